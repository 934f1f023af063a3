/- Written by shrink.py from texts of ours: comments struck, what is not reached left out, names short. -/
import Derived.Test.YtnoinnijgnfhiaaGreatDoorU1
import Derived.Recover
import Derived.AtR
import Derived.Orders
namespace Go.Am
open Go
set_option linter.unusedSimpArgs false
set_option linter.unusedVariables false
set_option linter.unusedSectionVars false
structure AD where
 k:FuncId
 args:List AV
def AD.star:AD:=⟨0,[.any,.any]⟩
def AD.isStar (d:AD):Bool:=match d.args with
 | [.any,.any]=>true
 | _=>false
inductive AU where
 | ret
 | pan (v:AV) (recovered:Bool)
inductive AR where
 | ret (v:AV)
 | panic (v:AV)
section
variable (h:Ab) (mu:Mu) (w:World)
def DRv (d:AD)(c:Deferred):Prop := ∃ cap,c.target=.fn (.func d.k) cap∧Ou h mu w d.args (c.args++cap).toList
def Ais (fb:Nat)(cs:List Deferred):Prop := ∃ bs:List Nat,bs.Nodup∧cs.map (·.target)=bs.map (fun b=>.collected b) ∧ ∀ b ∈ bs,b<w.heap.size∧¬ Ci h mu b∧fb≤b∧w.heap[b]? = some (.deferred (some []))
def Ry (fb:Nat):List AD→List Deferred→Prop
 | [],cs=>cs=[]
 | d::ds,cs=>match d.isStar with
  | true => ∃ c1 c2,cs=c1++c2∧Ais h mu w fb c1∧Ry fb ds c2
  | false => ∃ c c2,cs=c::c2∧DRv h mu w d c∧Ry fb ds c2
def S3:AU→FrameMode→Prop
 | .ret,.returning=>True
 | .pan v r,.panicking [e]=>e.recovered=r∧e.goexit=false∧RV h mu w v e.v
 | _,_=>False
def ERv:AR→Ending→Prop
 | .ret v,.returned c=>RV h mu w v c
 | .panic v,.panicked [e]=>e.recovered=false∧e.goexit=false∧RV h mu w v e.v
 | _,_=>False
end
section
variable {h h':Ab} {mu mu':Mu} {w w':World}
theorem Ou.ext (e:Da h mu w h' mu' w'){l:List AV}{cs:List Value}(k:Ou h mu w l cs):Ou h' mu' w' l cs:=⟨k.1,fun i hi=>(k.2 i hi).ext e⟩
theorem DRv.ext (e:Da h mu w h' mu' w'){d:AD}{c:Deferred}(k:DRv h mu w d c):DRv h' mu' w' d c:=by
 obtain⟨cap,h1,h2⟩:=k; exact⟨cap,h1,h2.ext e⟩
theorem Ais.ext (e:Da h mu w h' mu' w'){fb:Nat}{cs:List Deferred}(k:Ais h mu w fb cs):Ais h' mu' w' fb cs:=by
 obtain⟨bs,h1,h2,h3⟩:=k
 refine⟨bs,h1,h2,fun b hb=>?_⟩
 obtain⟨q1,q2,q3,q4⟩:=h3 b hb
 obtain⟨s1,s2⟩:=e.same b q1 q2
 exact⟨Nat.lt_of_lt_of_le q1 e.size,s2,q3,s1.trans q4⟩
theorem Ry.ext (e:Da h mu w h' mu' w'){fb:Nat} : ∀ {ds:List AD} {cs:List Deferred},Ry h mu w fb ds cs→Ry h' mu' w' fb ds cs
 | [],cs,k=>k
 | d::ds,cs,k=>by
  unfold Ry at k ⊢
  cases hs:d.isStar <;> rw [hs] at k
  ·obtain⟨c,c2,h1,h2,h3⟩:=k; exact⟨c,c2,h1,h2.ext e,Ry.ext e h3⟩
  ·obtain⟨c1,c2,h1,h2,h3⟩:=k; exact⟨c1,c2,h1,h2.ext e,Ry.ext e h3⟩
theorem S3.ext (e:Da h mu w h' mu' w'){u:AU}{m:FrameMode}(k:S3 h mu w u m):S3 h' mu' w' u m:=by
 unfold S3 at k ⊢
 split at k
 ·trivial
 ·exact⟨k.1,k.2.1,k.2.2.ext e⟩
 ·exact k.elim
end
theorem S3.pan_inv {h:Ab}{mu:Mu}{w:World}{v:AV}{r:Bool}{m:FrameMode}(k:S3 h mu w (.pan v r) m) : ∃ e,m=.panicking [e]∧e.recovered=r∧e.goexit=false∧RV h mu w v e.v:=by
 cases m with
 | run=>exact k.elim
 | returning=>exact k.elim
 | panicking c=>
  match c,k with
  | [e],k=>exact⟨e,rfl,k⟩
  | [],k=>exact k.elim
  | _::_::_,k=>exact k.elim
theorem S3.ret_inv {h:Ab}{mu:Mu}{w:World}{m:FrameMode}(k:S3 h mu w .ret m):m=.returning:=by
 cases m with
 | run=>exact k.elim
 | returning=>rfl
 | panicking c=>exact k.elim
theorem ERv.panic_inv {h:Ab}{mu:Mu}{w:World}{v:AV}{e:Ending}(k:ERv h mu w (.panic v) e) : ∃ x,e=.panicked [x]∧x.recovered=false∧x.goexit=false∧RV h mu w v x.v:=by
 cases e with
 | returned _=>exact k.elim
 | outgrown=>exact k.elim
 | panicked c=>
  match c,k with
  | [e],k=>exact⟨e,rfl,k⟩
  | [],k=>exact k.elim
  | _::_::_,k=>exact k.elim
structure FK where
 dfr:Bool
 ro:Option (Nat×Nat×Nat)
instance:Coe Bool FK:=⟨fun b=>⟨b,none⟩⟩
def KD (d:FK):CallKind:=if d.dfr then .deferred else .normal
def b0 (f:FuncId)(d:FK):Frame:={ (default:Frame) with fn:=f,kind:=KD d,roundOf:=d.ro.map (·.1) }
def Aeo (d:FK)(h:Ab)(mu:Mu)(w:World)(u:AU)(cs:List Frame):Prop:=
 match d.dfr with
 | true => ∃ c r,cs=c::r∧S3 h mu w u c.mode
 | false=>True
def Ars (d:FK)(h:Ab)(mu:Mu)(w:World)(u:AU)(cs cs':List Frame):Prop:=
 match d.dfr with
 | true => ∃ c r m,cs=c::r∧cs'={ c with mode:=m }::r∧S3 h mu w u m
 | false=>cs'=cs
structure Pre {P:Program}[GW P](n:Nat)(d:FK)(fr:Nat→AV)(ds:List AD)(h:Ab)(u:AU)(B:Base P)(mu:Mu)(w:World)(a:Act)(cs:List Frame):Prop where
 size:a.tmps.size=n
 fr:Ya h mu w fr a
 ds:Ry h mu w B.fb ds a.defers
 sim:Sim B mu h w
 cs:Aeo d h mu w u cs
 rnd : ∀ l o g,d.ro=some (l,o,g) → ∃ loc,mu o g=some loc∧loc.b=l
 fb:B.n≤B.fb∧B.fb≤w.heap.size
def jv:Code→Value
 | .ret=>.bool true
 | .exit id=>.int .u64 id
 | _=>undef
def jav:Code→AV
 | .ret=>.bool true
 | .exit id=>.int .u64 id
 | _=>.tup []
def Vq:Code→List Item→Bool
 | .ret,_=>true
 | .exit id,k=>(exitTo id k).isNone
 | _,_=>false
def Arb (P:Program)(d:FK)(frm:Frame)(w:World):Ending→Prop
 | .returned v=>match d.ro with
  | none=>frm.going P w (.returned v)
  | some (l,_)=>frm.roundOf=some l∧frm.mode=.run∧frm.defers=[]∧((v=undef∧frm.todo=[]) ∨ ∃ c k,frm.todo=.code c::k∧Vq c k=true∧v=jv c)
 | e=>frm.going P w e
abbrev QT:=AR→Ab→AU→Prop
def O4 (P:Program)[GW P](f:FuncId)(d:FK)(B:Base P)(h:Ab)(mu:Mu)(w:World)(cs:List Frame)(Q:QT)(m:Machine):Prop:=
 ∃ e w' cs' frm r h' mu' u',Q r h' u'∧Steps P m (lone frm cs' w')∧frm.fn=f∧frm.kind=KD d∧Arb P d frm w' e∧ERv h' mu' w' r e∧Sim B mu' h' w'∧Adz B.fb h mu w h' mu' w'∧Ars d h' mu' w' u' cs cs'
def Ex (P:Program)[GW P](f:FuncId)(n:Nat)(d:FK)(todo:List Item)(fr:Nat→AV)(ds:List AD)(h:Ab)(u:AU)(Q:QT):Prop:=
 ∀ (B:Base P) mu w a cs,Pre n d fr ds h u B mu w a cs→O4 P f d B h mu w cs Q (lone ((b0 f d).atR a todo) cs w)
def Sa (P:Program)[GW P](f:FuncId)(n:Nat)(d:FK)(m:AU)(fr:Nat→AV)(ds:List AD)(h:Ab)(u:AU)(Q:QT):Prop:=
 ∀ (B:Base P) mu w a cs todo mode,Pre n d fr ds h u B mu w a cs→S3 h mu w m mode→O4 P f d B h mu w cs Q (lone { (b0 f d).atR a todo with mode:=mode } cs w)
def Sz (P : Program) [GW P] (g : FuncId) : Prop := ∃ gf gc, P.funcs[g]? = some gf ∧ gf.body = some gc ∧ gf.name ≠ "runtime.NumGoroutine"
def Bm (P:Program)[GW P](f:FuncId)(args:List AV)(h:Ab)(Q:AR→Ab→Prop):Prop:=
 Sz P f ∧ ∀ (B:Base P) mu w (cargs:Array Value),Sim B mu h w→Ou h mu w args cargs.toList→Calls P f cargs w fun e w' => ∃ r h' mu',Q r h'∧Sim B mu' h' w'∧Da h mu w h' mu' w'∧ERv h' mu' w' r e
def Ajy (P:Program)[GW P](f:FuncId)(args:List AV)(m:AU)(h:Ab)(Q:QT):Prop:=
 Sz P f ∧ ∀ (B:Base P) mu w (cargs:Array Value) mode,Sim B mu h w→Ou h mu w args cargs.toList→S3 h mu w m mode →
  CallsD P f cargs mode w fun e mode' w' => ∃ r h' mu' m',Q r h' m'∧Sim B mu' h' w'∧Da h mu w h' mu' w'∧ERv h' mu' w' r e∧S3 h' mu' w' m' mode'
section
variable {P:Program} [GW P] {f:FuncId} {n:Nat} {d:FK} {fr:Nat→AV} {ds:List AD} {h:Ab} {u:AU} {Q:QT} {k:List Item}
theorem O4.head {B:Base P}{mu:Mu}{w:World}{cs:List Frame}{m m1:Machine}(hs:step P m=.next m1)(hp:O4 P f d B h mu w cs Q m1):O4 P f d B h mu w cs Q m:=
 let ⟨e,w',cs',frm,r,h',mu',u',h1,h2,h3⟩:=hp
 ⟨e,w',cs',frm,r,h',mu',u',h1,.head hs h2,h3⟩
theorem O4.steps {B:Base P}{mu:Mu}{w:World}{cs:List Frame}{m m1:Machine}(hs:Steps P m m1)(hp:O4 P f d B h mu w cs Q m1):O4 P f d B h mu w cs Q m:=
 let ⟨e,w',cs',frm,r,h',mu',u',h1,h2,h3⟩:=hp
 ⟨e,w',cs',frm,r,h',mu',u',h1,hs.trans h2,h3⟩
theorem O4.ext {B:Base P}{mu mu1:Mu}{w w1:World}{h1:Ab}{cs:List Frame}{m:Machine}(he:Da h mu w h1 mu1 w1)(hp:O4 P f d B h1 mu1 w1 cs Q m):O4 P f d B h mu w cs Q m:=
 let ⟨e,w',cs',frm,r,h',mu',u',a1,a2,a3,a4,a5,a6,a7,a8,a9⟩:=hp
 ⟨e,w',cs',frm,r,h',mu',u',a1,a2,a3,a4,a5,a6,a7,he.g.trans a8,a9⟩
theorem O4.extG {B:Base P}{mu mu1:Mu}{w w1:World}{h1:Ab}{cs:List Frame}{m:Machine}(he:Adz B.fb h mu w h1 mu1 w1)(hp:O4 P f d B h1 mu1 w1 cs Q m):O4 P f d B h mu w cs Q m:=
 let ⟨e,w',cs',frm,r,h',mu',u',a1,a2,a3,a4,a5,a6,a7,a8,a9⟩:=hp
 ⟨e,w',cs',frm,r,h',mu',u',a1,a2,a3,a4,a5,a6,a7,he.trans a8,a9⟩
theorem O4.mode {B:Base P}{mu:Mu}{w:World}{c:Frame}{r:List Frame}{m:FrameMode}{mm:Machine}(hd:d=true)(hp:O4 P f d B h mu w ({ c with mode:=m }::r) Q mm):O4 P f d B h mu w (c::r) Q mm:=by
 subst hd
 obtain⟨e,w',cs',frm,rr,h',mu',u',a1,a2,a3,a4,a5,a6,a7,a8,a9⟩:=hp
 obtain⟨c1,r1,m1,e1,e2,e3⟩:=a9
 cases e1
 exact⟨e,w',cs',frm,rr,h',mu',u',a1,a2,a3,a4,a5,a6,a7,a8,⟨c,r,m1,rfl,e2,e3⟩⟩
theorem Aeo.ext {h':Ab}{mu mu':Mu}{w w':World}{cs:List Frame}(e:Da h mu w h' mu' w')(k:Aeo d h mu w u cs):Aeo d h' mu' w' u cs:=by
 obtain⟨q,ro⟩:=d
 cases q with
 | false=>trivial
 | true=>obtain⟨c,r,h1,h2⟩:=k; exact⟨c,r,h1,h2.ext e⟩
theorem Pre.ext {B:Base P}{mu mu':Mu}{w w':World}{a:Act}{cs:List Frame}{h':Ab}(p:Pre n d fr ds h u B mu w a cs)(e:Da h mu w h' mu' w')(s:Sim B mu' h' w'):Pre n d fr ds h' u B mu' w' a cs:=
 ⟨p.size,fun t=>(p.fr t).ext e,p.ds.ext e,s,p.cs.ext e,fun l o g hr=>let ⟨loc,h1,h2⟩:=p.rnd l o g hr; ⟨loc,e.mu _ _ _ h1,h2⟩,p.fb.1,Nat.le_trans p.fb.2 e.size⟩
def Fu (fr:Nat→AV)(dst:Option Tmp)(v:AV):Nat→AV:=
 match dst with
 | some t=>upd fr t v
 | none=>fr
def Fp (n:Nat)(dst:Option Tmp):Bool:=
 match dst with
 | some t=>decide (t<n)
 | none=>true
theorem Pre.put {B:Base P}{mu:Mu}{w:World}{a:Act}{cs:List Frame}(p:Pre n d fr ds h u B mu w a cs){dst:Option Tmp}(hd:Fp n dst=true){v:AV}{c:Value}(hv:RV h mu w v c):Pre n d (Fu fr dst v) ds h u B mu w (a.put dst c) cs:=by
 cases dst with
 | none=>exact p
 | some t=>
  have ht:t<n:=by simpa [Fp] using hd
  refine⟨by simp [Act.put,p.size],fun i=>?_,p.ds,p.sim,p.cs,p.rnd,p.fb⟩
  simp only [Fu,upd,Act.put]
  by_cases hi:i=t
  ·subst hi
   simp [p.size,ht]
   exact hv
  ·rw [if_neg hi]
   have:=p.fr i
   simpa [Array.getD_eq_getD_getElem?,Array.getElem?_setIfInBounds_ne (Ne.symm hi)] using this
theorem Oo {todo todo':List Item}(hs : ∀ a cs w,step P (lone ((b0 f d).atR a todo) cs w)=.next (lone ((b0 f d).atR a todo') cs w))(hr:Ex P f n d todo' fr ds h u Q):Ex P f n d todo fr ds h u Q:=
 fun B mu w a cs p=>.head (hs a cs w) (hr B mu w a cs p)
theorem Ase (hr:Ex P f n d k fr ds h u Q):Ex P f n d (.code .skip::k) fr ds h u Q:=Oo (fun _ _ _=>stepR_skip) hr
theorem Atm {x y:Code}(hr:Ex P f n d (.code x::.code y::k) fr ds h u Q):Ex P f n d (.code (.seq x y)::k) fr ds h u Q:=Oo (fun _ _ _=>stepR_seq) hr
theorem Aox {id:Nat}{c:Code}(hr:Ex P f n d (.code c::.inBlock id::k) fr ds h u Q):Ex P f n d (.code (.block id c)::k) fr ds h u Q:=Oo (fun _ _ _=>stepR_block) hr
theorem Alj {id:Nat}(hr:Ex P f n d k fr ds h u Q):Ex P f n d (.inBlock id::k) fr ds h u Q:=Oo (fun _ _ _=>stepR_inBlock) hr
theorem Ad0 {c:Code}(hr:Ex P f n d (.inLoop c::k) fr ds h u Q):Ex P f n d (.code (.loop c)::k) fr ds h u Q:=by
 intro B mu w a cs p
 obtain⟨e,w',cs',frm,r,h',mu',u',a1,a2,a3,a4,a5⟩:=hr B mu w a cs p
 obtain⟨m,hm⟩:=a2
 cases m with
 | zero=>
  simp [runN] at hm
  exfalso
  have h5:=a5.1
  have hE:=a5.2.1
  have:frm=(b0 f d).atR a (.inLoop c::k):=by
   have:=congrArg (fun m:Machine=>m.gs[0]?.map (·.frame)) hm
   simpa [lone] using this.symm
  subst this
  cases e with
  | outgrown=>cases r <;> exact hE.elim
  | returned v=>
   simp only [Arb] at h5
   split at h5
   ·exact absurd h5.1 (by simp [Frame.atR])
   ·rcases h5.2.2.2 with⟨_,h6⟩ | ⟨c',k',h6,_⟩ <;> simp [Frame.atR] at h6
  | panicked c=>exact absurd h5.1 (by simp [Frame.atR])
 | succ m=>
  simp only [runN,stepR_inLoop] at hm
  refine⟨e,w',cs',frm,r,h',mu',u',a1,.head stepR_loop ⟨m,hm⟩,a3,a4,a5⟩
theorem Ve {c:Code}(hr:Ex P f n d (.code c::.inLoop c::k) fr ds h u Q):Ex P f n d (.inLoop c::k) fr ds h u Q:=Oo (fun _ _ _=>stepR_inLoop) hr
theorem Ara {id:Nat}{k':List Item}(he:exitTo id k=some k')(hr:Ex P f n d k' fr ds h u Q):Ex P f n d (.code (.exit id)::k) fr ds h u Q:=Oo (fun _ _ _=>stepR_exit he) hr
theorem Sk {c:Operand}{x y:Code}{b:Bool}(hc:ev fr c=.bool b)(hr:Ex P f n d (.code (if b then x else y)::k) fr ds h u Q):Ex P f n d (.code (.cond c x y)::k) fr ds h u Q:=by
 intro B mu w a cs p
 have:=On p.fr c
 rw [hc] at this
 cases hq:a.eval c <;> rw [hq] at this <;> cases this
 exact .head (stepR_cond hq) (hr B mu w a cs p)
theorem Aee {todo:List Item}{Q':QT}(hr:Ex P f n d todo fr ds h u Q)(hq : ∀ r h u,Q r h u→Q' r h u):Ex P f n d todo fr ds h u Q':=fun B mu w a cs p=>
 let ⟨e,w',cs',frm,r,h',mu',u',a1,a2⟩:=hr B mu w a cs p
 ⟨e,w',cs',frm,r,h',mu',u',hq _ _ _ a1,a2⟩
theorem Atu {todo:List Item}{h':Ab}(hs:G4 h' h)(hr:Ex P f n d todo fr ds h' u Q):Ex P f n d todo fr ds h u Q:=fun B mu w a cs p=>
 (hr B mu w a cs (p.ext (Da.sub hs) (p.sim.sub hs))).ext (Da.sub hs)
def J3 (P:Program)[GW P](h:Ab)(fr:Nat→AV):List ResultVar→Option (List AV)
 | []=>some []
 | .tmp t::r=>(J3 P h fr r).map (fr t :: ·)
 | .cell a t::r=>match Pq P h t (fr a),J3 P h fr r with
  | some v,some l=>some (v::l)
  | _,_=>none
def Ku:List AV→AV
 | [v]=>v
 | l=>.tup l
def Abl (a:Act):ResultVar→Sem Value
 | .tmp t=>pure (a.tmps.getD t undef)
 | .cell ad t=>do loadVar t (← asAddr (a.tmps.getD ad undef))
theorem Abo {B:Base P}{mu:Mu}{w:World}(s:Sim B mu h w){a:Act}(hf:Ya h mu w fr a) : ∀ (l:List ResultVar) {vs:List AV},J3 P h fr l=some vs →
  ∃ cs:List Value,(l.mapM (Abl a)).run P w=.ok cs w∧Ou h mu w vs cs
 | [],vs,hx=>by simp [J3] at hx; subst hx; exact⟨[],rfl,rfl,fun i hi=>by simp at hi⟩
 | .tmp t::r,vs,hx=>by
  cases hq:J3 P h fr r with
  | none=>simp [J3,hq] at hx
  | some l=>
   simp [J3,hq] at hx; subst hx
   obtain⟨cs,h1,h2,h3⟩:=Abo s hf r hq
   refine⟨a.tmps.getD t undef::cs,?_,by simp [h2],fun i hi=>?_⟩
   ·simp only [List.mapM_cons,Abl,Sem.run_bind,Sem.run_pure,Result.andThen_ok,h1]
   ·cases i with
    | zero=>simpa using hf t
    | succ i=>simpa using h3 i (by simpa using hi)
 | .cell ad t::r,vs,hx=>by
  simp only [J3] at hx
  split at hx
  ·rename_i v l hv hl
   cases hx
   obtain⟨cs,h1,h2,h3⟩:=Abo s hf r hl
   obtain⟨y,y1,y2⟩:=Ae6 (P:=P) s (hf ad) hv
   refine⟨y::cs,?_,by simp [h2],fun i hi=>?_⟩
   ·have hy:(Abl a (.cell ad t)).run P w=.ok y w:=by
     show(do loadVar t (← asAddr (a.tmps.getD ad undef)):Sem Value).run P w=_
     generalize a.tmps.getD ad undef=c at y1 ⊢
     cases c with
     | pointer o=>
      cases o with
      | none=>simp [Instr.loadAt,Instr.sureAddr] at y1
      | some o=>simpa [Instr.loadAt,Instr.sureAddr,asAddr] using y1
     | _=>simp [Instr.loadAt,Instr.sureAddr] at y1
    simp only [List.mapM_cons,Sem.run_bind,hy,Sem.run_pure,Result.andThen_ok,h1]
   ·cases i with
    | zero=>simpa using y2
    | succ i=>simpa using h3 i (by simpa using hi)
  ·cases hx
theorem Aon (fn:Func)(a:Act):results fn a.tmps=(do let vs ← fn.results.mapM (Abl a); pure (if h:vs.size=1 then vs[0] else .tuple vs)):=by
 unfold results
 congr 1
theorem Vy {B:Base P}{mu:Mu}{w:World}(s:Sim B mu h w){a:Act}(hf:Ya h mu w fr a){fn:Func}{vs:List AV}(hx:J3 P h fr fn.results.toList=some vs) :
  ∃ c,(results fn a.tmps).run P w=.ok c w∧RV h mu w (Ku vs) c:=by
 obtain⟨cs,h1,h2,h3⟩:=Abo s hf fn.results.toList hx
 have hm:(fn.results.mapM (Abl a)).run P w=.ok cs.toArray w:=by
  rw [Array.mapM_eq_mapM_toList]
  simp [h1]
 refine⟨if h:cs.toArray.size=1 then cs.toArray[0] else .tuple cs.toArray,?_,?_⟩
 ·rw [Aon]
  simp only [Sem.run_bind,hm,Result.andThen_ok,Sem.run_pure]
 ·match vs,cs,h2,h3 with
  | [],[],_,_=>simpa [Ku] using Rv.tup (w:=w) (mu:=mu) (M:=Ci h mu) [] [] rfl (fun i hi=>by simp at hi)
  | [v],[c],_,h3=>simpa [Ku] using h3 0 (by simp)
  | v::v'::vs,c::c'::cs,h2,h3=>
   have:=Rv.tup (w:=w) (mu:=mu) (M:=Ci h mu) _ _ h2 h3
   simpa [Ku] using this
theorem Ys (hu:Sa P f n d .ret fr ds h u Q)(hro:d.ro=none:=by rfl):Ex P f n d (.code .ret::k) fr ds h u Q:=fun B mu w a cs p=>
 .head (stepR_ret (by simp [b0,hro])) (hu B mu w a cs _ _ p trivial)
theorem Agt (hu:Sa P f n d .ret fr ds h u Q)(hro:d.ro=none:=by rfl):Ex P f n d [] fr ds h u Q:=fun B mu w a cs p=>
 .head (stepR_end (by simp [b0,hro])) (hu B mu w a cs _ _ p trivial)
theorem Ars.refl {mu:Mu}{w:World}{cs:List Frame}(hc:Aeo d h mu w u cs):Ars d h mu w u cs cs:=by
 obtain⟨q,ro⟩:=d
 cases q with
 | false=>rfl
 | true=>obtain⟨c,r,h1,h2⟩:=hc; exact⟨c,r,c.mode,h1,h1,h2⟩
theorem Aug {fn:Func}{vs:List AV}(hf:P.funcs[f]? = some fn)(hx:J3 P h fr fn.results.toList=some vs)(hq:Q (.ret (Ku vs)) h u)(hro:d.ro=none:=by rfl):Sa P f n d .ret fr [] h u Q:=by
 intro B mu w a cs todo mode p hm
 obtain⟨c,h1,h2⟩:=Vy p.sim p.fr hx
 have hd:a.defers=[]:=p.ds
 have hmode:=hm.ret_inv
 exact⟨.returned c,w,cs,_,.ret (Ku vs),h,mu,u,hq,Steps.refl P _,rfl,rfl,(by simp only [Arb,hro]; exact⟨hmode,hd,fn,hf,h1⟩),h2,p.sim,(Ext.refl _ _ _).g,.refl p.cs⟩
theorem Aub {fn:Func}{v:AV}(hf:P.funcs[f]? = some fn)(hq:Q (.panic v) h u):Sa P f n d (.pan v false) fr [] h u Q:=by
 intro B mu w a cs todo mode p hm
 have hd:a.defers=[]:=p.ds
 obtain⟨e,rfl,e1,e2,e3⟩:=hm.pan_inv
 exact⟨.panicked [e],w,cs,_,.panic v,h,mu,u,hq,Steps.refl P _,rfl,rfl,⟨rfl,hd,fn,hf⟩,⟨e1,e2,e3⟩,p.sim,(Ext.refl _ _ _).g,.refl p.cs⟩
end
end Go.Am
namespace Go.Am
open Go
set_option linter.unusedSimpArgs false
set_option linter.unusedVariables false
set_option linter.unusedSectionVars false
section
variable {P:Program} [GW P] {b:Frame} {a:Act} {k:List Item} {cs:List Frame} {w w':World} {ops:Array Oper} {i:Nat} {rest:List Nat} {o:Oper}
theorem Zh (ho:ops[i]? = some o)(v:Value):(b.atR a (.inRegion ops (i::rest)::k)).finish v=b.atR (a.put o.dst v) (.inRegion ops rest::k):=by
 rw [Frame.finish_atR,ho]; rfl
theorem Asv (ho:ops[i]? = some o)(hw:Region.wanted o (yielded ops a.tmps)=true){v:Value}(hr:(o.semAt b.roundOf a.eval).run P w=.ok (.value v) w') :
  step P (lone (b.atR a (.inRegion ops (i::rest)::k)) cs w)=.next (lone (b.atR (a.put o.dst v) (.inRegion ops rest::k)) cs w'):=by
 refine step_lone_go ?_
 rw [stepGR_op ho hw,← Zh ho]
 simp [stepG.apply,hr]
theorem Aj3 (ho:ops[i]? = some o)(hw:Region.wanted o (yielded ops a.tmps)=true)(hr:(o.semAt b.roundOf a.eval).run P w=.ok .skip w') :
  step P (lone (b.atR a (.inRegion ops (i::rest)::k)) cs w)=.next (lone (b.atR (a.put o.dst undef) (.inRegion ops rest::k)) cs w'):=by
 refine step_lone_go ?_
 rw [stepGR_op ho hw,← Zh ho]
 simp [stepG.apply,hr]
theorem Ajf (ho:ops[i]? = some o)(hw:Region.wanted o (yielded ops a.tmps)=true){d:Deferred}(hr:(o.semAt b.roundOf a.eval).run P w=.ok (.defer d) w') :
  step P (lone (b.atR a (.inRegion ops (i::rest)::k)) cs w)=.next (lone (b.atR ({ a with defers:=d::a.defers }.put o.dst undef) (.inRegion ops rest::k)) cs w'):=by
 refine step_lone_go ?_
 have:({ b.atR a (.inRegion ops (i::rest)::k) with defers:=d::a.defers }:Frame).finish undef=b.atR ({ a with defers:=d::a.defers }.put o.dst undef) (.inRegion ops rest::k):=by
  have:=Frame.finish_atR b { a with defers:=d::a.defers } ops i rest k undef
  rw [ho] at this; exact this
 rw [stepGR_op ho hw]; simp only [stepG.apply,Sem.runT_eq,hr,GStep.bare_after]
 exact congrArg (fun fr=>GStep.go { frame:=fr,callers:=cs,status:=.running,dying:=none } w') this
theorem Aiy (ho:ops[i]? = some o)(hw:Region.wanted o (yielded ops a.tmps)=true){g:FuncId}{args:Array Value}(hr:(o.semAt b.roundOf a.eval).run P w=.ok (.enter g args) w') :
  step P (lone (b.atR a (.inRegion ops (i::rest)::k)) cs w)=.next (lone (Frame.enter P g args .normal) (b.atR a (.inRegion ops (i::rest)::k)::cs) w'):=by
 refine step_lone_go ?_
 rw [stepGR_op ho hw]
 simp [stepG.apply,hr,Frame.atR]
theorem Akn (ho:ops[i]? = some o)(hw:Region.wanted o (yielded ops a.tmps)=true){l:Nat}{f:FuncId}{tmps:Array Value}{assign body:Code}(hr:(o.semAt b.roundOf a.eval).run P w=.ok (.round l f tmps assign body) w') :
  step P (lone (b.atR a (.inRegion ops (i::rest)::k)) cs w)=.next (lone (Frame.round l f tmps assign body .normal) (b.atR a (.inRegion ops (i::rest)::k)::cs) w'):=by
 refine step_lone_go ?_
 rw [stepGR_op ho hw]
 simp [stepG.apply,hr,Frame.atR]
theorem Ajx (ho:ops[i]? = some o)(hw:Region.wanted o (yielded ops a.tmps)=true){v:Value}(hr:(o.semAt b.roundOf a.eval).run P w=.halt (.panic v) w') :
  step P (lone (b.atR a (.inRegion ops (i::rest)::k)) cs w)=.next (lone { b.atR a (.inRegion ops (i::rest)::k) with mode:=.panicking [{ v,recovered:=false }] } cs w'):=by
 refine step_lone_go ?_
 rw [stepGR_op ho hw,← Frame.raise_atR]
 simp [stepG.apply,hr]
theorem Yw (ho:ops[i]? = some o)(hw:Region.wanted o (yielded ops a.tmps)=true)(hb:b.kind=.deferred)(hro:b.roundOf=none)(hr:(execOp a.eval o).run P w=.ok .recover w') :
  step P (lone (b.atR a (.inRegion ops (i::rest)::k)) cs w)=.next (match recoverD cs with
   | some (v,cs')=>lone (b.atR (a.put o.dst v) (.inRegion ops rest::k)) cs' w'
   | none=>lone (b.atR (a.put o.dst .nilIface) (.inRegion ops rest::k)) cs w'):=by
 have hk:(b.atR a (.inRegion ops (i::rest)::k)).kind=.deferred:=hb
 have htr:=tryRecover_deferred hk cs
 cases hq:recoverD cs with
 | none=>
  rw [hq] at htr
  refine step_lone_go ?_
  rw [stepGR_op ho hw,hro,Oper.semAt_none,← Zh ho]
  simp only [Frame.atR,hro] at htr ⊢
  simp [stepG.apply,hr,htr,hro]
 | some x=>
  obtain⟨v,cs'⟩:=x
  rw [hq] at htr
  refine step_lone_go ?_
  rw [stepGR_op ho hw,hro,Oper.semAt_none,← Zh ho]
  simp only [Frame.atR,hro] at htr ⊢
  simp [stepG.apply,hr,htr,hro]
end
def D2 (all:List Oper)(fr:Nat→AV)(o:Oper):Option Bool:=
 match o.guard with
 | none=>some true
 | some (j,want)=>match (all[j]?).bind (·.dst) with
  | none=>some false
  | some t=>match fr t with
   | .bool b=>some (b==want)
   | .tup _=>some false
   | _=>none
def Ae0 (P:Program)[GW P](g:FuncId)(args:List AV)(h:Ab)(K E:AV→Ab→Prop):Prop:=
 Bm P g args h fun r h'=>match r with
  | .ret v=>K v h'
  | .panic v=>E v h'
def Y0 (P:Program)[GW P](y:YF)(o g:Nat)(args:List AV)(h:Ab)(K E:AV→Ab→Prop):Prop:=
 ∀ (B:Base P) mu w (loc:Loc) (cargs:Array Value),Sim B mu h w→mu o g=some loc→y.F w mu (Ci h mu) loc.b→Ou h mu w args cargs.toList →
  ∃ r,w.heap[loc.b]? = some (.loop r)∧cargs.size=r.params.size ∧ ∀ (c:Frame) (cs:List Frame),∃ e w' res h' mu',(match res with | .ret v=>K v h' | .panic v=>E v h')∧Sim B mu' h' w'∧Da h mu w h' mu' w'∧ERv h' mu' w' res e ∧
   match e with
   | .returned v=>Steps P (lone (Frame.round loc.b r.fn ((r.params.zip cargs).foldl (fun tmps (t,a)=>tmps.setIfInBounds t a) r.tmps) r.assign r.body .normal) (c::cs) w) (lone (c.finish v) cs w')
   | .panicked chain=>Steps P (lone (Frame.round loc.b r.fn ((r.params.zip cargs).foldl (fun tmps (t,a)=>tmps.setIfInBounds t a) r.tmps) r.assign r.body .normal) (c::cs) w) (lone (c.raise chain) cs w')
   | .outgrown=>False
abbrev KT:=(Nat→AV)→List AD→Ab→AU→Prop
def Ho (P:Program)[GW P](d:FK)(U:AV→KT)(fr:Nat→AV)(ds:List AD)(h:Ab)(u:AU)(op:Op)(K:AV→List AD→Ab→AU→Prop):Prop:=
 match op with
 | .call ⟨.value x,args,_⟩=>match ev fr x with
  | .func (.func g) first cap=>Ae0 P g (first++E4 fr args.toList++cap) h (fun v h'=>K v ds h' u) (fun v h'=>U v fr ds h' u)
  | .yld y o g=>Y0 P y o g (E4 fr args.toList) h (fun v h'=>K v ds h' u) (fun v h'=>U v fr ds h' u)
  | _=>False
 | .call ⟨.builtin .recover,_,_⟩=>match u with
  | .pan v false=>d=(true:Bool)∧K v ds h (.pan v true)
  | .ret=>d=(true:Bool)∧K .nili ds h .ret
  | _=>False
 | .defer ⟨.value x,args,_⟩=>match ev fr x with
  | .func (.func g) first cap=>d.ro=none∧AD.isStar ⟨g,first++E4 fr args.toList++cap⟩=false∧K .und (⟨g,first++E4 fr args.toList++cap⟩::ds) h u
  | _=>False
 | .panic x=>match ev fr x with
  | .iface t v=>U (.iface t v) fr ds h u
  | _=>False
 | op=>C5 P fr h op (fun v h'=>K v ds h' u)
def Anr (P:Program)[GW P](n:Nat)(d:FK)(all:List Oper)(K:KT)(U:AV→KT):List Oper→(Nat→AV)→List AD→Ab→AU→Prop
 | [],fr,ds,h,u=>K fr ds h u
 | o::r,fr,ds,h,u=>Fp n o.dst=true∧match D2 all fr o with
  | none=>False
  | some false=>Anr P n d all K U r (Fu fr o.dst .und) ds h u
  | some true=>Ho P d U fr ds h u o.op (fun v ds' h' u'=>Anr P n d all K U r (Fu fr o.dst v) ds' h' u')
section
variable {P:Program} [GW P] {f:FuncId} {n:Nat} {d:FK} {fr:Nat→AV} {ds:List AD} {h:Ab} {u:AU} {Q:QT} {k:List Item}
theorem Abi {B:Base P}{mu:Mu}{w:World}{a:Act}{ops:Array Oper}{o:Oper}{b:Bool}(hf:Ya h mu w fr a)(hx:D2 ops.toList fr o=some b):Region.wanted o (yielded ops a.tmps)=b:=by
 unfold D2 at hx
 unfold Region.wanted
 split at hx
 ·rename_i hg; cases hx; rw [hg]
 ·rename_i j want hg
  rw [hg]
  simp only
  unfold yielded
  rw [Array.getElem?_toList] at hx
  split at hx
  ·rename_i hq
   cases hx
   rw [hq]; rfl
  ·rename_i t hq
   rw [hq]
   have ht:=hf t
   simp only [Option.bind_some]
   cases hc:a.tmps[t]? with
   | none=>
    have he:a.tmps.getD t undef=undef:=by simp [hc]
    rw [he] at ht
    split at hx
    ·rename_i b' hb; rw [hb] at ht; cases ht
    ·cases hx; rfl
    ·cases hx
   | some c=>
    have he:a.tmps.getD t undef=c:=by simp [hc]
    rw [he] at ht
    split at hx
    ·rename_i b' hb
     rw [hb] at ht; cases ht
     cases hx
     simp
    ·rename_i l hb
     rw [hb] at ht; cases ht
     cases hx; rfl
    ·cases hx
theorem Ak2 {ρ:Operand→Value}{x:Operand}{args ts:Array _}{ty:TypeId}{l:Nat}{r:Loop}{w:World}(hx:ρ x=.func (.yield l) #[] #[])(hb:w.heap[l]? = some (.loop r))(hs:args.size=r.params.size) :
  ((resolve ρ ⟨.value x,args,ts⟩ ty) >>= fun d=>invoke d.target d.args).run P w=.ok (.round l r.fn ((r.params.zip (args.map ρ)).foldl (fun tmps (t,a)=>tmps.setIfInBounds t a) r.tmps) r.assign r.body) w:=by
 simp [resolve,hx,Deferred.ofValue,invoke,Instr.yield,Instr.getLoop,getObj,Sem.run,hb,hs]
theorem Adq {ρ:Operand→Value}{x:Operand}{args ts:Array _}{ty:TypeId}{g:FuncId}{f1 c1:Array Value}{w:World}(hx:ρ x=.func (.func g) f1 c1)(hb:Sz P g) :
  ((resolve ρ ⟨.value x,args,ts⟩ ty) >>= fun d=>invoke d.target d.args).run P w=.ok (.enter g (f1++args.map ρ++c1)) w:=by
 obtain⟨gf,gc,h1,h2,h3⟩:=hb
 simp [resolve,hx,Deferred.ofValue,invoke,callFunc,h1,h2,h3]
theorem Ou.append {mu:Mu}{w:World}{l1 l2:List AV}{c1 c2:List Value}(h1:Ou h mu w l1 c1)(h2:Ou h mu w l2 c2):Ou h mu w (l1++l2) (c1++c2):=by
 refine⟨by simp [h1.1,h2.1],fun i hi=>?_⟩
 by_cases hlt:i<l1.length
 ·have:=h1.2 i hlt
  rw [show(l1++l2).getD i .und=l1.getD i .und by simp [List.getD,List.getElem?_append_left hlt],show(c1++c2).getD i undef=c1.getD i undef by simp [List.getD,List.getElem?_append_left (h1.1 ▸ hlt)]]
  exact this
 ·have hi2:i - l1.length<l2.length:=by simp at hi; omega
  have:=h2.2 _ hi2
  rw [show(l1++l2).getD i .und=l2.getD (i - l1.length) .und by simp [List.getD,List.getElem?_append_right (Nat.le_of_not_lt hlt)],
   show(c1++c2).getD i undef=c2.getD (i - l1.length) undef by rw [h1.1] at hlt ⊢; simp [List.getD,List.getElem?_append_right (Nat.le_of_not_lt hlt)]]
  exact this
theorem Aeg {mu:Mu}{w:World}{fn:Fn}{f1 c1:List AV}{c:Value}(hv:RV h mu w (.func fn f1 c1) c) : ∃ f2 c2:List Value,c=.func fn f2.toArray c2.toArray∧Ou h mu w f1 f2∧Ou h mu w c1 c2:=by
 cases hv with
 | func _ _ _ f2 c2 hf hc h1 h2=>exact⟨f2,c2,rfl,⟨hf,h1⟩,⟨hc,h2⟩⟩
theorem Abm {ops:Array Oper}{i:Nat}{o:Oper}{rest':List Nat}{fr:Nat→AV}{ds:List AD}{h:Ab}{u:AU}(ho:ops[i]? = some o)(hdst:Fp n o.dst=true)(hwt:D2 ops.toList fr o=some true)
  (hx:Ho P d (fun v fr ds h u=>Sa P f n d (.pan v false) fr ds h u Q) fr ds h u o.op (fun v ds' h' u'=>Ex P f n d (.inRegion ops rest'::k) (Fu fr o.dst v) ds' h' u' Q)):Ex P f n d (.inRegion ops (i::rest')::k) fr ds h u Q:=by
 intro B mu w a cs p
 have hw:=Abi (B:=B) p.fr hwt
 have valued : ∀ {K:AV→Ab→Prop},C5 P fr h o.op K→(∀ v h',K v h'→Ex P f n d (.inRegion ops rest'::k) (Fu fr o.dst v) ds h' u Q)→O4 P f d B h mu w cs Q (lone ((b0 f d).atR a (.inRegion ops (i::rest')::k)) cs w):=by
  intro K hK hn
  obtain⟨nx,w',x,h',mu',r1,r2,r3,r4,r5⟩:=Ao2 p.sim p.fr hK
  have p2:=p.ext r5 r4
  rw [← Oper.semAt_eq (b0 f d).roundOf a.eval o (fun c hc=>by rw [hc] at hK; exact hK.elim)] at r1
  rcases r2 with⟨c,rfl,hc⟩ | ⟨rfl,rfl⟩
  ·exact .ext r5 (.head (Asv ho hw r1) (hn x h' r3 B mu' w' _ cs (p2.put hdst hc)))
  ·exact .ext r5 (.head (Aj3 ho hw r1) (hn _ h' r3 B mu' w' _ cs (p2.put hdst Rv.und)))
 obtain⟨dst,op,ty,pos,after,guard⟩:=o
 simp only at hx hdst valued
 unfold Ho at hx
 split at hx
 ·rename_i x args ts
  split at hx
  ·rename_i g first cap hev
   obtain⟨hb,hcall⟩:=hx
   have hxv:=On p.fr x
   rw [hev] at hxv
   obtain⟨f2,c2,hfv,hf2,hc2⟩:=Aeg hxv
   have hrun:(execOp a.eval ⟨dst,.call ⟨.value x,args,ts⟩,ty,pos,after,guard⟩).run P w=.ok (.enter g (f2.toArray++args.map a.eval++c2.toArray)) w:=Adq hfv hb
   have hargs:Ou h mu w (first++E4 fr args.toList++cap) (f2.toArray++args.map a.eval++c2.toArray).toList:=by
    simp only [Array.toList_append,Array.toList_map]
    exact(hf2.append (Sp p.fr args.toList)).append hc2
   have hen:=Aiy (b:=b0 f d) (rest:=rest') (k:=k) (cs:=cs) ho hw (by rw [Oper.semAt_eq _ _ _ (fun c hc=>by simp at hc)]; exact hrun)
   obtain⟨e,w',frm,⟨res,h',mu',hQ,hs',hext,hE⟩,hcomes,hfn,hleave⟩:=hcall B mu w _ p.sim hargs ((b0 f d).atR a (.inRegion ops (i::rest')::k)::cs)
   have p2:=p.ext hext hs'
   cases e with
   | outgrown=>cases res <;> exact hE.elim
   | returned c=>
    cases res with
    | panic v=>exact hE.elim
    | ret v=>
     have hfin:=step_leave_returned hleave (c:=(b0 f d).atR a (.inRegion ops (i::rest')::k)) (cs:=cs)
     rw [Zh ho] at hfin
     exact .ext hext (.steps (.head hen (Steps.trans hcomes (.one hfin))) (hQ B mu' w' _ cs (p2.put hdst hE)))
   | panicked chain=>
    cases res with
    | ret v=>exact hE.elim
    | panic v=>
     have hfin:=step_leave_panicked hleave (c:=(b0 f d).atR a (.inRegion ops (i::rest')::k)) (cs:=cs)
     obtain⟨x',hx',x1,x2,x3⟩:=hE.panic_inv
     cases hx'
     exact .ext hext (.steps (.head hen (Steps.trans hcomes (.one hfin))) (hQ B mu' w' a cs _ _ p2 ⟨x1,x2,x3⟩))
  ·rename_i y oo gg hev
   have hxv:=On p.fr x
   rw [hev] at hxv
   generalize hcx:a.eval x=cx at hxv
   cases hxv with
   | yld _ _ _ loc hl hy=>
    have hargs:Ou h mu w (E4 fr args.toList) (args.map a.eval).toList:=by
     simp only [Array.toList_map]
     exact Sp p.fr args.toList
    obtain⟨r,hb,hsz,hgo⟩:=hx B mu w loc _ p.sim hl hy hargs
    have hrun:(execOp a.eval ⟨dst,.call ⟨.value x,args,ts⟩,ty,pos,after,guard⟩).run P w=_:=Ak2 (args:=args) (ts:=ts) (ty:=ty) hcx hb (by simpa using hsz)
    have hen:=Akn (b:=b0 f d) (rest:=rest') (k:=k) (cs:=cs) ho hw (by rw [Oper.semAt_eq _ _ _ (fun c hc=>by simp at hc)]; exact hrun)
    obtain⟨e,w',res,h',mu',hQ,hs',hext,hE,hst⟩:=hgo ((b0 f d).atR a (.inRegion ops (i::rest')::k)) cs
    have p2:=p.ext hext hs'
    cases e with
    | outgrown=>exact hst.elim
    | returned c=>
     cases res with
     | panic v=>exact hE.elim
     | ret v=>
      simp only at hst
      rw [Zh ho] at hst
      exact .ext hext (.steps (.head hen hst) (hQ B mu' w' _ cs (p2.put hdst hE)))
    | panicked chain=>
     cases res with
     | ret v=>exact hE.elim
     | panic v=>
      obtain⟨x',hx',x1,x2,x3⟩:=hE.panic_inv
      cases hx'
      simp only at hst
      rw [Frame.raise_atR] at hst
      exact .ext hext (.steps (.head hen hst) (hQ B mu' w' a cs _ _ p2 ⟨x1,x2,x3⟩))
  ·exact hx.elim
 ·rename_i args ts
  split at hx
  ·rename_i v
   obtain⟨hd,hx⟩:=hx
   have hcs:Aeo true h mu w (.pan v false) cs:=hd ▸ p.cs
   obtain⟨c,rr,rfl,hU⟩:=hcs
   obtain⟨en,hm,e1,e2,e3⟩:=hU.pan_inv
   obtain⟨en1,en2,en3⟩:=en
   simp only at e1 e2 e3
   subst e1; subst e2
   have hrun:(execOp a.eval ⟨dst,.call ⟨.builtin .recover,args,ts⟩,ty,pos,after,guard⟩).run P w=.ok .recover w:=by simp [execOp,resolve,invoke,builtin]
   have hst:=Yw (b:=b0 f d) (rest:=rest') (k:=k) (cs:=c::rr) ho hw (by simp [b0,KD,hd]) (by simp [b0,hd]) hrun
   have hrec:recoverD (c::rr)=some (en1,{ c with mode:=.panicking [{ v:=en1,recovered:=true }] }::rr):=by simp [recoverD,hm]
   rw [hrec] at hst
   refine .head hst (O4.mode (m:=.panicking [{ v:=en1,recovered:=true }]) hd ?_)
   have p2:Pre n d fr ds h (.pan v true) B mu w a ({ c with mode:=.panicking [{ v:=en1,recovered:=true }] }::rr):=⟨p.size,p.fr,p.ds,p.sim,by
    subst hd; exact⟨_,_,rfl,⟨rfl,rfl,e3⟩⟩,p.rnd,p.fb⟩
   exact hx B mu w _ _ (p2.put hdst e3)
  ·obtain⟨hd,hx⟩:=hx
   have hcs:Aeo true h mu w .ret cs:=hd ▸ p.cs
   obtain⟨c,rr,rfl,hU⟩:=hcs
   have hm:=hU.ret_inv
   have hrun:(execOp a.eval ⟨dst,.call ⟨.builtin .recover,args,ts⟩,ty,pos,after,guard⟩).run P w=.ok .recover w:=by simp [execOp,resolve,invoke,builtin]
   have hst:=Yw (b:=b0 f d) (rest:=rest') (k:=k) (cs:=c::rr) ho hw (by simp [b0,KD,hd]) (by simp [b0,hd]) hrun
   have hrec:recoverD (c::rr)=none:=by simp [recoverD,hm]
   rw [hrec] at hst
   exact .head hst (hx B mu w _ _ (p.put hdst .nili))
  ·exact hx.elim
 ·rename_i x args ts
  split at hx
  ·rename_i g first cap hev
   have hxv:=On p.fr x
   rw [hev] at hxv
   obtain⟨f2,c2,hfv,hf2,hc2⟩:=Aeg hxv
   have hrun:(execOp a.eval ⟨dst,.defer ⟨.value x,args,ts⟩,ty,pos,after,guard⟩).run P w=.ok (.defer { target:=.fn (.func g) c2.toArray,args:=f2.toArray++args.map a.eval }) w:=by
    simp [execOp,resolve,hfv,Deferred.ofValue]
   obtain⟨hro,hnc,hx⟩:=hx
   have hst:=Ajf (b:=b0 f d) (rest:=rest') (k:=k) (cs:=cs) ho hw (by rw [show(b0 f d).roundOf=none by simp [b0,hro]]; exact hrun)
   have p2:Pre n d fr (⟨g,first++E4 fr args.toList++cap⟩::ds) h u B mu w { a with defers:={ target:=.fn (.func g) c2.toArray,args:=f2.toArray++args.map a.eval }::a.defers } cs:=
    ⟨p.size,p.fr,by
     unfold Ry
     rw [hnc]
     refine⟨_,_,rfl,⟨c2.toArray,rfl,?_⟩,p.ds⟩
     simp only [Array.toList_append,Array.toList_map]
     exact(hf2.append (Sp p.fr args.toList)).append hc2,p.sim,p.cs,p.rnd,p.fb⟩
   exact .head hst (hx B mu w _ cs (p2.put hdst Rv.und))
  ·exact hx.elim
 ·rename_i x
  split at hx
  ·rename_i t v hev
   have hxv:=On p.fr x
   rw [hev] at hxv
   cases hq:a.eval x <;> rw [hq] at hxv <;> cases hxv
   rename_i cv hcv
   have hrun:(execOp a.eval ⟨dst,.panic x,ty,pos,after,guard⟩).run P w=.halt (.panic (.iface t cv)) w:=by simp [execOp,hq,Instr.panic]
   exact .head (Ajx ho hw (by rw [Oper.semAt_eq _ _ _ (fun c hc=>by simp at hc)]; exact hrun)) (hx B mu w a cs _ _ p ⟨rfl,rfl,.iface _ _ _ hcv⟩)
  ·exact hx.elim
 ·exact valued hx fun v h' hv=>hv
theorem Z7 {ops:Array Oper}{i:Nat}{o:Oper}{rest':List Nat}{fr:Nat→AV}{ds:List AD}{h:Ab}{u:AU}(ho:ops[i]? = some o)(hdst:Fp n o.dst=true)(hwt:D2 ops.toList fr o=some false)
  (hx:Ex P f n d (.inRegion ops rest'::k) (Fu fr o.dst .und) ds h u Q):Ex P f n d (.inRegion ops (i::rest')::k) fr ds h u Q:=by
 intro B mu w a cs p
 have hw:=Abi (B:=B) p.fr hwt
 have hs:=stepR_op_skip (P:=P) (b:=b0 f d) (a:=a) (k:=k) (cs:=cs) (w:=w) (ops:=ops) (i:=i) (rest:=rest') (by simp [ho]; simpa using hw)
 simp only [ho,Option.bind_some] at hs
 exact .head hs (hx B mu w _ cs (p.put hdst Rv.und))
theorem Af1 {g:FuncId}{args:List AV}{K K' E E':AV→Ab→Prop}(hK : ∀ v h',K v h'→K' v h')(hE : ∀ v h',E v h'→E' v h')(hx:Ae0 P g args h K E):Ae0 P g args h K' E':=
 ⟨hx.1,fun B mu w cargs s ha=>(hx.2 B mu w cargs s ha).mono fun e w' ⟨r,h',mu',a1,a2⟩=>⟨r,h',mu',by cases r <;> first | exact hK _ _ a1 | exact hE _ _ a1,a2⟩⟩
theorem Uz {y:YF}{o g:Nat}{args:List AV}{K K' E E':AV→Ab→Prop}(hK : ∀ v h',K v h'→K' v h')(hE : ∀ v h',E v h'→E' v h')(hx:Y0 P y o g args h K E):Y0 P y o g args h K' E':=
 fun B mu w loc cargs s hl hy ha=>
  let ⟨r,a1,a2,a3⟩:=hx B mu w loc cargs s hl hy ha
  ⟨r,a1,a2,fun c cs=>let ⟨e,w',res,h',mu',b1,b2⟩:=a3 c cs; ⟨e,w',res,h',mu',by cases res <;> first | exact hK _ _ b1 | exact hE _ _ b1,b2⟩⟩
theorem Aqz {U U':AV→KT}{op:Op}{K K':AV→List AD→Ab→AU→Prop}(hK : ∀ v ds h u,K v ds h u→K' v ds h u)(hU : ∀ v h,U v fr ds h u→U' v fr ds h u)(hx:Ho P d U fr ds h u op K):Ho P d U' fr ds h u op K':=by
 unfold Ho at hx ⊢
 split at hx
 ·split at hx
  ·exact Af1 (fun _ _ hk=>hK _ _ _ _ hk) (fun _ _ hk=>hU _ _ hk) hx
  ·exact Uz (fun _ _ hk=>hK _ _ _ _ hk) (fun _ _ hk=>hU _ _ hk) hx
  ·exact hx.elim
 ·split at hx
  ·exact⟨hx.1,hK _ _ _ _ hx.2⟩
  ·exact⟨hx.1,hK _ _ _ _ hx.2⟩
  ·exact hx.elim
 ·split at hx
  ·exact⟨hx.1,hx.2.1,hK _ _ _ _ hx.2.2⟩
  ·exact hx.elim
 ·split at hx
  ·exact hU _ _ hx
  ·exact hx.elim
 ·exact Aky (fun _ _ hk=>hK _ _ _ _ hk) hx
def fr0 (args:List AV):Nat→AV:=fun t=>args.getD t .und
theorem Av3 {mu:Mu}{w:World}{args:List AV}{cargs:Array Value}(ha:Ou h mu w args cargs.toList)(m:Nat)(defers:List Deferred):Ya h mu w (fr0 args) { tmps:=cargs++Array.replicate m undef,defers }:=by
 intro t
 by_cases ht:t<args.length
 ·have:=ha.2 t ht
  have hlt:t<cargs.size:=by rw [ha.1] at ht; simpa using ht
  rw [show(cargs++Array.replicate m undef).getD t undef=cargs.toList.getD t undef by simp [List.getD,Array.getElem?_append_left hlt]]
  exact this
 ·have hge:cargs.size≤t:=by rw [ha.1] at ht; simpa using ht
  have e1:fr0 args t=.und:=by simp [fr0,List.getD,List.getElem?_eq_none (Nat.le_of_not_lt ht)]
  have e2:(cargs++Array.replicate m undef).getD t undef=undef:=by
   simp only [Array.getD_eq_getD_getElem?,Array.getElem?_append_right hge]
   by_cases h2:t - cargs.size<m
   ·simp [h2]
   ·rw [Array.getElem?_eq_none (by simp; omega)]; rfl
  rw [e1,e2]; exact Rv.und
theorem R7 {fn : Func} {c : Code} {args : List AV} {Q : AR → Ab → Prop} (hf : P.funcs[f]? = some fn) (hb : fn.body = some c) (hn : fn.name ≠ "runtime.NumGoroutine") (hnt : fn.ntmps = n) (hl : args.length ≤ n)
  (hr : Ex P f n false [.code c] (fr0 args) [] h .ret (fun r h' _ => Q r h')) : Bm P f args h Q := by
 subst hnt
 refine ⟨⟨fn, c, hf, hb, hn⟩, fun B mu w cargs s ha cs => ?_⟩
 have henter : Frame.enter P f cargs .normal = (b0 f false).atR { tmps := cargs ++ Array.replicate (fn.ntmps - cargs.size) undef, defers := [] } [.code c] := by
  simp [Frame.enter, Frame.atR, hf, hb, b0, KD]
 have hsz : cargs.size = args.length := by rw [ha.1]; simp
 obtain ⟨e, w', cs', frm, r, h', mu', u', a1, a2, a3, a4, a5, a6, a7, a8, a9⟩ := hr ⟨B.n, w.heap.size⟩ mu w { tmps := cargs ++ Array.replicate (fn.ntmps - cargs.size) undef, defers := [] } cs
  ⟨by simp; omega, Av3 ha _ _, rfl, s.rebase rfl, trivial, (fun _ _ _ hh => by cases hh), s.base, Nat.le_refl _⟩
 have a9' : cs' = cs := a9
 subst a9'
 replace a5 : frm.going P w' e := by cases e <;> exact a5
 refine ⟨e, w', frm, ⟨r, h', mu', a1, a7.rebase rfl, a8.ext, a6⟩, ?_, a3, ?_⟩
 ·rw [henter]
  cases e with
  | outgrown => cases r <;> exact a6.elim
  | returned v => exact a2
  | panicked v => exact a2
 ·cases e with
  | outgrown => trivial
  | returned v => exact ⟨a5.1, a5.2.1, a4, a5.2.2⟩
  | panicked v => exact a5
theorem Bm.mono {g:FuncId}{args:List AV}{Q Q':AR→Ab→Prop}(hc:Bm P g args h Q)(hq : ∀ r h',Q r h'→Q' r h'):Bm P g args h Q':=
 ⟨hc.1,fun B mu w cargs s ha=>(hc.2 B mu w cargs s ha).mono fun e w' ⟨r,h',mu',a1,a2⟩=>⟨r,h',mu',hq _ _ a1,a2⟩⟩
theorem Ajy.mono {g:FuncId}{args:List AV}{m:AU}{Q Q':QT}(hc:Ajy P g args m h Q)(hq : ∀ r h' u,Q r h' u→Q' r h' u):Ajy P g args m h Q':=
 ⟨hc.1,fun B mu w cargs mode s ha hu=>(hc.2 B mu w cargs mode s ha hu).mono fun e u' w' ⟨r,h',mu',m',a1,a2⟩=>⟨r,h',mu',m',hq _ _ _ a1,a2⟩⟩
theorem Bm.drop {g:FuncId}{args:List AV}{Q Q':AR→Ab→Prop}(hc:Bm P g args h Q)(hq : ∀ r h',Q r h' → ∃ h2,G4 h2 h'∧Q' r h2):Bm P g args h Q':=
 ⟨hc.1,fun B mu w cargs s ha=>(hc.2 B mu w cargs s ha).mono fun e w' ⟨r,h',mu',a1,a2,a3,a4⟩=>by
  obtain⟨h2,hs,hq'⟩:=hq _ _ a1
  refine⟨r,h2,mu',hq',a2.sub hs,a3.trans (Da.sub hs),?_⟩
  cases r <;> cases e <;> first | exact a4.elim | exact a4.less (Ci.sub hs) | (obtain⟨x,hx,x1,x2,x3⟩:=a4.panic_inv; cases hx; exact⟨x1,x2,x3.less (Ci.sub hs)⟩)⟩
end
end Go.Am
namespace Go.Am
open Go
set_option linter.unusedSimpArgs false
set_option linter.unusedVariables false
set_option linter.unusedSectionVars false
def Dy (P:Program)[GW P](fr:Nat→AV)(h:Ab)(op:Op):Option AV:=
 match op with
 | .move x=>some (ev fr x)
 | .assign x=>some (ev fr x)
 | .pick c a b=>match ev fr c with
  | .bool t=>some (if t then ev fr a else ev fr b)
  | _=>none
 | .build t ps=>Tn P t (Q9 fr ps.toList)
 | .load t a=>Pq P h t (ev fr a)
 | .nilCheck x=>Ab6 (ev fr x)
 | .binOp o t x y _=>if Pc P o t x y (ev fr x) (ev fr y)=true∧Qn y=false then Ke P o t (ev fr x) (ev fr y) else none
 | .unOp o _ x=>aUn o (ev fr x)
 | .convert s d x=>V7 P h s d (ev fr x)
 | .makeInterface t x=>match ti P t with
  | some T=>if T.k=.ifc then none else some (.iface t (ev fr x))
  | none=>none
 | .makeFunc fn f c=>some (.func fn (E4 fr f.toList) (E4 fr c.toList))
 | .slice t x lo hi mx=>Et P h t (ev fr x) (lo.map (ev fr)) (hi.map (ev fr)) (mx.map (ev fr))
 | .fieldAddr s x f=>Ld P s (ev fr x) f
 | .field t x f=>Af2 P t (ev fr x) f
 | .indexAddr t x i=>Dl P h t (ev fr x) (ev fr i)
 | .index t x i=>Td P t (ev fr x) (ev fr i)
 | .typeAssert x _ t ok=>Acz P (ev fr x) t ok
 | .extract x i=>Aaf (ev fr x) i
 | .lookup t x i ok=>O6 P h t (ev fr x) (ev fr i) ok
 | .call ⟨.builtin b,args,ts⟩=>match b,ts.toList,E4 fr args.toList with
  | .len,[t],[v]=>Sl P h t v
  | .cap,[t],[v]=>Aed P t v
  | .min,_,l=>Acf false l
  | .max,_,l=>Acf true l
  | _,_,_=>none
 | _=>none
def aF (P:Program)[GW P](all:List Oper)(fr:Nat→AV)(h:Ab)(o:Oper):Option AV:=
 match D2 all fr o with
 | some true=>Dy P fr h o.op
 | some false=>some .und
 | none=>none
theorem Ah7 {P:Program}[GW P]{fr:Nat→AV}{h:Ab}{op:Op}{v:AV}{K:AV→Ab→Prop}(hx:Dy P fr h op=some v)(hK:K v h):C5 P fr h op K:=by
 unfold Dy at hx
 unfold C5
 split at hx <;> (try simp only)
 case h_3=>
  split at hx
  ·rename_i hb; cases hx; first | (rw [hb]; exact hK) | exact hK
  ·cases hx
 case h_7=>
  split at hx
  ·rename_i hg; exact⟨hg.1,by simp only [Te,hg.2,Bool.false_eq_true,if_false,hx]; exact hK⟩
  ·cases hx
 case h_9=>
  unfold Zi
  split
  ·rename_i S D l hS hD hv
   split
   ·rename_i e q1 q2
    rw [hv] at hx
    simp only [V7,hS,hD,q1,q2] at hx
    cases hx
   ·rw [hx]; exact hK
  ·rw [hx]; exact hK
 case h_10=>
  split at hx
  ·rename_i hT
   split at hx
   ·cases hx
   ·rename_i hk; cases hx; rw [hT]; exact⟨hk,hK⟩
  ·cases hx
 case h_20=>
  unfold Jp
  split at hx
  ·rename_i e1 e2; simp only [e1,e2,hx]; exact hK
  ·rename_i e1 e2; simp only [e1,e2,hx]; exact hK
  ·simp only [hx]; exact hK
  ·simp only [hx]; exact hK
  ·cases hx
 all_goals first | (cases hx; exact hK) | (rw [hx]; exact hK) | cases hx
def Aor (op:Op):List Tmp:=op.operands.toList.filterMap fun | .tmp t=>some t | _=>none
def Tg (all:List Oper)(o:Oper):List Tmp:=
 Aor o.op++(match o.guard with
  | some (g,_)=>((all[g]?).bind (·.dst)).toList
  | none=>[])
theorem Ass {fr fr':Nat→AV}{op:Op}(h : ∀ t ∈ Aor op,fr t=fr' t) : ∀ x ∈ op.operands,ev fr x=ev fr' x:=by
 intro x hx
 cases x with
 | tmp t=>exact h t (List.mem_filterMap.2 ⟨.tmp t,by simpa using hx,rfl⟩)
 | const v=>rfl
 | global g=>rfl
 | func f=>rfl
theorem Pe {fr fr':Nat→AV}{l:List Operand}(h : ∀ x ∈ l,ev fr x=ev fr' x):E4 fr l=E4 fr' l:=List.map_congr_left h
theorem Aa7 {fr fr':Nat→AV}{l:List (Nat×Operand)}(h : ∀ p ∈ l,ev fr p.2=ev fr' p.2):Q9 fr l=Q9 fr' l:=List.map_congr_left fun p hp=>by rw [h p hp]
theorem Ss {fr fr':Nat→AV}{x:Option Operand}(h : ∀ y ∈ x,ev fr y=ev fr' y):x.map (ev fr)=x.map (ev fr'):=by
 cases x with
 | none=>rfl
 | some y=>simp [h y rfl]
theorem Ape {P:Program}[GW P]{fr fr':Nat→AV}{h:Ab}{op:Op}{K:AV→Ab→Prop}(hc : ∀ x ∈ op.operands,ev fr x=ev fr' x):C5 P fr h op K=C5 P fr' h op K:=by
 cases op with
 | build t ps=>
  have:Q9 fr ps.toList=Q9 fr' ps.toList:=Aa7 fun p hp=>hc p.2 (by simp only [Op.operands]; simp; exact⟨p.1,by simpa using hp⟩)
  simp only [C5,this]
 | buildSlice t n ps=>
  have:Q9 fr ps.toList=Q9 fr' ps.toList:=Aa7 fun p hp=>hc p.2 (by simp only [Op.operands]; simp; exact⟨p.1,by simpa using hp⟩)
  simp only [C5,this]
 | makeFunc fn f c=>
  have h1:E4 fr f.toList=E4 fr' f.toList:=Pe fun x hx=>hc x (by simp only [Op.operands]; simp at hx ⊢; exact .inl hx)
  have h2:E4 fr c.toList=E4 fr' c.toList:=Pe fun x hx=>hc x (by simp only [Op.operands]; simp at hx ⊢; exact .inr hx)
  simp only [C5,h1,h2]
 | slice t x lo hi mx=>
  simp only [Op.operands] at hc
  have h0:=hc x (by simp)
  have h1:lo.map (ev fr)=lo.map (ev fr'):=Ss fun y hy=>hc y (by simp [hy]; cases hy; simp)
  have h2:hi.map (ev fr)=hi.map (ev fr'):=Ss fun y hy=>hc y (by simp [hy]; cases hy; simp)
  have h3:mx.map (ev fr)=mx.map (ev fr'):=Ss fun y hy=>hc y (by simp [hy]; cases hy; simp)
  simp only [C5,h0,h1,h2,h3]
 | call c=>
  obtain⟨cal,args,ts⟩:=c
  cases cal with
  | builtin b=>
   have:E4 fr args.toList=E4 fr' args.toList:=Pe fun x hx=>hc x (by simp only [Op.operands,Call.operands]; simpa using hx)
   simp only [C5,this]
  | value f=>rfl
  | invoke r m=>rfl
 | makeMap t r=>
  cases r with
  | none=>rfl
  | some x=>
   have:ev fr x=ev fr' x:=hc x (by simp [Op.operands])
   simp only [C5,this]
 | next it b=>
  have:ev fr it=ev fr' it:=hc it (by simp [Op.operands])
  cases b <;> simp only [C5,this]
 | _=>first
   | rfl
   | (simp [Op.operands] at hc; simp only [C5,hc])
end Go.Am
namespace Go.Am
open Go
set_option linter.unusedSimpArgs false
set_option linter.unusedVariables false
set_option linter.unusedSectionVars false
section
variable {P:Program} [GW P] {f:FuncId} {n:Nat} {d:FK} {fr:Nat→AV} {ds:List AD} {h h2:Ab} {u:AU} {Q:QT} {k:List Item}
theorem Ad5 {fn:Func}{vs:List AV}{v':AV}(hf:P.funcs[f]? = some fn)(hx:J3 P h fr fn.results.toList=some vs)(hs:G4 h2 h)(hz:Fz h h2 (Ku vs) v')(hu:d=false)(hq:Q (.ret v') h2 u):Sa P f n d .ret fr [] h u Q:=by
 intro B mu w a cs todo mode p hm
 obtain⟨c,h1,h2'⟩:=Vy p.sim p.fr hx
 have hd:a.defers=[]:=p.ds
 have hmode:=hm.ret_inv
 refine⟨.returned c,w,cs,_,.ret v',h2,mu,u,hq,Steps.refl P _,rfl,rfl,(by subst hu; exact⟨hmode,hd,fn,hf,h1⟩),J2 p.sim hs hz h2',p.sim.sub hs,(Da.sub hs).g,?_⟩
 subst hu
 rfl
theorem Wn {todo:List Item}{fr':Nat→AV}(hs:G4 h2 h)(hz : ∀ t,Fz h h2 (fr t) (fr' t))(hds:ds=ds)(hd:d=d)(hr:Ex P f n d todo fr' ds h2 u Q):Ex P f n d todo fr ds h u Q:=by
 intro B mu w a cs p
 exact(hr B mu w a cs ⟨p.size,fun t=>J2 p.sim hs (hz t) (p.fr t),p.ds.ext (Da.sub hs),p.sim.sub hs,p.cs.ext (Da.sub hs),p.rnd,p.fb⟩).ext (Da.sub hs)
theorem Fz.int (k:IntKind)(n:Int):Fz h h2 (.int k n) (.int k n):=.same _
end
end Go.Am
namespace Go.Am
open Go
set_option linter.unusedSimpArgs false
set_option linter.unusedVariables false
set_option linter.unusedSectionVars false
theorem Am4 {P:Program}[GW P]{d:FK}{U U':AV→KT}{fr fr':Nat→AV}{ds:List AD}{h:Ab}{u:AU}{op:Op}{K:AV→List AD→Ab→AU→Prop}(hc : ∀ x ∈ op.operands,ev fr x=ev fr' x)
  (hU : ∀ v h',U v fr ds h' u→U' v fr' ds h' u) (hx:Ho P d U fr ds h u op K):Ho P d U' fr' ds h u op K:=by
 unfold Ho at hx ⊢
 split at hx
 ·rename_i x args ts
  have h0:=hc x (by simp [Op.operands,Call.operands])
  have h1:E4 fr args.toList=E4 fr' args.toList:=Pe fun y hy=>hc y (by simp only [Op.operands,Call.operands]; simp at hy ⊢; exact .inr hy)
  rw [h0] at hx
  split at hx
  ·rw [h1] at hx
   exact Af1 (fun _ _ hk=>hk) (fun _ _ hk=>hU _ _ hk) hx
  ·rw [h1] at hx
   exact Uz (fun _ _ hk=>hk) (fun _ _ hk=>hU _ _ hk) hx
  ·exact hx.elim
 ·exact hx
 ·rename_i x args ts
  have h0:=hc x (by simp [Op.operands,Call.operands])
  have h1:E4 fr args.toList=E4 fr' args.toList:=Pe fun y hy=>hc y (by simp only [Op.operands,Call.operands]; simp at hy ⊢; exact .inr hy)
  rw [h0] at hx
  split at hx
  ·rw [h1] at hx; exact hx
  ·exact hx.elim
 ·rename_i x
  have h0:=hc x (by simp [Op.operands])
  rw [h0] at hx
  split at hx
  ·exact hU _ _ hx
  ·exact hx.elim
 ·rw [Ape hc] at hx; exact hx
theorem Ak5 {P:Program}[GW P]{fr fr':Nat→AV}{h:Ab}{op:Op}(hc : ∀ x ∈ op.operands,ev fr x=ev fr' x):Dy P fr h op=Dy P fr' h op:=by
 cases op with
 | build t ps=>
  have:Q9 fr ps.toList=Q9 fr' ps.toList:=Aa7 fun p hp=>hc p.2 (by simp only [Op.operands]; simp; exact⟨p.1,by simpa using hp⟩)
  simp only [Dy,this]
 | makeFunc fn f c=>
  have h1:E4 fr f.toList=E4 fr' f.toList:=Pe fun x hx=>hc x (by simp only [Op.operands]; simp at hx ⊢; exact .inl hx)
  have h2:E4 fr c.toList=E4 fr' c.toList:=Pe fun x hx=>hc x (by simp only [Op.operands]; simp at hx ⊢; exact .inr hx)
  simp only [Dy,h1,h2]
 | slice t x lo hi mx=>
  simp only [Op.operands] at hc
  have h0:=hc x (by simp)
  have h1:lo.map (ev fr)=lo.map (ev fr'):=Ss fun y hy=>hc y (by simp [hy]; cases hy; simp)
  have h2:hi.map (ev fr)=hi.map (ev fr'):=Ss fun y hy=>hc y (by simp [hy]; cases hy; simp)
  have h3:mx.map (ev fr)=mx.map (ev fr'):=Ss fun y hy=>hc y (by simp [hy]; cases hy; simp)
  simp only [Dy,h0,h1,h2,h3]
 | call c=>
  obtain⟨cal,args,ts⟩:=c
  cases cal with
  | builtin b=>
   have:E4 fr args.toList=E4 fr' args.toList:=Pe fun x hx=>hc x (by simp only [Op.operands,Call.operands]; simpa using hx)
   simp only [Dy,this]
  | value f=>rfl
  | invoke r m=>rfl
 | _=>first
   | rfl
   | (simp [Op.operands] at hc; simp only [Dy,hc])
theorem Xe {all:List Oper}{fr fr':Nat→AV}{o:Oper}(hc : ∀ t ∈ Tg all o,fr t=fr' t):D2 all fr o=D2 all fr' o:=by
 unfold D2
 split
 ·rfl
 ·rename_i j want hg
  cases hq:(all[j]?).bind (·.dst) with
  | none=>rfl
  | some t=>
   have:fr t=fr' t:=hc t (by simp [Tg,hg,hq])
   simp only [this]
theorem Ai5 {all:List Oper}{fr fr':Nat→AV}{o:Oper}(hc : ∀ t ∈ Tg all o,fr t=fr' t) : ∀ x ∈ o.op.operands,ev fr x=ev fr' x:=Ass fun t ht=>hc t (by simp [Tg,ht])
theorem Aso {P:Program}[GW P]{all:List Oper}{fr fr':Nat→AV}{h:Ab}{o:Oper}(hc : ∀ t ∈ Tg all o,fr t=fr' t):aF P all fr h o=aF P all fr' h o:=by
 unfold aF
 rw [Xe hc,Ak5 (Ai5 hc)]
abbrev Er:=List (Bool×Nat)
def cl (pre:List (List Nat))(i j:Nat):Bool:=(pre.getD i []).contains j
def P2 (pre:List (List Nat)):Er→Er→Bool
 | _,[]=>true
 | done,(s,i)::r=>(pre.getD i []).all (fun j=>done.any fun p=>p.2==j)&&(done.all fun p => !p.1||cl pre i p.2) && !(done.any fun p=>p.2==i)&&P2 pre (done++[(s,i)]) r
def Wt (ext:List (Nat×Nat))(all:List Oper)(pre:List (List Nat))(plan:Er):Bool:=
 ((List.range all.length).all fun i=>plan.any fun p=>p.2==i)&&(plan.all fun p=>decide (p.2<all.length))&&P2 pre [] plan &&
 ((List.range all.length).all fun i=>match all[i]? with
  | none=>true
  | some o=>(o.after.toList.all fun e => !Region.binds .any e||cl pre i e.on)&&((pre.getD i []).all fun j=>(ext.any fun p=>p.1==i&&(p.2==j||cl pre p.2 j))||(o.after.toList.any fun e=>Region.binds .any e&&(e.on==j||cl pre e.on j))) &&
   ((List.range all.length).all fun j=>i==j||match all[j]? with
    | none=>true
    | some oj=>match oj.dst with
     | none=>true
     | some t=>o.dst != some t&&(!(Tg all o).contains t||cl pre i j||cl pre j i)))
def Af4 (all:List Oper)(pre:List (List Nat))(plan:Er):Bool:=Wt [] all pre plan
structure PlanOk (ext:List (Nat×Nat))(all:List Oper)(pre:List (List Nat))(plan:Er):Prop where
 cover : ∀ i,i<all.length → ∃ s,(s,i) ∈ plan
 bound : ∀ s i,(s,i) ∈ plan→i<all.length
 ord:P2 pre [] plan=true
 edges : ∀ (i:Nat) (o:Oper),all[i]? = some o → ∀ e ∈ o.after,Region.binds .any e=true→cl pre i e.on=true
 back : ∀ (i:Nat) (o:Oper),all[i]? = some o → ∀ j,cl pre i j=true→(∃ m,(i,m) ∈ ext∧(m=j∨cl pre m j=true)) ∨ ∃ e ∈ o.after,Region.binds .any e=true∧(e.on=j∨cl pre e.on j=true)
 dsts : ∀ (i j:Nat) (oi oj:Oper) t,i≠j→all[i]? = some oi→all[j]? = some oj→oj.dst=some t→oi.dst≠some t
 reads : ∀ (i j:Nat) (oi oj:Oper) t,i≠j→all[i]? = some oi→all[j]? = some oj→oj.dst=some t→t ∈ Tg all oi→cl pre i j=true∨cl pre j i=true
theorem Ak4 {ext:List (Nat×Nat)}{all:List Oper}{pre:List (List Nat)}{plan:Er}(h:Wt ext all pre plan=true):PlanOk ext all pre plan:=by
 simp only [Wt,Bool.and_eq_true] at h
 obtain⟨⟨⟨h1,h2⟩,h3⟩,h4⟩:=h
 have lt_of : ∀ {i:Nat} {o:Oper},all[i]? = some o→i<all.length:=fun h=>by
  rcases Nat.lt_or_ge _ all.length with h' | h'
  ·exact h'
  ·rw [List.getElem?_eq_none h'] at h; cases h
 have at4 : ∀ {i:Nat} {o:Oper},all[i]? = some o→_:=fun {i o} hi=>by
  have:=List.all_eq_true.1 h4 i (List.mem_range.2 (lt_of hi))
  rw [hi] at this
  simp only [Bool.and_eq_true] at this
  exact this
 refine⟨fun i hi=>?_,fun s i hi=>?_,h3,fun i o hi e he hb=>?_,fun i o hi j hj=>?_,fun i j oi oj t hne hi hj hd=>?_,fun i j oi oj t hne hi hj hd ht=>?_⟩
 ·have:=List.all_eq_true.1 h1 i (List.mem_range.2 hi)
  obtain⟨p,hp,hq⟩:=List.any_eq_true.1 this
  obtain⟨s,k⟩:=p
  simp at hq; subst hq
  exact⟨s,hp⟩
 ·have:=List.all_eq_true.1 h2 _ hi
  simpa using this
 ·have:=List.all_eq_true.1 (at4 hi).1.1 e (by simpa using he)
  simpa [hb] using this
 ·have hj':j ∈ pre.getD i []:=by simpa [cl] using hj
  have:=List.all_eq_true.1 (at4 hi).1.2 j hj'
  rcases Bool.or_eq_true _ _ ▸ this with this | this
  ·obtain⟨⟨a,m⟩,hm,hq⟩:=List.any_eq_true.1 this
   simp only [Bool.and_eq_true,Bool.or_eq_true,beq_iff_eq] at hq
   obtain⟨rfl,hq⟩:=hq
   exact .inl ⟨m,hm,hq⟩
  ·obtain⟨e,he,hq⟩:=List.any_eq_true.1 this
   simp only [Bool.and_eq_true,Bool.or_eq_true,beq_iff_eq] at hq
   exact .inr ⟨e,by simpa using he,hq.1,hq.2⟩
 ·have:=List.all_eq_true.1 (at4 hi).2 j (List.mem_range.2 (lt_of hj))
  rw [hj] at this
  simp only [hd,Bool.or_eq_true,beq_iff_eq,hne,false_or,Bool.and_eq_true,bne_iff_ne,ne_eq] at this
  exact this.1
 ·have:=List.all_eq_true.1 (at4 hi).2 j (List.mem_range.2 (lt_of hj))
  rw [hj] at this
  simp only [hd,Bool.or_eq_true,beq_iff_eq,hne,false_or,Bool.and_eq_true,bne_iff_ne,ne_eq,Bool.not_eq_true'] at this
  rcases this.2 with(h' | h') | h'
  ·have:t ∉ Tg all oi:=by simpa using h'
   exact absurd ht this
  ·exact .inl h'
  ·exact .inr h'
abbrev Jl:=List (Nat×(Nat→AV)×AV)
def Ei (P:Program)[GW P](all:List Oper)(pre:List (List Nat))(i:Nat)(h:Ab):Jl→Prop
 | []=>True
 | (j,fr,v)::r=>(if cl pre i j=true then True else match all[j]? with
   | some o=>aF P all fr h o=some v
   | none=>False)∧Ei P all pre i h r
def J9 (P:Program)[GW P](n:Nat)(d:FK)(all:List Oper)(pre:List (List Nat))(K:KT)(U:AV→KT):Er→Jl→KT
 | [],_,fr,ds,h,u=>K fr ds h u
 | (false,i)::r,pend,fr,ds,h,u=>match all[i]? with
  | none=>False
  | some o=>Fp n o.dst=true∧match aF P all fr h o with
   | none=>False
   | some v=>J9 P n d all pre K U r ((i,fr,v)::pend) (Fu fr o.dst v) ds h u
 | (true,i)::r,pend,fr,ds,h,u=>match all[i]? with
  | none=>False
  | some o=>Fp n o.dst=true∧match D2 all fr o with
   | none=>False
   | some false=>J9 P n d all pre K U r pend (Fu fr o.dst .und) ds h u
   | some true=>Ho P d (fun v fr ds h u => ∀ fr',(∀ t,(∀ o ∈ all,o.dst≠some t)→fr' t=fr t)→U v fr' ds h u) fr ds h u o.op
     (fun v ds' h' u'=>Ei P all pre i h' pend∧J9 P n d all pre K U r pend (Fu fr o.dst v) ds' h' u')
theorem Afo {P:Program}[GW P]{all:List Oper}{pre:List (List Nat)}{i:Nat}{h:Ab} : ∀ {pend:Jl},Ei P all pre i h pend → ∀ {j fr v o},(j,fr,v) ∈ pend→cl pre i j=false→all[j]? = some o→aF P all fr h o=some v
 | [],_,j,fr,v,o,hm,_,_=>by cases hm
 | (j',fr',v')::r,hp,j,fr,v,o,hm,hc,ho=>by
  obtain⟨h1,h2⟩:=hp
  cases hm with
  | head=>
   rw [hc,ho] at h1
   simpa using h1
  | tail _ hm=>exact Afo h2 hm hc ho
structure Good (P:Program)[GW P](n:Nat)(all:List Oper)(pre:List (List Nat))(h:Ab)(done:Er)(pend:Jl)(L:Nat→Bool)(frc fra:Nat→AV):Prop where
 sub : ∀ i,L i=true → ∃ s,(s,i) ∈ done
 sdone : ∀ i,(true,i) ∈ done→L i=true
 closed : ∀ i j,L i=true→cl pre i j=true→L j=true
 frame : ∀ t,(∃ s j o,(s,j) ∈ done∧L j=false∧all[j]? = some o∧o.dst=some t)∨fra t=frc t
 pends : ∀ j,(false,j) ∈ done→L j=false → ∃ frj v o,(j,frj,v) ∈ pend∧all[j]? = some o∧aF P all frj h o=some v∧Fp n o.dst=true∧(∀ t,o.dst=some t→frc t=v) ∧
  ∀ t ∈ Tg all o,(∃ s m om,(s,m) ∈ done∧L m=false∧all[m]? = some om∧om.dst=some t∧cl pre j m=true∧frj t=frc t)∨(frj t=fra t ∧ ∀ (m:Nat) (om:Oper),all[m]? = some om→om.dst=some t→cl pre j m=true→L m=true)
theorem Ok {pre:List (List Nat)}{done:Er}{s:Bool}{i:Nat}{r:Er}(h:P2 pre done ((s,i)::r)=true):(∀ j,cl pre i j=true → ∃ s',(s',j) ∈ done)∧(∀ m,(true,m) ∈ done→cl pre i m=true)∧(∀ s',(s',i) ∉ done)∧P2 pre (done++[(s,i)]) r=true:=by
 simp only [P2,Bool.and_eq_true] at h
 obtain⟨⟨⟨h1,h2⟩,h3⟩,h4⟩:=h
 refine⟨fun j hj=>?_,fun m hm=>?_,fun s' hs=>?_,h4⟩
 ·have:=List.all_eq_true.1 h1 j (by simpa [cl] using hj)
  obtain⟨p,hp,hq⟩:=List.any_eq_true.1 this
  obtain⟨s',k⟩:=p
  simp at hq; subst hq
  exact⟨s',hp⟩
 ·have:=List.all_eq_true.1 h2 _ hm
  simpa using this
 ·have:(done.any fun p=>p.2==i)=true:=List.any_eq_true.2 ⟨_,hs,by simp⟩
  rw [this] at h3; cases h3
theorem Aga {pre:List (List Nat)} : ∀ (xs d0 ys:Er),P2 pre d0 (xs++ys)=true → ∀ {s:Bool} {m j:Nat},(s,m) ∈ xs→cl pre m j=true → ∃ s',(s',j) ∈ d0++xs
 | [],d0,ys,_,s,m,j,hm,_=>by cases hm
 | (s0,i)::xs,d0,ys,ho,s,m,j,hm,hc=>by
  obtain⟨o1,_,_,o4⟩:=Ok ho
  rcases List.mem_cons.1 hm with hm | hm
  ·cases hm
   obtain⟨s',hs'⟩:=o1 j hc
   exact⟨s',by simp [hs']⟩
  ·obtain⟨s',hs'⟩:=Aga xs (d0++[(s0,i)]) ys o4 hm hc
   exact⟨s',by simpa using hs'⟩
theorem Ahk {pre:List (List Nat)}{done rest plan:Er}(he:done++rest=plan)(ho:P2 pre [] plan=true){s:Bool}{m j:Nat}(hm:(s,m) ∈ done)(hc:cl pre m j=true) : ∃ s',(s',j) ∈ done:=by
 have:=Aga done [] rest (by rw [he]; exact ho) hm hc
 simpa using this
theorem Afh {pre:List (List Nat)} : ∀ (xs d0 ys:Er),P2 pre d0 (xs++ys)=true→P2 pre (d0++xs) ys=true
 | [],d0,ys,h=>by simpa using h
 | x::xs,d0,ys,h=>by
  obtain⟨_,_,_,o4⟩:=Ok (s:=x.1) (i:=x.2) h
  have:=Afh xs _ ys o4
  simpa using this
section
variable {P:Program} [GW P] {n:Nat} {d:FK} {all:List Oper} {pre:List (List Nat)} {K:KT} {U:AV→KT} {ds:List AD} {h:Ab} {u:AU} {L:Nat→Bool} {fra:Nat→AV} {plan:Er}
theorem Ag8 {ext:List (Nat×Nat)}(hp:PlanOk ext all pre plan) : ∀ (rest done:Er) (pend:Jl) (frc:Nat→AV),done++rest=plan→P2 pre done rest=true→Good P n all pre h done pend L frc fra→(∀ i,(∃ s,(s,i) ∈ rest)→L i=false) →
  J9 P n d all pre K U rest pend frc ds h u →
  ∃ done' rest' pend' frc',done'++rest'=plan∧P2 pre done' rest'=true∧Good P n all pre h done' pend' L frc' fra∧(∀ i,(∃ s,(s,i) ∈ rest')→L i=false)∧J9 P n d all pre K U rest' pend' frc' ds h u∧(rest'=[] ∨ ∃ i r,rest'=(true,i)::r)
 | [],done,pend,frc,he,ho,hg,hL,hx=>⟨done,[],pend,frc,he,ho,hg,hL,hx,.inl rfl⟩
 | (true,i)::r,done,pend,frc,he,ho,hg,hL,hx=>⟨done,(true,i)::r,pend,frc,he,ho,hg,hL,hx,.inr ⟨i,r,rfl⟩⟩
 | (false,i)::r,done,pend,frc,he,ho,hg,hL,hx=>by
  obtain⟨o1,o2,o3,o4⟩:=Ok ho
  simp only [J9] at hx
  split at hx
  ·exact hx.elim
  ·rename_i o hoi
   obtain⟨hdst,hx⟩:=hx
   split at hx
   ·exact hx.elim
   ·rename_i v hv
    have hLi:L i=false:=hL i ⟨false,List.mem_cons_self ..⟩
    have hne : ∀ {s m},(s,m) ∈ done→m≠i:=fun hm hmi=>o3 _ (hmi ▸ hm)
    have hput : ∀ t,o.dst≠some t→Fu frc o.dst v t=frc t:=by
     intro t ht
     cases hd:o.dst with
     | none=>rfl
     | some t'=>rw [hd] at ht; simp only [Fu,upd]; rw [if_neg (fun hh=>ht (by rw [hh]))]
    have hputs : ∀ t,o.dst=some t→Fu frc o.dst v t=v:=by intro t ht; simp [ht,Fu,upd]
    refine Ag8 hp r (done++[(false,i)]) ((i,frc,v)::pend) _ (by rw [← he]; simp) o4 ⟨?_,?_,hg.closed,?_,?_⟩ (fun j hj=>hL j (let ⟨s,hs⟩:=hj; ⟨s,List.mem_cons_of_mem _ hs⟩)) hx
    ·intro j hj; obtain⟨s,hs⟩:=hg.sub j hj; exact⟨s,by simp [hs]⟩
    ·intro j hj
     simp only [List.mem_append,List.mem_singleton,Prod.mk.injEq,Bool.true_eq_false,false_and,or_false] at hj
     exact hg.sdone j hj
    ·intro t
     by_cases ht:o.dst=some t
     ·exact .inl ⟨false,i,o,by simp,hLi,hoi,ht⟩
     ·rcases hg.frame t with⟨s,j,oj,j1,j2,j3,j4⟩ | hf
      ·exact .inl ⟨s,j,oj,by simp [j1],j2,j3,j4⟩
      ·right; rw [hput t ht]; exact hf
    ·intro j hj hLj
     simp only [List.mem_append,List.mem_singleton,Prod.mk.injEq,true_and] at hj
     rcases hj with hj | rfl
     ·obtain⟨frj,v',oj,j1,j2,j3,j4,j5,j6⟩:=hg.pends j hj hLj
      refine⟨frj,v',oj,List.mem_cons_of_mem _ j1,j2,j3,j4,fun t ht=>?_,fun t ht=>?_⟩
      ·rw [hput t (hp.dsts i j o oj t (Ne.symm (hne hj)) hoi j2 ht)]; exact j5 t ht
      ·rcases j6 t ht with⟨s,m,om,m1,m2,m3,m4,m5,m6⟩ | hf
       ·exact .inl ⟨s,m,om,by simp [m1],m2,m3,m4,m5,by rw [hput t (hp.dsts i m o om t (Ne.symm (hne m1)) hoi m3 m4)]; exact m6⟩
       ·exact .inr hf
     ·refine⟨frc,v,o,List.mem_cons_self ..,hoi,hv,hdst,hputs,fun t ht=>?_⟩
      by_cases hm : ∃ s m om,(s,m) ∈ done∧L m=false∧all[m]? = some om∧om.dst=some t∧cl pre j m=true
      ·obtain⟨s,m,om,m1,m2,m3,m4,m5⟩:=hm
       exact .inl ⟨s,m,om,by simp [m1],m2,m3,m4,m5,by rw [hput t (hp.dsts j m o om t (Ne.symm (hne m1)) hoi m3 m4)]⟩
      ·right
       refine⟨?_,fun m om m3 m4 m5=>?_⟩
       ·rcases hg.frame t with⟨s,m,om,m1,m2,m3,m4⟩ | hf
        ·exfalso
         rcases hp.reads j m o om t (Ne.symm (hne m1)) hoi m3 m4 ht with hc | hc
         ·exact hm ⟨s,m,om,m1,m2,m3,m4,hc⟩
         ·obtain⟨s',hs'⟩:=Ahk (pre:=pre) he hp.ord m1 hc
          exact o3 s' hs'
        ·exact hf.symm
       ·cases hq:L m with
        | true=>rfl
        | false=>
         obtain⟨s',hs'⟩:=o1 m m5
         exact absurd ⟨s',m,om,hs',hq,m3,m4,m5⟩ hm
end
theorem Ag6 {pre:List (List Nat)} : ∀ {rest done:Er},P2 pre done rest=true → ∀ {s i},(s,i) ∈ rest → ∀ s',(s',i) ∉ done
 | [],_,_,s,i,hm,_=>by cases hm
 | (s0,i0)::r,done,ho,s,i,hm,s'=>by
  obtain⟨_,_,o3,o4⟩:=Ok ho
  rcases List.mem_cons.1 hm with hm | hm
  ·cases hm; exact o3 s'
  ·exact fun hd=>Ag6 o4 hm s' (by simp [hd])
theorem Akp {pre:List (List Nat)} : ∀ {r done:Er} {i0:Nat},P2 pre done r=true→(true,i0) ∈ done → ∀ {s i},(s,i) ∈ r→cl pre i i0=true
 | [],_,_,_,_,s,i,hm=>by cases hm
 | (s0,i1)::r,done,i0,ho,hd,s,i,hm=>by
  obtain⟨_,o2,_,o4⟩:=Ok ho
  rcases List.mem_cons.1 hm with hm | hm
  ·cases hm; exact o2 i0 hd
  ·exact Akp o4 (by simp [hd]) hm
def Pg (listed:Array Bool):Nat→Bool:=fun i=>listed.getD i false
def left (listed:Array Bool):Nat:=(listed.toList.filter fun b => !b).length
theorem Ahv : ∀ {l:List Bool} {i:Nat},l[i]? = some false→((l.set i true).filter fun b => !b).length+1=(l.filter fun b => !b).length
 | [],i,h=>by simp at h
 | b::l,0,h=>by simp at h; subst h; simp
 | b::l,i+1,h=>by
  have:=Ahv (l:=l) (i:=i) (by simpa using h)
  cases b
  ·simp at this ⊢; omega
  ·simp at this ⊢; omega
theorem Ar0 {listed:Array Bool}{i:Nat}(hi:i<listed.size)(h:listed.getD i true=false):left (listed.setIfInBounds i true)+1=left listed:=by
 unfold left
 rw [Array.toList_setIfInBounds]
 refine Ahv ?_
 simp [hi] at h
 rw [Array.getElem?_toList,Array.getElem?_eq_getElem hi,h]
theorem Ad9 (m:Nat)(i:Nat):Pg (Array.replicate m false) i=false:=by
 unfold Pg
 by_cases hlt:i<m
 ·simp [hlt]
 ·simp [hlt]
theorem Ao5 {listed:Array Bool}(h:left listed=0){i:Nat}(hi:i<listed.size):listed.getD i false=true:=by
 unfold left at h
 have h0:=List.eq_nil_of_length_eq_zero h
 have:=List.filter_eq_nil_iff.1 h0 (listed[i]) (by simp)
 simp [hi]
 simpa using this
section
variable {P:Program} [GW P] {f n:Nat} {d:FK} {ops:Array Oper} {pre:List (List Nat)} {Q:QT} {k:List Item} {plan:Er}
def Bef (l:List Nat)(j i:Nat):Prop := ∀ xs ys,l=xs++i::ys→j ∈ xs
theorem Au8 (l:List Nat){i j:Nat}(hij:i≠j):Bef l j i∨Bef l i j:=by
 by_cases h:Bef l j i
 ·exact .inl h
 ·right
  have h' : ∃ xs ys,l=xs++i::ys∧j ∉ xs:=by
   apply Classical.byContradiction
   intro hn
   exact h fun xs ys e=>Classical.byContradiction fun hj=>hn ⟨xs,ys,e,hj⟩
  obtain⟨xs,ys,e,hj⟩:=h'
  intro xs' ys' e'
  rw [e] at e'
  rcases List.append_eq_append_iff.1 e' with⟨as0,h1,h2⟩ | ⟨bs,h1,h2⟩
  ·cases as0 with
   | nil=>simp at h2; exact absurd h2.1 hij
   | cons a as0=>simp at h2; rw [h1,h2.1]; simp
  ·cases bs with
   | nil=>simp at h2; exact absurd h2.1.symm hij
   | cons b bs=>simp at h2; rw [h1,h2.1] at hj; simp at hj
theorem Ash {i0:Nat}{tl:List Nat}{i j:Nat}(h:Bef (i0::tl) j i)(hj:i0≠j):Bef tl j i:=by
 intro xs ys e
 have:=h (i0::xs) ys (by rw [e]; rfl)
 rcases List.mem_cons.1 this with h | h
 ·exact absurd h.symm hj
 ·exact h
theorem Aqq {ext:List (Nat×Nat)}(hp:PlanOk ext ops.toList pre plan) : ∀ (fuel:Nat) (t:Nat) (listed:Array Bool) (done rest:Er) (pend:Jl) (frc fra:Nat→AV) (ds:List AD) (h:Ab) (u:AU),
  (∀ i j,(i,j) ∈ ext→Pg listed j=true∨Bef (Region.linearise.go .any ops fuel t listed []) j i)→left listed=fuel→listed.size=ops.size→done++rest=plan→P2 pre done rest=true→Good P n ops.toList pre h done pend (Pg listed) frc fra→(∀ i,(∃ s,(s,i) ∈ rest)→Pg listed i=false)→(rest=[] ∨ ∃ i r,rest=(true,i)::r) →
  J9 P n d ops.toList pre (fun fr ds h u=>Ex P f n d k fr ds h u Q) (fun v fr ds h u=>Sa P f n d (.pan v false) fr ds h u Q) rest pend frc ds h u →
  Ex P f n d (.inRegion ops (Region.linearise.go .any ops fuel t listed [])::k) fra ds h u Q:=by
 intro fuel
 induction fuel with
 | zero=>
  intro t listed done rest pend frc fra ds h u hext hcnt hsz he ho hg hL hshape hx
  have hall : ∀ i,i<ops.size→Pg listed i=true:=fun i hi=>Ao5 hcnt (by rw [hsz]; exact hi)
  have hrest:rest=[]:=by
   rcases hshape with h0 | ⟨i,r,rfl⟩
   ·exact h0
   ·have:=hL i ⟨true,List.mem_cons_self ..⟩
    rw [hall i (by have:=hp.bound true i (by rw [← he]; simp); simpa using this)] at this
    cases this
  subst hrest
  have hfr:fra=frc:=by
   funext t
   rcases hg.frame t with⟨s,j,o,j1,j2,_⟩ | hf
   ·rw [hall j (by have:=hp.bound s j (by rw [← he]; simp [j1]); simpa using this)] at j2; cases j2
   ·exact hf
  subst hfr
  simp only [Region.linearise.go,List.reverse_nil]
  exact Oo (fun _ _ _=>stepR_region_end) hx
 | succ fuel ih=>
  intro t listed done rest pend frc fra ds h u hext hcnt hsz he ho hg hL hshape hx
  have hgo:Region.linearise.go .any ops (fuel+1) t listed []=match (Region.ready .any ops listed)[t % (Region.ready .any ops listed).length]? with
    | some i=>Region.linearise.go .any ops fuel (t / (Region.ready .any ops listed).length) (listed.setIfInBounds i true) [i]
    | none=>[]:=by
   simp only [Region.linearise.go,List.reverse_nil]; rfl
  have ready_spec : ∀ {i},i ∈ Region.ready .any ops listed→i<ops.size∧listed.getD i true=false ∧ ∃ o,ops[i]? = some o ∧ ∀ e ∈ o.after,Region.binds .any e=true→listed.getD e.on false=true:=by
   intro i hi
   simp only [Region.ready,List.mem_filter,List.mem_range,Bool.and_eq_true,Bool.not_eq_true'] at hi
   obtain⟨h1,h2,h3⟩:=hi
   obtain⟨o,ho⟩ : ∃ o,ops[i]? = some o:=⟨_,Array.getElem?_eq_getElem h1⟩
   rw [ho] at h3
   simp only [Option.map_some,Option.getD_some,Array.all_eq_true] at h3
   refine⟨h1,h2,o,ho,fun e he hb=>?_⟩
   obtain⟨m,hm,rfl⟩:=Array.mem_iff_getElem.1 he
   have:=h3 m hm
   simpa [hb] using this
  have hex : ∃ i,i ∈ Region.ready .any ops listed:=by
   have hun : ∃ i,i<ops.size∧listed.getD i true=false:=by
    unfold left at hcnt
    have hne:(listed.toList.filter fun b => !b)≠[]:=by intro h0; rw [h0] at hcnt; simp at hcnt
    obtain⟨b,hb⟩:=List.exists_mem_of_ne_nil _ hne
    obtain⟨hb1,hb2⟩:=List.mem_filter.1 hb
    obtain⟨i,hi,rfl⟩:=List.mem_iff_getElem.1 hb1
    have hi':i<listed.size:=by simpa using hi
    refine⟨i,by rw [← hsz]; exact hi',?_⟩
    simp at hb2
    simp [hi',hb2]
   obtain⟨i0,hi0,hl0⟩:=hun
   obtain⟨s0,hs0⟩:=hp.cover i0 (by simpa using hi0)
   have key : ∀ (ys xs:Er),xs++ys=plan→(∀ p ∈ xs,Pg listed p.2=true)→(∃ p ∈ ys,Pg listed p.2=false) → ∃ xs' s i ys',xs'++(s,i)::ys'=plan∧(∀ p ∈ xs',Pg listed p.2=true)∧Pg listed i=false:=by
    intro ys
    induction ys with
    | nil=>rintro xs _ _ ⟨p,hp,_⟩; cases hp
    | cons y ys ihy=>
     intro xs hxy hxs hys
     cases hy:Pg listed y.2 with
     | false=>exact⟨xs,y.1,y.2,ys,hxy,hxs,hy⟩
     | true=>
      refine ihy (xs++[y]) (by rw [← hxy]; simp) (fun p hp=>?_) ?_
      ·rcases List.mem_append.1 hp with hp | hp
       ·exact hxs p hp
       ·simp at hp; subst hp; exact hy
      ·obtain⟨p,hp,hpf⟩:=hys
       rcases List.mem_cons.1 hp with rfl | hp
       ·rw [hy] at hpf; cases hpf
       ·exact⟨p,hp,hpf⟩
   have hLi0:Pg listed i0=false:=by
    have:i0<listed.size:=by rw [hsz]; exact hi0
    simp [Pg,this] at hl0 ⊢; exact hl0
   obtain⟨xs',s,i,ys',hx1,hx2,hx3⟩:=key plan [] rfl (fun p hp=>by cases hp) ⟨(s0,i0),hs0,hLi0⟩
   have hio:=Afh xs' [] ((s,i)::ys') (by rw [hx1]; exact hp.ord)
   obtain⟨o1,_,_,_⟩:=Ok hio
   have hib:i<ops.size:=by have:=hp.bound s i (by rw [← hx1]; simp); simpa using this
   refine⟨i,?_⟩
   simp only [Region.ready,List.mem_filter,List.mem_range,Bool.and_eq_true,Bool.not_eq_true']
   obtain⟨o,ho⟩ : ∃ o,ops[i]? = some o:=⟨_,Array.getElem?_eq_getElem hib⟩
   refine⟨hib,?_,?_⟩
   ·have:i<listed.size:=by rw [hsz]; exact hib
    simp [Pg,this] at hx3 ⊢; exact hx3
   ·rw [ho]
    simp only [Option.map_some,Option.getD_some,Array.all_eq_true]
    intro m hm
    cases hb:Region.binds .any o.after[m] with
    | false=>simp
    | true=>
     simp only [Bool.not_true,Bool.false_or]
     have hc:=hp.edges i o (by rw [Array.getElem?_toList]; exact ho) o.after[m] (Array.getElem_mem hm) hb
     obtain⟨s',hs'⟩:=o1 _ hc
     have:=hx2 (s',o.after[m].on) (by simpa using hs')
     exact this
  rw [hgo]
  cases hi:(Region.ready .any ops listed)[t % (Region.ready .any ops listed).length]? with
  | none=>
   exfalso
   obtain⟨i,hi'⟩:=hex
   cases hr:Region.ready .any ops listed with
   | nil=>rw [hr] at hi'; cases hi'
   | cons x xs=>
    rw [hr] at hi
    have hlt:t % (x::xs).length<(x::xs).length:=Nat.mod_lt _ (by simp)
    rw [List.getElem?_eq_getElem hlt] at hi
    cases hi
  | some i=>
   have hlist:Region.linearise.go .any ops (fuel+1) t listed []=i::Region.linearise.go .any ops fuel (t / (Region.ready .any ops listed).length) (listed.setIfInBounds i true) []:=by
    rw [hgo,hi]
    simp only
    rw [linearise_go_acc]
    simp only [List.reverse_singleton,List.singleton_append]
   rw [hlist] at hext
   simp only
   rw [linearise_go_acc]
   simp only [List.reverse_singleton,List.singleton_append]
   obtain⟨hib,hun,o,hoi,hpred⟩:=ready_spec (List.mem_of_getElem? hi)
   have hoi':ops.toList[i]? = some o:=by rw [Array.getElem?_toList]; exact hoi
   have hibl:i<listed.size:=by rw [hsz]; exact hib
   have hLi:Pg listed i=false:=by simp [Pg,hibl] at hun ⊢; exact hun
   have hcnt':left (listed.setIfInBounds i true)=fuel:=by have:=Ar0 hibl hun; omega
   have hsz':(listed.setIfInBounds i true).size=ops.size:=by simp [hsz]
   have hL' : ∀ j,Pg (listed.setIfInBounds i true) j=if j=i then true else Pg listed j:=by
    intro j
    unfold Pg
    by_cases hj:j=i
    ·subst hj; simp [hibl]
    ·rw [if_neg hj]; simp [Array.getElem?_setIfInBounds_ne (Ne.symm hj)]
   have hpre : ∀ j,cl pre i j=true→Pg listed j=true:=by
    intro j hj
    rcases hp.back i o hoi' j hj with⟨m,hx',hq⟩ | ⟨e,he,hb,hq⟩
    ·have hm:Pg listed m=true:=by
      rcases hext i m hx' with h1 | h1
      ·exact h1
      ·exact absurd (h1 [] _ rfl) (by simp)
     rcases hq with rfl | hq
     ·exact hm
     ·exact hg.closed _ _ hm hq
    have hon:Pg listed e.on=true:=hpred e he hb
    rcases hq with rfl | hq
    ·exact hon
    ·exact hg.closed _ _ hon hq
   have hext' : ∀ i' j',(i',j') ∈ ext→Pg (listed.setIfInBounds i true) j'=true∨Bef (Region.linearise.go .any ops fuel (t / (Region.ready .any ops listed).length) (listed.setIfInBounds i true) []) j' i':=by
    intro i' j' hm
    by_cases hj:i=j'
    ·subst hj; left; rw [hL' i,if_pos rfl]
    ·rcases hext i' j' hm with h1 | h1
     ·left; rw [hL' j']; split
      ·rfl
      ·exact h1
     ·exact .inr (Ash h1 hj)
   obtain⟨s,hs⟩:=hp.cover i (by simpa using hib)
   rw [← he] at hs
   rcases List.mem_append.1 hs with hs | hs
   ·
    have hsf:s=false:=by
     cases s with
     | false=>rfl
     | true=>have:=hg.sdone i hs; rw [hLi] at this; cases this
    subst hsf
    obtain⟨frj,v,oj,j1,j2,j3,j4,j5,j6⟩:=hg.pends i hs hLi
    rw [hoi'] at j2; cases j2
    have hag : ∀ t ∈ Tg ops.toList o,frj t=fra t:=by
     intro t ht
     rcases j6 t ht with⟨s',m,om,m1,m2,m3,m4,m5,m6⟩ | hf
     ·rw [hpre m m5] at m2; cases m2
     ·exact hf.1
    have hv:aF P ops.toList fra h o=some v:=by rw [← Aso hag]; exact j3
    have hput : ∀ t,o.dst≠some t→Fu fra o.dst v t=fra t:=by
     intro t ht
     cases hd:o.dst with
     | none=>rfl
     | some t'=>rw [hd] at ht; simp only [Fu,upd]; rw [if_neg (fun hh=>ht (by rw [hh]))]
    have hputs : ∀ t,o.dst=some t→Fu fra o.dst v t=v:=by intro t ht; simp [ht,Fu,upd]
    have hnext:=ih (t / (Region.ready .any ops listed).length) (listed.setIfInBounds i true) done rest pend frc (Fu fra o.dst v) ds h u hext' hcnt' hsz' he ho ⟨?_,?_,?_,?_,?_⟩ ?_ hshape hx
    ·unfold aF at hv
     split at hv
     ·rename_i hw
      refine Abm hoi j4 hw ?_
      have:C5 P fra h o.op (fun v' h'=>v'=v∧h'=h):=Ah7 hv ⟨rfl,rfl⟩
      have hone : ∀ (K:AV→List AD→Ab→AU→Prop),K v ds h u→Ho P d (fun v fr ds h u=>Sa P f n d (.pan v false) fr ds h u Q) fra ds h u o.op K:=by
       intro K hK
       have hop:C5 P fra h o.op (fun v' h'=>K v' ds h' u):=Aky (fun v' h' hh=>by rw [hh.1,hh.2]; exact hK) this
       unfold Ho
       split
       ·rename_i hq; rw [hq] at hop; exact hop.elim
       ·rename_i hq; rw [hq] at hop; simp [C5,Jp] at hop
       ·rename_i hq; rw [hq] at hop; exact hop.elim
       ·rename_i hq; rw [hq] at hop; exact hop.elim
       ·exact hop
      exact hone _ hnext
     ·rename_i hw
      cases hv
      exact Z7 hoi j4 hw hnext
     ·cases hv
    ·intro j hj
     rw [hL' j] at hj
     by_cases hji:j=i
     ·subst hji; exact⟨false,hs⟩
     ·rw [if_neg hji] at hj; exact hg.sub j hj
    ·intro j hj; rw [hL' j]; split
     ·rfl
     ·exact hg.sdone j hj
    ·intro a b ha hab
     rw [hL' a] at ha; rw [hL' b]
     by_cases hb:b=i
     ·rw [if_pos hb]
     ·rw [if_neg hb]
      by_cases hai:a=i
      ·subst hai; exact hpre b hab
      ·rw [if_neg hai] at ha; exact hg.closed a b ha hab
    ·intro t
     by_cases ht:o.dst=some t
     ·right; rw [hputs t ht,j5 t ht]
     ·rw [hput t ht]
      rcases hg.frame t with⟨s',m,om,m1,m2,m3,m4⟩ | hf
      ·by_cases hmi:m=i
       ·subst hmi; rw [hoi'] at m3; cases m3; exact absurd m4 ht
       ·exact .inl ⟨s',m,om,m1,by rw [hL' m,if_neg hmi]; exact m2,m3,m4⟩
      ·exact .inr hf
    ·intro j hj hLj
     rw [hL' j] at hLj
     by_cases hji:j=i
     ·rw [if_pos hji] at hLj; cases hLj
     ·rw [if_neg hji] at hLj
      obtain⟨frj',v',oj',q1,q2,q3,q4,q5,q6⟩:=hg.pends j hj hLj
      refine⟨frj',v',oj',q1,q2,q3,q4,q5,fun t ht=>?_⟩
      by_cases htd:o.dst=some t
      ·right
       rw [hputs t htd]
       rcases q6 t ht with⟨s',m,om,m1,m2,m3,m4,m5,m6⟩ | hf
       ·have hmi:m=i:=by
         by_cases hmi:m=i
         ·exact hmi
         ·exact absurd m4 (hp.dsts m i om o t hmi m3 hoi' htd)
        subst hmi
        refine⟨by rw [m6]; exact j5 t htd,fun m' om' m3' m4' m5'=>?_⟩
        have hmm:m'=m:=by
         by_cases hmi:m'=m
         ·exact hmi
         ·exact absurd m4' (hp.dsts m' m om' o t hmi m3' hoi' htd)
        subst hmm
        rw [hL' m',if_pos rfl]
       ·exfalso
        rcases hp.reads j i oj' o t hji q2 hoi' htd ht with hc | hc
        ·have:=hf.2 i o hoi' htd hc
         rw [hLi] at this; cases this
        ·rw [hpre j hc] at hLj; cases hLj
      ·rcases q6 t ht with⟨s',m,om,m1,m2,m3,m4,m5,m6⟩ | hf
       ·by_cases hmi:m=i
        ·subst hmi; rw [hoi'] at m3; cases m3; exact absurd m4 htd
        ·exact .inl ⟨s',m,om,m1,by rw [hL' m,if_neg hmi]; exact m2,m3,m4,m5,m6⟩
       ·right
        rw [hput t htd]
        exact⟨hf.1,fun m om m3 m4 m5=>by rw [hL' m]; split <;> first | rfl | exact hf.2 m om m3 m4 m5⟩
    ·intro j hj
     rw [hL' j]
     by_cases hji:j=i
     ·subst hji
      obtain⟨s',hs'⟩:=hj
      exact absurd hs (Ag6 ho hs' false)
     ·rw [if_neg hji]; exact hL j hj
   ·
    obtain⟨r,rfl,rfl⟩ : ∃ r,s=true∧rest=(true,i)::r:=by
     rcases hshape with rfl | ⟨i0,r,rfl⟩
     ·cases hs
     ·rcases List.mem_cons.1 hs with hq | hq
      ·cases hq; exact⟨r,rfl,rfl⟩
      ·exfalso
       obtain⟨_,_,_,o4⟩:=Ok ho
       have hc:=Akp (i0:=i0) o4 (by simp) hq
       have:=hL i0 ⟨true,List.mem_cons_self ..⟩
       rw [hpre i0 hc] at this; cases this
    obtain⟨o1,o2,o3,o4⟩:=Ok ho
    have hag : ∀ t ∈ Tg ops.toList o,frc t=fra t:=by
     intro t ht
     rcases hg.frame t with⟨s',m,om,m1,m2,m3,m4⟩ | hf
     ·exfalso
      have hmi:m≠i:=fun hh=>o3 s' (hh ▸ m1)
      rcases hp.reads i m o om t (Ne.symm hmi) hoi' m3 m4 ht with hc | hc
      ·rw [hpre m hc] at m2; cases m2
      ·obtain⟨s2,hs2⟩:=Ahk he hp.ord m1 hc
       exact o3 s2 hs2
     ·exact hf.symm
    simp only [J9,hoi'] at hx
    obtain⟨hdst,hx⟩:=hx
    have after : ∀ (v:AV) (ds':List AD) (h':Ab) (u':AU),(∀ {j frj v' oj},(j,frj,v') ∈ pend→cl pre i j=false→ops.toList[j]? = some oj→aF P ops.toList frj h oj=some v'→aF P ops.toList frj h' oj=some v') →
      J9 P n d ops.toList pre (fun fr ds h u=>Ex P f n d k fr ds h u Q) (fun v fr ds h u=>Sa P f n d (.pan v false) fr ds h u Q) r pend (Fu frc o.dst v) ds' h' u' →
      Ex P f n d (.inRegion ops (Region.linearise.go .any ops fuel (t / (Region.ready .any ops listed).length) (listed.setIfInBounds i true) [])::k) (Fu fra o.dst v) ds' h' u' Q:=by
     intro v ds' h' u' hstab hplan
     have hput : ∀ (fr:Nat→AV) t,o.dst≠some t→Fu fr o.dst v t=fr t:=by
      intro fr t ht
      cases hd:o.dst with
      | none=>rfl
      | some t'=>rw [hd] at ht; simp only [Fu,upd]; rw [if_neg (fun hh=>ht (by rw [hh]))]
     have hputs : ∀ (fr:Nat→AV) t,o.dst=some t→Fu fr o.dst v t=v:=by intro fr t ht; simp [ht,Fu,upd]
     have hg':Good P n ops.toList pre h' (done++[(true,i)]) pend (Pg (listed.setIfInBounds i true)) (Fu frc o.dst v) (Fu fra o.dst v):=by
      refine⟨fun j hj=>?_,fun j hj=>?_,fun a b ha hab=>?_,fun t=>?_,fun j hj hLj=>?_⟩
      ·rw [hL' j] at hj
       by_cases hji:j=i
       ·subst hji; exact⟨true,by simp⟩
       ·rw [if_neg hji] at hj; obtain⟨s',hs'⟩:=hg.sub j hj; exact⟨s',by simp [hs']⟩
      ·rw [hL' j]
       split
       ·rfl
       ·rename_i hji
        simp only [List.mem_append,List.mem_singleton,Prod.mk.injEq,true_and] at hj
        rcases hj with hj | hj
        ·exact hg.sdone j hj
        ·exact absurd hj hji
      ·rw [hL' a] at ha; rw [hL' b]
       by_cases hb:b=i
       ·rw [if_pos hb]
       ·rw [if_neg hb]
        by_cases hai:a=i
        ·subst hai; exact hpre b hab
        ·rw [if_neg hai] at ha; exact hg.closed a b ha hab
      ·by_cases ht:o.dst=some t
       ·right; rw [hputs _ t ht,hputs _ t ht]
       ·rw [hput _ t ht,hput _ t ht]
        rcases hg.frame t with⟨s',m,om,m1,m2,m3,m4⟩ | hf
        ·have hmi:m≠i:=fun hh=>o3 s' (hh ▸ m1)
         exact .inl ⟨s',m,om,by simp [m1],by rw [hL' m,if_neg hmi]; exact m2,m3,m4⟩
        ·exact .inr hf
      ·rw [hL' j] at hLj
       by_cases hji:j=i
       ·rw [if_pos hji] at hLj; cases hLj
       ·rw [if_neg hji] at hLj
        simp only [List.mem_append,List.mem_singleton,Prod.mk.injEq,Bool.false_eq_true,false_and,or_false] at hj
        obtain⟨frj',v',oj',q1,q2,q3,q4,q5,q6⟩:=hg.pends j hj hLj
        have hncl:cl pre i j=false:=by
         cases hq:cl pre i j with
         | false=>rfl
         | true=>rw [hpre j hq] at hLj; cases hLj
        refine⟨frj',v',oj',q1,q2,hstab q1 hncl q2 q3,q4,fun t ht=>?_,fun t ht=>?_⟩
        ·rw [hput _ t (hp.dsts i j o oj' t (Ne.symm hji) hoi' q2 ht)]; exact q5 t ht
        ·rcases q6 t ht with⟨s',m,om,m1,m2,m3,m4,m5,m6⟩ | hf
         ·have hmi:m≠i:=fun hh=>o3 s' (hh ▸ m1)
          exact .inl ⟨s',m,om,by simp [m1],by rw [hL' m,if_neg hmi]; exact m2,m3,m4,m5,by rw [hput _ t (hp.dsts i m o om t (Ne.symm hmi) hoi' m3 m4)]; exact m6⟩
         ·right
          have htd:o.dst≠some t:=by
           intro htd
           rcases hp.reads j i oj' o t hji q2 hoi' htd ht with hc | hc
           ·have:=hf.2 i o hoi' htd hc
            rw [hLi] at this; cases this
           ·rw [hncl] at hc; cases hc
          rw [hput _ t htd]
          exact⟨hf.1,fun m om m3 m4 m5=>by rw [hL' m]; split <;> first | rfl | exact hf.2 m om m3 m4 m5⟩
     have hLr : ∀ j,(∃ s,(s,j) ∈ r)→Pg (listed.setIfInBounds i true) j=false:=by
      rintro j ⟨s',hs'⟩
      rw [hL' j]
      have hji:j≠i:=by
       intro hh; subst hh
       exact Ag6 o4 hs' true (by simp)
      rw [if_neg hji]
      exact hL j ⟨s',List.mem_cons_of_mem _ hs'⟩
     obtain⟨done',rest',pend',frc',e1,e2,e3,e4,e5,e6⟩:=Ag8 hp r (done++[(true,i)]) pend _ (by rw [← he]; simp) o4 hg' hLr hplan
     exact ih _ _ done' rest' pend' frc' _ ds' h' u' hext' hcnt' hsz' e1 e2 e3 e4 e6 e5
    split at hx
    ·exact hx.elim
    ·rename_i hw
     rw [Xe hag] at hw
     exact Z7 hoi hdst hw (after .und ds h u (fun _ _ _ hq=>hq) hx)
    ·rename_i hw
     rw [Xe hag] at hw
     refine Abm hoi hdst hw ?_
     refine Am4 (Ai5 hag) (fun v h' hU=>?_) (Aqz (fun v ds' h' u' hk=>after v ds' h' u' (fun hm hc hoj _=>Afo hk.1 hm hc hoj) hk.2) (fun _ _ hu=>hu) hx)
     exact hU fra fun t ht=>by
      rcases hg.frame t with⟨s',m,om,m1,m2,m3,m4⟩ | hf
      ·exact absurd m4 (ht om (List.mem_of_getElem? m3))
      ·exact hf
theorem Ah1 {id:Nat}{l:List Oper}{fr:Nat→AV}{ds:List AD}{h:Ab}{u:AU}(hm:P.follows .mixedOrders=true)
  (hc : ∀ sch:List Nat,∃ ext pre plan,Wt ext l pre plan=true∧(∀ i j,(i,j) ∈ ext→Bef sch j i)∧J9 P n d l pre (fun fr ds h u=>Ex P f n d k fr ds h u Q) (fun v fr ds h u=>Sa P f n d (.pan v false) fr ds h u Q) plan [] fr ds h u) :
  Ex P f n d (.code (.region id ⟨l⟩ true)::k) fr ds h u Q:=by
 intro B mu w a cs p
 have hst:=stepR_region_draw (P:=P) (b:=b0 f d) (a:=a) (k:=k) (cs:=cs) (w:=w) (ops:=⟨l⟩) (id:=id)
 simp only [Region.schedule,hm,Bool.true_or,if_true] at hst
 have hd:=p.sim.drew
 obtain⟨ext,pre,plan,hok,hbef,hx'⟩:=hc (Region.linearise.go .any ⟨l⟩ l.length (w.tape w.drawn (.order (b0 f d).fn id)) (Array.replicate l.length false) [])
 have hP:=Ak4 hok
 have hinit:Good P n l pre h [] [] (Pg (Array.replicate l.length false)) fr fr:=
  ⟨fun i hi=>(by rw [Ad9] at hi; cases hi),fun i hi=>(by cases hi),fun i j hi=>(by rw [Ad9] at hi; cases hi),fun t=>.inr rfl,fun j hj=>(by cases hj)⟩
 obtain⟨done',rest',pend',frc',e1,e2,e3,e4,e5,e6⟩:=Ag8 (P:=P) (n:=n) (d:=d) hP plan [] [] fr rfl hP.ord hinit (fun i _=>Ad9 _ i) hx'
 have:=Aqq (ops:=⟨l⟩) hP l.length (w.tape w.drawn (.order (b0 f d).fn id)) (Array.replicate l.length false) done' rest' pend' frc' fr ds h u (fun i j hm=>.inr (hbef i j hm)) (by simp [left]) (by simp) e1 e2 e3 e4 e6 e5
 exact .head hst (.ext hd.2 (this B mu w.drew a cs (p.ext hd.2 hd.1)))
theorem Aq7 {id:Nat}{l:List Oper}{fr:Nat→AV}{ds:List AD}{h:Ab}{u:AU}(hm:P.follows .mixedOrders=true)(pre:List (List Nat))(plan:Er)(hp:Af4 l pre plan=true)
  (hx : ∀ (K:KT) (U:AV→KT),(∀ fr ds h u,Ex P f n d k fr ds h u Q→K fr ds h u)→(∀ v fr ds h u,Sa P f n d (.pan v false) fr ds h u Q→U v fr ds h u)→J9 P n d l pre K U plan [] fr ds h u) :
  Ex P f n d (.code (.region id ⟨l⟩ true)::k) fr ds h u Q:=
 Ah1 hm fun sch=>⟨[],pre,plan,hp,fun _ _ hm=>absurd hm List.not_mem_nil,hx _ _ (fun _ _ _ _ h=>h) (fun _ _ _ _ _ h=>h)⟩
inductive DT where
 | leaf (pre:List (List Nat)) (plan:Er)
 | node (i j:Nat) (A B:DT)
def DT.ok (all:List Oper):List (Nat×Nat)→DT→Bool
 | ext,.leaf pre plan=>Wt ext all pre plan
 | ext,.node i j A B => !Nat.beq i j&&A.ok all ((i,j)::ext)&&B.ok all ((j,i)::ext)
def DT.each (p:List (List Nat)→Er→Prop):DT→Prop
 | .leaf pre plan=>p pre plan
 | .node _ _ A B=>A.each p∧B.each p
theorem DT.mono {p q:List (List Nat)→Er→Prop}(hpq : ∀ pre plan,p pre plan→q pre plan) : ∀ T:DT,T.each p→T.each q
 | .leaf pre plan,h=>hpq _ _ h
 | .node _ _ A B,h=>⟨A.mono hpq h.1,B.mono hpq h.2⟩
theorem DT.pick {all:List Oper}{p:List (List Nat)→Er→Prop}(sch:List Nat) : ∀ (T:DT) (ext:List (Nat×Nat)),T.ok all ext=true→(∀ i j,(i,j) ∈ ext→Bef sch j i)→T.each p → ∃ ext pre plan,Wt ext all pre plan=true∧(∀ i j,(i,j) ∈ ext→Bef sch j i)∧p pre plan
 | .leaf pre plan,ext,h,hb,hx=>⟨ext,pre,plan,h,hb,hx⟩
 | .node i j A B,ext,h,hb,hx=>by
  simp only [DT.ok,Bool.and_eq_true,Bool.not_eq_true'] at h
  obtain⟨⟨h1,h2⟩,h3⟩:=h
  have hne:i≠j:=fun e=>by subst e; simp at h1
  rcases Au8 sch hne with hq | hq
  ·exact DT.pick sch A _ h2 (fun a b hm=>by
    rcases List.mem_cons.1 hm with hm | hm
    ·cases hm; exact hq
    ·exact hb a b hm) hx.1
  ·exact DT.pick sch B _ h3 (fun a b hm=>by
    rcases List.mem_cons.1 hm with hm | hm
    ·cases hm; exact hq
    ·exact hb a b hm) hx.2
theorem Ap4 {id:Nat}{l:List Oper}{fr:Nat→AV}{ds:List AD}{h:Ab}{u:AU}(hm:P.follows .mixedOrders=true)(T:DT)(hT:T.ok l []=true)
  (hx : ∀ (K:KT) (U:AV→KT),(∀ fr ds h u,Ex P f n d k fr ds h u Q→K fr ds h u)→(∀ v fr ds h u,Sa P f n d (.pan v false) fr ds h u Q→U v fr ds h u)→T.each fun pre plan=>J9 P n d l pre K U plan [] fr ds h u) :
  Ex P f n d (.code (.region id ⟨l⟩ true)::k) fr ds h u Q:=
 Ah1 hm fun sch=>T.pick sch [] hT (fun _ _ hm=>absurd hm List.not_mem_nil) (hx _ _ (fun _ _ _ _ h=>h) (fun _ _ _ _ _ h=>h))
end
end Go.Am
namespace Go.Am
open Go
set_option linter.unusedSectionVars false
set_option linter.unusedSimpArgs false
set_option linter.unusedVariables false
set_option linter.unusedSectionVars false
def Wf (v:AV):Prop := ∃ w mu M c,Rv w mu M v c
theorem RV.wf {h:Ab}{mu:Mu}{w:World}{v:AV}{c:Value}(k:RV h mu w v c):Wf v:=⟨w,mu,Ci h mu,c,k⟩
theorem Wf.lim {st:Nat}{rows:List (List AV)}(k:Wf (.sl st rows)):rows.length≤Bt:=by
 obtain⟨w,mu,M,c,k⟩:=k
 cases k with
 | sl0=>simp
 | sl _ _ b off cap vs hcap hlim=>exact hlim
theorem Wf.cell {st:Nat}{rows:List (List AV)}(k:Wf (.sl st rows)){i j:Nat}(hi:i<rows.length)(hj:j<st):Wf (cell rows i j):=by
 obtain⟨w,mu,M,c,k⟩:=k
 cases k with
 | sl0=>simp at hi
 | sl _ _ b off cap vs hcap hlim h1 h2=>exact⟨w,mu,M,_,h2 i j hi hj⟩
theorem Wf.row {st:Nat}{rows:List (List AV)}(k:Wf (.sl st rows)){r:List AV}(hr:r ∈ rows):Cm st r:=by
 obtain⟨w,mu,M,c,k⟩:=k
 cases k with
 | sl0=>cases hr
 | sl _ _ b off cap vs hcap hlim h1 h2 hrr=>exact hrr r hr
theorem Wf.agg {cs:List AV}(k:Wf (.agg cs)){i:Nat}(hi:i<cs.length):Wf (cs.getD i .und):=by
 obtain⟨w,mu,M,c,k⟩:=k
 cases k with
 | agg _ vs hl h=>exact⟨w,mu,M,_,h i hi⟩
theorem Wf.tup {cs:List AV}(k:Wf (.tup cs)){i:Nat}(hi:i<cs.length):Wf (cs.getD i .und):=by
 obtain⟨w,mu,M,c,k⟩:=k
 cases k with
 | tup _ vs hl h=>exact⟨w,mu,M,_,h i hi⟩
theorem Wf.cp {row:List AV}{c:Nat}(k:Wf (.cp row c)){i:Nat}(hi:i<row.length):Wf (row.getD i .und):=by
 obtain⟨w,mu,M,c,k⟩:=k
 cases k with
 | cp _ _ b off vs h1 h2=>exact⟨w,mu,M,_,h2 i hi⟩
theorem Wf.ref {o g off len:Nat}(k:Wf (.ref o g off len)):len≤Bt:=by
 obtain⟨w,mu,M,c,k⟩:=k
 cases k with
 | ref _ _ _ _ cap l h hc hcap hlim=>exact hlim
theorem Wf.func {fn:Fn}{f c:List AV}(k:Wf (.func fn f c)):(∀ i,i<f.length→Wf (f.getD i .und)) ∧ ∀ i,i<c.length→Wf (c.getD i .und):=by
 obtain⟨w,mu,M,c,k⟩:=k
 cases k with
 | func _ _ _ f2 c2 hf hc h1 h2=>exact⟨fun i hi=>⟨w,mu,M,_,h1 i hi⟩,fun i hi=>⟨w,mu,M,_,h2 i hi⟩⟩
section
variable {P:Program} [GW P] {f:FuncId} {n:Nat} {d:FK} {fr:Nat→AV} {ds:List AD} {h h2:Ab} {u:AU} {Q:QT} {k:List Item}
theorem Au7 {todo:List Item}(t:Nat)(hr:Wf (fr t)→Ex P f n d todo fr ds h u Q):Ex P f n d todo fr ds h u Q:=
 fun B mu w a cs p=>hr (p.fr t).wf B mu w a cs p
end
end Go.Am
namespace Go.Am
open Go
set_option linter.unusedSectionVars false
theorem Atd {α:Type}(h:Nat→α)(o:Nat)(x y:α):upd (upd h o x) o y=upd h o y:=by
 funext p
 unfold upd
 split <;> rfl
theorem Aki {α:Type}(h:Nat→α){o p:Nat}(x y:α)(hne:o≠p):upd (upd h o x) p y=upd (upd h p y) o x:=by
 funext q
 unfold upd
 split
 ·rename_i hq; subst hq; rw [if_neg (fun e=>hne e.symm)]
 ·rfl
theorem Amv {h:Ab}{o:Nat}{x:Option AO}(ho:h o=none):G4 h (upd h o x):=fun p y hp=>by
 unfold upd
 rw [if_neg]
 ·exact hp
 ·rintro rfl; rw [ho] at hp; cases hp
theorem G4.upd {h h':Ab}(hs:G4 h h')(o:Nat)(x:Option AO):G4 (upd h o x) (upd h' o x):=fun p y hp=>by
 unfold Go.Am.upd at hp ⊢
 split
 ·rename_i hq; rwa [if_pos hq] at hp
 ·rename_i hq; rw [if_neg hq] at hp; exact hs p y hp
theorem G4.trans {h1 h2 h3:Ab}(a:G4 h1 h2)(b:G4 h2 h3):G4 h1 h3:=fun p x hp=>b p x (a p x hp)
theorem Jh {h:Ab}{st:Nat}{rs:List (List AV)}{K:Nat→Nat→Ab→Prop}(o:Nat)(ho:h o=none)(hk : ∀ g,K o g (upd h o (some (.rows g st rs)))):Q2 h st rs K:=⟨o,ho,hk⟩
theorem Akw {h:Ab}{K:AV→Ab→Prop}(o:Nat)(ho:h o=none)(hk : ∀ g,K (.map o g) (upd h o (some (.mp g [])))):Y4 h K:=⟨o,ho,hk⟩
structure Going (P:Program)[GW P](f:FuncId)(n:Nat)(d:FK)(k:List Item)(Q:QT)(K:KT)(U:AV→KT):Prop where
 run : ∀ fr ds h u,Ex P f n d k fr ds h u Q→K fr ds h u
 unw : ∀ v fr ds h u,Sa P f n d (.pan v false) fr ds h u Q→U v fr ds h u
section
variable {P:Program} [GW P] {f:FuncId} {n:Nat} {d:FK} {fr:Nat→AV} {ds:List AD} {h:Ab} {u:AU} {Q:QT} {k:List Item}
theorem Aum {id:Nat}{l:List Oper}(hm:P.follows .mixedOrders=true)(pre:List (List Nat))(plan:Er)(hp:Af4 l pre plan=true)
  (hx : ∀ (K:KT) (U:AV→KT),Going P f n d k Q K U→J9 P n d l pre K U plan [] fr ds h u) :
  Ex P f n d (.code (.region id ⟨l⟩ true)::k) fr ds h u Q:=Aq7 hm pre plan hp fun K U hK hU=>hx K U ⟨hK,hU⟩
theorem Ar6 {id:Nat}{l:List Oper}(hm:P.follows .mixedOrders=true)(T:DT)(hT:T.ok l []=true)
  (hx : ∀ (K:KT) (U:AV→KT),Going P f n d k Q K U→T.each fun pre plan=>J9 P n d l pre K U plan [] fr ds h u) :
  Ex P f n d (.code (.region id ⟨l⟩ true)::k) fr ds h u Q:=Ap4 hm T hT fun K U hK hU=>hx K U ⟨hK,hU⟩
end
theorem Arv {n:Int}(h0:0≤n)(h:n<9223372036854775808):IntKind.i64.wrap n=n:=by
 simp [IntKind.wrap,IntKind.bits,IntKind.signed]
 omega
theorem Apt {n:Nat}(h:n≤Bt):IntKind.i64.wrap ((n:Int)+1)=((n+1:Nat):Int):=by
 rw [Arv] <;> simp [Bt] at * <;> omega
end Go.Am
namespace Go.Am
open Go
set_option linter.unusedSectionVars false
def Own (h0 h:Ab)(v:AV)(st:Nat)(rows:List (List AV)):Prop:=
 (v=.emp∧rows=[]∧h=h0) ∨ ∃ o g,h0 o=none∧v=.ref o g 0 rows.length∧h=upd h0 o (some (.rows g st rows))
theorem Own.sub {h0 h:Ab}{v:AV}{st:Nat}{rows:List (List AV)}(k:Own h0 h v st rows):G4 h0 h:=by
 rcases k with⟨_,_,rfl⟩ | ⟨o,g,ho,_,rfl⟩
 ·exact G4.refl _
 ·exact Amv ho
theorem Own.fz {h0 h:Ab}{v:AV}{st:Nat}{rows:List (List AV)}(k:Own h0 h v st rows)(hr : ∀ r ∈ rows,Cm st r):Fz h h0 v (.sl st rows):=by
 rcases k with⟨rfl,rfl,_⟩ | ⟨o,g,ho,rfl,rfl⟩
 ·exact .emp st
 ·exact .ref o g 0 rows.length st rows rows (by simp [upd]) ho rfl (by simp) hr (fun i j _ _=>by rw [Nat.zero_add]; exact .same _)
theorem Own.first {h0:Ab}{o g st:Nat}{rows:List (List AV)}(ho:h0 o=none):Own h0 (upd h0 o (some (.rows g st rows))) (.ref o g 0 rows.length) st rows:=.inr ⟨o,g,ho,rfl,rfl⟩
end Go.Am
namespace Go.Am
open Go
set_option linter.unusedSectionVars false
section
variable {P:Program} [GW P] {f:FuncId} {n:Nat} {d:FK} {fr:Nat→AV} {ds:List AD} {h:Ab} {u:AU}
@[congr] theorem Aya {x x':Option AV}{K:AV→Ab→Prop}(hx:x=x'):L9 x h K=L9 x' h K:=by rw [hx]
@[congr] theorem Ax9 {o:BinOp}{t:TypeId}{y:Operand}{vx vx' vy vy':AV}{K:AV→Ab→Prop}(hx:vx=vx')(hy:vy=vy'):Te P o t y vx vy h K=Te P o t y vx' vy' h K:=by rw [hx,hy]
@[congr] theorem Ayc {U:AV→KT}{op:Op}{K:AV→List AD→Ab→AU→Prop}:Ho P d U fr ds h u op K=Ho P d U fr ds h u op K:=rfl
@[congr] theorem Ayj {op:Op}{K:AV→Ab→Prop}:C5 P fr h op K=C5 P fr h op K:=rfl
@[congr] theorem Ayd {all:List Oper}{K:KT}{U:AV→KT}{l:List Oper}:Anr P n d all K U l fr ds h u=Anr P n d all K U l fr ds h u:=rfl
@[congr] theorem Axt {all:List Oper}{pre:List (List Nat)}{K:KT}{U:AV→KT}{pl:Er}{pend:Jl}:J9 P n d all pre K U pl pend fr ds h u=J9 P n d all pre K U pl pend fr ds h u:=rfl
@[congr] theorem Ax8 {g:FuncId}{args args':List AV}{K E:AV→Ab→Prop}(ha:args=args'):Ae0 P g args h K E=Ae0 P g args' h K E:=by rw [ha]
@[congr] theorem Av6 {b:Builtin}{ts:List TypeId}{args:List AV}{K:AV→Ab→Prop}:Jp P h b ts args K=Jp P h b ts args K:=rfl
@[congr] theorem Awt {sT xT:TypeId}{s s' x x':AV}{K:AV→Ab→Prop}(hs:s=s')(hx:x=x'):Nx P h sT xT s x K=Nx P h sT xT s' x' K:=by rw [hs,hx]
@[congr] theorem Atn {t:TypeId}{k:Nat}{ps ps':List (Nat×AV)}{K:AV→Ab→Prop}(hp:ps=ps'):In P h t k ps K=In P h t k ps' K:=by rw [hp]
@[congr] theorem Ax0 {t:TypeId}{l l' c c':AV}{K:AV→Ab→Prop}(hl:l=l')(hc:c=c'):U0 P h t l c K=U0 P h t l' c' K:=by rw [hl,hc]
@[congr] theorem Aye {st:Nat}{rs rs':List (List AV)}{K:Nat→Nat→Ab→Prop}(hr:rs=rs'):Q2 h st rs K=Q2 h st rs' K:=by rw [hr]
@[congr] theorem Awe {K:AV→Ab→Prop}:Y4 h K=Y4 h K:=rfl
end
end Go.Am
namespace Go.Am
open Go
set_option linter.unusedSectionVars false
section
variable {P:Program} [GW P] {f:FuncId} {n:Nat} {fr:Nat→AV} {h h2:Ab} {u:AU} {Q:QT}
theorem Aev {fn:Func}{v v':AV}(hf:P.funcs[f]? = some fn)(hs:G4 h2 h)(hz:Fz h h2 v v')(hq:Q (.panic v') h2 u):Sa P f n false (.pan v false) fr [] h u Q:=by
 intro B mu w a cs todo mode p hm
 have hd:a.defers=[]:=p.ds
 obtain⟨e,rfl,e1,e2,e3⟩:=hm.pan_inv
 exact⟨.panicked [e],w,cs,_,.panic v',h2,mu,u,hq,Steps.refl P _,rfl,rfl,⟨rfl,hd,fn,hf⟩,⟨e1,e2,J2 p.sim hs hz e3⟩,p.sim.sub hs,(Da.sub hs).g,rfl⟩
end
end Go.Am
namespace Go.Am
open Go
set_option linter.unusedSectionVars false
end Go.Am
namespace Go.Am
open Go
set_option linter.unusedSectionVars false
def Av1:Option Bool→Option Bool→Option Bool
 | some true,y=>y
 | some false,_=>some false
 | none,_=>none
theorem Aqs (a b:Bool):Av1 (some a) (some b)=some (a&&b):=by cases a <;> rfl
theorem Auj (P:Program)[GW P](rec:TypeId→AV→AV→Option Bool)(xs ys:List AV):Od P rec xs ys []=some true:=rfl
theorem Arc (P:Program)[GW P](rec:TypeId→AV→AV→Option Bool)(xs ys:List AV)(off:Nat)(ft:TypeId)(r:List (Nat×TypeId)) :
  Od P rec xs ys ((off,ft)::r)=match ti P ft with
   | none=>none
   | some F=>match Hh xs off F.size F.k.agg,Hh ys off F.size F.k.agg with
    | some a,some b=>Av1 (rec ft a b) (Od P rec xs ys r)
    | _,_=>none:=by
 rw [Od]
 cases ti P ft with
 | none=>rfl
 | some F=>
  simp only
  cases Hh xs off F.size F.k.agg <;> cases Hh ys off F.size F.k.agg <;> try rfl
  rename_i a b
  simp only
  cases rec ft a b with
  | none=>rfl
  | some c=>cases c <;> rfl
end Go.Am
namespace Go.Am
open Go
set_option linter.unusedSectionVars false
end Go.Am
