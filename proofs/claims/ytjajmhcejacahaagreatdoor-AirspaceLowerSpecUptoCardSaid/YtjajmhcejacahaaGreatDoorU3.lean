import Derived.Test.YtjajmhcejacahaaGreatDoorU2
set_option linter.all false
namespace Go.Am
open Go
abbrev AY:=@Nat.eq_of_beq_eq_true
abbrev CV:=@List.drop_eq_nil_of_le
abbrev DD:=@List.take_of_length_le
abbrev DS:=@List.cons_append
abbrev DV:=@List.drop_zero
abbrev EE:=@List.set_cons_zero
abbrev EF:=@List.set_cons_succ
abbrev EK:=@List.replicate_succ
abbrev EL:=@List.take_succ_cons
abbrev FB:=@List.take_zero
abbrev FC:=@List.range'_succ
abbrev FE:=@List.drop_succ_cons
abbrev FJ:=@List.getElem?_cons_succ
abbrev FQ:=@List.map_append
abbrev FS:=@List.getElem?_set
abbrev GO:=@cond_false
abbrev HR:=@Nat.add_comm
inductive Sc where
 |int (k:IntKind) (n:Int)
 |str (s:List UInt8)
 |bool (b:Bool)
 |unit
 |two (k1 k2:IntKind) (a b:Int)
 |one (k:IntKind) (a:Int)
 deriving DecidableEq
def Sc.av:Sc->AV
 |.int k n=>.int k n
 |.str s=>.str s
 |.bool b=>.bool b
 |.unit=>.agg []
 |.two k1 k2 a b=>.agg [.int k1 a,.int k2 b]
 |.one k a=>.agg [.int k a]
structure PV where
 t:TypeId
 x:Sc
 deriving DecidableEq
def PV.av (v:PV):AV:=.iface v.t v.x.av
inductive R (α:Type) where
 |ok (a:α)
 |pan (v:PV)
 |bad
 deriving DecidableEq
namespace R
variable{α:Type}{β:Type}
def bind:R α->(α->R β)->R β
 |ok a,f=>f a
 |pan v,_=>pan v
 |bad,_=>bad
@[simp] theorem ok_bind(a:α)(f:α->R β):(ok a).bind f=f a:=rfl
@[simp] theorem Bk0(v:PV)(f:α->R β):(pan v:R α).bind f=pan v:=rfl
@[simp] theorem Bnp(f:α->R β):(bad:R α).bind f=bad:=rfl
variable{γ:Type}
def bind_assoc(m:R α)(f:α->R β)(g:β->R γ):(m.bind f).bind g=m.bind λa=>(f a).bind g:=by cases m<;>rfl
@[simp] theorem bind_ok(m:R α):m.bind ok=m:=by cases m<;>rfl
def catch':R α->(PV->R α)->R α
 |ok a,_=>ok a
 |pan v,f=>f v
 |bad,_=>bad
@[simp] theorem Bm7(a:α)(f:PV->R α):(ok a).catch' f=ok a:=rfl
@[simp] theorem Bmp(v:PV)(f:PV->R α):(pan v).catch' f=f v:=rfl
@[simp] theorem Bmu(f:PV->R α):(bad:R α).catch' f=bad:=rfl
end R
variable{σ:Type}{ε:Type}{n:Nat}{body:σ→R (σ ⊕ ε)}
section
def Hf (body:σ->R (σ ⊕ ε)):Nat->σ->R ε
 |0,_=>.bad
 |n+1,s=>(body s).bind fun
  |.inl z=>Hf body n z
  |.inr e=>.ok e
def Awu (body:σ->R (σ ⊕ ε)):∀(n:Nat) (s:σ),Hf body n s≠.bad->Hf body (n+1) s=Hf body n s
 |0,s,h=>absurd rfl h
 |n+1,s,h=>by
  rw[Hf];rw[Hf]at h ⊢;cases z:body s with
  |bad=>rfl
  |pan v=>rfl
  |ok x=>
   rw[z]at h;cases x with
   |inr e=>rfl
   |inl A=>exact Awu body n A h
def A38(body:σ->R (σ ⊕ ε)){m:Nat}{s:σ}(z:n<=m)(h:Hf body n s≠.bad):Hf body m s=Hf body n s:=by
  induction m with
  | zero => have : n = 0 := by omega
            subst this;rfl
  |succ m A=>
    by_cases D:n=m+1
    . subst D;rfl
    .have e:=A (by omega);rw[Awu body m s (by rw[e];exact h),e]
open Classical in
noncomputable def Ayv (body:σ->R (σ ⊕ ε)) (s:σ):R ε:=if h:∃n,Hf body n s≠.bad then Hf body (Classical.choose h) s else .bad
@[irreducible] noncomputable def loop (body:σ->R (σ ⊕ ε))(s:σ):R ε:=
 match Hf body 3000 s with
 |.ok a=>.ok a
 |.pan v=>.pan v
 |.bad=>Ayv body s
def Afw{s:σ}(h:Hf body n s≠.bad):loop body s=Hf body n s:=by
 have same:∀{m k:Nat},Hf body m s≠.bad->Hf body k s≠.bad->Hf body m s=Hf body k s:=λ{m k} h1 h2=>by
  rcases Nat.le_total m k with z|z
  .exact(A38 body z h1).symm
  .exact A38 body z h2
 unfold loop;split
 .rename_i e;rw[<-e];exact same (by rw[e];simp) h
 .rename_i e;rw[<-e];exact same (by rw[e];simp) h
 .have A:∃n,Hf body n s≠.bad:=⟨n,h⟩;unfold Ayv;rw[dif_pos A];exact same (Classical.choose_spec A) h
def Ano{s:σ}(h:loop body s≠.bad):∃n,loop body s=Hf body n s:=by
 by_cases z:∃n,Hf body n s≠.bad
 .obtain⟨n,A⟩:=z;exact⟨n,Afw A⟩
 .exfalso;apply h;unfold loop;rw[show Hf body 3000 s=.bad from EZ λq=>z ⟨3000,q⟩];show Ayv body s=.bad;unfold Ayv;rw[dif_neg z]
def Ms (body:σ->R (σ ⊕ ε))(s:σ):loop body s=(body s).bind fun
  |.inl A=>loop body A
  |.inr e=>.ok e:=by
 cases D:body s with
 |pan v=>
  have:Hf body 1 s=.pan v:=by rw[Hf,D];rfl
  rw[Afw (n:=1) (by rw[this];simp),this];rfl
 |bad=>
  by_cases h:loop body s=.bad
  .rw[h];rfl
  .obtain⟨n,z⟩:=Ano h;cases n with
   |zero=>rw[z]at h;exact absurd rfl h
   |succ n=>rw[z,Hf,D];rfl
 |ok x=>
  cases x with
  |inr e=>
   have:Hf body 1 s=.ok e:=by rw[Hf,D];rfl
   rw[Afw (n:=1) (by rw[this];simp),this];rfl
  |inl A=>
   simp only[R.ok_bind];by_cases h':loop body A=.bad
   .rw[h'];by_cases h:loop body s=.bad
    .exact h
    .exfalso;obtain⟨n,z⟩:=Ano h;cases n with
     |zero=>rw[z]at h;exact absurd rfl h
     |succ n=>
      have e:Hf body (n+1) s=Hf body n A:=by rw[Hf,D];rfl
      rw[z,e]at h;rw[Afw h]at h';exact h h'
   .obtain⟨n,z⟩:=Ano h';have e:Hf body (n+1) s=Hf body n A:=by rw[Hf,D];rfl
    rw[z]at h';rw[z,<-e,Afw (n:=n+1) (by rw[e];exact h')]
end
variable{α:Type}
section
def each (body:Nat->α->σ->R (σ ⊕ ε)):Nat->List α->σ->R (σ ⊕ ε)
 |_,[],s=>.ok (.inl s)
 |k,a::l,s=>(body k a s).bind fun
  |.inl z=>each body (k+1) l z
  |.inr e=>.ok (.inr e)
@[simp] theorem Bnb (body:Nat->α->σ->R (σ ⊕ ε))(k:Nat)(s:σ):each body k [] s=.ok (.inl s):=rfl
def Abg (body:Nat->α->σ->R (σ ⊕ ε))(k:Nat)(a:α)(l:List α)(s:σ):each body k (a::l) s=(body k a s).bind fun
  |.inl z=>each body (k+1) l z
  |.inr e=>.ok (.inr e):=rfl
end
def idx(l:List α)(n:Int):R α:=if 0<=n then(match l[n.toNat]? with|some a=>.ok a|none=>.bad)else .bad
def Ac:List (Nat×AV)->Nat->AV
 |[],_=>.any
 |p::l,t=>bif Nat.beq t p.1 then p.2 else Ac l t
def Db (l:List (Nat×AV))(t:Nat)(v:AV):Hq (Ac l) (some t) v=Ac ((t,v)::l):=by
 funext s;simp only[Hq,upd,Ac];by_cases h:s=t
 .subst h;simp
 .have:Nat.beq s t=false:=by
   cases z:Nat.beq s t with
   |false=>rfl
   |true=>exact absurd (AY z) h
  rw[if_neg h,this];rfl
def hp (h0:Aa):List Nat->List (Option AO)->Aa
 |o::os,x::xs=>upd (hp h0 os xs) o x
 |_,_=>h0
structure Ids (h0:Aa)(ids:List Nat)(n:Nat):Prop where
 nodup:ids.Nodup
 fresh:∀o∈ids,h0 o=none
 len:ids.length=n
abbrev ix (ids:List Nat)(j:Nat):Nat:=ids.getD j 0
variable{h0:Aa}{ids:List Nat}{xs:List (Option AO)}{j:Nat}
section
def Aaa:∀{ids:List Nat} {xs:List (Option AO)} {o:Nat},o∉ids->hp h0 ids xs o=h0 o
 |[],_,o,_=>by cases ‹List (Option AO)›<;>rfl
 |a::ids,[],o,_=>rfl
 |a::ids,x::xs,o,h=>by simp only[AN,not_or]at h;simp only[hp];rw[Auc _ _ _ h.1];exact Aaa h.2
def Ayb:∀{ids:List Nat} {xs:List (Option AO)} {j:Nat} {x:Option AO},ids.Nodup->ids.length=xs.length->xs[j]?=some x->hp h0 ids xs (ix ids j)=x
 |[],[],j,x,_,_,h=>by simp at h
 |a::ids,y::xs,0,x,_,_,h=>by
  have:y=x:=by simpa using h
  subst this;simp[hp,ix,A09]
 |a::ids,y::xs,j+1,x,S,U,h=>by
  have z:=DY.1 S;have A:ids.length=xs.length:=by simpa using U
  have h':xs[j]?=some x:=by simpa using h
  have O:j<ids.length:=by
   rw[A];rcases CI j xs.length with D|D
   .exact D
   .rw[BA D]at h';cases h'
  have V:ix ids j∈ids:=by simp only[ix,List.getD,AA O,BH];exact BK O
  have e:ix (a::ids) (j+1)=ix ids j:=by simp[ix]
  rw[e];simp only[hp];have G:ix ids j≠a:=λq=>z.1 (by rw[<-q];exact V);rw[Auc _ _ _ G];exact Ayb z.2 A h'
def A1c:∀{ids:List Nat} {xs:List (Option AO)} {j:Nat} {x:Option AO},ids.Nodup->ids.length=xs.length->j<xs.length->upd (hp h0 ids xs) (ix ids j) x=hp h0 ids (xs.set j x)
 |[],[],j,x,_,_,h=>by simp at h
 |a::ids,y::xs,0,x,_,_,h=>by simp only[hp,ix,CY,EE,Bik]
 |a::ids,y::xs,j+1,x,G,O,h=>by
  have z:=DY.1 G;have A:ids.length=xs.length:=by simpa using O
  have h':j<xs.length:=by simpa using h
  have S:ix ids j∈ids:=by simp only[ix,List.getD,AA (A▸h':j<ids.length),BH];exact BK _
  have e:ix (a::ids) (j+1)=ix ids j:=by simp[ix]
  rw[e];simp only[hp,EF];have D:a≠ix ids j:=λq=>z.1 (by rw[q];exact S);rw[Bdv _ _ _ D,A1c z.2 A h']
def Ids.at(z:Ids h0 ids n){x:Option AO}(A:xs.length=n)(D:xs[j]?=some x):hp h0 ids xs (ix ids j)=x:=Ayb z.nodup (z.len.trans A.symm) D
def Ids.set(z:Ids h0 ids n){x:Option AO}(A:xs.length=n)(D:Nat.blt j n=true):upd (hp h0 ids xs) (ix ids j) x=hp h0 ids (xs.set j x):=A1c z.nodup (z.len.trans A.symm) (by rw[A];simpa using D)
def Ids.sub(A:Ids h0 ids n)(xs:List (Option AO)):Hv h0 (hp h0 ids xs):=by
 intro o x z;have:o∉ids:=λD=>by rw[A.fresh o D]at z;cases z
 rw[Aaa this];exact z
def Ids.out(A:Ids h0 ids n)(D:Nat.blt j n=true):h0 (ix ids j)=none:=by
 have z:j<ids.length:=by rw[A.len];simpa using D
 refine A.fresh _ ?_;simp only[ix,List.getD,AA z,BH];exact BK _
def Rw:∀{ids:List Nat} {k:Nat},(∀o∈ids,h0 o=none)->hp h0 ids (List.replicate k none)=h0
 |[],k,_=>by cases k<;>rfl
 |a::ids,0,_=>rfl
 |a::ids,k+1,h=>by
  simp only[EK,hp];rw[Rw (λo z=>h o (BC _ z))];funext o;unfold upd;split
  .rename_i A;subst A;exact(h _ (BE ..)).symm
  .rfl
end
def Ak0:∀{a b:List Nat} {xs ys:List (Option AO)},a.length=xs.length->hp h0 (a++b) (xs++ys)=hp (hp h0 b ys) a xs
 |[],b,[],ys,_=>by cases b<;>cases ys<;>rfl
 |o::a,b,x::xs,ys,h=>by simp only[DS,hp];rw[Ak0 (by simpa using h)]
def A2l {h0:Aa} : ∀ {ids:List Nat} {xs ys:List (Option AO)},ids.length=xs.length->ids.length=ys.length->ids.Nodup->(∀ o ∈ ids,h0 o=none)->(∀ j:Nat,ys[j]? = xs[j]? \/ ys[j]? = some none)->Hv (hp h0 ids ys) (hp h0 ids xs)
 | [],[],[],_,_,_,_,_=>HN _
 | a::ids,x::xs,y::ys,h1,h2,hn,hf,h=>by
  have ih:=A2l (h0:=h0) (ids:=ids) (xs:=xs) (ys:=ys) (by simpa using h1) (by simpa using h2) (DY.1 hn).2 (λo ho=>hf o (BC _ ho)) (λj=>by simpa using h (j+1))
  intro o z hz
  simp only [hp] at hz ⊢
  unfold upd at hz ⊢
  split
  .rename_i hq
   rw [if_pos hq] at hz
   rcases h 0 with h' | h' <;> simp at h'
   .rw [<- h']; exact hz
   .subst h'; cases hz
  .rename_i hq
   rw [if_neg hq] at hz
   exact ih o z hz
variable{P:Program}{f:FuncId}{d:FK}{fr:Nat→AV}{ds:List AD}{h:Aa}{u:AU}{k:List Item}{todo:List Item}
section
variable[GW P]{Q:QT}
def Aee(c:Nat)(z:List Nat)(hr:∀os:List Nat,os.length=c->os.Nodup->(∀o∈os,h o=none)->(∀o∈os,o∉z)->E8 P f n d todo fr ds h u Q):E8 P f n d todo fr ds h u Q:=by
 intro B mu w a cs p;obtain⟨N,G⟩:=p.sim.finh;have key:∃M,N<=M/\∀o∈z,o<M:=by
  clear hr;induction z with
  |nil=>exact⟨N,AF _,λo A=>by cases A⟩
  |cons a l O=>
   obtain⟨M,h1,h2⟩:=O;exact⟨max M (a+1),by omega,λo A=>by
    rcases AN.1 A with rfl|A
    .omega
    .have:=h2 o A;omega⟩
 obtain⟨M,h1,h2⟩:=key;exact hr ((List.range c).map (M+·)) (by simp) (by
  refine List.Pairwise.map _ (λa b D=>?_) List.nodup_range;simpa using D) (λo A=>by
   obtain⟨i,_,rfl⟩:=CC.1 A;exact G _ (by omega)) (λo A S=>by
   obtain⟨i,_,rfl⟩:=CC.1 A;have:=h2 _ S;omega) B mu w a cs p
end
abbrev Al:=List UInt8
def rI (k:IntKind)(n:Int):List AV:=[.int k n]
def rB (b:Bool):List AV:=[.bool b]
def rS (s:Al):List AV:=[.str s]
def rL(st:Nat)(e:α->List AV)(l:List α):List AV:=[.sl st (l.map e)]
def F0{r:List AV}(h1:r.length=n)(h2:r.all AV.flat=true):Cy n r:=⟨h1,λv z=>AJ.1 h2 v z⟩
def Dw {k:IntKind}(n:Int):Cy 1 (rI k n):=F0 rfl rfl
def A6f (b:Bool):Cy 1 (rB b):=F0 rfl rfl
def Bkd (s:Al):Cy 1 (rS s):=F0 rfl rfl
variable{st:Nat}{e:α→List AV}
def Ate(l:List α):Cy 1 (rL st e l):=F0 rfl rfl
def Vf(h:j<n)(z:n<=Bj):AV.int .i64 (IntKind.i64.wrap ((j:Int)+1))=.int .i64 ((j+1:Nat):Int):=by rw[A95 (by omega)]
variable{a:Nat}
def Cs(h:(List.range n)[j]?=some a):j<n/\a=j:=by
 rcases CI j n with z|z
 .simp[z]at h;exact⟨z,h.symm⟩
 .rw[BA (by simpa using z)]at h;cases h
structure Spec (β:Type) where
 V:R β->Prop
 bad:¬V .bad
 Q:R β->QT
variable{β:Type}
section
def WR (P:Program)[GW P](f:FuncId)(n:Nat)(d:FK)(Q:Spec β)(m:R β)(todo:List Item)(fr:Nat->AV)(ds:List AD)(h:Aa)(u:AU):Prop:=Q.V m->E8 P f n d todo fr ds h u (Q.Q m)
def WU (P:Program)[GW P](f:FuncId)(n:Nat)(d:FK)(Q:Spec β)(m:R β)(a:AU)(fr:Nat->AV)(ds:List AD)(h:Aa)(u:AU):Prop:=Q.V m->Xl P f n d a fr ds h u (Q.Q m)
def WO (P:Program)[GW P](f:FuncId)(n:Nat)(d:FK)(Q:Spec β)(k:List Item)(all:List Oper)(m:R β)(ops:List Oper)(fr:Nat->AV)(ds:List AD)(h:Aa)(u:AU):Prop:=Q.V m->∀i,(∀j,all[i+j]?=ops[j]?)->E8 P f n d (.inRegion ⟨all⟩ (List.range' i ops.length)::k) fr ds h u (Q.Q m)
end
variable{Q:Spec β}{m:R β}{l:List (Nat×AV)}{y:Code}{id:Nat}{c:Code}{b:Bool}{m':R β}{ops:List Oper}{ty:TypeId}{after:Array Edge}{op:Op}{v:AV}{tj:Nat}{want:Bool}{dst:Option Tmp}{i:Int}{h2:Aa}{N:Nat}
section
variable[GW P]
def Ajj:WR P f n d Q .bad todo fr ds h u:=λz=>absurd z Q.bad
def A8 (hr:WR P f n d Q m k fr ds h u):WR P f n d Q m (.code .skip::k) fr ds h u:=λz=>Beb (hr z)
def Ai{x:Code}(hr:WR P f n d Q m (.code x::.code y::k) fr ds h u):WR P f n d Q m (.code (.seq x y)::k) fr ds h u:=λz=>Bh2 (hr z)
def A3(hr:WR P f n d Q m (.code c::.inBlock id::k) fr ds h u):WR P f n d Q m (.code (.block id c)::k) fr ds h u:=λz=>A9u (hr z)
def Ci(hr:WR P f n d Q m k fr ds h u):WR P f n d Q m (.inBlock id::k) fr ds h u:=λz=>A25 (hr z)
def Di{k':List Item}(z:exitTo id k=some k')(hr:WR P f n d Q m k' fr ds h u):WR P f n d Q m (.code (.exit id)::k) fr ds h u:=λA=>Ben z (hr A)
def Gv{c:Operand}{x:Code}(b:Bool)(z:ev fr c=.bool b)(hr:WR P f n d Q m (.code (match b with|true=>x|false=>y)::k) fr ds h u):WR P f n d Q m (.code (.cond c x y)::k) fr ds h u:=λA=>V5 z (by cases b<;>exact hr A)
def Bjs{c:Operand}{x:Code}{p:Prop}[Decidable p]{A B:R β}(D:ev fr c=.bool (decide p))(ht:p->WR P f n d Q A (.code x::k) fr ds h u)(hf:¬p->WR P f n d Q B (.code y::k) fr ds h u):WR P f n d Q (if p then A else B) (.code (.cond c x y)::k) fr ds h u:=by
 intro z;refine V5 D ?_;by_cases hp:p
 .simp only[hp,decide_true,if_true]at z ⊢;exact ht hp z
 .simp only[hp,decide_false,BD,if_false]at z ⊢;exact hf hp z
def Bgd{c:Operand}{x:Code}{A B:R β}(G:ev fr c=.bool b)(ht:b=true->WR P f n d Q A (.code x::k) fr ds h u)(hf:b=false->WR P f n d Q B (.code y::k) fr ds h u):WR P f n d Q (if b then A else B) (.code (.cond c x y)::k) fr ds h u:=by
 intro z;refine V5 G ?_;cases D:b with
 |true=>simp only[D,if_true]at z ⊢;exact ht D z
 |false=>simp only[D,BD,if_false]at z ⊢;exact hf D z
def Uo(e:m=m')(hr:WR P f n d Q m' todo fr ds h u):WR P f n d Q m todo fr ds h u:=e▸hr
def Bgl(body:σ->R (σ ⊕ ε))(rest:ε->R β)(G:σ->(Nat->AV)->Aa->Prop)(O:σ)(S:G O fr h)(D : ∀ W:σ->R ε,(∀ s fr h,G s fr h->WR P f n d Q ((W s).bind rest) (.inLoop c::k) fr ds h u) -> ∀ s fr h,G s fr h ->
   WR P f n d Q ((body s).bind λx=>match x with|.inl s'=>(W s').bind rest|.inr e=>rest e) (.code c::.inLoop c::k) fr ds h u):
  WR P f n d Q ((loop body O).bind rest) (.code (.loop c)::k) fr ds h u:=by
 have key:∀z s fr h,G s fr h->WR P f n d Q ((Hf body z s).bind rest) (.inLoop c::k) fr ds h u:=by
  intro z
  induction z with
  |zero=>intro s fr h _ A;exact absurd A Q.bad
  |succ z V=>
   intro s fr h S A
   refine Aft ?_
   have e:(Hf body (z+1) s).bind rest=(body s).bind λx=>match x with|.inl s'=>(Hf body z s').bind rest|.inr e=>rest e:=by
    rw[Hf,R.bind_assoc]
    congr 1
    funext x
    cases x<;>rfl
   have:=D (Hf body z) V s fr h S
   rw[<-e]at this
   exact this A
 intro A
 by_cases U:loop body O=.bad
 .rw[U]at A;exact absurd A Q.bad
 .obtain⟨z,X⟩:=Ano U
  rw[X]at A ⊢
  exact Atj (key z O fr h S A)
def Bh8(L:List α)(body:Nat->α->σ->R (σ ⊕ ε))(rest:σ ⊕ ε->R β)(D:Nat->σ->(Nat->AV)->Aa->Prop)(U:σ)(G:D 0 U fr h)(z : ∀ (j:Nat) (a:α),L[j]? = some a -> ∀ W:σ->R (σ ⊕ ε),(∀ s fr h,D (j+1) s fr h->WR P f n d Q ((W s).bind rest) (.inLoop c::k) fr ds h u) -> ∀ s fr h,D j s fr h ->
   WR P f n d Q ((body j a s).bind λx=>match x with|.inl O=>(W O).bind rest|.inr e=>rest (.inr e)) (.code c::.inLoop c::k) fr ds h u)(fin:∀s fr h,D L.length s fr h->WR P f n d Q (rest (.inl s)) (.code c::.inLoop c::k) fr ds h u):
  WR P f n d Q ((each body 0 L U).bind rest) (.code (.loop c)::k) fr ds h u:=by
 have key:∀(l:List α) (j:Nat),j<=L.length->L.drop j=l->∀s fr h,D j s fr h->WR P f n d Q ((each body j l s).bind rest) (.inLoop c::k) fr ds h u:=by
  intro l
  induction l with
  |nil=>
   intro j Z A s fr h G S
   have:j=L.length:=by
    have:=List.drop_eq_nil_iff.1 A;omega
   subst this
   exact Aft (fin s fr h G S)
  |cons a l ih=>
   intro j Z A s fr h G S
   have V:j<L.length:=by
    rcases CI j L.length with X|X
    .exact X
    .rw[CV X]at A;cases A
   have ha:L[j]?=some a:=by
    have:=BR (xs:=L) (i:=j) (j:=0)
    rw[A]at this;simpa using this.symm
   have Y:L.drop (j+1)=l:=by
    have:=congrArg List.tail A
    simpa using this
   refine Aft ?_
   have e:(each body j (a::l) s).bind rest=(body j a s).bind λx=>match x with|.inl O=>(each body (j+1) l O).bind rest|.inr e=>rest (.inr e):=by
    rw[Abg,R.bind_assoc]
    congr 1
    funext x
    cases x<;>rfl
   have:=z j a ha (λO=>each body (j+1) l O) (ih (j+1) V Y) s fr h G
   rw[<-e]at this
   exact this S
 intro S
 exact Atj (key L 0 (DA _) rfl U fr h G S)
def A4(z:WO P f n d Q k ops m ops fr ds h u):WR P f n d Q m (.code (.region id ⟨ops⟩ false)::k) fr ds h u:=λA=>by refine Rr (λ_ _ _=>stepR_region) ?_;have:=z A 0 (λj=>by simp);rwa[<-List.range_eq_range']at this
section
variable{all r:List Oper}{pos:String}
def Ad (hr:WR P f n d Q m k fr ds h u):WO P f n d Q k all m [] fr ds h u:=λz i hi B mu w a cs p=>.head stepR_region_end (hr z B mu w a cs p)
def Ow {o:Oper}(O:Ee n o.dst=true)(hw:Cx all fr o=some true)
  (S:Q.V m->∀(K:AV->List AD->Aa->AU->Prop) (U:AV->KT),(∀v z h' A,WO P f n d Q k all m r (Hq fr o.dst v) z h' A->K v z h' A)->(∀v fr ds h u,Xl P f n d (.pan v false) fr ds h u (Q.Q m)->U v fr ds h u)->Hr P d U fr ds h u o.op K):
  WO P f n d Q k all m (o::r) fr ds h u:=by
 intro G i hi
 have V:(⟨all⟩:Array Oper)[i]?=some o:=by simpa using hi 0
 have D:∀j,all[i+1+j]?=r[j]?:=λj=>by have:=hi (j+1);rw[show i+(j+1)=i+1+j by omega]at this;simpa using this
 simp only[BV,FC]
 exact Ap6 V O hw (S G _ _ (λv z h' A hk=>hk G (i+1) D) (λ_ _ _ _ _ W=>W))
def Aro {o:Oper}(A:Ee n o.dst=true)(hw:Cx all fr o=some false)(hk:WO P f n d Q k all m r (Hq fr o.dst .und) ds h u):WO P f n d Q k all m (o::r) fr ds h u:=by
 intro D i hi;have G:(⟨all⟩:Array Oper)[i]?=some o:=by simpa using hi 0
 have z:∀j,all[i+1+j]?=r[j]?:=λj=>by have:=hi (j+1);rw[show i+(j+1)=i+1+j by omega]at this;simpa using this
 simp only[BV,FC];exact Anu G A hw (hk D (i+1) z)
def Arb{t:List AD}{U:AV->KT}{K:AV->List AD->Aa->AU->Prop}(z:B5 P fr h op=some v)(A:K v ds h u):Hr P d U fr ds h u op K:=by
 have e:Hr P d U fr ds h u op K=D3 P fr h op (λv h'=>K v ds h' u):=by
  unfold Hr;split
  .simp[B5]at z
  .simp[B5]at z
  .simp[B5]at z
  .simp[B5]at z
  .rfl
 rw[e];exact Awt z A
def Afn(z:(all[j]?).bind (·.dst)=some tj)(A:fr tj=.bool b):Cx all fr ⟨dst,op,ty,pos,after,some (j,want)⟩=some (b==want):=by unfold Cx;simp only[z,A]
def C6(z:(all[j]?).bind (·.dst)=some tj)(A:fr tj=.bool want):Cx all fr ⟨dst,op,ty,pos,after,some (j,want)⟩=some true:=by rw[Afn z A];simp
def Au{t:Nat}(v:AV)(ht:Nat.blt t n=true)(z:B5 P (Ac l) h op=some v)(hk:WO P f n d Q k all m r (Ac ((t,v)::l)) ds h u): WO P f n d Q k all m (⟨some t,op,ty,pos,after,none⟩::r) (Ac l) ds h u:=Ow (by simpa[Ee]using ht) rfl λD K U A G=>Arb (t:=ds) z (A _ _ _ _ (by rw[Db];exact hk))
def F5{t:Nat}(v:AV)(z:(all[j]?).bind (·.dst)=some tj)(A:Ac l tj=.bool want)(ht:Nat.blt t n=true)(D:B5 P (Ac l) h op=some v)(hk:WO P f n d Q k all m r (Ac ((t,v)::l)) ds h u): WO P f n d Q k all m (⟨some t,op,ty,pos,after,some (j,want)⟩::r) (Ac l) ds h u:=Ow (by simpa[Ee]using ht) (by rw[Afn z A];simp) λO K U G S=>Arb (t:=ds) D (G _ _ _ _ (by rw[Db];exact hk))
def Bjy{L:List α}{rest:α->R β}(hk:∀a,0<=i->L[i.toNat]?=some a->WO P f n d Q k all (rest a) ops fr ds h u):WO P f n d Q k all ((idx L i).bind rest) ops fr ds h u:=by
 intro z;unfold idx at z ⊢;by_cases h0:0<=i
 .rw[if_pos h0]at z ⊢;cases A:L[i.toNat]? with
  |none=>rw[A]at z;exact absurd z Q.bad
  |some a=>rw[A]at z;exact hk a h0 A z
 .rw[if_neg h0]at z;exact absurd z Q.bad
def Bh5{p:Prop}[Decidable p]{rest:R β}(hk:p->WO P f n d Q k all rest ops fr ds h u):WO P f n d Q k all (if p then rest else .bad) ops fr ds h u:=by
 intro z;by_cases hp:p
 .rw[if_pos hp]at z ⊢;exact hk hp z
 .rw[if_neg hp]at z;exact absurd z Q.bad
def Anx(e:m=m')(hr:WO P f n d Q k all m' ops fr ds h u):WO P f n d Q k all m ops fr ds h u:=e▸hr
def Bis{A B:R β}(ht:b=true->WO P f n d Q k all A ops fr ds h u)(hf:b=false->WO P f n d Q k all B ops fr ds h u):WO P f n d Q k all (if b then A else B) ops fr ds h u:=by
 intro z;cases D:b with
 |true=>simp only[D,if_true]at z ⊢;exact ht D z
 |false=>simp only[D,BD,if_false]at z ⊢;exact hf D z
def Bkm{p:Prop}[Decidable p]{A B:R β}(ht:p->WO P f n d Q k all A ops fr ds h u)(hf:¬p->WO P f n d Q k all B ops fr ds h u):WO P f n d Q k all (if p then A else B) ops fr ds h u:=by
 intro z;by_cases hp:p
 .rw[if_pos hp]at z ⊢;exact ht hp z
 .rw[if_neg hp]at z ⊢;exact hf hp z
def A83{l':List (Nat×AV)}(A:∀p∈l',Ac l p.1=p.2)(t:Nat):Ac l' t=.any\/Ac l' t=Ac l t:=by
 induction l' with
 |nil=>exact .inl rfl
 |cons p l' D=>
  have hp:=A p (BE ..);simp only[Ac];cases z:Nat.beq t p.1 with
  |true=>have:=AY z;subst this;exact .inr hp.symm
  |false=>exact D λq z=>A q (BC _ z)
def R2{fr':Nat->AV}{Q':QT}(z:∀t,fr' t=.any\/fr' t=fr t)(hr:E8 P f n d todo fr' ds h u Q'):E8 P f n d todo fr ds h u Q':=by
 intro B mu w a cs p;refine hr B mu w a cs ⟨p.size,λt=>?_,p.ds,p.sim,p.cs,p.rnd,p.fb⟩;rcases z t with e|e
 .rw[e];exact .any _
 .rw[e];exact p.fr t
def Bmi(l':List (Nat×AV))(z:∀p∈l',Ac l p.1=p.2)(hr:WO P f n d Q k all m ops (Ac l') ds h u):WO P f n d Q k all m ops (Ac l) ds h u:=λA i hi=>R2 (A83 z) (hr A i hi)
def Bl5(l':List (Nat×AV))(z:∀p∈l',Ac l p.1=p.2)(hr:WR P f n d Q m todo (Ac l') ds h u):WR P f n d Q m todo (Ac l) ds h u:=λA=>R2 (A83 z) (hr A)
inductive FrIs (l:List (Nat×AV)):List (Nat×AV)->Prop
 |nil:FrIs l []
 |cons {t:Nat} {v:AV} {r:List (Nat×AV)} (hx:Ac l t=v) (hr:FrIs l r):FrIs l ((t,v)::r)
def FrIs.get{l':List (Nat×AV)}(h:FrIs l l'):∀p∈l',Ac l p.1=p.2:=by
 induction h with
 |nil=>intro p hp;cases hp
 |cons hx hr ih=>
  intro p hp;rcases AN.1 hp with rfl|hp
  .exact hx
  .exact ih p hp
def Xm(l':List (Nat×AV))(z:FrIs l l')(hr:WR P f n d Q m todo (Ac l') ds h u):WR P f n d Q m todo (Ac l) ds h u:=Bl5 l' z.get hr
def Aye(l':List (Nat×AV))(z:FrIs l l')(hr:WO P f n d Q k all m ops (Ac l') ds h u):WO P f n d Q k all m ops (Ac l) ds h u:=Bmi l' z.get hr
inductive FrFz (h h2:Aa)(l:List (Nat×AV)):List (Nat×AV)->Prop
 |nil:FrFz h h2 l []
 |cons {t:Nat} {v:AV} {r:List (Nat×AV)} (hx:Fz h h2 (Ac l t) v) (hr:FrFz h h2 l r):FrFz h h2 l ((t,v)::r)
def FrFz.get{l':List (Nat×AV)}(hf:FrFz h h2 l l')(t:Nat):Fz h h2 (Ac l t) (Ac l' t):=by
 induction hf with
 |nil=>exact .any _
 |@cons s v r z hr A=>
  simp only[Ac];cases D:Nat.beq t s with
  |true=>have:=AY D;subst this;exact z
  |false=>exact A
def Baz(l':List (Nat×AV))(A:Hv h2 h)(D:FrFz h h2 l l')(z:ds=ds)(G:d=d)(hr:WR P f n d Q m todo (Ac l') ds h2 u):WR P f n d Q m todo (Ac l) ds h u:=λO=>Aul A D.get z G (hr O)
def Bb7(l':List (Nat×AV))(A:Hv h2 h)(D:FrFz h h2 l l')(z:ds=ds)(G:d=d)(hr:WO P f n d Q k all m ops (Ac l') ds h2 u):WO P f n d Q k all m ops (Ac l) ds h u:=λO i hi=>Aul A D.get z G (hr O i hi)
inductive Drops:List (Option AO)->List (Option AO)->Prop
 |nil:Drops [] []
 |keep {x:Option AO} {xs ys:List (Option AO)} (h:Drops xs ys):Drops (x::xs) (x::ys)
 |drop {x:Option AO} {xs ys:List (Option AO)} (h:Drops xs ys):Drops (x::xs) (none::ys)
def Drops.sub:∀{ids:List Nat} {xs ys:List (Option AO)},Drops xs ys->ids.length=xs.length->Hv (hp h0 ids ys) (hp h0 ids xs)
 |[],_,_,.nil,_=>HN _
 |a::ids,_,_,.keep A,D=>Hv.upd (Drops.sub A (by simpa using D)) a _
 |a::ids,_,_,@Drops.drop x xs ys A,D=>λo z hz=>by
  simp only[hp,upd]at hz ⊢;split
  .rename_i G;rw[if_pos G]at hz;cases hz
  .rename_i G;rw[if_neg G]at hz;exact Drops.sub A (by simpa using D) o z hz
def Bhx(ys:List (Option AO))(z:Ids h0 ids N)(A:xs.length=N)(D:Drops xs ys)(hr:WR P f n d Q m todo fr ds (hp h0 ids ys) u): WR P f n d Q m todo fr ds (hp h0 ids xs) u:=λG=>Bhr (D.sub (z.len.trans A.symm)) (hr G)
end
end
variable{x:Operand}{t:TypeId}{ps:List (Nat×Operand)}{T:TI}{ts:Array TypeId}{fs:List (Nat×TypeId)}{z:List AV}{et:TypeId}{k1:IntKind}{k2:IntKind}{z1:List AV}{z2:List AV}
section
variable[GW P]
def B0:B5 P fr h (.move x)=some (ev fr x):=rfl
def Bbj:B5 P fr h (.assign x)=some (ev fr x):=rfl
def Aer {c a b:Operand}{t:Bool}(z:ev fr c=.bool t)(A:(if t then ev fr a else ev fr b)=v):B5 P fr h (.pick c a b)=some v:=by simp only[B5,z,A]
def Ai4(z:Adg P t (Xu fr ps)=some v):B5 P fr h (.build t ⟨ps⟩)=some v:=z
def A7(z:O6 P h t (ev fr x)=some v):B5 P fr h (.load t x)=some v:=z
def All(z:Ai1 (ev fr x)=some v):B5 P fr h (.nilCheck x)=some v:=z
def Bb{o:BinOp}{y:Operand}(z:Pa P o t x y (ev fr x) (ev fr y)=true)(A:Mt y=false)(D:Ft P o t (ev fr x) (ev fr y)=some v):B5 P fr h (.binOp o t x y ty)=some v:=by simp only[B5,z,A,true_and,if_true];exact D
def Bfz{o:UnOp}(z:aUn o (ev fr x)=some v):B5 P fr h (.unOp o t x)=some v:=z
def Vm{s:TypeId}(z:Ach P h s t (ev fr x)=some v):B5 P fr h (.convert s t x)=some v:=z
def Bc1(z:ti P t=some T)(hk:T.k≠.ifc):B5 P fr h (.makeInterface t x)=some (.iface t (ev fr x)):=by simp only[B5,z,if_neg hk]
def Ea{lo hi z:Option Operand}(A:Ec P h t (ev fr x) (lo.map (ev fr)) (hi.map (ev fr)) (z.map (ev fr))=some v):B5 P fr h (.slice t x lo hi z)=some v:=A
def Jk{s:TypeId}{i:Nat}(z:J7 P s (ev fr x) i=some v):B5 P fr h (.fieldAddr s x i)=some v:=z
def Ay{i:Operand}(z:Dl P h t (ev fr x) (ev fr i)=some v):B5 P fr h (.indexAddr t x i)=some v:=z
def Ayi{i:Operand}(z:Aam P t (ev fr x) (ev fr i)=some v):B5 P fr h (.index t x i)=some v:=z
def Pb{a:TypeId}{ok:Bool}(z:Hk P (ev fr x) t ok=some v):B5 P fr h (.typeAssert x a t ok)=some v:=z
def G0{i:Operand}{ok:Bool}(z:Sq P h t (ev fr x) (ev fr i) ok=some v):B5 P fr h (.lookup t x i ok)=some v:=z
def D4(z:Xe P h t (ev fr x)=some v):B5 P fr h (.call ⟨.builtin .len,⟨[x]⟩,⟨[t]⟩⟩)=some v:=z
def Bap{l:List Operand}(z:Aq7 false (Ev fr l)=some v):B5 P fr h (.call ⟨.builtin .min,⟨l⟩,ts⟩)=some v:=by simp only[B5];exact z
def A03{l:List Operand}(z:Aq7 true (Ev fr l)=some v):B5 P fr h (.call ⟨.builtin .max,⟨l⟩,ts⟩)=some v:=by simp only[B5];exact z
def Y9{row:List AV}{c:Nat}(z:ti P t=some T)(A:Gm row c T.size T.k.agg=some v):O6 P h t (.cp row c)=some v:=by simp only[O6,z,A]
section
def Ar{g r c:Nat}{rs:List (List AV)}{row:List AV}(D:Ids h0 ids n)(G:xs.length=n)(O:xs[j]?=some (some (.rows g st rs)))(hr:rs[r]?=some row)(S:ti P t=some T)(U:Gm row c T.size T.k.agg=some v):
  O6 P (hp h0 ids xs) t (.ptr (ix ids j) g r c)=some v:=by
 have z:r<rs.length:=by
  rcases CI r rs.length with A|A
  .exact A
  .rw[BA A]at hr;cases hr
 have e:rs.getD r []=row:=Do hr
 simp only[O6,S,D.at G O,z,e,and_self,if_true,U]
end
section
variable{s ft:TypeId}{b i off:Nat}{F:TI}
def Ba7 {o g r c:Nat}(A:ti P s=some ⟨.st fs,a,b,z⟩)(hf:fs[i]?=some (off,ft))(D:ti P ft=some F)(h0:Nat.beq F.size 0=false):J7 P s (.ptr o g r c) i=some (.ptr o g r (c+off)):=by
 have:F.size≠0:=λq=>by rw[q]at h0;cases h0
 simp only[J7,A,hf,D,if_neg this]
def Bl0 {row:List AV}{c:Nat}(A:ti P s=some ⟨.st fs,a,b,z⟩)(hf:fs[i]?=some (off,ft))(D:ti P ft=some F)(h0:Nat.beq F.size 0=false):J7 P s (.cp row c) i=some (.cp row (c+off)):=by
 have:F.size≠0:=λq=>by rw[q]at h0;cases h0
 simp only[J7,A,hf,D,if_neg this]
def Bkb {cs:List AV}(A:ti P s=some ⟨.st fs,a,b,z⟩)(hf:fs[i]?=some (off,ft))(D:ti P ft=some F)(G:Gm cs off F.size F.k.agg=some v):Aj3 P s (.agg cs) i=some v:=by simp only[Aj3,A,hf,D,G]
end
section
variable{L:List α}{b:Nat}{E:TI}{k:IntKind}{x:α}
def Bc7(z:L[j]?=some x):(L.map e).getD j []=e x:=by simp[List.getD,z]
def A6(A:L[j]?=some x):j<L.length:=by
 rcases CI j L.length with z|z
 .exact z
 .rw[BA z]at A;cases A
def Ajb(D:ti P t=some ⟨.sl et,a,b,z⟩)(hE:ti P et=some E)(G:st=E.size)(h0:0<=i)(A:L[i.toNat]?=some x):Dl P h t (.sl st (L.map e)) (.int k i)=some (.cp (e x) 0):=by
 have O:=A6 A;have h1:i<((L.map e).length:Int):=by rw[AL];omega
 simp only[Dl,D,hE];rw[if_pos ⟨G,h0,h1⟩,Bc7 A]
def Ex {i:Nat}(A:ti P t=some ⟨.sl et,a,b,z⟩)(hE:ti P et=some E)(D:st=E.size)(G:L[i]?=some x):Dl P h t (.sl st (L.map e)) (.int k (i:Int))=some (.cp (e x) 0):=Ajb A hE D (by omega) (by simpa using G)
def Jy (A:ti P t=some ⟨.sl et,a,b,z⟩):Xe P h t (.sl st (L.map e))=some (.int .i64 (L.length:Int)):=by simp only[Xe,A,AL]
end
def Ain{b:Nat}{s:List UInt8}(A:ti P t=some ⟨.str,a,b,z⟩):Xe P h t (.str s)=some (.int .i64 (s.length:Int)):=by simp only[Xe,A]
def Arh{b:Nat}(A:ti P t=some ⟨.sl et,a,b,z⟩):Xe P h t .emp=some (.int .i64 0):=by simp only[Xe,A]
def A87{b:Nat}{s:List UInt8}{k:IntKind}{c:UInt8}(D:ti P t=some ⟨.str,a,b,z⟩)(h0:0<=i)(A:s[i.toNat]?=some c):Aam P t (.str s) (.int k i)=some (.int .u8 (c.toNat:Int)):=by have G:=A6 A;have e:s.getD i.toNat 0=c:=Do A;simp only[Aam,D];rw[if_pos ⟨h0,by omega⟩,e]
def Bgs{b:Nat}{s:List UInt8}{k:IntKind}{i:Nat}{c:UInt8}(A:ti P t=some ⟨.str,a,b,z⟩)(D:s[i]?=some c):Aam P t (.str s) (.int k (i:Int))=some (.int .u8 (c.toNat:Int)):=A87 A (by omega) (by simpa using D)
def Aai{s:TypeId}{k:IntKind}{b c d:Nat}(z:ti P s=some ⟨.int k1,a,b,z1⟩)(A:ti P t=some ⟨.int k2,c,d,z2⟩):Ach P h s t (.int k i)=some (.int k2 (k2.wrap i)):=by simp only[Ach,z,A]
def Bkx{s:TypeId}{b c d:Nat}{x:List UInt8}(z:ti P s=some ⟨.str,a,b,z1⟩)(A:ti P t=some ⟨.str,c,d,z2⟩):Ach P h s t (.str x)=some (.str x):=by simp only[Ach,z,A]
def A7x(z:ti P t=some T)(hk:T.k≠.ifc):Hk P (.iface t v) t false=some v:=by simp only[Hk,z,if_neg hk];rfl
def Amv(z:ti P t=some T)(hk:T.k≠.ifc):Hk P (.iface t v) t true=some (.tup [v,.bool true]):=by simp only[Hk,z,if_neg hk];rfl
def A6y{b:Nat}{cs:List AV}{ps:List (Nat×AV)}{A:List (Nat×Nat)}(D:ti P t=some ⟨.st fs,a,b,z⟩)(hp:Aex P fs=some A)(G:Ta (λi=>A[i]?) z ps=some cs):Adg P t ps=some (.agg cs):=by simp only[Adg,D,hp,G,AQ]
def A9p{m b:Nat}{cs:List AV}{ps:List (Nat×AV)}{E:TI}(A:ti P t=some ⟨.arr m et,a,b,z⟩)(hE:ti P et=some E)(D:Ta (λi=>some (i*E.size,E.size)) z ps=some cs):Adg P t ps=some (.agg cs):=by simp only[Adg,A,hE,D,AQ]
end
variable{V:Type}
section
variable{K:Type}
def Dq [DecidableEq K](m:List (K×V))(k:K):Option V:=(m.find? λp=>p.1==k).map (·.2)
def G4 [DecidableEq K]:List (K×V)->K->V->List (K×V)
 |[],k,v=>[(k,v)]
 |p::m,k,v=>if p.1==k then(k,v)::m else p::G4 m k v
end
def Aav:List AV->List AV->List AV
 |row,[]=>row
 |[],_=>[]
 |_::row,c::cs=>c::Aav row cs
def Wb:List AV->Nat->List AV->List AV
 |row,0,cs=>Aav row cs
 |[],_+1,_=>[]
 |a::row,c+1,cs=>a::Wb row c cs
def A2j:∀(row cs:List AV),cs.length<=row.length->Aav row cs=cs++row.drop cs.length
 |row,[],_=>by cases row<;>simp[Aav]
 |[],c::cs,h=>by simp at h
 |a::row,c::cs,h=>by simp[Aav,A2j row cs (by simpa using h)]
def Avd:∀(row:List AV) (c:Nat) (cs:List AV),c+cs.length<=row.length->Wb row c cs=Fd row c cs
 |row,0,cs,h=>by have:=A2j row cs (by simpa using h);cases row<;>simp[Wb,Fd,this]
 |[],c+1,cs,h=>by simp at h
 |a::row,c+1,cs,h=>by have:=Avd row c cs (by simp only[BV]at h;omega);simp only[Wb,this,Fd,EL,DS];rw[show c+1+cs.length=(c+cs.length)+1 by omega,FE]
variable{h':Aa}{ki:IntKind}{w:AV}
section
variable[GW P]{all r:List Oper}{pos:String}
def R9{t:Nat}(ht:Nat.blt t n=true)(z:∀(K:AV->List AD->Aa->AU->Prop) (U:AV->KT),Hr P d U (Ac l) ds h u op K=D3 P (Ac l) h op (λv h'=>K v ds h' u))(A:∀K:AV->Aa->Prop,(∀v h',WO P f n d Q k all m r (Ac ((t,v)::l)) ds h' u->K v h')->D3 P (Ac l) h op K):
  WO P f n d Q k all m (⟨some t,op,ty,pos,after,none⟩::r) (Ac l) ds h u:=by
 refine Ow (by simpa[Ee]using ht) rfl λG K U D O=>?_
 rw[z]
 exact A _ λv h' hw=>D _ _ _ _ (by rw[Db];exact hw)
def Bam(z:∀(K:AV->List AD->Aa->AU->Prop) (U:AV->KT),Hr P d U (Ac l) ds h u op K=D3 P (Ac l) h op (λv h'=>K v ds h' u))(A:∀K:AV->Aa->Prop,(∀v h',WO P f n d Q k all m r (Ac l) ds h' u->K v h')->D3 P (Ac l) h op K):
  WO P f n d Q k all m (⟨none,op,ty,pos,after,none⟩::r) (Ac l) ds h u:=by
 refine Ow rfl rfl λG K U D O=>?_
 rw[z]
 exact A _ λv h' hw=>D _ _ _ _ hw
def Bi{a:Operand}{K:AV->Aa->Prop}(z:Wv P h t (ev fr a) (ev fr x)=some h')(A:K .und h'):D3 P fr h (.store t a x) K:=by simp only[D3];exact⟨_,.cell (.same _),by rw[z];exact A⟩
def Cw{a:Operand}(z:Wv P h t (ev (Ac l) a) (ev (Ac l) x)=some h')(hk:WO P f n d Q k all m r (Ac l) ds h' u): WO P f n d Q k all m (⟨none,.store t a x,ty,pos,after,none⟩::r) (Ac l) ds h u:=Bam (λ_ _=>rfl) λK A=>Bi z (A _ _ hk)
def Iz{g rr c:Nat}{rs:List (List AV)}{row:List AV}(V:Ids h0 ids N)(W:xs.length=N)(D:Nat.blt j N=true)(X:xs[j]?=some (some (.rows g st rs)))(hr:rs[rr]?=some row)(Y:ti P t=some T)(G:v.ok=true)(z:v.cells.length=T.size)(Z:Nat.ble (c+T.size) st=true)(O:row.length=st)(S:v.cells.all AV.flat=true):
  Wv P (hp h0 ids xs) t (.ptr (ix ids j) g rr c) v=some (hp h0 ids (xs.set j (some (.rows g st (rs.set rr (Wb row c v.cells)))))):=by
 have U:rr<rs.length:=A6 hr
 have e:rs.getD rr []=row:=Do hr
 have A:c+T.size<=st:=by simpa using Z
 rw[Avd _ _ _ (by rw[z,O];exact A)]
 simp only[Wv,Y,V.at W X,U,G,z,A,S,and_self,if_true,e,V.set W D]
def A1w{t:Nat}{e:TypeId}(D:Ids h0 ids N)(G:xs.length=N)(z:Nat.blt j N=true)(O:xs[j]?=some none)(ht:Nat.blt t n=true)(S:ti P e=some T)(A:T.z.all AV.flat=true)(hk:∀g,WO P f n d Q k all m r (Ac ((t,.ptr (ix ids j) g 0 0)::l)) ds (hp h0 ids (xs.set j (some (.rows g T.z.length [T.z])))) u): WO P f n d Q k all m (⟨some t,.alloc e,ty,pos,after,none⟩::r) (Ac l) ds (hp h0 ids xs) u:=R9 ht (λ_ _=>rfl) λK U=>by simp only[D3,S];refine⟨A,.inl (Yt (ix ids j) (D.at G O) λg=>?_)⟩;rw[D.set G z];exact U _ _ (hk g)
def Bky{t:Nat}{e:TypeId}(G:Ids h0 ids N)(O:xs.length=N)(z:Nat.blt j N=true)(S:xs[j]?=some none)(ht:Nat.blt t n=true)(U:ev (Ac l) x=v)(A:v.ok=true)(D:v.cells.all AV.flat=true)(hk:∀g,WO P f n d Q k all m r (Ac ((t,.ptr (ix ids j) g 0 0)::l)) ds (hp h0 ids (xs.set j (some (.rows g v.cells.length [v.cells])))) u): WO P f n d Q k all m (⟨some t,.box e x,ty,pos,after,none⟩::r) (Ac l) ds (hp h0 ids xs) u:=R9 ht (λ_ _=>rfl) λK V=>by simp only[D3,U];refine⟨A,D,Yt (ix ids j) (G.at O S) λg=>?_⟩;rw[G.set O z];exact V _ _ (hk g)
def Av (v:AV)(o g n:Nat):Prop:=(v=.emp/\n=0)\/v=.ref o g 0 n
def Af (v:AV)(g st:Nat)(rows:List (List AV)):Option AO:=match v with
 |.emp=>none
 |_=>some (.rows g st rows)
def Av.nil {o g:Nat}:Av .emp o g 0:=.inl ⟨rfl,rfl⟩
section
variable{L:List α}{g:Nat}
def Av.isRef{o:Nat}(z:Av v o g n)(A:0<n):v=.ref o g 0 n:=by
 rcases z with⟨_,h⟩|h
 .omega
 .exact h
def Av.len{b o:Nat}(A:Av v o g n)(D:ti P t=some ⟨.sl et,a,b,z⟩):Xe P h t v=some (.int .i64 (n:Int)):=by rcases A with⟨rfl,rfl⟩|rfl<;>simp only[Xe,D];rfl
def Rb{b:Nat}{E:TI}{x:α}(D:Ids h0 ids N)(G:xs.length=N)(O:Av v (ix ids j) g L.length)(S:xs[j]?=some (Af v g st (L.map e)))(U:ti P t=some ⟨.sl et,a,b,z⟩)(hE:ti P et=some E)(V:st=E.size)(hi:0<=i)(W:L[i.toNat]?=some x):Dl P (hp h0 ids xs) t v (.int ki i)=some (.ptr (ix ids j) g i.toNat 0):=by
 have X:=A6 W;have:=O.isRef (by omega);subst this;have h1:i<(L.length:Int):=by omega
 have A:=D.at G S;simp only[Af]at A;simp only[Dl,U,hE,A];rw[if_pos ⟨trivial,V,hi,h1⟩,AE]
def Ajg{i c o:Nat}{x:α}(D:Ids h0 ids N)(G:xs.length=N)(O:Av v o g L.length)(z:xs[j]?=some (Af v g st (L.map e)))(A:L[i]?=some x)(S:ti P t=some T)(hw:Gm (e x) c T.size T.k.agg=some w):O6 P (hp h0 ids xs) t (.ptr (ix ids j) g i c)=some w:=by have U:=A6 A;have:=O.isRef (by omega);subst this;simp only[Af]at z;exact Ar D G z (by simp[A]) S hw
def Xw{i c o:Nat}{x y:α}(V:Ids h0 ids N)(W:xs.length=N)(A:Nat.blt j N=true)(X:Av v o g L.length)(S:xs[j]?=some (Af v g st (L.map e)))(U:L[i]?=some x)(Y:ti P t=some T)(D:w.ok=true)(z:w.cells.length=T.size)(Z:Nat.ble (c+T.size) st=true)(G:(e x).length=st)(O:w.cells.all AV.flat=true)(hy:Wb (e x) c w.cells=e y):
  Wv P (hp h0 ids xs) t (.ptr (ix ids j) g i c) w=some (hp h0 ids (xs.set j (Af v g st ((L.set i y).map e)))):=by
 have aa:=A6 U
 have:=X.isRef (by omega)
 subst this
 simp only[Af]at S ⊢
 rw[Iz V W A S (by simp[U]:(L.map e)[i]?=some (e x)) Y D z Z G O,hy,List.map_set]
def Av.set {o i:Nat}{y:α}(z:Av v o g L.length):Av v o g (L.set i y).length:=by rw[FZ];exact z
def Ca{o:Nat}(D:Av v o g L.length)(A:h o=Af v g st (L.map e))(z:h2 o=none)(hr:∀x,Cy st (e x)):Fz h h2 v (.sl st (L.map e)):=by
 rcases D with⟨rfl,G⟩|rfl
 .have:L=[]:=CQ.1 G;subst this;exact .emp st
 .simp only[Af]at A;refine .ref o g 0 L.length st (L.map e) (L.map e) A z (by simp) (by simp) (by intro x O;obtain⟨y,_,rfl⟩:=CC.1 O;exact hr y) (λi S _ _=>by rw[AE];exact .same _)
end
end
def Yd(e:α->AV)(h:Aa)(m:R α):AR->Aa->Prop:=λr h'=>h'=h/\match m with
 |.ok a=>r=.ret (e a)
 |.pan v=>r=.panic v.av
 |.bad=>False
def Zy(e:α->AV)(h:Aa):Spec α:=⟨λm=>m≠.bad,λh=>h rfl,λm r h' _=>Yd e h m r h'⟩
class CP {α:Type}(P:Program)[GW P](g:outParam FuncId)(args:outParam (List AV))(m:R α)(e:outParam (α->AV)):Prop where
 c:∀h,m≠.bad->Bs P g args h (Yd e h m)
instance {α:Type} {P:Program} [GW P] {g:FuncId} {args:List AV} {m:R α} {e:α->AV}:CoeFun (CP P g args m e) (λ_=>∀h,m≠.bad->Bs P g args h (Yd e h m)):=⟨λx=>x.c⟩
def Aa5:Nat->List AV->List (Nat×AV)
 |_,[]=>[]
 |i,a::l=>(i,a)::Aa5 (i+1) l
def T0:∀(args:List AV) (i t:Nat),Ac (Aa5 i args) t=.any\/(i<=t/\Ac (Aa5 i args) t=args.getD (t-i) .und)
 |[],i,t=>.inl rfl
 |a::l,i,t=>by
  simp only[Aa5,Ac];cases z:Nat.beq t i with
  |true=>have:=AY z;subst this;exact .inr ⟨AF _,by simp⟩
  |false=>
   have A:t≠i:=λq=>by subst q;simp at z
   rcases T0 l (i+1) t with h|⟨h1,h2⟩
   .exact .inl h
   .refine .inr ⟨by omega,?_⟩;simp only[GO];rw[h2];have:t-i=(t-(i+1))+1:=by omega
    rw[this,GU]
variable{fn:Func}{args:List AV}
section
variable[GW P]{m:R α}{e:α→AV}
theorem Bct(N:Nat)(hf:P.funcs[f]?=some fn)(hb:fn.body=some c)(hn:fn.name≠"runtime.NumGoroutine")(hnt:fn.ntmps=n)(hl:Nat.ble args.length n=true)(hr:∀(h0:Aa) (ids:List Nat),Ids h0 ids N→WR P f n false (Zy e h0) m [.code c] (Ac (Aa5 0 args)) [] (hp h0 ids (List.replicate N none)) .ret):CP P f args m e:=by
 refine⟨fun h hb'=>?_⟩;refine Tw hf hb hn hnt (by simpa using hl) ?_;refine Aee N [] fun os h1 h2 h3 h4=>?_;have:=hr h os ⟨h2,h3,h1⟩ hb';rw[Rw h3]at this;refine R2 (fun t=>?_) this;rcases T0 args 0 t with h|⟨_,h⟩
 ·exact .inl h
 ·exact .inr h
section
def Vi{a:α}{vs:List AV}(hf:P.funcs[f]?=some fn)(z:Ids h0 ids N)(hr:Gc P (hp h0 ids xs) (Ac l) fn.results.toList=some vs)(hz:Fz (hp h0 ids xs) h0 (Hn vs) (e a)): WR P f n false (Zy e h0) (.ok a) (.code .ret::k) (Ac l) [] (hp h0 ids xs) u:=λ_=>Abo (Wa hf hr (z.sub xs) hz rfl ⟨rfl,rfl⟩)
def A15{a:α}{vs:List AV}(hf:P.funcs[f]?=some fn)(z:Ids h0 ids N)(hr:Gc P (hp h0 ids xs) (Ac l) fn.results.toList=some vs)(hz:Fz (hp h0 ids xs) h0 (Hn vs) (e a)): WR P f n false (Zy e h0) (.ok a) [] (Ac l) [] (hp h0 ids xs) u:=λ_=>Arf (Wa hf hr (z.sub xs) hz rfl ⟨rfl,rfl⟩)
def Es{v:PV}(hf:P.funcs[f]?=some fn)(z:Ids h0 ids N):WU P f n false (Zy e h0) (.pan v) (.pan v.av false) fr [] (hp h0 ids xs) u:=λ_=>Aoj hf (z.sub xs) (.same _) ⟨rfl,rfl⟩
end
end
def hE:Aa:=λ_=>none
def Wc (h:Aa):Hv hE h:=λo x z=>by cases z
inductive Free:AV->Prop
 |bool (b:Bool):Free (.bool b)
 |int (k:IntKind) (n:Int):Free (.int k n)
 |str (s:List UInt8):Free (.str s)
 |tup (vs:List AV) (h:∀i,i<vs.length->Free (vs.getD i .und)):Free (.tup vs)
 |agg (vs:List AV) (h:∀i,i<vs.length->Free (vs.getD i .und)):Free (.agg vs)
variable{mu:Mu}{mu':Mu}
def Free.rv{w:World}{M M':Nat->Prop}(D:Free v):∀{c:Value},Rv w mu M v c->Rv w mu' M' v c:=by
 induction D with
 |bool b=>intro c h;cases h;exact .bool b
 |int k n=>intro c h;cases h;exact .int k n
 |str s=>intro c h;cases h;exact .str s
 |tup vs h z=>intro c A;cases A with|tup _ cs hl hp=>exact .tup vs cs hl λi hi=>z i hi (hp i hi)
 |agg vs h z=>intro c A;cases A with|agg _ cs hl hp=>exact .agg vs cs hl λi hi=>z i hi (hp i hi)
def Free.tup2 {a b:AV}(z:Free a)(A:Free b):Free (.tup [a,b]):=.tup _ λi hi=>by
 match i,hi with
 |0,_=>exact z
 |1,_=>exact A
def Free.tup0:Free (.tup []):=.tup _ λi hi=>by simp at hi
def Sc.free (x:Sc):Free x.av:=by
 cases x with
 |int k n=>exact .int k n
 |str s=>exact .str s
 |bool b=>exact .bool b
 |unit=>exact .agg [] λi hi=>by simp at hi
 |two k1 k2 a b=>
  refine .agg _ λi hi=>?_;match i,hi with
  |0,_=>exact .int k1 a
  |1,_=>exact .int k2 b
 |one k a=>
  refine .agg _ λi hi=>?_;match i,hi with
  |0,_=>exact .int k a
def Sim.back[GW P]{B:Base P}{w w':World}(s:Sim B mu h w)(s':Sim B mu' hE w')(e:Ez hE mu w hE mu' w'):Sim B mu' h w'/\Ez h mu w h mu' w':=by
 have hn:∀m b,¬C0 hE m b:=by rintro m b ⟨o,x,l,z,_⟩;cases z
 have A:∀b,b<w.heap.size->w'.heap[b]?=w.heap[b]?:=λb U=>(e.same b U (hn _ _)).1;have D:∀{o x},h o=some x->∃l,mu o x.gen=some l:=by
  intro o x z;cases x with
  |rows g st rs=>obtain⟨l,h1,_⟩:=s.rows _ _ _ _ z;exact⟨l,h1⟩
  |mp g es=>obtain⟨l,h1,_⟩:=s.maps _ _ _ z;exact⟨l,h1⟩
  |blk g x=>obtain⟨l,h1,_⟩:=s.blks _ _ _ z;exact⟨l,h1⟩
 have V:∀b,C0 h mu' b->C0 h mu b:=by rintro b ⟨o,x,l,z,hl,rfl⟩;obtain⟨l',G⟩:=D z;have:=e.mu _ _ _ G;rw[hl]at this;cases this;exact⟨o,x,l,z,G,rfl⟩
 have ext:Ez h mu w h mu' w':=⟨e.os,e.tape,e.output,e.size,λb U Y=>⟨A b U,λO=>Y (V b O)⟩,e.mu⟩;refine⟨⟨s'.base,s'.muOk,s'.fin,s.finh,?_,?_,?_,s.globE ext,λo g x z=>let ⟨l,h1,h2,W⟩:=s.blks _ _ _ z;⟨l,e.mu _ _ _ h1,h2,by rw[A _ (s.muOk _ _ _ h1).2.1];exact W⟩⟩,ext⟩
 .intro o g st rs z;obtain⟨l,h1,h2,W,h4,Z,h6⟩:=s.rows _ _ _ _ z;refine⟨l,e.mu _ _ _ h1,h2,W,h4,Z,λi j hi hj=>?_⟩;obtain⟨c,aa,ab⟩:=h6 i j hi hj;refine⟨c,?_,ab.ext ext⟩;rw[cell?_of_heap (w:=w) (w':=w') (a:=⟨l.b,l.base+i*st+j,none⟩) (A _ (s.muOk _ _ _ h1).2.1)];exact aa
 .intro o g es z;obtain⟨l,h1,h2,ens,S,W,h4,Z⟩:=s.maps _ _ _ z;exact⟨l,e.mu _ _ _ h1,h2,ens,S,by rw[A _ (s.muOk _ _ _ h1).2.1];exact W,h4,λi hi=>⟨(Z i hi).1.ext ext,(Z i hi).2.ext ext⟩⟩
 .intro o o' x x' l l' z X hl G U;obtain⟨m,Y⟩:=D z;obtain⟨m',O⟩:=D X;have e1:=e.mu _ _ _ Y;have e2:=e.mu _ _ _ O;rw[hl]at e1;cases e1;rw[G]at e2;cases e2;exact s.inj _ _ _ _ _ _ z X Y O U
def LFz (h:Aa):List AV->List AV->Prop
 |[],[]=>True
 |a::l,z::l'=>Fz h hE a z/\LFz h l l'
 |_,_=>False
def LFz.len:∀{l l':List AV},LFz h l l'->l.length=l'.length/\∀i,i<l.length->Fz h hE (l.getD i .und) (l'.getD i .und)
 |[],[],_=>⟨rfl,λi hi=>by simp at hi⟩
 |a::l,A::l',z=>by
  obtain⟨h1,h2⟩:=LFz.len z.2;refine⟨by simp[h1],λi hi=>?_⟩;cases i with
  |zero=>exact z.1
  |succ i=>simpa using h2 i (by simpa using hi)
variable{args':List AV}
def CP.lend[GW P]{g:FuncId}{m:R α}{e:α->AV}(W:CP P g args' m e)(hz:LFz h args args')(G:∀a,m=.ok a->Free (e a))(Z:m≠.bad):
  Bs P g args h (Yd e h m):=by
 obtain⟨O,S⟩:=W hE Z
 refine⟨O,λB mu w z s ha=>?_⟩
 obtain⟨A,hfz⟩:=hz.len
 have X:Ry hE mu w args' z.toList:=⟨A▸ha.1,λi hi=>Ig s (Wc h) (hfz i (A▸hi)) (ha.2 i (A▸hi))⟩
 refine(S B mu w z (s.sub (Wc h)) X).mono ?_
 rintro en w' ⟨r,h',mu',⟨rfl,hr⟩,Y,U,D⟩
 obtain⟨k1,k2⟩:=s.back Y U
 refine⟨r,h,mu',⟨rfl,hr⟩,k1,k2,?_⟩
 cases V:m with
 |bad=>exact absurd V Z
 |ok a=>
  rw[V]at hr;subst hr;cases en with
  |returned c=>exact(G a V).rv D
  |panicked _=>exact D.elim
  |outgrown=>exact D.elim
 |pan v=>
  rw[V]at hr;subst hr;obtain⟨x,rfl,x1,x2,x3⟩:=D.panic_inv;refine⟨x1,x2,?_⟩;obtain⟨xv,xr,xg⟩:=x;simp only[PV.av]at x3;cases x3 with
  |iface _ _ c W=>exact .iface _ _ c (v.x.free.rv W)
variable{as0:List Operand}{fst:List AV}{cap:List AV}{gd:Option (Nat×Bool)}
section
variable[GW P]{all r:List Oper}{pos:String}
def Bgh{t:Nat}{g:FuncId}{A:List AV}{mg:R α}{e:α->AV}{rest:α->R β}(ht:Nat.blt t n=true)(hw:Cx all (Ac l) ⟨some t,.call ⟨.value x,⟨as0⟩,ts⟩,ty,pos,after,gd⟩=some true)(V:ev (Ac l) x=.func (.func g) fst cap)(W:fst++Ev (Ac l) as0++cap=A)(X:mg≠.bad->Bs P g A h (Yd e h mg))(hp:∀v,mg=.pan v->WU P f n d Q (.pan v) (.pan v.av false) (Ac l) ds h u)(hk:∀a,mg=.ok a->WO P f n d Q k all (rest a) r (Ac ((t,e a)::l)) ds h u):
  WO P f n d Q k all (mg.bind rest) (⟨some t,.call ⟨.value x,⟨as0⟩,ts⟩,ty,pos,after,gd⟩::r) (Ac l) ds h u:=by
 refine Ow (by simpa[Ee]using ht) hw λz K U O S=>?_
 simp only[Hr,V]
 rw[W]
 have D:mg≠.bad:=λq=>by rw[q]at z;exact Q.bad z
 refine(X D).mono λY h' hr=>?_
 obtain⟨rfl,hr⟩:=hr
 cases G:mg with
 |bad=>exact absurd G D
 |ok a=>rw[G]at hr z O;subst hr;exact O _ _ _ _ (by rw[Db];exact hk a G)
 |pan v=>rw[G]at hr z S;subst hr;exact S _ _ _ _ _ (hp v G z)
def Kq{v:PV}(z:Ee n dst=true)(A:ev (Ac l) x=v.av)(hp:WU P f n d Q (.pan v) (.pan v.av false) (Ac l) ds h u):
  WO P f n d Q k all (.pan v) (⟨dst,.panic x,ty,pos,after,none⟩::r) (Ac l) ds h u:=by
 refine Ow z rfl λD K U O G=>?_
 simp only[Hr,A,PV.av]
 exact G _ _ _ _ _ (hp D)
def Fs{t:Nat}{L:List α}(z:fr t=.sl st (L.map e))(hk:L.length<=Bj->WR P f n d Q m todo fr ds h u):WR P f n d Q m todo fr ds h u:=λA=>A0k t λhw=>hk (by rw[z]at hw;simpa using hw.lim) A
end
def A5(body:Nat->α->σ->R σ):Nat->List α->σ->R σ
 |_,[],s=>.ok s
 |k,a::l,s=>(body k a s).bind λz=>A5 body (k+1) l z
@[simp] theorem Bms(body:Nat->α->σ->R σ)(k:Nat)(s:σ):A5 body k [] s=.ok s:=rfl
def A72(body:Nat->α->σ->R σ)(k:Nat)(a:α)(l:List α)(s:σ):A5 body k (a::l) s=(body k a s).bind λz=>A5 body (k+1) l z:=rfl
variable{γ:Type}{rest:α→R γ}
section
variable[GW P]{F:γ→R β}
def D8(hr:WR P f n d Q (m.bind R.ok) todo fr ds h u):WR P f n d Q m todo fr ds h u:=by rwa[R.bind_ok]at hr
def Ae{m m':R γ}(e:m=m')(hr:WR P f n d Q (m'.bind F) todo fr ds h u):WR P f n d Q (m.bind F) todo fr ds h u:=e▸hr
def E4{c:Operand}{x:Code}{p:Prop}[Decidable p]{A B:R γ}(z:ev fr c=.bool (decide p))(ht:p->WR P f n d Q (A.bind F) (.code x::k) fr ds h u)(hf:¬p->WR P f n d Q (B.bind F) (.code y::k) fr ds h u):WR P f n d Q ((if p then A else B).bind F) (.code (.cond c x y)::k) fr ds h u:=by
 have e:(if p then A else B).bind F=if p then A.bind F else B.bind F:=by split<;>rfl
 rw[e];exact Bjs z ht hf
def Bo{c:Operand}{x:Code}{A B:R γ}(z:ev fr c=.bool b)(ht:b=true->WR P f n d Q (A.bind F) (.code x::k) fr ds h u)(hf:b=false->WR P f n d Q (B.bind F) (.code y::k) fr ds h u):WR P f n d Q ((if b then A else B).bind F) (.code (.cond c x y)::k) fr ds h u:=by
 have e:(if b then A else B).bind F=if b then A.bind F else B.bind F:=by split<;>rfl
 rw[e];exact Bgd z ht hf
def Ra {π:Type}(rest:π->R γ)(z:π->(Nat->AV)->Aa->Prop){m:R γ}{i:Item}(hk:∀p fr h,z p fr h->WR P f n d Q ((rest p).bind F) k fr ds h u)
  (A:(∀p fr h,z p fr h->WR P f n d Q ((rest p).bind F) k fr ds h u)->WR P f n d Q (m.bind F) (i::k) fr ds h u):WR P f n d Q (m.bind F) (i::k) fr ds h u:=A hk
def Bij(body:σ->R (σ ⊕ ε))(rest:ε->R γ)(D:σ->(Nat->AV)->Aa->Prop)(G:σ)(A:D G fr h)(z : ∀ W:σ->R ε,(∀ s fr h,D s fr h->WR P f n d Q (((W s).bind rest).bind F) (.inLoop c::k) fr ds h u) -> ∀ s fr h,D s fr h ->
   WR P f n d Q ((body s).bind λx=>match x with|.inl O=>((W O).bind rest).bind F|.inr e=>(rest e).bind F) (.code c::.inLoop c::k) fr ds h u):
  WR P f n d Q (((loop body G).bind rest).bind F) (.code (.loop c)::k) fr ds h u:=by
 refine Uo (R.bind_assoc _ _ _) (Bgl body (λx=>(rest x).bind F) D G A λW S s fr h A=>?_)
 have:=z W (λs fr h A=>Uo (R.bind_assoc _ _ _) (S s fr h A)) s fr h A
 refine Uo ?_ this
 congr 1
 funext x
 cases x with
 |inl O=>exact(R.bind_assoc _ _ _).symm
 |inr e=>rfl
def A36(L:List α)(body:Nat->α->σ->R (σ ⊕ ε))(rest:σ ⊕ ε->R γ)(A:Nat->σ->(Nat->AV)->Aa->Prop)(G:σ)(D:A 0 G fr h)(z : ∀ (j:Nat) (a:α),L[j]? = some a -> ∀ W:σ->R (σ ⊕ ε),(∀ s fr h,A (j+1) s fr h->WR P f n d Q (((W s).bind rest).bind F) (.inLoop c::k) fr ds h u) -> ∀ s fr h,A j s fr h ->
   WR P f n d Q ((body j a s).bind λx=>match x with|.inl O=>((W O).bind rest).bind F|.inr e=>(rest (.inr e)).bind F) (.code c::.inLoop c::k) fr ds h u)(fin:∀s fr h,A L.length s fr h->WR P f n d Q ((rest (.inl s)).bind F) (.code c::.inLoop c::k) fr ds h u):
  WR P f n d Q (((each body 0 L G).bind rest).bind F) (.code (.loop c)::k) fr ds h u:=by
 refine Uo (R.bind_assoc _ _ _) (Bh8 L body (λx=>(rest x).bind F) A G D (λj a S W U s fr h D=>?_) fin)
 have:=z j a S W (λs fr h D=>Uo (R.bind_assoc _ _ _) (U s fr h D)) s fr h D
 refine Uo ?_ this
 congr 1
 funext x
 cases x with
 |inl O=>exact(R.bind_assoc _ _ _).symm
 |inr e=>rfl
def Bay(body:Nat->α->σ->R σ):∀(L:List α) (j:Nat) (s:σ),(each (ε:=Empty) (λj a s=>(body j a s).bind λz=>.ok (.inl z)) j L s).bind (fun|.inl s=>.ok s|.inr e=>nomatch e)=A5 body j L s
 |[],j,s=>rfl
 |a::l,j,s=>by
  rw[Abg,A72];cases body j a s with
  |ok z=>exact Bay body l (j+1) z
  |pan v=>rfl
  |bad=>rfl
def Bc2(L:List α)(body:Nat->α->σ->R σ)(rest:σ->R γ)(D:Nat->σ->(Nat->AV)->Aa->Prop)(G:σ)(z:D 0 G fr h)(A : ∀ (j:Nat) (a:α),L[j]? = some a -> ∀ W:σ->R σ,(∀ s fr h,D (j+1) s fr h->WR P f n d Q (((W s).bind rest).bind F) (.inLoop c::k) fr ds h u) -> ∀ s fr h,D j s fr h ->
   WR P f n d Q ((body j a s).bind λO=>((W O).bind rest).bind F) (.code c::.inLoop c::k) fr ds h u)(fin:∀s fr h,D L.length s fr h->WR P f n d Q ((rest s).bind F) (.code c::.inLoop c::k) fr ds h u):
  WR P f n d Q (((A5 body 0 L G).bind rest).bind F) (.code (.loop c)::k) fr ds h u:=by
 rw[<-Bay]
 rw[R.bind_assoc (each _ _ _ _)]
 refine A36 (ε:=Empty) L _ _ D G z (λj a S W U s fr h z=>?_) (λs fr h z=>fin s fr h z)
 have:=A j a S (λs=>(W s).bind fun|.inl s=>.ok s|.inr e=>nomatch e) (λs fr h z=>by rw[R.bind_assoc (W s)];exact U s fr h z) s fr h z
 refine Uo ?_ this
 rw[R.bind_assoc]
 congr 1
 funext O
 simp only[R.ok_bind]
 cases W O with
 |ok x=>
  cases x with
  |inl s=>rfl
  |inr e=>exact nomatch e
 |pan v=>rfl
 |bad=>rfl
section
variable{all r:List Oper}{pos:String}
def Tp{L:List α}(hk:∀a,0<=i->L[i.toNat]?=some a->WO P f n d Q k all ((rest a).bind F) ops fr ds h u):WO P f n d Q k all (((idx L i).bind rest).bind F) ops fr ds h u:=Anx (R.bind_assoc _ _ _) (Bjy hk)
def Cf{p:Prop}[Decidable p]{rest:R γ}(hk:p->WO P f n d Q k all (rest.bind F) ops fr ds h u):WO P f n d Q k all ((if p then rest else .bad).bind F) ops fr ds h u:=by
 have e:(if p then rest else .bad).bind F=if p then rest.bind F else .bad:=by split<;>rfl
 rw[e];exact Bh5 hk
def Bg0{A B:R γ}(ht:b=true->WO P f n d Q k all (A.bind F) ops fr ds h u)(hf:b=false->WO P f n d Q k all (B.bind F) ops fr ds h u):WO P f n d Q k all ((if b then A else B).bind F) ops fr ds h u:=by
 have e:(if b then A else B).bind F=if b then A.bind F else B.bind F:=by split<;>rfl
 rw[e];exact Bis ht hf
def Cb{t:Nat}{g:FuncId}(A:List AV){mg:R α}{e:α->AV}(ht:Nat.blt t n=true)(hw:Cx all (Ac l) ⟨some t,.call ⟨.value x,⟨as0⟩,ts⟩,ty,pos,after,gd⟩=some true)(z:ev (Ac l) x=.func (.func g) fst cap)(D:fst++Ev (Ac l) as0++cap=A)(G:mg≠.bad->Bs P g A h (Yd e h mg))(hp:∀v,mg=.pan v->WU P f n d Q (.pan v) (.pan v.av false) (Ac l) ds h u)(hk:∀a,mg=.ok a->WO P f n d Q k all ((rest a).bind F) r (Ac ((t,e a)::l)) ds h u): WO P f n d Q k all ((mg.bind rest).bind F) (⟨some t,.call ⟨.value x,⟨as0⟩,ts⟩,ty,pos,after,gd⟩::r) (Ac l) ds h u:=Anx (R.bind_assoc _ _ _) (Bgh ht hw z D G hp hk)
end
end
section
variable{δ ζ η θ τ:Type}{κ:Sort _}
@[reducible] def Ct (f:α->β->κ):α×β->κ|(a,b)=>f a b
@[reducible] def un3 (f:α->β->γ->κ):α×β×γ->κ|(a,b,c)=>f a b c
@[simp] theorem Bjx (f:α->β->κ)(a:α)(b:β):Ct f (a,b)=f a b:=rfl
@[simp] theorem Bm4 (f:α->β->γ->κ)(a:α)(b:β)(c:γ):un3 f (a,b,c)=f a b c:=rfl
@[reducible] def alt (f:α->κ)(g:β->κ):α ⊕ β->κ|.inl a=>f a|.inr b=>g b
@[simp] theorem Awj (f:α->κ)(g:β->κ)(a:α):alt f g (.inl a)=f a:=rfl
@[simp] theorem Bn2 (f:α->κ)(g:β->κ)(b:β):alt f g (.inr b)=g b:=rfl
end
def Aqa(W:σ->R ε)(rest:ε->R γ)(F:γ->R β):σ ⊕ ε->R β
 |.inl z=>((W z).bind rest).bind F
 |.inr e=>(rest e).bind F
def Aqh(W:σ->R (σ ⊕ ε))(rest:σ ⊕ ε->R γ)(F:γ->R β):σ ⊕ ε->R β
 |.inl z=>((W z).bind rest).bind F
 |.inr e=>(rest (.inr e)).bind F
def Aff(W:σ->R σ)(rest:σ->R γ)(F:γ->R β):σ->R β
 |s'=>((W s').bind rest).bind F
def X2(rest:α->R γ)(F:γ->R β):α->R β
 |a=>(rest a).bind F
variable{W:σ→R (σ ⊕ ε)}{α':Type}{β':Type}{f1:α'→R γ}{g1:β'→R γ}
section
variable[GW P]{F:γ→R β}
def Hl{W:σ->R ε}{rest:ε->R γ}{s:σ}(hr:WR P f n d Q (((W s).bind rest).bind F) todo fr ds h u):WR P f n d Q ((R.ok (.inl s)).bind (Aqa W rest F)) todo fr ds h u:=hr
def N7{W:σ->R ε}{rest:ε->R γ}{e:ε}(hr:WR P f n d Q ((rest e).bind F) todo fr ds h u):WR P f n d Q ((R.ok (.inr e)).bind (Aqa W rest F)) todo fr ds h u:=hr
def Avz{rest:σ ⊕ ε->R γ}{s:σ}(hr:WR P f n d Q (((W s).bind rest).bind F) todo fr ds h u):WR P f n d Q ((R.ok (.inl s)).bind (Aqh W rest F)) todo fr ds h u:=hr
def A4m{rest:σ ⊕ ε->R γ}{e:ε}(hr:WR P f n d Q ((rest (.inr e)).bind F) todo fr ds h u):WR P f n d Q ((R.ok (.inr e)).bind (Aqh W rest F)) todo fr ds h u:=hr
def Z4{W:σ->R σ}{rest:σ->R γ}{s:σ}(hr:WR P f n d Q (((W s).bind rest).bind F) todo fr ds h u):WR P f n d Q ((R.ok s).bind (Aff W rest F)) todo fr ds h u:=hr
def A07{a:α'}(hr:WR P f n d Q ((f1 a).bind F) todo fr ds h u):WR P f n d Q ((alt f1 g1 (.inl a)).bind F) todo fr ds h u:=hr
def Aud{b:β'}(hr:WR P f n d Q ((g1 b).bind F) todo fr ds h u):WR P f n d Q ((alt f1 g1 (.inr b)).bind F) todo fr ds h u:=hr
def Ko(body:σ->R (σ ⊕ ε))(rest:ε->R γ)(A:σ->(Nat->AV)->Aa->Prop)(D:σ)(G:A D fr h)(z : ∀ W:σ->R ε,(∀ s fr h,A s fr h->WR P f n d Q (((W s).bind rest).bind F) (.inLoop c::k) fr ds h u) -> ∀ s fr h,A s fr h ->
   WR P f n d Q ((body s).bind (Aqa W rest F)) (.code c::.inLoop c::k) fr ds h u):
  WR P f n d Q (((loop body D).bind rest).bind F) (.code (.loop c)::k) fr ds h u:=
 Bij body rest A D G λW O s fr h G=>by
  refine Uo ?_ (z W O s fr h G)
  congr 1
def Ast(L:List α)(body:Nat->α->σ->R (σ ⊕ ε))(rest:σ ⊕ ε->R γ)(A:Nat->σ->(Nat->AV)->Aa->Prop)(D:σ)(G:A 0 D fr h)(z : ∀ (j:Nat) (a:α),L[j]? = some a -> ∀ W:σ->R (σ ⊕ ε),(∀ s fr h,A (j+1) s fr h->WR P f n d Q (((W s).bind rest).bind F) (.inLoop c::k) fr ds h u) -> ∀ s fr h,A j s fr h ->
   WR P f n d Q ((body j a s).bind (Aqh W rest F)) (.code c::.inLoop c::k) fr ds h u)(fin:∀s fr h,A L.length s fr h->WR P f n d Q ((rest (.inl s)).bind F) (.code c::.inLoop c::k) fr ds h u):
  WR P f n d Q (((each body 0 L D).bind rest).bind F) (.code (.loop c)::k) fr ds h u:=
 A36 L body rest A D G (λj a O W S s fr h G=>by
  refine Uo ?_ (z j a O W S s fr h G)
  congr 1) fin
def Ld(L:List α)(body:Nat->α->σ->R σ)(rest:σ->R γ)(A:Nat->σ->(Nat->AV)->Aa->Prop)(D:σ)(G:A 0 D fr h)(z : ∀ (j:Nat) (a:α),L[j]? = some a -> ∀ W:σ->R σ,(∀ s fr h,A (j+1) s fr h->WR P f n d Q (((W s).bind rest).bind F) (.inLoop c::k) fr ds h u) -> ∀ s fr h,A j s fr h ->
   WR P f n d Q ((body j a s).bind (Aff W rest F)) (.code c::.inLoop c::k) fr ds h u)(fin:∀s fr h,A L.length s fr h->WR P f n d Q ((rest s).bind F) (.code c::.inLoop c::k) fr ds h u):
  WR P f n d Q (((A5 body 0 L D).bind rest).bind F) (.code (.loop c)::k) fr ds h u:=Bc2 L body rest A D G z fin
def Bi6{c:Operand}{x:Code}{p:Prop}[Decidable p]{A B:R γ}(D:ev fr c=.bool (!decide p))(ht:p->WR P f n d Q (A.bind F) (.code y::k) fr ds h u)(hf:¬p->WR P f n d Q (B.bind F) (.code x::k) fr ds h u):WR P f n d Q ((if p then A else B).bind F) (.code (.cond c x y)::k) fr ds h u:=by
 intro z;by_cases hp:p
 .rw[if_pos hp]at z ⊢;exact V5 (b:=false) (by rw[D];simp[hp]) (ht hp z)
 .rw[if_neg hp]at z ⊢;exact V5 (b:=true) (by rw[D];simp[hp]) (hf hp z)
def N8{c:Operand}{x:Code}{A B:R γ}(G:ev fr c=.bool (!b))(ht:b=true->WR P f n d Q (A.bind F) (.code y::k) fr ds h u)(hf:b=false->WR P f n d Q (B.bind F) (.code x::k) fr ds h u):WR P f n d Q ((if b then A else B).bind F) (.code (.cond c x y)::k) fr ds h u:=by
 intro D;cases z:b with
 |true=>simp only[z,if_true]at D ⊢;exact V5 (b:=false) (by rw[G,z];rfl) (ht z D)
 |false=>simp only[z,BD,if_false]at D ⊢;exact V5 (b:=true) (by rw[G,z];rfl) (hf z D)
section
variable{all r:List Oper}{pos:String}
def Bdt(b:Bool)(ht:b=true->WO P f n d Q k all m ops fr ds h u)(hf:b=false->WO P f n d Q k all m ops fr ds h u):WO P f n d Q k all m ops fr ds h u:=by
 cases z:b with
 |true=>exact ht z
 |false=>exact hf z
def Ba3{A B:R α}(ht:b=true->WO P f n d Q k all (A.bind (X2 rest F)) ops fr ds h u)(hf:b=false->WO P f n d Q k all (B.bind (X2 rest F)) ops fr ds h u):WO P f n d Q k all (((if b then A else B).bind rest).bind F) ops fr ds h u:=by have e:∀X:R α,(X.bind rest).bind F=X.bind (X2 rest F):=λX=>R.bind_assoc _ _ _;rw[e];exact Bg0 ht hf
def Ath{a:α}(hr:WO P f n d Q k all ((rest a).bind F) ops fr ds h u):WO P f n d Q k all ((R.ok a).bind (X2 rest F)) ops fr ds h u:=hr
end
end
def Afb{a:Bool}(h:a=true):AV.bool b=.bool (a&&b):=by rw[h];rfl
def Afc{a:Bool}(h:a=false):AV.bool false=.bool (a&&b):=by rw[h];rfl
def Ava{a:Bool}(h:a=true):AV.bool true=.bool (a||b):=by rw[h];rfl
def Av1{a:Bool}(h:a=false):AV.bool b=.bool (a||b):=by rw[h];rfl
section
variable[GW P]
def Co{c:Operand}{x:Code}{p:Prop}[Decidable p](z:ev fr c=.bool (decide p))(hp:p)(hr:WR P f n d Q m (.code x::k) fr ds h u):WR P f n d Q m (.code (.cond c x y)::k) fr ds h u:=λA=>V5 (b:=true) (by rw[z];simp[hp]) (hr A)
def Eb{c:Operand}{x:Code}{p:Prop}[Decidable p](z:ev fr c=.bool (decide p))(hp:¬p)(hr:WR P f n d Q m (.code y::k) fr ds h u):WR P f n d Q m (.code (.cond c x y)::k) fr ds h u:=λA=>V5 (b:=false) (by rw[z];simp[hp]) (hr A)
end
inductive LF (h h2:Aa):List AV->List AV->Prop
 |nil:LF h h2 [] []
 |cons {a b:AV} {l l':List AV} (hx:Fz h h2 a b) (hr:LF h h2 l l'):LF h h2 (a::l) (b::l')
variable{l':List AV}
def LF.all{l:List AV}(z:LF h h2 l l'):l.length=l'.length/\∀i,i<l.length->Fz h h2 (l.getD i .und) (l'.getD i .und):=by
 induction z with
 |nil=>exact⟨rfl,λi hi=>by simp at hi⟩
 |cons z hr A=>
  refine⟨by simp[A.1],λi hi=>?_⟩;cases i with
  |zero=>exact z
  |succ i=>simpa using A.2 i (by simpa using hi)
def Fz.tupL{l:List AV}(z:LF h h2 l l'):Fz h h2 (.tup l) (.tup l'):=.tup l l' z.all.1 z.all.2
def Fz.aggL{l:List AV}(z:LF h h2 l l'):Fz h h2 (.agg l) (.agg l'):=.agg l l' z.all.1 z.all.2
def LF.lfz{l:List AV}(z:LF h hE l l'):LFz h l l':=by
 induction z with
 |nil=>trivial
 |cons z hr A=>exact⟨z,A⟩
section
variable[GW P]
def A0:Gc P h fr []=some []:=rfl
def Ht {t:Nat}{r:List ResultVar}{vs:List AV}(hr:Gc P h fr r=some vs):Gc P h fr (.tmp t::r)=some (fr t::vs):=by simp only[Gc,hr,AQ]
def Aw{r:List ResultVar}{vs:List AV}(z:O6 P h t (fr a)=some v)(hr:Gc P h fr r=some vs):Gc P h fr (.cell a t::r)=some (v::vs):=by simp only[Gc,hr,z]
def B7{L:List α}(z:st=n):F6 P h n b (.sl st (L.map e))=some (L.map e):=by simp only[F6,if_pos z]
end
variable{sT:TypeId}{a1:Nat}{b1:Nat}{K2:TK}{rows:List (List AV)}{ln:Operand}{kc:IntKind}
section
variable[GW P]{all r:List Oper}{pos:String}
section
variable{L L2:List α}{g:Nat}
def C7{xT:TypeId}{a2 b2:Nat}{E:TI}{s:Operand}{K:AV->Aa->Prop}(S:Ids h0 ids N)(U:xs.length=N)(A:Nat.blt j N=true)(hs:ev fr s=v)(hv:Av v (ix ids j) g L.length)(V:xs[j]?=some (Af v g st (L.map e)))(W:F6 P (hp h0 ids xs) E.size (decide (E.k=.int .u8)) (ev fr x)=some (L2.map e))(hS:ti P sT=some ⟨.sl et,a1,b1,z1⟩)(hX:ti P xT=some ⟨K2,a2,b2,z2⟩)(X:K2.many=true)(hE:ti P et=some E)(D:st=E.size)(Y:Nat.blt 0 E.size=true)(Z:Nat.blt 0 E.bytes=true)(z:(L.length+L2.length)*E.bytes<=Bj)(hk:∀v' g',Av v' (ix ids j) g' (L++L2).length->K v' (hp h0 ids (xs.set j (Af v' g' st ((L++L2).map e))))):
  D3 P fr (hp h0 ids xs) (.call ⟨.builtin .append,⟨[s,x]⟩,⟨[sT,xT]⟩⟩) K:=by
 have G:0<E.size:=by simpa using Y
 have O:0<E.bytes:=by simpa using Z
 simp only[D3,Mn,Ev,List.map]
 refine .inl ?_
 simp only[W4,hS,hX,hE,hs,W,X,G,O,true_and,AL]
 rcases hv with⟨rfl,hn⟩|rfl
 .have:L=[]:=CQ.1 hn;subst this;by_cases h2:L2.length=0
  .have:L2=[]:=CQ.1 h2;subst this;simp only[CW,if_true];have:=hk .emp g (.inl ⟨rfl,rfl⟩);have e1:xs.set j (Af .emp g st (([]++[]:List α).map e))=xs:=by
    apply EH;intro i;rw[FS];split
    .rename_i hq;subst hq;split
     .exact V.symm
     .rename_i hq;rw[BA (by omega)]
    .rfl
   rw[e1]at this;exact this
  .rw[if_neg h2];refine⟨by simpa using z,Yt (ix ids j) (S.at U V) λg'=>?_⟩;rw[S.set U A];have:=hk (.ref (ix ids j) g' 0 L2.length) g' (.inr (by simp));simp only[Af,CM]at this;rw[<-D];exact this
 .have ha:=S.at U V;simp only[Af]at ha;simp only[ha];refine⟨trivial,D,by simp,z,λg'=>?_⟩;rw[S.set U A];have:=hk (.ref (ix ids j) g' 0 (L.length+L2.length)) g' (.inr (by simp));simp only[Af,FQ]at this;have e1:(List.drop 0 (List.map e L)).take L.length=List.map e L:=by rw[DV,DD (by simp)]
  rw[e1];exact this
def Ce{t:Nat}{xT:TypeId}{a2 W:Nat}{E:TI}{s:Operand}(X:Ids h0 ids N)(Y:xs.length=N)(A:Nat.blt j N=true)(ht:Nat.blt t n=true)(Z:ev (Ac l) s=v)(hv:Av v (ix ids j) g L.length)(hj:xs[j]?=some (Af v g st (L.map e)))(D:F6 P (hp h0 ids xs) E.size (decide (E.k=.int .u8)) (ev (Ac l) x)=some (L2.map e))(hS:ti P sT=some ⟨.sl et,a1,b1,z1⟩)(hX:ti P xT=some ⟨K2,a2,W,z2⟩)(G:K2.many=true)(hE:ti P et=some E)(O:st=E.size)(S:Nat.blt 0 E.size=true)(U:Nat.blt 0 E.bytes=true)(z:(L.length+L2.length)*E.bytes<=Bj)(hk:∀v' g',Av v' (ix ids j) g' (L++L2).length->WO P f n d Q k all m r (Ac ((t,v')::l)) ds (hp h0 ids (xs.set j (Af v' g' st ((L++L2).map e)))) u): WO P f n d Q k all m (⟨some t,.call ⟨.builtin .append,⟨[s,x]⟩,⟨[sT,xT]⟩⟩,ty,pos,after,none⟩::r) (Ac l) ds (hp h0 ids xs) u:=R9 ht (λ_ _=>rfl) λK hK=>C7 X Y A Z hv hj D hS hX G hE O S U z λv' g' V=>hK _ _ (hk v' g' V)
def Bip{K:AV->Aa->Prop}{E:TI}(z:ti P sT=some ⟨.sl et,a1,b1,z1⟩)(hE:ti P et=some E)(hk:K .emp h):
  D3 P fr h (.buildSlice sT 0 ⟨[]⟩) K:=by
 simp only[D3,J3,z,hE]
 rw[if_pos trivial]
 exact⟨rfl,.inl hk⟩
inductive RowSim:List AV->List AV->Prop
 |nil:RowSim [] []
 |cons {a b:AV} {l l':List AV} (h:CellSim a b) (r:RowSim l l'):RowSim (a::l) (b::l')
inductive RowsSimL:List (List AV)->List (List AV)->Prop
 |nil:RowsSimL [] []
 |cons {a b:List AV} {l l':List (List AV)} (h:RowSim a b) (r:RowsSimL l l'):RowsSimL (a::l) (b::l')
def RowSim.refl:∀l:List AV,RowSim l l
 |[]=>.nil
 |a::l=>.cons (.same a) (RowSim.refl l)
def RowSim.get{l:List AV}(h:RowSim l l'):∀j,j<l.length->CellSim (l.getD j .und) (l'.getD j .und):=by
 induction h with
 |nil=>intro j z;simp at z
 |cons h r A=>
  intro j z;cases j with
  |zero=>exact h
  |succ j=>simpa using A j (by simpa using z)
def RowsSimL.sim(h:RowsSimL rows (L.map e))(hr:∀x,Cy st (e x))(G:∀r∈rows,r.length=st):RowsSim st rows (L.map e):=by
 have key:∀{rows z:List (List AV)},RowsSimL rows z->z.length=rows.length/\∀i,i<rows.length->RowSim (rows.getD i []) (z.getD i []):=by
  intro rows z h;induction h with
  |nil=>exact⟨rfl,λi hi=>by simp at hi⟩
  |cons h r D=>
   refine⟨by simp[D.1],λi hi=>?_⟩;cases i with
   |zero=>exact h
   |succ i=>simpa using D.2 i (by simpa using hi)
 obtain⟨k1,k2⟩:=key h;refine⟨k1,λr A=>by obtain⟨x,_,rfl⟩:=CC.1 A;exact hr x,λi j hi O=>(k2 i hi).get j ?_⟩;rw[G _ (by rw[show rows.getD i []=rows[i]by simp[List.getD,hi]];exact BK hi)];exact O
def Dd{K:AV->Aa->Prop}{c:Nat}{E:TI}(Y:ti P sT=some ⟨.sl et,a1,b1,z1⟩)(hE:ti P et=some E)(X:Nat.beq c 0=false)(S:Nat.blt 0 E.size=true)(A:Nat.ble (c*E.size) 16777216=true)(hz:E.z.all AV.flat=true)(hf:Vy E.size (List.replicate c E.z) (Xu fr ps)=some rows)(D:RowsSimL rows (L.map e))(hr:∀x,Cy st (e x))(U:rows.all (λr=>Nat.beq r.length st)=true)(G:st=E.size)(hk:K (.sl st (L.map e)) h):D3 P fr h (.buildSlice sT c ⟨ps⟩) K:=by
 have V:c≠0:=λq=>by rw[q]at X;cases X
 have O:0<E.size:=by simpa using S
 have z:c*E.size<=2^24:=by simpa using A
 simp only[D3,J3,Y,hE];rw[if_neg V];refine⟨O,z,hz,?_⟩;rw[hf];exact⟨L.map e,G▸D.sim hr λr W=>by simpa using AJ.1 U r W,.inl (G▸hk)⟩
def Ch{t:Nat}{c:Nat}{E:TI}(ht:Nat.blt t n=true)(S:ti P sT=some ⟨.sl et,a1,b1,z1⟩)(hE:ti P et=some E)(U:Nat.beq c 0=false)(D:Nat.blt 0 E.size=true)(z:Nat.ble (c*E.size) 16777216=true)(hz:E.z.all AV.flat=true)(hf:Vy E.size (List.replicate c E.z) (Xu (Ac l) ps)=some rows)(A:RowsSimL rows (L.map e))(hr:∀x,Cy st (e x))(G:rows.all (λr=>Nat.beq r.length st)=true)(O:st=E.size)(hk:WO P f n d Q k all m r (Ac ((t,.sl st (L.map e))::l)) ds h u):WO P f n d Q k all m (⟨some t,.buildSlice sT c ⟨ps⟩,ty,pos,after,none⟩::r) (Ac l) ds h u:=R9 ht (λ_ _=>rfl) λK V=>Dd S hE U D z hz hf A hr G O (V _ _ hk)
def Aj7{t:Nat}{E:TI}(ht:Nat.blt t n=true)(z:ti P sT=some ⟨.sl et,a1,b1,z1⟩)(hE:ti P et=some E)(hk:WO P f n d Q k all m r (Ac ((t,.emp)::l)) ds h u):WO P f n d Q k all m (⟨some t,.buildSlice sT 0 ⟨[]⟩,ty,pos,after,none⟩::r) (Ac l) ds h u:=R9 ht (λ_ _=>rfl) λK A=>Bip z hE (A _ _ hk)
def Bjt{K:AV->Aa->Prop}{c:Nat}{E:TI}(Y:Ids h0 ids N)(Z:xs.length=N)(S:Nat.blt j N=true)(hj:xs[j]?=some none)(hS:ti P sT=some ⟨.sl et,a1,b1,z1⟩)(hE:ti P et=some E)(hc:Nat.beq c 0=false)(U:Nat.blt 0 E.size=true)(A:Nat.ble (c*E.size) 16777216=true)(hz:E.z.all AV.flat=true)(hf:Vy E.size (List.replicate c E.z) (Xu fr ps)=some rows)(D:RowsSimL rows (L.map e))(hr:∀x,Cy st (e x))(V:rows.all (λr=>Nat.beq r.length st)=true)(hL:L.length=c)(G:st=E.size)(hk:∀v' g',Av v' (ix ids j) g' L.length->K v' (hp h0 ids (xs.set j (Af v' g' st (L.map e))))):
  D3 P fr (hp h0 ids xs) (.buildSlice sT c ⟨ps⟩) K:=by
 have W:c≠0:=λq=>by rw[q]at hc;cases hc
 have O:0<E.size:=by simpa using U
 have z:c*E.size<=2^24:=by simpa using A
 simp only[D3,J3,hS,hE]
 rw[if_neg W]
 refine⟨O,z,hz,?_⟩
 rw[hf]
 refine⟨L.map e,G▸D.sim hr λr X=>by simpa using AJ.1 V r X,.inr ?_⟩
 refine Yt (ix ids j) (Y.at Z hj) λg'=>?_
 rw[Y.set Z S]
 have:=hk (.ref (ix ids j) g' 0 c) g' (.inr (by rw[hL]))
 simp only[Af]at this
 rw[<-G]
 exact this
def Blu{t:Nat}{c:Nat}{E:TI}(V:Ids h0 ids N)(W:xs.length=N)(D:Nat.blt j N=true)(X:xs[j]?=some none)(ht:Nat.blt t n=true)(Y:ti P sT=some ⟨.sl et,a1,b1,z1⟩)(hE:ti P et=some E)(Z:Nat.beq c 0=false)(G:Nat.blt 0 E.size=true)(z:Nat.ble (c*E.size) 16777216=true)(hz:E.z.all AV.flat=true)(hf:Vy E.size (List.replicate c E.z) (Xu (Ac l) ps)=some rows)(A:RowsSimL rows (L.map e))(hr:∀x,Cy st (e x))(O:rows.all (λr=>Nat.beq r.length st)=true)(hL:L.length=c)(S:st=E.size)(hk:∀v' g',Av v' (ix ids j) g' L.length->WO P f n d Q k all m r (Ac ((t,v')::l)) ds (hp h0 ids (xs.set j (Af v' g' st (L.map e)))) u): WO P f n d Q k all m (⟨some t,.buildSlice sT c ⟨ps⟩,ty,pos,after,none⟩::r) (Ac l) ds (hp h0 ids xs) u:=R9 ht (λ_ _=>rfl) λK hK=>Bjt V W D X Y hE Z G z hz hf A hr O hL S λv' g' U=>hK _ _ (hk v' g' U)
def A4g[GW P]{E:TI}(hE:ti P et=some E):E.z.length=E.size:=by obtain⟨d,i,z,D,G,O,S,A,_⟩:=Pj hE;exact A
def Awp{K:AV->Aa->Prop}{E:TI}{cp:Operand}{c:Int}{y:α}(Y:Ids h0 ids N)(Z:xs.length=N)(G:Nat.blt j N=true)(O:xs[j]?=some none)(hS:ti P sT=some ⟨.sl et,a1,b1,z1⟩)(hE:ti P et=some E)(h1:ev fr ln=.int ki i)(h2:ev fr cp=.int kc c)(hi:0<=i)(S:i<=c)(z:c.toNat*E.bytes<=Bj)(U:Nat.blt 0 E.size=true)(V:Nat.blt 0 E.bytes=true)(hz:E.z.all AV.flat=true)(hr:Cy E.size (e y))(hy:RowSim E.z (e y))(W:st=E.size)(hk:∀v' g',Av v' (ix ids j) g' (List.replicate i.toNat y).length->K v' (hp h0 ids (xs.set j (Af v' g' st ((List.replicate i.toNat y).map e))))):
  D3 P fr (hp h0 ids xs) (.makeSlice sT ln cp) K:=by
 have X:=A4g hE
 have A:0<E.size:=by simpa using U
 have D:0<E.bytes:=by simpa using V
 simp only[D3,Ae2,hS,hE,h1,h2]
 refine⟨A,D,hz,hi,S,z,.inl ⟨e y,hr,λj O=>hy.get j (by rw[X];exact O),Yt (ix ids j) (Y.at Z O) λg'=>?_⟩⟩
 rw[Y.set Z G]
 have:=hk (.ref (ix ids j) g' 0 i.toNat) g' (.inr (by simp))
 simp only[Af,List.map_replicate]at this
 rw[<-W]
 exact this
def Bek{K:AV->Aa->Prop}{E:TI}{cp:Operand}{c:Int}{y:α}(V:Ids h0 ids N)(W:xs.length=N)(A:Nat.blt j N=true)(X:xs[j]?=some none)(Y:ti P sT=some ⟨.sl et,a1,b1,z1⟩)(hE:ti P et=some E)(h1:ev fr ln=.int ki i)(h2:ev fr cp=.int kc c)(hi:0<=i)(D:i<=c)(z:c.toNat*E.bytes<=Bj)(G:Nat.blt 0 E.size=true)(O:Nat.blt 0 E.bytes=true)(hz:E.z.all AV.flat=true)(S:E.z=e y)(U:st=E.size)(hk:∀v' g',Av v' (ix ids j) g' (List.replicate i.toNat y).length->K v' (hp h0 ids (xs.set j (Af v' g' st ((List.replicate i.toNat y).map e))))):
  D3 P fr (hp h0 ids xs) (.makeSlice sT ln cp) K:=by
 refine Awp V W A X Y hE h1 h2 hi D z G O hz ⟨by rw[<-S];exact A4g hE,λv Z=>AJ.1 hz v (by rw[S];exact Z)⟩ (S▸RowSim.refl _) U hk
def Bhq{t:Nat}{E:TI}{cp:Operand}{c:Int}{y:α}(V:Ids h0 ids N)(W:xs.length=N)(A:Nat.blt j N=true)(X:xs[j]?=some none)(ht:Nat.blt t n=true)(Y:ti P sT=some ⟨.sl et,a1,b1,z1⟩)(hE:ti P et=some E)(h1:ev (Ac l) ln=.int ki i)(h2:ev (Ac l) cp=.int kc c)(hi:0<=i)(D:i<=c)(z:c.toNat*E.bytes<=Bj)(G:Nat.blt 0 E.size=true)(O:Nat.blt 0 E.bytes=true)(hz:E.z.all AV.flat=true)(Z:E.z=e y)(S:st=E.size)(hk:∀v' g',Av v' (ix ids j) g' (List.replicate i.toNat y).length->WO P f n d Q k all m r (Ac ((t,v')::l)) ds (hp h0 ids (xs.set j (Af v' g' st ((List.replicate i.toNat y).map e)))) u): WO P f n d Q k all m (⟨some t,.makeSlice sT ln cp,ty,pos,after,none⟩::r) (Ac l) ds (hp h0 ids xs) u:=R9 ht (λ_ _=>rfl) λK hK=>Bek V W A X Y hE h1 h2 hi D z G O hz Z S λv' g' U=>hK _ _ (hk v' g' U)
end
end
variable{pre:List (List Nat)}{plan:D5}{pend:Gn}
section
variable[GW P]{F:γ→R β}
def WP (P:Program)[GW P](f:FuncId)(n:Nat)(d:FK)(Q:Spec β)(k:List Item)(all:List Oper)(pre:List (List Nat))(m:R β)(plan:D5)(pend:Gn)(fr:Nat->AV)(ds:List AD)(h:Aa)(u:AU):Prop:=Q.V m->∀(K:KT) (U:AV->KT),Going P f n d k (Q.Q m) K U->Lk P n d all pre K U plan pend fr ds h u
def A5a(z:P.follows .mixedOrders=true)(pre:List (List Nat))(plan:D5)(hp:Aqs ops pre plan=true)(A:WP P f n d Q k ops pre m plan [] fr ds h u): WR P f n d Q m (.code (.region id ⟨ops⟩ true)::k) fr ds h u:=λD=>Bi1 z pre plan hp λK U G=>A D K U G
section
variable{all:List Oper}{pos:String}{i:Nat}
def Fp (hr:WR P f n d Q m k fr ds h u):WP P f n d Q k all pre m [] pend fr ds h u:=λz K U A=>A.run _ _ _ _ (hr z)
def Az{t:Nat}(v:AV)(z:all[i]?=some ⟨some t,op,ty,pos,after,none⟩)(ht:Nat.blt t n=true)(A:B5 P (Ac l) h op=some v)(hk:WP P f n d Q k all pre m plan ((i,Ac l,v)::pend) (Ac ((t,v)::l)) ds h u):
  WP P f n d Q k all pre m ((false,i)::plan) pend (Ac l) ds h u:=by
 intro D K U G
 simp only[Lk,z]
 refine⟨by simpa[Ee]using ht,?_⟩
 have e:aF P all (Ac l) h ⟨some t,op,ty,pos,after,none⟩=some v:=by simp only[aF,Cx,A]
 rw[e]
 simp only[Db]
 exact hk D K U G
def Atq(e:m=m')(hr:WP P f n d Q k all pre m' plan pend fr ds h u):WP P f n d Q k all pre m plan pend fr ds h u:=e▸hr
def Ap5{L:List α}{A:Int}(hk:∀a,0<=A->L[A.toNat]?=some a->WP P f n d Q k all pre ((rest a).bind F) plan pend fr ds h u):WP P f n d Q k all pre (((idx L A).bind rest).bind F) plan pend fr ds h u:=by
 refine Atq (R.bind_assoc _ _ _) λz=>?_;unfold idx at z ⊢;by_cases h0:0<=A
 .rw[if_pos h0]at z ⊢;cases D:L[A.toNat]? with
  |none=>rw[D]at z;exact absurd z Q.bad
  |some a=>rw[D]at z;exact hk a h0 D z
 .rw[if_neg h0]at z;exact absurd z Q.bad
def Da {p:Prop}[Decidable p]{rest:R γ}(hk:p->WP P f n d Q k all pre (rest.bind F) plan pend fr ds h u):WP P f n d Q k all pre ((if p then rest else .bad).bind F) plan pend fr ds h u:=by
 intro z;by_cases hp:p
 .rw[if_pos hp]at z ⊢;exact hk hp z
 .rw[if_neg hp]at z;exact absurd z Q.bad
end
end
variable{k':IntKind}{by':Nat}
section
variable[GW P]
def Bgi{k:IntKind}{a b:Int}(hk:k=k')(z:b≠0):Ft P .quo t (.int k a) (.int k' b)=some (.int k (k.wrap (a.tdiv b))):=by simp only[Ft,if_pos (And.intro hk z)]
def Amc{k:IntKind}{a b:Int}(hk:k=k')(z:b≠0):Ft P .rem t (.int k a) (.int k' b)=some (.int k (a.tmod b)):=by simp only[Ft,if_pos (And.intro hk z)]
def Bhh{a:Bool}{s:Nat}(A:ti P t=some ⟨.bool,s,by',z⟩):Ft P .eql t (.bool a) (.bool b)=some (.bool (a==b)):=by simp only[Ft,X4,A,AQ]
def Biw{a:Bool}{s:Nat}(A:ti P t=some ⟨.bool,s,by',z⟩):Ft P .neq t (.bool a) (.bool b)=some (.bool (!(a==b))):=by simp only[Ft,X4,A,AQ]
def Bh9{s A:Nat}(D:ti P t=some ⟨.ifc,s,by',z⟩):Ft P .eql t (.iface A v) .nili=some (.bool false):=by simp only[Ft,X4,D,AQ]
def An5{s A:Nat}(D:ti P t=some ⟨.ifc,s,by',z⟩):Ft P .neq t (.iface A v) .nili=some (.bool true):=by simp only[Ft,X4,D,AQ];rfl
end
def Bs.weak[GW P]{g:FuncId}{Q:AR->Aa->Prop}(hz:LF h h args args')(D:Bs P g args' h Q):Bs P g args h Q:=by
 refine⟨D.1,λB mu w z s G=>D.2 B mu w z s ⟨hz.all.1▸G.1,λi hi=>?_⟩⟩;have A:i<args.length:=by rw[hz.all.1];exact hi
 exact Ig s (HN _) (hz.all.2 i A) (G.2 i A)
def AV.isAgg:AV->Bool
 |.agg _=>true
 |_=>false
def Axe[GW P]{o:BinOp}{y:Operand}{a b:AV}(z:a.isAgg=true)(A:b.isAgg=true)(D:Aqq P t=true):Pa P o t x y a b=true:=by cases a<;>simp[AV.isAgg]at z;cases b<;>simp[AV.isAgg]at A;cases o<;>simp[Pa,D]
def Az2(st:Nat)(e:α->List AV)(h:Aa)(o:Nat)(m:R (List α)):AR->Aa->Prop:=λr h'=>match m with
 |.ok a=>∃v g,r=.ret v/\Av v o g a.length/\h'=upd h o (Af v g st (a.map e))
 |.pan v=>r=.panic v.av/\h'=h
 |.bad=>False
def Vv(P:Program)[GW P](g:FuncId)(args:List AV)(m:R (List α))(st:Nat)(e:α->List AV):Prop:=∀h o,h o=none->m≠.bad->Bs P g args h (Az2 st e h o m)
variable{mg:R (List α)}
section
variable[GW P]{F:γ→R β}{all r:List Oper}{pos:String}
def Aon{t:Nat}{g:FuncId}(A:List AV){rest:List α->R γ}(X:Ids h0 ids N)(Y:xs.length=N)(O:Nat.blt j N=true)(hj:xs[j]?=some none)(ht:Nat.blt t n=true)(Z:ev (Ac l) x=.func (.func g) fst cap)(ha:fst++Ev (Ac l) as0++cap=A)(hc:mg≠.bad->Bs P g A (hp h0 ids xs) (Az2 st e (hp h0 ids xs) (ix ids j) mg))(S:∀v,mg=.pan v->WU P f n d Q (.pan v) (.pan v.av false) (Ac l) ds (hp h0 ids xs) u)(hk:∀a,mg=.ok a->∀v g',Av v (ix ids j) g' a.length->WO P f n d Q k all ((rest a).bind F) r (Ac ((t,v)::l)) ds (hp h0 ids (xs.set j (Af v g' st (a.map e)))) u):
  WO P f n d Q k all ((mg.bind rest).bind F) (⟨some t,.call ⟨.value x,⟨as0⟩,ts⟩,ty,pos,after,none⟩::r) (Ac l) ds (hp h0 ids xs) u:=by
 refine Anx (R.bind_assoc _ _ _) (Ow (by simpa[Ee]using ht) rfl λz K U V W=>?_)
 simp only[Hr,Z]
 rw[ha]
 have D:mg≠.bad:=λq=>by rw[q]at z;exact Q.bad z
 refine(hc D).mono λr' h' hr=>?_
 cases G:mg with
 |bad=>exact absurd G D
 |ok a=>rw[G]at hr z V;obtain⟨v,g',rfl,hv,rfl⟩:=hr;rw[X.set Y O];exact V _ _ _ _ (by rw[Db];exact hk a G v g' hv)
 |pan v=>rw[G]at hr z W;obtain⟨rfl,rfl⟩:=hr;exact W _ _ _ _ _ (S v G z)
end
section
variable[GW P]{F:γ→R β}{all:List Oper}{pos:String}{i:Nat}
def Ef:Eu P all pre i h []:=trivial
def Mc(z:cl pre i j=true)(hr:Eu P all pre i h pend):Eu P all pre i h ((j,fr,v)::pend):=⟨by rw[if_pos z];trivial,hr⟩
def Ag{t:Nat}(z:all[j]?=some ⟨some t,op,ty,pos,after,none⟩)(A:B5 P fr h op=some v)(hr:Eu P all pre i h pend):Eu P all pre i h ((j,fr,v)::pend):=by
 refine⟨?_,hr⟩;split
 .trivial
 .rw[z];simp only[aF,Cx,A]
def Ajx {o:Oper}(A:all[i]?=some o)(S:Ee n o.dst=true)(hw:Cx all fr o=some true)
  (V:Q.V m->∀(K:AV->List AD->Aa->AU->Prop) (U:AV->KT),(∀v z h' D,Eu P all pre i h' pend->WP P f n d Q k all pre m plan pend (Hq fr o.dst v) z h' D->K v z h' D)->
   (∀v fr ds h u,(∀fr',(∀t,(all.any λo=>o.dst==some t)=false->fr' t=fr t)->Xl P f n d (.pan v false) fr' ds h u (Q.Q m))->U v fr ds h u)->Hr P d U fr ds h u o.op K):WP P f n d Q k all pre m ((true,i)::plan) pend fr ds h u:=by
 intro G K U O
 simp only[Lk,A]
 refine⟨S,?_⟩
 rw[hw]
 exact V G _ _ (λv z h' D hp hk=>⟨hp,hk G K U O⟩) (λv fr ds h u W fr' hf=>O.unw _ _ _ _ _ (W fr' λt ht=>hf t λo A X=>by have:=List.any_eq_false.1 ht o A;simp[X]at this))
def Cz{t:Nat}(z:all[i]?=some ⟨some t,op,ty,pos,after,none⟩)(ht:Nat.blt t n=true)(h1:∀(K:AV->List AD->Aa->AU->Prop) (U:AV->KT),Hr P d U (Ac l) ds h u op K=D3 P (Ac l) h op (λv h'=>K v ds h' u))(A:∀K:AV->Aa->Prop,(∀v h',Eu P all pre i h' pend->WP P f n d Q k all pre m plan pend (Ac ((t,v)::l)) ds h' u->K v h')->D3 P (Ac l) h op K): WP P f n d Q k all pre m ((true,i)::plan) pend (Ac l) ds h u:=Ajx z (by simpa[Ee]using ht) rfl λG K U D O=>by rw[h1];exact A _ λv h' hp hw=>D _ _ _ _ hp (by rw[Db];exact hw)
def Cv(z:all[i]?=some ⟨none,op,ty,pos,after,none⟩)(h1:∀(K:AV->List AD->Aa->AU->Prop) (U:AV->KT),Hr P d U (Ac l) ds h u op K=D3 P (Ac l) h op (λv h'=>K v ds h' u))(A:∀K:AV->Aa->Prop,(∀v h',Eu P all pre i h' pend->WP P f n d Q k all pre m plan pend (Ac l) ds h' u->K v h')->D3 P (Ac l) h op K): WP P f n d Q k all pre m ((true,i)::plan) pend (Ac l) ds h u:=Ajx z rfl rfl λG K U D O=>by rw[h1];exact A _ λv h' hp hw=>D _ _ _ _ hp hw
def D7{t:Nat}{g:FuncId}(A:List AV){mg:R α}{e:α->AV}(V:all[i]?=some ⟨some t,.call ⟨.value x,⟨as0⟩,ts⟩,ty,pos,after,gd⟩)(hw:Cx all (Ac l) ⟨some t,.call ⟨.value x,⟨as0⟩,ts⟩,ty,pos,after,gd⟩=some true)(ht:Nat.blt t n=true)(W:ev (Ac l) x=.func (.func g) fst cap)(X:fst++Ev (Ac l) as0++cap=A)(Y:mg≠.bad->Bs P g A h (Yd e h mg))(hp:∀v,mg=.pan v->∀fr,(∀t,(all.any λo=>o.dst==some t)=false->fr t=Ac l t)->WU P f n d Q (.pan v) (.pan v.av false) fr ds h u)(hpd:Eu P all pre i h pend)(hk:∀a,mg=.ok a->WP P f n d Q k all pre ((rest a).bind F) plan pend (Ac ((t,e a)::l)) ds h u):
  WP P f n d Q k all pre ((mg.bind rest).bind F) ((true,i)::plan) pend (Ac l) ds h u:=by
 refine Atq (R.bind_assoc _ _ _) (Ajx V (by simpa[Ee]using ht) hw λz K U O S=>?_)
 simp only[Hr,W]
 rw[X]
 have D:mg≠.bad:=λq=>by rw[q]at z;exact Q.bad z
 refine(Y D).mono λZ h' hr=>?_
 obtain⟨rfl,hr⟩:=hr
 cases G:mg with
 |bad=>exact absurd G D
 |ok a=>rw[G]at hr z O;subst hr;exact O _ _ _ _ hpd (by rw[Db];exact hk a G)
 |pan v=>rw[G]at hr z S;subst hr;exact S _ _ _ _ _ (λfr' hf=>hp v G fr' hf z)
def Ajz{t:Nat}{g:FuncId}(A:List AV){rest:List α->R γ}(X:all[i]?=some ⟨some t,.call ⟨.value x,⟨as0⟩,ts⟩,ty,pos,after,none⟩)(Y:Ids h0 ids N)(Z:xs.length=N)(O:Nat.blt j N=true)(hj:xs[j]?=some none)(ht:Nat.blt t n=true)(hx:ev (Ac l) x=.func (.func g) fst cap)(ha:fst++Ev (Ac l) as0++cap=A)(hc:mg≠.bad->Bs P g A (hp h0 ids xs) (Az2 st e (hp h0 ids xs) (ix ids j) mg))(S:∀v,mg=.pan v->∀fr,(∀t,(all.any λo=>o.dst==some t)=false->fr t=Ac l t)->WU P f n d Q (.pan v) (.pan v.av false) fr ds (hp h0 ids xs) u)(hk:∀a,mg=.ok a->∀v g',Av v (ix ids j) g' a.length->Eu P all pre i (hp h0 ids (xs.set j (Af v g' st (a.map e)))) pend/\WP P f n d Q k all pre ((rest a).bind F) plan pend (Ac ((t,v)::l)) ds (hp h0 ids (xs.set j (Af v g' st (a.map e)))) u):
  WP P f n d Q k all pre ((mg.bind rest).bind F) ((true,i)::plan) pend (Ac l) ds (hp h0 ids xs) u:=by
 refine Atq (R.bind_assoc _ _ _) (Ajx X (by simpa[Ee]using ht) rfl λz K U V W=>?_)
 simp only[Hr,hx]
 rw[ha]
 have D:mg≠.bad:=λq=>by rw[q]at z;exact Q.bad z
 refine(hc D).mono λr' h' hr=>?_
 cases G:mg with
 |bad=>exact absurd G D
 |ok a=>rw[G]at hr z V;obtain⟨v,g',rfl,hv,rfl⟩:=hr;rw[Y.set Z O];obtain⟨k1,k2⟩:=hk a G v g' hv;exact V _ _ _ _ k1 (by rw[Db];exact k2)
 |pan v=>rw[G]at hr z W;obtain⟨rfl,rfl⟩:=hr;exact W _ _ _ _ _ (λfr' hf=>S v G fr' hf z)
def Jr{t:Nat}(v:AV)(z:all[i]?=some ⟨some t,op,ty,pos,after,some (j,want)⟩)(A:(all[j]?).bind (·.dst)=some tj)(D:Ac l tj=.bool want)(ht:Nat.blt t n=true)(G:B5 P (Ac l) h op=some v)(hk:WP P f n d Q k all pre m plan ((i,Ac l,v)::pend) (Ac ((t,v)::l)) ds h u):WP P f n d Q k all pre m ((false,i)::plan) pend (Ac l) ds h u:=by
 intro O K U S;simp only[Lk,z];refine⟨by simpa[Ee]using ht,?_⟩;have e:aF P all (Ac l) h ⟨some t,op,ty,pos,after,some (j,want)⟩=some v:=by simp only[aF,Afn A D,beq_self_eq_true,G]
 rw[e];simp only[Db];exact hk O K U S
def Tf{t:Nat}(A:all[i]?=some ⟨some t,op,ty,pos,after,some (j,want)⟩)(D:(all[j]?).bind (·.dst)=some tj)(G:Ac l tj=.bool b)(z:(b==want)=false)(ht:Nat.blt t n=true)(hk:WP P f n d Q k all pre m plan ((i,Ac l,.und)::pend) (Ac ((t,.und)::l)) ds h u):WP P f n d Q k all pre m ((false,i)::plan) pend (Ac l) ds h u:=by
 intro O K U S;simp only[Lk,A];refine⟨by simpa[Ee]using ht,?_⟩;have e:aF P all (Ac l) h ⟨some t,op,ty,pos,after,some (j,want)⟩=some .und:=by simp only[aF,Afn D G,z]
 rw[e];simp only[Db];exact hk O K U S
def Asn {o:Oper}(z:all[i]?=some o)(A:Ee n o.dst=true)(hw:Cx all fr o=some false)(hk:WP P f n d Q k all pre m plan pend (Hq fr o.dst .und) ds h u):WP P f n d Q k all pre m ((true,i)::plan) pend fr ds h u:=by intro D K U G;simp only[Lk,z];refine⟨A,?_⟩;rw[hw];exact hk D K U G
def Awf{t:Nat}(A:all[i]?=some ⟨some t,op,ty,pos,after,some (j,want)⟩)(D:(all[j]?).bind (·.dst)=some tj)(G:Ac l tj=.bool b)(z:(b==want)=false)(ht:Nat.blt t n=true)(hk:WP P f n d Q k all pre m plan pend (Ac ((t,.und)::l)) ds h u):WP P f n d Q k all pre m ((true,i)::plan) pend (Ac l) ds h u:=Asn A (by simpa[Ee]using ht) (by rw[Afn D G,z]) (by rw[Db];exact hk)
def On{A B:R γ}(ht:b=true->WP P f n d Q k all pre (A.bind F) plan pend fr ds h u)(hf:b=false->WP P f n d Q k all pre (B.bind F) plan pend fr ds h u):WP P f n d Q k all pre ((if b then A else B).bind F) plan pend fr ds h u:=by
 intro z;cases D:b with
 |true=>simp only[D,if_true]at z ⊢;exact ht D z
 |false=>simp only[D,BD,if_false]at z ⊢;exact hf D z
end
variable{ys:List (Option AO)}
section
variable[GW P]{m:R (List α)}
def Ays(st:Nat)(e:α->List AV)(h:Aa)(o:Nat):Spec (List α):=⟨λm=>m≠.bad,λh=>h rfl,λm r h' _=>Az2 st e h o m r h'⟩
def Gq(N:Nat)(hf:P.funcs[f]?=some fn)(hb:fn.body=some c)(hn:fn.name≠"runtime.NumGoroutine")(hnt:fn.ntmps=n)(hl:Nat.ble args.length n=true)(hr:∀(h0:Aa) (ids:List Nat),Ids h0 ids (N+1)→WR P f n false (Ays st e h0 (ix ids 0)) m [.code c] (Ac (Aa5 0 args)) [] (hp h0 ids (List.replicate (N+1) none)) .ret):Vv P f args m st e:=by
 intro h o ho hb';refine Tw hf hb hn hnt (by simpa using hl) ?_;refine Aee N [o] fun os h1 h2 h3 h4=>?_;have hI:Ids h (o::os) (N+1):=⟨List.nodup_cons.2 ⟨fun hm=>h4 _ hm (List.mem_singleton.2 rfl),h2⟩,fun p hp=>by
  rcases List.mem_cons.1 hp with rfl|hp
  ·exact ho
  ·exact h3 p hp,by simp[h1]⟩
 have:=hr h (o::os) hI hb';rw[Rw hI.fresh]at this;refine R2 (fun t=>?_) this;rcases T0 args 0 t with h|⟨_,h⟩
 ·exact .inl h
 ·exact .inr h
section
variable{x:Option AO}
def A5u{a:List α}{g:Nat}(hf:P.funcs[f]?=some fn)(A:Ids h0 ids N)(G:(x::xs).length=N)(hr:Gc P (hp h0 ids (x::xs)) (Ac l) fn.results.toList=some [v])(O:Av v (ix ids 0) g a.length)(S:x=Af v g st (a.map e)):
  WU P f n false (Ays st e h0 (ix ids 0)) (.ok a) .ret (Ac l) [] (hp h0 ids (x::xs)) u:=λ_=>by
 have z:ids.length=xs.length+1:=by rw[A.len,<-G];rfl
 obtain⟨o,os,rfl⟩:∃o os,ids=o::os:=by
  cases ids with
  |nil=>simp at z
  |cons o os=>exact⟨o,os,rfl⟩
 have U:hp h0 (o::os) (x::List.replicate xs.length none)=upd h0 o x:=by simp only[hp];rw[Rw λp hp=>A.fresh p (BC _ hp)]
 have V:Hv (upd h0 o x) (hp h0 (o::os) (x::xs)):=by
  rw[<-U];refine A2l (by simpa using z) (by simpa using z) A.nodup A.fresh λj=>?_;cases j with
  |zero=>exact .inl rfl
  |succ j=>
   simp only[FJ];by_cases D:j<xs.length
   .right;simp[D]
   .left;rw[BA (by simpa using D),BA (by simpa using D)]
 refine Wa hf hr V (.same _) rfl ?_
 exact⟨v,g,rfl,O,by rw[S];rfl⟩
def Gg{a:List α}{g:Nat}(hf:P.funcs[f]?=some fn)(z:Ids h0 ids N)(A:(x::xs).length=N)(hr:Gc P (hp h0 ids (x::xs)) (Ac l) fn.results.toList=some [v])(D:Av v (ix ids 0) g a.length)(G:x=Af v g st (a.map e)): WR P f n false (Ays st e h0 (ix ids 0)) (.ok a) (.code .ret::k) (Ac l) [] (hp h0 ids (x::xs)) u:=λO=>Abo (A5u hf z A hr D G O)
def Gz{v:PV}{o:Nat}(hf:P.funcs[f]?=some fn)(z:Ids h0 ids N):WU P f n false (Ays st e h0 o) (.pan v) (.pan v.av false) fr [] (hp h0 ids xs) u:=λ_=>Aoj hf (z.sub xs) (.same _) ⟨rfl,rfl⟩
end
theorem Vv.cp(W:Vv P f args m st e)(hr:∀x,Cy st (e x)):CP P f args m (λa=>.sl st (a.map e)):=by
 refine⟨λh U=>?_⟩;have G:W3 P f:=by have:=W hE 0 rfl U;exact this.1
 refine⟨G,λB mu w O s Z=>?_⟩;obtain⟨o,V⟩:∃o,h o=none:=by obtain⟨N,hN⟩:=s.finh;exact⟨N,hN N (AF _)⟩
 have:=(W h o V U).drop (Q':=λr h'=>Yd (λa=>AV.sl st (a.map e)) h m r h'∨Az2 st e h o m r h') (λr h' S=>⟨h',HN _,.inr S⟩);refine((W h o V U).2 B mu w O s Z).mono ?_;rintro en w' ⟨r,h',mu',S,X,D,A⟩;cases Y:m with
 |bad=>exact absurd Y U
 |pan v=>rw[Y]at S;obtain⟨rfl,rfl⟩:=S;exact⟨_,h',mu',⟨rfl,rfl⟩,X,D,A⟩
 |ok a=>
  rw[Y]at S;obtain⟨v,g,rfl,hv,rfl⟩:=S;have z:Hv h (upd h o (Af v g st (a.map e))):=A5r V;have hfz:Fz (upd h o (Af v g st (a.map e))) h v (.sl st (a.map e)):=Ca hv (by simp[upd]) V hr;refine⟨.ret (.sl st (a.map e)),h,mu',⟨rfl,rfl⟩,X.sub z,D.trans (ED z),?_⟩;cases en with
  |returned c=>exact Ig X z hfz A
  |panicked _=>exact A.elim
  |outgrown=>exact A.elim
end
def Aet[GW P]{all r:List Oper}{A:TypeId}{pos:String}{t:Nat}{T:TypeId}{b:Nat}{L:List α}(ht:Nat.blt t n=true)(O:ti P T=some ⟨.sl et,a,b,z⟩)(G:ev (Ac l) x=.sl st (L.map e))(hk:∀c,(c=true->L=[])->WO P f n d Q k all m r (Ac ((t,.bool c)::l)) ds h u):
  WO P f n d Q k all m (⟨some t,.binOp .eql T x (.const (.slice none 0 0)) A,ty,pos,after,none⟩::r) (Ac l) ds h u:=
 R9 ht (λ_ _=>rfl) λK S=>by
  simp only[D3];refine⟨by rw[G];rfl,?_⟩;simp only[Aly,Mt,if_true,O,G];intro c U;refine S _ _ (hk c λD=>?_);subst D;cases L with
  |nil=>rfl
  |cons y L=>exact absurd (U (by simp)) (by simp)
def mE{K:Type}(eK:K->AV)(eV:V->AV)(m:List (K×V)):List (AV×AV):=m.map λp=>(eK p.1,eV p.2)
structure KeyE (T:TK){K:Type}[DecidableEq K](eK:K->AV):Prop where
 ok:∀k,Aic T (eK k)=true
 eq:∀a b,Aag T (eK a) (eK b)=some (decide (a=b))
def Atd {k:IntKind}:KeyE (.int k) (λn:Int=>AV.int k n):=⟨λn=>by simp[Aic],λa b=>by simp only[Aag,if_true];congr 1⟩
def Ie:KeyE .str (λs:Al=>AV.str s):=⟨λn=>rfl,λa b=>by simp only[Aag];by_cases h:a=b<;>simp[h]⟩
variable{eV:V→AV}{kt:TypeId}
section
variable{K:Type}[DecidableEq K]{T:TK}{eK:K→AV}
def Av5 (hk:KeyE T eK)(k:K):∀(m:List (K×V)) (i:Nat),∃r,S1 T (eK k) (mE eK eV m) i=some r/\
  ((r=none/\Dq m k=none/\∀w,mE eK eV m++[(eK k,eV w)]=mE eK eV (G4 m k w))\/∃j v,r=some (i+j,eV v)/\Dq m k=some v/\∀w,(mE eK eV m).set j (eK k,eV w)=mE eK eV (G4 m k w))
 |[],i=>⟨none,rfl,.inl ⟨rfl,rfl,λw=>rfl⟩⟩
 |(a,v)::m,i=>by
  have D:S1 T (eK k) (mE eK eV ((a,v)::m)) i=if k=a then some (some (i,eV v))else S1 T (eK k) (mE eK eV m) (i+1):=by simp only[mE,BM,S1,hk.eq];by_cases h:k=a<;>simp[h]
  rw[D];by_cases h:k=a
  .subst h;refine⟨some (i,eV v),by rw[if_pos rfl],.inr ⟨0,v,rfl,by simp[Dq],λw=>?_⟩⟩;simp[mE,G4]
  .rw[if_neg h];obtain⟨r,h1,h2⟩:=Av5 hk k m (i+1);have z:(a==k)=false:=by simpa using λq=>h q.symm
   refine⟨r,h1,?_⟩;rcases h2 with⟨rfl,A,G⟩|⟨j,w,rfl,A,O⟩
   .refine .inl ⟨rfl,?_,λw=>?_⟩
    .simp only[Dq,FP,z]at A ⊢;exact A
    .have:=G w;simp only[mE,BM,DS,G4,z,BD,if_false]at this ⊢;rw[this]
   .refine .inr ⟨j+1,w,by rw[CD,HR 1 j],?_,λx=>?_⟩
    .simp only[Dq,FP,z]at A ⊢;exact A
    .have:=O x;simp only[mE,BM,EF,G4,z,BD,if_false]at this ⊢;rw[this]
def T2[GW P]{b:Nat}{KT A:TI}{m:List (K×V)}{k:K}{zv:V}(G:Afp h v=some (mE eK eV m))(O:ti P t=some ⟨.map kt et,a,b,z⟩)(S:ti P kt=some KT)(hE:ti P et=some A)(hk:KeyE KT.k eK)(hz:Gm A.z 0 A.size A.k.agg=some (eV zv)):
  Sq P h t v (eK k) false=some (eV ((Dq m k).getD zv))/\Sq P h t v (eK k) true=some (.tup [eV ((Dq m k).getD zv),.bool (Dq m k).isSome]):=by
 obtain⟨r,h1,h2⟩:=Av5 (eV:=eV) hk k m 0
 simp only[Sq,O,S,hE,G,hk.ok,if_true,h1]
 rcases h2 with⟨rfl,D,_⟩|⟨j,w,rfl,D,_⟩
 .simp[hz,D]
 .simp[D]
def Bhz[GW P]{b o g:Nat}{KT:TI}{m:List (K×V)}{k:K}{w:V}(D:h o=some (.mp g (mE eK eV m)))(G:ti P t=some ⟨.map kt et,a,b,z⟩)(O:ti P kt=some KT)(hk:KeyE KT.k eK):
  Zg P h t (.map o g) (eK k) (eV w)=some (upd h o (some (.mp g (mE eK eV (G4 m k w))))):=by
 obtain⟨r,h1,h2⟩:=Av5 (eV:=eV) hk k m 0
 simp only[Zg,G,O,D,hk.ok,and_self,if_true,h1]
 rcases h2 with⟨rfl,_,A⟩|⟨j,w',rfl,_,A⟩
 .simp only[A]
 .simp only[AE,A]
end
def V0{K:Type}{eK:K->AV}{o g:Nat}{m:List (K×V)}(z:h o=some (.mp g (mE eK eV m))):Afp h (.map o g)=some (mE eK eV m):=by simp only[Afp,z,if_true]
def Ids.for'(A:Ids h0 ids N){o:Nat}{x:AO}(z:h0 o=some x):hp h0 ids xs o=some x:=by
 have:o∉ids:=λD=>by rw[A.fresh o D]at z;cases z
 rw[Aaa this];exact z
variable{K':Type}{V':Type}{ky:K'}
section
variable[GW P]{F:γ→R β}{all r:List Oper}{pos:String}
def A3x{K:AV->Aa->Prop}(A:Ids h0 ids N)(D:xs.length=N)(z:Nat.blt j N=true)(G:xs[j]?=some none)(hk:∀g,K (.map (ix ids j) g) (hp h0 ids (xs.set j (some (.mp g []))))):D3 P fr (hp h0 ids xs) (.makeMap t none) K:=by simp only[D3,true_and];refine Azt (ix ids j) (A.at D G) λg=>?_;rw[A.set D z];exact hk g
def Oa {t:Nat}{mt:TypeId}(A:Ids h0 ids N)(D:xs.length=N)(z:Nat.blt j N=true)(G:xs[j]?=some none)(ht:Nat.blt t n=true)
  (hk:∀g,WO P f n d Q k all m r (Ac ((t,.map (ix ids j) g)::l)) ds (hp h0 ids (xs.set j (some (.mp g [])))) u):WO P f n d Q k all m (⟨some t,.makeMap mt none,ty,pos,after,none⟩::r) (Ac l) ds (hp h0 ids xs) u:=
 R9 ht (λ_ _=>rfl) λK O=>A3x A D z G λg=>O _ _ (hk g)
def Ax5[DecidableEq K']{eK:K'->AV}{eV:V'->AV}{b g:Nat}{KT:TI}{M:List (K'×V')}{w:V'}{G O S:Operand}{K:AV->Aa->Prop}(U:Ids h0 ids N)(V:xs.length=N)(A:Nat.blt j N=true)(W:xs[j]?=some (some (.mp g (mE eK eV M))))(h1:ev fr G=.map (ix ids j) g)(h2:ev fr O=eK ky)(X:ev fr S=eV w)(Y:ti P t=some ⟨.map kt et,a,b,z⟩)(Z:ti P kt=some KT)(hk:KeyE KT.k eK)(D:K .und (hp h0 ids (xs.set j (some (.mp g (mE eK eV (G4 M ky w))))))):D3 P fr (hp h0 ids xs) (.mapUpdate t G O S) K:=by simp only[D3,h1,h2,X,Bhz (U.at V W) Y Z hk,U.set V A];exact D
def Jv[DecidableEq K']{eK:K'->AV}{eV:V'->AV}{b g:Nat}{KT:TI}{M:List (K'×V')}{w:V'}{O S U:Operand}(V:Ids h0 ids N)(W:xs.length=N)(A:Nat.blt j N=true)(X:xs[j]?=some (some (.mp g (mE eK eV M))))(h1:ev (Ac l) O=.map (ix ids j) g)(h2:ev (Ac l) S=eK ky)(Y:ev (Ac l) U=eV w)(Z:ti P t=some ⟨.map kt et,a,b,z⟩)(hK:ti P kt=some KT)(hk:KeyE KT.k eK)(D:WO P f n d Q k all m r (Ac l) ds (hp h0 ids (xs.set j (some (.mp g (mE eK eV (G4 M ky w)))))) u):WO P f n d Q k all m (⟨none,.mapUpdate t O S U,ty,pos,after,none⟩::r) (Ac l) ds (hp h0 ids xs) u:=Bam (λ_ _=>rfl) λK G=>Ax5 V W A X h1 h2 Y Z hK hk (G _ _ D)
end
def Bd2{K:Type}(eK:K->AV)(eV:V->AV)(h:Aa)(o:Nat)(m:R (List (K×V))):AR->Aa->Prop:=λr h'=>match m with
 |.ok a=>∃g,r=.ret (.map o g)/\h'=upd h o (some (.mp g (mE eK eV a)))
 |.pan v=>r=.panic v.av/\h'=h
 |.bad=>False
def A78{K:Type}(eK:K->AV)(eV:V->AV)(h:Aa)(o:Nat):Spec (List (K×V)):=⟨λm=>m≠.bad,λh=>h rfl,λm r h' _=>Bd2 eK eV h o m r h'⟩
def CPM{K:Type}(P:Program)[GW P](g:FuncId)(args:List AV)(m:R (List (K×V)))(eK:K->AV)(eV:V->AV):Prop:=∀h o,h o=none->m≠.bad->Bs P g args h (Bd2 eK eV h o m)
section
variable[GW P]{K:Type}{m:R (List (K×V))}{eK:K→AV}
def Vo(N:Nat)(hf:P.funcs[f]?=some fn)(hb:fn.body=some c)(hn:fn.name≠"runtime.NumGoroutine")(hnt:fn.ntmps=n)(hl:Nat.ble args.length n=true)(hr:∀(h0:Aa) (ids:List Nat),Ids h0 ids (N+1)→WR P f n false (A78 eK eV h0 (ix ids 0)) m [.code c] (Ac (Aa5 0 args)) [] (hp h0 ids (List.replicate (N+1) none)) .ret):CPM P f args m eK eV:=by
 intro h o ho hb';refine Tw hf hb hn hnt (by simpa using hl) ?_;refine Aee N [o] fun os h1 h2 h3 h4=>?_;have hI:Ids h (o::os) (N+1):=⟨List.nodup_cons.2 ⟨fun hm=>h4 _ hm (List.mem_singleton.2 rfl),h2⟩,fun p hp=>by
  rcases List.mem_cons.1 hp with rfl|hp
  ·exact ho
  ·exact h3 p hp,by simp[h1]⟩
 have:=hr h (o::os) hI hb';rw[Rw hI.fresh]at this;refine R2 (fun t=>?_) this;rcases T0 args 0 t with h|⟨_,h⟩
 ·exact .inl h
 ·exact .inr h
def Bc0{x:Option AO}(A:Ids h0 ids N)(G:(x::xs).length=N):Hv (upd h0 (ix ids 0) x) (hp h0 ids (x::xs)):=by
 have z:ids.length=xs.length+1:=by rw[A.len,<-G];rfl
 obtain⟨o,os,rfl⟩:∃o os,ids=o::os:=by
  cases ids with
  |nil=>simp at z
  |cons o os=>exact⟨o,os,rfl⟩
 have O:hp h0 (o::os) (x::List.replicate xs.length none)=upd h0 o x:=by simp only[hp];rw[Rw λp hp=>A.fresh p (BC _ hp)]
 show Hv (upd h0 o x) _;rw[<-O];refine A2l (by simpa using z) (by simpa using z) A.nodup A.fresh λj=>?_;cases j with
 |zero=>exact .inl rfl
 |succ j=>
  simp only[FJ];by_cases D:j<xs.length
  .right;simp[D]
  .left;rw[BA (by simpa using D),BA (by simpa using D)]
def Abk{g:Nat}{x:Option AO}{a:List (K×V)}(hf:P.funcs[f]?=some fn)(z:Ids h0 ids N)(A:(x::xs).length=N)(hr:Gc P (hp h0 ids (x::xs)) (Ac l) fn.results.toList=some [.map (ix ids 0) g])(D:x=some (.mp g (mE eK eV a))):WR P f n false (A78 eK eV h0 (ix ids 0)) (.ok a) (.code .ret::k) (Ac l) [] (hp h0 ids (x::xs)) u:=λ_=>by refine Abo (Wa hf hr (Bc0 z A) (.same _) rfl ?_);exact⟨g,rfl,by rw[D]⟩
def F4{o:Nat}{v:PV}(hf:P.funcs[f]?=some fn)(z:Ids h0 ids N):WU P f n false (A78 eK eV h0 o) (.pan v) (.pan v.av false) fr [] (hp h0 ids xs) u:=λ_=>Aoj hf (z.sub xs) (.same _) ⟨rfl,rfl⟩
end
def X7[GW P]{F:γ->R β}{all r:List Oper}{pos:String}{K:Type}{t:Nat}{g:FuncId}(A:List AV){mg:R (List (K×V))}{eK:K->AV}{rest:List (K×V)->R γ}(Y:Ids h0 ids N)(Z:xs.length=N)(O:Nat.blt j N=true)(hj:xs[j]?=some none)(ht:Nat.blt t n=true)(hx:ev (Ac l) x=.func (.func g) fst cap)(ha:fst++Ev (Ac l) as0++cap=A)(hc:mg≠.bad->Bs P g A (hp h0 ids xs) (Bd2 eK eV (hp h0 ids xs) (ix ids j) mg))(S:∀v,mg=.pan v->WU P f n d Q (.pan v) (.pan v.av false) (Ac l) ds (hp h0 ids xs) u)(hk:∀a,mg=.ok a->∀g',WO P f n d Q k all ((rest a).bind F) r (Ac ((t,.map (ix ids j) g')::l)) ds (hp h0 ids (xs.set j (some (.mp g' (mE eK eV a))))) u):
  WO P f n d Q k all ((mg.bind rest).bind F) (⟨some t,.call ⟨.value x,⟨as0⟩,ts⟩,ty,pos,after,none⟩::r) (Ac l) ds (hp h0 ids xs) u:=by
 refine Anx (R.bind_assoc _ _ _) (Ow (by simpa[Ee]using ht) rfl λz K U W X=>?_)
 simp only[Hr,hx]
 rw[ha]
 have D:mg≠.bad:=λq=>by rw[q]at z;exact Q.bad z
 refine(hc D).mono λr' h' hr=>?_
 cases G:mg with
 |bad=>exact absurd G D
 |ok a=>rw[G]at hr z W;obtain⟨g',rfl,rfl⟩:=hr;rw[Y.set Z O];exact W _ _ _ _ (by rw[Db];exact hk a G g')
 |pan v=>rw[G]at hr z X;obtain⟨rfl,rfl⟩:=hr;exact X _ _ _ _ _ (S v G z)
def Awl[GW P]{m:R α}{e:α→AV}(N:Nat)(hf:P.funcs[f]?=some fn)(hb:fn.body=some c)(hn:fn.name≠"runtime.NumGoroutine")(hnt:fn.ntmps=n)(hl:Nat.ble args.length n=true)(hr:∀(ids:List Nat),Ids h ids N→WR P f n false (Zy e h) m [.code c] (Ac (Aa5 0 args)) [] (hp h ids (List.replicate N none)) .ret):m≠.bad→Bs P f args h (Yd e h m):=by
 intro hb';refine Tw hf hb hn hnt (by simpa using hl) ?_;refine Aee N [] fun os h1 h2 h3 h4=>?_;have:=hr os ⟨h2,h3,h1⟩ hb';rw[Rw h3]at this;refine R2 (fun t=>?_) this;rcases T0 args 0 t with h|⟨_,h⟩
 ·exact .inl h
 ·exact .inr h
def Fz.funcL{fn:Fn}{f c z A:List AV}(hf:LF h h2 f z)(D:LF h h2 c A):Fz h h2 (.func fn f c) (.func fn z A):=.func fn f c z A hf.all.1 D.all.1 hf.all.2 D.all.2
def Fz.ptrL{o g c:Nat}{row z:List AV}(O:h o=some (.rows g st [row]))(A:h2 o=none)(D:z.length=st)(G:LF h h2 row z):Fz h h2 (.ptr o g 0 c) (.cp z c):=.ptr o g 0 c st [row] z O A (by simp) D (λj S=>by have:=G.all.2 j (by rw[G.all.1,D];exact S);simpa[cell]using this)
def Av.flat{o g:Nat}(h:Av v o g n):v.flat=true:=by rcases h with⟨rfl,_⟩|rfl<;>rfl
def Av.ok{o g:Nat}(h:Av v o g n):v.ok=true:=by rcases h with⟨rfl,_⟩|rfl<;>rfl
def Av.cells{o g:Nat}(h:Av v o g n):v.cells=[v]:=by rcases h with⟨rfl,_⟩|rfl<;>rfl
def De[GW P]{g rr c o g' O:Nat}{rs:List (List AV)}{row:List AV}(z:Av v o g' O)(S:Ids h0 ids N)(U:xs.length=N)(D:Nat.blt j N=true)(V:xs[j]?=some (some (.rows g st rs)))(hr:rs[rr]?=some row)(W:ti P t=some T)(A:Nat.beq 1 T.size=true)(X:Nat.ble (c+T.size) st=true)(G:row.length=st):
  Wv P (hp h0 ids xs) t (.ptr (ix ids j) g rr c) v=some (hp h0 ids (xs.set j (some (.rows g st (rs.set rr (Wb row c [v])))))):=by
 have:=Iz (P:=P) (v:=v) S U D V hr W z.ok (by rw[z.cells];exact AY A) X G (by rw[z.cells];simp[z.flat])
 rw[z.cells]at this
 exact this
def Rm:([]:List AV).all AV.flat=true:=rfl
def Bc {a:AV}{l:List AV}(h:a.flat=true)(z:l.all AV.flat=true):(a::l).all AV.flat=true:=by simp[h,z]
section
variable[GW P]{all r:List Oper}{pos:String}
def Aeu{g:FuncId}{A:List AV}(z:dst=none)(O:ev (Ac l) x=.func (.func g) fst cap)(S:fst++Ev (Ac l) as0++cap=A)(hk:WO P f n d Q k all m r (Ac l) (⟨g,A⟩::ds) h u)(D:d.ro=none:=by rfl)(G:AD.isStar ⟨g,A⟩=false:=by rfl):
  WO P f n d Q k all m (⟨dst,.defer ⟨.value x,⟨as0⟩,ts⟩,ty,pos,after,none⟩::r) (Ac l) ds h u:=by
 subst z
 refine Ow rfl rfl λW K U V X=>?_
 simp only[Hr,O]
 rw[S]
 exact⟨D,G,V _ _ _ _ hk⟩
def Aim{t:Nat}{as0 ts:Array _}(ht:Nat.blt t n=true)(hk:WO P f n true Q k all m r (Ac ((t,v)::l)) ds h (.pan v true)):WO P f n true Q k all m (⟨some t,.call ⟨.builtin .recover,as0,ts⟩,ty,pos,after,none⟩::r) (Ac l) ds h (.pan v false):=Ow (by simpa[Ee]using ht) rfl λA K U z D=>⟨rfl,z _ _ _ _ (by rw[Db];exact hk)⟩
def Ail {t:Nat}{as0 ts:Array _}(ht:Nat.blt t n=true)(hk:WO P f n true Q k all m r (Ac ((t,.nili)::l)) ds h .ret):WO P f n true Q k all m (⟨some t,.call ⟨.builtin .recover,as0,ts⟩,ty,pos,after,none⟩::r) (Ac l) ds h .ret:=Ow (by simpa[Ee]using ht) rfl λA K U z D=>⟨rfl,z _ _ _ _ (by rw[Db];exact hk)⟩
end
def A7h(e:γ->Aa)(z:AU):Spec γ:=⟨λm=>∃a,m=.ok a,λh=>(by obtain⟨a,h⟩:=h;cases h),λm r h' u=>∃a,m=.ok a/\r=.ret (.tup [])/\h'=e a/\u=z⟩
abbrev Ys(e:γ->Aa)(z:AU)(m:R γ):QT:=λr h' u=>∃a,m=.ok a/\r=.ret (.tup [])/\h'=e a/\u=z
section
variable[GW P]{m:R γ}{e:γ→Aa}{u':AU}
def Rj(hf:P.funcs[f]?=some fn)(hb:fn.body=some c)(hn:fn.name≠"runtime.NumGoroutine")(hnt:fn.ntmps=n)(hl:Nat.ble args.length n=true)(hr:WR P f n true (A7h e u') m [.code c] (Ac (Aa5 0 args)) [] h u):(∃a,m=.ok a)→I1 P f args u h (Ys e u' m):=by
 intro hm;refine Asb hf hb hn hnt (by simpa using hl) ?_;refine R2 (fun t=>?_) (hr hm);rcases T0 args 0 t with h|⟨_,h⟩
 ·exact .inl h
 ·exact .inr h
def Sv{a:γ}(hf:P.funcs[f]?=some fn)(hr:fn.results.toList=[])(z:h=e a)(A:u=u'):WR P f n true (A7h e u') (.ok a) [] (Ac l) [] h u:=λ_=>Arf (Avx hf (vs:=[]) (by rw[hr];rfl) ⟨a,rfl,rfl,z,A⟩)
end
def Ng(e:α->AV)(h:Aa)(hdl:PV->R α):Spec α:=⟨λm=>m.catch' hdl≠.bad,λh=>h rfl,λm r h' _=>Yd e h (m.catch' hdl) r h'⟩
variable{hdl:PV→R α}
section
variable[GW P]{e:α→AV}
theorem Abv{m:R α}(N:Nat)(hf:P.funcs[f]?=some fn)(hb:fn.body=some c)(hn:fn.name≠"runtime.NumGoroutine")(hnt:fn.ntmps=n)(hl:Nat.ble args.length n=true)(hr:∀(h0:Aa) (ids:List Nat),Ids h0 ids N→WR P f n false (Ng e h0 hdl) m [.code c] (Ac (Aa5 0 args)) [] (hp h0 ids (List.replicate N none)) .ret):CP P f args (m.catch' hdl) e:=by
 refine⟨fun h hb'=>?_⟩;refine Tw hf hb hn hnt (by simpa using hl) ?_;refine Aee N [] fun os h1 h2 h3 h4=>?_;have:=hr h os ⟨h2,h3,h1⟩ hb';rw[Rw h3]at this;refine R2 (fun t=>?_) this;rcases T0 args 0 t with h|⟨_,h⟩
 ·exact .inl h
 ·exact .inr h
def Ard{a:α}{vs A:List AV}{g:FuncId}(hf:P.funcs[f]?=some fn)(D:Ids h0 ids N)(G:I1 P g A .ret (hp h0 ids xs) (Ys (λ_:Unit=>hp h0 ids xs) .ret (.ok ())))(hr:Gc P (hp h0 ids xs) (Ac l) fn.results.toList=some vs)(hz:Fz (hp h0 ids xs) h0 (Hn vs) (e a))(z:AD.isStar ⟨g,A⟩=false:=by rfl): WR P f n false (Ng e h0 hdl) (.ok a) (.code .ret::k) (Ac l) [⟨g,A⟩] (hp h0 ids xs) .ret:=λ_=>Abo (Apo (G.mono λr h' u O=>by obtain⟨_,_,rfl,rfl,rfl⟩:=O;exact Wa hf hr (D.sub xs) hz rfl ⟨rfl,rfl⟩) z)
def A5e:∀(ids:List Nat) (xs:List (Option AO)) (c:Nat),ids.length=xs.length->(∀o∈ids,h0 o=none)->ids.Nodup->Hv (hp h0 (ids.take c) (xs.take c)) (hp h0 ids xs)
 |[],[],c,_,_,_=>by simp[hp];exact HN _
 |a::ids,x::xs,0,D,hf,G=>by
  simp only[FB,hp];intro o y A;have z:o∉a::ids:=λO=>by rw[hf o O]at A;cases A
  simp only[AN,not_or]at z;rw[Auc _ _ _ z.1,Aaa z.2];exact A
 |a::ids,x::xs,c+1,D,hf,G=>by simp only[EL,hp];exact Hv.upd (A5e ids xs c (by simpa using D) (λo S=>hf o (BC _ S)) (DY.1 G).2) a x
def Ids.take(z:Ids h0 ids N){c:Nat}(A:Nat.ble c N=true):Ids h0 (ids.take c) c:=
 ⟨z.nodup.sublist (List.take_sublist _ _),λo D=>z.fresh o (DC D),by
  have:c<=N:=by simpa using A
  rw[BS,z.len];omega⟩
def Gt{c:Nat}(z:Nat.blt j c=true):ix (ids.take c) j=ix ids j:=by
 have:j<c:=by simpa using z
 simp[ix,List.getD,BQ,this]
def Aey{Hc:R γ}{fin:γ->α}{v:PV}{A:List AV}{g:FuncId}{c:Nat}{cells:γ->List (Option AO)}{vs:γ->List AV}(hf:P.funcs[f]?=some fn)(O:Ids h0 ids N)(Y:xs.length=N)(Z:Nat.ble c N=true)(S:xs.take c=ys)(W:hdl v=Hc.bind λx=>.ok (fin x))(hd:(∃x,Hc=.ok x)->I1 P g A (.pan v.av false) (hp h0 (ids.take c) ys) (Ys (λx=>hp h0 (ids.take c) (cells x)) (.pan v.av true) Hc))(U:∀w,Hc≠.pan w)(hr:∀x,Gc P (hp h0 (ids.take c) (cells x)) fr fn.results.toList=some (vs x))(hz:∀x,Fz (hp h0 (ids.take c) (cells x)) h0 (Hn (vs x)) (e (fin x)))(V:AD.isStar ⟨g,A⟩=false:=by rfl):
  WU P f n false (Ng e h0 hdl) (.pan v) (.pan v.av false) fr [⟨g,A⟩] (hp h0 ids xs) .ret:=by
 intro hV
 have D:hdl v≠.bad:=hV
 cases G:Hc with
 |bad=>rw[W,G]at D;exact absurd rfl D
 |pan w=>exact absurd G (U w)
 |ok x=>
  have z:Hv (hp h0 (ids.take c) ys) (hp h0 ids xs):=by rw[<-S];exact A5e ids xs c (O.len.trans Y.symm) O.fresh O.nodup
  have key:Xl P f n false (.pan v.av false) fr [⟨g,A⟩] (hp h0 (ids.take c) ys) .ret ((Ng e h0 hdl).Q (.pan v)):=by refine Apo ((hd ⟨x,G⟩).mono λr h' u2 hx=>?_) V;obtain⟨y,X,rfl,rfl,rfl⟩:=hx;rw[G]at X;cases X;refine Wa hf (hr x) ((O.take Z).sub _) (hz x) rfl ?_;show Yd e h0 (hdl v) _ _;rw[W,G];exact⟨rfl,rfl⟩
  intro B mu w a cs todo mode p hm;exact(key B mu w a cs todo mode (p.ext (ED z) (p.sim.sub z)) (hm.ext (ED z))).ext (ED z)
end
def Oi(t:TypeId)(k:IntKind)(F:Int->R α)(els:PV->R α):PV->R α:=λv=>if v.t=t then(match v.x with|.int k' n=>if k'=k then F n else .bad|_=>.bad)else els v
def Kw(t:TypeId)(F:R α)(els:PV->R α):PV->R α:=λv=>if v.t=t then(match v.x with|.unit=>F|_=>.bad)else els v
def Tn(t:TypeId)(k1 k2:IntKind)(F:Int->Int->R α)(els:PV->R α):PV->R α:=λv=>if v.t=t then(match v.x with|.two q1 q2 a b=>if q1=k1/\q2=k2 then F a b else .bad|_=>.bad)else els v
variable{els:PV→R α}
section
variable[GW P]{e:α→AV}{v:PV}{a a':AU}
def Bfa{k:IntKind}{F:Int->R α}(O:hdl=Oi t k F els)(h1:∀A,v=⟨t,.int k A⟩->WU P f n d (Ng e h0 hdl) (.pan v) a fr ds h u)(h2:v.t≠t->WU P f n d (Ng e h0 hdl) (.pan v) a fr ds h u):
  WU P f n d (Ng e h0 hdl) (.pan v) a fr ds h u:=by
 intro D
 by_cases G:v.t=t
 .obtain⟨S,vx⟩:=v;simp only at G;subst G;have z:hdl ⟨S,vx⟩≠.bad:=D;rw[O]at z;cases vx with
  |int k' A=>
   by_cases hk:k'=k
   .subst hk;exact h1 A rfl D
   .simp[Oi,hk]at z
  |str s=>simp[Oi]at z
  |bool b=>simp[Oi]at z
  |unit=>simp[Oi]at z
  |two k1 k2 a b=>simp[Oi]at z
  |one k a=>simp[Oi]at z
 .exact h2 G D
def A7y{F:R α}(G:hdl=Kw t F els)(h1:v=⟨t,.unit⟩->WU P f n d (Ng e h0 hdl) (.pan v) a fr ds h u)(h2:v.t≠t->WU P f n d (Ng e h0 hdl) (.pan v) a fr ds h u):
  WU P f n d (Ng e h0 hdl) (.pan v) a fr ds h u:=by
 intro A
 by_cases D:v.t=t
 .obtain⟨O,vx⟩:=v;simp only at D;subst D;have z:hdl ⟨O,vx⟩≠.bad:=A;rw[G]at z;cases vx with
  |int k' S=>simp[Kw]at z
  |str s=>simp[Kw]at z
  |bool b=>simp[Kw]at z
  |unit=>exact h1 rfl A
  |two k1 k2 a b=>simp[Kw]at z
  |one k a=>simp[Kw]at z
 .exact h2 D A
def Blr{F:Int->Int->R α}(G:hdl=Tn t k1 k2 F els)(h1:∀a b,v=⟨t,.two k1 k2 a b⟩->WU P f n d (Ng e h0 hdl) (.pan v) a' fr ds h u)(h2:v.t≠t->WU P f n d (Ng e h0 hdl) (.pan v) a' fr ds h u):
  WU P f n d (Ng e h0 hdl) (.pan v) a' fr ds h u:=by
 intro A
 by_cases D:v.t=t
 .obtain⟨O,vx⟩:=v;simp only at D;subst D;have z:hdl ⟨O,vx⟩≠.bad:=A;rw[G]at z;cases vx with
  |int k' V=>simp[Tn]at z
  |str s=>simp[Tn]at z
  |bool b=>simp[Tn]at z
  |unit=>simp[Tn]at z
  |one k a=>simp[Tn]at z
  |two S U x y=>
   by_cases hk:S=k1/\U=k2
   .obtain⟨rfl,rfl⟩:=hk;exact h1 x y rfl A
   .simp[Tn,hk]at z
 .exact h2 D A
def Are (z:hdl v=.bad):WU P f n d (Ng e h0 hdl) (.pan v) a fr ds h u:=λA=>absurd z A
end
def Awk{k:IntKind}{F:Int->R α}{v:PV}(h:v.t≠t):Oi t k F els v=els v:=by simp[Oi,h]
def Apr{F:R α}{v:PV}(h:v.t≠t):Kw t F els v=els v:=by simp[Kw,h]
def Bab{F:Int->Int->R α}{v:PV}(h:v.t≠t):Tn t k1 k2 F els v=els v:=by simp[Tn,h]
def Awr{F:Int->Int->R α}{a b:Int}:Tn t k1 k2 F els ⟨t,.two k1 k2 a b⟩=F a b:=by simp[Tn]
def Akz{k:IntKind}{F:Int->R α}{n:Int}:Oi t k F els ⟨t,.int k n⟩=F n:=by simp[Oi]
def Yh{F:R α}:Kw t F els ⟨t,.unit⟩=F:=by simp[Kw]
def Axk:∀(row cs:List AV),row.length=cs.length->Aav row cs=cs
 |[],[],_=>rfl
 |a::row,c::cs,h=>by simp[Aav,Axk row cs (by simpa using h)]
def Hm[GW P]{g:Nat}{row:List AV}(U:Ids h0 ids N)(V:xs.length=N)(D:Nat.blt j N=true)(W:xs[j]?=some (some (.rows g st [row])))(X:ti P t=some T)(G:v.ok=true)(z:v.cells.length=T.size)(Y:Nat.beq T.size st=true)(A:row.length=st)(O:v.cells.all AV.flat=true):
  Wv P (hp h0 ids xs) t (.ptr (ix ids j) g 0 0) v=some (hp h0 ids (xs.set j (some (.rows g st [v.cells])))):=by
 have S:=AY Y
 have:=Iz (P:=P) (rr:=0) (c:=0) (v:=v) U V D W rfl X G z (by rw[AE,S];simp) A O
 rw[this]
 have e:Wb row 0 v.cells=v.cells:=by have:=Axk row v.cells (by rw[A,z,S]);cases row<;>simpa[Wb]using this
 rw[e]
 rfl
def Apw[GW P]{t:Nat}{r:List ResultVar}{vs:List AV}(e:fr t=v)(hr:Gc P h fr r=some vs):Gc P h fr (.tmp t::r)=some (v::vs):=by rw[<-e];exact Ht hr
def Lr[GW P]{r:List ResultVar}{vs:List AV}(e:fr a=w)(z:O6 P h t w=some v)(hr:Gc P h fr r=some vs):Gc P h fr (.cell a t::r)=some (v::vs):=Aw (by rw[e];exact z) hr
def U3[GW P]{o:Nat}{g r c:Nat}{rs:List (List AV)}{row:List AV}(z:Ids h0 ids n)(A:ix ids j=o)(D:xs.length=n)(G:xs[j]?=some (some (.rows g st rs)))(hr:rs[r]?=some row)(O:ti P t=some T)(S:Gm row c T.size T.k.agg=some v): O6 P (hp h0 ids xs) t (.ptr o g r c)=some v:=by rw[<-A];exact Ar z D G hr O S
def Bjj[GW P]{s:Nat}(A:ti P t=some ⟨.ifc,s,by',z⟩):Ft P .eql t .nili .nili=some (.bool true):=by simp only[Ft,X4,A,AQ]
def Ara[GW P]{s:Nat}(A:ti P t=some ⟨.ifc,s,by',z⟩):Ft P .neq t .nili .nili=some (.bool false):=by simp only[Ft,X4,A,AQ];rfl
end Go.Am
