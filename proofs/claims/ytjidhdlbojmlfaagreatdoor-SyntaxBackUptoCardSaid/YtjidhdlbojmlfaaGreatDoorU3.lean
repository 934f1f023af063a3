/- Written by shrink.py from texts of ours: comments struck, what is not reached left out, names short. -/
import Derived.Test.YtjidhdlbojmlfaaGreatDoorU2
import Derived.WalkKit
import Derived.ProofKit
import Derived.OpenShut
import Derived.JoinedCond
import Derived.WideKeyArgs
namespace Go.Am
open Go
set_option linter.unusedSimpArgs false
set_option linter.unusedVariables false
set_option linter.unusedSectionVars false
inductive Sc where
 | int (k:IntKind) (n:Int)
 | str (s:List UInt8)
 | bool (b:Bool)
 | unit
 | two (k1 k2:IntKind) (a b:Int)
 | one (k:IntKind) (a:Int)
 deriving DecidableEq
def Sc.av:Sc→AV
 | .int k n=>.int k n
 | .str s=>.str s
 | .bool b=>.bool b
 | .unit=>.agg []
 | .two k1 k2 a b=>.agg [.int k1 a,.int k2 b]
 | .one k a=>.agg [.int k a]
structure PV where
 t:TypeId
 x:Sc
 deriving DecidableEq
def PV.av (v:PV):AV:=.iface v.t v.x.av
inductive R (α:Type) where
 | ok (a:α)
 | pan (v:PV)
 | bad
 deriving DecidableEq
namespace R
def bind {α β:Type}:R α→(α→R β)→R β
 | ok a,f=>f a
 | pan v,_=>pan v
 | bad,_=>bad
@[simp] theorem ok_bind {α β:Type}(a:α)(f:α→R β):(ok a).bind f=f a:=rfl
@[simp] theorem pan_bind {α β:Type}(v:PV)(f:α→R β):(pan v:R α).bind f=pan v:=rfl
@[simp] theorem Avi {α β:Type}(f:α→R β):(bad:R α).bind f=bad:=rfl
theorem bind_assoc {α β γ:Type}(m:R α)(f:α→R β)(g:β→R γ):(m.bind f).bind g=m.bind fun a=>(f a).bind g:=by cases m <;> rfl
@[simp] theorem bind_ok {α:Type}(m:R α):m.bind ok=m:=by cases m <;> rfl
def catch' {α:Type}:R α→(PV→R α)→R α
 | ok a,_=>ok a
 | pan v,f=>f v
 | bad,_=>bad
@[simp] theorem Av6 {α:Type}(a:α)(f:PV→R α):(ok a).catch' f=ok a:=rfl
@[simp] theorem Au6 {α:Type}(v:PV)(f:PV→R α):(pan v).catch' f=f v:=rfl
@[simp] theorem Au8 {α:Type}(f:PV→R α):(bad:R α).catch' f=bad:=rfl
end R
section
variable {σ ε:Type}
def Kl (body:σ→R (σ ⊕ ε)):Nat→σ→R ε
 | 0,_=>.bad
 | n+1,s=>(body s).bind fun
  | .inl s'=>Kl body n s'
  | .inr e=>.ok e
theorem Agl (body:σ→R (σ ⊕ ε)) : ∀ (n:Nat) (s:σ),Kl body n s≠.bad→Kl body (n+1) s=Kl body n s
 | 0,s,h=>absurd rfl h
 | n+1,s,h=>by
  rw [Kl]
  rw [Kl] at h ⊢
  cases hb:body s with
  | bad=>rfl
  | pan v=>rfl
  | ok x=>
   rw [hb] at h
   cases x with
   | inr e=>rfl
   | inl s'=>exact Agl body n s' h
theorem Aku (body:σ→R (σ ⊕ ε)){n m:Nat}{s:σ}(hnm:n≤m)(h:Kl body n s≠.bad):Kl body m s=Kl body n s:=by
  induction m with
  | zero => have : n = 0 := by omega
            subst this; rfl
  | succ m ih=>
    by_cases hq:n=m+1
    · subst hq; rfl
    · have e:=ih (by omega)
      rw [Agl body m s (by rw [e]; exact h),e]
open Classical in
noncomputable def loop (body : σ → R (σ ⊕ ε)) (s : σ) : R ε := if h : ∃ n, Kl body n s ≠ .bad then Kl body (Classical.choose h) s else .bad
theorem Vp {body:σ→R (σ ⊕ ε)}{n:Nat}{s:σ}(h:Kl body n s≠.bad):loop body s=Kl body n s:=by
 have hex : ∃ n,Kl body n s≠.bad:=⟨n,h⟩
 unfold loop
 rw [dif_pos hex]
 have hc:=Classical.choose_spec hex
 rcases Nat.le_total n (Classical.choose hex) with hle | hle
 ·exact Aku body hle h
 ·exact(Aku body hle hc).symm
theorem Aak {body:σ→R (σ ⊕ ε)}{s:σ}(h:loop body s≠.bad) : ∃ n,loop body s=Kl body n s:=by
 by_cases hex : ∃ n,Kl body n s≠.bad
 ·obtain⟨n,hn⟩:=hex; exact⟨n,Vp hn⟩
 ·exfalso; apply h; unfold loop; rw [dif_neg hex]
theorem Ve (body:σ→R (σ ⊕ ε))(s:σ):loop body s=(body s).bind fun
  | .inl s'=>loop body s'
  | .inr e=>.ok e:=by
 cases hb:body s with
 | pan v=>
  have:Kl body 1 s=.pan v:=by rw [Kl,hb]; rfl
  rw [Vp (n:=1) (by rw [this]; simp),this]; rfl
 | bad=>
  by_cases h:loop body s=.bad
  ·rw [h]; rfl
  ·obtain⟨n,hn⟩:=Aak h
   cases n with
   | zero=>rw [hn] at h; exact absurd rfl h
   | succ n=>rw [hn,Kl,hb]; rfl
 | ok x=>
  cases x with
  | inr e=>
   have:Kl body 1 s=.ok e:=by rw [Kl,hb]; rfl
   rw [Vp (n:=1) (by rw [this]; simp),this]; rfl
  | inl s'=>
   simp only [R.ok_bind]
   by_cases h':loop body s'=.bad
   ·rw [h']
    by_cases h:loop body s=.bad
    ·exact h
    ·exfalso
     obtain⟨n,hn⟩:=Aak h
     cases n with
     | zero=>rw [hn] at h; exact absurd rfl h
     | succ n=>
      have e:Kl body (n+1) s=Kl body n s':=by rw [Kl,hb]; rfl
      rw [hn,e] at h
      rw [Vp h] at h'
      exact h h'
   ·obtain⟨n,hn⟩:=Aak h'
    have e:Kl body (n+1) s=Kl body n s':=by rw [Kl,hb]; rfl
    rw [hn] at h'
    rw [hn,← e,Vp (n:=n+1) (by rw [e]; exact h')]
end
section
variable {α σ ε:Type}
def each (body:Nat→α→σ→R (σ ⊕ ε)):Nat→List α→σ→R (σ ⊕ ε)
 | _,[],s=>.ok (.inl s)
 | k,a::l,s=>(body k a s).bind fun
  | .inl s'=>each body (k+1) l s'
  | .inr e=>.ok (.inr e)
@[simp] theorem Avj (body:Nat→α→σ→R (σ ⊕ ε))(k:Nat)(s:σ):each body k [] s=.ok (.inl s):=rfl
theorem S4 (body:Nat→α→σ→R (σ ⊕ ε))(k:Nat)(a:α)(l:List α)(s:σ):each body k (a::l) s=(body k a s).bind fun
  | .inl s'=>each body (k+1) l s'
  | .inr e=>.ok (.inr e):=rfl
end
def E3 {α:Type}(l:List α)(n:Int):R α:=if 0≤n then(match l[n.toNat]? with | some a=>.ok a | none=>.bad) else .bad
def A6:List (Nat×AV)→Nat→AV
 | [],_=>.any
 | p::l,t=>bif Nat.beq t p.1 then p.2 else A6 l t
theorem J8 (l:List (Nat×AV))(t:Nat)(v:AV):Im (A6 l) (some t) v=A6 ((t,v)::l):=by
 funext s
 simp only [Im,upd,A6]
 by_cases h:s=t
 ·subst h; simp
 ·have:Nat.beq s t=false:=by
   cases hq:Nat.beq s t with
   | false=>rfl
   | true=>exact absurd (Nat.eq_of_beq_eq_true hq) h
  rw [if_neg h,this]; rfl
def hp (h0:Ae):List Nat→List (Option AO)→Ae
 | o::os,x::xs=>upd (hp h0 os xs) o x
 | _,_=>h0
structure Ids (h0:Ae)(ids:List Nat)(n:Nat):Prop where
 nodup:ids.Nodup
 fresh : ∀ o ∈ ids,h0 o=none
 len:ids.length=n
abbrev ix (ids:List Nat)(j:Nat):Nat:=ids.getD j 0
section
variable {h0:Ae} {n:Nat}
theorem Tu : ∀ {ids:List Nat} {xs:List (Option AO)} {o:Nat},o ∉ ids→hp h0 ids xs o=h0 o
 | [],_,o,_=>by cases ‹List (Option AO)› <;> rfl
 | a::ids,[],o,_=>rfl
 | a::ids,x::xs,o,h=>by
  simp only [List.mem_cons,not_or] at h
  simp only [hp]
  rw [Aib _ _ _ h.1]
  exact Tu h.2
theorem Ap6 : ∀ {ids:List Nat} {xs:List (Option AO)} {j:Nat} {x:Option AO},ids.Nodup→ids.length=xs.length→xs[j]? = some x→hp h0 ids xs (ix ids j)=x
 | [],[],j,x,_,_,h=>by simp at h
 | a::ids,y::xs,0,x,_,_,h=>by
  have:y=x:=by simpa using h
  subst this
  simp [hp,ix,Apg]
 | a::ids,y::xs,j+1,x,hn,hl,h=>by
  have hn':=List.nodup_cons.1 hn
  have hl':ids.length=xs.length:=by simpa using hl
  have h':xs[j]? = some x:=by simpa using h
  have hj:j<ids.length:=by
   rw [hl']
   rcases Nat.lt_or_ge j xs.length with hh | hh
   ·exact hh
   ·rw [List.getElem?_eq_none hh] at h'; cases h'
  have hm:ix ids j ∈ ids:=by
   simp only [ix,List.getD,List.getElem?_eq_getElem hj,Option.getD_some]
   exact List.getElem_mem hj
  have e:ix (a::ids) (j+1)=ix ids j:=by simp [ix]
  rw [e]
  simp only [hp]
  have hne:ix ids j≠a:=fun q=>hn'.1 (by rw [← q]; exact hm)
  rw [Aib _ _ _ hne]
  exact Ap6 hn'.2 hl' h'
theorem Amn : ∀ {ids:List Nat} {xs:List (Option AO)} {j:Nat} {x:Option AO},ids.Nodup→ids.length=xs.length→j<xs.length→upd (hp h0 ids xs) (ix ids j) x=hp h0 ids (xs.set j x)
 | [],[],j,x,_,_,h=>by simp at h
 | a::ids,y::xs,0,x,_,_,h=>by
  simp only [hp,ix,List.getD_cons_zero,List.set_cons_zero,Aq7]
 | a::ids,y::xs,j+1,x,hn,hl,h=>by
  have hn':=List.nodup_cons.1 hn
  have hl':ids.length=xs.length:=by simpa using hl
  have h':j<xs.length:=by simpa using h
  have hm:ix ids j ∈ ids:=by
   simp only [ix,List.getD,List.getElem?_eq_getElem (hl' ▸ h':j<ids.length),Option.getD_some]
   exact List.getElem_mem _
  have e:ix (a::ids) (j+1)=ix ids j:=by simp [ix]
  rw [e]
  simp only [hp,List.set_cons_succ]
  have hne:a≠ix ids j:=fun q=>hn'.1 (by rw [q]; exact hm)
  rw [An0 _ _ _ hne,Amn hn'.2 hl' h']
theorem Ids.at {ids:List Nat}(hI:Ids h0 ids n){xs:List (Option AO)}{j:Nat}{x:Option AO}(hl:xs.length=n)(hx:xs[j]? = some x):hp h0 ids xs (ix ids j)=x:=Ap6 hI.nodup (hI.len.trans hl.symm) hx
theorem Ids.set {ids:List Nat}(hI:Ids h0 ids n){xs:List (Option AO)}{j:Nat}{x:Option AO}(hl:xs.length=n)(hj:Nat.blt j n=true):upd (hp h0 ids xs) (ix ids j) x=hp h0 ids (xs.set j x):=
 Amn hI.nodup (hI.len.trans hl.symm) (by rw [hl]; simpa using hj)
theorem Ids.sub {ids:List Nat}(hI:Ids h0 ids n)(xs:List (Option AO)):Nm h0 (hp h0 ids xs):=by
 intro o x hx
 have:o ∉ ids:=fun hm=>by rw [hI.fresh o hm] at hx; cases hx
 rw [Tu this]; exact hx
theorem Ids.out {ids:List Nat}(hI:Ids h0 ids n){j:Nat}(hj:Nat.blt j n=true):h0 (ix ids j)=none:=by
 have hj':j<ids.length:=by rw [hI.len]; simpa using hj
 refine hI.fresh _ ?_
 simp only [ix,List.getD,List.getElem?_eq_getElem hj',Option.getD_some]
 exact List.getElem_mem _
theorem Ut : ∀ {ids:List Nat} {k:Nat},(∀ o ∈ ids,h0 o=none)→hp h0 ids (List.replicate k none)=h0
 | [],k,_=>by cases k <;> rfl
 | a::ids,0,_=>rfl
 | a::ids,k+1,h=>by
  simp only [List.replicate_succ,hp]
  rw [Ut (fun o ho=>h o (List.mem_cons_of_mem _ ho))]
  funext o
  unfold upd
  split
  ·rename_i hq; subst hq; exact(h _ (List.mem_cons_self ..)).symm
  ·rfl
end
theorem Yz {h0:Ae} : ∀ {a b:List Nat} {xs ys:List (Option AO)},a.length=xs.length→hp h0 (a++b) (xs++ys)=hp (hp h0 b ys) a xs
 | [],b,[],ys,_=>by cases b <;> cases ys <;> rfl
 | o::a,b,x::xs,ys,h=>by
  simp only [List.cons_append,hp]
  rw [Yz (by simpa using h)]
section
variable {P:Program} [GW P] {f:FuncId} {n:Nat} {d:FK} {fr:Nat→AV} {ds:List AD} {h:Ae} {u:AU} {Q:QT} {k:List Item}
theorem Acw {todo:List Item}(c:Nat)(avoid:List Nat)(hr : ∀ os:List Nat,os.length=c→os.Nodup→(∀ o ∈ os,h o=none)→(∀ o ∈ os,o ∉ avoid)→Iq P f n d todo fr ds h u Q):Iq P f n d todo fr ds h u Q:=by
 intro B mu w a cs p
 obtain⟨N,hN⟩:=p.sim.finh
 have key : ∃ M,N≤M ∧ ∀ o ∈ avoid,o<M:=by
  clear hr
  induction avoid with
  | nil=>exact⟨N,Nat.le_refl _,fun o ho=>by cases ho⟩
  | cons a l ih=>
   obtain⟨M,h1,h2⟩:=ih
   exact⟨max M (a+1),by omega,fun o ho=>by
    rcases List.mem_cons.1 ho with rfl | ho
    ·omega
    ·have:=h2 o ho; omega⟩
 obtain⟨M,h1,h2⟩:=key
 exact hr ((List.range c).map (M + ·)) (by simp) (by
  refine List.Pairwise.map _ (fun a b hab=>?_) List.nodup_range
  simpa using hab) (fun o ho=>by
   obtain⟨i,_,rfl⟩:=List.mem_map.1 ho
   exact hN _ (by omega)) (fun o ho hm=>by
   obtain⟨i,_,rfl⟩:=List.mem_map.1 ho
   have:=h2 _ hm
   omega) B mu w a cs p
end
abbrev Aw:=List UInt8
def rI (k:IntKind)(n:Int):List AV:=[.int k n]
def rS (s:Aw):List AV:=[.str s]
theorem Mb {n:Nat}{r:List AV}(h1:r.length=n)(h2:r.all AV.flat=true):E4 n r:=⟨h1,fun v hv=>List.all_eq_true.1 h2 v hv⟩
theorem Ai9 {k:IntKind}(n:Int):E4 1 (rI k n):=Mb rfl rfl
theorem G3 (s:Aw):E4 1 (rS s):=Mb rfl rfl
theorem Dj {j n:Nat}(h:j<n)(hn:n≤Em):AV.int .i64 (IntKind.i64.wrap ((j:Int)+1))=.int .i64 ((j+1:Nat):Int):=by rw [Amt (by omega)]
end Go.Am
namespace Go.Am
open Go
set_option linter.unusedSimpArgs false
set_option linter.unusedVariables false
set_option linter.unusedSectionVars false
structure Spec (β:Type) where
 V:R β→Prop
 bad:¬ V .bad
 Q:R β→QT
section
variable {β:Type}
def WR (P:Program)[GW P](f:FuncId)(n:Nat)(d:FK)(Q:Spec β)(m:R β)(todo:List Item)(fr:Nat→AV)(ds:List AD)(h:Ae)(u:AU):Prop:=Q.V m→Iq P f n d todo fr ds h u (Q.Q m)
def WU (P:Program)[GW P](f:FuncId)(n:Nat)(d:FK)(Q:Spec β)(m:R β)(a:AU)(fr:Nat→AV)(ds:List AD)(h:Ae)(u:AU):Prop:=Q.V m→Te P f n d a fr ds h u (Q.Q m)
def WO (P:Program)[GW P](f:FuncId)(n:Nat)(d:FK)(Q:Spec β)(k:List Item)(all:List Oper)(m:R β)(ops:List Oper)(fr:Nat→AV)(ds:List AD)(h:Ae)(u:AU):Prop:=
 Q.V m → ∀ i,(∀ j,all[i+j]? = ops[j]?)→Iq P f n d (.inRegion ⟨all⟩ (List.range' i ops.length)::k) fr ds h u (Q.Q m)
end
section
variable {P:Program} [GW P] {f:FuncId} {n:Nat} {d:FK} {β:Type} {Q:Spec β} {m:R β} {fr:Nat→AV} {ds:List AD} {h:Ae} {u:AU} {k:List Item} {l:List (Nat×AV)}
theorem Az (hr:WR P f n d Q m k fr ds h u):WR P f n d Q m (.code .skip::k) fr ds h u:=fun hb=>Api (hr hb)
theorem Y {x y:Code}(hr:WR P f n d Q m (.code x::.code y::k) fr ds h u):WR P f n d Q m (.code (.seq x y)::k) fr ds h u:=fun hb=>Aqp (hr hb)
theorem A8 {id:Nat}{c:Code}(hr:WR P f n d Q m (.code c::.inBlock id::k) fr ds h u):WR P f n d Q m (.code (.block id c)::k) fr ds h u:=fun hb=>Anw (hr hb)
theorem Bj {id:Nat}(hr:WR P f n d Q m k fr ds h u):WR P f n d Q m (.inBlock id::k) fr ds h u:=fun hb=>Aj2 (hr hb)
theorem Ct {id:Nat}{k':List Item}(he:exitTo id k=some k')(hr:WR P f n d Q m k' fr ds h u):WR P f n d Q m (.code (.exit id)::k) fr ds h u:=fun hb=>Ape he (hr hb)
theorem Ky {c:Operand}{x y:Code}(b:Bool)(hc:ev fr c=.bool b)(hr:WR P f n d Q m (.code (match b with | true=>x | false=>y)::k) fr ds h u):WR P f n d Q m (.code (.cond c x y)::k) fr ds h u:=fun hb=>Su hc (by cases b <;> exact hr hb)
theorem Atx {c:Operand}{x y:Code}{p:Prop}[Decidable p]{A B:R β}(hc:ev fr c=.bool (decide p))(ht:p→WR P f n d Q A (.code x::k) fr ds h u)(hf:¬ p→WR P f n d Q B (.code y::k) fr ds h u):WR P f n d Q (if p then A else B) (.code (.cond c x y)::k) fr ds h u:=by
 intro hb
 refine Su hc ?_
 by_cases hp:p
 ·simp only [hp,decide_true,if_true] at hb ⊢; exact ht hp hb
 ·simp only [hp,decide_false,Bool.false_eq_true,if_false] at hb ⊢; exact hf hp hb
theorem Aqj {c:Operand}{x y:Code}{b:Bool}{A B:R β}(hc:ev fr c=.bool b)(ht:b=true→WR P f n d Q A (.code x::k) fr ds h u)(hf:b=false→WR P f n d Q B (.code y::k) fr ds h u):WR P f n d Q (if b then A else B) (.code (.cond c x y)::k) fr ds h u:=by
 intro hb
 refine Su hc ?_
 cases hq:b with
 | true=>simp only [hq,if_true] at hb ⊢; exact ht hq hb
 | false=>simp only [hq,Bool.false_eq_true,if_false] at hb ⊢; exact hf hq hb
theorem Xa {m':R β}{todo:List Item}(e:m=m')(hr:WR P f n d Q m' todo fr ds h u):WR P f n d Q m todo fr ds h u:=e ▸ hr
theorem Arl {σ ε:Type}{c:Code}(body:σ→R (σ ⊕ ε))(rest:ε→R β)(St:σ→(Nat→AV)→Ae→Prop)(s0:σ)(hs:St s0 fr h)
  (round : ∀ W:σ→R ε,(∀ s fr h,St s fr h→WR P f n d Q ((W s).bind rest) (.inLoop c::k) fr ds h u) → ∀ s fr h,St s fr h →
   WR P f n d Q ((body s).bind fun x=>match x with | .inl s'=>(W s').bind rest | .inr e=>rest e) (.code c::.inLoop c::k) fr ds h u) :
  WR P f n d Q ((loop body s0).bind rest) (.code (.loop c)::k) fr ds h u:=by
 have key : ∀ n' s fr h,St s fr h→WR P f n d Q ((Kl body n' s).bind rest) (.inLoop c::k) fr ds h u:=by
  intro n'
  induction n' with
  | zero=>intro s fr h _ hb; exact absurd hb Q.bad
  | succ n' ih=>
   intro s fr h hs hb
   refine Ab6 ?_
   have e:(Kl body (n'+1) s).bind rest=(body s).bind fun x=>match x with | .inl s'=>(Kl body n' s').bind rest | .inr e=>rest e:=by
    rw [Kl,R.bind_assoc]
    congr 1
    funext x
    cases x <;> rfl
   have:=round (Kl body n') ih s fr h hs
   rw [← e] at this
   exact this hb
 intro hb
 by_cases hl:loop body s0=.bad
 ·rw [hl] at hb; exact absurd hb Q.bad
 ·obtain⟨n',hn⟩:=Aak hl
  rw [hn] at hb ⊢
  exact Aiv (key n' s0 fr h hs hb)
theorem Aru {α σ ε:Type}{c:Code}(L:List α)(body:Nat→α→σ→R (σ ⊕ ε))(rest:σ ⊕ ε→R β)(St:Nat→σ→(Nat→AV)→Ae→Prop)(s0:σ)(hs:St 0 s0 fr h)
  (round : ∀ (j:Nat) (a:α),L[j]? = some a → ∀ W:σ→R (σ ⊕ ε),(∀ s fr h,St (j+1) s fr h→WR P f n d Q ((W s).bind rest) (.inLoop c::k) fr ds h u) → ∀ s fr h,St j s fr h →
   WR P f n d Q ((body j a s).bind fun x=>match x with | .inl s'=>(W s').bind rest | .inr e=>rest (.inr e)) (.code c::.inLoop c::k) fr ds h u)
  (fin : ∀ s fr h,St L.length s fr h→WR P f n d Q (rest (.inl s)) (.code c::.inLoop c::k) fr ds h u) :
  WR P f n d Q ((each body 0 L s0).bind rest) (.code (.loop c)::k) fr ds h u:=by
 have key : ∀ (l:List α) (j:Nat),j≤L.length→L.drop j=l → ∀ s fr h,St j s fr h→WR P f n d Q ((each body j l s).bind rest) (.inLoop c::k) fr ds h u:=by
  intro l
  induction l with
  | nil=>
   intro j hj hl s fr h hs hb
   have:j=L.length:=by
    have:=List.drop_eq_nil_iff.1 hl; omega
   subst this
   exact Ab6 (fin s fr h hs hb)
  | cons a l ih=>
   intro j hj hl s fr h hs hb
   have hlt:j<L.length:=by
    rcases Nat.lt_or_ge j L.length with hh | hh
    ·exact hh
    ·rw [List.drop_eq_nil_of_le hh] at hl; cases hl
   have ha:L[j]? = some a:=by
    have:=List.getElem?_drop (xs:=L) (i:=j) (j:=0)
    rw [hl] at this; simpa using this.symm
   have hl':L.drop (j+1)=l:=by
    have:=congrArg List.tail hl
    simpa using this
   refine Ab6 ?_
   have e:(each body j (a::l) s).bind rest=(body j a s).bind fun x=>match x with | .inl s'=>(each body (j+1) l s').bind rest | .inr e=>rest (.inr e):=by
    rw [S4,R.bind_assoc]
    congr 1
    funext x
    cases x <;> rfl
   have:=round j a ha (fun s'=>each body (j+1) l s') (ih (j+1) hlt hl') s fr h hs
   rw [← e] at this
   exact this hb
 intro hb
 exact Aiv (key L 0 (Nat.zero_le _) rfl s0 fr h hs hb)
theorem O {id:Nat}{ops:List Oper}(hx:WO P f n d Q k ops m ops fr ds h u):WR P f n d Q m (.code (.region id ⟨ops⟩ false)::k) fr ds h u:=fun hb=>by
 refine Rc (fun _ _ _=>stepR_region) ?_
 have:=hx hb 0 (fun j=>by simp)
 rwa [← List.range_eq_range'] at this
section
variable {all r:List Oper} {ty:TypeId} {pos:String} {after:Array Edge}
theorem Aa (hr:WR P f n d Q m k fr ds h u):WO P f n d Q k all m [] fr ds h u:=fun hb i hi B mu w a cs p=>.head stepR_region_end (hr hb B mu w a cs p)
theorem Q5 {o:Oper}(hd:I4 n o.dst=true)(hw:Gt all fr o=some true)
  (hx:Q.V m → ∀ (K:AV→List AD→Ae→AU→Prop) (U:AV→KT),(∀ v ds' h' u',WO P f n d Q k all m r (Im fr o.dst v) ds' h' u'→K v ds' h' u')→(∀ v fr ds h u,Te P f n d (.pan v false) fr ds h u (Q.Q m)→U v fr ds h u)→Lb P d U fr ds h u o.op K) :
  WO P f n d Q k all m (o::r) fr ds h u:=by
 intro hb i hi
 have ho:(⟨all⟩:Array Oper)[i]? = some o:=by simpa using hi 0
 have hi' : ∀ j,all[i+1+j]? = r[j]? := fun j=>by have:=hi (j+1); rw [show i+(j+1)=i+1+j by omega] at this; simpa using this
 simp only [List.length_cons,List.range'_succ]
 exact Abq ho hd hw (hx hb _ _ (fun v ds' h' u' hk=>hk hb (i+1) hi') (fun _ _ _ _ _ hu=>hu))
theorem Ak9 {o:Oper}(hd:I4 n o.dst=true)(hw:Gt all fr o=some false)(hk:WO P f n d Q k all m r (Im fr o.dst .und) ds h u):WO P f n d Q k all m (o::r) fr ds h u:=by
 intro hb i hi
 have ho:(⟨all⟩:Array Oper)[i]? = some o:=by simpa using hi 0
 have hi' : ∀ j,all[i+1+j]? = r[j]? := fun j=>by have:=hi (j+1); rw [show i+(j+1)=i+1+j by omega] at this; simpa using this
 simp only [List.length_cons,List.range'_succ]
 exact Aam ho hd hw (hk hb (i+1) hi')
theorem Afx {t:List AD}{op:Op}{v:AV}{U:AV→KT}{K:AV→List AD→Ae→AU→Prop}(hv:E7 P fr h op=some v)(hK:K v ds h u):Lb P d U fr ds h u op K:=by
 have e:Lb P d U fr ds h u op K=Jc P fr h op (fun v h'=>K v ds h' u):=by
  unfold Lb
  split
  ·simp [E7] at hv
  ·simp [E7] at hv
  ·simp [E7] at hv
  ·simp [E7] at hv
  ·rfl
 rw [e]
 exact Agg hv hK
theorem Vv {j tj:Nat}{want b:Bool}{op:Op}{dst:Option Tmp}(hj:(all[j]?).bind (·.dst)=some tj)(hg:fr tj=.bool b):Gt all fr ⟨dst,op,ty,pos,after,some (j,want)⟩=some (b==want):=by
 unfold Gt
 simp only [hj,hg]
theorem Cq {j tj:Nat}{want:Bool}{op:Op}{dst:Option Tmp}(hj:(all[j]?).bind (·.dst)=some tj)(hg:fr tj=.bool want):Gt all fr ⟨dst,op,ty,pos,after,some (j,want)⟩=some true:=by
 rw [Vv hj hg]; simp
theorem Z {t:Nat}{op:Op}(v:AV)(ht:Nat.blt t n=true)(hv:E7 P (A6 l) h op=some v)(hk:WO P f n d Q k all m r (A6 ((t,v)::l)) ds h u) :
  WO P f n d Q k all m (⟨some t,op,ty,pos,after,none⟩::r) (A6 l) ds h u:=
 Q5 (by simpa [I4] using ht) rfl fun hb K U hK hU=>Afx (t:=ds) hv (hK _ _ _ _ (by rw [J8]; exact hk))
theorem Bz {t j tj:Nat}{want:Bool}{op:Op}(v:AV)(hj:(all[j]?).bind (·.dst)=some tj)(hg:A6 l tj=.bool want)(ht:Nat.blt t n=true)(hv:E7 P (A6 l) h op=some v)(hk:WO P f n d Q k all m r (A6 ((t,v)::l)) ds h u) :
  WO P f n d Q k all m (⟨some t,op,ty,pos,after,some (j,want)⟩::r) (A6 l) ds h u:=
 Q5 (by simpa [I4] using ht) (by rw [Vv hj hg]; simp) fun hb K U hK hU=>Afx (t:=ds) hv (hK _ _ _ _ (by rw [J8]; exact hk))
theorem At5 {α:Type}{L:List α}{i:Int}{rest:α→R β}{ops:List Oper}(hk : ∀ a,0≤i→L[i.toNat]? = some a→WO P f n d Q k all (rest a) ops fr ds h u):WO P f n d Q k all ((E3 L i).bind rest) ops fr ds h u:=by
 intro hb
 unfold E3 at hb ⊢
 by_cases h0:0≤i
 ·rw [if_pos h0] at hb ⊢
  cases hq:L[i.toNat]? with
  | none=>rw [hq] at hb; exact absurd hb Q.bad
  | some a=>rw [hq] at hb; exact hk a h0 hq hb
 ·rw [if_neg h0] at hb; exact absurd hb Q.bad
theorem Ar9 {p:Prop}[Decidable p]{rest:R β}{ops:List Oper}(hk:p→WO P f n d Q k all rest ops fr ds h u):WO P f n d Q k all (if p then rest else .bad) ops fr ds h u:=by
 intro hb
 by_cases hp:p
 ·rw [if_pos hp] at hb ⊢; exact hk hp hb
 ·rw [if_neg hp] at hb; exact absurd hb Q.bad
theorem Alh {m':R β}{ops:List Oper}(e:m=m')(hr:WO P f n d Q k all m' ops fr ds h u):WO P f n d Q k all m ops fr ds h u:=e ▸ hr
theorem Ari {b:Bool}{A B:R β}{ops:List Oper}(ht:b=true→WO P f n d Q k all A ops fr ds h u)(hf:b=false→WO P f n d Q k all B ops fr ds h u):WO P f n d Q k all (if b then A else B) ops fr ds h u:=by
 intro hb
 cases hq:b with
 | true=>simp only [hq,if_true] at hb ⊢; exact ht hq hb
 | false=>simp only [hq,Bool.false_eq_true,if_false] at hb ⊢; exact hf hq hb
theorem Asr {p:Prop}[Decidable p]{A B:R β}{ops:List Oper}(ht:p→WO P f n d Q k all A ops fr ds h u)(hf:¬ p→WO P f n d Q k all B ops fr ds h u):WO P f n d Q k all (if p then A else B) ops fr ds h u:=by
 intro hb
 by_cases hp:p
 ·rw [if_pos hp] at hb ⊢; exact ht hp hb
 ·rw [if_neg hp] at hb ⊢; exact hf hp hb
theorem Aml {l l':List (Nat×AV)}(hx : ∀ p ∈ l',A6 l p.1=p.2)(t:Nat):A6 l' t=.any∨A6 l' t=A6 l t:=by
 induction l' with
 | nil=>exact .inl rfl
 | cons p l' ih=>
  have hp:=hx p (List.mem_cons_self ..)
  simp only [A6]
  cases hq:Nat.beq t p.1 with
  | true=>
   have:=Nat.eq_of_beq_eq_true hq
   subst this
   exact .inr hp.symm
  | false=>exact ih fun q hq=>hx q (List.mem_cons_of_mem _ hq)
theorem Ti {todo:List Item}{fr':Nat→AV}{Q':QT}(hx : ∀ t,fr' t=.any∨fr' t=fr t)(hr:Iq P f n d todo fr' ds h u Q'):Iq P f n d todo fr ds h u Q':=by
 intro B mu w a cs p
 refine hr B mu w a cs ⟨p.size,fun t=>?_,p.ds,p.sim,p.cs,p.rnd,p.fb⟩
 rcases hx t with e | e
 ·rw [e]; exact .any _
 ·rw [e]; exact p.fr t
theorem Aud {ops:List Oper}(l':List (Nat×AV))(hx : ∀ p ∈ l',A6 l p.1=p.2)(hr:WO P f n d Q k all m ops (A6 l') ds h u):WO P f n d Q k all m ops (A6 l) ds h u:=fun hb i hi=>Ti (Aml hx) (hr hb i hi)
theorem Auh {todo:List Item}(l':List (Nat×AV))(hx : ∀ p ∈ l',A6 l p.1=p.2)(hr:WR P f n d Q m todo (A6 l') ds h u):WR P f n d Q m todo (A6 l) ds h u:=fun hb=>Ti (Aml hx) (hr hb)
inductive FrIs (l:List (Nat×AV)):List (Nat×AV)→Prop
 | nil:FrIs l []
 | cons {t:Nat} {v:AV} {r:List (Nat×AV)} (hx:A6 l t=v) (hr:FrIs l r):FrIs l ((t,v)::r)
theorem FrIs.get {l l':List (Nat×AV)}(h:FrIs l l') : ∀ p ∈ l',A6 l p.1=p.2:=by
 induction h with
 | nil=>intro p hp; cases hp
 | cons hx hr ih=>
  intro p hp
  rcases List.mem_cons.1 hp with rfl | hp
  ·exact hx
  ·exact ih p hp
theorem Dt {todo:List Item}(l':List (Nat×AV))(hx:FrIs l l')(hr:WR P f n d Q m todo (A6 l') ds h u):WR P f n d Q m todo (A6 l) ds h u:=Auh l' hx.get hr
theorem Ck {ops:List Oper}(l':List (Nat×AV))(hx:FrIs l l')(hr:WO P f n d Q k all m ops (A6 l') ds h u):WO P f n d Q k all m ops (A6 l) ds h u:=Aud l' hx.get hr
inductive FrFz (h h2:Ae)(l:List (Nat×AV)):List (Nat×AV)→Prop
 | nil:FrFz h h2 l []
 | cons {t:Nat} {v:AV} {r:List (Nat×AV)} (hx:Fz h h2 (A6 l t) v) (hr:FrFz h h2 l r):FrFz h h2 l ((t,v)::r)
theorem FrFz.get {h h2:Ae}{l l':List (Nat×AV)}(hf:FrFz h h2 l l')(t:Nat):Fz h h2 (A6 l t) (A6 l' t):=by
 induction hf with
 | nil=>exact .any _
 | @cons s v r hx hr ih=>
  simp only [A6]
  cases hq:Nat.beq t s with
  | true=>
   have:=Nat.eq_of_beq_eq_true hq
   subst this
   exact hx
  | false=>exact ih
inductive Drops:List (Option AO)→List (Option AO)→Prop
 | nil:Drops [] []
 | keep {x:Option AO} {xs ys:List (Option AO)} (h:Drops xs ys):Drops (x::xs) (x::ys)
 | drop {x:Option AO} {xs ys:List (Option AO)} (h:Drops xs ys):Drops (x::xs) (none::ys)
theorem Drops.sub {h0:Ae} : ∀ {ids:List Nat} {xs ys:List (Option AO)},Drops xs ys→ids.length=xs.length→Nm (hp h0 ids ys) (hp h0 ids xs)
 | [],_,_,.nil,_=>Nm.refl _
 | a::ids,_,_,.keep hd,hl=>Nm.upd (Drops.sub hd (by simpa using hl)) a _
 | a::ids,_,_,@Drops.drop x xs ys hd,hl=>fun o z hz=>by
  simp only [hp,upd] at hz ⊢
  split
  ·rename_i hq; rw [if_pos hq] at hz; cases hz
  ·rename_i hq; rw [if_neg hq] at hz; exact Drops.sub hd (by simpa using hl) o z hz
theorem Eh {todo:List Item}{fr:Nat→AV}{h0:Ae}{ids:List Nat}{N:Nat}{xs:List (Option AO)}(ys:List (Option AO))(hI:Ids h0 ids N)(hl:xs.length=N)(hx:Drops xs ys)(hr:WR P f n d Q m todo fr ds (hp h0 ids ys) u) :
  WR P f n d Q m todo fr ds (hp h0 ids xs) u:=fun hb=>Aq3 (hx.sub (hI.len.trans hl.symm)) (hr hb)
end
end
end Go.Am
namespace Go.Am
open Go
set_option linter.unusedSimpArgs false
set_option linter.unusedVariables false
set_option linter.unusedSectionVars false
section
variable {P:Program} [GW P] {fr:Nat→AV} {h:Ae} {v:AV}
theorem Ad {x:Operand}:E7 P fr h (.move x)=some (ev fr x):=rfl
theorem Aj {x:Operand}:E7 P fr h (.assign x)=some (ev fr x):=rfl
theorem D4 {c a b:Operand}{t:Bool}(hc:ev fr c=.bool t)(hv:(if t then ev fr a else ev fr b)=v):E7 P fr h (.pick c a b)=some v:=by simp only [E7,hc,hv]
theorem Ma {t:TypeId}{ps:List (Nat×Operand)}(hv:Yb P t (Sl fr ps)=some v):E7 P fr h (.build t ⟨ps⟩)=some v:=hv
theorem Au {t:TypeId}{x:Operand}(hv:Pj P h t (ev fr x)=some v):E7 P fr h (.load t x)=some v:=hv
theorem Bk {x:Operand}(hv:Z4 (ev fr x)=some v):E7 P fr h (.nilCheck x)=some v:=hv
theorem Ba {o:BinOp}{t ty:TypeId}{x y:Operand}(hg:Mj P o t x y (ev fr x) (ev fr y)=true)(hn:Z1 y=false)(hv:Pd P o t (ev fr x) (ev fr y)=some v):E7 P fr h (.binOp o t x y ty)=some v:=by
 simp only [E7,hg,hn,true_and,if_true]; exact hv
theorem O3 {o:UnOp}{t:TypeId}{x:Operand}(hv:aUn o (ev fr x)=some v):E7 P fr h (.unOp o t x)=some v:=hv
theorem R0 {fn:Fn}{a c:List Operand}:E7 P fr h (.makeFunc fn ⟨a⟩ ⟨c⟩)=some (.func fn (Jf fr a) (Jf fr c)):=rfl
theorem Gz {t:TypeId}{x:Operand}{lo hi mx:Option Operand}(hv:P0 P h t (ev fr x) (lo.map (ev fr)) (hi.map (ev fr)) (mx.map (ev fr))=some v):E7 P fr h (.slice t x lo hi mx)=some v:=hv
theorem Ca {s:TypeId}{x:Operand}{i:Nat}(hv:N5 P s (ev fr x) i=some v):E7 P fr h (.fieldAddr s x i)=some v:=hv
theorem Bs {t:TypeId}{x i:Operand}(hv:Ku P h t (ev fr x) (ev fr i)=some v):E7 P fr h (.indexAddr t x i)=some v:=hv
theorem Ae3 {t:TypeId}{x i:Operand}(hv:V8 P t (ev fr x) (ev fr i)=some v):E7 P fr h (.index t x i)=some v:=hv
theorem Alj {x:Operand}{a t:TypeId}{ok:Bool}(hv:R4 P (ev fr x) t ok=some v):E7 P fr h (.typeAssert x a t ok)=some v:=hv
theorem Iw {x:Operand}{i:Nat}(hv:Yg (ev fr x) i=some v):E7 P fr h (.extract x i)=some v:=hv
theorem Ox {t:TypeId}{x i:Operand}{ok:Bool}(hv:R2 P h t (ev fr x) (ev fr i) ok=some v):E7 P fr h (.lookup t x i ok)=some v:=hv
theorem Ay {t:TypeId}{x:Operand}(hv:Yf P h t (ev fr x)=some v):E7 P fr h (.call ⟨.builtin .len,⟨[x]⟩,⟨[t]⟩⟩)=some v:=hv
theorem Cr {t:TypeId}{T:TI}{row:List AV}{c:Nat}(hT:ti P t=some T)(hv:Lj row c T.size T.k.agg=some v):Pj P h t (.cp row c)=some v:=by simp only [Pj,hT,hv]
section
variable {h0:Ae} {ids:List Nat} {xs:List (Option AO)} {n j:Nat}
theorem Bh {t:TypeId}{T:TI}{g st r c:Nat}{rs:List (List AV)}{row:List AV}(hI:Ids h0 ids n)(hl:xs.length=n)(hj:xs[j]? = some (some (.rows g st rs)))(hr:rs[r]? = some row)(hT:ti P t=some T)(hv:Lj row c T.size T.k.agg=some v) :
  Pj P (hp h0 ids xs) t (.ptr (ix ids j) g r c)=some v:=by
 have hlt:r<rs.length:=by
  rcases Nat.lt_or_ge r rs.length with hh | hh
  ·exact hh
  ·rw [List.getElem?_eq_none hh] at hr; cases hr
 have e:rs.getD r []=row:=Fy hr
 simp only [Pj,hT,hI.at hl hj,hlt,e,and_self,if_true,hv]
end
section
variable {s ft:TypeId} {fs:List (Nat×TypeId)} {a b i off:Nat} {z:List AV} {F:TI}
theorem B9 {o g r c:Nat}(hT:ti P s=some ⟨.st fs,a,b,z⟩)(hf:fs[i]? = some (off,ft))(hF:ti P ft=some F)(h0:Nat.beq F.size 0=false):N5 P s (.ptr o g r c) i=some (.ptr o g r (c+off)):=by
 have:F.size≠0:=fun q=>by rw [q] at h0; cases h0
 simp only [N5,hT,hf,hF,if_neg this]
theorem Aab {row:List AV}{c:Nat}(hT:ti P s=some ⟨.st fs,a,b,z⟩)(hf:fs[i]? = some (off,ft))(hF:ti P ft=some F)(h0:Nat.beq F.size 0=false):N5 P s (.cp row c) i=some (.cp row (c+off)):=by
 have:F.size≠0:=fun q=>by rw [q] at h0; cases h0
 simp only [N5,hT,hf,hF,if_neg this]
end
section
variable {α:Type} {e:α→List AV} {L:List α} {st:Nat} {t et:TypeId} {a b:Nat} {z:List AV} {E:TI} {k:IntKind} {x:α}
theorem Apb {j:Nat}(hx:L[j]? = some x):(L.map e).getD j []=e x:=by simp [List.getD,hx]
theorem A3 {j:Nat}(hx:L[j]? = some x):j<L.length:=by
 rcases Nat.lt_or_ge j L.length with hh | hh
 ·exact hh
 ·rw [List.getElem?_eq_none hh] at hx; cases hx
theorem D3 {i:Int}(hT:ti P t=some ⟨.sl et,a,b,z⟩)(hE:ti P et=some E)(hs:st=E.size)(h0:0≤i)(hx:L[i.toNat]? = some x):Ku P h t (.sl st (L.map e)) (.int k i)=some (.cp (e x) 0):=by
 have hlt:=A3 hx
 have h1:i<((L.map e).length:Int):=by rw [List.length_map]; omega
 simp only [Ku,hT,hE]
 rw [if_pos ⟨hs,h0,h1⟩,Apb hx]
theorem Cv {i:Nat}(hT:ti P t=some ⟨.sl et,a,b,z⟩)(hE:ti P et=some E)(hs:st=E.size)(hx:L[i]? = some x):Ku P h t (.sl st (L.map e)) (.int k (i:Int))=some (.cp (e x) 0):=
 D3 hT hE hs (by omega) (by simpa using hx)
theorem A7 (hT:ti P t=some ⟨.sl et,a,b,z⟩):Yf P h t (.sl st (L.map e))=some (.int .i64 (L.length:Int)):=by simp only [Yf,hT,List.length_map]
end
theorem Mi {t:TypeId}{a b:Nat}{z:List AV}{s:List UInt8}(hT:ti P t=some ⟨.str,a,b,z⟩):Yf P h t (.str s)=some (.int .i64 (s.length:Int)):=by simp only [Yf,hT]
theorem Abo {t:TypeId}{a b:Nat}{z:List AV}{s:List UInt8}{k:IntKind}{i:Int}{c:UInt8}(hT:ti P t=some ⟨.str,a,b,z⟩)(h0:0≤i)(hx:s[i.toNat]? = some c):V8 P t (.str s) (.int k i)=some (.int .u8 (c.toNat:Int)):=by
 have hlt:=A3 hx
 have e:s.getD i.toNat 0=c:=Fy hx
 simp only [V8,hT]
 rw [if_pos ⟨h0,by omega⟩,e]
theorem Aqy {t:TypeId}{a b:Nat}{z:List AV}{s:List UInt8}{k:IntKind}{i:Nat}{c:UInt8}(hT:ti P t=some ⟨.str,a,b,z⟩)(hx:s[i]? = some c):V8 P t (.str s) (.int k (i:Int))=some (.int .u8 (c.toNat:Int)):=
 Abo hT (by omega) (by simpa using hx)
theorem Ap3 {t:TypeId}{T:TI}(hT:ti P t=some T)(hk:T.k≠.ifc):R4 P (.iface t v) t false=some v:=by simp only [R4,hT,if_neg hk]; rfl
theorem As9 {t:TypeId}{T:TI}(hT:ti P t=some T)(hk:T.k≠.ifc):R4 P (.iface t v) t true=some (.tup [v,.bool true]):=by simp only [R4,hT,if_neg hk]; rfl
theorem Ry {t:TypeId}{fs:List (Nat×TypeId)}{a b:Nat}{z cs:List AV}{ps:List (Nat×AV)}{pl:List (Nat×Nat)}(hT:ti P t=some ⟨.st fs,a,b,z⟩)(hp:Jj P fs=some pl)(hv:Xl (fun i=>pl[i]?) z ps=some cs):Yb P t ps=some (.agg cs):=by
 simp only [Yb,hT,hp,hv,Option.map_some]
end
def Xj:List AV→List AV→List AV
 | row,[]=>row
 | [],_=>[]
 | _::row,c::cs=>c::Xj row cs
def X7:List AV→Nat→List AV→List AV
 | row,0,cs=>Xj row cs
 | [],_+1,_=>[]
 | a::row,c+1,cs=>a::X7 row c cs
theorem Ah5 : ∀ (row cs:List AV),cs.length≤row.length→Xj row cs=cs++row.drop cs.length
 | row,[],_=>by cases row <;> simp [Xj]
 | [],c::cs,h=>by simp at h
 | a::row,c::cs,h=>by simp [Xj,Ah5 row cs (by simpa using h)]
theorem Akt : ∀ (row:List AV) (c:Nat) (cs:List AV),c+cs.length≤row.length→X7 row c cs=Mc row c cs
 | row,0,cs,h=>by
  have:=Ah5 row cs (by simpa using h)
  cases row <;> simp [X7,Mc,this]
 | [],c+1,cs,h=>by simp at h
 | a::row,c+1,cs,h=>by
  have:=Akt row c cs (by simp only [List.length_cons] at h; omega)
  simp only [X7,this,Mc,List.take_succ_cons,List.cons_append]
  rw [show c+1+cs.length=(c+cs.length)+1 by omega,List.drop_succ_cons]
section
variable {P:Program} [GW P] {f:FuncId} {n:Nat} {d:FK} {β:Type} {Q:Spec β} {m:R β} {ds:List AD} {u:AU} {k:List Item} {l:List (Nat×AV)}
variable {all r:List Oper} {ty:TypeId} {pos:String} {after:Array Edge}
variable {h0:Ae} {ids:List Nat} {xs:List (Option AO)} {N:Nat}
theorem Ae7 {t:Nat}{op:Op}{h:Ae}(ht:Nat.blt t n=true)(ho : ∀ (K:AV→List AD→Ae→AU→Prop) (U:AV→KT),Lb P d U (A6 l) ds h u op K=Jc P (A6 l) h op (fun v h'=>K v ds h' u))
  (hx : ∀ K:AV→Ae→Prop,(∀ v h',WO P f n d Q k all m r (A6 ((t,v)::l)) ds h' u→K v h')→Jc P (A6 l) h op K) :
  WO P f n d Q k all m (⟨some t,op,ty,pos,after,none⟩::r) (A6 l) ds h u:=by
 refine Q5 (by simpa [I4] using ht) rfl fun hb K U hK hU=>?_
 rw [ho]
 exact hx _ fun v h' hw=>hK _ _ _ _ (by rw [J8]; exact hw)
theorem Atd {op:Op}{h:Ae}(ho : ∀ (K:AV→List AD→Ae→AU→Prop) (U:AV→KT),Lb P d U (A6 l) ds h u op K=Jc P (A6 l) h op (fun v h'=>K v ds h' u))
  (hx : ∀ K:AV→Ae→Prop,(∀ v h',WO P f n d Q k all m r (A6 l) ds h' u→K v h')→Jc P (A6 l) h op K) :
  WO P f n d Q k all m (⟨none,op,ty,pos,after,none⟩::r) (A6 l) ds h u:=by
 refine Q5 rfl rfl fun hb K U hK hU=>?_
 rw [ho]
 exact hx _ fun v h' hw=>hK _ _ _ _ hw
theorem D8 {t:TypeId}{a x:Operand}{h h':Ae}{fr:Nat→AV}{K:AV→Ae→Prop}(hs:Sh P h t (ev fr a) (ev fr x)=some h')(hK:K .und h'):Jc P fr h (.store t a x) K:=by simp only [Jc]; exact⟨_,.cell (.same _),by rw [hs]; exact hK⟩
theorem Ar {t:TypeId}{a x:Operand}{h h':Ae}(hs:Sh P h t (ev (A6 l) a) (ev (A6 l) x)=some h')(hk:WO P f n d Q k all m r (A6 l) ds h' u) :
  WO P f n d Q k all m (⟨none,.store t a x,ty,pos,after,none⟩::r) (A6 l) ds h u:=
 Atd (fun _ _=>rfl) fun K hK=>D8 hs (hK _ _ hk)
theorem A0 {t:TypeId}{T:TI}{g st rr c j:Nat}{rs:List (List AV)}{row:List AV}{v:AV}(hI:Ids h0 ids N)(hl:xs.length=N)(hjn:Nat.blt j N=true)(hj:xs[j]? = some (some (.rows g st rs)))(hr:rs[rr]? = some row)(hT:ti P t=some T)
  (hok:v.ok=true) (hlen:v.cells.length=T.size) (hc:Nat.ble (c+T.size) st=true) (hrl:row.length=st) (hfl:v.cells.all AV.flat=true) :
  Sh P (hp h0 ids xs) t (.ptr (ix ids j) g rr c) v=some (hp h0 ids (xs.set j (some (.rows g st (rs.set rr (X7 row c v.cells)))))):=by
 have hlt:rr<rs.length:=A3 hr
 have e:rs.getD rr []=row:=Fy hr
 have hc':c+T.size≤st:=by simpa using hc
 rw [Akt _ _ _ (by rw [hlen,hrl]; exact hc')]
 simp only [Sh,hT,hI.at hl hj,hlt,hok,hlen,hc',hfl,and_self,if_true,e,hI.set hl hjn]
theorem Bf {t:Nat}{e:TypeId}{T:TI}{j:Nat}(hI:Ids h0 ids N)(hl:xs.length=N)(hjn:Nat.blt j N=true)(hj:xs[j]? = some none)(ht:Nat.blt t n=true)(hT:ti P e=some T)(hfl:T.z.all AV.flat=true)
  (hk : ∀ g,WO P f n d Q k all m r (A6 ((t,.ptr (ix ids j) g 0 0)::l)) ds (hp h0 ids (xs.set j (some (.rows g T.z.length [T.z])))) u) :
  WO P f n d Q k all m (⟨some t,.alloc e,ty,pos,after,none⟩::r) (A6 l) ds (hp h0 ids xs) u:=
 Ae7 ht (fun _ _=>rfl) fun K hK=>by
  simp only [Jc,hT]
  refine⟨hfl,Y6 (ix ids j) (hI.at hl hj) fun g=>?_⟩
  rw [hI.set hl hjn]
  exact hK _ _ (hk g)
theorem Cx {t:Nat}{e:TypeId}{x:Operand}{v:AV}{j:Nat}(hI:Ids h0 ids N)(hl:xs.length=N)(hjn:Nat.blt j N=true)(hj:xs[j]? = some none)(ht:Nat.blt t n=true)(hx:ev (A6 l) x=v)(hok:v.ok=true)(hfl:v.cells.all AV.flat=true)
  (hk : ∀ g,WO P f n d Q k all m r (A6 ((t,.ptr (ix ids j) g 0 0)::l)) ds (hp h0 ids (xs.set j (some (.rows g v.cells.length [v.cells])))) u) :
  WO P f n d Q k all m (⟨some t,.box e x,ty,pos,after,none⟩::r) (A6 l) ds (hp h0 ids xs) u:=
 Ae7 ht (fun _ _=>rfl) fun K hK=>by
  simp only [Jc,hx]
  refine⟨hok,hfl,Y6 (ix ids j) (hI.at hl hj) fun g=>?_⟩
  rw [hI.set hl hjn]
  exact hK _ _ (hk g)
def A2 (v:AV)(o g n:Nat):Prop:=(v=.emp∧n=0)∨v=.ref o g 0 n
def Ah (v:AV)(g st:Nat)(rows:List (List AV)):Option AO:=match v with
 | .emp=>none
 | _=>some (.rows g st rows)
theorem A2.nil {o g:Nat}:A2 .emp o g 0:=.inl ⟨rfl,rfl⟩
section
variable {α:Type} {e:α→List AV} {L:List α} {v:AV} {g st j:Nat}
theorem A2.isRef {o n:Nat}(hv:A2 v o g n)(hn:0<n):v=.ref o g 0 n:=by
 rcases hv with⟨_,h⟩ | h
 ·omega
 ·exact h
theorem A2.len {t et:TypeId}{a b o n:Nat}{z:List AV}{h:Ae}(hv:A2 v o g n)(hT:ti P t=some ⟨.sl et,a,b,z⟩):Yf P h t v=some (.int .i64 (n:Int)):=by
 rcases hv with⟨rfl,rfl⟩ | rfl <;> simp only [Yf,hT]
 rfl
theorem Ak8 {t et:TypeId}{a b:Nat}{z:List AV}{E:TI}{ki:IntKind}{i:Int}{x:α}(hI:Ids h0 ids N)(hl:xs.length=N)(hv:A2 v (ix ids j) g L.length)(hj:xs[j]? = some (Ah v g st (L.map e)))
  (hT:ti P t=some ⟨.sl et,a,b,z⟩) (hE:ti P et=some E) (hs:st=E.size) (hi:0≤i) (hx:L[i.toNat]? = some x):Ku P (hp h0 ids xs) t v (.int ki i)=some (.ptr (ix ids j) g i.toNat 0):=by
 have hlt:=A3 hx
 have:=hv.isRef (by omega)
 subst this
 have h1:i<(L.length:Int):=by omega
 have ha:=hI.at hl hj
 simp only [Ah] at ha
 simp only [Ku,hT,hE,ha]
 rw [if_pos ⟨trivial,hs,hi,h1⟩,Nat.zero_add]
theorem Amw {t:TypeId}{T:TI}{i c o:Nat}{x y:α}{w:AV}(hI:Ids h0 ids N)(hl:xs.length=N)(hjn:Nat.blt j N=true)(hv:A2 v o g L.length)(hj:xs[j]? = some (Ah v g st (L.map e)))(hx:L[i]? = some x)
  (hT:ti P t=some T) (hok:w.ok=true) (hlen:w.cells.length=T.size) (hc:Nat.ble (c+T.size) st=true) (hrl:(e x).length=st) (hfl:w.cells.all AV.flat=true) (hy:X7 (e x) c w.cells=e y) :
  Sh P (hp h0 ids xs) t (.ptr (ix ids j) g i c) w=some (hp h0 ids (xs.set j (Ah v g st ((L.set i y).map e)))):=by
 have hlt:=A3 hx
 have:=hv.isRef (by omega)
 subst this
 simp only [Ah] at hj ⊢
 rw [A0 hI hl hjn hj (by simp [hx]:(L.map e)[i]? = some (e x)) hT hok hlen hc hrl hfl,hy,List.map_set]
theorem A2.set {o i:Nat}{y:α}(hv:A2 v o g L.length):A2 v o g (L.set i y).length:=by rw [List.length_set]; exact hv
theorem Fx {h h2:Ae}{o:Nat}(hv:A2 v o g L.length)(ho:h o=Ah v g st (L.map e))(h2o:h2 o=none)(hr : ∀ x,E4 st (e x)):Fz h h2 v (.sl st (L.map e)):=by
 rcases hv with⟨rfl,hn⟩ | rfl
 ·have:L=[]:=List.length_eq_zero_iff.1 hn
  subst this
  exact .emp st
 ·simp only [Ah] at ho
  refine .ref o g 0 L.length st (L.map e) (L.map e) ho h2o (by simp) (by simp) (by
   intro x hx
   obtain⟨y,_,rfl⟩:=List.mem_map.1 hx
   exact hr y) (fun i jj _ _=>by rw [Nat.zero_add]; exact .same _)
end
end
end Go.Am
namespace Go.Am
open Go
set_option linter.unusedSimpArgs false
set_option linter.unusedVariables false
set_option linter.unusedSectionVars false
def Aas {α:Type}(e:α→AV)(h:Ae)(m:R α):AR→Ae→Prop:=fun r h'=>h'=h∧match m with
 | .ok a=>r=.ret (e a)
 | .pan v=>r=.panic v.av
 | .bad=>False
def Ald {α:Type}(e:α→AV)(h:Ae):Spec α:=⟨fun m=>m≠.bad,fun h=>h rfl,fun m r h' _=>Aas e h m r h'⟩
def CP {α:Type}(P:Program)[GW P](g:FuncId)(args:List AV)(m:R α)(e:α→AV):Prop := ∀ h,m≠.bad→Bl P g args h (Aas e h m)
def Aaw:Nat→List AV→List (Nat×AV)
 | _,[]=>[]
 | i,a::l=>(i,a)::Aaw (i+1) l
theorem Uw : ∀ (args:List AV) (i t:Nat),A6 (Aaw i args) t=.any∨(i≤t∧A6 (Aaw i args) t=args.getD (t - i) .und)
 | [],i,t=>.inl rfl
 | a::l,i,t=>by
  simp only [Aaw,A6]
  cases hq:Nat.beq t i with
  | true=>
   have:=Nat.eq_of_beq_eq_true hq
   subst this
   exact .inr ⟨Nat.le_refl _,by simp⟩
  | false=>
   have hne:t≠i:=fun q=>by subst q; simp at hq
   rcases Uw l (i+1) t with h | ⟨h1,h2⟩
   ·exact .inl h
   ·refine .inr ⟨by omega,?_⟩
    simp only [cond_false]
    rw [h2]
    have:t - i=(t - (i+1))+1:=by omega
    rw [this,List.getD_cons_succ]
section
variable {P:Program} [GW P] {f:FuncId} {n:Nat} {α:Type} {m:R α} {e:α→AV}
theorem C0 {fn : Func} {c : Code} {args : List AV} (N : Nat) (hf : P.funcs[f]? = some fn) (hb : fn.body = some c) (hn : fn.name ≠ "runtime.NumGoroutine") (hnt : fn.ntmps = n) (hl : Nat.ble args.length n = true)
  (hr : ∀ (h0 : Ae) (ids : List Nat), Ids h0 ids N → WR P f n false (Ald e h0) m [.code c] (A6 (Aaw 0 args)) [] (hp h0 ids (List.replicate N none)) .ret) : CP P f args m e := by
 intro h hb'
 refine Zl hf hb hn hnt (by simpa using hl) ?_
 refine Acw N [] fun os h1 h2 h3 h4 => ?_
 have := hr h os ⟨h2, h3, h1⟩ hb'
 rw [Ut h3] at this
 refine Ti (fun t => ?_) this
 rcases Uw args 0 t with h | ⟨_, h⟩
 ·exact .inl h
 ·exact .inr h
section
variable {h0:Ae} {ids:List Nat} {xs:List (Option AO)} {N:Nat} {l:List (Nat×AV)} {k:List Item} {u:AU}
theorem Br {fn:Func}{a:α}{vs:List AV}(hf:P.funcs[f]? = some fn)(hI:Ids h0 ids N)(hr:Nr P (hp h0 ids xs) (A6 l) fn.results.toList=some vs)(hz:Fz (hp h0 ids xs) h0 (Md vs) (e a)) :
  WR P f n false (Ald e h0) (.ok a) (.code .ret::k) (A6 l) [] (hp h0 ids xs) u:=fun _=>
 Acx (X0 hf hr (hI.sub xs) hz rfl ⟨rfl,rfl⟩)
theorem Asz {fn:Func}{a:α}{vs:List AV}(hf:P.funcs[f]? = some fn)(hI:Ids h0 ids N)(hr:Nr P (hp h0 ids xs) (A6 l) fn.results.toList=some vs)(hz:Fz (hp h0 ids xs) h0 (Md vs) (e a)) :
  WR P f n false (Ald e h0) (.ok a) [] (A6 l) [] (hp h0 ids xs) u:=fun _=>
 Afw (X0 hf hr (hI.sub xs) hz rfl ⟨rfl,rfl⟩)
theorem Cg {fn:Func}{v:PV}{fr:Nat→AV}(hf:P.funcs[f]? = some fn)(hI:Ids h0 ids N):WU P f n false (Ald e h0) (.pan v) (.pan v.av false) fr [] (hp h0 ids xs) u:=fun _=>
 Ai3 hf (hI.sub xs) (.same _) ⟨rfl,rfl⟩
end
end
def hE:Ae:=fun _=>none
theorem Anh (h:Ae):Nm hE h:=fun o x hx=>by cases hx
inductive Free:AV→Prop
 | bool (b:Bool):Free (.bool b)
 | int (k:IntKind) (n:Int):Free (.int k n)
 | str (s:List UInt8):Free (.str s)
 | tup (vs:List AV) (h : ∀ i,i<vs.length→Free (vs.getD i .und)):Free (.tup vs)
 | agg (vs:List AV) (h : ∀ i,i<vs.length→Free (vs.getD i .und)):Free (.agg vs)
theorem Free.rv {w:World}{mu mu':Mu}{M M':Nat→Prop}{v:AV}(hv:Free v) : ∀ {c:Value},Rv w mu M v c→Rv w mu' M' v c:=by
 induction hv with
 | bool b=>intro c h; cases h; exact .bool b
 | int k n=>intro c h; cases h; exact .int k n
 | str s=>intro c h; cases h; exact .str s
 | tup vs h ih=>intro c hc; cases hc with | tup _ cs hl hp=>exact .tup vs cs hl fun i hi=>ih i hi (hp i hi)
 | agg vs h ih=>intro c hc; cases hc with | agg _ cs hl hp=>exact .agg vs cs hl fun i hi=>ih i hi (hp i hi)
theorem Free.tup2 {a b:AV}(ha:Free a)(hb:Free b):Free (.tup [a,b]):=.tup _ fun i hi=>by
 match i,hi with
 | 0,_=>exact ha
 | 1,_=>exact hb
theorem Free.tup0:Free (.tup []):=.tup _ fun i hi=>by simp at hi
theorem Sc.free (x:Sc):Free x.av:=by
 cases x with
 | int k n=>exact .int k n
 | str s=>exact .str s
 | bool b=>exact .bool b
 | unit=>exact .agg [] fun i hi=>by simp at hi
 | two k1 k2 a b=>
  refine .agg _ fun i hi=>?_
  match i,hi with
  | 0,_=>exact .int k1 a
  | 1,_=>exact .int k2 b
 | one k a=>
  refine .agg _ fun i hi=>?_
  match i,hi with
  | 0,_=>exact .int k a
theorem Sim.back {P:Program}[GW P]{B:Base P}{mu mu':Mu}{h:Ae}{w w':World}(s:Sim B mu h w)(s':Sim B mu' hE w')(e:Hp hE mu w hE mu' w'):Sim B mu' h w'∧Hp h mu w h mu' w':=by
 have hn : ∀ m b,¬ Ep hE m b:=by rintro m b ⟨o,x,l,hx,_⟩; cases hx
 have hold : ∀ b,b<w.heap.size→w'.heap[b]? = w.heap[b]? := fun b hb=>(e.same b hb (hn _ _)).1
 have live : ∀ {o x},h o=some x → ∃ l,mu o x.gen=some l:=by
  intro o x hx
  cases x with
  | rows g st rs=>obtain⟨l,h1,_⟩:=s.rows _ _ _ _ hx; exact⟨l,h1⟩
  | mp g es=>obtain⟨l,h1,_⟩:=s.maps _ _ _ hx; exact⟨l,h1⟩
  | blk g x=>obtain⟨l,h1,_⟩:=s.blks _ _ _ hx; exact⟨l,h1⟩
 have hmut : ∀ b,Ep h mu' b→Ep h mu b:=by
  rintro b ⟨o,x,l,hx,hl,rfl⟩
  obtain⟨l',hl'⟩:=live hx
  have:=e.mu _ _ _ hl'
  rw [hl] at this; cases this
  exact⟨o,x,l,hx,hl',rfl⟩
 have ext:Hp h mu w h mu' w':=⟨e.os,e.tape,e.output,e.size,fun b hb hm=>⟨hold b hb,fun hm'=>hm (hmut b hm')⟩,e.mu⟩
 refine⟨⟨s'.base,s'.muOk,s'.fin,s.finh,?_,?_,?_,s.globE ext,fun o g x hx=>let ⟨l,h1,h2,h3⟩:=s.blks _ _ _ hx; ⟨l,e.mu _ _ _ h1,h2,by rw [hold _ (s.muOk _ _ _ h1).2.1]; exact h3⟩⟩,ext⟩
 ·intro o g st rs hx
  obtain⟨l,h1,h2,h3,h4,h5,h6⟩:=s.rows _ _ _ _ hx
  refine⟨l,e.mu _ _ _ h1,h2,h3,h4,h5,fun i j hi hj=>?_⟩
  obtain⟨c,hc1,hc2⟩:=h6 i j hi hj
  refine⟨c,?_,hc2.ext ext⟩
  rw [cell?_of_heap (w:=w) (w':=w') (a:=⟨l.b,l.base+i * st+j,none⟩) (hold _ (s.muOk _ _ _ h1).2.1)]; exact hc1
 ·intro o g es hx
  obtain⟨l,h1,h2,ens,clock,h3,h4,h5⟩:=s.maps _ _ _ hx
  exact⟨l,e.mu _ _ _ h1,h2,ens,clock,by rw [hold _ (s.muOk _ _ _ h1).2.1]; exact h3,h4,fun i hi=>⟨(h5 i hi).1.ext ext,(h5 i hi).2.ext ext⟩⟩
 ·intro o o' x x' l l' hx hx' hl hl' hb
  obtain⟨m,hm⟩:=live hx
  obtain⟨m',hm'⟩:=live hx'
  have e1:=e.mu _ _ _ hm
  have e2:=e.mu _ _ _ hm'
  rw [hl] at e1; cases e1
  rw [hl'] at e2; cases e2
  exact s.inj _ _ _ _ _ _ hx hx' hm hm' hb
def LFz (h:Ae):List AV→List AV→Prop
 | [],[]=>True
 | a::l,a'::l'=>Fz h hE a a'∧LFz h l l'
 | _,_=>False
theorem LFz.len {h:Ae} : ∀ {l l':List AV},LFz h l l'→l.length=l'.length ∧ ∀ i,i<l.length→Fz h hE (l.getD i .und) (l'.getD i .und)
 | [],[],_=>⟨rfl,fun i hi=>by simp at hi⟩
 | a::l,a'::l',hx=>by
  obtain⟨h1,h2⟩:=LFz.len hx.2
  refine⟨by simp [h1],fun i hi=>?_⟩
  cases i with
  | zero=>exact hx.1
  | succ i=>simpa using h2 i (by simpa using hi)
theorem CP.lend {α:Type}{P:Program}[GW P]{g:FuncId}{args args':List AV}{m:R α}{e:α→AV}{h:Ae}(hc:CP P g args' m e)(hz:LFz h args args')(hfree : ∀ a,m=.ok a→Free (e a))(hb:m≠.bad) :
  Bl P g args h (Aas e h m):=by
 obtain⟨hbody,hcall⟩:=hc hE hb
 refine⟨hbody,fun B mu w cargs s ha=>?_⟩
 obtain⟨hlen,hfz⟩:=hz.len
 have ha':Qa hE mu w args' cargs.toList:=⟨hlen ▸ ha.1,fun i hi=>Rk s (Anh h) (hfz i (hlen ▸ hi)) (ha.2 i (hlen ▸ hi))⟩
 refine(hcall B mu w cargs (s.sub (Anh h)) ha').mono ?_
 rintro en w' ⟨r,h',mu',⟨rfl,hr⟩,hs',hext,hE'⟩
 obtain⟨k1,k2⟩:=s.back hs' hext
 refine⟨r,h,mu',⟨rfl,hr⟩,k1,k2,?_⟩
 cases hm:m with
 | bad=>exact absurd hm hb
 | ok a=>
  rw [hm] at hr
  subst hr
  cases en with
  | returned c=>exact(hfree a hm).rv hE'
  | panicked _=>exact hE'.elim
  | outgrown=>exact hE'.elim
 | pan v=>
  rw [hm] at hr
  subst hr
  obtain⟨x,rfl,x1,x2,x3⟩:=hE'.panic_inv
  refine⟨x1,x2,?_⟩
  obtain⟨xv,xr,xg⟩:=x
  simp only [PV.av] at x3
  cases x3 with
  | iface _ _ c hc=>exact .iface _ _ c (v.x.free.rv hc)
section
variable {P:Program} [GW P] {f:FuncId} {n:Nat} {d:FK} {β:Type} {Q:Spec β} {ds:List AD} {h:Ae} {u:AU} {k:List Item} {l:List (Nat×AV)}
variable {all r:List Oper} {ty:TypeId} {pos:String} {after:Array Edge}
theorem Asc {α:Type}{t:Nat}{x:Operand}{as0:List Operand}{ts:Array TypeId}{g:FuncId}{fst cap A:List AV}{gd:Option (Nat×Bool)}{mg:R α}{e:α→AV}{rest:α→R β}(ht:Nat.blt t n=true)(hw:Gt all (A6 l) ⟨some t,.call ⟨.value x,⟨as0⟩,ts⟩,ty,pos,after,gd⟩=some true)(hx:ev (A6 l) x=.func (.func g) fst cap)
  (ha:fst++Jf (A6 l) as0++cap=A) (hc:mg≠.bad→Bl P g A h (Aas e h mg)) (hp : ∀ v,mg=.pan v→WU P f n d Q (.pan v) (.pan v.av false) (A6 l) ds h u) (hk : ∀ a,mg=.ok a→WO P f n d Q k all (rest a) r (A6 ((t,e a)::l)) ds h u) :
  WO P f n d Q k all (mg.bind rest) (⟨some t,.call ⟨.value x,⟨as0⟩,ts⟩,ty,pos,after,gd⟩::r) (A6 l) ds h u:=by
 refine Q5 (by simpa [I4] using ht) hw fun hb K U hK hU=>?_
 simp only [Lb,hx]
 rw [ha]
 have hmb:mg≠.bad:=fun q=>by rw [q] at hb; exact Q.bad hb
 refine(hc hmb).mono fun r' h' hr=>?_
 obtain⟨rfl,hr⟩:=hr
 cases hm:mg with
 | bad=>exact absurd hm hmb
 | ok a=>
  rw [hm] at hr hb hK
  subst hr
  exact hK _ _ _ _ (by rw [J8]; exact hk a hm)
 | pan v=>
  rw [hm] at hr hb hU
  subst hr
  exact hU _ _ _ _ _ (hp v hm hb)
theorem S1 {dst:Option Tmp}{x:Operand}{v:PV}(hd:I4 n dst=true)(hx:ev (A6 l) x=v.av)(hp:WU P f n d Q (.pan v) (.pan v.av false) (A6 l) ds h u) :
  WO P f n d Q k all (.pan v) (⟨dst,.panic x,ty,pos,after,none⟩::r) (A6 l) ds h u:=by
 refine Q5 hd rfl fun hb K U hK hU=>?_
 simp only [Lb,hx,PV.av]
 exact hU _ _ _ _ _ (hp hb)
theorem Do {α:Type}{m:R β}{todo:List Item}{fr:Nat→AV}{st t:Nat}{e:α→List AV}{L:List α}(hv:fr t=.sl st (L.map e))(hk:L.length≤Em→WR P f n d Q m todo fr ds h u):WR P f n d Q m todo fr ds h u:=fun hb=>
 Ate t fun hw=>hk (by rw [hv] at hw; simpa using hw.lim) hb
end
end Go.Am
namespace Go.Am
open Go
set_option linter.unusedSimpArgs false
set_option linter.unusedVariables false
set_option linter.unusedSectionVars false
def Di {α σ:Type}(body:Nat→α→σ→R σ):Nat→List α→σ→R σ
 | _,[],s=>.ok s
 | k,a::l,s=>(body k a s).bind fun s'=>Di body (k+1) l s'
@[simp] theorem Au9 {α σ:Type}(body:Nat→α→σ→R σ)(k:Nat)(s:σ):Di body k [] s=.ok s:=rfl
theorem Alo {α σ:Type}(body:Nat→α→σ→R σ)(k:Nat)(a:α)(l:List α)(s:σ):Di body k (a::l) s=(body k a s).bind fun s'=>Di body (k+1) l s':=rfl
section
variable {P:Program} [GW P] {f:FuncId} {n:Nat} {d:FK} {β γ:Type} {Q:Spec β} {fr:Nat→AV} {ds:List AD} {h:Ae} {u:AU} {k:List Item} {l:List (Nat×AV)} {F:γ→R β}
theorem Bn {m:R β}{todo:List Item}(hr:WR P f n d Q (m.bind R.ok) todo fr ds h u):WR P f n d Q m todo fr ds h u:=by rwa [R.bind_ok] at hr
theorem Ak {m m':R γ}{todo:List Item}(e:m=m')(hr:WR P f n d Q (m'.bind F) todo fr ds h u):WR P f n d Q (m.bind F) todo fr ds h u:=e ▸ hr
theorem Qp {c:Operand}{x y:Code}{p:Prop}[Decidable p]{A B:R γ}(hc:ev fr c=.bool (decide p))(ht:p→WR P f n d Q (A.bind F) (.code x::k) fr ds h u)(hf:¬ p→WR P f n d Q (B.bind F) (.code y::k) fr ds h u):WR P f n d Q ((if p then A else B).bind F) (.code (.cond c x y)::k) fr ds h u:=by
 have e:(if p then A else B).bind F=if p then A.bind F else B.bind F:=by split <;> rfl
 rw [e]; exact Atx hc ht hf
theorem Cf {c:Operand}{x y:Code}{b:Bool}{A B:R γ}(hc:ev fr c=.bool b)(ht:b=true→WR P f n d Q (A.bind F) (.code x::k) fr ds h u)(hf:b=false→WR P f n d Q (B.bind F) (.code y::k) fr ds h u):WR P f n d Q ((if b then A else B).bind F) (.code (.cond c x y)::k) fr ds h u:=by
 have e:(if b then A else B).bind F=if b then A.bind F else B.bind F:=by split <;> rfl
 rw [e]; exact Aqj hc ht hf
theorem Ei {π:Type}(rest:π→R γ)(St:π→(Nat→AV)→Ae→Prop){m:R γ}{i:Item}(hk : ∀ p fr h,St p fr h→WR P f n d Q ((rest p).bind F) k fr ds h u)
  (hx:(∀ p fr h,St p fr h→WR P f n d Q ((rest p).bind F) k fr ds h u)→WR P f n d Q (m.bind F) (i::k) fr ds h u):WR P f n d Q (m.bind F) (i::k) fr ds h u:=hx hk
theorem Art {σ ε:Type}{c:Code}(body:σ→R (σ ⊕ ε))(rest:ε→R γ)(St:σ→(Nat→AV)→Ae→Prop)(s0:σ)(hs:St s0 fr h)
  (round : ∀ W:σ→R ε,(∀ s fr h,St s fr h→WR P f n d Q (((W s).bind rest).bind F) (.inLoop c::k) fr ds h u) → ∀ s fr h,St s fr h →
   WR P f n d Q ((body s).bind fun x=>match x with | .inl s'=>((W s').bind rest).bind F | .inr e=>(rest e).bind F) (.code c::.inLoop c::k) fr ds h u) :
  WR P f n d Q (((loop body s0).bind rest).bind F) (.code (.loop c)::k) fr ds h u:=by
 refine Xa (R.bind_assoc _ _ _) (Arl body (fun x=>(rest x).bind F) St s0 hs fun W hW s fr h hs=>?_)
 have:=round W (fun s fr h hs=>Xa (R.bind_assoc _ _ _) (hW s fr h hs)) s fr h hs
 refine Xa ?_ this
 congr 1
 funext x
 cases x with
 | inl s'=>exact(R.bind_assoc _ _ _).symm
 | inr e=>rfl
theorem Akb {α σ ε:Type}{c:Code}(L:List α)(body:Nat→α→σ→R (σ ⊕ ε))(rest:σ ⊕ ε→R γ)(St:Nat→σ→(Nat→AV)→Ae→Prop)(s0:σ)(hs:St 0 s0 fr h)
  (round : ∀ (j:Nat) (a:α),L[j]? = some a → ∀ W:σ→R (σ ⊕ ε),(∀ s fr h,St (j+1) s fr h→WR P f n d Q (((W s).bind rest).bind F) (.inLoop c::k) fr ds h u) → ∀ s fr h,St j s fr h →
   WR P f n d Q ((body j a s).bind fun x=>match x with | .inl s'=>((W s').bind rest).bind F | .inr e=>(rest (.inr e)).bind F) (.code c::.inLoop c::k) fr ds h u)
  (fin : ∀ s fr h,St L.length s fr h→WR P f n d Q ((rest (.inl s)).bind F) (.code c::.inLoop c::k) fr ds h u) :
  WR P f n d Q (((each body 0 L s0).bind rest).bind F) (.code (.loop c)::k) fr ds h u:=by
 refine Xa (R.bind_assoc _ _ _) (Aru L body (fun x=>(rest x).bind F) St s0 hs (fun j a ha W hW s fr h hs=>?_) fin)
 have:=round j a ha W (fun s fr h hs=>Xa (R.bind_assoc _ _ _) (hW s fr h hs)) s fr h hs
 refine Xa ?_ this
 congr 1
 funext x
 cases x with
 | inl s'=>exact(R.bind_assoc _ _ _).symm
 | inr e=>rfl
theorem Ami {α σ:Type}(body:Nat→α→σ→R σ) : ∀ (L:List α) (j:Nat) (s:σ),(each (ε:=Empty) (fun j a s=>(body j a s).bind fun s'=>.ok (.inl s')) j L s).bind (fun | .inl s=>.ok s | .inr e=>nomatch e)=Di body j L s
 | [],j,s=>rfl
 | a::l,j,s=>by
  rw [S4,Alo]
  cases body j a s with
  | ok s'=>exact Ami body l (j+1) s'
  | pan v=>rfl
  | bad=>rfl
theorem Aoq {α σ:Type}{c:Code}(L:List α)(body:Nat→α→σ→R σ)(rest:σ→R γ)(St:Nat→σ→(Nat→AV)→Ae→Prop)(s0:σ)(hs:St 0 s0 fr h)
  (round : ∀ (j:Nat) (a:α),L[j]? = some a → ∀ W:σ→R σ,(∀ s fr h,St (j+1) s fr h→WR P f n d Q (((W s).bind rest).bind F) (.inLoop c::k) fr ds h u) → ∀ s fr h,St j s fr h →
   WR P f n d Q ((body j a s).bind fun s'=>((W s').bind rest).bind F) (.code c::.inLoop c::k) fr ds h u)
  (fin : ∀ s fr h,St L.length s fr h→WR P f n d Q ((rest s).bind F) (.code c::.inLoop c::k) fr ds h u) :
  WR P f n d Q (((Di body 0 L s0).bind rest).bind F) (.code (.loop c)::k) fr ds h u:=by
 rw [← Ami]
 rw [R.bind_assoc (each _ _ _ _)]
 refine Akb (ε:=Empty) L _ _ St s0 hs (fun j a ha W hW s fr h hs=>?_) (fun s fr h hs=>fin s fr h hs)
 have:=round j a ha (fun s=>(W s).bind fun | .inl s=>.ok s | .inr e=>nomatch e) (fun s fr h hs=>by rw [R.bind_assoc (W s)]; exact hW s fr h hs) s fr h hs
 refine Xa ?_ this
 rw [R.bind_assoc]
 congr 1
 funext s'
 simp only [R.ok_bind]
 cases W s' with
 | ok x=>
  cases x with
  | inl s=>rfl
  | inr e=>exact nomatch e
 | pan v=>rfl
 | bad=>rfl
section
variable {all r:List Oper} {ty:TypeId} {pos:String} {after:Array Edge}
theorem E1 {α:Type}{L:List α}{i:Int}{rest:α→R γ}{ops:List Oper}(hk : ∀ a,0≤i→L[i.toNat]? = some a→WO P f n d Q k all ((rest a).bind F) ops fr ds h u):WO P f n d Q k all (((E3 L i).bind rest).bind F) ops fr ds h u:=
 Alh (R.bind_assoc _ _ _) (At5 hk)
theorem Gj {p:Prop}[Decidable p]{rest:R γ}{ops:List Oper}(hk:p→WO P f n d Q k all (rest.bind F) ops fr ds h u):WO P f n d Q k all ((if p then rest else .bad).bind F) ops fr ds h u:=by
 have e:(if p then rest else .bad).bind F=if p then rest.bind F else .bad:=by split <;> rfl
 rw [e]; exact Ar9 hk
theorem Aqn {b:Bool}{A B:R γ}{ops:List Oper}(ht:b=true→WO P f n d Q k all (A.bind F) ops fr ds h u)(hf:b=false→WO P f n d Q k all (B.bind F) ops fr ds h u):WO P f n d Q k all ((if b then A else B).bind F) ops fr ds h u:=by
 have e:(if b then A else B).bind F=if b then A.bind F else B.bind F:=by split <;> rfl
 rw [e]; exact Ari ht hf
theorem B0 {α:Type}{t:Nat}{x:Operand}{as0:List Operand}{ts:Array TypeId}{g:FuncId}{fst cap:List AV}{gd:Option (Nat×Bool)}(A:List AV){mg:R α}{e:α→AV}{rest:α→R γ}(ht:Nat.blt t n=true)(hw:Gt all (A6 l) ⟨some t,.call ⟨.value x,⟨as0⟩,ts⟩,ty,pos,after,gd⟩=some true)(hx:ev (A6 l) x=.func (.func g) fst cap)
  (ha:fst++Jf (A6 l) as0++cap=A) (hc:mg≠.bad→Bl P g A h (Aas e h mg)) (hp : ∀ v,mg=.pan v→WU P f n d Q (.pan v) (.pan v.av false) (A6 l) ds h u) (hk : ∀ a,mg=.ok a→WO P f n d Q k all ((rest a).bind F) r (A6 ((t,e a)::l)) ds h u) :
  WO P f n d Q k all ((mg.bind rest).bind F) (⟨some t,.call ⟨.value x,⟨as0⟩,ts⟩,ty,pos,after,gd⟩::r) (A6 l) ds h u:=
 Alh (R.bind_assoc _ _ _) (Asc ht hw hx ha hc hp hk)
end
end
end Go.Am
namespace Go.Am
open Go
section
variable {α β γ δ ε ζ η θ τ:Type} {κ:Sort _}
@[reducible] def C3 (f:α→β→κ):α×β→κ | (a,b)=>f a b
@[reducible] def un3 (f:α→β→γ→κ):α×β×γ→κ | (a,b,c)=>f a b c
@[simp] theorem Pv (f:α→β→κ)(a:α)(b:β):C3 f (a,b)=f a b:=rfl
@[simp] theorem Awi (f:α→β→γ→κ)(a:α)(b:β)(c:γ):un3 f (a,b,c)=f a b c:=rfl
@[reducible] def C6 (f:α→κ)(g:β→κ):α ⊕ β→κ | .inl a=>f a | .inr b=>g b
@[simp] theorem E5 (f:α→κ)(g:β→κ)(a:α):C6 f g (.inl a)=f a:=rfl
@[simp] theorem Awc (f:α→κ)(g:β→κ)(b:β):C6 f g (.inr b)=g b:=rfl
end
def Ajg {σ ε γ β:Type}(W:σ→R ε)(rest:ε→R γ)(F:γ→R β):σ ⊕ ε→R β
 | .inl s'=>((W s').bind rest).bind F
 | .inr e=>(rest e).bind F
def Ajb {σ ε γ β:Type}(W:σ→R (σ ⊕ ε))(rest:σ ⊕ ε→R γ)(F:γ→R β):σ ⊕ ε→R β
 | .inl s'=>((W s').bind rest).bind F
 | .inr e=>(rest (.inr e)).bind F
def Anr {σ γ β:Type}(W:σ→R σ)(rest:σ→R γ)(F:γ→R β):σ→R β
 | s'=>((W s').bind rest).bind F
def Ad6 {α γ β:Type}(rest:α→R γ)(F:γ→R β):α→R β
 | a=>(rest a).bind F
section
variable {P:Program} [GW P] {f:FuncId} {n:Nat} {d:FK} {β γ:Type} {Q:Spec β} {fr:Nat→AV} {ds:List AD} {h:Ae} {u:AU} {k:List Item} {l:List (Nat×AV)} {F:γ→R β}
theorem Pt {σ ε:Type}{W:σ→R ε}{rest:ε→R γ}{todo:List Item}{s:σ}(hr:WR P f n d Q (((W s).bind rest).bind F) todo fr ds h u):WR P f n d Q ((R.ok (.inl s)).bind (Ajg W rest F)) todo fr ds h u:=hr
theorem Xn {σ ε:Type}{W:σ→R ε}{rest:ε→R γ}{todo:List Item}{e:ε}(hr:WR P f n d Q ((rest e).bind F) todo fr ds h u):WR P f n d Q ((R.ok (.inr e)).bind (Ajg W rest F)) todo fr ds h u:=hr
theorem Ey {σ ε:Type}{W:σ→R (σ ⊕ ε)}{rest:σ ⊕ ε→R γ}{todo:List Item}{s:σ}(hr:WR P f n d Q (((W s).bind rest).bind F) todo fr ds h u):WR P f n d Q ((R.ok (.inl s)).bind (Ajb W rest F)) todo fr ds h u:=hr
theorem Ex {σ ε:Type}{W:σ→R (σ ⊕ ε)}{rest:σ ⊕ ε→R γ}{todo:List Item}{e:ε}(hr:WR P f n d Q ((rest (.inr e)).bind F) todo fr ds h u):WR P f n d Q ((R.ok (.inr e)).bind (Ajb W rest F)) todo fr ds h u:=hr
theorem Pg {σ:Type}{W:σ→R σ}{rest:σ→R γ}{todo:List Item}{s:σ}(hr:WR P f n d Q (((W s).bind rest).bind F) todo fr ds h u):WR P f n d Q ((R.ok s).bind (Anr W rest F)) todo fr ds h u:=hr
theorem F2 {α' β':Type}{f1:α'→R γ}{g1:β'→R γ}{todo:List Item}{b:β'}(hr:WR P f n d Q ((g1 b).bind F) todo fr ds h u):WR P f n d Q ((C6 f1 g1 (.inr b)).bind F) todo fr ds h u:=hr
theorem U6 {σ ε:Type}{c:Code}(body:σ→R (σ ⊕ ε))(rest:ε→R γ)(St:σ→(Nat→AV)→Ae→Prop)(s0:σ)(hs:St s0 fr h)
  (round : ∀ W:σ→R ε,(∀ s fr h,St s fr h→WR P f n d Q (((W s).bind rest).bind F) (.inLoop c::k) fr ds h u) → ∀ s fr h,St s fr h →
   WR P f n d Q ((body s).bind (Ajg W rest F)) (.code c::.inLoop c::k) fr ds h u) :
  WR P f n d Q (((loop body s0).bind rest).bind F) (.code (.loop c)::k) fr ds h u:=
 Art body rest St s0 hs fun W hW s fr h hs=>by
  refine Xa ?_ (round W hW s fr h hs)
  congr 1
theorem Ej {α σ ε:Type}{c:Code}(L:List α)(body:Nat→α→σ→R (σ ⊕ ε))(rest:σ ⊕ ε→R γ)(St:Nat→σ→(Nat→AV)→Ae→Prop)(s0:σ)(hs:St 0 s0 fr h)
  (round : ∀ (j:Nat) (a:α),L[j]? = some a → ∀ W:σ→R (σ ⊕ ε),(∀ s fr h,St (j+1) s fr h→WR P f n d Q (((W s).bind rest).bind F) (.inLoop c::k) fr ds h u) → ∀ s fr h,St j s fr h →
   WR P f n d Q ((body j a s).bind (Ajb W rest F)) (.code c::.inLoop c::k) fr ds h u)
  (fin : ∀ s fr h,St L.length s fr h→WR P f n d Q ((rest (.inl s)).bind F) (.code c::.inLoop c::k) fr ds h u) :
  WR P f n d Q (((each body 0 L s0).bind rest).bind F) (.code (.loop c)::k) fr ds h u:=
 Akb L body rest St s0 hs (fun j a ha W hW s fr h hs=>by
  refine Xa ?_ (round j a ha W hW s fr h hs)
  congr 1) fin
theorem F3 {α σ:Type}{c:Code}(L:List α)(body:Nat→α→σ→R σ)(rest:σ→R γ)(St:Nat→σ→(Nat→AV)→Ae→Prop)(s0:σ)(hs:St 0 s0 fr h)
  (round : ∀ (j:Nat) (a:α),L[j]? = some a → ∀ W:σ→R σ,(∀ s fr h,St (j+1) s fr h→WR P f n d Q (((W s).bind rest).bind F) (.inLoop c::k) fr ds h u) → ∀ s fr h,St j s fr h →
   WR P f n d Q ((body j a s).bind (Anr W rest F)) (.code c::.inLoop c::k) fr ds h u)
  (fin : ∀ s fr h,St L.length s fr h→WR P f n d Q ((rest s).bind F) (.code c::.inLoop c::k) fr ds h u) :
  WR P f n d Q (((Di body 0 L s0).bind rest).bind F) (.code (.loop c)::k) fr ds h u:=Aoq L body rest St s0 hs round fin
theorem D2 {c:Operand}{x y:Code}{b:Bool}{A B:R γ}(hc:ev fr c=.bool (!b))(ht:b=true→WR P f n d Q (A.bind F) (.code y::k) fr ds h u)(hf:b=false→WR P f n d Q (B.bind F) (.code x::k) fr ds h u):WR P f n d Q ((if b then A else B).bind F) (.code (.cond c x y)::k) fr ds h u:=by
 intro hb
 cases hq:b with
 | true=>simp only [hq,if_true] at hb ⊢; exact Su (b:=false) (by rw [hc,hq]; rfl) (ht hq hb)
 | false=>simp only [hq,Bool.false_eq_true,if_false] at hb ⊢; exact Su (b:=true) (by rw [hc,hq]; rfl) (hf hq hb)
section
variable {all r:List Oper} {ty:TypeId} {pos:String} {after:Array Edge}
theorem Dq {π:Type}{m:R γ}{ops:List Oper}(i:Nat)(rest:π→R γ)(St:π→(Nat→AV)→Ae→Prop)(hk : ∀ p fr h,St p fr h→WO P f n d Q k all ((rest p).bind F) (ops.drop i) fr ds h u)
  (hx:(∀ p fr h,St p fr h→WO P f n d Q k all ((rest p).bind F) (ops.drop i) fr ds h u)→WO P f n d Q k all (m.bind F) ops fr ds h u):WO P f n d Q k all (m.bind F) ops fr ds h u:=hx hk
theorem Bt {m:R β}{ops:List Oper}(b:Bool)(ht:b=true→WO P f n d Q k all m ops fr ds h u)(hf:b=false→WO P f n d Q k all m ops fr ds h u):WO P f n d Q k all m ops fr ds h u:=by
 cases hq:b with
 | true=>exact ht hq
 | false=>exact hf hq
theorem Ed {α:Type}{b:Bool}{A B:R α}{rest:α→R γ}{ops:List Oper}(ht:b=true→WO P f n d Q k all (A.bind (Ad6 rest F)) ops fr ds h u)(hf:b=false→WO P f n d Q k all (B.bind (Ad6 rest F)) ops fr ds h u):WO P f n d Q k all (((if b then A else B).bind rest).bind F) ops fr ds h u:=by
 have e : ∀ X:R α,(X.bind rest).bind F=X.bind (Ad6 rest F):=fun X=>R.bind_assoc _ _ _
 rw [e]
 exact Aqn ht hf
theorem Bp {α:Type}{rest:α→R γ}{ops:List Oper}{a:α}(hr:WO P f n d Q k all ((rest a).bind F) ops fr ds h u):WO P f n d Q k all ((R.ok a).bind (Ad6 rest F)) ops fr ds h u:=hr
end
end
theorem Lh {a b:Bool}(h:a=true):AV.bool b=.bool (a&&b):=by rw [h]; rfl
theorem Lg {a b:Bool}(h:a=false):AV.bool false=.bool (a&&b):=by rw [h]; rfl
theorem Es {a b:Bool}(h:a=true):AV.bool true=.bool (a||b):=by rw [h]; rfl
theorem Er {a b:Bool}(h:a=false):AV.bool b=.bool (a||b):=by rw [h]; rfl
section
variable {P:Program} [GW P] {f:FuncId} {n:Nat} {d:FK} {β:Type} {Q:Spec β} {m:R β} {fr:Nat→AV} {ds:List AD} {h:Ae} {u:AU} {k:List Item} {l:List (Nat×AV)}
theorem Cm {c:Operand}{x y:Code}{p:Prop}[Decidable p](hc:ev fr c=.bool (decide p))(hp:p)(hr:WR P f n d Q m (.code x::k) fr ds h u):WR P f n d Q m (.code (.cond c x y)::k) fr ds h u:=fun hb=>Su (b:=true) (by rw [hc]; simp [hp]) (hr hb)
theorem Co {c:Operand}{x y:Code}{p:Prop}[Decidable p](hc:ev fr c=.bool (decide p))(hp:¬ p)(hr:WR P f n d Q m (.code y::k) fr ds h u):WR P f n d Q m (.code (.cond c x y)::k) fr ds h u:=fun hb=>Su (b:=false) (by rw [hc]; simp [hp]) (hr hb)
end
inductive LF (h h2:Ae):List AV→List AV→Prop
 | nil:LF h h2 [] []
 | cons {a b:AV} {l l':List AV} (hx:Fz h h2 a b) (hr:LF h h2 l l'):LF h h2 (a::l) (b::l')
theorem LF.all {h h2:Ae}{l l':List AV}(hx:LF h h2 l l'):l.length=l'.length ∧ ∀ i,i<l.length→Fz h h2 (l.getD i .und) (l'.getD i .und):=by
 induction hx with
 | nil=>exact⟨rfl,fun i hi=>by simp at hi⟩
 | cons hx hr ih=>
  refine⟨by simp [ih.1],fun i hi=>?_⟩
  cases i with
  | zero=>exact hx
  | succ i=>simpa using ih.2 i (by simpa using hi)
theorem Fz.tupL {h h2:Ae}{l l':List AV}(hx:LF h h2 l l'):Fz h h2 (.tup l) (.tup l'):=.tup l l' hx.all.1 hx.all.2
theorem Fz.aggL {h h2:Ae}{l l':List AV}(hx:LF h h2 l l'):Fz h h2 (.agg l) (.agg l'):=.agg l l' hx.all.1 hx.all.2
theorem LF.lfz {h:Ae}{l l':List AV}(hx:LF h hE l l'):LFz h l l':=by
 induction hx with
 | nil=>trivial
 | cons hx hr ih=>exact⟨hx,ih⟩
end Go.Am
namespace Go.Am
open Go
set_option linter.unusedSimpArgs false
set_option linter.unusedVariables false
set_option linter.unusedSectionVars false
section
variable {P:Program} [GW P] {h:Ae} {fr:Nat→AV}
theorem Fj:Nr P h fr []=some []:=rfl
theorem Dx {a:Nat}{t:TypeId}{r:List ResultVar}{v:AV}{vs:List AV}(hv:Pj P h t (fr a)=some v)(hr:Nr P h fr r=some vs):Nr P h fr (.cell a t::r)=some (v::vs):=by simp only [Nr,hr,hv]
theorem Kn {α:Type}{e:α→List AV}{L:List α}{st n:Nat}{b:Bool}(hs:st=n):Sa P h n b (.sl st (L.map e))=some (L.map e):=by simp only [Sa,if_pos hs]
end
section
variable {P:Program} [GW P] {f:FuncId} {n:Nat} {d:FK} {β:Type} {Q:Spec β} {m:R β} {ds:List AD} {u:AU} {k:List Item} {l:List (Nat×AV)}
variable {all r:List Oper} {ty:TypeId} {pos:String} {after:Array Edge}
variable {h0:Ae} {ids:List Nat} {xs:List (Option AO)} {N:Nat}
theorem Bx {ops:List Oper}{fr:Nat→AV}{h:Ae}(i:Nat)(l':List (Nat×AV))(hk:WO P f n d Q k all m (ops.drop i) (A6 l') ds h u)(hx:WO P f n d Q k all m (ops.drop i) (A6 l') ds h u→WO P f n d Q k all m ops fr ds h u):WO P f n d Q k all m ops fr ds h u:=hx hk
section
variable {α:Type} {e:α→List AV} {L L2:List α} {v:AV} {g st j:Nat}
theorem Iu {sT xT et:TypeId}{a1 b1 a2 b2:Nat}{z1 z2:List AV}{E:TI}{s x:Operand}{K2:TK}{fr:Nat→AV}{K:AV→Ae→Prop}(hI:Ids h0 ids N)(hl:xs.length=N)(hjn:Nat.blt j N=true)
  (hs:ev fr s=v) (hv:A2 v (ix ids j) g L.length) (hj:xs[j]? = some (Ah v g st (L.map e)))
  (hxv:Sa P (hp h0 ids xs) E.size (decide (E.k=.int .u8)) (ev fr x)=some (L2.map e))
  (hS:ti P sT=some ⟨.sl et,a1,b1,z1⟩) (hX:ti P xT=some ⟨K2,a2,b2,z2⟩) (hK2:K2.many=true) (hE:ti P et=some E) (hst:st=E.size) (hsz:Nat.blt 0 E.size=true) (hby:Nat.blt 0 E.bytes=true) (hlim:(L.length+L2.length) * E.bytes≤Em)
  (hk : ∀ v' g',A2 v' (ix ids j) g' (L++L2).length→K v' (hp h0 ids (xs.set j (Ah v' g' st ((L++L2).map e))))) :
  Jc P fr (hp h0 ids xs) (.call ⟨.builtin .append,⟨[s,x]⟩,⟨[sT,xT]⟩⟩) K:=by
 have hsz':0<E.size:=by simpa using hsz
 have hby':0<E.bytes:=by simpa using hby
 simp only [Jc,Pc,Jf,List.map,Rt,hS,hX,hE,hs,hxv,hK2,hsz',hby',true_and,List.length_map]
 rcases hv with⟨rfl,hn⟩ | rfl
 ·have:L=[]:=List.length_eq_zero_iff.1 hn
  subst this
  by_cases h2:L2.length=0
  ·have:L2=[]:=List.length_eq_zero_iff.1 h2
   subst this
   simp only [List.length_nil,if_true]
   have:=hk .emp g (.inl ⟨rfl,rfl⟩)
   have e1:xs.set j (Ah .emp g st (([]++[]:List α).map e))=xs:=by
    apply List.ext_getElem?
    intro i
    rw [List.getElem?_set]
    split
    ·rename_i hq; subst hq
     split
     ·exact hj.symm
     ·rename_i hq; rw [List.getElem?_eq_none (by omega)]
    ·rfl
   rw [e1] at this
   exact this
  ·rw [if_neg h2]
   refine⟨by simpa using hlim,Y6 (ix ids j) (hI.at hl hj) fun g'=>?_⟩
   rw [hI.set hl hjn]
   have:=hk (.ref (ix ids j) g' 0 L2.length) g' (.inr (by simp))
   simp only [Ah,List.nil_append] at this
   rw [← hst]
   exact this
 ·have ha:=hI.at hl hj
  simp only [Ah] at ha
  simp only [ha]
  refine⟨trivial,hst,by simp,hlim,fun g'=>?_⟩
  rw [hI.set hl hjn]
  have:=hk (.ref (ix ids j) g' 0 (L.length+L2.length)) g' (.inr (by simp))
  simp only [Ah,List.map_append] at this
  have e1:(List.drop 0 (List.map e L)).take L.length=List.map e L:=by rw [List.drop_zero,List.take_of_length_le (by simp)]
  rw [e1]
  exact this
theorem P7 {t:Nat}{sT xT et:TypeId}{a1 b1 a2 b2:Nat}{z1 z2:List AV}{E:TI}{s x:Operand}{K2:TK}(hI:Ids h0 ids N)(hl:xs.length=N)(hjn:Nat.blt j N=true)(ht:Nat.blt t n=true)
  (hs:ev (A6 l) s=v) (hv:A2 v (ix ids j) g L.length) (hj:xs[j]? = some (Ah v g st (L.map e)))
  (hxv:Sa P (hp h0 ids xs) E.size (decide (E.k=.int .u8)) (ev (A6 l) x)=some (L2.map e))
  (hS:ti P sT=some ⟨.sl et,a1,b1,z1⟩) (hX:ti P xT=some ⟨K2,a2,b2,z2⟩) (hK2:K2.many=true) (hE:ti P et=some E) (hst:st=E.size) (hsz:Nat.blt 0 E.size=true) (hby:Nat.blt 0 E.bytes=true) (hlim:(L.length+L2.length) * E.bytes≤Em)
  (hk : ∀ v' g',A2 v' (ix ids j) g' (L++L2).length→WO P f n d Q k all m r (A6 ((t,v')::l)) ds (hp h0 ids (xs.set j (Ah v' g' st ((L++L2).map e)))) u) :
  WO P f n d Q k all m (⟨some t,.call ⟨.builtin .append,⟨[s,x]⟩,⟨[sT,xT]⟩⟩,ty,pos,after,none⟩::r) (A6 l) ds (hp h0 ids xs) u:=
 Ae7 ht (fun _ _=>rfl) fun K hK=>Iu hI hl hjn hs hv hj hxv hS hX hK2 hE hst hsz hby hlim fun v' g' hv'=>hK _ _ (hk v' g' hv')
inductive RowSim:List AV→List AV→Prop
 | nil:RowSim [] []
 | cons {a b:AV} {l l':List AV} (h:CellSim a b) (r:RowSim l l'):RowSim (a::l) (b::l')
inductive RowsSimL:List (List AV)→List (List AV)→Prop
 | nil:RowsSimL [] []
 | cons {a b:List AV} {l l':List (List AV)} (h:RowSim a b) (r:RowsSimL l l'):RowsSimL (a::l) (b::l')
theorem RowSim.refl : ∀ l:List AV,RowSim l l
 | []=>.nil
 | a::l=>.cons (.same a) (RowSim.refl l)
theorem RowSim.get {l l':List AV}(h:RowSim l l') : ∀ j,j<l.length→CellSim (l.getD j .und) (l'.getD j .und):=by
 induction h with
 | nil=>intro j hj; simp at hj
 | cons h r ih=>
  intro j hj
  cases j with
  | zero=>exact h
  | succ j=>simpa using ih j (by simpa using hj)
theorem RowsSimL.sim {α:Type}{e:α→List AV}{L:List α}{st:Nat}{rows:List (List AV)}(h:RowsSimL rows (L.map e))(hr : ∀ x,E4 st (e x))(hl : ∀ r ∈ rows,r.length=st):RowsSim st rows (L.map e):=by
 have key : ∀ {rows rows':List (List AV)},RowsSimL rows rows'→rows'.length=rows.length ∧ ∀ i,i<rows.length→RowSim (rows.getD i []) (rows'.getD i []):=by
  intro rows rows' h
  induction h with
  | nil=>exact⟨rfl,fun i hi=>by simp at hi⟩
  | cons h r ih=>
   refine⟨by simp [ih.1],fun i hi=>?_⟩
   cases i with
   | zero=>exact h
   | succ i=>simpa using ih.2 i (by simpa using hi)
 obtain⟨k1,k2⟩:=key h
 refine⟨k1,fun r hr'=>by obtain⟨x,_,rfl⟩:=List.mem_map.1 hr'; exact hr x,fun i j hi hj=>(k2 i hi).get j ?_⟩
 rw [hl _ (by rw [show rows.getD i []=rows[i] by simp [List.getD,hi]]; exact List.getElem_mem hi)]
 exact hj
theorem Mg {α:Type}{e:α→List AV}{L:List α}{st:Nat}{fr:Nat→AV}{K:AV→Ae→Prop}{sT et:TypeId}{a1 b1 c:Nat}{z1:List AV}{E:TI}{ps:List (Nat×Operand)}{h:Ae}{rows:List (List AV)}(hS:ti P sT=some ⟨.sl et,a1,b1,z1⟩)(hE:ti P et=some E)
  (hc:Nat.beq c 0=false) (hsz:Nat.blt 0 E.size=true) (hlim:Nat.ble (c * E.size) 16777216=true) (hz:E.z.all AV.flat=true) (hf:Sw E.size (List.replicate c E.z) (Sl fr ps)=some rows) (hsim:RowsSimL rows (L.map e)) (hr : ∀ x,E4 st (e x)) (hrl:rows.all (fun r=>Nat.beq r.length st)=true) (hst:st=E.size)
  (hk:K (.sl st (L.map e)) h):Jc P fr h (.buildSlice sT c ⟨ps⟩) K:=by
 have hc':c≠0:=fun q=>by rw [q] at hc; cases hc
 have hsz':0<E.size:=by simpa using hsz
 have hlim':c * E.size≤2 ^ 24:=by simpa using hlim
 simp only [Jc,Mm,hS,hE]
 rw [if_neg hc']
 refine⟨hsz',hlim',hz,?_⟩
 rw [hf]
 exact⟨L.map e,hst ▸ hsim.sim hr fun r hr'=>by simpa using List.all_eq_true.1 hrl r hr',.inl (hst ▸ hk)⟩
theorem Df {α:Type}{e:α→List AV}{L:List α}{st t:Nat}{sT et:TypeId}{a1 b1 c:Nat}{z1:List AV}{E:TI}{ps:List (Nat×Operand)}{h:Ae}{rows:List (List AV)}(ht:Nat.blt t n=true)(hS:ti P sT=some ⟨.sl et,a1,b1,z1⟩)(hE:ti P et=some E)
  (hc:Nat.beq c 0=false) (hsz:Nat.blt 0 E.size=true) (hlim:Nat.ble (c * E.size) 16777216=true) (hz:E.z.all AV.flat=true) (hf:Sw E.size (List.replicate c E.z) (Sl (A6 l) ps)=some rows) (hsim:RowsSimL rows (L.map e)) (hr : ∀ x,E4 st (e x)) (hrl:rows.all (fun r=>Nat.beq r.length st)=true) (hst:st=E.size)
  (hk:WO P f n d Q k all m r (A6 ((t,.sl st (L.map e))::l)) ds h u):WO P f n d Q k all m (⟨some t,.buildSlice sT c ⟨ps⟩,ty,pos,after,none⟩::r) (A6 l) ds h u:=
 Ae7 ht (fun _ _=>rfl) fun K hK=>Mg hS hE hc hsz hlim hz hf hsim hr hrl hst (hK _ _ hk)
theorem Aog {fr:Nat→AV}{K:AV→Ae→Prop}{sT et:TypeId}{a1 b1:Nat}{z1:List AV}{E:TI}{ln cp:Operand}{i c:Int}{ki kc:IntKind}{y:α}(hI:Ids h0 ids N)(hl:xs.length=N)(hjn:Nat.blt j N=true)(hj:xs[j]? = some none)(hS:ti P sT=some ⟨.sl et,a1,b1,z1⟩)(hE:ti P et=some E)
  (h1:ev fr ln=.int ki i) (h2:ev fr cp=.int kc c) (hi:0≤i) (hic:i≤c) (hlim:c.toNat * E.bytes≤Em) (hsz:Nat.blt 0 E.size=true) (hby:Nat.blt 0 E.bytes=true) (hz:E.z.all AV.flat=true) (hy:E.z=e y) (hst:st=E.size)
  (hk : ∀ v' g',A2 v' (ix ids j) g' (List.replicate i.toNat y).length→K v' (hp h0 ids (xs.set j (Ah v' g' st ((List.replicate i.toNat y).map e))))) :
  Jc P fr (hp h0 ids xs) (.makeSlice sT ln cp) K:=by
 have hsz':0<E.size:=by simpa using hsz
 have hby':0<E.bytes:=by simpa using hby
 simp only [Jc,Xh,hS,hE,h1,h2]
 refine⟨hsz',hby',hz,hi,hic,hlim,Y6 (ix ids j) (hI.at hl hj) fun g'=>?_⟩
 rw [hI.set hl hjn]
 have:=hk (.ref (ix ids j) g' 0 i.toNat) g' (.inr (by simp))
 simp only [Ah,List.map_replicate] at this
 rw [hy,← hst]
 exact this
theorem Arx {t:Nat}{sT et:TypeId}{a1 b1:Nat}{z1:List AV}{E:TI}{ln cp:Operand}{i c:Int}{ki kc:IntKind}{y:α}(hI:Ids h0 ids N)(hl:xs.length=N)(hjn:Nat.blt j N=true)(hj:xs[j]? = some none)(ht:Nat.blt t n=true)(hS:ti P sT=some ⟨.sl et,a1,b1,z1⟩)(hE:ti P et=some E)
  (h1:ev (A6 l) ln=.int ki i) (h2:ev (A6 l) cp=.int kc c) (hi:0≤i) (hic:i≤c) (hlim:c.toNat * E.bytes≤Em) (hsz:Nat.blt 0 E.size=true) (hby:Nat.blt 0 E.bytes=true) (hz:E.z.all AV.flat=true) (hy:E.z=e y) (hst:st=E.size)
  (hk : ∀ v' g',A2 v' (ix ids j) g' (List.replicate i.toNat y).length→WO P f n d Q k all m r (A6 ((t,v')::l)) ds (hp h0 ids (xs.set j (Ah v' g' st ((List.replicate i.toNat y).map e)))) u) :
  WO P f n d Q k all m (⟨some t,.makeSlice sT ln cp,ty,pos,after,none⟩::r) (A6 l) ds (hp h0 ids xs) u:=
 Ae7 ht (fun _ _=>rfl) fun K hK=>Aog hI hl hjn hj hS hE h1 h2 hi hic hlim hsz hby hz hy hst fun v' g' hv'=>hK _ _ (hk v' g' hv')
end
end
section
variable {P:Program} [GW P] {f:FuncId} {n:Nat} {d:FK} {β γ:Type} {Q:Spec β} {m:R β} {fr:Nat→AV} {ds:List AD} {h:Ae} {u:AU} {k:List Item} {l:List (Nat×AV)} {F:γ→R β}
def WP (P:Program)[GW P](f:FuncId)(n:Nat)(d:FK)(Q:Spec β)(k:List Item)(all:List Oper)(pre:List (List Nat))(m:R β)(plan:Jn)(pend:Tv)(fr:Nat→AV)(ds:List AD)(h:Ae)(u:AU):Prop:=
 Q.V m → ∀ (K:KT) (U:AV→KT),Going P f n d k (Q.Q m) K U→Nk P n d all pre K U plan pend fr ds h u
theorem Dh {id:Nat}{ops:List Oper}(hm:P.follows .mixedOrders=true)(pre:List (List Nat))(plan:Jn)(hp:Aif ops pre plan=true)(hx:WP P f n d Q k ops pre m plan [] fr ds h u) :
  WR P f n d Q m (.code (.region id ⟨ops⟩ true)::k) fr ds h u:=fun hb=>Asd hm pre plan hp fun K U hK=>hx hb K U hK
section
variable {all:List Oper} {pre:List (List Nat)} {plan:Jn} {pend:Tv} {ty:TypeId} {pos:String} {after:Array Edge} {i:Nat}
theorem Cw (hr:WR P f n d Q m k fr ds h u):WP P f n d Q k all pre m [] pend fr ds h u:=fun hb K U hK=>hK.run _ _ _ _ (hr hb)
theorem Af {t:Nat}{op:Op}(v:AV)(ho:all[i]? = some ⟨some t,op,ty,pos,after,none⟩)(ht:Nat.blt t n=true)(hv:E7 P (A6 l) h op=some v)(hk:WP P f n d Q k all pre m plan ((i,A6 l,v)::pend) (A6 ((t,v)::l)) ds h u) :
  WP P f n d Q k all pre m ((false,i)::plan) pend (A6 l) ds h u:=by
 intro hb K U hK
 simp only [Nk,ho]
 refine⟨by simpa [I4] using ht,?_⟩
 have e:aF P all (A6 l) h ⟨some t,op,ty,pos,after,none⟩=some v:=by simp only [aF,Gt,hv]
 rw [e]
 simp only [J8]
 exact hk hb K U hK
theorem Alk {m':R β}(e:m=m')(hr:WP P f n d Q k all pre m' plan pend fr ds h u):WP P f n d Q k all pre m plan pend fr ds h u:=e ▸ hr
theorem P3 {α:Type}{L:List α}{ii:Int}{rest:α→R γ}(hk : ∀ a,0≤ii→L[ii.toNat]? = some a→WP P f n d Q k all pre ((rest a).bind F) plan pend fr ds h u):WP P f n d Q k all pre (((E3 L ii).bind rest).bind F) plan pend fr ds h u:=by
 refine Alk (R.bind_assoc _ _ _) fun hb=>?_
 unfold E3 at hb ⊢
 by_cases h0:0≤ii
 ·rw [if_pos h0] at hb ⊢
  cases hq:L[ii.toNat]? with
  | none=>rw [hq] at hb; exact absurd hb Q.bad
  | some a=>rw [hq] at hb; exact hk a h0 hq hb
 ·rw [if_neg h0] at hb; exact absurd hb Q.bad
theorem K1 {p:Prop}[Decidable p]{rest:R γ}(hk:p→WP P f n d Q k all pre (rest.bind F) plan pend fr ds h u):WP P f n d Q k all pre ((if p then rest else .bad).bind F) plan pend fr ds h u:=by
 intro hb
 by_cases hp:p
 ·rw [if_pos hp] at hb ⊢; exact hk hp hb
 ·rw [if_neg hp] at hb; exact absurd hb Q.bad
end
end
section
variable {P:Program} [GW P] {t:TypeId}
theorem Akc {k k':IntKind}{a b:Int}(hk:k=k')(hb:b≠0):Pd P .rem t (.int k a) (.int k' b)=some (.int k (a.tmod b)):=by simp only [Pd,if_pos (And.intro hk hb)]
theorem Adu {v:AV}{s by' t':Nat}{z:List AV}(hT:ti P t=some ⟨.ifc,s,by',z⟩):Pd P .neq t (.iface t' v) .nili=some (.bool true):=by simp only [Pd,Sq,hT,Option.map_some]; rfl
end
end Go.Am
namespace Go.Am
open Go
set_option linter.unusedSimpArgs false
set_option linter.unusedVariables false
set_option linter.unusedSectionVars false
theorem Bl.weak {P:Program}[GW P]{g:FuncId}{args args':List AV}{h:Ae}{Q:AR→Ae→Prop}(hz:LF h h args args')(hc:Bl P g args' h Q):Bl P g args h Q:=by
 refine⟨hc.1,fun B mu w cargs s ha=>hc.2 B mu w cargs s ⟨hz.all.1 ▸ ha.1,fun i hi=>?_⟩⟩
 have hi':i<args.length:=by rw [hz.all.1]; exact hi
 exact Rk s (Nm.refl _) (hz.all.2 i hi') (ha.2 i hi')
def AV.isAgg:AV→Bool
 | .agg _=>true
 | _=>false
theorem Y5 {P:Program}[GW P]{o:BinOp}{t:TypeId}{x y:Operand}{a b:AV}(ha:a.isAgg=true)(hb:b.isAgg=true)(he:Wz P t=true):Mj P o t x y a b=true:=by
 cases a <;> simp [AV.isAgg] at ha
 cases b <;> simp [AV.isAgg] at hb
 cases o <;> simp [Mj,he]
def Ask {α:Type}(st:Nat)(e:α→List AV)(h:Ae)(o:Nat)(m:R (List α)):AR→Ae→Prop:=fun r h'=>match m with
 | .ok a => ∃ v g,r=.ret v∧A2 v o g a.length∧h'=upd h o (Ah v g st (a.map e))
 | .pan v=>r=.panic v.av∧h'=h
 | .bad=>False
def CPO {α:Type}(P:Program)[GW P](g:FuncId)(args:List AV)(m:R (List α))(st:Nat)(e:α→List AV):Prop := ∀ h o,h o=none→m≠.bad→Bl P g args h (Ask st e h o m)
section
variable {P:Program} [GW P] {f:FuncId} {n:Nat} {d:FK} {β γ:Type} {Q:Spec β} {m:R β} {fr:Nat→AV} {ds:List AD} {h:Ae} {u:AU} {k:List Item} {l:List (Nat×AV)} {F:γ→R β}
variable {all:List Oper} {pre:List (List Nat)} {plan:Jn} {pend:Tv} {ty:TypeId} {pos:String} {after:Array Edge} {i:Nat}
theorem B8:M9 P all pre i h []:=trivial
theorem Ag {j:Nat}{v:AV}(hc:cl pre i j=true)(hr:M9 P all pre i h pend):M9 P all pre i h ((j,fr,v)::pend):=⟨by rw [if_pos hc]; trivial,hr⟩
theorem Bv {j t:Nat}{v:AV}{op:Op}(ho:all[j]? = some ⟨some t,op,ty,pos,after,none⟩)(hv:E7 P fr h op=some v)(hr:M9 P all pre i h pend):M9 P all pre i h ((j,fr,v)::pend):=by
 refine⟨?_,hr⟩
 split
 ·trivial
 ·rw [ho]; simp only [aF,Gt,hv]
theorem Aer {o:Oper}(ho:all[i]? = some o)(hd:I4 n o.dst=true)(hw:Gt all fr o=some true)
  (hx:Q.V m → ∀ (K:AV→List AD→Ae→AU→Prop) (U:AV→KT),(∀ v ds' h' u',M9 P all pre i h' pend→WP P f n d Q k all pre m plan pend (Im fr o.dst v) ds' h' u'→K v ds' h' u') →
   (∀ v fr ds h u,(∀ fr',(∀ t,(all.any fun o=>o.dst==some t)=false→fr' t=fr t)→Te P f n d (.pan v false) fr' ds h u (Q.Q m))→U v fr ds h u)→Lb P d U fr ds h u o.op K):WP P f n d Q k all pre m ((true,i)::plan) pend fr ds h u:=by
 intro hb K U hK
 simp only [Nk,ho]
 refine⟨hd,?_⟩
 rw [hw]
 exact hx hb _ _ (fun v ds' h' u' hp hk=>⟨hp,hk hb K U hK⟩) (fun v fr ds h u hu fr' hf=>hK.unw _ _ _ _ _ (hu fr' fun t ht=>hf t fun o ho hq=>by
  have:=List.any_eq_false.1 ht o ho
  simp [hq] at this))
theorem Jp {t:Nat}{op:Op}(ho:all[i]? = some ⟨some t,op,ty,pos,after,none⟩)(ht:Nat.blt t n=true)(h1 : ∀ (K:AV→List AD→Ae→AU→Prop) (U:AV→KT),Lb P d U (A6 l) ds h u op K=Jc P (A6 l) h op (fun v h'=>K v ds h' u))
  (hx : ∀ K:AV→Ae→Prop,(∀ v h',M9 P all pre i h' pend→WP P f n d Q k all pre m plan pend (A6 ((t,v)::l)) ds h' u→K v h')→Jc P (A6 l) h op K) :
  WP P f n d Q k all pre m ((true,i)::plan) pend (A6 l) ds h u:=
 Aer ho (by simpa [I4] using ht) rfl fun hb K U hK hU=>by
  rw [h1]
  exact hx _ fun v h' hp hw=>hK _ _ _ _ hp (by rw [J8]; exact hw)
theorem Gx {op:Op}(ho:all[i]? = some ⟨none,op,ty,pos,after,none⟩)(h1 : ∀ (K:AV→List AD→Ae→AU→Prop) (U:AV→KT),Lb P d U (A6 l) ds h u op K=Jc P (A6 l) h op (fun v h'=>K v ds h' u))
  (hx : ∀ K:AV→Ae→Prop,(∀ v h',M9 P all pre i h' pend→WP P f n d Q k all pre m plan pend (A6 l) ds h' u→K v h')→Jc P (A6 l) h op K) :
  WP P f n d Q k all pre m ((true,i)::plan) pend (A6 l) ds h u:=
 Aer ho rfl rfl fun hb K U hK hU=>by
  rw [h1]
  exact hx _ fun v h' hp hw=>hK _ _ _ _ hp hw
theorem Xq {α:Type}{t:Nat}{x:Operand}{as0:List Operand}{ts:Array TypeId}{g:FuncId}{fst cap:List AV}{gd:Option (Nat×Bool)}(A:List AV){mg:R α}{e:α→AV}{rest:α→R γ}(ho:all[i]? = some ⟨some t,.call ⟨.value x,⟨as0⟩,ts⟩,ty,pos,after,gd⟩)(hw:Gt all (A6 l) ⟨some t,.call ⟨.value x,⟨as0⟩,ts⟩,ty,pos,after,gd⟩=some true)(ht:Nat.blt t n=true)(hx:ev (A6 l) x=.func (.func g) fst cap)
  (ha:fst++Jf (A6 l) as0++cap=A) (hc:mg≠.bad→Bl P g A h (Aas e h mg)) (hp : ∀ v,mg=.pan v → ∀ fr,(∀ t,(all.any fun o=>o.dst==some t)=false→fr t=A6 l t)→WU P f n d Q (.pan v) (.pan v.av false) fr ds h u) (hpd:M9 P all pre i h pend) (hk : ∀ a,mg=.ok a→WP P f n d Q k all pre ((rest a).bind F) plan pend (A6 ((t,e a)::l)) ds h u) :
  WP P f n d Q k all pre ((mg.bind rest).bind F) ((true,i)::plan) pend (A6 l) ds h u:=by
 refine Alk (R.bind_assoc _ _ _) (Aer ho (by simpa [I4] using ht) hw fun hb K U hK hU=>?_)
 simp only [Lb,hx]
 rw [ha]
 have hmb:mg≠.bad:=fun q=>by rw [q] at hb; exact Q.bad hb
 refine(hc hmb).mono fun r' h' hr=>?_
 obtain⟨rfl,hr⟩:=hr
 cases hm:mg with
 | bad=>exact absurd hm hmb
 | ok a=>
  rw [hm] at hr hb hK
  subst hr
  exact hK _ _ _ _ hpd (by rw [J8]; exact hk a hm)
 | pan v=>
  rw [hm] at hr hb hU
  subst hr
  exact hU _ _ _ _ _ (fun fr' hf=>hp v hm fr' hf hb)
theorem Fh {t j tj:Nat}{want:Bool}{op:Op}(v:AV)(ho:all[i]? = some ⟨some t,op,ty,pos,after,some (j,want)⟩)(hj:(all[j]?).bind (·.dst)=some tj)(hg:A6 l tj=.bool want)(ht:Nat.blt t n=true)(hv:E7 P (A6 l) h op=some v)
  (hk:WP P f n d Q k all pre m plan ((i,A6 l,v)::pend) (A6 ((t,v)::l)) ds h u):WP P f n d Q k all pre m ((false,i)::plan) pend (A6 l) ds h u:=by
 intro hb K U hK
 simp only [Nk,ho]
 refine⟨by simpa [I4] using ht,?_⟩
 have e:aF P all (A6 l) h ⟨some t,op,ty,pos,after,some (j,want)⟩=some v:=by simp only [aF,Vv hj hg,beq_self_eq_true,hv]
 rw [e]
 simp only [J8]
 exact hk hb K U hK
theorem Ec {t j tj:Nat}{want b:Bool}{op:Op}(ho:all[i]? = some ⟨some t,op,ty,pos,after,some (j,want)⟩)(hj:(all[j]?).bind (·.dst)=some tj)(hg:A6 l tj=.bool b)(hne:(b==want)=false)(ht:Nat.blt t n=true)
  (hk:WP P f n d Q k all pre m plan ((i,A6 l,.und)::pend) (A6 ((t,.und)::l)) ds h u):WP P f n d Q k all pre m ((false,i)::plan) pend (A6 l) ds h u:=by
 intro hb K U hK
 simp only [Nk,ho]
 refine⟨by simpa [I4] using ht,?_⟩
 have e:aF P all (A6 l) h ⟨some t,op,ty,pos,after,some (j,want)⟩=some .und:=by simp only [aF,Vv hj hg,hne]
 rw [e]
 simp only [J8]
 exact hk hb K U hK
theorem Aoe {o:Oper}(ho:all[i]? = some o)(hd:I4 n o.dst=true)(hw:Gt all fr o=some false)(hk:WP P f n d Q k all pre m plan pend (Im fr o.dst .und) ds h u):WP P f n d Q k all pre m ((true,i)::plan) pend fr ds h u:=by
 intro hb K U hK
 simp only [Nk,ho]
 refine⟨hd,?_⟩
 rw [hw]
 exact hk hb K U hK
theorem Z9 {t j tj:Nat}{want b:Bool}{op:Op}(ho:all[i]? = some ⟨some t,op,ty,pos,after,some (j,want)⟩)(hj:(all[j]?).bind (·.dst)=some tj)(hg:A6 l tj=.bool b)(hne:(b==want)=false)(ht:Nat.blt t n=true)
  (hk:WP P f n d Q k all pre m plan pend (A6 ((t,.und)::l)) ds h u):WP P f n d Q k all pre m ((true,i)::plan) pend (A6 l) ds h u:=
 Aoe ho (by simpa [I4] using ht) (by rw [Vv hj hg,hne]) (by rw [J8]; exact hk)
theorem Kf {b:Bool}{A B:R γ}(ht:b=true→WP P f n d Q k all pre (A.bind F) plan pend fr ds h u)(hf:b=false→WP P f n d Q k all pre (B.bind F) plan pend fr ds h u):WP P f n d Q k all pre ((if b then A else B).bind F) plan pend fr ds h u:=by
 intro hb
 cases hq:b with
 | true=>simp only [hq,if_true] at hb ⊢; exact ht hq hb
 | false=>simp only [hq,Bool.false_eq_true,if_false] at hb ⊢; exact hf hq hb
end
section
variable {P:Program} [GW P] {f:FuncId} {n:Nat} {α:Type} {m:R (List α)} {e:α→List AV} {st:Nat}
theorem CPO.cp {args:List AV}(hc:CPO P f args m st e)(hr : ∀ x,E4 st (e x)):CP P f args m (fun a=>.sl st (a.map e)):=by
 intro h hb
 have hbody:Td P f:=by
  have:=hc hE 0 rfl hb
  exact this.1
 refine⟨hbody,fun B mu w cargs s ha=>?_⟩
 obtain⟨o,ho⟩ : ∃ o,h o=none:=by
  obtain⟨N,hN⟩:=s.finh
  exact⟨N,hN N (Nat.le_refl _)⟩
 have:=(hc h o ho hb).drop (Q':=fun r h'=>Aas (fun a=>AV.sl st (a.map e)) h m r h'∨Ask st e h o m r h') (fun r h' hq=>⟨h',Nm.refl _,.inr hq⟩)
 refine((hc h o ho hb).2 B mu w cargs s ha).mono ?_
 rintro en w' ⟨r,h',mu',hq,hs,hext,hE'⟩
 cases hm:m with
 | bad=>exact absurd hm hb
 | pan v=>
  rw [hm] at hq
  obtain⟨rfl,rfl⟩:=hq
  exact⟨_,h',mu',⟨rfl,rfl⟩,hs,hext,hE'⟩
 | ok a=>
  rw [hm] at hq
  obtain⟨v,g,rfl,hv,rfl⟩:=hq
  have hsub:Nm h (upd h o (Ah v g st (a.map e))):=Ako ho
  have hfz:Fz (upd h o (Ah v g st (a.map e))) h v (.sl st (a.map e)):=Fx hv (by simp [upd]) ho hr
  refine⟨.ret (.sl st (a.map e)),h,mu',⟨rfl,rfl⟩,hs.sub hsub,hext.trans (Hp.sub hsub),?_⟩
  cases en with
  | returned c=>exact Rk hs hsub hfz hE'
  | panicked _=>exact hE'.elim
  | outgrown=>exact hE'.elim
end
structure KeyE (T:TK){K:Type}[DecidableEq K](eK:K→AV):Prop where
 ok : ∀ k,Yw T (eK k)=true
 eq : ∀ a b,V4 T (eK a) (eK b)=some (decide (a=b))
theorem Fz.ptrL {h h2:Ae}{o g st c:Nat}{row row':List AV}(ho:h o=some (.rows g st [row]))(h2o:h2 o=none)(hl:row'.length=st)(hx:LF h h2 row row'):Fz h h2 (.ptr o g 0 c) (.cp row' c):=
 .ptr o g 0 c st [row] row' ho h2o (by simp) hl (fun j hj=>by
  have:=hx.all.2 j (by rw [hx.all.1,hl]; exact hj)
  simpa [cell] using this)
theorem A2.flat {v:AV}{o g n:Nat}(h:A2 v o g n):v.flat=true:=by rcases h with⟨rfl,_⟩ | rfl <;> rfl
theorem A2.ok {v:AV}{o g n:Nat}(h:A2 v o g n):v.ok=true:=by rcases h with⟨rfl,_⟩ | rfl <;> rfl
theorem A2.cells {v:AV}{o g n:Nat}(h:A2 v o g n):v.cells=[v]:=by rcases h with⟨rfl,_⟩ | rfl <;> rfl
theorem Jl {P:Program}[GW P]{h0:Ae}{ids:List Nat}{xs:List (Option AO)}{N:Nat}{t:TypeId}{T:TI}{g st rr c j o g' n':Nat}{rs:List (List AV)}{row:List AV}{v:AV}(hv:A2 v o g' n')(hI:Ids h0 ids N)(hl:xs.length=N)(hjn:Nat.blt j N=true)(hj:xs[j]? = some (some (.rows g st rs)))(hr:rs[rr]? = some row)(hT:ti P t=some T)
  (hlen:Nat.beq 1 T.size=true) (hc:Nat.ble (c+T.size) st=true) (hrl:row.length=st) :
  Sh P (hp h0 ids xs) t (.ptr (ix ids j) g rr c) v=some (hp h0 ids (xs.set j (some (.rows g st (rs.set rr (X7 row c [v])))))):=by
 have:=A0 (P:=P) (v:=v) hI hl hjn hj hr hT hv.ok (by rw [hv.cells]; exact Nat.eq_of_beq_eq_true hlen) hc hrl (by rw [hv.cells]; simp [hv.flat])
 rw [hv.cells] at this
 exact this
theorem X5:([]:List AV).all AV.flat=true:=rfl
theorem C2 {a:AV}{l:List AV}(h:a.flat=true)(hl:l.all AV.flat=true):(a::l).all AV.flat=true:=by simp [h,hl]
end Go.Am
namespace Go.Am
open Go
set_option linter.unusedSimpArgs false
set_option linter.unusedVariables false
set_option linter.unusedSectionVars false
section
variable {P:Program} [GW P] {f:FuncId} {n:Nat} {d:FK} {β:Type} {Q:Spec β} {m:R β} {ds:List AD} {h:Ae} {u:AU} {k:List Item} {l:List (Nat×AV)}
variable {all r:List Oper} {ty:TypeId} {pos:String} {after:Array Edge}
theorem Ah4 {dst:Option Tmp}{x:Operand}{as0:List Operand}{ts:Array TypeId}{g:FuncId}{fst cap A:List AV}(hdst:dst=none)(hx:ev (A6 l) x=.func (.func g) fst cap)(ha:fst++Jf (A6 l) as0++cap=A)(hk:WO P f n d Q k all m r (A6 l) (⟨g,A⟩::ds) h u)(hro:d.ro=none:=by rfl)(hnc:AD.isStar ⟨g,A⟩=false:=by rfl) :
  WO P f n d Q k all m (⟨dst,.defer ⟨.value x,⟨as0⟩,ts⟩,ty,pos,after,none⟩::r) (A6 l) ds h u:=by
 subst hdst
 refine Q5 rfl rfl fun hb K U hK hU=>?_
 simp only [Lb,hx]
 rw [ha]
 exact⟨hro,hnc,hK _ _ _ _ hk⟩
theorem Akz {t:Nat}{as0 ts:Array _}{v:AV}(ht:Nat.blt t n=true)(hk:WO P f n true Q k all m r (A6 ((t,v)::l)) ds h (.pan v true)):WO P f n true Q k all m (⟨some t,.call ⟨.builtin .recover,as0,ts⟩,ty,pos,after,none⟩::r) (A6 l) ds h (.pan v false):=
 Q5 (by simpa [I4] using ht) rfl fun hb K U hK hU=>⟨rfl,hK _ _ _ _ (by rw [J8]; exact hk)⟩
theorem Akd {t:Nat}{as0 ts:Array _}(ht:Nat.blt t n=true)(hk:WO P f n true Q k all m r (A6 ((t,.nili)::l)) ds h .ret):WO P f n true Q k all m (⟨some t,.call ⟨.builtin .recover,as0,ts⟩,ty,pos,after,none⟩::r) (A6 l) ds h .ret:=
 Q5 (by simpa [I4] using ht) rfl fun hb K U hK hU=>⟨rfl,hK _ _ _ _ (by rw [J8]; exact hk)⟩
end
def Alr {γ:Type}(e:γ→Ae)(u':AU):Spec γ:=⟨fun m => ∃ a,m=.ok a,fun h=>(by obtain⟨a,h⟩:=h; cases h),fun m r h' u => ∃ a,m=.ok a∧r=.ret (.tup [])∧h'=e a∧u=u'⟩
abbrev Ab9 {γ:Type}(e:γ→Ae)(u':AU)(m:R γ):QT:=fun r h' u => ∃ a,m=.ok a∧r=.ret (.tup [])∧h'=e a∧u=u'
section
variable {P:Program} [GW P] {f:FuncId} {n:Nat} {γ:Type} {m:R γ} {e:γ→Ae} {u u':AU} {h:Ae} {l:List (Nat×AV)} {k:List Item}
theorem Ads {fn : Func} {c : Code} {args : List AV} (hf : P.funcs[f]? = some fn) (hb : fn.body = some c) (hn : fn.name ≠ "runtime.NumGoroutine") (hnt : fn.ntmps = n) (hl : Nat.ble args.length n = true)
  (hr : WR P f n true (Alr e u') m [.code c] (A6 (Aaw 0 args)) [] h u) : (∃ a, m = .ok a) → P4 P f args u h (Ab9 e u' m) := by
 intro hm
 refine Adk hf hb hn hnt (by simpa using hl) ?_
 refine Ti (fun t => ?_) (hr hm)
 rcases Uw args 0 t with h | ⟨_, h⟩
 ·exact .inl h
 ·exact .inr h
theorem Acv {fn:Func}{a:γ}(hf:P.funcs[f]? = some fn)(hr:fn.results.toList=[])(hh:h=e a)(hu:u=u'):WR P f n true (Alr e u') (.ok a) [] (A6 l) [] h u:=fun _=>
 Afw (Arm hf (vs:=[]) (by rw [hr]; rfl) ⟨a,rfl,rfl,hh,hu⟩)
end
def Q3 {α:Type}(e:α→AV)(h:Ae)(hdl:PV→R α):Spec α:=⟨fun m=>m.catch' hdl≠.bad,fun h=>h rfl,fun m r h' _=>Aas e h (m.catch' hdl) r h'⟩
section
variable {P:Program} [GW P] {f:FuncId} {n:Nat} {α:Type} {e:α→AV} {hdl:PV→R α} {h0:Ae} {ids:List Nat} {N:Nat} {xs:List (Option AO)} {l:List (Nat×AV)} {k:List Item}
theorem Agy {fn : Func} {c : Code} {args : List AV} {m : R α} (N : Nat) (hf : P.funcs[f]? = some fn) (hb : fn.body = some c) (hn : fn.name ≠ "runtime.NumGoroutine") (hnt : fn.ntmps = n) (hl : Nat.ble args.length n = true)
  (hr : ∀ (h0 : Ae) (ids : List Nat), Ids h0 ids N → WR P f n false (Q3 e h0 hdl) m [.code c] (A6 (Aaw 0 args)) [] (hp h0 ids (List.replicate N none)) .ret) : CP P f args (m.catch' hdl) e := by
 intro h hb'
 refine Zl hf hb hn hnt (by simpa using hl) ?_
 refine Acw N [] fun os h1 h2 h3 h4 => ?_
 have := hr h os ⟨h2, h3, h1⟩ hb'
 rw [Ut h3] at this
 refine Ti (fun t => ?_) this
 rcases Uw args 0 t with h | ⟨_, h⟩
 ·exact .inl h
 ·exact .inr h
theorem Ak1 {fn:Func}{a:α}{vs A:List AV}{g:FuncId}(hf:P.funcs[f]? = some fn)(hI:Ids h0 ids N)(hc:P4 P g A .ret (hp h0 ids xs) (Ab9 (fun _:Unit=>hp h0 ids xs) .ret (.ok ())))
  (hr:Nr P (hp h0 ids xs) (A6 l) fn.results.toList=some vs) (hz:Fz (hp h0 ids xs) h0 (Md vs) (e a)) (hnc:AD.isStar ⟨g,A⟩=false:=by rfl) :
  WR P f n false (Q3 e h0 hdl) (.ok a) (.code .ret::k) (A6 l) [⟨g,A⟩] (hp h0 ids xs) .ret:=fun _=>
 Acx (Aga (hc.mono fun r h' u hq=>by
  obtain⟨_,_,rfl,rfl,rfl⟩:=hq
  exact X0 hf hr (hI.sub xs) hz rfl ⟨rfl,rfl⟩) hnc)
theorem Aky {h0:Ae} : ∀ (ids:List Nat) (xs:List (Option AO)) (c:Nat),ids.length=xs.length→(∀ o ∈ ids,h0 o=none)→ids.Nodup→Nm (hp h0 (ids.take c) (xs.take c)) (hp h0 ids xs)
 | [],[],c,_,_,_=>by simp [hp]; exact Nm.refl _
 | a::ids,x::xs,0,hl,hf,hn=>by
  simp only [List.take_zero,hp]
  intro o y hy
  have hne:o ∉ a::ids:=fun hm=>by rw [hf o hm] at hy; cases hy
  simp only [List.mem_cons,not_or] at hne
  rw [Aib _ _ _ hne.1,Tu hne.2]
  exact hy
 | a::ids,x::xs,c+1,hl,hf,hn=>by
  simp only [List.take_succ_cons,hp]
  exact Nm.upd (Aky ids xs c (by simpa using hl) (fun o ho=>hf o (List.mem_cons_of_mem _ ho)) (List.nodup_cons.1 hn).2) a x
theorem Ids.take {ids:List Nat}(hI:Ids h0 ids N){c:Nat}(hc:Nat.ble c N=true):Ids h0 (ids.take c) c:=
 ⟨hI.nodup.sublist (List.take_sublist _ _),fun o ho=>hI.fresh o (List.mem_of_mem_take ho),by
  have:c≤N:=by simpa using hc
  rw [List.length_take,hI.len]; omega⟩
theorem Ow {ids:List Nat}{c j:Nat}(hj:Nat.blt j c=true):ix (ids.take c) j=ix ids j:=by
 have:j<c:=by simpa using hj
 simp [ix,List.getD,List.getElem?_take,this]
theorem Ahj {γ:Type}{Hc:R γ}{fin:γ→α}{fn:Func}{v:PV}{fr:Nat→AV}{A:List AV}{g:FuncId}{c:Nat}{ys:List (Option AO)}{cells:γ→List (Option AO)}{vs:γ→List AV}(hf:P.funcs[f]? = some fn)(hI:Ids h0 ids N)(hl:xs.length=N)(hc:Nat.ble c N=true)(hys:xs.take c=ys)
  (hh:hdl v=Hc.bind fun x=>.ok (fin x)) (hd:(∃ x,Hc=.ok x)→P4 P g A (.pan v.av false) (hp h0 (ids.take c) ys) (Ab9 (fun x=>hp h0 (ids.take c) (cells x)) (.pan v.av true) Hc)) (hno : ∀ w,Hc≠.pan w)
  (hr : ∀ x,Nr P (hp h0 (ids.take c) (cells x)) fr fn.results.toList=some (vs x)) (hz : ∀ x,Fz (hp h0 (ids.take c) (cells x)) h0 (Md (vs x)) (e (fin x))) (hnc:AD.isStar ⟨g,A⟩=false:=by rfl) :
  WU P f n false (Q3 e h0 hdl) (.pan v) (.pan v.av false) fr [⟨g,A⟩] (hp h0 ids xs) .ret:=by
 intro hV
 have hV':hdl v≠.bad:=hV
 cases hq:Hc with
 | bad=>rw [hh,hq] at hV'; exact absurd rfl hV'
 | pan w=>exact absurd hq (hno w)
 | ok x=>
  have hsub:Nm (hp h0 (ids.take c) ys) (hp h0 ids xs):=by rw [← hys]; exact Aky ids xs c (hI.len.trans hl.symm) hI.fresh hI.nodup
  have key:Te P f n false (.pan v.av false) fr [⟨g,A⟩] (hp h0 (ids.take c) ys) .ret ((Q3 e h0 hdl).Q (.pan v)):=by
   refine Aga ((hd ⟨x,hq⟩).mono fun r h' u2 hx=>?_) hnc
   obtain⟨y,hy,rfl,rfl,rfl⟩:=hx
   rw [hq] at hy
   cases hy
   refine X0 hf (hr x) ((hI.take hc).sub _) (hz x) rfl ?_
   show Aas e h0 (hdl v) _ _
   rw [hh,hq]
   exact⟨rfl,rfl⟩
  intro B mu w a cs todo mode p hm
  exact(key B mu w a cs todo mode (p.ext (Hp.sub hsub) (p.sim.sub hsub)) (hm.ext (Hp.sub hsub))).ext (Hp.sub hsub)
end
def O1 {α:Type}(t:TypeId)(k:IntKind)(F:Int→R α)(els:PV→R α):PV→R α:=fun v=>if v.t=t then(match v.x with | .int k' n=>if k'=k then F n else .bad | _=>.bad) else els v
def O0 {α:Type}(t:TypeId)(k1 k2:IntKind)(F:Int→Int→R α)(els:PV→R α):PV→R α:=fun v=>if v.t=t then(match v.x with | .two q1 q2 a b=>if q1=k1∧q2=k2 then F a b else .bad | _=>.bad) else els v
section
variable {P:Program} [GW P] {f:FuncId} {n:Nat} {d:FK} {α:Type} {e:α→AV} {hdl:PV→R α} {h0 h:Ae} {fr:Nat→AV} {ds:List AD} {u:AU} {v:PV} {a a':AU}
theorem Aum {t:TypeId}{k:IntKind}{F:Int→R α}{els:PV→R α}(hh:hdl=O1 t k F els)(h1 : ∀ n',v=⟨t,.int k n'⟩→WU P f n d (Q3 e h0 hdl) (.pan v) a fr ds h u)(h2:v.t≠t→WU P f n d (Q3 e h0 hdl) (.pan v) a fr ds h u) :
  WU P f n d (Q3 e h0 hdl) (.pan v) a fr ds h u:=by
 intro hV
 by_cases hv:v.t=t
 ·obtain⟨vt,vx⟩:=v
  simp only at hv
  subst hv
  have hV':hdl ⟨vt,vx⟩≠.bad:=hV
  rw [hh] at hV'
  cases vx with
  | int k' n'=>
   by_cases hk:k'=k
   ·subst hk; exact h1 n' rfl hV
   ·simp [O1,hk] at hV'
  | str s=>simp [O1] at hV'
  | bool b=>simp [O1] at hV'
  | unit=>simp [O1] at hV'
  | two k1 k2 a b=>simp [O1] at hV'
  | one k a=>simp [O1] at hV'
 ·exact h2 hv hV
theorem Auy {t:TypeId}{k1 k2:IntKind}{F:Int→Int→R α}{els:PV→R α}(hh:hdl=O0 t k1 k2 F els)(h1 : ∀ a b,v=⟨t,.two k1 k2 a b⟩→WU P f n d (Q3 e h0 hdl) (.pan v) a' fr ds h u)(h2:v.t≠t→WU P f n d (Q3 e h0 hdl) (.pan v) a' fr ds h u) :
  WU P f n d (Q3 e h0 hdl) (.pan v) a' fr ds h u:=by
 intro hV
 by_cases hv:v.t=t
 ·obtain⟨vt,vx⟩:=v
  simp only at hv
  subst hv
  have hV':hdl ⟨vt,vx⟩≠.bad:=hV
  rw [hh] at hV'
  cases vx with
  | int k' n'=>simp [O0] at hV'
  | str s=>simp [O0] at hV'
  | bool b=>simp [O0] at hV'
  | unit=>simp [O0] at hV'
  | one k a=>simp [O0] at hV'
  | two q1 q2 x y=>
   by_cases hk:q1=k1∧q2=k2
   ·obtain⟨rfl,rfl⟩:=hk; exact h1 x y rfl hV
   ·simp [O0,hk] at hV'
 ·exact h2 hv hV
theorem Ap0 (hh:hdl v=.bad):WU P f n d (Q3 e h0 hdl) (.pan v) a fr ds h u:=fun hV=>absurd hh hV
end
theorem Am5 {α:Type}{t:TypeId}{k:IntKind}{F:Int→R α}{els:PV→R α}{v:PV}(h:v.t≠t):O1 t k F els v=els v:=by simp [O1,h]
theorem Am1 {α:Type}{t:TypeId}{k1 k2:IntKind}{F:Int→Int→R α}{els:PV→R α}{v:PV}(h:v.t≠t):O0 t k1 k2 F els v=els v:=by simp [O0,h]
theorem Agw {α:Type}{t:TypeId}{k1 k2:IntKind}{F:Int→Int→R α}{els:PV→R α}{a b:Int}:O0 t k1 k2 F els ⟨t,.two k1 k2 a b⟩=F a b:=by simp [O0]
theorem Agx {α:Type}{t:TypeId}{k:IntKind}{F:Int→R α}{els:PV→R α}{n:Int}:O1 t k F els ⟨t,.int k n⟩=F n:=by simp [O1]
theorem Af9 : ∀ (row cs:List AV),row.length=cs.length→Xj row cs=cs
 | [],[],_=>rfl
 | a::row,c::cs,h=>by simp [Xj,Af9 row cs (by simpa using h)]
theorem Xt {P:Program}[GW P]{h0:Ae}{ids:List Nat}{xs:List (Option AO)}{N:Nat}{t:TypeId}{T:TI}{g st j:Nat}{row:List AV}{v:AV}(hI:Ids h0 ids N)(hl:xs.length=N)(hjn:Nat.blt j N=true)(hj:xs[j]? = some (some (.rows g st [row])))(hT:ti P t=some T)
  (hok:v.ok=true) (hlen:v.cells.length=T.size) (hc:Nat.beq T.size st=true) (hrl:row.length=st) (hfl:v.cells.all AV.flat=true) :
  Sh P (hp h0 ids xs) t (.ptr (ix ids j) g 0 0) v=some (hp h0 ids (xs.set j (some (.rows g st [v.cells])))):=by
 have hs:=Nat.eq_of_beq_eq_true hc
 have:=A0 (P:=P) (rr:=0) (c:=0) (v:=v) hI hl hjn hj rfl hT hok hlen (by rw [Nat.zero_add,hs]; simp) hrl hfl
 rw [this]
 have e:X7 row 0 v.cells=v.cells:=by
  have:=Af9 row v.cells (by rw [hrl,hlen,hs])
  cases row <;> simpa [X7] using this
 rw [e]
 rfl
theorem R5 {P:Program}[GW P]{h:Ae}{fr:Nat→AV}{a:Nat}{t:TypeId}{r:List ResultVar}{v w:AV}{vs:List AV}(e:fr a=w)(hv:Pj P h t w=some v)(hr:Nr P h fr r=some vs):Nr P h fr (.cell a t::r)=some (v::vs):=Dx (by rw [e]; exact hv) hr
theorem Xm {P:Program}[GW P]{h0:Ae}{ids:List Nat}{xs:List (Option AO)}{n j:Nat}{o:Nat}{t:TypeId}{T:TI}{g st r c:Nat}{rs:List (List AV)}{row:List AV}{v:AV}(hI:Ids h0 ids n)(ho:ix ids j=o)(hl:xs.length=n)(hj:xs[j]? = some (some (.rows g st rs)))(hr:rs[r]? = some row)(hT:ti P t=some T)(hv:Lj row c T.size T.k.agg=some v) :
  Pj P (hp h0 ids xs) t (.ptr o g r c)=some v:=by rw [← ho]; exact Bh hI hl hj hr hT hv
theorem Afd {P:Program}[GW P]{t:TypeId}{s by':Nat}{z:List AV}(hT:ti P t=some ⟨.ifc,s,by',z⟩):Pd P .neq t .nili .nili=some (.bool false):=by simp only [Pd,Sq,hT,Option.map_some]; rfl
end Go.Am
namespace Go.Am
open Go Go.ChangeShapes Go.WideShapes Go.RowKit
set_option linter.unusedVariables false
set_option linter.unusedSectionVars false
set_option linter.unusedSimpArgs false
abbrev mu0:Mu:=fun _ _=>none
abbrev M0:Nat→Prop:=fun _=>False
def LR (w:World)(l:List AV)(cs:List Value):Prop:=l.length=cs.length ∧ ∀ i,i<l.length→Rv w mu0 M0 (l.getD i .und) (cs.getD i undef)
structure Bulk {H:Type}(bk:DataW H→Nat)(bks:List (DataW H)→Nat):Prop where
 one : ∀ d,1≤bk d
 str : ∀ l,bk (.lit (.string l))=l.length+1
 sl : ∀ e s,bks e+1≤bk (.slice e s)
 agg : ∀ l,bk (.agg l)=bks l+1
 nil:bks []=0
 cons : ∀ d l,bks (d::l)=bk d+bks l
structure Ty (τ:Type) where
 e:τ→List AV
 good:τ→Prop
 bulk:τ→Nat
section
variable {P:Program} [GW P]
def H4 {τ:Type}(P:Program)[GW P](t:TypeId)(T:Ty τ):Prop:=
 ∀ {H:Type} (enc:TypeId×Value→H) (w:World) (sp:Nat→Bool) (held:Bool) (fuel:Nat) (cs:List Value) (x:DataW H×List MemPlace) (bk:DataW H→Nat) (bks:List (DataW H)→Nat),
  Bulk bk bks→DataW.trod enc P w 0 sp held fuel t cs=some x→bk x.1≤Em → ∃ a:τ,LR w (T.e a) cs∧T.good a∧T.bulk a≤bk x.1
theorem LR.nil {w:World}:LR w [] []:=⟨rfl,fun _ h=>absurd h (Nat.not_lt_zero _)⟩
theorem LR.one {w:World}{a:AV}{c:Value}(h:Rv w mu0 M0 a c):LR w [a] [c]:=⟨rfl,fun i hi=>by
 have:i=0:=by simpa using hi
 subst this; exact h⟩
theorem LR.cons {w:World}{a:AV}{c:Value}{l:List AV}{cs:List Value}(h:Rv w mu0 M0 a c)(k:LR w l cs):LR w (a::l) (c::cs):=⟨by simp [k.1],fun i hi=>by
 cases i with
 | zero=>exact h
 | succ i=>simpa using k.2 i (by simpa using hi)⟩
theorem LR.append {w:World} : ∀ {l:List AV} {cs:List Value} {l':List AV} {cs':List Value},LR w l cs→LR w l' cs'→LR w (l++l') (cs++cs')
 | [],[],_,_,_,h=>h
 | [],_::_,_,_,h,_=>by simp [LR] at h
 | _::_,[],_,_,h,_=>by simp [LR] at h
 | a::l,c::cs,l',cs',h,h'=>by
  refine LR.cons (by simpa using h.2 0 (by simp)) (LR.append (l:=l) (cs:=cs) ⟨by simpa using h.1,fun i hi=>by simpa using h.2 (i+1) (by simpa using hi)⟩ h')
def En (k:IntKind):Ty Int:=⟨fun n=>[.int k n],fun n=>(Lit.int k n).wf=true,fun _=>1⟩
def E8:Ty (List UInt8):=⟨fun s=>[.str s],fun _=>True,fun s=>s.length+1⟩
def Fw {τ:Type}(st:Nat)(T:Ty τ):Ty (List τ):=⟨fun l=>[.sl st (l.map T.e)],fun l => ∀ a ∈ l,T.good a,fun l=>(l.map T.bulk).sum+1⟩
def Sp:Ty Unit:=⟨fun _=>[],fun _=>True,fun _=>0⟩
def El {α β:Type}(A:Ty α)(B:Ty β):Ty (α×β):=⟨fun p=>A.e p.1++B.e p.2,fun p=>A.good p.1∧B.good p.2,fun p=>A.bulk p.1+B.bulk p.2⟩
theorem Am0 {t:TypeId}{k:IntKind}(ht:P.underlying t=some (.int k)):H4 P t (En k):=by
 intro H enc w sp held fuel cs x bk bks B h hl
 obtain⟨n,rfl,rfl,hw⟩:=DataW.trod_int ht h
 exact⟨n,LR.one (.int k n),hw,B.one _⟩
theorem Amd {t:TypeId}(ht:P.underlying t=some .string):H4 P t E8:=by
 intro H enc w sp held fuel cs x bk bks B h hl
 obtain⟨s,rfl,rfl,hs⟩:=DataW.trod_string ht h
 refine⟨s.data.toList,LR.one ?_,trivial,by rw [B.str]; exact Nat.le_refl _⟩
 have:s=⟨s.data.toList.toArray⟩:=by cases s; simp
 exact this ▸ Rv.str s.data.toList
theorem Agp {α:Type}{Q:Nat→α→Prop} : ∀ (n:Nat),(∀ i,i<n → ∃ a,Q i a) → ∃ l:List α,l.length=n ∧ ∀ i a,l[i]? = some a→Q i a
 | 0,_=>⟨[],rfl,fun i a h=>by simp at h⟩
 | n+1,h=>by
  obtain⟨l,hl,hq⟩:=Agp n fun i hi=>h i (Nat.lt_succ_of_lt hi)
  obtain⟨a,ha⟩:=h n (Nat.lt_succ_self n)
  refine⟨l++[a],by simp [hl],fun i b hb=>?_⟩
  by_cases hi:i<n
  ·rw [List.getElem?_append_left (by omega)] at hb; exact hq i b hb
  ·have hlt:=(List.getElem?_eq_some_iff.1 hb).1
   have:i=n:=by simp [hl] at hlt; omega
   subst this
   rw [List.getElem?_append_right (by omega),hl] at hb
   simp at hb; subst hb; exact ha
theorem Ah1 {H:Type}{bk:DataW H→Nat}{bks:List (DataW H)→Nat}(B:Bulk bk bks){d:DataW H} : ∀ {l:List (DataW H)},d ∈ l→bk d≤bks l
 | [],h=>by simp at h
 | x::l,h=>by
  rw [B.cons]
  rcases List.mem_cons.1 h with rfl | h
  ·omega
  ·have:=Ah1 B h; omega
theorem Air {H:Type}{bk:DataW H→Nat}{bks:List (DataW H)→Nat}(B:Bulk bk bks) : ∀ (l:List (DataW H)),l.length≤bks l
 | []=>by simp
 | x::l=>by
  rw [B.cons]
  have h1:=B.one x
  have h2:=Air B l
  simp; omega
theorem Ain {H τ:Type}{bk:DataW H→Nat}{bks:List (DataW H)→Nat}(B:Bulk bk bks){f:τ→Nat} : ∀ (l:List τ) (ds:List (DataW H)),l.length=ds.length→(∀ (i:Nat) a d,l[i]? = some a→ds[i]? = some d→f a≤bk d)→(l.map f).sum≤bks ds
 | [],[],_,_=>by simp
 | [],_::_,h,_=>by simp at h
 | _::_,[],h,_=>by simp at h
 | a::l,d::ds,h,hq=>by
  rw [B.cons]
  have h1:=hq 0 a d (by simp) (by simp)
  have h2:=Ain B l ds (by simpa using h) fun i a' d' ha hd=>hq (i+1) a' d' (by simpa using ha) (by simpa using hd)
  simp only [List.map_cons,List.sum_cons]
  omega
theorem Np {τ:Type}{t e:TypeId}{st:Nat}{T:Ty τ}(ht:P.underlying t=some (.slice e))(hst:P.cellsOf e=st)(hpos:0<st)(hok : ∀ a,E4 st (T.e a))(h:H4 P e T):H4 P t (Fw st T):=by
 intro H enc w sp held fuel cs x bk bks B hx hl
 rcases DataW.trod_slice ht hx with⟨rfl,rfl⟩ | ⟨a,len,cap,elems,rest,n,_,rfl,rfl,_,hcap,_,hlen,hel,_⟩
 ·exact⟨[],LR.one (.sl0 st none 0),fun _ h=>absurd h (List.not_mem_nil),by simpa [Fw] using B.one _⟩
 ·rw [hst] at hel
  have hb:=B.sl (elems.map (·.1)) (rest.map (·.1))
  have hlenb:len≤Em:=by
   have:=Air B (elems.map (·.1))
   simp only [List.length_map] at this
   simp only at hl
   omega
  have key : ∀ i,i<len → ∃ a1:τ,∃ cs1 y,w.cells? 0 (a.add (i * st)) st=some cs1∧elems[i]? = some y∧LR w (T.e a1) cs1∧T.good a1∧T.bulk a1≤bk y.1:=by
   intro i hi
   have hE:=hel i hi
   have hi':i<elems.length:=by omega
   rw [List.getElem?_eq_getElem hi',Option.bind_eq_some_iff] at hE
   obtain⟨cs1,hc1,hy1⟩:=hE
   have hbi:bk (elems[i]).1≤bks (elems.map (·.1)):=Ah1 B (List.mem_map.2 ⟨_,List.getElem_mem hi',rfl⟩)
   obtain⟨a1,h1,h2,h3⟩:=h enc w sp held n cs1 _ bk bks B hy1 (by simp only at hl; omega)
   exact⟨a1,cs1,_,hc1,List.getElem?_eq_getElem hi',h1,h2,h3⟩
  obtain⟨l,hll,hq⟩:=Agp len key
  refine⟨l,LR.one ?_,fun a1 hm=>?_,?_⟩
  ·by_cases h0:len=0
   ·subst h0
    have:l=[]:=List.length_eq_zero_iff.1 hll
    subst this
    exact .sl0 st (some a) cap
   ·have hsp:a.spot=none:=by
     obtain⟨a1,cs1,y,hc1,_⟩:=key 0 (by omega)
     obtain⟨_,hcl,hc⟩:=World.cells?_some hc1
     have h00:=hc 0 hpos
     simp only [Nat.zero_mul,Addr.add,if_true] at h00
     rw [List.getElem?_eq_getElem (by omega)] at h00
     unfold World.cell? at h00
     split at h00
     ·split at h00
      ·cases h00
      ·rename_i hh; simpa using hh
     ·cases h00
    have hlt:a.block<w.heap.size:=by
     obtain⟨a1,cs1,y,hc1,_⟩:=key 0 (by omega)
     have:=World.cells?_block hc1 hpos
     simpa [Addr.add] using this
    have hadd : ∀ i j,(a.add (i * st)).add j=⟨a.block,a.off+i * st+j,none⟩:=by
     intro i j
     obtain⟨b,off,s⟩:=a
     simp only at hsp
     subst hsp
     unfold Addr.add
     split <;> split <;> simp_all
    have hcell : ∀ i j,i<l.length→j<st → ∃ a1 v,l[i]? = some a1∧w.cell? ⟨a.block,a.off+i * st+j,none⟩=some v∧Rv w mu0 M0 ((T.e a1).getD j .und) v:=by
     intro i j hi hj
     obtain⟨cs1,y,hc1,_,h1,_,_⟩:=hq i _ (List.getElem?_eq_getElem hi)
     obtain⟨_,hcl,hc⟩:=World.cells?_some hc1
     have:=hc j hj
     rw [hadd,List.getElem?_eq_getElem (by omega)] at this
     refine⟨_,_,List.getElem?_eq_getElem hi,this,?_⟩
     have hr:=h1.2 j (by rw [h1.1]; omega)
     rwa [List.getD_eq_getElem?_getD,List.getD_eq_getElem?_getD,List.getElem?_eq_getElem (l:=cs1) (by omega),Option.getD_some,← List.getD_eq_getElem?_getD] at hr
    have:=Rv.sl (w:=w) (mu:=mu0) (M:=M0) st (l.map T.e) a.block a.off cap (fun i j=>(w.cell? ⟨a.block,a.off+i * st+j,none⟩).getD undef) (by simpa [hll] using hcap) (by simpa [hll] using hlenb)
     (fun i j hi hj=>by
      obtain⟨_,v,_,hv,_⟩:=hcell i j (by simpa using hi) hj
      rw [hv]; rfl)
     (fun i j hi hj=>by
      obtain⟨a1,v,ha1,hv,hr⟩:=hcell i j (by simpa using hi) hj
      rw [hv]
      simp only [cell,List.getD_eq_getElem?_getD,List.getElem?_map,ha1,Option.map_some,Option.getD_some] at hr ⊢
      exact hr)
     (fun r hr=>by obtain⟨a1,_,rfl⟩:=List.mem_map.1 hr; exact hok a1) (fun h=>h) hlt
    rw [show(l.map T.e).length=len by simp [hll]] at this
    have e:a=⟨a.block,a.off,none⟩:=by cases a; simp only at hsp; subst hsp; rfl
    rw [e]
    exact this
  ·obtain⟨i,hi,rfl⟩:=List.mem_iff_getElem.1 hm
   obtain⟨_,_,_,_,_,hg,_⟩:=hq i _ (List.getElem?_eq_getElem hi)
   exact hg
  ·have:=Ain B (f:=T.bulk) l (elems.map (·.1)) (by simp [hll,hlen]) fun i a1 d ha hd=>by
    obtain⟨cs1,y,_,hy,_,_,hb1⟩:=hq i a1 ha
    rw [List.getElem?_map,hy] at hd
    simp only [Option.map_some,Option.some.injEq] at hd
    subst hd
    exact hb1
   show(l.map T.bulk).sum+1≤_
   simp only
   omega
def Aez {τ:Type}(P:Program)[GW P](off:Nat)(fs:List Field)(T:Ty τ)(tot:Nat):Prop:=
 ∀ {H:Type} (enc:TypeId×Value→H) (w:World) (sp:Nat→Bool) (held:Bool) (n:Nat) (cs:List Value) (xs:List (DataW H×List MemPlace)) (bk:DataW H→Nat) (bks:List (DataW H)→Nat),Bulk bk bks →
  xs.length=fs.length→(∀ (i:Nat) (f:Field),fs[i]? = some f→DataW.trod enc P w 0 sp held n f.type ((cs.drop f.offset).take (P.cellsOf f.type))=xs[i]?)→cs.length=tot→bks (xs.map (·.1))≤Em →
  ∃ a:τ,LR w (T.e a) (cs.drop off)∧T.good a∧T.bulk a≤bks (xs.map (·.1))
theorem Rf {off tot:Nat}(h:off=tot):Aez P off [] Sp tot:=by
 intro H enc w sp held n cs xs bk bks B hl hx hc hb
 subst h
 refine⟨(),?_,trivial,Nat.zero_le _⟩
 rw [List.drop_of_length_le (by omega)]
 exact LR.nil
theorem Dc {τ σ:Type}{off tot c:Nat}{f:Field}{fs:List Field}{T:Ty τ}{S:Ty σ}{t:TypeId}(hf:f.offset=off)(ht:f.type=t)(hc:P.cellsOf t=c)(hle:Nat.ble (off+c) tot=true)(h:H4 P t T)(k:Aez P (off+c) fs S tot) :
  Aez P off (f::fs) (El T S) tot:=by
 intro H enc w sp held n cs xs bk bks B hl hx hcs hb
 subst ht
 cases xs with
 | nil=>simp at hl
 | cons x xs=>
  have hle:off+c≤tot:=by simpa using hle
  have h0:=hx 0 f rfl
  rw [hf,hc] at h0
  simp only [List.map_cons,B.cons] at hb
  obtain⟨a,h1,h2,h3⟩:=h enc w sp held n _ x bk bks B h0 (by omega)
  obtain⟨b,k1,k2,k3⟩:=k enc w sp held n cs xs bk bks B (by simpa using hl) (fun i g hg=>by simpa using hx (i+1) g (by simpa using hg)) hcs (by omega)
  refine⟨(a,b),?_,⟨h2,k2⟩,by simp only [List.map_cons,B.cons,El]; omega⟩
  have e:cs.drop off=(cs.drop off).take c++cs.drop (off+c):=by
   rw [← List.drop_drop,List.take_append_drop]
  rw [e]
  exact LR.append h1 k1
theorem Oo {τ σ:Type}{t:TypeId}{fs:Array Field}{T:Ty τ}{tot:Nat}{S:Ty σ}(ht:P.underlying t=some (.struct fs))(hc:P.cellsOf t=tot)(k:Aez P 0 fs.toList T tot)(mk:τ→σ)
  (he : ∀ p,S.e (mk p)=T.e p) (hg : ∀ p,T.good p→S.good (mk p)) (hb : ∀ p,S.bulk (mk p)≤T.bulk p+1):H4 P t S:=by
 intro H enc w sp held fuel cs x bk bks B h hl
 obtain⟨xs,n,rfl,rfl,h1,h2,h3⟩:=DataW.trod_struct ht h
 simp only [B.agg] at hl
 obtain⟨a,k1,k2,k3⟩:=k enc w sp held n cs xs bk bks B (by simpa using h2) (fun i f hf=>h3 i f (by simpa using hf)) (by omega) (by omega)
 refine⟨mk a,?_,hg _ k2,?_⟩
 ·rw [he]; simpa using k1
 ·have:=hb a; simp only [B.agg]; omega
end
theorem Av1 {w w':World}{mu':Mu}{M':Nat→Prop}(h:Ext w mu0 M0 w' mu' M'):w.keptBut w' (fun _=>False)∧(∀ b,b<w.heap.size→w'.heap[b]? = w.heap[b]?):=by
 refine⟨⟨h.os,h.output,fun i hi=>?_⟩,fun b hb=>(h.same b hb (fun h=>h)).1⟩
 rw [(h.same i hi (fun h=>h)).1]
 cases w.heap[i]? with
 | none=>trivial
 | some o=>cases o <;> simp
theorem Avv {P:Program}[GW P](w:World)(hg:GW.n P≤w.heap.size∧GW.G P w.heap.size w):Sim (P:=P) ⟨w.heap.size,w.heap.size⟩ mu0 (fun _=>none) w:=
 ⟨Nat.le_refl _,fun _ _ _ h=>(by cases h),⟨0,fun _ _ _=>rfl⟩,⟨0,fun _ _=>rfl⟩,fun _ _ _ _ h=>(by cases h),fun _ _ _ h=>(by cases h),fun _ _ _ _ _ _ h=>(by cases h),hg,fun _ _ _ h=>(by cases h)⟩
theorem Amc {P:Program}[GW P]{f:FuncId}{A:List AV}{m:R Bool}{args:Array Value}{w:World}(hc:CP P f A m (fun b=>AV.bool b))(hg:GW.n P≤w.heap.size∧GW.G P w.heap.size w)(hm:m=.ok true)(ha:LR w A args.toList) :
  Calls P f args w fun e w'=>e=.returned (.bool true)∧w.keptBut w' (fun _=>False)∧(∀ b,b<w.heap.size→w'.heap[b]? = w.heap[b]?):=by
 subst hm
 have h:=(hc (fun _=>none) (by simp)).2 ⟨w.heap.size,w.heap.size⟩ mu0 w args (Avv w hg) ⟨ha.1,fun i hi=>(ha.2 i hi).less (fun b hb=>by obtain⟨_,_,_,h,_⟩:=hb; cases h)⟩
 refine h.mono fun e w' ⟨r,h',mu',a1,a2,a3,a4⟩=>?_
 obtain⟨_,hr⟩:=a1
 simp only at hr
 subst hr
 refine⟨?_,Av1 (mu':=mu') (M':=Ep h' mu') ⟨a3.os,a3.tape,a3.output,a3.size,fun b hb _=>a3.same b hb (fun hm=>by obtain⟨_,_,_,h,_⟩:=hm; cases h),a3.mu⟩⟩
 cases e with
 | returned v=>
  have a4':Rv w' mu' (Ep h' mu') (.bool true) v:=a4
  cases a4'
  rfl
 | panicked v=>exact a4.elim
 | outgrown=>exact a4.elim
theorem Ati {w:World}{l:List AV}{c:Array Value}(h:LR w l (Value.agg c).cells.toList):Rv w mu0 M0 (.agg l) (.agg c):=by
 have h':LR w l c.toList:=h
 have:=Rv.agg (w:=w) (mu:=mu0) (M:=M0) l c.toList h'.1 h'.2
 simpa using this
theorem Agk {H:Type}{enc:TypeId×Value→H}{P:Program}[GW P](hl:laidOutB P=true){W W':World}{sp':Nat→Bool} : ∀ {ts:List TypeId} {vs:List Value} {ds:List (DataW H)} {ps:List MemPlace},
  (∀ t ∈ ts,P.readableRec t=true∧t<P.types.size)→DataW.TrodAll enc P W 0 (fun _=>true) true ts vs ds ps→(∀ p ∈ ps,W.sameAt W' p)→(∀ p ∈ ps,sp' p.block=true)→DataW.TrodAll enc P W' 0 sp' true ts vs ds ps
 | [],[],[],_,_,h,_,_=>h
 | [],_::_,_,_,_,h,_,_=>h.elim
 | [],[],_::_,_,_,h,_,_=>h.elim
 | _::_,[],_,_,_,h,_,_=>h.elim
 | _::_,_::_,[],_,_,h,_,_=>h.elim
 | t::ts,v::vs,d::ds,ps,hr,h,hs,hp=>by
  obtain⟨p,q,h1,h2,rfl⟩:=h
  refine⟨p,q,?_,Agk hl (fun t ht=>hr t (List.mem_cons_of_mem _ ht)) h2 (fun x hx=>hs x (List.mem_append_right _ hx)) (fun x hx=>hp x (List.mem_append_right _ hx)),rfl⟩
  obtain⟨a,b⟩:=hr t (List.mem_cons_self ..)
  exact Go.WideElems.Trod_stays hl a b h1 (fun x hx=>hs x (List.mem_append_left _ hx)) (fun x hx=>hp x (List.mem_append_left _ hx))
theorem An8 {H:Type}{enc:TypeId×Value→H}{P:Program}[GW P]{f:FuncId}{fn:Func}{s:ChangeSpec}{W:World}{args:Array Value}{ds gs:List (DataW H)}{before:List MemPlace}{tb:TypeId}
  (hW:DataW.Whole enc P fn.params.toList s.vars false W args.toList ds gs before)
  (hl:laidOutB P=true) (hr : ∀ t ∈ fn.params.toList,P.readableRec t=true∧t<P.types.size) (hvs:s.vars=[]) (hrt:fn.resultTypes = #[tb]) (htb:P.underlying tb=some .bool)
  (hsp : ∀ ds:List (DataW H),ds.length=fn.params.size→s.fn H ds={ results:=[.lit (.bool true)],args:=ds })
  (hc:Calls P f args W fun e w'=>e=.returned (.bool true)∧W.keptBut w' (fun _=>False)∧(∀ b,b<W.heap.size→w'.heap[b]? = W.heap[b]?)) :
  Calls P f args W fun e W' => ∃ v,e=.returned v∧s.post enc P fn false true false false W args v W':=by
 refine hc.mono fun e W' ⟨he,hk,hs⟩=>?_
 subst he
 refine⟨_,rfl,?_⟩
 have hold : ∀ p ∈ before,(fun b=>decide (b<W.heap.size)) p.block=true:=fun p hp=>by simpa using hW.lt p hp
 obtain⟨pa,pv,hA,hV,rfl,hz,hn⟩:=id hW
 rw [hvs] at hV
 cases gs with
 | cons g gs=>exact hV.elim
 | nil=>
 have hV':pv=[]:=hV
 subst hV'
 have hlen:ds.length=fn.params.size:=by
  have : ∀ {ts:List TypeId} {vs:List Value} {ds:List (DataW H)} {ps:List MemPlace},DataW.TrodAll enc P W 0 (fun _=>true) true ts vs ds ps→ds.length=ts.length:=by
   intro ts
   induction ts with
   | nil=>intro vs ds ps h; cases vs <;> cases ds <;> first | rfl | exact h.elim
   | cons t ts ih=>
    intro vs ds ps h
    cases vs with
    | nil=>exact h.elim
    | cons v vs=>
     cases ds with
     | nil=>exact h.elim
     | cons d ds=>obtain⟨_,_,_,h2,_⟩:=h; simp [ih h2]
  simpa using this hA
 have hfn:s.fn H (ds++[])={ results:=[.lit (.bool true)],args:=ds }:=by rw [List.append_nil]; exact hsp ds hlen
 have hsame : ∀ p ∈ pa++[],W.sameAt W' p:=fun p hp=>by
  have hb:=hs p.block (hW.lt p hp)
  cases p with
  | cell b off=>exact cell?_of_heap (a:=⟨b,off,none⟩) hb
  | map b=>exact hb
 have hres : ∀ (b:Nat) (sp:Nat→Bool) (hd:Bool),DataW.TrodAll enc P W' b sp hd fn.resultTypes.toList ((Value.bool true).resultList fn.resultTypes.size) (s.fn H (ds++[])).results []:=by
  intro b sp hd
  rw [hfn,hrt]
  exact trodAll_cons_mk (shut_bool htb _) trodAll_mk0
 have hargs : ∀ sp:Nat→Bool,(∀ p ∈ pa++[],sp p.block=true)→DataW.TrodAll enc P W' 0 sp true fn.params.toList args.toList (s.fn H (ds++[])).args pa:=by
  intro sp hsp'
  rw [hfn]
  exact Agk hl hr hA (fun p hp=>hsame p (by simpa using hp)) (fun p hp=>hsp' p (by simpa using hp))
 have hvars : ∀ sp:Nat→Bool,(∀ p ∈ pa++[],sp p.block=true)→DataW.TrodVars enc P W' sp s.vars (s.fn H (ds++[])).vars []:=by
  intro sp _
  rw [hfn,hvs]
  rfl
 refine⟨ds,[],pa++[],[],pa,[],hW,hres _ _ _,hargs _ hold,hvars _ hold,World.keptBut_mono (fun p hp=>hp.elim) hk,fun _=>?_⟩
 refine⟨ok_one hrt rfl (okWide_bool_mk htb _),_,_,([]++pa)++[],⟨[]++pa,[],trodAll_append (hargs _ (fun _ _=>rfl)) (hres _ _ _),hvars _ (fun _ _=>rfl),rfl,?_,?_⟩,?_⟩
 ·intro b off hp
  have hb:=hs b (hW.lt (.cell b off) (by simpa using hp))
  have:=hz b off (by simpa using hp)
  unfold World.frozen? at this ⊢
  rw [hb]; exact this
 ·intro ha; cases ha
 ·intro p hp _
  simpa using hp
end Go.Am
namespace Go.Am
open Go
set_option linter.unusedVariables false
set_option linter.unusedSectionVars false
set_option linter.unusedSimpArgs false
theorem Rs {α σ:Type}(b:Nat→α→σ→R σ)(k:Nat)(s:σ):Di b k [] s=.ok s:=rfl
theorem Pb {α σ:Type}(b:Nat→α→σ→R σ)(k:Nat)(a:α)(l:List α)(s:σ):Di b k (a::l) s=(b k a s).bind fun s'=>Di b (k+1) l s':=by
 rw [Di]
theorem Zp {n:Int}(h1 : -9223372036854775808≤n)(h2:n≤9223372036854775807):IntKind.wrap .i64 n=n:=by
 simp [IntKind.wrap,IntKind.bits,IntKind.signed]
 omega
theorem Xv {τ:Type}{st:Nat}{T:Ty τ}(h : ∀ a,1≤T.bulk a)(l:List τ):l.length+1≤(Fw st T).bulk l:=by
 show l.length+1≤(l.map T.bulk).sum+1
 induction l with
 | nil=>simp
 | cons a l ih=>
  have:=h a
  simp only [List.length_cons,List.map_cons,List.sum_cons] at ih ⊢
  omega
theorem Xp {τ:Type}{st:Nat}{T:Ty τ}{l:List τ}{a:τ}(h:a ∈ l):T.bulk a+1≤(Fw st T).bulk l:=by
 show T.bulk a+1≤(l.map T.bulk).sum+1
 induction l with
 | nil=>cases h
 | cons b l ih=>
  simp only [List.map_cons,List.sum_cons]
  rcases List.mem_cons.1 h with rfl | h
  ·omega
  ·have:=ih h; omega
theorem Ta {α β:Type}{b:Nat→α→List β→R (List β)}{g:α→β}{c:Nat}(hb : ∀ j a s,b j a s=if(s.length+1) * c≤Em then .ok (s++[g a]) else .bad) :
  ∀ (l:List α) (k:Nat) (s:List β),(s.length+l.length) * c≤Em→Di b k l s=.ok (s++l.map g)
 | [],k,s,_=>by simp [Rs]
 | a::l,k,s,h=>by
  have h1:(s.length+1) * c≤Em:=Nat.le_trans (Nat.mul_le_mul_right _ (by simp)) h
  rw [Pb,hb,if_pos h1,R.ok_bind,Ta hb l (k+1) (s++[g a]) (by simpa [Nat.add_assoc,Nat.add_comm 1] using h)]
  simp
theorem Xc {α σ:Type}{b:Nat→α→σ→R σ}(hb : ∀ j a s,∃ s',b j a s=.ok s') : ∀ (l:List α) (k:Nat) (s:σ),∃ s',Di b k l s=.ok s'
 | [],k,s=>⟨s,rfl⟩
 | a::l,k,s=>by
  obtain⟨s',h⟩:=hb k a s
  rw [Pb,h,R.ok_bind]
  exact Xc hb l (k+1) s'
theorem Ac2 {α:Type}{l:List α}{j:Nat}{a:α}(h:l[j]? = some a):E3 l (j:Int)=.ok a:=by
 unfold E3
 rw [if_pos (by omega)]
 simp [h]
theorem Ap5 {α:Type}(a:α)(l:List α):E3 (a::l) 0=.ok a:=Ac2 (j:=0) rfl
abbrev At6:=List UInt8
def pos (l:List At6)(x:At6):Option Nat:=l.findIdx? (· == x)
end Go.Am
