/- Written by shrink.py from texts of ours: comments struck, what is not reached left out, names short. -/
import Derived.Test.YtgigefcfankeeaaU2
import Derived.WalkKit
import Derived.ProofKit
import Derived.OpenShut
import Derived.JoinedCond
import Derived.WideKeyArgs
namespace Go.Am
open Go
set_option linter.unusedSimpArgs false
set_option linter.unusedVariables false
set_option linter.unusedSectionVars false
inductive Sc where
 | int (k:IntKind) (n:Int)
 | str (s:List UInt8)
 | bool (b:Bool)
 | unit
 | two (k1 k2:IntKind) (a b:Int)
 | one (k:IntKind) (a:Int)
 deriving DecidableEq
def Sc.av:Sc→AV
 | .int k n=>.int k n
 | .str s=>.str s
 | .bool b=>.bool b
 | .unit=>.agg []
 | .two k1 k2 a b=>.agg [.int k1 a,.int k2 b]
 | .one k a=>.agg [.int k a]
structure PV where
 t:TypeId
 x:Sc
 deriving DecidableEq
def PV.av (v:PV):AV:=.iface v.t v.x.av
inductive R (α:Type) where
 | ok (a:α)
 | pan (v:PV)
 | bad
 deriving DecidableEq
namespace R
def bind {α β:Type}:R α→(α→R β)→R β
 | ok a,f=>f a
 | pan v,_=>pan v
 | bad,_=>bad
@[simp] theorem ok_bind {α β:Type}(a:α)(f:α→R β):(ok a).bind f=f a:=rfl
@[simp] theorem Aon {α β:Type}(v:PV)(f:α→R β):(pan v:R α).bind f=pan v:=rfl
@[simp] theorem Aoy {α β:Type}(f:α→R β):(bad:R α).bind f=bad:=rfl
theorem bind_assoc {α β γ:Type}(m:R α)(f:α→R β)(g:β→R γ):(m.bind f).bind g=m.bind fun a=>(f a).bind g:=by cases m <;> rfl
@[simp] theorem bind_ok {α:Type}(m:R α):m.bind ok=m:=by cases m <;> rfl
def catch' {α:Type}:R α→(PV→R α)→R α
 | ok a,_=>ok a
 | pan v,f=>f v
 | bad,_=>bad
@[simp] theorem Aom {α:Type}(a:α)(f:PV→R α):(ok a).catch' f=ok a:=rfl
@[simp] theorem Aok {α:Type}(v:PV)(f:PV→R α):(pan v).catch' f=f v:=rfl
@[simp] theorem Aoj {α:Type}(f:PV→R α):(bad:R α).catch' f=bad:=rfl
end R
section
variable {σ ε:Type}
def G7 (body:σ→R (σ ⊕ ε)):Nat→σ→R ε
 | 0,_=>.bad
 | n+1,s=>(body s).bind fun
  | .inl s'=>G7 body n s'
  | .inr e=>.ok e
theorem Add (body:σ→R (σ ⊕ ε)) : ∀ (n:Nat) (s:σ),G7 body n s≠.bad→G7 body (n+1) s=G7 body n s
 | 0,s,h=>absurd rfl h
 | n+1,s,h=>by
  rw [G7]
  rw [G7] at h ⊢
  cases hb:body s with
  | bad=>rfl
  | pan v=>rfl
  | ok x=>
   rw [hb] at h
   cases x with
   | inr e=>rfl
   | inl s'=>exact Add body n s' h
theorem Ahg (body:σ→R (σ ⊕ ε)){n m:Nat}{s:σ}(hnm:n≤m)(h:G7 body n s≠.bad):G7 body m s=G7 body n s:=by
  induction m with
  | zero => have : n = 0 := by omega
            subst this; rfl
  | succ m ih=>
    by_cases hq:n=m+1
    · subst hq; rfl
    · have e:=ih (by omega)
      rw [Add body m s (by rw [e]; exact h),e]
open Classical in
noncomputable def loop (body : σ → R (σ ⊕ ε)) (s : σ) : R ε := if h : ∃ n, G7 body n s ≠ .bad then G7 body (Classical.choose h) s else .bad
theorem Ra {body:σ→R (σ ⊕ ε)}{n:Nat}{s:σ}(h:G7 body n s≠.bad):loop body s=G7 body n s:=by
 have hex : ∃ n,G7 body n s≠.bad:=⟨n,h⟩
 unfold loop
 rw [dif_pos hex]
 have hc:=Classical.choose_spec hex
 rcases Nat.le_total n (Classical.choose hex) with hle | hle
 ·exact Ahg body hle h
 ·exact(Ahg body hle hc).symm
theorem W9 {body:σ→R (σ ⊕ ε)}{s:σ}(h:loop body s≠.bad) : ∃ n,loop body s=G7 body n s:=by
 by_cases hex : ∃ n,G7 body n s≠.bad
 ·obtain⟨n,hn⟩:=hex; exact⟨n,Ra hn⟩
 ·exfalso; apply h; unfold loop; rw [dif_neg hex]
theorem Lg (body:σ→R (σ ⊕ ε))(s:σ):loop body s=(body s).bind fun
  | .inl s'=>loop body s'
  | .inr e=>.ok e:=by
 cases hb:body s with
 | pan v=>
  have:G7 body 1 s=.pan v:=by rw [G7,hb]; rfl
  rw [Ra (n:=1) (by rw [this]; simp),this]; rfl
 | bad=>
  by_cases h:loop body s=.bad
  ·rw [h]; rfl
  ·obtain⟨n,hn⟩:=W9 h
   cases n with
   | zero=>rw [hn] at h; exact absurd rfl h
   | succ n=>rw [hn,G7,hb]; rfl
 | ok x=>
  cases x with
  | inr e=>
   have:G7 body 1 s=.ok e:=by rw [G7,hb]; rfl
   rw [Ra (n:=1) (by rw [this]; simp),this]; rfl
  | inl s'=>
   simp only [R.ok_bind]
   by_cases h':loop body s'=.bad
   ·rw [h']
    by_cases h:loop body s=.bad
    ·exact h
    ·exfalso
     obtain⟨n,hn⟩:=W9 h
     cases n with
     | zero=>rw [hn] at h; exact absurd rfl h
     | succ n=>
      have e:G7 body (n+1) s=G7 body n s':=by rw [G7,hb]; rfl
      rw [hn,e] at h
      rw [Ra h] at h'
      exact h h'
   ·obtain⟨n,hn⟩:=W9 h'
    have e:G7 body (n+1) s=G7 body n s':=by rw [G7,hb]; rfl
    rw [hn] at h'
    rw [hn,← e,Ra (n:=n+1) (by rw [e]; exact h')]
end
section
variable {α σ ε:Type}
def each (body:Nat→α→σ→R (σ ⊕ ε)):Nat→List α→σ→R (σ ⊕ ε)
 | _,[],s=>.ok (.inl s)
 | k,a::l,s=>(body k a s).bind fun
  | .inl s'=>each body (k+1) l s'
  | .inr e=>.ok (.inr e)
@[simp] theorem Ak8 (body:Nat→α→σ→R (σ ⊕ ε))(k:Nat)(s:σ):each body k [] s=.ok (.inl s):=rfl
theorem N1 (body:Nat→α→σ→R (σ ⊕ ε))(k:Nat)(a:α)(l:List α)(s:σ):each body k (a::l) s=(body k a s).bind fun
  | .inl s'=>each body (k+1) l s'
  | .inr e=>.ok (.inr e):=rfl
end
def Cd {α:Type}(l:List α)(n:Int):R α:=if 0≤n then(match l[n.toNat]? with | some a=>.ok a | none=>.bad) else .bad
def A0:List (Nat×AV)→Nat→AV
 | [],_=>.any
 | p::l,t=>bif Nat.beq t p.1 then p.2 else A0 l t
theorem Ey (l:List (Nat×AV))(t:Nat)(v:AV):G1 (A0 l) (some t) v=A0 ((t,v)::l):=by
 funext s
 simp only [G1,upd,A0]
 by_cases h:s=t
 ·subst h; simp
 ·have:Nat.beq s t=false:=by
   cases hq:Nat.beq s t with
   | false=>rfl
   | true=>exact absurd (Nat.eq_of_beq_eq_true hq) h
  rw [if_neg h,this]; rfl
def hp (h0:Ag):List Nat→List (Option AO)→Ag
 | o::os,x::xs=>upd (hp h0 os xs) o x
 | _,_=>h0
structure Ids (h0:Ag)(ids:List Nat)(n:Nat):Prop where
 nodup:ids.Nodup
 fresh : ∀ o ∈ ids,h0 o=none
 len:ids.length=n
abbrev ix (ids:List Nat)(j:Nat):Nat:=ids.getD j 0
section
variable {h0:Ag} {n:Nat}
theorem Rh : ∀ {ids:List Nat} {xs:List (Option AO)} {o:Nat},o ∉ ids→hp h0 ids xs o=h0 o
 | [],_,o,_=>by cases ‹List (Option AO)› <;> rfl
 | a::ids,[],o,_=>rfl
 | a::ids,x::xs,o,h=>by
  simp only [List.mem_cons,not_or] at h
  simp only [hp]
  rw [Acl _ _ _ h.1]
  exact Rh h.2
theorem Al5 : ∀ {ids:List Nat} {xs:List (Option AO)} {j:Nat} {x:Option AO},ids.Nodup→ids.length=xs.length→xs[j]? = some x→hp h0 ids xs (ix ids j)=x
 | [],[],j,x,_,_,h=>by simp at h
 | a::ids,y::xs,0,x,_,_,h=>by
  have:y=x:=by simpa using h
  subst this
  simp [hp,ix,Aey]
 | a::ids,y::xs,j+1,x,hn,hl,h=>by
  have hn':=List.nodup_cons.1 hn
  have hl':ids.length=xs.length:=by simpa using hl
  have h':xs[j]? = some x:=by simpa using h
  have hj:j<ids.length:=by
   rw [hl']
   rcases Nat.lt_or_ge j xs.length with hh | hh
   ·exact hh
   ·rw [List.getElem?_eq_none hh] at h'; cases h'
  have hm:ix ids j ∈ ids:=by
   simp only [ix,List.getD,List.getElem?_eq_getElem hj,Option.getD_some]
   exact List.getElem_mem hj
  have e:ix (a::ids) (j+1)=ix ids j:=by simp [ix]
  rw [e]
  simp only [hp]
  have hne:ix ids j≠a:=fun q=>hn'.1 (by rw [← q]; exact hm)
  rw [Acl _ _ _ hne]
  exact Al5 hn'.2 hl' h'
theorem Aju : ∀ {ids:List Nat} {xs:List (Option AO)} {j:Nat} {x:Option AO},ids.Nodup→ids.length=xs.length→j<xs.length→upd (hp h0 ids xs) (ix ids j) x=hp h0 ids (xs.set j x)
 | [],[],j,x,_,_,h=>by simp at h
 | a::ids,y::xs,0,x,_,_,h=>by
  simp only [hp,ix,List.getD_cons_zero,List.set_cons_zero,Am0]
 | a::ids,y::xs,j+1,x,hn,hl,h=>by
  have hn':=List.nodup_cons.1 hn
  have hl':ids.length=xs.length:=by simpa using hl
  have h':j<xs.length:=by simpa using h
  have hm:ix ids j ∈ ids:=by
   simp only [ix,List.getD,List.getElem?_eq_getElem (hl' ▸ h':j<ids.length),Option.getD_some]
   exact List.getElem_mem _
  have e:ix (a::ids) (j+1)=ix ids j:=by simp [ix]
  rw [e]
  simp only [hp,List.set_cons_succ]
  have hne:a≠ix ids j:=fun q=>hn'.1 (by rw [q]; exact hm)
  rw [Als _ _ _ hne,Aju hn'.2 hl' h']
theorem Ids.at {ids:List Nat}(hI:Ids h0 ids n){xs:List (Option AO)}{j:Nat}{x:Option AO}(hl:xs.length=n)(hx:xs[j]? = some x):hp h0 ids xs (ix ids j)=x:=Al5 hI.nodup (hI.len.trans hl.symm) hx
theorem Ids.set {ids:List Nat}(hI:Ids h0 ids n){xs:List (Option AO)}{j:Nat}{x:Option AO}(hl:xs.length=n)(hj:Nat.blt j n=true):upd (hp h0 ids xs) (ix ids j) x=hp h0 ids (xs.set j x):=
 Aju hI.nodup (hI.len.trans hl.symm) (by rw [hl]; simpa using hj)
theorem Ids.sub {ids:List Nat}(hI:Ids h0 ids n)(xs:List (Option AO)):Sub h0 (hp h0 ids xs):=by
 intro o x hx
 have:o ∉ ids:=fun hm=>by rw [hI.fresh o hm] at hx; cases hx
 rw [Rh this]; exact hx
theorem Ids.out {ids:List Nat}(hI:Ids h0 ids n){j:Nat}(hj:Nat.blt j n=true):h0 (ix ids j)=none:=by
 have hj':j<ids.length:=by rw [hI.len]; simpa using hj
 refine hI.fresh _ ?_
 simp only [ix,List.getD,List.getElem?_eq_getElem hj',Option.getD_some]
 exact List.getElem_mem _
theorem Q1 : ∀ {ids:List Nat} {k:Nat},(∀ o ∈ ids,h0 o=none)→hp h0 ids (List.replicate k none)=h0
 | [],k,_=>by cases k <;> rfl
 | a::ids,0,_=>rfl
 | a::ids,k+1,h=>by
  simp only [List.replicate_succ,hp]
  rw [Q1 (fun o ho=>h o (List.mem_cons_of_mem _ ho))]
  funext o
  unfold upd
  split
  ·rename_i hq; subst hq; exact(h _ (List.mem_cons_self ..)).symm
  ·rfl
end
theorem Sw {h0:Ag} : ∀ {a b:List Nat} {xs ys:List (Option AO)},a.length=xs.length→hp h0 (a++b) (xs++ys)=hp (hp h0 b ys) a xs
 | [],b,[],ys,_=>by cases b <;> cases ys <;> rfl
 | o::a,b,x::xs,ys,h=>by
  simp only [List.cons_append,hp]
  rw [Sw (by simpa using h)]
theorem Aka {h0:Ag} : ∀ {ids:List Nat} {xs ys:List (Option AO)},ids.length=xs.length→ids.length=ys.length→ids.Nodup→(∀ o ∈ ids,h0 o=none)→(∀ j:Nat,ys[j]? = xs[j]? ∨ ys[j]? = some none)→Sub (hp h0 ids ys) (hp h0 ids xs)
 | [],[],[],_,_,_,_,_=>Sub.refl _
 | a::ids,x::xs,y::ys,h1,h2,hn,hf,h=>by
  have ih:=Aka (h0:=h0) (ids:=ids) (xs:=xs) (ys:=ys) (by simpa using h1) (by simpa using h2) (List.nodup_cons.1 hn).2 (fun o ho=>hf o (List.mem_cons_of_mem _ ho)) (fun j=>by simpa using h (j+1))
  intro o z hz
  simp only [hp] at hz ⊢
  unfold upd at hz ⊢
  split
  ·rename_i hq
   rw [if_pos hq] at hz
   rcases h 0 with h' | h' <;> simp at h'
   ·rw [← h']; exact hz
   ·subst h'; cases hz
  ·rename_i hq
   rw [if_neg hq] at hz
   exact ih o z hz
section
variable {P:Program} [GW P] {f:FuncId} {n:Nat} {d:FK} {fr:Nat→AV} {ds:List AD} {h:Ag} {u:AU} {Q:QT} {k:List Item}
theorem Y9 {todo:List Item}(c:Nat)(avoid:List Nat)(hr : ∀ os:List Nat,os.length=c→os.Nodup→(∀ o ∈ os,h o=none)→(∀ o ∈ os,o ∉ avoid)→E5 P f n d todo fr ds h u Q):E5 P f n d todo fr ds h u Q:=by
 intro B mu w a cs p
 obtain⟨N,hN⟩:=p.sim.finh
 have key : ∃ M,N≤M ∧ ∀ o ∈ avoid,o<M:=by
  clear hr
  induction avoid with
  | nil=>exact⟨N,Nat.le_refl _,fun o ho=>by cases ho⟩
  | cons a l ih=>
   obtain⟨M,h1,h2⟩:=ih
   exact⟨max M (a+1),by omega,fun o ho=>by
    rcases List.mem_cons.1 ho with rfl | ho
    ·omega
    ·have:=h2 o ho; omega⟩
 obtain⟨M,h1,h2⟩:=key
 exact hr ((List.range c).map (M + ·)) (by simp) (by
  refine List.Pairwise.map _ (fun a b hab=>?_) List.nodup_range
  simpa using hab) (fun o ho=>by
   obtain⟨i,_,rfl⟩:=List.mem_map.1 ho
   exact hN _ (by omega)) (fun o ho hm=>by
   obtain⟨i,_,rfl⟩:=List.mem_map.1 ho
   have:=h2 _ hm
   omega) B mu w a cs p
end
abbrev Vj:=List UInt8
def rI (k:IntKind)(n:Int):List AV:=[.int k n]
def rB (b:Bool):List AV:=[.bool b]
def rL {α:Type}(st:Nat)(e:α→List AV)(l:List α):List AV:=[.sl st (l.map e)]
theorem R2 {n:Nat}{r:List AV}(h1:r.length=n)(h2:r.all AV.flat=true):Es n r:=⟨h1,fun v hv=>List.all_eq_true.1 h2 v hv⟩
theorem Hi {k:IntKind}(n:Int):Es 1 (rI k n):=R2 rfl rfl
theorem Ue (b:Bool):Es 1 (rB b):=R2 rfl rfl
theorem Anx {α:Type}{st:Nat}{e:α→List AV}(l:List α):Es 1 (rL st e l):=R2 rfl rfl
theorem H5 {j n:Nat}(h:j<n)(hn:n≤C2):AV.int .i64 (IntKind.i64.wrap ((j:Int)+1))=.int .i64 ((j+1:Nat):Int):=by rw [Aj2 (by omega)]
theorem Adj {n j a:Nat}(h:(List.range n)[j]? = some a):j<n∧a=j:=by
 rcases Nat.lt_or_ge j n with hh | hh
 ·simp [hh] at h; exact⟨hh,h.symm⟩
 ·rw [List.getElem?_eq_none (by simpa using hh)] at h; cases h
end Go.Am
namespace Go.Am
open Go
set_option linter.unusedSimpArgs false
set_option linter.unusedVariables false
set_option linter.unusedSectionVars false
structure Spec (β:Type) where
 V:R β→Prop
 bad:¬ V .bad
 Q:R β→QT
section
variable {β:Type}
def WR (P:Program)[GW P](f:FuncId)(n:Nat)(d:FK)(Q:Spec β)(m:R β)(todo:List Item)(fr:Nat→AV)(ds:List AD)(h:Ag)(u:AU):Prop:=Q.V m→E5 P f n d todo fr ds h u (Q.Q m)
def WU (P:Program)[GW P](f:FuncId)(n:Nat)(d:FK)(Q:Spec β)(m:R β)(a:AU)(fr:Nat→AV)(ds:List AD)(h:Ag)(u:AU):Prop:=Q.V m→Pa P f n d a fr ds h u (Q.Q m)
def WO (P:Program)[GW P](f:FuncId)(n:Nat)(d:FK)(Q:Spec β)(k:List Item)(all:List Oper)(m:R β)(ops:List Oper)(fr:Nat→AV)(ds:List AD)(h:Ag)(u:AU):Prop:=
 Q.V m → ∀ i,(∀ j,all[i+j]? = ops[j]?)→E5 P f n d (.inRegion ⟨all⟩ (List.range' i ops.length)::k) fr ds h u (Q.Q m)
end
section
variable {P:Program} [GW P] {f:FuncId} {n:Nat} {d:FK} {β:Type} {Q:Spec β} {m:R β} {fr:Nat→AV} {ds:List AD} {h:Ag} {u:AU} {k:List Item} {l:List (Nat×AV)}
theorem Af5 {todo:List Item}:WR P f n d Q .bad todo fr ds h u:=fun hb=>absurd hb Q.bad
theorem Bl (hr:WR P f n d Q m k fr ds h u):WR P f n d Q m (.code .skip::k) fr ds h u:=fun hb=>Akz (hr hb)
theorem Ab {x y:Code}(hr:WR P f n d Q m (.code x::.code y::k) fr ds h u):WR P f n d Q m (.code (.seq x y)::k) fr ds h u:=fun hb=>Aml (hr hb)
theorem Bx {id:Nat}{c:Code}(hr:WR P f n d Q m (.code c::.inBlock id::k) fr ds h u):WR P f n d Q m (.code (.block id c)::k) fr ds h u:=fun hb=>Ajv (hr hb)
theorem B0 {id:Nat}(hr:WR P f n d Q m k fr ds h u):WR P f n d Q m (.inBlock id::k) fr ds h u:=fun hb=>Agy (hr hb)
theorem Fa {id:Nat}{k':List Item}(he:exitTo id k=some k')(hr:WR P f n d Q m k' fr ds h u):WR P f n d Q m (.code (.exit id)::k) fr ds h u:=fun hb=>Al1 he (hr hb)
theorem Nl {c:Operand}{x y:Code}(b:Bool)(hc:ev fr c=.bool b)(hr:WR P f n d Q m (.code (match b with | true=>x | false=>y)::k) fr ds h u):WR P f n d Q m (.code (.cond c x y)::k) fr ds h u:=fun hb=>Qy hc (by cases b <;> exact hr hb)
theorem Anm {c:Operand}{x y:Code}{p:Prop}[Decidable p]{A B:R β}(hc:ev fr c=.bool (decide p))(ht:p→WR P f n d Q A (.code x::k) fr ds h u)(hf:¬ p→WR P f n d Q B (.code y::k) fr ds h u):WR P f n d Q (if p then A else B) (.code (.cond c x y)::k) fr ds h u:=by
 intro hb
 refine Qy hc ?_
 by_cases hp:p
 ·simp only [hp,decide_true,if_true] at hb ⊢; exact ht hp hb
 ·simp only [hp,decide_false,Bool.false_eq_true,if_false] at hb ⊢; exact hf hp hb
theorem Am8 {c:Operand}{x y:Code}{b:Bool}{A B:R β}(hc:ev fr c=.bool b)(ht:b=true→WR P f n d Q A (.code x::k) fr ds h u)(hf:b=false→WR P f n d Q B (.code y::k) fr ds h u):WR P f n d Q (if b then A else B) (.code (.cond c x y)::k) fr ds h u:=by
 intro hb
 refine Qy hc ?_
 cases hq:b with
 | true=>simp only [hq,if_true] at hb ⊢; exact ht hq hb
 | false=>simp only [hq,Bool.false_eq_true,if_false] at hb ⊢; exact hf hq hb
theorem Qs {m':R β}{todo:List Item}(e:m=m')(hr:WR P f n d Q m' todo fr ds h u):WR P f n d Q m todo fr ds h u:=e ▸ hr
theorem Amh {σ ε:Type}{c:Code}(body:σ→R (σ ⊕ ε))(rest:ε→R β)(St:σ→(Nat→AV)→Ag→Prop)(s0:σ)(hs:St s0 fr h)
  (round : ∀ W:σ→R ε,(∀ s fr h,St s fr h→WR P f n d Q ((W s).bind rest) (.inLoop c::k) fr ds h u) → ∀ s fr h,St s fr h →
   WR P f n d Q ((body s).bind fun x=>match x with | .inl s'=>(W s').bind rest | .inr e=>rest e) (.code c::.inLoop c::k) fr ds h u) :
  WR P f n d Q ((loop body s0).bind rest) (.code (.loop c)::k) fr ds h u:=by
 have key : ∀ n' s fr h,St s fr h→WR P f n d Q ((G7 body n' s).bind rest) (.inLoop c::k) fr ds h u:=by
  intro n'
  induction n' with
  | zero=>intro s fr h _ hb; exact absurd hb Q.bad
  | succ n' ih=>
   intro s fr h hs hb
   refine Yv ?_
   have e:(G7 body (n'+1) s).bind rest=(body s).bind fun x=>match x with | .inl s'=>(G7 body n' s').bind rest | .inr e=>rest e:=by
    rw [G7,R.bind_assoc]
    congr 1
    funext x
    cases x <;> rfl
   have:=round (G7 body n') ih s fr h hs
   rw [← e] at this
   exact this hb
 intro hb
 by_cases hl:loop body s0=.bad
 ·rw [hl] at hb; exact absurd hb Q.bad
 ·obtain⟨n',hn⟩:=W9 hl
  rw [hn] at hb ⊢
  exact Afw (key n' s0 fr h hs hb)
theorem Am9 {α σ ε:Type}{c:Code}(L:List α)(body:Nat→α→σ→R (σ ⊕ ε))(rest:σ ⊕ ε→R β)(St:Nat→σ→(Nat→AV)→Ag→Prop)(s0:σ)(hs:St 0 s0 fr h)
  (round : ∀ (j:Nat) (a:α),L[j]? = some a → ∀ W:σ→R (σ ⊕ ε),(∀ s fr h,St (j+1) s fr h→WR P f n d Q ((W s).bind rest) (.inLoop c::k) fr ds h u) → ∀ s fr h,St j s fr h →
   WR P f n d Q ((body j a s).bind fun x=>match x with | .inl s'=>(W s').bind rest | .inr e=>rest (.inr e)) (.code c::.inLoop c::k) fr ds h u)
  (fin : ∀ s fr h,St L.length s fr h→WR P f n d Q (rest (.inl s)) (.code c::.inLoop c::k) fr ds h u) :
  WR P f n d Q ((each body 0 L s0).bind rest) (.code (.loop c)::k) fr ds h u:=by
 have key : ∀ (l:List α) (j:Nat),j≤L.length→L.drop j=l → ∀ s fr h,St j s fr h→WR P f n d Q ((each body j l s).bind rest) (.inLoop c::k) fr ds h u:=by
  intro l
  induction l with
  | nil=>
   intro j hj hl s fr h hs hb
   have:j=L.length:=by
    have:=List.drop_eq_nil_iff.1 hl; omega
   subst this
   exact Yv (fin s fr h hs hb)
  | cons a l ih=>
   intro j hj hl s fr h hs hb
   have hlt:j<L.length:=by
    rcases Nat.lt_or_ge j L.length with hh | hh
    ·exact hh
    ·rw [List.drop_eq_nil_of_le hh] at hl; cases hl
   have ha:L[j]? = some a:=by
    have:=List.getElem?_drop (xs:=L) (i:=j) (j:=0)
    rw [hl] at this; simpa using this.symm
   have hl':L.drop (j+1)=l:=by
    have:=congrArg List.tail hl
    simpa using this
   refine Yv ?_
   have e:(each body j (a::l) s).bind rest=(body j a s).bind fun x=>match x with | .inl s'=>(each body (j+1) l s').bind rest | .inr e=>rest (.inr e):=by
    rw [N1,R.bind_assoc]
    congr 1
    funext x
    cases x <;> rfl
   have:=round j a ha (fun s'=>each body (j+1) l s') (ih (j+1) hlt hl') s fr h hs
   rw [← e] at this
   exact this hb
 intro hb
 exact Afw (key L 0 (Nat.zero_le _) rfl s0 fr h hs hb)
theorem Y {id:Nat}{ops:List Oper}(hx:WO P f n d Q k ops m ops fr ds h u):WR P f n d Q m (.code (.region id ⟨ops⟩ false)::k) fr ds h u:=fun hb=>by
 refine Pg (fun _ _ _=>stepR_region) ?_
 have:=hx hb 0 (fun j=>by simp)
 rwa [← List.range_eq_range'] at this
section
variable {all r:List Oper} {ty:TypeId} {pos:String} {after:Array Edge}
theorem Ad (hr:WR P f n d Q m k fr ds h u):WO P f n d Q k all m [] fr ds h u:=fun hb i hi B mu w a cs p=>.head stepR_region_end (hr hb B mu w a cs p)
theorem Ng {o:Oper}(hd:F1 n o.dst=true)(hw:Fl all fr o=some true)
  (hx:Q.V m → ∀ (K:AV→List AD→Ag→AU→Prop) (U:AV→KT),(∀ v ds' h' u',WO P f n d Q k all m r (G1 fr o.dst v) ds' h' u'→K v ds' h' u')→(∀ v fr ds h u,Pa P f n d (.pan v false) fr ds h u (Q.Q m)→U v fr ds h u)→Ib P d U fr ds h u o.op K) :
  WO P f n d Q k all m (o::r) fr ds h u:=by
 intro hb i hi
 have ho:(⟨all⟩:Array Oper)[i]? = some o:=by simpa using hi 0
 have hi' : ∀ j,all[i+1+j]? = r[j]? := fun j=>by have:=hi (j+1); rw [show i+(j+1)=i+1+j by omega] at this; simpa using this
 simp only [List.length_cons,List.range'_succ]
 exact Ym ho hd hw (hx hb _ _ (fun v ds' h' u' hk=>hk hb (i+1) hi') (fun _ _ _ _ _ hu=>hu))
theorem Ag3 {o:Oper}(hd:F1 n o.dst=true)(hw:Fl all fr o=some false)(hk:WO P f n d Q k all m r (G1 fr o.dst .und) ds h u):WO P f n d Q k all m (o::r) fr ds h u:=by
 intro hb i hi
 have ho:(⟨all⟩:Array Oper)[i]? = some o:=by simpa using hi 0
 have hi' : ∀ j,all[i+1+j]? = r[j]? := fun j=>by have:=hi (j+1); rw [show i+(j+1)=i+1+j by omega] at this; simpa using this
 simp only [List.length_cons,List.range'_succ]
 exact W5 ho hd hw (hk hb (i+1) hi')
theorem Acu {t:List AD}{op:Op}{v:AV}{U:AV→KT}{K:AV→List AD→Ag→AU→Prop}(hv:D5 P fr h op=some v)(hK:K v ds h u):Ib P d U fr ds h u op K:=by
 have e:Ib P d U fr ds h u op K=F5 P fr h op (fun v h'=>K v ds h' u):=by
  unfold Ib
  split
  ·simp [D5] at hv
  ·simp [D5] at hv
  ·simp [D5] at hv
  ·simp [D5] at hv
  ·rfl
 rw [e]
 exact Ad1 hv hK
theorem So {j tj:Nat}{want b:Bool}{op:Op}{dst:Option Tmp}(hj:(all[j]?).bind (·.dst)=some tj)(hg:fr tj=.bool b):Fl all fr ⟨dst,op,ty,pos,after,some (j,want)⟩=some (b==want):=by
 unfold Fl
 simp only [hj,hg]
theorem Ej {j tj:Nat}{want:Bool}{op:Op}{dst:Option Tmp}(hj:(all[j]?).bind (·.dst)=some tj)(hg:fr tj=.bool want):Fl all fr ⟨dst,op,ty,pos,after,some (j,want)⟩=some true:=by
 rw [So hj hg]; simp
theorem Ac {t:Nat}{op:Op}(v:AV)(ht:Nat.blt t n=true)(hv:D5 P (A0 l) h op=some v)(hk:WO P f n d Q k all m r (A0 ((t,v)::l)) ds h u) :
  WO P f n d Q k all m (⟨some t,op,ty,pos,after,none⟩::r) (A0 l) ds h u:=
 Ng (by simpa [F1] using ht) rfl fun hb K U hK hU=>Acu (t:=ds) hv (hK _ _ _ _ (by rw [Ey]; exact hk))
theorem Ck {t j tj:Nat}{want:Bool}{op:Op}(v:AV)(hj:(all[j]?).bind (·.dst)=some tj)(hg:A0 l tj=.bool want)(ht:Nat.blt t n=true)(hv:D5 P (A0 l) h op=some v)(hk:WO P f n d Q k all m r (A0 ((t,v)::l)) ds h u) :
  WO P f n d Q k all m (⟨some t,op,ty,pos,after,some (j,want)⟩::r) (A0 l) ds h u:=
 Ng (by simpa [F1] using ht) (by rw [So hj hg]; simp) fun hb K U hK hU=>Acu (t:=ds) hv (hK _ _ _ _ (by rw [Ey]; exact hk))
theorem Anc {α:Type}{L:List α}{i:Int}{rest:α→R β}{ops:List Oper}(hk : ∀ a,0≤i→L[i.toNat]? = some a→WO P f n d Q k all (rest a) ops fr ds h u):WO P f n d Q k all ((Cd L i).bind rest) ops fr ds h u:=by
 intro hb
 unfold Cd at hb ⊢
 by_cases h0:0≤i
 ·rw [if_pos h0] at hb ⊢
  cases hq:L[i.toNat]? with
  | none=>rw [hq] at hb; exact absurd hb Q.bad
  | some a=>rw [hq] at hb; exact hk a h0 hq hb
 ·rw [if_neg h0] at hb; exact absurd hb Q.bad
theorem Am2 {p:Prop}[Decidable p]{rest:R β}{ops:List Oper}(hk:p→WO P f n d Q k all rest ops fr ds h u):WO P f n d Q k all (if p then rest else .bad) ops fr ds h u:=by
 intro hb
 by_cases hp:p
 ·rw [if_pos hp] at hb ⊢; exact hk hp hb
 ·rw [if_neg hp] at hb; exact absurd hb Q.bad
theorem Abq {m':R β}{ops:List Oper}(e:m=m')(hr:WO P f n d Q k all m' ops fr ds h u):WO P f n d Q k all m ops fr ds h u:=e ▸ hr
theorem Amf {b:Bool}{A B:R β}{ops:List Oper}(ht:b=true→WO P f n d Q k all A ops fr ds h u)(hf:b=false→WO P f n d Q k all B ops fr ds h u):WO P f n d Q k all (if b then A else B) ops fr ds h u:=by
 intro hb
 cases hq:b with
 | true=>simp only [hq,if_true] at hb ⊢; exact ht hq hb
 | false=>simp only [hq,Bool.false_eq_true,if_false] at hb ⊢; exact hf hq hb
theorem Aj7 {l l':List (Nat×AV)}(hx : ∀ p ∈ l',A0 l p.1=p.2)(t:Nat):A0 l' t=.any∨A0 l' t=A0 l t:=by
 induction l' with
 | nil=>exact .inl rfl
 | cons p l' ih=>
  have hp:=hx p (List.mem_cons_self ..)
  simp only [A0]
  cases hq:Nat.beq t p.1 with
  | true=>
   have:=Nat.eq_of_beq_eq_true hq
   subst this
   exact .inr hp.symm
  | false=>exact ih fun q hq=>hx q (List.mem_cons_of_mem _ hq)
theorem Ql {todo:List Item}{fr':Nat→AV}{Q':QT}(hx : ∀ t,fr' t=.any∨fr' t=fr t)(hr:E5 P f n d todo fr' ds h u Q'):E5 P f n d todo fr ds h u Q':=by
 intro B mu w a cs p
 refine hr B mu w a cs ⟨p.size,fun t=>?_,p.ds,p.sim,p.cs,p.rnd,p.fb⟩
 rcases hx t with e | e
 ·rw [e]; exact .any _
 ·rw [e]; exact p.fr t
theorem An6 {ops:List Oper}(l':List (Nat×AV))(hx : ∀ p ∈ l',A0 l p.1=p.2)(hr:WO P f n d Q k all m ops (A0 l') ds h u):WO P f n d Q k all m ops (A0 l) ds h u:=fun hb i hi=>Ql (Aj7 hx) (hr hb i hi)
theorem An7 {todo:List Item}(l':List (Nat×AV))(hx : ∀ p ∈ l',A0 l p.1=p.2)(hr:WR P f n d Q m todo (A0 l') ds h u):WR P f n d Q m todo (A0 l) ds h u:=fun hb=>Ql (Aj7 hx) (hr hb)
inductive FrIs (l:List (Nat×AV)):List (Nat×AV)→Prop
 | nil:FrIs l []
 | cons {t:Nat} {v:AV} {r:List (Nat×AV)} (hx:A0 l t=v) (hr:FrIs l r):FrIs l ((t,v)::r)
theorem FrIs.get {l l':List (Nat×AV)}(h:FrIs l l') : ∀ p ∈ l',A0 l p.1=p.2:=by
 induction h with
 | nil=>intro p hp; cases hp
 | cons hx hr ih=>
  intro p hp
  rcases List.mem_cons.1 hp with rfl | hp
  ·exact hx
  ·exact ih p hp
theorem Ha {todo:List Item}(l':List (Nat×AV))(hx:FrIs l l')(hr:WR P f n d Q m todo (A0 l') ds h u):WR P f n d Q m todo (A0 l) ds h u:=An7 l' hx.get hr
theorem C4 {ops:List Oper}(l':List (Nat×AV))(hx:FrIs l l')(hr:WO P f n d Q k all m ops (A0 l') ds h u):WO P f n d Q k all m ops (A0 l) ds h u:=An6 l' hx.get hr
inductive FrFz (h h2:Ag)(l:List (Nat×AV)):List (Nat×AV)→Prop
 | nil:FrFz h h2 l []
 | cons {t:Nat} {v:AV} {r:List (Nat×AV)} (hx:Fz h h2 (A0 l t) v) (hr:FrFz h h2 l r):FrFz h h2 l ((t,v)::r)
theorem FrFz.get {h h2:Ag}{l l':List (Nat×AV)}(hf:FrFz h h2 l l')(t:Nat):Fz h h2 (A0 l t) (A0 l' t):=by
 induction hf with
 | nil=>exact .any _
 | @cons s v r hx hr ih=>
  simp only [A0]
  cases hq:Nat.beq t s with
  | true=>
   have:=Nat.eq_of_beq_eq_true hq
   subst this
   exact hx
  | false=>exact ih
theorem Ai6 {todo:List Item}{h2:Ag}(l':List (Nat×AV))(hs:Sub h2 h)(hx:FrFz h h2 l l')(hds:ds=ds)(hd:d=d)(hr:WR P f n d Q m todo (A0 l') ds h2 u):WR P f n d Q m todo (A0 l) ds h u:=fun hb=>Abd hs hx.get hds hd (hr hb)
inductive Drops:List (Option AO)→List (Option AO)→Prop
 | nil:Drops [] []
 | keep {x:Option AO} {xs ys:List (Option AO)} (h:Drops xs ys):Drops (x::xs) (x::ys)
 | drop {x:Option AO} {xs ys:List (Option AO)} (h:Drops xs ys):Drops (x::xs) (none::ys)
theorem Drops.sub {h0:Ag} : ∀ {ids:List Nat} {xs ys:List (Option AO)},Drops xs ys→ids.length=xs.length→Sub (hp h0 ids ys) (hp h0 ids xs)
 | [],_,_,.nil,_=>Sub.refl _
 | a::ids,_,_,.keep hd,hl=>Sub.upd (Drops.sub hd (by simpa using hl)) a _
 | a::ids,_,_,@Drops.drop x xs ys hd,hl=>fun o z hz=>by
  simp only [hp,upd] at hz ⊢
  split
  ·rename_i hq; rw [if_pos hq] at hz; cases hz
  ·rename_i hq; rw [if_neg hq] at hz; exact Drops.sub hd (by simpa using hl) o z hz
theorem D3 {todo:List Item}{fr:Nat→AV}{h0:Ag}{ids:List Nat}{N:Nat}{xs:List (Option AO)}(ys:List (Option AO))(hI:Ids h0 ids N)(hl:xs.length=N)(hx:Drops xs ys)(hr:WR P f n d Q m todo fr ds (hp h0 ids ys) u) :
  WR P f n d Q m todo fr ds (hp h0 ids xs) u:=fun hb=>Ame (hx.sub (hI.len.trans hl.symm)) (hr hb)
end
end
end Go.Am
namespace Go.Am
open Go
set_option linter.unusedSimpArgs false
set_option linter.unusedVariables false
set_option linter.unusedSectionVars false
section
variable {P:Program} [GW P] {fr:Nat→AV} {h:Ag} {v:AV}
theorem Z {x:Operand}:D5 P fr h (.move x)=some (ev fr x):=rfl
theorem Ap {x:Operand}:D5 P fr h (.assign x)=some (ev fr x):=rfl
theorem B9 {c a b:Operand}{t:Bool}(hc:ev fr c=.bool t)(hv:(if t then ev fr a else ev fr b)=v):D5 P fr h (.pick c a b)=some v:=by simp only [D5,hc,hv]
theorem C5 {t:TypeId}{ps:List (Nat×Operand)}(hv:Rw P t (N3 fr ps)=some v):D5 P fr h (.build t ⟨ps⟩)=some v:=hv
theorem Af {t:TypeId}{x:Operand}(hv:Of P h t (ev fr x)=some v):D5 P fr h (.load t x)=some v:=hv
theorem Aj {x:Operand}(hv:V8 (ev fr x)=some v):D5 P fr h (.nilCheck x)=some v:=hv
theorem Bk {o:BinOp}{t ty:TypeId}{x y:Operand}(hg:Si P o t x y (ev fr x) (ev fr y)=true)(hn:T8 y=false)(hv:Je P o t (ev fr x) (ev fr y)=some v):D5 P fr h (.binOp o t x y ty)=some v:=by
 simp only [D5,hg,hn,true_and,if_true]; exact hv
theorem Pz {o:UnOp}{t:TypeId}{x:Operand}(hv:aUn o (ev fr x)=some v):D5 P fr h (.unOp o t x)=some v:=hv
theorem Cr {s t:TypeId}{x:Operand}(hv:Rm P h s t (ev fr x)=some v):D5 P fr h (.convert s t x)=some v:=hv
theorem Alc {t:TypeId}{x:Operand}{T:TI}(hT:ti P t=some T)(hk:T.k≠.ifc):D5 P fr h (.makeInterface t x)=some (.iface t (ev fr x)):=by
 simp only [D5,hT,if_neg hk]
theorem Zh {fn:Fn}{a c:List Operand}:D5 P fr h (.makeFunc fn ⟨a⟩ ⟨c⟩)=some (.func fn (G6 fr a) (G6 fr c)):=rfl
theorem Aak {t:TypeId}{x:Operand}{lo hi mx:Option Operand}(hv:Ke P h t (ev fr x) (lo.map (ev fr)) (hi.map (ev fr)) (mx.map (ev fr))=some v):D5 P fr h (.slice t x lo hi mx)=some v:=hv
theorem Ae {s:TypeId}{x:Operand}{i:Nat}(hv:J9 P s (ev fr x) i=some v):D5 P fr h (.fieldAddr s x i)=some v:=hv
theorem Bq {t:TypeId}{x i:Operand}(hv:Gi P h t (ev fr x) (ev fr i)=some v):D5 P fr h (.indexAddr t x i)=some v:=hv
theorem Air {x:Operand}{a t:TypeId}{ok:Bool}(hv:P4 P (ev fr x) t ok=some v):D5 P fr h (.typeAssert x a t ok)=some v:=hv
theorem Abm {x:Operand}{i:Nat}(hv:Uo (ev fr x) i=some v):D5 P fr h (.extract x i)=some v:=hv
theorem By {t:TypeId}{x:Operand}(hv:Ug P h t (ev fr x)=some v):D5 P fr h (.call ⟨.builtin .len,⟨[x]⟩,⟨[t]⟩⟩)=some v:=hv
theorem Ajt {ts:Array TypeId}{l:List Operand}(hv:Ya false (G6 fr l)=some v):D5 P fr h (.call ⟨.builtin .min,⟨l⟩,ts⟩)=some v:=by
 simp only [D5]
 exact hv
theorem Aa6 {ts:Array TypeId}{l:List Operand}(hv:Ya true (G6 fr l)=some v):D5 P fr h (.call ⟨.builtin .max,⟨l⟩,ts⟩)=some v:=by
 simp only [D5]
 exact hv
theorem Dd {t:TypeId}{T:TI}{row:List AV}{c:Nat}(hT:ti P t=some T)(hv:L9 row c T.size T.k.agg=some v):Of P h t (.cp row c)=some v:=by simp only [Of,hT,hv]
section
variable {h0:Ag} {ids:List Nat} {xs:List (Option AO)} {n j:Nat}
theorem Ah {t:TypeId}{T:TI}{g st r c:Nat}{rs:List (List AV)}{row:List AV}(hI:Ids h0 ids n)(hl:xs.length=n)(hj:xs[j]? = some (some (.rows g st rs)))(hr:rs[r]? = some row)(hT:ti P t=some T)(hv:L9 row c T.size T.k.agg=some v) :
  Of P (hp h0 ids xs) t (.ptr (ix ids j) g r c)=some v:=by
 have hlt:r<rs.length:=by
  rcases Nat.lt_or_ge r rs.length with hh | hh
  ·exact hh
  ·rw [List.getElem?_eq_none hh] at hr; cases hr
 have e:rs.getD r []=row:=Fy hr
 simp only [Of,hT,hI.at hl hj,hlt,e,and_self,if_true,hv]
end
section
variable {s ft:TypeId} {fs:List (Nat×TypeId)} {a b i off:Nat} {z:List AV} {F:TI}
theorem An0 {o g r c:Nat}(hT:ti P s=some ⟨.st fs,a,b,z⟩)(hf:fs[i]? = some (off,ft))(hF:ti P ft=some F)(h0:Nat.beq F.size 0=false):J9 P s (.ptr o g r c) i=some (.ptr o g r (c+off)):=by
 have:F.size≠0:=fun q=>by rw [q] at h0; cases h0
 simp only [J9,hT,hf,hF,if_neg this]
theorem F3 {row:List AV}{c:Nat}(hT:ti P s=some ⟨.st fs,a,b,z⟩)(hf:fs[i]? = some (off,ft))(hF:ti P ft=some F)(h0:Nat.beq F.size 0=false):J9 P s (.cp row c) i=some (.cp row (c+off)):=by
 have:F.size≠0:=fun q=>by rw [q] at h0; cases h0
 simp only [J9,hT,hf,hF,if_neg this]
end
section
variable {α:Type} {e:α→List AV} {L:List α} {st:Nat} {t et:TypeId} {a b:Nat} {z:List AV} {E:TI} {k:IntKind} {x:α}
theorem Akw {j:Nat}(hx:L[j]? = some x):(L.map e).getD j []=e x:=by simp [List.getD,hx]
theorem Cc {j:Nat}(hx:L[j]? = some x):j<L.length:=by
 rcases Nat.lt_or_ge j L.length with hh | hh
 ·exact hh
 ·rw [List.getElem?_eq_none hh] at hx; cases hx
theorem Ik {i:Int}(hT:ti P t=some ⟨.sl et,a,b,z⟩)(hE:ti P et=some E)(hs:st=E.size)(h0:0≤i)(hx:L[i.toNat]? = some x):Gi P h t (.sl st (L.map e)) (.int k i)=some (.cp (e x) 0):=by
 have hlt:=Cc hx
 have h1:i<((L.map e).length:Int):=by rw [List.length_map]; omega
 simp only [Gi,hT,hE]
 rw [if_pos ⟨hs,h0,h1⟩,Akw hx]
theorem Nv {i:Nat}(hT:ti P t=some ⟨.sl et,a,b,z⟩)(hE:ti P et=some E)(hs:st=E.size)(hx:L[i]? = some x):Gi P h t (.sl st (L.map e)) (.int k (i:Int))=some (.cp (e x) 0):=
 Ik hT hE hs (by omega) (by simpa using hx)
theorem B5 (hT:ti P t=some ⟨.sl et,a,b,z⟩):Ug P h t (.sl st (L.map e))=some (.int .i64 (L.length:Int)):=by simp only [Ug,hT,List.length_map]
end
theorem T7 {t:TypeId}{a b:Nat}{z:List AV}{s:List UInt8}(hT:ti P t=some ⟨.str,a,b,z⟩):Ug P h t (.str s)=some (.int .i64 (s.length:Int)):=by simp only [Ug,hT]
theorem Ev {s t:TypeId}{k1 k2 k:IntKind}{a b c d:Nat}{z1 z2:List AV}{i:Int}(hS:ti P s=some ⟨.int k1,a,b,z1⟩)(hT:ti P t=some ⟨.int k2,c,d,z2⟩):Rm P h s t (.int k i)=some (.int k2 (k2.wrap i)):=by simp only [Rm,hS,hT]
theorem Al6 {t:TypeId}{T:TI}(hT:ti P t=some T)(hk:T.k≠.ifc):P4 P (.iface t v) t false=some v:=by simp only [P4,hT,if_neg hk]; rfl
theorem Anp {t:TypeId}{T:TI}(hT:ti P t=some T)(hk:T.k≠.ifc):P4 P (.iface t v) t true=some (.tup [v,.bool true]):=by simp only [P4,hT,if_neg hk]; rfl
theorem Fg {t:TypeId}{fs:List (Nat×TypeId)}{a b:Nat}{z cs:List AV}{ps:List (Nat×AV)}{pl:List (Nat×Nat)}(hT:ti P t=some ⟨.st fs,a,b,z⟩)(hp:Oz P fs=some pl)(hv:Sj (fun i=>pl[i]?) z ps=some cs):Rw P t ps=some (.agg cs):=by
 simp only [Rw,hT,hp,hv,Option.map_some]
theorem Aki {t et:TypeId}{m a b:Nat}{z cs:List AV}{ps:List (Nat×AV)}{E:TI}(hT:ti P t=some ⟨.arr m et,a,b,z⟩)(hE:ti P et=some E)(hv:Sj (fun i=>some (i * E.size,E.size)) z ps=some cs):Rw P t ps=some (.agg cs):=by
 simp only [Rw,hT,hE,hv,Option.map_some]
end
def Tt:List AV→List AV→List AV
 | row,[]=>row
 | [],_=>[]
 | _::row,c::cs=>c::Tt row cs
def Ul:List AV→Nat→List AV→List AV
 | row,0,cs=>Tt row cs
 | [],_+1,_=>[]
 | a::row,c+1,cs=>a::Ul row c cs
theorem Agd : ∀ (row cs:List AV),cs.length≤row.length→Tt row cs=cs++row.drop cs.length
 | row,[],_=>by cases row <;> simp [Tt]
 | [],c::cs,h=>by simp at h
 | a::row,c::cs,h=>by simp [Tt,Agd row cs (by simpa using h)]
theorem Ag2 : ∀ (row:List AV) (c:Nat) (cs:List AV),c+cs.length≤row.length→Ul row c cs=putCells row c cs
 | row,0,cs,h=>by
  have:=Agd row cs (by simpa using h)
  cases row <;> simp [Ul,putCells,this]
 | [],c+1,cs,h=>by simp at h
 | a::row,c+1,cs,h=>by
  have:=Ag2 row c cs (by simp only [List.length_cons] at h; omega)
  simp only [Ul,this,putCells,List.take_succ_cons,List.cons_append]
  rw [show c+1+cs.length=(c+cs.length)+1 by omega,List.drop_succ_cons]
section
variable {P:Program} [GW P] {f:FuncId} {n:Nat} {d:FK} {β:Type} {Q:Spec β} {m:R β} {ds:List AD} {u:AU} {k:List Item} {l:List (Nat×AV)}
variable {all r:List Oper} {ty:TypeId} {pos:String} {after:Array Edge}
variable {h0:Ag} {ids:List Nat} {xs:List (Option AO)} {N:Nat}
theorem Vl {t:Nat}{op:Op}{h:Ag}(ht:Nat.blt t n=true)(ho : ∀ (K:AV→List AD→Ag→AU→Prop) (U:AV→KT),Ib P d U (A0 l) ds h u op K=F5 P (A0 l) h op (fun v h'=>K v ds h' u))
  (hx : ∀ K:AV→Ag→Prop,(∀ v h',WO P f n d Q k all m r (A0 ((t,v)::l)) ds h' u→K v h')→F5 P (A0 l) h op K) :
  WO P f n d Q k all m (⟨some t,op,ty,pos,after,none⟩::r) (A0 l) ds h u:=by
 refine Ng (by simpa [F1] using ht) rfl fun hb K U hK hU=>?_
 rw [ho]
 exact hx _ fun v h' hw=>hK _ _ _ _ (by rw [Ey]; exact hw)
theorem Ann {op:Op}{h:Ag}(ho : ∀ (K:AV→List AD→Ag→AU→Prop) (U:AV→KT),Ib P d U (A0 l) ds h u op K=F5 P (A0 l) h op (fun v h'=>K v ds h' u))
  (hx : ∀ K:AV→Ag→Prop,(∀ v h',WO P f n d Q k all m r (A0 l) ds h' u→K v h')→F5 P (A0 l) h op K) :
  WO P f n d Q k all m (⟨none,op,ty,pos,after,none⟩::r) (A0 l) ds h u:=by
 refine Ng rfl rfl fun hb K U hK hU=>?_
 rw [ho]
 exact hx _ fun v h' hw=>hK _ _ _ _ hw
theorem A5 {t:TypeId}{a x:Operand}{h h':Ag}{fr:Nat→AV}{K:AV→Ag→Prop}(hs:Qm P h t (ev fr a) (ev fr x)=some h')(hK:K .und h'):F5 P fr h (.store t a x) K:=by simp only [F5]; exact⟨_,.cell (.same _),by rw [hs]; exact hK⟩
theorem Bc {t:TypeId}{a x:Operand}{h h':Ag}(hs:Qm P h t (ev (A0 l) a) (ev (A0 l) x)=some h')(hk:WO P f n d Q k all m r (A0 l) ds h' u) :
  WO P f n d Q k all m (⟨none,.store t a x,ty,pos,after,none⟩::r) (A0 l) ds h u:=
 Ann (fun _ _=>rfl) fun K hK=>A5 hs (hK _ _ hk)
theorem A8 {t:TypeId}{T:TI}{g st rr c j:Nat}{rs:List (List AV)}{row:List AV}{v:AV}(hI:Ids h0 ids N)(hl:xs.length=N)(hjn:Nat.blt j N=true)(hj:xs[j]? = some (some (.rows g st rs)))(hr:rs[rr]? = some row)(hT:ti P t=some T)
  (hok:v.ok=true) (hlen:v.cells.length=T.size) (hc:Nat.ble (c+T.size) st=true) (hrl:row.length=st) (hfl:v.cells.all AV.flat=true) :
  Qm P (hp h0 ids xs) t (.ptr (ix ids j) g rr c) v=some (hp h0 ids (xs.set j (some (.rows g st (rs.set rr (Ul row c v.cells)))))):=by
 have hlt:rr<rs.length:=Cc hr
 have e:rs.getD rr []=row:=Fy hr
 have hc':c+T.size≤st:=by simpa using hc
 rw [Ag2 _ _ _ (by rw [hlen,hrl]; exact hc')]
 simp only [Qm,hT,hI.at hl hj,hlt,hok,hlen,hc',hfl,and_self,if_true,e,hI.set hl hjn]
theorem Akq {e:TypeId}{T:TI}{j:Nat}{fr:Nat→AV}{K:AV→Ag→Prop}(hI:Ids h0 ids N)(hl:xs.length=N)(hjn:Nat.blt j N=true)(hj:xs[j]? = some none)(hT:ti P e=some T)(hfl:T.z.all AV.flat=true)
  (hk : ∀ g,K (.ptr (ix ids j) g 0 0) (hp h0 ids (xs.set j (some (.rows g T.z.length [T.z]))))):F5 P fr (hp h0 ids xs) (.alloc e) K:=by
 simp only [F5,hT]
 refine⟨hfl,Pv (ix ids j) (hI.at hl hj) fun g=>?_⟩
 rw [hI.set hl hjn]
 exact hk g
theorem Am3 {e:TypeId}{x:Operand}{v:AV}{j:Nat}{fr:Nat→AV}{K:AV→Ag→Prop}(hI:Ids h0 ids N)(hl:xs.length=N)(hjn:Nat.blt j N=true)(hj:xs[j]? = some none)(hx:ev fr x=v)(hok:v.ok=true)(hfl:v.cells.all AV.flat=true)
  (hk : ∀ g,K (.ptr (ix ids j) g 0 0) (hp h0 ids (xs.set j (some (.rows g v.cells.length [v.cells]))))):F5 P fr (hp h0 ids xs) (.box e x) K:=by
 simp only [F5,hx]
 refine⟨hok,hfl,Pv (ix ids j) (hI.at hl hj) fun g=>?_⟩
 rw [hI.set hl hjn]
 exact hk g
theorem Ch {t:Nat}{e:TypeId}{T:TI}{j:Nat}(hI:Ids h0 ids N)(hl:xs.length=N)(hjn:Nat.blt j N=true)(hj:xs[j]? = some none)(ht:Nat.blt t n=true)(hT:ti P e=some T)(hfl:T.z.all AV.flat=true)
  (hk : ∀ g,WO P f n d Q k all m r (A0 ((t,.ptr (ix ids j) g 0 0)::l)) ds (hp h0 ids (xs.set j (some (.rows g T.z.length [T.z])))) u) :
  WO P f n d Q k all m (⟨some t,.alloc e,ty,pos,after,none⟩::r) (A0 l) ds (hp h0 ids xs) u:=
 Vl ht (fun _ _=>rfl) fun K hK=>by
  simp only [F5,hT]
  refine⟨hfl,Pv (ix ids j) (hI.at hl hj) fun g=>?_⟩
  rw [hI.set hl hjn]
  exact hK _ _ (hk g)
theorem Dg {t:Nat}{e:TypeId}{x:Operand}{v:AV}{j:Nat}(hI:Ids h0 ids N)(hl:xs.length=N)(hjn:Nat.blt j N=true)(hj:xs[j]? = some none)(ht:Nat.blt t n=true)(hx:ev (A0 l) x=v)(hok:v.ok=true)(hfl:v.cells.all AV.flat=true)
  (hk : ∀ g,WO P f n d Q k all m r (A0 ((t,.ptr (ix ids j) g 0 0)::l)) ds (hp h0 ids (xs.set j (some (.rows g v.cells.length [v.cells])))) u) :
  WO P f n d Q k all m (⟨some t,.box e x,ty,pos,after,none⟩::r) (A0 l) ds (hp h0 ids xs) u:=
 Vl ht (fun _ _=>rfl) fun K hK=>by
  simp only [F5,hx]
  refine⟨hok,hfl,Pv (ix ids j) (hI.at hl hj) fun g=>?_⟩
  rw [hI.set hl hjn]
  exact hK _ _ (hk g)
def Bs (v:AV)(o g n:Nat):Prop:=(v=.emp∧n=0)∨v=.ref o g 0 n
def Ba (v:AV)(g st:Nat)(rows:List (List AV)):Option AO:=match v with
 | .emp=>none
 | _=>some (.rows g st rows)
theorem Bs.nil {o g:Nat}:Bs .emp o g 0:=.inl ⟨rfl,rfl⟩
section
variable {α:Type} {e:α→List AV} {L:List α} {v:AV} {g st j:Nat}
theorem Bs.isRef {o n:Nat}(hv:Bs v o g n)(hn:0<n):v=.ref o g 0 n:=by
 rcases hv with⟨_,h⟩ | h
 ·omega
 ·exact h
theorem Bs.len {t et:TypeId}{a b o n:Nat}{z:List AV}{h:Ag}(hv:Bs v o g n)(hT:ti P t=some ⟨.sl et,a,b,z⟩):Ug P h t v=some (.int .i64 (n:Int)):=by
 rcases hv with⟨rfl,rfl⟩ | rfl <;> simp only [Ug,hT]
 rfl
theorem P3 {t et:TypeId}{a b:Nat}{z:List AV}{E:TI}{ki:IntKind}{i:Int}{x:α}(hI:Ids h0 ids N)(hl:xs.length=N)(hv:Bs v (ix ids j) g L.length)(hj:xs[j]? = some (Ba v g st (L.map e)))
  (hT:ti P t=some ⟨.sl et,a,b,z⟩) (hE:ti P et=some E) (hs:st=E.size) (hi:0≤i) (hx:L[i.toNat]? = some x):Gi P (hp h0 ids xs) t v (.int ki i)=some (.ptr (ix ids j) g i.toNat 0):=by
 have hlt:=Cc hx
 have:=hv.isRef (by omega)
 subst this
 have h1:i<(L.length:Int):=by omega
 have ha:=hI.at hl hj
 simp only [Ba] at ha
 simp only [Gi,hT,hE,ha]
 rw [if_pos ⟨trivial,hs,hi,h1⟩,Nat.zero_add]
theorem Afc {t:TypeId}{T:TI}{i c o:Nat}{x:α}{w:AV}(hI:Ids h0 ids N)(hl:xs.length=N)(hv:Bs v o g L.length)(hj:xs[j]? = some (Ba v g st (L.map e)))(hx:L[i]? = some x)
  (hT:ti P t=some T) (hw:L9 (e x) c T.size T.k.agg=some w):Of P (hp h0 ids xs) t (.ptr (ix ids j) g i c)=some w:=by
 have hlt:=Cc hx
 have:=hv.isRef (by omega)
 subst this
 simp only [Ba] at hj
 exact Ah hI hl hj (by simp [hx]) hT hw
theorem Wo {t:TypeId}{T:TI}{i c o:Nat}{x y:α}{w:AV}(hI:Ids h0 ids N)(hl:xs.length=N)(hjn:Nat.blt j N=true)(hv:Bs v o g L.length)(hj:xs[j]? = some (Ba v g st (L.map e)))(hx:L[i]? = some x)
  (hT:ti P t=some T) (hok:w.ok=true) (hlen:w.cells.length=T.size) (hc:Nat.ble (c+T.size) st=true) (hrl:(e x).length=st) (hfl:w.cells.all AV.flat=true) (hy:Ul (e x) c w.cells=e y) :
  Qm P (hp h0 ids xs) t (.ptr (ix ids j) g i c) w=some (hp h0 ids (xs.set j (Ba v g st ((L.set i y).map e)))):=by
 have hlt:=Cc hx
 have:=hv.isRef (by omega)
 subst this
 simp only [Ba] at hj ⊢
 rw [A8 hI hl hjn hj (by simp [hx]:(L.map e)[i]? = some (e x)) hT hok hlen hc hrl hfl,hy,List.map_set]
theorem Bs.set {o i:Nat}{y:α}(hv:Bs v o g L.length):Bs v o g (L.set i y).length:=by rw [List.length_set]; exact hv
theorem Dp {h h2:Ag}{o:Nat}(hv:Bs v o g L.length)(ho:h o=Ba v g st (L.map e))(h2o:h2 o=none)(hr : ∀ x,Es st (e x)):Fz h h2 v (.sl st (L.map e)):=by
 rcases hv with⟨rfl,hn⟩ | rfl
 ·have:L=[]:=List.length_eq_zero_iff.1 hn
  subst this
  exact .emp st
 ·simp only [Ba] at ho
  refine .ref o g 0 L.length st (L.map e) (L.map e) ho h2o (by simp) (by simp) (by
   intro x hx
   obtain⟨y,_,rfl⟩:=List.mem_map.1 hx
   exact hr y) (fun i jj _ _=>by rw [Nat.zero_add]; exact .same _)
end
end
end Go.Am
namespace Go.Am
open Go
set_option linter.unusedSimpArgs false
set_option linter.unusedVariables false
set_option linter.unusedSectionVars false
def Xg {α:Type}(e:α→AV)(h:Ag)(m:R α):AR→Ag→Prop:=fun r h'=>h'=h∧match m with
 | .ok a=>r=.ret (e a)
 | .pan v=>r=.panic v.av
 | .bad=>False
def Aes {α:Type}(e:α→AV)(h:Ag):Spec α:=⟨fun m=>m≠.bad,fun h=>h rfl,fun m r h' _=>Xg e h m r h'⟩
def CP {α:Type}(P:Program)[GW P](g:FuncId)(args:List AV)(m:R α)(e:α→AV):Prop := ∀ h,m≠.bad→Bw P g args h (Xg e h m)
def Vx:Nat→List AV→List (Nat×AV)
 | _,[]=>[]
 | i,a::l=>(i,a)::Vx (i+1) l
theorem Qz : ∀ (args:List AV) (i t:Nat),A0 (Vx i args) t=.any∨(i≤t∧A0 (Vx i args) t=args.getD (t - i) .und)
 | [],i,t=>.inl rfl
 | a::l,i,t=>by
  simp only [Vx,A0]
  cases hq:Nat.beq t i with
  | true=>
   have:=Nat.eq_of_beq_eq_true hq
   subst this
   exact .inr ⟨Nat.le_refl _,by simp⟩
  | false=>
   have hne:t≠i:=fun q=>by subst q; simp at hq
   rcases Qz l (i+1) t with h | ⟨h1,h2⟩
   ·exact .inl h
   ·refine .inr ⟨by omega,?_⟩
    simp only [cond_false]
    rw [h2]
    have:t - i=(t - (i+1))+1:=by omega
    rw [this,List.getD_cons_succ]
section
variable {P:Program} [GW P] {f:FuncId} {n:Nat} {α:Type} {m:R α} {e:α→AV}
theorem Db {fn : Func} {c : Code} {args : List AV} (N : Nat) (hf : P.funcs[f]? = some fn) (hb : fn.body = some c) (hn : fn.name ≠ "runtime.NumGoroutine") (hnt : fn.ntmps = n) (hl : Nat.ble args.length n = true)
  (hr : ∀ (h0 : Ag) (ids : List Nat), Ids h0 ids N → WR P f n false (Aes e h0) m [.code c] (A0 (Vx 0 args)) [] (hp h0 ids (List.replicate N none)) .ret) : CP P f args m e := by
 intro h hb'
 refine Qo hf hb hn hnt (by simpa using hl) ?_
 refine Y9 N [] fun os h1 h2 h3 h4 => ?_
 have := hr h os ⟨h2, h3, h1⟩ hb'
 rw [Q1 h3] at this
 refine Ql (fun t => ?_) this
 rcases Qz args 0 t with h | ⟨_, h⟩
 ·exact .inl h
 ·exact .inr h
section
variable {h0:Ag} {ids:List Nat} {xs:List (Option AO)} {N:Nat} {l:List (Nat×AV)} {k:List Item} {u:AU}
theorem Ca {fn:Func}{a:α}{vs:List AV}(hf:P.funcs[f]? = some fn)(hI:Ids h0 ids N)(hr:Hn P (hp h0 ids xs) (A0 l) fn.results.toList=some vs)(hz:Fz (hp h0 ids xs) h0 (Jr vs) (e a)) :
  WR P f n false (Aes e h0) (.ok a) (.code .ret::k) (A0 l) [] (hp h0 ids xs) u:=fun _=>
 T1 (R3 hf hr (hI.sub xs) hz rfl ⟨rfl,rfl⟩)
theorem Afe {fn:Func}{a:α}{vs:List AV}(hf:P.funcs[f]? = some fn)(hI:Ids h0 ids N)(hr:Hn P (hp h0 ids xs) (A0 l) fn.results.toList=some vs)(hz:Fz (hp h0 ids xs) h0 (Jr vs) (e a)) :
  WR P f n false (Aes e h0) (.ok a) [] (A0 l) [] (hp h0 ids xs) u:=fun _=>
 Zd (R3 hf hr (hI.sub xs) hz rfl ⟨rfl,rfl⟩)
theorem Bp {fn:Func}{v:PV}{fr:Nat→AV}(hf:P.funcs[f]? = some fn)(hI:Ids h0 ids N):WU P f n false (Aes e h0) (.pan v) (.pan v.av false) fr [] (hp h0 ids xs) u:=fun _=>
 Afk hf (hI.sub xs) (.same _) ⟨rfl,rfl⟩
end
end
def hE:Ag:=fun _=>none
theorem Ajc (h:Ag):Sub hE h:=fun o x hx=>by cases hx
inductive Free:AV→Prop
 | bool (b:Bool):Free (.bool b)
 | int (k:IntKind) (n:Int):Free (.int k n)
 | str (s:List UInt8):Free (.str s)
 | tup (vs:List AV) (h : ∀ i,i<vs.length→Free (vs.getD i .und)):Free (.tup vs)
 | agg (vs:List AV) (h : ∀ i,i<vs.length→Free (vs.getD i .und)):Free (.agg vs)
theorem Free.rv {w:World}{mu mu':Mu}{M M':Nat→Prop}{v:AV}(hv:Free v) : ∀ {c:Value},Rv w mu M v c→Rv w mu' M' v c:=by
 induction hv with
 | bool b=>intro c h; cases h; exact .bool b
 | int k n=>intro c h; cases h; exact .int k n
 | str s=>intro c h; cases h; exact .str s
 | tup vs h ih=>intro c hc; cases hc with | tup _ cs hl hp=>exact .tup vs cs hl fun i hi=>ih i hi (hp i hi)
 | agg vs h ih=>intro c hc; cases hc with | agg _ cs hl hp=>exact .agg vs cs hl fun i hi=>ih i hi (hp i hi)
theorem Free.tup2 {a b:AV}(ha:Free a)(hb:Free b):Free (.tup [a,b]):=.tup _ fun i hi=>by
 match i,hi with
 | 0,_=>exact ha
 | 1,_=>exact hb
theorem Free.tup0:Free (.tup []):=.tup _ fun i hi=>by simp at hi
theorem Sc.free (x:Sc):Free x.av:=by
 cases x with
 | int k n=>exact .int k n
 | str s=>exact .str s
 | bool b=>exact .bool b
 | unit=>exact .agg [] fun i hi=>by simp at hi
 | two k1 k2 a b=>
  refine .agg _ fun i hi=>?_
  match i,hi with
  | 0,_=>exact .int k1 a
  | 1,_=>exact .int k2 b
 | one k a=>
  refine .agg _ fun i hi=>?_
  match i,hi with
  | 0,_=>exact .int k a
theorem Sim.back {P:Program}[GW P]{B:Base P}{mu mu':Mu}{h:Ag}{w w':World}(s:Sim B mu h w)(s':Sim B mu' hE w')(e:Et hE mu w hE mu' w'):Sim B mu' h w'∧Et h mu w h mu' w':=by
 have hn : ∀ m b,¬ Do hE m b:=by rintro m b ⟨o,x,l,hx,_⟩; cases hx
 have hold : ∀ b,b<w.heap.size→w'.heap[b]? = w.heap[b]? := fun b hb=>(e.same b hb (hn _ _)).1
 have live : ∀ {o x},h o=some x → ∃ l,mu o x.gen=some l:=by
  intro o x hx
  cases x with
  | rows g st rs=>obtain⟨l,h1,_⟩:=s.rows _ _ _ _ hx; exact⟨l,h1⟩
  | mp g es=>obtain⟨l,h1,_⟩:=s.maps _ _ _ hx; exact⟨l,h1⟩
  | blk g x=>obtain⟨l,h1,_⟩:=s.blks _ _ _ hx; exact⟨l,h1⟩
 have hmut : ∀ b,Do h mu' b→Do h mu b:=by
  rintro b ⟨o,x,l,hx,hl,rfl⟩
  obtain⟨l',hl'⟩:=live hx
  have:=e.mu _ _ _ hl'
  rw [hl] at this; cases this
  exact⟨o,x,l,hx,hl',rfl⟩
 have ext:Et h mu w h mu' w':=⟨e.os,e.tape,e.output,e.size,fun b hb hm=>⟨hold b hb,fun hm'=>hm (hmut b hm')⟩,e.mu⟩
 refine⟨⟨s'.base,s'.muOk,s'.fin,s.finh,?_,?_,?_,s.globE ext,fun o g x hx=>let ⟨l,h1,h2,h3⟩:=s.blks _ _ _ hx; ⟨l,e.mu _ _ _ h1,h2,by rw [hold _ (s.muOk _ _ _ h1).2.1]; exact h3⟩⟩,ext⟩
 ·intro o g st rs hx
  obtain⟨l,h1,h2,h3,h4,h5,h6⟩:=s.rows _ _ _ _ hx
  refine⟨l,e.mu _ _ _ h1,h2,h3,h4,h5,fun i j hi hj=>?_⟩
  obtain⟨c,hc1,hc2⟩:=h6 i j hi hj
  refine⟨c,?_,hc2.ext ext⟩
  rw [cell?_of_heap (w:=w) (w':=w') (a:=⟨l.b,l.base+i * st+j,none⟩) (hold _ (s.muOk _ _ _ h1).2.1)]; exact hc1
 ·intro o g es hx
  obtain⟨l,h1,h2,ens,clock,h3,h4,h5⟩:=s.maps _ _ _ hx
  exact⟨l,e.mu _ _ _ h1,h2,ens,clock,by rw [hold _ (s.muOk _ _ _ h1).2.1]; exact h3,h4,fun i hi=>⟨(h5 i hi).1.ext ext,(h5 i hi).2.ext ext⟩⟩
 ·intro o o' x x' l l' hx hx' hl hl' hb
  obtain⟨m,hm⟩:=live hx
  obtain⟨m',hm'⟩:=live hx'
  have e1:=e.mu _ _ _ hm
  have e2:=e.mu _ _ _ hm'
  rw [hl] at e1; cases e1
  rw [hl'] at e2; cases e2
  exact s.inj _ _ _ _ _ _ hx hx' hm hm' hb
def LFz (h:Ag):List AV→List AV→Prop
 | [],[]=>True
 | a::l,a'::l'=>Fz h hE a a'∧LFz h l l'
 | _,_=>False
theorem LFz.len {h:Ag} : ∀ {l l':List AV},LFz h l l'→l.length=l'.length ∧ ∀ i,i<l.length→Fz h hE (l.getD i .und) (l'.getD i .und)
 | [],[],_=>⟨rfl,fun i hi=>by simp at hi⟩
 | a::l,a'::l',hx=>by
  obtain⟨h1,h2⟩:=LFz.len hx.2
  refine⟨by simp [h1],fun i hi=>?_⟩
  cases i with
  | zero=>exact hx.1
  | succ i=>simpa using h2 i (by simpa using hi)
theorem CP.lend {α:Type}{P:Program}[GW P]{g:FuncId}{args args':List AV}{m:R α}{e:α→AV}{h:Ag}(hc:CP P g args' m e)(hz:LFz h args args')(hfree : ∀ a,m=.ok a→Free (e a))(hb:m≠.bad) :
  Bw P g args h (Xg e h m):=by
 obtain⟨hbody,hcall⟩:=hc hE hb
 refine⟨hbody,fun B mu w cargs s ha=>?_⟩
 obtain⟨hlen,hfz⟩:=hz.len
 have ha':N5 hE mu w args' cargs.toList:=⟨hlen ▸ ha.1,fun i hi=>Nx s (Ajc h) (hfz i (hlen ▸ hi)) (ha.2 i (hlen ▸ hi))⟩
 refine(hcall B mu w cargs (s.sub (Ajc h)) ha').mono ?_
 rintro en w' ⟨r,h',mu',⟨rfl,hr⟩,hs',hext,hE'⟩
 obtain⟨k1,k2⟩:=s.back hs' hext
 refine⟨r,h,mu',⟨rfl,hr⟩,k1,k2,?_⟩
 cases hm:m with
 | bad=>exact absurd hm hb
 | ok a=>
  rw [hm] at hr
  subst hr
  cases en with
  | returned c=>exact(hfree a hm).rv hE'
  | panicked _=>exact hE'.elim
  | outgrown=>exact hE'.elim
 | pan v=>
  rw [hm] at hr
  subst hr
  obtain⟨x,rfl,x1,x2,x3⟩:=hE'.panic_inv
  refine⟨x1,x2,?_⟩
  obtain⟨xv,xr,xg⟩:=x
  simp only [PV.av] at x3
  cases x3 with
  | iface _ _ c hc=>exact .iface _ _ c (v.x.free.rv hc)
section
variable {P:Program} [GW P] {f:FuncId} {n:Nat} {d:FK} {β:Type} {Q:Spec β} {ds:List AD} {h:Ag} {u:AU} {k:List Item} {l:List (Nat×AV)}
variable {all r:List Oper} {ty:TypeId} {pos:String} {after:Array Edge}
theorem Amn {α:Type}{t:Nat}{x:Operand}{as0:List Operand}{ts:Array TypeId}{g:FuncId}{fst cap A:List AV}{gd:Option (Nat×Bool)}{mg:R α}{e:α→AV}{rest:α→R β}(ht:Nat.blt t n=true)(hw:Fl all (A0 l) ⟨some t,.call ⟨.value x,⟨as0⟩,ts⟩,ty,pos,after,gd⟩=some true)(hx:ev (A0 l) x=.func (.func g) fst cap)
  (ha:fst++G6 (A0 l) as0++cap=A) (hc:mg≠.bad→Bw P g A h (Xg e h mg)) (hp : ∀ v,mg=.pan v→WU P f n d Q (.pan v) (.pan v.av false) (A0 l) ds h u) (hk : ∀ a,mg=.ok a→WO P f n d Q k all (rest a) r (A0 ((t,e a)::l)) ds h u) :
  WO P f n d Q k all (mg.bind rest) (⟨some t,.call ⟨.value x,⟨as0⟩,ts⟩,ty,pos,after,gd⟩::r) (A0 l) ds h u:=by
 refine Ng (by simpa [F1] using ht) hw fun hb K U hK hU=>?_
 simp only [Ib,hx]
 rw [ha]
 have hmb:mg≠.bad:=fun q=>by rw [q] at hb; exact Q.bad hb
 refine(hc hmb).mono fun r' h' hr=>?_
 obtain⟨rfl,hr⟩:=hr
 cases hm:mg with
 | bad=>exact absurd hm hmb
 | ok a=>
  rw [hm] at hr hb hK
  subst hr
  exact hK _ _ _ _ (by rw [Ey]; exact hk a hm)
 | pan v=>
  rw [hm] at hr hb hU
  subst hr
  exact hU _ _ _ _ _ (hp v hm hb)
theorem Aee {dst:Option Tmp}{x:Operand}{v:PV}(hd:F1 n dst=true)(hx:ev (A0 l) x=v.av)(hp:WU P f n d Q (.pan v) (.pan v.av false) (A0 l) ds h u) :
  WO P f n d Q k all (.pan v) (⟨dst,.panic x,ty,pos,after,none⟩::r) (A0 l) ds h u:=by
 refine Ng hd rfl fun hb K U hK hU=>?_
 simp only [Ib,hx,PV.av]
 exact hU _ _ _ _ _ (hp hb)
theorem Ll {α:Type}{m:R β}{todo:List Item}{fr:Nat→AV}{st t:Nat}{e:α→List AV}{L:List α}(hv:fr t=.sl st (L.map e))(hk:L.length≤C2→WR P f n d Q m todo fr ds h u):WR P f n d Q m todo fr ds h u:=fun hb=>
 Ajl t fun hw=>hk (by rw [hv] at hw; simpa using hw.lim) hb
theorem Ams {m:R β}{todo:List Item}{fr:Nat→AV}{v:AV}{o g t i:Nat}(hv:fr t=v)(ho:Bs v o g i)(hk:i≤C2→WR P f n d Q m todo fr ds h u):WR P f n d Q m todo fr ds h u:=fun hb=>
 Ajl t fun hw=>hk (by
  rw [hv] at hw
  rcases ho with⟨_,rfl⟩ | rfl
  ·exact Nat.zero_le _
  ·exact hw.ref) hb
end
end Go.Am
namespace Go.Am
open Go
set_option linter.unusedSimpArgs false
set_option linter.unusedVariables false
set_option linter.unusedSectionVars false
def E3 {α σ:Type}(body:Nat→α→σ→R σ):Nat→List α→σ→R σ
 | _,[],s=>.ok s
 | k,a::l,s=>(body k a s).bind fun s'=>E3 body (k+1) l s'
@[simp] theorem Aoi {α σ:Type}(body:Nat→α→σ→R σ)(k:Nat)(s:σ):E3 body k [] s=.ok s:=rfl
theorem Aih {α σ:Type}(body:Nat→α→σ→R σ)(k:Nat)(a:α)(l:List α)(s:σ):E3 body k (a::l) s=(body k a s).bind fun s'=>E3 body (k+1) l s':=rfl
section
variable {P:Program} [GW P] {f:FuncId} {n:Nat} {d:FK} {β γ:Type} {Q:Spec β} {fr:Nat→AV} {ds:List AD} {h:Ag} {u:AU} {k:List Item} {l:List (Nat×AV)} {F:γ→R β}
theorem B4 {m:R β}{todo:List Item}(hr:WR P f n d Q (m.bind R.ok) todo fr ds h u):WR P f n d Q m todo fr ds h u:=by rwa [R.bind_ok] at hr
theorem Ax {m m':R γ}{todo:List Item}(e:m=m')(hr:WR P f n d Q (m'.bind F) todo fr ds h u):WR P f n d Q (m.bind F) todo fr ds h u:=e ▸ hr
theorem H3 {c:Operand}{x y:Code}{p:Prop}[Decidable p]{A B:R γ}(hc:ev fr c=.bool (decide p))(ht:p→WR P f n d Q (A.bind F) (.code x::k) fr ds h u)(hf:¬ p→WR P f n d Q (B.bind F) (.code y::k) fr ds h u):WR P f n d Q ((if p then A else B).bind F) (.code (.cond c x y)::k) fr ds h u:=by
 have e:(if p then A else B).bind F=if p then A.bind F else B.bind F:=by split <;> rfl
 rw [e]; exact Anm hc ht hf
theorem Cn {c:Operand}{x y:Code}{b:Bool}{A B:R γ}(hc:ev fr c=.bool b)(ht:b=true→WR P f n d Q (A.bind F) (.code x::k) fr ds h u)(hf:b=false→WR P f n d Q (B.bind F) (.code y::k) fr ds h u):WR P f n d Q ((if b then A else B).bind F) (.code (.cond c x y)::k) fr ds h u:=by
 have e:(if b then A else B).bind F=if b then A.bind F else B.bind F:=by split <;> rfl
 rw [e]; exact Am8 hc ht hf
theorem D4 {π:Type}(rest:π→R γ)(St:π→(Nat→AV)→Ag→Prop){m:R γ}{i:Item}(hk : ∀ p fr h,St p fr h→WR P f n d Q ((rest p).bind F) k fr ds h u)
  (hx:(∀ p fr h,St p fr h→WR P f n d Q ((rest p).bind F) k fr ds h u)→WR P f n d Q (m.bind F) (i::k) fr ds h u):WR P f n d Q (m.bind F) (i::k) fr ds h u:=hx hk
theorem Amc {σ ε:Type}{c:Code}(body:σ→R (σ ⊕ ε))(rest:ε→R γ)(St:σ→(Nat→AV)→Ag→Prop)(s0:σ)(hs:St s0 fr h)
  (round : ∀ W:σ→R ε,(∀ s fr h,St s fr h→WR P f n d Q (((W s).bind rest).bind F) (.inLoop c::k) fr ds h u) → ∀ s fr h,St s fr h →
   WR P f n d Q ((body s).bind fun x=>match x with | .inl s'=>((W s').bind rest).bind F | .inr e=>(rest e).bind F) (.code c::.inLoop c::k) fr ds h u) :
  WR P f n d Q (((loop body s0).bind rest).bind F) (.code (.loop c)::k) fr ds h u:=by
 refine Qs (R.bind_assoc _ _ _) (Amh body (fun x=>(rest x).bind F) St s0 hs fun W hW s fr h hs=>?_)
 have:=round W (fun s fr h hs=>Qs (R.bind_assoc _ _ _) (hW s fr h hs)) s fr h hs
 refine Qs ?_ this
 congr 1
 funext x
 cases x with
 | inl s'=>exact(R.bind_assoc _ _ _).symm
 | inr e=>rfl
theorem Ahu {α σ ε:Type}{c:Code}(L:List α)(body:Nat→α→σ→R (σ ⊕ ε))(rest:σ ⊕ ε→R γ)(St:Nat→σ→(Nat→AV)→Ag→Prop)(s0:σ)(hs:St 0 s0 fr h)
  (round : ∀ (j:Nat) (a:α),L[j]? = some a → ∀ W:σ→R (σ ⊕ ε),(∀ s fr h,St (j+1) s fr h→WR P f n d Q (((W s).bind rest).bind F) (.inLoop c::k) fr ds h u) → ∀ s fr h,St j s fr h →
   WR P f n d Q ((body j a s).bind fun x=>match x with | .inl s'=>((W s').bind rest).bind F | .inr e=>(rest (.inr e)).bind F) (.code c::.inLoop c::k) fr ds h u)
  (fin : ∀ s fr h,St L.length s fr h→WR P f n d Q ((rest (.inl s)).bind F) (.code c::.inLoop c::k) fr ds h u) :
  WR P f n d Q (((each body 0 L s0).bind rest).bind F) (.code (.loop c)::k) fr ds h u:=by
 refine Qs (R.bind_assoc _ _ _) (Am9 L body (fun x=>(rest x).bind F) St s0 hs (fun j a ha W hW s fr h hs=>?_) fin)
 have:=round j a ha W (fun s fr h hs=>Qs (R.bind_assoc _ _ _) (hW s fr h hs)) s fr h hs
 refine Qs ?_ this
 congr 1
 funext x
 cases x with
 | inl s'=>exact(R.bind_assoc _ _ _).symm
 | inr e=>rfl
theorem Aj3 {α σ:Type}(body:Nat→α→σ→R σ) : ∀ (L:List α) (j:Nat) (s:σ),(each (ε:=Empty) (fun j a s=>(body j a s).bind fun s'=>.ok (.inl s')) j L s).bind (fun | .inl s=>.ok s | .inr e=>nomatch e)=E3 body j L s
 | [],j,s=>rfl
 | a::l,j,s=>by
  rw [N1,Aih]
  cases body j a s with
  | ok s'=>exact Aj3 body l (j+1) s'
  | pan v=>rfl
  | bad=>rfl
theorem Alk {α σ:Type}{c:Code}(L:List α)(body:Nat→α→σ→R σ)(rest:σ→R γ)(St:Nat→σ→(Nat→AV)→Ag→Prop)(s0:σ)(hs:St 0 s0 fr h)
  (round : ∀ (j:Nat) (a:α),L[j]? = some a → ∀ W:σ→R σ,(∀ s fr h,St (j+1) s fr h→WR P f n d Q (((W s).bind rest).bind F) (.inLoop c::k) fr ds h u) → ∀ s fr h,St j s fr h →
   WR P f n d Q ((body j a s).bind fun s'=>((W s').bind rest).bind F) (.code c::.inLoop c::k) fr ds h u)
  (fin : ∀ s fr h,St L.length s fr h→WR P f n d Q ((rest s).bind F) (.code c::.inLoop c::k) fr ds h u) :
  WR P f n d Q (((E3 body 0 L s0).bind rest).bind F) (.code (.loop c)::k) fr ds h u:=by
 rw [← Aj3]
 rw [R.bind_assoc (each _ _ _ _)]
 refine Ahu (ε:=Empty) L _ _ St s0 hs (fun j a ha W hW s fr h hs=>?_) (fun s fr h hs=>fin s fr h hs)
 have:=round j a ha (fun s=>(W s).bind fun | .inl s=>.ok s | .inr e=>nomatch e) (fun s fr h hs=>by rw [R.bind_assoc (W s)]; exact hW s fr h hs) s fr h hs
 refine Qs ?_ this
 rw [R.bind_assoc]
 congr 1
 funext s'
 simp only [R.ok_bind]
 cases W s' with
 | ok x=>
  cases x with
  | inl s=>rfl
  | inr e=>exact nomatch e
 | pan v=>rfl
 | bad=>rfl
section
variable {all r:List Oper} {ty:TypeId} {pos:String} {after:Array Edge}
theorem Hh {α:Type}{L:List α}{i:Int}{rest:α→R γ}{ops:List Oper}(hk : ∀ a,0≤i→L[i.toNat]? = some a→WO P f n d Q k all ((rest a).bind F) ops fr ds h u):WO P f n d Q k all (((Cd L i).bind rest).bind F) ops fr ds h u:=
 Abq (R.bind_assoc _ _ _) (Anc hk)
theorem Li {p:Prop}[Decidable p]{rest:R γ}{ops:List Oper}(hk:p→WO P f n d Q k all (rest.bind F) ops fr ds h u):WO P f n d Q k all ((if p then rest else .bad).bind F) ops fr ds h u:=by
 have e:(if p then rest else .bad).bind F=if p then rest.bind F else .bad:=by split <;> rfl
 rw [e]; exact Am2 hk
theorem Am7 {b:Bool}{A B:R γ}{ops:List Oper}(ht:b=true→WO P f n d Q k all (A.bind F) ops fr ds h u)(hf:b=false→WO P f n d Q k all (B.bind F) ops fr ds h u):WO P f n d Q k all ((if b then A else B).bind F) ops fr ds h u:=by
 have e:(if b then A else B).bind F=if b then A.bind F else B.bind F:=by split <;> rfl
 rw [e]; exact Amf ht hf
theorem Bn {α:Type}{t:Nat}{x:Operand}{as0:List Operand}{ts:Array TypeId}{g:FuncId}{fst cap:List AV}{gd:Option (Nat×Bool)}(A:List AV){mg:R α}{e:α→AV}{rest:α→R γ}(ht:Nat.blt t n=true)(hw:Fl all (A0 l) ⟨some t,.call ⟨.value x,⟨as0⟩,ts⟩,ty,pos,after,gd⟩=some true)(hx:ev (A0 l) x=.func (.func g) fst cap)
  (ha:fst++G6 (A0 l) as0++cap=A) (hc:mg≠.bad→Bw P g A h (Xg e h mg)) (hp : ∀ v,mg=.pan v→WU P f n d Q (.pan v) (.pan v.av false) (A0 l) ds h u) (hk : ∀ a,mg=.ok a→WO P f n d Q k all ((rest a).bind F) r (A0 ((t,e a)::l)) ds h u) :
  WO P f n d Q k all ((mg.bind rest).bind F) (⟨some t,.call ⟨.value x,⟨as0⟩,ts⟩,ty,pos,after,gd⟩::r) (A0 l) ds h u:=
 Abq (R.bind_assoc _ _ _) (Amn ht hw hx ha hc hp hk)
end
end
end Go.Am
namespace Go.Am
open Go
section
variable {α β γ δ ε ζ η θ τ:Type} {κ:Sort _}
@[reducible] def Eu (f:α→β→κ):α×β→κ | (a,b)=>f a b
@[reducible] def Kd (f:α→β→γ→κ):α×β×γ→κ | (a,b,c)=>f a b c
@[reducible] def un4 (f:α→β→γ→δ→κ):α×β×γ×δ→κ | (a,b,c,d)=>f a b c d
@[reducible] def un5 (f:α→β→γ→δ→ε→κ):α×β×γ×δ×ε→κ | (a,b,c,d,e)=>f a b c d e
@[simp] theorem Anh (f:α→β→κ)(a:α)(b:β):Eu f (a,b)=f a b:=rfl
@[simp] theorem Ape (f:α→β→γ→κ)(a:α)(b:β)(c:γ):Kd f (a,b,c)=f a b c:=rfl
@[simp] theorem Ao8 (f:α→β→γ→δ→κ)(a:α)(b:β)(c:γ)(d:δ):un4 f (a,b,c,d)=f a b c d:=rfl
@[simp] theorem Apc (f:α→β→γ→δ→ε→κ)(a:α)(b:β)(c:γ)(d:δ)(e:ε):un5 f (a,b,c,d,e)=f a b c d e:=rfl
@[reducible] def G9 (f:α→κ)(g:β→κ):α ⊕ β→κ | .inl a=>f a | .inr b=>g b
@[simp] theorem Sd (f:α→κ)(g:β→κ)(a:α):G9 f g (.inl a)=f a:=rfl
@[simp] theorem Ao4 (f:α→κ)(g:β→κ)(b:β):G9 f g (.inr b)=g b:=rfl
end
def Agc {σ ε γ β:Type}(W:σ→R ε)(rest:ε→R γ)(F:γ→R β):σ ⊕ ε→R β
 | .inl s'=>((W s').bind rest).bind F
 | .inr e=>(rest e).bind F
def Aef {σ ε γ β:Type}(W:σ→R (σ ⊕ ε))(rest:σ ⊕ ε→R γ)(F:γ→R β):σ ⊕ ε→R β
 | .inl s'=>((W s').bind rest).bind F
 | .inr e=>(rest (.inr e)).bind F
def Ajj {σ γ β:Type}(W:σ→R σ)(rest:σ→R γ)(F:γ→R β):σ→R β
 | s'=>((W s').bind rest).bind F
def Ab7 {α γ β:Type}(rest:α→R γ)(F:γ→R β):α→R β
 | a=>(rest a).bind F
section
variable {P:Program} [GW P] {f:FuncId} {n:Nat} {d:FK} {β γ:Type} {Q:Spec β} {fr:Nat→AV} {ds:List AD} {h:Ag} {u:AU} {k:List Item} {l:List (Nat×AV)} {F:γ→R β}
theorem Lj {σ ε:Type}{W:σ→R ε}{rest:ε→R γ}{todo:List Item}{s:σ}(hr:WR P f n d Q (((W s).bind rest).bind F) todo fr ds h u):WR P f n d Q ((R.ok (.inl s)).bind (Agc W rest F)) todo fr ds h u:=hr
theorem Kj {σ ε:Type}{W:σ→R ε}{rest:ε→R γ}{todo:List Item}{e:ε}(hr:WR P f n d Q ((rest e).bind F) todo fr ds h u):WR P f n d Q ((R.ok (.inr e)).bind (Agc W rest F)) todo fr ds h u:=hr
theorem R1 {σ ε:Type}{W:σ→R (σ ⊕ ε)}{rest:σ ⊕ ε→R γ}{todo:List Item}{s:σ}(hr:WR P f n d Q (((W s).bind rest).bind F) todo fr ds h u):WR P f n d Q ((R.ok (.inl s)).bind (Aef W rest F)) todo fr ds h u:=hr
theorem Sa {σ ε:Type}{W:σ→R (σ ⊕ ε)}{rest:σ ⊕ ε→R γ}{todo:List Item}{e:ε}(hr:WR P f n d Q ((rest (.inr e)).bind F) todo fr ds h u):WR P f n d Q ((R.ok (.inr e)).bind (Aef W rest F)) todo fr ds h u:=hr
theorem Qu {σ:Type}{W:σ→R σ}{rest:σ→R γ}{todo:List Item}{s:σ}(hr:WR P f n d Q (((W s).bind rest).bind F) todo fr ds h u):WR P f n d Q ((R.ok s).bind (Ajj W rest F)) todo fr ds h u:=hr
theorem Af4 {α' β':Type}{f1:α'→R γ}{g1:β'→R γ}{todo:List Item}{a:α'}(hr:WR P f n d Q ((f1 a).bind F) todo fr ds h u):WR P f n d Q ((G9 f1 g1 (.inl a)).bind F) todo fr ds h u:=hr
theorem Ps {α' β':Type}{f1:α'→R γ}{g1:β'→R γ}{todo:List Item}{b:β'}(hr:WR P f n d Q ((g1 b).bind F) todo fr ds h u):WR P f n d Q ((G9 f1 g1 (.inr b)).bind F) todo fr ds h u:=hr
theorem Mx {σ ε:Type}{c:Code}(body:σ→R (σ ⊕ ε))(rest:ε→R γ)(St:σ→(Nat→AV)→Ag→Prop)(s0:σ)(hs:St s0 fr h)
  (round : ∀ W:σ→R ε,(∀ s fr h,St s fr h→WR P f n d Q (((W s).bind rest).bind F) (.inLoop c::k) fr ds h u) → ∀ s fr h,St s fr h →
   WR P f n d Q ((body s).bind (Agc W rest F)) (.code c::.inLoop c::k) fr ds h u) :
  WR P f n d Q (((loop body s0).bind rest).bind F) (.code (.loop c)::k) fr ds h u:=
 Amc body rest St s0 hs fun W hW s fr h hs=>by
  refine Qs ?_ (round W hW s fr h hs)
  congr 1
theorem Qw {α σ ε:Type}{c:Code}(L:List α)(body:Nat→α→σ→R (σ ⊕ ε))(rest:σ ⊕ ε→R γ)(St:Nat→σ→(Nat→AV)→Ag→Prop)(s0:σ)(hs:St 0 s0 fr h)
  (round : ∀ (j:Nat) (a:α),L[j]? = some a → ∀ W:σ→R (σ ⊕ ε),(∀ s fr h,St (j+1) s fr h→WR P f n d Q (((W s).bind rest).bind F) (.inLoop c::k) fr ds h u) → ∀ s fr h,St j s fr h →
   WR P f n d Q ((body j a s).bind (Aef W rest F)) (.code c::.inLoop c::k) fr ds h u)
  (fin : ∀ s fr h,St L.length s fr h→WR P f n d Q ((rest (.inl s)).bind F) (.code c::.inLoop c::k) fr ds h u) :
  WR P f n d Q (((each body 0 L s0).bind rest).bind F) (.code (.loop c)::k) fr ds h u:=
 Ahu L body rest St s0 hs (fun j a ha W hW s fr h hs=>by
  refine Qs ?_ (round j a ha W hW s fr h hs)
  congr 1) fin
theorem Lc {α σ:Type}{c:Code}(L:List α)(body:Nat→α→σ→R σ)(rest:σ→R γ)(St:Nat→σ→(Nat→AV)→Ag→Prop)(s0:σ)(hs:St 0 s0 fr h)
  (round : ∀ (j:Nat) (a:α),L[j]? = some a → ∀ W:σ→R σ,(∀ s fr h,St (j+1) s fr h→WR P f n d Q (((W s).bind rest).bind F) (.inLoop c::k) fr ds h u) → ∀ s fr h,St j s fr h →
   WR P f n d Q ((body j a s).bind (Ajj W rest F)) (.code c::.inLoop c::k) fr ds h u)
  (fin : ∀ s fr h,St L.length s fr h→WR P f n d Q ((rest s).bind F) (.code c::.inLoop c::k) fr ds h u) :
  WR P f n d Q (((E3 body 0 L s0).bind rest).bind F) (.code (.loop c)::k) fr ds h u:=Alk L body rest St s0 hs round fin
theorem Lm {c:Operand}{x y:Code}{b:Bool}{A B:R γ}(hc:ev fr c=.bool (!b))(ht:b=true→WR P f n d Q (A.bind F) (.code y::k) fr ds h u)(hf:b=false→WR P f n d Q (B.bind F) (.code x::k) fr ds h u):WR P f n d Q ((if b then A else B).bind F) (.code (.cond c x y)::k) fr ds h u:=by
 intro hb
 cases hq:b with
 | true=>simp only [hq,if_true] at hb ⊢; exact Qy (b:=false) (by rw [hc,hq]; rfl) (ht hq hb)
 | false=>simp only [hq,Bool.false_eq_true,if_false] at hb ⊢; exact Qy (b:=true) (by rw [hc,hq]; rfl) (hf hq hb)
section
variable {all r:List Oper} {ty:TypeId} {pos:String} {after:Array Edge}
theorem Ed {π:Type}{m:R γ}{ops:List Oper}(i:Nat)(rest:π→R γ)(St:π→(Nat→AV)→Ag→Prop)(hk : ∀ p fr h,St p fr h→WO P f n d Q k all ((rest p).bind F) (ops.drop i) fr ds h u)
  (hx:(∀ p fr h,St p fr h→WO P f n d Q k all ((rest p).bind F) (ops.drop i) fr ds h u)→WO P f n d Q k all (m.bind F) ops fr ds h u):WO P f n d Q k all (m.bind F) ops fr ds h u:=hx hk
theorem B3 {m:R β}{ops:List Oper}(b:Bool)(ht:b=true→WO P f n d Q k all m ops fr ds h u)(hf:b=false→WO P f n d Q k all m ops fr ds h u):WO P f n d Q k all m ops fr ds h u:=by
 cases hq:b with
 | true=>exact ht hq
 | false=>exact hf hq
theorem E4 {α:Type}{b:Bool}{A B:R α}{rest:α→R γ}{ops:List Oper}(ht:b=true→WO P f n d Q k all (A.bind (Ab7 rest F)) ops fr ds h u)(hf:b=false→WO P f n d Q k all (B.bind (Ab7 rest F)) ops fr ds h u):WO P f n d Q k all (((if b then A else B).bind rest).bind F) ops fr ds h u:=by
 have e : ∀ X:R α,(X.bind rest).bind F=X.bind (Ab7 rest F):=fun X=>R.bind_assoc _ _ _
 rw [e]
 exact Am7 ht hf
theorem Bz {α:Type}{rest:α→R γ}{ops:List Oper}{a:α}(hr:WO P f n d Q k all ((rest a).bind F) ops fr ds h u):WO P f n d Q k all ((R.ok a).bind (Ab7 rest F)) ops fr ds h u:=hr
end
end
theorem Fs {a b:Bool}(h:a=true):AV.bool b=.bool (a&&b):=by rw [h]; rfl
theorem Ft {a b:Bool}(h:a=false):AV.bool false=.bool (a&&b):=by rw [h]; rfl
theorem Lb {a b:Bool}(h:a=true):AV.bool true=.bool (a||b):=by rw [h]; rfl
theorem K7 {a b:Bool}(h:a=false):AV.bool b=.bool (a||b):=by rw [h]; rfl
section
variable {P:Program} [GW P] {f:FuncId} {n:Nat} {d:FK} {β:Type} {Q:Spec β} {m:R β} {fr:Nat→AV} {ds:List AD} {h:Ag} {u:AU} {k:List Item} {l:List (Nat×AV)}
theorem Hp {c:Operand}{x y:Code}{p:Prop}[Decidable p](hc:ev fr c=.bool (decide p))(hp:p)(hr:WR P f n d Q m (.code x::k) fr ds h u):WR P f n d Q m (.code (.cond c x y)::k) fr ds h u:=fun hb=>Qy (b:=true) (by rw [hc]; simp [hp]) (hr hb)
theorem Ho {c:Operand}{x y:Code}{p:Prop}[Decidable p](hc:ev fr c=.bool (decide p))(hp:¬ p)(hr:WR P f n d Q m (.code y::k) fr ds h u):WR P f n d Q m (.code (.cond c x y)::k) fr ds h u:=fun hb=>Qy (b:=false) (by rw [hc]; simp [hp]) (hr hb)
end
inductive LF (h h2:Ag):List AV→List AV→Prop
 | nil:LF h h2 [] []
 | cons {a b:AV} {l l':List AV} (hx:Fz h h2 a b) (hr:LF h h2 l l'):LF h h2 (a::l) (b::l')
theorem LF.all {h h2:Ag}{l l':List AV}(hx:LF h h2 l l'):l.length=l'.length ∧ ∀ i,i<l.length→Fz h h2 (l.getD i .und) (l'.getD i .und):=by
 induction hx with
 | nil=>exact⟨rfl,fun i hi=>by simp at hi⟩
 | cons hx hr ih=>
  refine⟨by simp [ih.1],fun i hi=>?_⟩
  cases i with
  | zero=>exact hx
  | succ i=>simpa using ih.2 i (by simpa using hi)
theorem Fz.tupL {h h2:Ag}{l l':List AV}(hx:LF h h2 l l'):Fz h h2 (.tup l) (.tup l'):=.tup l l' hx.all.1 hx.all.2
theorem Fz.aggL {h h2:Ag}{l l':List AV}(hx:LF h h2 l l'):Fz h h2 (.agg l) (.agg l'):=.agg l l' hx.all.1 hx.all.2
theorem LF.lfz {h:Ag}{l l':List AV}(hx:LF h hE l l'):LFz h l l':=by
 induction hx with
 | nil=>trivial
 | cons hx hr ih=>exact⟨hx,ih⟩
end Go.Am
namespace Go.Am
open Go
set_option linter.unusedSimpArgs false
set_option linter.unusedVariables false
set_option linter.unusedSectionVars false
section
variable {P:Program} [GW P] {h:Ag} {fr:Nat→AV}
theorem Cq:Hn P h fr []=some []:=rfl
theorem Dt {t:Nat}{r:List ResultVar}{vs:List AV}(hr:Hn P h fr r=some vs):Hn P h fr (.tmp t::r)=some (fr t::vs):=by simp only [Hn,hr,Option.map_some]
theorem B7 {a:Nat}{t:TypeId}{r:List ResultVar}{v:AV}{vs:List AV}(hv:Of P h t (fr a)=some v)(hr:Hn P h fr r=some vs):Hn P h fr (.cell a t::r)=some (v::vs):=by simp only [Hn,hr,hv]
theorem Fr {α:Type}{e:α→List AV}{L:List α}{st n:Nat}{b:Bool}(hs:st=n):Ow P h n b (.sl st (L.map e))=some (L.map e):=by simp only [Ow,if_pos hs]
end
section
variable {P:Program} [GW P] {f:FuncId} {n:Nat} {d:FK} {β:Type} {Q:Spec β} {m:R β} {ds:List AD} {u:AU} {k:List Item} {l:List (Nat×AV)}
variable {all r:List Oper} {ty:TypeId} {pos:String} {after:Array Edge}
variable {h0:Ag} {ids:List Nat} {xs:List (Option AO)} {N:Nat}
theorem Ce {ops:List Oper}{fr:Nat→AV}{h:Ag}(i:Nat)(l':List (Nat×AV))(hk:WO P f n d Q k all m (ops.drop i) (A0 l') ds h u)(hx:WO P f n d Q k all m (ops.drop i) (A0 l') ds h u→WO P f n d Q k all m ops fr ds h u):WO P f n d Q k all m ops fr ds h u:=hx hk
section
variable {α:Type} {e:α→List AV} {L L2:List α} {v:AV} {g st j:Nat}
theorem D8 {sT xT et:TypeId}{a1 b1 a2 b2:Nat}{z1 z2:List AV}{E:TI}{s x:Operand}{K2:TK}{fr:Nat→AV}{K:AV→Ag→Prop}(hI:Ids h0 ids N)(hl:xs.length=N)(hjn:Nat.blt j N=true)
  (hs:ev fr s=v) (hv:Bs v (ix ids j) g L.length) (hj:xs[j]? = some (Ba v g st (L.map e)))
  (hxv:Ow P (hp h0 ids xs) E.size (decide (E.k=.int .u8)) (ev fr x)=some (L2.map e))
  (hS:ti P sT=some ⟨.sl et,a1,b1,z1⟩) (hX:ti P xT=some ⟨K2,a2,b2,z2⟩) (hK2:K2.many=true) (hE:ti P et=some E) (hst:st=E.size) (hsz:Nat.blt 0 E.size=true) (hby:Nat.blt 0 E.bytes=true) (hlim:(L.length+L2.length) * E.bytes≤C2)
  (hk : ∀ v' g',Bs v' (ix ids j) g' (L++L2).length→K v' (hp h0 ids (xs.set j (Ba v' g' st ((L++L2).map e))))) :
  F5 P fr (hp h0 ids xs) (.call ⟨.builtin .append,⟨[s,x]⟩,⟨[sT,xT]⟩⟩) K:=by
 have hsz':0<E.size:=by simpa using hsz
 have hby':0<E.bytes:=by simpa using hby
 simp only [F5,Mw,G6,List.map,P0,hS,hX,hE,hs,hxv,hK2,hsz',hby',true_and,List.length_map]
 rcases hv with⟨rfl,hn⟩ | rfl
 ·have:L=[]:=List.length_eq_zero_iff.1 hn
  subst this
  by_cases h2:L2.length=0
  ·have:L2=[]:=List.length_eq_zero_iff.1 h2
   subst this
   simp only [List.length_nil,if_true]
   have:=hk .emp g (.inl ⟨rfl,rfl⟩)
   have e1:xs.set j (Ba .emp g st (([]++[]:List α).map e))=xs:=by
    apply List.ext_getElem?
    intro i
    rw [List.getElem?_set]
    split
    ·rename_i hq; subst hq
     split
     ·exact hj.symm
     ·rename_i hq; rw [List.getElem?_eq_none (by omega)]
    ·rfl
   rw [e1] at this
   exact this
  ·rw [if_neg h2]
   refine⟨by simpa using hlim,Pv (ix ids j) (hI.at hl hj) fun g'=>?_⟩
   rw [hI.set hl hjn]
   have:=hk (.ref (ix ids j) g' 0 L2.length) g' (.inr (by simp))
   simp only [Ba,List.nil_append] at this
   rw [← hst]
   exact this
 ·have ha:=hI.at hl hj
  simp only [Ba] at ha
  simp only [ha]
  refine⟨trivial,hst,by simp,hlim,fun g'=>?_⟩
  rw [hI.set hl hjn]
  have:=hk (.ref (ix ids j) g' 0 (L.length+L2.length)) g' (.inr (by simp))
  simp only [Ba,List.map_append] at this
  have e1:(List.drop 0 (List.map e L)).take L.length=List.map e L:=by rw [List.drop_zero,List.take_of_length_le (by simp)]
  rw [e1]
  exact this
theorem Kc {t:Nat}{sT xT et:TypeId}{a1 b1 a2 b2:Nat}{z1 z2:List AV}{E:TI}{s x:Operand}{K2:TK}(hI:Ids h0 ids N)(hl:xs.length=N)(hjn:Nat.blt j N=true)(ht:Nat.blt t n=true)
  (hs:ev (A0 l) s=v) (hv:Bs v (ix ids j) g L.length) (hj:xs[j]? = some (Ba v g st (L.map e)))
  (hxv:Ow P (hp h0 ids xs) E.size (decide (E.k=.int .u8)) (ev (A0 l) x)=some (L2.map e))
  (hS:ti P sT=some ⟨.sl et,a1,b1,z1⟩) (hX:ti P xT=some ⟨K2,a2,b2,z2⟩) (hK2:K2.many=true) (hE:ti P et=some E) (hst:st=E.size) (hsz:Nat.blt 0 E.size=true) (hby:Nat.blt 0 E.bytes=true) (hlim:(L.length+L2.length) * E.bytes≤C2)
  (hk : ∀ v' g',Bs v' (ix ids j) g' (L++L2).length→WO P f n d Q k all m r (A0 ((t,v')::l)) ds (hp h0 ids (xs.set j (Ba v' g' st ((L++L2).map e)))) u) :
  WO P f n d Q k all m (⟨some t,.call ⟨.builtin .append,⟨[s,x]⟩,⟨[sT,xT]⟩⟩,ty,pos,after,none⟩::r) (A0 l) ds (hp h0 ids xs) u:=
 Vl ht (fun _ _=>rfl) fun K hK=>D8 hI hl hjn hs hv hj hxv hS hX hK2 hE hst hsz hby hlim fun v' g' hv'=>hK _ _ (hk v' g' hv')
theorem Amk {fr:Nat→AV}{K:AV→Ag→Prop}{sT et:TypeId}{a1 b1:Nat}{z1:List AV}{E:TI}{h:Ag}(hS:ti P sT=some ⟨.sl et,a1,b1,z1⟩)(hE:ti P et=some E)
  (hk:K .emp h) :
  F5 P fr h (.buildSlice sT 0 ⟨[]⟩) K:=by
 simp only [F5,Iv,hS,hE]
 rw [if_pos trivial]
 exact⟨rfl,.inl hk⟩
inductive RowSim:List AV→List AV→Prop
 | nil:RowSim [] []
 | cons {a b:AV} {l l':List AV} (h:CellSim a b) (r:RowSim l l'):RowSim (a::l) (b::l')
inductive RowsSimL:List (List AV)→List (List AV)→Prop
 | nil:RowsSimL [] []
 | cons {a b:List AV} {l l':List (List AV)} (h:RowSim a b) (r:RowsSimL l l'):RowsSimL (a::l) (b::l')
theorem RowSim.refl : ∀ l:List AV,RowSim l l
 | []=>.nil
 | a::l=>.cons (.same a) (RowSim.refl l)
theorem RowSim.get {l l':List AV}(h:RowSim l l') : ∀ j,j<l.length→CellSim (l.getD j .und) (l'.getD j .und):=by
 induction h with
 | nil=>intro j hj; simp at hj
 | cons h r ih=>
  intro j hj
  cases j with
  | zero=>exact h
  | succ j=>simpa using ih j (by simpa using hj)
theorem RowsSimL.sim {α:Type}{e:α→List AV}{L:List α}{st:Nat}{rows:List (List AV)}(h:RowsSimL rows (L.map e))(hr : ∀ x,Es st (e x))(hl : ∀ r ∈ rows,r.length=st):RowsSim st rows (L.map e):=by
 have key : ∀ {rows rows':List (List AV)},RowsSimL rows rows'→rows'.length=rows.length ∧ ∀ i,i<rows.length→RowSim (rows.getD i []) (rows'.getD i []):=by
  intro rows rows' h
  induction h with
  | nil=>exact⟨rfl,fun i hi=>by simp at hi⟩
  | cons h r ih=>
   refine⟨by simp [ih.1],fun i hi=>?_⟩
   cases i with
   | zero=>exact h
   | succ i=>simpa using ih.2 i (by simpa using hi)
 obtain⟨k1,k2⟩:=key h
 refine⟨k1,fun r hr'=>by obtain⟨x,_,rfl⟩:=List.mem_map.1 hr'; exact hr x,fun i j hi hj=>(k2 i hi).get j ?_⟩
 rw [hl _ (by rw [show rows.getD i []=rows[i] by simp [List.getD,hi]]; exact List.getElem_mem hi)]
 exact hj
theorem Gv {α:Type}{e:α→List AV}{L:List α}{st:Nat}{fr:Nat→AV}{K:AV→Ag→Prop}{sT et:TypeId}{a1 b1 c:Nat}{z1:List AV}{E:TI}{ps:List (Nat×Operand)}{h:Ag}{rows:List (List AV)}(hS:ti P sT=some ⟨.sl et,a1,b1,z1⟩)(hE:ti P et=some E)
  (hc:Nat.beq c 0=false) (hsz:Nat.blt 0 E.size=true) (hlim:Nat.ble (c * E.size) 16777216=true) (hz:E.z.all AV.flat=true) (hf:Lu E.size (List.replicate c E.z) (N3 fr ps)=some rows) (hsim:RowsSimL rows (L.map e)) (hr : ∀ x,Es st (e x)) (hrl:rows.all (fun r=>Nat.beq r.length st)=true) (hst:st=E.size)
  (hk:K (.sl st (L.map e)) h):F5 P fr h (.buildSlice sT c ⟨ps⟩) K:=by
 have hc':c≠0:=fun q=>by rw [q] at hc; cases hc
 have hsz':0<E.size:=by simpa using hsz
 have hlim':c * E.size≤2 ^ 24:=by simpa using hlim
 simp only [F5,Iv,hS,hE]
 rw [if_neg hc']
 refine⟨hsz',hlim',hz,?_⟩
 rw [hf]
 exact⟨L.map e,hst ▸ hsim.sim hr fun r hr'=>by simpa using List.all_eq_true.1 hrl r hr',.inl (hst ▸ hk)⟩
theorem Wg {α:Type}{e:α→List AV}{L:List α}{st t:Nat}{sT et:TypeId}{a1 b1 c:Nat}{z1:List AV}{E:TI}{ps:List (Nat×Operand)}{h:Ag}{rows:List (List AV)}(ht:Nat.blt t n=true)(hS:ti P sT=some ⟨.sl et,a1,b1,z1⟩)(hE:ti P et=some E)
  (hc:Nat.beq c 0=false) (hsz:Nat.blt 0 E.size=true) (hlim:Nat.ble (c * E.size) 16777216=true) (hz:E.z.all AV.flat=true) (hf:Lu E.size (List.replicate c E.z) (N3 (A0 l) ps)=some rows) (hsim:RowsSimL rows (L.map e)) (hr : ∀ x,Es st (e x)) (hrl:rows.all (fun r=>Nat.beq r.length st)=true) (hst:st=E.size)
  (hk:WO P f n d Q k all m r (A0 ((t,.sl st (L.map e))::l)) ds h u):WO P f n d Q k all m (⟨some t,.buildSlice sT c ⟨ps⟩,ty,pos,after,none⟩::r) (A0 l) ds h u:=
 Vl ht (fun _ _=>rfl) fun K hK=>Gv hS hE hc hsz hlim hz hf hsim hr hrl hst (hK _ _ hk)
theorem Aga {t:Nat}{sT et:TypeId}{a1 b1:Nat}{z1:List AV}{E:TI}{h:Ag}(ht:Nat.blt t n=true)(hS:ti P sT=some ⟨.sl et,a1,b1,z1⟩)(hE:ti P et=some E)
  (hk:WO P f n d Q k all m r (A0 ((t,.emp)::l)) ds h u):WO P f n d Q k all m (⟨some t,.buildSlice sT 0 ⟨[]⟩,ty,pos,after,none⟩::r) (A0 l) ds h u:=
 Vl ht (fun _ _=>rfl) fun K hK=>Amk hS hE (hK _ _ hk)
theorem Ae9 {fr:Nat→AV}{K:AV→Ag→Prop}{sT et:TypeId}{a1 b1 c:Nat}{z1:List AV}{E:TI}{ps:List (Nat×Operand)}(hI:Ids h0 ids N)(hl:xs.length=N)(hjn:Nat.blt j N=true)(hj:xs[j]? = some none)(hS:ti P sT=some ⟨.sl et,a1,b1,z1⟩)(hE:ti P et=some E)
  (hc:Nat.beq c 0=false) (hsz:Nat.blt 0 E.size=true) (hlim:Nat.ble (c * E.size) 16777216=true) (hz:E.z.all AV.flat=true) {rows:List (List AV)} (hf:Lu E.size (List.replicate c E.z) (N3 fr ps)=some rows) (hsim:RowsSimL rows (L.map e)) (hr : ∀ x,Es st (e x)) (hrl:rows.all (fun r=>Nat.beq r.length st)=true) (hL:L.length=c) (hst:st=E.size)
  (hk : ∀ v' g',Bs v' (ix ids j) g' L.length→K v' (hp h0 ids (xs.set j (Ba v' g' st (L.map e))))) :
  F5 P fr (hp h0 ids xs) (.buildSlice sT c ⟨ps⟩) K:=by
 have hc':c≠0:=fun q=>by rw [q] at hc; cases hc
 have hsz':0<E.size:=by simpa using hsz
 have hlim':c * E.size≤2 ^ 24:=by simpa using hlim
 simp only [F5,Iv,hS,hE]
 rw [if_neg hc']
 refine⟨hsz',hlim',hz,?_⟩
 rw [hf]
 refine⟨L.map e,hst ▸ hsim.sim hr fun r hr'=>by simpa using List.all_eq_true.1 hrl r hr',.inr ?_⟩
 refine Pv (ix ids j) (hI.at hl hj) fun g'=>?_
 rw [hI.set hl hjn]
 have:=hk (.ref (ix ids j) g' 0 c) g' (.inr (by rw [hL]))
 simp only [Ba] at this
 rw [← hst]
 exact this
theorem Ail {t:Nat}{sT et:TypeId}{a1 b1 c:Nat}{z1:List AV}{E:TI}{ps:List (Nat×Operand)}(hI:Ids h0 ids N)(hl:xs.length=N)(hjn:Nat.blt j N=true)(hj:xs[j]? = some none)(ht:Nat.blt t n=true)(hS:ti P sT=some ⟨.sl et,a1,b1,z1⟩)(hE:ti P et=some E)
  (hc:Nat.beq c 0=false) (hsz:Nat.blt 0 E.size=true) (hlim:Nat.ble (c * E.size) 16777216=true) (hz:E.z.all AV.flat=true) {rows:List (List AV)} (hf:Lu E.size (List.replicate c E.z) (N3 (A0 l) ps)=some rows) (hsim:RowsSimL rows (L.map e)) (hr : ∀ x,Es st (e x)) (hrl:rows.all (fun r=>Nat.beq r.length st)=true) (hL:L.length=c) (hst:st=E.size)
  (hk : ∀ v' g',Bs v' (ix ids j) g' L.length→WO P f n d Q k all m r (A0 ((t,v')::l)) ds (hp h0 ids (xs.set j (Ba v' g' st (L.map e)))) u) :
  WO P f n d Q k all m (⟨some t,.buildSlice sT c ⟨ps⟩,ty,pos,after,none⟩::r) (A0 l) ds (hp h0 ids xs) u:=
 Vl ht (fun _ _=>rfl) fun K hK=>Ae9 hI hl hjn hj hS hE hc hsz hlim hz hf hsim hr hrl hL hst fun v' g' hv'=>hK _ _ (hk v' g' hv')
theorem Dc {fr:Nat→AV}{K:AV→Ag→Prop}{sT et:TypeId}{a1 b1:Nat}{z1:List AV}{E:TI}{ln cp:Operand}{i c:Int}{ki kc:IntKind}{y:α}(hI:Ids h0 ids N)(hl:xs.length=N)(hjn:Nat.blt j N=true)(hj:xs[j]? = some none)(hS:ti P sT=some ⟨.sl et,a1,b1,z1⟩)(hE:ti P et=some E)
  (h1:ev fr ln=.int ki i) (h2:ev fr cp=.int kc c) (hi:0≤i) (hic:i≤c) (hlim:c.toNat * E.bytes≤C2) (hsz:Nat.blt 0 E.size=true) (hby:Nat.blt 0 E.bytes=true) (hz:E.z.all AV.flat=true) (hy:E.z=e y) (hst:st=E.size)
  (hk : ∀ v' g',Bs v' (ix ids j) g' (List.replicate i.toNat y).length→K v' (hp h0 ids (xs.set j (Ba v' g' st ((List.replicate i.toNat y).map e))))) :
  F5 P fr (hp h0 ids xs) (.makeSlice sT ln cp) K:=by
 have hsz':0<E.size:=by simpa using hsz
 have hby':0<E.bytes:=by simpa using hby
 simp only [F5,Tq,hS,hE,h1,h2]
 refine⟨hsz',hby',hz,hi,hic,hlim,Pv (ix ids j) (hI.at hl hj) fun g'=>?_⟩
 rw [hI.set hl hjn]
 have:=hk (.ref (ix ids j) g' 0 i.toNat) g' (.inr (by simp))
 simp only [Ba,List.map_replicate] at this
 rw [hy,← hst]
 exact this
end
end
section
variable {P:Program} [GW P] {f:FuncId} {n:Nat} {d:FK} {β γ:Type} {Q:Spec β} {m:R β} {fr:Nat→AV} {ds:List AD} {h:Ag} {u:AU} {k:List Item} {l:List (Nat×AV)} {F:γ→R β}
def WP (P:Program)[GW P](f:FuncId)(n:Nat)(d:FK)(Q:Spec β)(k:List Item)(all:List Oper)(pre:List (List Nat))(m:R β)(plan:Gs)(pend:O2)(fr:Nat→AV)(ds:List AD)(h:Ag)(u:AU):Prop:=
 Q.V m → ∀ (K:KT) (U:AV→KT),Going P f n d k (Q.Q m) K U→Jn P n d all pre K U plan pend fr ds h u
theorem B2 {id:Nat}{ops:List Oper}(hm:P.follows .mixedOrders=true)(pre:List (List Nat))(plan:Gs)(hp:Afu ops pre plan=true)(hx:WP P f n d Q k ops pre m plan [] fr ds h u) :
  WR P f n d Q m (.code (.region id ⟨ops⟩ true)::k) fr ds h u:=fun hb=>Amw hm pre plan hp fun K U hK=>hx hb K U hK
theorem R5 {id:Nat}{ops:List Oper}(hm:P.follows .mixedOrders=true)(T:DT)(hT:T.ok ops []=true)(hx:T.each fun pre plan=>WP P f n d Q k ops pre m plan [] fr ds h u) :
  WR P f n d Q m (.code (.region id ⟨ops⟩ true)::k) fr ds h u:=fun hb=>Alw hm T hT fun K U hK=>T.mono (fun pre plan hw=>hw hb K U hK) hx
theorem Ge {p:List (List Nat)→Gs→Prop}{pre:List (List Nat)}{plan:Gs}(h:p pre plan):DT.each p (.leaf pre plan):=h
theorem Ii {p:List (List Nat)→Gs→Prop}{i j:Nat}{A B:DT}(h1:A.each p)(h2:B.each p):DT.each p (.node i j A B):=⟨h1,h2⟩
section
variable {all:List Oper} {pre:List (List Nat)} {plan:Gs} {pend:O2} {ty:TypeId} {pos:String} {after:Array Edge} {i:Nat}
theorem Bh (hr:WR P f n d Q m k fr ds h u):WP P f n d Q k all pre m [] pend fr ds h u:=fun hb K U hK=>hK.run _ _ _ _ (hr hb)
theorem O {t:Nat}{op:Op}(v:AV)(ho:all[i]? = some ⟨some t,op,ty,pos,after,none⟩)(ht:Nat.blt t n=true)(hv:D5 P (A0 l) h op=some v)(hk:WP P f n d Q k all pre m plan ((i,A0 l,v)::pend) (A0 ((t,v)::l)) ds h u) :
  WP P f n d Q k all pre m ((false,i)::plan) pend (A0 l) ds h u:=by
 intro hb K U hK
 simp only [Jn,ho]
 refine⟨by simpa [F1] using ht,?_⟩
 have e:aF P all (A0 l) h ⟨some t,op,ty,pos,after,none⟩=some v:=by simp only [aF,Fl,hv]
 rw [e]
 simp only [Ey]
 exact hk hb K U hK
theorem Aba {m':R β}(e:m=m')(hr:WP P f n d Q k all pre m' plan pend fr ds h u):WP P f n d Q k all pre m plan pend fr ds h u:=e ▸ hr
theorem Gq {α:Type}{L:List α}{ii:Int}{rest:α→R γ}(hk : ∀ a,0≤ii→L[ii.toNat]? = some a→WP P f n d Q k all pre ((rest a).bind F) plan pend fr ds h u):WP P f n d Q k all pre (((Cd L ii).bind rest).bind F) plan pend fr ds h u:=by
 refine Aba (R.bind_assoc _ _ _) fun hb=>?_
 unfold Cd at hb ⊢
 by_cases h0:0≤ii
 ·rw [if_pos h0] at hb ⊢
  cases hq:L[ii.toNat]? with
  | none=>rw [hq] at hb; exact absurd hb Q.bad
  | some a=>rw [hq] at hb; exact hk a h0 hq hb
 ·rw [if_neg h0] at hb; exact absurd hb Q.bad
theorem Cb {p:Prop}[Decidable p]{rest:R γ}(hk:p→WP P f n d Q k all pre (rest.bind F) plan pend fr ds h u):WP P f n d Q k all pre ((if p then rest else .bad).bind F) plan pend fr ds h u:=by
 intro hb
 by_cases hp:p
 ·rw [if_pos hp] at hb ⊢; exact hk hp hb
 ·rw [if_neg hp] at hb; exact absurd hb Q.bad
end
end
section
variable {P:Program} [GW P] {t:TypeId}
theorem T6 {k k':IntKind}{a b:Int}(hk:k=k')(hb:b≠0):Je P .quo t (.int k a) (.int k' b)=some (.int k (k.wrap (a.tdiv b))):=by simp only [Je,if_pos (And.intro hk hb)]
theorem Adb {k k':IntKind}{a b:Int}(hk:k=k')(hb:b≠0):Je P .rem t (.int k a) (.int k' b)=some (.int k (a.tmod b)):=by simp only [Je,if_pos (And.intro hk hb)]
theorem Amb {a b:Bool}{s by':Nat}{z:List AV}(hT:ti P t=some ⟨.bool,s,by',z⟩):Je P .eql t (.bool a) (.bool b)=some (.bool (a==b)):=by simp only [Je,Ro,hT,Option.map_some]
theorem Amr {v:AV}{s by' t':Nat}{z:List AV}(hT:ti P t=some ⟨.ifc,s,by',z⟩):Je P .eql t (.iface t' v) .nili=some (.bool false):=by simp only [Je,Ro,hT,Option.map_some]
theorem Alh {v:AV}{s by' t':Nat}{z:List AV}(hT:ti P t=some ⟨.ifc,s,by',z⟩):Je P .neq t (.iface t' v) .nili=some (.bool true):=by simp only [Je,Ro,hT,Option.map_some]; rfl
end
end Go.Am
namespace Go.Am
open Go
set_option linter.unusedSimpArgs false
set_option linter.unusedVariables false
set_option linter.unusedSectionVars false
theorem Bw.weak {P:Program}[GW P]{g:FuncId}{args args':List AV}{h:Ag}{Q:AR→Ag→Prop}(hz:LF h h args args')(hc:Bw P g args' h Q):Bw P g args h Q:=by
 refine⟨hc.1,fun B mu w cargs s ha=>hc.2 B mu w cargs s ⟨hz.all.1 ▸ ha.1,fun i hi=>?_⟩⟩
 have hi':i<args.length:=by rw [hz.all.1]; exact hi
 exact Nx s (Sub.refl _) (hz.all.2 i hi') (ha.2 i hi')
def AV.isAgg:AV→Bool
 | .agg _=>true
 | _=>false
def Afi {α:Type}(st:Nat)(e:α→List AV)(h:Ag)(o:Nat)(m:R (List α)):AR→Ag→Prop:=fun r h'=>match m with
 | .ok a => ∃ v g,r=.ret v∧Bs v o g a.length∧h'=upd h o (Ba v g st (a.map e))
 | .pan v=>r=.panic v.av∧h'=h
 | .bad=>False
def CPO {α:Type}(P:Program)[GW P](g:FuncId)(args:List AV)(m:R (List α))(st:Nat)(e:α→List AV):Prop := ∀ h o,h o=none→m≠.bad→Bw P g args h (Afi st e h o m)
section
variable {P:Program} [GW P] {f:FuncId} {n:Nat} {d:FK} {β γ:Type} {Q:Spec β} {ds:List AD} {u:AU} {k:List Item} {l:List (Nat×AV)} {F:γ→R β}
variable {all r:List Oper} {ty:TypeId} {pos:String} {after:Array Edge} {h0:Ag} {ids:List Nat} {xs:List (Option AO)} {N:Nat}
theorem Aaw {α:Type}{t j st:Nat}{x:Operand}{as0:List Operand}{ts:Array TypeId}{g:FuncId}{fst cap:List AV}(A:List AV){mg:R (List α)}{e:α→List AV}{rest:List α→R γ}(hI:Ids h0 ids N)(hl:xs.length=N)(hjn:Nat.blt j N=true)(hj:xs[j]? = some none)
  (ht:Nat.blt t n=true) (hx:ev (A0 l) x=.func (.func g) fst cap) (ha:fst++G6 (A0 l) as0++cap=A) (hc:mg≠.bad→Bw P g A (hp h0 ids xs) (Afi st e (hp h0 ids xs) (ix ids j) mg))
  (hp' : ∀ v,mg=.pan v→WU P f n d Q (.pan v) (.pan v.av false) (A0 l) ds (hp h0 ids xs) u)
  (hk : ∀ a,mg=.ok a → ∀ v g',Bs v (ix ids j) g' a.length→WO P f n d Q k all ((rest a).bind F) r (A0 ((t,v)::l)) ds (hp h0 ids (xs.set j (Ba v g' st (a.map e)))) u) :
  WO P f n d Q k all ((mg.bind rest).bind F) (⟨some t,.call ⟨.value x,⟨as0⟩,ts⟩,ty,pos,after,none⟩::r) (A0 l) ds (hp h0 ids xs) u:=by
 refine Abq (R.bind_assoc _ _ _) (Ng (by simpa [F1] using ht) rfl fun hb K U hK hU=>?_)
 simp only [Ib,hx]
 rw [ha]
 have hmb:mg≠.bad:=fun q=>by rw [q] at hb; exact Q.bad hb
 refine(hc hmb).mono fun r' h' hr=>?_
 cases hm:mg with
 | bad=>exact absurd hm hmb
 | ok a=>
  rw [hm] at hr hb hK
  obtain⟨v,g',rfl,hv,rfl⟩:=hr
  rw [hI.set hl hjn]
  exact hK _ _ _ _ (by rw [Ey]; exact hk a hm v g' hv)
 | pan v=>
  rw [hm] at hr hb hU
  obtain⟨rfl,rfl⟩:=hr
  exact hU _ _ _ _ _ (hp' v hm hb)
end
section
variable {P:Program} [GW P] {f:FuncId} {n:Nat} {d:FK} {β γ:Type} {Q:Spec β} {m:R β} {fr:Nat→AV} {ds:List AD} {h:Ag} {u:AU} {k:List Item} {l:List (Nat×AV)} {F:γ→R β}
variable {all:List Oper} {pre:List (List Nat)} {plan:Gs} {pend:O2} {ty:TypeId} {pos:String} {after:Array Edge} {i:Nat}
theorem Ao:G8 P all pre i h []:=trivial
theorem Au {j:Nat}{v:AV}(hc:cl pre i j=true)(hr:G8 P all pre i h pend):G8 P all pre i h ((j,fr,v)::pend):=⟨by rw [if_pos hc]; trivial,hr⟩
theorem Aa {j t:Nat}{v:AV}{op:Op}(ho:all[j]? = some ⟨some t,op,ty,pos,after,none⟩)(hv:D5 P fr h op=some v)(hr:G8 P all pre i h pend):G8 P all pre i h ((j,fr,v)::pend):=by
 refine⟨?_,hr⟩
 split
 ·trivial
 ·rw [ho]; simp only [aF,Fl,hv]
theorem Wj {o:Oper}(ho:all[i]? = some o)(hd:F1 n o.dst=true)(hw:Fl all fr o=some true)
  (hx:Q.V m → ∀ (K:AV→List AD→Ag→AU→Prop) (U:AV→KT),(∀ v ds' h' u',G8 P all pre i h' pend→WP P f n d Q k all pre m plan pend (G1 fr o.dst v) ds' h' u'→K v ds' h' u') →
   (∀ v fr ds h u,(∀ fr',(∀ t,(all.any fun o=>o.dst==some t)=false→fr' t=fr t)→Pa P f n d (.pan v false) fr' ds h u (Q.Q m))→U v fr ds h u)→Ib P d U fr ds h u o.op K):WP P f n d Q k all pre m ((true,i)::plan) pend fr ds h u:=by
 intro hb K U hK
 simp only [Jn,ho]
 refine⟨hd,?_⟩
 rw [hw]
 exact hx hb _ _ (fun v ds' h' u' hp hk=>⟨hp,hk hb K U hK⟩) (fun v fr ds h u hu fr' hf=>hK.unw _ _ _ _ _ (hu fr' fun t ht=>hf t fun o ho hq=>by
  have:=List.any_eq_false.1 ht o ho
  simp [hq] at this))
theorem Cf {t:Nat}{op:Op}(ho:all[i]? = some ⟨some t,op,ty,pos,after,none⟩)(ht:Nat.blt t n=true)(h1 : ∀ (K:AV→List AD→Ag→AU→Prop) (U:AV→KT),Ib P d U (A0 l) ds h u op K=F5 P (A0 l) h op (fun v h'=>K v ds h' u))
  (hx : ∀ K:AV→Ag→Prop,(∀ v h',G8 P all pre i h' pend→WP P f n d Q k all pre m plan pend (A0 ((t,v)::l)) ds h' u→K v h')→F5 P (A0 l) h op K) :
  WP P f n d Q k all pre m ((true,i)::plan) pend (A0 l) ds h u:=
 Wj ho (by simpa [F1] using ht) rfl fun hb K U hK hU=>by
  rw [h1]
  exact hx _ fun v h' hp hw=>hK _ _ _ _ hp (by rw [Ey]; exact hw)
theorem Bo {op:Op}(ho:all[i]? = some ⟨none,op,ty,pos,after,none⟩)(h1 : ∀ (K:AV→List AD→Ag→AU→Prop) (U:AV→KT),Ib P d U (A0 l) ds h u op K=F5 P (A0 l) h op (fun v h'=>K v ds h' u))
  (hx : ∀ K:AV→Ag→Prop,(∀ v h',G8 P all pre i h' pend→WP P f n d Q k all pre m plan pend (A0 l) ds h' u→K v h')→F5 P (A0 l) h op K) :
  WP P f n d Q k all pre m ((true,i)::plan) pend (A0 l) ds h u:=
 Wj ho rfl rfl fun hb K U hK hU=>by
  rw [h1]
  exact hx _ fun v h' hp hw=>hK _ _ _ _ hp hw
theorem Dx {α:Type}{t:Nat}{x:Operand}{as0:List Operand}{ts:Array TypeId}{g:FuncId}{fst cap:List AV}{gd:Option (Nat×Bool)}(A:List AV){mg:R α}{e:α→AV}{rest:α→R γ}(ho:all[i]? = some ⟨some t,.call ⟨.value x,⟨as0⟩,ts⟩,ty,pos,after,gd⟩)(hw:Fl all (A0 l) ⟨some t,.call ⟨.value x,⟨as0⟩,ts⟩,ty,pos,after,gd⟩=some true)(ht:Nat.blt t n=true)(hx:ev (A0 l) x=.func (.func g) fst cap)
  (ha:fst++G6 (A0 l) as0++cap=A) (hc:mg≠.bad→Bw P g A h (Xg e h mg)) (hp : ∀ v,mg=.pan v → ∀ fr,(∀ t,(all.any fun o=>o.dst==some t)=false→fr t=A0 l t)→WU P f n d Q (.pan v) (.pan v.av false) fr ds h u) (hpd:G8 P all pre i h pend) (hk : ∀ a,mg=.ok a→WP P f n d Q k all pre ((rest a).bind F) plan pend (A0 ((t,e a)::l)) ds h u) :
  WP P f n d Q k all pre ((mg.bind rest).bind F) ((true,i)::plan) pend (A0 l) ds h u:=by
 refine Aba (R.bind_assoc _ _ _) (Wj ho (by simpa [F1] using ht) hw fun hb K U hK hU=>?_)
 simp only [Ib,hx]
 rw [ha]
 have hmb:mg≠.bad:=fun q=>by rw [q] at hb; exact Q.bad hb
 refine(hc hmb).mono fun r' h' hr=>?_
 obtain⟨rfl,hr⟩:=hr
 cases hm:mg with
 | bad=>exact absurd hm hmb
 | ok a=>
  rw [hm] at hr hb hK
  subst hr
  exact hK _ _ _ _ hpd (by rw [Ey]; exact hk a hm)
 | pan v=>
  rw [hm] at hr hb hU
  subst hr
  exact hU _ _ _ _ _ (fun fr' hf=>hp v hm fr' hf hb)
theorem Aeq {α:Type}{h0:Ag}{ids:List Nat}{xs:List (Option AO)}{N t j st:Nat}{x:Operand}{as0:List Operand}{ts:Array TypeId}{g:FuncId}{fst cap:List AV}(A:List AV){mg:R (List α)}{e:α→List AV}{rest:List α→R γ}(ho:all[i]? = some ⟨some t,.call ⟨.value x,⟨as0⟩,ts⟩,ty,pos,after,none⟩)
  (hI:Ids h0 ids N) (hl:xs.length=N) (hjn:Nat.blt j N=true) (hj:xs[j]? = some none)
  (ht:Nat.blt t n=true) (hx:ev (A0 l) x=.func (.func g) fst cap) (ha:fst++G6 (A0 l) as0++cap=A) (hc:mg≠.bad→Bw P g A (hp h0 ids xs) (Afi st e (hp h0 ids xs) (ix ids j) mg))
  (hp' : ∀ v,mg=.pan v → ∀ fr,(∀ t,(all.any fun o=>o.dst==some t)=false→fr t=A0 l t)→WU P f n d Q (.pan v) (.pan v.av false) fr ds (hp h0 ids xs) u)
  (hk : ∀ a,mg=.ok a → ∀ v g',Bs v (ix ids j) g' a.length→G8 P all pre i (hp h0 ids (xs.set j (Ba v g' st (a.map e)))) pend∧WP P f n d Q k all pre ((rest a).bind F) plan pend (A0 ((t,v)::l)) ds (hp h0 ids (xs.set j (Ba v g' st (a.map e)))) u) :
  WP P f n d Q k all pre ((mg.bind rest).bind F) ((true,i)::plan) pend (A0 l) ds (hp h0 ids xs) u:=by
 refine Aba (R.bind_assoc _ _ _) (Wj ho (by simpa [F1] using ht) rfl fun hb K U hK hU=>?_)
 simp only [Ib,hx]
 rw [ha]
 have hmb:mg≠.bad:=fun q=>by rw [q] at hb; exact Q.bad hb
 refine(hc hmb).mono fun r' h' hr=>?_
 cases hm:mg with
 | bad=>exact absurd hm hmb
 | ok a=>
  rw [hm] at hr hb hK
  obtain⟨v,g',rfl,hv,rfl⟩:=hr
  rw [hI.set hl hjn]
  obtain⟨k1,k2⟩:=hk a hm v g' hv
  exact hK _ _ _ _ k1 (by rw [Ey]; exact k2)
 | pan v=>
  rw [hm] at hr hb hU
  obtain⟨rfl,rfl⟩:=hr
  exact hU _ _ _ _ _ (fun fr' hf=>hp' v hm fr' hf hb)
theorem Az {t j tj:Nat}{want:Bool}{op:Op}(v:AV)(ho:all[i]? = some ⟨some t,op,ty,pos,after,some (j,want)⟩)(hj:(all[j]?).bind (·.dst)=some tj)(hg:A0 l tj=.bool want)(ht:Nat.blt t n=true)(hv:D5 P (A0 l) h op=some v)
  (hk:WP P f n d Q k all pre m plan ((i,A0 l,v)::pend) (A0 ((t,v)::l)) ds h u):WP P f n d Q k all pre m ((false,i)::plan) pend (A0 l) ds h u:=by
 intro hb K U hK
 simp only [Jn,ho]
 refine⟨by simpa [F1] using ht,?_⟩
 have e:aF P all (A0 l) h ⟨some t,op,ty,pos,after,some (j,want)⟩=some v:=by simp only [aF,So hj hg,beq_self_eq_true,hv]
 rw [e]
 simp only [Ey]
 exact hk hb K U hK
theorem A4 {t j tj:Nat}{want b:Bool}{op:Op}(ho:all[i]? = some ⟨some t,op,ty,pos,after,some (j,want)⟩)(hj:(all[j]?).bind (·.dst)=some tj)(hg:A0 l tj=.bool b)(hne:(b==want)=false)(ht:Nat.blt t n=true)
  (hk:WP P f n d Q k all pre m plan ((i,A0 l,.und)::pend) (A0 ((t,.und)::l)) ds h u):WP P f n d Q k all pre m ((false,i)::plan) pend (A0 l) ds h u:=by
 intro hb K U hK
 simp only [Jn,ho]
 refine⟨by simpa [F1] using ht,?_⟩
 have e:aF P all (A0 l) h ⟨some t,op,ty,pos,after,some (j,want)⟩=some .und:=by simp only [aF,So hj hg,hne]
 rw [e]
 simp only [Ey]
 exact hk hb K U hK
theorem Al0 {o:Oper}(ho:all[i]? = some o)(hd:F1 n o.dst=true)(hw:Fl all fr o=some false)(hk:WP P f n d Q k all pre m plan pend (G1 fr o.dst .und) ds h u):WP P f n d Q k all pre m ((true,i)::plan) pend fr ds h u:=by
 intro hb K U hK
 simp only [Jn,ho]
 refine⟨hd,?_⟩
 rw [hw]
 exact hk hb K U hK
theorem T5 {t j tj:Nat}{want b:Bool}{op:Op}(ho:all[i]? = some ⟨some t,op,ty,pos,after,some (j,want)⟩)(hj:(all[j]?).bind (·.dst)=some tj)(hg:A0 l tj=.bool b)(hne:(b==want)=false)(ht:Nat.blt t n=true)
  (hk:WP P f n d Q k all pre m plan pend (A0 ((t,.und)::l)) ds h u):WP P f n d Q k all pre m ((true,i)::plan) pend (A0 l) ds h u:=
 Al0 ho (by simpa [F1] using ht) (by rw [So hj hg,hne]) (by rw [Ey]; exact hk)
theorem Fk {t j tj:Nat}{want:Bool}{op:Op}(ho:all[i]? = some ⟨some t,op,ty,pos,after,some (j,want)⟩)(hj:(all[j]?).bind (·.dst)=some tj)(hg:A0 l tj=.und)(ht:Nat.blt t n=true)
  (hk:WP P f n d Q k all pre m plan ((i,A0 l,.und)::pend) (A0 ((t,.und)::l)) ds h u):WP P f n d Q k all pre m ((false,i)::plan) pend (A0 l) ds h u:=by
 intro hb K U hK
 simp only [Jn,ho]
 refine⟨by simpa [F1] using ht,?_⟩
 have e:aF P all (A0 l) h ⟨some t,op,ty,pos,after,some (j,want)⟩=some .und:=by
  simp only [aF,Fl,hj,hg]
 rw [e]
 simp only [Ey]
 exact hk hb K U hK
theorem Hk {b:Bool}{A B:R γ}(ht:b=true→WP P f n d Q k all pre (A.bind F) plan pend fr ds h u)(hf:b=false→WP P f n d Q k all pre (B.bind F) plan pend fr ds h u):WP P f n d Q k all pre ((if b then A else B).bind F) plan pend fr ds h u:=by
 intro hb
 cases hq:b with
 | true=>simp only [hq,if_true] at hb ⊢; exact ht hq hb
 | false=>simp only [hq,Bool.false_eq_true,if_false] at hb ⊢; exact hf hq hb
end
section
variable {P:Program} [GW P] {f:FuncId} {n:Nat} {α:Type} {m:R (List α)} {e:α→List AV} {st:Nat}
def Aid {α:Type}(st:Nat)(e:α→List AV)(h:Ag)(o:Nat):Spec (List α):=⟨fun m=>m≠.bad,fun h=>h rfl,fun m r h' _=>Afi st e h o m r h'⟩
theorem Vm {fn : Func} {c : Code} {args : List AV} (N : Nat) (hf : P.funcs[f]? = some fn) (hb : fn.body = some c) (hn : fn.name ≠ "runtime.NumGoroutine") (hnt : fn.ntmps = n) (hl : Nat.ble args.length n = true)
  (hr : ∀ (h0 : Ag) (ids : List Nat), Ids h0 ids (N + 1) → WR P f n false (Aid st e h0 (ix ids 0)) m [.code c] (A0 (Vx 0 args)) [] (hp h0 ids (List.replicate (N + 1) none)) .ret) : CPO P f args m st e := by
 intro h o ho hb'
 refine Qo hf hb hn hnt (by simpa using hl) ?_
 refine Y9 N [o] fun os h1 h2 h3 h4 => ?_
 have hI : Ids h (o :: os) (N + 1) := ⟨List.nodup_cons.2 ⟨fun hm => h4 _ hm (List.mem_singleton.2 rfl), h2⟩, fun p hp => by
  rcases List.mem_cons.1 hp with rfl | hp
  ·exact ho
  ·exact h3 p hp, by simp [h1]⟩
 have := hr h (o :: os) hI hb'
 rw [Q1 hI.fresh] at this
 refine Ql (fun t => ?_) this
 rcases Qz args 0 t with h | ⟨_, h⟩
 ·exact .inl h
 ·exact .inr h
section
variable {h0:Ag} {ids:List Nat} {x:Option AO} {xs ys:List (Option AO)} {N:Nat} {l:List (Nat×AV)} {k:List Item} {u:AU}
theorem Amx {fn:Func}{a:List α}{v:AV}{g:Nat}(hf:P.funcs[f]? = some fn)(hI:Ids h0 ids N)(hl:(x::xs).length=N)(hr:Hn P (hp h0 ids (x::xs)) (A0 l) fn.results.toList=some [v])(hv:Bs v (ix ids 0) g a.length)(hx:x=Ba v g st (a.map e)) :
  WU P f n false (Aid st e h0 (ix ids 0)) (.ok a) .ret (A0 l) [] (hp h0 ids (x::xs)) u:=fun _=>by
 have hlen:ids.length=xs.length+1:=by rw [hI.len,← hl]; rfl
 obtain⟨o,os,rfl⟩ : ∃ o os,ids=o::os:=by
  cases ids with
  | nil=>simp at hlen
  | cons o os=>exact⟨o,os,rfl⟩
 have e1:hp h0 (o::os) (x::List.replicate xs.length none)=upd h0 o x:=by
  simp only [hp]
  rw [Q1 fun p hp=>hI.fresh p (List.mem_cons_of_mem _ hp)]
 have hs:Sub (upd h0 o x) (hp h0 (o::os) (x::xs)):=by
  rw [← e1]
  refine Aka (by simpa using hlen) (by simpa using hlen) hI.nodup hI.fresh fun j=>?_
  cases j with
  | zero=>exact .inl rfl
  | succ j=>
   simp only [List.getElem?_cons_succ]
   by_cases hj:j<xs.length
   ·right; simp [hj]
   ·left; rw [List.getElem?_eq_none (by simpa using hj),List.getElem?_eq_none (by simpa using hj)]
 refine R3 hf hr hs (.same _) rfl ?_
 exact⟨v,g,rfl,hv,by rw [hx]; rfl⟩
theorem Sb {fn:Func}{a:List α}{v:AV}{g:Nat}(hf:P.funcs[f]? = some fn)(hI:Ids h0 ids N)(hl:(x::xs).length=N)(hr:Hn P (hp h0 ids (x::xs)) (A0 l) fn.results.toList=some [v])(hv:Bs v (ix ids 0) g a.length)(hx:x=Ba v g st (a.map e)) :
  WR P f n false (Aid st e h0 (ix ids 0)) (.ok a) (.code .ret::k) (A0 l) [] (hp h0 ids (x::xs)) u:=fun hV=>T1 (Amx hf hI hl hr hv hx hV)
end
theorem CPO.cp {args:List AV}(hc:CPO P f args m st e)(hr : ∀ x,Es st (e x)):CP P f args m (fun a=>.sl st (a.map e)):=by
 intro h hb
 have hbody:Sh P f:=by
  have:=hc hE 0 rfl hb
  exact this.1
 refine⟨hbody,fun B mu w cargs s ha=>?_⟩
 obtain⟨o,ho⟩ : ∃ o,h o=none:=by
  obtain⟨N,hN⟩:=s.finh
  exact⟨N,hN N (Nat.le_refl _)⟩
 have:=(hc h o ho hb).drop (Q':=fun r h'=>Xg (fun a=>AV.sl st (a.map e)) h m r h'∨Afi st e h o m r h') (fun r h' hq=>⟨h',Sub.refl _,.inr hq⟩)
 refine((hc h o ho hb).2 B mu w cargs s ha).mono ?_
 rintro en w' ⟨r,h',mu',hq,hs,hext,hE'⟩
 cases hm:m with
 | bad=>exact absurd hm hb
 | pan v=>
  rw [hm] at hq
  obtain⟨rfl,rfl⟩:=hq
  exact⟨_,h',mu',⟨rfl,rfl⟩,hs,hext,hE'⟩
 | ok a=>
  rw [hm] at hq
  obtain⟨v,g,rfl,hv,rfl⟩:=hq
  have hsub:Sub h (upd h o (Ba v g st (a.map e))):=Ahi ho
  have hfz:Fz (upd h o (Ba v g st (a.map e))) h v (.sl st (a.map e)):=Dp hv (by simp [upd]) ho hr
  refine⟨.ret (.sl st (a.map e)),h,mu',⟨rfl,rfl⟩,hs.sub hsub,hext.trans (Et.sub hsub),?_⟩
  cases en with
  | returned c=>exact Nx hs hsub hfz hE'
  | panicked _=>exact hE'.elim
  | outgrown=>exact hE'.elim
end
theorem Acy {P:Program}[GW P]{f:FuncId}{n:Nat}{d:FK}{β:Type}{Q:Spec β}{m:R β}{ds:List AD}{h:Ag}{u:AU}{k:List Item}{l:List (Nat×AV)}{all r:List Oper}{ty ty2:TypeId}{pos:String}{after:Array Edge}{t:Nat}{x:Operand}{T et:TypeId}{a b st:Nat}{z:List AV}{α:Type}{e:α→List AV}{L:List α}
  (ht:Nat.blt t n=true) (hT:ti P T=some ⟨.sl et,a,b,z⟩) (hx:ev (A0 l) x=.sl st (L.map e)) (hk : ∀ c,(c=true→L=[])→WO P f n d Q k all m r (A0 ((t,.bool c)::l)) ds h u) :
  WO P f n d Q k all m (⟨some t,.binOp .eql T x (.const (.slice none 0 0)) ty2,ty,pos,after,none⟩::r) (A0 l) ds h u:=
 Vl ht (fun _ _=>rfl) fun K hK=>by
  simp only [F5]
  refine⟨by rw [hx]; rfl,?_⟩
  simp only [V0,T8,if_true,hT,hx]
  intro c hc
  refine hK _ _ (hk c fun hct=>?_)
  subst hct
  cases L with
  | nil=>rfl
  | cons y L=>exact absurd (hc (by simp)) (by simp)
structure KeyE (T:TK){K:Type}[DecidableEq K](eK:K→AV):Prop where
 ok : ∀ k,Y8 T (eK k)=true
 eq : ∀ a b,Sx T (eK a) (eK b)=some (decide (a=b))
theorem Fz.funcL {h h2:Ag}{fn:Fn}{f c f' c':List AV}(hf:LF h h2 f f')(hc:LF h h2 c c'):Fz h h2 (.func fn f c) (.func fn f' c'):=.func fn f c f' c' hf.all.1 hc.all.1 hf.all.2 hc.all.2
theorem Fz.ptrL {h h2:Ag}{o g st c:Nat}{row row':List AV}(ho:h o=some (.rows g st [row]))(h2o:h2 o=none)(hl:row'.length=st)(hx:LF h h2 row row'):Fz h h2 (.ptr o g 0 c) (.cp row' c):=
 .ptr o g 0 c st [row] row' ho h2o (by simp) hl (fun j hj=>by
  have:=hx.all.2 j (by rw [hx.all.1,hl]; exact hj)
  simpa [cell] using this)
theorem Bs.flat {v:AV}{o g n:Nat}(h:Bs v o g n):v.flat=true:=by rcases h with⟨rfl,_⟩ | rfl <;> rfl
theorem Bs.ok {v:AV}{o g n:Nat}(h:Bs v o g n):v.ok=true:=by rcases h with⟨rfl,_⟩ | rfl <;> rfl
theorem Bs.cells {v:AV}{o g n:Nat}(h:Bs v o g n):v.cells=[v]:=by rcases h with⟨rfl,_⟩ | rfl <;> rfl
theorem Cs {P:Program}[GW P]{h0:Ag}{ids:List Nat}{xs:List (Option AO)}{N:Nat}{t:TypeId}{T:TI}{g st rr c j o g' n':Nat}{rs:List (List AV)}{row:List AV}{v:AV}(hv:Bs v o g' n')(hI:Ids h0 ids N)(hl:xs.length=N)(hjn:Nat.blt j N=true)(hj:xs[j]? = some (some (.rows g st rs)))(hr:rs[rr]? = some row)(hT:ti P t=some T)
  (hlen:Nat.beq 1 T.size=true) (hc:Nat.ble (c+T.size) st=true) (hrl:row.length=st) :
  Qm P (hp h0 ids xs) t (.ptr (ix ids j) g rr c) v=some (hp h0 ids (xs.set j (some (.rows g st (rs.set rr (Ul row c [v])))))):=by
 have:=A8 (P:=P) (v:=v) hI hl hjn hj hr hT hv.ok (by rw [hv.cells]; exact Nat.eq_of_beq_eq_true hlen) hc hrl (by rw [hv.cells]; simp [hv.flat])
 rw [hv.cells] at this
 exact this
theorem Eg:([]:List AV).all AV.flat=true:=rfl
theorem Ar {a:AV}{l:List AV}(h:a.flat=true)(hl:l.all AV.flat=true):(a::l).all AV.flat=true:=by simp [h,hl]
end Go.Am
namespace Go.Am
open Go
set_option linter.unusedSimpArgs false
set_option linter.unusedVariables false
set_option linter.unusedSectionVars false
section
variable {P:Program} [GW P] {f:FuncId} {n:Nat} {d:FK} {β:Type} {Q:Spec β} {m:R β} {ds:List AD} {h:Ag} {u:AU} {k:List Item} {l:List (Nat×AV)}
variable {all r:List Oper} {ty:TypeId} {pos:String} {after:Array Edge}
theorem Xo {dst:Option Tmp}{x:Operand}{as0:List Operand}{ts:Array TypeId}{g:FuncId}{fst cap A:List AV}(hdst:dst=none)(hx:ev (A0 l) x=.func (.func g) fst cap)(ha:fst++G6 (A0 l) as0++cap=A)(hk:WO P f n d Q k all m r (A0 l) (⟨g,A⟩::ds) h u)(hro:d.ro=none:=by rfl)(hnc:AD.isStar ⟨g,A⟩=false:=by rfl) :
  WO P f n d Q k all m (⟨dst,.defer ⟨.value x,⟨as0⟩,ts⟩,ty,pos,after,none⟩::r) (A0 l) ds h u:=by
 subst hdst
 refine Ng rfl rfl fun hb K U hK hU=>?_
 simp only [Ib,hx]
 rw [ha]
 exact⟨hro,hnc,hK _ _ _ _ hk⟩
theorem Zb {t:Nat}{as0 ts:Array _}{v:AV}(ht:Nat.blt t n=true)(hk:WO P f n true Q k all m r (A0 ((t,v)::l)) ds h (.pan v true)):WO P f n true Q k all m (⟨some t,.call ⟨.builtin .recover,as0,ts⟩,ty,pos,after,none⟩::r) (A0 l) ds h (.pan v false):=
 Ng (by simpa [F1] using ht) rfl fun hb K U hK hU=>⟨rfl,hK _ _ _ _ (by rw [Ey]; exact hk)⟩
theorem Ze {t:Nat}{as0 ts:Array _}(ht:Nat.blt t n=true)(hk:WO P f n true Q k all m r (A0 ((t,.nili)::l)) ds h .ret):WO P f n true Q k all m (⟨some t,.call ⟨.builtin .recover,as0,ts⟩,ty,pos,after,none⟩::r) (A0 l) ds h .ret:=
 Ng (by simpa [F1] using ht) rfl fun hb K U hK hU=>⟨rfl,hK _ _ _ _ (by rw [Ey]; exact hk)⟩
end
def Al4 {γ:Type}(e:γ→Ag)(u':AU):Spec γ:=⟨fun m => ∃ a,m=.ok a,fun h=>(by obtain⟨a,h⟩:=h; cases h),fun m r h' u => ∃ a,m=.ok a∧r=.ret (.tup [])∧h'=e a∧u=u'⟩
abbrev R6 {γ:Type}(e:γ→Ag)(u':AU)(m:R γ):QT:=fun r h' u => ∃ a,m=.ok a∧r=.ret (.tup [])∧h'=e a∧u=u'
section
variable {P:Program} [GW P] {f:FuncId} {n:Nat} {γ:Type} {m:R γ} {e:γ→Ag} {u u':AU} {h:Ag} {l:List (Nat×AV)} {k:List Item}
theorem Pw {fn : Func} {c : Code} {args : List AV} (hf : P.funcs[f]? = some fn) (hb : fn.body = some c) (hn : fn.name ≠ "runtime.NumGoroutine") (hnt : fn.ntmps = n) (hl : Nat.ble args.length n = true)
  (hr : WR P f n true (Al4 e u') m [.code c] (A0 (Vx 0 args)) [] h u) : (∃ a, m = .ok a) → J1 P f args u h (R6 e u' m) := by
 intro hm
 refine Agx hf hb hn hnt (by simpa using hl) ?_
 refine Ql (fun t => ?_) (hr hm)
 rcases Qz args 0 t with h | ⟨_, h⟩
 ·exact .inl h
 ·exact .inr h
theorem Q7 {fn:Func}{a:γ}(hf:P.funcs[f]? = some fn)(hr:fn.results.toList=[])(hh:h=e a)(hu:u=u'):WR P f n true (Al4 e u') (.ok a) [] (A0 l) [] h u:=fun _=>
 Zd (Ac4 hf (vs:=[]) (by rw [hr]; rfl) ⟨a,rfl,rfl,hh,hu⟩)
end
def N8 {α:Type}(e:α→AV)(h:Ag)(hdl:PV→R α):Spec α:=⟨fun m=>m.catch' hdl≠.bad,fun h=>h rfl,fun m r h' _=>Xg e h (m.catch' hdl) r h'⟩
section
variable {P:Program} [GW P] {f:FuncId} {n:Nat} {α:Type} {e:α→AV} {hdl:PV→R α} {h0:Ag} {ids:List Nat} {N:Nat} {xs:List (Option AO)} {l:List (Nat×AV)} {k:List Item}
theorem Vk {fn : Func} {c : Code} {args : List AV} {m : R α} (N : Nat) (hf : P.funcs[f]? = some fn) (hb : fn.body = some c) (hn : fn.name ≠ "runtime.NumGoroutine") (hnt : fn.ntmps = n) (hl : Nat.ble args.length n = true)
  (hr : ∀ (h0 : Ag) (ids : List Nat), Ids h0 ids N → WR P f n false (N8 e h0 hdl) m [.code c] (A0 (Vx 0 args)) [] (hp h0 ids (List.replicate N none)) .ret) : CP P f args (m.catch' hdl) e := by
 intro h hb'
 refine Qo hf hb hn hnt (by simpa using hl) ?_
 refine Y9 N [] fun os h1 h2 h3 h4 => ?_
 have := hr h os ⟨h2, h3, h1⟩ hb'
 rw [Q1 h3] at this
 refine Ql (fun t => ?_) this
 rcases Qz args 0 t with h | ⟨_, h⟩
 ·exact .inl h
 ·exact .inr h
theorem P5 {fn:Func}{a:α}{vs A:List AV}{g:FuncId}(hf:P.funcs[f]? = some fn)(hI:Ids h0 ids N)(hc:J1 P g A .ret (hp h0 ids xs) (R6 (fun _:Unit=>hp h0 ids xs) .ret (.ok ())))
  (hr:Hn P (hp h0 ids xs) (A0 l) fn.results.toList=some vs) (hz:Fz (hp h0 ids xs) h0 (Jr vs) (e a)) (hnc:AD.isStar ⟨g,A⟩=false:=by rfl) :
  WR P f n false (N8 e h0 hdl) (.ok a) (.code .ret::k) (A0 l) [⟨g,A⟩] (hp h0 ids xs) .ret:=fun _=>
 T1 (Adt (hc.mono fun r h' u hq=>by
  obtain⟨_,_,rfl,rfl,rfl⟩:=hq
  exact R3 hf hr (hI.sub xs) hz rfl ⟨rfl,rfl⟩) hnc)
theorem Ag4 {h0:Ag} : ∀ (ids:List Nat) (xs:List (Option AO)) (c:Nat),ids.length=xs.length→(∀ o ∈ ids,h0 o=none)→ids.Nodup→Sub (hp h0 (ids.take c) (xs.take c)) (hp h0 ids xs)
 | [],[],c,_,_,_=>by simp [hp]; exact Sub.refl _
 | a::ids,x::xs,0,hl,hf,hn=>by
  simp only [List.take_zero,hp]
  intro o y hy
  have hne:o ∉ a::ids:=fun hm=>by rw [hf o hm] at hy; cases hy
  simp only [List.mem_cons,not_or] at hne
  rw [Acl _ _ _ hne.1,Rh hne.2]
  exact hy
 | a::ids,x::xs,c+1,hl,hf,hn=>by
  simp only [List.take_succ_cons,hp]
  exact Sub.upd (Ag4 ids xs c (by simpa using hl) (fun o ho=>hf o (List.mem_cons_of_mem _ ho)) (List.nodup_cons.1 hn).2) a x
theorem Ids.take {ids:List Nat}(hI:Ids h0 ids N){c:Nat}(hc:Nat.ble c N=true):Ids h0 (ids.take c) c:=
 ⟨hI.nodup.sublist (List.take_sublist _ _),fun o ho=>hI.fresh o (List.mem_of_mem_take ho),by
  have:c≤N:=by simpa using hc
  rw [List.length_take,hI.len]; omega⟩
theorem Mi {ids:List Nat}{c j:Nat}(hj:Nat.blt j c=true):ix (ids.take c) j=ix ids j:=by
 have:j<c:=by simpa using hj
 simp [ix,List.getD,List.getElem?_take,this]
theorem Xe {γ:Type}{Hc:R γ}{fin:γ→α}{fn:Func}{v:PV}{fr:Nat→AV}{A:List AV}{g:FuncId}{c:Nat}{ys:List (Option AO)}{cells:γ→List (Option AO)}{vs:γ→List AV}(hf:P.funcs[f]? = some fn)(hI:Ids h0 ids N)(hl:xs.length=N)(hc:Nat.ble c N=true)(hys:xs.take c=ys)
  (hh:hdl v=Hc.bind fun x=>.ok (fin x)) (hd:(∃ x,Hc=.ok x)→J1 P g A (.pan v.av false) (hp h0 (ids.take c) ys) (R6 (fun x=>hp h0 (ids.take c) (cells x)) (.pan v.av true) Hc)) (hno : ∀ w,Hc≠.pan w)
  (hr : ∀ x,Hn P (hp h0 (ids.take c) (cells x)) fr fn.results.toList=some (vs x)) (hz : ∀ x,Fz (hp h0 (ids.take c) (cells x)) h0 (Jr (vs x)) (e (fin x))) (hnc:AD.isStar ⟨g,A⟩=false:=by rfl) :
  WU P f n false (N8 e h0 hdl) (.pan v) (.pan v.av false) fr [⟨g,A⟩] (hp h0 ids xs) .ret:=by
 intro hV
 have hV':hdl v≠.bad:=hV
 cases hq:Hc with
 | bad=>rw [hh,hq] at hV'; exact absurd rfl hV'
 | pan w=>exact absurd hq (hno w)
 | ok x=>
  have hsub:Sub (hp h0 (ids.take c) ys) (hp h0 ids xs):=by rw [← hys]; exact Ag4 ids xs c (hI.len.trans hl.symm) hI.fresh hI.nodup
  have key:Pa P f n false (.pan v.av false) fr [⟨g,A⟩] (hp h0 (ids.take c) ys) .ret ((N8 e h0 hdl).Q (.pan v)):=by
   refine Adt ((hd ⟨x,hq⟩).mono fun r h' u2 hx=>?_) hnc
   obtain⟨y,hy,rfl,rfl,rfl⟩:=hx
   rw [hq] at hy
   cases hy
   refine R3 hf (hr x) ((hI.take hc).sub _) (hz x) rfl ?_
   show Xg e h0 (hdl v) _ _
   rw [hh,hq]
   exact⟨rfl,rfl⟩
  intro B mu w a cs todo mode p hm
  exact(key B mu w a cs todo mode (p.ext (Et.sub hsub) (p.sim.sub hsub)) (hm.ext (Et.sub hsub))).ext (Et.sub hsub)
end
def Lp {α:Type}(t:TypeId)(k:IntKind)(F:Int→R α)(els:PV→R α):PV→R α:=fun v=>if v.t=t then(match v.x with | .int k' n=>if k'=k then F n else .bad | _=>.bad) else els v
def H9 {α:Type}(t:TypeId)(k:IntKind)(F:Int→R α)(els:PV→R α):PV→R α:=fun v=>if v.t=t then(match v.x with | .one k' n=>if k'=k then F n else .bad | _=>.bad) else els v
section
variable {P:Program} [GW P] {f:FuncId} {n:Nat} {d:FK} {α:Type} {e:α→AV} {hdl:PV→R α} {h0 h:Ag} {fr:Nat→AV} {ds:List AD} {u:AU} {v:PV} {a a':AU}
theorem Aoh {t:TypeId}{k:IntKind}{F:Int→R α}{els:PV→R α}(hh:hdl=Lp t k F els)(h1 : ∀ n',v=⟨t,.int k n'⟩→WU P f n d (N8 e h0 hdl) (.pan v) a fr ds h u)(h2:v.t≠t→WU P f n d (N8 e h0 hdl) (.pan v) a fr ds h u) :
  WU P f n d (N8 e h0 hdl) (.pan v) a fr ds h u:=by
 intro hV
 by_cases hv:v.t=t
 ·obtain⟨vt,vx⟩:=v
  simp only at hv
  subst hv
  have hV':hdl ⟨vt,vx⟩≠.bad:=hV
  rw [hh] at hV'
  cases vx with
  | int k' n'=>
   by_cases hk:k'=k
   ·subst hk; exact h1 n' rfl hV
   ·simp [Lp,hk] at hV'
  | str s=>simp [Lp] at hV'
  | bool b=>simp [Lp] at hV'
  | unit=>simp [Lp] at hV'
  | two k1 k2 a b=>simp [Lp] at hV'
  | one k a=>simp [Lp] at hV'
 ·exact h2 hv hV
theorem Aie {t:TypeId}{k1:IntKind}{F:Int→R α}{els:PV→R α}(hh:hdl=H9 t k1 F els)(h1 : ∀ a,v=⟨t,.one k1 a⟩→WU P f n d (N8 e h0 hdl) (.pan v) a' fr ds h u)(h2:v.t≠t→WU P f n d (N8 e h0 hdl) (.pan v) a' fr ds h u) :
  WU P f n d (N8 e h0 hdl) (.pan v) a' fr ds h u:=by
 intro hV
 by_cases hv:v.t=t
 ·obtain⟨vt,vx⟩:=v
  simp only at hv
  subst hv
  have hV':hdl ⟨vt,vx⟩≠.bad:=hV
  rw [hh] at hV'
  cases vx with
  | int k' n'=>simp [H9] at hV'
  | str s=>simp [H9] at hV'
  | bool b=>simp [H9] at hV'
  | unit=>simp [H9] at hV'
  | two q1 q2 x y=>simp [H9] at hV'
  | one q1 x=>
   by_cases hk:q1=k1
   ·subst hk; exact h1 x rfl hV
   ·simp [H9,hk] at hV'
 ·exact h2 hv hV
theorem Aea (hh:hdl v=.bad):WU P f n d (N8 e h0 hdl) (.pan v) a fr ds h u:=fun hV=>absurd hh hV
end
theorem Ajs {α:Type}{t:TypeId}{k:IntKind}{F:Int→R α}{els:PV→R α}{v:PV}(h:v.t≠t):Lp t k F els v=els v:=by simp [Lp,h]
theorem Yn {α:Type}{t:TypeId}{k:IntKind}{F:Int→R α}{els:PV→R α}{v:PV}(h:v.t≠t):H9 t k F els v=els v:=by simp [H9,h]
theorem Q9 {α:Type}{t:TypeId}{k:IntKind}{F:Int→R α}{els:PV→R α}{n:Int}:H9 t k F els ⟨t,.one k n⟩=F n:=by simp [H9]
theorem Adl {α:Type}{t:TypeId}{k:IntKind}{F:Int→R α}{els:PV→R α}{n:Int}:Lp t k F els ⟨t,.int k n⟩=F n:=by simp [Lp]
theorem Adi : ∀ (row cs:List AV),row.length=cs.length→Tt row cs=cs
 | [],[],_=>rfl
 | a::row,c::cs,h=>by simp [Tt,Adi row cs (by simpa using h)]
theorem Zc {P:Program}[GW P]{h0:Ag}{ids:List Nat}{xs:List (Option AO)}{N:Nat}{t:TypeId}{T:TI}{g st j:Nat}{row:List AV}{v:AV}(hI:Ids h0 ids N)(hl:xs.length=N)(hjn:Nat.blt j N=true)(hj:xs[j]? = some (some (.rows g st [row])))(hT:ti P t=some T)
  (hok:v.ok=true) (hlen:v.cells.length=T.size) (hc:Nat.beq T.size st=true) (hrl:row.length=st) (hfl:v.cells.all AV.flat=true) :
  Qm P (hp h0 ids xs) t (.ptr (ix ids j) g 0 0) v=some (hp h0 ids (xs.set j (some (.rows g st [v.cells])))):=by
 have hs:=Nat.eq_of_beq_eq_true hc
 have:=A8 (P:=P) (rr:=0) (c:=0) (v:=v) hI hl hjn hj rfl hT hok hlen (by rw [Nat.zero_add,hs]; simp) hrl hfl
 rw [this]
 have e:Ul row 0 v.cells=v.cells:=by
  have:=Adi row v.cells (by rw [hrl,hlen,hs])
  cases row <;> simpa [Ul] using this
 rw [e]
 rfl
theorem Ajo {P:Program}[GW P]{h:Ag}{fr:Nat→AV}{t:Nat}{v:AV}{r:List ResultVar}{vs:List AV}(e:fr t=v)(hr:Hn P h fr r=some vs):Hn P h fr (.tmp t::r)=some (v::vs):=by rw [← e]; exact Dt hr
theorem Oc {P:Program}[GW P]{h:Ag}{fr:Nat→AV}{a:Nat}{t:TypeId}{r:List ResultVar}{v w:AV}{vs:List AV}(e:fr a=w)(hv:Of P h t w=some v)(hr:Hn P h fr r=some vs):Hn P h fr (.cell a t::r)=some (v::vs):=B7 (by rw [e]; exact hv) hr
theorem R9 {P:Program}[GW P]{h0:Ag}{ids:List Nat}{xs:List (Option AO)}{n j:Nat}{o:Nat}{t:TypeId}{T:TI}{g st r c:Nat}{rs:List (List AV)}{row:List AV}{v:AV}(hI:Ids h0 ids n)(ho:ix ids j=o)(hl:xs.length=n)(hj:xs[j]? = some (some (.rows g st rs)))(hr:rs[r]? = some row)(hT:ti P t=some T)(hv:L9 row c T.size T.k.agg=some v) :
  Of P (hp h0 ids xs) t (.ptr o g r c)=some v:=by rw [← ho]; exact Ah hI hl hj hr hT hv
theorem Any {P:Program}[GW P]{t:TypeId}{s by':Nat}{z:List AV}(hT:ti P t=some ⟨.ifc,s,by',z⟩):Je P .eql t .nili .nili=some (.bool true):=by simp only [Je,Ro,hT,Option.map_some]
theorem Amj {P:Program}[GW P]{t:TypeId}{s by':Nat}{z:List AV}(hT:ti P t=some ⟨.ifc,s,by',z⟩):Je P .neq t .nili .nili=some (.bool false):=by simp only [Je,Ro,hT,Option.map_some]; rfl
end Go.Am
namespace Go.Am
open Go Go.ChangeShapes Go.WideShapes Go.RowKit
set_option linter.unusedVariables false
set_option linter.unusedSectionVars false
set_option linter.unusedSimpArgs false
abbrev X5:Mu:=fun _ _=>none
abbrev M0:Nat→Prop:=fun _=>False
def LR (w:World)(l:List AV)(cs:List Value):Prop:=l.length=cs.length ∧ ∀ i,i<l.length→Rv w X5 M0 (l.getD i .und) (cs.getD i undef)
structure Bulk {H:Type}(bk:DataW H→Nat)(bks:List (DataW H)→Nat):Prop where
 one : ∀ d,1≤bk d
 str : ∀ l,bk (.lit (.string l))=l.length+1
 sl : ∀ e s,bks e+1≤bk (.slice e s)
 agg : ∀ l,bk (.agg l)=bks l+1
 nil:bks []=0
 cons : ∀ d l,bks (d::l)=bk d+bks l
structure Ty (τ:Type) where
 e:τ→List AV
 good:τ→Prop
 bulk:τ→Nat
section
variable {P:Program} [GW P]
def P2 {τ:Type}(P:Program)[GW P](t:TypeId)(T:Ty τ):Prop:=
 ∀ {H:Type} (enc:TypeId×Value→H) (w:World) (sp:Nat→Bool) (held:Bool) (fuel:Nat) (cs:List Value) (x:DataW H×List MemPlace) (bk:DataW H→Nat) (bks:List (DataW H)→Nat),
  Bulk bk bks→DataW.trod enc P w 0 sp held fuel t cs=some x→bk x.1≤C2 → ∃ a:τ,LR w (T.e a) cs∧T.good a∧T.bulk a≤bk x.1
theorem LR.nil {w:World}:LR w [] []:=⟨rfl,fun _ h=>absurd h (Nat.not_lt_zero _)⟩
theorem LR.one {w:World}{a:AV}{c:Value}(h:Rv w X5 M0 a c):LR w [a] [c]:=⟨rfl,fun i hi=>by
 have:i=0:=by simpa using hi
 subst this; exact h⟩
theorem LR.cons {w:World}{a:AV}{c:Value}{l:List AV}{cs:List Value}(h:Rv w X5 M0 a c)(k:LR w l cs):LR w (a::l) (c::cs):=⟨by simp [k.1],fun i hi=>by
 cases i with
 | zero=>exact h
 | succ i=>simpa using k.2 i (by simpa using hi)⟩
theorem LR.append {w:World} : ∀ {l:List AV} {cs:List Value} {l':List AV} {cs':List Value},LR w l cs→LR w l' cs'→LR w (l++l') (cs++cs')
 | [],[],_,_,_,h=>h
 | [],_::_,_,_,h,_=>by simp [LR] at h
 | _::_,[],_,_,h,_=>by simp [LR] at h
 | a::l,c::cs,l',cs',h,h'=>by
  refine LR.cons (by simpa using h.2 0 (by simp)) (LR.append (l:=l) (cs:=cs) ⟨by simpa using h.1,fun i hi=>by simpa using h.2 (i+1) (by simpa using hi)⟩ h')
def G0 (k:IntKind):Ty Int:=⟨fun n=>[.int k n],fun n=>(Lit.int k n).wf=true,fun _=>1⟩
def Abs:Ty Bool:=⟨fun b=>[.bool b],fun _=>True,fun _=>1⟩
def Ve {τ:Type}(st:Nat)(T:Ty τ):Ty (List τ):=⟨fun l=>[.sl st (l.map T.e)],fun l => ∀ a ∈ l,T.good a,fun l=>(l.map T.bulk).sum+1⟩
def Aib:Ty Unit:=⟨fun _=>[],fun _=>True,fun _=>0⟩
def Pb {α β:Type}(A:Ty α)(B:Ty β):Ty (α×β):=⟨fun p=>A.e p.1++B.e p.2,fun p=>A.good p.1∧B.good p.2,fun p=>A.bulk p.1+B.bulk p.2⟩
theorem Adw {t:TypeId}{k:IntKind}(ht:P.underlying t=some (.int k)):P2 P t (G0 k):=by
 intro H enc w sp held fuel cs x bk bks B h hl
 obtain⟨n,rfl,rfl,hw⟩:=DataW.trod_int ht h
 exact⟨n,LR.one (.int k n),hw,B.one _⟩
theorem Ah4 {t:TypeId}(ht:P.underlying t=some .bool):P2 P t Abs:=by
 intro H enc w sp held fuel cs x bk bks B h hl
 obtain⟨n,rfl,rfl⟩:=DataW.trod_bool ht h
 exact⟨n,LR.one (.bool n),trivial,B.one _⟩
theorem Adg {α:Type}{Q:Nat→α→Prop} : ∀ (n:Nat),(∀ i,i<n → ∃ a,Q i a) → ∃ l:List α,l.length=n ∧ ∀ i a,l[i]? = some a→Q i a
 | 0,_=>⟨[],rfl,fun i a h=>by simp at h⟩
 | n+1,h=>by
  obtain⟨l,hl,hq⟩:=Adg n fun i hi=>h i (Nat.lt_succ_of_lt hi)
  obtain⟨a,ha⟩:=h n (Nat.lt_succ_self n)
  refine⟨l++[a],by simp [hl],fun i b hb=>?_⟩
  by_cases hi:i<n
  ·rw [List.getElem?_append_left (by omega)] at hb; exact hq i b hb
  ·have hlt:=(List.getElem?_eq_some_iff.1 hb).1
   have:i=n:=by simp [hl] at hlt; omega
   subst this
   rw [List.getElem?_append_right (by omega),hl] at hb
   simp at hb; subst hb; exact ha
theorem Aek {H:Type}{bk:DataW H→Nat}{bks:List (DataW H)→Nat}(B:Bulk bk bks){d:DataW H} : ∀ {l:List (DataW H)},d ∈ l→bk d≤bks l
 | [],h=>by simp at h
 | x::l,h=>by
  rw [B.cons]
  rcases List.mem_cons.1 h with rfl | h
  ·omega
  ·have:=Aek B h; omega
theorem Af3 {H:Type}{bk:DataW H→Nat}{bks:List (DataW H)→Nat}(B:Bulk bk bks) : ∀ (l:List (DataW H)),l.length≤bks l
 | []=>by simp
 | x::l=>by
  rw [B.cons]
  have h1:=B.one x
  have h2:=Af3 B l
  simp; omega
theorem Afh {H τ:Type}{bk:DataW H→Nat}{bks:List (DataW H)→Nat}(B:Bulk bk bks){f:τ→Nat} : ∀ (l:List τ) (ds:List (DataW H)),l.length=ds.length→(∀ (i:Nat) a d,l[i]? = some a→ds[i]? = some d→f a≤bk d)→(l.map f).sum≤bks ds
 | [],[],_,_=>by simp
 | [],_::_,h,_=>by simp at h
 | _::_,[],h,_=>by simp at h
 | a::l,d::ds,h,hq=>by
  rw [B.cons]
  have h1:=hq 0 a d (by simp) (by simp)
  have h2:=Afh B l ds (by simpa using h) fun i a' d' ha hd=>hq (i+1) a' d' (by simpa using ha) (by simpa using hd)
  simp only [List.map_cons,List.sum_cons]
  omega
theorem Agf {τ:Type}{t e:TypeId}{st:Nat}{T:Ty τ}(ht:P.underlying t=some (.slice e))(hst:P.cellsOf e=st)(hpos:0<st)(hok : ∀ a,Es st (T.e a))(h:P2 P e T):P2 P t (Ve st T):=by
 intro H enc w sp held fuel cs x bk bks B hx hl
 rcases DataW.trod_slice ht hx with⟨rfl,rfl⟩ | ⟨a,len,cap,elems,rest,n,_,rfl,rfl,_,hcap,_,hlen,hel,_⟩
 ·exact⟨[],LR.one (.sl0 st none 0),fun _ h=>absurd h (List.not_mem_nil),by simpa [Ve] using B.one _⟩
 ·rw [hst] at hel
  have hb:=B.sl (elems.map (·.1)) (rest.map (·.1))
  have hlenb:len≤C2:=by
   have:=Af3 B (elems.map (·.1))
   simp only [List.length_map] at this
   simp only at hl
   omega
  have key : ∀ i,i<len → ∃ a1:τ,∃ cs1 y,w.cells? 0 (a.add (i * st)) st=some cs1∧elems[i]? = some y∧LR w (T.e a1) cs1∧T.good a1∧T.bulk a1≤bk y.1:=by
   intro i hi
   have hE:=hel i hi
   have hi':i<elems.length:=by omega
   rw [List.getElem?_eq_getElem hi',Option.bind_eq_some_iff] at hE
   obtain⟨cs1,hc1,hy1⟩:=hE
   have hbi:bk (elems[i]).1≤bks (elems.map (·.1)):=Aek B (List.mem_map.2 ⟨_,List.getElem_mem hi',rfl⟩)
   obtain⟨a1,h1,h2,h3⟩:=h enc w sp held n cs1 _ bk bks B hy1 (by simp only at hl; omega)
   exact⟨a1,cs1,_,hc1,List.getElem?_eq_getElem hi',h1,h2,h3⟩
  obtain⟨l,hll,hq⟩:=Adg len key
  refine⟨l,LR.one ?_,fun a1 hm=>?_,?_⟩
  ·by_cases h0:len=0
   ·subst h0
    have:l=[]:=List.length_eq_zero_iff.1 hll
    subst this
    exact .sl0 st (some a) cap
   ·have hsp:a.spot=none:=by
     obtain⟨a1,cs1,y,hc1,_⟩:=key 0 (by omega)
     obtain⟨_,hcl,hc⟩:=World.cells?_some hc1
     have h00:=hc 0 hpos
     simp only [Nat.zero_mul,Addr.add,if_true] at h00
     rw [List.getElem?_eq_getElem (by omega)] at h00
     unfold World.cell? at h00
     split at h00
     ·split at h00
      ·cases h00
      ·rename_i hh; simpa using hh
     ·cases h00
    have hlt:a.block<w.heap.size:=by
     obtain⟨a1,cs1,y,hc1,_⟩:=key 0 (by omega)
     have:=World.cells?_block hc1 hpos
     simpa [Addr.add] using this
    have hadd : ∀ i j,(a.add (i * st)).add j=⟨a.block,a.off+i * st+j,none⟩:=by
     intro i j
     obtain⟨b,off,s⟩:=a
     simp only at hsp
     subst hsp
     unfold Addr.add
     split <;> split <;> simp_all
    have hcell : ∀ i j,i<l.length→j<st → ∃ a1 v,l[i]? = some a1∧w.cell? ⟨a.block,a.off+i * st+j,none⟩=some v∧Rv w X5 M0 ((T.e a1).getD j .und) v:=by
     intro i j hi hj
     obtain⟨cs1,y,hc1,_,h1,_,_⟩:=hq i _ (List.getElem?_eq_getElem hi)
     obtain⟨_,hcl,hc⟩:=World.cells?_some hc1
     have:=hc j hj
     rw [hadd,List.getElem?_eq_getElem (by omega)] at this
     refine⟨_,_,List.getElem?_eq_getElem hi,this,?_⟩
     have hr:=h1.2 j (by rw [h1.1]; omega)
     rwa [List.getD_eq_getElem?_getD,List.getD_eq_getElem?_getD,List.getElem?_eq_getElem (l:=cs1) (by omega),Option.getD_some,← List.getD_eq_getElem?_getD] at hr
    have:=Rv.sl (w:=w) (mu:=X5) (M:=M0) st (l.map T.e) a.block a.off cap (fun i j=>(w.cell? ⟨a.block,a.off+i * st+j,none⟩).getD undef) (by simpa [hll] using hcap) (by simpa [hll] using hlenb)
     (fun i j hi hj=>by
      obtain⟨_,v,_,hv,_⟩:=hcell i j (by simpa using hi) hj
      rw [hv]; rfl)
     (fun i j hi hj=>by
      obtain⟨a1,v,ha1,hv,hr⟩:=hcell i j (by simpa using hi) hj
      rw [hv]
      simp only [cell,List.getD_eq_getElem?_getD,List.getElem?_map,ha1,Option.map_some,Option.getD_some] at hr ⊢
      exact hr)
     (fun r hr=>by obtain⟨a1,_,rfl⟩:=List.mem_map.1 hr; exact hok a1) (fun h=>h) hlt
    rw [show(l.map T.e).length=len by simp [hll]] at this
    have e:a=⟨a.block,a.off,none⟩:=by cases a; simp only at hsp; subst hsp; rfl
    rw [e]
    exact this
  ·obtain⟨i,hi,rfl⟩:=List.mem_iff_getElem.1 hm
   obtain⟨_,_,_,_,_,hg,_⟩:=hq i _ (List.getElem?_eq_getElem hi)
   exact hg
  ·have:=Afh B (f:=T.bulk) l (elems.map (·.1)) (by simp [hll,hlen]) fun i a1 d ha hd=>by
    obtain⟨cs1,y,_,hy,_,_,hb1⟩:=hq i a1 ha
    rw [List.getElem?_map,hy] at hd
    simp only [Option.map_some,Option.some.injEq] at hd
    subst hd
    exact hb1
   show(l.map T.bulk).sum+1≤_
   simp only
   omega
def Abb {τ:Type}(P:Program)[GW P](off:Nat)(fs:List Field)(T:Ty τ)(tot:Nat):Prop:=
 ∀ {H:Type} (enc:TypeId×Value→H) (w:World) (sp:Nat→Bool) (held:Bool) (n:Nat) (cs:List Value) (xs:List (DataW H×List MemPlace)) (bk:DataW H→Nat) (bks:List (DataW H)→Nat),Bulk bk bks →
  xs.length=fs.length→(∀ (i:Nat) (f:Field),fs[i]? = some f→DataW.trod enc P w 0 sp held n f.type ((cs.drop f.offset).take (P.cellsOf f.type))=xs[i]?)→cs.length=tot→bks (xs.map (·.1))≤C2 →
  ∃ a:τ,LR w (T.e a) (cs.drop off)∧T.good a∧T.bulk a≤bks (xs.map (·.1))
theorem Akm {off tot:Nat}(h:off=tot):Abb P off [] Aib tot:=by
 intro H enc w sp held n cs xs bk bks B hl hx hc hb
 subst h
 refine⟨(),?_,trivial,Nat.zero_le _⟩
 rw [List.drop_of_length_le (by omega)]
 exact LR.nil
theorem Mg {τ σ:Type}{off tot c:Nat}{f:Field}{fs:List Field}{T:Ty τ}{S:Ty σ}{t:TypeId}(hf:f.offset=off)(ht:f.type=t)(hc:P.cellsOf t=c)(hle:Nat.ble (off+c) tot=true)(h:P2 P t T)(k:Abb P (off+c) fs S tot) :
  Abb P off (f::fs) (Pb T S) tot:=by
 intro H enc w sp held n cs xs bk bks B hl hx hcs hb
 subst ht
 cases xs with
 | nil=>simp at hl
 | cons x xs=>
  have hle:off+c≤tot:=by simpa using hle
  have h0:=hx 0 f rfl
  rw [hf,hc] at h0
  simp only [List.map_cons,B.cons] at hb
  obtain⟨a,h1,h2,h3⟩:=h enc w sp held n _ x bk bks B h0 (by omega)
  obtain⟨b,k1,k2,k3⟩:=k enc w sp held n cs xs bk bks B (by simpa using hl) (fun i g hg=>by simpa using hx (i+1) g (by simpa using hg)) hcs (by omega)
  refine⟨(a,b),?_,⟨h2,k2⟩,by simp only [List.map_cons,B.cons,Pb]; omega⟩
  have e:cs.drop off=(cs.drop off).take c++cs.drop (off+c):=by
   rw [← List.drop_drop,List.take_append_drop]
  rw [e]
  exact LR.append h1 k1
theorem Af8 {τ σ:Type}{t:TypeId}{fs:Array Field}{T:Ty τ}{tot:Nat}{S:Ty σ}(ht:P.underlying t=some (.struct fs))(hc:P.cellsOf t=tot)(k:Abb P 0 fs.toList T tot)(mk:τ→σ)
  (he : ∀ p,S.e (mk p)=T.e p) (hg : ∀ p,T.good p→S.good (mk p)) (hb : ∀ p,S.bulk (mk p)≤T.bulk p+1):P2 P t S:=by
 intro H enc w sp held fuel cs x bk bks B h hl
 obtain⟨xs,n,rfl,rfl,h1,h2,h3⟩:=DataW.trod_struct ht h
 simp only [B.agg] at hl
 obtain⟨a,k1,k2,k3⟩:=k enc w sp held n cs xs bk bks B (by simpa using h2) (fun i f hf=>h3 i f (by simpa using hf)) (by omega) (by omega)
 refine⟨mk a,?_,hg _ k2,?_⟩
 ·rw [he]; simpa using k1
 ·have:=hb a; simp only [B.agg]; omega
end
theorem Aop {w w':World}{mu':Mu}{M':Nat→Prop}(h:Ext w X5 M0 w' mu' M'):w.keptBut w' (fun _=>False)∧(∀ b,b<w.heap.size→w'.heap[b]? = w.heap[b]?):=by
 refine⟨⟨h.os,h.output,fun i hi=>?_⟩,fun b hb=>(h.same b hb (fun h=>h)).1⟩
 rw [(h.same i hi (fun h=>h)).1]
 cases w.heap[i]? with
 | none=>trivial
 | some o=>cases o <;> simp
theorem Aou {P:Program}[GW P](w:World)(hg:GW.n P≤w.heap.size∧GW.G P w.heap.size w):Sim (P:=P) ⟨w.heap.size,w.heap.size⟩ X5 (fun _=>none) w:=
 ⟨Nat.le_refl _,fun _ _ _ h=>(by cases h),⟨0,fun _ _ _=>rfl⟩,⟨0,fun _ _=>rfl⟩,fun _ _ _ _ h=>(by cases h),fun _ _ _ h=>(by cases h),fun _ _ _ _ _ _ h=>(by cases h),hg,fun _ _ _ h=>(by cases h)⟩
theorem Aj0 {P:Program}[GW P]{f:FuncId}{A:List AV}{m:R Bool}{args:Array Value}{w:World}(hc:CP P f A m (fun b=>AV.bool b))(hg:GW.n P≤w.heap.size∧GW.G P w.heap.size w)(hm:m=.ok true)(ha:LR w A args.toList) :
  Calls P f args w fun e w'=>e=.returned (.bool true)∧w.keptBut w' (fun _=>False)∧(∀ b,b<w.heap.size→w'.heap[b]? = w.heap[b]?):=by
 subst hm
 have h:=(hc (fun _=>none) (by simp)).2 ⟨w.heap.size,w.heap.size⟩ X5 w args (Aou w hg) ⟨ha.1,fun i hi=>(ha.2 i hi).less (fun b hb=>by obtain⟨_,_,_,h,_⟩:=hb; cases h)⟩
 refine h.mono fun e w' ⟨r,h',mu',a1,a2,a3,a4⟩=>?_
 obtain⟨_,hr⟩:=a1
 simp only at hr
 subst hr
 refine⟨?_,Aop (mu':=mu') (M':=Do h' mu') ⟨a3.os,a3.tape,a3.output,a3.size,fun b hb _=>a3.same b hb (fun hm=>by obtain⟨_,_,_,h,_⟩:=hm; cases h),a3.mu⟩⟩
 cases e with
 | returned v=>
  have a4':Rv w' mu' (Do h' mu') (.bool true) v:=a4
  cases a4'
  rfl
 | panicked v=>exact a4.elim
 | outgrown=>exact a4.elim
theorem An2 {w:World}{l:List AV}{c:Array Value}(h:LR w l (Value.agg c).cells.toList):Rv w X5 M0 (.agg l) (.agg c):=by
 have h':LR w l c.toList:=h
 have:=Rv.agg (w:=w) (mu:=X5) (M:=M0) l c.toList h'.1 h'.2
 simpa using this
theorem Agr {P:Program}[GW P]{W:World}{r:Reach}{b:Nat}{t:TypeId}{v:Value}{d:TypeDesc}(ht:P.underlying t=some d)(h1 : ∀ fs,d≠.struct fs)(h2 : ∀ n e,d≠.array n e)(h:Value.okWide P W r b t v) : ∀ cs,v≠.agg cs:=by
 intro cs e
 subst e
 unfold Value.okWide at h
 rw [ht] at h
 split at h
 ·rename_i fs he; exact h1 fs (Option.some.inj he)
 ·rename_i n x he; exact h2 n x (Option.some.inj he)
 ·unfold Cell.okWide at h
  revert h
  cases d <;> simp_all [Cell.ok]
theorem Amo {w:World}{a:AV}{v:Value}(h:LR w [a] v.cells.toList)(hv : ∀ cs,v≠.agg cs):Rv w X5 M0 a v:=by
 have e:v.cells = #[v]:=by cases v <;> first | rfl | exact absurd rfl (hv _)
 rw [e] at h
 exact h.2 0 (by simp)
theorem Adv {H:Type}{enc:TypeId×Value→H}{P:Program}[GW P](hl:laidOutB P=true){W W':World}{sp':Nat→Bool} : ∀ {ts:List TypeId} {vs:List Value} {ds:List (DataW H)} {ps:List MemPlace},
  (∀ t ∈ ts,P.readableRec t=true∧t<P.types.size)→DataW.TrodAll enc P W 0 (fun _=>true) true ts vs ds ps→(∀ p ∈ ps,W.sameAt W' p)→(∀ p ∈ ps,sp' p.block=true)→DataW.TrodAll enc P W' 0 sp' true ts vs ds ps
 | [],[],[],_,_,h,_,_=>h
 | [],_::_,_,_,_,h,_,_=>h.elim
 | [],[],_::_,_,_,h,_,_=>h.elim
 | _::_,[],_,_,_,h,_,_=>h.elim
 | _::_,_::_,[],_,_,h,_,_=>h.elim
 | t::ts,v::vs,d::ds,ps,hr,h,hs,hp=>by
  obtain⟨p,q,h1,h2,rfl⟩:=h
  refine⟨p,q,?_,Adv hl (fun t ht=>hr t (List.mem_cons_of_mem _ ht)) h2 (fun x hx=>hs x (List.mem_append_right _ hx)) (fun x hx=>hp x (List.mem_append_right _ hx)),rfl⟩
  obtain⟨a,b⟩:=hr t (List.mem_cons_self ..)
  exact Go.WideElems.Trod_stays hl a b h1 (fun x hx=>hs x (List.mem_append_left _ hx)) (fun x hx=>hp x (List.mem_append_left _ hx))
theorem Alb {H:Type}{enc:TypeId×Value→H}{P:Program}[GW P]{f:FuncId}{fn:Func}{s:ChangeSpec}{W:World}{args:Array Value}{ds gs:List (DataW H)}{before:List MemPlace}{tb:TypeId}
  (hW:DataW.Whole enc P fn.params.toList s.vars false W args.toList ds gs before)
  (hl:laidOutB P=true) (hr : ∀ t ∈ fn.params.toList,P.readableRec t=true∧t<P.types.size) (hvs:s.vars=[]) (hrt:fn.resultTypes = #[tb]) (htb:P.underlying tb=some .bool)
  (hsp : ∀ ds:List (DataW H),ds.length=fn.params.size→s.fn H ds={ results:=[.lit (.bool true)],args:=ds })
  (hc:Calls P f args W fun e w'=>e=.returned (.bool true)∧W.keptBut w' (fun _=>False)∧(∀ b,b<W.heap.size→w'.heap[b]? = W.heap[b]?)) :
  Calls P f args W fun e W' => ∃ v,e=.returned v∧s.post enc P fn false true false false W args v W':=by
 refine hc.mono fun e W' ⟨he,hk,hs⟩=>?_
 subst he
 refine⟨_,rfl,?_⟩
 have hold : ∀ p ∈ before,(fun b=>decide (b<W.heap.size)) p.block=true:=fun p hp=>by simpa using hW.lt p hp
 obtain⟨pa,pv,hA,hV,rfl,hz,hn⟩:=id hW
 rw [hvs] at hV
 cases gs with
 | cons g gs=>exact hV.elim
 | nil=>
 have hV':pv=[]:=hV
 subst hV'
 have hlen:ds.length=fn.params.size:=by
  have : ∀ {ts:List TypeId} {vs:List Value} {ds:List (DataW H)} {ps:List MemPlace},DataW.TrodAll enc P W 0 (fun _=>true) true ts vs ds ps→ds.length=ts.length:=by
   intro ts
   induction ts with
   | nil=>intro vs ds ps h; cases vs <;> cases ds <;> first | rfl | exact h.elim
   | cons t ts ih=>
    intro vs ds ps h
    cases vs with
    | nil=>exact h.elim
    | cons v vs=>
     cases ds with
     | nil=>exact h.elim
     | cons d ds=>obtain⟨_,_,_,h2,_⟩:=h; simp [ih h2]
  simpa using this hA
 have hfn:s.fn H (ds++[])={ results:=[.lit (.bool true)],args:=ds }:=by rw [List.append_nil]; exact hsp ds hlen
 have hsame : ∀ p ∈ pa++[],W.sameAt W' p:=fun p hp=>by
  have hb:=hs p.block (hW.lt p hp)
  cases p with
  | cell b off=>exact cell?_of_heap (a:=⟨b,off,none⟩) hb
  | map b=>exact hb
 have hres : ∀ (b:Nat) (sp:Nat→Bool) (hd:Bool),DataW.TrodAll enc P W' b sp hd fn.resultTypes.toList ((Value.bool true).resultList fn.resultTypes.size) (s.fn H (ds++[])).results []:=by
  intro b sp hd
  rw [hfn,hrt]
  exact trodAll_cons_mk (shut_bool htb _) trodAll_mk0
 have hargs : ∀ sp:Nat→Bool,(∀ p ∈ pa++[],sp p.block=true)→DataW.TrodAll enc P W' 0 sp true fn.params.toList args.toList (s.fn H (ds++[])).args pa:=by
  intro sp hsp'
  rw [hfn]
  exact Adv hl hr hA (fun p hp=>hsame p (by simpa using hp)) (fun p hp=>hsp' p (by simpa using hp))
 have hvars : ∀ sp:Nat→Bool,(∀ p ∈ pa++[],sp p.block=true)→DataW.TrodVars enc P W' sp s.vars (s.fn H (ds++[])).vars []:=by
  intro sp _
  rw [hfn,hvs]
  rfl
 refine⟨ds,[],pa++[],[],pa,[],hW,hres _ _ _,hargs _ hold,hvars _ hold,World.keptBut_mono (fun p hp=>hp.elim) hk,fun _=>?_⟩
 refine⟨ok_one hrt rfl (okWide_bool_mk htb _),_,_,([]++pa)++[],⟨[]++pa,[],trodAll_append (hargs _ (fun _ _=>rfl)) (hres _ _ _),hvars _ (fun _ _=>rfl),rfl,?_,?_⟩,?_⟩
 ·intro b off hp
  have hb:=hs b (hW.lt (.cell b off) (by simpa using hp))
  have:=hz b off (by simpa using hp)
  unfold World.frozen? at this ⊢
  rw [hb]; exact this
 ·intro ha; cases ha
 ·intro p hp _
  simpa using hp
end Go.Am
namespace Go.Am
open Go
set_option linter.unusedVariables false
set_option linter.unusedSectionVars false
set_option linter.unusedSimpArgs false
theorem T0 {α σ:Type}(b:Nat→α→σ→R σ)(k:Nat)(s:σ):E3 b k [] s=.ok s:=rfl
theorem M5 {α σ:Type}(b:Nat→α→σ→R σ)(k:Nat)(a:α)(l:List α)(s:σ):E3 b k (a::l) s=(b k a s).bind fun s'=>E3 b (k+1) l s':=by
 rw [E3]
theorem F4 {n:Int}(h1 : -9223372036854775808≤n)(h2:n≤9223372036854775807):IntKind.wrap .i64 n=n:=by
 simp [IntKind.wrap,IntKind.bits,IntKind.signed]
 omega
theorem T4 {α:Type}{l:List α}{j:Nat}{a:α}(h:l[j]? = some a):Cd l (j:Int)=.ok a:=by
 unfold Cd
 rw [if_pos (by omega)]
 simp [h]
theorem Al3 {α:Type}(a:α)(l:List α):Cd (a::l) 0=.ok a:=T4 (j:=0) rfl
abbrev Ans:=List UInt8
def pos (l:List Ans)(x:Ans):Option Nat:=l.findIdx? (· == x)
theorem Aai {α:Type}{b:Nat→α→Unit→R (Unit ⊕ Bool)} : ∀ (l:List α) (k:Nat),(∀ (j:Nat) a,l[j]? = some a→b (k+j) a ()=.ok (.inl ()))→each b k l ()=.ok (.inl ())
 | [],k,_=>rfl
 | a::l,k,hb=>by
  rw [N1,show b k a ()=.ok (.inl ()) from hb 0 a rfl]
  simp only [R.ok_bind]
  exact Aai l (k+1) fun j x h=>by have:=hb (j+1) x (by simpa using h); rwa [Nat.add_comm j 1,← Nat.add_assoc] at this
theorem Aan {α:Type}{b:Nat→α→Unit→R (Unit ⊕ Bool)}{p:α→Bool}(v:Bool) : ∀ (l:List α) (k:Nat),(∀ j,∀ a ∈ l,b j a ()=if p a then .ok (.inr v) else .ok (.inl ()))→each b k l ()=.ok (if l.any p then .inr v else .inl ())
 | [],k,_=>rfl
 | a::l,k,hb=>by
  rw [N1,hb k a (List.mem_cons_self ..)]
  cases hp:p a with
  | true=>simp [hp]
  | false=>
   simp only [Bool.false_eq_true,if_false,R.ok_bind]
   rw [Aan v l (k+1) fun j x hx=>hb j x (List.mem_cons_of_mem _ hx)]
   simp [hp]
end Go.Am
