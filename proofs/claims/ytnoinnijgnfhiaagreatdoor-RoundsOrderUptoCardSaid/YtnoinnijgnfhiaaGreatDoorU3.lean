/- Written by shrink.py from texts of ours: comments struck, what is not reached left out, names short. -/
import Derived.Test.YtnoinnijgnfhiaaGreatDoorU2
namespace Go.Am
open Go
set_option linter.unusedSimpArgs false
set_option linter.unusedVariables false
set_option linter.unusedSectionVars false
inductive Sc where
 | int (k:IntKind) (n:Int)
 | str (s:List UInt8)
 | bool (b:Bool)
 | unit
 | two (k1 k2:IntKind) (a b:Int)
 | one (k:IntKind) (a:Int)
 deriving DecidableEq
def Sc.av:Sc→AV
 | .int k n=>.int k n
 | .str s=>.str s
 | .bool b=>.bool b
 | .unit=>.agg []
 | .two k1 k2 a b=>.agg [.int k1 a,.int k2 b]
 | .one k a=>.agg [.int k a]
structure PV where
 t:TypeId
 x:Sc
 deriving DecidableEq
def PV.av (v:PV):AV:=.iface v.t v.x.av
inductive R (α:Type) where
 | ok (a:α)
 | pan (v:PV)
 | bad
 deriving DecidableEq
namespace R
def bind {α β:Type}:R α→(α→R β)→R β
 | ok a,f=>f a
 | pan v,_=>pan v
 | bad,_=>bad
@[simp] theorem ok_bind {α β:Type}(a:α)(f:α→R β):(ok a).bind f=f a:=rfl
@[simp] theorem Axq {α β:Type}(v:PV)(f:α→R β):(pan v:R α).bind f=pan v:=rfl
@[simp] theorem Ax6 {α β:Type}(f:α→R β):(bad:R α).bind f=bad:=rfl
theorem bind_assoc {α β γ:Type}(m:R α)(f:α→R β)(g:β→R γ):(m.bind f).bind g=m.bind fun a=>(f a).bind g:=by cases m <;> rfl
@[simp] theorem bind_ok {α:Type}(m:R α):m.bind ok=m:=by cases m <;> rfl
end R
section
variable {σ ε:Type}
def Ge (body:σ→R (σ ⊕ ε)):Nat→σ→R ε
 | 0,_=>.bad
 | n+1,s=>(body s).bind fun
  | .inl s'=>Ge body n s'
  | .inr e=>.ok e
theorem Aho (body:σ→R (σ ⊕ ε)) : ∀ (n:Nat) (s:σ),Ge body n s≠.bad→Ge body (n+1) s=Ge body n s
 | 0,s,h=>absurd rfl h
 | n+1,s,h=>by
  rw [Ge]
  rw [Ge] at h ⊢
  cases hb:body s with
  | bad=>rfl
  | pan v=>rfl
  | ok x=>
   rw [hb] at h
   cases x with
   | inr e=>rfl
   | inl s'=>exact Aho body n s' h
theorem Ams (body:σ→R (σ ⊕ ε)){n m:Nat}{s:σ}(hnm:n≤m)(h:Ge body n s≠.bad):Ge body m s=Ge body n s:=by
  induction m with
  | zero => have : n = 0 := by omega
            subst this; rfl
  | succ m ih=>
    by_cases hq:n=m+1
    · subst hq; rfl
    · have e:=ih (by omega)
      rw [Aho body m s (by rw [e]; exact h),e]
open Classical in
noncomputable def Aiw (body : σ → R (σ ⊕ ε)) (s : σ) : R ε := if h : ∃ n, Ge body n s ≠ .bad then Ge body (Classical.choose h) s else .bad
@[irreducible] noncomputable def loop (body:σ→R (σ ⊕ ε))(s:σ):R ε:=
 match Ge body 80 s with
 | .ok a=>.ok a
 | .pan v=>.pan v
 | .bad=>Aiw body s
theorem Sw {body:σ→R (σ ⊕ ε)}{n:Nat}{s:σ}(h:Ge body n s≠.bad):loop body s=Ge body n s:=by
 have same : ∀ {m k:Nat},Ge body m s≠.bad→Ge body k s≠.bad→Ge body m s=Ge body k s:=fun {m k} h1 h2=>by
  rcases Nat.le_total m k with hle | hle
  ·exact(Ams body hle h1).symm
  ·exact Ams body hle h2
 unfold loop
 split
 ·rename_i e; rw [← e]; exact same (by rw [e]; simp) h
 ·rename_i e; rw [← e]; exact same (by rw [e]; simp) h
 ·have hex : ∃ n,Ge body n s≠.bad:=⟨n,h⟩
  unfold Aiw
  rw [dif_pos hex]
  exact same (Classical.choose_spec hex) h
theorem Zq {body:σ→R (σ ⊕ ε)}{s:σ}(h:loop body s≠.bad) : ∃ n,loop body s=Ge body n s:=by
 by_cases hex : ∃ n,Ge body n s≠.bad
 ·obtain⟨n,hn⟩:=hex; exact⟨n,Sw hn⟩
 ·exfalso; apply h; unfold loop
  rw [show Ge body 80 s=.bad from Classical.byContradiction fun q=>hex ⟨80,q⟩]
  show Aiw body s=.bad
  unfold Aiw; rw [dif_neg hex]
theorem Agw (body:σ→R (σ ⊕ ε))(s:σ):loop body s=(body s).bind fun
  | .inl s'=>loop body s'
  | .inr e=>.ok e:=by
 cases hb:body s with
 | pan v=>
  have:Ge body 1 s=.pan v:=by rw [Ge,hb]; rfl
  rw [Sw (n:=1) (by rw [this]; simp),this]; rfl
 | bad=>
  by_cases h:loop body s=.bad
  ·rw [h]; rfl
  ·obtain⟨n,hn⟩:=Zq h
   cases n with
   | zero=>rw [hn] at h; exact absurd rfl h
   | succ n=>rw [hn,Ge,hb]; rfl
 | ok x=>
  cases x with
  | inr e=>
   have:Ge body 1 s=.ok e:=by rw [Ge,hb]; rfl
   rw [Sw (n:=1) (by rw [this]; simp),this]; rfl
  | inl s'=>
   simp only [R.ok_bind]
   by_cases h':loop body s'=.bad
   ·rw [h']
    by_cases h:loop body s=.bad
    ·exact h
    ·exfalso
     obtain⟨n,hn⟩:=Zq h
     cases n with
     | zero=>rw [hn] at h; exact absurd rfl h
     | succ n=>
      have e:Ge body (n+1) s=Ge body n s':=by rw [Ge,hb]; rfl
      rw [hn,e] at h
      rw [Sw h] at h'
      exact h h'
   ·obtain⟨n,hn⟩:=Zq h'
    have e:Ge body (n+1) s=Ge body n s':=by rw [Ge,hb]; rfl
    rw [hn] at h'
    rw [hn,← e,Sw (n:=n+1) (by rw [e]; exact h')]
end
section
variable {α σ ε:Type}
def each (body:Nat→α→σ→R (σ ⊕ ε)):Nat→List α→σ→R (σ ⊕ ε)
 | _,[],s=>.ok (.inl s)
 | k,a::l,s=>(body k a s).bind fun
  | .inl s'=>each body (k+1) l s'
  | .inr e=>.ok (.inr e)
@[simp] theorem Asn (body:Nat→α→σ→R (σ ⊕ ε))(k:Nat)(s:σ):each body k [] s=.ok (.inl s):=rfl
theorem Re (body:Nat→α→σ→R (σ ⊕ ε))(k:Nat)(a:α)(l:List α)(s:σ):each body k (a::l) s=(body k a s).bind fun
  | .inl s'=>each body (k+1) l s'
  | .inr e=>.ok (.inr e):=rfl
end
def idx {α:Type}(l:List α)(n:Int):R α:=if 0≤n then(match l[n.toNat]? with | some a=>.ok a | none=>.bad) else .bad
def Ag:List (Nat×AV)→Nat→AV
 | [],_=>.any
 | p::l,t=>bif Nat.beq t p.1 then p.2 else Ag l t
theorem Ey (l:List (Nat×AV))(t:Nat)(v:AV):Fu (Ag l) (some t) v=Ag ((t,v)::l):=by
 funext s
 simp only [Fu,upd,Ag]
 by_cases h:s=t
 ·subst h; simp
 ·have:Nat.beq s t=false:=by
   cases hq:Nat.beq s t with
   | false=>rfl
   | true=>exact absurd (Nat.eq_of_beq_eq_true hq) h
  rw [if_neg h,this]; rfl
def hp (h0:Ab):List Nat→List (Option AO)→Ab
 | o::os,x::xs=>upd (hp h0 os xs) o x
 | _,_=>h0
structure Ids (h0:Ab)(ids:List Nat)(n:Nat):Prop where
 nodup:ids.Nodup
 fresh : ∀ o ∈ ids,h0 o=none
 len:ids.length=n
abbrev ix (ids:List Nat)(j:Nat):Nat:=ids.getD j 0
section
variable {h0:Ab} {n:Nat}
theorem M8 : ∀ {ids:List Nat} {xs:List (Option AO)} {o:Nat},o ∉ ids→hp h0 ids xs o=h0 o
 | [],_,o,_=>by cases ‹List (Option AO)› <;> rfl
 | a::ids,[],o,_=>rfl
 | a::ids,x::xs,o,h=>by
  simp only [List.mem_cons,not_or] at h
  simp only [hp]
  rw [Af8 _ _ _ h.1]
  exact M8 h.2
theorem Ae8 : ∀ {ids:List Nat} {xs:List (Option AO)} {j:Nat} {x:Option AO},ids.Nodup→ids.length=xs.length→xs[j]? = some x→hp h0 ids xs (ix ids j)=x
 | [],[],j,x,_,_,h=>by simp at h
 | a::ids,y::xs,0,x,_,_,h=>by
  have:y=x:=by simpa using h
  subst this
  simp [hp,ix,Ad2]
 | a::ids,y::xs,j+1,x,hn,hl,h=>by
  have hn':=List.nodup_cons.1 hn
  have hl':ids.length=xs.length:=by simpa using hl
  have h':xs[j]? = some x:=by simpa using h
  have hj:j<ids.length:=by
   rw [hl']
   rcases Nat.lt_or_ge j xs.length with hh | hh
   ·exact hh
   ·rw [List.getElem?_eq_none hh] at h'; cases h'
  have hm:ix ids j ∈ ids:=by
   simp only [ix,List.getD,List.getElem?_eq_getElem hj,Option.getD_some]
   exact List.getElem_mem hj
  have e:ix (a::ids) (j+1)=ix ids j:=by simp [ix]
  rw [e]
  simp only [hp]
  have hne:ix ids j≠a:=fun q=>hn'.1 (by rw [← q]; exact hm)
  rw [Af8 _ _ _ hne]
  exact Ae8 hn'.2 hl' h'
theorem Akq : ∀ {ids:List Nat} {xs:List (Option AO)} {j:Nat} {x:Option AO},ids.Nodup→ids.length=xs.length→j<xs.length→upd (hp h0 ids xs) (ix ids j) x=hp h0 ids (xs.set j x)
 | [],[],j,x,_,_,h=>by simp at h
 | a::ids,y::xs,0,x,_,_,h=>by
  simp only [hp,ix,List.getD_cons_zero,List.set_cons_zero,Atd]
 | a::ids,y::xs,j+1,x,hn,hl,h=>by
  have hn':=List.nodup_cons.1 hn
  have hl':ids.length=xs.length:=by simpa using hl
  have h':j<xs.length:=by simpa using h
  have hm:ix ids j ∈ ids:=by
   simp only [ix,List.getD,List.getElem?_eq_getElem (hl' ▸ h':j<ids.length),Option.getD_some]
   exact List.getElem_mem _
  have e:ix (a::ids) (j+1)=ix ids j:=by simp [ix]
  rw [e]
  simp only [hp,List.set_cons_succ]
  have hne:a≠ix ids j:=fun q=>hn'.1 (by rw [q]; exact hm)
  rw [Aki _ _ _ hne,Akq hn'.2 hl' h']
theorem Ids.at {ids:List Nat}(hI:Ids h0 ids n){xs:List (Option AO)}{j:Nat}{x:Option AO}(hl:xs.length=n)(hx:xs[j]? = some x):hp h0 ids xs (ix ids j)=x:=Ae8 hI.nodup (hI.len.trans hl.symm) hx
theorem Ids.set {ids:List Nat}(hI:Ids h0 ids n){xs:List (Option AO)}{j:Nat}{x:Option AO}(hl:xs.length=n)(hj:Nat.blt j n=true):upd (hp h0 ids xs) (ix ids j) x=hp h0 ids (xs.set j x):=
 Akq hI.nodup (hI.len.trans hl.symm) (by rw [hl]; simpa using hj)
theorem Ids.sub {ids:List Nat}(hI:Ids h0 ids n)(xs:List (Option AO)):G4 h0 (hp h0 ids xs):=by
 intro o x hx
 have:o ∉ ids:=fun hm=>by rw [hI.fresh o hm] at hx; cases hx
 rw [M8 this]; exact hx
theorem Ids.out {ids:List Nat}(hI:Ids h0 ids n){j:Nat}(hj:Nat.blt j n=true):h0 (ix ids j)=none:=by
 have hj':j<ids.length:=by rw [hI.len]; simpa using hj
 refine hI.fresh _ ?_
 simp only [ix,List.getD,List.getElem?_eq_getElem hj',Option.getD_some]
 exact List.getElem_mem _
theorem Rh : ∀ {ids:List Nat} {k:Nat},(∀ o ∈ ids,h0 o=none)→hp h0 ids (List.replicate k none)=h0
 | [],k,_=>by cases k <;> rfl
 | a::ids,0,_=>rfl
 | a::ids,k+1,h=>by
  simp only [List.replicate_succ,hp]
  rw [Rh (fun o ho=>h o (List.mem_cons_of_mem _ ho))]
  funext o
  unfold upd
  split
  ·rename_i hq; subst hq; exact(h _ (List.mem_cons_self ..)).symm
  ·rfl
end
theorem Xv {h0:Ab} : ∀ {a b:List Nat} {xs ys:List (Option AO)},a.length=xs.length→hp h0 (a++b) (xs++ys)=hp (hp h0 b ys) a xs
 | [],b,[],ys,_=>by cases b <;> cases ys <;> rfl
 | o::a,b,x::xs,ys,h=>by
  simp only [List.cons_append,hp]
  rw [Xv (by simpa using h)]
theorem Aqh {h0:Ab} : ∀ {ids:List Nat} {xs ys:List (Option AO)},ids.length=xs.length→ids.length=ys.length→ids.Nodup→(∀ o ∈ ids,h0 o=none)→(∀ j:Nat,ys[j]? = xs[j]? ∨ ys[j]? = some none)→G4 (hp h0 ids ys) (hp h0 ids xs)
 | [],[],[],_,_,_,_,_=>G4.refl _
 | a::ids,x::xs,y::ys,h1,h2,hn,hf,h=>by
  have ih:=Aqh (h0:=h0) (ids:=ids) (xs:=xs) (ys:=ys) (by simpa using h1) (by simpa using h2) (List.nodup_cons.1 hn).2 (fun o ho=>hf o (List.mem_cons_of_mem _ ho)) (fun j=>by simpa using h (j+1))
  intro o z hz
  simp only [hp] at hz ⊢
  unfold upd at hz ⊢
  split
  ·rename_i hq
   rw [if_pos hq] at hz
   rcases h 0 with h' | h' <;> simp at h'
   ·rw [← h']; exact hz
   ·subst h'; cases hz
  ·rename_i hq
   rw [if_neg hq] at hz
   exact ih o z hz
section
variable {P:Program} [GW P] {f:FuncId} {n:Nat} {d:FK} {fr:Nat→AV} {ds:List AD} {h:Ab} {u:AU} {Q:QT} {k:List Item}
theorem Acq {todo:List Item}(c:Nat)(avoid:List Nat)(hr : ∀ os:List Nat,os.length=c→os.Nodup→(∀ o ∈ os,h o=none)→(∀ o ∈ os,o ∉ avoid)→Ex P f n d todo fr ds h u Q):Ex P f n d todo fr ds h u Q:=by
 intro B mu w a cs p
 obtain⟨N,hN⟩:=p.sim.finh
 have key : ∃ M,N≤M ∧ ∀ o ∈ avoid,o<M:=by
  clear hr
  induction avoid with
  | nil=>exact⟨N,Nat.le_refl _,fun o ho=>by cases ho⟩
  | cons a l ih=>
   obtain⟨M,h1,h2⟩:=ih
   exact⟨max M (a+1),by omega,fun o ho=>by
    rcases List.mem_cons.1 ho with rfl | ho
    ·omega
    ·have:=h2 o ho; omega⟩
 obtain⟨M,h1,h2⟩:=key
 exact hr ((List.range c).map (M + ·)) (by simp) (by
  refine List.Pairwise.map _ (fun a b hab=>?_) List.nodup_range
  simpa using hab) (fun o ho=>by
   obtain⟨i,_,rfl⟩:=List.mem_map.1 ho
   exact hN _ (by omega)) (fun o ho hm=>by
   obtain⟨i,_,rfl⟩:=List.mem_map.1 ho
   have:=h2 _ hm
   omega) B mu w a cs p
end
abbrev S2:=List UInt8
def rI (k:IntKind)(n:Int):List AV:=[.int k n]
def rB (b:Bool):List AV:=[.bool b]
def rL {α:Type}(st:Nat)(e:α→List AV)(l:List α):List AV:=[.sl st (l.map e)]
theorem Pu {n:Nat}{r:List AV}(h1:r.length=n)(h2:r.all AV.flat=true):Cm n r:=⟨h1,fun v hv=>List.all_eq_true.1 h2 v hv⟩
theorem Bo {k:IntKind}(n:Int):Cm 1 (rI k n):=Pu rfl rfl
theorem Arw (b:Bool):Cm 1 (rB b):=Pu rfl rfl
theorem Adx {α:Type}{st:Nat}{e:α→List AV}(l:List α):Cm 1 (rL st e l):=Pu rfl rfl
theorem F3 {j n:Nat}(h:j<n)(hn:n≤Bt):AV.int .i64 (IntKind.i64.wrap ((j:Int)+1))=.int .i64 ((j+1:Nat):Int):=by rw [Apt (by omega)]
theorem Cb {n j a:Nat}(h:(List.range n)[j]? = some a):j<n∧a=j:=by
 rcases Nat.lt_or_ge j n with hh | hh
 ·simp [hh] at h; exact⟨hh,h.symm⟩
 ·rw [List.getElem?_eq_none (by simpa using hh)] at h; cases h
end Go.Am
namespace Go.Am
open Go
set_option linter.unusedSimpArgs false
set_option linter.unusedVariables false
set_option linter.unusedSectionVars false
structure Spec (β:Type) where
 V:R β→Prop
 bad:¬ V .bad
 Q:R β→QT
section
variable {β:Type}
def WR (P:Program)[GW P](f:FuncId)(n:Nat)(d:FK)(Q:Spec β)(m:R β)(todo:List Item)(fr:Nat→AV)(ds:List AD)(h:Ab)(u:AU):Prop:=Q.V m→Ex P f n d todo fr ds h u (Q.Q m)
def WU (P:Program)[GW P](f:FuncId)(n:Nat)(d:FK)(Q:Spec β)(m:R β)(a:AU)(fr:Nat→AV)(ds:List AD)(h:Ab)(u:AU):Prop:=Q.V m→Sa P f n d a fr ds h u (Q.Q m)
def WO (P:Program)[GW P](f:FuncId)(n:Nat)(d:FK)(Q:Spec β)(k:List Item)(all:List Oper)(m:R β)(ops:List Oper)(fr:Nat→AV)(ds:List AD)(h:Ab)(u:AU):Prop:=
 Q.V m → ∀ i,(∀ j,all[i+j]? = ops[j]?)→Ex P f n d (.inRegion ⟨all⟩ (List.range' i ops.length)::k) fr ds h u (Q.Q m)
end
section
variable {P:Program} [GW P] {f:FuncId} {n:Nat} {d:FK} {β:Type} {Q:Spec β} {m:R β} {fr:Nat→AV} {ds:List AD} {h:Ab} {u:AU} {k:List Item} {l:List (Nat×AV)}
theorem Akf {todo:List Item}:WR P f n d Q .bad todo fr ds h u:=fun hb=>absurd hb Q.bad
theorem Aj (hr:WR P f n d Q m k fr ds h u):WR P f n d Q m (.code .skip::k) fr ds h u:=fun hb=>Ase (hr hb)
theorem Ac {x y:Code}(hr:WR P f n d Q m (.code x::.code y::k) fr ds h u):WR P f n d Q m (.code (.seq x y)::k) fr ds h u:=fun hb=>Atm (hr hb)
theorem Ao {id:Nat}{c:Code}(hr:WR P f n d Q m (.code c::.inBlock id::k) fr ds h u):WR P f n d Q m (.code (.block id c)::k) fr ds h u:=fun hb=>Aox (hr hb)
theorem Ay {id:Nat}(hr:WR P f n d Q m k fr ds h u):WR P f n d Q m (.inBlock id::k) fr ds h u:=fun hb=>Alj (hr hb)
theorem Bd {id:Nat}{k':List Item}(he:exitTo id k=some k')(hr:WR P f n d Q m k' fr ds h u):WR P f n d Q m (.code (.exit id)::k) fr ds h u:=fun hb=>Ara he (hr hb)
theorem O5 {c:Operand}{x y:Code}(b:Bool)(hc:ev fr c=.bool b)(hr:WR P f n d Q m (.code (match b with | true=>x | false=>y)::k) fr ds h u):WR P f n d Q m (.code (.cond c x y)::k) fr ds h u:=fun hb=>Sk hc (by cases b <;> exact hr hb)
theorem Avs {c:Operand}{x y:Code}{p:Prop}[Decidable p]{A B:R β}(hc:ev fr c=.bool (decide p))(ht:p→WR P f n d Q A (.code x::k) fr ds h u)(hf:¬ p→WR P f n d Q B (.code y::k) fr ds h u):WR P f n d Q (if p then A else B) (.code (.cond c x y)::k) fr ds h u:=by
 intro hb
 refine Sk hc ?_
 by_cases hp:p
 ·simp only [hp,decide_true,if_true] at hb ⊢; exact ht hp hb
 ·simp only [hp,decide_false,Bool.false_eq_true,if_false] at hb ⊢; exact hf hp hb
theorem Atp {c:Operand}{x y:Code}{b:Bool}{A B:R β}(hc:ev fr c=.bool b)(ht:b=true→WR P f n d Q A (.code x::k) fr ds h u)(hf:b=false→WR P f n d Q B (.code y::k) fr ds h u):WR P f n d Q (if b then A else B) (.code (.cond c x y)::k) fr ds h u:=by
 intro hb
 refine Sk hc ?_
 cases hq:b with
 | true=>simp only [hq,if_true] at hb ⊢; exact ht hq hb
 | false=>simp only [hq,Bool.false_eq_true,if_false] at hb ⊢; exact hf hq hb
theorem Se {m':R β}{todo:List Item}(e:m=m')(hr:WR P f n d Q m' todo fr ds h u):WR P f n d Q m todo fr ds h u:=e ▸ hr
theorem Auf {σ ε:Type}{c:Code}(body:σ→R (σ ⊕ ε))(rest:ε→R β)(St:σ→(Nat→AV)→Ab→Prop)(s0:σ)(hs:St s0 fr h)
  (round : ∀ W:σ→R ε,(∀ s fr h,St s fr h→WR P f n d Q ((W s).bind rest) (.inLoop c::k) fr ds h u) → ∀ s fr h,St s fr h →
   WR P f n d Q ((body s).bind fun x=>match x with | .inl s'=>(W s').bind rest | .inr e=>rest e) (.code c::.inLoop c::k) fr ds h u) :
  WR P f n d Q ((loop body s0).bind rest) (.code (.loop c)::k) fr ds h u:=by
 have key : ∀ n' s fr h,St s fr h→WR P f n d Q ((Ge body n' s).bind rest) (.inLoop c::k) fr ds h u:=by
  intro n'
  induction n' with
  | zero=>intro s fr h _ hb; exact absurd hb Q.bad
  | succ n' ih=>
   intro s fr h hs hb
   refine Ve ?_
   have e:(Ge body (n'+1) s).bind rest=(body s).bind fun x=>match x with | .inl s'=>(Ge body n' s').bind rest | .inr e=>rest e:=by
    rw [Ge,R.bind_assoc]
    congr 1
    funext x
    cases x <;> rfl
   have:=round (Ge body n') ih s fr h hs
   rw [← e] at this
   exact this hb
 intro hb
 by_cases hl:loop body s0=.bad
 ·rw [hl] at hb; exact absurd hb Q.bad
 ·obtain⟨n',hn⟩:=Zq hl
  rw [hn] at hb ⊢
  exact Ad0 (key n' s0 fr h hs hb)
theorem At8 {α σ ε:Type}{c:Code}(L:List α)(body:Nat→α→σ→R (σ ⊕ ε))(rest:σ ⊕ ε→R β)(St:Nat→σ→(Nat→AV)→Ab→Prop)(s0:σ)(hs:St 0 s0 fr h)
  (round : ∀ (j:Nat) (a:α),L[j]? = some a → ∀ W:σ→R (σ ⊕ ε),(∀ s fr h,St (j+1) s fr h→WR P f n d Q ((W s).bind rest) (.inLoop c::k) fr ds h u) → ∀ s fr h,St j s fr h →
   WR P f n d Q ((body j a s).bind fun x=>match x with | .inl s'=>(W s').bind rest | .inr e=>rest (.inr e)) (.code c::.inLoop c::k) fr ds h u)
  (fin : ∀ s fr h,St L.length s fr h→WR P f n d Q (rest (.inl s)) (.code c::.inLoop c::k) fr ds h u) :
  WR P f n d Q ((each body 0 L s0).bind rest) (.code (.loop c)::k) fr ds h u:=by
 have key : ∀ (l:List α) (j:Nat),j≤L.length→L.drop j=l → ∀ s fr h,St j s fr h→WR P f n d Q ((each body j l s).bind rest) (.inLoop c::k) fr ds h u:=by
  intro l
  induction l with
  | nil=>
   intro j hj hl s fr h hs hb
   have:j=L.length:=by
    have:=List.drop_eq_nil_iff.1 hl; omega
   subst this
   exact Ve (fin s fr h hs hb)
  | cons a l ih=>
   intro j hj hl s fr h hs hb
   have hlt:j<L.length:=by
    rcases Nat.lt_or_ge j L.length with hh | hh
    ·exact hh
    ·rw [List.drop_eq_nil_of_le hh] at hl; cases hl
   have ha:L[j]? = some a:=by
    have:=List.getElem?_drop (xs:=L) (i:=j) (j:=0)
    rw [hl] at this; simpa using this.symm
   have hl':L.drop (j+1)=l:=by
    have:=congrArg List.tail hl
    simpa using this
   refine Ve ?_
   have e:(each body j (a::l) s).bind rest=(body j a s).bind fun x=>match x with | .inl s'=>(each body (j+1) l s').bind rest | .inr e=>rest (.inr e):=by
    rw [Re,R.bind_assoc]
    congr 1
    funext x
    cases x <;> rfl
   have:=round j a ha (fun s'=>each body (j+1) l s') (ih (j+1) hlt hl') s fr h hs
   rw [← e] at this
   exact this hb
 intro hb
 exact Ad0 (key L 0 (Nat.zero_le _) rfl s0 fr h hs hb)
theorem Ai {id:Nat}{ops:List Oper}(hx:WO P f n d Q k ops m ops fr ds h u):WR P f n d Q m (.code (.region id ⟨ops⟩ false)::k) fr ds h u:=fun hb=>by
 refine Oo (fun _ _ _=>stepR_region) ?_
 have:=hx hb 0 (fun j=>by simp)
 rwa [← List.range_eq_range'] at this
section
variable {all r:List Oper} {ty:TypeId} {pos:String} {after:Array Edge}
theorem O (hr:WR P f n d Q m k fr ds h u):WO P f n d Q k all m [] fr ds h u:=fun hb i hi B mu w a cs p=>.head stepR_region_end (hr hb B mu w a cs p)
theorem Q4 {o:Oper}(hd:Fp n o.dst=true)(hw:D2 all fr o=some true)
  (hx:Q.V m → ∀ (K:AV→List AD→Ab→AU→Prop) (U:AV→KT),(∀ v ds' h' u',WO P f n d Q k all m r (Fu fr o.dst v) ds' h' u'→K v ds' h' u')→(∀ v fr ds h u,Sa P f n d (.pan v false) fr ds h u (Q.Q m)→U v fr ds h u)→Ho P d U fr ds h u o.op K) :
  WO P f n d Q k all m (o::r) fr ds h u:=by
 intro hb i hi
 have ho:(⟨all⟩:Array Oper)[i]? = some o:=by simpa using hi 0
 have hi' : ∀ j,all[i+1+j]? = r[j]? := fun j=>by have:=hi (j+1); rw [show i+(j+1)=i+1+j by omega] at this; simpa using this
 simp only [List.length_cons,List.range'_succ]
 exact Abm ho hd hw (hx hb _ _ (fun v ds' h' u' hk=>hk hb (i+1) hi') (fun _ _ _ _ _ hu=>hu))
theorem Al6 {o:Oper}(hd:Fp n o.dst=true)(hw:D2 all fr o=some false)(hk:WO P f n d Q k all m r (Fu fr o.dst .und) ds h u):WO P f n d Q k all m (o::r) fr ds h u:=by
 intro hb i hi
 have ho:(⟨all⟩:Array Oper)[i]? = some o:=by simpa using hi 0
 have hi' : ∀ j,all[i+1+j]? = r[j]? := fun j=>by have:=hi (j+1); rw [show i+(j+1)=i+1+j by omega] at this; simpa using this
 simp only [List.length_cons,List.range'_succ]
 exact Z7 ho hd hw (hk hb (i+1) hi')
theorem Ahg {t:List AD}{op:Op}{v:AV}{U:AV→KT}{K:AV→List AD→Ab→AU→Prop}(hv:Dy P fr h op=some v)(hK:K v ds h u):Ho P d U fr ds h u op K:=by
 have e:Ho P d U fr ds h u op K=C5 P fr h op (fun v h'=>K v ds h' u):=by
  unfold Ho
  split
  ·simp [Dy] at hv
  ·simp [Dy] at hv
  ·simp [Dy] at hv
  ·simp [Dy] at hv
  ·rfl
 rw [e]
 exact Ah7 hv hK
theorem Aci {j tj:Nat}{want b:Bool}{op:Op}{dst:Option Tmp}(hj:(all[j]?).bind (·.dst)=some tj)(hg:fr tj=.bool b):D2 all fr ⟨dst,op,ty,pos,after,some (j,want)⟩=some (b==want):=by
 unfold D2
 simp only [hj,hg]
theorem Pr {j tj:Nat}{want:Bool}{op:Op}{dst:Option Tmp}(hj:(all[j]?).bind (·.dst)=some tj)(hg:fr tj=.bool want):D2 all fr ⟨dst,op,ty,pos,after,some (j,want)⟩=some true:=by
 rw [Aci hj hg]; simp
theorem Ax {t:Nat}{op:Op}(v:AV)(ht:Nat.blt t n=true)(hv:Dy P (Ag l) h op=some v)(hk:WO P f n d Q k all m r (Ag ((t,v)::l)) ds h u) :
  WO P f n d Q k all m (⟨some t,op,ty,pos,after,none⟩::r) (Ag l) ds h u:=
 Q4 (by simpa [Fp] using ht) rfl fun hb K U hK hU=>Ahg (t:=ds) hv (hK _ _ _ _ (by rw [Ey]; exact hk))
theorem Ch {t j tj:Nat}{want:Bool}{op:Op}(v:AV)(hj:(all[j]?).bind (·.dst)=some tj)(hg:Ag l tj=.bool want)(ht:Nat.blt t n=true)(hv:Dy P (Ag l) h op=some v)(hk:WO P f n d Q k all m r (Ag ((t,v)::l)) ds h u) :
  WO P f n d Q k all m (⟨some t,op,ty,pos,after,some (j,want)⟩::r) (Ag l) ds h u:=
 Q4 (by simpa [Fp] using ht) (by rw [Aci hj hg]; simp) fun hb K U hK hU=>Ahg (t:=ds) hv (hK _ _ _ _ (by rw [Ey]; exact hk))
theorem Avq {α:Type}{L:List α}{i:Int}{rest:α→R β}{ops:List Oper}(hk : ∀ a,0≤i→L[i.toNat]? = some a→WO P f n d Q k all (rest a) ops fr ds h u):WO P f n d Q k all ((idx L i).bind rest) ops fr ds h u:=by
 intro hb
 unfold idx at hb ⊢
 by_cases h0:0≤i
 ·rw [if_pos h0] at hb ⊢
  cases hq:L[i.toNat]? with
  | none=>rw [hq] at hb; exact absurd hb Q.bad
  | some a=>rw [hq] at hb; exact hk a h0 hq hb
 ·rw [if_neg h0] at hb; exact absurd hb Q.bad
theorem Atw {p:Prop}[Decidable p]{rest:R β}{ops:List Oper}(hk:p→WO P f n d Q k all rest ops fr ds h u):WO P f n d Q k all (if p then rest else .bad) ops fr ds h u:=by
 intro hb
 by_cases hp:p
 ·rw [if_pos hp] at hb ⊢; exact hk hp hb
 ·rw [if_neg hp] at hb; exact absurd hb Q.bad
theorem Afe {m':R β}{ops:List Oper}(e:m=m')(hr:WO P f n d Q k all m' ops fr ds h u):WO P f n d Q k all m ops fr ds h u:=e ▸ hr
theorem Ath {b:Bool}{A B:R β}{ops:List Oper}(ht:b=true→WO P f n d Q k all A ops fr ds h u)(hf:b=false→WO P f n d Q k all B ops fr ds h u):WO P f n d Q k all (if b then A else B) ops fr ds h u:=by
 intro hb
 cases hq:b with
 | true=>simp only [hq,if_true] at hb ⊢; exact ht hq hb
 | false=>simp only [hq,Bool.false_eq_true,if_false] at hb ⊢; exact hf hq hb
theorem Aow {l l':List (Nat×AV)}(hx : ∀ p ∈ l',Ag l p.1=p.2)(t:Nat):Ag l' t=.any∨Ag l' t=Ag l t:=by
 induction l' with
 | nil=>exact .inl rfl
 | cons p l' ih=>
  have hp:=hx p (List.mem_cons_self ..)
  simp only [Ag]
  cases hq:Nat.beq t p.1 with
  | true=>
   have:=Nat.eq_of_beq_eq_true hq
   subst this
   exact .inr hp.symm
  | false=>exact ih fun q hq=>hx q (List.mem_cons_of_mem _ hq)
theorem T0 {todo:List Item}{fr':Nat→AV}{Q':QT}(hx : ∀ t,fr' t=.any∨fr' t=fr t)(hr:Ex P f n d todo fr' ds h u Q'):Ex P f n d todo fr ds h u Q':=by
 intro B mu w a cs p
 refine hr B mu w a cs ⟨p.size,fun t=>?_,p.ds,p.sim,p.cs,p.rnd,p.fb⟩
 rcases hx t with e | e
 ·rw [e]; exact .any _
 ·rw [e]; exact p.fr t
theorem Awz {ops:List Oper}(l':List (Nat×AV))(hx : ∀ p ∈ l',Ag l p.1=p.2)(hr:WO P f n d Q k all m ops (Ag l') ds h u):WO P f n d Q k all m ops (Ag l) ds h u:=fun hb i hi=>T0 (Aow hx) (hr hb i hi)
theorem Awp {todo:List Item}(l':List (Nat×AV))(hx : ∀ p ∈ l',Ag l p.1=p.2)(hr:WR P f n d Q m todo (Ag l') ds h u):WR P f n d Q m todo (Ag l) ds h u:=fun hb=>T0 (Aow hx) (hr hb)
inductive FrIs (l:List (Nat×AV)):List (Nat×AV)→Prop
 | nil:FrIs l []
 | cons {t:Nat} {v:AV} {r:List (Nat×AV)} (hx:Ag l t=v) (hr:FrIs l r):FrIs l ((t,v)::r)
theorem FrIs.get {l l':List (Nat×AV)}(h:FrIs l l') : ∀ p ∈ l',Ag l p.1=p.2:=by
 induction h with
 | nil=>intro p hp; cases hp
 | cons hx hr ih=>
  intro p hp
  rcases List.mem_cons.1 hp with rfl | hp
  ·exact hx
  ·exact ih p hp
theorem As1 {todo:List Item}(l':List (Nat×AV))(hx:FrIs l l')(hr:WR P f n d Q m todo (Ag l') ds h u):WR P f n d Q m todo (Ag l) ds h u:=Awp l' hx.get hr
theorem Aoa {ops:List Oper}(l':List (Nat×AV))(hx:FrIs l l')(hr:WO P f n d Q k all m ops (Ag l') ds h u):WO P f n d Q k all m ops (Ag l) ds h u:=Awz l' hx.get hr
inductive FrFz (h h2:Ab)(l:List (Nat×AV)):List (Nat×AV)→Prop
 | nil:FrFz h h2 l []
 | cons {t:Nat} {v:AV} {r:List (Nat×AV)} (hx:Fz h h2 (Ag l t) v) (hr:FrFz h h2 l r):FrFz h h2 l ((t,v)::r)
theorem FrFz.get {h h2:Ab}{l l':List (Nat×AV)}(hf:FrFz h h2 l l')(t:Nat):Fz h h2 (Ag l t) (Ag l' t):=by
 induction hf with
 | nil=>exact .any _
 | @cons s v r hx hr ih=>
  simp only [Ag]
  cases hq:Nat.beq t s with
  | true=>
   have:=Nat.eq_of_beq_eq_true hq
   subst this
   exact hx
  | false=>exact ih
theorem Afr {todo:List Item}{h2:Ab}(l':List (Nat×AV))(hs:G4 h2 h)(hx:FrFz h h2 l l')(hds:ds=ds)(hd:d=d)(hr:WR P f n d Q m todo (Ag l') ds h2 u):WR P f n d Q m todo (Ag l) ds h u:=fun hb=>Wn hs hx.get hds hd (hr hb)
theorem Zb {ops:List Oper}{h2:Ab}(l':List (Nat×AV))(hs:G4 h2 h)(hx:FrFz h h2 l l')(hds:ds=ds)(hd:d=d)(hr:WO P f n d Q k all m ops (Ag l') ds h2 u):WO P f n d Q k all m ops (Ag l) ds h u:=fun hb i hi=>Wn hs hx.get hds hd (hr hb i hi)
inductive Drops:List (Option AO)→List (Option AO)→Prop
 | nil:Drops [] []
 | keep {x:Option AO} {xs ys:List (Option AO)} (h:Drops xs ys):Drops (x::xs) (x::ys)
 | drop {x:Option AO} {xs ys:List (Option AO)} (h:Drops xs ys):Drops (x::xs) (none::ys)
theorem Drops.sub {h0:Ab} : ∀ {ids:List Nat} {xs ys:List (Option AO)},Drops xs ys→ids.length=xs.length→G4 (hp h0 ids ys) (hp h0 ids xs)
 | [],_,_,.nil,_=>G4.refl _
 | a::ids,_,_,.keep hd,hl=>G4.upd (Drops.sub hd (by simpa using hl)) a _
 | a::ids,_,_,@Drops.drop x xs ys hd,hl=>fun o z hz=>by
  simp only [hp,upd] at hz ⊢
  split
  ·rename_i hq; rw [if_pos hq] at hz; cases hz
  ·rename_i hq; rw [if_neg hq] at hz; exact Drops.sub hd (by simpa using hl) o z hz
theorem Atq {todo:List Item}{fr:Nat→AV}{h0:Ab}{ids:List Nat}{N:Nat}{xs:List (Option AO)}(ys:List (Option AO))(hI:Ids h0 ids N)(hl:xs.length=N)(hx:Drops xs ys)(hr:WR P f n d Q m todo fr ds (hp h0 ids ys) u) :
  WR P f n d Q m todo fr ds (hp h0 ids xs) u:=fun hb=>Atu (hx.sub (hI.len.trans hl.symm)) (hr hb)
end
end
end Go.Am
namespace Go.Am
open Go
set_option linter.unusedSimpArgs false
set_option linter.unusedVariables false
set_option linter.unusedSectionVars false
section
variable {P:Program} [GW P] {fr:Nat→AV} {h:Ab} {v:AV}
theorem Ba {x:Operand}:Dy P fr h (.move x)=some (ev fr x):=rfl
theorem S1 {x:Operand}:Dy P fr h (.assign x)=some (ev fr x):=rfl
theorem Aah {t:TypeId}{ps:List (Nat×Operand)}(hv:Tn P t (Q9 fr ps)=some v):Dy P fr h (.build t ⟨ps⟩)=some v:=hv
theorem Bg {t:TypeId}{x:Operand}(hv:Pq P h t (ev fr x)=some v):Dy P fr h (.load t x)=some v:=hv
theorem Bf {o:BinOp}{t ty:TypeId}{x y:Operand}(hg:Pc P o t x y (ev fr x) (ev fr y)=true)(hn:Qn y=false)(hv:Ke P o t (ev fr x) (ev fr y)=some v):Dy P fr h (.binOp o t x y ty)=some v:=by
 simp only [Dy,hg,hn,true_and,if_true]; exact hv
theorem Kt {s t:TypeId}{x:Operand}(hv:V7 P h s t (ev fr x)=some v):Dy P fr h (.convert s t x)=some v:=hv
theorem B2 {t:TypeId}{x:Operand}{lo hi mx:Option Operand}(hv:Et P h t (ev fr x) (lo.map (ev fr)) (hi.map (ev fr)) (mx.map (ev fr))=some v):Dy P fr h (.slice t x lo hi mx)=some v:=hv
theorem Hs {s:TypeId}{x:Operand}{i:Nat}(hv:Ld P s (ev fr x) i=some v):Dy P fr h (.fieldAddr s x i)=some v:=hv
theorem As {t:TypeId}{x i:Operand}(hv:Dl P h t (ev fr x) (ev fr i)=some v):Dy P fr h (.indexAddr t x i)=some v:=hv
theorem Ain {t:TypeId}{x i:Operand}(hv:Td P t (ev fr x) (ev fr i)=some v):Dy P fr h (.index t x i)=some v:=hv
theorem Qk {t:TypeId}{x i:Operand}{ok:Bool}(hv:O6 P h t (ev fr x) (ev fr i) ok=some v):Dy P fr h (.lookup t x i ok)=some v:=hv
theorem Ca {t:TypeId}{x:Operand}(hv:Sl P h t (ev fr x)=some v):Dy P fr h (.call ⟨.builtin .len,⟨[x]⟩,⟨[t]⟩⟩)=some v:=hv
theorem Au5 {ts:Array TypeId}{l:List Operand}(hv:Acf false (E4 fr l)=some v):Dy P fr h (.call ⟨.builtin .min,⟨l⟩,ts⟩)=some v:=by
 simp only [Dy]
 exact hv
theorem Av5 {ts:Array TypeId}{l:List Operand}(hv:Acf true (E4 fr l)=some v):Dy P fr h (.call ⟨.builtin .max,⟨l⟩,ts⟩)=some v:=by
 simp only [Dy]
 exact hv
theorem U4 {t:TypeId}{T:TI}{row:List AV}{c:Nat}(hT:ti P t=some T)(hv:Hh row c T.size T.k.agg=some v):Pq P h t (.cp row c)=some v:=by simp only [Pq,hT,hv]
section
variable {h0:Ab} {ids:List Nat} {xs:List (Option AO)} {n j:Nat}
theorem A6 {t:TypeId}{T:TI}{g st r c:Nat}{rs:List (List AV)}{row:List AV}(hI:Ids h0 ids n)(hl:xs.length=n)(hj:xs[j]? = some (some (.rows g st rs)))(hr:rs[r]? = some row)(hT:ti P t=some T)(hv:Hh row c T.size T.k.agg=some v) :
  Pq P (hp h0 ids xs) t (.ptr (ix ids j) g r c)=some v:=by
 have hlt:r<rs.length:=by
  rcases Nat.lt_or_ge r rs.length with hh | hh
  ·exact hh
  ·rw [List.getElem?_eq_none hh] at hr; cases hr
 have e:rs.getD r []=row:=Dh hr
 simp only [Pq,hT,hI.at hl hj,hlt,e,and_self,if_true,hv]
end
section
variable {s ft:TypeId} {fs:List (Nat×TypeId)} {a b i off:Nat} {z:List AV} {F:TI}
theorem Avj {o g r c:Nat}(hT:ti P s=some ⟨.st fs,a,b,z⟩)(hf:fs[i]? = some (off,ft))(hF:ti P ft=some F)(h0:Nat.beq F.size 0=false):Ld P s (.ptr o g r c) i=some (.ptr o g r (c+off)):=by
 have:F.size≠0:=fun q=>by rw [q] at h0; cases h0
 simp only [Ld,hT,hf,hF,if_neg this]
theorem Afu {row:List AV}{c:Nat}(hT:ti P s=some ⟨.st fs,a,b,z⟩)(hf:fs[i]? = some (off,ft))(hF:ti P ft=some F)(h0:Nat.beq F.size 0=false):Ld P s (.cp row c) i=some (.cp row (c+off)):=by
 have:F.size≠0:=fun q=>by rw [q] at h0; cases h0
 simp only [Ld,hT,hf,hF,if_neg this]
end
section
variable {α:Type} {e:α→List AV} {L:List α} {st:Nat} {t et:TypeId} {a b:Nat} {z:List AV} {E:TI} {k:IntKind} {x:α}
theorem Ar3 {j:Nat}(hx:L[j]? = some x):(L.map e).getD j []=e x:=by simp [List.getD,hx]
theorem Au {j:Nat}(hx:L[j]? = some x):j<L.length:=by
 rcases Nat.lt_or_ge j L.length with hh | hh
 ·exact hh
 ·rw [List.getElem?_eq_none hh] at hx; cases hx
theorem B7 {i:Int}(hT:ti P t=some ⟨.sl et,a,b,z⟩)(hE:ti P et=some E)(hs:st=E.size)(h0:0≤i)(hx:L[i.toNat]? = some x):Dl P h t (.sl st (L.map e)) (.int k i)=some (.cp (e x) 0):=by
 have hlt:=Au hx
 have h1:i<((L.map e).length:Int):=by rw [List.length_map]; omega
 simp only [Dl,hT,hE]
 rw [if_pos ⟨hs,h0,h1⟩,Ar3 hx]
theorem Cl {i:Nat}(hT:ti P t=some ⟨.sl et,a,b,z⟩)(hE:ti P et=some E)(hs:st=E.size)(hx:L[i]? = some x):Dl P h t (.sl st (L.map e)) (.int k (i:Int))=some (.cp (e x) 0):=
 B7 hT hE hs (by omega) (by simpa using hx)
theorem Cw (hT:ti P t=some ⟨.sl et,a,b,z⟩):Sl P h t (.sl st (L.map e))=some (.int .i64 (L.length:Int)):=by simp only [Sl,hT,List.length_map]
end
theorem Agg {t:TypeId}{a b:Nat}{z:List AV}{s:List UInt8}(hT:ti P t=some ⟨.str,a,b,z⟩):Sl P h t (.str s)=some (.int .i64 (s.length:Int)):=by simp only [Sl,hT]
theorem Ac6 {t et:TypeId}{a b:Nat}{z:List AV}(hT:ti P t=some ⟨.sl et,a,b,z⟩):Sl P h t .emp=some (.int .i64 0):=by simp only [Sl,hT]
theorem Aqk {t:TypeId}{a b:Nat}{z:List AV}{s:List UInt8}{k:IntKind}{i:Int}{c:UInt8}(hT:ti P t=some ⟨.str,a,b,z⟩)(h0:0≤i)(hx:s[i.toNat]? = some c):Td P t (.str s) (.int k i)=some (.int .u8 (c.toNat:Int)):=by
 have hlt:=Au hx
 have e:s.getD i.toNat 0=c:=Dh hx
 simp only [Td,hT]
 rw [if_pos ⟨h0,by omega⟩,e]
theorem Ms {s t:TypeId}{k1 k2 k:IntKind}{a b c d:Nat}{z1 z2:List AV}{i:Int}(hS:ti P s=some ⟨.int k1,a,b,z1⟩)(hT:ti P t=some ⟨.int k2,c,d,z2⟩):V7 P h s t (.int k i)=some (.int k2 (k2.wrap i)):=by simp only [V7,hS,hT]
theorem Aww {t:TypeId}{fs:List (Nat×TypeId)}{a b:Nat}{z cs:List AV}{ps:List (Nat×AV)}{pl:List (Nat×Nat)}(hT:ti P t=some ⟨.st fs,a,b,z⟩)(hp:Uj P fs=some pl)(hv:U1 (fun i=>pl[i]?) z ps=some cs):Tn P t ps=some (.agg cs):=by
 simp only [Tn,hT,hp,hv,Option.map_some]
theorem Ai8 {t et:TypeId}{m a b:Nat}{z cs:List AV}{ps:List (Nat×AV)}{E:TI}(hT:ti P t=some ⟨.arr m et,a,b,z⟩)(hE:ti P et=some E)(hv:U1 (fun i=>some (i * E.size,E.size)) z ps=some cs):Tn P t ps=some (.agg cs):=by
 simp only [Tn,hT,hE,hv,Option.map_some]
end
section
variable {K V:Type}
def Bv [DecidableEq K](m:List (K×V))(k:K):Option V:=(m.find? fun p=>p.1==k).map (·.2)
def H3 [DecidableEq K]:List (K×V)→K→V→List (K×V)
 | [],k,v=>[(k,v)]
 | p::m,k,v=>if p.1==k then(k,v)::m else p::H3 m k v
end
def Ux:List AV→List AV→List AV
 | row,[]=>row
 | [],_=>[]
 | _::row,c::cs=>c::Ux row cs
def R3:List AV→Nat→List AV→List AV
 | row,0,cs=>Ux row cs
 | [],_+1,_=>[]
 | a::row,c+1,cs=>a::R3 row c cs
theorem Ake : ∀ (row cs:List AV),cs.length≤row.length→Ux row cs=cs++row.drop cs.length
 | row,[],_=>by cases row <;> simp [Ux]
 | [],c::cs,h=>by simp at h
 | a::row,c::cs,h=>by simp [Ux,Ake row cs (by simpa using h)]
theorem Agn : ∀ (row:List AV) (c:Nat) (cs:List AV),c+cs.length≤row.length→R3 row c cs=putCells row c cs
 | row,0,cs,h=>by
  have:=Ake row cs (by simpa using h)
  cases row <;> simp [R3,putCells,this]
 | [],c+1,cs,h=>by simp at h
 | a::row,c+1,cs,h=>by
  have:=Agn row c cs (by simp only [List.length_cons] at h; omega)
  simp only [R3,this,putCells,List.take_succ_cons,List.cons_append]
  rw [show c+1+cs.length=(c+cs.length)+1 by omega,List.drop_succ_cons]
section
variable {P:Program} [GW P] {f:FuncId} {n:Nat} {d:FK} {β:Type} {Q:Spec β} {m:R β} {ds:List AD} {u:AU} {k:List Item} {l:List (Nat×AV)}
variable {all r:List Oper} {ty:TypeId} {pos:String} {after:Array Edge}
variable {h0:Ab} {ids:List Nat} {xs:List (Option AO)} {N:Nat}
theorem K6 {t:Nat}{op:Op}{h:Ab}(ht:Nat.blt t n=true)(ho : ∀ (K:AV→List AD→Ab→AU→Prop) (U:AV→KT),Ho P d U (Ag l) ds h u op K=C5 P (Ag l) h op (fun v h'=>K v ds h' u))
  (hx : ∀ K:AV→Ab→Prop,(∀ v h',WO P f n d Q k all m r (Ag ((t,v)::l)) ds h' u→K v h')→C5 P (Ag l) h op K) :
  WO P f n d Q k all m (⟨some t,op,ty,pos,after,none⟩::r) (Ag l) ds h u:=by
 refine Q4 (by simpa [Fp] using ht) rfl fun hb K U hK hU=>?_
 rw [ho]
 exact hx _ fun v h' hw=>hK _ _ _ _ (by rw [Ey]; exact hw)
theorem Aq5 {op:Op}{h:Ab}(ho : ∀ (K:AV→List AD→Ab→AU→Prop) (U:AV→KT),Ho P d U (Ag l) ds h u op K=C5 P (Ag l) h op (fun v h'=>K v ds h' u))
  (hx : ∀ K:AV→Ab→Prop,(∀ v h',WO P f n d Q k all m r (Ag l) ds h' u→K v h')→C5 P (Ag l) h op K) :
  WO P f n d Q k all m (⟨none,op,ty,pos,after,none⟩::r) (Ag l) ds h u:=by
 refine Q4 rfl rfl fun hb K U hK hU=>?_
 rw [ho]
 exact hx _ fun v h' hw=>hK _ _ _ _ hw
theorem Fe {t:TypeId}{a x:Operand}{h h':Ab}{fr:Nat→AV}{K:AV→Ab→Prop}(hs:O7 P h t (ev fr a) (ev fr x)=some h')(hK:K .und h'):C5 P fr h (.store t a x) K:=by simp only [C5]; exact⟨_,.cell (.same _),by rw [hs]; exact hK⟩
theorem B8 {t:TypeId}{a x:Operand}{h h':Ab}(hs:O7 P h t (ev (Ag l) a) (ev (Ag l) x)=some h')(hk:WO P f n d Q k all m r (Ag l) ds h' u) :
  WO P f n d Q k all m (⟨none,.store t a x,ty,pos,after,none⟩::r) (Ag l) ds h u:=
 Aq5 (fun _ _=>rfl) fun K hK=>Fe hs (hK _ _ hk)
theorem J7 {t:TypeId}{T:TI}{g st rr c j:Nat}{rs:List (List AV)}{row:List AV}{v:AV}(hI:Ids h0 ids N)(hl:xs.length=N)(hjn:Nat.blt j N=true)(hj:xs[j]? = some (some (.rows g st rs)))(hr:rs[rr]? = some row)(hT:ti P t=some T)
  (hok:v.ok=true) (hlen:v.cells.length=T.size) (hc:Nat.ble (c+T.size) st=true) (hrl:row.length=st) (hfl:v.cells.all AV.flat=true) :
  O7 P (hp h0 ids xs) t (.ptr (ix ids j) g rr c) v=some (hp h0 ids (xs.set j (some (.rows g st (rs.set rr (R3 row c v.cells)))))):=by
 have hlt:rr<rs.length:=Au hr
 have e:rs.getD rr []=row:=Dh hr
 have hc':c+T.size≤st:=by simpa using hc
 rw [Agn _ _ _ (by rw [hlen,hrl]; exact hc')]
 simp only [O7,hT,hI.at hl hj,hlt,hok,hlen,hc',hfl,and_self,if_true,e,hI.set hl hjn]
theorem Vo {e:TypeId}{T:TI}{j:Nat}{fr:Nat→AV}{K:AV→Ab→Prop}(hI:Ids h0 ids N)(hl:xs.length=N)(hjn:Nat.blt j N=true)(hj:xs[j]? = some none)(hT:ti P e=some T)(hfl:T.z.all AV.flat=true)
  (hk : ∀ g,K (.ptr (ix ids j) g 0 0) (hp h0 ids (xs.set j (some (.rows g T.z.length [T.z]))))):C5 P fr (hp h0 ids xs) (.alloc e) K:=by
 simp only [C5,hT]
 refine⟨hfl,.inl (Jh (ix ids j) (hI.at hl hj) fun g=>?_)⟩
 rw [hI.set hl hjn]
 exact hk g
theorem Ann {e:TypeId}{T:TI}{j:Nat}{fr:Nat→AV}{K:AV→Ab→Prop}(hI:Ids h0 ids N)(hl:xs.length=N)(hjn:Nat.blt j N=true)(hj:xs[j]? = some none)(hT:ti P e=some T)(hfl:T.z.all AV.flat=true)
  (hk : ∀ g,K (.ptr (ix ids j) g 0 0) (hp h0 ids (xs.set j (some (.rows g (T.z.map AV.nilx).length [T.z.map AV.nilx]))))):C5 P fr (hp h0 ids xs) (.alloc e) K:=by
 simp only [C5,hT]
 refine⟨hfl,.inr (Jh (ix ids j) (hI.at hl hj) fun g=>?_)⟩
 rw [hI.set hl hjn]
 exact hk g
theorem Atr {e:TypeId}{x:Operand}{v:AV}{j:Nat}{fr:Nat→AV}{K:AV→Ab→Prop}(hI:Ids h0 ids N)(hl:xs.length=N)(hjn:Nat.blt j N=true)(hj:xs[j]? = some none)(hx:ev fr x=v)(hok:v.ok=true)(hfl:v.cells.all AV.flat=true)
  (hk : ∀ g,K (.ptr (ix ids j) g 0 0) (hp h0 ids (xs.set j (some (.rows g v.cells.length [v.cells]))))):C5 P fr (hp h0 ids xs) (.box e x) K:=by
 simp only [C5,hx]
 refine⟨hok,hfl,Jh (ix ids j) (hI.at hl hj) fun g=>?_⟩
 rw [hI.set hl hjn]
 exact hk g
theorem Ajp {t:Nat}{e:TypeId}{T:TI}{j:Nat}(hI:Ids h0 ids N)(hl:xs.length=N)(hjn:Nat.blt j N=true)(hj:xs[j]? = some none)(ht:Nat.blt t n=true)(hT:ti P e=some T)(hfl:T.z.all AV.flat=true)
  (hk : ∀ g,WO P f n d Q k all m r (Ag ((t,.ptr (ix ids j) g 0 0)::l)) ds (hp h0 ids (xs.set j (some (.rows g T.z.length [T.z])))) u) :
  WO P f n d Q k all m (⟨some t,.alloc e,ty,pos,after,none⟩::r) (Ag l) ds (hp h0 ids xs) u:=
 K6 ht (fun _ _=>rfl) fun K hK=>by
  simp only [C5,hT]
  refine⟨hfl,.inl (Jh (ix ids j) (hI.at hl hj) fun g=>?_)⟩
  rw [hI.set hl hjn]
  exact hK _ _ (hk g)
theorem Avm {t:Nat}{e:TypeId}{x:Operand}{v:AV}{j:Nat}(hI:Ids h0 ids N)(hl:xs.length=N)(hjn:Nat.blt j N=true)(hj:xs[j]? = some none)(ht:Nat.blt t n=true)(hx:ev (Ag l) x=v)(hok:v.ok=true)(hfl:v.cells.all AV.flat=true)
  (hk : ∀ g,WO P f n d Q k all m r (Ag ((t,.ptr (ix ids j) g 0 0)::l)) ds (hp h0 ids (xs.set j (some (.rows g v.cells.length [v.cells])))) u) :
  WO P f n d Q k all m (⟨some t,.box e x,ty,pos,after,none⟩::r) (Ag l) ds (hp h0 ids xs) u:=
 K6 ht (fun _ _=>rfl) fun K hK=>by
  simp only [C5,hx]
  refine⟨hok,hfl,Jh (ix ids j) (hI.at hl hj) fun g=>?_⟩
  rw [hI.set hl hjn]
  exact hK _ _ (hk g)
def Bp (v:AV)(o g n:Nat):Prop:=(v=.emp∧n=0)∨v=.ref o g 0 n
def Bb (v:AV)(g st:Nat)(rows:List (List AV)):Option AO:=match v with
 | .emp=>none
 | _=>some (.rows g st rows)
theorem Bp.nil {o g:Nat}:Bp .emp o g 0:=.inl ⟨rfl,rfl⟩
section
variable {α:Type} {e:α→List AV} {L:List α} {v:AV} {g st j:Nat}
theorem Bp.isRef {o n:Nat}(hv:Bp v o g n)(hn:0<n):v=.ref o g 0 n:=by
 rcases hv with⟨_,h⟩ | h
 ·omega
 ·exact h
theorem Bp.len {t et:TypeId}{a b o n:Nat}{z:List AV}{h:Ab}(hv:Bp v o g n)(hT:ti P t=some ⟨.sl et,a,b,z⟩):Sl P h t v=some (.int .i64 (n:Int)):=by
 rcases hv with⟨rfl,rfl⟩ | rfl <;> simp only [Sl,hT]
 rfl
theorem Ns {t et:TypeId}{a b:Nat}{z:List AV}{E:TI}{ki:IntKind}{i:Int}{x:α}(hI:Ids h0 ids N)(hl:xs.length=N)(hv:Bp v (ix ids j) g L.length)(hj:xs[j]? = some (Bb v g st (L.map e)))
  (hT:ti P t=some ⟨.sl et,a,b,z⟩) (hE:ti P et=some E) (hs:st=E.size) (hi:0≤i) (hx:L[i.toNat]? = some x):Dl P (hp h0 ids xs) t v (.int ki i)=some (.ptr (ix ids j) g i.toNat 0):=by
 have hlt:=Au hx
 have:=hv.isRef (by omega)
 subst this
 have h1:i<(L.length:Int):=by omega
 have ha:=hI.at hl hj
 simp only [Bb] at ha
 simp only [Dl,hT,hE,ha]
 rw [if_pos ⟨trivial,hs,hi,h1⟩,Nat.zero_add]
theorem Zd {t:TypeId}{T:TI}{i c o:Nat}{x:α}{w:AV}(hI:Ids h0 ids N)(hl:xs.length=N)(hv:Bp v o g L.length)(hj:xs[j]? = some (Bb v g st (L.map e)))(hx:L[i]? = some x)
  (hT:ti P t=some T) (hw:Hh (e x) c T.size T.k.agg=some w):Pq P (hp h0 ids xs) t (.ptr (ix ids j) g i c)=some w:=by
 have hlt:=Au hx
 have:=hv.isRef (by omega)
 subst this
 simp only [Bb] at hj
 exact A6 hI hl hj (by simp [hx]) hT hw
theorem Y9 {t:TypeId}{T:TI}{i c o:Nat}{x y:α}{w:AV}(hI:Ids h0 ids N)(hl:xs.length=N)(hjn:Nat.blt j N=true)(hv:Bp v o g L.length)(hj:xs[j]? = some (Bb v g st (L.map e)))(hx:L[i]? = some x)
  (hT:ti P t=some T) (hok:w.ok=true) (hlen:w.cells.length=T.size) (hc:Nat.ble (c+T.size) st=true) (hrl:(e x).length=st) (hfl:w.cells.all AV.flat=true) (hy:R3 (e x) c w.cells=e y) :
  O7 P (hp h0 ids xs) t (.ptr (ix ids j) g i c) w=some (hp h0 ids (xs.set j (Bb v g st ((L.set i y).map e)))):=by
 have hlt:=Au hx
 have:=hv.isRef (by omega)
 subst this
 simp only [Bb] at hj ⊢
 rw [J7 hI hl hjn hj (by simp [hx]:(L.map e)[i]? = some (e x)) hT hok hlen hc hrl hfl,hy,List.map_set]
theorem Bp.set {o i:Nat}{y:α}(hv:Bp v o g L.length):Bp v o g (L.set i y).length:=by rw [List.length_set]; exact hv
theorem E5 {h h2:Ab}{o:Nat}(hv:Bp v o g L.length)(ho:h o=Bb v g st (L.map e))(h2o:h2 o=none)(hr : ∀ x,Cm st (e x)):Fz h h2 v (.sl st (L.map e)):=by
 rcases hv with⟨rfl,hn⟩ | rfl
 ·have:L=[]:=List.length_eq_zero_iff.1 hn
  subst this
  exact .emp st
 ·simp only [Bb] at ho
  refine .ref o g 0 L.length st (L.map e) (L.map e) ho h2o (by simp) (by simp) (by
   intro x hx
   obtain⟨y,_,rfl⟩:=List.mem_map.1 hx
   exact hr y) (fun i jj _ _=>by rw [Nat.zero_add]; exact .same _)
end
end
end Go.Am
namespace Go.Am
open Go
set_option linter.unusedSimpArgs false
set_option linter.unusedVariables false
set_option linter.unusedSectionVars false
def Yi {α:Type}(e:α→AV)(h:Ab)(m:R α):AR→Ab→Prop:=fun r h'=>h'=h∧match m with
 | .ok a=>r=.ret (e a)
 | .pan v=>r=.panic v.av
 | .bad=>False
def Yc {α:Type}(e:α→AV)(h:Ab):Spec α:=⟨fun m=>m≠.bad,fun h=>h rfl,fun m r h' _=>Yi e h m r h'⟩
def CP {α:Type}(P:Program)[GW P](g:FuncId)(args:List AV)(m:R α)(e:α→AV):Prop := ∀ h,m≠.bad→Bm P g args h (Yi e h m)
def Yn:Nat→List AV→List (Nat×AV)
 | _,[]=>[]
 | i,a::l=>(i,a)::Yn (i+1) l
theorem Ui : ∀ (args:List AV) (i t:Nat),Ag (Yn i args) t=.any∨(i≤t∧Ag (Yn i args) t=args.getD (t - i) .und)
 | [],i,t=>.inl rfl
 | a::l,i,t=>by
  simp only [Yn,Ag]
  cases hq:Nat.beq t i with
  | true=>
   have:=Nat.eq_of_beq_eq_true hq
   subst this
   exact .inr ⟨Nat.le_refl _,by simp⟩
  | false=>
   have hne:t≠i:=fun q=>by subst q; simp at hq
   rcases Ui l (i+1) t with h | ⟨h1,h2⟩
   ·exact .inl h
   ·refine .inr ⟨by omega,?_⟩
    simp only [cond_false]
    rw [h2]
    have:t - i=(t - (i+1))+1:=by omega
    rw [this,List.getD_cons_succ]
section
variable {P:Program} [GW P] {f:FuncId} {n:Nat} {α:Type} {m:R α} {e:α→AV}
theorem Art {fn : Func} {c : Code} {args : List AV} (N : Nat) (hf : P.funcs[f]? = some fn) (hb : fn.body = some c) (hn : fn.name ≠ "runtime.NumGoroutine") (hnt : fn.ntmps = n) (hl : Nat.ble args.length n = true)
  (hr : ∀ (h0 : Ab) (ids : List Nat), Ids h0 ids N → WR P f n false (Yc e h0) m [.code c] (Ag (Yn 0 args)) [] (hp h0 ids (List.replicate N none)) .ret) : CP P f args m e := by
 intro h hb'
 refine R7 hf hb hn hnt (by simpa using hl) ?_
 refine Acq N [] fun os h1 h2 h3 h4 => ?_
 have := hr h os ⟨h2, h3, h1⟩ hb'
 rw [Rh h3] at this
 refine T0 (fun t => ?_) this
 rcases Ui args 0 t with h | ⟨_, h⟩
 ·exact .inl h
 ·exact .inr h
section
variable {h0:Ab} {ids:List Nat} {xs:List (Option AO)} {N:Nat} {l:List (Nat×AV)} {k:List Item} {u:AU}
theorem Bu {fn:Func}{a:α}{vs:List AV}(hf:P.funcs[f]? = some fn)(hI:Ids h0 ids N)(hr:J3 P (hp h0 ids xs) (Ag l) fn.results.toList=some vs)(hz:Fz (hp h0 ids xs) h0 (Ku vs) (e a)) :
  WR P f n false (Yc e h0) (.ok a) (.code .ret::k) (Ag l) [] (hp h0 ids xs) u:=fun _=>
 Ys (Ad5 hf hr (hI.sub xs) hz rfl ⟨rfl,rfl⟩)
theorem Dt {fn:Func}{v:PV}{fr:Nat→AV}(hf:P.funcs[f]? = some fn)(hI:Ids h0 ids N):WU P f n false (Yc e h0) (.pan v) (.pan v.av false) fr [] (hp h0 ids xs) u:=fun _=>
 Aev hf (hI.sub xs) (.same _) ⟨rfl,rfl⟩
end
end
def hE:Ab:=fun _=>none
theorem Wz (h:Ab):G4 hE h:=fun o x hx=>by cases hx
inductive Free:AV→Prop
 | bool (b:Bool):Free (.bool b)
 | int (k:IntKind) (n:Int):Free (.int k n)
 | str (s:List UInt8):Free (.str s)
 | tup (vs:List AV) (h : ∀ i,i<vs.length→Free (vs.getD i .und)):Free (.tup vs)
 | agg (vs:List AV) (h : ∀ i,i<vs.length→Free (vs.getD i .und)):Free (.agg vs)
theorem Free.rv {w:World}{mu mu':Mu}{M M':Nat→Prop}{v:AV}(hv:Free v) : ∀ {c:Value},Rv w mu M v c→Rv w mu' M' v c:=by
 induction hv with
 | bool b=>intro c h; cases h; exact .bool b
 | int k n=>intro c h; cases h; exact .int k n
 | str s=>intro c h; cases h; exact .str s
 | tup vs h ih=>intro c hc; cases hc with | tup _ cs hl hp=>exact .tup vs cs hl fun i hi=>ih i hi (hp i hi)
 | agg vs h ih=>intro c hc; cases hc with | agg _ cs hl hp=>exact .agg vs cs hl fun i hi=>ih i hi (hp i hi)
theorem Free.tup2 {a b:AV}(ha:Free a)(hb:Free b):Free (.tup [a,b]):=.tup _ fun i hi=>by
 match i,hi with
 | 0,_=>exact ha
 | 1,_=>exact hb
theorem Sc.free (x:Sc):Free x.av:=by
 cases x with
 | int k n=>exact .int k n
 | str s=>exact .str s
 | bool b=>exact .bool b
 | unit=>exact .agg [] fun i hi=>by simp at hi
 | two k1 k2 a b=>
  refine .agg _ fun i hi=>?_
  match i,hi with
  | 0,_=>exact .int k1 a
  | 1,_=>exact .int k2 b
 | one k a=>
  refine .agg _ fun i hi=>?_
  match i,hi with
  | 0,_=>exact .int k a
theorem Sim.back {P:Program}[GW P]{B:Base P}{mu mu':Mu}{h:Ab}{w w':World}(s:Sim B mu h w)(s':Sim B mu' hE w')(e:Da hE mu w hE mu' w'):Sim B mu' h w'∧Da h mu w h mu' w':=by
 have hn : ∀ m b,¬ Ci hE m b:=by rintro m b ⟨o,x,l,hx,_⟩; cases hx
 have hold : ∀ b,b<w.heap.size→w'.heap[b]? = w.heap[b]? := fun b hb=>(e.same b hb (hn _ _)).1
 have live : ∀ {o x},h o=some x → ∃ l,mu o x.gen=some l:=by
  intro o x hx
  cases x with
  | rows g st rs=>obtain⟨l,h1,_⟩:=s.rows _ _ _ _ hx; exact⟨l,h1⟩
  | mp g es=>obtain⟨l,h1,_⟩:=s.maps _ _ _ hx; exact⟨l,h1⟩
  | blk g x=>obtain⟨l,h1,_⟩:=s.blks _ _ _ hx; exact⟨l,h1⟩
 have hmut : ∀ b,Ci h mu' b→Ci h mu b:=by
  rintro b ⟨o,x,l,hx,hl,rfl⟩
  obtain⟨l',hl'⟩:=live hx
  have:=e.mu _ _ _ hl'
  rw [hl] at this; cases this
  exact⟨o,x,l,hx,hl',rfl⟩
 have ext:Da h mu w h mu' w':=⟨e.os,e.tape,e.output,e.size,fun b hb hm=>⟨hold b hb,fun hm'=>hm (hmut b hm')⟩,e.mu⟩
 refine⟨⟨s'.base,s'.muOk,s'.fin,s.finh,?_,?_,?_,s.globE ext,fun o g x hx=>let ⟨l,h1,h2,h3⟩:=s.blks _ _ _ hx; ⟨l,e.mu _ _ _ h1,h2,by rw [hold _ (s.muOk _ _ _ h1).2.1]; exact h3⟩⟩,ext⟩
 ·intro o g st rs hx
  obtain⟨l,h1,h2,h3,h4,h5,h6⟩:=s.rows _ _ _ _ hx
  refine⟨l,e.mu _ _ _ h1,h2,h3,h4,h5,fun i j hi hj=>?_⟩
  obtain⟨c,hc1,hc2⟩:=h6 i j hi hj
  refine⟨c,?_,hc2.ext ext⟩
  rw [cell?_of_heap (w:=w) (w':=w') (a:=⟨l.b,l.base+i * st+j,none⟩) (hold _ (s.muOk _ _ _ h1).2.1)]; exact hc1
 ·intro o g es hx
  obtain⟨l,h1,h2,ens,clock,h3,h4,h5⟩:=s.maps _ _ _ hx
  exact⟨l,e.mu _ _ _ h1,h2,ens,clock,by rw [hold _ (s.muOk _ _ _ h1).2.1]; exact h3,h4,fun i hi=>⟨(h5 i hi).1.ext ext,(h5 i hi).2.ext ext⟩⟩
 ·intro o o' x x' l l' hx hx' hl hl' hb
  obtain⟨m,hm⟩:=live hx
  obtain⟨m',hm'⟩:=live hx'
  have e1:=e.mu _ _ _ hm
  have e2:=e.mu _ _ _ hm'
  rw [hl] at e1; cases e1
  rw [hl'] at e2; cases e2
  exact s.inj _ _ _ _ _ _ hx hx' hm hm' hb
def LFz (h:Ab):List AV→List AV→Prop
 | [],[]=>True
 | a::l,a'::l'=>Fz h hE a a'∧LFz h l l'
 | _,_=>False
theorem LFz.len {h:Ab} : ∀ {l l':List AV},LFz h l l'→l.length=l'.length ∧ ∀ i,i<l.length→Fz h hE (l.getD i .und) (l'.getD i .und)
 | [],[],_=>⟨rfl,fun i hi=>by simp at hi⟩
 | a::l,a'::l',hx=>by
  obtain⟨h1,h2⟩:=LFz.len hx.2
  refine⟨by simp [h1],fun i hi=>?_⟩
  cases i with
  | zero=>exact hx.1
  | succ i=>simpa using h2 i (by simpa using hi)
theorem CP.lend {α:Type}{P:Program}[GW P]{g:FuncId}{args args':List AV}{m:R α}{e:α→AV}{h:Ab}(hc:CP P g args' m e)(hz:LFz h args args')(hfree : ∀ a,m=.ok a→Free (e a))(hb:m≠.bad) :
  Bm P g args h (Yi e h m):=by
 obtain⟨hbody,hcall⟩:=hc hE hb
 refine⟨hbody,fun B mu w cargs s ha=>?_⟩
 obtain⟨hlen,hfz⟩:=hz.len
 have ha':Ou hE mu w args' cargs.toList:=⟨hlen ▸ ha.1,fun i hi=>J2 s (Wz h) (hfz i (hlen ▸ hi)) (ha.2 i (hlen ▸ hi))⟩
 refine(hcall B mu w cargs (s.sub (Wz h)) ha').mono ?_
 rintro en w' ⟨r,h',mu',⟨rfl,hr⟩,hs',hext,hE'⟩
 obtain⟨k1,k2⟩:=s.back hs' hext
 refine⟨r,h,mu',⟨rfl,hr⟩,k1,k2,?_⟩
 cases hm:m with
 | bad=>exact absurd hm hb
 | ok a=>
  rw [hm] at hr
  subst hr
  cases en with
  | returned c=>exact(hfree a hm).rv hE'
  | panicked _=>exact hE'.elim
  | outgrown=>exact hE'.elim
 | pan v=>
  rw [hm] at hr
  subst hr
  obtain⟨x,rfl,x1,x2,x3⟩:=hE'.panic_inv
  refine⟨x1,x2,?_⟩
  obtain⟨xv,xr,xg⟩:=x
  simp only [PV.av] at x3
  cases x3 with
  | iface _ _ c hc=>exact .iface _ _ c (v.x.free.rv hc)
section
variable {P:Program} [GW P] {f:FuncId} {n:Nat} {d:FK} {β:Type} {Q:Spec β} {ds:List AD} {h:Ab} {u:AU} {k:List Item} {l:List (Nat×AV)}
variable {all r:List Oper} {ty:TypeId} {pos:String} {after:Array Edge}
theorem Auc {α:Type}{t:Nat}{x:Operand}{as0:List Operand}{ts:Array TypeId}{g:FuncId}{fst cap A:List AV}{gd:Option (Nat×Bool)}{mg:R α}{e:α→AV}{rest:α→R β}(ht:Nat.blt t n=true)(hw:D2 all (Ag l) ⟨some t,.call ⟨.value x,⟨as0⟩,ts⟩,ty,pos,after,gd⟩=some true)(hx:ev (Ag l) x=.func (.func g) fst cap)
  (ha:fst++E4 (Ag l) as0++cap=A) (hc:mg≠.bad→Bm P g A h (Yi e h mg)) (hp : ∀ v,mg=.pan v→WU P f n d Q (.pan v) (.pan v.av false) (Ag l) ds h u) (hk : ∀ a,mg=.ok a→WO P f n d Q k all (rest a) r (Ag ((t,e a)::l)) ds h u) :
  WO P f n d Q k all (mg.bind rest) (⟨some t,.call ⟨.value x,⟨as0⟩,ts⟩,ty,pos,after,gd⟩::r) (Ag l) ds h u:=by
 refine Q4 (by simpa [Fp] using ht) hw fun hb K U hK hU=>?_
 simp only [Ho,hx]
 rw [ha]
 have hmb:mg≠.bad:=fun q=>by rw [q] at hb; exact Q.bad hb
 refine(hc hmb).mono fun r' h' hr=>?_
 obtain⟨rfl,hr⟩:=hr
 cases hm:mg with
 | bad=>exact absurd hm hmb
 | ok a=>
  rw [hm] at hr hb hK
  subst hr
  exact hK _ _ _ _ (by rw [Ey]; exact hk a hm)
 | pan v=>
  rw [hm] at hr hb hU
  subst hr
  exact hU _ _ _ _ _ (hp v hm hb)
theorem Ww {dst:Option Tmp}{x:Operand}{v:PV}(hd:Fp n dst=true)(hx:ev (Ag l) x=v.av)(hp:WU P f n d Q (.pan v) (.pan v.av false) (Ag l) ds h u) :
  WO P f n d Q k all (.pan v) (⟨dst,.panic x,ty,pos,after,none⟩::r) (Ag l) ds h u:=by
 refine Q4 hd rfl fun hb K U hK hU=>?_
 simp only [Ho,hx,PV.av]
 exact hU _ _ _ _ _ (hp hb)
theorem Cp {α:Type}{m:R β}{todo:List Item}{fr:Nat→AV}{st t:Nat}{e:α→List AV}{L:List α}(hv:fr t=.sl st (L.map e))(hk:L.length≤Bt→WR P f n d Q m todo fr ds h u):WR P f n d Q m todo fr ds h u:=fun hb=>
 Au7 t fun hw=>hk (by rw [hv] at hw; simpa using hw.lim) hb
end
end Go.Am
namespace Go.Am
open Go
set_option linter.unusedSimpArgs false
set_option linter.unusedVariables false
set_option linter.unusedSectionVars false
def eachS {α σ:Type}(body:Nat→α→σ→R σ):Nat→List α→σ→R σ
 | _,[],s=>.ok s
 | k,a::l,s=>(body k a s).bind fun s'=>eachS body (k+1) l s'
@[simp] theorem Aw6 {α σ:Type}(body:Nat→α→σ→R σ)(k:Nat)(s:σ):eachS body k [] s=.ok s:=rfl
theorem Am2 {α σ:Type}(body:Nat→α→σ→R σ)(k:Nat)(a:α)(l:List α)(s:σ):eachS body k (a::l) s=(body k a s).bind fun s'=>eachS body (k+1) l s':=rfl
section
variable {P:Program} [GW P] {f:FuncId} {n:Nat} {d:FK} {β γ:Type} {Q:Spec β} {fr:Nat→AV} {ds:List AD} {h:Ab} {u:AU} {k:List Item} {l:List (Nat×AV)} {F:γ→R β}
theorem Ep {m:R β}{todo:List Item}(hr:WR P f n d Q (m.bind R.ok) todo fr ds h u):WR P f n d Q m todo fr ds h u:=by rwa [R.bind_ok] at hr
theorem Ah {m m':R γ}{todo:List Item}(e:m=m')(hr:WR P f n d Q (m'.bind F) todo fr ds h u):WR P f n d Q (m.bind F) todo fr ds h u:=e ▸ hr
theorem C1 {c:Operand}{x y:Code}{p:Prop}[Decidable p]{A B:R γ}(hc:ev fr c=.bool (decide p))(ht:p→WR P f n d Q (A.bind F) (.code x::k) fr ds h u)(hf:¬ p→WR P f n d Q (B.bind F) (.code y::k) fr ds h u):WR P f n d Q ((if p then A else B).bind F) (.code (.cond c x y)::k) fr ds h u:=by
 have e:(if p then A else B).bind F=if p then A.bind F else B.bind F:=by split <;> rfl
 rw [e]; exact Avs hc ht hf
theorem A8 {c:Operand}{x y:Code}{b:Bool}{A B:R γ}(hc:ev fr c=.bool b)(ht:b=true→WR P f n d Q (A.bind F) (.code x::k) fr ds h u)(hf:b=false→WR P f n d Q (B.bind F) (.code y::k) fr ds h u):WR P f n d Q ((if b then A else B).bind F) (.code (.cond c x y)::k) fr ds h u:=by
 have e:(if b then A else B).bind F=if b then A.bind F else B.bind F:=by split <;> rfl
 rw [e]; exact Atp hc ht hf
theorem Cu {π:Type}(rest:π→R γ)(St:π→(Nat→AV)→Ab→Prop){m:R γ}{i:Item}(hk : ∀ p fr h,St p fr h→WR P f n d Q ((rest p).bind F) k fr ds h u)
  (hx:(∀ p fr h,St p fr h→WR P f n d Q ((rest p).bind F) k fr ds h u)→WR P f n d Q (m.bind F) (i::k) fr ds h u):WR P f n d Q (m.bind F) (i::k) fr ds h u:=hx hk
theorem Aul {σ ε:Type}{c:Code}(body:σ→R (σ ⊕ ε))(rest:ε→R γ)(St:σ→(Nat→AV)→Ab→Prop)(s0:σ)(hs:St s0 fr h)
  (round : ∀ W:σ→R ε,(∀ s fr h,St s fr h→WR P f n d Q (((W s).bind rest).bind F) (.inLoop c::k) fr ds h u) → ∀ s fr h,St s fr h →
   WR P f n d Q ((body s).bind fun x=>match x with | .inl s'=>((W s').bind rest).bind F | .inr e=>(rest e).bind F) (.code c::.inLoop c::k) fr ds h u) :
  WR P f n d Q (((loop body s0).bind rest).bind F) (.code (.loop c)::k) fr ds h u:=by
 refine Se (R.bind_assoc _ _ _) (Auf body (fun x=>(rest x).bind F) St s0 hs fun W hW s fr h hs=>?_)
 have:=round W (fun s fr h hs=>Se (R.bind_assoc _ _ _) (hW s fr h hs)) s fr h hs
 refine Se ?_ this
 congr 1
 funext x
 cases x with
 | inl s'=>exact(R.bind_assoc _ _ _).symm
 | inr e=>rfl
theorem Am0 {α σ ε:Type}{c:Code}(L:List α)(body:Nat→α→σ→R (σ ⊕ ε))(rest:σ ⊕ ε→R γ)(St:Nat→σ→(Nat→AV)→Ab→Prop)(s0:σ)(hs:St 0 s0 fr h)
  (round : ∀ (j:Nat) (a:α),L[j]? = some a → ∀ W:σ→R (σ ⊕ ε),(∀ s fr h,St (j+1) s fr h→WR P f n d Q (((W s).bind rest).bind F) (.inLoop c::k) fr ds h u) → ∀ s fr h,St j s fr h →
   WR P f n d Q ((body j a s).bind fun x=>match x with | .inl s'=>((W s').bind rest).bind F | .inr e=>(rest (.inr e)).bind F) (.code c::.inLoop c::k) fr ds h u)
  (fin : ∀ s fr h,St L.length s fr h→WR P f n d Q ((rest (.inl s)).bind F) (.code c::.inLoop c::k) fr ds h u) :
  WR P f n d Q (((each body 0 L s0).bind rest).bind F) (.code (.loop c)::k) fr ds h u:=by
 refine Se (R.bind_assoc _ _ _) (At8 L body (fun x=>(rest x).bind F) St s0 hs (fun j a ha W hW s fr h hs=>?_) fin)
 have:=round j a ha W (fun s fr h hs=>Se (R.bind_assoc _ _ _) (hW s fr h hs)) s fr h hs
 refine Se ?_ this
 congr 1
 funext x
 cases x with
 | inl s'=>exact(R.bind_assoc _ _ _).symm
 | inr e=>rfl
theorem Ap7 {α σ:Type}(body:Nat→α→σ→R σ) : ∀ (L:List α) (j:Nat) (s:σ),(each (ε:=Empty) (fun j a s=>(body j a s).bind fun s'=>.ok (.inl s')) j L s).bind (fun | .inl s=>.ok s | .inr e=>nomatch e)=eachS body j L s
 | [],j,s=>rfl
 | a::l,j,s=>by
  rw [Re,Am2]
  cases body j a s with
  | ok s'=>exact Ap7 body l (j+1) s'
  | pan v=>rfl
  | bad=>rfl
theorem Ard {α σ:Type}{c:Code}(L:List α)(body:Nat→α→σ→R σ)(rest:σ→R γ)(St:Nat→σ→(Nat→AV)→Ab→Prop)(s0:σ)(hs:St 0 s0 fr h)
  (round : ∀ (j:Nat) (a:α),L[j]? = some a → ∀ W:σ→R σ,(∀ s fr h,St (j+1) s fr h→WR P f n d Q (((W s).bind rest).bind F) (.inLoop c::k) fr ds h u) → ∀ s fr h,St j s fr h →
   WR P f n d Q ((body j a s).bind fun s'=>((W s').bind rest).bind F) (.code c::.inLoop c::k) fr ds h u)
  (fin : ∀ s fr h,St L.length s fr h→WR P f n d Q ((rest s).bind F) (.code c::.inLoop c::k) fr ds h u) :
  WR P f n d Q (((eachS body 0 L s0).bind rest).bind F) (.code (.loop c)::k) fr ds h u:=by
 rw [← Ap7]
 rw [R.bind_assoc (each _ _ _ _)]
 refine Am0 (ε:=Empty) L _ _ St s0 hs (fun j a ha W hW s fr h hs=>?_) (fun s fr h hs=>fin s fr h hs)
 have:=round j a ha (fun s=>(W s).bind fun | .inl s=>.ok s | .inr e=>nomatch e) (fun s fr h hs=>by rw [R.bind_assoc (W s)]; exact hW s fr h hs) s fr h hs
 refine Se ?_ this
 rw [R.bind_assoc]
 congr 1
 funext s'
 simp only [R.ok_bind]
 cases W s' with
 | ok x=>
  cases x with
  | inl s=>rfl
  | inr e=>exact nomatch e
 | pan v=>rfl
 | bad=>rfl
section
variable {all r:List Oper} {ty:TypeId} {pos:String} {after:Array Edge}
theorem Gw {α:Type}{L:List α}{i:Int}{rest:α→R γ}{ops:List Oper}(hk : ∀ a,0≤i→L[i.toNat]? = some a→WO P f n d Q k all ((rest a).bind F) ops fr ds h u):WO P f n d Q k all (((idx L i).bind rest).bind F) ops fr ds h u:=
 Afe (R.bind_assoc _ _ _) (Avq hk)
theorem B3 {p:Prop}[Decidable p]{rest:R γ}{ops:List Oper}(hk:p→WO P f n d Q k all (rest.bind F) ops fr ds h u):WO P f n d Q k all ((if p then rest else .bad).bind F) ops fr ds h u:=by
 have e:(if p then rest else .bad).bind F=if p then rest.bind F else .bad:=by split <;> rfl
 rw [e]; exact Atw hk
theorem Aty {b:Bool}{A B:R γ}{ops:List Oper}(ht:b=true→WO P f n d Q k all (A.bind F) ops fr ds h u)(hf:b=false→WO P f n d Q k all (B.bind F) ops fr ds h u):WO P f n d Q k all ((if b then A else B).bind F) ops fr ds h u:=by
 have e:(if b then A else B).bind F=if b then A.bind F else B.bind F:=by split <;> rfl
 rw [e]; exact Ath ht hf
theorem Ny {α:Type}{t:Nat}{x:Operand}{as0:List Operand}{ts:Array TypeId}{g:FuncId}{fst cap:List AV}{gd:Option (Nat×Bool)}(A:List AV){mg:R α}{e:α→AV}{rest:α→R γ}(ht:Nat.blt t n=true)(hw:D2 all (Ag l) ⟨some t,.call ⟨.value x,⟨as0⟩,ts⟩,ty,pos,after,gd⟩=some true)(hx:ev (Ag l) x=.func (.func g) fst cap)
  (ha:fst++E4 (Ag l) as0++cap=A) (hc:mg≠.bad→Bm P g A h (Yi e h mg)) (hp : ∀ v,mg=.pan v→WU P f n d Q (.pan v) (.pan v.av false) (Ag l) ds h u) (hk : ∀ a,mg=.ok a→WO P f n d Q k all ((rest a).bind F) r (Ag ((t,e a)::l)) ds h u) :
  WO P f n d Q k all ((mg.bind rest).bind F) (⟨some t,.call ⟨.value x,⟨as0⟩,ts⟩,ty,pos,after,gd⟩::r) (Ag l) ds h u:=
 Afe (R.bind_assoc _ _ _) (Auc ht hw hx ha hc hp hk)
end
end
end Go.Am
namespace Go.Am
open Go
section
variable {α β γ δ ε ζ η θ τ:Type} {κ:Sort _}
@[reducible] def C7 (f:α→β→κ):α×β→κ | (a,b)=>f a b
@[reducible] def Nj (f:α→β→γ→κ):α×β×γ→κ | (a,b,c)=>f a b c
@[reducible] def un4 (f:α→β→γ→δ→κ):α×β×γ×δ→κ | (a,b,c,d)=>f a b c d
@[simp] theorem Ajl (f:α→β→κ)(a:α)(b:β):C7 f (a,b)=f a b:=rfl
@[simp] theorem Ayg (f:α→β→γ→κ)(a:α)(b:β)(c:γ):Nj f (a,b,c)=f a b c:=rfl
@[simp] theorem Avn (f:α→β→γ→δ→κ)(a:α)(b:β)(c:γ)(d:δ):un4 f (a,b,c,d)=f a b c d:=rfl
@[reducible] def alt (f:α→κ)(g:β→κ):α ⊕ β→κ | .inl a=>f a | .inr b=>g b
@[simp] theorem Dz (f:α→κ)(g:β→κ)(a:α):alt f g (.inl a)=f a:=rfl
@[simp] theorem Ayb (f:α→κ)(g:β→κ)(b:β):alt f g (.inr b)=g b:=rfl
end
def Ajb {σ ε γ β:Type}(W:σ→R ε)(rest:ε→R γ)(F:γ→R β):σ ⊕ ε→R β
 | .inl s'=>((W s').bind rest).bind F
 | .inr e=>(rest e).bind F
def Yv {σ ε γ β:Type}(W:σ→R (σ ⊕ ε))(rest:σ ⊕ ε→R γ)(F:γ→R β):σ ⊕ ε→R β
 | .inl s'=>((W s').bind rest).bind F
 | .inr e=>(rest (.inr e)).bind F
def Aqb {σ γ β:Type}(W:σ→R σ)(rest:σ→R γ)(F:γ→R β):σ→R β
 | s'=>((W s').bind rest).bind F
def Wx {α γ β:Type}(rest:α→R γ)(F:γ→R β):α→R β
 | a=>(rest a).bind F
section
variable {P:Program} [GW P] {f:FuncId} {n:Nat} {d:FK} {β γ:Type} {Q:Spec β} {fr:Nat→AV} {ds:List AD} {h:Ab} {u:AU} {k:List Item} {l:List (Nat×AV)} {F:γ→R β}
theorem Fa {σ ε:Type}{W:σ→R ε}{rest:ε→R γ}{todo:List Item}{s:σ}(hr:WR P f n d Q (((W s).bind rest).bind F) todo fr ds h u):WR P f n d Q ((R.ok (.inl s)).bind (Ajb W rest F)) todo fr ds h u:=hr
theorem Ec {σ ε:Type}{W:σ→R ε}{rest:ε→R γ}{todo:List Item}{e:ε}(hr:WR P f n d Q ((rest e).bind F) todo fr ds h u):WR P f n d Q ((R.ok (.inr e)).bind (Ajb W rest F)) todo fr ds h u:=hr
theorem Ds {σ ε:Type}{W:σ→R (σ ⊕ ε)}{rest:σ ⊕ ε→R γ}{todo:List Item}{s:σ}(hr:WR P f n d Q (((W s).bind rest).bind F) todo fr ds h u):WR P f n d Q ((R.ok (.inl s)).bind (Yv W rest F)) todo fr ds h u:=hr
theorem Du {σ ε:Type}{W:σ→R (σ ⊕ ε)}{rest:σ ⊕ ε→R γ}{todo:List Item}{e:ε}(hr:WR P f n d Q ((rest (.inr e)).bind F) todo fr ds h u):WR P f n d Q ((R.ok (.inr e)).bind (Yv W rest F)) todo fr ds h u:=hr
theorem Gf {σ:Type}{W:σ→R σ}{rest:σ→R γ}{todo:List Item}{s:σ}(hr:WR P f n d Q (((W s).bind rest).bind F) todo fr ds h u):WR P f n d Q ((R.ok s).bind (Aqb W rest F)) todo fr ds h u:=hr
theorem U9 {α' β':Type}{f1:α'→R γ}{g1:β'→R γ}{todo:List Item}{a:α'}(hr:WR P f n d Q ((f1 a).bind F) todo fr ds h u):WR P f n d Q ((alt f1 g1 (.inl a)).bind F) todo fr ds h u:=hr
theorem C8 {α' β':Type}{f1:α'→R γ}{g1:β'→R γ}{todo:List Item}{b:β'}(hr:WR P f n d Q ((g1 b).bind F) todo fr ds h u):WR P f n d Q ((alt f1 g1 (.inr b)).bind F) todo fr ds h u:=hr
theorem Gg {σ ε:Type}{c:Code}(body:σ→R (σ ⊕ ε))(rest:ε→R γ)(St:σ→(Nat→AV)→Ab→Prop)(s0:σ)(hs:St s0 fr h)
  (round : ∀ W:σ→R ε,(∀ s fr h,St s fr h→WR P f n d Q (((W s).bind rest).bind F) (.inLoop c::k) fr ds h u) → ∀ s fr h,St s fr h →
   WR P f n d Q ((body s).bind (Ajb W rest F)) (.code c::.inLoop c::k) fr ds h u) :
  WR P f n d Q (((loop body s0).bind rest).bind F) (.code (.loop c)::k) fr ds h u:=
 Aul body rest St s0 hs fun W hW s fr h hs=>by
  refine Se ?_ (round W hW s fr h hs)
  congr 1
theorem Dm {α σ ε:Type}{c:Code}(L:List α)(body:Nat→α→σ→R (σ ⊕ ε))(rest:σ ⊕ ε→R γ)(St:Nat→σ→(Nat→AV)→Ab→Prop)(s0:σ)(hs:St 0 s0 fr h)
  (round : ∀ (j:Nat) (a:α),L[j]? = some a → ∀ W:σ→R (σ ⊕ ε),(∀ s fr h,St (j+1) s fr h→WR P f n d Q (((W s).bind rest).bind F) (.inLoop c::k) fr ds h u) → ∀ s fr h,St j s fr h →
   WR P f n d Q ((body j a s).bind (Yv W rest F)) (.code c::.inLoop c::k) fr ds h u)
  (fin : ∀ s fr h,St L.length s fr h→WR P f n d Q ((rest (.inl s)).bind F) (.code c::.inLoop c::k) fr ds h u) :
  WR P f n d Q (((each body 0 L s0).bind rest).bind F) (.code (.loop c)::k) fr ds h u:=
 Am0 L body rest St s0 hs (fun j a ha W hW s fr h hs=>by
  refine Se ?_ (round j a ha W hW s fr h hs)
  congr 1) fin
theorem De {α σ:Type}{c:Code}(L:List α)(body:Nat→α→σ→R σ)(rest:σ→R γ)(St:Nat→σ→(Nat→AV)→Ab→Prop)(s0:σ)(hs:St 0 s0 fr h)
  (round : ∀ (j:Nat) (a:α),L[j]? = some a → ∀ W:σ→R σ,(∀ s fr h,St (j+1) s fr h→WR P f n d Q (((W s).bind rest).bind F) (.inLoop c::k) fr ds h u) → ∀ s fr h,St j s fr h →
   WR P f n d Q ((body j a s).bind (Aqb W rest F)) (.code c::.inLoop c::k) fr ds h u)
  (fin : ∀ s fr h,St L.length s fr h→WR P f n d Q ((rest s).bind F) (.code c::.inLoop c::k) fr ds h u) :
  WR P f n d Q (((eachS body 0 L s0).bind rest).bind F) (.code (.loop c)::k) fr ds h u:=Ard L body rest St s0 hs round fin
theorem H4 {c:Operand}{x y:Code}{b:Bool}{A B:R γ}(hc:ev fr c=.bool (!b))(ht:b=true→WR P f n d Q (A.bind F) (.code y::k) fr ds h u)(hf:b=false→WR P f n d Q (B.bind F) (.code x::k) fr ds h u):WR P f n d Q ((if b then A else B).bind F) (.code (.cond c x y)::k) fr ds h u:=by
 intro hb
 cases hq:b with
 | true=>simp only [hq,if_true] at hb ⊢; exact Sk (b:=false) (by rw [hc,hq]; rfl) (ht hq hb)
 | false=>simp only [hq,Bool.false_eq_true,if_false] at hb ⊢; exact Sk (b:=true) (by rw [hc,hq]; rfl) (hf hq hb)
section
variable {all r:List Oper} {ty:TypeId} {pos:String} {after:Array Edge}
theorem Ar7 {m:R β}{ops:List Oper}(b:Bool)(ht:b=true→WO P f n d Q k all m ops fr ds h u)(hf:b=false→WO P f n d Q k all m ops fr ds h u):WO P f n d Q k all m ops fr ds h u:=by
 cases hq:b with
 | true=>exact ht hq
 | false=>exact hf hq
theorem Auu {α:Type}{b:Bool}{A B:R α}{rest:α→R γ}{ops:List Oper}(ht:b=true→WO P f n d Q k all (A.bind (Wx rest F)) ops fr ds h u)(hf:b=false→WO P f n d Q k all (B.bind (Wx rest F)) ops fr ds h u):WO P f n d Q k all (((if b then A else B).bind rest).bind F) ops fr ds h u:=by
 have e : ∀ X:R α,(X.bind rest).bind F=X.bind (Wx rest F):=fun X=>R.bind_assoc _ _ _
 rw [e]
 exact Aty ht hf
theorem Ast {α:Type}{rest:α→R γ}{ops:List Oper}{a:α}(hr:WO P f n d Q k all ((rest a).bind F) ops fr ds h u):WO P f n d Q k all ((R.ok a).bind (Wx rest F)) ops fr ds h u:=hr
end
end
theorem Jw {a b:Bool}(h:a=true):AV.bool b=.bool (a&&b):=by rw [h]; rfl
theorem Jy {a b:Bool}(h:a=false):AV.bool false=.bool (a&&b):=by rw [h]; rfl
theorem Dp {a b:Bool}(h:a=true):AV.bool true=.bool (a||b):=by rw [h]; rfl
theorem Do {a b:Bool}(h:a=false):AV.bool b=.bool (a||b):=by rw [h]; rfl
section
variable {P:Program} [GW P] {f:FuncId} {n:Nat} {d:FK} {β:Type} {Q:Spec β} {m:R β} {fr:Nat→AV} {ds:List AD} {h:Ab} {u:AU} {k:List Item} {l:List (Nat×AV)}
theorem Bx {c:Operand}{x y:Code}{p:Prop}[Decidable p](hc:ev fr c=.bool (decide p))(hp:p)(hr:WR P f n d Q m (.code x::k) fr ds h u):WR P f n d Q m (.code (.cond c x y)::k) fr ds h u:=fun hb=>Sk (b:=true) (by rw [hc]; simp [hp]) (hr hb)
theorem Bw {c:Operand}{x y:Code}{p:Prop}[Decidable p](hc:ev fr c=.bool (decide p))(hp:¬ p)(hr:WR P f n d Q m (.code y::k) fr ds h u):WR P f n d Q m (.code (.cond c x y)::k) fr ds h u:=fun hb=>Sk (b:=false) (by rw [hc]; simp [hp]) (hr hb)
end
inductive LF (h h2:Ab):List AV→List AV→Prop
 | nil:LF h h2 [] []
 | cons {a b:AV} {l l':List AV} (hx:Fz h h2 a b) (hr:LF h h2 l l'):LF h h2 (a::l) (b::l')
theorem LF.all {h h2:Ab}{l l':List AV}(hx:LF h h2 l l'):l.length=l'.length ∧ ∀ i,i<l.length→Fz h h2 (l.getD i .und) (l'.getD i .und):=by
 induction hx with
 | nil=>exact⟨rfl,fun i hi=>by simp at hi⟩
 | cons hx hr ih=>
  refine⟨by simp [ih.1],fun i hi=>?_⟩
  cases i with
  | zero=>exact hx
  | succ i=>simpa using ih.2 i (by simpa using hi)
theorem Fz.tupL {h h2:Ab}{l l':List AV}(hx:LF h h2 l l'):Fz h h2 (.tup l) (.tup l'):=.tup l l' hx.all.1 hx.all.2
theorem Fz.aggL {h h2:Ab}{l l':List AV}(hx:LF h h2 l l'):Fz h h2 (.agg l) (.agg l'):=.agg l l' hx.all.1 hx.all.2
theorem LF.lfz {h:Ab}{l l':List AV}(hx:LF h hE l l'):LFz h l l':=by
 induction hx with
 | nil=>trivial
 | cons hx hr ih=>exact⟨hx,ih⟩
end Go.Am
namespace Go.Am
open Go
set_option linter.unusedSimpArgs false
set_option linter.unusedVariables false
set_option linter.unusedSectionVars false
section
variable {P:Program} [GW P] {h:Ab} {fr:Nat→AV}
theorem Bz:J3 P h fr []=some []:=rfl
theorem Ce {t:Nat}{r:List ResultVar}{vs:List AV}(hr:J3 P h fr r=some vs):J3 P h fr (.tmp t::r)=some (fr t::vs):=by simp only [J3,hr,Option.map_some]
theorem Bn {a:Nat}{t:TypeId}{r:List ResultVar}{v:AV}{vs:List AV}(hv:Pq P h t (fr a)=some v)(hr:J3 P h fr r=some vs):J3 P h fr (.cell a t::r)=some (v::vs):=by simp only [J3,hr,hv]
theorem C9 {α:Type}{e:α→List AV}{L:List α}{st n:Nat}{b:Bool}(hs:st=n):Fx P h n b (.sl st (L.map e))=some (L.map e):=by simp only [Fx,if_pos hs]
end
section
variable {P:Program} [GW P] {f:FuncId} {n:Nat} {d:FK} {β:Type} {Q:Spec β} {m:R β} {ds:List AD} {u:AU} {k:List Item} {l:List (Nat×AV)}
variable {all r:List Oper} {ty:TypeId} {pos:String} {after:Array Edge}
variable {h0:Ab} {ids:List Nat} {xs:List (Option AO)} {N:Nat}
section
variable {α:Type} {e:α→List AV} {L L2:List α} {v:AV} {g st j:Nat}
theorem Iq {sT xT et:TypeId}{a1 b1 a2 b2:Nat}{z1 z2:List AV}{E:TI}{s x:Operand}{K2:TK}{fr:Nat→AV}{K:AV→Ab→Prop}(hI:Ids h0 ids N)(hl:xs.length=N)(hjn:Nat.blt j N=true)
  (hs:ev fr s=v) (hv:Bp v (ix ids j) g L.length) (hj:xs[j]? = some (Bb v g st (L.map e)))
  (hxv:Fx P (hp h0 ids xs) E.size (decide (E.k=.int .u8)) (ev fr x)=some (L2.map e))
  (hS:ti P sT=some ⟨.sl et,a1,b1,z1⟩) (hX:ti P xT=some ⟨K2,a2,b2,z2⟩) (hK2:K2.many=true) (hE:ti P et=some E) (hst:st=E.size) (hsz:Nat.blt 0 E.size=true) (hby:Nat.blt 0 E.bytes=true) (hlim:(L.length+L2.length) * E.bytes≤Bt)
  (hk : ∀ v' g',Bp v' (ix ids j) g' (L++L2).length→K v' (hp h0 ids (xs.set j (Bb v' g' st ((L++L2).map e))))) :
  C5 P fr (hp h0 ids xs) (.call ⟨.builtin .append,⟨[s,x]⟩,⟨[sT,xT]⟩⟩) K:=by
 have hsz':0<E.size:=by simpa using hsz
 have hby':0<E.bytes:=by simpa using hby
 simp only [C5,Jp,E4,List.map]
 refine .inl ?_
 simp only [Nx,hS,hX,hE,hs,hxv,hK2,hsz',hby',true_and,List.length_map]
 rcases hv with⟨rfl,hn⟩ | rfl
 ·have:L=[]:=List.length_eq_zero_iff.1 hn
  subst this
  by_cases h2:L2.length=0
  ·have:L2=[]:=List.length_eq_zero_iff.1 h2
   subst this
   simp only [List.length_nil,if_true]
   have:=hk .emp g (.inl ⟨rfl,rfl⟩)
   have e1:xs.set j (Bb .emp g st (([]++[]:List α).map e))=xs:=by
    apply List.ext_getElem?
    intro i
    rw [List.getElem?_set]
    split
    ·rename_i hq; subst hq
     split
     ·exact hj.symm
     ·rename_i hq; rw [List.getElem?_eq_none (by omega)]
    ·rfl
   rw [e1] at this
   exact this
  ·rw [if_neg h2]
   refine⟨by simpa using hlim,Jh (ix ids j) (hI.at hl hj) fun g'=>?_⟩
   rw [hI.set hl hjn]
   have:=hk (.ref (ix ids j) g' 0 L2.length) g' (.inr (by simp))
   simp only [Bb,List.nil_append] at this
   rw [← hst]
   exact this
 ·have ha:=hI.at hl hj
  simp only [Bb] at ha
  simp only [ha]
  refine⟨trivial,hst,by simp,hlim,fun g'=>?_⟩
  rw [hI.set hl hjn]
  have:=hk (.ref (ix ids j) g' 0 (L.length+L2.length)) g' (.inr (by simp))
  simp only [Bb,List.map_append] at this
  have e1:(List.drop 0 (List.map e L)).take L.length=List.map e L:=by rw [List.drop_zero,List.take_of_length_le (by simp)]
  rw [e1]
  exact this
theorem Dj {t:Nat}{sT xT et:TypeId}{a1 b1 a2 b2:Nat}{z1 z2:List AV}{E:TI}{s x:Operand}{K2:TK}(hI:Ids h0 ids N)(hl:xs.length=N)(hjn:Nat.blt j N=true)(ht:Nat.blt t n=true)
  (hs:ev (Ag l) s=v) (hv:Bp v (ix ids j) g L.length) (hj:xs[j]? = some (Bb v g st (L.map e)))
  (hxv:Fx P (hp h0 ids xs) E.size (decide (E.k=.int .u8)) (ev (Ag l) x)=some (L2.map e))
  (hS:ti P sT=some ⟨.sl et,a1,b1,z1⟩) (hX:ti P xT=some ⟨K2,a2,b2,z2⟩) (hK2:K2.many=true) (hE:ti P et=some E) (hst:st=E.size) (hsz:Nat.blt 0 E.size=true) (hby:Nat.blt 0 E.bytes=true) (hlim:(L.length+L2.length) * E.bytes≤Bt)
  (hk : ∀ v' g',Bp v' (ix ids j) g' (L++L2).length→WO P f n d Q k all m r (Ag ((t,v')::l)) ds (hp h0 ids (xs.set j (Bb v' g' st ((L++L2).map e)))) u) :
  WO P f n d Q k all m (⟨some t,.call ⟨.builtin .append,⟨[s,x]⟩,⟨[sT,xT]⟩⟩,ty,pos,after,none⟩::r) (Ag l) ds (hp h0 ids xs) u:=
 K6 ht (fun _ _=>rfl) fun K hK=>Iq hI hl hjn hs hv hj hxv hS hX hK2 hE hst hsz hby hlim fun v' g' hv'=>hK _ _ (hk v' g' hv')
theorem Ag0 {fr:Nat→AV}{K:AV→Ab→Prop}{sT et:TypeId}{a1 b1:Nat}{z1:List AV}{E:TI}{h:Ab}(hS:ti P sT=some ⟨.sl et,a1,b1,z1⟩)(hE:ti P et=some E)
  (hk:K .emp h) :
  C5 P fr h (.buildSlice sT 0 ⟨[]⟩) K:=by
 simp only [C5,In,hS,hE]
 rw [if_pos trivial]
 exact⟨rfl,.inl hk⟩
inductive RowSim:List AV→List AV→Prop
 | nil:RowSim [] []
 | cons {a b:AV} {l l':List AV} (h:CellSim a b) (r:RowSim l l'):RowSim (a::l) (b::l')
inductive RowsSimL:List (List AV)→List (List AV)→Prop
 | nil:RowsSimL [] []
 | cons {a b:List AV} {l l':List (List AV)} (h:RowSim a b) (r:RowsSimL l l'):RowsSimL (a::l) (b::l')
theorem RowSim.refl : ∀ l:List AV,RowSim l l
 | []=>.nil
 | a::l=>.cons (.same a) (RowSim.refl l)
theorem RowSim.get {l l':List AV}(h:RowSim l l') : ∀ j,j<l.length→CellSim (l.getD j .und) (l'.getD j .und):=by
 induction h with
 | nil=>intro j hj; simp at hj
 | cons h r ih=>
  intro j hj
  cases j with
  | zero=>exact h
  | succ j=>simpa using ih j (by simpa using hj)
theorem RowsSimL.sim {α:Type}{e:α→List AV}{L:List α}{st:Nat}{rows:List (List AV)}(h:RowsSimL rows (L.map e))(hr : ∀ x,Cm st (e x))(hl : ∀ r ∈ rows,r.length=st):RowsSim st rows (L.map e):=by
 have key : ∀ {rows rows':List (List AV)},RowsSimL rows rows'→rows'.length=rows.length ∧ ∀ i,i<rows.length→RowSim (rows.getD i []) (rows'.getD i []):=by
  intro rows rows' h
  induction h with
  | nil=>exact⟨rfl,fun i hi=>by simp at hi⟩
  | cons h r ih=>
   refine⟨by simp [ih.1],fun i hi=>?_⟩
   cases i with
   | zero=>exact h
   | succ i=>simpa using ih.2 i (by simpa using hi)
 obtain⟨k1,k2⟩:=key h
 refine⟨k1,fun r hr'=>by obtain⟨x,_,rfl⟩:=List.mem_map.1 hr'; exact hr x,fun i j hi hj=>(k2 i hi).get j ?_⟩
 rw [hl _ (by rw [show rows.getD i []=rows[i] by simp [List.getD,hi]]; exact List.getElem_mem hi)]
 exact hj
theorem Ky {α:Type}{e:α→List AV}{L:List α}{st:Nat}{fr:Nat→AV}{K:AV→Ab→Prop}{sT et:TypeId}{a1 b1 c:Nat}{z1:List AV}{E:TI}{ps:List (Nat×Operand)}{h:Ab}{rows:List (List AV)}(hS:ti P sT=some ⟨.sl et,a1,b1,z1⟩)(hE:ti P et=some E)
  (hc:Nat.beq c 0=false) (hsz:Nat.blt 0 E.size=true) (hlim:Nat.ble (c * E.size) 16777216=true) (hz:E.z.all AV.flat=true) (hf:P3 E.size (List.replicate c E.z) (Q9 fr ps)=some rows) (hsim:RowsSimL rows (L.map e)) (hr : ∀ x,Cm st (e x)) (hrl:rows.all (fun r=>Nat.beq r.length st)=true) (hst:st=E.size)
  (hk:K (.sl st (L.map e)) h):C5 P fr h (.buildSlice sT c ⟨ps⟩) K:=by
 have hc':c≠0:=fun q=>by rw [q] at hc; cases hc
 have hsz':0<E.size:=by simpa using hsz
 have hlim':c * E.size≤2 ^ 24:=by simpa using hlim
 simp only [C5,In,hS,hE]
 rw [if_neg hc']
 refine⟨hsz',hlim',hz,?_⟩
 rw [hf]
 exact⟨L.map e,hst ▸ hsim.sim hr fun r hr'=>by simpa using List.all_eq_true.1 hrl r hr',.inl (hst ▸ hk)⟩
theorem Dq {α:Type}{e:α→List AV}{L:List α}{st t:Nat}{sT et:TypeId}{a1 b1 c:Nat}{z1:List AV}{E:TI}{ps:List (Nat×Operand)}{h:Ab}{rows:List (List AV)}(ht:Nat.blt t n=true)(hS:ti P sT=some ⟨.sl et,a1,b1,z1⟩)(hE:ti P et=some E)
  (hc:Nat.beq c 0=false) (hsz:Nat.blt 0 E.size=true) (hlim:Nat.ble (c * E.size) 16777216=true) (hz:E.z.all AV.flat=true) (hf:P3 E.size (List.replicate c E.z) (Q9 (Ag l) ps)=some rows) (hsim:RowsSimL rows (L.map e)) (hr : ∀ x,Cm st (e x)) (hrl:rows.all (fun r=>Nat.beq r.length st)=true) (hst:st=E.size)
  (hk:WO P f n d Q k all m r (Ag ((t,.sl st (L.map e))::l)) ds h u):WO P f n d Q k all m (⟨some t,.buildSlice sT c ⟨ps⟩,ty,pos,after,none⟩::r) (Ag l) ds h u:=
 K6 ht (fun _ _=>rfl) fun K hK=>Ky hS hE hc hsz hlim hz hf hsim hr hrl hst (hK _ _ hk)
theorem Akz {t:Nat}{sT et:TypeId}{a1 b1:Nat}{z1:List AV}{E:TI}{h:Ab}(ht:Nat.blt t n=true)(hS:ti P sT=some ⟨.sl et,a1,b1,z1⟩)(hE:ti P et=some E)
  (hk:WO P f n d Q k all m r (Ag ((t,.emp)::l)) ds h u):WO P f n d Q k all m (⟨some t,.buildSlice sT 0 ⟨[]⟩,ty,pos,after,none⟩::r) (Ag l) ds h u:=
 K6 ht (fun _ _=>rfl) fun K hK=>Ag0 hS hE (hK _ _ hk)
theorem Aj1 {fr:Nat→AV}{K:AV→Ab→Prop}{sT et:TypeId}{a1 b1 c:Nat}{z1:List AV}{E:TI}{ps:List (Nat×Operand)}(hI:Ids h0 ids N)(hl:xs.length=N)(hjn:Nat.blt j N=true)(hj:xs[j]? = some none)(hS:ti P sT=some ⟨.sl et,a1,b1,z1⟩)(hE:ti P et=some E)
  (hc:Nat.beq c 0=false) (hsz:Nat.blt 0 E.size=true) (hlim:Nat.ble (c * E.size) 16777216=true) (hz:E.z.all AV.flat=true) {rows:List (List AV)} (hf:P3 E.size (List.replicate c E.z) (Q9 fr ps)=some rows) (hsim:RowsSimL rows (L.map e)) (hr : ∀ x,Cm st (e x)) (hrl:rows.all (fun r=>Nat.beq r.length st)=true) (hL:L.length=c) (hst:st=E.size)
  (hk : ∀ v' g',Bp v' (ix ids j) g' L.length→K v' (hp h0 ids (xs.set j (Bb v' g' st (L.map e))))) :
  C5 P fr (hp h0 ids xs) (.buildSlice sT c ⟨ps⟩) K:=by
 have hc':c≠0:=fun q=>by rw [q] at hc; cases hc
 have hsz':0<E.size:=by simpa using hsz
 have hlim':c * E.size≤2 ^ 24:=by simpa using hlim
 simp only [C5,In,hS,hE]
 rw [if_neg hc']
 refine⟨hsz',hlim',hz,?_⟩
 rw [hf]
 refine⟨L.map e,hst ▸ hsim.sim hr fun r hr'=>by simpa using List.all_eq_true.1 hrl r hr',.inr ?_⟩
 refine Jh (ix ids j) (hI.at hl hj) fun g'=>?_
 rw [hI.set hl hjn]
 have:=hk (.ref (ix ids j) g' 0 c) g' (.inr (by rw [hL]))
 simp only [Bb] at this
 rw [← hst]
 exact this
theorem Awr {t:Nat}{sT et:TypeId}{a1 b1 c:Nat}{z1:List AV}{E:TI}{ps:List (Nat×Operand)}(hI:Ids h0 ids N)(hl:xs.length=N)(hjn:Nat.blt j N=true)(hj:xs[j]? = some none)(ht:Nat.blt t n=true)(hS:ti P sT=some ⟨.sl et,a1,b1,z1⟩)(hE:ti P et=some E)
  (hc:Nat.beq c 0=false) (hsz:Nat.blt 0 E.size=true) (hlim:Nat.ble (c * E.size) 16777216=true) (hz:E.z.all AV.flat=true) {rows:List (List AV)} (hf:P3 E.size (List.replicate c E.z) (Q9 (Ag l) ps)=some rows) (hsim:RowsSimL rows (L.map e)) (hr : ∀ x,Cm st (e x)) (hrl:rows.all (fun r=>Nat.beq r.length st)=true) (hL:L.length=c) (hst:st=E.size)
  (hk : ∀ v' g',Bp v' (ix ids j) g' L.length→WO P f n d Q k all m r (Ag ((t,v')::l)) ds (hp h0 ids (xs.set j (Bb v' g' st (L.map e)))) u) :
  WO P f n d Q k all m (⟨some t,.buildSlice sT c ⟨ps⟩,ty,pos,after,none⟩::r) (Ag l) ds (hp h0 ids xs) u:=
 K6 ht (fun _ _=>rfl) fun K hK=>Aj1 hI hl hjn hj hS hE hc hsz hlim hz hf hsim hr hrl hL hst fun v' g' hv'=>hK _ _ (hk v' g' hv')
theorem Ar2 {fr:Nat→AV}{K:AV→Ab→Prop}{sT et:TypeId}{a1 b1:Nat}{z1:List AV}{E:TI}{ln cp:Operand}{i c:Int}{ki kc:IntKind}{y:α}(hI:Ids h0 ids N)(hl:xs.length=N)(hjn:Nat.blt j N=true)(hj:xs[j]? = some none)(hS:ti P sT=some ⟨.sl et,a1,b1,z1⟩)(hE:ti P et=some E)
  (h1:ev fr ln=.int ki i) (h2:ev fr cp=.int kc c) (hi:0≤i) (hic:i≤c) (hlim:c.toNat * E.bytes≤Bt) (hsz:Nat.blt 0 E.size=true) (hby:Nat.blt 0 E.bytes=true) (hz:E.z.all AV.flat=true) (hy:E.z=e y) (hst:st=E.size)
  (hk : ∀ v' g',Bp v' (ix ids j) g' (List.replicate i.toNat y).length→K v' (hp h0 ids (xs.set j (Bb v' g' st ((List.replicate i.toNat y).map e))))) :
  C5 P fr (hp h0 ids xs) (.makeSlice sT ln cp) K:=by
 have hsz':0<E.size:=by simpa using hsz
 have hby':0<E.bytes:=by simpa using hby
 simp only [C5,U0,hS,hE,h1,h2]
 refine⟨hsz',hby',hz,hi,hic,hlim,.inl (Jh (ix ids j) (hI.at hl hj) fun g'=>?_)⟩
 rw [hI.set hl hjn]
 have:=hk (.ref (ix ids j) g' 0 i.toNat) g' (.inr (by simp))
 simp only [Bb,List.map_replicate] at this
 rw [hy,← hst]
 exact this
theorem Amd {t:Nat}{sT et:TypeId}{a1 b1:Nat}{z1:List AV}{E:TI}{ln cp:Operand}{i c:Int}{ki kc:IntKind}{y:α}(hI:Ids h0 ids N)(hl:xs.length=N)(hjn:Nat.blt j N=true)(hj:xs[j]? = some none)(ht:Nat.blt t n=true)(hS:ti P sT=some ⟨.sl et,a1,b1,z1⟩)(hE:ti P et=some E)
  (h1:ev (Ag l) ln=.int ki i) (h2:ev (Ag l) cp=.int kc c) (hi:0≤i) (hic:i≤c) (hlim:c.toNat * E.bytes≤Bt) (hsz:Nat.blt 0 E.size=true) (hby:Nat.blt 0 E.bytes=true) (hz:E.z.all AV.flat=true) (hy:E.z=e y) (hst:st=E.size)
  (hk : ∀ v' g',Bp v' (ix ids j) g' (List.replicate i.toNat y).length→WO P f n d Q k all m r (Ag ((t,v')::l)) ds (hp h0 ids (xs.set j (Bb v' g' st ((List.replicate i.toNat y).map e)))) u) :
  WO P f n d Q k all m (⟨some t,.makeSlice sT ln cp,ty,pos,after,none⟩::r) (Ag l) ds (hp h0 ids xs) u:=
 K6 ht (fun _ _=>rfl) fun K hK=>Ar2 hI hl hjn hj hS hE h1 h2 hi hic hlim hsz hby hz hy hst fun v' g' hv'=>hK _ _ (hk v' g' hv')
end
end
section
variable {P:Program} [GW P] {f:FuncId} {n:Nat} {d:FK} {β γ:Type} {Q:Spec β} {m:R β} {fr:Nat→AV} {ds:List AD} {h:Ab} {u:AU} {k:List Item} {l:List (Nat×AV)} {F:γ→R β}
def WP (P:Program)[GW P](f:FuncId)(n:Nat)(d:FK)(Q:Spec β)(k:List Item)(all:List Oper)(pre:List (List Nat))(m:R β)(plan:Er)(pend:Jl)(fr:Nat→AV)(ds:List AD)(h:Ab)(u:AU):Prop:=
 Q.V m → ∀ (K:KT) (U:AV→KT),Going P f n d k (Q.Q m) K U→J9 P n d all pre K U plan pend fr ds h u
theorem Atv {id:Nat}{ops:List Oper}(hm:P.follows .mixedOrders=true)(pre:List (List Nat))(plan:Er)(hp:Af4 ops pre plan=true)(hx:WP P f n d Q k ops pre m plan [] fr ds h u) :
  WR P f n d Q m (.code (.region id ⟨ops⟩ true)::k) fr ds h u:=fun hb=>Aum hm pre plan hp fun K U hK=>hx hb K U hK
theorem Z2 {id:Nat}{ops:List Oper}(hm:P.follows .mixedOrders=true)(T:DT)(hT:T.ok ops []=true)(hx:T.each fun pre plan=>WP P f n d Q k ops pre m plan [] fr ds h u) :
  WR P f n d Q m (.code (.region id ⟨ops⟩ true)::k) fr ds h u:=fun hb=>Ar6 hm T hT fun K U hK=>T.mono (fun pre plan hw=>hw hb K U hK) hx
theorem S4 {p:List (List Nat)→Er→Prop}{pre:List (List Nat)}{plan:Er}(h:p pre plan):DT.each p (.leaf pre plan):=h
theorem Ada {p:List (List Nat)→Er→Prop}{i j:Nat}{A B:DT}(h1:A.each p)(h2:B.each p):DT.each p (.node i j A B):=⟨h1,h2⟩
section
variable {all:List Oper} {pre:List (List Nat)} {plan:Er} {pend:Jl} {ty:TypeId} {pos:String} {after:Array Edge} {i:Nat}
theorem Be (hr:WR P f n d Q m k fr ds h u):WP P f n d Q k all pre m [] pend fr ds h u:=fun hb K U hK=>hK.run _ _ _ _ (hr hb)
theorem A0 {t:Nat}{op:Op}(v:AV)(ho:all[i]? = some ⟨some t,op,ty,pos,after,none⟩)(ht:Nat.blt t n=true)(hv:Dy P (Ag l) h op=some v)(hk:WP P f n d Q k all pre m plan ((i,Ag l,v)::pend) (Ag ((t,v)::l)) ds h u) :
  WP P f n d Q k all pre m ((false,i)::plan) pend (Ag l) ds h u:=by
 intro hb K U hK
 simp only [J9,ho]
 refine⟨by simpa [Fp] using ht,?_⟩
 have e:aF P all (Ag l) h ⟨some t,op,ty,pos,after,none⟩=some v:=by simp only [aF,D2,hv]
 rw [e]
 simp only [Ey]
 exact hk hb K U hK
theorem Af7 {m':R β}(e:m=m')(hr:WP P f n d Q k all pre m' plan pend fr ds h u):WP P f n d Q k all pre m plan pend fr ds h u:=e ▸ hr
theorem C6 {α:Type}{L:List α}{ii:Int}{rest:α→R γ}(hk : ∀ a,0≤ii→L[ii.toNat]? = some a→WP P f n d Q k all pre ((rest a).bind F) plan pend fr ds h u):WP P f n d Q k all pre (((idx L ii).bind rest).bind F) plan pend fr ds h u:=by
 refine Af7 (R.bind_assoc _ _ _) fun hb=>?_
 unfold idx at hb ⊢
 by_cases h0:0≤ii
 ·rw [if_pos h0] at hb ⊢
  cases hq:L[ii.toNat]? with
  | none=>rw [hq] at hb; exact absurd hb Q.bad
  | some a=>rw [hq] at hb; exact hk a h0 hq hb
 ·rw [if_neg h0] at hb; exact absurd hb Q.bad
theorem Cz {p:Prop}[Decidable p]{rest:R γ}(hk:p→WP P f n d Q k all pre (rest.bind F) plan pend fr ds h u):WP P f n d Q k all pre ((if p then rest else .bad).bind F) plan pend fr ds h u:=by
 intro hb
 by_cases hp:p
 ·rw [if_pos hp] at hb ⊢; exact hk hp hb
 ·rw [if_neg hp] at hb; exact absurd hb Q.bad
end
end
section
variable {P:Program} [GW P] {t:TypeId}
theorem Aun {k k':IntKind}{a b:Int}(hk:k=k')(hb:b≠0):Ke P .quo t (.int k a) (.int k' b)=some (.int k (k.wrap (a.tdiv b))):=by simp only [Ke,if_pos (And.intro hk hb)]
theorem O3 {k k':IntKind}{a b:Int}(hk:k=k')(hb:b≠0):Ke P .rem t (.int k a) (.int k' b)=some (.int k (a.tmod b)):=by simp only [Ke,if_pos (And.intro hk hb)]
theorem Aue {a b:Bool}{s by':Nat}{z:List AV}(hT:ti P t=some ⟨.bool,s,by',z⟩):Ke P .neq t (.bool a) (.bool b)=some (.bool (!(a==b))):=by simp only [Ke,Vt,hT,Option.map_some]
end
end Go.Am
namespace Go.Am
open Go
set_option linter.unusedSimpArgs false
set_option linter.unusedVariables false
set_option linter.unusedSectionVars false
theorem Bm.weak {P:Program}[GW P]{g:FuncId}{args args':List AV}{h:Ab}{Q:AR→Ab→Prop}(hz:LF h h args args')(hc:Bm P g args' h Q):Bm P g args h Q:=by
 refine⟨hc.1,fun B mu w cargs s ha=>hc.2 B mu w cargs s ⟨hz.all.1 ▸ ha.1,fun i hi=>?_⟩⟩
 have hi':i<args.length:=by rw [hz.all.1]; exact hi
 exact J2 s (G4.refl _) (hz.all.2 i hi') (ha.2 i hi')
def AV.isAgg:AV→Bool
 | .agg _=>true
 | _=>false
theorem Ah0 {P:Program}[GW P]{o:BinOp}{t:TypeId}{x y:Operand}{a b:AV}(ha:a.isAgg=true)(hb:b.isAgg=true)(he:Abr P t=true):Pc P o t x y a b=true:=by
 cases a <;> simp [AV.isAgg] at ha
 cases b <;> simp [AV.isAgg] at hb
 cases o <;> simp [Pc,he]
def Aj9 {α:Type}(st:Nat)(e:α→List AV)(h:Ab)(o:Nat)(m:R (List α)):AR→Ab→Prop:=fun r h'=>match m with
 | .ok a => ∃ v g,r=.ret v∧Bp v o g a.length∧h'=upd h o (Bb v g st (a.map e))
 | .pan v=>r=.panic v.av∧h'=h
 | .bad=>False
def CPO {α:Type}(P:Program)[GW P](g:FuncId)(args:List AV)(m:R (List α))(st:Nat)(e:α→List AV):Prop := ∀ h o,h o=none→m≠.bad→Bm P g args h (Aj9 st e h o m)
section
variable {P:Program} [GW P] {f:FuncId} {n:Nat} {d:FK} {β γ:Type} {Q:Spec β} {ds:List AD} {u:AU} {k:List Item} {l:List (Nat×AV)} {F:γ→R β}
variable {all r:List Oper} {ty:TypeId} {pos:String} {after:Array Edge} {h0:Ab} {ids:List Nat} {xs:List (Option AO)} {N:Nat}
theorem Ar1 {α:Type}{t j st:Nat}{x:Operand}{as0:List Operand}{ts:Array TypeId}{g:FuncId}{fst cap:List AV}(A:List AV){mg:R (List α)}{e:α→List AV}{rest:List α→R γ}(hI:Ids h0 ids N)(hl:xs.length=N)(hjn:Nat.blt j N=true)(hj:xs[j]? = some none)
  (ht:Nat.blt t n=true) (hx:ev (Ag l) x=.func (.func g) fst cap) (ha:fst++E4 (Ag l) as0++cap=A) (hc:mg≠.bad→Bm P g A (hp h0 ids xs) (Aj9 st e (hp h0 ids xs) (ix ids j) mg))
  (hp' : ∀ v,mg=.pan v→WU P f n d Q (.pan v) (.pan v.av false) (Ag l) ds (hp h0 ids xs) u)
  (hk : ∀ a,mg=.ok a → ∀ v g',Bp v (ix ids j) g' a.length→WO P f n d Q k all ((rest a).bind F) r (Ag ((t,v)::l)) ds (hp h0 ids (xs.set j (Bb v g' st (a.map e)))) u) :
  WO P f n d Q k all ((mg.bind rest).bind F) (⟨some t,.call ⟨.value x,⟨as0⟩,ts⟩,ty,pos,after,none⟩::r) (Ag l) ds (hp h0 ids xs) u:=by
 refine Afe (R.bind_assoc _ _ _) (Q4 (by simpa [Fp] using ht) rfl fun hb K U hK hU=>?_)
 simp only [Ho,hx]
 rw [ha]
 have hmb:mg≠.bad:=fun q=>by rw [q] at hb; exact Q.bad hb
 refine(hc hmb).mono fun r' h' hr=>?_
 cases hm:mg with
 | bad=>exact absurd hm hmb
 | ok a=>
  rw [hm] at hr hb hK
  obtain⟨v,g',rfl,hv,rfl⟩:=hr
  rw [hI.set hl hjn]
  exact hK _ _ _ _ (by rw [Ey]; exact hk a hm v g' hv)
 | pan v=>
  rw [hm] at hr hb hU
  obtain⟨rfl,rfl⟩:=hr
  exact hU _ _ _ _ _ (hp' v hm hb)
end
section
variable {P:Program} [GW P] {f:FuncId} {n:Nat} {d:FK} {β γ:Type} {Q:Spec β} {m:R β} {fr:Nat→AV} {ds:List AD} {h:Ab} {u:AU} {k:List Item} {l:List (Nat×AV)} {F:γ→R β}
variable {all:List Oper} {pre:List (List Nat)} {plan:Er} {pend:Jl} {ty:TypeId} {pos:String} {after:Array Edge} {i:Nat}
theorem C3:Ei P all pre i h []:=trivial
theorem Gu {j:Nat}{v:AV}(hc:cl pre i j=true)(hr:Ei P all pre i h pend):Ei P all pre i h ((j,fr,v)::pend):=⟨by rw [if_pos hc]; trivial,hr⟩
theorem Af {j t:Nat}{v:AV}{op:Op}(ho:all[j]? = some ⟨some t,op,ty,pos,after,none⟩)(hv:Dy P fr h op=some v)(hr:Ei P all pre i h pend):Ei P all pre i h ((j,fr,v)::pend):=by
 refine⟨?_,hr⟩
 split
 ·trivial
 ·rw [ho]; simp only [aF,D2,hv]
theorem Xc {o:Oper}(ho:all[i]? = some o)(hd:Fp n o.dst=true)(hw:D2 all fr o=some true)
  (hx:Q.V m → ∀ (K:AV→List AD→Ab→AU→Prop) (U:AV→KT),(∀ v ds' h' u',Ei P all pre i h' pend→WP P f n d Q k all pre m plan pend (Fu fr o.dst v) ds' h' u'→K v ds' h' u') →
   (∀ v fr ds h u,(∀ fr',(∀ t,(all.any fun o=>o.dst==some t)=false→fr' t=fr t)→Sa P f n d (.pan v false) fr' ds h u (Q.Q m))→U v fr ds h u)→Ho P d U fr ds h u o.op K):WP P f n d Q k all pre m ((true,i)::plan) pend fr ds h u:=by
 intro hb K U hK
 simp only [J9,ho]
 refine⟨hd,?_⟩
 rw [hw]
 exact hx hb _ _ (fun v ds' h' u' hp hk=>⟨hp,hk hb K U hK⟩) (fun v fr ds h u hu fr' hf=>hK.unw _ _ _ _ _ (hu fr' fun t ht=>hf t fun o ho hq=>by
  have:=List.any_eq_false.1 ht o ho
  simp [hq] at this))
theorem Fj {t:Nat}{op:Op}(ho:all[i]? = some ⟨some t,op,ty,pos,after,none⟩)(ht:Nat.blt t n=true)(h1 : ∀ (K:AV→List AD→Ab→AU→Prop) (U:AV→KT),Ho P d U (Ag l) ds h u op K=C5 P (Ag l) h op (fun v h'=>K v ds h' u))
  (hx : ∀ K:AV→Ab→Prop,(∀ v h',Ei P all pre i h' pend→WP P f n d Q k all pre m plan pend (Ag ((t,v)::l)) ds h' u→K v h')→C5 P (Ag l) h op K) :
  WP P f n d Q k all pre m ((true,i)::plan) pend (Ag l) ds h u:=
 Xc ho (by simpa [Fp] using ht) rfl fun hb K U hK hU=>by
  rw [h1]
  exact hx _ fun v h' hp hw=>hK _ _ _ _ hp (by rw [Ey]; exact hw)
theorem Kq {op:Op}(ho:all[i]? = some ⟨none,op,ty,pos,after,none⟩)(h1 : ∀ (K:AV→List AD→Ab→AU→Prop) (U:AV→KT),Ho P d U (Ag l) ds h u op K=C5 P (Ag l) h op (fun v h'=>K v ds h' u))
  (hx : ∀ K:AV→Ab→Prop,(∀ v h',Ei P all pre i h' pend→WP P f n d Q k all pre m plan pend (Ag l) ds h' u→K v h')→C5 P (Ag l) h op K) :
  WP P f n d Q k all pre m ((true,i)::plan) pend (Ag l) ds h u:=
 Xc ho rfl rfl fun hb K U hK hU=>by
  rw [h1]
  exact hx _ fun v h' hp hw=>hK _ _ _ _ hp hw
theorem Nr {α:Type}{t:Nat}{x:Operand}{as0:List Operand}{ts:Array TypeId}{g:FuncId}{fst cap:List AV}{gd:Option (Nat×Bool)}(A:List AV){mg:R α}{e:α→AV}{rest:α→R γ}(ho:all[i]? = some ⟨some t,.call ⟨.value x,⟨as0⟩,ts⟩,ty,pos,after,gd⟩)(hw:D2 all (Ag l) ⟨some t,.call ⟨.value x,⟨as0⟩,ts⟩,ty,pos,after,gd⟩=some true)(ht:Nat.blt t n=true)(hx:ev (Ag l) x=.func (.func g) fst cap)
  (ha:fst++E4 (Ag l) as0++cap=A) (hc:mg≠.bad→Bm P g A h (Yi e h mg)) (hp : ∀ v,mg=.pan v → ∀ fr,(∀ t,(all.any fun o=>o.dst==some t)=false→fr t=Ag l t)→WU P f n d Q (.pan v) (.pan v.av false) fr ds h u) (hpd:Ei P all pre i h pend) (hk : ∀ a,mg=.ok a→WP P f n d Q k all pre ((rest a).bind F) plan pend (Ag ((t,e a)::l)) ds h u) :
  WP P f n d Q k all pre ((mg.bind rest).bind F) ((true,i)::plan) pend (Ag l) ds h u:=by
 refine Af7 (R.bind_assoc _ _ _) (Xc ho (by simpa [Fp] using ht) hw fun hb K U hK hU=>?_)
 simp only [Ho,hx]
 rw [ha]
 have hmb:mg≠.bad:=fun q=>by rw [q] at hb; exact Q.bad hb
 refine(hc hmb).mono fun r' h' hr=>?_
 obtain⟨rfl,hr⟩:=hr
 cases hm:mg with
 | bad=>exact absurd hm hmb
 | ok a=>
  rw [hm] at hr hb hK
  subst hr
  exact hK _ _ _ _ hpd (by rw [Ey]; exact hk a hm)
 | pan v=>
  rw [hm] at hr hb hU
  subst hr
  exact hU _ _ _ _ _ (fun fr' hf=>hp v hm fr' hf hb)
theorem Ai6 {α:Type}{h0:Ab}{ids:List Nat}{xs:List (Option AO)}{N t j st:Nat}{x:Operand}{as0:List Operand}{ts:Array TypeId}{g:FuncId}{fst cap:List AV}(A:List AV){mg:R (List α)}{e:α→List AV}{rest:List α→R γ}(ho:all[i]? = some ⟨some t,.call ⟨.value x,⟨as0⟩,ts⟩,ty,pos,after,none⟩)
  (hI:Ids h0 ids N) (hl:xs.length=N) (hjn:Nat.blt j N=true) (hj:xs[j]? = some none)
  (ht:Nat.blt t n=true) (hx:ev (Ag l) x=.func (.func g) fst cap) (ha:fst++E4 (Ag l) as0++cap=A) (hc:mg≠.bad→Bm P g A (hp h0 ids xs) (Aj9 st e (hp h0 ids xs) (ix ids j) mg))
  (hp' : ∀ v,mg=.pan v → ∀ fr,(∀ t,(all.any fun o=>o.dst==some t)=false→fr t=Ag l t)→WU P f n d Q (.pan v) (.pan v.av false) fr ds (hp h0 ids xs) u)
  (hk : ∀ a,mg=.ok a → ∀ v g',Bp v (ix ids j) g' a.length→Ei P all pre i (hp h0 ids (xs.set j (Bb v g' st (a.map e)))) pend∧WP P f n d Q k all pre ((rest a).bind F) plan pend (Ag ((t,v)::l)) ds (hp h0 ids (xs.set j (Bb v g' st (a.map e)))) u) :
  WP P f n d Q k all pre ((mg.bind rest).bind F) ((true,i)::plan) pend (Ag l) ds (hp h0 ids xs) u:=by
 refine Af7 (R.bind_assoc _ _ _) (Xc ho (by simpa [Fp] using ht) rfl fun hb K U hK hU=>?_)
 simp only [Ho,hx]
 rw [ha]
 have hmb:mg≠.bad:=fun q=>by rw [q] at hb; exact Q.bad hb
 refine(hc hmb).mono fun r' h' hr=>?_
 cases hm:mg with
 | bad=>exact absurd hm hmb
 | ok a=>
  rw [hm] at hr hb hK
  obtain⟨v,g',rfl,hv,rfl⟩:=hr
  rw [hI.set hl hjn]
  obtain⟨k1,k2⟩:=hk a hm v g' hv
  exact hK _ _ _ _ k1 (by rw [Ey]; exact k2)
 | pan v=>
  rw [hm] at hr hb hU
  obtain⟨rfl,rfl⟩:=hr
  exact hU _ _ _ _ _ (fun fr' hf=>hp' v hm fr' hf hb)
theorem Gc {t j tj:Nat}{want:Bool}{op:Op}(v:AV)(ho:all[i]? = some ⟨some t,op,ty,pos,after,some (j,want)⟩)(hj:(all[j]?).bind (·.dst)=some tj)(hg:Ag l tj=.bool want)(ht:Nat.blt t n=true)(hv:Dy P (Ag l) h op=some v)
  (hk:WP P f n d Q k all pre m plan ((i,Ag l,v)::pend) (Ag ((t,v)::l)) ds h u):WP P f n d Q k all pre m ((false,i)::plan) pend (Ag l) ds h u:=by
 intro hb K U hK
 simp only [J9,ho]
 refine⟨by simpa [Fp] using ht,?_⟩
 have e:aF P all (Ag l) h ⟨some t,op,ty,pos,after,some (j,want)⟩=some v:=by simp only [aF,Aci hj hg,beq_self_eq_true,hv]
 rw [e]
 simp only [Ey]
 exact hk hb K U hK
theorem Ari {o:Oper}(ho:all[i]? = some o)(hd:Fp n o.dst=true)(hw:D2 all fr o=some false)(hk:WP P f n d Q k all pre m plan pend (Fu fr o.dst .und) ds h u):WP P f n d Q k all pre m ((true,i)::plan) pend fr ds h u:=by
 intro hb K U hK
 simp only [J9,ho]
 refine⟨hd,?_⟩
 rw [hw]
 exact hk hb K U hK
theorem Eu {b:Bool}{A B:R γ}(ht:b=true→WP P f n d Q k all pre (A.bind F) plan pend fr ds h u)(hf:b=false→WP P f n d Q k all pre (B.bind F) plan pend fr ds h u):WP P f n d Q k all pre ((if b then A else B).bind F) plan pend fr ds h u:=by
 intro hb
 cases hq:b with
 | true=>simp only [hq,if_true] at hb ⊢; exact ht hq hb
 | false=>simp only [hq,Bool.false_eq_true,if_false] at hb ⊢; exact hf hq hb
end
section
variable {P:Program} [GW P] {f:FuncId} {n:Nat} {α:Type} {m:R (List α)} {e:α→List AV} {st:Nat}
def Aiu {α:Type}(st:Nat)(e:α→List AV)(h:Ab)(o:Nat):Spec (List α):=⟨fun m=>m≠.bad,fun h=>h rfl,fun m r h' _=>Aj9 st e h o m r h'⟩
theorem N5 {fn : Func} {c : Code} {args : List AV} (N : Nat) (hf : P.funcs[f]? = some fn) (hb : fn.body = some c) (hn : fn.name ≠ "runtime.NumGoroutine") (hnt : fn.ntmps = n) (hl : Nat.ble args.length n = true)
  (hr : ∀ (h0 : Ab) (ids : List Nat), Ids h0 ids (N + 1) → WR P f n false (Aiu st e h0 (ix ids 0)) m [.code c] (Ag (Yn 0 args)) [] (hp h0 ids (List.replicate (N + 1) none)) .ret) : CPO P f args m st e := by
 intro h o ho hb'
 refine R7 hf hb hn hnt (by simpa using hl) ?_
 refine Acq N [o] fun os h1 h2 h3 h4 => ?_
 have hI : Ids h (o :: os) (N + 1) := ⟨List.nodup_cons.2 ⟨fun hm => h4 _ hm (List.mem_singleton.2 rfl), h2⟩, fun p hp => by
  rcases List.mem_cons.1 hp with rfl | hp
  ·exact ho
  ·exact h3 p hp, by simp [h1]⟩
 have := hr h (o :: os) hI hb'
 rw [Rh hI.fresh] at this
 refine T0 (fun t => ?_) this
 rcases Ui args 0 t with h | ⟨_, h⟩
 ·exact .inl h
 ·exact .inr h
section
variable {h0:Ab} {ids:List Nat} {x:Option AO} {xs ys:List (Option AO)} {N:Nat} {l:List (Nat×AV)} {k:List Item} {u:AU}
theorem Atx {fn:Func}{a:List α}{v:AV}{g:Nat}(hf:P.funcs[f]? = some fn)(hI:Ids h0 ids N)(hl:(x::xs).length=N)(hr:J3 P (hp h0 ids (x::xs)) (Ag l) fn.results.toList=some [v])(hv:Bp v (ix ids 0) g a.length)(hx:x=Bb v g st (a.map e)) :
  WU P f n false (Aiu st e h0 (ix ids 0)) (.ok a) .ret (Ag l) [] (hp h0 ids (x::xs)) u:=fun _=>by
 have hlen:ids.length=xs.length+1:=by rw [hI.len,← hl]; rfl
 obtain⟨o,os,rfl⟩ : ∃ o os,ids=o::os:=by
  cases ids with
  | nil=>simp at hlen
  | cons o os=>exact⟨o,os,rfl⟩
 have e1:hp h0 (o::os) (x::List.replicate xs.length none)=upd h0 o x:=by
  simp only [hp]
  rw [Rh fun p hp=>hI.fresh p (List.mem_cons_of_mem _ hp)]
 have hs:G4 (upd h0 o x) (hp h0 (o::os) (x::xs)):=by
  rw [← e1]
  refine Aqh (by simpa using hlen) (by simpa using hlen) hI.nodup hI.fresh fun j=>?_
  cases j with
  | zero=>exact .inl rfl
  | succ j=>
   simp only [List.getElem?_cons_succ]
   by_cases hj:j<xs.length
   ·right; simp [hj]
   ·left; rw [List.getElem?_eq_none (by simpa using hj),List.getElem?_eq_none (by simpa using hj)]
 refine Ad5 hf hr hs (.same _) rfl ?_
 exact⟨v,g,rfl,hv,by rw [hx]; rfl⟩
theorem Np {fn:Func}{a:List α}{v:AV}{g:Nat}(hf:P.funcs[f]? = some fn)(hI:Ids h0 ids N)(hl:(x::xs).length=N)(hr:J3 P (hp h0 ids (x::xs)) (Ag l) fn.results.toList=some [v])(hv:Bp v (ix ids 0) g a.length)(hx:x=Bb v g st (a.map e)) :
  WR P f n false (Aiu st e h0 (ix ids 0)) (.ok a) (.code .ret::k) (Ag l) [] (hp h0 ids (x::xs)) u:=fun hV=>Ys (Atx hf hI hl hr hv hx hV)
theorem Wq {fn:Func}{v:PV}{fr:Nat→AV}{xs:List (Option AO)}{o:Nat}(hf:P.funcs[f]? = some fn)(hI:Ids h0 ids N):WU P f n false (Aiu st e h0 o) (.pan v) (.pan v.av false) fr [] (hp h0 ids xs) u:=fun _=>
 Aev hf (hI.sub xs) (.same _) ⟨rfl,rfl⟩
end
theorem CPO.cp {args:List AV}(hc:CPO P f args m st e)(hr : ∀ x,Cm st (e x)):CP P f args m (fun a=>.sl st (a.map e)):=by
 intro h hb
 have hbody:Sz P f:=by
  have:=hc hE 0 rfl hb
  exact this.1
 refine⟨hbody,fun B mu w cargs s ha=>?_⟩
 obtain⟨o,ho⟩ : ∃ o,h o=none:=by
  obtain⟨N,hN⟩:=s.finh
  exact⟨N,hN N (Nat.le_refl _)⟩
 have:=(hc h o ho hb).drop (Q':=fun r h'=>Yi (fun a=>AV.sl st (a.map e)) h m r h'∨Aj9 st e h o m r h') (fun r h' hq=>⟨h',G4.refl _,.inr hq⟩)
 refine((hc h o ho hb).2 B mu w cargs s ha).mono ?_
 rintro en w' ⟨r,h',mu',hq,hs,hext,hE'⟩
 cases hm:m with
 | bad=>exact absurd hm hb
 | pan v=>
  rw [hm] at hq
  obtain⟨rfl,rfl⟩:=hq
  exact⟨_,h',mu',⟨rfl,rfl⟩,hs,hext,hE'⟩
 | ok a=>
  rw [hm] at hq
  obtain⟨v,g,rfl,hv,rfl⟩:=hq
  have hsub:G4 h (upd h o (Bb v g st (a.map e))):=Amv ho
  have hfz:Fz (upd h o (Bb v g st (a.map e))) h v (.sl st (a.map e)):=E5 hv (by simp [upd]) ho hr
  refine⟨.ret (.sl st (a.map e)),h,mu',⟨rfl,rfl⟩,hs.sub hsub,hext.trans (Da.sub hsub),?_⟩
  cases en with
  | returned c=>exact J2 hs hsub hfz hE'
  | panicked _=>exact hE'.elim
  | outgrown=>exact hE'.elim
end
theorem Ag2 {P:Program}[GW P]{f:FuncId}{n:Nat}{d:FK}{β:Type}{Q:Spec β}{m:R β}{ds:List AD}{h:Ab}{u:AU}{k:List Item}{l:List (Nat×AV)}{all r:List Oper}{ty ty2:TypeId}{pos:String}{after:Array Edge}{t:Nat}{x:Operand}{T et:TypeId}{a b st:Nat}{z:List AV}{α:Type}{e:α→List AV}{L:List α}
  (ht:Nat.blt t n=true) (hT:ti P T=some ⟨.sl et,a,b,z⟩) (hx:ev (Ag l) x=.sl st (L.map e)) (hk : ∀ c,(c=true→L=[])→WO P f n d Q k all m r (Ag ((t,.bool c)::l)) ds h u) :
  WO P f n d Q k all m (⟨some t,.binOp .eql T x (.const (.slice none 0 0)) ty2,ty,pos,after,none⟩::r) (Ag l) ds h u:=
 K6 ht (fun _ _=>rfl) fun K hK=>by
  simp only [C5]
  refine⟨by rw [hx]; rfl,?_⟩
  simp only [Te,Qn,if_true,hT,hx]
  intro c hc
  refine hK _ _ (hk c fun hct=>?_)
  subst hct
  cases L with
  | nil=>rfl
  | cons y L=>exact absurd (hc (by simp)) (by simp)
def mE {K V:Type}(eK:K→AV)(eV:V→AV)(m:List (K×V)):List (AV×AV):=m.map fun p=>(eK p.1,eV p.2)
structure KeyE (T:TK){K:Type}[DecidableEq K](eK:K→AV):Prop where
 ok : ∀ k,Zy T (eK k)=true
 eq : ∀ a b,Tr T (eK a) (eK b)=some (decide (a=b))
theorem Fq {k:IntKind}:KeyE (.int k) (fun n:Int=>AV.int k n):=⟨fun n=>by simp [Zy],fun a b=>by simp only [Tr,if_true]; congr 1⟩
section
variable {K V:Type} [DecidableEq K] {T:TK} {eK:K→AV} {eV:V→AV}
theorem Acw (hk:KeyE T eK)(k:K) : ∀ (m:List (K×V)) (i:Nat),∃ r,Og T (eK k) (mE eK eV m) i=some r ∧
  ((r=none∧Bv m k=none ∧ ∀ w,mE eK eV m++[(eK k,eV w)]=mE eK eV (H3 m k w)) ∨ ∃ j v,r=some (i+j,eV v)∧Bv m k=some v ∧ ∀ w,(mE eK eV m).set j (eK k,eV w)=mE eK eV (H3 m k w))
 | [],i=>⟨none,rfl,.inl ⟨rfl,rfl,fun w=>rfl⟩⟩
 | (a,v)::m,i=>by
  have e1:Og T (eK k) (mE eK eV ((a,v)::m)) i=if k=a then some (some (i,eV v)) else Og T (eK k) (mE eK eV m) (i+1):=by
   simp only [mE,List.map_cons,Og,hk.eq]
   by_cases h:k=a <;> simp [h]
  rw [e1]
  by_cases h:k=a
  ·subst h
   refine⟨some (i,eV v),by rw [if_pos rfl],.inr ⟨0,v,rfl,by simp [Bv],fun w=>?_⟩⟩
   simp [mE,H3]
  ·rw [if_neg h]
   obtain⟨r,h1,h2⟩:=Acw hk k m (i+1)
   have hne:(a==k)=false:=by simpa using fun q=>h q.symm
   refine⟨r,h1,?_⟩
   rcases h2 with⟨rfl,h3,h4⟩ | ⟨j,w,rfl,h3,h5⟩
   ·refine .inl ⟨rfl,?_,fun w=>?_⟩
    ·simp only [Bv,List.find?_cons,hne] at h3 ⊢; exact h3
    ·have:=h4 w
     simp only [mE,List.map_cons,List.cons_append,H3,hne,Bool.false_eq_true,if_false] at this ⊢
     rw [this]
   ·refine .inr ⟨j+1,w,by rw [Nat.add_assoc,Nat.add_comm 1 j],?_,fun x=>?_⟩
    ·simp only [Bv,List.find?_cons,hne] at h3 ⊢; exact h3
    ·have:=h5 x
     simp only [mE,List.map_cons,List.set_cons_succ,H3,hne,Bool.false_eq_true,if_false] at this ⊢
     rw [this]
theorem Po {P:Program}[GW P]{h:Ab}{t kt et:TypeId}{a b:Nat}{z:List AV}{KT ET:TI}{v:AV}{m:List (K×V)}{k:K}{zv:V}(hm:W9 h v=some (mE eK eV m))(hT:ti P t=some ⟨.map kt et,a,b,z⟩)(hK:ti P kt=some KT)(hE:ti P et=some ET)(hk:KeyE KT.k eK)(hz:Hh ET.z 0 ET.size ET.k.agg=some (eV zv)) :
  O6 P h t v (eK k) false=some (eV ((Bv m k).getD zv))∧O6 P h t v (eK k) true=some (.tup [eV ((Bv m k).getD zv),.bool (Bv m k).isSome]):=by
 obtain⟨r,h1,h2⟩:=Acw (eV:=eV) hk k m 0
 simp only [O6,hT,hK,hE,hm,hk.ok,if_true,h1]
 rcases h2 with⟨rfl,h3,_⟩ | ⟨j,w,rfl,h3,_⟩
 ·simp [hz,h3]
 ·simp [h3]
theorem Ate {P:Program}[GW P]{h:Ab}{t kt et:TypeId}{a b o g:Nat}{z:List AV}{KT:TI}{m:List (K×V)}{k:K}{w:V}(ho:h o=some (.mp g (mE eK eV m)))(hT:ti P t=some ⟨.map kt et,a,b,z⟩)(hK:ti P kt=some KT)(hk:KeyE KT.k eK) :
  Rw P h t (.map o g) (eK k) (eV w)=some (upd h o (some (.mp g (mE eK eV (H3 m k w))))):=by
 obtain⟨r,h1,h2⟩:=Acw (eV:=eV) hk k m 0
 simp only [Rw,hT,hK,ho,hk.ok,and_self,if_true,h1]
 rcases h2 with⟨rfl,_,h3⟩ | ⟨j,w',rfl,_,h3⟩
 ·simp only [h3]
 ·simp only [Nat.zero_add,h3]
end
theorem P0 {K V:Type}{eK:K→AV}{eV:V→AV}{h:Ab}{o g:Nat}{m:List (K×V)}(ho:h o=some (.mp g (mE eK eV m))):W9 h (.map o g)=some (mE eK eV m):=by simp only [W9,ho,if_true]
section
variable {P:Program} [GW P] {f:FuncId} {n:Nat} {d:FK} {β γ:Type} {Q:Spec β} {m:R β} {ds:List AD} {h:Ab} {u:AU} {k:List Item} {l:List (Nat×AV)} {F:γ→R β}
variable {all r:List Oper} {ty:TypeId} {pos:String} {after:Array Edge} {h0:Ab} {ids:List Nat} {xs:List (Option AO)} {N j:Nat}
theorem Alw {fr:Nat→AV}{t:TypeId}{K:AV→Ab→Prop}(hI:Ids h0 ids N)(hl:xs.length=N)(hjn:Nat.blt j N=true)(hj:xs[j]? = some none)(hk : ∀ g,K (.map (ix ids j) g) (hp h0 ids (xs.set j (some (.mp g []))))):C5 P fr (hp h0 ids xs) (.makeMap t none) K:=by
 simp only [C5,true_and]
 refine Akw (ix ids j) (hI.at hl hj) fun g=>?_
 rw [hI.set hl hjn]
 exact hk g
theorem Wi {t:Nat}{mt:TypeId}(hI:Ids h0 ids N)(hl:xs.length=N)(hjn:Nat.blt j N=true)(hj:xs[j]? = some none)(ht:Nat.blt t n=true)
  (hk : ∀ g,WO P f n d Q k all m r (Ag ((t,.map (ix ids j) g)::l)) ds (hp h0 ids (xs.set j (some (.mp g [])))) u):WO P f n d Q k all m (⟨some t,.makeMap mt none,ty,pos,after,none⟩::r) (Ag l) ds (hp h0 ids xs) u:=
 K6 ht (fun _ _=>rfl) fun K hK=>Alw hI hl hjn hj fun g=>hK _ _ (hk g)
theorem Aib {K' V':Type}[DecidableEq K']{eK:K'→AV}{eV:V'→AV}{fr:Nat→AV}{t kt et:TypeId}{a b g:Nat}{z:List AV}{KT:TI}{M:List (K'×V')}{ky:K'}{w:V'}{xm xk xv:Operand}{K:AV→Ab→Prop}(hI:Ids h0 ids N)(hl:xs.length=N)(hjn:Nat.blt j N=true)
  (hj:xs[j]? = some (some (.mp g (mE eK eV M)))) (h1:ev fr xm=.map (ix ids j) g) (h2:ev fr xk=eK ky) (h3:ev fr xv=eV w) (hT:ti P t=some ⟨.map kt et,a,b,z⟩) (hK:ti P kt=some KT) (hk:KeyE KT.k eK)
  (hk':K .und (hp h0 ids (xs.set j (some (.mp g (mE eK eV (H3 M ky w))))))):C5 P fr (hp h0 ids xs) (.mapUpdate t xm xk xv) K:=by
 simp only [C5,h1,h2,h3,Ate (hI.at hl hj) hT hK hk,hI.set hl hjn]
 exact hk'
theorem Pd {K' V':Type}[DecidableEq K']{eK:K'→AV}{eV:V'→AV}{t kt et:TypeId}{a b g:Nat}{z:List AV}{KT:TI}{M:List (K'×V')}{ky:K'}{w:V'}{xm xk xv:Operand}(hI:Ids h0 ids N)(hl:xs.length=N)(hjn:Nat.blt j N=true)
  (hj:xs[j]? = some (some (.mp g (mE eK eV M)))) (h1:ev (Ag l) xm=.map (ix ids j) g) (h2:ev (Ag l) xk=eK ky) (h3:ev (Ag l) xv=eV w) (hT:ti P t=some ⟨.map kt et,a,b,z⟩) (hK:ti P kt=some KT) (hk:KeyE KT.k eK)
  (hk':WO P f n d Q k all m r (Ag l) ds (hp h0 ids (xs.set j (some (.mp g (mE eK eV (H3 M ky w)))))) u):WO P f n d Q k all m (⟨none,.mapUpdate t xm xk xv,ty,pos,after,none⟩::r) (Ag l) ds (hp h0 ids xs) u:=
 Aq5 (fun _ _=>rfl) fun K hK'=>Aib hI hl hjn hj h1 h2 h3 hT hK hk (hK' _ _ hk')
end
theorem Fz.funcL {h h2:Ab}{fn:Fn}{f c f' c':List AV}(hf:LF h h2 f f')(hc:LF h h2 c c'):Fz h h2 (.func fn f c) (.func fn f' c'):=.func fn f c f' c' hf.all.1 hc.all.1 hf.all.2 hc.all.2
theorem Fz.ptrL {h h2:Ab}{o g st c:Nat}{row row':List AV}(ho:h o=some (.rows g st [row]))(h2o:h2 o=none)(hl:row'.length=st)(hx:LF h h2 row row'):Fz h h2 (.ptr o g 0 c) (.cp row' c):=
 .ptr o g 0 c st [row] row' ho h2o (by simp) hl (fun j hj=>by
  have:=hx.all.2 j (by rw [hx.all.1,hl]; exact hj)
  simpa [cell] using this)
theorem Bp.flat {v:AV}{o g n:Nat}(h:Bp v o g n):v.flat=true:=by rcases h with⟨rfl,_⟩ | rfl <;> rfl
theorem Bp.ok {v:AV}{o g n:Nat}(h:Bp v o g n):v.ok=true:=by rcases h with⟨rfl,_⟩ | rfl <;> rfl
theorem Bp.cells {v:AV}{o g n:Nat}(h:Bp v o g n):v.cells=[v]:=by rcases h with⟨rfl,_⟩ | rfl <;> rfl
theorem Uv {P:Program}[GW P]{h0:Ab}{ids:List Nat}{xs:List (Option AO)}{N:Nat}{t:TypeId}{T:TI}{g st rr c j o g' n':Nat}{rs:List (List AV)}{row:List AV}{v:AV}(hv:Bp v o g' n')(hI:Ids h0 ids N)(hl:xs.length=N)(hjn:Nat.blt j N=true)(hj:xs[j]? = some (some (.rows g st rs)))(hr:rs[rr]? = some row)(hT:ti P t=some T)
  (hlen:Nat.beq 1 T.size=true) (hc:Nat.ble (c+T.size) st=true) (hrl:row.length=st) :
  O7 P (hp h0 ids xs) t (.ptr (ix ids j) g rr c) v=some (hp h0 ids (xs.set j (some (.rows g st (rs.set rr (R3 row c [v])))))):=by
 have:=J7 (P:=P) (v:=v) hI hl hjn hj hr hT hv.ok (by rw [hv.cells]; exact Nat.eq_of_beq_eq_true hlen) hc hrl (by rw [hv.cells]; simp [hv.flat])
 rw [hv.cells] at this
 exact this
theorem Aes:([]:List AV).all AV.flat=true:=rfl
theorem Ff {a:AV}{l:List AV}(h:a.flat=true)(hl:l.all AV.flat=true):(a::l).all AV.flat=true:=by simp [h,hl]
end Go.Am
namespace Go.Am
open Go
set_option linter.unusedSimpArgs false
set_option linter.unusedVariables false
set_option linter.unusedSectionVars false
section
variable {P:Program} [GW P] {f:FuncId} {n:Nat} {α:Type} {e:α→AV} {hdl:PV→R α} {h0:Ab} {ids:List Nat} {N:Nat} {xs:List (Option AO)} {l:List (Nat×AV)} {k:List Item}
theorem Ids.take {ids:List Nat}(hI:Ids h0 ids N){c:Nat}(hc:Nat.ble c N=true):Ids h0 (ids.take c) c:=
 ⟨hI.nodup.sublist (List.take_sublist _ _),fun o ho=>hI.fresh o (List.mem_of_mem_take ho),by
  have:c≤N:=by simpa using hc
  rw [List.length_take,hI.len]; omega⟩
end
theorem Ahl : ∀ (row cs:List AV),row.length=cs.length→Ux row cs=cs
 | [],[],_=>rfl
 | a::row,c::cs,h=>by simp [Ux,Ahl row cs (by simpa using h)]
theorem D5 {P:Program}[GW P]{h0:Ab}{ids:List Nat}{xs:List (Option AO)}{N:Nat}{t:TypeId}{T:TI}{g st j:Nat}{row:List AV}{v:AV}(hI:Ids h0 ids N)(hl:xs.length=N)(hjn:Nat.blt j N=true)(hj:xs[j]? = some (some (.rows g st [row])))(hT:ti P t=some T)
  (hok:v.ok=true) (hlen:v.cells.length=T.size) (hc:Nat.beq T.size st=true) (hrl:row.length=st) (hfl:v.cells.all AV.flat=true) :
  O7 P (hp h0 ids xs) t (.ptr (ix ids j) g 0 0) v=some (hp h0 ids (xs.set j (some (.rows g st [v.cells])))):=by
 have hs:=Nat.eq_of_beq_eq_true hc
 have:=J7 (P:=P) (rr:=0) (c:=0) (v:=v) hI hl hjn hj rfl hT hok hlen (by rw [Nat.zero_add,hs]; simp) hrl hfl
 rw [this]
 have e:R3 row 0 v.cells=v.cells:=by
  have:=Ahl row v.cells (by rw [hrl,hlen,hs])
  cases row <;> simpa [R3] using this
 rw [e]
 rfl
end Go.Am
