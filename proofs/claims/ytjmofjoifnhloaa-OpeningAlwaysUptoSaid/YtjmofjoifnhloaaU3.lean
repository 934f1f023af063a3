/- Written by shrink.py from texts of ours: comments struck, what is not reached left out, names short. -/
import Derived.Test.YtjmofjoifnhloaaU2
import Derived.WalkKit
import Derived.ProofKit
import Derived.OpenShut
import Derived.JoinedCond
import Derived.WideKeyArgs
namespace Go.Am
open Go
set_option linter.unusedSimpArgs false
set_option linter.unusedVariables false
set_option linter.unusedSectionVars false
inductive Sc where
 | int (k:IntKind) (n:Int)
 | str (s:List UInt8)
 | bool (b:Bool)
 | unit
 | two (k1 k2:IntKind) (a b:Int)
 | one (k:IntKind) (a:Int)
 deriving DecidableEq
def Sc.av:Sc→AV
 | .int k n=>.int k n
 | .str s=>.str s
 | .bool b=>.bool b
 | .unit=>.agg []
 | .two k1 k2 a b=>.agg [.int k1 a,.int k2 b]
 | .one k a=>.agg [.int k a]
structure PV where
 t:TypeId
 x:Sc
 deriving DecidableEq
def PV.av (v:PV):AV:=.iface v.t v.x.av
inductive R (α:Type) where
 | ok (a:α)
 | pan (v:PV)
 | bad
 deriving DecidableEq
namespace R
def bind {α β:Type}:R α→(α→R β)→R β
 | ok a,f=>f a
 | pan v,_=>pan v
 | bad,_=>bad
@[simp] theorem ok_bind {α β:Type}(a:α)(f:α→R β):(ok a).bind f=f a:=rfl
@[simp] theorem Adi {α β:Type}(v:PV)(f:α→R β):(pan v:R α).bind f=pan v:=rfl
@[simp] theorem Ady {α β:Type}(f:α→R β):(bad:R α).bind f=bad:=rfl
theorem bind_assoc {α β γ:Type}(m:R α)(f:α→R β)(g:β→R γ):(m.bind f).bind g=m.bind fun a=>(f a).bind g:=by cases m <;> rfl
@[simp] theorem bind_ok {α:Type}(m:R α):m.bind ok=m:=by cases m <;> rfl
def catch' {α:Type}:R α→(PV→R α)→R α
 | ok a,_=>ok a
 | pan v,f=>f v
 | bad,_=>bad
@[simp] theorem Ac4 {α:Type}(a:α)(f:PV→R α):(ok a).catch' f=ok a:=rfl
@[simp] theorem Acz {α:Type}(v:PV)(f:PV→R α):(pan v).catch' f=f v:=rfl
@[simp] theorem Ac1 {α:Type}(f:PV→R α):(bad:R α).catch' f=bad:=rfl
end R
section
variable {σ ε:Type}
def Dn (body:σ→R (σ ⊕ ε)):Nat→σ→R ε
 | 0,_=>.bad
 | n+1,s=>(body s).bind fun
  | .inl s'=>Dn body n s'
  | .inr e=>.ok e
theorem So (body:σ→R (σ ⊕ ε)) : ∀ (n:Nat) (s:σ),Dn body n s≠.bad→Dn body (n+1) s=Dn body n s
 | 0,s,h=>absurd rfl h
 | n+1,s,h=>by
  rw [Dn]
  rw [Dn] at h ⊢
  cases hb:body s with
  | bad=>rfl
  | pan v=>rfl
  | ok x=>
   rw [hb] at h
   cases x with
   | inr e=>rfl
   | inl s'=>exact So body n s' h
theorem Wp (body:σ→R (σ ⊕ ε)){n m:Nat}{s:σ}(hnm:n≤m)(h:Dn body n s≠.bad):Dn body m s=Dn body n s:=by
  induction m with
  | zero => have : n = 0 := by omega
            subst this; rfl
  | succ m ih=>
    by_cases hq:n=m+1
    · subst hq; rfl
    · have e:=ih (by omega)
      rw [So body m s (by rw [e]; exact h),e]
open Classical in
noncomputable def loop (body : σ → R (σ ⊕ ε)) (s : σ) : R ε := if h : ∃ n, Dn body n s ≠ .bad then Dn body (Classical.choose h) s else .bad
theorem J0 {body:σ→R (σ ⊕ ε)}{n:Nat}{s:σ}(h:Dn body n s≠.bad):loop body s=Dn body n s:=by
 have hex : ∃ n,Dn body n s≠.bad:=⟨n,h⟩
 unfold loop
 rw [dif_pos hex]
 have hc:=Classical.choose_spec hex
 rcases Nat.le_total n (Classical.choose hex) with hle | hle
 ·exact Wp body hle h
 ·exact(Wp body hle hc).symm
theorem Ng {body:σ→R (σ ⊕ ε)}{s:σ}(h:loop body s≠.bad) : ∃ n,loop body s=Dn body n s:=by
 by_cases hex : ∃ n,Dn body n s≠.bad
 ·obtain⟨n,hn⟩:=hex; exact⟨n,J0 hn⟩
 ·exfalso; apply h; unfold loop; rw [dif_neg hex]
theorem Jo (body:σ→R (σ ⊕ ε))(s:σ):loop body s=(body s).bind fun
  | .inl s'=>loop body s'
  | .inr e=>.ok e:=by
 cases hb:body s with
 | pan v=>
  have:Dn body 1 s=.pan v:=by rw [Dn,hb]; rfl
  rw [J0 (n:=1) (by rw [this]; simp),this]; rfl
 | bad=>
  by_cases h:loop body s=.bad
  ·rw [h]; rfl
  ·obtain⟨n,hn⟩:=Ng h
   cases n with
   | zero=>rw [hn] at h; exact absurd rfl h
   | succ n=>rw [hn,Dn,hb]; rfl
 | ok x=>
  cases x with
  | inr e=>
   have:Dn body 1 s=.ok e:=by rw [Dn,hb]; rfl
   rw [J0 (n:=1) (by rw [this]; simp),this]; rfl
  | inl s'=>
   simp only [R.ok_bind]
   by_cases h':loop body s'=.bad
   ·rw [h']
    by_cases h:loop body s=.bad
    ·exact h
    ·exfalso
     obtain⟨n,hn⟩:=Ng h
     cases n with
     | zero=>rw [hn] at h; exact absurd rfl h
     | succ n=>
      have e:Dn body (n+1) s=Dn body n s':=by rw [Dn,hb]; rfl
      rw [hn,e] at h
      rw [J0 h] at h'
      exact h h'
   ·obtain⟨n,hn⟩:=Ng h'
    have e:Dn body (n+1) s=Dn body n s':=by rw [Dn,hb]; rfl
    rw [hn] at h'
    rw [hn,← e,J0 (n:=n+1) (by rw [e]; exact h')]
end
section
variable {α σ ε:Type}
def each (body:Nat→α→σ→R (σ ⊕ ε)):Nat→List α→σ→R (σ ⊕ ε)
 | _,[],s=>.ok (.inl s)
 | k,a::l,s=>(body k a s).bind fun
  | .inl s'=>each body (k+1) l s'
  | .inr e=>.ok (.inr e)
@[simp] theorem Z2 (body:Nat→α→σ→R (σ ⊕ ε))(k:Nat)(s:σ):each body k [] s=.ok (.inl s):=rfl
theorem J2 (body:Nat→α→σ→R (σ ⊕ ε))(k:Nat)(a:α)(l:List α)(s:σ):each body k (a::l) s=(body k a s).bind fun
  | .inl s'=>each body (k+1) l s'
  | .inr e=>.ok (.inr e):=rfl
end
def Hm {α:Type}(l:List α)(n:Int):R α:=if 0≤n then(match l[n.toNat]? with | some a=>.ok a | none=>.bad) else .bad
def Ae:List (Nat×AV)→Nat→AV
 | [],_=>.any
 | p::l,t=>bif Nat.beq t p.1 then p.2 else Ae l t
theorem C0 (l:List (Nat×AV))(t:Nat)(v:AV):Dh (Ae l) (some t) v=Ae ((t,v)::l):=by
 funext s
 simp only [Dh,upd,Ae]
 by_cases h:s=t
 ·subst h; simp
 ·have:Nat.beq s t=false:=by
   cases hq:Nat.beq s t with
   | false=>rfl
   | true=>exact absurd (Nat.eq_of_beq_eq_true hq) h
  rw [if_neg h,this]; rfl
def hp (h0:O):List Nat→List (Option AO)→O
 | o::os,x::xs=>upd (hp h0 os xs) o x
 | _,_=>h0
structure Ids (h0:O)(ids:List Nat)(n:Nat):Prop where
 nodup:ids.Nodup
 fresh : ∀ o ∈ ids,h0 o=none
 len:ids.length=n
abbrev ix (ids:List Nat)(j:Nat):Nat:=ids.getD j 0
section
variable {h0:O} {n:Nat}
theorem J9 : ∀ {ids:List Nat} {xs:List (Option AO)} {o:Nat},o ∉ ids→hp h0 ids xs o=h0 o
 | [],_,o,_=>by cases ‹List (Option AO)› <;> rfl
 | a::ids,[],o,_=>rfl
 | a::ids,x::xs,o,h=>by
  simp only [List.mem_cons,not_or] at h
  simp only [hp]
  rw [P9 _ _ _ h.1]
  exact J9 h.2
theorem Z8 : ∀ {ids:List Nat} {xs:List (Option AO)} {j:Nat} {x:Option AO},ids.Nodup→ids.length=xs.length→xs[j]? = some x→hp h0 ids xs (ix ids j)=x
 | [],[],j,x,_,_,h=>by simp at h
 | a::ids,y::xs,0,x,_,_,h=>by
  have:y=x:=by simpa using h
  subst this
  simp [hp,ix,Ue]
 | a::ids,y::xs,j+1,x,hn,hl,h=>by
  have hn':=List.nodup_cons.1 hn
  have hl':ids.length=xs.length:=by simpa using hl
  have h':xs[j]? = some x:=by simpa using h
  have hj:j<ids.length:=by
   rw [hl']
   rcases Nat.lt_or_ge j xs.length with hh | hh
   ·exact hh
   ·rw [List.getElem?_eq_none hh] at h'; cases h'
  have hm:ix ids j ∈ ids:=by
   simp only [ix,List.getD,List.getElem?_eq_getElem hj,Option.getD_some]
   exact List.getElem_mem hj
  have e:ix (a::ids) (j+1)=ix ids j:=by simp [ix]
  rw [e]
  simp only [hp]
  have hne:ix ids j≠a:=fun q=>hn'.1 (by rw [← q]; exact hm)
  rw [P9 _ _ _ hne]
  exact Z8 hn'.2 hl' h'
theorem Xy : ∀ {ids:List Nat} {xs:List (Option AO)} {j:Nat} {x:Option AO},ids.Nodup→ids.length=xs.length→j<xs.length→upd (hp h0 ids xs) (ix ids j) x=hp h0 ids (xs.set j x)
 | [],[],j,x,_,_,h=>by simp at h
 | a::ids,y::xs,0,x,_,_,h=>by
  simp only [hp,ix,List.getD_cons_zero,List.set_cons_zero,Aa5]
 | a::ids,y::xs,j+1,x,hn,hl,h=>by
  have hn':=List.nodup_cons.1 hn
  have hl':ids.length=xs.length:=by simpa using hl
  have h':j<xs.length:=by simpa using h
  have hm:ix ids j ∈ ids:=by
   simp only [ix,List.getD,List.getElem?_eq_getElem (hl' ▸ h':j<ids.length),Option.getD_some]
   exact List.getElem_mem _
  have e:ix (a::ids) (j+1)=ix ids j:=by simp [ix]
  rw [e]
  simp only [hp,List.set_cons_succ]
  have hne:a≠ix ids j:=fun q=>hn'.1 (by rw [q]; exact hm)
  rw [Yy _ _ _ hne,Xy hn'.2 hl' h']
theorem Ids.at {ids:List Nat}(hI:Ids h0 ids n){xs:List (Option AO)}{j:Nat}{x:Option AO}(hl:xs.length=n)(hx:xs[j]? = some x):hp h0 ids xs (ix ids j)=x:=Z8 hI.nodup (hI.len.trans hl.symm) hx
theorem Ids.set {ids:List Nat}(hI:Ids h0 ids n){xs:List (Option AO)}{j:Nat}{x:Option AO}(hl:xs.length=n)(hj:Nat.blt j n=true):upd (hp h0 ids xs) (ix ids j) x=hp h0 ids (xs.set j x):=
 Xy hI.nodup (hI.len.trans hl.symm) (by rw [hl]; simpa using hj)
theorem Ids.sub {ids:List Nat}(hI:Ids h0 ids n)(xs:List (Option AO)):Dl h0 (hp h0 ids xs):=by
 intro o x hx
 have:o ∉ ids:=fun hm=>by rw [hI.fresh o hm] at hx; cases hx
 rw [J9 this]; exact hx
theorem Ids.out {ids:List Nat}(hI:Ids h0 ids n){j:Nat}(hj:Nat.blt j n=true):h0 (ix ids j)=none:=by
 have hj':j<ids.length:=by rw [hI.len]; simpa using hj
 refine hI.fresh _ ?_
 simp only [ix,List.getD,List.getElem?_eq_getElem hj',Option.getD_some]
 exact List.getElem_mem _
theorem Gr : ∀ {ids:List Nat} {k:Nat},(∀ o ∈ ids,h0 o=none)→hp h0 ids (List.replicate k none)=h0
 | [],k,_=>by cases k <;> rfl
 | a::ids,0,_=>rfl
 | a::ids,k+1,h=>by
  simp only [List.replicate_succ,hp]
  rw [Gr (fun o ho=>h o (List.mem_cons_of_mem _ ho))]
  funext o
  unfold upd
  split
  ·rename_i hq; subst hq; exact(h _ (List.mem_cons_self ..)).symm
  ·rfl
end
theorem On {h0:O} : ∀ {a b:List Nat} {xs ys:List (Option AO)},a.length=xs.length→hp h0 (a++b) (xs++ys)=hp (hp h0 b ys) a xs
 | [],b,[],ys,_=>by cases b <;> cases ys <;> rfl
 | o::a,b,x::xs,ys,h=>by
  simp only [List.cons_append,hp]
  rw [On (by simpa using h)]
theorem U1 {h0:O} : ∀ {ids:List Nat} {xs ys:List (Option AO)},ids.length=xs.length→ids.length=ys.length→ids.Nodup→(∀ o ∈ ids,h0 o=none)→(∀ j:Nat,ys[j]? = xs[j]? ∨ ys[j]? = some none)→Dl (hp h0 ids ys) (hp h0 ids xs)
 | [],[],[],_,_,_,_,_=>Dl.refl _
 | a::ids,x::xs,y::ys,h1,h2,hn,hf,h=>by
  have ih:=U1 (h0:=h0) (ids:=ids) (xs:=xs) (ys:=ys) (by simpa using h1) (by simpa using h2) (List.nodup_cons.1 hn).2 (fun o ho=>hf o (List.mem_cons_of_mem _ ho)) (fun j=>by simpa using h (j+1))
  intro o z hz
  simp only [hp] at hz ⊢
  unfold upd at hz ⊢
  split
  ·rename_i hq
   rw [if_pos hq] at hz
   rcases h 0 with h' | h' <;> simp at h'
   ·rw [← h']; exact hz
   ·subst h'; cases hz
  ·rename_i hq
   rw [if_neg hq] at hz
   exact ih o z hz
section
variable {P:Program} [GW P] {f:FuncId} {n:Nat} {d:FK} {fr:Nat→AV} {ds:List AD} {h:O} {u:AU} {Q:QT} {k:List Item}
theorem Mc {todo:List Item}(c:Nat)(avoid:List Nat)(hr : ∀ os:List Nat,os.length=c→os.Nodup→(∀ o ∈ os,h o=none)→(∀ o ∈ os,o ∉ avoid)→Cc P f n d todo fr ds h u Q):Cc P f n d todo fr ds h u Q:=by
 intro B mu w a cs p
 obtain⟨N,hN⟩:=p.sim.finh
 have key : ∃ M,N≤M ∧ ∀ o ∈ avoid,o<M:=by
  clear hr
  induction avoid with
  | nil=>exact⟨N,Nat.le_refl _,fun o ho=>by cases ho⟩
  | cons a l ih=>
   obtain⟨M,h1,h2⟩:=ih
   exact⟨max M (a+1),by omega,fun o ho=>by
    rcases List.mem_cons.1 ho with rfl | ho
    ·omega
    ·have:=h2 o ho; omega⟩
 obtain⟨M,h1,h2⟩:=key
 exact hr ((List.range c).map (M + ·)) (by simp) (by
  refine List.Pairwise.map _ (fun a b hab=>?_) List.nodup_range
  simpa using hab) (fun o ho=>by
   obtain⟨i,_,rfl⟩:=List.mem_map.1 ho
   exact hN _ (by omega)) (fun o ho hm=>by
   obtain⟨i,_,rfl⟩:=List.mem_map.1 ho
   have:=h2 _ hm
   omega) B mu w a cs p
end
abbrev Ib:=List UInt8
def rI (k:IntKind)(n:Int):List AV:=[.int k n]
def rB (b:Bool):List AV:=[.bool b]
def rS (s:Ib):List AV:=[.str s]
theorem D4 {n:Nat}{r:List AV}(h1:r.length=n)(h2:r.all AV.flat=true):Bf n r:=⟨h1,fun v hv=>List.all_eq_true.1 h2 v hv⟩
theorem Og {k:IntKind}(n:Int):Bf 1 (rI k n):=D4 rfl rfl
theorem Abw (b:Bool):Bf 1 (rB b):=D4 rfl rfl
theorem Ada (s:Ib):Bf 1 (rS s):=D4 rfl rfl
theorem D1 {j n:Nat}(h:j<n)(hn:n≤Do):AV.int .i64 (IntKind.i64.wrap ((j:Int)+1))=.int .i64 ((j+1:Nat):Int):=by rw [Xs (by omega)]
theorem Gl {n j a:Nat}(h:(List.range n)[j]? = some a):j<n∧a=j:=by
 rcases Nat.lt_or_ge j n with hh | hh
 ·simp [hh] at h; exact⟨hh,h.symm⟩
 ·rw [List.getElem?_eq_none (by simpa using hh)] at h; cases h
end Go.Am
namespace Go.Am
open Go
set_option linter.unusedSimpArgs false
set_option linter.unusedVariables false
set_option linter.unusedSectionVars false
structure Spec (β:Type) where
 V:R β→Prop
 bad:¬ V .bad
 Q:R β→QT
section
variable {β:Type}
def WR (P:Program)[GW P](f:FuncId)(n:Nat)(d:FK)(Q:Spec β)(m:R β)(todo:List Item)(fr:Nat→AV)(ds:List AD)(h:O)(u:AU):Prop:=Q.V m→Cc P f n d todo fr ds h u (Q.Q m)
def WU (P:Program)[GW P](f:FuncId)(n:Nat)(d:FK)(Q:Spec β)(m:R β)(a:AU)(fr:Nat→AV)(ds:List AD)(h:O)(u:AU):Prop:=Q.V m→Gk P f n d a fr ds h u (Q.Q m)
def WO (P:Program)[GW P](f:FuncId)(n:Nat)(d:FK)(Q:Spec β)(k:List Item)(all:List Oper)(m:R β)(ops:List Oper)(fr:Nat→AV)(ds:List AD)(h:O)(u:AU):Prop:=
 Q.V m → ∀ i,(∀ j,all[i+j]? = ops[j]?)→Cc P f n d (.inRegion ⟨all⟩ (List.range' i ops.length)::k) fr ds h u (Q.Q m)
end
section
variable {P:Program} [GW P] {f:FuncId} {n:Nat} {d:FK} {β:Type} {Q:Spec β} {m:R β} {fr:Nat→AV} {ds:List AD} {h:O} {u:AU} {k:List Item} {l:List (Nat×AV)}
theorem Aw (hr:WR P f n d Q m k fr ds h u):WR P f n d Q m (.code .skip::k) fr ds h u:=fun hb=>Zw (hr hb)
theorem Aa {x y:Code}(hr:WR P f n d Q m (.code x::.code y::k) fr ds h u):WR P f n d Q m (.code (.seq x y)::k) fr ds h u:=fun hb=>Aba (hr hb)
theorem Ao {id:Nat}{c:Code}(hr:WR P f n d Q m (.code c::.inBlock id::k) fr ds h u):WR P f n d Q m (.code (.block id c)::k) fr ds h u:=fun hb=>X9 (hr hb)
theorem A3 {id:Nat}(hr:WR P f n d Q m k fr ds h u):WR P f n d Q m (.inBlock id::k) fr ds h u:=fun hb=>Vs (hr hb)
theorem C9 {id:Nat}{k':List Item}(he:exitTo id k=some k')(hr:WR P f n d Q m k' fr ds h u):WR P f n d Q m (.code (.exit id)::k) fr ds h u:=fun hb=>Zn he (hr hb)
theorem Mk {c:Operand}{x y:Code}(b:Bool)(hc:ev fr c=.bool b)(hr:WR P f n d Q m (.code (match b with | true=>x | false=>y)::k) fr ds h u):WR P f n d Q m (.code (.cond c x y)::k) fr ds h u:=fun hb=>Io hc (by cases b <;> exact hr hb)
theorem Abh {c:Operand}{x y:Code}{p:Prop}[Decidable p]{A B:R β}(hc:ev fr c=.bool (decide p))(ht:p→WR P f n d Q A (.code x::k) fr ds h u)(hf:¬ p→WR P f n d Q B (.code y::k) fr ds h u):WR P f n d Q (if p then A else B) (.code (.cond c x y)::k) fr ds h u:=by
 intro hb
 refine Io hc ?_
 by_cases hp:p
 ·simp only [hp,decide_true,if_true] at hb ⊢; exact ht hp hb
 ·simp only [hp,decide_false,Bool.false_eq_true,if_false] at hb ⊢; exact hf hp hb
theorem Aa0 {c:Operand}{x y:Code}{b:Bool}{A B:R β}(hc:ev fr c=.bool b)(ht:b=true→WR P f n d Q A (.code x::k) fr ds h u)(hf:b=false→WR P f n d Q B (.code y::k) fr ds h u):WR P f n d Q (if b then A else B) (.code (.cond c x y)::k) fr ds h u:=by
 intro hb
 refine Io hc ?_
 cases hq:b with
 | true=>simp only [hq,if_true] at hb ⊢; exact ht hq hb
 | false=>simp only [hq,Bool.false_eq_true,if_false] at hb ⊢; exact hf hq hb
theorem Kz {m':R β}{todo:List Item}(e:m=m')(hr:WR P f n d Q m' todo fr ds h u):WR P f n d Q m todo fr ds h u:=e ▸ hr
theorem Aaz {σ ε:Type}{c:Code}(body:σ→R (σ ⊕ ε))(rest:ε→R β)(St:σ→(Nat→AV)→O→Prop)(s0:σ)(hs:St s0 fr h)
  (round : ∀ W:σ→R ε,(∀ s fr h,St s fr h→WR P f n d Q ((W s).bind rest) (.inLoop c::k) fr ds h u) → ∀ s fr h,St s fr h →
   WR P f n d Q ((body s).bind fun x=>match x with | .inl s'=>(W s').bind rest | .inr e=>rest e) (.code c::.inLoop c::k) fr ds h u) :
  WR P f n d Q ((loop body s0).bind rest) (.code (.loop c)::k) fr ds h u:=by
 have key : ∀ n' s fr h,St s fr h→WR P f n d Q ((Dn body n' s).bind rest) (.inLoop c::k) fr ds h u:=by
  intro n'
  induction n' with
  | zero=>intro s fr h _ hb; exact absurd hb Q.bad
  | succ n' ih=>
   intro s fr h hs hb
   refine Oh ?_
   have e:(Dn body (n'+1) s).bind rest=(body s).bind fun x=>match x with | .inl s'=>(Dn body n' s').bind rest | .inr e=>rest e:=by
    rw [Dn,R.bind_assoc]
    congr 1
    funext x
    cases x <;> rfl
   have:=round (Dn body n') ih s fr h hs
   rw [← e] at this
   exact this hb
 intro hb
 by_cases hl:loop body s0=.bad
 ·rw [hl] at hb; exact absurd hb Q.bad
 ·obtain⟨n',hn⟩:=Ng hl
  rw [hn] at hb ⊢
  exact U7 (key n' s0 fr h hs hb)
theorem Aay {α σ ε:Type}{c:Code}(L:List α)(body:Nat→α→σ→R (σ ⊕ ε))(rest:σ ⊕ ε→R β)(St:Nat→σ→(Nat→AV)→O→Prop)(s0:σ)(hs:St 0 s0 fr h)
  (round : ∀ (j:Nat) (a:α),L[j]? = some a → ∀ W:σ→R (σ ⊕ ε),(∀ s fr h,St (j+1) s fr h→WR P f n d Q ((W s).bind rest) (.inLoop c::k) fr ds h u) → ∀ s fr h,St j s fr h →
   WR P f n d Q ((body j a s).bind fun x=>match x with | .inl s'=>(W s').bind rest | .inr e=>rest (.inr e)) (.code c::.inLoop c::k) fr ds h u)
  (fin : ∀ s fr h,St L.length s fr h→WR P f n d Q (rest (.inl s)) (.code c::.inLoop c::k) fr ds h u) :
  WR P f n d Q ((each body 0 L s0).bind rest) (.code (.loop c)::k) fr ds h u:=by
 have key : ∀ (l:List α) (j:Nat),j≤L.length→L.drop j=l → ∀ s fr h,St j s fr h→WR P f n d Q ((each body j l s).bind rest) (.inLoop c::k) fr ds h u:=by
  intro l
  induction l with
  | nil=>
   intro j hj hl s fr h hs hb
   have:j=L.length:=by
    have:=List.drop_eq_nil_iff.1 hl; omega
   subst this
   exact Oh (fin s fr h hs hb)
  | cons a l ih=>
   intro j hj hl s fr h hs hb
   have hlt:j<L.length:=by
    rcases Nat.lt_or_ge j L.length with hh | hh
    ·exact hh
    ·rw [List.drop_eq_nil_of_le hh] at hl; cases hl
   have ha:L[j]? = some a:=by
    have:=List.getElem?_drop (xs:=L) (i:=j) (j:=0)
    rw [hl] at this; simpa using this.symm
   have hl':L.drop (j+1)=l:=by
    have:=congrArg List.tail hl
    simpa using this
   refine Oh ?_
   have e:(each body j (a::l) s).bind rest=(body j a s).bind fun x=>match x with | .inl s'=>(each body (j+1) l s').bind rest | .inr e=>rest (.inr e):=by
    rw [J2,R.bind_assoc]
    congr 1
    funext x
    cases x <;> rfl
   have:=round j a ha (fun s'=>each body (j+1) l s') (ih (j+1) hlt hl') s fr h hs
   rw [← e] at this
   exact this hb
 intro hb
 exact U7 (key L 0 (Nat.zero_le _) rfl s0 fr h hs hb)
theorem Y {id:Nat}{ops:List Oper}(hx:WO P f n d Q k ops m ops fr ds h u):WR P f n d Q m (.code (.region id ⟨ops⟩ false)::k) fr ds h u:=fun hb=>by
 refine Hu (fun _ _ _=>stepR_region) ?_
 have:=hx hb 0 (fun j=>by simp)
 rwa [← List.range_eq_range'] at this
section
variable {all r:List Oper} {ty:TypeId} {pos:String} {after:Array Edge}
theorem Ab (hr:WR P f n d Q m k fr ds h u):WO P f n d Q k all m [] fr ds h u:=fun hb i hi B mu w a cs p=>.head stepR_region_end (hr hb B mu w a cs p)
theorem Fs {o:Oper}(hd:Dd n o.dst=true)(hw:Cp all fr o=some true)
  (hx:Q.V m → ∀ (K:AV→List AD→O→AU→Prop) (U:AV→KT),(∀ v ds' h' u',WO P f n d Q k all m r (Dh fr o.dst v) ds' h' u'→K v ds' h' u')→(∀ v fr ds h u,Gk P f n d (.pan v false) fr ds h u (Q.Q m)→U v fr ds h u)→Dm P d U fr ds h u o.op K) :
  WO P f n d Q k all m (o::r) fr ds h u:=by
 intro hb i hi
 have ho:(⟨all⟩:Array Oper)[i]? = some o:=by simpa using hi 0
 have hi' : ∀ j,all[i+1+j]? = r[j]? := fun j=>by have:=hi (j+1); rw [show i+(j+1)=i+1+j by omega] at this; simpa using this
 simp only [List.length_cons,List.range'_succ]
 exact Oq ho hd hw (hx hb _ _ (fun v ds' h' u' hk=>hk hb (i+1) hi') (fun _ _ _ _ _ hu=>hu))
theorem R0 {o:Oper}(hd:Dd n o.dst=true)(hw:Cp all fr o=some false)(hk:WO P f n d Q k all m r (Dh fr o.dst .und) ds h u):WO P f n d Q k all m (o::r) fr ds h u:=by
 intro hb i hi
 have ho:(⟨all⟩:Array Oper)[i]? = some o:=by simpa using hi 0
 have hi' : ∀ j,all[i+1+j]? = r[j]? := fun j=>by have:=hi (j+1); rw [show i+(j+1)=i+1+j by omega] at this; simpa using this
 simp only [List.length_cons,List.range'_succ]
 exact Nn ho hd hw (hk hb (i+1) hi')
theorem Rz {t:List AD}{op:Op}{v:AV}{U:AV→KT}{K:AV→List AD→O→AU→Prop}(hv:By P fr h op=some v)(hK:K v ds h u):Dm P d U fr ds h u op K:=by
 have e:Dm P d U fr ds h u op K=Ch P fr h op (fun v h'=>K v ds h' u):=by
  unfold Dm
  split
  ·simp [By] at hv
  ·simp [By] at hv
  ·simp [By] at hv
  ·simp [By] at hv
  ·rfl
 rw [e]
 exact Sr hv hK
theorem N7 {j tj:Nat}{want b:Bool}{op:Op}{dst:Option Tmp}(hj:(all[j]?).bind (·.dst)=some tj)(hg:fr tj=.bool b):Cp all fr ⟨dst,op,ty,pos,after,some (j,want)⟩=some (b==want):=by
 unfold Cp
 simp only [hj,hg]
theorem K3 {j tj:Nat}{want:Bool}{op:Op}{dst:Option Tmp}(hj:(all[j]?).bind (·.dst)=some tj)(hg:fr tj=.bool want):Cp all fr ⟨dst,op,ty,pos,after,some (j,want)⟩=some true:=by
 rw [N7 hj hg]; simp
theorem Z {t:Nat}{op:Op}(v:AV)(ht:Nat.blt t n=true)(hv:By P (Ae l) h op=some v)(hk:WO P f n d Q k all m r (Ae ((t,v)::l)) ds h u) :
  WO P f n d Q k all m (⟨some t,op,ty,pos,after,none⟩::r) (Ae l) ds h u:=
 Fs (by simpa [Dd] using ht) rfl fun hb K U hK hU=>Rz (t:=ds) hv (hK _ _ _ _ (by rw [C0]; exact hk))
theorem Ap {t j tj:Nat}{want:Bool}{op:Op}(v:AV)(hj:(all[j]?).bind (·.dst)=some tj)(hg:Ae l tj=.bool want)(ht:Nat.blt t n=true)(hv:By P (Ae l) h op=some v)(hk:WO P f n d Q k all m r (Ae ((t,v)::l)) ds h u) :
  WO P f n d Q k all m (⟨some t,op,ty,pos,after,some (j,want)⟩::r) (Ae l) ds h u:=
 Fs (by simpa [Dd] using ht) (by rw [N7 hj hg]; simp) fun hb K U hK hU=>Rz (t:=ds) hv (hK _ _ _ _ (by rw [C0]; exact hk))
theorem Ii {t j tj:Nat}{want b:Bool}{op:Op}(hj:(all[j]?).bind (·.dst)=some tj)(hg:Ae l tj=.bool b)(hne:(b==want)=false)(ht:Nat.blt t n=true)(hk:WO P f n d Q k all m r (Ae ((t,.und)::l)) ds h u) :
  WO P f n d Q k all m (⟨some t,op,ty,pos,after,some (j,want)⟩::r) (Ae l) ds h u:=
 R0 (by simpa [Dd] using ht) (by rw [N7 hj hg,hne]) (by rw [C0]; exact hk)
theorem Ab8 {α:Type}{L:List α}{i:Int}{rest:α→R β}{ops:List Oper}(hk : ∀ a,0≤i→L[i.toNat]? = some a→WO P f n d Q k all (rest a) ops fr ds h u):WO P f n d Q k all ((Hm L i).bind rest) ops fr ds h u:=by
 intro hb
 unfold Hm at hb ⊢
 by_cases h0:0≤i
 ·rw [if_pos h0] at hb ⊢
  cases hq:L[i.toNat]? with
  | none=>rw [hq] at hb; exact absurd hb Q.bad
  | some a=>rw [hq] at hb; exact hk a h0 hq hb
 ·rw [if_neg h0] at hb; exact absurd hb Q.bad
theorem Aan {p:Prop}[Decidable p]{rest:R β}{ops:List Oper}(hk:p→WO P f n d Q k all rest ops fr ds h u):WO P f n d Q k all (if p then rest else .bad) ops fr ds h u:=by
 intro hb
 by_cases hp:p
 ·rw [if_pos hp] at hb ⊢; exact hk hp hb
 ·rw [if_neg hp] at hb; exact absurd hb Q.bad
theorem P8 {m':R β}{ops:List Oper}(e:m=m')(hr:WO P f n d Q k all m' ops fr ds h u):WO P f n d Q k all m ops fr ds h u:=e ▸ hr
theorem Aag {b:Bool}{A B:R β}{ops:List Oper}(ht:b=true→WO P f n d Q k all A ops fr ds h u)(hf:b=false→WO P f n d Q k all B ops fr ds h u):WO P f n d Q k all (if b then A else B) ops fr ds h u:=by
 intro hb
 cases hq:b with
 | true=>simp only [hq,if_true] at hb ⊢; exact ht hq hb
 | false=>simp only [hq,Bool.false_eq_true,if_false] at hb ⊢; exact hf hq hb
theorem Yk {l l':List (Nat×AV)}(hx : ∀ p ∈ l',Ae l p.1=p.2)(t:Nat):Ae l' t=.any∨Ae l' t=Ae l t:=by
 induction l' with
 | nil=>exact .inl rfl
 | cons p l' ih=>
  have hp:=hx p (List.mem_cons_self ..)
  simp only [Ae]
  cases hq:Nat.beq t p.1 with
  | true=>
   have:=Nat.eq_of_beq_eq_true hq
   subst this
   exact .inr hp.symm
  | false=>exact ih fun q hq=>hx q (List.mem_cons_of_mem _ hq)
theorem Hd {todo:List Item}{fr':Nat→AV}{Q':QT}(hx : ∀ t,fr' t=.any∨fr' t=fr t)(hr:Cc P f n d todo fr' ds h u Q'):Cc P f n d todo fr ds h u Q':=by
 intro B mu w a cs p
 refine hr B mu w a cs ⟨p.size,fun t=>?_,p.ds,p.sim,p.cs,p.rnd,p.fb⟩
 rcases hx t with e | e
 ·rw [e]; exact .any _
 ·rw [e]; exact p.fr t
theorem Acs {ops:List Oper}(l':List (Nat×AV))(hx : ∀ p ∈ l',Ae l p.1=p.2)(hr:WO P f n d Q k all m ops (Ae l') ds h u):WO P f n d Q k all m ops (Ae l) ds h u:=fun hb i hi=>Hd (Yk hx) (hr hb i hi)
theorem Aco {todo:List Item}(l':List (Nat×AV))(hx : ∀ p ∈ l',Ae l p.1=p.2)(hr:WR P f n d Q m todo (Ae l') ds h u):WR P f n d Q m todo (Ae l) ds h u:=fun hb=>Hd (Yk hx) (hr hb)
inductive FrIs (l:List (Nat×AV)):List (Nat×AV)→Prop
 | nil:FrIs l []
 | cons {t:Nat} {v:AV} {r:List (Nat×AV)} (hx:Ae l t=v) (hr:FrIs l r):FrIs l ((t,v)::r)
theorem FrIs.get {l l':List (Nat×AV)}(h:FrIs l l') : ∀ p ∈ l',Ae l p.1=p.2:=by
 induction h with
 | nil=>intro p hp; cases hp
 | cons hx hr ih=>
  intro p hp
  rcases List.mem_cons.1 hp with rfl | hp
  ·exact hx
  ·exact ih p hp
theorem D7 {todo:List Item}(l':List (Nat×AV))(hx:FrIs l l')(hr:WR P f n d Q m todo (Ae l') ds h u):WR P f n d Q m todo (Ae l) ds h u:=Aco l' hx.get hr
theorem E3 {ops:List Oper}(l':List (Nat×AV))(hx:FrIs l l')(hr:WO P f n d Q k all m ops (Ae l') ds h u):WO P f n d Q k all m ops (Ae l) ds h u:=Acs l' hx.get hr
inductive FrFz (h h2:O)(l:List (Nat×AV)):List (Nat×AV)→Prop
 | nil:FrFz h h2 l []
 | cons {t:Nat} {v:AV} {r:List (Nat×AV)} (hx:Fz h h2 (Ae l t) v) (hr:FrFz h h2 l r):FrFz h h2 l ((t,v)::r)
theorem FrFz.get {h h2:O}{l l':List (Nat×AV)}(hf:FrFz h h2 l l')(t:Nat):Fz h h2 (Ae l t) (Ae l' t):=by
 induction hf with
 | nil=>exact .any _
 | @cons s v r hx hr ih=>
  simp only [Ae]
  cases hq:Nat.beq t s with
  | true=>
   have:=Nat.eq_of_beq_eq_true hq
   subst this
   exact hx
  | false=>exact ih
theorem T5 {todo:List Item}{h2:O}(l':List (Nat×AV))(hs:Dl h2 h)(hx:FrFz h h2 l l')(hds:ds=ds)(hd:d=d)(hr:WR P f n d Q m todo (Ae l') ds h2 u):WR P f n d Q m todo (Ae l) ds h u:=fun hb=>Qx hs hx.get hds hd (hr hb)
theorem Abj {ops:List Oper}{h2:O}(l':List (Nat×AV))(hs:Dl h2 h)(hx:FrFz h h2 l l')(hds:ds=ds)(hd:d=d)(hr:WO P f n d Q k all m ops (Ae l') ds h2 u):WO P f n d Q k all m ops (Ae l) ds h u:=fun hb i hi=>Qx hs hx.get hds hd (hr hb i hi)
inductive Drops:List (Option AO)→List (Option AO)→Prop
 | nil:Drops [] []
 | keep {x:Option AO} {xs ys:List (Option AO)} (h:Drops xs ys):Drops (x::xs) (x::ys)
 | drop {x:Option AO} {xs ys:List (Option AO)} (h:Drops xs ys):Drops (x::xs) (none::ys)
theorem Drops.sub {h0:O} : ∀ {ids:List Nat} {xs ys:List (Option AO)},Drops xs ys→ids.length=xs.length→Dl (hp h0 ids ys) (hp h0 ids xs)
 | [],_,_,.nil,_=>Dl.refl _
 | a::ids,_,_,.keep hd,hl=>Dl.upd (Drops.sub hd (by simpa using hl)) a _
 | a::ids,_,_,@Drops.drop x xs ys hd,hl=>fun o z hz=>by
  simp only [hp,upd] at hz ⊢
  split
  ·rename_i hq; rw [if_pos hq] at hz; cases hz
  ·rename_i hq; rw [if_neg hq] at hz; exact Drops.sub hd (by simpa using hl) o z hz
theorem G4 {todo:List Item}{fr:Nat→AV}{h0:O}{ids:List Nat}{N:Nat}{xs:List (Option AO)}(ys:List (Option AO))(hI:Ids h0 ids N)(hl:xs.length=N)(hx:Drops xs ys)(hr:WR P f n d Q m todo fr ds (hp h0 ids ys) u) :
  WR P f n d Q m todo fr ds (hp h0 ids xs) u:=fun hb=>Aar (hx.sub (hI.len.trans hl.symm)) (hr hb)
end
end
end Go.Am
namespace Go.Am
open Go
set_option linter.unusedSimpArgs false
set_option linter.unusedVariables false
set_option linter.unusedSectionVars false
section
variable {P:Program} [GW P] {fr:Nat→AV} {h:O} {v:AV}
theorem Ag {x:Operand}:By P fr h (.move x)=some (ev fr x):=rfl
theorem Af {x:Operand}:By P fr h (.assign x)=some (ev fr x):=rfl
theorem Hx {c a b:Operand}{t:Bool}(hc:ev fr c=.bool t)(hv:(if t then ev fr a else ev fr b)=v):By P fr h (.pick c a b)=some v:=by simp only [By,hc,hv]
theorem Ex {t:TypeId}{ps:List (Nat×Operand)}(hv:Lf P t (If fr ps)=some v):By P fr h (.build t ⟨ps⟩)=some v:=hv
theorem A7 {t:TypeId}{x:Operand}(hv:Ha P h t (ev fr x)=some v):By P fr h (.load t x)=some v:=hv
theorem G1 {x:Operand}(hv:Mq (ev fr x)=some v):By P fr h (.nilCheck x)=some v:=hv
theorem Av {o:BinOp}{t ty:TypeId}{x y:Operand}(hg:G2 P o t x y (ev fr x) (ev fr y)=true)(hn:Mw y=false)(hv:Kq P o t (ev fr x) (ev fr y)=some v):By P fr h (.binOp o t x y ty)=some v:=by
 simp only [By,hg,hn,true_and,if_true]; exact hv
theorem Ra {o:UnOp}{t:TypeId}{x:Operand}(hv:Xo o (ev fr x)=some v):By P fr h (.unOp o t x)=some v:=hv
theorem Y0 {t:TypeId}{x:Operand}{T:TI}(hT:ti P t=some T)(hk:T.k≠.ifc):By P fr h (.makeInterface t x)=some (.iface t (ev fr x)):=by
 simp only [By,hT,if_neg hk]
theorem Mp {fn:Fn}{a c:List Operand}:By P fr h (.makeFunc fn ⟨a⟩ ⟨c⟩)=some (.func fn (Cz fr a) (Cz fr c)):=rfl
theorem Il {s:TypeId}{x:Operand}{i:Nat}(hv:El P s (ev fr x) i=some v):By P fr h (.fieldAddr s x i)=some v:=hv
theorem B3 {t:TypeId}{x i:Operand}(hv:Cl P h t (ev fr x) (ev fr i)=some v):By P fr h (.indexAddr t x i)=some v:=hv
theorem Ack {x:Operand}{a t:TypeId}{ok:Bool}(hv:Jr P (ev fr x) t ok=some v):By P fr h (.typeAssert x a t ok)=some v:=hv
theorem Al {t:TypeId}{x:Operand}(hv:Nu P h t (ev fr x)=some v):By P fr h (.call ⟨.builtin .len,⟨[x]⟩,⟨[t]⟩⟩)=some v:=hv
theorem Abl {ts:Array TypeId}{l:List Operand}(hv:Oz false (Cz fr l)=some v):By P fr h (.call ⟨.builtin .min,⟨l⟩,ts⟩)=some v:=by
 simp only [By]
 exact hv
theorem Ab4 {ts:Array TypeId}{l:List Operand}(hv:Oz true (Cz fr l)=some v):By P fr h (.call ⟨.builtin .max,⟨l⟩,ts⟩)=some v:=by
 simp only [By]
 exact hv
theorem Dv {t:TypeId}{T:TI}{row:List AV}{c:Nat}(hT:ti P t=some T)(hv:Eo row c T.size T.k.agg=some v):Ha P h t (.cp row c)=some v:=by simp only [Ha,hT,hv]
section
variable {h0:O} {ids:List Nat} {xs:List (Option AO)} {n j:Nat}
theorem C6 {t:TypeId}{T:TI}{g st r c:Nat}{rs:List (List AV)}{row:List AV}(hI:Ids h0 ids n)(hl:xs.length=n)(hj:xs[j]? = some (some (.rows g st rs)))(hr:rs[r]? = some row)(hT:ti P t=some T)(hv:Eo row c T.size T.k.agg=some v) :
  Ha P (hp h0 ids xs) t (.ptr (ix ids j) g r c)=some v:=by
 have hlt:r<rs.length:=by
  rcases Nat.lt_or_ge r rs.length with hh | hh
  ·exact hh
  ·rw [List.getElem?_eq_none hh] at hr; cases hr
 have e:rs.getD r []=row:=Ce hr
 simp only [Ha,hT,hI.at hl hj,hlt,e,and_self,if_true,hv]
end
section
variable {s ft:TypeId} {fs:List (Nat×TypeId)} {a b i off:Nat} {z:List AV} {F:TI}
theorem Abk {o g r c:Nat}(hT:ti P s=some ⟨.st fs,a,b,z⟩)(hf:fs[i]? = some (off,ft))(hF:ti P ft=some F)(h0:Nat.beq F.size 0=false):El P s (.ptr o g r c) i=some (.ptr o g r (c+off)):=by
 have:F.size≠0:=fun q=>by rw [q] at h0; cases h0
 simp only [El,hT,hf,hF,if_neg this]
theorem Nl {row:List AV}{c:Nat}(hT:ti P s=some ⟨.st fs,a,b,z⟩)(hf:fs[i]? = some (off,ft))(hF:ti P ft=some F)(h0:Nat.beq F.size 0=false):El P s (.cp row c) i=some (.cp row (c+off)):=by
 have:F.size≠0:=fun q=>by rw [q] at h0; cases h0
 simp only [El,hT,hf,hF,if_neg this]
end
section
variable {α:Type} {e:α→List AV} {L:List α} {st:Nat} {t et:TypeId} {a b:Nat} {z:List AV} {E:TI} {k:IntKind} {x:α}
theorem Zc {j:Nat}(hx:L[j]? = some x):(L.map e).getD j []=e x:=by simp [List.getD,hx]
theorem Aq {j:Nat}(hx:L[j]? = some x):j<L.length:=by
 rcases Nat.lt_or_ge j L.length with hh | hh
 ·exact hh
 ·rw [List.getElem?_eq_none hh] at hx; cases hx
theorem Hl {i:Int}(hT:ti P t=some ⟨.sl et,a,b,z⟩)(hE:ti P et=some E)(hs:st=E.size)(h0:0≤i)(hx:L[i.toNat]? = some x):Cl P h t (.sl st (L.map e)) (.int k i)=some (.cp (e x) 0):=by
 have hlt:=Aq hx
 have h1:i<((L.map e).length:Int):=by rw [List.length_map]; omega
 simp only [Cl,hT,hE]
 rw [if_pos ⟨hs,h0,h1⟩,Zc hx]
theorem Ek {i:Nat}(hT:ti P t=some ⟨.sl et,a,b,z⟩)(hE:ti P et=some E)(hs:st=E.size)(hx:L[i]? = some x):Cl P h t (.sl st (L.map e)) (.int k (i:Int))=some (.cp (e x) 0):=
 Hl hT hE hs (by omega) (by simpa using hx)
theorem Ak (hT:ti P t=some ⟨.sl et,a,b,z⟩):Nu P h t (.sl st (L.map e))=some (.int .i64 (L.length:Int)):=by simp only [Nu,hT,List.length_map]
end
theorem Abn {t:TypeId}{T:TI}(hT:ti P t=some T)(hk:T.k≠.ifc):Jr P (.iface t v) t true=some (.tup [v,.bool true]):=by simp only [Jr,hT,if_neg hk]; rfl
theorem Im {t:TypeId}{fs:List (Nat×TypeId)}{a b:Nat}{z cs:List AV}{ps:List (Nat×AV)}{pl:List (Nat×Nat)}(hT:ti P t=some ⟨.st fs,a,b,z⟩)(hp:Fq P fs=some pl)(hv:Kw (fun i=>pl[i]?) z ps=some cs):Lf P t ps=some (.agg cs):=by
 simp only [Lf,hT,hp,hv,Option.map_some]
end
section
variable {K V:Type}
def Rr [DecidableEq K](m:List (K×V))(k:K):Option V:=(m.find? fun p=>p.1==k).map (·.2)
def E1 [DecidableEq K]:List (K×V)→K→V→List (K×V)
 | [],k,v=>[(k,v)]
 | p::m,k,v=>if p.1==k then(k,v)::m else p::E1 m k v
end
def Ky:List AV→List AV→List AV
 | row,[]=>row
 | [],_=>[]
 | _::row,c::cs=>c::Ky row cs
def Kp:List AV→Nat→List AV→List AV
 | row,0,cs=>Ky row cs
 | [],_+1,_=>[]
 | a::row,c+1,cs=>a::Kp row c cs
theorem T0 : ∀ (row cs:List AV),cs.length≤row.length→Ky row cs=cs++row.drop cs.length
 | row,[],_=>by cases row <;> simp [Ky]
 | [],c::cs,h=>by simp at h
 | a::row,c::cs,h=>by simp [Ky,T0 row cs (by simpa using h)]
theorem Rl : ∀ (row:List AV) (c:Nat) (cs:List AV),c+cs.length≤row.length→Kp row c cs=D6 row c cs
 | row,0,cs,h=>by
  have:=T0 row cs (by simpa using h)
  cases row <;> simp [Kp,D6,this]
 | [],c+1,cs,h=>by simp at h
 | a::row,c+1,cs,h=>by
  have:=Rl row c cs (by simp only [List.length_cons] at h; omega)
  simp only [Kp,this,D6,List.take_succ_cons,List.cons_append]
  rw [show c+1+cs.length=(c+cs.length)+1 by omega,List.drop_succ_cons]
section
variable {P:Program} [GW P] {f:FuncId} {n:Nat} {d:FK} {β:Type} {Q:Spec β} {m:R β} {ds:List AD} {u:AU} {k:List Item} {l:List (Nat×AV)}
variable {all r:List Oper} {ty:TypeId} {pos:String} {after:Array Edge}
variable {h0:O} {ids:List Nat} {xs:List (Option AO)} {N:Nat}
theorem Nt {t:Nat}{op:Op}{h:O}(ht:Nat.blt t n=true)(ho : ∀ (K:AV→List AD→O→AU→Prop) (U:AV→KT),Dm P d U (Ae l) ds h u op K=Ch P (Ae l) h op (fun v h'=>K v ds h' u))
  (hx : ∀ K:AV→O→Prop,(∀ v h',WO P f n d Q k all m r (Ae ((t,v)::l)) ds h' u→K v h')→Ch P (Ae l) h op K) :
  WO P f n d Q k all m (⟨some t,op,ty,pos,after,none⟩::r) (Ae l) ds h u:=by
 refine Fs (by simpa [Dd] using ht) rfl fun hb K U hK hU=>?_
 rw [ho]
 exact hx _ fun v h' hw=>hK _ _ _ _ (by rw [C0]; exact hw)
theorem Tu {op:Op}{h:O}(ho : ∀ (K:AV→List AD→O→AU→Prop) (U:AV→KT),Dm P d U (Ae l) ds h u op K=Ch P (Ae l) h op (fun v h'=>K v ds h' u))
  (hx : ∀ K:AV→O→Prop,(∀ v h',WO P f n d Q k all m r (Ae l) ds h' u→K v h')→Ch P (Ae l) h op K) :
  WO P f n d Q k all m (⟨none,op,ty,pos,after,none⟩::r) (Ae l) ds h u:=by
 refine Fs rfl rfl fun hb K U hK hU=>?_
 rw [ho]
 exact hx _ fun v h' hw=>hK _ _ _ _ hw
theorem Ix {t:TypeId}{a x:Operand}{h h':O}{fr:Nat→AV}{K:AV→O→Prop}(hs:Gd P h t (ev fr a) (ev fr x)=some h')(hK:K .und h'):Ch P fr h (.store t a x) K:=by simp only [Ch]; exact⟨_,.cell (.same _),by rw [hs]; exact hK⟩
theorem B4 {t:TypeId}{a x:Operand}{h h':O}(hs:Gd P h t (ev (Ae l) a) (ev (Ae l) x)=some h')(hk:WO P f n d Q k all m r (Ae l) ds h' u) :
  WO P f n d Q k all m (⟨none,.store t a x,ty,pos,after,none⟩::r) (Ae l) ds h u:=
 Tu (fun _ _=>rfl) fun K hK=>Ix hs (hK _ _ hk)
theorem W0 {t:TypeId}{a x:Operand}{v:AV}{h h':O}{fr:Nat→AV}{K:AV→O→Prop}(hv:ValSim (ev fr x) v)(hs:Gd P h t (ev fr a) v=some h')(hK:K .und h'):Ch P fr h (.store t a x) K:=by simp only [Ch]; exact⟨_,hv,by rw [hs]; exact hK⟩
theorem Xj {t:TypeId}{a x:Operand}{v:AV}{h h':O}(hv:ValSim (ev (Ae l) x) v)(hs:Gd P h t (ev (Ae l) a) v=some h')(hk:WO P f n d Q k all m r (Ae l) ds h' u) :
  WO P f n d Q k all m (⟨none,.store t a x,ty,pos,after,none⟩::r) (Ae l) ds h u:=
 Tu (fun _ _=>rfl) fun K hK=>W0 hv hs (hK _ _ hk)
theorem C4 {t:TypeId}{T:TI}{g st rr c j:Nat}{rs:List (List AV)}{row:List AV}{v:AV}(hI:Ids h0 ids N)(hl:xs.length=N)(hjn:Nat.blt j N=true)(hj:xs[j]? = some (some (.rows g st rs)))(hr:rs[rr]? = some row)(hT:ti P t=some T)
  (hok:v.ok=true) (hlen:v.cells.length=T.size) (hc:Nat.ble (c+T.size) st=true) (hrl:row.length=st) (hfl:v.cells.all AV.flat=true) :
  Gd P (hp h0 ids xs) t (.ptr (ix ids j) g rr c) v=some (hp h0 ids (xs.set j (some (.rows g st (rs.set rr (Kp row c v.cells)))))):=by
 have hlt:rr<rs.length:=Aq hr
 have e:rs.getD rr []=row:=Ce hr
 have hc':c+T.size≤st:=by simpa using hc
 rw [Rl _ _ _ (by rw [hlen,hrl]; exact hc')]
 simp only [Gd,hT,hI.at hl hj,hlt,hok,hlen,hc',hfl,and_self,if_true,e,hI.set hl hjn]
theorem Lx {e:TypeId}{T:TI}{j:Nat}{fr:Nat→AV}{K:AV→O→Prop}(hI:Ids h0 ids N)(hl:xs.length=N)(hjn:Nat.blt j N=true)(hj:xs[j]? = some none)(hT:ti P e=some T)(hfl:T.z.all AV.flat=true)
  (hk : ∀ g,K (.ptr (ix ids j) g 0 0) (hp h0 ids (xs.set j (some (.rows g T.z.length [T.z]))))):Ch P fr (hp h0 ids xs) (.alloc e) K:=by
 simp only [Ch,hT]
 refine⟨hfl,J7 (ix ids j) (hI.at hl hj) fun g=>?_⟩
 rw [hI.set hl hjn]
 exact hk g
theorem De {t:Nat}{e:TypeId}{T:TI}{j:Nat}(hI:Ids h0 ids N)(hl:xs.length=N)(hjn:Nat.blt j N=true)(hj:xs[j]? = some none)(ht:Nat.blt t n=true)(hT:ti P e=some T)(hfl:T.z.all AV.flat=true)
  (hk : ∀ g,WO P f n d Q k all m r (Ae ((t,.ptr (ix ids j) g 0 0)::l)) ds (hp h0 ids (xs.set j (some (.rows g T.z.length [T.z])))) u) :
  WO P f n d Q k all m (⟨some t,.alloc e,ty,pos,after,none⟩::r) (Ae l) ds (hp h0 ids xs) u:=
 Nt ht (fun _ _=>rfl) fun K hK=>by
  simp only [Ch,hT]
  refine⟨hfl,J7 (ix ids j) (hI.at hl hj) fun g=>?_⟩
  rw [hI.set hl hjn]
  exact hK _ _ (hk g)
theorem G0 {t:Nat}{e:TypeId}{x:Operand}{v:AV}{j:Nat}(hI:Ids h0 ids N)(hl:xs.length=N)(hjn:Nat.blt j N=true)(hj:xs[j]? = some none)(ht:Nat.blt t n=true)(hx:ev (Ae l) x=v)(hok:v.ok=true)(hfl:v.cells.all AV.flat=true)
  (hk : ∀ g,WO P f n d Q k all m r (Ae ((t,.ptr (ix ids j) g 0 0)::l)) ds (hp h0 ids (xs.set j (some (.rows g v.cells.length [v.cells])))) u) :
  WO P f n d Q k all m (⟨some t,.box e x,ty,pos,after,none⟩::r) (Ae l) ds (hp h0 ids xs) u:=
 Nt ht (fun _ _=>rfl) fun K hK=>by
  simp only [Ch,hx]
  refine⟨hok,hfl,J7 (ix ids j) (hI.at hl hj) fun g=>?_⟩
  rw [hI.set hl hjn]
  exact hK _ _ (hk g)
def Co (v:AV)(o g n:Nat):Prop:=(v=.emp∧n=0)∨v=.ref o g 0 n
def Az (v:AV)(g st:Nat)(rows:List (List AV)):Option AO:=match v with
 | .emp=>none
 | _=>some (.rows g st rows)
theorem Co.nil {o g:Nat}:Co .emp o g 0:=.inl ⟨rfl,rfl⟩
section
variable {α:Type} {e:α→List AV} {L:List α} {v:AV} {g st j:Nat}
theorem Co.isRef {o n:Nat}(hv:Co v o g n)(hn:0<n):v=.ref o g 0 n:=by
 rcases hv with⟨_,h⟩ | h
 ·omega
 ·exact h
theorem Co.len {t et:TypeId}{a b o n:Nat}{z:List AV}{h:O}(hv:Co v o g n)(hT:ti P t=some ⟨.sl et,a,b,z⟩):Nu P h t v=some (.int .i64 (n:Int)):=by
 rcases hv with⟨rfl,rfl⟩ | rfl <;> simp only [Nu,hT]
 rfl
theorem Wi {t et:TypeId}{a b:Nat}{z:List AV}{E:TI}{ki:IntKind}{i:Int}{x:α}(hI:Ids h0 ids N)(hl:xs.length=N)(hv:Co v (ix ids j) g L.length)(hj:xs[j]? = some (Az v g st (L.map e)))
  (hT:ti P t=some ⟨.sl et,a,b,z⟩) (hE:ti P et=some E) (hs:st=E.size) (hi:0≤i) (hx:L[i.toNat]? = some x):Cl P (hp h0 ids xs) t v (.int ki i)=some (.ptr (ix ids j) g i.toNat 0):=by
 have hlt:=Aq hx
 have:=hv.isRef (by omega)
 subst this
 have h1:i<(L.length:Int):=by omega
 have ha:=hI.at hl hj
 simp only [Az] at ha
 simp only [Cl,hT,hE,ha]
 rw [if_pos ⟨trivial,hs,hi,h1⟩,Nat.zero_add]
theorem Xv {t:TypeId}{T:TI}{i c o:Nat}{x y:α}{w:AV}(hI:Ids h0 ids N)(hl:xs.length=N)(hjn:Nat.blt j N=true)(hv:Co v o g L.length)(hj:xs[j]? = some (Az v g st (L.map e)))(hx:L[i]? = some x)
  (hT:ti P t=some T) (hok:w.ok=true) (hlen:w.cells.length=T.size) (hc:Nat.ble (c+T.size) st=true) (hrl:(e x).length=st) (hfl:w.cells.all AV.flat=true) (hy:Kp (e x) c w.cells=e y) :
  Gd P (hp h0 ids xs) t (.ptr (ix ids j) g i c) w=some (hp h0 ids (xs.set j (Az v g st ((L.set i y).map e)))):=by
 have hlt:=Aq hx
 have:=hv.isRef (by omega)
 subst this
 simp only [Az] at hj ⊢
 rw [C4 hI hl hjn hj (by simp [hx]:(L.map e)[i]? = some (e x)) hT hok hlen hc hrl hfl,hy,List.map_set]
theorem Co.set {o i:Nat}{y:α}(hv:Co v o g L.length):Co v o g (L.set i y).length:=by rw [List.length_set]; exact hv
theorem Ho {h h2:O}{o:Nat}(hv:Co v o g L.length)(ho:h o=Az v g st (L.map e))(h2o:h2 o=none)(hr : ∀ x,Bf st (e x)):Fz h h2 v (.sl st (L.map e)):=by
 rcases hv with⟨rfl,hn⟩ | rfl
 ·have:L=[]:=List.length_eq_zero_iff.1 hn
  subst this
  exact .emp st
 ·simp only [Az] at ho
  refine .ref o g 0 L.length st (L.map e) (L.map e) ho h2o (by simp) (by simp) (by
   intro x hx
   obtain⟨y,_,rfl⟩:=List.mem_map.1 hx
   exact hr y) (fun i jj _ _=>by rw [Nat.zero_add]; exact .same _)
end
end
end Go.Am
namespace Go.Am
open Go
set_option linter.unusedSimpArgs false
set_option linter.unusedVariables false
set_option linter.unusedSectionVars false
def L7 {α:Type}(e:α→AV)(h:O)(m:R α):AR→O→Prop:=fun r h'=>h'=h∧match m with
 | .ok a=>r=.ret (e a)
 | .pan v=>r=.panic v.av
 | .bad=>False
def W4 {α:Type}(e:α→AV)(h:O):Spec α:=⟨fun m=>m≠.bad,fun h=>h rfl,fun m r h' _=>L7 e h m r h'⟩
def CP {α:Type}(P:Program)[GW P](g:FuncId)(args:List AV)(m:R α)(e:α→AV):Prop := ∀ h,m≠.bad→Bh P g args h (L7 e h m)
def Lb:Nat→List AV→List (Nat×AV)
 | _,[]=>[]
 | i,a::l=>(i,a)::Lb (i+1) l
theorem Hj : ∀ (args:List AV) (i t:Nat),Ae (Lb i args) t=.any∨(i≤t∧Ae (Lb i args) t=args.getD (t - i) .und)
 | [],i,t=>.inl rfl
 | a::l,i,t=>by
  simp only [Lb,Ae]
  cases hq:Nat.beq t i with
  | true=>
   have:=Nat.eq_of_beq_eq_true hq
   subst this
   exact .inr ⟨Nat.le_refl _,by simp⟩
  | false=>
   have hne:t≠i:=fun q=>by subst q; simp at hq
   rcases Hj l (i+1) t with h | ⟨h1,h2⟩
   ·exact .inl h
   ·refine .inr ⟨by omega,?_⟩
    simp only [cond_false]
    rw [h2]
    have:t - i=(t - (i+1))+1:=by omega
    rw [this,List.getD_cons_succ]
section
variable {P:Program} [GW P] {f:FuncId} {n:Nat} {α:Type} {m:R α} {e:α→AV}
theorem He {fn : Func} {c : Code} {args : List AV} (N : Nat) (hf : P.funcs[f]? = some fn) (hb : fn.body = some c) (hn : fn.name ≠ "runtime.NumGoroutine") (hnt : fn.ntmps = n) (hl : Nat.ble args.length n = true)
  (hr : ∀ (h0 : O) (ids : List Nat), Ids h0 ids N → WR P f n false (W4 e h0) m [.code c] (Ae (Lb 0 args)) [] (hp h0 ids (List.replicate N none)) .ret) : CP P f args m e := by
 intro h hb'
 refine G3 hf hb hn hnt (by simpa using hl) ?_
 refine Mc N [] fun os h1 h2 h3 h4 => ?_
 have := hr h os ⟨h2, h3, h1⟩ hb'
 rw [Gr h3] at this
 refine Hd (fun t => ?_) this
 rcases Hj args 0 t with h | ⟨_, h⟩
 ·exact .inl h
 ·exact .inr h
section
variable {h0:O} {ids:List Nat} {xs:List (Option AO)} {N:Nat} {l:List (Nat×AV)} {k:List Item} {u:AU}
theorem C5 {fn:Func}{a:α}{vs:List AV}(hf:P.funcs[f]? = some fn)(hI:Ids h0 ids N)(hr:C7 P (hp h0 ids xs) (Ae l) fn.results.toList=some vs)(hz:Fz (hp h0 ids xs) h0 (Ec vs) (e a)) :
  WR P f n false (W4 e h0) (.ok a) (.code .ret::k) (Ae l) [] (hp h0 ids xs) u:=fun _=>
 K5 (Hq hf hr (hI.sub xs) hz rfl ⟨rfl,rfl⟩)
theorem Abs {fn:Func}{a:α}{vs:List AV}(hf:P.funcs[f]? = some fn)(hI:Ids h0 ids N)(hr:C7 P (hp h0 ids xs) (Ae l) fn.results.toList=some vs)(hz:Fz (hp h0 ids xs) h0 (Ec vs) (e a)) :
  WR P f n false (W4 e h0) (.ok a) [] (Ae l) [] (hp h0 ids xs) u:=fun _=>
 O1 (Hq hf hr (hI.sub xs) hz rfl ⟨rfl,rfl⟩)
theorem Dr {fn:Func}{v:PV}{fr:Nat→AV}(hf:P.funcs[f]? = some fn)(hI:Ids h0 ids N):WU P f n false (W4 e h0) (.pan v) (.pan v.av false) fr [] (hp h0 ids xs) u:=fun _=>
 P7 hf (hI.sub xs) (.same _) ⟨rfl,rfl⟩
end
end
def hE:O:=fun _=>none
theorem Le (h:O):Dl hE h:=fun o x hx=>by cases hx
inductive Free:AV→Prop
 | bool (b:Bool):Free (.bool b)
 | int (k:IntKind) (n:Int):Free (.int k n)
 | str (s:List UInt8):Free (.str s)
 | tup (vs:List AV) (h : ∀ i,i<vs.length→Free (vs.getD i .und)):Free (.tup vs)
 | agg (vs:List AV) (h : ∀ i,i<vs.length→Free (vs.getD i .und)):Free (.agg vs)
theorem Free.rv {w:World}{mu mu':Mu}{M M':Nat→Prop}{v:AV}(hv:Free v) : ∀ {c:Value},Rv w mu M v c→Rv w mu' M' v c:=by
 induction hv with
 | bool b=>intro c h; cases h; exact .bool b
 | int k n=>intro c h; cases h; exact .int k n
 | str s=>intro c h; cases h; exact .str s
 | tup vs h ih=>intro c hc; cases hc with | tup _ cs hl hp=>exact .tup vs cs hl fun i hi=>ih i hi (hp i hi)
 | agg vs h ih=>intro c hc; cases hc with | agg _ cs hl hp=>exact .agg vs cs hl fun i hi=>ih i hi (hp i hi)
theorem Free.tup2 {a b:AV}(ha:Free a)(hb:Free b):Free (.tup [a,b]):=.tup _ fun i hi=>by
 match i,hi with
 | 0,_=>exact ha
 | 1,_=>exact hb
theorem Sc.free (x:Sc):Free x.av:=by
 cases x with
 | int k n=>exact .int k n
 | str s=>exact .str s
 | bool b=>exact .bool b
 | unit=>exact .agg [] fun i hi=>by simp at hi
 | two k1 k2 a b=>
  refine .agg _ fun i hi=>?_
  match i,hi with
  | 0,_=>exact .int k1 a
  | 1,_=>exact .int k2 b
 | one k a=>
  refine .agg _ fun i hi=>?_
  match i,hi with
  | 0,_=>exact .int k a
theorem Sim.back {P:Program}[GW P]{B:Base P}{mu mu':Mu}{h:O}{w w':World}(s:Sim B mu h w)(s':Sim B mu' hE w')(e:Bw hE mu w hE mu' w'):Sim B mu' h w'∧Bw h mu w h mu' w':=by
 have hn : ∀ m b,¬ A8 hE m b:=by rintro m b ⟨o,x,l,hx,_⟩; cases hx
 have hold : ∀ b,b<w.heap.size→w'.heap[b]? = w.heap[b]? := fun b hb=>(e.same b hb (hn _ _)).1
 have live : ∀ {o x},h o=some x → ∃ l,mu o x.gen=some l:=by
  intro o x hx
  cases x with
  | rows g st rs=>obtain⟨l,h1,_⟩:=s.rows _ _ _ _ hx; exact⟨l,h1⟩
  | mp g es=>obtain⟨l,h1,_⟩:=s.maps _ _ _ hx; exact⟨l,h1⟩
  | blk g x=>obtain⟨l,h1,_⟩:=s.blks _ _ _ hx; exact⟨l,h1⟩
 have hmut : ∀ b,A8 h mu' b→A8 h mu b:=by
  rintro b ⟨o,x,l,hx,hl,rfl⟩
  obtain⟨l',hl'⟩:=live hx
  have:=e.mu _ _ _ hl'
  rw [hl] at this; cases this
  exact⟨o,x,l,hx,hl',rfl⟩
 have ext:Bw h mu w h mu' w':=⟨e.os,e.tape,e.output,e.size,fun b hb hm=>⟨hold b hb,fun hm'=>hm (hmut b hm')⟩,e.mu⟩
 refine⟨⟨s'.base,s'.muOk,s'.fin,s.finh,?_,?_,?_,s.globE ext,fun o g x hx=>let ⟨l,h1,h2,h3⟩:=s.blks _ _ _ hx; ⟨l,e.mu _ _ _ h1,h2,by rw [hold _ (s.muOk _ _ _ h1).2.1]; exact h3⟩⟩,ext⟩
 ·intro o g st rs hx
  obtain⟨l,h1,h2,h3,h4,h5,h6⟩:=s.rows _ _ _ _ hx
  refine⟨l,e.mu _ _ _ h1,h2,h3,h4,h5,fun i j hi hj=>?_⟩
  obtain⟨c,hc1,hc2⟩:=h6 i j hi hj
  refine⟨c,?_,hc2.ext ext⟩
  rw [cell?_of_heap (w:=w) (w':=w') (a:=⟨l.b,l.base+i * st+j,none⟩) (hold _ (s.muOk _ _ _ h1).2.1)]; exact hc1
 ·intro o g es hx
  obtain⟨l,h1,h2,ens,clock,h3,h4,h5⟩:=s.maps _ _ _ hx
  exact⟨l,e.mu _ _ _ h1,h2,ens,clock,by rw [hold _ (s.muOk _ _ _ h1).2.1]; exact h3,h4,fun i hi=>⟨(h5 i hi).1.ext ext,(h5 i hi).2.ext ext⟩⟩
 ·intro o o' x x' l l' hx hx' hl hl' hb
  obtain⟨m,hm⟩:=live hx
  obtain⟨m',hm'⟩:=live hx'
  have e1:=e.mu _ _ _ hm
  have e2:=e.mu _ _ _ hm'
  rw [hl] at e1; cases e1
  rw [hl'] at e2; cases e2
  exact s.inj _ _ _ _ _ _ hx hx' hm hm' hb
def T7 (h:O):List AV→List AV→Prop
 | [],[]=>True
 | a::l,a'::l'=>Fz h hE a a'∧T7 h l l'
 | _,_=>False
theorem T7.len {h:O} : ∀ {l l':List AV},T7 h l l'→l.length=l'.length ∧ ∀ i,i<l.length→Fz h hE (l.getD i .und) (l'.getD i .und)
 | [],[],_=>⟨rfl,fun i hi=>by simp at hi⟩
 | a::l,a'::l',hx=>by
  obtain⟨h1,h2⟩:=T7.len hx.2
  refine⟨by simp [h1],fun i hi=>?_⟩
  cases i with
  | zero=>exact hx.1
  | succ i=>simpa using h2 i (by simpa using hi)
theorem CP.lend {α:Type}{P:Program}[GW P]{g:FuncId}{args args':List AV}{m:R α}{e:α→AV}{h:O}(hc:CP P g args' m e)(hz:T7 h args args')(hfree : ∀ a,m=.ok a→Free (e a))(hb:m≠.bad) :
  Bh P g args h (L7 e h m):=by
 obtain⟨hbody,hcall⟩:=hc hE hb
 refine⟨hbody,fun B mu w cargs s ha=>?_⟩
 obtain⟨hlen,hfz⟩:=hz.len
 have ha':Gc hE mu w args' cargs.toList:=⟨hlen ▸ ha.1,fun i hi=>Es s (Le h) (hfz i (hlen ▸ hi)) (ha.2 i (hlen ▸ hi))⟩
 refine(hcall B mu w cargs (s.sub (Le h)) ha').mono ?_
 rintro en w' ⟨r,h',mu',⟨rfl,hr⟩,hs',hext,hE'⟩
 obtain⟨k1,k2⟩:=s.back hs' hext
 refine⟨r,h,mu',⟨rfl,hr⟩,k1,k2,?_⟩
 cases hm:m with
 | bad=>exact absurd hm hb
 | ok a=>
  rw [hm] at hr
  subst hr
  cases en with
  | returned c=>exact(hfree a hm).rv hE'
  | panicked _=>exact hE'.elim
  | outgrown=>exact hE'.elim
 | pan v=>
  rw [hm] at hr
  subst hr
  obtain⟨x,rfl,x1,x2,x3⟩:=hE'.panic_inv
  refine⟨x1,x2,?_⟩
  obtain⟨xv,xr,xg⟩:=x
  simp only [PV.av] at x3
  cases x3 with
  | iface _ _ c hc=>exact .iface _ _ c (v.x.free.rv hc)
section
variable {P:Program} [GW P] {f:FuncId} {n:Nat} {d:FK} {β:Type} {Q:Spec β} {ds:List AD} {h:O} {u:AU} {k:List Item} {l:List (Nat×AV)}
variable {all r:List Oper} {ty:TypeId} {pos:String} {after:Array Edge}
theorem Aa4 {α:Type}{t:Nat}{x:Operand}{as0:List Operand}{ts:Array TypeId}{g:FuncId}{fst cap A:List AV}{gd:Option (Nat×Bool)}{mg:R α}{e:α→AV}{rest:α→R β}(ht:Nat.blt t n=true)(hw:Cp all (Ae l) ⟨some t,.call ⟨.value x,⟨as0⟩,ts⟩,ty,pos,after,gd⟩=some true)(hx:ev (Ae l) x=.func (.func g) fst cap)
  (ha:fst++Cz (Ae l) as0++cap=A) (hc:mg≠.bad→Bh P g A h (L7 e h mg)) (hp : ∀ v,mg=.pan v→WU P f n d Q (.pan v) (.pan v.av false) (Ae l) ds h u) (hk : ∀ a,mg=.ok a→WO P f n d Q k all (rest a) r (Ae ((t,e a)::l)) ds h u) :
  WO P f n d Q k all (mg.bind rest) (⟨some t,.call ⟨.value x,⟨as0⟩,ts⟩,ty,pos,after,gd⟩::r) (Ae l) ds h u:=by
 refine Fs (by simpa [Dd] using ht) hw fun hb K U hK hU=>?_
 simp only [Dm,hx]
 rw [ha]
 have hmb:mg≠.bad:=fun q=>by rw [q] at hb; exact Q.bad hb
 refine(hc hmb).mono fun r' h' hr=>?_
 obtain⟨rfl,hr⟩:=hr
 cases hm:mg with
 | bad=>exact absurd hm hmb
 | ok a=>
  rw [hm] at hr hb hK
  subst hr
  exact hK _ _ _ _ (by rw [C0]; exact hk a hm)
 | pan v=>
  rw [hm] at hr hb hU
  subst hr
  exact hU _ _ _ _ _ (hp v hm hb)
theorem Pz {dst:Option Tmp}{x:Operand}{v:PV}(hd:Dd n dst=true)(hx:ev (Ae l) x=v.av)(hp:WU P f n d Q (.pan v) (.pan v.av false) (Ae l) ds h u) :
  WO P f n d Q k all (.pan v) (⟨dst,.panic x,ty,pos,after,none⟩::r) (Ae l) ds h u:=by
 refine Fs hd rfl fun hb K U hK hU=>?_
 simp only [Dm,hx,PV.av]
 exact hU _ _ _ _ _ (hp hb)
theorem Fh {α:Type}{m:R β}{todo:List Item}{fr:Nat→AV}{st t:Nat}{e:α→List AV}{L:List α}(hv:fr t=.sl st (L.map e))(hk:L.length≤Do→WR P f n d Q m todo fr ds h u):WR P f n d Q m todo fr ds h u:=fun hb=>
 Abp t fun hw=>hk (by rw [hv] at hw; simpa using hw.lim) hb
end
end Go.Am
namespace Go.Am
open Go
set_option linter.unusedSimpArgs false
set_option linter.unusedVariables false
set_option linter.unusedSectionVars false
def Dc {α σ:Type}(body:Nat→α→σ→R σ):Nat→List α→σ→R σ
 | _,[],s=>.ok s
 | k,a::l,s=>(body k a s).bind fun s'=>Dc body (k+1) l s'
@[simp] theorem Ac0 {α σ:Type}(body:Nat→α→σ→R σ)(k:Nat)(s:σ):Dc body k [] s=.ok s:=rfl
theorem Wu {α σ:Type}(body:Nat→α→σ→R σ)(k:Nat)(a:α)(l:List α)(s:σ):Dc body k (a::l) s=(body k a s).bind fun s'=>Dc body (k+1) l s':=rfl
section
variable {P:Program} [GW P] {f:FuncId} {n:Nat} {d:FK} {β γ:Type} {Q:Spec β} {fr:Nat→AV} {ds:List AD} {h:O} {u:AU} {k:List Item} {l:List (Nat×AV)} {F:γ→R β}
theorem Cf {m:R β}{todo:List Item}(hr:WR P f n d Q (m.bind R.ok) todo fr ds h u):WR P f n d Q m todo fr ds h u:=by rwa [R.bind_ok] at hr
theorem Ai {m m':R γ}{todo:List Item}(e:m=m')(hr:WR P f n d Q (m'.bind F) todo fr ds h u):WR P f n d Q (m.bind F) todo fr ds h u:=e ▸ hr
theorem Lm {c:Operand}{x y:Code}{p:Prop}[Decidable p]{A B:R γ}(hc:ev fr c=.bool (decide p))(ht:p→WR P f n d Q (A.bind F) (.code x::k) fr ds h u)(hf:¬ p→WR P f n d Q (B.bind F) (.code y::k) fr ds h u):WR P f n d Q ((if p then A else B).bind F) (.code (.cond c x y)::k) fr ds h u:=by
 have e:(if p then A else B).bind F=if p then A.bind F else B.bind F:=by split <;> rfl
 rw [e]; exact Abh hc ht hf
theorem Ds {c:Operand}{x y:Code}{b:Bool}{A B:R γ}(hc:ev fr c=.bool b)(ht:b=true→WR P f n d Q (A.bind F) (.code x::k) fr ds h u)(hf:b=false→WR P f n d Q (B.bind F) (.code y::k) fr ds h u):WR P f n d Q ((if b then A else B).bind F) (.code (.cond c x y)::k) fr ds h u:=by
 have e:(if b then A else B).bind F=if b then A.bind F else B.bind F:=by split <;> rfl
 rw [e]; exact Aa0 hc ht hf
theorem Mt {π:Type}(rest:π→R γ)(St:π→(Nat→AV)→O→Prop){m:R γ}{i:Item}(hk : ∀ p fr h,St p fr h→WR P f n d Q ((rest p).bind F) k fr ds h u)
  (hx:(∀ p fr h,St p fr h→WR P f n d Q ((rest p).bind F) k fr ds h u)→WR P f n d Q (m.bind F) (i::k) fr ds h u):WR P f n d Q (m.bind F) (i::k) fr ds h u:=hx hk
theorem Aah {σ ε:Type}{c:Code}(body:σ→R (σ ⊕ ε))(rest:ε→R γ)(St:σ→(Nat→AV)→O→Prop)(s0:σ)(hs:St s0 fr h)
  (round : ∀ W:σ→R ε,(∀ s fr h,St s fr h→WR P f n d Q (((W s).bind rest).bind F) (.inLoop c::k) fr ds h u) → ∀ s fr h,St s fr h →
   WR P f n d Q ((body s).bind fun x=>match x with | .inl s'=>((W s').bind rest).bind F | .inr e=>(rest e).bind F) (.code c::.inLoop c::k) fr ds h u) :
  WR P f n d Q (((loop body s0).bind rest).bind F) (.code (.loop c)::k) fr ds h u:=by
 refine Kz (R.bind_assoc _ _ _) (Aaz body (fun x=>(rest x).bind F) St s0 hs fun W hW s fr h hs=>?_)
 have:=round W (fun s fr h hs=>Kz (R.bind_assoc _ _ _) (hW s fr h hs)) s fr h hs
 refine Kz ?_ this
 congr 1
 funext x
 cases x with
 | inl s'=>exact(R.bind_assoc _ _ _).symm
 | inr e=>rfl
theorem Vx {α σ ε:Type}{c:Code}(L:List α)(body:Nat→α→σ→R (σ ⊕ ε))(rest:σ ⊕ ε→R γ)(St:Nat→σ→(Nat→AV)→O→Prop)(s0:σ)(hs:St 0 s0 fr h)
  (round : ∀ (j:Nat) (a:α),L[j]? = some a → ∀ W:σ→R (σ ⊕ ε),(∀ s fr h,St (j+1) s fr h→WR P f n d Q (((W s).bind rest).bind F) (.inLoop c::k) fr ds h u) → ∀ s fr h,St j s fr h →
   WR P f n d Q ((body j a s).bind fun x=>match x with | .inl s'=>((W s').bind rest).bind F | .inr e=>(rest (.inr e)).bind F) (.code c::.inLoop c::k) fr ds h u)
  (fin : ∀ s fr h,St L.length s fr h→WR P f n d Q ((rest (.inl s)).bind F) (.code c::.inLoop c::k) fr ds h u) :
  WR P f n d Q (((each body 0 L s0).bind rest).bind F) (.code (.loop c)::k) fr ds h u:=by
 refine Kz (R.bind_assoc _ _ _) (Aay L body (fun x=>(rest x).bind F) St s0 hs (fun j a ha W hW s fr h hs=>?_) fin)
 have:=round j a ha W (fun s fr h hs=>Kz (R.bind_assoc _ _ _) (hW s fr h hs)) s fr h hs
 refine Kz ?_ this
 congr 1
 funext x
 cases x with
 | inl s'=>exact(R.bind_assoc _ _ _).symm
 | inr e=>rfl
theorem Yn {α σ:Type}(body:Nat→α→σ→R σ) : ∀ (L:List α) (j:Nat) (s:σ),(each (ε:=Empty) (fun j a s=>(body j a s).bind fun s'=>.ok (.inl s')) j L s).bind (fun | .inl s=>.ok s | .inr e=>nomatch e)=Dc body j L s
 | [],j,s=>rfl
 | a::l,j,s=>by
  rw [J2,Wu]
  cases body j a s with
  | ok s'=>exact Yn body l (j+1) s'
  | pan v=>rfl
  | bad=>rfl
theorem Zm {α σ:Type}{c:Code}(L:List α)(body:Nat→α→σ→R σ)(rest:σ→R γ)(St:Nat→σ→(Nat→AV)→O→Prop)(s0:σ)(hs:St 0 s0 fr h)
  (round : ∀ (j:Nat) (a:α),L[j]? = some a → ∀ W:σ→R σ,(∀ s fr h,St (j+1) s fr h→WR P f n d Q (((W s).bind rest).bind F) (.inLoop c::k) fr ds h u) → ∀ s fr h,St j s fr h →
   WR P f n d Q ((body j a s).bind fun s'=>((W s').bind rest).bind F) (.code c::.inLoop c::k) fr ds h u)
  (fin : ∀ s fr h,St L.length s fr h→WR P f n d Q ((rest s).bind F) (.code c::.inLoop c::k) fr ds h u) :
  WR P f n d Q (((Dc body 0 L s0).bind rest).bind F) (.code (.loop c)::k) fr ds h u:=by
 rw [← Yn]
 rw [R.bind_assoc (each _ _ _ _)]
 refine Vx (ε:=Empty) L _ _ St s0 hs (fun j a ha W hW s fr h hs=>?_) (fun s fr h hs=>fin s fr h hs)
 have:=round j a ha (fun s=>(W s).bind fun | .inl s=>.ok s | .inr e=>nomatch e) (fun s fr h hs=>by rw [R.bind_assoc (W s)]; exact hW s fr h hs) s fr h hs
 refine Kz ?_ this
 rw [R.bind_assoc]
 congr 1
 funext s'
 simp only [R.ok_bind]
 cases W s' with
 | ok x=>
  cases x with
  | inl s=>rfl
  | inr e=>exact nomatch e
 | pan v=>rfl
 | bad=>rfl
section
variable {all r:List Oper} {ty:TypeId} {pos:String} {after:Array Edge}
theorem J1 {α:Type}{L:List α}{i:Int}{rest:α→R γ}{ops:List Oper}(hk : ∀ a,0≤i→L[i.toNat]? = some a→WO P f n d Q k all ((rest a).bind F) ops fr ds h u):WO P f n d Q k all (((Hm L i).bind rest).bind F) ops fr ds h u:=
 P8 (R.bind_assoc _ _ _) (Ab8 hk)
theorem H3 {p:Prop}[Decidable p]{rest:R γ}{ops:List Oper}(hk:p→WO P f n d Q k all (rest.bind F) ops fr ds h u):WO P f n d Q k all ((if p then rest else .bad).bind F) ops fr ds h u:=by
 have e:(if p then rest else .bad).bind F=if p then rest.bind F else .bad:=by split <;> rfl
 rw [e]; exact Aan hk
theorem Aaw {b:Bool}{A B:R γ}{ops:List Oper}(ht:b=true→WO P f n d Q k all (A.bind F) ops fr ds h u)(hf:b=false→WO P f n d Q k all (B.bind F) ops fr ds h u):WO P f n d Q k all ((if b then A else B).bind F) ops fr ds h u:=by
 have e:(if b then A else B).bind F=if b then A.bind F else B.bind F:=by split <;> rfl
 rw [e]; exact Aag ht hf
theorem B9 {α:Type}{t:Nat}{x:Operand}{as0:List Operand}{ts:Array TypeId}{g:FuncId}{fst cap:List AV}{gd:Option (Nat×Bool)}(A:List AV){mg:R α}{e:α→AV}{rest:α→R γ}(ht:Nat.blt t n=true)(hw:Cp all (Ae l) ⟨some t,.call ⟨.value x,⟨as0⟩,ts⟩,ty,pos,after,gd⟩=some true)(hx:ev (Ae l) x=.func (.func g) fst cap)
  (ha:fst++Cz (Ae l) as0++cap=A) (hc:mg≠.bad→Bh P g A h (L7 e h mg)) (hp : ∀ v,mg=.pan v→WU P f n d Q (.pan v) (.pan v.av false) (Ae l) ds h u) (hk : ∀ a,mg=.ok a→WO P f n d Q k all ((rest a).bind F) r (Ae ((t,e a)::l)) ds h u) :
  WO P f n d Q k all ((mg.bind rest).bind F) (⟨some t,.call ⟨.value x,⟨as0⟩,ts⟩,ty,pos,after,gd⟩::r) (Ae l) ds h u:=
 P8 (R.bind_assoc _ _ _) (Aa4 ht hw hx ha hc hp hk)
end
end
end Go.Am
namespace Go.Am
open Go
section
variable {α β γ δ ε ζ η θ τ:Type} {κ:Sort _}
@[reducible] def Ia (f:α→β→κ):α×β→κ | (a,b)=>f a b
@[simp] theorem Aec (f:α→β→κ)(a:α)(b:β):Ia f (a,b)=f a b:=rfl
@[reducible] def D9 (f:α→κ)(g:β→κ):α ⊕ β→κ | .inl a=>f a | .inr b=>g b
@[simp] theorem Hy (f:α→κ)(g:β→κ)(a:α):D9 f g (.inl a)=f a:=rfl
@[simp] theorem Ad3 (f:α→κ)(g:β→κ)(b:β):D9 f g (.inr b)=g b:=rfl
end
def Up {σ ε γ β:Type}(W:σ→R ε)(rest:ε→R γ)(F:γ→R β):σ ⊕ ε→R β
 | .inl s'=>((W s').bind rest).bind F
 | .inr e=>(rest e).bind F
def T2 {σ ε γ β:Type}(W:σ→R (σ ⊕ ε))(rest:σ ⊕ ε→R γ)(F:γ→R β):σ ⊕ ε→R β
 | .inl s'=>((W s').bind rest).bind F
 | .inr e=>(rest (.inr e)).bind F
def Xr {σ γ β:Type}(W:σ→R σ)(rest:σ→R γ)(F:γ→R β):σ→R β
 | s'=>((W s').bind rest).bind F
def Qz {α γ β:Type}(rest:α→R γ)(F:γ→R β):α→R β
 | a=>(rest a).bind F
section
variable {P:Program} [GW P] {f:FuncId} {n:Nat} {d:FK} {β γ:Type} {Q:Spec β} {fr:Nat→AV} {ds:List AD} {h:O} {u:AU} {k:List Item} {l:List (Nat×AV)} {F:γ→R β}
theorem O2 {σ ε:Type}{W:σ→R ε}{rest:ε→R γ}{todo:List Item}{s:σ}(hr:WR P f n d Q (((W s).bind rest).bind F) todo fr ds h u):WR P f n d Q ((R.ok (.inl s)).bind (Up W rest F)) todo fr ds h u:=hr
theorem Rn {σ ε:Type}{W:σ→R ε}{rest:ε→R γ}{todo:List Item}{e:ε}(hr:WR P f n d Q ((rest e).bind F) todo fr ds h u):WR P f n d Q ((R.ok (.inr e)).bind (Up W rest F)) todo fr ds h u:=hr
theorem H7 {σ ε:Type}{W:σ→R (σ ⊕ ε)}{rest:σ ⊕ ε→R γ}{todo:List Item}{s:σ}(hr:WR P f n d Q (((W s).bind rest).bind F) todo fr ds h u):WR P f n d Q ((R.ok (.inl s)).bind (T2 W rest F)) todo fr ds h u:=hr
theorem H9 {σ ε:Type}{W:σ→R (σ ⊕ ε)}{rest:σ ⊕ ε→R γ}{todo:List Item}{e:ε}(hr:WR P f n d Q ((rest (.inr e)).bind F) todo fr ds h u):WR P f n d Q ((R.ok (.inr e)).bind (T2 W rest F)) todo fr ds h u:=hr
theorem L1 {σ:Type}{W:σ→R σ}{rest:σ→R γ}{todo:List Item}{s:σ}(hr:WR P f n d Q (((W s).bind rest).bind F) todo fr ds h u):WR P f n d Q ((R.ok s).bind (Xr W rest F)) todo fr ds h u:=hr
theorem I1 {α' β':Type}{f1:α'→R γ}{g1:β'→R γ}{todo:List Item}{b:β'}(hr:WR P f n d Q ((g1 b).bind F) todo fr ds h u):WR P f n d Q ((D9 f1 g1 (.inr b)).bind F) todo fr ds h u:=hr
theorem Pr {σ ε:Type}{c:Code}(body:σ→R (σ ⊕ ε))(rest:ε→R γ)(St:σ→(Nat→AV)→O→Prop)(s0:σ)(hs:St s0 fr h)
  (round : ∀ W:σ→R ε,(∀ s fr h,St s fr h→WR P f n d Q (((W s).bind rest).bind F) (.inLoop c::k) fr ds h u) → ∀ s fr h,St s fr h →
   WR P f n d Q ((body s).bind (Up W rest F)) (.code c::.inLoop c::k) fr ds h u) :
  WR P f n d Q (((loop body s0).bind rest).bind F) (.code (.loop c)::k) fr ds h u:=
 Aah body rest St s0 hs fun W hW s fr h hs=>by
  refine Kz ?_ (round W hW s fr h hs)
  congr 1
theorem Gx {α σ ε:Type}{c:Code}(L:List α)(body:Nat→α→σ→R (σ ⊕ ε))(rest:σ ⊕ ε→R γ)(St:Nat→σ→(Nat→AV)→O→Prop)(s0:σ)(hs:St 0 s0 fr h)
  (round : ∀ (j:Nat) (a:α),L[j]? = some a → ∀ W:σ→R (σ ⊕ ε),(∀ s fr h,St (j+1) s fr h→WR P f n d Q (((W s).bind rest).bind F) (.inLoop c::k) fr ds h u) → ∀ s fr h,St j s fr h →
   WR P f n d Q ((body j a s).bind (T2 W rest F)) (.code c::.inLoop c::k) fr ds h u)
  (fin : ∀ s fr h,St L.length s fr h→WR P f n d Q ((rest (.inl s)).bind F) (.code c::.inLoop c::k) fr ds h u) :
  WR P f n d Q (((each body 0 L s0).bind rest).bind F) (.code (.loop c)::k) fr ds h u:=
 Vx L body rest St s0 hs (fun j a ha W hW s fr h hs=>by
  refine Kz ?_ (round j a ha W hW s fr h hs)
  congr 1) fin
theorem Hi {α σ:Type}{c:Code}(L:List α)(body:Nat→α→σ→R σ)(rest:σ→R γ)(St:Nat→σ→(Nat→AV)→O→Prop)(s0:σ)(hs:St 0 s0 fr h)
  (round : ∀ (j:Nat) (a:α),L[j]? = some a → ∀ W:σ→R σ,(∀ s fr h,St (j+1) s fr h→WR P f n d Q (((W s).bind rest).bind F) (.inLoop c::k) fr ds h u) → ∀ s fr h,St j s fr h →
   WR P f n d Q ((body j a s).bind (Xr W rest F)) (.code c::.inLoop c::k) fr ds h u)
  (fin : ∀ s fr h,St L.length s fr h→WR P f n d Q ((rest s).bind F) (.code c::.inLoop c::k) fr ds h u) :
  WR P f n d Q (((Dc body 0 L s0).bind rest).bind F) (.code (.loop c)::k) fr ds h u:=Zm L body rest St s0 hs round fin
theorem Nx {c:Operand}{x y:Code}{b:Bool}{A B:R γ}(hc:ev fr c=.bool (!b))(ht:b=true→WR P f n d Q (A.bind F) (.code y::k) fr ds h u)(hf:b=false→WR P f n d Q (B.bind F) (.code x::k) fr ds h u):WR P f n d Q ((if b then A else B).bind F) (.code (.cond c x y)::k) fr ds h u:=by
 intro hb
 cases hq:b with
 | true=>simp only [hq,if_true] at hb ⊢; exact Io (b:=false) (by rw [hc,hq]; rfl) (ht hq hb)
 | false=>simp only [hq,Bool.false_eq_true,if_false] at hb ⊢; exact Io (b:=true) (by rw [hc,hq]; rfl) (hf hq hb)
section
variable {all r:List Oper} {ty:TypeId} {pos:String} {after:Array Edge}
theorem H8 {π:Type}{m:R γ}{ops:List Oper}(i:Nat)(rest:π→R γ)(St:π→(Nat→AV)→O→Prop)(hk : ∀ p fr h,St p fr h→WO P f n d Q k all ((rest p).bind F) (ops.drop i) fr ds h u)
  (hx:(∀ p fr h,St p fr h→WO P f n d Q k all ((rest p).bind F) (ops.drop i) fr ds h u)→WO P f n d Q k all (m.bind F) ops fr ds h u):WO P f n d Q k all (m.bind F) ops fr ds h u:=hx hk
theorem Bk {m:R β}{ops:List Oper}(b:Bool)(ht:b=true→WO P f n d Q k all m ops fr ds h u)(hf:b=false→WO P f n d Q k all m ops fr ds h u):WO P f n d Q k all m ops fr ds h u:=by
 cases hq:b with
 | true=>exact ht hq
 | false=>exact hf hq
theorem I8 {α:Type}{b:Bool}{A B:R α}{rest:α→R γ}{ops:List Oper}(ht:b=true→WO P f n d Q k all (A.bind (Qz rest F)) ops fr ds h u)(hf:b=false→WO P f n d Q k all (B.bind (Qz rest F)) ops fr ds h u):WO P f n d Q k all (((if b then A else B).bind rest).bind F) ops fr ds h u:=by
 have e : ∀ X:R α,(X.bind rest).bind F=X.bind (Qz rest F):=fun X=>R.bind_assoc _ _ _
 rw [e]
 exact Aaw ht hf
theorem C1 {α:Type}{rest:α→R γ}{ops:List Oper}{a:α}(hr:WO P f n d Q k all ((rest a).bind F) ops fr ds h u):WO P f n d Q k all ((R.ok a).bind (Qz rest F)) ops fr ds h u:=hr
end
end
theorem Nf {a b:Bool}(h:a=true):AV.bool b=.bool (a&&b):=by rw [h]; rfl
theorem M8 {a b:Bool}(h:a=false):AV.bool false=.bool (a&&b):=by rw [h]; rfl
theorem Fe {a b:Bool}(h:a=true):AV.bool true=.bool (a||b):=by rw [h]; rfl
theorem E9 {a b:Bool}(h:a=false):AV.bool b=.bool (a||b):=by rw [h]; rfl
section
variable {P:Program} [GW P] {f:FuncId} {n:Nat} {d:FK} {β:Type} {Q:Spec β} {m:R β} {fr:Nat→AV} {ds:List AD} {h:O} {u:AU} {k:List Item} {l:List (Nat×AV)}
theorem Dj {c:Operand}{x y:Code}{p:Prop}[Decidable p](hc:ev fr c=.bool (decide p))(hp:p)(hr:WR P f n d Q m (.code x::k) fr ds h u):WR P f n d Q m (.code (.cond c x y)::k) fr ds h u:=fun hb=>Io (b:=true) (by rw [hc]; simp [hp]) (hr hb)
theorem Di {c:Operand}{x y:Code}{p:Prop}[Decidable p](hc:ev fr c=.bool (decide p))(hp:¬ p)(hr:WR P f n d Q m (.code y::k) fr ds h u):WR P f n d Q m (.code (.cond c x y)::k) fr ds h u:=fun hb=>Io (b:=false) (by rw [hc]; simp [hp]) (hr hb)
end
inductive LF (h h2:O):List AV→List AV→Prop
 | nil:LF h h2 [] []
 | cons {a b:AV} {l l':List AV} (hx:Fz h h2 a b) (hr:LF h h2 l l'):LF h h2 (a::l) (b::l')
theorem LF.all {h h2:O}{l l':List AV}(hx:LF h h2 l l'):l.length=l'.length ∧ ∀ i,i<l.length→Fz h h2 (l.getD i .und) (l'.getD i .und):=by
 induction hx with
 | nil=>exact⟨rfl,fun i hi=>by simp at hi⟩
 | cons hx hr ih=>
  refine⟨by simp [ih.1],fun i hi=>?_⟩
  cases i with
  | zero=>exact hx
  | succ i=>simpa using ih.2 i (by simpa using hi)
theorem Fz.tupL {h h2:O}{l l':List AV}(hx:LF h h2 l l'):Fz h h2 (.tup l) (.tup l'):=.tup l l' hx.all.1 hx.all.2
theorem Fz.aggL {h h2:O}{l l':List AV}(hx:LF h h2 l l'):Fz h h2 (.agg l) (.agg l'):=.agg l l' hx.all.1 hx.all.2
theorem LF.lfz {h:O}{l l':List AV}(hx:LF h hE l l'):T7 h l l':=by
 induction hx with
 | nil=>trivial
 | cons hx hr ih=>exact⟨hx,ih⟩
end Go.Am
namespace Go.Am
open Go
set_option linter.unusedSimpArgs false
set_option linter.unusedVariables false
set_option linter.unusedSectionVars false
section
variable {P:Program} [GW P] {h:O} {fr:Nat→AV}
theorem Fb:C7 P h fr []=some []:=rfl
theorem Ju {t:Nat}{r:List ResultVar}{vs:List AV}(hr:C7 P h fr r=some vs):C7 P h fr (.tmp t::r)=some (fr t::vs):=by simp only [C7,hr,Option.map_some]
theorem Hp {a:Nat}{t:TypeId}{r:List ResultVar}{v:AV}{vs:List AV}(hv:Ha P h t (fr a)=some v)(hr:C7 P h fr r=some vs):C7 P h fr (.cell a t::r)=some (v::vs):=by simp only [C7,hr,hv]
theorem Qy {α:Type}{e:α→List AV}{L:List α}{st n:Nat}{b:Bool}(hs:st=n):H1 P h n b (.sl st (L.map e))=some (L.map e):=by simp only [H1,if_pos hs]
end
section
variable {P:Program} [GW P] {f:FuncId} {n:Nat} {d:FK} {β:Type} {Q:Spec β} {m:R β} {ds:List AD} {u:AU} {k:List Item} {l:List (Nat×AV)}
variable {all r:List Oper} {ty:TypeId} {pos:String} {after:Array Edge}
variable {h0:O} {ids:List Nat} {xs:List (Option AO)} {N:Nat}
theorem Bz {ops:List Oper}{fr:Nat→AV}{h:O}(i:Nat)(l':List (Nat×AV))(hk:WO P f n d Q k all m (ops.drop i) (Ae l') ds h u)(hx:WO P f n d Q k all m (ops.drop i) (Ae l') ds h u→WO P f n d Q k all m ops fr ds h u):WO P f n d Q k all m ops fr ds h u:=hx hk
section
variable {α:Type} {e:α→List AV} {L L2:List α} {v:AV} {g st j:Nat}
theorem W3 {sT xT et:TypeId}{a1 b1 a2 b2:Nat}{z1 z2:List AV}{E:TI}{s x:Operand}{K2:TK}{fr:Nat→AV}{K:AV→O→Prop}(hI:Ids h0 ids N)(hl:xs.length=N)(hjn:Nat.blt j N=true)
  (hs:ev fr s=v) (hv:Co v (ix ids j) g L.length) (hj:xs[j]? = some (Az v g st (L.map e)))
  (hxv:H1 P (hp h0 ids xs) E.size (decide (E.k=.int .u8)) (ev fr x)=some (L2.map e))
  (hS:ti P sT=some ⟨.sl et,a1,b1,z1⟩) (hX:ti P xT=some ⟨K2,a2,b2,z2⟩) (hK2:K2.many=true) (hE:ti P et=some E) (hst:st=E.size) (hsz:Nat.blt 0 E.size=true) (hby:Nat.blt 0 E.bytes=true) (hlim:(L.length+L2.length) * E.bytes≤Do)
  (hk : ∀ v' g',Co v' (ix ids j) g' (L++L2).length→K v' (hp h0 ids (xs.set j (Az v' g' st ((L++L2).map e))))) :
  Ch P fr (hp h0 ids xs) (.call ⟨.builtin .append,⟨[s,x]⟩,⟨[sT,xT]⟩⟩) K:=by
 have hsz':0<E.size:=by simpa using hsz
 have hby':0<E.bytes:=by simpa using hby
 simp only [Ch,F3,Cz,List.map,Hz,hS,hX,hE,hs,hxv,hK2,hsz',hby',true_and,List.length_map]
 rcases hv with⟨rfl,hn⟩ | rfl
 ·have:L=[]:=List.length_eq_zero_iff.1 hn
  subst this
  by_cases h2:L2.length=0
  ·have:L2=[]:=List.length_eq_zero_iff.1 h2
   subst this
   simp only [List.length_nil,if_true]
   have:=hk .emp g (.inl ⟨rfl,rfl⟩)
   have e1:xs.set j (Az .emp g st (([]++[]:List α).map e))=xs:=by
    apply List.ext_getElem?
    intro i
    rw [List.getElem?_set]
    split
    ·rename_i hq; subst hq
     split
     ·exact hj.symm
     ·rename_i hq; rw [List.getElem?_eq_none (by omega)]
    ·rfl
   rw [e1] at this
   exact this
  ·rw [if_neg h2]
   refine⟨by simpa using hlim,J7 (ix ids j) (hI.at hl hj) fun g'=>?_⟩
   rw [hI.set hl hjn]
   have:=hk (.ref (ix ids j) g' 0 L2.length) g' (.inr (by simp))
   simp only [Az,List.nil_append] at this
   rw [← hst]
   exact this
 ·have ha:=hI.at hl hj
  simp only [Az] at ha
  simp only [ha]
  refine⟨trivial,hst,by simp,hlim,fun g'=>?_⟩
  rw [hI.set hl hjn]
  have:=hk (.ref (ix ids j) g' 0 (L.length+L2.length)) g' (.inr (by simp))
  simp only [Az,List.map_append] at this
  have e1:(List.drop 0 (List.map e L)).take L.length=List.map e L:=by rw [List.drop_zero,List.take_of_length_le (by simp)]
  rw [e1]
  exact this
theorem Lt {t:Nat}{sT xT et:TypeId}{a1 b1 a2 b2:Nat}{z1 z2:List AV}{E:TI}{s x:Operand}{K2:TK}(hI:Ids h0 ids N)(hl:xs.length=N)(hjn:Nat.blt j N=true)(ht:Nat.blt t n=true)
  (hs:ev (Ae l) s=v) (hv:Co v (ix ids j) g L.length) (hj:xs[j]? = some (Az v g st (L.map e)))
  (hxv:H1 P (hp h0 ids xs) E.size (decide (E.k=.int .u8)) (ev (Ae l) x)=some (L2.map e))
  (hS:ti P sT=some ⟨.sl et,a1,b1,z1⟩) (hX:ti P xT=some ⟨K2,a2,b2,z2⟩) (hK2:K2.many=true) (hE:ti P et=some E) (hst:st=E.size) (hsz:Nat.blt 0 E.size=true) (hby:Nat.blt 0 E.bytes=true) (hlim:(L.length+L2.length) * E.bytes≤Do)
  (hk : ∀ v' g',Co v' (ix ids j) g' (L++L2).length→WO P f n d Q k all m r (Ae ((t,v')::l)) ds (hp h0 ids (xs.set j (Az v' g' st ((L++L2).map e)))) u) :
  WO P f n d Q k all m (⟨some t,.call ⟨.builtin .append,⟨[s,x]⟩,⟨[sT,xT]⟩⟩,ty,pos,after,none⟩::r) (Ae l) ds (hp h0 ids xs) u:=
 Nt ht (fun _ _=>rfl) fun K hK=>W3 hI hl hjn hs hv hj hxv hS hX hK2 hE hst hsz hby hlim fun v' g' hv'=>hK _ _ (hk v' g' hv')
theorem Aa6 {fr:Nat→AV}{K:AV→O→Prop}{sT et:TypeId}{a1 b1:Nat}{z1:List AV}{E:TI}{h:O}(hS:ti P sT=some ⟨.sl et,a1,b1,z1⟩)(hE:ti P et=some E)
  (hk:K .emp h) :
  Ch P fr h (.buildSlice sT 0 ⟨[]⟩) K:=by
 simp only [Ch,Dx,hS,hE]
 rw [if_pos trivial]
 exact⟨rfl,.inl hk⟩
inductive RowSim:List AV→List AV→Prop
 | nil:RowSim [] []
 | cons {a b:AV} {l l':List AV} (h:CellSim a b) (r:RowSim l l'):RowSim (a::l) (b::l')
inductive RowsSimL:List (List AV)→List (List AV)→Prop
 | nil:RowsSimL [] []
 | cons {a b:List AV} {l l':List (List AV)} (h:RowSim a b) (r:RowsSimL l l'):RowsSimL (a::l) (b::l')
theorem RowSim.refl : ∀ l:List AV,RowSim l l
 | []=>.nil
 | a::l=>.cons (.same a) (RowSim.refl l)
theorem RowSim.get {l l':List AV}(h:RowSim l l') : ∀ j,j<l.length→CellSim (l.getD j .und) (l'.getD j .und):=by
 induction h with
 | nil=>intro j hj; simp at hj
 | cons h r ih=>
  intro j hj
  cases j with
  | zero=>exact h
  | succ j=>simpa using ih j (by simpa using hj)
theorem RowsSimL.sim {α:Type}{e:α→List AV}{L:List α}{st:Nat}{rows:List (List AV)}(h:RowsSimL rows (L.map e))(hr : ∀ x,Bf st (e x))(hl : ∀ r ∈ rows,r.length=st):RowsSim st rows (L.map e):=by
 have key : ∀ {rows rows':List (List AV)},RowsSimL rows rows'→rows'.length=rows.length ∧ ∀ i,i<rows.length→RowSim (rows.getD i []) (rows'.getD i []):=by
  intro rows rows' h
  induction h with
  | nil=>exact⟨rfl,fun i hi=>by simp at hi⟩
  | cons h r ih=>
   refine⟨by simp [ih.1],fun i hi=>?_⟩
   cases i with
   | zero=>exact h
   | succ i=>simpa using ih.2 i (by simpa using hi)
 obtain⟨k1,k2⟩:=key h
 refine⟨k1,fun r hr'=>by obtain⟨x,_,rfl⟩:=List.mem_map.1 hr'; exact hr x,fun i j hi hj=>(k2 i hi).get j ?_⟩
 rw [hl _ (by rw [show rows.getD i []=rows[i] by simp [List.getD,hi]]; exact List.getElem_mem hi)]
 exact hj
theorem O9 {α:Type}{e:α→List AV}{L:List α}{st:Nat}{fr:Nat→AV}{K:AV→O→Prop}{sT et:TypeId}{a1 b1 c:Nat}{z1:List AV}{E:TI}{ps:List (Nat×Operand)}{h:O}{rows:List (List AV)}(hS:ti P sT=some ⟨.sl et,a1,b1,z1⟩)(hE:ti P et=some E)
  (hc:Nat.beq c 0=false) (hsz:Nat.blt 0 E.size=true) (hlim:Nat.ble (c * E.size) 16777216=true) (hz:E.z.all AV.flat=true) (hf:Iq E.size (List.replicate c E.z) (If fr ps)=some rows) (hsim:RowsSimL rows (L.map e)) (hr : ∀ x,Bf st (e x)) (hrl:rows.all (fun r=>Nat.beq r.length st)=true) (hst:st=E.size)
  (hk:K (.sl st (L.map e)) h):Ch P fr h (.buildSlice sT c ⟨ps⟩) K:=by
 have hc':c≠0:=fun q=>by rw [q] at hc; cases hc
 have hsz':0<E.size:=by simpa using hsz
 have hlim':c * E.size≤2 ^ 24:=by simpa using hlim
 simp only [Ch,Dx,hS,hE]
 rw [if_neg hc']
 refine⟨hsz',hlim',hz,?_⟩
 rw [hf]
 exact⟨L.map e,hst ▸ hsim.sim hr fun r hr'=>by simpa using List.all_eq_true.1 hrl r hr',.inl (hst ▸ hk)⟩
theorem Fr {α:Type}{e:α→List AV}{L:List α}{st t:Nat}{sT et:TypeId}{a1 b1 c:Nat}{z1:List AV}{E:TI}{ps:List (Nat×Operand)}{h:O}{rows:List (List AV)}(ht:Nat.blt t n=true)(hS:ti P sT=some ⟨.sl et,a1,b1,z1⟩)(hE:ti P et=some E)
  (hc:Nat.beq c 0=false) (hsz:Nat.blt 0 E.size=true) (hlim:Nat.ble (c * E.size) 16777216=true) (hz:E.z.all AV.flat=true) (hf:Iq E.size (List.replicate c E.z) (If (Ae l) ps)=some rows) (hsim:RowsSimL rows (L.map e)) (hr : ∀ x,Bf st (e x)) (hrl:rows.all (fun r=>Nat.beq r.length st)=true) (hst:st=E.size)
  (hk:WO P f n d Q k all m r (Ae ((t,.sl st (L.map e))::l)) ds h u):WO P f n d Q k all m (⟨some t,.buildSlice sT c ⟨ps⟩,ty,pos,after,none⟩::r) (Ae l) ds h u:=
 Nt ht (fun _ _=>rfl) fun K hK=>O9 hS hE hc hsz hlim hz hf hsim hr hrl hst (hK _ _ hk)
theorem Abr {t:Nat}{sT et:TypeId}{a1 b1:Nat}{z1:List AV}{E:TI}{h:O}(ht:Nat.blt t n=true)(hS:ti P sT=some ⟨.sl et,a1,b1,z1⟩)(hE:ti P et=some E)
  (hk:WO P f n d Q k all m r (Ae ((t,.emp)::l)) ds h u):WO P f n d Q k all m (⟨some t,.buildSlice sT 0 ⟨[]⟩,ty,pos,after,none⟩::r) (Ae l) ds h u:=
 Nt ht (fun _ _=>rfl) fun K hK=>Aa6 hS hE (hK _ _ hk)
theorem Y7 {fr:Nat→AV}{K:AV→O→Prop}{sT et:TypeId}{a1 b1:Nat}{z1:List AV}{E:TI}{ln cp:Operand}{i c:Int}{ki kc:IntKind}{y:α}(hI:Ids h0 ids N)(hl:xs.length=N)(hjn:Nat.blt j N=true)(hj:xs[j]? = some none)(hS:ti P sT=some ⟨.sl et,a1,b1,z1⟩)(hE:ti P et=some E)
  (h1:ev fr ln=.int ki i) (h2:ev fr cp=.int kc c) (hi:0≤i) (hic:i≤c) (hlim:c.toNat * E.bytes≤Do) (hsz:Nat.blt 0 E.size=true) (hby:Nat.blt 0 E.bytes=true) (hz:E.z.all AV.flat=true) (hy:E.z=e y) (hst:st=E.size)
  (hk : ∀ v' g',Co v' (ix ids j) g' (List.replicate i.toNat y).length→K v' (hp h0 ids (xs.set j (Az v' g' st ((List.replicate i.toNat y).map e))))) :
  Ch P fr (hp h0 ids xs) (.makeSlice sT ln cp) K:=by
 have hsz':0<E.size:=by simpa using hsz
 have hby':0<E.bytes:=by simpa using hby
 simp only [Ch,Kx,hS,hE,h1,h2]
 refine⟨hsz',hby',hz,hi,hic,hlim,J7 (ix ids j) (hI.at hl hj) fun g'=>?_⟩
 rw [hI.set hl hjn]
 have:=hk (.ref (ix ids j) g' 0 i.toNat) g' (.inr (by simp))
 simp only [Az,List.map_replicate] at this
 rw [hy,← hst]
 exact this
theorem Aa1 {t:Nat}{sT et:TypeId}{a1 b1:Nat}{z1:List AV}{E:TI}{ln cp:Operand}{i c:Int}{ki kc:IntKind}{y:α}(hI:Ids h0 ids N)(hl:xs.length=N)(hjn:Nat.blt j N=true)(hj:xs[j]? = some none)(ht:Nat.blt t n=true)(hS:ti P sT=some ⟨.sl et,a1,b1,z1⟩)(hE:ti P et=some E)
  (h1:ev (Ae l) ln=.int ki i) (h2:ev (Ae l) cp=.int kc c) (hi:0≤i) (hic:i≤c) (hlim:c.toNat * E.bytes≤Do) (hsz:Nat.blt 0 E.size=true) (hby:Nat.blt 0 E.bytes=true) (hz:E.z.all AV.flat=true) (hy:E.z=e y) (hst:st=E.size)
  (hk : ∀ v' g',Co v' (ix ids j) g' (List.replicate i.toNat y).length→WO P f n d Q k all m r (Ae ((t,v')::l)) ds (hp h0 ids (xs.set j (Az v' g' st ((List.replicate i.toNat y).map e)))) u) :
  WO P f n d Q k all m (⟨some t,.makeSlice sT ln cp,ty,pos,after,none⟩::r) (Ae l) ds (hp h0 ids xs) u:=
 Nt ht (fun _ _=>rfl) fun K hK=>Y7 hI hl hjn hj hS hE h1 h2 hi hic hlim hsz hby hz hy hst fun v' g' hv'=>hK _ _ (hk v' g' hv')
end
end
section
variable {P:Program} [GW P] {f:FuncId} {n:Nat} {d:FK} {β γ:Type} {Q:Spec β} {m:R β} {fr:Nat→AV} {ds:List AD} {h:O} {u:AU} {k:List Item} {l:List (Nat×AV)} {F:γ→R β}
def WP (P:Program)[GW P](f:FuncId)(n:Nat)(d:FK)(Q:Spec β)(k:List Item)(all:List Oper)(pre:List (List Nat))(m:R β)(plan:C8)(pend:Jq)(fr:Nat→AV)(ds:List AD)(h:O)(u:AU):Prop:=
 Q.V m → ∀ (K:KT) (U:AV→KT),Going P f n d k (Q.Q m) K U→E2 P n d all pre K U plan pend fr ds h u
theorem O8 {id:Nat}{ops:List Oper}(hm:P.follows .mixedOrders=true)(pre:List (List Nat))(plan:C8)(hp:Tb ops pre plan=true)(hx:WP P f n d Q k ops pre m plan [] fr ds h u) :
  WR P f n d Q m (.code (.region id ⟨ops⟩ true)::k) fr ds h u:=fun hb=>Aac hm pre plan hp fun K U hK=>hx hb K U hK
theorem Zg {id:Nat}{ops:List Oper}(hm:P.follows .mixedOrders=true)(T:DT)(hT:T.ok ops []=true)(hx:T.each fun pre plan=>WP P f n d Q k ops pre m plan [] fr ds h u) :
  WR P f n d Q m (.code (.region id ⟨ops⟩ true)::k) fr ds h u:=fun hb=>Zq hm T hT fun K U hK=>T.mono (fun pre plan hw=>hw hb K U hK) hx
theorem Wb {p:List (List Nat)→C8→Prop}{pre:List (List Nat)}{plan:C8}(h:p pre plan):DT.each p (.leaf pre plan):=h
theorem Aat {p:List (List Nat)→C8→Prop}{i j:Nat}{A B:DT}(h1:A.each p)(h2:B.each p):DT.each p (.node i j A B):=⟨h1,h2⟩
section
variable {all:List Oper} {pre:List (List Nat)} {plan:C8} {pend:Jq} {ty:TypeId} {pos:String} {after:Array Edge} {i:Nat}
theorem Mn (hr:WR P f n d Q m k fr ds h u):WP P f n d Q k all pre m [] pend fr ds h u:=fun hb K U hK=>hK.run _ _ _ _ (hr hb)
theorem Au {t:Nat}{op:Op}(v:AV)(ho:all[i]? = some ⟨some t,op,ty,pos,after,none⟩)(ht:Nat.blt t n=true)(hv:By P (Ae l) h op=some v)(hk:WP P f n d Q k all pre m plan ((i,Ae l,v)::pend) (Ae ((t,v)::l)) ds h u) :
  WP P f n d Q k all pre m ((false,i)::plan) pend (Ae l) ds h u:=by
 intro hb K U hK
 simp only [E2,ho]
 refine⟨by simpa [Dd] using ht,?_⟩
 have e:aF P all (Ae l) h ⟨some t,op,ty,pos,after,none⟩=some v:=by simp only [aF,Cp,hv]
 rw [e]
 simp only [C0]
 exact hk hb K U hK
theorem Wx {m':R β}(e:m=m')(hr:WP P f n d Q k all pre m' plan pend fr ds h u):WP P f n d Q k all pre m plan pend fr ds h u:=e ▸ hr
theorem Th {α:Type}{L:List α}{ii:Int}{rest:α→R γ}(hk : ∀ a,0≤ii→L[ii.toNat]? = some a→WP P f n d Q k all pre ((rest a).bind F) plan pend fr ds h u):WP P f n d Q k all pre (((Hm L ii).bind rest).bind F) plan pend fr ds h u:=by
 refine Wx (R.bind_assoc _ _ _) fun hb=>?_
 unfold Hm at hb ⊢
 by_cases h0:0≤ii
 ·rw [if_pos h0] at hb ⊢
  cases hq:L[ii.toNat]? with
  | none=>rw [hq] at hb; exact absurd hb Q.bad
  | some a=>rw [hq] at hb; exact hk a h0 hq hb
 ·rw [if_neg h0] at hb; exact absurd hb Q.bad
end
end
section
variable {P:Program} [GW P] {t:TypeId}
theorem Aa3 {v:AV}{s by' t':Nat}{z:List AV}(hT:ti P t=some ⟨.ifc,s,by',z⟩):Kq P .eql t (.iface t' v) .nili=some (.bool false):=by simp only [Kq,Kl,hT,Option.map_some]
end
end Go.Am
namespace Go.Am
open Go
set_option linter.unusedSimpArgs false
set_option linter.unusedVariables false
set_option linter.unusedSectionVars false
theorem Bh.weak {P:Program}[GW P]{g:FuncId}{args args':List AV}{h:O}{Q:AR→O→Prop}(hz:LF h h args args')(hc:Bh P g args' h Q):Bh P g args h Q:=by
 refine⟨hc.1,fun B mu w cargs s ha=>hc.2 B mu w cargs s ⟨hz.all.1 ▸ ha.1,fun i hi=>?_⟩⟩
 have hi':i<args.length:=by rw [hz.all.1]; exact hi
 exact Es s (Dl.refl _) (hz.all.2 i hi') (ha.2 i hi')
def AV.isAgg:AV→Bool
 | .agg _=>true
 | _=>false
theorem Yg {P:Program}[GW P]{o:BinOp}{t:TypeId}{x y:Operand}{a b:AV}(ha:a.isAgg=true)(hb:b.isAgg=true)(he:N6 P t=true):G2 P o t x y a b=true:=by
 cases a <;> simp [AV.isAgg] at ha
 cases b <;> simp [AV.isAgg] at hb
 cases o <;> simp [G2,he]
def Wq {α:Type}(st:Nat)(e:α→List AV)(h:O)(o:Nat)(m:R (List α)):AR→O→Prop:=fun r h'=>match m with
 | .ok a => ∃ v g,r=.ret v∧Co v o g a.length∧h'=upd h o (Az v g st (a.map e))
 | .pan v=>r=.panic v.av∧h'=h
 | .bad=>False
def V5 {α:Type}(P:Program)[GW P](g:FuncId)(args:List AV)(m:R (List α))(st:Nat)(e:α→List AV):Prop := ∀ h o,h o=none→m≠.bad→Bh P g args h (Wq st e h o m)
section
variable {P:Program} [GW P] {f:FuncId} {n:Nat} {d:FK} {β γ:Type} {Q:Spec β} {ds:List AD} {u:AU} {k:List Item} {l:List (Nat×AV)} {F:γ→R β}
variable {all r:List Oper} {ty:TypeId} {pos:String} {after:Array Edge} {h0:O} {ids:List Nat} {xs:List (Option AO)} {N:Nat}
theorem Pn {α:Type}{t j st:Nat}{x:Operand}{as0:List Operand}{ts:Array TypeId}{g:FuncId}{fst cap:List AV}(A:List AV){mg:R (List α)}{e:α→List AV}{rest:List α→R γ}(hI:Ids h0 ids N)(hl:xs.length=N)(hjn:Nat.blt j N=true)(hj:xs[j]? = some none)
  (ht:Nat.blt t n=true) (hx:ev (Ae l) x=.func (.func g) fst cap) (ha:fst++Cz (Ae l) as0++cap=A) (hc:mg≠.bad→Bh P g A (hp h0 ids xs) (Wq st e (hp h0 ids xs) (ix ids j) mg))
  (hp' : ∀ v,mg=.pan v→WU P f n d Q (.pan v) (.pan v.av false) (Ae l) ds (hp h0 ids xs) u)
  (hk : ∀ a,mg=.ok a → ∀ v g',Co v (ix ids j) g' a.length→WO P f n d Q k all ((rest a).bind F) r (Ae ((t,v)::l)) ds (hp h0 ids (xs.set j (Az v g' st (a.map e)))) u) :
  WO P f n d Q k all ((mg.bind rest).bind F) (⟨some t,.call ⟨.value x,⟨as0⟩,ts⟩,ty,pos,after,none⟩::r) (Ae l) ds (hp h0 ids xs) u:=by
 refine P8 (R.bind_assoc _ _ _) (Fs (by simpa [Dd] using ht) rfl fun hb K U hK hU=>?_)
 simp only [Dm,hx]
 rw [ha]
 have hmb:mg≠.bad:=fun q=>by rw [q] at hb; exact Q.bad hb
 refine(hc hmb).mono fun r' h' hr=>?_
 cases hm:mg with
 | bad=>exact absurd hm hmb
 | ok a=>
  rw [hm] at hr hb hK
  obtain⟨v,g',rfl,hv,rfl⟩:=hr
  rw [hI.set hl hjn]
  exact hK _ _ _ _ (by rw [C0]; exact hk a hm v g' hv)
 | pan v=>
  rw [hm] at hr hb hU
  obtain⟨rfl,rfl⟩:=hr
  exact hU _ _ _ _ _ (hp' v hm hb)
end
section
variable {P:Program} [GW P] {f:FuncId} {n:Nat} {d:FK} {β γ:Type} {Q:Spec β} {m:R β} {fr:Nat→AV} {ds:List AD} {h:O} {u:AU} {k:List Item} {l:List (Nat×AV)} {F:γ→R β}
variable {all:List Oper} {pre:List (List Nat)} {plan:C8} {pend:Jq} {ty:TypeId} {pos:String} {after:Array Edge} {i:Nat}
theorem Fd:D2 P all pre i h []:=trivial
theorem Jv {j:Nat}{v:AV}(hc:cl pre i j=true)(hr:D2 P all pre i h pend):D2 P all pre i h ((j,fr,v)::pend):=⟨by rw [if_pos hc]; trivial,hr⟩
theorem E6 {j t:Nat}{v:AV}{op:Op}(ho:all[j]? = some ⟨some t,op,ty,pos,after,none⟩)(hv:By P fr h op=some v)(hr:D2 P all pre i h pend):D2 P all pre i h ((j,fr,v)::pend):=by
 refine⟨?_,hr⟩
 split
 ·trivial
 ·rw [ho]; simp only [aF,Cp,hv]
theorem Qw {o:Oper}(ho:all[i]? = some o)(hd:Dd n o.dst=true)(hw:Cp all fr o=some true)
  (hx:Q.V m → ∀ (K:AV→List AD→O→AU→Prop) (U:AV→KT),(∀ v ds' h' u',D2 P all pre i h' pend→WP P f n d Q k all pre m plan pend (Dh fr o.dst v) ds' h' u'→K v ds' h' u') →
   (∀ v fr ds h u,(∀ fr',(∀ t,(all.any fun o=>o.dst==some t)=false→fr' t=fr t)→Gk P f n d (.pan v false) fr' ds h u (Q.Q m))→U v fr ds h u)→Dm P d U fr ds h u o.op K):WP P f n d Q k all pre m ((true,i)::plan) pend fr ds h u:=by
 intro hb K U hK
 simp only [E2,ho]
 refine⟨hd,?_⟩
 rw [hw]
 exact hx hb _ _ (fun v ds' h' u' hp hk=>⟨hp,hk hb K U hK⟩) (fun v fr ds h u hu fr' hf=>hK.unw _ _ _ _ _ (hu fr' fun t ht=>hf t fun o ho hq=>by
  have:=List.any_eq_false.1 ht o ho
  simp [hq] at this))
theorem S8 {t:Nat}{op:Op}(ho:all[i]? = some ⟨some t,op,ty,pos,after,none⟩)(ht:Nat.blt t n=true)(h1 : ∀ (K:AV→List AD→O→AU→Prop) (U:AV→KT),Dm P d U (Ae l) ds h u op K=Ch P (Ae l) h op (fun v h'=>K v ds h' u))
  (hx : ∀ K:AV→O→Prop,(∀ v h',D2 P all pre i h' pend→WP P f n d Q k all pre m plan pend (Ae ((t,v)::l)) ds h' u→K v h')→Ch P (Ae l) h op K) :
  WP P f n d Q k all pre m ((true,i)::plan) pend (Ae l) ds h u:=
 Qw ho (by simpa [Dd] using ht) rfl fun hb K U hK hU=>by
  rw [h1]
  exact hx _ fun v h' hp hw=>hK _ _ _ _ hp (by rw [C0]; exact hw)
theorem O0 {op:Op}(ho:all[i]? = some ⟨none,op,ty,pos,after,none⟩)(h1 : ∀ (K:AV→List AD→O→AU→Prop) (U:AV→KT),Dm P d U (Ae l) ds h u op K=Ch P (Ae l) h op (fun v h'=>K v ds h' u))
  (hx : ∀ K:AV→O→Prop,(∀ v h',D2 P all pre i h' pend→WP P f n d Q k all pre m plan pend (Ae l) ds h' u→K v h')→Ch P (Ae l) h op K) :
  WP P f n d Q k all pre m ((true,i)::plan) pend (Ae l) ds h u:=
 Qw ho rfl rfl fun hb K U hK hU=>by
  rw [h1]
  exact hx _ fun v h' hp hw=>hK _ _ _ _ hp hw
theorem Aav {α:Type}{t:Nat}{x:Operand}{as0:List Operand}{ts:Array TypeId}{g:FuncId}{fst cap:List AV}{gd:Option (Nat×Bool)}(A:List AV){mg:R α}{e:α→AV}{rest:α→R γ}(ho:all[i]? = some ⟨some t,.call ⟨.value x,⟨as0⟩,ts⟩,ty,pos,after,gd⟩)(hw:Cp all (Ae l) ⟨some t,.call ⟨.value x,⟨as0⟩,ts⟩,ty,pos,after,gd⟩=some true)(ht:Nat.blt t n=true)(hx:ev (Ae l) x=.func (.func g) fst cap)
  (ha:fst++Cz (Ae l) as0++cap=A) (hc:mg≠.bad→Bh P g A h (L7 e h mg)) (hp : ∀ v,mg=.pan v → ∀ fr,(∀ t,(all.any fun o=>o.dst==some t)=false→fr t=Ae l t)→WU P f n d Q (.pan v) (.pan v.av false) fr ds h u) (hpd:D2 P all pre i h pend) (hk : ∀ a,mg=.ok a→WP P f n d Q k all pre ((rest a).bind F) plan pend (Ae ((t,e a)::l)) ds h u) :
  WP P f n d Q k all pre ((mg.bind rest).bind F) ((true,i)::plan) pend (Ae l) ds h u:=by
 refine Wx (R.bind_assoc _ _ _) (Qw ho (by simpa [Dd] using ht) hw fun hb K U hK hU=>?_)
 simp only [Dm,hx]
 rw [ha]
 have hmb:mg≠.bad:=fun q=>by rw [q] at hb; exact Q.bad hb
 refine(hc hmb).mono fun r' h' hr=>?_
 obtain⟨rfl,hr⟩:=hr
 cases hm:mg with
 | bad=>exact absurd hm hmb
 | ok a=>
  rw [hm] at hr hb hK
  subst hr
  exact hK _ _ _ _ hpd (by rw [C0]; exact hk a hm)
 | pan v=>
  rw [hm] at hr hb hU
  subst hr
  exact hU _ _ _ _ _ (fun fr' hf=>hp v hm fr' hf hb)
end
section
variable {P:Program} [GW P] {f:FuncId} {n:Nat} {α:Type} {m:R (List α)} {e:α→List AV} {st:Nat}
def S7 {α:Type}(st:Nat)(e:α→List AV)(h:O)(o:Nat):Spec (List α):=⟨fun m=>m≠.bad,fun h=>h rfl,fun m r h' _=>Wq st e h o m r h'⟩
theorem N8 {fn : Func} {c : Code} {args : List AV} (N : Nat) (hf : P.funcs[f]? = some fn) (hb : fn.body = some c) (hn : fn.name ≠ "runtime.NumGoroutine") (hnt : fn.ntmps = n) (hl : Nat.ble args.length n = true)
  (hr : ∀ (h0 : O) (ids : List Nat), Ids h0 ids (N + 1) → WR P f n false (S7 st e h0 (ix ids 0)) m [.code c] (Ae (Lb 0 args)) [] (hp h0 ids (List.replicate (N + 1) none)) .ret) : V5 P f args m st e := by
 intro h o ho hb'
 refine G3 hf hb hn hnt (by simpa using hl) ?_
 refine Mc N [o] fun os h1 h2 h3 h4 => ?_
 have hI : Ids h (o :: os) (N + 1) := ⟨List.nodup_cons.2 ⟨fun hm => h4 _ hm (List.mem_singleton.2 rfl), h2⟩, fun p hp => by
  rcases List.mem_cons.1 hp with rfl | hp
  ·exact ho
  ·exact h3 p hp, by simp [h1]⟩
 have := hr h (o :: os) hI hb'
 rw [Gr hI.fresh] at this
 refine Hd (fun t => ?_) this
 rcases Hj args 0 t with h | ⟨_, h⟩
 ·exact .inl h
 ·exact .inr h
section
variable {h0:O} {ids:List Nat} {x:Option AO} {xs ys:List (Option AO)} {N:Nat} {l:List (Nat×AV)} {k:List Item} {u:AU}
theorem Abb {fn:Func}{a:List α}{v:AV}{g:Nat}(hf:P.funcs[f]? = some fn)(hI:Ids h0 ids N)(hl:(x::xs).length=N)(hr:C7 P (hp h0 ids (x::xs)) (Ae l) fn.results.toList=some [v])(hv:Co v (ix ids 0) g a.length)(hx:x=Az v g st (a.map e)) :
  WU P f n false (S7 st e h0 (ix ids 0)) (.ok a) .ret (Ae l) [] (hp h0 ids (x::xs)) u:=fun _=>by
 have hlen:ids.length=xs.length+1:=by rw [hI.len,← hl]; rfl
 obtain⟨o,os,rfl⟩ : ∃ o os,ids=o::os:=by
  cases ids with
  | nil=>simp at hlen
  | cons o os=>exact⟨o,os,rfl⟩
 have e1:hp h0 (o::os) (x::List.replicate xs.length none)=upd h0 o x:=by
  simp only [hp]
  rw [Gr fun p hp=>hI.fresh p (List.mem_cons_of_mem _ hp)]
 have hs:Dl (upd h0 o x) (hp h0 (o::os) (x::xs)):=by
  rw [← e1]
  refine U1 (by simpa using hlen) (by simpa using hlen) hI.nodup hI.fresh fun j=>?_
  cases j with
  | zero=>exact .inl rfl
  | succ j=>
   simp only [List.getElem?_cons_succ]
   by_cases hj:j<xs.length
   ·right; simp [hj]
   ·left; rw [List.getElem?_eq_none (by simpa using hj),List.getElem?_eq_none (by simpa using hj)]
 refine Hq hf hr hs (.same _) rfl ?_
 exact⟨v,g,rfl,hv,by rw [hx]; rfl⟩
theorem Rm {fn:Func}{a:List α}{v:AV}{g:Nat}(hf:P.funcs[f]? = some fn)(hI:Ids h0 ids N)(hl:(x::xs).length=N)(hr:C7 P (hp h0 ids (x::xs)) (Ae l) fn.results.toList=some [v])(hv:Co v (ix ids 0) g a.length)(hx:x=Az v g st (a.map e)) :
  WR P f n false (S7 st e h0 (ix ids 0)) (.ok a) (.code .ret::k) (Ae l) [] (hp h0 ids (x::xs)) u:=fun hV=>K5 (Abb hf hI hl hr hv hx hV)
theorem H0 {fn:Func}{v:PV}{fr:Nat→AV}{xs:List (Option AO)}{o:Nat}(hf:P.funcs[f]? = some fn)(hI:Ids h0 ids N):WU P f n false (S7 st e h0 o) (.pan v) (.pan v.av false) fr [] (hp h0 ids xs) u:=fun _=>
 P7 hf (hI.sub xs) (.same _) ⟨rfl,rfl⟩
end
theorem V5.cp {args:List AV}(hc:V5 P f args m st e)(hr : ∀ x,Bf st (e x)):CP P f args m (fun a=>.sl st (a.map e)):=by
 intro h hb
 have hbody:Ir P f:=by
  have:=hc hE 0 rfl hb
  exact this.1
 refine⟨hbody,fun B mu w cargs s ha=>?_⟩
 obtain⟨o,ho⟩ : ∃ o,h o=none:=by
  obtain⟨N,hN⟩:=s.finh
  exact⟨N,hN N (Nat.le_refl _)⟩
 have:=(hc h o ho hb).drop (Q':=fun r h'=>L7 (fun a=>AV.sl st (a.map e)) h m r h'∨Wq st e h o m r h') (fun r h' hq=>⟨h',Dl.refl _,.inr hq⟩)
 refine((hc h o ho hb).2 B mu w cargs s ha).mono ?_
 rintro en w' ⟨r,h',mu',hq,hs,hext,hE'⟩
 cases hm:m with
 | bad=>exact absurd hm hb
 | pan v=>
  rw [hm] at hq
  obtain⟨rfl,rfl⟩:=hq
  exact⟨_,h',mu',⟨rfl,rfl⟩,hs,hext,hE'⟩
 | ok a=>
  rw [hm] at hq
  obtain⟨v,g,rfl,hv,rfl⟩:=hq
  have hsub:Dl h (upd h o (Az v g st (a.map e))):=Vy ho
  have hfz:Fz (upd h o (Az v g st (a.map e))) h v (.sl st (a.map e)):=Ho hv (by simp [upd]) ho hr
  refine⟨.ret (.sl st (a.map e)),h,mu',⟨rfl,rfl⟩,hs.sub hsub,hext.trans (Bw.sub hsub),?_⟩
  cases en with
  | returned c=>exact Es hs hsub hfz hE'
  | panicked _=>exact hE'.elim
  | outgrown=>exact hE'.elim
end
def mE {K V:Type}(eK:K→AV)(eV:V→AV)(m:List (K×V)):List (AV×AV):=m.map fun p=>(eK p.1,eV p.2)
structure KeyE (T:TK){K:Type}[DecidableEq K](eK:K→AV):Prop where
 ok : ∀ k,Mx T (eK k)=true
 eq : ∀ a b,Jc T (eK a) (eK b)=some (decide (a=b))
theorem Y5 {k:IntKind}:KeyE (.int k) (fun n:Int=>AV.int k n):=⟨fun n=>by simp [Mx],fun a b=>by simp only [Jc,if_true]; congr 1⟩
section
variable {K V:Type} [DecidableEq K] {T:TK} {eK:K→AV} {eV:V→AV}
theorem Wj (hk:KeyE T eK)(k:K) : ∀ (m:List (K×V)) (i:Nat),∃ r,Fx T (eK k) (mE eK eV m) i=some r ∧
  ((r=none∧Rr m k=none ∧ ∀ w,mE eK eV m++[(eK k,eV w)]=mE eK eV (E1 m k w)) ∨ ∃ j v,r=some (i+j,eV v)∧Rr m k=some v ∧ ∀ w,(mE eK eV m).set j (eK k,eV w)=mE eK eV (E1 m k w))
 | [],i=>⟨none,rfl,.inl ⟨rfl,rfl,fun w=>rfl⟩⟩
 | (a,v)::m,i=>by
  have e1:Fx T (eK k) (mE eK eV ((a,v)::m)) i=if k=a then some (some (i,eV v)) else Fx T (eK k) (mE eK eV m) (i+1):=by
   simp only [mE,List.map_cons,Fx,hk.eq]
   by_cases h:k=a <;> simp [h]
  rw [e1]
  by_cases h:k=a
  ·subst h
   refine⟨some (i,eV v),by rw [if_pos rfl],.inr ⟨0,v,rfl,by simp [Rr],fun w=>?_⟩⟩
   simp [mE,E1]
  ·rw [if_neg h]
   obtain⟨r,h1,h2⟩:=Wj hk k m (i+1)
   have hne:(a==k)=false:=by simpa using fun q=>h q.symm
   refine⟨r,h1,?_⟩
   rcases h2 with⟨rfl,h3,h4⟩ | ⟨j,w,rfl,h3,h5⟩
   ·refine .inl ⟨rfl,?_,fun w=>?_⟩
    ·simp only [Rr,List.find?_cons,hne] at h3 ⊢; exact h3
    ·have:=h4 w
     simp only [mE,List.map_cons,List.cons_append,E1,hne,Bool.false_eq_true,if_false] at this ⊢
     rw [this]
   ·refine .inr ⟨j+1,w,by rw [Nat.add_assoc,Nat.add_comm 1 j],?_,fun x=>?_⟩
    ·simp only [Rr,List.find?_cons,hne] at h3 ⊢; exact h3
    ·have:=h5 x
     simp only [mE,List.map_cons,List.set_cons_succ,E1,hne,Bool.false_eq_true,if_false] at this ⊢
     rw [this]
theorem Aaj {P:Program}[GW P]{h:O}{t kt et:TypeId}{a b o g:Nat}{z:List AV}{KT:TI}{m:List (K×V)}{k:K}{w:V}(ho:h o=some (.mp g (mE eK eV m)))(hT:ti P t=some ⟨.map kt et,a,b,z⟩)(hK:ti P kt=some KT)(hk:KeyE KT.k eK) :
  Jf P h t (.map o g) (eK k) (eV w)=some (upd h o (some (.mp g (mE eK eV (E1 m k w))))):=by
 obtain⟨r,h1,h2⟩:=Wj (eV:=eV) hk k m 0
 simp only [Jf,hT,hK,ho,hk.ok,and_self,if_true,h1]
 rcases h2 with⟨rfl,_,h3⟩ | ⟨j,w',rfl,_,h3⟩
 ·simp only [h3]
 ·simp only [Nat.zero_add,h3]
end
section
variable {P:Program} [GW P] {f:FuncId} {n:Nat} {d:FK} {β γ:Type} {Q:Spec β} {m:R β} {ds:List AD} {h:O} {u:AU} {k:List Item} {l:List (Nat×AV)} {F:γ→R β}
variable {all r:List Oper} {ty:TypeId} {pos:String} {after:Array Edge} {h0:O} {ids:List Nat} {xs:List (Option AO)} {N j:Nat}
theorem Vl {fr:Nat→AV}{t:TypeId}{K:AV→O→Prop}(hI:Ids h0 ids N)(hl:xs.length=N)(hjn:Nat.blt j N=true)(hj:xs[j]? = some none)(hk : ∀ g,K (.map (ix ids j) g) (hp h0 ids (xs.set j (some (.mp g []))))):Ch P fr (hp h0 ids xs) (.makeMap t none) K:=by
 simp only [Ch,true_and]
 refine T9 (ix ids j) (hI.at hl hj) fun g=>?_
 rw [hI.set hl hjn]
 exact hk g
theorem Xc {t:Nat}{mt:TypeId}(hI:Ids h0 ids N)(hl:xs.length=N)(hjn:Nat.blt j N=true)(hj:xs[j]? = some none)(ht:Nat.blt t n=true)
  (hk : ∀ g,WO P f n d Q k all m r (Ae ((t,.map (ix ids j) g)::l)) ds (hp h0 ids (xs.set j (some (.mp g [])))) u):WO P f n d Q k all m (⟨some t,.makeMap mt none,ty,pos,after,none⟩::r) (Ae l) ds (hp h0 ids xs) u:=
 Nt ht (fun _ _=>rfl) fun K hK=>Vl hI hl hjn hj fun g=>hK _ _ (hk g)
theorem Sz {K' V':Type}[DecidableEq K']{eK:K'→AV}{eV:V'→AV}{fr:Nat→AV}{t kt et:TypeId}{a b g:Nat}{z:List AV}{KT:TI}{M:List (K'×V')}{ky:K'}{w:V'}{xm xk xv:Operand}{K:AV→O→Prop}(hI:Ids h0 ids N)(hl:xs.length=N)(hjn:Nat.blt j N=true)
  (hj:xs[j]? = some (some (.mp g (mE eK eV M)))) (h1:ev fr xm=.map (ix ids j) g) (h2:ev fr xk=eK ky) (h3:ev fr xv=eV w) (hT:ti P t=some ⟨.map kt et,a,b,z⟩) (hK:ti P kt=some KT) (hk:KeyE KT.k eK)
  (hk':K .und (hp h0 ids (xs.set j (some (.mp g (mE eK eV (E1 M ky w))))))):Ch P fr (hp h0 ids xs) (.mapUpdate t xm xk xv) K:=by
 simp only [Ch,h1,h2,h3,Aaj (hI.at hl hj) hT hK hk,hI.set hl hjn]
 exact hk'
theorem Us {K' V':Type}[DecidableEq K']{eK:K'→AV}{eV:V'→AV}{t kt et:TypeId}{a b g:Nat}{z:List AV}{KT:TI}{M:List (K'×V')}{ky:K'}{w:V'}{xm xk xv:Operand}(hI:Ids h0 ids N)(hl:xs.length=N)(hjn:Nat.blt j N=true)
  (hj:xs[j]? = some (some (.mp g (mE eK eV M)))) (h1:ev (Ae l) xm=.map (ix ids j) g) (h2:ev (Ae l) xk=eK ky) (h3:ev (Ae l) xv=eV w) (hT:ti P t=some ⟨.map kt et,a,b,z⟩) (hK:ti P kt=some KT) (hk:KeyE KT.k eK)
  (hk':WO P f n d Q k all m r (Ae l) ds (hp h0 ids (xs.set j (some (.mp g (mE eK eV (E1 M ky w)))))) u):WO P f n d Q k all m (⟨none,.mapUpdate t xm xk xv,ty,pos,after,none⟩::r) (Ae l) ds (hp h0 ids xs) u:=
 Tu (fun _ _=>rfl) fun K hK'=>Sz hI hl hjn hj h1 h2 h3 hT hK hk (hK' _ _ hk')
end
theorem Fz.funcL {h h2:O}{fn:Fn}{f c f' c':List AV}(hf:LF h h2 f f')(hc:LF h h2 c c'):Fz h h2 (.func fn f c) (.func fn f' c'):=.func fn f c f' c' hf.all.1 hc.all.1 hf.all.2 hc.all.2
theorem Fz.ptrL {h h2:O}{o g st c:Nat}{row row':List AV}(ho:h o=some (.rows g st [row]))(h2o:h2 o=none)(hl:row'.length=st)(hx:LF h h2 row row'):Fz h h2 (.ptr o g 0 c) (.cp row' c):=
 .ptr o g 0 c st [row] row' ho h2o (by simp) hl (fun j hj=>by
  have:=hx.all.2 j (by rw [hx.all.1,hl]; exact hj)
  simpa [cell] using this)
theorem Co.flat {v:AV}{o g n:Nat}(h:Co v o g n):v.flat=true:=by rcases h with⟨rfl,_⟩ | rfl <;> rfl
theorem Co.ok {v:AV}{o g n:Nat}(h:Co v o g n):v.ok=true:=by rcases h with⟨rfl,_⟩ | rfl <;> rfl
theorem Co.cells {v:AV}{o g n:Nat}(h:Co v o g n):v.cells=[v]:=by rcases h with⟨rfl,_⟩ | rfl <;> rfl
theorem Mf {P:Program}[GW P]{h0:O}{ids:List Nat}{xs:List (Option AO)}{N:Nat}{t:TypeId}{T:TI}{g st rr c j o g' n':Nat}{rs:List (List AV)}{row:List AV}{v:AV}(hv:Co v o g' n')(hI:Ids h0 ids N)(hl:xs.length=N)(hjn:Nat.blt j N=true)(hj:xs[j]? = some (some (.rows g st rs)))(hr:rs[rr]? = some row)(hT:ti P t=some T)
  (hlen:Nat.beq 1 T.size=true) (hc:Nat.ble (c+T.size) st=true) (hrl:row.length=st) :
  Gd P (hp h0 ids xs) t (.ptr (ix ids j) g rr c) v=some (hp h0 ids (xs.set j (some (.rows g st (rs.set rr (Kp row c [v])))))):=by
 have:=C4 (P:=P) (v:=v) hI hl hjn hj hr hT hv.ok (by rw [hv.cells]; exact Nat.eq_of_beq_eq_true hlen) hc hrl (by rw [hv.cells]; simp [hv.flat])
 rw [hv.cells] at this
 exact this
end Go.Am
namespace Go.Am
open Go
set_option linter.unusedSimpArgs false
set_option linter.unusedVariables false
set_option linter.unusedSectionVars false
section
variable {P:Program} [GW P] {f:FuncId} {n:Nat} {d:FK} {β:Type} {Q:Spec β} {m:R β} {ds:List AD} {h:O} {u:AU} {k:List Item} {l:List (Nat×AV)}
variable {all r:List Oper} {ty:TypeId} {pos:String} {after:Array Edge}
theorem Li {dst:Option Tmp}{x:Operand}{as0:List Operand}{ts:Array TypeId}{g:FuncId}{fst cap A:List AV}(hdst:dst=none)(hx:ev (Ae l) x=.func (.func g) fst cap)(ha:fst++Cz (Ae l) as0++cap=A)(hk:WO P f n d Q k all m r (Ae l) (⟨g,A⟩::ds) h u)(hro:d.ro=none:=by rfl)(hnc:AD.isStar ⟨g,A⟩=false:=by rfl) :
  WO P f n d Q k all m (⟨dst,.defer ⟨.value x,⟨as0⟩,ts⟩,ty,pos,after,none⟩::r) (Ae l) ds h u:=by
 subst hdst
 refine Fs rfl rfl fun hb K U hK hU=>?_
 simp only [Dm,hx]
 rw [ha]
 exact⟨hro,hnc,hK _ _ _ _ hk⟩
theorem O4 {t:Nat}{as0 ts:Array _}{v:AV}(ht:Nat.blt t n=true)(hk:WO P f n true Q k all m r (Ae ((t,v)::l)) ds h (.pan v true)):WO P f n true Q k all m (⟨some t,.call ⟨.builtin .recover,as0,ts⟩,ty,pos,after,none⟩::r) (Ae l) ds h (.pan v false):=
 Fs (by simpa [Dd] using ht) rfl fun hb K U hK hU=>⟨rfl,hK _ _ _ _ (by rw [C0]; exact hk)⟩
theorem Pb {t:Nat}{as0 ts:Array _}(ht:Nat.blt t n=true)(hk:WO P f n true Q k all m r (Ae ((t,.nili)::l)) ds h .ret):WO P f n true Q k all m (⟨some t,.call ⟨.builtin .recover,as0,ts⟩,ty,pos,after,none⟩::r) (Ae l) ds h .ret:=
 Fs (by simpa [Dd] using ht) rfl fun hb K U hK hU=>⟨rfl,hK _ _ _ _ (by rw [C0]; exact hk)⟩
end
def Aaa {γ:Type}(e:γ→O)(u':AU):Spec γ:=⟨fun m => ∃ a,m=.ok a,fun h=>(by obtain⟨a,h⟩:=h; cases h),fun m r h' u => ∃ a,m=.ok a∧r=.ret (.tup [])∧h'=e a∧u=u'⟩
abbrev Jj {γ:Type}(e:γ→O)(u':AU)(m:R γ):QT:=fun r h' u => ∃ a,m=.ok a∧r=.ret (.tup [])∧h'=e a∧u=u'
section
variable {P:Program} [GW P] {f:FuncId} {n:Nat} {γ:Type} {m:R γ} {e:γ→O} {u u':AU} {h:O} {l:List (Nat×AV)} {k:List Item}
theorem Hk {fn : Func} {c : Code} {args : List AV} (hf : P.funcs[f]? = some fn) (hb : fn.body = some c) (hn : fn.name ≠ "runtime.NumGoroutine") (hnt : fn.ntmps = n) (hl : Nat.ble args.length n = true)
  (hr : WR P f n true (Aaa e u') m [.code c] (Ae (Lb 0 args)) [] h u) : (∃ a, m = .ok a) → Dz P f args u h (Jj e u' m) := by
 intro hm
 refine Vg hf hb hn hnt (by simpa using hl) ?_
 refine Hd (fun t => ?_) (hr hm)
 rcases Hj args 0 t with h | ⟨_, h⟩
 ·exact .inl h
 ·exact .inr h
theorem Iw {fn:Func}{a:γ}(hf:P.funcs[f]? = some fn)(hr:fn.results.toList=[])(hh:h=e a)(hu:u=u'):WR P f n true (Aaa e u') (.ok a) [] (Ae l) [] h u:=fun _=>
 O1 (Wd hf (vs:=[]) (by rw [hr]; rfl) ⟨a,rfl,rfl,hh,hu⟩)
end
def H6 {α:Type}(e:α→AV)(h:O)(hdl:PV→R α):Spec α:=⟨fun m=>m.catch' hdl≠.bad,fun h=>h rfl,fun m r h' _=>L7 e h (m.catch' hdl) r h'⟩
section
variable {P:Program} [GW P] {f:FuncId} {n:Nat} {α:Type} {e:α→AV} {hdl:PV→R α} {h0:O} {ids:List Nat} {N:Nat} {xs:List (Option AO)} {l:List (Nat×AV)} {k:List Item}
theorem Lq {fn : Func} {c : Code} {args : List AV} {m : R α} (N : Nat) (hf : P.funcs[f]? = some fn) (hb : fn.body = some c) (hn : fn.name ≠ "runtime.NumGoroutine") (hnt : fn.ntmps = n) (hl : Nat.ble args.length n = true)
  (hr : ∀ (h0 : O) (ids : List Nat), Ids h0 ids N → WR P f n false (H6 e h0 hdl) m [.code c] (Ae (Lb 0 args)) [] (hp h0 ids (List.replicate N none)) .ret) : CP P f args (m.catch' hdl) e := by
 intro h hb'
 refine G3 hf hb hn hnt (by simpa using hl) ?_
 refine Mc N [] fun os h1 h2 h3 h4 => ?_
 have := hr h os ⟨h2, h3, h1⟩ hb'
 rw [Gr h3] at this
 refine Hd (fun t => ?_) this
 rcases Hj args 0 t with h | ⟨_, h⟩
 ·exact .inl h
 ·exact .inr h
theorem Wo {fn:Func}{a:α}{vs A:List AV}{g:FuncId}(hf:P.funcs[f]? = some fn)(hI:Ids h0 ids N)(hc:Dz P g A .ret (hp h0 ids xs) (Jj (fun _:Unit=>hp h0 ids xs) .ret (.ok ())))
  (hr:C7 P (hp h0 ids xs) (Ae l) fn.results.toList=some vs) (hz:Fz (hp h0 ids xs) h0 (Ec vs) (e a)) (hnc:AD.isStar ⟨g,A⟩=false:=by rfl) :
  WR P f n false (H6 e h0 hdl) (.ok a) (.code .ret::k) (Ae l) [⟨g,A⟩] (hp h0 ids xs) .ret:=fun _=>
 K5 (Kb (hc.mono fun r h' u hq=>by
  obtain⟨_,_,rfl,rfl,rfl⟩:=hq
  exact Hq hf hr (hI.sub xs) hz rfl ⟨rfl,rfl⟩) hnc)
theorem Rp {h0:O} : ∀ (ids:List Nat) (xs:List (Option AO)) (c:Nat),ids.length=xs.length→(∀ o ∈ ids,h0 o=none)→ids.Nodup→Dl (hp h0 (ids.take c) (xs.take c)) (hp h0 ids xs)
 | [],[],c,_,_,_=>by simp [hp]; exact Dl.refl _
 | a::ids,x::xs,0,hl,hf,hn=>by
  simp only [List.take_zero,hp]
  intro o y hy
  have hne:o ∉ a::ids:=fun hm=>by rw [hf o hm] at hy; cases hy
  simp only [List.mem_cons,not_or] at hne
  rw [P9 _ _ _ hne.1,J9 hne.2]
  exact hy
 | a::ids,x::xs,c+1,hl,hf,hn=>by
  simp only [List.take_succ_cons,hp]
  exact Dl.upd (Rp ids xs c (by simpa using hl) (fun o ho=>hf o (List.mem_cons_of_mem _ ho)) (List.nodup_cons.1 hn).2) a x
theorem Ids.take {ids:List Nat}(hI:Ids h0 ids N){c:Nat}(hc:Nat.ble c N=true):Ids h0 (ids.take c) c:=
 ⟨hI.nodup.sublist (List.take_sublist _ _),fun o ho=>hI.fresh o (List.mem_of_mem_take ho),by
  have:c≤N:=by simpa using hc
  rw [List.length_take,hI.len]; omega⟩
theorem G5 {ids:List Nat}{c j:Nat}(hj:Nat.blt j c=true):ix (ids.take c) j=ix ids j:=by
 have:j<c:=by simpa using hj
 simp [ix,List.getD,List.getElem?_take,this]
theorem Nr {γ:Type}{Hc:R γ}{fin:γ→α}{fn:Func}{v:PV}{fr:Nat→AV}{A:List AV}{g:FuncId}{c:Nat}{ys:List (Option AO)}{cells:γ→List (Option AO)}{vs:γ→List AV}(hf:P.funcs[f]? = some fn)(hI:Ids h0 ids N)(hl:xs.length=N)(hc:Nat.ble c N=true)(hys:xs.take c=ys)
  (hh:hdl v=Hc.bind fun x=>.ok (fin x)) (hd:(∃ x,Hc=.ok x)→Dz P g A (.pan v.av false) (hp h0 (ids.take c) ys) (Jj (fun x=>hp h0 (ids.take c) (cells x)) (.pan v.av true) Hc)) (hno : ∀ w,Hc≠.pan w)
  (hr : ∀ x,C7 P (hp h0 (ids.take c) (cells x)) fr fn.results.toList=some (vs x)) (hz : ∀ x,Fz (hp h0 (ids.take c) (cells x)) h0 (Ec (vs x)) (e (fin x))) (hnc:AD.isStar ⟨g,A⟩=false:=by rfl) :
  WU P f n false (H6 e h0 hdl) (.pan v) (.pan v.av false) fr [⟨g,A⟩] (hp h0 ids xs) .ret:=by
 intro hV
 have hV':hdl v≠.bad:=hV
 cases hq:Hc with
 | bad=>rw [hh,hq] at hV'; exact absurd rfl hV'
 | pan w=>exact absurd hq (hno w)
 | ok x=>
  have hsub:Dl (hp h0 (ids.take c) ys) (hp h0 ids xs):=by rw [← hys]; exact Rp ids xs c (hI.len.trans hl.symm) hI.fresh hI.nodup
  have key:Gk P f n false (.pan v.av false) fr [⟨g,A⟩] (hp h0 (ids.take c) ys) .ret ((H6 e h0 hdl).Q (.pan v)):=by
   refine Kb ((hd ⟨x,hq⟩).mono fun r h' u2 hx=>?_) hnc
   obtain⟨y,hy,rfl,rfl,rfl⟩:=hx
   rw [hq] at hy
   cases hy
   refine Hq hf (hr x) ((hI.take hc).sub _) (hz x) rfl ?_
   show L7 e h0 (hdl v) _ _
   rw [hh,hq]
   exact⟨rfl,rfl⟩
  intro B mu w a cs todo mode p hm
  exact(key B mu w a cs todo mode (p.ext (Bw.sub hsub) (p.sim.sub hsub)) (hm.ext (Bw.sub hsub))).ext (Bw.sub hsub)
end
def Cb {α:Type}(t:TypeId)(F:R α)(els:PV→R α):PV→R α:=fun v=>if v.t=t then(match v.x with | .unit=>F | _=>.bad) else els v
section
variable {P:Program} [GW P] {f:FuncId} {n:Nat} {d:FK} {α:Type} {e:α→AV} {hdl:PV→R α} {h0 h:O} {fr:Nat→AV} {ds:List AD} {u:AU} {v:PV} {a a':AU}
theorem S5 {t:TypeId}{F:R α}{els:PV→R α}(hh:hdl=Cb t F els)(h1:v=⟨t,.unit⟩→WU P f n d (H6 e h0 hdl) (.pan v) a fr ds h u)(h2:v.t≠t→WU P f n d (H6 e h0 hdl) (.pan v) a fr ds h u) :
  WU P f n d (H6 e h0 hdl) (.pan v) a fr ds h u:=by
 intro hV
 by_cases hv:v.t=t
 ·obtain⟨vt,vx⟩:=v
  simp only at hv
  subst hv
  have hV':hdl ⟨vt,vx⟩≠.bad:=hV
  rw [hh] at hV'
  cases vx with
  | int k' n'=>simp [Cb] at hV'
  | str s=>simp [Cb] at hV'
  | bool b=>simp [Cb] at hV'
  | unit=>exact h1 rfl hV
  | two k1 k2 a b=>simp [Cb] at hV'
  | one k a=>simp [Cb] at hV'
 ·exact h2 hv hV
theorem S9 (hh:hdl v=.bad):WU P f n d (H6 e h0 hdl) (.pan v) a fr ds h u:=fun hV=>absurd hh hV
end
theorem Kd {α:Type}{t:TypeId}{F:R α}{els:PV→R α}{v:PV}(h:v.t≠t):Cb t F els v=els v:=by simp [Cb,h]
theorem Er {α:Type}{t:TypeId}{F:R α}{els:PV→R α}:Cb t F els ⟨t,.unit⟩=F:=by simp [Cb]
theorem Su : ∀ (row cs:List AV),row.length=cs.length→Ky row cs=cs
 | [],[],_=>rfl
 | a::row,c::cs,h=>by simp [Ky,Su row cs (by simpa using h)]
theorem Aa8 {P:Program}[GW P]{h0:O}{ids:List Nat}{xs:List (Option AO)}{N:Nat}{t:TypeId}{T:TI}{g st j:Nat}{row:List AV}{v:AV}(hI:Ids h0 ids N)(hl:xs.length=N)(hjn:Nat.blt j N=true)(hj:xs[j]? = some (some (.rows g st [row])))(hT:ti P t=some T)
  (hok:v.ok=true) (hlen:v.cells.length=T.size) (hc:Nat.beq T.size st=true) (hrl:row.length=st) (hfl:v.cells.all AV.flat=true) :
  Gd P (hp h0 ids xs) t (.ptr (ix ids j) g 0 0) v=some (hp h0 ids (xs.set j (some (.rows g st [v.cells])))):=by
 have hs:=Nat.eq_of_beq_eq_true hc
 have:=C4 (P:=P) (rr:=0) (c:=0) (v:=v) hI hl hjn hj rfl hT hok hlen (by rw [Nat.zero_add,hs]; simp) hrl hfl
 rw [this]
 have e:Kp row 0 v.cells=v.cells:=by
  have:=Su row v.cells (by rw [hrl,hlen,hs])
  cases row <;> simpa [Kp] using this
 rw [e]
 rfl
theorem Kg {P:Program}[GW P]{h:O}{fr:Nat→AV}{t:Nat}{v:AV}{r:List ResultVar}{vs:List AV}(e:fr t=v)(hr:C7 P h fr r=some vs):C7 P h fr (.tmp t::r)=some (v::vs):=by rw [← e]; exact Ju hr
theorem I2 {P:Program}[GW P]{h:O}{fr:Nat→AV}{a:Nat}{t:TypeId}{r:List ResultVar}{v w:AV}{vs:List AV}(e:fr a=w)(hv:Ha P h t w=some v)(hr:C7 P h fr r=some vs):C7 P h fr (.cell a t::r)=some (v::vs):=Hp (by rw [e]; exact hv) hr
theorem Mr {P:Program}[GW P]{h0:O}{ids:List Nat}{xs:List (Option AO)}{n j:Nat}{o:Nat}{t:TypeId}{T:TI}{g st r c:Nat}{rs:List (List AV)}{row:List AV}{v:AV}(hI:Ids h0 ids n)(ho:ix ids j=o)(hl:xs.length=n)(hj:xs[j]? = some (some (.rows g st rs)))(hr:rs[r]? = some row)(hT:ti P t=some T)(hv:Eo row c T.size T.k.agg=some v) :
  Ha P (hp h0 ids xs) t (.ptr o g r c)=some v:=by rw [← ho]; exact C6 hI hl hj hr hT hv
theorem Abm {P:Program}[GW P]{t:TypeId}{s by':Nat}{z:List AV}(hT:ti P t=some ⟨.ifc,s,by',z⟩):Kq P .eql t .nili .nili=some (.bool true):=by simp only [Kq,Kl,hT,Option.map_some]
end Go.Am
namespace Go.Am
open Go Go.ChangeShapes Go.WideShapes Go.RowKit
set_option linter.unusedVariables false
set_option linter.unusedSectionVars false
set_option linter.unusedSimpArgs false
abbrev Pf:Mu:=fun _ _=>none
abbrev M0:Nat→Prop:=fun _=>False
def LR (w:World)(l:List AV)(cs:List Value):Prop:=l.length=cs.length ∧ ∀ i,i<l.length→Rv w Pf M0 (l.getD i .und) (cs.getD i undef)
structure Bulk {H:Type}(bk:DataW H→Nat)(bks:List (DataW H)→Nat):Prop where
 one : ∀ d,1≤bk d
 str : ∀ l,bk (.lit (.string l))=l.length+1
 sl : ∀ e s,bks e+1≤bk (.slice e s)
 agg : ∀ l,bk (.agg l)=bks l+1
 nil:bks []=0
 cons : ∀ d l,bks (d::l)=bk d+bks l
structure Ty (τ:Type) where
 e:τ→List AV
 good:τ→Prop
 bulk:τ→Nat
section
variable {P:Program} [GW P]
def Cr {τ:Type}(P:Program)[GW P](t:TypeId)(T:Ty τ):Prop:=
 ∀ {H:Type} (enc:TypeId×Value→H) (w:World) (sp:Nat→Bool) (held:Bool) (fuel:Nat) (cs:List Value) (x:DataW H×List MemPlace) (bk:DataW H→Nat) (bks:List (DataW H)→Nat),
  Bulk bk bks→DataW.trod enc P w 0 sp held fuel t cs=some x→bk x.1≤Do → ∃ a:τ,LR w (T.e a) cs∧T.good a∧T.bulk a≤bk x.1
theorem LR.nil {w:World}:LR w [] []:=⟨rfl,fun _ h=>absurd h (Nat.not_lt_zero _)⟩
theorem LR.one {w:World}{a:AV}{c:Value}(h:Rv w Pf M0 a c):LR w [a] [c]:=⟨rfl,fun i hi=>by
 have:i=0:=by simpa using hi
 subst this; exact h⟩
theorem LR.cons {w:World}{a:AV}{c:Value}{l:List AV}{cs:List Value}(h:Rv w Pf M0 a c)(k:LR w l cs):LR w (a::l) (c::cs):=⟨by simp [k.1],fun i hi=>by
 cases i with
 | zero=>exact h
 | succ i=>simpa using k.2 i (by simpa using hi)⟩
theorem LR.append {w:World} : ∀ {l:List AV} {cs:List Value} {l':List AV} {cs':List Value},LR w l cs→LR w l' cs'→LR w (l++l') (cs++cs')
 | [],[],_,_,_,h=>h
 | [],_::_,_,_,h,_=>by simp [LR] at h
 | _::_,[],_,_,h,_=>by simp [LR] at h
 | a::l,c::cs,l',cs',h,h'=>by
  refine LR.cons (by simpa using h.2 0 (by simp)) (LR.append (l:=l) (cs:=cs) ⟨by simpa using h.1,fun i hi=>by simpa using h.2 (i+1) (by simpa using hi)⟩ h')
def Bd (k:IntKind):Ty Int:=⟨fun n=>[.int k n],fun n=>(Lit.int k n).wf=true,fun _=>1⟩
def Bx:Ty (List UInt8):=⟨fun s=>[.str s],fun _=>True,fun s=>s.length+1⟩
def Bs {τ:Type}(st:Nat)(T:Ty τ):Ty (List τ):=⟨fun l=>[.sl st (l.map T.e)],fun l => ∀ a ∈ l,T.good a,fun l=>(l.map T.bulk).sum+1⟩
def Ij:Ty Unit:=⟨fun _=>[],fun _=>True,fun _=>0⟩
def Bj {α β:Type}(A:Ty α)(B:Ty β):Ty (α×β):=⟨fun p=>A.e p.1++B.e p.2,fun p=>A.good p.1∧B.good p.2,fun p=>A.bulk p.1+B.bulk p.2⟩
theorem Yt {t:TypeId}{k:IntKind}(ht:P.underlying t=some (.int k)):Cr P t (Bd k):=by
 intro H enc w sp held fuel cs x bk bks B h hl
 obtain⟨n,rfl,rfl,hw⟩:=DataW.trod_int ht h
 exact⟨n,LR.one (.int k n),hw,B.one _⟩
theorem Yq {t:TypeId}(ht:P.underlying t=some .string):Cr P t Bx:=by
 intro H enc w sp held fuel cs x bk bks B h hl
 obtain⟨s,rfl,rfl,hs⟩:=DataW.trod_string ht h
 refine⟨s.data.toList,LR.one ?_,trivial,by rw [B.str]; exact Nat.le_refl _⟩
 have:s=⟨s.data.toList.toArray⟩:=by cases s; simp
 exact this ▸ Rv.str s.data.toList
theorem R7 {α:Type}{Q:Nat→α→Prop} : ∀ (n:Nat),(∀ i,i<n → ∃ a,Q i a) → ∃ l:List α,l.length=n ∧ ∀ i a,l[i]? = some a→Q i a
 | 0,_=>⟨[],rfl,fun i a h=>by simp at h⟩
 | n+1,h=>by
  obtain⟨l,hl,hq⟩:=R7 n fun i hi=>h i (Nat.lt_succ_of_lt hi)
  obtain⟨a,ha⟩:=h n (Nat.lt_succ_self n)
  refine⟨l++[a],by simp [hl],fun i b hb=>?_⟩
  by_cases hi:i<n
  ·rw [List.getElem?_append_left (by omega)] at hb; exact hq i b hb
  ·have hlt:=(List.getElem?_eq_some_iff.1 hb).1
   have:i=n:=by simp [hl] at hlt; omega
   subst this
   rw [List.getElem?_append_right (by omega),hl] at hb
   simp at hb; subst hb; exact ha
theorem Uq {H:Type}{bk:DataW H→Nat}{bks:List (DataW H)→Nat}(B:Bulk bk bks){d:DataW H} : ∀ {l:List (DataW H)},d ∈ l→bk d≤bks l
 | [],h=>by simp at h
 | x::l,h=>by
  rw [B.cons]
  rcases List.mem_cons.1 h with rfl | h
  ·omega
  ·have:=Uq B h; omega
theorem U2 {H:Type}{bk:DataW H→Nat}{bks:List (DataW H)→Nat}(B:Bulk bk bks) : ∀ (l:List (DataW H)),l.length≤bks l
 | []=>by simp
 | x::l=>by
  rw [B.cons]
  have h1:=B.one x
  have h2:=U2 B l
  simp; omega
theorem Tr {H τ:Type}{bk:DataW H→Nat}{bks:List (DataW H)→Nat}(B:Bulk bk bks){f:τ→Nat} : ∀ (l:List τ) (ds:List (DataW H)),l.length=ds.length→(∀ (i:Nat) a d,l[i]? = some a→ds[i]? = some d→f a≤bk d)→(l.map f).sum≤bks ds
 | [],[],_,_=>by simp
 | [],_::_,h,_=>by simp at h
 | _::_,[],h,_=>by simp at h
 | a::l,d::ds,h,hq=>by
  rw [B.cons]
  have h1:=hq 0 a d (by simp) (by simp)
  have h2:=Tr B l ds (by simpa using h) fun i a' d' ha hd=>hq (i+1) a' d' (by simpa using ha) (by simpa using hd)
  simp only [List.map_cons,List.sum_cons]
  omega
theorem E0 {τ:Type}{t e:TypeId}{st:Nat}{T:Ty τ}(ht:P.underlying t=some (.slice e))(hst:P.cellsOf e=st)(hpos:0<st)(hok : ∀ a,Bf st (T.e a))(h:Cr P e T):Cr P t (Bs st T):=by
 intro H enc w sp held fuel cs x bk bks B hx hl
 rcases DataW.trod_slice ht hx with⟨rfl,rfl⟩ | ⟨a,len,cap,elems,rest,n,_,rfl,rfl,_,hcap,_,hlen,hel,_⟩
 ·exact⟨[],LR.one (.sl0 st none 0),fun _ h=>absurd h (List.not_mem_nil),by simpa [Bs] using B.one _⟩
 ·rw [hst] at hel
  have hb:=B.sl (elems.map (·.1)) (rest.map (·.1))
  have hlenb:len≤Do:=by
   have:=U2 B (elems.map (·.1))
   simp only [List.length_map] at this
   simp only at hl
   omega
  have key : ∀ i,i<len → ∃ a1:τ,∃ cs1 y,w.cells? 0 (a.add (i * st)) st=some cs1∧elems[i]? = some y∧LR w (T.e a1) cs1∧T.good a1∧T.bulk a1≤bk y.1:=by
   intro i hi
   have hE:=hel i hi
   have hi':i<elems.length:=by omega
   rw [List.getElem?_eq_getElem hi',Option.bind_eq_some_iff] at hE
   obtain⟨cs1,hc1,hy1⟩:=hE
   have hbi:bk (elems[i]).1≤bks (elems.map (·.1)):=Uq B (List.mem_map.2 ⟨_,List.getElem_mem hi',rfl⟩)
   obtain⟨a1,h1,h2,h3⟩:=h enc w sp held n cs1 _ bk bks B hy1 (by simp only at hl; omega)
   exact⟨a1,cs1,_,hc1,List.getElem?_eq_getElem hi',h1,h2,h3⟩
  obtain⟨l,hll,hq⟩:=R7 len key
  refine⟨l,LR.one ?_,fun a1 hm=>?_,?_⟩
  ·by_cases h0:len=0
   ·subst h0
    have:l=[]:=List.length_eq_zero_iff.1 hll
    subst this
    exact .sl0 st (some a) cap
   ·have hsp:a.spot=none:=by
     obtain⟨a1,cs1,y,hc1,_⟩:=key 0 (by omega)
     obtain⟨_,hcl,hc⟩:=World.cells?_some hc1
     have h00:=hc 0 hpos
     simp only [Nat.zero_mul,Addr.add,if_true] at h00
     rw [List.getElem?_eq_getElem (by omega)] at h00
     unfold World.cell? at h00
     split at h00
     ·split at h00
      ·cases h00
      ·rename_i hh; simpa using hh
     ·cases h00
    have hlt:a.block<w.heap.size:=by
     obtain⟨a1,cs1,y,hc1,_⟩:=key 0 (by omega)
     have:=World.cells?_block hc1 hpos
     simpa [Addr.add] using this
    have hadd : ∀ i j,(a.add (i * st)).add j=⟨a.block,a.off+i * st+j,none⟩:=by
     intro i j
     obtain⟨b,off,s⟩:=a
     simp only at hsp
     subst hsp
     unfold Addr.add
     split <;> split <;> simp_all
    have hcell : ∀ i j,i<l.length→j<st → ∃ a1 v,l[i]? = some a1∧w.cell? ⟨a.block,a.off+i * st+j,none⟩=some v∧Rv w Pf M0 ((T.e a1).getD j .und) v:=by
     intro i j hi hj
     obtain⟨cs1,y,hc1,_,h1,_,_⟩:=hq i _ (List.getElem?_eq_getElem hi)
     obtain⟨_,hcl,hc⟩:=World.cells?_some hc1
     have:=hc j hj
     rw [hadd,List.getElem?_eq_getElem (by omega)] at this
     refine⟨_,_,List.getElem?_eq_getElem hi,this,?_⟩
     have hr:=h1.2 j (by rw [h1.1]; omega)
     rwa [List.getD_eq_getElem?_getD,List.getD_eq_getElem?_getD,List.getElem?_eq_getElem (l:=cs1) (by omega),Option.getD_some,← List.getD_eq_getElem?_getD] at hr
    have:=Rv.sl (w:=w) (mu:=Pf) (M:=M0) st (l.map T.e) a.block a.off cap (fun i j=>(w.cell? ⟨a.block,a.off+i * st+j,none⟩).getD undef) (by simpa [hll] using hcap) (by simpa [hll] using hlenb)
     (fun i j hi hj=>by
      obtain⟨_,v,_,hv,_⟩:=hcell i j (by simpa using hi) hj
      rw [hv]; rfl)
     (fun i j hi hj=>by
      obtain⟨a1,v,ha1,hv,hr⟩:=hcell i j (by simpa using hi) hj
      rw [hv]
      simp only [cell,List.getD_eq_getElem?_getD,List.getElem?_map,ha1,Option.map_some,Option.getD_some] at hr ⊢
      exact hr)
     (fun r hr=>by obtain⟨a1,_,rfl⟩:=List.mem_map.1 hr; exact hok a1) (fun h=>h) hlt
    rw [show(l.map T.e).length=len by simp [hll]] at this
    have e:a=⟨a.block,a.off,none⟩:=by cases a; simp only at hsp; subst hsp; rfl
    rw [e]
    exact this
  ·obtain⟨i,hi,rfl⟩:=List.mem_iff_getElem.1 hm
   obtain⟨_,_,_,_,_,hg,_⟩:=hq i _ (List.getElem?_eq_getElem hi)
   exact hg
  ·have:=Tr B (f:=T.bulk) l (elems.map (·.1)) (by simp [hll,hlen]) fun i a1 d ha hd=>by
    obtain⟨cs1,y,_,hy,_,_,hb1⟩:=hq i a1 ha
    rw [List.getElem?_map,hy] at hd
    simp only [Option.map_some,Option.some.injEq] at hd
    subst hd
    exact hb1
   show(l.map T.bulk).sum+1≤_
   simp only
   omega
def Rf {τ:Type}(P:Program)[GW P](off:Nat)(fs:List Field)(T:Ty τ)(tot:Nat):Prop:=
 ∀ {H:Type} (enc:TypeId×Value→H) (w:World) (sp:Nat→Bool) (held:Bool) (n:Nat) (cs:List Value) (xs:List (DataW H×List MemPlace)) (bk:DataW H→Nat) (bks:List (DataW H)→Nat),Bulk bk bks →
  xs.length=fs.length→(∀ (i:Nat) (f:Field),fs[i]? = some f→DataW.trod enc P w 0 sp held n f.type ((cs.drop f.offset).take (P.cellsOf f.type))=xs[i]?)→cs.length=tot→bks (xs.map (·.1))≤Do →
  ∃ a:τ,LR w (T.e a) (cs.drop off)∧T.good a∧T.bulk a≤bks (xs.map (·.1))
theorem Hg {off tot:Nat}(h:off=tot):Rf P off [] Ij tot:=by
 intro H enc w sp held n cs xs bk bks B hl hx hc hb
 subst h
 refine⟨(),?_,trivial,Nat.zero_le _⟩
 rw [List.drop_of_length_le (by omega)]
 exact LR.nil
theorem At {τ σ:Type}{off tot c:Nat}{f:Field}{fs:List Field}{T:Ty τ}{S:Ty σ}{t:TypeId}(hf:f.offset=off)(ht:f.type=t)(hc:P.cellsOf t=c)(hle:Nat.ble (off+c) tot=true)(h:Cr P t T)(k:Rf P (off+c) fs S tot) :
  Rf P off (f::fs) (Bj T S) tot:=by
 intro H enc w sp held n cs xs bk bks B hl hx hcs hb
 subst ht
 cases xs with
 | nil=>simp at hl
 | cons x xs=>
  have hle:off+c≤tot:=by simpa using hle
  have h0:=hx 0 f rfl
  rw [hf,hc] at h0
  simp only [List.map_cons,B.cons] at hb
  obtain⟨a,h1,h2,h3⟩:=h enc w sp held n _ x bk bks B h0 (by omega)
  obtain⟨b,k1,k2,k3⟩:=k enc w sp held n cs xs bk bks B (by simpa using hl) (fun i g hg=>by simpa using hx (i+1) g (by simpa using hg)) hcs (by omega)
  refine⟨(a,b),?_,⟨h2,k2⟩,by simp only [List.map_cons,B.cons,Bj]; omega⟩
  have e:cs.drop off=(cs.drop off).take c++cs.drop (off+c):=by
   rw [← List.drop_drop,List.take_append_drop]
  rw [e]
  exact LR.append h1 k1
theorem Ff {τ σ:Type}{t:TypeId}{fs:Array Field}{T:Ty τ}{tot:Nat}{S:Ty σ}(ht:P.underlying t=some (.struct fs))(hc:P.cellsOf t=tot)(k:Rf P 0 fs.toList T tot)(mk:τ→σ)
  (he : ∀ p,S.e (mk p)=T.e p) (hg : ∀ p,T.good p→S.good (mk p)) (hb : ∀ p,S.bulk (mk p)≤T.bulk p+1):Cr P t S:=by
 intro H enc w sp held fuel cs x bk bks B h hl
 obtain⟨xs,n,rfl,rfl,h1,h2,h3⟩:=DataW.trod_struct ht h
 simp only [B.agg] at hl
 obtain⟨a,k1,k2,k3⟩:=k enc w sp held n cs xs bk bks B (by simpa using h2) (fun i f hf=>h3 i f (by simpa using hf)) (by omega) (by omega)
 refine⟨mk a,?_,hg _ k2,?_⟩
 ·rw [he]; simpa using k1
 ·have:=hb a; simp only [B.agg]; omega
end
theorem Adh {w w':World}{mu':Mu}{M':Nat→Prop}(h:Ext w Pf M0 w' mu' M'):w.keptBut w' (fun _=>False)∧(∀ b,b<w.heap.size→w'.heap[b]? = w.heap[b]?):=by
 refine⟨⟨h.os,h.output,fun i hi=>?_⟩,fun b hb=>(h.same b hb (fun h=>h)).1⟩
 rw [(h.same i hi (fun h=>h)).1]
 cases w.heap[i]? with
 | none=>trivial
 | some o=>cases o <;> simp
theorem Ad2 {P:Program}[GW P](w:World)(hg:GW.n P≤w.heap.size∧GW.G P w.heap.size w):Sim (P:=P) ⟨w.heap.size,w.heap.size⟩ Pf (fun _=>none) w:=
 ⟨Nat.le_refl _,fun _ _ _ h=>(by cases h),⟨0,fun _ _ _=>rfl⟩,⟨0,fun _ _=>rfl⟩,fun _ _ _ _ h=>(by cases h),fun _ _ _ h=>(by cases h),fun _ _ _ _ _ _ h=>(by cases h),hg,fun _ _ _ h=>(by cases h)⟩
theorem Xh {P:Program}[GW P]{f:FuncId}{A:List AV}{m:R Bool}{args:Array Value}{w:World}(hc:CP P f A m (fun b=>AV.bool b))(hg:GW.n P≤w.heap.size∧GW.G P w.heap.size w)(hm:m=.ok true)(ha:LR w A args.toList) :
  Calls P f args w fun e w'=>e=.returned (.bool true)∧w.keptBut w' (fun _=>False)∧(∀ b,b<w.heap.size→w'.heap[b]? = w.heap[b]?):=by
 subst hm
 have h:=(hc (fun _=>none) (by simp)).2 ⟨w.heap.size,w.heap.size⟩ Pf w args (Ad2 w hg) ⟨ha.1,fun i hi=>(ha.2 i hi).less (fun b hb=>by obtain⟨_,_,_,h,_⟩:=hb; cases h)⟩
 refine h.mono fun e w' ⟨r,h',mu',a1,a2,a3,a4⟩=>?_
 obtain⟨_,hr⟩:=a1
 simp only at hr
 subst hr
 refine⟨?_,Adh (mu':=mu') (M':=A8 h' mu') ⟨a3.os,a3.tape,a3.output,a3.size,fun b hb _=>a3.same b hb (fun hm=>by obtain⟨_,_,_,h,_⟩:=hm; cases h),a3.mu⟩⟩
 cases e with
 | returned v=>
  have a4':Rv w' mu' (A8 h' mu') (.bool true) v:=a4
  cases a4'
  rfl
 | panicked v=>exact a4.elim
 | outgrown=>exact a4.elim
theorem Abq {w:World}{l:List AV}{c:Array Value}(h:LR w l (Value.agg c).cells.toList):Rv w Pf M0 (.agg l) (.agg c):=by
 have h':LR w l c.toList:=h
 have:=Rv.agg (w:=w) (mu:=Pf) (M:=M0) l c.toList h'.1 h'.2
 simpa using this
theorem Sy {H:Type}{enc:TypeId×Value→H}{P:Program}[GW P](hl:laidOutB P=true){W W':World}{sp':Nat→Bool} : ∀ {ts:List TypeId} {vs:List Value} {ds:List (DataW H)} {ps:List MemPlace},
  (∀ t ∈ ts,P.readableRec t=true∧t<P.types.size)→DataW.TrodAll enc P W 0 (fun _=>true) true ts vs ds ps→(∀ p ∈ ps,W.sameAt W' p)→(∀ p ∈ ps,sp' p.block=true)→DataW.TrodAll enc P W' 0 sp' true ts vs ds ps
 | [],[],[],_,_,h,_,_=>h
 | [],_::_,_,_,_,h,_,_=>h.elim
 | [],[],_::_,_,_,h,_,_=>h.elim
 | _::_,[],_,_,_,h,_,_=>h.elim
 | _::_,_::_,[],_,_,h,_,_=>h.elim
 | t::ts,v::vs,d::ds,ps,hr,h,hs,hp=>by
  obtain⟨p,q,h1,h2,rfl⟩:=h
  refine⟨p,q,?_,Sy hl (fun t ht=>hr t (List.mem_cons_of_mem _ ht)) h2 (fun x hx=>hs x (List.mem_append_right _ hx)) (fun x hx=>hp x (List.mem_append_right _ hx)),rfl⟩
  obtain⟨a,b⟩:=hr t (List.mem_cons_self ..)
  exact Go.WideElems.Trod_stays hl a b h1 (fun x hx=>hs x (List.mem_append_left _ hx)) (fun x hx=>hp x (List.mem_append_left _ hx))
theorem Z4 {H:Type}{enc:TypeId×Value→H}{P:Program}[GW P]{f:FuncId}{fn:Func}{s:ChangeSpec}{W:World}{args:Array Value}{ds gs:List (DataW H)}{before:List MemPlace}{tb:TypeId}
  (hW:DataW.Whole enc P fn.params.toList s.vars false W args.toList ds gs before)
  (hl:laidOutB P=true) (hr : ∀ t ∈ fn.params.toList,P.readableRec t=true∧t<P.types.size) (hvs:s.vars=[]) (hrt:fn.resultTypes = #[tb]) (htb:P.underlying tb=some .bool)
  (hsp : ∀ ds:List (DataW H),ds.length=fn.params.size→s.fn H ds={ results:=[.lit (.bool true)],args:=ds })
  (hc:Calls P f args W fun e w'=>e=.returned (.bool true)∧W.keptBut w' (fun _=>False)∧(∀ b,b<W.heap.size→w'.heap[b]? = W.heap[b]?)) :
  Calls P f args W fun e W' => ∃ v,e=.returned v∧s.post enc P fn false true false false W args v W':=by
 refine hc.mono fun e W' ⟨he,hk,hs⟩=>?_
 subst he
 refine⟨_,rfl,?_⟩
 have hold : ∀ p ∈ before,(fun b=>decide (b<W.heap.size)) p.block=true:=fun p hp=>by simpa using hW.lt p hp
 obtain⟨pa,pv,hA,hV,rfl,hz,hn⟩:=id hW
 rw [hvs] at hV
 cases gs with
 | cons g gs=>exact hV.elim
 | nil=>
 have hV':pv=[]:=hV
 subst hV'
 have hlen:ds.length=fn.params.size:=by
  have : ∀ {ts:List TypeId} {vs:List Value} {ds:List (DataW H)} {ps:List MemPlace},DataW.TrodAll enc P W 0 (fun _=>true) true ts vs ds ps→ds.length=ts.length:=by
   intro ts
   induction ts with
   | nil=>intro vs ds ps h; cases vs <;> cases ds <;> first | rfl | exact h.elim
   | cons t ts ih=>
    intro vs ds ps h
    cases vs with
    | nil=>exact h.elim
    | cons v vs=>
     cases ds with
     | nil=>exact h.elim
     | cons d ds=>obtain⟨_,_,_,h2,_⟩:=h; simp [ih h2]
  simpa using this hA
 have hfn:s.fn H (ds++[])={ results:=[.lit (.bool true)],args:=ds }:=by rw [List.append_nil]; exact hsp ds hlen
 have hsame : ∀ p ∈ pa++[],W.sameAt W' p:=fun p hp=>by
  have hb:=hs p.block (hW.lt p hp)
  cases p with
  | cell b off=>exact cell?_of_heap (a:=⟨b,off,none⟩) hb
  | map b=>exact hb
 have hres : ∀ (b:Nat) (sp:Nat→Bool) (hd:Bool),DataW.TrodAll enc P W' b sp hd fn.resultTypes.toList ((Value.bool true).resultList fn.resultTypes.size) (s.fn H (ds++[])).results []:=by
  intro b sp hd
  rw [hfn,hrt]
  exact trodAll_cons_mk (shut_bool htb _) trodAll_mk0
 have hargs : ∀ sp:Nat→Bool,(∀ p ∈ pa++[],sp p.block=true)→DataW.TrodAll enc P W' 0 sp true fn.params.toList args.toList (s.fn H (ds++[])).args pa:=by
  intro sp hsp'
  rw [hfn]
  exact Sy hl hr hA (fun p hp=>hsame p (by simpa using hp)) (fun p hp=>hsp' p (by simpa using hp))
 have hvars : ∀ sp:Nat→Bool,(∀ p ∈ pa++[],sp p.block=true)→DataW.TrodVars enc P W' sp s.vars (s.fn H (ds++[])).vars []:=by
  intro sp _
  rw [hfn,hvs]
  rfl
 refine⟨ds,[],pa++[],[],pa,[],hW,hres _ _ _,hargs _ hold,hvars _ hold,World.keptBut_mono (fun p hp=>hp.elim) hk,fun _=>?_⟩
 refine⟨ok_one hrt rfl (okWide_bool_mk htb _),_,_,([]++pa)++[],⟨[]++pa,[],trodAll_append (hargs _ (fun _ _=>rfl)) (hres _ _ _),hvars _ (fun _ _=>rfl),rfl,?_,?_⟩,?_⟩
 ·intro b off hp
  have hb:=hs b (hW.lt (.cell b off) (by simpa using hp))
  have:=hz b off (by simpa using hp)
  unfold World.frozen? at this ⊢
  rw [hb]; exact this
 ·intro ha; cases ha
 ·intro p hp _
  simpa using hp
end Go.Am
