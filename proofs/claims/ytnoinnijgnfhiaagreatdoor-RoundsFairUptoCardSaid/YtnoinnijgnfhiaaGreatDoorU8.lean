/- Written by shrink.py from texts of ours: comments struck, what is not reached left out, names short. -/
import Derived.Test.YtnoinnijgnfhiaaGreatDoorU4
import Derived.Test.YtnoinnijgnfhiaaGreatDoorU6
import Derived.KernelRfl
namespace Go.Am
open Go
set_option linter.unusedVariables false
set_option linter.unusedSectionVars false
set_option linter.unusedSimpArgs false
theorem N2 {α σ:Type}(b:Nat→α→σ→R σ)(k:Nat)(s:σ):eachS b k [] s=.ok s:=rfl
theorem K8 {α σ:Type}(b:Nat→α→σ→R σ)(k:Nat)(a:α)(l:List α)(s:σ):eachS b k (a::l) s=(b k a s).bind fun s'=>eachS b (k+1) l s':=by
 rw [eachS]
theorem Aui {n:Int}(h1 : -9223372036854775808≤n)(h2:n≤9223372036854775807):IntKind.wrap .i64 n=n:=by
 simp [IntKind.wrap,IntKind.bits,IntKind.signed]
 omega
section
variable {K V:Type} [DecidableEq K]
@[simp] theorem Axb (k:K):B3 ([]:List (K×V)) k=none:=rfl
theorem Sj (p:K×V)(m:List (K×V))(k:K):B3 (p::m) k=if p.1=k then some p.2 else B3 m k:=by
 unfold B3
 rw [List.find?_cons]
 by_cases h:p.1=k
 ·simp [h]
 ·rw [if_neg h,show(p.1==k)=false by simpa using h]
theorem Ahw (m:List (K×V))(k k':K)(v:V):B3 (Hv m k v) k'=if k=k' then some v else B3 m k':=by
 induction m with
 | nil=>rw [Hv,Sj]
 | cons p m ih=>
  rw [Hv]
  by_cases h:p.1=k
  ·rw [if_pos (by simpa using h),Sj,Sj]
   subst h
   by_cases h':p.1=k' <;> simp [h']
  ·rw [if_neg (by simpa using h),Sj,Sj,ih]
   by_cases h':p.1=k'
   ·subst h'
    rw [if_pos rfl,if_neg (fun e=>h e.symm),if_pos rfl]
   ·rw [if_neg h',if_neg h']
end
theorem Ahu {α β:Type}{b:Nat→α→List β→R (List β)}{g:α→β}{c:Nat}(hb : ∀ j a s,b j a s=if(s.length+1) * c≤Bs then .ok (s++[g a]) else .bad) :
  ∀ (l:List α) (k:Nat) (s:List β),(s.length+l.length) * c≤Bs→eachS b k l s=.ok (s++l.map g)
 | [],k,s,_=>by simp [N2]
 | a::l,k,s,h=>by
  have h1:(s.length+1) * c≤Bs:=Nat.le_trans (Nat.mul_le_mul_right _ (by simp)) h
  rw [K8,hb,if_pos h1,R.ok_bind,Ahu hb l (k+1) (s++[g a]) (by simpa [Nat.add_assoc,Nat.add_comm 1] using h)]
  simp
theorem H5 {α:Type}{l:List α}{j:Nat}{a:α}(h:l[j]? = some a):idx l (j:Int)=.ok a:=by
 unfold idx
 rw [if_pos (by omega)]
 simp [h]
abbrev Aua:=List UInt8
def pos (l:List Aua)(x:Aua):Option Nat:=l.findIdx? (· == x)
theorem Ais {α:Type}{b:Nat→α→Unit→R (Unit ⊕ Bool)} : ∀ (l:List α) (k:Nat),(∀ (j:Nat) a,l[j]? = some a→b (k+j) a ()=.ok (.inl ()))→each b k l ()=.ok (.inl ())
 | [],k,_=>rfl
 | a::l,k,hb=>by
  rw [Qt,show b k a ()=.ok (.inl ()) from hb 0 a rfl]
  simp only [R.ok_bind]
  exact Ais l (k+1) fun j x h=>by have:=hb (j+1) x (by simpa using h); rwa [Nat.add_comm j 1,← Nat.add_assoc] at this
end Go.Am
namespace Go.Am
open Go
set_option linter.unusedVariables false
set_option linter.unusedSimpArgs false
def Ak {α:Type}(m:R α)(P:α→Prop):Prop := ∃ a,m=.ok a∧P a
section
variable {α β σ ε:Type}
theorem Ak.ok {a:α}{P:α→Prop}(h:P a):Ak (.ok a) P:=⟨a,rfl,h⟩
theorem Ak.of {m:R α}{a:α}{P:α→Prop}(e:m=.ok a)(h:P a):Ak m P:=⟨a,e,h⟩
theorem Ak.bind {m:R α}{f:α→R β}{P:α→Prop}{Q:β→Prop}(h:Ak m P)(k : ∀ a,P a→Ak (f a) Q):Ak (m.bind f) Q:=by
 obtain⟨a,rfl,ha⟩:=h
 exact k a ha
theorem Ak.mono {m:R α}{P Q:α→Prop}(h:Ak m P)(k : ∀ a,P a→Q a):Ak m Q:=by
 obtain⟨a,e,ha⟩:=h
 exact⟨a,e,k a ha⟩
theorem Ak.eq {m:R α}{a:α}(h:Ak m fun x=>x=a):m=.ok a:=by
 obtain⟨x,e,rfl⟩:=h
 exact e
theorem Ak.np {m:R α}{P:α→Prop}(h:Ak m P):Ak m.np P:=by
 obtain⟨a,rfl,ha⟩:=h
 exact⟨a,rfl,ha⟩
theorem Ak.ite {c:Prop}[Decidable c]{a b:R α}{P:α→Prop}(h1:c→Ak a P)(h2:¬c→Ak b P):Ak (if c then a else b) P:=by
 by_cases hc:c
 ·rw [if_pos hc]; exact h1 hc
 ·rw [if_neg hc]; exact h2 hc
theorem Ak.pos {c:Prop}[Decidable c]{a b:R α}{P:α→Prop}(hc:c)(h:Ak a P):Ak (if c then a else b) P:=by rw [if_pos hc]; exact h
theorem Ak.neg {c:Prop}[Decidable c]{a b:R α}{P:α→Prop}(hc:¬c)(h:Ak b P):Ak (if c then a else b) P:=by rw [if_neg hc]; exact h
theorem Ak.idx {l:List α}{n:Int}{P:α→Prop}(h0:0≤n)(h1:n<(l.length:Int))(h : ∀ a,l[n.toNat]? = some a→P a):Ak (idx l n) P:=by
 have hl:n.toNat<l.length:=by omega
 refine⟨l[n.toNat],?_,h _ (List.getElem?_eq_getElem hl)⟩
 unfold Am.idx
 rw [if_pos h0,List.getElem?_eq_getElem hl]
theorem Ak.eachS {b:Nat→α→σ→R σ}{I:Nat→σ→Prop} : ∀ (l:List α) (k:Nat) (s:σ),I k s→(∀ (j:Nat) a s,l[j]? = some a→I (k+j) s→Ak (b (k+j) a s) (I (k+j+1)))→Ak (eachS b k l s) (I (k+l.length))
 | [],k,s,h,_=>⟨s,rfl,h⟩
 | a::l,k,s,h,hb=>by
  rw [K8]
  refine(hb 0 a s rfl h).bind fun s' h'=>?_
  have:=Ak.eachS l (k+1) s' h' (fun j a' s hj hi=>by
   have:=hb (j+1) a' s hj (by rwa [Nat.add_assoc,Nat.add_comm 1] at hi)
   rwa [show k+(j+1)=k+1+j by omega] at this)
  rwa [show k+1+l.length=k+(a::l).length by simp; omega] at this
def Ur (I:Nat→σ→Prop)(E:ε→Prop)(n:Nat):σ ⊕ ε→Prop
 | .inl s=>I n s
 | .inr e=>E e
theorem Ak.each {b:Nat→α→σ→R (σ ⊕ ε)}{I:Nat→σ→Prop}{E:ε→Prop} : ∀ (l:List α) (k:Nat) (s:σ),I k s→(∀ (j:Nat) a s,l[j]? = some a→I (k+j) s→Ak (b (k+j) a s) (Ur I E (k+j+1)))→Ak (each b k l s) (Ur I E (k+l.length))
 | [],k,s,h,_=>⟨.inl s,rfl,h⟩
 | a::l,k,s,h,hb=>by
  rw [Qt]
  refine(hb 0 a s rfl h).bind fun x h'=>?_
  cases x with
  | inr e=>exact⟨_,rfl,h'⟩
  | inl s'=>
   have:=Ak.each l (k+1) s' h' (fun j a' s hj hi=>by
    have:=hb (j+1) a' s hj (by rwa [Nat.add_assoc,Nat.add_comm 1] at hi)
    rwa [show k+(j+1)=k+1+j by omega] at this)
   rwa [show k+1+l.length=k+(a::l).length by simp; omega] at this
theorem Ak.alt {f:α→R σ}{g:β→R σ}{x:α ⊕ β}{P:α ⊕ β→Prop}{Q:σ→Prop}(hx:P x)(h1 : ∀ a,P (.inl a)→Ak (f a) Q)(h2 : ∀ b,P (.inr b)→Ak (g b) Q):Ak (alt f g x) Q:=by
 cases x with
 | inl a=>exact h1 a hx
 | inr b=>exact h2 b hx
theorem Ak.loop {b:σ→R (σ ⊕ ε)}{I:σ→Prop}{E:ε→Prop}(μ:σ→Nat)(hb : ∀ s,I s→Ak (b s) fun x=>match x with | .inl s'=>I s'∧μ s'<μ s | .inr e=>E e) : ∀ (n:Nat) (s:σ),μ s≤n→I s→Ak (loop b s) E
 | n,s,hn,hs=>by
  rw [Agc]
  obtain⟨x,e,hx⟩:=hb s hs
  rw [e]
  cases x with
  | inr y=>exact⟨y,rfl,hx⟩
  | inl s'=>
   cases n with
   | zero=>exact absurd hx.2 (by omega)
   | succ n=>exact Ak.loop μ hb n s' (by have:=hx.2; omega) hx.1
end
theorem G1 {n:Int}(h1 : -9223372036854775808≤n)(h2:n≤9223372036854775807):IntKind.wrap .i64 n=n:=Aui h1 h2
def Eo {α:Type}[BEq α](l:List α)(v:α):Int:=match l.findIdx? (v == ·) with
 | some i=>(i:Int)
 | none => -1
theorem Af4 {α:Type}{b:Nat→α→Unit→R (Unit ⊕ Int)}{p:α→Bool}(hb : ∀ j a,b j a ()=if p a then .ok (.inr (j:Int)) else .ok (.inl ())) : ∀ (l:List α) (k:Nat),
  each b k l ()=match l.findIdx? p with | some i=>.ok (.inr ((k+i:Nat):Int)) | none=>.ok (.inl ())
 | [],k=>rfl
 | a::l,k=>by
  rw [Qt,hb,List.findIdx?_cons]
  by_cases h:p a=true
  ·rw [if_pos h,if_pos h]; rfl
  ·rw [if_neg h,if_neg h]
   show each b (k+1) l ()=_
   rw [Af4 hb l (k+1)]
   cases l.findIdx? p with
   | none=>rfl
   | some i=>simp only [Option.map_some]; congr 2; rw [show k+1+i=k+(i+1) by omega]
theorem Auz {α:Type}[BEq α]{b:Nat→α→Unit→R (Unit ⊕ Int)}{v:α}(hb : ∀ j a,b j a ()=if(v==a)=true then .ok (.inr (j:Int)) else .ok (.inl ()))(l:List α) :
  (each b 0 l ()).bind (alt (fun _=>R.ok (-1)) (fun r=>.ok r))=.ok (Eo l v):=by
 rw [Af4 hb]
 unfold Eo
 cases l.findIdx? (v == ·) with
 | none=>rfl
 | some i=>simp [R.bind]
theorem Xz (s:List (Vector Int 32))(v:Vector Int 32):M6 s v=.ok (Eo s v):=Auz (fun j a=>rfl) s
theorem M5 (s:List Int)(v:Int):Ix s v=.ok (Eo s v):=Auz (fun j a=>rfl) s
theorem Iv {α:Type}[BEq α][LawfulBEq α]{l:List α}{v:α}:(0≤Eo l v)↔v ∈ l:=by
 unfold Eo
 cases h:l.findIdx? (v == ·) with
 | none=>
  rw [List.findIdx?_eq_none_iff] at h
  constructor
  ·intro h'; simp at h'
  ·intro hm; have:=h v hm; simp at this
 | some i=>
  rw [List.findIdx?_eq_some_iff_getElem] at h
  obtain⟨hi,h1,_⟩:=h
  constructor
  ·intro _; rw [show v=l[i] by simpa using h1]; exact List.getElem_mem hi
  ·intro _; exact Int.natCast_nonneg _
theorem Qx {α:Type}[BEq α][LawfulBEq α]{l:List α}{v:α}(h:0≤Eo l v):l[(Eo l v).toNat]? = some v:=by
 unfold Eo at h ⊢
 cases hf:l.findIdx? (v == ·) with
 | none=>rw [hf] at h; simp at h
 | some i=>
  rw [List.findIdx?_eq_some_iff_getElem] at hf
  obtain⟨hi,h1,_⟩:=hf
  simp only [Int.toNat_natCast]
  rw [List.getElem?_eq_getElem hi]
  simpa using (show v=l[i] by simpa using h1).symm
theorem Agm {α:Type}[BEq α][LawfulBEq α]{l:List α}{v:α}:Eo l v<(l.length:Int):=by
 unfold Eo
 cases hf:l.findIdx? (v == ·) with
 | none=>simp only; omega
 | some i=>
  rw [List.findIdx?_eq_some_iff_getElem] at hf
  obtain⟨hi,_⟩:=hf
  simp only; omega
theorem Wd (s:List (Vector Int 32))(v:Vector Int 32):Ii s v=.ok (decide (v ∈ s)):=by
 unfold Ii
 rw [Xz]
 show R.ok (decide (Eo s v≥0))=_
 congr 1
 exact decide_eq_decide.2 Iv
theorem K4 (s:List Int)(v:Int):Fk s v=.ok (decide (v ∈ s)):=by
 unfold Fk
 rw [M5]
 show R.ok (decide (Eo s v≥0))=_
 congr 1
 exact decide_eq_decide.2 Iv
def zD:Vector Int 32:=B0 32 0
theorem Ait:(#v[0,0,0,0,0,0,0,0,0,0,0,0,0,0,0,0,0,0,0,0,0,0,0,0,0,0,0,0,0,0,0,0]:Vector Int 32)=zD:=by decide
theorem M7 (c:Clearing):Hb c=.ok (!decide (zD ∈ c.Commitments)):=by
 unfold Hb
 rw [Wd,Ait]
 rfl
theorem Q5 (a y:Int):Jk a y=.ok (if a<y then -1 else if a > y then 1 else 0):=by
 unfold Jk P3
 have h1:(a != a)=false:=by simp
 have h2:(y != y)=false:=by simp
 simp only [h1,h2]
 show(if a<y then R.ok (-1:Int) else if a > y then .ok 1 else .ok 0)=_
 split
 ·rfl
 ·split <;> rfl
def Abi (a b:Opening):Int:=if a.Flight<b.Flight then -1 else if a.Flight > b.Flight then 1 else if a.Slot<b.Slot then -1 else if a.Slot > b.Slot then 1 else 0
theorem Tb (a b:Opening):Ms a b=.ok (Abi a b):=by
 unfold Ms
 rw [Q5,Q5]
 show(Ti _).bind _=_
 unfold Ti Abi
 generalize (if a.Slot<b.Slot then(-1:Int) else if a.Slot > b.Slot then 1 else 0)=q
 by_cases h1:a.Flight<b.Flight
 ·simp only [if_pos h1]; rfl
 ·simp only [if_neg h1]
  by_cases h2:a.Flight > b.Flight
  ·simp only [if_pos h2]; rfl
  ·simp only [if_neg h2]
   have e0:Lv 0=.ok (.inl ()):=rfl
   have e1:Lv q=if q=0 then .ok (.inl ()) else .ok (.inr q):=by
    unfold Lv
    by_cases hq:q=0
    ·subst hq; rfl
    ·rw [if_pos (by simpa using hq),if_neg hq]
   simp only [Qt,e0,e1,R.bind,Arp]
   by_cases hq:q=0
   ·subst hq; rfl
   ·rw [if_neg hq]
theorem Zx {a b:Opening}:Abi a b<0↔a.Flight<b.Flight∨(a.Flight=b.Flight∧a.Slot<b.Slot):=by
 unfold Abi
 split
 ·simp_all
 ·split
  ·constructor
   ·intro h; omega
   ·intro h; omega
  ·split
   ·constructor
    ·intro _; right; omega
    ·intro _; omega
   ·split
    ·constructor <;> intro h <;> omega
    ·constructor <;> intro h <;> omega
theorem Aqn {a b:Opening}:Abi a b=0↔a.Flight=b.Flight∧a.Slot=b.Slot:=by
 unfold Abi
 split
 ·constructor <;> intro h <;> omega
 ·split
  ·constructor <;> intro h <;> omega
  ·split
   ·constructor <;> intro h <;> omega
   ·split
    ·constructor <;> intro h <;> omega
    ·constructor <;> intro h <;> omega
theorem T2 (a f:Int):Kt a f=.ok (decide (0≤a∧a<8∧0≤f∧f≤4095)):=by
 unfold Kt
 congr 1
 rw [Bool.eq_iff_iff]
 simp only [Bool.and_eq_true,decide_eq_true_eq]
 constructor
 ·intro h; omega
 ·intro h; omega
theorem U1 (c:Int):Ls c=.ok (decide (-1≤c∧c≤1048576)):=by
 unfold Ls
 congr 1
 rw [Bool.eq_iff_iff]
 simp only [Bool.and_eq_true,decide_eq_true_eq]
end Go.Am
namespace Go.Am
open Go
set_option linter.unusedVariables false
set_option linter.unusedSimpArgs false
theorem Anu {L:List Int}{x:Int}:x ∈ K7 L↔x ∈ L:=(Te L).mem_iff
theorem An4 (L:List Int):(K7 L).Pairwise (· ≤ ·):=W2 L
theorem Amo : ∀ {l1 l2:List Int},l1.Pairwise (· < ·)→l2.Pairwise (· < ·)→(∀ x,x ∈ l1↔x ∈ l2)→l1=l2
 | [],[],_,_,_=>rfl
 | [],b::l2,_,_,h=>absurd ((h b).2 (List.mem_cons_self ..)) (by simp)
 | a::l1,[],_,_,h=>absurd ((h a).1 (List.mem_cons_self ..)) (by simp)
 | a::l1,b::l2,h1,h2,h=>by
  have k1:=List.pairwise_cons.1 h1
  have k2:=List.pairwise_cons.1 h2
  have hab:a=b:=by
   rcases List.mem_cons.1 ((h a).1 (List.mem_cons_self ..)) with e | e
   ·exact e
   ·rcases List.mem_cons.1 ((h b).2 (List.mem_cons_self ..)) with e' | e'
    ·exact e'.symm
    ·have:=k2.1 a e; have:=k1.1 b e'; omega
  subst hab
  rw [Amo k1.2 k2.2 fun x=>?_]
  constructor
  ·intro hx
   rcases List.mem_cons.1 ((h x).1 (List.mem_cons_of_mem _ hx)) with e | e
   ·have:=k1.1 x hx; omega
   ·exact e
  ·intro hx
   rcases List.mem_cons.1 ((h x).2 (List.mem_cons_of_mem _ hx)) with e | e
   ·have:=k2.1 x hx; omega
   ·exact e
def inA (a:Int):Prop:=0≤a∧a<8
instance (a:Int):Decidable (inA a):=by unfold inA; exact inferInstance
def Ex (owners:List Int):List Int:=((List.range 8).map fun n:Nat=>(n:Int)).filter fun a=>decide (a ∈ owners)
theorem W3 {owners:List Int}{a:Int}:a ∈ Ex owners↔inA a∧a ∈ owners:=by
 unfold Ex inA
 rw [List.mem_filter,List.mem_map]
 constructor
 ·rintro⟨⟨n,hn,rfl⟩,h⟩
  have:=List.mem_range.1 hn
  exact⟨by omega,by simpa using h⟩
 ·rintro⟨h1,h2⟩
  exact⟨⟨a.toNat,List.mem_range.2 (by omega),by omega⟩,by simpa using h2⟩
theorem Al6 (owners:List Int):(Ex owners).Pairwise (· < ·):=by
 unfold Ex
 refine List.Pairwise.filter _ ?_
 decide
theorem Aae (owners:List Int):(Ex owners).length≤8:=by
 unfold Ex
 refine Nat.le_trans (List.length_filter_le _ _) ?_
 simp
def many (owners:List Int)(a:Int):Int:=(owners.count a:Int)
theorem V2 (owners:List Int)(hl:owners.length≤1048576):Ak (F0 owners) fun r=>r.1=Ex owners ∧ ∀ a,Option.getD (B3 r.2 a) 0=if inA a then many owners a else 0:=by
 unfold F0
 refine Ak.bind (P:=fun s=>(∀ a,Option.getD (B3 s.1 a) 0=if inA a then many owners a else 0)∧s.2.Nodup∧(∀ a,a ∈ s.2↔inA a∧a ∈ owners)∧s.2.length≤owners.length) ?_ ?_
 ·have:=Ak.eachS (b:=fun _ a=>C8 fun m airlines=>Ha a m airlines) (I:=fun n s=>(∀ a,Option.getD (B3 s.1 a) 0=if inA a then many (owners.take n) a else 0)∧s.2.Nodup∧(∀ a,a ∈ s.2↔inA a∧a ∈ owners.take n)∧s.2.length≤n) owners 0 ([],[]) ?_ ?_
  ·refine this.mono fun s h=>?_
   simpa using h
  ·refine⟨fun a=>by simp [many],by simp,fun a=>by simp,by simp⟩
  ·rintro j a ⟨m,l⟩ hj ⟨h1,h2,h3,h4⟩
   simp only [Nat.zero_add] at h1 h3 h4 ⊢
   have hjl:j<owners.length:=As hj
   have htk:owners.take (j+1)=owners.take j++[a]:=by rw [List.take_add_one,hj]; rfl
   have hcnt : ∀ x,many (owners.take (j+1)) x=many (owners.take j) x+if a=x then 1 else 0:=fun x=>by
    unfold many
    rw [htk,List.count_append]
    by_cases hx:a=x
    ·subst hx; simp
    ·rw [if_neg hx,List.count_singleton,if_neg (by simpa using hx)]; simp
   show Ak (Ha a m l) _
   unfold Ha
   by_cases ha:inA a
   case neg=>
    rw [if_pos (by simp only [Bool.or_eq_true,decide_eq_true_eq]; unfold inA at ha; omega)]
    refine Ak.ok ⟨fun x=>?_,h2,fun x=>?_,by simp only at h4 ⊢; omega⟩
    ·rw [h1 x]
     by_cases hx:inA x
     ·rw [if_pos hx,if_pos hx,hcnt,if_neg (fun e:a=x=>ha (by rw [e]; exact hx))]; simp
     ·rw [if_neg hx,if_neg hx]
    ·rw [h3 x,htk,List.mem_append,List.mem_singleton]
     constructor
     ·rintro⟨q1,q2⟩; exact⟨q1,.inl q2⟩
     ·rintro⟨q1,q2 | rfl⟩
      ·exact⟨q1,q2⟩
      ·exact absurd q1 ha
   rw [if_neg (by simp only [Bool.or_eq_true,decide_eq_true_eq]; unfold inA at ha; omega)]
   have hm:Option.getD (B3 m a) 0=many (owners.take j) a:=by rw [h1 a,if_pos ha]
   have hcb:0≤many (owners.take j) a∧many (owners.take j) a≤1048576:=by
    have:=List.count_le_length (a:=a) (l:=owners.take j)
    have h':=List.length_take_le j owners
    have h'':=List.length_take_le' j owners
    unfold many; omega
   have hw:IntKind.wrap .i64 (many (owners.take j) a+1)=many (owners.take j) a+1:=G1 (by omega) (by omega)
   have hput : ∀ x,Option.getD (B3 (Hv m a (IntKind.wrap .i64 (Option.getD (B3 m a) 0+1))) x) 0=if inA x then many (owners.take (j+1)) x else 0:=fun x=>by
    rw [Ahw,hm,hw]
    by_cases hx:a=x
    ·subst hx; rw [if_pos rfl,if_pos ha,hcnt,if_pos rfl]; rfl
    ·rw [if_neg hx,h1 x]
     by_cases hi:inA x
     ·rw [if_pos hi,if_pos hi,hcnt,if_neg hx]; simp
     ·rw [if_neg hi,if_neg hi]
   have hmem:(many (owners.take j) a=0)↔a ∉ owners.take j:=by
    unfold many
    rw [show((owners.take j).count a:Int)=0↔(owners.take j).count a=0 by omega,List.count_eq_zero]
   refine Ak.ite (fun hz=>?_) (fun hz=>?_)
   ·rw [hm] at hz
    have hna:a ∉ owners.take j:=hmem.1 (by simpa using hz)
    refine Ak.pos ?_ (Ak.ok ⟨hput,?_,fun x=>?_,by simp only [List.length_append,List.length_singleton]; omega⟩)
    ·simp only [List.length_singleton,Bs]; omega
    ·rw [List.nodup_append]
     refine⟨h2,by simp,fun x hx y hy=>?_⟩
     obtain rfl:=List.mem_singleton.1 hy
     intro e; subst e
     exact hna ((h3 _).1 hx).2
    ·rw [List.mem_append,List.mem_singleton,h3 x,htk,List.mem_append,List.mem_singleton]
     constructor
     ·rintro(⟨q1,q2⟩ | rfl)
      ·exact⟨q1,.inl q2⟩
      ·exact⟨ha,.inr rfl⟩
     ·rintro⟨q1,q2 | rfl⟩
      ·exact .inl ⟨q1,q2⟩
      ·exact .inr rfl
   ·rw [hm] at hz
    have hya:a ∈ owners.take j:=by
     by_cases h:a ∈ owners.take j
     ·exact h
     ·exact absurd (hmem.2 h) (by simpa using hz)
    refine Ak.ok ⟨hput,h2,fun x=>?_,by simp only at h4 ⊢; omega⟩
    rw [h3 x,htk,List.mem_append,List.mem_singleton]
    constructor
    ·rintro⟨q1,q2⟩; exact⟨q1,.inl q2⟩
    ·rintro⟨q1,q2 | rfl⟩
     ·exact⟨q1,q2⟩
     ·exact⟨q1,hya⟩
 ·rintro⟨m,l⟩ ⟨h1,h2,h3,h4⟩
  show Ak ((Mg l).bind fun _=>R.ok ((K7 l),m)) _
  unfold Mg Th
  rw [if_pos (by simp only at h4; unfold Bs; omega)]
  refine Ak.ok ⟨?_,h1⟩
  have hperm:(K7 l).Perm l:=Te l
  have hnd:(K7 l).Nodup:=hperm.nodup_iff.2 h2
  have hlt:(K7 l).Pairwise (· < ·):=by
   have h1:=An4 l
   have h2:(K7 l).Pairwise (· ≠ ·):=hnd
   exact(h1.and h2).imp fun h=>by omega
  refine Amo hlt (Al6 owners) fun x=>?_
  rw [Anu,W3]
  exact h3 x
structure Formed (c:Clearing):Prop where
 no:1≤c.No∧c.No≤1048576
 slots:1≤c.Slots∧c.Slots≤8
 fl:1≤c.Flights.length∧(c.Flights.length:Int)≤c.Slots
 ow:c.Owners.length=c.Flights.length
 lt:c.Flights.Pairwise (· < ·)
 rng : ∀ f ∈ c.Flights,0≤f∧f≤4095
 own : ∀ a ∈ c.Owners,inA a
 com:c.Commitments.length=(Ex c.Owners).length
theorem Am1 (c:Clearing):Ak (Px c) fun r=>(r=true↔Formed c):=by
 unfold Px
 refine Ak.ite (fun h=>?_) (fun h=>?_)
 ·refine Ak.ok ⟨fun e=>by simp at e,fun hF=>?_⟩
  simp only [Bool.or_eq_true,decide_eq_true_eq,bne_iff_ne,ne_eq] at h
  have h1:=hF.no; have h2:=hF.slots; have h3:=hF.fl; have h4:=hF.ow
  omega
 ·simp only [Bool.or_eq_true,decide_eq_true_eq,bne_iff_ne,ne_eq,not_or,Decidable.not_not] at h
  obtain⟨⟨⟨⟨⟨⟨n1,n2⟩,n3⟩,n4⟩,n5⟩,n6⟩,n7⟩:=h
  have hE:=Ak.each (b:=fun j a=>fun last=>Ku c j a last) (I:=fun n last=>(c.Flights.take n).Pairwise (· < ·)∧(∀ f ∈ c.Flights.take n,0≤f∧f≤4095∧f≤last)∧(∀ a ∈ c.Owners.take n,inA a) ∧ -1≤last∧(last = -1 ∨ ∃ i,i<n∧c.Flights[i]? = some last))
   (E:=fun r:Bool=>r=false∧¬ Formed c) c.Flights 0 (-1) ⟨by simp,by simp,by simp,by omega,.inl rfl⟩ (fun j a last hj hI=>by
    simp only [Nat.zero_add] at hI ⊢
    obtain⟨p1,p2,p3,p4,p5⟩:=hI
    have hjl:j<c.Flights.length:=As hj
    obtain⟨w,hw⟩ : ∃ w,c.Owners[j]? = some w:=⟨_,List.getElem?_eq_getElem (by omega)⟩
    have ht1:c.Flights.take (j+1)=c.Flights.take j++[a]:=by rw [List.take_add_one,hj]; rfl
    have ht2:c.Owners.take (j+1)=c.Owners.take j++[w]:=by rw [List.take_add_one,hw]; rfl
    unfold Ku
    rw [H5 hw]
    by_cases q1:a≤last∨a > 4095
    ·rw [if_pos (by simpa using q1)]
     refine Ak.ok ⟨rfl,fun hF=>?_⟩
     have hr:=hF.rng a (List.mem_of_getElem? hj)
     rcases q1 with q1 | q1
     ·rcases p5 with p5 | ⟨i,hi,hl⟩
      ·omega
      ·have hil:i<c.Flights.length:=As hl
       have:=List.pairwise_iff_getElem.1 hF.lt i j hil hjl hi
       rw [List.getElem?_eq_getElem hil] at hl
       rw [List.getElem?_eq_getElem hjl] at hj
       simp only [Option.some.injEq] at hl hj
       omega
     ·omega
    ·rw [if_neg (by simpa using q1)]
     simp only [R.bind]
     by_cases q2:w<0
     ·simp only [q2,decide_true,if_true]
      exact Ak.ok ⟨rfl,fun hF=>by have:=hF.own w (List.mem_of_getElem? hw); unfold inA at this; omega⟩
     ·simp only [q2,decide_false,if_false,Bool.false_eq_true]
      by_cases q3:w≥8
      ·simp only [q3,decide_true,if_true]
       exact Ak.ok ⟨rfl,fun hF=>by have:=hF.own w (List.mem_of_getElem? hw); unfold inA at this; omega⟩
      ·simp only [q3,decide_false,if_false,Bool.false_eq_true]
       refine Ak.ok ⟨?_,?_,?_,by omega,.inr ⟨j,by omega,hj⟩⟩
       ·rw [ht1,List.pairwise_append]
        refine⟨p1,by simp,fun x hx y hy=>?_⟩
        obtain rfl:=List.mem_singleton.1 hy
        have:=(p2 x hx).2.2; omega
       ·intro f hf
        rw [ht1,List.mem_append,List.mem_singleton] at hf
        rcases hf with hf | rfl
        ·have:=p2 f hf; omega
        ·omega
       ·intro x hx
        rw [ht2,List.mem_append,List.mem_singleton] at hx
        rcases hx with hx | rfl
        ·exact p3 x hx
        ·unfold inA; omega)
  refine hE.bind fun x hx=>Ak.alt hx (fun last hl=>?_) (fun r hr=>?_)
  ·simp only [Ur,Nat.zero_add,List.take_length] at hl
   obtain⟨p1,p2,p3,_⟩:=hl
   have hol:c.Owners.length=c.Flights.length:=by omega
   rw [← hol,List.take_length] at p3
   refine(V2 c.Owners (by omega)).bind fun r hr=>Ak.ok ?_
   rw [hr.1]
   constructor
   ·intro e
    have e':c.Commitments.length=(Ex c.Owners).length:=by have:=of_decide_eq_true e; omega
    exact⟨by omega,by omega,by omega,hol,p1,fun f hf=>⟨(p2 f hf).1,(p2 f hf).2.1⟩,p3,e'⟩
   ·intro hF
    rw [hF.com]; simp
  ·obtain⟨rfl,hn⟩:=hr
   exact Ak.ok ⟨fun e=>by simp at e,fun hF=>absurd hF hn⟩
end Go.Am
namespace Go.Am
open Go
set_option linter.unusedVariables false
set_option linter.unusedSimpArgs false
abbrev B9 {α:Type}(m:R α):Prop:=Ak m fun _=>True
theorem B9.ok {α:Type}(a:α):B9 (.ok a):=⟨a,rfl,trivial⟩
theorem B9.bind {α β:Type}{m:R α}{f:α→R β}{Q:β→Prop}(h:B9 m)(k : ∀ a,Ak (f a) Q):Ak (m.bind f) Q:=Ak.bind h fun a _=>k a
theorem Ak.tot {α:Type}{m:R α}{P:α→Prop}(h:Ak m P):B9 m:=h.mono fun _ _=>trivial
theorem B9.eachS {α σ:Type}{b:Nat→α→σ→R σ}(l:List α)(k:Nat)(s:σ)(hb : ∀ (j:Nat) a s,l[j]? = some a→B9 (b (k+j) a s)):B9 (eachS b k l s):=
 Ak.eachS (I:=fun _ _=>True) l k s trivial fun j a s hj _=>hb j a s hj
noncomputable def R.val {α:Type}[Inhabited α]:R α→α
 | .ok a=>a
 | _=>default
theorem B9.eq {α:Type}[Inhabited α]{m:R α}(h:B9 m):m=.ok m.val:=by
 obtain⟨a,rfl,_⟩:=h
 rfl
instance:Inhabited (Vector Int 32):=⟨B0 32 0⟩
theorem Acx (n:Int):0≤IntKind.wrap .u64 n:=by simp [IntKind.wrap,IntKind.bits,IntKind.signed]; omega
theorem Alc (a b:Int):0≤Ef .u64 a b:=Acx _
theorem Ud (a k:Int):B9 (C0 a k):=by
 unfold C0
 rw [if_pos (Alc _ _),if_pos (Acx _)]
 exact B9.ok _
theorem Ac8 (v a b c:Int):B9 (Mk v a b c):=by
 unfold Mk
 exact(Ud _ _).bind fun _=>(Ud _ _).bind fun _=>(Ud _ _).bind fun _=>B9.ok _
theorem Ar4 (b:List Int)(h:4≤b.length):B9 (Ry b):=by
 unfold Ry
 rw [if_pos ⟨by decide,by omega⟩]
 exact(B9.eachS _ _ _ fun j a s _=>B9.ok _).bind fun _=>B9.ok _
theorem Ae7 (b:List Int)(s:Vector Int 8)(h:b.length=64):B9 (Fl b s):=by
 unfold Fl
 refine B9.bind (B9.eachS _ _ _ fun j a o hj=>?_) fun o=>?_
 ·have hj':j<16:=by have:=As hj; simpa using this
  unfold Ia
  simp only [Nat.zero_add]
  rw [G1 (by omega) (by omega),if_pos ⟨by omega,by omega⟩]
  refine B9.bind (Ar4 _ (by rw [List.length_drop]; omega)) fun _=>B9.ok _
 ·refine B9.bind (Ak.loop (I:=fun s:Int×Vector Int 64=>16≤s.1∧s.1≤64) (E:=fun _=>True) (fun s=>(64 - s.1).toNat) ?_ 64 (16,o) (by simp) ⟨Int.le_refl _,by show(16:Int)≤64; decide⟩) fun o2=>?_
  ·rintro⟨x,o1⟩ ⟨h1,h2⟩
   show Ak (Fg x o1) _
   simp only at h1 h2
   unfold Fg
   by_cases hx:x<64
   ·rw [if_pos hx,G1 (n:=x - 15) (by omega) (by omega),G1 (n:=x - 2) (by omega) (by omega),G1 (n:=x - 16) (by omega) (by omega),G1 (n:=x - 7) (by omega) (by omega),
     if_pos ⟨by omega,by omega⟩,if_pos ⟨by omega,by omega⟩,if_pos ⟨by omega,by omega⟩,if_pos ⟨by omega,by omega⟩]
    refine(Ud _ _).bind fun _=>(Ud _ _).bind fun _=>(Ud _ _).bind fun _=>(Ud _ _).bind fun _=>?_
    rw [if_pos ⟨by omega,hx⟩,G1 (n:=x+1) (by omega) (by omega)]
    exact Ak.ok ⟨⟨by simp only; omega,by simp only; omega⟩,by simp only; omega⟩
   ·rw [if_neg hx]; exact Ak.ok trivial
  ·unfold Gn
   refine B9.bind (B9.eachS _ _ _ fun j a o _=>?_) fun o3=>B9.bind (B9.eachS _ _ _ fun j a o _=>B9.ok _) fun _=>B9.ok _
   unfold H9
   refine(Ac8 _ _ _ _).bind fun _=>(Ac8 _ _ _ _).bind fun _=>?_
   rw [if_pos (List.length_take_le _ _)]
   exact B9.ok _
theorem Alq (c cp:Nat)(n:Int)(s:Vector Int 128):B9 (Pq c cp n s):=by
 unfold Pq
 refine B9.bind (B9.eachS _ _ _ fun j a o hj=>?_) fun _=>B9.ok _
 have hj':j<8:=by have:=As hj; simpa using this
 unfold Py
 simp only [Nat.zero_add]
 rw [G1 (n:=8 * (j:Int)) (by omega) (by omega),G1 (n:=7 - (j:Int)) (by omega) (by omega),if_pos (by omega),if_pos ⟨by omega,by omega⟩]
 exact B9.ok _
theorem Aqt (c cp:Nat)(n:Int)(s:Vector Int 32):B9 (M4 c cp n s):=by
 unfold M4
 refine B9.bind (B9.eachS _ _ _ fun j a o hj=>?_) fun _=>B9.ok _
 have hj':j<4:=by have:=As hj; simpa using this
 unfold N4
 simp only [Nat.zero_add]
 rw [G1 (n:=8 * (j:Int)) (by omega) (by omega),G1 (n:=3 - (j:Int)) (by omega) (by omega),if_pos (by omega),if_pos ⟨by omega,by omega⟩]
 exact B9.ok _
theorem Aex (r:List Int)(o:Vector Int 8)(k:Nat)(h:r.length=64 * k):B9 (loop (C8 fun vend o2=>J8 vend o2) (r,o)):=by
 refine Ak.loop (I:=fun s:List Int×Vector Int 8 => ∃ k,s.1.length=64 * k) (E:=fun _=>True) (fun s=>s.1.length) ?_ r.length (r,o) (Nat.le_refl _) ⟨k,h⟩
 rintro⟨v,o⟩ ⟨k,hk⟩
 show Ak (J8 v o) _
 simp only at hk
 unfold J8
 by_cases hv:(v.length:Int) > 0
 ·rw [if_pos hv,if_pos ⟨by decide,by omega⟩]
  refine B9.bind (Ae7 _ _ (by rw [List.length_take,show Int.toNat 64=64 from rfl]; omega)) fun _=>?_
  rw [if_pos ⟨by decide,by omega⟩]
  refine Ak.ok ⟨⟨k - 1,?_⟩,?_⟩
  ·simp only [List.length_drop,show Int.toNat 64=64 from rfl]; omega
  ·simp only [List.length_drop,show Int.toNat 64=64 from rfl]; omega
 ·rw [if_neg hv]; exact Ak.ok trivial
theorem Aoz:Pu=J8:=rfl
theorem Ae2 (o:Vector Int 8):B9 (Lw o):=by
 unfold Lw
 refine B9.bind (B9.eachS _ _ _ fun j a o4 hj=>?_) fun _=>B9.ok _
 have hj':j<8:=by have:=As hj; simpa using this
 unfold P0
 simp only [Nat.zero_add]
 rw [G1 (n:=4 * (j:Int)) (by omega) (by omega),G1 (n:=4 * (j:Int)+4) (by omega) (by omega),if_pos ⟨rfl,by omega,by omega⟩]
 exact(Aqt _ _ _ _).bind fun _=>B9.ok _
theorem Ap2:Pz=Lw:=rfl
theorem Alw (b:List Int):B9 (Dc b):=by
 unfold Dc
 refine Ak.bind (P:=fun s:List Int×Vector Int 8=>s.1.length<64) (Ak.loop (I:=fun s:List Int×Vector Int 8=>True) (fun s=>s.1.length) ?_ b.length (b,Acs) (Nat.le_refl _) trivial) ?_
 ·rintro⟨r,o⟩ _
  show Ak (Nn r o) _
  unfold Nn
  by_cases hr:(r.length:Int)≥64
  ·rw [if_pos hr,if_pos ⟨by decide,by omega⟩]
   refine B9.bind (Ae7 _ _ (by rw [List.length_take,show Int.toNat 64=64 from rfl]; omega)) fun _=>?_
   rw [if_pos ⟨by decide,by omega⟩]
   refine Ak.ok ⟨trivial,?_⟩
   simp only [List.length_drop,show Int.toNat 64=64 from rfl]; omega
  ·rw [if_neg hr]; exact Ak.ok (by simp only; omega)
 ·rintro⟨r,o⟩ hr
  show Ak (Nm b r o) _
  simp only at hr
  unfold Nm
  rw [if_pos (by omega),if_pos ⟨by omega,by omega⟩]
  refine Ak.ite (fun h=>?_) (fun h=>?_)
  ·exact(Alq _ _ _ _).bind fun r1=>(Aex _ _ 2 (by simp)).bind fun _=>Ae2 _
  ·rw [Aoz,Ap2]
   exact(Alq _ _ _ _).bind fun r1=>(Aex _ _ 1 (by simp)).bind fun _=>Ae2 _
theorem Abd (a b:List Int)(h:a.length+b.length≤1048576):F3 [a,b]=.ok (a++b):=by
 unfold F3
 have e1:eachS (fun _ a=>fun size=>Gz a size) 0 [a,b] 0=.ok ((a.length:Int)+(b.length:Int)):=by
  simp only [K8,N2,Gz]
  rw [G1 (n:=0+(a.length:Int)) (by omega) (by omega),if_neg (by omega)]
  simp only [R.bind]
  rw [G1 (by omega) (by omega),if_neg (by omega)]
  simp
 rw [e1]
 simp only [R.bind]
 have e2:G7 ((a.length:Int)+(b.length:Int))=.ok []:=by
  unfold G7
  rw [if_neg (by omega),G1 (by omega) (by omega)]
  by_cases h0:(a.length:Int)+(b.length:Int) - 0 > 0
  ·rw [if_pos h0,if_pos ⟨by omega,by unfold Bs; omega⟩,if_pos ⟨by decide,by omega⟩]; rfl
  ·rw [if_neg h0]
 rw [e2]
 simp only [R.bind,K8,N2,Gy]
 rw [if_pos (by simp only [List.length_nil,Bs]; omega)]
 simp only [R.bind,List.nil_append]
 rw [if_pos (by unfold Bs; omega)]
theorem Zt (tag:Sg)(b:List Int)(ht:tag.length≤16)(hb:b.length≤1048000):B9 (In tag b):=by
 rw [Wv]
 rw [if_pos (by unfold Bs; omega)]
 refine(Alw _).bind fun r=>?_
 rw [Abd _ _ (by rw [Vector.length_toList]; omega)]
 exact(Alw _).bind fun _=>B9.ok _
noncomputable def Zu (d:Vector Int 32):Vector Int 32:=(Oj d).val
noncomputable def Af0 (a b:Vector Int 32):Vector Int 32:=(Mb a b).val
theorem Amk (d:Vector Int 32):Oj d=.ok (Zu d):=by
 refine B9.eq ?_
 unfold Oj
 exact(Zt _ _ (by decide) (by rw [Vector.length_toList]; decide)).bind fun _=>B9.ok _
theorem Al0 (a b:Vector Int 32):Mb a b=.ok (Af0 a b):=by
 refine B9.eq ?_
 unfold Mb
 rw [Abd _ _ (by rw [Vector.length_toList,Vector.length_toList]; decide)]
 exact(Zt _ _ (by decide) (by simp)).bind fun _=>B9.ok _
theorem Adf (u:Int)(l:List Int)(hu:0≤u∧u<18446744073709551616)(hl:l.length≤1000):Ak (Gu u l) fun r=>l.length<r.length∧r.length≤l.length+11:=by
 unfold Gu
 refine Ak.bind (P:=fun s:Int×List Int=>l.length≤s.2.length∧s.2.length≤l.length+10) (Ak.loop (I:=fun s:Int×List Int => ∃ k:Nat,k≤10∧s.2.length=l.length+k∧0≤s.1∧s.1 * 128 ^ k<1180591620717411303424) (fun s=>s.1.toNat) ?_ u.toNat (u,l) (Nat.le_refl _) ⟨0,by omega,rfl,hu.1,by simp only [Int.pow_zero]; omega⟩) ?_
 ·rintro⟨u1,b⟩ ⟨k,h1,h2,h3,h4⟩
  show Ak (Jf u1 b) _
  simp only at h2 h3 h4
  unfold Jf
  by_cases hu1:u1≥128
  ·have hk:k<10:=by
    rcases Nat.lt_or_ge k 10 with h | h
    ·exact h
    ·obtain rfl:k=10:=by omega
     rw [show(128:Int) ^ 10=1180591620717411303424 from rfl] at h4
     omega
   rw [if_pos hu1,if_pos (by simp only [List.length_singleton,Bs]; omega)]
   refine Ak.ok ⟨⟨k+1,by omega,by simp only [List.length_append,List.length_singleton]; omega,by simp only; exact Int.fdiv_nonneg h3 (by decide),?_⟩,?_⟩
   ·simp only
    rw [Int.fdiv_eq_ediv_of_nonneg _ (by decide),Int.pow_succ]
    have h5:u1 / 128 * 128≤u1:=Int.ediv_mul_le _ (by decide)
    have h6:(0:Int)≤128 ^ k:=Int.pow_nonneg (by decide)
    calc u1 / 128 * (128 ^ k * 128)=(u1 / 128 * 128) * 128 ^ k:=by rw [Int.mul_comm (128 ^ k) 128,← Int.mul_assoc]
     _≤u1 * 128 ^ k:=Int.mul_le_mul_of_nonneg_right h5 h6
     _<_:=h4
   ·simp only
    rw [Int.fdiv_eq_ediv_of_nonneg _ (by decide)]
    omega
  ·rw [if_neg hu1]; exact Ak.ok ⟨by simp only; omega,by simp only; omega⟩
 ·rintro⟨u2,b⟩ ⟨h1,h2⟩
  show Ak (I6 u2 b) _
  simp only at h1 h2
  unfold I6
  rw [if_pos (by simp only [List.length_singleton,Bs]; omega)]
  exact Ak.ok ⟨by simp only [List.length_append,List.length_singleton]; omega,by simp only [List.length_append,List.length_singleton]; omega⟩
theorem Al3 (n:Int):IntKind.wrap .u64 n<18446744073709551616:=by simp [IntKind.wrap,IntKind.bits,IntKind.signed]; omega
theorem Auh (v:Value)(l:List Int)(hl:l.length≤900):Ak (Fa v l) fun r=>l.length<r.length∧r.length≤l.length+12:=by
 unfold Fa
 rw [if_pos (by simp only [List.length_singleton,Bs]; omega)]
 unfold Rg
 simp only [R.bind]
 refine(Adf _ _ ⟨Acx _,Al3 _⟩ (by simp only [List.length_append,List.length_singleton]; omega)).bind fun r hr=>Ak.ok ?_
 simp only [List.length_append,List.length_singleton] at hr
 omega
abbrev Aaf (n:Int):Value:={ Kind:=1,N:=n,S:=[],L:=[] }
theorem Amq (n:Nat)(a:Int):Hj (n+1) (Aaf a)=.ok (0,true):=by
 rw [Hj]
 rfl
theorem Alb (l:List Int)(hl:l.length≤8) : ∃ b,(b≤1)∧Ts ({ Kind:=3,N:=0,S:=[],L:=l.map Aaf }:Value)=.ok (b,true):=by
 unfold Ts
 rw [Acv,show(4000000:Nat)=3999998+1+1 from rfl,Hj]
 unfold Ra
 have e : ∀ (l:List Int) (k:Nat),each (fun _ a=>fun depth=>Jy (Hj (3999998+1)) a depth) k (l.map Aaf) 0=.ok (.inl 0):=by
  intro l
  induction l with
  | nil=>intro k; rfl
  | cons a l ih=>
   intro k
   rw [List.map_cons,Qt]
   have:Jy (Hj (3999998+1)) (Aaf a) 0=.ok (.inl 0):=by
    unfold Jy
    rw [Amq]
    rfl
   rw [this]
   exact ih (k+1)
 refine⟨1,by decide,?_⟩
 have h1:((decide ((3:Int)<1))||(decide ((3:Int) > 3)))=false:=by decide
 simp only [h1,Bool.false_eq_true,if_false]
 rw [if_pos (by decide)]
 simp only [R.bind,e]
 rfl
theorem Anz (l:List Int)(hl:l.length≤8):Ak (Oy ({ Kind:=3,N:=0,S:=[],L:=l.map Aaf }:Value)) fun r=>r.2=0∧r.1.length≠0∧r.1.length≤200:=by
 obtain⟨b,hb,e⟩:=Alb l hl
 have e1:Ru ({ Kind:=3,N:=0,S:=[],L:=l.map Aaf }:Value)=.ok 0:=by
  unfold Ru
  rw [e]
  simp only [R.bind]
  rw [if_pos trivial,if_neg (by omega)]
 unfold Oy
 rw [e1]
 simp only [R.bind]
 rw [if_neg (by decide)]
 unfold Ly
 simp only [R.bind]
 rw [if_neg (by decide),if_neg (by decide),if_neg (by decide),if_pos trivial]
 refine Ak.bind (P:=fun r:List Int=>r.length≠0∧r.length≤200) ?_ fun r hr=>Ak.ok ⟨rfl,hr⟩
 unfold Lh
 rw [if_pos (by decide)]
 refine(Adf _ _ ⟨Acx _,Al3 _⟩ (by decide)).bind fun r hr=>?_
 refine Ak.bind (P:=fun r:List Int=>r.length≠0∧r.length≤200) ?_ fun r hr=>Ak.ok hr
 have:=Ak.eachS (b:=fun _ a=>fun b1=>G0 a b1) (I:=fun n (r:List Int)=>r.length≠0∧r.length≤12+12 * n) (l.map Aaf) 0 r ⟨by have:=hr.1; omega,by have:=hr.2; simp only [List.length_singleton] at this; omega⟩ (fun j a s hj hI=>by
  rw [List.getElem?_map] at hj
  obtain⟨x,hx,rfl⟩:=Option.map_eq_some_iff.1 hj
  have hjl:j<l.length:=As hx
  unfold G0
  rw [if_neg (by show ¬ (1:Int)=0; decide),if_pos rfl]
  refine(Auh _ _ (by omega)).bind fun r hr=>Ak.ok ⟨by omega,by omega⟩)
 refine this.mono fun s hs=>⟨hs.1,?_⟩
 have:=hs.2
 rw [List.length_map] at this
 omega
theorem Apk (salt:Vector Int 32)(l:List Int)(hl:l.length≤8):B9 (H0 salt l):=by
 unfold H0
 have e:eachS (fun _ a=>fun l1=>Hd a l1) 0 l []=.ok (l.map Aaf):=by
  have:=Ak.eachS (b:=fun _ a=>fun l1=>Hd a l1) (I:=fun n (r:List Value)=>r=(l.take n).map Aaf) l 0 [] rfl (fun j a s hj hI=>by
   simp only [Nat.zero_add] at hI ⊢
   subst hI
   have hjl:j<l.length:=As hj
   unfold Hd
   rw [if_pos (by simp only [List.length_singleton,List.length_map,List.length_take,Bs]; omega)]
   refine Ak.ok ?_
   rw [List.take_add_one,hj]
   simp)
  refine Ak.eq (this.mono fun s hs=>?_)
  rw [hs,Nat.zero_add,List.take_length]
 rw [e]
 simp only [R.bind]
 refine(Anz l hl).bind fun r hr=>?_
 rw [if_pos ⟨hr.2.1,by unfold Bs; omega⟩]
 exact(Zt _ _ (by decide) (by rw [List.length_append,Vector.length_toList]; omega)).bind fun _=>B9.ok _
noncomputable def R0 (salt:Vector Int 32)(l:List Int):Vector Int 32:=(H0 salt l).val
theorem Aji (salt:Vector Int 32)(l:List Int)(hl:l.length≤8):H0 salt l=.ok (R0 salt l):=(Apk salt l hl).eq
end Go.Am
namespace Go.Am
open Go
set_option linter.unusedVariables false
set_option linter.unusedSimpArgs false
def Dt (n:Int):Int:=if n≤2 then 1 else if n≤4 then 2 else 4
theorem Av7:Gp 2=.ok 1:=by kernel_rfl
theorem Av9:Gp 3=.ok 2:=by kernel_rfl
theorem Avy:Gp 4=.ok 2:=by kernel_rfl
theorem Awl:Gp 5=.ok 4:=by kernel_rfl
theorem Avz:Gp 6=.ok 4:=by kernel_rfl
theorem Awd:Gp 7=.ok 4:=by kernel_rfl
theorem Avu:Gp 8=.ok 4:=by kernel_rfl
theorem Agb (n:Int)(h1:2≤n)(h2:n≤8):Gp n=.ok (Dt n):=by
 have:n=2∨n=3∨n=4∨n=5∨n=6∨n=7∨n=8:=by omega
 rcases this with rfl | rfl | rfl | rfl | rfl | rfl | rfl
 ·exact Av7
 ·exact Av9
 ·exact Avy
 ·exact Awl
 ·exact Avz
 ·exact Awd
 ·exact Avu
theorem Abe (n:Int)(h1:2≤n)(h2:n≤8):1≤Dt n∧Dt n<n:=by
 unfold Dt
 split
 ·omega
 ·split <;> omega
def Co:Nat→Int→Int→List Bool
 | 0,_,_=>[]
 | f+1,a,n=>if n > 1 then decide (a<Dt n)::(if a<Dt n then Co f a (Dt n) else Co f (a - Dt n) (n - Dt n)) else []
theorem Ab0 : ∀ (f:Nat) (a n:Int),(Co f a n).length≤f
 | 0,_,_=>Nat.le_refl _
 | f+1,a,n=>by
  unfold Co
  split
  ·simp only [List.length_cons]
   split
   ·have:=Ab0 f a (Dt n); omega
   ·have:=Ab0 f (a - Dt n) (n - Dt n); omega
  ·simp
theorem Aje (a n:Int)(l:List Bool)(h:¬ n > 1):F1 a n l=.ok (.inr l):=by unfold F1; rw [if_neg h]
theorem Akx (a n:Int)(l:List Bool)(h0:0≤a)(ha:a<n)(h:n > 1)(h3:n≤8)(hl:l.length≤100):F1 a n l=.ok (.inl (if a<Dt n then(a,Dt n,l++[decide (a<Dt n)]) else(a - Dt n,n - Dt n,l++[decide (a<Dt n)]))):=by
 have hr:=Abe n (by omega) h3
 unfold F1
 rw [if_pos h,Agb n (by omega) h3]
 simp only [R.bind]
 rw [if_pos (by simp only [List.length_singleton,Bs]; omega)]
 by_cases q:a<Dt n
 ·rw [if_pos q,if_pos q]
 ·rw [if_neg q,if_neg q,G1 (by omega) (by omega),G1 (by omega) (by omega)]
theorem Zw : ∀ (f:Nat) (a n:Int) (l:List Bool),0≤a→a<n→n≤8→n≤(f:Int)+1→l.length+f≤100 →
  loop (Nf fun vat1 n1 first=>F1 vat1 n1 first) (a,n,l)=.ok (l++Co f a n)
 | f,a,n,l,h1,h2,h3,h4,h5=>by
  rw [Agc]
  show((F1 a n l).bind _)=_
  by_cases hn:n > 1
  case neg=>
   rw [Aje a n l hn]
   cases f with
   | zero=>simp [R.bind,Co]
   | succ f=>unfold Co; rw [if_neg hn]; simp [R.bind]
  cases f with
  | zero=>omega
  | succ f=>
   have hr:=Abe n (by omega) h3
   rw [Akx a n l h1 h2 hn h3 (by omega)]
   simp only [R.bind]
   by_cases ha:a<Dt n
   ·rw [if_pos ha]
    rw [Zw f a (Dt n) _ h1 ha (by omega) (by omega) (by simp only [List.length_append,List.length_singleton]; omega)]
    rw [show Co (f+1) a n=decide (a<Dt n)::Co f a (Dt n) by rw [Co,if_pos hn,if_pos ha]]
    simp
   ·rw [if_neg ha]
    rw [Zw f (a - Dt n) (n - Dt n) _ (by omega) (by omega) (by omega) (by omega) (by simp only [List.length_append,List.length_singleton]; omega)]
    rw [show Co (f+1) a n=decide (a<Dt n)::Co f (a - Dt n) (n - Dt n) by rw [Co,if_pos hn,if_neg ha]]
    simp
noncomputable def up1 (x:Vector Int 32)(q:Vector Int 32×Bool):Vector Int 32:=if q.2 then Af0 x q.1 else Af0 q.1 x
noncomputable def Li (d:Vector Int 32)(ts:List Bool)(p:List (Vector Int 32)):Vector Int 32:=(p.zip ts.reverse).foldl up1 (Zu d)
theorem Ald (j:Nat)(a x:Vector Int 32)(ts:List Bool)(ht:ts.length≤100)(hj:j<ts.length):H1 j a x ts=.ok (up1 x (a,ts[ts.length - 1 - j]'(by omega)),ts):=by
 unfold H1
 rw [G1 (n:=(ts.length:Int) - 1) (by omega) (by omega),G1 (by omega) (by omega),show(ts.length:Int) - 1 - (j:Int)=((ts.length - 1 - j:Nat):Int) by omega,H5 (List.getElem?_eq_getElem (show ts.length - 1 - j<ts.length by omega))]
 simp only [R.bind,up1,Al0]
 split <;> rfl
theorem Aj5 (ts:List Bool)(ht:ts.length≤100) : ∀ (p:List (Vector Int 32)) (k:Nat) (x:Vector Int 32),k+p.length=ts.length →
  eachS (fun j a=>C8 fun o first2=>H1 j a o first2) k p (x,ts)=.ok ((p.zip (ts.reverse.drop k)).foldl up1 x,ts)
 | [],k,x,h=>by simp [N2]
 | a::p,k,x,h=>by
  have hk:k<ts.length:=by simp only [List.length_cons] at h; omega
  rw [K8]
  show((H1 k a x ts).bind _)=_
  have hd:ts.reverse.drop k=(ts[ts.length - 1 - k]'(by omega))::ts.reverse.drop (k+1):=by
   rw [List.drop_eq_getElem_cons (by rw [List.length_reverse]; exact hk)]
   congr 1
   rw [List.getElem_reverse]
  rw [hd,List.zip_cons_cons,List.foldl_cons,Ald k a x ts ht hk]
  exact Aj5 ts ht p (k+1) _ (by simp only [List.length_cons] at h; omega)
theorem Akc (d:Vector Int 32)(a n:Int)(p:List (Vector Int 32))(h1:1≤n)(h2:n≤8) :
  O2 d a n p=.ok (if 0≤a∧a<n∧p.length=(Co 8 a n).length then(Li d (Co 8 a n) p,0) else(zD,1)):=by
 unfold O2
 by_cases ha:0≤a∧a<n
 case neg=>
  rw [if_pos (by simp only [Bool.or_eq_true,decide_eq_true_eq]; omega),if_neg (by omega)]
  rfl
 rw [if_neg (by simp only [Bool.or_eq_true,decide_eq_true_eq]; omega)]
 rw [Zw 8 a n [] ha.1 ha.2 h2 (by omega) (by decide),List.nil_append]
 simp only [R.bind]
 unfold Nx
 have hl:=Ab0 8 a n
 by_cases hp:p.length=(Co 8 a n).length
 ·rw [if_neg (by simp [hp]),if_pos ⟨ha.1,ha.2,hp⟩,Amk]
  simp only [R.bind]
  rw [Aj5 _ (by omega) p 0 _ (by omega)]
  simp only [R.bind,C8,List.drop_zero]
  rfl
 ·rw [if_pos (by simp; omega),if_neg (fun h=>hp h.2.2)]
  rfl
def Ae5 (a f:Int):Prop:=0≤a∧a<8∧0≤f∧f≤4095
def V5 (d:Vector Int 32)(airline tables slots:Int)(o:Opening):Prop:=
 1≤tables∧tables≤8∧1≤slots∧slots≤8∧o.Airline=airline∧Ae5 o.Airline o.Flight∧0≤o.Slot∧o.Slot<slots∧(-1≤o.Cost∧o.Cost≤1048576) ∧
 ∃ n:Nat,n≤o.Path.length∧(o.Path.take n).length=(Co 8 o.Slot slots).length ∧ ∃ at_:Int,0≤at_∧at_<tables∧(o.Path.drop n).length=(Co 8 at_ tables).length ∧
  Li (Li (R0 o.Salt [o.Airline,o.Flight,o.Slot,o.Cost]) (Co 8 o.Slot slots) (o.Path.take n)) (Co 8 at_ tables) (o.Path.drop n)=d
theorem An7 (d:Vector Int 32)(airline tables slots:Int)(o:Opening)(hp:o.Path.length≤1000) :
  Ak (L0 d airline tables slots o) fun e=>(e=0∧V5 d airline tables slots o)∨(e=360∧¬ V5 d airline tables slots o):=by
 unfold L0
 rw [T2,U1]
 by_cases q1:tables<1∨tables > 8∨slots<1∨slots > 8∨o.Airline≠airline
 ·rw [if_pos (by simp only [Bool.or_eq_true,decide_eq_true_eq,bne_iff_ne]; omega)]
  simp only [R.bind,Bool.true_or,if_true]
  refine Ak.ok (.inr ⟨rfl,fun h=>?_⟩)
  obtain⟨h1,h2,h3,h4,h5,_⟩:=h
  omega
 rw [if_neg (by simp only [Bool.or_eq_true,decide_eq_true_eq,bne_iff_ne]; omega)]
 simp only [R.bind]
 by_cases q2:Ae5 o.Airline o.Flight∧0≤o.Slot∧o.Slot<slots
 case neg=>
  rw [if_pos (by
   simp only [Bool.or_eq_true,Bool.not_eq_true',decide_eq_true_eq,decide_eq_false_iff_not]
   unfold Ae5 at q2
   omega)]
  simp only [if_true]
  refine Ak.ok (.inr ⟨rfl,fun h=>q2 ?_⟩)
  obtain⟨h1,h2,h3,h4,h5,h6,h7,h8,_⟩:=h
  exact⟨h6,h7,h8⟩
 obtain⟨q2,q3,q4⟩:=q2
 rw [if_neg (by
  simp only [Bool.or_eq_true,Bool.not_eq_true',decide_eq_true_eq,decide_eq_false_iff_not]
  have:=q2
  unfold Ae5 at this
  omega)]
 simp only [R.bind]
 by_cases q5 : -1≤o.Cost∧o.Cost≤1048576
 case neg=>
  rw [if_pos (by simp only [Bool.not_eq_true',decide_eq_false_iff_not]; exact q5)]
  refine Ak.ok (.inr ⟨rfl,fun h=>q5 ?_⟩)
  obtain⟨h1,h2,h3,h4,h5,h6,h7,h8,h9,_⟩:=h
  exact h9
 rw [if_neg (by simp only [Bool.not_eq_true',decide_eq_false_iff_not,Decidable.not_not]; exact q5),Aji _ _ (by simp)]
 simp only [R.bind]
 have hV : ∀ n:Nat,n≤o.Path.length→(o.Path.take n).length=(Co 8 o.Slot slots).length → ∀ at_:Int,0≤at_→at_<tables→(o.Path.drop n).length=(Co 8 at_ tables).length →
   Li (Li (R0 o.Salt [o.Airline,o.Flight,o.Slot,o.Cost]) (Co 8 o.Slot slots) (o.Path.take n)) (Co 8 at_ tables) (o.Path.drop n)=d→V5 d airline tables slots o:=by
  intro n h1 h2 at_ h3 h4 h5 h6
  exact⟨by omega,by omega,by omega,by omega,by omega,q2,q3,q4,q5,n,h1,h2,at_,h3,h4,h5,h6⟩
 refine Ak.bind (P:=fun x:Unit ⊕ Int=>(x=.inl ()∧¬ V5 d airline tables slots o)∨(x=.inr 0∧V5 d airline tables slots o))
  (Ak.loop (I:=fun x:Int=>0≤x∧x≤(o.Path.length:Int)+1 ∧ ∀ n:Nat,(n:Int)<x→(o.Path.take n).length=(Co 8 o.Slot slots).length → ∀ at_:Int,0≤at_→at_<tables→(o.Path.drop n).length=(Co 8 at_ tables).length →
   Li (Li (R0 o.Salt [o.Airline,o.Flight,o.Slot,o.Cost]) (Co 8 o.Slot slots) (o.Path.take n)) (Co 8 at_ tables) (o.Path.drop n)≠d) (fun x=>((o.Path.length:Int)+1 - x).toNat) ?_ (o.Path.length+1) 0 (by omega) ⟨by omega,by omega,fun n h=>absurd h (by omega)⟩) ?_
 ·intro x ⟨x1,x2,x3⟩
  unfold Jl
  rw [G1 (n:=(o.Path.length:Int)+1) (by omega) (by omega)]
  by_cases hx:x<(o.Path.length:Int)+1
  case neg=>
   rw [if_neg hx]
   refine Ak.ok (.inl ⟨rfl,fun h=>?_⟩)
   obtain⟨h1,h2,h3,h4,h5,h6,h7,h8,h9,n,k1,k2,at_,k3,k4,k5,k6⟩:=h
   exact x3 n (by omega) k2 at_ k3 k4 k5 k6
  rw [if_pos hx,if_pos ⟨x1,by omega⟩,if_pos ⟨x1,by omega⟩,Akc _ _ _ _ (by omega) (by omega)]
  simp only [R.bind]
  have hnext : ∀ y:Int,y=x+1→(∀ at_:Int,0≤at_→at_<tables→(o.Path.take x.toNat).length=(Co 8 o.Slot slots).length→(o.Path.drop x.toNat).length=(Co 8 at_ tables).length →
    Li (Li (R0 o.Salt [o.Airline,o.Flight,o.Slot,o.Cost]) (Co 8 o.Slot slots) (o.Path.take x.toNat)) (Co 8 at_ tables) (o.Path.drop x.toNat)≠d) →
    (0≤y∧y≤(o.Path.length:Int)+1 ∧ ∀ n:Nat,(n:Int)<y→(o.Path.take n).length=(Co 8 o.Slot slots).length → ∀ at_:Int,0≤at_→at_<tables→(o.Path.drop n).length=(Co 8 at_ tables).length →
     Li (Li (R0 o.Salt [o.Airline,o.Flight,o.Slot,o.Cost]) (Co 8 o.Slot slots) (o.Path.take n)) (Co 8 at_ tables) (o.Path.drop n)≠d)∧((o.Path.length:Int)+1 - y).toNat<((o.Path.length:Int)+1 - x).toNat:=by
   rintro y rfl h
   refine⟨⟨by omega,by omega,fun n hn k2 at_ k3 k4 k5=>?_⟩,by omega⟩
   rcases Int.lt_or_le (n:Int) x with hlt | hge
   ·exact x3 n hlt k2 at_ k3 k4 k5
   ·obtain rfl:n=x.toNat:=by omega
    exact h at_ k3 k4 k2 k5
  by_cases hf:(o.Path.take x.toNat).length=(Co 8 o.Slot slots).length
  case neg=>
   rw [if_neg (show ¬ (0≤o.Slot∧o.Slot<slots∧(o.Path.take x.toNat).length=(Co 8 o.Slot slots).length) from fun h=>hf h.2.2)]
   rw [if_pos (by decide)]
   exact Ak.ok (hnext _ (G1 (by omega) (by omega)) fun at_ _ _ h=>absurd h hf)
  rw [if_pos (show 0≤o.Slot∧o.Slot<slots∧(o.Path.take x.toNat).length=(Co 8 o.Slot slots).length from⟨q3,q4,hf⟩)]
  rw [if_neg (by simp)]
  generalize hX:Li (R0 o.Salt [o.Airline,o.Flight,o.Slot,o.Cost]) (Co 8 o.Slot slots) (o.Path.take x.toNat)=X at *
  refine Ak.bind (P:=fun y:Unit ⊕ Int=>(y=.inl () ∧ ∀ at_:Int,0≤at_→at_<tables→(o.Path.drop x.toNat).length=(Co 8 at_ tables).length→Li X (Co 8 at_ tables) (o.Path.drop x.toNat)≠d)∨(y=.inr 0∧V5 d airline tables slots o))
   (Ak.loop (I:=fun y:Int=>0≤y∧y≤tables ∧ ∀ at_:Int,0≤at_→at_<y→(o.Path.drop x.toNat).length=(Co 8 at_ tables).length→Li X (Co 8 at_ tables) (o.Path.drop x.toNat)≠d) (fun y=>(tables - y).toNat) ?_ tables.toNat 0 (by omega) ⟨by omega,by omega,fun a h1 h2=>by omega⟩) ?_
  ·intro y ⟨y1,y2,y3⟩
   unfold Jq
   by_cases hy:y<tables
   case neg=>
    rw [if_neg hy]
    exact Ak.ok (.inl ⟨rfl,fun a h1 h2=>y3 a h1 (by omega)⟩)
   rw [if_pos hy,Akc _ _ _ _ (by omega) (by omega)]
   simp only [R.bind]
   by_cases hl:(o.Path.drop x.toNat).length=(Co 8 y tables).length
   case neg=>
    rw [if_neg (show ¬ (0≤y∧y<tables∧(o.Path.drop x.toNat).length=(Co 8 y tables).length) from fun h=>hl h.2.2)]
    rw [if_neg (by simp),G1 (by omega) (by omega)]
    refine Ak.ok ⟨⟨by omega,by omega,fun a h1 h2 h3=>?_⟩,by omega⟩
    rcases Int.lt_or_le a y with h | h
    ·exact y3 a h1 h h3
    ·obtain rfl:a=y:=by omega
     exact absurd h3 hl
   rw [if_pos (show 0≤y∧y<tables∧(o.Path.drop x.toNat).length=(Co 8 y tables).length from⟨y1,hy,hl⟩)]
   by_cases he:Li X (Co 8 y tables) (o.Path.drop x.toNat)=d
   ·rw [if_pos (by simp [he])]
    exact Ak.ok (.inr ⟨rfl,hV x.toNat (by omega) hf y y1 hy hl (by rw [hX]; exact he)⟩)
   ·rw [if_neg (by simp [he]),G1 (by omega) (by omega)]
    refine Ak.ok ⟨⟨by omega,by omega,fun a h1 h2 h3=>?_⟩,by omega⟩
    rcases Int.lt_or_le a y with h | h
    ·exact y3 a h1 h h3
    ·obtain rfl:a=y:=by omega
     exact he
  ·rintro y (⟨rfl,h⟩ | ⟨rfl,h⟩)
   ·show Ak (Hl x) _
    unfold Hl
    exact Ak.ok (hnext _ (G1 (by omega) (by omega)) fun at_ h1 h2 h3 h4=>h at_ h1 h2 h4)
   ·exact Ak.ok (.inr ⟨rfl,h⟩)
 ·rintro x (⟨rfl,h⟩ | ⟨rfl,h⟩)
  ·exact Ak.ok (.inr ⟨rfl,h⟩)
  ·exact Ak.ok (.inl ⟨rfl,h⟩)
end Go.Am
namespace Go.Am
open Go
set_option linter.unusedVariables false
set_option linter.unusedSimpArgs false
def Vt (c:Clearing)(o:Opening):Prop:=
 o.Flight ∈ c.Flights∧c.Owners[(Eo c.Flights o.Flight).toNat]? = some o.Airline ∧ ∃ d,c.Commitments[(Eo (Ex c.Owners) o.Airline).toNat]? = some d∧V5 d o.Airline (many c.Owners o.Airline) c.Slots o
theorem Ade (c:Clearing)(o:Opening)(hF:Formed c)(hp:o.Path.length≤1000):Ak (I3 c o) fun e=>(e=0∧Vt c o)∨((e=360∨e=400)∧¬ Vt c o):=by
 unfold I3
 rw [M5]
 simp only [R.bind]
 have hfl:=hF.fl; have hsl:=hF.slots; have how:=hF.ow
 by_cases h1:o.Flight ∈ c.Flights
 case neg=>
  rw [if_pos (by have:=mt Iv.1 h1; simpa using this)]
  exact Ak.ok (.inr ⟨.inr rfl,fun h=>h1 h.1⟩)
 have hi:=Iv.2 h1
 have hil:=Agm (l:=c.Flights) (v:=o.Flight)
 rw [if_neg (by simpa using hi)]
 refine(Ak.idx (P:=fun a=>c.Owners[(Eo c.Flights o.Flight).toNat]? = some a) hi (by omega) fun a h=>h).bind fun a ha=>?_
 unfold L1
 by_cases h2:a=o.Airline
 case neg=>
  rw [if_pos (by simpa using h2)]
  refine Ak.ok (.inr ⟨.inr rfl,fun h=>h2 ?_⟩)
  have:=h.2.1
  rw [ha] at this
  exact Option.some.inj this
 subst h2
 rw [if_neg (by simp)]
 have hmem:o.Airline ∈ c.Owners:=List.mem_of_getElem? ha
 have hin:=hF.own _ hmem
 refine(V2 c.Owners (by omega)).bind fun r hr=>?_
 rw [hr.1,M5]
 simp only [R.bind]
 have hk:=Iv.2 (W3.2 ⟨hin,hmem⟩)
 have hkl:=Agm (l:=Ex c.Owners) (v:=o.Airline)
 have hcm:=hF.com
 refine(Ak.idx (P:=fun d=>c.Commitments[(Eo (Ex c.Owners) o.Airline).toNat]? = some d) hk (by omega) fun a h=>h).bind fun d hd=>?_
 rw [hr.2,if_pos hin]
 refine(An7 d o.Airline _ c.Slots o hp).bind fun e he=>Ak.ok ?_
 rcases he with⟨rfl,h⟩ | ⟨rfl,h⟩
 ·exact .inl ⟨rfl,h1,ha,d,hd,h⟩
 ·refine .inr ⟨.inl rfl,fun hA=>h ?_⟩
  obtain⟨_,_,d',hd',hV⟩:=hA
  rw [hd] at hd'
  rw [Option.some.inj hd']
  exact hV
def Lj (a b:Opening):Prop:=a.Flight<b.Flight∨(a.Flight=b.Flight∧a.Slot<b.Slot)
theorem Lj.trans {a b c:Opening}(h1:Lj a b)(h2:Lj b c):Lj a c:=by unfold Lj at *; omega
def Qr (c:Clearing):Prop:=c.Openings.Pairwise Lj ∧ ∀ o ∈ c.Openings,Vt c o
theorem Afz (c:Clearing)(hF:Formed c)(hp : ∀ o ∈ c.Openings,o.Path.length≤1000)(hl:c.Openings.length≤1000):Ak (Nl c) fun r=>(r=true↔Qr c):=by
 unfold Nl
 have hE:=Ak.each (b:=fun j a=>fun _=>Ky c j a) (I:=fun n (_:Unit)=>(c.Openings.take n).Pairwise Lj ∧ ∀ o ∈ c.Openings.take n,Vt c o) (E:=fun r:Bool=>r=false∧¬ Qr c) c.Openings 0 () ⟨by simp,by simp⟩ (fun j a _ hj hI=>by
  simp only [Nat.zero_add] at hI ⊢
  obtain⟨p1,p2⟩:=hI
  have hjl:j<c.Openings.length:=As hj
  have ht1:c.Openings.take (j+1)=c.Openings.take j++[a]:=by rw [List.take_add_one,hj]; rfl
  have hja:c.Openings[j]=a:=by rw [List.getElem?_eq_getElem hjl] at hj; exact Option.some.inj hj
  have step:(∀ x ∈ c.Openings.take j,Lj x a)→Ak ((I3 c a).bind fun r1=>Iw (r1 != 0)) (Ur (fun n (_:Unit)=>(c.Openings.take n).Pairwise Lj ∧ ∀ o ∈ c.Openings.take n,Vt c o) (fun r:Bool=>r=false∧¬ Qr c) (j+1)):=fun hlt=>by
   refine(Ade c a hF (hp a (List.mem_of_getElem? hj))).bind fun e he=>?_
   unfold Iw
   rcases he with⟨rfl,hA⟩ | ⟨he,hA⟩
   ·rw [if_neg (by decide)]
    refine Ak.ok ⟨?_,fun o ho=>?_⟩
    ·rw [ht1,List.pairwise_append]
     refine⟨p1,by simp,fun x hx y hy=>?_⟩
     obtain rfl:=List.mem_singleton.1 hy
     exact hlt x hx
    ·rw [ht1,List.mem_append,List.mem_singleton] at ho
     rcases ho with ho | rfl
     ·exact p2 o ho
     ·exact hA
   ·rw [if_pos (by rcases he with rfl | rfl <;> decide)]
    exact Ak.ok ⟨rfl,fun h=>hA (h.2 a (List.mem_of_getElem? hj))⟩
  unfold Ky
  by_cases hj0:(j:Int) > 0
  case neg=>
   rw [if_neg (by simpa using hj0)]
   refine step fun x hx=>?_
   obtain rfl:j=0:=by omega
   simp at hx
  rw [if_pos (by simpa using hj0),G1 (by omega) (by omega)]
  have hpl:j - 1<c.Openings.length:=by omega
  rw [show(j:Int) - 1=((j - 1:Nat):Int) by omega,H5 (List.getElem?_eq_getElem hpl),R.ok_bind,Tb,R.ok_bind]
  by_cases ho:Abi c.Openings[j - 1] a≥0
  ·rw [if_pos (by simpa using ho)]
   refine Ak.ok ⟨rfl,fun h=>?_⟩
   have:=List.pairwise_iff_getElem.1 h.1 (j - 1) j hpl hjl (by omega)
   rw [hja] at this
   have:=Zx.2 this
   omega
  ·rw [if_neg (by simpa using ho)]
   refine step fun x hx=>?_
   have hlast:Lj c.Openings[j - 1] a:=Zx.1 (by omega)
   obtain⟨i,hi,rfl⟩:=List.getElem_of_mem hx
   rw [List.length_take] at hi
   rw [List.getElem_take]
   rcases Nat.lt_or_ge i (j - 1) with h | h
   ·have:=List.pairwise_iff_getElem.1 p1 i (j - 1) (by rw [List.length_take]; omega) (by rw [List.length_take]; omega) h
    rw [List.getElem_take,List.getElem_take] at this
    exact this.trans hlast
   ·obtain rfl:i=j - 1:=by omega
    exact hlast)
 refine hE.bind fun x hx=>Ak.alt hx (fun u hu=>?_) (fun r hr=>?_)
 ·simp only [Ur,Nat.zero_add,List.take_length] at hu
  exact Ak.ok ⟨fun _=>hu,fun _=>rfl⟩
 ·exact Ak.ok ⟨fun e=>by rw [hr.1] at e; exact absurd e (by decide),fun h=>absurd h hr.2⟩
theorem Apf {σ:Type}(b:List Opening)(S n:Nat)(hS:1≤S)(hS8:S≤8)(hl:b.length=n * S)(hb:b.length≤100000)(b_:List Opening→σ→R σ)(P:Nat→σ→Prop)(s:σ)(h0:P 0 s)
  (hk : ∀ k s,k<n→P k s→Ak (b_ ((b.drop (k * S)).take S) s) (P (k+1))):Ak (F9 b (S:Int) b_ s) (P n):=by
 unfold F9
 refine Ak.bind (P:=P n) (Ak.loop (I:=fun s:Int×σ => ∃ k:Nat,k≤n∧s.1=((k * S:Nat):Int)∧P k s.2) (fun s=>((b.length:Int) - s.1).toNat) ?_ b.length (0,s) (by simp) ⟨0,by omega,by simp,h0⟩) fun s hs=>Ak.ok hs
 rintro⟨i,s⟩ ⟨k,k1,k2,k3⟩
 show Ak (E8 b S b_ i s) _
 simp only at k2 k3
 subst k2
 unfold E8
 by_cases hi:((k * S:Nat):Int)<(b.length:Int)
 case neg=>
  rw [if_neg hi]
  have hle:k * S≥n * S:=by omega
  have:k=n:=by
   have:=Nat.le_of_mul_le_mul_right hle (by omega)
   omega
  subst this
  exact Ak.ok k3
 have hkn:k<n:=by
  have:k * S<n * S:=by omega
  exact Nat.lt_of_mul_lt_mul_right this
 have hle:(k+1) * S≤n * S:=Nat.mul_le_mul_right S hkn
 have hadd:(k+1) * S=k * S+S:=by rw [Nat.add_mul,Nat.one_mul]
 rw [if_pos hi,if_pos ⟨by omega,by omega⟩,Int.toNat_natCast]
 have hd:((b.drop (k * S)).length:Int)=(b.length:Int) - ((k * S:Nat):Int):=by rw [List.length_drop]; omega
 rw [if_neg (show ¬ ((b.drop (k * S)).length:Int)<(S:Int) by omega),G1 (by omega) (by omega),if_pos ⟨by omega,by omega,by omega⟩]
 have hc:cut b ((k * S:Nat):Int) (((k * S:Nat):Int)+(S:Int))=(b.drop (k * S)).take S:=by
  unfold cut
  rw [Int.toNat_natCast]
  congr 1
  omega
 rw [hc]
 refine(hk k s hkn k3).bind fun s1 h1=>Ak.ok ⟨⟨k+1,by omega,by simp only; omega,h1⟩,?_⟩
 simp only; omega
def Y0 (c:Clearing):List (List Int):=(List.range c.Flights.length).map fun k=>((c.Openings.drop (k * c.Slots.toNat)).take c.Slots.toNat).map (·.Cost)
def Z1 (c:Clearing):Prop:=c.Openings.length=c.Flights.length * c.Slots.toNat
theorem Adl (c:Clearing)(hs:1≤c.Slots∧c.Slots≤8)(hf:c.Flights.length≤8):Lq c=.ok (if c.Openings.length=c.Flights.length * c.Slots.toNat then(({ Slots:=c.Slots,Owners:=c.Owners,Costs:=Y0 c }:Round),true) else(({ Slots:=0,Owners:=[],Costs:=[] }:Round),false)):=by
 unfold Lq
 obtain⟨S,hS⟩ : ∃ S:Nat,c.Slots=(S:Int):=⟨c.Slots.toNat,by omega⟩
 have hmul:(c.Flights.length:Int) * c.Slots=((c.Flights.length * S:Nat):Int):=by rw [hS]; simp
 have hb:c.Flights.length * S≤8 * 8:=Nat.mul_le_mul hf (by omega)
 rw [hmul,G1 (by omega) (by omega),hS,Int.toNat_natCast]
 by_cases h:c.Openings.length=c.Flights.length * S
 case neg=>
  rw [if_pos (by simp only [bne_iff_ne]; omega),if_neg h]
 rw [if_neg (by simp only [bne_iff_ne]; omega),if_pos h]
 unfold If
 rw [if_neg (by omega),R.ok_bind]
 have:=Apf c.Openings S c.Flights.length (by omega) (by omega) h (by omega) (fun a z_=>R.np ((fun l=>I4 a l) z_)) (fun k l=>l=(List.range k).map fun k=>((c.Openings.drop (k * S)).take S).map (·.Cost)) [] rfl (fun k l hk hl=>by
  subst hl
  refine Ak.np ?_
  show Ak (I4 _ _) _
  unfold I4
  have e1:eachS (fun _ a1=>fun costs=>I9 a1 costs) 0 ((c.Openings.drop (k * S)).take S) []=.ok (((c.Openings.drop (k * S)).take S).map (·.Cost)):=by
   have:=Ahu (b:=fun _ (a1:Opening)=>fun costs=>I9 a1 costs) (g:=fun o:Opening=>o.Cost) (c:=8) (fun j a s=>rfl) ((c.Openings.drop (k * S)).take S) 0 []
   rw [this]
   ·simp
   ·simp only [List.length_nil,List.length_take,List.length_drop,Bs]; omega
  rw [e1,R.ok_bind,if_pos (by simp only [List.length_map,List.length_range,List.length_singleton,Bs]; omega)]
  refine Ak.ok ?_
  rw [List.range_succ,List.map_append]
  rfl)
 obtain⟨l,e,hl⟩:=this
 rw [e,R.ok_bind,hl]
 congr 2
 unfold Y0
 rw [hS,Int.toNat_natCast]
end Go.Am
namespace Go.Am
open Go
set_option linter.unusedVariables false
set_option linter.unusedSimpArgs false
set_option linter.unusedSectionVars false
theorem B9.each {α ε:Type}{b:Nat→α→Unit→R (Unit ⊕ ε)}(l:List α)(k:Nat)(hb : ∀ (j:Nat) a,l[j]? = some a→B9 (b (k+j) a ())):B9 (each b k l ()):=
 (Ak.each (I:=fun _ _=>True) (E:=fun _=>True) l k () trivial fun j a _ hj _=>(hb j a hj).mono fun x _=>by cases x <;> exact trivial).tot
theorem B9.alt {α β σ:Type}{f:α→R σ}{g:β→R σ}(x:α ⊕ β)(h1 : ∀ a,B9 (f a))(h2 : ∀ b,B9 (g b)):B9 (alt f g x):=by
 cases x with
 | inl a=>exact h1 a
 | inr b=>exact h2 b
structure CChk (r:Round):Prop where
 slots:1≤r.Slots∧r.Slots≤8
 own:(r.Owners.length:Int)≤r.Slots
 costs:r.Costs.length=r.Owners.length
 inA : ∀ a ∈ r.Owners,inA a
 row : ∀ l ∈ r.Costs,(l.length:Int)=r.Slots
theorem As6 (s:List Int):B9 (E6 s):=by
 unfold E6 Hq
 refine B9.bind (B9.bind (B9.each _ _ fun j a _=>?_) fun x=>B9.alt _ (fun _=>B9.ok _) fun _=>B9.ok _) fun _=>B9.ok _
 unfold Gg Lg I5
 simp only [R.ok_bind]
 exact Ak.ite (fun _=>B9.ok _) fun _=>B9.ok _
theorem Aim (r:Round):Ak (Lo r) fun e=>(e=0∧CChk r)∨e=370:=by
 unfold Lo
 refine Ak.ite (fun _=>Ak.ok (.inr rfl)) fun h=>?_
 simp only [Bool.or_eq_true,decide_eq_true_eq,bne_iff_ne,ne_eq,not_or,Decidable.not_not] at h
 obtain⟨⟨⟨h1,h2⟩,h3⟩,h4⟩:=h
 refine(Ak.each (b:=fun j a=>fun _=>Jc r j a) (I:=fun n (_:Unit)=>(∀ a ∈ r.Owners.take n,inA a) ∧ ∀ l ∈ r.Costs.take n,(l.length:Int)=r.Slots) (E:=fun e:Int=>e=370) r.Costs 0 () ⟨by simp,by simp⟩ fun j a _ hj hI=>?_).bind fun x hx=>Ak.alt hx (fun u hu=>?_) fun e he=>Ak.ok (.inr he)
 ·simp only [Nat.zero_add] at hI ⊢
  have hjl:j<r.Costs.length:=As hj
  have hjo:j<r.Owners.length:=by omega
  have ht1:r.Owners.take (j+1)=r.Owners.take j++[r.Owners[j]]:=by rw [List.take_add_one,List.getElem?_eq_getElem hjo]; rfl
  have ht2:r.Costs.take (j+1)=r.Costs.take j++[a]:=by rw [List.take_add_one,hj]; rfl
  unfold Jc
  rw [H5 (List.getElem?_eq_getElem hjo),R.ok_bind]
  unfold I5 G5
  rw [R.ok_bind]
  refine Ak.ite (fun _=>Ak.pos rfl (Ak.ok rfl)) fun q1=>?_
  refine Ak.ite (fun _=>Ak.pos rfl (Ak.ok rfl)) fun q2=>?_
  simp only [Bool.or_eq_true,decide_eq_true_eq,not_or,bne_iff_ne,ne_eq,Decidable.not_not] at q1 q2
  have hja:j<a.length:=by omega
  rw [H5 (List.getElem?_eq_getElem hja),R.ok_bind]
  refine Ak.ite (fun _=>Ak.pos rfl (Ak.ok rfl)) fun q3=>?_
  refine(As6 a).bind fun b=>Ak.ite (fun _=>Ak.ok rfl) fun _=>Ak.ok ⟨fun x hx=>?_,fun x hx=>?_⟩
  ·rw [ht1,List.mem_append,List.mem_singleton] at hx
   rcases hx with hx | rfl
   ·exact hI.1 x hx
   ·unfold Am.inA; omega
  ·rw [ht2,List.mem_append,List.mem_singleton] at hx
   rcases hx with hx | rfl
   ·exact hI.2 x hx
   ·exact q2
 ·simp only [Ur,Nat.zero_add,List.take_length] at hu
  have e:r.Costs.length=r.Owners.length:=by omega
  rw [e,List.take_length] at hu
  exact Ak.ok (.inl ⟨rfl,⟨by omega,by omega⟩,by omega,e,hu.1,hu.2⟩)
def InS (r:Round)(l:List Int):Prop := ∀ s ∈ l,0≤s∧s<r.Slots
theorem P9 {α:Type}{l:List α}{n:Int}(h0:0≤n)(h1:n<(l.length:Int)):B9 (idx l n):=Ak.idx h0 h1 fun _ _=>trivial
section
variable {r:Round} (hr:CChk r)
include hr
theorem Afp {f s:Int}(hf:0≤f∧f<(r.Owners.length:Int))(hs:0≤s∧s<r.Slots){β:Type}{g:Int→R β}{Q:β→Prop}(h : ∀ a,Ak (g a) Q):Ak ((idx r.Costs f).bind fun a=>(idx a s).bind g) Q:=by
 refine(Ak.idx (P:=fun a=>a ∈ r.Costs) hf.1 (by have:=hr.costs; omega) fun a ha=>List.mem_of_getElem? ha).bind fun a ha=>?_
 exact(P9 hs.1 (by have:=hr.row a ha; omega)).bind h
theorem Akq (slots:List Int):Ak (L4 r slots) fun b=>b=true→slots.length=r.Owners.length∧InS r slots:=by
 unfold L4
 refine Ak.ite (fun _=>Ak.ok fun h=>by simp at h) fun h=>?_
 simp only [bne_iff_ne,ne_eq,Decidable.not_not] at h
 refine(Ak.each (b:=fun j a=>fun _=>Hg r slots j a) (I:=fun n (_:Unit)=>InS r (slots.take n)) (E:=fun b:Bool=>b=false) slots 0 () (by intro s hs; simp at hs) fun j a _ hj hI=>?_).bind fun x hx=>Ak.alt hx (fun u hu=>?_) fun e he=>Ak.ok fun h=>by rw [he] at h; simp at h
 ·simp only [Nat.zero_add] at hI ⊢
  have hjl:j<slots.length:=As hj
  have ht1:slots.take (j+1)=slots.take j++[a]:=by rw [List.take_add_one,hj]; rfl
  unfold Hg
  by_cases q:a<0∨a≥r.Slots
  ·rw [if_pos (by simpa using q)]
   simp only [R.ok_bind,if_true]
   exact Ak.ok rfl
  ·rw [if_neg (by simpa using q)]
   refine Ak.bind (Afp hr (f:=(j:Int)) (s:=a) ⟨by omega,by omega⟩ ⟨by omega,by omega⟩ (Q:=fun _=>True) fun x=>Ak.ok trivial) fun b _=>?_
   refine Ak.bind (P:=fun _=>True) (Ak.ite (fun _=>Ak.ok trivial) fun _=>?_) fun b1 _=>Ak.ite (fun _=>Ak.ok rfl) fun _=>Ak.ok fun s hs=>?_
   ·rw [if_pos ⟨by omega,by omega⟩,K4]
    exact Ak.ok trivial
   ·rw [ht1,List.mem_append,List.mem_singleton] at hs
    rcases hs with hs | rfl
    ·exact hI s hs
    ·omega
 ·simp only [Ur,Nat.zero_add,List.take_length] at hu
  exact Ak.ok fun _=>⟨by omega,hu⟩
theorem App:Ir r=.ok ((List.range r.Owners.length).map fun n:Nat=>(n:Int)):=by
 unfold Ir
 have hl:=hr.own; have hs:=hr.slots
 have:=Ak.eachS (b:=fun j _=>fun l=>Kz j l) (I:=fun n (l:List Int)=>l=(List.range n).map fun n:Nat=>(n:Int)) r.Owners 0 [] rfl (fun j a l hj hI=>by
  simp only [Nat.zero_add] at hI ⊢
  subst hI
  have hjl:j<r.Owners.length:=As hj
  unfold Kz
  rw [if_pos (by simp only [List.length_map,List.length_range,List.length_singleton,Bs]; omega)]
  refine Ak.ok ?_
  rw [List.range_succ,List.map_append]
  rfl)
 obtain⟨l,e,hl⟩:=this
 rw [e,R.ok_bind,hl,Nat.zero_add]
theorem Xn (flights slots:List Int)(hf : ∀ f ∈ flights,0≤f∧f<(r.Owners.length:Int))(hl:flights.length≤slots.length)(hs:InS r slots):Ak (Gv r flights slots) fun out=>out.length=8:=by
 unfold Gv
 rw [if_pos (by decide)]
 refine Ak.bind (P:=fun out:List Int=>out.length=8) (Ak.eachS (I:=fun _ (out:List Int)=>out.length=8) flights 0 _ (by decide) fun j a out hj hI=>?_) fun out h=>Ak.ok h
 have ha:=hf a (List.mem_of_getElem? hj)
 have hjl:j<flights.length:=As hj
 unfold Le
 refine(Ak.idx (P:=fun a1=>inA a1) ha.1 ha.2 fun a1 h=>hr.inA a1 (List.mem_of_getElem? h)).bind fun a1 h1=>?_
 unfold inA at h1
 refine(P9 h1.1 (by omega)).bind fun a2=>?_
 refine(Ak.idx (P:=fun a=>a ∈ r.Costs) ha.1 (by have:=hr.costs; omega) fun a ha=>List.mem_of_getElem? ha).bind fun a3 h3=>?_
 simp only [Nat.zero_add]
 refine(Ak.idx (P:=fun s=>0≤s∧s<r.Slots) (by omega) (by omega) fun s h=>hs s (List.mem_of_getElem? h)).bind fun a4 h4=>?_
 refine(P9 h4.1 (by have:=hr.row a3 h3; omega)).bind fun a5=>Ak.ok ?_
 rw [List.length_set]
 exact hI
theorem Aca {f:Int}(h:f ∈ (List.range r.Owners.length).map fun n:Nat=>(n:Int)):0≤f∧f<(r.Owners.length:Int):=by
 obtain⟨n,hn,rfl⟩:=List.mem_map.1 h
 have:=List.mem_range.1 hn
 omega
theorem Atl:InS r ((List.range r.Owners.length).map fun n:Nat=>(n:Int)):=fun s hs=>by
 have:=Aca hr hs; have:=hr.own; omega
theorem Ahq (slots:List Int):Ak (Hz r slots) fun x=>x.2=0→slots.length=r.Owners.length∧InS r slots:=by
 unfold Hz Qj Om
 have hl:=hr.own; have hs:=hr.slots
 refine Ak.bind (P:=fun e:Int=>e=0→slots.length=r.Owners.length∧InS r slots) (Ak.bind (P:=fun x:Bool×Int=>x.2=0→x.1=true→slots.length=r.Owners.length∧InS r slots) ((Aim r).bind fun e he=>Ak.ite (fun _=>Ak.ok fun _ h=>by simp at h) fun _=>(Akq hr slots).bind fun b hb=>Ak.ok fun _=>hb) fun x hx=>Ak.ite (fun _=>Ak.ok fun h=>absurd h (by decide)) fun q=>Ak.ok fun _=>?_) fun e he=>Ak.ite (fun q=>Ak.ok fun h=>?_) fun q=>?_
 ·simp only [Bool.or_eq_true,not_or,bne_iff_ne,ne_eq,Decidable.not_not,Bool.not_eq_true',Bool.not_eq_false] at q
  exact hx q.1 q.2
 ·simp only at h; rw [h] at q; simp at q
 ·have h0:e=0:=by simpa using q
  obtain⟨q1,q2⟩:=he h0
  rw [App hr]
  simp only [R.ok_bind]
  refine(Xn hr _ _ (fun f hf=>Aca hr hf) (Nat.le_refl _) (Atl hr)).bind fun before hb=>?_
  refine(Xn hr _ slots (fun f hf=>Aca hr hf) (by simp; omega) q2).bind fun now hn=>?_
  refine Ak.bind (P:=fun _=>True) ((Ak.eachS (b:=fun j a=>fun l=>I2 before j a l) (I:=fun n (l:List Int)=>l.length≤n) now 0 [] (by simp) fun j a l hj hI=>?_).tot) fun l _=>Ak.ok fun _=>⟨q1,q2⟩
  have hjl:j<now.length:=As hj
  unfold I2
  simp only [Nat.zero_add] at hI ⊢
  refine(P9 (by omega) (by omega)).bind fun a1=>Ak.ite (fun _=>Ak.pos ?_ (Ak.ok ?_)) fun _=>Ak.ok (by omega)
  ·simp only [List.length_singleton,Bs]; omega
  ·simp only [List.length_append,List.length_singleton]; omega
theorem Alk {σ ε:Type}(l:List Int)(hl : ∀ f ∈ l,0≤f∧f<(r.Owners.length:Int))(h100:l.length≤100)(b_:List Int→σ→R (σ ⊕ ε))(hb : ∀ x s,x.length=l.length→(∀ f ∈ x,f ∈ l)→B9 (b_ x s)) :
  ∀ (n:Nat) (begin:List Int) (s:σ),begin.length≤l.length→l.length<begin.length+n→(∀ f ∈ begin,f ∈ l)→B9 (Dy b_ n begin l r l r s)
 | 0,begin,s,h1,h2,h3=>by omega
 | n+1,begin,s,h1,h2,h3=>by
  rw [Dy]
  refine Ak.np ?_
  unfold Fr
  refine Ak.ite (fun q=>?_) fun q=>?_
  ·unfold Iy
   rw [if_pos (by unfold Bs; omega),R.ok_bind]
   exact(hb begin s (by have:=of_decide_eq_true q; omega) h3).bind fun x=>B9.alt _ (fun _=>B9.ok _) fun _=>B9.ok _
  ·have hlt:begin.length<l.length:=by
    have:¬ ((begin.length:Int)=(l.length:Int)):=by simpa using q
    omega
   refine B9.bind (Ak.each (I:=fun _ _=>True) (E:=fun _=>True) l 0 s trivial fun j a s1 hj _=>?_).tot fun x=>B9.alt _ (fun _=>B9.ok _) fun _=>B9.ok _
   refine Ak.mono (P:=fun _=>True) ?_ fun x _=>by cases x <;> exact trivial
   have ha:a ∈ l:=List.mem_of_getElem? hj
   have ha':=hl a ha
   have hlo:=hr.own
   unfold Fj Ei
   refine(Ak.idx (P:=fun a1=>a1 ∈ l) (by omega) (by omega) fun a1 h=>List.mem_of_getElem? h).bind fun a1 h1'=>?_
   have h1'':=hl a1 h1'
   refine Afp hr h1'' (s:=a) ⟨ha'.1,by omega⟩ fun a3=>Ak.ite (fun _=>?_) fun _=>Ak.ok trivial
   rw [K4,R.ok_bind]
   refine Ak.ite (fun _=>?_) fun _=>Ak.ok trivial
   rw [Int.toNat_natCast,List.take_length,if_pos ⟨by omega,by omega⟩,if_pos ⟨by simp,by simp only [List.length_singleton,Bs]; omega⟩]
   refine(Alk l hl h100 b_ hb n (begin++[a]) s1 (by simp only [List.length_append,List.length_singleton]; omega) (by simp only [List.length_append,List.length_singleton]; omega) fun f hf=>?_).bind fun x=>B9.alt _ (fun _=>B9.ok _) fun _=>B9.ok _
   rw [List.mem_append,List.mem_singleton] at hf
   rcases hf with hf | rfl
   ·exact h3 f hf
   ·exact ha
theorem Amw (than group:List Int)(ht:than.length=8)(hg : ∀ o ∈ group,inA o):B9 (Ks r than group):=by
 unfold Ks
 have hlo:=hr.own; have hs:=hr.slots
 refine Ak.bind (P:=fun l:List Int=>l.length≤r.Owners.length ∧ ∀ f ∈ l,0≤f∧f<(r.Owners.length:Int)) ((Ak.eachS (b:=fun j a=>fun l=>H7 group j a l) (I:=fun n (l:List Int)=>l.length≤n ∧ ∀ f ∈ l,0≤f∧f<(r.Owners.length:Int)) r.Owners 0 [] ⟨by simp,by simp⟩ fun j a l hj hI=>?_).mono fun l hl=>by simpa using hl) fun l hl=>?_
 ·simp only [Nat.zero_add] at hI ⊢
  have hjl:j<r.Owners.length:=As hj
  unfold H7
  rw [K4,R.ok_bind]
  refine Ak.ite (fun _=>Ak.pos (by simp only [List.length_singleton,Bs]; omega) (Ak.ok ⟨by simp only [List.length_append,List.length_singleton]; omega,fun f hf=>?_⟩)) fun _=>Ak.ok ⟨by omega,hI.2⟩
  rw [List.mem_append,List.mem_singleton] at hf
  rcases hf with hf | rfl
  ·exact hI.2 f hf
  ·omega
 ·unfold Gl
  rw [R.ok_bind]
  refine B9.bind (Ak.np ?_) fun x=>B9.alt _ (fun _=>B9.ok _) fun _=>B9.ok _
  unfold F4 Ij
  refine B9.bind (Alk hr l hl.2 (by omega) _ (fun x s hx hm=>Ak.np ?_) Sa [] () (by simp) (by rw [Acv]; simp only [List.length_nil]; omega) (by simp)) fun x=>B9.alt _ (fun _=>B9.ok _) fun _=>B9.ok _
  show B9 (Gq r than group l x)
  unfold Gq Kg
  refine(Xn hr l x hl.2 (by omega) fun s hs'=>by have:=hl.2 s (hm s hs'); omega).bind fun now hn=>?_
  refine B9.bind (B9.each _ _ fun j o hj=>?_) fun y=>B9.alt _ (fun _=>B9.ok _) fun _=>B9.ok _
  have ho:=hg o (List.mem_of_getElem? hj)
  unfold inA at ho
  unfold Kj
  exact(P9 ho.1 (by omega)).bind fun _=>(P9 ho.1 (by omega)).bind fun _=>Ak.ite (fun _=>B9.ok _) fun _=>B9.ok _
theorem Ams (slots:List Int):B9 (Dz r slots):=by
 unfold Dz
 refine(Ahq hr slots).bind fun x hx=>Ak.ite (fun _=>B9.ok _) fun q=>?_
 simp only [Bool.or_eq_true,decide_eq_true_eq,bne_iff_ne,ne_eq,not_or,Decidable.not_not] at q
 obtain⟨q1,q2⟩:=hx q.1
 rw [App hr,R.ok_bind]
 refine(Xn hr _ slots (fun f hf=>Aca hr hf) (by simp; omega) q2).bind fun than ht=>?_
 refine B9.bind (B9.each _ _ fun j a hj=>?_) fun y=>B9.alt _ (fun _=>B9.ok _) fun _=>B9.ok _
 unfold Km Ez
 refine Ak.bind (Ak.each (b:=fun j1 _=>fun group=>H6 r (0+j) j1 group) (I:=fun n (g:List Int)=>g.length≤n ∧ ∀ o ∈ g,inA o) (E:=fun _:Unit=>True) (List.range 8) 0 [] ⟨by simp,by simp⟩ fun j1 a g hj1 hI=>?_) fun x hx=>Ak.alt hx (fun g hg=>?_) fun _ _=>B9.ok _
 ·simp only [Nat.zero_add] at hI ⊢
  have hj8:j1<8:=by have:=As hj1; simpa using this
  unfold H6
  rw [if_pos (by omega)]
  refine Ak.ite (fun _=>Ak.ok ⟨by omega,hI.2⟩) fun _=>?_
  rw [K4,R.ok_bind]
  refine Ak.ite (fun _=>Ak.pos (by simp only [List.length_singleton,Bs]; omega) (Ak.ok ⟨by simp only [List.length_append,List.length_singleton]; omega,fun o ho=>?_⟩)) fun _=>Ak.ok trivial
  rw [List.mem_append,List.mem_singleton] at ho
  rcases ho with ho | rfl
  ·exact hI.2 o ho
  ·unfold inA; omega
 ·refine Ak.ite (fun _=>B9.ok _) fun _=>?_
  exact(Amw hr than g ht hg.2).bind fun _=>Ak.ite (fun _=>B9.ok _) fun _=>B9.ok _
theorem Apt (slots:List Int)(h1:slots.length=r.Owners.length)(h2:InS r slots):Ak (Mm r slots) fun v=>v.length=2:=by
 unfold Mm
 refine Ak.bind (P:=fun v:List Int=>v.length=2) (Ak.eachS (I:=fun _ (v:List Int)=>v.length=2) slots 0 _ rfl fun j a v hj hI=>?_) fun v h=>Ak.ok h
 have hjl:j<slots.length:=As hj
 have ha:=h2 a (List.mem_of_getElem? hj)
 unfold Lz
 simp only [Nat.zero_add]
 refine(P9 (by decide) (by omega)).bind fun a1=>?_
 refine Afp hr (f:=(j:Int)) ⟨by omega,by omega⟩ ha fun a3=>Ak.ite (fun _=>?_) fun _=>Ak.ok (by rw [List.length_set]; exact hI)
 refine(P9 (by decide) (by rw [List.length_set]; omega)).bind fun a4=>Ak.ok (by rw [List.length_set,List.length_set]; exact hI)
theorem Afm {σ:Type}(b_:List Int→σ→R σ)(P:σ→Prop)(hb : ∀ x s,x.length=r.Owners.length→InS r x→P s→Ak (b_ x s) P) :
  ∀ (n:Nat) (slots:List Int) (m:List (Int×Bool)) (s:σ),slots.length≤r.Owners.length→r.Owners.length<slots.length+n→InS r slots→P s→Ak (D1 b_ n slots r m r s) fun x=>P x.2
 | 0,slots,m,s,h1,h2,h3,h4=>by omega
 | n+1,slots,m,s,h1,h2,h3,h4=>by
  rw [D1]
  refine Ak.np ?_
  have hlo:=hr.own; have hsl:=hr.slots
  unfold Fq
  refine Ak.ite (fun q=>?_) fun q=>?_
  ·exact(hb slots s (by have:=of_decide_eq_true q; omega) h3 h4).bind fun s' hs'=>Ak.ok hs'
  ·have hlt:slots.length<r.Owners.length:=by
    have:¬ ((slots.length:Int)=(r.Owners.length:Int)):=by simpa using q
    omega
   refine Ak.bind (P:=fun x:List (Int×Bool)×σ=>P x.2) (Ak.loop (I:=fun x:Int×List (Int×Bool)×σ=>0≤x.1∧x.1≤r.Slots∧P x.2.2) (fun x=>(r.Slots - x.1).toNat) ?_ 8 (0,m,s) (by simp only; omega) ⟨by simp,by simp only; omega,h4⟩) fun x hx=>Ak.ok hx
   rintro⟨x,m1,s1⟩ ⟨x1,x2,x3⟩
   show Ak (Ej slots r r _ x m1 s1) _
   simp only at x1 x2 x3
   unfold Ej G2
   by_cases hx:x<r.Slots
   case neg=>rw [if_neg hx]; exact Ak.ok x3
   rw [if_pos hx,G1 (n:=x+1) (by omega) (by omega)]
   refine Ak.bind (P:=fun _=>True) (Ak.ite (fun _=>Ak.ok trivial) fun _=>Afp hr (f:=(slots.length:Int)) (s:=x) ⟨by omega,by omega⟩ ⟨x1,hx⟩ fun _=>Ak.ok trivial) fun b1 _=>Ak.ite (fun _=>Ak.ok ⟨⟨by simp only; omega,by simp only; omega,x3⟩,by simp only; omega⟩) fun _=>?_
   unfold Qc
   rw [if_pos ⟨by omega,Int.le_refl _⟩,R.ok_bind,Int.toNat_natCast,List.take_length,if_pos ⟨by simp,by simp only [List.length_singleton,Bs]; omega⟩]
   refine(Afm b_ P hb n (slots++[x]) _ s1 (by simp only [List.length_append,List.length_singleton]; omega) (by simp only [List.length_append,List.length_singleton]; omega) (fun f hf=>?_) x3).bind fun y hy=>Ak.ok ⟨⟨by simp only; omega,by simp only; omega,hy⟩,by simp only; omega⟩
   rw [List.mem_append,List.mem_singleton] at hf
   rcases hf with hf | rfl
   ·exact h3 f hf
   ·exact⟨x1,hx⟩
end
theorem Ala (a b:List Int):B9 (Ld a b):=by
 unfold Ld
 refine B9.bind (B9.each _ _ fun j x hj=>?_) fun x=>B9.alt _ (fun _=>Ak.ite (fun _=>B9.ok _) fun _=>B9.ok _) fun _=>B9.ok _
 unfold Je
 refine Ak.ite (fun _=>B9.ok _) fun q=>?_
 refine(P9 (by omega) (by omega)).bind fun y=>?_
 rw [Q5,R.ok_bind]
 exact Ak.ite (fun _=>B9.ok _) fun _=>B9.ok _
def Awh (r:Round)(x:List Int×Int):Prop:=(x.2=0∧CChk r∧Dz r x.1=.ok (true,0))∨(x.2=370∨x.2=380)
theorem Arx (r:Round):Ak (Pt r) (Awh r):=by
 unfold Pt
 refine(Aim r).bind fun e he=>Ak.ite (fun q=>Ak.ok ?_) fun q=>?_
 ·rcases he with⟨rfl,_⟩ | rfl
  ·exact absurd q (by decide)
  ·exact .inr (.inl rfl)
 ·have hr:CChk r:=by
   rcases he with⟨_,h⟩ | rfl
   ·exact h
   ·exact absurd (by decide) q
  unfold H8
  rw [R.ok_bind]
  refine Ak.bind (P:=fun x:List Int×List Int=>x.2=[]∨Dz r x.1=.ok (true,0)) (Ak.np ?_) fun x hx=>?_
  ·unfold F2 It
   have hlo:=hr.own; have hsl:=hr.slots
   refine(Afm hr _ (fun x:List Int×List Int=>x.2=[]∨Dz r x.1=.ok (true,0)) (fun x s h1 h2 h3=>Ak.np ?_) Sa [] [] ([],[]) (by simp) (by rw [Acv]; simp only [List.length_nil]; omega) (by intro s hs; simp at hs) (.inl rfl)).bind fun y hy=>Ak.ok hy
   obtain⟨o,o1⟩:=s
   show Ak (Kx r x o o1) _
   unfold Kx
   refine(Apt hr x h1 h2).bind fun v hv=>?_
   refine Ak.bind (P:=fun _=>True) (Ak.ite (fun _=>(Ala _ _).bind fun _=>Ak.ok trivial) fun _=>Ak.ok trivial) fun b _=>Ak.ite (fun _=>Ak.ok h3) fun _=>?_
   obtain⟨st,hst,_⟩:=Ams hr x
   rw [hst,R.ok_bind]
   refine Ak.ite (fun q=>?_) fun _=>Ak.ok h3
   simp only [Bool.and_eq_true,beq_iff_eq] at q
   unfold Iy
   rw [if_pos (by unfold Bs; omega),R.ok_bind,if_pos (by omega)]
   refine Ak.ok (.inr ?_)
   rw [hst]
   exact congrArg R.ok (Prod.ext q.2 q.1)
  ·obtain⟨o,o1⟩:=x
   show Ak (if(List.isEmpty o1) then R.ok (([]:List Int),(380:Int)) else .ok (o,0)) _
   refine Ak.ite (fun _=>Ak.ok (.inr (.inr rfl))) fun q=>Ak.ok (.inl ⟨rfl,hr,?_⟩)
   rcases hx with hx | hx
   ·exact absurd (by simp only at hx; rw [hx]; rfl) q
   ·exact hx
def Anc (r:Round)(x:List Int×Int):Prop:=(x.2=3∧CChk r∧Dz r x.1=.ok (true,0))∨(x.2=4∧x.1=(List.range r.Owners.length).map fun n:Nat=>(n:Int))
theorem Aha (r:Round)(hl:r.Owners.length≤100000):Ak (Jm r) (Anc r):=by
 unfold Jm
 refine(Arx r).bind fun x hx=>Ak.ite (fun q=>Ak.ok (.inl ⟨rfl,?_⟩)) fun q=>?_
 ·have q':x.2=0:=by simpa using q
  rcases hx with⟨_,h⟩ | h
  ·exact h
  ·rw [q'] at h; omega
 ·have:=Ak.eachS (b:=fun j _=>fun outcome=>Lk j outcome) (I:=fun n (l:List Int)=>l=(List.range n).map fun n:Nat=>(n:Int)) r.Owners 0 [] rfl (fun j a l hj hI=>by
   simp only [Nat.zero_add] at hI ⊢
   subst hI
   have hjl:j<r.Owners.length:=As hj
   unfold Lk
   rw [if_pos (by simp only [List.length_map,List.length_range,List.length_singleton,Bs]; omega)]
   refine Ak.ok ?_
   rw [List.range_succ,List.map_append]
   rfl)
  refine this.bind fun l hl=>Ak.ok (.inr ⟨rfl,?_⟩)
  rw [hl,Nat.zero_add]
end Go.Am
namespace Go.Am
open Go
set_option linter.unusedVariables false
set_option linter.unusedSimpArgs false
theorem Ags {α:Type}[DecidableEq α]{b:Nat→α→Unit→R (Unit ⊕ Bool)}(s1 s2:List α)(h:s1.length=s2.length)(hb : ∀ (j:Nat) a a1,s2[j]? = some a1→b j a ()=if a=a1 then .ok (.inl ()) else .ok (.inr false)) :
  Ak ((each b 0 s1 ()).bind (alt (fun _=>R.ok true) (fun r=>.ok r))) fun r=>(r=true↔s1=s2):=by
 refine(Ak.each (b:=b) (I:=fun n (_:Unit)=>s1.take n=s2.take n) (E:=fun r:Bool=>r=false∧s1≠s2) s1 0 () (by simp) fun j a _ hj hI=>?_).bind fun x hx=>Ak.alt hx (fun u hu=>Ak.ok ⟨fun _=>?_,fun _=>rfl⟩) fun r hr=>Ak.ok ⟨fun e=>by rw [hr.1] at e; exact absurd e (by decide),fun e=>absurd e hr.2⟩
 ·simp only [Nat.zero_add] at hI ⊢
  have hjl:j<s1.length:=As hj
  have hj2:s2[j]? = some s2[j]:=List.getElem?_eq_getElem (by omega)
  rw [hb j a _ hj2]
  by_cases q:a=s2[j]
  ·rw [if_pos q]
   refine Ak.ok ?_
   show s1.take (j+1)=s2.take (j+1)
   rw [List.take_add_one,List.take_add_one,hI,hj,hj2,q]
  ·rw [if_neg q]
   refine Ak.ok ⟨rfl,fun e=>q ?_⟩
   subst e
   rw [hj] at hj2
   exact Option.some.inj hj2
 ·simp only [Ur,Nat.zero_add,List.take_length] at hu
  rw [hu,h,List.take_length]
theorem Ah0 (s1 s2:List Int):Ak (Mv s1 s2) fun r=>(r=true↔s1=s2):=by
 unfold Mv
 refine Ak.ite (fun q=>Ak.ok ⟨fun e=>absurd e (by decide),fun e=>by subst e; simp at q⟩) fun q=>?_
 refine Ags s1 s2 (by have this:¬ ((s1.length:Int)≠(s2.length:Int)):=(by simpa using q); omega) fun j a a1 hj=>?_
 unfold Kl
 rw [H5 hj,R.ok_bind]
 by_cases h:a=a1
 ·rw [if_neg (by simpa using h),if_pos h]
 ·rw [if_pos (by simpa using h),if_neg h]
theorem Ad8 (s1 s2:List (Vector Int 32)):Ak (Kh s1 s2) fun r=>(r=true↔s1=s2):=by
 unfold Kh
 refine Ak.ite (fun q=>Ak.ok ⟨fun e=>absurd e (by decide),fun e=>by subst e; simp at q⟩) fun q=>?_
 refine Ags s1 s2 (by have this:¬ ((s1.length:Int)≠(s2.length:Int)):=(by simpa using q); omega) fun j a a1 hj=>?_
 unfold Ig
 rw [H5 hj,R.ok_bind]
 by_cases h:a=a1
 ·rw [if_pos (by simpa using h),if_pos h]
 ·rw [if_neg (by simpa using h),if_neg h]
structure Sm (c:Clearing):Prop where
 op:c.Openings.length≤1000
 path : ∀ o ∈ c.Openings,o.Path.length≤1000
 out:c.Outcome.length≤1000
def Vu (c:Clearing):Round:={ Slots:=c.Slots,Owners:=c.Owners,Costs:=Y0 c }
structure Fin (c:Clearing):Prop where
 com:zD ∉ c.Commitments
 opn:Qr c
 full:Z1 c
 out:Jm (Vu c)=.ok (c.Outcome,c.Phase)
structure ValidC (c:Clearing):Prop where
 formed:Formed c
 phase:(c.Phase=1∧zD ∈ c.Commitments∧c.Openings=[]∧c.Outcome=[])∨(c.Phase=2∧zD ∉ c.Commitments∧Qr c∧c.Outcome=[])∨((c.Phase=3∨c.Phase=4)∧Fin c)
theorem Ajo (c:Clearing)(hF:Formed c)(hs:Sm c):Ak (Lm c) fun r=>(r=true↔Fin c):=by
 unfold Lm
 rw [M7,R.ok_bind]
 have hfl:=hF.fl; have hsl:=hF.slots
 by_cases h0:zD ∈ c.Commitments
 ·simp only [h0,decide_true,Bool.not_true,Bool.not_false,if_true,R.ok_bind]
  exact Ak.ok ⟨fun e=>absurd e (by decide),fun h=>absurd h0 h.com⟩
 simp only [h0,decide_false,Bool.not_true,Bool.not_false,Bool.false_eq_true,if_false]
 refine Ak.bind (Ak.bind (Afz c hF hs.path hs.op) (Q:=fun b=>(b=false↔Qr c)) fun b hb=>Ak.ok ?_) fun b hb=>?_
 ·cases b <;> simp_all
 refine Ak.ite (fun q=>Ak.ok ⟨fun e=>absurd e (by decide),fun h=>?_⟩) fun q=>?_
 ·rw [hb.2 h.opn] at q; exact absurd q (by decide)
 have hO:Qr c:=hb.1 (by simpa using q)
 rw [Adl c hsl (by omega),R.ok_bind]
 by_cases hfu:c.Openings.length=c.Flights.length * c.Slots.toNat
 case neg=>
  rw [if_neg hfu]
  exact Ak.ok ⟨fun e=>absurd e (by decide),fun h=>absurd h.full hfu⟩
 rw [if_pos hfu]
 simp only [if_true]
 obtain⟨x,e,_⟩:=Aha (Vu c) (show c.Owners.length≤100000 by have:=hF.ow; omega)
 rw [show({ Slots:=c.Slots,Owners:=c.Owners,Costs:=Y0 c }:Round)=Vu c from rfl,e,R.ok_bind]
 refine Ak.bind (P:=fun b:Bool=>(b=true↔x=(c.Outcome,c.Phase))) ?_ fun b hb=>Ak.ok ⟨fun hbt=>⟨h0,hO,hfu,by rw [e,hb.1 hbt]⟩,fun h=>hb.2 (by rw [h.out] at e; exact(R.ok.inj e).symm)⟩
 by_cases hph:x.2=c.Phase
 ·rw [if_pos (by simpa using hph)]
  refine(Ah0 x.1 c.Outcome).bind fun b hb=>Ak.ok ?_
  rw [hb]
  exact⟨fun h=>Prod.ext h hph,fun h=>by rw [h]⟩
 ·rw [if_neg (by simpa using hph)]
  exact Ak.ok ⟨fun e=>absurd e (by decide),fun h=>absurd (by rw [h]) hph⟩
theorem Xm (c:Clearing)(hs:Sm c):Ak (Fx c) fun e=>(e=0∧ValidC c)∨(e=400∧¬ ValidC c):=by
 unfold Fx
 refine(Am1 c).bind fun f hf=>?_
 have h400 : ∀ h:¬ ValidC c,Ak (Fd true) fun e=>(e=0∧ValidC c)∨(e=400∧¬ ValidC c):=fun h=>Ak.ok (.inr ⟨rfl,h⟩)
 refine Ak.ite (fun q=>h400 fun h=>?_) fun q=>?_
 ·rw [hf.2 h.formed] at q; exact absurd q (by decide)
 have hF:Formed c:=hf.1 (by simpa using q)
 refine Ak.ite (fun q=>h400 fun h=>?_) fun q1=>?_
 ·have:=h.phase; simp only [decide_eq_true_eq] at q; omega
 refine Ak.ite (fun q=>h400 fun h=>?_) fun q2=>?_
 ·have:=h.phase; simp only [decide_eq_true_eq] at q; omega
 simp only [decide_eq_true_eq] at q1 q2
 have hj : ∀ (b:Bool),(b=true↔ValidC c)→Ak (Fd (!b)) fun e=>(e=0∧ValidC c)∨(e=400∧¬ ValidC c):=fun b hb=>by
  cases b with
  | true=>exact Ak.ok (.inl ⟨rfl,hb.1 rfl⟩)
  | false=>exact Ak.ok (.inr ⟨rfl,fun h=>absurd (hb.2 h) (by decide)⟩)
 rw [if_neg (by omega)]
 refine Ak.ite (fun p1=>?_) fun p1=>Ak.ite (fun p2=>?_) fun p2=>Ak.ite (fun p3=>?_) fun p3=>Ak.ite (fun p4=>?_) fun p4=>by omega
 ·unfold Pp
  rw [M7,R.ok_bind,G1 (by have:=hs.op; omega) (by have:=hs.op; have:=hs.out; omega),R.ok_bind]
  refine hj _ ⟨fun h=>⟨hF,.inl ⟨p1,?_⟩⟩,fun h=>?_⟩
  ·simp only [Bool.not_not,Bool.and_eq_true,decide_eq_true_eq,beq_iff_eq] at h
   exact⟨h.1,List.length_eq_zero_iff.1 (by omega),List.length_eq_zero_iff.1 (by omega)⟩
  ·rcases h.phase with⟨_,h1,h2,h3⟩ | ⟨h1,_⟩ | ⟨h1,_⟩
   ·rw [h2,h3]; simp [h1]
   ·omega
   ·omega
 ·unfold Pf
  rw [M7,R.ok_bind]
  by_cases h0:zD ∈ c.Commitments
  ·simp only [h0,decide_true,Bool.not_true,Bool.false_eq_true,if_false,R.ok_bind,Bool.false_and]
   refine hj _ ⟨fun h=>absurd h (by decide),fun h=>?_⟩
   rcases h.phase with⟨h1,_⟩ | ⟨_,h1,_⟩ | ⟨h1,_⟩
   ·omega
   ·exact absurd h0 h1
   ·omega
  ·simp only [h0,decide_false,Bool.not_false,if_true]
   obtain⟨b,e,hb⟩:=Afz c hF hs.path hs.op
   rw [e]
   simp only [R.ok_bind]
   refine hj _ ⟨fun h=>⟨hF,.inr (.inl ⟨p2,h0,?_⟩)⟩,fun h=>?_⟩
   ·simp only [Bool.and_eq_true,beq_iff_eq] at h
    exact⟨hb.1 h.1,List.length_eq_zero_iff.1 (by omega)⟩
   ·rcases h.phase with⟨h1,_⟩ | ⟨_,_,h1,h2⟩ | ⟨h1,_⟩
    ·omega
    ·rw [hb.2 h1,h2]; rfl
    ·omega
 all_goals
  obtain⟨b,e,hb⟩:=Ajo c hF hs
  rw [e]
  simp only [R.ok_bind]
  refine hj _ ⟨fun h=>⟨hF,.inr (.inr ⟨by omega,hb.1 h⟩)⟩,fun h=>?_⟩
  rcases h.phase with⟨h1,_⟩ | ⟨h1,_⟩ | ⟨_,h1⟩
  ·omega
  ·omega
  ·exact hb.2 h1
theorem Aej {c:Clearing}(hs:Sm c)(h:ValidC c):Fx c=.ok 0:=by
 refine Ak.eq ((Xm c hs).mono fun e he=>?_)
 rcases he with⟨h,_⟩ | ⟨_,h'⟩
 ·exact h
 ·exact absurd h h'
end Go.Am
namespace Go.Am
open Go
set_option linter.unusedVariables false
set_option linter.unusedSimpArgs false
theorem Axi {n:Int}(h1:0≤n)(h2:n<18446744073709551616):IntKind.wrap .u64 n=n:=by simp [IntKind.wrap,IntKind.bits,IntKind.signed]; omega
theorem Anw (l:List Opening)(o:Opening)(hl:l.length≤100000)(hs:l.Pairwise Lj):Ak (D2 l o) fun x => ∃ n:Nat,x.1=(n:Int)∧n≤l.length∧(∀ k y,l[k]? = some y→k<n→Lj y o)∧(∀ k y,l[k]? = some y→n≤k→¬ Lj y o)∧(x.2=true ↔ ∃ y,l[n]? = some y∧y.Flight=o.Flight∧y.Slot=o.Slot):=by
 unfold D2
 refine Ak.bind (P:=fun i:Int => ∃ n:Nat,i=(n:Int)∧n≤l.length∧(∀ k y,l[k]? = some y→k<n→Lj y o)∧(∀ k y,l[k]? = some y→n≤k→¬ Lj y o)) (Ak.loop (I:=fun s:Int×Int=>0≤s.1∧s.1≤s.2∧s.2≤(l.length:Int)∧(∀ (k:Nat) y,l[k]? = some y→(k:Int)<s.1→Lj y o)∧(∀ (k:Nat) y,l[k]? = some y→s.2≤(k:Int)→¬ Lj y o)) (fun s=>(s.2 - s.1).toNat) ?_ l.length (0,(l.length:Int)) (by simp) ⟨by simp,by simp,by simp,fun k y _ h=>by simp only at h; omega,fun k y hk h=>by have:=As hk; simp only at h; omega⟩) ?_
 ·rintro⟨i,j⟩ ⟨i1,i2,i3,i4,i5⟩
  show Ak (Cq l o i j) _
  simp only at i1 i2 i3 i4 i5
  unfold Cq
  by_cases hij:i<j
  case neg=>
   rw [if_neg hij]
   obtain rfl:i=j:=by omega
   exact Ak.ok ⟨i.toNat,by omega,by omega,fun k y hk h=>i4 k y hk (by omega),fun k y hk h=>i5 k y hk (by omega)⟩
  have hm:Int.fdiv (i+j) 2=(i+j) / 2:=Int.fdiv_eq_ediv_of_nonneg _ (by decide)
  rw [if_pos hij,G1 (n:=i+j) (by omega) (by omega),Axi (n:=i+j) (by omega) (by omega),hm,G1 (n:=(i+j) / 2) (by omega) (by omega)]
  have hml:((i+j) / 2).toNat<l.length:=by omega
  obtain⟨m,hmm⟩ : ∃ m:Nat,(i+j) / 2=(m:Int):=⟨((i+j) / 2).toNat,by omega⟩
  rw [hmm] at hml ⊢
  rw [Int.toNat_natCast] at hml
  have hget:=List.getElem?_eq_getElem hml
  rw [H5 hget,R.ok_bind,Tb,R.ok_bind]
  by_cases hc:Abi l[m] o<0
  ·rw [if_pos hc,G1 (n:=(m:Int)+1) (by omega) (by omega)]
   have hlt:Lj l[m] o:=Zx.1 hc
   refine Ak.ok ⟨⟨by simp only; omega,by simp only; omega,by simp only; omega,fun k y hk h=>?_,fun k y hk h=>i5 k y hk h⟩,by simp only; omega⟩
   simp only at h
   have hkl:=As hk
   rw [List.getElem?_eq_getElem hkl] at hk
   obtain rfl:=Option.some.inj hk
   rcases Nat.lt_or_ge k m with h' | h'
   ·exact(List.pairwise_iff_getElem.1 hs k m hkl hml h').trans hlt
   ·obtain rfl:k=m:=by omega
    exact hlt
  ·rw [if_neg hc]
   have hge:¬ Lj l[m] o:=fun h=>hc (Zx.2 h)
   refine Ak.ok ⟨⟨by simp only; omega,by simp only; omega,by simp only; omega,fun k y hk h=>i4 k y hk h,fun k y hk h hlt=>?_⟩,by simp only; omega⟩
   simp only at h
   have hkl:=As hk
   rw [List.getElem?_eq_getElem hkl] at hk
   obtain rfl:=Option.some.inj hk
   rcases Nat.lt_or_ge m k with h' | h'
   ·exact hge ((List.pairwise_iff_getElem.1 hs m k hml hkl h').trans hlt)
   ·obtain rfl:k=m:=by omega
    exact hge hlt
 ·rintro i ⟨n,rfl,n1,n2,n3⟩
  unfold Dk
  by_cases hn:(n:Int)<(l.length:Int)
  ·have hnl:n<l.length:=by omega
   rw [if_pos (by simpa using hn),H5 (List.getElem?_eq_getElem hnl),R.ok_bind,Tb,R.ok_bind]
   refine Ak.ok ⟨n,rfl,n1,n2,n3,?_⟩
   rw [beq_iff_eq,Aqn]
   constructor
   ·intro h; exact⟨_,List.getElem?_eq_getElem hnl,h⟩
   ·rintro⟨y,hy,h⟩
    rw [List.getElem?_eq_getElem hnl] at hy
    rw [Option.some.inj hy]; exact h
  ·rw [if_neg (by simpa using hn)]
   refine Ak.ok ⟨n,rfl,n1,n2,n3,fun e=>by simp at e,?_⟩
   rintro⟨y,hy,_⟩
   have:=As hy
   omega
theorem Arq (a b:Opening):Ak (Rw a b) fun r=>(r=true↔a=b):=by
 unfold Rw
 by_cases h:a.Airline=b.Airline∧a.Flight=b.Flight∧a.Slot=b.Slot∧a.Cost=b.Cost∧a.Salt=b.Salt
 ·obtain⟨h1,h2,h3,h4,h5⟩:=h
  rw [if_pos (by simp [h1,h2,h3,h4,h5])]
  refine Ak.bind ((Ad8 a.Path b.Path).bind fun r hr=>Ak.ok hr) fun r hr=>Ak.ok ?_
  rw [hr]
  obtain⟨a1,a2,a3,a4,a5,a6⟩:=a
  obtain⟨b1,b2,b3,b4,b5,b6⟩:=b
  simp only at h1 h2 h3 h4 h5
  subst h1 h2 h3 h4 h5
  simp
 ·rw [if_neg (fun q=>h (by
   simp only [Bool.and_eq_true,beq_iff_eq] at q
   obtain⟨⟨⟨⟨q1,q2⟩,q3⟩,q4⟩,q5⟩:=q
   exact⟨q1,q2,q3,q4,q5⟩))]
  exact Ak.ok ⟨fun e=>absurd e (by decide),fun e=>absurd (by subst e; exact⟨rfl,rfl,rfl,rfl,rfl⟩) h⟩
theorem As7 {f:Nat→Nat}{N:Nat}(h1 : ∀ i j,i<j→j<N→f i<f j)(h2 : ∀ i,i<N→f i<N) : ∀ i,i<N→f i=i:=by
 have lo : ∀ i,i<N→i≤f i:=by
  intro i
  induction i with
  | zero=>intro _; omega
  | succ i ih=>intro hi; have:=ih (by omega); have:=h1 i (i+1) (by omega) hi; omega
 have hi : ∀ d i,i+d+1=N→f i≤i:=by
  intro d
  induction d with
  | zero=>intro i h; have:=h2 i (by omega); omega
  | succ d ih=>intro i h; have:=ih (i+1) (by omega); have:=h1 i (i+1) (by omega) (by omega); omega
 intro i h
 have:=lo i h
 have:=hi (N - i - 1) i (by omega)
 omega
theorem Anr {l:List Int}{a b:Int}(hs:l.Pairwise (· < ·))(ha:a ∈ l)(hb:b ∈ l)(h:a<b):(Eo l a).toNat<(Eo l b).toNat:=by
 have h1:=Qx (Iv.2 ha)
 have h2:=Qx (Iv.2 hb)
 rcases Nat.lt_or_ge (Eo l a).toNat (Eo l b).toNat with q | q
 ·exact q
 ·exfalso
  have k1:=As h1
  have k2:=As h2
  rw [List.getElem?_eq_getElem k1] at h1
  rw [List.getElem?_eq_getElem k2] at h2
  have e1:=Option.some.inj h1
  have e2:=Option.some.inj h2
  rcases Nat.lt_or_ge (Eo l b).toNat (Eo l a).toNat with q' | q'
  ·have:=List.pairwise_iff_getElem.1 hs _ _ k2 k1 q'
   omega
  ·have e:(Eo l a).toNat=(Eo l b).toNat:=by omega
   simp only [e] at e1
   omega
def S6 (c:Clearing)(o:Opening):Nat:=(Eo c.Flights o.Flight).toNat * c.Slots.toNat+o.Slot.toNat
theorem Ym {c:Clearing}{o:Opening}(h:Vt c o):0≤o.Slot∧o.Slot<c.Slots:=by
 obtain⟨_,_,d,_,hV⟩:=h
 exact⟨hV.2.2.2.2.2.2.1,hV.2.2.2.2.2.2.2.1⟩
theorem Amf {c:Clearing}{o:Opening}(h:Vt c o):S6 c o<c.Flights.length * c.Slots.toNat:=by
 have h1:=Ym h
 have h2:=As (Qx (Iv.2 h.1))
 have h3:((Eo c.Flights o.Flight).toNat+1) * c.Slots.toNat≤c.Flights.length * c.Slots.toNat:=Nat.mul_le_mul_right _ h2
 rw [Nat.add_mul,Nat.one_mul] at h3
 unfold S6
 omega
theorem Ahg {c:Clearing}(hF:Formed c){a b:Opening}(ha:Vt c a)(hb:Vt c b)(h:Lj a b):S6 c a<S6 c b:=by
 have h1:=Ym ha
 have h2:=Ym hb
 unfold S6
 rcases h with h | ⟨h,h'⟩
 ·have h3:=Anr hF.lt ha.1 hb.1 h
  have h4:((Eo c.Flights a.Flight).toNat+1) * c.Slots.toNat≤(Eo c.Flights b.Flight).toNat * c.Slots.toNat:=Nat.mul_le_mul_right _ h3
  rw [Nat.add_mul,Nat.one_mul] at h4
  omega
 ·rw [h]; omega
theorem Asd {c:Clearing}{a b:Opening}(ha:Vt c a)(hb:Vt c b)(h:S6 c a=S6 c b):a.Flight=b.Flight∧a.Slot=b.Slot:=by
 have h1:=Ym ha
 have h2:=Ym hb
 have hS:0<c.Slots.toNat:=by omega
 unfold S6 at h
 have e1:(Eo c.Flights a.Flight).toNat=(Eo c.Flights b.Flight).toNat:=by
  have q1:((Eo c.Flights a.Flight).toNat * c.Slots.toNat+a.Slot.toNat) / c.Slots.toNat=((Eo c.Flights b.Flight).toNat * c.Slots.toNat+b.Slot.toNat) / c.Slots.toNat:=by rw [h]
  rw [Nat.mul_comm,Nat.mul_add_div hS,Nat.mul_comm,Nat.mul_add_div hS,Nat.div_eq_of_lt (by omega),Nat.div_eq_of_lt (by omega)] at q1
  omega
 have f1:=Qx (Iv.2 ha.1)
 have f2:=Qx (Iv.2 hb.1)
 rw [e1] at f1 h
 rw [f1] at f2
 exact⟨Option.some.inj f2,by omega⟩
theorem Api {c:Clearing}(hF:Formed c)(hO:Qr c)(hf:Z1 c)(k:Nat)(h:k<c.Openings.length):S6 c c.Openings[k]=k:=by
 have:=As7 (f:=fun i=>if h:i<c.Openings.length then S6 c c.Openings[i] else i) (N:=c.Openings.length) (fun i j hij hj=>by
  rw [dif_pos (by omega),dif_pos hj]
  exact Ahg hF (hO.2 _ (List.getElem_mem _)) (hO.2 _ (List.getElem_mem _)) (List.pairwise_iff_getElem.1 hO.1 i j (by omega) hj hij)) (fun i hi=>by
  rw [dif_pos hi,hf]
  exact Amf (hO.2 _ (List.getElem_mem _))) k h
 rwa [dif_pos h] at this
end Go.Am
namespace Go.Am
open Go
set_option linter.unusedVariables false
set_option linter.unusedSimpArgs false
def zC:Clearing:={ No:=0,Phase:=0,Slots:=0,Owners:=[],Flights:=[],Commitments:=[],Openings:=[],Outcome:=[] }
def Zv (c:Clearing)(i:Nat)(d:Vector Int 32):Clearing:={ c with Phase:=if zD ∈ c.Commitments.set i d then c.Phase else 2,Commitments:=c.Commitments.set i d }
def Atf (c:Clearing)(a:Int)(d:Vector Int 32)(x:Clearing×Int):Prop:=
 (x=(zC,400)∧(¬ ValidC c∨a ∉ Ex c.Owners∨d=zD ∨ ∃ e,c.Commitments[(Eo (Ex c.Owners) a).toNat]? = some e∧e≠d∧e≠zD)) ∨
 (x.2=0∧ValidC c∧a ∈ Ex c.Owners∧d≠zD∧((c.Commitments[(Eo (Ex c.Owners) a).toNat]? = some d∧x.1=c)∨(c.Commitments[(Eo (Ex c.Owners) a).toNat]? = some zD∧x.1=Zv c (Eo (Ex c.Owners) a).toNat d)))
theorem An0 (c:Clearing)(a:Int)(d:Vector Int 32)(hs:Sm c):Ak (J7 c a d) (Atf c a d):=by
 unfold J7
 refine(Xm c hs).bind fun e he=>?_
 rcases he with⟨rfl,hV⟩ | ⟨rfl,hV⟩
 case inr=>
  rw [if_pos (by decide)]
  exact Ak.ok (.inl ⟨rfl,.inl hV⟩)
 rw [if_neg (by decide)]
 have hF:=hV.formed
 have hfl:=hF.fl; have hsl:=hF.slots; have how:=hF.ow; have hcm:=hF.com
 refine(V2 c.Owners (by omega)).bind fun r hr=>?_
 rw [hr.1,M5,R.ok_bind,Ait]
 by_cases ha:a ∈ Ex c.Owners
 case neg=>
  have:=mt Iv.1 ha
  rw [if_pos (by simp only [Bool.or_eq_true,decide_eq_true_eq]; left; omega)]
  exact Ak.ok (.inl ⟨rfl,.inr (.inl ha)⟩)
 have hi:=Iv.2 ha
 have hil:=Agm (l:=Ex c.Owners) (v:=a)
 by_cases hd:d=zD
 ·rw [if_pos (by simp [hd])]
  exact Ak.ok (.inl ⟨rfl,.inr (.inr (.inl hd))⟩)
 rw [if_neg (by simp only [Bool.or_eq_true,decide_eq_true_eq,beq_iff_eq,not_or]; exact⟨by omega,hd⟩)]
 refine(Ak.idx (P:=fun e=>c.Commitments[(Eo (Ex c.Owners) a).toNat]? = some e) hi (by omega) fun e h=>h).bind fun e he=>?_
 by_cases hed:e=d
 ·rw [if_pos (by simpa using hed)]
  subst hed
  exact Ak.ok (.inr ⟨rfl,hV,ha,hd,.inl ⟨he,rfl⟩⟩)
 rw [if_neg (by simpa using hed)]
 by_cases hez:e=zD
 case neg=>
  rw [if_neg (by simpa using hez)]
  exact Ak.ok (.inl ⟨rfl,.inr (.inr (.inr ⟨e,he,hed,hez⟩))⟩)
 rw [if_pos (by simpa using hez)]
 subst hez
 have hal:=Aae c.Owners
 unfold M8
 rw [if_pos (by unfold Bs; omega),R.ok_bind]
 refine(P9 hi (by omega)).bind fun a1=>?_
 rw [M7,R.ok_bind]
 by_cases hz:zD ∈ c.Commitments.set (Eo (Ex c.Owners) a).toNat d
 ·rw [if_neg (by simp [hz])]
  refine Ak.ok (.inr ⟨rfl,hV,ha,hd,.inr ⟨he,?_⟩⟩)
  unfold Zv
  rw [if_pos hz]
 ·rw [if_pos (by simp [hz])]
  refine Ak.ok (.inr ⟨rfl,hV,ha,hd,.inr ⟨he,?_⟩⟩)
  unfold Zv
  rw [if_neg hz]
theorem Sm.put {c:Clearing}{i:Nat}{d:Vector Int 32}(h:Sm c):Sm (Zv c i d):=⟨h.op,h.path,h.out⟩
theorem Formed.same {c x:Clearing}(h:Formed c)(e1:x.No=c.No)(e2:x.Slots=c.Slots)(e3:x.Flights=c.Flights)(e4:x.Owners=c.Owners)(e5:x.Commitments.length=c.Commitments.length):Formed x:=
 ⟨by rw [e1]; exact h.no,by rw [e2]; exact h.slots,by rw [e2,e3]; exact h.fl,by rw [e3,e4]; exact h.ow,by rw [e3]; exact h.lt,by rw [e3]; exact h.rng,by rw [e4]; exact h.own,by rw [e4,e5]; exact h.com⟩
theorem Apx {c:Clearing}{i:Nat}{d:Vector Int 32}(hV:ValidC c)(hz:c.Commitments[i]? = some zD):ValidC (Zv c i d):=by
 have hmem:zD ∈ c.Commitments:=List.mem_of_getElem? hz
 have hF':Formed (Zv c i d):=hV.formed.same rfl rfl rfl rfl (by simp [Zv])
 rcases hV.phase with⟨h1,h2,h3,h4⟩ | ⟨_,h,_⟩ | ⟨_,h⟩
 ·refine⟨hF',?_⟩
  by_cases h:zD ∈ c.Commitments.set i d
  ·refine .inl ⟨?_,h,h3,h4⟩
   show(if zD ∈ c.Commitments.set i d then c.Phase else 2)=1
   rw [if_pos h,h1]
  ·refine .inr (.inl ⟨?_,h,?_,h4⟩)
   ·show(if zD ∈ c.Commitments.set i d then c.Phase else 2)=2
    rw [if_neg h]
   ·refine⟨?_,?_⟩
    ·show c.Openings.Pairwise Lj
     rw [h3]; exact .nil
    ·show ∀ o ∈ c.Openings,_
     rw [h3]; intro o ho; simp at ho
 ·exact absurd hmem h
 ·exact absurd hmem h.com
def Aad (l:List Opening)(n:Nat)(o:Opening):List Opening:=l.take n++[o]++l.drop n
def Avv (c:Clearing)(o:Opening)(x:Clearing×Int):Prop:=
 (x.1=zC∧x.2≠0∧(¬ ValidC c∨c.Phase=1∨¬ Vt c o ∨ ∃ y ∈ c.Openings,y.Flight=o.Flight∧y.Slot=o.Slot∧y≠o)) ∨
 (x.2=0∧ValidC c∧c.Phase≠1∧Vt c o∧((o ∈ c.Openings∧x.1=c) ∨ ∃ n,n≤c.Openings.length∧(∀ y ∈ c.Openings.take n,Lj y o)∧(∀ y ∈ c.Openings.drop n,Lj o y)∧x.1={ c with Openings:=Aad c.Openings n o }))
theorem Tq {c:Clearing}(hV:ValidC c)(hp:c.Phase≠1):Qr c:=by
 rcases hV.phase with⟨h,_⟩ | ⟨_,_,h,_⟩ | ⟨_,h⟩
 ·exact absurd h hp
 ·exact h
 ·exact h.opn
theorem Aos (a b:Opening)(h:¬ Lj a b)(h':¬ (a.Flight=b.Flight∧a.Slot=b.Slot)):Lj b a:=by unfold Lj at *; omega
theorem Ar1 (c:Clearing)(o:Opening)(hs:Sm c)(hp:o.Path.length≤1000):Ak (Me c o) (Avv c o):=by
 unfold Me
 refine(Xm c hs).bind fun e he=>?_
 rcases he with⟨rfl,hV⟩ | ⟨rfl,hV⟩
 case inr=>
  rw [if_pos (by decide)]
  exact Ak.ok (.inl ⟨rfl,by decide,.inl hV⟩)
 rw [if_neg (by decide)]
 by_cases h1:c.Phase=1
 ·rw [if_pos (by simpa using h1)]
  exact Ak.ok (.inl ⟨rfl,by decide,.inr (.inl h1)⟩)
 rw [if_neg (by simpa using h1)]
 have hO:=Tq hV h1
 refine(Ade c o hV.formed hp).bind fun e he=>?_
 rcases he with⟨rfl,hA⟩ | ⟨he,hA⟩
 case inr=>
  have h0:e≠0:=by omega
  rw [if_pos (by simpa using h0)]
  exact Ak.ok (.inl ⟨rfl,h0,.inr (.inr (.inl hA))⟩)
 rw [if_neg (by decide)]
 have hlen:=hs.op
 refine Ak.bind (P:=fun r:Int×Bool×List Opening => ∃ n:Nat,r.1=(n:Int)∧n≤c.Openings.length∧(∀ k y,c.Openings[k]? = some y→k<n→Lj y o)∧(∀ k y,c.Openings[k]? = some y→n≤k→¬ Lj y o) ∧
   ((r.2.1=true∧r.2.2=c.Openings ∧ ∃ y,c.Openings[n]? = some y∧y.Flight=o.Flight∧y.Slot=o.Slot)∨(r.2.1=false∧r.2.2=Aad c.Openings n o∧¬ ∃ y,c.Openings[n]? = some y∧y.Flight=o.Flight∧y.Slot=o.Slot))) ?_ fun r hr=>?_
 ·unfold G4
  refine(Anw c.Openings o (by omega) hO.1).bind fun x hx=>?_
  obtain⟨n,x1,n1,n2,n3,n4⟩:=hx
  refine Ak.ite (fun q=>Ak.ok ⟨n,x1,n1,n2,n3,.inl ⟨rfl,rfl,n4.1 q⟩⟩) fun q=>?_
  unfold Ma
  rw [if_pos (by unfold Bs; omega),R.ok_bind]
  unfold Po Q3
  rw [x1,if_pos ⟨by omega,by omega,by simp,by simp only [List.length_singleton,Bs]; omega⟩,R.ok_bind,Int.toNat_natCast]
  refine Ak.ok ⟨n,x1,n1,n2,n3,.inr ⟨rfl,rfl,fun h=>q (n4.2 h)⟩⟩
 obtain⟨n,r1,n1,n2,n3,n4⟩:=hr
 rcases n4 with⟨b1,b2,y,hy,hk⟩ | ⟨b1,b2,hno⟩
 ·rw [b1,if_pos rfl,r1,H5 hy,R.ok_bind]
  refine(Arq y o).bind fun q hq=>?_
  unfold Mj
  by_cases hyo:y=o
  ·rw [hq.2 hyo,if_neg (by decide),b2]
   subst hyo
   exact Ak.ok (.inr ⟨rfl,hV,h1,hA,.inl ⟨List.mem_of_getElem? hy,rfl⟩⟩)
  ·have:q=false:=by
    cases q with
    | false=>rfl
    | true=>exact absurd (hq.1 rfl) hyo
   rw [this,if_pos (by decide)]
   exact Ak.ok (.inl ⟨rfl,by simp,.inr (.inr (.inr ⟨y,List.mem_of_getElem? hy,hk.1,hk.2,hyo⟩))⟩)
 ·rw [b1,if_neg (by decide)]
  unfold Mj
  rw [if_neg (by decide),b2]
  refine Ak.ok (.inr ⟨rfl,hV,h1,hA,.inr ⟨n,n1,fun y hy=>?_,fun y hy=>?_,rfl⟩⟩)
  ·obtain⟨k,hk,rfl⟩:=List.getElem_of_mem hy
   rw [List.length_take] at hk
   rw [List.getElem_take]
   exact n2 k _ (List.getElem?_eq_getElem (by omega)) (by omega)
  ·obtain⟨k,hk,rfl⟩:=List.getElem_of_mem hy
   rw [List.length_drop] at hk
   rw [List.getElem_drop]
   have hkl:n+k<c.Openings.length:=by omega
   have hget:=List.getElem?_eq_getElem hkl
   refine Aos _ _ (n3 (n+k) _ hget (by omega)) fun heq=>?_
   rcases Nat.eq_zero_or_pos k with rfl | hkp
   ·exact hno ⟨_,hget,heq⟩
   ·have hnl:n<c.Openings.length:=by omega
    have hlt:=List.pairwise_iff_getElem.1 hO.1 n (n+k) hnl hkl (by omega)
    have hge:=n3 n _ (List.getElem?_eq_getElem hnl) (Nat.le_refl _)
    refine hge ?_
    unfold Lj at hlt ⊢
    omega
theorem Zo {l:List Opening}{n:Nat}{o y:Opening}:y ∈ Aad l n o↔y=o∨y ∈ l:=by
 simp only [Aad,List.mem_append,List.mem_singleton]
 constructor
 ·rintro((h | h) | h)
  ·exact .inr (List.mem_of_mem_take h)
  ·exact .inl h
  ·exact .inr (List.mem_of_mem_drop h)
 ·rintro(h | h)
  ·exact .inl (.inr h)
  ·rw [← List.take_append_drop n l,List.mem_append] at h
   rcases h with h | h
   ·exact .inl (.inl h)
   ·exact .inr h
theorem Am3 {c:Clearing}{n:Nat}{o:Opening}(hO:Qr c)(hA:Vt c o)(h1 : ∀ y ∈ c.Openings.take n,Lj y o)(h2 : ∀ y ∈ c.Openings.drop n,Lj o y):Qr { c with Openings:=Aad c.Openings n o }:=by
 refine⟨?_,fun y hy=>?_⟩
 ·show(Aad c.Openings n o).Pairwise Lj
  unfold Aad
  rw [List.append_assoc,List.pairwise_append]
  refine⟨hO.1.sublist (List.take_sublist _ _),?_,fun a ha b hb=>?_⟩
  ·rw [List.singleton_append,List.pairwise_cons]
   exact⟨h2,hO.1.sublist (List.drop_sublist _ _)⟩
  ·rw [List.singleton_append,List.mem_cons] at hb
   rcases hb with rfl | hb
   ·exact h1 a ha
   ·exact(h1 a ha).trans (h2 b hb)
 ·show Vt c y
  rcases Zo.1 hy with rfl | hy
  ·exact hA
  ·exact hO.2 y hy
theorem Ahl (c:Clearing)(hs:Sm c):Ak (Lc c) fun x=>(x=(Vu c,0)∧ValidC c∧Z1 c)∨(x.2=401∧ValidC c∧¬ Z1 c)∨(x.2=400∧¬ ValidC c):=by
 unfold Lc
 refine(Xm c hs).bind fun e he=>?_
 rcases he with⟨rfl,hV⟩ | ⟨rfl,hV⟩
 case inr=>rw [if_pos (by decide)]; exact Ak.ok (.inr (.inr ⟨rfl,hV⟩))
 have hfl:=hV.formed.fl; have hsl:=hV.formed.slots
 rw [if_neg (by decide),Adl c hsl (by omega),R.ok_bind]
 by_cases hf:c.Openings.length=c.Flights.length * c.Slots.toNat
 ·rw [if_pos hf,if_pos rfl]; exact Ak.ok (.inl ⟨rfl,hV,hf⟩)
 ·rw [if_neg hf,if_neg (by decide)]; exact Ak.ok (.inr (.inl ⟨rfl,hV,hf⟩))
def Au8 (c:Clearing)(x:Clearing×Int):Prop:=
 (x.2=400∧¬ ValidC c)∨(x.2=401∧ValidC c∧¬ Z1 c) ∨
 (x.2=0∧ValidC c∧Z1 c∧((c.Phase≠2∧x.1=c)∨(c.Phase=2 ∧ ∃ y,Jm (Vu c)=.ok y∧Anc (Vu c) y∧x.1={ c with Phase:=y.2,Outcome:=y.1 })))
theorem Ao4 (c:Clearing)(hs:Sm c):Ak (Lf c) (Au8 c):=by
 unfold Lf
 refine(Ahl c hs).bind fun x hx=>?_
 rcases hx with⟨rfl,hV,hf⟩ | ⟨h,hV,hf⟩ | ⟨h,hV⟩
 ·rw [if_neg (by simp)]
  by_cases h2:c.Phase=2
  ·rw [if_pos (by simpa using h2)]
   obtain⟨y,e,hy⟩:=Aha (Vu c) (show c.Owners.length≤100000 by have:=hV.formed.ow; have:=hV.formed.fl; have:=hV.formed.slots; omega)
   rw [e,R.ok_bind]
   exact Ak.ok (.inr (.inr ⟨rfl,hV,hf,.inr ⟨h2,y,e,hy,rfl⟩⟩))
  ·rw [if_neg (by simpa using h2)]
   exact Ak.ok (.inr (.inr ⟨rfl,hV,hf,.inl ⟨h2,rfl⟩⟩))
 ·rw [if_pos (by rw [h]; decide)]
  exact Ak.ok (.inr (.inl ⟨h,hV,hf⟩))
 ·rw [if_pos (by rw [h]; decide)]
  exact Ak.ok (.inl ⟨h,hV⟩)
theorem Aky {c:Clearing}{y:List Int×Int}(hV:ValidC c)(hf:Z1 c)(h2:c.Phase=2)(e:Jm (Vu c)=.ok y)(hy:Anc (Vu c) y):ValidC { c with Phase:=y.2,Outcome:=y.1 }:=by
 have hF':Formed { c with Phase:=y.2,Outcome:=y.1 }:=hV.formed.same rfl rfl rfl rfl rfl
 rcases hV.phase with⟨h,_⟩ | ⟨k1,k2,k3,k4⟩ | ⟨h,_⟩
 ·omega
 ·refine⟨hF',.inr (.inr ⟨?_,k2,k3,hf,e⟩)⟩
  rcases hy with⟨h,_⟩ | ⟨h,_⟩
  ·exact .inl h
  ·exact .inr h
 ·omega
theorem Ajy (a b:List Int):Ak (Gj a b) fun r=>(r=true↔a=b):=by
 unfold Gj
 refine Ak.ite (fun q=>Ak.ok ⟨fun e=>absurd e (by decide),fun e=>by subst e; simp at q⟩) fun q=>?_
 refine Ags a b (by have this:¬ ((a.length:Int)≠(b.length:Int)):=(by simpa using q); omega) fun j x y hj=>?_
 unfold Lx
 rw [H5 hj,R.ok_bind]
 by_cases h:x=y
 ·rw [if_neg (by simpa using h),if_pos h]
 ·rw [if_pos (by simpa using h),if_neg h]
theorem Xs {α:Type}{b:Nat→α→Unit→R (Unit ⊕ Bool)}(l:List α)(hb : ∀ (j:Nat) a,l[j]? = some a→b j a ()=.ok (.inl ())):each b 0 l ()=.ok (.inl ()):=by
 have:=Ais (b:=b) l 0 (fun j a h=>by rw [Nat.zero_add]; exact hb j a h)
 exact this
end Go.Am
namespace Go.Am
open Go
set_option linter.unusedVariables false
set_option linter.unusedSimpArgs false
theorem Wx {α β:Type}{l:List α}{n:Int}{f:α→R β}{Q:β→Prop}(h0:0≤n)(h1:n<(l.length:Int))(k : ∀ a,l[n.toNat]? = some a→Ak (f a) Q):Ak ((idx l n).bind f) Q:=(Ak.idx (P:=fun a=>l[n.toNat]? = some a) h0 h1 fun _ h=>h).bind k
theorem Ahh {l:List Int}{v:Int}(hs:l.Pairwise (· < ·)){i:Nat}(hi:l[i]? = some v):Eo l v=(i:Int):=by
 have hm:v ∈ l:=List.mem_of_getElem? hi
 have h0:=Iv.2 hm
 have hg:=Qx h0
 have h1:=(List.getElem?_eq_some_iff.1 hi)
 have h2:=(List.getElem?_eq_some_iff.1 hg)
 obtain⟨q1,e1⟩:=h1
 obtain⟨q2,e2⟩:=h2
 rcases Nat.lt_trichotomy i (Eo l v).toNat with h | h | h
 ·have:=List.pairwise_iff_getElem.1 hs i _ q1 q2 h; omega
 ·omega
 ·have:=List.pairwise_iff_getElem.1 hs _ i q2 q1 h; omega
end Go.Am
namespace Go.Am
open Go
set_option linter.unusedVariables false
set_option linter.unusedSimpArgs false
abbrev Dg:=Vector Int 32
noncomputable def N1:Nat→List Dg→Dg
 | 0,l=>Zu (l.headD zD)
 | f+1,l=>if(l.length:Int) > 1 then Af0 (N1 f (l.take (Dt l.length).toNat)) (N1 f (l.drop (Dt l.length).toNat)) else Zu (l.headD zD)
noncomputable def L5 (l:List Dg):Dg:=N1 8 l
theorem Uh (l:List Dg)(h1:(l.length:Int) > 1)(h2:l.length≤8) : ∃ n:Nat,Dt l.length=(n:Int)∧1≤n∧n<l.length:=by
 have:=Abe l.length (by omega) (by omega)
 exact⟨(Dt l.length).toNat,by omega,by omega,by omega⟩
theorem Akf : ∀ (f:Nat) (l:List Dg) (q:Nat),1≤l.length→l.length≤8→l.length≤f+1→f<q→Ns q l=.ok (N1 f l)
 | f,l,0,h1,h2,h3,h4=>absurd h4 (Nat.not_lt_zero _)
 | f,l,q+1,h1,h2,h3,h4=>by
  rw [Ns]
  unfold R3
  rw [if_neg (by simp only [beq_iff_eq]; omega)]
  by_cases hl:(l.length:Int) > 1
  case neg=>
   have h0:l.length=1:=by omega
   obtain⟨a,rfl⟩:=List.length_eq_one_iff.1 h0
   rw [if_pos (by simp)]
   have:N1 f [a]=Zu a:=by
    cases f with
    | zero=>rfl
    | succ f=>unfold N1; rw [if_neg (by simp)]; rfl
   rw [this]
   show(R.bind (idx [a] 0) _)=_
   rw [show idx [a] 0=.ok a from rfl,R.ok_bind,Amk]
   rfl
  obtain⟨n,hn,n1,n2⟩:=Uh l hl h2
  rw [if_neg (by simp only [beq_iff_eq]; omega),Agb _ (by omega) (by omega),R.ok_bind,hn,if_pos (by omega),if_pos (by omega),Int.toNat_natCast]
  cases f with
  | zero=>omega
  | succ f=>
   rw [Akf f (l.take n) q (by rw [List.length_take]; omega) (by rw [List.length_take]; omega) (by rw [List.length_take]; omega) (by omega),R.ok_bind,
    Akf f (l.drop n) q (by rw [List.length_drop]; omega) (by rw [List.length_drop]; omega) (by rw [List.length_drop]; omega) (by omega),R.ok_bind,Al0,R.ok_bind]
   rw [N1,if_pos hl,hn,Int.toNat_natCast]
theorem Acg (l:List Dg)(h1:1≤l.length)(h2:l.length≤8):P7 l=.ok (L5 l):=Akf 8 l Sa h1 h2 (by omega) (by rw [Acv]; omega)
noncomputable def Qz:Nat→List Dg→Int→List Dg
 | 0,_,_=>[]
 | f+1,l,a=>if(l.length:Int) > 1 then(if a<Dt l.length then L5 (l.drop (Dt l.length).toNat)::Qz f (l.take (Dt l.length).toNat) a else L5 (l.take (Dt l.length).toNat)::Qz f (l.drop (Dt l.length).toNat) (a - Dt l.length)) else []
theorem Ad2 : ∀ (f:Nat) (l:List Dg) (a:Int),(Qz f l a).length≤f
 | 0,_,_=>Nat.le_refl _
 | f+1,l,a=>by
  unfold Qz
  split
  ·split
   ·have:=Ad2 f (l.take (Dt l.length).toNat) a; simp only [List.length_cons]; omega
   ·have:=Ad2 f (l.drop (Dt l.length).toNat) (a - Dt l.length); simp only [List.length_cons]; omega
  ·simp
theorem Vx : ∀ (f g:Nat) (l:List Dg),l.length≤8→l.length≤f+1→l.length≤g+1→N1 f l=N1 g l
 | 0,0,l,_,_,_=>rfl
 | 0,g+1,l,_,h,_=>by rw [N1,N1,if_neg (by omega)]
 | f+1,0,l,_,_,h=>by rw [N1,N1,if_neg (by omega)]
 | f+1,g+1,l,h0,h1,h2=>by
  rw [N1,N1]
  by_cases hl:(l.length:Int) > 1
  ·obtain⟨n,hn,n1,n2⟩:=Uh l hl h0
   rw [if_pos hl,if_pos hl,hn,Int.toNat_natCast,Vx f g (l.take n) (by rw [List.length_take]; omega) (by rw [List.length_take]; omega) (by rw [List.length_take]; omega),Vx f g (l.drop n) (by rw [List.length_drop]; omega) (by rw [List.length_drop]; omega) (by rw [List.length_drop]; omega)]
  ·rw [if_neg hl,if_neg hl]
theorem Am2 (l:List Dg)(hl:(l.length:Int) > 1)(h8:l.length≤8):L5 l=Af0 (L5 (l.take (Dt l.length).toNat)) (L5 (l.drop (Dt l.length).toNat)):=by
 obtain⟨n,hn,n1,n2⟩:=Uh l hl h8
 rw [L5,N1,if_pos hl,hn,Int.toNat_natCast,L5,L5,Vx 7 8 (l.take n) (by rw [List.length_take]; omega) (by rw [List.length_take]; omega) (by rw [List.length_take]; omega),Vx 7 8 (l.drop n) (by rw [List.length_drop]; omega) (by rw [List.length_drop]; omega) (by rw [List.length_drop]; omega)]
theorem Aoj (a:Dg):L5 [a]=Zu a:=by rw [L5,N1,if_neg (by simp)]; rfl
theorem Ad0 : ∀ (f:Nat) (l:List Dg) (a:Nat) (x:Dg),l.length≤8→l.length≤f+1→l[a]? = some x →
  (Qz f l a).length=(Co f a l.length).length∧((Qz f l a).zip (Co f a l.length)).foldr (fun q acc=>up1 acc q) (Zu x)=L5 l
 | f,l,a,x,h0,h1,hx=>by
  have ha:=As hx
  by_cases hl:(l.length:Int) > 1
  case neg=>
   have h01:l.length=1:=by omega
   obtain⟨b,rfl⟩:=List.length_eq_one_iff.1 h01
   have:a=0:=by simpa using ha
   subst this
   have:b=x:=by simpa using hx
   subst this
   rw [Aoj]
   cases f with
   | zero=>exact⟨rfl,rfl⟩
   | succ f=>
    rw [Qz,if_neg hl,Co,if_neg hl]
    exact⟨rfl,rfl⟩
  cases f with
  | zero=>omega
  | succ f=>
   obtain⟨n,hn,n1,n2⟩:=Uh l hl h0
   rw [Qz,if_pos hl,Co,if_pos hl,Am2 l hl h0,hn,Int.toNat_natCast]
   by_cases hq:a<n
   ·have hq':(a:Int)<(n:Int):=by omega
    have e:((n:Nat):Int)=((l.take n).length:Int):=by rw [List.length_take]; omega
    have ih:=Ad0 f (l.take n) a x (by rw [List.length_take]; omega) (by rw [List.length_take]; omega) (by rw [List.getElem?_take,if_pos hq]; exact hx)
    rw [← e] at ih
    rw [if_pos hq',if_pos hq',decide_eq_true hq']
    refine⟨by simp only [List.length_cons,ih.1],?_⟩
    rw [List.zip_cons_cons,List.foldr_cons,ih.2]
    rfl
   ·have hq':¬ (a:Int)<(n:Int):=by omega
    have e:((l.length:Nat):Int) - (n:Int)=((l.drop n).length:Int):=by rw [List.length_drop]; omega
    have e2:(a:Int) - (n:Int)=((a - n:Nat):Int):=by omega
    have ih:=Ad0 f (l.drop n) (a - n) x (by rw [List.length_drop]; omega) (by rw [List.length_drop]; omega) (by rw [List.getElem?_drop,show n+(a - n)=a by omega]; exact hx)
    rw [← e,← e2] at ih
    rw [if_neg hq',if_neg hq',decide_eq_false hq']
    refine⟨by simp only [List.length_cons,ih.1],?_⟩
    rw [List.zip_cons_cons,List.foldr_cons,ih.2]
    rfl
noncomputable def Uv (l:List Dg)(a:Int):List Dg:=(Qz 8 l a).reverse
theorem Al8 (l:List Dg)(a:Nat)(x:Dg)(h0:l.length≤8)(hx:l[a]? = some x):(Uv l a).length=(Co 8 a l.length).length∧Li x (Co 8 a l.length) (Uv l a)=L5 l:=by
 obtain⟨h1,h2⟩:=Ad0 8 l a x h0 (by omega) hx
 refine⟨by rw [Uv,List.length_reverse,h1],?_⟩
 rw [Li,Uv,show(Qz 8 l a).reverse.zip (Co 8 a l.length).reverse=((Qz 8 l a).zip (Co 8 a l.length)).reverse from(List.reverse_zipWith h1).symm,List.foldl_reverse]
 exact h2
theorem Arf (l:List Dg)(a:Int)(p:List Dg)(hl:¬ (l.length:Int) > 1):Gi l a p=.ok (.inr p):=by unfold Gi; rw [if_neg hl]
theorem Atg (l:List Dg)(a:Int)(p:List Dg)(n:Nat)(h1:0≤a)(h2:a<(l.length:Int))(h3:l.length≤8)(hl:(l.length:Int) > 1)(hn:Dt l.length=(n:Int))(n1:1≤n)(n2:n<l.length)(h5:p.length≤100) :
  Gi l a p=.ok (.inl (if a<(n:Int) then(l.take n,a,p++[L5 (l.drop n)]) else(l.drop n,a - n,p++[L5 (l.take n)]))):=by
 unfold Gi
 rw [if_pos hl,Agb _ (by omega) (by omega),R.ok_bind,hn,Int.toNat_natCast]
 by_cases hq:a<(n:Int)
 ·rw [if_pos hq,if_pos (by omega),if_pos (by omega),Acg _ (by rw [List.length_drop]; omega) (by rw [List.length_drop]; omega),R.ok_bind,if_pos (by simp only [List.length_singleton,Bs]; omega),if_pos hq]
 ·rw [if_neg hq,if_pos (by omega),if_pos (by omega),Acg _ (by rw [List.length_take]; omega) (by rw [List.length_take]; omega),R.ok_bind,if_pos (by simp only [List.length_singleton,Bs]; omega),if_neg hq,G1 (by omega) (by omega)]
theorem Aa4 : ∀ (f:Nat) (l:List Dg) (a:Int) (p:List Dg),0≤a→a<(l.length:Int)→l.length≤8→l.length≤f+1→p.length+f≤100 →
  loop (Nf fun l1 vat1 p=>Gi l1 vat1 p) (l,a,p)=.ok (p++Qz f l a)
 | f,l,a,p,h1,h2,h3,h4,h5=>by
  rw [Agc]
  show((Gi l a p).bind _)=_
  by_cases hl:(l.length:Int) > 1
  case neg=>
   rw [Arf l a p hl]
   cases f with
   | zero=>simp [R.bind,Qz]
   | succ f=>rw [Qz,if_neg hl]; simp [R.bind]
  cases f with
  | zero=>omega
  | succ f=>
   obtain⟨n,hn,n1,n2⟩:=Uh l hl h3
   rw [Atg l a p n h1 h2 h3 hl hn n1 n2 (by omega),R.ok_bind,Qz,if_pos hl,hn,Int.toNat_natCast]
   by_cases hq:a<(n:Int)
   ·rw [if_pos hq,if_pos hq]
    simp only
    rw [Aa4 f (l.take n) a _ h1 (by rw [List.length_take]; omega) (by rw [List.length_take]; omega) (by rw [List.length_take]; omega) (by simp only [List.length_append,List.length_singleton]; omega),List.append_assoc]
    rfl
   ·rw [if_neg hq,if_neg hq]
    simp only
    rw [Aa4 f (l.drop n) (a - n) _ (by omega) (by rw [List.length_drop]; omega) (by rw [List.length_drop]; omega) (by rw [List.length_drop]; omega) (by simp only [List.length_append,List.length_singleton]; omega),List.append_assoc]
    rfl
theorem Acy {σ ε:Type}{b:σ→R (σ ⊕ ε)}{s:σ}{x:ε}(n:Nat)(h:Gc b n s=.ok x):loop b s=.ok x:=by rw [Sp (n:=n) (by rw [h]; simp),h]
theorem Axh (p:List Dg)(h:p.length≤3):F6 p=.ok p.reverse:=by
 unfold F6
 match p,h with
 | [],_=>rw [Acy (x:=[]) 1 rfl]; rfl
 | [a],_=>rw [Acy (x:=[a]) 1 rfl]; rfl
 | [a,b],_=>rw [Acy (x:=[b,a]) 2 rfl]; rfl
 | [a,b,c],_=>rw [Acy (x:=[c,b,a]) 2 rfl]; rfl
 | _::_::_::_::_,h=>simp at h
theorem Aa0 : ∀ (f:Nat) (l:List Dg) (a:Int),l.length≤8→(Qz f l a).length≤(if l.length≤1 then 0 else if l.length≤2 then 1 else if l.length≤4 then 2 else 3)
 | 0,l,a,h=>Nat.zero_le _
 | f+1,l,a,h=>by
  unfold Qz
  by_cases hl:(l.length:Int) > 1
  case neg=>rw [if_neg hl]; exact Nat.zero_le _
  obtain⟨n,hn,n1,n2⟩:=Uh l hl h
  have hv:(n:Int)=if(l.length:Int)≤2 then 1 else if(l.length:Int)≤4 then 2 else 4:=by rw [← hn]; rfl
  rw [if_pos hl,hn,Int.toNat_natCast]
  have h1:=Aa0 f (l.take n) a (by rw [List.length_take]; omega)
  have h2:=Aa0 f (l.drop n) (a - n) (by rw [List.length_drop]; omega)
  rw [List.length_take] at h1
  rw [List.length_drop] at h2
  split <;> simp only [List.length_cons]
  ·split at h1 <;> (try split at h1) <;> (try split at h1) <;> split at hv <;> (try split at hv) <;> split <;> (try split) <;> (try split) <;> omega
  ·split at h2 <;> (try split at h2) <;> (try split at h2) <;> split at hv <;> (try split at hv) <;> split <;> (try split) <;> (try split) <;> omega
theorem Aln (l:List Dg)(a:Int)(h1:0≤a)(h2:a<(l.length:Int))(h3:l.length≤8):P4 l a=.ok (Uv l a,0):=by
 unfold P4
 rw [if_neg (by simp only [Bool.or_eq_true,decide_eq_true_eq]; omega),Aa4 8 l a [] h1 h2 h3 (by omega) (by decide),R.ok_bind,List.nil_append]
 unfold Oz
 have:=Aa0 8 l a h3
 rw [Axh _ (by split at this <;> (try split at this) <;> (try split at this) <;> omega)]
 rfl
theorem Xx (l:List Dg)(a:Int):(Uv l a).length≤8:=by rw [Uv,List.length_reverse]; exact Ad2 8 l a
theorem Aqp (a b:List Dg)(h:a.length+b.length≤1000):He [a,b]=.ok (a++b):=by
 unfold He
 have e1:eachS (fun _ a=>fun size=>F8 a size) 0 [a,b] 0=.ok ((a.length:Int)+(b.length:Int)):=by
  simp only [K8,N2,F8]
  rw [G1 (n:=0+(a.length:Int)) (by omega) (by omega),if_neg (by omega)]
  simp only [R.bind]
  rw [G1 (by omega) (by omega),if_neg (by omega)]
  simp
 rw [e1]
 simp only [R.bind]
 have e2:Gd ((a.length:Int)+(b.length:Int))=.ok []:=by
  unfold Gd
  rw [if_neg (by omega),G1 (by omega) (by omega)]
  by_cases h0:(a.length:Int)+(b.length:Int) - 0 > 0
  ·rw [if_pos h0,if_pos ⟨by omega,by unfold Bs; omega⟩,if_pos ⟨by decide,by omega⟩]; rfl
  ·rw [if_neg h0]
 rw [e2]
 simp only [R.bind,K8,N2,F7]
 rw [if_pos (by simp only [List.length_nil,Bs]; omega)]
 simp only [R.bind,List.nil_append]
 rw [if_pos (by unfold Bs; omega)]
end Go.Am
namespace Go.Am
open Go
set_option linter.unusedVariables false
set_option linter.unusedSimpArgs false
structure T1 (a S:Int)(t:Table):Prop where
 kn:Ae5 t.Airline t.Flight
 al:t.Airline=a
 len:(t.Costs.length:Int)=S
 cost : ∀ c ∈ t.Costs,-1≤c∧c≤1048576
structure TOk (a S:Int)(l:List Table):Prop where
 s:1≤S∧S≤8
 len:1≤l.length∧l.length≤8
 each : ∀ t ∈ l,T1 a S t
 lt:l.Pairwise fun x y=>x.Flight<y.Flight
theorem Apl {a S:Int}{t:Table}(h:T1 a S t)(hS:1≤S∧S≤8):Mq t=.ok 0:=by
 unfold Mq
 have hk:=h.kn
 have hl:=h.len
 rw [T2,R.ok_bind,decide_eq_true (by exact hk),if_neg (by simp only [Bool.not_true,Bool.false_or,Bool.or_eq_true,decide_eq_true_eq]; omega)]
 have e:Ge t.Costs=.ok false:=by
  unfold Ge Kb
  have:=Af4 (b:=fun j a=>fun _=>E9 j a) (p:=fun c => !decide (-1≤c∧c≤1048576)) (fun j c=>by
   unfold E9 M9
   rw [U1]
   rfl) t.Costs 0
  rw [this]
  have hn:t.Costs.findIdx? (fun c => !decide (-1≤c∧c≤1048576))=none:=by
   rw [List.findIdx?_eq_none_iff]
   intro c hc
   have:=h.cost c hc
   simp [this]
  rw [hn]
  rfl
 rw [e]
 rfl
theorem Ajl {a S:Int}{l:List Table}(h:TOk a S l):Kq l=.ok true:=by
 unfold Kq
 have hl:=h.len
 rw [if_neg (by simp only [Bool.or_eq_true,decide_eq_true_eq]; omega)]
 have h0:0<l.length:=by omega
 rw [Xs l (fun j t hj=>?_)]
 ·rfl
 have ht:=List.mem_of_getElem? hj
 have hjl:=As hj
 have t0:=h.each _ (List.getElem_mem h0)
 have tj:=h.each _ ht
 unfold Kn
 rw [Apl tj h.s,R.ok_bind,if_neg (by simp),show idx l 0=.ok l[0] from H5 (List.getElem?_eq_getElem h0),R.ok_bind,if_neg (by simp [tj.al,t0.al]),if_neg (by simp only [bne_iff_ne]; have:=tj.len; have:=t0.len; omega)]
 by_cases hj0:j=0
 ·subst hj0
  rw [if_neg (by simp)]
  rfl
 rw [if_pos (by simp; omega),G1 (by omega) (by omega),show(j:Int) - 1=((j - 1:Nat):Int) by omega,H5 (List.getElem?_eq_getElem (show j - 1<l.length by omega)),R.ok_bind]
 have hlt:=(List.pairwise_iff_getElem.1 h.lt) (j - 1) j (by omega) hjl (by omega)
 have e:l[j]=t:=by
  have:=List.getElem?_eq_getElem hjl
  rw [hj] at this
  exact(Option.some.inj this).symm
 rw [e] at hlt
 rw [decide_eq_false (by omega)]
 rfl
noncomputable def Mf (t:Table):List Dg:=t.Costs.mapIdx fun i c=>R0 t.Salt [t.Airline,t.Flight,(i:Int),c]
theorem P5 (t:Table):(Mf t).length=t.Costs.length:=by simp [Mf]
theorem Aht {α β:Type}{b:Nat→α→List β→R (List β)}{f:Nat→α→β}{c:Nat}(hb : ∀ j a s,b j a s=if(s.length+1) * c≤Bs then .ok (s++[f j a]) else .bad) :
  ∀ (l:List α) (k:Nat) (s:List β),(s.length+l.length) * c≤Bs→eachS b k l s=.ok (s++l.mapIdx fun i a=>f (k+i) a)
 | [],k,s,_=>by simp [N2]
 | a::l,k,s,h=>by
  have h1:(s.length+1) * c≤Bs:=Nat.le_trans (Nat.mul_le_mul_right _ (by simp)) h
  rw [K8,hb,if_pos h1,R.ok_bind,Aht hb l (k+1) (s++[f k a]) (by simpa [Nat.add_assoc,Nat.add_comm 1] using h)]
  simp [List.mapIdx_cons,Nat.add_assoc,Nat.add_comm 1]
theorem Ahr (t:Table)(h:t.Costs.length≤8):J5 t=.ok (Mf t):=by
 unfold J5 Ko Jx
 rw [R.ok_bind]
 have:=Aht (b:=fun j a=>fun s=>F5 t (fun a z_=>R.np ((fun l=>Jw a l) z_)) j a s) (f:=fun j a=>R0 t.Salt [t.Airline,t.Flight,(j:Int),a]) (c:=32) (fun j a s=>by
  unfold F5 Jw
  rw [Aji _ _ (by simp),R.ok_bind]
  simp only [List.length_singleton]
  split <;> rfl) t.Costs 0 [] (by simp only [List.length_nil,Bs]; omega)
 rw [this]
 simp only [R.ok_bind,List.nil_append,Nat.zero_add]
 rfl
noncomputable def Rh (l:List Table):List Dg:=l.map fun t=>L5 (Mf t)
theorem Afv {a S:Int}{l:List Table}(h:TOk a S l):G8 l=.ok (Rh l):=by
 unfold G8
 have hS:=h.s
 have key : ∀ (q:List Table) (k:Nat) (s:List Dg),(∀ t ∈ q,T1 a S t)→s.length+q.length≤100→eachS (fun _ a=>fun d=>Fv a d) k q s=.ok (s++Rh q):=by
  intro q
  induction q with
  | nil=>intro k s _ _; simp [N2,Rh]
  | cons t q ih=>
   intro k s hq hl
   have ht:=(hq t (List.mem_cons_self ..)).len
   simp only [List.length_cons] at hl
   rw [K8]
   unfold Fv
   rw [Ahr t (by omega),R.ok_bind,Acg _ (by rw [P5]; omega) (by rw [P5]; omega),R.ok_bind,if_pos (by simp only [List.length_singleton,Bs]; omega),R.ok_bind]
   have:=ih (k+1) (s++[L5 (Mf t)]) (fun x hx=>hq x (List.mem_cons_of_mem _ hx)) (by simp only [List.length_append,List.length_singleton]; omega)
   unfold Fv at this
   rw [this]
   simp [Rh]
 rw [key l 0 [] h.each (by have:=h.len; simp only [List.length_nil]; omega)]
 rfl
noncomputable def Jz (l:List Table):Dg:=L5 (Rh l)
theorem Sd (l:List Table):(Rh l).length=l.length:=by simp [Rh]
theorem Aho {a S:Int}{l:List Table}(h:TOk a S l):Hw l=.ok (Jz l,0):=by
 unfold Hw
 have hl:=h.len
 rw [Ajl h,R.ok_bind,if_pos rfl,Afv h,R.ok_bind,Acg _ (by rw [Sd]; omega) (by rw [Sd]; omega)]
 rfl
noncomputable def Qu (l:List Table)(t:Table)(i:Nat)(s:Nat):Opening:=
 { Airline:=t.Airline,Flight:=t.Flight,Slot:=s,Cost:=t.Costs.getD s 0,Salt:=t.Salt,Path:=Uv (Mf t) s++Uv (Rh l) i }
theorem At8 {a S:Int}{l:List Table}(h:TOk a S l){i s:Nat}{t:Table}(hi:l[i]? = some t)(hs:(s:Int)<S):Lr l (i:Int) (s:Int)=.ok (Qu l t i s,0):=by
 have hl:=h.len; have hil:=As hi; have hS:=h.s
 have h0:0<l.length:=by omega
 have t0:=h.each _ (List.getElem_mem h0)
 have tj:=h.each _ (List.mem_of_getElem? hi)
 have hc:=tj.len; have hc0:=t0.len
 unfold Lr
 rw [Ajl h,R.ok_bind,if_neg (by simp only [Bool.not_true,Bool.false_or,Bool.or_eq_true,decide_eq_true_eq]; omega),show idx l 0=.ok l[0] from H5 (List.getElem?_eq_getElem h0),R.ok_bind,R.ok_bind,decide_eq_false (by omega),if_neg (by simp),H5 hi,R.ok_bind,Ahr t (by omega),R.ok_bind,
  Aln _ _ (by omega) (by rw [P5]; omega) (by rw [P5]; omega),R.ok_bind,Afv h,R.ok_bind,Aln _ _ (by omega) (by rw [Sd]; omega) (by rw [Sd]; omega),R.ok_bind]
 have hsl:s<t.Costs.length:=by omega
 rw [H5 (List.getElem?_eq_getElem hsl),R.ok_bind]
 have l1:=Xx (Mf t) s; have l2:=Xx (Rh l) i
 simp only
 rw [Aqp _ _ (by omega),R.ok_bind]
 congr 2
 unfold Qu
 simp [List.getD,hsl]
theorem Ao1 (l:List Table)(t:Table)(i s:Nat):(Qu l t i s).Path.length≤16:=by
 have l1:=Xx (Mf t) s; have l2:=Xx (Rh l) i
 simp only [Qu,List.length_append]; omega
theorem Ap0 {a S:Int}{l:List Table}(h:TOk a S l){i s:Nat}{t:Table}(hi:l[i]? = some t)(hs:(s:Int)<S):V5 (Jz l) a (l.length:Int) S (Qu l t i s):=by
 have hl:=h.len; have hil:=As hi; have hS:=h.s
 have tj:=h.each _ (List.mem_of_getElem? hi)
 have hc:=tj.len
 have hsl:s<t.Costs.length:=by omega
 have hgd:t.Costs.getD s 0=t.Costs[s]:=by simp [List.getD,hsl]
 have hcost:=tj.cost _ (List.getElem_mem hsl)
 have hleaf:(Mf t)[s]? = some (R0 t.Salt [t.Airline,t.Flight,(s:Int),t.Costs.getD s 0]):=by
  rw [hgd]; simp [Mf,hsl]
 obtain⟨p1,p2⟩:=Al8 (Mf t) s _ (by rw [P5]; omega) hleaf
 have hdig:(Rh l)[i]? = some (L5 (Mf t)):=by simp [Rh,hi]
 obtain⟨q1,q2⟩:=Al8 (Rh l) i _ (by rw [Sd]; omega) hdig
 rw [P5,hc] at p1 p2
 rw [Sd] at q1 q2
 refine⟨by omega,by omega,by omega,by omega,tj.al,tj.kn,by show(0:Int)≤(s:Int); omega,by show(s:Int)<S; omega,by show -1≤t.Costs.getD s 0∧t.Costs.getD s 0≤1048576; rw [hgd]; exact hcost,(Uv (Mf t) s).length,?_,?_,(i:Int),by omega,by omega,?_,?_⟩
 ·simp [Qu]
 ·simp only [Qu,List.take_left']
  exact p1
 ·simp only [Qu,List.drop_left']
  exact q1
 ·simp only [Qu,List.take_left',List.drop_left']
  rw [p2,q2]
  rfl
end Go.Am
namespace Go.Am
open Go
set_option linter.unusedVariables false
set_option linter.unusedSimpArgs false
def Do (T:List Table)(a:Int):List Table:=T.filter fun t=>t.Airline==a
structure MIs (M:List (Int×List Table))(T:List Table):Prop where
 get : ∀ a,B3 M a=if Do T a=[] then none else some (Do T a)
 nd:(M.map (·.1)).Nodup
theorem MIs.getD {M:List (Int×List Table)}{T:List Table}(h:MIs M T)(a:Int):Option.getD (B3 M a) []=Do T a:=by
 rw [h.get]
 split
 ·rename_i e; rw [e]; rfl
 ·rfl
theorem Aj4 {K V:Type}[DecidableEq K] : ∀ {M:List (K×V)} {k:K} {v:V},(M.map (·.1)).Nodup→(k,v) ∈ M→B3 M k=some v
 | [],k,v,_,h=>by cases h
 | p::M,k,v,hn,h=>by
  rw [Sj]
  rw [List.map_cons,List.nodup_cons] at hn
  rcases List.mem_cons.1 h with rfl | h
  ·rw [if_pos rfl]
  ·rw [if_neg (fun e=>hn.1 (by rw [e]; exact List.mem_map.2 ⟨_,h,rfl⟩))]
   exact Aj4 hn.2 h
theorem MIs.mem {M:List (Int×List Table)}{T:List Table}(h:MIs M T){e:Int×List Table}(he:e ∈ M):e.2=Do T e.1∧Do T e.1≠[]:=by
 have h1:=Aj4 (k:=e.1) (v:=e.2) h.nd he
 rw [h.get] at h1
 split at h1
 ·cases h1
 ·exact⟨(Option.some.inj h1).symm,‹_›⟩
theorem Ag5 {K V:Type}[DecidableEq K] : ∀ (M:List (K×V)) (k:K) (v:V),(Hv M k v).map (·.1)=if k ∈ M.map (·.1) then M.map (·.1) else M.map (·.1)++[k]
 | [],k,v=>rfl
 | p::M,k,v=>by
  rw [Hv]
  by_cases h:p.1=k
  ·rw [if_pos (by simpa using h),if_pos (by simp [h])]
   simp [h]
  ·rw [if_neg (by simpa using h),List.map_cons,Ag5 M k v]
   have:(k ∈ (p::M).map (·.1))↔k ∈ M.map (·.1):=by
    rw [List.map_cons,List.mem_cons]
    exact⟨fun q=>q.resolve_left fun e=>h e.symm,.inr⟩
   by_cases h':k ∈ M.map (·.1)
   ·rw [if_pos h',if_pos (this.2 h')]; rfl
   ·rw [if_neg h',if_neg (fun q=>h' (this.1 q))]; rfl
theorem MIs.put {M:List (Int×List Table)}{T:List Table}(h:MIs M T)(t:Table):MIs (Hv M t.Airline (Option.getD (B3 M t.Airline) []++[t])) (T++[t]):=by
 refine⟨fun a=>?_,?_⟩
 ·rw [Ahw,h.getD]
  unfold Do
  rw [List.filter_append]
  by_cases e:t.Airline=a
  ·subst e
   rw [if_pos rfl]
   simp
  ·rw [if_neg e,h.get]
   have:[t].filter (fun t=>t.Airline==a)=[]:=by simp [e]
   rw [this,List.append_nil]
   rfl
 ·rw [Ag5]
  split
  ·exact h.nd
  ·rename_i hn
   exact List.nodup_append.2 ⟨h.nd,by simp,by intro x hx y hy; rw [List.mem_singleton.1 hy]; exact fun e=>hn (e ▸ hx)⟩
structure TabOk (S:Int)(i:Nat)(t:Table):Prop where
 fl:t.Flight=10+(i:Int)
 al:inA t.Airline
 len:(t.Costs.length:Int)=S
 cost : ∀ c ∈ t.Costs,-1≤c∧c≤1048576
def Abt (S:Int)(T:List Table):Prop := ∀ i t,T[i]? = some t→TabOk S i t
theorem Abt.snoc {S:Int}{T:List Table}{t:Table}(h:Abt S T)(ht:TabOk S T.length t):Abt S (T++[t]):=by
 intro i x hx
 rw [List.getElem?_append] at hx
 split at hx
 ·exact h i x hx
 ·have hi:=As hx
  have:i - T.length=0:=by simpa using hi
  rw [this] at hx
  have e:i=T.length:=by omega
  rw [e,← Option.some.inj hx]
  exact ht
abbrev DR:=(List Int)×(List Int)×Int×(List (Int×(List Table)))×Bool
structure Dealt (r:DR)(T:List Table):Prop where
 own:r.1=T.map (·.Airline)
 fls:r.2.1=T.map (·.Flight)
 s:1≤r.2.2.1∧r.2.2.1≤5
 m:MIs r.2.2.2.1 T
 len:1≤T.length∧T.length≤4∧(T.length:Int)≤r.2.2.1
 tabs:Abt r.2.2.1 T
def noR:DR:=([],[],0,[],false)
theorem Amp (p:T25)(S:Int)(j:Nat)(a2:List Int)(hS:1≤S∧S≤5)(hj:p.Costs[j]? = some a2) :
  Ak (loop (Nf fun slots1 x1 l=>Kp p S j slots1 x1 l) (S,0,[])) fun x=>(∃ l:List Int,x=.inl (S,l)∧(l.length:Int)=S ∧ ∀ c ∈ l,-1≤c∧c≤1048576)∨x=.inr noR:=by
 refine Ak.loop (I:=fun s:Int×Int×List Int=>s.1=S∧s.2.1=(s.2.2.length:Int)∧s.2.1≤S ∧ ∀ c ∈ s.2.2,-1≤c∧c≤1048576) (fun s=>(S - s.2.1).toNat) ?_ S.toNat (S,0,[]) (by simp) ⟨rfl,rfl,by simp only; omega,by simp⟩
 rintro⟨s1,x1,l⟩ ⟨h1,h2,h3,h4⟩
 simp only at h1 h2 h3 h4
 subst h1
 show Ak (Kp p s1 j s1 x1 l) _
 unfold Kp
 by_cases hx:x1<s1
 case neg=>
  rw [if_neg hx]
  exact Ak.ok (.inl ⟨l,rfl,by omega,h4⟩)
 rw [if_pos hx,H5 hj,R.ok_bind]
 have key : ∀ c:Int,Ak (Ml s1 x1 l c) fun x=>match x with | .inl s'=>(s'.1=s1∧s'.2.1=(s'.2.2.length:Int)∧s'.2.1≤s1 ∧ ∀ c ∈ s'.2.2,-1≤c∧c≤1048576)∧(s1 - s'.2.1).toNat<(s1 - ((s1,x1,l):Int×Int×List Int).2.1).toNat | .inr e=>(∃ l:List Int,e=.inl (s1,l)∧(l.length:Int)=s1 ∧ ∀ c ∈ l,-1≤c∧c≤1048576)∨e=.inr noR:=by
  intro c
  unfold Ml
  by_cases hc:c < -1∨c > 1048576
  ·rw [if_pos (by simp only [Bool.or_eq_true,decide_eq_true_eq]; exact hc)]
   exact Ak.ok (.inr rfl)
  rw [if_neg (by simp only [Bool.or_eq_true,decide_eq_true_eq]; exact hc),if_pos (by simp only [List.length_singleton,Bs]; omega),G1 (by omega) (by omega)]
  refine Ak.ok ⟨⟨rfl,?_,?_,?_⟩,?_⟩
  ·simp only [List.length_append,List.length_singleton]; omega
  ·simp only; omega
  ·intro y hy
   rcases List.mem_append.1 hy with hy | hy
   ·exact h4 y hy
   ·rw [List.mem_singleton.1 hy]; omega
  ·simp only; omega
 by_cases hq:x1<(a2.length:Int)
 ·rw [if_pos hq]
  exact Wx (by omega) hq fun c _=>(key c).mono fun x hx=>by cases x <;> exact hx
 ·rw [if_neg hq]
  exact(key 0).mono fun x hx=>by cases x <;> exact hx
theorem Ao8 (p:T25)(hp:Agk.good p)(hb:Agk.bulk p≤1048576):Ak (Og p) fun r=>r=noR∨(r.2.2.2.2=true ∧ ∃ T,Dealt r T):=by
 obtain⟨g1,g2,g3,g4,g5,_⟩:=hp
 have hs:0≤p.Slots∧p.Slots≤255:=by
  have:(Lit.int .u8 p.Slots).wf=true:=g2
  simp [Lit.wf] at this
  have e1:IntKind.u8.min=0:=rfl
  have e2:IntKind.u8.max=255:=rfl
  omega
 have ho : ∀ a ∈ p.Owners,0≤a∧a≤255:=fun a ha=>by
  have:(Lit.int .u8 a).wf=true:=g1 a ha
  simp [Lit.wf] at this
  have e1:IntKind.u8.min=0:=rfl
  have e2:IntKind.u8.max=255:=rfl
  omega
 have hS0:IntKind.wrap .i64 ((Int.tmod (IntKind.wrap .i64 p.Slots) 5)+1)=p.Slots % 5+1:=by
  rw [G1 (n:=p.Slots) (by omega) (by omega),Int.tmod_eq_emod_of_nonneg hs.1,G1 (by omega) (by omega)]
 unfold Og
 rw [hS0]
 by_cases h0:(p.Owners.length:Int)<1∨(p.Owners.length:Int) > 4∨(p.Owners.length:Int) > p.Slots % 5+1∨p.Costs.length≠p.Owners.length
 ·rw [if_pos (by simp only [Bool.or_eq_true,decide_eq_true_eq,bne_iff_ne]; omega)]
  exact Ak.ok (.inl rfl)
 rw [if_neg (by simp only [Bool.or_eq_true,decide_eq_true_eq,bne_iff_ne]; omega)]
 have hS:1≤p.Slots % 5+1∧p.Slots % 5+1≤5:=by omega
 generalize p.Slots % 5+1=S at h0 hS
 refine Ak.bind (P:=Ur (fun n (s:Int×(List (Int×List Table))×List Int×List Int) => ∃ T:List Table,T.length=n∧s=(S,s.2.1,T.map (·.Airline),T.map (·.Flight))∧MIs s.2.1 T∧Abt S T) (fun e=>e=noR) (0+p.Owners.length)) (Ak.each p.Owners 0 _ ⟨[],rfl,rfl,⟨fun a=>rfl,by simp⟩,fun i t h=>by simp at h⟩ ?_) ?_
 ·rintro j a ⟨s1,m,ow,fl⟩ hj ⟨T,hT,hs1,hm,ht⟩
  simp only [Nat.zero_add] at hT ⊢
  simp only [Prod.mk.injEq,true_and] at hs1
  obtain⟨rfl,rfl,rfl⟩:=hs1
  simp only at hm
  have ha:=ho a (List.mem_of_getElem? hj)
  have hjl:=As hj
  show Ak (Mh p j a s1 m _ _) _
  have hA:Int.tmod (IntKind.wrap .i64 a) 8=a % 8:=by rw [G1 (by omega) (by omega),Int.tmod_eq_emod_of_nonneg ha.1]
  have hF:IntKind.wrap .i64 (10+(j:Int))=10+(j:Int):=G1 (by omega) (by omega)
  unfold Mh
  rw [hA,hF,if_pos (by simp only [List.length_map,List.length_singleton,Bs]; omega),if_pos (by simp only [List.length_map,List.length_singleton,Bs]; omega)]
  have key : ∀ salt:Dg,Ak (Mo p s1 m (T.map (·.Airline)) (T.map (·.Flight)) j a salt) (Ur (fun n (s:Int×(List (Int×List Table))×List Int×List Int) => ∃ T:List Table,T.length=n∧s=(s1,s.2.1,T.map (·.Airline),T.map (·.Flight))∧MIs s.2.1 T∧Abt s1 T) (fun e=>e=noR) (j+1)):=by
   intro salt
   unfold Mo
   refine(Amp p s1 j p.Costs[j] hS (List.getElem?_eq_getElem (by omega))).bind fun x hx=>?_
   rcases hx with⟨l,rfl,hl,hc⟩ | rfl
   case inr=>exact Ak.ok rfl
   show Ak (Mi m _ _ j a salt s1 l) _
   unfold Mi
   rw [hA,hF]
   have hml:(Option.getD (B3 m (a % 8)) []).length≤T.length:=by rw [hm.getD]; exact List.length_filter_le _ _
   rw [if_pos (by simp only [List.length_singleton,Bs]; omega)]
   refine Ak.ok ⟨T++[{ Airline:=a % 8,Flight:=10+(j:Int),Costs:=l,Salt:=salt }],by simp [hT],by simp,hm.put { Airline:=a % 8,Flight:=10+(j:Int),Costs:=l,Salt:=salt },ht.snoc ⟨by rw [hT],⟨by simp only; omega,by simp only; omega⟩,hl,hc⟩⟩
  by_cases hq:(j:Int)<(p.Salts.length:Int)
  ·rw [if_pos hq]
   exact Wx (by omega) hq fun c _=>key c
  ·rw [if_neg hq]
   exact key _
 ·intro x hx
  cases x with
  | inr e=>exact Ak.ok (.inl hx)
  | inl s=>
   obtain⟨s1,m,ow,fl⟩:=s
   obtain⟨T,hT,hs1,hm,ht⟩:=hx
   simp only [Prod.mk.injEq,true_and] at hs1
   obtain⟨rfl,rfl,rfl⟩:=hs1
   exact Ak.ok (.inr ⟨rfl,T,rfl,rfl,hS,hm,⟨by omega,by omega,by simp only; omega⟩,ht⟩)
end Go.Am
namespace Go.Am
open Go
set_option linter.unusedVariables false
set_option linter.unusedSimpArgs false
theorem Agy {S:Int}{T:List Table}(h:Abt S T):T.Pairwise fun x y=>x.Flight<y.Flight:=by
 rw [List.pairwise_iff_getElem]
 intro i j hi hj hij
 have h1:=(h i _ (List.getElem?_eq_getElem hi)).fl
 have h2:=(h j _ (List.getElem?_eq_getElem hj)).fl
 omega
theorem Wm {T:List Table}{a:Int}{t:Table}:t ∈ Do T a↔t ∈ T∧t.Airline=a:=by
 unfold Do; simp
theorem Aql {T:List Table}{a:Int}:Do T a≠[]↔a ∈ T.map (·.Airline):=by
 constructor
 ·intro h
  obtain⟨t,ht⟩:=List.exists_mem_of_ne_nil _ h
  obtain⟨h1,h2⟩:=Wm.1 ht
  exact List.mem_map.2 ⟨t,h1,h2⟩
 ·intro h e
  obtain⟨t,h1,h2⟩:=List.mem_map.1 h
  have:=Wm.2 ⟨h1,h2⟩
  rw [e] at this
  cases this
theorem Aet {r:DR}{T:List Table}(h:Dealt r T){a:Int}(ha:Do T a≠[]):TOk a r.2.2.1 (Do T a):=by
 have hl:=h.len; have hs:=h.s
 have hle:(Do T a).length≤T.length:=List.length_filter_le _ _
 have hpos:0<(Do T a).length:=List.length_pos_iff.2 ha
 refine⟨by omega,by omega,fun t ht=>?_,?_⟩
 ·obtain⟨h1,h2⟩:=Wm.1 ht
  obtain⟨i,hi,rfl⟩:=List.mem_iff_getElem.1 h1
  have k:=h.tabs i _ (List.getElem?_eq_getElem hi)
  have k1:=k.fl; have k2:=k.al; have k3:=k.len
  unfold inA at k2
  exact⟨⟨k2.1,k2.2,by omega,by omega⟩,h2,k3,k.cost⟩
 ·exact(Agy h.tabs).sublist List.filter_sublist
theorem X2 {r:DR}{T:List Table}(h:Dealt r T) : ∀ L:List (Int×List Table),(∀ e ∈ L,e ∈ r.2.2.2.1) →
  Il (fun a=>fun _=>Jn a) L ()=.ok (if ∃ e ∈ L,Jz (Do T e.1)=zD then .inr true else .inl ())
 | [],_=>by simp [Il]
 | e::L,hL=>by
  obtain⟨h1,h2⟩:=h.m.mem (hL e (List.mem_cons_self ..))
  have ih:=X2 h L fun x hx=>hL x (List.mem_cons_of_mem _ hx)
  have hb:Jn e=.ok (if Jz (Do T e.1)=zD then .inr true else .inl ()):=by
   unfold Jn
   rw [h1,Aho (Aet h h2),R.ok_bind,Ait]
   by_cases hz:Jz (Do T e.1)=zD
   ·rw [if_pos (by simp [hz]),if_pos hz]
   ·rw [if_neg (by simp [hz]),if_neg hz]
  rw [Il,hb,R.ok_bind]
  by_cases hz:Jz (Do T e.1)=zD
  ·rw [if_pos hz,if_pos ⟨e,List.mem_cons_self ..,hz⟩]
  ·rw [if_neg hz]
   show Il _ L ()=_
   have:(∃ x ∈ e::L,Jz (Do T x.1)=zD) ↔ ∃ x ∈ L,Jz (Do T x.1)=zD:=by
    constructor
    ·rintro⟨x,hx,hz'⟩
     rcases List.mem_cons.1 hx with rfl | hx
     ·exact absurd hz' hz
     ·exact⟨x,hx,hz'⟩
    ·rintro⟨x,hx,hz'⟩; exact⟨x,List.mem_cons_of_mem _ hx,hz'⟩
   rw [ih]
   simp only [this]
theorem Anq {r:DR}{T:List Table}(h:Dealt r T):Ak (Qo r.2.2.2.1) fun b=>b=false → ∀ a,Do T a≠[]→Jz (Do T a)≠zD:=by
 unfold Qo
 have e1:=X2 h r.2.2.2.1 fun e he=>he
 rw [Aq6 (fun L hL=>by
  rw [X2 h L fun e he=>hL.mem_iff.1 he,e1]
  simp only [hL.mem_iff]),e1,R.ok_bind]
 split
 ·exact Ak.ok fun e=>by cases e
 ·rename_i hn
  refine Ak.ok fun _ a ha hz=>hn ?_
  have hg:=h.m.get a
  rw [if_neg ha] at hg
  unfold B3 at hg
  obtain⟨e,he,_⟩:=Option.map_eq_some_iff.1 hg
  refine⟨e,List.mem_of_find?_eq_some he,?_⟩
  have:e.1=a:=by simpa using List.find?_some he
  rw [this]
  exact hz
def Oq (S:Int)(T:List Table)(o:Opening):Prop := ∃ (k:Nat) (t:Table) (i s:Nat),T[k]? = some t∧(Do T t.Airline)[i]? = some t∧(s:Int)<S∧o=Qu (Do T t.Airline) t i s
theorem Ajr {S:Int}{T:List Table}(h:Abt S T){x y:Opening}(hx:Oq S T x)(hy:Oq S T y)(e1:x.Flight=y.Flight)(e2:x.Slot=y.Slot):x=y:=by
 obtain⟨k,t,i,s,h1,h2,h3,rfl⟩:=hx
 obtain⟨k',t',i',s',h1',h2',h3',rfl⟩:=hy
 have f1:=(h k t h1).fl; have f2:=(h k' t' h1').fl
 have e1':t.Flight=t'.Flight:=e1
 have e2':(s:Int)=(s':Int):=e2
 have hk:k=k':=by omega
 subst hk
 rw [h1] at h1'
 cases h1'
 have hs:s=s':=by omega
 subst hs
 have hn:(Do T t.Airline).Nodup:=by
  refine List.Pairwise.imp (R:=fun x y:Table=>x.Flight<y.Flight) (fun hlt he=>?_) ((Agy h).sublist List.filter_sublist)
  rw [he] at hlt
  omega
 have:i=i':=(List.getElem?_inj (As h2) hn).1 (h2.trans h2'.symm)
 rw [this]
end Go.Am
namespace Go.Am
open Go
set_option linter.unusedVariables false
set_option linter.unusedSimpArgs false
theorem Am5 {r:DR}{T:List Table}(h:Dealt r T)(r1:Clearing×Int){a:Nat}(ha:Do T (a:Int)≠[]){i:Nat}{t:Table}(hi:(Do T (a:Int))[i]? = some t)(x4:List Opening)(hx:x4.length≤1000) :
  Ak (loop (C8 fun x5 x6=>Jp r r1 a i x5 x6) (0,x4)) fun x=>x=.inl (x4++(List.range r.2.2.1.toNat).map fun s=>Qu (Do T (a:Int)) t i s):=by
 have hs:=h.s
 refine Ak.loop (I:=fun q:Int×List Opening => ∃ n:Nat,(n:Int)≤r.2.2.1∧q=((n:Int),x4++(List.range n).map fun s=>Qu (Do T (a:Int)) t i s)) (fun q=>(r.2.2.1 - q.1).toNat) ?_ r.2.2.1.toNat _ (by simp) ⟨0,by omega,by simp⟩
 rintro q ⟨n,hn,rfl⟩
 show Ak (Jp r r1 a i _ _) _
 unfold Jp
 by_cases hq:(n:Int)<r.2.2.1
 ·rw [if_pos hq,h.m.getD,At8 (Aet h ha) hi hq,R.ok_bind,if_neg (by simp),if_pos (by simp only [List.length_append,List.length_map,List.length_range,List.length_singleton,Bs]; omega),G1 (by omega) (by omega)]
  refine Ak.ok ⟨⟨n+1,by omega,?_⟩,?_⟩
  ·rw [List.range_succ,List.map_append,← List.append_assoc]; rfl
  ·simp only; omega
 ·rw [if_neg hq]
  have:n=r.2.2.1.toNat:=by omega
  rw [← this]
  exact Ak.ok rfl
structure Opns (r:DR)(T:List Table)(j:Nat)(x2:List Opening):Prop where
 is : ∀ o ∈ x2,Oq r.2.2.1 T o
 all : ∀ (k:Nat) (t:Table) (i s:Nat),T[k]? = some t→(Do T t.Airline)[i]? = some t→(s:Int)<r.2.2.1→t.Airline<(j:Int)→Qu (Do T t.Airline) t i s ∈ x2
 len:x2.length≤20 * j
theorem Ani {r:DR}{T:List Table}(h:Dealt r T)(r1:Clearing×Int){a:Nat}(ha:Do T (a:Int)≠[])(ha8:a<8)(x2:List Opening)(h2:Opns r T a x2) :
  Ak (each (fun j1 _=>fun x4=>Lp r r1 a j1 x4) 0 (Do T (a:Int)) x2) fun x => ∃ x4,x=.inl x4∧Opns r T (a+1) x4:=by
 have hs:=h.s; have hl:=h.len
 have hle:(Do T (a:Int)).length≤T.length:=List.length_filter_le _ _
 refine(Ak.each (I:=fun n (x4:List Opening)=>(∀ o ∈ x4,Oq r.2.2.1 T o)∧(∀ o ∈ x2,o ∈ x4)∧(∀ (i:Nat) (t:Table) (s:Nat),i<n→(Do T (a:Int))[i]? = some t→(s:Int)<r.2.2.1→Qu (Do T (a:Int)) t i s ∈ x4)∧x4.length≤20 * a+5 * n) (E:=fun _=>False) (Do T (a:Int)) 0 x2 ⟨h2.is,fun o ho=>ho,fun i t s hi=>absurd hi (Nat.not_lt_zero _),by have:=h2.len; omega⟩ ?_).mono ?_
 ·rintro i t x4 hi ⟨k1,k2,k3,k4⟩
  simp only [Nat.zero_add] at k3 k4 ⊢
  have hil:=As hi
  unfold Lp
  refine(Am5 h r1 ha hi x4 (by omega)).bind fun x hx=>?_
  subst hx
  obtain⟨m1,m2⟩:=Wm.1 (List.mem_of_getElem? hi)
  obtain⟨k,hk,hkt⟩:=List.mem_iff_getElem.1 m1
  refine Ak.ok ⟨?_,?_,?_,?_⟩
  ·intro o ho
   rcases List.mem_append.1 ho with ho | ho
   ·exact k1 o ho
   ·obtain⟨s,hs',rfl⟩:=List.mem_map.1 ho
    refine⟨k,t,i,s,by rw [List.getElem?_eq_getElem hk,hkt],by rw [m2]; exact hi,by have:=List.mem_range.1 hs'; omega,by rw [m2]⟩
  ·exact fun o ho=>List.mem_append_left _ (k2 o ho)
  ·intro i' t' s' hi' ht' hs'
   rcases Nat.lt_or_ge i' i with hlt | hge
   ·exact List.mem_append_left _ (k3 i' t' s' hlt ht' hs')
   ·have:i'=i:=by omega
    subst this
    rw [hi] at ht'
    cases ht'
    exact List.mem_append_right _ (List.mem_map.2 ⟨s',List.mem_range.2 (by omega),rfl⟩)
  ·simp only [List.length_append,List.length_map,List.length_range]; omega
 ·intro x hx
  cases x with
  | inr e=>exact hx.elim
  | inl x4=>
   obtain⟨k1,k2,k3,k4⟩:=hx
   refine⟨x4,rfl,k1,fun k t i s h1 h2' h3 h4=>?_,by omega⟩
   by_cases he:t.Airline=(a:Int)
   ·rw [he] at h2' ⊢
    exact k3 i t s (by have:=As h2'; omega) h2' h3
   ·exact k2 _ (h2.all k t i s h1 h2' h3 (by omega))
theorem Amt {r:DR}{T:List Table}(h:Dealt r T)(r1:Clearing×Int) :
  Ak (each (fun j _=>C8 fun x1 x2=>J0 r r1 j x1 x2) 0 (List.range 8) ([],[])) fun x => ∃ x2,x=.inl (Ex r.1,x2)∧Opns r T 8 x2:=by
 have hs:=h.s; have hl:=h.len
 refine(Ak.each (I:=fun n (q:List Int×List Opening)=>n≤8∧q.1=((List.range n).map fun n:Nat=>(n:Int)).filter (fun a=>decide (a ∈ r.1))∧Opns r T n q.2) (E:=fun _=>False) (List.range 8) 0 ([],[]) ⟨by omega,rfl,fun o ho=>by simp at ho,fun k t i s h1 h2 h3 h4=>by have:=(h.tabs k t h1).al; unfold inA at this; omega,by simp⟩ ?_).mono ?_
 ·rintro j b ⟨x1,x2⟩ hj ⟨h8,h1,h2⟩
  simp only [Nat.zero_add] at h8 h1 h2 ⊢
  have hj8:j<8:=by have:=As hj; simpa using this
  show Ak (J0 r r1 j x1 x2) _
  have hx1:x1.length≤8:=by
   rw [h1]
   have:=List.length_filter_le (fun a=>decide (a ∈ r.1)) ((List.range j).map fun n:Nat=>(n:Int))
   simp only [List.length_map,List.length_range] at this
   omega
  have hr:((List.range (j+1)).map fun n:Nat=>(n:Int)).filter (fun a=>decide (a ∈ r.1))=x1++(if(j:Int) ∈ r.1 then [(j:Int)] else []):=by
   rw [List.range_succ,List.map_append,List.filter_append,← h1]
   congr 1
   simp only [List.map_cons,List.map_nil,List.filter_cons,List.filter_nil,decide_eq_true_eq]
  unfold J0
  rw [h.m.getD]
  have hmem:Do T (j:Int)≠[]↔(j:Int) ∈ r.1:=by rw [h.own]; exact Aql
  by_cases he:Do T (j:Int)=[]
  ·rw [if_pos (by rw [he]; rfl)]
   refine Ak.ok ⟨by omega,?_,h2.is,fun k t i s q1 q2 q3 q4=>?_,by have:=h2.len; simp only; omega⟩
   ·rw [hr,if_neg (fun q=>hmem.2 q he),List.append_nil]
   ·by_cases he':t.Airline=(j:Int)
    ·rw [he',he] at q2
     simp at q2
    ·exact h2.all k t i s q1 q2 q3 (by omega)
  ·have hp:=List.length_pos_iff.2 he
   rw [if_neg (by simp only [beq_iff_eq]; omega),if_pos (by simp only [List.length_singleton,Bs]; omega)]
   refine(Ani h r1 he hj8 x2 h2).bind fun x hx=>?_
   obtain⟨x4,rfl,h4⟩:=hx
   refine Ak.ok ⟨by omega,?_,h4⟩
   rw [hr,if_pos (hmem.1 he)]
 ·intro x hx
  cases x with
  | inr e=>exact hx.elim
  | inl q=>
   obtain⟨x1,x2⟩:=q
   obtain⟨_,h1,h2⟩:=hx
   refine⟨x2,?_,h2⟩
   simp only [List.length_range,Nat.zero_add] at h1
   rw [show x1=Ex r.1 from h1]
def By8 (s:List Int):Prop := ∀ a ∈ s,0≤a∧a≤255
theorem Aj2 (n:Int)(s:List Int)(hn:0<n)(hs:By8 s):Ak (J4 n s) fun x=>0≤x.1∧x.1<n∧By8 x.2:=by
 unfold J4
 by_cases h0:s.length=0
 ·rw [if_pos (by simp [h0])]
  exact Ak.ok ⟨Int.le_refl _,hn,hs⟩
 rw [if_neg (by simp only [Bool.or_eq_true,beq_iff_eq]; omega)]
 refine Wx (by omega) (by omega) fun a ha=>?_
 have:=hs a (List.mem_of_getElem? ha)
 rw [if_pos (by omega),if_pos (by omega),G1 (by omega) (by omega),Int.tmod_eq_emod_of_nonneg this.1]
 exact Ak.ok ⟨Int.emod_nonneg _ (by omega),Int.emod_lt_of_pos _ hn,fun x hx=>hs x (List.mem_of_mem_drop hx)⟩
def c0V (r:DR):Clearing:={ No:=7,Phase:=1,Slots:=r.2.2.1,Owners:=r.1,Flights:=r.2.1,Commitments:=List.replicate (Ex r.1).length zD,Openings:=[],Outcome:=[] }
theorem Aoh {r:DR}{T:List Table}(h:Dealt r T):r.2.1.Pairwise (· < ·):=by
 rw [h.fls]
 exact List.pairwise_map.2 (Agy h.tabs)
theorem Aml {r:DR}{T:List Table}(h:Dealt r T)(c:Clearing)(e1:c.No=7)(e2:c.Slots=r.2.2.1)(e3:c.Owners=r.1)(e4:c.Flights=r.2.1)(e5:c.Commitments.length=(Ex r.1).length):Formed c:=by
 have hs:=h.s; have hl:=h.len
 have l1:r.1.length=T.length:=by rw [h.own]; simp
 have l2:r.2.1.length=T.length:=by rw [h.fls]; simp
 refine⟨by omega,by omega,by rw [e4]; omega,by rw [e3,e4]; omega,by rw [e4]; exact Aoh h,?_,?_,by rw [e3]; exact e5⟩
 ·rw [e4,h.fls]
  intro f hf
  obtain⟨t,ht,rfl⟩:=List.mem_map.1 hf
  obtain⟨k,hk,rfl⟩:=List.mem_iff_getElem.1 ht
  have:=(h.tabs k _ (List.getElem?_eq_getElem hk)).fl
  omega
 ·rw [e3,h.own]
  intro a ha
  obtain⟨t,ht,rfl⟩:=List.mem_map.1 ha
  obtain⟨k,hk,rfl⟩:=List.mem_iff_getElem.1 ht
  exact(h.tabs k _ (List.getElem?_eq_getElem hk)).al
theorem Ar2 {r:DR}{T:List Table}(h:Dealt r T):0<(Ex r.1).length:=by
 have hl:=h.len
 have h0:0<T.length:=by omega
 refine List.length_pos_iff.2 fun e=>?_
 have:T[0].Airline ∈ Ex r.1:=by
  refine W3.2 ⟨(h.tabs 0 _ (List.getElem?_eq_getElem h0)).al,?_⟩
  rw [h.own]
  exact List.mem_map.2 ⟨_,List.getElem_mem h0,rfl⟩
 rw [e] at this
 cases this
theorem Ap1 {r:DR}{T:List Table}(h:Dealt r T):ValidC (c0V r):=by
 have ha:=Ar2 h
 refine⟨Aml h _ rfl rfl rfl rfl (by simp [c0V]),.inl ⟨rfl,?_,rfl,rfl⟩⟩
 rw [c0V,List.mem_replicate]
 exact⟨by omega,rfl⟩
theorem Avm {r:DR}{T:List Table}(h:Dealt r T):Pk 7 r.2.2.1 r.1 r.2.1=.ok (c0V r,0):=by
 have hl:=h.len
 have l1:r.1.length=T.length:=by rw [h.own]; simp
 unfold Pk
 obtain⟨x,e,hx,_⟩:=V2 r.1 (by omega)
 have h8:=Aae r.1
 rw [e,R.ok_bind,hx,if_pos ⟨by omega,by omega,by simp only [Int.toNat_natCast,Bs]; omega⟩,Int.toNat_natCast]
 have:=Aej (c:=c0V r) ⟨by simp [c0V],by simp [c0V],by simp [c0V]⟩ (Ap1 h)
 unfold c0V zD at this
 rw [this]
 rfl
end Go.Am
namespace Go.Am
open Go
set_option linter.unusedVariables false
set_option linter.unusedSimpArgs false
theorem Al4 {α:Type}{l:List α}{n:Nat}{a:α}(h:l[n]? = some a){y:α}:y ∈ l↔y=a∨y ∈ l.take n++l.drop (n+1):=by
 obtain⟨hn,rfl⟩:=List.getElem?_eq_some_iff.1 h
 have e:l=l.take n++(l[n]::l.drop (n+1)):=by rw [List.getElem_cons_drop,List.take_append_drop]
 constructor
 ·intro hy
  rw [e] at hy
  rcases List.mem_append.1 hy with hy | hy
  ·exact .inr (List.mem_append_left _ hy)
  ·rcases List.mem_cons.1 hy with hy | hy
   ·exact .inl hy
   ·exact .inr (List.mem_append_right _ hy)
 ·rintro(rfl | hy)
  ·exact List.getElem_mem hn
  ·rcases List.mem_append.1 hy with hy | hy
   ·exact List.mem_of_mem_take hy
   ·exact List.mem_of_mem_drop hy
theorem Acw {α:Type}{l:List α}{n:Nat}(h:n<l.length):(l.take n++l.drop (n+1)).length+1=l.length:=by
 simp only [List.length_append,List.length_take,List.length_drop]; omega
structure Coms (r:DR)(T:List Table)(x8:List Int)(c:Clearing):Prop where
 no:c.No=7
 sl:c.Slots=r.2.2.1
 ow:c.Owners=r.1
 fl:c.Flights=r.2.1
 op:c.Openings=[]
 out:c.Outcome=[]
 v:ValidC c
 at_ : ∀ (k:Nat) (a:Int),(Ex r.1)[k]? = some a→c.Commitments[k]? = some (Jz (Do T a))∨(c.Commitments[k]? = some zD∧a ∈ x8)
 sub : ∀ a ∈ x8,a ∈ Ex r.1
 len:x8.length≤8
theorem Coms.sm {r:DR}{T:List Table}{x8:List Int}{c:Clearing}(h:Coms r T x8 c):Sm c:=⟨by rw [h.op]; simp,by rw [h.op]; intro o ho; simp at ho,by rw [h.out]; simp⟩
theorem Avx {r:DR}{T:List Table}(h:Dealt r T):Coms r T (Ex r.1) (c0V r):=by
 refine⟨rfl,rfl,rfl,rfl,rfl,rfl,Ap1 h,fun k a hk=>.inr ⟨?_,List.mem_of_getElem? hk⟩,fun a h=>h,Aae _⟩
 show(List.replicate (Ex r.1).length zD)[k]? = some zD
 rw [List.getElem?_replicate,if_pos (As hk)]
theorem Y6 {r:DR}{T:List Table}(h:Dealt r T){a:Int}(ha:a ∈ Ex r.1):Do T a≠[]:=by
 rw [Aql,← h.own]
 exact(W3.1 ha).2
noncomputable def c1V (r:DR)(T:List Table):Clearing:={ No:=7,Phase:=2,Slots:=r.2.2.1,Owners:=r.1,Flights:=r.2.1,Commitments:=(Ex r.1).map fun a=>Jz (Do T a),Openings:=[],Outcome:=[] }
theorem Coms.done {r:DR}{T:List Table}{c:Clearing}(hd:Dealt r T)(hz : ∀ a,Do T a≠[]→Jz (Do T a)≠zD)(h:Coms r T [] c):c=c1V r T:=by
 have hc:c.Commitments=(Ex r.1).map fun a=>Jz (Do T a):=by
  have hl:=h.v.formed.com
  rw [h.ow] at hl
  refine List.ext_getElem? fun k=>?_
  rcases Nat.lt_or_ge k (Ex r.1).length with hk | hk
  ·rcases h.at_ k _ (List.getElem?_eq_getElem hk) with e | ⟨_,e⟩
   ·rw [e,List.getElem?_map,List.getElem?_eq_getElem hk]; rfl
   ·cases e
  ·rw [List.getElem?_eq_none (by omega),List.getElem?_eq_none (by simpa using hk)]
 have hp:c.Phase=2:=by
  rcases h.v.phase with⟨_,hm,_⟩ | ⟨e,_⟩ | ⟨_,hf⟩
  ·rw [hc] at hm
   obtain⟨a,ha,he⟩:=List.mem_map.1 hm
   exact absurd he (hz a (Y6 hd ha))
  ·exact e
  ·have hfull:=hf.full
   unfold Z1 at hfull
   have hfl:=h.v.formed.fl; have hsl:=h.v.formed.slots
   have:0<c.Flights.length * c.Slots.toNat:=Nat.mul_pos (by omega) (by omega)
   rw [h.op] at hfull
   simp only [List.length_nil] at hfull
   omega
 obtain⟨a1,a2,a3,a4,a5,a6,a7,a8⟩:=c
 have e1:=h.no; have e3:=h.sl; have e4:=h.ow; have e5:=h.fl; have e7:=h.op; have e8:=h.out
 simp only at hc hp e1 e3 e4 e5 e7 e8
 subst hc hp e1 e3 e4 e5 e7 e8
 rfl
theorem Apa {r:DR}{T:List Table}(hd:Dealt r T)(hz : ∀ a,Do T a≠[]→Jz (Do T a)≠zD){x8:List Int}{c:Clearing}(h:Coms r T x8 c){n:Nat}{a:Int}(hn:x8[n]? = some a) :
  Ak (J7 c a (Jz (Do T a))) fun x=>x.2=0∧Coms r T (x8.take n++x8.drop (n+1)) x.1:=by
 have ham:=List.mem_of_getElem? hn
 have haa:=h.sub a ham
 have hne:=Y6 hd haa
 have hk:=Qx (Iv.2 haa)
 have hnl:=As hn
 refine(An0 c a _ h.sm).mono fun x hx=>?_
 have hcut:=fun y=>Al4 (y:=y) hn
 have hlen:=Acw hnl
 have hl8:=h.len
 rcases hx with⟨_,hx⟩ | ⟨h0,_,_,_,hx⟩
 ·exfalso
  rcases hx with hx | hx | hx | ⟨e,he,h1,h2⟩
  ·exact hx h.v
  ·rw [h.ow] at hx; exact hx haa
  ·exact hz a hne hx
  ·rw [h.ow] at he
   rcases h.at_ _ a hk with e' | ⟨e',_⟩
   ·rw [he] at e'; exact h1 (Option.some.inj e')
   ·rw [he] at e'; exact h2 (Option.some.inj e')
 ·refine⟨h0,?_⟩
  have hsub : ∀ b ∈ x8.take n++x8.drop (n+1),b ∈ Ex r.1:=fun b hb=>h.sub b ((hcut b).2 (.inr hb))
  have hother : ∀ (k:Nat) (b:Int),(Ex r.1)[k]? = some b→k≠(Eo (Ex r.1) a).toNat→c.Commitments[k]? = some (Jz (Do T b))∨(c.Commitments[k]? = some zD∧b ∈ x8.take n++x8.drop (n+1)):=by
   intro k b hb hkk
   refine(h.at_ k b hb).imp id fun⟨e,hm⟩=>⟨e,((hcut b).1 hm).resolve_left fun hba=>hkk ?_⟩
   subst hba
   rw [Ahh (Al6 r.1) hb,Int.toNat_natCast]
  rcases hx with⟨e,rfl'⟩ | ⟨e,rfl'⟩
  ·rw [rfl']
   rw [h.ow] at e
   refine⟨h.no,h.sl,h.ow,h.fl,h.op,h.out,h.v,fun k b hb=>?_,hsub,by omega⟩
   by_cases hkk:k=(Eo (Ex r.1) a).toNat
   ·subst hkk
    rw [hk] at hb
    cases hb
    exact .inl e
   ·exact hother k b hb hkk
  ·rw [rfl']
   have hv:=Apx (d:=Jz (Do T a)) h.v e
   rw [h.ow] at e hv ⊢
   refine⟨h.no,h.sl,h.ow,h.fl,h.op,h.out,hv,fun k b hb=>?_,hsub,by omega⟩
   show(c.Commitments.set _ _)[k]? = _∨(c.Commitments.set _ _)[k]? = _∧_
   by_cases hkk:k=(Eo (Ex r.1) a).toNat
   ·subst hkk
    rw [hk] at hb
    cases hb
    exact .inl (List.getElem?_set_self (As e))
   ·rw [List.getElem?_set_ne (fun q=>hkk q.symm)]
    exact hother k b hb hkk
theorem Ak1 {r:DR}{T:List Table}(hd:Dealt r T)(hz : ∀ a,Do T a≠[]→Jz (Do T a)≠zD)(b:List Int)(hb:By8 b) :
  Ak (loop (Nf fun x8 o o1=>H2 r x8 o o1) (Ex r.1,b,c0V r)) fun x => ∃ o,By8 o∧x=.inl (o,c1V r T):=by
 refine Ak.loop (I:=fun q:List Int×List Int×Clearing=>By8 q.2.1∧Coms r T q.1 q.2.2) (fun q=>q.1.length) ?_ 8 _ (Aae _) ⟨hb,Avx hd⟩
 rintro⟨x8,o,c⟩ ⟨h1,h2⟩
 simp only at h1 h2
 show Ak (H2 r x8 o c) _
 unfold H2
 by_cases h0:x8.length=0
 ·rw [if_neg (by omega)]
  rw [List.length_eq_zero_iff] at h0
  subst h0
  exact Ak.ok ⟨o,h1,by rw [h2.done hd hz]⟩
 rw [if_pos (by omega)]
 refine(Aj2 (x8.length:Int) o (by omega) h1).bind fun r3 h3=>?_
 obtain⟨k1,k2,k3⟩:=h3
 refine Wx k1 k2 fun a ha=>?_
 have hne:=Y6 hd (h2.sub a (List.mem_of_getElem? ha))
 rw [hd.m.getD,Aho (Aet hd hne),R.ok_bind,if_neg (by simp)]
 refine(Apa hd hz h2 ha).bind fun r5 h5=>?_
 have hl:=h2.len
 have hcl:=Acw (As ha)
 have e1:(r3.1+1).toNat=r3.1.toNat+1:=by omega
 rw [if_neg (by simp [h5.1]),if_pos ⟨k1,by omega⟩,G1 (by omega) (by omega),if_pos ⟨by omega,by omega⟩,if_pos (by simp only [List.length_take,Bs]; omega),if_pos (by simp only [List.length_take,List.length_drop,Bs]; omega),e1]
 exact Ak.ok ⟨⟨k3,h5.2⟩,by simp only; omega⟩
end Go.Am
namespace Go.Am
open Go
set_option linter.unusedVariables false
set_option linter.unusedSimpArgs false
theorem Ask {α:Type}{Rl:α→α→Prop}(hi : ∀ x,¬ Rl x x)(ha : ∀ x y,Rl x y→¬ Rl y x) : ∀ {l1 l2:List α},l1.Pairwise Rl→l2.Pairwise Rl→(∀ x,x ∈ l1↔x ∈ l2)→l1=l2
 | [],[],_,_,_=>rfl
 | [],b::l2,_,_,h=>by have:=(h b).2 (List.mem_cons_self ..); cases this
 | a::l1,[],_,_,h=>by have:=(h a).1 (List.mem_cons_self ..); cases this
 | a::l1,b::l2,h1,h2,h=>by
  rw [List.pairwise_cons] at h1 h2
  have e:a=b:=by
   rcases List.mem_cons.1 ((h a).1 (List.mem_cons_self ..)) with e | e
   ·exact e
   ·rcases List.mem_cons.1 ((h b).2 (List.mem_cons_self ..)) with e' | e'
    ·exact e'.symm
    ·exact absurd (h1.1 _ e') (ha _ _ (h2.1 _ e))
  subst e
  rw [Ask hi ha h1.2 h2.2 fun x=>⟨fun hx=>?_,fun hx=>?_⟩]
  ·rcases List.mem_cons.1 ((h x).1 (List.mem_cons_of_mem _ hx)) with e | e
   ·subst e; exact absurd (h1.1 _ hx) (hi _)
   ·exact e
  ·rcases List.mem_cons.1 ((h x).2 (List.mem_cons_of_mem _ hx)) with e | e
   ·subst e; exact absurd (h2.1 _ hx) (hi _)
   ·exact e
noncomputable def K1 (r:DR)(T:List Table)(L:List Opening):Clearing:={ c1V r T with Openings:=L }
theorem Anl {r:DR}{T:List Table}(h:Dealt r T){k:Nat}{t:Table}(hk:T[k]? = some t):Eo r.2.1 t.Flight=(k:Int):=
 Ahh (Aoh h) (by rw [h.fls,List.getElem?_map,hk]; rfl)
theorem Aqv {r:DR}{T:List Table}(h:Dealt r T)(a:Int):many r.1 a=((Do T a).length:Int):=by
 unfold many Do
 rw [h.own,List.count,List.countP_map,List.countP_eq_length_filter]
 rfl
theorem Auu {r:DR}{T:List Table}{a:Int}(ha:a ∈ Ex r.1):((Ex r.1).map fun a=>Jz (Do T a))[(Eo (Ex r.1) a).toNat]? = some (Jz (Do T a)):=by
 rw [List.getElem?_map,Qx (Iv.2 ha)]; rfl
theorem Agw {r:DR}{T:List Table}(h:Dealt r T)(L:List Opening){o:Opening}(ho:Oq r.2.2.1 T o):Vt (K1 r T L) o:=by
 obtain⟨k,t,i,s,hk,hi,hs,rfl⟩:=ho
 have hmem:t.Airline ∈ r.1:=by rw [h.own]; exact List.mem_map.2 ⟨t,List.mem_of_getElem? hk,rfl⟩
 have ha:t.Airline ∈ Ex r.1:=W3.2 ⟨(h.tabs k t hk).al,hmem⟩
 refine⟨?_,?_,Jz (Do T t.Airline),?_,?_⟩
 ·show t.Flight ∈ r.2.1
  rw [h.fls]
  exact List.mem_map.2 ⟨t,List.mem_of_getElem? hk,rfl⟩
 ·show r.1[(Eo r.2.1 t.Flight).toNat]? = some t.Airline
  rw [Anl h hk,Int.toNat_natCast,h.own,List.getElem?_map,hk]; rfl
 ·exact Auu ha
 ·show V5 _ t.Airline (many r.1 t.Airline) r.2.2.1 _
  rw [Aqv h]
  exact Ap0 (Aet h (Y6 h ha)) hi hs
theorem Ab9 {r:DR}{T:List Table}(h:Dealt r T)(hz : ∀ a,Do T a≠[]→Jz (Do T a)≠zD){L:List Opening}(h1:L.Pairwise Lj)(h2 : ∀ o ∈ L,Oq r.2.2.1 T o):ValidC (K1 r T L):=by
 refine⟨Aml h _ rfl rfl rfl rfl (by simp [K1,c1V]),.inr (.inl ⟨rfl,fun hm=>?_,⟨h1,fun o ho=>Agw h L (h2 o ho)⟩,rfl⟩)⟩
 obtain⟨a,ha,he⟩:=List.mem_map.1 (show zD ∈ (Ex r.1).map fun a=>Jz (Do T a) from hm)
 exact hz a (Y6 h ha) he
theorem Ajj {S:Int}{T:List Table}{o:Opening}(h:Oq S T o):o.Path.length≤16:=by
 obtain⟨k,t,i,s,_,_,_,rfl⟩:=h
 exact Ao1 _ _ _ _
theorem sm5 {r:DR}{T:List Table}{L:List Opening}(hl:L.length≤900)(h2 : ∀ o ∈ L,Oq r.2.2.1 T o):Sm (K1 r T L):=
 ⟨by show L.length≤1000; omega,fun o ho=>Nat.le_trans (Ajj (h2 o ho)) (by decide),by simp [K1,c1V]⟩
structure OpnL (r:DR)(T:List Table)(L x9:List Opening):Prop where
 lt:L.Pairwise Lj
 is : ∀ o ∈ L,Oq r.2.2.1 T o
 all : ∀ o,Oq r.2.2.1 T o→o ∈ L∨o ∈ x9
 sub : ∀ o ∈ x9,Oq r.2.2.1 T o
 len:L.length+x9.length≤160
theorem Aqs {r:DR}{T:List Table}(h:Dealt r T)(hz : ∀ a,Do T a≠[]→Jz (Do T a)≠zD){L x9:List Opening}(hL:OpnL r T L x9){n:Nat}{o:Opening}(hn:x9[n]? = some o) :
  Ak (Me (K1 r T L) o) fun x=>x.2=0 ∧ ∃ L',x.1=K1 r T L'∧OpnL r T L' (x9.take n++x9.drop (n+1)):=by
 have ho:=hL.sub o (List.mem_of_getElem? hn)
 have hA:=Agw h L ho
 have hlen:=hL.len
 have hcut:=fun y=>Al4 (y:=y) hn
 have hcl:=Acw (As hn)
 have hsub : ∀ b ∈ x9.take n++x9.drop (n+1),Oq r.2.2.1 T b:=fun b hb=>hL.sub b ((hcut b).2 (.inr hb))
 refine(Ar1 (K1 r T L) o (sm5 (by omega) hL.is) (Nat.le_trans (Ajj ho) (by decide))).mono fun x hx=>?_
 rcases hx with⟨_,_,hx | hx | hx | ⟨y,hy,e1,e2,e3⟩⟩ | ⟨h0,hV,hp,_,⟨hm,e⟩ | ⟨m,m1,m2,m3,e⟩⟩
 ·exact absurd (Ab9 h hz hL.lt hL.is) hx
 ·exact absurd hx (show ¬ (2:Int)=1 by decide)
 ·exact absurd hA hx
 ·exact absurd (Ajr h.tabs (hL.is y hy) ho e1 e2) e3
 ·refine⟨h0,L,e,hL.lt,hL.is,fun y hy=>?_,hsub,by omega⟩
  rcases hL.all y hy with q | q
  ·exact .inl q
  ·rcases(hcut y).1 q with rfl | q
   ·exact .inl hm
   ·exact .inr q
 ·have hO:=Am3 (Tq hV hp) hA m2 m3
  refine⟨h0,Aad L m o,e,hO.1,fun y hy=>?_,fun y hy=>?_,hsub,?_⟩
  ·rcases Zo.1 hy with rfl | hy
   ·exact ho
   ·exact hL.is y hy
  ·rcases hL.all y hy with q | q
   ·exact .inl (Zo.2 (.inr q))
   ·rcases(hcut y).1 q with rfl | q
    ·exact .inl (Zo.2 (.inl rfl))
    ·exact .inr q
  ·have m1':m≤L.length:=m1
   simp only [Aad,List.length_append,List.length_take,List.length_drop,List.length_singleton] at hcl ⊢
   omega
structure Opd (r:DR)(T:List Table)(L:List Opening):Prop where
 lt:L.Pairwise Lj
 is : ∀ o,o ∈ L↔Oq r.2.2.1 T o
 len:L.length≤160
theorem Aqd {r:DR}{T:List Table}(h:Dealt r T)(hz : ∀ a,Do T a≠[]→Jz (Do T a)≠zD)(x2:List Opening)(h2:Opns r T 8 x2)(b:List Int)(hb:By8 b) :
  Ak (Ju r x2 b (c1V r T)) fun x=>x.2=true ∧ ∃ L,x.1=K1 r T L∧Opd r T L:=by
 unfold Ju
 refine Ak.bind (P:=fun x => ∃ L,x=.inl (K1 r T L)∧Opd r T L) (Ak.loop (I:=fun q:List Opening×List Int×Clearing=>By8 q.2.1 ∧ ∃ L,q.2.2=K1 r T L∧OpnL r T L q.1) (fun q=>q.1.length) ?_ 160 _ h2.len ⟨hb,[],rfl,.nil,(fun o ho=>by cases ho),?_,h2.is,by have:=h2.len; simpa using this⟩) ?_
 ·rintro⟨x9,o4,c⟩ ⟨h1,L,e,hL⟩
  simp only at h1 e hL
  subst e
  have hlen:=hL.len
  show Ak (Ll x9 o4 _) _
  unfold Ll
  by_cases h0:x9.length=0
  ·rw [if_neg (by omega)]
   rw [List.length_eq_zero_iff] at h0
   subst h0
   exact Ak.ok ⟨L,rfl,hL.lt,fun o=>⟨hL.is o,fun ho=>(hL.all o ho).resolve_right (by simp)⟩,by omega⟩
  rw [if_pos (by omega)]
  refine(Aj2 (x9.length:Int) o4 (by omega) h1).bind fun r3 h3=>?_
  obtain⟨k1,k2,k3⟩:=h3
  refine Wx k1 k2 fun a ha=>?_
  refine(Aqs h hz hL ha).bind fun r7 h7=>?_
  obtain⟨e7,L',e',hL'⟩:=h7
  have hcl:=Acw (As ha)
  have e1:(r3.1+1).toNat=r3.1.toNat+1:=by omega
  rw [if_neg (by simp [e7]),if_pos ⟨k1,by omega⟩,G1 (by omega) (by omega),if_pos ⟨by omega,by omega⟩,if_pos (by simp only [List.length_take,Bs]; omega),if_pos (by simp only [List.length_take,List.length_drop,Bs]; omega),e1]
  exact Ak.ok ⟨⟨k3,L',e',hL'⟩,by simp only; omega⟩
 ·rintro o ⟨k,t,i,s,g1,g2,g3,rfl⟩
  have:=(h.tabs k t g1).al
  unfold inA at this
  exact .inr (h2.all k t i s g1 g2 g3 (by omega))
 ·rintro x ⟨L,rfl,hL⟩
  exact Ak.ok ⟨rfl,L,rfl,hL⟩
theorem Ans (a:T25)(b:List Int)(hb:By8 b){r:DR}{T:List Table}(e:Og a=.ok r)(e5:r.2.2.2.2=true)(h:Dealt r T)(hz : ∀ a,Do T a≠[]→Jz (Do T a)≠zD) :
  Ak (Q4 a b) fun x=>x.2=true ∧ ∃ L,x.1=K1 r T L∧Opd r T L:=by
 unfold Q4
 rw [e,R.ok_bind,if_pos e5,Avm h,R.ok_bind,if_neg (by simp)]
 refine(Amt h _).bind fun x hx=>?_
 obtain⟨x2,rfl,h2⟩:=hx
 refine(Ak1 h hz b hb).bind fun x hx=>?_
 obtain⟨o,ho,rfl⟩:=hx
 exact Aqd h hz x2 h2 o ho
theorem Apw {T:List Table}{k:Nat}{t:Table}(hk:T[k]? = some t) : ∃ i:Nat,(Do T t.Airline)[i]? = some t:=by
 obtain⟨i,hi,he⟩:=List.mem_iff_getElem.1 (Wm.2 ⟨List.mem_of_getElem? hk,rfl⟩)
 exact⟨i,by rw [List.getElem?_eq_getElem hi,he]⟩
theorem Aeg {r:DR}{T:List Table}(h:Dealt r T)(hz : ∀ a,Do T a≠[]→Jz (Do T a)≠zD){L:List Opening}(hL:Opd r T L):Z1 (K1 r T L):=by
 have hV:=Ab9 h hz hL.lt fun o ho=>(hL.is o).1 ho
 have hO:=Tq hV (show ¬ (2:Int)=1 by decide)
 have hs:=h.s
 obtain⟨S,hS⟩ : ∃ S:Nat,r.2.2.1=(S:Int):=⟨r.2.2.1.toNat,by omega⟩
 have hfl:(K1 r T L).Flights.length=T.length:=by show r.2.1.length=_; rw [h.fls]; simp
 have hsl:(K1 r T L).Slots.toNat=S:=by show r.2.2.1.toNat=S; omega
 have e:L.map (S6 (K1 r T L))=List.range (T.length * S):=by
  refine Ask (Rl:=(· < ·)) (fun x=>Nat.lt_irrefl x) (fun x y h=>Nat.lt_asymm h) ?_ List.pairwise_lt_range fun x=>?_
  ·rw [List.pairwise_map]
   refine List.Pairwise.imp_of_mem ?_ hL.lt
   intro a b ha hb hab
   exact Ahg hV.formed (hO.2 a ha) (hO.2 b hb) hab
  ·rw [List.mem_range,List.mem_map]
   constructor
   ·rintro⟨o,ho,rfl⟩
    have:=Amf (hO.2 o ho)
    rwa [hfl,hsl] at this
   ·intro hx
    have hS0:0<S:=by omega
    have hk:x / S<T.length:=(Nat.div_lt_iff_lt_mul hS0).2 hx
    have ht:=List.getElem?_eq_getElem hk
    obtain⟨i,hi⟩:=Apw ht
    refine⟨Qu (Do T T[x / S].Airline) T[x / S] i (x % S),(hL.is _).2 ⟨x / S,_,i,x % S,ht,hi,by have:=Nat.mod_lt x hS0; omega,rfl⟩,?_⟩
    unfold S6
    rw [hsl]
    show(Eo r.2.1 T[x / S].Flight).toNat * S+((x % S:Nat):Int).toNat=x
    rw [Anl h ht,Int.toNat_natCast,Int.toNat_natCast,Nat.div_add_mod']
 have:=congrArg List.length e
 rw [List.length_map,List.length_range] at this
 show L.length=_
 rw [hfl,hsl,this]
theorem Aqg {r:DR}{T:List Table}(h:Dealt r T)(hz : ∀ a,Do T a≠[]→Jz (Do T a)≠zD){L:List Opening}(hL:Opd r T L):Y0 (K1 r T L)=T.map (·.Costs):=by
 have hV:=Ab9 h hz hL.lt fun o ho=>(hL.is o).1 ho
 have hO:=Tq hV (show ¬ (2:Int)=1 by decide)
 have hf:=Aeg h hz hL
 have hs:=h.s
 obtain⟨S,hS⟩ : ∃ S:Nat,r.2.2.1=(S:Int):=⟨r.2.2.1.toNat,by omega⟩
 have hfl:(K1 r T L).Flights.length=T.length:=by show r.2.1.length=_; rw [h.fls]; simp
 have hsl:(K1 r T L).Slots.toNat=S:=by show r.2.2.1.toNat=S; omega
 have hlen:L.length=T.length * S:=by have:L.length=_:=hf; rw [this,hfl,hsl]
 unfold Y0
 rw [hfl,hsl]
 refine List.ext_getElem? fun k=>?_
 rw [List.getElem?_map,List.getElem?_map]
 rcases Nat.lt_or_ge k T.length with hk | hk
 case inr=>rw [List.getElem?_eq_none (by simpa using hk),List.getElem?_eq_none hk]; rfl
 rw [List.getElem?_range hk,List.getElem?_eq_getElem hk]
 have ht:=List.getElem?_eq_getElem hk
 obtain⟨i,hi⟩:=Apw ht
 have hcl:=(h.tabs k _ ht).len
 show some _=some _
 congr 1
 refine List.ext_getElem? fun s=>?_
 show(((L.drop (k * S)).take S).map _)[s]? = T[k].Costs[s]?
 rw [List.getElem?_map,List.getElem?_take]
 by_cases hsS:s<S
 case neg=>rw [if_neg hsS,List.getElem?_eq_none (show T[k].Costs.length≤s by omega)]; rfl
 have hq:k * S+s<L.length:=by
  rw [hlen]
  have:(k+1) * S≤T.length * S:=Nat.mul_le_mul_right _ hk
  rw [Nat.add_mul,Nat.one_mul] at this
  omega
 rw [if_pos hsS,List.getElem?_drop,List.getElem?_eq_getElem hq,List.getElem?_eq_getElem (show s<T[k].Costs.length by omega)]
 have hrk:=Api hV.formed hO hf (k * S+s) hq
 have ho:Oq r.2.2.1 T (Qu (Do T T[k].Airline) T[k] i s):=⟨k,_,i,s,ht,hi,by omega,rfl⟩
 have hrk':S6 (K1 r T L) (Qu (Do T T[k].Airline) T[k] i s)=k * S+s:=by
  unfold S6
  rw [hsl]
  show(Eo r.2.1 T[k].Flight).toNat * S+((s:Nat):Int).toNat=_
  rw [Anl h ht,Int.toNat_natCast,Int.toNat_natCast]
 have hm:L[k * S+s] ∈ L:=List.getElem_mem hq
 have hi':=(hL.is _).1 hm
 obtain⟨f1,f2⟩:=Asd (hO.2 _ hm) (Agw h L ho) (hrk.trans hrk'.symm)
 rw [Ajr h.tabs hi' ho f1 f2]
 show some _=some _
 congr 1
 show T[k].Costs.getD s 0=_
 simp [List.getD,show s<T[k].Costs.length by omega]
end Go.Am
namespace Go.Am
open Go
set_option linter.unusedVariables false
set_option linter.unusedSimpArgs false
theorem Abg {r:Round}(hc:CChk r){l:List Int}(h:Dz r l=.ok (true,0)) : ∃ w,Hz r l=.ok w∧w.2=0∧w.1.length=0∧l.length=r.Owners.length:=by
 unfold Dz at h
 obtain⟨w,ew,hw⟩:=Ahq hc l
 rw [ew,R.ok_bind] at h
 by_cases hq:((w.2 != 0)||(decide ((w.1.length:Int) > 0)))=true
 ·rw [if_pos hq] at h
  exact absurd (congrArg Prod.fst (R.ok.inj h)) (by simp)
 ·simp only [Bool.or_eq_true,decide_eq_true_eq,bne_iff_ne,ne_eq,not_or,Decidable.not_not] at hq
  exact⟨w,ew,hq.1,by omega,(hw hq.1).1⟩
theorem Avd {l:List Int}(h:(Q1 1 (L8 .u8)).good l):By8 l:=by
 intro a ha
 have:(Lit.int .u8 a).wf=true:=h a ha
 simp [Lit.wf] at this
 have e1:IntKind.u8.min=0:=rfl
 have e2:IntKind.u8.max=255:=rfl
 omega
theorem Amj (l:List Int):Gj l l=.ok true:=Ak.eq ((Ajy l l).mono fun r hr=>hr.2 rfl)
theorem Aud {r:DR}{T:List Table}(h:Dealt r T)(hz : ∀ a,Do T a≠[]→Jz (Do T a)≠zD){L:List Opening}(hL:Opd r T L) :
  ∃ y:List Int×Int,Lf (K1 r T L)=.ok ({ K1 r T L with Phase:=y.2,Outcome:=y.1 },0)∧Anc (Vu (K1 r T L)) y∧y.1.length=T.length∧ValidC { K1 r T L with Phase:=y.2,Outcome:=y.1 }∧Sm { K1 r T L with Phase:=y.2,Outcome:=y.1 }:=by
 have his : ∀ o ∈ L,Oq r.2.2.1 T o:=fun o ho=>(hL.is o).1 ho
 have hV:=Ab9 h hz hL.lt his
 have hf:=Aeg h hz hL
 have hs:Sm (K1 r T L):=sm5 (by have:=hL.len; omega) his
 have hl:=h.len; have hS:=h.s
 obtain⟨x,e,hx⟩:=Ao4 (K1 r T L) hs
 rcases hx with⟨_,hx⟩ | ⟨_,_,hx⟩ | ⟨h0,_,_,⟨hx,_⟩ | ⟨h2,y,ey,hy,hx⟩⟩
 ·exact absurd hV hx
 ·exact absurd hf hx
 ·exact absurd (show(K1 r T L).Phase=2 from rfl) hx
 have how:(Vu (K1 r T L)).Owners.length=T.length:=by show r.1.length=_; rw [h.own]; simp
 have hlen:y.1.length=T.length:=by
  rcases hy with⟨_,hc,hst⟩ | ⟨_,hy⟩
  ·obtain⟨w,_,_,_,h4⟩:=Abg hc hst
   rw [h4,how]
  ·rw [hy]; simp [how]
 refine⟨y,?_,hy,hlen,Aky hV hf h2 ey hy,⟨hs.op,hs.path,by show y.1.length≤1000; omega⟩⟩
 rw [e,← hx,← h0]
theorem law_RoundsFair (hsane:Tm=.ok true):O1:=by
 intro a hg hb
 refine Ak.eq ?_
 unfold Pn
 rw [hsane,R.ok_bind,if_pos rfl]
 refine Ak.ite (fun _=>Ak.ok rfl) fun _=>?_
 obtain⟨r,er,hr⟩:=Ao8 a hg hb
 rw [er,R.ok_bind]
 rcases hr with rfl | ⟨h5,T,h⟩
 ·exact Ak.ok rfl
 rw [h5]
 simp only [Bool.not_true,Bool.false_eq_true,if_false]
 obtain⟨b,eb,hsil⟩:=Anq h
 rw [eb,R.ok_bind,R.ok_bind]
 refine Ak.ite (fun _=>Ak.ok rfl) fun hb0=>?_
 have hz:=hsil (by simpa using hb0)
 obtain⟨g1,g2,g3,g4,g5,_⟩:=hg
 refine(Ans a a.Order (Avd g5) er h5 h hz).bind fun r3 h3=>?_
 obtain⟨e3,L,ec,hL⟩:=h3
 rw [if_pos e3,ec]
 obtain⟨y,ey,hy,hyl,hVy,hSy⟩:=Aud h hz hL
 have his : ∀ o ∈ L,Oq r.2.2.1 T o:=fun o ho=>(hL.is o).1 ho
 have hV:=Ab9 h hz hL.lt his
 have hf:=Aeg h hz hL
 have hs:Sm (K1 r T L):=sm5 (by have:=hL.len; omega) his
 have hl:=h.len; have hS:=h.s
 have e4:Lc (K1 r T L)=.ok (Vu (K1 r T L),0):=Ak.eq ((Ahl _ hs).mono fun x hx=>by
  rcases hx with⟨hx,_⟩ | ⟨_,_,hx⟩ | ⟨_,hx⟩
  ·exact hx
  ·exact absurd hf hx
  ·exact absurd hV hx)
 have hcs:(Vu (K1 r T L)).Costs=T.map (·.Costs):=Aqg h hz hL
 have hfl:r.2.1.length=T.length:=by rw [h.fls]; simp
 rw [e4,R.ok_bind,ey,R.ok_bind,if_neg (by simp),Aej hs hV,R.ok_bind,R.ok_bind,if_neg (by simp),Aej hSy hVy,R.ok_bind,R.ok_bind,
  show(Vu (K1 r T L)).Slots=r.2.2.1 from rfl,show(Vu (K1 r T L)).Owners=r.1 from rfl,if_neg (by simp),Amj,R.ok_bind,R.ok_bind,
  if_neg (by simp only [hcs,List.length_map,hfl,hyl]; simp)]
 have hrow:each (fun j _=>fun _=>H4 true r (Vu (K1 r T L),0) j) 0 (List.range 8) ()=.ok (.inl ()):=Xs _ fun j x hj=>by
  unfold H4
  rw [h.m.getD,Xs (Do T (j:Int)) fun i t hi=>?_]
  ·rfl
  ·unfold Kk
   obtain⟨m1,m2⟩:=Wm.1 (List.mem_of_getElem? hi)
   obtain⟨k,hk,rfl⟩:=List.mem_iff_getElem.1 m1
   have ht:=List.getElem?_eq_getElem hk
   have hfk:=(h.tabs k _ ht).fl
   rw [G1 (by omega) (by omega),show T[k].Flight - 10=(k:Int) by omega,if_neg (by simp only [decide_eq_true_eq]; omega),hcs,if_neg (by simp only [decide_eq_true_eq,List.length_map]; omega),H5 (show(T.map (·.Costs))[k]? = some T[k].Costs by rw [List.getElem?_map,ht]; rfl),R.ok_bind,Amj,R.ok_bind]
   rfl
 rw [hrow,R.ok_bind]
 show Ak (if((y.2==3)=true) then _ else _) _
 rcases hy with⟨y3,hc,hst⟩ | ⟨y4,hy⟩
 ·rw [if_pos (by simp [y3])]
  obtain⟨w,ew,w1,w2,_⟩:=Abg hc hst
  rw [ew,R.ok_bind,hst,R.ok_bind]
  exact Ak.ok (by simp [w1,w2])
 ·rw [if_neg (by simp [y4])]
  have:each (fun j2 a4=>fun _=>Gr j2 a4) 0 y.1 ()=.ok (.inl ()):=Xs _ fun j x hj=>by
   unfold Gr
   rw [hy,List.getElem?_map] at hj
   obtain⟨n,hn,rfl⟩:=Option.map_eq_some_iff.1 hj
   have:=As hn
   rw [List.getElem?_eq_getElem this,List.getElem_range] at hn
   rw [if_neg (by simp [Option.some.inj hn])]
  rw [this,R.ok_bind]
  exact Ak.ok (by simp [y4])
end Go.Am
namespace Go.Am
open Go
set_option maxRecDepth 100000
theorem law40_sane_ok:Tm=.ok true:=by kernel_rfl
end Go.Am
