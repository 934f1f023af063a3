/- Written by shrink.py from texts of ours: comments struck, what is not reached left out, names short. -/
import Derived.Test.YtnoinnijgnfhiaaGreatDoorU4
import Derived.Test.YtnoinnijgnfhiaaGreatDoorU7
import Derived.KernelRfl
namespace Go.Am
open Go
set_option linter.unusedVariables false
set_option linter.unusedSectionVars false
set_option linter.unusedSimpArgs false
theorem Yq {α σ:Type}(b:Nat→α→σ→R σ)(k:Nat)(s:σ):eachS b k [] s=.ok s:=rfl
theorem P4 {α σ:Type}(b:Nat→α→σ→R σ)(k:Nat)(a:α)(l:List α)(s:σ):eachS b k (a::l) s=(b k a s).bind fun s'=>eachS b (k+1) l s':=by
 rw [eachS]
theorem Av6 {n:Int}(h1 : -9223372036854775808≤n)(h2:n≤9223372036854775807):IntKind.wrap .i64 n=n:=by
 simp [IntKind.wrap,IntKind.bits,IntKind.signed]
 omega
section
variable {K V:Type} [DecidableEq K]
@[simp] theorem Ayl (k:K):Fj ([]:List (K×V)) k=none:=rfl
theorem Xr (p:K×V)(m:List (K×V))(k:K):Fj (p::m) k=if p.1=k then some p.2 else Fj m k:=by
 unfold Fj
 rw [List.find?_cons]
 by_cases h:p.1=k
 ·simp [h]
 ·rw [if_neg h,show(p.1==k)=false by simpa using h]
theorem Arz (m:List (K×V))(k k':K)(v:V):Fj (Mb m k v) k'=if k=k' then some v else Fj m k':=by
 induction m with
 | nil=>rw [Mb,Xr]
 | cons p m ih=>
  rw [Mb]
  by_cases h:p.1=k
  ·rw [if_pos (by simpa using h),Xr,Xr]
   subst h
   by_cases h':p.1=k' <;> simp [h']
  ·rw [if_neg (by simpa using h),Xr,Xr,ih]
   by_cases h':p.1=k'
   ·subst h'
    rw [if_pos rfl,if_neg (fun e=>h e.symm),if_pos rfl]
   ·rw [if_neg h',if_neg h']
end
theorem Akq {α β:Type}{b:Nat→α→List β→R (List β)}{g:α→β}{c:Nat}(hb : ∀ j a s,b j a s=if(s.length+1) * c≤Cm then .ok (s++[g a]) else .bad) :
  ∀ (l:List α) (k:Nat) (s:List β),(s.length+l.length) * c≤Cm→eachS b k l s=.ok (s++l.map g)
 | [],k,s,_=>by simp [Yq]
 | a::l,k,s,h=>by
  have h1:(s.length+1) * c≤Cm:=Nat.le_trans (Nat.mul_le_mul_right _ (by simp)) h
  rw [P4,hb,if_pos h1,R.ok_bind,Akq hb l (k+1) (s++[g a]) (by simpa [Nat.add_assoc,Nat.add_comm 1] using h)]
  simp
theorem L3 {α:Type}{l:List α}{j:Nat}{a:α}(h:l[j]? = some a):idx l (j:Int)=.ok a:=by
 unfold idx
 rw [if_pos (by omega)]
 simp [h]
abbrev Av1:=List UInt8
def pos (l:List Av1)(x:Av1):Option Nat:=l.findIdx? (· == x)
theorem Al1 {α:Type}{b:Nat→α→Unit→R (Unit ⊕ Bool)} : ∀ (l:List α) (k:Nat),(∀ (j:Nat) a,l[j]? = some a→b (k+j) a ()=.ok (.inl ()))→each b k l ()=.ok (.inl ())
 | [],k,_=>rfl
 | a::l,k,hb=>by
  rw [Pl,show b k a ()=.ok (.inl ()) from hb 0 a rfl]
  simp only [R.ok_bind]
  exact Al1 l (k+1) fun j x h=>by have:=hb (j+1) x (by simpa using h); rwa [Nat.add_comm j 1,← Nat.add_assoc] at this
end Go.Am
namespace Go.Am
open Go
set_option linter.unusedVariables false
set_option linter.unusedSimpArgs false
def Av {α:Type}(m:R α)(P:α→Prop):Prop := ∃ a,m=.ok a∧P a
section
variable {α β σ ε:Type}
theorem Av.ok {a:α}{P:α→Prop}(h:P a):Av (.ok a) P:=⟨a,rfl,h⟩
theorem Av.of {m:R α}{a:α}{P:α→Prop}(e:m=.ok a)(h:P a):Av m P:=⟨a,e,h⟩
theorem Av.bind {m:R α}{f:α→R β}{P:α→Prop}{Q:β→Prop}(h:Av m P)(k : ∀ a,P a→Av (f a) Q):Av (m.bind f) Q:=by
 obtain⟨a,rfl,ha⟩:=h
 exact k a ha
theorem Av.mono {m:R α}{P Q:α→Prop}(h:Av m P)(k : ∀ a,P a→Q a):Av m Q:=by
 obtain⟨a,e,ha⟩:=h
 exact⟨a,e,k a ha⟩
theorem Av.eq {m:R α}{a:α}(h:Av m fun x=>x=a):m=.ok a:=by
 obtain⟨x,e,rfl⟩:=h
 exact e
theorem Av.np {m:R α}{P:α→Prop}(h:Av m P):Av m.np P:=by
 obtain⟨a,rfl,ha⟩:=h
 exact⟨a,rfl,ha⟩
theorem Av.ite {c:Prop}[Decidable c]{a b:R α}{P:α→Prop}(h1:c→Av a P)(h2:¬c→Av b P):Av (if c then a else b) P:=by
 by_cases hc:c
 ·rw [if_pos hc]; exact h1 hc
 ·rw [if_neg hc]; exact h2 hc
theorem Av.pos {c:Prop}[Decidable c]{a b:R α}{P:α→Prop}(hc:c)(h:Av a P):Av (if c then a else b) P:=by rw [if_pos hc]; exact h
theorem Av.neg {c:Prop}[Decidable c]{a b:R α}{P:α→Prop}(hc:¬c)(h:Av b P):Av (if c then a else b) P:=by rw [if_neg hc]; exact h
theorem Av.idx {l:List α}{n:Int}{P:α→Prop}(h0:0≤n)(h1:n<(l.length:Int))(h : ∀ a,l[n.toNat]? = some a→P a):Av (idx l n) P:=by
 have hl:n.toNat<l.length:=by omega
 refine⟨l[n.toNat],?_,h _ (List.getElem?_eq_getElem hl)⟩
 unfold Am.idx
 rw [if_pos h0,List.getElem?_eq_getElem hl]
theorem Av.eachS {b:Nat→α→σ→R σ}{I:Nat→σ→Prop} : ∀ (l:List α) (k:Nat) (s:σ),I k s→(∀ (j:Nat) a s,l[j]? = some a→I (k+j) s→Av (b (k+j) a s) (I (k+j+1)))→Av (eachS b k l s) (I (k+l.length))
 | [],k,s,h,_=>⟨s,rfl,h⟩
 | a::l,k,s,h,hb=>by
  rw [P4]
  refine(hb 0 a s rfl h).bind fun s' h'=>?_
  have:=Av.eachS l (k+1) s' h' (fun j a' s hj hi=>by
   have:=hb (j+1) a' s hj (by rwa [Nat.add_assoc,Nat.add_comm 1] at hi)
   rwa [show k+(j+1)=k+1+j by omega] at this)
  rwa [show k+1+l.length=k+(a::l).length by simp; omega] at this
def Yz (I:Nat→σ→Prop)(E:ε→Prop)(n:Nat):σ ⊕ ε→Prop
 | .inl s=>I n s
 | .inr e=>E e
theorem Av.each {b:Nat→α→σ→R (σ ⊕ ε)}{I:Nat→σ→Prop}{E:ε→Prop} : ∀ (l:List α) (k:Nat) (s:σ),I k s→(∀ (j:Nat) a s,l[j]? = some a→I (k+j) s→Av (b (k+j) a s) (Yz I E (k+j+1)))→Av (each b k l s) (Yz I E (k+l.length))
 | [],k,s,h,_=>⟨.inl s,rfl,h⟩
 | a::l,k,s,h,hb=>by
  rw [Pl]
  refine(hb 0 a s rfl h).bind fun x h'=>?_
  cases x with
  | inr e=>exact⟨_,rfl,h'⟩
  | inl s'=>
   have:=Av.each l (k+1) s' h' (fun j a' s hj hi=>by
    have:=hb (j+1) a' s hj (by rwa [Nat.add_assoc,Nat.add_comm 1] at hi)
    rwa [show k+(j+1)=k+1+j by omega] at this)
   rwa [show k+1+l.length=k+(a::l).length by simp; omega] at this
theorem Av.alt {f:α→R σ}{g:β→R σ}{x:α ⊕ β}{P:α ⊕ β→Prop}{Q:σ→Prop}(hx:P x)(h1 : ∀ a,P (.inl a)→Av (f a) Q)(h2 : ∀ b,P (.inr b)→Av (g b) Q):Av (alt f g x) Q:=by
 cases x with
 | inl a=>exact h1 a hx
 | inr b=>exact h2 b hx
theorem Av.loop {b:σ→R (σ ⊕ ε)}{I:σ→Prop}{E:ε→Prop}(μ:σ→Nat)(hb : ∀ s,I s→Av (b s) fun x=>match x with | .inl s'=>I s'∧μ s'<μ s | .inr e=>E e) : ∀ (n:Nat) (s:σ),μ s≤n→I s→Av (loop b s) E
 | n,s,hn,hs=>by
  rw [Aop]
  obtain⟨x,e,hx⟩:=hb s hs
  rw [e]
  cases x with
  | inr y=>exact⟨y,rfl,hx⟩
  | inl s'=>
   cases n with
   | zero=>exact absurd hx.2 (by omega)
   | succ n=>exact Av.loop μ hb n s' (by have:=hx.2; omega) hx.1
end
theorem Nl {n:Int}(h1 : -9223372036854775808≤n)(h2:n≤9223372036854775807):IntKind.wrap .i64 n=n:=Av6 h1 h2
def G2 {α:Type}[BEq α](l:List α)(v:α):Int:=match l.findIdx? (v == ·) with
 | some i=>(i:Int)
 | none => -1
theorem Aou {α:Type}{b:Nat→α→Unit→R (Unit ⊕ Int)}{p:α→Bool}(hb : ∀ j a,b j a ()=if p a then .ok (.inr (j:Int)) else .ok (.inl ())) : ∀ (l:List α) (k:Nat),
  each b k l ()=match l.findIdx? p with | some i=>.ok (.inr ((k+i:Nat):Int)) | none=>.ok (.inl ())
 | [],k=>rfl
 | a::l,k=>by
  rw [Pl,hb,List.findIdx?_cons]
  by_cases h:p a=true
  ·rw [if_pos h,if_pos h]; rfl
  ·rw [if_neg h,if_neg h]
   show each b (k+1) l ()=_
   rw [Aou hb l (k+1)]
   cases l.findIdx? p with
   | none=>rfl
   | some i=>simp only [Option.map_some]; congr 2; rw [show k+1+i=k+(i+1) by omega]
theorem Awa {α:Type}[BEq α]{b:Nat→α→Unit→R (Unit ⊕ Int)}{v:α}(hb : ∀ j a,b j a ()=if(v==a)=true then .ok (.inr (j:Int)) else .ok (.inl ()))(l:List α) :
  (each b 0 l ()).bind (alt (fun _=>R.ok (-1)) (fun r=>.ok r))=.ok (G2 l v):=by
 rw [Aou hb]
 unfold G2
 cases l.findIdx? (v == ·) with
 | none=>rfl
 | some i=>simp [R.bind]
theorem Aa1 (s:List (Vector Int 32))(v:Vector Int 32):Oo s v=.ok (G2 s v):=Awa (fun j a=>rfl) s
theorem Ow (s:List Int)(v:Int):Gv s v=.ok (G2 s v):=Awa (fun j a=>rfl) s
theorem Nc {α:Type}[BEq α][LawfulBEq α]{l:List α}{v:α}:(0≤G2 l v)↔v ∈ l:=by
 unfold G2
 cases h:l.findIdx? (v == ·) with
 | none=>
  rw [List.findIdx?_eq_none_iff] at h
  constructor
  ·intro h'; simp at h'
  ·intro hm; have:=h v hm; simp at this
 | some i=>
  rw [List.findIdx?_eq_some_iff_getElem] at h
  obtain⟨hi,h1,_⟩:=h
  constructor
  ·intro _; rw [show v=l[i] by simpa using h1]; exact List.getElem_mem hi
  ·intro _; exact Int.natCast_nonneg _
theorem Zs {α:Type}[BEq α][LawfulBEq α]{l:List α}{v:α}(h:0≤G2 l v):l[(G2 l v).toNat]? = some v:=by
 unfold G2 at h ⊢
 cases hf:l.findIdx? (v == ·) with
 | none=>rw [hf] at h; simp at h
 | some i=>
  rw [List.findIdx?_eq_some_iff_getElem] at hf
  obtain⟨hi,h1,_⟩:=hf
  simp only [Int.toNat_natCast]
  rw [List.getElem?_eq_getElem hi]
  simpa using (show v=l[i] by simpa using h1).symm
theorem Aj5 {α:Type}[BEq α][LawfulBEq α]{l:List α}{v:α}:G2 l v<(l.length:Int):=by
 unfold G2
 cases hf:l.findIdx? (v == ·) with
 | none=>simp only; omega
 | some i=>
  rw [List.findIdx?_eq_some_iff_getElem] at hf
  obtain⟨hi,_⟩:=hf
  simp only; omega
theorem Yr (s:List (Vector Int 32))(v:Vector Int 32):Jl s v=.ok (decide (v ∈ s)):=by
 unfold Jl
 rw [Aa1]
 show R.ok (decide (G2 s v≥0))=_
 congr 1
 exact decide_eq_decide.2 Nc
theorem Mh (s:List Int)(v:Int):E3 s v=.ok (decide (v ∈ s)):=by
 unfold E3
 rw [Ow]
 show R.ok (decide (G2 s v≥0))=_
 congr 1
 exact decide_eq_decide.2 Nc
def zD:Vector Int 32:=B3 32 0
theorem Al8:(#v[0,0,0,0,0,0,0,0,0,0,0,0,0,0,0,0,0,0,0,0,0,0,0,0,0,0,0,0,0,0,0,0]:Vector Int 32)=zD:=by decide
theorem On (c:Clearing):Fy c=.ok (!decide (zD ∈ c.Commitments)):=by
 unfold Fy
 rw [Yr,Al8]
 rfl
theorem Sx (a y:Int):K4 a y=.ok (if a<y then -1 else if a > y then 1 else 0):=by
 unfold K4 R5
 have h1:(a != a)=false:=by simp
 have h2:(y != y)=false:=by simp
 simp only [h1,h2]
 show(if a<y then R.ok (-1:Int) else if a > y then .ok 1 else .ok 0)=_
 split
 ·rfl
 ·split <;> rfl
def Aer (a b:Opening):Int:=if a.Flight<b.Flight then -1 else if a.Flight > b.Flight then 1 else if a.Slot<b.Slot then -1 else if a.Slot > b.Slot then 1 else 0
theorem Wc (a b:Opening):Mq a b=.ok (Aer a b):=by
 unfold Mq
 rw [Sx,Sx]
 show(Vm _).bind _=_
 unfold Vm Aer
 generalize (if a.Slot<b.Slot then(-1:Int) else if a.Slot > b.Slot then 1 else 0)=q
 by_cases h1:a.Flight<b.Flight
 ·simp only [if_pos h1]; rfl
 ·simp only [if_neg h1]
  by_cases h2:a.Flight > b.Flight
  ·simp only [if_pos h2]; rfl
  ·simp only [if_neg h2]
   have e0:Nd 0=.ok (.inl ()):=rfl
   have e1:Nd q=if q=0 then .ok (.inl ()) else .ok (.inr q):=by
    unfold Nd
    by_cases hq:q=0
    ·subst hq; rfl
    ·rw [if_pos (by simpa using hq),if_neg hq]
   simp only [Pl,e0,e1,R.bind,Aty]
   by_cases hq:q=0
   ·subst hq; rfl
   ·rw [if_neg hq]
theorem Ac4 {a b:Opening}:Aer a b<0↔a.Flight<b.Flight∨(a.Flight=b.Flight∧a.Slot<b.Slot):=by
 unfold Aer
 split
 ·simp_all
 ·split
  ·constructor
   ·intro h; omega
   ·intro h; omega
  ·split
   ·constructor
    ·intro _; right; omega
    ·intro _; omega
   ·split
    ·constructor <;> intro h <;> omega
    ·constructor <;> intro h <;> omega
theorem Arw {a b:Opening}:Aer a b=0↔a.Flight=b.Flight∧a.Slot=b.Slot:=by
 unfold Aer
 split
 ·constructor <;> intro h <;> omega
 ·split
  ·constructor <;> intro h <;> omega
  ·split
   ·constructor <;> intro h <;> omega
   ·split
    ·constructor <;> intro h <;> omega
    ·constructor <;> intro h <;> omega
theorem Adq (a f:Int):J1 a f=.ok (decide (0≤a∧a<8∧0≤f∧f≤4095)):=by
 unfold J1
 congr 1
 rw [Bool.eq_iff_iff]
 simp only [Bool.and_eq_true,decide_eq_true_eq]
 constructor
 ·intro h; omega
 ·intro h; omega
theorem Afb (c:Int):Jj c=.ok (decide (-1≤c∧c≤1048576)):=by
 unfold Jj
 congr 1
 rw [Bool.eq_iff_iff]
 simp only [Bool.and_eq_true,decide_eq_true_eq]
end Go.Am
namespace Go.Am
open Go
set_option linter.unusedVariables false
set_option linter.unusedSimpArgs false
theorem Ap9 {L:List Int}{x:Int}:x ∈ Pj L↔x ∈ L:=List.mem_mergeSort
theorem Apz (L:List Int):(Pj L).Pairwise (· ≤ ·):=by
 have:=List.pairwise_mergeSort (le:=fun x y:Int=>decide (x≤y)) (fun a b c h1 h2=>by simp at *; omega) (fun a b=>by simp; omega) L
 exact this.imp fun h=>by simpa using h
theorem Ao3 : ∀ {l1 l2:List Int},l1.Pairwise (· < ·)→l2.Pairwise (· < ·)→(∀ x,x ∈ l1↔x ∈ l2)→l1=l2
 | [],[],_,_,_=>rfl
 | [],b::l2,_,_,h=>absurd ((h b).2 (List.mem_cons_self ..)) (by simp)
 | a::l1,[],_,_,h=>absurd ((h a).1 (List.mem_cons_self ..)) (by simp)
 | a::l1,b::l2,h1,h2,h=>by
  have k1:=List.pairwise_cons.1 h1
  have k2:=List.pairwise_cons.1 h2
  have hab:a=b:=by
   rcases List.mem_cons.1 ((h a).1 (List.mem_cons_self ..)) with e | e
   ·exact e
   ·rcases List.mem_cons.1 ((h b).2 (List.mem_cons_self ..)) with e' | e'
    ·exact e'.symm
    ·have:=k2.1 a e; have:=k1.1 b e'; omega
  subst hab
  rw [Ao3 k1.2 k2.2 fun x=>?_]
  constructor
  ·intro hx
   rcases List.mem_cons.1 ((h x).1 (List.mem_cons_of_mem _ hx)) with e | e
   ·have:=k1.1 x hx; omega
   ·exact e
  ·intro hx
   rcases List.mem_cons.1 ((h x).2 (List.mem_cons_of_mem _ hx)) with e | e
   ·have:=k2.1 x hx; omega
   ·exact e
def inA (a:Int):Prop:=0≤a∧a<8
instance (a:Int):Decidable (inA a):=by unfold inA; exact inferInstance
def Nu (owners:List Int):List Int:=((List.range 8).map fun n:Nat=>(n:Int)).filter fun a=>decide (a ∈ owners)
theorem Alt {owners:List Int}{a:Int}:a ∈ Nu owners↔inA a∧a ∈ owners:=by
 unfold Nu inA
 rw [List.mem_filter,List.mem_map]
 constructor
 ·rintro⟨⟨n,hn,rfl⟩,h⟩
  have:=List.mem_range.1 hn
  exact⟨by omega,by simpa using h⟩
 ·rintro⟨h1,h2⟩
  exact⟨⟨a.toNat,List.mem_range.2 (by omega),by omega⟩,by simpa using h2⟩
theorem Aun (owners:List Int):(Nu owners).Pairwise (· < ·):=by
 unfold Nu
 refine List.Pairwise.filter _ ?_
 decide
theorem Ath (owners:List Int):(Nu owners).length≤8:=by
 unfold Nu
 refine Nat.le_trans (List.length_filter_le _ _) ?_
 simp
def many (owners:List Int)(a:Int):Int:=(owners.count a:Int)
theorem Acn (owners:List Int)(hl:owners.length≤1048576):Av (Fw owners) fun r=>r.1=Nu owners ∧ ∀ a,Option.getD (Fj r.2 a) 0=if inA a then many owners a else 0:=by
 unfold Fw
 refine Av.bind (P:=fun s=>(∀ a,Option.getD (Fj s.1 a) 0=if inA a then many owners a else 0)∧s.2.Nodup∧(∀ a,a ∈ s.2↔inA a∧a ∈ owners)∧s.2.length≤owners.length) ?_ ?_
 ·have:=Av.eachS (b:=fun _ a=>D0 fun m airlines=>Ha a m airlines) (I:=fun n s=>(∀ a,Option.getD (Fj s.1 a) 0=if inA a then many (owners.take n) a else 0)∧s.2.Nodup∧(∀ a,a ∈ s.2↔inA a∧a ∈ owners.take n)∧s.2.length≤n) owners 0 ([],[]) ?_ ?_
  ·refine this.mono fun s h=>?_
   simpa using h
  ·refine⟨fun a=>by simp [many],by simp,fun a=>by simp,by simp⟩
  ·rintro j a ⟨m,l⟩ hj ⟨h1,h2,h3,h4⟩
   simp only [Nat.zero_add] at h1 h3 h4 ⊢
   have hjl:j<owners.length:=A6 hj
   have htk:owners.take (j+1)=owners.take j++[a]:=by rw [List.take_add_one,hj]; rfl
   have hcnt : ∀ x,many (owners.take (j+1)) x=many (owners.take j) x+if a=x then 1 else 0:=fun x=>by
    unfold many
    rw [htk,List.count_append]
    by_cases hx:a=x
    ·subst hx; simp
    ·rw [if_neg hx,List.count_singleton,if_neg (by simpa using hx)]; simp
   show Av (Ha a m l) _
   unfold Ha
   by_cases ha:inA a
   case neg=>
    rw [if_pos (by simp only [Bool.or_eq_true,decide_eq_true_eq]; unfold inA at ha; omega)]
    refine Av.ok ⟨fun x=>?_,h2,fun x=>?_,by simp only at h4 ⊢; omega⟩
    ·rw [h1 x]
     by_cases hx:inA x
     ·rw [if_pos hx,if_pos hx,hcnt,if_neg (fun e:a=x=>ha (by rw [e]; exact hx))]; simp
     ·rw [if_neg hx,if_neg hx]
    ·rw [h3 x,htk,List.mem_append,List.mem_singleton]
     constructor
     ·rintro⟨q1,q2⟩; exact⟨q1,.inl q2⟩
     ·rintro⟨q1,q2 | rfl⟩
      ·exact⟨q1,q2⟩
      ·exact absurd q1 ha
   rw [if_neg (by simp only [Bool.or_eq_true,decide_eq_true_eq]; unfold inA at ha; omega)]
   have hm:Option.getD (Fj m a) 0=many (owners.take j) a:=by rw [h1 a,if_pos ha]
   have hcb:0≤many (owners.take j) a∧many (owners.take j) a≤1048576:=by
    have:=List.count_le_length (a:=a) (l:=owners.take j)
    have h':=List.length_take_le j owners
    have h'':=List.length_take_le' j owners
    unfold many; omega
   have hw:IntKind.wrap .i64 (many (owners.take j) a+1)=many (owners.take j) a+1:=Nl (by omega) (by omega)
   have hput : ∀ x,Option.getD (Fj (Mb m a (IntKind.wrap .i64 (Option.getD (Fj m a) 0+1))) x) 0=if inA x then many (owners.take (j+1)) x else 0:=fun x=>by
    rw [Arz,hm,hw]
    by_cases hx:a=x
    ·subst hx; rw [if_pos rfl,if_pos ha,hcnt,if_pos rfl]; rfl
    ·rw [if_neg hx,h1 x]
     by_cases hi:inA x
     ·rw [if_pos hi,if_pos hi,hcnt,if_neg hx]; simp
     ·rw [if_neg hi,if_neg hi]
   have hmem:(many (owners.take j) a=0)↔a ∉ owners.take j:=by
    unfold many
    rw [show((owners.take j).count a:Int)=0↔(owners.take j).count a=0 by omega,List.count_eq_zero]
   refine Av.ite (fun hz=>?_) (fun hz=>?_)
   ·rw [hm] at hz
    have hna:a ∉ owners.take j:=hmem.1 (by simpa using hz)
    refine Av.pos ?_ (Av.ok ⟨hput,?_,fun x=>?_,by simp only [List.length_append,List.length_singleton]; omega⟩)
    ·simp only [List.length_singleton,Cm]; omega
    ·rw [List.nodup_append]
     refine⟨h2,by simp,fun x hx y hy=>?_⟩
     obtain rfl:=List.mem_singleton.1 hy
     intro e; subst e
     exact hna ((h3 _).1 hx).2
    ·rw [List.mem_append,List.mem_singleton,h3 x,htk,List.mem_append,List.mem_singleton]
     constructor
     ·rintro(⟨q1,q2⟩ | rfl)
      ·exact⟨q1,.inl q2⟩
      ·exact⟨ha,.inr rfl⟩
     ·rintro⟨q1,q2 | rfl⟩
      ·exact .inl ⟨q1,q2⟩
      ·exact .inr rfl
   ·rw [hm] at hz
    have hya:a ∈ owners.take j:=by
     by_cases h:a ∈ owners.take j
     ·exact h
     ·exact absurd (hmem.2 h) (by simpa using hz)
    refine Av.ok ⟨hput,h2,fun x=>?_,by simp only at h4 ⊢; omega⟩
    rw [h3 x,htk,List.mem_append,List.mem_singleton]
    constructor
    ·rintro⟨q1,q2⟩; exact⟨q1,.inl q2⟩
    ·rintro⟨q1,q2 | rfl⟩
     ·exact⟨q1,q2⟩
     ·exact⟨q1,hya⟩
 ·rintro⟨m,l⟩ ⟨h1,h2,h3,h4⟩
  show Av ((Mc l).bind fun _=>R.ok ((Pj l),m)) _
  unfold Mc We
  rw [if_pos (by simp only at h4; unfold Cm; omega)]
  refine Av.ok ⟨?_,h1⟩
  have hperm:(Pj l).Perm l:=List.mergeSort_perm l _
  have hnd:(Pj l).Nodup:=hperm.nodup_iff.2 h2
  have hlt:(Pj l).Pairwise (· < ·):=by
   have h1:=Apz l
   have h2:(Pj l).Pairwise (· ≠ ·):=hnd
   exact(h1.and h2).imp fun h=>by omega
  refine Ao3 hlt (Aun owners) fun x=>?_
  rw [Ap9,Alt]
  exact h3 x
structure Formed (c:Clearing):Prop where
 no:1≤c.No∧c.No≤1048576
 slots:1≤c.Slots∧c.Slots≤8
 fl:1≤c.Flights.length∧(c.Flights.length:Int)≤c.Slots
 ow:c.Owners.length=c.Flights.length
 lt:c.Flights.Pairwise (· < ·)
 rng : ∀ f ∈ c.Flights,0≤f∧f≤4095
 own : ∀ a ∈ c.Owners,inA a
 com:c.Commitments.length=(Nu c.Owners).length
theorem Aph (c:Clearing):Av (Ni c) fun r=>(r=true↔Formed c):=by
 unfold Ni
 refine Av.ite (fun h=>?_) (fun h=>?_)
 ·refine Av.ok ⟨fun e=>by simp at e,fun hF=>?_⟩
  simp only [Bool.or_eq_true,decide_eq_true_eq,bne_iff_ne,ne_eq] at h
  have h1:=hF.no; have h2:=hF.slots; have h3:=hF.fl; have h4:=hF.ow
  omega
 ·simp only [Bool.or_eq_true,decide_eq_true_eq,bne_iff_ne,ne_eq,not_or,Decidable.not_not] at h
  obtain⟨⟨⟨⟨⟨⟨n1,n2⟩,n3⟩,n4⟩,n5⟩,n6⟩,n7⟩:=h
  have hE:=Av.each (b:=fun j a=>fun last=>Jy c j a last) (I:=fun n last=>(c.Flights.take n).Pairwise (· < ·)∧(∀ f ∈ c.Flights.take n,0≤f∧f≤4095∧f≤last)∧(∀ a ∈ c.Owners.take n,inA a) ∧ -1≤last∧(last = -1 ∨ ∃ i,i<n∧c.Flights[i]? = some last))
   (E:=fun r:Bool=>r=false∧¬ Formed c) c.Flights 0 (-1) ⟨by simp,by simp,by simp,by omega,.inl rfl⟩ (fun j a last hj hI=>by
    simp only [Nat.zero_add] at hI ⊢
    obtain⟨p1,p2,p3,p4,p5⟩:=hI
    have hjl:j<c.Flights.length:=A6 hj
    obtain⟨w,hw⟩ : ∃ w,c.Owners[j]? = some w:=⟨_,List.getElem?_eq_getElem (by omega)⟩
    have ht1:c.Flights.take (j+1)=c.Flights.take j++[a]:=by rw [List.take_add_one,hj]; rfl
    have ht2:c.Owners.take (j+1)=c.Owners.take j++[w]:=by rw [List.take_add_one,hw]; rfl
    unfold Jy
    rw [L3 hw]
    by_cases q1:a≤last∨a > 4095
    ·rw [if_pos (by simpa using q1)]
     refine Av.ok ⟨rfl,fun hF=>?_⟩
     have hr:=hF.rng a (List.mem_of_getElem? hj)
     rcases q1 with q1 | q1
     ·rcases p5 with p5 | ⟨i,hi,hl⟩
      ·omega
      ·have hil:i<c.Flights.length:=A6 hl
       have:=List.pairwise_iff_getElem.1 hF.lt i j hil hjl hi
       rw [List.getElem?_eq_getElem hil] at hl
       rw [List.getElem?_eq_getElem hjl] at hj
       simp only [Option.some.injEq] at hl hj
       omega
     ·omega
    ·rw [if_neg (by simpa using q1)]
     simp only [R.bind]
     by_cases q2:w<0
     ·simp only [q2,decide_true,if_true]
      exact Av.ok ⟨rfl,fun hF=>by have:=hF.own w (List.mem_of_getElem? hw); unfold inA at this; omega⟩
     ·simp only [q2,decide_false,if_false,Bool.false_eq_true]
      by_cases q3:w≥8
      ·simp only [q3,decide_true,if_true]
       exact Av.ok ⟨rfl,fun hF=>by have:=hF.own w (List.mem_of_getElem? hw); unfold inA at this; omega⟩
      ·simp only [q3,decide_false,if_false,Bool.false_eq_true]
       refine Av.ok ⟨?_,?_,?_,by omega,.inr ⟨j,by omega,hj⟩⟩
       ·rw [ht1,List.pairwise_append]
        refine⟨p1,by simp,fun x hx y hy=>?_⟩
        obtain rfl:=List.mem_singleton.1 hy
        have:=(p2 x hx).2.2; omega
       ·intro f hf
        rw [ht1,List.mem_append,List.mem_singleton] at hf
        rcases hf with hf | rfl
        ·have:=p2 f hf; omega
        ·omega
       ·intro x hx
        rw [ht2,List.mem_append,List.mem_singleton] at hx
        rcases hx with hx | rfl
        ·exact p3 x hx
        ·unfold inA; omega)
  refine hE.bind fun x hx=>Av.alt hx (fun last hl=>?_) (fun r hr=>?_)
  ·simp only [Yz,Nat.zero_add,List.take_length] at hl
   obtain⟨p1,p2,p3,_⟩:=hl
   have hol:c.Owners.length=c.Flights.length:=by omega
   rw [← hol,List.take_length] at p3
   refine(Acn c.Owners (by omega)).bind fun r hr=>Av.ok ?_
   rw [hr.1]
   constructor
   ·intro e
    have e':c.Commitments.length=(Nu c.Owners).length:=by have:=of_decide_eq_true e; omega
    exact⟨by omega,by omega,by omega,hol,p1,fun f hf=>⟨(p2 f hf).1,(p2 f hf).2.1⟩,p3,e'⟩
   ·intro hF
    rw [hF.com]; simp
  ·obtain⟨rfl,hn⟩:=hr
   exact Av.ok ⟨fun e=>by simp at e,fun hF=>absurd hF hn⟩
end Go.Am
namespace Go.Am
open Go
set_option linter.unusedVariables false
set_option linter.unusedSimpArgs false
abbrev Cp {α:Type}(m:R α):Prop:=Av m fun _=>True
theorem Cp.ok {α:Type}(a:α):Cp (.ok a):=⟨a,rfl,trivial⟩
theorem Cp.bind {α β:Type}{m:R α}{f:α→R β}{Q:β→Prop}(h:Cp m)(k : ∀ a,Av (f a) Q):Av (m.bind f) Q:=Av.bind h fun a _=>k a
theorem Av.tot {α:Type}{m:R α}{P:α→Prop}(h:Av m P):Cp m:=h.mono fun _ _=>trivial
theorem Cp.eachS {α σ:Type}{b:Nat→α→σ→R σ}(l:List α)(k:Nat)(s:σ)(hb : ∀ (j:Nat) a s,l[j]? = some a→Cp (b (k+j) a s)):Cp (eachS b k l s):=
 Av.eachS (I:=fun _ _=>True) l k s trivial fun j a s hj _=>hb j a s hj
noncomputable def R.val {α:Type}[Inhabited α]:R α→α
 | .ok a=>a
 | _=>default
theorem Cp.eq {α:Type}[Inhabited α]{m:R α}(h:Cp m):m=.ok m.val:=by
 obtain⟨a,rfl,_⟩:=h
 rfl
instance:Inhabited (Vector Int 32):=⟨B3 32 0⟩
theorem Aff (n:Int):0≤IntKind.wrap .u64 n:=by simp [IntKind.wrap,IntKind.bits,IntKind.signed]; omega
theorem An9 (a b:Int):0≤E9 .u64 a b:=Aff _
theorem Wy (a k:Int):Cp (Dq a k):=by
 unfold Dq
 rw [if_pos (An9 _ _),if_pos (Aff _)]
 exact Cp.ok _
theorem Aga (v a b c:Int):Cp (N7 v a b c):=by
 unfold N7
 exact(Wy _ _).bind fun _=>(Wy _ _).bind fun _=>(Wy _ _).bind fun _=>Cp.ok _
theorem Ato (b:List Int)(h:4≤b.length):Cp (T5 b):=by
 unfold T5
 rw [if_pos ⟨by decide,by omega⟩]
 exact(Cp.eachS _ _ _ fun j a s _=>Cp.ok _).bind fun _=>Cp.ok _
theorem Ah8 (b:List Int)(s:Vector Int 8)(h:b.length=64):Cp (E4 b s):=by
 unfold E4
 refine Cp.bind (Cp.eachS _ _ _ fun j a o hj=>?_) fun o=>?_
 ·have hj':j<16:=by have:=A6 hj; simpa using this
  unfold H2
  simp only [Nat.zero_add]
  rw [Nl (by omega) (by omega),if_pos ⟨by omega,by omega⟩]
  refine Cp.bind (Ato _ (by rw [List.length_drop]; omega)) fun _=>Cp.ok _
 ·refine Cp.bind (Av.loop (I:=fun s:Int×Vector Int 64=>16≤s.1∧s.1≤64) (E:=fun _=>True) (fun s=>(64 - s.1).toNat) ?_ 64 (16,o) (by simp) ⟨Int.le_refl _,by show(16:Int)≤64; decide⟩) fun o2=>?_
  ·rintro⟨x,o1⟩ ⟨h1,h2⟩
   show Av (Fp x o1) _
   simp only at h1 h2
   unfold Fp
   by_cases hx:x<64
   ·rw [if_pos hx,Nl (n:=x - 15) (by omega) (by omega),Nl (n:=x - 2) (by omega) (by omega),Nl (n:=x - 16) (by omega) (by omega),Nl (n:=x - 7) (by omega) (by omega),
     if_pos ⟨by omega,by omega⟩,if_pos ⟨by omega,by omega⟩,if_pos ⟨by omega,by omega⟩,if_pos ⟨by omega,by omega⟩]
    refine(Wy _ _).bind fun _=>(Wy _ _).bind fun _=>(Wy _ _).bind fun _=>(Wy _ _).bind fun _=>?_
    rw [if_pos ⟨by omega,hx⟩,Nl (n:=x+1) (by omega) (by omega)]
    exact Av.ok ⟨⟨by simp only; omega,by simp only; omega⟩,by simp only; omega⟩
   ·rw [if_neg hx]; exact Av.ok trivial
  ·unfold Gq
   refine Cp.bind (Cp.eachS _ _ _ fun j a o _=>?_) fun o3=>Cp.bind (Cp.eachS _ _ _ fun j a o _=>Cp.ok _) fun _=>Cp.ok _
   unfold Jq
   refine(Aga _ _ _ _).bind fun _=>(Aga _ _ _ _).bind fun _=>?_
   rw [if_pos (List.length_take_le _ _)]
   exact Cp.ok _
theorem Aol (c cp:Nat)(n:Int)(s:Vector Int 128):Cp (Nv c cp n s):=by
 unfold Nv
 refine Cp.bind (Cp.eachS _ _ _ fun j a o hj=>?_) fun _=>Cp.ok _
 have hj':j<8:=by have:=A6 hj; simpa using this
 unfold Rt
 simp only [Nat.zero_add]
 rw [Nl (n:=8 * (j:Int)) (by omega) (by omega),Nl (n:=7 - (j:Int)) (by omega) (by omega),if_pos (by omega),if_pos ⟨by omega,by omega⟩]
 exact Cp.ok _
theorem Ass (c cp:Nat)(n:Int)(s:Vector Int 32):Cp (N9 c cp n s):=by
 unfold N9
 refine Cp.bind (Cp.eachS _ _ _ fun j a o hj=>?_) fun _=>Cp.ok _
 have hj':j<4:=by have:=A6 hj; simpa using this
 unfold Pp
 simp only [Nat.zero_add]
 rw [Nl (n:=8 * (j:Int)) (by omega) (by omega),Nl (n:=3 - (j:Int)) (by omega) (by omega),if_pos (by omega),if_pos ⟨by omega,by omega⟩]
 exact Cp.ok _
theorem Aiu (r:List Int)(o:Vector Int 8)(k:Nat)(h:r.length=64 * k):Cp (loop (D0 fun vend o2=>Iw vend o2) (r,o)):=by
 refine Av.loop (I:=fun s:List Int×Vector Int 8 => ∃ k,s.1.length=64 * k) (E:=fun _=>True) (fun s=>s.1.length) ?_ r.length (r,o) (Nat.le_refl _) ⟨k,h⟩
 rintro⟨v,o⟩ ⟨k,hk⟩
 show Av (Iw v o) _
 simp only at hk
 unfold Iw
 by_cases hv:(v.length:Int) > 0
 ·rw [if_pos hv,if_pos ⟨by decide,by omega⟩]
  refine Cp.bind (Ah8 _ _ (by rw [List.length_take,show Int.toNat 64=64 from rfl]; omega)) fun _=>?_
  rw [if_pos ⟨by decide,by omega⟩]
  refine Av.ok ⟨⟨k - 1,?_⟩,?_⟩
  ·simp only [List.length_drop,show Int.toNat 64=64 from rfl]; omega
  ·simp only [List.length_drop,show Int.toNat 64=64 from rfl]; omega
 ·rw [if_neg hv]; exact Av.ok trivial
theorem Aqq:Ng=Iw:=rfl
theorem Aht (o:Vector Int 8):Cp (Lf o):=by
 unfold Lf
 refine Cp.bind (Cp.eachS _ _ _ fun j a o4 hj=>?_) fun _=>Cp.ok _
 have hj':j<8:=by have:=A6 hj; simpa using this
 unfold Rs
 simp only [Nat.zero_add]
 rw [Nl (n:=4 * (j:Int)) (by omega) (by omega),Nl (n:=4 * (j:Int)+4) (by omega) (by omega),if_pos ⟨rfl,by omega,by omega⟩]
 exact(Ass _ _ _ _).bind fun _=>Cp.ok _
theorem Aqw:O7=Lf:=rfl
theorem Aon (b:List Int):Cp (Dk b):=by
 unfold Dk
 refine Av.bind (P:=fun s:List Int×Vector Int 8=>s.1.length<64) (Av.loop (I:=fun s:List Int×Vector Int 8=>True) (fun s=>s.1.length) ?_ b.length (b,Ace) (Nat.le_refl _) trivial) ?_
 ·rintro⟨r,o⟩ _
  show Av (Lg r o) _
  unfold Lg
  by_cases hr:(r.length:Int)≥64
  ·rw [if_pos hr,if_pos ⟨by decide,by omega⟩]
   refine Cp.bind (Ah8 _ _ (by rw [List.length_take,show Int.toNat 64=64 from rfl]; omega)) fun _=>?_
   rw [if_pos ⟨by decide,by omega⟩]
   refine Av.ok ⟨trivial,?_⟩
   simp only [List.length_drop,show Int.toNat 64=64 from rfl]; omega
  ·rw [if_neg hr]; exact Av.ok (by simp only; omega)
 ·rintro⟨r,o⟩ hr
  show Av (Ld b r o) _
  simp only at hr
  unfold Ld
  rw [if_pos (by omega),if_pos ⟨by omega,by omega⟩]
  refine Av.ite (fun h=>?_) (fun h=>?_)
  ·exact(Aol _ _ _ _).bind fun r1=>(Aiu _ _ 2 (by simp)).bind fun _=>Aht _
  ·rw [Aqq,Aqw]
   exact(Aol _ _ _ _).bind fun r1=>(Aiu _ _ 1 (by simp)).bind fun _=>Aht _
theorem Ae7 (a b:List Int)(h:a.length+b.length≤1048576):Gl [a,b]=.ok (a++b):=by
 unfold Gl
 have e1:eachS (fun _ a=>fun size=>If a size) 0 [a,b] 0=.ok ((a.length:Int)+(b.length:Int)):=by
  simp only [P4,Yq,If]
  rw [Nl (n:=0+(a.length:Int)) (by omega) (by omega),if_neg (by omega)]
  simp only [R.bind]
  rw [Nl (by omega) (by omega),if_neg (by omega)]
  simp
 rw [e1]
 simp only [R.bind]
 have e2:Ij ((a.length:Int)+(b.length:Int))=.ok []:=by
  unfold Ij
  rw [if_neg (by omega),Nl (by omega) (by omega)]
  by_cases h0:(a.length:Int)+(b.length:Int) - 0 > 0
  ·rw [if_pos h0,if_pos ⟨by omega,by unfold Cm; omega⟩,if_pos ⟨by decide,by omega⟩]; rfl
  ·rw [if_neg h0]
 rw [e2]
 simp only [R.bind,P4,Yq,Ie]
 rw [if_pos (by simp only [List.length_nil,Cm]; omega)]
 simp only [R.bind,List.nil_append]
 rw [if_pos (by unfold Cm; omega)]
theorem Acj (tag:To)(b:List Int)(ht:tag.length≤16)(hb:b.length≤1048000):Cp (Hp tag b):=by
 unfold Hp
 rw [if_pos (by unfold Cm; omega)]
 refine(Aon _).bind fun r=>?_
 rw [Ae7 _ _ (by rw [Vector.length_toList]; omega)]
 exact(Aon _).bind fun _=>Cp.ok _
noncomputable def Aue (d:Vector Int 32):Vector Int 32:=(Mi d).val
noncomputable def Apx (a b:Vector Int 32):Vector Int 32:=(Kp a b).val
theorem Auh (d:Vector Int 32):Mi d=.ok (Aue d):=by
 refine Cp.eq ?_
 unfold Mi
 exact(Acj _ _ (by decide) (by rw [Vector.length_toList]; decide)).bind fun _=>Cp.ok _
theorem Avq (a b:Vector Int 32):Kp a b=.ok (Apx a b):=by
 refine Cp.eq ?_
 unfold Kp
 rw [Ae7 _ _ (by rw [Vector.length_toList,Vector.length_toList]; decide)]
 exact(Acj _ _ (by decide) (by simp)).bind fun _=>Cp.ok _
theorem Agq (u:Int)(l:List Int)(hu:0≤u∧u<18446744073709551616)(hl:l.length≤1000):Av (Gj u l) fun r=>l.length<r.length∧r.length≤l.length+11:=by
 unfold Gj
 refine Av.bind (P:=fun s:Int×List Int=>l.length≤s.2.length∧s.2.length≤l.length+10) (Av.loop (I:=fun s:Int×List Int => ∃ k:Nat,k≤10∧s.2.length=l.length+k∧0≤s.1∧s.1 * 128 ^ k<1180591620717411303424) (fun s=>s.1.toNat) ?_ u.toNat (u,l) (Nat.le_refl _) ⟨0,by omega,rfl,hu.1,by simp only [Int.pow_zero]; omega⟩) ?_
 ·rintro⟨u1,b⟩ ⟨k,h1,h2,h3,h4⟩
  show Av (Ik u1 b) _
  simp only at h2 h3 h4
  unfold Ik
  by_cases hu1:u1≥128
  ·have hk:k<10:=by
    rcases Nat.lt_or_ge k 10 with h | h
    ·exact h
    ·obtain rfl:k=10:=by omega
     rw [show(128:Int) ^ 10=1180591620717411303424 from rfl] at h4
     omega
   rw [if_pos hu1,if_pos (by simp only [List.length_singleton,Cm]; omega)]
   refine Av.ok ⟨⟨k+1,by omega,by simp only [List.length_append,List.length_singleton]; omega,by simp only; exact Int.fdiv_nonneg h3 (by decide),?_⟩,?_⟩
   ·simp only
    rw [Int.fdiv_eq_ediv_of_nonneg _ (by decide),Int.pow_succ]
    have h5:u1 / 128 * 128≤u1:=Int.ediv_mul_le _ (by decide)
    have h6:(0:Int)≤128 ^ k:=Int.pow_nonneg (by decide)
    calc u1 / 128 * (128 ^ k * 128)=(u1 / 128 * 128) * 128 ^ k:=by rw [Int.mul_comm (128 ^ k) 128,← Int.mul_assoc]
     _≤u1 * 128 ^ k:=Int.mul_le_mul_of_nonneg_right h5 h6
     _<_:=h4
   ·simp only
    rw [Int.fdiv_eq_ediv_of_nonneg _ (by decide)]
    omega
  ·rw [if_neg hu1]; exact Av.ok ⟨by simp only; omega,by simp only; omega⟩
 ·rintro⟨u2,b⟩ ⟨h1,h2⟩
  show Av (Io u2 b) _
  simp only at h1 h2
  unfold Io
  rw [if_pos (by simp only [List.length_singleton,Cm]; omega)]
  exact Av.ok ⟨by simp only [List.length_append,List.length_singleton]; omega,by simp only [List.length_append,List.length_singleton]; omega⟩
theorem Ao9 (n:Int):IntKind.wrap .u64 n<18446744073709551616:=by simp [IntKind.wrap,IntKind.bits,IntKind.signed]; omega
theorem Awh (v:Value)(l:List Int)(hl:l.length≤900):Av (Eo v l) fun r=>l.length<r.length∧r.length≤l.length+12:=by
 unfold Eo
 rw [if_pos (by simp only [List.length_singleton,Cm]; omega)]
 unfold Qm
 simp only [R.bind]
 refine(Agq _ _ ⟨Aff _,Ao9 _⟩ (by simp only [List.length_append,List.length_singleton]; omega)).bind fun r hr=>Av.ok ?_
 simp only [List.length_append,List.length_singleton] at hr
 omega
abbrev Ab5 (n:Int):Value:={ Kind:=1,N:=n,S:=[],L:=[] }
theorem Ap3 (n:Nat)(a:Int):Hv (n+1) (Ab5 a)=.ok (0,true):=by
 rw [Hv]
 rfl
theorem Aob (l:List Int)(hl:l.length≤8) : ∃ b,(b≤1)∧Q1 ({ Kind:=3,N:=0,S:=[],L:=l.map Ab5 }:Value)=.ok (b,true):=by
 unfold Q1
 rw [Uz,show(4000000:Nat)=3999998+1+1 from rfl,Hv]
 unfold N1
 have e : ∀ (l:List Int) (k:Nat),each (fun _ a=>fun depth=>G7 (Hv (3999998+1)) a depth) k (l.map Ab5) 0=.ok (.inl 0):=by
  intro l
  induction l with
  | nil=>intro k; rfl
  | cons a l ih=>
   intro k
   rw [List.map_cons,Pl]
   have:G7 (Hv (3999998+1)) (Ab5 a) 0=.ok (.inl 0):=by
    unfold G7
    rw [Ap3]
    rfl
   rw [this]
   exact ih (k+1)
 refine⟨1,by decide,?_⟩
 have h1:((decide ((3:Int)<1))||(decide ((3:Int) > 3)))=false:=by decide
 simp only [h1,Bool.false_eq_true,if_false]
 rw [if_pos (by decide)]
 simp only [R.bind,e]
 rfl
theorem Ap1 (l:List Int)(hl:l.length≤8):Av (Mv ({ Kind:=3,N:=0,S:=[],L:=l.map Ab5 }:Value)) fun r=>r.2=0∧r.1.length≠0∧r.1.length≤200:=by
 obtain⟨b,hb,e⟩:=Aob l hl
 have e1:P8 ({ Kind:=3,N:=0,S:=[],L:=l.map Ab5 }:Value)=.ok 0:=by
  unfold P8
  rw [e]
  simp only [R.bind]
  rw [if_pos trivial,if_neg (by omega)]
 unfold Mv
 rw [e1]
 simp only [R.bind]
 rw [if_neg (by decide)]
 unfold K8
 simp only [R.bind]
 rw [if_neg (by decide),if_neg (by decide),if_neg (by decide),if_pos trivial]
 refine Av.bind (P:=fun r:List Int=>r.length≠0∧r.length≤200) ?_ fun r hr=>Av.ok ⟨rfl,hr⟩
 unfold Ip
 rw [if_pos (by decide)]
 refine(Agq _ _ ⟨Aff _,Ao9 _⟩ (by decide)).bind fun r hr=>?_
 refine Av.bind (P:=fun r:List Int=>r.length≠0∧r.length≤200) ?_ fun r hr=>Av.ok hr
 have:=Av.eachS (b:=fun _ a=>fun b1=>F1 a b1) (I:=fun n (r:List Int)=>r.length≠0∧r.length≤12+12 * n) (l.map Ab5) 0 r ⟨by have:=hr.1; omega,by have:=hr.2; simp only [List.length_singleton] at this; omega⟩ (fun j a s hj hI=>by
  rw [List.getElem?_map] at hj
  obtain⟨x,hx,rfl⟩:=Option.map_eq_some_iff.1 hj
  have hjl:j<l.length:=A6 hx
  unfold F1
  rw [if_neg (by show ¬ (1:Int)=0; decide),if_pos rfl]
  refine(Awh _ _ (by omega)).bind fun r hr=>Av.ok ⟨by omega,by omega⟩)
 refine this.mono fun s hs=>⟨hs.1,?_⟩
 have:=hs.2
 rw [List.length_map] at this
 omega
theorem Aqx (salt:Vector Int 32)(l:List Int)(hl:l.length≤8):Cp (Fx salt l):=by
 unfold Fx
 have e:eachS (fun _ a=>fun l1=>Hb a l1) 0 l []=.ok (l.map Ab5):=by
  have:=Av.eachS (b:=fun _ a=>fun l1=>Hb a l1) (I:=fun n (r:List Value)=>r=(l.take n).map Ab5) l 0 [] rfl (fun j a s hj hI=>by
   simp only [Nat.zero_add] at hI ⊢
   subst hI
   have hjl:j<l.length:=A6 hj
   unfold Hb
   rw [if_pos (by simp only [List.length_singleton,List.length_map,List.length_take,Cm]; omega)]
   refine Av.ok ?_
   rw [List.take_add_one,hj]
   simp)
  refine Av.eq (this.mono fun s hs=>?_)
  rw [hs,Nat.zero_add,List.take_length]
 rw [e]
 simp only [R.bind]
 refine(Ap1 l hl).bind fun r hr=>?_
 rw [if_pos ⟨hr.2.1,by unfold Cm; omega⟩]
 exact(Acj _ _ (by decide) (by rw [List.length_append,Vector.length_toList]; omega)).bind fun _=>Cp.ok _
noncomputable def Zh (salt:Vector Int 32)(l:List Int):Vector Int 32:=(Fx salt l).val
theorem Atg (salt:Vector Int 32)(l:List Int)(hl:l.length≤8):Fx salt l=.ok (Zh salt l):=(Aqx salt l hl).eq
end Go.Am
namespace Go.Am
open Go
set_option linter.unusedVariables false
set_option linter.unusedSimpArgs false
def Ii (n:Int):Int:=if n≤2 then 1 else if n≤4 then 2 else 4
theorem Axb:Gw 2=.ok 1:=by kernel_rfl
theorem Axd:Gw 3=.ok 2:=by kernel_rfl
theorem Aw5:Gw 4=.ok 2:=by kernel_rfl
theorem Axf:Gw 5=.ok 4:=by kernel_rfl
theorem Axh:Gw 6=.ok 4:=by kernel_rfl
theorem Axm:Gw 7=.ok 4:=by kernel_rfl
theorem Axn:Gw 8=.ok 4:=by kernel_rfl
theorem Au7 (n:Int)(h1:2≤n)(h2:n≤8):Gw n=.ok (Ii n):=by
 have:n=2∨n=3∨n=4∨n=5∨n=6∨n=7∨n=8:=by omega
 rcases this with rfl | rfl | rfl | rfl | rfl | rfl | rfl
 ·exact Axb
 ·exact Axd
 ·exact Aw5
 ·exact Axf
 ·exact Axh
 ·exact Axm
 ·exact Axn
theorem Akg (n:Int)(h1:2≤n)(h2:n≤8):1≤Ii n∧Ii n<n:=by
 unfold Ii
 split
 ·omega
 ·split <;> omega
def D6:Nat→Int→Int→List Bool
 | 0,_,_=>[]
 | f+1,a,n=>if n > 1 then decide (a<Ii n)::(if a<Ii n then D6 f a (Ii n) else D6 f (a - Ii n) (n - Ii n)) else []
theorem Aei : ∀ (f:Nat) (a n:Int),(D6 f a n).length≤f
 | 0,_,_=>Nat.le_refl _
 | f+1,a,n=>by
  unfold D6
  split
  ·simp only [List.length_cons]
   split
   ·have:=Aei f a (Ii n); omega
   ·have:=Aei f (a - Ii n) (n - Ii n); omega
  ·simp
theorem Al9 (a n:Int)(l:List Bool)(h:¬ n > 1):Gi a n l=.ok (.inr l):=by unfold Gi; rw [if_neg h]
theorem Ano (a n:Int)(l:List Bool)(h0:0≤a)(ha:a<n)(h:n > 1)(h3:n≤8)(hl:l.length≤100):Gi a n l=.ok (.inl (if a<Ii n then(a,Ii n,l++[decide (a<Ii n)]) else(a - Ii n,n - Ii n,l++[decide (a<Ii n)]))):=by
 have hr:=Akg n (by omega) h3
 unfold Gi
 rw [if_pos h,Au7 n (by omega) h3]
 simp only [R.bind]
 rw [if_pos (by simp only [List.length_singleton,Cm]; omega)]
 by_cases q:a<Ii n
 ·rw [if_pos q,if_pos q]
 ·rw [if_neg q,if_neg q,Nl (by omega) (by omega),Nl (by omega) (by omega)]
theorem Ach : ∀ (f:Nat) (a n:Int) (l:List Bool),0≤a→a<n→n≤8→n≤(f:Int)+1→l.length+f≤100 →
  loop (Sk fun vat1 n1 first=>Gi vat1 n1 first) (a,n,l)=.ok (l++D6 f a n)
 | f,a,n,l,h1,h2,h3,h4,h5=>by
  rw [Aop]
  show((Gi a n l).bind _)=_
  by_cases hn:n > 1
  case neg=>
   rw [Al9 a n l hn]
   cases f with
   | zero=>simp [R.bind,D6]
   | succ f=>unfold D6; rw [if_neg hn]; simp [R.bind]
  cases f with
  | zero=>omega
  | succ f=>
   have hr:=Akg n (by omega) h3
   rw [Ano a n l h1 h2 hn h3 (by omega)]
   simp only [R.bind]
   by_cases ha:a<Ii n
   ·rw [if_pos ha]
    rw [Ach f a (Ii n) _ h1 ha (by omega) (by omega) (by simp only [List.length_append,List.length_singleton]; omega)]
    rw [show D6 (f+1) a n=decide (a<Ii n)::D6 f a (Ii n) by rw [D6,if_pos hn,if_pos ha]]
    simp
   ·rw [if_neg ha]
    rw [Ach f (a - Ii n) (n - Ii n) _ (by omega) (by omega) (by omega) (by omega) (by simp only [List.length_append,List.length_singleton]; omega)]
    rw [show D6 (f+1) a n=decide (a<Ii n)::D6 f (a - Ii n) (n - Ii n) by rw [D6,if_pos hn,if_neg ha]]
    simp
noncomputable def up1 (x:Vector Int 32)(q:Vector Int 32×Bool):Vector Int 32:=if q.2 then Apx x q.1 else Apx q.1 x
noncomputable def Of (d:Vector Int 32)(ts:List Bool)(p:List (Vector Int 32)):Vector Int 32:=(p.zip ts.reverse).foldl up1 (Aue d)
theorem Anr (j:Nat)(a x:Vector Int 32)(ts:List Bool)(ht:ts.length≤100)(hj:j<ts.length):G6 j a x ts=.ok (up1 x (a,ts[ts.length - 1 - j]'(by omega)),ts):=by
 unfold G6
 rw [Nl (n:=(ts.length:Int) - 1) (by omega) (by omega),Nl (by omega) (by omega),show(ts.length:Int) - 1 - (j:Int)=((ts.length - 1 - j:Nat):Int) by omega,L3 (List.getElem?_eq_getElem (show ts.length - 1 - j<ts.length by omega))]
 simp only [R.bind,up1,Avq]
 split <;> rfl
theorem Ami (ts:List Bool)(ht:ts.length≤100) : ∀ (p:List (Vector Int 32)) (k:Nat) (x:Vector Int 32),k+p.length=ts.length →
  eachS (fun j a=>D0 fun o first2=>G6 j a o first2) k p (x,ts)=.ok ((p.zip (ts.reverse.drop k)).foldl up1 x,ts)
 | [],k,x,h=>by simp [Yq]
 | a::p,k,x,h=>by
  have hk:k<ts.length:=by simp only [List.length_cons] at h; omega
  rw [P4]
  show((G6 k a x ts).bind _)=_
  have hd:ts.reverse.drop k=(ts[ts.length - 1 - k]'(by omega))::ts.reverse.drop (k+1):=by
   rw [List.drop_eq_getElem_cons (by rw [List.length_reverse]; exact hk)]
   congr 1
   rw [List.getElem_reverse]
  rw [hd,List.zip_cons_cons,List.foldl_cons,Anr k a x ts ht hk]
  exact Ami ts ht p (k+1) _ (by simp only [List.length_cons] at h; omega)
theorem Alm (d:Vector Int 32)(a n:Int)(p:List (Vector Int 32))(h1:1≤n)(h2:n≤8) :
  Mw d a n p=.ok (if 0≤a∧a<n∧p.length=(D6 8 a n).length then(Of d (D6 8 a n) p,0) else(zD,1)):=by
 unfold Mw
 by_cases ha:0≤a∧a<n
 case neg=>
  rw [if_pos (by simp only [Bool.or_eq_true,decide_eq_true_eq]; omega),if_neg (by omega)]
  rfl
 rw [if_neg (by simp only [Bool.or_eq_true,decide_eq_true_eq]; omega)]
 rw [Ach 8 a n [] ha.1 ha.2 h2 (by omega) (by decide),List.nil_append]
 simp only [R.bind]
 unfold Ku
 have hl:=Aei 8 a n
 by_cases hp:p.length=(D6 8 a n).length
 ·rw [if_neg (by simp [hp]),if_pos ⟨ha.1,ha.2,hp⟩,Auh]
  simp only [R.bind]
  rw [Ami _ (by omega) p 0 _ (by omega)]
  simp only [R.bind,D0,List.drop_zero]
  rfl
 ·rw [if_pos (by simp; omega),if_neg (fun h=>hp h.2.2)]
  rfl
def Alh (a f:Int):Prop:=0≤a∧a<8∧0≤f∧f≤4095
def Ab8 (d:Vector Int 32)(airline tables slots:Int)(o:Opening):Prop:=
 1≤tables∧tables≤8∧1≤slots∧slots≤8∧o.Airline=airline∧Alh o.Airline o.Flight∧0≤o.Slot∧o.Slot<slots∧(-1≤o.Cost∧o.Cost≤1048576) ∧
 ∃ n:Nat,n≤o.Path.length∧(o.Path.take n).length=(D6 8 o.Slot slots).length ∧ ∃ at_:Int,0≤at_∧at_<tables∧(o.Path.drop n).length=(D6 8 at_ tables).length ∧
  Of (Of (Zh o.Salt [o.Airline,o.Flight,o.Slot,o.Cost]) (D6 8 o.Slot slots) (o.Path.take n)) (D6 8 at_ tables) (o.Path.drop n)=d
theorem Api (d:Vector Int 32)(airline tables slots:Int)(o:Opening)(hp:o.Path.length≤1000) :
  Av (Jh d airline tables slots o) fun e=>(e=0∧Ab8 d airline tables slots o)∨(e=360∧¬ Ab8 d airline tables slots o):=by
 unfold Jh
 rw [Adq,Afb]
 by_cases q1:tables<1∨tables > 8∨slots<1∨slots > 8∨o.Airline≠airline
 ·rw [if_pos (by simp only [Bool.or_eq_true,decide_eq_true_eq,bne_iff_ne]; omega)]
  simp only [R.bind,Bool.true_or,if_true]
  refine Av.ok (.inr ⟨rfl,fun h=>?_⟩)
  obtain⟨h1,h2,h3,h4,h5,_⟩:=h
  omega
 rw [if_neg (by simp only [Bool.or_eq_true,decide_eq_true_eq,bne_iff_ne]; omega)]
 simp only [R.bind]
 by_cases q2:Alh o.Airline o.Flight∧0≤o.Slot∧o.Slot<slots
 case neg=>
  rw [if_pos (by
   simp only [Bool.or_eq_true,Bool.not_eq_true',decide_eq_true_eq,decide_eq_false_iff_not]
   unfold Alh at q2
   omega)]
  simp only [if_true]
  refine Av.ok (.inr ⟨rfl,fun h=>q2 ?_⟩)
  obtain⟨h1,h2,h3,h4,h5,h6,h7,h8,_⟩:=h
  exact⟨h6,h7,h8⟩
 obtain⟨q2,q3,q4⟩:=q2
 rw [if_neg (by
  simp only [Bool.or_eq_true,Bool.not_eq_true',decide_eq_true_eq,decide_eq_false_iff_not]
  have:=q2
  unfold Alh at this
  omega)]
 simp only [R.bind]
 by_cases q5 : -1≤o.Cost∧o.Cost≤1048576
 case neg=>
  rw [if_pos (by simp only [Bool.not_eq_true',decide_eq_false_iff_not]; exact q5)]
  refine Av.ok (.inr ⟨rfl,fun h=>q5 ?_⟩)
  obtain⟨h1,h2,h3,h4,h5,h6,h7,h8,h9,_⟩:=h
  exact h9
 rw [if_neg (by simp only [Bool.not_eq_true',decide_eq_false_iff_not,Decidable.not_not]; exact q5),Atg _ _ (by simp)]
 simp only [R.bind]
 have hV : ∀ n:Nat,n≤o.Path.length→(o.Path.take n).length=(D6 8 o.Slot slots).length → ∀ at_:Int,0≤at_→at_<tables→(o.Path.drop n).length=(D6 8 at_ tables).length →
   Of (Of (Zh o.Salt [o.Airline,o.Flight,o.Slot,o.Cost]) (D6 8 o.Slot slots) (o.Path.take n)) (D6 8 at_ tables) (o.Path.drop n)=d→Ab8 d airline tables slots o:=by
  intro n h1 h2 at_ h3 h4 h5 h6
  exact⟨by omega,by omega,by omega,by omega,by omega,q2,q3,q4,q5,n,h1,h2,at_,h3,h4,h5,h6⟩
 refine Av.bind (P:=fun x:Unit ⊕ Int=>(x=.inl ()∧¬ Ab8 d airline tables slots o)∨(x=.inr 0∧Ab8 d airline tables slots o))
  (Av.loop (I:=fun x:Int=>0≤x∧x≤(o.Path.length:Int)+1 ∧ ∀ n:Nat,(n:Int)<x→(o.Path.take n).length=(D6 8 o.Slot slots).length → ∀ at_:Int,0≤at_→at_<tables→(o.Path.drop n).length=(D6 8 at_ tables).length →
   Of (Of (Zh o.Salt [o.Airline,o.Flight,o.Slot,o.Cost]) (D6 8 o.Slot slots) (o.Path.take n)) (D6 8 at_ tables) (o.Path.drop n)≠d) (fun x=>((o.Path.length:Int)+1 - x).toNat) ?_ (o.Path.length+1) 0 (by omega) ⟨by omega,by omega,fun n h=>absurd h (by omega)⟩) ?_
 ·intro x ⟨x1,x2,x3⟩
  unfold Fk
  rw [Nl (n:=(o.Path.length:Int)+1) (by omega) (by omega)]
  by_cases hx:x<(o.Path.length:Int)+1
  case neg=>
   rw [if_neg hx]
   refine Av.ok (.inl ⟨rfl,fun h=>?_⟩)
   obtain⟨h1,h2,h3,h4,h5,h6,h7,h8,h9,n,k1,k2,at_,k3,k4,k5,k6⟩:=h
   exact x3 n (by omega) k2 at_ k3 k4 k5 k6
  rw [if_pos hx,if_pos ⟨x1,by omega⟩,if_pos ⟨x1,by omega⟩,Alm _ _ _ _ (by omega) (by omega)]
  simp only [R.bind]
  have hnext : ∀ y:Int,y=x+1→(∀ at_:Int,0≤at_→at_<tables→(o.Path.take x.toNat).length=(D6 8 o.Slot slots).length→(o.Path.drop x.toNat).length=(D6 8 at_ tables).length →
    Of (Of (Zh o.Salt [o.Airline,o.Flight,o.Slot,o.Cost]) (D6 8 o.Slot slots) (o.Path.take x.toNat)) (D6 8 at_ tables) (o.Path.drop x.toNat)≠d) →
    (0≤y∧y≤(o.Path.length:Int)+1 ∧ ∀ n:Nat,(n:Int)<y→(o.Path.take n).length=(D6 8 o.Slot slots).length → ∀ at_:Int,0≤at_→at_<tables→(o.Path.drop n).length=(D6 8 at_ tables).length →
     Of (Of (Zh o.Salt [o.Airline,o.Flight,o.Slot,o.Cost]) (D6 8 o.Slot slots) (o.Path.take n)) (D6 8 at_ tables) (o.Path.drop n)≠d)∧((o.Path.length:Int)+1 - y).toNat<((o.Path.length:Int)+1 - x).toNat:=by
   rintro y rfl h
   refine⟨⟨by omega,by omega,fun n hn k2 at_ k3 k4 k5=>?_⟩,by omega⟩
   rcases Int.lt_or_le (n:Int) x with hlt | hge
   ·exact x3 n hlt k2 at_ k3 k4 k5
   ·obtain rfl:n=x.toNat:=by omega
    exact h at_ k3 k4 k2 k5
  by_cases hf:(o.Path.take x.toNat).length=(D6 8 o.Slot slots).length
  case neg=>
   rw [if_neg (show ¬ (0≤o.Slot∧o.Slot<slots∧(o.Path.take x.toNat).length=(D6 8 o.Slot slots).length) from fun h=>hf h.2.2)]
   rw [if_pos (by decide)]
   exact Av.ok (hnext _ (Nl (by omega) (by omega)) fun at_ _ _ h=>absurd h hf)
  rw [if_pos (show 0≤o.Slot∧o.Slot<slots∧(o.Path.take x.toNat).length=(D6 8 o.Slot slots).length from⟨q3,q4,hf⟩)]
  rw [if_neg (by simp)]
  generalize hX:Of (Zh o.Salt [o.Airline,o.Flight,o.Slot,o.Cost]) (D6 8 o.Slot slots) (o.Path.take x.toNat)=X at *
  refine Av.bind (P:=fun y:Unit ⊕ Int=>(y=.inl () ∧ ∀ at_:Int,0≤at_→at_<tables→(o.Path.drop x.toNat).length=(D6 8 at_ tables).length→Of X (D6 8 at_ tables) (o.Path.drop x.toNat)≠d)∨(y=.inr 0∧Ab8 d airline tables slots o))
   (Av.loop (I:=fun y:Int=>0≤y∧y≤tables ∧ ∀ at_:Int,0≤at_→at_<y→(o.Path.drop x.toNat).length=(D6 8 at_ tables).length→Of X (D6 8 at_ tables) (o.Path.drop x.toNat)≠d) (fun y=>(tables - y).toNat) ?_ tables.toNat 0 (by omega) ⟨by omega,by omega,fun a h1 h2=>by omega⟩) ?_
  ·intro y ⟨y1,y2,y3⟩
   unfold Hj
   by_cases hy:y<tables
   case neg=>
    rw [if_neg hy]
    exact Av.ok (.inl ⟨rfl,fun a h1 h2=>y3 a h1 (by omega)⟩)
   rw [if_pos hy,Alm _ _ _ _ (by omega) (by omega)]
   simp only [R.bind]
   by_cases hl:(o.Path.drop x.toNat).length=(D6 8 y tables).length
   case neg=>
    rw [if_neg (show ¬ (0≤y∧y<tables∧(o.Path.drop x.toNat).length=(D6 8 y tables).length) from fun h=>hl h.2.2)]
    rw [if_neg (by simp),Nl (by omega) (by omega)]
    refine Av.ok ⟨⟨by omega,by omega,fun a h1 h2 h3=>?_⟩,by omega⟩
    rcases Int.lt_or_le a y with h | h
    ·exact y3 a h1 h h3
    ·obtain rfl:a=y:=by omega
     exact absurd h3 hl
   rw [if_pos (show 0≤y∧y<tables∧(o.Path.drop x.toNat).length=(D6 8 y tables).length from⟨y1,hy,hl⟩)]
   by_cases he:Of X (D6 8 y tables) (o.Path.drop x.toNat)=d
   ·rw [if_pos (by simp [he])]
    exact Av.ok (.inr ⟨rfl,hV x.toNat (by omega) hf y y1 hy hl (by rw [hX]; exact he)⟩)
   ·rw [if_neg (by simp [he]),Nl (by omega) (by omega)]
    refine Av.ok ⟨⟨by omega,by omega,fun a h1 h2 h3=>?_⟩,by omega⟩
    rcases Int.lt_or_le a y with h | h
    ·exact y3 a h1 h h3
    ·obtain rfl:a=y:=by omega
     exact he
  ·rintro y (⟨rfl,h⟩ | ⟨rfl,h⟩)
   ·show Av (Hh x) _
    unfold Hh
    exact Av.ok (hnext _ (Nl (by omega) (by omega)) fun at_ h1 h2 h3 h4=>h at_ h1 h2 h4)
   ·exact Av.ok (.inr ⟨rfl,h⟩)
 ·rintro x (⟨rfl,h⟩ | ⟨rfl,h⟩)
  ·exact Av.ok (.inr ⟨rfl,h⟩)
  ·exact Av.ok (.inl ⟨rfl,h⟩)
end Go.Am
namespace Go.Am
open Go
set_option linter.unusedVariables false
set_option linter.unusedSimpArgs false
def Wa (c:Clearing)(o:Opening):Prop:=
 o.Flight ∈ c.Flights∧c.Owners[(G2 c.Flights o.Flight).toNat]? = some o.Airline ∧ ∃ d,c.Commitments[(G2 (Nu c.Owners) o.Airline).toNat]? = some d∧Ab8 d o.Airline (many c.Owners o.Airline) c.Slots o
theorem Agn (c:Clearing)(o:Opening)(hF:Formed c)(hp:o.Path.length≤1000):Av (Hw c o) fun e=>(e=0∧Wa c o)∨((e=360∨e=400)∧¬ Wa c o):=by
 unfold Hw
 rw [Ow]
 simp only [R.bind]
 have hfl:=hF.fl; have hsl:=hF.slots; have how:=hF.ow
 by_cases h1:o.Flight ∈ c.Flights
 case neg=>
  rw [if_pos (by have:=mt Nc.1 h1; simpa using this)]
  exact Av.ok (.inr ⟨.inr rfl,fun h=>h1 h.1⟩)
 have hi:=Nc.2 h1
 have hil:=Aj5 (l:=c.Flights) (v:=o.Flight)
 rw [if_neg (by simpa using hi)]
 refine(Av.idx (P:=fun a=>c.Owners[(G2 c.Flights o.Flight).toNat]? = some a) hi (by omega) fun a h=>h).bind fun a ha=>?_
 unfold Jg
 by_cases h2:a=o.Airline
 case neg=>
  rw [if_pos (by simpa using h2)]
  refine Av.ok (.inr ⟨.inr rfl,fun h=>h2 ?_⟩)
  have:=h.2.1
  rw [ha] at this
  exact Option.some.inj this
 subst h2
 rw [if_neg (by simp)]
 have hmem:o.Airline ∈ c.Owners:=List.mem_of_getElem? ha
 have hin:=hF.own _ hmem
 refine(Acn c.Owners (by omega)).bind fun r hr=>?_
 rw [hr.1,Ow]
 simp only [R.bind]
 have hk:=Nc.2 (Alt.2 ⟨hin,hmem⟩)
 have hkl:=Aj5 (l:=Nu c.Owners) (v:=o.Airline)
 have hcm:=hF.com
 refine(Av.idx (P:=fun d=>c.Commitments[(G2 (Nu c.Owners) o.Airline).toNat]? = some d) hk (by omega) fun a h=>h).bind fun d hd=>?_
 rw [hr.2,if_pos hin]
 refine(Api d o.Airline _ c.Slots o hp).bind fun e he=>Av.ok ?_
 rcases he with⟨rfl,h⟩ | ⟨rfl,h⟩
 ·exact .inl ⟨rfl,h1,ha,d,hd,h⟩
 ·refine .inr ⟨.inl rfl,fun hA=>h ?_⟩
  obtain⟨_,_,d',hd',hV⟩:=hA
  rw [hd] at hd'
  rw [Option.some.inj hd']
  exact hV
def Ko (a b:Opening):Prop:=a.Flight<b.Flight∨(a.Flight=b.Flight∧a.Slot<b.Slot)
theorem Ko.trans {a b c:Opening}(h1:Ko a b)(h2:Ko b c):Ko a c:=by unfold Ko at *; omega
def Rw (c:Clearing):Prop:=c.Openings.Pairwise Ko ∧ ∀ o ∈ c.Openings,Wa c o
theorem Ah2 (c:Clearing)(hF:Formed c)(hp : ∀ o ∈ c.Openings,o.Path.length≤1000)(hl:c.Openings.length≤1000):Av (La c) fun r=>(r=true↔Rw c):=by
 unfold La
 have hE:=Av.each (b:=fun j a=>fun _=>It c j a) (I:=fun n (_:Unit)=>(c.Openings.take n).Pairwise Ko ∧ ∀ o ∈ c.Openings.take n,Wa c o) (E:=fun r:Bool=>r=false∧¬ Rw c) c.Openings 0 () ⟨by simp,by simp⟩ (fun j a _ hj hI=>by
  simp only [Nat.zero_add] at hI ⊢
  obtain⟨p1,p2⟩:=hI
  have hjl:j<c.Openings.length:=A6 hj
  have ht1:c.Openings.take (j+1)=c.Openings.take j++[a]:=by rw [List.take_add_one,hj]; rfl
  have hja:c.Openings[j]=a:=by rw [List.getElem?_eq_getElem hjl] at hj; exact Option.some.inj hj
  have step:(∀ x ∈ c.Openings.take j,Ko x a)→Av ((Hw c a).bind fun r1=>Gu (r1 != 0)) (Yz (fun n (_:Unit)=>(c.Openings.take n).Pairwise Ko ∧ ∀ o ∈ c.Openings.take n,Wa c o) (fun r:Bool=>r=false∧¬ Rw c) (j+1)):=fun hlt=>by
   refine(Agn c a hF (hp a (List.mem_of_getElem? hj))).bind fun e he=>?_
   unfold Gu
   rcases he with⟨rfl,hA⟩ | ⟨he,hA⟩
   ·rw [if_neg (by decide)]
    refine Av.ok ⟨?_,fun o ho=>?_⟩
    ·rw [ht1,List.pairwise_append]
     refine⟨p1,by simp,fun x hx y hy=>?_⟩
     obtain rfl:=List.mem_singleton.1 hy
     exact hlt x hx
    ·rw [ht1,List.mem_append,List.mem_singleton] at ho
     rcases ho with ho | rfl
     ·exact p2 o ho
     ·exact hA
   ·rw [if_pos (by rcases he with rfl | rfl <;> decide)]
    exact Av.ok ⟨rfl,fun h=>hA (h.2 a (List.mem_of_getElem? hj))⟩
  unfold It
  by_cases hj0:(j:Int) > 0
  case neg=>
   rw [if_neg (by simpa using hj0)]
   refine step fun x hx=>?_
   obtain rfl:j=0:=by omega
   simp at hx
  rw [if_pos (by simpa using hj0),Nl (by omega) (by omega)]
  have hpl:j - 1<c.Openings.length:=by omega
  rw [show(j:Int) - 1=((j - 1:Nat):Int) by omega,L3 (List.getElem?_eq_getElem hpl),R.ok_bind,Wc,R.ok_bind]
  by_cases ho:Aer c.Openings[j - 1] a≥0
  ·rw [if_pos (by simpa using ho)]
   refine Av.ok ⟨rfl,fun h=>?_⟩
   have:=List.pairwise_iff_getElem.1 h.1 (j - 1) j hpl hjl (by omega)
   rw [hja] at this
   have:=Ac4.2 this
   omega
  ·rw [if_neg (by simpa using ho)]
   refine step fun x hx=>?_
   have hlast:Ko c.Openings[j - 1] a:=Ac4.1 (by omega)
   obtain⟨i,hi,rfl⟩:=List.getElem_of_mem hx
   rw [List.length_take] at hi
   rw [List.getElem_take]
   rcases Nat.lt_or_ge i (j - 1) with h | h
   ·have:=List.pairwise_iff_getElem.1 p1 i (j - 1) (by rw [List.length_take]; omega) (by rw [List.length_take]; omega) h
    rw [List.getElem_take,List.getElem_take] at this
    exact this.trans hlast
   ·obtain rfl:i=j - 1:=by omega
    exact hlast)
 refine hE.bind fun x hx=>Av.alt hx (fun u hu=>?_) (fun r hr=>?_)
 ·simp only [Yz,Nat.zero_add,List.take_length] at hu
  exact Av.ok ⟨fun _=>hu,fun _=>rfl⟩
 ·exact Av.ok ⟨fun e=>by rw [hr.1] at e; exact absurd e (by decide),fun h=>absurd h hr.2⟩
theorem Arp {σ:Type}(b:List Opening)(S n:Nat)(hS:1≤S)(hS8:S≤8)(hl:b.length=n * S)(hb:b.length≤100000)(b_:List Opening→σ→R σ)(P:Nat→σ→Prop)(s:σ)(h0:P 0 s)
  (hk : ∀ k s,k<n→P k s→Av (b_ ((b.drop (k * S)).take S) s) (P (k+1))):Av (E6 b (S:Int) b_ s) (P n):=by
 unfold E6
 refine Av.bind (P:=P n) (Av.loop (I:=fun s:Int×σ => ∃ k:Nat,k≤n∧s.1=((k * S:Nat):Int)∧P k s.2) (fun s=>((b.length:Int) - s.1).toNat) ?_ b.length (0,s) (by simp) ⟨0,by omega,by simp,h0⟩) fun s hs=>Av.ok hs
 rintro⟨i,s⟩ ⟨k,k1,k2,k3⟩
 show Av (Ed b S b_ i s) _
 simp only at k2 k3
 subst k2
 unfold Ed
 by_cases hi:((k * S:Nat):Int)<(b.length:Int)
 case neg=>
  rw [if_neg hi]
  have hle:k * S≥n * S:=by omega
  have:k=n:=by
   have:=Nat.le_of_mul_le_mul_right hle (by omega)
   omega
  subst this
  exact Av.ok k3
 have hkn:k<n:=by
  have:k * S<n * S:=by omega
  exact Nat.lt_of_mul_lt_mul_right this
 have hle:(k+1) * S≤n * S:=Nat.mul_le_mul_right S hkn
 have hadd:(k+1) * S=k * S+S:=by rw [Nat.add_mul,Nat.one_mul]
 rw [if_pos hi,if_pos ⟨by omega,by omega⟩,Int.toNat_natCast]
 have hd:((b.drop (k * S)).length:Int)=(b.length:Int) - ((k * S:Nat):Int):=by rw [List.length_drop]; omega
 rw [if_neg (show ¬ ((b.drop (k * S)).length:Int)<(S:Int) by omega),Nl (by omega) (by omega),if_pos ⟨by omega,by omega,by omega⟩]
 have hc:cut b ((k * S:Nat):Int) (((k * S:Nat):Int)+(S:Int))=(b.drop (k * S)).take S:=by
  unfold cut
  rw [Int.toNat_natCast]
  congr 1
  omega
 rw [hc]
 refine(hk k s hkn k3).bind fun s1 h1=>Av.ok ⟨⟨k+1,by omega,by simp only; omega,h1⟩,?_⟩
 simp only; omega
def Ai0 (c:Clearing):List (List Int):=(List.range c.Flights.length).map fun k=>((c.Openings.drop (k * c.Slots.toNat)).take c.Slots.toNat).map (·.Cost)
def Aes (c:Clearing):Prop:=c.Openings.length=c.Flights.length * c.Slots.toNat
theorem Agk (c:Clearing)(hs:1≤c.Slots∧c.Slots≤8)(hf:c.Flights.length≤8):Ib c=.ok (if c.Openings.length=c.Flights.length * c.Slots.toNat then(({ Slots:=c.Slots,Owners:=c.Owners,Costs:=Ai0 c }:Round),true) else(({ Slots:=0,Owners:=[],Costs:=[] }:Round),false)):=by
 unfold Ib
 obtain⟨S,hS⟩ : ∃ S:Nat,c.Slots=(S:Int):=⟨c.Slots.toNat,by omega⟩
 have hmul:(c.Flights.length:Int) * c.Slots=((c.Flights.length * S:Nat):Int):=by rw [hS]; simp
 have hb:c.Flights.length * S≤8 * 8:=Nat.mul_le_mul hf (by omega)
 rw [hmul,Nl (by omega) (by omega),hS,Int.toNat_natCast]
 by_cases h:c.Openings.length=c.Flights.length * S
 case neg=>
  rw [if_pos (by simp only [bne_iff_ne]; omega),if_neg h]
 rw [if_neg (by simp only [bne_iff_ne]; omega),if_pos h]
 unfold H3
 rw [if_neg (by omega),R.ok_bind]
 have:=Arp c.Openings S c.Flights.length (by omega) (by omega) h (by omega) (fun a z_=>R.np ((fun l=>Im a l) z_)) (fun k l=>l=(List.range k).map fun k=>((c.Openings.drop (k * S)).take S).map (·.Cost)) [] rfl (fun k l hk hl=>by
  subst hl
  refine Av.np ?_
  show Av (Im _ _) _
  unfold Im
  have e1:eachS (fun _ a1=>fun costs=>J9 a1 costs) 0 ((c.Openings.drop (k * S)).take S) []=.ok (((c.Openings.drop (k * S)).take S).map (·.Cost)):=by
   have:=Akq (b:=fun _ (a1:Opening)=>fun costs=>J9 a1 costs) (g:=fun o:Opening=>o.Cost) (c:=8) (fun j a s=>rfl) ((c.Openings.drop (k * S)).take S) 0 []
   rw [this]
   ·simp
   ·simp only [List.length_nil,List.length_take,List.length_drop,Cm]; omega
  rw [e1,R.ok_bind,if_pos (by simp only [List.length_map,List.length_range,List.length_singleton,Cm]; omega)]
  refine Av.ok ?_
  rw [List.range_succ,List.map_append]
  rfl)
 obtain⟨l,e,hl⟩:=this
 rw [e,R.ok_bind,hl]
 congr 2
 unfold Ai0
 rw [hS,Int.toNat_natCast]
end Go.Am
namespace Go.Am
open Go
set_option linter.unusedVariables false
set_option linter.unusedSimpArgs false
set_option linter.unusedSectionVars false
theorem Cp.each {α ε:Type}{b:Nat→α→Unit→R (Unit ⊕ ε)}(l:List α)(k:Nat)(hb : ∀ (j:Nat) a,l[j]? = some a→Cp (b (k+j) a ())):Cp (each b k l ()):=
 (Av.each (I:=fun _ _=>True) (E:=fun _=>True) l k () trivial fun j a _ hj _=>(hb j a hj).mono fun x _=>by cases x <;> exact trivial).tot
theorem Cp.alt {α β σ:Type}{f:α→R σ}{g:β→R σ}(x:α ⊕ β)(h1 : ∀ a,Cp (f a))(h2 : ∀ b,Cp (g b)):Cp (alt f g x):=by
 cases x with
 | inl a=>exact h1 a
 | inr b=>exact h2 b
structure CChk (r:Round):Prop where
 slots:1≤r.Slots∧r.Slots≤8
 own:(r.Owners.length:Int)≤r.Slots
 costs:r.Costs.length=r.Owners.length
 inA : ∀ a ∈ r.Owners,inA a
 row : ∀ l ∈ r.Costs,(l.length:Int)=r.Slots
theorem Aur (s:List Int):Cp (Gb s):=by
 unfold Gb Ja
 refine Cp.bind (Cp.bind (Cp.each _ _ fun j a _=>?_) fun x=>Cp.alt _ (fun _=>Cp.ok _) fun _=>Cp.ok _) fun _=>Cp.ok _
 unfold Hr Mx Kc
 simp only [R.ok_bind]
 exact Av.ite (fun _=>Cp.ok _) fun _=>Cp.ok _
theorem Amr (r:Round):Av (Ks r) fun e=>(e=0∧CChk r)∨e=370:=by
 unfold Ks
 refine Av.ite (fun _=>Av.ok (.inr rfl)) fun h=>?_
 simp only [Bool.or_eq_true,decide_eq_true_eq,bne_iff_ne,ne_eq,not_or,Decidable.not_not] at h
 obtain⟨⟨⟨h1,h2⟩,h3⟩,h4⟩:=h
 refine(Av.each (b:=fun j a=>fun _=>J5 r j a) (I:=fun n (_:Unit)=>(∀ a ∈ r.Owners.take n,inA a) ∧ ∀ l ∈ r.Costs.take n,(l.length:Int)=r.Slots) (E:=fun e:Int=>e=370) r.Costs 0 () ⟨by simp,by simp⟩ fun j a _ hj hI=>?_).bind fun x hx=>Av.alt hx (fun u hu=>?_) fun e he=>Av.ok (.inr he)
 ·simp only [Nat.zero_add] at hI ⊢
  have hjl:j<r.Costs.length:=A6 hj
  have hjo:j<r.Owners.length:=by omega
  have ht1:r.Owners.take (j+1)=r.Owners.take j++[r.Owners[j]]:=by rw [List.take_add_one,List.getElem?_eq_getElem hjo]; rfl
  have ht2:r.Costs.take (j+1)=r.Costs.take j++[a]:=by rw [List.take_add_one,hj]; rfl
  unfold J5
  rw [L3 (List.getElem?_eq_getElem hjo),R.ok_bind]
  unfold Kc In
  rw [R.ok_bind]
  refine Av.ite (fun _=>Av.pos rfl (Av.ok rfl)) fun q1=>?_
  refine Av.ite (fun _=>Av.pos rfl (Av.ok rfl)) fun q2=>?_
  simp only [Bool.or_eq_true,decide_eq_true_eq,not_or,bne_iff_ne,ne_eq,Decidable.not_not] at q1 q2
  have hja:j<a.length:=by omega
  rw [L3 (List.getElem?_eq_getElem hja),R.ok_bind]
  refine Av.ite (fun _=>Av.pos rfl (Av.ok rfl)) fun q3=>?_
  refine(Aur a).bind fun b=>Av.ite (fun _=>Av.ok rfl) fun _=>Av.ok ⟨fun x hx=>?_,fun x hx=>?_⟩
  ·rw [ht1,List.mem_append,List.mem_singleton] at hx
   rcases hx with hx | rfl
   ·exact hI.1 x hx
   ·unfold Am.inA; omega
  ·rw [ht2,List.mem_append,List.mem_singleton] at hx
   rcases hx with hx | rfl
   ·exact hI.2 x hx
   ·exact q2
 ·simp only [Yz,Nat.zero_add,List.take_length] at hu
  have e:r.Costs.length=r.Owners.length:=by omega
  rw [e,List.take_length] at hu
  exact Av.ok (.inl ⟨rfl,⟨by omega,by omega⟩,by omega,e,hu.1,hu.2⟩)
def InS (r:Round)(l:List Int):Prop := ∀ s ∈ l,0≤s∧s<r.Slots
theorem R8 {α:Type}{l:List α}{n:Int}(h0:0≤n)(h1:n<(l.length:Int)):Cp (idx l n):=Av.idx h0 h1 fun _ _=>trivial
section
variable {r:Round} (hr:CChk r)
include hr
theorem Aie {f s:Int}(hf:0≤f∧f<(r.Owners.length:Int))(hs:0≤s∧s<r.Slots){β:Type}{g:Int→R β}{Q:β→Prop}(h : ∀ a,Av (g a) Q):Av ((idx r.Costs f).bind fun a=>(idx a s).bind g) Q:=by
 refine(Av.idx (P:=fun a=>a ∈ r.Costs) hf.1 (by have:=hr.costs; omega) fun a ha=>List.mem_of_getElem? ha).bind fun a ha=>?_
 exact(R8 hs.1 (by have:=hr.row a ha; omega)).bind h
theorem Ann (slots:List Int):Av (Nr r slots) fun b=>b=true→slots.length=r.Owners.length∧InS r slots:=by
 unfold Nr
 refine Av.ite (fun _=>Av.ok fun h=>by simp at h) fun h=>?_
 simp only [bne_iff_ne,ne_eq,Decidable.not_not] at h
 refine(Av.each (b:=fun j a=>fun _=>I0 r slots j a) (I:=fun n (_:Unit)=>InS r (slots.take n)) (E:=fun b:Bool=>b=false) slots 0 () (by intro s hs; simp at hs) fun j a _ hj hI=>?_).bind fun x hx=>Av.alt hx (fun u hu=>?_) fun e he=>Av.ok fun h=>by rw [he] at h; simp at h
 ·simp only [Nat.zero_add] at hI ⊢
  have hjl:j<slots.length:=A6 hj
  have ht1:slots.take (j+1)=slots.take j++[a]:=by rw [List.take_add_one,hj]; rfl
  unfold I0
  by_cases q:a<0∨a≥r.Slots
  ·rw [if_pos (by simpa using q)]
   simp only [R.ok_bind,if_true]
   exact Av.ok rfl
  ·rw [if_neg (by simpa using q)]
   refine Av.bind (Aie hr (f:=(j:Int)) (s:=a) ⟨by omega,by omega⟩ ⟨by omega,by omega⟩ (Q:=fun _=>True) fun x=>Av.ok trivial) fun b _=>?_
   refine Av.bind (P:=fun _=>True) (Av.ite (fun _=>Av.ok trivial) fun _=>?_) fun b1 _=>Av.ite (fun _=>Av.ok rfl) fun _=>Av.ok fun s hs=>?_
   ·rw [if_pos ⟨by omega,by omega⟩,Mh]
    exact Av.ok trivial
   ·rw [ht1,List.mem_append,List.mem_singleton] at hs
    rcases hs with hs | rfl
    ·exact hI s hs
    ·omega
 ·simp only [Yz,Nat.zero_add,List.take_length] at hu
  exact Av.ok fun _=>⟨by omega,hu⟩
theorem Aqn:Iv r=.ok ((List.range r.Owners.length).map fun n:Nat=>(n:Int)):=by
 unfold Iv
 have hl:=hr.own; have hs:=hr.slots
 have:=Av.eachS (b:=fun j _=>fun l=>L1 j l) (I:=fun n (l:List Int)=>l=(List.range n).map fun n:Nat=>(n:Int)) r.Owners 0 [] rfl (fun j a l hj hI=>by
  simp only [Nat.zero_add] at hI ⊢
  subst hI
  have hjl:j<r.Owners.length:=A6 hj
  unfold L1
  rw [if_pos (by simp only [List.length_map,List.length_range,List.length_singleton,Cm]; omega)]
  refine Av.ok ?_
  rw [List.range_succ,List.map_append]
  rfl)
 obtain⟨l,e,hl⟩:=this
 rw [e,R.ok_bind,hl,Nat.zero_add]
theorem Aag (flights slots:List Int)(hf : ∀ f ∈ flights,0≤f∧f<(r.Owners.length:Int))(hl:flights.length≤slots.length)(hs:InS r slots):Av (G8 r flights slots) fun out=>out.length=8:=by
 unfold G8
 rw [if_pos (by decide)]
 refine Av.bind (P:=fun out:List Int=>out.length=8) (Av.eachS (I:=fun _ (out:List Int)=>out.length=8) flights 0 _ (by decide) fun j a out hj hI=>?_) fun out h=>Av.ok h
 have ha:=hf a (List.mem_of_getElem? hj)
 have hjl:j<flights.length:=A6 hj
 unfold Ml
 refine(Av.idx (P:=fun a1=>inA a1) ha.1 ha.2 fun a1 h=>hr.inA a1 (List.mem_of_getElem? h)).bind fun a1 h1=>?_
 unfold inA at h1
 refine(R8 h1.1 (by omega)).bind fun a2=>?_
 refine(Av.idx (P:=fun a=>a ∈ r.Costs) ha.1 (by have:=hr.costs; omega) fun a ha=>List.mem_of_getElem? ha).bind fun a3 h3=>?_
 simp only [Nat.zero_add]
 refine(Av.idx (P:=fun s=>0≤s∧s<r.Slots) (by omega) (by omega) fun s h=>hs s (List.mem_of_getElem? h)).bind fun a4 h4=>?_
 refine(R8 h4.1 (by have:=hr.row a3 h3; omega)).bind fun a5=>Av.ok ?_
 rw [List.length_set]
 exact hI
theorem Afv {f:Int}(h:f ∈ (List.range r.Owners.length).map fun n:Nat=>(n:Int)):0≤f∧f<(r.Owners.length:Int):=by
 obtain⟨n,hn,rfl⟩:=List.mem_map.1 h
 have:=List.mem_range.1 hn
 omega
theorem Au8:InS r ((List.range r.Owners.length).map fun n:Nat=>(n:Int)):=fun s hs=>by
 have:=Afv hr hs; have:=hr.own; omega
theorem Akl (slots:List Int):Av (M8 r slots) fun x=>x.2=0→slots.length=r.Owners.length∧InS r slots:=by
 unfold M8 Sl Qi
 have hl:=hr.own; have hs:=hr.slots
 refine Av.bind (P:=fun e:Int=>e=0→slots.length=r.Owners.length∧InS r slots) (Av.bind (P:=fun x:Bool×Int=>x.2=0→x.1=true→slots.length=r.Owners.length∧InS r slots) ((Amr r).bind fun e he=>Av.ite (fun _=>Av.ok fun _ h=>by simp at h) fun _=>(Ann hr slots).bind fun b hb=>Av.ok fun _=>hb) fun x hx=>Av.ite (fun _=>Av.ok fun h=>absurd h (by decide)) fun q=>Av.ok fun _=>?_) fun e he=>Av.ite (fun q=>Av.ok fun h=>?_) fun q=>?_
 ·simp only [Bool.or_eq_true,not_or,bne_iff_ne,ne_eq,Decidable.not_not,Bool.not_eq_true',Bool.not_eq_false] at q
  exact hx q.1 q.2
 ·simp only at h; rw [h] at q; simp at q
 ·have h0:e=0:=by simpa using q
  obtain⟨q1,q2⟩:=he h0
  rw [Aqn hr]
  simp only [R.ok_bind]
  refine(Aag hr _ _ (fun f hf=>Afv hr hf) (Nat.le_refl _) (Au8 hr)).bind fun before hb=>?_
  refine(Aag hr _ slots (fun f hf=>Afv hr hf) (by simp; omega) q2).bind fun now hn=>?_
  refine Av.bind (P:=fun _=>True) ((Av.eachS (b:=fun j a=>fun l=>Kk before j a l) (I:=fun n (l:List Int)=>l.length≤n) now 0 [] (by simp) fun j a l hj hI=>?_).tot) fun l _=>Av.ok fun _=>⟨q1,q2⟩
  have hjl:j<now.length:=A6 hj
  unfold Kk
  simp only [Nat.zero_add] at hI ⊢
  refine(R8 (by omega) (by omega)).bind fun a1=>Av.ite (fun _=>Av.pos ?_ (Av.ok ?_)) fun _=>Av.ok (by omega)
  ·simp only [List.length_singleton,Cm]; omega
  ·simp only [List.length_append,List.length_singleton]; omega
theorem Aot {σ ε:Type}(l:List Int)(hl : ∀ f ∈ l,0≤f∧f<(r.Owners.length:Int))(h100:l.length≤100)(b_:List Int→σ→R (σ ⊕ ε))(hb : ∀ x s,x.length=l.length→(∀ f ∈ x,f ∈ l)→Cp (b_ x s)) :
  ∀ (n:Nat) (begin:List Int) (s:σ),begin.length≤l.length→l.length<begin.length+n→(∀ f ∈ begin,f ∈ l)→Cp (Dw b_ n begin l r l r s)
 | 0,begin,s,h1,h2,h3=>by omega
 | n+1,begin,s,h1,h2,h3=>by
  rw [Dw]
  refine Av.np ?_
  unfold Ej
  refine Av.ite (fun q=>?_) fun q=>?_
  ·unfold Gs
   rw [if_pos (by unfold Cm; omega),R.ok_bind]
   exact(hb begin s (by have:=of_decide_eq_true q; omega) h3).bind fun x=>Cp.alt _ (fun _=>Cp.ok _) fun _=>Cp.ok _
  ·have hlt:begin.length<l.length:=by
    have:¬ ((begin.length:Int)=(l.length:Int)):=by simpa using q
    omega
   refine Cp.bind (Av.each (I:=fun _ _=>True) (E:=fun _=>True) l 0 s trivial fun j a s1 hj _=>?_).tot fun x=>Cp.alt _ (fun _=>Cp.ok _) fun _=>Cp.ok _
   refine Av.mono (P:=fun _=>True) ?_ fun x _=>by cases x <;> exact trivial
   have ha:a ∈ l:=List.mem_of_getElem? hj
   have ha':=hl a ha
   have hlo:=hr.own
   unfold Ee Dd
   refine(Av.idx (P:=fun a1=>a1 ∈ l) (by omega) (by omega) fun a1 h=>List.mem_of_getElem? h).bind fun a1 h1'=>?_
   have h1'':=hl a1 h1'
   refine Aie hr h1'' (s:=a) ⟨ha'.1,by omega⟩ fun a3=>Av.ite (fun _=>?_) fun _=>Av.ok trivial
   rw [Mh,R.ok_bind]
   refine Av.ite (fun _=>?_) fun _=>Av.ok trivial
   rw [Int.toNat_natCast,List.take_length,if_pos ⟨by omega,by omega⟩,if_pos ⟨by simp,by simp only [List.length_singleton,Cm]; omega⟩]
   refine(Aot l hl h100 b_ hb n (begin++[a]) s1 (by simp only [List.length_append,List.length_singleton]; omega) (by simp only [List.length_append,List.length_singleton]; omega) fun f hf=>?_).bind fun x=>Cp.alt _ (fun _=>Cp.ok _) fun _=>Cp.ok _
   rw [List.mem_append,List.mem_singleton] at hf
   rcases hf with hf | rfl
   ·exact h3 f hf
   ·exact ha
theorem Ap8 (than group:List Int)(ht:than.length=8)(hg : ∀ o ∈ group,inA o):Cp (Iq r than group):=by
 unfold Iq
 have hlo:=hr.own; have hs:=hr.slots
 refine Av.bind (P:=fun l:List Int=>l.length≤r.Owners.length ∧ ∀ f ∈ l,0≤f∧f<(r.Owners.length:Int)) ((Av.eachS (b:=fun j a=>fun l=>Ia group j a l) (I:=fun n (l:List Int)=>l.length≤n ∧ ∀ f ∈ l,0≤f∧f<(r.Owners.length:Int)) r.Owners 0 [] ⟨by simp,by simp⟩ fun j a l hj hI=>?_).mono fun l hl=>by simpa using hl) fun l hl=>?_
 ·simp only [Nat.zero_add] at hI ⊢
  have hjl:j<r.Owners.length:=A6 hj
  unfold Ia
  rw [Mh,R.ok_bind]
  refine Av.ite (fun _=>Av.pos (by simp only [List.length_singleton,Cm]; omega) (Av.ok ⟨by simp only [List.length_append,List.length_singleton]; omega,fun f hf=>?_⟩)) fun _=>Av.ok ⟨by omega,hI.2⟩
  rw [List.mem_append,List.mem_singleton] at hf
  rcases hf with hf | rfl
  ·exact hI.2 f hf
  ·omega
 ·unfold Gp
  rw [R.ok_bind]
  refine Cp.bind (Av.np ?_) fun x=>Cp.alt _ (fun _=>Cp.ok _) fun _=>Cp.ok _
  unfold Et Ge
  refine Cp.bind (Aot hr l hl.2 (by omega) _ (fun x s hx hm=>Av.np ?_) V3 [] () (by simp) (by rw [Uz]; simp only [List.length_nil]; omega) (by simp)) fun x=>Cp.alt _ (fun _=>Cp.ok _) fun _=>Cp.ok _
  show Cp (Gz r than group l x)
  unfold Gz Lu
  refine(Aag hr l x hl.2 (by omega) fun s hs'=>by have:=hl.2 s (hm s hs'); omega).bind fun now hn=>?_
  refine Cp.bind (Cp.each _ _ fun j o hj=>?_) fun y=>Cp.alt _ (fun _=>Cp.ok _) fun _=>Cp.ok _
  have ho:=hg o (List.mem_of_getElem? hj)
  unfold inA at ho
  unfold Lq
  exact(R8 ho.1 (by omega)).bind fun _=>(R8 ho.1 (by omega)).bind fun _=>Av.ite (fun _=>Cp.ok _) fun _=>Cp.ok _
theorem Apl (slots:List Int):Cp (Ek r slots):=by
 unfold Ek
 refine(Akl hr slots).bind fun x hx=>Av.ite (fun _=>Cp.ok _) fun q=>?_
 simp only [Bool.or_eq_true,decide_eq_true_eq,bne_iff_ne,ne_eq,not_or,Decidable.not_not] at q
 obtain⟨q1,q2⟩:=hx q.1
 rw [Aqn hr,R.ok_bind]
 refine(Aag hr _ slots (fun f hf=>Afv hr hf) (by simp; omega) q2).bind fun than ht=>?_
 refine Cp.bind (Cp.each _ _ fun j a hj=>?_) fun y=>Cp.alt _ (fun _=>Cp.ok _) fun _=>Cp.ok _
 unfold H9 D3
 refine Av.bind (Av.each (b:=fun j1 _=>fun group=>H6 r (0+j) j1 group) (I:=fun n (g:List Int)=>g.length≤n ∧ ∀ o ∈ g,inA o) (E:=fun _:Unit=>True) (List.range 8) 0 [] ⟨by simp,by simp⟩ fun j1 a g hj1 hI=>?_) fun x hx=>Av.alt hx (fun g hg=>?_) fun _ _=>Cp.ok _
 ·simp only [Nat.zero_add] at hI ⊢
  have hj8:j1<8:=by have:=A6 hj1; simpa using this
  unfold H6
  rw [if_pos (by omega)]
  refine Av.ite (fun _=>Av.ok ⟨by omega,hI.2⟩) fun _=>?_
  rw [Mh,R.ok_bind]
  refine Av.ite (fun _=>Av.pos (by simp only [List.length_singleton,Cm]; omega) (Av.ok ⟨by simp only [List.length_append,List.length_singleton]; omega,fun o ho=>?_⟩)) fun _=>Av.ok trivial
  rw [List.mem_append,List.mem_singleton] at ho
  rcases ho with ho | rfl
  ·exact hI.2 o ho
  ·unfold inA; omega
 ·refine Av.ite (fun _=>Cp.ok _) fun _=>?_
  exact(Ap8 hr than g ht hg.2).bind fun _=>Av.ite (fun _=>Cp.ok _) fun _=>Cp.ok _
theorem Ars (slots:List Int)(h1:slots.length=r.Owners.length)(h2:InS r slots):Av (Lz r slots) fun v=>v.length=2:=by
 unfold Lz
 refine Av.bind (P:=fun v:List Int=>v.length=2) (Av.eachS (I:=fun _ (v:List Int)=>v.length=2) slots 0 _ rfl fun j a v hj hI=>?_) fun v h=>Av.ok h
 have hjl:j<slots.length:=A6 hj
 have ha:=h2 a (List.mem_of_getElem? hj)
 unfold Np
 simp only [Nat.zero_add]
 refine(R8 (by decide) (by omega)).bind fun a1=>?_
 refine Aie hr (f:=(j:Int)) ⟨by omega,by omega⟩ ha fun a3=>Av.ite (fun _=>?_) fun _=>Av.ok (by rw [List.length_set]; exact hI)
 refine(R8 (by decide) (by rw [List.length_set]; omega)).bind fun a4=>Av.ok (by rw [List.length_set,List.length_set]; exact hI)
theorem Ahy {σ:Type}(b_:List Int→σ→R σ)(P:σ→Prop)(hb : ∀ x s,x.length=r.Owners.length→InS r x→P s→Av (b_ x s) P) :
  ∀ (n:Nat) (slots:List Int) (m:List (Int×Bool)) (s:σ),slots.length≤r.Owners.length→r.Owners.length<slots.length+n→InS r slots→P s→Av (Dx b_ n slots r m r s) fun x=>P x.2
 | 0,slots,m,s,h1,h2,h3,h4=>by omega
 | n+1,slots,m,s,h1,h2,h3,h4=>by
  rw [Dx]
  refine Av.np ?_
  have hlo:=hr.own; have hsl:=hr.slots
  unfold Ei
  refine Av.ite (fun q=>?_) fun q=>?_
  ·exact(hb slots s (by have:=of_decide_eq_true q; omega) h3 h4).bind fun s' hs'=>Av.ok hs'
  ·have hlt:slots.length<r.Owners.length:=by
    have:¬ ((slots.length:Int)=(r.Owners.length:Int)):=by simpa using q
    omega
   refine Av.bind (P:=fun x:List (Int×Bool)×σ=>P x.2) (Av.loop (I:=fun x:Int×List (Int×Bool)×σ=>0≤x.1∧x.1≤r.Slots∧P x.2.2) (fun x=>(r.Slots - x.1).toNat) ?_ 8 (0,m,s) (by simp only; omega) ⟨by simp,by simp only; omega,h4⟩) fun x hx=>Av.ok hx
   rintro⟨x,m1,s1⟩ ⟨x1,x2,x3⟩
   show Av (Dt slots r r _ x m1 s1) _
   simp only at x1 x2 x3
   unfold Dt Ff
   by_cases hx:x<r.Slots
   case neg=>rw [if_neg hx]; exact Av.ok x3
   rw [if_pos hx,Nl (n:=x+1) (by omega) (by omega)]
   refine Av.bind (P:=fun _=>True) (Av.ite (fun _=>Av.ok trivial) fun _=>Aie hr (f:=(slots.length:Int)) (s:=x) ⟨by omega,by omega⟩ ⟨x1,hx⟩ fun _=>Av.ok trivial) fun b1 _=>Av.ite (fun _=>Av.ok ⟨⟨by simp only; omega,by simp only; omega,x3⟩,by simp only; omega⟩) fun _=>?_
   unfold M6
   rw [if_pos ⟨by omega,Int.le_refl _⟩,R.ok_bind,Int.toNat_natCast,List.take_length,if_pos ⟨by simp,by simp only [List.length_singleton,Cm]; omega⟩]
   refine(Ahy b_ P hb n (slots++[x]) _ s1 (by simp only [List.length_append,List.length_singleton]; omega) (by simp only [List.length_append,List.length_singleton]; omega) (fun f hf=>?_) x3).bind fun y hy=>Av.ok ⟨⟨by simp only; omega,by simp only; omega,hy⟩,by simp only; omega⟩
   rw [List.mem_append,List.mem_singleton] at hf
   rcases hf with hf | rfl
   ·exact h3 f hf
   ·exact⟨x1,hx⟩
end
theorem An4 (a b:List Int):Cp (Ka a b):=by
 unfold Ka
 refine Cp.bind (Cp.each _ _ fun j x hj=>?_) fun x=>Cp.alt _ (fun _=>Av.ite (fun _=>Cp.ok _) fun _=>Cp.ok _) fun _=>Cp.ok _
 unfold Kb
 refine Av.ite (fun _=>Cp.ok _) fun q=>?_
 refine(R8 (by omega) (by omega)).bind fun y=>?_
 rw [Sx,R.ok_bind]
 exact Av.ite (fun _=>Cp.ok _) fun _=>Cp.ok _
def Aw9 (r:Round)(x:List Int×Int):Prop:=(x.2=0∧CChk r∧Ek r x.1=.ok (true,0))∨(x.2=370∨x.2=380)
theorem As0 (r:Round):Av (Nf r) (Aw9 r):=by
 unfold Nf
 refine(Amr r).bind fun e he=>Av.ite (fun q=>Av.ok ?_) fun q=>?_
 ·rcases he with⟨rfl,_⟩ | rfl
  ·exact absurd q (by decide)
  ·exact .inr (.inl rfl)
 ·have hr:CChk r:=by
   rcases he with⟨_,h⟩ | rfl
   ·exact h
   ·exact absurd (by decide) q
  unfold H5
  rw [R.ok_bind]
  refine Av.bind (P:=fun x:List Int×List Int=>x.2=[]∨Ek r x.1=.ok (true,0)) (Av.np ?_) fun x hx=>?_
  ·unfold Eu Gc
   have hlo:=hr.own; have hsl:=hr.slots
   refine(Ahy hr _ (fun x:List Int×List Int=>x.2=[]∨Ek r x.1=.ok (true,0)) (fun x s h1 h2 h3=>Av.np ?_) V3 [] [] ([],[]) (by simp) (by rw [Uz]; simp only [List.length_nil]; omega) (by intro s hs; simp at hs) (.inl rfl)).bind fun y hy=>Av.ok hy
   obtain⟨o,o1⟩:=s
   show Av (Ir r x o o1) _
   unfold Ir
   refine(Ars hr x h1 h2).bind fun v hv=>?_
   refine Av.bind (P:=fun _=>True) (Av.ite (fun _=>(An4 _ _).bind fun _=>Av.ok trivial) fun _=>Av.ok trivial) fun b _=>Av.ite (fun _=>Av.ok h3) fun _=>?_
   obtain⟨st,hst,_⟩:=Apl hr x
   rw [hst,R.ok_bind]
   refine Av.ite (fun q=>?_) fun _=>Av.ok h3
   simp only [Bool.and_eq_true,beq_iff_eq] at q
   unfold Gs
   rw [if_pos (by unfold Cm; omega),R.ok_bind,if_pos (by omega)]
   refine Av.ok (.inr ?_)
   rw [hst]
   exact congrArg R.ok (Prod.ext q.2 q.1)
  ·obtain⟨o,o1⟩:=x
   show Av (if(List.isEmpty o1) then R.ok (([]:List Int),(380:Int)) else .ok (o,0)) _
   refine Av.ite (fun _=>Av.ok (.inr (.inr rfl))) fun q=>Av.ok (.inl ⟨rfl,hr,?_⟩)
   rcases hx with hx | hx
   ·exact absurd (by simp only at hx; rw [hx]; rfl) q
   ·exact hx
def Atl (r:Round)(x:List Int×Int):Prop:=(x.2=3∧CChk r∧Ek r x.1=.ok (true,0))∨(x.2=4∧x.1=(List.range r.Owners.length).map fun n:Nat=>(n:Int))
theorem Aku (r:Round)(hl:r.Owners.length≤100000):Av (Ho r) (Atl r):=by
 unfold Ho
 refine(As0 r).bind fun x hx=>Av.ite (fun q=>Av.ok (.inl ⟨rfl,?_⟩)) fun q=>?_
 ·have q':x.2=0:=by simpa using q
  rcases hx with⟨_,h⟩ | h
  ·exact h
  ·rw [q'] at h; omega
 ·have:=Av.eachS (b:=fun j _=>fun outcome=>K0 j outcome) (I:=fun n (l:List Int)=>l=(List.range n).map fun n:Nat=>(n:Int)) r.Owners 0 [] rfl (fun j a l hj hI=>by
   simp only [Nat.zero_add] at hI ⊢
   subst hI
   have hjl:j<r.Owners.length:=A6 hj
   unfold K0
   rw [if_pos (by simp only [List.length_map,List.length_range,List.length_singleton,Cm]; omega)]
   refine Av.ok ?_
   rw [List.range_succ,List.map_append]
   rfl)
  refine this.bind fun l hl=>Av.ok (.inr ⟨rfl,?_⟩)
  rw [hl,Nat.zero_add]
end Go.Am
namespace Go.Am
open Go
set_option linter.unusedVariables false
set_option linter.unusedSimpArgs false
theorem Afi {α:Type}[DecidableEq α]{b:Nat→α→Unit→R (Unit ⊕ Bool)}(s1 s2:List α)(h:s1.length=s2.length)(hb : ∀ (j:Nat) a a1,s2[j]? = some a1→b j a ()=if a=a1 then .ok (.inl ()) else .ok (.inr false)) :
  Av ((each b 0 s1 ()).bind (alt (fun _=>R.ok true) (fun r=>.ok r))) fun r=>(r=true↔s1=s2):=by
 refine(Av.each (b:=b) (I:=fun n (_:Unit)=>s1.take n=s2.take n) (E:=fun r:Bool=>r=false∧s1≠s2) s1 0 () (by simp) fun j a _ hj hI=>?_).bind fun x hx=>Av.alt hx (fun u hu=>Av.ok ⟨fun _=>?_,fun _=>rfl⟩) fun r hr=>Av.ok ⟨fun e=>by rw [hr.1] at e; exact absurd e (by decide),fun e=>absurd e hr.2⟩
 ·simp only [Nat.zero_add] at hI ⊢
  have hjl:j<s1.length:=A6 hj
  have hj2:s2[j]? = some s2[j]:=List.getElem?_eq_getElem (by omega)
  rw [hb j a _ hj2]
  by_cases q:a=s2[j]
  ·rw [if_pos q]
   refine Av.ok ?_
   show s1.take (j+1)=s2.take (j+1)
   rw [List.take_add_one,List.take_add_one,hI,hj,hj2,q]
  ·rw [if_neg q]
   refine Av.ok ⟨rfl,fun e=>q ?_⟩
   subst e
   rw [hj] at hj2
   exact Option.some.inj hj2
 ·simp only [Yz,Nat.zero_add,List.take_length] at hu
  rw [hu,h,List.take_length]
theorem Akv (s1 s2:List Int):Av (J4 s1 s2) fun r=>(r=true↔s1=s2):=by
 unfold J4
 refine Av.ite (fun q=>Av.ok ⟨fun e=>absurd e (by decide),fun e=>by subst e; simp at q⟩) fun q=>?_
 refine Afi s1 s2 (by have this:¬ ((s1.length:Int)≠(s2.length:Int)):=(by simpa using q); omega) fun j a a1 hj=>?_
 unfold Lt
 rw [L3 hj,R.ok_bind]
 by_cases h:a=a1
 ·rw [if_neg (by simpa using h),if_pos h]
 ·rw [if_pos (by simpa using h),if_neg h]
theorem Ahf (s1 s2:List (Vector Int 32)):Av (Ls s1 s2) fun r=>(r=true↔s1=s2):=by
 unfold Ls
 refine Av.ite (fun q=>Av.ok ⟨fun e=>absurd e (by decide),fun e=>by subst e; simp at q⟩) fun q=>?_
 refine Afi s1 s2 (by have this:¬ ((s1.length:Int)≠(s2.length:Int)):=(by simpa using q); omega) fun j a a1 hj=>?_
 unfold Jt
 rw [L3 hj,R.ok_bind]
 by_cases h:a=a1
 ·rw [if_pos (by simpa using h),if_pos h]
 ·rw [if_neg (by simpa using h),if_neg h]
structure Sm (c:Clearing):Prop where
 op:c.Openings.length≤1000
 path : ∀ o ∈ c.Openings,o.Path.length≤1000
 out:c.Outcome.length≤1000
def exR (c:Clearing):Round:={ Slots:=c.Slots,Owners:=c.Owners,Costs:=Ai0 c }
structure Fin (c:Clearing):Prop where
 com:zD ∉ c.Commitments
 opn:Rw c
 full:Aes c
 out:Ho (exR c)=.ok (c.Outcome,c.Phase)
structure ValidC (c:Clearing):Prop where
 formed:Formed c
 phase:(c.Phase=1∧zD ∈ c.Commitments∧c.Openings=[]∧c.Outcome=[])∨(c.Phase=2∧zD ∉ c.Commitments∧Rw c∧c.Outcome=[])∨((c.Phase=3∨c.Phase=4)∧Fin c)
theorem Amk (c:Clearing)(hF:Formed c)(hs:Sm c):Av (Ji c) fun r=>(r=true↔Fin c):=by
 unfold Ji
 rw [On,R.ok_bind]
 have hfl:=hF.fl; have hsl:=hF.slots
 by_cases h0:zD ∈ c.Commitments
 ·simp only [h0,decide_true,Bool.not_true,Bool.not_false,if_true,R.ok_bind]
  exact Av.ok ⟨fun e=>absurd e (by decide),fun h=>absurd h0 h.com⟩
 simp only [h0,decide_false,Bool.not_true,Bool.not_false,Bool.false_eq_true,if_false]
 refine Av.bind (Av.bind (Ah2 c hF hs.path hs.op) (Q:=fun b=>(b=false↔Rw c)) fun b hb=>Av.ok ?_) fun b hb=>?_
 ·cases b <;> simp_all
 refine Av.ite (fun q=>Av.ok ⟨fun e=>absurd e (by decide),fun h=>?_⟩) fun q=>?_
 ·rw [hb.2 h.opn] at q; exact absurd q (by decide)
 have hO:Rw c:=hb.1 (by simpa using q)
 rw [Agk c hsl (by omega),R.ok_bind]
 by_cases hfu:c.Openings.length=c.Flights.length * c.Slots.toNat
 case neg=>
  rw [if_neg hfu]
  exact Av.ok ⟨fun e=>absurd e (by decide),fun h=>absurd h.full hfu⟩
 rw [if_pos hfu]
 simp only [if_true]
 obtain⟨x,e,_⟩:=Aku (exR c) (show c.Owners.length≤100000 by have:=hF.ow; omega)
 rw [show({ Slots:=c.Slots,Owners:=c.Owners,Costs:=Ai0 c }:Round)=exR c from rfl,e,R.ok_bind]
 refine Av.bind (P:=fun b:Bool=>(b=true↔x=(c.Outcome,c.Phase))) ?_ fun b hb=>Av.ok ⟨fun hbt=>⟨h0,hO,hfu,by rw [e,hb.1 hbt]⟩,fun h=>hb.2 (by rw [h.out] at e; exact(R.ok.inj e).symm)⟩
 by_cases hph:x.2=c.Phase
 ·rw [if_pos (by simpa using hph)]
  refine(Akv x.1 c.Outcome).bind fun b hb=>Av.ok ?_
  rw [hb]
  exact⟨fun h=>Prod.ext h hph,fun h=>by rw [h]⟩
 ·rw [if_neg (by simpa using hph)]
  exact Av.ok ⟨fun e=>absurd e (by decide),fun h=>absurd (by rw [h]) hph⟩
theorem X0 (c:Clearing)(hs:Sm c):Av (C4 c) fun e=>(e=0∧ValidC c)∨(e=400∧¬ ValidC c):=by
 unfold C4
 refine(Aph c).bind fun f hf=>?_
 have h400 : ∀ h:¬ ValidC c,Av (Df true) fun e=>(e=0∧ValidC c)∨(e=400∧¬ ValidC c):=fun h=>Av.ok (.inr ⟨rfl,h⟩)
 refine Av.ite (fun q=>h400 fun h=>?_) fun q=>?_
 ·rw [hf.2 h.formed] at q; exact absurd q (by decide)
 have hF:Formed c:=hf.1 (by simpa using q)
 refine Av.ite (fun q=>h400 fun h=>?_) fun q1=>?_
 ·have:=h.phase; simp only [decide_eq_true_eq] at q; omega
 refine Av.ite (fun q=>h400 fun h=>?_) fun q2=>?_
 ·have:=h.phase; simp only [decide_eq_true_eq] at q; omega
 simp only [decide_eq_true_eq] at q1 q2
 have hj : ∀ (b:Bool),(b=true↔ValidC c)→Av (Df (!b)) fun e=>(e=0∧ValidC c)∨(e=400∧¬ ValidC c):=fun b hb=>by
  cases b with
  | true=>exact Av.ok (.inl ⟨rfl,hb.1 rfl⟩)
  | false=>exact Av.ok (.inr ⟨rfl,fun h=>absurd (hb.2 h) (by decide)⟩)
 rw [if_neg (by omega)]
 refine Av.ite (fun p1=>?_) fun p1=>Av.ite (fun p2=>?_) fun p2=>Av.ite (fun p3=>?_) fun p3=>Av.ite (fun p4=>?_) fun p4=>by omega
 ·unfold Og
  rw [On,R.ok_bind,Nl (by have:=hs.op; omega) (by have:=hs.op; have:=hs.out; omega),R.ok_bind]
  refine hj _ ⟨fun h=>⟨hF,.inl ⟨p1,?_⟩⟩,fun h=>?_⟩
  ·simp only [Bool.not_not,Bool.and_eq_true,decide_eq_true_eq,beq_iff_eq] at h
   exact⟨h.1,List.length_eq_zero_iff.1 (by omega),List.length_eq_zero_iff.1 (by omega)⟩
  ·rcases h.phase with⟨_,h1,h2,h3⟩ | ⟨h1,_⟩ | ⟨h1,_⟩
   ·rw [h2,h3]; simp [h1]
   ·omega
   ·omega
 ·unfold Ma
  rw [On,R.ok_bind]
  by_cases h0:zD ∈ c.Commitments
  ·simp only [h0,decide_true,Bool.not_true,Bool.false_eq_true,if_false,R.ok_bind,Bool.false_and]
   refine hj _ ⟨fun h=>absurd h (by decide),fun h=>?_⟩
   rcases h.phase with⟨h1,_⟩ | ⟨_,h1,_⟩ | ⟨h1,_⟩
   ·omega
   ·exact absurd h0 h1
   ·omega
  ·simp only [h0,decide_false,Bool.not_false,if_true]
   obtain⟨b,e,hb⟩:=Ah2 c hF hs.path hs.op
   rw [e]
   simp only [R.ok_bind]
   refine hj _ ⟨fun h=>⟨hF,.inr (.inl ⟨p2,h0,?_⟩)⟩,fun h=>?_⟩
   ·simp only [Bool.and_eq_true,beq_iff_eq] at h
    exact⟨hb.1 h.1,List.length_eq_zero_iff.1 (by omega)⟩
   ·rcases h.phase with⟨h1,_⟩ | ⟨_,_,h1,h2⟩ | ⟨h1,_⟩
    ·omega
    ·rw [hb.2 h1,h2]; rfl
    ·omega
 all_goals
  obtain⟨b,e,hb⟩:=Amk c hF hs
  rw [e]
  simp only [R.ok_bind]
  refine hj _ ⟨fun h=>⟨hF,.inr (.inr ⟨by omega,hb.1 h⟩)⟩,fun h=>?_⟩
  rcases h.phase with⟨h1,_⟩ | ⟨h1,_⟩ | ⟨_,h1⟩
  ·omega
  ·omega
  ·exact hb.2 h1
theorem Ahb {c:Clearing}(hs:Sm c)(h:ValidC c):C4 c=.ok 0:=by
 refine Av.eq ((X0 c hs).mono fun e he=>?_)
 rcases he with⟨h,_⟩ | ⟨_,h'⟩
 ·exact h
 ·exact absurd h h'
end Go.Am
namespace Go.Am
open Go
set_option linter.unusedVariables false
set_option linter.unusedSimpArgs false
theorem Ayh {n:Int}(h1:0≤n)(h2:n<18446744073709551616):IntKind.wrap .u64 n=n:=by simp [IntKind.wrap,IntKind.bits,IntKind.signed]; omega
theorem Ap6 (l:List Opening)(o:Opening)(hl:l.length≤100000)(hs:l.Pairwise Ko):Av (Dc l o) fun x => ∃ n:Nat,x.1=(n:Int)∧n≤l.length∧(∀ k y,l[k]? = some y→k<n→Ko y o)∧(∀ k y,l[k]? = some y→n≤k→¬ Ko y o)∧(x.2=true ↔ ∃ y,l[n]? = some y∧y.Flight=o.Flight∧y.Slot=o.Slot):=by
 unfold Dc
 refine Av.bind (P:=fun i:Int => ∃ n:Nat,i=(n:Int)∧n≤l.length∧(∀ k y,l[k]? = some y→k<n→Ko y o)∧(∀ k y,l[k]? = some y→n≤k→¬ Ko y o)) (Av.loop (I:=fun s:Int×Int=>0≤s.1∧s.1≤s.2∧s.2≤(l.length:Int)∧(∀ (k:Nat) y,l[k]? = some y→(k:Int)<s.1→Ko y o)∧(∀ (k:Nat) y,l[k]? = some y→s.2≤(k:Int)→¬ Ko y o)) (fun s=>(s.2 - s.1).toNat) ?_ l.length (0,(l.length:Int)) (by simp) ⟨by simp,by simp,by simp,fun k y _ h=>by simp only at h; omega,fun k y hk h=>by have:=A6 hk; simp only at h; omega⟩) ?_
 ·rintro⟨i,j⟩ ⟨i1,i2,i3,i4,i5⟩
  show Av (C6 l o i j) _
  simp only at i1 i2 i3 i4 i5
  unfold C6
  by_cases hij:i<j
  case neg=>
   rw [if_neg hij]
   obtain rfl:i=j:=by omega
   exact Av.ok ⟨i.toNat,by omega,by omega,fun k y hk h=>i4 k y hk (by omega),fun k y hk h=>i5 k y hk (by omega)⟩
  have hm:Int.fdiv (i+j) 2=(i+j) / 2:=Int.fdiv_eq_ediv_of_nonneg _ (by decide)
  rw [if_pos hij,Nl (n:=i+j) (by omega) (by omega),Ayh (n:=i+j) (by omega) (by omega),hm,Nl (n:=(i+j) / 2) (by omega) (by omega)]
  have hml:((i+j) / 2).toNat<l.length:=by omega
  obtain⟨m,hmm⟩ : ∃ m:Nat,(i+j) / 2=(m:Int):=⟨((i+j) / 2).toNat,by omega⟩
  rw [hmm] at hml ⊢
  rw [Int.toNat_natCast] at hml
  have hget:=List.getElem?_eq_getElem hml
  rw [L3 hget,R.ok_bind,Wc,R.ok_bind]
  by_cases hc:Aer l[m] o<0
  ·rw [if_pos hc,Nl (n:=(m:Int)+1) (by omega) (by omega)]
   have hlt:Ko l[m] o:=Ac4.1 hc
   refine Av.ok ⟨⟨by simp only; omega,by simp only; omega,by simp only; omega,fun k y hk h=>?_,fun k y hk h=>i5 k y hk h⟩,by simp only; omega⟩
   simp only at h
   have hkl:=A6 hk
   rw [List.getElem?_eq_getElem hkl] at hk
   obtain rfl:=Option.some.inj hk
   rcases Nat.lt_or_ge k m with h' | h'
   ·exact(List.pairwise_iff_getElem.1 hs k m hkl hml h').trans hlt
   ·obtain rfl:k=m:=by omega
    exact hlt
  ·rw [if_neg hc]
   have hge:¬ Ko l[m] o:=fun h=>hc (Ac4.2 h)
   refine Av.ok ⟨⟨by simp only; omega,by simp only; omega,by simp only; omega,fun k y hk h=>i4 k y hk h,fun k y hk h hlt=>?_⟩,by simp only; omega⟩
   simp only at h
   have hkl:=A6 hk
   rw [List.getElem?_eq_getElem hkl] at hk
   obtain rfl:=Option.some.inj hk
   rcases Nat.lt_or_ge m k with h' | h'
   ·exact hge ((List.pairwise_iff_getElem.1 hs m k hml hkl h').trans hlt)
   ·obtain rfl:k=m:=by omega
    exact hge hlt
 ·rintro i ⟨n,rfl,n1,n2,n3⟩
  unfold Dj
  by_cases hn:(n:Int)<(l.length:Int)
  ·have hnl:n<l.length:=by omega
   rw [if_pos (by simpa using hn),L3 (List.getElem?_eq_getElem hnl),R.ok_bind,Wc,R.ok_bind]
   refine Av.ok ⟨n,rfl,n1,n2,n3,?_⟩
   rw [beq_iff_eq,Arw]
   constructor
   ·intro h; exact⟨_,List.getElem?_eq_getElem hnl,h⟩
   ·rintro⟨y,hy,h⟩
    rw [List.getElem?_eq_getElem hnl] at hy
    rw [Option.some.inj hy]; exact h
  ·rw [if_neg (by simpa using hn)]
   refine Av.ok ⟨n,rfl,n1,n2,n3,fun e=>by simp at e,?_⟩
   rintro⟨y,hy,_⟩
   have:=A6 hy
   omega
theorem Asp (a b:Opening):Av (R9 a b) fun r=>(r=true↔a=b):=by
 unfold R9
 by_cases h:a.Airline=b.Airline∧a.Flight=b.Flight∧a.Slot=b.Slot∧a.Cost=b.Cost∧a.Salt=b.Salt
 ·obtain⟨h1,h2,h3,h4,h5⟩:=h
  rw [if_pos (by simp [h1,h2,h3,h4,h5])]
  refine Av.bind ((Ahf a.Path b.Path).bind fun r hr=>Av.ok hr) fun r hr=>Av.ok ?_
  rw [hr]
  obtain⟨a1,a2,a3,a4,a5,a6⟩:=a
  obtain⟨b1,b2,b3,b4,b5,b6⟩:=b
  simp only at h1 h2 h3 h4 h5
  subst h1 h2 h3 h4 h5
  simp
 ·rw [if_neg (fun q=>h (by
   simp only [Bool.and_eq_true,beq_iff_eq] at q
   obtain⟨⟨⟨⟨q1,q2⟩,q3⟩,q4⟩,q5⟩:=q
   exact⟨q1,q2,q3,q4,q5⟩))]
  exact Av.ok ⟨fun e=>absurd e (by decide),fun e=>absurd (by subst e; exact⟨rfl,rfl,rfl,rfl,rfl⟩) h⟩
theorem Avs {f:Nat→Nat}{N:Nat}(h1 : ∀ i j,i<j→j<N→f i<f j)(h2 : ∀ i,i<N→f i<N) : ∀ i,i<N→f i=i:=by
 have lo : ∀ i,i<N→i≤f i:=by
  intro i
  induction i with
  | zero=>intro _; omega
  | succ i ih=>intro hi; have:=ih (by omega); have:=h1 i (i+1) (by omega) hi; omega
 have hi : ∀ d i,i+d+1=N→f i≤i:=by
  intro d
  induction d with
  | zero=>intro i h; have:=h2 i (by omega); omega
  | succ d ih=>intro i h; have:=ih (i+1) (by omega); have:=h1 i (i+1) (by omega) (by omega); omega
 intro i h
 have:=lo i h
 have:=hi (N - i - 1) i (by omega)
 omega
theorem Apm {l:List Int}{a b:Int}(hs:l.Pairwise (· < ·))(ha:a ∈ l)(hb:b ∈ l)(h:a<b):(G2 l a).toNat<(G2 l b).toNat:=by
 have h1:=Zs (Nc.2 ha)
 have h2:=Zs (Nc.2 hb)
 rcases Nat.lt_or_ge (G2 l a).toNat (G2 l b).toNat with q | q
 ·exact q
 ·exfalso
  have k1:=A6 h1
  have k2:=A6 h2
  rw [List.getElem?_eq_getElem k1] at h1
  rw [List.getElem?_eq_getElem k2] at h2
  have e1:=Option.some.inj h1
  have e2:=Option.some.inj h2
  rcases Nat.lt_or_ge (G2 l b).toNat (G2 l a).toNat with q' | q'
  ·have:=List.pairwise_iff_getElem.1 hs _ _ k2 k1 q'
   omega
  ·have e:(G2 l a).toNat=(G2 l b).toNat:=by omega
   simp only [e] at e1
   omega
def Tt (c:Clearing)(o:Opening):Nat:=(G2 c.Flights o.Flight).toNat * c.Slots.toNat+o.Slot.toNat
theorem Abi {c:Clearing}{o:Opening}(h:Wa c o):0≤o.Slot∧o.Slot<c.Slots:=by
 obtain⟨_,_,d,_,hV⟩:=h
 exact⟨hV.2.2.2.2.2.2.1,hV.2.2.2.2.2.2.2.1⟩
theorem Aoe {c:Clearing}{o:Opening}(h:Wa c o):Tt c o<c.Flights.length * c.Slots.toNat:=by
 have h1:=Abi h
 have h2:=A6 (Zs (Nc.2 h.1))
 have h3:((G2 c.Flights o.Flight).toNat+1) * c.Slots.toNat≤c.Flights.length * c.Slots.toNat:=Nat.mul_le_mul_right _ h2
 rw [Nat.add_mul,Nat.one_mul] at h3
 unfold Tt
 omega
theorem Ar2 {c:Clearing}(hF:Formed c){a b:Opening}(ha:Wa c a)(hb:Wa c b)(h:Ko a b):Tt c a<Tt c b:=by
 have h1:=Abi ha
 have h2:=Abi hb
 unfold Tt
 rcases h with h | ⟨h,h'⟩
 ·have h3:=Apm hF.lt ha.1 hb.1 h
  have h4:((G2 c.Flights a.Flight).toNat+1) * c.Slots.toNat≤(G2 c.Flights b.Flight).toNat * c.Slots.toNat:=Nat.mul_le_mul_right _ h3
  rw [Nat.add_mul,Nat.one_mul] at h4
  omega
 ·rw [h]; omega
theorem Atb {c:Clearing}{a b:Opening}(ha:Wa c a)(hb:Wa c b)(h:Tt c a=Tt c b):a.Flight=b.Flight∧a.Slot=b.Slot:=by
 have h1:=Abi ha
 have h2:=Abi hb
 have hS:0<c.Slots.toNat:=by omega
 unfold Tt at h
 have e1:(G2 c.Flights a.Flight).toNat=(G2 c.Flights b.Flight).toNat:=by
  have q1:((G2 c.Flights a.Flight).toNat * c.Slots.toNat+a.Slot.toNat) / c.Slots.toNat=((G2 c.Flights b.Flight).toNat * c.Slots.toNat+b.Slot.toNat) / c.Slots.toNat:=by rw [h]
  rw [Nat.mul_comm,Nat.mul_add_div hS,Nat.mul_comm,Nat.mul_add_div hS,Nat.div_eq_of_lt (by omega),Nat.div_eq_of_lt (by omega)] at q1
  omega
 have f1:=Zs (Nc.2 ha.1)
 have f2:=Zs (Nc.2 hb.1)
 rw [e1] at f1 h
 rw [f1] at f2
 exact⟨Option.some.inj f2,by omega⟩
theorem Arm {c:Clearing}(hF:Formed c)(hO:Rw c)(hf:Aes c)(k:Nat)(h:k<c.Openings.length):Tt c c.Openings[k]=k:=by
 have:=Avs (f:=fun i=>if h:i<c.Openings.length then Tt c c.Openings[i] else i) (N:=c.Openings.length) (fun i j hij hj=>by
  rw [dif_pos (by omega),dif_pos hj]
  exact Ar2 hF (hO.2 _ (List.getElem_mem _)) (hO.2 _ (List.getElem_mem _)) (List.pairwise_iff_getElem.1 hO.1 i j (by omega) hj hij)) (fun i hi=>by
  rw [dif_pos hi,hf]
  exact Aoe (hO.2 _ (List.getElem_mem _))) k h
 rwa [dif_pos h] at this
theorem Atv {c:Clearing}(hF:Formed c)(hO:Rw c)(hf:Aes c){o:Opening}(ho:Wa c o) : ∃ h:Tt c o<c.Openings.length,(c.Openings[Tt c o]'h).Flight=o.Flight∧(c.Openings[Tt c o]'h).Slot=o.Slot:=by
 have h:Tt c o<c.Openings.length:=by rw [hf]; exact Aoe ho
 exact⟨h,Atb (hO.2 _ (List.getElem_mem _)) ho (Arm hF hO hf _ h)⟩
end Go.Am
namespace Go.Am
open Go
set_option linter.unusedVariables false
set_option linter.unusedSimpArgs false
def zC:Clearing:={ No:=0,Phase:=0,Slots:=0,Owners:=[],Flights:=[],Commitments:=[],Openings:=[],Outcome:=[] }
def Aae (c:Clearing)(i:Nat)(d:Vector Int 32):Clearing:={ c with Phase:=if zD ∈ c.Commitments.set i d then c.Phase else 2,Commitments:=c.Commitments.set i d }
def Au0 (c:Clearing)(a:Int)(d:Vector Int 32)(x:Clearing×Int):Prop:=
 (x=(zC,400)∧(¬ ValidC c∨a ∉ Nu c.Owners∨d=zD ∨ ∃ e,c.Commitments[(G2 (Nu c.Owners) a).toNat]? = some e∧e≠d∧e≠zD)) ∨
 (x.2=0∧ValidC c∧a ∈ Nu c.Owners∧d≠zD∧((c.Commitments[(G2 (Nu c.Owners) a).toNat]? = some d∧x.1=c)∨(c.Commitments[(G2 (Nu c.Owners) a).toNat]? = some zD∧x.1=Aae c (G2 (Nu c.Owners) a).toNat d)))
theorem Aja (c:Clearing)(a:Int)(d:Vector Int 32)(hs:Sm c):Av (En c a d) (Au0 c a d):=by
 unfold En
 refine(X0 c hs).bind fun e he=>?_
 rcases he with⟨rfl,hV⟩ | ⟨rfl,hV⟩
 case inr=>
  rw [if_pos (by decide)]
  exact Av.ok (.inl ⟨rfl,.inl hV⟩)
 rw [if_neg (by decide)]
 have hF:=hV.formed
 have hfl:=hF.fl; have hsl:=hF.slots; have how:=hF.ow; have hcm:=hF.com
 refine(Acn c.Owners (by omega)).bind fun r hr=>?_
 rw [hr.1,Ow,R.ok_bind,Al8]
 by_cases ha:a ∈ Nu c.Owners
 case neg=>
  have:=mt Nc.1 ha
  rw [if_pos (by simp only [Bool.or_eq_true,decide_eq_true_eq]; left; omega)]
  exact Av.ok (.inl ⟨rfl,.inr (.inl ha)⟩)
 have hi:=Nc.2 ha
 have hil:=Aj5 (l:=Nu c.Owners) (v:=a)
 by_cases hd:d=zD
 ·rw [if_pos (by simp [hd])]
  exact Av.ok (.inl ⟨rfl,.inr (.inr (.inl hd))⟩)
 rw [if_neg (by simp only [Bool.or_eq_true,decide_eq_true_eq,beq_iff_eq,not_or]; exact⟨by omega,hd⟩)]
 refine(Av.idx (P:=fun e=>c.Commitments[(G2 (Nu c.Owners) a).toNat]? = some e) hi (by omega) fun e h=>h).bind fun e he=>?_
 by_cases hed:e=d
 ·rw [if_pos (by simpa using hed)]
  subst hed
  exact Av.ok (.inr ⟨rfl,hV,ha,hd,.inl ⟨he,rfl⟩⟩)
 rw [if_neg (by simpa using hed)]
 by_cases hez:e=zD
 case neg=>
  rw [if_neg (by simpa using hez)]
  exact Av.ok (.inl ⟨rfl,.inr (.inr (.inr ⟨e,he,hed,hez⟩))⟩)
 rw [if_pos (by simpa using hez)]
 subst hez
 have hal:=Ath c.Owners
 unfold Lv
 rw [if_pos (by unfold Cm; omega),R.ok_bind]
 refine(R8 hi (by omega)).bind fun a1=>?_
 rw [On,R.ok_bind]
 by_cases hz:zD ∈ c.Commitments.set (G2 (Nu c.Owners) a).toNat d
 ·rw [if_neg (by simp [hz])]
  refine Av.ok (.inr ⟨rfl,hV,ha,hd,.inr ⟨he,?_⟩⟩)
  unfold Aae
  rw [if_pos hz]
 ·rw [if_pos (by simp [hz])]
  refine Av.ok (.inr ⟨rfl,hV,ha,hd,.inr ⟨he,?_⟩⟩)
  unfold Aae
  rw [if_neg hz]
theorem Sm.put {c:Clearing}{i:Nat}{d:Vector Int 32}(h:Sm c):Sm (Aae c i d):=⟨h.op,h.path,h.out⟩
theorem Formed.same {c x:Clearing}(h:Formed c)(e1:x.No=c.No)(e2:x.Slots=c.Slots)(e3:x.Flights=c.Flights)(e4:x.Owners=c.Owners)(e5:x.Commitments.length=c.Commitments.length):Formed x:=
 ⟨by rw [e1]; exact h.no,by rw [e2]; exact h.slots,by rw [e2,e3]; exact h.fl,by rw [e3,e4]; exact h.ow,by rw [e3]; exact h.lt,by rw [e3]; exact h.rng,by rw [e4]; exact h.own,by rw [e4,e5]; exact h.com⟩
theorem Aqz {c:Clearing}{i:Nat}{d:Vector Int 32}(hV:ValidC c)(hz:c.Commitments[i]? = some zD):ValidC (Aae c i d):=by
 have hmem:zD ∈ c.Commitments:=List.mem_of_getElem? hz
 have hF':Formed (Aae c i d):=hV.formed.same rfl rfl rfl rfl (by simp [Aae])
 rcases hV.phase with⟨h1,h2,h3,h4⟩ | ⟨_,h,_⟩ | ⟨_,h⟩
 ·refine⟨hF',?_⟩
  by_cases h:zD ∈ c.Commitments.set i d
  ·refine .inl ⟨?_,h,h3,h4⟩
   show(if zD ∈ c.Commitments.set i d then c.Phase else 2)=1
   rw [if_pos h,h1]
  ·refine .inr (.inl ⟨?_,h,?_,h4⟩)
   ·show(if zD ∈ c.Commitments.set i d then c.Phase else 2)=2
    rw [if_neg h]
   ·refine⟨?_,?_⟩
    ·show c.Openings.Pairwise Ko
     rw [h3]; exact .nil
    ·show ∀ o ∈ c.Openings,_
     rw [h3]; intro o ho; simp at ho
 ·exact absurd hmem h
 ·exact absurd hmem h.com
def Xd (l:List Opening)(n:Nat)(o:Opening):List Opening:=l.take n++[o]++l.drop n
def At5 (c:Clearing)(o:Opening)(x:Clearing×Int):Prop:=
 (x.1=zC∧x.2≠0∧(¬ ValidC c∨c.Phase=1∨¬ Wa c o ∨ ∃ y ∈ c.Openings,y.Flight=o.Flight∧y.Slot=o.Slot∧y≠o)) ∨
 (x.2=0∧ValidC c∧c.Phase≠1∧Wa c o∧((o ∈ c.Openings∧x.1=c) ∨ ∃ n,n≤c.Openings.length∧(∀ y ∈ c.Openings.take n,Ko y o)∧(∀ y ∈ c.Openings.drop n,Ko o y)∧x.1={ c with Openings:=Xd c.Openings n o }))
theorem Ae4 {c:Clearing}(hV:ValidC c)(hp:c.Phase≠1):Rw c:=by
 rcases hV.phase with⟨h,_⟩ | ⟨_,_,h,_⟩ | ⟨_,h⟩
 ·exact absurd h hp
 ·exact h
 ·exact h.opn
theorem Aq9 (a b:Opening)(h:¬ Ko a b)(h':¬ (a.Flight=b.Flight∧a.Slot=b.Slot)):Ko b a:=by unfold Ko at *; omega
theorem Anh (c:Clearing)(o:Opening)(hs:Sm c)(hp:o.Path.length≤1000):Av (Ix c o) (At5 c o):=by
 unfold Ix
 refine(X0 c hs).bind fun e he=>?_
 rcases he with⟨rfl,hV⟩ | ⟨rfl,hV⟩
 case inr=>
  rw [if_pos (by decide)]
  exact Av.ok (.inl ⟨rfl,by decide,.inl hV⟩)
 rw [if_neg (by decide)]
 by_cases h1:c.Phase=1
 ·rw [if_pos (by simpa using h1)]
  exact Av.ok (.inl ⟨rfl,by decide,.inr (.inl h1)⟩)
 rw [if_neg (by simpa using h1)]
 have hO:=Ae4 hV h1
 refine(Agn c o hV.formed hp).bind fun e he=>?_
 rcases he with⟨rfl,hA⟩ | ⟨he,hA⟩
 case inr=>
  have h0:e≠0:=by omega
  rw [if_pos (by simpa using h0)]
  exact Av.ok (.inl ⟨rfl,h0,.inr (.inr (.inl hA))⟩)
 rw [if_neg (by decide)]
 have hlen:=hs.op
 refine Av.bind (P:=fun r:Int×Bool×List Opening => ∃ n:Nat,r.1=(n:Int)∧n≤c.Openings.length∧(∀ k y,c.Openings[k]? = some y→k<n→Ko y o)∧(∀ k y,c.Openings[k]? = some y→n≤k→¬ Ko y o) ∧
   ((r.2.1=true∧r.2.2=c.Openings ∧ ∃ y,c.Openings[n]? = some y∧y.Flight=o.Flight∧y.Slot=o.Slot)∨(r.2.1=false∧r.2.2=Xd c.Openings n o∧¬ ∃ y,c.Openings[n]? = some y∧y.Flight=o.Flight∧y.Slot=o.Slot))) ?_ fun r hr=>?_
 ·unfold Fb
  refine(Ap6 c.Openings o (by omega) hO.1).bind fun x hx=>?_
  obtain⟨n,x1,n1,n2,n3,n4⟩:=hx
  refine Av.ite (fun q=>Av.ok ⟨n,x1,n1,n2,n3,.inl ⟨rfl,rfl,n4.1 q⟩⟩) fun q=>?_
  unfold Ky
  rw [if_pos (by unfold Cm; omega),R.ok_bind]
  unfold Oi S1
  rw [x1,if_pos ⟨by omega,by omega,by simp,by simp only [List.length_singleton,Cm]; omega⟩,R.ok_bind,Int.toNat_natCast]
  refine Av.ok ⟨n,x1,n1,n2,n3,.inr ⟨rfl,rfl,fun h=>q (n4.2 h)⟩⟩
 obtain⟨n,r1,n1,n2,n3,n4⟩:=hr
 rcases n4 with⟨b1,b2,y,hy,hk⟩ | ⟨b1,b2,hno⟩
 ·rw [b1,if_pos rfl,r1,L3 hy,R.ok_bind]
  refine(Asp y o).bind fun q hq=>?_
  unfold Kg
  by_cases hyo:y=o
  ·rw [hq.2 hyo,if_neg (by decide),b2]
   subst hyo
   exact Av.ok (.inr ⟨rfl,hV,h1,hA,.inl ⟨List.mem_of_getElem? hy,rfl⟩⟩)
  ·have:q=false:=by
    cases q with
    | false=>rfl
    | true=>exact absurd (hq.1 rfl) hyo
   rw [this,if_pos (by decide)]
   exact Av.ok (.inl ⟨rfl,by simp,.inr (.inr (.inr ⟨y,List.mem_of_getElem? hy,hk.1,hk.2,hyo⟩))⟩)
 ·rw [b1,if_neg (by decide)]
  unfold Kg
  rw [if_neg (by decide),b2]
  refine Av.ok (.inr ⟨rfl,hV,h1,hA,.inr ⟨n,n1,fun y hy=>?_,fun y hy=>?_,rfl⟩⟩)
  ·obtain⟨k,hk,rfl⟩:=List.getElem_of_mem hy
   rw [List.length_take] at hk
   rw [List.getElem_take]
   exact n2 k _ (List.getElem?_eq_getElem (by omega)) (by omega)
  ·obtain⟨k,hk,rfl⟩:=List.getElem_of_mem hy
   rw [List.length_drop] at hk
   rw [List.getElem_drop]
   have hkl:n+k<c.Openings.length:=by omega
   have hget:=List.getElem?_eq_getElem hkl
   refine Aq9 _ _ (n3 (n+k) _ hget (by omega)) fun heq=>?_
   rcases Nat.eq_zero_or_pos k with rfl | hkp
   ·exact hno ⟨_,hget,heq⟩
   ·have hnl:n<c.Openings.length:=by omega
    have hlt:=List.pairwise_iff_getElem.1 hO.1 n (n+k) hnl hkl (by omega)
    have hge:=n3 n _ (List.getElem?_eq_getElem hnl) (Nat.le_refl _)
    refine hge ?_
    unfold Ko at hlt ⊢
    omega
theorem Sm.ins {c:Clearing}{n:Nat}{o:Opening}(h:Sm c)(hl:c.Openings.length≤900)(ho:o.Path.length≤1000):Sm { c with Openings:=Xd c.Openings n o }:=by
 refine⟨?_,fun y hy=>?_,h.out⟩
 ·simp only [Xd,List.length_append,List.length_take,List.length_drop,List.length_singleton]; omega
 ·simp only [Xd,List.mem_append,List.mem_singleton] at hy
  rcases hy with(hy | rfl) | hy
  ·exact h.path y (List.mem_of_mem_take hy)
  ·exact ho
  ·exact h.path y (List.mem_of_mem_drop hy)
theorem Am6 {l:List Opening}{n:Nat}{o y:Opening}:y ∈ Xd l n o↔y=o∨y ∈ l:=by
 simp only [Xd,List.mem_append,List.mem_singleton]
 constructor
 ·rintro((h | h) | h)
  ·exact .inr (List.mem_of_mem_take h)
  ·exact .inl h
  ·exact .inr (List.mem_of_mem_drop h)
 ·rintro(h | h)
  ·exact .inl (.inr h)
  ·rw [← List.take_append_drop n l,List.mem_append] at h
   rcases h with h | h
   ·exact .inl (.inl h)
   ·exact .inr h
theorem Ape {c:Clearing}{n:Nat}{o:Opening}(hO:Rw c)(hA:Wa c o)(h1 : ∀ y ∈ c.Openings.take n,Ko y o)(h2 : ∀ y ∈ c.Openings.drop n,Ko o y):Rw { c with Openings:=Xd c.Openings n o }:=by
 refine⟨?_,fun y hy=>?_⟩
 ·show(Xd c.Openings n o).Pairwise Ko
  unfold Xd
  rw [List.append_assoc,List.pairwise_append]
  refine⟨hO.1.sublist (List.take_sublist _ _),?_,fun a ha b hb=>?_⟩
  ·rw [List.singleton_append,List.pairwise_cons]
   exact⟨h2,hO.1.sublist (List.drop_sublist _ _)⟩
  ·rw [List.singleton_append,List.mem_cons] at hb
   rcases hb with rfl | hb
   ·exact h1 a ha
   ·exact(h1 a ha).trans (h2 b hb)
 ·show Wa c y
  rcases Am6.1 hy with rfl | hy
  ·exact hA
  ·exact hO.2 y hy
theorem Ar7 {c:Clearing}{n:Nat}{o:Opening}(hV:ValidC c)(hp:c.Phase≠1)(hA:Wa c o)(h1 : ∀ y ∈ c.Openings.take n,Ko y o)(h2 : ∀ y ∈ c.Openings.drop n,Ko o y):ValidC { c with Openings:=Xd c.Openings n o }∧c.Phase=2:=by
 have hF':Formed { c with Openings:=Xd c.Openings n o }:=hV.formed.same rfl rfl rfl rfl rfl
 rcases hV.phase with⟨h,_⟩ | ⟨k1,k2,k3,k4⟩ | ⟨_,k⟩
 ·exact absurd h hp
 ·exact⟨⟨hF',.inr (.inl ⟨k1,k2,Ape k3 hA h1 h2,k4⟩)⟩,k1⟩
 ·exfalso
  obtain⟨hr,e1,e2⟩:=Atv hV.formed k.opn k.full hA
  have hmem:c.Openings[Tt c o] ∈ c.Openings:=List.getElem_mem hr
  have:c.Openings[Tt c o] ∈ c.Openings.take n++c.Openings.drop n:=by rw [List.take_append_drop]; exact hmem
  rcases List.mem_append.1 this with q | q
  ·have:=h1 _ q; unfold Ko at this; omega
  ·have:=h2 _ q; unfold Ko at this; omega
theorem Arv (c:Clearing)(hs:Sm c):Av (Mr c) fun x=>(x=(exR c,0)∧ValidC c∧Aes c)∨(x.2=401∧ValidC c∧¬ Aes c)∨(x.2=400∧¬ ValidC c):=by
 unfold Mr
 refine(X0 c hs).bind fun e he=>?_
 rcases he with⟨rfl,hV⟩ | ⟨rfl,hV⟩
 case inr=>rw [if_pos (by decide)]; exact Av.ok (.inr (.inr ⟨rfl,hV⟩))
 have hfl:=hV.formed.fl; have hsl:=hV.formed.slots
 rw [if_neg (by decide),Agk c hsl (by omega),R.ok_bind]
 by_cases hf:c.Openings.length=c.Flights.length * c.Slots.toNat
 ·rw [if_pos hf,if_pos rfl]; exact Av.ok (.inl ⟨rfl,hV,hf⟩)
 ·rw [if_neg hf,if_neg (by decide)]; exact Av.ok (.inr (.inl ⟨rfl,hV,hf⟩))
def Awp (c:Clearing)(x:Clearing×Int):Prop:=
 (x.2=400∧¬ ValidC c)∨(x.2=401∧ValidC c∧¬ Aes c) ∨
 (x.2=0∧ValidC c∧Aes c∧((c.Phase≠2∧x.1=c)∨(c.Phase=2 ∧ ∃ y,Ho (exR c)=.ok y∧Atl (exR c) y∧x.1={ c with Phase:=y.2,Outcome:=y.1 })))
theorem Aq0 (c:Clearing)(hs:Sm c):Av (Jn c) (Awp c):=by
 unfold Jn
 refine(Arv c hs).bind fun x hx=>?_
 rcases hx with⟨rfl,hV,hf⟩ | ⟨h,hV,hf⟩ | ⟨h,hV⟩
 ·rw [if_neg (by simp)]
  by_cases h2:c.Phase=2
  ·rw [if_pos (by simpa using h2)]
   obtain⟨y,e,hy⟩:=Aku (exR c) (show c.Owners.length≤100000 by have:=hV.formed.ow; have:=hV.formed.fl; have:=hV.formed.slots; omega)
   rw [e,R.ok_bind]
   exact Av.ok (.inr (.inr ⟨rfl,hV,hf,.inr ⟨h2,y,e,hy,rfl⟩⟩))
  ·rw [if_neg (by simpa using h2)]
   exact Av.ok (.inr (.inr ⟨rfl,hV,hf,.inl ⟨h2,rfl⟩⟩))
 ·rw [if_pos (by rw [h]; decide)]
  exact Av.ok (.inr (.inl ⟨h,hV,hf⟩))
 ·rw [if_pos (by rw [h]; decide)]
  exact Av.ok (.inl ⟨h,hV⟩)
theorem Ago {c:Clearing}{y:List Int×Int}(hV:ValidC c)(hf:Aes c)(h2:c.Phase=2)(e:Ho (exR c)=.ok y)(hy:Atl (exR c) y):ValidC { c with Phase:=y.2,Outcome:=y.1 }:=by
 have hF':Formed { c with Phase:=y.2,Outcome:=y.1 }:=hV.formed.same rfl rfl rfl rfl rfl
 rcases hV.phase with⟨h,_⟩ | ⟨k1,k2,k3,k4⟩ | ⟨h,_⟩
 ·omega
 ·refine⟨hF',.inr (.inr ⟨?_,k2,k3,hf,e⟩)⟩
  rcases hy with⟨h,_⟩ | ⟨h,_⟩
  ·exact .inl h
  ·exact .inr h
 ·omega
theorem Alo (a b:List Int):Av (Eb a b) fun r=>(r=true↔a=b):=by
 unfold Eb
 refine Av.ite (fun q=>Av.ok ⟨fun e=>absurd e (by decide),fun e=>by subst e; simp at q⟩) fun q=>?_
 refine Afi a b (by have this:¬ ((a.length:Int)≠(b.length:Int)):=(by simpa using q); omega) fun j x y hj=>?_
 unfold Nq
 rw [L3 hj,R.ok_bind]
 by_cases h:x=y
 ·rw [if_neg (by simpa using h),if_pos h]
 ·rw [if_pos (by simpa using h),if_neg h]
theorem Aq4 (a b:List (Vector Int 32)):Av (Vk a b) fun r=>(r=true↔a=b):=by
 unfold Vk
 refine Av.ite (fun q=>Av.ok ⟨fun e=>absurd e (by decide),fun e=>by subst e; simp at q⟩) fun q=>?_
 refine Afi a b (by have this:¬ ((a.length:Int)≠(b.length:Int)):=(by simpa using q); omega) fun j x y hj=>?_
 unfold R4
 rw [L3 hj,R.ok_bind]
 by_cases h:x=y
 ·rw [if_pos (by simpa using h),if_pos h]
 ·rw [if_neg (by simpa using h),if_neg h]
theorem Ard (a b:Opening):Av (Nn a b) fun r=>(r=true↔a=b):=by
 unfold Nn
 by_cases h:a.Airline=b.Airline∧a.Flight=b.Flight∧a.Slot=b.Slot∧a.Cost=b.Cost∧a.Salt=b.Salt
 ·obtain⟨h1,h2,h3,h4,h5⟩:=h
  rw [if_pos (by simp [h1,h2,h3,h4,h5])]
  refine Av.bind ((Aq4 a.Path b.Path).bind fun r hr=>Av.ok hr) fun r hr=>Av.ok ?_
  rw [hr]
  obtain⟨a1,a2,a3,a4,a5,a6⟩:=a
  obtain⟨b1,b2,b3,b4,b5,b6⟩:=b
  simp only at h1 h2 h3 h4 h5
  subst h1 h2 h3 h4 h5
  simp
 ·rw [if_neg (fun q=>h (by
   simp only [Bool.and_eq_true,beq_iff_eq] at q
   obtain⟨⟨⟨⟨q1,q2⟩,q3⟩,q4⟩,q5⟩:=q
   exact⟨q1,q2,q3,q4,q5⟩))]
  exact Av.ok ⟨fun e=>absurd e (by decide),fun e=>absurd (by subst e; exact⟨rfl,rfl,rfl,rfl,rfl⟩) h⟩
theorem Ad8 {α:Type}{b:Nat→α→Unit→R (Unit ⊕ Bool)}(l:List α)(hb : ∀ (j:Nat) a,l[j]? = some a→b j a ()=.ok (.inl ())):each b 0 l ()=.ok (.inl ()):=by
 have:=Al1 (b:=b) l 0 (fun j a h=>by rw [Nat.zero_add]; exact hb j a h)
 exact this
theorem Ani (a:Clearing):Vy a a=.ok true:=by
 have hi : ∀ l,Eb l l=.ok true:=fun l=>Av.eq ((Alo l l).mono fun r hr=>hr.2 rfl)
 unfold Vy
 rw [if_neg (by simp),hi]
 simp only [R.ok_bind,Bool.not_true,Bool.false_eq_true,if_false,hi,Bool.false_or]
 rw [if_neg (by simp)]
 simp only [R.ok_bind,Bool.false_eq_true,if_false]
 rw [Ad8 a.Commitments fun j d h=>by
  unfold Lb
  rw [L3 h,R.ok_bind,if_pos (by simp)]]
 simp only [R.ok_bind]
 rw [Ad8 a.Openings fun j o h=>by
  unfold Jx
  rw [L3 h,R.ok_bind,Av.eq ((Ard o o).mono fun r hr=>hr.2 rfl),R.ok_bind,if_pos rfl]]
 rfl
end Go.Am
namespace Go.Am
open Go
set_option linter.unusedVariables false
set_option linter.unusedSimpArgs false
structure FewC (c:Clearing):Prop where
 fl:c.Flights.length≤4
 ow:c.Owners.length≤6
 slots:c.Slots≤5
 com:c.Commitments.length≤8
 op:c.Openings.length≤30
 out:c.Outcome.length≤10
 path : ∀ o ∈ c.Openings,o.Path.length≤12
theorem FewC.sm {c:Clearing}(h:FewC c):Sm c:=⟨by have:=h.op; omega,fun o ho=>by have:=h.path o ho; omega,by have:=h.out; omega⟩
theorem Aux (c:Clearing):Av (Xp c) fun r=>r=true→FewC c:=by
 unfold Xp
 refine(Av.each (b:=fun _ a=>fun _=>Qt a) (I:=fun n (_:Unit) => ∀ o ∈ c.Openings.take n,o.Path.length≤12) (E:=fun r:Bool=>r=false) c.Openings 0 () (by simp) fun j a _ hj hI=>?_).bind fun x hx=>Av.alt hx (fun u hu=>Av.ok fun h=>?_) fun r hr=>Av.ok fun h=>by rw [hr] at h; exact absurd h (by decide)
 ·simp only [Nat.zero_add] at hI ⊢
  unfold Qt
  refine Av.ite (fun _=>Av.ok rfl) fun q=>Av.ok fun o ho=>?_
  have ht1:c.Openings.take (j+1)=c.Openings.take j++[a]:=by rw [List.take_add_one,hj]; rfl
  rw [ht1,List.mem_append,List.mem_singleton] at ho
  rcases ho with ho | rfl
  ·exact hI o ho
  ·omega
 ·simp only [Yz,Nat.zero_add,List.take_length] at hu
  simp only [Bool.and_eq_true,decide_eq_true_eq] at h
  obtain⟨⟨⟨⟨⟨h1,h2⟩,h3⟩,h4⟩,h5⟩,h6⟩:=h
  exact⟨by omega,by omega,by omega,by omega,by omega,by omega,hu⟩
theorem Asv (d:Vector Int 32):Ic d 0 (IntKind.wrap .u8 (A4 d 0 0+1))≠d:=by
 intro h
 have e1:(Ic d 0 (IntKind.wrap .u8 (A4 d 0 0+1))).toList[0]? = d.toList[0]? := by rw [h]
 have hl:0<d.toList.length:=by rw [Vector.length_toList]; decide
 have e2:d.toList[0]? = some (A4 d 0 0):=by unfold A4; rw [List.getElem?_eq_getElem hl]; simp [List.getD,List.getElem?_eq_getElem hl]
 have e3:(Ic d 0 (IntKind.wrap .u8 (A4 d 0 0+1))).toList[0]? = some (IntKind.wrap .u8 (A4 d 0 0+1)):=by
  unfold Ic
  rw [List.getElem?_eq_getElem (by rw [Vector.length_toList]; decide)]
  simp
 rw [e2,e3] at e1
 have e4:=Option.some.inj e1
 have e5:IntKind.wrap .u8 (A4 d 0 0+1)=(A4 d 0 0+1) % 256:=by simp [IntKind.wrap,IntKind.bits,IntKind.signed]
 rw [e5] at e4
 omega
theorem Apj {c:Clearing}{o:Opening}(hs:Sm c)(hp:o.Path.length≤1000)(hV:ValidC c)(h1:c.Phase≠1)(hA:Wa c o)(hm:o ∈ c.Openings):Ix c o=.ok (c,0):=by
 have hO:=Ae4 hV h1
 have hkey : ∀ y ∈ c.Openings,y.Flight=o.Flight→y.Slot=o.Slot→y=o:=fun y hy e1 e2=>by
  obtain⟨i,hi,rfl⟩:=List.getElem_of_mem hy
  obtain⟨j,hj,rfl⟩:=List.getElem_of_mem hm
  rcases Nat.lt_trichotomy i j with h | h | h
  ·have:=List.pairwise_iff_getElem.1 hO.1 i j hi hj h; unfold Ko at this; omega
  ·subst h; rfl
  ·have:=List.pairwise_iff_getElem.1 hO.1 j i hj hi h; unfold Ko at this; omega
 refine Av.eq ((Anh c o hs hp).mono fun x hx=>?_)
 rcases hx with⟨_,_,h | h | h | ⟨y,hy,e1,e2,e3⟩⟩ | ⟨h0,_,_,_,h | ⟨n,n1,n2,n3,h⟩⟩
 ·exact absurd hV h
 ·exact absurd h h1
 ·exact absurd hA h
 ·exact absurd (hkey y hy e1 e2) e3
 ·exact Prod.ext h.2 h0
 ·exfalso
  rw [← List.take_append_drop n c.Openings,List.mem_append] at hm
  rcases hm with hm | hm
  ·have:=n2 o hm; unfold Ko at this; omega
  ·have:=n3 o hm; unfold Ko at this; omega
theorem Apr {c:Clearing}{o:Opening}{x:Clearing×Int}(hs:Sm c)(hl:c.Openings.length≤900)(hp:o.Path.length≤1000)(h:At5 c o x)(h0:x.2=0) :
  Sm x.1∧ValidC x.1∧x.1.Phase=c.Phase∧x.1.Phase≠1∧Wa x.1 o∧o ∈ x.1.Openings∧c.Openings.length≤x.1.Openings.length:=by
 rcases h with⟨_,h,_⟩ | ⟨_,hV,h1,hA,⟨hm,e⟩ | ⟨n,n1,n2,n3,e⟩⟩
 ·exact absurd h0 h
 ·rw [e]; exact⟨hs,hV,rfl,h1,hA,hm,Nat.le_refl _⟩
 ·rw [e]
  refine⟨hs.ins hl hp,(Ar7 hV h1 hA n2 n3).1,rfl,h1,hA,Am6.2 (.inl rfl),?_⟩
  simp only [Xd,List.length_append,List.length_take,List.length_drop,List.length_singleton]; omega
theorem law_RoundsValid (hsane:Rh=.ok true):Pq:=by
  intro a b c d _ _ _ _ _
  refine Av.eq ?_
  unfold Ql
  rw [hsane,R.ok_bind,if_pos rfl]
  refine(Aux a).bind fun fw hfw=>?_
  by_cases hf:fw=true∧d.Path.length≤12
  case neg=>
    rw [if_pos (by
      simp only [Bool.or_eq_true,Bool.not_eq_true',decide_eq_true_eq]
      cases fw with
      | false=>exact .inl rfl
      | true => exact .inr (by have : ¬ d.Path.length ≤ 12 := fun h => hf ⟨rfl, h⟩
                               omega))]
    simp only [R.ok_bind,if_true]
    exact Av.ok rfl
  obtain⟨hft,hdp⟩:=hf
  have hF:=hfw hft
  have hs:=hF.sm
  rw [if_neg (by rw [hft]; simp; omega)]
  obtain⟨e,he,hP⟩:=X0 a hs
  rw [he]
  simp only [R.ok_bind]
  rcases hP with⟨rfl,hV⟩ | ⟨rfl,hV⟩
  case inr=>rw [if_pos (by decide)]; exact Av.ok rfl
  rw [if_neg (by decide)]
  obtain⟨x3,e3,h3⟩:=Aja a b c hs
  obtain⟨x4,e4,h4⟩:=Anh a d hs (by omega)
  obtain⟨x5,e5,h5⟩:=Aq0 a hs
  rw [e3,e4,e5]
  simp only [R.ok_bind]
  have k3:x3.2=0→Sm x3.1∧ValidC x3.1:=fun h=>by
    rcases h3 with⟨h',_⟩ | ⟨_,_,_,_,⟨_,h'⟩ | ⟨hz,h'⟩⟩
    · rw [h'] at h; exact absurd h (by decide)
    · rw [h']; exact⟨hs,hV⟩
    · rw [h']; exact⟨hs.put,Aqz hV hz⟩
  have k4:=Apr (x:=x4) hs (by have:=hF.op; omega) (by omega) h4
  have k5:x5.2=0→Sm x5.1∧ValidC x5.1:=fun h=>by
    rcases h5 with⟨h',_⟩ | ⟨h',_⟩ | ⟨_,_,hfu,⟨_,h'⟩ | ⟨h2,y,ey,hy,h'⟩⟩
    · rw [h'] at h; exact absurd h (by decide)
    · rw [h'] at h; exact absurd h (by decide)
    · rw [h']; exact⟨hs,hV⟩
    · rw [h']
      refine⟨⟨hs.op,hs.path,?_⟩,Ago hV hfu h2 ey hy⟩
      have hV':=Ago hV hfu h2 ey hy
      rcases hy with⟨_,hc,hst⟩ | ⟨_,hy1⟩
      · show y.1.length≤1000
        have hlen:y.1.length=(exR a).Owners.length:=by
          unfold Ek at hst
          obtain⟨w,ew,hw⟩:=Akl hc y.1
          rw [ew,R.ok_bind] at hst
          by_cases hq:((w.2 != 0)||(decide ((w.1.length:Int) > 0)))=true
          · rw [if_pos hq] at hst
            exact absurd (congrArg Prod.fst (R.ok.inj hst)) (by simp)
          · simp only [Bool.or_eq_true,decide_eq_true_eq,bne_iff_ne,ne_eq,not_or,Decidable.not_not] at hq
            exact(hw hq.1).1
        rw [hlen]
        show a.Owners.length≤1000
        have:=hF.ow; omega
      · show y.1.length≤1000
        rw [hy1,List.length_map,List.length_range]
        show a.Owners.length≤1000
        have:=hF.ow; omega
  have c3:(if(x3.2==0)=true then(C4 x3.1).bind fun r6=>R.ok (r6 != 0) else R.ok false)=.ok false:=by
    by_cases h:x3.2=0
    · obtain⟨q1,q2⟩:=k3 h
      rw [if_pos (by simpa using h),Ahb q1 q2]; rfl
    · rw [if_neg (by simpa using h)]
  have c4:(if(x4.2==0)=true then(C4 x4.1).bind fun r7=>R.ok (r7 != 0) else R.ok false)=.ok false:=by
    by_cases h:x4.2=0
    · obtain⟨q1,q2,_⟩:=k4 h
      rw [if_pos (by simpa using h),Ahb q1 q2]; rfl
    · rw [if_neg (by simpa using h)]
  have c5:(if(x5.2==0)=true then(C4 x5.1).bind fun r8=>R.ok (r8 != 0) else R.ok false)=.ok false:=by
    by_cases h:x5.2=0
    · obtain⟨q1,q2⟩:=k5 h
      rw [if_pos (by simpa using h),Ahb q1 q2]; rfl
    · rw [if_neg (by simpa using h)]
  rw [c3]
  simp only [R.ok_bind,Bool.false_eq_true,if_false]
  rw [c4]
  simp only [R.ok_bind,Bool.false_eq_true,if_false]
  rw [c5]
  simp only [R.ok_bind,Bool.false_eq_true,if_false]
  have hj2:Av (C5 a d x4 x5) fun r=>r=true:=by
    unfold C5
    have h5':((x5.2==0)||(x5.2==401))=true:=by
      rcases h5 with⟨_,h'⟩ | ⟨h',_⟩ | ⟨h',_⟩
      · exact absurd hV h'
      · rw [h']; decide
      · rw [h']; decide
    by_cases h:x4.2=0
    · obtain⟨q1,q2,q3,q4,q5,q6,q7⟩:=k4 h
      rw [if_pos (by simpa using h),Apj q1 (by omega) q2 q4 q5 q6,R.ok_bind,if_neg (by simp),Ani]
      simp only [R.ok_bind,Bool.not_true,Bool.false_or]
      rw [if_neg (by simp only [decide_eq_true_eq]; omega)]
      exact Av.ok h5'
    · rw [if_neg (by simpa using h)]
      exact Av.ok h5'
  by_cases h:x3.2=0
  case neg=>rw [if_neg (by simpa using h)]; exact hj2
  rw [if_pos (by simpa using h)]
  obtain⟨s3,v3⟩:=k3 h
  rcases h3 with⟨h',_⟩ | ⟨_,_,ha,hd0,hcase⟩
  · rw [h'] at h; exact absurd h (by decide)
  have hown:x3.1.Owners=a.Owners:=by rcases hcase with⟨_,h'⟩ | ⟨_,h'⟩ <;> rw [h'] <;> rfl
  have hlen:x3.1.Commitments.length=a.Commitments.length:=by
    rcases hcase with⟨_,h'⟩ | ⟨_,h'⟩
    · rw [h']
    · rw [h']; simp [Aae]
  have hkeep : ∀ (j:Nat) e,a.Commitments[j]? = some e→e≠zD→x3.1.Commitments[j]? = some e:=fun j e hj hne=>by
    rcases hcase with⟨_,h'⟩ | ⟨hz,h'⟩
    · rw [h']; exact hj
    · rw [h']
      show(a.Commitments.set _ c)[j]? = some e
      by_cases hji:(G2 (Nu a.Owners) b).toNat=j
      · rw [hji,hj] at hz
        exact absurd (Option.some.inj hz) hne
      · rw [List.getElem?_set_ne hji]; exact hj
  have hdat:x3.1.Commitments[(G2 (Nu a.Owners) b).toNat]? = some c:=by
    rcases hcase with⟨hz,h'⟩ | ⟨hz,h'⟩
    · rw [h']; exact hz
    · rw [h']
      exact List.getElem?_set_self (A6 hz)
  rw [Ad8 a.Commitments fun j e hj=>by
    have hjl:=A6 hj
    unfold Fh
    rw [if_neg (by simp only [decide_eq_true_eq]; omega),Al8]
    by_cases he:e=zD
    · rw [if_neg (by simp [he])]; rfl
    · rw [if_pos (by simpa using he),L3 (hkeep j e hj he),R.ok_bind]
      unfold I5
      rw [if_neg (by simp)]]
  simp only [R.ok_bind]
  refine(Aja x3.1 b _ s3).bind fun x9 h9=>?_
  have e9:x9.2=400:=by
    rcases h9 with⟨h',_⟩ | ⟨_,_,_,hn0,hc9⟩
    · rw [h']
    · exfalso
      rw [hown] at hc9
      rw [hdat] at hc9
      rcases hc9 with⟨q,_⟩ | ⟨q,_⟩
      · exact Asv c (Option.some.inj q).symm
      · exact hd0 (Option.some.inj q)
  rw [if_neg (by rw [e9]; decide)]
  exact hj2
end Go.Am
namespace Go.Am
open Go
set_option linter.unusedVariables false
def Le {α:Type}(x y:R α):Prop:=x=.bad∨x=y
theorem Le.refl {α:Type}(x:R α):Le x x:=.inr rfl
theorem Qh {α:Type}{x y:R α}{a:α}(h:Le x y)(hx:x=.ok a):y=.ok a:=by
 rcases h with h | h
 ·rw [h] at hx; cases hx
 ·rw [← h]; exact hx
theorem Bu {α β:Type}{x y:R α}{f g:α→R β}(h:Le x y)(hf : ∀ a,Le (f a) (g a)):Le (x.bind f) (y.bind g):=by
 rcases h with rfl | rfl
 ·exact .inl rfl
 ·cases x with
  | ok a=>exact hf a
  | pan v=>exact .inr rfl
  | bad=>exact .inl rfl
theorem Cv {α:Type}{c:Prop}[Decidable c]{x y x' y':R α}(h:Le x x')(h':Le y y'):Le (if c then x else y) (if c then x' else y'):=by
 split
 ·exact h
 ·exact h'
theorem Wz {α:Type}{x y:R α}{f:PV→R α}(h:Le x y):Le (x.catch' f) (y.catch' f):=by
 rcases h with rfl | rfl
 ·exact .inl rfl
 ·exact .inr rfl
theorem Sr {α:Type}{x y:R α}(h:Le x y):Le x.np y.np:=by
 rcases h with rfl | rfl
 ·exact .inl rfl
 ·exact .inr rfl
theorem N4 {α σ ε:Type}{b b':Nat→α→σ→R (σ ⊕ ε)}(h : ∀ j a s,Le (b j a s) (b' j a s)) : ∀ (k:Nat) (l:List α) (s:σ),Le (each b k l s) (each b' k l s)
 | k,[],s=>.inr rfl
 | k,a::l,s=>by
  rw [Pl,Pl]
  refine Bu (h k a s) fun x=>?_
  cases x with
  | inl s'=>exact N4 h (k+1) l s'
  | inr e=>exact .inr rfl
theorem Il {α σ:Type}{b b':Nat→α→σ→R σ}(h : ∀ j a s,Le (b j a s) (b' j a s)) : ∀ (k:Nat) (l:List α) (s:σ),Le (eachS b k l s) (eachS b' k l s)
 | k,[],s=>.inr rfl
 | k,a::l,s=>by
  rw [P4,P4]
  exact Bu (h k a s) fun x=>Il h (k+1) l x
theorem Aox {σ ε:Type}{b b':σ→R (σ ⊕ ε)}(h : ∀ s,Le (b s) (b' s)) : ∀ (n:Nat) (s:σ),Le (Ht b n s) (Ht b' n s)
 | 0,s=>.inl rfl
 | n+1,s=>by
  rw [Ht,Ht]
  refine Bu (h s) fun x=>?_
  cases x with
  | inl s'=>exact Aox h n s'
  | inr e=>exact .inr rfl
def Pu {σ ε:Type}(n:Nat)(body:σ→R (σ ⊕ ε))(s:σ):R ε:=Ht body n s
theorem Kh {σ ε:Type}{b b':σ→R (σ ⊕ ε)}(h : ∀ s,Le (b s) (b' s))(n:Nat)(s:σ):Le (Pu n b s) (loop b' s):=by
 unfold Pu
 rcases Aox h n s with e | e
 ·exact .inl e
 ·by_cases hb:Ht b' n s=.bad
  ·exact .inl (e.trans hb)
  ·exact .inr (e.trans (Uy hb).symm)
section
variable {α β γ δ ε ζ κ:Type}
theorem Kv {f f':α→R κ}{g g':β→R κ}(hf : ∀ a,Le (f a) (f' a))(hg : ∀ b,Le (g b) (g' b))(s:α ⊕ β):Le (alt f g s) (alt f' g' s):=by
 cases s with
 | inl a=>exact hf a
 | inr b=>exact hg b
theorem Pk {f g:α→β→R κ}(h : ∀ a b,Le (f a b) (g a b))(p:α×β):Le (D0 f p) (D0 g p):=h _ _
theorem Tb {f g:α→β→γ→R κ}(h : ∀ a b c,Le (f a b c) (g a b c))(p:α×β×γ):Le (Sk f p) (Sk g p):=h _ _ _
theorem Abb {f g:α→β→γ→δ→R κ}(h : ∀ a b c d,Le (f a b c d) (g a b c d))(p:α×β×γ×δ):Le (un4 f p) (un4 g p):=h _ _ _ _
theorem Aba {f g:α→β→γ→δ→ε→R κ}(h : ∀ a b c d e,Le (f a b c d e) (g a b c d e))(p:α×β×γ×δ×ε):Le (un5 f p) (un5 g p):=h _ _ _ _ _
end
def Agy (a:Int):List Int→List Int
 | []=>[a]
 | b::l=>if a≤b then a::b::l else b::Agy a l
def Ab3:List Int→List Int
 | []=>[]
 | a::l=>Agy a (Ab3 l)
theorem Aet (a:Int) : ∀ l,(Agy a l).Perm (a::l)
 | []=>.refl _
 | b::l=>by
  unfold Agy
  split
  ·exact .refl _
  ·exact((Aet a l).cons b).trans (.swap a b l)
theorem Agm : ∀ l,(Ab3 l).Perm l
 | []=>.refl _
 | a::l=>(Aet a (Ab3 l)).trans ((Agm l).cons a)
theorem Agl (a:Int) : ∀ l:List Int,l.Pairwise (· ≤ ·)→(Agy a l).Pairwise (· ≤ ·)
 | [],_=>by simp [Agy]
 | b::l,h=>by
  have h':=List.pairwise_cons.1 h
  unfold Agy
  split
  ·rename_i hab
   refine List.pairwise_cons.2 ⟨fun x hx=>?_,h⟩
   rcases List.mem_cons.1 hx with rfl | hx
   ·exact hab
   ·have:=h'.1 x hx; omega
  ·rename_i hab
   refine List.pairwise_cons.2 ⟨fun x hx=>?_,Agl a l h'.2⟩
   rcases List.mem_cons.1 ((Aet a l).mem_iff.1 hx) with rfl | hx
   ·omega
   ·exact h'.1 x hx
theorem Adl : ∀ l:List Int,(Ab3 l).Pairwise (· ≤ ·)
 | []=>.nil
 | a::l=>Agl a _ (Adl l)
theorem Adh : ∀ {a b:List Int},a.Perm b→a.Pairwise (· ≤ ·)→b.Pairwise (· ≤ ·)→a=b
 | [],b,h,_,_=>by rw [List.Perm.nil_eq h]
 | x::a,[],h,_,_=>by have:=h.length_eq; simp at this
 | x::a,y::b,h,ha,hb=>by
  have ha':=List.pairwise_cons.1 ha
  have hb':=List.pairwise_cons.1 hb
  have h1:x=y:=by
   have hx:x ∈ y::b:=h.mem_iff.1 (List.mem_cons_self ..)
   have hy:y ∈ x::a:=h.mem_iff.2 (List.mem_cons_self ..)
   rcases List.mem_cons.1 hx with e | hx
   ·exact e
   ·rcases List.mem_cons.1 hy with e | hy
    ·exact e.symm
    ·have:=ha'.1 y hy; have:=hb'.1 x hx; omega
  subst h1
  rw [Adh (List.Perm.cons_inv h) ha'.2 hb'.2]
theorem Ug (l:List Int):Pj l=Ab3 l:=by
 refine Adh ((List.mergeSort_perm l _).trans (Agm l).symm) ?_ (Adl l)
 have:=List.pairwise_mergeSort (le:=fun x y:Int=>decide (x≤y)) (fun a b c h1 h2=>by simp at *; omega) (fun a b=>by simp; omega) l
 exact this.imp fun h=>by simpa using h
end Go.Am
namespace Go.Am
open Go
set_option linter.unusedVariables false
set_option maxRecDepth 100000
def J8 (b:List Int)(s:(Vector Int 8)):R (Vector Int 8):=
 (eachS (fun j _=>fun o=>H2 b j o) 0 (List.range 16) (B3 64 0)).bind ((fun o=>(Pu 80 (D0 fun x1 o1=>Fp x1 o1) (16,o)).bind (fun o2=>Gq s o2)))
theorem O3 (b:List Int)(s:(Vector Int 8)):Le (J8 b s) (E4 b s):=by
 unfold J8 E4
 with_reducible repeat' first | exact Le.refl _ | exact hW .. | exact hb .. | apply Kh | apply Bu | apply Cv | apply N4 | apply Il | apply Wz | apply Kv | apply Pk | apply Tb | apply Abb | apply Aba | apply Sr | (rw [Ug]; exact Le.refl _) | intro _
def V5 (rest:List Int)(o:(Vector Int 8)):R (((List Int)×(Vector Int 8)) ⊕ ((List Int)×(Vector Int 8))):=
 if(rest.length:Int)≥64 then
(if(0:Int)≤64∧64≤(rest.length:Int) then
 (J8 (rest.take (Int.toNat 64)) o).bind fun r=>
 if(0:Int)≤64∧64≤(rest.length:Int) then
 .ok (.inl ((rest.drop (Int.toNat 64)),r)) else .bad else .bad)
else
(.ok (.inr ((rest,o))))
theorem Af1 (rest:List Int)(o:(Vector Int 8)):Le (V5 rest o) (Lg rest o):=by
 unfold V5 Lg
 with_reducible repeat' first | exact Le.refl _ | exact hW .. | exact hb .. | exact O3 .. | apply Kh | apply Bu | apply Cv | apply N4 | apply Il | apply Wz | apply Kv | apply Pk | apply Tb | apply Abb | apply Aba | apply Sr | (rw [Ug]; exact Le.refl _) | intro _
def V7 (vend:List Int)(o2:(Vector Int 8)):R (((List Int)×(Vector Int 8)) ⊕ (Vector Int 8)):=
 if(vend.length:Int) > 0 then
(if(0:Int)≤64∧64≤(vend.length:Int) then
 (J8 (vend.take (Int.toNat 64)) o2).bind fun r2=>
 if(0:Int)≤64∧64≤(vend.length:Int) then
 .ok (.inl ((vend.drop (Int.toNat 64)),r2)) else .bad else .bad)
else
(.ok (.inr (o2)))
theorem Af9 (vend:List Int)(o2:(Vector Int 8)):Le (V7 vend o2) (Iw vend o2):=by
 unfold V7 Iw
 with_reducible repeat' first | exact Le.refl _ | exact hW .. | exact hb .. | exact O3 .. | apply Kh | apply Bu | apply Cv | apply N4 | apply Il | apply Wz | apply Kv | apply Pk | apply Tb | apply Abb | apply Aba | apply Sr | (rw [Ug]; exact Le.refl _) | intro _
def V6 (vend1:List Int)(o5:(Vector Int 8)):R (((List Int)×(Vector Int 8)) ⊕ (Vector Int 8)):=
 if(vend1.length:Int) > 0 then
(if(0:Int)≤64∧64≤(vend1.length:Int) then
 (J8 (vend1.take (Int.toNat 64)) o5).bind fun r5=>
 if(0:Int)≤64∧64≤(vend1.length:Int) then
 .ok (.inl ((vend1.drop (Int.toNat 64)),r5)) else .bad else .bad)
else
(.ok (.inr (o5)))
theorem Afz (vend1:List Int)(o5:(Vector Int 8)):Le (V6 vend1 o5) (Ng vend1 o5):=by
 unfold V6 Ng
 with_reducible repeat' first | exact Le.refl _ | exact hW .. | exact hb .. | exact O3 .. | apply Kh | apply Bu | apply Cv | apply N4 | apply Il | apply Wz | apply Kv | apply Pk | apply Tb | apply Abb | apply Aba | apply Sr | (rw [Ug]; exact Le.refl _) | intro _
def Vi (b:List Int)(rest1:List Int)(o1:(Vector Int 8)):R (Vector Int 32):=
 if rest1.length≤64 then
 if(0:Int)≤(rest1.length:Int)∧(rest1.length:Int)<64 then
 if(rest1.length:Int) > 55 then
((Nv 120 8 (IntKind.wrap .u64 ((IntKind.wrap .u64 (b.length:Int)) * 8)) (Ic (Se (B3 128 (0:Int)) 0 rest1) (Int.toNat (rest1.length:Int)) 128)).bind fun r1=>
 (Pu 80 (D0 fun vend o2=>V7 vend o2) ((r1.toList.take 128),o1)).bind (fun o3=>Lf o3))
else
((Nv 56 72 (IntKind.wrap .u64 ((IntKind.wrap .u64 (b.length:Int)) * 8)) (Ic (Se (B3 128 (0:Int)) 0 rest1) (Int.toNat (rest1.length:Int)) 128)).bind fun r4=>
 (Pu 80 (D0 fun vend1 o5=>V6 vend1 o5) ((r4.toList.take 64),o1)).bind (fun o6=>O7 o6)) else .bad else .bad
theorem Af4 (b:List Int)(rest1:List Int)(o1:(Vector Int 8)):Le (Vi b rest1 o1) (Ld b rest1 o1):=by
 unfold Vi Ld
 with_reducible repeat' first | exact Le.refl _ | exact hW .. | exact hb .. | exact Af9 .. | exact Afz .. | apply Kh | apply Bu | apply Cv | apply N4 | apply Il | apply Wz | apply Kv | apply Pk | apply Tb | apply Abb | apply Aba | apply Sr | (rw [Ug]; exact Le.refl _) | intro _
def Aew (b:List Int):R (Vector Int 32):=
 (Pu 80 (D0 fun rest o=>V5 rest o) (b,Ace)).bind (D0 fun rest1 o1=>Vi b rest1 o1)
theorem Eh (b:List Int):Le (Aew b) (Dk b):=by
 unfold Aew Dk
 with_reducible repeat' first | exact Le.refl _ | exact hW .. | exact hb .. | exact Af1 .. | exact Af4 .. | apply Kh | apply Bu | apply Cv | apply N4 | apply Il | apply Wz | apply Kv | apply Pk | apply Tb | apply Abb | apply Aba | apply Sr | (rw [Ug]; exact Le.refl _) | intro _
end Go.Am
namespace Go.Am
open Go
set_option maxRecDepth 100000
def hk0:List Int:=[99,111,115,116]
def hv0:Vector Int 32 := #v[159,130,247,179,117,244,170,27,215,213,10,190,15,118,12,76,165,168,240,32,138,166,133,85,72,156,57,221,124,122,238,170]
theorem hs0:Dk hk0=.ok hv0:=Qh (Eh ..) (by kernel_rfl)
def hk1:List Int:=[159,130,247,179,117,244,170,27,215,213,10,190,15,118,12,76,165,168,240,32,138,166,133,85,72,156,57,221,124,122,238,170,0,0,0,0,0,0,0,0,0,0,0,0,0,0,0,0,0,0,0,0,0,0,0,0,0,0,0,0,0,0,0,0,3,4,1,0,1,10,1,0,1,8]
def hv1:Vector Int 32 := #v[86,201,120,238,206,67,165,246,68,53,53,225,98,174,231,88,184,91,64,150,235,66,164,127,219,27,97,126,189,246,253,249]
theorem hs1:Dk hk1=.ok hv1:=Qh (Eh ..) (by kernel_rfl)
def hk2:List Int:=[159,130,247,179,117,244,170,27,215,213,10,190,15,118,12,76,165,168,240,32,138,166,133,85,72,156,57,221,124,122,238,170,0,0,0,0,0,0,0,0,0,0,0,0,0,0,0,0,0,0,0,0,0,0,0,0,0,0,0,0,0,0,0,0,3,4,1,0,1,10,1,2,1,2]
def hv2:Vector Int 32 := #v[158,238,121,61,83,149,99,18,134,192,125,175,139,98,119,241,223,6,148,9,7,105,55,176,42,32,44,101,4,205,169,171]
theorem hs2:Dk hk2=.ok hv2:=Qh (Eh ..) (by kernel_rfl)
def hk3:List Int:=[108,101,97,102]
def hv3:Vector Int 32 := #v[159,145,22,31,67,67,62,73,166,222,109,182,128,215,159,96,21,159,46,74,201,23,38,33,161,40,70,66,129,88,68,11]
theorem hs3:Dk hk3=.ok hv3:=Qh (Eh ..) (by kernel_rfl)
def hk4:List Int:=[159,145,22,31,67,67,62,73,166,222,109,182,128,215,159,96,21,159,46,74,201,23,38,33,161,40,70,66,129,88,68,11,86,201,120,238,206,67,165,246,68,53,53,225,98,174,231,88,184,91,64,150,235,66,164,127,219,27,97,126,189,246,253,249]
def hv4:Vector Int 32 := #v[222,145,4,110,114,123,197,124,155,33,135,28,61,211,84,158,253,134,68,151,226,86,6,180,185,51,88,31,49,8,132,53]
theorem hs4:Dk hk4=.ok hv4:=Qh (Eh ..) (by kernel_rfl)
def hk5:List Int:=[159,145,22,31,67,67,62,73,166,222,109,182,128,215,159,96,21,159,46,74,201,23,38,33,161,40,70,66,129,88,68,11,158,238,121,61,83,149,99,18,134,192,125,175,139,98,119,241,223,6,148,9,7,105,55,176,42,32,44,101,4,205,169,171]
def hv5:Vector Int 32 := #v[12,3,245,167,69,161,146,137,195,180,59,77,198,45,190,226,112,223,203,130,32,152,92,97,6,5,164,1,93,169,212,33]
theorem hs5:Dk hk5=.ok hv5:=Qh (Eh ..) (by kernel_rfl)
def hk6:List Int:=[110,111,100,101]
def hv6:Vector Int 32 := #v[84,94,165,56,70,16,3,239,220,140,129,194,68,83,27,0,63,111,38,207,204,246,192,7,59,50,57,253,237,244,148,70]
theorem hs6:Dk hk6=.ok hv6:=Qh (Eh ..) (by kernel_rfl)
def hk7:List Int:=[84,94,165,56,70,16,3,239,220,140,129,194,68,83,27,0,63,111,38,207,204,246,192,7,59,50,57,253,237,244,148,70,222,145,4,110,114,123,197,124,155,33,135,28,61,211,84,158,253,134,68,151,226,86,6,180,185,51,88,31,49,8,132,53,12,3,245,167,69,161,146,137,195,180,59,77,198,45,190,226,112,223,203,130,32,152,92,97,6,5,164,1,93,169,212,33]
def hv7:Vector Int 32 := #v[233,189,103,47,143,233,176,245,20,118,76,57,162,192,0,183,241,6,80,71,59,11,143,95,243,30,182,81,173,7,173,193]
theorem hs7:Dk hk7=.ok hv7:=Qh (Eh ..) (by kernel_rfl)
def hk8:List Int:=[159,145,22,31,67,67,62,73,166,222,109,182,128,215,159,96,21,159,46,74,201,23,38,33,161,40,70,66,129,88,68,11,233,189,103,47,143,233,176,245,20,118,76,57,162,192,0,183,241,6,80,71,59,11,143,95,243,30,182,81,173,7,173,193]
def hv8:Vector Int 32 := #v[101,65,231,36,73,77,75,8,168,110,76,209,226,179,202,169,205,189,215,163,197,27,4,0,79,254,216,217,141,222,183,213]
theorem hs8:Dk hk8=.ok hv8:=Qh (Eh ..) (by kernel_rfl)
def hk9:List Int:=[159,130,247,179,117,244,170,27,215,213,10,190,15,118,12,76,165,168,240,32,138,166,133,85,72,156,57,221,124,122,238,170,0,0,0,0,0,0,0,0,0,0,0,0,0,0,0,0,0,0,0,0,0,0,0,0,0,0,0,0,0,0,0,0,3,4,1,6,1,18,1,0,1,4]
def hv9:Vector Int 32 := #v[17,122,206,225,255,102,214,230,45,158,190,151,247,143,161,223,234,197,135,137,11,191,46,108,151,181,0,236,51,40,69,156]
theorem hs9:Dk hk9=.ok hv9:=Qh (Eh ..) (by kernel_rfl)
def Awf:List Int:=[159,130,247,179,117,244,170,27,215,213,10,190,15,118,12,76,165,168,240,32,138,166,133,85,72,156,57,221,124,122,238,170,0,0,0,0,0,0,0,0,0,0,0,0,0,0,0,0,0,0,0,0,0,0,0,0,0,0,0,0,0,0,0,0,3,4,1,6,1,18,1,2,1,12]
def Awq:Vector Int 32 := #v[14,46,40,129,69,7,74,120,194,148,211,246,208,184,8,102,183,40,95,179,9,198,105,80,15,232,117,251,80,57,244,196]
theorem Ayc:Dk Awf=.ok Awq:=Qh (Eh ..) (by kernel_rfl)
def Av3:List Int:=[159,145,22,31,67,67,62,73,166,222,109,182,128,215,159,96,21,159,46,74,201,23,38,33,161,40,70,66,129,88,68,11,17,122,206,225,255,102,214,230,45,158,190,151,247,143,161,223,234,197,135,137,11,191,46,108,151,181,0,236,51,40,69,156]
def Awu:Vector Int 32 := #v[100,47,45,123,40,94,119,7,42,5,163,246,119,86,65,8,136,218,181,164,160,230,217,159,243,97,119,15,236,95,254,218]
theorem Ayo:Dk Av3=.ok Awu:=Qh (Eh ..) (by kernel_rfl)
def Awl:List Int:=[159,145,22,31,67,67,62,73,166,222,109,182,128,215,159,96,21,159,46,74,201,23,38,33,161,40,70,66,129,88,68,11,14,46,40,129,69,7,74,120,194,148,211,246,208,184,8,102,183,40,95,179,9,198,105,80,15,232,117,251,80,57,244,196]
def Awg:Vector Int 32 := #v[241,217,215,127,29,3,141,165,186,108,48,239,61,143,64,192,35,156,186,30,236,249,214,93,201,51,153,217,76,111,98,41]
theorem Ax7:Dk Awl=.ok Awg:=Qh (Eh ..) (by kernel_rfl)
def Av2:List Int:=[84,94,165,56,70,16,3,239,220,140,129,194,68,83,27,0,63,111,38,207,204,246,192,7,59,50,57,253,237,244,148,70,100,47,45,123,40,94,119,7,42,5,163,246,119,86,65,8,136,218,181,164,160,230,217,159,243,97,119,15,236,95,254,218,241,217,215,127,29,3,141,165,186,108,48,239,61,143,64,192,35,156,186,30,236,249,214,93,201,51,153,217,76,111,98,41]
def Aws:Vector Int 32 := #v[200,101,97,15,102,92,202,119,65,32,176,97,229,106,69,170,240,4,140,168,58,154,204,161,247,152,148,33,167,62,178,37]
theorem Ayr:Dk Av2=.ok Aws:=Qh (Eh ..) (by kernel_rfl)
def Awe:List Int:=[159,145,22,31,67,67,62,73,166,222,109,182,128,215,159,96,21,159,46,74,201,23,38,33,161,40,70,66,129,88,68,11,200,101,97,15,102,92,202,119,65,32,176,97,229,106,69,170,240,4,140,168,58,154,204,161,247,152,148,33,167,62,178,37]
def Awk:Vector Int 32 := #v[189,107,203,89,123,138,252,122,76,154,241,52,10,45,57,200,138,9,177,113,130,232,85,176,130,96,131,207,221,25,182,179]
theorem Aye:Dk Awe=.ok Awk:=Qh (Eh ..) (by kernel_rfl)
end Go.Am
namespace Go.Am
open Go
def Xj (b:List Int):R (Vector Int 32):=
 if b==hk0 then .ok hv0 else
 if b==hk1 then .ok hv1 else
 if b==hk2 then .ok hv2 else
 if b==hk3 then .ok hv3 else
 if b==hk4 then .ok hv4 else
 if b==hk5 then .ok hv5 else
 if b==hk6 then .ok hv6 else
 if b==hk7 then .ok hv7 else
 if b==hk8 then .ok hv8 else
 if b==hk9 then .ok hv9 else
 if b==Awf then .ok Awq else
 if b==Av3 then .ok Awu else
 if b==Awl then .ok Awg else
 if b==Av2 then .ok Aws else
 if b==Awe then .ok Awk else
 .bad
theorem Iu {b k:List Int}{v:Vector Int 32}{x:R (Vector Int 32)}(hk:Dk k=.ok v)(h:Le x (Dk b)):Le (if b==k then .ok v else x) (Dk b):=by
 by_cases q:(b==k)=true
 ·rw [if_pos q,eq_of_beq q,hk]; exact .inr rfl
 ·rw [if_neg q]; exact h
theorem Akw (b:List Int):Le (Xj b) (Dk b):=by
 unfold Xj
 refine Iu hs0 ?_
 refine Iu hs1 ?_
 refine Iu hs2 ?_
 refine Iu hs3 ?_
 refine Iu hs4 ?_
 refine Iu hs5 ?_
 refine Iu hs6 ?_
 refine Iu hs7 ?_
 refine Iu hs8 ?_
 refine Iu hs9 ?_
 refine Iu Ayc ?_
 refine Iu Ayo ?_
 refine Iu Ax7 ?_
 refine Iu Ayr ?_
 refine Iu Aye ?_
 exact .inl rfl
end Go.Am
namespace Go.Am
open Go
set_option linter.unusedVariables false
set_option maxRecDepth 100000
def Md (owners:List Int):R ((List Int)×(List (Int×Int))):=
 (eachS (fun _ a=>D0 fun m airlines=>Ha a m airlines) 0 owners ([],[])).bind ((D0 fun m airlines=>(Mc airlines).bind fun _=>
 .ok ((Ab3 airlines),m)))
theorem Px (owners:List Int):Le (Md owners) (Fw owners):=by
 unfold Md Fw
 with_reducible repeat' first | exact Le.refl _ | apply Bu | apply Il | apply Pk | (rw [Ug]; exact Le.refl _) | intro _
def Wv (c:Clearing):R Bool:=
 if(((((((decide (c.No<1))||(decide (c.No > 1048576)))||(decide (c.Slots<1)))||(decide (c.Slots > 8)))||(decide ((c.Flights.length:Int)<1)))||(decide ((c.Flights.length:Int) > c.Slots)))||((c.Owners.length:Int) != (c.Flights.length:Int))) then
(.ok false)
else
((each (fun j a=>fun last=>Jy c j a last) 0 c.Flights (-1)).bind (alt (fun last=>(Md c.Owners).bind fun r=>
 .ok ((c.Commitments.length:Int)==(r.1.length:Int))) (fun r=>.ok r)))
theorem Ahc (c:Clearing):Le (Wv c) (Ni c):=by
 unfold Wv Ni
 with_reducible repeat' first | exact Le.refl _ | exact Px .. | apply Bu | apply Cv | apply N4 | apply Kv | intro _
def Us (W_:Value→R (Int×Bool))(a:Value)(depth:Int):R (Int ⊕ (Int×Bool)):=
 (W_ a).bind fun r=>
 if r.2 then
(.ok (.inl (if r.1 > depth then r.1 else depth)))
else
(.ok (.inr ((0,false))))
theorem Aen {W' W_:Value→R (Int×Bool)}(hW : ∀ w0,Le (W' w0) (W_ w0))(a:Value)(depth:Int):Le (Us W' a depth) (G7 W_ a depth):=by
 unfold Us G7
 with_reducible repeat' first | exact Le.refl _ | exact hW .. | apply Bu | apply Cv | intro _
def Wb (W_:Value→R (Int×Bool))(v:Value):R (Int×Bool):=
 (if((decide (v.Kind<1))||(decide (v.Kind > 3))) then R.ok true else if(0:Int)≤v.Kind∧v.Kind<4 then
 R.ok (!(A4 (#v[false,((v.S==[])&&((v.L.length:Int)==0)),((v.N==0)&&((v.L.length:Int)==0)),((v.N==0)&&(v.S==[]))]:(Vector Bool 4)) (Int.toNat v.Kind) false)) else .bad).bind (fun(b:Bool)=>if b then
(.ok (0,false))
else
(if v.Kind<3 then
(.ok (0,true))
else
((each (fun _ a=>fun depth=>Us W_ a depth) 0 v.L 0).bind (alt (fun depth=>.ok ((IntKind.wrap .i64 (depth+1)),true)) (fun r=>.ok r)))))
theorem Af6 {W' W_:Value→R (Int×Bool)}(hW : ∀ w0,Le (W' w0) (W_ w0))(v:Value):Le (Wb W' v) (N1 W_ v):=by
 unfold Wb N1
 with_reducible repeat' first | exact Le.refl _ | exact hW .. | exact Aen (by assumption) .. | apply Bu | apply Cv | apply N4 | apply Kv | intro _
def Vr:Nat→Value→R (Int×Bool)
 | 0,_=>.bad
 | n+1,v=>Wb (Vr n) v
theorem Yl : ∀ (n k:Nat) a0,Le (Vr n a0) (Hv (n+k) a0)
 | 0,k,a0=>.inl rfl
 | n+1,k,a0=>by
  rw [show n+1+k=(n+k)+1 by omega]
  exact Af6 (fun a0=>Yl n k a0) ..
def Yf (v:Value):R (Int×Bool):=Vr 16 v
theorem Ait (v:Value):Le (Yf v) (Q1 v):=by
 unfold Yf Q1
 rw [Uz]
 exact Yl 16 (4000000 - 16) ..
def Zo (v:Value):R Int:=
 (Yf v).bind fun r=>
 if r.2 then
(if r.1 > 16 then
(.ok 2)
else
(.ok 0))
else
(.ok 1)
theorem Ajq (v:Value):Le (Zo v) (P8 v):=by
 unfold Zo P8
 with_reducible repeat' first | exact Le.refl _ | exact Ait .. | apply Bu | apply Cv | intro _
def L7 (u:Int)(l:List Int):R (List Int):=
 (Pu 80 (D0 fun u1 b=>Ik u1 b) (u,l)).bind (D0 fun u2 b1=>Io u2 b1)
theorem Pt (u:Int)(l:List Int):Le (L7 u l) (Gj u l):=by
 unfold L7 Gj
 with_reducible repeat' first | exact Le.refl _ | apply Bu | apply Kh | apply Pk | intro _
def Ke (v1:Value)(l:List Int):R (List Int):=
 if(l.length+[1].length) * 1≤Cm then
 (Qm v1.N).bind fun r=>
 (L7 r (l++[1])).bind fun r1=>
 .ok r1 else .bad
theorem O5 (v1:Value)(l:List Int):Le (Ke v1 l) (Eo v1 l):=by
 unfold Ke Eo
 with_reducible repeat' first | exact Le.refl _ | exact Pt .. | apply Bu | apply Cv | intro _
def Kf (v1:Value)(l:List Int):R (List Int):=
 if(l.length+[2].length) * 1≤Cm then
 (L7 (IntKind.wrap .u64 (v1.S.length:Int)) (l++[2])).bind fun r=>
 if(r.length+(Nm v1.S).length) * 1≤Cm then
 .ok (r++(Nm v1.S)) else .bad else .bad
theorem O6 (v1:Value)(l:List Int):Le (Kf v1 l) (Gg v1 l):=by
 unfold Kf Gg
 with_reducible repeat' first | exact Le.refl _ | exact Pt .. | apply Bu | apply Cv | intro _
def Od (W_:Value→(List Int)→R (List Int))(a:Value)(b1:List Int):R (List Int):=
 if a.Kind=0 then
(.bad)
else
(if a.Kind=1 then
((Ke a b1).bind fun b2=>
 .ok b2)
else
(if a.Kind=2 then
((Kf a b1).bind fun b3=>
 .ok b3)
else
(if a.Kind=3 then
((W_ a b1).bind fun b4=>
 .ok b4)
else
(.bad))))
theorem Yb {W' W_:Value→(List Int)→R (List Int)}(hW : ∀ w0 w1,Le (W' w0 w1) (W_ w0 w1))(a:Value)(b1:List Int):Le (Od W' a b1) (Hf W_ a b1):=by
 unfold Od Hf
 with_reducible repeat' first | exact Le.refl _ | exact hW .. | exact O5 .. | exact O6 .. | apply Bu | apply Cv | intro _
def Oz (W_:Value→(List Int)→R (List Int))(v1:Value)(l:List Int):R (List Int):=
 if(l.length+[3].length) * 1≤Cm then
 (L7 (IntKind.wrap .u64 (v1.L.length:Int)) (l++[3])).bind fun b=>
 (eachS (fun _ a=>fun b1=>Od W_ a b1) 0 v1.L b).bind ((fun b1=>.ok b1)) else .bad
theorem Yp {W' W_:Value→(List Int)→R (List Int)}(hW : ∀ w0 w1,Le (W' w0 w1) (W_ w0 w1))(v1:Value)(l:List Int):Le (Oz W' v1 l) (H4 W_ v1 l):=by
 unfold Oz H4
 with_reducible repeat' first | exact Le.refl _ | exact hW .. | exact Yb (by assumption) .. | exact Pt .. | apply Bu | apply Cv | apply Il | intro _
def O1:Nat→Value→(List Int)→R (List Int)
 | 0,_,_=>.bad
 | n+1,v1,l=>Oz (O1 n) v1 l
theorem Si : ∀ (n k:Nat) a0 a1,Le (O1 n a0 a1) (H1 (n+k) a0 a1)
 | 0,k,a0,a1=>.inl rfl
 | n+1,k,a0,a1=>by
  rw [show n+1+k=(n+k)+1 by omega]
  exact Yp (fun a0 a1=>Si n k a0 a1) ..
def Q2 (v1:Value)(l:List Int):R (List Int):=O1 16 v1 l
theorem Z8 (v1:Value)(l:List Int):Le (Q2 v1 l) (Kw v1 l):=by
 unfold Q2 Kw
 rw [Uz]
 exact Si 16 (4000000 - 16) ..
def P9 (a:Value)(b1:List Int):R (List Int):=
 if a.Kind=0 then
(.bad)
else
(if a.Kind=1 then
((Ke a b1).bind fun b2=>
 .ok b2)
else
(if a.Kind=2 then
((Kf a b1).bind fun b3=>
 .ok b3)
else
(if a.Kind=3 then
((Q2 a b1).bind fun b4=>
 .ok b4)
else
(.bad))))
theorem Zi (a:Value)(b1:List Int):Le (P9 a b1) (F1 a b1):=by
 unfold P9 F1
 with_reducible repeat' first | exact Le.refl _ | exact O5 .. | exact O6 .. | exact Z8 .. | apply Bu | apply Cv | intro _
def Sd (v1:Value):R (List Int):=
 if [3].length * 1≤Cm then
 (L7 (IntKind.wrap .u64 (v1.L.length:Int)) [3]).bind fun b=>
 (eachS (fun _ a=>fun b1=>P9 a b1) 0 v1.L b).bind ((fun b1=>.ok b1)) else .bad
theorem Aa7 (v1:Value):Le (Sd v1) (Ip v1):=by
 unfold Sd Ip
 with_reducible repeat' first | exact Le.refl _ | exact Pt .. | exact Zi .. | apply Bu | apply Cv | apply Il | intro _
def Yg (v:Value):R ((List Int)×Int):=
 (Zo v).bind fun e=>
 if(e != 0) then
(.ok ([],e))
else
((K8).bind fun _=>
 if v.Kind=0 then
(.bad)
else
(if v.Kind=1 then
((Ke v []).bind fun b=>
 .ok (b,0))
else
(if v.Kind=2 then
((Kf v []).bind fun b1=>
 .ok (b1,0))
else
(if v.Kind=3 then
((Sd v).bind fun b2=>
 .ok (b2,0))
else
(.bad)))))
theorem Aio (v:Value):Le (Yg v) (Mv v):=by
 unfold Yg Mv
 with_reducible repeat' first | exact Le.refl _ | exact O5 .. | exact Aa7 .. | exact O6 .. | exact Ajq .. | apply Bu | apply Cv | intro _
def N2 (tag:To)(b:List Int):R (Vector Int 32):=
 if tag.length≤Cm then
 (Xj (Nm tag)).bind fun r=>
 (Gl [r.toList,b]).bind fun r1=>
 (Xj r1).bind fun r2=>
 .ok r2 else .bad
theorem Rr (tag:To)(b:List Int):Le (N2 tag b) (Hp tag b):=by
 unfold N2 Hp
 with_reducible repeat' first | exact Le.refl _ | exact Akw .. | apply Bu | apply Cv | intro _
def Re (salt:(Vector Int 32))(l:List Int):R (Vector Int 32):=
 (eachS (fun _ a=>fun l1=>Hb a l1) 0 l []).bind ((fun l1=>(Yg ({ Kind:=3,N:=0,S:=[],L:=l1 }:Value)).bind fun r=>
 if r.1.length≠0∧(32+r.1.length) * 1≤Cm then
 (N2 [99,111,115,116] (salt.toList++r.1)).bind fun r1=>
 .ok r1 else .bad))
theorem Xy (salt:(Vector Int 32))(l:List Int):Le (Re salt l) (Fx salt l):=by
 unfold Re Fx
 with_reducible repeat' first | exact Le.refl _ | exact Rr .. | exact Aio .. | apply Bu | apply Cv | apply Il | intro _
def Vv (d:(Vector Int 32)):R (Vector Int 32):=
 (N2 [108,101,97,102] d.toList).bind fun r=>
 .ok r
theorem Ab1 (d:(Vector Int 32)):Le (Vv d) (Mi d):=by
 unfold Vv Mi
 with_reducible repeat' first | exact Le.refl _ | exact Rr .. | apply Bu | intro _
def Ss (a:(Vector Int 32))(b:(Vector Int 32)):R (Vector Int 32):=
 (Gl [a.toList,b.toList]).bind fun r=>
 (N2 [110,111,100,101] r).bind fun r1=>
 .ok r1
theorem Abu (a:(Vector Int 32))(b:(Vector Int 32)):Le (Ss a b) (Kp a b):=by
 unfold Ss Kp
 with_reducible repeat' first | exact Le.refl _ | exact Rr .. | apply Bu | intro _
def Ul (j:Nat)(a:(Vector Int 32))(o:(Vector Int 32))(first2:List Bool):R ((Vector Int 32)×(List Bool)):=
 (idx first2 (IntKind.wrap .i64 ((IntKind.wrap .i64 ((first2.length:Int) - 1)) - (j:Int)))).bind fun a1=>
 if a1 then
((Ss o a).bind fun r1=>
 .ok (r1,first2))
else
((Ss a o).bind fun r2=>
 .ok (r2,first2))
theorem Afd (j:Nat)(a:(Vector Int 32))(o:(Vector Int 32))(first2:List Bool):Le (Ul j a o first2) (G6 j a o first2):=by
 unfold Ul G6
 with_reducible repeat' first | exact Le.refl _ | exact Abu .. | apply Bu | apply Cv | intro _
def Um (d:(Vector Int 32))(p:(List (Vector Int 32)))(first1:List Bool):R ((Vector Int 32)×Int):=
 if((p.length:Int) != (first1.length:Int)) then
(.ok ((B3 32 0),1))
else
((Vv d).bind fun r=>
 (eachS (fun j a=>D0 fun o first2=>Ul j a o first2) 0 p (r,first1)).bind ((D0 fun o first2=>.ok (o,0))))
theorem Aey (d:(Vector Int 32))(p:(List (Vector Int 32)))(first1:List Bool):Le (Um d p first1) (Ku d p first1):=by
 unfold Um Ku
 with_reducible repeat' first | exact Le.refl _ | exact Ab1 .. | exact Afd .. | apply Bu | apply Cv | apply Il | apply Pk | intro _
def Ub (d:(Vector Int 32))(vat:Int)(n:Int)(p:(List (Vector Int 32))):R ((Vector Int 32)×Int):=
 if((((decide (n<1))||(decide (n > 1099511627776)))||(decide (vat<0)))||(decide (vat≥n))) then
(.ok ((B3 32 0),1))
else
((Pu 80 (Sk fun vat1 n1 first=>Gi vat1 n1 first) (vat,n,[])).bind (fun first1=>Um d p first1))
theorem Aai (d:(Vector Int 32))(vat:Int)(n:Int)(p:(List (Vector Int 32))):Le (Ub d vat n p) (Mw d vat n p):=by
 unfold Ub Mw
 with_reducible repeat' first | exact Le.refl _ | exact Aey .. | apply Bu | apply Kh | apply Cv | apply Tb | intro _
def Qx (d:(Vector Int 32))(tables:Int)(o:Opening)(x:Int)(r3:((Vector Int 32)×Int))(x1:Int):R (Int ⊕ (Unit ⊕ Int)):=
 if x1<tables then
((Ub r3.1 x1 tables (o.Path.drop (Int.toNat x))).bind fun r4=>
 if((r4.2==0)&&(r4.1==d)) then
(.ok (.inr (.inr (0))))
else
(.ok (.inl (IntKind.wrap .i64 (x1+1)))))
else
(.ok (.inr (.inl (()))))
theorem Z3 (d:(Vector Int 32))(tables:Int)(o:Opening)(x:Int)(r3:((Vector Int 32)×Int))(x1:Int):Le (Qx d tables o x r3 x1) (Hj d tables o x r3 x1):=by
 unfold Qx Hj
 with_reducible repeat' first | exact Le.refl _ | exact Aai .. | apply Bu | apply Cv | intro _
def Qr (d:(Vector Int 32))(tables:Int)(slots:Int)(o:Opening)(r2:(Vector Int 32))(x:Int):R (Int ⊕ (Unit ⊕ Int)):=
 if x<(IntKind.wrap .i64 ((o.Path.length:Int)+1)) then
(if(0:Int)≤x∧x≤(o.Path.length:Int) then
 if(0:Int)≤x∧x≤(o.Path.length:Int) then
 (Ub r2 o.Slot slots (o.Path.take (Int.toNat x))).bind fun r3=>
 if(r3.2 != 0) then
(.ok (.inl (IntKind.wrap .i64 (x+1))))
else
((Pu 80 (fun x1=>Qx d tables o x r3 x1) 0).bind (alt (fun _=>Hh x) (fun r=>.ok (.inr (.inr (r)))))) else .bad else .bad)
else
(.ok (.inr (.inl (()))))
theorem Z9 (d:(Vector Int 32))(tables:Int)(slots:Int)(o:Opening)(r2:(Vector Int 32))(x:Int):Le (Qr d tables slots o r2 x) (Fk d tables slots o r2 x):=by
 unfold Qr Fk
 with_reducible repeat' first | exact Le.refl _ | exact Aai .. | exact Z3 .. | apply Bu | apply Kh | apply Cv | apply Kv | intro _
def S3 (d:(Vector Int 32))(airline:Int)(tables:Int)(slots:Int)(o:Opening):R Int:=
 (if(((((decide (tables<1))||(decide (tables > 8)))||(decide (slots<1)))||(decide (slots > 8)))||(o.Airline != airline)) then R.ok true else(J1 o.Airline o.Flight).bind fun r=>
 R.ok (!r)).bind (fun(b:Bool)=>(if((b||(decide (o.Slot<0)))||(decide (o.Slot≥slots))) then R.ok true else(Jj o.Cost).bind fun r1=>
 R.ok (!r1)).bind (fun(b1:Bool)=>if b1 then
(.ok 360)
else
((Re o.Salt [o.Airline,o.Flight,o.Slot,o.Cost]).bind fun r2=>
 (Pu 80 (fun x=>Qr d tables slots o r2 x) 0).bind (alt (fun _=>Hg) (fun r=>.ok r)))))
theorem Acv (d:(Vector Int 32))(airline:Int)(tables:Int)(slots:Int)(o:Opening):Le (S3 d airline tables slots o) (Jh d airline tables slots o):=by
 unfold S3 Jh
 with_reducible repeat' first | exact Le.refl _ | exact Xy .. | exact Z9 .. | apply Bu | apply Kh | apply Cv | apply Kv | intro _
def P2 (c:Clearing)(o:Opening)(x:Bool):R Int:=
 if x then
(.ok 400)
else
((Md c.Owners).bind fun r=>
 (Gv r.1 o.Airline).bind fun r1=>
 (idx c.Commitments r1).bind fun a1=>
 (S3 a1 o.Airline (Option.getD (Fj r.2 o.Airline) 0) c.Slots o).bind fun r2=>
 .ok r2)
theorem Aci (c:Clearing)(o:Opening)(x:Bool):Le (P2 c o x) (Jg c o x):=by
 unfold P2 Jg
 with_reducible repeat' first | exact Le.refl _ | exact Px .. | exact Acv .. | apply Bu | apply Cv | intro _
def Pm (c:Clearing)(o:Opening):R Int:=
 (Gv c.Flights o.Flight).bind fun i=>
 if(decide (i<0)) then
(P2 c o true)
else
((idx c.Owners i).bind fun a=>
 P2 c o (a != o.Airline))
theorem Yn (c:Clearing)(o:Opening):Le (Pm c o) (Hw c o):=by
 unfold Pm Hw
 with_reducible repeat' first | exact Le.refl _ | exact Aci .. | apply Bu | apply Cv | intro _
def T0 (c:Clearing)(j:Nat)(a:Opening):R (Unit ⊕ Bool):=
 if(decide ((j:Int) > 0)) then
((idx c.Openings (IntKind.wrap .i64 ((j:Int) - 1))).bind fun a1=>
 (Mq a1 a).bind fun r=>
 if(decide (r≥0)) then
(Gu true)
else
((Pm c a).bind fun r1=>
 Gu (r1 != 0)))
else
((Pm c a).bind fun r2=>
 Gu (r2 != 0))
theorem Adw (c:Clearing)(j:Nat)(a:Opening):Le (T0 c j a) (It c j a):=by
 unfold T0 It
 with_reducible repeat' first | exact Le.refl _ | exact Yn .. | apply Bu | apply Cv | intro _
def Tm (c:Clearing):R Bool:=
 (each (fun j a=>fun _=>T0 c j a) 0 c.Openings ()).bind (alt (fun _=>.ok true) (fun r=>.ok r))
theorem Zw (c:Clearing):Le (Tm c) (La c):=by
 unfold Tm La
 with_reducible repeat' first | exact Le.refl _ | exact Adw .. | apply Bu | apply N4 | apply Kv | intro _
def Tu (c:Clearing):R Bool:=
 (Fy c).bind fun r=>
 (if r then(Tm c).bind fun r1=>
 R.ok r1 else R.ok false).bind (fun(b:Bool)=>.ok (b&&((c.Outcome.length:Int)==0)))
theorem Adr (c:Clearing):Le (Tu c) (Ma c):=by
 unfold Tu Ma
 with_reducible repeat' first | exact Le.refl _ | exact Zw .. | apply Bu | apply Cv | intro _
def Ms {σ_:Type}(b:List Opening)(c:Int)(b_:(List Opening)→σ_→R σ_)(i:Int)(s:σ_):R ((Int×σ_) ⊕ σ_):=
 if i<(b.length:Int) then
(if(0:Int)≤i∧i≤(b.length:Int) then
 if(0:Int)≤i∧i≤(IntKind.wrap .i64 (i+(if((b.drop (Int.toNat i)).length:Int)<c then((b.drop (Int.toNat i)).length:Int) else c)))∧(IntKind.wrap .i64 (i+(if((b.drop (Int.toNat i)).length:Int)<c then((b.drop (Int.toNat i)).length:Int) else c)))≤(b.length:Int) then
 (b_ (cut b i (IntKind.wrap .i64 (i+(if((b.drop (Int.toNat i)).length:Int)<c then((b.drop (Int.toNat i)).length:Int) else c)))) s).bind fun s1=>
 .ok (.inl ((IntKind.wrap .i64 (i+c)),s1)) else .bad else .bad)
else
(.ok (.inr (s)))
theorem Qf {σ_:Type}{b' b_:(List Opening)→σ_→R σ_}(hb : ∀ w0 w1,Le (b' w0 w1) (b_ w0 w1))(b:List Opening)(c:Int)(i:Int)(s:σ_):Le (Ms b c b' i s) (Ed b c b_ i s):=by
 unfold Ms Ed
 with_reducible repeat' first | exact Le.refl _ | exact hb .. | apply Bu | apply Cv | intro _
def Ok {σ_:Type}(b:List Opening)(c:Int)(b_:(List Opening)→σ_→R σ_)(s_:σ_):R σ_:=
 (Pu 80 (D0 fun i s=>Ms b c b_ i s) (0,s_)).bind (fun s2=>Hn s2)
theorem Rz {σ_:Type}{b' b_:(List Opening)→σ_→R σ_}(hb : ∀ w0 w1,Le (b' w0 w1) (b_ w0 w1))(b:List Opening)(c:Int)(s_:σ_):Le (Ok b c b' s_) (E6 b c b_ s_):=by
 unfold Ok E6
 with_reducible repeat' first | exact Le.refl _ | exact hb .. | exact Qf (by assumption) .. | refine Qf (fun w0 w1=>?_) .. | apply Bu | apply Kh | apply Pk | intro _
def Rb (c:Clearing):R (Round×Bool):=
 if((c.Openings.length:Int) != (IntKind.wrap .i64 ((c.Flights.length:Int) * c.Slots))) then
(.ok (({ Slots:=0,Owners:=[],Costs:=[] }:Round),false))
else
((H3 c.Openings c.Slots).bind fun _=>
 (Ok c.Openings c.Slots (fun a z_=>R.np ((fun l=>Im a l) z_)) []).bind (fun l=>.ok (({ Slots:=c.Slots,Owners:=c.Owners,Costs:=l }:Round),true)))
theorem Xt (c:Clearing):Le (Rb c) (Ib c):=by
 unfold Rb Ib
 with_reducible repeat' first | exact Le.refl _ | exact Rz (by assumption) .. | refine Rz (fun w0 w1=>?_) .. | apply Bu | apply Cv | apply Sr | intro _
def K5 {σ_:Type}(slots:List Int)(b:Round)(c:Round)(W_:(List Int)→Round→(List (Int×Bool))→Round→σ_→R ((List (Int×Bool))×σ_))(x:Int)(m1:(List (Int×Bool)))(s1:σ_):R ((Int×(List (Int×Bool))×σ_) ⊕ ((List (Int×Bool))×σ_)):=
 if x<b.Slots then
((if(Option.getD (Fj m1 x) false) then R.ok true else(idx b.Costs (slots.length:Int)).bind fun a=>
 (idx a x).bind fun a1=>
 R.ok (decide (a1<0))).bind (fun(b1:Bool)=>if b1 then
(.ok (.inl ((IntKind.wrap .i64 (x+1)),m1,s1)))
else
((M6 slots).bind fun r=>
 if [x].length≠0∧(r.length+[x].length) * 8≤Cm then
 (W_ (r++[x]) c (Mb m1 x true) c s1).bind fun r1=>
 Ff x r1.1 r1.2 else .bad)))
else
(.ok (.inr ((m1,s1))))
theorem Uj {σ_:Type}{W' W_:(List Int)→Round→(List (Int×Bool))→Round→σ_→R ((List (Int×Bool))×σ_)}(hW : ∀ w0 w1 w2 w3 w4,Le (W' w0 w1 w2 w3 w4) (W_ w0 w1 w2 w3 w4))(slots:List Int)(b:Round)(c:Round)(x:Int)(m1:(List (Int×Bool)))(s1:σ_):Le (K5 slots b c W' x m1 s1) (Dt slots b c W_ x m1 s1):=by
 unfold K5 Dt
 with_reducible repeat' first | exact Le.refl _ | exact hW .. | apply Bu | apply Cv | intro _
def Lm {σ_:Type}(W_:(List Int)→Round→(List (Int×Bool))→Round→σ_→R ((List (Int×Bool))×σ_))(slots:List Int)(b:Round)(m:(List (Int×Bool)))(c:Round)(b_:(List Int)→σ_→R σ_)(s_:σ_):R ((List (Int×Bool))×σ_):=
 if((slots.length:Int)==(b.Owners.length:Int)) then
((b_ slots s_).bind fun s=>
 .ok (m,s))
else
((Pu 80 (Sk fun x m1 s1=>K5 slots b c W_ x m1 s1) (0,m,s_)).bind (D0 fun m3 s3=>Gx m3 s3))
theorem Vb {σ_:Type}{W' W_:(List Int)→Round→(List (Int×Bool))→Round→σ_→R ((List (Int×Bool))×σ_)}(hW : ∀ w0 w1 w2 w3 w4,Le (W' w0 w1 w2 w3 w4) (W_ w0 w1 w2 w3 w4)){b' b_:(List Int)→σ_→R σ_}(hb : ∀ w0 w1,Le (b' w0 w1) (b_ w0 w1))(slots:List Int)(b:Round)(m:(List (Int×Bool)))(c:Round)(s_:σ_):Le (Lm W' slots b m c b' s_) (Ei W_ slots b m c b_ s_):=by
 unfold Lm Ei
 with_reducible repeat' first | exact Le.refl _ | exact hW .. | exact hb .. | exact Uj (by assumption) .. | apply Bu | apply Kh | apply Cv | apply Pk | apply Tb | intro _
def Lk {σ_:Type}(b_:(List Int)→σ_→R σ_):Nat→(List Int)→Round→(List (Int×Bool))→Round→σ_→R ((List (Int×Bool))×σ_)
 | 0,_,_,_,_,_=>.bad
 | n+1,slots,b,m,c,s_=>R.np (Lm (Lk b_ n) slots b m c b_ s_)
theorem Oy {σ_:Type}{b' b_:(List Int)→σ_→R σ_}(hb : ∀ w0 w1,Le (b' w0 w1) (b_ w0 w1)) : ∀ (n k:Nat) a0 a1 a2 a3 a4,Le (Lk b' n a0 a1 a2 a3 a4) (Dx b_ (n+k) a0 a1 a2 a3 a4)
 | 0,k,a0,a1,a2,a3,a4=>.inl rfl
 | n+1,k,a0,a1,a2,a3,a4=>by
  rw [show n+1+k=(n+k)+1 by omega]
  exact Sr (Vb (fun a0 a1 a2 a3 a4=>Oy hb n k a0 a1 a2 a3 a4) hb ..)
def Mt {σ_:Type}(slots:List Int)(b:Round)(m:(List (Int×Bool)))(c:Round)(b_:(List Int)→σ_→R σ_)(s_:σ_):R ((List (Int×Bool))×σ_):=Lk b_ 16 slots b m c s_
theorem Qg {σ_:Type}{b' b_:(List Int)→σ_→R σ_}(hb : ∀ w0 w1,Le (b' w0 w1) (b_ w0 w1))(slots:List Int)(b:Round)(m:(List (Int×Bool)))(c:Round)(s_:σ_):Le (Mt slots b m c b' s_) (Gc slots b m c b_ s_):=by
 unfold Mt Gc
 rw [Uz]
 exact Oy hb 16 (4000000 - 16) ..
def Me {σ_:Type}(b:Round)(b_:(List Int)→σ_→R σ_)(s_:σ_):R σ_:=
 (Mt [] b [] b b_ s_).bind fun r=>
 .ok r.2
theorem Pz {σ_:Type}{b' b_:(List Int)→σ_→R σ_}(hb : ∀ w0 w1,Le (b' w0 w1) (b_ w0 w1))(b:Round)(s_:σ_):Le (Me b b' s_) (Eu b b_ s_):=by
 unfold Me Eu
 with_reducible repeat' first | exact Le.refl _ | exact hb .. | exact Qg (by assumption) .. | refine Qg (fun w0 w1=>?_) .. | apply Bu | intro _
def Nj {σ_:Type}(b:Round)(b_:(List Int)→σ_→R σ_)(s_:σ_):R σ_:=R.np (Me b b_ s_)
theorem Qy {σ_:Type}{b' b_:(List Int)→σ_→R σ_}(hb : ∀ w0 w1,Le (b' w0 w1) (b_ w0 w1))(b:Round)(s_:σ_):Le (Nj b b' s_) (Fi b b_ s_):=by
 unfold Nj Fi
 with_reducible repeat' first | exact Le.refl _ | exact hb .. | exact Pz (by assumption) .. | refine Pz (fun w0 w1=>?_) .. | apply Bu | apply Sr | intro _
def K1 {σ_ ε_:Type}(begin:List Int)(b:List Int)(d:Round)(c:List Int)(c1:Round)(W_:(List Int)→(List Int)→Round→(List Int)→Round→σ_→R (σ_ ⊕ ε_))(a:Int)(s1:σ_):R (σ_ ⊕ (σ_ ⊕ ε_)):=
 (idx b (begin.length:Int)).bind fun a1=>
 (idx d.Costs a1).bind fun a2=>
 (idx a2 a).bind fun a3=>
 if(decide (a3≥0)) then
((E3 begin a).bind fun r1=>
 if(!r1) then
(if(0:Int)≤(begin.length:Int)∧(begin.length:Int)≤(begin.length:Int) then
 if [a].length≠0∧((begin.take (Int.toNat (begin.length:Int))).length+[a].length) * 8≤Cm then
 (W_ ((begin.take (Int.toNat (begin.length:Int)))++[a]) c c1 c c1 s1).bind (alt (fun s2=>
 Dd s2) (fun e1=>
 .ok (.inr ((Sum.inr (α:=σ_) e1))))) else .bad else .bad)
else
(Dd s1))
else
(Dd s1)
theorem Ut {σ_ ε_:Type}{W' W_:(List Int)→(List Int)→Round→(List Int)→Round→σ_→R (σ_ ⊕ ε_)}(hW : ∀ w0 w1 w2 w3 w4 w5,Le (W' w0 w1 w2 w3 w4 w5) (W_ w0 w1 w2 w3 w4 w5))(begin:List Int)(b:List Int)(d:Round)(c:List Int)(c1:Round)(a:Int)(s1:σ_):Le (K1 begin b d c c1 W' a s1) (Ee begin b d c c1 W_ a s1):=by
 unfold K1 Ee
 with_reducible repeat' first | exact Le.refl _ | exact hW .. | apply Bu | apply Cv | apply Kv | intro _
def Li {σ_ ε_:Type}(W_:(List Int)→(List Int)→Round→(List Int)→Round→σ_→R (σ_ ⊕ ε_))(begin:List Int)(b:List Int)(d:Round)(c:List Int)(c1:Round)(b_:(List Int)→σ_→R (σ_ ⊕ ε_))(s_:σ_):R (σ_ ⊕ ε_):=
 if((begin.length:Int)==(b.length:Int)) then
((Gs begin).bind fun r=>
 (b_ r s_).bind (alt (fun s=>
 .ok (Sum.inl (β:=ε_) s)) (fun e=>
 .ok (Sum.inr (α:=σ_) e))))
else
((each (fun _ a=>fun s1=>K1 begin b d c c1 W_ a s1) 0 b s_).bind (alt (fun s1=>.ok (Sum.inl (β:=ε_) s1)) (fun r=>.ok r)))
theorem Vc {σ_ ε_:Type}{W' W_:(List Int)→(List Int)→Round→(List Int)→Round→σ_→R (σ_ ⊕ ε_)}(hW : ∀ w0 w1 w2 w3 w4 w5,Le (W' w0 w1 w2 w3 w4 w5) (W_ w0 w1 w2 w3 w4 w5)){b' b_:(List Int)→σ_→R (σ_ ⊕ ε_)}(hb : ∀ w0 w1,Le (b' w0 w1) (b_ w0 w1))(begin:List Int)(b:List Int)(d:Round)(c:List Int)(c1:Round)(s_:σ_):Le (Li W' begin b d c c1 b' s_) (Ej W_ begin b d c c1 b_ s_):=by
 unfold Li Ej
 with_reducible repeat' first | exact Le.refl _ | exact hW .. | exact hb .. | exact Ut (by assumption) .. | apply Bu | apply Cv | apply N4 | apply Kv | intro _
def Lh {σ_ ε_:Type}(b_:(List Int)→σ_→R (σ_ ⊕ ε_)):Nat→(List Int)→(List Int)→Round→(List Int)→Round→σ_→R (σ_ ⊕ ε_)
 | 0,_,_,_,_,_,_=>.bad
 | n+1,begin,b,d,c,c1,s_=>R.np (Li (Lh b_ n) begin b d c c1 b_ s_)
theorem Ox {σ_ ε_:Type}{b' b_:(List Int)→σ_→R (σ_ ⊕ ε_)}(hb : ∀ w0 w1,Le (b' w0 w1) (b_ w0 w1)) : ∀ (n k:Nat) a0 a1 a2 a3 a4 a5,Le (Lh b' n a0 a1 a2 a3 a4 a5) (Dw b_ (n+k) a0 a1 a2 a3 a4 a5)
 | 0,k,a0,a1,a2,a3,a4,a5=>.inl rfl
 | n+1,k,a0,a1,a2,a3,a4,a5=>by
  rw [show n+1+k=(n+k)+1 by omega]
  exact Sr (Vc (fun a0 a1 a2 a3 a4 a5=>Ox hb n k a0 a1 a2 a3 a4 a5) hb ..)
def Mn {σ_ ε_:Type}(begin:List Int)(b:List Int)(d:Round)(c:List Int)(c1:Round)(b_:(List Int)→σ_→R (σ_ ⊕ ε_))(s_:σ_):R (σ_ ⊕ ε_):=Lh b_ 16 begin b d c c1 s_
theorem Qd {σ_ ε_:Type}{b' b_:(List Int)→σ_→R (σ_ ⊕ ε_)}(hb : ∀ w0 w1,Le (b' w0 w1) (b_ w0 w1))(begin:List Int)(b:List Int)(d:Round)(c:List Int)(c1:Round)(s_:σ_):Le (Mn begin b d c c1 b' s_) (Ge begin b d c c1 b_ s_):=by
 unfold Mn Ge
 rw [Uz]
 exact Ox hb 16 (4000000 - 16) ..
def L0 {σ_ ε_:Type}(b:List Int)(c:Round)(b_:(List Int)→σ_→R (σ_ ⊕ ε_))(s_:σ_):R (σ_ ⊕ ε_):=
 (Mn [] b c b c b_ s_).bind (alt (fun s=>
 .ok (Sum.inl (β:=ε_) s)) (fun e=>
 .ok (Sum.inr (α:=σ_) e)))
theorem Pg {σ_ ε_:Type}{b' b_:(List Int)→σ_→R (σ_ ⊕ ε_)}(hb : ∀ w0 w1,Le (b' w0 w1) (b_ w0 w1))(b:List Int)(c:Round)(s_:σ_):Le (L0 b c b' s_) (Et b c b_ s_):=by
 unfold L0 Et
 with_reducible repeat' first | exact Le.refl _ | exact hb .. | exact Qd (by assumption) .. | refine Qd (fun w0 w1=>?_) .. | apply Bu | apply Kv | intro _
def Nh {σ_ ε_:Type}(b:List Int)(c:Round)(b_:(List Int)→σ_→R (σ_ ⊕ ε_))(s_:σ_):R (σ_ ⊕ ε_):=R.np (L0 b c b_ s_)
theorem Qw {σ_ ε_:Type}{b' b_:(List Int)→σ_→R (σ_ ⊕ ε_)}(hb : ∀ w0 w1,Le (b' w0 w1) (b_ w0 w1))(b:List Int)(c:Round)(s_:σ_):Le (Nh b c b' s_) (Eg b c b_ s_):=by
 unfold Nh Eg
 with_reducible repeat' first | exact Le.refl _ | exact hb .. | exact Pg (by assumption) .. | refine Pg (fun w0 w1=>?_) .. | apply Bu | apply Sr | intro _
def Ts (r:Round)(than:List Int)(group:List Int):R ((List Int)×Bool):=
 (eachS (fun j a=>fun l=>Ia group j a l) 0 r.Owners []).bind ((fun l=>(Gp r l).bind fun _=>
 (Nh l r (fun a1 z_=>R.np ((fun _=>Gz r than group l a1) z_)) ()).bind (alt (fun _=>.ok ([],false)) (fun o=>.ok (o,true)))))
theorem Ads (r:Round)(than:List Int)(group:List Int):Le (Ts r than group) (Iq r than group):=by
 unfold Ts Iq
 with_reducible repeat' first | exact Le.refl _ | exact Qw (by assumption) .. | refine Qw (fun w0 w1=>?_) .. | apply Bu | apply Il | apply Kv | apply Sr | intro _
def Rj (r:Round)(than:List Int)(j:Nat):R (Unit ⊕ (Bool×Int)):=
 (each (fun j1 _=>fun group=>H6 r j j1 group) 0 (List.range 8) []).bind (alt (fun group=>if((group.length:Int)==0) then
(D3)
else
((Ts r than group).bind fun r4=>
 if r4.2 then
(.ok (.inr ((false,0))))
else
(D3))) (fun _=>D3))
theorem Aat (r:Round)(than:List Int)(j:Nat):Le (Rj r than j) (H9 r than j):=by
 unfold Rj H9
 with_reducible repeat' first | exact Le.refl _ | exact Ads .. | apply Bu | apply Cv | apply N4 | apply Kv | intro _
def T1 (r:Round)(slots:List Int):R (Bool×Int):=
 (M8 r slots).bind fun r1=>
 if((r1.2 != 0)||(decide ((r1.1.length:Int) > 0))) then
(.ok (false,r1.2))
else
((Iv r).bind fun r2=>
 (G8 r r2 slots).bind fun than=>
 (each (fun j _=>fun _=>Rj r than j) 0 (List.range 256) ()).bind (alt (fun _=>.ok (true,0)) (fun r=>.ok r)))
theorem Adz (r:Round)(slots:List Int):Le (T1 r slots) (Ek r slots):=by
 unfold T1 Ek
 with_reducible repeat' first | exact Le.refl _ | exact Aat .. | apply Bu | apply Cv | apply N4 | apply Kv | intro _
def Tz (r:Round)(a:List Int)(o:List Int)(o1:List Int):R ((List Int)×(List Int)):=
 (Lz r a).bind fun v=>
 (if(!List.isEmpty o1) then(Ka v o1).bind fun r2=>
 R.ok (decide (r2≥0)) else R.ok false).bind (fun(b:Bool)=>if b then
(.ok (o,o1))
else
((T1 r a).bind fun r3=>
 if((r3.2==0)&&r3.1) then
((Gs a).bind fun r4=>
 if v.length≠0 then
 .ok (r4,v) else .bad)
else
(.ok (o,o1))))
theorem Adn (r:Round)(a:List Int)(o:List Int)(o1:List Int):Le (Tz r a o o1) (Ir r a o o1):=by
 unfold Tz Ir
 with_reducible repeat' first | exact Le.refl _ | exact Adz .. | apply Bu | apply Cv | intro _
def Ww (r:Round):R ((List Int)×Int):=
 (Ks r).bind fun e=>
 if(e != 0) then
(.ok ([],e))
else
((H5 r).bind fun _=>
 (Nj r (fun a z_=>R.np ((D0 fun o o1=>Tz r a o o1) z_)) ([],[])).bind (D0 fun o o1=>if(List.isEmpty o1) then
(.ok ([],380))
else
(.ok (o,0))))
theorem Ahh (r:Round):Le (Ww r) (Nf r):=by
 unfold Ww Nf
 with_reducible repeat' first | exact Le.refl _ | exact Qy (by assumption) .. | refine Qy (fun w0 w1=>?_) .. | exact Adn .. | apply Bu | apply Cv | apply Pk | apply Sr | intro _
def Ud (r:Round):R ((List Int)×Int):=
 (Ww r).bind fun r1=>
 if(r1.2==0) then
(.ok (r1.1,3))
else
((eachS (fun j _=>fun outcome=>K0 j outcome) 0 r.Owners []).bind ((fun outcome=>.ok (outcome,4))))
theorem Aal (r:Round):Le (Ud r) (Ho r):=by
 unfold Ud Ho
 with_reducible repeat' first | exact Le.refl _ | exact Ahh .. | apply Bu | apply Cv | apply Il | intro _
def Rq (c:Clearing):R Bool:=
 (Fy c).bind fun r=>
 (if(!r) then R.ok true else(Tm c).bind fun r1=>
 R.ok (!r1)).bind (fun(b:Bool)=>if b then
(.ok false)
else
((Rb c).bind fun r2=>
 if r2.2 then
((Ud r2.1).bind fun r3=>
 (if(r3.2==c.Phase) then(J4 r3.1 c.Outcome).bind fun r4=>
 R.ok r4 else R.ok false).bind (fun(b1:Bool)=>.ok b1))
else
(.ok false)))
theorem Ael (c:Clearing):Le (Rq c) (Ji c):=by
 unfold Rq Ji
 with_reducible repeat' first | exact Le.refl _ | exact Xt .. | exact Zw .. | exact Aal .. | apply Bu | apply Cv | intro _
def Lc (c:Clearing):R Int:=
 (Wv c).bind fun r=>
 if(!r) then
(Df true)
else
(if(decide (c.Phase<1)) then
(Df true)
else
(if(decide (c.Phase > 4)) then
(Df true)
else
(if c.Phase=0 then
(.bad)
else
(if c.Phase=1 then
((Og c).bind fun r1=>
 Df (!r1))
else
(if c.Phase=2 then
((Tu c).bind fun r2=>
 Df (!r2))
else
(if c.Phase=3 then
((Rq c).bind fun r3=>
 Df (!r3))
else
(if c.Phase=4 then
((Rq c).bind fun r4=>
 Df (!r4))
else
(.bad))))))))
theorem M9 (c:Clearing):Le (Lc c) (C4 c):=by
 unfold Lc C4
 with_reducible repeat' first | exact Le.refl _ | exact Ael .. | exact Ahc .. | exact Adr .. | apply Bu | apply Cv | intro _
def Xk (no:Int)(slots:Int)(owners:List Int)(flights:List Int):R (Clearing×Int):=
 (Md owners).bind fun r=>
 if(0:Int)≤(r.1.length:Int)∧((r.1.length:Int):Int)≤(r.1.length:Int)∧(Int.toNat (r.1.length:Int)) * 32≤Cm then
 (Lc ({ No:=no,Phase:=1,Slots:=slots,Owners:=owners,Flights:=flights,Commitments:=(List.replicate (Int.toNat (r.1.length:Int)) (B3 32 0)),Openings:=[],Outcome:=[] }:Clearing)).bind fun e=>
 if(e != 0) then
(.ok (({ No:=0,Phase:=0,Slots:=0,Owners:=[],Flights:=[],Commitments:=[],Openings:=[],Outcome:=[] }:Clearing),e))
else
(.ok (({ No:=no,Phase:=1,Slots:=slots,Owners:=owners,Flights:=flights,Commitments:=(List.replicate (Int.toNat (r.1.length:Int)) (B3 32 0)),Openings:=[],Outcome:=[] }:Clearing),0)) else .bad
theorem Adi (no:Int)(slots:Int)(owners:List Int)(flights:List Int):Le (Xk no slots owners flights) (Th no slots owners flights):=by
 unfold Xk Th
 with_reducible repeat' first | exact Le.refl _ | exact Px .. | exact M9 .. | apply Bu | apply Cv | intro _
def Oa {σ_:Type}(b:Table)(b_:(Vector Int 32)→σ_→R σ_)(j:Nat)(a:Int)(s:σ_):R σ_:=
 (Re b.Salt [b.Airline,b.Flight,(j:Int),a]).bind fun r=>
 (b_ r s).bind fun s1=>
 .ok s1
theorem R6 {σ_:Type}{b' b_:(Vector Int 32)→σ_→R σ_}(hb : ∀ w0 w1,Le (b' w0 w1) (b_ w0 w1))(b:Table)(j:Nat)(a:Int)(s:σ_):Le (Oa b b' j a s) (He b b_ j a s):=by
 unfold Oa He
 with_reducible repeat' first | exact Le.refl _ | exact hb .. | exact Xy .. | apply Bu | intro _
def Qu {σ_:Type}(b:Table)(b_:(Vector Int 32)→σ_→R σ_)(s_:σ_):R σ_:=
 (eachS (fun j a=>fun s=>Oa b b_ j a s) 0 b.Costs s_).bind ((fun s=>.ok s))
theorem Tp {σ_:Type}{b' b_:(Vector Int 32)→σ_→R σ_}(hb : ∀ w0 w1,Le (b' w0 w1) (b_ w0 w1))(b:Table)(s_:σ_):Le (Qu b b' s_) (Iz b b_ s_):=by
 unfold Qu Iz
 with_reducible repeat' first | exact Le.refl _ | exact hb .. | exact R6 (by assumption) .. | refine R6 (fun w0 w1=>?_) .. | apply Bu | apply Il | intro _
def Po (t:Table):R (List (Vector Int 32)):=
 (Lr t).bind fun _=>
 (Qu t (fun a z_=>R.np ((fun l=>Nw a l) z_)) []).bind (fun l=>.ok l)
theorem Vq (t:Table):Le (Po t) (Jf t):=by
 unfold Po Jf
 with_reducible repeat' first | exact Le.refl _ | exact Tp (by assumption) .. | refine Tp (fun w0 w1=>?_) .. | apply Bu | apply Sr | intro _
def W5 (W_:(List (Vector Int 32))→R (Vector Int 32))(l:(List (Vector Int 32))):R (Vector Int 32):=
 if((l.length:Int)==0) then
((N2 [101,109,112,116,121] []).bind fun r=>
 .ok r)
else
(if((l.length:Int)==1) then
((idx l 0).bind fun a=>
 (Vv a).bind fun r1=>
 .ok r1)
else
((Gw (l.length:Int)).bind fun n=>
 if(0:Int)≤n∧n≤(l.length:Int) then
 if(0:Int)≤n∧n≤(l.length:Int) then
 (W_ (l.take (Int.toNat n))).bind fun r2=>
 (W_ (l.drop (Int.toNat n))).bind fun r3=>
 (Ss r2 r3).bind fun r4=>
 .ok r4 else .bad else .bad))
theorem Ag2 {W' W_:(List (Vector Int 32))→R (Vector Int 32)}(hW : ∀ w0,Le (W' w0) (W_ w0))(l:(List (Vector Int 32))):Le (W5 W' l) (Ry W_ l):=by
 unfold W5 Ry
 with_reducible repeat' first | exact Le.refl _ | exact hW .. | exact Rr .. | exact Abu .. | exact Ab1 .. | apply Bu | apply Cv | intro _
def Xb:Nat→(List (Vector Int 32))→R (Vector Int 32)
 | 0,_=>.bad
 | n+1,l=>W5 (Xb n) l
theorem Zz : ∀ (n k:Nat) a0,Le (Xb n a0) (Ru (n+k) a0)
 | 0,k,a0=>.inl rfl
 | n+1,k,a0=>by
  rw [show n+1+k=(n+k)+1 by omega]
  exact Ag2 (fun a0=>Zz n k a0) ..
def Qz (l:(List (Vector Int 32))):R (Vector Int 32):=Xb 16 l
theorem Wr (l:(List (Vector Int 32))):Le (Qz l) (P6 l):=by
 unfold Qz P6
 rw [Uz]
 exact Zz 16 (4000000 - 16) ..
def P5 (a:Table)(d:(List (Vector Int 32))):R (List (Vector Int 32)):=
 (Po a).bind fun r=>
 (Qz r).bind fun r1=>
 if(d.length+[r1].length) * 32≤Cm then
 .ok (d++[r1]) else .bad
theorem Zm (a:Table)(d:(List (Vector Int 32))):Le (P5 a d) (Id a d):=by
 unfold P5 Id
 with_reducible repeat' first | exact Le.refl _ | exact Vq .. | exact Wr .. | apply Bu | apply Cv | intro _
def Ol (l:List Table):R (List (Vector Int 32)):=
 (eachS (fun _ a=>fun d=>P5 a d) 0 l []).bind ((fun d=>.ok d))
theorem U6 (l:List Table):Le (Ol l) (Hc l):=by
 unfold Ol Hc
 with_reducible repeat' first | exact Le.refl _ | exact Zm .. | apply Bu | apply Il | intro _
def S8 (l:List Table):R ((Vector Int 32)×Int):=
 (L9 l).bind fun r=>
 if r then
((Ol l).bind fun r1=>
 (Qz r1).bind fun r2=>
 .ok (r2,0))
else
(.ok ((B3 32 0),360))
theorem Ada (l:List Table):Le (S8 l) (Nk l):=by
 unfold S8 Nk
 with_reducible repeat' first | exact Le.refl _ | exact U6 .. | exact Wr .. | apply Bu | apply Cv | intro _
def Tf (c:Clearing)(airline:Int)(d:(Vector Int 32)):R (Clearing×Int):=
 (Lc c).bind fun e=>
 if(e != 0) then
(.ok (({ No:=0,Phase:=0,Slots:=0,Owners:=[],Flights:=[],Commitments:=[],Openings:=[],Outcome:=[] }:Clearing),e))
else
((Md c.Owners).bind fun r=>
 (Gv r.1 airline).bind fun i=>
 if((decide (i<0))||(d==(#v[0,0,0,0,0,0,0,0,0,0,0,0,0,0,0,0,0,0,0,0,0,0,0,0,0,0,0,0,0,0,0,0]:(Vector Int 32)))) then
(.ok (({ No:=0,Phase:=0,Slots:=0,Owners:=[],Flights:=[],Commitments:=[],Openings:=[],Outcome:=[] }:Clearing),400))
else
((idx c.Commitments i).bind fun a=>
 if(a==d) then
(.ok (c,0))
else
(if(a==(#v[0,0,0,0,0,0,0,0,0,0,0,0,0,0,0,0,0,0,0,0,0,0,0,0,0,0,0,0,0,0,0,0]:(Vector Int 32))) then
((Lv c.Commitments).bind fun r1=>
 (idx r1 i).bind fun a1=>
 (Fy ({ No:=c.No,Phase:=c.Phase,Slots:=c.Slots,Owners:=c.Owners,Flights:=c.Flights,Commitments:=(r1.set (Int.toNat i) d),Openings:=c.Openings,Outcome:=c.Outcome }:Clearing)).bind fun r2=>
 if r2 then
(.ok (({ No:=c.No,Phase:=2,Slots:=c.Slots,Owners:=c.Owners,Flights:=c.Flights,Commitments:=(r1.set (Int.toNat i) d),Openings:=c.Openings,Outcome:=c.Outcome }:Clearing),0))
else
(.ok (({ No:=c.No,Phase:=c.Phase,Slots:=c.Slots,Owners:=c.Owners,Flights:=c.Flights,Commitments:=(r1.set (Int.toNat i) d),Openings:=c.Openings,Outcome:=c.Outcome }:Clearing),0)))
else
(.ok (({ No:=0,Phase:=0,Slots:=0,Owners:=[],Flights:=[],Commitments:=[],Openings:=[],Outcome:=[] }:Clearing),400)))))
theorem Zv (c:Clearing)(airline:Int)(d:(Vector Int 32)):Le (Tf c airline d) (En c airline d):=by
 unfold Tf En
 with_reducible repeat' first | exact Le.refl _ | exact Px .. | exact M9 .. | apply Bu | apply Cv | intro _
def N8 (l:(List (Vector Int 32))):R (List (Vector Int 32)):=
 (Pu 80 (Sk fun i j s=>Hq i j s) (0,(IntKind.wrap .i64 ((l.length:Int) - 1)),l)).bind (fun l1=>Hs l1)
theorem X8 (l:(List (Vector Int 32))):Le (N8 l) (Hd l):=by
 unfold N8 Hd
 with_reducible repeat' first | exact Le.refl _ | apply Bu | apply Kh | apply Tb | intro _
def Vg (l1:(List (Vector Int 32)))(vat1:Int)(p:(List (Vector Int 32))):R (((List (Vector Int 32))×Int×(List (Vector Int 32))) ⊕ (List (Vector Int 32))):=
 if(l1.length:Int) > 1 then
((Gw (l1.length:Int)).bind fun n=>
 if vat1<n then
(if(0:Int)≤n∧n≤(l1.length:Int) then
 if(0:Int)≤n∧n≤(l1.length:Int) then
 (Qz (l1.drop (Int.toNat n))).bind fun r=>
 if(p.length+[r].length) * 32≤Cm then
 .ok (.inl ((l1.take (Int.toNat n)),vat1,(p++[r]))) else .bad else .bad else .bad)
else
(if(0:Int)≤n∧n≤(l1.length:Int) then
 if(0:Int)≤n∧n≤(l1.length:Int) then
 (Qz (l1.take (Int.toNat n))).bind fun r1=>
 if(p.length+[r1].length) * 32≤Cm then
 .ok (.inl ((l1.drop (Int.toNat n)),(IntKind.wrap .i64 (vat1 - n)),(p++[r1]))) else .bad else .bad else .bad))
else
(.ok (.inr (p)))
theorem Af3 (l1:(List (Vector Int 32)))(vat1:Int)(p:(List (Vector Int 32))):Le (Vg l1 vat1 p) (N3 l1 vat1 p):=by
 unfold Vg N3
 with_reducible repeat' first | exact Le.refl _ | exact Wr .. | apply Bu | apply Cv | intro _
def Vn (p1:(List (Vector Int 32))):R ((List (Vector Int 32))×Int):=
 (N8 p1).bind fun r2=>
 .ok (r2,0)
theorem Af7 (p1:(List (Vector Int 32))):Le (Vn p1) (N0 p1):=by
 unfold Vn N0
 with_reducible repeat' first | exact Le.refl _ | exact X8 .. | apply Bu | intro _
def Vj (l:(List (Vector Int 32)))(vat:Int):R ((List (Vector Int 32))×Int):=
 if((decide (vat<0))||(decide (vat≥(l.length:Int)))) then
(.ok ([],1))
else
((Pu 80 (Sk fun l1 vat1 p=>Vg l1 vat1 p) (l,vat,[])).bind (fun p1=>Vn p1))
theorem Aj7 (l:(List (Vector Int 32)))(vat:Int):Le (Vj l vat) (Nx l vat):=by
 unfold Vj Nx
 with_reducible repeat' first | exact Le.refl _ | exact Af7 .. | exact Af3 .. | apply Bu | apply Kh | apply Cv | apply Tb | intro _
def Uq (l:List Table)(vat:Int)(slot:Int):R (Opening×Int):=
 (L9 l).bind fun r=>
 (if((((!r)||(decide (vat<0)))||(decide (vat≥(l.length:Int))))||(decide (slot<0))) then R.ok true else(idx l 0).bind fun a=>
 R.ok (decide (slot≥(a.Costs.length:Int)))).bind (fun(b:Bool)=>if b then
(.ok (({ Airline:=0,Flight:=0,Slot:=0,Cost:=0,Salt:=(B3 32 0),Path:=[] }:Opening),360))
else
((idx l vat).bind fun a1=>
 (Po a1).bind fun r1=>
 (Vj r1 slot).bind fun r2=>
 (Ol l).bind fun r3=>
 (Vj r3 vat).bind fun r4=>
 (idx a1.Costs slot).bind fun a2=>
 (I3 [r2.1,r4.1]).bind fun r5=>
 .ok (({ Airline:=a1.Airline,Flight:=a1.Flight,Slot:=slot,Cost:=a2,Salt:=a1.Salt,Path:=r5 }:Opening),0)))
theorem Aez (l:List Table)(vat:Int)(slot:Int):Le (Uq l vat slot) (Pv l vat slot):=by
 unfold Uq Pv
 with_reducible repeat' first | exact Le.refl _ | exact U6 .. | exact Aj7 .. | exact Vq .. | apply Bu | apply Cv | intro _
def H7 (a:List Opening)(target:Opening):R (Int×Bool):=
 (Pu 80 (D0 fun i j=>C6 a target i j) (0,(a.length:Int))).bind (fun i1=>Dj a target i1)
theorem Rl (a:List Opening)(target:Opening):Le (H7 a target) (Dc a target):=by
 unfold H7 Dc
 with_reducible repeat' first | exact Le.refl _ | apply Bu | apply Kh | apply Pk | intro _
def Kq (l:List Opening)(b:Opening):R (Int×Bool×(List Opening)):=
 (H7 l b).bind fun r=>
 if r.2 then
(.ok (r.1,true,l))
else
((Ky l).bind fun r1=>
 (Oi r.1 r1 [b]).bind fun y=>
 Hi r y)
theorem Up (l:List Opening)(b:Opening):Le (Kq l b) (Fb l b):=by
 unfold Kq Fb
 with_reducible repeat' first | exact Le.refl _ | exact Rl .. | apply Bu | apply Cv | intro _
def Vx (c:Clearing)(o:Opening):R (Clearing×Int):=
 (Lc c).bind fun e=>
 if(e != 0) then
(.ok (({ No:=0,Phase:=0,Slots:=0,Owners:=[],Flights:=[],Commitments:=[],Openings:=[],Outcome:=[] }:Clearing),e))
else
(if(c.Phase==1) then
(.ok (({ No:=0,Phase:=0,Slots:=0,Owners:=[],Flights:=[],Commitments:=[],Openings:=[],Outcome:=[] }:Clearing),401))
else
((Pm c o).bind fun e1=>
 if(e1 != 0) then
(.ok (({ No:=0,Phase:=0,Slots:=0,Owners:=[],Flights:=[],Commitments:=[],Openings:=[],Outcome:=[] }:Clearing),e1))
else
((Kq c.Openings o).bind fun r=>
 if r.2.1 then
((idx c.Openings r.1).bind fun a=>
 (R9 a o).bind fun r1=>
 Kg c r (!r1))
else
(Kg c r false))))
theorem Abj (c:Clearing)(o:Opening):Le (Vx c o) (Ix c o):=by
 unfold Vx Ix
 with_reducible repeat' first | exact Le.refl _ | exact Yn .. | exact Up .. | exact M9 .. | apply Bu | apply Cv | intro _
def Ua (i:Int)(o:Clearing)(o1:Table):R ((Int×Int×Clearing) ⊕ ((Int×Clearing) ⊕ (Clearing×Bool))):=
 if i≤2 then
((S8 [o1]).bind fun r1=>
 if(r1.2 != 0) then
(.ok (.inr (.inr ((o,false)))))
else
((Tf o o1.Airline r1.1).bind fun r2=>
 .ok (.inl (r2.2,(IntKind.wrap .i64 (i+1)),r2.1))))
else
((Uq [o1] 0 (IntKind.wrap .i64 (Int.tdiv (IntKind.wrap .i64 (i - 3)) 2))).bind fun r3=>
 if(r3.2 != 0) then
(.ok (.inr (.inr ((o,false)))))
else
((Vx o r3.1).bind fun r4=>
 .ok (.inl (r4.2,(IntKind.wrap .i64 (i+1)),r4.1))))
theorem Ai7 (i:Int)(o:Clearing)(o1:Table):Le (Ua i o o1) (Qo i o o1):=by
 unfold Ua Qo
 with_reducible repeat' first | exact Le.refl _ | exact Zv .. | exact Abj .. | exact Aez .. | exact Ada .. | apply Bu | apply Cv | intro _
def Ya (steps:Int)(e:Int)(i:Int)(o:Clearing):R ((Int×Int×Clearing) ⊕ ((Int×Clearing) ⊕ (Clearing×Bool))):=
 if((decide (i≤steps))&&(e==0)) then
(if((Int.tmod i 2)==0) then
(Ua i o ({ Airline:=3,Flight:=9,Costs:=[2,6],Salt:=(B3 32 0) }:Table))
else
(Ua i o ({ Airline:=0,Flight:=5,Costs:=[4,1],Salt:=(B3 32 0) }:Table)))
else
(.ok (.inr (.inl ((e,o)))))
theorem Ahz (steps:Int)(e:Int)(i:Int)(o:Clearing):Le (Ya steps e i o) (Qq steps e i o):=by
 unfold Ya Qq
 with_reducible repeat' first | exact Le.refl _ | exact Ai7 .. | apply Bu | apply Cv | intro _
def Yt (steps:Int):R (Clearing×Bool):=
 (Xk 1 2 [0,3] [5,9]).bind fun r=>
 (Pu 80 (Sk fun e i o=>Ya steps e i o) (r.2,1,r.1)).bind (alt (D0 fun e1 o2=>Td e1 o2) (fun r=>.ok r))
theorem Anb (steps:Int):Le (Yt steps) (U8 steps):=by
 unfold Yt U8
 with_reducible repeat' first | exact Le.refl _ | exact Ahz .. | exact Adi .. | apply Bu | apply Kh | apply Kv | apply Pk | apply Tb | intro _
def Ue (c:Clearing):R (Round×Int):=
 (Lc c).bind fun e=>
 if(e != 0) then
(.ok (({ Slots:=0,Owners:=[],Costs:=[] }:Round),e))
else
((Rb c).bind fun r=>
 if r.2 then
(.ok (r.1,0))
else
(.ok (({ Slots:=0,Owners:=[],Costs:=[] }:Round),401)))
theorem Aac (c:Clearing):Le (Ue c) (Mr c):=by
 unfold Ue Mr
 with_reducible repeat' first | exact Le.refl _ | exact Xt .. | exact M9 .. | apply Bu | apply Cv | intro _
def Uf (c:Clearing):R (Clearing×Int):=
 (Ue c).bind fun r=>
 if(r.2 != 0) then
(.ok (({ No:=0,Phase:=0,Slots:=0,Owners:=[],Flights:=[],Commitments:=[],Openings:=[],Outcome:=[] }:Clearing),r.2))
else
(if(c.Phase==2) then
((Ud r.1).bind fun r1=>
 .ok (({ No:=c.No,Phase:=r1.2,Slots:=c.Slots,Owners:=c.Owners,Flights:=c.Flights,Commitments:=c.Commitments,Openings:=c.Openings,Outcome:=r1.1 }:Clearing),0))
else
(.ok (c,0)))
theorem Aik (c:Clearing):Le (Uf c) (Jn c):=by
 unfold Uf Jn
 with_reducible repeat' first | exact Le.refl _ | exact Aac .. | exact Aal .. | apply Bu | apply Cv | intro _
def Zy (c:Clearing)(l:Leases):R Bool:=
 (Xh l).bind fun r=>
 if(r != 0) then
(.ok false)
else
((Pu 80 (fun x=>Qv c l x) 0).bind (alt (fun _=>Qp) (fun r=>.ok r)))
theorem Ajy (c:Clearing)(l:Leases):Le (Zy c l) (T2 c l):=by
 unfold Zy T2
 with_reducible repeat' first | exact Le.refl _ | apply Bu | apply Kh | apply Cv | apply Kv | intro _
def Rc (c:Clearing)(l:Leases):R ((List Command)×Int):=
 (Lc c).bind fun e=>
 if(e != 0) then
(.ok ([],e))
else
(if((c.Phase != 3)&&(c.Phase != 4)) then
(.ok ([],401))
else
((Zy c l).bind fun r=>
 if r then
((eachS (fun j a=>fun x1=>Mm c l j a x1) 0 c.Outcome []).bind ((fun x1=>.ok (x1,0))))
else
(.ok ([],400))))
theorem Aem (c:Clearing)(l:Leases):Le (Rc c l) (M4 c l):=by
 unfold Rc M4
 with_reducible repeat' first | exact Le.refl _ | exact Ajy .. | exact M9 .. | apply Bu | apply Cv | apply Il | intro _
def Agc:R Bool:=
 (Xk 1 2 [0,1,2] [0,1,2]).bind fun r=>
 (Yt 0).bind fun r1=>
 (Tf r1.1 1 (#v[1,0,0,0,0,0,0,0,0,0,0,0,0,0,0,0,0,0,0,0,0,0,0,0,0,0,0,0,0,0,0,0]:(Vector Int 32))).bind fun r2=>
 (Uf r1.1).bind fun r3=>
 (Rc r1.1 ({ Token:=0,List:=[] }:Leases)).bind fun r4=>
 (Vx r1.1 ({ Airline:=0,Flight:=0,Slot:=0,Cost:=0,Salt:=(B3 32 0),Path:=[] }:Opening)).bind fun r5=>
 (Yt 6).bind fun r6=>
 (Ue r6.1).bind fun r7=>
 (Uf r6.1).bind fun r8=>
 (Rc r8.1 ({ Token:=2,List:=[({ Slot:=0,Airline:=0,Flight:=5,Token:=1,Used:=false }:Lease),({ Slot:=1,Airline:=3,Flight:=9,Token:=2,Used:=false }:Lease)] }:Leases)).bind fun r9=>
 (if(((((((((((((r.2 != 400)||(!r1.2))||(!r6.2))||(r2.2 != 400))||(r3.2 != 401))||(r4.2 != 401))||(r5.2 != 401))||(r7.2 != 0))||(r8.2 != 0))||(r9.2 != 0))||(r1.1.Phase != 1))||(r6.1.Phase != 2))||(r8.1.Phase != 3)) then R.ok true else(Lc r8.1).bind fun r10=>
 R.ok (r10 != 0)).bind (fun(b:Bool)=>if b then
(.ok false)
else
((Pf r7.1 ({ Slots:=2,Owners:=[0,3],Costs:=[[4,1],[2,6]] }:Round)).bind fun r11=>
 (if r11 then(Eb r8.1.Outcome [1,0]).bind fun r12=>
 R.ok r12 else R.ok false).bind (fun(b1:Bool)=>(if b1 then(Ki r9.1 [({ Kind:=2,Slot:=1,Airline:=0,Flight:=5,Token:=2 }:Command),({ Kind:=2,Slot:=0,Airline:=3,Flight:=9,Token:=1 }:Command)]).bind fun r13=>
 R.ok r13 else R.ok false).bind (fun(b2:Bool)=>.ok b2))))
theorem Aky:Le (Agc ) (Rh ):=by
 unfold Agc Rh
 with_reducible repeat' first | exact Le.refl _ | exact Zv .. | exact Anb .. | exact Adi .. | exact Aac .. | exact Abj .. | exact Aik .. | exact M9 .. | exact Aem .. | apply Bu | apply Cv | intro _
end Go.Am
namespace Go.Am
open Go
set_option maxRecDepth 100000
theorem law40_sane_ok:Rh=.ok true:=Qh Aky (by kernel_rfl)
end Go.Am
