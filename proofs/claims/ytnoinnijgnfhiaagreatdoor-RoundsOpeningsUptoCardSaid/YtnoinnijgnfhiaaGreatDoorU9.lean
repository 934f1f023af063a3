/- Written by shrink.py from texts of ours: comments struck, what is not reached left out, names short. -/
import Derived.Test.YtnoinnijgnfhiaaGreatDoorU4
import Derived.Test.YtnoinnijgnfhiaaGreatDoorU7
import Derived.KernelRfl
namespace Go.Am
open Go
set_option linter.unusedVariables false
set_option linter.unusedSectionVars false
set_option linter.unusedSimpArgs false
theorem Y5 {α σ:Type}(b:Nat→α→σ→R σ)(k:Nat)(s:σ):eachS b k [] s=.ok s:=rfl
theorem P4 {α σ:Type}(b:Nat→α→σ→R σ)(k:Nat)(a:α)(l:List α)(s:σ):eachS b k (a::l) s=(b k a s).bind fun s'=>eachS b (k+1) l s':=by
 rw [eachS]
theorem Av5 {n:Int}(h1 : -9223372036854775808≤n)(h2:n≤9223372036854775807):IntKind.wrap .i64 n=n:=by
 simp [IntKind.wrap,IntKind.bits,IntKind.signed]
 omega
section
variable {K V:Type} [DecidableEq K]
@[simp] theorem Ayk (k:K):E7 ([]:List (K×V)) k=none:=rfl
theorem Xt (p:K×V)(m:List (K×V))(k:K):E7 (p::m) k=if p.1=k then some p.2 else E7 m k:=by
 unfold E7
 rw [List.find?_cons]
 by_cases h:p.1=k
 ·simp [h]
 ·rw [if_neg h,show(p.1==k)=false by simpa using h]
theorem Aq8 (m:List (K×V))(k k':K)(v:V):E7 (L9 m k v) k'=if k=k' then some v else E7 m k':=by
 induction m with
 | nil=>rw [L9,Xt]
 | cons p m ih=>
  rw [L9]
  by_cases h:p.1=k
  ·rw [if_pos (by simpa using h),Xt,Xt]
   subst h
   by_cases h':p.1=k' <;> simp [h']
  ·rw [if_neg (by simpa using h),Xt,Xt,ih]
   by_cases h':p.1=k'
   ·subst h'
    rw [if_pos rfl,if_neg (fun e=>h e.symm),if_pos rfl]
   ·rw [if_neg h',if_neg h']
end
theorem Ako {α β:Type}{b:Nat→α→List β→R (List β)}{g:α→β}{c:Nat}(hb : ∀ j a s,b j a s=if(s.length+1) * c≤Ci then .ok (s++[g a]) else .bad) :
  ∀ (l:List α) (k:Nat) (s:List β),(s.length+l.length) * c≤Ci→eachS b k l s=.ok (s++l.map g)
 | [],k,s,_=>by simp [Y5]
 | a::l,k,s,h=>by
  have h1:(s.length+1) * c≤Ci:=Nat.le_trans (Nat.mul_le_mul_right _ (by simp)) h
  rw [P4,hb,if_pos h1,R.ok_bind,Ako hb l (k+1) (s++[g a]) (by simpa [Nat.add_assoc,Nat.add_comm 1] using h)]
  simp
theorem Qq {α:Type}{l:List α}{j:Nat}{a:α}(h:l[j]? = some a):idx l (j:Int)=.ok a:=by
 unfold idx
 rw [if_pos (by omega)]
 simp [h]
abbrev Awd:=List UInt8
def pos (l:List Awd)(x:Awd):Option Nat:=l.findIdx? (· == x)
end Go.Am
namespace Go.Am
open Go
set_option linter.unusedVariables false
set_option linter.unusedSimpArgs false
def Au {α:Type}(m:R α)(P:α→Prop):Prop := ∃ a,m=.ok a∧P a
section
variable {α β σ ε:Type}
theorem Au.ok {a:α}{P:α→Prop}(h:P a):Au (.ok a) P:=⟨a,rfl,h⟩
theorem Au.of {m:R α}{a:α}{P:α→Prop}(e:m=.ok a)(h:P a):Au m P:=⟨a,e,h⟩
theorem Au.bind {m:R α}{f:α→R β}{P:α→Prop}{Q:β→Prop}(h:Au m P)(k : ∀ a,P a→Au (f a) Q):Au (m.bind f) Q:=by
 obtain⟨a,rfl,ha⟩:=h
 exact k a ha
theorem Au.mono {m:R α}{P Q:α→Prop}(h:Au m P)(k : ∀ a,P a→Q a):Au m Q:=by
 obtain⟨a,e,ha⟩:=h
 exact⟨a,e,k a ha⟩
theorem Au.eq {m:R α}{a:α}(h:Au m fun x=>x=a):m=.ok a:=by
 obtain⟨x,e,rfl⟩:=h
 exact e
theorem Au.np {m:R α}{P:α→Prop}(h:Au m P):Au m.np P:=by
 obtain⟨a,rfl,ha⟩:=h
 exact⟨a,rfl,ha⟩
theorem Au.ite {c:Prop}[Decidable c]{a b:R α}{P:α→Prop}(h1:c→Au a P)(h2:¬c→Au b P):Au (if c then a else b) P:=by
 by_cases hc:c
 ·rw [if_pos hc]; exact h1 hc
 ·rw [if_neg hc]; exact h2 hc
theorem Au.pos {c:Prop}[Decidable c]{a b:R α}{P:α→Prop}(hc:c)(h:Au a P):Au (if c then a else b) P:=by rw [if_pos hc]; exact h
theorem Au.neg {c:Prop}[Decidable c]{a b:R α}{P:α→Prop}(hc:¬c)(h:Au b P):Au (if c then a else b) P:=by rw [if_neg hc]; exact h
theorem Au.idx {l:List α}{n:Int}{P:α→Prop}(h0:0≤n)(h1:n<(l.length:Int))(h : ∀ a,l[n.toNat]? = some a→P a):Au (idx l n) P:=by
 have hl:n.toNat<l.length:=by omega
 refine⟨l[n.toNat],?_,h _ (List.getElem?_eq_getElem hl)⟩
 unfold Am.idx
 rw [if_pos h0,List.getElem?_eq_getElem hl]
theorem Au.eachS {b:Nat→α→σ→R σ}{I:Nat→σ→Prop} : ∀ (l:List α) (k:Nat) (s:σ),I k s→(∀ (j:Nat) a s,l[j]? = some a→I (k+j) s→Au (b (k+j) a s) (I (k+j+1)))→Au (eachS b k l s) (I (k+l.length))
 | [],k,s,h,_=>⟨s,rfl,h⟩
 | a::l,k,s,h,hb=>by
  rw [P4]
  refine(hb 0 a s rfl h).bind fun s' h'=>?_
  have:=Au.eachS l (k+1) s' h' (fun j a' s hj hi=>by
   have:=hb (j+1) a' s hj (by rwa [Nat.add_assoc,Nat.add_comm 1] at hi)
   rwa [show k+(j+1)=k+1+j by omega] at this)
  rwa [show k+1+l.length=k+(a::l).length by simp; omega] at this
def Za (I:Nat→σ→Prop)(E:ε→Prop)(n:Nat):σ ⊕ ε→Prop
 | .inl s=>I n s
 | .inr e=>E e
theorem Au.each {b:Nat→α→σ→R (σ ⊕ ε)}{I:Nat→σ→Prop}{E:ε→Prop} : ∀ (l:List α) (k:Nat) (s:σ),I k s→(∀ (j:Nat) a s,l[j]? = some a→I (k+j) s→Au (b (k+j) a s) (Za I E (k+j+1)))→Au (each b k l s) (Za I E (k+l.length))
 | [],k,s,h,_=>⟨.inl s,rfl,h⟩
 | a::l,k,s,h,hb=>by
  rw [Q8]
  refine(hb 0 a s rfl h).bind fun x h'=>?_
  cases x with
  | inr e=>exact⟨_,rfl,h'⟩
  | inl s'=>
   have:=Au.each l (k+1) s' h' (fun j a' s hj hi=>by
    have:=hb (j+1) a' s hj (by rwa [Nat.add_assoc,Nat.add_comm 1] at hi)
    rwa [show k+(j+1)=k+1+j by omega] at this)
   rwa [show k+1+l.length=k+(a::l).length by simp; omega] at this
theorem Au.alt {f:α→R σ}{g:β→R σ}{x:α ⊕ β}{P:α ⊕ β→Prop}{Q:σ→Prop}(hx:P x)(h1 : ∀ a,P (.inl a)→Au (f a) Q)(h2 : ∀ b,P (.inr b)→Au (g b) Q):Au (alt f g x) Q:=by
 cases x with
 | inl a=>exact h1 a hx
 | inr b=>exact h2 b hx
theorem Au.loop {b:σ→R (σ ⊕ ε)}{I:σ→Prop}{E:ε→Prop}(μ:σ→Nat)(hb : ∀ s,I s→Au (b s) fun x=>match x with | .inl s'=>I s'∧μ s'<μ s | .inr e=>E e) : ∀ (n:Nat) (s:σ),μ s≤n→I s→Au (loop b s) E
 | n,s,hn,hs=>by
  rw [Aov]
  obtain⟨x,e,hx⟩:=hb s hs
  rw [e]
  cases x with
  | inr y=>exact⟨y,rfl,hx⟩
  | inl s'=>
   cases n with
   | zero=>exact absurd hx.2 (by omega)
   | succ n=>exact Au.loop μ hb n s' (by have:=hx.2; omega) hx.1
end
theorem Ma {n:Int}(h1 : -9223372036854775808≤n)(h2:n≤9223372036854775807):IntKind.wrap .i64 n=n:=Av5 h1 h2
def Gj {α:Type}[BEq α](l:List α)(v:α):Int:=match l.findIdx? (v == ·) with
 | some i=>(i:Int)
 | none => -1
theorem Aox {α:Type}{b:Nat→α→Unit→R (Unit ⊕ Int)}{p:α→Bool}(hb : ∀ j a,b j a ()=if p a then .ok (.inr (j:Int)) else .ok (.inl ())) : ∀ (l:List α) (k:Nat),
  each b k l ()=match l.findIdx? p with | some i=>.ok (.inr ((k+i:Nat):Int)) | none=>.ok (.inl ())
 | [],k=>rfl
 | a::l,k=>by
  rw [Q8,hb,List.findIdx?_cons]
  by_cases h:p a=true
  ·rw [if_pos h,if_pos h]; rfl
  ·rw [if_neg h,if_neg h]
   show each b (k+1) l ()=_
   rw [Aox hb l (k+1)]
   cases l.findIdx? p with
   | none=>rfl
   | some i=>simp only [Option.map_some]; congr 2; rw [show k+1+i=k+(i+1) by omega]
theorem Awo {α:Type}[BEq α]{b:Nat→α→Unit→R (Unit ⊕ Int)}{v:α}(hb : ∀ j a,b j a ()=if(v==a)=true then .ok (.inr (j:Int)) else .ok (.inl ()))(l:List α) :
  (each b 0 l ()).bind (alt (fun _=>R.ok (-1)) (fun r=>.ok r))=.ok (Gj l v):=by
 rw [Aox hb]
 unfold Gj
 cases l.findIdx? (v == ·) with
 | none=>rfl
 | some i=>simp [R.bind]
theorem Aaz (s:List (Vector Int 32))(v:Vector Int 32):Ou s v=.ok (Gj s v):=Awo (fun j a=>rfl) s
theorem Sh (s:List Int)(v:Int):Gt s v=.ok (Gj s v):=Awo (fun j a=>rfl) s
theorem Nf {α:Type}[BEq α][LawfulBEq α]{l:List α}{v:α}:(0≤Gj l v)↔v ∈ l:=by
 unfold Gj
 cases h:l.findIdx? (v == ·) with
 | none=>
  rw [List.findIdx?_eq_none_iff] at h
  constructor
  ·intro h'; simp at h'
  ·intro hm; have:=h v hm; simp at this
 | some i=>
  rw [List.findIdx?_eq_some_iff_getElem] at h
  obtain⟨hi,h1,_⟩:=h
  constructor
  ·intro _; rw [show v=l[i] by simpa using h1]; exact List.getElem_mem hi
  ·intro _; exact Int.natCast_nonneg _
theorem Ul {α:Type}[BEq α][LawfulBEq α]{l:List α}{v:α}(h:0≤Gj l v):l[(Gj l v).toNat]? = some v:=by
 unfold Gj at h ⊢
 cases hf:l.findIdx? (v == ·) with
 | none=>rw [hf] at h; simp at h
 | some i=>
  rw [List.findIdx?_eq_some_iff_getElem] at hf
  obtain⟨hi,h1,_⟩:=hf
  simp only [Int.toNat_natCast]
  rw [List.getElem?_eq_getElem hi]
  simpa using (show v=l[i] by simpa using h1).symm
theorem Aje {α:Type}[BEq α][LawfulBEq α]{l:List α}{v:α}:Gj l v<(l.length:Int):=by
 unfold Gj
 cases hf:l.findIdx? (v == ·) with
 | none=>simp only; omega
 | some i=>
  rw [List.findIdx?_eq_some_iff_getElem] at hf
  obtain⟨hi,_⟩:=hf
  simp only; omega
theorem Ze (s:List (Vector Int 32))(v:Vector Int 32):Jt s v=.ok (decide (v ∈ s)):=by
 unfold Jt
 rw [Aaz]
 show R.ok (decide (Gj s v≥0))=_
 congr 1
 exact decide_eq_decide.2 Nf
theorem Mj (s:List Int)(v:Int):Eo s v=.ok (decide (v ∈ s)):=by
 unfold Eo
 rw [Sh]
 show R.ok (decide (Gj s v≥0))=_
 congr 1
 exact decide_eq_decide.2 Nf
def zD:Vector Int 32:=B5 32 0
theorem Awg:(#v[0,0,0,0,0,0,0,0,0,0,0,0,0,0,0,0,0,0,0,0,0,0,0,0,0,0,0,0,0,0,0,0]:Vector Int 32)=zD:=by decide
theorem Sd (c:Clearing):Fq c=.ok (!decide (zD ∈ c.Commitments)):=by
 unfold Fq
 rw [Ze,Awg]
 rfl
theorem S3 (a y:Int):Kz a y=.ok (if a<y then -1 else if a > y then 1 else 0):=by
 unfold Kz Rs
 have h1:(a != a)=false:=by simp
 have h2:(y != y)=false:=by simp
 simp only [h1,h2]
 show(if a<y then R.ok (-1:Int) else if a > y then .ok 1 else .ok 0)=_
 split
 ·rfl
 ·split <;> rfl
def Ae1 (a b:Opening):Int:=if a.Flight<b.Flight then -1 else if a.Flight > b.Flight then 1 else if a.Slot<b.Slot then -1 else if a.Slot > b.Slot then 1 else 0
theorem Vo (a b:Opening):Ms a b=.ok (Ae1 a b):=by
 unfold Ms
 rw [S3,S3]
 show(Vz _).bind _=_
 unfold Vz Ae1
 generalize (if a.Slot<b.Slot then(-1:Int) else if a.Slot > b.Slot then 1 else 0)=q
 by_cases h1:a.Flight<b.Flight
 ·simp only [if_pos h1]; rfl
 ·simp only [if_neg h1]
  by_cases h2:a.Flight > b.Flight
  ·simp only [if_pos h2]; rfl
  ·simp only [if_neg h2]
   have e0:Na 0=.ok (.inl ()):=rfl
   have e1:Na q=if q=0 then .ok (.inl ()) else .ok (.inr q):=by
    unfold Na
    by_cases hq:q=0
    ·subst hq; rfl
    ·rw [if_pos (by simpa using hq),if_neg hq]
   simp only [Q8,e0,e1,R.bind,Atz]
   by_cases hq:q=0
   ·subst hq; rfl
   ·rw [if_neg hq]
theorem Ach {a b:Opening}:Ae1 a b<0↔a.Flight<b.Flight∨(a.Flight=b.Flight∧a.Slot<b.Slot):=by
 unfold Ae1
 split
 ·simp_all
 ·split
  ·constructor
   ·intro h; omega
   ·intro h; omega
  ·split
   ·constructor
    ·intro _; right; omega
    ·intro _; omega
   ·split
    ·constructor <;> intro h <;> omega
    ·constructor <;> intro h <;> omega
theorem Aqr {a b:Opening}:Ae1 a b=0↔a.Flight=b.Flight∧a.Slot=b.Slot:=by
 unfold Ae1
 split
 ·constructor <;> intro h <;> omega
 ·split
  ·constructor <;> intro h <;> omega
  ·split
   ·constructor <;> intro h <;> omega
   ·split
    ·constructor <;> intro h <;> omega
    ·constructor <;> intro h <;> omega
theorem Adu (a f:Int):J0 a f=.ok (decide (0≤a∧a<8∧0≤f∧f≤4095)):=by
 unfold J0
 congr 1
 rw [Bool.eq_iff_iff]
 simp only [Bool.and_eq_true,decide_eq_true_eq]
 constructor
 ·intro h; omega
 ·intro h; omega
theorem Aex (c:Int):Jk c=.ok (decide (-1≤c∧c≤1048576)):=by
 unfold Jk
 congr 1
 rw [Bool.eq_iff_iff]
 simp only [Bool.and_eq_true,decide_eq_true_eq]
end Go.Am
namespace Go.Am
open Go
set_option linter.unusedVariables false
set_option linter.unusedSimpArgs false
theorem Aqc {L:List Int}{x:Int}:x ∈ Pe L↔x ∈ L:=List.mem_mergeSort
theorem Aqg (L:List Int):(Pe L).Pairwise (· ≤ ·):=by
 have:=List.pairwise_mergeSort (le:=fun x y:Int=>decide (x≤y)) (fun a b c h1 h2=>by simp at *; omega) (fun a b=>by simp; omega) L
 exact this.imp fun h=>by simpa using h
theorem Ao2 : ∀ {l1 l2:List Int},l1.Pairwise (· < ·)→l2.Pairwise (· < ·)→(∀ x,x ∈ l1↔x ∈ l2)→l1=l2
 | [],[],_,_,_=>rfl
 | [],b::l2,_,_,h=>absurd ((h b).2 (List.mem_cons_self ..)) (by simp)
 | a::l1,[],_,_,h=>absurd ((h a).1 (List.mem_cons_self ..)) (by simp)
 | a::l1,b::l2,h1,h2,h=>by
  have k1:=List.pairwise_cons.1 h1
  have k2:=List.pairwise_cons.1 h2
  have hab:a=b:=by
   rcases List.mem_cons.1 ((h a).1 (List.mem_cons_self ..)) with e | e
   ·exact e
   ·rcases List.mem_cons.1 ((h b).2 (List.mem_cons_self ..)) with e' | e'
    ·exact e'.symm
    ·have:=k2.1 a e; have:=k1.1 b e'; omega
  subst hab
  rw [Ao2 k1.2 k2.2 fun x=>?_]
  constructor
  ·intro hx
   rcases List.mem_cons.1 ((h x).1 (List.mem_cons_of_mem _ hx)) with e | e
   ·have:=k1.1 x hx; omega
   ·exact e
  ·intro hx
   rcases List.mem_cons.1 ((h x).2 (List.mem_cons_of_mem _ hx)) with e | e
   ·have:=k2.1 x hx; omega
   ·exact e
def inA (a:Int):Prop:=0≤a∧a<8
instance (a:Int):Decidable (inA a):=by unfold inA; exact inferInstance
def T0 (owners:List Int):List Int:=((List.range 8).map fun n:Nat=>(n:Int)).filter fun a=>decide (a ∈ owners)
theorem Ahn {owners:List Int}{a:Int}:a ∈ T0 owners↔inA a∧a ∈ owners:=by
 unfold T0 inA
 rw [List.mem_filter,List.mem_map]
 constructor
 ·rintro⟨⟨n,hn,rfl⟩,h⟩
  have:=List.mem_range.1 hn
  exact⟨by omega,by simpa using h⟩
 ·rintro⟨h1,h2⟩
  exact⟨⟨a.toNat,List.mem_range.2 (by omega),by omega⟩,by simpa using h2⟩
theorem Aok (owners:List Int):(T0 owners).Pairwise (· < ·):=by
 unfold T0
 refine List.Pairwise.filter _ ?_
 decide
theorem Atg (owners:List Int):(T0 owners).length≤8:=by
 unfold T0
 refine Nat.le_trans (List.length_filter_le _ _) ?_
 simp
def many (owners:List Int)(a:Int):Int:=(owners.count a:Int)
theorem Aip (owners:List Int)(hl:owners.length≤1048576):Au (Fi owners) fun r=>r.1=T0 owners ∧ ∀ a,Option.getD (E7 r.2 a) 0=if inA a then many owners a else 0:=by
 unfold Fi
 refine Au.bind (P:=fun s=>(∀ a,Option.getD (E7 s.1 a) 0=if inA a then many owners a else 0)∧s.2.Nodup∧(∀ a,a ∈ s.2↔inA a∧a ∈ owners)∧s.2.length≤owners.length) ?_ ?_
 ·have:=Au.eachS (b:=fun _ a=>Do fun m airlines=>G6 a m airlines) (I:=fun n s=>(∀ a,Option.getD (E7 s.1 a) 0=if inA a then many (owners.take n) a else 0)∧s.2.Nodup∧(∀ a,a ∈ s.2↔inA a∧a ∈ owners.take n)∧s.2.length≤n) owners 0 ([],[]) ?_ ?_
  ·refine this.mono fun s h=>?_
   simpa using h
  ·refine⟨fun a=>by simp [many],by simp,fun a=>by simp,by simp⟩
  ·rintro j a ⟨m,l⟩ hj ⟨h1,h2,h3,h4⟩
   simp only [Nat.zero_add] at h1 h3 h4 ⊢
   have hjl:j<owners.length:=A8 hj
   have htk:owners.take (j+1)=owners.take j++[a]:=by rw [List.take_add_one,hj]; rfl
   have hcnt : ∀ x,many (owners.take (j+1)) x=many (owners.take j) x+if a=x then 1 else 0:=fun x=>by
    unfold many
    rw [htk,List.count_append]
    by_cases hx:a=x
    ·subst hx; simp
    ·rw [if_neg hx,List.count_singleton,if_neg (by simpa using hx)]; simp
   show Au (G6 a m l) _
   unfold G6
   by_cases ha:inA a
   case neg=>
    rw [if_pos (by simp only [Bool.or_eq_true,decide_eq_true_eq]; unfold inA at ha; omega)]
    refine Au.ok ⟨fun x=>?_,h2,fun x=>?_,by simp only at h4 ⊢; omega⟩
    ·rw [h1 x]
     by_cases hx:inA x
     ·rw [if_pos hx,if_pos hx,hcnt,if_neg (fun e:a=x=>ha (by rw [e]; exact hx))]; simp
     ·rw [if_neg hx,if_neg hx]
    ·rw [h3 x,htk,List.mem_append,List.mem_singleton]
     constructor
     ·rintro⟨q1,q2⟩; exact⟨q1,.inl q2⟩
     ·rintro⟨q1,q2 | rfl⟩
      ·exact⟨q1,q2⟩
      ·exact absurd q1 ha
   rw [if_neg (by simp only [Bool.or_eq_true,decide_eq_true_eq]; unfold inA at ha; omega)]
   have hm:Option.getD (E7 m a) 0=many (owners.take j) a:=by rw [h1 a,if_pos ha]
   have hcb:0≤many (owners.take j) a∧many (owners.take j) a≤1048576:=by
    have:=List.count_le_length (a:=a) (l:=owners.take j)
    have h':=List.length_take_le j owners
    have h'':=List.length_take_le' j owners
    unfold many; omega
   have hw:IntKind.wrap .i64 (many (owners.take j) a+1)=many (owners.take j) a+1:=Ma (by omega) (by omega)
   have hput : ∀ x,Option.getD (E7 (L9 m a (IntKind.wrap .i64 (Option.getD (E7 m a) 0+1))) x) 0=if inA x then many (owners.take (j+1)) x else 0:=fun x=>by
    rw [Aq8,hm,hw]
    by_cases hx:a=x
    ·subst hx; rw [if_pos rfl,if_pos ha,hcnt,if_pos rfl]; rfl
    ·rw [if_neg hx,h1 x]
     by_cases hi:inA x
     ·rw [if_pos hi,if_pos hi,hcnt,if_neg hx]; simp
     ·rw [if_neg hi,if_neg hi]
   have hmem:(many (owners.take j) a=0)↔a ∉ owners.take j:=by
    unfold many
    rw [show((owners.take j).count a:Int)=0↔(owners.take j).count a=0 by omega,List.count_eq_zero]
   refine Au.ite (fun hz=>?_) (fun hz=>?_)
   ·rw [hm] at hz
    have hna:a ∉ owners.take j:=hmem.1 (by simpa using hz)
    refine Au.pos ?_ (Au.ok ⟨hput,?_,fun x=>?_,by simp only [List.length_append,List.length_singleton]; omega⟩)
    ·simp only [List.length_singleton,Ci]; omega
    ·rw [List.nodup_append]
     refine⟨h2,by simp,fun x hx y hy=>?_⟩
     obtain rfl:=List.mem_singleton.1 hy
     intro e; subst e
     exact hna ((h3 _).1 hx).2
    ·rw [List.mem_append,List.mem_singleton,h3 x,htk,List.mem_append,List.mem_singleton]
     constructor
     ·rintro(⟨q1,q2⟩ | rfl)
      ·exact⟨q1,.inl q2⟩
      ·exact⟨ha,.inr rfl⟩
     ·rintro⟨q1,q2 | rfl⟩
      ·exact .inl ⟨q1,q2⟩
      ·exact .inr rfl
   ·rw [hm] at hz
    have hya:a ∈ owners.take j:=by
     by_cases h:a ∈ owners.take j
     ·exact h
     ·exact absurd (hmem.2 h) (by simpa using hz)
    refine Au.ok ⟨hput,h2,fun x=>?_,by simp only at h4 ⊢; omega⟩
    rw [h3 x,htk,List.mem_append,List.mem_singleton]
    constructor
    ·rintro⟨q1,q2⟩; exact⟨q1,.inl q2⟩
    ·rintro⟨q1,q2 | rfl⟩
     ·exact⟨q1,q2⟩
     ·exact⟨q1,hya⟩
 ·rintro⟨m,l⟩ ⟨h1,h2,h3,h4⟩
  show Au ((L8 l).bind fun _=>R.ok ((Pe l),m)) _
  unfold L8 Wg
  rw [if_pos (by simp only at h4; unfold Ci; omega)]
  refine Au.ok ⟨?_,h1⟩
  have hperm:(Pe l).Perm l:=List.mergeSort_perm l _
  have hnd:(Pe l).Nodup:=hperm.nodup_iff.2 h2
  have hlt:(Pe l).Pairwise (· < ·):=by
   have h1:=Aqg l
   have h2:(Pe l).Pairwise (· ≠ ·):=hnd
   exact(h1.and h2).imp fun h=>by omega
  refine Ao2 hlt (Aok owners) fun x=>?_
  rw [Aqc,Ahn]
  exact h3 x
structure Formed (c:Clearing):Prop where
 no:1≤c.No∧c.No≤1048576
 slots:1≤c.Slots∧c.Slots≤8
 fl:1≤c.Flights.length∧(c.Flights.length:Int)≤c.Slots
 ow:c.Owners.length=c.Flights.length
 lt:c.Flights.Pairwise (· < ·)
 rng : ∀ f ∈ c.Flights,0≤f∧f≤4095
 own : ∀ a ∈ c.Owners,inA a
 com:c.Commitments.length=(T0 c.Owners).length
theorem Aqa (c:Clearing):Au (Ng c) fun r=>(r=true↔Formed c):=by
 unfold Ng
 refine Au.ite (fun h=>?_) (fun h=>?_)
 ·refine Au.ok ⟨fun e=>by simp at e,fun hF=>?_⟩
  simp only [Bool.or_eq_true,decide_eq_true_eq,bne_iff_ne,ne_eq] at h
  have h1:=hF.no; have h2:=hF.slots; have h3:=hF.fl; have h4:=hF.ow
  omega
 ·simp only [Bool.or_eq_true,decide_eq_true_eq,bne_iff_ne,ne_eq,not_or,Decidable.not_not] at h
  obtain⟨⟨⟨⟨⟨⟨n1,n2⟩,n3⟩,n4⟩,n5⟩,n6⟩,n7⟩:=h
  have hE:=Au.each (b:=fun j a=>fun last=>Jy c j a last) (I:=fun n last=>(c.Flights.take n).Pairwise (· < ·)∧(∀ f ∈ c.Flights.take n,0≤f∧f≤4095∧f≤last)∧(∀ a ∈ c.Owners.take n,inA a) ∧ -1≤last∧(last = -1 ∨ ∃ i,i<n∧c.Flights[i]? = some last))
   (E:=fun r:Bool=>r=false∧¬ Formed c) c.Flights 0 (-1) ⟨by simp,by simp,by simp,by omega,.inl rfl⟩ (fun j a last hj hI=>by
    simp only [Nat.zero_add] at hI ⊢
    obtain⟨p1,p2,p3,p4,p5⟩:=hI
    have hjl:j<c.Flights.length:=A8 hj
    obtain⟨w,hw⟩ : ∃ w,c.Owners[j]? = some w:=⟨_,List.getElem?_eq_getElem (by omega)⟩
    have ht1:c.Flights.take (j+1)=c.Flights.take j++[a]:=by rw [List.take_add_one,hj]; rfl
    have ht2:c.Owners.take (j+1)=c.Owners.take j++[w]:=by rw [List.take_add_one,hw]; rfl
    unfold Jy
    rw [Qq hw]
    by_cases q1:a≤last∨a > 4095
    ·rw [if_pos (by simpa using q1)]
     refine Au.ok ⟨rfl,fun hF=>?_⟩
     have hr:=hF.rng a (List.mem_of_getElem? hj)
     rcases q1 with q1 | q1
     ·rcases p5 with p5 | ⟨i,hi,hl⟩
      ·omega
      ·have hil:i<c.Flights.length:=A8 hl
       have:=List.pairwise_iff_getElem.1 hF.lt i j hil hjl hi
       rw [List.getElem?_eq_getElem hil] at hl
       rw [List.getElem?_eq_getElem hjl] at hj
       simp only [Option.some.injEq] at hl hj
       omega
     ·omega
    ·rw [if_neg (by simpa using q1)]
     simp only [R.bind]
     by_cases q2:w<0
     ·simp only [q2,decide_true,if_true]
      exact Au.ok ⟨rfl,fun hF=>by have:=hF.own w (List.mem_of_getElem? hw); unfold inA at this; omega⟩
     ·simp only [q2,decide_false,if_false,Bool.false_eq_true]
      by_cases q3:w≥8
      ·simp only [q3,decide_true,if_true]
       exact Au.ok ⟨rfl,fun hF=>by have:=hF.own w (List.mem_of_getElem? hw); unfold inA at this; omega⟩
      ·simp only [q3,decide_false,if_false,Bool.false_eq_true]
       refine Au.ok ⟨?_,?_,?_,by omega,.inr ⟨j,by omega,hj⟩⟩
       ·rw [ht1,List.pairwise_append]
        refine⟨p1,by simp,fun x hx y hy=>?_⟩
        obtain rfl:=List.mem_singleton.1 hy
        have:=(p2 x hx).2.2; omega
       ·intro f hf
        rw [ht1,List.mem_append,List.mem_singleton] at hf
        rcases hf with hf | rfl
        ·have:=p2 f hf; omega
        ·omega
       ·intro x hx
        rw [ht2,List.mem_append,List.mem_singleton] at hx
        rcases hx with hx | rfl
        ·exact p3 x hx
        ·unfold inA; omega)
  refine hE.bind fun x hx=>Au.alt hx (fun last hl=>?_) (fun r hr=>?_)
  ·simp only [Za,Nat.zero_add,List.take_length] at hl
   obtain⟨p1,p2,p3,_⟩:=hl
   have hol:c.Owners.length=c.Flights.length:=by omega
   rw [← hol,List.take_length] at p3
   refine(Aip c.Owners (by omega)).bind fun r hr=>Au.ok ?_
   rw [hr.1]
   constructor
   ·intro e
    have e':c.Commitments.length=(T0 c.Owners).length:=by have:=of_decide_eq_true e; omega
    exact⟨by omega,by omega,by omega,hol,p1,fun f hf=>⟨(p2 f hf).1,(p2 f hf).2.1⟩,p3,e'⟩
   ·intro hF
    rw [hF.com]; simp
  ·obtain⟨rfl,hn⟩:=hr
   exact Au.ok ⟨fun e=>by simp at e,fun hF=>absurd hF hn⟩
end Go.Am
namespace Go.Am
open Go
set_option linter.unusedVariables false
set_option linter.unusedSimpArgs false
abbrev Cq {α:Type}(m:R α):Prop:=Au m fun _=>True
theorem Cq.ok {α:Type}(a:α):Cq (.ok a):=⟨a,rfl,trivial⟩
theorem Cq.bind {α β:Type}{m:R α}{f:α→R β}{Q:β→Prop}(h:Cq m)(k : ∀ a,Au (f a) Q):Au (m.bind f) Q:=Au.bind h fun a _=>k a
theorem Au.tot {α:Type}{m:R α}{P:α→Prop}(h:Au m P):Cq m:=h.mono fun _ _=>trivial
theorem Cq.eachS {α σ:Type}{b:Nat→α→σ→R σ}(l:List α)(k:Nat)(s:σ)(hb : ∀ (j:Nat) a s,l[j]? = some a→Cq (b (k+j) a s)):Cq (eachS b k l s):=
 Au.eachS (I:=fun _ _=>True) l k s trivial fun j a s hj _=>hb j a s hj
noncomputable def R.val {α:Type}[Inhabited α]:R α→α
 | .ok a=>a
 | _=>default
theorem Cq.eq {α:Type}[Inhabited α]{m:R α}(h:Cq m):m=.ok m.val:=by
 obtain⟨a,rfl,_⟩:=h
 rfl
instance:Inhabited (Vector Int 32):=⟨B5 32 0⟩
theorem Afj (n:Int):0≤IntKind.wrap .u64 n:=by simp [IntKind.wrap,IntKind.bits,IntKind.signed]; omega
theorem Anp (a b:Int):0≤Ew .u64 a b:=Afj _
theorem W8 (a k:Int):Cq (Dq a k):=by
 unfold Dq
 rw [if_pos (Anp _ _),if_pos (Afj _)]
 exact Cq.ok _
theorem Agm (v a b c:Int):Cq (N3 v a b c):=by
 unfold N3
 exact(W8 _ _).bind fun _=>(W8 _ _).bind fun _=>(W8 _ _).bind fun _=>Cq.ok _
theorem Aty (b:List Int)(h:4≤b.length):Cq (T6 b):=by
 unfold T6
 rw [if_pos ⟨by decide,by omega⟩]
 exact(Cq.eachS _ _ _ fun j a s _=>Cq.ok _).bind fun _=>Cq.ok _
theorem Ah8 (b:List Int)(s:Vector Int 8)(h:b.length=64):Cq (Ep b s):=by
 unfold Ep
 refine Cq.bind (Cq.eachS _ _ _ fun j a o hj=>?_) fun o=>?_
 ·have hj':j<16:=by have:=A8 hj; simpa using this
  unfold H1
  simp only [Nat.zero_add]
  rw [Ma (by omega) (by omega),if_pos ⟨by omega,by omega⟩]
  refine Cq.bind (Aty _ (by rw [List.length_drop]; omega)) fun _=>Cq.ok _
 ·refine Cq.bind (Au.loop (I:=fun s:Int×Vector Int 64=>16≤s.1∧s.1≤64) (E:=fun _=>True) (fun s=>(64 - s.1).toNat) ?_ 64 (16,o) (by simp) ⟨Int.le_refl _,by show(16:Int)≤64; decide⟩) fun o2=>?_
  ·rintro⟨x,o1⟩ ⟨h1,h2⟩
   show Au (Ff x o1) _
   simp only at h1 h2
   unfold Ff
   by_cases hx:x<64
   ·rw [if_pos hx,Ma (n:=x - 15) (by omega) (by omega),Ma (n:=x - 2) (by omega) (by omega),Ma (n:=x - 16) (by omega) (by omega),Ma (n:=x - 7) (by omega) (by omega),
     if_pos ⟨by omega,by omega⟩,if_pos ⟨by omega,by omega⟩,if_pos ⟨by omega,by omega⟩,if_pos ⟨by omega,by omega⟩]
    refine(W8 _ _).bind fun _=>(W8 _ _).bind fun _=>(W8 _ _).bind fun _=>(W8 _ _).bind fun _=>?_
    rw [if_pos ⟨by omega,hx⟩,Ma (n:=x+1) (by omega) (by omega)]
    exact Au.ok ⟨⟨by simp only; omega,by simp only; omega⟩,by simp only; omega⟩
   ·rw [if_neg hx]; exact Au.ok trivial
  ·unfold Gr
   refine Cq.bind (Cq.eachS _ _ _ fun j a o _=>?_) fun o3=>Cq.bind (Cq.eachS _ _ _ fun j a o _=>Cq.ok _) fun _=>Cq.ok _
   unfold Jl
   refine(Agm _ _ _ _).bind fun _=>(Agm _ _ _ _).bind fun _=>?_
   rw [if_pos (List.length_take_le _ _)]
   exact Cq.ok _
theorem Aoq (c cp:Nat)(n:Int)(s:Vector Int 128):Cq (Nt c cp n s):=by
 unfold Nt
 refine Cq.bind (Cq.eachS _ _ _ fun j a o hj=>?_) fun _=>Cq.ok _
 have hj':j<8:=by have:=A8 hj; simpa using this
 unfold R4
 simp only [Nat.zero_add]
 rw [Ma (n:=8 * (j:Int)) (by omega) (by omega),Ma (n:=7 - (j:Int)) (by omega) (by omega),if_pos (by omega),if_pos ⟨by omega,by omega⟩]
 exact Cq.ok _
theorem Atf (c cp:Nat)(n:Int)(s:Vector Int 32):Cq (Oh c cp n s):=by
 unfold Oh
 refine Cq.bind (Cq.eachS _ _ _ fun j a o hj=>?_) fun _=>Cq.ok _
 have hj':j<4:=by have:=A8 hj; simpa using this
 unfold Ph
 simp only [Nat.zero_add]
 rw [Ma (n:=8 * (j:Int)) (by omega) (by omega),Ma (n:=3 - (j:Int)) (by omega) (by omega),if_pos (by omega),if_pos ⟨by omega,by omega⟩]
 exact Cq.ok _
theorem Ahx (r:List Int)(o:Vector Int 8)(k:Nat)(h:r.length=64 * k):Cq (loop (Do fun vend o2=>Iy vend o2) (r,o)):=by
 refine Au.loop (I:=fun s:List Int×Vector Int 8 => ∃ k,s.1.length=64 * k) (E:=fun _=>True) (fun s=>s.1.length) ?_ r.length (r,o) (Nat.le_refl _) ⟨k,h⟩
 rintro⟨v,o⟩ ⟨k,hk⟩
 show Au (Iy v o) _
 simp only at hk
 unfold Iy
 by_cases hv:(v.length:Int) > 0
 ·rw [if_pos hv,if_pos ⟨by decide,by omega⟩]
  refine Cq.bind (Ah8 _ _ (by rw [List.length_take,show Int.toNat 64=64 from rfl]; omega)) fun _=>?_
  rw [if_pos ⟨by decide,by omega⟩]
  refine Au.ok ⟨⟨k - 1,?_⟩,?_⟩
  ·simp only [List.length_drop,show Int.toNat 64=64 from rfl]; omega
  ·simp only [List.length_drop,show Int.toNat 64=64 from rfl]; omega
 ·rw [if_neg hv]; exact Au.ok trivial
theorem Arp:Nd=Iy:=rfl
theorem Ah9 (o:Vector Int 8):Cq (K6 o):=by
 unfold K6
 refine Cq.bind (Cq.eachS _ _ _ fun j a o4 hj=>?_) fun _=>Cq.ok _
 have hj':j<8:=by have:=A8 hj; simpa using this
 unfold R3
 simp only [Nat.zero_add]
 rw [Ma (n:=4 * (j:Int)) (by omega) (by omega),Ma (n:=4 * (j:Int)+4) (by omega) (by omega),if_pos ⟨rfl,by omega,by omega⟩]
 exact(Atf _ _ _ _).bind fun _=>Cq.ok _
theorem Aqy:O9=K6:=rfl
theorem Aoc (b:List Int):Cq (Dh b):=by
 unfold Dh
 refine Au.bind (P:=fun s:List Int×Vector Int 8=>s.1.length<64) (Au.loop (I:=fun s:List Int×Vector Int 8=>True) (fun s=>s.1.length) ?_ b.length (b,Adg) (Nat.le_refl _) trivial) ?_
 ·rintro⟨r,o⟩ _
  show Au (La r o) _
  unfold La
  by_cases hr:(r.length:Int)≥64
  ·rw [if_pos hr,if_pos ⟨by decide,by omega⟩]
   refine Cq.bind (Ah8 _ _ (by rw [List.length_take,show Int.toNat 64=64 from rfl]; omega)) fun _=>?_
   rw [if_pos ⟨by decide,by omega⟩]
   refine Au.ok ⟨trivial,?_⟩
   simp only [List.length_drop,show Int.toNat 64=64 from rfl]; omega
  ·rw [if_neg hr]; exact Au.ok (by simp only; omega)
 ·rintro⟨r,o⟩ hr
  show Au (K5 b r o) _
  simp only at hr
  unfold K5
  rw [if_pos (by omega),if_pos ⟨by omega,by omega⟩]
  refine Au.ite (fun h=>?_) (fun h=>?_)
  ·exact(Aoq _ _ _ _).bind fun r1=>(Ahx _ _ 2 (by simp)).bind fun _=>Ah9 _
  ·rw [Arp,Aqy]
   exact(Aoq _ _ _ _).bind fun r1=>(Ahx _ _ 1 (by simp)).bind fun _=>Ah9 _
theorem Afd (a b:List Int)(h:a.length+b.length≤1048576):Gk [a,b]=.ok (a++b):=by
 unfold Gk
 have e1:eachS (fun _ a=>fun size=>Ig a size) 0 [a,b] 0=.ok ((a.length:Int)+(b.length:Int)):=by
  simp only [P4,Y5,Ig]
  rw [Ma (n:=0+(a.length:Int)) (by omega) (by omega),if_neg (by omega)]
  simp only [R.bind]
  rw [Ma (by omega) (by omega),if_neg (by omega)]
  simp
 rw [e1]
 simp only [R.bind]
 have e2:Iq ((a.length:Int)+(b.length:Int))=.ok []:=by
  unfold Iq
  rw [if_neg (by omega),Ma (by omega) (by omega)]
  by_cases h0:(a.length:Int)+(b.length:Int) - 0 > 0
  ·rw [if_pos h0,if_pos ⟨by omega,by unfold Ci; omega⟩,if_pos ⟨by decide,by omega⟩]; rfl
  ·rw [if_neg h0]
 rw [e2]
 simp only [R.bind,P4,Y5,Ie]
 rw [if_pos (by simp only [List.length_nil,Ci]; omega)]
 simp only [R.bind,List.nil_append]
 rw [if_pos (by unfold Ci; omega)]
theorem Aci (tag:Tq)(b:List Int)(ht:tag.length≤16)(hb:b.length≤1048000):Cq (Hp tag b):=by
 unfold Hp
 rw [if_pos (by unfold Ci; omega)]
 refine(Aoc _).bind fun r=>?_
 rw [Afd _ _ (by rw [Vector.length_toList]; omega)]
 exact(Aoc _).bind fun _=>Cq.ok _
noncomputable def At8 (d:Vector Int 32):Vector Int 32:=(Mb d).val
noncomputable def Ap1 (a b:Vector Int 32):Vector Int 32:=(Km a b).val
theorem Avl (d:Vector Int 32):Mb d=.ok (At8 d):=by
 refine Cq.eq ?_
 unfold Mb
 exact(Aci _ _ (by decide) (by rw [Vector.length_toList]; decide)).bind fun _=>Cq.ok _
theorem Avk (a b:Vector Int 32):Km a b=.ok (Ap1 a b):=by
 refine Cq.eq ?_
 unfold Km
 rw [Afd _ _ (by rw [Vector.length_toList,Vector.length_toList]; decide)]
 exact(Aci _ _ (by decide) (by simp)).bind fun _=>Cq.ok _
theorem Agi (u:Int)(l:List Int)(hu:0≤u∧u<18446744073709551616)(hl:l.length≤1000):Au (Gi u l) fun r=>l.length<r.length∧r.length≤l.length+11:=by
 unfold Gi
 refine Au.bind (P:=fun s:Int×List Int=>l.length≤s.2.length∧s.2.length≤l.length+10) (Au.loop (I:=fun s:Int×List Int => ∃ k:Nat,k≤10∧s.2.length=l.length+k∧0≤s.1∧s.1 * 128 ^ k<1180591620717411303424) (fun s=>s.1.toNat) ?_ u.toNat (u,l) (Nat.le_refl _) ⟨0,by omega,rfl,hu.1,by simp only [Int.pow_zero]; omega⟩) ?_
 ·rintro⟨u1,b⟩ ⟨k,h1,h2,h3,h4⟩
  show Au (Iu u1 b) _
  simp only at h2 h3 h4
  unfold Iu
  by_cases hu1:u1≥128
  ·have hk:k<10:=by
    rcases Nat.lt_or_ge k 10 with h | h
    ·exact h
    ·obtain rfl:k=10:=by omega
     rw [show(128:Int) ^ 10=1180591620717411303424 from rfl] at h4
     omega
   rw [if_pos hu1,if_pos (by simp only [List.length_singleton,Ci]; omega)]
   refine Au.ok ⟨⟨k+1,by omega,by simp only [List.length_append,List.length_singleton]; omega,by simp only; exact Int.fdiv_nonneg h3 (by decide),?_⟩,?_⟩
   ·simp only
    rw [Int.fdiv_eq_ediv_of_nonneg _ (by decide),Int.pow_succ]
    have h5:u1 / 128 * 128≤u1:=Int.ediv_mul_le _ (by decide)
    have h6:(0:Int)≤128 ^ k:=Int.pow_nonneg (by decide)
    calc u1 / 128 * (128 ^ k * 128)=(u1 / 128 * 128) * 128 ^ k:=by rw [Int.mul_comm (128 ^ k) 128,← Int.mul_assoc]
     _≤u1 * 128 ^ k:=Int.mul_le_mul_of_nonneg_right h5 h6
     _<_:=h4
   ·simp only
    rw [Int.fdiv_eq_ediv_of_nonneg _ (by decide)]
    omega
  ·rw [if_neg hu1]; exact Au.ok ⟨by simp only; omega,by simp only; omega⟩
 ·rintro⟨u2,b⟩ ⟨h1,h2⟩
  show Au (In u2 b) _
  simp only at h1 h2
  unfold In
  rw [if_pos (by simp only [List.length_singleton,Ci]; omega)]
  exact Au.ok ⟨by simp only [List.length_append,List.length_singleton]; omega,by simp only [List.length_append,List.length_singleton]; omega⟩
theorem Aou (n:Int):IntKind.wrap .u64 n<18446744073709551616:=by simp [IntKind.wrap,IntKind.bits,IntKind.signed]; omega
theorem Avv (v:Value)(l:List Int)(hl:l.length≤900):Au (Ei v l) fun r=>l.length<r.length∧r.length≤l.length+12:=by
 unfold Ei
 rw [if_pos (by simp only [List.length_singleton,Ci]; omega)]
 unfold Qp
 simp only [R.bind]
 refine(Agi _ _ ⟨Afj _,Aou _⟩ (by simp only [List.length_append,List.length_singleton]; omega)).bind fun r hr=>Au.ok ?_
 simp only [List.length_append,List.length_singleton] at hr
 omega
abbrev Acw (n:Int):Value:={ Kind:=1,N:=n,S:=[],L:=[] }
theorem Ap7 (n:Nat)(a:Int):Hx (n+1) (Acw a)=.ok (0,true):=by
 rw [Hx]
 rfl
theorem An3 (l:List Int)(hl:l.length≤8) : ∃ b,(b≤1)∧Qo ({ Kind:=3,N:=0,S:=[],L:=l.map Acw }:Value)=.ok (b,true):=by
 unfold Qo
 rw [Uy,show(4000000:Nat)=3999998+1+1 from rfl,Hx]
 unfold N5
 have e : ∀ (l:List Int) (k:Nat),each (fun _ a=>fun depth=>G4 (Hx (3999998+1)) a depth) k (l.map Acw) 0=.ok (.inl 0):=by
  intro l
  induction l with
  | nil=>intro k; rfl
  | cons a l ih=>
   intro k
   rw [List.map_cons,Q8]
   have:G4 (Hx (3999998+1)) (Acw a) 0=.ok (.inl 0):=by
    unfold G4
    rw [Ap7]
    rfl
   rw [this]
   exact ih (k+1)
 refine⟨1,by decide,?_⟩
 have h1:((decide ((3:Int)<1))||(decide ((3:Int) > 3)))=false:=by decide
 simp only [h1,Bool.false_eq_true,if_false]
 rw [if_pos (by decide)]
 simp only [R.bind,e]
 rfl
theorem Ap5 (l:List Int)(hl:l.length≤8):Au (Mm ({ Kind:=3,N:=0,S:=[],L:=l.map Acw }:Value)) fun r=>r.2=0∧r.1.length≠0∧r.1.length≤200:=by
 obtain⟨b,hb,e⟩:=An3 l hl
 have e1:P6 ({ Kind:=3,N:=0,S:=[],L:=l.map Acw }:Value)=.ok 0:=by
  unfold P6
  rw [e]
  simp only [R.bind]
  rw [if_pos trivial,if_neg (by omega)]
 unfold Mm
 rw [e1]
 simp only [R.bind]
 rw [if_neg (by decide)]
 unfold K3
 simp only [R.bind]
 rw [if_neg (by decide),if_neg (by decide),if_neg (by decide),if_pos trivial]
 refine Au.bind (P:=fun r:List Int=>r.length≠0∧r.length≤200) ?_ fun r hr=>Au.ok ⟨rfl,hr⟩
 unfold It
 rw [if_pos (by decide)]
 refine(Agi _ _ ⟨Afj _,Aou _⟩ (by decide)).bind fun r hr=>?_
 refine Au.bind (P:=fun r:List Int=>r.length≠0∧r.length≤200) ?_ fun r hr=>Au.ok hr
 have:=Au.eachS (b:=fun _ a=>fun b1=>Fs a b1) (I:=fun n (r:List Int)=>r.length≠0∧r.length≤12+12 * n) (l.map Acw) 0 r ⟨by have:=hr.1; omega,by have:=hr.2; simp only [List.length_singleton] at this; omega⟩ (fun j a s hj hI=>by
  rw [List.getElem?_map] at hj
  obtain⟨x,hx,rfl⟩:=Option.map_eq_some_iff.1 hj
  have hjl:j<l.length:=A8 hx
  unfold Fs
  rw [if_neg (by show ¬ (1:Int)=0; decide),if_pos rfl]
  refine(Avv _ _ (by omega)).bind fun r hr=>Au.ok ⟨by omega,by omega⟩)
 refine this.mono fun s hs=>⟨hs.1,?_⟩
 have:=hs.2
 rw [List.length_map] at this
 omega
theorem Ar0 (salt:Vector Int 32)(l:List Int)(hl:l.length≤8):Cq (Fj salt l):=by
 unfold Fj
 have e:eachS (fun _ a=>fun l1=>G5 a l1) 0 l []=.ok (l.map Acw):=by
  have:=Au.eachS (b:=fun _ a=>fun l1=>G5 a l1) (I:=fun n (r:List Value)=>r=(l.take n).map Acw) l 0 [] rfl (fun j a s hj hI=>by
   simp only [Nat.zero_add] at hI ⊢
   subst hI
   have hjl:j<l.length:=A8 hj
   unfold G5
   rw [if_pos (by simp only [List.length_singleton,List.length_map,List.length_take,Ci]; omega)]
   refine Au.ok ?_
   rw [List.take_add_one,hj]
   simp)
  refine Au.eq (this.mono fun s hs=>?_)
  rw [hs,Nat.zero_add,List.take_length]
 rw [e]
 simp only [R.bind]
 refine(Ap5 l hl).bind fun r hr=>?_
 rw [if_pos ⟨hr.2.1,by unfold Ci; omega⟩]
 exact(Aci _ _ (by decide) (by rw [List.length_append,Vector.length_toList]; omega)).bind fun _=>Cq.ok _
noncomputable def Zs (salt:Vector Int 32)(l:List Int):Vector Int 32:=(Fj salt l).val
theorem At3 (salt:Vector Int 32)(l:List Int)(hl:l.length≤8):Fj salt l=.ok (Zs salt l):=(Ar0 salt l hl).eq
end Go.Am
namespace Go.Am
open Go
set_option linter.unusedVariables false
set_option linter.unusedSimpArgs false
def Ii (n:Int):Int:=if n≤2 then 1 else if n≤4 then 2 else 4
theorem Aw8:Gm 2=.ok 1:=by kernel_rfl
theorem Awy:Gm 3=.ok 2:=by kernel_rfl
theorem Aw4:Gm 4=.ok 2:=by kernel_rfl
theorem Aw1:Gm 5=.ok 4:=by kernel_rfl
theorem Axg:Gm 6=.ok 4:=by kernel_rfl
theorem Axe:Gm 7=.ok 4:=by kernel_rfl
theorem Aw7:Gm 8=.ok 4:=by kernel_rfl
theorem Avj (n:Int)(h1:2≤n)(h2:n≤8):Gm n=.ok (Ii n):=by
 have:n=2∨n=3∨n=4∨n=5∨n=6∨n=7∨n=8:=by omega
 rcases this with rfl | rfl | rfl | rfl | rfl | rfl | rfl
 ·exact Aw8
 ·exact Awy
 ·exact Aw4
 ·exact Aw1
 ·exact Axg
 ·exact Axe
 ·exact Aw7
theorem Akt (n:Int)(h1:2≤n)(h2:n≤8):1≤Ii n∧Ii n<n:=by
 unfold Ii
 split
 ·omega
 ·split <;> omega
def D5:Nat→Int→Int→List Bool
 | 0,_,_=>[]
 | f+1,a,n=>if n > 1 then decide (a<Ii n)::(if a<Ii n then D5 f a (Ii n) else D5 f (a - Ii n) (n - Ii n)) else []
theorem Ae6 : ∀ (f:Nat) (a n:Int),(D5 f a n).length≤f
 | 0,_,_=>Nat.le_refl _
 | f+1,a,n=>by
  unfold D5
  split
  ·simp only [List.length_cons]
   split
   ·have:=Ae6 f a (Ii n); omega
   ·have:=Ae6 f (a - Ii n) (n - Ii n); omega
  ·simp
theorem Amc (a n:Int)(l:List Bool)(h:¬ n > 1):Gd a n l=.ok (.inr l):=by unfold Gd; rw [if_neg h]
theorem Anl (a n:Int)(l:List Bool)(h0:0≤a)(ha:a<n)(h:n > 1)(h3:n≤8)(hl:l.length≤100):Gd a n l=.ok (.inl (if a<Ii n then(a,Ii n,l++[decide (a<Ii n)]) else(a - Ii n,n - Ii n,l++[decide (a<Ii n)]))):=by
 have hr:=Akt n (by omega) h3
 unfold Gd
 rw [if_pos h,Avj n (by omega) h3]
 simp only [R.bind]
 rw [if_pos (by simp only [List.length_singleton,Ci]; omega)]
 by_cases q:a<Ii n
 ·rw [if_pos q,if_pos q]
 ·rw [if_neg q,if_neg q,Ma (by omega) (by omega),Ma (by omega) (by omega)]
theorem Ac8 : ∀ (f:Nat) (a n:Int) (l:List Bool),0≤a→a<n→n≤8→n≤(f:Int)+1→l.length+f≤100 →
  loop (Sn fun vat1 n1 first=>Gd vat1 n1 first) (a,n,l)=.ok (l++D5 f a n)
 | f,a,n,l,h1,h2,h3,h4,h5=>by
  rw [Aov]
  show((Gd a n l).bind _)=_
  by_cases hn:n > 1
  case neg=>
   rw [Amc a n l hn]
   cases f with
   | zero=>simp [R.bind,D5]
   | succ f=>unfold D5; rw [if_neg hn]; simp [R.bind]
  cases f with
  | zero=>omega
  | succ f=>
   have hr:=Akt n (by omega) h3
   rw [Anl a n l h1 h2 hn h3 (by omega)]
   simp only [R.bind]
   by_cases ha:a<Ii n
   ·rw [if_pos ha]
    rw [Ac8 f a (Ii n) _ h1 ha (by omega) (by omega) (by simp only [List.length_append,List.length_singleton]; omega)]
    rw [show D5 (f+1) a n=decide (a<Ii n)::D5 f a (Ii n) by rw [D5,if_pos hn,if_pos ha]]
    simp
   ·rw [if_neg ha]
    rw [Ac8 f (a - Ii n) (n - Ii n) _ (by omega) (by omega) (by omega) (by omega) (by simp only [List.length_append,List.length_singleton]; omega)]
    rw [show D5 (f+1) a n=decide (a<Ii n)::D5 f (a - Ii n) (n - Ii n) by rw [D5,if_pos hn,if_neg ha]]
    simp
noncomputable def up1 (x:Vector Int 32)(q:Vector Int 32×Bool):Vector Int 32:=if q.2 then Ap1 x q.1 else Ap1 q.1 x
noncomputable def Oe (d:Vector Int 32)(ts:List Bool)(p:List (Vector Int 32)):Vector Int 32:=(p.zip ts.reverse).foldl up1 (At8 d)
theorem Anx (j:Nat)(a x:Vector Int 32)(ts:List Bool)(ht:ts.length≤100)(hj:j<ts.length):G2 j a x ts=.ok (up1 x (a,ts[ts.length - 1 - j]'(by omega)),ts):=by
 unfold G2
 rw [Ma (n:=(ts.length:Int) - 1) (by omega) (by omega),Ma (by omega) (by omega),show(ts.length:Int) - 1 - (j:Int)=((ts.length - 1 - j:Nat):Int) by omega,Qq (List.getElem?_eq_getElem (show ts.length - 1 - j<ts.length by omega))]
 simp only [R.bind,up1,Avk]
 split <;> rfl
theorem Alv (ts:List Bool)(ht:ts.length≤100) : ∀ (p:List (Vector Int 32)) (k:Nat) (x:Vector Int 32),k+p.length=ts.length →
  eachS (fun j a=>Do fun o first2=>G2 j a o first2) k p (x,ts)=.ok ((p.zip (ts.reverse.drop k)).foldl up1 x,ts)
 | [],k,x,h=>by simp [Y5]
 | a::p,k,x,h=>by
  have hk:k<ts.length:=by simp only [List.length_cons] at h; omega
  rw [P4]
  show((G2 k a x ts).bind _)=_
  have hd:ts.reverse.drop k=(ts[ts.length - 1 - k]'(by omega))::ts.reverse.drop (k+1):=by
   rw [List.drop_eq_getElem_cons (by rw [List.length_reverse]; exact hk)]
   congr 1
   rw [List.getElem_reverse]
  rw [hd,List.zip_cons_cons,List.foldl_cons,Anx k a x ts ht hk]
  exact Alv ts ht p (k+1) _ (by simp only [List.length_cons] at h; omega)
theorem Am4 (d:Vector Int 32)(a n:Int)(p:List (Vector Int 32))(h1:1≤n)(h2:n≤8) :
  Mv d a n p=.ok (if 0≤a∧a<n∧p.length=(D5 8 a n).length then(Oe d (D5 8 a n) p,0) else(zD,1)):=by
 unfold Mv
 by_cases ha:0≤a∧a<n
 case neg=>
  rw [if_pos (by simp only [Bool.or_eq_true,decide_eq_true_eq]; omega),if_neg (by omega)]
  rfl
 rw [if_neg (by simp only [Bool.or_eq_true,decide_eq_true_eq]; omega)]
 rw [Ac8 8 a n [] ha.1 ha.2 h2 (by omega) (by decide),List.nil_append]
 simp only [R.bind]
 unfold Kn
 have hl:=Ae6 8 a n
 by_cases hp:p.length=(D5 8 a n).length
 ·rw [if_neg (by simp [hp]),if_pos ⟨ha.1,ha.2,hp⟩,Avl]
  simp only [R.bind]
  rw [Alv _ (by omega) p 0 _ (by omega)]
  simp only [R.bind,Do,List.drop_zero]
  rfl
 ·rw [if_pos (by simp; omega),if_neg (fun h=>hp h.2.2)]
  rfl
def Alf (a f:Int):Prop:=0≤a∧a<8∧0≤f∧f≤4095
def Acv (d:Vector Int 32)(airline tables slots:Int)(o:Opening):Prop:=
 1≤tables∧tables≤8∧1≤slots∧slots≤8∧o.Airline=airline∧Alf o.Airline o.Flight∧0≤o.Slot∧o.Slot<slots∧(-1≤o.Cost∧o.Cost≤1048576) ∧
 ∃ n:Nat,n≤o.Path.length∧(o.Path.take n).length=(D5 8 o.Slot slots).length ∧ ∃ at_:Int,0≤at_∧at_<tables∧(o.Path.drop n).length=(D5 8 at_ tables).length ∧
  Oe (Oe (Zs o.Salt [o.Airline,o.Flight,o.Slot,o.Cost]) (D5 8 o.Slot slots) (o.Path.take n)) (D5 8 at_ tables) (o.Path.drop n)=d
theorem Aij (d:Vector Int 32)(airline tables slots:Int)(o:Opening)(hp:o.Path.length≤1000) :
  Au (Gx d airline tables slots o) fun e=>(e=0∧Acv d airline tables slots o)∨(e=360∧¬ Acv d airline tables slots o):=by
 unfold Gx
 rw [Adu,Aex]
 by_cases q1:tables<1∨tables > 8∨slots<1∨slots > 8∨o.Airline≠airline
 ·rw [if_pos (by simp only [Bool.or_eq_true,decide_eq_true_eq,bne_iff_ne]; omega)]
  simp only [R.bind,Bool.true_or,if_true]
  refine Au.ok (.inr ⟨rfl,fun h=>?_⟩)
  obtain⟨h1,h2,h3,h4,h5,_⟩:=h
  omega
 rw [if_neg (by simp only [Bool.or_eq_true,decide_eq_true_eq,bne_iff_ne]; omega)]
 simp only [R.bind]
 by_cases q2:Alf o.Airline o.Flight∧0≤o.Slot∧o.Slot<slots
 case neg=>
  rw [if_pos (by
   simp only [Bool.or_eq_true,Bool.not_eq_true',decide_eq_true_eq,decide_eq_false_iff_not]
   unfold Alf at q2
   omega)]
  simp only [if_true]
  refine Au.ok (.inr ⟨rfl,fun h=>q2 ?_⟩)
  obtain⟨h1,h2,h3,h4,h5,h6,h7,h8,_⟩:=h
  exact⟨h6,h7,h8⟩
 obtain⟨q2,q3,q4⟩:=q2
 rw [if_neg (by
  simp only [Bool.or_eq_true,Bool.not_eq_true',decide_eq_true_eq,decide_eq_false_iff_not]
  have:=q2
  unfold Alf at this
  omega)]
 simp only [R.bind]
 by_cases q5 : -1≤o.Cost∧o.Cost≤1048576
 case neg=>
  rw [if_pos (by simp only [Bool.not_eq_true',decide_eq_false_iff_not]; exact q5)]
  refine Au.ok (.inr ⟨rfl,fun h=>q5 ?_⟩)
  obtain⟨h1,h2,h3,h4,h5,h6,h7,h8,h9,_⟩:=h
  exact h9
 rw [if_neg (by simp only [Bool.not_eq_true',decide_eq_false_iff_not,Decidable.not_not]; exact q5),At3 _ _ (by simp)]
 simp only [R.bind]
 have hV : ∀ n:Nat,n≤o.Path.length→(o.Path.take n).length=(D5 8 o.Slot slots).length → ∀ at_:Int,0≤at_→at_<tables→(o.Path.drop n).length=(D5 8 at_ tables).length →
   Oe (Oe (Zs o.Salt [o.Airline,o.Flight,o.Slot,o.Cost]) (D5 8 o.Slot slots) (o.Path.take n)) (D5 8 at_ tables) (o.Path.drop n)=d→Acv d airline tables slots o:=by
  intro n h1 h2 at_ h3 h4 h5 h6
  exact⟨by omega,by omega,by omega,by omega,by omega,q2,q3,q4,q5,n,h1,h2,at_,h3,h4,h5,h6⟩
 refine Au.bind (P:=fun x:Unit ⊕ Int=>(x=.inl ()∧¬ Acv d airline tables slots o)∨(x=.inr 0∧Acv d airline tables slots o))
  (Au.loop (I:=fun x:Int=>0≤x∧x≤(o.Path.length:Int)+1 ∧ ∀ n:Nat,(n:Int)<x→(o.Path.take n).length=(D5 8 o.Slot slots).length → ∀ at_:Int,0≤at_→at_<tables→(o.Path.drop n).length=(D5 8 at_ tables).length →
   Oe (Oe (Zs o.Salt [o.Airline,o.Flight,o.Slot,o.Cost]) (D5 8 o.Slot slots) (o.Path.take n)) (D5 8 at_ tables) (o.Path.drop n)≠d) (fun x=>((o.Path.length:Int)+1 - x).toNat) ?_ (o.Path.length+1) 0 (by omega) ⟨by omega,by omega,fun n h=>absurd h (by omega)⟩) ?_
 ·intro x ⟨x1,x2,x3⟩
  unfold E8
  rw [Ma (n:=(o.Path.length:Int)+1) (by omega) (by omega)]
  by_cases hx:x<(o.Path.length:Int)+1
  case neg=>
   rw [if_neg hx]
   refine Au.ok (.inl ⟨rfl,fun h=>?_⟩)
   obtain⟨h1,h2,h3,h4,h5,h6,h7,h8,h9,n,k1,k2,at_,k3,k4,k5,k6⟩:=h
   exact x3 n (by omega) k2 at_ k3 k4 k5 k6
  rw [if_pos hx,if_pos ⟨x1,by omega⟩,if_pos ⟨x1,by omega⟩,Am4 _ _ _ _ (by omega) (by omega)]
  simp only [R.bind]
  have hnext : ∀ y:Int,y=x+1→(∀ at_:Int,0≤at_→at_<tables→(o.Path.take x.toNat).length=(D5 8 o.Slot slots).length→(o.Path.drop x.toNat).length=(D5 8 at_ tables).length →
    Oe (Oe (Zs o.Salt [o.Airline,o.Flight,o.Slot,o.Cost]) (D5 8 o.Slot slots) (o.Path.take x.toNat)) (D5 8 at_ tables) (o.Path.drop x.toNat)≠d) →
    (0≤y∧y≤(o.Path.length:Int)+1 ∧ ∀ n:Nat,(n:Int)<y→(o.Path.take n).length=(D5 8 o.Slot slots).length → ∀ at_:Int,0≤at_→at_<tables→(o.Path.drop n).length=(D5 8 at_ tables).length →
     Oe (Oe (Zs o.Salt [o.Airline,o.Flight,o.Slot,o.Cost]) (D5 8 o.Slot slots) (o.Path.take n)) (D5 8 at_ tables) (o.Path.drop n)≠d)∧((o.Path.length:Int)+1 - y).toNat<((o.Path.length:Int)+1 - x).toNat:=by
   rintro y rfl h
   refine⟨⟨by omega,by omega,fun n hn k2 at_ k3 k4 k5=>?_⟩,by omega⟩
   rcases Int.lt_or_le (n:Int) x with hlt | hge
   ·exact x3 n hlt k2 at_ k3 k4 k5
   ·obtain rfl:n=x.toNat:=by omega
    exact h at_ k3 k4 k2 k5
  by_cases hf:(o.Path.take x.toNat).length=(D5 8 o.Slot slots).length
  case neg=>
   rw [if_neg (show ¬ (0≤o.Slot∧o.Slot<slots∧(o.Path.take x.toNat).length=(D5 8 o.Slot slots).length) from fun h=>hf h.2.2)]
   rw [if_pos (by decide)]
   exact Au.ok (hnext _ (Ma (by omega) (by omega)) fun at_ _ _ h=>absurd h hf)
  rw [if_pos (show 0≤o.Slot∧o.Slot<slots∧(o.Path.take x.toNat).length=(D5 8 o.Slot slots).length from⟨q3,q4,hf⟩)]
  rw [if_neg (by simp)]
  generalize hX:Oe (Zs o.Salt [o.Airline,o.Flight,o.Slot,o.Cost]) (D5 8 o.Slot slots) (o.Path.take x.toNat)=X at *
  refine Au.bind (P:=fun y:Unit ⊕ Int=>(y=.inl () ∧ ∀ at_:Int,0≤at_→at_<tables→(o.Path.drop x.toNat).length=(D5 8 at_ tables).length→Oe X (D5 8 at_ tables) (o.Path.drop x.toNat)≠d)∨(y=.inr 0∧Acv d airline tables slots o))
   (Au.loop (I:=fun y:Int=>0≤y∧y≤tables ∧ ∀ at_:Int,0≤at_→at_<y→(o.Path.drop x.toNat).length=(D5 8 at_ tables).length→Oe X (D5 8 at_ tables) (o.Path.drop x.toNat)≠d) (fun y=>(tables - y).toNat) ?_ tables.toNat 0 (by omega) ⟨by omega,by omega,fun a h1 h2=>by omega⟩) ?_
  ·intro y ⟨y1,y2,y3⟩
   unfold Hi
   by_cases hy:y<tables
   case neg=>
    rw [if_neg hy]
    exact Au.ok (.inl ⟨rfl,fun a h1 h2=>y3 a h1 (by omega)⟩)
   rw [if_pos hy,Am4 _ _ _ _ (by omega) (by omega)]
   simp only [R.bind]
   by_cases hl:(o.Path.drop x.toNat).length=(D5 8 y tables).length
   case neg=>
    rw [if_neg (show ¬ (0≤y∧y<tables∧(o.Path.drop x.toNat).length=(D5 8 y tables).length) from fun h=>hl h.2.2)]
    rw [if_neg (by simp),Ma (by omega) (by omega)]
    refine Au.ok ⟨⟨by omega,by omega,fun a h1 h2 h3=>?_⟩,by omega⟩
    rcases Int.lt_or_le a y with h | h
    ·exact y3 a h1 h h3
    ·obtain rfl:a=y:=by omega
     exact absurd h3 hl
   rw [if_pos (show 0≤y∧y<tables∧(o.Path.drop x.toNat).length=(D5 8 y tables).length from⟨y1,hy,hl⟩)]
   by_cases he:Oe X (D5 8 y tables) (o.Path.drop x.toNat)=d
   ·rw [if_pos (by simp [he])]
    exact Au.ok (.inr ⟨rfl,hV x.toNat (by omega) hf y y1 hy hl (by rw [hX]; exact he)⟩)
   ·rw [if_neg (by simp [he]),Ma (by omega) (by omega)]
    refine Au.ok ⟨⟨by omega,by omega,fun a h1 h2 h3=>?_⟩,by omega⟩
    rcases Int.lt_or_le a y with h | h
    ·exact y3 a h1 h h3
    ·obtain rfl:a=y:=by omega
     exact he
  ·rintro y (⟨rfl,h⟩ | ⟨rfl,h⟩)
   ·show Au (Hk x) _
    unfold Hk
    exact Au.ok (hnext _ (Ma (by omega) (by omega)) fun at_ h1 h2 h3 h4=>h at_ h1 h2 h4)
   ·exact Au.ok (.inr ⟨rfl,h⟩)
 ·rintro x (⟨rfl,h⟩ | ⟨rfl,h⟩)
  ·exact Au.ok (.inr ⟨rfl,h⟩)
  ·exact Au.ok (.inl ⟨rfl,h⟩)
end Go.Am
namespace Go.Am
open Go
set_option linter.unusedVariables false
set_option linter.unusedSimpArgs false
def Wr (c:Clearing)(o:Opening):Prop:=
 o.Flight ∈ c.Flights∧c.Owners[(Gj c.Flights o.Flight).toNat]? = some o.Airline ∧ ∃ d,c.Commitments[(Gj (T0 c.Owners) o.Airline).toNat]? = some d∧Acv d o.Airline (many c.Owners o.Airline) c.Slots o
theorem Agf (c:Clearing)(o:Opening)(hF:Formed c)(hp:o.Path.length≤1000):Au (Hv c o) fun e=>(e=0∧Wr c o)∨((e=360∨e=400)∧¬ Wr c o):=by
 unfold Hv
 rw [Sh]
 simp only [R.bind]
 have hfl:=hF.fl; have hsl:=hF.slots; have how:=hF.ow
 by_cases h1:o.Flight ∈ c.Flights
 case neg=>
  rw [if_pos (by have:=mt Nf.1 h1; simpa using this)]
  exact Au.ok (.inr ⟨.inr rfl,fun h=>h1 h.1⟩)
 have hi:=Nf.2 h1
 have hil:=Aje (l:=c.Flights) (v:=o.Flight)
 rw [if_neg (by simpa using hi)]
 refine(Au.idx (P:=fun a=>c.Owners[(Gj c.Flights o.Flight).toNat]? = some a) hi (by omega) fun a h=>h).bind fun a ha=>?_
 unfold Jh
 by_cases h2:a=o.Airline
 case neg=>
  rw [if_pos (by simpa using h2)]
  refine Au.ok (.inr ⟨.inr rfl,fun h=>h2 ?_⟩)
  have:=h.2.1
  rw [ha] at this
  exact Option.some.inj this
 subst h2
 rw [if_neg (by simp)]
 have hmem:o.Airline ∈ c.Owners:=List.mem_of_getElem? ha
 have hin:=hF.own _ hmem
 refine(Aip c.Owners (by omega)).bind fun r hr=>?_
 rw [hr.1,Sh]
 simp only [R.bind]
 have hk:=Nf.2 (Ahn.2 ⟨hin,hmem⟩)
 have hkl:=Aje (l:=T0 c.Owners) (v:=o.Airline)
 have hcm:=hF.com
 refine(Au.idx (P:=fun d=>c.Commitments[(Gj (T0 c.Owners) o.Airline).toNat]? = some d) hk (by omega) fun a h=>h).bind fun d hd=>?_
 rw [hr.2,if_pos hin]
 refine(Aij d o.Airline _ c.Slots o hp).bind fun e he=>Au.ok ?_
 rcases he with⟨rfl,h⟩ | ⟨rfl,h⟩
 ·exact .inl ⟨rfl,h1,ha,d,hd,h⟩
 ·refine .inr ⟨.inl rfl,fun hA=>h ?_⟩
  obtain⟨_,_,d',hd',hV⟩:=hA
  rw [hd] at hd'
  rw [Option.some.inj hd']
  exact hV
def K7 (a b:Opening):Prop:=a.Flight<b.Flight∨(a.Flight=b.Flight∧a.Slot<b.Slot)
theorem K7.trans {a b c:Opening}(h1:K7 a b)(h2:K7 b c):K7 a c:=by unfold K7 at *; omega
def Rx (c:Clearing):Prop:=c.Openings.Pairwise K7 ∧ ∀ o ∈ c.Openings,Wr c o
theorem Ail (c:Clearing)(hF:Formed c)(hp : ∀ o ∈ c.Openings,o.Path.length≤1000)(hl:c.Openings.length≤1000):Au (K9 c) fun r=>(r=true↔Rx c):=by
 unfold K9
 have hE:=Au.each (b:=fun j a=>fun _=>Io c j a) (I:=fun n (_:Unit)=>(c.Openings.take n).Pairwise K7 ∧ ∀ o ∈ c.Openings.take n,Wr c o) (E:=fun r:Bool=>r=false∧¬ Rx c) c.Openings 0 () ⟨by simp,by simp⟩ (fun j a _ hj hI=>by
  simp only [Nat.zero_add] at hI ⊢
  obtain⟨p1,p2⟩:=hI
  have hjl:j<c.Openings.length:=A8 hj
  have ht1:c.Openings.take (j+1)=c.Openings.take j++[a]:=by rw [List.take_add_one,hj]; rfl
  have hja:c.Openings[j]=a:=by rw [List.getElem?_eq_getElem hjl] at hj; exact Option.some.inj hj
  have step:(∀ x ∈ c.Openings.take j,K7 x a)→Au ((Hv c a).bind fun r1=>Gq (r1 != 0)) (Za (fun n (_:Unit)=>(c.Openings.take n).Pairwise K7 ∧ ∀ o ∈ c.Openings.take n,Wr c o) (fun r:Bool=>r=false∧¬ Rx c) (j+1)):=fun hlt=>by
   refine(Agf c a hF (hp a (List.mem_of_getElem? hj))).bind fun e he=>?_
   unfold Gq
   rcases he with⟨rfl,hA⟩ | ⟨he,hA⟩
   ·rw [if_neg (by decide)]
    refine Au.ok ⟨?_,fun o ho=>?_⟩
    ·rw [ht1,List.pairwise_append]
     refine⟨p1,by simp,fun x hx y hy=>?_⟩
     obtain rfl:=List.mem_singleton.1 hy
     exact hlt x hx
    ·rw [ht1,List.mem_append,List.mem_singleton] at ho
     rcases ho with ho | rfl
     ·exact p2 o ho
     ·exact hA
   ·rw [if_pos (by rcases he with rfl | rfl <;> decide)]
    exact Au.ok ⟨rfl,fun h=>hA (h.2 a (List.mem_of_getElem? hj))⟩
  unfold Io
  by_cases hj0:(j:Int) > 0
  case neg=>
   rw [if_neg (by simpa using hj0)]
   refine step fun x hx=>?_
   obtain rfl:j=0:=by omega
   simp at hx
  rw [if_pos (by simpa using hj0),Ma (by omega) (by omega)]
  have hpl:j - 1<c.Openings.length:=by omega
  rw [show(j:Int) - 1=((j - 1:Nat):Int) by omega,Qq (List.getElem?_eq_getElem hpl),R.ok_bind,Vo,R.ok_bind]
  by_cases ho:Ae1 c.Openings[j - 1] a≥0
  ·rw [if_pos (by simpa using ho)]
   refine Au.ok ⟨rfl,fun h=>?_⟩
   have:=List.pairwise_iff_getElem.1 h.1 (j - 1) j hpl hjl (by omega)
   rw [hja] at this
   have:=Ach.2 this
   omega
  ·rw [if_neg (by simpa using ho)]
   refine step fun x hx=>?_
   have hlast:K7 c.Openings[j - 1] a:=Ach.1 (by omega)
   obtain⟨i,hi,rfl⟩:=List.getElem_of_mem hx
   rw [List.length_take] at hi
   rw [List.getElem_take]
   rcases Nat.lt_or_ge i (j - 1) with h | h
   ·have:=List.pairwise_iff_getElem.1 p1 i (j - 1) (by rw [List.length_take]; omega) (by rw [List.length_take]; omega) h
    rw [List.getElem_take,List.getElem_take] at this
    exact this.trans hlast
   ·obtain rfl:i=j - 1:=by omega
    exact hlast)
 refine hE.bind fun x hx=>Au.alt hx (fun u hu=>?_) (fun r hr=>?_)
 ·simp only [Za,Nat.zero_add,List.take_length] at hu
  exact Au.ok ⟨fun _=>hu,fun _=>rfl⟩
 ·exact Au.ok ⟨fun e=>by rw [hr.1] at e; exact absurd e (by decide),fun h=>absurd h hr.2⟩
theorem Arc {σ:Type}(b:List Opening)(S n:Nat)(hS:1≤S)(hS8:S≤8)(hl:b.length=n * S)(hb:b.length≤100000)(b_:List Opening→σ→R σ)(P:Nat→σ→Prop)(s:σ)(h0:P 0 s)
  (hk : ∀ k s,k<n→P k s→Au (b_ ((b.drop (k * S)).take S) s) (P (k+1))):Au (Eu b (S:Int) b_ s) (P n):=by
 unfold Eu
 refine Au.bind (P:=P n) (Au.loop (I:=fun s:Int×σ => ∃ k:Nat,k≤n∧s.1=((k * S:Nat):Int)∧P k s.2) (fun s=>((b.length:Int) - s.1).toNat) ?_ b.length (0,s) (by simp) ⟨0,by omega,by simp,h0⟩) fun s hs=>Au.ok hs
 rintro⟨i,s⟩ ⟨k,k1,k2,k3⟩
 show Au (Ea b S b_ i s) _
 simp only at k2 k3
 subst k2
 unfold Ea
 by_cases hi:((k * S:Nat):Int)<(b.length:Int)
 case neg=>
  rw [if_neg hi]
  have hle:k * S≥n * S:=by omega
  have:k=n:=by
   have:=Nat.le_of_mul_le_mul_right hle (by omega)
   omega
  subst this
  exact Au.ok k3
 have hkn:k<n:=by
  have:k * S<n * S:=by omega
  exact Nat.lt_of_mul_lt_mul_right this
 have hle:(k+1) * S≤n * S:=Nat.mul_le_mul_right S hkn
 have hadd:(k+1) * S=k * S+S:=by rw [Nat.add_mul,Nat.one_mul]
 rw [if_pos hi,if_pos ⟨by omega,by omega⟩,Int.toNat_natCast]
 have hd:((b.drop (k * S)).length:Int)=(b.length:Int) - ((k * S:Nat):Int):=by rw [List.length_drop]; omega
 rw [if_neg (show ¬ ((b.drop (k * S)).length:Int)<(S:Int) by omega),Ma (by omega) (by omega),if_pos ⟨by omega,by omega,by omega⟩]
 have hc:cut b ((k * S:Nat):Int) (((k * S:Nat):Int)+(S:Int))=(b.drop (k * S)).take S:=by
  unfold cut
  rw [Int.toNat_natCast]
  congr 1
  omega
 rw [hc]
 refine(hk k s hkn k3).bind fun s1 h1=>Au.ok ⟨⟨k+1,by omega,by simp only; omega,h1⟩,?_⟩
 simp only; omega
def Abr (c:Clearing):List (List Int):=(List.range c.Flights.length).map fun k=>((c.Openings.drop (k * c.Slots.toNat)).take c.Slots.toNat).map (·.Cost)
def Am8 (c:Clearing):Prop:=c.Openings.length=c.Flights.length * c.Slots.toNat
theorem Agl (c:Clearing)(hs:1≤c.Slots∧c.Slots≤8)(hf:c.Flights.length≤8):Ib c=.ok (if c.Openings.length=c.Flights.length * c.Slots.toNat then(({ Slots:=c.Slots,Owners:=c.Owners,Costs:=Abr c }:Round),true) else(({ Slots:=0,Owners:=[],Costs:=[] }:Round),false)):=by
 unfold Ib
 obtain⟨S,hS⟩ : ∃ S:Nat,c.Slots=(S:Int):=⟨c.Slots.toNat,by omega⟩
 have hmul:(c.Flights.length:Int) * c.Slots=((c.Flights.length * S:Nat):Int):=by rw [hS]; simp
 have hb:c.Flights.length * S≤8 * 8:=Nat.mul_le_mul hf (by omega)
 rw [hmul,Ma (by omega) (by omega),hS,Int.toNat_natCast]
 by_cases h:c.Openings.length=c.Flights.length * S
 case neg=>
  rw [if_pos (by simp only [bne_iff_ne]; omega),if_neg h]
 rw [if_neg (by simp only [bne_iff_ne]; omega),if_pos h]
 unfold Hu
 rw [if_neg (by omega),R.ok_bind]
 have:=Arc c.Openings S c.Flights.length (by omega) (by omega) h (by omega) (fun a z_=>R.np ((fun l=>Ik a l) z_)) (fun k l=>l=(List.range k).map fun k=>((c.Openings.drop (k * S)).take S).map (·.Cost)) [] rfl (fun k l hk hl=>by
  subst hl
  refine Au.np ?_
  show Au (Ik _ _) _
  unfold Ik
  have e1:eachS (fun _ a1=>fun costs=>Kj a1 costs) 0 ((c.Openings.drop (k * S)).take S) []=.ok (((c.Openings.drop (k * S)).take S).map (·.Cost)):=by
   have:=Ako (b:=fun _ (a1:Opening)=>fun costs=>Kj a1 costs) (g:=fun o:Opening=>o.Cost) (c:=8) (fun j a s=>rfl) ((c.Openings.drop (k * S)).take S) 0 []
   rw [this]
   ·simp
   ·simp only [List.length_nil,List.length_take,List.length_drop,Ci]; omega
  rw [e1,R.ok_bind,if_pos (by simp only [List.length_map,List.length_range,List.length_singleton,Ci]; omega)]
  refine Au.ok ?_
  rw [List.range_succ,List.map_append]
  rfl)
 obtain⟨l,e,hl⟩:=this
 rw [e,R.ok_bind,hl]
 congr 2
 unfold Abr
 rw [hS,Int.toNat_natCast]
end Go.Am
namespace Go.Am
open Go
set_option linter.unusedVariables false
set_option linter.unusedSimpArgs false
set_option linter.unusedSectionVars false
theorem Cq.each {α ε:Type}{b:Nat→α→Unit→R (Unit ⊕ ε)}(l:List α)(k:Nat)(hb : ∀ (j:Nat) a,l[j]? = some a→Cq (b (k+j) a ())):Cq (each b k l ()):=
 (Au.each (I:=fun _ _=>True) (E:=fun _=>True) l k () trivial fun j a _ hj _=>(hb j a hj).mono fun x _=>by cases x <;> exact trivial).tot
theorem Cq.alt {α β σ:Type}{f:α→R σ}{g:β→R σ}(x:α ⊕ β)(h1 : ∀ a,Cq (f a))(h2 : ∀ b,Cq (g b)):Cq (alt f g x):=by
 cases x with
 | inl a=>exact h1 a
 | inr b=>exact h2 b
structure CChk (r:Round):Prop where
 slots:1≤r.Slots∧r.Slots≤8
 own:(r.Owners.length:Int)≤r.Slots
 costs:r.Costs.length=r.Owners.length
 inA : ∀ a ∈ r.Owners,inA a
 row : ∀ l ∈ r.Costs,(l.length:Int)=r.Slots
theorem Ave (s:List Int):Cq (F9 s):=by
 unfold F9 Ja
 refine Cq.bind (Cq.bind (Cq.each _ _ fun j a _=>?_) fun x=>Cq.alt _ (fun _=>Cq.ok _) fun _=>Cq.ok _) fun _=>Cq.ok _
 unfold Hs Mn J7
 simp only [R.ok_bind]
 exact Au.ite (fun _=>Cq.ok _) fun _=>Cq.ok _
theorem Am5 (r:Round):Au (Kv r) fun e=>(e=0∧CChk r)∨e=370:=by
 unfold Kv
 refine Au.ite (fun _=>Au.ok (.inr rfl)) fun h=>?_
 simp only [Bool.or_eq_true,decide_eq_true_eq,bne_iff_ne,ne_eq,not_or,Decidable.not_not] at h
 obtain⟨⟨⟨h1,h2⟩,h3⟩,h4⟩:=h
 refine(Au.each (b:=fun j a=>fun _=>Ki r j a) (I:=fun n (_:Unit)=>(∀ a ∈ r.Owners.take n,inA a) ∧ ∀ l ∈ r.Costs.take n,(l.length:Int)=r.Slots) (E:=fun e:Int=>e=370) r.Costs 0 () ⟨by simp,by simp⟩ fun j a _ hj hI=>?_).bind fun x hx=>Au.alt hx (fun u hu=>?_) fun e he=>Au.ok (.inr he)
 ·simp only [Nat.zero_add] at hI ⊢
  have hjl:j<r.Costs.length:=A8 hj
  have hjo:j<r.Owners.length:=by omega
  have ht1:r.Owners.take (j+1)=r.Owners.take j++[r.Owners[j]]:=by rw [List.take_add_one,List.getElem?_eq_getElem hjo]; rfl
  have ht2:r.Costs.take (j+1)=r.Costs.take j++[a]:=by rw [List.take_add_one,hj]; rfl
  unfold Ki
  rw [Qq (List.getElem?_eq_getElem hjo),R.ok_bind]
  unfold J7 Im
  rw [R.ok_bind]
  refine Au.ite (fun _=>Au.pos rfl (Au.ok rfl)) fun q1=>?_
  refine Au.ite (fun _=>Au.pos rfl (Au.ok rfl)) fun q2=>?_
  simp only [Bool.or_eq_true,decide_eq_true_eq,not_or,bne_iff_ne,ne_eq,Decidable.not_not] at q1 q2
  have hja:j<a.length:=by omega
  rw [Qq (List.getElem?_eq_getElem hja),R.ok_bind]
  refine Au.ite (fun _=>Au.pos rfl (Au.ok rfl)) fun q3=>?_
  refine(Ave a).bind fun b=>Au.ite (fun _=>Au.ok rfl) fun _=>Au.ok ⟨fun x hx=>?_,fun x hx=>?_⟩
  ·rw [ht1,List.mem_append,List.mem_singleton] at hx
   rcases hx with hx | rfl
   ·exact hI.1 x hx
   ·unfold Am.inA; omega
  ·rw [ht2,List.mem_append,List.mem_singleton] at hx
   rcases hx with hx | rfl
   ·exact hI.2 x hx
   ·exact q2
 ·simp only [Za,Nat.zero_add,List.take_length] at hu
  have e:r.Costs.length=r.Owners.length:=by omega
  rw [e,List.take_length] at hu
  exact Au.ok (.inl ⟨rfl,⟨by omega,by omega⟩,by omega,e,hu.1,hu.2⟩)
def InS (r:Round)(l:List Int):Prop := ∀ s ∈ l,0≤s∧s<r.Slots
theorem Tf {α:Type}{l:List α}{n:Int}(h0:0≤n)(h1:n<(l.length:Int)):Cq (idx l n):=Au.idx h0 h1 fun _ _=>trivial
section
variable {r:Round} (hr:CChk r)
include hr
theorem Air {f s:Int}(hf:0≤f∧f<(r.Owners.length:Int))(hs:0≤s∧s<r.Slots){β:Type}{g:Int→R β}{Q:β→Prop}(h : ∀ a,Au (g a) Q):Au ((idx r.Costs f).bind fun a=>(idx a s).bind g) Q:=by
 refine(Au.idx (P:=fun a=>a ∈ r.Costs) hf.1 (by have:=hr.costs; omega) fun a ha=>List.mem_of_getElem? ha).bind fun a ha=>?_
 exact(Tf hs.1 (by have:=hr.row a ha; omega)).bind h
theorem Ann (slots:List Int):Au (Nl r slots) fun b=>b=true→slots.length=r.Owners.length∧InS r slots:=by
 unfold Nl
 refine Au.ite (fun _=>Au.ok fun h=>by simp at h) fun h=>?_
 simp only [bne_iff_ne,ne_eq,Decidable.not_not] at h
 refine(Au.each (b:=fun j a=>fun _=>I4 r slots j a) (I:=fun n (_:Unit)=>InS r (slots.take n)) (E:=fun b:Bool=>b=false) slots 0 () (by intro s hs; simp at hs) fun j a _ hj hI=>?_).bind fun x hx=>Au.alt hx (fun u hu=>?_) fun e he=>Au.ok fun h=>by rw [he] at h; simp at h
 ·simp only [Nat.zero_add] at hI ⊢
  have hjl:j<slots.length:=A8 hj
  have ht1:slots.take (j+1)=slots.take j++[a]:=by rw [List.take_add_one,hj]; rfl
  unfold I4
  by_cases q:a<0∨a≥r.Slots
  ·rw [if_pos (by simpa using q)]
   simp only [R.ok_bind,if_true]
   exact Au.ok rfl
  ·rw [if_neg (by simpa using q)]
   refine Au.bind (Air hr (f:=(j:Int)) (s:=a) ⟨by omega,by omega⟩ ⟨by omega,by omega⟩ (Q:=fun _=>True) fun x=>Au.ok trivial) fun b _=>?_
   refine Au.bind (P:=fun _=>True) (Au.ite (fun _=>Au.ok trivial) fun _=>?_) fun b1 _=>Au.ite (fun _=>Au.ok rfl) fun _=>Au.ok fun s hs=>?_
   ·rw [if_pos ⟨by omega,by omega⟩,Mj]
    exact Au.ok trivial
   ·rw [ht1,List.mem_append,List.mem_singleton] at hs
    rcases hs with hs | rfl
    ·exact hI s hs
    ·omega
 ·simp only [Za,Nat.zero_add,List.take_length] at hu
  exact Au.ok fun _=>⟨by omega,hu⟩
theorem Arq:Ix r=.ok ((List.range r.Owners.length).map fun n:Nat=>(n:Int)):=by
 unfold Ix
 have hl:=hr.own; have hs:=hr.slots
 have:=Au.eachS (b:=fun j _=>fun l=>Lq j l) (I:=fun n (l:List Int)=>l=(List.range n).map fun n:Nat=>(n:Int)) r.Owners 0 [] rfl (fun j a l hj hI=>by
  simp only [Nat.zero_add] at hI ⊢
  subst hI
  have hjl:j<r.Owners.length:=A8 hj
  unfold Lq
  rw [if_pos (by simp only [List.length_map,List.length_range,List.length_singleton,Ci]; omega)]
  refine Au.ok ?_
  rw [List.range_succ,List.map_append]
  rfl)
 obtain⟨l,e,hl⟩:=this
 rw [e,R.ok_bind,hl,Nat.zero_add]
theorem Aaw (flights slots:List Int)(hf : ∀ f ∈ flights,0≤f∧f<(r.Owners.length:Int))(hl:flights.length≤slots.length)(hs:InS r slots):Au (G3 r flights slots) fun out=>out.length=8:=by
 unfold G3
 rw [if_pos (by decide)]
 refine Au.bind (P:=fun out:List Int=>out.length=8) (Au.eachS (I:=fun _ (out:List Int)=>out.length=8) flights 0 _ (by decide) fun j a out hj hI=>?_) fun out h=>Au.ok h
 have ha:=hf a (List.mem_of_getElem? hj)
 have hjl:j<flights.length:=A8 hj
 unfold Mr
 refine(Au.idx (P:=fun a1=>inA a1) ha.1 ha.2 fun a1 h=>hr.inA a1 (List.mem_of_getElem? h)).bind fun a1 h1=>?_
 unfold inA at h1
 refine(Tf h1.1 (by omega)).bind fun a2=>?_
 refine(Au.idx (P:=fun a=>a ∈ r.Costs) ha.1 (by have:=hr.costs; omega) fun a ha=>List.mem_of_getElem? ha).bind fun a3 h3=>?_
 simp only [Nat.zero_add]
 refine(Au.idx (P:=fun s=>0≤s∧s<r.Slots) (by omega) (by omega) fun s h=>hs s (List.mem_of_getElem? h)).bind fun a4 h4=>?_
 refine(Tf h4.1 (by have:=hr.row a3 h3; omega)).bind fun a5=>Au.ok ?_
 rw [List.length_set]
 exact hI
theorem Afo {f:Int}(h:f ∈ (List.range r.Owners.length).map fun n:Nat=>(n:Int)):0≤f∧f<(r.Owners.length:Int):=by
 obtain⟨n,hn,rfl⟩:=List.mem_map.1 h
 have:=List.mem_range.1 hn
 omega
theorem Auf:InS r ((List.range r.Owners.length).map fun n:Nat=>(n:Int)):=fun s hs=>by
 have:=Afo hr hs; have:=hr.own; omega
theorem Asp (slots:List Int):Au (M4 r slots) fun x=>x.2=0→slots.length=r.Owners.length∧InS r slots:=by
 unfold M4 Sr Qe
 have hl:=hr.own; have hs:=hr.slots
 refine Au.bind (P:=fun e:Int=>e=0→slots.length=r.Owners.length∧InS r slots) (Au.bind (P:=fun x:Bool×Int=>x.2=0→x.1=true→slots.length=r.Owners.length∧InS r slots) ((Am5 r).bind fun e he=>Au.ite (fun _=>Au.ok fun _ h=>by simp at h) fun _=>(Ann hr slots).bind fun b hb=>Au.ok fun _=>hb) fun x hx=>Au.ite (fun _=>Au.ok fun h=>absurd h (by decide)) fun q=>Au.ok fun _=>?_) fun e he=>Au.ite (fun q=>Au.ok fun h=>?_) fun q=>?_
 ·simp only [Bool.or_eq_true,not_or,bne_iff_ne,ne_eq,Decidable.not_not,Bool.not_eq_true',Bool.not_eq_false] at q
  exact hx q.1 q.2
 ·simp only at h; rw [h] at q; simp at q
 ·have h0:e=0:=by simpa using q
  obtain⟨q1,q2⟩:=he h0
  rw [Arq hr]
  simp only [R.ok_bind]
  refine(Aaw hr _ _ (fun f hf=>Afo hr hf) (Nat.le_refl _) (Auf hr)).bind fun before hb=>?_
  refine(Aaw hr _ slots (fun f hf=>Afo hr hf) (by simp; omega) q2).bind fun now hn=>?_
  refine Au.bind (P:=fun _=>True) ((Au.eachS (b:=fun j a=>fun l=>Kb before j a l) (I:=fun n (l:List Int)=>l.length≤n) now 0 [] (by simp) fun j a l hj hI=>?_).tot) fun l _=>Au.ok fun _=>⟨q1,q2⟩
  have hjl:j<now.length:=A8 hj
  unfold Kb
  simp only [Nat.zero_add] at hI ⊢
  refine(Tf (by omega) (by omega)).bind fun a1=>Au.ite (fun _=>Au.pos ?_ (Au.ok ?_)) fun _=>Au.ok (by omega)
  ·simp only [List.length_singleton,Ci]; omega
  ·simp only [List.length_append,List.length_singleton]; omega
theorem Ao3 {σ ε:Type}(l:List Int)(hl : ∀ f ∈ l,0≤f∧f<(r.Owners.length:Int))(h100:l.length≤100)(b_:List Int→σ→R (σ ⊕ ε))(hb : ∀ x s,x.length=l.length→(∀ f ∈ x,f ∈ l)→Cq (b_ x s)) :
  ∀ (n:Nat) (begin:List Int) (s:σ),begin.length≤l.length→l.length<begin.length+n→(∀ f ∈ begin,f ∈ l)→Cq (Dy b_ n begin l r l r s)
 | 0,begin,s,h1,h2,h3=>by omega
 | n+1,begin,s,h1,h2,h3=>by
  rw [Dy]
  refine Au.np ?_
  unfold Eh
  refine Au.ite (fun q=>?_) fun q=>?_
  ·unfold Gp
   rw [if_pos (by unfold Ci; omega),R.ok_bind]
   exact(hb begin s (by have:=of_decide_eq_true q; omega) h3).bind fun x=>Cq.alt _ (fun _=>Cq.ok _) fun _=>Cq.ok _
  ·have hlt:begin.length<l.length:=by
    have:¬ ((begin.length:Int)=(l.length:Int)):=by simpa using q
    omega
   refine Cq.bind (Au.each (I:=fun _ _=>True) (E:=fun _=>True) l 0 s trivial fun j a s1 hj _=>?_).tot fun x=>Cq.alt _ (fun _=>Cq.ok _) fun _=>Cq.ok _
   refine Au.mono (P:=fun _=>True) ?_ fun x _=>by cases x <;> exact trivial
   have ha:a ∈ l:=List.mem_of_getElem? hj
   have ha':=hl a ha
   have hlo:=hr.own
   unfold Eb Da
   refine(Au.idx (P:=fun a1=>a1 ∈ l) (by omega) (by omega) fun a1 h=>List.mem_of_getElem? h).bind fun a1 h1'=>?_
   have h1'':=hl a1 h1'
   refine Air hr h1'' (s:=a) ⟨ha'.1,by omega⟩ fun a3=>Au.ite (fun _=>?_) fun _=>Au.ok trivial
   rw [Mj,R.ok_bind]
   refine Au.ite (fun _=>?_) fun _=>Au.ok trivial
   rw [Int.toNat_natCast,List.take_length,if_pos ⟨by omega,by omega⟩,if_pos ⟨by simp,by simp only [List.length_singleton,Ci]; omega⟩]
   refine(Ao3 l hl h100 b_ hb n (begin++[a]) s1 (by simp only [List.length_append,List.length_singleton]; omega) (by simp only [List.length_append,List.length_singleton]; omega) fun f hf=>?_).bind fun x=>Cq.alt _ (fun _=>Cq.ok _) fun _=>Cq.ok _
   rw [List.mem_append,List.mem_singleton] at hf
   rcases hf with hf | rfl
   ·exact h3 f hf
   ·exact ha
theorem Aph (than group:List Int)(ht:than.length=8)(hg : ∀ o ∈ group,inA o):Cq (Ir r than group):=by
 unfold Ir
 have hlo:=hr.own; have hs:=hr.slots
 refine Au.bind (P:=fun l:List Int=>l.length≤r.Owners.length ∧ ∀ f ∈ l,0≤f∧f<(r.Owners.length:Int)) ((Au.eachS (b:=fun j a=>fun l=>H7 group j a l) (I:=fun n (l:List Int)=>l.length≤n ∧ ∀ f ∈ l,0≤f∧f<(r.Owners.length:Int)) r.Owners 0 [] ⟨by simp,by simp⟩ fun j a l hj hI=>?_).mono fun l hl=>by simpa using hl) fun l hl=>?_
 ·simp only [Nat.zero_add] at hI ⊢
  have hjl:j<r.Owners.length:=A8 hj
  unfold H7
  rw [Mj,R.ok_bind]
  refine Au.ite (fun _=>Au.pos (by simp only [List.length_singleton,Ci]; omega) (Au.ok ⟨by simp only [List.length_append,List.length_singleton]; omega,fun f hf=>?_⟩)) fun _=>Au.ok ⟨by omega,hI.2⟩
  rw [List.mem_append,List.mem_singleton] at hf
  rcases hf with hf | rfl
  ·exact hI.2 f hf
  ·omega
 ·unfold Gn
  rw [R.ok_bind]
  refine Cq.bind (Au.np ?_) fun x=>Cq.alt _ (fun _=>Cq.ok _) fun _=>Cq.ok _
  unfold Ek F7
  refine Cq.bind (Ao3 hr l hl.2 (by omega) _ (fun x s hx hm=>Au.np ?_) Vx [] () (by simp) (by rw [Uy]; simp only [List.length_nil]; omega) (by simp)) fun x=>Cq.alt _ (fun _=>Cq.ok _) fun _=>Cq.ok _
  show Cq (Gw r than group l x)
  unfold Gw Lm
  refine(Aaw hr l x hl.2 (by omega) fun s hs'=>by have:=hl.2 s (hm s hs'); omega).bind fun now hn=>?_
  refine Cq.bind (Cq.each _ _ fun j o hj=>?_) fun y=>Cq.alt _ (fun _=>Cq.ok _) fun _=>Cq.ok _
  have ho:=hg o (List.mem_of_getElem? hj)
  unfold inA at ho
  unfold Lj
  exact(Tf ho.1 (by omega)).bind fun _=>(Tf ho.1 (by omega)).bind fun _=>Au.ite (fun _=>Cq.ok _) fun _=>Cq.ok _
theorem Ap8 (slots:List Int):Cq (Es r slots):=by
 unfold Es
 refine(Asp hr slots).bind fun x hx=>Au.ite (fun _=>Cq.ok _) fun q=>?_
 simp only [Bool.or_eq_true,decide_eq_true_eq,bne_iff_ne,ne_eq,not_or,Decidable.not_not] at q
 obtain⟨q1,q2⟩:=hx q.1
 rw [Arq hr,R.ok_bind]
 refine(Aaw hr _ slots (fun f hf=>Afo hr hf) (by simp; omega) q2).bind fun than ht=>?_
 refine Cq.bind (Cq.each _ _ fun j a hj=>?_) fun y=>Cq.alt _ (fun _=>Cq.ok _) fun _=>Cq.ok _
 unfold H9 D2
 refine Au.bind (Au.each (b:=fun j1 _=>fun group=>Ia r (0+j) j1 group) (I:=fun n (g:List Int)=>g.length≤n ∧ ∀ o ∈ g,inA o) (E:=fun _:Unit=>True) (List.range 8) 0 [] ⟨by simp,by simp⟩ fun j1 a g hj1 hI=>?_) fun x hx=>Au.alt hx (fun g hg=>?_) fun _ _=>Cq.ok _
 ·simp only [Nat.zero_add] at hI ⊢
  have hj8:j1<8:=by have:=A8 hj1; simpa using this
  unfold Ia
  rw [if_pos (by omega)]
  refine Au.ite (fun _=>Au.ok ⟨by omega,hI.2⟩) fun _=>?_
  rw [Mj,R.ok_bind]
  refine Au.ite (fun _=>Au.pos (by simp only [List.length_singleton,Ci]; omega) (Au.ok ⟨by simp only [List.length_append,List.length_singleton]; omega,fun o ho=>?_⟩)) fun _=>Au.ok trivial
  rw [List.mem_append,List.mem_singleton] at ho
  rcases ho with ho | rfl
  ·exact hI.2 o ho
  ·unfold inA; omega
 ·refine Au.ite (fun _=>Cq.ok _) fun _=>?_
  exact(Aph hr than g ht hg.2).bind fun _=>Au.ite (fun _=>Cq.ok _) fun _=>Cq.ok _
theorem Ar8 (slots:List Int)(h1:slots.length=r.Owners.length)(h2:InS r slots):Au (L5 r slots) fun v=>v.length=2:=by
 unfold L5
 refine Au.bind (P:=fun v:List Int=>v.length=2) (Au.eachS (I:=fun _ (v:List Int)=>v.length=2) slots 0 _ rfl fun j a v hj hI=>?_) fun v h=>Au.ok h
 have hjl:j<slots.length:=A8 hj
 have ha:=h2 a (List.mem_of_getElem? hj)
 unfold Np
 simp only [Nat.zero_add]
 refine(Tf (by decide) (by omega)).bind fun a1=>?_
 refine Air hr (f:=(j:Int)) ⟨by omega,by omega⟩ ha fun a3=>Au.ite (fun _=>?_) fun _=>Au.ok (by rw [List.length_set]; exact hI)
 refine(Tf (by decide) (by rw [List.length_set]; omega)).bind fun a4=>Au.ok (by rw [List.length_set,List.length_set]; exact hI)
theorem Aiv {σ:Type}(b_:List Int→σ→R σ)(P:σ→Prop)(hb : ∀ x s,x.length=r.Owners.length→InS r x→P s→Au (b_ x s) P) :
  ∀ (n:Nat) (slots:List Int) (m:List (Int×Bool)) (s:σ),slots.length≤r.Owners.length→r.Owners.length<slots.length+n→InS r slots→P s→Au (Dw b_ n slots r m r s) fun x=>P x.2
 | 0,slots,m,s,h1,h2,h3,h4=>by omega
 | n+1,slots,m,s,h1,h2,h3,h4=>by
  rw [Dw]
  refine Au.np ?_
  have hlo:=hr.own; have hsl:=hr.slots
  unfold Ef
  refine Au.ite (fun q=>?_) fun q=>?_
  ·exact(hb slots s (by have:=of_decide_eq_true q; omega) h3 h4).bind fun s' hs'=>Au.ok hs'
  ·have hlt:slots.length<r.Owners.length:=by
    have:¬ ((slots.length:Int)=(r.Owners.length:Int)):=by simpa using q
    omega
   refine Au.bind (P:=fun x:List (Int×Bool)×σ=>P x.2) (Au.loop (I:=fun x:Int×List (Int×Bool)×σ=>0≤x.1∧x.1≤r.Slots∧P x.2.2) (fun x=>(r.Slots - x.1).toNat) ?_ 8 (0,m,s) (by simp only; omega) ⟨by simp,by simp only; omega,h4⟩) fun x hx=>Au.ok hx
   rintro⟨x,m1,s1⟩ ⟨x1,x2,x3⟩
   show Au (Dr slots r r _ x m1 s1) _
   simp only at x1 x2 x3
   unfold Dr E4
   by_cases hx:x<r.Slots
   case neg=>rw [if_neg hx]; exact Au.ok x3
   rw [if_pos hx,Ma (n:=x+1) (by omega) (by omega)]
   refine Au.bind (P:=fun _=>True) (Au.ite (fun _=>Au.ok trivial) fun _=>Air hr (f:=(slots.length:Int)) (s:=x) ⟨by omega,by omega⟩ ⟨x1,hx⟩ fun _=>Au.ok trivial) fun b1 _=>Au.ite (fun _=>Au.ok ⟨⟨by simp only; omega,by simp only; omega,x3⟩,by simp only; omega⟩) fun _=>?_
   unfold M5
   rw [if_pos ⟨by omega,Int.le_refl _⟩,R.ok_bind,Int.toNat_natCast,List.take_length,if_pos ⟨by simp,by simp only [List.length_singleton,Ci]; omega⟩]
   refine(Aiv b_ P hb n (slots++[x]) _ s1 (by simp only [List.length_append,List.length_singleton]; omega) (by simp only [List.length_append,List.length_singleton]; omega) (fun f hf=>?_) x3).bind fun y hy=>Au.ok ⟨⟨by simp only; omega,by simp only; omega,hy⟩,by simp only; omega⟩
   rw [List.mem_append,List.mem_singleton] at hf
   rcases hf with hf | rfl
   ·exact h3 f hf
   ·exact⟨x1,hx⟩
end
theorem Ang (a b:List Int):Cq (J8 a b):=by
 unfold J8
 refine Cq.bind (Cq.each _ _ fun j x hj=>?_) fun x=>Cq.alt _ (fun _=>Au.ite (fun _=>Cq.ok _) fun _=>Cq.ok _) fun _=>Cq.ok _
 unfold Ke
 refine Au.ite (fun _=>Cq.ok _) fun q=>?_
 refine(Tf (by omega) (by omega)).bind fun y=>?_
 rw [S3,R.ok_bind]
 exact Au.ite (fun _=>Cq.ok _) fun _=>Cq.ok _
def Axk (r:Round)(x:List Int×Int):Prop:=(x.2=0∧CChk r∧Es r x.1=.ok (true,0))∨(x.2=370∨x.2=380)
theorem Ata (r:Round):Au (Ni r) (Axk r):=by
 unfold Ni
 refine(Am5 r).bind fun e he=>Au.ite (fun q=>Au.ok ?_) fun q=>?_
 ·rcases he with⟨rfl,_⟩ | rfl
  ·exact absurd q (by decide)
  ·exact .inr (.inl rfl)
 ·have hr:CChk r:=by
   rcases he with⟨_,h⟩ | rfl
   ·exact h
   ·exact absurd (by decide) q
  unfold H0
  rw [R.ok_bind]
  refine Au.bind (P:=fun x:List Int×List Int=>x.2=[]∨Es r x.1=.ok (true,0)) (Au.np ?_) fun x hx=>?_
  ·unfold El F8
   have hlo:=hr.own; have hsl:=hr.slots
   refine(Aiv hr _ (fun x:List Int×List Int=>x.2=[]∨Es r x.1=.ok (true,0)) (fun x s h1 h2 h3=>Au.np ?_) Vx [] [] ([],[]) (by simp) (by rw [Uy]; simp only [List.length_nil]; omega) (by intro s hs; simp at hs) (.inl rfl)).bind fun y hy=>Au.ok hy
   obtain⟨o,o1⟩:=s
   show Au (Iv r x o o1) _
   unfold Iv
   refine(Ar8 hr x h1 h2).bind fun v hv=>?_
   refine Au.bind (P:=fun _=>True) (Au.ite (fun _=>(Ang _ _).bind fun _=>Au.ok trivial) fun _=>Au.ok trivial) fun b _=>Au.ite (fun _=>Au.ok h3) fun _=>?_
   obtain⟨st,hst,_⟩:=Ap8 hr x
   rw [hst,R.ok_bind]
   refine Au.ite (fun q=>?_) fun _=>Au.ok h3
   simp only [Bool.and_eq_true,beq_iff_eq] at q
   unfold Gp
   rw [if_pos (by unfold Ci; omega),R.ok_bind,if_pos (by omega)]
   refine Au.ok (.inr ?_)
   rw [hst]
   exact congrArg R.ok (Prod.ext q.2 q.1)
  ·obtain⟨o,o1⟩:=x
   show Au (if(List.isEmpty o1) then R.ok (([]:List Int),(380:Int)) else .ok (o,0)) _
   refine Au.ite (fun _=>Au.ok (.inr (.inr rfl))) fun q=>Au.ok (.inl ⟨rfl,hr,?_⟩)
   rcases hx with hx | hx
   ·exact absurd (by simp only at hx; rw [hx]; rfl) q
   ·exact hx
def Ayg (r:Round)(x:List Int×Int):Prop:=(x.2=3∧CChk r∧Es r x.1=.ok (true,0))∨(x.2=4∧x.1=(List.range r.Owners.length).map fun n:Nat=>(n:Int))
theorem Asb (r:Round)(hl:r.Owners.length≤100000):Au (Jm r) (Ayg r):=by
 unfold Jm
 refine(Ata r).bind fun x hx=>Au.ite (fun q=>Au.ok (.inl ⟨rfl,?_⟩)) fun q=>?_
 ·have q':x.2=0:=by simpa using q
  rcases hx with⟨_,h⟩ | h
  ·exact h
  ·rw [q'] at h; omega
 ·have:=Au.eachS (b:=fun j _=>fun outcome=>Kx j outcome) (I:=fun n (l:List Int)=>l=(List.range n).map fun n:Nat=>(n:Int)) r.Owners 0 [] rfl (fun j a l hj hI=>by
   simp only [Nat.zero_add] at hI ⊢
   subst hI
   have hjl:j<r.Owners.length:=A8 hj
   unfold Kx
   rw [if_pos (by simp only [List.length_map,List.length_range,List.length_singleton,Ci]; omega)]
   refine Au.ok ?_
   rw [List.range_succ,List.map_append]
   rfl)
  refine this.bind fun l hl=>Au.ok (.inr ⟨rfl,?_⟩)
  rw [hl,Nat.zero_add]
end Go.Am
namespace Go.Am
open Go
set_option linter.unusedVariables false
set_option linter.unusedSimpArgs false
theorem Ajs {α:Type}[DecidableEq α]{b:Nat→α→Unit→R (Unit ⊕ Bool)}(s1 s2:List α)(h:s1.length=s2.length)(hb : ∀ (j:Nat) a a1,s2[j]? = some a1→b j a ()=if a=a1 then .ok (.inl ()) else .ok (.inr false)) :
  Au ((each b 0 s1 ()).bind (alt (fun _=>R.ok true) (fun r=>.ok r))) fun r=>(r=true↔s1=s2):=by
 refine(Au.each (b:=b) (I:=fun n (_:Unit)=>s1.take n=s2.take n) (E:=fun r:Bool=>r=false∧s1≠s2) s1 0 () (by simp) fun j a _ hj hI=>?_).bind fun x hx=>Au.alt hx (fun u hu=>Au.ok ⟨fun _=>?_,fun _=>rfl⟩) fun r hr=>Au.ok ⟨fun e=>by rw [hr.1] at e; exact absurd e (by decide),fun e=>absurd e hr.2⟩
 ·simp only [Nat.zero_add] at hI ⊢
  have hjl:j<s1.length:=A8 hj
  have hj2:s2[j]? = some s2[j]:=List.getElem?_eq_getElem (by omega)
  rw [hb j a _ hj2]
  by_cases q:a=s2[j]
  ·rw [if_pos q]
   refine Au.ok ?_
   show s1.take (j+1)=s2.take (j+1)
   rw [List.take_add_one,List.take_add_one,hI,hj,hj2,q]
  ·rw [if_neg q]
   refine Au.ok ⟨rfl,fun e=>q ?_⟩
   subst e
   rw [hj] at hj2
   exact Option.some.inj hj2
 ·simp only [Za,Nat.zero_add,List.take_length] at hu
  rw [hu,h,List.take_length]
theorem Akz (s1 s2:List Int):Au (Jz s1 s2) fun r=>(r=true↔s1=s2):=by
 unfold Jz
 refine Au.ite (fun q=>Au.ok ⟨fun e=>absurd e (by decide),fun e=>by subst e; simp at q⟩) fun q=>?_
 refine Ajs s1 s2 (by have this:¬ ((s1.length:Int)≠(s2.length:Int)):=(by simpa using q); omega) fun j a a1 hj=>?_
 unfold Ll
 rw [Qq hj,R.ok_bind]
 by_cases h:a=a1
 ·rw [if_neg (by simpa using h),if_pos h]
 ·rw [if_pos (by simpa using h),if_neg h]
theorem Ag0 (s1 s2:List (Vector Int 32)):Au (Lp s1 s2) fun r=>(r=true↔s1=s2):=by
 unfold Lp
 refine Au.ite (fun q=>Au.ok ⟨fun e=>absurd e (by decide),fun e=>by subst e; simp at q⟩) fun q=>?_
 refine Ajs s1 s2 (by have this:¬ ((s1.length:Int)≠(s2.length:Int)):=(by simpa using q); omega) fun j a a1 hj=>?_
 unfold Jn
 rw [Qq hj,R.ok_bind]
 by_cases h:a=a1
 ·rw [if_pos (by simpa using h),if_pos h]
 ·rw [if_neg (by simpa using h),if_neg h]
structure Sm (c:Clearing):Prop where
 op:c.Openings.length≤1000
 path : ∀ o ∈ c.Openings,o.Path.length≤1000
 out:c.Outcome.length≤1000
def exR (c:Clearing):Round:={ Slots:=c.Slots,Owners:=c.Owners,Costs:=Abr c }
structure Fin (c:Clearing):Prop where
 com:zD ∉ c.Commitments
 opn:Rx c
 full:Am8 c
 out:Jm (exR c)=.ok (c.Outcome,c.Phase)
structure ValidC (c:Clearing):Prop where
 formed:Formed c
 phase:(c.Phase=1∧zD ∈ c.Commitments∧c.Openings=[]∧c.Outcome=[])∨(c.Phase=2∧zD ∉ c.Commitments∧Rx c∧c.Outcome=[])∨((c.Phase=3∨c.Phase=4)∧Fin c)
theorem Amh (c:Clearing)(hF:Formed c)(hs:Sm c):Au (Ji c) fun r=>(r=true↔Fin c):=by
 unfold Ji
 rw [Sd,R.ok_bind]
 have hfl:=hF.fl; have hsl:=hF.slots
 by_cases h0:zD ∈ c.Commitments
 ·simp only [h0,decide_true,Bool.not_true,Bool.not_false,if_true,R.ok_bind]
  exact Au.ok ⟨fun e=>absurd e (by decide),fun h=>absurd h0 h.com⟩
 simp only [h0,decide_false,Bool.not_true,Bool.not_false,Bool.false_eq_true,if_false]
 refine Au.bind (Au.bind (Ail c hF hs.path hs.op) (Q:=fun b=>(b=false↔Rx c)) fun b hb=>Au.ok ?_) fun b hb=>?_
 ·cases b <;> simp_all
 refine Au.ite (fun q=>Au.ok ⟨fun e=>absurd e (by decide),fun h=>?_⟩) fun q=>?_
 ·rw [hb.2 h.opn] at q; exact absurd q (by decide)
 have hO:Rx c:=hb.1 (by simpa using q)
 rw [Agl c hsl (by omega),R.ok_bind]
 by_cases hfu:c.Openings.length=c.Flights.length * c.Slots.toNat
 case neg=>
  rw [if_neg hfu]
  exact Au.ok ⟨fun e=>absurd e (by decide),fun h=>absurd h.full hfu⟩
 rw [if_pos hfu]
 simp only [if_true]
 obtain⟨x,e,_⟩:=Asb (exR c) (show c.Owners.length≤100000 by have:=hF.ow; omega)
 rw [show({ Slots:=c.Slots,Owners:=c.Owners,Costs:=Abr c }:Round)=exR c from rfl,e,R.ok_bind]
 refine Au.bind (P:=fun b:Bool=>(b=true↔x=(c.Outcome,c.Phase))) ?_ fun b hb=>Au.ok ⟨fun hbt=>⟨h0,hO,hfu,by rw [e,hb.1 hbt]⟩,fun h=>hb.2 (by rw [h.out] at e; exact(R.ok.inj e).symm)⟩
 by_cases hph:x.2=c.Phase
 ·rw [if_pos (by simpa using hph)]
  refine(Akz x.1 c.Outcome).bind fun b hb=>Au.ok ?_
  rw [hb]
  exact⟨fun h=>Prod.ext h hph,fun h=>by rw [h]⟩
 ·rw [if_neg (by simpa using hph)]
  exact Au.ok ⟨fun e=>absurd e (by decide),fun h=>absurd (by rw [h]) hph⟩
theorem Akp (c:Clearing)(hs:Sm c):Au (Hr c) fun e=>(e=0∧ValidC c)∨(e=400∧¬ ValidC c):=by
 unfold Hr
 refine(Aqa c).bind fun f hf=>?_
 have h400 : ∀ h:¬ ValidC c,Au (Dd true) fun e=>(e=0∧ValidC c)∨(e=400∧¬ ValidC c):=fun h=>Au.ok (.inr ⟨rfl,h⟩)
 refine Au.ite (fun q=>h400 fun h=>?_) fun q=>?_
 ·rw [hf.2 h.formed] at q; exact absurd q (by decide)
 have hF:Formed c:=hf.1 (by simpa using q)
 refine Au.ite (fun q=>h400 fun h=>?_) fun q1=>?_
 ·have:=h.phase; simp only [decide_eq_true_eq] at q; omega
 refine Au.ite (fun q=>h400 fun h=>?_) fun q2=>?_
 ·have:=h.phase; simp only [decide_eq_true_eq] at q; omega
 simp only [decide_eq_true_eq] at q1 q2
 have hj : ∀ (b:Bool),(b=true↔ValidC c)→Au (Dd (!b)) fun e=>(e=0∧ValidC c)∨(e=400∧¬ ValidC c):=fun b hb=>by
  cases b with
  | true=>exact Au.ok (.inl ⟨rfl,hb.1 rfl⟩)
  | false=>exact Au.ok (.inr ⟨rfl,fun h=>absurd (hb.2 h) (by decide)⟩)
 rw [if_neg (by omega)]
 refine Au.ite (fun p1=>?_) fun p1=>Au.ite (fun p2=>?_) fun p2=>Au.ite (fun p3=>?_) fun p3=>Au.ite (fun p4=>?_) fun p4=>by omega
 ·unfold Oi
  rw [Sd,R.ok_bind,Ma (by have:=hs.op; omega) (by have:=hs.op; have:=hs.out; omega),R.ok_bind]
  refine hj _ ⟨fun h=>⟨hF,.inl ⟨p1,?_⟩⟩,fun h=>?_⟩
  ·simp only [Bool.not_not,Bool.and_eq_true,decide_eq_true_eq,beq_iff_eq] at h
   exact⟨h.1,List.length_eq_zero_iff.1 (by omega),List.length_eq_zero_iff.1 (by omega)⟩
  ·rcases h.phase with⟨_,h1,h2,h3⟩ | ⟨h1,_⟩ | ⟨h1,_⟩
   ·rw [h2,h3]; simp [h1]
   ·omega
   ·omega
 ·unfold L7
  rw [Sd,R.ok_bind]
  by_cases h0:zD ∈ c.Commitments
  ·simp only [h0,decide_true,Bool.not_true,Bool.false_eq_true,if_false,R.ok_bind,Bool.false_and]
   refine hj _ ⟨fun h=>absurd h (by decide),fun h=>?_⟩
   rcases h.phase with⟨h1,_⟩ | ⟨_,h1,_⟩ | ⟨h1,_⟩
   ·omega
   ·exact absurd h0 h1
   ·omega
  ·simp only [h0,decide_false,Bool.not_false,if_true]
   obtain⟨b,e,hb⟩:=Ail c hF hs.path hs.op
   rw [e]
   simp only [R.ok_bind]
   refine hj _ ⟨fun h=>⟨hF,.inr (.inl ⟨p2,h0,?_⟩)⟩,fun h=>?_⟩
   ·simp only [Bool.and_eq_true,beq_iff_eq] at h
    exact⟨hb.1 h.1,List.length_eq_zero_iff.1 (by omega)⟩
   ·rcases h.phase with⟨h1,_⟩ | ⟨_,_,h1,h2⟩ | ⟨h1,_⟩
    ·omega
    ·rw [hb.2 h1,h2]; rfl
    ·omega
 all_goals
  obtain⟨b,e,hb⟩:=Amh c hF hs
  rw [e]
  simp only [R.ok_bind]
  refine hj _ ⟨fun h=>⟨hF,.inr (.inr ⟨by omega,hb.1 h⟩)⟩,fun h=>?_⟩
  rcases h.phase with⟨h1,_⟩ | ⟨h1,_⟩ | ⟨_,h1⟩
  ·omega
  ·omega
  ·exact hb.2 h1
end Go.Am
namespace Go.Am
open Go
set_option linter.unusedVariables false
set_option linter.unusedSimpArgs false
theorem Ax7 {n:Int}(h1:0≤n)(h2:n<18446744073709551616):IntKind.wrap .u64 n=n:=by simp [IntKind.wrap,IntKind.bits,IntKind.signed]; omega
theorem Apx (l:List Opening)(o:Opening)(hl:l.length≤100000)(hs:l.Pairwise K7):Au (C9 l o) fun x => ∃ n:Nat,x.1=(n:Int)∧n≤l.length∧(∀ k y,l[k]? = some y→k<n→K7 y o)∧(∀ k y,l[k]? = some y→n≤k→¬ K7 y o)∧(x.2=true ↔ ∃ y,l[n]? = some y∧y.Flight=o.Flight∧y.Slot=o.Slot):=by
 unfold C9
 refine Au.bind (P:=fun i:Int => ∃ n:Nat,i=(n:Int)∧n≤l.length∧(∀ k y,l[k]? = some y→k<n→K7 y o)∧(∀ k y,l[k]? = some y→n≤k→¬ K7 y o)) (Au.loop (I:=fun s:Int×Int=>0≤s.1∧s.1≤s.2∧s.2≤(l.length:Int)∧(∀ (k:Nat) y,l[k]? = some y→(k:Int)<s.1→K7 y o)∧(∀ (k:Nat) y,l[k]? = some y→s.2≤(k:Int)→¬ K7 y o)) (fun s=>(s.2 - s.1).toNat) ?_ l.length (0,(l.length:Int)) (by simp) ⟨by simp,by simp,by simp,fun k y _ h=>by simp only at h; omega,fun k y hk h=>by have:=A8 hk; simp only at h; omega⟩) ?_
 ·rintro⟨i,j⟩ ⟨i1,i2,i3,i4,i5⟩
  show Au (C3 l o i j) _
  simp only at i1 i2 i3 i4 i5
  unfold C3
  by_cases hij:i<j
  case neg=>
   rw [if_neg hij]
   obtain rfl:i=j:=by omega
   exact Au.ok ⟨i.toNat,by omega,by omega,fun k y hk h=>i4 k y hk (by omega),fun k y hk h=>i5 k y hk (by omega)⟩
  have hm:Int.fdiv (i+j) 2=(i+j) / 2:=Int.fdiv_eq_ediv_of_nonneg _ (by decide)
  rw [if_pos hij,Ma (n:=i+j) (by omega) (by omega),Ax7 (n:=i+j) (by omega) (by omega),hm,Ma (n:=(i+j) / 2) (by omega) (by omega)]
  have hml:((i+j) / 2).toNat<l.length:=by omega
  obtain⟨m,hmm⟩ : ∃ m:Nat,(i+j) / 2=(m:Int):=⟨((i+j) / 2).toNat,by omega⟩
  rw [hmm] at hml ⊢
  rw [Int.toNat_natCast] at hml
  have hget:=List.getElem?_eq_getElem hml
  rw [Qq hget,R.ok_bind,Vo,R.ok_bind]
  by_cases hc:Ae1 l[m] o<0
  ·rw [if_pos hc,Ma (n:=(m:Int)+1) (by omega) (by omega)]
   have hlt:K7 l[m] o:=Ach.1 hc
   refine Au.ok ⟨⟨by simp only; omega,by simp only; omega,by simp only; omega,fun k y hk h=>?_,fun k y hk h=>i5 k y hk h⟩,by simp only; omega⟩
   simp only at h
   have hkl:=A8 hk
   rw [List.getElem?_eq_getElem hkl] at hk
   obtain rfl:=Option.some.inj hk
   rcases Nat.lt_or_ge k m with h' | h'
   ·exact(List.pairwise_iff_getElem.1 hs k m hkl hml h').trans hlt
   ·obtain rfl:k=m:=by omega
    exact hlt
  ·rw [if_neg hc]
   have hge:¬ K7 l[m] o:=fun h=>hc (Ach.2 h)
   refine Au.ok ⟨⟨by simp only; omega,by simp only; omega,by simp only; omega,fun k y hk h=>i4 k y hk h,fun k y hk h hlt=>?_⟩,by simp only; omega⟩
   simp only at h
   have hkl:=A8 hk
   rw [List.getElem?_eq_getElem hkl] at hk
   obtain rfl:=Option.some.inj hk
   rcases Nat.lt_or_ge m k with h' | h'
   ·exact hge ((List.pairwise_iff_getElem.1 hs m k hml hkl h').trans hlt)
   ·obtain rfl:k=m:=by omega
    exact hge hlt
 ·rintro i ⟨n,rfl,n1,n2,n3⟩
  unfold Di
  by_cases hn:(n:Int)<(l.length:Int)
  ·have hnl:n<l.length:=by omega
   rw [if_pos (by simpa using hn),Qq (List.getElem?_eq_getElem hnl),R.ok_bind,Vo,R.ok_bind]
   refine Au.ok ⟨n,rfl,n1,n2,n3,?_⟩
   rw [beq_iff_eq,Aqr]
   constructor
   ·intro h; exact⟨_,List.getElem?_eq_getElem hnl,h⟩
   ·rintro⟨y,hy,h⟩
    rw [List.getElem?_eq_getElem hnl] at hy
    rw [Option.some.inj hy]; exact h
  ·rw [if_neg (by simpa using hn)]
   refine Au.ok ⟨n,rfl,n1,n2,n3,fun e=>by simp at e,?_⟩
   rintro⟨y,hy,_⟩
   have:=A8 hy
   omega
theorem Ath (a b:Opening):Au (R8 a b) fun r=>(r=true↔a=b):=by
 unfold R8
 by_cases h:a.Airline=b.Airline∧a.Flight=b.Flight∧a.Slot=b.Slot∧a.Cost=b.Cost∧a.Salt=b.Salt
 ·obtain⟨h1,h2,h3,h4,h5⟩:=h
  rw [if_pos (by simp [h1,h2,h3,h4,h5])]
  refine Au.bind ((Ag0 a.Path b.Path).bind fun r hr=>Au.ok hr) fun r hr=>Au.ok ?_
  rw [hr]
  obtain⟨a1,a2,a3,a4,a5,a6⟩:=a
  obtain⟨b1,b2,b3,b4,b5,b6⟩:=b
  simp only at h1 h2 h3 h4 h5
  subst h1 h2 h3 h4 h5
  simp
 ·rw [if_neg (fun q=>h (by
   simp only [Bool.and_eq_true,beq_iff_eq] at q
   obtain⟨⟨⟨⟨q1,q2⟩,q3⟩,q4⟩,q5⟩:=q
   exact⟨q1,q2,q3,q4,q5⟩))]
  exact Au.ok ⟨fun e=>absurd e (by decide),fun e=>absurd (by subst e; exact⟨rfl,rfl,rfl,rfl,rfl⟩) h⟩
theorem Aun {f:Nat→Nat}{N:Nat}(h1 : ∀ i j,i<j→j<N→f i<f j)(h2 : ∀ i,i<N→f i<N) : ∀ i,i<N→f i=i:=by
 have lo : ∀ i,i<N→i≤f i:=by
  intro i
  induction i with
  | zero=>intro _; omega
  | succ i ih=>intro hi; have:=ih (by omega); have:=h1 i (i+1) (by omega) hi; omega
 have hi : ∀ d i,i+d+1=N→f i≤i:=by
  intro d
  induction d with
  | zero=>intro i h; have:=h2 i (by omega); omega
  | succ d ih=>intro i h; have:=ih (i+1) (by omega); have:=h1 i (i+1) (by omega) (by omega); omega
 intro i h
 have:=lo i h
 have:=hi (N - i - 1) i (by omega)
 omega
theorem Ap3 {l:List Int}{a b:Int}(hs:l.Pairwise (· < ·))(ha:a ∈ l)(hb:b ∈ l)(h:a<b):(Gj l a).toNat<(Gj l b).toNat:=by
 have h1:=Ul (Nf.2 ha)
 have h2:=Ul (Nf.2 hb)
 rcases Nat.lt_or_ge (Gj l a).toNat (Gj l b).toNat with q | q
 ·exact q
 ·exfalso
  have k1:=A8 h1
  have k2:=A8 h2
  rw [List.getElem?_eq_getElem k1] at h1
  rw [List.getElem?_eq_getElem k2] at h2
  have e1:=Option.some.inj h1
  have e2:=Option.some.inj h2
  rcases Nat.lt_or_ge (Gj l b).toNat (Gj l a).toNat with q' | q'
  ·have:=List.pairwise_iff_getElem.1 hs _ _ k2 k1 q'
   omega
  ·have e:(Gj l a).toNat=(Gj l b).toNat:=by omega
   simp only [e] at e1
   omega
def Rk (c:Clearing)(o:Opening):Nat:=(Gj c.Flights o.Flight).toNat * c.Slots.toNat+o.Slot.toNat
theorem Zk {c:Clearing}{o:Opening}(h:Wr c o):0≤o.Slot∧o.Slot<c.Slots:=by
 obtain⟨_,_,d,_,hV⟩:=h
 exact⟨hV.2.2.2.2.2.2.1,hV.2.2.2.2.2.2.2.1⟩
theorem Ao8 {c:Clearing}{o:Opening}(h:Wr c o):Rk c o<c.Flights.length * c.Slots.toNat:=by
 have h1:=Zk h
 have h2:=A8 (Ul (Nf.2 h.1))
 have h3:((Gj c.Flights o.Flight).toNat+1) * c.Slots.toNat≤c.Flights.length * c.Slots.toNat:=Nat.mul_le_mul_right _ h2
 rw [Nat.add_mul,Nat.one_mul] at h3
 unfold Rk
 omega
theorem Ar7 {c:Clearing}(hF:Formed c){a b:Opening}(ha:Wr c a)(hb:Wr c b)(h:K7 a b):Rk c a<Rk c b:=by
 have h1:=Zk ha
 have h2:=Zk hb
 unfold Rk
 rcases h with h | ⟨h,h'⟩
 ·have h3:=Ap3 hF.lt ha.1 hb.1 h
  have h4:((Gj c.Flights a.Flight).toNat+1) * c.Slots.toNat≤(Gj c.Flights b.Flight).toNat * c.Slots.toNat:=Nat.mul_le_mul_right _ h3
  rw [Nat.add_mul,Nat.one_mul] at h4
  omega
 ·rw [h]; omega
theorem Atq {c:Clearing}{a b:Opening}(ha:Wr c a)(hb:Wr c b)(h:Rk c a=Rk c b):a.Flight=b.Flight∧a.Slot=b.Slot:=by
 have h1:=Zk ha
 have h2:=Zk hb
 have hS:0<c.Slots.toNat:=by omega
 unfold Rk at h
 have e1:(Gj c.Flights a.Flight).toNat=(Gj c.Flights b.Flight).toNat:=by
  have q1:((Gj c.Flights a.Flight).toNat * c.Slots.toNat+a.Slot.toNat) / c.Slots.toNat=((Gj c.Flights b.Flight).toNat * c.Slots.toNat+b.Slot.toNat) / c.Slots.toNat:=by rw [h]
  rw [Nat.mul_comm,Nat.mul_add_div hS,Nat.mul_comm,Nat.mul_add_div hS,Nat.div_eq_of_lt (by omega),Nat.div_eq_of_lt (by omega)] at q1
  omega
 have f1:=Ul (Nf.2 ha.1)
 have f2:=Ul (Nf.2 hb.1)
 rw [e1] at f1 h
 rw [f1] at f2
 exact⟨Option.some.inj f2,by omega⟩
theorem Aq3 {c:Clearing}(hF:Formed c)(hO:Rx c)(hf:Am8 c)(k:Nat)(h:k<c.Openings.length):Rk c c.Openings[k]=k:=by
 have:=Aun (f:=fun i=>if h:i<c.Openings.length then Rk c c.Openings[i] else i) (N:=c.Openings.length) (fun i j hij hj=>by
  rw [dif_pos (by omega),dif_pos hj]
  exact Ar7 hF (hO.2 _ (List.getElem_mem _)) (hO.2 _ (List.getElem_mem _)) (List.pairwise_iff_getElem.1 hO.1 i j (by omega) hj hij)) (fun i hi=>by
  rw [dif_pos hi,hf]
  exact Ao8 (hO.2 _ (List.getElem_mem _))) k h
 rwa [dif_pos h] at this
theorem Amo {c:Clearing}(hF:Formed c)(hO:Rx c)(hf:Am8 c){o:Opening}(ho:Wr c o) : ∃ h:Rk c o<c.Openings.length,(c.Openings[Rk c o]'h).Flight=o.Flight∧(c.Openings[Rk c o]'h).Slot=o.Slot:=by
 have h:Rk c o<c.Openings.length:=by rw [hf]; exact Ao8 ho
 exact⟨h,Atq (hO.2 _ (List.getElem_mem _)) ho (Aq3 hF hO hf _ h)⟩
end Go.Am
namespace Go.Am
open Go
set_option linter.unusedVariables false
set_option linter.unusedSimpArgs false
def zC:Clearing:={ No:=0,Phase:=0,Slots:=0,Owners:=[],Flights:=[],Commitments:=[],Openings:=[],Outcome:=[] }
def Axh (c:Clearing)(i:Nat)(d:Vector Int 32):Clearing:={ c with Phase:=if zD ∈ c.Commitments.set i d then c.Phase else 2,Commitments:=c.Commitments.set i d }
theorem Sm.put {c:Clearing}{i:Nat}{d:Vector Int 32}(h:Sm c):Sm (Axh c i d):=⟨h.op,h.path,h.out⟩
theorem Formed.same {c x:Clearing}(h:Formed c)(e1:x.No=c.No)(e2:x.Slots=c.Slots)(e3:x.Flights=c.Flights)(e4:x.Owners=c.Owners)(e5:x.Commitments.length=c.Commitments.length):Formed x:=
 ⟨by rw [e1]; exact h.no,by rw [e2]; exact h.slots,by rw [e2,e3]; exact h.fl,by rw [e3,e4]; exact h.ow,by rw [e3]; exact h.lt,by rw [e3]; exact h.rng,by rw [e4]; exact h.own,by rw [e4,e5]; exact h.com⟩
def Xi (l:List Opening)(n:Nat)(o:Opening):List Opening:=l.take n++[o]++l.drop n
def At9 (c:Clearing)(o:Opening)(x:Clearing×Int):Prop:=
 (x.1=zC∧x.2≠0∧(¬ ValidC c∨c.Phase=1∨¬ Wr c o ∨ ∃ y ∈ c.Openings,y.Flight=o.Flight∧y.Slot=o.Slot∧y≠o)) ∨
 (x.2=0∧ValidC c∧c.Phase≠1∧Wr c o∧((o ∈ c.Openings∧x.1=c) ∨ ∃ n,n≤c.Openings.length∧(∀ y ∈ c.Openings.take n,K7 y o)∧(∀ y ∈ c.Openings.drop n,K7 o y)∧x.1={ c with Openings:=Xi c.Openings n o }))
theorem Ad9 {c:Clearing}(hV:ValidC c)(hp:c.Phase≠1):Rx c:=by
 rcases hV.phase with⟨h,_⟩ | ⟨_,_,h,_⟩ | ⟨_,h⟩
 ·exact absurd h hp
 ·exact h
 ·exact h.opn
theorem Aqk (a b:Opening)(h:¬ K7 a b)(h':¬ (a.Flight=b.Flight∧a.Slot=b.Slot)):K7 b a:=by unfold K7 at *; omega
theorem Asw (c:Clearing)(o:Opening)(hs:Sm c)(hp:o.Path.length≤1000):Au (Mf c o) (At9 c o):=by
 unfold Mf
 refine(Akp c hs).bind fun e he=>?_
 rcases he with⟨rfl,hV⟩ | ⟨rfl,hV⟩
 case inr=>
  rw [if_pos (by decide)]
  exact Au.ok (.inl ⟨rfl,by decide,.inl hV⟩)
 rw [if_neg (by decide)]
 by_cases h1:c.Phase=1
 ·rw [if_pos (by simpa using h1)]
  exact Au.ok (.inl ⟨rfl,by decide,.inr (.inl h1)⟩)
 rw [if_neg (by simpa using h1)]
 have hO:=Ad9 hV h1
 refine(Agf c o hV.formed hp).bind fun e he=>?_
 rcases he with⟨rfl,hA⟩ | ⟨he,hA⟩
 case inr=>
  have h0:e≠0:=by omega
  rw [if_pos (by simpa using h0)]
  exact Au.ok (.inl ⟨rfl,h0,.inr (.inr (.inl hA))⟩)
 rw [if_neg (by decide)]
 have hlen:=hs.op
 refine Au.bind (P:=fun r:Int×Bool×List Opening => ∃ n:Nat,r.1=(n:Int)∧n≤c.Openings.length∧(∀ k y,c.Openings[k]? = some y→k<n→K7 y o)∧(∀ k y,c.Openings[k]? = some y→n≤k→¬ K7 y o) ∧
   ((r.2.1=true∧r.2.2=c.Openings ∧ ∃ y,c.Openings[n]? = some y∧y.Flight=o.Flight∧y.Slot=o.Slot)∨(r.2.1=false∧r.2.2=Xi c.Openings n o∧¬ ∃ y,c.Openings[n]? = some y∧y.Flight=o.Flight∧y.Slot=o.Slot))) ?_ fun r hr=>?_
 ·unfold E2
  refine(Apx c.Openings o (by omega) hO.1).bind fun x hx=>?_
  obtain⟨n,x1,n1,n2,n3,n4⟩:=hx
  refine Au.ite (fun q=>Au.ok ⟨n,x1,n1,n2,n3,.inl ⟨rfl,rfl,n4.1 q⟩⟩) fun q=>?_
  unfold Ks
  rw [if_pos (by unfold Ci; omega),R.ok_bind]
  unfold Of Ta
  rw [x1,if_pos ⟨by omega,by omega,by simp,by simp only [List.length_singleton,Ci]; omega⟩,R.ok_bind,Int.toNat_natCast]
  refine Au.ok ⟨n,x1,n1,n2,n3,.inr ⟨rfl,rfl,fun h=>q (n4.2 h)⟩⟩
 obtain⟨n,r1,n1,n2,n3,n4⟩:=hr
 rcases n4 with⟨b1,b2,y,hy,hk⟩ | ⟨b1,b2,hno⟩
 ·rw [b1,if_pos rfl,r1,Qq hy,R.ok_bind]
  refine(Ath y o).bind fun q hq=>?_
  unfold J6
  by_cases hyo:y=o
  ·rw [hq.2 hyo,if_neg (by decide),b2]
   subst hyo
   exact Au.ok (.inr ⟨rfl,hV,h1,hA,.inl ⟨List.mem_of_getElem? hy,rfl⟩⟩)
  ·have:q=false:=by
    cases q with
    | false=>rfl
    | true=>exact absurd (hq.1 rfl) hyo
   rw [this,if_pos (by decide)]
   exact Au.ok (.inl ⟨rfl,by simp,.inr (.inr (.inr ⟨y,List.mem_of_getElem? hy,hk.1,hk.2,hyo⟩))⟩)
 ·rw [b1,if_neg (by decide)]
  unfold J6
  rw [if_neg (by decide),b2]
  refine Au.ok (.inr ⟨rfl,hV,h1,hA,.inr ⟨n,n1,fun y hy=>?_,fun y hy=>?_,rfl⟩⟩)
  ·obtain⟨k,hk,rfl⟩:=List.getElem_of_mem hy
   rw [List.length_take] at hk
   rw [List.getElem_take]
   exact n2 k _ (List.getElem?_eq_getElem (by omega)) (by omega)
  ·obtain⟨k,hk,rfl⟩:=List.getElem_of_mem hy
   rw [List.length_drop] at hk
   rw [List.getElem_drop]
   have hkl:n+k<c.Openings.length:=by omega
   have hget:=List.getElem?_eq_getElem hkl
   refine Aqk _ _ (n3 (n+k) _ hget (by omega)) fun heq=>?_
   rcases Nat.eq_zero_or_pos k with rfl | hkp
   ·exact hno ⟨_,hget,heq⟩
   ·have hnl:n<c.Openings.length:=by omega
    have hlt:=List.pairwise_iff_getElem.1 hO.1 n (n+k) hnl hkl (by omega)
    have hge:=n3 n _ (List.getElem?_eq_getElem hnl) (Nat.le_refl _)
    refine hge ?_
    unfold K7 at hlt ⊢
    omega
theorem Sm.ins {c:Clearing}{n:Nat}{o:Opening}(h:Sm c)(hl:c.Openings.length≤900)(ho:o.Path.length≤1000):Sm { c with Openings:=Xi c.Openings n o }:=by
 refine⟨?_,fun y hy=>?_,h.out⟩
 ·simp only [Xi,List.length_append,List.length_take,List.length_drop,List.length_singleton]; omega
 ·simp only [Xi,List.mem_append,List.mem_singleton] at hy
  rcases hy with(hy | rfl) | hy
  ·exact h.path y (List.mem_of_mem_take hy)
  ·exact ho
  ·exact h.path y (List.mem_of_mem_drop hy)
theorem Anc {l:List Opening}{n:Nat}{o y:Opening}:y ∈ Xi l n o↔y=o∨y ∈ l:=by
 simp only [Xi,List.mem_append,List.mem_singleton]
 constructor
 ·rintro((h | h) | h)
  ·exact .inr (List.mem_of_mem_take h)
  ·exact .inl h
  ·exact .inr (List.mem_of_mem_drop h)
 ·rintro(h | h)
  ·exact .inl (.inr h)
  ·rw [← List.take_append_drop n l,List.mem_append] at h
   rcases h with h | h
   ·exact .inl (.inl h)
   ·exact .inr h
theorem Apc {c:Clearing}{n:Nat}{o:Opening}(hO:Rx c)(hA:Wr c o)(h1 : ∀ y ∈ c.Openings.take n,K7 y o)(h2 : ∀ y ∈ c.Openings.drop n,K7 o y):Rx { c with Openings:=Xi c.Openings n o }:=by
 refine⟨?_,fun y hy=>?_⟩
 ·show(Xi c.Openings n o).Pairwise K7
  unfold Xi
  rw [List.append_assoc,List.pairwise_append]
  refine⟨hO.1.sublist (List.take_sublist _ _),?_,fun a ha b hb=>?_⟩
  ·rw [List.singleton_append,List.pairwise_cons]
   exact⟨h2,hO.1.sublist (List.drop_sublist _ _)⟩
  ·rw [List.singleton_append,List.mem_cons] at hb
   rcases hb with rfl | hb
   ·exact h1 a ha
   ·exact(h1 a ha).trans (h2 b hb)
 ·show Wr c y
  rcases Anc.1 hy with rfl | hy
  ·exact hA
  ·exact hO.2 y hy
theorem Arg {c:Clearing}{n:Nat}{o:Opening}(hV:ValidC c)(hp:c.Phase≠1)(hA:Wr c o)(h1 : ∀ y ∈ c.Openings.take n,K7 y o)(h2 : ∀ y ∈ c.Openings.drop n,K7 o y):ValidC { c with Openings:=Xi c.Openings n o }∧c.Phase=2:=by
 have hF':Formed { c with Openings:=Xi c.Openings n o }:=hV.formed.same rfl rfl rfl rfl rfl
 rcases hV.phase with⟨h,_⟩ | ⟨k1,k2,k3,k4⟩ | ⟨_,k⟩
 ·exact absurd h hp
 ·exact⟨⟨hF',.inr (.inl ⟨k1,k2,Apc k3 hA h1 h2,k4⟩)⟩,k1⟩
 ·exfalso
  obtain⟨hr,e1,e2⟩:=Amo hV.formed k.opn k.full hA
  have hmem:c.Openings[Rk c o] ∈ c.Openings:=List.getElem_mem hr
  have:c.Openings[Rk c o] ∈ c.Openings.take n++c.Openings.drop n:=by rw [List.take_append_drop]; exact hmem
  rcases List.mem_append.1 this with q | q
  ·have:=h1 _ q; unfold K7 at this; omega
  ·have:=h2 _ q; unfold K7 at this; omega
theorem Asc (c:Clearing)(hs:Sm c):Au (Iw c) fun x=>(x=(exR c,0)∧ValidC c∧Am8 c)∨(x.2=401∧ValidC c∧¬ Am8 c)∨(x.2=400∧¬ ValidC c):=by
 unfold Iw
 refine(Akp c hs).bind fun e he=>?_
 rcases he with⟨rfl,hV⟩ | ⟨rfl,hV⟩
 case inr=>rw [if_pos (by decide)]; exact Au.ok (.inr (.inr ⟨rfl,hV⟩))
 have hfl:=hV.formed.fl; have hsl:=hV.formed.slots
 rw [if_neg (by decide),Agl c hsl (by omega),R.ok_bind]
 by_cases hf:c.Openings.length=c.Flights.length * c.Slots.toNat
 ·rw [if_pos hf,if_pos rfl]; exact Au.ok (.inl ⟨rfl,hV,hf⟩)
 ·rw [if_neg hf,if_neg (by decide)]; exact Au.ok (.inr (.inl ⟨rfl,hV,hf⟩))
theorem Aqj (a b:List (Vector Int 32)):Au (V9 a b) fun r=>(r=true↔a=b):=by
 unfold V9
 refine Au.ite (fun q=>Au.ok ⟨fun e=>absurd e (by decide),fun e=>by subst e; simp at q⟩) fun q=>?_
 refine Ajs a b (by have this:¬ ((a.length:Int)≠(b.length:Int)):=(by simpa using q); omega) fun j x y hj=>?_
 unfold R5
 rw [Qq hj,R.ok_bind]
 by_cases h:x=y
 ·rw [if_pos (by simpa using h),if_pos h]
 ·rw [if_neg (by simpa using h),if_neg h]
theorem Ar6 (a b:Opening):Au (Nj a b) fun r=>(r=true↔a=b):=by
 unfold Nj
 by_cases h:a.Airline=b.Airline∧a.Flight=b.Flight∧a.Slot=b.Slot∧a.Cost=b.Cost∧a.Salt=b.Salt
 ·obtain⟨h1,h2,h3,h4,h5⟩:=h
  rw [if_pos (by simp [h1,h2,h3,h4,h5])]
  refine Au.bind ((Aqj a.Path b.Path).bind fun r hr=>Au.ok hr) fun r hr=>Au.ok ?_
  rw [hr]
  obtain⟨a1,a2,a3,a4,a5,a6⟩:=a
  obtain⟨b1,b2,b3,b4,b5,b6⟩:=b
  simp only at h1 h2 h3 h4 h5
  subst h1 h2 h3 h4 h5
  simp
 ·rw [if_neg (fun q=>h (by
   simp only [Bool.and_eq_true,beq_iff_eq] at q
   obtain⟨⟨⟨⟨q1,q2⟩,q3⟩,q4⟩,q5⟩:=q
   exact⟨q1,q2,q3,q4,q5⟩))]
  exact Au.ok ⟨fun e=>absurd e (by decide),fun e=>absurd (by subst e; exact⟨rfl,rfl,rfl,rfl,rfl⟩) h⟩
end Go.Am
namespace Go.Am
open Go
set_option linter.unusedVariables false
set_option linter.unusedSimpArgs false
structure FewC (c:Clearing):Prop where
 fl:c.Flights.length≤4
 ow:c.Owners.length≤6
 slots:c.Slots≤5
 com:c.Commitments.length≤8
 op:c.Openings.length≤30
 out:c.Outcome.length≤10
 path : ∀ o ∈ c.Openings,o.Path.length≤12
theorem FewC.sm {c:Clearing}(h:FewC c):Sm c:=⟨by have:=h.op; omega,fun o ho=>by have:=h.path o ho; omega,by have:=h.out; omega⟩
theorem Au7 (c:Clearing):Au (X4 c) fun r=>r=true→FewC c:=by
 unfold X4
 refine(Au.each (b:=fun _ a=>fun _=>Q3 a) (I:=fun n (_:Unit) => ∀ o ∈ c.Openings.take n,o.Path.length≤12) (E:=fun r:Bool=>r=false) c.Openings 0 () (by simp) fun j a _ hj hI=>?_).bind fun x hx=>Au.alt hx (fun u hu=>Au.ok fun h=>?_) fun r hr=>Au.ok fun h=>by rw [hr] at h; exact absurd h (by decide)
 ·simp only [Nat.zero_add] at hI ⊢
  unfold Q3
  refine Au.ite (fun _=>Au.ok rfl) fun q=>Au.ok fun o ho=>?_
  have ht1:c.Openings.take (j+1)=c.Openings.take j++[a]:=by rw [List.take_add_one,hj]; rfl
  rw [ht1,List.mem_append,List.mem_singleton] at ho
  rcases ho with ho | rfl
  ·exact hI o ho
  ·omega
 ·simp only [Za,Nat.zero_add,List.take_length] at hu
  simp only [Bool.and_eq_true,decide_eq_true_eq] at h
  obtain⟨⟨⟨⟨⟨h1,h2⟩,h3⟩,h4⟩,h5⟩,h6⟩:=h
  exact⟨by omega,by omega,by omega,by omega,by omega,by omega,hu⟩
theorem Apd {c:Clearing}{o:Opening}{x:Clearing×Int}(hs:Sm c)(hl:c.Openings.length≤900)(hp:o.Path.length≤1000)(h:At9 c o x)(h0:x.2=0) :
  Sm x.1∧ValidC x.1∧x.1.Phase=c.Phase∧x.1.Phase≠1∧Wr x.1 o∧o ∈ x.1.Openings∧c.Openings.length≤x.1.Openings.length:=by
 rcases h with⟨_,h,_⟩ | ⟨_,hV,h1,hA,⟨hm,e⟩ | ⟨n,n1,n2,n3,e⟩⟩
 ·exact absurd h0 h
 ·rw [e]; exact⟨hs,hV,rfl,h1,hA,hm,Nat.le_refl _⟩
 ·rw [e]
  refine⟨hs.ins hl hp,(Arg hV h1 hA n2 n3).1,rfl,h1,hA,Anc.2 (.inl rfl),?_⟩
  simp only [Xi,List.length_append,List.length_take,List.length_drop,List.length_singleton]; omega
end Go.Am
namespace Go.Am
open Go
set_option linter.unusedVariables false
set_option linter.unusedSimpArgs false
theorem Wu {α β:Type}{l:List α}{n:Int}{f:α→R β}{Q:β→Prop}(h0:0≤n)(h1:n<(l.length:Int))(k : ∀ a,l[n.toNat]? = some a→Au (f a) Q):Au ((idx l n).bind f) Q:=(Au.idx (P:=fun a=>l[n.toNat]? = some a) h0 h1 fun _ h=>h).bind k
theorem Akk (l:List Int)(a:Int)(j:Nat)(x:Int)(h:l[j]? = some x):((l.take (j+1)).count a:Int)=((l.take j).count a:Int)+(if x=a then 1 else 0):=by
 have ht:l.take (j+1)=l.take j++[x]:=by rw [List.take_add_one,h]; rfl
 rw [ht,List.count_append,List.count_singleton]
 by_cases hx:x=a
 ·rw [if_pos (by simpa using hx),if_pos hx]; rfl
 ·rw [if_neg (by simpa using hx),if_neg hx]; rfl
theorem Aob (l:List Int)(a:Int)(j:Nat):((l.take j).count a:Int)≤(l.length:Int):=by
 have h1:=List.count_le_length (a:=a) (l:=l.take j)
 have h2:(l.take j).length≤l.length:=by rw [List.length_take]; omega
 omega
theorem Ar9 (owners:List Int)(a:Int)(hl:owners.length≤1048576):Wa owners a=.ok (many owners a):=by
 refine Au.eq ?_
 unfold Wa
 refine(Au.eachS (I:=fun j n=>n=((owners.take j).count a:Int)) owners 0 0 (by simp) fun j x n hj hI=>?_).bind fun n hn=>Au.ok ?_
 ·simp only [Nat.zero_add] at hI ⊢
  unfold R1
  rw [Akk owners a j x hj]
  have:=Aob owners a j
  refine Au.ite (fun h=>Au.ok ?_) fun h=>Au.ok ?_
  ·rw [if_pos (by simpa using h),Ma (by omega) (by omega),hI]
  ·rw [if_neg (by simpa using h),hI]; omega
 ·simp only [Nat.zero_add,List.take_length] at hn
  exact hn
theorem Arw (owners:List Int)(hl:owners.length≤1048576):Ka owners=.ok (T0 owners):=by
 refine Au.eq ?_
 unfold Ka
 refine(Au.eachS (I:=fun j l=>j≤8→l=((List.range j).map fun n:Nat=>(n:Int)).filter fun a=>decide (a ∈ owners)) (List.range 8) 0 [] (fun _=>rfl) fun j x l hj hI=>?_).bind fun l hl=>Au.ok ?_
 ·have hj8:j<8:=by
   have:=(List.getElem?_eq_some_iff.1 hj).1
   simpa using this
  simp only [Nat.zero_add] at hI ⊢
  have hI:=hI (by omega)
  unfold Nn
  rw [Ar9 owners _ hl,R.ok_bind]
  have hc:many owners (j:Int) > 0↔(j:Int) ∈ owners:=by
   unfold many
   have:=List.count_pos_iff (a:=(j:Int)) (l:=owners)
   constructor
   ·intro h; exact this.1 (by omega)
   ·intro h; have:=this.2 h; omega
  have hr : ∀ q:Prop,(((List.range (j+1)).map fun n:Nat=>(n:Int)).filter fun a=>decide (a ∈ owners))=l++(if(j:Int) ∈ owners then [(j:Int)] else []):=fun _=>by
   rw [List.range_succ,List.map_append,List.filter_append,← hI]
   by_cases h:(j:Int) ∈ owners <;> simp [h]
  have hlen:l.length≤8:=by
   rw [hI]; refine Nat.le_trans (List.length_filter_le _ _) ?_
   rw [List.length_map,List.length_range]; omega
  refine Au.ite (fun h=>?_) fun h=>Au.ok fun _=>?_
  ·rw [if_pos (by simp only [List.length_singleton,Ci]; omega)]
   refine Au.ok fun _=>?_
   rw [hr True,if_pos (hc.1 h)]
  ·rw [hr True,if_neg (fun q=>h (hc.2 q)),List.append_nil]
 ·simp only [Nat.zero_add,List.length_range] at hl
  exact hl (Nat.le_refl _)
theorem Asj (b:Opening)(l:List Int)(hl:l.length≤1000)(hm:b.Airline ∈ l):Au (loop (fun x4=>F5 b l x4) 0) fun x=>0≤x∧x<(l.length:Int)∧l[x.toNat]? = some b.Airline:=by
 refine Au.loop (I:=fun x:Int=>0≤x∧x≤(l.length:Int) ∧ ∀ i:Nat,(i:Int)<x→l[i]? ≠ some b.Airline) (E:=fun x=>0≤x∧x<(l.length:Int)∧l[x.toNat]? = some b.Airline) (fun x=>l.length - x.toNat) (fun x hx=>?_) l.length 0 (by omega) ⟨by omega,by omega,fun i hi=>by omega⟩
 obtain⟨h0,h1,h2⟩:=hx
 unfold F5
 have hlt:x<(l.length:Int):=by
  refine Decidable.byContradiction fun hn=>?_
  obtain⟨i,hi,e⟩:=List.getElem_of_mem hm
  exact h2 i (by omega) (by rw [List.getElem?_eq_getElem hi,e])
 rw [if_pos (by simpa using hlt)]
 refine Wu h0 hlt fun y hy=>?_
 unfold I9
 refine Au.ite (fun h=>Au.ok ?_) fun h=>Au.ok ⟨h0,hlt,?_⟩
 ·have hne:y≠b.Airline:=by simpa using h
  show(0≤IntKind.wrap .i64 (x+1)∧_∧_)∧_
  rw [Ma (by omega) (by omega)]
  refine⟨⟨by omega,by omega,fun i hi=>?_⟩,by omega⟩
  by_cases hq:(i:Int)<x
  ·exact h2 i hq
  ·have:i=x.toNat:=by omega
   rw [this,hy]
   exact fun e=>hne (Option.some.inj e)
 ·have he:y=b.Airline:=by simpa using h
  rw [hy,he]
theorem Aj9 {l:List Int}{v:Int}(hs:l.Pairwise (· < ·)){i:Nat}(hi:l[i]? = some v):Gj l v=(i:Int):=by
 have hm:v ∈ l:=List.mem_of_getElem? hi
 have h0:=Nf.2 hm
 have hg:=Ul h0
 have h1:=(List.getElem?_eq_some_iff.1 hi)
 have h2:=(List.getElem?_eq_some_iff.1 hg)
 obtain⟨q1,e1⟩:=h1
 obtain⟨q2,e2⟩:=h2
 rcases Nat.lt_trichotomy i (Gj l v).toNat with h | h | h
 ·have:=List.pairwise_iff_getElem.1 hs i _ q1 q2 h; omega
 ·omega
 ·have:=List.pairwise_iff_getElem.1 hs _ i q2 q1 h; omega
theorem Att {l:List Opening}(hs:l.Pairwise K7){a b:Opening}(ha:a ∈ l)(hb:b ∈ l)(e1:a.Flight=b.Flight)(e2:a.Slot=b.Slot):a=b:=by
 obtain⟨i,hi,rfl⟩:=List.getElem_of_mem ha
 obtain⟨j,hj,rfl⟩:=List.getElem_of_mem hb
 rcases Nat.lt_trichotomy i j with h | h | h
 ·have:=List.pairwise_iff_getElem.1 hs i j hi hj h; unfold K7 at this; omega
 ·subst h; rfl
 ·have:=List.pairwise_iff_getElem.1 hs j i hj hi h; unfold K7 at this; omega
theorem law_RoundsOpenings (hsane:Rm=.ok true):Mw:=by
 intro a b _ _ _
 refine Au.eq ?_
 unfold Nu
 rw [hsane,R.ok_bind,if_pos rfl]
 refine(Au7 a).bind fun fw hfw=>?_
 by_cases hf:fw=true∧b.Path.length≤12
 case neg=>
  rw [if_pos (by
   simp only [Bool.or_eq_true,Bool.not_eq_true',decide_eq_true_eq]
   cases fw with
   | false=>exact .inl rfl
   | true=>exact .inr (Int.ofNat_lt.2 (Nat.lt_of_not_le fun h=>hf ⟨rfl,h⟩)))]
  exact Au.ok rfl
 obtain⟨hft,hdp⟩:=hf
 have hF:=hfw hft
 have hs:=hF.sm
 rw [if_neg (by rw [hft]; simp; omega)]
 obtain⟨x,e4,h4⟩:=Asw a b hs (by omega)
 rw [e4]
 simp only [R.ok_bind]
 have k4:=Apd (x:=x) hs (by have:=hF.op; omega) (by omega) h4
 by_cases h:x.2=0
 case neg=>
  rw [if_pos (by simpa using h)]
  rcases h4 with⟨e,_,_⟩ | ⟨e,_⟩
  ·rw [e]; exact Au.ok rfl
  ·exact absurd e h
 rw [if_neg (by simpa using h)]
 obtain⟨q1,hV,_,hp1,hA,hmem,_⟩:=k4 h
 obtain⟨c,ex⟩:=x
 simp only at q1 hV hp1 hA hmem
 have hFo:=hV.formed
 have hO:=Ad9 hV hp1
 have hf8:c.Flights.length≤8:=by have:=hFo.fl; have:=hFo.slots; omega
 have how:=hFo.ow
 obtain⟨hfl,hown,d,hd,hver⟩:=id hA
 have hix0:=Nf.2 hfl
 have hixg:=Ul hix0
 have hixl:=Aje (l:=c.Flights) (v:=b.Flight)
 have hao:b.Airline ∈ c.Owners:=List.mem_of_getElem? hown
 have hin:=hFo.own _ hao
 have haa:b.Airline ∈ T0 c.Owners:=Ahn.2 ⟨hin,hao⟩
 refine(Au.eachS (I:=fun j (y:Int×Int)=>y.1=(if Gj c.Flights b.Flight<(j:Int) then Gj c.Flights b.Flight else -1)∧y.2=((c.Owners.take j).count b.Airline:Int)) c.Flights 0 (-1,0) ⟨by rw [if_neg (by simpa using hix0)],by simp⟩ fun j f y hj hI=>?_).bind fun y hy=>?_
 ·simp only [Nat.zero_add] at hI ⊢
  obtain⟨x0,x1⟩:=y
  obtain⟨i1,i2⟩:=hI
  simp only at i1 i2
  have hjl:=(List.getElem?_eq_some_iff.1 hj).1
  have hj1 : ∀ x3:Int,x3=(if Gj c.Flights b.Flight<((j+1:Nat):Int) then Gj c.Flights b.Flight else -1) →
    Au (Hf b (c,ex) x1 j x3) fun y=>y.1=(if Gj c.Flights b.Flight<((j+1:Nat):Int) then Gj c.Flights b.Flight else -1)∧y.2=((c.Owners.take (j+1)).count b.Airline:Int):=fun x3 h3=>by
   unfold Hf
   refine Wu (by omega) (by show(j:Int)<(c.Owners.length:Int); omega) fun o ho=>?_
   have ho:c.Owners[j]? = some o:=by simpa using ho
   rw [Akk c.Owners b.Airline j o ho]
   have:=Aob c.Owners b.Airline j
   refine Au.ite (fun hq=>Au.ok ⟨h3,?_⟩) fun hq=>Au.ok ⟨h3,?_⟩
   ·rw [if_pos (by simpa using hq)]
    show IntKind.wrap .i64 (x1+1)=_
    rw [Ma (by omega) (by omega),i2]
   ·rw [if_neg (by simpa using hq)]
    show x1=_
    omega
  show Au (Hd b (c,ex) j f x0 x1) _
  unfold Hd
  refine Au.ite (fun hq=>hj1 _ ?_) fun hq=>hj1 _ ?_
  ·have he:f=b.Flight:=by simpa using hq
   rw [Aj9 hFo.lt (he ▸ hj),if_pos (by omega)]
  ·have hne:f≠b.Flight:=by simpa using hq
   have:Gj c.Flights b.Flight≠(j:Int):=fun e=>by
    rw [e] at hixg
    have:c.Flights[j]? = some b.Flight:=by simpa using hixg
    rw [hj] at this
    exact hne (Option.some.inj this)
   rw [i1]
   by_cases hq2:Gj c.Flights b.Flight<(j:Int)
   ·rw [if_pos hq2,if_pos (by omega)]
   ·rw [if_neg hq2,if_neg (by omega)]
 obtain⟨y0,y1⟩:=y
 obtain⟨hy0,hy1⟩:=hy
 simp only [Nat.zero_add] at hy0 hy1
 rw [if_pos hixl] at hy0
 have hy1:y1=many c.Owners b.Airline:=by rw [hy1,← how,List.take_length]; rfl
 show Au ((Ka c.Owners).bind _) _
 rw [Arw c.Owners (by omega),R.ok_bind]
 refine(Asj b (T0 c.Owners) (by have:=Atg c.Owners; omega) haa).bind fun x6 hx6=>?_
 obtain⟨h60,h61,h62⟩:=hx6
 have hx6e:Gj (T0 c.Owners) b.Airline=x6:=by rw [Aj9 (Aok c.Owners) h62]; omega
 unfold G8
 rw [if_neg (by simp only [decide_eq_true_eq]; omega),if_neg (by have:=hFo.com; simp only [decide_eq_true_eq]; omega)]
 refine Wu (by omega) (by show y0<(c.Owners.length:Int); omega) fun o ho=>?_
 have ho':o=b.Airline:=by
  have:c.Owners[y0.toNat]? = some o:=ho
  rw [hy0,hown] at this
  exact(Option.some.inj this).symm
 rw [if_neg (by rw [ho']; simp)]
 refine Wu h60 (by show x6<(c.Commitments.length:Int); have:=hFo.com; omega) fun d' hd'=>?_
 have hdd:d'=d:=by
  have:c.Commitments[x6.toNat]? = some d':=hd'
  rw [← hx6e,hd] at this
  exact(Option.some.inj this).symm
 rw [hdd,hy1]
 obtain⟨ev,hev,hvP⟩:=Aij d b.Airline (many c.Owners b.Airline) c.Slots b (by omega)
 show Au ((Gx d b.Airline (many c.Owners b.Airline) c.Slots b).bind _) _
 rw [hev,R.ok_bind]
 rcases hvP with⟨rfl,_⟩ | ⟨_,hn⟩
 case inr=>exact absurd hver hn
 unfold F3
 rw [if_neg (by decide)]
 refine(Au.eachS (I:=fun j (r:Bool)=>r=true↔b ∈ c.Openings.take j) c.Openings 0 false (by simp) fun j o r hj hI=>?_).bind fun r hr=>?_
 ·simp only [Nat.zero_add] at hI ⊢
  have ht:c.Openings.take (j+1)=c.Openings.take j++[o]:=by rw [List.take_add_one,hj]; rfl
  rw [ht,List.mem_append,List.mem_singleton,← hI]
  show Au (G9 b o r) _
  unfold G9
  cases r with
  | true=>rw [if_pos rfl]; exact Au.ok (by simp)
  | false=>
   rw [if_neg (by decide)]
   obtain⟨q,eq,hq⟩:=Ar6 o b
   rw [eq]
   exact Au.ok (by rw [hq]; simp [eq_comm])
 simp only [Nat.zero_add,List.take_length] at hr
 have hr:r=true:=hr.2 hmem
 obtain⟨z,ez,hz⟩:=Asc c q1
 show Au ((Iw c).bind _) _
 rw [ez,R.ok_bind,if_pos hr]
 rcases hz with⟨rfl,_,hfull⟩ | ⟨h401,_,_⟩ | ⟨_,hn⟩
 ·rw [if_neg (show ¬ ((0:Int)==401)=true by decide),if_pos (show((0:Int)==0)=true by decide)]
  have hsl:=Zk hA
  obtain⟨hk,hk1,hk2⟩:=Amo hFo hO hfull hA
  have hb:c.Openings[Rk c b]'hk=b:=Att hO.1 (List.getElem_mem hk) hmem hk1 hk2
  have hrk:Rk c b=y0.toNat * c.Slots.toNat+b.Slot.toNat:=by unfold Rk; rw [hy0]
  have hlen:(exR c).Costs.length=c.Flights.length:=by simp [exR,Abr]
  refine Wu (by omega) (by rw [hlen]; omega) fun row hrow=>?_
  have hrow':row=((c.Openings.drop (y0.toNat * c.Slots.toNat)).take c.Slots.toNat).map (·.Cost):=by
   simp only [exR,Abr,List.getElem?_map] at hrow
   rw [List.getElem?_range (by omega)] at hrow
   exact(Option.some.inj hrow).symm
  have hlr:row.length=c.Slots.toNat:=by
   rw [hrow',List.length_map,List.length_take,List.length_drop,hfull]
   have h1:(y0.toNat+1) * c.Slots.toNat≤c.Flights.length * c.Slots.toNat:=Nat.mul_le_mul_right _ (by omega)
   rw [Nat.add_mul,Nat.one_mul] at h1
   omega
  rw [if_pos (by simp only [decide_eq_true_eq]; omega)]
  refine Wu hsl.1 (by omega) fun v hv=>Au.ok ?_
  rw [hrow',List.getElem?_map,List.getElem?_take_of_lt (by omega),List.getElem?_drop,← hrk,List.getElem?_eq_getElem hk,hb] at hv
  simpa using (Option.some.inj hv).symm
 ·rw [if_pos (by rw [h401]; rfl)]; exact Au.ok rfl
 ·exact absurd hV hn
end Go.Am
namespace Go.Am
open Go
set_option linter.unusedVariables false
def Le {α:Type}(x y:R α):Prop:=x=.bad∨x=y
theorem Le.refl {α:Type}(x:R α):Le x x:=.inr rfl
theorem Qf {α:Type}{x y:R α}{a:α}(h:Le x y)(hx:x=.ok a):y=.ok a:=by
 rcases h with h | h
 ·rw [h] at hx; cases hx
 ·rw [← h]; exact hx
theorem Bt {α β:Type}{x y:R α}{f g:α→R β}(h:Le x y)(hf : ∀ a,Le (f a) (g a)):Le (x.bind f) (y.bind g):=by
 rcases h with rfl | rfl
 ·exact .inl rfl
 ·cases x with
  | ok a=>exact hf a
  | pan v=>exact .inr rfl
  | bad=>exact .inl rfl
theorem Cw {α:Type}{c:Prop}[Decidable c]{x y x' y':R α}(h:Le x x')(h':Le y y'):Le (if c then x else y) (if c then x' else y'):=by
 split
 ·exact h
 ·exact h'
theorem Xa {α:Type}{x y:R α}{f:PV→R α}(h:Le x y):Le (x.catch' f) (y.catch' f):=by
 rcases h with rfl | rfl
 ·exact .inl rfl
 ·exact .inr rfl
theorem Sj {α:Type}{x y:R α}(h:Le x y):Le x.np y.np:=by
 rcases h with rfl | rfl
 ·exact .inl rfl
 ·exact .inr rfl
theorem N6 {α σ ε:Type}{b b':Nat→α→σ→R (σ ⊕ ε)}(h : ∀ j a s,Le (b j a s) (b' j a s)) : ∀ (k:Nat) (l:List α) (s:σ),Le (each b k l s) (each b' k l s)
 | k,[],s=>.inr rfl
 | k,a::l,s=>by
  rw [Q8,Q8]
  refine Bt (h k a s) fun x=>?_
  cases x with
  | inl s'=>exact N6 h (k+1) l s'
  | inr e=>exact .inr rfl
theorem Il {α σ:Type}{b b':Nat→α→σ→R σ}(h : ∀ j a s,Le (b j a s) (b' j a s)) : ∀ (k:Nat) (l:List α) (s:σ),Le (eachS b k l s) (eachS b' k l s)
 | k,[],s=>.inr rfl
 | k,a::l,s=>by
  rw [P4,P4]
  exact Bt (h k a s) fun x=>Il h (k+1) l x
theorem Aoy {σ ε:Type}{b b':σ→R (σ ⊕ ε)}(h : ∀ s,Le (b s) (b' s)) : ∀ (n:Nat) (s:σ),Le (Ho b n s) (Ho b' n s)
 | 0,s=>.inl rfl
 | n+1,s=>by
  rw [Ho,Ho]
  refine Bt (h s) fun x=>?_
  cases x with
  | inl s'=>exact Aoy h n s'
  | inr e=>exact .inr rfl
def Pp {σ ε:Type}(n:Nat)(body:σ→R (σ ⊕ ε))(s:σ):R ε:=Ho body n s
theorem Kc {σ ε:Type}{b b':σ→R (σ ⊕ ε)}(h : ∀ s,Le (b s) (b' s))(n:Nat)(s:σ):Le (Pp n b s) (loop b' s):=by
 unfold Pp
 rcases Aoy h n s with e | e
 ·exact .inl e
 ·by_cases hb:Ho b' n s=.bad
  ·exact .inl (e.trans hb)
  ·exact .inr (e.trans (U4 hb).symm)
section
variable {α β γ δ ε ζ κ:Type}
theorem Ky {f f':α→R κ}{g g':β→R κ}(hf : ∀ a,Le (f a) (f' a))(hg : ∀ b,Le (g b) (g' b))(s:α ⊕ β):Le (alt f g s) (alt f' g' s):=by
 cases s with
 | inl a=>exact hf a
 | inr b=>exact hg b
theorem Pz {f g:α→β→R κ}(h : ∀ a b,Le (f a b) (g a b))(p:α×β):Le (Do f p) (Do g p):=h _ _
theorem S1 {f g:α→β→γ→R κ}(h : ∀ a b c,Le (f a b c) (g a b c))(p:α×β×γ):Le (Sn f p) (Sn g p):=h _ _ _
theorem Abg {f g:α→β→γ→δ→R κ}(h : ∀ a b c d,Le (f a b c d) (g a b c d))(p:α×β×γ×δ):Le (un4 f p) (un4 g p):=h _ _ _ _
theorem Abk {f g:α→β→γ→δ→ε→R κ}(h : ∀ a b c d e,Le (f a b c d e) (g a b c d e))(p:α×β×γ×δ×ε):Le (un5 f p) (un5 g p):=h _ _ _ _ _
end
def Ahl (a:Int):List Int→List Int
 | []=>[a]
 | b::l=>if a≤b then a::b::l else b::Ahl a l
def Abj:List Int→List Int
 | []=>[]
 | a::l=>Ahl a (Abj l)
theorem Ae9 (a:Int) : ∀ l,(Ahl a l).Perm (a::l)
 | []=>.refl _
 | b::l=>by
  unfold Ahl
  split
  ·exact .refl _
  ·exact((Ae9 a l).cons b).trans (.swap a b l)
theorem Agp : ∀ l,(Abj l).Perm l
 | []=>.refl _
 | a::l=>(Ae9 a (Abj l)).trans ((Agp l).cons a)
theorem Ago (a:Int) : ∀ l:List Int,l.Pairwise (· ≤ ·)→(Ahl a l).Pairwise (· ≤ ·)
 | [],_=>by simp [Ahl]
 | b::l,h=>by
  have h':=List.pairwise_cons.1 h
  unfold Ahl
  split
  ·rename_i hab
   refine List.pairwise_cons.2 ⟨fun x hx=>?_,h⟩
   rcases List.mem_cons.1 hx with rfl | hx
   ·exact hab
   ·have:=h'.1 x hx; omega
  ·rename_i hab
   refine List.pairwise_cons.2 ⟨fun x hx=>?_,Ago a l h'.2⟩
   rcases List.mem_cons.1 ((Ae9 a l).mem_iff.1 hx) with rfl | hx
   ·omega
   ·exact h'.1 x hx
theorem Ado : ∀ l:List Int,(Abj l).Pairwise (· ≤ ·)
 | []=>.nil
 | a::l=>Ago a _ (Ado l)
theorem Adl : ∀ {a b:List Int},a.Perm b→a.Pairwise (· ≤ ·)→b.Pairwise (· ≤ ·)→a=b
 | [],b,h,_,_=>by rw [List.Perm.nil_eq h]
 | x::a,[],h,_,_=>by have:=h.length_eq; simp at this
 | x::a,y::b,h,ha,hb=>by
  have ha':=List.pairwise_cons.1 ha
  have hb':=List.pairwise_cons.1 hb
  have h1:x=y:=by
   have hx:x ∈ y::b:=h.mem_iff.1 (List.mem_cons_self ..)
   have hy:y ∈ x::a:=h.mem_iff.2 (List.mem_cons_self ..)
   rcases List.mem_cons.1 hx with e | hx
   ·exact e
   ·rcases List.mem_cons.1 hy with e | hy
    ·exact e.symm
    ·have:=ha'.1 y hy; have:=hb'.1 x hx; omega
  subst h1
  rw [Adl (List.Perm.cons_inv h) ha'.2 hb'.2]
theorem Uu (l:List Int):Pe l=Abj l:=by
 refine Adl ((List.mergeSort_perm l _).trans (Agp l).symm) ?_ (Ado l)
 have:=List.pairwise_mergeSort (le:=fun x y:Int=>decide (x≤y)) (fun a b c h1 h2=>by simp at *; omega) (fun a b=>by simp; omega) l
 exact this.imp fun h=>by simpa using h
end Go.Am
namespace Go.Am
open Go
set_option linter.unusedVariables false
set_option maxRecDepth 100000
def J2 (b:List Int)(s:(Vector Int 8)):R (Vector Int 8):=
 (eachS (fun j _=>fun o=>H1 b j o) 0 (List.range 16) (B5 64 0)).bind ((fun o=>(Pp 80 (Do fun x1 o1=>Ff x1 o1) (16,o)).bind (fun o2=>Gr s o2)))
theorem O5 (b:List Int)(s:(Vector Int 8)):Le (J2 b s) (Ep b s):=by
 unfold J2 Ep
 with_reducible repeat' first | exact Le.refl _ | exact hW .. | exact hb .. | apply Kc | apply Bt | apply Cw | apply N6 | apply Il | apply Xa | apply Ky | apply Pz | apply S1 | apply Abg | apply Abk | apply Sj | (rw [Uu]; exact Le.refl _) | intro _
def V2 (rest:List Int)(o:(Vector Int 8)):R (((List Int)×(Vector Int 8)) ⊕ ((List Int)×(Vector Int 8))):=
 if(rest.length:Int)≥64 then
(if(0:Int)≤64∧64≤(rest.length:Int) then
 (J2 (rest.take (Int.toNat 64)) o).bind fun r=>
 if(0:Int)≤64∧64≤(rest.length:Int) then
 .ok (.inl ((rest.drop (Int.toNat 64)),r)) else .bad else .bad)
else
(.ok (.inr ((rest,o))))
theorem Af5 (rest:List Int)(o:(Vector Int 8)):Le (V2 rest o) (La rest o):=by
 unfold V2 La
 with_reducible repeat' first | exact Le.refl _ | exact hW .. | exact hb .. | exact O5 .. | apply Kc | apply Bt | apply Cw | apply N6 | apply Il | apply Xa | apply Ky | apply Pz | apply S1 | apply Abg | apply Abk | apply Sj | (rw [Uu]; exact Le.refl _) | intro _
def V5 (vend:List Int)(o2:(Vector Int 8)):R (((List Int)×(Vector Int 8)) ⊕ (Vector Int 8)):=
 if(vend.length:Int) > 0 then
(if(0:Int)≤64∧64≤(vend.length:Int) then
 (J2 (vend.take (Int.toNat 64)) o2).bind fun r2=>
 if(0:Int)≤64∧64≤(vend.length:Int) then
 .ok (.inl ((vend.drop (Int.toNat 64)),r2)) else .bad else .bad)
else
(.ok (.inr (o2)))
theorem Af9 (vend:List Int)(o2:(Vector Int 8)):Le (V5 vend o2) (Iy vend o2):=by
 unfold V5 Iy
 with_reducible repeat' first | exact Le.refl _ | exact hW .. | exact hb .. | exact O5 .. | apply Kc | apply Bt | apply Cw | apply N6 | apply Il | apply Xa | apply Ky | apply Pz | apply S1 | apply Abg | apply Abk | apply Sj | (rw [Uu]; exact Le.refl _) | intro _
def Vm (vend1:List Int)(o5:(Vector Int 8)):R (((List Int)×(Vector Int 8)) ⊕ (Vector Int 8)):=
 if(vend1.length:Int) > 0 then
(if(0:Int)≤64∧64≤(vend1.length:Int) then
 (J2 (vend1.take (Int.toNat 64)) o5).bind fun r5=>
 if(0:Int)≤64∧64≤(vend1.length:Int) then
 .ok (.inl ((vend1.drop (Int.toNat 64)),r5)) else .bad else .bad)
else
(.ok (.inr (o5)))
theorem Af3 (vend1:List Int)(o5:(Vector Int 8)):Le (Vm vend1 o5) (Nd vend1 o5):=by
 unfold Vm Nd
 with_reducible repeat' first | exact Le.refl _ | exact hW .. | exact hb .. | exact O5 .. | apply Kc | apply Bt | apply Cw | apply N6 | apply Il | apply Xa | apply Ky | apply Pz | apply S1 | apply Abg | apply Abk | apply Sj | (rw [Uu]; exact Le.refl _) | intro _
def V7 (b:List Int)(rest1:List Int)(o1:(Vector Int 8)):R (Vector Int 32):=
 if rest1.length≤64 then
 if(0:Int)≤(rest1.length:Int)∧(rest1.length:Int)<64 then
 if(rest1.length:Int) > 55 then
((Nt 120 8 (IntKind.wrap .u64 ((IntKind.wrap .u64 (b.length:Int)) * 8)) (Ns (Sb (B5 128 (0:Int)) 0 rest1) (Int.toNat (rest1.length:Int)) 128)).bind fun r1=>
 (Pp 80 (Do fun vend o2=>V5 vend o2) ((r1.toList.take 128),o1)).bind (fun o3=>K6 o3))
else
((Nt 56 72 (IntKind.wrap .u64 ((IntKind.wrap .u64 (b.length:Int)) * 8)) (Ns (Sb (B5 128 (0:Int)) 0 rest1) (Int.toNat (rest1.length:Int)) 128)).bind fun r4=>
 (Pp 80 (Do fun vend1 o5=>Vm vend1 o5) ((r4.toList.take 64),o1)).bind (fun o6=>O9 o6)) else .bad else .bad
theorem Afx (b:List Int)(rest1:List Int)(o1:(Vector Int 8)):Le (V7 b rest1 o1) (K5 b rest1 o1):=by
 unfold V7 K5
 with_reducible repeat' first | exact Le.refl _ | exact hW .. | exact hb .. | exact Af9 .. | exact Af3 .. | apply Kc | apply Bt | apply Cw | apply N6 | apply Il | apply Xa | apply Ky | apply Pz | apply S1 | apply Abg | apply Abk | apply Sj | (rw [Uu]; exact Le.refl _) | intro _
def Afe (b:List Int):R (Vector Int 32):=
 (Pp 80 (Do fun rest o=>V2 rest o) (b,Adg)).bind (Do fun rest1 o1=>V7 b rest1 o1)
theorem Eg (b:List Int):Le (Afe b) (Dh b):=by
 unfold Afe Dh
 with_reducible repeat' first | exact Le.refl _ | exact hW .. | exact hb .. | exact Af5 .. | exact Afx .. | apply Kc | apply Bt | apply Cw | apply N6 | apply Il | apply Xa | apply Ky | apply Pz | apply S1 | apply Abg | apply Abk | apply Sj | (rw [Uu]; exact Le.refl _) | intro _
end Go.Am
namespace Go.Am
open Go
set_option maxRecDepth 100000
def hk0:List Int:=[99,111,115,116]
def hv0:Vector Int 32 := #v[159,130,247,179,117,244,170,27,215,213,10,190,15,118,12,76,165,168,240,32,138,166,133,85,72,156,57,221,124,122,238,170]
theorem hs0:Dh hk0=.ok hv0:=Qf (Eg ..) (by kernel_rfl)
def hk1:List Int:=[159,130,247,179,117,244,170,27,215,213,10,190,15,118,12,76,165,168,240,32,138,166,133,85,72,156,57,221,124,122,238,170,0,0,0,0,0,0,0,0,0,0,0,0,0,0,0,0,0,0,0,0,0,0,0,0,0,0,0,0,0,0,0,0,3,4,1,0,1,10,1,0,1,8]
def hv1:Vector Int 32 := #v[86,201,120,238,206,67,165,246,68,53,53,225,98,174,231,88,184,91,64,150,235,66,164,127,219,27,97,126,189,246,253,249]
theorem hs1:Dh hk1=.ok hv1:=Qf (Eg ..) (by kernel_rfl)
def hk2:List Int:=[159,130,247,179,117,244,170,27,215,213,10,190,15,118,12,76,165,168,240,32,138,166,133,85,72,156,57,221,124,122,238,170,0,0,0,0,0,0,0,0,0,0,0,0,0,0,0,0,0,0,0,0,0,0,0,0,0,0,0,0,0,0,0,0,3,4,1,0,1,10,1,2,1,2]
def hv2:Vector Int 32 := #v[158,238,121,61,83,149,99,18,134,192,125,175,139,98,119,241,223,6,148,9,7,105,55,176,42,32,44,101,4,205,169,171]
theorem hs2:Dh hk2=.ok hv2:=Qf (Eg ..) (by kernel_rfl)
def hk3:List Int:=[108,101,97,102]
def hv3:Vector Int 32 := #v[159,145,22,31,67,67,62,73,166,222,109,182,128,215,159,96,21,159,46,74,201,23,38,33,161,40,70,66,129,88,68,11]
theorem hs3:Dh hk3=.ok hv3:=Qf (Eg ..) (by kernel_rfl)
def hk4:List Int:=[159,145,22,31,67,67,62,73,166,222,109,182,128,215,159,96,21,159,46,74,201,23,38,33,161,40,70,66,129,88,68,11,86,201,120,238,206,67,165,246,68,53,53,225,98,174,231,88,184,91,64,150,235,66,164,127,219,27,97,126,189,246,253,249]
def hv4:Vector Int 32 := #v[222,145,4,110,114,123,197,124,155,33,135,28,61,211,84,158,253,134,68,151,226,86,6,180,185,51,88,31,49,8,132,53]
theorem hs4:Dh hk4=.ok hv4:=Qf (Eg ..) (by kernel_rfl)
def hk5:List Int:=[159,145,22,31,67,67,62,73,166,222,109,182,128,215,159,96,21,159,46,74,201,23,38,33,161,40,70,66,129,88,68,11,158,238,121,61,83,149,99,18,134,192,125,175,139,98,119,241,223,6,148,9,7,105,55,176,42,32,44,101,4,205,169,171]
def hv5:Vector Int 32 := #v[12,3,245,167,69,161,146,137,195,180,59,77,198,45,190,226,112,223,203,130,32,152,92,97,6,5,164,1,93,169,212,33]
theorem hs5:Dh hk5=.ok hv5:=Qf (Eg ..) (by kernel_rfl)
def hk6:List Int:=[110,111,100,101]
def hv6:Vector Int 32 := #v[84,94,165,56,70,16,3,239,220,140,129,194,68,83,27,0,63,111,38,207,204,246,192,7,59,50,57,253,237,244,148,70]
theorem hs6:Dh hk6=.ok hv6:=Qf (Eg ..) (by kernel_rfl)
def hk7:List Int:=[84,94,165,56,70,16,3,239,220,140,129,194,68,83,27,0,63,111,38,207,204,246,192,7,59,50,57,253,237,244,148,70,222,145,4,110,114,123,197,124,155,33,135,28,61,211,84,158,253,134,68,151,226,86,6,180,185,51,88,31,49,8,132,53,12,3,245,167,69,161,146,137,195,180,59,77,198,45,190,226,112,223,203,130,32,152,92,97,6,5,164,1,93,169,212,33]
def hv7:Vector Int 32 := #v[233,189,103,47,143,233,176,245,20,118,76,57,162,192,0,183,241,6,80,71,59,11,143,95,243,30,182,81,173,7,173,193]
theorem hs7:Dh hk7=.ok hv7:=Qf (Eg ..) (by kernel_rfl)
def hk8:List Int:=[159,145,22,31,67,67,62,73,166,222,109,182,128,215,159,96,21,159,46,74,201,23,38,33,161,40,70,66,129,88,68,11,233,189,103,47,143,233,176,245,20,118,76,57,162,192,0,183,241,6,80,71,59,11,143,95,243,30,182,81,173,7,173,193]
def hv8:Vector Int 32 := #v[101,65,231,36,73,77,75,8,168,110,76,209,226,179,202,169,205,189,215,163,197,27,4,0,79,254,216,217,141,222,183,213]
theorem hs8:Dh hk8=.ok hv8:=Qf (Eg ..) (by kernel_rfl)
def hk9:List Int:=[159,130,247,179,117,244,170,27,215,213,10,190,15,118,12,76,165,168,240,32,138,166,133,85,72,156,57,221,124,122,238,170,0,0,0,0,0,0,0,0,0,0,0,0,0,0,0,0,0,0,0,0,0,0,0,0,0,0,0,0,0,0,0,0,3,4,1,6,1,18,1,0,1,4]
def hv9:Vector Int 32 := #v[17,122,206,225,255,102,214,230,45,158,190,151,247,143,161,223,234,197,135,137,11,191,46,108,151,181,0,236,51,40,69,156]
theorem hs9:Dh hk9=.ok hv9:=Qf (Eg ..) (by kernel_rfl)
def Avu:List Int:=[159,130,247,179,117,244,170,27,215,213,10,190,15,118,12,76,165,168,240,32,138,166,133,85,72,156,57,221,124,122,238,170,0,0,0,0,0,0,0,0,0,0,0,0,0,0,0,0,0,0,0,0,0,0,0,0,0,0,0,0,0,0,0,0,3,4,1,6,1,18,1,2,1,12]
def Awb:Vector Int 32 := #v[14,46,40,129,69,7,74,120,194,148,211,246,208,184,8,102,183,40,95,179,9,198,105,80,15,232,117,251,80,57,244,196]
theorem Aya:Dh Avu=.ok Awb:=Qf (Eg ..) (by kernel_rfl)
def Awq:List Int:=[159,145,22,31,67,67,62,73,166,222,109,182,128,215,159,96,21,159,46,74,201,23,38,33,161,40,70,66,129,88,68,11,17,122,206,225,255,102,214,230,45,158,190,151,247,143,161,223,234,197,135,137,11,191,46,108,151,181,0,236,51,40,69,156]
def Awa:Vector Int 32 := #v[100,47,45,123,40,94,119,7,42,5,163,246,119,86,65,8,136,218,181,164,160,230,217,159,243,97,119,15,236,95,254,218]
theorem Ax6:Dh Awq=.ok Awa:=Qf (Eg ..) (by kernel_rfl)
def Av4:List Int:=[159,145,22,31,67,67,62,73,166,222,109,182,128,215,159,96,21,159,46,74,201,23,38,33,161,40,70,66,129,88,68,11,14,46,40,129,69,7,74,120,194,148,211,246,208,184,8,102,183,40,95,179,9,198,105,80,15,232,117,251,80,57,244,196]
def Awf:Vector Int 32 := #v[241,217,215,127,29,3,141,165,186,108,48,239,61,143,64,192,35,156,186,30,236,249,214,93,201,51,153,217,76,111,98,41]
theorem Ayh:Dh Av4=.ok Awf:=Qf (Eg ..) (by kernel_rfl)
def Av3:List Int:=[84,94,165,56,70,16,3,239,220,140,129,194,68,83,27,0,63,111,38,207,204,246,192,7,59,50,57,253,237,244,148,70,100,47,45,123,40,94,119,7,42,5,163,246,119,86,65,8,136,218,181,164,160,230,217,159,243,97,119,15,236,95,254,218,241,217,215,127,29,3,141,165,186,108,48,239,61,143,64,192,35,156,186,30,236,249,214,93,201,51,153,217,76,111,98,41]
def Awp:Vector Int 32 := #v[200,101,97,15,102,92,202,119,65,32,176,97,229,106,69,170,240,4,140,168,58,154,204,161,247,152,148,33,167,62,178,37]
theorem Ayf:Dh Av3=.ok Awp:=Qf (Eg ..) (by kernel_rfl)
def Awt:List Int:=[159,145,22,31,67,67,62,73,166,222,109,182,128,215,159,96,21,159,46,74,201,23,38,33,161,40,70,66,129,88,68,11,200,101,97,15,102,92,202,119,65,32,176,97,229,106,69,170,240,4,140,168,58,154,204,161,247,152,148,33,167,62,178,37]
def Awk:Vector Int 32 := #v[189,107,203,89,123,138,252,122,76,154,241,52,10,45,57,200,138,9,177,113,130,232,85,176,130,96,131,207,221,25,182,179]
theorem Ayd:Dh Awt=.ok Awk:=Qf (Eg ..) (by kernel_rfl)
end Go.Am
namespace Go.Am
open Go
def Xo (b:List Int):R (Vector Int 32):=
 if b==hk0 then .ok hv0 else
 if b==hk1 then .ok hv1 else
 if b==hk2 then .ok hv2 else
 if b==hk3 then .ok hv3 else
 if b==hk4 then .ok hv4 else
 if b==hk5 then .ok hv5 else
 if b==hk6 then .ok hv6 else
 if b==hk7 then .ok hv7 else
 if b==hk8 then .ok hv8 else
 if b==hk9 then .ok hv9 else
 if b==Avu then .ok Awb else
 if b==Awq then .ok Awa else
 if b==Av4 then .ok Awf else
 if b==Av3 then .ok Awp else
 if b==Awt then .ok Awk else
 .bad
theorem Ij {b k:List Int}{v:Vector Int 32}{x:R (Vector Int 32)}(hk:Dh k=.ok v)(h:Le x (Dh b)):Le (if b==k then .ok v else x) (Dh b):=by
 by_cases q:(b==k)=true
 ·rw [if_pos q,eq_of_beq q,hk]; exact .inr rfl
 ·rw [if_neg q]; exact h
theorem Ak4 (b:List Int):Le (Xo b) (Dh b):=by
 unfold Xo
 refine Ij hs0 ?_
 refine Ij hs1 ?_
 refine Ij hs2 ?_
 refine Ij hs3 ?_
 refine Ij hs4 ?_
 refine Ij hs5 ?_
 refine Ij hs6 ?_
 refine Ij hs7 ?_
 refine Ij hs8 ?_
 refine Ij hs9 ?_
 refine Ij Aya ?_
 refine Ij Ax6 ?_
 refine Ij Ayh ?_
 refine Ij Ayf ?_
 refine Ij Ayd ?_
 exact .inl rfl
end Go.Am
namespace Go.Am
open Go
set_option linter.unusedVariables false
set_option maxRecDepth 100000
def Ls (owners:List Int):R ((List Int)×(List (Int×Int))):=
 (eachS (fun _ a=>Do fun m airlines=>G6 a m airlines) 0 owners ([],[])).bind ((Do fun m airlines=>(L8 airlines).bind fun _=>
 .ok ((Abj airlines),m)))
theorem Pw (owners:List Int):Le (Ls owners) (Fi owners):=by
 unfold Ls Fi
 with_reducible repeat' first | exact Le.refl _ | apply Bt | apply Il | apply Pz | (rw [Uu]; exact Le.refl _) | intro _
def W0 (c:Clearing):R Bool:=
 if(((((((decide (c.No<1))||(decide (c.No > 1048576)))||(decide (c.Slots<1)))||(decide (c.Slots > 8)))||(decide ((c.Flights.length:Int)<1)))||(decide ((c.Flights.length:Int) > c.Slots)))||((c.Owners.length:Int) != (c.Flights.length:Int))) then
(.ok false)
else
((each (fun j a=>fun last=>Jy c j a last) 0 c.Flights (-1)).bind (alt (fun last=>(Ls c.Owners).bind fun r=>
 .ok ((c.Commitments.length:Int)==(r.1.length:Int))) (fun r=>.ok r)))
theorem Ahr (c:Clearing):Le (W0 c) (Ng c):=by
 unfold W0 Ng
 with_reducible repeat' first | exact Le.refl _ | exact Pw .. | apply Bt | apply Cw | apply N6 | apply Ky | intro _
def Um (W_:Value→R (Int×Bool))(a:Value)(depth:Int):R (Int ⊕ (Int×Bool)):=
 (W_ a).bind fun r=>
 if r.2 then
(.ok (.inl (if r.1 > depth then r.1 else depth)))
else
(.ok (.inr ((0,false))))
theorem Ae0 {W' W_:Value→R (Int×Bool)}(hW : ∀ w0,Le (W' w0) (W_ w0))(a:Value)(depth:Int):Le (Um W' a depth) (G4 W_ a depth):=by
 unfold Um G4
 with_reducible repeat' first | exact Le.refl _ | exact hW .. | apply Bt | apply Cw | intro _
def Vk (W_:Value→R (Int×Bool))(v:Value):R (Int×Bool):=
 (if((decide (v.Kind<1))||(decide (v.Kind > 3))) then R.ok true else if(0:Int)≤v.Kind∧v.Kind<4 then
 R.ok (!(Ba (#v[false,((v.S==[])&&((v.L.length:Int)==0)),((v.N==0)&&((v.L.length:Int)==0)),((v.N==0)&&(v.S==[]))]:(Vector Bool 4)) (Int.toNat v.Kind) false)) else .bad).bind (fun(b:Bool)=>if b then
(.ok (0,false))
else
(if v.Kind<3 then
(.ok (0,true))
else
((each (fun _ a=>fun depth=>Um W_ a depth) 0 v.L 0).bind (alt (fun depth=>.ok ((IntKind.wrap .i64 (depth+1)),true)) (fun r=>.ok r)))))
theorem Aga {W' W_:Value→R (Int×Bool)}(hW : ∀ w0,Le (W' w0) (W_ w0))(v:Value):Le (Vk W' v) (N5 W_ v):=by
 unfold Vk N5
 with_reducible repeat' first | exact Le.refl _ | exact hW .. | exact Ae0 (by assumption) .. | apply Bt | apply Cw | apply N6 | apply Ky | intro _
def Vn:Nat→Value→R (Int×Bool)
 | 0,_=>.bad
 | n+1,v=>Vk (Vn n) v
theorem Yr : ∀ (n k:Nat) a0,Le (Vn n a0) (Hx (n+k) a0)
 | 0,k,a0=>.inl rfl
 | n+1,k,a0=>by
  rw [show n+1+k=(n+k)+1 by omega]
  exact Aga (fun a0=>Yr n k a0) ..
def Yf (v:Value):R (Int×Bool):=Vn 16 v
theorem Ai0 (v:Value):Le (Yf v) (Qo v):=by
 unfold Yf Qo
 rw [Uy]
 exact Yr 16 (4000000 - 16) ..
def Zq (v:Value):R Int:=
 (Yf v).bind fun r=>
 if r.2 then
(if r.1 > 16 then
(.ok 2)
else
(.ok 0))
else
(.ok 1)
theorem Aju (v:Value):Le (Zq v) (P6 v):=by
 unfold Zq P6
 with_reducible repeat' first | exact Le.refl _ | exact Ai0 .. | apply Bt | apply Cw | intro _
def Ly (u:Int)(l:List Int):R (List Int):=
 (Pp 80 (Do fun u1 b=>Iu u1 b) (u,l)).bind (Do fun u2 b1=>In u2 b1)
theorem Pk (u:Int)(l:List Int):Le (Ly u l) (Gi u l):=by
 unfold Ly Gi
 with_reducible repeat' first | exact Le.refl _ | apply Bt | apply Kc | apply Pz | intro _
def J5 (v1:Value)(l:List Int):R (List Int):=
 if(l.length+[1].length) * 1≤Ci then
 (Qp v1.N).bind fun r=>
 (Ly r (l++[1])).bind fun r1=>
 .ok r1 else .bad
theorem O2 (v1:Value)(l:List Int):Le (J5 v1 l) (Ei v1 l):=by
 unfold J5 Ei
 with_reducible repeat' first | exact Le.refl _ | exact Pk .. | apply Bt | apply Cw | intro _
def Kd (v1:Value)(l:List Int):R (List Int):=
 if(l.length+[2].length) * 1≤Ci then
 (Ly (IntKind.wrap .u64 (v1.S.length:Int)) (l++[2])).bind fun r=>
 if(r.length+(Nm v1.S).length) * 1≤Ci then
 .ok (r++(Nm v1.S)) else .bad else .bad
theorem O4 (v1:Value)(l:List Int):Le (Kd v1 l) (Gf v1 l):=by
 unfold Kd Gf
 with_reducible repeat' first | exact Le.refl _ | exact Pk .. | apply Bt | apply Cw | intro _
def Oj (W_:Value→(List Int)→R (List Int))(a:Value)(b1:List Int):R (List Int):=
 if a.Kind=0 then
(.bad)
else
(if a.Kind=1 then
((J5 a b1).bind fun b2=>
 .ok b2)
else
(if a.Kind=2 then
((Kd a b1).bind fun b3=>
 .ok b3)
else
(if a.Kind=3 then
((W_ a b1).bind fun b4=>
 .ok b4)
else
(.bad))))
theorem Yo {W' W_:Value→(List Int)→R (List Int)}(hW : ∀ w0 w1,Le (W' w0 w1) (W_ w0 w1))(a:Value)(b1:List Int):Le (Oj W' a b1) (He W_ a b1):=by
 unfold Oj He
 with_reducible repeat' first | exact Le.refl _ | exact hW .. | exact O2 .. | exact O4 .. | apply Bt | apply Cw | intro _
def O3 (W_:Value→(List Int)→R (List Int))(v1:Value)(l:List Int):R (List Int):=
 if(l.length+[3].length) * 1≤Ci then
 (Ly (IntKind.wrap .u64 (v1.L.length:Int)) (l++[3])).bind fun b=>
 (eachS (fun _ a=>fun b1=>Oj W_ a b1) 0 v1.L b).bind ((fun b1=>.ok b1)) else .bad
theorem Yv {W' W_:Value→(List Int)→R (List Int)}(hW : ∀ w0 w1,Le (W' w0 w1) (W_ w0 w1))(v1:Value)(l:List Int):Le (O3 W' v1 l) (H3 W_ v1 l):=by
 unfold O3 H3
 with_reducible repeat' first | exact Le.refl _ | exact hW .. | exact Yo (by assumption) .. | exact Pk .. | apply Bt | apply Cw | apply Il | intro _
def Oz:Nat→Value→(List Int)→R (List Int)
 | 0,_,_=>.bad
 | n+1,v1,l=>O3 (Oz n) v1 l
theorem So : ∀ (n k:Nat) a0 a1,Le (Oz n a0 a1) (H4 (n+k) a0 a1)
 | 0,k,a0,a1=>.inl rfl
 | n+1,k,a0,a1=>by
  rw [show n+1+k=(n+k)+1 by omega]
  exact Yv (fun a0 a1=>So n k a0 a1) ..
def Qu (v1:Value)(l:List Int):R (List Int):=Oz 16 v1 l
theorem Aad (v1:Value)(l:List Int):Le (Qu v1 l) (Kq v1 l):=by
 unfold Qu Kq
 rw [Uy]
 exact So 16 (4000000 - 16) ..
def P0 (a:Value)(b1:List Int):R (List Int):=
 if a.Kind=0 then
(.bad)
else
(if a.Kind=1 then
((J5 a b1).bind fun b2=>
 .ok b2)
else
(if a.Kind=2 then
((Kd a b1).bind fun b3=>
 .ok b3)
else
(if a.Kind=3 then
((Qu a b1).bind fun b4=>
 .ok b4)
else
(.bad))))
theorem Zt (a:Value)(b1:List Int):Le (P0 a b1) (Fs a b1):=by
 unfold P0 Fs
 with_reducible repeat' first | exact Le.refl _ | exact O2 .. | exact O4 .. | exact Aad .. | apply Bt | apply Cw | intro _
def Sf (v1:Value):R (List Int):=
 if [3].length * 1≤Ci then
 (Ly (IntKind.wrap .u64 (v1.L.length:Int)) [3]).bind fun b=>
 (eachS (fun _ a=>fun b1=>P0 a b1) 0 v1.L b).bind ((fun b1=>.ok b1)) else .bad
theorem Ab3 (v1:Value):Le (Sf v1) (It v1):=by
 unfold Sf It
 with_reducible repeat' first | exact Le.refl _ | exact Pk .. | exact Zt .. | apply Bt | apply Cw | apply Il | intro _
def Yj (v:Value):R ((List Int)×Int):=
 (Zq v).bind fun e=>
 if(e != 0) then
(.ok ([],e))
else
((K3).bind fun _=>
 if v.Kind=0 then
(.bad)
else
(if v.Kind=1 then
((J5 v []).bind fun b=>
 .ok (b,0))
else
(if v.Kind=2 then
((Kd v []).bind fun b1=>
 .ok (b1,0))
else
(if v.Kind=3 then
((Sf v).bind fun b2=>
 .ok (b2,0))
else
(.bad)))))
theorem Ain (v:Value):Le (Yj v) (Mm v):=by
 unfold Yj Mm
 with_reducible repeat' first | exact Le.refl _ | exact O2 .. | exact Ab3 .. | exact O4 .. | exact Aju .. | apply Bt | apply Cw | intro _
def N8 (tag:Tq)(b:List Int):R (Vector Int 32):=
 if tag.length≤Ci then
 (Xo (Nm tag)).bind fun r=>
 (Gk [r.toList,b]).bind fun r1=>
 (Xo r1).bind fun r2=>
 .ok r2 else .bad
theorem Rb (tag:Tq)(b:List Int):Le (N8 tag b) (Hp tag b):=by
 unfold N8 Hp
 with_reducible repeat' first | exact Le.refl _ | exact Ak4 .. | apply Bt | apply Cw | intro _
def Ro (salt:(Vector Int 32))(l:List Int):R (Vector Int 32):=
 (eachS (fun _ a=>fun l1=>G5 a l1) 0 l []).bind ((fun l1=>(Yj ({ Kind:=3,N:=0,S:=[],L:=l1 }:Value)).bind fun r=>
 if r.1.length≠0∧(32+r.1.length) * 1≤Ci then
 (N8 [99,111,115,116] (salt.toList++r.1)).bind fun r1=>
 .ok r1 else .bad))
theorem Xy (salt:(Vector Int 32))(l:List Int):Le (Ro salt l) (Fj salt l):=by
 unfold Ro Fj
 with_reducible repeat' first | exact Le.refl _ | exact Rb .. | exact Ain .. | apply Bt | apply Cw | apply Il | intro _
def Vq (d:(Vector Int 32)):R (Vector Int 32):=
 (N8 [108,101,97,102] d.toList).bind fun r=>
 .ok r
theorem Abl (d:(Vector Int 32)):Le (Vq d) (Mb d):=by
 unfold Vq Mb
 with_reducible repeat' first | exact Le.refl _ | exact Rb .. | apply Bt | intro _
def Sz (a:(Vector Int 32))(b:(Vector Int 32)):R (Vector Int 32):=
 (Gk [a.toList,b.toList]).bind fun r=>
 (N8 [110,111,100,101] r).bind fun r1=>
 .ok r1
theorem Abs (a:(Vector Int 32))(b:(Vector Int 32)):Le (Sz a b) (Km a b):=by
 unfold Sz Km
 with_reducible repeat' first | exact Le.refl _ | exact Rb .. | apply Bt | intro _
def Us (j:Nat)(a:(Vector Int 32))(o:(Vector Int 32))(first2:List Bool):R ((Vector Int 32)×(List Bool)):=
 (idx first2 (IntKind.wrap .i64 ((IntKind.wrap .i64 ((first2.length:Int) - 1)) - (j:Int)))).bind fun a1=>
 if a1 then
((Sz o a).bind fun r1=>
 .ok (r1,first2))
else
((Sz a o).bind fun r2=>
 .ok (r2,first2))
theorem Ae5 (j:Nat)(a:(Vector Int 32))(o:(Vector Int 32))(first2:List Bool):Le (Us j a o first2) (G2 j a o first2):=by
 unfold Us G2
 with_reducible repeat' first | exact Le.refl _ | exact Abs .. | apply Bt | apply Cw | intro _
def Up (d:(Vector Int 32))(p:(List (Vector Int 32)))(first1:List Bool):R ((Vector Int 32)×Int):=
 if((p.length:Int) != (first1.length:Int)) then
(.ok ((B5 32 0),1))
else
((Vq d).bind fun r=>
 (eachS (fun j a=>Do fun o first2=>Us j a o first2) 0 p (r,first1)).bind ((Do fun o first2=>.ok (o,0))))
theorem Ae8 (d:(Vector Int 32))(p:(List (Vector Int 32)))(first1:List Bool):Le (Up d p first1) (Kn d p first1):=by
 unfold Up Kn
 with_reducible repeat' first | exact Le.refl _ | exact Abl .. | exact Ae5 .. | apply Bt | apply Cw | apply Il | apply Pz | intro _
def Uj (d:(Vector Int 32))(vat:Int)(n:Int)(p:(List (Vector Int 32))):R ((Vector Int 32)×Int):=
 if((((decide (n<1))||(decide (n > 1099511627776)))||(decide (vat<0)))||(decide (vat≥n))) then
(.ok ((B5 32 0),1))
else
((Pp 80 (Sn fun vat1 n1 first=>Gd vat1 n1 first) (vat,n,[])).bind (fun first1=>Up d p first1))
theorem Aao (d:(Vector Int 32))(vat:Int)(n:Int)(p:(List (Vector Int 32))):Le (Uj d vat n p) (Mv d vat n p):=by
 unfold Uj Mv
 with_reducible repeat' first | exact Le.refl _ | exact Ae8 .. | apply Bt | apply Kc | apply Cw | apply S1 | intro _
def Q1 (d:(Vector Int 32))(tables:Int)(o:Opening)(x:Int)(r3:((Vector Int 32)×Int))(x1:Int):R (Int ⊕ (Unit ⊕ Int)):=
 if x1<tables then
((Uj r3.1 x1 tables (o.Path.drop (Int.toNat x))).bind fun r4=>
 if((r4.2==0)&&(r4.1==d)) then
(.ok (.inr (.inr (0))))
else
(.ok (.inl (IntKind.wrap .i64 (x1+1)))))
else
(.ok (.inr (.inl (()))))
theorem Aac (d:(Vector Int 32))(tables:Int)(o:Opening)(x:Int)(r3:((Vector Int 32)×Int))(x1:Int):Le (Q1 d tables o x r3 x1) (Hi d tables o x r3 x1):=by
 unfold Q1 Hi
 with_reducible repeat' first | exact Le.refl _ | exact Aao .. | apply Bt | apply Cw | intro _
def Qv (d:(Vector Int 32))(tables:Int)(slots:Int)(o:Opening)(r2:(Vector Int 32))(x:Int):R (Int ⊕ (Unit ⊕ Int)):=
 if x<(IntKind.wrap .i64 ((o.Path.length:Int)+1)) then
(if(0:Int)≤x∧x≤(o.Path.length:Int) then
 if(0:Int)≤x∧x≤(o.Path.length:Int) then
 (Uj r2 o.Slot slots (o.Path.take (Int.toNat x))).bind fun r3=>
 if(r3.2 != 0) then
(.ok (.inl (IntKind.wrap .i64 (x+1))))
else
((Pp 80 (fun x1=>Q1 d tables o x r3 x1) 0).bind (alt (fun _=>Hk x) (fun r=>.ok (.inr (.inr (r)))))) else .bad else .bad)
else
(.ok (.inr (.inl (()))))
theorem Aag (d:(Vector Int 32))(tables:Int)(slots:Int)(o:Opening)(r2:(Vector Int 32))(x:Int):Le (Qv d tables slots o r2 x) (E8 d tables slots o r2 x):=by
 unfold Qv E8
 with_reducible repeat' first | exact Le.refl _ | exact Aao .. | exact Aac .. | apply Bt | apply Kc | apply Cw | apply Ky | intro _
def S0 (d:(Vector Int 32))(airline:Int)(tables:Int)(slots:Int)(o:Opening):R Int:=
 (if(((((decide (tables<1))||(decide (tables > 8)))||(decide (slots<1)))||(decide (slots > 8)))||(o.Airline != airline)) then R.ok true else(J0 o.Airline o.Flight).bind fun r=>
 R.ok (!r)).bind (fun(b:Bool)=>(if((b||(decide (o.Slot<0)))||(decide (o.Slot≥slots))) then R.ok true else(Jk o.Cost).bind fun r1=>
 R.ok (!r1)).bind (fun(b1:Bool)=>if b1 then
(.ok 360)
else
((Ro o.Salt [o.Airline,o.Flight,o.Slot,o.Cost]).bind fun r2=>
 (Pp 80 (fun x=>Qv d tables slots o r2 x) 0).bind (alt (fun _=>Hj) (fun r=>.ok r)))))
theorem Acu (d:(Vector Int 32))(airline:Int)(tables:Int)(slots:Int)(o:Opening):Le (S0 d airline tables slots o) (Gx d airline tables slots o):=by
 unfold S0 Gx
 with_reducible repeat' first | exact Le.refl _ | exact Xy .. | exact Aag .. | apply Bt | apply Kc | apply Cw | apply Ky | intro _
def Pn (c:Clearing)(o:Opening)(x:Bool):R Int:=
 if x then
(.ok 400)
else
((Ls c.Owners).bind fun r=>
 (Gt r.1 o.Airline).bind fun r1=>
 (idx c.Commitments r1).bind fun a1=>
 (S0 a1 o.Airline (Option.getD (E7 r.2 o.Airline) 0) c.Slots o).bind fun r2=>
 .ok r2)
theorem Acp (c:Clearing)(o:Opening)(x:Bool):Le (Pn c o x) (Jh c o x):=by
 unfold Pn Jh
 with_reducible repeat' first | exact Le.refl _ | exact Pw .. | exact Acu .. | apply Bt | apply Cw | intro _
def Pq (c:Clearing)(o:Opening):R Int:=
 (Gt c.Flights o.Flight).bind fun i=>
 if(decide (i<0)) then
(Pn c o true)
else
((idx c.Owners i).bind fun a=>
 Pn c o (a != o.Airline))
theorem Yt (c:Clearing)(o:Opening):Le (Pq c o) (Hv c o):=by
 unfold Pq Hv
 with_reducible repeat' first | exact Le.refl _ | exact Acp .. | apply Bt | apply Cw | intro _
def Tu (c:Clearing)(j:Nat)(a:Opening):R (Unit ⊕ Bool):=
 if(decide ((j:Int) > 0)) then
((idx c.Openings (IntKind.wrap .i64 ((j:Int) - 1))).bind fun a1=>
 (Ms a1 a).bind fun r=>
 if(decide (r≥0)) then
(Gq true)
else
((Pq c a).bind fun r1=>
 Gq (r1 != 0)))
else
((Pq c a).bind fun r2=>
 Gq (r2 != 0))
theorem Ad4 (c:Clearing)(j:Nat)(a:Opening):Le (Tu c j a) (Io c j a):=by
 unfold Tu Io
 with_reducible repeat' first | exact Le.refl _ | exact Yt .. | apply Bt | apply Cw | intro _
def Tg (c:Clearing):R Bool:=
 (each (fun j a=>fun _=>Tu c j a) 0 c.Openings ()).bind (alt (fun _=>.ok true) (fun r=>.ok r))
theorem Zz (c:Clearing):Le (Tg c) (K9 c):=by
 unfold Tg K9
 with_reducible repeat' first | exact Le.refl _ | exact Ad4 .. | apply Bt | apply N6 | apply Ky | intro _
def Tv (c:Clearing):R Bool:=
 (Fq c).bind fun r=>
 (if r then(Tg c).bind fun r1=>
 R.ok r1 else R.ok false).bind (fun(b:Bool)=>.ok (b&&((c.Outcome.length:Int)==0)))
theorem Adr (c:Clearing):Le (Tv c) (L7 c):=by
 unfold Tv L7
 with_reducible repeat' first | exact Le.refl _ | exact Zz .. | apply Bt | apply Cw | intro _
def Mo {σ_:Type}(b:List Opening)(c:Int)(b_:(List Opening)→σ_→R σ_)(i:Int)(s:σ_):R ((Int×σ_) ⊕ σ_):=
 if i<(b.length:Int) then
(if(0:Int)≤i∧i≤(b.length:Int) then
 if(0:Int)≤i∧i≤(IntKind.wrap .i64 (i+(if((b.drop (Int.toNat i)).length:Int)<c then((b.drop (Int.toNat i)).length:Int) else c)))∧(IntKind.wrap .i64 (i+(if((b.drop (Int.toNat i)).length:Int)<c then((b.drop (Int.toNat i)).length:Int) else c)))≤(b.length:Int) then
 (b_ (cut b i (IntKind.wrap .i64 (i+(if((b.drop (Int.toNat i)).length:Int)<c then((b.drop (Int.toNat i)).length:Int) else c)))) s).bind fun s1=>
 .ok (.inl ((IntKind.wrap .i64 (i+c)),s1)) else .bad else .bad)
else
(.ok (.inr (s)))
theorem Qb {σ_:Type}{b' b_:(List Opening)→σ_→R σ_}(hb : ∀ w0 w1,Le (b' w0 w1) (b_ w0 w1))(b:List Opening)(c:Int)(i:Int)(s:σ_):Le (Mo b c b' i s) (Ea b c b_ i s):=by
 unfold Mo Ea
 with_reducible repeat' first | exact Le.refl _ | exact hb .. | apply Bt | apply Cw | intro _
def Ob {σ_:Type}(b:List Opening)(c:Int)(b_:(List Opening)→σ_→R σ_)(s_:σ_):R σ_:=
 (Pp 80 (Do fun i s=>Mo b c b_ i s) (0,s_)).bind (fun s2=>Hm s2)
theorem R7 {σ_:Type}{b' b_:(List Opening)→σ_→R σ_}(hb : ∀ w0 w1,Le (b' w0 w1) (b_ w0 w1))(b:List Opening)(c:Int)(s_:σ_):Le (Ob b c b' s_) (Eu b c b_ s_):=by
 unfold Ob Eu
 with_reducible repeat' first | exact Le.refl _ | exact hb .. | exact Qb (by assumption) .. | refine Qb (fun w0 w1=>?_) .. | apply Bt | apply Kc | apply Pz | intro _
def Rj (c:Clearing):R (Round×Bool):=
 if((c.Openings.length:Int) != (IntKind.wrap .i64 ((c.Flights.length:Int) * c.Slots))) then
(.ok (({ Slots:=0,Owners:=[],Costs:=[] }:Round),false))
else
((Hu c.Openings c.Slots).bind fun _=>
 (Ob c.Openings c.Slots (fun a z_=>R.np ((fun l=>Ik a l) z_)) []).bind (fun l=>.ok (({ Slots:=c.Slots,Owners:=c.Owners,Costs:=l }:Round),true)))
theorem X2 (c:Clearing):Le (Rj c) (Ib c):=by
 unfold Rj Ib
 with_reducible repeat' first | exact Le.refl _ | exact R7 (by assumption) .. | refine R7 (fun w0 w1=>?_) .. | apply Bt | apply Cw | apply Sj | intro _
def Kr {σ_:Type}(slots:List Int)(b:Round)(c:Round)(W_:(List Int)→Round→(List (Int×Bool))→Round→σ_→R ((List (Int×Bool))×σ_))(x:Int)(m1:(List (Int×Bool)))(s1:σ_):R ((Int×(List (Int×Bool))×σ_) ⊕ ((List (Int×Bool))×σ_)):=
 if x<b.Slots then
((if(Option.getD (E7 m1 x) false) then R.ok true else(idx b.Costs (slots.length:Int)).bind fun a=>
 (idx a x).bind fun a1=>
 R.ok (decide (a1<0))).bind (fun(b1:Bool)=>if b1 then
(.ok (.inl ((IntKind.wrap .i64 (x+1)),m1,s1)))
else
((M5 slots).bind fun r=>
 if [x].length≠0∧(r.length+[x].length) * 8≤Ci then
 (W_ (r++[x]) c (L9 m1 x true) c s1).bind fun r1=>
 E4 x r1.1 r1.2 else .bad)))
else
(.ok (.inr ((m1,s1))))
theorem Ut {σ_:Type}{W' W_:(List Int)→Round→(List (Int×Bool))→Round→σ_→R ((List (Int×Bool))×σ_)}(hW : ∀ w0 w1 w2 w3 w4,Le (W' w0 w1 w2 w3 w4) (W_ w0 w1 w2 w3 w4))(slots:List Int)(b:Round)(c:Round)(x:Int)(m1:(List (Int×Bool)))(s1:σ_):Le (Kr slots b c W' x m1 s1) (Dr slots b c W_ x m1 s1):=by
 unfold Kr Dr
 with_reducible repeat' first | exact Le.refl _ | exact hW .. | apply Bt | apply Cw | intro _
def Ld {σ_:Type}(W_:(List Int)→Round→(List (Int×Bool))→Round→σ_→R ((List (Int×Bool))×σ_))(slots:List Int)(b:Round)(m:(List (Int×Bool)))(c:Round)(b_:(List Int)→σ_→R σ_)(s_:σ_):R ((List (Int×Bool))×σ_):=
 if((slots.length:Int)==(b.Owners.length:Int)) then
((b_ slots s_).bind fun s=>
 .ok (m,s))
else
((Pp 80 (Sn fun x m1 s1=>Kr slots b c W_ x m1 s1) (0,m,s_)).bind (Do fun m3 s3=>Gu m3 s3))
theorem Vh {σ_:Type}{W' W_:(List Int)→Round→(List (Int×Bool))→Round→σ_→R ((List (Int×Bool))×σ_)}(hW : ∀ w0 w1 w2 w3 w4,Le (W' w0 w1 w2 w3 w4) (W_ w0 w1 w2 w3 w4)){b' b_:(List Int)→σ_→R σ_}(hb : ∀ w0 w1,Le (b' w0 w1) (b_ w0 w1))(slots:List Int)(b:Round)(m:(List (Int×Bool)))(c:Round)(s_:σ_):Le (Ld W' slots b m c b' s_) (Ef W_ slots b m c b_ s_):=by
 unfold Ld Ef
 with_reducible repeat' first | exact Le.refl _ | exact hW .. | exact hb .. | exact Ut (by assumption) .. | apply Bt | apply Kc | apply Cw | apply Pz | apply S1 | intro _
def Lh {σ_:Type}(b_:(List Int)→σ_→R σ_):Nat→(List Int)→Round→(List (Int×Bool))→Round→σ_→R ((List (Int×Bool))×σ_)
 | 0,_,_,_,_,_=>.bad
 | n+1,slots,b,m,c,s_=>R.np (Ld (Lh b_ n) slots b m c b_ s_)
theorem Ox {σ_:Type}{b' b_:(List Int)→σ_→R σ_}(hb : ∀ w0 w1,Le (b' w0 w1) (b_ w0 w1)) : ∀ (n k:Nat) a0 a1 a2 a3 a4,Le (Lh b' n a0 a1 a2 a3 a4) (Dw b_ (n+k) a0 a1 a2 a3 a4)
 | 0,k,a0,a1,a2,a3,a4=>.inl rfl
 | n+1,k,a0,a1,a2,a3,a4=>by
  rw [show n+1+k=(n+k)+1 by omega]
  exact Sj (Vh (fun a0 a1 a2 a3 a4=>Ox hb n k a0 a1 a2 a3 a4) hb ..)
def Mk {σ_:Type}(slots:List Int)(b:Round)(m:(List (Int×Bool)))(c:Round)(b_:(List Int)→σ_→R σ_)(s_:σ_):R ((List (Int×Bool))×σ_):=Lh b_ 16 slots b m c s_
theorem Qc {σ_:Type}{b' b_:(List Int)→σ_→R σ_}(hb : ∀ w0 w1,Le (b' w0 w1) (b_ w0 w1))(slots:List Int)(b:Round)(m:(List (Int×Bool)))(c:Round)(s_:σ_):Le (Mk slots b m c b' s_) (F8 slots b m c b_ s_):=by
 unfold Mk F8
 rw [Uy]
 exact Ox hb 16 (4000000 - 16) ..
def Lv {σ_:Type}(b:Round)(b_:(List Int)→σ_→R σ_)(s_:σ_):R σ_:=
 (Mk [] b [] b b_ s_).bind fun r=>
 .ok r.2
theorem Px {σ_:Type}{b' b_:(List Int)→σ_→R σ_}(hb : ∀ w0 w1,Le (b' w0 w1) (b_ w0 w1))(b:Round)(s_:σ_):Le (Lv b b' s_) (El b b_ s_):=by
 unfold Lv El
 with_reducible repeat' first | exact Le.refl _ | exact hb .. | exact Qc (by assumption) .. | refine Qc (fun w0 w1=>?_) .. | apply Bt | intro _
def Nh {σ_:Type}(b:Round)(b_:(List Int)→σ_→R σ_)(s_:σ_):R σ_:=R.np (Lv b b_ s_)
theorem Qy {σ_:Type}{b' b_:(List Int)→σ_→R σ_}(hb : ∀ w0 w1,Le (b' w0 w1) (b_ w0 w1))(b:Round)(s_:σ_):Le (Nh b b' s_) (Fa b b_ s_):=by
 unfold Nh Fa
 with_reducible repeat' first | exact Le.refl _ | exact hb .. | exact Px (by assumption) .. | refine Px (fun w0 w1=>?_) .. | apply Bt | apply Sj | intro _
def K1 {σ_ ε_:Type}(begin:List Int)(b:List Int)(d:Round)(c:List Int)(c1:Round)(W_:(List Int)→(List Int)→Round→(List Int)→Round→σ_→R (σ_ ⊕ ε_))(a:Int)(s1:σ_):R (σ_ ⊕ (σ_ ⊕ ε_)):=
 (idx b (begin.length:Int)).bind fun a1=>
 (idx d.Costs a1).bind fun a2=>
 (idx a2 a).bind fun a3=>
 if(decide (a3≥0)) then
((Eo begin a).bind fun r1=>
 if(!r1) then
(if(0:Int)≤(begin.length:Int)∧(begin.length:Int)≤(begin.length:Int) then
 if [a].length≠0∧((begin.take (Int.toNat (begin.length:Int))).length+[a].length) * 8≤Ci then
 (W_ ((begin.take (Int.toNat (begin.length:Int)))++[a]) c c1 c c1 s1).bind (alt (fun s2=>
 Da s2) (fun e1=>
 .ok (.inr ((Sum.inr (α:=σ_) e1))))) else .bad else .bad)
else
(Da s1))
else
(Da s1)
theorem Uq {σ_ ε_:Type}{W' W_:(List Int)→(List Int)→Round→(List Int)→Round→σ_→R (σ_ ⊕ ε_)}(hW : ∀ w0 w1 w2 w3 w4 w5,Le (W' w0 w1 w2 w3 w4 w5) (W_ w0 w1 w2 w3 w4 w5))(begin:List Int)(b:List Int)(d:Round)(c:List Int)(c1:Round)(a:Int)(s1:σ_):Le (K1 begin b d c c1 W' a s1) (Eb begin b d c c1 W_ a s1):=by
 unfold K1 Eb
 with_reducible repeat' first | exact Le.refl _ | exact hW .. | apply Bt | apply Cw | apply Ky | intro _
def Lg {σ_ ε_:Type}(W_:(List Int)→(List Int)→Round→(List Int)→Round→σ_→R (σ_ ⊕ ε_))(begin:List Int)(b:List Int)(d:Round)(c:List Int)(c1:Round)(b_:(List Int)→σ_→R (σ_ ⊕ ε_))(s_:σ_):R (σ_ ⊕ ε_):=
 if((begin.length:Int)==(b.length:Int)) then
((Gp begin).bind fun r=>
 (b_ r s_).bind (alt (fun s=>
 .ok (Sum.inl (β:=ε_) s)) (fun e=>
 .ok (Sum.inr (α:=σ_) e))))
else
((each (fun _ a=>fun s1=>K1 begin b d c c1 W_ a s1) 0 b s_).bind (alt (fun s1=>.ok (Sum.inl (β:=ε_) s1)) (fun r=>.ok r)))
theorem Ve {σ_ ε_:Type}{W' W_:(List Int)→(List Int)→Round→(List Int)→Round→σ_→R (σ_ ⊕ ε_)}(hW : ∀ w0 w1 w2 w3 w4 w5,Le (W' w0 w1 w2 w3 w4 w5) (W_ w0 w1 w2 w3 w4 w5)){b' b_:(List Int)→σ_→R (σ_ ⊕ ε_)}(hb : ∀ w0 w1,Le (b' w0 w1) (b_ w0 w1))(begin:List Int)(b:List Int)(d:Round)(c:List Int)(c1:Round)(s_:σ_):Le (Lg W' begin b d c c1 b' s_) (Eh W_ begin b d c c1 b_ s_):=by
 unfold Lg Eh
 with_reducible repeat' first | exact Le.refl _ | exact hW .. | exact hb .. | exact Uq (by assumption) .. | apply Bt | apply Cw | apply N6 | apply Ky | intro _
def Lf {σ_ ε_:Type}(b_:(List Int)→σ_→R (σ_ ⊕ ε_)):Nat→(List Int)→(List Int)→Round→(List Int)→Round→σ_→R (σ_ ⊕ ε_)
 | 0,_,_,_,_,_,_=>.bad
 | n+1,begin,b,d,c,c1,s_=>R.np (Lg (Lf b_ n) begin b d c c1 b_ s_)
theorem Oy {σ_ ε_:Type}{b' b_:(List Int)→σ_→R (σ_ ⊕ ε_)}(hb : ∀ w0 w1,Le (b' w0 w1) (b_ w0 w1)) : ∀ (n k:Nat) a0 a1 a2 a3 a4 a5,Le (Lf b' n a0 a1 a2 a3 a4 a5) (Dy b_ (n+k) a0 a1 a2 a3 a4 a5)
 | 0,k,a0,a1,a2,a3,a4,a5=>.inl rfl
 | n+1,k,a0,a1,a2,a3,a4,a5=>by
  rw [show n+1+k=(n+k)+1 by omega]
  exact Sj (Ve (fun a0 a1 a2 a3 a4 a5=>Oy hb n k a0 a1 a2 a3 a4 a5) hb ..)
def Mq {σ_ ε_:Type}(begin:List Int)(b:List Int)(d:Round)(c:List Int)(c1:Round)(b_:(List Int)→σ_→R (σ_ ⊕ ε_))(s_:σ_):R (σ_ ⊕ ε_):=Lf b_ 16 begin b d c c1 s_
theorem Qa {σ_ ε_:Type}{b' b_:(List Int)→σ_→R (σ_ ⊕ ε_)}(hb : ∀ w0 w1,Le (b' w0 w1) (b_ w0 w1))(begin:List Int)(b:List Int)(d:Round)(c:List Int)(c1:Round)(s_:σ_):Le (Mq begin b d c c1 b' s_) (F7 begin b d c c1 b_ s_):=by
 unfold Mq F7
 rw [Uy]
 exact Oy hb 16 (4000000 - 16) ..
def L3 {σ_ ε_:Type}(b:List Int)(c:Round)(b_:(List Int)→σ_→R (σ_ ⊕ ε_))(s_:σ_):R (σ_ ⊕ ε_):=
 (Mq [] b c b c b_ s_).bind (alt (fun s=>
 .ok (Sum.inl (β:=ε_) s)) (fun e=>
 .ok (Sum.inr (α:=σ_) e)))
theorem Pd {σ_ ε_:Type}{b' b_:(List Int)→σ_→R (σ_ ⊕ ε_)}(hb : ∀ w0 w1,Le (b' w0 w1) (b_ w0 w1))(b:List Int)(c:Round)(s_:σ_):Le (L3 b c b' s_) (Ek b c b_ s_):=by
 unfold L3 Ek
 with_reducible repeat' first | exact Le.refl _ | exact hb .. | exact Qa (by assumption) .. | refine Qa (fun w0 w1=>?_) .. | apply Bt | apply Ky | intro _
def Nb {σ_ ε_:Type}(b:List Int)(c:Round)(b_:(List Int)→σ_→R (σ_ ⊕ ε_))(s_:σ_):R (σ_ ⊕ ε_):=R.np (L3 b c b_ s_)
theorem Qm {σ_ ε_:Type}{b' b_:(List Int)→σ_→R (σ_ ⊕ ε_)}(hb : ∀ w0 w1,Le (b' w0 w1) (b_ w0 w1))(b:List Int)(c:Round)(s_:σ_):Le (Nb b c b' s_) (Ee b c b_ s_):=by
 unfold Nb Ee
 with_reducible repeat' first | exact Le.refl _ | exact hb .. | exact Pd (by assumption) .. | refine Pd (fun w0 w1=>?_) .. | apply Bt | apply Sj | intro _
def Tz (r:Round)(than:List Int)(group:List Int):R ((List Int)×Bool):=
 (eachS (fun j a=>fun l=>H7 group j a l) 0 r.Owners []).bind ((fun l=>(Gn r l).bind fun _=>
 (Nb l r (fun a1 z_=>R.np ((fun _=>Gw r than group l a1) z_)) ()).bind (alt (fun _=>.ok ([],false)) (fun o=>.ok (o,true)))))
theorem Adv (r:Round)(than:List Int)(group:List Int):Le (Tz r than group) (Ir r than group):=by
 unfold Tz Ir
 with_reducible repeat' first | exact Le.refl _ | exact Qm (by assumption) .. | refine Qm (fun w0 w1=>?_) .. | apply Bt | apply Il | apply Ky | apply Sj | intro _
def Rn (r:Round)(than:List Int)(j:Nat):R (Unit ⊕ (Bool×Int)):=
 (each (fun j1 _=>fun group=>Ia r j j1 group) 0 (List.range 8) []).bind (alt (fun group=>if((group.length:Int)==0) then
(D2)
else
((Tz r than group).bind fun r4=>
 if r4.2 then
(.ok (.inr ((false,0))))
else
(D2))) (fun _=>D2))
theorem Abc (r:Round)(than:List Int)(j:Nat):Le (Rn r than j) (H9 r than j):=by
 unfold Rn H9
 with_reducible repeat' first | exact Le.refl _ | exact Adv .. | apply Bt | apply Cw | apply N6 | apply Ky | intro _
def T2 (r:Round)(slots:List Int):R (Bool×Int):=
 (M4 r slots).bind fun r1=>
 if((r1.2 != 0)||(decide ((r1.1.length:Int) > 0))) then
(.ok (false,r1.2))
else
((Ix r).bind fun r2=>
 (G3 r r2 slots).bind fun than=>
 (each (fun j _=>fun _=>Rn r than j) 0 (List.range 256) ()).bind (alt (fun _=>.ok (true,0)) (fun r=>.ok r)))
theorem Ady (r:Round)(slots:List Int):Le (T2 r slots) (Es r slots):=by
 unfold T2 Es
 with_reducible repeat' first | exact Le.refl _ | exact Abc .. | apply Bt | apply Cw | apply N6 | apply Ky | intro _
def Tt (r:Round)(a:List Int)(o:List Int)(o1:List Int):R ((List Int)×(List Int)):=
 (L5 r a).bind fun v=>
 (if(!List.isEmpty o1) then(J8 v o1).bind fun r2=>
 R.ok (decide (r2≥0)) else R.ok false).bind (fun(b:Bool)=>if b then
(.ok (o,o1))
else
((T2 r a).bind fun r3=>
 if((r3.2==0)&&r3.1) then
((Gp a).bind fun r4=>
 if v.length≠0 then
 .ok (r4,v) else .bad)
else
(.ok (o,o1))))
theorem Adz (r:Round)(a:List Int)(o:List Int)(o1:List Int):Le (Tt r a o o1) (Iv r a o o1):=by
 unfold Tt Iv
 with_reducible repeat' first | exact Le.refl _ | exact Ady .. | apply Bt | apply Cw | intro _
def W5 (r:Round):R ((List Int)×Int):=
 (Kv r).bind fun e=>
 if(e != 0) then
(.ok ([],e))
else
((H0 r).bind fun _=>
 (Nh r (fun a z_=>R.np ((Do fun o o1=>Tt r a o o1) z_)) ([],[])).bind (Do fun o o1=>if(List.isEmpty o1) then
(.ok ([],380))
else
(.ok (o,0))))
theorem Agy (r:Round):Le (W5 r) (Ni r):=by
 unfold W5 Ni
 with_reducible repeat' first | exact Le.refl _ | exact Qy (by assumption) .. | refine Qy (fun w0 w1=>?_) .. | exact Adz .. | apply Bt | apply Cw | apply Pz | apply Sj | intro _
def Ud (r:Round):R ((List Int)×Int):=
 (W5 r).bind fun r1=>
 if(r1.2==0) then
(.ok (r1.1,3))
else
((eachS (fun j _=>fun outcome=>Kx j outcome) 0 r.Owners []).bind ((fun outcome=>.ok (outcome,4))))
theorem Aar (r:Round):Le (Ud r) (Jm r):=by
 unfold Ud Jm
 with_reducible repeat' first | exact Le.refl _ | exact Agy .. | apply Bt | apply Cw | apply Il | intro _
def Ri (c:Clearing):R Bool:=
 (Fq c).bind fun r=>
 (if(!r) then R.ok true else(Tg c).bind fun r1=>
 R.ok (!r1)).bind (fun(b:Bool)=>if b then
(.ok false)
else
((Rj c).bind fun r2=>
 if r2.2 then
((Ud r2.1).bind fun r3=>
 (if(r3.2==c.Phase) then(Jz r3.1 c.Outcome).bind fun r4=>
 R.ok r4 else R.ok false).bind (fun(b1:Bool)=>.ok b1))
else
(.ok false)))
theorem Aey (c:Clearing):Le (Ri c) (Ji c):=by
 unfold Ri Ji
 with_reducible repeat' first | exact Le.refl _ | exact X2 .. | exact Zz .. | exact Aar .. | apply Bt | apply Cw | intro _
def K8 (c:Clearing):R Int:=
 (W0 c).bind fun r=>
 if(!r) then
(Dd true)
else
(if(decide (c.Phase<1)) then
(Dd true)
else
(if(decide (c.Phase > 4)) then
(Dd true)
else
(if c.Phase=0 then
(.bad)
else
(if c.Phase=1 then
((Oi c).bind fun r1=>
 Dd (!r1))
else
(if c.Phase=2 then
((Tv c).bind fun r2=>
 Dd (!r2))
else
(if c.Phase=3 then
((Ri c).bind fun r3=>
 Dd (!r3))
else
(if c.Phase=4 then
((Ri c).bind fun r4=>
 Dd (!r4))
else
(.bad))))))))
theorem M7 (c:Clearing):Le (K8 c) (Hr c):=by
 unfold K8 Hr
 with_reducible repeat' first | exact Le.refl _ | exact Aey .. | exact Ahr .. | exact Adr .. | apply Bt | apply Cw | intro _
def Xq (no:Int)(slots:Int)(owners:List Int)(flights:List Int):R (Clearing×Int):=
 (Ls owners).bind fun r=>
 if(0:Int)≤(r.1.length:Int)∧((r.1.length:Int):Int)≤(r.1.length:Int)∧(Int.toNat (r.1.length:Int)) * 32≤Ci then
 (K8 ({ No:=no,Phase:=1,Slots:=slots,Owners:=owners,Flights:=flights,Commitments:=(List.replicate (Int.toNat (r.1.length:Int)) (B5 32 0)),Openings:=[],Outcome:=[] }:Clearing)).bind fun e=>
 if(e != 0) then
(.ok (({ No:=0,Phase:=0,Slots:=0,Owners:=[],Flights:=[],Commitments:=[],Openings:=[],Outcome:=[] }:Clearing),e))
else
(.ok (({ No:=no,Phase:=1,Slots:=slots,Owners:=owners,Flights:=flights,Commitments:=(List.replicate (Int.toNat (r.1.length:Int)) (B5 32 0)),Openings:=[],Outcome:=[] }:Clearing),0)) else .bad
theorem Adn (no:Int)(slots:Int)(owners:List Int)(flights:List Int):Le (Xq no slots owners flights) (Tk no slots owners flights):=by
 unfold Xq Tk
 with_reducible repeat' first | exact Le.refl _ | exact Pw .. | exact M7 .. | apply Bt | apply Cw | intro _
def Oc {σ_:Type}(b:Table)(b_:(Vector Int 32)→σ_→R σ_)(j:Nat)(a:Int)(s:σ_):R σ_:=
 (Ro b.Salt [b.Airline,b.Flight,(j:Int),a]).bind fun r=>
 (b_ r s).bind fun s1=>
 .ok s1
theorem R2 {σ_:Type}{b' b_:(Vector Int 32)→σ_→R σ_}(hb : ∀ w0 w1,Le (b' w0 w1) (b_ w0 w1))(b:Table)(j:Nat)(a:Int)(s:σ_):Le (Oc b b' j a s) (Hb b b_ j a s):=by
 unfold Oc Hb
 with_reducible repeat' first | exact Le.refl _ | exact hb .. | exact Xy .. | apply Bt | intro _
def Qr {σ_:Type}(b:Table)(b_:(Vector Int 32)→σ_→R σ_)(s_:σ_):R σ_:=
 (eachS (fun j a=>fun s=>Oc b b_ j a s) 0 b.Costs s_).bind ((fun s=>.ok s))
theorem Tr {σ_:Type}{b' b_:(Vector Int 32)→σ_→R σ_}(hb : ∀ w0 w1,Le (b' w0 w1) (b_ w0 w1))(b:Table)(s_:σ_):Le (Qr b b' s_) (I6 b b_ s_):=by
 unfold Qr I6
 with_reducible repeat' first | exact Le.refl _ | exact hb .. | exact R2 (by assumption) .. | refine R2 (fun w0 w1=>?_) .. | apply Bt | apply Il | intro _
def Ps (t:Table):R (List (Vector Int 32)):=
 (Lk t).bind fun _=>
 (Qr t (fun a z_=>R.np ((fun l=>Nr a l) z_)) []).bind (fun l=>.ok l)
theorem V8 (t:Table):Le (Ps t) (Jg t):=by
 unfold Ps Jg
 with_reducible repeat' first | exact Le.refl _ | exact Tr (by assumption) .. | refine Tr (fun w0 w1=>?_) .. | apply Bt | apply Sj | intro _
def Xb (W_:(List (Vector Int 32))→R (Vector Int 32))(l:(List (Vector Int 32))):R (Vector Int 32):=
 if((l.length:Int)==0) then
((N8 [101,109,112,116,121] []).bind fun r=>
 .ok r)
else
(if((l.length:Int)==1) then
((idx l 0).bind fun a=>
 (Vq a).bind fun r1=>
 .ok r1)
else
((Gm (l.length:Int)).bind fun n=>
 if(0:Int)≤n∧n≤(l.length:Int) then
 if(0:Int)≤n∧n≤(l.length:Int) then
 (W_ (l.take (Int.toNat n))).bind fun r2=>
 (W_ (l.drop (Int.toNat n))).bind fun r3=>
 (Sz r2 r3).bind fun r4=>
 .ok r4 else .bad else .bad))
theorem Agz {W' W_:(List (Vector Int 32))→R (Vector Int 32)}(hW : ∀ w0,Le (W' w0) (W_ w0))(l:(List (Vector Int 32))):Le (Xb W' l) (Rw W_ l):=by
 unfold Xb Rw
 with_reducible repeat' first | exact Le.refl _ | exact hW .. | exact Rb .. | exact Abs .. | exact Abl .. | apply Bt | apply Cw | intro _
def Xf:Nat→(List (Vector Int 32))→R (Vector Int 32)
 | 0,_=>.bad
 | n+1,l=>Xb (Xf n) l
theorem Zn : ∀ (n k:Nat) a0,Le (Xf n a0) (Rt (n+k) a0)
 | 0,k,a0=>.inl rfl
 | n+1,k,a0=>by
  rw [show n+1+k=(n+k)+1 by omega]
  exact Agz (fun a0=>Zn n k a0) ..
def Qn (l:(List (Vector Int 32))):R (Vector Int 32):=Xf 16 l
theorem Xg (l:(List (Vector Int 32))):Le (Qn l) (P7 l):=by
 unfold Qn P7
 rw [Uy]
 exact Zn 16 (4000000 - 16) ..
def P9 (a:Table)(d:(List (Vector Int 32))):R (List (Vector Int 32)):=
 (Ps a).bind fun r=>
 (Qn r).bind fun r1=>
 if(d.length+[r1].length) * 32≤Ci then
 .ok (d++[r1]) else .bad
theorem Z8 (a:Table)(d:(List (Vector Int 32))):Le (P9 a d) (Ih a d):=by
 unfold P9 Ih
 with_reducible repeat' first | exact Le.refl _ | exact V8 .. | exact Xg .. | apply Bt | apply Cw | intro _
def Oq (l:List Table):R (List (Vector Int 32)):=
 (eachS (fun _ a=>fun d=>P9 a d) 0 l []).bind ((fun d=>.ok d))
theorem U7 (l:List Table):Le (Oq l) (G7 l):=by
 unfold Oq G7
 with_reducible repeat' first | exact Le.refl _ | exact Z8 .. | apply Bt | apply Il | intro _
def Su (l:List Table):R ((Vector Int 32)×Int):=
 (L4 l).bind fun r=>
 if r then
((Oq l).bind fun r1=>
 (Qn r1).bind fun r2=>
 .ok (r2,0))
else
(.ok ((B5 32 0),360))
theorem Acl (l:List Table):Le (Su l) (Nk l):=by
 unfold Su Nk
 with_reducible repeat' first | exact Le.refl _ | exact U7 .. | exact Xg .. | apply Bt | apply Cw | intro _
def Tj (c:Clearing)(airline:Int)(d:(Vector Int 32)):R (Clearing×Int):=
 (K8 c).bind fun e=>
 if(e != 0) then
(.ok (({ No:=0,Phase:=0,Slots:=0,Owners:=[],Flights:=[],Commitments:=[],Openings:=[],Outcome:=[] }:Clearing),e))
else
((Ls c.Owners).bind fun r=>
 (Gt r.1 airline).bind fun i=>
 if((decide (i<0))||(d==(#v[0,0,0,0,0,0,0,0,0,0,0,0,0,0,0,0,0,0,0,0,0,0,0,0,0,0,0,0,0,0,0,0]:(Vector Int 32)))) then
(.ok (({ No:=0,Phase:=0,Slots:=0,Owners:=[],Flights:=[],Commitments:=[],Openings:=[],Outcome:=[] }:Clearing),400))
else
((idx c.Commitments i).bind fun a=>
 if(a==d) then
(.ok (c,0))
else
(if(a==(#v[0,0,0,0,0,0,0,0,0,0,0,0,0,0,0,0,0,0,0,0,0,0,0,0,0,0,0,0,0,0,0,0]:(Vector Int 32))) then
((Om c.Commitments).bind fun r1=>
 (idx r1 i).bind fun a1=>
 (Fq ({ No:=c.No,Phase:=c.Phase,Slots:=c.Slots,Owners:=c.Owners,Flights:=c.Flights,Commitments:=(r1.set (Int.toNat i) d),Openings:=c.Openings,Outcome:=c.Outcome }:Clearing)).bind fun r2=>
 if r2 then
(.ok (({ No:=c.No,Phase:=2,Slots:=c.Slots,Owners:=c.Owners,Flights:=c.Flights,Commitments:=(r1.set (Int.toNat i) d),Openings:=c.Openings,Outcome:=c.Outcome }:Clearing),0))
else
(.ok (({ No:=c.No,Phase:=c.Phase,Slots:=c.Slots,Owners:=c.Owners,Flights:=c.Flights,Commitments:=(r1.set (Int.toNat i) d),Openings:=c.Openings,Outcome:=c.Outcome }:Clearing),0)))
else
(.ok (({ No:=0,Phase:=0,Slots:=0,Owners:=[],Flights:=[],Commitments:=[],Openings:=[],Outcome:=[] }:Clearing),400)))))
theorem Zy (c:Clearing)(airline:Int)(d:(Vector Int 32)):Le (Tj c airline d) (O8 c airline d):=by
 unfold Tj O8
 with_reducible repeat' first | exact Le.refl _ | exact Pw .. | exact M7 .. | apply Bt | apply Cw | intro _
def Ok (l:(List (Vector Int 32))):R (List (Vector Int 32)):=
 (Pp 80 (Sn fun i j s=>Hq i j s) (0,(IntKind.wrap .i64 ((l.length:Int) - 1)),l)).bind (fun l1=>Hn l1)
theorem Ye (l:(List (Vector Int 32))):Le (Ok l) (Ha l):=by
 unfold Ok Ha
 with_reducible repeat' first | exact Le.refl _ | apply Bt | apply Kc | apply S1 | intro _
def Vs (l1:(List (Vector Int 32)))(vat1:Int)(p:(List (Vector Int 32))):R (((List (Vector Int 32))×Int×(List (Vector Int 32))) ⊕ (List (Vector Int 32))):=
 if(l1.length:Int) > 1 then
((Gm (l1.length:Int)).bind fun n=>
 if vat1<n then
(if(0:Int)≤n∧n≤(l1.length:Int) then
 if(0:Int)≤n∧n≤(l1.length:Int) then
 (Qn (l1.drop (Int.toNat n))).bind fun r=>
 if(p.length+[r].length) * 32≤Ci then
 .ok (.inl ((l1.take (Int.toNat n)),vat1,(p++[r]))) else .bad else .bad else .bad)
else
(if(0:Int)≤n∧n≤(l1.length:Int) then
 if(0:Int)≤n∧n≤(l1.length:Int) then
 (Qn (l1.take (Int.toNat n))).bind fun r1=>
 if(p.length+[r1].length) * 32≤Ci then
 .ok (.inl ((l1.drop (Int.toNat n)),(IntKind.wrap .i64 (vat1 - n)),(p++[r1]))) else .bad else .bad else .bad))
else
(.ok (.inr (p)))
theorem Af1 (l1:(List (Vector Int 32)))(vat1:Int)(p:(List (Vector Int 32))):Le (Vs l1 vat1 p) (N1 l1 vat1 p):=by
 unfold Vs N1
 with_reducible repeat' first | exact Le.refl _ | exact Xg .. | apply Bt | apply Cw | intro _
def Wi (p1:(List (Vector Int 32))):R ((List (Vector Int 32))×Int):=
 (Ok p1).bind fun r2=>
 .ok (r2,0)
theorem Af7 (p1:(List (Vector Int 32))):Le (Wi p1) (N9 p1):=by
 unfold Wi N9
 with_reducible repeat' first | exact Le.refl _ | exact Ye .. | apply Bt | intro _
def Wb (l:(List (Vector Int 32)))(vat:Int):R ((List (Vector Int 32))×Int):=
 if((decide (vat<0))||(decide (vat≥(l.length:Int)))) then
(.ok ([],1))
else
((Pp 80 (Sn fun l1 vat1 p=>Vs l1 vat1 p) (l,vat,[])).bind (fun p1=>Wi p1))
theorem Ajt (l:(List (Vector Int 32)))(vat:Int):Le (Wb l vat) (N0 l vat):=by
 unfold Wb N0
 with_reducible repeat' first | exact Le.refl _ | exact Af7 .. | exact Af1 .. | apply Bt | apply Kc | apply Cw | apply S1 | intro _
def Uo (l:List Table)(vat:Int)(slot:Int):R (Opening×Int):=
 (L4 l).bind fun r=>
 (if((((!r)||(decide (vat<0)))||(decide (vat≥(l.length:Int))))||(decide (slot<0))) then R.ok true else(idx l 0).bind fun a=>
 R.ok (decide (slot≥(a.Costs.length:Int)))).bind (fun(b:Bool)=>if b then
(.ok (({ Airline:=0,Flight:=0,Slot:=0,Cost:=0,Salt:=(B5 32 0),Path:=[] }:Opening),360))
else
((idx l vat).bind fun a1=>
 (Ps a1).bind fun r1=>
 (Wb r1 slot).bind fun r2=>
 (Oq l).bind fun r3=>
 (Wb r3 vat).bind fun r4=>
 (idx a1.Costs slot).bind fun a2=>
 (I0 [r2.1,r4.1]).bind fun r5=>
 .ok (({ Airline:=a1.Airline,Flight:=a1.Flight,Slot:=slot,Cost:=a2,Salt:=a1.Salt,Path:=r5 }:Opening),0)))
theorem Afg (l:List Table)(vat:Int)(slot:Int):Le (Uo l vat slot) (Pg l vat slot):=by
 unfold Uo Pg
 with_reducible repeat' first | exact Le.refl _ | exact U7 .. | exact Ajt .. | exact V8 .. | apply Bt | apply Cw | intro _
def H8 (a:List Opening)(target:Opening):R (Int×Bool):=
 (Pp 80 (Do fun i j=>C3 a target i j) (0,(a.length:Int))).bind (fun i1=>Di a target i1)
theorem Rh (a:List Opening)(target:Opening):Le (H8 a target) (C9 a target):=by
 unfold H8 C9
 with_reducible repeat' first | exact Le.refl _ | apply Bt | apply Kc | apply Pz | intro _
def Ku (l:List Opening)(b:Opening):R (Int×Bool×(List Opening)):=
 (H8 l b).bind fun r=>
 if r.2 then
(.ok (r.1,true,l))
else
((Ks l).bind fun r1=>
 (Of r.1 r1 [b]).bind fun y=>
 Hl r y)
theorem Ur (l:List Opening)(b:Opening):Le (Ku l b) (E2 l b):=by
 unfold Ku E2
 with_reducible repeat' first | exact Le.refl _ | exact Rh .. | apply Bt | apply Cw | intro _
def Vl (c:Clearing)(o:Opening):R (Clearing×Int):=
 (K8 c).bind fun e=>
 if(e != 0) then
(.ok (({ No:=0,Phase:=0,Slots:=0,Owners:=[],Flights:=[],Commitments:=[],Openings:=[],Outcome:=[] }:Clearing),e))
else
(if(c.Phase==1) then
(.ok (({ No:=0,Phase:=0,Slots:=0,Owners:=[],Flights:=[],Commitments:=[],Openings:=[],Outcome:=[] }:Clearing),401))
else
((Pq c o).bind fun e1=>
 if(e1 != 0) then
(.ok (({ No:=0,Phase:=0,Slots:=0,Owners:=[],Flights:=[],Commitments:=[],Openings:=[],Outcome:=[] }:Clearing),e1))
else
((Ku c.Openings o).bind fun r=>
 if r.2.1 then
((idx c.Openings r.1).bind fun a=>
 (R8 a o).bind fun r1=>
 J6 c r (!r1))
else
(J6 c r false))))
theorem Abh (c:Clearing)(o:Opening):Le (Vl c o) (Mf c o):=by
 unfold Vl Mf
 with_reducible repeat' first | exact Le.refl _ | exact Yt .. | exact Ur .. | exact M7 .. | apply Bt | apply Cw | intro _
def Ue (i:Int)(o:Clearing)(o1:Table):R ((Int×Int×Clearing) ⊕ ((Int×Clearing) ⊕ (Clearing×Bool))):=
 if i≤2 then
((Su [o1]).bind fun r1=>
 if(r1.2 != 0) then
(.ok (.inr (.inr ((o,false)))))
else
((Tj o o1.Airline r1.1).bind fun r2=>
 .ok (.inl (r2.2,(IntKind.wrap .i64 (i+1)),r2.1))))
else
((Uo [o1] 0 (IntKind.wrap .i64 (Int.tdiv (IntKind.wrap .i64 (i - 3)) 2))).bind fun r3=>
 if(r3.2 != 0) then
(.ok (.inr (.inr ((o,false)))))
else
((Vl o r3.1).bind fun r4=>
 .ok (.inl (r4.2,(IntKind.wrap .i64 (i+1)),r4.1))))
theorem Ai7 (i:Int)(o:Clearing)(o1:Table):Le (Ue i o o1) (Ql i o o1):=by
 unfold Ue Ql
 with_reducible repeat' first | exact Le.refl _ | exact Zy .. | exact Abh .. | exact Afg .. | exact Acl .. | apply Bt | apply Cw | intro _
def Yd (steps:Int)(e:Int)(i:Int)(o:Clearing):R ((Int×Int×Clearing) ⊕ ((Int×Clearing) ⊕ (Clearing×Bool))):=
 if((decide (i≤steps))&&(e==0)) then
(if((Int.tmod i 2)==0) then
(Ue i o ({ Airline:=3,Flight:=9,Costs:=[2,6],Salt:=(B5 32 0) }:Table))
else
(Ue i o ({ Airline:=0,Flight:=5,Costs:=[4,1],Salt:=(B5 32 0) }:Table)))
else
(.ok (.inr (.inl ((e,o)))))
theorem Ah2 (steps:Int)(e:Int)(i:Int)(o:Clearing):Le (Yd steps e i o) (Qw steps e i o):=by
 unfold Yd Qw
 with_reducible repeat' first | exact Le.refl _ | exact Ai7 .. | apply Bt | apply Cw | intro _
def Yz (steps:Int):R (Clearing×Bool):=
 (Xq 1 2 [0,3] [5,9]).bind fun r=>
 (Pp 80 (Sn fun e i o=>Yd steps e i o) (r.2,1,r.1)).bind (alt (Do fun e1 o2=>S5 e1 o2) (fun r=>.ok r))
theorem Amj (steps:Int):Le (Yz steps) (Vb steps):=by
 unfold Yz Vb
 with_reducible repeat' first | exact Le.refl _ | exact Ah2 .. | exact Adn .. | apply Bt | apply Kc | apply Ky | apply Pz | apply S1 | intro _
def Ug (c:Clearing):R (Round×Int):=
 (K8 c).bind fun e=>
 if(e != 0) then
(.ok (({ Slots:=0,Owners:=[],Costs:=[] }:Round),e))
else
((Rj c).bind fun r=>
 if r.2 then
(.ok (r.1,0))
else
(.ok (({ Slots:=0,Owners:=[],Costs:=[] }:Round),401)))
theorem Aau (c:Clearing):Le (Ug c) (Iw c):=by
 unfold Ug Iw
 with_reducible repeat' first | exact Le.refl _ | exact X2 .. | exact M7 .. | apply Bt | apply Cw | intro _
def Ui (c:Clearing):R (Clearing×Int):=
 (Ug c).bind fun r=>
 if(r.2 != 0) then
(.ok (({ No:=0,Phase:=0,Slots:=0,Owners:=[],Flights:=[],Commitments:=[],Openings:=[],Outcome:=[] }:Clearing),r.2))
else
(if(c.Phase==2) then
((Ud r.1).bind fun r1=>
 .ok (({ No:=c.No,Phase:=r1.2,Slots:=c.Slots,Owners:=c.Owners,Flights:=c.Flights,Commitments:=c.Commitments,Openings:=c.Openings,Outcome:=r1.1 }:Clearing),0))
else
(.ok (c,0)))
theorem Ahu (c:Clearing):Le (Ui c) (Qs c):=by
 unfold Ui Qs
 with_reducible repeat' first | exact Le.refl _ | exact Aau .. | exact Aar .. | apply Bt | apply Cw | intro _
def Z7 (c:Clearing)(l:Leases):R Bool:=
 (Xn l).bind fun r=>
 if(r != 0) then
(.ok false)
else
((Pp 80 (fun x=>Qk c l x) 0).bind (alt (fun _=>Q0) (fun r=>.ok r)))
theorem Ajx (c:Clearing)(l:Leases):Le (Z7 c l) (T8 c l):=by
 unfold Z7 T8
 with_reducible repeat' first | exact Le.refl _ | apply Bt | apply Kc | apply Cw | apply Ky | intro _
def Rd (c:Clearing)(l:Leases):R ((List Command)×Int):=
 (K8 c).bind fun e=>
 if(e != 0) then
(.ok ([],e))
else
(if((c.Phase != 3)&&(c.Phase != 4)) then
(.ok ([],401))
else
((Z7 c l).bind fun r=>
 if r then
((eachS (fun j a=>fun x1=>Ml c l j a x1) 0 c.Outcome []).bind ((fun x1=>.ok (x1,0))))
else
(.ok ([],400))))
theorem Ad5 (c:Clearing)(l:Leases):Le (Rd c l) (Mx c l):=by
 unfold Rd Mx
 with_reducible repeat' first | exact Le.refl _ | exact Ajx .. | exact M7 .. | apply Bt | apply Cw | apply Il | intro _
def Agd:R Bool:=
 (Xq 1 2 [0,1,2] [0,1,2]).bind fun r=>
 (Yz 0).bind fun r1=>
 (Tj r1.1 1 (#v[1,0,0,0,0,0,0,0,0,0,0,0,0,0,0,0,0,0,0,0,0,0,0,0,0,0,0,0,0,0,0,0]:(Vector Int 32))).bind fun r2=>
 (Ui r1.1).bind fun r3=>
 (Rd r1.1 ({ Token:=0,List:=[] }:Leases)).bind fun r4=>
 (Vl r1.1 ({ Airline:=0,Flight:=0,Slot:=0,Cost:=0,Salt:=(B5 32 0),Path:=[] }:Opening)).bind fun r5=>
 (Yz 6).bind fun r6=>
 (Ug r6.1).bind fun r7=>
 (Ui r6.1).bind fun r8=>
 (Rd r8.1 ({ Token:=2,List:=[({ Slot:=0,Airline:=0,Flight:=5,Token:=1,Used:=false }:Lease),({ Slot:=1,Airline:=3,Flight:=9,Token:=2,Used:=false }:Lease)] }:Leases)).bind fun r9=>
 (if(((((((((((((r.2 != 400)||(!r1.2))||(!r6.2))||(r2.2 != 400))||(r3.2 != 401))||(r4.2 != 401))||(r5.2 != 401))||(r7.2 != 0))||(r8.2 != 0))||(r9.2 != 0))||(r1.1.Phase != 1))||(r6.1.Phase != 2))||(r8.1.Phase != 3)) then R.ok true else(K8 r8.1).bind fun r10=>
 R.ok (r10 != 0)).bind (fun(b:Bool)=>if b then
(.ok false)
else
((Pb r7.1 ({ Slots:=2,Owners:=[0,3],Costs:=[[4,1],[2,6]] }:Round)).bind fun r11=>
 (if r11 then(Lu r8.1.Outcome [1,0]).bind fun r12=>
 R.ok r12 else R.ok false).bind (fun(b1:Bool)=>(if b1 then(Kf r9.1 [({ Kind:=2,Slot:=1,Airline:=0,Flight:=5,Token:=2 }:Command),({ Kind:=2,Slot:=0,Airline:=3,Flight:=9,Token:=1 }:Command)]).bind fun r13=>
 R.ok r13 else R.ok false).bind (fun(b2:Bool)=>.ok b2))))
theorem Ak0:Le (Agd ) (Rm ):=by
 unfold Agd Rm
 with_reducible repeat' first | exact Le.refl _ | exact Zy .. | exact Amj .. | exact Adn .. | exact Aau .. | exact Abh .. | exact Ahu .. | exact M7 .. | exact Ad5 .. | apply Bt | apply Cw | intro _
end Go.Am
namespace Go.Am
open Go
set_option maxRecDepth 100000
theorem law40_sane_ok:Rm=.ok true:=Qf Ak0 (by kernel_rfl)
end Go.Am
