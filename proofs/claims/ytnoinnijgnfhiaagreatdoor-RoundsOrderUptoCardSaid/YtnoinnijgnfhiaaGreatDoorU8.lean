/- Written by shrink.py from texts of ours: comments struck, what is not reached left out, names short. -/
import Derived.Test.YtnoinnijgnfhiaaGreatDoorU4
import Derived.Test.YtnoinnijgnfhiaaGreatDoorU6
import Derived.KernelRfl
namespace Go.Am
open Go
set_option linter.unusedVariables false
set_option linter.unusedSectionVars false
set_option linter.unusedSimpArgs false
theorem N4 {α σ:Type}(b:Nat→α→σ→R σ)(k:Nat)(s:σ):eachS b k [] s=.ok s:=rfl
theorem K7 {α σ:Type}(b:Nat→α→σ→R σ)(k:Nat)(a:α)(l:List α)(s:σ):eachS b k (a::l) s=(b k a s).bind fun s'=>eachS b (k+1) l s':=by
 rw [eachS]
theorem Avb {n:Int}(h1 : -9223372036854775808≤n)(h2:n≤9223372036854775807):IntKind.wrap .i64 n=n:=by
 simp [IntKind.wrap,IntKind.bits,IntKind.signed]
 omega
section
variable {K V:Type} [DecidableEq K]
@[simp] theorem Axm (k:K):Bv ([]:List (K×V)) k=none:=rfl
theorem So (p:K×V)(m:List (K×V))(k:K):Bv (p::m) k=if p.1=k then some p.2 else Bv m k:=by
 unfold Bv
 rw [List.find?_cons]
 by_cases h:p.1=k
 ·simp [h]
 ·rw [if_neg h,show(p.1==k)=false by simpa using h]
theorem Ahy (m:List (K×V))(k k':K)(v:V):Bv (H3 m k v) k'=if k=k' then some v else Bv m k':=by
 induction m with
 | nil=>rw [H3,So]
 | cons p m ih=>
  rw [H3]
  by_cases h:p.1=k
  ·rw [if_pos (by simpa using h),So,So]
   subst h
   by_cases h':p.1=k' <;> simp [h']
  ·rw [if_neg (by simpa using h),So,So,ih]
   by_cases h':p.1=k'
   ·subst h'
    rw [if_pos rfl,if_neg (fun e=>h e.symm),if_pos rfl]
   ·rw [if_neg h',if_neg h']
end
theorem Ah5 {α β:Type}{b:Nat→α→List β→R (List β)}{g:α→β}{c:Nat}(hb : ∀ j a s,b j a s=if(s.length+1) * c≤Bt then .ok (s++[g a]) else .bad) :
  ∀ (l:List α) (k:Nat) (s:List β),(s.length+l.length) * c≤Bt→eachS b k l s=.ok (s++l.map g)
 | [],k,s,_=>by simp [N4]
 | a::l,k,s,h=>by
  have h1:(s.length+1) * c≤Bt:=Nat.le_trans (Nat.mul_le_mul_right _ (by simp)) h
  rw [K7,hb,if_pos h1,R.ok_bind,Ah5 hb l (k+1) (s++[g a]) (by simpa [Nat.add_assoc,Nat.add_comm 1] using h)]
  simp
theorem Gk {α:Type}{l:List α}{j:Nat}{a:α}(h:l[j]? = some a):idx l (j:Int)=.ok a:=by
 unfold idx
 rw [if_pos (by omega)]
 simp [h]
abbrev Av0:=List UInt8
def pos (l:List Av0)(x:Av0):Option Nat:=l.findIdx? (· == x)
theorem Ajj {α:Type}{b:Nat→α→Unit→R (Unit ⊕ Bool)} : ∀ (l:List α) (k:Nat),(∀ (j:Nat) a,l[j]? = some a→b (k+j) a ()=.ok (.inl ()))→each b k l ()=.ok (.inl ())
 | [],k,_=>rfl
 | a::l,k,hb=>by
  rw [Re,show b k a ()=.ok (.inl ()) from hb 0 a rfl]
  simp only [R.ok_bind]
  exact Ajj l (k+1) fun j x h=>by have:=hb (j+1) x (by simpa using h); rwa [Nat.add_comm j 1,← Nat.add_assoc] at this
end Go.Am
namespace Go.Am
open Go
set_option linter.unusedVariables false
set_option linter.unusedSimpArgs false
def Al {α:Type}(m:R α)(P:α→Prop):Prop := ∃ a,m=.ok a∧P a
section
variable {α β σ ε:Type}
theorem Al.ok {a:α}{P:α→Prop}(h:P a):Al (.ok a) P:=⟨a,rfl,h⟩
theorem Al.of {m:R α}{a:α}{P:α→Prop}(e:m=.ok a)(h:P a):Al m P:=⟨a,e,h⟩
theorem Al.bind {m:R α}{f:α→R β}{P:α→Prop}{Q:β→Prop}(h:Al m P)(k : ∀ a,P a→Al (f a) Q):Al (m.bind f) Q:=by
 obtain⟨a,rfl,ha⟩:=h
 exact k a ha
theorem Al.mono {m:R α}{P Q:α→Prop}(h:Al m P)(k : ∀ a,P a→Q a):Al m Q:=by
 obtain⟨a,e,ha⟩:=h
 exact⟨a,e,k a ha⟩
theorem Al.eq {m:R α}{a:α}(h:Al m fun x=>x=a):m=.ok a:=by
 obtain⟨x,e,rfl⟩:=h
 exact e
theorem Al.np {m:R α}{P:α→Prop}(h:Al m P):Al m.np P:=by
 obtain⟨a,rfl,ha⟩:=h
 exact⟨a,rfl,ha⟩
theorem Al.ite {c:Prop}[Decidable c]{a b:R α}{P:α→Prop}(h1:c→Al a P)(h2:¬c→Al b P):Al (if c then a else b) P:=by
 by_cases hc:c
 ·rw [if_pos hc]; exact h1 hc
 ·rw [if_neg hc]; exact h2 hc
theorem Al.pos {c:Prop}[Decidable c]{a b:R α}{P:α→Prop}(hc:c)(h:Al a P):Al (if c then a else b) P:=by rw [if_pos hc]; exact h
theorem Al.neg {c:Prop}[Decidable c]{a b:R α}{P:α→Prop}(hc:¬c)(h:Al b P):Al (if c then a else b) P:=by rw [if_neg hc]; exact h
theorem Al.idx {l:List α}{n:Int}{P:α→Prop}(h0:0≤n)(h1:n<(l.length:Int))(h : ∀ a,l[n.toNat]? = some a→P a):Al (idx l n) P:=by
 have hl:n.toNat<l.length:=by omega
 refine⟨l[n.toNat],?_,h _ (List.getElem?_eq_getElem hl)⟩
 unfold Am.idx
 rw [if_pos h0,List.getElem?_eq_getElem hl]
theorem Al.eachS {b:Nat→α→σ→R σ}{I:Nat→σ→Prop} : ∀ (l:List α) (k:Nat) (s:σ),I k s→(∀ (j:Nat) a s,l[j]? = some a→I (k+j) s→Al (b (k+j) a s) (I (k+j+1)))→Al (eachS b k l s) (I (k+l.length))
 | [],k,s,h,_=>⟨s,rfl,h⟩
 | a::l,k,s,h,hb=>by
  rw [K7]
  refine(hb 0 a s rfl h).bind fun s' h'=>?_
  have:=Al.eachS l (k+1) s' h' (fun j a' s hj hi=>by
   have:=hb (j+1) a' s hj (by rwa [Nat.add_assoc,Nat.add_comm 1] at hi)
   rwa [show k+(j+1)=k+1+j by omega] at this)
  rwa [show k+1+l.length=k+(a::l).length by simp; omega] at this
def U5 (I:Nat→σ→Prop)(E:ε→Prop)(n:Nat):σ ⊕ ε→Prop
 | .inl s=>I n s
 | .inr e=>E e
theorem Al.each {b:Nat→α→σ→R (σ ⊕ ε)}{I:Nat→σ→Prop}{E:ε→Prop} : ∀ (l:List α) (k:Nat) (s:σ),I k s→(∀ (j:Nat) a s,l[j]? = some a→I (k+j) s→Al (b (k+j) a s) (U5 I E (k+j+1)))→Al (each b k l s) (U5 I E (k+l.length))
 | [],k,s,h,_=>⟨.inl s,rfl,h⟩
 | a::l,k,s,h,hb=>by
  rw [Re]
  refine(hb 0 a s rfl h).bind fun x h'=>?_
  cases x with
  | inr e=>exact⟨_,rfl,h'⟩
  | inl s'=>
   have:=Al.each l (k+1) s' h' (fun j a' s hj hi=>by
    have:=hb (j+1) a' s hj (by rwa [Nat.add_assoc,Nat.add_comm 1] at hi)
    rwa [show k+(j+1)=k+1+j by omega] at this)
   rwa [show k+1+l.length=k+(a::l).length by simp; omega] at this
theorem Al.alt {f:α→R σ}{g:β→R σ}{x:α ⊕ β}{P:α ⊕ β→Prop}{Q:σ→Prop}(hx:P x)(h1 : ∀ a,P (.inl a)→Al (f a) Q)(h2 : ∀ b,P (.inr b)→Al (g b) Q):Al (alt f g x) Q:=by
 cases x with
 | inl a=>exact h1 a hx
 | inr b=>exact h2 b hx
theorem Al.loop {b:σ→R (σ ⊕ ε)}{I:σ→Prop}{E:ε→Prop}(μ:σ→Nat)(hb : ∀ s,I s→Al (b s) fun x=>match x with | .inl s'=>I s'∧μ s'<μ s | .inr e=>E e) : ∀ (n:Nat) (s:σ),μ s≤n→I s→Al (loop b s) E
 | n,s,hn,hs=>by
  rw [Agw]
  obtain⟨x,e,hx⟩:=hb s hs
  rw [e]
  cases x with
  | inr y=>exact⟨y,rfl,hx⟩
  | inl s'=>
   cases n with
   | zero=>exact absurd hx.2 (by omega)
   | succ n=>exact Al.loop μ hb n s' (by have:=hx.2; omega) hx.1
end
theorem G3 {n:Int}(h1 : -9223372036854775808≤n)(h2:n≤9223372036854775807):IntKind.wrap .i64 n=n:=Avb h1 h2
def E7 {α:Type}[BEq α](l:List α)(v:α):Int:=match l.findIdx? (v == ·) with
 | some i=>(i:Int)
 | none => -1
theorem Agm {α:Type}{b:Nat→α→Unit→R (Unit ⊕ Int)}{p:α→Bool}(hb : ∀ j a,b j a ()=if p a then .ok (.inr (j:Int)) else .ok (.inl ())) : ∀ (l:List α) (k:Nat),
  each b k l ()=match l.findIdx? p with | some i=>.ok (.inr ((k+i:Nat):Int)) | none=>.ok (.inl ())
 | [],k=>rfl
 | a::l,k=>by
  rw [Re,hb,List.findIdx?_cons]
  by_cases h:p a=true
  ·rw [if_pos h,if_pos h]; rfl
  ·rw [if_neg h,if_neg h]
   show each b (k+1) l ()=_
   rw [Agm hb l (k+1)]
   cases l.findIdx? p with
   | none=>rfl
   | some i=>simp only [Option.map_some]; congr 2; rw [show k+1+i=k+(i+1) by omega]
theorem Avv {α:Type}[BEq α]{b:Nat→α→Unit→R (Unit ⊕ Int)}{v:α}(hb : ∀ j a,b j a ()=if(v==a)=true then .ok (.inr (j:Int)) else .ok (.inl ()))(l:List α) :
  (each b 0 l ()).bind (alt (fun _=>R.ok (-1)) (fun r=>.ok r))=.ok (E7 l v):=by
 rw [Agm hb]
 unfold E7
 cases l.findIdx? (v == ·) with
 | none=>rfl
 | some i=>simp [R.bind]
theorem Ye (s:List (Vector Int 32))(v:Vector Int 32):Nc s v=.ok (E7 s v):=Avv (fun j a=>rfl) s
theorem Ng (s:List Int)(v:Int):I0 s v=.ok (E7 s v):=Avv (fun j a=>rfl) s
theorem K4 {α:Type}[BEq α][LawfulBEq α]{l:List α}{v:α}:(0≤E7 l v)↔v ∈ l:=by
 unfold E7
 cases h:l.findIdx? (v == ·) with
 | none=>
  rw [List.findIdx?_eq_none_iff] at h
  constructor
  ·intro h'; simp at h'
  ·intro hm; have:=h v hm; simp at this
 | some i=>
  rw [List.findIdx?_eq_some_iff_getElem] at h
  obtain⟨hi,h1,_⟩:=h
  constructor
  ·intro _; rw [show v=l[i] by simpa using h1]; exact List.getElem_mem hi
  ·intro _; exact Int.natCast_nonneg _
theorem Uk {α:Type}[BEq α][LawfulBEq α]{l:List α}{v:α}(h:0≤E7 l v):l[(E7 l v).toNat]? = some v:=by
 unfold E7 at h ⊢
 cases hf:l.findIdx? (v == ·) with
 | none=>rw [hf] at h; simp at h
 | some i=>
  rw [List.findIdx?_eq_some_iff_getElem] at hf
  obtain⟨hi,h1,_⟩:=hf
  simp only [Int.toNat_natCast]
  rw [List.getElem?_eq_getElem hi]
  simpa using (show v=l[i] by simpa using h1).symm
theorem Ahf {α:Type}[BEq α][LawfulBEq α]{l:List α}{v:α}:E7 l v<(l.length:Int):=by
 unfold E7
 cases hf:l.findIdx? (v == ·) with
 | none=>simp only; omega
 | some i=>
  rw [List.findIdx?_eq_some_iff_getElem] at hf
  obtain⟨hi,_⟩:=hf
  simp only; omega
theorem Wo (s:List (Vector Int 32))(v:Vector Int 32):Ik s v=.ok (decide (v ∈ s)):=by
 unfold Ik
 rw [Ye]
 show R.ok (decide (E7 s v≥0))=_
 congr 1
 exact decide_eq_decide.2 K4
theorem Lb (s:List Int)(v:Int):Fm s v=.ok (decide (v ∈ s)):=by
 unfold Fm
 rw [Ng]
 show R.ok (decide (E7 s v≥0))=_
 congr 1
 exact decide_eq_decide.2 K4
def zD:Vector Int 32:=B0 32 0
theorem Ajq:(#v[0,0,0,0,0,0,0,0,0,0,0,0,0,0,0,0,0,0,0,0,0,0,0,0,0,0,0,0,0,0,0,0]:Vector Int 32)=zD:=by decide
theorem Nh (c:Clearing):Hg c=.ok (!decide (zD ∈ c.Commitments)):=by
 unfold Hg
 rw [Wo,Ajq]
 rfl
theorem Rf (a y:Int):Js a y=.ok (if a<y then -1 else if a > y then 1 else 0):=by
 unfold Js P8
 have h1:(a != a)=false:=by simp
 have h2:(y != y)=false:=by simp
 simp only [h1,h2]
 show(if a<y then R.ok (-1:Int) else if a > y then .ok 1 else .ok 0)=_
 split
 ·rfl
 ·split <;> rfl
def Abz (a b:Opening):Int:=if a.Flight<b.Flight then -1 else if a.Flight > b.Flight then 1 else if a.Slot<b.Slot then -1 else if a.Slot > b.Slot then 1 else 0
theorem Tt (a b:Opening):Mz a b=.ok (Abz a b):=by
 unfold Mz
 rw [Rf,Rf]
 show(Tj _).bind _=_
 unfold Tj Abz
 generalize (if a.Slot<b.Slot then(-1:Int) else if a.Slot > b.Slot then 1 else 0)=q
 by_cases h1:a.Flight<b.Flight
 ·simp only [if_pos h1]; rfl
 ·simp only [if_neg h1]
  by_cases h2:a.Flight > b.Flight
  ·simp only [if_pos h2]; rfl
  ·simp only [if_neg h2]
   have e0:Lv 0=.ok (.inl ()):=rfl
   have e1:Lv q=if q=0 then .ok (.inl ()) else .ok (.inr q):=by
    unfold Lv
    by_cases hq:q=0
    ·subst hq; rfl
    ·rw [if_pos (by simpa using hq),if_neg hq]
   simp only [Re,e0,e1,R.bind,Asn]
   by_cases hq:q=0
   ·subst hq; rfl
   ·rw [if_neg hq]
theorem Aan {a b:Opening}:Abz a b<0↔a.Flight<b.Flight∨(a.Flight=b.Flight∧a.Slot<b.Slot):=by
 unfold Abz
 split
 ·simp_all
 ·split
  ·constructor
   ·intro h; omega
   ·intro h; omega
  ·split
   ·constructor
    ·intro _; right; omega
    ·intro _; omega
   ·split
    ·constructor <;> intro h <;> omega
    ·constructor <;> intro h <;> omega
theorem Apx {a b:Opening}:Abz a b=0↔a.Flight=b.Flight∧a.Slot=b.Slot:=by
 unfold Abz
 split
 ·constructor <;> intro h <;> omega
 ·split
  ·constructor <;> intro h <;> omega
  ·split
   ·constructor <;> intro h <;> omega
   ·split
    ·constructor <;> intro h <;> omega
    ·constructor <;> intro h <;> omega
theorem Ua (a f:Int):K1 a f=.ok (decide (0≤a∧a<8∧0≤f∧f≤4095)):=by
 unfold K1
 congr 1
 rw [Bool.eq_iff_iff]
 simp only [Bool.and_eq_true,decide_eq_true_eq]
 constructor
 ·intro h; omega
 ·intro h; omega
theorem Vn (c:Int):Lt c=.ok (decide (-1≤c∧c≤1048576)):=by
 unfold Lt
 congr 1
 rw [Bool.eq_iff_iff]
 simp only [Bool.and_eq_true,decide_eq_true_eq]
end Go.Am
namespace Go.Am
open Go
set_option linter.unusedVariables false
set_option linter.unusedSimpArgs false
theorem Anv {L:List Int}{x:Int}:x ∈ K9 L↔x ∈ L:=(Tc L).mem_iff
theorem Anh (L:List Int):(K9 L).Pairwise (· ≤ ·):=Xb L
theorem Aly : ∀ {l1 l2:List Int},l1.Pairwise (· < ·)→l2.Pairwise (· < ·)→(∀ x,x ∈ l1↔x ∈ l2)→l1=l2
 | [],[],_,_,_=>rfl
 | [],b::l2,_,_,h=>absurd ((h b).2 (List.mem_cons_self ..)) (by simp)
 | a::l1,[],_,_,h=>absurd ((h a).1 (List.mem_cons_self ..)) (by simp)
 | a::l1,b::l2,h1,h2,h=>by
  have k1:=List.pairwise_cons.1 h1
  have k2:=List.pairwise_cons.1 h2
  have hab:a=b:=by
   rcases List.mem_cons.1 ((h a).1 (List.mem_cons_self ..)) with e | e
   ·exact e
   ·rcases List.mem_cons.1 ((h b).2 (List.mem_cons_self ..)) with e' | e'
    ·exact e'.symm
    ·have:=k2.1 a e; have:=k1.1 b e'; omega
  subst hab
  rw [Aly k1.2 k2.2 fun x=>?_]
  constructor
  ·intro hx
   rcases List.mem_cons.1 ((h x).1 (List.mem_cons_of_mem _ hx)) with e | e
   ·have:=k1.1 x hx; omega
   ·exact e
  ·intro hx
   rcases List.mem_cons.1 ((h x).2 (List.mem_cons_of_mem _ hx)) with e | e
   ·have:=k2.1 x hx; omega
   ·exact e
def inA (a:Int):Prop:=0≤a∧a<8
instance (a:Int):Decidable (inA a):=by unfold inA; exact inferInstance
def D9 (owners:List Int):List Int:=((List.range 8).map fun n:Nat=>(n:Int)).filter fun a=>decide (a ∈ owners)
theorem Um {owners:List Int}{a:Int}:a ∈ D9 owners↔inA a∧a ∈ owners:=by
 unfold D9 inA
 rw [List.mem_filter,List.mem_map]
 constructor
 ·rintro⟨⟨n,hn,rfl⟩,h⟩
  have:=List.mem_range.1 hn
  exact⟨by omega,by simpa using h⟩
 ·rintro⟨h1,h2⟩
  exact⟨⟨a.toNat,List.mem_range.2 (by omega),by omega⟩,by simpa using h2⟩
theorem Ame (owners:List Int):(D9 owners).Pairwise (· < ·):=by
 unfold D9
 refine List.Pairwise.filter _ ?_
 decide
theorem Aaq (owners:List Int):(D9 owners).length≤8:=by
 unfold D9
 refine Nat.le_trans (List.length_filter_le _ _) ?_
 simp
def many (owners:List Int)(a:Int):Int:=(owners.count a:Int)
theorem V8 (owners:List Int)(hl:owners.length≤1048576):Al (F1 owners) fun r=>r.1=D9 owners ∧ ∀ a,Option.getD (Bv r.2 a) 0=if inA a then many owners a else 0:=by
 unfold F1
 refine Al.bind (P:=fun s=>(∀ a,Option.getD (Bv s.1 a) 0=if inA a then many owners a else 0)∧s.2.Nodup∧(∀ a,a ∈ s.2↔inA a∧a ∈ owners)∧s.2.length≤owners.length) ?_ ?_
 ·have:=Al.eachS (b:=fun _ a=>C7 fun m airlines=>Hc a m airlines) (I:=fun n s=>(∀ a,Option.getD (Bv s.1 a) 0=if inA a then many (owners.take n) a else 0)∧s.2.Nodup∧(∀ a,a ∈ s.2↔inA a∧a ∈ owners.take n)∧s.2.length≤n) owners 0 ([],[]) ?_ ?_
  ·refine this.mono fun s h=>?_
   simpa using h
  ·refine⟨fun a=>by simp [many],by simp,fun a=>by simp,by simp⟩
  ·rintro j a ⟨m,l⟩ hj ⟨h1,h2,h3,h4⟩
   simp only [Nat.zero_add] at h1 h3 h4 ⊢
   have hjl:j<owners.length:=Au hj
   have htk:owners.take (j+1)=owners.take j++[a]:=by rw [List.take_add_one,hj]; rfl
   have hcnt : ∀ x,many (owners.take (j+1)) x=many (owners.take j) x+if a=x then 1 else 0:=fun x=>by
    unfold many
    rw [htk,List.count_append]
    by_cases hx:a=x
    ·subst hx; simp
    ·rw [if_neg hx,List.count_singleton,if_neg (by simpa using hx)]; simp
   show Al (Hc a m l) _
   unfold Hc
   by_cases ha:inA a
   case neg=>
    rw [if_pos (by simp only [Bool.or_eq_true,decide_eq_true_eq]; unfold inA at ha; omega)]
    refine Al.ok ⟨fun x=>?_,h2,fun x=>?_,by simp only at h4 ⊢; omega⟩
    ·rw [h1 x]
     by_cases hx:inA x
     ·rw [if_pos hx,if_pos hx,hcnt,if_neg (fun e:a=x=>ha (by rw [e]; exact hx))]; simp
     ·rw [if_neg hx,if_neg hx]
    ·rw [h3 x,htk,List.mem_append,List.mem_singleton]
     constructor
     ·rintro⟨q1,q2⟩; exact⟨q1,.inl q2⟩
     ·rintro⟨q1,q2 | rfl⟩
      ·exact⟨q1,q2⟩
      ·exact absurd q1 ha
   rw [if_neg (by simp only [Bool.or_eq_true,decide_eq_true_eq]; unfold inA at ha; omega)]
   have hm:Option.getD (Bv m a) 0=many (owners.take j) a:=by rw [h1 a,if_pos ha]
   have hcb:0≤many (owners.take j) a∧many (owners.take j) a≤1048576:=by
    have:=List.count_le_length (a:=a) (l:=owners.take j)
    have h':=List.length_take_le j owners
    have h'':=List.length_take_le' j owners
    unfold many; omega
   have hw:IntKind.wrap .i64 (many (owners.take j) a+1)=many (owners.take j) a+1:=G3 (by omega) (by omega)
   have hput : ∀ x,Option.getD (Bv (H3 m a (IntKind.wrap .i64 (Option.getD (Bv m a) 0+1))) x) 0=if inA x then many (owners.take (j+1)) x else 0:=fun x=>by
    rw [Ahy,hm,hw]
    by_cases hx:a=x
    ·subst hx; rw [if_pos rfl,if_pos ha,hcnt,if_pos rfl]; rfl
    ·rw [if_neg hx,h1 x]
     by_cases hi:inA x
     ·rw [if_pos hi,if_pos hi,hcnt,if_neg hx]; simp
     ·rw [if_neg hi,if_neg hi]
   have hmem:(many (owners.take j) a=0)↔a ∉ owners.take j:=by
    unfold many
    rw [show((owners.take j).count a:Int)=0↔(owners.take j).count a=0 by omega,List.count_eq_zero]
   refine Al.ite (fun hz=>?_) (fun hz=>?_)
   ·rw [hm] at hz
    have hna:a ∉ owners.take j:=hmem.1 (by simpa using hz)
    refine Al.pos ?_ (Al.ok ⟨hput,?_,fun x=>?_,by simp only [List.length_append,List.length_singleton]; omega⟩)
    ·simp only [List.length_singleton,Bt]; omega
    ·rw [List.nodup_append]
     refine⟨h2,by simp,fun x hx y hy=>?_⟩
     obtain rfl:=List.mem_singleton.1 hy
     intro e; subst e
     exact hna ((h3 _).1 hx).2
    ·rw [List.mem_append,List.mem_singleton,h3 x,htk,List.mem_append,List.mem_singleton]
     constructor
     ·rintro(⟨q1,q2⟩ | rfl)
      ·exact⟨q1,.inl q2⟩
      ·exact⟨ha,.inr rfl⟩
     ·rintro⟨q1,q2 | rfl⟩
      ·exact .inl ⟨q1,q2⟩
      ·exact .inr rfl
   ·rw [hm] at hz
    have hya:a ∈ owners.take j:=by
     by_cases h:a ∈ owners.take j
     ·exact h
     ·exact absurd (hmem.2 h) (by simpa using hz)
    refine Al.ok ⟨hput,h2,fun x=>?_,by simp only at h4 ⊢; omega⟩
    rw [h3 x,htk,List.mem_append,List.mem_singleton]
    constructor
    ·rintro⟨q1,q2⟩; exact⟨q1,.inl q2⟩
    ·rintro⟨q1,q2 | rfl⟩
     ·exact⟨q1,q2⟩
     ·exact⟨q1,hya⟩
 ·rintro⟨m,l⟩ ⟨h1,h2,h3,h4⟩
  show Al ((Ml l).bind fun _=>R.ok ((K9 l),m)) _
  unfold Ml T2
  rw [if_pos (by simp only at h4; unfold Bt; omega)]
  refine Al.ok ⟨?_,h1⟩
  have hperm:(K9 l).Perm l:=Tc l
  have hnd:(K9 l).Nodup:=hperm.nodup_iff.2 h2
  have hlt:(K9 l).Pairwise (· < ·):=by
   have h1:=Anh l
   have h2:(K9 l).Pairwise (· ≠ ·):=hnd
   exact(h1.and h2).imp fun h=>by omega
  refine Aly hlt (Ame owners) fun x=>?_
  rw [Anv,Um]
  exact h3 x
structure Formed (c:Clearing):Prop where
 no:1≤c.No∧c.No≤1048576
 slots:1≤c.Slots∧c.Slots≤8
 fl:1≤c.Flights.length∧(c.Flights.length:Int)≤c.Slots
 ow:c.Owners.length=c.Flights.length
 lt:c.Flights.Pairwise (· < ·)
 rng : ∀ f ∈ c.Flights,0≤f∧f≤4095
 own : ∀ a ∈ c.Owners,inA a
 com:c.Commitments.length=(D9 c.Owners).length
theorem Ana (c:Clearing):Al (Qa c) fun r=>(r=true↔Formed c):=by
 unfold Qa
 refine Al.ite (fun h=>?_) (fun h=>?_)
 ·refine Al.ok ⟨fun e=>by simp at e,fun hF=>?_⟩
  simp only [Bool.or_eq_true,decide_eq_true_eq,bne_iff_ne,ne_eq] at h
  have h1:=hF.no; have h2:=hF.slots; have h3:=hF.fl; have h4:=hF.ow
  omega
 ·simp only [Bool.or_eq_true,decide_eq_true_eq,bne_iff_ne,ne_eq,not_or,Decidable.not_not] at h
  obtain⟨⟨⟨⟨⟨⟨n1,n2⟩,n3⟩,n4⟩,n5⟩,n6⟩,n7⟩:=h
  have hE:=Al.each (b:=fun j a=>fun last=>Kv c j a last) (I:=fun n last=>(c.Flights.take n).Pairwise (· < ·)∧(∀ f ∈ c.Flights.take n,0≤f∧f≤4095∧f≤last)∧(∀ a ∈ c.Owners.take n,inA a) ∧ -1≤last∧(last = -1 ∨ ∃ i,i<n∧c.Flights[i]? = some last))
   (E:=fun r:Bool=>r=false∧¬ Formed c) c.Flights 0 (-1) ⟨by simp,by simp,by simp,by omega,.inl rfl⟩ (fun j a last hj hI=>by
    simp only [Nat.zero_add] at hI ⊢
    obtain⟨p1,p2,p3,p4,p5⟩:=hI
    have hjl:j<c.Flights.length:=Au hj
    obtain⟨w,hw⟩ : ∃ w,c.Owners[j]? = some w:=⟨_,List.getElem?_eq_getElem (by omega)⟩
    have ht1:c.Flights.take (j+1)=c.Flights.take j++[a]:=by rw [List.take_add_one,hj]; rfl
    have ht2:c.Owners.take (j+1)=c.Owners.take j++[w]:=by rw [List.take_add_one,hw]; rfl
    unfold Kv
    rw [Gk hw]
    by_cases q1:a≤last∨a > 4095
    ·rw [if_pos (by simpa using q1)]
     refine Al.ok ⟨rfl,fun hF=>?_⟩
     have hr:=hF.rng a (List.mem_of_getElem? hj)
     rcases q1 with q1 | q1
     ·rcases p5 with p5 | ⟨i,hi,hl⟩
      ·omega
      ·have hil:i<c.Flights.length:=Au hl
       have:=List.pairwise_iff_getElem.1 hF.lt i j hil hjl hi
       rw [List.getElem?_eq_getElem hil] at hl
       rw [List.getElem?_eq_getElem hjl] at hj
       simp only [Option.some.injEq] at hl hj
       omega
     ·omega
    ·rw [if_neg (by simpa using q1)]
     simp only [R.bind]
     by_cases q2:w<0
     ·simp only [q2,decide_true,if_true]
      exact Al.ok ⟨rfl,fun hF=>by have:=hF.own w (List.mem_of_getElem? hw); unfold inA at this; omega⟩
     ·simp only [q2,decide_false,if_false,Bool.false_eq_true]
      by_cases q3:w≥8
      ·simp only [q3,decide_true,if_true]
       exact Al.ok ⟨rfl,fun hF=>by have:=hF.own w (List.mem_of_getElem? hw); unfold inA at this; omega⟩
      ·simp only [q3,decide_false,if_false,Bool.false_eq_true]
       refine Al.ok ⟨?_,?_,?_,by omega,.inr ⟨j,by omega,hj⟩⟩
       ·rw [ht1,List.pairwise_append]
        refine⟨p1,by simp,fun x hx y hy=>?_⟩
        obtain rfl:=List.mem_singleton.1 hy
        have:=(p2 x hx).2.2; omega
       ·intro f hf
        rw [ht1,List.mem_append,List.mem_singleton] at hf
        rcases hf with hf | rfl
        ·have:=p2 f hf; omega
        ·omega
       ·intro x hx
        rw [ht2,List.mem_append,List.mem_singleton] at hx
        rcases hx with hx | rfl
        ·exact p3 x hx
        ·unfold inA; omega)
  refine hE.bind fun x hx=>Al.alt hx (fun last hl=>?_) (fun r hr=>?_)
  ·simp only [U5,Nat.zero_add,List.take_length] at hl
   obtain⟨p1,p2,p3,_⟩:=hl
   have hol:c.Owners.length=c.Flights.length:=by omega
   rw [← hol,List.take_length] at p3
   refine(V8 c.Owners (by omega)).bind fun r hr=>Al.ok ?_
   rw [hr.1]
   constructor
   ·intro e
    have e':c.Commitments.length=(D9 c.Owners).length:=by have:=of_decide_eq_true e; omega
    exact⟨by omega,by omega,by omega,hol,p1,fun f hf=>⟨(p2 f hf).1,(p2 f hf).2.1⟩,p3,e'⟩
   ·intro hF
    rw [hF.com]; simp
  ·obtain⟨rfl,hn⟩:=hr
   exact Al.ok ⟨fun e=>by simp at e,fun hF=>absurd hF hn⟩
end Go.Am
namespace Go.Am
open Go
set_option linter.unusedVariables false
set_option linter.unusedSimpArgs false
abbrev B9 {α:Type}(m:R α):Prop:=Al m fun _=>True
theorem B9.ok {α:Type}(a:α):B9 (.ok a):=⟨a,rfl,trivial⟩
theorem B9.bind {α β:Type}{m:R α}{f:α→R β}{Q:β→Prop}(h:B9 m)(k : ∀ a,Al (f a) Q):Al (m.bind f) Q:=Al.bind h fun a _=>k a
theorem Al.tot {α:Type}{m:R α}{P:α→Prop}(h:Al m P):B9 m:=h.mono fun _ _=>trivial
theorem B9.eachS {α σ:Type}{b:Nat→α→σ→R σ}(l:List α)(k:Nat)(s:σ)(hb : ∀ (j:Nat) a s,l[j]? = some a→B9 (b (k+j) a s)):B9 (eachS b k l s):=
 Al.eachS (I:=fun _ _=>True) l k s trivial fun j a s hj _=>hb j a s hj
noncomputable def R.val {α:Type}[Inhabited α]:R α→α
 | .ok a=>a
 | _=>default
theorem B9.eq {α:Type}[Inhabited α]{m:R α}(h:B9 m):m=.ok m.val:=by
 obtain⟨a,rfl,_⟩:=h
 rfl
instance:Inhabited (Vector Int 32):=⟨B0 32 0⟩
theorem Ac5 (n:Int):0≤IntKind.wrap .u64 n:=by simp [IntKind.wrap,IntKind.bits,IntKind.signed]; omega
theorem Alu (a b:Int):0≤Ej .u64 a b:=Ac5 _
theorem Ut (a k:Int):B9 (C4 a k):=by
 unfold C4
 rw [if_pos (Alu _ _),if_pos (Ac5 _)]
 exact B9.ok _
theorem Adr (v a b c:Int):B9 (Mr v a b c):=by
 unfold Mr
 exact(Ut _ _).bind fun _=>(Ut _ _).bind fun _=>(Ut _ _).bind fun _=>B9.ok _
theorem Ark (b:List Int)(h:4≤b.length):B9 (R6 b):=by
 unfold R6
 rw [if_pos ⟨by decide,by omega⟩]
 exact(B9.eachS _ _ _ fun j a s _=>B9.ok _).bind fun _=>B9.ok _
theorem Afs (b:List Int)(s:Vector Int 8)(h:b.length=64):B9 (Fl b s):=by
 unfold Fl
 refine B9.bind (B9.eachS _ _ _ fun j a o hj=>?_) fun o=>?_
 ·have hj':j<16:=by have:=Au hj; simpa using this
  unfold Ij
  simp only [Nat.zero_add]
  rw [G3 (by omega) (by omega),if_pos ⟨by omega,by omega⟩]
  refine B9.bind (Ark _ (by rw [List.length_drop]; omega)) fun _=>B9.ok _
 ·refine B9.bind (Al.loop (I:=fun s:Int×Vector Int 64=>16≤s.1∧s.1≤64) (E:=fun _=>True) (fun s=>(64 - s.1).toNat) ?_ 64 (16,o) (by simp) ⟨Int.le_refl _,by show(16:Int)≤64; decide⟩) fun o2=>?_
  ·rintro⟨x,o1⟩ ⟨h1,h2⟩
   show Al (Fg x o1) _
   simp only at h1 h2
   unfold Fg
   by_cases hx:x<64
   ·rw [if_pos hx,G3 (n:=x - 15) (by omega) (by omega),G3 (n:=x - 2) (by omega) (by omega),G3 (n:=x - 16) (by omega) (by omega),G3 (n:=x - 7) (by omega) (by omega),
     if_pos ⟨by omega,by omega⟩,if_pos ⟨by omega,by omega⟩,if_pos ⟨by omega,by omega⟩,if_pos ⟨by omega,by omega⟩]
    refine(Ut _ _).bind fun _=>(Ut _ _).bind fun _=>(Ut _ _).bind fun _=>(Ut _ _).bind fun _=>?_
    rw [if_pos ⟨by omega,hx⟩,G3 (n:=x+1) (by omega) (by omega)]
    exact Al.ok ⟨⟨by simp only; omega,by simp only; omega⟩,by simp only; omega⟩
   ·rw [if_neg hx]; exact Al.ok trivial
  ·unfold Gn
   refine B9.bind (B9.eachS _ _ _ fun j a o _=>?_) fun o3=>B9.bind (B9.eachS _ _ _ fun j a o _=>B9.ok _) fun _=>B9.ok _
   unfold If
   refine(Adr _ _ _ _).bind fun _=>(Adr _ _ _ _).bind fun _=>?_
   rw [if_pos (List.length_take_le _ _)]
   exact B9.ok _
theorem Al9 (c cp:Nat)(n:Int)(s:Vector Int 128):B9 (Pl c cp n s):=by
 unfold Pl
 refine B9.bind (B9.eachS _ _ _ fun j a o hj=>?_) fun _=>B9.ok _
 have hj':j<8:=by have:=Au hj; simpa using this
 unfold Qd
 simp only [Nat.zero_add]
 rw [G3 (n:=8 * (j:Int)) (by omega) (by omega),G3 (n:=7 - (j:Int)) (by omega) (by omega),if_pos (by omega),if_pos ⟨by omega,by omega⟩]
 exact B9.ok _
theorem Arh (c cp:Nat)(n:Int)(s:Vector Int 32):B9 (M5 c cp n s):=by
 unfold M5
 refine B9.bind (B9.eachS _ _ _ fun j a o hj=>?_) fun _=>B9.ok _
 have hj':j<4:=by have:=Au hj; simpa using this
 unfold N9
 simp only [Nat.zero_add]
 rw [G3 (n:=8 * (j:Int)) (by omega) (by omega),G3 (n:=3 - (j:Int)) (by omega) (by omega),if_pos (by omega),if_pos ⟨by omega,by omega⟩]
 exact B9.ok _
theorem Afm (r:List Int)(o:Vector Int 8)(k:Nat)(h:r.length=64 * k):B9 (loop (C7 fun vend o2=>Kd vend o2) (r,o)):=by
 refine Al.loop (I:=fun s:List Int×Vector Int 8 => ∃ k,s.1.length=64 * k) (E:=fun _=>True) (fun s=>s.1.length) ?_ r.length (r,o) (Nat.le_refl _) ⟨k,h⟩
 rintro⟨v,o⟩ ⟨k,hk⟩
 show Al (Kd v o) _
 simp only at hk
 unfold Kd
 by_cases hv:(v.length:Int) > 0
 ·rw [if_pos hv,if_pos ⟨by decide,by omega⟩]
  refine B9.bind (Afs _ _ (by rw [List.length_take,show Int.toNat 64=64 from rfl]; omega)) fun _=>?_
  rw [if_pos ⟨by decide,by omega⟩]
  refine Al.ok ⟨⟨k - 1,?_⟩,?_⟩
  ·simp only [List.length_drop,show Int.toNat 64=64 from rfl]; omega
  ·simp only [List.length_drop,show Int.toNat 64=64 from rfl]; omega
 ·rw [if_neg hv]; exact Al.ok trivial
theorem Aoz:Qg=Kd:=rfl
theorem Agd (o:Vector Int 8):B9 (Lw o):=by
 unfold Lw
 refine B9.bind (B9.eachS _ _ _ fun j a o4 hj=>?_) fun _=>B9.ok _
 have hj':j<8:=by have:=Au hj; simpa using this
 unfold Qe
 simp only [Nat.zero_add]
 rw [G3 (n:=4 * (j:Int)) (by omega) (by omega),G3 (n:=4 * (j:Int)+4) (by omega) (by omega),if_pos ⟨rfl,by omega,by omega⟩]
 exact(Arh _ _ _ _).bind fun _=>B9.ok _
theorem Aqr:P7=Lw:=rfl
theorem Amp (b:List Int):B9 (Dk b):=by
 unfold Dk
 refine Al.bind (P:=fun s:List Int×Vector Int 8=>s.1.length<64) (Al.loop (I:=fun s:List Int×Vector Int 8=>True) (fun s=>s.1.length) ?_ b.length (b,Acu) (Nat.le_refl _) trivial) ?_
 ·rintro⟨r,o⟩ _
  show Al (Nv r o) _
  unfold Nv
  by_cases hr:(r.length:Int)≥64
  ·rw [if_pos hr,if_pos ⟨by decide,by omega⟩]
   refine B9.bind (Afs _ _ (by rw [List.length_take,show Int.toNat 64=64 from rfl]; omega)) fun _=>?_
   rw [if_pos ⟨by decide,by omega⟩]
   refine Al.ok ⟨trivial,?_⟩
   simp only [List.length_drop,show Int.toNat 64=64 from rfl]; omega
  ·rw [if_neg hr]; exact Al.ok (by simp only; omega)
 ·rintro⟨r,o⟩ hr
  show Al (Nt b r o) _
  simp only at hr
  unfold Nt
  rw [if_pos (by omega),if_pos ⟨by omega,by omega⟩]
  refine Al.ite (fun h=>?_) (fun h=>?_)
  ·exact(Al9 _ _ _ _).bind fun r1=>(Afm _ _ 2 (by simp)).bind fun _=>Agd _
  ·rw [Aoz,Aqr]
   exact(Al9 _ _ _ _).bind fun r1=>(Afm _ _ 1 (by simp)).bind fun _=>Agd _
theorem Abp (a b:List Int)(h:a.length+b.length≤1048576):F5 [a,b]=.ok (a++b):=by
 unfold F5
 have e1:eachS (fun _ a=>fun size=>G1 a size) 0 [a,b] 0=.ok ((a.length:Int)+(b.length:Int)):=by
  simp only [K7,N4,G1]
  rw [G3 (n:=0+(a.length:Int)) (by omega) (by omega),if_neg (by omega)]
  simp only [R.bind]
  rw [G3 (by omega) (by omega),if_neg (by omega)]
  simp
 rw [e1]
 simp only [R.bind]
 have e2:Ha ((a.length:Int)+(b.length:Int))=.ok []:=by
  unfold Ha
  rw [if_neg (by omega),G3 (by omega) (by omega)]
  by_cases h0:(a.length:Int)+(b.length:Int) - 0 > 0
  ·rw [if_pos h0,if_pos ⟨by omega,by unfold Bt; omega⟩,if_pos ⟨by decide,by omega⟩]; rfl
  ·rw [if_neg h0]
 rw [e2]
 simp only [R.bind,K7,N4,G2]
 rw [if_pos (by simp only [List.length_nil,Bt]; omega)]
 simp only [R.bind,List.nil_append]
 rw [if_pos (by unfold Bt; omega)]
theorem Zt (tag:S2)(b:List Int)(ht:tag.length≤16)(hb:b.length≤1048000):B9 (Ir tag b):=by
 rw [Xd]
 rw [if_pos (by unfold Bt; omega)]
 refine(Amp _).bind fun r=>?_
 rw [Abp _ _ (by rw [Vector.length_toList]; omega)]
 exact(Amp _).bind fun _=>B9.ok _
noncomputable def Zp (d:Vector Int 32):Vector Int 32:=(Oq d).val
noncomputable def Afa (a b:Vector Int 32):Vector Int 32:=(Mf a b).val
theorem Amm (d:Vector Int 32):Oq d=.ok (Zp d):=by
 refine B9.eq ?_
 unfold Oq
 exact(Zt _ _ (by decide) (by rw [Vector.length_toList]; decide)).bind fun _=>B9.ok _
theorem Amr (a b:Vector Int 32):Mf a b=.ok (Afa a b):=by
 refine B9.eq ?_
 unfold Mf
 rw [Abp _ _ (by rw [Vector.length_toList,Vector.length_toList]; decide)]
 exact(Zt _ _ (by decide) (by simp)).bind fun _=>B9.ok _
theorem Adp (u:Int)(l:List Int)(hu:0≤u∧u<18446744073709551616)(hl:l.length≤1000):Al (Gz u l) fun r=>l.length<r.length∧r.length≤l.length+11:=by
 unfold Gz
 refine Al.bind (P:=fun s:Int×List Int=>l.length≤s.2.length∧s.2.length≤l.length+10) (Al.loop (I:=fun s:Int×List Int => ∃ k:Nat,k≤10∧s.2.length=l.length+k∧0≤s.1∧s.1 * 128 ^ k<1180591620717411303424) (fun s=>s.1.toNat) ?_ u.toNat (u,l) (Nat.le_refl _) ⟨0,by omega,rfl,hu.1,by simp only [Int.pow_zero]; omega⟩) ?_
 ·rintro⟨u1,b⟩ ⟨k,h1,h2,h3,h4⟩
  show Al (I7 u1 b) _
  simp only at h2 h3 h4
  unfold I7
  by_cases hu1:u1≥128
  ·have hk:k<10:=by
    rcases Nat.lt_or_ge k 10 with h | h
    ·exact h
    ·obtain rfl:k=10:=by omega
     rw [show(128:Int) ^ 10=1180591620717411303424 from rfl] at h4
     omega
   rw [if_pos hu1,if_pos (by simp only [List.length_singleton,Bt]; omega)]
   refine Al.ok ⟨⟨k+1,by omega,by simp only [List.length_append,List.length_singleton]; omega,by simp only; exact Int.fdiv_nonneg h3 (by decide),?_⟩,?_⟩
   ·simp only
    rw [Int.fdiv_eq_ediv_of_nonneg _ (by decide),Int.pow_succ]
    have h5:u1 / 128 * 128≤u1:=Int.ediv_mul_le _ (by decide)
    have h6:(0:Int)≤128 ^ k:=Int.pow_nonneg (by decide)
    calc u1 / 128 * (128 ^ k * 128)=(u1 / 128 * 128) * 128 ^ k:=by rw [Int.mul_comm (128 ^ k) 128,← Int.mul_assoc]
     _≤u1 * 128 ^ k:=Int.mul_le_mul_of_nonneg_right h5 h6
     _<_:=h4
   ·simp only
    rw [Int.fdiv_eq_ediv_of_nonneg _ (by decide)]
    omega
  ·rw [if_neg hu1]; exact Al.ok ⟨by simp only; omega,by simp only; omega⟩
 ·rintro⟨u2,b⟩ ⟨h1,h2⟩
  show Al (Ji u2 b) _
  simp only at h1 h2
  unfold Ji
  rw [if_pos (by simp only [List.length_singleton,Bt]; omega)]
  exact Al.ok ⟨by simp only [List.length_append,List.length_singleton]; omega,by simp only [List.length_append,List.length_singleton]; omega⟩
theorem Al2 (n:Int):IntKind.wrap .u64 n<18446744073709551616:=by simp [IntKind.wrap,IntKind.bits,IntKind.signed]; omega
theorem Auy (v:Value)(l:List Int)(hl:l.length≤900):Al (Fd v l) fun r=>l.length<r.length∧r.length≤l.length+12:=by
 unfold Fd
 rw [if_pos (by simp only [List.length_singleton,Bt]; omega)]
 unfold Rs
 simp only [R.bind]
 refine(Adp _ _ ⟨Ac5 _,Al2 _⟩ (by simp only [List.length_append,List.length_singleton]; omega)).bind fun r hr=>Al.ok ?_
 simp only [List.length_append,List.length_singleton] at hr
 omega
abbrev Z8 (n:Int):Value:={ Kind:=1,N:=n,S:=[],L:=[] }
theorem Anm (n:Nat)(a:Int):Hv (n+1) (Z8 a)=.ok (0,true):=by
 rw [Hv]
 rfl
theorem Alm (l:List Int)(hl:l.length≤8) : ∃ b,(b≤1)∧Tp ({ Kind:=3,N:=0,S:=[],L:=l.map Z8 }:Value)=.ok (b,true):=by
 unfold Tp
 rw [Ac0,show(4000000:Nat)=3999998+1+1 from rfl,Hv]
 unfold Ru
 have e : ∀ (l:List Int) (k:Nat),each (fun _ a=>fun depth=>Jr (Hv (3999998+1)) a depth) k (l.map Z8) 0=.ok (.inl 0):=by
  intro l
  induction l with
  | nil=>intro k; rfl
  | cons a l ih=>
   intro k
   rw [List.map_cons,Re]
   have:Jr (Hv (3999998+1)) (Z8 a) 0=.ok (.inl 0):=by
    unfold Jr
    rw [Anm]
    rfl
   rw [this]
   exact ih (k+1)
 refine⟨1,by decide,?_⟩
 have h1:((decide ((3:Int)<1))||(decide ((3:Int) > 3)))=false:=by decide
 simp only [h1,Bool.false_eq_true,if_false]
 rw [if_pos (by decide)]
 simp only [R.bind,e]
 rfl
theorem Ank (l:List Int)(hl:l.length≤8):Al (O1 ({ Kind:=3,N:=0,S:=[],L:=l.map Z8 }:Value)) fun r=>r.2=0∧r.1.length≠0∧r.1.length≤200:=by
 obtain⟨b,hb,e⟩:=Alm l hl
 have e1:R9 ({ Kind:=3,N:=0,S:=[],L:=l.map Z8 }:Value)=.ok 0:=by
  unfold R9
  rw [e]
  simp only [R.bind]
  rw [if_pos trivial,if_neg (by omega)]
 unfold O1
 rw [e1]
 simp only [R.bind]
 rw [if_neg (by decide)]
 unfold L4
 simp only [R.bind]
 rw [if_neg (by decide),if_neg (by decide),if_neg (by decide),if_pos trivial]
 refine Al.bind (P:=fun r:List Int=>r.length≠0∧r.length≤200) ?_ fun r hr=>Al.ok ⟨rfl,hr⟩
 unfold Lk
 rw [if_pos (by decide)]
 refine(Adp _ _ ⟨Ac5 _,Al2 _⟩ (by decide)).bind fun r hr=>?_
 refine Al.bind (P:=fun r:List Int=>r.length≠0∧r.length≤200) ?_ fun r hr=>Al.ok hr
 have:=Al.eachS (b:=fun _ a=>fun b1=>G0 a b1) (I:=fun n (r:List Int)=>r.length≠0∧r.length≤12+12 * n) (l.map Z8) 0 r ⟨by have:=hr.1; omega,by have:=hr.2; simp only [List.length_singleton] at this; omega⟩ (fun j a s hj hI=>by
  rw [List.getElem?_map] at hj
  obtain⟨x,hx,rfl⟩:=Option.map_eq_some_iff.1 hj
  have hjl:j<l.length:=Au hx
  unfold G0
  rw [if_neg (by show ¬ (1:Int)=0; decide),if_pos rfl]
  refine(Auy _ _ (by omega)).bind fun r hr=>Al.ok ⟨by omega,by omega⟩)
 refine this.mono fun s hs=>⟨hs.1,?_⟩
 have:=hs.2
 rw [List.length_map] at this
 omega
theorem Aqc (salt:Vector Int 32)(l:List Int)(hl:l.length≤8):B9 (H7 salt l):=by
 unfold H7
 have e:eachS (fun _ a=>fun l1=>Hd a l1) 0 l []=.ok (l.map Z8):=by
  have:=Al.eachS (b:=fun _ a=>fun l1=>Hd a l1) (I:=fun n (r:List Value)=>r=(l.take n).map Z8) l 0 [] rfl (fun j a s hj hI=>by
   simp only [Nat.zero_add] at hI ⊢
   subst hI
   have hjl:j<l.length:=Au hj
   unfold Hd
   rw [if_pos (by simp only [List.length_singleton,List.length_map,List.length_take,Bt]; omega)]
   refine Al.ok ?_
   rw [List.take_add_one,hj]
   simp)
  refine Al.eq (this.mono fun s hs=>?_)
  rw [hs,Nat.zero_add,List.take_length]
 rw [e]
 simp only [R.bind]
 refine(Ank l hl).bind fun r hr=>?_
 rw [if_pos ⟨hr.2.1,by unfold Bt; omega⟩]
 exact(Zt _ _ (by decide) (by rw [List.length_append,Vector.length_toList]; omega)).bind fun _=>B9.ok _
noncomputable def R4 (salt:Vector Int 32)(l:List Int):Vector Int 32:=(H7 salt l).val
theorem Aj0 (salt:Vector Int 32)(l:List Int)(hl:l.length≤8):H7 salt l=.ok (R4 salt l):=(Aqc salt l hl).eq
end Go.Am
namespace Go.Am
open Go
set_option linter.unusedVariables false
set_option linter.unusedSimpArgs false
def Dx (n:Int):Int:=if n≤2 then 1 else if n≤4 then 2 else 4
theorem Aws:Gp 2=.ok 1:=by kernel_rfl
theorem Awj:Gp 3=.ok 2:=by kernel_rfl
theorem Av9:Gp 4=.ok 2:=by kernel_rfl
theorem Av8:Gp 5=.ok 4:=by kernel_rfl
theorem Awi:Gp 6=.ok 4:=by kernel_rfl
theorem Awl:Gp 7=.ok 4:=by kernel_rfl
theorem Awa:Gp 8=.ok 4:=by kernel_rfl
theorem Ahc (n:Int)(h1:2≤n)(h2:n≤8):Gp n=.ok (Dx n):=by
 have:n=2∨n=3∨n=4∨n=5∨n=6∨n=7∨n=8:=by omega
 rcases this with rfl | rfl | rfl | rfl | rfl | rfl | rfl
 ·exact Aws
 ·exact Awj
 ·exact Av9
 ·exact Av8
 ·exact Awi
 ·exact Awl
 ·exact Awa
theorem Abv (n:Int)(h1:2≤n)(h2:n≤8):1≤Dx n∧Dx n<n:=by
 unfold Dx
 split
 ·omega
 ·split <;> omega
def Cq:Nat→Int→Int→List Bool
 | 0,_,_=>[]
 | f+1,a,n=>if n > 1 then decide (a<Dx n)::(if a<Dx n then Cq f a (Dx n) else Cq f (a - Dx n) (n - Dx n)) else []
theorem Aa8 : ∀ (f:Nat) (a n:Int),(Cq f a n).length≤f
 | 0,_,_=>Nat.le_refl _
 | f+1,a,n=>by
  unfold Cq
  split
  ·simp only [List.length_cons]
   split
   ·have:=Aa8 f a (Dx n); omega
   ·have:=Aa8 f (a - Dx n) (n - Dx n); omega
  ·simp
theorem Aj8 (a n:Int)(l:List Bool)(h:¬ n > 1):F0 a n l=.ok (.inr l):=by unfold F0; rw [if_neg h]
theorem Ak6 (a n:Int)(l:List Bool)(h0:0≤a)(ha:a<n)(h:n > 1)(h3:n≤8)(hl:l.length≤100):F0 a n l=.ok (.inl (if a<Dx n then(a,Dx n,l++[decide (a<Dx n)]) else(a - Dx n,n - Dx n,l++[decide (a<Dx n)]))):=by
 have hr:=Abv n (by omega) h3
 unfold F0
 rw [if_pos h,Ahc n (by omega) h3]
 simp only [R.bind]
 rw [if_pos (by simp only [List.length_singleton,Bt]; omega)]
 by_cases q:a<Dx n
 ·rw [if_pos q,if_pos q]
 ·rw [if_neg q,if_neg q,G3 (by omega) (by omega),G3 (by omega) (by omega)]
theorem Zs : ∀ (f:Nat) (a n:Int) (l:List Bool),0≤a→a<n→n≤8→n≤(f:Int)+1→l.length+f≤100 →
  loop (Nj fun vat1 n1 first=>F0 vat1 n1 first) (a,n,l)=.ok (l++Cq f a n)
 | f,a,n,l,h1,h2,h3,h4,h5=>by
  rw [Agw]
  show((F0 a n l).bind _)=_
  by_cases hn:n > 1
  case neg=>
   rw [Aj8 a n l hn]
   cases f with
   | zero=>simp [R.bind,Cq]
   | succ f=>unfold Cq; rw [if_neg hn]; simp [R.bind]
  cases f with
  | zero=>omega
  | succ f=>
   have hr:=Abv n (by omega) h3
   rw [Ak6 a n l h1 h2 hn h3 (by omega)]
   simp only [R.bind]
   by_cases ha:a<Dx n
   ·rw [if_pos ha]
    rw [Zs f a (Dx n) _ h1 ha (by omega) (by omega) (by simp only [List.length_append,List.length_singleton]; omega)]
    rw [show Cq (f+1) a n=decide (a<Dx n)::Cq f a (Dx n) by rw [Cq,if_pos hn,if_pos ha]]
    simp
   ·rw [if_neg ha]
    rw [Zs f (a - Dx n) (n - Dx n) _ (by omega) (by omega) (by omega) (by omega) (by simp only [List.length_append,List.length_singleton]; omega)]
    rw [show Cq (f+1) a n=decide (a<Dx n)::Cq f (a - Dx n) (n - Dx n) by rw [Cq,if_pos hn,if_neg ha]]
    simp
noncomputable def up1 (x:Vector Int 32)(q:Vector Int 32×Bool):Vector Int 32:=if q.2 then Afa x q.1 else Afa q.1 x
noncomputable def Lh (d:Vector Int 32)(ts:List Bool)(p:List (Vector Int 32)):Vector Int 32:=(p.zip ts.reverse).foldl up1 (Zp d)
theorem Ak7 (j:Nat)(a x:Vector Int 32)(ts:List Bool)(ht:ts.length≤100)(hj:j<ts.length):H8 j a x ts=.ok (up1 x (a,ts[ts.length - 1 - j]'(by omega)),ts):=by
 unfold H8
 rw [G3 (n:=(ts.length:Int) - 1) (by omega) (by omega),G3 (by omega) (by omega),show(ts.length:Int) - 1 - (j:Int)=((ts.length - 1 - j:Nat):Int) by omega,Gk (List.getElem?_eq_getElem (show ts.length - 1 - j<ts.length by omega))]
 simp only [R.bind,up1,Amr]
 split <;> rfl
theorem Ai7 (ts:List Bool)(ht:ts.length≤100) : ∀ (p:List (Vector Int 32)) (k:Nat) (x:Vector Int 32),k+p.length=ts.length →
  eachS (fun j a=>C7 fun o first2=>H8 j a o first2) k p (x,ts)=.ok ((p.zip (ts.reverse.drop k)).foldl up1 x,ts)
 | [],k,x,h=>by simp [N4]
 | a::p,k,x,h=>by
  have hk:k<ts.length:=by simp only [List.length_cons] at h; omega
  rw [K7]
  show((H8 k a x ts).bind _)=_
  have hd:ts.reverse.drop k=(ts[ts.length - 1 - k]'(by omega))::ts.reverse.drop (k+1):=by
   rw [List.drop_eq_getElem_cons (by rw [List.length_reverse]; exact hk)]
   congr 1
   rw [List.getElem_reverse]
  rw [hd,List.zip_cons_cons,List.foldl_cons,Ak7 k a x ts ht hk]
  exact Ai7 ts ht p (k+1) _ (by simp only [List.length_cons] at h; omega)
theorem Ajk (d:Vector Int 32)(a n:Int)(p:List (Vector Int 32))(h1:1≤n)(h2:n≤8) :
  O2 d a n p=.ok (if 0≤a∧a<n∧p.length=(Cq 8 a n).length then(Lh d (Cq 8 a n) p,0) else(zD,1)):=by
 unfold O2
 by_cases ha:0≤a∧a<n
 case neg=>
  rw [if_pos (by simp only [Bool.or_eq_true,decide_eq_true_eq]; omega),if_neg (by omega)]
  rfl
 rw [if_neg (by simp only [Bool.or_eq_true,decide_eq_true_eq]; omega)]
 rw [Zs 8 a n [] ha.1 ha.2 h2 (by omega) (by decide),List.nil_append]
 simp only [R.bind]
 unfold Ol
 have hl:=Aa8 8 a n
 by_cases hp:p.length=(Cq 8 a n).length
 ·rw [if_neg (by simp [hp]),if_pos ⟨ha.1,ha.2,hp⟩,Amm]
  simp only [R.bind]
  rw [Ai7 _ (by omega) p 0 _ (by omega)]
  simp only [R.bind,C7,List.drop_zero]
  rfl
 ·rw [if_pos (by simp; omega),if_neg (fun h=>hp h.2.2)]
  rfl
def Aft (a f:Int):Prop:=0≤a∧a<8∧0≤f∧f≤4095
def Wm (d:Vector Int 32)(airline tables slots:Int)(o:Opening):Prop:=
 1≤tables∧tables≤8∧1≤slots∧slots≤8∧o.Airline=airline∧Aft o.Airline o.Flight∧0≤o.Slot∧o.Slot<slots∧(-1≤o.Cost∧o.Cost≤1048576) ∧
 ∃ n:Nat,n≤o.Path.length∧(o.Path.take n).length=(Cq 8 o.Slot slots).length ∧ ∃ at_:Int,0≤at_∧at_<tables∧(o.Path.drop n).length=(Cq 8 at_ tables).length ∧
  Lh (Lh (R4 o.Salt [o.Airline,o.Flight,o.Slot,o.Cost]) (Cq 8 o.Slot slots) (o.Path.take n)) (Cq 8 at_ tables) (o.Path.drop n)=d
theorem Aoc (d:Vector Int 32)(airline tables slots:Int)(o:Opening)(hp:o.Path.length≤1000) :
  Al (L0 d airline tables slots o) fun e=>(e=0∧Wm d airline tables slots o)∨(e=360∧¬ Wm d airline tables slots o):=by
 unfold L0
 rw [Ua,Vn]
 by_cases q1:tables<1∨tables > 8∨slots<1∨slots > 8∨o.Airline≠airline
 ·rw [if_pos (by simp only [Bool.or_eq_true,decide_eq_true_eq,bne_iff_ne]; omega)]
  simp only [R.bind,Bool.true_or,if_true]
  refine Al.ok (.inr ⟨rfl,fun h=>?_⟩)
  obtain⟨h1,h2,h3,h4,h5,_⟩:=h
  omega
 rw [if_neg (by simp only [Bool.or_eq_true,decide_eq_true_eq,bne_iff_ne]; omega)]
 simp only [R.bind]
 by_cases q2:Aft o.Airline o.Flight∧0≤o.Slot∧o.Slot<slots
 case neg=>
  rw [if_pos (by
   simp only [Bool.or_eq_true,Bool.not_eq_true',decide_eq_true_eq,decide_eq_false_iff_not]
   unfold Aft at q2
   omega)]
  simp only [if_true]
  refine Al.ok (.inr ⟨rfl,fun h=>q2 ?_⟩)
  obtain⟨h1,h2,h3,h4,h5,h6,h7,h8,_⟩:=h
  exact⟨h6,h7,h8⟩
 obtain⟨q2,q3,q4⟩:=q2
 rw [if_neg (by
  simp only [Bool.or_eq_true,Bool.not_eq_true',decide_eq_true_eq,decide_eq_false_iff_not]
  have:=q2
  unfold Aft at this
  omega)]
 simp only [R.bind]
 by_cases q5 : -1≤o.Cost∧o.Cost≤1048576
 case neg=>
  rw [if_pos (by simp only [Bool.not_eq_true',decide_eq_false_iff_not]; exact q5)]
  refine Al.ok (.inr ⟨rfl,fun h=>q5 ?_⟩)
  obtain⟨h1,h2,h3,h4,h5,h6,h7,h8,h9,_⟩:=h
  exact h9
 rw [if_neg (by simp only [Bool.not_eq_true',decide_eq_false_iff_not,Decidable.not_not]; exact q5),Aj0 _ _ (by simp)]
 simp only [R.bind]
 have hV : ∀ n:Nat,n≤o.Path.length→(o.Path.take n).length=(Cq 8 o.Slot slots).length → ∀ at_:Int,0≤at_→at_<tables→(o.Path.drop n).length=(Cq 8 at_ tables).length →
   Lh (Lh (R4 o.Salt [o.Airline,o.Flight,o.Slot,o.Cost]) (Cq 8 o.Slot slots) (o.Path.take n)) (Cq 8 at_ tables) (o.Path.drop n)=d→Wm d airline tables slots o:=by
  intro n h1 h2 at_ h3 h4 h5 h6
  exact⟨by omega,by omega,by omega,by omega,by omega,q2,q3,q4,q5,n,h1,h2,at_,h3,h4,h5,h6⟩
 refine Al.bind (P:=fun x:Unit ⊕ Int=>(x=.inl ()∧¬ Wm d airline tables slots o)∨(x=.inr 0∧Wm d airline tables slots o))
  (Al.loop (I:=fun x:Int=>0≤x∧x≤(o.Path.length:Int)+1 ∧ ∀ n:Nat,(n:Int)<x→(o.Path.take n).length=(Cq 8 o.Slot slots).length → ∀ at_:Int,0≤at_→at_<tables→(o.Path.drop n).length=(Cq 8 at_ tables).length →
   Lh (Lh (R4 o.Salt [o.Airline,o.Flight,o.Slot,o.Cost]) (Cq 8 o.Slot slots) (o.Path.take n)) (Cq 8 at_ tables) (o.Path.drop n)≠d) (fun x=>((o.Path.length:Int)+1 - x).toNat) ?_ (o.Path.length+1) 0 (by omega) ⟨by omega,by omega,fun n h=>absurd h (by omega)⟩) ?_
 ·intro x ⟨x1,x2,x3⟩
  unfold Jx
  rw [G3 (n:=(o.Path.length:Int)+1) (by omega) (by omega)]
  by_cases hx:x<(o.Path.length:Int)+1
  case neg=>
   rw [if_neg hx]
   refine Al.ok (.inl ⟨rfl,fun h=>?_⟩)
   obtain⟨h1,h2,h3,h4,h5,h6,h7,h8,h9,n,k1,k2,at_,k3,k4,k5,k6⟩:=h
   exact x3 n (by omega) k2 at_ k3 k4 k5 k6
  rw [if_pos hx,if_pos ⟨x1,by omega⟩,if_pos ⟨x1,by omega⟩,Ajk _ _ _ _ (by omega) (by omega)]
  simp only [R.bind]
  have hnext : ∀ y:Int,y=x+1→(∀ at_:Int,0≤at_→at_<tables→(o.Path.take x.toNat).length=(Cq 8 o.Slot slots).length→(o.Path.drop x.toNat).length=(Cq 8 at_ tables).length →
    Lh (Lh (R4 o.Salt [o.Airline,o.Flight,o.Slot,o.Cost]) (Cq 8 o.Slot slots) (o.Path.take x.toNat)) (Cq 8 at_ tables) (o.Path.drop x.toNat)≠d) →
    (0≤y∧y≤(o.Path.length:Int)+1 ∧ ∀ n:Nat,(n:Int)<y→(o.Path.take n).length=(Cq 8 o.Slot slots).length → ∀ at_:Int,0≤at_→at_<tables→(o.Path.drop n).length=(Cq 8 at_ tables).length →
     Lh (Lh (R4 o.Salt [o.Airline,o.Flight,o.Slot,o.Cost]) (Cq 8 o.Slot slots) (o.Path.take n)) (Cq 8 at_ tables) (o.Path.drop n)≠d)∧((o.Path.length:Int)+1 - y).toNat<((o.Path.length:Int)+1 - x).toNat:=by
   rintro y rfl h
   refine⟨⟨by omega,by omega,fun n hn k2 at_ k3 k4 k5=>?_⟩,by omega⟩
   rcases Int.lt_or_le (n:Int) x with hlt | hge
   ·exact x3 n hlt k2 at_ k3 k4 k5
   ·obtain rfl:n=x.toNat:=by omega
    exact h at_ k3 k4 k2 k5
  by_cases hf:(o.Path.take x.toNat).length=(Cq 8 o.Slot slots).length
  case neg=>
   rw [if_neg (show ¬ (0≤o.Slot∧o.Slot<slots∧(o.Path.take x.toNat).length=(Cq 8 o.Slot slots).length) from fun h=>hf h.2.2)]
   rw [if_pos (by decide)]
   exact Al.ok (hnext _ (G3 (by omega) (by omega)) fun at_ _ _ h=>absurd h hf)
  rw [if_pos (show 0≤o.Slot∧o.Slot<slots∧(o.Path.take x.toNat).length=(Cq 8 o.Slot slots).length from⟨q3,q4,hf⟩)]
  rw [if_neg (by simp)]
  generalize hX:Lh (R4 o.Salt [o.Airline,o.Flight,o.Slot,o.Cost]) (Cq 8 o.Slot slots) (o.Path.take x.toNat)=X at *
  refine Al.bind (P:=fun y:Unit ⊕ Int=>(y=.inl () ∧ ∀ at_:Int,0≤at_→at_<tables→(o.Path.drop x.toNat).length=(Cq 8 at_ tables).length→Lh X (Cq 8 at_ tables) (o.Path.drop x.toNat)≠d)∨(y=.inr 0∧Wm d airline tables slots o))
   (Al.loop (I:=fun y:Int=>0≤y∧y≤tables ∧ ∀ at_:Int,0≤at_→at_<y→(o.Path.drop x.toNat).length=(Cq 8 at_ tables).length→Lh X (Cq 8 at_ tables) (o.Path.drop x.toNat)≠d) (fun y=>(tables - y).toNat) ?_ tables.toNat 0 (by omega) ⟨by omega,by omega,fun a h1 h2=>by omega⟩) ?_
  ·intro y ⟨y1,y2,y3⟩
   unfold J8
   by_cases hy:y<tables
   case neg=>
    rw [if_neg hy]
    exact Al.ok (.inl ⟨rfl,fun a h1 h2=>y3 a h1 (by omega)⟩)
   rw [if_pos hy,Ajk _ _ _ _ (by omega) (by omega)]
   simp only [R.bind]
   by_cases hl:(o.Path.drop x.toNat).length=(Cq 8 y tables).length
   case neg=>
    rw [if_neg (show ¬ (0≤y∧y<tables∧(o.Path.drop x.toNat).length=(Cq 8 y tables).length) from fun h=>hl h.2.2)]
    rw [if_neg (by simp),G3 (by omega) (by omega)]
    refine Al.ok ⟨⟨by omega,by omega,fun a h1 h2 h3=>?_⟩,by omega⟩
    rcases Int.lt_or_le a y with h | h
    ·exact y3 a h1 h h3
    ·obtain rfl:a=y:=by omega
     exact absurd h3 hl
   rw [if_pos (show 0≤y∧y<tables∧(o.Path.drop x.toNat).length=(Cq 8 y tables).length from⟨y1,hy,hl⟩)]
   by_cases he:Lh X (Cq 8 y tables) (o.Path.drop x.toNat)=d
   ·rw [if_pos (by simp [he])]
    exact Al.ok (.inr ⟨rfl,hV x.toNat (by omega) hf y y1 hy hl (by rw [hX]; exact he)⟩)
   ·rw [if_neg (by simp [he]),G3 (by omega) (by omega)]
    refine Al.ok ⟨⟨by omega,by omega,fun a h1 h2 h3=>?_⟩,by omega⟩
    rcases Int.lt_or_le a y with h | h
    ·exact y3 a h1 h h3
    ·obtain rfl:a=y:=by omega
     exact he
  ·rintro y (⟨rfl,h⟩ | ⟨rfl,h⟩)
   ·show Al (Hl x) _
    unfold Hl
    exact Al.ok (hnext _ (G3 (by omega) (by omega)) fun at_ h1 h2 h3 h4=>h at_ h1 h2 h4)
   ·exact Al.ok (.inr ⟨rfl,h⟩)
 ·rintro x (⟨rfl,h⟩ | ⟨rfl,h⟩)
  ·exact Al.ok (.inr ⟨rfl,h⟩)
  ·exact Al.ok (.inl ⟨rfl,h⟩)
end Go.Am
namespace Go.Am
open Go
set_option linter.unusedVariables false
set_option linter.unusedSimpArgs false
def V4 (c:Clearing)(o:Opening):Prop:=
 o.Flight ∈ c.Flights∧c.Owners[(E7 c.Flights o.Flight).toNat]? = some o.Airline ∧ ∃ d,c.Commitments[(E7 (D9 c.Owners) o.Airline).toNat]? = some d∧Wm d o.Airline (many c.Owners o.Airline) c.Slots o
theorem Adv (c:Clearing)(o:Opening)(hF:Formed c)(hp:o.Path.length≤1000):Al (Je c o) fun e=>(e=0∧V4 c o)∨((e=360∨e=400)∧¬ V4 c o):=by
 unfold Je
 rw [Ng]
 simp only [R.bind]
 have hfl:=hF.fl; have hsl:=hF.slots; have how:=hF.ow
 by_cases h1:o.Flight ∈ c.Flights
 case neg=>
  rw [if_pos (by have:=mt K4.1 h1; simpa using this)]
  exact Al.ok (.inr ⟨.inr rfl,fun h=>h1 h.1⟩)
 have hi:=K4.2 h1
 have hil:=Ahf (l:=c.Flights) (v:=o.Flight)
 rw [if_neg (by simpa using hi)]
 refine(Al.idx (P:=fun a=>c.Owners[(E7 c.Flights o.Flight).toNat]? = some a) hi (by omega) fun a h=>h).bind fun a ha=>?_
 unfold L3
 by_cases h2:a=o.Airline
 case neg=>
  rw [if_pos (by simpa using h2)]
  refine Al.ok (.inr ⟨.inr rfl,fun h=>h2 ?_⟩)
  have:=h.2.1
  rw [ha] at this
  exact Option.some.inj this
 subst h2
 rw [if_neg (by simp)]
 have hmem:o.Airline ∈ c.Owners:=List.mem_of_getElem? ha
 have hin:=hF.own _ hmem
 refine(V8 c.Owners (by omega)).bind fun r hr=>?_
 rw [hr.1,Ng]
 simp only [R.bind]
 have hk:=K4.2 (Um.2 ⟨hin,hmem⟩)
 have hkl:=Ahf (l:=D9 c.Owners) (v:=o.Airline)
 have hcm:=hF.com
 refine(Al.idx (P:=fun d=>c.Commitments[(E7 (D9 c.Owners) o.Airline).toNat]? = some d) hk (by omega) fun a h=>h).bind fun d hd=>?_
 rw [hr.2,if_pos hin]
 refine(Aoc d o.Airline _ c.Slots o hp).bind fun e he=>Al.ok ?_
 rcases he with⟨rfl,h⟩ | ⟨rfl,h⟩
 ·exact .inl ⟨rfl,h1,ha,d,hd,h⟩
 ·refine .inr ⟨.inl rfl,fun hA=>h ?_⟩
  obtain⟨_,_,d',hd',hV⟩:=hA
  rw [hd] at hd'
  rw [Option.some.inj hd']
  exact hV
def Il (a b:Opening):Prop:=a.Flight<b.Flight∨(a.Flight=b.Flight∧a.Slot<b.Slot)
theorem Il.trans {a b c:Opening}(h1:Il a b)(h2:Il b c):Il a c:=by unfold Il at *; omega
def R5 (c:Clearing):Prop:=c.Openings.Pairwise Il ∧ ∀ o ∈ c.Openings,V4 c o
theorem Ae4 (c:Clearing)(hF:Formed c)(hp : ∀ o ∈ c.Openings,o.Path.length≤1000)(hl:c.Openings.length≤1000):Al (Nu c) fun r=>(r=true↔R5 c):=by
 unfold Nu
 have hE:=Al.each (b:=fun j a=>fun _=>Ks c j a) (I:=fun n (_:Unit)=>(c.Openings.take n).Pairwise Il ∧ ∀ o ∈ c.Openings.take n,V4 c o) (E:=fun r:Bool=>r=false∧¬ R5 c) c.Openings 0 () ⟨by simp,by simp⟩ (fun j a _ hj hI=>by
  simp only [Nat.zero_add] at hI ⊢
  obtain⟨p1,p2⟩:=hI
  have hjl:j<c.Openings.length:=Au hj
  have ht1:c.Openings.take (j+1)=c.Openings.take j++[a]:=by rw [List.take_add_one,hj]; rfl
  have hja:c.Openings[j]=a:=by rw [List.getElem?_eq_getElem hjl] at hj; exact Option.some.inj hj
  have step:(∀ x ∈ c.Openings.take j,Il x a)→Al ((Je c a).bind fun r1=>I5 (r1 != 0)) (U5 (fun n (_:Unit)=>(c.Openings.take n).Pairwise Il ∧ ∀ o ∈ c.Openings.take n,V4 c o) (fun r:Bool=>r=false∧¬ R5 c) (j+1)):=fun hlt=>by
   refine(Adv c a hF (hp a (List.mem_of_getElem? hj))).bind fun e he=>?_
   unfold I5
   rcases he with⟨rfl,hA⟩ | ⟨he,hA⟩
   ·rw [if_neg (by decide)]
    refine Al.ok ⟨?_,fun o ho=>?_⟩
    ·rw [ht1,List.pairwise_append]
     refine⟨p1,by simp,fun x hx y hy=>?_⟩
     obtain rfl:=List.mem_singleton.1 hy
     exact hlt x hx
    ·rw [ht1,List.mem_append,List.mem_singleton] at ho
     rcases ho with ho | rfl
     ·exact p2 o ho
     ·exact hA
   ·rw [if_pos (by rcases he with rfl | rfl <;> decide)]
    exact Al.ok ⟨rfl,fun h=>hA (h.2 a (List.mem_of_getElem? hj))⟩
  unfold Ks
  by_cases hj0:(j:Int) > 0
  case neg=>
   rw [if_neg (by simpa using hj0)]
   refine step fun x hx=>?_
   obtain rfl:j=0:=by omega
   simp at hx
  rw [if_pos (by simpa using hj0),G3 (by omega) (by omega)]
  have hpl:j - 1<c.Openings.length:=by omega
  rw [show(j:Int) - 1=((j - 1:Nat):Int) by omega,Gk (List.getElem?_eq_getElem hpl),R.ok_bind,Tt,R.ok_bind]
  by_cases ho:Abz c.Openings[j - 1] a≥0
  ·rw [if_pos (by simpa using ho)]
   refine Al.ok ⟨rfl,fun h=>?_⟩
   have:=List.pairwise_iff_getElem.1 h.1 (j - 1) j hpl hjl (by omega)
   rw [hja] at this
   have:=Aan.2 this
   omega
  ·rw [if_neg (by simpa using ho)]
   refine step fun x hx=>?_
   have hlast:Il c.Openings[j - 1] a:=Aan.1 (by omega)
   obtain⟨i,hi,rfl⟩:=List.getElem_of_mem hx
   rw [List.length_take] at hi
   rw [List.getElem_take]
   rcases Nat.lt_or_ge i (j - 1) with h | h
   ·have:=List.pairwise_iff_getElem.1 p1 i (j - 1) (by rw [List.length_take]; omega) (by rw [List.length_take]; omega) h
    rw [List.getElem_take,List.getElem_take] at this
    exact this.trans hlast
   ·obtain rfl:i=j - 1:=by omega
    exact hlast)
 refine hE.bind fun x hx=>Al.alt hx (fun u hu=>?_) (fun r hr=>?_)
 ·simp only [U5,Nat.zero_add,List.take_length] at hu
  exact Al.ok ⟨fun _=>hu,fun _=>rfl⟩
 ·exact Al.ok ⟨fun e=>by rw [hr.1] at e; exact absurd e (by decide),fun h=>absurd h hr.2⟩
theorem App {σ:Type}(b:List Opening)(S n:Nat)(hS:1≤S)(hS8:S≤8)(hl:b.length=n * S)(hb:b.length≤100000)(b_:List Opening→σ→R σ)(P:Nat→σ→Prop)(s:σ)(h0:P 0 s)
  (hk : ∀ k s,k<n→P k s→Al (b_ ((b.drop (k * S)).take S) s) (P (k+1))):Al (F7 b (S:Int) b_ s) (P n):=by
 unfold F7
 refine Al.bind (P:=P n) (Al.loop (I:=fun s:Int×σ => ∃ k:Nat,k≤n∧s.1=((k * S:Nat):Int)∧P k s.2) (fun s=>((b.length:Int) - s.1).toNat) ?_ b.length (0,s) (by simp) ⟨0,by omega,by simp,h0⟩) fun s hs=>Al.ok hs
 rintro⟨i,s⟩ ⟨k,k1,k2,k3⟩
 show Al (E8 b S b_ i s) _
 simp only at k2 k3
 subst k2
 unfold E8
 by_cases hi:((k * S:Nat):Int)<(b.length:Int)
 case neg=>
  rw [if_neg hi]
  have hle:k * S≥n * S:=by omega
  have:k=n:=by
   have:=Nat.le_of_mul_le_mul_right hle (by omega)
   omega
  subst this
  exact Al.ok k3
 have hkn:k<n:=by
  have:k * S<n * S:=by omega
  exact Nat.lt_of_mul_lt_mul_right this
 have hle:(k+1) * S≤n * S:=Nat.mul_le_mul_right S hkn
 have hadd:(k+1) * S=k * S+S:=by rw [Nat.add_mul,Nat.one_mul]
 rw [if_pos hi,if_pos ⟨by omega,by omega⟩,Int.toNat_natCast]
 have hd:((b.drop (k * S)).length:Int)=(b.length:Int) - ((k * S:Nat):Int):=by rw [List.length_drop]; omega
 rw [if_neg (show ¬ ((b.drop (k * S)).length:Int)<(S:Int) by omega),G3 (by omega) (by omega),if_pos ⟨by omega,by omega,by omega⟩]
 have hc:cut b ((k * S:Nat):Int) (((k * S:Nat):Int)+(S:Int))=(b.drop (k * S)).take S:=by
  unfold cut
  rw [Int.toNat_natCast]
  congr 1
  omega
 rw [hc]
 refine(hk k s hkn k3).bind fun s1 h1=>Al.ok ⟨⟨k+1,by omega,by simp only; omega,h1⟩,?_⟩
 simp only; omega
def Ae2 (c:Clearing):List (List Int):=(List.range c.Flights.length).map fun k=>((c.Openings.drop (k * c.Slots.toNat)).take c.Slots.toNat).map (·.Cost)
def Aak (c:Clearing):Prop:=c.Openings.length=c.Flights.length * c.Slots.toNat
theorem Adm (c:Clearing)(hs:1≤c.Slots∧c.Slots≤8)(hf:c.Flights.length≤8):Lu c=.ok (if c.Openings.length=c.Flights.length * c.Slots.toNat then(({ Slots:=c.Slots,Owners:=c.Owners,Costs:=Ae2 c }:Round),true) else(({ Slots:=0,Owners:=[],Costs:=[] }:Round),false)):=by
 unfold Lu
 obtain⟨S,hS⟩ : ∃ S:Nat,c.Slots=(S:Int):=⟨c.Slots.toNat,by omega⟩
 have hmul:(c.Flights.length:Int) * c.Slots=((c.Flights.length * S:Nat):Int):=by rw [hS]; simp
 have hb:c.Flights.length * S≤8 * 8:=Nat.mul_le_mul hf (by omega)
 rw [hmul,G3 (by omega) (by omega),hS,Int.toNat_natCast]
 by_cases h:c.Openings.length=c.Flights.length * S
 case neg=>
  rw [if_pos (by simp only [bne_iff_ne]; omega),if_neg h]
 rw [if_neg (by simp only [bne_iff_ne]; omega),if_pos h]
 unfold Im
 rw [if_neg (by omega),R.ok_bind]
 have:=App c.Openings S c.Flights.length (by omega) (by omega) h (by omega) (fun a z_=>R.np ((fun l=>Jc a l) z_)) (fun k l=>l=(List.range k).map fun k=>((c.Openings.drop (k * S)).take S).map (·.Cost)) [] rfl (fun k l hk hl=>by
  subst hl
  refine Al.np ?_
  show Al (Jc _ _) _
  unfold Jc
  have e1:eachS (fun _ a1=>fun costs=>I8 a1 costs) 0 ((c.Openings.drop (k * S)).take S) []=.ok (((c.Openings.drop (k * S)).take S).map (·.Cost)):=by
   have:=Ah5 (b:=fun _ (a1:Opening)=>fun costs=>I8 a1 costs) (g:=fun o:Opening=>o.Cost) (c:=8) (fun j a s=>rfl) ((c.Openings.drop (k * S)).take S) 0 []
   rw [this]
   ·simp
   ·simp only [List.length_nil,List.length_take,List.length_drop,Bt]; omega
  rw [e1,R.ok_bind,if_pos (by simp only [List.length_map,List.length_range,List.length_singleton,Bt]; omega)]
  refine Al.ok ?_
  rw [List.range_succ,List.map_append]
  rfl)
 obtain⟨l,e,hl⟩:=this
 rw [e,R.ok_bind,hl]
 congr 2
 unfold Ae2
 rw [hS,Int.toNat_natCast]
end Go.Am
namespace Go.Am
open Go
set_option linter.unusedVariables false
set_option linter.unusedSimpArgs false
set_option linter.unusedSectionVars false
theorem B9.each {α ε:Type}{b:Nat→α→Unit→R (Unit ⊕ ε)}(l:List α)(k:Nat)(hb : ∀ (j:Nat) a,l[j]? = some a→B9 (b (k+j) a ())):B9 (each b k l ()):=
 (Al.each (I:=fun _ _=>True) (E:=fun _=>True) l k () trivial fun j a _ hj _=>(hb j a hj).mono fun x _=>by cases x <;> exact trivial).tot
theorem B9.alt {α β σ:Type}{f:α→R σ}{g:β→R σ}(x:α ⊕ β)(h1 : ∀ a,B9 (f a))(h2 : ∀ b,B9 (g b)):B9 (alt f g x):=by
 cases x with
 | inl a=>exact h1 a
 | inr b=>exact h2 b
structure CChk (r:Round):Prop where
 slots:1≤r.Slots∧r.Slots≤8
 own:(r.Owners.length:Int)≤r.Slots
 costs:r.Costs.length=r.Owners.length
 inA : ∀ a ∈ r.Owners,inA a
 row : ∀ l ∈ r.Costs,(l.length:Int)=r.Slots
theorem Auh (s:List Int):B9 (E9 s):=by
 unfold E9 H2
 refine B9.bind (B9.bind (B9.each _ _ fun j a _=>?_) fun x=>B9.alt _ (fun _=>B9.ok _) fun _=>B9.ok _) fun _=>B9.ok _
 unfold Gj Lj Jd
 simp only [R.ok_bind]
 exact Al.ite (fun _=>B9.ok _) fun _=>B9.ok _
theorem Aks (r:Round):Al (Lr r) fun e=>(e=0∧CChk r)∨e=370:=by
 unfold Lr
 refine Al.ite (fun _=>Al.ok (.inr rfl)) fun h=>?_
 simp only [Bool.or_eq_true,decide_eq_true_eq,bne_iff_ne,ne_eq,not_or,Decidable.not_not] at h
 obtain⟨⟨⟨h1,h2⟩,h3⟩,h4⟩:=h
 refine(Al.each (b:=fun j a=>fun _=>Jj r j a) (I:=fun n (_:Unit)=>(∀ a ∈ r.Owners.take n,inA a) ∧ ∀ l ∈ r.Costs.take n,(l.length:Int)=r.Slots) (E:=fun e:Int=>e=370) r.Costs 0 () ⟨by simp,by simp⟩ fun j a _ hj hI=>?_).bind fun x hx=>Al.alt hx (fun u hu=>?_) fun e he=>Al.ok (.inr he)
 ·simp only [Nat.zero_add] at hI ⊢
  have hjl:j<r.Costs.length:=Au hj
  have hjo:j<r.Owners.length:=by omega
  have ht1:r.Owners.take (j+1)=r.Owners.take j++[r.Owners[j]]:=by rw [List.take_add_one,List.getElem?_eq_getElem hjo]; rfl
  have ht2:r.Costs.take (j+1)=r.Costs.take j++[a]:=by rw [List.take_add_one,hj]; rfl
  unfold Jj
  rw [Gk (List.getElem?_eq_getElem hjo),R.ok_bind]
  unfold Jd He
  rw [R.ok_bind]
  refine Al.ite (fun _=>Al.pos rfl (Al.ok rfl)) fun q1=>?_
  refine Al.ite (fun _=>Al.pos rfl (Al.ok rfl)) fun q2=>?_
  simp only [Bool.or_eq_true,decide_eq_true_eq,not_or,bne_iff_ne,ne_eq,Decidable.not_not] at q1 q2
  have hja:j<a.length:=by omega
  rw [Gk (List.getElem?_eq_getElem hja),R.ok_bind]
  refine Al.ite (fun _=>Al.pos rfl (Al.ok rfl)) fun q3=>?_
  refine(Auh a).bind fun b=>Al.ite (fun _=>Al.ok rfl) fun _=>Al.ok ⟨fun x hx=>?_,fun x hx=>?_⟩
  ·rw [ht1,List.mem_append,List.mem_singleton] at hx
   rcases hx with hx | rfl
   ·exact hI.1 x hx
   ·unfold Am.inA; omega
  ·rw [ht2,List.mem_append,List.mem_singleton] at hx
   rcases hx with hx | rfl
   ·exact hI.2 x hx
   ·exact q2
 ·simp only [U5,Nat.zero_add,List.take_length] at hu
  have e:r.Costs.length=r.Owners.length:=by omega
  rw [e,List.take_length] at hu
  exact Al.ok (.inl ⟨rfl,⟨by omega,by omega⟩,by omega,e,hu.1,hu.2⟩)
def InS (r:Round)(l:List Int):Prop := ∀ s ∈ l,0≤s∧s<r.Slots
theorem Qh {α:Type}{l:List α}{n:Int}(h0:0≤n)(h1:n<(l.length:Int)):B9 (idx l n):=Al.idx h0 h1 fun _ _=>trivial
section
variable {r:Round} (hr:CChk r)
include hr
theorem Af5 {f s:Int}(hf:0≤f∧f<(r.Owners.length:Int))(hs:0≤s∧s<r.Slots){β:Type}{g:Int→R β}{Q:β→Prop}(h : ∀ a,Al (g a) Q):Al ((idx r.Costs f).bind fun a=>(idx a s).bind g) Q:=by
 refine(Al.idx (P:=fun a=>a ∈ r.Costs) hf.1 (by have:=hr.costs; omega) fun a ha=>List.mem_of_getElem? ha).bind fun a ha=>?_
 exact(Qh hs.1 (by have:=hr.row a ha; omega)).bind h
theorem Alq (slots:List Int):Al (L5 r slots) fun b=>b=true→slots.length=r.Owners.length∧InS r slots:=by
 unfold L5
 refine Al.ite (fun _=>Al.ok fun h=>by simp at h) fun h=>?_
 simp only [bne_iff_ne,ne_eq,Decidable.not_not] at h
 refine(Al.each (b:=fun j a=>fun _=>Ht r slots j a) (I:=fun n (_:Unit)=>InS r (slots.take n)) (E:=fun b:Bool=>b=false) slots 0 () (by intro s hs; simp at hs) fun j a _ hj hI=>?_).bind fun x hx=>Al.alt hx (fun u hu=>?_) fun e he=>Al.ok fun h=>by rw [he] at h; simp at h
 ·simp only [Nat.zero_add] at hI ⊢
  have hjl:j<slots.length:=Au hj
  have ht1:slots.take (j+1)=slots.take j++[a]:=by rw [List.take_add_one,hj]; rfl
  unfold Ht
  by_cases q:a<0∨a≥r.Slots
  ·rw [if_pos (by simpa using q)]
   simp only [R.ok_bind,if_true]
   exact Al.ok rfl
  ·rw [if_neg (by simpa using q)]
   refine Al.bind (Af5 hr (f:=(j:Int)) (s:=a) ⟨by omega,by omega⟩ ⟨by omega,by omega⟩ (Q:=fun _=>True) fun x=>Al.ok trivial) fun b _=>?_
   refine Al.bind (P:=fun _=>True) (Al.ite (fun _=>Al.ok trivial) fun _=>?_) fun b1 _=>Al.ite (fun _=>Al.ok rfl) fun _=>Al.ok fun s hs=>?_
   ·rw [if_pos ⟨by omega,by omega⟩,Lb]
    exact Al.ok trivial
   ·rw [ht1,List.mem_append,List.mem_singleton] at hs
    rcases hs with hs | rfl
    ·exact hI s hs
    ·omega
 ·simp only [U5,Nat.zero_add,List.take_length] at hu
  exact Al.ok fun _=>⟨by omega,hu⟩
theorem Ap0:Iy r=.ok ((List.range r.Owners.length).map fun n:Nat=>(n:Int)):=by
 unfold Iy
 have hl:=hr.own; have hs:=hr.slots
 have:=Al.eachS (b:=fun j _=>fun l=>Kr j l) (I:=fun n (l:List Int)=>l=(List.range n).map fun n:Nat=>(n:Int)) r.Owners 0 [] rfl (fun j a l hj hI=>by
  simp only [Nat.zero_add] at hI ⊢
  subst hI
  have hjl:j<r.Owners.length:=Au hj
  unfold Kr
  rw [if_pos (by simp only [List.length_map,List.length_range,List.length_singleton,Bt]; omega)]
  refine Al.ok ?_
  rw [List.range_succ,List.map_append]
  rfl)
 obtain⟨l,e,hl⟩:=this
 rw [e,R.ok_bind,hl,Nat.zero_add]
theorem Xq (flights slots:List Int)(hf : ∀ f ∈ flights,0≤f∧f<(r.Owners.length:Int))(hl:flights.length≤slots.length)(hs:InS r slots):Al (Gx r flights slots) fun out=>out.length=8:=by
 unfold Gx
 rw [if_pos (by decide)]
 refine Al.bind (P:=fun out:List Int=>out.length=8) (Al.eachS (I:=fun _ (out:List Int)=>out.length=8) flights 0 _ (by decide) fun j a out hj hI=>?_) fun out h=>Al.ok h
 have ha:=hf a (List.mem_of_getElem? hj)
 have hjl:j<flights.length:=Au hj
 unfold Lg
 refine(Al.idx (P:=fun a1=>inA a1) ha.1 ha.2 fun a1 h=>hr.inA a1 (List.mem_of_getElem? h)).bind fun a1 h1=>?_
 unfold inA at h1
 refine(Qh h1.1 (by omega)).bind fun a2=>?_
 refine(Al.idx (P:=fun a=>a ∈ r.Costs) ha.1 (by have:=hr.costs; omega) fun a ha=>List.mem_of_getElem? ha).bind fun a3 h3=>?_
 simp only [Nat.zero_add]
 refine(Al.idx (P:=fun s=>0≤s∧s<r.Slots) (by omega) (by omega) fun s h=>hs s (List.mem_of_getElem? h)).bind fun a4 h4=>?_
 refine(Qh h4.1 (by have:=hr.row a3 h3; omega)).bind fun a5=>Al.ok ?_
 rw [List.length_set]
 exact hI
theorem Acr {f:Int}(h:f ∈ (List.range r.Owners.length).map fun n:Nat=>(n:Int)):0≤f∧f<(r.Owners.length:Int):=by
 obtain⟨n,hn,rfl⟩:=List.mem_map.1 h
 have:=List.mem_range.1 hn
 omega
theorem Aua:InS r ((List.range r.Owners.length).map fun n:Nat=>(n:Int)):=fun s hs=>by
 have:=Acr hr hs; have:=hr.own; omega
theorem Aht (slots:List Int):Al (Lp r slots) fun x=>x.2=0→slots.length=r.Owners.length∧InS r slots:=by
 unfold Lp Qp Oz
 have hl:=hr.own; have hs:=hr.slots
 refine Al.bind (P:=fun e:Int=>e=0→slots.length=r.Owners.length∧InS r slots) (Al.bind (P:=fun x:Bool×Int=>x.2=0→x.1=true→slots.length=r.Owners.length∧InS r slots) ((Aks r).bind fun e he=>Al.ite (fun _=>Al.ok fun _ h=>by simp at h) fun _=>(Alq hr slots).bind fun b hb=>Al.ok fun _=>hb) fun x hx=>Al.ite (fun _=>Al.ok fun h=>absurd h (by decide)) fun q=>Al.ok fun _=>?_) fun e he=>Al.ite (fun q=>Al.ok fun h=>?_) fun q=>?_
 ·simp only [Bool.or_eq_true,not_or,bne_iff_ne,ne_eq,Decidable.not_not,Bool.not_eq_true',Bool.not_eq_false] at q
  exact hx q.1 q.2
 ·simp only at h; rw [h] at q; simp at q
 ·have h0:e=0:=by simpa using q
  obtain⟨q1,q2⟩:=he h0
  rw [Ap0 hr]
  simp only [R.ok_bind]
  refine(Xq hr _ _ (fun f hf=>Acr hr hf) (Nat.le_refl _) (Aua hr)).bind fun before hb=>?_
  refine(Xq hr _ slots (fun f hf=>Acr hr hf) (by simp; omega) q2).bind fun now hn=>?_
  refine Al.bind (P:=fun _=>True) ((Al.eachS (b:=fun j a=>fun l=>Jg before j a l) (I:=fun n (l:List Int)=>l.length≤n) now 0 [] (by simp) fun j a l hj hI=>?_).tot) fun l _=>Al.ok fun _=>⟨q1,q2⟩
  have hjl:j<now.length:=Au hj
  unfold Jg
  simp only [Nat.zero_add] at hI ⊢
  refine(Qh (by omega) (by omega)).bind fun a1=>Al.ite (fun _=>Al.pos ?_ (Al.ok ?_)) fun _=>Al.ok (by omega)
  ·simp only [List.length_singleton,Bt]; omega
  ·simp only [List.length_append,List.length_singleton]; omega
theorem Amg {σ ε:Type}(l:List Int)(hl : ∀ f ∈ l,0≤f∧f<(r.Owners.length:Int))(h100:l.length≤100)(b_:List Int→σ→R (σ ⊕ ε))(hb : ∀ x s,x.length=l.length→(∀ f ∈ x,f ∈ l)→B9 (b_ x s)) :
  ∀ (n:Nat) (begin:List Int) (s:σ),begin.length≤l.length→l.length<begin.length+n→(∀ f ∈ begin,f ∈ l)→B9 (D0 b_ n begin l r l r s)
 | 0,begin,s,h1,h2,h3=>by omega
 | n+1,begin,s,h1,h2,h3=>by
  rw [D0]
  refine Al.np ?_
  unfold Ft
  refine Al.ite (fun q=>?_) fun q=>?_
  ·unfold I1
   rw [if_pos (by unfold Bt; omega),R.ok_bind]
   exact(hb begin s (by have:=of_decide_eq_true q; omega) h3).bind fun x=>B9.alt _ (fun _=>B9.ok _) fun _=>B9.ok _
  ·have hlt:begin.length<l.length:=by
    have:¬ ((begin.length:Int)=(l.length:Int)):=by simpa using q
    omega
   refine B9.bind (Al.each (I:=fun _ _=>True) (E:=fun _=>True) l 0 s trivial fun j a s1 hj _=>?_).tot fun x=>B9.alt _ (fun _=>B9.ok _) fun _=>B9.ok _
   refine Al.mono (P:=fun _=>True) ?_ fun x _=>by cases x <;> exact trivial
   have ha:a ∈ l:=List.mem_of_getElem? hj
   have ha':=hl a ha
   have hlo:=hr.own
   unfold Fk Em
   refine(Al.idx (P:=fun a1=>a1 ∈ l) (by omega) (by omega) fun a1 h=>List.mem_of_getElem? h).bind fun a1 h1'=>?_
   have h1'':=hl a1 h1'
   refine Af5 hr h1'' (s:=a) ⟨ha'.1,by omega⟩ fun a3=>Al.ite (fun _=>?_) fun _=>Al.ok trivial
   rw [Lb,R.ok_bind]
   refine Al.ite (fun _=>?_) fun _=>Al.ok trivial
   rw [Int.toNat_natCast,List.take_length,if_pos ⟨by omega,by omega⟩,if_pos ⟨by simp,by simp only [List.length_singleton,Bt]; omega⟩]
   refine(Amg l hl h100 b_ hb n (begin++[a]) s1 (by simp only [List.length_append,List.length_singleton]; omega) (by simp only [List.length_append,List.length_singleton]; omega) fun f hf=>?_).bind fun x=>B9.alt _ (fun _=>B9.ok _) fun _=>B9.ok _
   rw [List.mem_append,List.mem_singleton] at hf
   rcases hf with hf | rfl
   ·exact h3 f hf
   ·exact ha
theorem Anf (than group:List Int)(ht:than.length=8)(hg : ∀ o ∈ group,inA o):B9 (Kz r than group):=by
 unfold Kz
 have hlo:=hr.own; have hs:=hr.slots
 refine Al.bind (P:=fun l:List Int=>l.length≤r.Owners.length ∧ ∀ f ∈ l,0≤f∧f<(r.Owners.length:Int)) ((Al.eachS (b:=fun j a=>fun l=>Ia group j a l) (I:=fun n (l:List Int)=>l.length≤n ∧ ∀ f ∈ l,0≤f∧f<(r.Owners.length:Int)) r.Owners 0 [] ⟨by simp,by simp⟩ fun j a l hj hI=>?_).mono fun l hl=>by simpa using hl) fun l hl=>?_
 ·simp only [Nat.zero_add] at hI ⊢
  have hjl:j<r.Owners.length:=Au hj
  unfold Ia
  rw [Lb,R.ok_bind]
  refine Al.ite (fun _=>Al.pos (by simp only [List.length_singleton,Bt]; omega) (Al.ok ⟨by simp only [List.length_append,List.length_singleton]; omega,fun f hf=>?_⟩)) fun _=>Al.ok ⟨by omega,hI.2⟩
  rw [List.mem_append,List.mem_singleton] at hf
  rcases hf with hf | rfl
  ·exact hI.2 f hf
  ·omega
 ·unfold Gq
  rw [R.ok_bind]
  refine B9.bind (Al.np ?_) fun x=>B9.alt _ (fun _=>B9.ok _) fun _=>B9.ok _
  unfold F4 It
  refine B9.bind (Amg hr l hl.2 (by omega) _ (fun x s hx hm=>Al.np ?_) Sn [] () (by simp) (by rw [Ac0]; simp only [List.length_nil]; omega) (by simp)) fun x=>B9.alt _ (fun _=>B9.ok _) fun _=>B9.ok _
  show B9 (Gv r than group l x)
  unfold Gv Kk
  refine(Xq hr l x hl.2 (by omega) fun s hs'=>by have:=hl.2 s (hm s hs'); omega).bind fun now hn=>?_
  refine B9.bind (B9.each _ _ fun j o hj=>?_) fun y=>B9.alt _ (fun _=>B9.ok _) fun _=>B9.ok _
  have ho:=hg o (List.mem_of_getElem? hj)
  unfold inA at ho
  unfold Kn
  exact(Qh ho.1 (by omega)).bind fun _=>(Qh ho.1 (by omega)).bind fun _=>Al.ite (fun _=>B9.ok _) fun _=>B9.ok _
theorem Anc (slots:List Int):B9 (Ez r slots):=by
 unfold Ez
 refine(Aht hr slots).bind fun x hx=>Al.ite (fun _=>B9.ok _) fun q=>?_
 simp only [Bool.or_eq_true,decide_eq_true_eq,bne_iff_ne,ne_eq,not_or,Decidable.not_not] at q
 obtain⟨q1,q2⟩:=hx q.1
 rw [Ap0 hr,R.ok_bind]
 refine(Xq hr _ slots (fun f hf=>Acr hr hf) (by simp; omega) q2).bind fun than ht=>?_
 refine B9.bind (B9.each _ _ fun j a hj=>?_) fun y=>B9.alt _ (fun _=>B9.ok _) fun _=>B9.ok _
 unfold Ko E0
 refine Al.bind (Al.each (b:=fun j1 _=>fun group=>Ib r (0+j) j1 group) (I:=fun n (g:List Int)=>g.length≤n ∧ ∀ o ∈ g,inA o) (E:=fun _:Unit=>True) (List.range 8) 0 [] ⟨by simp,by simp⟩ fun j1 a g hj1 hI=>?_) fun x hx=>Al.alt hx (fun g hg=>?_) fun _ _=>B9.ok _
 ·simp only [Nat.zero_add] at hI ⊢
  have hj8:j1<8:=by have:=Au hj1; simpa using this
  unfold Ib
  rw [if_pos (by omega)]
  refine Al.ite (fun _=>Al.ok ⟨by omega,hI.2⟩) fun _=>?_
  rw [Lb,R.ok_bind]
  refine Al.ite (fun _=>Al.pos (by simp only [List.length_singleton,Bt]; omega) (Al.ok ⟨by simp only [List.length_append,List.length_singleton]; omega,fun o ho=>?_⟩)) fun _=>Al.ok trivial
  rw [List.mem_append,List.mem_singleton] at ho
  rcases ho with ho | rfl
  ·exact hI.2 o ho
  ·unfold inA; omega
 ·refine Al.ite (fun _=>B9.ok _) fun _=>?_
  exact(Anf hr than g ht hg.2).bind fun _=>Al.ite (fun _=>B9.ok _) fun _=>B9.ok _
theorem Aq3 (slots:List Int)(h1:slots.length=r.Owners.length)(h2:InS r slots):Al (Mk r slots) fun v=>v.length=2:=by
 unfold Mk
 refine Al.bind (P:=fun v:List Int=>v.length=2) (Al.eachS (I:=fun _ (v:List Int)=>v.length=2) slots 0 _ rfl fun j a v hj hI=>?_) fun v h=>Al.ok h
 have hjl:j<slots.length:=Au hj
 have ha:=h2 a (List.mem_of_getElem? hj)
 unfold Lz
 simp only [Nat.zero_add]
 refine(Qh (by decide) (by omega)).bind fun a1=>?_
 refine Af5 hr (f:=(j:Int)) ⟨by omega,by omega⟩ ha fun a3=>Al.ite (fun _=>?_) fun _=>Al.ok (by rw [List.length_set]; exact hI)
 refine(Qh (by decide) (by rw [List.length_set]; omega)).bind fun a4=>Al.ok (by rw [List.length_set,List.length_set]; exact hI)
theorem Afv {σ:Type}(b_:List Int→σ→R σ)(P:σ→Prop)(hb : ∀ x s,x.length=r.Owners.length→InS r x→P s→Al (b_ x s) P) :
  ∀ (n:Nat) (slots:List Int) (m:List (Int×Bool)) (s:σ),slots.length≤r.Owners.length→r.Owners.length<slots.length+n→InS r slots→P s→Al (D1 b_ n slots r m r s) fun x=>P x.2
 | 0,slots,m,s,h1,h2,h3,h4=>by omega
 | n+1,slots,m,s,h1,h2,h3,h4=>by
  rw [D1]
  refine Al.np ?_
  have hlo:=hr.own; have hsl:=hr.slots
  unfold Fw
  refine Al.ite (fun q=>?_) fun q=>?_
  ·exact(hb slots s (by have:=of_decide_eq_true q; omega) h3 h4).bind fun s' hs'=>Al.ok hs'
  ·have hlt:slots.length<r.Owners.length:=by
    have:¬ ((slots.length:Int)=(r.Owners.length:Int)):=by simpa using q
    omega
   refine Al.bind (P:=fun x:List (Int×Bool)×σ=>P x.2) (Al.loop (I:=fun x:Int×List (Int×Bool)×σ=>0≤x.1∧x.1≤r.Slots∧P x.2.2) (fun x=>(r.Slots - x.1).toNat) ?_ 8 (0,m,s) (by simp only; omega) ⟨by simp,by simp only; omega,h4⟩) fun x hx=>Al.ok hx
   rintro⟨x,m1,s1⟩ ⟨x1,x2,x3⟩
   show Al (Ek slots r r _ x m1 s1) _
   simp only at x1 x2 x3
   unfold Ek G7
   by_cases hx:x<r.Slots
   case neg=>rw [if_neg hx]; exact Al.ok x3
   rw [if_pos hx,G3 (n:=x+1) (by omega) (by omega)]
   refine Al.bind (P:=fun _=>True) (Al.ite (fun _=>Al.ok trivial) fun _=>Af5 hr (f:=(slots.length:Int)) (s:=x) ⟨by omega,by omega⟩ ⟨x1,hx⟩ fun _=>Al.ok trivial) fun b1 _=>Al.ite (fun _=>Al.ok ⟨⟨by simp only; omega,by simp only; omega,x3⟩,by simp only; omega⟩) fun _=>?_
   unfold Qv
   rw [if_pos ⟨by omega,Int.le_refl _⟩,R.ok_bind,Int.toNat_natCast,List.take_length,if_pos ⟨by simp,by simp only [List.length_singleton,Bt]; omega⟩]
   refine(Afv b_ P hb n (slots++[x]) _ s1 (by simp only [List.length_append,List.length_singleton]; omega) (by simp only [List.length_append,List.length_singleton]; omega) (fun f hf=>?_) x3).bind fun y hy=>Al.ok ⟨⟨by simp only; omega,by simp only; omega,hy⟩,by simp only; omega⟩
   rw [List.mem_append,List.mem_singleton] at hf
   rcases hf with hf | rfl
   ·exact h3 f hf
   ·exact⟨x1,hx⟩
end
theorem Alk (a b:List Int):B9 (Lf a b):=by
 unfold Lf
 refine B9.bind (B9.each _ _ fun j x hj=>?_) fun x=>B9.alt _ (fun _=>Al.ite (fun _=>B9.ok _) fun _=>B9.ok _) fun _=>B9.ok _
 unfold I6
 refine Al.ite (fun _=>B9.ok _) fun q=>?_
 refine(Qh (by omega) (by omega)).bind fun y=>?_
 rw [Rf,R.ok_bind]
 exact Al.ite (fun _=>B9.ok _) fun _=>B9.ok _
def Awk (r:Round)(x:List Int×Int):Prop:=(x.2=0∧CChk r∧Ez r x.1=.ok (true,0))∨(x.2=370∨x.2=380)
theorem Arl (r:Round):Al (Qc r) (Awk r):=by
 unfold Qc
 refine(Aks r).bind fun e he=>Al.ite (fun q=>Al.ok ?_) fun q=>?_
 ·rcases he with⟨rfl,_⟩ | rfl
  ·exact absurd q (by decide)
  ·exact .inr (.inl rfl)
 ·have hr:CChk r:=by
   rcases he with⟨_,h⟩ | rfl
   ·exact h
   ·exact absurd (by decide) q
  unfold Ih
  rw [R.ok_bind]
  refine Al.bind (P:=fun x:List Int×List Int=>x.2=[]∨Ez r x.1=.ok (true,0)) (Al.np ?_) fun x hx=>?_
  ·unfold F6 Ix
   have hlo:=hr.own; have hsl:=hr.slots
   refine(Afv hr _ (fun x:List Int×List Int=>x.2=[]∨Ez r x.1=.ok (true,0)) (fun x s h1 h2 h3=>Al.np ?_) Sn [] [] ([],[]) (by simp) (by rw [Ac0]; simp only [List.length_nil]; omega) (by intro s hs; simp at hs) (.inl rfl)).bind fun y hy=>Al.ok hy
   obtain⟨o,o1⟩:=s
   show Al (K5 r x o o1) _
   unfold K5
   refine(Aq3 hr x h1 h2).bind fun v hv=>?_
   refine Al.bind (P:=fun _=>True) (Al.ite (fun _=>(Alk _ _).bind fun _=>Al.ok trivial) fun _=>Al.ok trivial) fun b _=>Al.ite (fun _=>Al.ok h3) fun _=>?_
   obtain⟨st,hst,_⟩:=Anc hr x
   rw [hst,R.ok_bind]
   refine Al.ite (fun q=>?_) fun _=>Al.ok h3
   simp only [Bool.and_eq_true,beq_iff_eq] at q
   unfold I1
   rw [if_pos (by unfold Bt; omega),R.ok_bind,if_pos (by omega)]
   refine Al.ok (.inr ?_)
   rw [hst]
   exact congrArg R.ok (Prod.ext q.2 q.1)
  ·obtain⟨o,o1⟩:=x
   show Al (if(List.isEmpty o1) then R.ok (([]:List Int),(380:Int)) else .ok (o,0)) _
   refine Al.ite (fun _=>Al.ok (.inr (.inr rfl))) fun q=>Al.ok (.inl ⟨rfl,hr,?_⟩)
   rcases hx with hx | hx
   ·exact absurd (by simp only at hx; rw [hx]; rfl) q
   ·exact hx
def Aoi (r:Round)(x:List Int×Int):Prop:=(x.2=3∧CChk r∧Ez r x.1=.ok (true,0))∨(x.2=4∧x.1=(List.range r.Owners.length).map fun n:Nat=>(n:Int))
theorem Ahp (r:Round)(hl:r.Owners.length≤100000):Al (Jt r) (Aoi r):=by
 unfold Jt
 refine(Arl r).bind fun x hx=>Al.ite (fun q=>Al.ok (.inl ⟨rfl,?_⟩)) fun q=>?_
 ·have q':x.2=0:=by simpa using q
  rcases hx with⟨_,h⟩ | h
  ·exact h
  ·rw [q'] at h; omega
 ·have:=Al.eachS (b:=fun j _=>fun outcome=>Lq j outcome) (I:=fun n (l:List Int)=>l=(List.range n).map fun n:Nat=>(n:Int)) r.Owners 0 [] rfl (fun j a l hj hI=>by
   simp only [Nat.zero_add] at hI ⊢
   subst hI
   have hjl:j<r.Owners.length:=Au hj
   unfold Lq
   rw [if_pos (by simp only [List.length_map,List.length_range,List.length_singleton,Bt]; omega)]
   refine Al.ok ?_
   rw [List.range_succ,List.map_append]
   rfl)
  refine this.bind fun l hl=>Al.ok (.inr ⟨rfl,?_⟩)
  rw [hl,Nat.zero_add]
end Go.Am
namespace Go.Am
open Go
set_option linter.unusedVariables false
set_option linter.unusedSimpArgs false
theorem Ac9 {α:Type}[DecidableEq α]{b:Nat→α→Unit→R (Unit ⊕ Bool)}(s1 s2:List α)(h:s1.length=s2.length)(hb : ∀ (j:Nat) a a1,s2[j]? = some a1→b j a ()=if a=a1 then .ok (.inl ()) else .ok (.inr false)) :
  Al ((each b 0 s1 ()).bind (alt (fun _=>R.ok true) (fun r=>.ok r))) fun r=>(r=true↔s1=s2):=by
 refine(Al.each (b:=b) (I:=fun n (_:Unit)=>s1.take n=s2.take n) (E:=fun r:Bool=>r=false∧s1≠s2) s1 0 () (by simp) fun j a _ hj hI=>?_).bind fun x hx=>Al.alt hx (fun u hu=>Al.ok ⟨fun _=>?_,fun _=>rfl⟩) fun r hr=>Al.ok ⟨fun e=>by rw [hr.1] at e; exact absurd e (by decide),fun e=>absurd e hr.2⟩
 ·simp only [Nat.zero_add] at hI ⊢
  have hjl:j<s1.length:=Au hj
  have hj2:s2[j]? = some s2[j]:=List.getElem?_eq_getElem (by omega)
  rw [hb j a _ hj2]
  by_cases q:a=s2[j]
  ·rw [if_pos q]
   refine Al.ok ?_
   show s1.take (j+1)=s2.take (j+1)
   rw [List.take_add_one,List.take_add_one,hI,hj,hj2,q]
  ·rw [if_neg q]
   refine Al.ok ⟨rfl,fun e=>q ?_⟩
   subst e
   rw [hj] at hj2
   exact Option.some.inj hj2
 ·simp only [U5,Nat.zero_add,List.take_length] at hu
  rw [hu,h,List.take_length]
theorem Aie (s1 s2:List Int):Al (Mw s1 s2) fun r=>(r=true↔s1=s2):=by
 unfold Mw
 refine Al.ite (fun q=>Al.ok ⟨fun e=>absurd e (by decide),fun e=>by subst e; simp at q⟩) fun q=>?_
 refine Ac9 s1 s2 (by have this:¬ ((s1.length:Int)≠(s2.length:Int)):=(by simpa using q); omega) fun j a a1 hj=>?_
 unfold Kj
 rw [Gk hj,R.ok_bind]
 by_cases h:a=a1
 ·rw [if_neg (by simpa using h),if_pos h]
 ·rw [if_pos (by simpa using h),if_neg h]
theorem Aer (s1 s2:List (Vector Int 32)):Al (Kl s1 s2) fun r=>(r=true↔s1=s2):=by
 unfold Kl
 refine Al.ite (fun q=>Al.ok ⟨fun e=>absurd e (by decide),fun e=>by subst e; simp at q⟩) fun q=>?_
 refine Ac9 s1 s2 (by have this:¬ ((s1.length:Int)≠(s2.length:Int)):=(by simpa using q); omega) fun j a a1 hj=>?_
 unfold Ic
 rw [Gk hj,R.ok_bind]
 by_cases h:a=a1
 ·rw [if_pos (by simpa using h),if_pos h]
 ·rw [if_neg (by simpa using h),if_neg h]
structure Sm (c:Clearing):Prop where
 op:c.Openings.length≤1000
 path : ∀ o ∈ c.Openings,o.Path.length≤1000
 out:c.Outcome.length≤1000
def exR (c:Clearing):Round:={ Slots:=c.Slots,Owners:=c.Owners,Costs:=Ae2 c }
structure Fin (c:Clearing):Prop where
 com:zD ∉ c.Commitments
 opn:R5 c
 full:Aak c
 out:Jt (exR c)=.ok (c.Outcome,c.Phase)
structure ValidC (c:Clearing):Prop where
 formed:Formed c
 phase:(c.Phase=1∧zD ∈ c.Commitments∧c.Openings=[]∧c.Outcome=[])∨(c.Phase=2∧zD ∉ c.Commitments∧R5 c∧c.Outcome=[])∨((c.Phase=3∨c.Phase=4)∧Fin c)
theorem Akc (c:Clearing)(hF:Formed c)(hs:Sm c):Al (Ls c) fun r=>(r=true↔Fin c):=by
 unfold Ls
 rw [Nh,R.ok_bind]
 have hfl:=hF.fl; have hsl:=hF.slots
 by_cases h0:zD ∈ c.Commitments
 ·simp only [h0,decide_true,Bool.not_true,Bool.not_false,if_true,R.ok_bind]
  exact Al.ok ⟨fun e=>absurd e (by decide),fun h=>absurd h0 h.com⟩
 simp only [h0,decide_false,Bool.not_true,Bool.not_false,Bool.false_eq_true,if_false]
 refine Al.bind (Al.bind (Ae4 c hF hs.path hs.op) (Q:=fun b=>(b=false↔R5 c)) fun b hb=>Al.ok ?_) fun b hb=>?_
 ·cases b <;> simp_all
 refine Al.ite (fun q=>Al.ok ⟨fun e=>absurd e (by decide),fun h=>?_⟩) fun q=>?_
 ·rw [hb.2 h.opn] at q; exact absurd q (by decide)
 have hO:R5 c:=hb.1 (by simpa using q)
 rw [Adm c hsl (by omega),R.ok_bind]
 by_cases hfu:c.Openings.length=c.Flights.length * c.Slots.toNat
 case neg=>
  rw [if_neg hfu]
  exact Al.ok ⟨fun e=>absurd e (by decide),fun h=>absurd h.full hfu⟩
 rw [if_pos hfu]
 simp only [if_true]
 obtain⟨x,e,_⟩:=Ahp (exR c) (show c.Owners.length≤100000 by have:=hF.ow; omega)
 rw [show({ Slots:=c.Slots,Owners:=c.Owners,Costs:=Ae2 c }:Round)=exR c from rfl,e,R.ok_bind]
 refine Al.bind (P:=fun b:Bool=>(b=true↔x=(c.Outcome,c.Phase))) ?_ fun b hb=>Al.ok ⟨fun hbt=>⟨h0,hO,hfu,by rw [e,hb.1 hbt]⟩,fun h=>hb.2 (by rw [h.out] at e; exact(R.ok.inj e).symm)⟩
 by_cases hph:x.2=c.Phase
 ·rw [if_pos (by simpa using hph)]
  refine(Aie x.1 c.Outcome).bind fun b hb=>Al.ok ?_
  rw [hb]
  exact⟨fun h=>Prod.ext h hph,fun h=>by rw [h]⟩
 ·rw [if_neg (by simpa using hph)]
  exact Al.ok ⟨fun e=>absurd e (by decide),fun h=>absurd (by rw [h]) hph⟩
theorem Xw (c:Clearing)(hs:Sm c):Al (G9 c) fun e=>(e=0∧ValidC c)∨(e=400∧¬ ValidC c):=by
 unfold G9
 refine(Ana c).bind fun f hf=>?_
 have h400 : ∀ h:¬ ValidC c,Al (Fc true) fun e=>(e=0∧ValidC c)∨(e=400∧¬ ValidC c):=fun h=>Al.ok (.inr ⟨rfl,h⟩)
 refine Al.ite (fun q=>h400 fun h=>?_) fun q=>?_
 ·rw [hf.2 h.formed] at q; exact absurd q (by decide)
 have hF:Formed c:=hf.1 (by simpa using q)
 refine Al.ite (fun q=>h400 fun h=>?_) fun q1=>?_
 ·have:=h.phase; simp only [decide_eq_true_eq] at q; omega
 refine Al.ite (fun q=>h400 fun h=>?_) fun q2=>?_
 ·have:=h.phase; simp only [decide_eq_true_eq] at q; omega
 simp only [decide_eq_true_eq] at q1 q2
 have hj : ∀ (b:Bool),(b=true↔ValidC c)→Al (Fc (!b)) fun e=>(e=0∧ValidC c)∨(e=400∧¬ ValidC c):=fun b hb=>by
  cases b with
  | true=>exact Al.ok (.inl ⟨rfl,hb.1 rfl⟩)
  | false=>exact Al.ok (.inr ⟨rfl,fun h=>absurd (hb.2 h) (by decide)⟩)
 rw [if_neg (by omega)]
 refine Al.ite (fun p1=>?_) fun p1=>Al.ite (fun p2=>?_) fun p2=>Al.ite (fun p3=>?_) fun p3=>Al.ite (fun p4=>?_) fun p4=>by omega
 ·unfold P1
  rw [Nh,R.ok_bind,G3 (by have:=hs.op; omega) (by have:=hs.op; have:=hs.out; omega),R.ok_bind]
  refine hj _ ⟨fun h=>⟨hF,.inl ⟨p1,?_⟩⟩,fun h=>?_⟩
  ·simp only [Bool.not_not,Bool.and_eq_true,decide_eq_true_eq,beq_iff_eq] at h
   exact⟨h.1,List.length_eq_zero_iff.1 (by omega),List.length_eq_zero_iff.1 (by omega)⟩
  ·rcases h.phase with⟨_,h1,h2,h3⟩ | ⟨h1,_⟩ | ⟨h1,_⟩
   ·rw [h2,h3]; simp [h1]
   ·omega
   ·omega
 ·unfold Pz
  rw [Nh,R.ok_bind]
  by_cases h0:zD ∈ c.Commitments
  ·simp only [h0,decide_true,Bool.not_true,Bool.false_eq_true,if_false,R.ok_bind,Bool.false_and]
   refine hj _ ⟨fun h=>absurd h (by decide),fun h=>?_⟩
   rcases h.phase with⟨h1,_⟩ | ⟨_,h1,_⟩ | ⟨h1,_⟩
   ·omega
   ·exact absurd h0 h1
   ·omega
  ·simp only [h0,decide_false,Bool.not_false,if_true]
   obtain⟨b,e,hb⟩:=Ae4 c hF hs.path hs.op
   rw [e]
   simp only [R.ok_bind]
   refine hj _ ⟨fun h=>⟨hF,.inr (.inl ⟨p2,h0,?_⟩)⟩,fun h=>?_⟩
   ·simp only [Bool.and_eq_true,beq_iff_eq] at h
    exact⟨hb.1 h.1,List.length_eq_zero_iff.1 (by omega)⟩
   ·rcases h.phase with⟨h1,_⟩ | ⟨_,_,h1,h2⟩ | ⟨h1,_⟩
    ·omega
    ·rw [hb.2 h1,h2]; rfl
    ·omega
 all_goals
  obtain⟨b,e,hb⟩:=Akc c hF hs
  rw [e]
  simp only [R.ok_bind]
  refine hj _ ⟨fun h=>⟨hF,.inr (.inr ⟨by omega,hb.1 h⟩)⟩,fun h=>?_⟩
  rcases h.phase with⟨h1,_⟩ | ⟨h1,_⟩ | ⟨_,h1⟩
  ·omega
  ·omega
  ·exact hb.2 h1
theorem Asj {c:Clearing}(hs:Sm c)(h:ValidC c):G9 c=.ok 0:=by
 refine Al.eq ((Xw c hs).mono fun e he=>?_)
 rcases he with⟨h,_⟩ | ⟨_,h'⟩
 ·exact h
 ·exact absurd h h'
end Go.Am
namespace Go.Am
open Go
set_option linter.unusedVariables false
set_option linter.unusedSimpArgs false
theorem Axz {n:Int}(h1:0≤n)(h2:n<18446744073709551616):IntKind.wrap .u64 n=n:=by simp [IntKind.wrap,IntKind.bits,IntKind.signed]; omega
theorem Anx (l:List Opening)(o:Opening)(hl:l.length≤100000)(hs:l.Pairwise Il):Al (D3 l o) fun x => ∃ n:Nat,x.1=(n:Int)∧n≤l.length∧(∀ k y,l[k]? = some y→k<n→Il y o)∧(∀ k y,l[k]? = some y→n≤k→¬ Il y o)∧(x.2=true ↔ ∃ y,l[n]? = some y∧y.Flight=o.Flight∧y.Slot=o.Slot):=by
 unfold D3
 refine Al.bind (P:=fun i:Int => ∃ n:Nat,i=(n:Int)∧n≤l.length∧(∀ k y,l[k]? = some y→k<n→Il y o)∧(∀ k y,l[k]? = some y→n≤k→¬ Il y o)) (Al.loop (I:=fun s:Int×Int=>0≤s.1∧s.1≤s.2∧s.2≤(l.length:Int)∧(∀ (k:Nat) y,l[k]? = some y→(k:Int)<s.1→Il y o)∧(∀ (k:Nat) y,l[k]? = some y→s.2≤(k:Int)→¬ Il y o)) (fun s=>(s.2 - s.1).toNat) ?_ l.length (0,(l.length:Int)) (by simp) ⟨by simp,by simp,by simp,fun k y _ h=>by simp only at h; omega,fun k y hk h=>by have:=Au hk; simp only at h; omega⟩) ?_
 ·rintro⟨i,j⟩ ⟨i1,i2,i3,i4,i5⟩
  show Al (Cs l o i j) _
  simp only at i1 i2 i3 i4 i5
  unfold Cs
  by_cases hij:i<j
  case neg=>
   rw [if_neg hij]
   obtain rfl:i=j:=by omega
   exact Al.ok ⟨i.toNat,by omega,by omega,fun k y hk h=>i4 k y hk (by omega),fun k y hk h=>i5 k y hk (by omega)⟩
  have hm:Int.fdiv (i+j) 2=(i+j) / 2:=Int.fdiv_eq_ediv_of_nonneg _ (by decide)
  rw [if_pos hij,G3 (n:=i+j) (by omega) (by omega),Axz (n:=i+j) (by omega) (by omega),hm,G3 (n:=(i+j) / 2) (by omega) (by omega)]
  have hml:((i+j) / 2).toNat<l.length:=by omega
  obtain⟨m,hmm⟩ : ∃ m:Nat,(i+j) / 2=(m:Int):=⟨((i+j) / 2).toNat,by omega⟩
  rw [hmm] at hml ⊢
  rw [Int.toNat_natCast] at hml
  have hget:=List.getElem?_eq_getElem hml
  rw [Gk hget,R.ok_bind,Tt,R.ok_bind]
  by_cases hc:Abz l[m] o<0
  ·rw [if_pos hc,G3 (n:=(m:Int)+1) (by omega) (by omega)]
   have hlt:Il l[m] o:=Aan.1 hc
   refine Al.ok ⟨⟨by simp only; omega,by simp only; omega,by simp only; omega,fun k y hk h=>?_,fun k y hk h=>i5 k y hk h⟩,by simp only; omega⟩
   simp only at h
   have hkl:=Au hk
   rw [List.getElem?_eq_getElem hkl] at hk
   obtain rfl:=Option.some.inj hk
   rcases Nat.lt_or_ge k m with h' | h'
   ·exact(List.pairwise_iff_getElem.1 hs k m hkl hml h').trans hlt
   ·obtain rfl:k=m:=by omega
    exact hlt
  ·rw [if_neg hc]
   have hge:¬ Il l[m] o:=fun h=>hc (Aan.2 h)
   refine Al.ok ⟨⟨by simp only; omega,by simp only; omega,by simp only; omega,fun k y hk h=>i4 k y hk h,fun k y hk h hlt=>?_⟩,by simp only; omega⟩
   simp only at h
   have hkl:=Au hk
   rw [List.getElem?_eq_getElem hkl] at hk
   obtain rfl:=Option.some.inj hk
   rcases Nat.lt_or_ge m k with h' | h'
   ·exact hge ((List.pairwise_iff_getElem.1 hs m k hml hkl h').trans hlt)
   ·obtain rfl:k=m:=by omega
    exact hge hlt
 ·rintro i ⟨n,rfl,n1,n2,n3⟩
  unfold Dr
  by_cases hn:(n:Int)<(l.length:Int)
  ·have hnl:n<l.length:=by omega
   rw [if_pos (by simpa using hn),Gk (List.getElem?_eq_getElem hnl),R.ok_bind,Tt,R.ok_bind]
   refine Al.ok ⟨n,rfl,n1,n2,n3,?_⟩
   rw [beq_iff_eq,Apx]
   constructor
   ·intro h; exact⟨_,List.getElem?_eq_getElem hnl,h⟩
   ·rintro⟨y,hy,h⟩
    rw [List.getElem?_eq_getElem hnl] at hy
    rw [Option.some.inj hy]; exact h
  ·rw [if_neg (by simpa using hn)]
   refine Al.ok ⟨n,rfl,n1,n2,n3,fun e=>by simp at e,?_⟩
   rintro⟨y,hy,_⟩
   have:=Au hy
   omega
theorem Asc (a b:Opening):Al (R8 a b) fun r=>(r=true↔a=b):=by
 unfold R8
 by_cases h:a.Airline=b.Airline∧a.Flight=b.Flight∧a.Slot=b.Slot∧a.Cost=b.Cost∧a.Salt=b.Salt
 ·obtain⟨h1,h2,h3,h4,h5⟩:=h
  rw [if_pos (by simp [h1,h2,h3,h4,h5])]
  refine Al.bind ((Aer a.Path b.Path).bind fun r hr=>Al.ok hr) fun r hr=>Al.ok ?_
  rw [hr]
  obtain⟨a1,a2,a3,a4,a5,a6⟩:=a
  obtain⟨b1,b2,b3,b4,b5,b6⟩:=b
  simp only at h1 h2 h3 h4 h5
  subst h1 h2 h3 h4 h5
  simp
 ·rw [if_neg (fun q=>h (by
   simp only [Bool.and_eq_true,beq_iff_eq] at q
   obtain⟨⟨⟨⟨q1,q2⟩,q3⟩,q4⟩,q5⟩:=q
   exact⟨q1,q2,q3,q4,q5⟩))]
  exact Al.ok ⟨fun e=>absurd e (by decide),fun e=>absurd (by subst e; exact⟨rfl,rfl,rfl,rfl,rfl⟩) h⟩
theorem Am9 {l:List Int}{a b:Int}(hs:l.Pairwise (· < ·))(ha:a ∈ l)(hb:b ∈ l)(h:a<b):(E7 l a).toNat<(E7 l b).toNat:=by
 have h1:=Uk (K4.2 ha)
 have h2:=Uk (K4.2 hb)
 rcases Nat.lt_or_ge (E7 l a).toNat (E7 l b).toNat with q | q
 ·exact q
 ·exfalso
  have k1:=Au h1
  have k2:=Au h2
  rw [List.getElem?_eq_getElem k1] at h1
  rw [List.getElem?_eq_getElem k2] at h2
  have e1:=Option.some.inj h1
  have e2:=Option.some.inj h2
  rcases Nat.lt_or_ge (E7 l b).toNat (E7 l a).toNat with q' | q'
  ·have:=List.pairwise_iff_getElem.1 hs _ _ k2 k1 q'
   omega
  ·have e:(E7 l a).toNat=(E7 l b).toNat:=by omega
   simp only [e] at e1
   omega
def Aeu (c:Clearing)(o:Opening):Nat:=(E7 c.Flights o.Flight).toNat * c.Slots.toNat+o.Slot.toNat
theorem Ahj {c:Clearing}{o:Opening}(h:V4 c o):0≤o.Slot∧o.Slot<c.Slots:=by
 obtain⟨_,_,d,_,hV⟩:=h
 exact⟨hV.2.2.2.2.2.2.1,hV.2.2.2.2.2.2.2.1⟩
theorem At1 {c:Clearing}{o:Opening}(h:V4 c o):Aeu c o<c.Flights.length * c.Slots.toNat:=by
 have h1:=Ahj h
 have h2:=Au (Uk (K4.2 h.1))
 have h3:((E7 c.Flights o.Flight).toNat+1) * c.Slots.toNat≤c.Flights.length * c.Slots.toNat:=Nat.mul_le_mul_right _ h2
 rw [Nat.add_mul,Nat.one_mul] at h3
 unfold Aeu
 omega
theorem Apf {c:Clearing}(hF:Formed c){a b:Opening}(ha:V4 c a)(hb:V4 c b)(h:Il a b):Aeu c a<Aeu c b:=by
 have h1:=Ahj ha
 have h2:=Ahj hb
 unfold Aeu
 rcases h with h | ⟨h,h'⟩
 ·have h3:=Am9 hF.lt ha.1 hb.1 h
  have h4:((E7 c.Flights a.Flight).toNat+1) * c.Slots.toNat≤(E7 c.Flights b.Flight).toNat * c.Slots.toNat:=Nat.mul_le_mul_right _ h3
  rw [Nat.add_mul,Nat.one_mul] at h4
  omega
 ·rw [h]; omega
end Go.Am
namespace Go.Am
open Go
set_option linter.unusedVariables false
set_option linter.unusedSimpArgs false
def zC:Clearing:={ No:=0,Phase:=0,Slots:=0,Owners:=[],Flights:=[],Commitments:=[],Openings:=[],Outcome:=[] }
def Zj (c:Clearing)(i:Nat)(d:Vector Int 32):Clearing:={ c with Phase:=if zD ∈ c.Commitments.set i d then c.Phase else 2,Commitments:=c.Commitments.set i d }
def Auo (c:Clearing)(a:Int)(d:Vector Int 32)(x:Clearing×Int):Prop:=
 (x=(zC,400)∧(¬ ValidC c∨a ∉ D9 c.Owners∨d=zD ∨ ∃ e,c.Commitments[(E7 (D9 c.Owners) a).toNat]? = some e∧e≠d∧e≠zD)) ∨
 (x.2=0∧ValidC c∧a ∈ D9 c.Owners∧d≠zD∧((c.Commitments[(E7 (D9 c.Owners) a).toNat]? = some d∧x.1=c)∨(c.Commitments[(E7 (D9 c.Owners) a).toNat]? = some zD∧x.1=Zj c (E7 (D9 c.Owners) a).toNat d)))
theorem Agb (c:Clearing)(a:Int)(d:Vector Int 32)(hs:Sm c):Al (Hj c a d) (Auo c a d):=by
 unfold Hj
 refine(Xw c hs).bind fun e he=>?_
 rcases he with⟨rfl,hV⟩ | ⟨rfl,hV⟩
 case inr=>
  rw [if_pos (by decide)]
  exact Al.ok (.inl ⟨rfl,.inl hV⟩)
 rw [if_neg (by decide)]
 have hF:=hV.formed
 have hfl:=hF.fl; have hsl:=hF.slots; have how:=hF.ow; have hcm:=hF.com
 refine(V8 c.Owners (by omega)).bind fun r hr=>?_
 rw [hr.1,Ng,R.ok_bind,Ajq]
 by_cases ha:a ∈ D9 c.Owners
 case neg=>
  have:=mt K4.1 ha
  rw [if_pos (by simp only [Bool.or_eq_true,decide_eq_true_eq]; left; omega)]
  exact Al.ok (.inl ⟨rfl,.inr (.inl ha)⟩)
 have hi:=K4.2 ha
 have hil:=Ahf (l:=D9 c.Owners) (v:=a)
 by_cases hd:d=zD
 ·rw [if_pos (by simp [hd])]
  exact Al.ok (.inl ⟨rfl,.inr (.inr (.inl hd))⟩)
 rw [if_neg (by simp only [Bool.or_eq_true,decide_eq_true_eq,beq_iff_eq,not_or]; exact⟨by omega,hd⟩)]
 refine(Al.idx (P:=fun e=>c.Commitments[(E7 (D9 c.Owners) a).toNat]? = some e) hi (by omega) fun e h=>h).bind fun e he=>?_
 by_cases hed:e=d
 ·rw [if_pos (by simpa using hed)]
  subst hed
  exact Al.ok (.inr ⟨rfl,hV,ha,hd,.inl ⟨he,rfl⟩⟩)
 rw [if_neg (by simpa using hed)]
 by_cases hez:e=zD
 case neg=>
  rw [if_neg (by simpa using hez)]
  exact Al.ok (.inl ⟨rfl,.inr (.inr (.inr ⟨e,he,hed,hez⟩))⟩)
 rw [if_pos (by simpa using hez)]
 subst hez
 have hal:=Aaq c.Owners
 unfold Nf
 rw [if_pos (by unfold Bt; omega),R.ok_bind]
 refine(Qh hi (by omega)).bind fun a1=>?_
 rw [Nh,R.ok_bind]
 by_cases hz:zD ∈ c.Commitments.set (E7 (D9 c.Owners) a).toNat d
 ·rw [if_neg (by simp [hz])]
  refine Al.ok (.inr ⟨rfl,hV,ha,hd,.inr ⟨he,?_⟩⟩)
  unfold Zj
  rw [if_pos hz]
 ·rw [if_pos (by simp [hz])]
  refine Al.ok (.inr ⟨rfl,hV,ha,hd,.inr ⟨he,?_⟩⟩)
  unfold Zj
  rw [if_neg hz]
theorem Sm.put {c:Clearing}{i:Nat}{d:Vector Int 32}(h:Sm c):Sm (Zj c i d):=⟨h.op,h.path,h.out⟩
theorem Formed.same {c x:Clearing}(h:Formed c)(e1:x.No=c.No)(e2:x.Slots=c.Slots)(e3:x.Flights=c.Flights)(e4:x.Owners=c.Owners)(e5:x.Commitments.length=c.Commitments.length):Formed x:=
 ⟨by rw [e1]; exact h.no,by rw [e2]; exact h.slots,by rw [e2,e3]; exact h.fl,by rw [e3,e4]; exact h.ow,by rw [e3]; exact h.lt,by rw [e3]; exact h.rng,by rw [e4]; exact h.own,by rw [e4,e5]; exact h.com⟩
theorem Ao4 {c:Clearing}{i:Nat}{d:Vector Int 32}(hV:ValidC c)(hz:c.Commitments[i]? = some zD):ValidC (Zj c i d):=by
 have hmem:zD ∈ c.Commitments:=List.mem_of_getElem? hz
 have hF':Formed (Zj c i d):=hV.formed.same rfl rfl rfl rfl (by simp [Zj])
 rcases hV.phase with⟨h1,h2,h3,h4⟩ | ⟨_,h,_⟩ | ⟨_,h⟩
 ·refine⟨hF',?_⟩
  by_cases h:zD ∈ c.Commitments.set i d
  ·refine .inl ⟨?_,h,h3,h4⟩
   show(if zD ∈ c.Commitments.set i d then c.Phase else 2)=1
   rw [if_pos h,h1]
  ·refine .inr (.inl ⟨?_,h,?_,h4⟩)
   ·show(if zD ∈ c.Commitments.set i d then c.Phase else 2)=2
    rw [if_neg h]
   ·refine⟨?_,?_⟩
    ·show c.Openings.Pairwise Il
     rw [h3]; exact .nil
    ·show ∀ o ∈ c.Openings,_
     rw [h3]; intro o ho; simp at ho
 ·exact absurd hmem h
 ·exact absurd hmem h.com
def Aab (l:List Opening)(n:Nat)(o:Opening):List Opening:=l.take n++[o]++l.drop n
def Awv (c:Clearing)(o:Opening)(x:Clearing×Int):Prop:=
 (x.1=zC∧x.2≠0∧(¬ ValidC c∨c.Phase=1∨¬ V4 c o ∨ ∃ y ∈ c.Openings,y.Flight=o.Flight∧y.Slot=o.Slot∧y≠o)) ∨
 (x.2=0∧ValidC c∧c.Phase≠1∧V4 c o∧((o ∈ c.Openings∧x.1=c) ∨ ∃ n,n≤c.Openings.length∧(∀ y ∈ c.Openings.take n,Il y o)∧(∀ y ∈ c.Openings.drop n,Il o y)∧x.1={ c with Openings:=Aab c.Openings n o }))
theorem Tm {c:Clearing}(hV:ValidC c)(hp:c.Phase≠1):R5 c:=by
 rcases hV.phase with⟨h,_⟩ | ⟨_,_,h,_⟩ | ⟨_,h⟩
 ·exact absurd h hp
 ·exact h
 ·exact h.opn
theorem Aqx (a b:Opening)(h:¬ Il a b)(h':¬ (a.Flight=b.Flight∧a.Slot=b.Slot)):Il b a:=by unfold Il at *; omega
theorem Ai9 (c:Clearing)(o:Opening)(hs:Sm c)(hp:o.Path.length≤1000):Al (Jn c o) (Awv c o):=by
 unfold Jn
 refine(Xw c hs).bind fun e he=>?_
 rcases he with⟨rfl,hV⟩ | ⟨rfl,hV⟩
 case inr=>
  rw [if_pos (by decide)]
  exact Al.ok (.inl ⟨rfl,by decide,.inl hV⟩)
 rw [if_neg (by decide)]
 by_cases h1:c.Phase=1
 ·rw [if_pos (by simpa using h1)]
  exact Al.ok (.inl ⟨rfl,by decide,.inr (.inl h1)⟩)
 rw [if_neg (by simpa using h1)]
 have hO:=Tm hV h1
 refine(Adv c o hV.formed hp).bind fun e he=>?_
 rcases he with⟨rfl,hA⟩ | ⟨he,hA⟩
 case inr=>
  have h0:e≠0:=by omega
  rw [if_pos (by simpa using h0)]
  exact Al.ok (.inl ⟨rfl,h0,.inr (.inr (.inl hA))⟩)
 rw [if_neg (by decide)]
 have hlen:=hs.op
 refine Al.bind (P:=fun r:Int×Bool×List Opening => ∃ n:Nat,r.1=(n:Int)∧n≤c.Openings.length∧(∀ k y,c.Openings[k]? = some y→k<n→Il y o)∧(∀ k y,c.Openings[k]? = some y→n≤k→¬ Il y o) ∧
   ((r.2.1=true∧r.2.2=c.Openings ∧ ∃ y,c.Openings[n]? = some y∧y.Flight=o.Flight∧y.Slot=o.Slot)∨(r.2.1=false∧r.2.2=Aab c.Openings n o∧¬ ∃ y,c.Openings[n]? = some y∧y.Flight=o.Flight∧y.Slot=o.Slot))) ?_ fun r hr=>?_
 ·unfold G8
  refine(Anx c.Openings o (by omega) hO.1).bind fun x hx=>?_
  obtain⟨n,x1,n1,n2,n3,n4⟩:=hx
  refine Al.ite (fun q=>Al.ok ⟨n,x1,n1,n2,n3,.inl ⟨rfl,rfl,n4.1 q⟩⟩) fun q=>?_
  unfold L7
  rw [if_pos (by unfold Bt; omega),R.ok_bind]
  unfold Pv Rd
  rw [x1,if_pos ⟨by omega,by omega,by simp,by simp only [List.length_singleton,Bt]; omega⟩,R.ok_bind,Int.toNat_natCast]
  refine Al.ok ⟨n,x1,n1,n2,n3,.inr ⟨rfl,rfl,fun h=>q (n4.2 h)⟩⟩
 obtain⟨n,r1,n1,n2,n3,n4⟩:=hr
 rcases n4 with⟨b1,b2,y,hy,hk⟩ | ⟨b1,b2,hno⟩
 ·rw [b1,if_pos rfl,r1,Gk hy,R.ok_bind]
  refine(Asc y o).bind fun q hq=>?_
  unfold Mm
  by_cases hyo:y=o
  ·rw [hq.2 hyo,if_neg (by decide),b2]
   subst hyo
   exact Al.ok (.inr ⟨rfl,hV,h1,hA,.inl ⟨List.mem_of_getElem? hy,rfl⟩⟩)
  ·have:q=false:=by
    cases q with
    | false=>rfl
    | true=>exact absurd (hq.1 rfl) hyo
   rw [this,if_pos (by decide)]
   exact Al.ok (.inl ⟨rfl,by simp,.inr (.inr (.inr ⟨y,List.mem_of_getElem? hy,hk.1,hk.2,hyo⟩))⟩)
 ·rw [b1,if_neg (by decide)]
  unfold Mm
  rw [if_neg (by decide),b2]
  refine Al.ok (.inr ⟨rfl,hV,h1,hA,.inr ⟨n,n1,fun y hy=>?_,fun y hy=>?_,rfl⟩⟩)
  ·obtain⟨k,hk,rfl⟩:=List.getElem_of_mem hy
   rw [List.length_take] at hk
   rw [List.getElem_take]
   exact n2 k _ (List.getElem?_eq_getElem (by omega)) (by omega)
  ·obtain⟨k,hk,rfl⟩:=List.getElem_of_mem hy
   rw [List.length_drop] at hk
   rw [List.getElem_drop]
   have hkl:n+k<c.Openings.length:=by omega
   have hget:=List.getElem?_eq_getElem hkl
   refine Aqx _ _ (n3 (n+k) _ hget (by omega)) fun heq=>?_
   rcases Nat.eq_zero_or_pos k with rfl | hkp
   ·exact hno ⟨_,hget,heq⟩
   ·have hnl:n<c.Openings.length:=by omega
    have hlt:=List.pairwise_iff_getElem.1 hO.1 n (n+k) hnl hkl (by omega)
    have hge:=n3 n _ (List.getElem?_eq_getElem hnl) (Nat.le_refl _)
    refine hge ?_
    unfold Il at hlt ⊢
    omega
theorem Aap {l:List Opening}{n:Nat}{o y:Opening}:y ∈ Aab l n o↔y=o∨y ∈ l:=by
 simp only [Aab,List.mem_append,List.mem_singleton]
 constructor
 ·rintro((h | h) | h)
  ·exact .inr (List.mem_of_mem_take h)
  ·exact .inl h
  ·exact .inr (List.mem_of_mem_drop h)
 ·rintro(h | h)
  ·exact .inl (.inr h)
  ·rw [← List.take_append_drop n l,List.mem_append] at h
   rcases h with h | h
   ·exact .inl (.inl h)
   ·exact .inr h
theorem Anu {c:Clearing}{n:Nat}{o:Opening}(hO:R5 c)(hA:V4 c o)(h1 : ∀ y ∈ c.Openings.take n,Il y o)(h2 : ∀ y ∈ c.Openings.drop n,Il o y):R5 { c with Openings:=Aab c.Openings n o }:=by
 refine⟨?_,fun y hy=>?_⟩
 ·show(Aab c.Openings n o).Pairwise Il
  unfold Aab
  rw [List.append_assoc,List.pairwise_append]
  refine⟨hO.1.sublist (List.take_sublist _ _),?_,fun a ha b hb=>?_⟩
  ·rw [List.singleton_append,List.pairwise_cons]
   exact⟨h2,hO.1.sublist (List.drop_sublist _ _)⟩
  ·rw [List.singleton_append,List.mem_cons] at hb
   rcases hb with rfl | hb
   ·exact h1 a ha
   ·exact(h1 a ha).trans (h2 b hb)
 ·show V4 c y
  rcases Aap.1 hy with rfl | hy
  ·exact hA
  ·exact hO.2 y hy
theorem Aqe (c:Clearing)(hs:Sm c):Al (O8 c) fun x=>(x=(exR c,0)∧ValidC c∧Aak c)∨(x.2=401∧ValidC c∧¬ Aak c)∨(x.2=400∧¬ ValidC c):=by
 unfold O8
 refine(Xw c hs).bind fun e he=>?_
 rcases he with⟨rfl,hV⟩ | ⟨rfl,hV⟩
 case inr=>rw [if_pos (by decide)]; exact Al.ok (.inr (.inr ⟨rfl,hV⟩))
 have hfl:=hV.formed.fl; have hsl:=hV.formed.slots
 rw [if_neg (by decide),Adm c hsl (by omega),R.ok_bind]
 by_cases hf:c.Openings.length=c.Flights.length * c.Slots.toNat
 ·rw [if_pos hf,if_pos rfl]; exact Al.ok (.inl ⟨rfl,hV,hf⟩)
 ·rw [if_neg hf,if_neg (by decide)]; exact Al.ok (.inr (.inl ⟨rfl,hV,hf⟩))
def Au2 (c:Clearing)(x:Clearing×Int):Prop:=
 (x.2=400∧¬ ValidC c)∨(x.2=401∧ValidC c∧¬ Aak c) ∨
 (x.2=0∧ValidC c∧Aak c∧((c.Phase≠2∧x.1=c)∨(c.Phase=2 ∧ ∃ y,Jt (exR c)=.ok y∧Aoi (exR c) y∧x.1={ c with Phase:=y.2,Outcome:=y.1 })))
theorem Ah9 (c:Clearing)(hs:Sm c):Al (Ii c) (Au2 c):=by
 unfold Ii
 refine(Aqe c hs).bind fun x hx=>?_
 rcases hx with⟨rfl,hV,hf⟩ | ⟨h,hV,hf⟩ | ⟨h,hV⟩
 ·rw [if_neg (by simp)]
  by_cases h2:c.Phase=2
  ·rw [if_pos (by simpa using h2)]
   obtain⟨y,e,hy⟩:=Ahp (exR c) (show c.Owners.length≤100000 by have:=hV.formed.ow; have:=hV.formed.fl; have:=hV.formed.slots; omega)
   rw [e,R.ok_bind]
   exact Al.ok (.inr (.inr ⟨rfl,hV,hf,.inr ⟨h2,y,e,hy,rfl⟩⟩))
  ·rw [if_neg (by simpa using h2)]
   exact Al.ok (.inr (.inr ⟨rfl,hV,hf,.inl ⟨h2,rfl⟩⟩))
 ·rw [if_pos (by rw [h]; decide)]
  exact Al.ok (.inr (.inl ⟨h,hV,hf⟩))
 ·rw [if_pos (by rw [h]; decide)]
  exact Al.ok (.inl ⟨h,hV⟩)
theorem Ak8 {c:Clearing}{y:List Int×Int}(hV:ValidC c)(hf:Aak c)(h2:c.Phase=2)(e:Jt (exR c)=.ok y)(hy:Aoi (exR c) y):ValidC { c with Phase:=y.2,Outcome:=y.1 }:=by
 have hF':Formed { c with Phase:=y.2,Outcome:=y.1 }:=hV.formed.same rfl rfl rfl rfl rfl
 rcases hV.phase with⟨h,_⟩ | ⟨k1,k2,k3,k4⟩ | ⟨h,_⟩
 ·omega
 ·refine⟨hF',.inr (.inr ⟨?_,k2,k3,hf,e⟩)⟩
  rcases hy with⟨h,_⟩ | ⟨h,_⟩
  ·exact .inl h
  ·exact .inr h
 ·omega
theorem Ajd (a b:List Int):Al (Fv a b) fun r=>(r=true↔a=b):=by
 unfold Fv
 refine Al.ite (fun q=>Al.ok ⟨fun e=>absurd e (by decide),fun e=>by subst e; simp at q⟩) fun q=>?_
 refine Ac9 a b (by have this:¬ ((a.length:Int)≠(b.length:Int)):=(by simpa using q); omega) fun j x y hj=>?_
 unfold L1
 rw [Gk hj,R.ok_bind]
 by_cases h:x=y
 ·rw [if_neg (by simpa using h),if_pos h]
 ·rw [if_pos (by simpa using h),if_neg h]
theorem Ao8 (a b:List (Vector Int 32)):Al (Ti a b) fun r=>(r=true↔a=b):=by
 unfold Ti
 refine Al.ite (fun q=>Al.ok ⟨fun e=>absurd e (by decide),fun e=>by subst e; simp at q⟩) fun q=>?_
 refine Ac9 a b (by have this:¬ ((a.length:Int)≠(b.length:Int)):=(by simpa using q); omega) fun j x y hj=>?_
 unfold P5
 rw [Gk hj,R.ok_bind]
 by_cases h:x=y
 ·rw [if_pos (by simpa using h),if_pos h]
 ·rw [if_neg (by simpa using h),if_neg h]
theorem Apw (a b:Opening):Al (Ly a b) fun r=>(r=true↔a=b):=by
 unfold Ly
 by_cases h:a.Airline=b.Airline∧a.Flight=b.Flight∧a.Slot=b.Slot∧a.Cost=b.Cost∧a.Salt=b.Salt
 ·obtain⟨h1,h2,h3,h4,h5⟩:=h
  rw [if_pos (by simp [h1,h2,h3,h4,h5])]
  refine Al.bind ((Ao8 a.Path b.Path).bind fun r hr=>Al.ok hr) fun r hr=>Al.ok ?_
  rw [hr]
  obtain⟨a1,a2,a3,a4,a5,a6⟩:=a
  obtain⟨b1,b2,b3,b4,b5,b6⟩:=b
  simp only at h1 h2 h3 h4 h5
  subst h1 h2 h3 h4 h5
  simp
 ·rw [if_neg (fun q=>h (by
   simp only [Bool.and_eq_true,beq_iff_eq] at q
   obtain⟨⟨⟨⟨q1,q2⟩,q3⟩,q4⟩,q5⟩:=q
   exact⟨q1,q2,q3,q4,q5⟩))]
  exact Al.ok ⟨fun e=>absurd e (by decide),fun e=>absurd (by subst e; exact⟨rfl,rfl,rfl,rfl,rfl⟩) h⟩
theorem Xz {α:Type}{b:Nat→α→Unit→R (Unit ⊕ Bool)}(l:List α)(hb : ∀ (j:Nat) a,l[j]? = some a→b j a ()=.ok (.inl ())):each b 0 l ()=.ok (.inl ()):=by
 have:=Ajj (b:=b) l 0 (fun j a h=>by rw [Nat.zero_add]; exact hb j a h)
 exact this
theorem X6 (a:Clearing):Ob a a=.ok true:=by
 have hi : ∀ l,Fv l l=.ok true:=fun l=>Al.eq ((Ajd l l).mono fun r hr=>hr.2 rfl)
 unfold Ob
 rw [if_neg (by simp),hi]
 simp only [R.ok_bind,Bool.not_true,Bool.false_eq_true,if_false,hi,Bool.false_or]
 rw [if_neg (by simp)]
 simp only [R.ok_bind,Bool.false_eq_true,if_false]
 rw [Xz a.Commitments fun j d h=>by
  unfold P6
  rw [Gk h,R.ok_bind,if_pos (by simp)]]
 simp only [R.ok_bind]
 rw [Xz a.Openings fun j o h=>by
  unfold Nw
  rw [Gk h,R.ok_bind,Al.eq ((Apw o o).mono fun r hr=>hr.2 rfl),R.ok_bind,if_pos rfl]]
 rfl
end Go.Am
namespace Go.Am
open Go
set_option linter.unusedVariables false
set_option linter.unusedSimpArgs false
theorem Anq {c:Clearing}{o:Opening}(hs:Sm c)(hp:o.Path.length≤1000)(hV:ValidC c)(h1:c.Phase≠1)(hA:V4 c o)(hm:o ∈ c.Openings):Jn c o=.ok (c,0):=by
 have hO:=Tm hV h1
 have hkey : ∀ y ∈ c.Openings,y.Flight=o.Flight→y.Slot=o.Slot→y=o:=fun y hy e1 e2=>by
  obtain⟨i,hi,rfl⟩:=List.getElem_of_mem hy
  obtain⟨j,hj,rfl⟩:=List.getElem_of_mem hm
  rcases Nat.lt_trichotomy i j with h | h | h
  ·have:=List.pairwise_iff_getElem.1 hO.1 i j hi hj h; unfold Il at this; omega
  ·subst h; rfl
  ·have:=List.pairwise_iff_getElem.1 hO.1 j i hj hi h; unfold Il at this; omega
 refine Al.eq ((Ai9 c o hs hp).mono fun x hx=>?_)
 rcases hx with⟨_,_,h | h | h | ⟨y,hy,e1,e2,e3⟩⟩ | ⟨h0,_,_,_,h | ⟨n,n1,n2,n3,h⟩⟩
 ·exact absurd hV h
 ·exact absurd h h1
 ·exact absurd hA h
 ·exact absurd (hkey y hy e1 e2) e3
 ·exact Prod.ext h.2 h0
 ·exfalso
  rw [← List.take_append_drop n c.Openings,List.mem_append] at hm
  rcases hm with hm | hm
  ·have:=n2 o hm; unfold Il at this; omega
  ·have:=n3 o hm; unfold Il at this; omega
theorem Uw {α β:Type}{l:List α}{n:Int}{f:α→R β}{Q:β→Prop}(h0:0≤n)(h1:n<(l.length:Int))(k : ∀ a,l[n.toNat]? = some a→Al (f a) Q):Al ((idx l n).bind f) Q:=(Al.idx (P:=fun a=>l[n.toNat]? = some a) h0 h1 fun _ h=>h).bind k
theorem Aia {l:List Int}{v:Int}(hs:l.Pairwise (· < ·)){i:Nat}(hi:l[i]? = some v):E7 l v=(i:Int):=by
 have hm:v ∈ l:=List.mem_of_getElem? hi
 have h0:=K4.2 hm
 have hg:=Uk h0
 have h1:=(List.getElem?_eq_some_iff.1 hi)
 have h2:=(List.getElem?_eq_some_iff.1 hg)
 obtain⟨q1,e1⟩:=h1
 obtain⟨q2,e2⟩:=h2
 rcases Nat.lt_trichotomy i (E7 l v).toNat with h | h | h
 ·have:=List.pairwise_iff_getElem.1 hs i _ q1 q2 h; omega
 ·omega
 ·have:=List.pairwise_iff_getElem.1 hs _ i q2 q1 h; omega
end Go.Am
namespace Go.Am
open Go
set_option linter.unusedVariables false
set_option linter.unusedSimpArgs false
abbrev Dg:=Vector Int 32
noncomputable def Nz:Nat→List Dg→Dg
 | 0,l=>Zp (l.headD zD)
 | f+1,l=>if(l.length:Int) > 1 then Afa (Nz f (l.take (Dx l.length).toNat)) (Nz f (l.drop (Dx l.length).toNat)) else Zp (l.headD zD)
noncomputable def Ma (l:List Dg):Dg:=Nz 8 l
theorem Up (l:List Dg)(h1:(l.length:Int) > 1)(h2:l.length≤8) : ∃ n:Nat,Dx l.length=(n:Int)∧1≤n∧n<l.length:=by
 have:=Abv l.length (by omega) (by omega)
 exact⟨(Dx l.length).toNat,by omega,by omega,by omega⟩
theorem Akk : ∀ (f:Nat) (l:List Dg) (q:Nat),1≤l.length→l.length≤8→l.length≤f+1→f<q→Nq q l=.ok (Nz f l)
 | f,l,0,h1,h2,h3,h4=>absurd h4 (Nat.not_lt_zero _)
 | f,l,q+1,h1,h2,h3,h4=>by
  rw [Nq]
  unfold Sg
  rw [if_neg (by simp only [beq_iff_eq]; omega)]
  by_cases hl:(l.length:Int) > 1
  case neg=>
   have h0:l.length=1:=by omega
   obtain⟨a,rfl⟩:=List.length_eq_one_iff.1 h0
   rw [if_pos (by simp)]
   have:Nz f [a]=Zp a:=by
    cases f with
    | zero=>rfl
    | succ f=>unfold Nz; rw [if_neg (by simp)]; rfl
   rw [this]
   show(R.bind (idx [a] 0) _)=_
   rw [show idx [a] 0=.ok a from rfl,R.ok_bind,Amm]
   rfl
  obtain⟨n,hn,n1,n2⟩:=Up l hl h2
  rw [if_neg (by simp only [beq_iff_eq]; omega),Ahc _ (by omega) (by omega),R.ok_bind,hn,if_pos (by omega),if_pos (by omega),Int.toNat_natCast]
  cases f with
  | zero=>omega
  | succ f=>
   rw [Akk f (l.take n) q (by rw [List.length_take]; omega) (by rw [List.length_take]; omega) (by rw [List.length_take]; omega) (by omega),R.ok_bind,
    Akk f (l.drop n) q (by rw [List.length_drop]; omega) (by rw [List.length_drop]; omega) (by rw [List.length_drop]; omega) (by omega),R.ok_bind,Amr,R.ok_bind]
   rw [Nz,if_pos hl,hn,Int.toNat_natCast]
theorem Ac3 (l:List Dg)(h1:1≤l.length)(h2:l.length≤8):Qj l=.ok (Ma l):=Akk 8 l Sn h1 h2 (by omega) (by rw [Ac0]; omega)
noncomputable def Q7:Nat→List Dg→Int→List Dg
 | 0,_,_=>[]
 | f+1,l,a=>if(l.length:Int) > 1 then(if a<Dx l.length then Ma (l.drop (Dx l.length).toNat)::Q7 f (l.take (Dx l.length).toNat) a else Ma (l.take (Dx l.length).toNat)::Q7 f (l.drop (Dx l.length).toNat) (a - Dx l.length)) else []
theorem Ady : ∀ (f:Nat) (l:List Dg) (a:Int),(Q7 f l a).length≤f
 | 0,_,_=>Nat.le_refl _
 | f+1,l,a=>by
  unfold Q7
  split
  ·split
   ·have:=Ady f (l.take (Dx l.length).toNat) a; simp only [List.length_cons]; omega
   ·have:=Ady f (l.drop (Dx l.length).toNat) (a - Dx l.length); simp only [List.length_cons]; omega
  ·simp
theorem Wd : ∀ (f g:Nat) (l:List Dg),l.length≤8→l.length≤f+1→l.length≤g+1→Nz f l=Nz g l
 | 0,0,l,_,_,_=>rfl
 | 0,g+1,l,_,h,_=>by rw [Nz,Nz,if_neg (by omega)]
 | f+1,0,l,_,_,h=>by rw [Nz,Nz,if_neg (by omega)]
 | f+1,g+1,l,h0,h1,h2=>by
  rw [Nz,Nz]
  by_cases hl:(l.length:Int) > 1
  ·obtain⟨n,hn,n1,n2⟩:=Up l hl h0
   rw [if_pos hl,if_pos hl,hn,Int.toNat_natCast,Wd f g (l.take n) (by rw [List.length_take]; omega) (by rw [List.length_take]; omega) (by rw [List.length_take]; omega),Wd f g (l.drop n) (by rw [List.length_drop]; omega) (by rw [List.length_drop]; omega) (by rw [List.length_drop]; omega)]
  ·rw [if_neg hl,if_neg hl]
theorem Ano (l:List Dg)(hl:(l.length:Int) > 1)(h8:l.length≤8):Ma l=Afa (Ma (l.take (Dx l.length).toNat)) (Ma (l.drop (Dx l.length).toNat)):=by
 obtain⟨n,hn,n1,n2⟩:=Up l hl h8
 rw [Ma,Nz,if_pos hl,hn,Int.toNat_natCast,Ma,Ma,Wd 7 8 (l.take n) (by rw [List.length_take]; omega) (by rw [List.length_take]; omega) (by rw [List.length_take]; omega),Wd 7 8 (l.drop n) (by rw [List.length_drop]; omega) (by rw [List.length_drop]; omega) (by rw [List.length_drop]; omega)]
theorem Ap5 (a:Dg):Ma [a]=Zp a:=by rw [Ma,Nz,if_neg (by simp)]; rfl
theorem Aeh : ∀ (f:Nat) (l:List Dg) (a:Nat) (x:Dg),l.length≤8→l.length≤f+1→l[a]? = some x →
  (Q7 f l a).length=(Cq f a l.length).length∧((Q7 f l a).zip (Cq f a l.length)).foldr (fun q acc=>up1 acc q) (Zp x)=Ma l
 | f,l,a,x,h0,h1,hx=>by
  have ha:=Au hx
  by_cases hl:(l.length:Int) > 1
  case neg=>
   have h01:l.length=1:=by omega
   obtain⟨b,rfl⟩:=List.length_eq_one_iff.1 h01
   have:a=0:=by simpa using ha
   subst this
   have:b=x:=by simpa using hx
   subst this
   rw [Ap5]
   cases f with
   | zero=>exact⟨rfl,rfl⟩
   | succ f=>
    rw [Q7,if_neg hl,Cq,if_neg hl]
    exact⟨rfl,rfl⟩
  cases f with
  | zero=>omega
  | succ f=>
   obtain⟨n,hn,n1,n2⟩:=Up l hl h0
   rw [Q7,if_pos hl,Cq,if_pos hl,Ano l hl h0,hn,Int.toNat_natCast]
   by_cases hq:a<n
   ·have hq':(a:Int)<(n:Int):=by omega
    have e:((n:Nat):Int)=((l.take n).length:Int):=by rw [List.length_take]; omega
    have ih:=Aeh f (l.take n) a x (by rw [List.length_take]; omega) (by rw [List.length_take]; omega) (by rw [List.getElem?_take,if_pos hq]; exact hx)
    rw [← e] at ih
    rw [if_pos hq',if_pos hq',decide_eq_true hq']
    refine⟨by simp only [List.length_cons,ih.1],?_⟩
    rw [List.zip_cons_cons,List.foldr_cons,ih.2]
    rfl
   ·have hq':¬ (a:Int)<(n:Int):=by omega
    have e:((l.length:Nat):Int) - (n:Int)=((l.drop n).length:Int):=by rw [List.length_drop]; omega
    have e2:(a:Int) - (n:Int)=((a - n:Nat):Int):=by omega
    have ih:=Aeh f (l.drop n) (a - n) x (by rw [List.length_drop]; omega) (by rw [List.length_drop]; omega) (by rw [List.getElem?_drop,show n+(a - n)=a by omega]; exact hx)
    rw [← e,← e2] at ih
    rw [if_neg hq',if_neg hq',decide_eq_false hq']
    refine⟨by simp only [List.length_cons,ih.1],?_⟩
    rw [List.zip_cons_cons,List.foldr_cons,ih.2]
    rfl
noncomputable def U6 (l:List Dg)(a:Int):List Dg:=(Q7 8 l a).reverse
theorem Amh (l:List Dg)(a:Nat)(x:Dg)(h0:l.length≤8)(hx:l[a]? = some x):(U6 l a).length=(Cq 8 a l.length).length∧Lh x (Cq 8 a l.length) (U6 l a)=Ma l:=by
 obtain⟨h1,h2⟩:=Aeh 8 l a x h0 (by omega) hx
 refine⟨by rw [U6,List.length_reverse,h1],?_⟩
 rw [Lh,U6,show(Q7 8 l a).reverse.zip (Cq 8 a l.length).reverse=((Q7 8 l a).zip (Cq 8 a l.length)).reverse from(List.reverse_zipWith h1).symm,List.foldl_reverse]
 exact h2
theorem Asq (l:List Dg)(a:Int)(p:List Dg)(hl:¬ (l.length:Int) > 1):Gr l a p=.ok (.inr p):=by unfold Gr; rw [if_neg hl]
theorem Atk (l:List Dg)(a:Int)(p:List Dg)(n:Nat)(h1:0≤a)(h2:a<(l.length:Int))(h3:l.length≤8)(hl:(l.length:Int) > 1)(hn:Dx l.length=(n:Int))(n1:1≤n)(n2:n<l.length)(h5:p.length≤100) :
  Gr l a p=.ok (.inl (if a<(n:Int) then(l.take n,a,p++[Ma (l.drop n)]) else(l.drop n,a - n,p++[Ma (l.take n)]))):=by
 unfold Gr
 rw [if_pos hl,Ahc _ (by omega) (by omega),R.ok_bind,hn,Int.toNat_natCast]
 by_cases hq:a<(n:Int)
 ·rw [if_pos hq,if_pos (by omega),if_pos (by omega),Ac3 _ (by rw [List.length_drop]; omega) (by rw [List.length_drop]; omega),R.ok_bind,if_pos (by simp only [List.length_singleton,Bt]; omega),if_pos hq]
 ·rw [if_neg hq,if_pos (by omega),if_pos (by omega),Ac3 _ (by rw [List.length_take]; omega) (by rw [List.length_take]; omega),R.ok_bind,if_pos (by simp only [List.length_singleton,Bt]; omega),if_neg hq,G3 (by omega) (by omega)]
theorem Acm : ∀ (f:Nat) (l:List Dg) (a:Int) (p:List Dg),0≤a→a<(l.length:Int)→l.length≤8→l.length≤f+1→p.length+f≤100 →
  loop (Nj fun l1 vat1 p=>Gr l1 vat1 p) (l,a,p)=.ok (p++Q7 f l a)
 | f,l,a,p,h1,h2,h3,h4,h5=>by
  rw [Agw]
  show((Gr l a p).bind _)=_
  by_cases hl:(l.length:Int) > 1
  case neg=>
   rw [Asq l a p hl]
   cases f with
   | zero=>simp [R.bind,Q7]
   | succ f=>rw [Q7,if_neg hl]; simp [R.bind]
  cases f with
  | zero=>omega
  | succ f=>
   obtain⟨n,hn,n1,n2⟩:=Up l hl h3
   rw [Atk l a p n h1 h2 h3 hl hn n1 n2 (by omega),R.ok_bind,Q7,if_pos hl,hn,Int.toNat_natCast]
   by_cases hq:a<(n:Int)
   ·rw [if_pos hq,if_pos hq]
    simp only
    rw [Acm f (l.take n) a _ h1 (by rw [List.length_take]; omega) (by rw [List.length_take]; omega) (by rw [List.length_take]; omega) (by simp only [List.length_append,List.length_singleton]; omega),List.append_assoc]
    rfl
   ·rw [if_neg hq,if_neg hq]
    simp only
    rw [Acm f (l.drop n) (a - n) _ (by omega) (by rw [List.length_drop]; omega) (by rw [List.length_drop]; omega) (by rw [List.length_drop]; omega) (by simp only [List.length_append,List.length_singleton]; omega),List.append_assoc]
    rfl
theorem Ac8 {σ ε:Type}{b:σ→R (σ ⊕ ε)}{s:σ}{x:ε}(n:Nat)(h:Ge b n s=.ok x):loop b s=.ok x:=by rw [Sw (n:=n) (by rw [h]; simp),h]
theorem Axx (p:List Dg)(h:p.length≤3):Gb p=.ok p.reverse:=by
 unfold Gb
 match p,h with
 | [],_=>rw [Ac8 (x:=[]) 1 rfl]; rfl
 | [a],_=>rw [Ac8 (x:=[a]) 1 rfl]; rfl
 | [a,b],_=>rw [Ac8 (x:=[b,a]) 2 rfl]; rfl
 | [a,b,c],_=>rw [Ac8 (x:=[c,b,a]) 2 rfl]; rfl
 | _::_::_::_::_,h=>simp at h
theorem Acj : ∀ (f:Nat) (l:List Dg) (a:Int),l.length≤8→(Q7 f l a).length≤(if l.length≤1 then 0 else if l.length≤2 then 1 else if l.length≤4 then 2 else 3)
 | 0,l,a,h=>Nat.zero_le _
 | f+1,l,a,h=>by
  unfold Q7
  by_cases hl:(l.length:Int) > 1
  case neg=>rw [if_neg hl]; exact Nat.zero_le _
  obtain⟨n,hn,n1,n2⟩:=Up l hl h
  have hv:(n:Int)=if(l.length:Int)≤2 then 1 else if(l.length:Int)≤4 then 2 else 4:=by rw [← hn]; rfl
  rw [if_pos hl,hn,Int.toNat_natCast]
  have h1:=Acj f (l.take n) a (by rw [List.length_take]; omega)
  have h2:=Acj f (l.drop n) (a - n) (by rw [List.length_drop]; omega)
  rw [List.length_take] at h1
  rw [List.length_drop] at h2
  split <;> simp only [List.length_cons]
  ·split at h1 <;> (try split at h1) <;> (try split at h1) <;> split at hv <;> (try split at hv) <;> split <;> (try split) <;> (try split) <;> omega
  ·split at h2 <;> (try split at h2) <;> (try split at h2) <;> split at hv <;> (try split at hv) <;> split <;> (try split) <;> (try split) <;> omega
theorem Amz (l:List Dg)(a:Int)(h1:0≤a)(h2:a<(l.length:Int))(h3:l.length≤8):Qi l a=.ok (U6 l a,0):=by
 unfold Qi
 rw [if_neg (by simp only [Bool.or_eq_true,decide_eq_true_eq]; omega),Acm 8 l a [] h1 h2 h3 (by omega) (by decide),R.ok_bind,List.nil_append]
 unfold Pb
 have:=Acj 8 l a h3
 rw [Axx _ (by split at this <;> (try split at this) <;> (try split at this) <;> omega)]
 rfl
theorem Xp (l:List Dg)(a:Int):(U6 l a).length≤8:=by rw [U6,List.length_reverse]; exact Ady 8 l a
theorem Ap6 (a b:List Dg)(h:a.length+b.length≤1000):Hk [a,b]=.ok (a++b):=by
 unfold Hk
 have e1:eachS (fun _ a=>fun size=>Ga a size) 0 [a,b] 0=.ok ((a.length:Int)+(b.length:Int)):=by
  simp only [K7,N4,Ga]
  rw [G3 (n:=0+(a.length:Int)) (by omega) (by omega),if_neg (by omega)]
  simp only [R.bind]
  rw [G3 (by omega) (by omega),if_neg (by omega)]
  simp
 rw [e1]
 simp only [R.bind]
 have e2:Gh ((a.length:Int)+(b.length:Int))=.ok []:=by
  unfold Gh
  rw [if_neg (by omega),G3 (by omega) (by omega)]
  by_cases h0:(a.length:Int)+(b.length:Int) - 0 > 0
  ·rw [if_pos h0,if_pos ⟨by omega,by unfold Bt; omega⟩,if_pos ⟨by decide,by omega⟩]; rfl
  ·rw [if_neg h0]
 rw [e2]
 simp only [R.bind,K7,N4,F9]
 rw [if_pos (by simp only [List.length_nil,Bt]; omega)]
 simp only [R.bind,List.nil_append]
 rw [if_pos (by unfold Bt; omega)]
end Go.Am
namespace Go.Am
open Go
set_option linter.unusedVariables false
set_option linter.unusedSimpArgs false
structure T1 (a S:Int)(t:Table):Prop where
 kn:Aft t.Airline t.Flight
 al:t.Airline=a
 len:(t.Costs.length:Int)=S
 cost : ∀ c ∈ t.Costs,-1≤c∧c≤1048576
structure TOk (a S:Int)(l:List Table):Prop where
 s:1≤S∧S≤8
 len:1≤l.length∧l.length≤8
 each : ∀ t ∈ l,T1 a S t
 lt:l.Pairwise fun x y=>x.Flight<y.Flight
theorem Aqd {a S:Int}{t:Table}(h:T1 a S t)(hS:1≤S∧S≤8):Mx t=.ok 0:=by
 unfold Mx
 have hk:=h.kn
 have hl:=h.len
 rw [Ua,R.ok_bind,decide_eq_true (by exact hk),if_neg (by simp only [Bool.not_true,Bool.false_or,Bool.or_eq_true,decide_eq_true_eq]; omega)]
 have e:Gi t.Costs=.ok false:=by
  unfold Gi Kh
  have:=Agm (b:=fun j a=>fun _=>Fb j a) (p:=fun c => !decide (-1≤c∧c≤1048576)) (fun j c=>by
   unfold Fb Nb
   rw [Vn]
   rfl) t.Costs 0
  rw [this]
  have hn:t.Costs.findIdx? (fun c => !decide (-1≤c∧c≤1048576))=none:=by
   rw [List.findIdx?_eq_none_iff]
   intro c hc
   have:=h.cost c hc
   simp [this]
  rw [hn]
  rfl
 rw [e]
 rfl
theorem Ajv {a S:Int}{l:List Table}(h:TOk a S l):K0 l=.ok true:=by
 unfold K0
 have hl:=h.len
 rw [if_neg (by simp only [Bool.or_eq_true,decide_eq_true_eq]; omega)]
 have h0:0<l.length:=by omega
 rw [Xz l (fun j t hj=>?_)]
 ·rfl
 have ht:=List.mem_of_getElem? hj
 have hjl:=Au hj
 have t0:=h.each _ (List.getElem_mem h0)
 have tj:=h.each _ ht
 unfold Kp
 rw [Aqd tj h.s,R.ok_bind,if_neg (by simp),show idx l 0=.ok l[0] from Gk (List.getElem?_eq_getElem h0),R.ok_bind,if_neg (by simp [tj.al,t0.al]),if_neg (by simp only [bne_iff_ne]; have:=tj.len; have:=t0.len; omega)]
 by_cases hj0:j=0
 ·subst hj0
  rw [if_neg (by simp)]
  rfl
 rw [if_pos (by simp; omega),G3 (by omega) (by omega),show(j:Int) - 1=((j - 1:Nat):Int) by omega,Gk (List.getElem?_eq_getElem (show j - 1<l.length by omega)),R.ok_bind]
 have hlt:=(List.pairwise_iff_getElem.1 h.lt) (j - 1) j (by omega) hjl (by omega)
 have e:l[j]=t:=by
  have:=List.getElem?_eq_getElem hjl
  rw [hj] at this
  exact(Option.some.inj this).symm
 rw [e] at hlt
 rw [decide_eq_false (by omega)]
 rfl
noncomputable def Mn (t:Table):List Dg:=t.Costs.mapIdx fun i c=>R4 t.Salt [t.Airline,t.Flight,(i:Int),c]
theorem Qm (t:Table):(Mn t).length=t.Costs.length:=by simp [Mn]
theorem Ah4 {α β:Type}{b:Nat→α→List β→R (List β)}{f:Nat→α→β}{c:Nat}(hb : ∀ j a s,b j a s=if(s.length+1) * c≤Bt then .ok (s++[f j a]) else .bad) :
  ∀ (l:List α) (k:Nat) (s:List β),(s.length+l.length) * c≤Bt→eachS b k l s=.ok (s++l.mapIdx fun i a=>f (k+i) a)
 | [],k,s,_=>by simp [N4]
 | a::l,k,s,h=>by
  have h1:(s.length+1) * c≤Bt:=Nat.le_trans (Nat.mul_le_mul_right _ (by simp)) h
  rw [K7,hb,if_pos h1,R.ok_bind,Ah4 hb l (k+1) (s++[f k a]) (by simpa [Nat.add_assoc,Nat.add_comm 1] using h)]
  simp [List.mapIdx_cons,Nat.add_assoc,Nat.add_comm 1]
theorem Ahu (t:Table)(h:t.Costs.length≤8):Ka t=.ok (Mn t):=by
 unfold Ka Km Ju
 rw [R.ok_bind]
 have:=Ah4 (b:=fun j a=>fun s=>F8 t (fun a z_=>R.np ((fun l=>J0 a l) z_)) j a s) (f:=fun j a=>R4 t.Salt [t.Airline,t.Flight,(j:Int),a]) (c:=32) (fun j a s=>by
  unfold F8 J0
  rw [Aj0 _ _ (by simp),R.ok_bind]
  simp only [List.length_singleton]
  split <;> rfl) t.Costs 0 [] (by simp only [List.length_nil,Bt]; omega)
 rw [this]
 simp only [R.ok_bind,List.nil_append,Nat.zero_add]
 rfl
noncomputable def Rj (l:List Table):List Dg:=l.map fun t=>Ma (Mn t)
theorem Afb {a S:Int}{l:List Table}(h:TOk a S l):Hb l=.ok (Rj l):=by
 unfold Hb
 have hS:=h.s
 have key : ∀ (q:List Table) (k:Nat) (s:List Dg),(∀ t ∈ q,T1 a S t)→s.length+q.length≤100→eachS (fun _ a=>fun d=>Fs a d) k q s=.ok (s++Rj q):=by
  intro q
  induction q with
  | nil=>intro k s _ _; simp [N4,Rj]
  | cons t q ih=>
   intro k s hq hl
   have ht:=(hq t (List.mem_cons_self ..)).len
   simp only [List.length_cons] at hl
   rw [K7]
   unfold Fs
   rw [Ahu t (by omega),R.ok_bind,Ac3 _ (by rw [Qm]; omega) (by rw [Qm]; omega),R.ok_bind,if_pos (by simp only [List.length_singleton,Bt]; omega),R.ok_bind]
   have:=ih (k+1) (s++[Ma (Mn t)]) (fun x hx=>hq x (List.mem_cons_of_mem _ hx)) (by simp only [List.length_append,List.length_singleton]; omega)
   unfold Fs at this
   rw [this]
   simp [Rj]
 rw [key l 0 [] h.each (by have:=h.len; simp only [List.length_nil]; omega)]
 rfl
noncomputable def Hu (l:List Table):Dg:=Ma (Rj l)
theorem Sy (l:List Table):(Rj l).length=l.length:=by simp [Rj]
theorem Aba {a S:Int}{l:List Table}(h:TOk a S l):Gs l=.ok (Hu l,0):=by
 unfold Gs
 have hl:=h.len
 rw [Ajv h,R.ok_bind,if_pos rfl,Afb h,R.ok_bind,Ac3 _ (by rw [Sy]; omega) (by rw [Sy]; omega)]
 rfl
noncomputable def Ps (l:List Table)(t:Table)(i:Nat)(s:Nat):Opening:=
 { Airline:=t.Airline,Flight:=t.Flight,Slot:=s,Cost:=t.Costs.getD s 0,Salt:=t.Salt,Path:=U6 (Mn t) s++U6 (Rj l) i }
theorem Ama {a S:Int}{l:List Table}(h:TOk a S l){i s:Nat}{t:Table}(hi:l[i]? = some t)(hs:(s:Int)<S):J1 l (i:Int) (s:Int)=.ok (Ps l t i s,0):=by
 have hl:=h.len; have hil:=Au hi; have hS:=h.s
 have h0:0<l.length:=by omega
 have t0:=h.each _ (List.getElem_mem h0)
 have tj:=h.each _ (List.mem_of_getElem? hi)
 have hc:=tj.len; have hc0:=t0.len
 unfold J1
 rw [Ajv h,R.ok_bind,if_neg (by simp only [Bool.not_true,Bool.false_or,Bool.or_eq_true,decide_eq_true_eq]; omega),show idx l 0=.ok l[0] from Gk (List.getElem?_eq_getElem h0),R.ok_bind,R.ok_bind,decide_eq_false (by omega),if_neg (by simp),Gk hi,R.ok_bind,Ahu t (by omega),R.ok_bind,
  Amz _ _ (by omega) (by rw [Qm]; omega) (by rw [Qm]; omega),R.ok_bind,Afb h,R.ok_bind,Amz _ _ (by omega) (by rw [Sy]; omega) (by rw [Sy]; omega),R.ok_bind]
 have hsl:s<t.Costs.length:=by omega
 rw [Gk (List.getElem?_eq_getElem hsl),R.ok_bind]
 have l1:=Xp (Mn t) s; have l2:=Xp (Rj l) i
 simp only
 rw [Ap6 _ _ (by omega),R.ok_bind]
 congr 2
 unfold Ps
 simp [List.getD,hsl]
theorem Aps (l:List Table)(t:Table)(i s:Nat):(Ps l t i s).Path.length≤16:=by
 have l1:=Xp (Mn t) s; have l2:=Xp (Rj l) i
 simp only [Ps,List.length_append]; omega
theorem Ap3 {a S:Int}{l:List Table}(h:TOk a S l){i s:Nat}{t:Table}(hi:l[i]? = some t)(hs:(s:Int)<S):Wm (Hu l) a (l.length:Int) S (Ps l t i s):=by
 have hl:=h.len; have hil:=Au hi; have hS:=h.s
 have tj:=h.each _ (List.mem_of_getElem? hi)
 have hc:=tj.len
 have hsl:s<t.Costs.length:=by omega
 have hgd:t.Costs.getD s 0=t.Costs[s]:=by simp [List.getD,hsl]
 have hcost:=tj.cost _ (List.getElem_mem hsl)
 have hleaf:(Mn t)[s]? = some (R4 t.Salt [t.Airline,t.Flight,(s:Int),t.Costs.getD s 0]):=by
  rw [hgd]; simp [Mn,hsl]
 obtain⟨p1,p2⟩:=Amh (Mn t) s _ (by rw [Qm]; omega) hleaf
 have hdig:(Rj l)[i]? = some (Ma (Mn t)):=by simp [Rj,hi]
 obtain⟨q1,q2⟩:=Amh (Rj l) i _ (by rw [Sy]; omega) hdig
 rw [Qm,hc] at p1 p2
 rw [Sy] at q1 q2
 refine⟨by omega,by omega,by omega,by omega,tj.al,tj.kn,by show(0:Int)≤(s:Int); omega,by show(s:Int)<S; omega,by show -1≤t.Costs.getD s 0∧t.Costs.getD s 0≤1048576; rw [hgd]; exact hcost,(U6 (Mn t) s).length,?_,?_,(i:Int),by omega,by omega,?_,?_⟩
 ·simp [Ps]
 ·simp only [Ps,List.take_left']
  exact p1
 ·simp only [Ps,List.drop_left']
  exact q1
 ·simp only [Ps,List.take_left',List.drop_left']
  rw [p2,q2]
  rfl
end Go.Am
namespace Go.Am
open Go
set_option linter.unusedVariables false
set_option linter.unusedSimpArgs false
def Cv (T:List Table)(a:Int):List Table:=T.filter fun t=>t.Airline==a
structure MIs (M:List (Int×List Table))(T:List Table):Prop where
 get : ∀ a,Bv M a=if Cv T a=[] then none else some (Cv T a)
 nd:(M.map (·.1)).Nodup
theorem MIs.getD {M:List (Int×List Table)}{T:List Table}(h:MIs M T)(a:Int):Option.getD (Bv M a) []=Cv T a:=by
 rw [h.get]
 split
 ·rename_i e; rw [e]; rfl
 ·rfl
theorem Aj7 {K V:Type}[DecidableEq K] : ∀ {M:List (K×V)} {k:K} {v:V},(M.map (·.1)).Nodup→(k,v) ∈ M→Bv M k=some v
 | [],k,v,_,h=>by cases h
 | p::M,k,v,hn,h=>by
  rw [So]
  rw [List.map_cons,List.nodup_cons] at hn
  rcases List.mem_cons.1 h with rfl | h
  ·rw [if_pos rfl]
  ·rw [if_neg (fun e=>hn.1 (by rw [e]; exact List.mem_map.2 ⟨_,h,rfl⟩))]
   exact Aj7 hn.2 h
theorem MIs.mem {M:List (Int×List Table)}{T:List Table}(h:MIs M T){e:Int×List Table}(he:e ∈ M):e.2=Cv T e.1∧Cv T e.1≠[]:=by
 have h1:=Aj7 (k:=e.1) (v:=e.2) h.nd he
 rw [h.get] at h1
 split at h1
 ·cases h1
 ·exact⟨(Option.some.inj h1).symm,‹_›⟩
theorem Ah3 {K V:Type}[DecidableEq K] : ∀ (M:List (K×V)) (k:K) (v:V),(H3 M k v).map (·.1)=if k ∈ M.map (·.1) then M.map (·.1) else M.map (·.1)++[k]
 | [],k,v=>rfl
 | p::M,k,v=>by
  rw [H3]
  by_cases h:p.1=k
  ·rw [if_pos (by simpa using h),if_pos (by simp [h])]
   simp [h]
  ·rw [if_neg (by simpa using h),List.map_cons,Ah3 M k v]
   have:(k ∈ (p::M).map (·.1))↔k ∈ M.map (·.1):=by
    rw [List.map_cons,List.mem_cons]
    exact⟨fun q=>q.resolve_left fun e=>h e.symm,.inr⟩
   by_cases h':k ∈ M.map (·.1)
   ·rw [if_pos h',if_pos (this.2 h')]; rfl
   ·rw [if_neg h',if_neg (fun q=>h' (this.1 q))]; rfl
theorem MIs.put {M:List (Int×List Table)}{T:List Table}(h:MIs M T)(t:Table):MIs (H3 M t.Airline (Option.getD (Bv M t.Airline) []++[t])) (T++[t]):=by
 refine⟨fun a=>?_,?_⟩
 ·rw [Ahy,h.getD]
  unfold Cv
  rw [List.filter_append]
  by_cases e:t.Airline=a
  ·subst e
   rw [if_pos rfl]
   simp
  ·rw [if_neg e,h.get]
   have:[t].filter (fun t=>t.Airline==a)=[]:=by simp [e]
   rw [this,List.append_nil]
   rfl
 ·rw [Ah3]
  split
  ·exact h.nd
  ·rename_i hn
   exact List.nodup_append.2 ⟨h.nd,by simp,by intro x hx y hy; rw [List.mem_singleton.1 hy]; exact fun e=>hn (e ▸ hx)⟩
structure TabOk (S:Int)(i:Nat)(t:Table):Prop where
 fl:t.Flight=10+(i:Int)
 al:inA t.Airline
 len:(t.Costs.length:Int)=S
 cost : ∀ c ∈ t.Costs,-1≤c∧c≤1048576
def Abq (S:Int)(T:List Table):Prop := ∀ i t,T[i]? = some t→TabOk S i t
theorem Abq.snoc {S:Int}{T:List Table}{t:Table}(h:Abq S T)(ht:TabOk S T.length t):Abq S (T++[t]):=by
 intro i x hx
 rw [List.getElem?_append] at hx
 split at hx
 ·exact h i x hx
 ·have hi:=Au hx
  have:i - T.length=0:=by simpa using hi
  rw [this] at hx
  have e:i=T.length:=by omega
  rw [e,← Option.some.inj hx]
  exact ht
abbrev DR:=(List Int)×(List Int)×Int×(List (Int×(List Table)))×Bool
structure Dealt (r:DR)(T:List Table):Prop where
 own:r.1=T.map (·.Airline)
 fls:r.2.1=T.map (·.Flight)
 s:1≤r.2.2.1∧r.2.2.1≤5
 m:MIs r.2.2.2.1 T
 len:1≤T.length∧T.length≤4∧(T.length:Int)≤r.2.2.1
 tabs:Abq r.2.2.1 T
def noR:DR:=([],[],0,[],false)
theorem Am7 (p:T25)(S:Int)(j:Nat)(a2:List Int)(hS:1≤S∧S≤5)(hj:p.Costs[j]? = some a2) :
  Al (loop (Nj fun slots1 x1 l=>K3 p S j slots1 x1 l) (S,0,[])) fun x=>(∃ l:List Int,x=.inl (S,l)∧(l.length:Int)=S ∧ ∀ c ∈ l,-1≤c∧c≤1048576)∨x=.inr noR:=by
 refine Al.loop (I:=fun s:Int×Int×List Int=>s.1=S∧s.2.1=(s.2.2.length:Int)∧s.2.1≤S ∧ ∀ c ∈ s.2.2,-1≤c∧c≤1048576) (fun s=>(S - s.2.1).toNat) ?_ S.toNat (S,0,[]) (by simp) ⟨rfl,rfl,by simp only; omega,by simp⟩
 rintro⟨s1,x1,l⟩ ⟨h1,h2,h3,h4⟩
 simp only at h1 h2 h3 h4
 subst h1
 show Al (K3 p s1 j s1 x1 l) _
 unfold K3
 by_cases hx:x1<s1
 case neg=>
  rw [if_neg hx]
  exact Al.ok (.inl ⟨l,rfl,by omega,h4⟩)
 rw [if_pos hx,Gk hj,R.ok_bind]
 have key : ∀ c:Int,Al (Mo s1 x1 l c) fun x=>match x with | .inl s'=>(s'.1=s1∧s'.2.1=(s'.2.2.length:Int)∧s'.2.1≤s1 ∧ ∀ c ∈ s'.2.2,-1≤c∧c≤1048576)∧(s1 - s'.2.1).toNat<(s1 - ((s1,x1,l):Int×Int×List Int).2.1).toNat | .inr e=>(∃ l:List Int,e=.inl (s1,l)∧(l.length:Int)=s1 ∧ ∀ c ∈ l,-1≤c∧c≤1048576)∨e=.inr noR:=by
  intro c
  unfold Mo
  by_cases hc:c < -1∨c > 1048576
  ·rw [if_pos (by simp only [Bool.or_eq_true,decide_eq_true_eq]; exact hc)]
   exact Al.ok (.inr rfl)
  rw [if_neg (by simp only [Bool.or_eq_true,decide_eq_true_eq]; exact hc),if_pos (by simp only [List.length_singleton,Bt]; omega),G3 (by omega) (by omega)]
  refine Al.ok ⟨⟨rfl,?_,?_,?_⟩,?_⟩
  ·simp only [List.length_append,List.length_singleton]; omega
  ·simp only; omega
  ·intro y hy
   rcases List.mem_append.1 hy with hy | hy
   ·exact h4 y hy
   ·rw [List.mem_singleton.1 hy]; omega
  ·simp only; omega
 by_cases hq:x1<(a2.length:Int)
 ·rw [if_pos hq]
  exact Uw (by omega) hq fun c _=>(key c).mono fun x hx=>by cases x <;> exact hx
 ·rw [if_neg hq]
  exact(key 0).mono fun x hx=>by cases x <;> exact hx
theorem Aov (p:T25)(hp:Agj.good p)(hb:Agj.bulk p≤1048576):Al (Om p) fun r=>r=noR∨(r.2.2.2.2=true ∧ ∃ T,Dealt r T):=by
 obtain⟨g1,g2,g3,g4,g5,_⟩:=hp
 have hs:0≤p.Slots∧p.Slots≤255:=by
  have:(Lit.int .u8 p.Slots).wf=true:=g2
  simp [Lit.wf] at this
  have e1:IntKind.u8.min=0:=rfl
  have e2:IntKind.u8.max=255:=rfl
  omega
 have ho : ∀ a ∈ p.Owners,0≤a∧a≤255:=fun a ha=>by
  have:(Lit.int .u8 a).wf=true:=g1 a ha
  simp [Lit.wf] at this
  have e1:IntKind.u8.min=0:=rfl
  have e2:IntKind.u8.max=255:=rfl
  omega
 have hS0:IntKind.wrap .i64 ((Int.tmod (IntKind.wrap .i64 p.Slots) 5)+1)=p.Slots % 5+1:=by
  rw [G3 (n:=p.Slots) (by omega) (by omega),Int.tmod_eq_emod_of_nonneg hs.1,G3 (by omega) (by omega)]
 unfold Om
 rw [hS0]
 by_cases h0:(p.Owners.length:Int)<1∨(p.Owners.length:Int) > 4∨(p.Owners.length:Int) > p.Slots % 5+1∨p.Costs.length≠p.Owners.length
 ·rw [if_pos (by simp only [Bool.or_eq_true,decide_eq_true_eq,bne_iff_ne]; omega)]
  exact Al.ok (.inl rfl)
 rw [if_neg (by simp only [Bool.or_eq_true,decide_eq_true_eq,bne_iff_ne]; omega)]
 have hS:1≤p.Slots % 5+1∧p.Slots % 5+1≤5:=by omega
 generalize p.Slots % 5+1=S at h0 hS
 refine Al.bind (P:=U5 (fun n (s:Int×(List (Int×List Table))×List Int×List Int) => ∃ T:List Table,T.length=n∧s=(S,s.2.1,T.map (·.Airline),T.map (·.Flight))∧MIs s.2.1 T∧Abq S T) (fun e=>e=noR) (0+p.Owners.length)) (Al.each p.Owners 0 _ ⟨[],rfl,rfl,⟨fun a=>rfl,by simp⟩,fun i t h=>by simp at h⟩ ?_) ?_
 ·rintro j a ⟨s1,m,ow,fl⟩ hj ⟨T,hT,hs1,hm,ht⟩
  simp only [Nat.zero_add] at hT ⊢
  simp only [Prod.mk.injEq,true_and] at hs1
  obtain⟨rfl,rfl,rfl⟩:=hs1
  simp only at hm
  have ha:=ho a (List.mem_of_getElem? hj)
  have hjl:=Au hj
  show Al (Mj p j a s1 m _ _) _
  have hA:Int.tmod (IntKind.wrap .i64 a) 8=a % 8:=by rw [G3 (by omega) (by omega),Int.tmod_eq_emod_of_nonneg ha.1]
  have hF:IntKind.wrap .i64 (10+(j:Int))=10+(j:Int):=G3 (by omega) (by omega)
  unfold Mj
  rw [hA,hF,if_pos (by simp only [List.length_map,List.length_singleton,Bt]; omega),if_pos (by simp only [List.length_map,List.length_singleton,Bt]; omega)]
  have key : ∀ salt:Dg,Al (Mq p s1 m (T.map (·.Airline)) (T.map (·.Flight)) j a salt) (U5 (fun n (s:Int×(List (Int×List Table))×List Int×List Int) => ∃ T:List Table,T.length=n∧s=(s1,s.2.1,T.map (·.Airline),T.map (·.Flight))∧MIs s.2.1 T∧Abq s1 T) (fun e=>e=noR) (j+1)):=by
   intro salt
   unfold Mq
   refine(Am7 p s1 j p.Costs[j] hS (List.getElem?_eq_getElem (by omega))).bind fun x hx=>?_
   rcases hx with⟨l,rfl,hl,hc⟩ | rfl
   case inr=>exact Al.ok rfl
   show Al (Mh m _ _ j a salt s1 l) _
   unfold Mh
   rw [hA,hF]
   have hml:(Option.getD (Bv m (a % 8)) []).length≤T.length:=by rw [hm.getD]; exact List.length_filter_le _ _
   rw [if_pos (by simp only [List.length_singleton,Bt]; omega)]
   refine Al.ok ⟨T++[{ Airline:=a % 8,Flight:=10+(j:Int),Costs:=l,Salt:=salt }],by simp [hT],by simp,hm.put { Airline:=a % 8,Flight:=10+(j:Int),Costs:=l,Salt:=salt },ht.snoc ⟨by rw [hT],⟨by simp only; omega,by simp only; omega⟩,hl,hc⟩⟩
  by_cases hq:(j:Int)<(p.Salts.length:Int)
  ·rw [if_pos hq]
   exact Uw (by omega) hq fun c _=>key c
  ·rw [if_neg hq]
   exact key _
 ·intro x hx
  cases x with
  | inr e=>exact Al.ok (.inl hx)
  | inl s=>
   obtain⟨s1,m,ow,fl⟩:=s
   obtain⟨T,hT,hs1,hm,ht⟩:=hx
   simp only [Prod.mk.injEq,true_and] at hs1
   obtain⟨rfl,rfl,rfl⟩:=hs1
   exact Al.ok (.inr ⟨rfl,T,rfl,rfl,hS,hm,⟨by omega,by omega,by simp only; omega⟩,ht⟩)
end Go.Am
namespace Go.Am
open Go
set_option linter.unusedVariables false
set_option linter.unusedSimpArgs false
theorem Agl {S:Int}{T:List Table}(h:Abq S T):T.Pairwise fun x y=>x.Flight<y.Flight:=by
 rw [List.pairwise_iff_getElem]
 intro i j hi hj hij
 have h1:=(h i _ (List.getElem?_eq_getElem hi)).fl
 have h2:=(h j _ (List.getElem?_eq_getElem hj)).fl
 omega
theorem Uf {T:List Table}{a:Int}{t:Table}:t ∈ Cv T a↔t ∈ T∧t.Airline=a:=by
 unfold Cv; simp
theorem Aqv {T:List Table}{a:Int}:Cv T a≠[]↔a ∈ T.map (·.Airline):=by
 constructor
 ·intro h
  obtain⟨t,ht⟩:=List.exists_mem_of_ne_nil _ h
  obtain⟨h1,h2⟩:=Uf.1 ht
  exact List.mem_map.2 ⟨t,h1,h2⟩
 ·intro h e
  obtain⟨t,h1,h2⟩:=List.mem_map.1 h
  have:=Uf.2 ⟨h1,h2⟩
  rw [e] at this
  cases this
theorem Zc {r:DR}{T:List Table}(h:Dealt r T){a:Int}(ha:Cv T a≠[]):TOk a r.2.2.1 (Cv T a):=by
 have hl:=h.len; have hs:=h.s
 have hle:(Cv T a).length≤T.length:=List.length_filter_le _ _
 have hpos:0<(Cv T a).length:=List.length_pos_iff.2 ha
 refine⟨by omega,by omega,fun t ht=>?_,?_⟩
 ·obtain⟨h1,h2⟩:=Uf.1 ht
  obtain⟨i,hi,rfl⟩:=List.mem_iff_getElem.1 h1
  have k:=h.tabs i _ (List.getElem?_eq_getElem hi)
  have k1:=k.fl; have k2:=k.al; have k3:=k.len
  unfold inA at k2
  exact⟨⟨k2.1,k2.2,by omega,by omega⟩,h2,k3,k.cost⟩
 ·exact(Agl h.tabs).sublist List.filter_sublist
theorem Yb {r:DR}{T:List Table}(h:Dealt r T) : ∀ L:List (Int×List Table),(∀ e ∈ L,e ∈ r.2.2.2.1) →
  Io (fun a=>fun _=>J6 a) L ()=.ok (if ∃ e ∈ L,Hu (Cv T e.1)=zD then .inr true else .inl ())
 | [],_=>by simp [Io]
 | e::L,hL=>by
  obtain⟨h1,h2⟩:=h.m.mem (hL e (List.mem_cons_self ..))
  have ih:=Yb h L fun x hx=>hL x (List.mem_cons_of_mem _ hx)
  have hb:J6 e=.ok (if Hu (Cv T e.1)=zD then .inr true else .inl ()):=by
   unfold J6
   rw [h1,Aba (Zc h h2),R.ok_bind,Ajq]
   by_cases hz:Hu (Cv T e.1)=zD
   ·rw [if_pos (by simp [hz]),if_pos hz]
   ·rw [if_neg (by simp [hz]),if_neg hz]
  rw [Io,hb,R.ok_bind]
  by_cases hz:Hu (Cv T e.1)=zD
  ·rw [if_pos hz,if_pos ⟨e,List.mem_cons_self ..,hz⟩]
  ·rw [if_neg hz]
   show Io _ L ()=_
   have:(∃ x ∈ e::L,Hu (Cv T x.1)=zD) ↔ ∃ x ∈ L,Hu (Cv T x.1)=zD:=by
    constructor
    ·rintro⟨x,hx,hz'⟩
     rcases List.mem_cons.1 hx with rfl | hx
     ·exact absurd hz' hz
     ·exact⟨x,hx,hz'⟩
    ·rintro⟨x,hx,hz'⟩; exact⟨x,List.mem_cons_of_mem _ hx,hz'⟩
   rw [ih]
   simp only [this]
theorem An1 {r:DR}{T:List Table}(h:Dealt r T):Al (Q5 r.2.2.2.1) fun b=>b=false → ∀ a,Cv T a≠[]→Hu (Cv T a)≠zD:=by
 unfold Q5
 have e1:=Yb h r.2.2.2.1 fun e he=>he
 rw [Arp (fun L hL=>by
  rw [Yb h L fun e he=>hL.mem_iff.1 he,e1]
  simp only [hL.mem_iff]),e1,R.ok_bind]
 split
 ·exact Al.ok fun e=>by cases e
 ·rename_i hn
  refine Al.ok fun _ a ha hz=>hn ?_
  have hg:=h.m.get a
  rw [if_neg ha] at hg
  unfold Bv at hg
  obtain⟨e,he,_⟩:=Option.map_eq_some_iff.1 hg
  refine⟨e,List.mem_of_find?_eq_some he,?_⟩
  have:e.1=a:=by simpa using List.find?_some he
  rw [this]
  exact hz
def Oy (S:Int)(T:List Table)(o:Opening):Prop := ∃ (k:Nat) (t:Table) (i s:Nat),T[k]? = some t∧(Cv T t.Airline)[i]? = some t∧(s:Int)<S∧o=Ps (Cv T t.Airline) t i s
theorem Arr {S:Int}{T:List Table}(h:Abq S T){x y:Opening}(hx:Oy S T x)(hy:Oy S T y)(e1:x.Flight=y.Flight)(e2:x.Slot=y.Slot):x=y:=by
 obtain⟨k,t,i,s,h1,h2,h3,rfl⟩:=hx
 obtain⟨k',t',i',s',h1',h2',h3',rfl⟩:=hy
 have f1:=(h k t h1).fl; have f2:=(h k' t' h1').fl
 have e1':t.Flight=t'.Flight:=e1
 have e2':(s:Int)=(s':Int):=e2
 have hk:k=k':=by omega
 subst hk
 rw [h1] at h1'
 cases h1'
 have hs:s=s':=by omega
 subst hs
 have hn:(Cv T t.Airline).Nodup:=by
  refine List.Pairwise.imp (R:=fun x y:Table=>x.Flight<y.Flight) (fun hlt he=>?_) ((Agl h).sublist List.filter_sublist)
  rw [he] at hlt
  omega
 have:i=i':=(List.getElem?_inj (Au h2) hn).1 (h2.trans h2'.symm)
 rw [this]
end Go.Am
namespace Go.Am
open Go
set_option linter.unusedVariables false
set_option linter.unusedSimpArgs false
theorem Am6 {r:DR}{T:List Table}(h:Dealt r T)(r1:Clearing×Int){a:Nat}(ha:Cv T (a:Int)≠[]){i:Nat}{t:Table}(hi:(Cv T (a:Int))[i]? = some t)(x4:List Opening)(hx:x4.length≤1000) :
  Al (loop (C7 fun x5 x6=>Jo r r1 a i x5 x6) (0,x4)) fun x=>x=.inl (x4++(List.range r.2.2.1.toNat).map fun s=>Ps (Cv T (a:Int)) t i s):=by
 have hs:=h.s
 refine Al.loop (I:=fun q:Int×List Opening => ∃ n:Nat,(n:Int)≤r.2.2.1∧q=((n:Int),x4++(List.range n).map fun s=>Ps (Cv T (a:Int)) t i s)) (fun q=>(r.2.2.1 - q.1).toNat) ?_ r.2.2.1.toNat _ (by simp) ⟨0,by omega,by simp⟩
 rintro q ⟨n,hn,rfl⟩
 show Al (Jo r r1 a i _ _) _
 unfold Jo
 by_cases hq:(n:Int)<r.2.2.1
 ·rw [if_pos hq,h.m.getD,Ama (Zc h ha) hi hq,R.ok_bind,if_neg (by simp),if_pos (by simp only [List.length_append,List.length_map,List.length_range,List.length_singleton,Bt]; omega),G3 (by omega) (by omega)]
  refine Al.ok ⟨⟨n+1,by omega,?_⟩,?_⟩
  ·rw [List.range_succ,List.map_append,← List.append_assoc]; rfl
  ·simp only; omega
 ·rw [if_neg hq]
  have:n=r.2.2.1.toNat:=by omega
  rw [← this]
  exact Al.ok rfl
structure Opns (r:DR)(T:List Table)(j:Nat)(x2:List Opening):Prop where
 is : ∀ o ∈ x2,Oy r.2.2.1 T o
 all : ∀ (k:Nat) (t:Table) (i s:Nat),T[k]? = some t→(Cv T t.Airline)[i]? = some t→(s:Int)<r.2.2.1→t.Airline<(j:Int)→Ps (Cv T t.Airline) t i s ∈ x2
 len:x2.length≤20 * j
theorem Anl {r:DR}{T:List Table}(h:Dealt r T)(r1:Clearing×Int){a:Nat}(ha:Cv T (a:Int)≠[])(ha8:a<8)(x2:List Opening)(h2:Opns r T a x2) :
  Al (each (fun j1 _=>fun x4=>Lo r r1 a j1 x4) 0 (Cv T (a:Int)) x2) fun x => ∃ x4,x=.inl x4∧Opns r T (a+1) x4:=by
 have hs:=h.s; have hl:=h.len
 have hle:(Cv T (a:Int)).length≤T.length:=List.length_filter_le _ _
 refine(Al.each (I:=fun n (x4:List Opening)=>(∀ o ∈ x4,Oy r.2.2.1 T o)∧(∀ o ∈ x2,o ∈ x4)∧(∀ (i:Nat) (t:Table) (s:Nat),i<n→(Cv T (a:Int))[i]? = some t→(s:Int)<r.2.2.1→Ps (Cv T (a:Int)) t i s ∈ x4)∧x4.length≤20 * a+5 * n) (E:=fun _=>False) (Cv T (a:Int)) 0 x2 ⟨h2.is,fun o ho=>ho,fun i t s hi=>absurd hi (Nat.not_lt_zero _),by have:=h2.len; omega⟩ ?_).mono ?_
 ·rintro i t x4 hi ⟨k1,k2,k3,k4⟩
  simp only [Nat.zero_add] at k3 k4 ⊢
  have hil:=Au hi
  unfold Lo
  refine(Am6 h r1 ha hi x4 (by omega)).bind fun x hx=>?_
  subst hx
  obtain⟨m1,m2⟩:=Uf.1 (List.mem_of_getElem? hi)
  obtain⟨k,hk,hkt⟩:=List.mem_iff_getElem.1 m1
  refine Al.ok ⟨?_,?_,?_,?_⟩
  ·intro o ho
   rcases List.mem_append.1 ho with ho | ho
   ·exact k1 o ho
   ·obtain⟨s,hs',rfl⟩:=List.mem_map.1 ho
    refine⟨k,t,i,s,by rw [List.getElem?_eq_getElem hk,hkt],by rw [m2]; exact hi,by have:=List.mem_range.1 hs'; omega,by rw [m2]⟩
  ·exact fun o ho=>List.mem_append_left _ (k2 o ho)
  ·intro i' t' s' hi' ht' hs'
   rcases Nat.lt_or_ge i' i with hlt | hge
   ·exact List.mem_append_left _ (k3 i' t' s' hlt ht' hs')
   ·have:i'=i:=by omega
    subst this
    rw [hi] at ht'
    cases ht'
    exact List.mem_append_right _ (List.mem_map.2 ⟨s',List.mem_range.2 (by omega),rfl⟩)
  ·simp only [List.length_append,List.length_map,List.length_range]; omega
 ·intro x hx
  cases x with
  | inr e=>exact hx.elim
  | inl x4=>
   obtain⟨k1,k2,k3,k4⟩:=hx
   refine⟨x4,rfl,k1,fun k t i s h1 h2' h3 h4=>?_,by omega⟩
   by_cases he:t.Airline=(a:Int)
   ·rw [he] at h2' ⊢
    exact k3 i t s (by have:=Au h2'; omega) h2' h3
   ·exact k2 _ (h2.all k t i s h1 h2' h3 (by omega))
theorem Aod {r:DR}{T:List Table}(h:Dealt r T)(r1:Clearing×Int) :
  Al (each (fun j _=>C7 fun x1 x2=>Jv r r1 j x1 x2) 0 (List.range 8) ([],[])) fun x => ∃ x2,x=.inl (D9 r.1,x2)∧Opns r T 8 x2:=by
 have hs:=h.s; have hl:=h.len
 refine(Al.each (I:=fun n (q:List Int×List Opening)=>n≤8∧q.1=((List.range n).map fun n:Nat=>(n:Int)).filter (fun a=>decide (a ∈ r.1))∧Opns r T n q.2) (E:=fun _=>False) (List.range 8) 0 ([],[]) ⟨by omega,rfl,fun o ho=>by simp at ho,fun k t i s h1 h2 h3 h4=>by have:=(h.tabs k t h1).al; unfold inA at this; omega,by simp⟩ ?_).mono ?_
 ·rintro j b ⟨x1,x2⟩ hj ⟨h8,h1,h2⟩
  simp only [Nat.zero_add] at h8 h1 h2 ⊢
  have hj8:j<8:=by have:=Au hj; simpa using this
  show Al (Jv r r1 j x1 x2) _
  have hx1:x1.length≤8:=by
   rw [h1]
   have:=List.length_filter_le (fun a=>decide (a ∈ r.1)) ((List.range j).map fun n:Nat=>(n:Int))
   simp only [List.length_map,List.length_range] at this
   omega
  have hr:((List.range (j+1)).map fun n:Nat=>(n:Int)).filter (fun a=>decide (a ∈ r.1))=x1++(if(j:Int) ∈ r.1 then [(j:Int)] else []):=by
   rw [List.range_succ,List.map_append,List.filter_append,← h1]
   congr 1
   simp only [List.map_cons,List.map_nil,List.filter_cons,List.filter_nil,decide_eq_true_eq]
  unfold Jv
  rw [h.m.getD]
  have hmem:Cv T (j:Int)≠[]↔(j:Int) ∈ r.1:=by rw [h.own]; exact Aqv
  by_cases he:Cv T (j:Int)=[]
  ·rw [if_pos (by rw [he]; rfl)]
   refine Al.ok ⟨by omega,?_,h2.is,fun k t i s q1 q2 q3 q4=>?_,by have:=h2.len; simp only; omega⟩
   ·rw [hr,if_neg (fun q=>hmem.2 q he),List.append_nil]
   ·by_cases he':t.Airline=(j:Int)
    ·rw [he',he] at q2
     simp at q2
    ·exact h2.all k t i s q1 q2 q3 (by omega)
  ·have hp:=List.length_pos_iff.2 he
   rw [if_neg (by simp only [beq_iff_eq]; omega),if_pos (by simp only [List.length_singleton,Bt]; omega)]
   refine(Anl h r1 he hj8 x2 h2).bind fun x hx=>?_
   obtain⟨x4,rfl,h4⟩:=hx
   refine Al.ok ⟨by omega,?_,h4⟩
   rw [hr,if_pos (hmem.1 he)]
 ·intro x hx
  cases x with
  | inr e=>exact hx.elim
  | inl q=>
   obtain⟨x1,x2⟩:=q
   obtain⟨_,h1,h2⟩:=hx
   refine⟨x2,?_,h2⟩
   simp only [List.length_range,Nat.zero_add] at h1
   rw [show x1=D9 r.1 from h1]
def By8 (s:List Int):Prop := ∀ a ∈ s,0≤a∧a≤255
theorem Akt (n:Int)(s:List Int)(hn:0<n)(hs:By8 s):Al (Jq n s) fun x=>0≤x.1∧x.1<n∧By8 x.2:=by
 unfold Jq
 by_cases h0:s.length=0
 ·rw [if_pos (by simp [h0])]
  exact Al.ok ⟨Int.le_refl _,hn,hs⟩
 rw [if_neg (by simp only [Bool.or_eq_true,beq_iff_eq]; omega)]
 refine Uw (by omega) (by omega) fun a ha=>?_
 have:=hs a (List.mem_of_getElem? ha)
 rw [if_pos (by omega),if_pos (by omega),G3 (by omega) (by omega),Int.tmod_eq_emod_of_nonneg this.1]
 exact Al.ok ⟨Int.emod_nonneg _ (by omega),Int.emod_lt_of_pos _ hn,fun x hx=>hs x (List.mem_of_mem_drop hx)⟩
def c0V (r:DR):Clearing:={ No:=7,Phase:=1,Slots:=r.2.2.1,Owners:=r.1,Flights:=r.2.1,Commitments:=List.replicate (D9 r.1).length zD,Openings:=[],Outcome:=[] }
theorem Aq1 {r:DR}{T:List Table}(h:Dealt r T):r.2.1.Pairwise (· < ·):=by
 rw [h.fls]
 exact List.pairwise_map.2 (Agl h.tabs)
theorem Amw {r:DR}{T:List Table}(h:Dealt r T)(c:Clearing)(e1:c.No=7)(e2:c.Slots=r.2.2.1)(e3:c.Owners=r.1)(e4:c.Flights=r.2.1)(e5:c.Commitments.length=(D9 r.1).length):Formed c:=by
 have hs:=h.s; have hl:=h.len
 have l1:r.1.length=T.length:=by rw [h.own]; simp
 have l2:r.2.1.length=T.length:=by rw [h.fls]; simp
 refine⟨by omega,by omega,by rw [e4]; omega,by rw [e3,e4]; omega,by rw [e4]; exact Aq1 h,?_,?_,by rw [e3]; exact e5⟩
 ·rw [e4,h.fls]
  intro f hf
  obtain⟨t,ht,rfl⟩:=List.mem_map.1 hf
  obtain⟨k,hk,rfl⟩:=List.mem_iff_getElem.1 ht
  have:=(h.tabs k _ (List.getElem?_eq_getElem hk)).fl
  omega
 ·rw [e3,h.own]
  intro a ha
  obtain⟨t,ht,rfl⟩:=List.mem_map.1 ha
  obtain⟨k,hk,rfl⟩:=List.mem_iff_getElem.1 ht
  exact(h.tabs k _ (List.getElem?_eq_getElem hk)).al
theorem Asa {r:DR}{T:List Table}(h:Dealt r T):0<(D9 r.1).length:=by
 have hl:=h.len
 have h0:0<T.length:=by omega
 refine List.length_pos_iff.2 fun e=>?_
 have:T[0].Airline ∈ D9 r.1:=by
  refine Um.2 ⟨(h.tabs 0 _ (List.getElem?_eq_getElem h0)).al,?_⟩
  rw [h.own]
  exact List.mem_map.2 ⟨_,List.getElem_mem h0,rfl⟩
 rw [e] at this
 cases this
theorem Apr {r:DR}{T:List Table}(h:Dealt r T):ValidC (c0V r):=by
 have ha:=Asa h
 refine⟨Amw h _ rfl rfl rfl rfl (by simp [c0V]),.inl ⟨rfl,?_,rfl,rfl⟩⟩
 rw [c0V,List.mem_replicate]
 exact⟨by omega,rfl⟩
theorem Avc {r:DR}{T:List Table}(h:Dealt r T):Pm 7 r.2.2.1 r.1 r.2.1=.ok (c0V r,0):=by
 have hl:=h.len
 have l1:r.1.length=T.length:=by rw [h.own]; simp
 unfold Pm
 obtain⟨x,e,hx,_⟩:=V8 r.1 (by omega)
 have h8:=Aaq r.1
 rw [e,R.ok_bind,hx,if_pos ⟨by omega,by omega,by simp only [Int.toNat_natCast,Bt]; omega⟩,Int.toNat_natCast]
 have:=Asj (c:=c0V r) ⟨by simp [c0V],by simp [c0V],by simp [c0V]⟩ (Apr h)
 unfold c0V zD at this
 rw [this]
 rfl
end Go.Am
namespace Go.Am
open Go
set_option linter.unusedVariables false
set_option linter.unusedSimpArgs false
theorem Al8 {α:Type}{l:List α}{n:Nat}{a:α}(h:l[n]? = some a){y:α}:y ∈ l↔y=a∨y ∈ l.take n++l.drop (n+1):=by
 obtain⟨hn,rfl⟩:=List.getElem?_eq_some_iff.1 h
 have e:l=l.take n++(l[n]::l.drop (n+1)):=by rw [List.getElem_cons_drop,List.take_append_drop]
 constructor
 ·intro hy
  rw [e] at hy
  rcases List.mem_append.1 hy with hy | hy
  ·exact .inr (List.mem_append_left _ hy)
  ·rcases List.mem_cons.1 hy with hy | hy
   ·exact .inl hy
   ·exact .inr (List.mem_append_right _ hy)
 ·rintro(rfl | hy)
  ·exact List.getElem_mem hn
  ·rcases List.mem_append.1 hy with hy | hy
   ·exact List.mem_of_mem_take hy
   ·exact List.mem_of_mem_drop hy
theorem Acp {α:Type}{l:List α}{n:Nat}(h:n<l.length):(l.take n++l.drop (n+1)).length+1=l.length:=by
 simp only [List.length_append,List.length_take,List.length_drop]; omega
structure Coms (r:DR)(T:List Table)(x8:List Int)(c:Clearing):Prop where
 no:c.No=7
 sl:c.Slots=r.2.2.1
 ow:c.Owners=r.1
 fl:c.Flights=r.2.1
 op:c.Openings=[]
 out:c.Outcome=[]
 v:ValidC c
 at_ : ∀ (k:Nat) (a:Int),(D9 r.1)[k]? = some a→c.Commitments[k]? = some (Hu (Cv T a))∨(c.Commitments[k]? = some zD∧a ∈ x8)
 sub : ∀ a ∈ x8,a ∈ D9 r.1
 len:x8.length≤8
theorem Coms.sm {r:DR}{T:List Table}{x8:List Int}{c:Clearing}(h:Coms r T x8 c):Sm c:=⟨by rw [h.op]; simp,by rw [h.op]; intro o ho; simp at ho,by rw [h.out]; simp⟩
theorem Awq {r:DR}{T:List Table}(h:Dealt r T):Coms r T (D9 r.1) (c0V r):=by
 refine⟨rfl,rfl,rfl,rfl,rfl,rfl,Apr h,fun k a hk=>.inr ⟨?_,List.mem_of_getElem? hk⟩,fun a h=>h,Aaq _⟩
 show(List.replicate (D9 r.1).length zD)[k]? = some zD
 rw [List.getElem?_replicate,if_pos (Au hk)]
theorem Uu {r:DR}{T:List Table}(h:Dealt r T){a:Int}(ha:a ∈ D9 r.1):Cv T a≠[]:=by
 rw [Aqv,← h.own]
 exact(Um.1 ha).2
noncomputable def c1V (r:DR)(T:List Table):Clearing:={ No:=7,Phase:=2,Slots:=r.2.2.1,Owners:=r.1,Flights:=r.2.1,Commitments:=(D9 r.1).map fun a=>Hu (Cv T a),Openings:=[],Outcome:=[] }
theorem Coms.done {r:DR}{T:List Table}{c:Clearing}(hd:Dealt r T)(hz : ∀ a,Cv T a≠[]→Hu (Cv T a)≠zD)(h:Coms r T [] c):c=c1V r T:=by
 have hc:c.Commitments=(D9 r.1).map fun a=>Hu (Cv T a):=by
  have hl:=h.v.formed.com
  rw [h.ow] at hl
  refine List.ext_getElem? fun k=>?_
  rcases Nat.lt_or_ge k (D9 r.1).length with hk | hk
  ·rcases h.at_ k _ (List.getElem?_eq_getElem hk) with e | ⟨_,e⟩
   ·rw [e,List.getElem?_map,List.getElem?_eq_getElem hk]; rfl
   ·cases e
  ·rw [List.getElem?_eq_none (by omega),List.getElem?_eq_none (by simpa using hk)]
 have hp:c.Phase=2:=by
  rcases h.v.phase with⟨_,hm,_⟩ | ⟨e,_⟩ | ⟨_,hf⟩
  ·rw [hc] at hm
   obtain⟨a,ha,he⟩:=List.mem_map.1 hm
   exact absurd he (hz a (Uu hd ha))
  ·exact e
  ·have hfull:=hf.full
   unfold Aak at hfull
   have hfl:=h.v.formed.fl; have hsl:=h.v.formed.slots
   have:0<c.Flights.length * c.Slots.toNat:=Nat.mul_pos (by omega) (by omega)
   rw [h.op] at hfull
   simp only [List.length_nil] at hfull
   omega
 obtain⟨a1,a2,a3,a4,a5,a6,a7,a8⟩:=c
 have e1:=h.no; have e3:=h.sl; have e4:=h.ow; have e5:=h.fl; have e7:=h.op; have e8:=h.out
 simp only at hc hp e1 e3 e4 e5 e7 e8
 subst hc hp e1 e3 e4 e5 e7 e8
 rfl
theorem Aos {r:DR}{T:List Table}(hd:Dealt r T)(hz : ∀ a,Cv T a≠[]→Hu (Cv T a)≠zD){x8:List Int}{c:Clearing}(h:Coms r T x8 c){n:Nat}{a:Int}(hn:x8[n]? = some a) :
  Al (Hj c a (Hu (Cv T a))) fun x=>x.2=0∧Coms r T (x8.take n++x8.drop (n+1)) x.1:=by
 have ham:=List.mem_of_getElem? hn
 have haa:=h.sub a ham
 have hne:=Uu hd haa
 have hk:=Uk (K4.2 haa)
 have hnl:=Au hn
 refine(Agb c a _ h.sm).mono fun x hx=>?_
 have hcut:=fun y=>Al8 (y:=y) hn
 have hlen:=Acp hnl
 have hl8:=h.len
 rcases hx with⟨_,hx⟩ | ⟨h0,_,_,_,hx⟩
 ·exfalso
  rcases hx with hx | hx | hx | ⟨e,he,h1,h2⟩
  ·exact hx h.v
  ·rw [h.ow] at hx; exact hx haa
  ·exact hz a hne hx
  ·rw [h.ow] at he
   rcases h.at_ _ a hk with e' | ⟨e',_⟩
   ·rw [he] at e'; exact h1 (Option.some.inj e')
   ·rw [he] at e'; exact h2 (Option.some.inj e')
 ·refine⟨h0,?_⟩
  have hsub : ∀ b ∈ x8.take n++x8.drop (n+1),b ∈ D9 r.1:=fun b hb=>h.sub b ((hcut b).2 (.inr hb))
  have hother : ∀ (k:Nat) (b:Int),(D9 r.1)[k]? = some b→k≠(E7 (D9 r.1) a).toNat→c.Commitments[k]? = some (Hu (Cv T b))∨(c.Commitments[k]? = some zD∧b ∈ x8.take n++x8.drop (n+1)):=by
   intro k b hb hkk
   refine(h.at_ k b hb).imp id fun⟨e,hm⟩=>⟨e,((hcut b).1 hm).resolve_left fun hba=>hkk ?_⟩
   subst hba
   rw [Aia (Ame r.1) hb,Int.toNat_natCast]
  rcases hx with⟨e,rfl'⟩ | ⟨e,rfl'⟩
  ·rw [rfl']
   rw [h.ow] at e
   refine⟨h.no,h.sl,h.ow,h.fl,h.op,h.out,h.v,fun k b hb=>?_,hsub,by omega⟩
   by_cases hkk:k=(E7 (D9 r.1) a).toNat
   ·subst hkk
    rw [hk] at hb
    cases hb
    exact .inl e
   ·exact hother k b hb hkk
  ·rw [rfl']
   have hv:=Ao4 (d:=Hu (Cv T a)) h.v e
   rw [h.ow] at e hv ⊢
   refine⟨h.no,h.sl,h.ow,h.fl,h.op,h.out,hv,fun k b hb=>?_,hsub,by omega⟩
   show(c.Commitments.set _ _)[k]? = _∨(c.Commitments.set _ _)[k]? = _∧_
   by_cases hkk:k=(E7 (D9 r.1) a).toNat
   ·subst hkk
    rw [hk] at hb
    cases hb
    exact .inl (List.getElem?_set_self (Au e))
   ·rw [List.getElem?_set_ne (fun q=>hkk q.symm)]
    exact hother k b hb hkk
theorem Aln {r:DR}{T:List Table}(hd:Dealt r T)(hz : ∀ a,Cv T a≠[]→Hu (Cv T a)≠zD)(b:List Int)(hb:By8 b) :
  Al (loop (Nj fun x8 o o1=>H9 r x8 o o1) (D9 r.1,b,c0V r)) fun x => ∃ o,By8 o∧x=.inl (o,c1V r T):=by
 refine Al.loop (I:=fun q:List Int×List Int×Clearing=>By8 q.2.1∧Coms r T q.1 q.2.2) (fun q=>q.1.length) ?_ 8 _ (Aaq _) ⟨hb,Awq hd⟩
 rintro⟨x8,o,c⟩ ⟨h1,h2⟩
 simp only at h1 h2
 show Al (H9 r x8 o c) _
 unfold H9
 by_cases h0:x8.length=0
 ·rw [if_neg (by omega)]
  rw [List.length_eq_zero_iff] at h0
  subst h0
  exact Al.ok ⟨o,h1,by rw [h2.done hd hz]⟩
 rw [if_pos (by omega)]
 refine(Akt (x8.length:Int) o (by omega) h1).bind fun r3 h3=>?_
 obtain⟨k1,k2,k3⟩:=h3
 refine Uw k1 k2 fun a ha=>?_
 have hne:=Uu hd (h2.sub a (List.mem_of_getElem? ha))
 rw [hd.m.getD,Aba (Zc hd hne),R.ok_bind,if_neg (by simp)]
 refine(Aos hd hz h2 ha).bind fun r5 h5=>?_
 have hl:=h2.len
 have hcl:=Acp (Au ha)
 have e1:(r3.1+1).toNat=r3.1.toNat+1:=by omega
 rw [if_neg (by simp [h5.1]),if_pos ⟨k1,by omega⟩,G3 (by omega) (by omega),if_pos ⟨by omega,by omega⟩,if_pos (by simp only [List.length_take,Bt]; omega),if_pos (by simp only [List.length_take,List.length_drop,Bt]; omega),e1]
 exact Al.ok ⟨⟨k3,h5.2⟩,by simp only; omega⟩
end Go.Am
namespace Go.Am
open Go
set_option linter.unusedVariables false
set_option linter.unusedSimpArgs false
theorem Aof {α:Type}{Rl:α→α→Prop}(hi : ∀ x,¬ Rl x x)(ha : ∀ x y,Rl x y→¬ Rl y x) : ∀ {l1 l2:List α},l1.Pairwise Rl→l2.Pairwise Rl→(∀ x,x ∈ l1↔x ∈ l2)→l1=l2
 | [],[],_,_,_=>rfl
 | [],b::l2,_,_,h=>by have:=(h b).2 (List.mem_cons_self ..); cases this
 | a::l1,[],_,_,h=>by have:=(h a).1 (List.mem_cons_self ..); cases this
 | a::l1,b::l2,h1,h2,h=>by
  rw [List.pairwise_cons] at h1 h2
  have e:a=b:=by
   rcases List.mem_cons.1 ((h a).1 (List.mem_cons_self ..)) with e | e
   ·exact e
   ·rcases List.mem_cons.1 ((h b).2 (List.mem_cons_self ..)) with e' | e'
    ·exact e'.symm
    ·exact absurd (h1.1 _ e') (ha _ _ (h2.1 _ e))
  subst e
  rw [Aof hi ha h1.2 h2.2 fun x=>⟨fun hx=>?_,fun hx=>?_⟩]
  ·rcases List.mem_cons.1 ((h x).1 (List.mem_cons_of_mem _ hx)) with e | e
   ·subst e; exact absurd (h1.1 _ hx) (hi _)
   ·exact e
  ·rcases List.mem_cons.1 ((h x).2 (List.mem_cons_of_mem _ hx)) with e | e
   ·subst e; exact absurd (h2.1 _ hx) (hi _)
   ·exact e
theorem Ar8 {l1 l2:List Opening}(h1:l1.Pairwise Il)(h2:l2.Pairwise Il)(h : ∀ x,x ∈ l1↔x ∈ l2):l1=l2:=
 Aof (fun x h=>by unfold Il at h; omega) (fun x y h h'=>by unfold Il at h h'; omega) h1 h2 h
noncomputable def Oc (r:DR)(T:List Table)(L:List Opening):Clearing:={ c1V r T with Openings:=L }
theorem As8 {r:DR}{T:List Table}(h:Dealt r T){k:Nat}{t:Table}(hk:T[k]? = some t):E7 r.2.1 t.Flight=(k:Int):=
 Aia (Aq1 h) (by rw [h.fls,List.getElem?_map,hk]; rfl)
theorem Aro {r:DR}{T:List Table}(h:Dealt r T)(a:Int):many r.1 a=((Cv T a).length:Int):=by
 unfold many Cv
 rw [h.own,List.count,List.countP_map,List.countP_eq_length_filter]
 rfl
theorem Apk {r:DR}{T:List Table}{a:Int}(ha:a ∈ D9 r.1):((D9 r.1).map fun a=>Hu (Cv T a))[(E7 (D9 r.1) a).toNat]? = some (Hu (Cv T a)):=by
 rw [List.getElem?_map,Uk (K4.2 ha)]; rfl
theorem Agz {r:DR}{T:List Table}(h:Dealt r T)(L:List Opening){o:Opening}(ho:Oy r.2.2.1 T o):V4 (Oc r T L) o:=by
 obtain⟨k,t,i,s,hk,hi,hs,rfl⟩:=ho
 have hmem:t.Airline ∈ r.1:=by rw [h.own]; exact List.mem_map.2 ⟨t,List.mem_of_getElem? hk,rfl⟩
 have ha:t.Airline ∈ D9 r.1:=Um.2 ⟨(h.tabs k t hk).al,hmem⟩
 refine⟨?_,?_,Hu (Cv T t.Airline),?_,?_⟩
 ·show t.Flight ∈ r.2.1
  rw [h.fls]
  exact List.mem_map.2 ⟨t,List.mem_of_getElem? hk,rfl⟩
 ·show r.1[(E7 r.2.1 t.Flight).toNat]? = some t.Airline
  rw [As8 h hk,Int.toNat_natCast,h.own,List.getElem?_map,hk]; rfl
 ·exact Apk ha
 ·show Wm _ t.Airline (many r.1 t.Airline) r.2.2.1 _
  rw [Aro h]
  exact Ap3 (Zc h (Uu h ha)) hi hs
theorem Age {r:DR}{T:List Table}(h:Dealt r T)(hz : ∀ a,Cv T a≠[]→Hu (Cv T a)≠zD){L:List Opening}(h1:L.Pairwise Il)(h2 : ∀ o ∈ L,Oy r.2.2.1 T o):ValidC (Oc r T L):=by
 refine⟨Amw h _ rfl rfl rfl rfl (by simp [Oc,c1V]),.inr (.inl ⟨rfl,fun hm=>?_,⟨h1,fun o ho=>Agz h L (h2 o ho)⟩,rfl⟩)⟩
 obtain⟨a,ha,he⟩:=List.mem_map.1 (show zD ∈ (D9 r.1).map fun a=>Hu (Cv T a) from hm)
 exact hz a (Uu h ha) he
theorem Ad7 {S:Int}{T:List Table}{o:Opening}(h:Oy S T o):o.Path.length≤16:=by
 obtain⟨k,t,i,s,_,_,_,rfl⟩:=h
 exact Aps _ _ _ _
theorem sm5 {r:DR}{T:List Table}{L:List Opening}(hl:L.length≤900)(h2 : ∀ o ∈ L,Oy r.2.2.1 T o):Sm (Oc r T L):=
 ⟨by show L.length≤1000; omega,fun o ho=>Nat.le_trans (Ad7 (h2 o ho)) (by decide),by simp [Oc,c1V]⟩
structure OpnL (r:DR)(T:List Table)(L x9:List Opening):Prop where
 lt:L.Pairwise Il
 is : ∀ o ∈ L,Oy r.2.2.1 T o
 all : ∀ o,Oy r.2.2.1 T o→o ∈ L∨o ∈ x9
 sub : ∀ o ∈ x9,Oy r.2.2.1 T o
 len:L.length+x9.length≤160
theorem Apq {r:DR}{T:List Table}(h:Dealt r T)(hz : ∀ a,Cv T a≠[]→Hu (Cv T a)≠zD){L x9:List Opening}(hL:OpnL r T L x9){n:Nat}{o:Opening}(hn:x9[n]? = some o) :
  Al (Jn (Oc r T L) o) fun x=>x.2=0 ∧ ∃ L',x.1=Oc r T L'∧OpnL r T L' (x9.take n++x9.drop (n+1)):=by
 have ho:=hL.sub o (List.mem_of_getElem? hn)
 have hA:=Agz h L ho
 have hlen:=hL.len
 have hcut:=fun y=>Al8 (y:=y) hn
 have hcl:=Acp (Au hn)
 have hsub : ∀ b ∈ x9.take n++x9.drop (n+1),Oy r.2.2.1 T b:=fun b hb=>hL.sub b ((hcut b).2 (.inr hb))
 refine(Ai9 (Oc r T L) o (sm5 (by omega) hL.is) (Nat.le_trans (Ad7 ho) (by decide))).mono fun x hx=>?_
 rcases hx with⟨_,_,hx | hx | hx | ⟨y,hy,e1,e2,e3⟩⟩ | ⟨h0,hV,hp,_,⟨hm,e⟩ | ⟨m,m1,m2,m3,e⟩⟩
 ·exact absurd (Age h hz hL.lt hL.is) hx
 ·exact absurd hx (show ¬ (2:Int)=1 by decide)
 ·exact absurd hA hx
 ·exact absurd (Arr h.tabs (hL.is y hy) ho e1 e2) e3
 ·refine⟨h0,L,e,hL.lt,hL.is,fun y hy=>?_,hsub,by omega⟩
  rcases hL.all y hy with q | q
  ·exact .inl q
  ·rcases(hcut y).1 q with rfl | q
   ·exact .inl hm
   ·exact .inr q
 ·have hO:=Anu (Tm hV hp) hA m2 m3
  refine⟨h0,Aab L m o,e,hO.1,fun y hy=>?_,fun y hy=>?_,hsub,?_⟩
  ·rcases Aap.1 hy with rfl | hy
   ·exact ho
   ·exact hL.is y hy
  ·rcases hL.all y hy with q | q
   ·exact .inl (Aap.2 (.inr q))
   ·rcases(hcut y).1 q with rfl | q
    ·exact .inl (Aap.2 (.inl rfl))
    ·exact .inr q
  ·have m1':m≤L.length:=m1
   simp only [Aab,List.length_append,List.length_take,List.length_drop,List.length_singleton] at hcl ⊢
   omega
structure Opd (r:DR)(T:List Table)(L:List Opening):Prop where
 lt:L.Pairwise Il
 is : ∀ o,o ∈ L↔Oy r.2.2.1 T o
 len:L.length≤160
theorem Opd.uniq {r:DR}{T:List Table}{L L':List Opening}(h:Opd r T L)(h':Opd r T L'):L=L':=
 Ar8 h.lt h'.lt fun x=>(h.is x).trans (h'.is x).symm
theorem Apg {r:DR}{T:List Table}(h:Dealt r T)(hz : ∀ a,Cv T a≠[]→Hu (Cv T a)≠zD)(x2:List Opening)(h2:Opns r T 8 x2)(b:List Int)(hb:By8 b) :
  Al (J4 r x2 b (c1V r T)) fun x=>x.2=true ∧ ∃ L,x.1=Oc r T L∧Opd r T L:=by
 unfold J4
 refine Al.bind (P:=fun x => ∃ L,x=.inl (Oc r T L)∧Opd r T L) (Al.loop (I:=fun q:List Opening×List Int×Clearing=>By8 q.2.1 ∧ ∃ L,q.2.2=Oc r T L∧OpnL r T L q.1) (fun q=>q.1.length) ?_ 160 _ h2.len ⟨hb,[],rfl,.nil,(fun o ho=>by cases ho),?_,h2.is,by have:=h2.len; simpa using this⟩) ?_
 ·rintro⟨x9,o4,c⟩ ⟨h1,L,e,hL⟩
  simp only at h1 e hL
  subst e
  have hlen:=hL.len
  show Al (Lm x9 o4 _) _
  unfold Lm
  by_cases h0:x9.length=0
  ·rw [if_neg (by omega)]
   rw [List.length_eq_zero_iff] at h0
   subst h0
   exact Al.ok ⟨L,rfl,hL.lt,fun o=>⟨hL.is o,fun ho=>(hL.all o ho).resolve_right (by simp)⟩,by omega⟩
  rw [if_pos (by omega)]
  refine(Akt (x9.length:Int) o4 (by omega) h1).bind fun r3 h3=>?_
  obtain⟨k1,k2,k3⟩:=h3
  refine Uw k1 k2 fun a ha=>?_
  refine(Apq h hz hL ha).bind fun r7 h7=>?_
  obtain⟨e7,L',e',hL'⟩:=h7
  have hcl:=Acp (Au ha)
  have e1:(r3.1+1).toNat=r3.1.toNat+1:=by omega
  rw [if_neg (by simp [e7]),if_pos ⟨k1,by omega⟩,G3 (by omega) (by omega),if_pos ⟨by omega,by omega⟩,if_pos (by simp only [List.length_take,Bt]; omega),if_pos (by simp only [List.length_take,List.length_drop,Bt]; omega),e1]
  exact Al.ok ⟨⟨k3,L',e',hL'⟩,by simp only; omega⟩
 ·rintro o ⟨k,t,i,s,g1,g2,g3,rfl⟩
  have:=(h.tabs k t g1).al
  unfold inA at this
  exact .inr (h2.all k t i s g1 g2 g3 (by omega))
 ·rintro x ⟨L,rfl,hL⟩
  exact Al.ok ⟨rfl,L,rfl,hL⟩
theorem Afy (a:T25)(b:List Int)(hb:By8 b){r:DR}{T:List Table}(e:Om a=.ok r)(e5:r.2.2.2.2=true)(h:Dealt r T)(hz : ∀ a,Cv T a≠[]→Hu (Cv T a)≠zD) :
  Al (O0 a b) fun x=>x.2=true ∧ ∃ L,x.1=Oc r T L∧Opd r T L:=by
 unfold O0
 rw [e,R.ok_bind,if_pos e5,Avc h,R.ok_bind,if_neg (by simp)]
 refine(Aod h _).bind fun x hx=>?_
 obtain⟨x2,rfl,h2⟩:=hx
 refine(Aln h hz b hb).bind fun x hx=>?_
 obtain⟨o,ho,rfl⟩:=hx
 exact Apg h hz x2 h2 o ho
theorem Avg {T:List Table}{k:Nat}{t:Table}(hk:T[k]? = some t) : ∃ i:Nat,(Cv T t.Airline)[i]? = some t:=by
 obtain⟨i,hi,he⟩:=List.mem_iff_getElem.1 (Uf.2 ⟨List.mem_of_getElem? hk,rfl⟩)
 exact⟨i,by rw [List.getElem?_eq_getElem hi,he]⟩
theorem Ai3 {r:DR}{T:List Table}(h:Dealt r T)(hz : ∀ a,Cv T a≠[]→Hu (Cv T a)≠zD){L:List Opening}(hL:Opd r T L):Aak (Oc r T L):=by
 have hV:=Age h hz hL.lt fun o ho=>(hL.is o).1 ho
 have hO:=Tm hV (show ¬ (2:Int)=1 by decide)
 have hs:=h.s
 obtain⟨S,hS⟩ : ∃ S:Nat,r.2.2.1=(S:Int):=⟨r.2.2.1.toNat,by omega⟩
 have hfl:(Oc r T L).Flights.length=T.length:=by show r.2.1.length=_; rw [h.fls]; simp
 have hsl:(Oc r T L).Slots.toNat=S:=by show r.2.2.1.toNat=S; omega
 have e:L.map (Aeu (Oc r T L))=List.range (T.length * S):=by
  refine Aof (Rl:=(· < ·)) (fun x=>Nat.lt_irrefl x) (fun x y h=>Nat.lt_asymm h) ?_ List.pairwise_lt_range fun x=>?_
  ·rw [List.pairwise_map]
   refine List.Pairwise.imp_of_mem ?_ hL.lt
   intro a b ha hb hab
   exact Apf hV.formed (hO.2 a ha) (hO.2 b hb) hab
  ·rw [List.mem_range,List.mem_map]
   constructor
   ·rintro⟨o,ho,rfl⟩
    have:=At1 (hO.2 o ho)
    rwa [hfl,hsl] at this
   ·intro hx
    have hS0:0<S:=by omega
    have hk:x / S<T.length:=(Nat.div_lt_iff_lt_mul hS0).2 hx
    have ht:=List.getElem?_eq_getElem hk
    obtain⟨i,hi⟩:=Avg ht
    refine⟨Ps (Cv T T[x / S].Airline) T[x / S] i (x % S),(hL.is _).2 ⟨x / S,_,i,x % S,ht,hi,by have:=Nat.mod_lt x hS0; omega,rfl⟩,?_⟩
    unfold Aeu
    rw [hsl]
    show(E7 r.2.1 T[x / S].Flight).toNat * S+((x % S:Nat):Int).toNat=x
    rw [As8 h ht,Int.toNat_natCast,Int.toNat_natCast,Nat.div_add_mod']
 have:=congrArg List.length e
 rw [List.length_map,List.length_range] at this
 show L.length=_
 rw [hfl,hsl,this]
end Go.Am
namespace Go.Am
open Go
set_option linter.unusedVariables false
set_option linter.unusedSimpArgs false
theorem Aju {r:Round}(hc:CChk r){l:List Int}(h:Ez r l=.ok (true,0)) : ∃ w,Lp r l=.ok w∧w.2=0∧w.1.length=0∧l.length=r.Owners.length:=by
 unfold Ez at h
 obtain⟨w,ew,hw⟩:=Aht hc l
 rw [ew,R.ok_bind] at h
 by_cases hq:((w.2 != 0)||(decide ((w.1.length:Int) > 0)))=true
 ·rw [if_pos hq] at h
  exact absurd (congrArg Prod.fst (R.ok.inj h)) (by simp)
 ·simp only [Bool.or_eq_true,decide_eq_true_eq,bne_iff_ne,ne_eq,not_or,Decidable.not_not] at hq
  exact⟨w,ew,hq.1,by omega,(hw hq.1).1⟩
theorem Aql {l:List Int}(h:(Ph 1 (I4 .u8)).good l):By8 l:=by
 intro a ha
 have:(Lit.int .u8 a).wf=true:=h a ha
 simp [Lit.wf] at this
 have e1:IntKind.u8.min=0:=rfl
 have e2:IntKind.u8.max=255:=rfl
 omega
theorem Aur {r:DR}{T:List Table}(h:Dealt r T)(hz : ∀ a,Cv T a≠[]→Hu (Cv T a)≠zD){L:List Opening}(hL:Opd r T L) :
  ∃ y:List Int×Int,Ii (Oc r T L)=.ok ({ Oc r T L with Phase:=y.2,Outcome:=y.1 },0)∧Aoi (exR (Oc r T L)) y∧y.1.length=T.length∧ValidC { Oc r T L with Phase:=y.2,Outcome:=y.1 }∧Sm { Oc r T L with Phase:=y.2,Outcome:=y.1 }:=by
 have his : ∀ o ∈ L,Oy r.2.2.1 T o:=fun o ho=>(hL.is o).1 ho
 have hV:=Age h hz hL.lt his
 have hf:=Ai3 h hz hL
 have hs:Sm (Oc r T L):=sm5 (by have:=hL.len; omega) his
 have hl:=h.len; have hS:=h.s
 obtain⟨x,e,hx⟩:=Ah9 (Oc r T L) hs
 rcases hx with⟨_,hx⟩ | ⟨_,_,hx⟩ | ⟨h0,_,_,⟨hx,_⟩ | ⟨h2,y,ey,hy,hx⟩⟩
 ·exact absurd hV hx
 ·exact absurd hf hx
 ·exact absurd (show(Oc r T L).Phase=2 from rfl) hx
 have how:(exR (Oc r T L)).Owners.length=T.length:=by show r.1.length=_; rw [h.own]; simp
 have hlen:y.1.length=T.length:=by
  rcases hy with⟨_,hc,hst⟩ | ⟨_,hy⟩
  ·obtain⟨w,_,_,_,h4⟩:=Aju hc hst
   rw [h4,how]
  ·rw [hy]; simp [how]
 refine⟨y,?_,hy,hlen,Ak8 hV hf h2 ey hy,⟨hs.op,hs.path,by show y.1.length≤1000; omega⟩⟩
 rw [e,← hx,← h0]
end Go.Am
namespace Go.Am
open Go
set_option linter.unusedVariables false
set_option linter.unusedSimpArgs false
theorem Aou {r:DR}{T:List Table}(h:Dealt r T)(hz : ∀ a,Cv T a≠[]→Hu (Cv T a)≠zD){c:Clearing}(hs:Sm c)(hV:ValidC c)(e1:c.Owners=r.1)(e2:c.Commitments=(D9 r.1).map fun a=>Hu (Cv T a)){a:Int}(ha:a ∈ D9 r.1) :
  Hj c a (Hu (Cv T a))=.ok (c,0):=by
 have hne:=Uu h ha
 have hat:c.Commitments[(E7 (D9 c.Owners) a).toNat]? = some (Hu (Cv T a)):=by rw [e1,e2]; exact Apk ha
 refine Al.eq ((Agb c a _ hs).mono fun x hx=>?_)
 rcases hx with⟨_,hx | hx | hx | ⟨e,he,h1,_⟩⟩ | ⟨h0,_,_,_,⟨_,hx⟩ | ⟨hx,_⟩⟩
 ·exact absurd hV hx
 ·rw [e1] at hx; exact absurd ha hx
 ·exact absurd hx (hz a hne)
 ·rw [hat] at he; exact absurd (Option.some.inj he).symm h1
 ·exact Prod.ext hx h0
 ·rw [hat] at hx; exact absurd (Option.some.inj hx) (hz a hne)
theorem Awx {n:Int}(h:(I4 .u8).good n):0≤n∧n≤255:=by
 have:(Lit.int .u8 n).wf=true:=h
 simp [Lit.wf] at this
 have e1:IntKind.u8.min=0:=rfl
 have e2:IntKind.u8.max=255:=rfl
 omega
theorem law_RoundsOrder (hsane:Tf=.ok true):N8:=by
 intro a b c hg gb gc hb
 refine Al.eq ?_
 unfold Ox
 rw [hsane,R.ok_bind,if_pos rfl]
 refine Al.ite (fun _=>Al.ok rfl) fun _=>?_
 obtain⟨r,er,hr⟩:=Aov a hg (by omega)
 rw [er,R.ok_bind]
 rcases hr with rfl | ⟨h5,T,h⟩
 ·exact Al.ok rfl
 rw [h5]
 simp only [Bool.not_true,Bool.false_eq_true,if_false]
 obtain⟨s,es,hsil⟩:=An1 h
 rw [es,R.ok_bind,R.ok_bind]
 refine Al.ite (fun _=>Al.ok rfl) fun hb0=>?_
 have hz:=hsil (by simpa using hb0)
 obtain⟨g1,g2,g3,g4,g5,_⟩:=hg
 refine(Afy a a.Order (Aql g5) er h5 h hz).bind fun r3 h3=>?_
 refine(Afy a b (Aql gb) er h5 h hz).bind fun r4 h4=>?_
 obtain⟨e3,L,ec,hL⟩:=h3
 obtain⟨e4,L',ec',hL'⟩:=h4
 obtain rfl:=hL.uniq hL'
 rw [e3,e4,ec,ec',if_neg (by simp),X6,R.ok_bind,R.ok_bind,if_neg (by simp)]
 obtain⟨y,ey,hy,hyl,hVy,hSy⟩:=Aur h hz hL
 have his : ∀ o ∈ L,Oy r.2.2.1 T o:=fun o ho=>(hL.is o).1 ho
 have hV:=Age h hz hL.lt his
 have hf:=Ai3 h hz hL
 have hs:Sm (Oc r T L):=sm5 (by have:=hL.len; omega) his
 have hl:=h.len; have hS:=h.s
 have hyp:y.2=3∨y.2=4:=by rcases hy with⟨q,_⟩ | ⟨q,_⟩ <;> simp [q]
 rw [ey,R.ok_bind]
 generalize hc6:({ Oc r T L with Phase:=y.2,Outcome:=y.1 }:Clearing)=c6 at hVy hSy ⊢
 have hf6:Aak c6:=by rw [← hc6]; exact hf
 have hp6:c6.Phase=y.2:=by rw [← hc6]
 have e7:Ii c6=.ok (c6,0):=Al.eq ((Ah9 c6 hSy).mono fun x hx=>by
  rcases hx with⟨_,hx⟩ | ⟨_,_,hx⟩ | ⟨h0,_,_,⟨_,hx⟩ | ⟨h2,_⟩⟩
  ·exact absurd hVy hx
  ·exact absurd hf6 hx
  ·exact Prod.ext hx h0
  ·omega)
 rw [e7,R.ok_bind,if_neg (by simp),X6,R.ok_bind,R.ok_bind,if_neg (by simp)]
 have hol:r.1.length=T.length:=by rw [h.own]; simp
 have hc:=Awx gc
 rw [if_pos (by omega),G3 (by omega) (by omega),Int.tmod_eq_emod_of_nonneg hc.1]
 refine Uw (Int.emod_nonneg _ (by omega)) (Int.emod_lt_of_pos _ (by omega)) fun a1 ha1=>?_
 have hmem:=List.mem_of_getElem? ha1
 have hin:inA a1:=by
  rw [h.own] at hmem
  obtain⟨t,ht,rfl⟩:=List.mem_map.1 hmem
  obtain⟨k,hk,rfl⟩:=List.mem_iff_getElem.1 ht
  exact(h.tabs k _ (List.getElem?_eq_getElem hk)).al
 have ha:a1 ∈ D9 r.1:=Um.2 ⟨hin,hmem⟩
 have hne:=Uu h ha
 have hml:=List.length_pos_iff.2 hne
 rw [h.m.getD,Aba (Zc h hne),R.ok_bind,if_pos (by omega),if_pos (by omega),Int.tmod_eq_emod_of_nonneg hc.1,Int.tmod_eq_emod_of_nonneg hc.1]
 have i1:=Int.emod_nonneg c (show((Cv T a1).length:Int)≠0 by omega)
 have i2:=Int.emod_lt_of_pos c (show(0:Int)<(Cv T a1).length by omega)
 have s1:=Int.emod_nonneg c (show r.2.2.1≠0 by omega)
 have s2:=Int.emod_lt_of_pos c (show 0<r.2.2.1 by omega)
 obtain⟨i,hi⟩ : ∃ i:Nat,c % ((Cv T a1).length:Int)=(i:Int):=⟨_,(Int.toNat_of_nonneg i1).symm⟩
 obtain⟨k,hk⟩ : ∃ k:Nat,c % r.2.2.1=(k:Int):=⟨_,(Int.toNat_of_nonneg s1).symm⟩
 have hit:=List.getElem?_eq_getElem (show i<(Cv T a1).length by omega)
 rw [hi,hk,Ama (Zc h hne) hit (by omega),R.ok_bind]
 obtain⟨m1,m2⟩:=Uf.1 (List.mem_of_getElem? hit)
 obtain⟨q,hq,hqt⟩:=List.mem_iff_getElem.1 m1
 have ho:Oy r.2.2.1 T (Ps (Cv T a1) (Cv T a1)[i] i k):=⟨q,_,i,k,by rw [List.getElem?_eq_getElem hq,hqt],by rw [m2]; exact hit,by omega,by rw [m2]⟩
 have hpo:=Nat.le_trans (Ad7 ho) (show 16≤1000 by decide)
 have hA:=Agz h L ho
 have hoL:=(hL.is _).2 ho
 unfold Mc
 rw [if_neg (by simp),ec]
 have step : ∀ x:Clearing,Sm x→ValidC x→x.Phase≠1→x.Owners=r.1→x.Commitments=((D9 r.1).map fun a=>Hu (Cv T a))→V4 x (Ps (Cv T a1) (Cv T a1)[i] i k)→Ps (Cv T a1) (Cv T a1)[i] i k ∈ x.Openings→Hr r a1 (Hu (Cv T a1),0) (Ps (Cv T a1) (Cv T a1)[i] i k) x=.ok (.inl ()):=by
  intro x k1 k2 k3 k4 k5 k6 k7
  unfold Hr Mb
  have h0:=(Uf.1 (List.getElem_mem hml)).2
  rw [h.m.getD,show idx (Cv T a1) 0=.ok (Cv T a1)[0] from Gk (List.getElem?_eq_getElem hml),R.ok_bind,h0,Aou h hz k1 k2 k4 k5 ha,R.ok_bind,Anq k1 hpo k2 k3 k6 k7,R.ok_bind,if_neg (by simp),X6,R.ok_bind,R.ok_bind,if_neg (by simp)]
  simp only [Bool.not_true,R.ok_bind,Bool.false_eq_true,if_false]
 show Al ((each _ 0 [Oc r T L,c6] ()).bind _) _
 rw [Xz [Oc r T L,c6] fun j x hx=>?_]
 ·exact Al.ok rfl
 match j,hx with
 | 0,hx=>cases hx; exact step _ hs hV (show ¬ (2:Int)=1 by decide) rfl rfl hA hoL
 | 1,hx=>
  cases hx
  subst hc6
  exact step _ hSy hVy (by omega) rfl rfl hA hoL
 | _+2,hx=>cases hx
end Go.Am
namespace Go.Am
open Go
set_option maxRecDepth 100000
theorem law40_sane_ok:Tf=.ok true:=by kernel_rfl
end Go.Am
