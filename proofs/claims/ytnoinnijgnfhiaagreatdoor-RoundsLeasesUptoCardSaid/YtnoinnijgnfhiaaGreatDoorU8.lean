/- Written by shrink.py from texts of ours: comments struck, what is not reached left out, names short. -/
import Derived.Test.YtnoinnijgnfhiaaGreatDoorU4
import Derived.Test.YtnoinnijgnfhiaaGreatDoorU6
import Derived.KernelRfl
namespace Go.Am
open Go
set_option linter.unusedVariables false
set_option linter.unusedSectionVars false
set_option linter.unusedSimpArgs false
theorem Zk {α σ:Type}(b:Nat→α→σ→R σ)(k:Nat)(s:σ):eachS b k [] s=.ok s:=rfl
theorem Qq {α σ:Type}(b:Nat→α→σ→R σ)(k:Nat)(a:α)(l:List α)(s:σ):eachS b k (a::l) s=(b k a s).bind fun s'=>eachS b (k+1) l s':=by
 rw [eachS]
theorem Ayu {n:Int}(h1 : -9223372036854775808≤n)(h2:n≤9223372036854775807):IntKind.wrap .i64 n=n:=by
 simp [IntKind.wrap,IntKind.bits,IntKind.signed]
 omega
section
variable {K V:Type} [DecidableEq K]
@[simp] theorem A0l (k:K):D0 ([]:List (K×V)) k=none:=rfl
theorem Yd (p:K×V)(m:List (K×V))(k:K):D0 (p::m) k=if p.1=k then some p.2 else D0 m k:=by
 unfold D0
 rw [List.find?_cons]
 by_cases h:p.1=k
 ·simp [h]
 ·rw [if_neg h,show(p.1==k)=false by simpa using h]
theorem Alz (m:List (K×V))(k k':K)(v:V):D0 (L4 m k v) k'=if k=k' then some v else D0 m k':=by
 induction m with
 | nil=>rw [L4,Yd]
 | cons p m ih=>
  rw [L4]
  by_cases h:p.1=k
  ·rw [if_pos (by simpa using h),Yd,Yd]
   subst h
   by_cases h':p.1=k' <;> simp [h']
  ·rw [if_neg (by simpa using h),Yd,Yd,ih]
   by_cases h':p.1=k'
   ·subst h'
    rw [if_pos rfl,if_neg (fun e=>h e.symm),if_pos rfl]
   ·rw [if_neg h',if_neg h']
end
theorem Al3 {α β:Type}{b:Nat→α→List β→R (List β)}{g:α→β}{c:Nat}(hb : ∀ j a s,b j a s=if(s.length+1) * c≤Bz then .ok (s++[g a]) else .bad) :
  ∀ (l:List α) (k:Nat) (s:List β),(s.length+l.length) * c≤Bz→eachS b k l s=.ok (s++l.map g)
 | [],k,s,_=>by simp [Zk]
 | a::l,k,s,h=>by
  have h1:(s.length+1) * c≤Bz:=Nat.le_trans (Nat.mul_le_mul_right _ (by simp)) h
  rw [Qq,hb,if_pos h1,R.ok_bind,Al3 hb l (k+1) (s++[g a]) (by simpa [Nat.add_assoc,Nat.add_comm 1] using h)]
  simp
theorem Rp {α:Type}{l:List α}{j:Nat}{a:α}(h:l[j]? = some a):idx l (j:Int)=.ok a:=by
 unfold idx
 rw [if_pos (by omega)]
 simp [h]
abbrev Ayo:=List UInt8
def pos (l:List Ayo)(x:Ayo):Option Nat:=l.findIdx? (· == x)
end Go.Am
namespace Go.Am
open Go
set_option linter.unusedVariables false
set_option linter.unusedSimpArgs false
def Ak {α:Type}(m:R α)(P:α→Prop):Prop := ∃ a,m=.ok a∧P a
section
variable {α β σ ε:Type}
theorem Ak.ok {a:α}{P:α→Prop}(h:P a):Ak (.ok a) P:=⟨a,rfl,h⟩
theorem Ak.of {m:R α}{a:α}{P:α→Prop}(e:m=.ok a)(h:P a):Ak m P:=⟨a,e,h⟩
theorem Ak.bind {m:R α}{f:α→R β}{P:α→Prop}{Q:β→Prop}(h:Ak m P)(k : ∀ a,P a→Ak (f a) Q):Ak (m.bind f) Q:=by
 obtain⟨a,rfl,ha⟩:=h
 exact k a ha
theorem Ak.mono {m:R α}{P Q:α→Prop}(h:Ak m P)(k : ∀ a,P a→Q a):Ak m Q:=by
 obtain⟨a,e,ha⟩:=h
 exact⟨a,e,k a ha⟩
theorem Ak.eq {m:R α}{a:α}(h:Ak m fun x=>x=a):m=.ok a:=by
 obtain⟨x,e,rfl⟩:=h
 exact e
theorem Ak.np {m:R α}{P:α→Prop}(h:Ak m P):Ak m.np P:=by
 obtain⟨a,rfl,ha⟩:=h
 exact⟨a,rfl,ha⟩
theorem Ak.ite {c:Prop}[Decidable c]{a b:R α}{P:α→Prop}(h1:c→Ak a P)(h2:¬c→Ak b P):Ak (if c then a else b) P:=by
 by_cases hc:c
 ·rw [if_pos hc]; exact h1 hc
 ·rw [if_neg hc]; exact h2 hc
theorem Ak.pos {c:Prop}[Decidable c]{a b:R α}{P:α→Prop}(hc:c)(h:Ak a P):Ak (if c then a else b) P:=by rw [if_pos hc]; exact h
theorem Ak.neg {c:Prop}[Decidable c]{a b:R α}{P:α→Prop}(hc:¬c)(h:Ak b P):Ak (if c then a else b) P:=by rw [if_neg hc]; exact h
theorem Ak.idx {l:List α}{n:Int}{P:α→Prop}(h0:0≤n)(h1:n<(l.length:Int))(h : ∀ a,l[n.toNat]? = some a→P a):Ak (idx l n) P:=by
 have hl:n.toNat<l.length:=by omega
 refine⟨l[n.toNat],?_,h _ (List.getElem?_eq_getElem hl)⟩
 unfold Am.idx
 rw [if_pos h0,List.getElem?_eq_getElem hl]
theorem Ak.eachS {b:Nat→α→σ→R σ}{I:Nat→σ→Prop} : ∀ (l:List α) (k:Nat) (s:σ),I k s→(∀ (j:Nat) a s,l[j]? = some a→I (k+j) s→Ak (b (k+j) a s) (I (k+j+1)))→Ak (eachS b k l s) (I (k+l.length))
 | [],k,s,h,_=>⟨s,rfl,h⟩
 | a::l,k,s,h,hb=>by
  rw [Qq]
  refine(hb 0 a s rfl h).bind fun s' h'=>?_
  have:=Ak.eachS l (k+1) s' h' (fun j a' s hj hi=>by
   have:=hb (j+1) a' s hj (by rwa [Nat.add_assoc,Nat.add_comm 1] at hi)
   rwa [show k+(j+1)=k+1+j by omega] at this)
  rwa [show k+1+l.length=k+(a::l).length by simp; omega] at this
def T7 (I:Nat→σ→Prop)(E:ε→Prop)(n:Nat):σ ⊕ ε→Prop
 | .inl s=>I n s
 | .inr e=>E e
theorem Ak.each {b:Nat→α→σ→R (σ ⊕ ε)}{I:Nat→σ→Prop}{E:ε→Prop} : ∀ (l:List α) (k:Nat) (s:σ),I k s→(∀ (j:Nat) a s,l[j]? = some a→I (k+j) s→Ak (b (k+j) a s) (T7 I E (k+j+1)))→Ak (each b k l s) (T7 I E (k+l.length))
 | [],k,s,h,_=>⟨.inl s,rfl,h⟩
 | a::l,k,s,h,hb=>by
  rw [P4]
  refine(hb 0 a s rfl h).bind fun x h'=>?_
  cases x with
  | inr e=>exact⟨_,rfl,h'⟩
  | inl s'=>
   have:=Ak.each l (k+1) s' h' (fun j a' s hj hi=>by
    have:=hb (j+1) a' s hj (by rwa [Nat.add_assoc,Nat.add_comm 1] at hi)
    rwa [show k+(j+1)=k+1+j by omega] at this)
   rwa [show k+1+l.length=k+(a::l).length by simp; omega] at this
theorem Ak.alt {f:α→R σ}{g:β→R σ}{x:α ⊕ β}{P:α ⊕ β→Prop}{Q:σ→Prop}(hx:P x)(h1 : ∀ a,P (.inl a)→Ak (f a) Q)(h2 : ∀ b,P (.inr b)→Ak (g b) Q):Ak (alt f g x) Q:=by
 cases x with
 | inl a=>exact h1 a hx
 | inr b=>exact h2 b hx
theorem Ak.loop {b:σ→R (σ ⊕ ε)}{I:σ→Prop}{E:ε→Prop}(μ:σ→Nat)(hb : ∀ s,I s→Ak (b s) fun x=>match x with | .inl s'=>I s'∧μ s'<μ s | .inr e=>E e) : ∀ (n:Nat) (s:σ),μ s≤n→I s→Ak (loop b s) E
 | n,s,hn,hs=>by
  rw [Apy]
  obtain⟨x,e,hx⟩:=hb s hs
  rw [e]
  cases x with
  | inr y=>exact⟨y,rfl,hx⟩
  | inl s'=>
   cases n with
   | zero=>exact absurd hx.2 (by omega)
   | succ n=>exact Ak.loop μ hb n s' (by have:=hx.2; omega) hx.1
end
theorem Lj {n:Int}(h1 : -9223372036854775808≤n)(h2:n≤9223372036854775807):IntKind.wrap .i64 n=n:=Ayu h1 h2
def W5 {α:Type}[BEq α](l:List α)(v:α):Int:=match l.findIdx? (v == ·) with
 | some i=>(i:Int)
 | none => -1
theorem Ap1 {α:Type}{b:Nat→α→Unit→R (Unit ⊕ Int)}{p:α→Bool}(hb : ∀ j a,b j a ()=if p a then .ok (.inr (j:Int)) else .ok (.inl ())) : ∀ (l:List α) (k:Nat),
  each b k l ()=match l.findIdx? p with | some i=>.ok (.inr ((k+i:Nat):Int)) | none=>.ok (.inl ())
 | [],k=>rfl
 | a::l,k=>by
  rw [P4,hb,List.findIdx?_cons]
  by_cases h:p a=true
  ·rw [if_pos h,if_pos h]; rfl
  ·rw [if_neg h,if_neg h]
   show each b (k+1) l ()=_
   rw [Ap1 hb l (k+1)]
   cases l.findIdx? p with
   | none=>rfl
   | some i=>simp only [Option.map_some]; congr 2; rw [show k+1+i=k+(i+1) by omega]
theorem Ax0 {α:Type}[BEq α]{b:Nat→α→Unit→R (Unit ⊕ Int)}{v:α}(hb : ∀ j a,b j a ()=if(v==a)=true then .ok (.inr (j:Int)) else .ok (.inl ()))(l:List α) :
  (each b 0 l ()).bind (alt (fun _=>R.ok (-1)) (fun r=>.ok r))=.ok (W5 l v):=by
 rw [Ap1 hb]
 unfold W5
 cases l.findIdx? (v == ·) with
 | none=>rfl
 | some i=>simp [R.bind]
theorem Acf (s:List (Vector Int 32))(v:Vector Int 32):Oz s v=.ok (W5 s v):=Ax0 (fun j a=>rfl) s
theorem S4 (s:List Int)(v:Int):F9 s v=.ok (W5 s v):=Ax0 (fun j a=>rfl) s
theorem Aao {α:Type}[BEq α][LawfulBEq α]{l:List α}{v:α}:(0≤W5 l v)↔v ∈ l:=by
 unfold W5
 cases h:l.findIdx? (v == ·) with
 | none=>
  rw [List.findIdx?_eq_none_iff] at h
  constructor
  ·intro h'; simp at h'
  ·intro hm; have:=h v hm; simp at this
 | some i=>
  rw [List.findIdx?_eq_some_iff_getElem] at h
  obtain⟨hi,h1,_⟩:=h
  constructor
  ·intro _; rw [show v=l[i] by simpa using h1]; exact List.getElem_mem hi
  ·intro _; exact Int.natCast_nonneg _
theorem Ap6 {α:Type}[BEq α][LawfulBEq α]{l:List α}{v:α}:W5 l v<(l.length:Int):=by
 unfold W5
 cases hf:l.findIdx? (v == ·) with
 | none=>simp only; omega
 | some i=>
  rw [List.findIdx?_eq_some_iff_getElem] at hf
  obtain⟨hi,_⟩:=hf
  simp only; omega
theorem Z6 (s:List (Vector Int 32))(v:Vector Int 32):Jo s v=.ok (decide (v ∈ s)):=by
 unfold Jo
 rw [Acf]
 show R.ok (decide (W5 s v≥0))=_
 congr 1
 exact decide_eq_decide.2 Aao
theorem Jq (s:List Int)(v:Int):Fp s v=.ok (decide (v ∈ s)):=by
 unfold Fp
 rw [S4]
 show R.ok (decide (W5 s v≥0))=_
 congr 1
 exact decide_eq_decide.2 Aao
def zD:Vector Int 32:=Bw 32 0
theorem Ay7:(#v[0,0,0,0,0,0,0,0,0,0,0,0,0,0,0,0,0,0,0,0,0,0,0,0,0,0,0,0,0,0,0,0]:Vector Int 32)=zD:=by decide
theorem S8 (c:Clearing):Fl c=.ok (!decide (zD ∈ c.Commitments)):=by
 unfold Fl
 rw [Z6,Ay7]
 rfl
theorem Py (a y:Int):Jh a y=.ok (if a<y then -1 else if a > y then 1 else 0):=by
 unfold Jh Sl
 have h1:(a != a)=false:=by simp
 have h2:(y != y)=false:=by simp
 simp only [h1,h2]
 show(if a<y then R.ok (-1:Int) else if a > y then .ok 1 else .ok 0)=_
 split
 ·rfl
 ·split <;> rfl
def Ao0 (a b:Opening):Int:=if a.Flight<b.Flight then -1 else if a.Flight > b.Flight then 1 else if a.Slot<b.Slot then -1 else if a.Slot > b.Slot then 1 else 0
theorem Akf (a b:Opening):Mk a b=.ok (Ao0 a b):=by
 unfold Mk
 rw [Py,Py]
 show(We _).bind _=_
 unfold We Ao0
 generalize (if a.Slot<b.Slot then(-1:Int) else if a.Slot > b.Slot then 1 else 0)=q
 by_cases h1:a.Flight<b.Flight
 ·simp only [if_pos h1]; rfl
 ·simp only [if_neg h1]
  by_cases h2:a.Flight > b.Flight
  ·simp only [if_pos h2]; rfl
  ·simp only [if_neg h2]
   have e0:M9 0=.ok (.inl ()):=rfl
   have e1:M9 q=if q=0 then .ok (.inl ()) else .ok (.inr q):=by
    unfold M9
    by_cases hq:q=0
    ·subst hq; rfl
    ·rw [if_pos (by simpa using hq),if_neg hq]
   simp only [P4,e0,e1,R.bind,Avg]
   by_cases hq:q=0
   ·subst hq; rfl
   ·rw [if_neg hq]
theorem Aoo {a b:Opening}:Ao0 a b<0↔a.Flight<b.Flight∨(a.Flight=b.Flight∧a.Slot<b.Slot):=by
 unfold Ao0
 split
 ·simp_all
 ·split
  ·constructor
   ·intro h; omega
   ·intro h; omega
  ·split
   ·constructor
    ·intro _; right; omega
    ·intro _; omega
   ·split
    ·constructor <;> intro h <;> omega
    ·constructor <;> intro h <;> omega
theorem Ae7 (a f:Int):Jy a f=.ok (decide (0≤a∧a<8∧0≤f∧f≤4095)):=by
 unfold Jy
 congr 1
 rw [Bool.eq_iff_iff]
 simp only [Bool.and_eq_true,decide_eq_true_eq]
 constructor
 ·intro h; omega
 ·intro h; omega
theorem Agi (c:Int):Kt c=.ok (decide (-1≤c∧c≤1048576)):=by
 unfold Kt
 congr 1
 rw [Bool.eq_iff_iff]
 simp only [Bool.and_eq_true,decide_eq_true_eq]
end Go.Am
namespace Go.Am
open Go
set_option linter.unusedVariables false
set_option linter.unusedSimpArgs false
theorem Asc {L:List Int}{x:Int}:x ∈ Pq L↔x ∈ L:=List.mem_mergeSort
theorem Ar1 (L:List Int):(Pq L).Pairwise (· ≤ ·):=by
 have:=List.pairwise_mergeSort (le:=fun x y:Int=>decide (x≤y)) (fun a b c h1 h2=>by simp at *; omega) (fun a b=>by simp; omega) L
 exact this.imp fun h=>by simpa using h
theorem Aqh : ∀ {l1 l2:List Int},l1.Pairwise (· < ·)→l2.Pairwise (· < ·)→(∀ x,x ∈ l1↔x ∈ l2)→l1=l2
 | [],[],_,_,_=>rfl
 | [],b::l2,_,_,h=>absurd ((h b).2 (List.mem_cons_self ..)) (by simp)
 | a::l1,[],_,_,h=>absurd ((h a).1 (List.mem_cons_self ..)) (by simp)
 | a::l1,b::l2,h1,h2,h=>by
  have k1:=List.pairwise_cons.1 h1
  have k2:=List.pairwise_cons.1 h2
  have hab:a=b:=by
   rcases List.mem_cons.1 ((h a).1 (List.mem_cons_self ..)) with e | e
   ·exact e
   ·rcases List.mem_cons.1 ((h b).2 (List.mem_cons_self ..)) with e' | e'
    ·exact e'.symm
    ·have:=k2.1 a e; have:=k1.1 b e'; omega
  subst hab
  rw [Aqh k1.2 k2.2 fun x=>?_]
  constructor
  ·intro hx
   rcases List.mem_cons.1 ((h x).1 (List.mem_cons_of_mem _ hx)) with e | e
   ·have:=k1.1 x hx; omega
   ·exact e
  ·intro hx
   rcases List.mem_cons.1 ((h x).2 (List.mem_cons_of_mem _ hx)) with e | e
   ·have:=k2.1 x hx; omega
   ·exact e
def inA (a:Int):Prop:=0≤a∧a<8
instance (a:Int):Decidable (inA a):=by unfold inA; exact inferInstance
def Ab6 (owners:List Int):List Int:=((List.range 8).map fun n:Nat=>(n:Int)).filter fun a=>decide (a ∈ owners)
theorem Aol {owners:List Int}{a:Int}:a ∈ Ab6 owners↔inA a∧a ∈ owners:=by
 unfold Ab6 inA
 rw [List.mem_filter,List.mem_map]
 constructor
 ·rintro⟨⟨n,hn,rfl⟩,h⟩
  have:=List.mem_range.1 hn
  exact⟨by omega,by simpa using h⟩
 ·rintro⟨h1,h2⟩
  exact⟨⟨a.toNat,List.mem_range.2 (by omega),by omega⟩,by simpa using h2⟩
theorem Awi (owners:List Int):(Ab6 owners).Pairwise (· < ·):=by
 unfold Ab6
 refine List.Pairwise.filter _ ?_
 decide
def many (owners:List Int)(a:Int):Int:=(owners.count a:Int)
theorem Akm (owners:List Int)(hl:owners.length≤1048576):Ak (Fk owners) fun r=>r.1=Ab6 owners ∧ ∀ a,Option.getD (D0 r.2 a) 0=if inA a then many owners a else 0:=by
 unfold Fk
 refine Ak.bind (P:=fun s=>(∀ a,Option.getD (D0 s.1 a) 0=if inA a then many owners a else 0)∧s.2.Nodup∧(∀ a,a ∈ s.2↔inA a∧a ∈ owners)∧s.2.length≤owners.length) ?_ ?_
 ·have:=Ak.eachS (b:=fun _ a=>Da fun m airlines=>G4 a m airlines) (I:=fun n s=>(∀ a,Option.getD (D0 s.1 a) 0=if inA a then many (owners.take n) a else 0)∧s.2.Nodup∧(∀ a,a ∈ s.2↔inA a∧a ∈ owners.take n)∧s.2.length≤n) owners 0 ([],[]) ?_ ?_
  ·refine this.mono fun s h=>?_
   simpa using h
  ·refine⟨fun a=>by simp [many],by simp,fun a=>by simp,by simp⟩
  ·rintro j a ⟨m,l⟩ hj ⟨h1,h2,h3,h4⟩
   simp only [Nat.zero_add] at h1 h3 h4 ⊢
   have hjl:j<owners.length:=Ay hj
   have htk:owners.take (j+1)=owners.take j++[a]:=by rw [List.take_add_one,hj]; rfl
   have hcnt : ∀ x,many (owners.take (j+1)) x=many (owners.take j) x+if a=x then 1 else 0:=fun x=>by
    unfold many
    rw [htk,List.count_append]
    by_cases hx:a=x
    ·subst hx; simp
    ·rw [if_neg hx,List.count_singleton,if_neg (by simpa using hx)]; simp
   show Ak (G4 a m l) _
   unfold G4
   by_cases ha:inA a
   case neg=>
    rw [if_pos (by simp only [Bool.or_eq_true,decide_eq_true_eq]; unfold inA at ha; omega)]
    refine Ak.ok ⟨fun x=>?_,h2,fun x=>?_,by simp only at h4 ⊢; omega⟩
    ·rw [h1 x]
     by_cases hx:inA x
     ·rw [if_pos hx,if_pos hx,hcnt,if_neg (fun e:a=x=>ha (by rw [e]; exact hx))]; simp
     ·rw [if_neg hx,if_neg hx]
    ·rw [h3 x,htk,List.mem_append,List.mem_singleton]
     constructor
     ·rintro⟨q1,q2⟩; exact⟨q1,.inl q2⟩
     ·rintro⟨q1,q2 | rfl⟩
      ·exact⟨q1,q2⟩
      ·exact absurd q1 ha
   rw [if_neg (by simp only [Bool.or_eq_true,decide_eq_true_eq]; unfold inA at ha; omega)]
   have hm:Option.getD (D0 m a) 0=many (owners.take j) a:=by rw [h1 a,if_pos ha]
   have hcb:0≤many (owners.take j) a∧many (owners.take j) a≤1048576:=by
    have:=List.count_le_length (a:=a) (l:=owners.take j)
    have h':=List.length_take_le j owners
    have h'':=List.length_take_le' j owners
    unfold many; omega
   have hw:IntKind.wrap .i64 (many (owners.take j) a+1)=many (owners.take j) a+1:=Lj (by omega) (by omega)
   have hput : ∀ x,Option.getD (D0 (L4 m a (IntKind.wrap .i64 (Option.getD (D0 m a) 0+1))) x) 0=if inA x then many (owners.take (j+1)) x else 0:=fun x=>by
    rw [Alz,hm,hw]
    by_cases hx:a=x
    ·subst hx; rw [if_pos rfl,if_pos ha,hcnt,if_pos rfl]; rfl
    ·rw [if_neg hx,h1 x]
     by_cases hi:inA x
     ·rw [if_pos hi,if_pos hi,hcnt,if_neg hx]; simp
     ·rw [if_neg hi,if_neg hi]
   have hmem:(many (owners.take j) a=0)↔a ∉ owners.take j:=by
    unfold many
    rw [show((owners.take j).count a:Int)=0↔(owners.take j).count a=0 by omega,List.count_eq_zero]
   refine Ak.ite (fun hz=>?_) (fun hz=>?_)
   ·rw [hm] at hz
    have hna:a ∉ owners.take j:=hmem.1 (by simpa using hz)
    refine Ak.pos ?_ (Ak.ok ⟨hput,?_,fun x=>?_,by simp only [List.length_append,List.length_singleton]; omega⟩)
    ·simp only [List.length_singleton,Bz]; omega
    ·rw [List.nodup_append]
     refine⟨h2,by simp,fun x hx y hy=>?_⟩
     obtain rfl:=List.mem_singleton.1 hy
     intro e; subst e
     exact hna ((h3 _).1 hx).2
    ·rw [List.mem_append,List.mem_singleton,h3 x,htk,List.mem_append,List.mem_singleton]
     constructor
     ·rintro(⟨q1,q2⟩ | rfl)
      ·exact⟨q1,.inl q2⟩
      ·exact⟨ha,.inr rfl⟩
     ·rintro⟨q1,q2 | rfl⟩
      ·exact .inl ⟨q1,q2⟩
      ·exact .inr rfl
   ·rw [hm] at hz
    have hya:a ∈ owners.take j:=by
     by_cases h:a ∈ owners.take j
     ·exact h
     ·exact absurd (hmem.2 h) (by simpa using hz)
    refine Ak.ok ⟨hput,h2,fun x=>?_,by simp only at h4 ⊢; omega⟩
    rw [h3 x,htk,List.mem_append,List.mem_singleton]
    constructor
    ·rintro⟨q1,q2⟩; exact⟨q1,.inl q2⟩
    ·rintro⟨q1,q2 | rfl⟩
     ·exact⟨q1,q2⟩
     ·exact⟨q1,hya⟩
 ·rintro⟨m,l⟩ ⟨h1,h2,h3,h4⟩
  show Ak ((L0 l).bind fun _=>R.ok ((Pq l),m)) _
  unfold L0 Wj
  rw [if_pos (by simp only at h4; unfold Bz; omega)]
  refine Ak.ok ⟨?_,h1⟩
  have hperm:(Pq l).Perm l:=List.mergeSort_perm l _
  have hnd:(Pq l).Nodup:=hperm.nodup_iff.2 h2
  have hlt:(Pq l).Pairwise (· < ·):=by
   have h1:=Ar1 l
   have h2:(Pq l).Pairwise (· ≠ ·):=hnd
   exact(h1.and h2).imp fun h=>by omega
  refine Aqh hlt (Awi owners) fun x=>?_
  rw [Asc,Aol]
  exact h3 x
structure Formed (c:Clearing):Prop where
 no:1≤c.No∧c.No≤1048576
 slots:1≤c.Slots∧c.Slots≤8
 fl:1≤c.Flights.length∧(c.Flights.length:Int)≤c.Slots
 ow:c.Owners.length=c.Flights.length
 lt:c.Flights.Pairwise (· < ·)
 rng : ∀ f ∈ c.Flights,0≤f∧f≤4095
 own : ∀ a ∈ c.Owners,inA a
 com:c.Commitments.length=(Ab6 c.Owners).length
theorem Aq7 (c:Clearing):Ak (Ng c) fun r=>(r=true↔Formed c):=by
 unfold Ng
 refine Ak.ite (fun h=>?_) (fun h=>?_)
 ·refine Ak.ok ⟨fun e=>by simp at e,fun hF=>?_⟩
  simp only [Bool.or_eq_true,decide_eq_true_eq,bne_iff_ne,ne_eq] at h
  have h1:=hF.no; have h2:=hF.slots; have h3:=hF.fl; have h4:=hF.ow
  omega
 ·simp only [Bool.or_eq_true,decide_eq_true_eq,bne_iff_ne,ne_eq,not_or,Decidable.not_not] at h
  obtain⟨⟨⟨⟨⟨⟨n1,n2⟩,n3⟩,n4⟩,n5⟩,n6⟩,n7⟩:=h
  have hE:=Ak.each (b:=fun j a=>fun last=>J0 c j a last) (I:=fun n last=>(c.Flights.take n).Pairwise (· < ·)∧(∀ f ∈ c.Flights.take n,0≤f∧f≤4095∧f≤last)∧(∀ a ∈ c.Owners.take n,inA a) ∧ -1≤last∧(last = -1 ∨ ∃ i,i<n∧c.Flights[i]? = some last))
   (E:=fun r:Bool=>r=false∧¬ Formed c) c.Flights 0 (-1) ⟨by simp,by simp,by simp,by omega,.inl rfl⟩ (fun j a last hj hI=>by
    simp only [Nat.zero_add] at hI ⊢
    obtain⟨p1,p2,p3,p4,p5⟩:=hI
    have hjl:j<c.Flights.length:=Ay hj
    obtain⟨w,hw⟩ : ∃ w,c.Owners[j]? = some w:=⟨_,List.getElem?_eq_getElem (by omega)⟩
    have ht1:c.Flights.take (j+1)=c.Flights.take j++[a]:=by rw [List.take_add_one,hj]; rfl
    have ht2:c.Owners.take (j+1)=c.Owners.take j++[w]:=by rw [List.take_add_one,hw]; rfl
    unfold J0
    rw [Rp hw]
    by_cases q1:a≤last∨a > 4095
    ·rw [if_pos (by simpa using q1)]
     refine Ak.ok ⟨rfl,fun hF=>?_⟩
     have hr:=hF.rng a (List.mem_of_getElem? hj)
     rcases q1 with q1 | q1
     ·rcases p5 with p5 | ⟨i,hi,hl⟩
      ·omega
      ·have hil:i<c.Flights.length:=Ay hl
       have:=List.pairwise_iff_getElem.1 hF.lt i j hil hjl hi
       rw [List.getElem?_eq_getElem hil] at hl
       rw [List.getElem?_eq_getElem hjl] at hj
       simp only [Option.some.injEq] at hl hj
       omega
     ·omega
    ·rw [if_neg (by simpa using q1)]
     simp only [R.bind]
     by_cases q2:w<0
     ·simp only [q2,decide_true,if_true]
      exact Ak.ok ⟨rfl,fun hF=>by have:=hF.own w (List.mem_of_getElem? hw); unfold inA at this; omega⟩
     ·simp only [q2,decide_false,if_false,Bool.false_eq_true]
      by_cases q3:w≥8
      ·simp only [q3,decide_true,if_true]
       exact Ak.ok ⟨rfl,fun hF=>by have:=hF.own w (List.mem_of_getElem? hw); unfold inA at this; omega⟩
      ·simp only [q3,decide_false,if_false,Bool.false_eq_true]
       refine Ak.ok ⟨?_,?_,?_,by omega,.inr ⟨j,by omega,hj⟩⟩
       ·rw [ht1,List.pairwise_append]
        refine⟨p1,by simp,fun x hx y hy=>?_⟩
        obtain rfl:=List.mem_singleton.1 hy
        have:=(p2 x hx).2.2; omega
       ·intro f hf
        rw [ht1,List.mem_append,List.mem_singleton] at hf
        rcases hf with hf | rfl
        ·have:=p2 f hf; omega
        ·omega
       ·intro x hx
        rw [ht2,List.mem_append,List.mem_singleton] at hx
        rcases hx with hx | rfl
        ·exact p3 x hx
        ·unfold inA; omega)
  refine hE.bind fun x hx=>Ak.alt hx (fun last hl=>?_) (fun r hr=>?_)
  ·simp only [T7,Nat.zero_add,List.take_length] at hl
   obtain⟨p1,p2,p3,_⟩:=hl
   have hol:c.Owners.length=c.Flights.length:=by omega
   rw [← hol,List.take_length] at p3
   refine(Akm c.Owners (by omega)).bind fun r hr=>Ak.ok ?_
   rw [hr.1]
   constructor
   ·intro e
    have e':c.Commitments.length=(Ab6 c.Owners).length:=by have:=of_decide_eq_true e; omega
    exact⟨by omega,by omega,by omega,hol,p1,fun f hf=>⟨(p2 f hf).1,(p2 f hf).2.1⟩,p3,e'⟩
   ·intro hF
    rw [hF.com]; simp
  ·obtain⟨rfl,hn⟩:=hr
   exact Ak.ok ⟨fun e=>by simp at e,fun hF=>absurd hF hn⟩
end Go.Am
namespace Go.Am
open Go
set_option linter.unusedVariables false
set_option linter.unusedSimpArgs false
abbrev B6 {α:Type}(m:R α):Prop:=Ak m fun _=>True
theorem B6.ok {α:Type}(a:α):B6 (.ok a):=⟨a,rfl,trivial⟩
theorem B6.bind {α β:Type}{m:R α}{f:α→R β}{Q:β→Prop}(h:B6 m)(k : ∀ a,Ak (f a) Q):Ak (m.bind f) Q:=Ak.bind h fun a _=>k a
theorem Ak.tot {α:Type}{m:R α}{P:α→Prop}(h:Ak m P):B6 m:=h.mono fun _ _=>trivial
theorem B6.eachS {α σ:Type}{b:Nat→α→σ→R σ}(l:List α)(k:Nat)(s:σ)(hb : ∀ (j:Nat) a s,l[j]? = some a→B6 (b (k+j) a s)):B6 (eachS b k l s):=
 Ak.eachS (I:=fun _ _=>True) l k s trivial fun j a s hj _=>hb j a s hj
noncomputable def R.val {α:Type}[Inhabited α]:R α→α
 | .ok a=>a
 | _=>default
theorem B6.eq {α:Type}[Inhabited α]{m:R α}(h:B6 m):m=.ok m.val:=by
 obtain⟨a,rfl,_⟩:=h
 rfl
instance:Inhabited (Vector Int 32):=⟨Bw 32 0⟩
theorem Ag4 (n:Int):0≤IntKind.wrap .u64 n:=by simp [IntKind.wrap,IntKind.bits,IntKind.signed]; omega
theorem Ao9 (a b:Int):0≤Ey .u64 a b:=Ag4 _
theorem Xs (a k:Int):B6 (C8 a k):=by
 unfold C8
 rw [if_pos (Ao9 _ _),if_pos (Ag4 _)]
 exact B6.ok _
theorem Ah5 (v a b c:Int):B6 (Oa v a b c):=by
 unfold Oa
 exact(Xs _ _).bind fun _=>(Xs _ _).bind fun _=>(Xs _ _).bind fun _=>B6.ok _
theorem Aul (b:List Int)(h:4≤b.length):B6 (U0 b):=by
 unfold U0
 rw [if_pos ⟨by decide,by omega⟩]
 exact(B6.eachS _ _ _ fun j a s _=>B6.ok _).bind fun _=>B6.ok _
theorem Aku (b:List Int)(s:Vector Int 8)(h:b.length=64):B6 (Es b s):=by
 unfold Es
 refine B6.bind (B6.eachS _ _ _ fun j a o hj=>?_) fun o=>?_
 ·have hj':j<16:=by have:=Ay hj; simpa using this
  unfold H1
  simp only [Nat.zero_add]
  rw [Lj (by omega) (by omega),if_pos ⟨by omega,by omega⟩]
  refine B6.bind (Aul _ (by rw [List.length_drop]; omega)) fun _=>B6.ok _
 ·refine B6.bind (Ak.loop (I:=fun s:Int×Vector Int 64=>16≤s.1∧s.1≤64) (E:=fun _=>True) (fun s=>(64 - s.1).toNat) ?_ 64 (16,o) (by simp) ⟨Int.le_refl _,by show(16:Int)≤64; decide⟩) fun o2=>?_
  ·rintro⟨x,o1⟩ ⟨h1,h2⟩
   show Ak (Ff x o1) _
   simp only at h1 h2
   unfold Ff
   by_cases hx:x<64
   ·rw [if_pos hx,Lj (n:=x - 15) (by omega) (by omega),Lj (n:=x - 2) (by omega) (by omega),Lj (n:=x - 16) (by omega) (by omega),Lj (n:=x - 7) (by omega) (by omega),
     if_pos ⟨by omega,by omega⟩,if_pos ⟨by omega,by omega⟩,if_pos ⟨by omega,by omega⟩,if_pos ⟨by omega,by omega⟩]
    refine(Xs _ _).bind fun _=>(Xs _ _).bind fun _=>(Xs _ _).bind fun _=>(Xs _ _).bind fun _=>?_
    rw [if_pos ⟨by omega,hx⟩,Lj (n:=x+1) (by omega) (by omega)]
    exact Ak.ok ⟨⟨by simp only; omega,by simp only; omega⟩,by simp only; omega⟩
   ·rw [if_neg hx]; exact Ak.ok trivial
  ·unfold Gc
   refine B6.bind (B6.eachS _ _ _ fun j a o _=>?_) fun o3=>B6.bind (B6.eachS _ _ _ fun j a o _=>B6.ok _) fun _=>B6.ok _
   unfold Jp
   refine(Ah5 _ _ _ _).bind fun _=>(Ah5 _ _ _ _).bind fun _=>?_
   rw [if_pos (List.length_take_le _ _)]
   exact B6.ok _
theorem Aqs (c cp:Nat)(n:Int)(s:Vector Int 128):B6 (Nq c cp n s):=by
 unfold Nq
 refine B6.bind (B6.eachS _ _ _ fun j a o hj=>?_) fun _=>B6.ok _
 have hj':j<8:=by have:=Ay hj; simpa using this
 unfold Si
 simp only [Nat.zero_add]
 rw [Lj (n:=8 * (j:Int)) (by omega) (by omega),Lj (n:=7 - (j:Int)) (by omega) (by omega),if_pos (by omega),if_pos ⟨by omega,by omega⟩]
 exact B6.ok _
theorem Auz (c cp:Nat)(n:Int)(s:Vector Int 32):B6 (Of c cp n s):=by
 unfold Of
 refine B6.bind (B6.eachS _ _ _ fun j a o hj=>?_) fun _=>B6.ok _
 have hj':j<4:=by have:=Ay hj; simpa using this
 unfold Qf
 simp only [Nat.zero_add]
 rw [Lj (n:=8 * (j:Int)) (by omega) (by omega),Lj (n:=3 - (j:Int)) (by omega) (by omega),if_pos (by omega),if_pos ⟨by omega,by omega⟩]
 exact B6.ok _
theorem Akx (r:List Int)(o:Vector Int 8)(k:Nat)(h:r.length=64 * k):B6 (loop (Da fun vend o2=>I2 vend o2) (r,o)):=by
 refine Ak.loop (I:=fun s:List Int×Vector Int 8 => ∃ k,s.1.length=64 * k) (E:=fun _=>True) (fun s=>s.1.length) ?_ r.length (r,o) (Nat.le_refl _) ⟨k,h⟩
 rintro⟨v,o⟩ ⟨k,hk⟩
 show Ak (I2 v o) _
 simp only at hk
 unfold I2
 by_cases hv:(v.length:Int) > 0
 ·rw [if_pos hv,if_pos ⟨by decide,by omega⟩]
  refine B6.bind (Aku _ _ (by rw [List.length_take,show Int.toNat 64=64 from rfl]; omega)) fun _=>?_
  rw [if_pos ⟨by decide,by omega⟩]
  refine Ak.ok ⟨⟨k - 1,?_⟩,?_⟩
  ·simp only [List.length_drop,show Int.toNat 64=64 from rfl]; omega
  ·simp only [List.length_drop,show Int.toNat 64=64 from rfl]; omega
 ·rw [if_neg hv]; exact Ak.ok trivial
theorem Atb:M8=I2:=rfl
theorem Ajf (o:Vector Int 8):B6 (Lh o):=by
 unfold Lh
 refine B6.bind (B6.eachS _ _ _ fun j a o4 hj=>?_) fun _=>B6.ok _
 have hj':j<8:=by have:=Ay hj; simpa using this
 unfold Sr
 simp only [Nat.zero_add]
 rw [Lj (n:=4 * (j:Int)) (by omega) (by omega),Lj (n:=4 * (j:Int)+4) (by omega) (by omega),if_pos ⟨rfl,by omega,by omega⟩]
 exact(Auz _ _ _ _).bind fun _=>B6.ok _
theorem At1:Pe=Lh:=rfl
theorem Aqb (b:List Int):B6 (Cx b):=by
 unfold Cx
 refine Ak.bind (P:=fun s:List Int×Vector Int 8=>s.1.length<64) (Ak.loop (I:=fun s:List Int×Vector Int 8=>True) (fun s=>s.1.length) ?_ b.length (b,Adu) (Nat.le_refl _) trivial) ?_
 ·rintro⟨r,o⟩ _
  show Ak (Lk r o) _
  unfold Lk
  by_cases hr:(r.length:Int)≥64
  ·rw [if_pos hr,if_pos ⟨by decide,by omega⟩]
   refine B6.bind (Aku _ _ (by rw [List.length_take,show Int.toNat 64=64 from rfl]; omega)) fun _=>?_
   rw [if_pos ⟨by decide,by omega⟩]
   refine Ak.ok ⟨trivial,?_⟩
   simp only [List.length_drop,show Int.toNat 64=64 from rfl]; omega
  ·rw [if_neg hr]; exact Ak.ok (by simp only; omega)
 ·rintro⟨r,o⟩ hr
  show Ak (Li b r o) _
  simp only at hr
  unfold Li
  rw [if_pos (by omega),if_pos ⟨by omega,by omega⟩]
  refine Ak.ite (fun h=>?_) (fun h=>?_)
  ·exact(Aqs _ _ _ _).bind fun r1=>(Akx _ _ 2 (by simp)).bind fun _=>Ajf _
  ·rw [Atb,At1]
   exact(Aqs _ _ _ _).bind fun r1=>(Akx _ _ 1 (by simp)).bind fun _=>Ajf _
theorem Agf (a b:List Int)(h:a.length+b.length≤1048576):F6 [a,b]=.ok (a++b):=by
 unfold F6
 have e1:eachS (fun _ a=>fun size=>Ig a size) 0 [a,b] 0=.ok ((a.length:Int)+(b.length:Int)):=by
  simp only [Qq,Zk,Ig]
  rw [Lj (n:=0+(a.length:Int)) (by omega) (by omega),if_neg (by omega)]
  simp only [R.bind]
  rw [Lj (by omega) (by omega),if_neg (by omega)]
  simp
 rw [e1]
 simp only [R.bind]
 have e2:Iz ((a.length:Int)+(b.length:Int))=.ok []:=by
  unfold Iz
  rw [if_neg (by omega),Lj (by omega) (by omega)]
  by_cases h0:(a.length:Int)+(b.length:Int) - 0 > 0
  ·rw [if_pos h0,if_pos ⟨by omega,by unfold Bz; omega⟩,if_pos ⟨by decide,by omega⟩]; rfl
  ·rw [if_neg h0]
 rw [e2]
 simp only [R.bind,Qq,Zk,If]
 rw [if_pos (by simp only [List.length_nil,Bz]; omega)]
 simp only [R.bind,List.nil_append]
 rw [if_pos (by unfold Bz; omega)]
theorem Adn (tag:Uy)(b:List Int)(ht:tag.length≤16)(hb:b.length≤1048000):B6 (Hn tag b):=by
 unfold Hn
 rw [if_pos (by unfold Bz; omega)]
 refine(Aqb _).bind fun r=>?_
 rw [Agf _ _ (by rw [Vector.length_toList]; omega)]
 exact(Aqb _).bind fun _=>B6.ok _
noncomputable def Av5 (d:Vector Int 32):Vector Int 32:=(Mi d).val
noncomputable def Aq9 (a b:Vector Int 32):Vector Int 32:=(Kk a b).val
theorem Axd (d:Vector Int 32):Mi d=.ok (Av5 d):=by
 refine B6.eq ?_
 unfold Mi
 exact(Adn _ _ (by decide) (by rw [Vector.length_toList]; decide)).bind fun _=>B6.ok _
theorem Axg (a b:Vector Int 32):Kk a b=.ok (Aq9 a b):=by
 refine B6.eq ?_
 unfold Kk
 rw [Agf _ _ (by rw [Vector.length_toList,Vector.length_toList]; decide)]
 exact(Adn _ _ (by decide) (by simp)).bind fun _=>B6.ok _
theorem Ah7 (u:Int)(l:List Int)(hu:0≤u∧u<18446744073709551616)(hl:l.length≤1000):Ak (F3 u l) fun r=>l.length<r.length∧r.length≤l.length+11:=by
 unfold F3
 refine Ak.bind (P:=fun s:Int×List Int=>l.length≤s.2.length∧s.2.length≤l.length+10) (Ak.loop (I:=fun s:Int×List Int => ∃ k:Nat,k≤10∧s.2.length=l.length+k∧0≤s.1∧s.1 * 128 ^ k<1180591620717411303424) (fun s=>s.1.toNat) ?_ u.toNat (u,l) (Nat.le_refl _) ⟨0,by omega,rfl,hu.1,by simp only [Int.pow_zero]; omega⟩) ?_
 ·rintro⟨u1,b⟩ ⟨k,h1,h2,h3,h4⟩
  show Ak (Ip u1 b) _
  simp only at h2 h3 h4
  unfold Ip
  by_cases hu1:u1≥128
  ·have hk:k<10:=by
    rcases Nat.lt_or_ge k 10 with h | h
    ·exact h
    ·obtain rfl:k=10:=by omega
     rw [show(128:Int) ^ 10=1180591620717411303424 from rfl] at h4
     omega
   rw [if_pos hu1,if_pos (by simp only [List.length_singleton,Bz]; omega)]
   refine Ak.ok ⟨⟨k+1,by omega,by simp only [List.length_append,List.length_singleton]; omega,by simp only; exact Int.fdiv_nonneg h3 (by decide),?_⟩,?_⟩
   ·simp only
    rw [Int.fdiv_eq_ediv_of_nonneg _ (by decide),Int.pow_succ]
    have h5:u1 / 128 * 128≤u1:=Int.ediv_mul_le _ (by decide)
    have h6:(0:Int)≤128 ^ k:=Int.pow_nonneg (by decide)
    calc u1 / 128 * (128 ^ k * 128)=(u1 / 128 * 128) * 128 ^ k:=by rw [Int.mul_comm (128 ^ k) 128,← Int.mul_assoc]
     _≤u1 * 128 ^ k:=Int.mul_le_mul_of_nonneg_right h5 h6
     _<_:=h4
   ·simp only
    rw [Int.fdiv_eq_ediv_of_nonneg _ (by decide)]
    omega
  ·rw [if_neg hu1]; exact Ak.ok ⟨by simp only; omega,by simp only; omega⟩
 ·rintro⟨u2,b⟩ ⟨h1,h2⟩
  show Ak (Il u2 b) _
  simp only at h1 h2
  unfold Il
  rw [if_pos (by simp only [List.length_singleton,Bz]; omega)]
  exact Ak.ok ⟨by simp only [List.length_append,List.length_singleton]; omega,by simp only [List.length_append,List.length_singleton]; omega⟩
theorem Aqp (n:Int):IntKind.wrap .u64 n<18446744073709551616:=by simp [IntKind.wrap,IntKind.bits,IntKind.signed]; omega
theorem Ayz (v:Value)(l:List Int)(hl:l.length≤900):Ak (Ek v l) fun r=>l.length<r.length∧r.length≤l.length+12:=by
 unfold Ek
 rw [if_pos (by simp only [List.length_singleton,Bz]; omega)]
 unfold Rh
 simp only [R.bind]
 refine(Ah7 _ _ ⟨Ag4 _,Aqp _⟩ (by simp only [List.length_append,List.length_singleton]; omega)).bind fun r hr=>Ak.ok ?_
 simp only [List.length_append,List.length_singleton] at hr
 omega
abbrev Aef (n:Int):Value:={ Kind:=1,N:=n,S:=[],L:=[] }
theorem Ar0 (n:Nat)(a:Int):Ht (n+1) (Aef a)=.ok (0,true):=by
 rw [Ht]
 rfl
theorem Apb (l:List Int)(hl:l.length≤8) : ∃ b,(b≤1)∧Rn ({ Kind:=3,N:=0,S:=[],L:=l.map Aef }:Value)=.ok (b,true):=by
 unfold Rn
 rw [Vy,show(4000000:Nat)=3999998+1+1 from rfl,Ht]
 unfold N6
 have e : ∀ (l:List Int) (k:Nat),each (fun _ a=>fun depth=>Ia (Ht (3999998+1)) a depth) k (l.map Aef) 0=.ok (.inl 0):=by
  intro l
  induction l with
  | nil=>intro k; rfl
  | cons a l ih=>
   intro k
   rw [List.map_cons,P4]
   have:Ia (Ht (3999998+1)) (Aef a) 0=.ok (.inl 0):=by
    unfold Ia
    rw [Ar0]
    rfl
   rw [this]
   exact ih (k+1)
 refine⟨1,by decide,?_⟩
 have h1:((decide ((3:Int)<1))||(decide ((3:Int) > 3)))=false:=by decide
 simp only [h1,Bool.false_eq_true,if_false]
 rw [if_pos (by decide)]
 simp only [R.bind,e]
 rfl
theorem Ar3 (l:List Int)(hl:l.length≤8):Ak (Mq ({ Kind:=3,N:=0,S:=[],L:=l.map Aef }:Value)) fun r=>r.2=0∧r.1.length≠0∧r.1.length≤200:=by
 obtain⟨b,hb,e⟩:=Apb l hl
 have e1:Qn ({ Kind:=3,N:=0,S:=[],L:=l.map Aef }:Value)=.ok 0:=by
  unfold Qn
  rw [e]
  simp only [R.bind]
  rw [if_pos trivial,if_neg (by omega)]
 unfold Mq
 rw [e1]
 simp only [R.bind]
 rw [if_neg (by decide)]
 unfold La
 simp only [R.bind]
 rw [if_neg (by decide),if_neg (by decide),if_neg (by decide),if_pos trivial]
 refine Ak.bind (P:=fun r:List Int=>r.length≠0∧r.length≤200) ?_ fun r hr=>Ak.ok ⟨rfl,hr⟩
 unfold Io
 rw [if_pos (by decide)]
 refine(Ah7 _ _ ⟨Ag4 _,Aqp _⟩ (by decide)).bind fun r hr=>?_
 refine Ak.bind (P:=fun r:List Int=>r.length≠0∧r.length≤200) ?_ fun r hr=>Ak.ok hr
 have:=Ak.eachS (b:=fun _ a=>fun b1=>Fq a b1) (I:=fun n (r:List Int)=>r.length≠0∧r.length≤12+12 * n) (l.map Aef) 0 r ⟨by have:=hr.1; omega,by have:=hr.2; simp only [List.length_singleton] at this; omega⟩ (fun j a s hj hI=>by
  rw [List.getElem?_map] at hj
  obtain⟨x,hx,rfl⟩:=Option.map_eq_some_iff.1 hj
  have hjl:j<l.length:=Ay hx
  unfold Fq
  rw [if_neg (by show ¬ (1:Int)=0; decide),if_pos rfl]
  refine(Ayz _ _ (by omega)).bind fun r hr=>Ak.ok ⟨by omega,by omega⟩)
 refine this.mono fun s hs=>⟨hs.1,?_⟩
 have:=hs.2
 rw [List.length_map] at this
 omega
theorem Ast (salt:Vector Int 32)(l:List Int)(hl:l.length≤8):B6 (Gy salt l):=by
 unfold Gy
 have e:eachS (fun _ a=>fun l1=>G7 a l1) 0 l []=.ok (l.map Aef):=by
  have:=Ak.eachS (b:=fun _ a=>fun l1=>G7 a l1) (I:=fun n (r:List Value)=>r=(l.take n).map Aef) l 0 [] rfl (fun j a s hj hI=>by
   simp only [Nat.zero_add] at hI ⊢
   subst hI
   have hjl:j<l.length:=Ay hj
   unfold G7
   rw [if_pos (by simp only [List.length_singleton,List.length_map,List.length_take,Bz]; omega)]
   refine Ak.ok ?_
   rw [List.take_add_one,hj]
   simp)
  refine Ak.eq (this.mono fun s hs=>?_)
  rw [hs,Nat.zero_add,List.take_length]
 rw [e]
 simp only [R.bind]
 refine(Ar3 l hl).bind fun r hr=>?_
 rw [if_pos ⟨hr.2.1,by unfold Bz; omega⟩]
 exact(Adn _ _ (by decide) (by rw [List.length_append,Vector.length_toList]; omega)).bind fun _=>B6.ok _
noncomputable def Aan (salt:Vector Int 32)(l:List Int):Vector Int 32:=(Gy salt l).val
theorem Auv (salt:Vector Int 32)(l:List Int)(hl:l.length≤8):Gy salt l=.ok (Aan salt l):=(Ast salt l hl).eq
end Go.Am
namespace Go.Am
open Go
set_option linter.unusedVariables false
set_option linter.unusedSimpArgs false
def Ii (n:Int):Int:=if n≤2 then 1 else if n≤4 then 2 else 4
theorem Azk:Ga 2=.ok 1:=by kernel_rfl
theorem Azy:Ga 3=.ok 2:=by kernel_rfl
theorem Azp:Ga 4=.ok 2:=by kernel_rfl
theorem Ay9:Ga 5=.ok 4:=by kernel_rfl
theorem Azf:Ga 6=.ok 4:=by kernel_rfl
theorem Aza:Ga 7=.ok 4:=by kernel_rfl
theorem Azz:Ga 8=.ok 4:=by kernel_rfl
theorem Axe (n:Int)(h1:2≤n)(h2:n≤8):Ga n=.ok (Ii n):=by
 have:n=2∨n=3∨n=4∨n=5∨n=6∨n=7∨n=8:=by omega
 rcases this with rfl | rfl | rfl | rfl | rfl | rfl | rfl
 ·exact Azk
 ·exact Azy
 ·exact Azp
 ·exact Ay9
 ·exact Azf
 ·exact Aza
 ·exact Azz
theorem Amb (n:Int)(h1:2≤n)(h2:n≤8):1≤Ii n∧Ii n<n:=by
 unfold Ii
 split
 ·omega
 ·split <;> omega
def Ds:Nat→Int→Int→List Bool
 | 0,_,_=>[]
 | f+1,a,n=>if n > 1 then decide (a<Ii n)::(if a<Ii n then Ds f a (Ii n) else Ds f (a - Ii n) (n - Ii n)) else []
theorem Af5 : ∀ (f:Nat) (a n:Int),(Ds f a n).length≤f
 | 0,_,_=>Nat.le_refl _
 | f+1,a,n=>by
  unfold Ds
  split
  ·simp only [List.length_cons]
   split
   ·have:=Af5 f a (Ii n); omega
   ·have:=Af5 f (a - Ii n) (n - Ii n); omega
  ·simp
theorem An0 (a n:Int)(l:List Bool)(h:¬ n > 1):F5 a n l=.ok (.inr l):=by unfold F5; rw [if_neg h]
theorem Apw (a n:Int)(l:List Bool)(h0:0≤a)(ha:a<n)(h:n > 1)(h3:n≤8)(hl:l.length≤100):F5 a n l=.ok (.inl (if a<Ii n then(a,Ii n,l++[decide (a<Ii n)]) else(a - Ii n,n - Ii n,l++[decide (a<Ii n)]))):=by
 have hr:=Amb n (by omega) h3
 unfold F5
 rw [if_pos h,Axe n (by omega) h3]
 simp only [R.bind]
 rw [if_pos (by simp only [List.length_singleton,Bz]; omega)]
 by_cases q:a<Ii n
 ·rw [if_pos q,if_pos q]
 ·rw [if_neg q,if_neg q,Lj (by omega) (by omega),Lj (by omega) (by omega)]
theorem Aec : ∀ (f:Nat) (a n:Int) (l:List Bool),0≤a→a<n→n≤8→n≤(f:Int)+1→l.length+f≤100 →
  loop (Tg fun vat1 n1 first=>F5 vat1 n1 first) (a,n,l)=.ok (l++Ds f a n)
 | f,a,n,l,h1,h2,h3,h4,h5=>by
  rw [Apy]
  show((F5 a n l).bind _)=_
  by_cases hn:n > 1
  case neg=>
   rw [An0 a n l hn]
   cases f with
   | zero=>simp [R.bind,Ds]
   | succ f=>unfold Ds; rw [if_neg hn]; simp [R.bind]
  cases f with
  | zero=>omega
  | succ f=>
   have hr:=Amb n (by omega) h3
   rw [Apw a n l h1 h2 hn h3 (by omega)]
   simp only [R.bind]
   by_cases ha:a<Ii n
   ·rw [if_pos ha]
    rw [Aec f a (Ii n) _ h1 ha (by omega) (by omega) (by simp only [List.length_append,List.length_singleton]; omega)]
    rw [show Ds (f+1) a n=decide (a<Ii n)::Ds f a (Ii n) by rw [Ds,if_pos hn,if_pos ha]]
    simp
   ·rw [if_neg ha]
    rw [Aec f (a - Ii n) (n - Ii n) _ (by omega) (by omega) (by omega) (by omega) (by simp only [List.length_append,List.length_singleton]; omega)]
    rw [show Ds (f+1) a n=decide (a<Ii n)::Ds f (a - Ii n) (n - Ii n) by rw [Ds,if_pos hn,if_neg ha]]
    simp
noncomputable def up1 (x:Vector Int 32)(q:Vector Int 32×Bool):Vector Int 32:=if q.2 then Aq9 x q.1 else Aq9 q.1 x
noncomputable def Oo (d:Vector Int 32)(ts:List Bool)(p:List (Vector Int 32)):Vector Int 32:=(p.zip ts.reverse).foldl up1 (Av5 d)
theorem Ao5 (j:Nat)(a x:Vector Int 32)(ts:List Bool)(ht:ts.length≤100)(hj:j<ts.length):G0 j a x ts=.ok (up1 x (a,ts[ts.length - 1 - j]'(by omega)),ts):=by
 unfold G0
 rw [Lj (n:=(ts.length:Int) - 1) (by omega) (by omega),Lj (by omega) (by omega),show(ts.length:Int) - 1 - (j:Int)=((ts.length - 1 - j:Nat):Int) by omega,Rp (List.getElem?_eq_getElem (show ts.length - 1 - j<ts.length by omega))]
 simp only [R.bind,up1,Axg]
 split <;> rfl
theorem Aot (ts:List Bool)(ht:ts.length≤100) : ∀ (p:List (Vector Int 32)) (k:Nat) (x:Vector Int 32),k+p.length=ts.length →
  eachS (fun j a=>Da fun o first2=>G0 j a o first2) k p (x,ts)=.ok ((p.zip (ts.reverse.drop k)).foldl up1 x,ts)
 | [],k,x,h=>by simp [Zk]
 | a::p,k,x,h=>by
  have hk:k<ts.length:=by simp only [List.length_cons] at h; omega
  rw [Qq]
  show((G0 k a x ts).bind _)=_
  have hd:ts.reverse.drop k=(ts[ts.length - 1 - k]'(by omega))::ts.reverse.drop (k+1):=by
   rw [List.drop_eq_getElem_cons (by rw [List.length_reverse]; exact hk)]
   congr 1
   rw [List.getElem_reverse]
  rw [hd,List.zip_cons_cons,List.foldl_cons,Ao5 k a x ts ht hk]
  exact Aot ts ht p (k+1) _ (by simp only [List.length_cons] at h; omega)
theorem Aoa (d:Vector Int 32)(a n:Int)(p:List (Vector Int 32))(h1:1≤n)(h2:n≤8) :
  Mp d a n p=.ok (if 0≤a∧a<n∧p.length=(Ds 8 a n).length then(Oo d (Ds 8 a n) p,0) else(zD,1)):=by
 unfold Mp
 by_cases ha:0≤a∧a<n
 case neg=>
  rw [if_pos (by simp only [Bool.or_eq_true,decide_eq_true_eq]; omega),if_neg (by omega)]
  rfl
 rw [if_neg (by simp only [Bool.or_eq_true,decide_eq_true_eq]; omega)]
 rw [Aec 8 a n [] ha.1 ha.2 h2 (by omega) (by decide),List.nil_append]
 simp only [R.bind]
 unfold Kp
 have hl:=Af5 8 a n
 by_cases hp:p.length=(Ds 8 a n).length
 ·rw [if_neg (by simp [hp]),if_pos ⟨ha.1,ha.2,hp⟩,Axd]
  simp only [R.bind]
  rw [Aot _ (by omega) p 0 _ (by omega)]
  simp only [R.bind,Da,List.drop_zero]
  rfl
 ·rw [if_pos (by simp; omega),if_neg (fun h=>hp h.2.2)]
  rfl
def Am5 (a f:Int):Prop:=0≤a∧a<8∧0≤f∧f≤4095
def Aeo (d:Vector Int 32)(airline tables slots:Int)(o:Opening):Prop:=
 1≤tables∧tables≤8∧1≤slots∧slots≤8∧o.Airline=airline∧Am5 o.Airline o.Flight∧0≤o.Slot∧o.Slot<slots∧(-1≤o.Cost∧o.Cost≤1048576) ∧
 ∃ n:Nat,n≤o.Path.length∧(o.Path.take n).length=(Ds 8 o.Slot slots).length ∧ ∃ at_:Int,0≤at_∧at_<tables∧(o.Path.drop n).length=(Ds 8 at_ tables).length ∧
  Oo (Oo (Aan o.Salt [o.Airline,o.Flight,o.Slot,o.Cost]) (Ds 8 o.Slot slots) (o.Path.take n)) (Ds 8 at_ tables) (o.Path.drop n)=d
theorem Asf (d:Vector Int 32)(airline tables slots:Int)(o:Opening)(hp:o.Path.length≤1000) :
  Ak (Jc d airline tables slots o) fun e=>(e=0∧Aeo d airline tables slots o)∨(e=360∧¬ Aeo d airline tables slots o):=by
 unfold Jc
 rw [Ae7,Agi]
 by_cases q1:tables<1∨tables > 8∨slots<1∨slots > 8∨o.Airline≠airline
 ·rw [if_pos (by simp only [Bool.or_eq_true,decide_eq_true_eq,bne_iff_ne]; omega)]
  simp only [R.bind,Bool.true_or,if_true]
  refine Ak.ok (.inr ⟨rfl,fun h=>?_⟩)
  obtain⟨h1,h2,h3,h4,h5,_⟩:=h
  omega
 rw [if_neg (by simp only [Bool.or_eq_true,decide_eq_true_eq,bne_iff_ne]; omega)]
 simp only [R.bind]
 by_cases q2:Am5 o.Airline o.Flight∧0≤o.Slot∧o.Slot<slots
 case neg=>
  rw [if_pos (by
   simp only [Bool.or_eq_true,Bool.not_eq_true',decide_eq_true_eq,decide_eq_false_iff_not]
   unfold Am5 at q2
   omega)]
  simp only [if_true]
  refine Ak.ok (.inr ⟨rfl,fun h=>q2 ?_⟩)
  obtain⟨h1,h2,h3,h4,h5,h6,h7,h8,_⟩:=h
  exact⟨h6,h7,h8⟩
 obtain⟨q2,q3,q4⟩:=q2
 rw [if_neg (by
  simp only [Bool.or_eq_true,Bool.not_eq_true',decide_eq_true_eq,decide_eq_false_iff_not]
  have:=q2
  unfold Am5 at this
  omega)]
 simp only [R.bind]
 by_cases q5 : -1≤o.Cost∧o.Cost≤1048576
 case neg=>
  rw [if_pos (by simp only [Bool.not_eq_true',decide_eq_false_iff_not]; exact q5)]
  refine Ak.ok (.inr ⟨rfl,fun h=>q5 ?_⟩)
  obtain⟨h1,h2,h3,h4,h5,h6,h7,h8,h9,_⟩:=h
  exact h9
 rw [if_neg (by simp only [Bool.not_eq_true',decide_eq_false_iff_not,Decidable.not_not]; exact q5),Auv _ _ (by simp)]
 simp only [R.bind]
 have hV : ∀ n:Nat,n≤o.Path.length→(o.Path.take n).length=(Ds 8 o.Slot slots).length → ∀ at_:Int,0≤at_→at_<tables→(o.Path.drop n).length=(Ds 8 at_ tables).length →
   Oo (Oo (Aan o.Salt [o.Airline,o.Flight,o.Slot,o.Cost]) (Ds 8 o.Slot slots) (o.Path.take n)) (Ds 8 at_ tables) (o.Path.drop n)=d→Aeo d airline tables slots o:=by
  intro n h1 h2 at_ h3 h4 h5 h6
  exact⟨by omega,by omega,by omega,by omega,by omega,q2,q3,q4,q5,n,h1,h2,at_,h3,h4,h5,h6⟩
 refine Ak.bind (P:=fun x:Unit ⊕ Int=>(x=.inl ()∧¬ Aeo d airline tables slots o)∨(x=.inr 0∧Aeo d airline tables slots o))
  (Ak.loop (I:=fun x:Int=>0≤x∧x≤(o.Path.length:Int)+1 ∧ ∀ n:Nat,(n:Int)<x→(o.Path.take n).length=(Ds 8 o.Slot slots).length → ∀ at_:Int,0≤at_→at_<tables→(o.Path.drop n).length=(Ds 8 at_ tables).length →
   Oo (Oo (Aan o.Salt [o.Airline,o.Flight,o.Slot,o.Cost]) (Ds 8 o.Slot slots) (o.Path.take n)) (Ds 8 at_ tables) (o.Path.drop n)≠d) (fun x=>((o.Path.length:Int)+1 - x).toNat) ?_ (o.Path.length+1) 0 (by omega) ⟨by omega,by omega,fun n h=>absurd h (by omega)⟩) ?_
 ·intro x ⟨x1,x2,x3⟩
  unfold Hf
  rw [Lj (n:=(o.Path.length:Int)+1) (by omega) (by omega)]
  by_cases hx:x<(o.Path.length:Int)+1
  case neg=>
   rw [if_neg hx]
   refine Ak.ok (.inl ⟨rfl,fun h=>?_⟩)
   obtain⟨h1,h2,h3,h4,h5,h6,h7,h8,h9,n,k1,k2,at_,k3,k4,k5,k6⟩:=h
   exact x3 n (by omega) k2 at_ k3 k4 k5 k6
  rw [if_pos hx,if_pos ⟨x1,by omega⟩,if_pos ⟨x1,by omega⟩,Aoa _ _ _ _ (by omega) (by omega)]
  simp only [R.bind]
  have hnext : ∀ y:Int,y=x+1→(∀ at_:Int,0≤at_→at_<tables→(o.Path.take x.toNat).length=(Ds 8 o.Slot slots).length→(o.Path.drop x.toNat).length=(Ds 8 at_ tables).length →
    Oo (Oo (Aan o.Salt [o.Airline,o.Flight,o.Slot,o.Cost]) (Ds 8 o.Slot slots) (o.Path.take x.toNat)) (Ds 8 at_ tables) (o.Path.drop x.toNat)≠d) →
    (0≤y∧y≤(o.Path.length:Int)+1 ∧ ∀ n:Nat,(n:Int)<y→(o.Path.take n).length=(Ds 8 o.Slot slots).length → ∀ at_:Int,0≤at_→at_<tables→(o.Path.drop n).length=(Ds 8 at_ tables).length →
     Oo (Oo (Aan o.Salt [o.Airline,o.Flight,o.Slot,o.Cost]) (Ds 8 o.Slot slots) (o.Path.take n)) (Ds 8 at_ tables) (o.Path.drop n)≠d)∧((o.Path.length:Int)+1 - y).toNat<((o.Path.length:Int)+1 - x).toNat:=by
   rintro y rfl h
   refine⟨⟨by omega,by omega,fun n hn k2 at_ k3 k4 k5=>?_⟩,by omega⟩
   rcases Int.lt_or_le (n:Int) x with hlt | hge
   ·exact x3 n hlt k2 at_ k3 k4 k5
   ·obtain rfl:n=x.toNat:=by omega
    exact h at_ k3 k4 k2 k5
  by_cases hf:(o.Path.take x.toNat).length=(Ds 8 o.Slot slots).length
  case neg=>
   rw [if_neg (show ¬ (0≤o.Slot∧o.Slot<slots∧(o.Path.take x.toNat).length=(Ds 8 o.Slot slots).length) from fun h=>hf h.2.2)]
   rw [if_pos (by decide)]
   exact Ak.ok (hnext _ (Lj (by omega) (by omega)) fun at_ _ _ h=>absurd h hf)
  rw [if_pos (show 0≤o.Slot∧o.Slot<slots∧(o.Path.take x.toNat).length=(Ds 8 o.Slot slots).length from⟨q3,q4,hf⟩)]
  rw [if_neg (by simp)]
  generalize hX:Oo (Aan o.Salt [o.Airline,o.Flight,o.Slot,o.Cost]) (Ds 8 o.Slot slots) (o.Path.take x.toNat)=X at *
  refine Ak.bind (P:=fun y:Unit ⊕ Int=>(y=.inl () ∧ ∀ at_:Int,0≤at_→at_<tables→(o.Path.drop x.toNat).length=(Ds 8 at_ tables).length→Oo X (Ds 8 at_ tables) (o.Path.drop x.toNat)≠d)∨(y=.inr 0∧Aeo d airline tables slots o))
   (Ak.loop (I:=fun y:Int=>0≤y∧y≤tables ∧ ∀ at_:Int,0≤at_→at_<y→(o.Path.drop x.toNat).length=(Ds 8 at_ tables).length→Oo X (Ds 8 at_ tables) (o.Path.drop x.toNat)≠d) (fun y=>(tables - y).toNat) ?_ tables.toNat 0 (by omega) ⟨by omega,by omega,fun a h1 h2=>by omega⟩) ?_
  ·intro y ⟨y1,y2,y3⟩
   unfold Hi
   by_cases hy:y<tables
   case neg=>
    rw [if_neg hy]
    exact Ak.ok (.inl ⟨rfl,fun a h1 h2=>y3 a h1 (by omega)⟩)
   rw [if_pos hy,Aoa _ _ _ _ (by omega) (by omega)]
   simp only [R.bind]
   by_cases hl:(o.Path.drop x.toNat).length=(Ds 8 y tables).length
   case neg=>
    rw [if_neg (show ¬ (0≤y∧y<tables∧(o.Path.drop x.toNat).length=(Ds 8 y tables).length) from fun h=>hl h.2.2)]
    rw [if_neg (by simp),Lj (by omega) (by omega)]
    refine Ak.ok ⟨⟨by omega,by omega,fun a h1 h2 h3=>?_⟩,by omega⟩
    rcases Int.lt_or_le a y with h | h
    ·exact y3 a h1 h h3
    ·obtain rfl:a=y:=by omega
     exact absurd h3 hl
   rw [if_pos (show 0≤y∧y<tables∧(o.Path.drop x.toNat).length=(Ds 8 y tables).length from⟨y1,hy,hl⟩)]
   by_cases he:Oo X (Ds 8 y tables) (o.Path.drop x.toNat)=d
   ·rw [if_pos (by simp [he])]
    exact Ak.ok (.inr ⟨rfl,hV x.toNat (by omega) hf y y1 hy hl (by rw [hX]; exact he)⟩)
   ·rw [if_neg (by simp [he]),Lj (by omega) (by omega)]
    refine Ak.ok ⟨⟨by omega,by omega,fun a h1 h2 h3=>?_⟩,by omega⟩
    rcases Int.lt_or_le a y with h | h
    ·exact y3 a h1 h h3
    ·obtain rfl:a=y:=by omega
     exact he
  ·rintro y (⟨rfl,h⟩ | ⟨rfl,h⟩)
   ·show Ak (Hd x) _
    unfold Hd
    exact Ak.ok (hnext _ (Lj (by omega) (by omega)) fun at_ h1 h2 h3 h4=>h at_ h1 h2 h4)
   ·exact Ak.ok (.inr ⟨rfl,h⟩)
 ·rintro x (⟨rfl,h⟩ | ⟨rfl,h⟩)
  ·exact Ak.ok (.inr ⟨rfl,h⟩)
  ·exact Ak.ok (.inl ⟨rfl,h⟩)
end Go.Am
namespace Go.Am
open Go
set_option linter.unusedVariables false
set_option linter.unusedSimpArgs false
def Acc (c:Clearing)(o:Opening):Prop:=
 o.Flight ∈ c.Flights∧c.Owners[(W5 c.Flights o.Flight).toNat]? = some o.Airline ∧ ∃ d,c.Commitments[(W5 (Ab6 c.Owners) o.Airline).toNat]? = some d∧Aeo d o.Airline (many c.Owners o.Airline) c.Slots o
theorem Apq (c:Clearing)(o:Opening)(hF:Formed c)(hp:o.Path.length≤1000):Ak (Hx c o) fun e=>(e=0∧Acc c o)∨((e=360∨e=400)∧¬ Acc c o):=by
 unfold Hx
 rw [S4]
 simp only [R.bind]
 have hfl:=hF.fl; have hsl:=hF.slots; have how:=hF.ow
 by_cases h1:o.Flight ∈ c.Flights
 case neg=>
  rw [if_pos (by have:=mt Aao.1 h1; simpa using this)]
  exact Ak.ok (.inr ⟨.inr rfl,fun h=>h1 h.1⟩)
 have hi:=Aao.2 h1
 have hil:=Ap6 (l:=c.Flights) (v:=o.Flight)
 rw [if_neg (by simpa using hi)]
 refine(Ak.idx (P:=fun a=>c.Owners[(W5 c.Flights o.Flight).toNat]? = some a) hi (by omega) fun a h=>h).bind fun a ha=>?_
 unfold Jf
 by_cases h2:a=o.Airline
 case neg=>
  rw [if_pos (by simpa using h2)]
  refine Ak.ok (.inr ⟨.inr rfl,fun h=>h2 ?_⟩)
  have:=h.2.1
  rw [ha] at this
  exact Option.some.inj this
 subst h2
 rw [if_neg (by simp)]
 have hmem:o.Airline ∈ c.Owners:=List.mem_of_getElem? ha
 have hin:=hF.own _ hmem
 refine(Akm c.Owners (by omega)).bind fun r hr=>?_
 rw [hr.1,S4]
 simp only [R.bind]
 have hk:=Aao.2 (Aol.2 ⟨hin,hmem⟩)
 have hkl:=Ap6 (l:=Ab6 c.Owners) (v:=o.Airline)
 have hcm:=hF.com
 refine(Ak.idx (P:=fun d=>c.Commitments[(W5 (Ab6 c.Owners) o.Airline).toNat]? = some d) hk (by omega) fun a h=>h).bind fun d hd=>?_
 rw [hr.2,if_pos hin]
 refine(Asf d o.Airline _ c.Slots o hp).bind fun e he=>Ak.ok ?_
 rcases he with⟨rfl,h⟩ | ⟨rfl,h⟩
 ·exact .inl ⟨rfl,h1,ha,d,hd,h⟩
 ·refine .inr ⟨.inl rfl,fun hA=>h ?_⟩
  obtain⟨_,_,d',hd',hV⟩:=hA
  rw [hd] at hd'
  rw [Option.some.inj hd']
  exact hV
def oLt (a b:Opening):Prop:=a.Flight<b.Flight∨(a.Flight=b.Flight∧a.Slot<b.Slot)
theorem oLt.trans {a b c:Opening}(h1:oLt a b)(h2:oLt b c):oLt a c:=by unfold oLt at *; omega
def Aag (c:Clearing):Prop:=c.Openings.Pairwise oLt ∧ ∀ o ∈ c.Openings,Acc c o
theorem Ajz (c:Clearing)(hF:Formed c)(hp : ∀ o ∈ c.Openings,o.Path.length≤1000)(hl:c.Openings.length≤1000):Ak (Lg c) fun r=>(r=true↔Aag c):=by
 unfold Lg
 have hE:=Ak.each (b:=fun j a=>fun _=>Iu c j a) (I:=fun n (_:Unit)=>(c.Openings.take n).Pairwise oLt ∧ ∀ o ∈ c.Openings.take n,Acc c o) (E:=fun r:Bool=>r=false∧¬ Aag c) c.Openings 0 () ⟨by simp,by simp⟩ (fun j a _ hj hI=>by
  simp only [Nat.zero_add] at hI ⊢
  obtain⟨p1,p2⟩:=hI
  have hjl:j<c.Openings.length:=Ay hj
  have ht1:c.Openings.take (j+1)=c.Openings.take j++[a]:=by rw [List.take_add_one,hj]; rfl
  have hja:c.Openings[j]=a:=by rw [List.getElem?_eq_getElem hjl] at hj; exact Option.some.inj hj
  have step:(∀ x ∈ c.Openings.take j,oLt x a)→Ak ((Hx c a).bind fun r1=>Gd (r1 != 0)) (T7 (fun n (_:Unit)=>(c.Openings.take n).Pairwise oLt ∧ ∀ o ∈ c.Openings.take n,Acc c o) (fun r:Bool=>r=false∧¬ Aag c) (j+1)):=fun hlt=>by
   refine(Apq c a hF (hp a (List.mem_of_getElem? hj))).bind fun e he=>?_
   unfold Gd
   rcases he with⟨rfl,hA⟩ | ⟨he,hA⟩
   ·rw [if_neg (by decide)]
    refine Ak.ok ⟨?_,fun o ho=>?_⟩
    ·rw [ht1,List.pairwise_append]
     refine⟨p1,by simp,fun x hx y hy=>?_⟩
     obtain rfl:=List.mem_singleton.1 hy
     exact hlt x hx
    ·rw [ht1,List.mem_append,List.mem_singleton] at ho
     rcases ho with ho | rfl
     ·exact p2 o ho
     ·exact hA
   ·rw [if_pos (by rcases he with rfl | rfl <;> decide)]
    exact Ak.ok ⟨rfl,fun h=>hA (h.2 a (List.mem_of_getElem? hj))⟩
  unfold Iu
  by_cases hj0:(j:Int) > 0
  case neg=>
   rw [if_neg (by simpa using hj0)]
   refine step fun x hx=>?_
   obtain rfl:j=0:=by omega
   simp at hx
  rw [if_pos (by simpa using hj0),Lj (by omega) (by omega)]
  have hpl:j - 1<c.Openings.length:=by omega
  rw [show(j:Int) - 1=((j - 1:Nat):Int) by omega,Rp (List.getElem?_eq_getElem hpl),R.ok_bind,Akf,R.ok_bind]
  by_cases ho:Ao0 c.Openings[j - 1] a≥0
  ·rw [if_pos (by simpa using ho)]
   refine Ak.ok ⟨rfl,fun h=>?_⟩
   have:=List.pairwise_iff_getElem.1 h.1 (j - 1) j hpl hjl (by omega)
   rw [hja] at this
   have:=Aoo.2 this
   omega
  ·rw [if_neg (by simpa using ho)]
   refine step fun x hx=>?_
   have hlast:oLt c.Openings[j - 1] a:=Aoo.1 (by omega)
   obtain⟨i,hi,rfl⟩:=List.getElem_of_mem hx
   rw [List.length_take] at hi
   rw [List.getElem_take]
   rcases Nat.lt_or_ge i (j - 1) with h | h
   ·have:=List.pairwise_iff_getElem.1 p1 i (j - 1) (by rw [List.length_take]; omega) (by rw [List.length_take]; omega) h
    rw [List.getElem_take,List.getElem_take] at this
    exact this.trans hlast
   ·obtain rfl:i=j - 1:=by omega
    exact hlast)
 refine hE.bind fun x hx=>Ak.alt hx (fun u hu=>?_) (fun r hr=>?_)
 ·simp only [T7,Nat.zero_add,List.take_length] at hu
  exact Ak.ok ⟨fun _=>hu,fun _=>rfl⟩
 ·exact Ak.ok ⟨fun e=>by rw [hr.1] at e; exact absurd e (by decide),fun h=>absurd h hr.2⟩
theorem Atv {σ:Type}(b:List Opening)(S n:Nat)(hS:1≤S)(hS8:S≤8)(hl:b.length=n * S)(hb:b.length≤100000)(b_:List Opening→σ→R σ)(P:Nat→σ→Prop)(s:σ)(h0:P 0 s)
  (hk : ∀ k s,k<n→P k s→Ak (b_ ((b.drop (k * S)).take S) s) (P (k+1))):Ak (Ew b (S:Int) b_ s) (P n):=by
 unfold Ew
 refine Ak.bind (P:=P n) (Ak.loop (I:=fun s:Int×σ => ∃ k:Nat,k≤n∧s.1=((k * S:Nat):Int)∧P k s.2) (fun s=>((b.length:Int) - s.1).toNat) ?_ b.length (0,s) (by simp) ⟨0,by omega,by simp,h0⟩) fun s hs=>Ak.ok hs
 rintro⟨i,s⟩ ⟨k,k1,k2,k3⟩
 show Ak (D1 b S b_ i s) _
 simp only at k2 k3
 subst k2
 unfold D1
 by_cases hi:((k * S:Nat):Int)<(b.length:Int)
 case neg=>
  rw [if_neg hi]
  have hle:k * S≥n * S:=by omega
  have:k=n:=by
   have:=Nat.le_of_mul_le_mul_right hle (by omega)
   omega
  subst this
  exact Ak.ok k3
 have hkn:k<n:=by
  have:k * S<n * S:=by omega
  exact Nat.lt_of_mul_lt_mul_right this
 have hle:(k+1) * S≤n * S:=Nat.mul_le_mul_right S hkn
 have hadd:(k+1) * S=k * S+S:=by rw [Nat.add_mul,Nat.one_mul]
 rw [if_pos hi,if_pos ⟨by omega,by omega⟩,Int.toNat_natCast]
 have hd:((b.drop (k * S)).length:Int)=(b.length:Int) - ((k * S:Nat):Int):=by rw [List.length_drop]; omega
 rw [if_neg (show ¬ ((b.drop (k * S)).length:Int)<(S:Int) by omega),Lj (by omega) (by omega),if_pos ⟨by omega,by omega,by omega⟩]
 have hc:cut b ((k * S:Nat):Int) (((k * S:Nat):Int)+(S:Int))=(b.drop (k * S)).take S:=by
  unfold cut
  rw [Int.toNat_natCast]
  congr 1
  omega
 rw [hc]
 refine(hk k s hkn k3).bind fun s1 h1=>Ak.ok ⟨⟨k+1,by omega,by simp only; omega,h1⟩,?_⟩
 simp only; omega
def Aka (c:Clearing):List (List Int):=(List.range c.Flights.length).map fun k=>((c.Openings.drop (k * c.Slots.toNat)).take c.Slots.toNat).map (·.Cost)
def A0v (c:Clearing):Prop:=c.Openings.length=c.Flights.length * c.Slots.toNat
theorem Ao7 (c:Clearing)(hs:1≤c.Slots∧c.Slots≤8)(hf:c.Flights.length≤8):Ji c=.ok (if c.Openings.length=c.Flights.length * c.Slots.toNat then(({ Slots:=c.Slots,Owners:=c.Owners,Costs:=Aka c }:Round),true) else(({ Slots:=0,Owners:=[],Costs:=[] }:Round),false)):=by
 unfold Ji
 obtain⟨S,hS⟩ : ∃ S:Nat,c.Slots=(S:Int):=⟨c.Slots.toNat,by omega⟩
 have hmul:(c.Flights.length:Int) * c.Slots=((c.Flights.length * S:Nat):Int):=by rw [hS]; simp
 have hb:c.Flights.length * S≤8 * 8:=Nat.mul_le_mul hf (by omega)
 rw [hmul,Lj (by omega) (by omega),hS,Int.toNat_natCast]
 by_cases h:c.Openings.length=c.Flights.length * S
 case neg=>
  rw [if_pos (by simp only [bne_iff_ne]; omega),if_neg h]
 rw [if_neg (by simp only [bne_iff_ne]; omega),if_pos h]
 unfold Hu
 rw [if_neg (by omega),R.ok_bind]
 have:=Atv c.Openings S c.Flights.length (by omega) (by omega) h (by omega) (fun a z_=>R.np ((fun l=>Ij a l) z_)) (fun k l=>l=(List.range k).map fun k=>((c.Openings.drop (k * S)).take S).map (·.Cost)) [] rfl (fun k l hk hl=>by
  subst hl
  refine Ak.np ?_
  show Ak (Ij _ _) _
  unfold Ij
  have e1:eachS (fun _ a1=>fun costs=>J5 a1 costs) 0 ((c.Openings.drop (k * S)).take S) []=.ok (((c.Openings.drop (k * S)).take S).map (·.Cost)):=by
   have:=Al3 (b:=fun _ (a1:Opening)=>fun costs=>J5 a1 costs) (g:=fun o:Opening=>o.Cost) (c:=8) (fun j a s=>rfl) ((c.Openings.drop (k * S)).take S) 0 []
   rw [this]
   ·simp
   ·simp only [List.length_nil,List.length_take,List.length_drop,Bz]; omega
  rw [e1,R.ok_bind,if_pos (by simp only [List.length_map,List.length_range,List.length_singleton,Bz]; omega)]
  refine Ak.ok ?_
  rw [List.range_succ,List.map_append]
  rfl)
 obtain⟨l,e,hl⟩:=this
 rw [e,R.ok_bind,hl]
 congr 2
 unfold Aka
 rw [hS,Int.toNat_natCast]
end Go.Am
namespace Go.Am
open Go
set_option linter.unusedVariables false
set_option linter.unusedSimpArgs false
set_option linter.unusedSectionVars false
theorem B6.each {α ε:Type}{b:Nat→α→Unit→R (Unit ⊕ ε)}(l:List α)(k:Nat)(hb : ∀ (j:Nat) a,l[j]? = some a→B6 (b (k+j) a ())):B6 (each b k l ()):=
 (Ak.each (I:=fun _ _=>True) (E:=fun _=>True) l k () trivial fun j a _ hj _=>(hb j a hj).mono fun x _=>by cases x <;> exact trivial).tot
theorem B6.alt {α β σ:Type}{f:α→R σ}{g:β→R σ}(x:α ⊕ β)(h1 : ∀ a,B6 (f a))(h2 : ∀ b,B6 (g b)):B6 (alt f g x):=by
 cases x with
 | inl a=>exact h1 a
 | inr b=>exact h2 b
structure CChk (r:Round):Prop where
 slots:1≤r.Slots∧r.Slots≤8
 own:(r.Owners.length:Int)≤r.Slots
 costs:r.Costs.length=r.Owners.length
 inA : ∀ a ∈ r.Owners,inA a
 row : ∀ l ∈ r.Costs,(l.length:Int)=r.Slots
theorem Awz (s:List Int):B6 (F0 s):=by
 unfold F0 I7
 refine B6.bind (B6.bind (B6.each _ _ fun j a _=>?_) fun x=>B6.alt _ (fun _=>B6.ok _) fun _=>B6.ok _) fun _=>B6.ok _
 unfold Ho Ml Kg
 simp only [R.ok_bind]
 exact Ak.ite (fun _=>B6.ok _) fun _=>B6.ok _
theorem Aif (r:Round):Ak (Kv r) fun e=>(e=0∧CChk r)∨e=370:=by
 unfold Kv
 refine Ak.ite (fun _=>Ak.ok (.inr rfl)) fun h=>?_
 simp only [Bool.or_eq_true,decide_eq_true_eq,bne_iff_ne,ne_eq,not_or,Decidable.not_not] at h
 obtain⟨⟨⟨h1,h2⟩,h3⟩,h4⟩:=h
 refine(Ak.each (b:=fun j a=>fun _=>J3 r j a) (I:=fun n (_:Unit)=>(∀ a ∈ r.Owners.take n,inA a) ∧ ∀ l ∈ r.Costs.take n,(l.length:Int)=r.Slots) (E:=fun e:Int=>e=370) r.Costs 0 () ⟨by simp,by simp⟩ fun j a _ hj hI=>?_).bind fun x hx=>Ak.alt hx (fun u hu=>?_) fun e he=>Ak.ok (.inr he)
 ·simp only [Nat.zero_add] at hI ⊢
  have hjl:j<r.Costs.length:=Ay hj
  have hjo:j<r.Owners.length:=by omega
  have ht1:r.Owners.take (j+1)=r.Owners.take j++[r.Owners[j]]:=by rw [List.take_add_one,List.getElem?_eq_getElem hjo]; rfl
  have ht2:r.Costs.take (j+1)=r.Costs.take j++[a]:=by rw [List.take_add_one,hj]; rfl
  unfold J3
  rw [Rp (List.getElem?_eq_getElem hjo),R.ok_bind]
  unfold Kg Iw
  rw [R.ok_bind]
  refine Ak.ite (fun _=>Ak.pos rfl (Ak.ok rfl)) fun q1=>?_
  refine Ak.ite (fun _=>Ak.pos rfl (Ak.ok rfl)) fun q2=>?_
  simp only [Bool.or_eq_true,decide_eq_true_eq,not_or,bne_iff_ne,ne_eq,Decidable.not_not] at q1 q2
  have hja:j<a.length:=by omega
  rw [Rp (List.getElem?_eq_getElem hja),R.ok_bind]
  refine Ak.ite (fun _=>Ak.pos rfl (Ak.ok rfl)) fun q3=>?_
  refine(Awz a).bind fun b=>Ak.ite (fun _=>Ak.ok rfl) fun _=>Ak.ok ⟨fun x hx=>?_,fun x hx=>?_⟩
  ·rw [ht1,List.mem_append,List.mem_singleton] at hx
   rcases hx with hx | rfl
   ·exact hI.1 x hx
   ·unfold Am.inA; omega
  ·rw [ht2,List.mem_append,List.mem_singleton] at hx
   rcases hx with hx | rfl
   ·exact hI.2 x hx
   ·exact q2
 ·simp only [T7,Nat.zero_add,List.take_length] at hu
  have e:r.Costs.length=r.Owners.length:=by omega
  rw [e,List.take_length] at hu
  exact Ak.ok (.inl ⟨rfl,⟨by omega,by omega⟩,by omega,e,hu.1,hu.2⟩)
def InS (r:Round)(l:List Int):Prop := ∀ s ∈ l,0≤s∧s<r.Slots
theorem Ua {α:Type}{l:List α}{n:Int}(h0:0≤n)(h1:n<(l.length:Int)):B6 (idx l n):=Ak.idx h0 h1 fun _ _=>trivial
section
variable {r:Round} (hr:CChk r)
include hr
theorem Agr {f s:Int}(hf:0≤f∧f<(r.Owners.length:Int))(hs:0≤s∧s<r.Slots){β:Type}{g:Int→R β}{Q:β→Prop}(h : ∀ a,Ak (g a) Q):Ak ((idx r.Costs f).bind fun a=>(idx a s).bind g) Q:=by
 refine(Ak.idx (P:=fun a=>a ∈ r.Costs) hf.1 (by have:=hr.costs; omega) fun a ha=>List.mem_of_getElem? ha).bind fun a ha=>?_
 exact(Ua hs.1 (by have:=hr.row a ha; omega)).bind h
theorem Ah2 (slots:List Int):Ak (Je r slots) fun b=>b=true→slots.length=r.Owners.length∧InS r slots:=by
 unfold Je
 refine Ak.ite (fun _=>Ak.ok fun h=>by simp at h) fun h=>?_
 simp only [bne_iff_ne,ne_eq,Decidable.not_not] at h
 refine(Ak.each (b:=fun j a=>fun _=>F8 r slots j a) (I:=fun n (_:Unit)=>InS r (slots.take n)) (E:=fun b:Bool=>b=false) slots 0 () (by intro s hs; simp at hs) fun j a _ hj hI=>?_).bind fun x hx=>Ak.alt hx (fun u hu=>?_) fun e he=>Ak.ok fun h=>by rw [he] at h; simp at h
 ·simp only [Nat.zero_add] at hI ⊢
  have hjl:j<slots.length:=Ay hj
  have ht1:slots.take (j+1)=slots.take j++[a]:=by rw [List.take_add_one,hj]; rfl
  unfold F8
  by_cases q:a<0∨a≥r.Slots
  ·rw [if_pos (by simpa using q)]
   simp only [R.ok_bind,if_true]
   exact Ak.ok rfl
  ·rw [if_neg (by simpa using q)]
   refine Ak.bind (Agr hr (f:=(j:Int)) (s:=a) ⟨by omega,by omega⟩ ⟨by omega,by omega⟩ (Q:=fun _=>True) fun x=>Ak.ok trivial) fun b _=>?_
   refine Ak.bind (P:=fun _=>True) (Ak.ite (fun _=>Ak.ok trivial) fun _=>?_) fun b1 _=>Ak.ite (fun _=>Ak.ok rfl) fun _=>Ak.ok fun s hs=>?_
   ·rw [if_pos ⟨by omega,by omega⟩,Jq]
    exact Ak.ok trivial
   ·rw [ht1,List.mem_append,List.mem_singleton] at hs
    rcases hs with hs | rfl
    ·exact hI s hs
    ·omega
 ·simp only [T7,Nat.zero_add,List.take_length] at hu
  exact Ak.ok fun _=>⟨by omega,hu⟩
theorem Atx:I1 r=.ok ((List.range r.Owners.length).map fun n:Nat=>(n:Int)):=by
 unfold I1
 have hl:=hr.own; have hs:=hr.slots
 have:=Ak.eachS (b:=fun j _=>fun l=>Ly j l) (I:=fun n (l:List Int)=>l=(List.range n).map fun n:Nat=>(n:Int)) r.Owners 0 [] rfl (fun j a l hj hI=>by
  simp only [Nat.zero_add] at hI ⊢
  subst hI
  have hjl:j<r.Owners.length:=Ay hj
  unfold Ly
  rw [if_pos (by simp only [List.length_map,List.length_range,List.length_singleton,Bz]; omega)]
  refine Ak.ok ?_
  rw [List.range_succ,List.map_append]
  rfl)
 obtain⟨l,e,hl⟩:=this
 rw [e,R.ok_bind,hl,Nat.zero_add]
theorem Abz (flights slots:List Int)(hf : ∀ f ∈ flights,0≤f∧f<(r.Owners.length:Int))(hl:flights.length≤slots.length)(hs:InS r slots):Ak (G1 r flights slots) fun out=>out.length=8:=by
 unfold G1
 rw [if_pos (by decide)]
 refine Ak.bind (P:=fun out:List Int=>out.length=8) (Ak.eachS (I:=fun _ (out:List Int)=>out.length=8) flights 0 _ (by decide) fun j a out hj hI=>?_) fun out h=>Ak.ok h
 have ha:=hf a (List.mem_of_getElem? hj)
 have hjl:j<flights.length:=Ay hj
 unfold Mt
 refine(Ak.idx (P:=fun a1=>inA a1) ha.1 ha.2 fun a1 h=>hr.inA a1 (List.mem_of_getElem? h)).bind fun a1 h1=>?_
 unfold inA at h1
 refine(Ua h1.1 (by omega)).bind fun a2=>?_
 refine(Ak.idx (P:=fun a=>a ∈ r.Costs) ha.1 (by have:=hr.costs; omega) fun a ha=>List.mem_of_getElem? ha).bind fun a3 h3=>?_
 simp only [Nat.zero_add]
 refine(Ak.idx (P:=fun s=>0≤s∧s<r.Slots) (by omega) (by omega) fun s h=>hs s (List.mem_of_getElem? h)).bind fun a4 h4=>?_
 refine(Ua h4.1 (by have:=hr.row a3 h3; omega)).bind fun a5=>Ak.ok ?_
 rw [List.length_set]
 exact hI
theorem Aha {f:Int}(h:f ∈ (List.range r.Owners.length).map fun n:Nat=>(n:Int)):0≤f∧f<(r.Owners.length:Int):=by
 obtain⟨n,hn,rfl⟩:=List.mem_map.1 h
 have:=List.mem_range.1 hn
 omega
theorem Aw5:InS r ((List.range r.Owners.length).map fun n:Nat=>(n:Int)):=fun s hs=>by
 have:=Aha hr hs; have:=hr.own; omega
theorem Ati (slots:List Int):Ak (K9 r slots) fun x=>x.2=0→slots.length=r.Owners.length∧InS r slots:=by
 unfold K9 M4 Nj
 have hl:=hr.own; have hs:=hr.slots
 refine Ak.bind (P:=fun e:Int=>e=0→slots.length=r.Owners.length∧InS r slots) (Ak.bind (P:=fun x:Bool×Int=>x.2=0→x.1=true→slots.length=r.Owners.length∧InS r slots) ((Aif r).bind fun e he=>Ak.ite (fun _=>Ak.ok fun _ h=>by simp at h) fun _=>(Ah2 hr slots).bind fun b hb=>Ak.ok fun _=>hb) fun x hx=>Ak.ite (fun _=>Ak.ok fun h=>absurd h (by decide)) fun q=>Ak.ok fun _=>?_) fun e he=>Ak.ite (fun q=>Ak.ok fun h=>?_) fun q=>?_
 ·simp only [Bool.or_eq_true,not_or,bne_iff_ne,ne_eq,Decidable.not_not,Bool.not_eq_true',Bool.not_eq_false] at q
  exact hx q.1 q.2
 ·simp only at h; rw [h] at q; simp at q
 ·have h0:e=0:=by simpa using q
  obtain⟨q1,q2⟩:=he h0
  rw [Atx hr]
  simp only [R.ok_bind]
  refine(Abz hr _ _ (fun f hf=>Aha hr hf) (Nat.le_refl _) (Aw5 hr)).bind fun before hb=>?_
  refine(Abz hr _ slots (fun f hf=>Aha hr hf) (by simp; omega) q2).bind fun now hn=>?_
  refine Ak.bind (P:=fun _=>True) ((Ak.eachS (b:=fun j a=>fun l=>Kh before j a l) (I:=fun n (l:List Int)=>l.length≤n) now 0 [] (by simp) fun j a l hj hI=>?_).tot) fun l _=>Ak.ok fun _=>⟨q1,q2⟩
  have hjl:j<now.length:=Ay hj
  unfold Kh
  simp only [Nat.zero_add] at hI ⊢
  refine(Ua (by omega) (by omega)).bind fun a1=>Ak.ite (fun _=>Ak.pos ?_ (Ak.ok ?_)) fun _=>Ak.ok (by omega)
  ·simp only [List.length_singleton,Bz]; omega
  ·simp only [List.length_append,List.length_singleton]; omega
theorem Aqg {σ ε:Type}(l:List Int)(hl : ∀ f ∈ l,0≤f∧f<(r.Owners.length:Int))(h100:l.length≤100)(b_:List Int→σ→R (σ ⊕ ε))(hb : ∀ x s,x.length=l.length→(∀ f ∈ x,f ∈ l)→B6 (b_ x s)) :
  ∀ (n:Nat) (begin:List Int) (s:σ),begin.length≤l.length→l.length<begin.length+n→(∀ f ∈ begin,f ∈ l)→B6 (Dh b_ n begin l r l r s)
 | 0,begin,s,h1,h2,h3=>by omega
 | n+1,begin,s,h1,h2,h3=>by
  rw [Dh]
  refine Ak.np ?_
  unfold Ee
  refine Ak.ite (fun q=>?_) fun q=>?_
  ·unfold Hh
   rw [if_pos (by unfold Bz; omega),R.ok_bind]
   exact(hb begin s (by have:=of_decide_eq_true q; omega) h3).bind fun x=>B6.alt _ (fun _=>B6.ok _) fun _=>B6.ok _
  ·have hlt:begin.length<l.length:=by
    have:¬ ((begin.length:Int)=(l.length:Int)):=by simpa using q
    omega
   refine B6.bind (Ak.each (I:=fun _ _=>True) (E:=fun _=>True) l 0 s trivial fun j a s1 hj _=>?_).tot fun x=>B6.alt _ (fun _=>B6.ok _) fun _=>B6.ok _
   refine Ak.mono (P:=fun _=>True) ?_ fun x _=>by cases x <;> exact trivial
   have ha:a ∈ l:=List.mem_of_getElem? hj
   have ha':=hl a ha
   have hlo:=hr.own
   unfold D3 Ct
   refine(Ak.idx (P:=fun a1=>a1 ∈ l) (by omega) (by omega) fun a1 h=>List.mem_of_getElem? h).bind fun a1 h1'=>?_
   have h1'':=hl a1 h1'
   refine Agr hr h1'' (s:=a) ⟨ha'.1,by omega⟩ fun a3=>Ak.ite (fun _=>?_) fun _=>Ak.ok trivial
   rw [Jq,R.ok_bind]
   refine Ak.ite (fun _=>?_) fun _=>Ak.ok trivial
   rw [Int.toNat_natCast,List.take_length,if_pos ⟨by omega,by omega⟩,if_pos ⟨by simp,by simp only [List.length_singleton,Bz]; omega⟩]
   refine(Aqg l hl h100 b_ hb n (begin++[a]) s1 (by simp only [List.length_append,List.length_singleton]; omega) (by simp only [List.length_append,List.length_singleton]; omega) fun f hf=>?_).bind fun x=>B6.alt _ (fun _=>B6.ok _) fun _=>B6.ok _
   rw [List.mem_append,List.mem_singleton] at hf
   rcases hf with hf | rfl
   ·exact h3 f hf
   ·exact ha
theorem Are (than group:List Int)(ht:than.length=8)(hg : ∀ o ∈ group,inA o):B6 (Iy r than group):=by
 unfold Iy
 have hlo:=hr.own; have hs:=hr.slots
 refine Ak.bind (P:=fun l:List Int=>l.length≤r.Owners.length ∧ ∀ f ∈ l,0≤f∧f<(r.Owners.length:Int)) ((Ak.eachS (b:=fun j a=>fun l=>H3 group j a l) (I:=fun n (l:List Int)=>l.length≤n ∧ ∀ f ∈ l,0≤f∧f<(r.Owners.length:Int)) r.Owners 0 [] ⟨by simp,by simp⟩ fun j a l hj hI=>?_).mono fun l hl=>by simpa using hl) fun l hl=>?_
 ·simp only [Nat.zero_add] at hI ⊢
  have hjl:j<r.Owners.length:=Ay hj
  unfold H3
  rw [Jq,R.ok_bind]
  refine Ak.ite (fun _=>Ak.pos (by simp only [List.length_singleton,Bz]; omega) (Ak.ok ⟨by simp only [List.length_append,List.length_singleton]; omega,fun f hf=>?_⟩)) fun _=>Ak.ok ⟨by omega,hI.2⟩
  rw [List.mem_append,List.mem_singleton] at hf
  rcases hf with hf | rfl
  ·exact hI.2 f hf
  ·omega
 ·unfold Ge
  rw [R.ok_bind]
  refine B6.bind (Ak.np ?_) fun x=>B6.alt _ (fun _=>B6.ok _) fun _=>B6.ok _
  unfold Eo Fy
  refine B6.bind (Aqg hr l hl.2 (by omega) _ (fun x s hx hm=>Ak.np ?_) Wl [] () (by simp) (by rw [Vy]; simp only [List.length_nil]; omega) (by simp)) fun x=>B6.alt _ (fun _=>B6.ok _) fun _=>B6.ok _
  show B6 (Gm r than group l x)
  unfold Gm Lr
  refine(Abz hr l x hl.2 (by omega) fun s hs'=>by have:=hl.2 s (hm s hs'); omega).bind fun now hn=>?_
  refine B6.bind (B6.each _ _ fun j o hj=>?_) fun y=>B6.alt _ (fun _=>B6.ok _) fun _=>B6.ok _
  have ho:=hg o (List.mem_of_getElem? hj)
  unfold inA at ho
  unfold Lq
  exact(Ua ho.1 (by omega)).bind fun _=>(Ua ho.1 (by omega)).bind fun _=>Ak.ite (fun _=>B6.ok _) fun _=>B6.ok _
theorem Arr (slots:List Int):B6 (Ec r slots):=by
 unfold Ec
 refine(Ati hr slots).bind fun x hx=>Ak.ite (fun _=>B6.ok _) fun q=>?_
 simp only [Bool.or_eq_true,decide_eq_true_eq,bne_iff_ne,ne_eq,not_or,Decidable.not_not] at q
 obtain⟨q1,q2⟩:=hx q.1
 rw [Atx hr,R.ok_bind]
 refine(Abz hr _ slots (fun f hf=>Aha hr hf) (by simp; omega) q2).bind fun than ht=>?_
 refine B6.bind (B6.each _ _ fun j a hj=>?_) fun y=>B6.alt _ (fun _=>B6.ok _) fun _=>B6.ok _
 unfold H6 Dq
 refine Ak.bind (Ak.each (b:=fun j1 _=>fun group=>H5 r (0+j) j1 group) (I:=fun n (g:List Int)=>g.length≤n ∧ ∀ o ∈ g,inA o) (E:=fun _:Unit=>True) (List.range 8) 0 [] ⟨by simp,by simp⟩ fun j1 a g hj1 hI=>?_) fun x hx=>Ak.alt hx (fun g hg=>?_) fun _ _=>B6.ok _
 ·simp only [Nat.zero_add] at hI ⊢
  have hj8:j1<8:=by have:=Ay hj1; simpa using this
  unfold H5
  rw [if_pos (by omega)]
  refine Ak.ite (fun _=>Ak.ok ⟨by omega,hI.2⟩) fun _=>?_
  rw [Jq,R.ok_bind]
  refine Ak.ite (fun _=>Ak.pos (by simp only [List.length_singleton,Bz]; omega) (Ak.ok ⟨by simp only [List.length_append,List.length_singleton]; omega,fun o ho=>?_⟩)) fun _=>Ak.ok trivial
  rw [List.mem_append,List.mem_singleton] at ho
  rcases ho with ho | rfl
  ·exact hI.2 o ho
  ·unfold inA; omega
 ·refine Ak.ite (fun _=>B6.ok _) fun _=>?_
  exact(Are hr than g ht hg.2).bind fun _=>Ak.ite (fun _=>B6.ok _) fun _=>B6.ok _
theorem Auf (slots:List Int)(h1:slots.length=r.Owners.length)(h2:InS r slots):Ak (Lx r slots) fun v=>v.length=2:=by
 unfold Lx
 refine Ak.bind (P:=fun v:List Int=>v.length=2) (Ak.eachS (I:=fun _ (v:List Int)=>v.length=2) slots 0 _ rfl fun j a v hj hI=>?_) fun v h=>Ak.ok h
 have hjl:j<slots.length:=Ay hj
 have ha:=h2 a (List.mem_of_getElem? hj)
 unfold Nk
 simp only [Nat.zero_add]
 refine(Ua (by decide) (by omega)).bind fun a1=>?_
 refine Agr hr (f:=(j:Int)) ⟨by omega,by omega⟩ ha fun a3=>Ak.ite (fun _=>?_) fun _=>Ak.ok (by rw [List.length_set]; exact hI)
 refine(Ua (by decide) (by rw [List.length_set]; omega)).bind fun a4=>Ak.ok (by rw [List.length_set,List.length_set]; exact hI)
theorem Aju {σ:Type}(b_:List Int→σ→R σ)(P:σ→Prop)(hb : ∀ x s,x.length=r.Owners.length→InS r x→P s→Ak (b_ x s) P) :
  ∀ (n:Nat) (slots:List Int) (m:List (Int×Bool)) (s:σ),slots.length≤r.Owners.length→r.Owners.length<slots.length+n→InS r slots→P s→Ak (Di b_ n slots r m r s) fun x=>P x.2
 | 0,slots,m,s,h1,h2,h3,h4=>by omega
 | n+1,slots,m,s,h1,h2,h3,h4=>by
  rw [Di]
  refine Ak.np ?_
  have hlo:=hr.own; have hsl:=hr.slots
  unfold Eb
  refine Ak.ite (fun q=>?_) fun q=>?_
  ·exact(hb slots s (by have:=of_decide_eq_true q; omega) h3 h4).bind fun s' hs'=>Ak.ok hs'
  ·have hlt:slots.length<r.Owners.length:=by
    have:¬ ((slots.length:Int)=(r.Owners.length:Int)):=by simpa using q
    omega
   refine Ak.bind (P:=fun x:List (Int×Bool)×σ=>P x.2) (Ak.loop (I:=fun x:Int×List (Int×Bool)×σ=>0≤x.1∧x.1≤r.Slots∧P x.2.2) (fun x=>(r.Slots - x.1).toNat) ?_ 8 (0,m,s) (by simp only; omega) ⟨by simp,by simp only; omega,h4⟩) fun x hx=>Ak.ok hx
   rintro⟨x,m1,s1⟩ ⟨x1,x2,x3⟩
   show Ak (C9 slots r r _ x m1 s1) _
   simp only at x1 x2 x3
   unfold C9 Gj
   by_cases hx:x<r.Slots
   case neg=>rw [if_neg hx]; exact Ak.ok x3
   rw [if_pos hx,Lj (n:=x+1) (by omega) (by omega)]
   refine Ak.bind (P:=fun _=>True) (Ak.ite (fun _=>Ak.ok trivial) fun _=>Agr hr (f:=(slots.length:Int)) (s:=x) ⟨by omega,by omega⟩ ⟨x1,hx⟩ fun _=>Ak.ok trivial) fun b1 _=>Ak.ite (fun _=>Ak.ok ⟨⟨by simp only; omega,by simp only; omega,x3⟩,by simp only; omega⟩) fun _=>?_
   unfold Pu
   rw [if_pos ⟨by omega,Int.le_refl _⟩,R.ok_bind,Int.toNat_natCast,List.take_length,if_pos ⟨by simp,by simp only [List.length_singleton,Bz]; omega⟩]
   refine(Aju b_ P hb n (slots++[x]) _ s1 (by simp only [List.length_append,List.length_singleton]; omega) (by simp only [List.length_append,List.length_singleton]; omega) (fun f hf=>?_) x3).bind fun y hy=>Ak.ok ⟨⟨by simp only; omega,by simp only; omega,hy⟩,by simp only; omega⟩
   rw [List.mem_append,List.mem_singleton] at hf
   rcases hf with hf | rfl
   ·exact h3 f hf
   ·exact⟨x1,hx⟩
end
theorem Apf (a b:List Int):B6 (Ke a b):=by
 unfold Ke
 refine B6.bind (B6.each _ _ fun j x hj=>?_) fun x=>B6.alt _ (fun _=>Ak.ite (fun _=>B6.ok _) fun _=>B6.ok _) fun _=>B6.ok _
 unfold J1
 refine Ak.ite (fun _=>B6.ok _) fun q=>?_
 refine(Ua (by omega) (by omega)).bind fun y=>?_
 rw [Py,R.ok_bind]
 exact Ak.ite (fun _=>B6.ok _) fun _=>B6.ok _
def Azr (r:Round)(x:List Int×Int):Prop:=(x.2=0∧CChk r∧Ec r x.1=.ok (true,0))∨(x.2=370∨x.2=380)
theorem Avh (r:Round):Ak (Nh r) (Azr r):=by
 unfold Nh
 refine(Aif r).bind fun e he=>Ak.ite (fun q=>Ak.ok ?_) fun q=>?_
 ·rcases he with⟨rfl,_⟩ | rfl
  ·exact absurd q (by decide)
  ·exact .inr (.inl rfl)
 ·have hr:CChk r:=by
   rcases he with⟨_,h⟩ | rfl
   ·exact h
   ·exact absurd (by decide) q
  unfold Hz
  rw [R.ok_bind]
  refine Ak.bind (P:=fun x:List Int×List Int=>x.2=[]∨Ec r x.1=.ok (true,0)) (Ak.np ?_) fun x hx=>?_
  ·unfold Em Fx
   have hlo:=hr.own; have hsl:=hr.slots
   refine(Aju hr _ (fun x:List Int×List Int=>x.2=[]∨Ec r x.1=.ok (true,0)) (fun x s h1 h2 h3=>Ak.np ?_) Wl [] [] ([],[]) (by simp) (by rw [Vy]; simp only [List.length_nil]; omega) (by intro s hs; simp at hs) (.inl rfl)).bind fun y hy=>Ak.ok hy
   obtain⟨o,o1⟩:=s
   show Ak (In r x o o1) _
   unfold In
   refine(Auf hr x h1 h2).bind fun v hv=>?_
   refine Ak.bind (P:=fun _=>True) (Ak.ite (fun _=>(Apf _ _).bind fun _=>Ak.ok trivial) fun _=>Ak.ok trivial) fun b _=>Ak.ite (fun _=>Ak.ok h3) fun _=>?_
   obtain⟨st,hst,_⟩:=Arr hr x
   rw [hst,R.ok_bind]
   refine Ak.ite (fun q=>?_) fun _=>Ak.ok h3
   simp only [Bool.and_eq_true,beq_iff_eq] at q
   unfold Hh
   rw [if_pos (by unfold Bz; omega),R.ok_bind,if_pos (by omega)]
   refine Ak.ok (.inr ?_)
   rw [hst]
   exact congrArg R.ok (Prod.ext q.2 q.1)
  ·obtain⟨o,o1⟩:=x
   show Ak (if(List.isEmpty o1) then R.ok (([]:List Int),(380:Int)) else .ok (o,0)) _
   refine Ak.ite (fun _=>Ak.ok (.inr (.inr rfl))) fun q=>Ak.ok (.inl ⟨rfl,hr,?_⟩)
   rcases hx with hx | hx
   ·exact absurd (by simp only at hx; rw [hx]; rfl) q
   ·exact hx
def A0z (r:Round)(x:List Int×Int):Prop:=(x.2=3∧CChk r∧Ec r x.1=.ok (true,0))∨(x.2=4∧x.1=(List.range r.Owners.length).map fun n:Nat=>(n:Int))
theorem Amc (r:Round)(hl:r.Owners.length≤100000):Ak (K5 r) (A0z r):=by
 unfold K5
 refine(Avh r).bind fun x hx=>Ak.ite (fun q=>Ak.ok (.inl ⟨rfl,?_⟩)) fun q=>?_
 ·have q':x.2=0:=by simpa using q
  rcases hx with⟨_,h⟩ | h
  ·exact h
  ·rw [q'] at h; omega
 ·have:=Ak.eachS (b:=fun j _=>fun outcome=>Kr j outcome) (I:=fun n (l:List Int)=>l=(List.range n).map fun n:Nat=>(n:Int)) r.Owners 0 [] rfl (fun j a l hj hI=>by
   simp only [Nat.zero_add] at hI ⊢
   subst hI
   have hjl:j<r.Owners.length:=Ay hj
   unfold Kr
   rw [if_pos (by simp only [List.length_map,List.length_range,List.length_singleton,Bz]; omega)]
   refine Ak.ok ?_
   rw [List.range_succ,List.map_append]
   rfl)
  refine this.bind fun l hl=>Ak.ok (.inr ⟨rfl,?_⟩)
  rw [hl,Nat.zero_add]
end Go.Am
namespace Go.Am
open Go
set_option linter.unusedVariables false
set_option linter.unusedSimpArgs false
theorem Awv {α:Type}[DecidableEq α]{b:Nat→α→Unit→R (Unit ⊕ Bool)}(s1 s2:List α)(h:s1.length=s2.length)(hb : ∀ (j:Nat) a a1,s2[j]? = some a1→b j a ()=if a=a1 then .ok (.inl ()) else .ok (.inr false)) :
  Ak ((each b 0 s1 ()).bind (alt (fun _=>R.ok true) (fun r=>.ok r))) fun r=>(r=true↔s1=s2):=by
 refine(Ak.each (b:=b) (I:=fun n (_:Unit)=>s1.take n=s2.take n) (E:=fun r:Bool=>r=false∧s1≠s2) s1 0 () (by simp) fun j a _ hj hI=>?_).bind fun x hx=>Ak.alt hx (fun u hu=>Ak.ok ⟨fun _=>?_,fun _=>rfl⟩) fun r hr=>Ak.ok ⟨fun e=>by rw [hr.1] at e; exact absurd e (by decide),fun e=>absurd e hr.2⟩
 ·simp only [Nat.zero_add] at hI ⊢
  have hjl:j<s1.length:=Ay hj
  have hj2:s2[j]? = some s2[j]:=List.getElem?_eq_getElem (by omega)
  rw [hb j a _ hj2]
  by_cases q:a=s2[j]
  ·rw [if_pos q]
   refine Ak.ok ?_
   show s1.take (j+1)=s2.take (j+1)
   rw [List.take_add_one,List.take_add_one,hI,hj,hj2,q]
  ·rw [if_neg q]
   refine Ak.ok ⟨rfl,fun e=>q ?_⟩
   subst e
   rw [hj] at hj2
   exact Option.some.inj hj2
 ·simp only [T7,Nat.zero_add,List.take_length] at hu
  rw [hu,h,List.take_length]
theorem Amr (s1 s2:List Int):Ak (Lw s1 s2) fun r=>(r=true↔s1=s2):=by
 unfold Lw
 refine Ak.ite (fun q=>Ak.ok ⟨fun e=>absurd e (by decide),fun e=>by subst e; simp at q⟩) fun q=>?_
 refine Awv s1 s2 (by have this:¬ ((s1.length:Int)≠(s2.length:Int)):=(by simpa using q); omega) fun j a a1 hj=>?_
 unfold Ls
 rw [Rp hj,R.ok_bind]
 by_cases h:a=a1
 ·rw [if_neg (by simpa using h),if_pos h]
 ·rw [if_pos (by simpa using h),if_neg h]
structure Sm (c:Clearing):Prop where
 op:c.Openings.length≤1000
 path : ∀ o ∈ c.Openings,o.Path.length≤1000
 out:c.Outcome.length≤1000
def exR (c:Clearing):Round:={ Slots:=c.Slots,Owners:=c.Owners,Costs:=Aka c }
structure Fin (c:Clearing):Prop where
 com:zD ∉ c.Commitments
 opn:Aag c
 full:A0v c
 out:K5 (exR c)=.ok (c.Outcome,c.Phase)
structure ValidC (c:Clearing):Prop where
 formed:Formed c
 phase:(c.Phase=1∧zD ∈ c.Commitments∧c.Openings=[]∧c.Outcome=[])∨(c.Phase=2∧zD ∉ c.Commitments∧Aag c∧c.Outcome=[])∨((c.Phase=3∨c.Phase=4)∧Fin c)
theorem Ani (c:Clearing)(hF:Formed c)(hs:Sm c):Ak (Jj c) fun r=>(r=true↔Fin c):=by
 unfold Jj
 rw [S8,R.ok_bind]
 have hfl:=hF.fl; have hsl:=hF.slots
 by_cases h0:zD ∈ c.Commitments
 ·simp only [h0,decide_true,Bool.not_true,Bool.not_false,if_true,R.ok_bind]
  exact Ak.ok ⟨fun e=>absurd e (by decide),fun h=>absurd h0 h.com⟩
 simp only [h0,decide_false,Bool.not_true,Bool.not_false,Bool.false_eq_true,if_false]
 refine Ak.bind (Ak.bind (Ajz c hF hs.path hs.op) (Q:=fun b=>(b=false↔Aag c)) fun b hb=>Ak.ok ?_) fun b hb=>?_
 ·cases b <;> simp_all
 refine Ak.ite (fun q=>Ak.ok ⟨fun e=>absurd e (by decide),fun h=>?_⟩) fun q=>?_
 ·rw [hb.2 h.opn] at q; exact absurd q (by decide)
 have hO:Aag c:=hb.1 (by simpa using q)
 rw [Ao7 c hsl (by omega),R.ok_bind]
 by_cases hfu:c.Openings.length=c.Flights.length * c.Slots.toNat
 case neg=>
  rw [if_neg hfu]
  exact Ak.ok ⟨fun e=>absurd e (by decide),fun h=>absurd h.full hfu⟩
 rw [if_pos hfu]
 simp only [if_true]
 obtain⟨x,e,_⟩:=Amc (exR c) (show c.Owners.length≤100000 by have:=hF.ow; omega)
 rw [show({ Slots:=c.Slots,Owners:=c.Owners,Costs:=Aka c }:Round)=exR c from rfl,e,R.ok_bind]
 refine Ak.bind (P:=fun b:Bool=>(b=true↔x=(c.Outcome,c.Phase))) ?_ fun b hb=>Ak.ok ⟨fun hbt=>⟨h0,hO,hfu,by rw [e,hb.1 hbt]⟩,fun h=>hb.2 (by rw [h.out] at e; exact(R.ok.inj e).symm)⟩
 by_cases hph:x.2=c.Phase
 ·rw [if_pos (by simpa using hph)]
  refine(Amr x.1 c.Outcome).bind fun b hb=>Ak.ok ?_
  rw [hb]
  exact⟨fun h=>Prod.ext h hph,fun h=>by rw [h]⟩
 ·rw [if_neg (by simpa using hph)]
  exact Ak.ok ⟨fun e=>absurd e (by decide),fun h=>absurd (by rw [h]) hph⟩
theorem Atu (c:Clearing)(hs:Sm c):Ak (Hr c) fun e=>(e=0∧ValidC c)∨(e=400∧¬ ValidC c):=by
 unfold Hr
 refine(Aq7 c).bind fun f hf=>?_
 have h400 : ∀ h:¬ ValidC c,Ak (Cv true) fun e=>(e=0∧ValidC c)∨(e=400∧¬ ValidC c):=fun h=>Ak.ok (.inr ⟨rfl,h⟩)
 refine Ak.ite (fun q=>h400 fun h=>?_) fun q=>?_
 ·rw [hf.2 h.formed] at q; exact absurd q (by decide)
 have hF:Formed c:=hf.1 (by simpa using q)
 refine Ak.ite (fun q=>h400 fun h=>?_) fun q1=>?_
 ·have:=h.phase; simp only [decide_eq_true_eq] at q; omega
 refine Ak.ite (fun q=>h400 fun h=>?_) fun q2=>?_
 ·have:=h.phase; simp only [decide_eq_true_eq] at q; omega
 simp only [decide_eq_true_eq] at q1 q2
 have hj : ∀ (b:Bool),(b=true↔ValidC c)→Ak (Cv (!b)) fun e=>(e=0∧ValidC c)∨(e=400∧¬ ValidC c):=fun b hb=>by
  cases b with
  | true=>exact Ak.ok (.inl ⟨rfl,hb.1 rfl⟩)
  | false=>exact Ak.ok (.inr ⟨rfl,fun h=>absurd (hb.2 h) (by decide)⟩)
 rw [if_neg (by omega)]
 refine Ak.ite (fun p1=>?_) fun p1=>Ak.ite (fun p2=>?_) fun p2=>Ak.ite (fun p3=>?_) fun p3=>Ak.ite (fun p4=>?_) fun p4=>by omega
 ·unfold Og
  rw [S8,R.ok_bind,Lj (by have:=hs.op; omega) (by have:=hs.op; have:=hs.out; omega),R.ok_bind]
  refine hj _ ⟨fun h=>⟨hF,.inl ⟨p1,?_⟩⟩,fun h=>?_⟩
  ·simp only [Bool.not_not,Bool.and_eq_true,decide_eq_true_eq,beq_iff_eq] at h
   exact⟨h.1,List.length_eq_zero_iff.1 (by omega),List.length_eq_zero_iff.1 (by omega)⟩
  ·rcases h.phase with⟨_,h1,h2,h3⟩ | ⟨h1,_⟩ | ⟨h1,_⟩
   ·rw [h2,h3]; simp [h1]
   ·omega
   ·omega
 ·unfold L5
  rw [S8,R.ok_bind]
  by_cases h0:zD ∈ c.Commitments
  ·simp only [h0,decide_true,Bool.not_true,Bool.false_eq_true,if_false,R.ok_bind,Bool.false_and]
   refine hj _ ⟨fun h=>absurd h (by decide),fun h=>?_⟩
   rcases h.phase with⟨h1,_⟩ | ⟨_,h1,_⟩ | ⟨h1,_⟩
   ·omega
   ·exact absurd h0 h1
   ·omega
  ·simp only [h0,decide_false,Bool.not_false,if_true]
   obtain⟨b,e,hb⟩:=Ajz c hF hs.path hs.op
   rw [e]
   simp only [R.ok_bind]
   refine hj _ ⟨fun h=>⟨hF,.inr (.inl ⟨p2,h0,?_⟩)⟩,fun h=>?_⟩
   ·simp only [Bool.and_eq_true,beq_iff_eq] at h
    exact⟨hb.1 h.1,List.length_eq_zero_iff.1 (by omega)⟩
   ·rcases h.phase with⟨h1,_⟩ | ⟨_,_,h1,h2⟩ | ⟨h1,_⟩
    ·omega
    ·rw [hb.2 h1,h2]; rfl
    ·omega
 all_goals
  obtain⟨b,e,hb⟩:=Ani c hF hs
  rw [e]
  simp only [R.ok_bind]
  refine hj _ ⟨fun h=>⟨hF,.inr (.inr ⟨by omega,hb.1 h⟩)⟩,fun h=>?_⟩
  rcases h.phase with⟨h1,_⟩ | ⟨h1,_⟩ | ⟨_,h1⟩
  ·omega
  ·omega
  ·exact hb.2 h1
end Go.Am
namespace Go.Am
open Go
set_option linter.unusedVariables false
set_option linter.unusedSimpArgs false
theorem A02 {n:Int}(h1:0≤n)(h2:n<18446744073709551616):IntKind.wrap .u64 n=n:=by simp [IntKind.wrap,IntKind.bits,IntKind.signed]; omega
end Go.Am
namespace Go.Am
open Go
set_option linter.unusedVariables false
set_option linter.unusedSimpArgs false
def Aze (c:Clearing)(i:Nat)(d:Vector Int 32):Clearing:={ c with Phase:=if zD ∈ c.Commitments.set i d then c.Phase else 2,Commitments:=c.Commitments.set i d }
theorem Sm.put {c:Clearing}{i:Nat}{d:Vector Int 32}(h:Sm c):Sm (Aze c i d):=⟨h.op,h.path,h.out⟩
theorem Formed.same {c x:Clearing}(h:Formed c)(e1:x.No=c.No)(e2:x.Slots=c.Slots)(e3:x.Flights=c.Flights)(e4:x.Owners=c.Owners)(e5:x.Commitments.length=c.Commitments.length):Formed x:=
 ⟨by rw [e1]; exact h.no,by rw [e2]; exact h.slots,by rw [e2,e3]; exact h.fl,by rw [e3,e4]; exact h.ow,by rw [e3]; exact h.lt,by rw [e3]; exact h.rng,by rw [e4]; exact h.own,by rw [e4,e5]; exact h.com⟩
def Auw (l:List Opening)(n:Nat)(o:Opening):List Opening:=l.take n++[o]++l.drop n
theorem Sm.ins {c:Clearing}{n:Nat}{o:Opening}(h:Sm c)(hl:c.Openings.length≤900)(ho:o.Path.length≤1000):Sm { c with Openings:=Auw c.Openings n o }:=by
 refine⟨?_,fun y hy=>?_,h.out⟩
 ·simp only [Auw,List.length_append,List.length_take,List.length_drop,List.length_singleton]; omega
 ·simp only [Auw,List.mem_append,List.mem_singleton] at hy
  rcases hy with(hy | rfl) | hy
  ·exact h.path y (List.mem_of_mem_take hy)
  ·exact ho
  ·exact h.path y (List.mem_of_mem_drop hy)
end Go.Am
namespace Go.Am
open Go
set_option linter.unusedVariables false
set_option linter.unusedSimpArgs false
structure FewC (c:Clearing):Prop where
 fl:c.Flights.length≤4
 ow:c.Owners.length≤6
 slots:c.Slots≤5
 com:c.Commitments.length≤8
 op:c.Openings.length≤30
 out:c.Outcome.length≤10
 path : ∀ o ∈ c.Openings,o.Path.length≤12
theorem FewC.sm {c:Clearing}(h:FewC c):Sm c:=⟨by have:=h.op; omega,fun o ho=>by have:=h.path o ho; omega,by have:=h.out; omega⟩
theorem Aw3 (c:Clearing):Ak (Yg c) fun r=>r=true→FewC c:=by
 unfold Yg
 refine(Ak.each (b:=fun _ a=>fun _=>Rf a) (I:=fun n (_:Unit) => ∀ o ∈ c.Openings.take n,o.Path.length≤12) (E:=fun r:Bool=>r=false) c.Openings 0 () (by simp) fun j a _ hj hI=>?_).bind fun x hx=>Ak.alt hx (fun u hu=>Ak.ok fun h=>?_) fun r hr=>Ak.ok fun h=>by rw [hr] at h; exact absurd h (by decide)
 ·simp only [Nat.zero_add] at hI ⊢
  unfold Rf
  refine Ak.ite (fun _=>Ak.ok rfl) fun q=>Ak.ok fun o ho=>?_
  have ht1:c.Openings.take (j+1)=c.Openings.take j++[a]:=by rw [List.take_add_one,hj]; rfl
  rw [ht1,List.mem_append,List.mem_singleton] at ho
  rcases ho with ho | rfl
  ·exact hI o ho
  ·omega
 ·simp only [T7,Nat.zero_add,List.take_length] at hu
  simp only [Bool.and_eq_true,decide_eq_true_eq] at h
  obtain⟨⟨⟨⟨⟨h1,h2⟩,h3⟩,h4⟩,h5⟩,h6⟩:=h
  exact⟨by omega,by omega,by omega,by omega,by omega,by omega,hu⟩
end Go.Am
namespace Go.Am
open Go
set_option linter.unusedVariables false
set_option linter.unusedSimpArgs false
theorem Xk {α β:Type}{l:List α}{n:Int}{f:α→R β}{Q:β→Prop}(h0:0≤n)(h1:n<(l.length:Int))(k : ∀ a,l[n.toNat]? = some a→Ak (f a) Q):Ak ((idx l n).bind f) Q:=(Ak.idx (P:=fun a=>l[n.toNat]? = some a) h0 h1 fun _ h=>h).bind k
end Go.Am
namespace Go.Am
open Go
set_option linter.unusedVariables false
set_option linter.unusedSimpArgs false
theorem Rs (n lo hi:Int):C6 n lo hi=.ok (decide (lo≤n∧n≤hi)):=by
 unfold C6
 rw [Bool.decide_and]
def Rng (T:Int)(a:Lease):Prop:=(0≤a.Slot∧a.Slot≤4095)∧(0≤a.Airline∧a.Airline≤7)∧(0≤a.Flight∧a.Flight≤4095)∧1≤a.Token∧a.Token≤T
structure LOk (l:Leases):Prop where
 tok:0≤l.Token∧l.Token≤1048576
 rng : ∀ a ∈ l.List,Rng l.Token a
 lt:l.List.Pairwise fun a b=>a.Slot<b.Slot
 nd:l.List.Pairwise fun a b=>a.Token≠b.Token
theorem Akp (l:Leases)(hl:l.List.length≤1000):Ak (Nz l) fun e=>(e=0∧LOk l)∨(e=350∧¬ LOk l):=by
  unfold Nz
  rw [Rs,R.ok_bind]
  refine Ak.ite (fun ht=>?_) fun ht=>Ak.ok (.inr ⟨rfl,fun h=>ht (by simpa using h.tok)⟩)
  have ht:0≤l.Token∧l.Token≤1048576:=by simpa using ht
  refine(Ak.each (b:=fun j a=>fun m=>N7 l j a m) (I:=fun n (m:List (Int×Bool))=>(∀ t,(D0 m t).getD false=true ↔ ∃ a ∈ l.List.take n,a.Token=t)∧(∀ a ∈ l.List.take n,Rng l.Token a)∧((l.List.take n).Pairwise fun a b=>a.Slot<b.Slot)∧((l.List.take n).Pairwise fun a b=>a.Token≠b.Token))
    (E:=fun e:Int=>e=350∧¬ LOk l) l.List 0 [] ⟨fun t=>by simp [D0],by simp,by simp,by simp⟩ fun j a m hj hI=>?_).bind fun x hx=>Ak.alt hx (fun u hu=>Ak.ok (.inl ⟨rfl,?_⟩)) fun r hr=>Ak.ok (.inr hr)
  · simp only [Nat.zero_add] at hI ⊢
    obtain⟨i1,i2,i3,i4⟩:=hI
    have hjl:=Ay hj
    have hm:a ∈ l.List:=List.mem_of_getElem? hj
    have ht1:l.List.take (j+1)=l.List.take j++[a]:=by rw [List.take_add_one,hj]; rfl
    have hget:l.List[j]=a:=by rw [List.getElem?_eq_getElem hjl] at hj; exact Option.some.inj hj
    have hbad : ∀ {Q:(List (Int×Bool)) ⊕ Int→Prop},(Q (.inr 350))→Ak (Fj m a true) Q:=fun h=>by unfold Fj; rw [if_pos rfl]; exact Ak.ok h
    have hfin:Rng l.Token a→(∀ x ∈ l.List.take j,x.Slot<a.Slot)→Ak (Fj m a (Option.getD (D0 m a.Token) false)) (T7 (fun n (m:List (Int×Bool))=>(∀ t,(D0 m t).getD false=true ↔ ∃ a ∈ l.List.take n,a.Token=t)∧(∀ a ∈ l.List.take n,Rng l.Token a)∧((l.List.take n).Pairwise fun a b=>a.Slot<b.Slot)∧((l.List.take n).Pairwise fun a b=>a.Token≠b.Token)) (fun e:Int=>e=350∧¬ LOk l) (j+1)):=fun hr hs=>by
      unfold Fj
      refine Ak.ite (fun hq=>Ak.ok ⟨rfl,fun hk=>?_⟩) fun hq=>Ak.ok ⟨fun t=>?_,fun x hx=>?_,?_,?_⟩
      · obtain⟨x,hx,e⟩:=(i1 a.Token).1 hq
        obtain⟨i,hi,ei⟩:=List.getElem_of_mem hx
        have hij:i<j:=by have:=hi; rw [List.length_take] at this; omega
        have hil:i<l.List.length:=by omega
        rw [List.getElem_take] at ei
        have:=List.pairwise_iff_getElem.1 hk.nd i j hil hjl hij
        rw [ei,hget] at this
        exact this e
      · rw [Alz]
        by_cases e:a.Token=t
        · rw [if_pos e]
          simp only [Option.getD_some,true_iff]
          exact⟨a,by rw [ht1]; simp,e⟩
        · rw [if_neg e,i1 t,ht1]
          constructor
          · rintro⟨x,hx,q⟩; exact⟨x,List.mem_append_left _ hx,q⟩
          · rintro⟨x,hx,q⟩
            rcases List.mem_append.1 hx with hx | hx
            · exact⟨x,hx,q⟩
            · exact absurd (by rw [← List.mem_singleton.1 hx]; exact q) e
      · rw [ht1] at hx
        rcases List.mem_append.1 hx with hx | hx
        · exact i2 x hx
        · rw [List.mem_singleton.1 hx]; exact hr
      · rw [ht1,List.pairwise_append]
        exact⟨i3,by simp,fun x hx y hy=>by rw [List.mem_singleton.1 hy]; exact hs x hx⟩
      · rw [ht1,List.pairwise_append]
        exact⟨i4,by simp,fun x hx y hy=>by rw [List.mem_singleton.1 hy]; exact fun e=>hq ((i1 a.Token).2 ⟨x,hx,e⟩)⟩
    unfold N7
    rw [Rs,Rs,Rs,Rs]
    simp only [R.ok_bind]
    refine Ak.ite (fun q=>hbad ⟨rfl,fun h=>?_⟩) fun q1=>Ak.ite (fun q=>hbad ⟨rfl,fun h=>?_⟩) fun q2=>Ak.ite (fun q=>hbad ⟨rfl,fun h=>?_⟩) fun q3=>Ak.ite (fun q=>hbad ⟨rfl,fun h=>?_⟩) fun q4=>?_
    · have:=(h.rng a hm).1; simp at q; omega
    · have:=(h.rng a hm).2.1; simp at q; omega
    · have:=(h.rng a hm).2.2.1; simp at q; omega
    · have:=(h.rng a hm).2.2.2; simp at q; omega
    simp only [Bool.not_eq_true',decide_eq_false_iff_not,Decidable.not_not] at q1 q2 q3 q4
    refine Ak.ite (fun hj0=>?_) fun hj0=>hfin ⟨q1,q2,q3,q4⟩ fun x hx=>?_
    · have hj0:0<j:=by simpa using hj0
      rw [Lj (by omega) (by omega),show((j:Int) - 1)=((j - 1:Nat):Int) by omega]
      have hp:j - 1<l.List.length:=by omega
      rw [Rp (List.getElem?_eq_getElem hp),R.ok_bind]
      refine Ak.ite (fun q=>hbad ⟨rfl,fun h=>?_⟩) fun q=>hfin ⟨q1,q2,q3,q4⟩ fun x hx=>?_
      · have:=List.pairwise_iff_getElem.1 h.lt (j - 1) j hp hjl (by omega)
        rw [hget] at this
        have q:l.List[j - 1].Slot≥a.Slot:=by simpa using q
        omega
      · have q:l.List[j - 1].Slot<a.Slot:=by simpa using q
        obtain⟨i,hi,ei⟩:=List.getElem_of_mem hx
        have hij:i<j:=by have:=hi; rw [List.length_take] at this; omega
        rw [List.getElem_take] at ei
        rcases Nat.lt_or_ge i (j - 1) with h' | h'
        · have:=List.pairwise_iff_getElem.1 i3 i (j - 1) (by rw [List.length_take]; omega) (by rw [List.length_take]; omega) h'
          rw [List.getElem_take,List.getElem_take,ei] at this
          omega
        · have:i=j - 1:=by omega
          subst this
          rw [← ei]; exact q
    · have : j = 0 := by have : ¬ (0 : Int) < (j : Int) := by simpa using hj0
                         omega
      subst this
      simp at hx
  · simp only [T7,Nat.zero_add,List.take_length] at hu
    exact⟨ht,hu.2.1,hu.2.2.1,hu.2.2.2⟩
theorem Agx {l:Leases}(hl:l.List.length≤1000)(h:LOk l):Nz l=.ok 0:=by
 obtain⟨e,he,hP⟩:=Akp l hl
 rcases hP with⟨rfl,_⟩ | ⟨_,hn⟩
 ·exact he
 ·exact absurd h hn
theorem Ap5 (a:Lease)(s:Int):Pf a s=.ok (if a.Slot<s then -1 else if a.Slot > s then 1 else 0):=by
 unfold Pf
 rw [Py,R.ok_bind]
theorem Aow (l:List Lease)(s:Int)(hl:l.length≤100000)(hs:l.Pairwise fun a b=>a.Slot<b.Slot):Ak (T8 l s) fun x => ∃ n:Nat,x.1=(n:Int)∧n≤l.length∧(∀ k y,l[k]? = some y→k<n→y.Slot<s)∧(∀ k y,l[k]? = some y→n≤k→s≤y.Slot)∧(x.2=true ↔ ∃ y,l[n]? = some y∧y.Slot=s):=by
 unfold T8 Id
 refine Ak.bind (P:=fun x:Int×Bool => ∃ n:Nat,x.1=(n:Int)∧n≤l.length∧(∀ k y,l[k]? = some y→k<n→y.Slot<s)∧(∀ k y,l[k]? = some y→n≤k→s≤y.Slot)∧(x.2=true ↔ ∃ y,l[n]? = some y∧y.Slot=s)) ?_ fun x hx=>Ak.ok hx
 refine Ak.bind (P:=fun i:Int => ∃ n:Nat,i=(n:Int)∧n≤l.length∧(∀ k y,l[k]? = some y→k<n→y.Slot<s)∧(∀ k y,l[k]? = some y→n≤k→s≤y.Slot)) (Ak.loop (I:=fun q:Int×Int=>0≤q.1∧q.1≤q.2∧q.2≤(l.length:Int)∧(∀ (k:Nat) y,l[k]? = some y→(k:Int)<q.1→y.Slot<s)∧(∀ (k:Nat) y,l[k]? = some y→q.2≤(k:Int)→s≤y.Slot)) (fun q=>(q.2 - q.1).toNat) ?_ l.length (0,(l.length:Int)) (by simp) ⟨by simp,by simp,by simp,fun k y _ h=>by simp only at h; omega,fun k y hk h=>by have:=Ay hk; simp only at h; omega⟩) ?_
 ·rintro⟨i,j⟩ ⟨i1,i2,i3,i4,i5⟩
  show Ak (D4 l s i j) _
  simp only at i1 i2 i3 i4 i5
  unfold D4
  by_cases hij:i<j
  case neg=>
   rw [if_neg hij]
   obtain rfl:i=j:=by omega
   exact Ak.ok ⟨i.toNat,by omega,by omega,fun k y hk h=>i4 k y hk (by omega),fun k y hk h=>i5 k y hk (by omega)⟩
  have hm:Int.fdiv (i+j) 2=(i+j) / 2:=Int.fdiv_eq_ediv_of_nonneg _ (by decide)
  rw [if_pos hij,Lj (n:=i+j) (by omega) (by omega),A02 (n:=i+j) (by omega) (by omega),hm,Lj (n:=(i+j) / 2) (by omega) (by omega)]
  have hml:((i+j) / 2).toNat<l.length:=by omega
  obtain⟨m,hmm⟩ : ∃ m:Nat,(i+j) / 2=(m:Int):=⟨((i+j) / 2).toNat,by omega⟩
  rw [hmm] at hml ⊢
  rw [Int.toNat_natCast] at hml
  have hget:=List.getElem?_eq_getElem hml
  rw [Rp hget,R.ok_bind,Ap5,R.ok_bind]
  by_cases hc:l[m].Slot<s
  ·rw [if_pos hc,if_pos (by decide),Lj (n:=(m:Int)+1) (by omega) (by omega)]
   refine Ak.ok ⟨⟨by simp only; omega,by simp only; omega,by simp only; omega,fun k y hk h=>?_,fun k y hk h=>i5 k y hk h⟩,by simp only; omega⟩
   simp only at h
   have hkl:=Ay hk
   rw [List.getElem?_eq_getElem hkl] at hk
   obtain rfl:=Option.some.inj hk
   rcases Nat.lt_or_ge k m with h' | h'
   ·have:=List.pairwise_iff_getElem.1 hs k m hkl hml h'; omega
   ·obtain rfl:k=m:=by omega
    exact hc
  ·have hge:s≤l[m].Slot:=by omega
   have hz:¬ (if l[m].Slot<s then(-1:Int) else if l[m].Slot > s then 1 else 0)<0:=by rw [if_neg hc]; split <;> omega
   rw [if_neg hz]
   refine Ak.ok ⟨⟨by simp only; omega,by simp only; omega,by simp only; omega,fun k y hk h=>i4 k y hk h,fun k y hk h=>?_⟩,by simp only; omega⟩
   simp only at h
   have hkl:=Ay hk
   rw [List.getElem?_eq_getElem hkl] at hk
   obtain rfl:=Option.some.inj hk
   rcases Nat.lt_or_ge m k with h' | h'
   ·have:=List.pairwise_iff_getElem.1 hs m k hml hkl h'; omega
   ·obtain rfl:k=m:=by omega
    exact hge
 ·rintro i ⟨n,rfl,n1,n2,n3⟩
  unfold Fc
  by_cases hn:(n:Int)<(l.length:Int)
  ·have hnl:n<l.length:=by omega
   rw [if_pos (by simpa using hn),Rp (List.getElem?_eq_getElem hnl),R.ok_bind,Ap5,R.ok_bind]
   refine Ak.ok ⟨n,rfl,n1,n2,n3,?_⟩
   rw [beq_iff_eq]
   constructor
   ·intro h
    refine⟨_,List.getElem?_eq_getElem hnl,?_⟩
    split at h
    ·omega
    ·split at h <;> omega
   ·rintro⟨y,hy,h⟩
    rw [List.getElem?_eq_getElem hnl] at hy
    rw [Option.some.inj hy,if_neg (by omega),if_neg (by omega)]
  ·rw [if_neg (by simpa using hn)]
   refine Ak.ok ⟨n,rfl,n1,n2,n3,fun e=>by simp at e,?_⟩
   rintro⟨y,hy,_⟩
   have:=Ay hy
   omega
def Me (l:List Lease)(s:Int):Option Lease:=l.find? fun a=>a.Slot==s
theorem Xm {l:List Lease}{s:Int}{a:Lease}(h:Me l s=some a):a ∈ l∧a.Slot=s:=⟨List.mem_of_find?_eq_some h,by simpa using List.find?_some h⟩
theorem Aa0 {l:List Lease}{s:Int}(h:Me l s=none) : ∀ a ∈ l,a.Slot≠s:=fun a ha e=>by
 have:=List.find?_eq_none.1 h a ha
 simp [e] at this
theorem Awo {l:List Lease}(hs:l.Pairwise fun a b=>a.Slot<b.Slot){a:Lease}(ha:a ∈ l):Me l a.Slot=some a:=by
 cases h:Me l a.Slot with
 | none=>exact absurd rfl (Aa0 h a ha)
 | some b=>
  obtain⟨h1,h2⟩:=Xm h
  obtain⟨i,hi,rfl⟩:=List.getElem_of_mem ha
  obtain⟨j,hj,rfl⟩:=List.getElem_of_mem h1
  rcases Nat.lt_trichotomy i j with q | q | q
  ·have:=List.pairwise_iff_getElem.1 hs i j hi hj q; omega
  ·subst q; rfl
  ·have:=List.pairwise_iff_getElem.1 hs j i hj hi q; omega
theorem Alv (s:Int) : ∀ (L:List Lease) (k:Nat),∃ r:Unit ⊕ Int,each (fun j a=>fun _=>Ei s j a) k L ()=.ok r∧((∃ a,Me L s=some a ∧ ∃ i:Nat,r=.inr ((k+i:Nat):Int)∧L[i]? = some a)∨(Me L s=none∧r=.inl ()))
 | [],k=>⟨.inl (),rfl,.inr ⟨rfl,rfl⟩⟩
 | a::L,k=>by
  have hb:Ei s k a=if(a.Slot==s)=true then .ok (.inr (k:Int)) else .ok (.inl ()):=by
   unfold Ei Ub
   rw [R.ok_bind]
  rw [P4,hb]
  by_cases h:(a.Slot==s)=true
  ·rw [if_pos h]
   exact⟨.inr (k:Int),rfl,.inl ⟨a,by simp [Me,List.find?_cons,h],0,rfl,rfl⟩⟩
  ·rw [if_neg h]
   obtain⟨r,e,hr⟩:=Alv s L (k+1)
   have hq:Me (a::L) s=Me L s:=by simp [Me,List.find?_cons,h]
   refine⟨r,e,?_⟩
   rw [hq]
   rcases hr with⟨b,h1,i,h2,h3⟩ | h
   ·exact .inl ⟨b,h1,i+1,by rw [h2,show k+1+i=k+(i+1) by omega],by simpa using h3⟩
   ·exact .inr h
def lZ:Lease:={ Slot:=0,Airline:=0,Flight:=0,Token:=0,Used:=false }
theorem Aen (l:Leases)(s:Int):Ny l s=.ok ((Me l.List s).getD lZ,(Me l.List s).isSome):=by
 unfold Ny Ib
 obtain⟨r,e,hr⟩:=Alv s l.List 0
 rw [e]
 rcases hr with⟨a,h1,i,rfl,h3⟩ | ⟨h1,rfl⟩
 ·show(R.ok ((0+i:Nat):Int)).bind _=_
  rw [R.ok_bind,if_neg (by omega),Nat.zero_add,Rp h3,R.ok_bind,h1]
  rfl
 ·show(R.ok (-1:Int)).bind _=_
  rw [R.ok_bind,if_pos (by decide),h1]
  rfl
end Go.Am
namespace Go.Am
open Go
set_option linter.unusedVariables false
set_option linter.unusedSimpArgs false
def Alj (c:Command):Prop:=(0≤c.Slot∧c.Slot≤4095)∧(0≤c.Flight∧c.Flight≤4095)∧(0≤c.Airline∧c.Airline≤7)
theorem Ag9 {α:Type}{c:Command}(h:Alj c)(K:Bool→R α) :
  ((C6 c.Slot 0 4095).bind fun r4=>(if r4 then(C6 c.Flight 0 4095).bind fun r5=>R.ok r5 else R.ok false).bind (fun(b:Bool)=>(if b then(C6 c.Airline 0 7).bind fun r6=>R.ok r6 else R.ok false).bind K))=K true:=by
 obtain⟨h1,h2,h3⟩:=h
 rw [Rs,Rs,Rs,decide_eq_true h1,decide_eq_true h2,decide_eq_true h3]
 rfl
theorem Vl (e:Int):Fm true e=.ok ():=rfl
theorem Ady {l:List Lease}(hl:l.length≤1000):G6 l=.ok l:=by
 unfold G6
 rw [if_pos (by simp only [Bz]; omega)]
def R3 (c:Command)(T:Int):Lease:={ Slot:=c.Slot,Airline:=c.Airline,Flight:=c.Flight,Token:=T,Used:=false }
structure StepL (o o':Leases)(a:Lease):Prop where
 ok:LOk o'
 tok:o'.Token=o.Token+1
 len:o'.List.length≤o.List.length+1
 at_:Me o'.List a.Slot=some a
 old : ∀ s,s≠a.Slot→Me o'.List s=Me o.List s
theorem T9 {l:List Lease}(hs:l.Pairwise fun a b=>a.Slot<b.Slot){s:Int}{x:Option Lease}:Me l s=x↔(∀ a,x=some a↔a ∈ l∧a.Slot=s):=by
 constructor
 ·rintro rfl a
  constructor
  ·exact Xm
  ·rintro⟨h1,rfl⟩; exact Awo hs h1
 ·intro h
  cases hx:Me l s with
  | none=>
   cases x with
   | none=>rfl
   | some a=>obtain⟨h1,h2⟩:=(h a).1 rfl; exact absurd h2 (Aa0 hx a h1)
  | some a=>exact((h a).2 (Xm hx)).symm
theorem Avy {o:Leases}{c:Command}(hk:c.Kind=1)(hc:Alj c)(ho:LOk o)(hl:o.List.length≤900)(ht:o.Token<1048576)(hn:Me o.List c.Slot=none) :
  ∃ o',Nf o c=.ok (o',0)∧StepL o o' (R3 c (o.Token+1)):=by
 obtain⟨x,ex,n,en,n1,n2,n3,n4⟩:=Aow o.List c.Slot (by omega) ho.lt
 obtain⟨x1,x2⟩:=x
 simp only at en n4
 have hx2:x2=false:=by
  cases x2 with
  | false=>rfl
  | true=>obtain⟨y,hy,e⟩:=n4.1 rfl; exact absurd e (Aa0 hn y (List.mem_of_getElem? hy))
 subst hx2 en
 have hT:=ho.tok
 have hmt : ∀ y ∈ o.List.take n,y.Slot<c.Slot:=fun y hy=>by
  obtain⟨i,hi,rfl⟩:=List.getElem_of_mem hy
  rw [List.length_take] at hi
  rw [List.getElem_take]
  exact n2 i _ (List.getElem?_eq_getElem (by omega)) (by omega)
 have hmd : ∀ y ∈ o.List.drop n,c.Slot<y.Slot:=fun y hy=>by
  obtain⟨i,hi,rfl⟩:=List.getElem_of_mem hy
  rw [List.length_drop] at hi
  rw [List.getElem_drop]
  have h1:=n3 (n+i) _ (List.getElem?_eq_getElem (by omega)) (by omega)
  have h2:=Aa0 hn o.List[n+i] (List.getElem_mem _)
  omega
 refine⟨{ Token:=o.Token+1,List:=o.List.take n++[R3 c (o.Token+1)]++o.List.drop n },?_,?_⟩
 ·unfold Nf Uc
  rw [Agx (by omega) ho,R.ok_bind,if_neg (by decide),if_pos (by rw [hk]; rfl),Ag9 hc,Vl,R.ok_bind,Ady (by omega),R.ok_bind]
  unfold Yb Lv Ix
  rw [ex,R.ok_bind,decide_eq_true ht]
  simp only [Bool.not_false,Vl,R.ok_bind]
  rw [Lj (n:=o.Token+1) (by omega) (by omega)]
  unfold R7 Rd
  rw [if_pos ⟨by omega,by omega,by simp,by simp only [List.length_singleton,Bz]; omega⟩,Int.toNat_natCast]
  rfl
 ·have hmem : ∀ y,y ∈ o.List.take n++[R3 c (o.Token+1)]++o.List.drop n↔y=R3 c (o.Token+1)∨y ∈ o.List:=fun y=>by
   rw [List.mem_append,List.mem_append,List.mem_singleton]
   constructor
   ·rintro((h | h) | h)
    ·exact .inr (List.mem_of_mem_take h)
    ·exact .inl h
    ·exact .inr (List.mem_of_mem_drop h)
   ·rintro(h | h)
    ·exact .inl (.inr h)
    ·rw [← List.take_append_drop n o.List,List.mem_append] at h
     rcases h with h | h
     ·exact .inl (.inl h)
     ·exact .inr h
  have hlt:(o.List.take n++[R3 c (o.Token+1)]++o.List.drop n).Pairwise fun a b=>a.Slot<b.Slot:=by
   rw [List.pairwise_append,List.pairwise_append]
   refine⟨⟨ho.lt.sublist (List.take_sublist _ _),by simp,fun y hy z hz=>by rw [List.mem_singleton.1 hz]; exact hmt y hy⟩,ho.lt.sublist (List.drop_sublist _ _),fun y hy z hz=>?_⟩
   rcases List.mem_append.1 hy with hy | hy
   ·have:=hmt y hy; have:=hmd z hz; omega
   ·rw [List.mem_singleton.1 hy]; exact hmd z hz
  refine⟨⟨⟨by show 0≤o.Token+1; omega,by show o.Token+1≤1048576; omega⟩,fun y hy=>?_,hlt,?_⟩,rfl,by simp only [List.length_append,List.length_take,List.length_drop,List.length_singleton]; omega,(T9 hlt).2 fun a=>?_,fun s hs=>(T9 hlt).2 fun a=>?_⟩
  ·rcases(hmem y).1 hy with rfl | h
   ·exact⟨hc.1,hc.2.2,hc.2.1,by show 1≤o.Token+1; omega,Int.le_refl _⟩
   ·have:=ho.rng y h; unfold Rng at this ⊢; show _∧_∧_∧_∧y.Token≤o.Token+1; omega
  ·have hnd:=ho.nd
   rw [← List.take_append_drop n o.List,List.pairwise_append] at hnd
   have hne : ∀ y ∈ o.List,y.Token≠o.Token+1:=fun y hy=>by have:=(ho.rng y hy).2.2.2.2; omega
   show(o.List.take n++[R3 c (o.Token+1)]++o.List.drop n).Pairwise _
   rw [List.pairwise_append,List.pairwise_append]
   refine⟨⟨hnd.1,by simp,fun y hy z hz=>by rw [List.mem_singleton.1 hz]; exact hne y (List.mem_of_mem_take hy)⟩,hnd.2.1,fun y hy z hz=>?_⟩
   rcases List.mem_append.1 hy with hy | hy
   ·exact hnd.2.2 y hy z hz
   ·rw [List.mem_singleton.1 hy]; exact fun e=>hne z (List.mem_of_mem_drop hz) e.symm
  ·rw [hmem]
   constructor
   ·intro e; have e:=Option.some.inj e; exact⟨.inl e.symm,by rw [← e]⟩
   ·rintro⟨rfl | h,e⟩
    ·rfl
    ·exact absurd e (Aa0 hn a h)
  ·rw [(T9 (x:=Me o.List s) ho.lt).1 rfl a,hmem]
   constructor
   ·rintro⟨h,e⟩; exact⟨.inr h,e⟩
   ·rintro⟨rfl | h,e⟩
    ·exact absurd e.symm hs
    ·exact⟨h,e⟩
theorem Anq {o:Leases}{c:Command}{x:Lease}(ho:LOk o)(hl:o.List.length≤900)(hx:Me o.List c.Slot=some x) :
  ∃ n:Nat,o.List[n]? = some x∧It c o.Token o.List=((Fm (x.Token==c.Token) 351).bind fun _=>(Fm (!x.Used) 350).bind fun _=>.ok (n,x)):=by
 obtain⟨q,ex,n,en,n1,n2,n3,n4⟩:=Aow o.List c.Slot (by omega) ho.lt
 obtain⟨x1,x2⟩:=q
 simp only at en n4
 obtain⟨hm,hs⟩:=Xm hx
 have hn:o.List[n]? = some x:=by
  obtain⟨i,hi,e⟩:=List.getElem_of_mem hm
  have hi':o.List[i]? = some x:=by rw [List.getElem?_eq_getElem hi,e]
  rcases Nat.lt_trichotomy i n with h | h | h
  ·have:=n2 i x hi' h; omega
  ·rw [← h]; exact hi'
  ·have hnl:n<o.List.length:=by omega
   have h1:=n3 n _ (List.getElem?_eq_getElem hnl) (Nat.le_refl _)
   have h2:=List.pairwise_iff_getElem.1 ho.lt n i hnl hi h
   rw [e] at h2; omega
 have hx2:x2=true:=n4.2 ⟨x,hn,hs⟩
 subst hx2 en
 refine⟨n,hn,?_⟩
 unfold It
 rw [ex,R.ok_bind,Vl,R.ok_bind,Rp hn,R.ok_bind,Int.toNat_natCast]
theorem Axc {o:Leases}{c:Command}{x:Lease}(hk:c.Kind=2)(hc:Alj c)(ho:LOk o)(hl:o.List.length≤900)(ht:o.Token<1048576)(hx:Me o.List c.Slot=some x)(h1:x.Token=c.Token)(h2:x.Used=false) :
  ∃ o',Nf o c=.ok (o',0)∧StepL o o' (R3 c (o.Token+1)):=by
 obtain⟨n,hn,eh⟩:=Anq ho hl hx
 have hT:=ho.tok
 have hnl:=Ay hn
 have hgn:o.List[n]=x:=by rw [List.getElem?_eq_getElem hnl] at hn; exact Option.some.inj hn
 obtain⟨_,hxs⟩:=Xm hx
 refine⟨{ Token:=o.Token+1,List:=o.List.set n (R3 c (o.Token+1)) },?_,?_⟩
 ·unfold Nf Uc
  rw [Agx (by omega) ho,R.ok_bind,if_neg (by decide),if_neg (by rw [hk]; decide),if_pos (by rw [hk]; rfl),Ag9 hc,Vl,R.ok_bind,Ady (by omega),R.ok_bind]
  unfold Ux J6 Ix
  rw [eh,h1,h2,beq_self_eq_true,decide_eq_true ht]
  simp only [Bool.not_false,Vl,R.ok_bind]
  rw [Lj (n:=o.Token+1) (by omega) (by omega)]
  rfl
 ·have hget : ∀ (i:Nat) (hi:i<(o.List.set n (R3 c (o.Token+1))).length),(o.List.set n (R3 c (o.Token+1)))[i]=if n=i then R3 c (o.Token+1) else o.List[i]'(by rw [List.length_set] at hi; exact hi):=fun i hi=>List.getElem_set ..
  have hslot : ∀ (i:Nat) (hi:i<(o.List.set n (R3 c (o.Token+1))).length),((o.List.set n (R3 c (o.Token+1)))[i]).Slot=(o.List[i]'(by rw [List.length_set] at hi; exact hi)).Slot:=fun i hi=>by
   rw [hget i hi]
   by_cases e:n=i
   ·subst e; rw [if_pos rfl,hgn]; exact hxs.symm
   ·rw [if_neg e]
  have hlt:(o.List.set n (R3 c (o.Token+1))).Pairwise fun a b=>a.Slot<b.Slot:=by
   rw [List.pairwise_iff_getElem]
   intro i j hi hj hij
   rw [hslot i hi,hslot j hj]
   exact List.pairwise_iff_getElem.1 ho.lt i j _ _ hij
  have hmem : ∀ y,y ∈ o.List.set n (R3 c (o.Token+1))↔y=R3 c (o.Token+1)∨(y ∈ o.List∧y.Slot≠c.Slot):=fun y=>by
   constructor
   ·intro h
    obtain⟨i,hi,rfl⟩:=List.getElem_of_mem h
    rw [hget i hi]
    by_cases e:n=i
    ·rw [if_pos e]; exact .inl rfl
    ·rw [if_neg e]
     have hi':i<o.List.length:=by rw [List.length_set] at hi; exact hi
     refine .inr ⟨List.getElem_mem _,fun q=>?_⟩
     rcases Nat.lt_or_ge i n with h' | h'
     ·have:=List.pairwise_iff_getElem.1 ho.lt i n hi' hnl h'; rw [hgn] at this; omega
     ·have:=List.pairwise_iff_getElem.1 ho.lt n i hnl hi' (by omega); rw [hgn] at this; omega
   ·rintro(rfl | ⟨h,hs⟩)
    ·exact List.mem_iff_getElem.2 ⟨n,by rw [List.length_set]; exact hnl,by rw [hget,if_pos rfl]⟩
    ·obtain⟨i,hi,rfl⟩:=List.getElem_of_mem h
     refine List.mem_iff_getElem.2 ⟨i,by rw [List.length_set]; exact hi,?_⟩
     rw [hget,if_neg (fun e=>hs (by subst e; rw [hgn]; exact hxs))]
  have hne : ∀ y ∈ o.List,y.Token≠o.Token+1:=fun y hy=>by have:=(ho.rng y hy).2.2.2.2; omega
  refine⟨⟨⟨by show 0≤o.Token+1; omega,by show o.Token+1≤1048576; omega⟩,fun y hy=>?_,hlt,?_⟩,rfl,by simp only [List.length_set]; omega,(T9 hlt).2 fun a=>?_,fun s hs=>(T9 hlt).2 fun a=>?_⟩
  ·rcases(hmem y).1 hy with rfl | ⟨h,_⟩
   ·exact⟨hc.1,hc.2.2,hc.2.1,by show 1≤o.Token+1; omega,Int.le_refl _⟩
   ·have:=ho.rng y h; unfold Rng at this ⊢; show _∧_∧_∧_∧y.Token≤o.Token+1; omega
  ·show(o.List.set n (R3 c (o.Token+1))).Pairwise _
   rw [List.pairwise_iff_getElem]
   intro i j hi hj hij
   rw [hget i hi,hget j hj]
   have hi':i<o.List.length:=by rw [List.length_set] at hi; exact hi
   have hj':j<o.List.length:=by rw [List.length_set] at hj; exact hj
   by_cases e1:n=i
   ·rw [if_pos e1,if_neg (by omega)]
    exact fun q=>hne _ (List.getElem_mem hj') q.symm
   ·rw [if_neg e1]
    by_cases e2:n=j
    ·rw [if_pos e2]; exact hne _ (List.getElem_mem hi')
    ·rw [if_neg e2]; exact List.pairwise_iff_getElem.1 ho.nd i j hi' hj' hij
  ·rw [hmem]
   constructor
   ·intro e; have e:=Option.some.inj e; exact⟨.inl e.symm,by rw [← e]⟩
   ·rintro⟨rfl | ⟨_,h⟩,e⟩
    ·rfl
    ·exact absurd e h
  ·rw [(T9 (x:=Me o.List s) ho.lt).1 rfl a,hmem]
   constructor
   ·rintro⟨h,e⟩; exact⟨.inr ⟨h,fun q=>hs (by rw [← e,q]; rfl)⟩,e⟩
   ·rintro⟨rfl | ⟨h,_⟩,e⟩
    ·exact absurd e.symm hs
    ·exact⟨h,e⟩
theorem Ax9 {o:Leases}{c:Command}{x:Lease}(hk:c.Kind=2∨c.Kind=3)(hc:Alj c)(ho:LOk o)(hl:o.List.length≤900)(hx:Me o.List c.Slot=some x)(h1:x.Token≠c.Token) :
  Nf o c=.ok ({ Token:=0,List:=[] },351):=by
 obtain⟨n,hn,eh⟩:=Anq ho hl hx
 have hb:(x.Token==c.Token)=false:=by simpa using h1
 unfold Nf Uc
 rw [Agx (by omega) ho,R.ok_bind,if_neg (by decide)]
 rcases hk with hk | hk
 ·rw [if_neg (by rw [hk]; decide),if_pos (by rw [hk]; rfl),Ag9 hc,Vl,R.ok_bind,Ady (by omega),R.ok_bind]
  unfold Ux J6
  rw [eh,hb]
  rfl
 ·rw [if_neg (by rw [hk]; decide),if_neg (by rw [hk]; decide),if_pos (by rw [hk]; rfl),Ag9 hc,Vl,R.ok_bind,Ady (by omega),R.ok_bind]
  unfold X5 Nn
  rw [eh,hb]
  rfl
end Go.Am
namespace Go.Am
open Go
set_option linter.unusedVariables false
set_option linter.unusedSimpArgs false
theorem Ar2 {r:Round}(hr:CChk r)(slots:List Int):Ak (Je r slots) fun b=>b=true→slots.Nodup:=by
 unfold Je
 refine Ak.ite (fun _=>Ak.ok fun h=>by simp at h) fun h=>?_
 simp only [bne_iff_ne,ne_eq,Decidable.not_not] at h
 refine(Ak.each (b:=fun j a=>fun _=>F8 r slots j a) (I:=fun n (_:Unit)=>(slots.take n).Nodup) (E:=fun b:Bool=>b=false) slots 0 () (by simp) fun j a _ hj hI=>?_).bind fun x hx=>Ak.alt hx (fun u hu=>?_) fun e he=>Ak.ok fun h=>by rw [he] at h; simp at h
 ·simp only [Nat.zero_add] at hI ⊢
  have hjl:j<slots.length:=Ay hj
  have ht1:slots.take (j+1)=slots.take j++[a]:=by rw [List.take_add_one,hj]; rfl
  unfold F8
  by_cases q:a<0∨a≥r.Slots
  ·rw [if_pos (by simpa using q)]
   simp only [R.ok_bind,if_true]
   exact Ak.ok rfl
  ·rw [if_neg (by simpa using q)]
   refine Ak.bind (Agr hr (f:=(j:Int)) (s:=a) ⟨by omega,by omega⟩ ⟨by omega,by omega⟩ (Q:=fun _=>True) fun x=>Ak.ok trivial) fun b _=>?_
   refine Ak.bind (P:=fun y:Bool=>y=false→a ∉ slots.take j) (Ak.ite (fun _=>Ak.ok fun h=>by simp at h) fun _=>?_) fun b1 hb1=>Ak.ite (fun _=>Ak.ok rfl) fun hq=>Ak.ok ?_
   ·rw [if_pos ⟨by omega,by omega⟩,Jq,Int.toNat_natCast]
    exact Ak.ok fun h=>by simpa using h
   ·show(slots.take (j+1)).Nodup
    rw [ht1,List.nodup_append]
    have hb:b1=false:=by simpa using hq
    exact⟨hI,by simp,fun x hx y hy=>by rw [List.mem_singleton.1 hy]; exact fun e=>hb1 hb (e ▸ hx)⟩
 ·simp only [T7,Nat.zero_add,List.take_length] at hu
  exact Ak.ok fun _=>hu
theorem Ask {r:Round}(hr:CChk r){slots:List Int}(h:Ec r slots=.ok (true,0)):slots.length=r.Owners.length∧InS r slots∧slots.Nodup:=by
 obtain⟨b,eb,hb⟩:=Ah2 hr slots
 obtain⟨b',eb',hb'⟩:=Ar2 hr slots
 rw [eb] at eb'
 obtain rfl:=R.ok.inj eb'
 cases b with
 | true=>exact⟨(hb rfl).1,(hb rfl).2,hb' rfl⟩
 | false=>
  exfalso
  obtain⟨e,ee,_⟩:=Aif r
  have hW:M4 r slots=.ok 370:=by
   unfold M4 Nj
   rw [ee,R.ok_bind]
   by_cases he:(e != 0)=true
   ·rw [if_pos he,R.ok_bind,if_pos (by simp [he])]
   ·rw [if_neg he,eb,R.ok_bind,R.ok_bind,if_pos (by simp)]
  unfold Ec K9 at h
  rw [hW,R.ok_bind,if_pos (by decide),R.ok_bind,if_pos (by decide)] at h
  have:=congrArg Prod.fst (R.ok.inj h)
  simp at this
def Ag6 (c:Clearing)(l:List Lease)(x:Nat):Prop:=
 ((Me l (x:Int)).isSome=decide ((x:Int)<(c.Flights.length:Int))) ∧ ∀ a,Me l (x:Int)=some a→c.Owners[x]? = some a.Airline∧c.Flights[x]? = some a.Flight∧a.Used=false
def Avq (c:Clearing)(l:List Lease):Unit ⊕ Bool→Prop
 | .inl _ => ∀ x:Nat,(x:Int)<c.Slots→Ag6 c l x
 | .inr b=>b=false
theorem Aus (c:Clearing)(l:Leases)(hF:Formed c)(hl:l.List.length≤1000):Ak (Qm c l) fun r=>r=true→LOk l ∧ ∀ x:Nat,(x:Int)<c.Slots→Ag6 c l.List x:=by
 unfold Qm
 obtain⟨e,ee,he⟩:=Akp l hl
 rw [ee,R.ok_bind]
 refine Ak.ite (fun _=>Ak.ok fun h=>by simp at h) fun hq=>?_
 have hok:LOk l:=by
  rcases he with⟨_,h⟩ | ⟨rfl,_⟩
  ·exact h
  ·exact absurd (by decide) hq
 have hs:=hF.slots
 have how:=hF.ow
 refine Ak.bind (P:=Avq c l.List) (Ak.loop (I:=fun x:Int=>0≤x∧x≤c.Slots ∧ ∀ n:Nat,(n:Int)<x→Ag6 c l.List n) (fun x=>(c.Slots - x).toNat) (fun x hx=>?_) 8 0 (by omega) ⟨by omega,by omega,fun n h=>by omega⟩) fun x hx=>Ak.alt (P:=Avq c l.List) hx (fun u hu=>Ak.ok fun _=>⟨hok,hu⟩) fun b hb=>Ak.ok fun h=>by rw [show b=false from hb] at h; simp at h
 obtain⟨h0,h1,h2⟩:=hx
 obtain⟨n,rfl⟩ : ∃ n:Nat,x=(n:Int):=⟨x.toNat,by omega⟩
 unfold Od
 by_cases hlt:(n:Int)<c.Slots
 case neg=>
  rw [if_neg hlt]
  exact Ak.ok (fun x hx=>h2 x (by omega))
 rw [if_pos hlt,Aen,R.ok_bind]
 have hbad : ∀ {Q:Int ⊕ (Unit ⊕ Bool)→Prop},Q (.inr (.inr false))→Ak (F1 (n:Int) true) Q:=fun h=>by unfold F1; rw [if_pos rfl]; exact Ak.ok h
 have hgo:Ag6 c l.List n→Ak (F1 (n:Int) false) fun y=>match y with | .inl s'=>(0≤s'∧s'≤c.Slots ∧ ∀ n:Nat,(n:Int)<s'→Ag6 c l.List n)∧(c.Slots - s').toNat<(c.Slots - (n:Int)).toNat | .inr e=>Avq c l.List e:=fun hf=>by
  unfold F1
  rw [if_neg (by decide),Lj (by omega) (by omega)]
  refine Ak.ok ⟨⟨by omega,by omega,fun m hm=>?_⟩,by omega⟩
  by_cases e:m=n
  ·rw [e]; exact hf
  ·exact h2 m (by omega)
 refine Ak.ite (fun _=>hbad rfl) fun hq1=>?_
 have hq1:(Me l.List (n:Int)).isSome=decide ((n:Int)<(c.Flights.length:Int)):=by simpa using hq1
 cases hla:Me l.List (n:Int) with
 | none=>
  rw [hla] at hq1
  rw [if_neg (by simp)]
  exact(hgo ⟨by rw [hla]; exact hq1,fun a ha=>by rw [hla] at ha; cases ha⟩).mono fun y hy=>by rcases y with s' | e <;> exact hy
 | some a=>
  rw [hla] at hq1
  have hnf:(n:Int)<(c.Flights.length:Int):=by simpa using hq1.symm
  rw [if_pos (by rfl)]
  refine Xk (by omega) (by omega) fun a1 ha1=>Ak.ite (fun _=>hbad rfl) fun hq2=>Xk (by omega) (by omega) fun a2 ha2=>Ak.ite (fun _=>hbad rfl) fun hq3=>?_
  rw [Int.toNat_natCast] at ha1 ha2
  have e1:a.Airline=a1:=by simpa using hq2
  have e2:a.Flight=a2:=by simpa using hq3
  show Ak (F1 (n:Int) a.Used) _
  cases hu:a.Used with
  | true=>exact hbad rfl
  | false=>
   refine(hgo ⟨by rw [hla]; exact hq1,fun b hb=>?_⟩).mono fun y hy=>by rcases y with s' | e <;> exact hy
   rw [hla] at hb
   obtain rfl:=Option.some.inj hb
   exact⟨by rw [ha1,e1],by rw [ha2,e2],hu⟩
end Go.Am
namespace Go.Am
open Go
set_option linter.unusedVariables false
set_option linter.unusedSimpArgs false
structure OutOk (c:Clearing):Prop where
 len:c.Outcome.length=c.Flights.length
 ins : ∀ a ∈ c.Outcome,0≤a∧a<c.Slots
 nd:c.Outcome.Nodup
theorem Arz {c:Clearing}(hV:ValidC c)(hs:Sm c)(hp:c.Phase=3∨c.Phase=4):OutOk c:=by
 have hF:=hV.formed
 have how:=hF.ow
 have hfin:Fin c:=by
  rcases hV.phase with⟨h,_⟩ | ⟨h,_⟩ | ⟨_,h⟩
  ·omega
  ·omega
  ·exact h
 have hlen:c.Owners.length≤100000:=by have:=hF.fl; have:=hF.slots; omega
 obtain⟨x,ex,hx⟩:=Amc (exR c) hlen
 rw [hfin.out] at ex
 obtain rfl:=R.ok.inj ex
 rcases hx with⟨_,hc,hst⟩ | ⟨_,he⟩
 ·obtain⟨h1,h2,h3⟩:=Ask hc hst
  exact⟨by rw [h1]; exact how,fun a ha=>h2 a ha,h3⟩
 ·have he:c.Outcome=(List.range c.Owners.length).map fun n:Nat=>(n:Int):=he
  refine⟨by rw [he]; simp [how],fun a ha=>?_,?_⟩
  ·rw [he] at ha
   obtain⟨n,hn,rfl⟩:=List.mem_map.1 ha
   have:=List.mem_range.1 hn
   have:=hF.fl
   omega
  ·rw [he,List.nodup_iff_pairwise_ne,List.pairwise_map]
   exact List.Pairwise.imp (fun h e=>h (by omega)) (List.nodup_iff_pairwise_ne.1 List.nodup_range)
structure CmdP (c:Clearing)(l:Leases)(n:Nat)(x:List Command):Prop where
 each : ∀ m ∈ x,Alj m∧((m.Kind=1∧Me l.List m.Slot=none)∨(m.Kind=2 ∧ ∃ y,Me l.List m.Slot=some y∧y.Token=m.Token∧y.Used=false)) ∧ ∃ j:Nat,j<n∧c.Outcome[j]? = some m.Slot∧m.Slot≠(j:Int)
 ne:x.Pairwise fun a b=>a.Slot≠b.Slot
 all : ∀ (j:Nat) a,j<n→c.Outcome[j]? = some a→a≠(j:Int) → ∃ m ∈ x,m.Slot=a∧c.Owners[j]? = some m.Airline∧c.Flights[j]? = some m.Flight
 len:x.length≤n
theorem CmdP.skip {c:Clearing}{l:Leases}{n:Nat}{x:List Command}(h:CmdP c l n x)(ha:c.Outcome[n]? = some (n:Int)):CmdP c l (n+1) x:=
 ⟨fun m hm=>by obtain⟨h1,h2,j,h3,h4⟩:=h.each m hm; exact⟨h1,h2,j,by omega,h4⟩,h.ne,fun j a hj hja hne=>by
  by_cases e:j=n
  ·subst e; rw [ha] at hja; exact absurd (Option.some.inj hja).symm hne
  ·exact h.all j a (by omega) hja hne,by have:=h.len; omega⟩
theorem CmdP.put {c:Clearing}{l:Leases}{n:Nat}{x:List Command}(h:CmdP c l n x)(hO:OutOk c){m:Command}(h1:Alj m)(h2:(m.Kind=1∧Me l.List m.Slot=none)∨(m.Kind=2 ∧ ∃ y,Me l.List m.Slot=some y∧y.Token=m.Token∧y.Used=false))
  (h3:c.Outcome[n]? = some m.Slot) (h4:m.Slot≠(n:Int)) (h5:c.Owners[n]? = some m.Airline) (h6:c.Flights[n]? = some m.Flight):CmdP c l (n+1) (x++[m]):=by
 refine⟨fun q hq=>?_,?_,fun j a hj hja hne=>?_,by have:=h.len; simp; omega⟩
 ·rcases List.mem_append.1 hq with hq | hq
  ·obtain⟨k1,k2,j,k3,k4⟩:=h.each q hq; exact⟨k1,k2,j,by omega,k4⟩
  ·rw [List.mem_singleton.1 hq]; exact⟨h1,h2,n,by omega,h3,h4⟩
 ·rw [List.pairwise_append]
  refine⟨h.ne,by simp,fun q hq y hy e=>?_⟩
  rw [List.mem_singleton.1 hy] at e
  obtain⟨_,_,j,k3,k4,_⟩:=h.each q hq
  rw [e] at k4
  obtain⟨hj,ej⟩:=List.getElem?_eq_some_iff.1 k4
  obtain⟨hn,en⟩:=List.getElem?_eq_some_iff.1 h3
  have:=List.pairwise_iff_getElem.1 (List.nodup_iff_pairwise_ne.1 hO.nd) j n hj hn k3
  exact this (by rw [ej,en])
 ·by_cases e:j=n
  ·subst e; rw [h3] at hja
   exact⟨m,by simp,Option.some.inj hja,h5,h6⟩
  ·obtain⟨q,hq,k⟩:=h.all j a (by omega) hja hne
   exact⟨q,List.mem_append_left _ hq,k⟩
def Azs (c:Clearing)(l:Leases)(x:List Command×Int):Prop:=
 (x.2≠0∧x.1=[])∨(x.2=0∧ValidC c∧OutOk c∧LOk l∧(∀ n:Nat,(n:Int)<c.Slots→Ag6 c l.List n)∧CmdP c l c.Outcome.length x.1)
theorem Ao2 (c:Clearing)(l:Leases)(hs:Sm c)(hl:l.List.length≤1000):Ak (H9 c l) (Azs c l):=by
 unfold H9
 obtain⟨e,ee,he⟩:=Atu c hs
 rw [ee,R.ok_bind]
 rcases he with⟨rfl,hV⟩ | ⟨rfl,_⟩
 case inr=>rw [if_pos (by decide)]; exact Ak.ok (.inl ⟨by decide,rfl⟩)
 rw [if_neg (by decide)]
 refine Ak.ite (fun _=>Ak.ok (.inl ⟨by decide,rfl⟩)) fun hp=>?_
 have hp:c.Phase=3∨c.Phase=4:=by
  by_cases h:c.Phase=3
  ·exact .inl h
  ·refine .inr (Decidable.byContradiction fun h'=>hp ?_)
   simp [h,h']
 have hO:=Arz hV hs hp
 have hF:=hV.formed
 have how:=hF.ow
 have hsl:=hF.slots
 have hfl:=hF.fl
 refine(Aus c l hF hl).bind fun r hr=>Ak.ite (fun q=>?_) fun _=>Ak.ok (.inl ⟨by decide,rfl⟩)
 obtain⟨hL,hfit⟩:=hr q
 refine(Ak.eachS (b:=fun j a=>fun x1=>Im c l j a x1) (I:=fun n x=>CmdP c l n x) c.Outcome 0 [] ⟨by simp,by simp,fun j a h=>by omega,by simp⟩ fun j a x hj hI=>?_).bind fun x hx=>Ak.ok (.inr ⟨rfl,hV,hO,hL,hfit,by simpa using hx⟩)
 simp only [Nat.zero_add] at hI ⊢
 have hjl:=Ay hj
 have hlen:=hO.len
 have hxl:=hI.len
 unfold Im
 refine Ak.ite (fun q=>Ak.ok (hI.skip (by rw [hj]; congr 1; simpa using q))) fun q=>?_
 have hne:a≠(j:Int):=by simpa using q
 refine Xk (by omega) (by omega) fun a1 ha1=>Xk (by omega) (by omega) fun a2 ha2=>?_
 rw [Int.toNat_natCast] at ha1 ha2
 have hai:=hO.ins a (List.mem_of_getElem? hj)
 have h1:=hF.own a1 (List.mem_of_getElem? ha1)
 have h2:=hF.rng a2 (List.mem_of_getElem? ha2)
 unfold inA at h1
 rw [Aen,R.ok_bind]
 cases hla:Me l.List a with
 | none=>
  rw [if_neg (by simp),if_pos (by simp only [List.length_singleton,Bz]; omega)]
  exact Ak.ok (hI.put hO ⟨by simp only; omega,by simp only; omega,by simp only; omega⟩ (.inl ⟨rfl,hla⟩) hj hne ha1 ha2)
 | some y=>
  rw [if_pos (by rfl),if_pos (by simp only [List.length_singleton,Bz]; omega)]
  have hf:=hfit a.toNat (by omega)
  have hy:=hf.2 y (by rw [show((a.toNat:Nat):Int)=a by omega]; exact hla)
  exact Ak.ok (hI.put hO ⟨by simp only; omega,by simp only; omega,by simp only; omega⟩ (.inr ⟨rfl,y,hla,rfl,hy.2.2⟩) hj hne ha1 ha2)
end Go.Am
namespace Go.Am
open Go
set_option linter.unusedVariables false
set_option linter.unusedSimpArgs false
structure Ran (b o:Leases)(ms:List Command)(k:Nat):Prop where
 ok:LOk o
 tok:o.Token=b.Token+(k:Int)
 len:o.List.length≤b.List.length+k
 new : ∀ m ∈ ms.take k,∃ y,Me o.List m.Slot=some y∧y.Airline=m.Airline∧y.Flight=m.Flight∧y.Used=false∧b.Token<y.Token
 old : ∀ s,(∀ m ∈ ms.take k,m.Slot≠s)→Me o.List s=Me b.List s
theorem law_RoundsLeases (hsane:Rz=.ok true):Ok:=by
 intro a b _ _ _
 refine Ak.eq ?_
 unfold Ph
 rw [hsane,R.ok_bind,if_pos rfl]
 refine(Aw3 a).bind fun fw hfw=>?_
 have h35:Vu b=.ok (decide ((b.List.length:Int)≤40)):=rfl
 by_cases hf:fw=true∧b.List.length≤40
 case neg=>
  have e:(if(!fw)=true then R.ok true else(Vu b).bind fun r2=>R.ok (!r2))=.ok true:=by
   cases fw with
   | false=>rfl
   | true=>
    rw [if_neg (by decide),h35,R.ok_bind,decide_eq_false (fun h=>hf ⟨rfl,by omega⟩)]
    rfl
  rw [e,R.ok_bind,if_pos rfl]
  exact Ak.ok rfl
 obtain⟨hft,hb40⟩:=hf
 have hs:=(hfw hft).sm
 have e:(if(!fw)=true then R.ok true else(Vu b).bind fun r2=>R.ok (!r2))=.ok false:=by
  rw [hft,if_neg (by decide),h35,R.ok_bind,decide_eq_true (by omega)]
  rfl
 rw [e,R.ok_bind,if_neg (by decide)]
 refine(Ao2 a b hs (by omega)).bind fun x hx=>Ak.ite (fun hq=>Ak.ok ?_) fun hq=>?_
 ·rcases hx with⟨_,h⟩ | ⟨h,_⟩
  ·rw [h]; rfl
  ·rw [h]; simp
 rcases hx with⟨h,_⟩ | ⟨h2,hV,hO,hL,hfit,hC⟩
 ·exact absurd (by simp [h]) hq
 have hF:=hV.formed
 have how:=hF.ow
 have hsl:=hF.slots
 have hfl:=hF.fl
 have hol:=hO.len
 have hcl:=hC.len
 have hT:=hL.tok
 have hsum:b.Token+(x.1.length:Int)≤1048576:=by
  simp only [Bool.or_eq_true,decide_eq_true_eq,not_or] at hq
  have:=hq.2
  rw [Lj (by omega) (by omega)] at this
  omega
 generalize x.1=ms at hC hcl hsum ⊢
 refine(Ak.each (b:=fun _ a1=>fun o=>Ie a1 o) (I:=fun k o=>Ran b o ms k) (E:=fun _:Bool=>False) ms 0 b ⟨hL,by simp,by simp,by simp,fun _ _=>rfl⟩ fun j m o hj hI=>?_).bind fun y hy=>Ak.alt hy (fun o ho=>?_) fun _ h=>h.elim
 ·simp only [Nat.zero_add] at hI ⊢
  have hjl:=Ay hj
  have hm:=List.mem_of_getElem? hj
  obtain⟨k1,k2,_⟩:=hC.each m hm
  have ht1:ms.take (j+1)=ms.take j++[m]:=by rw [List.take_add_one,hj]; rfl
  have hne : ∀ q ∈ ms.take j,q.Slot≠m.Slot:=fun q hq=>by
   obtain⟨i,hi,rfl⟩:=List.getElem_of_mem hq
   rw [List.length_take] at hi
   rw [List.getElem_take]
   have:=List.pairwise_iff_getElem.1 hC.ne i j (by omega) hjl (by omega)
   rw [List.getElem?_eq_getElem hjl] at hj
   rw [Option.some.inj hj] at this
   exact this
  have hat:=hI.old m.Slot hne
  have htk:=hI.tok
  have hln:=hI.len
  obtain⟨o',e,hS⟩ : ∃ o',Nf o m=.ok (o',0)∧StepL o o' (R3 m (o.Token+1)):=by
   rcases k2 with⟨q1,q2⟩ | ⟨q1,z,q2,q3,q4⟩
   ·exact Avy q1 k1 hI.ok (by omega) (by omega) (by rw [hat]; exact q2)
   ·exact Axc q1 k1 hI.ok (by omega) (by omega) (by rw [hat]; exact q2) q3 q4
  unfold Ie
  rw [e,R.ok_bind,if_neg (by simp)]
  have hSl:=hS.len
  have hSt:=hS.tok
  refine Ak.ok ⟨hS.ok,by rw [hS.tok,htk]; omega,by show o'.List.length≤_; omega,fun q hq=>?_,fun s hq=>?_⟩
  ·rw [ht1] at hq
   rcases List.mem_append.1 hq with hq | hq
   ·obtain⟨z,z1,z2⟩:=hI.new q hq
    exact⟨z,by rw [← z1]; exact hS.old _ (hne q hq),z2⟩
   ·rw [List.mem_singleton.1 hq]
    exact⟨R3 m (o.Token+1),hS.at_,rfl,rfl,rfl,by show b.Token<o.Token+1; omega⟩
  ·rw [ht1] at hq
   have h1:s≠m.Slot:=fun e=>hq m (by simp) e.symm
   rw [← hI.old s fun q hm=>hq q (List.mem_append_left _ hm)]
   exact hS.old s h1
 ·simp only [T7,Nat.zero_add] at ho
  have htk:ms.take ms.length=ms:=List.take_length
  refine(Ak.each (b:=fun j1 a2=>fun _=>Gr a b o j1 a2) (I:=fun _ (_:Unit)=>True) (E:=fun _:Bool=>False) a.Outcome 0 () trivial fun j s _ hj _=>?_).bind fun y hy=>Ak.alt hy (fun _ _=>Ak.ok rfl) fun _ h=>h.elim
  simp only [Nat.zero_add]
  have hjl:=Ay hj
  have hsi:=hO.ins s (List.mem_of_getElem? hj)
  obtain⟨y,y1,y2,y3,y4,y5⟩ : ∃ y,Me o.List s=some y∧a.Owners[j]? = some y.Airline∧a.Flights[j]? = some y.Flight∧y.Used=false∧(s≠(j:Int)→b.Token<y.Token):=by
   by_cases e:s=(j:Int)
   ·have hold:=ho.old s fun m hm hms=>by
     rw [htk] at hm
     obtain⟨_,_,i,_,hi,hne⟩:=hC.each m hm
     rw [hms] at hi hne
     obtain⟨hil,ei⟩:=List.getElem?_eq_some_iff.1 hi
     obtain⟨hjl',ej⟩:=List.getElem?_eq_some_iff.1 hj
     rcases Nat.lt_trichotomy i j with h | h | h
     ·exact List.pairwise_iff_getElem.1 (List.nodup_iff_pairwise_ne.1 hO.nd) i j hil hjl' h (by rw [ei,ej])
     ·rw [h] at hne; exact hne e
     ·exact List.pairwise_iff_getElem.1 (List.nodup_iff_pairwise_ne.1 hO.nd) j i hjl' hil h (by rw [ei,ej])
    obtain⟨f1,f2⟩:=hfit j (by omega)
    rw [decide_eq_true (by omega)] at f1
    obtain⟨y,hy⟩:=Option.isSome_iff_exists.1 f1
    obtain⟨g1,g2,g3⟩:=f2 y hy
    exact⟨y,by rw [hold,e]; exact hy,g1,g2,g3,fun h=>absurd e h⟩
   ·obtain⟨m,hm,m1,m2,m3⟩:=hC.all j s hjl hj e
    obtain⟨y,z1,z2,z3,z4,z5⟩:=ho.new m (by rw [htk]; exact hm)
    exact⟨y,by rw [← m1]; exact z1,by rw [z2]; exact m2,by rw [z3]; exact m3,z4,fun _=>z5⟩
  unfold Gr
  rw [Aen,R.ok_bind,y1]
  rw [if_neg (by simp)]
  refine Xk (by omega) (by omega) fun a3 ha3=>?_
  rw [Int.toNat_natCast,y2] at ha3
  rw [if_neg (by simp [Option.some.inj ha3])]
  refine Xk (by omega) (by omega) fun a4 ha4=>?_
  rw [Int.toNat_natCast,y3] at ha4
  rw [if_neg (by simp [Option.some.inj ha4])]
  show Ak (Fr b o j s (y,true) y.Used) _
  rw [y4]
  unfold Fr
  rw [if_neg (by decide),Aen,R.ok_bind]
  refine Ak.ite (fun _=>Ak.ok trivial) fun hq=>?_
  simp only [Bool.or_eq_true,beq_iff_eq,Bool.not_eq_true',not_or,Bool.not_eq_false] at hq
  obtain⟨q1,q2⟩:=hq
  obtain⟨z,hz⟩:=Option.isSome_iff_exists.1 q2
  have y5:=y5 q1
  obtain⟨zm,zs⟩:=Xm hz
  have zr:=hL.rng z zm
  unfold Rng at zr
  have hol:=ho.len
  have hd : ∀ K:Int,K=2∨K=3→Nf o ({ Kind:=K,Slot:=s,Airline:=z.Airline,Flight:=z.Flight,Token:=z.Token }:Command)=.ok ({ Token:=0,List:=[] },351):=fun K hK=>
   Ax9 hK ⟨by show 0≤s∧s≤4095; omega,by show 0≤z.Flight∧z.Flight≤4095; omega,by show 0≤z.Airline∧z.Airline≤7; omega⟩ ho.ok (by omega) y1 (by show y.Token≠z.Token; omega)
  rw [hz]
  simp only [Option.getD_some]
  rw [hd 3 (.inr rfl),hd 2 (.inl rfl),R.ok_bind,R.ok_bind]
  rw [if_neg (by simp; omega)]
  exact Ak.ok trivial
end Go.Am
namespace Go.Am
open Go
set_option linter.unusedVariables false
def Le {α:Type}(x y:R α):Prop:=x=.bad∨x=y
theorem Le.refl {α:Type}(x:R α):Le x x:=.inr rfl
theorem Qz {α:Type}{x y:R α}{a:α}(h:Le x y)(hx:x=.ok a):y=.ok a:=by
 rcases h with h | h
 ·rw [h] at hx; cases hx
 ·rw [← h]; exact hx
theorem Be {α β:Type}{x y:R α}{f g:α→R β}(h:Le x y)(hf : ∀ a,Le (f a) (g a)):Le (x.bind f) (y.bind g):=by
 rcases h with rfl | rfl
 ·exact .inl rfl
 ·cases x with
  | ok a=>exact hf a
  | pan v=>exact .inr rfl
  | bad=>exact .inl rfl
theorem Cd {α:Type}{c:Prop}[Decidable c]{x y x' y':R α}(h:Le x x')(h':Le y y'):Le (if c then x else y) (if c then x' else y'):=by
 split
 ·exact h
 ·exact h'
theorem X0 {α:Type}{x y:R α}{f:PV→R α}(h:Le x y):Le (x.catch' f) (y.catch' f):=by
 rcases h with rfl | rfl
 ·exact .inl rfl
 ·exact .inr rfl
theorem Th {α:Type}{x y:R α}(h:Le x y):Le x.np y.np:=by
 rcases h with rfl | rfl
 ·exact .inl rfl
 ·exact .inr rfl
theorem N1 {α σ ε:Type}{b b':Nat→α→σ→R (σ ⊕ ε)}(h : ∀ j a s,Le (b j a s) (b' j a s)) : ∀ (k:Nat) (l:List α) (s:σ),Le (each b k l s) (each b' k l s)
 | k,[],s=>.inr rfl
 | k,a::l,s=>by
  rw [P4,P4]
  refine Be (h k a s) fun x=>?_
  cases x with
  | inl s'=>exact N1 h (k+1) l s'
  | inr e=>exact .inr rfl
theorem Ik {α σ:Type}{b b':Nat→α→σ→R σ}(h : ∀ j a s,Le (b j a s) (b' j a s)) : ∀ (k:Nat) (l:List α) (s:σ),Le (eachS b k l s) (eachS b' k l s)
 | k,[],s=>.inr rfl
 | k,a::l,s=>by
  rw [Qq,Qq]
  exact Be (h k a s) fun x=>Ik h (k+1) l x
theorem Aqm {σ ε:Type}{b b':σ→R (σ ⊕ ε)}(h : ∀ s,Le (b s) (b' s)) : ∀ (n:Nat) (s:σ),Le (Hm b n s) (Hm b' n s)
 | 0,s=>.inl rfl
 | n+1,s=>by
  rw [Hm,Hm]
  refine Be (h s) fun x=>?_
  cases x with
  | inl s'=>exact Aqm h n s'
  | inr e=>exact .inr rfl
def Pp {σ ε:Type}(n:Nat)(body:σ→R (σ ⊕ ε))(s:σ):R ε:=Hm body n s
theorem Kd {σ ε:Type}{b b':σ→R (σ ⊕ ε)}(h : ∀ s,Le (b s) (b' s))(n:Nat)(s:σ):Le (Pp n b s) (loop b' s):=by
 unfold Pp
 rcases Aqm h n s with e | e
 ·exact .inl e
 ·by_cases hb:Hm b' n s=.bad
  ·exact .inl (e.trans hb)
  ·exact .inr (e.trans (Vo hb).symm)
section
variable {α β γ δ ε ζ κ:Type}
theorem Kq {f f':α→R κ}{g g':β→R κ}(hf : ∀ a,Le (f a) (f' a))(hg : ∀ b,Le (g b) (g' b))(s:α ⊕ β):Le (alt f g s) (alt f' g' s):=by
 cases s with
 | inl a=>exact hf a
 | inr b=>exact hg b
theorem Qg {f g:α→β→R κ}(h : ∀ a b,Le (f a b) (g a b))(p:α×β):Le (Da f p) (Da g p):=h _ _
theorem Tz {f g:α→β→γ→R κ}(h : ∀ a b c,Le (f a b c) (g a b c))(p:α×β×γ):Le (Tg f p) (Tg g p):=h _ _ _
theorem Acn {f g:α→β→γ→δ→R κ}(h : ∀ a b c d,Le (f a b c d) (g a b c d))(p:α×β×γ×δ):Le (un4 f p) (un4 g p):=h _ _ _ _
theorem Ac4 {f g:α→β→γ→δ→ε→R κ}(h : ∀ a b c d e,Le (f a b c d e) (g a b c d e))(p:α×β×γ×δ×ε):Le (un5 f p) (un5 g p):=h _ _ _ _ _
end
def Aiq (a:Int):List Int→List Int
 | []=>[a]
 | b::l=>if a≤b then a::b::l else b::Aiq a l
def Acq:List Int→List Int
 | []=>[]
 | a::l=>Aiq a (Acq l)
theorem Af4 (a:Int) : ∀ l,(Aiq a l).Perm (a::l)
 | []=>.refl _
 | b::l=>by
  unfold Aiq
  split
  ·exact .refl _
  ·exact((Af4 a l).cons b).trans (.swap a b l)
theorem Ah8 : ∀ l,(Acq l).Perm l
 | []=>.refl _
 | a::l=>(Af4 a (Acq l)).trans ((Ah8 l).cons a)
theorem Ah3 (a:Int) : ∀ l:List Int,l.Pairwise (· ≤ ·)→(Aiq a l).Pairwise (· ≤ ·)
 | [],_=>by simp [Aiq]
 | b::l,h=>by
  have h':=List.pairwise_cons.1 h
  unfold Aiq
  split
  ·rename_i hab
   refine List.pairwise_cons.2 ⟨fun x hx=>?_,h⟩
   rcases List.mem_cons.1 hx with rfl | hx
   ·exact hab
   ·have:=h'.1 x hx; omega
  ·rename_i hab
   refine List.pairwise_cons.2 ⟨fun x hx=>?_,Ah3 a l h'.2⟩
   rcases List.mem_cons.1 ((Af4 a l).mem_iff.1 hx) with rfl | hx
   ·omega
   ·exact h'.1 x hx
theorem Aeu : ∀ l:List Int,(Acq l).Pairwise (· ≤ ·)
 | []=>.nil
 | a::l=>Ah3 a _ (Aeu l)
theorem Aez : ∀ {a b:List Int},a.Perm b→a.Pairwise (· ≤ ·)→b.Pairwise (· ≤ ·)→a=b
 | [],b,h,_,_=>by rw [List.Perm.nil_eq h]
 | x::a,[],h,_,_=>by have:=h.length_eq; simp at this
 | x::a,y::b,h,ha,hb=>by
  have ha':=List.pairwise_cons.1 ha
  have hb':=List.pairwise_cons.1 hb
  have h1:x=y:=by
   have hx:x ∈ y::b:=h.mem_iff.1 (List.mem_cons_self ..)
   have hy:y ∈ x::a:=h.mem_iff.2 (List.mem_cons_self ..)
   rcases List.mem_cons.1 hx with e | hx
   ·exact e
   ·rcases List.mem_cons.1 hy with e | hy
    ·exact e.symm
    ·have:=ha'.1 y hy; have:=hb'.1 x hx; omega
  subst h1
  rw [Aez (List.Perm.cons_inv h) ha'.2 hb'.2]
theorem Vk (l:List Int):Pq l=Acq l:=by
 refine Aez ((List.mergeSort_perm l _).trans (Ah8 l).symm) ?_ (Aeu l)
 have:=List.pairwise_mergeSort (le:=fun x y:Int=>decide (x≤y)) (fun a b c h1 h2=>by simp at *; omega) (fun a b=>by simp; omega) l
 exact this.imp fun h=>by simpa using h
end Go.Am
namespace Go.Am
open Go
set_option linter.unusedVariables false
set_option maxRecDepth 100000
def J4 (b:List Int)(s:(Vector Int 8)):R (Vector Int 8):=
 (eachS (fun j _=>fun o=>H1 b j o) 0 (List.range 16) (Bw 64 0)).bind ((fun o=>(Pp 80 (Da fun x1 o1=>Ff x1 o1) (16,o)).bind (fun o2=>Gc s o2)))
theorem O9 (b:List Int)(s:(Vector Int 8)):Le (J4 b s) (Es b s):=by
 unfold J4 Es
 with_reducible repeat' first | exact Le.refl _ | exact hW .. | exact hb .. | apply Kd | apply Be | apply Cd | apply N1 | apply Ik | apply X0 | apply Kq | apply Qg | apply Tz | apply Acn | apply Ac4 | apply Th | (rw [Vk]; exact Le.refl _) | intro _
def Xa (rest:List Int)(o:(Vector Int 8)):R (((List Int)×(Vector Int 8)) ⊕ ((List Int)×(Vector Int 8))):=
 if(rest.length:Int)≥64 then
(if(0:Int)≤64∧64≤(rest.length:Int) then
 (J4 (rest.take (Int.toNat 64)) o).bind fun r=>
 if(0:Int)≤64∧64≤(rest.length:Int) then
 .ok (.inl ((rest.drop (Int.toNat 64)),r)) else .bad else .bad)
else
(.ok (.inr ((rest,o))))
theorem Ahx (rest:List Int)(o:(Vector Int 8)):Le (Xa rest o) (Lk rest o):=by
 unfold Xa Lk
 with_reducible repeat' first | exact Le.refl _ | exact hW .. | exact hb .. | exact O9 .. | apply Kd | apply Be | apply Cd | apply N1 | apply Ik | apply X0 | apply Kq | apply Qg | apply Tz | apply Acn | apply Ac4 | apply Th | (rw [Vk]; exact Le.refl _) | intro _
def Wi (vend:List Int)(o2:(Vector Int 8)):R (((List Int)×(Vector Int 8)) ⊕ (Vector Int 8)):=
 if(vend.length:Int) > 0 then
(if(0:Int)≤64∧64≤(vend.length:Int) then
 (J4 (vend.take (Int.toNat 64)) o2).bind fun r2=>
 if(0:Int)≤64∧64≤(vend.length:Int) then
 .ok (.inl ((vend.drop (Int.toNat 64)),r2)) else .bad else .bad)
else
(.ok (.inr (o2)))
theorem Ahr (vend:List Int)(o2:(Vector Int 8)):Le (Wi vend o2) (I2 vend o2):=by
 unfold Wi I2
 with_reducible repeat' first | exact Le.refl _ | exact hW .. | exact hb .. | exact O9 .. | apply Kd | apply Be | apply Cd | apply N1 | apply Ik | apply X0 | apply Kq | apply Qg | apply Tz | apply Acn | apply Ac4 | apply Th | (rw [Vk]; exact Le.refl _) | intro _
def Wh (vend1:List Int)(o5:(Vector Int 8)):R (((List Int)×(Vector Int 8)) ⊕ (Vector Int 8)):=
 if(vend1.length:Int) > 0 then
(if(0:Int)≤64∧64≤(vend1.length:Int) then
 (J4 (vend1.take (Int.toNat 64)) o5).bind fun r5=>
 if(0:Int)≤64∧64≤(vend1.length:Int) then
 .ok (.inl ((vend1.drop (Int.toNat 64)),r5)) else .bad else .bad)
else
(.ok (.inr (o5)))
theorem Ahw (vend1:List Int)(o5:(Vector Int 8)):Le (Wh vend1 o5) (M8 vend1 o5):=by
 unfold Wh M8
 with_reducible repeat' first | exact Le.refl _ | exact hW .. | exact hb .. | exact O9 .. | apply Kd | apply Be | apply Cd | apply N1 | apply Ik | apply X0 | apply Kq | apply Qg | apply Tz | apply Acn | apply Ac4 | apply Th | (rw [Vk]; exact Le.refl _) | intro _
def Wu (b:List Int)(rest1:List Int)(o1:(Vector Int 8)):R (Vector Int 32):=
 if rest1.length≤64 then
 if(0:Int)≤(rest1.length:Int)∧(rest1.length:Int)<64 then
 if(rest1.length:Int) > 55 then
((Nq 120 8 (IntKind.wrap .u64 ((IntKind.wrap .u64 (b.length:Int)) * 8)) (Ns (S7 (Bw 128 (0:Int)) 0 rest1) (Int.toNat (rest1.length:Int)) 128)).bind fun r1=>
 (Pp 80 (Da fun vend o2=>Wi vend o2) ((r1.toList.take 128),o1)).bind (fun o3=>Lh o3))
else
((Nq 56 72 (IntKind.wrap .u64 ((IntKind.wrap .u64 (b.length:Int)) * 8)) (Ns (S7 (Bw 128 (0:Int)) 0 rest1) (Int.toNat (rest1.length:Int)) 128)).bind fun r4=>
 (Pp 80 (Da fun vend1 o5=>Wh vend1 o5) ((r4.toList.take 64),o1)).bind (fun o6=>Pe o6)) else .bad else .bad
theorem Ahv (b:List Int)(rest1:List Int)(o1:(Vector Int 8)):Le (Wu b rest1 o1) (Li b rest1 o1):=by
 unfold Wu Li
 with_reducible repeat' first | exact Le.refl _ | exact hW .. | exact hb .. | exact Ahr .. | exact Ahw .. | apply Kd | apply Be | apply Cd | apply N1 | apply Ik | apply X0 | apply Kq | apply Qg | apply Tz | apply Acn | apply Ac4 | apply Th | (rw [Vk]; exact Le.refl _) | intro _
def Afo (b:List Int):R (Vector Int 32):=
 (Pp 80 (Da fun rest o=>Xa rest o) (b,Adu)).bind (Da fun rest1 o1=>Wu b rest1 o1)
theorem Ef (b:List Int):Le (Afo b) (Cx b):=by
 unfold Afo Cx
 with_reducible repeat' first | exact Le.refl _ | exact hW .. | exact hb .. | exact Ahx .. | exact Ahv .. | apply Kd | apply Be | apply Cd | apply N1 | apply Ik | apply X0 | apply Kq | apply Qg | apply Tz | apply Acn | apply Ac4 | apply Th | (rw [Vk]; exact Le.refl _) | intro _
end Go.Am
namespace Go.Am
open Go
set_option maxRecDepth 100000
def hk0:List Int:=[99,111,115,116]
def hv0:Vector Int 32 := #v[159,130,247,179,117,244,170,27,215,213,10,190,15,118,12,76,165,168,240,32,138,166,133,85,72,156,57,221,124,122,238,170]
theorem hs0:Cx hk0=.ok hv0:=Qz (Ef ..) (by kernel_rfl)
def hk1:List Int:=[159,130,247,179,117,244,170,27,215,213,10,190,15,118,12,76,165,168,240,32,138,166,133,85,72,156,57,221,124,122,238,170,0,0,0,0,0,0,0,0,0,0,0,0,0,0,0,0,0,0,0,0,0,0,0,0,0,0,0,0,0,0,0,0,3,4,1,0,1,10,1,0,1,8]
def hv1:Vector Int 32 := #v[86,201,120,238,206,67,165,246,68,53,53,225,98,174,231,88,184,91,64,150,235,66,164,127,219,27,97,126,189,246,253,249]
theorem hs1:Cx hk1=.ok hv1:=Qz (Ef ..) (by kernel_rfl)
def hk2:List Int:=[159,130,247,179,117,244,170,27,215,213,10,190,15,118,12,76,165,168,240,32,138,166,133,85,72,156,57,221,124,122,238,170,0,0,0,0,0,0,0,0,0,0,0,0,0,0,0,0,0,0,0,0,0,0,0,0,0,0,0,0,0,0,0,0,3,4,1,0,1,10,1,2,1,2]
def hv2:Vector Int 32 := #v[158,238,121,61,83,149,99,18,134,192,125,175,139,98,119,241,223,6,148,9,7,105,55,176,42,32,44,101,4,205,169,171]
theorem hs2:Cx hk2=.ok hv2:=Qz (Ef ..) (by kernel_rfl)
def hk3:List Int:=[108,101,97,102]
def hv3:Vector Int 32 := #v[159,145,22,31,67,67,62,73,166,222,109,182,128,215,159,96,21,159,46,74,201,23,38,33,161,40,70,66,129,88,68,11]
theorem hs3:Cx hk3=.ok hv3:=Qz (Ef ..) (by kernel_rfl)
def hk4:List Int:=[159,145,22,31,67,67,62,73,166,222,109,182,128,215,159,96,21,159,46,74,201,23,38,33,161,40,70,66,129,88,68,11,86,201,120,238,206,67,165,246,68,53,53,225,98,174,231,88,184,91,64,150,235,66,164,127,219,27,97,126,189,246,253,249]
def hv4:Vector Int 32 := #v[222,145,4,110,114,123,197,124,155,33,135,28,61,211,84,158,253,134,68,151,226,86,6,180,185,51,88,31,49,8,132,53]
theorem hs4:Cx hk4=.ok hv4:=Qz (Ef ..) (by kernel_rfl)
def hk5:List Int:=[159,145,22,31,67,67,62,73,166,222,109,182,128,215,159,96,21,159,46,74,201,23,38,33,161,40,70,66,129,88,68,11,158,238,121,61,83,149,99,18,134,192,125,175,139,98,119,241,223,6,148,9,7,105,55,176,42,32,44,101,4,205,169,171]
def hv5:Vector Int 32 := #v[12,3,245,167,69,161,146,137,195,180,59,77,198,45,190,226,112,223,203,130,32,152,92,97,6,5,164,1,93,169,212,33]
theorem hs5:Cx hk5=.ok hv5:=Qz (Ef ..) (by kernel_rfl)
def hk6:List Int:=[110,111,100,101]
def hv6:Vector Int 32 := #v[84,94,165,56,70,16,3,239,220,140,129,194,68,83,27,0,63,111,38,207,204,246,192,7,59,50,57,253,237,244,148,70]
theorem hs6:Cx hk6=.ok hv6:=Qz (Ef ..) (by kernel_rfl)
def hk7:List Int:=[84,94,165,56,70,16,3,239,220,140,129,194,68,83,27,0,63,111,38,207,204,246,192,7,59,50,57,253,237,244,148,70,222,145,4,110,114,123,197,124,155,33,135,28,61,211,84,158,253,134,68,151,226,86,6,180,185,51,88,31,49,8,132,53,12,3,245,167,69,161,146,137,195,180,59,77,198,45,190,226,112,223,203,130,32,152,92,97,6,5,164,1,93,169,212,33]
def hv7:Vector Int 32 := #v[233,189,103,47,143,233,176,245,20,118,76,57,162,192,0,183,241,6,80,71,59,11,143,95,243,30,182,81,173,7,173,193]
theorem hs7:Cx hk7=.ok hv7:=Qz (Ef ..) (by kernel_rfl)
def hk8:List Int:=[159,145,22,31,67,67,62,73,166,222,109,182,128,215,159,96,21,159,46,74,201,23,38,33,161,40,70,66,129,88,68,11,233,189,103,47,143,233,176,245,20,118,76,57,162,192,0,183,241,6,80,71,59,11,143,95,243,30,182,81,173,7,173,193]
def hv8:Vector Int 32 := #v[101,65,231,36,73,77,75,8,168,110,76,209,226,179,202,169,205,189,215,163,197,27,4,0,79,254,216,217,141,222,183,213]
theorem hs8:Cx hk8=.ok hv8:=Qz (Ef ..) (by kernel_rfl)
def hk9:List Int:=[159,130,247,179,117,244,170,27,215,213,10,190,15,118,12,76,165,168,240,32,138,166,133,85,72,156,57,221,124,122,238,170,0,0,0,0,0,0,0,0,0,0,0,0,0,0,0,0,0,0,0,0,0,0,0,0,0,0,0,0,0,0,0,0,3,4,1,6,1,18,1,0,1,4]
def hv9:Vector Int 32 := #v[17,122,206,225,255,102,214,230,45,158,190,151,247,143,161,223,234,197,135,137,11,191,46,108,151,181,0,236,51,40,69,156]
theorem hs9:Cx hk9=.ok hv9:=Qz (Ef ..) (by kernel_rfl)
def Ay3:List Int:=[159,130,247,179,117,244,170,27,215,213,10,190,15,118,12,76,165,168,240,32,138,166,133,85,72,156,57,221,124,122,238,170,0,0,0,0,0,0,0,0,0,0,0,0,0,0,0,0,0,0,0,0,0,0,0,0,0,0,0,0,0,0,0,0,3,4,1,6,1,18,1,2,1,12]
def Ay4:Vector Int 32 := #v[14,46,40,129,69,7,74,120,194,148,211,246,208,184,8,102,183,40,95,179,9,198,105,80,15,232,117,251,80,57,244,196]
theorem A00:Cx Ay3=.ok Ay4:=Qz (Ef ..) (by kernel_rfl)
def Ax6:List Int:=[159,145,22,31,67,67,62,73,166,222,109,182,128,215,159,96,21,159,46,74,201,23,38,33,161,40,70,66,129,88,68,11,17,122,206,225,255,102,214,230,45,158,190,151,247,143,161,223,234,197,135,137,11,191,46,108,151,181,0,236,51,40,69,156]
def Ay6:Vector Int 32 := #v[100,47,45,123,40,94,119,7,42,5,163,246,119,86,65,8,136,218,181,164,160,230,217,159,243,97,119,15,236,95,254,218]
theorem A03:Cx Ax6=.ok Ay6:=Qz (Ef ..) (by kernel_rfl)
def Ayh:List Int:=[159,145,22,31,67,67,62,73,166,222,109,182,128,215,159,96,21,159,46,74,201,23,38,33,161,40,70,66,129,88,68,11,14,46,40,129,69,7,74,120,194,148,211,246,208,184,8,102,183,40,95,179,9,198,105,80,15,232,117,251,80,57,244,196]
def Ay0:Vector Int 32 := #v[241,217,215,127,29,3,141,165,186,108,48,239,61,143,64,192,35,156,186,30,236,249,214,93,201,51,153,217,76,111,98,41]
theorem A0s:Cx Ayh=.ok Ay0:=Qz (Ef ..) (by kernel_rfl)
def Ayp:List Int:=[84,94,165,56,70,16,3,239,220,140,129,194,68,83,27,0,63,111,38,207,204,246,192,7,59,50,57,253,237,244,148,70,100,47,45,123,40,94,119,7,42,5,163,246,119,86,65,8,136,218,181,164,160,230,217,159,243,97,119,15,236,95,254,218,241,217,215,127,29,3,141,165,186,108,48,239,61,143,64,192,35,156,186,30,236,249,214,93,201,51,153,217,76,111,98,41]
def Ayd:Vector Int 32 := #v[200,101,97,15,102,92,202,119,65,32,176,97,229,106,69,170,240,4,140,168,58,154,204,161,247,152,148,33,167,62,178,37]
theorem A06:Cx Ayp=.ok Ayd:=Qz (Ef ..) (by kernel_rfl)
def Ayg:List Int:=[159,145,22,31,67,67,62,73,166,222,109,182,128,215,159,96,21,159,46,74,201,23,38,33,161,40,70,66,129,88,68,11,200,101,97,15,102,92,202,119,65,32,176,97,229,106,69,170,240,4,140,168,58,154,204,161,247,152,148,33,167,62,178,37]
def Ax8:Vector Int 32 := #v[189,107,203,89,123,138,252,122,76,154,241,52,10,45,57,200,138,9,177,113,130,232,85,176,130,96,131,207,221,25,182,179]
theorem A07:Cx Ayg=.ok Ax8:=Qz (Ef ..) (by kernel_rfl)
end Go.Am
namespace Go.Am
open Go
def X9 (b:List Int):R (Vector Int 32):=
 if b==hk0 then .ok hv0 else
 if b==hk1 then .ok hv1 else
 if b==hk2 then .ok hv2 else
 if b==hk3 then .ok hv3 else
 if b==hk4 then .ok hv4 else
 if b==hk5 then .ok hv5 else
 if b==hk6 then .ok hv6 else
 if b==hk7 then .ok hv7 else
 if b==hk8 then .ok hv8 else
 if b==hk9 then .ok hv9 else
 if b==Ay3 then .ok Ay4 else
 if b==Ax6 then .ok Ay6 else
 if b==Ayh then .ok Ay0 else
 if b==Ayp then .ok Ayd else
 if b==Ayg then .ok Ax8 else
 .bad
theorem Iv {b k:List Int}{v:Vector Int 32}{x:R (Vector Int 32)}(hk:Cx k=.ok v)(h:Le x (Cx b)):Le (if b==k then .ok v else x) (Cx b):=by
 by_cases q:(b==k)=true
 ·rw [if_pos q,eq_of_beq q,hk]; exact .inr rfl
 ·rw [if_neg q]; exact h
theorem Amn (b:List Int):Le (X9 b) (Cx b):=by
 unfold X9
 refine Iv hs0 ?_
 refine Iv hs1 ?_
 refine Iv hs2 ?_
 refine Iv hs3 ?_
 refine Iv hs4 ?_
 refine Iv hs5 ?_
 refine Iv hs6 ?_
 refine Iv hs7 ?_
 refine Iv hs8 ?_
 refine Iv hs9 ?_
 refine Iv A00 ?_
 refine Iv A03 ?_
 refine Iv A0s ?_
 refine Iv A06 ?_
 refine Iv A07 ?_
 exact .inl rfl
end Go.Am
namespace Go.Am
open Go
set_option linter.unusedVariables false
set_option maxRecDepth 100000
def Lz (owners:List Int):R ((List Int)×(List (Int×Int))):=
 (eachS (fun _ a=>Da fun m airlines=>G4 a m airlines) 0 owners ([],[])).bind ((Da fun m airlines=>(L0 airlines).bind fun _=>
 .ok ((Acq airlines),m)))
theorem P7 (owners:List Int):Le (Lz owners) (Fk owners):=by
 unfold Lz Fk
 with_reducible repeat' first | exact Le.refl _ | apply Be | apply Ik | apply Qg | (rw [Vk]; exact Le.refl _) | intro _
def X4 (c:Clearing):R Bool:=
 if(((((((decide (c.No<1))||(decide (c.No > 1048576)))||(decide (c.Slots<1)))||(decide (c.Slots > 8)))||(decide ((c.Flights.length:Int)<1)))||(decide ((c.Flights.length:Int) > c.Slots)))||((c.Owners.length:Int) != (c.Flights.length:Int))) then
(.ok false)
else
((each (fun j a=>fun last=>J0 c j a last) 0 c.Flights (-1)).bind (alt (fun last=>(Lz c.Owners).bind fun r=>
 .ok ((c.Commitments.length:Int)==(r.1.length:Int))) (fun r=>.ok r)))
theorem Aiu (c:Clearing):Le (X4 c) (Ng c):=by
 unfold X4 Ng
 with_reducible repeat' first | exact Le.refl _ | exact P7 .. | apply Be | apply Cd | apply N1 | apply Kq | intro _
def Ve (W_:Value→R (Int×Bool))(a:Value)(depth:Int):R (Int ⊕ (Int×Bool)):=
 (W_ a).bind fun r=>
 if r.2 then
(.ok (.inl (if r.1 > depth then r.1 else depth)))
else
(.ok (.inr ((0,false))))
theorem Agh {W' W_:Value→R (Int×Bool)}(hW : ∀ w0,Le (W' w0) (W_ w0))(a:Value)(depth:Int):Le (Ve W' a depth) (Ia W_ a depth):=by
 unfold Ve Ia
 with_reducible repeat' first | exact Le.refl _ | exact hW .. | apply Be | apply Cd | intro _
def Wv (W_:Value→R (Int×Bool))(v:Value):R (Int×Bool):=
 (if((decide (v.Kind<1))||(decide (v.Kind > 3))) then R.ok true else if(0:Int)≤v.Kind∧v.Kind<4 then
 R.ok (!(Az (#v[false,((v.S==[])&&((v.L.length:Int)==0)),((v.N==0)&&((v.L.length:Int)==0)),((v.N==0)&&(v.S==[]))]:(Vector Bool 4)) (Int.toNat v.Kind) false)) else .bad).bind (fun(b:Bool)=>if b then
(.ok (0,false))
else
(if v.Kind<3 then
(.ok (0,true))
else
((each (fun _ a=>fun depth=>Ve W_ a depth) 0 v.L 0).bind (alt (fun depth=>.ok ((IntKind.wrap .i64 (depth+1)),true)) (fun r=>.ok r)))))
theorem Ahj {W' W_:Value→R (Int×Bool)}(hW : ∀ w0,Le (W' w0) (W_ w0))(v:Value):Le (Wv W' v) (N6 W_ v):=by
 unfold Wv N6
 with_reducible repeat' first | exact Le.refl _ | exact hW .. | exact Agh (by assumption) .. | apply Be | apply Cd | apply N1 | apply Kq | intro _
def Wd:Nat→Value→R (Int×Bool)
 | 0,_=>.bad
 | n+1,v=>Wv (Wd n) v
theorem Ze : ∀ (n k:Nat) a0,Le (Wd n a0) (Ht (n+k) a0)
 | 0,k,a0=>.inl rfl
 | n+1,k,a0=>by
  rw [show n+1+k=(n+k)+1 by omega]
  exact Ahj (fun a0=>Ze n k a0) ..
def Yw (v:Value):R (Int×Bool):=Wd 16 v
theorem Ajt (v:Value):Le (Yw v) (Rn v):=by
 unfold Yw Rn
 rw [Vy]
 exact Ze 16 (4000000 - 16) ..
def Aa4 (v:Value):R Int:=
 (Yw v).bind fun r=>
 if r.2 then
(if r.1 > 16 then
(.ok 2)
else
(.ok 0))
else
(.ok 1)
theorem Alu (v:Value):Le (Aa4 v) (Qn v):=by
 unfold Aa4 Qn
 with_reducible repeat' first | exact Le.refl _ | exact Ajt .. | apply Be | apply Cd | intro _
def L3 (u:Int)(l:List Int):R (List Int):=
 (Pp 80 (Da fun u1 b=>Ip u1 b) (u,l)).bind (Da fun u2 b1=>Il u2 b1)
theorem Px (u:Int)(l:List Int):Le (L3 u l) (F3 u l):=by
 unfold L3 F3
 with_reducible repeat' first | exact Le.refl _ | apply Be | apply Kd | apply Qg | intro _
def J7 (v1:Value)(l:List Int):R (List Int):=
 if(l.length+[1].length) * 1≤Bz then
 (Rh v1.N).bind fun r=>
 (L3 r (l++[1])).bind fun r1=>
 .ok r1 else .bad
theorem O3 (v1:Value)(l:List Int):Le (J7 v1 l) (Ek v1 l):=by
 unfold J7 Ek
 with_reducible repeat' first | exact Le.refl _ | exact Px .. | apply Be | apply Cd | intro _
def J8 (v1:Value)(l:List Int):R (List Int):=
 if(l.length+[2].length) * 1≤Bz then
 (L3 (IntKind.wrap .u64 (v1.S.length:Int)) (l++[2])).bind fun r=>
 if(r.length+(Nl v1.S).length) * 1≤Bz then
 .ok (r++(Nl v1.S)) else .bad else .bad
theorem O8 (v1:Value)(l:List Int):Le (J8 v1 l) (F4 v1 l):=by
 unfold J8 F4
 with_reducible repeat' first | exact Le.refl _ | exact Px .. | apply Be | apply Cd | intro _
def Ol (W_:Value→(List Int)→R (List Int))(a:Value)(b1:List Int):R (List Int):=
 if a.Kind=0 then
(.bad)
else
(if a.Kind=1 then
((J7 a b1).bind fun b2=>
 .ok b2)
else
(if a.Kind=2 then
((J8 a b1).bind fun b3=>
 .ok b3)
else
(if a.Kind=3 then
((W_ a b1).bind fun b4=>
 .ok b4)
else
(.bad))))
theorem Za {W' W_:Value→(List Int)→R (List Int)}(hW : ∀ w0 w1,Le (W' w0 w1) (W_ w0 w1))(a:Value)(b1:List Int):Le (Ol W' a b1) (Ha W_ a b1):=by
 unfold Ol Ha
 with_reducible repeat' first | exact Le.refl _ | exact hW .. | exact O3 .. | exact O8 .. | apply Be | apply Cd | intro _
def O5 (W_:Value→(List Int)→R (List Int))(v1:Value)(l:List Int):R (List Int):=
 if(l.length+[3].length) * 1≤Bz then
 (L3 (IntKind.wrap .u64 (v1.L.length:Int)) (l++[3])).bind fun b=>
 (eachS (fun _ a=>fun b1=>Ol W_ a b1) 0 v1.L b).bind ((fun b1=>.ok b1)) else .bad
theorem Z4 {W' W_:Value→(List Int)→R (List Int)}(hW : ∀ w0 w1,Le (W' w0 w1) (W_ w0 w1))(v1:Value)(l:List Int):Le (O5 W' v1 l) (Hv W_ v1 l):=by
 unfold O5 Hv
 with_reducible repeat' first | exact Le.refl _ | exact hW .. | exact Za (by assumption) .. | exact Px .. | apply Be | apply Cd | apply Ik | intro _
def O2:Nat→Value→(List Int)→R (List Int)
 | 0,_,_=>.bad
 | n+1,v1,l=>O5 (O2 n) v1 l
theorem S9 : ∀ (n k:Nat) a0 a1,Le (O2 n a0 a1) (H0 (n+k) a0 a1)
 | 0,k,a0,a1=>.inl rfl
 | n+1,k,a0,a1=>by
  rw [show n+1+k=(n+k)+1 by omega]
  exact Z4 (fun a0 a1=>S9 n k a0 a1) ..
def Rc (v1:Value)(l:List Int):R (List Int):=O2 16 v1 l
theorem Abe (v1:Value)(l:List Int):Le (Rc v1 l) (K1 v1 l):=by
 unfold Rc K1
 rw [Vy]
 exact S9 16 (4000000 - 16) ..
def Qi (a:Value)(b1:List Int):R (List Int):=
 if a.Kind=0 then
(.bad)
else
(if a.Kind=1 then
((J7 a b1).bind fun b2=>
 .ok b2)
else
(if a.Kind=2 then
((J8 a b1).bind fun b3=>
 .ok b3)
else
(if a.Kind=3 then
((Rc a b1).bind fun b4=>
 .ok b4)
else
(.bad))))
theorem Aaf (a:Value)(b1:List Int):Le (Qi a b1) (Fq a b1):=by
 unfold Qi Fq
 with_reducible repeat' first | exact Le.refl _ | exact O3 .. | exact O8 .. | exact Abe .. | apply Be | apply Cd | intro _
def S3 (v1:Value):R (List Int):=
 if [3].length * 1≤Bz then
 (L3 (IntKind.wrap .u64 (v1.L.length:Int)) [3]).bind fun b=>
 (eachS (fun _ a=>fun b1=>Qi a b1) 0 v1.L b).bind ((fun b1=>.ok b1)) else .bad
theorem Ada (v1:Value):Le (S3 v1) (Io v1):=by
 unfold S3 Io
 with_reducible repeat' first | exact Le.refl _ | exact Px .. | exact Aaf .. | apply Be | apply Cd | apply Ik | intro _
def Y4 (v:Value):R ((List Int)×Int):=
 (Aa4 v).bind fun e=>
 if(e != 0) then
(.ok ([],e))
else
((La).bind fun _=>
 if v.Kind=0 then
(.bad)
else
(if v.Kind=1 then
((J7 v []).bind fun b=>
 .ok (b,0))
else
(if v.Kind=2 then
((J8 v []).bind fun b1=>
 .ok (b1,0))
else
(if v.Kind=3 then
((S3 v).bind fun b2=>
 .ok (b2,0))
else
(.bad)))))
theorem Ajo (v:Value):Le (Y4 v) (Mq v):=by
 unfold Y4 Mq
 with_reducible repeat' first | exact Le.refl _ | exact O3 .. | exact Ada .. | exact O8 .. | exact Alu .. | apply Be | apply Cd | intro _
def N3 (tag:Uy)(b:List Int):R (Vector Int 32):=
 if tag.length≤Bz then
 (X9 (Nl tag)).bind fun r=>
 (F6 [r.toList,b]).bind fun r1=>
 (X9 r1).bind fun r2=>
 .ok r2 else .bad
theorem Sf (tag:Uy)(b:List Int):Le (N3 tag b) (Hn tag b):=by
 unfold N3 Hn
 with_reducible repeat' first | exact Le.refl _ | exact Amn .. | apply Be | apply Cd | intro _
def Se (salt:(Vector Int 32))(l:List Int):R (Vector Int 32):=
 (eachS (fun _ a=>fun l1=>G7 a l1) 0 l []).bind ((fun l1=>(Y4 ({ Kind:=3,N:=0,S:=[],L:=l1 }:Value)).bind fun r=>
 if r.1.length≠0∧(32+r.1.length) * 1≤Bz then
 (N3 [99,111,115,116] (salt.toList++r.1)).bind fun r1=>
 .ok r1 else .bad))
theorem Yr (salt:(Vector Int 32))(l:List Int):Le (Se salt l) (Gy salt l):=by
 unfold Se Gy
 with_reducible repeat' first | exact Le.refl _ | exact Sf .. | exact Ajo .. | apply Be | apply Cd | apply Ik | intro _
def W7 (d:(Vector Int 32)):R (Vector Int 32):=
 (N3 [108,101,97,102] d.toList).bind fun r=>
 .ok r
theorem Adg (d:(Vector Int 32)):Le (W7 d) (Mi d):=by
 unfold W7 Mi
 with_reducible repeat' first | exact Le.refl _ | exact Sf .. | apply Be | intro _
def Ts (a:(Vector Int 32))(b:(Vector Int 32)):R (Vector Int 32):=
 (F6 [a.toList,b.toList]).bind fun r=>
 (N3 [110,111,100,101] r).bind fun r1=>
 .ok r1
theorem Aco (a:(Vector Int 32))(b:(Vector Int 32)):Le (Ts a b) (Kk a b):=by
 unfold Ts Kk
 with_reducible repeat' first | exact Le.refl _ | exact Sf .. | apply Be | intro _
def Vd (j:Nat)(a:(Vector Int 32))(o:(Vector Int 32))(first2:List Bool):R ((Vector Int 32)×(List Bool)):=
 (idx first2 (IntKind.wrap .i64 ((IntKind.wrap .i64 ((first2.length:Int) - 1)) - (j:Int)))).bind fun a1=>
 if a1 then
((Ts o a).bind fun r1=>
 .ok (r1,first2))
else
((Ts a o).bind fun r2=>
 .ok (r2,first2))
theorem Afx (j:Nat)(a:(Vector Int 32))(o:(Vector Int 32))(first2:List Bool):Le (Vd j a o first2) (G0 j a o first2):=by
 unfold Vd G0
 with_reducible repeat' first | exact Le.refl _ | exact Aco .. | apply Be | apply Cd | intro _
def Vj (d:(Vector Int 32))(p:(List (Vector Int 32)))(first1:List Bool):R ((Vector Int 32)×Int):=
 if((p.length:Int) != (first1.length:Int)) then
(.ok ((Bw 32 0),1))
else
((W7 d).bind fun r=>
 (eachS (fun j a=>Da fun o first2=>Vd j a o first2) 0 p (r,first1)).bind ((Da fun o first2=>.ok (o,0))))
theorem Afu (d:(Vector Int 32))(p:(List (Vector Int 32)))(first1:List Bool):Le (Vj d p first1) (Kp d p first1):=by
 unfold Vj Kp
 with_reducible repeat' first | exact Le.refl _ | exact Adg .. | exact Afx .. | apply Be | apply Cd | apply Ik | apply Qg | intro _
def U8 (d:(Vector Int 32))(vat:Int)(n:Int)(p:(List (Vector Int 32))):R ((Vector Int 32)×Int):=
 if((((decide (n<1))||(decide (n > 1099511627776)))||(decide (vat<0)))||(decide (vat≥n))) then
(.ok ((Bw 32 0),1))
else
((Pp 80 (Tg fun vat1 n1 first=>F5 vat1 n1 first) (vat,n,[])).bind (fun first1=>Vj d p first1))
theorem Abs (d:(Vector Int 32))(vat:Int)(n:Int)(p:(List (Vector Int 32))):Le (U8 d vat n p) (Mp d vat n p):=by
 unfold U8 Mp
 with_reducible repeat' first | exact Le.refl _ | exact Afu .. | apply Be | apply Kd | apply Cd | apply Tz | intro _
def Re (d:(Vector Int 32))(tables:Int)(o:Opening)(x:Int)(r3:((Vector Int 32)×Int))(x1:Int):R (Int ⊕ (Unit ⊕ Int)):=
 if x1<tables then
((U8 r3.1 x1 tables (o.Path.drop (Int.toNat x))).bind fun r4=>
 if((r4.2==0)&&(r4.1==d)) then
(.ok (.inr (.inr (0))))
else
(.ok (.inl (IntKind.wrap .i64 (x1+1)))))
else
(.ok (.inr (.inl (()))))
theorem Abf (d:(Vector Int 32))(tables:Int)(o:Opening)(x:Int)(r3:((Vector Int 32)×Int))(x1:Int):Le (Re d tables o x r3 x1) (Hi d tables o x r3 x1):=by
 unfold Re Hi
 with_reducible repeat' first | exact Le.refl _ | exact Abs .. | apply Be | apply Cd | intro _
def Q9 (d:(Vector Int 32))(tables:Int)(slots:Int)(o:Opening)(r2:(Vector Int 32))(x:Int):R (Int ⊕ (Unit ⊕ Int)):=
 if x<(IntKind.wrap .i64 ((o.Path.length:Int)+1)) then
(if(0:Int)≤x∧x≤(o.Path.length:Int) then
 if(0:Int)≤x∧x≤(o.Path.length:Int) then
 (U8 r2 o.Slot slots (o.Path.take (Int.toNat x))).bind fun r3=>
 if(r3.2 != 0) then
(.ok (.inl (IntKind.wrap .i64 (x+1))))
else
((Pp 80 (fun x1=>Re d tables o x r3 x1) 0).bind (alt (fun _=>Hd x) (fun r=>.ok (.inr (.inr (r)))))) else .bad else .bad)
else
(.ok (.inr (.inl (()))))
theorem Abl (d:(Vector Int 32))(tables:Int)(slots:Int)(o:Opening)(r2:(Vector Int 32))(x:Int):Le (Q9 d tables slots o r2 x) (Hf d tables slots o r2 x):=by
 unfold Q9 Hf
 with_reducible repeat' first | exact Le.refl _ | exact Abs .. | exact Abf .. | apply Be | apply Kd | apply Cd | apply Kq | intro _
def Tp (d:(Vector Int 32))(airline:Int)(tables:Int)(slots:Int)(o:Opening):R Int:=
 (if(((((decide (tables<1))||(decide (tables > 8)))||(decide (slots<1)))||(decide (slots > 8)))||(o.Airline != airline)) then R.ok true else(Jy o.Airline o.Flight).bind fun r=>
 R.ok (!r)).bind (fun(b:Bool)=>(if((b||(decide (o.Slot<0)))||(decide (o.Slot≥slots))) then R.ok true else(Kt o.Cost).bind fun r1=>
 R.ok (!r1)).bind (fun(b1:Bool)=>if b1 then
(.ok 360)
else
((Se o.Salt [o.Airline,o.Flight,o.Slot,o.Cost]).bind fun r2=>
 (Pp 80 (fun x=>Q9 d tables slots o r2 x) 0).bind (alt (fun _=>K7) (fun r=>.ok r)))))
theorem Ad6 (d:(Vector Int 32))(airline:Int)(tables:Int)(slots:Int)(o:Opening):Le (Tp d airline tables slots o) (Jc d airline tables slots o):=by
 unfold Tp Jc
 with_reducible repeat' first | exact Le.refl _ | exact Yr .. | exact Abl .. | apply Be | apply Kd | apply Cd | apply Kq | intro _
def Pt (c:Clearing)(o:Opening)(x:Bool):R Int:=
 if x then
(.ok 400)
else
((Lz c.Owners).bind fun r=>
 (F9 r.1 o.Airline).bind fun r1=>
 (idx c.Commitments r1).bind fun a1=>
 (Tp a1 o.Airline (Option.getD (D0 r.2 o.Airline) 0) c.Slots o).bind fun r2=>
 .ok r2)
theorem Aeg (c:Clearing)(o:Opening)(x:Bool):Le (Pt c o x) (Jf c o x):=by
 unfold Pt Jf
 with_reducible repeat' first | exact Le.refl _ | exact P7 .. | exact Ad6 .. | apply Be | apply Cd | intro _
def P6 (c:Clearing)(o:Opening):R Int:=
 (F9 c.Flights o.Flight).bind fun i=>
 if(decide (i<0)) then
(Pt c o true)
else
((idx c.Owners i).bind fun a=>
 Pt c o (a != o.Airline))
theorem Zg (c:Clearing)(o:Opening):Le (P6 c o) (Hx c o):=by
 unfold P6 Hx
 with_reducible repeat' first | exact Le.refl _ | exact Aeg .. | apply Be | apply Cd | intro _
def Um (c:Clearing)(j:Nat)(a:Opening):R (Unit ⊕ Bool):=
 if(decide ((j:Int) > 0)) then
((idx c.Openings (IntKind.wrap .i64 ((j:Int) - 1))).bind fun a1=>
 (Mk a1 a).bind fun r=>
 if(decide (r≥0)) then
(Gd true)
else
((P6 c a).bind fun r1=>
 Gd (r1 != 0)))
else
((P6 c a).bind fun r2=>
 Gd (r2 != 0))
theorem Ae2 (c:Clearing)(j:Nat)(a:Opening):Le (Um c j a) (Iu c j a):=by
 unfold Um Iu
 with_reducible repeat' first | exact Le.refl _ | exact Zg .. | apply Be | apply Cd | intro _
def Uk (c:Clearing):R Bool:=
 (each (fun j a=>fun _=>Um c j a) 0 c.Openings ()).bind (alt (fun _=>.ok true) (fun r=>.ok r))
theorem Aa5 (c:Clearing):Le (Uk c) (Lg c):=by
 unfold Uk Lg
 with_reducible repeat' first | exact Le.refl _ | exact Ae2 .. | apply Be | apply N1 | apply Kq | intro _
def Uu (c:Clearing):R Bool:=
 (Fl c).bind fun r=>
 (if r then(Uk c).bind fun r1=>
 R.ok r1 else R.ok false).bind (fun(b:Bool)=>.ok (b&&((c.Outcome.length:Int)==0)))
theorem Ae8 (c:Clearing):Le (Uu c) (L5 c):=by
 unfold Uu L5
 with_reducible repeat' first | exact Le.refl _ | exact Aa5 .. | apply Be | apply Cd | intro _
def Ms {σ_:Type}(b:List Opening)(c:Int)(b_:(List Opening)→σ_→R σ_)(i:Int)(s:σ_):R ((Int×σ_) ⊕ σ_):=
 if i<(b.length:Int) then
(if(0:Int)≤i∧i≤(b.length:Int) then
 if(0:Int)≤i∧i≤(IntKind.wrap .i64 (i+(if((b.drop (Int.toNat i)).length:Int)<c then((b.drop (Int.toNat i)).length:Int) else c)))∧(IntKind.wrap .i64 (i+(if((b.drop (Int.toNat i)).length:Int)<c then((b.drop (Int.toNat i)).length:Int) else c)))≤(b.length:Int) then
 (b_ (cut b i (IntKind.wrap .i64 (i+(if((b.drop (Int.toNat i)).length:Int)<c then((b.drop (Int.toNat i)).length:Int) else c)))) s).bind fun s1=>
 .ok (.inl ((IntKind.wrap .i64 (i+c)),s1)) else .bad else .bad)
else
(.ok (.inr (s)))
theorem Qs {σ_:Type}{b' b_:(List Opening)→σ_→R σ_}(hb : ∀ w0 w1,Le (b' w0 w1) (b_ w0 w1))(b:List Opening)(c:Int)(i:Int)(s:σ_):Le (Ms b c b' i s) (D1 b c b_ i s):=by
 unfold Ms D1
 with_reducible repeat' first | exact Le.refl _ | exact hb .. | apply Be | apply Cd | intro _
def Oe {σ_:Type}(b:List Opening)(c:Int)(b_:(List Opening)→σ_→R σ_)(s_:σ_):R σ_:=
 (Pp 80 (Da fun i s=>Ms b c b_ i s) (0,s_)).bind (fun s2=>Hq s2)
theorem Sn {σ_:Type}{b' b_:(List Opening)→σ_→R σ_}(hb : ∀ w0 w1,Le (b' w0 w1) (b_ w0 w1))(b:List Opening)(c:Int)(s_:σ_):Le (Oe b c b' s_) (Ew b c b_ s_):=by
 unfold Oe Ew
 with_reducible repeat' first | exact Le.refl _ | exact hb .. | exact Qs (by assumption) .. | refine Qs (fun w0 w1=>?_) .. | apply Be | apply Kd | apply Qg | intro _
def Rw (c:Clearing):R (Round×Bool):=
 if((c.Openings.length:Int) != (IntKind.wrap .i64 ((c.Flights.length:Int) * c.Slots))) then
(.ok (({ Slots:=0,Owners:=[],Costs:=[] }:Round),false))
else
((Hu c.Openings c.Slots).bind fun _=>
 (Oe c.Openings c.Slots (fun a z_=>R.np ((fun l=>Ij a l) z_)) []).bind (fun l=>.ok (({ Slots:=c.Slots,Owners:=c.Owners,Costs:=l }:Round),true)))
theorem Yi (c:Clearing):Le (Rw c) (Ji c):=by
 unfold Rw Ji
 with_reducible repeat' first | exact Le.refl _ | exact Sn (by assumption) .. | refine Sn (fun w0 w1=>?_) .. | apply Be | apply Cd | apply Th | intro _
def Ks {σ_:Type}(slots:List Int)(b:Round)(c:Round)(W_:(List Int)→Round→(List (Int×Bool))→Round→σ_→R ((List (Int×Bool))×σ_))(x:Int)(m1:(List (Int×Bool)))(s1:σ_):R ((Int×(List (Int×Bool))×σ_) ⊕ ((List (Int×Bool))×σ_)):=
 if x<b.Slots then
((if(Option.getD (D0 m1 x) false) then R.ok true else(idx b.Costs (slots.length:Int)).bind fun a=>
 (idx a x).bind fun a1=>
 R.ok (decide (a1<0))).bind (fun(b1:Bool)=>if b1 then
(.ok (.inl ((IntKind.wrap .i64 (x+1)),m1,s1)))
else
((Pu slots).bind fun r=>
 if [x].length≠0∧(r.length+[x].length) * 8≤Bz then
 (W_ (r++[x]) c (L4 m1 x true) c s1).bind fun r1=>
 Gj x r1.1 r1.2 else .bad)))
else
(.ok (.inr ((m1,s1))))
theorem Vm {σ_:Type}{W' W_:(List Int)→Round→(List (Int×Bool))→Round→σ_→R ((List (Int×Bool))×σ_)}(hW : ∀ w0 w1 w2 w3 w4,Le (W' w0 w1 w2 w3 w4) (W_ w0 w1 w2 w3 w4))(slots:List Int)(b:Round)(c:Round)(x:Int)(m1:(List (Int×Bool)))(s1:σ_):Le (Ks slots b c W' x m1 s1) (C9 slots b c W_ x m1 s1):=by
 unfold Ks C9
 with_reducible repeat' first | exact Le.refl _ | exact hW .. | apply Be | apply Cd | intro _
def Lo {σ_:Type}(W_:(List Int)→Round→(List (Int×Bool))→Round→σ_→R ((List (Int×Bool))×σ_))(slots:List Int)(b:Round)(m:(List (Int×Bool)))(c:Round)(b_:(List Int)→σ_→R σ_)(s_:σ_):R ((List (Int×Bool))×σ_):=
 if((slots.length:Int)==(b.Owners.length:Int)) then
((b_ slots s_).bind fun s=>
 .ok (m,s))
else
((Pp 80 (Tg fun x m1 s1=>Ks slots b c W_ x m1 s1) (0,m,s_)).bind (Da fun m3 s3=>Gi m3 s3))
theorem V7 {σ_:Type}{W' W_:(List Int)→Round→(List (Int×Bool))→Round→σ_→R ((List (Int×Bool))×σ_)}(hW : ∀ w0 w1 w2 w3 w4,Le (W' w0 w1 w2 w3 w4) (W_ w0 w1 w2 w3 w4)){b' b_:(List Int)→σ_→R σ_}(hb : ∀ w0 w1,Le (b' w0 w1) (b_ w0 w1))(slots:List Int)(b:Round)(m:(List (Int×Bool)))(c:Round)(s_:σ_):Le (Lo W' slots b m c b' s_) (Eb W_ slots b m c b_ s_):=by
 unfold Lo Eb
 with_reducible repeat' first | exact Le.refl _ | exact hW .. | exact hb .. | exact Vm (by assumption) .. | apply Be | apply Kd | apply Cd | apply Qg | apply Tz | intro _
def Ll {σ_:Type}(b_:(List Int)→σ_→R σ_):Nat→(List Int)→Round→(List (Int×Bool))→Round→σ_→R ((List (Int×Bool))×σ_)
 | 0,_,_,_,_,_=>.bad
 | n+1,slots,b,m,c,s_=>R.np (Lo (Ll b_ n) slots b m c b_ s_)
theorem O1 {σ_:Type}{b' b_:(List Int)→σ_→R σ_}(hb : ∀ w0 w1,Le (b' w0 w1) (b_ w0 w1)) : ∀ (n k:Nat) a0 a1 a2 a3 a4,Le (Ll b' n a0 a1 a2 a3 a4) (Di b_ (n+k) a0 a1 a2 a3 a4)
 | 0,k,a0,a1,a2,a3,a4=>.inl rfl
 | n+1,k,a0,a1,a2,a3,a4=>by
  rw [show n+1+k=(n+k)+1 by omega]
  exact Th (V7 (fun a0 a1 a2 a3 a4=>O1 hb n k a0 a1 a2 a3 a4) hb ..)
def Mv {σ_:Type}(slots:List Int)(b:Round)(m:(List (Int×Bool)))(c:Round)(b_:(List Int)→σ_→R σ_)(s_:σ_):R ((List (Int×Bool))×σ_):=Ll b_ 16 slots b m c s_
theorem Qv {σ_:Type}{b' b_:(List Int)→σ_→R σ_}(hb : ∀ w0 w1,Le (b' w0 w1) (b_ w0 w1))(slots:List Int)(b:Round)(m:(List (Int×Bool)))(c:Round)(s_:σ_):Le (Mv slots b m c b' s_) (Fx slots b m c b_ s_):=by
 unfold Mv Fx
 rw [Vy]
 exact O1 hb 16 (4000000 - 16) ..
def Mb {σ_:Type}(b:Round)(b_:(List Int)→σ_→R σ_)(s_:σ_):R σ_:=
 (Mv [] b [] b b_ s_).bind fun r=>
 .ok r.2
theorem Pv {σ_:Type}{b' b_:(List Int)→σ_→R σ_}(hb : ∀ w0 w1,Le (b' w0 w1) (b_ w0 w1))(b:Round)(s_:σ_):Le (Mb b b' s_) (Em b b_ s_):=by
 unfold Mb Em
 with_reducible repeat' first | exact Le.refl _ | exact hb .. | exact Qv (by assumption) .. | refine Qv (fun w0 w1=>?_) .. | apply Be | intro _
def Na {σ_:Type}(b:Round)(b_:(List Int)→σ_→R σ_)(s_:σ_):R σ_:=R.np (Mb b b_ s_)
theorem Ro {σ_:Type}{b' b_:(List Int)→σ_→R σ_}(hb : ∀ w0 w1,Le (b' w0 w1) (b_ w0 w1))(b:Round)(s_:σ_):Le (Na b b' s_) (Fa b b_ s_):=by
 unfold Na Fa
 with_reducible repeat' first | exact Le.refl _ | exact hb .. | exact Pv (by assumption) .. | refine Pv (fun w0 w1=>?_) .. | apply Be | apply Th | intro _
def Ky {σ_ ε_:Type}(begin:List Int)(b:List Int)(d:Round)(c:List Int)(c1:Round)(W_:(List Int)→(List Int)→Round→(List Int)→Round→σ_→R (σ_ ⊕ ε_))(a:Int)(s1:σ_):R (σ_ ⊕ (σ_ ⊕ ε_)):=
 (idx b (begin.length:Int)).bind fun a1=>
 (idx d.Costs a1).bind fun a2=>
 (idx a2 a).bind fun a3=>
 if(decide (a3≥0)) then
((Fp begin a).bind fun r1=>
 if(!r1) then
(if(0:Int)≤(begin.length:Int)∧(begin.length:Int)≤(begin.length:Int) then
 if [a].length≠0∧((begin.take (Int.toNat (begin.length:Int))).length+[a].length) * 8≤Bz then
 (W_ ((begin.take (Int.toNat (begin.length:Int)))++[a]) c c1 c c1 s1).bind (alt (fun s2=>
 Ct s2) (fun e1=>
 .ok (.inr ((Sum.inr (α:=σ_) e1))))) else .bad else .bad)
else
(Ct s1))
else
(Ct s1)
theorem Vh {σ_ ε_:Type}{W' W_:(List Int)→(List Int)→Round→(List Int)→Round→σ_→R (σ_ ⊕ ε_)}(hW : ∀ w0 w1 w2 w3 w4 w5,Le (W' w0 w1 w2 w3 w4 w5) (W_ w0 w1 w2 w3 w4 w5))(begin:List Int)(b:List Int)(d:Round)(c:List Int)(c1:Round)(a:Int)(s1:σ_):Le (Ky begin b d c c1 W' a s1) (D3 begin b d c c1 W_ a s1):=by
 unfold Ky D3
 with_reducible repeat' first | exact Le.refl _ | exact hW .. | apply Be | apply Cd | apply Kq | intro _
def Lm {σ_ ε_:Type}(W_:(List Int)→(List Int)→Round→(List Int)→Round→σ_→R (σ_ ⊕ ε_))(begin:List Int)(b:List Int)(d:Round)(c:List Int)(c1:Round)(b_:(List Int)→σ_→R (σ_ ⊕ ε_))(s_:σ_):R (σ_ ⊕ ε_):=
 if((begin.length:Int)==(b.length:Int)) then
((Hh begin).bind fun r=>
 (b_ r s_).bind (alt (fun s=>
 .ok (Sum.inl (β:=ε_) s)) (fun e=>
 .ok (Sum.inr (α:=σ_) e))))
else
((each (fun _ a=>fun s1=>Ky begin b d c c1 W_ a s1) 0 b s_).bind (alt (fun s1=>.ok (Sum.inl (β:=ε_) s1)) (fun r=>.ok r)))
theorem Wb {σ_ ε_:Type}{W' W_:(List Int)→(List Int)→Round→(List Int)→Round→σ_→R (σ_ ⊕ ε_)}(hW : ∀ w0 w1 w2 w3 w4 w5,Le (W' w0 w1 w2 w3 w4 w5) (W_ w0 w1 w2 w3 w4 w5)){b' b_:(List Int)→σ_→R (σ_ ⊕ ε_)}(hb : ∀ w0 w1,Le (b' w0 w1) (b_ w0 w1))(begin:List Int)(b:List Int)(d:Round)(c:List Int)(c1:Round)(s_:σ_):Le (Lm W' begin b d c c1 b' s_) (Ee W_ begin b d c c1 b_ s_):=by
 unfold Lm Ee
 with_reducible repeat' first | exact Le.refl _ | exact hW .. | exact hb .. | exact Vh (by assumption) .. | apply Be | apply Cd | apply N1 | apply Kq | intro _
def Ln {σ_ ε_:Type}(b_:(List Int)→σ_→R (σ_ ⊕ ε_)):Nat→(List Int)→(List Int)→Round→(List Int)→Round→σ_→R (σ_ ⊕ ε_)
 | 0,_,_,_,_,_,_=>.bad
 | n+1,begin,b,d,c,c1,s_=>R.np (Lm (Ln b_ n) begin b d c c1 b_ s_)
theorem O0 {σ_ ε_:Type}{b' b_:(List Int)→σ_→R (σ_ ⊕ ε_)}(hb : ∀ w0 w1,Le (b' w0 w1) (b_ w0 w1)) : ∀ (n k:Nat) a0 a1 a2 a3 a4 a5,Le (Ln b' n a0 a1 a2 a3 a4 a5) (Dh b_ (n+k) a0 a1 a2 a3 a4 a5)
 | 0,k,a0,a1,a2,a3,a4,a5=>.inl rfl
 | n+1,k,a0,a1,a2,a3,a4,a5=>by
  rw [show n+1+k=(n+k)+1 by omega]
  exact Th (Wb (fun a0 a1 a2 a3 a4 a5=>O0 hb n k a0 a1 a2 a3 a4 a5) hb ..)
def Mm {σ_ ε_:Type}(begin:List Int)(b:List Int)(d:Round)(c:List Int)(c1:Round)(b_:(List Int)→σ_→R (σ_ ⊕ ε_))(s_:σ_):R (σ_ ⊕ ε_):=Ln b_ 16 begin b d c c1 s_
theorem Qu {σ_ ε_:Type}{b' b_:(List Int)→σ_→R (σ_ ⊕ ε_)}(hb : ∀ w0 w1,Le (b' w0 w1) (b_ w0 w1))(begin:List Int)(b:List Int)(d:Round)(c:List Int)(c1:Round)(s_:σ_):Le (Mm begin b d c c1 b' s_) (Fy begin b d c c1 b_ s_):=by
 unfold Mm Fy
 rw [Vy]
 exact O0 hb 16 (4000000 - 16) ..
def Mc {σ_ ε_:Type}(b:List Int)(c:Round)(b_:(List Int)→σ_→R (σ_ ⊕ ε_))(s_:σ_):R (σ_ ⊕ ε_):=
 (Mm [] b c b c b_ s_).bind (alt (fun s=>
 .ok (Sum.inl (β:=ε_) s)) (fun e=>
 .ok (Sum.inr (α:=σ_) e)))
theorem P9 {σ_ ε_:Type}{b' b_:(List Int)→σ_→R (σ_ ⊕ ε_)}(hb : ∀ w0 w1,Le (b' w0 w1) (b_ w0 w1))(b:List Int)(c:Round)(s_:σ_):Le (Mc b c b' s_) (Eo b c b_ s_):=by
 unfold Mc Eo
 with_reducible repeat' first | exact Le.refl _ | exact hb .. | exact Qu (by assumption) .. | refine Qu (fun w0 w1=>?_) .. | apply Be | apply Kq | intro _
def Nd {σ_ ε_:Type}(b:List Int)(c:Round)(b_:(List Int)→σ_→R (σ_ ⊕ ε_))(s_:σ_):R (σ_ ⊕ ε_):=R.np (Mc b c b_ s_)
theorem Ra {σ_ ε_:Type}{b' b_:(List Int)→σ_→R (σ_ ⊕ ε_)}(hb : ∀ w0 w1,Le (b' w0 w1) (b_ w0 w1))(b:List Int)(c:Round)(s_:σ_):Le (Nd b c b' s_) (D9 b c b_ s_):=by
 unfold Nd D9
 with_reducible repeat' first | exact Le.refl _ | exact hb .. | exact P9 (by assumption) .. | refine P9 (fun w0 w1=>?_) .. | apply Be | apply Th | intro _
def Us (r:Round)(than:List Int)(group:List Int):R ((List Int)×Bool):=
 (eachS (fun j a=>fun l=>H3 group j a l) 0 r.Owners []).bind ((fun l=>(Ge r l).bind fun _=>
 (Nd l r (fun a1 z_=>R.np ((fun _=>Gm r than group l a1) z_)) ()).bind (alt (fun _=>.ok ([],false)) (fun o=>.ok (o,true)))))
theorem Afe (r:Round)(than:List Int)(group:List Int):Le (Us r than group) (Iy r than group):=by
 unfold Us Iy
 with_reducible repeat' first | exact Le.refl _ | exact Ra (by assumption) .. | refine Ra (fun w0 w1=>?_) .. | apply Be | apply Ik | apply Kq | apply Th | intro _
def R6 (r:Round)(than:List Int)(j:Nat):R (Unit ⊕ (Bool×Int)):=
 (each (fun j1 _=>fun group=>H5 r j j1 group) 0 (List.range 8) []).bind (alt (fun group=>if((group.length:Int)==0) then
(Dq)
else
((Us r than group).bind fun r4=>
 if r4.2 then
(.ok (.inr ((false,0))))
else
(Dq))) (fun _=>Dq))
theorem Ab9 (r:Round)(than:List Int)(j:Nat):Le (R6 r than j) (H6 r than j):=by
 unfold R6 H6
 with_reducible repeat' first | exact Le.refl _ | exact Afe .. | apply Be | apply Cd | apply N1 | apply Kq | intro _
def Ur (r:Round)(slots:List Int):R (Bool×Int):=
 (K9 r slots).bind fun r1=>
 if((r1.2 != 0)||(decide ((r1.1.length:Int) > 0))) then
(.ok (false,r1.2))
else
((I1 r).bind fun r2=>
 (G1 r r2 slots).bind fun than=>
 (each (fun j _=>fun _=>R6 r than j) 0 (List.range 256) ()).bind (alt (fun _=>.ok (true,0)) (fun r=>.ok r)))
theorem Afa (r:Round)(slots:List Int):Le (Ur r slots) (Ec r slots):=by
 unfold Ur Ec
 with_reducible repeat' first | exact Le.refl _ | exact Ab9 .. | apply Be | apply Cd | apply N1 | apply Kq | intro _
def Uo (r:Round)(a:List Int)(o:List Int)(o1:List Int):R ((List Int)×(List Int)):=
 (Lx r a).bind fun v=>
 (if(!List.isEmpty o1) then(Ke v o1).bind fun r2=>
 R.ok (decide (r2≥0)) else R.ok false).bind (fun(b:Bool)=>if b then
(.ok (o,o1))
else
((Ur r a).bind fun r3=>
 if((r3.2==0)&&r3.1) then
((Hh a).bind fun r4=>
 if v.length≠0 then
 .ok (r4,v) else .bad)
else
(.ok (o,o1))))
theorem Ae9 (r:Round)(a:List Int)(o:List Int)(o1:List Int):Le (Uo r a o o1) (In r a o o1):=by
 unfold Uo In
 with_reducible repeat' first | exact Le.refl _ | exact Afa .. | apply Be | apply Cd | intro _
def Xu (r:Round):R ((List Int)×Int):=
 (Kv r).bind fun e=>
 if(e != 0) then
(.ok ([],e))
else
((Hz r).bind fun _=>
 (Na r (fun a z_=>R.np ((Da fun o o1=>Uo r a o o1) z_)) ([],[])).bind (Da fun o o1=>if(List.isEmpty o1) then
(.ok ([],380))
else
(.ok (o,0))))
theorem Aim (r:Round):Le (Xu r) (Nh r):=by
 unfold Xu Nh
 with_reducible repeat' first | exact Le.refl _ | exact Ro (by assumption) .. | refine Ro (fun w0 w1=>?_) .. | exact Ae9 .. | apply Be | apply Cd | apply Qg | apply Th | intro _
def U7 (r:Round):R ((List Int)×Int):=
 (Xu r).bind fun r1=>
 if(r1.2==0) then
(.ok (r1.1,3))
else
((eachS (fun j _=>fun outcome=>Kr j outcome) 0 r.Owners []).bind ((fun outcome=>.ok (outcome,4))))
theorem Abt (r:Round):Le (U7 r) (K5 r):=by
 unfold U7 K5
 with_reducible repeat' first | exact Le.refl _ | exact Aim .. | apply Be | apply Cd | apply Ik | intro _
def R0 (c:Clearing):R Bool:=
 (Fl c).bind fun r=>
 (if(!r) then R.ok true else(Uk c).bind fun r1=>
 R.ok (!r1)).bind (fun(b:Bool)=>if b then
(.ok false)
else
((Rw c).bind fun r2=>
 if r2.2 then
((U7 r2.1).bind fun r3=>
 (if(r3.2==c.Phase) then(Lw r3.1 c.Outcome).bind fun r4=>
 R.ok r4 else R.ok false).bind (fun(b1:Bool)=>.ok b1))
else
(.ok false)))
theorem Af3 (c:Clearing):Le (R0 c) (Jj c):=by
 unfold R0 Jj
 with_reducible repeat' first | exact Le.refl _ | exact Yi .. | exact Aa5 .. | exact Abt .. | apply Be | apply Cd | intro _
def Ld (c:Clearing):R Int:=
 (X4 c).bind fun r=>
 if(!r) then
(Cv true)
else
(if(decide (c.Phase<1)) then
(Cv true)
else
(if(decide (c.Phase > 4)) then
(Cv true)
else
(if c.Phase=0 then
(.bad)
else
(if c.Phase=1 then
((Og c).bind fun r1=>
 Cv (!r1))
else
(if c.Phase=2 then
((Uu c).bind fun r2=>
 Cv (!r2))
else
(if c.Phase=3 then
((R0 c).bind fun r3=>
 Cv (!r3))
else
(if c.Phase=4 then
((R0 c).bind fun r4=>
 Cv (!r4))
else
(.bad))))))))
theorem Mx (c:Clearing):Le (Ld c) (Hr c):=by
 unfold Ld Hr
 with_reducible repeat' first | exact Le.refl _ | exact Af3 .. | exact Aiu .. | exact Ae8 .. | apply Be | apply Cd | intro _
def X6 (no:Int)(slots:Int)(owners:List Int)(flights:List Int):R (Clearing×Int):=
 (Lz owners).bind fun r=>
 if(0:Int)≤(r.1.length:Int)∧((r.1.length:Int):Int)≤(r.1.length:Int)∧(Int.toNat (r.1.length:Int)) * 32≤Bz then
 (Ld ({ No:=no,Phase:=1,Slots:=slots,Owners:=owners,Flights:=flights,Commitments:=(List.replicate (Int.toNat (r.1.length:Int)) (Bw 32 0)),Openings:=[],Outcome:=[] }:Clearing)).bind fun e=>
 if(e != 0) then
(.ok (({ No:=0,Phase:=0,Slots:=0,Owners:=[],Flights:=[],Commitments:=[],Openings:=[],Outcome:=[] }:Clearing),e))
else
(.ok (({ No:=no,Phase:=1,Slots:=slots,Owners:=owners,Flights:=flights,Commitments:=(List.replicate (Int.toNat (r.1.length:Int)) (Bw 32 0)),Openings:=[],Outcome:=[] }:Clearing),0)) else .bad
theorem Aes (no:Int)(slots:Int)(owners:List Int)(flights:List Int):Le (X6 no slots owners flights) (T5 no slots owners flights):=by
 unfold X6 T5
 with_reducible repeat' first | exact Le.refl _ | exact P7 .. | exact Mx .. | apply Be | apply Cd | intro _
def On {σ_:Type}(b:Table)(b_:(Vector Int 32)→σ_→R σ_)(j:Nat)(a:Int)(s:σ_):R σ_:=
 (Se b.Salt [b.Airline,b.Flight,(j:Int),a]).bind fun r=>
 (b_ r s).bind fun s1=>
 .ok s1
theorem Ss {σ_:Type}{b' b_:(Vector Int 32)→σ_→R σ_}(hb : ∀ w0 w1,Le (b' w0 w1) (b_ w0 w1))(b:Table)(j:Nat)(a:Int)(s:σ_):Le (On b b' j a s) (G8 b b_ j a s):=by
 unfold On G8
 with_reducible repeat' first | exact Le.refl _ | exact hb .. | exact Yr .. | apply Be | intro _
def Q7 {σ_:Type}(b:Table)(b_:(Vector Int 32)→σ_→R σ_)(s_:σ_):R σ_:=
 (eachS (fun j a=>fun s=>On b b_ j a s) 0 b.Costs s_).bind ((fun s=>.ok s))
theorem Ul {σ_:Type}{b' b_:(Vector Int 32)→σ_→R σ_}(hb : ∀ w0 w1,Le (b' w0 w1) (b_ w0 w1))(b:Table)(s_:σ_):Le (Q7 b b' s_) (I4 b b_ s_):=by
 unfold Q7 I4
 with_reducible repeat' first | exact Le.refl _ | exact hb .. | exact Ss (by assumption) .. | refine Ss (fun w0 w1=>?_) .. | apply Be | apply Ik | intro _
def Ps (t:Table):R (List (Vector Int 32)):=
 (Lt t).bind fun _=>
 (Q7 t (fun a z_=>R.np ((fun l=>Nu a l) z_)) []).bind (fun l=>.ok l)
theorem Wt (t:Table):Le (Ps t) (Lc t):=by
 unfold Ps Lc
 with_reducible repeat' first | exact Le.refl _ | exact Ul (by assumption) .. | refine Ul (fun w0 w1=>?_) .. | apply Be | apply Th | intro _
def Xv (W_:(List (Vector Int 32))→R (Vector Int 32))(l:(List (Vector Int 32))):R (Vector Int 32):=
 if((l.length:Int)==0) then
((N3 [101,109,112,116,121] []).bind fun r=>
 .ok r)
else
(if((l.length:Int)==1) then
((idx l 0).bind fun a=>
 (W7 a).bind fun r1=>
 .ok r1)
else
((Ga (l.length:Int)).bind fun n=>
 if(0:Int)≤n∧n≤(l.length:Int) then
 if(0:Int)≤n∧n≤(l.length:Int) then
 (W_ (l.take (Int.toNat n))).bind fun r2=>
 (W_ (l.drop (Int.toNat n))).bind fun r3=>
 (Ts r2 r3).bind fun r4=>
 .ok r4 else .bad else .bad))
theorem Ai2 {W' W_:(List (Vector Int 32))→R (Vector Int 32)}(hW : ∀ w0,Le (W' w0) (W_ w0))(l:(List (Vector Int 32))):Le (Xv W' l) (Sp W_ l):=by
 unfold Xv Sp
 with_reducible repeat' first | exact Le.refl _ | exact hW .. | exact Sf .. | exact Aco .. | exact Adg .. | apply Be | apply Cd | intro _
def Xl:Nat→(List (Vector Int 32))→R (Vector Int 32)
 | 0,_=>.bad
 | n+1,l=>Xv (Xl n) l
theorem Aay : ∀ (n k:Nat) a0,Le (Xl n a0) (Sq (n+k) a0)
 | 0,k,a0=>.inl rfl
 | n+1,k,a0=>by
  rw [show n+1+k=(n+k)+1 by omega]
  exact Ai2 (fun a0=>Aay n k a0) ..
def Rb (l:(List (Vector Int 32))):R (Vector Int 32):=Xl 16 l
theorem Xz (l:(List (Vector Int 32))):Le (Rb l) (Qp l):=by
 unfold Rb Qp
 rw [Vy]
 exact Aay 16 (4000000 - 16) ..
def Qr (a:Table)(d:(List (Vector Int 32))):R (List (Vector Int 32)):=
 (Ps a).bind fun r=>
 (Rb r).bind fun r1=>
 if(d.length+[r1].length) * 32≤Bz then
 .ok (d++[r1]) else .bad
theorem Aba (a:Table)(d:(List (Vector Int 32))):Le (Qr a d) (Ih a d):=by
 unfold Qr Ih
 with_reducible repeat' first | exact Le.refl _ | exact Wt .. | exact Xz .. | apply Be | apply Cd | intro _
def Ow (l:List Table):R (List (Vector Int 32)):=
 (eachS (fun _ a=>fun d=>Qr a d) 0 l []).bind ((fun d=>.ok d))
theorem Vv (l:List Table):Le (Ow l) (Iq l):=by
 unfold Ow Iq
 with_reducible repeat' first | exact Le.refl _ | exact Aba .. | apply Be | apply Ik | intro _
def T2 (l:List Table):R ((Vector Int 32)×Int):=
 (L7 l).bind fun r=>
 if r then
((Ow l).bind fun r1=>
 (Rb r1).bind fun r2=>
 .ok (r2,0))
else
(.ok ((Bw 32 0),360))
theorem Adl (l:List Table):Le (T2 l) (Nm l):=by
 unfold T2 Nm
 with_reducible repeat' first | exact Le.refl _ | exact Vv .. | exact Xz .. | apply Be | apply Cd | intro _
def T3 (c:Clearing)(airline:Int)(d:(Vector Int 32)):R (Clearing×Int):=
 (Ld c).bind fun e=>
 if(e != 0) then
(.ok (({ No:=0,Phase:=0,Slots:=0,Owners:=[],Flights:=[],Commitments:=[],Openings:=[],Outcome:=[] }:Clearing),e))
else
((Lz c.Owners).bind fun r=>
 (F9 r.1 airline).bind fun i=>
 if((decide (i<0))||(d==(#v[0,0,0,0,0,0,0,0,0,0,0,0,0,0,0,0,0,0,0,0,0,0,0,0,0,0,0,0,0,0,0,0]:(Vector Int 32)))) then
(.ok (({ No:=0,Phase:=0,Slots:=0,Owners:=[],Flights:=[],Commitments:=[],Openings:=[],Outcome:=[] }:Clearing),400))
else
((idx c.Commitments i).bind fun a=>
 if(a==d) then
(.ok (c,0))
else
(if(a==(#v[0,0,0,0,0,0,0,0,0,0,0,0,0,0,0,0,0,0,0,0,0,0,0,0,0,0,0,0,0,0,0,0]:(Vector Int 32))) then
((Ot c.Commitments).bind fun r1=>
 (idx r1 i).bind fun a1=>
 (Fl ({ No:=c.No,Phase:=c.Phase,Slots:=c.Slots,Owners:=c.Owners,Flights:=c.Flights,Commitments:=(r1.set (Int.toNat i) d),Openings:=c.Openings,Outcome:=c.Outcome }:Clearing)).bind fun r2=>
 if r2 then
(.ok (({ No:=c.No,Phase:=2,Slots:=c.Slots,Owners:=c.Owners,Flights:=c.Flights,Commitments:=(r1.set (Int.toNat i) d),Openings:=c.Openings,Outcome:=c.Outcome }:Clearing),0))
else
(.ok (({ No:=c.No,Phase:=c.Phase,Slots:=c.Slots,Owners:=c.Owners,Flights:=c.Flights,Commitments:=(r1.set (Int.toNat i) d),Openings:=c.Openings,Outcome:=c.Outcome }:Clearing),0)))
else
(.ok (({ No:=0,Phase:=0,Slots:=0,Owners:=[],Flights:=[],Commitments:=[],Openings:=[],Outcome:=[] }:Clearing),400)))))
theorem Aal (c:Clearing)(airline:Int)(d:(Vector Int 32)):Le (T3 c airline d) (Pd c airline d):=by
 unfold T3 Pd
 with_reducible repeat' first | exact Le.refl _ | exact P7 .. | exact Mx .. | apply Be | apply Cd | intro _
def Oi (l:(List (Vector Int 32))):R (List (Vector Int 32)):=
 (Pp 80 (Tg fun i j s=>Hp i j s) (0,(IntKind.wrap .i64 ((l.length:Int) - 1)),l)).bind (fun l1=>Hl l1)
theorem Y8 (l:(List (Vector Int 32))):Le (Oi l) (G9 l):=by
 unfold Oi G9
 with_reducible repeat' first | exact Le.refl _ | apply Be | apply Kd | apply Tz | intro _
def Wo (l1:(List (Vector Int 32)))(vat1:Int)(p:(List (Vector Int 32))):R (((List (Vector Int 32))×Int×(List (Vector Int 32))) ⊕ (List (Vector Int 32))):=
 if(l1.length:Int) > 1 then
((Ga (l1.length:Int)).bind fun n=>
 if vat1<n then
(if(0:Int)≤n∧n≤(l1.length:Int) then
 if(0:Int)≤n∧n≤(l1.length:Int) then
 (Rb (l1.drop (Int.toNat n))).bind fun r=>
 if(p.length+[r].length) * 32≤Bz then
 .ok (.inl ((l1.take (Int.toNat n)),vat1,(p++[r]))) else .bad else .bad else .bad)
else
(if(0:Int)≤n∧n≤(l1.length:Int) then
 if(0:Int)≤n∧n≤(l1.length:Int) then
 (Rb (l1.take (Int.toNat n))).bind fun r1=>
 if(p.length+[r1].length) * 32≤Bz then
 .ok (.inl ((l1.drop (Int.toNat n)),(IntKind.wrap .i64 (vat1 - n)),(p++[r1]))) else .bad else .bad else .bad))
else
(.ok (.inr (p)))
theorem Ahn (l1:(List (Vector Int 32)))(vat1:Int)(p:(List (Vector Int 32))):Le (Wo l1 vat1 p) (Oc l1 vat1 p):=by
 unfold Wo Oc
 with_reducible repeat' first | exact Le.refl _ | exact Xz .. | apply Be | apply Cd | intro _
def Wx (p1:(List (Vector Int 32))):R ((List (Vector Int 32))×Int):=
 (Oi p1).bind fun r2=>
 .ok (r2,0)
theorem Aht (p1:(List (Vector Int 32))):Le (Wx p1) (N9 p1):=by
 unfold Wx N9
 with_reducible repeat' first | exact Le.refl _ | exact Y8 .. | apply Be | intro _
def W0 (l:(List (Vector Int 32)))(vat:Int):R ((List (Vector Int 32))×Int):=
 if((decide (vat<0))||(decide (vat≥(l.length:Int)))) then
(.ok ([],1))
else
((Pp 80 (Tg fun l1 vat1 p=>Wo l1 vat1 p) (l,vat,[])).bind (fun p1=>Wx p1))
theorem Ak4 (l:(List (Vector Int 32)))(vat:Int):Le (W0 l vat) (Sx l vat):=by
 unfold W0 Sx
 with_reducible repeat' first | exact Le.refl _ | exact Aht .. | exact Ahn .. | apply Be | apply Kd | apply Cd | apply Tz | intro _
def Vi (l:List Table)(vat:Int)(slot:Int):R (Opening×Int):=
 (L7 l).bind fun r=>
 (if((((!r)||(decide (vat<0)))||(decide (vat≥(l.length:Int))))||(decide (slot<0))) then R.ok true else(idx l 0).bind fun a=>
 R.ok (decide (slot≥(a.Costs.length:Int)))).bind (fun(b:Bool)=>if b then
(.ok (({ Airline:=0,Flight:=0,Slot:=0,Cost:=0,Salt:=(Bw 32 0),Path:=[] }:Opening),360))
else
((idx l vat).bind fun a1=>
 (Ps a1).bind fun r1=>
 (W0 r1 slot).bind fun r2=>
 (Ow l).bind fun r3=>
 (W0 r3 vat).bind fun r4=>
 (idx a1.Costs slot).bind fun a2=>
 (K4 [r2.1,r4.1]).bind fun r5=>
 .ok (({ Airline:=a1.Airline,Flight:=a1.Flight,Slot:=slot,Cost:=a2,Salt:=a1.Salt,Path:=r5 }:Opening),0)))
theorem Afi (l:List Table)(vat:Int)(slot:Int):Le (Vi l vat slot) (P1 l vat slot):=by
 unfold Vi P1
 with_reducible repeat' first | exact Le.refl _ | exact Vv .. | exact Ak4 .. | exact Wt .. | apply Be | apply Cd | intro _
def H7 (a:List Opening)(target:Opening):R (Int×Bool):=
 (Pp 80 (Da fun i j=>Dw a target i j) (0,(a.length:Int))).bind (fun i1=>Dv a target i1)
theorem R4 (a:List Opening)(target:Opening):Le (H7 a target) (Ej a target):=by
 unfold H7 Ej
 with_reducible repeat' first | exact Le.refl _ | apply Be | apply Kd | apply Qg | intro _
def K0 (l:List Opening)(b:Opening):R (Int×Bool×(List Opening)):=
 (H7 l b).bind fun r=>
 if r.2 then
(.ok (r.1,true,l))
else
((Nt l).bind fun r1=>
 (Sg r.1 r1 [b]).bind fun y=>
 Hj r y)
theorem U9 (l:List Opening)(b:Opening):Le (K0 l b) (Gk l b):=by
 unfold K0 Gk
 with_reducible repeat' first | exact Le.refl _ | exact R4 .. | apply Be | apply Cd | intro _
def W4 (c:Clearing)(o:Opening):R (Clearing×Int):=
 (Ld c).bind fun e=>
 if(e != 0) then
(.ok (({ No:=0,Phase:=0,Slots:=0,Owners:=[],Flights:=[],Commitments:=[],Openings:=[],Outcome:=[] }:Clearing),e))
else
(if(c.Phase==1) then
(.ok (({ No:=0,Phase:=0,Slots:=0,Owners:=[],Flights:=[],Commitments:=[],Openings:=[],Outcome:=[] }:Clearing),401))
else
((P6 c o).bind fun e1=>
 if(e1 != 0) then
(.ok (({ No:=0,Phase:=0,Slots:=0,Owners:=[],Flights:=[],Commitments:=[],Openings:=[],Outcome:=[] }:Clearing),e1))
else
((K0 c.Openings o).bind fun r=>
 if r.2.1 then
((idx c.Openings r.1).bind fun a=>
 (X8 a o).bind fun r1=>
 N2 c r (!r1))
else
(N2 c r false))))
theorem Acx (c:Clearing)(o:Opening):Le (W4 c o) (S0 c o):=by
 unfold W4 S0
 with_reducible repeat' first | exact Le.refl _ | exact Zg .. | exact U9 .. | exact Mx .. | apply Be | apply Cd | intro _
def U5 (i:Int)(o:Clearing)(o1:Table):R ((Int×Int×Clearing) ⊕ ((Int×Clearing) ⊕ (Clearing×Bool))):=
 if i≤2 then
((T2 [o1]).bind fun r1=>
 if(r1.2 != 0) then
(.ok (.inr (.inr ((o,false)))))
else
((T3 o o1.Airline r1.1).bind fun r2=>
 .ok (.inl (r2.2,(IntKind.wrap .i64 (i+1)),r2.1))))
else
((Vi [o1] 0 (IntKind.wrap .i64 (Int.tdiv (IntKind.wrap .i64 (i - 3)) 2))).bind fun r3=>
 if(r3.2 != 0) then
(.ok (.inr (.inr ((o,false)))))
else
((W4 o r3.1).bind fun r4=>
 .ok (.inl (r4.2,(IntKind.wrap .i64 (i+1)),r4.1))))
theorem Ajv (i:Int)(o:Clearing)(o1:Table):Le (U5 i o o1) (Q3 i o o1):=by
 unfold U5 Q3
 with_reducible repeat' first | exact Le.refl _ | exact Aal .. | exact Acx .. | exact Afi .. | exact Adl .. | apply Be | apply Cd | intro _
def Zb (steps:Int)(e:Int)(i:Int)(o:Clearing):R ((Int×Int×Clearing) ⊕ ((Int×Clearing) ⊕ (Clearing×Bool))):=
 if((decide (i≤steps))&&(e==0)) then
(if((Int.tmod i 2)==0) then
(U5 i o ({ Airline:=3,Flight:=9,Costs:=[2,6],Salt:=(Bw 32 0) }:Table))
else
(U5 i o ({ Airline:=0,Flight:=5,Costs:=[4,1],Salt:=(Bw 32 0) }:Table)))
else
(.ok (.inr (.inl ((e,o)))))
theorem Akn (steps:Int)(e:Int)(i:Int)(o:Clearing):Le (Zb steps e i o) (Q4 steps e i o):=by
 unfold Zb Q4
 with_reducible repeat' first | exact Le.refl _ | exact Ajv .. | apply Be | apply Cd | intro _
def Zp (steps:Int):R (Clearing×Bool):=
 (X6 1 2 [0,3] [5,9]).bind fun r=>
 (Pp 80 (Tg fun e i o=>Zb steps e i o) (r.2,1,r.1)).bind (alt (Da fun e1 o2=>Tq e1 o2) (fun r=>.ok r))
theorem Anc (steps:Int):Le (Zp steps) (Vw steps):=by
 unfold Zp Vw
 with_reducible repeat' first | exact Le.refl _ | exact Akn .. | exact Aes .. | apply Be | apply Kd | apply Kq | apply Qg | apply Tz | intro _
def U6 (c:Clearing):R (Round×Int):=
 (Ld c).bind fun e=>
 if(e != 0) then
(.ok (({ Slots:=0,Owners:=[],Costs:=[] }:Round),e))
else
((Rw c).bind fun r=>
 if r.2 then
(.ok (r.1,0))
else
(.ok (({ Slots:=0,Owners:=[],Costs:=[] }:Round),401)))
theorem Abw (c:Clearing):Le (U6 c) (Q8 c):=by
 unfold U6 Q8
 with_reducible repeat' first | exact Le.refl _ | exact Yi .. | exact Mx .. | apply Be | apply Cd | intro _
def U4 (c:Clearing):R (Clearing×Int):=
 (U6 c).bind fun r=>
 if(r.2 != 0) then
(.ok (({ No:=0,Phase:=0,Slots:=0,Owners:=[],Flights:=[],Commitments:=[],Openings:=[],Outcome:=[] }:Clearing),r.2))
else
(if(c.Phase==2) then
((U7 r.1).bind fun r1=>
 .ok (({ No:=c.No,Phase:=r1.2,Slots:=c.Slots,Owners:=c.Owners,Flights:=c.Flights,Commitments:=c.Commitments,Openings:=c.Openings,Outcome:=r1.1 }:Clearing),0))
else
(.ok (c,0)))
theorem Aj0 (c:Clearing):Le (U4 c) (Rg c):=by
 unfold U4 Rg
 with_reducible repeat' first | exact Le.refl _ | exact Abw .. | exact Abt .. | apply Be | apply Cd | intro _
def Aap (c:Clearing)(l:Leases):R Bool:=
 (Nz l).bind fun r=>
 if(r != 0) then
(.ok false)
else
((Pp 80 (fun x=>Od c l x) 0).bind (alt (fun _=>Rk) (fun r=>.ok r)))
theorem Ald (c:Clearing)(l:Leases):Le (Aap c l) (Qm c l):=by
 unfold Aap Qm
 with_reducible repeat' first | exact Le.refl _ | apply Be | apply Kd | apply Cd | apply Kq | intro _
def Ry (c:Clearing)(l:Leases):R ((List Command)×Int):=
 (Ld c).bind fun e=>
 if(e != 0) then
(.ok ([],e))
else
(if((c.Phase != 3)&&(c.Phase != 4)) then
(.ok ([],401))
else
((Aap c l).bind fun r=>
 if r then
((eachS (fun j a=>fun x1=>Im c l j a x1) 0 c.Outcome []).bind ((fun x1=>.ok (x1,0))))
else
(.ok ([],400))))
theorem Afw (c:Clearing)(l:Leases):Le (Ry c l) (H9 c l):=by
 unfold Ry H9
 with_reducible repeat' first | exact Le.refl _ | exact Ald .. | exact Mx .. | apply Be | apply Cd | apply Ik | intro _
def Aic:R Bool:=
 (X6 1 2 [0,1,2] [0,1,2]).bind fun r=>
 (Zp 0).bind fun r1=>
 (T3 r1.1 1 (#v[1,0,0,0,0,0,0,0,0,0,0,0,0,0,0,0,0,0,0,0,0,0,0,0,0,0,0,0,0,0,0,0]:(Vector Int 32))).bind fun r2=>
 (U4 r1.1).bind fun r3=>
 (Ry r1.1 ({ Token:=0,List:=[] }:Leases)).bind fun r4=>
 (W4 r1.1 ({ Airline:=0,Flight:=0,Slot:=0,Cost:=0,Salt:=(Bw 32 0),Path:=[] }:Opening)).bind fun r5=>
 (Zp 6).bind fun r6=>
 (U6 r6.1).bind fun r7=>
 (U4 r6.1).bind fun r8=>
 (Ry r8.1 ({ Token:=2,List:=[({ Slot:=0,Airline:=0,Flight:=5,Token:=1,Used:=false }:Lease),({ Slot:=1,Airline:=3,Flight:=9,Token:=2,Used:=false }:Lease)] }:Leases)).bind fun r9=>
 (if(((((((((((((r.2 != 400)||(!r1.2))||(!r6.2))||(r2.2 != 400))||(r3.2 != 401))||(r4.2 != 401))||(r5.2 != 401))||(r7.2 != 0))||(r8.2 != 0))||(r9.2 != 0))||(r1.1.Phase != 1))||(r6.1.Phase != 2))||(r8.1.Phase != 3)) then R.ok true else(Ld r8.1).bind fun r10=>
 R.ok (r10 != 0)).bind (fun(b:Bool)=>if b then
(.ok false)
else
((Ta r7.1 ({ Slots:=2,Owners:=[0,3],Costs:=[[4,1],[2,6]] }:Round)).bind fun r11=>
 (if r11 then(Ob r8.1.Outcome [1,0]).bind fun r12=>
 R.ok r12 else R.ok false).bind (fun(b1:Bool)=>(if b1 then(Pi r9.1 [({ Kind:=2,Slot:=1,Airline:=0,Flight:=5,Token:=2 }:Command),({ Kind:=2,Slot:=0,Airline:=3,Flight:=9,Token:=1 }:Command)]).bind fun r13=>
 R.ok r13 else R.ok false).bind (fun(b2:Bool)=>.ok b2))))
theorem Amt:Le (Aic ) (Rz ):=by
 unfold Aic Rz
 with_reducible repeat' first | exact Le.refl _ | exact Aal .. | exact Anc .. | exact Aes .. | exact Abw .. | exact Acx .. | exact Aj0 .. | exact Mx .. | exact Afw .. | apply Be | apply Cd | intro _
end Go.Am
namespace Go.Am
open Go
set_option maxRecDepth 100000
theorem law40_sane_ok:Rz=.ok true:=Qz Amt (by kernel_rfl)
end Go.Am
