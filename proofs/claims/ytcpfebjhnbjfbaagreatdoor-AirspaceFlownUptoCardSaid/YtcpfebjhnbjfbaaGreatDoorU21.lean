/- Written by shrink.py from texts of ours: comments struck, what is not reached left out, names short. -/
import Derived.Test.YtcpfebjhnbjfbaaGreatDoorU17
set_option linter.unusedSimpArgs false
set_option linter.unusedVariables false
set_option linter.unusedSectionVars false
set_option linter.defProp false
namespace Go.Am
open Go
abbrev AN:=@As.ite
abbrev BO:=@As.bind
def EB:Nat→Nat→Value→Prop
 |0,n,v=>v.Kind=1∧v.S=[]∧v.L=[]∧12≤n
 |d+1,n,v=>(v.Kind=1∧v.S=[]∧v.L=[]∧12≤n)∨(v.Kind=3∧v.N=0∧v.S=[]∧∃m,(∀x∈v.L,EB d m x)∧12+v.L.length*m≤n)
variable{d:Nat}{n:Nat}{v:Value}
theorem EB.up:EB d n v→EB (d+1) n v:=by
 induction d generalizing n v with
 |zero=>exact λh=>.inl h
 |succ d z=>
  rintro(h|⟨h1,h2,A,m,D,O⟩)
  ·exact .inl h
  ·exact .inr ⟨h1,h2,A,m,λx R=>z (D x R),O⟩
theorem EB.le{m:Nat}(h:EB d n v)(z:n≤m):EB d m v:=by
 cases d with
 |zero=>exact⟨h.1,h.2.1,h.2.2.1,BT h.2.2.2 z⟩
 |succ d=>
  rcases h with h|⟨h1,h2,A,k,D,O⟩
  ·exact .inl ⟨h.1,h.2.1,h.2.2.1,BT h.2.2.2 z⟩
  ·exact .inr ⟨h1,h2,A,k,D,BT O z⟩
theorem EB.len(h:EB d n v):12≤n:=by
 cases d with
 |zero=>exact h.2.2.2
 |succ d=>
  rcases h with h|⟨_,_,_,m,_,z⟩
  ·exact h.2.2.2
  ·omega
variable{α:Type}
abbrev Ud(m:R α)(P:α→Prop):Prop:=As m P
variable{P:α→Prop}
theorem Ud.ok{a:α}(h:P a):Ud (.ok a) P:=As.ok h
variable{m:R α}
theorem Ud.bind{β:Type}{f:α→R β}{Q:β→Prop}(h:Ud m P)(k:∀a,P a→Ud (f a) Q):Ud (m.bind f) Q:=BO h k
variable{p:α→Prop}
theorem Ud.mono{q:α→Prop}(h:Ud m p)(z:∀a,p a→q a):Ud m q:=As.mono h z
theorem Ud.ite{c:Prop}[Decidable c]{a b:R α}(h1:c→Ud a p)(h2:¬c→Ud b p):Ud (if c then a else b) p:=AN h1 h2
variable{σ:Type}{b:Nat→α→σ→R σ}
theorem Ud.eachS{I:Nat→σ→Prop}(l:List α)(k:Nat)(s:σ)(h:I k s)(z:∀(j:Nat) a s,l[j]?=some a→I (k+j) s→Ud (b (k+j) a s) (I (k+j+1))):Ud (eachS b k l s) (I (k+l.length)):=My I l k s z h
theorem Ud.loop{ε:Type}{b:σ→R (σ ⊕ ε)}{I:σ→Prop}{E:ε→Prop}(μ:σ→Nat)(A:∀s,I s→Ud (b s) λx=>match x with|.inl s'=>I s'∧μ s'<μ s|.inr e=>E e)(n:Nat)(s:σ)(D:μ s≤n)(z:I s):Ud (loop b s) E:=
 Aa1 μ I E (λs z=>(A s z).mono λx O=>by cases x<;>exact O) n s D z
abbrev Pq(m:R α):Prop:=Ud m λ_=>True
theorem Pq.ok(a:α):Pq (.ok a):=⟨a,rfl,trivial⟩
theorem Pq.bind{β:Type}{f:α→R β}{Q:β→Prop}(h:Pq m)(k:∀a,Ud (f a) Q):Ud (m.bind f) Q:=Ud.bind h λa _=>k a
theorem Pq.eachS(l:List α)(k:Nat)(s:σ)(z:∀(j:Nat) a s,l[j]?=some a→Pq (b (k+j) a s)):Pq (eachS b k l s):=Ud.eachS (I:=λ_ _=>True) l k s trivial λj a s A _=>z j a s A
structure TabF (t:Tables):Prop where
 s:t.Sectors.length≤12
 sv:∀x∈t.Sectors,x.Volumes.length≤10
 c:t.Configs.length≤7
 cs:∀x∈t.Configs,x.Sectors.length≤10
 w:t.Ways.length≤8
 wl:∀x∈t.Ways,x.Legs.length≤10∧∀g∈x.Legs,g.Minutes.length≤10
 m:t.Modes.length≤6
 ml:∀x∈t.Modes,x.length≤20
 k:t.Kinds.length≤6
 kc:∀x∈t.Kinds,x.Curfews.length≤10∧∀c∈x.Curfews,c.length≤10
end Go.Am
