/- Written by shrink.py from texts of ours: comments struck, what is not reached left out, names short. -/
import Derived.Test.YtcpfebjhnbjfbaaGreatDoorTc
set_option linter.unusedSimpArgs false
set_option linter.unusedVariables false
set_option linter.unusedSectionVars false
set_option linter.defProp false
namespace Go.Am
open Go
theorem Axd {α β σ ε:Type}(f:α→β)(b:Nat→β→σ→R (σ ⊕ ε)):∀(l:List α) (k:Nat) (s:σ),each b k (l.map f) s=each (λj a=>b j (f a)) k l s
 |[],_,_=>rfl
 |a::l,k,s=>by
  rw[BA,Abg,Abg];congr 1;funext x;cases x with
  |inl s'=>exact Axd f b l (k+1) s'
  |inr e=>rfl
theorem Rq {α β σ:Type}(f:α→β)(b:Nat→β→σ→R σ):∀(l:List α) (k:Nat) (s:σ),eachS b k (l.map f) s=eachS (λj a=>b j (f a)) k l s
 |[],_,_=>rfl
 |a::l,k,s=>by rw[BA,A72,A72];congr 1;funext x;exact Rq f b l (k+1) x
end Go.Am
