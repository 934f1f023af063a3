/- Written by shrink.py from texts of ours: comments struck, what is not reached left out, names short. -/
import Derived.Test.YtcpfebjhnbjfbaaGreatDoorU22
set_option linter.unusedSimpArgs false
set_option linter.unusedVariables false
set_option linter.unusedSectionVars false
set_option linter.defProp false
namespace Go.Am
open Go
abbrev CN:=@List.takeWhile_cons
abbrev CS:=@As.need
abbrev CV:=@beq_eq_false_iff_ne
abbrev DJ:=@List.mem_iff_getElem?
abbrev DK:=@of_decide_eq_true
abbrev DV:=@List.forall_mem_cons
abbrev EE:=@List.take_add_one
abbrev EI:=@List.take_length
abbrev FE:=@As.idx
abbrev FW:=@List.contains_cons
abbrev GG:=@List.mem_nil_iff
abbrev GM:=@Pq.ok
abbrev GQ:=@Pq.bind
abbrev GT:=@As.alt
abbrev HD:=@List.countP_le_length
abbrev HN:=@Bool.false_and
abbrev HO:=@Pq.eachS
abbrev HU:=@List.mem_replicate
abbrev HW:=@List.sum_cons
abbrev HX:=@Int.fdiv_eq_ediv_of_nonneg
abbrev HZ:=@List.contains_nil
abbrev IA:=@List.flatMap_cons
abbrev IM:=@LR.one
abbrev IN:=@List.set_set
abbrev IP:=@List.suffix_refl
abbrev IS:=@Nat.one_mul
abbrev IU:=@Nat.mul_le_mul
def Ab8 (a:Nat)(s:Al):Nat:=s.foldl (λa c=>a*10+(c.toNat-48)) a
def val (s:Al):Nat:=Ab8 0 s
def at' (p:Nat)(t:Token):Token:={t with At:=p}
inductive Lx where
 |ok (l:List Token)
 |wrong (e:Nat)
 deriving DecidableEq
def Lx.add (o:Option Token)(p:Nat):Lx→Lx
 |.ok l=>.ok ((o.map (at' p)).toList++l)
 |.wrong e=>.wrong e
@[simp] theorem Lx.add_none (p:Nat)(x:Lx):x.add none p=x:=by cases x<;>rfl
def out:Lx→List Token×Int×Int
 |.ok l=>(l,0,0)
 |.wrong e=>([],(e:Int),70)
abbrev PR (α:Type):=Except (List Token×Int) (α×List Token)
abbrev Rd (α:Type):=List Token→PR α
namespace Rd
variable{α:Type}{β:Type}
def bind (p:Rd α)(f:α→Rd β):Rd β:=λl=>match p l with
 |.error x=>.error x
 |.ok (a,r)=>f a r
def pure (a:α):Rd α:=λl=>.ok (a,l)
end Rd
def Awi (E:Int):List Token→Int
 |[]=>E
 |t::_=>t.At
variable{α:Type}
def run(E:Int):PR α→R (α×List Token)
 |.ok x=>.ok x
 |.error (l,e)=>.pan ⟨161,.two .i64 .i64 (Awi E l) e⟩
def tup (x:Airspace×List Token):List Token×List Volume×List Sector×List Config×List Segment×List Route×List Airport×List Class×List Rule:=(x.2,x.1.Volumes,x.1.Sectors,x.1.Configs,x.1.Segments,x.1.Routes,x.1.Airports,x.1.Classes,x.1.Rules)
def ps (A:Airspace)(l:List Token):=(l,A.Airports,A.Classes,A.Configs,A.Rules,A.Routes,A.Sectors,A.Segments,A.Volumes)
def B31{β:Type}(q:α→β→Bool):List α→List β→Bool
 |[],[]=>true
 |a::l,b::m=>q a b&&B31 q l m
 |_,_=>false
def key (a b:Token):Bool:=(a.Kind==b.Kind)&&(a.Text==b.Text)&&(a.N==b.N)
def same (a b:List Token):Bool:=B31 key a b
def equal (a b:List Token):Bool:=same a b&&B31 (λx y:Token=>x.At==y.At) a b
def Lx.pre (l:List Token):Lx→Lx
 |.ok r=>.ok (l++r)
 |.wrong e=>.wrong e
def Lx.seq (x:Lx)(y:Lx):Lx:=match x with
 |.ok l=>y.pre l
 |.wrong e=>.wrong e
end Go.Am
