/- Written by shrink.py from texts of ours: comments struck, what is not reached left out, names short. -/
import Derived.Test.YtgigefcfankeeaaGreatU4
import Derived.KernelRfl
import Derived.Shelf.Strconv.Itoa0
import Derived.Ground.SlgmProg
import Derived.Shelf.SortM.Plain
import Derived.Shelf.SortM.SortNone
import Derived.Test.YtgigefcfankeeaaGreatProg
namespace Go.Am
open Go
set_option linter.unusedVariables false
set_option maxRecDepth 100000
def Ih (s:List Int):R (List Int):=
 (Fq s).bind fun s1=>
 (Nv s1).bind fun _=>
 .ok (V9 s1)
theorem La (s:List Int):Le (Ih s) (Dv s):=by
 unfold Ih Dv
 repeat' first | with_reducible exact Le.refl _ | with_reducible exact hW .. | with_reducible apply C7 | with_reducible apply Cy | with_reducible apply Dm | with_reducible apply C4 | with_reducible apply Cm | with_reducible apply Cq | with_reducible apply Dk | with_reducible apply Dh | with_reducible apply Dn | with_reducible apply Di | with_reducible apply Dl | with_reducible apply D6 | (rw [Ch]; with_reducible exact Le.refl _) | intro _
def Lm (s0_ReplicaID:Int)(s0_ReplicaMany:Int)(s0_ReplicaTerm:Int)(s0_ReplicaVote:Int)(s0_ReplicaRole:Int)(s0_ReplicaCommit:Int)(s0_ReplicaVotes:List Bool)(l:List Record)(l1:List Int):R (Int×(List Record)):=
 (Eg l1).bind fun _=>
 (Ih l1).bind fun l2=>
 (C5 l2 (IntKind.wrap .i64 (Int.tdiv (IntKind.wrap .i64 ((l2.length:Int) - 1)) 2))).bind fun a=>
 if(decide (a > s0_ReplicaCommit)) then
((C5 l (IntKind.wrap .i64 (a - 1))).bind fun a1=>
 Ec s0_ReplicaCommit a (a1.Term==s0_ReplicaTerm) l)
else
(Ec s0_ReplicaCommit a false l)
theorem S0 (s0_ReplicaID:Int)(s0_ReplicaMany:Int)(s0_ReplicaTerm:Int)(s0_ReplicaVote:Int)(s0_ReplicaRole:Int)(s0_ReplicaCommit:Int)(s0_ReplicaVotes:List Bool)(l:List Record)(l1:List Int):Le (Lm s0_ReplicaID s0_ReplicaMany s0_ReplicaTerm s0_ReplicaVote s0_ReplicaRole s0_ReplicaCommit s0_ReplicaVotes l l1) (E4 s0_ReplicaID s0_ReplicaMany s0_ReplicaTerm s0_ReplicaVote s0_ReplicaRole s0_ReplicaCommit s0_ReplicaVotes l l1):=by
 unfold Lm E4
 repeat' first | with_reducible exact Le.refl _ | with_reducible exact hW .. | with_reducible exact La .. | with_reducible apply C7 | with_reducible apply Cy | with_reducible apply Dm | with_reducible apply C4 | with_reducible apply Cm | with_reducible apply Cq | with_reducible apply Dk | with_reducible apply Dh | with_reducible apply Dn | with_reducible apply Di | with_reducible apply Dl | with_reducible apply D6 | (rw [Ch]; with_reducible exact Le.refl _) | intro _
def Of (m:Message)(s_Replica:Replica):R (List Message):=
 (Tv 64 (D4 fun x l=>Hg m s_Replica x l) (0,[])).bind (fun l1=>Iq l1)
theorem Va (m:Message)(s_Replica:Replica):Le (Of m s_Replica) (Gb m s_Replica):=by
 unfold Of Gb
 repeat' first | with_reducible exact Le.refl _ | with_reducible exact hW .. | with_reducible apply C7 | with_reducible apply Cy | with_reducible apply Dm | with_reducible apply C4 | with_reducible apply Cm | with_reducible apply Cq | with_reducible apply Dk | with_reducible apply Dh | with_reducible apply Dn | with_reducible apply Di | with_reducible apply Dl | with_reducible apply D6 | (rw [Ch]; with_reducible exact Le.refl _) | intro _
def Nu (s0_ReplicaID:Int)(s0_ReplicaMany:Int)(s0_ReplicaTerm:Int)(s0_ReplicaVote:Int)(s0_ReplicaRole:Int)(s0_ReplicaCommit:Int)(s0_ReplicaVotes:List Bool)(s0_ReplicaMatch:List Int)(l:List Record):R (List Message):=
 (Of ({ Kind:=3,From:=0,To:=0,Term:=0,Last:=0,LastTerm:=0,Log:=l,Commit:=s0_ReplicaCommit,Match:=0,Granted:=false }:Message) ({ ID:=s0_ReplicaID,Many:=s0_ReplicaMany,Term:=s0_ReplicaTerm,Vote:=s0_ReplicaVote,Log:=l,Role:=s0_ReplicaRole,Commit:=s0_ReplicaCommit,Votes:=s0_ReplicaVotes,Match:=s0_ReplicaMatch }:Replica)).bind fun r=>
 .ok r
theorem Ul (s0_ReplicaID:Int)(s0_ReplicaMany:Int)(s0_ReplicaTerm:Int)(s0_ReplicaVote:Int)(s0_ReplicaRole:Int)(s0_ReplicaCommit:Int)(s0_ReplicaVotes:List Bool)(s0_ReplicaMatch:List Int)(l:List Record):Le (Nu s0_ReplicaID s0_ReplicaMany s0_ReplicaTerm s0_ReplicaVote s0_ReplicaRole s0_ReplicaCommit s0_ReplicaVotes s0_ReplicaMatch l) (Gx s0_ReplicaID s0_ReplicaMany s0_ReplicaTerm s0_ReplicaVote s0_ReplicaRole s0_ReplicaCommit s0_ReplicaVotes s0_ReplicaMatch l):=by
 unfold Nu Gx
 repeat' first | with_reducible exact Le.refl _ | with_reducible exact hW .. | with_reducible exact Va .. | with_reducible apply C7 | with_reducible apply Cy | with_reducible apply Dm | with_reducible apply C4 | with_reducible apply Cm | with_reducible apply Cq | with_reducible apply Dk | with_reducible apply Dh | with_reducible apply Dn | with_reducible apply Di | with_reducible apply Dl | with_reducible apply D6 | (rw [Ch]; with_reducible exact Le.refl _) | intro _
def O7 (r:Replica)(l:List Record):R (Replica×(List Message)×Int):=
 (I0 r.Match).bind fun r3=>
 (C5 r3 r.ID).bind fun a=>
 (Lm r.ID r.Many r.Term r.Vote r.Role r.Commit r.Votes l (r3.set r.ID.toNat (l.length:Int))).bind fun r4=>
 (Nu r.ID r.Many r.Term r.Vote r.Role r4.1 r.Votes (r3.set r.ID.toNat (l.length:Int)) r4.2).bind fun r5=>
 .ok (({ ID:=r.ID,Many:=r.Many,Term:=r.Term,Vote:=r.Vote,Log:=r4.2,Role:=r.Role,Commit:=r4.1,Votes:=r.Votes,Match:=(r3.set r.ID.toNat (l.length:Int)) }:Replica),r5,0)
theorem Vu (r:Replica)(l:List Record):Le (O7 r l) (I3 r l):=by
 unfold O7 I3
 repeat' first | with_reducible exact Le.refl _ | with_reducible exact hW .. | with_reducible exact S0 .. | with_reducible exact Ul .. | with_reducible apply C7 | with_reducible apply Cy | with_reducible apply Dm | with_reducible apply C4 | with_reducible apply Cm | with_reducible apply Cq | with_reducible apply Dk | with_reducible apply Dh | with_reducible apply Dn | with_reducible apply Di | with_reducible apply Dl | with_reducible apply D6 | (rw [Ch]; with_reducible exact Le.refl _) | intro _
def Od (r:Replica)(data:List Int):R (Replica×(List Message)×Int):=
 (C8 r).bind fun e=>
 if(e != 0) then
(.ok (({ ID:=0,Many:=0,Term:=0,Vote:=0,Log:=[],Role:=0,Commit:=0,Votes:=[],Match:=[] }:Replica),[],e))
else
(if(r.Role != 2) then
(.ok (({ ID:=0,Many:=0,Term:=0,Vote:=0,Log:=[],Role:=0,Commit:=0,Votes:=[],Match:=[] }:Replica),[],470))
else
(if(r.Log.length:Int)≥4096 then
(.ok (({ ID:=0,Many:=0,Term:=0,Vote:=0,Log:=[],Role:=0,Commit:=0,Votes:=[],Match:=[] }:Replica),[],2))
else
((Dz r).bind fun _=>
 (J3 r.Log).bind fun r1=>
 if(r1.length+[({ Term:=r.Term,Data:=data }:Record)].length) * 32≤B5 then
 O7 r (r1++[({ Term:=r.Term,Data:=data }:Record)]) else .bad)))
theorem X7 (r:Replica)(data:List Int):Le (Od r data) (Ey r data):=by
 unfold Od Ey
 repeat' first | with_reducible exact Le.refl _ | with_reducible exact hW .. | with_reducible exact Vu .. | with_reducible apply C7 | with_reducible apply Cy | with_reducible apply Dm | with_reducible apply C4 | with_reducible apply Cm | with_reducible apply Cq | with_reducible apply Dk | with_reducible apply Dh | with_reducible apply Dn | with_reducible apply Di | with_reducible apply Dl | with_reducible apply D6 | (rw [Ch]; with_reducible exact Le.refl _) | intro _
def Jo (s0_ReplicaID:Int)(s0_ReplicaMany:Int)(s0_ReplicaTerm:Int)(s0_ReplicaVote:Int)(s0_ReplicaLog:List Record)(s0_ReplicaRole:Int)(s0_ReplicaCommit:Int)(l:List Bool)(l1:List Int):R Int:=
 (Eg l1).bind fun _=>
 (Ih l1).bind fun l2=>
 (C5 l2 (IntKind.wrap .i64 (Int.tdiv (IntKind.wrap .i64 ((l2.length:Int) - 1)) 2))).bind fun a=>
 if(decide (a > s0_ReplicaCommit)) then
((C5 s0_ReplicaLog (IntKind.wrap .i64 (a - 1))).bind fun a1=>
 Ea s0_ReplicaCommit a (a1.Term==s0_ReplicaTerm))
else
(Ea s0_ReplicaCommit a false)
theorem Ot (s0_ReplicaID:Int)(s0_ReplicaMany:Int)(s0_ReplicaTerm:Int)(s0_ReplicaVote:Int)(s0_ReplicaLog:List Record)(s0_ReplicaRole:Int)(s0_ReplicaCommit:Int)(l:List Bool)(l1:List Int):Le (Jo s0_ReplicaID s0_ReplicaMany s0_ReplicaTerm s0_ReplicaVote s0_ReplicaLog s0_ReplicaRole s0_ReplicaCommit l l1) (Ef s0_ReplicaID s0_ReplicaMany s0_ReplicaTerm s0_ReplicaVote s0_ReplicaLog s0_ReplicaRole s0_ReplicaCommit l l1):=by
 unfold Jo Ef
 repeat' first | with_reducible exact Le.refl _ | with_reducible exact hW .. | with_reducible exact La .. | with_reducible apply C7 | with_reducible apply Cy | with_reducible apply Dm | with_reducible apply C4 | with_reducible apply Cm | with_reducible apply Cq | with_reducible apply Dk | with_reducible apply Dh | with_reducible apply Dn | with_reducible apply Di | with_reducible apply Dl | with_reducible apply D6 | (rw [Ch]; with_reducible exact Le.refl _) | intro _
def Oa (m:Message)(s_ReplicaID:Int)(s_ReplicaMany:Int)(s_ReplicaTerm:Int)(s_ReplicaVote:Int)(s_ReplicaLog:List Record)(s_ReplicaRole:Int)(s_ReplicaCommit:Int)(s_ReplicaMatch:List Int):R (List Message):=
 (Tv 64 (D4 fun x l=>Hb m s_ReplicaID s_ReplicaMany s_ReplicaTerm s_ReplicaVote s_ReplicaLog s_ReplicaRole s_ReplicaCommit s_ReplicaMatch x l) (0,[])).bind (fun l1=>It l1)
theorem Vk (m:Message)(s_ReplicaID:Int)(s_ReplicaMany:Int)(s_ReplicaTerm:Int)(s_ReplicaVote:Int)(s_ReplicaLog:List Record)(s_ReplicaRole:Int)(s_ReplicaCommit:Int)(s_ReplicaMatch:List Int):Le (Oa m s_ReplicaID s_ReplicaMany s_ReplicaTerm s_ReplicaVote s_ReplicaLog s_ReplicaRole s_ReplicaCommit s_ReplicaMatch) (Fj m s_ReplicaID s_ReplicaMany s_ReplicaTerm s_ReplicaVote s_ReplicaLog s_ReplicaRole s_ReplicaCommit s_ReplicaMatch):=by
 unfold Oa Fj
 repeat' first | with_reducible exact Le.refl _ | with_reducible exact hW .. | with_reducible apply C7 | with_reducible apply Cy | with_reducible apply Dm | with_reducible apply C4 | with_reducible apply Cm | with_reducible apply Cq | with_reducible apply Dk | with_reducible apply Dh | with_reducible apply Dn | with_reducible apply Di | with_reducible apply Dl | with_reducible apply D6 | (rw [Ch]; with_reducible exact Le.refl _) | intro _
def Ks (s_ReplicaID:Int)(s_ReplicaMany:Int)(s_ReplicaTerm:Int)(s_ReplicaVote:Int)(s_ReplicaLog:List Record)(s_ReplicaRole:Int)(s_ReplicaCommit:Int)(s_ReplicaMatch:List Int):R (List Message):=
 (Oa ({ Kind:=3,From:=0,To:=0,Term:=0,Last:=0,LastTerm:=0,Log:=s_ReplicaLog,Commit:=s_ReplicaCommit,Match:=0,Granted:=false }:Message) s_ReplicaID s_ReplicaMany s_ReplicaTerm s_ReplicaVote s_ReplicaLog s_ReplicaRole s_ReplicaCommit s_ReplicaMatch).bind fun r=>
 .ok r
theorem Qd (s_ReplicaID:Int)(s_ReplicaMany:Int)(s_ReplicaTerm:Int)(s_ReplicaVote:Int)(s_ReplicaLog:List Record)(s_ReplicaRole:Int)(s_ReplicaCommit:Int)(s_ReplicaMatch:List Int):Le (Ks s_ReplicaID s_ReplicaMany s_ReplicaTerm s_ReplicaVote s_ReplicaLog s_ReplicaRole s_ReplicaCommit s_ReplicaMatch) (F3 s_ReplicaID s_ReplicaMany s_ReplicaTerm s_ReplicaVote s_ReplicaLog s_ReplicaRole s_ReplicaCommit s_ReplicaMatch):=by
 unfold Ks F3
 repeat' first | with_reducible exact Le.refl _ | with_reducible exact hW .. | with_reducible exact Vk .. | with_reducible apply C7 | with_reducible apply Cy | with_reducible apply Dm | with_reducible apply C4 | with_reducible apply Cm | with_reducible apply Cq | with_reducible apply Dk | with_reducible apply Dh | with_reducible apply Dn | with_reducible apply Di | with_reducible apply Dl | with_reducible apply D6 | (rw [Ch]; with_reducible exact Le.refl _) | intro _
def Lo (s0_ReplicaID:Int)(s0_ReplicaMany:Int)(s0_ReplicaTerm:Int)(s0_ReplicaVote:Int)(s0_ReplicaLog:List Record)(s0_ReplicaCommit:Int)(l:List Bool)(l1:List Int):R (Int×(List Int)×(List Message)):=
 (C5 l1 s0_ReplicaID).bind fun a=>
 (Jo s0_ReplicaID s0_ReplicaMany s0_ReplicaTerm s0_ReplicaVote s0_ReplicaLog 2 s0_ReplicaCommit l (l1.set s0_ReplicaID.toNat (s0_ReplicaLog.length:Int))).bind fun r=>
 (Ks s0_ReplicaID s0_ReplicaMany s0_ReplicaTerm s0_ReplicaVote s0_ReplicaLog 2 r (l1.set s0_ReplicaID.toNat (s0_ReplicaLog.length:Int))).bind fun r1=>
 .ok (r,(l1.set s0_ReplicaID.toNat (s0_ReplicaLog.length:Int)),r1)
theorem S8 (s0_ReplicaID:Int)(s0_ReplicaMany:Int)(s0_ReplicaTerm:Int)(s0_ReplicaVote:Int)(s0_ReplicaLog:List Record)(s0_ReplicaCommit:Int)(l:List Bool)(l1:List Int):Le (Lo s0_ReplicaID s0_ReplicaMany s0_ReplicaTerm s0_ReplicaVote s0_ReplicaLog s0_ReplicaCommit l l1) (Gt s0_ReplicaID s0_ReplicaMany s0_ReplicaTerm s0_ReplicaVote s0_ReplicaLog s0_ReplicaCommit l l1):=by
 unfold Lo Gt
 repeat' first | with_reducible exact Le.refl _ | with_reducible exact hW .. | with_reducible exact Qd .. | with_reducible exact Ot .. | with_reducible apply C7 | with_reducible apply Cy | with_reducible apply Dm | with_reducible apply C4 | with_reducible apply Cm | with_reducible apply Cq | with_reducible apply Dk | with_reducible apply Dh | with_reducible apply Dn | with_reducible apply Di | with_reducible apply Dl | with_reducible apply D6 | (rw [Ch]; with_reducible exact Le.refl _) | intro _
def Nk (s0_ReplicaID:Int)(s0_ReplicaMany:Int)(s0_ReplicaTerm:Int)(s0_ReplicaVote:Int)(s0_ReplicaLog:List Record)(s0_ReplicaRole:Int)(s0_ReplicaCommit:Int)(s0_ReplicaMatch:List Int)(l:List Bool):R (Int×(List Int)×(List Message)):=
 if(0:Int)≤s0_ReplicaMany∧(s0_ReplicaMany:Int)≤s0_ReplicaMany∧(Int.toNat s0_ReplicaMany) * 8≤B5 then
 Lo s0_ReplicaID s0_ReplicaMany s0_ReplicaTerm s0_ReplicaVote s0_ReplicaLog s0_ReplicaCommit l (List.replicate (Int.toNat s0_ReplicaMany) (0:Int)) else .bad
theorem Um (s0_ReplicaID:Int)(s0_ReplicaMany:Int)(s0_ReplicaTerm:Int)(s0_ReplicaVote:Int)(s0_ReplicaLog:List Record)(s0_ReplicaRole:Int)(s0_ReplicaCommit:Int)(s0_ReplicaMatch:List Int)(l:List Bool):Le (Nk s0_ReplicaID s0_ReplicaMany s0_ReplicaTerm s0_ReplicaVote s0_ReplicaLog s0_ReplicaRole s0_ReplicaCommit s0_ReplicaMatch l) (E7 s0_ReplicaID s0_ReplicaMany s0_ReplicaTerm s0_ReplicaVote s0_ReplicaLog s0_ReplicaRole s0_ReplicaCommit s0_ReplicaMatch l):=by
 unfold Nk E7
 repeat' first | with_reducible exact Le.refl _ | with_reducible exact hW .. | with_reducible exact S8 .. | with_reducible apply C7 | with_reducible apply Cy | with_reducible apply Dm | with_reducible apply C4 | with_reducible apply Cm | with_reducible apply Cq | with_reducible apply Dk | with_reducible apply Dh | with_reducible apply Dn | with_reducible apply Di | with_reducible apply Dl | with_reducible apply D6 | (rw [Ch]; with_reducible exact Le.refl _) | intro _
def H1 (m:Message)(s_Replica:Replica)(x:Bool):R (Int×Int×(List Bool)×(List Int)×(List Message)):=
 if x then
(.ok (s_Replica.Role,s_Replica.Commit,s_Replica.Votes,s_Replica.Match,[]))
else
((M6 s_Replica.Votes).bind fun r=>
 (C5 r m.From).bind fun a=>
 (Fy (fun j _=>D4 fun n x2=>Ig j n x2) 0 (r.set m.From.toNat true) (0,(r.set m.From.toNat true))).bind ((D4 fun n x2=>if(IntKind.wrap .i64 (2 * n)) > s_Replica.Many then
((Nk s_Replica.ID s_Replica.Many s_Replica.Term s_Replica.Vote s_Replica.Log s_Replica.Role s_Replica.Commit s_Replica.Match x2).bind fun r1=>
 .ok (2,r1.1,x2,r1.2.1,r1.2.2))
else
(.ok (s_Replica.Role,s_Replica.Commit,x2,s_Replica.Match,[])))))
theorem Tb (m:Message)(s_Replica:Replica)(x:Bool):Le (H1 m s_Replica x) (Fr m s_Replica x):=by
 unfold H1 Fr
 repeat' first | with_reducible exact Le.refl _ | with_reducible exact hW .. | with_reducible exact Um .. | with_reducible apply C7 | with_reducible apply Cy | with_reducible apply Dm | with_reducible apply C4 | with_reducible apply Cm | with_reducible apply Cq | with_reducible apply Dk | with_reducible apply Dh | with_reducible apply Dn | with_reducible apply Di | with_reducible apply Dl | with_reducible apply D6 | (rw [Ch]; with_reducible exact Le.refl _) | intro _
def Nh (m:Message)(s_Replica:Replica):R (Int×Int×(List Bool)×(List Int)×(List Message)):=
 if(s_Replica.Role != 1) then
(H1 m s_Replica true)
else
(if(m.Term != s_Replica.Term) then
(H1 m s_Replica true)
else
(H1 m s_Replica (!m.Granted)))
theorem Uk (m:Message)(s_Replica:Replica):Le (Nh m s_Replica) (H2 m s_Replica):=by
 unfold Nh H2
 repeat' first | with_reducible exact Le.refl _ | with_reducible exact hW .. | with_reducible exact Tb .. | with_reducible apply C7 | with_reducible apply Cy | with_reducible apply Dm | with_reducible apply C4 | with_reducible apply Cm | with_reducible apply Cq | with_reducible apply Dk | with_reducible apply Dh | with_reducible apply Dn | with_reducible apply Di | with_reducible apply Dl | with_reducible apply D6 | (rw [Ch]; with_reducible exact Le.refl _) | intro _
def Qj {σ_ ε_:Type}(b:List Record)(c:List Record)(b_:Record→Record→σ_→R (σ_ ⊕ ε_))(s_:σ_):R (σ_ ⊕ ε_):=
 (Tv 64 (D4 fun x s=>J1 b c b_ x s) (0,s_)).bind (Ga (fun s2=>J5 s2) (fun r=>.ok r))
theorem Xl {σ_ ε_:Type}(b:List Record)(c:List Record)(b_:Record→Record→σ_→R (σ_ ⊕ ε_))(s_:σ_):Le (Qj b c b_ s_) (Kb b c b_ s_):=by
 unfold Qj Kb
 repeat' first | with_reducible exact Le.refl _ | with_reducible exact hW .. | with_reducible apply C7 | with_reducible apply Cy | with_reducible apply Dm | with_reducible apply C4 | with_reducible apply Cm | with_reducible apply Cq | with_reducible apply Dk | with_reducible apply Dh | with_reducible apply Dn | with_reducible apply Di | with_reducible apply Dl | with_reducible apply D6 | (rw [Ch]; with_reducible exact Le.refl _) | intro _
def Pe (a:List Record)(b:List Record):R Bool:=
 (Me a b).bind fun _=>
 (Qj a b (fun a1 a2 z_=>R.np ((fun _=>M5 a1 a2) z_)) ()).bind (Ga (fun _=>.ok (decide ((a.length:Int)≤(b.length:Int)))) (fun _=>.ok false))
theorem Za (a:List Record)(b:List Record):Le (Pe a b) (Ld a b):=by
 unfold Pe Ld
 repeat' first | with_reducible exact Le.refl _ | with_reducible exact hW .. | with_reducible exact Xl .. | with_reducible apply C7 | with_reducible apply Cy | with_reducible apply Dm | with_reducible apply C4 | with_reducible apply Cm | with_reducible apply Cq | with_reducible apply Dk | with_reducible apply Dh | with_reducible apply Dn | with_reducible apply Di | with_reducible apply Dl | with_reducible apply D6 | (rw [Ch]; with_reducible exact Le.refl _) | intro _
def L1 (m:Message)(s_Replica:Replica):R ((List Record)×Int×Int×(List Bool)×(List Int)×(List Message)):=
 if m.Term<s_Replica.Term then
((H7 m.From 4 0 0 0 0 0 0 0 false s_Replica).bind fun r=>
 .ok (s_Replica.Log,s_Replica.Role,s_Replica.Commit,s_Replica.Votes,s_Replica.Match,r))
else
(if(s_Replica.Role==2) then
(.ok (s_Replica.Log,s_Replica.Role,s_Replica.Commit,s_Replica.Votes,s_Replica.Match,[]))
else
((Cp s_Replica).bind fun r1=>
 (Pe m.Log s_Replica.Log).bind fun r2=>
 if r2 then
(F8 m s_Replica r1 s_Replica.Log)
else
(if(0:Int)≤s_Replica.Commit∧s_Replica.Commit≤(s_Replica.Log.length:Int) then
 (Pe (s_Replica.Log.take (Int.toNat s_Replica.Commit)) m.Log).bind fun r3=>
 (Bj r3 470).bind fun _=>
 F8 m s_Replica r1 m.Log else .bad)))
theorem Tm (m:Message)(s_Replica:Replica):Le (L1 m s_Replica) (Hh m s_Replica):=by
 unfold L1 Hh
 repeat' first | with_reducible exact Le.refl _ | with_reducible exact hW .. | with_reducible exact Za .. | with_reducible apply C7 | with_reducible apply Cy | with_reducible apply Dm | with_reducible apply C4 | with_reducible apply Cm | with_reducible apply Cq | with_reducible apply Dk | with_reducible apply Dh | with_reducible apply Dn | with_reducible apply Di | with_reducible apply Dl | with_reducible apply D6 | (rw [Ch]; with_reducible exact Le.refl _) | intro _
def Ll (s0_ReplicaID:Int)(s0_ReplicaMany:Int)(s0_ReplicaTerm:Int)(s0_ReplicaVote:Int)(s0_ReplicaLog:List Record)(s0_ReplicaRole:Int)(s0_ReplicaCommit:Int)(s0_ReplicaVotes:List Bool)(l:List Int):R Replica:=
 (Eg l).bind fun _=>
 (Ih l).bind fun l1=>
 (C5 l1 (IntKind.wrap .i64 (Int.tdiv (IntKind.wrap .i64 ((l1.length:Int) - 1)) 2))).bind fun a=>
 if(decide (a > s0_ReplicaCommit)) then
((C5 s0_ReplicaLog (IntKind.wrap .i64 (a - 1))).bind fun a1=>
 Fs s0_ReplicaID s0_ReplicaMany s0_ReplicaTerm s0_ReplicaVote s0_ReplicaLog s0_ReplicaRole s0_ReplicaCommit s0_ReplicaVotes l a (a1.Term==s0_ReplicaTerm))
else
(Fs s0_ReplicaID s0_ReplicaMany s0_ReplicaTerm s0_ReplicaVote s0_ReplicaLog s0_ReplicaRole s0_ReplicaCommit s0_ReplicaVotes l a false)
theorem S4 (s0_ReplicaID:Int)(s0_ReplicaMany:Int)(s0_ReplicaTerm:Int)(s0_ReplicaVote:Int)(s0_ReplicaLog:List Record)(s0_ReplicaRole:Int)(s0_ReplicaCommit:Int)(s0_ReplicaVotes:List Bool)(l:List Int):Le (Ll s0_ReplicaID s0_ReplicaMany s0_ReplicaTerm s0_ReplicaVote s0_ReplicaLog s0_ReplicaRole s0_ReplicaCommit s0_ReplicaVotes l) (Gr s0_ReplicaID s0_ReplicaMany s0_ReplicaTerm s0_ReplicaVote s0_ReplicaLog s0_ReplicaRole s0_ReplicaCommit s0_ReplicaVotes l):=by
 unfold Ll Gr
 repeat' first | with_reducible exact Le.refl _ | with_reducible exact hW .. | with_reducible exact La .. | with_reducible apply C7 | with_reducible apply Cy | with_reducible apply Dm | with_reducible apply C4 | with_reducible apply Cm | with_reducible apply Cq | with_reducible apply Dk | with_reducible apply Dh | with_reducible apply Dn | with_reducible apply Di | with_reducible apply Dl | with_reducible apply D6 | (rw [Ch]; with_reducible exact Le.refl _) | intro _
def Ic (m:Message)(s_Replica:Replica)(x:Bool):R Replica:=
 if x then
(.ok s_Replica)
else
((Bj (decide (m.Match≤(s_Replica.Log.length:Int))) 470).bind fun _=>
 (I0 s_Replica.Match).bind fun r1=>
 (C5 r1 m.From).bind fun a=>
 (Ll s_Replica.ID s_Replica.Many s_Replica.Term s_Replica.Vote s_Replica.Log s_Replica.Role s_Replica.Commit s_Replica.Votes (r1.set m.From.toNat (if m.Match > a then m.Match else a))).bind fun r2=>
 .ok r2)
theorem Tl (m:Message)(s_Replica:Replica)(x:Bool):Le (Ic m s_Replica x) (F7 m s_Replica x):=by
 unfold Ic F7
 repeat' first | with_reducible exact Le.refl _ | with_reducible exact hW .. | with_reducible exact S4 .. | with_reducible apply C7 | with_reducible apply Cy | with_reducible apply Dm | with_reducible apply C4 | with_reducible apply Cm | with_reducible apply Cq | with_reducible apply Dk | with_reducible apply Dh | with_reducible apply Dn | with_reducible apply Di | with_reducible apply Dl | with_reducible apply D6 | (rw [Ch]; with_reducible exact Le.refl _) | intro _
def Ol (m:Message)(s_Replica:Replica):R Replica:=
 if(s_Replica.Role != 2) then
(Ic m s_Replica true)
else
(if(m.Term != s_Replica.Term) then
(Ic m s_Replica true)
else
(Ic m s_Replica (!m.Granted)))
theorem Ve (m:Message)(s_Replica:Replica):Le (Ol m s_Replica) (In m s_Replica):=by
 unfold Ol In
 repeat' first | with_reducible exact Le.refl _ | with_reducible exact hW .. | with_reducible exact Tl .. | with_reducible apply C7 | with_reducible apply Cy | with_reducible apply Dm | with_reducible apply C4 | with_reducible apply Cm | with_reducible apply Cq | with_reducible apply Dk | with_reducible apply Dh | with_reducible apply Dn | with_reducible apply Di | with_reducible apply Dl | with_reducible apply D6 | (rw [Ch]; with_reducible exact Le.refl _) | intro _
def Lt (m:Message)(vID1:Int)(vMany1:Int)(vTerm1:Int)(vVote1:Int)(vLog1:List Record)(vRole1:Int)(vCommit1:Int)(vVotes1:List Bool)(vMatch1:List Int):R (Replica×(List Message)×Int):=
 if m.Kind=0 then
(.bad)
else
(if m.Kind=1 then
((J2 m ({ ID:=vID1,Many:=vMany1,Term:=vTerm1,Vote:=vVote1,Log:=vLog1,Role:=vRole1,Commit:=vCommit1,Votes:=vVotes1,Match:=vMatch1 }:Replica)).bind fun r10=>
 .ok (r10.1,r10.2,0))
else
(if m.Kind=2 then
((Nh m ({ ID:=vID1,Many:=vMany1,Term:=vTerm1,Vote:=vVote1,Log:=vLog1,Role:=vRole1,Commit:=vCommit1,Votes:=vVotes1,Match:=vMatch1 }:Replica)).bind fun r11=>
 .ok (({ ID:=(({ ID:=vID1,Many:=vMany1,Term:=vTerm1,Vote:=vVote1,Log:=vLog1,Role:=vRole1,Commit:=vCommit1,Votes:=vVotes1,Match:=vMatch1 }:Replica).ID),Many:=(({ ID:=vID1,Many:=vMany1,Term:=vTerm1,Vote:=vVote1,Log:=vLog1,Role:=vRole1,Commit:=vCommit1,Votes:=vVotes1,Match:=vMatch1 }:Replica).Many),Term:=(({ ID:=vID1,Many:=vMany1,Term:=vTerm1,Vote:=vVote1,Log:=vLog1,Role:=vRole1,Commit:=vCommit1,Votes:=vVotes1,Match:=vMatch1 }:Replica).Term),Vote:=(({ ID:=vID1,Many:=vMany1,Term:=vTerm1,Vote:=vVote1,Log:=vLog1,Role:=vRole1,Commit:=vCommit1,Votes:=vVotes1,Match:=vMatch1 }:Replica).Vote),Log:=(({ ID:=vID1,Many:=vMany1,Term:=vTerm1,Vote:=vVote1,Log:=vLog1,Role:=vRole1,Commit:=vCommit1,Votes:=vVotes1,Match:=vMatch1 }:Replica).Log),Role:=r11.1,Commit:=r11.2.1,Votes:=r11.2.2.1,Match:=r11.2.2.2.1 }:Replica),r11.2.2.2.2,0))
else
(if m.Kind=3 then
((L1 m ({ ID:=vID1,Many:=vMany1,Term:=vTerm1,Vote:=vVote1,Log:=vLog1,Role:=vRole1,Commit:=vCommit1,Votes:=vVotes1,Match:=vMatch1 }:Replica)).bind fun r12=>
 .ok (({ ID:=(({ ID:=vID1,Many:=vMany1,Term:=vTerm1,Vote:=vVote1,Log:=vLog1,Role:=vRole1,Commit:=vCommit1,Votes:=vVotes1,Match:=vMatch1 }:Replica).ID),Many:=(({ ID:=vID1,Many:=vMany1,Term:=vTerm1,Vote:=vVote1,Log:=vLog1,Role:=vRole1,Commit:=vCommit1,Votes:=vVotes1,Match:=vMatch1 }:Replica).Many),Term:=(({ ID:=vID1,Many:=vMany1,Term:=vTerm1,Vote:=vVote1,Log:=vLog1,Role:=vRole1,Commit:=vCommit1,Votes:=vVotes1,Match:=vMatch1 }:Replica).Term),Vote:=(({ ID:=vID1,Many:=vMany1,Term:=vTerm1,Vote:=vVote1,Log:=vLog1,Role:=vRole1,Commit:=vCommit1,Votes:=vVotes1,Match:=vMatch1 }:Replica).Vote),Log:=r12.1,Role:=r12.2.1,Commit:=r12.2.2.1,Votes:=r12.2.2.2.1,Match:=r12.2.2.2.2.1 }:Replica),r12.2.2.2.2.2,0))
else
(if m.Kind=4 then
((Ol m ({ ID:=vID1,Many:=vMany1,Term:=vTerm1,Vote:=vVote1,Log:=vLog1,Role:=vRole1,Commit:=vCommit1,Votes:=vVotes1,Match:=vMatch1 }:Replica)).bind fun r13=>
 .ok (r13,[],0))
else
(.bad)))))
theorem Wd (m:Message)(vID1:Int)(vMany1:Int)(vTerm1:Int)(vVote1:Int)(vLog1:List Record)(vRole1:Int)(vCommit1:Int)(vVotes1:List Bool)(vMatch1:List Int):Le (Lt m vID1 vMany1 vTerm1 vVote1 vLog1 vRole1 vCommit1 vVotes1 vMatch1) (Dt m vID1 vMany1 vTerm1 vVote1 vLog1 vRole1 vCommit1 vVotes1 vMatch1):=by
 unfold Lt Dt
 repeat' first | with_reducible exact Le.refl _ | with_reducible exact hW .. | with_reducible exact Uk .. | with_reducible exact Tm .. | with_reducible exact Ve .. | with_reducible apply C7 | with_reducible apply Cy | with_reducible apply Dm | with_reducible apply C4 | with_reducible apply Cm | with_reducible apply Cq | with_reducible apply Dk | with_reducible apply Dh | with_reducible apply Dn | with_reducible apply Di | with_reducible apply Dl | with_reducible apply D6 | (rw [Ch]; with_reducible exact Le.refl _) | intro _
def Pn (r:Replica)(m:Message):R (Replica×(List Message)×Int):=
 (C8 r).bind fun r1=>
 if(r1 != 0) then
(.ok (({ ID:=0,Many:=0,Term:=0,Vote:=0,Log:=[],Role:=0,Commit:=0,Votes:=[],Match:=[] }:Replica),[],r1))
else
((Bv m.Kind 1 4).bind fun r2=>
 (if(r2&&(m.To==r.ID)) then(Bv m.From 0 (IntKind.wrap .i64 (r.Many - 1))).bind fun r3=>
 R.ok r3 else R.ok false).bind (fun(b:Bool)=>(if(b&&(m.From != r.ID)) then(Bv m.Term 1 1048576).bind fun r4=>
 R.ok r4 else R.ok false).bind (fun(b1:Bool)=>(Bj b1 470).bind fun _=>
 (if(decide ((if m.Match<(if m.LastTerm<m.Last then m.LastTerm else m.Last) then m.Match else(if m.LastTerm<m.Last then m.LastTerm else m.Last))≥0)) then(Bv m.Commit 0 (m.Log.length:Int)).bind fun r6=>
 R.ok r6 else R.ok false).bind (fun(b2:Bool)=>(if b2 then(Gh m.Log m.Term).bind fun r7=>
 R.ok r7 else R.ok false).bind (fun(b3:Bool)=>(Bj b3 470).bind fun _=>
 (Dz r).bind fun _=>
 if m.Term > r.Term then
((Cp ({ ID:=r.ID,Many:=r.Many,Term:=m.Term,Vote:=(-1),Log:=r.Log,Role:=r.Role,Commit:=r.Commit,Votes:=r.Votes,Match:=r.Match }:Replica)).bind fun r9=>
 Lt m (({ ID:=r.ID,Many:=r.Many,Term:=m.Term,Vote:=(-1),Log:=r.Log,Role:=r.Role,Commit:=r.Commit,Votes:=r.Votes,Match:=r.Match }:Replica).ID) (({ ID:=r.ID,Many:=r.Many,Term:=m.Term,Vote:=(-1),Log:=r.Log,Role:=r.Role,Commit:=r.Commit,Votes:=r.Votes,Match:=r.Match }:Replica).Many) (({ ID:=r.ID,Many:=r.Many,Term:=m.Term,Vote:=(-1),Log:=r.Log,Role:=r.Role,Commit:=r.Commit,Votes:=r.Votes,Match:=r.Match }:Replica).Term) (({ ID:=r.ID,Many:=r.Many,Term:=m.Term,Vote:=(-1),Log:=r.Log,Role:=r.Role,Commit:=r.Commit,Votes:=r.Votes,Match:=r.Match }:Replica).Vote) (({ ID:=r.ID,Many:=r.Many,Term:=m.Term,Vote:=(-1),Log:=r.Log,Role:=r.Role,Commit:=r.Commit,Votes:=r.Votes,Match:=r.Match }:Replica).Log) 0 (({ ID:=r.ID,Many:=r.Many,Term:=m.Term,Vote:=(-1),Log:=r.Log,Role:=r.Role,Commit:=r.Commit,Votes:=r.Votes,Match:=r.Match }:Replica).Commit) r9.1 r9.2)
else
(Lt m r.ID r.Many r.Term r.Vote r.Log r.Role r.Commit r.Votes r.Match))))))
theorem Wq (r:Replica)(m:Message):Le (Pn r m) (K3 r m):=by
 unfold Pn K3
 repeat' first | with_reducible exact Le.refl _ | with_reducible exact hW .. | with_reducible exact Wd .. | with_reducible apply C7 | with_reducible apply Cy | with_reducible apply Dm | with_reducible apply C4 | with_reducible apply Cm | with_reducible apply Cq | with_reducible apply Dk | with_reducible apply Dh | with_reducible apply Dn | with_reducible apply Di | with_reducible apply Dl | with_reducible apply D6 | (rw [Ch]; with_reducible exact Le.refl _) | intro _
def N8 (r:Replica)(m:Message):R (Replica×(List Message)×Int):=
 (Pn r m).catch' (Id 99 .i64 (fun n=>(En n).bind fun p=>.ok (({ ID:=0,Many:=0,Term:=0,Vote:=0,Log:=[],Role:=0,Commit:=0,Votes:=[],Match:=[] }:Replica),[],p)) (fun _=>.bad))
theorem X2 (r:Replica)(m:Message):Le (N8 r m) (Mm r m):=by
 unfold N8 Mm
 repeat' first | with_reducible exact Le.refl _ | with_reducible exact hW .. | with_reducible exact Wq .. | with_reducible apply C7 | with_reducible apply Cy | with_reducible apply Dm | with_reducible apply C4 | with_reducible apply Cm | with_reducible apply Cq | with_reducible apply Dk | with_reducible apply Dh | with_reducible apply Dn | with_reducible apply Di | with_reducible apply Dl | with_reducible apply D6 | (rw [Ch]; with_reducible exact Le.refl _) | intro _
def Li (s0_ReplicaID:Int)(s0_ReplicaMany:Int)(s0_ReplicaTerm:Int)(s0_ReplicaVote:Int)(s0_ReplicaLog:List Record)(s0_ReplicaCommit:Int)(l:List Bool)(l1:List Int):R (Int×(List Int)×(List Message)):=
 (C5 l1 s0_ReplicaID).bind fun a=>
 (Jo s0_ReplicaID s0_ReplicaMany s0_ReplicaTerm s0_ReplicaVote s0_ReplicaLog 2 s0_ReplicaCommit l (l1.set s0_ReplicaID.toNat (s0_ReplicaLog.length:Int))).bind fun r=>
 (Ks s0_ReplicaID s0_ReplicaMany s0_ReplicaTerm s0_ReplicaVote s0_ReplicaLog 2 r (l1.set s0_ReplicaID.toNat (s0_ReplicaLog.length:Int))).bind fun r1=>
 .ok (r,(l1.set s0_ReplicaID.toNat (s0_ReplicaLog.length:Int)),r1)
theorem S7 (s0_ReplicaID:Int)(s0_ReplicaMany:Int)(s0_ReplicaTerm:Int)(s0_ReplicaVote:Int)(s0_ReplicaLog:List Record)(s0_ReplicaCommit:Int)(l:List Bool)(l1:List Int):Le (Li s0_ReplicaID s0_ReplicaMany s0_ReplicaTerm s0_ReplicaVote s0_ReplicaLog s0_ReplicaCommit l l1) (Ii s0_ReplicaID s0_ReplicaMany s0_ReplicaTerm s0_ReplicaVote s0_ReplicaLog s0_ReplicaCommit l l1):=by
 unfold Li Ii
 repeat' first | with_reducible exact Le.refl _ | with_reducible exact hW .. | with_reducible exact Qd .. | with_reducible exact Ot .. | with_reducible apply C7 | with_reducible apply Cy | with_reducible apply Dm | with_reducible apply C4 | with_reducible apply Cm | with_reducible apply Cq | with_reducible apply Dk | with_reducible apply Dh | with_reducible apply Dn | with_reducible apply Di | with_reducible apply Dl | with_reducible apply D6 | (rw [Ch]; with_reducible exact Le.refl _) | intro _
def No (s0_ReplicaID:Int)(s0_ReplicaMany:Int)(s0_ReplicaTerm:Int)(s0_ReplicaVote:Int)(s0_ReplicaLog:List Record)(s0_ReplicaRole:Int)(s0_ReplicaCommit:Int)(l:List Bool):R (Int×(List Int)×(List Message)):=
 if(0:Int)≤s0_ReplicaMany∧(s0_ReplicaMany:Int)≤s0_ReplicaMany∧(Int.toNat s0_ReplicaMany) * 8≤B5 then
 Li s0_ReplicaID s0_ReplicaMany s0_ReplicaTerm s0_ReplicaVote s0_ReplicaLog s0_ReplicaCommit l (List.replicate (Int.toNat s0_ReplicaMany) (0:Int)) else .bad
theorem U1 (s0_ReplicaID:Int)(s0_ReplicaMany:Int)(s0_ReplicaTerm:Int)(s0_ReplicaVote:Int)(s0_ReplicaLog:List Record)(s0_ReplicaRole:Int)(s0_ReplicaCommit:Int)(l:List Bool):Le (No s0_ReplicaID s0_ReplicaMany s0_ReplicaTerm s0_ReplicaVote s0_ReplicaLog s0_ReplicaRole s0_ReplicaCommit l) (F6 s0_ReplicaID s0_ReplicaMany s0_ReplicaTerm s0_ReplicaVote s0_ReplicaLog s0_ReplicaRole s0_ReplicaCommit l):=by
 unfold No F6
 repeat' first | with_reducible exact Le.refl _ | with_reducible exact hW .. | with_reducible exact S7 .. | with_reducible apply C7 | with_reducible apply Cy | with_reducible apply Dm | with_reducible apply C4 | with_reducible apply Cm | with_reducible apply Cq | with_reducible apply Dk | with_reducible apply Dh | with_reducible apply Dn | with_reducible apply Di | with_reducible apply Dl | with_reducible apply D6 | (rw [Ch]; with_reducible exact Le.refl _) | intro _
def Og (mKind:Int)(mFrom:Int)(mTo:Int)(mTerm:Int)(mLast:Int)(mLastTerm:Int)(mCommit:Int)(mMatch:Int)(mGranted:Bool)(s_ReplicaID:Int)(s_ReplicaMany:Int)(s_ReplicaTerm:Int)(s_ReplicaVote:Int)(s_ReplicaLog:List Record)(s_ReplicaRole:Int)(s_ReplicaCommit:Int):R (List Message):=
 (Tv 64 (D4 fun x l=>Hf mKind mFrom mTo mTerm mLast mLastTerm mCommit mMatch mGranted s_ReplicaID s_ReplicaMany s_ReplicaTerm s_ReplicaVote s_ReplicaLog s_ReplicaRole s_ReplicaCommit x l) (0,[])).bind (fun l1=>Iu l1)
theorem Vh (mKind:Int)(mFrom:Int)(mTo:Int)(mTerm:Int)(mLast:Int)(mLastTerm:Int)(mCommit:Int)(mMatch:Int)(mGranted:Bool)(s_ReplicaID:Int)(s_ReplicaMany:Int)(s_ReplicaTerm:Int)(s_ReplicaVote:Int)(s_ReplicaLog:List Record)(s_ReplicaRole:Int)(s_ReplicaCommit:Int):Le (Og mKind mFrom mTo mTerm mLast mLastTerm mCommit mMatch mGranted s_ReplicaID s_ReplicaMany s_ReplicaTerm s_ReplicaVote s_ReplicaLog s_ReplicaRole s_ReplicaCommit) (Fi mKind mFrom mTo mTerm mLast mLastTerm mCommit mMatch mGranted s_ReplicaID s_ReplicaMany s_ReplicaTerm s_ReplicaVote s_ReplicaLog s_ReplicaRole s_ReplicaCommit):=by
 unfold Og Fi
 repeat' first | with_reducible exact Le.refl _ | with_reducible exact hW .. | with_reducible apply C7 | with_reducible apply Cy | with_reducible apply Dm | with_reducible apply C4 | with_reducible apply Cm | with_reducible apply Cq | with_reducible apply Dk | with_reducible apply Dh | with_reducible apply Dn | with_reducible apply Di | with_reducible apply Dl | with_reducible apply D6 | (rw [Ch]; with_reducible exact Le.refl _) | intro _
def N7 (r:Replica):R (Replica×(List Message)×Int):=
 (C8 r).bind fun e=>
 if(e != 0) then
(.ok (({ ID:=0,Many:=0,Term:=0,Vote:=0,Log:=[],Role:=0,Commit:=0,Votes:=[],Match:=[] }:Replica),[],e))
else
(if(r.Term==1048576) then
(.ok (({ ID:=0,Many:=0,Term:=0,Vote:=0,Log:=[],Role:=0,Commit:=0,Votes:=[],Match:=[] }:Replica),[],2))
else
((Dz r).bind fun _=>
 (Cp r).bind fun r1=>
 (C5 r1.1 r.ID).bind fun a=>
 if(r.Many==1) then
((No r.ID r.Many (IntKind.wrap .i64 (r.Term+1)) r.ID r.Log 1 r.Commit (r1.1.set r.ID.toNat true)).bind fun r2=>
 .ok (({ ID:=r.ID,Many:=r.Many,Term:=(IntKind.wrap .i64 (r.Term+1)),Vote:=r.ID,Log:=r.Log,Role:=2,Commit:=r2.1,Votes:=(r1.1.set r.ID.toNat true),Match:=r2.2.1 }:Replica),r2.2.2,0))
else
((Fv ({ Replica:=({ ID:=r.ID,Many:=r.Many,Term:=(IntKind.wrap .i64 (r.Term+1)),Vote:=r.ID,Log:=r.Log,Role:=1,Commit:=r.Commit,Votes:=(r1.1.set r.ID.toNat true),Match:=r1.2 }:Replica),fSent:=[] }:T61)).bind fun r3=>
 (Og 1 0 0 0 (r.Log.length:Int) r3 0 0 false r.ID r.Many (IntKind.wrap .i64 (r.Term+1)) r.ID r.Log 1 r.Commit).bind fun r4=>
 .ok (({ ID:=r.ID,Many:=r.Many,Term:=(IntKind.wrap .i64 (r.Term+1)),Vote:=r.ID,Log:=r.Log,Role:=1,Commit:=r.Commit,Votes:=(r1.1.set r.ID.toNat true),Match:=r1.2 }:Replica),r4,0))))
theorem Xx (r:Replica):Le (N7 r) (E0 r):=by
 unfold N7 E0
 repeat' first | with_reducible exact Le.refl _ | with_reducible exact hW .. | with_reducible exact Vh .. | with_reducible exact U1 .. | with_reducible apply C7 | with_reducible apply Cy | with_reducible apply Dm | with_reducible apply C4 | with_reducible apply Cm | with_reducible apply Cq | with_reducible apply Dk | with_reducible apply Dh | with_reducible apply Dn | with_reducible apply Di | with_reducible apply Dl | with_reducible apply D6 | (rw [Ch]; with_reducible exact Le.refl _) | intro _
def Q3 (W_:Value→R (Int×Bool))(a:Value)(depth:Int):R (Int ⊕ (Int×Bool)):=
 (W_ a).bind fun r=>
 if r.2 then
(.ok (.inl (if r.1 > depth then r.1 else depth)))
else
(.ok (.inr ((0,false))))
theorem Yk {W' W_:Value→R (Int×Bool)}(hW : ∀ w0,Le (W' w0) (W_ w0))(a:Value)(depth:Int):Le (Q3 W' a depth) (Jq W_ a depth):=by
 unfold Q3 Jq
 repeat' first | with_reducible exact Le.refl _ | with_reducible exact hW .. | with_reducible apply C7 | with_reducible apply Cy | with_reducible apply Dm | with_reducible apply C4 | with_reducible apply Cm | with_reducible apply Cq | with_reducible apply Dk | with_reducible apply Dh | with_reducible apply Dn | with_reducible apply Di | with_reducible apply Dl | with_reducible apply D6 | (rw [Ch]; with_reducible exact Le.refl _) | intro _
def Rk (W_:Value→R (Int×Bool))(v:Value):R (Int×Bool):=
 (if((decide (v.Kind<1))||(decide (v.Kind > 3))) then R.ok true else if(0:Int)≤v.Kind∧v.Kind<4 then
 R.ok (!(Yg (#v[false,((v.S==[])&&((v.L.length:Int)==0)),((v.N==0)&&((v.L.length:Int)==0)),((v.N==0)&&(v.S==[]))]:(Vector Bool 4)) (Int.toNat v.Kind) false)) else .bad).bind (fun(b:Bool)=>if b then
(.ok (0,false))
else
(if v.Kind<3 then
(.ok (0,true))
else
((each (fun _ a=>fun depth=>Q3 W_ a depth) 0 v.L 0).bind (Ga (fun depth=>.ok ((IntKind.wrap .i64 (depth+1)),true)) (fun r=>.ok r)))))
theorem Y2 {W' W_:Value→R (Int×Bool)}(hW : ∀ w0,Le (W' w0) (W_ w0))(v:Value):Le (Rk W' v) (Nr W_ v):=by
 unfold Rk Nr
 repeat' first | with_reducible exact Le.refl _ | with_reducible exact hW .. | with_reducible exact Yk (by assumption) .. | with_reducible apply C7 | with_reducible apply Cy | with_reducible apply Dm | with_reducible apply C4 | with_reducible apply Cm | with_reducible apply Cq | with_reducible apply Dk | with_reducible apply Dh | with_reducible apply Dn | with_reducible apply Di | with_reducible apply Dl | with_reducible apply D6 | (rw [Ch]; with_reducible exact Le.refl _) | intro _
def Rx:Nat→Value→R (Int×Bool)
 | 0,_=>.bad
 | n+1,v=>Rk (Rx n) v
theorem Th : ∀ (n k:Nat) a0,Le (Rx n a0) (Ng (n+k) a0)
 | 0,k,a0=>.inl rfl
 | n+1,k,a0=>by
  rw [show n+1+k=(n+k)+1 by omega]
  exact Y2 (fun a0=>Th n k a0) a0
def S1 (v:Value):R (Int×Bool):=Rx 16 v
theorem Aaw (v:Value):Le (S1 v) (Rm v):=by
 unfold S1 Rm
 rw [Ab8]
 exact Th 16 (4000000 - 16) v
def T2 (v:Value):R Int:=
 (S1 v).bind fun r=>
 if r.2 then
(if r.1 > 16 then
(.ok 2)
else
(.ok 0))
else
(.ok 1)
theorem Ab3 (v:Value):Le (T2 v) (Qr v):=by
 unfold T2 Qr
 repeat' first | with_reducible exact Le.refl _ | with_reducible exact hW .. | with_reducible exact Aaw .. | with_reducible apply C7 | with_reducible apply Cy | with_reducible apply Dm | with_reducible apply C4 | with_reducible apply Cm | with_reducible apply Cq | with_reducible apply Dk | with_reducible apply Dh | with_reducible apply Dn | with_reducible apply Di | with_reducible apply Dl | with_reducible apply D6 | (rw [Ch]; with_reducible exact Le.refl _) | intro _
def Ka (u:Int)(l:List Int):R (List Int):=
 (Tv 64 (D4 fun u1 b=>Kg u1 b) (u,l)).bind (D4 fun u2 b1=>Kk u2 b1)
theorem Mi (u:Int)(l:List Int):Le (Ka u l) (Hq u l):=by
 unfold Ka Hq
 repeat' first | with_reducible exact Le.refl _ | with_reducible exact hW .. | with_reducible apply C7 | with_reducible apply Cy | with_reducible apply Dm | with_reducible apply C4 | with_reducible apply Cm | with_reducible apply Cq | with_reducible apply Dk | with_reducible apply Dh | with_reducible apply Dn | with_reducible apply Di | with_reducible apply Dl | with_reducible apply D6 | (rw [Ch]; with_reducible exact Le.refl _) | intro _
def Ja (v1:Value)(l:List Int):R (List Int):=
 if(l.length+[1].length) * 1≤B5 then
 (Ps v1.N).bind fun r=>
 (Ka r (l++[1])).bind fun r1=>
 .ok r1 else .bad
theorem Lx (v1:Value)(l:List Int):Le (Ja v1 l) (F0 v1 l):=by
 unfold Ja F0
 repeat' first | with_reducible exact Le.refl _ | with_reducible exact hW .. | with_reducible exact Mi .. | with_reducible apply C7 | with_reducible apply Cy | with_reducible apply Dm | with_reducible apply C4 | with_reducible apply Cm | with_reducible apply Cq | with_reducible apply Dk | with_reducible apply Dh | with_reducible apply Dn | with_reducible apply Di | with_reducible apply Dl | with_reducible apply D6 | (rw [Ch]; with_reducible exact Le.refl _) | intro _
def I7 (v1:Value)(l:List Int):R (List Int):=
 if(l.length+[2].length) * 1≤B5 then
 (Ka (IntKind.wrap .u64 (v1.S.length:Int)) (l++[2])).bind fun r=>
 if(r.length+(G0 v1.S).length) * 1≤B5 then
 .ok (r++(G0 v1.S)) else .bad else .bad
theorem L4 (v1:Value)(l:List Int):Le (I7 v1 l) (Fx v1 l):=by
 unfold I7 Fx
 repeat' first | with_reducible exact Le.refl _ | with_reducible exact hW .. | with_reducible exact Mi .. | with_reducible apply C7 | with_reducible apply Cy | with_reducible apply Dm | with_reducible apply C4 | with_reducible apply Cm | with_reducible apply Cq | with_reducible apply Dk | with_reducible apply Dh | with_reducible apply Dn | with_reducible apply Di | with_reducible apply Dl | with_reducible apply D6 | (rw [Ch]; with_reducible exact Le.refl _) | intro _
def Lh (W_:Value→(List Int)→R (List Int))(a:Value)(b1:List Int):R (List Int):=
 if a.Kind=0 then
(.bad)
else
(if a.Kind=1 then
((Ja a b1).bind fun b2=>
 .ok b2)
else
(if a.Kind=2 then
((I7 a b1).bind fun b3=>
 .ok b3)
else
(if a.Kind=3 then
((W_ a b1).bind fun b4=>
 .ok b4)
else
(.bad))))
theorem Sz {W' W_:Value→(List Int)→R (List Int)}(hW : ∀ w0 w1,Le (W' w0 w1) (W_ w0 w1))(a:Value)(b1:List Int):Le (Lh W' a b1) (Gu W_ a b1):=by
 unfold Lh Gu
 repeat' first | with_reducible exact Le.refl _ | with_reducible exact hW .. | with_reducible exact L4 .. | with_reducible exact Lx .. | with_reducible apply C7 | with_reducible apply Cy | with_reducible apply Dm | with_reducible apply C4 | with_reducible apply Cm | with_reducible apply Cq | with_reducible apply Dk | with_reducible apply Dh | with_reducible apply Dn | with_reducible apply Di | with_reducible apply Dl | with_reducible apply D6 | (rw [Ch]; with_reducible exact Le.refl _) | intro _
def L3 (W_:Value→(List Int)→R (List Int))(v1:Value)(l:List Int):R (List Int):=
 if(l.length+[3].length) * 1≤B5 then
 (Ka (IntKind.wrap .u64 (v1.L.length:Int)) (l++[3])).bind fun b=>
 (Fy (fun _ a=>fun b1=>Lh W_ a b1) 0 v1.L b).bind ((fun b1=>.ok b1)) else .bad
theorem Tw {W' W_:Value→(List Int)→R (List Int)}(hW : ∀ w0 w1,Le (W' w0 w1) (W_ w0 w1))(v1:Value)(l:List Int):Le (L3 W' v1 l) (Hd W_ v1 l):=by
 unfold L3 Hd
 repeat' first | with_reducible exact Le.refl _ | with_reducible exact hW .. | with_reducible exact Sz (by assumption) .. | with_reducible exact Mi .. | with_reducible apply C7 | with_reducible apply Cy | with_reducible apply Dm | with_reducible apply C4 | with_reducible apply Cm | with_reducible apply Cq | with_reducible apply Dk | with_reducible apply Dh | with_reducible apply Dn | with_reducible apply Di | with_reducible apply Dl | with_reducible apply D6 | (rw [Ch]; with_reducible exact Le.refl _) | intro _
def Lw:Nat→Value→(List Int)→R (List Int)
 | 0,_,_=>.bad
 | n+1,v1,l=>L3 (Lw n) v1 l
theorem Pa : ∀ (n k:Nat) a0 a1,Le (Lw n a0 a1) (He (n+k) a0 a1)
 | 0,k,a0,a1=>.inl rfl
 | n+1,k,a0,a1=>by
  rw [show n+1+k=(n+k)+1 by omega]
  exact Tw (fun a0 a1=>Pa n k a0 a1) a0 a1
def Np (v1:Value)(l:List Int):R (List Int):=Lw 16 v1 l
theorem Uo (v1:Value)(l:List Int):Le (Np v1 l) (Ju v1 l):=by
 unfold Np Ju
 rw [Ab8]
 exact Pa 16 (4000000 - 16) v1 l
def My (a:Value)(b1:List Int):R (List Int):=
 if a.Kind=0 then
(.bad)
else
(if a.Kind=1 then
((Ja a b1).bind fun b2=>
 .ok b2)
else
(if a.Kind=2 then
((I7 a b1).bind fun b3=>
 .ok b3)
else
(if a.Kind=3 then
((Np a b1).bind fun b4=>
 .ok b4)
else
(.bad))))
theorem T3 (a:Value)(b1:List Int):Le (My a b1) (Hw a b1):=by
 unfold My Hw
 repeat' first | with_reducible exact Le.refl _ | with_reducible exact hW .. | with_reducible exact L4 .. | with_reducible exact Lx .. | with_reducible exact Uo .. | with_reducible apply C7 | with_reducible apply Cy | with_reducible apply Dm | with_reducible apply C4 | with_reducible apply Cm | with_reducible apply Cq | with_reducible apply Dk | with_reducible apply Dh | with_reducible apply Dn | with_reducible apply Di | with_reducible apply Dl | with_reducible apply D6 | (rw [Ch]; with_reducible exact Le.refl _) | intro _
def O2 (v1:Value):R (List Int):=
 if [3].length * 1≤B5 then
 (Ka (IntKind.wrap .u64 (v1.L.length:Int)) [3]).bind fun b=>
 (Fy (fun _ a=>fun b1=>My a b1) 0 v1.L b).bind ((fun b1=>.ok b1)) else .bad
theorem V1 (v1:Value):Le (O2 v1) (Jf v1):=by
 unfold O2 Jf
 repeat' first | with_reducible exact Le.refl _ | with_reducible exact hW .. | with_reducible exact T3 .. | with_reducible exact Mi .. | with_reducible apply C7 | with_reducible apply Cy | with_reducible apply Dm | with_reducible apply C4 | with_reducible apply Cm | with_reducible apply Cq | with_reducible apply Dk | with_reducible apply Dh | with_reducible apply Dn | with_reducible apply Di | with_reducible apply Dl | with_reducible apply D6 | (rw [Ch]; with_reducible exact Le.refl _) | intro _
def Qv (v:Value):R ((List Int)×Int):=
 (T2 v).bind fun e=>
 if(e != 0) then
(.ok ([],e))
else
((K7).bind fun _=>
 if v.Kind=0 then
(.bad)
else
(if v.Kind=1 then
((Ja v []).bind fun b=>
 .ok (b,0))
else
(if v.Kind=2 then
((I7 v []).bind fun b1=>
 .ok (b1,0))
else
(if v.Kind=3 then
((O2 v).bind fun b2=>
 .ok (b2,0))
else
(.bad)))))
theorem U4 (v:Value):Le (Qv v) (M9 v):=by
 unfold Qv M9
 repeat' first | with_reducible exact Le.refl _ | with_reducible exact hW .. | with_reducible exact L4 .. | with_reducible exact Ab3 .. | with_reducible exact Lx .. | with_reducible exact V1 .. | with_reducible apply C7 | with_reducible apply Cy | with_reducible apply Dm | with_reducible apply C4 | with_reducible apply Cm | with_reducible apply Cq | with_reducible apply Dk | with_reducible apply Dh | with_reducible apply Dn | with_reducible apply Di | with_reducible apply Dl | with_reducible apply D6 | (rw [Ch]; with_reducible exact Le.refl _) | intro _
def Mp (m:Message)(l:List Value)(granted:Int):R ((List Int)×Int):=
 (Dd m.Kind).bind fun r1=>
 (Dd m.From).bind fun r2=>
 (Dd m.To).bind fun r3=>
 (Dd m.Term).bind fun r4=>
 (Dd m.Last).bind fun r5=>
 (Dd m.LastTerm).bind fun r6=>
 (Dd m.Commit).bind fun r7=>
 (Dd m.Match).bind fun r8=>
 (Dd granted).bind fun r9=>
 (Qv ({ Kind:=3,N:=0,S:=[],L:=[r1,r2,r3,r4,r5,r6,({ Kind:=3,N:=0,S:=[],L:=l }:Value),r7,r8,r9] }:Value)).bind fun r10=>
 .ok (r10.1,r10.2)
theorem W1 (m:Message)(l:List Value)(granted:Int):Le (Mp m l granted) (Hi m l granted):=by
 unfold Mp Hi
 repeat' first | with_reducible exact Le.refl _ | with_reducible exact hW .. | with_reducible exact U4 .. | with_reducible apply C7 | with_reducible apply Cy | with_reducible apply Dm | with_reducible apply C4 | with_reducible apply Cm | with_reducible apply Cq | with_reducible apply Dk | with_reducible apply Dh | with_reducible apply Dn | with_reducible apply Di | with_reducible apply Dl | with_reducible apply D6 | (rw [Ch]; with_reducible exact Le.refl _) | intro _
def Rq (m:Message):R ((List Int)×Int):=
 (Fy (fun _ a=>fun l=>K6 a l) 0 m.Log []).bind ((fun l=>if m.Granted then
(Mp m l 1)
else
(Mp m l 0)))
theorem Y6 (m:Message):Le (Rq m) (Na m):=by
 unfold Rq Na
 repeat' first | with_reducible exact Le.refl _ | with_reducible exact hW .. | with_reducible exact W1 .. | with_reducible apply C7 | with_reducible apply Cy | with_reducible apply Dm | with_reducible apply C4 | with_reducible apply Cm | with_reducible apply Cq | with_reducible apply Dk | with_reducible apply Dh | with_reducible apply Dn | with_reducible apply Di | with_reducible apply Dl | with_reducible apply D6 | (rw [Ch]; with_reducible exact Le.refl _) | intro _
def Lb (s:T102):R (Int×T102):=
 (Tv 64 (Lv fun u i fRest=>Ir u i fRest) (0,0,s.fRest)).bind (fun r=>.ok r)
theorem Ql (s:T102):Le (Lb s) (Hk s):=by
 unfold Lb Hk
 repeat' first | with_reducible exact Le.refl _ | with_reducible exact hW .. | with_reducible apply C7 | with_reducible apply Cy | with_reducible apply Dm | with_reducible apply C4 | with_reducible apply Cm | with_reducible apply Cq | with_reducible apply Dk | with_reducible apply Dh | with_reducible apply Dn | with_reducible apply Di | with_reducible apply Dl | with_reducible apply D6 | (rw [Ch]; with_reducible exact Le.refl _) | intro _
def K9 (s:T102):R (Int×T102):=
 (Lb s).bind fun n=>
 (Em n.2 (decide (n.1≤(IntKind.wrap .u64 (n.2.fRest.length:Int))))).bind fun _=>
 .ok ((IntKind.wrap .i64 n.1),n.2)
theorem Vo (s:T102):Le (K9 s) (Hm s):=by
 unfold K9 Hm
 repeat' first | with_reducible exact Le.refl _ | with_reducible exact hW .. | with_reducible exact Ql .. | with_reducible apply C7 | with_reducible apply Cy | with_reducible apply Dm | with_reducible apply C4 | with_reducible apply Cm | with_reducible apply Cq | with_reducible apply Dk | with_reducible apply Dh | with_reducible apply Dn | with_reducible apply Di | with_reducible apply Dl | with_reducible apply D6 | (rw [Ch]; with_reducible exact Le.refl _) | intro _
def M4 (depth:Int)(W_:Int→T102→R (Value×T102))(r6:(Int×T102))(x:Int)(o:T102)(l:List Value):R ((Int×T102×(List Value)) ⊕ (T102×(List Value))):=
 if x<r6.1 then
((W_ (IntKind.wrap .i64 (depth+1)) o).bind fun r7=>
 if(l.length+[r7.1].length) * 56≤B5 then
 .ok (.inl ((IntKind.wrap .i64 (x+1)),r7.2,(l++[r7.1]))) else .bad)
else
(.ok (.inr ((o,l))))
theorem Uj {W' W_:Int→T102→R (Value×T102)}(hW : ∀ w0 w1,Le (W' w0 w1) (W_ w0 w1))(depth:Int)(r6:(Int×T102))(x:Int)(o:T102)(l:List Value):Le (M4 depth W' r6 x o l) (Hu depth W_ r6 x o l):=by
 unfold M4 Hu
 repeat' first | with_reducible exact Le.refl _ | with_reducible exact hW .. | with_reducible apply C7 | with_reducible apply Cy | with_reducible apply Dm | with_reducible apply C4 | with_reducible apply Cm | with_reducible apply Cq | with_reducible apply Dk | with_reducible apply Dh | with_reducible apply Dn | with_reducible apply Di | with_reducible apply Dl | with_reducible apply D6 | (rw [Ch]; with_reducible exact Le.refl _) | intro _
def Nw (W_:Int→T102→R (Value×T102))(depth:Int)(s:T102):R (Value×T102):=
 (Hj 1 s).bind fun _=>
 (C5 (s.fRest.take 1) 0).bind fun a=>
 if((IntKind.wrap .i64 a)==1) then
((Lb ({ fRest:=(s.fRest.drop 1) }:T102)).bind fun r1=>
 (Rl r1.1).bind fun r2=>
 .ok (({ Kind:=(IntKind.wrap .i64 a),N:=r2,S:=[],L:=[] }:Value),r1.2))
else
(if((IntKind.wrap .i64 a)==2) then
((K9 ({ fRest:=(s.fRest.drop 1) }:T102)).bind fun r3=>
 (Hj r3.1 r3.2).bind fun _=>
 .ok (({ Kind:=(IntKind.wrap .i64 a),N:=0,S:=(C0 (r3.2.fRest.take (Int.toNat r3.1))),L:=[] }:Value),({ fRest:=(r3.2.fRest.drop (Int.toNat r3.1)) }:T102)))
else
(if((IntKind.wrap .i64 a)==3) then
((Em ({ fRest:=(s.fRest.drop 1) }:T102) (decide (depth<16))).bind fun _=>
 (K9 ({ fRest:=(s.fRest.drop 1) }:T102)).bind fun r6=>
 (Tv 64 (Lv fun x o l=>M4 depth W_ r6 x o l) (0,r6.2,[])).bind (D4 fun o1 l1=>I9 a o1 l1))
else
((Em ({ fRest:=(s.fRest.drop 1) }:T102) false).bind fun _=>
 .ok (({ Kind:=(IntKind.wrap .i64 a),N:=0,S:=[],L:=[] }:Value),({ fRest:=(s.fRest.drop 1) }:T102)))))
theorem Ux {W' W_:Int→T102→R (Value×T102)}(hW : ∀ w0 w1,Le (W' w0 w1) (W_ w0 w1))(depth:Int)(s:T102):Le (Nw W' depth s) (Ib W_ depth s):=by
 unfold Nw Ib
 repeat' first | with_reducible exact Le.refl _ | with_reducible exact hW .. | with_reducible exact Uj (by assumption) .. | with_reducible exact Ql .. | with_reducible exact Vo .. | with_reducible apply C7 | with_reducible apply Cy | with_reducible apply Dm | with_reducible apply C4 | with_reducible apply Cm | with_reducible apply Cq | with_reducible apply Dk | with_reducible apply Dh | with_reducible apply Dn | with_reducible apply Di | with_reducible apply Dl | with_reducible apply D6 | (rw [Ch]; with_reducible exact Le.refl _) | intro _
def Nf:Nat→Int→T102→R (Value×T102)
 | 0,_,_=>.bad
 | n+1,depth,s=>Nw (Nf n) depth s
theorem Qa : ∀ (n k:Nat) a0 a1,Le (Nf n a0 a1) (H3 (n+k) a0 a1)
 | 0,k,a0,a1=>.inl rfl
 | n+1,k,a0,a1=>by
  rw [show n+1+k=(n+k)+1 by omega]
  exact Ux (fun a0 a1=>Qa n k a0 a1) a0 a1
def O5 (depth:Int)(s:T102):R (Value×T102):=Nf 16 depth s
theorem We (depth:Int)(s:T102):Le (O5 depth s) (Kh depth s):=by
 unfold O5 Kh
 rw [Ab8]
 exact Qa 16 (4000000 - 16) depth s
def R0 (b:List Int):R (Value×Int):=
 (O5 0 ({ fRest:=b }:T102)).bind fun r=>
 (Em r.2 ((r.2.fRest.length:Int)==0)).bind fun _=>
 .ok (r.1,0)
theorem Y3 (b:List Int):Le (R0 b) (Nq b):=by
 unfold R0 Nq
 repeat' first | with_reducible exact Le.refl _ | with_reducible exact hW .. | with_reducible exact We .. | with_reducible apply C7 | with_reducible apply Cy | with_reducible apply Dm | with_reducible apply C4 | with_reducible apply Cm | with_reducible apply Cq | with_reducible apply Dk | with_reducible apply Dh | with_reducible apply Dn | with_reducible apply Di | with_reducible apply Dl | with_reducible apply D6 | (rw [Ch]; with_reducible exact Le.refl _) | intro _
def Ta (b:List Int):R (Value×Int):=
 (R0 b).catch' (Lk 30 .i64 (fun n=>(Fk n).bind fun p=>.ok (({ Kind:=0,N:=0,S:=[],L:=[] }:Value),p)) (fun _=>.bad))
theorem Abc (b:List Int):Le (Ta b) (Ru b):=by
 unfold Ta Ru
 repeat' first | with_reducible exact Le.refl _ | with_reducible exact hW .. | with_reducible exact Y3 .. | with_reducible apply C7 | with_reducible apply Cy | with_reducible apply Dm | with_reducible apply C4 | with_reducible apply Cm | with_reducible apply Cq | with_reducible apply Dk | with_reducible apply Dh | with_reducible apply Dn | with_reducible apply Di | with_reducible apply Dl | with_reducible apply D6 | (rw [Ch]; with_reducible exact Le.refl _) | intro _
def Qg (b:List Int):R (Message×Int):=
 (Ta b).bind fun r=>
 if(r.2 != 0) then
(.ok (({ Kind:=0,From:=0,To:=0,Term:=0,Last:=0,LastTerm:=0,Log:=[],Commit:=0,Match:=0,Granted:=false }:Message),r.2))
else
((if((r.1.Kind==3)&&((r.1.L.length:Int)==10)) then(C5 r.1.L 6).bind fun a=>
 R.ok (a.Kind==3) else R.ok false).bind (fun(b1:Bool)=>(Bj b1 470).bind fun _=>
 (Bu 0 r.1).bind fun r2=>
 (Bu 1 r.1).bind fun r3=>
 (Bu 2 r.1).bind fun r4=>
 (Bu 3 r.1).bind fun r5=>
 (Bu 4 r.1).bind fun r6=>
 (Bu 5 r.1).bind fun r7=>
 (Bu 7 r.1).bind fun r8=>
 (Bu 8 r.1).bind fun r9=>
 (Bu 9 r.1).bind fun r10=>
 (Bu 9 r.1).bind fun r11=>
 (Bv r11 0 1).bind fun r12=>
 (Bj r12 470).bind fun _=>
 (C5 r.1.L 6).bind fun a1=>
 (Fy (fun _ a2=>fun l=>Jw a2 l) 0 a1.L []).bind ((fun l=>.ok (({ Kind:=r2,From:=r3,To:=r4,Term:=r5,Last:=r6,LastTerm:=r7,Log:=l,Commit:=r8,Match:=r9,Granted:=(r10==1) }:Message),0)))))
theorem Xj (b:List Int):Le (Qg b) (Ln b):=by
 unfold Qg Ln
 repeat' first | with_reducible exact Le.refl _ | with_reducible exact hW .. | with_reducible exact Abc .. | with_reducible apply C7 | with_reducible apply Cy | with_reducible apply Dm | with_reducible apply C4 | with_reducible apply Cm | with_reducible apply Cq | with_reducible apply Dk | with_reducible apply Dh | with_reducible apply Dn | with_reducible apply Di | with_reducible apply Dl | with_reducible apply D6 | (rw [Ch]; with_reducible exact Le.refl _) | intro _
def Pb (b:List Int):R (Message×Int):=
 (Qg b).catch' (Id 99 .i64 (fun n=>(Ex n).bind fun p=>.ok (({ Kind:=0,From:=0,To:=0,Term:=0,Last:=0,LastTerm:=0,Log:=[],Commit:=0,Match:=0,Granted:=false }:Message),p)) (fun _=>.bad))
theorem Y5 (b:List Int):Le (Pb b) (Nn b):=by
 unfold Pb Nn
 repeat' first | with_reducible exact Le.refl _ | with_reducible exact hW .. | with_reducible exact Xj .. | with_reducible apply C7 | with_reducible apply Cy | with_reducible apply Dm | with_reducible apply C4 | with_reducible apply Cm | with_reducible apply Cq | with_reducible apply Dk | with_reducible apply Dh | with_reducible apply Dn | with_reducible apply Di | with_reducible apply Dl | with_reducible apply D6 | (rw [Ch]; with_reducible exact Le.refl _) | intro _
def Zm:R Bool:=
 (Iv 0 3).bind fun r=>
 (Iv 0 6).bind fun r1=>
 (Od r.1 []).bind fun r2=>
 (N8 r.1 ({ Kind:=0,From:=0,To:=0,Term:=0,Last:=0,LastTerm:=0,Log:=[],Commit:=0,Match:=0,Granted:=false }:Message)).bind fun r3=>
 (Iv 0 1).bind fun r4=>
 (N7 r4.1).bind fun r5=>
 (Od r5.1 [97]).bind fun r6=>
 (N7 r.1).bind fun r7=>
 (N8 r7.1 ({ Kind:=2,From:=2,To:=0,Term:=1,Last:=0,LastTerm:=0,Log:=[],Commit:=0,Match:=0,Granted:=true }:Message)).bind fun r8=>
 (Rq ({ Kind:=3,From:=0,To:=0,Term:=0,Last:=0,LastTerm:=0,Log:=[({ Term:=3,Data:=[120] }:Record)],Commit:=1,Match:=0,Granted:=true }:Message)).bind fun r9=>
 (Pb r9.1).bind fun r10=>
 (Qv ({ Kind:=1,N:=0,S:=[],L:=[] }:Value)).bind fun r11=>
 (Pb r11.1).bind fun r12=>
 (if(((((((((((((r.2 != 0)||(r1.2 != 470))||(r2.2.2 != 470))||(r3.2.2 != 470))||(r4.2 != 0))||(r5.2.2 != 0))||(r6.2.2 != 0))||(r7.2.2 != 0))||(r8.2.2 != 0))||(r9.2 != 0))||(r10.2 != 0))||(r11.2 != 0))||(r12.2 != 470)) then R.ok true else(C8 ({ ID:=0,Many:=0,Term:=0,Vote:=0,Log:=[],Role:=0,Commit:=0,Votes:=[],Match:=[] }:Replica)).bind fun r13=>
 R.ok (r13 != 470)).bind (fun(b:Bool)=>(if b then R.ok true else(C8 r.1).bind fun r14=>
 R.ok (r14 != 0)).bind (fun(b1:Bool)=>if b1 then
(.ok false)
else
((Cv r6.1).bind fun r15=>
 (if(((r5.2.1.length:Int)==0)&&((r15.length:Int)==1)) then(C5 r15 0).bind fun a=>
 R.ok ((C0 a)==[97]) else R.ok false).bind (fun(b2:Bool)=>(if b2 then(Ej r6.1).bind fun r16=>
 (Cv r16).bind fun r17=>
 R.ok ((r17.length:Int)==0) else R.ok false).bind (fun(b3:Bool)=>(if(b3&&((r7.2.1.length:Int)==2)) then(C5 r7.2.1 0).bind fun a1=>
 R.ok (a1.Kind==1) else R.ok false).bind (fun(b4:Bool)=>(if((b4&&(r8.1.Role==2))&&((r8.2.1.length:Int)==2)) then(C5 r8.2.1 1).bind fun a2=>
 R.ok (a2.Kind==3) else R.ok false).bind (fun(b5:Bool)=>(if((b5&&r10.1.Granted)&&((r10.1.Log.length:Int)==1)) then(C5 r10.1.Log 0).bind fun a3=>
 R.ok ((C0 a3.Data)==[120]) else R.ok false).bind (fun(b6:Bool)=>.ok b6))))))))
theorem Ac5:Le (Zm ) (Py ):=by
 unfold Zm Py
 repeat' first | with_reducible exact Le.refl _ | with_reducible exact hW .. | with_reducible exact U4 .. | with_reducible exact X2 .. | with_reducible exact Y5 .. | with_reducible exact Y6 .. | with_reducible exact X7 .. | with_reducible exact Xx .. | with_reducible apply C7 | with_reducible apply Cy | with_reducible apply Dm | with_reducible apply C4 | with_reducible apply Cm | with_reducible apply Cq | with_reducible apply Dk | with_reducible apply Dh | with_reducible apply Dn | with_reducible apply Di | with_reducible apply Dl | with_reducible apply D6 | (rw [Ch]; with_reducible exact Le.refl _) | intro _
end Go.Am
namespace Go.Am
open Go
theorem Ac3:Py=.ok true:=Amd Ac5 (by kernel_rfl)
end Go.Am
namespace Go.Am
open Go
set_option linter.unusedVariables false
set_option linter.unusedSimpArgs false
namespace Rp
theorem Abn {n:Int}(h:0≤n∧n≤5):((0:Int)≤n∧n≤n∧(Int.toNat n) * 1≤B5)∧((0:Int)≤n∧n≤n∧(Int.toNat n) * 8≤B5):=
 ⟨⟨h.1,Int.le_refl _,by unfold B5; omega⟩,h.1,Int.le_refl _,by unfold B5; omega⟩
theorem new_same (id many:Int) : ∃ p,Iv id many=.ok p∧Sl id many=.ok p:=by
 unfold Iv Sl
 simp only [Pq,P3,R.ok_bind]
 by_cases h:1≤many∧many≤5
 ·have hw:IntKind.wrap .i64 (many - 1)=many - 1:=Iw (by omega) (by omega)
  rw [decide_eq_true h.1,decide_eq_true h.2,hw]
  simp only [Bool.and_self,Bool.not_true,Bool.false_eq_true,if_false,R.ok_bind]
  by_cases h2:0≤id∧id≤many - 1
  ·rw [decide_eq_true h2.1,decide_eq_true h2.2]
   simp only [Bool.and_self,Bool.not_true,Bool.false_eq_true,if_false,R.ok_bind,Lf]
   obtain⟨l1,l2⟩:=Abn (n:=many) ⟨by omega,h.2⟩
   unfold Ia Ie J0 Kc
   simp only [Pq,P3,R.ok_bind]
   rw [decide_eq_true (by omega:(0:Int)≤many),decide_eq_true h.2]
   simp only [Bool.and_self,if_true]
   simp only [if_pos l1,if_pos l2,R.ok_bind]
   exact⟨_,rfl,rfl⟩
  ·have hb:(decide (0≤id)&&decide (id≤many - 1))=false:=by
    rw [Bool.and_eq_false_iff,decide_eq_false_iff_not,decide_eq_false_iff_not]
    omega
   rw [hb]
   exact⟨_,rfl,rfl⟩
 ·have hb:(decide (1≤many)&&decide (many≤5))=false:=by
   rw [Bool.and_eq_false_iff,decide_eq_false_iff_not,decide_eq_false_iff_not]
   omega
  rw [hb]
  exact⟨_,rfl,rfl⟩
theorem rest_same (r:Replica) : ∃ p,Ej r=.ok p∧Iz r=.ok p:=by
 unfold Ej Iz Dz Cp F9 Hp Kc
 simp only [Pq,P3,R.ok_bind]
 by_cases h:0≤r.Many∧r.Many≤5
 ·rw [decide_eq_true h.1,decide_eq_true h.2]
  simp only [Bool.and_self,if_true]
  obtain⟨l1,l2⟩:=Abn h
  simp only [if_pos l1,if_pos l2,R.ok_bind]
  exact⟨_,rfl,rfl⟩
 ·have hb:(decide (0≤r.Many)&&decide (r.Many≤5))=false:=by
   rw [Bool.and_eq_false_iff,decide_eq_false_iff_not,decide_eq_false_iff_not]
   omega
  obtain⟨l1,l2⟩:=Abn (n:=0) (by omega)
  rw [hb]
  simp only [Bool.false_eq_true,if_false,if_pos l1,if_pos l2,R.ok_bind]
  exact⟨_,rfl,rfl⟩
theorem comm_any (r:Replica)(hl:r.Log.length * 24≤B5):Cv r=.ok ((r.Log.take r.Commit.toNat).map (·.Data)):=by
 rcases Int.lt_or_le r.Commit 0 with h | h
 ·unfold Cv
  rw [show r.Commit.toNat=0 by omega]
  cases hL:r.Log with
  | nil=>rfl
  | cons a l=>
   rw [Mk]
   have:Ep r 0 a []=.ok (.inr []):=by
    unfold Ep
    rw [if_pos (by omega)]
   rw [this]
   rfl
 ·exact Ak9 r hl h
theorem rcomm_any (r:Replica)(hl:r.Log.length * 24≤B5):Gn r=.ok ((r.Log.take r.Commit.toNat).map (·.Data)):=by
 have key : ∀ (n k:Nat),k+n=min r.Log.length r.Commit.toNat→loop (D4 fun i l=>F4 r i l) ((k:Int),(r.Log.take k).map (·.Data))=.ok ((r.Log.take r.Commit.toNat).map (·.Data)):=by
  intro n
  induction n with
  | zero=>
   intro k hk
   have hst:(D4 fun i l=>F4 r i l) ((k:Int),(r.Log.take k).map (·.Data))=.ok (.inr ((r.Log.take k).map (·.Data))):=by
    simp only [D4,F4]
    rw [if_neg]
    simp only [Bool.and_eq_true,decide_eq_true_eq]
    omega
   rw [H5,hst,R.ok_bind]
   simp only
   congr 2
   rcases Nat.le_total r.Log.length r.Commit.toNat with h | h
   ·rw [List.take_of_length_le h,List.take_of_length_le (by omega)]
   ·rw [show k=r.Commit.toNat by omega]
  | succ n ih=>
   intro k hk
   have hlt:k<r.Log.length:=by omega
   have hg:r.Log[k]? = some r.Log[k]:=List.getElem?_eq_getElem hlt
   unfold B5 at hl
   have hw:IntKind.wrap .i64 ((k:Int)+1)=((k+1:Nat):Int):=by rw [Iw (by omega) (by omega)]; omega
   have hst:(D4 fun i l=>F4 r i l) ((k:Int),(r.Log.take k).map (·.Data))=.ok (.inl (((k+1:Nat):Int),(r.Log.take (k+1)).map (·.Data))):=by
    simp only [D4,F4]
    rw [if_pos (by simp only [Bool.and_eq_true,decide_eq_true_eq]; omega),Hv hg,R.ok_bind,if_pos (by simp only [List.length_map,List.length_take,List.length_singleton]; unfold B5; omega),hw,List.take_add_one,hg,List.map_append]
    rfl
   rw [H5,hst,R.ok_bind]
   exact ih (k+1) (by omega)
 unfold Gn
 have:=key (min r.Log.length r.Commit.toNat) 0 (by omega)
 rw [show((0:Int),([]:List (List Int)))=(((0:Nat):Int),(r.Log.take 0).map (·.Data)) from rfl,this]
 rfl
theorem V3 {α:Type}{b:Nat→α→Unit→R (Unit ⊕ Bool)} : ∀ (l:List α) (k:Nat),(∀ (j:Nat) a,l[j]? = some a→b (k+j) a ()=.ok (.inl ()))→each b k l ()=.ok (.inl ())
 | [],k,_=>rfl
 | a::l,k,hb=>by
  rw [Mk,show b k a ()=.ok (.inl ()) from hb 0 a rfl]
  simp only [R.ok_bind]
  exact V3 l (k+1) fun j x hx=>by rw [show k+1+j=k+(j+1) by omega]; exact hb (j+1) x (by simpa using hx)
theorem Zg (l:List Record):Nz l l=.ok true:=by
 unfold Nz
 rw [if_neg (by omega),V3 l 0 fun j x hx=>?_]
 ·rfl
 ·simp only [Mb,Tr,Nat.zero_add,Hv hx,R.ok_bind,beq_self_eq_true,Bool.and_self,if_true]
theorem same_self (r:Replica):Hr r r=.ok true:=by
 unfold Hr
 simp only [bne_self_eq_false,Bool.or_self,Bool.false_eq_true,if_false,Zg,R.ok_bind,Bool.not_true]
 rw [V3 r.Votes 0 fun j x hx=>by simp only [Ma,Nat.zero_add,Hv hx,R.ok_bind,beq_self_eq_true,if_true]]
 simp only [R.ok_bind,Ga]
 rw [V3 r.Match 0 fun j x hx=>by simp only [K0,Nat.zero_add,Hv hx,R.ok_bind,bne_self_eq_false,Bool.false_eq_true,if_false]]
 rfl
theorem Air (m:Message):K5 m m=.ok true:=by
 unfold K5
 simp only [beq_self_eq_true,Bool.and_self,if_true,Zg,R.ok_bind]
theorem messes_self (l:List Message):Fc l l=.ok true:=by
 unfold Fc
 rw [if_neg (by simp),V3 l 0 fun j x hx=>by simp only [I6,Nat.zero_add,Hv hx,R.ok_bind,Air,if_true]]
 rfl
theorem lists_self (l:List (List Int)):Kf l l=.ok true:=by
 unfold Kf Ry
 rw [if_pos (by simp),if_neg (by omega),V3 l 0 fun j x hx=>by simp only [Mn,Nat.zero_add,Hv hx,R.ok_bind,beq_self_eq_true,if_true]]
 rfl
theorem few_ok (l:List Record) : ∃ b,Sr l=.ok b:=by
 unfold Sr
 rw [Aei (p:=fun a=>decide ((a.Data.length:Int) > 100)) false l 0 fun j a _=>by simp only [Pp,decide_eq_true_eq]]
 simp only [R.ok_bind]
 cases l.any _
 ·exact⟨_,rfl⟩
 ·exact⟨_,rfl⟩
theorem check_ok {r:Replica}(hl:r.Log.length≤B5) : ∃ e,C8 r=.ok e:=by
 by_cases h:Good r
 ·exact⟨_,P7 hl h⟩
 ·exact⟨_,Q8 hl h⟩
theorem time_ok {r:Replica}(hl:r.Log.length≤B5) : ∃ e,E0 r=.ok e:=by
 by_cases h:Good r
 ·exact⟨_,Af5 h hl⟩
 ·exact⟨_,Ad9 h hl⟩
theorem prop_ok {r:Replica}{d:List Int}(hl:r.Log.length≤B5) : ∃ e,Ey r d=.ok e:=by
 by_cases h:Good r
 ·exact⟨_,Afy h hl⟩
 ·exact⟨_,Adb h hl⟩
theorem Ak4 (a:Record):1≤Q7.bulk a:=Nat.le_add_left _ _
theorem Akq (l:List Record):l.length+1≤(Pd 2 Q7).bulk l:=Ak1 Ak4 l
theorem rep_len {r:Replica}:r.Log.length+1≤T9.bulk r:=by
 have:=Akq r.Log
 show _≤(_+(_+(_+(_+((Pd 2 Q7).bulk r.Log+_)))))+1
 omega
end Rp
theorem law_ReplicaStepSpec:Ls:=by
 intro id many r d h1 h2 hr hd hb
 have h1:=Rp.rep_len (r:=r)
 have hl:r.Log.length≤B5:=by unfold B5; omega
 obtain⟨f,ef⟩:=Rp.few_ok r.Log
 obtain⟨p1,n1,n2⟩:=Rp.new_same id many
 obtain⟨p2,t1⟩:=Rp.time_ok hl
 obtain⟨p3,q1⟩:=Rp.prop_ok (d:=d) hl
 obtain⟨p4,r1,r2⟩:=Rp.rest_same r
 obtain⟨p5,c1⟩:=Rp.check_ok hl
 unfold Kv
 rw [Ac3,R.ok_bind,if_pos rfl,ef,R.ok_bind]
 split
 ·rfl
 ·rw [n1,n2,Rp.rtime_eq hl,t1,Rp.rprop_eq hl,q1]
  simp only [R.ok_bind,Rp.same_self,Rp.messes_self,bne_self_eq_false,Bool.not_true,Bool.or_self,Bool.false_eq_true,if_false]
  rw [Rp.rcheck_eq hl,c1]
  simp only [R.ok_bind,beq_self_eq_true,if_true]
  rw [r1,r2]
  simp only [R.ok_bind,Rp.same_self,if_true]
  rw [Rp.comm_any r (by unfold B5; omega),Rp.rcomm_any r (by unfold B5; omega)]
  simp only [R.ok_bind,Rp.lists_self]
end Go.Am
namespace Go.Proofs
open Go.Shelf
def Tryz.laysSlM5_f77_ren:Go.Shelf.Ren:=⟨fun | 5=>77 | 8=>86 | 7=>85 | 19=>97 | 20=>98 | 10=>88 | 11=>89 | 12=>90 | 13=>91 | 14=>92 | 15=>93 | 16=>94 | 17=>95 | 18=>96 | 30=>99 | 31=>100 | 32=>101 | 33=>102 | 34=>103 | 35=>104 | 40=>105 | n=>n,fun | 23=>24 | 25=>3 | 3=>3 | 32=>121 | 22=>24 | 0=>0 | 44=>134 | 46=>110 | 4=>4 | 36=>127 | 35=>126 | 41=>105 | 5=>5 | 9=>9 | 53=>135 | 57=>138 | 63=>140 | 64=>141 | n=>n,fun | n=>n⟩
theorem Tryz.laysSlM5_f77:Go.Proofs.SlLaysM.n5 Tryz.prog Tryz.laysSlM5_f77_ren:={
 mixed:=by kernel_rfl
 f5:=⟨Tryz.f77.name,by decide,Tryz.func77.trans (congrArg some (by kernel_rfl))⟩
 f7:=⟨Tryz.f85.name,by decide,Tryz.func85.trans (congrArg some (by kernel_rfl))⟩
 f8:=Tryz.func86.trans (congrArg some (by kernel_rfl))
 f10:=⟨Tryz.f88.name,by decide,Tryz.func88.trans (congrArg some (by kernel_rfl))⟩
 f11:=⟨Tryz.f89.name,by decide,Tryz.func89.trans (congrArg some (by kernel_rfl))⟩
 f12:=⟨Tryz.f90.name,by decide,Tryz.func90.trans (congrArg some (by kernel_rfl))⟩
 f13:=⟨Tryz.f91.name,by decide,Tryz.func91.trans (congrArg some (by kernel_rfl))⟩
 f14:=⟨Tryz.f92.name,by decide,Tryz.func92.trans (congrArg some (by kernel_rfl))⟩
 f15:=⟨Tryz.f93.name,by decide,Tryz.func93.trans (congrArg some (by kernel_rfl))⟩
 f16:=⟨Tryz.f94.name,by decide,Tryz.func94.trans (congrArg some (by kernel_rfl))⟩
 f17:=⟨Tryz.f95.name,by decide,Tryz.func95.trans (congrArg some (by kernel_rfl))⟩
 f18:=⟨Tryz.f96.name,by decide,Tryz.func96.trans (congrArg some (by kernel_rfl))⟩
 f19:=Tryz.func97.trans (congrArg some (by kernel_rfl))
 f20:=Tryz.func98.trans (congrArg some (by kernel_rfl))
 f30:=⟨Tryz.f99.name,by decide,Tryz.func99.trans (congrArg some (by kernel_rfl))⟩
 f31:=Tryz.func100.trans (congrArg some (by kernel_rfl))
 f32:=Tryz.func101.trans (congrArg some (by kernel_rfl))
 f33:=⟨Tryz.f102.name,by decide,Tryz.func102.trans (congrArg some (by kernel_rfl))⟩
 f34:=⟨Tryz.f103.name,by decide,Tryz.func103.trans (congrArg some (by kernel_rfl))⟩
 f35:=⟨Tryz.f104.name,by decide,Tryz.func104.trans (congrArg some (by kernel_rfl))⟩
 f40:=⟨Tryz.f105.name,by decide,Tryz.func105.trans (congrArg some (by kernel_rfl))⟩
 t0:=Tryz.underlying0
 a0:=Tryz.isAgg0
 z0:=Tryz.sizeOf0
 v0:=Tryz.zeroValue0
 t3:=Tryz.underlying3
 a3:=Tryz.isAgg3
 z3:=Tryz.sizeOf3
 v3:=Tryz.zeroValue3
 t4:=Tryz.underlying4
 a4:=Tryz.isAgg4
 z4:=Tryz.sizeOf4
 v4:=Tryz.zeroValue4
 t5:=Tryz.underlying5
 a5:=Tryz.isAgg5
 z5:=Tryz.sizeOf5
 v5:=Tryz.zeroValue5
 t9:=Tryz.underlying9
 a9:=Tryz.isAgg9
 z9:=Tryz.sizeOf9
 v9:=Tryz.zeroValue9
 t22:=Tryz.underlying24
 a22:=Tryz.isAgg24
 z22:=Tryz.sizeOf24
 v22:=Tryz.zeroValue24
 t23:=Tryz.underlying24
 a23:=Tryz.isAgg24
 z23:=Tryz.sizeOf24
 v23:=Tryz.zeroValue24
 t25:=Tryz.underlying3
 a25:=Tryz.isAgg3
 z25:=Tryz.sizeOf3
 v25:=Tryz.zeroValue3
 t32:=Tryz.underlying121
 a32:=Tryz.isAgg121
 z32:=Tryz.sizeOf121
 v32:=Tryz.zeroValue121
 t35:=Tryz.underlying126
 a35:=Tryz.isAgg126
 z35:=Tryz.sizeOf126
 v35:=Tryz.zeroValue126
 t36:=Tryz.underlying127
 a36:=Tryz.isAgg127
 z36:=Tryz.sizeOf127
 v36:=Tryz.zeroValue127
 t41:=Tryz.underlying105
 a41:=Tryz.isAgg105
 z41:=Tryz.sizeOf105
 v41:=Tryz.zeroValue105
 t44:=Tryz.underlying134
 a44:=Tryz.isAgg134
 z44:=Tryz.sizeOf134
 v44:=Tryz.zeroValue134
 t46:=Tryz.underlying110
 a46:=Tryz.isAgg110
 z46:=Tryz.sizeOf110
 v46:=Tryz.zeroValue110
 t53:=Tryz.underlying135
 a53:=Tryz.isAgg135
 z53:=Tryz.sizeOf135
 v53:=Tryz.zeroValue135
 t57:=Tryz.underlying138
 a57:=Tryz.isAgg138
 z57:=Tryz.sizeOf138
 v57:=Tryz.zeroValue138
 t63:=Tryz.underlying140
 a63:=Tryz.isAgg140
 z63:=Tryz.sizeOf140
 v63:=Tryz.zeroValue140
 t64:=Tryz.underlying141
 a64:=Tryz.isAgg141
 z64:=Tryz.sizeOf141
 v64:=Tryz.zeroValue141 }
open Go.Sort Go.RowKit in
theorem Tryz.slices_Sort_int (blk off cap : Nat) (zs : List Int) (w : World) (hH : Holds (Value.int .i64) w blk off zs.toArray) (hblk : blk < w.heap.size) (hsz : zs.length < 4611686018427387904) :
  Calls Tryz.prog 77 #[.slice (some ⟨blk, off, none⟩) zs.length cap] w fun e w' =>
   e = .returned (.tuple #[]) ∧ ∃ n os, w' = grow (putRow (Value.int .i64) (Sort.ahead w n) blk off (zs.mergeSort fun x y => decide (x ≤ y)).toArray) os := AnyM.slices_Sort_int Tryz.laysSlM5_f77 blk off cap zs w hH hblk hsz
open Go.RowKit Go.Sort in
theorem Tryz.slices_Sort_int_none (p : Option Addr) (cap : Nat) (w : World) :
  Calls Tryz.prog 77 #[.slice p 0 cap] w fun e w' => e = .returned (.tuple #[]) ∧ w' = w := AnyM.slices_Sort_int_none Tryz.laysSlM5_f77 p cap w
end Go.Proofs
namespace Go.Am
open Go Go.Proofs
set_option linter.unusedVariables false
set_option linter.unusedSimpArgs false
instance gwI:GW Tryz.prog:={ n:=0,G:=fun _ _=>True,keep:=fun _ _ _=>trivial }
theorem Db:Tryz.prog.follows .mixedOrders=true:=by kernel_rfl
theorem Av:ti Tryz.prog 3=some ⟨.int .i64,1,8,[.int .i64 0]⟩:=by kernel_rfl
theorem Gq:ti Tryz.prog 4=some ⟨.bool,1,1,[.bool false]⟩:=by kernel_rfl
theorem Kd:ti Tryz.prog 5=some ⟨.int .u8,1,1,[.int .u8 0]⟩:=by kernel_rfl
theorem Ky:ti Tryz.prog 9=some ⟨.str,1,16,[.str []]⟩:=by kernel_rfl
theorem Agp:ti Tryz.prog 20=some ⟨.ifc,1,16,[.nili]⟩:=by kernel_rfl
theorem Bd:ti Tryz.prog 22=some ⟨.sl 51,1,24,[.emp]⟩:=by kernel_rfl
theorem Cr:ti Tryz.prog 23=some ⟨.sl 4,1,24,[.emp]⟩:=by kernel_rfl
theorem Bw:ti Tryz.prog 24=some ⟨.sl 3,1,24,[.emp]⟩:=by kernel_rfl
theorem Ar:ti Tryz.prog 26=some ⟨.st [(0,3),(1,3),(2,3),(3,3),(4,22),(5,3),(6,3),(7,23),(8,24)],9,120,[.int .i64 0,.int .i64 0,.int .i64 0,.int .i64 0,.emp,.int .i64 0,.int .i64 0,.emp,.emp]⟩:=by kernel_rfl
theorem D9:ti Tryz.prog 27=some ⟨.sl 5,1,24,[.emp]⟩:=by kernel_rfl
theorem Hl:ti Tryz.prog 30=some ⟨.int .i64,1,8,[.int .i64 0]⟩:=by kernel_rfl
theorem Cw:ti Tryz.prog 33=some ⟨.sl 47,1,24,[.emp]⟩:=by kernel_rfl
theorem O4:ti Tryz.prog 42=some ⟨.sl 27,1,24,[.emp]⟩:=by kernel_rfl
theorem B0:ti Tryz.prog 47=some ⟨.st [(0,3),(1,3),(2,3),(3,3),(4,3),(5,3),(6,22),(7,3),(8,3),(9,4)],10,96,[.int .i64 0,.int .i64 0,.int .i64 0,.int .i64 0,.int .i64 0,.int .i64 0,.emp,.int .i64 0,.int .i64 0,.bool false]⟩:=by kernel_rfl
theorem C6:ti Tryz.prog 51=some ⟨.st [(0,3),(1,27)],2,32,[.int .i64 0,.emp]⟩:=by kernel_rfl
theorem Do:ti Tryz.prog 55=some ⟨.sl 57,1,24,[.emp]⟩:=by kernel_rfl
theorem B9:ti Tryz.prog 57=some ⟨.st [(0,3),(1,3),(2,9),(3,55)],4,56,[.int .i64 0,.int .i64 0,.str [],.emp]⟩:=by kernel_rfl
theorem Bf:ti Tryz.prog 62=some ⟨.st [(0,26),(9,33)],10,144,[.int .i64 0,.int .i64 0,.int .i64 0,.int .i64 0,.emp,.int .i64 0,.int .i64 0,.emp,.emp,.emp]⟩:=by kernel_rfl
theorem Vm:ti Tryz.prog 78=some ⟨.fn,1,8,[.nilf]⟩:=by kernel_rfl
theorem Aac:ti Tryz.prog 79=some ⟨.arr 5 78,5,40,[.nilf,.nilf,.nilf,.nilf,.nilf]⟩:=by kernel_rfl
theorem Alj:ti Tryz.prog 81=some ⟨.st [(0,79)],5,40,[.nilf,.nilf,.nilf,.nilf,.nilf]⟩:=by kernel_rfl
theorem Jj:ti Tryz.prog 87=some ⟨.fn,1,8,[.nilf]⟩:=by kernel_rfl
theorem I2:ti Tryz.prog 89=some ⟨.st [(0,87)],1,8,[.nilf]⟩:=by kernel_rfl
theorem Agl:ti Tryz.prog 90=some ⟨.ptr 108,1,8,[.nilp]⟩:=by kernel_rfl
theorem Ai9:ti Tryz.prog 99=some ⟨.st [(0,30)],1,8,[.int .i64 0]⟩:=by kernel_rfl
theorem M7:ti Tryz.prog 108=some ⟨.arr 4 89,4,32,[.nilf,.nilf,.nilf,.nilf]⟩:=by kernel_rfl
theorem Lr:ti Tryz.prog 110=some ⟨.int .u64,1,8,[.int .u64 0]⟩:=by kernel_rfl
theorem Ada:ti Tryz.prog 120=some ⟨.arr 4 4,4,4,[.bool false,.bool false,.bool false,.bool false]⟩:=by kernel_rfl
theorem Adg:Ov Tryz.prog [(0,3),(1,3),(2,3),(3,3),(4,22),(5,3),(6,3),(7,23),(8,24)]=some [(0,1),(1,1),(2,1),(3,1),(4,1),(5,1),(6,1),(7,1),(8,1)]:=by kernel_rfl
theorem Abq:Ov Tryz.prog [(0,3),(1,3),(2,3),(3,3),(4,3),(5,3),(6,22),(7,3),(8,3),(9,4)]=some [(0,1),(1,1),(2,1),(3,1),(4,1),(5,1),(6,1),(7,1),(8,1),(9,1)]:=by kernel_rfl
theorem T7:Ov Tryz.prog [(0,3),(1,27)]=some [(0,1),(1,1)]:=by kernel_rfl
theorem Zy:Ov Tryz.prog [(0,3),(1,3),(2,9),(3,55)]=some [(0,1),(1,1),(2,1),(3,1)]:=by kernel_rfl
end Go.Am
namespace Go.Am
open Go Go.Proofs
set_option maxRecDepth 100000
set_option maxHeartbeats 4000000
set_option linter.unusedSimpArgs false
set_option linter.unusedVariables false
theorem De (n:Int)(lo:Int)(hi:Int):CP Tryz.prog 25 [(.int .i64 n),(.int .i64 lo),(.int .i64 hi)] (Bv n lo hi) (fun(x:Bool)=>(AV.bool x)):=by
 refine Da (n:=15) 0 Tryz.func25 O (by decide) O O fun h0 ids hI=>B4 (Ax (Bv.eq_1 _ _ _) ?_)
 refine Ab<|Z<|Ad (.bool false) O At<|Ae<|Ab<|Z<|Ak 4 [] [(10,(.bool (decide (lo≤n))))] ?_
 refine Cb 4 [(14,(.bool ((decide (lo≤n))&&(decide (n≤hi)))))] ?_ fun hJ=>B3 (decide (lo≤n)) (fun hb1=>?_) (fun hb1=>?_)
 ·refine Ad (.bool ((decide (lo≤n))&&(decide (n≤hi)))) O At<|Ae<|B6 (a:=((decide (lo≤n))&&(decide (n≤hi)))) (vs:=[(.bool ((decide (lo≤n))&&(decide (n≤hi))))]) Tryz.func25 hI O (.same _)
 ·refine Ba (t:=10) hb1 O<|Ak 4 [] [(14,(.bool (decide (n≤hi))))] ?_
  exact Bo hJ (.cons (G6 hb1) .nil)
 refine Ba (t:=10) hb1 O<|Ak 4 [] [(14,(.bool false))] ?_
 exact Bo hJ (.cons (G5 hb1) .nil)
theorem Y0 (rID:Int)(rMany:Int)(rTerm:Int)(rVote:Int)(rRole:Int)(rCommit:Int)(h0:Ah)(o0:Nat)(hI0:Ids h0 [o0] 1):Lf rID rMany rTerm rVote rRole rCommit≠.bad→Bx Tryz.prog 26 [(.agg [(.int .i64 rID),(.int .i64 rMany),(.int .i64 rTerm),(.int .i64 rVote),.emp,(.int .i64 rRole),(.int .i64 rCommit),.emp,.emp])] (hp h0 [o0] [none]) (El (fun a_ v h' => ∃ (g2:Nat),v=(.ptr o0 g2 0 0)∧h'=hp h0 [o0] [some (.rows g2 10 [[(.int .i64 rID),(.int .i64 rMany),(.int .i64 rTerm),(.int .i64 rVote),.emp,(.int .i64 rRole),(.int .i64 rCommit),.emp,.emp,.emp]])]) h0 (Lf rID rMany rTerm rVote rRole rCommit)):=by
 refine Co (n:=6) 1 Tryz.func26 O (by decide) O O hI0 O fun ids he hI=>?_
 clear hI0
 obtain rfl:ix ids 0=o0:=he 0 rfl
 clear he
 refine B4 (Ax (Lf.eq_1 _ _ _ _ _ _) ?_)
 refine Az ?_
 refine Ab<|Z<|C1 (v:=(.agg [(.I rID),(.I rMany),(.I rTerm),(.I rVote),.emp,(.I rRole),(.I rCommit),.emp,.emp])) (j:=1) hI O O O O O O O fun g=>Ad .nilp O At<|Ae<|Az ?_
 refine Ab<|Z<|Ak 2 [1] [(4,(.agg [(.I rID),(.I rMany),(.I rTerm),(.I rVote),.emp,(.I rRole),(.I rCommit),.emp,.emp,.emp]))] ?_
 refine C1 (v:=(.agg [(.I rID),(.I rMany),(.I rTerm),(.I rVote),.emp,(.I rRole),(.I rCommit),.emp,.emp,.emp])) (j:=0) hI O O O O O O O fun g1=>Ad (.q ids 0 g1) O At<|Ae<|Az ?_
 exact Es (K:=1) (N:=1) (a:=()) (vs:=[(.q ids 0 g1)]) [some (.rows g1 10 [[(.I rID),(.I rMany),(.I rTerm),(.I rVote),.emp,(.I rRole),(.I rCommit),.emp,.emp,.emp]])] Tryz.func26 hI O O O (.keep (.drop .nil)) (.same _) ⟨g1,O,O⟩
theorem U0 (s_ReplicaID:Int)(s_ReplicaMany:Int)(s_ReplicaTerm:Int)(s_ReplicaVote:Int)(s_ReplicaRole:Int)(s_ReplicaCommit:Int)(h0:Ah)(o0:Nat)(o1:Nat)(o2:Nat)(w:AV)(w1:AV)(w2:AV)(w3:AV)(g:Nat)(hI0:Ids h0 [o0,o1,o2] 3):Ia s_ReplicaID s_ReplicaMany s_ReplicaTerm s_ReplicaVote s_ReplicaRole s_ReplicaCommit≠.bad→Bx Tryz.prog 27 [(.ptr o0 g 0 0)] (hp h0 [o0,o1,o2] [some (.rows g 10 [[(.int .i64 s_ReplicaID),(.int .i64 s_ReplicaMany),(.int .i64 s_ReplicaTerm),(.int .i64 s_ReplicaVote),w,(.int .i64 s_ReplicaRole),(.int .i64 s_ReplicaCommit),w1,w2,w3]]),none,none]) (El (fun a_ v h' => ∃ (v19:AV),∃ (g19:Nat),∃ (v20:AV),∃ (g20:Nat),Bc v19 o1 g19 a_.1.length∧Bc v20 o2 g20 a_.2.length∧v=(.tup [])∧h'=hp h0 [o0,o1,o2] [some (.rows g 10 [[(.int .i64 s_ReplicaID),(.int .i64 s_ReplicaMany),(.int .i64 s_ReplicaTerm),(.int .i64 s_ReplicaVote),w,(.int .i64 0),(.int .i64 s_ReplicaCommit),v19,v20,w3]]),A5 v19 g19 1 (List.map rB a_.1),A5 v20 g20 1 (List.map (rI .i64) a_.2)]) h0 (Ia s_ReplicaID s_ReplicaMany s_ReplicaTerm s_ReplicaVote s_ReplicaRole s_ReplicaCommit)):=by
 refine Co (n:=30) 0 Tryz.func27 O (by decide) O O hI0 O fun ids he hI=>?_
 clear hI0
 obtain rfl:ix ids 0=o0:=he 0 rfl
 obtain rfl:ix ids 1=o1:=he 1 rfl
 obtain rfl:ix ids 2=o2:=he 2 rfl
 clear he
 refine B4 (Ax (Ia.eq_1 _ _ _ _ _ _) ?_)
 refine Ab<|Z<|Ad (.I 0) O At<|Ae<|Ab<|Ab<|Z ?_
 refine Ak 5 [0] [(7,(.I s_ReplicaMany))] ?_
 refine Bh [(.I s_ReplicaMany),(.I 0),(.I 5)] O O O O ((De s_ReplicaMany 0 5) _) (fun v _=>Cd (K:=3) (N:=0) Tryz.func27 hI) fun r _=>Ae<|Dp (fun n=>Ie n) (fun n=>fun(fr:Nat→AV) (h:Ah)=>fr=A0 [(0,(.q ids 0 g)),(2,(.I n))]∧h=hp h0 ids [(some (.rows g 10 [[(.I s_ReplicaID),(.I s_ReplicaMany),(.I s_ReplicaTerm),(.I s_ReplicaVote),w,(.I s_ReplicaRole),(.I s_ReplicaCommit),w1,w2,w3]])),none,none]) ?_ fun hJ1=>?_
 ·rintro n fr h ⟨rfl,rfl⟩
  refine Ax (Ie.eq_1 _)<|Dp (D4 fun l l1=>J0 l l1) (D4 fun l l1=>fun(fr:Nat→AV) (h:Ah) => ∃ (v17:AV),∃ (g17:Nat),∃ (v18:AV),∃ (g18:Nat),Bc v17 (ix ids 1) g17 l.length∧Bc v18 (ix ids 2) g18 l1.length∧fr=A0 []∧h=hp h0 ids [(some (.rows g 10 [[(.I s_ReplicaID),(.I s_ReplicaMany),(.I s_ReplicaTerm),(.I s_ReplicaVote),w,(.I 0),(.I s_ReplicaCommit),v17,v18,w3]])),(A5 v17 g17 1 (List.map rB l)),(A5 v18 g18 1 (List.map (rI .i64) l1))]) ?_ fun hJ=>?_
  ·rintro⟨l,l1⟩ fr h ⟨v17,g17,v18,g18,vH16,vH17,rfl,rfl⟩
   refine Ax (J0.eq_1 _ _)<|Fm (K:=3) (N:=0) (a:=(l,l1)) (vs:=[]) [some (.rows g 10 [[(.I s_ReplicaID),(.I s_ReplicaMany),(.I s_ReplicaTerm),(.I s_ReplicaVote),w,(.I 0),(.I s_ReplicaCommit),v17,v18,w3]]),A5 v17 g17 1 (List.map rB l),A5 v18 g18 1 (List.map (rI .i64) l1)] Tryz.func27 hI O O O (.keep (.keep (.keep .nil))) (.same _) ⟨v17,g17,v18,g18,vH16,vH17,O,O⟩
  refine R6 Db (.node 14 6 (.node 10 6 (.node 10 4 (.node 6 4 (.leaf [[],[],[],[],[3,3],[],[3,4,5],[0,0],[0,7],[0,7,8],[0,3,4,5,6,7,8,9],[0,1,3,4,5,6,7,8,9,10],[0,1,3,4,5,6,7,8,9,10,11],[0,1,3,4,5,6,7,8,9,10,11,12],[0,1,3,4,5,6,7,8,9,10,11,12,13],[0,1,2,2,3,4,5,6,7,8,9,10,11,12,13,14],[0,1,2,3,4,5,6,7,8,9,10,11,12,13,14,15],[0,1,2,3,4,5,6,7,8,9,10,11,12,13,14,15,16],[0,1,2,3,4,5,6,7,8,9,10,11,12,13,14,15,16,17]] [(false,0),(false,1),(false,2),(false,3),(false,5),(false,7),(false,8),(false,9),(true,4),(true,6),(true,10),(false,11),(false,12),(false,13),(true,14),(false,15),(false,16),(false,17),(true,18)]) (.leaf [[],[],[],[],[3,5,6],[],[5,5],[0,0],[0,7],[0,7,8],[0,3,4,5,6,7,8,9],[0,1,3,4,5,6,7,8,9,10],[0,1,3,4,5,6,7,8,9,10,11],[0,1,3,4,5,6,7,8,9,10,11,12],[0,1,3,4,5,6,7,8,9,10,11,12,13],[0,1,2,2,3,4,5,6,7,8,9,10,11,12,13,14],[0,1,2,3,4,5,6,7,8,9,10,11,12,13,14,15],[0,1,2,3,4,5,6,7,8,9,10,11,12,13,14,15,16],[0,1,2,3,4,5,6,7,8,9,10,11,12,13,14,15,16,17]] [(false,0),(false,1),(false,2),(false,3),(false,5),(false,7),(false,8),(false,9),(true,6),(true,4),(true,10),(false,11),(false,12),(false,13),(true,14),(false,15),(false,16),(false,17),(true,18)])) (.leaf [[],[],[],[],[0,3,5,6,7,8,9,10],[],[5,5],[0,0],[0,7],[0,7,8],[0,5,6,7,8,9],[0,1,3,4,5,6,7,8,9,10],[0,1,3,4,5,6,7,8,9,10,11],[0,1,3,4,5,6,7,8,9,10,11,12],[0,1,3,4,5,6,7,8,9,10,11,12,13],[0,1,2,2,3,4,5,6,7,8,9,10,11,12,13,14],[0,1,2,3,4,5,6,7,8,9,10,11,12,13,14,15],[0,1,2,3,4,5,6,7,8,9,10,11,12,13,14,15,16],[0,1,2,3,4,5,6,7,8,9,10,11,12,13,14,15,16,17]] [(false,0),(false,1),(false,2),(false,3),(false,5),(false,7),(false,8),(false,9),(true,6),(true,10),(true,4),(false,11),(false,12),(false,13),(true,14),(false,15),(false,16),(false,17),(true,18)])) (.node 6 4 (.node 10 4 (.leaf [[],[],[],[],[3,3],[],[0,3,4,5,7,8,9,10],[0,0],[0,7],[0,7,8],[0,3,4,7,8,9],[0,1,1,3,4,7,8,9,10],[0,1,3,4,7,8,9,10,11],[0,1,3,4,7,8,9,10,11,12],[0,1,3,4,5,6,7,8,9,10,11,12,13],[0,1,2,2,3,4,5,6,7,8,9,10,11,12,13,14],[0,1,2,3,4,5,6,7,8,9,10,11,12,13,14,15],[0,1,2,3,4,5,6,7,8,9,10,11,12,13,14,15,16],[0,1,2,3,4,5,6,7,8,9,10,11,12,13,14,15,16,17]] [(false,0),(false,1),(false,2),(false,3),(false,5),(false,7),(false,8),(false,9),(true,4),(true,10),(false,11),(false,12),(false,13),(true,6),(true,14),(false,15),(false,16),(false,17),(true,18)]) (.leaf [[],[],[],[],[0,3,7,8,9,10],[],[0,3,4,5,7,8,9,10],[0,0],[0,7],[0,7,8],[0,7,8,9],[0,1,1,3,4,7,8,9,10],[0,1,3,4,7,8,9,10,11],[0,1,3,4,7,8,9,10,11,12],[0,1,3,4,5,6,7,8,9,10,11,12,13],[0,1,2,2,3,4,5,6,7,8,9,10,11,12,13,14],[0,1,2,3,4,5,6,7,8,9,10,11,12,13,14,15],[0,1,2,3,4,5,6,7,8,9,10,11,12,13,14,15,16],[0,1,2,3,4,5,6,7,8,9,10,11,12,13,14,15,16,17]] [(false,0),(false,1),(false,2),(false,3),(false,5),(false,7),(false,8),(false,9),(true,10),(true,4),(false,11),(false,12),(false,13),(true,6),(true,14),(false,15),(false,16),(false,17),(true,18)])) (.leaf [[],[],[],[],[0,3,5,6,7,8,9,10],[],[0,5,7,8,9,10],[0,0],[0,7],[0,7,8],[0,7,8,9],[0,1,3,4,5,6,7,8,9,10],[0,1,3,4,5,6,7,8,9,10,11],[0,1,3,4,5,6,7,8,9,10,11,12],[0,1,3,4,5,6,7,8,9,10,11,12,13],[0,1,2,2,3,4,5,6,7,8,9,10,11,12,13,14],[0,1,2,3,4,5,6,7,8,9,10,11,12,13,14,15],[0,1,2,3,4,5,6,7,8,9,10,11,12,13,14,15,16],[0,1,2,3,4,5,6,7,8,9,10,11,12,13,14,15,16,17]] [(false,0),(false,1),(false,2),(false,3),(false,5),(false,7),(false,8),(false,9),(true,10),(true,6),(true,4),(false,11),(false,12),(false,13),(true,14),(false,15),(false,16),(false,17),(true,18)]))) (.node 10 4 (.leaf [[],[],[],[],[3,3],[],[0,1,3,4,5,7,8,9,10,11,12,13,14],[0,0],[0,7],[0,7,8],[0,3,4,7,8,9],[0,1,1,3,4,7,8,9,10],[0,1,3,4,7,8,9,10,11],[0,1,3,4,7,8,9,10,11,12],[0,1,3,4,7,8,9,10,11,12,13],[0,1,2,2,3,4,5,6,7,8,9,10,11,12,13,14],[0,1,2,3,4,5,6,7,8,9,10,11,12,13,14,15],[0,1,2,3,4,5,6,7,8,9,10,11,12,13,14,15,16],[0,1,2,3,4,5,6,7,8,9,10,11,12,13,14,15,16,17]] [(false,0),(false,1),(false,2),(false,3),(false,5),(false,7),(false,8),(false,9),(true,4),(true,10),(false,11),(false,12),(false,13),(true,14),(true,6),(false,15),(false,16),(false,17),(true,18)]) (.leaf [[],[],[],[],[0,3,7,8,9,10],[],[0,1,3,4,5,7,8,9,10,11,12,13,14],[0,0],[0,7],[0,7,8],[0,7,8,9],[0,1,1,3,4,7,8,9,10],[0,1,3,4,7,8,9,10,11],[0,1,3,4,7,8,9,10,11,12],[0,1,3,4,7,8,9,10,11,12,13],[0,1,2,2,3,4,5,6,7,8,9,10,11,12,13,14],[0,1,2,3,4,5,6,7,8,9,10,11,12,13,14,15],[0,1,2,3,4,5,6,7,8,9,10,11,12,13,14,15,16],[0,1,2,3,4,5,6,7,8,9,10,11,12,13,14,15,16,17]] [(false,0),(false,1),(false,2),(false,3),(false,5),(false,7),(false,8),(false,9),(true,10),(true,4),(false,11),(false,12),(false,13),(true,14),(true,6),(false,15),(false,16),(false,17),(true,18)]))) (by kernel_rfl)<|H8 ?_ ?_
  ·refine H8 ?_ ?_
   ·refine H8 ?_ ?_
    ·refine H8 ?_ ?_
     ·refine Fu<|Y (.q ids 0 g) O O Aa<|Y (.q ids 0 g) O O Aa<|Y (.q ids 0 g) O O Aa<|Y (.I n) O O Aa<|Y (.I n) O O Aa<|Y (.q ids 0 g) O O (Aq O) ?_
      refine Y (.q ids 0 g) O O (Ai (Af (c:=0) (off:=0) (i:=0) Bf O Ar O))<|Y (.ptr (ix ids 0) g 0 5) O O (Ai (Af (c:=0) (off:=5) (i:=5) Ar O Av O))<|Ce fun hl=>Ck O O (fun _ _=>O) (fun K hK=>Df (y:=(false:Bool)) (e:=rB) (st:=1) (j:=1) hI O O O Cr Gq O O hl.1 hl.2.1 hl.2.2 O O O O O fun v1 g1 vH=>hK _ _ (Ac O (Ai (Af (c:=0) (off:=5) (i:=5) Ar O Av O)) (Ac O (Ai (Af (c:=0) (off:=0) (i:=0) Bf O Ar O)) (Ac O (Aq O) (Ac O Aa (Au O (Ac O Aa (Ac O Aa (Ac O Aa As)))))))) ?_)
      clear hK K
      refine Ce fun hl1=>Ck O O (fun _ _=>O) (fun K hK=>Df (y:=(0:Int)) (e:=(rI .i64)) (st:=1) (j:=2) hI O O O Bw Av O O hl1.1 hl1.2.1 hl1.2.2 O O O O O fun v2 g2 vH1=>hK _ _ (Ac O (Ai (Af (c:=0) (off:=5) (i:=5) Ar O Av O)) (Ac O (Ai (Af (c:=0) (off:=0) (i:=0) Bf O Ar O)) (Ac O (Aq O) (A8 O (Ac O Aa (Ac O Aa (Ac O Aa As))))))) ?_)
      clear hK K
      refine Bl O (fun _ _=>O) (fun K hK=>A3 (A6 (v:=(.I 0)) hI O O O O Av O O O O O) (hK _ _ (A9 O (Au O (Ac O Aa (Ac O Aa (Au O As))))) ?_))
      clear hK K
      refine Y (.q ids 0 g) O O (Aq O)<|Y (.q ids 0 g) O O (Ai (Af (c:=0) (off:=0) (i:=0) Bf O Ar O))<|Y (.ptr (ix ids 0) g 0 7) O O (Ai (Af (c:=0) (off:=7) (i:=7) Ar O Cr O))<|Bl O (fun _ _=>O) (fun K hK=>A3 (Ca vH hI O O O O Cr O O O) (hK _ _ (Bb O (Ac O Aa (A8 O As))) ?_))
      clear hK K
      refine Y (.q ids 0 g) O O (Aq O)<|Y (.q ids 0 g) O O (Ai (Af (c:=0) (off:=0) (i:=0) Bf O Ar O))<|Y (.ptr (ix ids 0) g 0 8) O O (Ai (Af (c:=0) (off:=8) (i:=8) Ar O Bw O))<|Bl O (fun _ _=>O) (fun K hK=>A3 (Ca vH1 hI O O O O Bw O O O) (hK _ _ (Bb O (A9 O (A8 O As))) ?_))
      clear hK K
      refine Be<|Az ?_
      exact Bn (hJ ((List.replicate (Int.toNat n) false),(List.replicate (Int.toNat n) (0:Int))) _ _ ⟨v1,g1,v2,g2,vH,vH1,O,O⟩)
     refine Fu<|Ce fun hl3=>Ce fun hl2=>Y (.q ids 0 g) O O Aa<|Y (.q ids 0 g) O O Aa<|Y (.q ids 0 g) O O Aa<|Y (.I n) O O Aa ?_
     refine Y (.I n) O O Aa<|Y (.q ids 0 g) O O (Aq O)<|Y (.q ids 0 g) O O (Ai (Af (c:=0) (off:=0) (i:=0) Bf O Ar O))<|Y (.ptr (ix ids 0) g 0 5) O O (Ai (Af (c:=0) (off:=5) (i:=5) Ar O Av O))<|Ck O O (fun _ _=>O) (fun K hK=>Df (y:=(0:Int)) (e:=(rI .i64)) (st:=1) (j:=2) hI O O O Bw Av O O hl2.1 hl2.2.1 hl2.2.2 O O O O O fun v3 g3 vH2=>hK _ _ (Ac O (Ai (Af (c:=0) (off:=5) (i:=5) Ar O Av O)) (Ac O (Ai (Af (c:=0) (off:=0) (i:=0) Bf O Ar O)) (Ac O (Aq O) (Au O (Ac O Aa (Ac O Aa (Ac O Aa (Ac O Aa As)))))))) ?_)
     clear hK K
     refine Ck O O (fun _ _=>O) (fun K hK=>Df (y:=(false:Bool)) (e:=rB) (st:=1) (j:=1) hI O O O Cr Gq O O hl3.1 hl3.2.1 hl3.2.2 O O O O O fun v4 g4 vH3=>hK _ _ (Ac O (Ai (Af (c:=0) (off:=5) (i:=5) Ar O Av O)) (Ac O (Ai (Af (c:=0) (off:=0) (i:=0) Bf O Ar O)) (Ac O (Aq O) (A8 O (Ac O Aa (Ac O Aa (Ac O Aa As))))))) ?_)
     clear hK K
     refine Bl O (fun _ _=>O) (fun K hK=>A3 (A6 (v:=(.I 0)) hI O O O O Av O O O O O) (hK _ _ (A9 O (Au O (Ac O Aa (Ac O Aa (Au O As))))) ?_))
     clear hK K
     refine Y (.q ids 0 g) O O (Aq O)<|Y (.q ids 0 g) O O (Ai (Af (c:=0) (off:=0) (i:=0) Bf O Ar O))<|Y (.ptr (ix ids 0) g 0 7) O O (Ai (Af (c:=0) (off:=7) (i:=7) Ar O Cr O))<|Bl O (fun _ _=>O) (fun K hK=>A3 (Ca vH3 hI O O O O Cr O O O) (hK _ _ (Bb O (Ac O Aa (A8 O As))) ?_))
     clear hK K
     refine Y (.q ids 0 g) O O (Aq O)<|Y (.q ids 0 g) O O (Ai (Af (c:=0) (off:=0) (i:=0) Bf O Ar O))<|Y (.ptr (ix ids 0) g 0 8) O O (Ai (Af (c:=0) (off:=8) (i:=8) Ar O Bw O))<|Bl O (fun _ _=>O) (fun K hK=>A3 (Ca vH2 hI O O O O Bw O O O) (hK _ _ (Bb O (A9 O (A8 O As))) ?_))
     clear hK K
     refine Be<|Az ?_
     exact Bn (hJ ((List.replicate (Int.toNat n) false),(List.replicate (Int.toNat n) (0:Int))) _ _ ⟨v4,g4,v3,g3,vH3,vH2,O,O⟩)
    refine Fu<|Ce fun hl5=>Ce fun hl4=>Y (.q ids 0 g) O O Aa<|Y (.q ids 0 g) O O Aa<|Y (.q ids 0 g) O O Aa<|Y (.I n) O O Aa ?_
    refine Y (.I n) O O Aa<|Y (.q ids 0 g) O O (Aq O)<|Y (.q ids 0 g) O O (Ai (Af (c:=0) (off:=0) (i:=0) Bf O Ar O))<|Y (.ptr (ix ids 0) g 0 5) O O (Ai (Af (c:=0) (off:=5) (i:=5) Ar O Av O))<|Ck O O (fun _ _=>O) (fun K hK=>Df (y:=(0:Int)) (e:=(rI .i64)) (st:=1) (j:=2) hI O O O Bw Av O O hl4.1 hl4.2.1 hl4.2.2 O O O O O fun v5 g5 vH4=>hK _ _ (Ac O (Ai (Af (c:=0) (off:=5) (i:=5) Ar O Av O)) (Ac O (Ai (Af (c:=0) (off:=0) (i:=0) Bf O Ar O)) (Ac O (Aq O) (Au O (Ac O Aa (Ac O Aa (Ac O Aa (Ac O Aa As)))))))) ?_)
    clear hK K
    refine Bl O (fun _ _=>O) (fun K hK=>A3 (A6 (v:=(.I 0)) hI O O O O Av O O O O O) (hK _ _ (A9 O (Ac O Aa (Ac O Aa (Ac O Aa (Au O As))))) ?_))
    clear hK K
    refine Ck O O (fun _ _=>O) (fun K hK=>Df (y:=(false:Bool)) (e:=rB) (st:=1) (j:=1) hI O O O Cr Gq O O hl5.1 hl5.2.1 hl5.2.2 O O O O O fun v6 g6 vH5=>hK _ _ (A9 O (Au O (Ac O Aa (Ac O Aa (Au O As))))) ?_)
    clear hK K
    refine Y (.q ids 0 g) O O (Aq O)<|Y (.q ids 0 g) O O (Ai (Af (c:=0) (off:=0) (i:=0) Bf O Ar O))<|Y (.ptr (ix ids 0) g 0 7) O O (Ai (Af (c:=0) (off:=7) (i:=7) Ar O Cr O))<|Bl O (fun _ _=>O) (fun K hK=>A3 (Ca vH5 hI O O O O Cr O O O) (hK _ _ (Bb O (Ac O Aa (A8 O As))) ?_))
    clear hK K
    refine Y (.q ids 0 g) O O (Aq O)<|Y (.q ids 0 g) O O (Ai (Af (c:=0) (off:=0) (i:=0) Bf O Ar O))<|Y (.ptr (ix ids 0) g 0 8) O O (Ai (Af (c:=0) (off:=8) (i:=8) Ar O Bw O))<|Bl O (fun _ _=>O) (fun K hK=>A3 (Ca vH4 hI O O O O Bw O O O) (hK _ _ (Bb O (A9 O (A8 O As))) ?_))
    clear hK K
    refine Be<|Az ?_
    exact Bn (hJ ((List.replicate (Int.toNat n) false),(List.replicate (Int.toNat n) (0:Int))) _ _ ⟨v6,g6,v5,g5,vH5,vH4,O,O⟩)
   refine H8 ?_ ?_
   ·refine H8 ?_ ?_
    ·refine Fu<|Ce fun hl6=>Ce fun hl7=>Y (.q ids 0 g) O O Aa<|Y (.q ids 0 g) O O Aa<|Y (.q ids 0 g) O O Aa<|Y (.I n) O O Aa ?_
     refine Y (.I n) O O Aa<|Y (.q ids 0 g) O O (Aq O)<|Y (.q ids 0 g) O O (Ai (Af (c:=0) (off:=0) (i:=0) Bf O Ar O))<|Y (.ptr (ix ids 0) g 0 5) O O (Ai (Af (c:=0) (off:=5) (i:=5) Ar O Av O))<|Ck O O (fun _ _=>O) (fun K hK=>Df (y:=(false:Bool)) (e:=rB) (st:=1) (j:=1) hI O O O Cr Gq O O hl6.1 hl6.2.1 hl6.2.2 O O O O O fun v7 g7 vH6=>hK _ _ (Ac O (Ai (Af (c:=0) (off:=5) (i:=5) Ar O Av O)) (Ac O (Ai (Af (c:=0) (off:=0) (i:=0) Bf O Ar O)) (Ac O (Aq O) (Ac O Aa (Au O (Ac O Aa (Ac O Aa (Ac O Aa As)))))))) ?_)
     clear hK K
     refine Bl O (fun _ _=>O) (fun K hK=>A3 (A6 (v:=(.I 0)) hI O O O O Av O O O O O) (hK _ _ (A8 O (Au O (Ac O Aa (Au O (Ac O Aa (Ac O Aa (Au O As))))))) ?_))
     clear hK K
     refine Y (.q ids 0 g) O O (Aq O)<|Y (.q ids 0 g) O O (Ai (Af (c:=0) (off:=0) (i:=0) Bf O Ar O))<|Y (.ptr (ix ids 0) g 0 7) O O (Ai (Af (c:=0) (off:=7) (i:=7) Ar O Cr O))<|Ck O O (fun _ _=>O) (fun K hK=>Df (y:=(0:Int)) (e:=(rI .i64)) (st:=1) (j:=2) hI O O O Bw Av O O hl7.1 hl7.2.1 hl7.2.2 O O O O O fun v8 g8 vH7=>hK _ _ (Ac O (Ai (Af (c:=0) (off:=7) (i:=7) Ar O Cr O)) (Ac O (Ai (Af (c:=0) (off:=0) (i:=0) Bf O Ar O)) (Ac O (Aq O) (A9 O (Au O (Ac O Aa (Ac O Aa (Au O As)))))))) ?_)
     clear hK K
     refine Bl O (fun _ _=>O) (fun K hK=>A3 (Ca vH6 hI O O O O Cr O O O) (hK _ _ (Bb O (Ac O Aa (A8 O As))) ?_))
     clear hK K
     refine Y (.q ids 0 g) O O (Aq O)<|Y (.q ids 0 g) O O (Ai (Af (c:=0) (off:=0) (i:=0) Bf O Ar O))<|Y (.ptr (ix ids 0) g 0 8) O O (Ai (Af (c:=0) (off:=8) (i:=8) Ar O Bw O))<|Bl O (fun _ _=>O) (fun K hK=>A3 (Ca vH7 hI O O O O Bw O O O) (hK _ _ (Bb O (A9 O (A8 O As))) ?_))
     clear hK K
     refine Be<|Az ?_
     exact Bn (hJ ((List.replicate (Int.toNat n) false),(List.replicate (Int.toNat n) (0:Int))) _ _ ⟨v7,g7,v8,g8,vH6,vH7,O,O⟩)
    refine Fu<|Ce fun hl8=>Ce fun hl9=>Y (.q ids 0 g) O O Aa<|Y (.q ids 0 g) O O Aa<|Y (.q ids 0 g) O O Aa<|Y (.I n) O O Aa ?_
    refine Y (.I n) O O Aa<|Y (.q ids 0 g) O O (Aq O)<|Y (.q ids 0 g) O O (Ai (Af (c:=0) (off:=0) (i:=0) Bf O Ar O))<|Y (.ptr (ix ids 0) g 0 5) O O (Ai (Af (c:=0) (off:=5) (i:=5) Ar O Av O))<|Bl O (fun _ _=>O) (fun K hK=>A3 (A6 (v:=(.I 0)) hI O O O O Av O O O O O) (hK _ _ (A8 O (Au O (Ac O Aa (Ac O Aa (Ac O Aa (Ac O Aa (Au O As))))))) ?_))
    clear hK K
    refine Ck O O (fun _ _=>O) (fun K hK=>Df (y:=(false:Bool)) (e:=rB) (st:=1) (j:=1) hI O O O Cr Gq O O hl8.1 hl8.2.1 hl8.2.2 O O O O O fun v9 g9 vH8=>hK _ _ (A8 O (Au O (Ac O Aa (Au O (Ac O Aa (Ac O Aa (Au O As))))))) ?_)
    clear hK K
    refine Y (.q ids 0 g) O O (Aq O)<|Y (.q ids 0 g) O O (Ai (Af (c:=0) (off:=0) (i:=0) Bf O Ar O))<|Y (.ptr (ix ids 0) g 0 7) O O (Ai (Af (c:=0) (off:=7) (i:=7) Ar O Cr O))<|Ck O O (fun _ _=>O) (fun K hK=>Df (y:=(0:Int)) (e:=(rI .i64)) (st:=1) (j:=2) hI O O O Bw Av O O hl9.1 hl9.2.1 hl9.2.2 O O O O O fun v10 g10 vH9=>hK _ _ (Ac O (Ai (Af (c:=0) (off:=7) (i:=7) Ar O Cr O)) (Ac O (Ai (Af (c:=0) (off:=0) (i:=0) Bf O Ar O)) (Ac O (Aq O) (A9 O (Au O (Ac O Aa (Ac O Aa (Au O As)))))))) ?_)
    clear hK K
    refine Bl O (fun _ _=>O) (fun K hK=>A3 (Ca vH8 hI O O O O Cr O O O) (hK _ _ (Bb O (Ac O Aa (A8 O As))) ?_))
    clear hK K
    refine Y (.q ids 0 g) O O (Aq O)<|Y (.q ids 0 g) O O (Ai (Af (c:=0) (off:=0) (i:=0) Bf O Ar O))<|Y (.ptr (ix ids 0) g 0 8) O O (Ai (Af (c:=0) (off:=8) (i:=8) Ar O Bw O))<|Bl O (fun _ _=>O) (fun K hK=>A3 (Ca vH9 hI O O O O Bw O O O) (hK _ _ (Bb O (A9 O (A8 O As))) ?_))
    clear hK K
    refine Be<|Az ?_
    exact Bn (hJ ((List.replicate (Int.toNat n) false),(List.replicate (Int.toNat n) (0:Int))) _ _ ⟨v9,g9,v10,g10,vH8,vH9,O,O⟩)
   refine Fu<|Ce fun hl11=>Ce fun hl10=>Y (.q ids 0 g) O O Aa<|Y (.q ids 0 g) O O Aa<|Y (.q ids 0 g) O O Aa<|Y (.I n) O O Aa ?_
   refine Y (.I n) O O Aa<|Y (.q ids 0 g) O O (Aq O)<|Y (.q ids 0 g) O O (Ai (Af (c:=0) (off:=0) (i:=0) Bf O Ar O))<|Y (.ptr (ix ids 0) g 0 5) O O (Ai (Af (c:=0) (off:=5) (i:=5) Ar O Av O))<|Bl O (fun _ _=>O) (fun K hK=>A3 (A6 (v:=(.I 0)) hI O O O O Av O O O O O) (hK _ _ (A8 O (Au O (Ac O Aa (Ac O Aa (Ac O Aa (Ac O Aa (Au O As))))))) ?_))
   clear hK K
   refine Ck O O (fun _ _=>O) (fun K hK=>Df (y:=(0:Int)) (e:=(rI .i64)) (st:=1) (j:=2) hI O O O Bw Av O O hl10.1 hl10.2.1 hl10.2.2 O O O O O fun v11 g11 vH10=>hK _ _ (A9 O (Ac O Aa (Ac O Aa (Ac O Aa (Au O As))))) ?_)
   clear hK K
   refine Ck O O (fun _ _=>O) (fun K hK=>Df (y:=(false:Bool)) (e:=rB) (st:=1) (j:=1) hI O O O Cr Gq O O hl11.1 hl11.2.1 hl11.2.2 O O O O O fun v12 g12 vH11=>hK _ _ (A9 O (Au O (Ac O Aa (Ac O Aa (Au O As))))) ?_)
   clear hK K
   refine Y (.q ids 0 g) O O (Aq O)<|Y (.q ids 0 g) O O (Ai (Af (c:=0) (off:=0) (i:=0) Bf O Ar O))<|Y (.ptr (ix ids 0) g 0 7) O O (Ai (Af (c:=0) (off:=7) (i:=7) Ar O Cr O))<|Bl O (fun _ _=>O) (fun K hK=>A3 (Ca vH11 hI O O O O Cr O O O) (hK _ _ (Bb O (Ac O Aa (A8 O As))) ?_))
   clear hK K
   refine Y (.q ids 0 g) O O (Aq O)<|Y (.q ids 0 g) O O (Ai (Af (c:=0) (off:=0) (i:=0) Bf O Ar O))<|Y (.ptr (ix ids 0) g 0 8) O O (Ai (Af (c:=0) (off:=8) (i:=8) Ar O Bw O))<|Bl O (fun _ _=>O) (fun K hK=>A3 (Ca vH10 hI O O O O Bw O O O) (hK _ _ (Bb O (A9 O (A8 O As))) ?_))
   clear hK K
   refine Be<|Az ?_
   exact Bn (hJ ((List.replicate (Int.toNat n) false),(List.replicate (Int.toNat n) (0:Int))) _ _ ⟨v12,g12,v11,g11,vH11,vH10,O,O⟩)
  refine H8 ?_ ?_
  ·refine Fu<|Ce fun hl12=>Ce fun hl13=>Y (.q ids 0 g) O O Aa<|Y (.q ids 0 g) O O Aa<|Y (.q ids 0 g) O O Aa<|Y (.I n) O O Aa ?_
   refine Y (.I n) O O Aa<|Y (.q ids 0 g) O O (Aq O)<|Y (.q ids 0 g) O O (Ai (Af (c:=0) (off:=0) (i:=0) Bf O Ar O))<|Y (.ptr (ix ids 0) g 0 5) O O (Ai (Af (c:=0) (off:=5) (i:=5) Ar O Av O))<|Ck O O (fun _ _=>O) (fun K hK=>Df (y:=(false:Bool)) (e:=rB) (st:=1) (j:=1) hI O O O Cr Gq O O hl12.1 hl12.2.1 hl12.2.2 O O O O O fun v13 g13 vH12=>hK _ _ (Ac O (Ai (Af (c:=0) (off:=5) (i:=5) Ar O Av O)) (Ac O (Ai (Af (c:=0) (off:=0) (i:=0) Bf O Ar O)) (Ac O (Aq O) (Ac O Aa (Au O (Ac O Aa (Ac O Aa (Ac O Aa As)))))))) ?_)
   clear hK K
   refine Bl O (fun _ _=>O) (fun K hK=>A3 (A6 (v:=(.I 0)) hI O O O O Av O O O O O) (hK _ _ (A8 O (Au O (Ac O Aa (Au O (Ac O Aa (Ac O Aa (Au O As))))))) ?_))
   clear hK K
   refine Y (.q ids 0 g) O O (Aq O)<|Y (.q ids 0 g) O O (Ai (Af (c:=0) (off:=0) (i:=0) Bf O Ar O))<|Y (.ptr (ix ids 0) g 0 7) O O (Ai (Af (c:=0) (off:=7) (i:=7) Ar O Cr O))<|Bl O (fun _ _=>O) (fun K hK=>A3 (Ca vH12 hI O O O O Cr O O O) (hK _ _ (A9 O (A8 O (Ac O Aa (Au O (Ac O Aa (A8 O As)))))) ?_))
   clear hK K
   refine Ck O O (fun _ _=>O) (fun K hK=>Df (y:=(0:Int)) (e:=(rI .i64)) (st:=1) (j:=2) hI O O O Bw Av O O hl13.1 hl13.2.1 hl13.2.2 O O O O O fun v14 g14 vH13=>hK _ _ (Bb O (Ac O Aa (A8 O As))) ?_)
   clear hK K
   refine Y (.q ids 0 g) O O (Aq O)<|Y (.q ids 0 g) O O (Ai (Af (c:=0) (off:=0) (i:=0) Bf O Ar O))<|Y (.ptr (ix ids 0) g 0 8) O O (Ai (Af (c:=0) (off:=8) (i:=8) Ar O Bw O))<|Bl O (fun _ _=>O) (fun K hK=>A3 (Ca vH13 hI O O O O Bw O O O) (hK _ _ (Bb O (A9 O (A8 O As))) ?_))
   clear hK K
   refine Be<|Az ?_
   exact Bn (hJ ((List.replicate (Int.toNat n) false),(List.replicate (Int.toNat n) (0:Int))) _ _ ⟨v13,g13,v14,g14,vH12,vH13,O,O⟩)
  refine Fu<|Ce fun hl14=>Ce fun hl15=>Y (.q ids 0 g) O O Aa<|Y (.q ids 0 g) O O Aa<|Y (.q ids 0 g) O O Aa<|Y (.I n) O O Aa ?_
  refine Y (.I n) O O Aa<|Y (.q ids 0 g) O O (Aq O)<|Y (.q ids 0 g) O O (Ai (Af (c:=0) (off:=0) (i:=0) Bf O Ar O))<|Y (.ptr (ix ids 0) g 0 5) O O (Ai (Af (c:=0) (off:=5) (i:=5) Ar O Av O))<|Bl O (fun _ _=>O) (fun K hK=>A3 (A6 (v:=(.I 0)) hI O O O O Av O O O O O) (hK _ _ (A8 O (Au O (Ac O Aa (Ac O Aa (Ac O Aa (Ac O Aa (Au O As))))))) ?_))
  clear hK K
  refine Ck O O (fun _ _=>O) (fun K hK=>Df (y:=(false:Bool)) (e:=rB) (st:=1) (j:=1) hI O O O Cr Gq O O hl14.1 hl14.2.1 hl14.2.2 O O O O O fun v15 g15 vH14=>hK _ _ (A8 O (Au O (Ac O Aa (Au O (Ac O Aa (Ac O Aa (Au O As))))))) ?_)
  clear hK K
  refine Y (.q ids 0 g) O O (Aq O)<|Y (.q ids 0 g) O O (Ai (Af (c:=0) (off:=0) (i:=0) Bf O Ar O))<|Y (.ptr (ix ids 0) g 0 7) O O (Ai (Af (c:=0) (off:=7) (i:=7) Ar O Cr O))<|Bl O (fun _ _=>O) (fun K hK=>A3 (Ca vH14 hI O O O O Cr O O O) (hK _ _ (A9 O (A8 O (Ac O Aa (Au O (Ac O Aa (A8 O As)))))) ?_))
  clear hK K
  refine Ck O O (fun _ _=>O) (fun K hK=>Df (y:=(0:Int)) (e:=(rI .i64)) (st:=1) (j:=2) hI O O O Bw Av O O hl15.1 hl15.2.1 hl15.2.2 O O O O O fun v16 g16 vH15=>hK _ _ (Bb O (Ac O Aa (A8 O As))) ?_)
  clear hK K
  refine Y (.q ids 0 g) O O (Aq O)<|Y (.q ids 0 g) O O (Ai (Af (c:=0) (off:=0) (i:=0) Bf O Ar O))<|Y (.ptr (ix ids 0) g 0 8) O O (Ai (Af (c:=0) (off:=8) (i:=8) Ar O Bw O))<|Bl O (fun _ _=>O) (fun K hK=>A3 (Ca vH15 hI O O O O Bw O O O) (hK _ _ (Bb O (A9 O (A8 O As))) ?_))
  clear hK K
  refine Be<|Az ?_
  exact Bn (hJ ((List.replicate (Int.toNat n) false),(List.replicate (Int.toNat n) (0:Int))) _ _ ⟨v15,g15,v16,g16,vH14,vH15,O,O⟩)
 refine Cs O (fun hc=>?_) (fun hc=>?_)
 ·refine Z<|Ak 6 [0] [(2,(.I s_ReplicaMany))] ?_
  refine Ae<|Bn (hJ1 s_ReplicaMany _ _ ⟨O,O⟩)
 refine Bg<|Bn (hJ1 0 _ _ ⟨O,O⟩)
theorem Pz (id:Int)(many:Int):CP Tryz.prog 6 [(.int .i64 id),(.int .i64 many)] (Iv id many) (fun(p:(Replica×Int))=>AV.tup [(.agg (Ao p.1)),(.int .i64 p.2)]):=by
 refine Da (n:=28) 4 Tryz.func6 O (by decide) O O fun h0 ids hI=>B4 (Ax (Iv.eq_1 _ _) ?_)
 refine Ab<|Z<|Cc (j:=0) hI O O O O Ar O fun g=>Ad (.I 0) O At<|Ae<|Az ?_
 refine Ab<|Ab<|Z<|Ad (.I many) O Aa<|Bh [(.I many),(.I 1),(.I 5)] O O O O ((De many 1 5) _) (fun v _=>Bk Tryz.func6 hI) fun r _=>Ak 2 [] [(10,(.bool (!r)))] ?_
 refine Dj 6 ((fun(b:Bool)=>if b then(.ok (({ ID:=0,Many:=0,Term:=0,Vote:=0,Log:=[],Role:=0,Commit:=0,Votes:=[],Match:=[] }:Replica),470)) else((Lf id many 0 (-1) 0 0).bind fun _=>(Ia id many 0 (-1) 0 0).bind fun r2=>.ok (({ ID:=id,Many:=many,Term:=0,Vote:=(-1),Log:=[],Role:=0,Commit:=0,Votes:=r2.1,Match:=r2.2 }:Replica),0))):Bool→R (Replica×Int)) (fun(b:Bool) (fr:Nat→AV) (h:Ah)=>fr=A0 [(0,(.I id)),(1,(.I many)),(4,(.q ids 0 g)),(16,(.bool b))]∧h=hp h0 ids [(some (.rows g 9 [[(.I 0),(.I 0),(.I 0),(.I 0),.emp,(.I 0),(.I 0),.emp,.emp]])),none,none,none]) ?_ fun hJ=>Dy (fun hb1=>?_) (fun hb1=>?_)
 ·rintro b fr h ⟨rfl,rfl⟩
  refine Ae<|Cs O (fun hc=>?_) (fun hc=>?_)
  ·refine Ab<|Z<|Ak 1 [0] [(17,(.agg [(.I 0),(.I 0),(.I 0),(.I 0),.emp,(.I 0),(.I 0),.emp,.emp]))] ?_
   refine A4 (A6 (v:=(.agg [(.I 0),(.I 0),(.I 0),(.I 0),.emp,(.I 0),(.I 0),.emp,.emp])) hI O O O O Ar O O O O O)<|Ad (.I 470) O At<|Ae<|B6 (a:=(({ ID:=0,Many:=0,Term:=0,Vote:=0,Log:=[],Role:=0,Commit:=0,Votes:=[],Match:=[] }:Replica),470)) (vs:=[(.agg [(.I 0),(.I 0),(.I 0),(.I 0),.emp,(.I 0),(.I 0),.emp,.emp]),(.I 470)]) Tryz.func6 hI (B2 (Ap hI O O O Ar O) (C2 Cg)) (.tupL (.cons (.aggL (.cons (.same _) (.cons (.same _) (.cons (.same _) (.cons (.same _) (.cons (.emp _) (.cons (.same _) (.cons (.same _) (.cons (.emp _) (.cons (.emp _) .nil)))))))))) (.cons (.same _) .nil)))
  refine Bg<|Ab<|Z<|Ak 3 [] [(20,(.agg [(.I id),(.I many),(.I 0),(.I (-1)),.emp,(.I 0),(.I 0),.emp,.emp]))] ?_
  refine Cn [1] hI O O (Y0 id many 0 (-1) 0 0 _ (ix ids 1) (by exact hI.sub' O O)) O O O O O O (fun v _=>Bk Tryz.func6 hI) ?_
  rintro _ _ _ _ ⟨g1,rfl,rfl⟩
  refine D3 [1] hI O O O ?_
  refine C3<|Ad (.q ids 1 g1) O At<|Ae<|Az ?_
  refine Ab<|Z<|Ad (.q ids 1 g1) O Aa<|Cn [1,2,3] hI O O (U0 id many 0 (-1) 0 0 _ (ix ids 1) (ix ids 2) (ix ids 3) .emp .emp .emp .emp g1 (by exact hI.sub' O O)) O O O O O O (fun v _=>Bk Tryz.func6 hI) ?_
  rintro r2 _ _ _ ⟨v,g2,v1,g3,vH,vH1,rfl,rfl⟩
  refine D3 [1,2,3] hI O O O ?_
  refine C3<|Ae<|Az ?_
  refine Ab<|Z<|Ak 4 [1] [(27,(.agg [(.I id),(.I many),(.I 0),(.I (-1)),.emp,(.I 0),(.I 0),v,v1]))] ?_
  refine A4 (A6 (v:=(.agg [(.I id),(.I many),(.I 0),(.I (-1)),.emp,(.I 0),(.I 0),v,v1])) hI O O O O Ar O O O O (An O (An O (An O (An O (An O (An O (An O (An (Bc.flat vH) (An (Bc.flat vH1) Dr))))))))))<|Ad (.I 0) O At<|Ae<|Az ?_
  exact B6 (a:=(({ ID:=id,Many:=many,Term:=0,Vote:=(-1),Log:=[],Role:=0,Commit:=0,Votes:=r2.1,Match:=r2.2 }:Replica),0)) (vs:=[(.agg [(.I id),(.I many),(.I 0),(.I (-1)),.emp,(.I 0),(.I 0),v,v1]),(.I 0)]) Tryz.func6 hI (B2 (Ap hI O O O Ar O) (C2 Cg)) (.tupL (.cons (.aggL (.cons (.same _) (.cons (.same _) (.cons (.same _) (.cons (.same _) (.cons (.emp _) (.cons (.same _) (.cons (.same _) (.cons (Dg vH (hI.at O O) (hI.out O) (fun x=>Qi x)) (.cons (Dg vH1 (hI.at O O) (hI.out O) (fun x=>Il x)) .nil)))))))))) (.cons (.same _) .nil)))
 ·refine Ba (t:=10) hb1 O<|Ak 6 [] [(16,(.bool true))] ?_
  refine Bm<|Cf [(0,(.I id)),(1,(.I many)),(4,(.q ids 0 g)),(16,(.bool true))] (FI O)<|hJ true _ _ ⟨O,O⟩
 refine Ba (t:=10) hb1 O<|Ak 3 [] [(13,(.I (IntKind.wrap .i64 (many - 1)))),(11,(.I id))] ?_
 refine Bh [(.I id),(.I 0),(.I (IntKind.wrap .i64 (many - 1)))] O (Cx (tj:=10) O O) O O ((De id 0 (IntKind.wrap .i64 (many - 1))) _) (fun v _=>Bk Tryz.func6 hI) fun r1 _=>Ak 2 [] [(16,(.bool (!r1)))] ?_
 refine Bm<|Cf [(0,(.I id)),(1,(.I many)),(4,(.q ids 0 g)),(16,(.bool (!r1)))] (FI O)<|hJ (!r1) _ _ ⟨O,O⟩
theorem D8 (ok:Bool)(e:Int):CP Tryz.prog 46 [(.bool ok),(.int .i64 e)] (Bj ok e) (fun(_:Unit)=>AV.tup []):=by
 refine Da (n:=9) 0 Tryz.func46 O (by decide) O O fun h0 ids hI=>B4 (Ax (Bj.eq_1 _ _) ?_)
 refine Ab<|Z<|Ak 2 [] [(5,(.bool (!ok)))] ?_
 refine Ae<|Mt O (fun hc=>?_) (fun hc=>?_)
 ·refine Bg<|Aee (a:=()) (vs:=[]) Tryz.func46 hI O (.tupL .nil)
 refine Z<|Ak 3 [] [(8,(.iface 99 (.agg [(.I e)])))] ?_
 exact Aek (v:=⟨99,.one .i64 e⟩) O O (Bk Tryz.func46 hI)
theorem U9 (l:List Record)(term:Int):CP Tryz.prog 47 [(.sl 2 (List.map Ag l)),(.int .i64 term)] (Gh l term) (fun(x:Bool)=>(AV.bool x)):=by
 refine Da (n:=35) 1 Tryz.func47 O (by decide) O O fun h0 ids hI=>B4 (Ax (Gh.eq_1 _ _) ?_)
 refine Ab<|Z<|Ad (.bool false) O At<|Ae<|Ab<|Ab<|Z ?_
 refine Ad (.sl 2 (List.map Ag l)) O Aa<|Ad (.I (l.length:Int)) O (Bp (Br Bd))<|Ad (.I 0) O Aa<|Ae<|Bq<|Fw [(0,(.sl 2 (List.map Ag l))),(1,(.I term)),(7,(.sl 2 (List.map Ag l))),(8,(.I (l.length:Int))),(9,(.I 0))] (FI O)<|Mw (P:=Tryz.prog) l (fun j a=>fun _=>Jr l term j a) ((Ga (fun _=>.ok true) (fun r=>.ok r)):(Unit ⊕ Bool)→R Bool) (fun j=>fun _=>fun(fr:Nat→AV) (h:Ah)=>fr=A0 [(0,(.sl 2 (List.map Ag l))),(1,(.I term)),(7,(.sl 2 (List.map Ag l))),(8,(.I (l.length:Int))),(9,(.I (j:Int)))]∧h=hp h0 ids [none]) () ?_ ?_ ?_
 ·exact⟨O,O⟩
 ·rintro j a ha W hW _ fr h ⟨rfl,rfl⟩
  refine Ax (m':=Jr l term j a) O (Ax (Jr.eq_1 _ _ _ _) ?_)
  refine Ab<|Z<|Ad (.bool (decide ((j:Int)<(l.length:Int)))) O (Bi O O O)<|Ae<|Ab<|K1 (t:=0) (L:=l) O fun hlim=>H0 O (Int.ofNat_lt.2 (B8 ha)) ?_
  refine Bg<|Ab<|Bq<|Ab<|Z<|Ad (.I (j:Int)) O Aa<|Ad (.cp (Ag a) 0) O (By (Kx Bd C6 O ha)) ?_
  refine Ad (.agg (Ag a)) O (Al (Ek C6 O))<|Cc (j:=0) hI O O O O C6 O fun g=>Ad (.I (j:Int)) O At<|A4 (A6 (v:=(.agg (Ag a))) hI O O O O C6 O O O O O)<|Ae<|Az ?_
  refine Ab<|Dp (fun x1=>Hs x1) (fun x1=>fun(fr:Nat→AV) (h:Ah)=>fr=A0 [(0,(.sl 2 (List.map Ag l))),(1,(.I term)),(7,(.sl 2 (List.map Ag l))),(8,(.I (l.length:Int))),(9,(.I (j:Int))),(33,(.bool x1))]∧h=hp h0 ids [none]) ?_ fun hJ=>?_
  ·rintro x1 fr h ⟨rfl,rfl⟩
   refine Ax (Hs.eq_1 _)<|Cs O (fun hc=>?_) (fun hc=>?_)
   ·refine Ab<|Z<|Ad (.bool false) O At<|Ae<|Oz<|Mf<|B6 (a:=false) (vs:=[(.bool false)]) Tryz.func47 hI O (.same _)
   refine Bg<|Bs<|Z<|Ak 2 [] [(9,(.I (IntKind.wrap .i64 ((j:Int)+1))))] ?_
   refine Ae<|Bn (O1 (hW () _ _ ⟨O,O⟩)) (.cons O (.cons O (.cons O (.cons O (.cons (If (B8 ha) hlim) .nil)))))
  refine B7 Db [[],[0],[],[0,1,2],[0,1,2,3],[0,1,2,3,4],[0,1,2,3,4,5],[0,1,2,3,4,5,6],[0,1,2,3,4,5,6,7],[0,1,2,3,4,5,6,7,8],[0,1,2,3,4,5,6,7,8],[0,1,2,3,4,5,6,7,8,10],[0,1,2,3,4,5,6,7,8,9,10,11],[0,1,2,3,4,5,6,7,8,9,10,11,12],[0,1,2,3,4,5,6,7,8,9,10,11,12,13],[0,1,2,3,4,5,6,7,8],[0,1,2,3,4,5,6,7,8,15],[0,1,2,3,4,5,6,7,8,9,10,11,12,13,14,15,16],[0,1,2,3,4,5,6,7,8,9,10,11,12,13,14,15,16,17],[0,1,2,3,4,5,6,7,8,9,10,11,12,13,14,15,16,17,18]] [(false,0),(false,1),(false,2),(true,3),(false,4),(false,5),(false,6),(false,7),(false,8),(false,9),(false,10),(false,11),(false,12),(false,13),(false,14),(false,15),(false,16),(false,17),(false,18),(false,19)] (by kernel_rfl)<|Y (.q ids 0 g) O O (Ai (Af (c:=0) (off:=0) (i:=0) C6 O Av O))<|Y (.I a.Term) O O (Al (Ap hI O O O Av O))<|Y (.I term) O O Aa<|D1 [(.I a.Term),(.I 1),(.I term)] O O O O O ((De a.Term 1 term) _) (fun v _ _ _=>Bk Tryz.func47 hI) (A8 O (Au O As)) fun r _=>Y (.bool (!r)) O O (P5 O)<|Y (.bool (!r)) O O Aa ?_
  refine Gl (fun hb=>?_) (fun hb=>?_)
  ·refine A2 (tj:=19) (b:=true) O O (congrArg AV.bool hb) O O<|A2 (tj:=19) (b:=true) O O (congrArg AV.bool hb) O O<|A2 (tj:=19) (b:=true) O O (congrArg AV.bool hb) O O<|Ci (tj:=22) O O O O<|Ci (tj:=22) O O O O<|Ci (tj:=22) O O O O<|Ci (tj:=22) O O O O ?_
   refine Ci (tj:=22) O O O O<|Ci (tj:=22) O O O O<|Ci (tj:=22) O O O O<|Ci (tj:=22) O O O O<|Ci (tj:=22) O O O O<|A2 (tj:=19) (b:=true) O O (congrArg AV.bool hb) O O<|Y (.bool true) O O (Bz (t:=true) (congrArg AV.bool hb) O) ?_
   refine Be<|Ez [none] hI O (.drop .nil)<|Bn (hJ true _ _ ⟨O,O⟩)
  refine Ay (tj:=19) (.I (j:Int)) O O (congrArg AV.bool hb) O Aa<|Ay (tj:=19) (.bool (decide ((j:Int) > 0))) O O (congrArg AV.bool hb) O (Bi O O O)<|Ay (tj:=19) (.bool (decide ((j:Int) > 0))) O O (congrArg AV.bool hb) O Aa<|Gl (fun hb1=>?_) (fun hb1=>?_)
  ·refine Ay (tj:=22) (.sl 2 (List.map Ag l)) O O (congrArg AV.bool hb1) O Aa<|Ay (tj:=22) (.I (j:Int)) O O (congrArg AV.bool hb1) O Aa<|Ay (tj:=22) (.I (IntKind.wrap .i64 ((j:Int) - 1))) O O (congrArg AV.bool hb1) O (Bi O O O)<|G1 fun a1 hz hx1=>Ay (tj:=22) (.cp (Ag a1) 0) O O (congrArg AV.bool hb1) O (By (Fa Bd C6 O hz hx1))<|Ay (tj:=22) (.cp (Ag a1) 0) O O (congrArg AV.bool hb1) O (Ai (Ok (c:=0) (off:=0) (i:=0) C6 O Av O))<|Ay (tj:=22) (.I a1.Term) O O (congrArg AV.bool hb1) O (Al (Ek Av O)) ?_
   refine Ay (tj:=22) (.q ids 0 g) O O (congrArg AV.bool hb1) O (Ai (Af (c:=0) (off:=0) (i:=0) C6 O Av O))<|Ay (tj:=22) (.I a.Term) O O (congrArg AV.bool hb1) O (Al (Ap hI O O O Av O))<|Ay (tj:=22) (.bool (decide (a1.Term > a.Term))) O O (congrArg AV.bool hb1) O (Bi O O O)<|Ay (tj:=19) (.bool (decide (a1.Term > a.Term))) O O (congrArg AV.bool hb) O (Bz (t:=true) (congrArg AV.bool hb1) O)<|Y (.bool (decide (a1.Term > a.Term))) O O (Bz (t:=false) (congrArg AV.bool hb) O)<|Be<|Ez [none] hI O (.drop .nil) ?_
   exact Bn (hJ (decide (a1.Term > a.Term)) _ _ ⟨O,O⟩)
  refine A2 (tj:=22) (b:=false) O O (congrArg AV.bool hb1) O O<|A2 (tj:=22) (b:=false) O O (congrArg AV.bool hb1) O O<|A2 (tj:=22) (b:=false) O O (congrArg AV.bool hb1) O O<|A2 (tj:=22) (b:=false) O O (congrArg AV.bool hb1) O O<|A2 (tj:=22) (b:=false) O O (congrArg AV.bool hb1) O O<|A2 (tj:=22) (b:=false) O O (congrArg AV.bool hb1) O O<|A2 (tj:=22) (b:=false) O O (congrArg AV.bool hb1) O O ?_
  refine A2 (tj:=22) (b:=false) O O (congrArg AV.bool hb1) O O<|A2 (tj:=22) (b:=false) O O (congrArg AV.bool hb1) O O<|Ay (tj:=19) (.bool false) O O (congrArg AV.bool hb) O (Bz (t:=false) (congrArg AV.bool hb1) O)<|Y (.bool false) O O (Bz (t:=false) (congrArg AV.bool hb) O)<|Be<|Ez [none] hI O (.drop .nil)<|Bn (hJ false _ _ ⟨O,O⟩)
 rintro _ fr h ⟨rfl,rfl⟩
 refine Ax (O0 _ _ _)<|Ab<|Z<|Ad (.bool (decide ((l.length:Int)<(l.length:Int)))) O (Bi O O O)<|Ae<|Ab<|Hy O (Int.lt_irrefl _) ?_
 refine Ed O<|Ab<|Z<|Ad (.bool true) O At<|Ae<|B6 (a:=true) (vs:=[(.bool true)]) Tryz.func47 hI O (.same _)
theorem Qf (w:AV):CP Tryz.prog 45 [.nili,w] (Jb) (fun(_:Unit)=>AV.tup []):=by
 refine Da (n:=17) 0 Tryz.func45 O (by decide) O O fun h0 ids hI=>B4 (Ax (Jb.eq_1) ?_)
 refine Ab<|Z<|Ad .nili O Aa<|Ae<|Bq<|Ab<|Z ?_
 refine Ad (.bool true) O (Bi O O (Alg Agp))<|Ae<|Nm true O<|Z<|Ad .nili O At<|Ae<|Bs ?_
 exact Aee (a:=()) (vs:=[]) Tryz.func45 hI O (.tupL .nil)
theorem W3 (a0:AV)(h:Ah):J4 Tryz.prog 44 [a0] .ret h (Sb (fun _:Unit=>h) .ret (.ok ())):=by
 refine Pk (n:=3) Tryz.func44 O (by decide) O O ?_ ⟨(),O⟩
 refine B4 (Ax (m':=(Jb).bind fun _ =>   .ok ()) O ?_)
 refine Z<|Yx O<|Bh [.nili,a0] O O O O ((Qf a0) _) (fun v hv=>by unfold Jb at hv; cases hv) fun _ _=>?_
 refine Ae<|Ra Tryz.func44 O O O
theorem O6 (p:T98)(h0:Ah)(o0:Nat)(r:List AV)(g:Nat)(hr:r.length=1)(hI0:Ids h0 [o0] 1):E2 p≠.bad→Bx Tryz.prog 45 [(.iface 99 (.agg (Adm p))),(.ptr o0 g 0 0)] (hp h0 [o0] [some (.rows g 1 [r])]) (El (fun a_ v h'=>v=(.tup [])∧h'=hp h0 [o0] [some (.rows g 1 [[(.int .i64 p.fE)]])]) h0 (E2 p)):=by
 refine Co (n:=17) 1 Tryz.func45 O (by decide) O O hI0 O fun ids he hI=>?_
 clear hI0
 obtain rfl:ix ids 0=o0:=he 0 rfl
 clear he
 refine B4 (Ax (E2.eq_1 _) ?_)
 refine Az ?_
 refine Ab<|Z<|Ad (.iface 99 (.agg (Adm p))) O Aa<|Ae<|Bq<|Ab<|Z ?_
 refine Ad (.bool false) O (Bi O O (Ala Agp))<|Ae<|Nm false O<|Ab<|Z<|Ad (.tup [(.agg (Adm p)),(.bool true)]) O (Ag7 (Aly Ai9 (by decide)))<|Ak 2 [] [(12,(.agg (Adm p))),(11,(.bool true))] ?_
 refine Ae<|Nm true O<|Ab<|Z<|Cc (j:=1) hI O O O O Ai9 O fun g1=>A4 (A6 (v:=(.agg (Adm p))) hI O O O O Ai9 O O O O O)<|Ae ?_
 refine Az ?_
 refine Z<|Ak 4 [1] [(16,(.q ids 0 g)),(15,(.I p.fE))] ?_
 refine A4 (Ys (v:=(.I p.fE)) hI O O O Hl O O O hr O)<|Ae<|Az ?_
 refine Bs<|Fm (K:=1) (N:=1) (a:=()) (vs:=[]) [some (.rows g 1 [[(.I p.fE)]])] Tryz.func45 hI O O O (.keep (.drop .nil)) (.same _) ⟨O,O⟩
theorem Uf (n:Int)(h0:Ah)(ids:List Nat)(hI:Ids h0 ids 1)(g0_:Nat)(r0_:List AV)(hr0_:r0_.length=1):(∃ a,F5 n=.ok a)→J4 Tryz.prog 44 [(.ptr (ix ids 0) g0_ 0 0)] (.pan (.iface 99 (.agg [.int .i64 n])) false) (hp h0 ids [some (.rows g0_ 1 [r0_])]) (Sb (fun p=>hp h0 ids [some (.rows g0_ 1 [[(.int .i64 p)]])]) (.pan (.iface 99 (.agg [.int .i64 n])) true) (F5 n)):=by
 refine Pk (n:=3) Tryz.func44 O (by decide) O O<|B4 (Ax (F5.eq_1 _) ?_)
 refine Z<|Yo O<|Cn [0] hI O O (O6 ({ fE:=n }:T98) _ (ix ids 0) r0_ g0_ hr0_ (by exact hI.sub' O O)) O O O O O O (fun v hv=>by unfold E2 at hv; cases hv) ?_
 rintro _ _ _ _ ⟨rfl,rfl⟩
 refine D3 [0] hI O O O ?_
 refine C3<|Ae<|Az ?_
 exact Ra (a:=(({ fE:=n }:T98).fE)) Tryz.func44 O O O
theorem J8 (r:Replica):CP Tryz.prog 14 [(.agg (Ao r))] (C8 r) (fun(x:Int)=>(AV.int .i64 x)):=by
 show CP _ _ _ ((Jt r).catch' (Id 99 .i64 (fun n=>(F5 n).bind fun p=>.ok p) (fun _=>.bad))) _
 refine U5 (n:=121) 2 Tryz.func14 O (by decide) O O fun h0 ids hI=>?_
 have hU : ∀ (v:PV) (fr:Nat→AV) (xs:List (Option AO)) (g0_:Nat) (r0_:List AV) (hl_:xs.length=2) (hr0_:r0_.length=1) (hy_:xs.take 1=[some (.rows g0_ 1 [r0_])]) (hq2_:fr 2=.q ids 0 g0_),WU Tryz.prog 14 121 false (Oj (fun(x:Int)=>(AV.I x)) h0 (Id 99 .i64 (fun n=>(F5 n).bind fun p=>.ok p) (fun _=>.bad))) (.pan v) (.pan v.av false) fr [⟨44,[.q ids 0 g0_]⟩] (hp h0 ids xs) .ret:=by
  intro v fr xs g0_ r0_ hl_ hr0_ hy_ hq2_
  refine Agm (t:=99) (k1:=.i64) O (fun n hv=>?_) (fun hne99=>?_)
  ·subst hv
   exact W6 (Hc:=F5 n) (fin:=fun p=>p) (c:=1) (cells:=fun p=>[some (.rows g0_ 1 [[(.I p)]])]) (vs:=fun p=>[(.I p)]) Tryz.func14 hI hl_ O hy_ (by first | (rw [Rb]; done) | (rw [Rb]; rfl)) (fun hx=>by have:=Uf n h0 (ids.take 1) (hI.take O) g0_ r0_ hr0_ hx; simp only [L8 (c:=1) (j:=0) O] at this; exact this) (by intro w; simp [F5,E2]) (fun p=>(Oe hq2_ (Sa (hI.take O) (L8 O) O O O Hl O) Cg)) (fun p=>(.same _))
  exact Ac9 (by rw [X4 hne99])
 refine B4 (Ax (Jt.eq_1 _) ?_)
 refine Ab<|Z<|C1 (v:=(.agg (Ao r))) (j:=1) hI O O O O O O O fun g=>Cc (j:=0) hI O O O O Hl O fun g1=>Ae<|Az ?_
 refine Ab<|Z<|Ad (.func (.func 44) [] [(.q ids 0 g1)]) O Yy<|W0 O O O ?_
 refine Ae<|Ab<|Z<|Ak 2 [1] [(7,(.I r.Many))] ?_
 refine Bh [(.I r.Many),(.I 1),(.I 5)] O O O O ((De r.Many 1 5) _) (fun v _=>hU v _ _ _ _ O O O O) fun r1 _=>Ad (.bool r1) O Aa<|Dj 7 ((fun(b:Bool)=>(if b then(Bv r.Term 0 1048576).bind fun r3=>R.ok r3 else R.ok false).bind (fun(b1:Bool)=>(if b1 then(Bv r.Vote (-1) (IntKind.wrap .i64 (r.Many - 1))).bind fun r4=>R.ok r4 else R.ok false).bind (fun(b2:Bool)=>(Bj b2 470).bind fun _=>(Gh r.Log r.Term).bind fun r6=>(if r6 then(Bv r.Role 0 2).bind fun r7=>R.ok r7 else R.ok false).bind (fun(b3:Bool)=>(if b3 then(Bv r.Commit 0 (r.Log.length:Int)).bind fun r8=>R.ok r8 else R.ok false).bind (fun(b4:Bool)=>(Bj ((b4&&((r.Votes.length:Int)==r.Many))&&((r.Match.length:Int)==r.Many)) 470).bind fun _=>(Fy (fun j a=>fun _=>E3 r j a) 0 r.Match ()).bind ((fun _=>(if(r.Role==0) then R.ok true else(if((r.Vote==r.ID)&&(decide (r.Term≥1))) then(C5 r.Votes r.ID).bind fun a2=>R.ok a2 else R.ok false).bind (fun(b8:Bool)=>R.ok b8)).bind (fun(b7:Bool)=>(Bj b7 470).bind fun _=>.ok 0)))))))):Bool→R Int) (fun(b:Bool) (fr:Nat→AV) (h:Ah)=>fr=A0 [(1,(.q ids 1 g)),(2,(.q ids 0 g1)),(16,(.bool b))]∧h=hp h0 ids [(some (.rows g1 1 [[(.I 0)]])),(some (.rows g 9 [(Ao r)]))]) ?_ fun hJ=>Dy (fun hb1=>?_) (fun hb1=>?_)
 ·rintro b fr h ⟨rfl,rfl⟩
  refine Ad (.bool b) O Aa<|Dj 4 ((fun(b1:Bool)=>(if b1 then(Bv r.Vote (-1) (IntKind.wrap .i64 (r.Many - 1))).bind fun r4=>R.ok r4 else R.ok false).bind (fun(b2:Bool)=>(Bj b2 470).bind fun _=>(Gh r.Log r.Term).bind fun r6=>(if r6 then(Bv r.Role 0 2).bind fun r7=>R.ok r7 else R.ok false).bind (fun(b3:Bool)=>(if b3 then(Bv r.Commit 0 (r.Log.length:Int)).bind fun r8=>R.ok r8 else R.ok false).bind (fun(b4:Bool)=>(Bj ((b4&&((r.Votes.length:Int)==r.Many))&&((r.Match.length:Int)==r.Many)) 470).bind fun _=>(Fy (fun j a=>fun _=>E3 r j a) 0 r.Match ()).bind ((fun _=>(if(r.Role==0) then R.ok true else(if((r.Vote==r.ID)&&(decide (r.Term≥1))) then(C5 r.Votes r.ID).bind fun a2=>R.ok a2 else R.ok false).bind (fun(b8:Bool)=>R.ok b8)).bind (fun(b7:Bool)=>(Bj b7 470).bind fun _=>.ok 0))))))):Bool→R Int) (fun(b1:Bool) (fr:Nat→AV) (h:Ah)=>fr=A0 [(1,(.q ids 1 g)),(2,(.q ids 0 g1)),(21,(.bool b1))]∧h=hp h0 ids [(some (.rows g1 1 [[(.I 0)]])),(some (.rows g 9 [(Ao r)]))]) ?_ fun hJ1=>Dy (fun hb3=>?_) (fun hb3=>?_)
  ·rintro b1 fr h ⟨rfl,rfl⟩
   refine Ad (.bool b1) O Aa<|Dj 7 ((fun(b2:Bool)=>(Bj b2 470).bind fun _=>(Gh r.Log r.Term).bind fun r6=>(if r6 then(Bv r.Role 0 2).bind fun r7=>R.ok r7 else R.ok false).bind (fun(b3:Bool)=>(if b3 then(Bv r.Commit 0 (r.Log.length:Int)).bind fun r8=>R.ok r8 else R.ok false).bind (fun(b4:Bool)=>(Bj ((b4&&((r.Votes.length:Int)==r.Many))&&((r.Match.length:Int)==r.Many)) 470).bind fun _=>(Fy (fun j a=>fun _=>E3 r j a) 0 r.Match ()).bind ((fun _=>(if(r.Role==0) then R.ok true else(if((r.Vote==r.ID)&&(decide (r.Term≥1))) then(C5 r.Votes r.ID).bind fun a2=>R.ok a2 else R.ok false).bind (fun(b8:Bool)=>R.ok b8)).bind (fun(b7:Bool)=>(Bj b7 470).bind fun _=>.ok 0)))))):Bool→R Int) (fun(b2:Bool) (fr:Nat→AV) (h:Ah)=>fr=A0 [(1,(.q ids 1 g)),(2,(.q ids 0 g1)),(29,(.bool b2))]∧h=hp h0 ids [(some (.rows g1 1 [[(.I 0)]])),(some (.rows g 9 [(Ao r)]))]) ?_ fun hJ2=>Dy (fun hb5=>?_) (fun hb5=>?_)
   ·rintro b2 fr h ⟨rfl,rfl⟩
    refine Bh [(.bool b2),(.I 470)] O O O O ((D8 b2 470) _) (fun v _=>hU v _ _ _ _ O O O O) fun _ _=>Ae<|Ab<|Z<|Ak 4 [1,1] [(34,(.I r.Term)),(32,(.sl 2 (List.map Ag r.Log)))] ?_
    refine Bh [(.sl 2 (List.map Ag r.Log)),(.I r.Term)] O O O O ((U9 r.Log r.Term) _) (fun v _=>hU v _ _ _ _ O O O O) fun r6 _=>Ad (.bool r6) O Aa<|Dj 4 ((fun(b3:Bool)=>(if b3 then(Bv r.Commit 0 (r.Log.length:Int)).bind fun r8=>R.ok r8 else R.ok false).bind (fun(b4:Bool)=>(Bj ((b4&&((r.Votes.length:Int)==r.Many))&&((r.Match.length:Int)==r.Many)) 470).bind fun _=>(Fy (fun j a=>fun _=>E3 r j a) 0 r.Match ()).bind ((fun _=>(if(r.Role==0) then R.ok true else(if((r.Vote==r.ID)&&(decide (r.Term≥1))) then(C5 r.Votes r.ID).bind fun a2=>R.ok a2 else R.ok false).bind (fun(b8:Bool)=>R.ok b8)).bind (fun(b7:Bool)=>(Bj b7 470).bind fun _=>.ok 0))))):Bool→R Int) (fun(b3:Bool) (fr:Nat→AV) (h:Ah)=>fr=A0 [(1,(.q ids 1 g)),(2,(.q ids 0 g1)),(40,(.bool b3))]∧h=hp h0 ids [(some (.rows g1 1 [[(.I 0)]])),(some (.rows g 9 [(Ao r)]))]) ?_ fun hJ3=>Dy (fun hb7=>?_) (fun hb7=>?_)
    ·rintro b3 fr h ⟨rfl,rfl⟩
     refine Ad (.bool b3) O Aa<|Dj 7 ((fun(b4:Bool)=>(Bj ((b4&&((r.Votes.length:Int)==r.Many))&&((r.Match.length:Int)==r.Many)) 470).bind fun _=>(Fy (fun j a=>fun _=>E3 r j a) 0 r.Match ()).bind ((fun _=>(if(r.Role==0) then R.ok true else(if((r.Vote==r.ID)&&(decide (r.Term≥1))) then(C5 r.Votes r.ID).bind fun a2=>R.ok a2 else R.ok false).bind (fun(b8:Bool)=>R.ok b8)).bind (fun(b7:Bool)=>(Bj b7 470).bind fun _=>.ok 0)))):Bool→R Int) (fun(b4:Bool) (fr:Nat→AV) (h:Ah)=>fr=A0 [(1,(.q ids 1 g)),(2,(.q ids 0 g1)),(48,(.bool b4))]∧h=hp h0 ids [(some (.rows g1 1 [[(.I 0)]])),(some (.rows g 9 [(Ao r)]))]) ?_ fun hJ4=>Dy (fun hb9=>?_) (fun hb9=>?_)
     ·rintro b4 fr h ⟨rfl,rfl⟩
      refine Ad (.bool b4) O Aa<|Cb 7 [(1,(.q ids 1 g)),(2,(.q ids 0 g1)),(56,(.bool (b4&&((r.Votes.length:Int)==r.Many))))] ?_ fun hJ5=>B3 b4 (fun hb11=>?_) (fun hb11=>?_)
      ·refine Ad (.bool (b4&&((r.Votes.length:Int)==r.Many))) O Aa<|Cb 7 [(1,(.q ids 1 g)),(2,(.q ids 0 g1)),(64,(.bool ((b4&&((r.Votes.length:Int)==r.Many))&&((r.Match.length:Int)==r.Many))))] ?_ fun hJ6=>B3 (b4&&((r.Votes.length:Int)==r.Many)) (fun hb13=>?_) (fun hb13=>?_)
       ·refine Bh [(.bool ((b4&&((r.Votes.length:Int)==r.Many))&&((r.Match.length:Int)==r.Many))),(.I 470)] O O O O ((D8 ((b4&&((r.Votes.length:Int)==r.Many))&&((r.Match.length:Int)==r.Many)) 470) _) (fun v _=>hU v _ _ _ _ O O O O) fun _ _=>Ae<|Ab<|Ab<|Z<|Ak 2 [1] [(67,(.sl 1 (List.map (rI .i64) r.Match)))] ?_
        refine Ad (.I (r.Match.length:Int)) O (Bp (Br Bw))<|Ad (.I 0) O Aa<|Ae<|Bq<|Fw [(1,(.q ids 1 g)),(2,(.q ids 0 g1)),(67,(.sl 1 (List.map (rI .i64) r.Match))),(68,(.I (r.Match.length:Int))),(69,(.I 0))] (FI O)<|Pj (P:=Tryz.prog) r.Match (fun j a=>fun _=>E3 r j a) (((fun _=>(if(r.Role==0) then R.ok true else(if((r.Vote==r.ID)&&(decide (r.Term≥1))) then(C5 r.Votes r.ID).bind fun a2=>R.ok a2 else R.ok false).bind (fun(b8:Bool)=>R.ok b8)).bind (fun(b7:Bool)=>(Bj b7 470).bind fun _=>.ok 0))):Unit→R Int) (fun j=>fun _=>fun(fr:Nat→AV) (h:Ah)=>fr=A0 [(1,(.q ids 1 g)),(2,(.q ids 0 g1)),(67,(.sl 1 (List.map (rI .i64) r.Match))),(68,(.I (r.Match.length:Int))),(69,(.I (j:Int)))]∧h=hp h0 ids [(some (.rows g1 1 [[(.I 0)]])),(some (.rows g 9 [(Ao r)]))]) () ?_ ?_ ?_
        ·exact⟨O,O⟩
        ·rintro j a ha W hW _ fr h ⟨rfl,rfl⟩
         refine Ax (m':=E3 r j a) O (Ax (E3.eq_1 _ _ _) ?_)
         refine Ab<|Z<|Ad (.bool (decide ((j:Int)<(r.Match.length:Int)))) O (Bi O O O)<|Ae<|Ab<|K1 (t:=67) (L:=r.Match) O fun hlim=>H0 O (Int.ofNat_lt.2 (B8 ha)) ?_
         refine Bg<|Ab<|Bq<|Ab<|Z<|Ad (.I (j:Int)) O Aa<|Ad (.cp [(.I a)] 0) O (By (Kx Bw Av O ha)) ?_
         refine Ak 3 [] [(4,(.I a)),(3,(.I (j:Int)))] ?_
         refine Ae<|Ab<|Z<|Ak 3 [1] [(76,(.sl 2 (List.map Ag r.Log))),(74,(.I a))] ?_
         refine Ad (.I (r.Log.length:Int)) O (Bp (Br Bd))<|Bh [(.I a),(.I 0),(.I (r.Log.length:Int))] O O O O ((De a 0 (r.Log.length:Int)) _) (fun v _=>hU v _ _ _ _ O O O O) fun r10 _=>Bh [(.bool r10),(.I 470)] O O O O ((D8 r10 470) _) (fun v _=>hU v _ _ _ _ O O O O) fun _ _=>Ae<|Z<|Ak 4 [1] [(83,(.bool (r.Role != 0)))] ?_
         refine Dj 11 ((fun(b5:Bool)=>(Bj b5 470).bind fun _=>.ok ()):Bool→R Unit) (fun(b5:Bool) (fr:Nat→AV) (h:Ah)=>fr=A0 [(1,(.q ids 1 g)),(2,(.q ids 0 g1)),(67,(.sl 1 (List.map (rI .i64) r.Match))),(68,(.I (r.Match.length:Int))),(69,(.I (j:Int))),(94,(.bool b5))]∧h=hp h0 ids [(some (.rows g1 1 [[(.I 0)]])),(some (.rows g 9 [(Ao r)]))]) ?_ fun hJ7=>Dy (fun hb15=>?_) (fun hb15=>?_)
         ·rintro b5 fr h ⟨rfl,rfl⟩
          refine Bh [(.bool b5),(.I 470)] O O O O ((D8 b5 470) _) (fun v _=>hU v _ _ _ _ O O O O) fun _ _=>Ae<|Bs<|Z<|Ak 2 [] [(69,(.I (IntKind.wrap .i64 ((j:Int)+1))))] ?_
          refine Ae<|Bn (Sx (hW () _ _ ⟨O,O⟩)) (.cons O (.cons O (.cons O (.cons O (.cons (If (B8 ha) hlim) .nil)))))
         ·refine Ba (t:=83) hb15 O<|Ak 11 [] [(94,(.bool true)),(93,.und),(92,.und),(91,.und),(90,.und),(89,.und),(88,.und),(87,.und),(86,.und),(85,.und),(84,.und)] ?_
          refine Bm<|Cf [(1,(.q ids 1 g)),(2,(.q ids 0 g1)),(67,(.sl 1 (List.map (rI .i64) r.Match))),(68,(.I (r.Match.length:Int))),(69,(.I (j:Int))),(94,(.bool true))] (FI O)<|hJ7 true _ _ ⟨O,O⟩
         refine Ba (t:=83) hb15 O<|Ak 3 [] [(86,(.bool (a==0))),(85,(.bool (a==0))),(84,(.I a))] ?_
         refine Dj 7 ((fun(b6:Bool)=>R.ok b6):Bool→R Bool) (fun(b6:Bool) (fr:Nat→AV) (h:Ah)=>fr=A0 [(1,(.q ids 1 g)),(2,(.q ids 0 g1)),(67,(.sl 1 (List.map (rI .i64) r.Match))),(68,(.I (r.Match.length:Int))),(69,(.I (j:Int))),(83,(.bool false)),(84,(.I a)),(85,(.bool (a==0))),(86,(.bool (a==0))),(93,(.bool b6))]∧h=hp h0 ids [(some (.rows g1 1 [[(.I 0)]])),(some (.rows g 9 [(Ao r)]))]) ?_ fun hJ8=>Dy (fun hb17=>?_) (fun hb17=>?_)
         ·rintro b6 fr h ⟨rfl,rfl⟩
          refine Ad (.bool b6) O (Bz (t:=false) O O)<|Bm<|Cf [(1,(.q ids 1 g)),(2,(.q ids 0 g1)),(67,(.sl 1 (List.map (rI .i64) r.Match))),(68,(.I (r.Match.length:Int))),(69,(.I (j:Int))),(94,(.bool b6))] (FI O)<|hJ7 b6 _ _ ⟨O,O⟩
         ·refine Ba (t:=86) hb17 O<|Ak 3 [1] [(89,(.I (j:Int))),(88,(.sl 1 (List.map rB r.Votes))),(87,(.ptr (ix ids 1) g 0 7))] ?_
          refine G4 fun a1 hz hx1=>Cj (tj:=86) (.cp [(.bool a1)] 0) O O O (By (Fa Cr Gq O hz hx1))<|Ak 3 [] [(93,(.bool (!a1))),(92,(.bool (!a1))),(91,(.bool a1))] ?_
          refine Bm<|Cf [(1,(.q ids 1 g)),(2,(.q ids 0 g1)),(67,(.sl 1 (List.map (rI .i64) r.Match))),(68,(.I (r.Match.length:Int))),(69,(.I (j:Int))),(83,(.bool false)),(84,(.I a)),(85,(.bool (a==0))),(86,(.bool (a==0))),(93,(.bool (!a1)))] (.cons O (.cons O (.cons O (.cons O (.cons O (.cons O (.cons O (.cons O (.cons (congrArg AV.bool hb17.symm) (FI O))))))))))<|hJ8 (!a1) _ _ ⟨O,O⟩
         refine Ba (t:=86) hb17 O<|Ak 7 [] [(93,(.bool false)),(92,.und),(91,.und),(90,.und),(89,.und),(88,.und),(87,.und)] ?_
         refine Bm<|Cf [(1,(.q ids 1 g)),(2,(.q ids 0 g1)),(67,(.sl 1 (List.map (rI .i64) r.Match))),(68,(.I (r.Match.length:Int))),(69,(.I (j:Int))),(83,(.bool false)),(84,(.I a)),(85,(.bool (a==0))),(86,(.bool (a==0))),(93,(.bool false))] (.cons O (.cons O (.cons O (.cons O (.cons O (.cons O (.cons O (.cons O (.cons (congrArg AV.bool hb17.symm) (FI O))))))))))<|hJ8 false _ _ ⟨O,O⟩
        rintro _ fr h ⟨rfl,rfl⟩
        refine Ab<|Z<|Ad (.bool (decide ((r.Match.length:Int)<(r.Match.length:Int)))) O (Bi O O O)<|Ae<|Ab<|Hy O (Int.lt_irrefl _)<|Ed O ?_
        refine Ab<|Z<|Ak 4 [1] [(100,(.bool (r.Role==0)))] ?_
        refine Dj 19 ((fun(b7:Bool)=>(Bj b7 470).bind fun _=>.ok 0):Bool→R Int) (fun(b7:Bool) (fr:Nat→AV) (h:Ah)=>fr=A0 [(2,(.q ids 0 g1)),(119,(.bool b7))]∧h=hp h0 ids [(some (.rows g1 1 [[(.I 0)]])),(some (.rows g 9 [(Ao r)]))]) ?_ fun hJ9=>Dy (fun hb19=>?_) (fun hb19=>?_)
        ·rintro b7 fr h ⟨rfl,rfl⟩
         refine Bh [(.bool b7),(.I 470)] O O O O ((D8 b7 470) _) (fun v _=>hU v _ _ _ _ O O O O) fun _ _=>Ae<|Ab<|Z<|A4 (A6 (v:=(.I 0)) hI O O O O Hl O O O O O)<|Ae<|P4 (a:=0) (vs:=[(.I 0)]) Tryz.func14 hI (W3 _ _) (B2 (Ap hI O O O Hl O) Cg) (.same _)
        ·refine Ba (t:=100) hb19 O<|Ak 19 [] [(119,(.bool true))] ?_
         refine Bm<|Cf [(2,(.q ids 0 g1)),(119,(.bool true))] (FI O)<|hJ9 true _ _ ⟨O,O⟩
        refine Ba (t:=100) hb19 O<|Ak 6 [1,1] [(106,(.bool (r.Vote==r.ID)))] ?_
        refine Cb 4 [(1,(.q ids 1 g)),(2,(.q ids 0 g1)),(100,(.bool false)),(110,(.bool ((r.Vote==r.ID)&&(decide (r.Term≥1)))))] ?_ fun hJ10=>B3 (r.Vote==r.ID) (fun hb21=>?_) (fun hb21=>?_)
        ·refine Cj (tj:=100) (.bool ((r.Vote==r.ID)&&(decide (r.Term≥1)))) O O O Aa<|Dj 7 ((fun(b8:Bool)=>R.ok b8):Bool→R Bool) (fun(b8:Bool) (fr:Nat→AV) (h:Ah)=>fr=A0 [(2,(.q ids 0 g1)),(100,(.bool false)),(118,(.bool b8))]∧h=hp h0 ids [(some (.rows g1 1 [[(.I 0)]])),(some (.rows g 9 [(Ao r)]))]) ?_ fun hJ11=>Dy (fun hb23=>?_) (fun hb23=>?_)
         ·rintro b8 fr h ⟨rfl,rfl⟩
          refine Ad (.bool b8) O (Bz (t:=false) O O)<|Bm<|Cf [(2,(.q ids 0 g1)),(119,(.bool b8))] (FI O)<|hJ9 b8 _ _ ⟨O,O⟩
         ·refine Ba (t:=111) hb23 O<|Ak 4 [1,1] [(115,(.I r.ID)),(113,(.sl 1 (List.map rB r.Votes)))] ?_
          refine G4 fun a2 hz1 hx2=>Cj (tj:=111) (.cp [(.bool a2)] 0) O O O (By (Fa Cr Gq O hz1 hx2))<|Ak 2 [] [(118,(.bool a2))] ?_
          refine Bm<|Cf [(2,(.q ids 0 g1)),(100,(.bool false)),(118,(.bool a2))] (FI O)<|hJ11 a2 _ _ ⟨O,O⟩
         refine Ba (t:=111) hb23 O<|Ak 7 [] [(118,(.bool false))] ?_
         refine Bm<|Cf [(2,(.q ids 0 g1)),(100,(.bool false)),(118,(.bool false))] (FI O)<|hJ11 false _ _ ⟨O,O⟩
        ·refine Ba (t:=106) hb21 O<|Ak 4 [1] [(110,(.bool (decide (r.Term≥1))))] ?_
         exact Bo hJ10 (.cons O (.cons O (.cons O (.cons (G6 hb21) .nil))))
        refine Ba (t:=106) hb21 O<|Ak 4 [] [(110,(.bool false))] ?_
        exact Bo hJ10 (.cons O (.cons O (.cons O (.cons (G5 hb21) .nil))))
       ·refine Ba (t:=57) hb13 O<|Ak 2 [1] [(59,(.sl 1 (List.map (rI .i64) r.Match)))] ?_
        refine Cj (tj:=57) (.I (r.Match.length:Int)) O O O (Bp (Br Bw))<|Ak 4 [1] [(64,(.bool ((r.Match.length:Int)==r.Many)))] ?_
        exact Bo hJ6 (.cons O (.cons O (.cons (G6 hb13) .nil)))
       refine Ba (t:=57) hb13 O<|Ak 7 [] [(64,(.bool false))] ?_
       exact Bo hJ6 (.cons O (.cons O (.cons (G5 hb13) .nil)))
      ·refine Ba (t:=49) hb11 O<|Ak 2 [1] [(51,(.sl 1 (List.map rB r.Votes)))] ?_
       refine Cj (tj:=49) (.I (r.Votes.length:Int)) O O O (Bp (Br Cr))<|Ak 4 [1] [(56,(.bool ((r.Votes.length:Int)==r.Many)))] ?_
       exact Bo hJ5 (.cons O (.cons O (.cons (G6 hb11) .nil)))
      refine Ba (t:=49) hb11 O<|Ak 7 [] [(56,(.bool false))] ?_
      exact Bo hJ5 (.cons O (.cons O (.cons (G5 hb11) .nil)))
     ·refine Ba (t:=41) hb9 O<|Ak 4 [1,1] [(45,(.sl 2 (List.map Ag r.Log))),(43,(.I r.Commit))] ?_
      refine Cj (tj:=41) (.I (r.Log.length:Int)) O O O (Bp (Br Bd))<|Bh [(.I r.Commit),(.I 0),(.I (r.Log.length:Int))] O (Cx (tj:=41) O O) O O ((De r.Commit 0 (r.Log.length:Int)) _) (fun v _=>hU v _ _ _ _ O O O O) fun r8 _=>Ad (.bool r8) O (Bz (t:=true) O O)<|Bm<|Cf [(1,(.q ids 1 g)),(2,(.q ids 0 g1)),(48,(.bool r8))] (FI O)<|hJ4 r8 _ _ ⟨O,O⟩
     refine Ba (t:=41) hb9 O<|Ak 7 [] [(48,(.bool false))] ?_
     refine Bm<|Cf [(1,(.q ids 1 g)),(2,(.q ids 0 g1)),(48,(.bool false))] (FI O)<|hJ4 false _ _ ⟨O,O⟩
    ·refine Ba (t:=36) hb7 O<|Ak 2 [1] [(38,(.I r.Role))] ?_
     refine Bh [(.I r.Role),(.I 0),(.I 2)] O (Cx (tj:=36) O O) O O ((De r.Role 0 2) _) (fun v _=>hU v _ _ _ _ O O O O) fun r7 _=>Ad (.bool r7) O (Bz (t:=true) O O)<|Bm<|Cf [(1,(.q ids 1 g)),(2,(.q ids 0 g1)),(40,(.bool r7))] (FI O)<|hJ3 r7 _ _ ⟨O,O⟩
    refine Ba (t:=36) hb7 O<|Ak 4 [] [(40,(.bool false))] ?_
    refine Bm<|Cf [(1,(.q ids 1 g)),(2,(.q ids 0 g1)),(40,(.bool false))] (FI O)<|hJ3 false _ _ ⟨O,O⟩
   ·refine Ba (t:=22) hb5 O<|Ak 5 [1,1] [(27,(.I (IntKind.wrap .i64 (r.Many - 1)))),(24,(.I r.Vote))] ?_
    refine Bh [(.I r.Vote),(.I (-1)),(.I (IntKind.wrap .i64 (r.Many - 1)))] O (Cx (tj:=22) O O) O O ((De r.Vote (-1) (IntKind.wrap .i64 (r.Many - 1))) _) (fun v _=>hU v _ _ _ _ O O O O) fun r4 _=>Ad (.bool r4) O (Bz (t:=true) O O)<|Bm<|Cf [(1,(.q ids 1 g)),(2,(.q ids 0 g1)),(29,(.bool r4))] (FI O)<|hJ2 r4 _ _ ⟨O,O⟩
   refine Ba (t:=22) hb5 O<|Ak 7 [] [(29,(.bool false))] ?_
   refine Bm<|Cf [(1,(.q ids 1 g)),(2,(.q ids 0 g1)),(29,(.bool false))] (FI O)<|hJ2 false _ _ ⟨O,O⟩
  ·refine Ba (t:=17) hb3 O<|Ak 2 [1] [(19,(.I r.Term))] ?_
   refine Bh [(.I r.Term),(.I 0),(.I 1048576)] O (Cx (tj:=17) O O) O O ((De r.Term 0 1048576) _) (fun v _=>hU v _ _ _ _ O O O O) fun r3 _=>Ad (.bool r3) O (Bz (t:=true) O O)<|Bm<|Cf [(1,(.q ids 1 g)),(2,(.q ids 0 g1)),(21,(.bool r3))] (FI O)<|hJ1 r3 _ _ ⟨O,O⟩
  refine Ba (t:=17) hb3 O<|Ak 4 [] [(21,(.bool false))] ?_
  refine Bm<|Cf [(1,(.q ids 1 g)),(2,(.q ids 0 g1)),(21,(.bool false))] (FI O)<|hJ1 false _ _ ⟨O,O⟩
 ·refine Ba (t:=9) hb1 O<|Ak 5 [1,1] [(14,(.I (IntKind.wrap .i64 (r.Many - 1)))),(11,(.I r.ID))] ?_
  refine Bh [(.I r.ID),(.I 0),(.I (IntKind.wrap .i64 (r.Many - 1)))] O (Cx (tj:=9) O O) O O ((De r.ID 0 (IntKind.wrap .i64 (r.Many - 1))) _) (fun v _=>hU v _ _ _ _ O O O O) fun r2 _=>Ad (.bool r2) O (Bz (t:=true) O O)<|Bm<|Cf [(1,(.q ids 1 g)),(2,(.q ids 0 g1)),(16,(.bool r2))] (FI O)<|hJ r2 _ _ ⟨O,O⟩
 refine Ba (t:=9) hb1 O<|Ak 7 [] [(16,(.bool false))] ?_
 refine Bm<|Cf [(1,(.q ids 1 g)),(2,(.q ids 0 g1)),(16,(.bool false))] (FI O)<|hJ false _ _ ⟨O,O⟩
theorem M8 (r:Replica)(h0:Ah)(o0:Nat)(hI0:Ids h0 [o0] 1):Dz r≠.bad→Bx Tryz.prog 26 [(.agg (Ao r))] (hp h0 [o0] [none]) (El (fun a_ v h' => ∃ (g2:Nat),v=(.ptr o0 g2 0 0)∧h'=hp h0 [o0] [some (.rows g2 10 [[(.int .i64 r.ID),(.int .i64 r.Many),(.int .i64 r.Term),(.int .i64 r.Vote),(.sl 2 (List.map Ag r.Log)),(.int .i64 r.Role),(.int .i64 r.Commit),(.sl 1 (List.map rB r.Votes)),(.sl 1 (List.map (rI .i64) r.Match)),.emp]])]) h0 (Dz r)):=by
 refine Co (n:=6) 1 Tryz.func26 O (by decide) O O hI0 O fun ids he hI=>?_
 clear hI0
 obtain rfl:ix ids 0=o0:=he 0 rfl
 clear he
 refine B4 (Ax (Dz.eq_1 _) ?_)
 refine Az ?_
 refine Ab<|Z<|C1 (v:=(.agg (Ao r))) (j:=1) hI O O O O O O O fun g=>Ad .nilp O At<|Ae<|Az ?_
 refine Ab<|Z<|Ak 2 [1] [(4,(.agg [(.I r.ID),(.I r.Many),(.I r.Term),(.I r.Vote),(.sl 2 (List.map Ag r.Log)),(.I r.Role),(.I r.Commit),(.sl 1 (List.map rB r.Votes)),(.sl 1 (List.map (rI .i64) r.Match)),.emp]))] ?_
 refine C1 (v:=(.agg [(.I r.ID),(.I r.Many),(.I r.Term),(.I r.Vote),(.sl 2 (List.map Ag r.Log)),(.I r.Role),(.I r.Commit),(.sl 1 (List.map rB r.Votes)),(.sl 1 (List.map (rI .i64) r.Match)),.emp])) (j:=0) hI O O O O O O O fun g1=>Ad (.q ids 0 g1) O At<|Ae<|Az ?_
 exact Es (K:=1) (N:=1) (a:=()) (vs:=[(.q ids 0 g1)]) [some (.rows g1 10 [[(.I r.ID),(.I r.Many),(.I r.Term),(.I r.Vote),(.sl 2 (List.map Ag r.Log)),(.I r.Role),(.I r.Commit),(.sl 1 (List.map rB r.Votes)),(.sl 1 (List.map (rI .i64) r.Match)),.emp]])] Tryz.func26 hI O O O (.keep (.drop .nil)) (.same _) ⟨g1,O,O⟩
theorem Qc (s:List Record):CPO Tryz.prog 36 [(.sl 2 (List.map Ag s))] (J3 s) 2 Ag:=by
 refine Q9 (n:=8) 0 Tryz.func36 O (by decide) O O fun h0 ids hI=>Qw (J3.eq_1 _)<|Ab<|Z<|Ad .emp O At<|Ae<|Ab ?_
 refine Ab<|Z<|Ad (.sl 2 (List.map Ag s)) O Aa<|Abx (L:=s) O Bd O fun c hc=>Ae ?_
 by_cases hl:s.length * 32≤B5
 case neg=>rw [if_neg hl]; exact Aet
 rw [if_pos hl]
 refine Nm c O ?_
 cases c with
 | true=>
  have hs:=hc rfl
  subst hs
  refine Ab<|Z<|Ad .emp O At<|Ae<|P6 (a:=[]) (v:=.emp) (g:=0) Tryz.func36 hI O O .nil O
 | false=>
  refine Bg<|Ab<|Z<|Ui O Bd C6<|Ad (.sl 2 (List.map Ag s)) O Aa<|Kl (e:=Ag) (L:=[]) (L2:=s) (v:=.emp) (g:=0) (st:=2) (j:=0) hI O O O O .nil O (Fg O) Bd Bd O C6 O O O (by simpa using hl) fun v g H=>Ad v O At ?_
  refine Ae<|P6 (a:=s) (v:=v) (g:=g) Tryz.func36 hI O O H O
theorem Rw (s:List Int):CPO Tryz.prog 37 [(.sl 1 (List.map (rI .i64) s))] (I0 s) 1 (rI .i64):=by
 refine Q9 (n:=8) 0 Tryz.func37 O (by decide) O O fun h0 ids hI=>Qw (I0.eq_1 _)<|Ab<|Z<|Ad .emp O At<|Ae<|Ab ?_
 refine Ab<|Z<|Ad (.sl 1 (List.map (rI .i64) s)) O Aa<|Abx (L:=s) O Bw O fun c hc=>Ae ?_
 by_cases hl:s.length * 8≤B5
 case neg=>rw [if_neg hl]; exact Aet
 rw [if_pos hl]
 refine Nm c O ?_
 cases c with
 | true=>
  have hs:=hc rfl
  subst hs
  refine Ab<|Z<|Ad .emp O At<|Ae<|P6 (a:=[]) (v:=.emp) (g:=0) Tryz.func37 hI O O .nil O
 | false=>
  refine Bg<|Ab<|Z<|Ui O Bw Av<|Ad (.sl 1 (List.map (rI .i64) s)) O Aa<|Kl (e:=(rI .i64)) (L:=[]) (L2:=s) (v:=.emp) (g:=0) (st:=1) (j:=0) hI O O O O .nil O (Fg O) Bw Bw O Av O O O (by simpa using hl) fun v g H=>Ad v O At ?_
  refine Ae<|P6 (a:=s) (v:=v) (g:=g) Tryz.func37 hI O O H O
theorem Mv (l:List Int)(h0:Ah)(o0:Nat)(o1:Nat)(v1:AV)(g:Nat)(vH:Bc v1 o0 g l.length)(hI0:Ids h0 [o0,o1] 2):Eg l≠.bad→Bx Tryz.prog 63 [v1] (hp h0 [o0,o1] [A5 v1 g 1 (List.map (rI .i64) l),none]) (El (fun a_ v h' => ∃ (g2:Nat),v=(.func (.func 78) [] [(.ptr o1 g2 0 0)])∧h'=hp h0 [o0,o1] [A5 v1 g 1 (List.map (rI .i64) l),some (.rows g2 1 [[v1]])]) h0 (Eg l)):=by
 refine Co (n:=4) 0 Tryz.func63 O (by decide) O O hI0 O fun ids he hI=>?_
 clear hI0
 obtain rfl:ix ids 0=o0:=he 0 rfl
 obtain rfl:ix ids 1=o1:=he 1 rfl
 clear he
 refine B4 (Ax (Eg.eq_1 _) ?_)
 refine Ab<|Z<|Aku (j:=1) vH hI O O O O O fun g1=>Ad .nilf O At<|Ae<|Az ?_
 refine Ab<|Z<|Ak 2 [] [(2,(.func (.func 78) [] [(.q ids 1 g1)]))] ?_
 refine Ae<|Es (K:=2) (N:=0) (a:=()) (vs:=[(.func (.func 78) [] [(.q ids 1 g1)])]) [A5 v1 g 1 (List.map (rI .i64) l),some (.rows g1 1 [[v1]])] Tryz.func63 hI O O O (.keep (.keep .nil)) (.same _) ⟨g1,O,O⟩
theorem Uq {σ_:Type}(b:List Int)(b_:Int→σ_→R σ_)(St_:σ_→Ah→Prop)(y_:YF)(o_ g_:Nat)(hy_ : ∀ (a0_:Int),YOk Tryz.prog y_ o_ g_ [(.int .i64 a0_)] St_ (b_ a0_))(hnp_ : ∀ (a0_:Int) (s:σ_) (v:PV),b_ a0_ s≠.pan v)(s_:σ_)(hh_:Ah)(hs_:St_ s_ hh_):Jp b b_ s_≠.bad→Bx Tryz.prog 78 [(.yld y_ o_ g_),(.cp [(.sl 1 (List.map (rI .i64) b))] 0)] hh_ (Zq St_ (Jp b b_ s_)):=by
 refine Aeu (n:=16) Tryz.func78 O (by decide) O O<|B4 (Ax (Jp.eq_1 _ _ _) ?_)
 refine Ab<|Z<|Ad (.sl 1 (List.map (rI .i64) b)) O (Al (Ek Bw O))<|Ad (.I (b.length:Int)) O (Bp (Br Bw))<|Ad (.I 0) O Aa<|Ae<|Bq ?_
 refine Fw [(0,(.yld y_ o_ g_)),(5,(.sl 1 (List.map (rI .i64) b))),(6,(.I (b.length:Int))),(7,(.I 0))] (FI O)<|Pj (P:=Tryz.prog) b (fun _ a=>fun s=>Fp b_ a s) (((fun s=>.ok s)):σ_→R σ_) (fun j=>fun s=>fun(fr:Nat→AV) (h:Ah) => ∃ (hh:Ah),St_ s hh∧fr=A0 [(0,(.yld y_ o_ g_)),(5,(.sl 1 (List.map (rI .i64) b))),(6,(.I (b.length:Int))),(7,(.I (j:Int)))]∧hh=h) s_ ?_ ?_ ?_
 ·exact⟨_,hs_,O,O⟩
 ·rintro j a ha W hW s fr h ⟨hh,vHs,rfl,rfl⟩
  refine Ax (m':=Fp b_ a s) O (Ax (Fp.eq_1 _ _ _) ?_)
  refine Ab<|Z<|Ad (.bool (decide ((j:Int)<(b.length:Int)))) O (Bi O O O)<|Ae<|Ab<|K1 (t:=5) (L:=b) O fun hlim=>H0 O (Int.ofNat_lt.2 (B8 ha)) ?_
  refine Bg<|Ab<|Bq<|Ab<|Z<|Ad (.cp [(.I a)] 0) O (By (Kx Bw Av O ha))<|Ad (.I a) O (Al (Ek Av O)) ?_
  refine Ad (.I a) O At<|Ae<|Ab<|Z<|Ad (.yld y_ o_ g_) O Aa<|Ad (.I a) O Aa<|Ajr (b:=b_ a) O O O vHs (hy_ a) (hnp_ a _) fun s1 hb hh1 vHs1=>?_
  refine Ad (.bool false) O (P5 O)<|Ae<|Nm false O<|Bg<|Bs<|Z<|Ad (.I (IntKind.wrap .i64 ((j:Int)+1))) O (Bi O O O) ?_
  refine Ad (.I (IntKind.wrap .i64 ((j:Int)+1))) O Aa<|Ae<|Bn (Sx (hW s1 _ _ ⟨_,vHs1,O,O⟩)) (.cons O (.cons O (.cons O (.cons (If (B8 ha) hlim) .nil))))
 rintro s fr h ⟨hh,vHs,rfl,rfl⟩
 refine Ab<|Z<|Ad (.bool (decide ((b.length:Int)<(b.length:Int)))) O (Bi O O O)<|Ae<|Ab<|Hy O (Int.lt_irrefl _)<|Ed O ?_
 exact Aft Tryz.func78 O vHs
theorem Zb (l:List Int)(h0:Ah)(o0:Nat)(v:AV)(g:Nat)(hv:Bc v o0 g l.length)(hI0:Ids h0 [o0] 1):Nv l≠.bad→Bx Tryz.prog 77 [v] (hp h0 [o0] [A5 v g 1 (l.map (rI .i64))]) (El (fun a_ v' h'=>v'=(.tup [])∧h'=hp h0 [o0] [A5 v g 1 ((D2 l).map (rI .i64))]) h0 (Nv l)):=
 Agq hI0 (.mk Tryz.func77 rfl (by decide)) hv Go.Proofs.Tryz.slices_Sort_int Go.Proofs.Tryz.slices_Sort_int_none
theorem R5 (s:List Int)(h0:Ah)(o0:Nat)(o1:Nat)(g:Nat)(hI0:Ids h0 [o0,o1] 2):Ho s≠.bad→Bx Tryz.prog 84 [.emp,(.func (.func 78) [] [(.ptr o0 g 0 0)])] (hp h0 [o0,o1] [some (.rows g 1 [[(.sl 1 (List.map (rI .i64) s))]]),none]) (El (fun a_ v h' => ∃ (v4:AV),∃ (g4:Nat),Bc v4 o1 g4 a_.length∧v4=v∧h'=hp h0 [o0,o1] [none,A5 v4 g4 1 (List.map (rI .i64) a_)]) h0 (Ho s)):=by
 refine Co (n:=13) 2 Tryz.func84 O (by decide) O O hI0 O fun ids he hI=>?_
 clear hI0
 obtain rfl:ix ids 0=o0:=he 0 rfl
 obtain rfl:ix ids 1=o1:=he 1 rfl
 clear he
 refine B4 (Ax (Ho.eq_1 _) ?_)
 refine Az ?_
 refine Af8<|Ab<|Z<|C1 (v:=.emp) (j:=2) hI O O O O O O O fun g1=>Ad .emp O At<|Ae<|Az ?_
 refine Ab<|Ab<|Z<|Ad (.func (.func 78) [] [(.q ids 0 g)]) O Aa<|Ae<|Bq<|Ahz (h2:=hp h0 ids [none,none,(some (.rows g1 1 [[.emp]])),none]) [(2,(.q ids 2 g1)),(6,(.func (.func 78) [] [(.cp [(.sl 1 (List.map (rI .i64) s))] 0)]))] (Drops.sub (.drop (.keep (.keep (.keep .nil)))) hI.len) (.cons (.same _) (.cons (.funcL .nil (.cons (.ptrL (hI.at O O) (hI.at O O) O (I8 _)) .nil)) .nil)) O O ?_
 refine Fw [(2,(.q ids 2 g1)),(6,(.func (.func 78) [] [(.cp [(.sl 1 (List.map (rI .i64) s))] 0)]))] (FI O)<|Ad4 (P:=Tryz.prog) 3 (fun(gL:Nat) (r_L:Loop)=>fun l=>fun(h1:Ah) => ∃ (v1:AV),∃ (g2:Nat),Bc v1 (ix ids 1) g2 l.length∧h1=hp h0 ids [none,(A5 v1 g2 1 (List.map (rI .i64) l)),(some (.rows g1 1 [[v1]])),(some (.blk gL (.loop r_L)))]:Nat→Loop→(List Int)→Ah→Prop) O O hI O O O fun gL y_L r_L hl_L hy_L=>⟨?_,?_,?_,?_⟩
 ·refine Uq s _ _ _ _ _ (fun a=>Ahk hl_L (by decide) O hy_L ?_ ?_) (fun _ _ _=>R.np_ne _ _) _ _ ?_
  ·rintro l _ ⟨v1,g2,vH,rfl⟩
   exact hI.at O O
  ·rintro lo_ l _ ⟨v1,g2,vH,rfl⟩
   refine Amb (B4 (Ax (m':=Fe a l) O (Ax (Fe.eq_1 _ _) ?_)))
   refine Ahx [(7,(.I a)),(2,(.q ids 2 g1)),(6,(.func (.func 78) [] [(.cp [(.sl 1 (List.map (rI .i64) s))] 0)]))] (Xq _ _ _)<|Z<|Ad (.I a) O At<|Ae<|V0 hI O O O hl_L.ready<|Az ?_
   refine Bq<|Z<|Ak 2 [2] [(9,(.I a)),(8,v1)] ?_
   refine Sk (e:=(rI .i64)) (L:=[a]) (st:=1) (rows:=[[(.I a)]]) O Bw Av O O O O O (.cons (RowSim.refl _) .nil) (fun x=>Il x) O O<|Ha fun hl=>Kl (e:=(rI .i64)) (L:=l) (L2:=[a]) (v:=v1) (g:=g2) (st:=1) (j:=1) hI O O O O vH O (Fg O) Bw Bw O Av O O O hl fun v2 g3 vH1=>A4 (Ca vH1 hI O O O O Bw O O O)<|Ae<|Az ?_
   refine Bs<|Ajo (s:=(l++[a])) (jL:=3) hI O O O ⟨v2,g3,vH1,O⟩
  exact⟨.emp,0,.nil,O⟩
 ·rintro l _ ⟨v1,g2,vH,rfl⟩
  exact hI.at O O
 ·rintro l _ _ ⟨v1,g2,vH,rfl⟩
  refine Ae0 [none,(A5 v1 g2 1 (List.map (rI .i64) l)),(some (.rows g1 1 [[v1]])),none] hI O O O<|Bs<|Ab<|Z<|Ak 2 [2] [(4,v1)] ?_
  refine Ae<|Ab4 (Se (Akp (K:=2) (N:=2) (a:=l) (vs:=[v1]) [none,A5 v1 g2 1 (List.map (rI .i64) l)] Tryz.func84 hI O O O (.keep (.keep (.drop (.keep .nil)))) (.same _) ⟨v1,g2,vH,O,O⟩))
 rintro v3 _ l _ ⟨v1,g2,vH,rfl⟩
 refine Adk [none,(A5 v1 g2 1 (List.map (rI .i64) l)),(some (.rows g1 1 [[v1]])),none] hI O O O<|Se (Cd (K:=2) (N:=2) Tryz.func84 hI)
theorem S6 (s:List Int)(h0:Ah)(o0:Nat)(o1:Nat)(g:Nat)(hI0:Ids h0 [o0,o1] 2):Fq s≠.bad→Bx Tryz.prog 76 [(.func (.func 78) [] [(.ptr o0 g 0 0)])] (hp h0 [o0,o1] [some (.rows g 1 [[(.sl 1 (List.map (rI .i64) s))]]),none]) (El (fun a_ v h' => ∃ (v2:AV),∃ (g2:Nat),Bc v2 o1 g2 a_.length∧v2=v∧h'=hp h0 [o0,o1] [none,A5 v2 g2 1 (List.map (rI .i64) a_)]) h0 (Fq s)):=by
 refine Co (n:=5) 0 Tryz.func76 O (by decide) O O hI0 O fun ids he hI=>?_
 clear hI0
 obtain rfl:ix ids 0=o0:=he 0 rfl
 obtain rfl:ix ids 1=o1:=he 1 rfl
 clear he
 refine B4 (Ax (Fq.eq_1 _) ?_)
 refine Ab<|Z<|Ad .emp O At<|Ae<|Ab<|Z<|Ad (.func (.func 78) [] [(.q ids 0 g)]) O Aa ?_
 refine Cn [0,1] hI O O (R5 s _ (ix ids 0) (ix ids 1) g (by exact hI.sub' O O)) O O O O O O (fun v _=>Cd (K:=2) (N:=0) Tryz.func76 hI) ?_
 rintro r _ _ _ ⟨v1,g1,vH,rfl,rfl⟩
 refine D3 [0,1] hI O O O ?_
 refine C3<|Ad v1 O At<|Ae<|Az ?_
 exact Es (K:=2) (N:=0) (a:=r) (vs:=[v1]) [none,A5 v1 g1 1 (List.map (rI .i64) r)] Tryz.func76 hI O O O (.keep (.keep .nil)) (.same _) ⟨v1,g1,vH,O,O⟩
theorem K8 (s:List Int)(h0:Ah)(o0:Nat)(g:Nat)(hI0:Ids h0 [o0] 1):Dv s≠.bad→Bx Tryz.prog 62 [(.func (.func 78) [] [(.ptr o0 g 0 0)])] (hp h0 [o0] [some (.rows g 1 [[(.sl 1 (List.map (rI .i64) s))]])]) (El (fun a_ v h'=>v=(.sl 1 (List.map (rI .i64) a_))∧h'=hp h0 [o0] [none]) h0 (Dv s)):=by
 refine Co (n:=9) 1 Tryz.func62 O (by decide) O O hI0 O fun ids he hI=>?_
 clear hI0
 obtain rfl:ix ids 0=o0:=he 0 rfl
 clear he
 refine B4 (Ax (Dv.eq_1 _) ?_)
 refine Az ?_
 refine Ab<|Z<|Ad .emp O At<|Ae<|Ab<|Z<|Ad (.func (.func 78) [] [(.q ids 0 g)]) O Aa ?_
 refine Cn [0,1] hI O O (S6 s _ (ix ids 0) (ix ids 1) g (by exact hI.sub' O O)) O O O O O O (fun v _=>Cd (K:=1) (N:=1) Tryz.func62 hI) ?_
 rintro s1 _ _ _ ⟨v1,g1,vH,rfl,rfl⟩
 refine D3 [0,1] hI O O O ?_
 refine C3<|Ad v1 O At<|Ae<|Az ?_
 refine Ab<|Z<|Ad v1 O Aa<|Cn [1] hI O O (Zb s1 _ (ix ids 1) v1 g1 vH (by exact hI.sub' O O)) O O O O O O (fun v _=>Cd (K:=1) (N:=1) Tryz.func62 hI) ?_
 rintro _ _ _ _ ⟨rfl,rfl⟩
 refine D3 [1] hI O O O ?_
 refine C3<|Ae<|Az ?_
 refine Ab<|Z<|Ak 2 [] [(2,v1)] ?_
 refine Ae<|Es (K:=1) (N:=1) (a:=(D2 s1)) (vs:=[v1]) [none] Tryz.func62 hI O O O (.keep (.drop .nil)) (Dg (Bc.sort vH) (hI.at O O) (hI.at O O) (fun x=>Il x)) ⟨O,O⟩
theorem Tc (s0_ReplicaID:Int)(s0_ReplicaMany:Int)(s0_ReplicaTerm:Int)(s0_ReplicaVote:Int)(s0_ReplicaRole:Int)(s0_ReplicaCommit:Int)(s0_ReplicaVotes:List Bool)(l:List Record)(l1:List Int)(h0:Ah)(o0:Nat)(o1:Nat)(o2:Nat)(g:Nat)(v1:AV)(g1:Nat)(v2:AV)(g2:Nat)(vH:Bc v1 o1 g1 l.length)(vH1:Bc v2 o2 g2 l1.length)(hI0:Ids h0 [o0,o1,o2] 3):E4 s0_ReplicaID s0_ReplicaMany s0_ReplicaTerm s0_ReplicaVote s0_ReplicaRole s0_ReplicaCommit s0_ReplicaVotes l l1≠.bad→Bx Tryz.prog 38 [(.ptr o0 g 0 0)] (hp h0 [o0,o1,o2] [some (.rows g 10 [[(.int .i64 s0_ReplicaID),(.int .i64 s0_ReplicaMany),(.int .i64 s0_ReplicaTerm),(.int .i64 s0_ReplicaVote),v1,(.int .i64 s0_ReplicaRole),(.int .i64 s0_ReplicaCommit),(.sl 1 (List.map rB s0_ReplicaVotes)),v2,.emp]]),A5 v1 g1 2 (List.map Ag l),A5 v2 g2 1 (List.map (rI .i64) l1)]) (El (fun a_ v h' => ∃ (v4:AV),∃ (g5:Nat),Bc v4 o1 g5 a_.2.length∧v=(.tup [])∧h'=hp h0 [o0,o1,o2] [some (.rows g 10 [[(.int .i64 s0_ReplicaID),(.int .i64 s0_ReplicaMany),(.int .i64 s0_ReplicaTerm),(.int .i64 s0_ReplicaVote),v4,(.int .i64 s0_ReplicaRole),(.int .i64 a_.1),(.sl 1 (List.map rB s0_ReplicaVotes)),(.sl 1 (List.map (rI .i64) l1)),.emp]]),A5 v4 g5 2 (List.map Ag a_.2),none]) h0 (E4 s0_ReplicaID s0_ReplicaMany s0_ReplicaTerm s0_ReplicaVote s0_ReplicaRole s0_ReplicaCommit s0_ReplicaVotes l l1)):=by
 refine Co (n:=48) 1 Tryz.func38 O (by decide) O O hI0 O fun ids he hI=>?_
 clear hI0
 obtain rfl:ix ids 0=o0:=he 0 rfl
 obtain rfl:ix ids 1=o1:=he 1 rfl
 obtain rfl:ix ids 2=o2:=he 2 rfl
 clear he
 refine B4 (Ax (E4.eq_1 _ _ _ _ _ _ _ _ _) ?_)
 refine Az ?_
 refine Ab<|Z<|Ak 5 [0] [(8,v2)] ?_
 refine Cn [2,3] hI O O (Mv l1 _ (ix ids 2) (ix ids 3) v2 g2 vH1 (by exact hI.sub' O O)) O O O O O O (fun v _=>Cd (K:=3) (N:=1) Tryz.func38 hI) ?_
 rintro _ _ _ _ ⟨g3,rfl,rfl⟩
 refine D3 [2,3] hI O O O ?_
 refine C3<|Ag1 [(some (.rows g 10 [[(.I s0_ReplicaID),(.I s0_ReplicaMany),(.I s0_ReplicaTerm),(.I s0_ReplicaVote),v1,(.I s0_ReplicaRole),(.I s0_ReplicaCommit),(.sl 1 (List.map rB s0_ReplicaVotes)),(.sl 1 (List.map (rI .i64) l1)),.emp]])),(A5 v1 g1 2 (List.map Ag l)),none,(some (.rows g3 1 [[(.sl 1 (List.map (rI .i64) l1))]]))] [(0,(.q ids 0 g)),(9,(.func (.func 78) [] [(.q ids 3 g3)]))] hI O (.fz (.cons (.same _) (.cons (.same _) (.cons (.same _) (.cons (.same _) (.cons (.same _) (.cons (.same _) (.cons (.same _) (.cons (.same _) (.cons (Dg vH1 (hI.at O O) (hI.at O O) (fun x=>Il x)) (.cons (.same _) .nil)))))))))) O (An O (An O (An O (An O (An (Bc.flat vH) (An O (An O (An O (An O (An O Dr)))))))))) (.keep (.drop (.fz (.cons (Dg vH1 (hI.at O O) (hI.at O O) (fun x=>Il x)) .nil) O O .nil)))) (.cons (.same _) (.cons (.same _) .nil))<|Cn [3] hI O O (K8 l1 _ (ix ids 3) g3 (by exact hI.sub' O O)) O O O O O O (fun v _=>Cd (K:=3) (N:=1) Tryz.func38 hI) ?_
 rintro l2 _ _ _ ⟨rfl,rfl⟩
 refine D3 [3] hI O O O ?_
 refine C3<|Ad (.sl 1 (List.map (rI .i64) l2)) O At<|Ae<|Az ?_
 refine Ab<|Z<|Ak 2 [] [(12,(.sl 1 (List.map (rI .i64) l2))),(11,(.sl 1 (List.map (rI .i64) l2)))] ?_
 refine Ad (.I (l2.length:Int)) O (Bp (Br Bw))<|Ad (.I (IntKind.wrap .i64 ((l2.length:Int) - 1))) O (Bi O O O)<|Ad (.I (IntKind.wrap .i64 (Int.tdiv (IntKind.wrap .i64 ((l2.length:Int) - 1)) 2))) O (Bi O O (Abp O (by decide)))<|G4 fun a hz hx1=>Ad (.cp [(.I a)] 0) O (By (Fa Bw Av O hz hx1))<|Ak 2 [] [(3,(.I a))] ?_
 refine Ae<|Ab<|Dp (D4 fun x l3=>Ec s0_ReplicaCommit a x l3) (D4 fun x l3=>fun(fr:Nat→AV) (h:Ah) => ∃ (v3:AV),∃ (g4:Nat),Bc v3 (ix ids 1) g4 l3.length∧fr=A0 [(0,(.q ids 0 g)),(3,(.I a)),(42,(.bool x))]∧h=hp h0 ids [(some (.rows g 10 [[(.I s0_ReplicaID),(.I s0_ReplicaMany),(.I s0_ReplicaTerm),(.I s0_ReplicaVote),v3,(.I s0_ReplicaRole),(.I s0_ReplicaCommit),(.sl 1 (List.map rB s0_ReplicaVotes)),(.sl 1 (List.map (rI .i64) l1)),.emp]])),(A5 v3 g4 2 (List.map Ag l3)),none,none]) ?_ fun hJ=>?_
 ·rintro⟨x,l3⟩ fr h ⟨v3,g4,vH2,rfl,rfl⟩
  refine Ax (Ec.eq_1 _ _ _ _)<|Cs O (fun hc=>?_) (fun hc=>?_)
  ·refine Z<|Ak 5 [] [(47,(.ptr (ix ids 0) g 0 6)),(44,(.I a))] ?_
   refine A4 (A6 (v:=(.I a)) hI O O O O Av O O O O O)<|Ae<|Az ?_
   exact Fm (K:=3) (N:=1) (a:=(a,l3)) (vs:=[]) [some (.rows g 10 [[(.I s0_ReplicaID),(.I s0_ReplicaMany),(.I s0_ReplicaTerm),(.I s0_ReplicaVote),v3,(.I s0_ReplicaRole),(.I a),(.sl 1 (List.map rB s0_ReplicaVotes)),(.sl 1 (List.map (rI .i64) l1)),.emp]]),A5 v3 g4 2 (List.map Ag l3),none] Tryz.func38 hI O O O (.keep (.keep (.keep (.keep .nil)))) (.same _) ⟨v3,g4,vH2,O,O⟩
  refine Bg<|Fm (K:=3) (N:=1) (a:=(s0_ReplicaCommit,l3)) (vs:=[]) [some (.rows g 10 [[(.I s0_ReplicaID),(.I s0_ReplicaMany),(.I s0_ReplicaTerm),(.I s0_ReplicaVote),v3,(.I s0_ReplicaRole),(.I s0_ReplicaCommit),(.sl 1 (List.map rB s0_ReplicaVotes)),(.sl 1 (List.map (rI .i64) l1)),.emp]]),A5 v3 g4 2 (List.map Ag l3),none] Tryz.func38 hI O O O (.keep (.keep (.keep (.keep .nil)))) (.same _) ⟨v3,g4,vH2,O,O⟩
 refine B7 Db [[],[],[1],[1,2],[1,2,3],[1,2,3,4],[0,1,2,3,4,5],[0,1,2,3,4,5,6],[0,1,2,3,4,5,6,7],[0,1,2,3,4,5,6,7,8],[0,1,2,3,4,5,6,7,8,9],[0,1,2,3,4,5,6,7,8,9,10],[0,1,2,3,4,5,6,7,8,9,10,11],[0,1,2,3,4,5,6,7],[0,1,2,3,4,5,6,7,13],[0,1,2,3,4,5,6,7,8,9,10,11,12,13,14],[0,1,2,3,4,5,6,7,8,9,10,11,12,13,14,15],[0,1,2,3,4,5,6,7,8,9,10,11,12,13,14,15,16],[0,1,2,3,4,5,6,7],[0,1,2,3,4,5,6,7,18],[0,1,2,3,4,5,6,7,18,19],[0,1,2,3,4,5,6,7,18,19,20],[0,1,2,3,4,5,6,7,18,19,20,21],[0,1,2,3,4,5,6,7,8,9,10,11,12,13,14,15,16,17,18,19,20,21,22],[0,1,2,3,4,5,6,7,8,9,10,11,12,13,14,15,16,17,18,19,20,21,22,23]] [(false,0),(false,1),(false,2),(false,3),(false,4),(false,5),(false,6),(false,7),(false,8),(false,9),(false,10),(false,11),(false,12),(false,13),(false,14),(false,15),(false,16),(false,17),(false,18),(false,19),(false,20),(false,21),(false,22),(false,23),(false,24)] (by kernel_rfl)<|Y (.I a) O O Aa<|Y (.q ids 0 g) O O Aa<|Y (.q ids 0 g) O O (Aq O)<|Y (.q ids 0 g) O O (Ai (Af (c:=0) (off:=0) (i:=0) Bf O Ar O))<|Y (.ptr (ix ids 0) g 0 6) O O (Ai (Af (c:=0) (off:=6) (i:=6) Ar O Av O))<|Y (.I s0_ReplicaCommit) O O (Al (Ap hI O O O Av O)) ?_
 refine Y (.bool (decide (a > s0_ReplicaCommit))) O O (Bi O O O)<|Y (.bool (decide (a > s0_ReplicaCommit))) O O Aa<|Gl (fun hb=>?_) (fun hb=>?_)
 ·refine Ay (tj:=25) (.q ids 0 g) O O (congrArg AV.bool hb) O Aa<|Ay (tj:=25) (.q ids 0 g) O O (congrArg AV.bool hb) O (Aq O)<|Ay (tj:=25) (.q ids 0 g) O O (congrArg AV.bool hb) O (Ai (Af (c:=0) (off:=0) (i:=0) Bf O Ar O))<|Ay (tj:=25) (.ptr (ix ids 0) g 0 4) O O (congrArg AV.bool hb) O (Ai (Af (c:=0) (off:=4) (i:=4) Ar O Bd O))<|Ay (tj:=25) v1 O O (congrArg AV.bool hb) O (Al (Ap hI O O O Bd O))<|Ay (tj:=25) (.I a) O O (congrArg AV.bool hb) O Aa<|Ay (tj:=25) (.I (IntKind.wrap .i64 (a - 1))) O O (congrArg AV.bool hb) O (Bi O O O) ?_
  refine G1 fun a1 hz1 hx2=>Ay (tj:=25) (.ptr (ix ids 1) g1 (IntKind.wrap .i64 (a - 1)).toNat 0) O O (congrArg AV.bool hb) O (By (J9 hI O vH O Bd C6 O hz1 hx2))<|Ay (tj:=25) (.ptr (ix ids 1) g1 (IntKind.wrap .i64 (a - 1)).toNat 0) O O (congrArg AV.bool hb) O (Ai (Af (c:=0) (off:=0) (i:=0) C6 O Av O))<|Ay (tj:=25) (.I a1.Term) O O (congrArg AV.bool hb) O (Al (V5 hI O vH O hx2 Av O))<|Ay (tj:=25) (.q ids 0 g) O O (congrArg AV.bool hb) O Aa<|Ay (tj:=25) (.q ids 0 g) O O (congrArg AV.bool hb) O (Aq O)<|Ay (tj:=25) (.q ids 0 g) O O (congrArg AV.bool hb) O (Ai (Af (c:=0) (off:=0) (i:=0) Bf O Ar O)) ?_
  refine Ay (tj:=25) (.ptr (ix ids 0) g 0 2) O O (congrArg AV.bool hb) O (Ai (Af (c:=0) (off:=2) (i:=2) Ar O Av O))<|Ay (tj:=25) (.I s0_ReplicaTerm) O O (congrArg AV.bool hb) O (Al (Ap hI O O O Av O))<|Ay (tj:=25) (.bool (a1.Term==s0_ReplicaTerm)) O O (congrArg AV.bool hb) O (Bi O O O)<|Y (.bool (a1.Term==s0_ReplicaTerm)) O O (Bz (t:=true) (congrArg AV.bool hb) O)<|Be<|Bn (hJ ((a1.Term==s0_ReplicaTerm),l) _ _ ⟨v1,g1,vH,O,O⟩)
 refine A2 (tj:=25) (b:=false) O O (congrArg AV.bool hb) O O<|A2 (tj:=25) (b:=false) O O (congrArg AV.bool hb) O O<|A2 (tj:=25) (b:=false) O O (congrArg AV.bool hb) O O<|A2 (tj:=25) (b:=false) O O (congrArg AV.bool hb) O O<|A2 (tj:=25) (b:=false) O O (congrArg AV.bool hb) O O<|A2 (tj:=25) (b:=false) O O (congrArg AV.bool hb) O O<|A2 (tj:=25) (b:=false) O O (congrArg AV.bool hb) O O ?_
 refine A2 (tj:=25) (b:=false) O O (congrArg AV.bool hb) O O<|A2 (tj:=25) (b:=false) O O (congrArg AV.bool hb) O O<|A2 (tj:=25) (b:=false) O O (congrArg AV.bool hb) O O<|A2 (tj:=25) (b:=false) O O (congrArg AV.bool hb) O O<|A2 (tj:=25) (b:=false) O O (congrArg AV.bool hb) O O<|A2 (tj:=25) (b:=false) O O (congrArg AV.bool hb) O O<|A2 (tj:=25) (b:=false) O O (congrArg AV.bool hb) O O ?_
 refine A2 (tj:=25) (b:=false) O O (congrArg AV.bool hb) O O<|A2 (tj:=25) (b:=false) O O (congrArg AV.bool hb) O O<|Y (.bool false) O O (Bz (t:=false) (congrArg AV.bool hb) O)<|Be<|Bn (hJ (false,l) _ _ ⟨v1,g1,vH,O,O⟩)
theorem Uz (vto:Int)(m:Message)(s0_Replica:Replica)(l:List Message)(h0:Ah)(o0:Nat)(o1:Nat)(g:Nat)(v1:AV)(g1:Nat)(vH:Bc v1 o1 g1 l.length)(hI0:Ids h0 [o0,o1] 2):Jm vto m s0_Replica l≠.bad→Bx Tryz.prog 61 [(.ptr o0 g 0 0),(.int .i64 vto),(.agg (Aj m))] (hp h0 [o0,o1] [some (.rows g 10 [[(.int .i64 s0_Replica.ID),(.int .i64 s0_Replica.Many),(.int .i64 s0_Replica.Term),(.int .i64 s0_Replica.Vote),(.sl 2 (List.map Ag s0_Replica.Log)),(.int .i64 s0_Replica.Role),(.int .i64 s0_Replica.Commit),(.sl 1 (List.map rB s0_Replica.Votes)),(.sl 1 (List.map (rI .i64) s0_Replica.Match)),v1]]),A5 v1 g1 10 (List.map Aj l)]) (El (fun a_ v h' => ∃ (v3:AV),∃ (g4:Nat),Bc v3 o1 g4 a_.length∧v=(.tup [])∧h'=hp h0 [o0,o1] [some (.rows g 10 [[(.int .i64 s0_Replica.ID),(.int .i64 s0_Replica.Many),(.int .i64 s0_Replica.Term),(.int .i64 s0_Replica.Vote),(.sl 2 (List.map Ag s0_Replica.Log)),(.int .i64 s0_Replica.Role),(.int .i64 s0_Replica.Commit),(.sl 1 (List.map rB s0_Replica.Votes)),(.sl 1 (List.map (rI .i64) s0_Replica.Match)),v3]]),A5 v3 g4 10 (List.map Aj a_)]) h0 (Jm vto m s0_Replica l)):=by
 refine Co (n:=30) 1 Tryz.func61 O (by decide) O O hI0 O fun ids he hI=>?_
 clear hI0
 obtain rfl:ix ids 0=o0:=he 0 rfl
 obtain rfl:ix ids 1=o1:=he 1 rfl
 clear he
 refine B4 (Ax (Jm.eq_1 _ _ _ _) ?_)
 refine Az ?_
 refine Ab<|Z<|C1 (v:=(.agg (Aj m))) (j:=2) hI O O O O O O O fun g2=>Ae<|Az ?_
 refine Ab<|B7 Db [[],[0],[0,1],[0,1,2],[0,1,2,3],[],[],[6],[6,7],[6,7,8],[6,7,8,9],[0,1,2,3,4],[0,1,2,3,4,4,11],[0,1,2,3,4,5,11,12],[0,1,2,3,4,5,5,11,12,12,13],[0,1,2,3,4,5,6,7,8,9,10,11,12,13,14],[0,1,2,3,4,5,6,7,8,9,10,10,11,12,13,14,14,15]] [(false,0),(false,1),(false,2),(false,3),(false,4),(false,5),(false,6),(false,7),(false,8),(false,9),(false,10),(false,11),(true,12),(false,13),(true,14),(false,15),(true,16)] (by kernel_rfl)<|Y (.q ids 0 g) O O Aa<|Y (.q ids 0 g) O O (Aq O)<|Y (.q ids 0 g) O O (Ai (Af (c:=0) (off:=0) (i:=0) Bf O Ar O))<|Y (.q ids 0 g) O O (Ai (Af (c:=0) (off:=0) (i:=0) Ar O Av O))<|Y (.I s0_Replica.ID) O O (Al (Ap hI O O O Av O)) ?_
 refine Y (.I vto) O O Aa<|Y (.q ids 0 g) O O Aa<|Y (.q ids 0 g) O O (Aq O)<|Y (.q ids 0 g) O O (Ai (Af (c:=0) (off:=0) (i:=0) Bf O Ar O))<|Y (.ptr (ix ids 0) g 0 2) O O (Ai (Af (c:=0) (off:=2) (i:=2) Ar O Av O))<|Y (.I s0_Replica.Term) O O (Al (Ap hI O O O Av O))<|Y (.ptr (ix ids 2) g2 0 1) O O (Ai (Af (c:=0) (off:=1) (i:=1) B0 O Av O)) ?_
 refine Bl O (fun _ _=>O) (fun K hK=>A3 (A6 (v:=(.I s0_Replica.ID)) hI O O O O Av O O O O O) (hK _ _ (Au O (Ac O (Al (Ap hI O O O Av O)) (Ac O (Ai (Af (c:=0) (off:=2) (i:=2) Ar O Av O)) (Ac O (Ai (Af (c:=0) (off:=0) (i:=0) Bf O Ar O)) (Ac O (Aq O) (Ac O Aa (Ac O Aa (A9 O (Au O As))))))))) ?_))
 clear hK K
 refine Y (.ptr (ix ids 2) g2 0 2) O O (Ai (Af (c:=0) (off:=2) (i:=2) B0 O Av O))<|Bl O (fun _ _=>O) (fun K hK=>A3 (A6 (v:=(.I vto)) hI O O O O Av O O O O O) (hK _ _ (A8 O (Ac O (Al (Ap hI O O O Av O)) (Ac O (Ai (Af (c:=0) (off:=2) (i:=2) Ar O Av O)) (Ac O (Ai (Af (c:=0) (off:=0) (i:=0) Bf O Ar O)) (Ac O (Aq O) (Ac O Aa (A9 O (A8 O As)))))))) ?_))
 clear hK K
 refine Y (.ptr (ix ids 2) g2 0 3) O O (Ai (Af (c:=0) (off:=3) (i:=3) B0 O Av O))<|Bl O (fun _ _=>O) (fun K hK=>A3 (A6 (v:=(.I s0_Replica.Term)) hI O O O O Av O O O O O) (hK _ _ (Bb O (A9 O (A8 O As))) ?_))
 clear hK K
 refine Be<|Az ?_
 refine B7 Db [[],[],[1],[1,2],[1,2,3],[],[5],[1,2,3,4,5,6],[0,0,1,2,3,4,5,6,7],[0,1,2,3,4,5,6,7,8],[0,1,2,3,4,5,6,7,8,9]] [(false,0),(false,1),(false,2),(false,3),(false,4),(false,5),(true,6),(true,7),(false,8),(false,9),(true,10)] (by kernel_rfl)<|Y (.q ids 0 g) O O Aa<|Y (.q ids 0 g) O O Aa<|Y (.q ids 0 g) O O (Aq O)<|Y (.ptr (ix ids 0) g 0 9) O O (Ai (Af (c:=0) (off:=9) (i:=1) Bf O Cw O))<|Y v1 O O (Al (Ap hI O O O Cw O))<|Y (.agg [(.I m.Kind),(.I s0_Replica.ID),(.I vto),(.I s0_Replica.Term),(.I m.Last),(.I m.LastTerm),(.sl 2 (List.map Ag m.Log)),(.I m.Commit),(.I m.Match),(.bool m.Granted)]) O O (Al (Ap hI O O O B0 O)) ?_
 refine Ck O O (fun _ _=>O) (fun K hK=>Ht (e:=Aj) (L:=[({ Kind:=m.Kind,From:=s0_Replica.ID,To:=vto,Term:=s0_Replica.Term,Last:=m.Last,LastTerm:=m.LastTerm,Log:=m.Log,Commit:=m.Commit,Match:=m.Match,Granted:=m.Granted }:Message)]) (st:=10) (rows:=[[(.I m.Kind),(.I s0_Replica.ID),(.I vto),(.I s0_Replica.Term),(.I m.Last),(.I m.LastTerm),(.sl 2 (List.map Ag m.Log)),(.I m.Commit),(.I m.Match),(.bool m.Granted)]]) Cw B0 O O O O O (.cons (.cons (.same _) (.cons (.same _) (.cons (.same _) (.cons (.same _) (.cons (.same _) (.cons (.same _) (.cons (.same _) (.cons (.same _) (.cons (.same _) (.cons (.same _) .nil)))))))))) .nil) (fun x=>Gd x) O O (hK _ _ (Au O (Ac O (Al (Ap hI O O O Cw O)) (Ac O (Ai (Af (c:=0) (off:=9) (i:=1) Bf O Cw O)) (Ac O (Aq O) (Ac O Aa (Ac O Aa As)))))) ?_))
 clear hK K
 refine Ce fun hl=>Ck O O (fun _ _=>O) (fun K hK=>Ee (e:=Aj) (L:=l) (L2:=[({ Kind:=m.Kind,From:=s0_Replica.ID,To:=vto,Term:=s0_Replica.Term,Last:=m.Last,LastTerm:=m.LastTerm,Log:=m.Log,Commit:=m.Commit,Match:=m.Match,Granted:=m.Granted }:Message)]) (v:=v1) (g:=g1) (st:=10) (j:=1) hI O O O vH O (Fg O) Cw Cw O B0 O O O hl fun v2 g3 vH1=>hK _ _ (A9 O (Au O (Ac O Aa As))) ?_)
 clear hK K
 refine Y (.q ids 0 g) O O (Aq O)<|Y (.ptr (ix ids 0) g 0 9) O O (Ai (Af (c:=0) (off:=9) (i:=1) Bf O Cw O))<|Bl O (fun _ _=>O) (fun K hK=>A3 (Ca vH1 hI O O O O Cw O O O) (hK _ _ (Bb O As) ?_))
 clear hK K
 refine Be<|Az ?_
 exact Fm (K:=2) (N:=1) (a:=(l++[({ Kind:=m.Kind,From:=s0_Replica.ID,To:=vto,Term:=s0_Replica.Term,Last:=m.Last,LastTerm:=m.LastTerm,Log:=m.Log,Commit:=m.Commit,Match:=m.Match,Granted:=m.Granted }:Message)])) (vs:=[]) [some (.rows g 10 [[(.I s0_Replica.ID),(.I s0_Replica.Many),(.I s0_Replica.Term),(.I s0_Replica.Vote),(.sl 2 (List.map Ag s0_Replica.Log)),(.I s0_Replica.Role),(.I s0_Replica.Commit),(.sl 1 (List.map rB s0_Replica.Votes)),(.sl 1 (List.map (rI .i64) s0_Replica.Match)),v2]]),A5 v2 g3 10 (List.map Aj (l++[({ Kind:=m.Kind,From:=s0_Replica.ID,To:=vto,Term:=s0_Replica.Term,Last:=m.Last,LastTerm:=m.LastTerm,Log:=m.Log,Commit:=m.Commit,Match:=m.Match,Granted:=m.Granted }:Message)]))] Tryz.func61 hI O O O (.keep (.keep (.drop .nil))) (.same _) ⟨v2,g3,vH1,O,O⟩
theorem Vb (m:Message)(s_Replica:Replica)(h0:Ah)(o0:Nat)(o1:Nat)(g:Nat)(hI0:Ids h0 [o0,o1] 2):Gb m s_Replica≠.bad→Bx Tryz.prog 31 [(.ptr o0 g 0 0),(.agg (Aj m))] (hp h0 [o0,o1] [some (.rows g 10 [[(.int .i64 s_Replica.ID),(.int .i64 s_Replica.Many),(.int .i64 s_Replica.Term),(.int .i64 s_Replica.Vote),(.sl 2 (List.map Ag s_Replica.Log)),(.int .i64 s_Replica.Role),(.int .i64 s_Replica.Commit),(.sl 1 (List.map rB s_Replica.Votes)),(.sl 1 (List.map (rI .i64) s_Replica.Match)),.emp]]),none]) (El (fun a_ v h' => ∃ (v4:AV),∃ (g5:Nat),Bc v4 o1 g5 a_.length∧v=(.tup [])∧h'=hp h0 [o0,o1] [some (.rows g 10 [[(.int .i64 s_Replica.ID),(.int .i64 s_Replica.Many),(.int .i64 s_Replica.Term),(.int .i64 s_Replica.Vote),(.sl 2 (List.map Ag s_Replica.Log)),(.int .i64 s_Replica.Role),(.int .i64 s_Replica.Commit),(.sl 1 (List.map rB s_Replica.Votes)),(.sl 1 (List.map (rI .i64) s_Replica.Match)),v4]]),A5 v4 g5 10 (List.map Aj a_)]) h0 (Gb m s_Replica)):=by
 refine Co (n:=25) 1 Tryz.func31 O (by decide) O O hI0 O fun ids he hI=>?_
 clear hI0
 obtain rfl:ix ids 0=o0:=he 0 rfl
 obtain rfl:ix ids 1=o1:=he 1 rfl
 clear he
 refine B4 (Ax (Gb.eq_1 _ _) ?_)
 refine Az ?_
 refine Ab<|Z<|C1 (v:=(.agg (Aj m))) (j:=2) hI O O O O O O O fun g1=>Ae<|Az ?_
 refine Ab<|Z<|Ak 6 [0] [(10,(.I 0)),(9,(.I s_Replica.Many))] ?_
 refine Ae<|Dp (fun l1=>Iq l1) (fun l1=>fun(fr:Nat→AV) (h:Ah) => ∃ (v3:AV),∃ (g4:Nat),Bc v3 (ix ids 1) g4 l1.length∧fr=A0 []∧h=hp h0 ids [(some (.rows g 10 [[(.I s_Replica.ID),(.I s_Replica.Many),(.I s_Replica.Term),(.I s_Replica.Vote),(.sl 2 (List.map Ag s_Replica.Log)),(.I s_Replica.Role),(.I s_Replica.Commit),(.sl 1 (List.map rB s_Replica.Votes)),(.sl 1 (List.map (rI .i64) s_Replica.Match)),v3]])),(A5 v3 g4 10 (List.map Aj l1)),none]) ?_ fun hJ=>?_
 ·rintro l1 fr h ⟨v3,g4,vH2,rfl,rfl⟩
  refine Ax (Iq.eq_1 _)<|Fm (K:=2) (N:=1) (a:=l1) (vs:=[]) [some (.rows g 10 [[(.I s_Replica.ID),(.I s_Replica.Many),(.I s_Replica.Term),(.I s_Replica.Vote),(.sl 2 (List.map Ag s_Replica.Log)),(.I s_Replica.Role),(.I s_Replica.Commit),(.sl 1 (List.map rB s_Replica.Votes)),(.sl 1 (List.map (rI .i64) s_Replica.Match)),v3]]),A5 v3 g4 10 (List.map Aj l1)] Tryz.func31 hI O O O (.keep (.keep (.keep .nil))) (.same _) ⟨v3,g4,vH2,O,O⟩
 refine Bq<|Fw [(0,(.q ids 0 g)),(3,(.q ids 2 g1)),(9,(.I s_Replica.Many)),(10,(.I 0))] (FI O)<|I1 (P:=Tryz.prog) (D4 fun x l=>Hg m s_Replica x l) ((fun l1=>Iq l1):(List Message)→R (List Message)) (D4 fun x l=>fun(fr:Nat→AV) (h:Ah) => ∃ (v1:AV),∃ (g2:Nat),Bc v1 (ix ids 1) g2 l.length∧fr=A0 [(0,(.q ids 0 g)),(3,(.q ids 2 g1)),(9,(.I s_Replica.Many)),(10,(.I x))]∧h=hp h0 ids [(some (.rows g 10 [[(.I s_Replica.ID),(.I s_Replica.Many),(.I s_Replica.Term),(.I s_Replica.Vote),(.sl 2 (List.map Ag s_Replica.Log)),(.I s_Replica.Role),(.I s_Replica.Commit),(.sl 1 (List.map rB s_Replica.Votes)),(.sl 1 (List.map (rI .i64) s_Replica.Match)),v1]])),(A5 v1 g2 10 (List.map Aj l)),(some (.rows g1 10 [(Aj m)]))]) (0,[]) ?_ ?_
 ·exact⟨.emp,0,.nil,O,O⟩
 rintro vW hW ⟨x,l⟩ fr h ⟨v1,g2,vH,rfl,rfl⟩
 refine Ax (m':=Hg m s_Replica x l) O (Ax (Hg.eq_1 _ _ _ _) ?_)
 refine Ab<|Z<|Ad (.bool (decide (x<s_Replica.Many))) O (Bi O O O)<|Ae<|Ab<|Gg O (fun hc=>?_) (fun hc=>?_)
 ·refine Bg<|Ab<|Bq<|Ab<|Z<|Ak 2 [] [(4,(.I x))] ?_
  refine Ae<|Ab<|Z<|Ak 7 [0] [(19,(.bool (x != s_Replica.ID)))] ?_
  refine Ae<|Cs O (fun hc1=>?_) (fun hc1=>?_)
  ·refine Z<|Ak 3 [2] [(22,(.agg (Aj m))),(21,(.I x)),(20,(.q ids 0 g))] ?_
   refine Cn [0,1] hI O O (Uz x m s_Replica l _ (ix ids 0) (ix ids 1) g v1 g2 vH (by exact hI.sub' O O)) O O O O O O (fun v _=>Cd (K:=2) (N:=1) Tryz.func31 hI) ?_
   rintro r _ _ _ ⟨v2,g3,vH1,rfl,rfl⟩
   refine D3 [0,1] hI O O O ?_
   refine C3<|Ae<|Az ?_
   refine Bs<|Z<|Ak 2 [] [(10,(.I (IntKind.wrap .i64 (x+1))))] ?_
   refine Ae<|Bn (Gs (hW ((IntKind.wrap .i64 (x+1)),r) _ _ ⟨v2,g3,vH1,O,O⟩))
  refine Bg<|Bs<|Z<|Ak 2 [] [(10,(.I (IntKind.wrap .i64 (x+1))))] ?_
  refine Ae<|Bn (Gs (hW ((IntKind.wrap .i64 (x+1)),l) _ _ ⟨v1,g2,vH,O,O⟩))
 refine Ed O<|H4<|Ez [(some (.rows g 10 [[(.I s_Replica.ID),(.I s_Replica.Many),(.I s_Replica.Term),(.I s_Replica.Vote),(.sl 2 (List.map Ag s_Replica.Log)),(.I s_Replica.Role),(.I s_Replica.Commit),(.sl 1 (List.map rB s_Replica.Votes)),(.sl 1 (List.map (rI .i64) s_Replica.Match)),v1]])),(A5 v1 g2 10 (List.map Aj l)),none] hI O (.keep (.keep (.drop .nil)))<|Bn (hJ l _ _ ⟨v1,g2,vH,O,O⟩)
theorem Up (s0_ReplicaID:Int)(s0_ReplicaMany:Int)(s0_ReplicaTerm:Int)(s0_ReplicaVote:Int)(s0_ReplicaRole:Int)(s0_ReplicaCommit:Int)(s0_ReplicaVotes:List Bool)(s0_ReplicaMatch:List Int)(l:List Record)(h0:Ah)(o0:Nat)(o1:Nat)(o2:Nat)(g:Nat)(v1:AV)(g1:Nat)(vH:Bc v1 o1 g1 l.length)(hI0:Ids h0 [o0,o1,o2] 3):Gx s0_ReplicaID s0_ReplicaMany s0_ReplicaTerm s0_ReplicaVote s0_ReplicaRole s0_ReplicaCommit s0_ReplicaVotes s0_ReplicaMatch l≠.bad→Bx Tryz.prog 39 [(.ptr o0 g 0 0)] (hp h0 [o0,o1,o2] [some (.rows g 10 [[(.int .i64 s0_ReplicaID),(.int .i64 s0_ReplicaMany),(.int .i64 s0_ReplicaTerm),(.int .i64 s0_ReplicaVote),v1,(.int .i64 s0_ReplicaRole),(.int .i64 s0_ReplicaCommit),(.sl 1 (List.map rB s0_ReplicaVotes)),(.sl 1 (List.map (rI .i64) s0_ReplicaMatch)),.emp]]),A5 v1 g1 2 (List.map Ag l),none]) (El (fun a_ v h' => ∃ (v3:AV),∃ (g3:Nat),Bc v3 o2 g3 a_.length∧v=(.tup [])∧h'=hp h0 [o0,o1,o2] [some (.rows g 10 [[(.int .i64 ({ ID:=s0_ReplicaID,Many:=s0_ReplicaMany,Term:=s0_ReplicaTerm,Vote:=s0_ReplicaVote,Log:=l,Role:=s0_ReplicaRole,Commit:=s0_ReplicaCommit,Votes:=s0_ReplicaVotes,Match:=s0_ReplicaMatch }:Replica).ID),(.int .i64 ({ ID:=s0_ReplicaID,Many:=s0_ReplicaMany,Term:=s0_ReplicaTerm,Vote:=s0_ReplicaVote,Log:=l,Role:=s0_ReplicaRole,Commit:=s0_ReplicaCommit,Votes:=s0_ReplicaVotes,Match:=s0_ReplicaMatch }:Replica).Many),(.int .i64 ({ ID:=s0_ReplicaID,Many:=s0_ReplicaMany,Term:=s0_ReplicaTerm,Vote:=s0_ReplicaVote,Log:=l,Role:=s0_ReplicaRole,Commit:=s0_ReplicaCommit,Votes:=s0_ReplicaVotes,Match:=s0_ReplicaMatch }:Replica).Term),(.int .i64 ({ ID:=s0_ReplicaID,Many:=s0_ReplicaMany,Term:=s0_ReplicaTerm,Vote:=s0_ReplicaVote,Log:=l,Role:=s0_ReplicaRole,Commit:=s0_ReplicaCommit,Votes:=s0_ReplicaVotes,Match:=s0_ReplicaMatch }:Replica).Vote),(.sl 2 (List.map Ag ({ ID:=s0_ReplicaID,Many:=s0_ReplicaMany,Term:=s0_ReplicaTerm,Vote:=s0_ReplicaVote,Log:=l,Role:=s0_ReplicaRole,Commit:=s0_ReplicaCommit,Votes:=s0_ReplicaVotes,Match:=s0_ReplicaMatch }:Replica).Log)),(.int .i64 ({ ID:=s0_ReplicaID,Many:=s0_ReplicaMany,Term:=s0_ReplicaTerm,Vote:=s0_ReplicaVote,Log:=l,Role:=s0_ReplicaRole,Commit:=s0_ReplicaCommit,Votes:=s0_ReplicaVotes,Match:=s0_ReplicaMatch }:Replica).Role),(.int .i64 ({ ID:=s0_ReplicaID,Many:=s0_ReplicaMany,Term:=s0_ReplicaTerm,Vote:=s0_ReplicaVote,Log:=l,Role:=s0_ReplicaRole,Commit:=s0_ReplicaCommit,Votes:=s0_ReplicaVotes,Match:=s0_ReplicaMatch }:Replica).Commit),(.sl 1 (List.map rB ({ ID:=s0_ReplicaID,Many:=s0_ReplicaMany,Term:=s0_ReplicaTerm,Vote:=s0_ReplicaVote,Log:=l,Role:=s0_ReplicaRole,Commit:=s0_ReplicaCommit,Votes:=s0_ReplicaVotes,Match:=s0_ReplicaMatch }:Replica).Votes)),(.sl 1 (List.map (rI .i64) ({ ID:=s0_ReplicaID,Many:=s0_ReplicaMany,Term:=s0_ReplicaTerm,Vote:=s0_ReplicaVote,Log:=l,Role:=s0_ReplicaRole,Commit:=s0_ReplicaCommit,Votes:=s0_ReplicaVotes,Match:=s0_ReplicaMatch }:Replica).Match)),v3]]),none,A5 v3 g3 10 (List.map Aj a_)]) h0 (Gx s0_ReplicaID s0_ReplicaMany s0_ReplicaTerm s0_ReplicaVote s0_ReplicaRole s0_ReplicaCommit s0_ReplicaVotes s0_ReplicaMatch l)):=by
 refine Co (n:=15) 0 Tryz.func39 O (by decide) O O hI0 O fun ids he hI=>?_
 clear hI0
 obtain rfl:ix ids 0=o0:=he 0 rfl
 obtain rfl:ix ids 1=o1:=he 1 rfl
 obtain rfl:ix ids 2=o2:=he 2 rfl
 clear he
 refine B4 (Ax (Gx.eq_1 _ _ _ _ _ _ _ _ _) ?_)
 refine Aay [(some (.rows g 10 [[(.I s0_ReplicaID),(.I s0_ReplicaMany),(.I s0_ReplicaTerm),(.I s0_ReplicaVote),(.sl 2 (List.map Ag l)),(.I s0_ReplicaRole),(.I s0_ReplicaCommit),(.sl 1 (List.map rB s0_ReplicaVotes)),(.sl 1 (List.map (rI .i64) s0_ReplicaMatch)),.emp]])),none,none] [(0,(.q ids 0 g))] hI O (.fz (.cons (.same _) (.cons (.same _) (.cons (.same _) (.cons (.same _) (.cons (Dg vH (hI.at O O) (hI.at O O) (fun x=>Kj x)) (.cons (.same _) (.cons (.same _) (.cons (.same _) (.cons (.same _) (.cons (.same _) .nil)))))))))) O O (.drop (.keep .nil))) (.cons (.same _) .nil)<|B7 Db [[],[],[1],[1,2],[1,2,3],[1,2,3,4],[],[6],[6,7],[6,7,8],[6,7,8,9],[1,2,3,4,5,6,7,8,9,10],[0,1,2,3,4,5,6,7,8,9,10,11]] [(false,0),(false,1),(false,2),(false,3),(false,4),(false,5),(false,6),(false,7),(false,8),(false,9),(false,10),(false,11),(true,12)] (by kernel_rfl)<|Y (.q ids 0 g) O O Aa<|Y (.q ids 0 g) O O Aa<|Y (.q ids 0 g) O O (Aq O)<|Y (.q ids 0 g) O O (Ai (Af (c:=0) (off:=0) (i:=0) Bf O Ar O))<|Y (.ptr (ix ids 0) g 0 4) O O (Ai (Af (c:=0) (off:=4) (i:=4) Ar O Bd O)) ?_
 refine Y (.sl 2 (List.map Ag l)) O O (Al (Ap hI O O O Bd O))<|Y (.q ids 0 g) O O Aa<|Y (.q ids 0 g) O O (Aq O)<|Y (.q ids 0 g) O O (Ai (Af (c:=0) (off:=0) (i:=0) Bf O Ar O))<|Y (.ptr (ix ids 0) g 0 6) O O (Ai (Af (c:=0) (off:=6) (i:=6) Ar O Av O))<|Y (.I s0_ReplicaCommit) O O (Al (Ap hI O O O Av O))<|Y (.agg [(.I 3),(.I 0),(.I 0),(.I 0),(.I 0),(.I 0),(.sl 2 (List.map Ag l)),(.I s0_ReplicaCommit),(.I 0),(.bool false)]) O O (Dw (Hn B0 Abq O)) ?_
 refine Fh [0,2] hI O O (Vb ({ Kind:=3,From:=0,To:=0,Term:=0,Last:=0,LastTerm:=0,Log:=l,Commit:=s0_ReplicaCommit,Match:=0,Granted:=false }:Message) ({ ID:=s0_ReplicaID,Many:=s0_ReplicaMany,Term:=s0_ReplicaTerm,Vote:=s0_ReplicaVote,Log:=l,Role:=s0_ReplicaRole,Commit:=s0_ReplicaCommit,Votes:=s0_ReplicaVotes,Match:=s0_ReplicaMatch }:Replica) _ (ix ids 0) (ix ids 2) g (by exact hI.sub' O O)) O O O O O O O (fun v _ _ _=>Cd (K:=3) (N:=0) Tryz.func39 hI) ?_
 rintro r _ _ _ ⟨v2,g2,vH1,rfl,rfl⟩
 refine Gf [0,2] [some (.rows g 10 [[(.I ({ ID:=s0_ReplicaID,Many:=s0_ReplicaMany,Term:=s0_ReplicaTerm,Vote:=s0_ReplicaVote,Log:=l,Role:=s0_ReplicaRole,Commit:=s0_ReplicaCommit,Votes:=s0_ReplicaVotes,Match:=s0_ReplicaMatch }:Replica).ID),(.I ({ ID:=s0_ReplicaID,Many:=s0_ReplicaMany,Term:=s0_ReplicaTerm,Vote:=s0_ReplicaVote,Log:=l,Role:=s0_ReplicaRole,Commit:=s0_ReplicaCommit,Votes:=s0_ReplicaVotes,Match:=s0_ReplicaMatch }:Replica).Many),(.I ({ ID:=s0_ReplicaID,Many:=s0_ReplicaMany,Term:=s0_ReplicaTerm,Vote:=s0_ReplicaVote,Log:=l,Role:=s0_ReplicaRole,Commit:=s0_ReplicaCommit,Votes:=s0_ReplicaVotes,Match:=s0_ReplicaMatch }:Replica).Term),(.I ({ ID:=s0_ReplicaID,Many:=s0_ReplicaMany,Term:=s0_ReplicaTerm,Vote:=s0_ReplicaVote,Log:=l,Role:=s0_ReplicaRole,Commit:=s0_ReplicaCommit,Votes:=s0_ReplicaVotes,Match:=s0_ReplicaMatch }:Replica).Vote),(.sl 2 (List.map Ag ({ ID:=s0_ReplicaID,Many:=s0_ReplicaMany,Term:=s0_ReplicaTerm,Vote:=s0_ReplicaVote,Log:=l,Role:=s0_ReplicaRole,Commit:=s0_ReplicaCommit,Votes:=s0_ReplicaVotes,Match:=s0_ReplicaMatch }:Replica).Log)),(.I ({ ID:=s0_ReplicaID,Many:=s0_ReplicaMany,Term:=s0_ReplicaTerm,Vote:=s0_ReplicaVote,Log:=l,Role:=s0_ReplicaRole,Commit:=s0_ReplicaCommit,Votes:=s0_ReplicaVotes,Match:=s0_ReplicaMatch }:Replica).Role),(.I ({ ID:=s0_ReplicaID,Many:=s0_ReplicaMany,Term:=s0_ReplicaTerm,Vote:=s0_ReplicaVote,Log:=l,Role:=s0_ReplicaRole,Commit:=s0_ReplicaCommit,Votes:=s0_ReplicaVotes,Match:=s0_ReplicaMatch }:Replica).Commit),(.sl 1 (List.map rB ({ ID:=s0_ReplicaID,Many:=s0_ReplicaMany,Term:=s0_ReplicaTerm,Vote:=s0_ReplicaVote,Log:=l,Role:=s0_ReplicaRole,Commit:=s0_ReplicaCommit,Votes:=s0_ReplicaVotes,Match:=s0_ReplicaMatch }:Replica).Votes)),(.sl 1 (List.map (rI .i64) ({ ID:=s0_ReplicaID,Many:=s0_ReplicaMany,Term:=s0_ReplicaTerm,Vote:=s0_ReplicaVote,Log:=l,Role:=s0_ReplicaRole,Commit:=s0_ReplicaCommit,Votes:=s0_ReplicaVotes,Match:=s0_ReplicaMatch }:Replica).Match)),v2]]),none,A5 v2 g2 10 (List.map Aj r)] hI O O O O ⟨(Bb O (A9 O As)),?_⟩
 refine Ge<|Be<|Az ?_
 exact Fm (K:=3) (N:=0) (a:=r) (vs:=[]) [some (.rows g 10 [[(.I ({ ID:=s0_ReplicaID,Many:=s0_ReplicaMany,Term:=s0_ReplicaTerm,Vote:=s0_ReplicaVote,Log:=l,Role:=s0_ReplicaRole,Commit:=s0_ReplicaCommit,Votes:=s0_ReplicaVotes,Match:=s0_ReplicaMatch }:Replica).ID),(.I ({ ID:=s0_ReplicaID,Many:=s0_ReplicaMany,Term:=s0_ReplicaTerm,Vote:=s0_ReplicaVote,Log:=l,Role:=s0_ReplicaRole,Commit:=s0_ReplicaCommit,Votes:=s0_ReplicaVotes,Match:=s0_ReplicaMatch }:Replica).Many),(.I ({ ID:=s0_ReplicaID,Many:=s0_ReplicaMany,Term:=s0_ReplicaTerm,Vote:=s0_ReplicaVote,Log:=l,Role:=s0_ReplicaRole,Commit:=s0_ReplicaCommit,Votes:=s0_ReplicaVotes,Match:=s0_ReplicaMatch }:Replica).Term),(.I ({ ID:=s0_ReplicaID,Many:=s0_ReplicaMany,Term:=s0_ReplicaTerm,Vote:=s0_ReplicaVote,Log:=l,Role:=s0_ReplicaRole,Commit:=s0_ReplicaCommit,Votes:=s0_ReplicaVotes,Match:=s0_ReplicaMatch }:Replica).Vote),(.sl 2 (List.map Ag ({ ID:=s0_ReplicaID,Many:=s0_ReplicaMany,Term:=s0_ReplicaTerm,Vote:=s0_ReplicaVote,Log:=l,Role:=s0_ReplicaRole,Commit:=s0_ReplicaCommit,Votes:=s0_ReplicaVotes,Match:=s0_ReplicaMatch }:Replica).Log)),(.I ({ ID:=s0_ReplicaID,Many:=s0_ReplicaMany,Term:=s0_ReplicaTerm,Vote:=s0_ReplicaVote,Log:=l,Role:=s0_ReplicaRole,Commit:=s0_ReplicaCommit,Votes:=s0_ReplicaVotes,Match:=s0_ReplicaMatch }:Replica).Role),(.I ({ ID:=s0_ReplicaID,Many:=s0_ReplicaMany,Term:=s0_ReplicaTerm,Vote:=s0_ReplicaVote,Log:=l,Role:=s0_ReplicaRole,Commit:=s0_ReplicaCommit,Votes:=s0_ReplicaVotes,Match:=s0_ReplicaMatch }:Replica).Commit),(.sl 1 (List.map rB ({ ID:=s0_ReplicaID,Many:=s0_ReplicaMany,Term:=s0_ReplicaTerm,Vote:=s0_ReplicaVote,Log:=l,Role:=s0_ReplicaRole,Commit:=s0_ReplicaCommit,Votes:=s0_ReplicaVotes,Match:=s0_ReplicaMatch }:Replica).Votes)),(.sl 1 (List.map (rI .i64) ({ ID:=s0_ReplicaID,Many:=s0_ReplicaMany,Term:=s0_ReplicaTerm,Vote:=s0_ReplicaVote,Log:=l,Role:=s0_ReplicaRole,Commit:=s0_ReplicaCommit,Votes:=s0_ReplicaVotes,Match:=s0_ReplicaMatch }:Replica).Match)),v2]]),none,A5 v2 g2 10 (List.map Aj r)] Tryz.func39 hI O O O (.keep (.keep (.keep .nil))) (.same _) ⟨v2,g2,vH1,O,O⟩
theorem Pg (r:Replica)(data:List Int):CP Tryz.prog 10 [(.agg (Ao r)),(.sl 1 (List.map (rI .u8) data))] (Ey r data) (fun(p:(Replica×(List Message)×Int))=>AV.tup [(.agg (Ao p.1)),(.sl 10 (List.map Aj p.2.1)),(.int .i64 p.2.2)]):=by
 refine Da (n:=77) 6 Tryz.func10 O (by decide) O O fun h0 ids hI=>B4 (Ax (Ey.eq_1 _ _) ?_)
 refine Ab<|Z<|C1 (v:=(.agg (Ao r))) (j:=0) hI O O O O O O O fun g=>Cc (j:=1) hI O O O O Ar O fun g1=>Ak 2 [] [] ?_
 refine Ae<|Az ?_
 refine Ab<|Ab<|Z<|Ak 1 [0] [(8,(.agg (Ao r)))] ?_
 refine Bh [(.agg (Ao r))] O O O O ((J8 r) _) (fun v _=>Bk Tryz.func10 hI) fun e _=>Ad (.I e) O At<|Ae<|Ab<|Z<|Ak 2 [] [(11,(.bool (e != 0)))] ?_
 refine Ae<|Cs O (fun hc=>?_) (fun hc=>?_)
 ·refine Ab<|Z<|Ak 2 [1] [(13,(.I e)),(12,(.agg [(.I 0),(.I 0),(.I 0),(.I 0),.emp,(.I 0),(.I 0),.emp,.emp]))] ?_
  refine A4 (A6 (v:=(.agg [(.I 0),(.I 0),(.I 0),(.I 0),.emp,(.I 0),(.I 0),.emp,.emp])) hI O O O O Ar O O O O O)<|Ak 2 [] [(6,(.I e)),(5,.emp)] ?_
  refine Ae<|B6 (a:=(({ ID:=0,Many:=0,Term:=0,Vote:=0,Log:=[],Role:=0,Commit:=0,Votes:=[],Match:=[] }:Replica),[],e)) (vs:=[(.agg [(.I 0),(.I 0),(.I 0),(.I 0),.emp,(.I 0),(.I 0),.emp,.emp]),.emp,(.I e)]) Tryz.func10 hI (B2 (Ap hI O O O Ar O) (C2 (C2 Cg))) (.tupL (.cons (.aggL (.cons (.same _) (.cons (.same _) (.cons (.same _) (.cons (.same _) (.cons (.emp _) (.cons (.same _) (.cons (.same _) (.cons (.emp _) (.cons (.emp _) .nil)))))))))) (.cons (.emp _) (.cons (.same _) .nil))))
 refine Bg<|Ab<|Ab<|Z<|Ak 3 [0] [(16,(.bool (r.Role != 2)))] ?_
 refine Ae<|Cs O (fun hc1=>?_) (fun hc1=>?_)
 ·refine Ab<|Z<|Ak 1 [1] [(17,(.agg [(.I 0),(.I 0),(.I 0),(.I 0),.emp,(.I 0),(.I 0),.emp,.emp]))] ?_
  refine A4 (A6 (v:=(.agg [(.I 0),(.I 0),(.I 0),(.I 0),.emp,(.I 0),(.I 0),.emp,.emp])) hI O O O O Ar O O O O O)<|Ak 2 [] [(6,(.I 470)),(5,.emp)] ?_
  refine Ae<|B6 (a:=(({ ID:=0,Many:=0,Term:=0,Vote:=0,Log:=[],Role:=0,Commit:=0,Votes:=[],Match:=[] }:Replica),[],470)) (vs:=[(.agg [(.I 0),(.I 0),(.I 0),(.I 0),.emp,(.I 0),(.I 0),.emp,.emp]),.emp,(.I 470)]) Tryz.func10 hI (B2 (Ap hI O O O Ar O) (C2 (C2 Cg))) (.tupL (.cons (.aggL (.cons (.same _) (.cons (.same _) (.cons (.same _) (.cons (.same _) (.cons (.emp _) (.cons (.same _) (.cons (.same _) (.cons (.emp _) (.cons (.emp _) .nil)))))))))) (.cons (.emp _) (.cons (.same _) .nil))))
 refine Bg<|Ab<|Ab<|Z<|Ak 2 [0] [(19,(.sl 2 (List.map Ag r.Log)))] ?_
 refine Ad (.I (r.Log.length:Int)) O (Bp (Br Bd))<|Ad (.bool (decide ((r.Log.length:Int)≥4096))) O (Bi O O O)<|Ae<|Gg O (fun hc2=>?_) (fun hc2=>?_)
 ·refine Ab<|Z<|Ak 1 [1] [(22,(.agg [(.I 0),(.I 0),(.I 0),(.I 0),.emp,(.I 0),(.I 0),.emp,.emp]))] ?_
  refine A4 (A6 (v:=(.agg [(.I 0),(.I 0),(.I 0),(.I 0),.emp,(.I 0),(.I 0),.emp,.emp])) hI O O O O Ar O O O O O)<|Ak 2 [] [(6,(.I 2)),(5,.emp)] ?_
  refine Ae<|B6 (a:=(({ ID:=0,Many:=0,Term:=0,Vote:=0,Log:=[],Role:=0,Commit:=0,Votes:=[],Match:=[] }:Replica),[],2)) (vs:=[(.agg [(.I 0),(.I 0),(.I 0),(.I 0),.emp,(.I 0),(.I 0),.emp,.emp]),.emp,(.I 2)]) Tryz.func10 hI (B2 (Ap hI O O O Ar O) (C2 (C2 Cg))) (.tupL (.cons (.aggL (.cons (.same _) (.cons (.same _) (.cons (.same _) (.cons (.same _) (.cons (.emp _) (.cons (.same _) (.cons (.same _) (.cons (.emp _) (.cons (.emp _) .nil)))))))))) (.cons (.emp _) (.cons (.same _) .nil))))
 refine Bg<|Ab<|Z<|Ak 1 [0] [(23,(.agg (Ao r)))] ?_
 refine Cn [2] hI O O (M8 r _ (ix ids 2) (by exact hI.sub' O O)) O O O O O O (fun v _=>Bk Tryz.func10 hI) ?_
 rintro _ _ _ _ ⟨g2,rfl,rfl⟩
 refine D3 [2] hI O O O ?_
 refine C3<|Ad (.q ids 2 g2) O At<|Ae<|Az ?_
 refine Ab<|Dp (fun l=>I3 r l) (fun l=>fun(fr:Nat→AV) (h:Ah) => ∃ (v4:AV),∃ (g7:Nat),Bc v4 (ix ids 3) g7 l.length∧fr=A0 [(2,(.q ids 0 g)),(4,(.q ids 1 g1)),(7,(.q ids 2 g2))]∧h=hp h0 ids [(some (.rows g 9 [(Ao r)])),(some (.rows g1 9 [[(.I 0),(.I 0),(.I 0),(.I 0),.emp,(.I 0),(.I 0),.emp,.emp]])),(some (.rows g2 10 [[(.I r.ID),(.I r.Many),(.I r.Term),(.I r.Vote),v4,(.I r.Role),(.I r.Commit),(.sl 1 (List.map rB r.Votes)),(.sl 1 (List.map (rI .i64) r.Match)),.emp]])),(A5 v4 g7 2 (List.map Ag l)),none,none]) ?_ fun hJ=>?_
 ·rintro l fr h ⟨v4,g7,vH4,rfl,rfl⟩
  refine Ax (I3.eq_1 _ _)<|Ab<|Z<|Ak 3 [0] [(43,(.sl 1 (List.map (rI .i64) r.Match))),(41,(.q ids 2 g2))] ?_
  refine Zx (j:=4) [(.sl 1 (List.map (rI .i64) r.Match))] hI O O O O O O ((Rw r.Match) _ _ (hI.at O O)) (fun v _=>Bk Tryz.func10 hI) fun r3 _ v5 g8 vH5=>Ak 3 [] [(47,(.ptr (ix ids 2) g2 0 8))] ?_
  refine A4 (Ca vH5 hI O O O O Bw O O O)<|Ae<|Az ?_
  refine Ab<|B7 Db [[],[0],[0,1],[0,1,2],[0,1,2,3],[],[5],[5,6],[5,6,7],[5,6,7,8],[],[10],[10,11],[10,11,12],[10,11,12,13],[10,11,12,13,14],[0,1,2,3,4,4,5,6,7,8,9,9,10,11,12,13,14,15],[0,1,2,3,4,5,6,7,8,9,10,11,12,13,14,15,15,16]] [(false,0),(false,1),(false,2),(false,3),(false,4),(false,5),(false,6),(false,7),(false,8),(false,9),(false,10),(false,11),(false,12),(false,13),(false,14),(false,15),(false,16),(true,17)] (by kernel_rfl)<|Y (.q ids 2 g2) O O Aa<|Y (.q ids 2 g2) O O (Aq O)<|Y (.q ids 2 g2) O O (Ai (Af (c:=0) (off:=0) (i:=0) Bf O Ar O))<|Y (.ptr (ix ids 2) g2 0 8) O O (Ai (Af (c:=0) (off:=8) (i:=8) Ar O Bw O))<|Y v5 O O (Al (Ap hI O O O Bw O)) ?_
  refine Y (.q ids 2 g2) O O Aa<|Y (.q ids 2 g2) O O (Aq O)<|Y (.q ids 2 g2) O O (Ai (Af (c:=0) (off:=0) (i:=0) Bf O Ar O))<|Y (.q ids 2 g2) O O (Ai (Af (c:=0) (off:=0) (i:=0) Ar O Av O))<|Y (.I r.ID) O O (Al (Ap hI O O O Av O))<|Y (.q ids 2 g2) O O Aa<|Y (.q ids 2 g2) O O (Aq O) ?_
  refine Y (.q ids 2 g2) O O (Ai (Af (c:=0) (off:=0) (i:=0) Bf O Ar O))<|Y (.ptr (ix ids 2) g2 0 4) O O (Ai (Af (c:=0) (off:=4) (i:=4) Ar O Bd O))<|Y v4 O O (Al (Ap hI O O O Bd O))<|Y (.I (l.length:Int)) O O (Bp (Bc.len vH4 Bd))<|G1 fun a hz hx1=>Y (.ptr (ix ids 4) g8 r.ID.toNat 0) O O (By (J9 hI O vH5 O Bw Av O hz hx1))<|Bl O (fun _ _=>O) (fun K hK=>A3 (Rs (y:=(l.length:Int)) hI O O vH5 O hx1 Av O O O O O O) (hK _ _ (Bb O (Bb O (Au O As))) ?_))
  clear hK K
  have vH6:=Bc.set (i:=r.ID.toNat) (y:=(l.length:Int)) vH5
  have hx2:=List.getElem?_set_self (a:=(l.length:Int)) (B8 hx1)
  refine Be<|Az ?_
  refine Ab<|Z<|Ad (.q ids 2 g2) O Aa<|Cn [2,3,4] hI O O (Tc r.ID r.Many r.Term r.Vote r.Role r.Commit r.Votes l (r3.set r.ID.toNat (l.length:Int)) _ (ix ids 2) (ix ids 3) (ix ids 4) g2 v4 g7 v5 g8 vH4 vH6 (by exact hI.sub' O O)) O O O O O O (fun v _=>Bk Tryz.func10 hI) ?_
  rintro r4 _ _ _ ⟨v6,g9,vH7,rfl,rfl⟩
  refine D3 [2,3,4] hI O O O ?_
  refine C3<|Ae<|Az ?_
  refine Ab<|Z<|Ad (.q ids 2 g2) O Aa<|Cn [2,3,5] hI O O (Up r.ID r.Many r.Term r.Vote r.Role r4.1 r.Votes (r3.set r.ID.toNat (l.length:Int)) r4.2 _ (ix ids 2) (ix ids 3) (ix ids 5) g2 v6 g9 vH7 (by exact hI.sub' O O)) O O O O O O (fun v _=>Bk Tryz.func10 hI) ?_
  rintro r5 _ _ _ ⟨v7,g10,vH8,rfl,rfl⟩
  refine D3 [2,3,5] hI O O O ?_
  refine C3<|Ae<|Az ?_
  refine Ab<|B7 Db [[],[0],[0,1],[0,1,2],[],[4],[4,5],[4,5,6],[0,1,2,3,3],[0,1,2,3,4,5,6,7,7,8,8],[0,1,2,3,4,5,6,7,8,9,9]] [(false,0),(false,1),(false,2),(false,3),(false,4),(false,5),(false,6),(false,7),(true,8),(false,9),(false,10)] (by kernel_rfl)<|Y (.q ids 2 g2) O O Aa<|Y (.q ids 2 g2) O O (Aq O)<|Y (.q ids 2 g2) O O (Ai (Af (c:=0) (off:=0) (i:=0) Bf O Ar O))<|Y (.agg (Ao ({ ID:=r.ID,Many:=r.Many,Term:=r.Term,Vote:=r.Vote,Log:=r4.2,Role:=r.Role,Commit:=r4.1,Votes:=r.Votes,Match:=(r3.set r.ID.toNat (l.length:Int)) }:Replica))) O O (Al (Ap hI O O O Ar O))<|Y (.q ids 2 g2) O O Aa ?_
  refine Y (.q ids 2 g2) O O (Aq O)<|Y (.ptr (ix ids 2) g2 0 9) O O (Ai (Af (c:=0) (off:=9) (i:=1) Bf O Cw O))<|Y v7 O O (Al (Ap hI O O O Cw O))<|Bl O (fun _ _=>O) (fun K hK=>A3 (A6 (v:=(.agg (Ao ({ ID:=r.ID,Many:=r.Many,Term:=r.Term,Vote:=r.Vote,Log:=r4.2,Role:=r.Role,Commit:=r4.1,Votes:=r.Votes,Match:=(r3.set r.ID.toNat (l.length:Int)) }:Replica)))) hI O O O O Ar O O O O O) (hK _ _ (Ac O (Al (Ap hI O O O Cw O)) (Ac O (Ai (Af (c:=0) (off:=9) (i:=1) Bf O Cw O)) (Ac O (Aq O) (Ac O Aa (A9 O As))))) ?_))
  clear hK K
  refine Y v7 O O At<|Y (.I 0) O O At<|Be<|Az ?_
  exact B6 (a:=(({ ID:=r.ID,Many:=r.Many,Term:=r.Term,Vote:=r.Vote,Log:=r4.2,Role:=r.Role,Commit:=r4.1,Votes:=r.Votes,Match:=(r3.set r.ID.toNat (l.length:Int)) }:Replica),r5,0)) (vs:=[(.agg (Ao ({ ID:=r.ID,Many:=r.Many,Term:=r.Term,Vote:=r.Vote,Log:=r4.2,Role:=r.Role,Commit:=r4.1,Votes:=r.Votes,Match:=(r3.set r.ID.toNat (l.length:Int)) }:Replica))),v7,(.I 0)]) Tryz.func10 hI (B2 (Ap hI O O O Ar O) (C2 (C2 Cg))) (.tupL (.cons (.same _) (.cons (Dg vH8 (hI.at O O) (hI.out O) (fun x=>Gd x)) (.cons (.same _) .nil))))
 refine R6 Db (.node 11 3 (.leaf [[],[],[1],[1,2],[],[4],[4,5],[4,5,6],[4,5,6,7],[],[4,5,6,7,8,9],[1,2,3,4,5,6,7,8,9,10],[1,2,3,4,5,6,7,8,9,10,11],[0,0,1,2,3,4,5,6,7,8,9,10,11,12],[0,1,2,3,4,5,6,7,8,9,10,11,12,13],[0,1,2,3,4,5,6,7,8,9,10,11,12,13,14],[0,1,2,3,4,5,6,7,8,9,10,11,12,13,14,15]] [(false,0),(false,1),(false,2),(false,4),(false,5),(false,6),(false,7),(false,8),(false,9),(false,10),(true,3),(true,11),(true,12),(false,13),(false,14),(false,15),(true,16)]) (.leaf [[],[],[1],[1,2,4,5,6,7,8,9,10,11],[],[4],[4,5],[4,5,6],[4,5,6,7],[],[4,5,6,7,8,9],[4,5,6,7,8,9,10],[1,2,3,4,5,6,7,8,9,10,11],[0,0,1,2,3,4,5,6,7,8,9,10,11,12],[0,1,2,3,4,5,6,7,8,9,10,11,12,13],[0,1,2,3,4,5,6,7,8,9,10,11,12,13,14],[0,1,2,3,4,5,6,7,8,9,10,11,12,13,14,15]] [(false,0),(false,1),(false,2),(false,4),(false,5),(false,6),(false,7),(false,8),(false,9),(false,10),(true,11),(true,3),(true,12),(false,13),(false,14),(false,15),(true,16)])) (by kernel_rfl)<|H8 ?_ ?_
 ·refine Fu<|Y (.q ids 2 g2) O O Aa<|Y (.ptr (ix ids 0) g 0 4) O O (Ai (Af (c:=0) (off:=4) (i:=4) Ar O Bd O))<|Y (.sl 2 (List.map Ag r.Log)) O O (Al (Ap hI O O O Bd O))<|Y (.q ids 2 g2) O O Aa<|Y (.q ids 2 g2) O O (Aq O)<|Y (.q ids 2 g2) O O (Ai (Af (c:=0) (off:=0) (i:=0) Bf O Ar O)) ?_
  refine Y (.ptr (ix ids 2) g2 0 2) O O (Ai (Af (c:=0) (off:=2) (i:=2) Ar O Av O))<|Y (.I r.Term) O O (Al (Ap hI O O O Av O))<|Y (.sl 1 (List.map (rI .u8) data)) O O Aa<|Y (.agg [(.I r.Term),(.sl 1 (List.map (rI .u8) data))]) O O (Dw (Hn C6 T7 O))<|Adx (j:=3) [(.sl 2 (List.map Ag r.Log))] O hI O O O O O O ((Qc r.Log) _ _ (hI.at O O)) (fun v _ _ _=>Bk Tryz.func10 hI) fun r1 _ v g3 vH=>⟨(Ac O (Dw (Hn C6 T7 O)) (Ac O Aa (Ac O (Al (Ap hI O O O Av O)) (Ac O (Ai (Af (c:=0) (off:=2) (i:=2) Ar O Av O)) (Ac O (Ai (Af (c:=0) (off:=0) (i:=0) Bf O Ar O)) (Ac O (Aq O) (Ac O Aa (A8 O (Ac O Aa As))))))))),?_⟩
  refine Ck O O (fun _ _=>O) (fun K hK=>Ht (e:=Ag) (L:=[({ Term:=r.Term,Data:=data }:Record)]) (st:=2) (rows:=[[(.I r.Term),(.sl 1 (List.map (rI .u8) data))]]) Bd C6 O O O O O (.cons (.cons (.same _) (.cons (.same _) .nil)) .nil) (fun x=>Kj x) O O (hK _ _ (Bb O (Au O (Ac O Aa As))) ?_))
  clear hK K
  refine Ce fun hl=>Ck O O (fun _ _=>O) (fun K hK=>Ee (e:=Ag) (L:=r1) (L2:=[({ Term:=r.Term,Data:=data }:Record)]) (v:=v) (g:=g3) (st:=2) (j:=3) hI O O O vH O (Fg O) Bd Bd O C6 O O O hl fun v1 g4 vH1=>hK _ _ (Bb O (Au O (Ac O Aa As))) ?_)
  clear hK K
  refine Y (.q ids 2 g2) O O (Aq O)<|Y (.q ids 2 g2) O O (Ai (Af (c:=0) (off:=0) (i:=0) Bf O Ar O))<|Y (.ptr (ix ids 2) g2 0 4) O O (Ai (Af (c:=0) (off:=4) (i:=4) Ar O Bd O))<|Bl O (fun _ _=>O) (fun K hK=>A3 (Ca vH1 hI O O O O Bd O O O) (hK _ _ (Bb O (A9 O (Au O As))) ?_))
  clear hK K
  refine Be<|Az ?_
  exact Bn (hJ (r1++[({ Term:=r.Term,Data:=data }:Record)]) _ _ ⟨v1,g4,vH1,O,O⟩)
 refine Fu<|Y (.q ids 2 g2) O O Aa<|Y (.ptr (ix ids 0) g 0 4) O O (Ai (Af (c:=0) (off:=4) (i:=4) Ar O Bd O))<|Y (.sl 2 (List.map Ag r.Log)) O O (Al (Ap hI O O O Bd O))<|Y (.q ids 2 g2) O O Aa<|Y (.q ids 2 g2) O O (Aq O)<|Y (.q ids 2 g2) O O (Ai (Af (c:=0) (off:=0) (i:=0) Bf O Ar O)) ?_
 refine Y (.ptr (ix ids 2) g2 0 2) O O (Ai (Af (c:=0) (off:=2) (i:=2) Ar O Av O))<|Y (.I r.Term) O O (Al (Ap hI O O O Av O))<|Y (.sl 1 (List.map (rI .u8) data)) O O Aa<|Y (.agg [(.I r.Term),(.sl 1 (List.map (rI .u8) data))]) O O (Dw (Hn C6 T7 O))<|Ck O O (fun _ _=>O) (fun K hK=>Ht (e:=Ag) (L:=[({ Term:=r.Term,Data:=data }:Record)]) (st:=2) (rows:=[[(.I r.Term),(.sl 1 (List.map (rI .u8) data))]]) Bd C6 O O O O O (.cons (.cons (.same _) (.cons (.same _) .nil)) .nil) (fun x=>Kj x) O O (hK _ _ (A9 O (A8 O (Au O (Ac O (Al (Ap hI O O O Bd O)) (Ac O (Ai (Af (c:=0) (off:=4) (i:=4) Ar O Bd O)) (Ac O Aa As)))))) ?_))
 clear hK K
 refine Adx (j:=3) [(.sl 2 (List.map Ag r.Log))] O hI O O O O O O ((Qc r.Log) _ _ (hI.at O O)) (fun v _ _ _=>Bk Tryz.func10 hI) fun r2 _ v2 g5 vH2=>⟨(Bb O (Au O (Ac O Aa As))),?_⟩
 refine Ce fun hl1=>Ck O O (fun _ _=>O) (fun K hK=>Ee (e:=Ag) (L:=r2) (L2:=[({ Term:=r.Term,Data:=data }:Record)]) (v:=v2) (g:=g5) (st:=2) (j:=3) hI O O O vH2 O (Fg O) Bd Bd O C6 O O O hl1 fun v3 g6 vH3=>hK _ _ (Bb O (Au O (Ac O Aa As))) ?_)
 clear hK K
 refine Y (.q ids 2 g2) O O (Aq O)<|Y (.q ids 2 g2) O O (Ai (Af (c:=0) (off:=0) (i:=0) Bf O Ar O))<|Y (.ptr (ix ids 2) g2 0 4) O O (Ai (Af (c:=0) (off:=4) (i:=4) Ar O Bd O))<|Bl O (fun _ _=>O) (fun K hK=>A3 (Ca vH3 hI O O O O Bd O O O) (hK _ _ (Bb O (A9 O (Au O As))) ?_))
 clear hK K
 refine Be<|Az ?_
 exact Bn (hJ (r2++[({ Term:=r.Term,Data:=data }:Record)]) _ _ ⟨v3,g6,vH3,O,O⟩)
theorem Io (a0:AV)(h:Ah):J4 Tryz.prog 50 [a0] .ret h (Sb (fun _:Unit=>h) .ret (.ok ())):=by
 refine Pk (n:=3) Tryz.func50 O (by decide) O O ?_ ⟨(),O⟩
 refine B4 (Ax (m':=(Jb).bind fun _ =>   .ok ()) O ?_)
 refine Z<|Yx O<|Bh [.nili,a0] O O O O ((Qf a0) _) (fun v hv=>by unfold Jb at hv; cases hv) fun _ _=>?_
 refine Ae<|Ra Tryz.func50 O O O
theorem Jg (s_Replica:Replica)(h0:Ah)(o0:Nat)(o1:Nat)(o2:Nat)(w:AV)(g:Nat)(hI0:Ids h0 [o0,o1,o2] 3):Cp s_Replica≠.bad→Bx Tryz.prog 27 [(.ptr o0 g 0 0)] (hp h0 [o0,o1,o2] [some (.rows g 10 [[(.int .i64 s_Replica.ID),(.int .i64 s_Replica.Many),(.int .i64 s_Replica.Term),(.int .i64 s_Replica.Vote),(.sl 2 (List.map Ag s_Replica.Log)),(.int .i64 s_Replica.Role),(.int .i64 s_Replica.Commit),(.sl 1 (List.map rB s_Replica.Votes)),(.sl 1 (List.map (rI .i64) s_Replica.Match)),w]]),none,none]) (El (fun a_ v h' => ∃ (v19:AV),∃ (g19:Nat),∃ (v20:AV),∃ (g20:Nat),Bc v19 o1 g19 a_.1.length∧Bc v20 o2 g20 a_.2.length∧v=(.tup [])∧h'=hp h0 [o0,o1,o2] [some (.rows g 10 [[(.int .i64 s_Replica.ID),(.int .i64 s_Replica.Many),(.int .i64 s_Replica.Term),(.int .i64 s_Replica.Vote),(.sl 2 (List.map Ag s_Replica.Log)),(.int .i64 0),(.int .i64 s_Replica.Commit),v19,v20,w]]),A5 v19 g19 1 (List.map rB a_.1),A5 v20 g20 1 (List.map (rI .i64) a_.2)]) h0 (Cp s_Replica)):=by
 refine Co (n:=30) 0 Tryz.func27 O (by decide) O O hI0 O fun ids he hI=>?_
 clear hI0
 obtain rfl:ix ids 0=o0:=he 0 rfl
 obtain rfl:ix ids 1=o1:=he 1 rfl
 obtain rfl:ix ids 2=o2:=he 2 rfl
 clear he
 refine B4 (Ax (Cp.eq_1 _) ?_)
 refine Ab<|Z<|Ad (.I 0) O At<|Ae<|Ab<|Ab<|Z ?_
 refine Ak 5 [0] [(7,(.I s_Replica.Many))] ?_
 refine Bh [(.I s_Replica.Many),(.I 0),(.I 5)] O O O O ((De s_Replica.Many 0 5) _) (fun v _=>Cd (K:=3) (N:=0) Tryz.func27 hI) fun r _=>Ae<|Dp (fun n=>F9 n) (fun n=>fun(fr:Nat→AV) (h:Ah)=>fr=A0 [(0,(.q ids 0 g)),(2,(.I n))]∧h=hp h0 ids [(some (.rows g 10 [[(.I s_Replica.ID),(.I s_Replica.Many),(.I s_Replica.Term),(.I s_Replica.Vote),(.sl 2 (List.map Ag s_Replica.Log)),(.I s_Replica.Role),(.I s_Replica.Commit),(.sl 1 (List.map rB s_Replica.Votes)),(.sl 1 (List.map (rI .i64) s_Replica.Match)),w]])),none,none]) ?_ fun hJ1=>?_
 ·rintro n fr h ⟨rfl,rfl⟩
  refine Ax (F9.eq_1 _)<|Dp (D4 fun l l1=>Hp l l1) (D4 fun l l1=>fun(fr:Nat→AV) (h:Ah) => ∃ (v17:AV),∃ (g17:Nat),∃ (v18:AV),∃ (g18:Nat),Bc v17 (ix ids 1) g17 l.length∧Bc v18 (ix ids 2) g18 l1.length∧fr=A0 []∧h=hp h0 ids [(some (.rows g 10 [[(.I s_Replica.ID),(.I s_Replica.Many),(.I s_Replica.Term),(.I s_Replica.Vote),(.sl 2 (List.map Ag s_Replica.Log)),(.I 0),(.I s_Replica.Commit),v17,v18,w]])),(A5 v17 g17 1 (List.map rB l)),(A5 v18 g18 1 (List.map (rI .i64) l1))]) ?_ fun hJ=>?_
  ·rintro⟨l,l1⟩ fr h ⟨v17,g17,v18,g18,vH16,vH17,rfl,rfl⟩
   refine Ax (Hp.eq_1 _ _)<|Fm (K:=3) (N:=0) (a:=(l,l1)) (vs:=[]) [some (.rows g 10 [[(.I s_Replica.ID),(.I s_Replica.Many),(.I s_Replica.Term),(.I s_Replica.Vote),(.sl 2 (List.map Ag s_Replica.Log)),(.I 0),(.I s_Replica.Commit),v17,v18,w]]),A5 v17 g17 1 (List.map rB l),A5 v18 g18 1 (List.map (rI .i64) l1)] Tryz.func27 hI O O O (.keep (.keep (.keep .nil))) (.same _) ⟨v17,g17,v18,g18,vH16,vH17,O,O⟩
  refine R6 Db (.node 14 6 (.node 10 6 (.node 10 4 (.node 6 4 (.leaf [[],[],[],[],[3,3],[],[3,4,5],[0,0],[0,7],[0,7,8],[0,3,4,5,6,7,8,9],[0,1,3,4,5,6,7,8,9,10],[0,1,3,4,5,6,7,8,9,10,11],[0,1,3,4,5,6,7,8,9,10,11,12],[0,1,3,4,5,6,7,8,9,10,11,12,13],[0,1,2,2,3,4,5,6,7,8,9,10,11,12,13,14],[0,1,2,3,4,5,6,7,8,9,10,11,12,13,14,15],[0,1,2,3,4,5,6,7,8,9,10,11,12,13,14,15,16],[0,1,2,3,4,5,6,7,8,9,10,11,12,13,14,15,16,17]] [(false,0),(false,1),(false,2),(false,3),(false,5),(false,7),(false,8),(false,9),(true,4),(true,6),(true,10),(false,11),(false,12),(false,13),(true,14),(false,15),(false,16),(false,17),(true,18)]) (.leaf [[],[],[],[],[3,5,6],[],[5,5],[0,0],[0,7],[0,7,8],[0,3,4,5,6,7,8,9],[0,1,3,4,5,6,7,8,9,10],[0,1,3,4,5,6,7,8,9,10,11],[0,1,3,4,5,6,7,8,9,10,11,12],[0,1,3,4,5,6,7,8,9,10,11,12,13],[0,1,2,2,3,4,5,6,7,8,9,10,11,12,13,14],[0,1,2,3,4,5,6,7,8,9,10,11,12,13,14,15],[0,1,2,3,4,5,6,7,8,9,10,11,12,13,14,15,16],[0,1,2,3,4,5,6,7,8,9,10,11,12,13,14,15,16,17]] [(false,0),(false,1),(false,2),(false,3),(false,5),(false,7),(false,8),(false,9),(true,6),(true,4),(true,10),(false,11),(false,12),(false,13),(true,14),(false,15),(false,16),(false,17),(true,18)])) (.leaf [[],[],[],[],[0,3,5,6,7,8,9,10],[],[5,5],[0,0],[0,7],[0,7,8],[0,5,6,7,8,9],[0,1,3,4,5,6,7,8,9,10],[0,1,3,4,5,6,7,8,9,10,11],[0,1,3,4,5,6,7,8,9,10,11,12],[0,1,3,4,5,6,7,8,9,10,11,12,13],[0,1,2,2,3,4,5,6,7,8,9,10,11,12,13,14],[0,1,2,3,4,5,6,7,8,9,10,11,12,13,14,15],[0,1,2,3,4,5,6,7,8,9,10,11,12,13,14,15,16],[0,1,2,3,4,5,6,7,8,9,10,11,12,13,14,15,16,17]] [(false,0),(false,1),(false,2),(false,3),(false,5),(false,7),(false,8),(false,9),(true,6),(true,10),(true,4),(false,11),(false,12),(false,13),(true,14),(false,15),(false,16),(false,17),(true,18)])) (.node 6 4 (.node 10 4 (.leaf [[],[],[],[],[3,3],[],[0,3,4,5,7,8,9,10],[0,0],[0,7],[0,7,8],[0,3,4,7,8,9],[0,1,1,3,4,7,8,9,10],[0,1,3,4,7,8,9,10,11],[0,1,3,4,7,8,9,10,11,12],[0,1,3,4,5,6,7,8,9,10,11,12,13],[0,1,2,2,3,4,5,6,7,8,9,10,11,12,13,14],[0,1,2,3,4,5,6,7,8,9,10,11,12,13,14,15],[0,1,2,3,4,5,6,7,8,9,10,11,12,13,14,15,16],[0,1,2,3,4,5,6,7,8,9,10,11,12,13,14,15,16,17]] [(false,0),(false,1),(false,2),(false,3),(false,5),(false,7),(false,8),(false,9),(true,4),(true,10),(false,11),(false,12),(false,13),(true,6),(true,14),(false,15),(false,16),(false,17),(true,18)]) (.leaf [[],[],[],[],[0,3,7,8,9,10],[],[0,3,4,5,7,8,9,10],[0,0],[0,7],[0,7,8],[0,7,8,9],[0,1,1,3,4,7,8,9,10],[0,1,3,4,7,8,9,10,11],[0,1,3,4,7,8,9,10,11,12],[0,1,3,4,5,6,7,8,9,10,11,12,13],[0,1,2,2,3,4,5,6,7,8,9,10,11,12,13,14],[0,1,2,3,4,5,6,7,8,9,10,11,12,13,14,15],[0,1,2,3,4,5,6,7,8,9,10,11,12,13,14,15,16],[0,1,2,3,4,5,6,7,8,9,10,11,12,13,14,15,16,17]] [(false,0),(false,1),(false,2),(false,3),(false,5),(false,7),(false,8),(false,9),(true,10),(true,4),(false,11),(false,12),(false,13),(true,6),(true,14),(false,15),(false,16),(false,17),(true,18)])) (.leaf [[],[],[],[],[0,3,5,6,7,8,9,10],[],[0,5,7,8,9,10],[0,0],[0,7],[0,7,8],[0,7,8,9],[0,1,3,4,5,6,7,8,9,10],[0,1,3,4,5,6,7,8,9,10,11],[0,1,3,4,5,6,7,8,9,10,11,12],[0,1,3,4,5,6,7,8,9,10,11,12,13],[0,1,2,2,3,4,5,6,7,8,9,10,11,12,13,14],[0,1,2,3,4,5,6,7,8,9,10,11,12,13,14,15],[0,1,2,3,4,5,6,7,8,9,10,11,12,13,14,15,16],[0,1,2,3,4,5,6,7,8,9,10,11,12,13,14,15,16,17]] [(false,0),(false,1),(false,2),(false,3),(false,5),(false,7),(false,8),(false,9),(true,10),(true,6),(true,4),(false,11),(false,12),(false,13),(true,14),(false,15),(false,16),(false,17),(true,18)]))) (.node 10 4 (.leaf [[],[],[],[],[3,3],[],[0,1,3,4,5,7,8,9,10,11,12,13,14],[0,0],[0,7],[0,7,8],[0,3,4,7,8,9],[0,1,1,3,4,7,8,9,10],[0,1,3,4,7,8,9,10,11],[0,1,3,4,7,8,9,10,11,12],[0,1,3,4,7,8,9,10,11,12,13],[0,1,2,2,3,4,5,6,7,8,9,10,11,12,13,14],[0,1,2,3,4,5,6,7,8,9,10,11,12,13,14,15],[0,1,2,3,4,5,6,7,8,9,10,11,12,13,14,15,16],[0,1,2,3,4,5,6,7,8,9,10,11,12,13,14,15,16,17]] [(false,0),(false,1),(false,2),(false,3),(false,5),(false,7),(false,8),(false,9),(true,4),(true,10),(false,11),(false,12),(false,13),(true,14),(true,6),(false,15),(false,16),(false,17),(true,18)]) (.leaf [[],[],[],[],[0,3,7,8,9,10],[],[0,1,3,4,5,7,8,9,10,11,12,13,14],[0,0],[0,7],[0,7,8],[0,7,8,9],[0,1,1,3,4,7,8,9,10],[0,1,3,4,7,8,9,10,11],[0,1,3,4,7,8,9,10,11,12],[0,1,3,4,7,8,9,10,11,12,13],[0,1,2,2,3,4,5,6,7,8,9,10,11,12,13,14],[0,1,2,3,4,5,6,7,8,9,10,11,12,13,14,15],[0,1,2,3,4,5,6,7,8,9,10,11,12,13,14,15,16],[0,1,2,3,4,5,6,7,8,9,10,11,12,13,14,15,16,17]] [(false,0),(false,1),(false,2),(false,3),(false,5),(false,7),(false,8),(false,9),(true,10),(true,4),(false,11),(false,12),(false,13),(true,14),(true,6),(false,15),(false,16),(false,17),(true,18)]))) (by kernel_rfl)<|H8 ?_ ?_
  ·refine H8 ?_ ?_
   ·refine H8 ?_ ?_
    ·refine H8 ?_ ?_
     ·refine Fu<|Y (.q ids 0 g) O O Aa<|Y (.q ids 0 g) O O Aa<|Y (.q ids 0 g) O O Aa<|Y (.I n) O O Aa<|Y (.I n) O O Aa<|Y (.q ids 0 g) O O (Aq O) ?_
      refine Y (.q ids 0 g) O O (Ai (Af (c:=0) (off:=0) (i:=0) Bf O Ar O))<|Y (.ptr (ix ids 0) g 0 5) O O (Ai (Af (c:=0) (off:=5) (i:=5) Ar O Av O))<|Ce fun hl=>Ck O O (fun _ _=>O) (fun K hK=>Df (y:=(false:Bool)) (e:=rB) (st:=1) (j:=1) hI O O O Cr Gq O O hl.1 hl.2.1 hl.2.2 O O O O O fun v1 g1 vH=>hK _ _ (Ac O (Ai (Af (c:=0) (off:=5) (i:=5) Ar O Av O)) (Ac O (Ai (Af (c:=0) (off:=0) (i:=0) Bf O Ar O)) (Ac O (Aq O) (Ac O Aa (Au O (Ac O Aa (Ac O Aa (Ac O Aa As)))))))) ?_)
      clear hK K
      refine Ce fun hl1=>Ck O O (fun _ _=>O) (fun K hK=>Df (y:=(0:Int)) (e:=(rI .i64)) (st:=1) (j:=2) hI O O O Bw Av O O hl1.1 hl1.2.1 hl1.2.2 O O O O O fun v2 g2 vH1=>hK _ _ (Ac O (Ai (Af (c:=0) (off:=5) (i:=5) Ar O Av O)) (Ac O (Ai (Af (c:=0) (off:=0) (i:=0) Bf O Ar O)) (Ac O (Aq O) (A8 O (Ac O Aa (Ac O Aa (Ac O Aa As))))))) ?_)
      clear hK K
      refine Bl O (fun _ _=>O) (fun K hK=>A3 (A6 (v:=(.I 0)) hI O O O O Av O O O O O) (hK _ _ (A9 O (Au O (Ac O Aa (Ac O Aa (Au O As))))) ?_))
      clear hK K
      refine Y (.q ids 0 g) O O (Aq O)<|Y (.q ids 0 g) O O (Ai (Af (c:=0) (off:=0) (i:=0) Bf O Ar O))<|Y (.ptr (ix ids 0) g 0 7) O O (Ai (Af (c:=0) (off:=7) (i:=7) Ar O Cr O))<|Bl O (fun _ _=>O) (fun K hK=>A3 (Ca vH hI O O O O Cr O O O) (hK _ _ (Bb O (Ac O Aa (A8 O As))) ?_))
      clear hK K
      refine Y (.q ids 0 g) O O (Aq O)<|Y (.q ids 0 g) O O (Ai (Af (c:=0) (off:=0) (i:=0) Bf O Ar O))<|Y (.ptr (ix ids 0) g 0 8) O O (Ai (Af (c:=0) (off:=8) (i:=8) Ar O Bw O))<|Bl O (fun _ _=>O) (fun K hK=>A3 (Ca vH1 hI O O O O Bw O O O) (hK _ _ (Bb O (A9 O (A8 O As))) ?_))
      clear hK K
      refine Be<|Az ?_
      exact Bn (hJ ((List.replicate (Int.toNat n) false),(List.replicate (Int.toNat n) (0:Int))) _ _ ⟨v1,g1,v2,g2,vH,vH1,O,O⟩)
     refine Fu<|Ce fun hl3=>Ce fun hl2=>Y (.q ids 0 g) O O Aa<|Y (.q ids 0 g) O O Aa<|Y (.q ids 0 g) O O Aa<|Y (.I n) O O Aa ?_
     refine Y (.I n) O O Aa<|Y (.q ids 0 g) O O (Aq O)<|Y (.q ids 0 g) O O (Ai (Af (c:=0) (off:=0) (i:=0) Bf O Ar O))<|Y (.ptr (ix ids 0) g 0 5) O O (Ai (Af (c:=0) (off:=5) (i:=5) Ar O Av O))<|Ck O O (fun _ _=>O) (fun K hK=>Df (y:=(0:Int)) (e:=(rI .i64)) (st:=1) (j:=2) hI O O O Bw Av O O hl2.1 hl2.2.1 hl2.2.2 O O O O O fun v3 g3 vH2=>hK _ _ (Ac O (Ai (Af (c:=0) (off:=5) (i:=5) Ar O Av O)) (Ac O (Ai (Af (c:=0) (off:=0) (i:=0) Bf O Ar O)) (Ac O (Aq O) (Au O (Ac O Aa (Ac O Aa (Ac O Aa (Ac O Aa As)))))))) ?_)
     clear hK K
     refine Ck O O (fun _ _=>O) (fun K hK=>Df (y:=(false:Bool)) (e:=rB) (st:=1) (j:=1) hI O O O Cr Gq O O hl3.1 hl3.2.1 hl3.2.2 O O O O O fun v4 g4 vH3=>hK _ _ (Ac O (Ai (Af (c:=0) (off:=5) (i:=5) Ar O Av O)) (Ac O (Ai (Af (c:=0) (off:=0) (i:=0) Bf O Ar O)) (Ac O (Aq O) (A8 O (Ac O Aa (Ac O Aa (Ac O Aa As))))))) ?_)
     clear hK K
     refine Bl O (fun _ _=>O) (fun K hK=>A3 (A6 (v:=(.I 0)) hI O O O O Av O O O O O) (hK _ _ (A9 O (Au O (Ac O Aa (Ac O Aa (Au O As))))) ?_))
     clear hK K
     refine Y (.q ids 0 g) O O (Aq O)<|Y (.q ids 0 g) O O (Ai (Af (c:=0) (off:=0) (i:=0) Bf O Ar O))<|Y (.ptr (ix ids 0) g 0 7) O O (Ai (Af (c:=0) (off:=7) (i:=7) Ar O Cr O))<|Bl O (fun _ _=>O) (fun K hK=>A3 (Ca vH3 hI O O O O Cr O O O) (hK _ _ (Bb O (Ac O Aa (A8 O As))) ?_))
     clear hK K
     refine Y (.q ids 0 g) O O (Aq O)<|Y (.q ids 0 g) O O (Ai (Af (c:=0) (off:=0) (i:=0) Bf O Ar O))<|Y (.ptr (ix ids 0) g 0 8) O O (Ai (Af (c:=0) (off:=8) (i:=8) Ar O Bw O))<|Bl O (fun _ _=>O) (fun K hK=>A3 (Ca vH2 hI O O O O Bw O O O) (hK _ _ (Bb O (A9 O (A8 O As))) ?_))
     clear hK K
     refine Be<|Az ?_
     exact Bn (hJ ((List.replicate (Int.toNat n) false),(List.replicate (Int.toNat n) (0:Int))) _ _ ⟨v4,g4,v3,g3,vH3,vH2,O,O⟩)
    refine Fu<|Ce fun hl5=>Ce fun hl4=>Y (.q ids 0 g) O O Aa<|Y (.q ids 0 g) O O Aa<|Y (.q ids 0 g) O O Aa<|Y (.I n) O O Aa ?_
    refine Y (.I n) O O Aa<|Y (.q ids 0 g) O O (Aq O)<|Y (.q ids 0 g) O O (Ai (Af (c:=0) (off:=0) (i:=0) Bf O Ar O))<|Y (.ptr (ix ids 0) g 0 5) O O (Ai (Af (c:=0) (off:=5) (i:=5) Ar O Av O))<|Ck O O (fun _ _=>O) (fun K hK=>Df (y:=(0:Int)) (e:=(rI .i64)) (st:=1) (j:=2) hI O O O Bw Av O O hl4.1 hl4.2.1 hl4.2.2 O O O O O fun v5 g5 vH4=>hK _ _ (Ac O (Ai (Af (c:=0) (off:=5) (i:=5) Ar O Av O)) (Ac O (Ai (Af (c:=0) (off:=0) (i:=0) Bf O Ar O)) (Ac O (Aq O) (Au O (Ac O Aa (Ac O Aa (Ac O Aa (Ac O Aa As)))))))) ?_)
    clear hK K
    refine Bl O (fun _ _=>O) (fun K hK=>A3 (A6 (v:=(.I 0)) hI O O O O Av O O O O O) (hK _ _ (A9 O (Ac O Aa (Ac O Aa (Ac O Aa (Au O As))))) ?_))
    clear hK K
    refine Ck O O (fun _ _=>O) (fun K hK=>Df (y:=(false:Bool)) (e:=rB) (st:=1) (j:=1) hI O O O Cr Gq O O hl5.1 hl5.2.1 hl5.2.2 O O O O O fun v6 g6 vH5=>hK _ _ (A9 O (Au O (Ac O Aa (Ac O Aa (Au O As))))) ?_)
    clear hK K
    refine Y (.q ids 0 g) O O (Aq O)<|Y (.q ids 0 g) O O (Ai (Af (c:=0) (off:=0) (i:=0) Bf O Ar O))<|Y (.ptr (ix ids 0) g 0 7) O O (Ai (Af (c:=0) (off:=7) (i:=7) Ar O Cr O))<|Bl O (fun _ _=>O) (fun K hK=>A3 (Ca vH5 hI O O O O Cr O O O) (hK _ _ (Bb O (Ac O Aa (A8 O As))) ?_))
    clear hK K
    refine Y (.q ids 0 g) O O (Aq O)<|Y (.q ids 0 g) O O (Ai (Af (c:=0) (off:=0) (i:=0) Bf O Ar O))<|Y (.ptr (ix ids 0) g 0 8) O O (Ai (Af (c:=0) (off:=8) (i:=8) Ar O Bw O))<|Bl O (fun _ _=>O) (fun K hK=>A3 (Ca vH4 hI O O O O Bw O O O) (hK _ _ (Bb O (A9 O (A8 O As))) ?_))
    clear hK K
    refine Be<|Az ?_
    exact Bn (hJ ((List.replicate (Int.toNat n) false),(List.replicate (Int.toNat n) (0:Int))) _ _ ⟨v6,g6,v5,g5,vH5,vH4,O,O⟩)
   refine H8 ?_ ?_
   ·refine H8 ?_ ?_
    ·refine Fu<|Ce fun hl6=>Ce fun hl7=>Y (.q ids 0 g) O O Aa<|Y (.q ids 0 g) O O Aa<|Y (.q ids 0 g) O O Aa<|Y (.I n) O O Aa ?_
     refine Y (.I n) O O Aa<|Y (.q ids 0 g) O O (Aq O)<|Y (.q ids 0 g) O O (Ai (Af (c:=0) (off:=0) (i:=0) Bf O Ar O))<|Y (.ptr (ix ids 0) g 0 5) O O (Ai (Af (c:=0) (off:=5) (i:=5) Ar O Av O))<|Ck O O (fun _ _=>O) (fun K hK=>Df (y:=(false:Bool)) (e:=rB) (st:=1) (j:=1) hI O O O Cr Gq O O hl6.1 hl6.2.1 hl6.2.2 O O O O O fun v7 g7 vH6=>hK _ _ (Ac O (Ai (Af (c:=0) (off:=5) (i:=5) Ar O Av O)) (Ac O (Ai (Af (c:=0) (off:=0) (i:=0) Bf O Ar O)) (Ac O (Aq O) (Ac O Aa (Au O (Ac O Aa (Ac O Aa (Ac O Aa As)))))))) ?_)
     clear hK K
     refine Bl O (fun _ _=>O) (fun K hK=>A3 (A6 (v:=(.I 0)) hI O O O O Av O O O O O) (hK _ _ (A8 O (Au O (Ac O Aa (Au O (Ac O Aa (Ac O Aa (Au O As))))))) ?_))
     clear hK K
     refine Y (.q ids 0 g) O O (Aq O)<|Y (.q ids 0 g) O O (Ai (Af (c:=0) (off:=0) (i:=0) Bf O Ar O))<|Y (.ptr (ix ids 0) g 0 7) O O (Ai (Af (c:=0) (off:=7) (i:=7) Ar O Cr O))<|Ck O O (fun _ _=>O) (fun K hK=>Df (y:=(0:Int)) (e:=(rI .i64)) (st:=1) (j:=2) hI O O O Bw Av O O hl7.1 hl7.2.1 hl7.2.2 O O O O O fun v8 g8 vH7=>hK _ _ (Ac O (Ai (Af (c:=0) (off:=7) (i:=7) Ar O Cr O)) (Ac O (Ai (Af (c:=0) (off:=0) (i:=0) Bf O Ar O)) (Ac O (Aq O) (A9 O (Au O (Ac O Aa (Ac O Aa (Au O As)))))))) ?_)
     clear hK K
     refine Bl O (fun _ _=>O) (fun K hK=>A3 (Ca vH6 hI O O O O Cr O O O) (hK _ _ (Bb O (Ac O Aa (A8 O As))) ?_))
     clear hK K
     refine Y (.q ids 0 g) O O (Aq O)<|Y (.q ids 0 g) O O (Ai (Af (c:=0) (off:=0) (i:=0) Bf O Ar O))<|Y (.ptr (ix ids 0) g 0 8) O O (Ai (Af (c:=0) (off:=8) (i:=8) Ar O Bw O))<|Bl O (fun _ _=>O) (fun K hK=>A3 (Ca vH7 hI O O O O Bw O O O) (hK _ _ (Bb O (A9 O (A8 O As))) ?_))
     clear hK K
     refine Be<|Az ?_
     exact Bn (hJ ((List.replicate (Int.toNat n) false),(List.replicate (Int.toNat n) (0:Int))) _ _ ⟨v7,g7,v8,g8,vH6,vH7,O,O⟩)
    refine Fu<|Ce fun hl8=>Ce fun hl9=>Y (.q ids 0 g) O O Aa<|Y (.q ids 0 g) O O Aa<|Y (.q ids 0 g) O O Aa<|Y (.I n) O O Aa ?_
    refine Y (.I n) O O Aa<|Y (.q ids 0 g) O O (Aq O)<|Y (.q ids 0 g) O O (Ai (Af (c:=0) (off:=0) (i:=0) Bf O Ar O))<|Y (.ptr (ix ids 0) g 0 5) O O (Ai (Af (c:=0) (off:=5) (i:=5) Ar O Av O))<|Bl O (fun _ _=>O) (fun K hK=>A3 (A6 (v:=(.I 0)) hI O O O O Av O O O O O) (hK _ _ (A8 O (Au O (Ac O Aa (Ac O Aa (Ac O Aa (Ac O Aa (Au O As))))))) ?_))
    clear hK K
    refine Ck O O (fun _ _=>O) (fun K hK=>Df (y:=(false:Bool)) (e:=rB) (st:=1) (j:=1) hI O O O Cr Gq O O hl8.1 hl8.2.1 hl8.2.2 O O O O O fun v9 g9 vH8=>hK _ _ (A8 O (Au O (Ac O Aa (Au O (Ac O Aa (Ac O Aa (Au O As))))))) ?_)
    clear hK K
    refine Y (.q ids 0 g) O O (Aq O)<|Y (.q ids 0 g) O O (Ai (Af (c:=0) (off:=0) (i:=0) Bf O Ar O))<|Y (.ptr (ix ids 0) g 0 7) O O (Ai (Af (c:=0) (off:=7) (i:=7) Ar O Cr O))<|Ck O O (fun _ _=>O) (fun K hK=>Df (y:=(0:Int)) (e:=(rI .i64)) (st:=1) (j:=2) hI O O O Bw Av O O hl9.1 hl9.2.1 hl9.2.2 O O O O O fun v10 g10 vH9=>hK _ _ (Ac O (Ai (Af (c:=0) (off:=7) (i:=7) Ar O Cr O)) (Ac O (Ai (Af (c:=0) (off:=0) (i:=0) Bf O Ar O)) (Ac O (Aq O) (A9 O (Au O (Ac O Aa (Ac O Aa (Au O As)))))))) ?_)
    clear hK K
    refine Bl O (fun _ _=>O) (fun K hK=>A3 (Ca vH8 hI O O O O Cr O O O) (hK _ _ (Bb O (Ac O Aa (A8 O As))) ?_))
    clear hK K
    refine Y (.q ids 0 g) O O (Aq O)<|Y (.q ids 0 g) O O (Ai (Af (c:=0) (off:=0) (i:=0) Bf O Ar O))<|Y (.ptr (ix ids 0) g 0 8) O O (Ai (Af (c:=0) (off:=8) (i:=8) Ar O Bw O))<|Bl O (fun _ _=>O) (fun K hK=>A3 (Ca vH9 hI O O O O Bw O O O) (hK _ _ (Bb O (A9 O (A8 O As))) ?_))
    clear hK K
    refine Be<|Az ?_
    exact Bn (hJ ((List.replicate (Int.toNat n) false),(List.replicate (Int.toNat n) (0:Int))) _ _ ⟨v9,g9,v10,g10,vH8,vH9,O,O⟩)
   refine Fu<|Ce fun hl11=>Ce fun hl10=>Y (.q ids 0 g) O O Aa<|Y (.q ids 0 g) O O Aa<|Y (.q ids 0 g) O O Aa<|Y (.I n) O O Aa ?_
   refine Y (.I n) O O Aa<|Y (.q ids 0 g) O O (Aq O)<|Y (.q ids 0 g) O O (Ai (Af (c:=0) (off:=0) (i:=0) Bf O Ar O))<|Y (.ptr (ix ids 0) g 0 5) O O (Ai (Af (c:=0) (off:=5) (i:=5) Ar O Av O))<|Bl O (fun _ _=>O) (fun K hK=>A3 (A6 (v:=(.I 0)) hI O O O O Av O O O O O) (hK _ _ (A8 O (Au O (Ac O Aa (Ac O Aa (Ac O Aa (Ac O Aa (Au O As))))))) ?_))
   clear hK K
   refine Ck O O (fun _ _=>O) (fun K hK=>Df (y:=(0:Int)) (e:=(rI .i64)) (st:=1) (j:=2) hI O O O Bw Av O O hl10.1 hl10.2.1 hl10.2.2 O O O O O fun v11 g11 vH10=>hK _ _ (A9 O (Ac O Aa (Ac O Aa (Ac O Aa (Au O As))))) ?_)
   clear hK K
   refine Ck O O (fun _ _=>O) (fun K hK=>Df (y:=(false:Bool)) (e:=rB) (st:=1) (j:=1) hI O O O Cr Gq O O hl11.1 hl11.2.1 hl11.2.2 O O O O O fun v12 g12 vH11=>hK _ _ (A9 O (Au O (Ac O Aa (Ac O Aa (Au O As))))) ?_)
   clear hK K
   refine Y (.q ids 0 g) O O (Aq O)<|Y (.q ids 0 g) O O (Ai (Af (c:=0) (off:=0) (i:=0) Bf O Ar O))<|Y (.ptr (ix ids 0) g 0 7) O O (Ai (Af (c:=0) (off:=7) (i:=7) Ar O Cr O))<|Bl O (fun _ _=>O) (fun K hK=>A3 (Ca vH11 hI O O O O Cr O O O) (hK _ _ (Bb O (Ac O Aa (A8 O As))) ?_))
   clear hK K
   refine Y (.q ids 0 g) O O (Aq O)<|Y (.q ids 0 g) O O (Ai (Af (c:=0) (off:=0) (i:=0) Bf O Ar O))<|Y (.ptr (ix ids 0) g 0 8) O O (Ai (Af (c:=0) (off:=8) (i:=8) Ar O Bw O))<|Bl O (fun _ _=>O) (fun K hK=>A3 (Ca vH10 hI O O O O Bw O O O) (hK _ _ (Bb O (A9 O (A8 O As))) ?_))
   clear hK K
   refine Be<|Az ?_
   exact Bn (hJ ((List.replicate (Int.toNat n) false),(List.replicate (Int.toNat n) (0:Int))) _ _ ⟨v12,g12,v11,g11,vH11,vH10,O,O⟩)
  refine H8 ?_ ?_
  ·refine Fu<|Ce fun hl12=>Ce fun hl13=>Y (.q ids 0 g) O O Aa<|Y (.q ids 0 g) O O Aa<|Y (.q ids 0 g) O O Aa<|Y (.I n) O O Aa ?_
   refine Y (.I n) O O Aa<|Y (.q ids 0 g) O O (Aq O)<|Y (.q ids 0 g) O O (Ai (Af (c:=0) (off:=0) (i:=0) Bf O Ar O))<|Y (.ptr (ix ids 0) g 0 5) O O (Ai (Af (c:=0) (off:=5) (i:=5) Ar O Av O))<|Ck O O (fun _ _=>O) (fun K hK=>Df (y:=(false:Bool)) (e:=rB) (st:=1) (j:=1) hI O O O Cr Gq O O hl12.1 hl12.2.1 hl12.2.2 O O O O O fun v13 g13 vH12=>hK _ _ (Ac O (Ai (Af (c:=0) (off:=5) (i:=5) Ar O Av O)) (Ac O (Ai (Af (c:=0) (off:=0) (i:=0) Bf O Ar O)) (Ac O (Aq O) (Ac O Aa (Au O (Ac O Aa (Ac O Aa (Ac O Aa As)))))))) ?_)
   clear hK K
   refine Bl O (fun _ _=>O) (fun K hK=>A3 (A6 (v:=(.I 0)) hI O O O O Av O O O O O) (hK _ _ (A8 O (Au O (Ac O Aa (Au O (Ac O Aa (Ac O Aa (Au O As))))))) ?_))
   clear hK K
   refine Y (.q ids 0 g) O O (Aq O)<|Y (.q ids 0 g) O O (Ai (Af (c:=0) (off:=0) (i:=0) Bf O Ar O))<|Y (.ptr (ix ids 0) g 0 7) O O (Ai (Af (c:=0) (off:=7) (i:=7) Ar O Cr O))<|Bl O (fun _ _=>O) (fun K hK=>A3 (Ca vH12 hI O O O O Cr O O O) (hK _ _ (A9 O (A8 O (Ac O Aa (Au O (Ac O Aa (A8 O As)))))) ?_))
   clear hK K
   refine Ck O O (fun _ _=>O) (fun K hK=>Df (y:=(0:Int)) (e:=(rI .i64)) (st:=1) (j:=2) hI O O O Bw Av O O hl13.1 hl13.2.1 hl13.2.2 O O O O O fun v14 g14 vH13=>hK _ _ (Bb O (Ac O Aa (A8 O As))) ?_)
   clear hK K
   refine Y (.q ids 0 g) O O (Aq O)<|Y (.q ids 0 g) O O (Ai (Af (c:=0) (off:=0) (i:=0) Bf O Ar O))<|Y (.ptr (ix ids 0) g 0 8) O O (Ai (Af (c:=0) (off:=8) (i:=8) Ar O Bw O))<|Bl O (fun _ _=>O) (fun K hK=>A3 (Ca vH13 hI O O O O Bw O O O) (hK _ _ (Bb O (A9 O (A8 O As))) ?_))
   clear hK K
   refine Be<|Az ?_
   exact Bn (hJ ((List.replicate (Int.toNat n) false),(List.replicate (Int.toNat n) (0:Int))) _ _ ⟨v13,g13,v14,g14,vH12,vH13,O,O⟩)
  refine Fu<|Ce fun hl14=>Ce fun hl15=>Y (.q ids 0 g) O O Aa<|Y (.q ids 0 g) O O Aa<|Y (.q ids 0 g) O O Aa<|Y (.I n) O O Aa ?_
  refine Y (.I n) O O Aa<|Y (.q ids 0 g) O O (Aq O)<|Y (.q ids 0 g) O O (Ai (Af (c:=0) (off:=0) (i:=0) Bf O Ar O))<|Y (.ptr (ix ids 0) g 0 5) O O (Ai (Af (c:=0) (off:=5) (i:=5) Ar O Av O))<|Bl O (fun _ _=>O) (fun K hK=>A3 (A6 (v:=(.I 0)) hI O O O O Av O O O O O) (hK _ _ (A8 O (Au O (Ac O Aa (Ac O Aa (Ac O Aa (Ac O Aa (Au O As))))))) ?_))
  clear hK K
  refine Ck O O (fun _ _=>O) (fun K hK=>Df (y:=(false:Bool)) (e:=rB) (st:=1) (j:=1) hI O O O Cr Gq O O hl14.1 hl14.2.1 hl14.2.2 O O O O O fun v15 g15 vH14=>hK _ _ (A8 O (Au O (Ac O Aa (Au O (Ac O Aa (Ac O Aa (Au O As))))))) ?_)
  clear hK K
  refine Y (.q ids 0 g) O O (Aq O)<|Y (.q ids 0 g) O O (Ai (Af (c:=0) (off:=0) (i:=0) Bf O Ar O))<|Y (.ptr (ix ids 0) g 0 7) O O (Ai (Af (c:=0) (off:=7) (i:=7) Ar O Cr O))<|Bl O (fun _ _=>O) (fun K hK=>A3 (Ca vH14 hI O O O O Cr O O O) (hK _ _ (A9 O (A8 O (Ac O Aa (Au O (Ac O Aa (A8 O As)))))) ?_))
  clear hK K
  refine Ck O O (fun _ _=>O) (fun K hK=>Df (y:=(0:Int)) (e:=(rI .i64)) (st:=1) (j:=2) hI O O O Bw Av O O hl15.1 hl15.2.1 hl15.2.2 O O O O O fun v16 g16 vH15=>hK _ _ (Bb O (Ac O Aa (A8 O As))) ?_)
  clear hK K
  refine Y (.q ids 0 g) O O (Aq O)<|Y (.q ids 0 g) O O (Ai (Af (c:=0) (off:=0) (i:=0) Bf O Ar O))<|Y (.ptr (ix ids 0) g 0 8) O O (Ai (Af (c:=0) (off:=8) (i:=8) Ar O Bw O))<|Bl O (fun _ _=>O) (fun K hK=>A3 (Ca vH15 hI O O O O Bw O O O) (hK _ _ (Bb O (A9 O (A8 O As))) ?_))
  clear hK K
  refine Be<|Az ?_
  exact Bn (hJ ((List.replicate (Int.toNat n) false),(List.replicate (Int.toNat n) (0:Int))) _ _ ⟨v15,g15,v16,g16,vH14,vH15,O,O⟩)
 refine Cs O (fun hc=>?_) (fun hc=>?_)
 ·refine Z<|Ak 6 [0] [(2,(.I s_Replica.Many))] ?_
  refine Ae<|Bn (hJ1 s_Replica.Many _ _ ⟨O,O⟩)
 refine Bg<|Bn (hJ1 0 _ _ ⟨O,O⟩)
theorem Ny (s:T61):CP Tryz.prog 32 [(.cp (Wy s) 0)] (Fv s) (fun(x:Int)=>(AV.int .i64 x)):=by
 refine Da (n:=25) 0 Tryz.func32 O (by decide) O O fun h0 ids hI=>B4 (Ax (Fv.eq_1 _) ?_)
 refine Ab<|Z<|Ad (.I 0) O At<|Ae<|Ab<|Ab<|Z ?_
 refine Ak 5 [] [(7,(.sl 2 (List.map Ag s.Replica.Log)))] ?_
 refine Ad (.I (s.Replica.Log.length:Int)) O (Bp (Br Bd))<|Ad (.bool ((s.Replica.Log.length:Int)==0)) O (Bi O O O)<|Ae<|Cs O (fun hc=>?_) (fun hc=>?_)
 ·refine Ab<|Z<|Ad (.I 0) O At<|Ae<|B6 (a:=0) (vs:=[(.I 0)]) Tryz.func32 hI O (.same _)
 refine Bg<|Ab<|B7 Db [[],[0],[0,1],[0,1,2],[0,1,2,3],[],[5],[5,6],[5,6,7],[5,6,7,8],[5,6,7,8,9],[5,6,7,8,9,10],[0,1,2,3,4,5,6,7,8,9,10,11],[0,1,2,3,4,5,6,7,8,9,10,11,12],[0,1,2,3,4,5,6,7,8,9,10,11,12,13],[0,1,2,3,4,5,6,7,8,9,10,11,12,13,14,14]] [(false,0),(false,1),(false,2),(false,3),(false,4),(false,5),(false,6),(false,7),(false,8),(false,9),(false,10),(false,11),(false,12),(false,13),(false,14),(false,15)] (by kernel_rfl)<|Y (.cp (Wy s) 0) O O Aa<|Y (.cp (Wy s) 0) O O (Aq O)<|Y (.cp (Wy s) 0) O O (Ai (Ok (c:=0) (off:=0) (i:=0) Bf O Ar O))<|Y (.cp (Wy s) 4) O O (Ai (Ok (c:=0) (off:=4) (i:=4) Ar O Bd O)) ?_
 refine Y (.sl 2 (List.map Ag s.Replica.Log)) O O (Al (Ek Bd O))<|Y (.cp (Wy s) 0) O O Aa<|Y (.cp (Wy s) 0) O O (Aq O)<|Y (.cp (Wy s) 0) O O (Ai (Ok (c:=0) (off:=0) (i:=0) Bf O Ar O))<|Y (.cp (Wy s) 4) O O (Ai (Ok (c:=0) (off:=4) (i:=4) Ar O Bd O))<|Y (.sl 2 (List.map Ag s.Replica.Log)) O O (Al (Ek Bd O))<|Y (.I (s.Replica.Log.length:Int)) O O (Bp (Br Bd)) ?_
 refine Y (.I (IntKind.wrap .i64 ((s.Replica.Log.length:Int) - 1))) O O (Bi O O O)<|G1 fun a hz hx1=>Y (.cp (Ag a) 0) O O (By (Fa Bd C6 O hz hx1))<|Y (.cp (Ag a) 0) O O (Ai (Ok (c:=0) (off:=0) (i:=0) C6 O Av O))<|Y (.I a.Term) O O (Al (Ek Av O))<|Y (.I a.Term) O O At<|Be ?_
 exact B6 (a:=a.Term) (vs:=[(.I a.Term)]) Tryz.func32 hI O (.same _)
theorem Qb (vto:Int)(mKind:Int)(mFrom:Int)(mTo:Int)(mTerm:Int)(mLast:Int)(mLastTerm:Int)(mCommit:Int)(mMatch:Int)(mGranted:Bool)(s_Replica:Replica)(h0:Ah)(o0:Nat)(o1:Nat)(g:Nat)(hI0:Ids h0 [o0,o1] 2):H7 vto mKind mFrom mTo mTerm mLast mLastTerm mCommit mMatch mGranted s_Replica≠.bad→Bx Tryz.prog 61 [(.ptr o0 g 0 0),(.int .i64 vto),(.agg [(.int .i64 mKind),(.int .i64 mFrom),(.int .i64 mTo),(.int .i64 mTerm),(.int .i64 mLast),(.int .i64 mLastTerm),.emp,(.int .i64 mCommit),(.int .i64 mMatch),(.bool mGranted)])] (hp h0 [o0,o1] [some (.rows g 10 [[(.int .i64 s_Replica.ID),(.int .i64 s_Replica.Many),(.int .i64 s_Replica.Term),(.int .i64 s_Replica.Vote),(.sl 2 (List.map Ag s_Replica.Log)),(.int .i64 s_Replica.Role),(.int .i64 s_Replica.Commit),(.sl 1 (List.map rB s_Replica.Votes)),(.sl 1 (List.map (rI .i64) s_Replica.Match)),.emp]]),none]) (El (fun a_ v h' => ∃ (v2:AV),∃ (g3:Nat),Bc v2 o1 g3 a_.length∧v=(.tup [])∧h'=hp h0 [o0,o1] [some (.rows g 10 [[(.int .i64 s_Replica.ID),(.int .i64 s_Replica.Many),(.int .i64 s_Replica.Term),(.int .i64 s_Replica.Vote),(.sl 2 (List.map Ag s_Replica.Log)),(.int .i64 s_Replica.Role),(.int .i64 s_Replica.Commit),(.sl 1 (List.map rB s_Replica.Votes)),(.sl 1 (List.map (rI .i64) s_Replica.Match)),v2]]),A5 v2 g3 10 (List.map Aj a_)]) h0 (H7 vto mKind mFrom mTo mTerm mLast mLastTerm mCommit mMatch mGranted s_Replica)):=by
 refine Co (n:=30) 1 Tryz.func61 O (by decide) O O hI0 O fun ids he hI=>?_
 clear hI0
 obtain rfl:ix ids 0=o0:=he 0 rfl
 obtain rfl:ix ids 1=o1:=he 1 rfl
 clear he
 refine B4 (Ax (H7.eq_1 _ _ _ _ _ _ _ _ _ _ _) ?_)
 refine Az ?_
 refine Ab<|Z<|C1 (v:=(.agg [(.I mKind),(.I mFrom),(.I mTo),(.I mTerm),(.I mLast),(.I mLastTerm),.emp,(.I mCommit),(.I mMatch),(.bool mGranted)])) (j:=2) hI O O O O O O O fun g1=>Ae<|Az ?_
 refine Ab<|B7 Db [[],[0],[0,1],[0,1,2],[0,1,2,3],[],[],[6],[6,7],[6,7,8],[6,7,8,9],[0,1,2,3,4],[0,1,2,3,4,4,11],[0,1,2,3,4,5,11,12],[0,1,2,3,4,5,5,11,12,12,13],[0,1,2,3,4,5,6,7,8,9,10,11,12,13,14],[0,1,2,3,4,5,6,7,8,9,10,10,11,12,13,14,14,15]] [(false,0),(false,1),(false,2),(false,3),(false,4),(false,5),(false,6),(false,7),(false,8),(false,9),(false,10),(false,11),(true,12),(false,13),(true,14),(false,15),(true,16)] (by kernel_rfl)<|Y (.q ids 0 g) O O Aa<|Y (.q ids 0 g) O O (Aq O)<|Y (.q ids 0 g) O O (Ai (Af (c:=0) (off:=0) (i:=0) Bf O Ar O))<|Y (.q ids 0 g) O O (Ai (Af (c:=0) (off:=0) (i:=0) Ar O Av O))<|Y (.I s_Replica.ID) O O (Al (Ap hI O O O Av O)) ?_
 refine Y (.I vto) O O Aa<|Y (.q ids 0 g) O O Aa<|Y (.q ids 0 g) O O (Aq O)<|Y (.q ids 0 g) O O (Ai (Af (c:=0) (off:=0) (i:=0) Bf O Ar O))<|Y (.ptr (ix ids 0) g 0 2) O O (Ai (Af (c:=0) (off:=2) (i:=2) Ar O Av O))<|Y (.I s_Replica.Term) O O (Al (Ap hI O O O Av O))<|Y (.ptr (ix ids 2) g1 0 1) O O (Ai (Af (c:=0) (off:=1) (i:=1) B0 O Av O)) ?_
 refine Bl O (fun _ _=>O) (fun K hK=>A3 (A6 (v:=(.I s_Replica.ID)) hI O O O O Av O O O O O) (hK _ _ (Au O (Ac O (Al (Ap hI O O O Av O)) (Ac O (Ai (Af (c:=0) (off:=2) (i:=2) Ar O Av O)) (Ac O (Ai (Af (c:=0) (off:=0) (i:=0) Bf O Ar O)) (Ac O (Aq O) (Ac O Aa (Ac O Aa (A9 O (Au O As))))))))) ?_))
 clear hK K
 refine Y (.ptr (ix ids 2) g1 0 2) O O (Ai (Af (c:=0) (off:=2) (i:=2) B0 O Av O))<|Bl O (fun _ _=>O) (fun K hK=>A3 (A6 (v:=(.I vto)) hI O O O O Av O O O O O) (hK _ _ (A8 O (Ac O (Al (Ap hI O O O Av O)) (Ac O (Ai (Af (c:=0) (off:=2) (i:=2) Ar O Av O)) (Ac O (Ai (Af (c:=0) (off:=0) (i:=0) Bf O Ar O)) (Ac O (Aq O) (Ac O Aa (A9 O (A8 O As)))))))) ?_))
 clear hK K
 refine Y (.ptr (ix ids 2) g1 0 3) O O (Ai (Af (c:=0) (off:=3) (i:=3) B0 O Av O))<|Bl O (fun _ _=>O) (fun K hK=>A3 (A6 (v:=(.I s_Replica.Term)) hI O O O O Av O O O O O) (hK _ _ (Bb O (A9 O (A8 O As))) ?_))
 clear hK K
 refine Be<|Az ?_
 refine B7 Db [[],[],[1],[1,2],[1,2,3],[],[5],[1,2,3,4,5,6],[0,0,1,2,3,4,5,6,7],[0,1,2,3,4,5,6,7,8],[0,1,2,3,4,5,6,7,8,9]] [(false,0),(false,1),(false,2),(false,3),(false,4),(false,5),(true,6),(true,7),(false,8),(false,9),(true,10)] (by kernel_rfl)<|Y (.q ids 0 g) O O Aa<|Y (.q ids 0 g) O O Aa<|Y (.q ids 0 g) O O (Aq O)<|Y (.ptr (ix ids 0) g 0 9) O O (Ai (Af (c:=0) (off:=9) (i:=1) Bf O Cw O))<|Y .emp O O (Al (Ap hI O O O Cw O))<|Y (.agg [(.I mKind),(.I s_Replica.ID),(.I vto),(.I s_Replica.Term),(.I mLast),(.I mLastTerm),.emp,(.I mCommit),(.I mMatch),(.bool mGranted)]) O O (Al (Ap hI O O O B0 O)) ?_
 refine Ck O O (fun _ _=>O) (fun K hK=>Ht (e:=Aj) (L:=[({ Kind:=mKind,From:=s_Replica.ID,To:=vto,Term:=s_Replica.Term,Last:=mLast,LastTerm:=mLastTerm,Log:=[],Commit:=mCommit,Match:=mMatch,Granted:=mGranted }:Message)]) (st:=10) (rows:=[[(.I mKind),(.I s_Replica.ID),(.I vto),(.I s_Replica.Term),(.I mLast),(.I mLastTerm),.emp,(.I mCommit),(.I mMatch),(.bool mGranted)]]) Cw B0 O O O O O (.cons (.cons (.same _) (.cons (.same _) (.cons (.same _) (.cons (.same _) (.cons (.same _) (.cons (.same _) (.cons (.emp _) (.cons (.same _) (.cons (.same _) (.cons (.same _) .nil)))))))))) .nil) (fun x=>Gd x) O O (hK _ _ (Au O (Ac O (Al (Ap hI O O O Cw O)) (Ac O (Ai (Af (c:=0) (off:=9) (i:=1) Bf O Cw O)) (Ac O (Aq O) (Ac O Aa (Ac O Aa As)))))) ?_))
 clear hK K
 refine Ce fun hl=>Ck O O (fun _ _=>O) (fun K hK=>Ee (e:=Aj) (L:=([]:List Message)) (L2:=[({ Kind:=mKind,From:=s_Replica.ID,To:=vto,Term:=s_Replica.Term,Last:=mLast,LastTerm:=mLastTerm,Log:=[],Commit:=mCommit,Match:=mMatch,Granted:=mGranted }:Message)]) (v:=.emp) (g:=0) (st:=10) (j:=1) hI O O O .nil O (Fg O) Cw Cw O B0 O O O (by simpa using hl) fun v1 g2 vH=>hK _ _ (A9 O (Au O (Ac O Aa As))) ?_)
 clear hK K
 refine Y (.q ids 0 g) O O (Aq O)<|Y (.ptr (ix ids 0) g 0 9) O O (Ai (Af (c:=0) (off:=9) (i:=1) Bf O Cw O))<|Bl O (fun _ _=>O) (fun K hK=>A3 (Ca vH hI O O O O Cw O O O) (hK _ _ (Bb O As) ?_))
 clear hK K
 refine Be<|Az ?_
 exact Fm (K:=2) (N:=1) (a:=[({ Kind:=mKind,From:=s_Replica.ID,To:=vto,Term:=s_Replica.Term,Last:=mLast,LastTerm:=mLastTerm,Log:=[],Commit:=mCommit,Match:=mMatch,Granted:=mGranted }:Message)]) (vs:=[]) [some (.rows g 10 [[(.I s_Replica.ID),(.I s_Replica.Many),(.I s_Replica.Term),(.I s_Replica.Vote),(.sl 2 (List.map Ag s_Replica.Log)),(.I s_Replica.Role),(.I s_Replica.Commit),(.sl 1 (List.map rB s_Replica.Votes)),(.sl 1 (List.map (rI .i64) s_Replica.Match)),v1]]),A5 v1 g2 10 (List.map Aj [({ Kind:=mKind,From:=s_Replica.ID,To:=vto,Term:=s_Replica.Term,Last:=mLast,LastTerm:=mLastTerm,Log:=[],Commit:=mCommit,Match:=mMatch,Granted:=mGranted }:Message)])] Tryz.func61 hI O O O (.keep (.keep (.drop .nil))) (.same _) ⟨v1,g2,vH,O,O⟩
theorem Vc (m:Message)(s_Replica:Replica)(h0:Ah)(o0:Nat)(o1:Nat)(g:Nat)(hI0:Ids h0 [o0,o1] 2):J2 m s_Replica≠.bad→Bx Tryz.prog 51 [(.ptr o0 g 0 0),(.agg (Aj m))] (hp h0 [o0,o1] [some (.rows g 10 [[(.int .i64 s_Replica.ID),(.int .i64 s_Replica.Many),(.int .i64 s_Replica.Term),(.int .i64 s_Replica.Vote),(.sl 2 (List.map Ag s_Replica.Log)),(.int .i64 s_Replica.Role),(.int .i64 s_Replica.Commit),(.sl 1 (List.map rB s_Replica.Votes)),(.sl 1 (List.map (rI .i64) s_Replica.Match)),.emp]]),none]) (El (fun a_ v h' => ∃ (v2:AV),∃ (g3:Nat),Bc v2 o1 g3 a_.2.length∧v=(.tup [])∧h'=hp h0 [o0,o1] [some (.rows g 10 [[(.int .i64 a_.1.ID),(.int .i64 a_.1.Many),(.int .i64 a_.1.Term),(.int .i64 a_.1.Vote),(.sl 2 (List.map Ag a_.1.Log)),(.int .i64 a_.1.Role),(.int .i64 a_.1.Commit),(.sl 1 (List.map rB a_.1.Votes)),(.sl 1 (List.map (rI .i64) a_.1.Match)),v2]]),A5 v2 g3 10 (List.map Aj a_.2)]) h0 (J2 m s_Replica)):=by
 refine Co (n:=71) 1 Tryz.func51 O (by decide) O O hI0 O fun ids he hI=>?_
 clear hI0
 obtain rfl:ix ids 0=o0:=he 0 rfl
 obtain rfl:ix ids 1=o1:=he 1 rfl
 clear he
 refine B4 (Ax (J2.eq_1 _ _) ?_)
 refine Az ?_
 refine Ab<|Z<|C1 (v:=(.agg (Aj m))) (j:=2) hI O O O O O O O fun g1=>Ae<|Az ?_
 refine Ab<|Dp (fun good=>Ix m s_Replica good) (fun good=>fun(fr:Nat→AV) (h:Ah)=>fr=A0 [(0,(.q ids 0 g)),(3,(.q ids 2 g1)),(4,(.bool good))]∧h=hp h0 ids [(some (.rows g 10 [[(.I s_Replica.ID),(.I s_Replica.Many),(.I s_Replica.Term),(.I s_Replica.Vote),(.sl 2 (List.map Ag s_Replica.Log)),(.I s_Replica.Role),(.I s_Replica.Commit),(.sl 1 (List.map rB s_Replica.Votes)),(.sl 1 (List.map (rI .i64) s_Replica.Match)),.emp]])),none,(some (.rows g1 10 [(Aj m)]))]) ?_ fun hJ2=>?_
 ·rintro good fr h ⟨rfl,rfl⟩
  refine Ax (Ix.eq_1 _ _ _)<|Ab<|Dp (fun granted=>G9 m s_Replica granted) (fun granted=>fun(fr:Nat→AV) (h:Ah)=>fr=A0 [(0,(.q ids 0 g)),(3,(.q ids 2 g1)),(5,(.bool granted))]∧h=hp h0 ids [(some (.rows g 10 [[(.I s_Replica.ID),(.I s_Replica.Many),(.I s_Replica.Term),(.I s_Replica.Vote),(.sl 2 (List.map Ag s_Replica.Log)),(.I s_Replica.Role),(.I s_Replica.Commit),(.sl 1 (List.map rB s_Replica.Votes)),(.sl 1 (List.map (rI .i64) s_Replica.Match)),.emp]])),none,(some (.rows g1 10 [(Aj m)]))]) ?_ fun hJ1=>?_
  ·rintro granted fr h ⟨rfl,rfl⟩
   refine Ax (G9.eq_1 _ _ _)<|Ab<|Ab<|Z<|Ad (.bool granted) O Aa<|Ae<|Dp (fun vReplica=>Ke m granted vReplica) (fun vReplica=>fun(fr:Nat→AV) (h:Ah)=>fr=A0 [(0,(.q ids 0 g)),(3,(.q ids 2 g1)),(5,(.bool granted))]∧h=hp h0 ids [(some (.rows g 10 [[(.I vReplica.ID),(.I vReplica.Many),(.I vReplica.Term),(.I vReplica.Vote),(.sl 2 (List.map Ag vReplica.Log)),(.I vReplica.Role),(.I vReplica.Commit),(.sl 1 (List.map rB vReplica.Votes)),(.sl 1 (List.map (rI .i64) vReplica.Match)),.emp]])),none,(some (.rows g1 10 [(Aj m)]))]) ?_ fun hJ=>?_
   ·rintro vReplica fr h ⟨rfl,rfl⟩
    refine Ax (Ke.eq_1 _ _ _)<|Z<|Ak 5 [2] [(69,(.agg [(.I 2),(.I 0),(.I 0),(.I 0),(.I 0),(.I 0),.emp,(.I 0),(.I 0),(.bool granted)])),(67,(.I m.From)),(65,(.q ids 0 g))] ?_
    refine Cn [0,1] hI O O (Qb m.From 2 0 0 0 0 0 0 0 granted vReplica _ (ix ids 0) (ix ids 1) g (by exact hI.sub' O O)) O O O O O O (fun v _=>Cd (K:=2) (N:=1) Tryz.func51 hI) ?_
    rintro r2 _ _ _ ⟨v1,g2,vH,rfl,rfl⟩
    refine D3 [0,1] hI O O O ?_
    refine C3<|Ae<|Az ?_
    exact Fm (K:=2) (N:=1) (a:=(vReplica,r2)) (vs:=[]) [some (.rows g 10 [[(.I vReplica.ID),(.I vReplica.Many),(.I vReplica.Term),(.I vReplica.Vote),(.sl 2 (List.map Ag vReplica.Log)),(.I vReplica.Role),(.I vReplica.Commit),(.sl 1 (List.map rB vReplica.Votes)),(.sl 1 (List.map (rI .i64) vReplica.Match)),v1]]),A5 v1 g2 10 (List.map Aj r2)] Tryz.func51 hI O O O (.keep (.keep (.drop .nil))) (.same _) ⟨v1,g2,vH,O,O⟩
   refine Cs O (fun hc=>?_) (fun hc=>?_)
   ·refine Z<|Ak 6 [2] [(64,(.ptr (ix ids 0) g 0 3)),(61,(.I m.From))] ?_
    refine A4 (A6 (v:=(.I m.From)) hI O O O O Av O O O O O)<|Ae<|Az ?_
    exact Bn (hJ ({ ID:=s_Replica.ID,Many:=s_Replica.Many,Term:=s_Replica.Term,Vote:=m.From,Log:=s_Replica.Log,Role:=s_Replica.Role,Commit:=s_Replica.Commit,Votes:=s_Replica.Votes,Match:=s_Replica.Match }:Replica) _ _ ⟨O,O⟩)
   refine Bg<|Bn (hJ s_Replica _ _ ⟨O,O⟩)
  refine B7 Db [[],[0],[],[2],[2,3],[2,3,4],[2,3,4,5],[0,1,2,3,4,5,6],[0,1,2,3,4,5,6,7],[0,1,2,3,4,5,6,7,8],[0,1,2,3,4,5,6,7,8,9],[0,1,2,3,4,5,6,7,8,9,10],[0,1,2,3,4,5,6,7,8,9,10,11],[0,1,2,3,4,5,6,7,8,9,10,11,12],[0,1,2,3,4,5,6,7,8,9,10,11,12,13],[0,1,2,3,4,5,6,7,8,9,10,11,12,13,14],[0,1,2,3,4,5,6,7,8,9,10,11,12,13,14,15],[0,1,2,3,4,5,6,7,8,9,10,11,12,13,14,15,16],[0,1,2,3,4,5,6,7,8,9,10,11,12,13,14,15,16,17],[0,1,2,3,4,5,6,7,8,9,10,11,12,13,14,15,16,17,18],[0,1,2,3,4,5,6,7,8,9,10,11,12,13,14,15,16,17,18,19],[0,1,2,3,4,5,6,7,8,9,10,11,12,13,14,15],[0,1,2,3,4,5,6,7,8,9,10,11,12,13,14,15,21],[0,1,2,3,4,5,6,7,8,9,10,11,12,13,14,15,16,17,18,19,20,21,22],[0,1,2,3,4,5,6,7,8,9,10,11,12,13,14,15,16,17,18,19,20,21,22,23],[0,1,2,3,4,5,6,7,8,9,10,11,12,13,14,15,16,17,18,19,20,21,22,23,24],[0,1,2,3,4,5,6,7,8,9,10,11,12,13,14,15,16,17,18,19,20,21,22,23,24,25],[0,1,2,3,4,5,6,7,8,9,10,11,12,13,14,15,16,17,18,19,20,21,22,23,24,25,26],[0,1,2,3,4,5,6,7,8,9,10,11,12,13,14,15,16,17,18,19,20,21,22,23,24,25,26,27],[0,1,2,3,4,5,6,7,8,9,10,11,12,13,14,15,16,17,18,19,20,21,22,23,24,25,26,26,27,28,28]] [(false,0),(false,1),(false,2),(false,3),(false,4),(false,5),(false,6),(false,7),(false,8),(false,9),(false,10),(false,11),(false,12),(false,13),(false,14),(false,15),(false,16),(false,17),(false,18),(false,19),(false,20),(false,21),(false,22),(false,23),(false,24),(false,25),(false,26),(false,27),(false,28),(false,29)] (by kernel_rfl)<|Y (.ptr (ix ids 2) g1 0 3) O O (Ai (Af (c:=0) (off:=3) (i:=3) B0 O Av O))<|Y (.I m.Term) O O (Al (Ap hI O O O Av O))<|Y (.q ids 0 g) O O Aa<|Y (.q ids 0 g) O O (Aq O)<|Y (.q ids 0 g) O O (Ai (Af (c:=0) (off:=0) (i:=0) Bf O Ar O))<|Y (.ptr (ix ids 0) g 0 2) O O (Ai (Af (c:=0) (off:=2) (i:=2) Ar O Av O)) ?_
  refine Y (.I s_Replica.Term) O O (Al (Ap hI O O O Av O))<|Y (.bool (m.Term==s_Replica.Term)) O O (Bi O O O)<|Y (.bool (m.Term==s_Replica.Term)) O O Aa<|Gl (fun hb2=>?_) (fun hb2=>?_)
  ·refine Ay (tj:=37) (.q ids 0 g) O O (congrArg AV.bool hb2) O Aa<|Ay (tj:=37) (.q ids 0 g) O O (congrArg AV.bool hb2) O (Aq O)<|Ay (tj:=37) (.q ids 0 g) O O (congrArg AV.bool hb2) O (Ai (Af (c:=0) (off:=0) (i:=0) Bf O Ar O))<|Ay (tj:=37) (.ptr (ix ids 0) g 0 3) O O (congrArg AV.bool hb2) O (Ai (Af (c:=0) (off:=3) (i:=3) Ar O Av O))<|Ay (tj:=37) (.I s_Replica.Vote) O O (congrArg AV.bool hb2) O (Al (Ap hI O O O Av O))<|Ay (tj:=37) (.bool (s_Replica.Vote==(-1))) O O (congrArg AV.bool hb2) O (Bi O O O)<|Ay (tj:=37) (.bool (s_Replica.Vote==(-1))) O O (congrArg AV.bool hb2) O Aa ?_
   refine Gl (fun hb3=>?_) (fun hb3=>?_)
   ·refine A2 (tj:=44) (b:=true) O O (congrArg AV.bool hb3) O O<|A2 (tj:=44) (b:=true) O O (congrArg AV.bool hb3) O O<|A2 (tj:=44) (b:=true) O O (congrArg AV.bool hb3) O O<|A2 (tj:=44) (b:=true) O O (congrArg AV.bool hb3) O O<|A2 (tj:=44) (b:=true) O O (congrArg AV.bool hb3) O O<|A2 (tj:=44) (b:=true) O O (congrArg AV.bool hb3) O O<|A2 (tj:=44) (b:=true) O O (congrArg AV.bool hb3) O O ?_
    refine A2 (tj:=44) (b:=true) O O (congrArg AV.bool hb3) O O<|Ay (tj:=37) (.bool true) O O (congrArg AV.bool hb2) O (Bz (t:=true) (congrArg AV.bool hb3) O)<|Y (.bool true) O O (Bz (t:=true) (congrArg AV.bool hb2) O)<|Y (.bool true) O O Aa<|Ay (tj:=55) (.bool good) O O O O Aa<|Y (.bool good) O O (Bz (t:=true) O O)<|Y (.bool good) O O At ?_
    refine Be<|Bn (hJ1 good _ _ ⟨O,O⟩)
   refine Ay (tj:=44) (.q ids 0 g) O O (congrArg AV.bool hb3) O Aa<|Ay (tj:=44) (.q ids 0 g) O O (congrArg AV.bool hb3) O (Aq O)<|Ay (tj:=44) (.q ids 0 g) O O (congrArg AV.bool hb3) O (Ai (Af (c:=0) (off:=0) (i:=0) Bf O Ar O))<|Ay (tj:=44) (.ptr (ix ids 0) g 0 3) O O (congrArg AV.bool hb3) O (Ai (Af (c:=0) (off:=3) (i:=3) Ar O Av O))<|Ay (tj:=44) (.I s_Replica.Vote) O O (congrArg AV.bool hb3) O (Al (Ap hI O O O Av O))<|Ay (tj:=44) (.ptr (ix ids 2) g1 0 1) O O (congrArg AV.bool hb3) O (Ai (Af (c:=0) (off:=1) (i:=1) B0 O Av O))<|Ay (tj:=44) (.I m.From) O O (congrArg AV.bool hb3) O (Al (Ap hI O O O Av O)) ?_
   refine Ay (tj:=44) (.bool (s_Replica.Vote==m.From)) O O (congrArg AV.bool hb3) O (Bi O O O)<|Ay (tj:=37) (.bool (s_Replica.Vote==m.From)) O O (congrArg AV.bool hb2) O (Bz (t:=false) (congrArg AV.bool hb3) O)<|Y (.bool (s_Replica.Vote==m.From)) O O (Bz (t:=true) (congrArg AV.bool hb2) O)<|Y (.bool (s_Replica.Vote==m.From)) O O Aa<|Gl (fun hb4=>?_) (fun hb4=>?_)
   ·refine Ay (tj:=55) (.bool good) O O (congrArg AV.bool hb4) O Aa<|Y (.bool good) O O (Bz (t:=true) (congrArg AV.bool hb4) O)<|Y (.bool good) O O At<|Be<|Bn (hJ1 good _ _ ⟨O,O⟩)
   refine A2 (tj:=55) (b:=false) O O (congrArg AV.bool hb4) O O<|Y (.bool false) O O (Bz (t:=false) (congrArg AV.bool hb4) O)<|Y (.bool false) O O At<|Be<|Bn (hJ1 false _ _ ⟨O,O⟩)
  refine A2 (tj:=37) (b:=false) O O (congrArg AV.bool hb2) O O<|A2 (tj:=37) (b:=false) O O (congrArg AV.bool hb2) O O<|A2 (tj:=37) (b:=false) O O (congrArg AV.bool hb2) O O<|A2 (tj:=37) (b:=false) O O (congrArg AV.bool hb2) O O<|A2 (tj:=37) (b:=false) O O (congrArg AV.bool hb2) O O<|A2 (tj:=37) (b:=false) O O (congrArg AV.bool hb2) O O<|A2 (tj:=37) (b:=false) O O (congrArg AV.bool hb2) O O ?_
  refine Ci (tj:=44) O O O O<|Ci (tj:=44) O O O O<|Ci (tj:=44) O O O O<|Ci (tj:=44) O O O O<|Ci (tj:=44) O O O O<|Ci (tj:=44) O O O O<|Ci (tj:=44) O O O O ?_
  refine Ci (tj:=44) O O O O<|A2 (tj:=37) (b:=false) O O (congrArg AV.bool hb2) O O<|Y (.bool false) O O (Bz (t:=false) (congrArg AV.bool hb2) O)<|Y (.bool false) O O Aa<|A2 (tj:=55) (b:=false) O O O O O<|Y (.bool false) O O (Bz (t:=false) O O)<|Y (.bool false) O O At ?_
  refine Be<|Bn (hJ1 false _ _ ⟨O,O⟩)
 refine B7 Db [[],[0],[],[2],[0,1,2,3],[0,1,2,3,4],[0,1,2,3,4,5],[0,1,2,3,4,5,6],[0,1,2,3,4,5],[0,1,2,3,4,5,8],[0,1,2,3,4,5,6,7,8,9],[0,1,2,3,4,5,6,7,8,9,10],[0,1,2,3,4,5,6,7,8,9,10,11],[0,1,2,3,4,5,6,7,8,9,10,11,12],[0,1,2,3,4,5,6,7,8,9,10,11],[0,1,2,3,4,5,6,7,8,9,10,11,14],[0,1,2,3,4,5,6,7,8,9,10,11,14,15],[0,1,2,3,4,5,6,7,8,9,10,11,14,15,16],[0,1,2,3,4,5,6,7,8,9,10,11,14,15,16,17],[0,1,2,3,4,5,6,7,8,9,10,11,14,15,16,17,18],[0,1,2,3,4,5,6,7,8,9,10,11,12,13,14,15,16,17,18,19],[0,1,2,3,4,5,6,7,8,9,10,11,12,13,14,15,16,17,18,19,20],[0,1,2,3,4,5,6,7,8,9,10,11,12,13,14,15,16,17,18,19,20,21],[0,1,2,3,4,5,6,7,8,9,10,11,11,12,13,14,15,16,17,18,19,20,21,22,22]] [(false,0),(false,1),(false,2),(true,3),(false,4),(false,5),(false,6),(false,7),(false,8),(true,9),(false,10),(false,11),(false,12),(false,13),(false,14),(false,15),(false,16),(false,17),(false,18),(false,19),(false,20),(false,21),(false,22),(false,23)] (by kernel_rfl)<|Y (.ptr (ix ids 2) g1 0 5) O O (Ai (Af (c:=0) (off:=5) (i:=5) B0 O Av O))<|Y (.I m.LastTerm) O O (Al (Ap hI O O O Av O))<|Y (.q ids 0 g) O O Aa<|D1 [(.q ids 0 g)] O O O O O (CP.lend (Ny ({ Replica:=s_Replica,fSent:=[] }:T61)) (LF.lfz (.cons (.ptrL (hI.at O O) O O (.cons (.same _) (.cons (.same _) (.cons (.same _) (.cons (.same _) (.cons (.same _) (.cons (.same _) (.cons (.same _) (.cons (.same _) (.cons (.same _) (.cons (.emp _) .nil))))))))))) .nil)) (fun _ _=>(.int _ _))) (fun v _ _ _=>Cd (K:=2) (N:=1) Tryz.func51 hI) (Au O (Ac O (Al (Ap hI O O O Av O)) (Ac O (Ai (Af (c:=0) (off:=5) (i:=5) B0 O Av O)) As))) fun r _=>Y (.bool (decide (m.LastTerm > r))) O O (Bi O O O)<|Y (.bool (decide (m.LastTerm > r))) O O Aa ?_
 refine Gl (fun hb=>?_) (fun hb=>?_)
 ·refine A2 (tj:=11) (b:=true) O O (congrArg AV.bool hb) O O<|A2 (tj:=11) (b:=true) O O (congrArg AV.bool hb) O O<|A2 (tj:=11) (b:=true) O O (congrArg AV.bool hb) O O<|Ow (tj:=11) (b:=true) O O (congrArg AV.bool hb) O O<|A2 (tj:=11) (b:=true) O O (congrArg AV.bool hb) O O<|A2 (tj:=11) (b:=true) O O (congrArg AV.bool hb) O O<|Ci (tj:=17) O O O O ?_
  refine Ci (tj:=17) O O O O<|Ci (tj:=17) O O O O<|Ci (tj:=17) O O O O<|Ci (tj:=17) O O O O<|Ci (tj:=17) O O O O<|Ci (tj:=17) O O O O<|Ci (tj:=17) O O O O ?_
  refine Ci (tj:=17) O O O O<|A2 (tj:=11) (b:=true) O O (congrArg AV.bool hb) O O<|Y (.bool true) O O (Bz (t:=true) (congrArg AV.bool hb) O)<|Y (.bool true) O O At<|Be<|Bn (hJ2 true _ _ ⟨O,O⟩)
 refine Ay (tj:=11) (.ptr (ix ids 2) g1 0 5) O O (congrArg AV.bool hb) O (Ai (Af (c:=0) (off:=5) (i:=5) B0 O Av O))<|Ay (tj:=11) (.I m.LastTerm) O O (congrArg AV.bool hb) O (Al (Ap hI O O O Av O))<|Ay (tj:=11) (.q ids 0 g) O O (congrArg AV.bool hb) O Aa<|D1 [(.q ids 0 g)] O (Cx (tj:=11) O (congrArg AV.bool hb)) O O O (CP.lend (Ny ({ Replica:=s_Replica,fSent:=[] }:T61)) (LF.lfz (.cons (.ptrL (hI.at O O) O O (.cons (.same _) (.cons (.same _) (.cons (.same _) (.cons (.same _) (.cons (.same _) (.cons (.same _) (.cons (.same _) (.cons (.same _) (.cons (.same _) (.cons (.emp _) .nil))))))))))) .nil)) (fun _ _=>(.int _ _))) (fun v _ _ _=>Cd (K:=2) (N:=1) Tryz.func51 hI) (Au O (Wr (tj:=11) O O (congrArg AV.bool hb) (Al (Ap hI O O O Av O)) (Wr (tj:=11) O O (congrArg AV.bool hb) (Ai (Af (c:=0) (off:=5) (i:=5) B0 O Av O)) (A9 O (Au O As))))) fun r1 _=>Ay (tj:=11) (.bool (m.LastTerm==r1)) O O (congrArg AV.bool hb) O (Bi O O O)<|Ay (tj:=11) (.bool (m.LastTerm==r1)) O O (congrArg AV.bool hb) O Aa<|Gl (fun hb1=>?_) (fun hb1=>?_)
 ·refine Ay (tj:=17) (.ptr (ix ids 2) g1 0 4) O O (congrArg AV.bool hb1) O (Ai (Af (c:=0) (off:=4) (i:=4) B0 O Av O))<|Ay (tj:=17) (.I m.Last) O O (congrArg AV.bool hb1) O (Al (Ap hI O O O Av O))<|Ay (tj:=17) (.q ids 0 g) O O (congrArg AV.bool hb1) O Aa<|Ay (tj:=17) (.q ids 0 g) O O (congrArg AV.bool hb1) O (Aq O)<|Ay (tj:=17) (.q ids 0 g) O O (congrArg AV.bool hb1) O (Ai (Af (c:=0) (off:=0) (i:=0) Bf O Ar O))<|Ay (tj:=17) (.ptr (ix ids 0) g 0 4) O O (congrArg AV.bool hb1) O (Ai (Af (c:=0) (off:=4) (i:=4) Ar O Bd O))<|Ay (tj:=17) (.sl 2 (List.map Ag s_Replica.Log)) O O (congrArg AV.bool hb1) O (Al (Ap hI O O O Bd O)) ?_
  refine Ay (tj:=17) (.I (s_Replica.Log.length:Int)) O O (congrArg AV.bool hb1) O (Bp (Br Bd))<|Ay (tj:=17) (.bool (decide (m.Last≥(s_Replica.Log.length:Int)))) O O (congrArg AV.bool hb1) O (Bi O O O)<|Ay (tj:=11) (.bool (decide (m.Last≥(s_Replica.Log.length:Int)))) O O (congrArg AV.bool hb) O (Bz (t:=true) (congrArg AV.bool hb1) O)<|Y (.bool (decide (m.Last≥(s_Replica.Log.length:Int)))) O O (Bz (t:=false) (congrArg AV.bool hb) O)<|Y (.bool (decide (m.Last≥(s_Replica.Log.length:Int)))) O O At<|Be<|Bn (hJ2 (decide (m.Last≥(s_Replica.Log.length:Int))) _ _ ⟨O,O⟩)
 refine A2 (tj:=17) (b:=false) O O (congrArg AV.bool hb1) O O<|A2 (tj:=17) (b:=false) O O (congrArg AV.bool hb1) O O<|A2 (tj:=17) (b:=false) O O (congrArg AV.bool hb1) O O<|A2 (tj:=17) (b:=false) O O (congrArg AV.bool hb1) O O<|A2 (tj:=17) (b:=false) O O (congrArg AV.bool hb1) O O<|A2 (tj:=17) (b:=false) O O (congrArg AV.bool hb1) O O<|A2 (tj:=17) (b:=false) O O (congrArg AV.bool hb1) O O ?_
 refine A2 (tj:=17) (b:=false) O O (congrArg AV.bool hb1) O O<|A2 (tj:=17) (b:=false) O O (congrArg AV.bool hb1) O O<|Ay (tj:=11) (.bool false) O O (congrArg AV.bool hb) O (Bz (t:=false) (congrArg AV.bool hb1) O)<|Y (.bool false) O O (Bz (t:=false) (congrArg AV.bool hb) O)<|Y (.bool false) O O At<|Be<|Bn (hJ2 false _ _ ⟨O,O⟩)
theorem Vv (s:List Bool):CPO Tryz.prog 65 [(.sl 1 (List.map rB s))] (M6 s) 1 rB:=by
 refine Q9 (n:=8) 0 Tryz.func65 O (by decide) O O fun h0 ids hI=>Qw (M6.eq_1 _)<|Ab<|Z<|Ad .emp O At<|Ae<|Ab ?_
 refine Ab<|Z<|Ad (.sl 1 (List.map rB s)) O Aa<|Abx (L:=s) O Cr O fun c hc=>Ae ?_
 by_cases hl:s.length * 1≤B5
 case neg=>rw [if_neg hl]; exact Aet
 rw [if_pos hl]
 refine Nm c O ?_
 cases c with
 | true=>
  have hs:=hc rfl
  subst hs
  refine Ab<|Z<|Ad .emp O At<|Ae<|P6 (a:=[]) (v:=.emp) (g:=0) Tryz.func65 hI O O .nil O
 | false=>
  refine Bg<|Ab<|Z<|Ui O Cr Gq<|Ad (.sl 1 (List.map rB s)) O Aa<|Kl (e:=rB) (L:=[]) (L2:=s) (v:=.emp) (g:=0) (st:=1) (j:=0) hI O O O O .nil O (Fg O) Cr Cr O Gq O O O (by simpa using hl) fun v g H=>Ad v O At ?_
  refine Ae<|P6 (a:=s) (v:=v) (g:=g) Tryz.func65 hI O O H O
end Go.Am
