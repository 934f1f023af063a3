/- Written by shrink.py from texts of ours: comments struck, what is not reached left out, names short. -/
import Derived.Test.YtgigefcfankeeaaU4
import Derived.KernelRfl
import Derived.Shelf.Strconv.Itoa0
import Derived.Ground.SlgmProg
import Derived.Shelf.SortM.Plain
import Derived.Shelf.SortM.SortNone
import Derived.Test.YtgigefcfankeeaaProg
namespace Go.Am
open Go
set_option linter.unusedVariables false
set_option maxRecDepth 100000
def Ix (s:List Int):R (List Int):=
 (Gc s).bind fun s1=>
 (N1 s1).bind fun _=>
 .ok (Wk s1)
theorem L0 (s:List Int):Le (Ix s) (D5 s):=by
 unfold Ix D5
 with_reducible repeat' first | exact Le.refl _ | exact hW .. | apply C5 | apply C0 | apply Dp | apply C2 | apply Cp | apply Cq | apply Ds | apply Dt | apply Dq | apply Du | apply Dr | apply Ee | (rw [Co]; exact Le.refl _) | intro _
def Mb (s0_ReplicaID:Int)(s0_ReplicaMany:Int)(s0_ReplicaTerm:Int)(s0_ReplicaVote:Int)(s0_ReplicaRole:Int)(s0_ReplicaCommit:Int)(s0_ReplicaVotes:List Bool)(l:List Record)(l1:List Int):R (Int×(List Record)):=
 (Ew l1).bind fun _=>
 (Ix l1).bind fun l2=>
 (Cs l2 (IntKind.wrap .i64 (Int.tdiv (IntKind.wrap .i64 ((l2.length:Int) - 1)) 2))).bind fun a=>
 if(decide (a > s0_ReplicaCommit)) then
((Cs l (IntKind.wrap .i64 (a - 1))).bind fun a1=>
 Eo s0_ReplicaCommit a (a1.Term==s0_ReplicaTerm) l)
else
(Eo s0_ReplicaCommit a false l)
theorem Tt (s0_ReplicaID:Int)(s0_ReplicaMany:Int)(s0_ReplicaTerm:Int)(s0_ReplicaVote:Int)(s0_ReplicaRole:Int)(s0_ReplicaCommit:Int)(s0_ReplicaVotes:List Bool)(l:List Record)(l1:List Int):Le (Mb s0_ReplicaID s0_ReplicaMany s0_ReplicaTerm s0_ReplicaVote s0_ReplicaRole s0_ReplicaCommit s0_ReplicaVotes l l1) (D9 s0_ReplicaID s0_ReplicaMany s0_ReplicaTerm s0_ReplicaVote s0_ReplicaRole s0_ReplicaCommit s0_ReplicaVotes l l1):=by
 unfold Mb D9
 with_reducible repeat' first | exact Le.refl _ | exact hW .. | exact L0 .. | apply C5 | apply C0 | apply Dp | apply C2 | apply Cp | apply Cq | apply Ds | apply Dt | apply Dq | apply Du | apply Dr | apply Ee | (rw [Co]; exact Le.refl _) | intro _
def O8 (m:Message)(s_Replica:Replica):R (List Message):=
 (Ub 64 (Dn fun x l=>Hy m s_Replica x l) (0,[])).bind (fun l1=>Je l1)
theorem V3 (m:Message)(s_Replica:Replica):Le (O8 m s_Replica) (Gz m s_Replica):=by
 unfold O8 Gz
 with_reducible repeat' first | exact Le.refl _ | exact hW .. | apply C5 | apply C0 | apply Dp | apply C2 | apply Cp | apply Cq | apply Ds | apply Dt | apply Dq | apply Du | apply Dr | apply Ee | (rw [Co]; exact Le.refl _) | intro _
def N4 (s0_ReplicaID:Int)(s0_ReplicaMany:Int)(s0_ReplicaTerm:Int)(s0_ReplicaVote:Int)(s0_ReplicaRole:Int)(s0_ReplicaCommit:Int)(s0_ReplicaVotes:List Bool)(s0_ReplicaMatch:List Int)(l:List Record):R (List Message):=
 (O8 ({ Kind:=3,From:=0,To:=0,Term:=0,Last:=0,LastTerm:=0,Log:=l,Commit:=s0_ReplicaCommit,Match:=0,Granted:=false }:Message) ({ ID:=s0_ReplicaID,Many:=s0_ReplicaMany,Term:=s0_ReplicaTerm,Vote:=s0_ReplicaVote,Log:=l,Role:=s0_ReplicaRole,Commit:=s0_ReplicaCommit,Votes:=s0_ReplicaVotes,Match:=s0_ReplicaMatch }:Replica)).bind fun r=>
 .ok r
theorem Vf (s0_ReplicaID:Int)(s0_ReplicaMany:Int)(s0_ReplicaTerm:Int)(s0_ReplicaVote:Int)(s0_ReplicaRole:Int)(s0_ReplicaCommit:Int)(s0_ReplicaVotes:List Bool)(s0_ReplicaMatch:List Int)(l:List Record):Le (N4 s0_ReplicaID s0_ReplicaMany s0_ReplicaTerm s0_ReplicaVote s0_ReplicaRole s0_ReplicaCommit s0_ReplicaVotes s0_ReplicaMatch l) (E5 s0_ReplicaID s0_ReplicaMany s0_ReplicaTerm s0_ReplicaVote s0_ReplicaRole s0_ReplicaCommit s0_ReplicaVotes s0_ReplicaMatch l):=by
 unfold N4 E5
 with_reducible repeat' first | exact Le.refl _ | exact hW .. | exact V3 .. | apply C5 | apply C0 | apply Dp | apply C2 | apply Cp | apply Cq | apply Ds | apply Dt | apply Dq | apply Du | apply Dr | apply Ee | (rw [Co]; exact Le.refl _) | intro _
def Pr (r:Replica)(l:List Record):R (Replica×(List Message)×Int):=
 (Fv r.Match).bind fun r3=>
 (Cs r3 r.ID).bind fun a=>
 (Mb r.ID r.Many r.Term r.Vote r.Role r.Commit r.Votes l (r3.set r.ID.toNat (l.length:Int))).bind fun r4=>
 (N4 r.ID r.Many r.Term r.Vote r.Role r4.1 r.Votes (r3.set r.ID.toNat (l.length:Int)) r4.2).bind fun r5=>
 .ok (({ ID:=r.ID,Many:=r.Many,Term:=r.Term,Vote:=r.Vote,Log:=r4.2,Role:=r.Role,Commit:=r4.1,Votes:=r.Votes,Match:=(r3.set r.ID.toNat (l.length:Int)) }:Replica),r5,0)
theorem Wj (r:Replica)(l:List Record):Le (Pr r l) (Jw r l):=by
 unfold Pr Jw
 with_reducible repeat' first | exact Le.refl _ | exact hW .. | exact Tt .. | exact Vf .. | apply C5 | apply C0 | apply Dp | apply C2 | apply Cp | apply Cq | apply Ds | apply Dt | apply Dq | apply Du | apply Dr | apply Ee | (rw [Co]; exact Le.refl _) | intro _
def Pa (r:Replica)(data:List Int):R (Replica×(List Message)×Int):=
 (D6 r).bind fun e=>
 if(e != 0) then
(.ok (({ ID:=0,Many:=0,Term:=0,Vote:=0,Log:=[],Role:=0,Commit:=0,Votes:=[],Match:=[] }:Replica),[],e))
else
(if(r.Role != 2) then
(.ok (({ ID:=0,Many:=0,Term:=0,Vote:=0,Log:=[],Role:=0,Commit:=0,Votes:=[],Match:=[] }:Replica),[],470))
else
(if(r.Log.length:Int)≥4096 then
(.ok (({ ID:=0,Many:=0,Term:=0,Vote:=0,Log:=[],Role:=0,Commit:=0,Votes:=[],Match:=[] }:Replica),[],2))
else
((Dg r).bind fun _=>
 (Gy r.Log).bind fun r1=>
 if(r1.length+[({ Term:=r.Term,Data:=data }:Record)].length) * 32≤Ca then
 Pr r (r1++[({ Term:=r.Term,Data:=data }:Record)]) else .bad)))
theorem Y7 (r:Replica)(data:List Int):Le (Pa r data) (Ha r data):=by
 unfold Pa Ha
 with_reducible repeat' first | exact Le.refl _ | exact hW .. | exact Wj .. | apply C5 | apply C0 | apply Dp | apply C2 | apply Cp | apply Cq | apply Ds | apply Dt | apply Dq | apply Du | apply Dr | apply Ee | (rw [Co]; exact Le.refl _) | intro _
def Kl (s0_ReplicaID:Int)(s0_ReplicaMany:Int)(s0_ReplicaTerm:Int)(s0_ReplicaVote:Int)(s0_ReplicaLog:List Record)(s0_ReplicaRole:Int)(s0_ReplicaCommit:Int)(l:List Bool)(l1:List Int):R Int:=
 (Ew l1).bind fun _=>
 (Ix l1).bind fun l2=>
 (Cs l2 (IntKind.wrap .i64 (Int.tdiv (IntKind.wrap .i64 ((l2.length:Int) - 1)) 2))).bind fun a=>
 if(decide (a > s0_ReplicaCommit)) then
((Cs s0_ReplicaLog (IntKind.wrap .i64 (a - 1))).bind fun a1=>
 Em s0_ReplicaCommit a (a1.Term==s0_ReplicaTerm))
else
(Em s0_ReplicaCommit a false)
theorem Pj (s0_ReplicaID:Int)(s0_ReplicaMany:Int)(s0_ReplicaTerm:Int)(s0_ReplicaVote:Int)(s0_ReplicaLog:List Record)(s0_ReplicaRole:Int)(s0_ReplicaCommit:Int)(l:List Bool)(l1:List Int):Le (Kl s0_ReplicaID s0_ReplicaMany s0_ReplicaTerm s0_ReplicaVote s0_ReplicaLog s0_ReplicaRole s0_ReplicaCommit l l1) (Et s0_ReplicaID s0_ReplicaMany s0_ReplicaTerm s0_ReplicaVote s0_ReplicaLog s0_ReplicaRole s0_ReplicaCommit l l1):=by
 unfold Kl Et
 with_reducible repeat' first | exact Le.refl _ | exact hW .. | exact L0 .. | apply C5 | apply C0 | apply Dp | apply C2 | apply Cp | apply Cq | apply Ds | apply Dt | apply Dq | apply Du | apply Dr | apply Ee | (rw [Co]; exact Le.refl _) | intro _
def Ou (m:Message)(s_ReplicaID:Int)(s_ReplicaMany:Int)(s_ReplicaTerm:Int)(s_ReplicaVote:Int)(s_ReplicaLog:List Record)(s_ReplicaRole:Int)(s_ReplicaCommit:Int)(s_ReplicaMatch:List Int):R (List Message):=
 (Ub 64 (Dn fun x l=>H1 m s_ReplicaID s_ReplicaMany s_ReplicaTerm s_ReplicaVote s_ReplicaLog s_ReplicaRole s_ReplicaCommit s_ReplicaMatch x l) (0,[])).bind (fun l1=>Jf l1)
theorem V8 (m:Message)(s_ReplicaID:Int)(s_ReplicaMany:Int)(s_ReplicaTerm:Int)(s_ReplicaVote:Int)(s_ReplicaLog:List Record)(s_ReplicaRole:Int)(s_ReplicaCommit:Int)(s_ReplicaMatch:List Int):Le (Ou m s_ReplicaID s_ReplicaMany s_ReplicaTerm s_ReplicaVote s_ReplicaLog s_ReplicaRole s_ReplicaCommit s_ReplicaMatch) (F0 m s_ReplicaID s_ReplicaMany s_ReplicaTerm s_ReplicaVote s_ReplicaLog s_ReplicaRole s_ReplicaCommit s_ReplicaMatch):=by
 unfold Ou F0
 with_reducible repeat' first | exact Le.refl _ | exact hW .. | apply C5 | apply C0 | apply Dp | apply C2 | apply Cp | apply Cq | apply Ds | apply Dt | apply Dq | apply Du | apply Dr | apply Ee | (rw [Co]; exact Le.refl _) | intro _
def Lh (s_ReplicaID:Int)(s_ReplicaMany:Int)(s_ReplicaTerm:Int)(s_ReplicaVote:Int)(s_ReplicaLog:List Record)(s_ReplicaRole:Int)(s_ReplicaCommit:Int)(s_ReplicaMatch:List Int):R (List Message):=
 (Ou ({ Kind:=3,From:=0,To:=0,Term:=0,Last:=0,LastTerm:=0,Log:=s_ReplicaLog,Commit:=s_ReplicaCommit,Match:=0,Granted:=false }:Message) s_ReplicaID s_ReplicaMany s_ReplicaTerm s_ReplicaVote s_ReplicaLog s_ReplicaRole s_ReplicaCommit s_ReplicaMatch).bind fun r=>
 .ok r
theorem Qo (s_ReplicaID:Int)(s_ReplicaMany:Int)(s_ReplicaTerm:Int)(s_ReplicaVote:Int)(s_ReplicaLog:List Record)(s_ReplicaRole:Int)(s_ReplicaCommit:Int)(s_ReplicaMatch:List Int):Le (Lh s_ReplicaID s_ReplicaMany s_ReplicaTerm s_ReplicaVote s_ReplicaLog s_ReplicaRole s_ReplicaCommit s_ReplicaMatch) (Gk s_ReplicaID s_ReplicaMany s_ReplicaTerm s_ReplicaVote s_ReplicaLog s_ReplicaRole s_ReplicaCommit s_ReplicaMatch):=by
 unfold Lh Gk
 with_reducible repeat' first | exact Le.refl _ | exact hW .. | exact V8 .. | apply C5 | apply C0 | apply Dp | apply C2 | apply Cp | apply Cq | apply Ds | apply Dt | apply Dq | apply Du | apply Dr | apply Ee | (rw [Co]; exact Le.refl _) | intro _
def Mk (s0_ReplicaID:Int)(s0_ReplicaMany:Int)(s0_ReplicaTerm:Int)(s0_ReplicaVote:Int)(s0_ReplicaLog:List Record)(s0_ReplicaCommit:Int)(l:List Bool)(l1:List Int):R (Int×(List Int)×(List Message)):=
 (Cs l1 s0_ReplicaID).bind fun a=>
 (Kl s0_ReplicaID s0_ReplicaMany s0_ReplicaTerm s0_ReplicaVote s0_ReplicaLog 2 s0_ReplicaCommit l (l1.set s0_ReplicaID.toNat (s0_ReplicaLog.length:Int))).bind fun r=>
 (Lh s0_ReplicaID s0_ReplicaMany s0_ReplicaTerm s0_ReplicaVote s0_ReplicaLog 2 r (l1.set s0_ReplicaID.toNat (s0_ReplicaLog.length:Int))).bind fun r1=>
 .ok (r,(l1.set s0_ReplicaID.toNat (s0_ReplicaLog.length:Int)),r1)
theorem Tq (s0_ReplicaID:Int)(s0_ReplicaMany:Int)(s0_ReplicaTerm:Int)(s0_ReplicaVote:Int)(s0_ReplicaLog:List Record)(s0_ReplicaCommit:Int)(l:List Bool)(l1:List Int):Le (Mk s0_ReplicaID s0_ReplicaMany s0_ReplicaTerm s0_ReplicaVote s0_ReplicaLog s0_ReplicaCommit l l1) (Hg s0_ReplicaID s0_ReplicaMany s0_ReplicaTerm s0_ReplicaVote s0_ReplicaLog s0_ReplicaCommit l l1):=by
 unfold Mk Hg
 with_reducible repeat' first | exact Le.refl _ | exact hW .. | exact Pj .. | exact Qo .. | apply C5 | apply C0 | apply Dp | apply C2 | apply Cp | apply Cq | apply Ds | apply Dt | apply Dq | apply Du | apply Dr | apply Ee | (rw [Co]; exact Le.refl _) | intro _
def N2 (s0_ReplicaID:Int)(s0_ReplicaMany:Int)(s0_ReplicaTerm:Int)(s0_ReplicaVote:Int)(s0_ReplicaLog:List Record)(s0_ReplicaRole:Int)(s0_ReplicaCommit:Int)(s0_ReplicaMatch:List Int)(l:List Bool):R (Int×(List Int)×(List Message)):=
 if(0:Int)≤s0_ReplicaMany∧(s0_ReplicaMany:Int)≤s0_ReplicaMany∧(Int.toNat s0_ReplicaMany) * 8≤Ca then
 Mk s0_ReplicaID s0_ReplicaMany s0_ReplicaTerm s0_ReplicaVote s0_ReplicaLog s0_ReplicaCommit l (List.replicate (Int.toNat s0_ReplicaMany) (0:Int)) else .bad
theorem Vh (s0_ReplicaID:Int)(s0_ReplicaMany:Int)(s0_ReplicaTerm:Int)(s0_ReplicaVote:Int)(s0_ReplicaLog:List Record)(s0_ReplicaRole:Int)(s0_ReplicaCommit:Int)(s0_ReplicaMatch:List Int)(l:List Bool):Le (N2 s0_ReplicaID s0_ReplicaMany s0_ReplicaTerm s0_ReplicaVote s0_ReplicaLog s0_ReplicaRole s0_ReplicaCommit s0_ReplicaMatch l) (Ek s0_ReplicaID s0_ReplicaMany s0_ReplicaTerm s0_ReplicaVote s0_ReplicaLog s0_ReplicaRole s0_ReplicaCommit s0_ReplicaMatch l):=by
 unfold N2 Ek
 with_reducible repeat' first | exact Le.refl _ | exact hW .. | exact Tq .. | apply C5 | apply C0 | apply Dp | apply C2 | apply Cp | apply Cq | apply Ds | apply Dt | apply Dq | apply Du | apply Dr | apply Ee | (rw [Co]; exact Le.refl _) | intro _
def Ij (m:Message)(s_Replica:Replica)(x:Bool):R (Int×Int×(List Bool)×(List Int)×(List Message)):=
 if x then
(.ok (s_Replica.Role,s_Replica.Commit,s_Replica.Votes,s_Replica.Match,[]))
else
((Ls s_Replica.Votes).bind fun r=>
 (Cs r m.From).bind fun a=>
 (Gb (fun j _=>Dn fun n x2=>Fi j n x2) 0 (r.set m.From.toNat true) (0,(r.set m.From.toNat true))).bind ((Dn fun n x2=>if(IntKind.wrap .i64 (2 * n)) > s_Replica.Many then
((N2 s_Replica.ID s_Replica.Many s_Replica.Term s_Replica.Vote s_Replica.Log s_Replica.Role s_Replica.Commit s_Replica.Match x2).bind fun r1=>
 .ok (2,r1.1,x2,r1.2.1,r1.2.2))
else
(.ok (s_Replica.Role,s_Replica.Commit,x2,s_Replica.Match,[])))))
theorem Tv (m:Message)(s_Replica:Replica)(x:Bool):Le (Ij m s_Replica x) (Dz m s_Replica x):=by
 unfold Ij Dz
 with_reducible repeat' first | exact Le.refl _ | exact hW .. | exact Vh .. | apply C5 | apply C0 | apply Dp | apply C2 | apply Cp | apply Cq | apply Ds | apply Dt | apply Dq | apply Du | apply Dr | apply Ee | (rw [Co]; exact Le.refl _) | intro _
def N3 (m:Message)(s_Replica:Replica):R (Int×Int×(List Bool)×(List Int)×(List Message)):=
 if(s_Replica.Role != 1) then
(Ij m s_Replica true)
else
(if(m.Term != s_Replica.Term) then
(Ij m s_Replica true)
else
(Ij m s_Replica (!m.Granted)))
theorem Vc (m:Message)(s_Replica:Replica):Le (N3 m s_Replica) (E2 m s_Replica):=by
 unfold N3 E2
 with_reducible repeat' first | exact Le.refl _ | exact hW .. | exact Tv .. | apply C5 | apply C0 | apply Dp | apply C2 | apply Cp | apply Cq | apply Ds | apply Dt | apply Dq | apply Du | apply Dr | apply Ee | (rw [Co]; exact Le.refl _) | intro _
def Qw {σ_ ε_:Type}(b:List Record)(c:List Record)(b_:Record→Record→σ_→R (σ_ ⊕ ε_))(s_:σ_):R (σ_ ⊕ ε_):=
 (Ub 64 (Dn fun x s=>Fw b c b_ x s) (0,s_)).bind (Jk (fun s2=>I7 s2) (fun r=>.ok r))
theorem Yd {σ_ ε_:Type}(b:List Record)(c:List Record)(b_:Record→Record→σ_→R (σ_ ⊕ ε_))(s_:σ_):Le (Qw b c b_ s_) (Jm b c b_ s_):=by
 unfold Qw Jm
 with_reducible repeat' first | exact Le.refl _ | exact hW .. | apply C5 | apply C0 | apply Dp | apply C2 | apply Cp | apply Cq | apply Ds | apply Dt | apply Dq | apply Du | apply Dr | apply Ee | (rw [Co]; exact Le.refl _) | intro _
def P0 (a:List Record)(b:List Record):R Bool:=
 (Lj a b).bind fun _=>
 (Qw a b (fun a1 a2 z_=>R.np ((fun _=>H4 a1 a2) z_)) ()).bind (Jk (fun _=>.ok (decide ((a.length:Int)≤(b.length:Int)))) (fun _=>.ok false))
theorem Zs (a:List Record)(b:List Record):Le (P0 a b) (Jn a b):=by
 unfold P0 Jn
 with_reducible repeat' first | exact Le.refl _ | exact hW .. | exact Yd .. | apply C5 | apply C0 | apply Dp | apply C2 | apply Cp | apply Cq | apply Ds | apply Dt | apply Dq | apply Du | apply Dr | apply Ee | (rw [Co]; exact Le.refl _) | intro _
def Ms (m:Message)(s_Replica:Replica):R ((List Record)×Int×Int×(List Bool)×(List Int)×(List Message)):=
 if m.Term<s_Replica.Term then
((Fl m.From 4 0 0 0 0 0 0 0 false s_Replica).bind fun r=>
 .ok (s_Replica.Log,s_Replica.Role,s_Replica.Commit,s_Replica.Votes,s_Replica.Match,r))
else
(if(s_Replica.Role==2) then
(.ok (s_Replica.Log,s_Replica.Role,s_Replica.Commit,s_Replica.Votes,s_Replica.Match,[]))
else
((Cx s_Replica).bind fun r1=>
 (P0 m.Log s_Replica.Log).bind fun r2=>
 if r2 then
(Ey m s_Replica r1 s_Replica.Log)
else
(if(0:Int)≤s_Replica.Commit∧s_Replica.Commit≤(s_Replica.Log.length:Int) then
 (P0 (s_Replica.Log.take (Int.toNat s_Replica.Commit)) m.Log).bind fun r3=>
 (Bl r3 470).bind fun _=>
 Ey m s_Replica r1 m.Log else .bad)))
theorem Uk (m:Message)(s_Replica:Replica):Le (Ms m s_Replica) (Fq m s_Replica):=by
 unfold Ms Fq
 with_reducible repeat' first | exact Le.refl _ | exact hW .. | exact Zs .. | apply C5 | apply C0 | apply Dp | apply C2 | apply Cp | apply Cq | apply Ds | apply Dt | apply Dq | apply Du | apply Dr | apply Ee | (rw [Co]; exact Le.refl _) | intro _
def Mm (s0_ReplicaID:Int)(s0_ReplicaMany:Int)(s0_ReplicaTerm:Int)(s0_ReplicaVote:Int)(s0_ReplicaLog:List Record)(s0_ReplicaRole:Int)(s0_ReplicaCommit:Int)(s0_ReplicaVotes:List Bool)(l:List Int):R Replica:=
 (Ew l).bind fun _=>
 (Ix l).bind fun l1=>
 (Cs l1 (IntKind.wrap .i64 (Int.tdiv (IntKind.wrap .i64 ((l1.length:Int) - 1)) 2))).bind fun a=>
 if(decide (a > s0_ReplicaCommit)) then
((Cs s0_ReplicaLog (IntKind.wrap .i64 (a - 1))).bind fun a1=>
 En s0_ReplicaID s0_ReplicaMany s0_ReplicaTerm s0_ReplicaVote s0_ReplicaLog s0_ReplicaRole s0_ReplicaCommit s0_ReplicaVotes l a (a1.Term==s0_ReplicaTerm))
else
(En s0_ReplicaID s0_ReplicaMany s0_ReplicaTerm s0_ReplicaVote s0_ReplicaLog s0_ReplicaRole s0_ReplicaCommit s0_ReplicaVotes l a false)
theorem Tz (s0_ReplicaID:Int)(s0_ReplicaMany:Int)(s0_ReplicaTerm:Int)(s0_ReplicaVote:Int)(s0_ReplicaLog:List Record)(s0_ReplicaRole:Int)(s0_ReplicaCommit:Int)(s0_ReplicaVotes:List Bool)(l:List Int):Le (Mm s0_ReplicaID s0_ReplicaMany s0_ReplicaTerm s0_ReplicaVote s0_ReplicaLog s0_ReplicaRole s0_ReplicaCommit s0_ReplicaVotes l) (Ge s0_ReplicaID s0_ReplicaMany s0_ReplicaTerm s0_ReplicaVote s0_ReplicaLog s0_ReplicaRole s0_ReplicaCommit s0_ReplicaVotes l):=by
 unfold Mm Ge
 with_reducible repeat' first | exact Le.refl _ | exact hW .. | exact L0 .. | apply C5 | apply C0 | apply Dp | apply C2 | apply Cp | apply Cq | apply Ds | apply Dt | apply Dq | apply Du | apply Dr | apply Ee | (rw [Co]; exact Le.refl _) | intro _
def Iy (m:Message)(s_Replica:Replica)(x:Bool):R Replica:=
 if x then
(.ok s_Replica)
else
((Bl (decide (m.Match≤(s_Replica.Log.length:Int))) 470).bind fun _=>
 (Fv s_Replica.Match).bind fun r1=>
 (Cs r1 m.From).bind fun a=>
 (Mm s_Replica.ID s_Replica.Many s_Replica.Term s_Replica.Vote s_Replica.Log s_Replica.Role s_Replica.Commit s_Replica.Votes (r1.set m.From.toNat (if m.Match > a then m.Match else a))).bind fun r2=>
 .ok r2)
theorem Ua (m:Message)(s_Replica:Replica)(x:Bool):Le (Iy m s_Replica x) (Eh m s_Replica x):=by
 unfold Iy Eh
 with_reducible repeat' first | exact Le.refl _ | exact hW .. | exact Tz .. | apply C5 | apply C0 | apply Dp | apply C2 | apply Cp | apply Cq | apply Ds | apply Dt | apply Dq | apply Du | apply Dr | apply Ee | (rw [Co]; exact Le.refl _) | intro _
def Ox (m:Message)(s_Replica:Replica):R Replica:=
 if(s_Replica.Role != 2) then
(Iy m s_Replica true)
else
(if(m.Term != s_Replica.Term) then
(Iy m s_Replica true)
else
(Iy m s_Replica (!m.Granted)))
theorem Wh (m:Message)(s_Replica:Replica):Le (Ox m s_Replica) (Fd m s_Replica):=by
 unfold Ox Fd
 with_reducible repeat' first | exact Le.refl _ | exact hW .. | exact Ua .. | apply C5 | apply C0 | apply Dp | apply C2 | apply Cp | apply Cq | apply Ds | apply Dt | apply Dq | apply Du | apply Dr | apply Ee | (rw [Co]; exact Le.refl _) | intro _
def Mn (m:Message)(vID1:Int)(vMany1:Int)(vTerm1:Int)(vVote1:Int)(vLog1:List Record)(vRole1:Int)(vCommit1:Int)(vVotes1:List Bool)(vMatch1:List Int):R (Replica×(List Message)×Int):=
 if m.Kind=0 then
(.bad)
else
(if m.Kind=1 then
((H5 m ({ ID:=vID1,Many:=vMany1,Term:=vTerm1,Vote:=vVote1,Log:=vLog1,Role:=vRole1,Commit:=vCommit1,Votes:=vVotes1,Match:=vMatch1 }:Replica)).bind fun r10=>
 .ok (r10.1,r10.2,0))
else
(if m.Kind=2 then
((N3 m ({ ID:=vID1,Many:=vMany1,Term:=vTerm1,Vote:=vVote1,Log:=vLog1,Role:=vRole1,Commit:=vCommit1,Votes:=vVotes1,Match:=vMatch1 }:Replica)).bind fun r11=>
 .ok (({ ID:=(({ ID:=vID1,Many:=vMany1,Term:=vTerm1,Vote:=vVote1,Log:=vLog1,Role:=vRole1,Commit:=vCommit1,Votes:=vVotes1,Match:=vMatch1 }:Replica).ID),Many:=(({ ID:=vID1,Many:=vMany1,Term:=vTerm1,Vote:=vVote1,Log:=vLog1,Role:=vRole1,Commit:=vCommit1,Votes:=vVotes1,Match:=vMatch1 }:Replica).Many),Term:=(({ ID:=vID1,Many:=vMany1,Term:=vTerm1,Vote:=vVote1,Log:=vLog1,Role:=vRole1,Commit:=vCommit1,Votes:=vVotes1,Match:=vMatch1 }:Replica).Term),Vote:=(({ ID:=vID1,Many:=vMany1,Term:=vTerm1,Vote:=vVote1,Log:=vLog1,Role:=vRole1,Commit:=vCommit1,Votes:=vVotes1,Match:=vMatch1 }:Replica).Vote),Log:=(({ ID:=vID1,Many:=vMany1,Term:=vTerm1,Vote:=vVote1,Log:=vLog1,Role:=vRole1,Commit:=vCommit1,Votes:=vVotes1,Match:=vMatch1 }:Replica).Log),Role:=r11.1,Commit:=r11.2.1,Votes:=r11.2.2.1,Match:=r11.2.2.2.1 }:Replica),r11.2.2.2.2,0))
else
(if m.Kind=3 then
((Ms m ({ ID:=vID1,Many:=vMany1,Term:=vTerm1,Vote:=vVote1,Log:=vLog1,Role:=vRole1,Commit:=vCommit1,Votes:=vVotes1,Match:=vMatch1 }:Replica)).bind fun r12=>
 .ok (({ ID:=(({ ID:=vID1,Many:=vMany1,Term:=vTerm1,Vote:=vVote1,Log:=vLog1,Role:=vRole1,Commit:=vCommit1,Votes:=vVotes1,Match:=vMatch1 }:Replica).ID),Many:=(({ ID:=vID1,Many:=vMany1,Term:=vTerm1,Vote:=vVote1,Log:=vLog1,Role:=vRole1,Commit:=vCommit1,Votes:=vVotes1,Match:=vMatch1 }:Replica).Many),Term:=(({ ID:=vID1,Many:=vMany1,Term:=vTerm1,Vote:=vVote1,Log:=vLog1,Role:=vRole1,Commit:=vCommit1,Votes:=vVotes1,Match:=vMatch1 }:Replica).Term),Vote:=(({ ID:=vID1,Many:=vMany1,Term:=vTerm1,Vote:=vVote1,Log:=vLog1,Role:=vRole1,Commit:=vCommit1,Votes:=vVotes1,Match:=vMatch1 }:Replica).Vote),Log:=r12.1,Role:=r12.2.1,Commit:=r12.2.2.1,Votes:=r12.2.2.2.1,Match:=r12.2.2.2.2.1 }:Replica),r12.2.2.2.2.2,0))
else
(if m.Kind=4 then
((Ox m ({ ID:=vID1,Many:=vMany1,Term:=vTerm1,Vote:=vVote1,Log:=vLog1,Role:=vRole1,Commit:=vCommit1,Votes:=vVotes1,Match:=vMatch1 }:Replica)).bind fun r13=>
 .ok (r13,[],0))
else
(.bad)))))
theorem W6 (m:Message)(vID1:Int)(vMany1:Int)(vTerm1:Int)(vVote1:Int)(vLog1:List Record)(vRole1:Int)(vCommit1:Int)(vVotes1:List Bool)(vMatch1:List Int):Le (Mn m vID1 vMany1 vTerm1 vVote1 vLog1 vRole1 vCommit1 vVotes1 vMatch1) (Dj m vID1 vMany1 vTerm1 vVote1 vLog1 vRole1 vCommit1 vVotes1 vMatch1):=by
 unfold Mn Dj
 with_reducible repeat' first | exact Le.refl _ | exact hW .. | exact Uk .. | exact Vc .. | exact Wh .. | apply C5 | apply C0 | apply Dp | apply C2 | apply Cp | apply Cq | apply Ds | apply Dt | apply Dq | apply Du | apply Dr | apply Ee | (rw [Co]; exact Le.refl _) | intro _
def P8 (r:Replica)(m:Message):R (Replica×(List Message)×Int):=
 (D6 r).bind fun r1=>
 if(r1 != 0) then
(.ok (({ ID:=0,Many:=0,Term:=0,Vote:=0,Log:=[],Role:=0,Commit:=0,Votes:=[],Match:=[] }:Replica),[],r1))
else
((Bv m.Kind 1 4).bind fun r2=>
 (if(r2&&(m.To==r.ID)) then(Bv m.From 0 (IntKind.wrap .i64 (r.Many - 1))).bind fun r3=>
 R.ok r3 else R.ok false).bind (fun(b:Bool)=>(if(b&&(m.From != r.ID)) then(Bv m.Term 1 1048576).bind fun r4=>
 R.ok r4 else R.ok false).bind (fun(b1:Bool)=>(Bl b1 470).bind fun _=>
 (if(decide ((if m.Match<(if m.LastTerm<m.Last then m.LastTerm else m.Last) then m.Match else(if m.LastTerm<m.Last then m.LastTerm else m.Last))≥0)) then(Bv m.Commit 0 (m.Log.length:Int)).bind fun r6=>
 R.ok r6 else R.ok false).bind (fun(b2:Bool)=>(if b2 then(G6 m.Log m.Term).bind fun r7=>
 R.ok r7 else R.ok false).bind (fun(b3:Bool)=>(Bl b3 470).bind fun _=>
 (Dg r).bind fun _=>
 if m.Term > r.Term then
((Cx ({ ID:=r.ID,Many:=r.Many,Term:=m.Term,Vote:=(-1),Log:=r.Log,Role:=r.Role,Commit:=r.Commit,Votes:=r.Votes,Match:=r.Match }:Replica)).bind fun r9=>
 Mn m (({ ID:=r.ID,Many:=r.Many,Term:=m.Term,Vote:=(-1),Log:=r.Log,Role:=r.Role,Commit:=r.Commit,Votes:=r.Votes,Match:=r.Match }:Replica).ID) (({ ID:=r.ID,Many:=r.Many,Term:=m.Term,Vote:=(-1),Log:=r.Log,Role:=r.Role,Commit:=r.Commit,Votes:=r.Votes,Match:=r.Match }:Replica).Many) (({ ID:=r.ID,Many:=r.Many,Term:=m.Term,Vote:=(-1),Log:=r.Log,Role:=r.Role,Commit:=r.Commit,Votes:=r.Votes,Match:=r.Match }:Replica).Term) (({ ID:=r.ID,Many:=r.Many,Term:=m.Term,Vote:=(-1),Log:=r.Log,Role:=r.Role,Commit:=r.Commit,Votes:=r.Votes,Match:=r.Match }:Replica).Vote) (({ ID:=r.ID,Many:=r.Many,Term:=m.Term,Vote:=(-1),Log:=r.Log,Role:=r.Role,Commit:=r.Commit,Votes:=r.Votes,Match:=r.Match }:Replica).Log) 0 (({ ID:=r.ID,Many:=r.Many,Term:=m.Term,Vote:=(-1),Log:=r.Log,Role:=r.Role,Commit:=r.Commit,Votes:=r.Votes,Match:=r.Match }:Replica).Commit) r9.1 r9.2)
else
(Mn m r.ID r.Many r.Term r.Vote r.Log r.Role r.Commit r.Votes r.Match))))))
theorem Xp (r:Replica)(m:Message):Le (P8 r m) (I3 r m):=by
 unfold P8 I3
 with_reducible repeat' first | exact Le.refl _ | exact hW .. | exact W6 .. | apply C5 | apply C0 | apply Dp | apply C2 | apply Cp | apply Cq | apply Ds | apply Dt | apply Dq | apply Du | apply Dr | apply Ee | (rw [Co]; exact Le.refl _) | intro _
def O2 (r:Replica)(m:Message):R (Replica×(List Message)×Int):=
 (P8 r m).catch' (Iw 105 .i64 (fun n=>(Eu n).bind fun p=>.ok (({ ID:=0,Many:=0,Term:=0,Vote:=0,Log:=[],Role:=0,Commit:=0,Votes:=[],Match:=[] }:Replica),[],p)) (fun _=>.bad))
theorem Y2 (r:Replica)(m:Message):Le (O2 r m) (I5 r m):=by
 unfold O2 I5
 with_reducible repeat' first | exact Le.refl _ | exact hW .. | exact Xp .. | apply C5 | apply C0 | apply Dp | apply C2 | apply Cp | apply Cq | apply Ds | apply Dt | apply Dq | apply Du | apply Dr | apply Ee | (rw [Co]; exact Le.refl _) | intro _
def Me (s0_ReplicaID:Int)(s0_ReplicaMany:Int)(s0_ReplicaTerm:Int)(s0_ReplicaVote:Int)(s0_ReplicaLog:List Record)(s0_ReplicaCommit:Int)(l:List Bool)(l1:List Int):R (Int×(List Int)×(List Message)):=
 (Cs l1 s0_ReplicaID).bind fun a=>
 (Kl s0_ReplicaID s0_ReplicaMany s0_ReplicaTerm s0_ReplicaVote s0_ReplicaLog 2 s0_ReplicaCommit l (l1.set s0_ReplicaID.toNat (s0_ReplicaLog.length:Int))).bind fun r=>
 (Lh s0_ReplicaID s0_ReplicaMany s0_ReplicaTerm s0_ReplicaVote s0_ReplicaLog 2 r (l1.set s0_ReplicaID.toNat (s0_ReplicaLog.length:Int))).bind fun r1=>
 .ok (r,(l1.set s0_ReplicaID.toNat (s0_ReplicaLog.length:Int)),r1)
theorem Tj (s0_ReplicaID:Int)(s0_ReplicaMany:Int)(s0_ReplicaTerm:Int)(s0_ReplicaVote:Int)(s0_ReplicaLog:List Record)(s0_ReplicaCommit:Int)(l:List Bool)(l1:List Int):Le (Me s0_ReplicaID s0_ReplicaMany s0_ReplicaTerm s0_ReplicaVote s0_ReplicaLog s0_ReplicaCommit l l1) (Iz s0_ReplicaID s0_ReplicaMany s0_ReplicaTerm s0_ReplicaVote s0_ReplicaLog s0_ReplicaCommit l l1):=by
 unfold Me Iz
 with_reducible repeat' first | exact Le.refl _ | exact hW .. | exact Pj .. | exact Qo .. | apply C5 | apply C0 | apply Dp | apply C2 | apply Cp | apply Cq | apply Ds | apply Dt | apply Dq | apply Du | apply Dr | apply Ee | (rw [Co]; exact Le.refl _) | intro _
def Nx (s0_ReplicaID:Int)(s0_ReplicaMany:Int)(s0_ReplicaTerm:Int)(s0_ReplicaVote:Int)(s0_ReplicaLog:List Record)(s0_ReplicaRole:Int)(s0_ReplicaCommit:Int)(l:List Bool):R (Int×(List Int)×(List Message)):=
 if(0:Int)≤s0_ReplicaMany∧(s0_ReplicaMany:Int)≤s0_ReplicaMany∧(Int.toNat s0_ReplicaMany) * 8≤Ca then
 Me s0_ReplicaID s0_ReplicaMany s0_ReplicaTerm s0_ReplicaVote s0_ReplicaLog s0_ReplicaCommit l (List.replicate (Int.toNat s0_ReplicaMany) (0:Int)) else .bad
theorem Vi (s0_ReplicaID:Int)(s0_ReplicaMany:Int)(s0_ReplicaTerm:Int)(s0_ReplicaVote:Int)(s0_ReplicaLog:List Record)(s0_ReplicaRole:Int)(s0_ReplicaCommit:Int)(l:List Bool):Le (Nx s0_ReplicaID s0_ReplicaMany s0_ReplicaTerm s0_ReplicaVote s0_ReplicaLog s0_ReplicaRole s0_ReplicaCommit l) (Gi s0_ReplicaID s0_ReplicaMany s0_ReplicaTerm s0_ReplicaVote s0_ReplicaLog s0_ReplicaRole s0_ReplicaCommit l):=by
 unfold Nx Gi
 with_reducible repeat' first | exact Le.refl _ | exact hW .. | exact Tj .. | apply C5 | apply C0 | apply Dp | apply C2 | apply Cp | apply Cq | apply Ds | apply Dt | apply Dq | apply Du | apply Dr | apply Ee | (rw [Co]; exact Le.refl _) | intro _
def O4 (mKind:Int)(mFrom:Int)(mTo:Int)(mTerm:Int)(mLast:Int)(mLastTerm:Int)(mCommit:Int)(mMatch:Int)(mGranted:Bool)(s_ReplicaID:Int)(s_ReplicaMany:Int)(s_ReplicaTerm:Int)(s_ReplicaVote:Int)(s_ReplicaLog:List Record)(s_ReplicaRole:Int)(s_ReplicaCommit:Int):R (List Message):=
 (Ub 64 (Dn fun x l=>Hx mKind mFrom mTo mTerm mLast mLastTerm mCommit mMatch mGranted s_ReplicaID s_ReplicaMany s_ReplicaTerm s_ReplicaVote s_ReplicaLog s_ReplicaRole s_ReplicaCommit x l) (0,[])).bind (fun l1=>Jh l1)
theorem V0 (mKind:Int)(mFrom:Int)(mTo:Int)(mTerm:Int)(mLast:Int)(mLastTerm:Int)(mCommit:Int)(mMatch:Int)(mGranted:Bool)(s_ReplicaID:Int)(s_ReplicaMany:Int)(s_ReplicaTerm:Int)(s_ReplicaVote:Int)(s_ReplicaLog:List Record)(s_ReplicaRole:Int)(s_ReplicaCommit:Int):Le (O4 mKind mFrom mTo mTerm mLast mLastTerm mCommit mMatch mGranted s_ReplicaID s_ReplicaMany s_ReplicaTerm s_ReplicaVote s_ReplicaLog s_ReplicaRole s_ReplicaCommit) (Fx mKind mFrom mTo mTerm mLast mLastTerm mCommit mMatch mGranted s_ReplicaID s_ReplicaMany s_ReplicaTerm s_ReplicaVote s_ReplicaLog s_ReplicaRole s_ReplicaCommit):=by
 unfold O4 Fx
 with_reducible repeat' first | exact Le.refl _ | exact hW .. | apply C5 | apply C0 | apply Dp | apply C2 | apply Cp | apply Cq | apply Ds | apply Dt | apply Dq | apply Du | apply Dr | apply Ee | (rw [Co]; exact Le.refl _) | intro _
def O5 (r:Replica):R (Replica×(List Message)×Int):=
 (D6 r).bind fun e=>
 if(e != 0) then
(.ok (({ ID:=0,Many:=0,Term:=0,Vote:=0,Log:=[],Role:=0,Commit:=0,Votes:=[],Match:=[] }:Replica),[],e))
else
(if(r.Term==1048576) then
(.ok (({ ID:=0,Many:=0,Term:=0,Vote:=0,Log:=[],Role:=0,Commit:=0,Votes:=[],Match:=[] }:Replica),[],2))
else
((Dg r).bind fun _=>
 (Cx r).bind fun r1=>
 (Cs r1.1 r.ID).bind fun a=>
 if(r.Many==1) then
((Nx r.ID r.Many (IntKind.wrap .i64 (r.Term+1)) r.ID r.Log 1 r.Commit (r1.1.set r.ID.toNat true)).bind fun r2=>
 .ok (({ ID:=r.ID,Many:=r.Many,Term:=(IntKind.wrap .i64 (r.Term+1)),Vote:=r.ID,Log:=r.Log,Role:=2,Commit:=r2.1,Votes:=(r1.1.set r.ID.toNat true),Match:=r2.2.1 }:Replica),r2.2.2,0))
else
((Gn ({ Replica:=({ ID:=r.ID,Many:=r.Many,Term:=(IntKind.wrap .i64 (r.Term+1)),Vote:=r.ID,Log:=r.Log,Role:=1,Commit:=r.Commit,Votes:=(r1.1.set r.ID.toNat true),Match:=r1.2 }:Replica),fSent:=[] }:T87)).bind fun r3=>
 (O4 1 0 0 0 (r.Log.length:Int) r3 0 0 false r.ID r.Many (IntKind.wrap .i64 (r.Term+1)) r.ID r.Log 1 r.Commit).bind fun r4=>
 .ok (({ ID:=r.ID,Many:=r.Many,Term:=(IntKind.wrap .i64 (r.Term+1)),Vote:=r.ID,Log:=r.Log,Role:=1,Commit:=r.Commit,Votes:=(r1.1.set r.ID.toNat true),Match:=r1.2 }:Replica),r4,0))))
theorem Ym (r:Replica):Le (O5 r) (G9 r):=by
 unfold O5 G9
 with_reducible repeat' first | exact Le.refl _ | exact hW .. | exact Vi .. | exact V0 .. | apply C5 | apply C0 | apply Dp | apply C2 | apply Cp | apply Cq | apply Ds | apply Dt | apply Dq | apply Du | apply Dr | apply Ee | (rw [Co]; exact Le.refl _) | intro _
def Ri (W_:Value→R (Int×Bool))(a:Value)(depth:Int):R (Int ⊕ (Int×Bool)):=
 (W_ a).bind fun r=>
 if r.2 then
(.ok (.inl (if r.1 > depth then r.1 else depth)))
else
(.ok (.inr ((0,false))))
theorem Yv {W' W_:Value→R (Int×Bool)}(hW : ∀ w0,Le (W' w0) (W_ w0))(a:Value)(depth:Int):Le (Ri W' a depth) (Kq W_ a depth):=by
 unfold Ri Kq
 with_reducible repeat' first | exact Le.refl _ | exact hW .. | apply C5 | apply C0 | apply Dp | apply C2 | apply Cp | apply Cq | apply Ds | apply Dt | apply Dq | apply Du | apply Dr | apply Ee | (rw [Co]; exact Le.refl _) | intro _
def Sf (W_:Value→R (Int×Bool))(v:Value):R (Int×Bool):=
 (if((decide (v.Kind<1))||(decide (v.Kind > 3))) then R.ok true else if(0:Int)≤v.Kind∧v.Kind<4 then
 R.ok (!(Yh (#v[false,((v.S==[])&&((v.L.length:Int)==0)),((v.N==0)&&((v.L.length:Int)==0)),((v.N==0)&&(v.S==[]))]:(Vector Bool 4)) (Int.toNat v.Kind) false)) else .bad).bind (fun(b:Bool)=>if b then
(.ok (0,false))
else
(if v.Kind<3 then
(.ok (0,true))
else
((each (fun _ a=>fun depth=>Ri W_ a depth) 0 v.L 0).bind (Jk (fun depth=>.ok ((IntKind.wrap .i64 (depth+1)),true)) (fun r=>.ok r)))))
theorem Zt {W' W_:Value→R (Int×Bool)}(hW : ∀ w0,Le (W' w0) (W_ w0))(v:Value):Le (Sf W' v) (Oc W_ v):=by
 unfold Sf Oc
 with_reducible repeat' first | exact Le.refl _ | exact hW .. | exact Yv (by assumption) .. | apply C5 | apply C0 | apply Dp | apply C2 | apply Cp | apply Cq | apply Ds | apply Dt | apply Dq | apply Du | apply Dr | apply Ee | (rw [Co]; exact Le.refl _) | intro _
def Rw:Nat→Value→R (Int×Bool)
 | 0,_=>.bad
 | n+1,v=>Sf (Rw n) v
theorem T5 : ∀ (n k:Nat) a0,Le (Rw n a0) (Ny (n+k) a0)
 | 0,k,a0=>.inl rfl
 | n+1,k,a0=>by
  rw [show n+1+k=(n+k)+1 by omega]
  exact Zt (fun a0=>T5 n k a0) a0
def Tk (v:Value):R (Int×Bool):=Rw 16 v
theorem Abj (v:Value):Le (Tk v) (Sd v):=by
 unfold Tk Sd
 rw [Acq]
 exact T5 16 (4000000 - 16) v
def U2 (v:Value):R Int:=
 (Tk v).bind fun r=>
 if r.2 then
(if r.1 > 16 then
(.ok 2)
else
(.ok 0))
else
(.ok 1)
theorem Ac5 (v:Value):Le (U2 v) (Q3 v):=by
 unfold U2 Q3
 with_reducible repeat' first | exact Le.refl _ | exact hW .. | exact Abj .. | apply C5 | apply C0 | apply Dp | apply C2 | apply Cp | apply Cq | apply Ds | apply Dt | apply Dq | apply Du | apply Dr | apply Ee | (rw [Co]; exact Le.refl _) | intro _
def K0 (u:Int)(l:List Int):R (List Int):=
 (Ub 64 (Dn fun u1 b=>La u1 b) (u,l)).bind (Dn fun u2 b1=>Lb u2 b1)
theorem M8 (u:Int)(l:List Int):Le (K0 u l) (Ia u l):=by
 unfold K0 Ia
 with_reducible repeat' first | exact Le.refl _ | exact hW .. | apply C5 | apply C0 | apply Dp | apply C2 | apply Cp | apply Cq | apply Ds | apply Dt | apply Dq | apply Du | apply Dr | apply Ee | (rw [Co]; exact Le.refl _) | intro _
def Jx (v1:Value)(l:List Int):R (List Int):=
 if(l.length+[1].length) * 1≤Ca then
 (Qe v1.N).bind fun r=>
 (K0 r (l++[1])).bind fun r1=>
 .ok r1 else .bad
theorem Mw (v1:Value)(l:List Int):Le (Jx v1 l) (Gl v1 l):=by
 unfold Jx Gl
 with_reducible repeat' first | exact Le.refl _ | exact hW .. | exact M8 .. | apply C5 | apply C0 | apply Dp | apply C2 | apply Cp | apply Cq | apply Ds | apply Dt | apply Dq | apply Du | apply Dr | apply Ee | (rw [Co]; exact Le.refl _) | intro _
def Jv (v1:Value)(l:List Int):R (List Int):=
 if(l.length+[2].length) * 1≤Ca then
 (K0 (IntKind.wrap .u64 (v1.S.length:Int)) (l++[2])).bind fun r=>
 if(r.length+(Ht v1.S).length) * 1≤Ca then
 .ok (r++(Ht v1.S)) else .bad else .bad
theorem Mp (v1:Value)(l:List Int):Le (Jv v1 l) (Gp v1 l):=by
 unfold Jv Gp
 with_reducible repeat' first | exact Le.refl _ | exact hW .. | exact M8 .. | apply C5 | apply C0 | apply Dp | apply C2 | apply Cp | apply Cq | apply Ds | apply Dt | apply Dq | apply Du | apply Dr | apply Ee | (rw [Co]; exact Le.refl _) | intro _
def Md (W_:Value→(List Int)→R (List Int))(a:Value)(b1:List Int):R (List Int):=
 if a.Kind=0 then
(.bad)
else
(if a.Kind=1 then
((Jx a b1).bind fun b2=>
 .ok b2)
else
(if a.Kind=2 then
((Jv a b1).bind fun b3=>
 .ok b3)
else
(if a.Kind=3 then
((W_ a b1).bind fun b4=>
 .ok b4)
else
(.bad))))
theorem Tr {W' W_:Value→(List Int)→R (List Int)}(hW : ∀ w0 w1,Le (W' w0 w1) (W_ w0 w1))(a:Value)(b1:List Int):Le (Md W' a b1) (Hh W_ a b1):=by
 unfold Md Hh
 with_reducible repeat' first | exact Le.refl _ | exact hW .. | exact Mw .. | exact Mp .. | apply C5 | apply C0 | apply Dp | apply C2 | apply Cp | apply Cq | apply Ds | apply Dt | apply Dq | apply Du | apply Dr | apply Ee | (rw [Co]; exact Le.refl _) | intro _
def Mq (W_:Value→(List Int)→R (List Int))(v1:Value)(l:List Int):R (List Int):=
 if(l.length+[3].length) * 1≤Ca then
 (K0 (IntKind.wrap .u64 (v1.L.length:Int)) (l++[3])).bind fun b=>
 (Gb (fun _ a=>fun b1=>Md W_ a b1) 0 v1.L b).bind ((fun b1=>.ok b1)) else .bad
theorem T8 {W' W_:Value→(List Int)→R (List Int)}(hW : ∀ w0 w1,Le (W' w0 w1) (W_ w0 w1))(v1:Value)(l:List Int):Le (Mq W' v1 l) (H0 W_ v1 l):=by
 unfold Mq H0
 with_reducible repeat' first | exact Le.refl _ | exact hW .. | exact Tr (by assumption) .. | exact M8 .. | apply C5 | apply C0 | apply Dp | apply C2 | apply Cp | apply Cq | apply Ds | apply Dt | apply Dq | apply Du | apply Dr | apply Ee | (rw [Co]; exact Le.refl _) | intro _
def Mr:Nat→Value→(List Int)→R (List Int)
 | 0,_,_=>.bad
 | n+1,v1,l=>Mq (Mr n) v1 l
theorem Pz : ∀ (n k:Nat) a0 a1,Le (Mr n a0 a1) (Hz (n+k) a0 a1)
 | 0,k,a0,a1=>.inl rfl
 | n+1,k,a0,a1=>by
  rw [show n+1+k=(n+k)+1 by omega]
  exact T8 (fun a0 a1=>Pz n k a0 a1) a0 a1
def Oh (v1:Value)(l:List Int):R (List Int):=Mr 16 v1 l
theorem Vl (v1:Value)(l:List Int):Le (Oh v1 l) (Km v1 l):=by
 unfold Oh Km
 rw [Acq]
 exact Pz 16 (4000000 - 16) v1 l
def Nm (a:Value)(b1:List Int):R (List Int):=
 if a.Kind=0 then
(.bad)
else
(if a.Kind=1 then
((Jx a b1).bind fun b2=>
 .ok b2)
else
(if a.Kind=2 then
((Jv a b1).bind fun b3=>
 .ok b3)
else
(if a.Kind=3 then
((Oh a b1).bind fun b4=>
 .ok b4)
else
(.bad))))
theorem U9 (a:Value)(b1:List Int):Le (Nm a b1) (Ie a b1):=by
 unfold Nm Ie
 with_reducible repeat' first | exact Le.refl _ | exact hW .. | exact Mw .. | exact Vl .. | exact Mp .. | apply C5 | apply C0 | apply Dp | apply C2 | apply Cp | apply Cq | apply Ds | apply Dt | apply Dq | apply Du | apply Dr | apply Ee | (rw [Co]; exact Le.refl _) | intro _
def Po (v1:Value):R (List Int):=
 if [3].length * 1≤Ca then
 (K0 (IntKind.wrap .u64 (v1.L.length:Int)) [3]).bind fun b=>
 (Gb (fun _ a=>fun b1=>Nm a b1) 0 v1.L b).bind ((fun b1=>.ok b1)) else .bad
theorem Wo (v1:Value):Le (Po v1) (Jr v1):=by
 unfold Po Jr
 with_reducible repeat' first | exact Le.refl _ | exact hW .. | exact U9 .. | exact M8 .. | apply C5 | apply C0 | apply Dp | apply C2 | apply Cp | apply Cq | apply Ds | apply Dt | apply Dq | apply Du | apply Dr | apply Ee | (rw [Co]; exact Le.refl _) | intro _
def Rd (v:Value):R ((List Int)×Int):=
 (U2 v).bind fun e=>
 if(e != 0) then
(.ok ([],e))
else
((Lq).bind fun _=>
 if v.Kind=0 then
(.bad)
else
(if v.Kind=1 then
((Jx v []).bind fun b=>
 .ok (b,0))
else
(if v.Kind=2 then
((Jv v []).bind fun b1=>
 .ok (b1,0))
else
(if v.Kind=3 then
((Po v).bind fun b2=>
 .ok (b2,0))
else
(.bad)))))
theorem Vz (v:Value):Le (Rd v) (N6 v):=by
 unfold Rd N6
 with_reducible repeat' first | exact Le.refl _ | exact hW .. | exact Mw .. | exact Ac5 .. | exact Mp .. | exact Wo .. | apply C5 | apply C0 | apply Dp | apply C2 | apply Cp | apply Cq | apply Ds | apply Dt | apply Dq | apply Du | apply Dr | apply Ee | (rw [Co]; exact Le.refl _) | intro _
def Na (m:Message)(l:List Value)(granted:Int):R ((List Int)×Int):=
 (Df m.Kind).bind fun r1=>
 (Df m.From).bind fun r2=>
 (Df m.To).bind fun r3=>
 (Df m.Term).bind fun r4=>
 (Df m.Last).bind fun r5=>
 (Df m.LastTerm).bind fun r6=>
 (Df m.Commit).bind fun r7=>
 (Df m.Match).bind fun r8=>
 (Df granted).bind fun r9=>
 (Rd ({ Kind:=3,N:=0,S:=[],L:=[r1,r2,r3,r4,r5,r6,({ Kind:=3,N:=0,S:=[],L:=l }:Value),r7,r8,r9] }:Value)).bind fun r10=>
 .ok (r10.1,r10.2)
theorem Xy (m:Message)(l:List Value)(granted:Int):Le (Na m l granted) (H2 m l granted):=by
 unfold Na H2
 with_reducible repeat' first | exact Le.refl _ | exact hW .. | exact Vz .. | apply C5 | apply C0 | apply Dp | apply C2 | apply Cp | apply Cq | apply Ds | apply Dt | apply Dq | apply Du | apply Dr | apply Ee | (rw [Co]; exact Le.refl _) | intro _
def R3 (m:Message):R ((List Int)×Int):=
 (Gb (fun _ a=>fun l=>Lp a l) 0 m.Log []).bind ((fun l=>if m.Granted then
(Na m l 1)
else
(Na m l 0)))
theorem Zw (m:Message):Le (R3 m) (Oa m):=by
 unfold R3 Oa
 with_reducible repeat' first | exact Le.refl _ | exact hW .. | exact Xy .. | apply C5 | apply C0 | apply Dp | apply C2 | apply Cp | apply Cq | apply Ds | apply Dt | apply Dq | apply Du | apply Dr | apply Ee | (rw [Co]; exact Le.refl _) | intro _
def Lu (s:T107):R (Int×T107):=
 (Ub 64 (J7 fun u i fRest=>Jd u i fRest) (0,0,s.fRest)).bind (fun r=>.ok r)
theorem Q4 (s:T107):Le (Lu s) (H7 s):=by
 unfold Lu H7
 with_reducible repeat' first | exact Le.refl _ | exact hW .. | apply C5 | apply C0 | apply Dp | apply C2 | apply Cp | apply Cq | apply Ds | apply Dt | apply Dq | apply Du | apply Dr | apply Ee | (rw [Co]; exact Le.refl _) | intro _
def Lx (s:T107):R (Int×T107):=
 (Lu s).bind fun n=>
 (E1 n.2 (decide (n.1≤(IntKind.wrap .u64 (n.2.fRest.length:Int))))).bind fun _=>
 .ok ((IntKind.wrap .i64 n.1),n.2)
theorem Wd (s:T107):Le (Lx s) (H6 s):=by
 unfold Lx H6
 with_reducible repeat' first | exact Le.refl _ | exact hW .. | exact Q4 .. | apply C5 | apply C0 | apply Dp | apply C2 | apply Cp | apply Cq | apply Ds | apply Dt | apply Dq | apply Du | apply Dr | apply Ee | (rw [Co]; exact Le.refl _) | intro _
def No (depth:Int)(W_:Int→T107→R (Value×T107))(r6:(Int×T107))(x:Int)(o:T107)(l:List Value):R ((Int×T107×(List Value)) ⊕ (T107×(List Value))):=
 if x<r6.1 then
((W_ (IntKind.wrap .i64 (depth+1)) o).bind fun r7=>
 if(l.length+[r7.1].length) * 56≤Ca then
 .ok (.inl ((IntKind.wrap .i64 (x+1)),r7.2,(l++[r7.1]))) else .bad)
else
(.ok (.inr ((o,l))))
theorem U0 {W' W_:Int→T107→R (Value×T107)}(hW : ∀ w0 w1,Le (W' w0 w1) (W_ w0 w1))(depth:Int)(r6:(Int×T107))(x:Int)(o:T107)(l:List Value):Le (No depth W' r6 x o l) (If depth W_ r6 x o l):=by
 unfold No If
 with_reducible repeat' first | exact Le.refl _ | exact hW .. | apply C5 | apply C0 | apply Dp | apply C2 | apply Cp | apply Cq | apply Ds | apply Dt | apply Dq | apply Du | apply Dr | apply Ee | (rw [Co]; exact Le.refl _) | intro _
def Oe (W_:Int→T107→R (Value×T107))(depth:Int)(s:T107):R (Value×T107):=
 (H3 1 s).bind fun _=>
 (Cs (s.fRest.take 1) 0).bind fun a=>
 if((IntKind.wrap .i64 a)==1) then
((Lu ({ fRest:=(s.fRest.drop 1) }:T107)).bind fun r1=>
 (R4 r1.1).bind fun r2=>
 .ok (({ Kind:=(IntKind.wrap .i64 a),N:=r2,S:=[],L:=[] }:Value),r1.2))
else
(if((IntKind.wrap .i64 a)==2) then
((Lx ({ fRest:=(s.fRest.drop 1) }:T107)).bind fun r3=>
 (H3 r3.1 r3.2).bind fun _=>
 .ok (({ Kind:=(IntKind.wrap .i64 a),N:=0,S:=(Cy (r3.2.fRest.take (Int.toNat r3.1))),L:=[] }:Value),({ fRest:=(r3.2.fRest.drop (Int.toNat r3.1)) }:T107)))
else
(if((IntKind.wrap .i64 a)==3) then
((E1 ({ fRest:=(s.fRest.drop 1) }:T107) (decide (depth<16))).bind fun _=>
 (Lx ({ fRest:=(s.fRest.drop 1) }:T107)).bind fun r6=>
 (Ub 64 (J7 fun x o l=>No depth W_ r6 x o l) (0,r6.2,[])).bind (Dn fun o1 l1=>Js a o1 l1))
else
((E1 ({ fRest:=(s.fRest.drop 1) }:T107) false).bind fun _=>
 .ok (({ Kind:=(IntKind.wrap .i64 a),N:=0,S:=[],L:=[] }:Value),({ fRest:=(s.fRest.drop 1) }:T107)))))
theorem Vq {W' W_:Int→T107→R (Value×T107)}(hW : ∀ w0 w1,Le (W' w0 w1) (W_ w0 w1))(depth:Int)(s:T107):Le (Oe W' depth s) (In W_ depth s):=by
 unfold Oe In
 with_reducible repeat' first | exact Le.refl _ | exact hW .. | exact Wd .. | exact U0 (by assumption) .. | exact Q4 .. | apply C5 | apply C0 | apply Dp | apply C2 | apply Cp | apply Cq | apply Ds | apply Dt | apply Dq | apply Du | apply Dr | apply Ee | (rw [Co]; exact Le.refl _) | intro _
def N5:Nat→Int→T107→R (Value×T107)
 | 0,_,_=>.bad
 | n+1,depth,s=>Oe (N5 n) depth s
theorem Qq : ∀ (n k:Nat) a0 a1,Le (N5 n a0 a1) (Iq (n+k) a0 a1)
 | 0,k,a0,a1=>.inl rfl
 | n+1,k,a0,a1=>by
  rw [show n+1+k=(n+k)+1 by omega]
  exact Vq (fun a0 a1=>Qq n k a0 a1) a0 a1
def Pp (depth:Int)(s:T107):R (Value×T107):=N5 16 depth s
theorem Wz (depth:Int)(s:T107):Le (Pp depth s) (K6 depth s):=by
 unfold Pp K6
 rw [Acq]
 exact Qq 16 (4000000 - 16) depth s
def R2 (b:List Int):R (Value×Int):=
 (Pp 0 ({ fRest:=b }:T107)).bind fun r=>
 (E1 r.2 ((r.2.fRest.length:Int)==0)).bind fun _=>
 .ok (r.1,0)
theorem Zx (b:List Int):Le (R2 b) (Nz b):=by
 unfold R2 Nz
 with_reducible repeat' first | exact Le.refl _ | exact hW .. | exact Wz .. | apply C5 | apply C0 | apply Dp | apply C2 | apply Cp | apply Cq | apply Ds | apply Dt | apply Dq | apply Du | apply Dr | apply Ee | (rw [Co]; exact Le.refl _) | intro _
def T0 (b:List Int):R (Value×Int):=
 (R2 b).catch' (Mg 28 .i64 (fun n=>(Fy n).bind fun p=>.ok (({ Kind:=0,N:=0,S:=[],L:=[] }:Value),p)) (fun _=>.bad))
theorem Aca (b:List Int):Le (T0 b) (Sb b):=by
 unfold T0 Sb
 with_reducible repeat' first | exact Le.refl _ | exact hW .. | exact Zx .. | apply C5 | apply C0 | apply Dp | apply C2 | apply Cp | apply Cq | apply Ds | apply Dt | apply Dq | apply Du | apply Dr | apply Ee | (rw [Co]; exact Le.refl _) | intro _
def Qt (b:List Int):R (Message×Int):=
 (T0 b).bind fun r=>
 if(r.2 != 0) then
(.ok (({ Kind:=0,From:=0,To:=0,Term:=0,Last:=0,LastTerm:=0,Log:=[],Commit:=0,Match:=0,Granted:=false }:Message),r.2))
else
((if((r.1.Kind==3)&&((r.1.L.length:Int)==10)) then(Cs r.1.L 6).bind fun a=>
 R.ok (a.Kind==3) else R.ok false).bind (fun(b1:Bool)=>(Bl b1 470).bind fun _=>
 (Bu 0 r.1).bind fun r2=>
 (Bu 1 r.1).bind fun r3=>
 (Bu 2 r.1).bind fun r4=>
 (Bu 3 r.1).bind fun r5=>
 (Bu 4 r.1).bind fun r6=>
 (Bu 5 r.1).bind fun r7=>
 (Bu 7 r.1).bind fun r8=>
 (Bu 8 r.1).bind fun r9=>
 (Bu 9 r.1).bind fun r10=>
 (Bu 9 r.1).bind fun r11=>
 (Bv r11 0 1).bind fun r12=>
 (Bl r12 470).bind fun _=>
 (Cs r.1.L 6).bind fun a1=>
 (Gb (fun _ a2=>fun l=>Ks a2 l) 0 a1.L []).bind ((fun l=>.ok (({ Kind:=r2,From:=r3,To:=r4,Term:=r5,Last:=r6,LastTerm:=r7,Log:=l,Commit:=r8,Match:=r9,Granted:=(r10==1) }:Message),0)))))
theorem Ya (b:List Int):Le (Qt b) (Mj b):=by
 unfold Qt Mj
 with_reducible repeat' first | exact Le.refl _ | exact hW .. | exact Aca .. | apply C5 | apply C0 | apply Dp | apply C2 | apply Cp | apply Cq | apply Ds | apply Dt | apply Dq | apply Du | apply Dr | apply Ee | (rw [Co]; exact Le.refl _) | intro _
def Pw (b:List Int):R (Message×Int):=
 (Qt b).catch' (Iw 105 .i64 (fun n=>(E4 n).bind fun p=>.ok (({ Kind:=0,From:=0,To:=0,Term:=0,Last:=0,LastTerm:=0,Log:=[],Commit:=0,Match:=0,Granted:=false }:Message),p)) (fun _=>.bad))
theorem Z2 (b:List Int):Le (Pw b) (N7 b):=by
 unfold Pw N7
 with_reducible repeat' first | exact Le.refl _ | exact hW .. | exact Ya .. | apply C5 | apply C0 | apply Dp | apply C2 | apply Cp | apply Cq | apply Ds | apply Dt | apply Dq | apply Du | apply Dr | apply Ee | (rw [Co]; exact Le.refl _) | intro _
def Aaf:R Bool:=
 (Jg 0 3).bind fun r=>
 (Jg 0 6).bind fun r1=>
 (Pa r.1 []).bind fun r2=>
 (O2 r.1 ({ Kind:=0,From:=0,To:=0,Term:=0,Last:=0,LastTerm:=0,Log:=[],Commit:=0,Match:=0,Granted:=false }:Message)).bind fun r3=>
 (Jg 0 1).bind fun r4=>
 (O5 r4.1).bind fun r5=>
 (Pa r5.1 [97]).bind fun r6=>
 (O5 r.1).bind fun r7=>
 (O2 r7.1 ({ Kind:=2,From:=2,To:=0,Term:=1,Last:=0,LastTerm:=0,Log:=[],Commit:=0,Match:=0,Granted:=true }:Message)).bind fun r8=>
 (R3 ({ Kind:=3,From:=0,To:=0,Term:=0,Last:=0,LastTerm:=0,Log:=[({ Term:=3,Data:=[120] }:Record)],Commit:=1,Match:=0,Granted:=true }:Message)).bind fun r9=>
 (Pw r9.1).bind fun r10=>
 (Rd ({ Kind:=1,N:=0,S:=[],L:=[] }:Value)).bind fun r11=>
 (Pw r11.1).bind fun r12=>
 (if(((((((((((((r.2 != 0)||(r1.2 != 470))||(r2.2.2 != 470))||(r3.2.2 != 470))||(r4.2 != 0))||(r5.2.2 != 0))||(r6.2.2 != 0))||(r7.2.2 != 0))||(r8.2.2 != 0))||(r9.2 != 0))||(r10.2 != 0))||(r11.2 != 0))||(r12.2 != 470)) then R.ok true else(D6 ({ ID:=0,Many:=0,Term:=0,Vote:=0,Log:=[],Role:=0,Commit:=0,Votes:=[],Match:=[] }:Replica)).bind fun r13=>
 R.ok (r13 != 470)).bind (fun(b:Bool)=>(if b then R.ok true else(D6 r.1).bind fun r14=>
 R.ok (r14 != 0)).bind (fun(b1:Bool)=>if b1 then
(.ok false)
else
((C9 r6.1).bind fun r15=>
 (if(((r5.2.1.length:Int)==0)&&((r15.length:Int)==1)) then(Cs r15 0).bind fun a=>
 R.ok ((Cy a)==[97]) else R.ok false).bind (fun(b2:Bool)=>(if b2 then(Gs r6.1).bind fun r16=>
 (C9 r16).bind fun r17=>
 R.ok ((r17.length:Int)==0) else R.ok false).bind (fun(b3:Bool)=>(if(b3&&((r7.2.1.length:Int)==2)) then(Cs r7.2.1 0).bind fun a1=>
 R.ok (a1.Kind==1) else R.ok false).bind (fun(b4:Bool)=>(if((b4&&(r8.1.Role==2))&&((r8.2.1.length:Int)==2)) then(Cs r8.2.1 1).bind fun a2=>
 R.ok (a2.Kind==3) else R.ok false).bind (fun(b5:Bool)=>(if((b5&&r10.1.Granted)&&((r10.1.Log.length:Int)==1)) then(Cs r10.1.Log 0).bind fun a3=>
 R.ok ((Cy a3.Data)==[120]) else R.ok false).bind (fun(b6:Bool)=>.ok b6))))))))
theorem Ad6:Le (Aaf ) (Ql ):=by
 unfold Aaf Ql
 with_reducible repeat' first | exact Le.refl _ | exact hW .. | exact Vz .. | exact Z2 .. | exact Ym .. | exact Y2 .. | exact Y7 .. | exact Zw .. | apply C5 | apply C0 | apply Dp | apply C2 | apply Cp | apply Cq | apply Ds | apply Dt | apply Dq | apply Du | apply Dr | apply Ee | (rw [Co]; exact Le.refl _) | intro _
end Go.Am
namespace Go.Am
open Go
theorem Ad8:Ql=.ok true:=Apq Ad6 (by kernel_rfl)
end Go.Am
namespace Go.Am
open Go
set_option linter.unusedVariables false
set_option linter.unusedSimpArgs false
namespace Rp
end Rp
end Go.Am
namespace Go.Am
open Go
set_option linter.unusedVariables false
set_option linter.unusedSimpArgs false
namespace Rp
structure Sys where
 rs:List Replica
 sent:List Message
def Sys.put (s:Sys)(k:Nat)(x:Replica)(l:List Message):Sys:=⟨s.rs.set k x,s.sent++l⟩
inductive Next (s:Sys):Sys→Prop
 | time (k:Nat) (r:Replica) (h:s.rs[k]? = some r) (ht:r.Term≠1048576):Next s (s.put k (Da r).1 (Da r).2)
 | prop (k:Nat) (r:Replica) (d:List Int) (h:s.rs[k]? = some r) (hr:r.Role=2) (hl:r.Log.length<4096) (hd : ∀ b ∈ d,0≤b∧b<256):Next s (s.put k (F1 r d).1 (F1 r d).2)
 | rest (k:Nat) (r:Replica) (h:s.rs[k]? = some r):Next s (s.put k (Aeg r) [])
 | recv (k:Nat) (r:Replica) (m:Message) (x:Replica) (l:List Message) (h:s.rs[k]? = some r) (hm:m ∈ s.sent) (hk:m.To=k) (ho:Kb r m=some (x,l)):Next s (s.put k x l)
end Rp
end Go.Am
namespace Go.Am
open Go
set_option linter.unusedVariables false
set_option linter.unusedSimpArgs false
namespace Rp
theorem Agr {l:List Int}(h:1≤l.length):l.length<2 * l.countP (fun a=>decide (Ev l≤a)):=by
 have hp:(Hb l).Perm l:=List.mergeSort_perm l _
 have hs:(Hb l).Pairwise (· ≤ ·):=by rw [Co]; exact T1 l
 have hlen:(Hb l).length=l.length:=Qb l
 have hi:(l.length - 1) / 2<(Hb l).length:=by rw [hlen]; omega
 have hm:Ev l=(Hb l)[(l.length - 1) / 2]:=by
  unfold Ev
  simp only [List.getD,List.getElem?_eq_getElem hi,Option.getD_some]
 rw [← hp.countP_eq]
 have e:Hb l=(Hb l).take ((l.length - 1) / 2)++(Hb l).drop ((l.length - 1) / 2):=(List.take_append_drop _ _).symm
 have hall : ∀ a ∈ (Hb l).drop ((l.length - 1) / 2),decide (Ev l≤a)=true:=by
  intro a ha
  rw [decide_eq_true_eq,hm]
  obtain⟨j,hj⟩:=List.getElem?_of_mem ha
  rw [List.getElem?_drop] at hj
  have hjl:(l.length - 1) / 2+j<(Hb l).length:=by
   rcases Nat.lt_or_ge ((l.length - 1) / 2+j) (Hb l).length with hh | hh
   ·exact hh
   ·rw [List.getElem?_eq_none hh] at hj; cases hj
  rw [List.getElem?_eq_getElem hjl] at hj
  cases hj
  rcases Nat.eq_zero_or_pos j with rfl | hj0
  ·exact Int.le_refl _
  ·exact List.pairwise_iff_getElem.1 hs _ _ hi hjl (by omega)
 have hc:((Hb l).drop ((l.length - 1) / 2)).countP (fun a=>decide (Ev l≤a))=l.length - (l.length - 1) / 2:=by
  rw [List.countP_eq_length.2 hall,List.length_drop,hlen]
 have:(Hb l).countP (fun a=>decide (Ev l≤a))=((Hb l).take ((l.length - 1) / 2)).countP (fun a=>decide (Ev l≤a))+((Hb l).drop ((l.length - 1) / 2)).countP (fun a=>decide (Ev l≤a)):=by
  rw [← List.countP_append,← e]
 rw [this,hc]
 omega
theorem Aop {n:Nat}{p q:Nat→Bool}(hp:n<2 * (List.range n).countP p)(hq:n<2 * (List.range n).countP q) : ∃ i,i<n∧p i=true∧q i=true:=by
 refine Classical.byContradiction fun hn=>?_
 have hd : ∀ i ∈ List.range n,¬ (p i=true∧q i=true):=fun i hi hpq=>hn ⟨i,by simpa using hi,hpq.1,hpq.2⟩
 have key : ∀ l:List Nat,(∀ i ∈ l,¬ (p i=true∧q i=true))→l.countP p+l.countP q≤l.length:=by
  intro l
  induction l with
  | nil=>intro _; simp
  | cons a l ih=>
   intro h
   have h1:=ih fun i hi=>h i (List.mem_cons_of_mem _ hi)
   have h2:=h a (List.mem_cons_self ..)
   rw [List.countP_cons,List.countP_cons,List.length_cons]
   cases hpa:p a <;> cases hqa:q a <;> simp [hpa,hqa] at h2 ⊢ <;> omega
 have:=key (List.range n) hd
 rw [List.length_range] at this
 omega
end Rp
end Go.Am
namespace Go.Am
open Go
set_option linter.unusedVariables false
set_option linter.unusedSimpArgs false
namespace Rp
structure Abs where
 T:Nat→Int
 L:Nat→List Record
 V:Int→Nat→Option Nat
 vl:Int→Nat→List Record
 led:Int→Option Nat
 S:Int→Nat→Bool
 LL:Int→List Record
 A:Int→Nat→Nat
structure LM (a:Abs)(X:List Record):Prop where
 srt:X.Pairwise (fun x y=>x.Term≤y.Term)
 pos : ∀ e ∈ X,1≤e.Term
 at' : ∀ (i:Nat) e,X[i]? = some e→(∃ c,a.led e.Term=some c)∧X.take (i+1) <+: a.LL e.Term
def G4 (X Y:List Record):Prop:=E7 Y<E7 X∨E7 Y=E7 X∧Y.length≤X.length
def We (a:Abs)(t hi:Int)(P:List Record):Prop := ∃ u c,t<u∧u≤hi∧a.led u=some c∧¬ P <+: a.vl u c
structure Inv (N:Nat)(a:Abs):Prop where
 lm : ∀ f,LM a (a.L f)
 lmv : ∀ t f c,a.V t f=some c→LM a (a.vl t f)
 lml : ∀ t c,a.led t=some c→LM a (a.LL t)
 lt : ∀ f,∀ e ∈ a.L f,e.Term≤a.T f
 vt : ∀ t f c,a.V t f=some c→t≤a.T f
 vc : ∀ t f c,a.V t f=some c→a.V t c=some c∧G4 (a.vl t c) (a.vl t f)
 vb : ∀ t c,a.V t c=some c → ∀ e ∈ a.vl t c,e.Term<t
 ls : ∀ t c,a.led t=some c→a.V t c=some c∧N<2 * (List.range N).countP (a.S t) ∧ ∀ f,a.S t f=true→a.V t f=some c
 lb : ∀ t c,a.led t=some c → ∃ M,a.LL t=a.vl t c++M ∧ ∀ e ∈ M,e.Term=t
 sv : ∀ t f,a.S t f=true → ∃ c,a.led t=some c
 ac : ∀ t f,1≤a.A t f→(∃ c,a.led t=some c)∧t≤a.T f∧a.A t f≤(a.LL t).length
 x : ∀ t f n,1≤n→n≤a.A t f→(a.LL t).take n <+: a.L f∨We a t (a.T f) ((a.LL t).take n)
 w : ∀ t t' f n,1≤n→n≤a.A t f→t<t'→((∃ c,a.V t' f=some c)∧a.led t'=none∨a.S t' f=true)→(a.LL t).take n <+: a.vl t' f∨We a t (t' - 1) ((a.LL t).take n)
structure Com (N:Nat)(a:Abs)(t:Int)(n:Nat):Prop where
 one:1≤n
 at' : ∃ e,(a.LL t)[n - 1]? = some e∧e.Term=t
 most:N<2 * (List.range N).countP fun f=>decide (n≤a.A t f)
theorem Ag3 {X Y Z:List Record}(h1:X <+: Z)(h2:Y <+: Z):X <+: Y∨Y <+: X:=List.prefix_or_prefix_of_prefix h1 h2
theorem Acx {X Y Z:List Record}(h1:X <+: Z)(h2:Y <+: Z)(h:X.length≤Y.length):X <+: Y:=List.prefix_of_prefix_length_le h1 h2 h
theorem Al0 {X:List Record}{e:Record}(h:X.getLast? = some e):E7 X=e.Term:=by unfold E7; rw [h]
theorem Om {X:List Record}(h:1≤X.length) : ∃ e,X[X.length - 1]? = some e∧E7 X=e.Term:=by
 have h1:X.length - 1<X.length:=by omega
 refine⟨X[X.length - 1],List.getElem?_eq_getElem h1,Al0 ?_⟩
 rw [List.getLast?_eq_getElem?,List.getElem?_eq_getElem h1]
theorem Ag4 {X:List Record}(hs:X.Pairwise (fun x y=>x.Term≤y.Term)){i:Nat}{e:Record}(h:X[i]? = some e):e.Term≤E7 X:=by
 have hi:i<X.length:=by
  rcases Nat.lt_or_ge i X.length with hh | hh
  ·exact hh
  ·rw [List.getElem?_eq_none hh] at h; cases h
 obtain⟨g,hg,he⟩:=Om (X:=X) (by omega)
 rw [he]
 have h1:X.length - 1<X.length:=by omega
 rw [List.getElem?_eq_getElem h1] at hg
 rw [List.getElem?_eq_getElem hi] at h
 cases hg; cases h
 rcases Nat.lt_or_ge i (X.length - 1) with hh | hh
 ·exact List.pairwise_iff_getElem.1 hs i (X.length - 1) hi h1 hh
 ·have:i=X.length - 1:=by omega
  subst this
  exact Int.le_refl _
theorem Zo {X Y:List Record}(h:X <+: Y){i:Nat}{e:Record}(hx:X[i]? = some e):Y[i]? = some e:=by
 obtain⟨Z,rfl⟩:=h
 have hi:i<X.length:=by
  rcases Nat.lt_or_ge i X.length with hh | hh
  ·exact hh
  ·rw [List.getElem?_eq_none hh] at hx; cases hx
 rw [List.getElem?_append_left hi,hx]
theorem Aep {N:Nat}{a:Abs}(h:Inv N a){t:Int}{n:Nat}(hc:Com N a t n) : ∀ (k:Nat) (t':Int),t'≤t+k→t<t' → ∀ c',a.led t'=some c'→(a.LL t).take n <+: a.vl t' c'
 | 0,t',h1,h2,c',h3=>by omega
 | k+1,t',h1,h2,c',h3=>by
  have ih:=Aep h hc k
  obtain⟨v1,v2,v3⟩:=h.ls t' c' h3
  obtain⟨f,hf,hp,hq⟩:=Aop hc.most v2
  have hn:n≤a.A t f:=by simpa using hp
  have no:¬ We a t (t' - 1) ((a.LL t).take n):=by
   rintro⟨u,c,q1,q2,q3,q4⟩
   exact q4 (ih u (by omega) q1 c q3)
  have hw:=(h.w t t' f n hc.one hn h2 (.inr hq)).resolve_right no
  obtain⟨⟨cl,hcl⟩,ha2,ha3⟩:=h.ac t f (by have:=hc.one; omega)
  obtain⟨e,he1,he2⟩:=hc.at'
  have hPl:((a.LL t).take n).length=n:=by rw [List.length_take]; omega
  have hone:=hc.one
  have heP:((a.LL t).take n)[n - 1]? = some e:=by rw [List.getElem?_take,if_pos (by omega),he1]
  have het:1≤t:=by rw [← he2]; exact(h.lml t cl hcl).pos e (List.mem_of_getElem? he1)
  have hvf:=v3 f hq
  obtain⟨_,hbet⟩:=h.vc t' f c' hvf
  have hlf:t≤E7 (a.vl t' f):=by
   rw [← he2]
   exact Ag4 (h.lmv t' f c' hvf).srt (Zo hw heP)
  have hlen:n≤(a.vl t' f).length:=by rw [← hPl]; exact hw.length_le
  have hlc:t≤E7 (a.vl t' c'):=by rcases hbet with q | q <;> omega
  have hnz:1≤(a.vl t' c').length:=by
   rcases Nat.eq_zero_or_pos (a.vl t' c').length with q | q
   ·rw [List.length_eq_zero_iff.1 q] at hlc
    have:E7 []=0:=rfl
    omega
   ·omega
  obtain⟨g,hg1,hg2⟩:=Om hnz
  have hmc:=h.lmv t' c' c' v1
  obtain⟨⟨cu,hcu⟩,hpre⟩:=hmc.at' _ g hg1
  rw [show(a.vl t' c').length - 1+1=(a.vl t' c').length by omega,List.take_length] at hpre
  have hgt:g.Term<t':=h.vb t' c' v1 g (List.mem_of_getElem? hg1)
  rcases Int.lt_or_eq_of_le hlc with hlt | heq
  ·have hup:(a.LL t).take n <+: a.vl g.Term cu:=ih g.Term (by omega) (by omega) cu hcu
   obtain⟨M,hM,_⟩:=h.lb g.Term cu hcu
   have hup2:a.vl g.Term cu <+: a.LL g.Term:=⟨M,hM.symm⟩
   refine Acx (hup.trans hup2) hpre ?_
   rcases Nat.lt_or_ge (a.vl t' c').length (a.vl g.Term cu).length with hh | hh
   ·exfalso
    have hgL:=Zo hpre hg1
    have:(a.vl g.Term cu)[(a.vl t' c').length - 1]? = some g:=by
     rw [hM,List.getElem?_append_left (by omega)] at hgL
     exact hgL
    have:=h.vb g.Term cu (h.ls g.Term cu hcu).1 g (List.mem_of_getElem? this)
    omega
   ·have:=hup.length_le; omega
  ·have hgt:g.Term=t:=by omega
   rw [hgt] at hpre
   refine Acx (List.take_prefix _ _) hpre ?_
   rw [hPl]
   rcases hbet with q | q
   ·omega
   ·omega
theorem Anx {N:Nat}{a:Abs}(h:Inv N a){t t':Int}{n:Nat}{c':Nat}(hc:Com N a t n)(ht:t<t')(hl:a.led t'=some c'):(a.LL t).take n <+: a.vl t' c':=
 Aep h hc (t' - t).toNat t' (by omega) ht c' hl
theorem Ak6 {N:Nat}{a:Abs}(h:Inv N a){t:Int}{c:Nat}(hl:a.led t=some c):a.vl t c <+: a.LL t:=by
 obtain⟨M,hM,_⟩:=h.lb t c hl
 exact⟨M,hM.symm⟩
theorem Anp {N:Nat}{a:Abs}(h:Inv N a)(hN:1≤N){t:Int}{n:Nat}(hc:Com N a t n) : ∃ c,a.led t=some c:=by
 have h1:=hc.most
 have : ∃ f ∈ List.range N,decide (n≤a.A t f)=true:=by
  refine Classical.byContradiction fun hn=>?_
  have:(List.range N).countP (fun f=>decide (n≤a.A t f))=0:=List.countP_eq_zero.2 fun f hf hq=>hn ⟨f,hf,hq⟩
  omega
 obtain⟨f,_,hf⟩:=this
 have:n≤a.A t f:=by simpa using hf
 exact(h.ac t f (by have:=hc.one; omega)).1
def CP (N:Nat)(a:Abs)(hi:Int)(X:List Record):Prop:=X=[] ∨ ∃ t n,Com N a t n∧t≤hi∧X=(a.LL t).take n
end Rp
end Go.Am
namespace Go.Am
open Go
set_option linter.unusedVariables false
set_option linter.unusedSimpArgs false
namespace Rp
structure Grow (a b:Abs):Prop where
 T : ∀ f,a.T f≤b.T f
 V : ∀ t f c,a.V t f=some c→b.V t f=some c∧b.vl t f=a.vl t f
 led : ∀ t c,a.led t=some c→b.led t=some c∧a.LL t <+: b.LL t
 A : ∀ t f,a.A t f≤b.A t f
theorem Grow.refl (a:Abs):Grow a a:=⟨fun _=>Int.le_refl _,fun _ _ _ h=>⟨h,rfl⟩,fun _ _ h=>⟨h,List.prefix_refl _⟩,fun _ _=>Nat.le_refl _⟩
theorem Grow.trans {a b c:Abs}(h1:Grow a b)(h2:Grow b c):Grow a c:=
 ⟨fun f=>Int.le_trans (h1.T f) (h2.T f),fun t f x h=>by
  obtain⟨q1,q2⟩:=h1.V t f x h
  obtain⟨q3,q4⟩:=h2.V t f x q1
  exact⟨q3,by rw [q4,q2]⟩,fun t x h=>by
  obtain⟨q1,q2⟩:=h1.led t x h
  obtain⟨q3,q4⟩:=h2.led t x q1
  exact⟨q3,q2.trans q4⟩,fun t f=>Nat.le_trans (h1.A t f) (h2.A t f)⟩
structure Frame (k:Nat)(a b:Abs):Prop where
 T : ∀ f,f≠k→b.T f=a.T f
 L : ∀ f,f≠k→b.L f=a.L f
 V : ∀ t f,f≠k→b.V t f=a.V t f
 led : ∀ t,b.led t=a.led t∨b.led t=some k
 LL : ∀ t c,a.led t=some c→c≠k→b.LL t=a.LL t
theorem Frame.refl (k:Nat)(a:Abs):Frame k a a:=⟨fun _ _=>rfl,fun _ _=>rfl,fun _ _ _=>rfl,fun _=>.inl rfl,fun _ _ _ _=>rfl⟩
theorem Frame.trans {k:Nat}{a b c:Abs}(hg:Grow a b)(h1:Frame k a b)(h2:Frame k b c):Frame k a c:=
  ⟨fun f hf=>by rw [h2.T f hf,h1.T f hf],fun f hf=>by rw [h2.L f hf,h1.L f hf],fun t f hf=>by rw [h2.V t f hf,h1.V t f hf],
   fun t=>by
    rcases h2.led t with q | q
    · rw [q]; exact h1.led t
    · exact .inr q,fun t x hx hk=>by rw [h2.LL t x (hg.led t x hx).1 hk,h1.LL t x hx hk]⟩
theorem LM.grow {a b:Abs}{X:List Record}(h:LM a X)(hg : ∀ t c,a.led t=some c→b.led t=some c∧a.LL t <+: b.LL t):LM b X:=
 ⟨h.srt,h.pos,fun i e he=>by
  obtain⟨⟨c,hc⟩,hp⟩:=h.at' i e he
  obtain⟨q1,q2⟩:=hg _ _ hc
  exact⟨⟨c,q1⟩,hp.trans q2⟩⟩
theorem LM.pre {a:Abs}{X Y:List Record}(h:LM a Y)(hp:X <+: Y):LM a X:=by
 obtain⟨Z,rfl⟩:=hp
 refine⟨(List.pairwise_append.1 h.srt).1,fun e he=>h.pos e (List.mem_append_left _ he),fun i e he=>?_⟩
 have hi:i<X.length:=by
  rcases Nat.lt_or_ge i X.length with hh | hh
  ·exact hh
  ·rw [List.getElem?_eq_none hh] at he; cases he
 obtain⟨q1,q2⟩:=h.at' i e (by rw [List.getElem?_append_left hi,he])
 refine⟨q1,?_⟩
 rw [List.take_append_of_le_length (by omega)] at q2
 exact q2
theorem Adr {X Y:List Record}{n:Nat}(h:X <+: Y)(hn:n≤X.length):Y.take n=X.take n:=by
 obtain⟨Z,rfl⟩:=h
 exact List.take_append_of_le_length hn
theorem Com.grow {N:Nat}{a b:Abs}(h:Inv N a)(hN:1≤N)(hg:Grow a b){t:Int}{n:Nat}(hc:Com N a t n):Com N b t n∧(b.LL t).take n=(a.LL t).take n:=by
 obtain⟨c,hl⟩:=Anp h hN hc
 obtain⟨e,he1,he2⟩:=hc.at'
 have hp:=(hg.led t c hl).2
 have hlen:n - 1<(a.LL t).length:=by
  rcases Nat.lt_or_ge (n - 1) (a.LL t).length with hh | hh
  ·exact hh
  ·rw [List.getElem?_eq_none hh] at he1; cases he1
 refine⟨⟨hc.one,⟨e,Zo hp he1,he2⟩,?_⟩,Adr hp (by have:=hc.one; omega)⟩
 have:(List.range N).countP (fun f=>decide (n≤a.A t f))≤(List.range N).countP (fun f=>decide (n≤b.A t f)):=
  List.countP_mono_left fun f _ hf=>by
   have:=hg.A t f
   have:n≤a.A t f:=by simpa using hf
   simp; omega
 have:=hc.most
 omega
theorem CP.grow {N:Nat}{a b:Abs}(h:Inv N a)(hN:1≤N)(hg:Grow a b){hi hi':Int}(hle:hi≤hi'){X:List Record}(hx:CP N a hi X):CP N b hi' X:=by
 rcases hx with rfl | ⟨t,n,c1,t1,rfl⟩
 ·exact .inl rfl
 ·obtain⟨q1,q2⟩:=c1.grow h hN hg
  exact .inr ⟨t,n,q1,by omega,q2.symm⟩
def Ws (a:Abs)(k:Nat)(t:Int):Abs:={ a with T:=fun f=>if f=k then t else a.T f }
theorem Ajr {a:Abs}{k:Nat}{t:Int}(h:a.T k≤t)(f:Nat):a.T f≤(Ws a k t).T f:=by
 show a.T f≤if f=k then t else a.T f
 split
 ·subst f; exact h
 ·exact Int.le_refl _
theorem Xh {a:Abs}{k:Nat}{t:Int}(h:a.T k≤t):Grow a (Ws a k t):=⟨Ajr h,fun _ _ _ q=>⟨q,rfl⟩,fun _ _ q=>⟨q,List.prefix_refl _⟩,fun _ _=>Nat.le_refl _⟩
theorem Adj (a:Abs)(k:Nat)(t:Int):Frame k a (Ws a k t):=⟨fun f hf=>if_neg hf,fun _ _=>rfl,fun _ _ _=>rfl,fun _=>.inl rfl,fun _ _ _ _=>rfl⟩
theorem Ahh {N:Nat}{a:Abs}{k:Nat}{t:Int}(h:Inv N a)(ht:a.T k≤t):Inv N (Ws a k t):=by
 have hle:=Ajr ht
 refine⟨fun f=>⟨(h.lm f).srt,(h.lm f).pos,(h.lm f).at'⟩,fun t f c q=>⟨(h.lmv t f c q).srt,(h.lmv t f c q).pos,(h.lmv t f c q).at'⟩,fun t c q=>⟨(h.lml t c q).srt,(h.lml t c q).pos,(h.lml t c q).at'⟩,
  fun f e he=>Int.le_trans (h.lt f e he) (hle f),fun t f c q=>Int.le_trans (h.vt t f c q) (hle f),h.vc,h.vb,h.ls,h.lb,h.sv,fun t f q=>?_,fun t f n h1 h2=>?_,h.w⟩
 ·obtain⟨q1,q2,q3⟩:=h.ac t f q
  exact⟨q1,Int.le_trans q2 (hle f),q3⟩
 ·rcases h.x t f n h1 h2 with q | ⟨u,c,q1,q2,q3,q4⟩
  ·exact .inl q
  ·exact .inr ⟨u,c,q1,Int.le_trans q2 (hle f),q3,q4⟩
def Qp (a:Abs)(k:Nat)(t:Int)(c:Nat):Abs:={ a with V:=fun t' f=>if t'=t∧f=k then some c else a.V t' f,vl:=fun t' f=>if t'=t∧f=k then a.L k else a.vl t' f }
theorem Ag8 {a:Abs}{k:Nat}{t:Int}{c:Nat}(h:a.V t k=none){t':Int}{f x:Nat}(hv:a.V t' f=some x):¬ (t'=t∧f=k):=by
 rintro⟨rfl,rfl⟩
 rw [h] at hv; cases hv
theorem Xc {a:Abs}{k:Nat}{t:Int}{c:Nat}(h:a.V t k=none):Grow a (Qp a k t c):=
 ⟨fun _=>Int.le_refl _,fun t' f x hv=>⟨by show(if _ then _ else _)=_; rw [if_neg (Ag8 (c:=c) h hv),hv],if_neg (Ag8 (c:=c) h hv)⟩,fun _ _ q=>⟨q,List.prefix_refl _⟩,fun _ _=>Nat.le_refl _⟩
theorem Adc (a:Abs)(k:Nat)(t:Int)(c:Nat):Frame k a (Qp a k t c):=⟨fun f hf=>rfl,fun _ _=>rfl,fun _ _ hf=>if_neg fun q=>hf q.2,fun _=>.inl rfl,fun _ _ _ _=>rfl⟩
theorem Ag2 {N:Nat}{a:Abs}{k:Nat}{t:Int}{c:Nat}(h:Inv N a)(hT:a.T k=t)(hn:a.V t k=none)
  (hc:c=k∧(∀ e ∈ a.L k,e.Term<t)∨a.V t c=some c∧G4 (a.vl t c) (a.L k)):Inv N (Qp a k t c):=by
 have hV : ∀ {t' f x},(Qp a k t c).V t' f=some x→(t'=t∧f=k∧x=c)∨(¬ (t'=t∧f=k)∧a.V t' f=some x):=by
  intro t' f x hx
  by_cases q:t'=t∧f=k
  ·have:(Qp a k t c).V t' f=some c:=if_pos q
   rw [this] at hx
   cases hx
   exact .inl ⟨q.1,q.2,rfl⟩
  ·have:(Qp a k t c).V t' f=a.V t' f:=if_neg q
   rw [this] at hx
   exact .inr ⟨q,hx⟩
 have old : ∀ {t' f x},a.V t' f=some x→(Qp a k t c).V t' f=some x∧(Qp a k t c).vl t' f=a.vl t' f:=fun hv=>(Xc hn).V _ _ _ hv
 have nv:(Qp a k t c).vl t k=a.L k:=if_pos ⟨rfl,rfl⟩
 have nV:(Qp a k t c).V t k=some c:=if_pos ⟨rfl,rfl⟩
 have hg : ∀ t' c',a.led t'=some c'→(Qp a k t c).led t'=some c'∧a.LL t' <+: (Qp a k t c).LL t':=(Xc (c:=c) hn).led
 have lost : ∀ {t0 hi P},We a t0 hi P→We (Qp a k t c) t0 hi P:=by
  rintro t0 hi P ⟨u,x,q1,q2,q3,q4⟩
  refine⟨u,x,q1,q2,q3,?_⟩
  rw [(old (h.ls u x q3).1).2]
  exact q4
 refine⟨fun f=>(h.lm f).grow hg,fun t' f x hx=>?_,fun t' x hx=>(h.lml t' x hx).grow hg,h.lt,fun t' f x hx=>?_,fun t' f x hx=>?_,fun t' x hx=>?_,fun t' x hx=>?_,fun t' x hx=>?_,h.sv,h.ac,fun t' f n h1 h2=>?_,fun t0 t' f n h1 h2 h3 h4=>?_⟩
 ·rcases hV hx with⟨rfl,rfl,rfl⟩ | ⟨_,q⟩
  ·rw [nv]; exact(h.lm f).grow hg
  ·rw [(old q).2]; exact(h.lmv _ _ _ q).grow hg
 ·rcases hV hx with⟨rfl,rfl,rfl⟩ | ⟨_,q⟩
  ·show t'≤a.T f; omega
  ·exact h.vt _ _ _ q
 ·rcases hV hx with⟨rfl,rfl,rfl⟩ | ⟨q0,q⟩
  ·rcases hc with⟨rfl,_⟩ | ⟨q1,q2⟩
   ·exact⟨nV,.inr ⟨rfl,Nat.le_refl _⟩⟩
   ·rw [nv,(old q1).2]
    exact⟨(old q1).1,q2⟩
  ·obtain⟨q1,q2⟩:=h.vc _ _ _ q
   rw [(old q).2,(old q1).2]
   exact⟨(old q1).1,q2⟩
 ·rcases hV hx with⟨rfl,rfl,rfl⟩ | ⟨q0,q⟩
  ·rcases hc with⟨_,q2⟩ | ⟨q1,q2⟩
   ·rw [nv]; exact q2
   ·rw [hn] at q1; cases q1
  ·rw [(old q).2]
   exact h.vb _ _ q
 ·obtain⟨q1,q2,q3⟩:=h.ls t' x hx
  exact⟨(old q1).1,q2,fun f hf=>(old (q3 f hf)).1⟩
 ·rw [(old (h.ls t' x hx).1).2]
  exact h.lb t' x hx
 ·rcases h.x t' f n h1 h2 with q | q
  ·exact .inl q
  ·exact .inr (lost q)
 ·have keep:(((∃ x,a.V t' f=some x)∧a.led t'=none)∨a.S t' f=true)→(a.LL t0).take n <+: (Qp a k t c).vl t' f∨We (Qp a k t c) t0 (t' - 1) ((a.LL t0).take n):=by
   intro hq
   have hv : ∃ x,a.V t' f=some x:=by
    rcases hq with⟨q,_⟩ | q
    ·exact q
    ·obtain⟨l,hl⟩:=h.sv t' f q
     exact⟨l,(h.ls t' l hl).2.2 f q⟩
   obtain⟨x,hx⟩:=hv
   rw [(old hx).2]
   rcases h.w t0 t' f n h1 h2 h3 hq with q | q
   ·exact .inl q
   ·exact .inr (lost q)
  rcases h4 with⟨⟨x,hx⟩,hl⟩ | hs
  ·rcases hV hx with⟨rfl,rfl,rfl⟩ | ⟨q0,q⟩
   ·rw [nv]
    rcases h.x t0 f n h1 h2 with q | ⟨u,y,q1,q2,q3,q4⟩
    ·exact .inl q
    ·refine .inr (lost ⟨u,y,q1,?_,q3,q4⟩)
     have hl':a.led t'=none:=hl
     have:u≠t':=by rintro rfl; rw [hl'] at q3; cases q3
     omega
   ·exact keep (.inl ⟨⟨x,q⟩,hl⟩)
  ·exact keep (.inr hs)
def S7 (a:Abs)(k:Nat)(t:Int):Abs:={ a with
 led:=fun t'=>if t'=t then some k else a.led t'
 S:=fun t' f=>if t'=t then decide (a.V t f=some k) else a.S t' f
 LL:=fun t'=>if t'=t then a.vl t k else a.LL t'
 A:=fun t' f=>if t'=t∧f=k then(a.vl t k).length else a.A t' f }
theorem Afb {N:Nat}{a:Abs}{k:Nat}{t:Int}(h:Inv N a)(hn:a.led t=none):Grow a (S7 a k t):=by
 refine⟨fun _=>Int.le_refl _,fun _ _ _ q=>⟨q,rfl⟩,fun t' x q=>?_,fun t' f=>?_⟩
 ·have:t'≠t:=by rintro rfl; rw [hn] at q; cases q
  refine⟨?_,?_⟩
  ·show(if _ then _ else _)=_; rw [if_neg this,q]
  ·show _ <+: (if _ then _ else _); rw [if_neg this]; exact List.prefix_refl _
 ·show _≤if _ then _ else _
  split
  ·rename_i q
   obtain⟨rfl,rfl⟩:=q
   rcases Nat.eq_zero_or_pos (a.A t' f) with q | q
   ·omega
   ·obtain⟨⟨c,hc⟩,_⟩:=h.ac t' f q
    rw [hn] at hc; cases hc
  ·exact Nat.le_refl _
theorem Ajb (a:Abs)(k:Nat)(t:Int)(hn:a.led t=none):Frame k a (S7 a k t):=by
 refine⟨fun _ _=>rfl,fun _ _=>rfl,fun _ _ _=>rfl,fun t'=>?_,fun t' x hx _=>?_⟩
 ·by_cases q:t'=t
  ·exact .inr (if_pos q)
  ·exact .inl (if_neg q)
 ·exact if_neg (by rintro rfl; rw [hn] at hx; cases hx)
theorem Anc {N:Nat}{a:Abs}{k:Nat}{t:Int}(h:Inv N a)(hn:a.led t=none)(hT:a.T k=t)(hv:a.V t k=some k)(hL:a.L k=a.vl t k)
  (hm:N<2 * (List.range N).countP fun f=>decide (a.V t f=some k)):Inv N (S7 a k t):=by
 have hgr:=Afb (k:=k) h hn
 have e1:(S7 a k t).led t=some k:=if_pos rfl
 have e2:(S7 a k t).LL t=a.vl t k:=if_pos rfl
 have e3 : ∀ t',t'≠t→(S7 a k t).led t'=a.led t':=fun t' q=>if_neg q
 have e4 : ∀ t',t'≠t→(S7 a k t).LL t'=a.LL t':=fun t' q=>if_neg q
 have e5 : ∀ f,(S7 a k t).S t f=decide (a.V t f=some k):=fun f=>if_pos rfl
 have e6 : ∀ t' f,t'≠t→(S7 a k t).S t' f=a.S t' f:=fun t' f q=>if_neg q
 have e7 : ∀ t' f,¬ (t'=t∧f=k)→(S7 a k t).A t' f=a.A t' f:=fun t' f q=>if_neg q
 have e8:(S7 a k t).A t k=(a.vl t k).length:=if_pos ⟨rfl,rfl⟩
 have z : ∀ f,a.A t f=0:=by
  intro f
  rcases Nat.eq_zero_or_pos (a.A t f) with q | q
  ·exact q
  ·obtain⟨⟨c,hc⟩,_⟩:=h.ac t f q
   rw [hn] at hc; cases hc
 have ne : ∀ {t' c},a.led t'=some c→t'≠t:=by rintro t' c hc rfl; rw [hn] at hc; cases hc
 have lost : ∀ {t0 hi P},We a t0 hi P→We (S7 a k t) t0 hi P:=by
  rintro t0 hi P ⟨u,x,q1,q2,q3,q4⟩
  exact⟨u,x,q1,q2,by rw [e3 u (ne q3),q3],q4⟩
 refine⟨fun f=>(h.lm f).grow hgr.led,fun t' f x hx=>(h.lmv t' f x hx).grow hgr.led,fun t' x hx=>?_,h.lt,h.vt,h.vc,h.vb,fun t' x hx=>?_,fun t' x hx=>?_,fun t' f hs=>?_,fun t' f hA=>?_,fun t' f n h1 h2=>?_,fun t0 t' f n h1 h2 h3 h4=>?_⟩
 ·by_cases q:t'=t
  ·subst q
   rw [e2]
   exact(h.lmv t' k k hv).grow hgr.led
  ·rw [e4 t' q]
   rw [e3 t' q] at hx
   exact(h.lml t' x hx).grow hgr.led
 ·by_cases q:t'=t
  ·subst q
   rw [e1] at hx
   cases hx
   refine⟨hv,?_,fun f hf=>?_⟩
   ·rw [List.countP_congr (q:=fun f=>decide (a.V t' f=some k)) fun f _=>by rw [e5 f]]
    exact hm
   ·rw [e5 f] at hf
    exact of_decide_eq_true hf
  ·rw [e3 t' q] at hx
   obtain⟨q1,q2,q3⟩:=h.ls t' x hx
   refine⟨q1,?_,fun f hf=>?_⟩
   ·rw [List.countP_congr (q:=a.S t') fun f _=>by rw [e6 t' f q]]
    exact q2
   ·rw [e6 t' f q] at hf
    exact q3 f hf
 ·by_cases q:t'=t
  ·subst q
   rw [e1] at hx
   cases hx
   exact⟨[],by rw [e2,List.append_nil]; rfl,fun e he=>by cases he⟩
  ·rw [e3 t' q] at hx
   rw [e4 t' q]
   exact h.lb t' x hx
 ·by_cases q:t'=t
  ·subst q; exact⟨k,e1⟩
  ·rw [e6 t' f q] at hs
   rw [e3 t' q]
   exact h.sv t' f hs
 ·by_cases q:t'=t∧f=k
  ·obtain⟨rfl,rfl⟩:=q
   exact⟨⟨f,e1⟩,by show t'≤a.T f; omega,by rw [e8,e2]; exact Nat.le_refl _⟩
  ·rw [e7 t' f q] at hA ⊢
   obtain⟨⟨c,hc⟩,q2,q3⟩:=h.ac t' f hA
   have:=ne hc
   rw [e3 t' this,e4 t' this]
   exact⟨⟨c,hc⟩,q2,q3⟩
 ·by_cases q:t'=t∧f=k
  ·obtain⟨rfl,rfl⟩:=q
   rw [e2]
   left
   show _ <+: a.L f
   rw [hL]
   exact List.take_prefix _ _
  ·rw [e7 t' f q] at h2
   have hx:=h.x t' f n h1 h2
   obtain⟨⟨c,hc⟩,_⟩:=h.ac t' f (by omega)
   rw [e4 t' (ne hc)]
   rcases hx with q | q
   ·exact .inl q
   ·exact .inr (lost q)
 ·by_cases q:t0=t∧f=k
  ·obtain⟨rfl,rfl⟩:=q
   exfalso
   have hv' : ∃ x,a.V t' f=some x:=by
    rcases h4 with⟨q,_⟩ | hs
    ·exact q
    ·rw [e6 t' f (by omega)] at hs
     obtain⟨l,hl⟩:=h.sv t' f hs
     exact⟨l,(h.ls t' l hl).2.2 f hs⟩
   obtain⟨x,hx⟩:=hv'
   have:=h.vt t' f x hx
   omega
  ·rw [e7 t0 f q] at h2
   obtain⟨⟨c,hc⟩,_⟩:=h.ac t0 f (by omega)
   rw [e4 t0 (ne hc)]
   have hq:((∃ x,a.V t' f=some x)∧a.led t'=none)∨a.S t' f=true:=by
    by_cases q:t'=t
    ·subst q
     rcases h4 with⟨_,q2⟩ | hs
     ·rw [e1] at q2; cases q2
     ·rw [e5 f] at hs
      exact .inl ⟨⟨k,by simpa using hs⟩,hn⟩
    ·rcases h4 with⟨q1,q2⟩ | hs
     ·rw [e3 t' q] at q2
      exact .inl ⟨q1,q2⟩
     ·rw [e6 t' f q] at hs
      exact .inr hs
   rcases h.w t0 t' f n h1 h2 h3 hq with q | q
   ·exact .inl q
   ·exact .inr (lost q)
end Rp
end Go.Am
namespace Go.Am
open Go
set_option linter.unusedVariables false
set_option linter.unusedSimpArgs false
namespace Rp
def Ze (a:Abs)(k:Nat)(t:Int)(n:Nat)(X:List Record):Abs:={ a with
 L:=fun f=>if f=k then X else a.L f
 A:=fun t' f=>if t'=t∧f=k then max (a.A t k) n else a.A t' f }
theorem Alo (a:Abs)(k:Nat)(t:Int)(n:Nat)(X:List Record):Grow a (Ze a k t n X):=by
 refine⟨fun _=>Int.le_refl _,fun _ _ _ q=>⟨q,rfl⟩,fun t' x q=>⟨q,List.prefix_refl _⟩,fun t' f=>?_⟩
 show _≤if _ then _ else _
 split
 ·rename_i q
  obtain⟨rfl,rfl⟩:=q
  exact Nat.le_max_left _ _
 ·exact Nat.le_refl _
theorem Akb (a:Abs)(k:Nat)(t:Int)(n:Nat)(X:List Record):Frame k a (Ze a k t n X):=
 ⟨fun _ _=>rfl,fun _ hf=>if_neg hf,fun _ _ _=>rfl,fun _=>.inl rfl,fun _ _ _ _=>rfl⟩
theorem Am8 {N:Nat}{a:Abs}{k c:Nat}{t:Int}{M X:List Record}(h:Inv N a)(hT:a.T k=t)(hl:a.led t=some c)(hM:M <+: a.LL t)(hb:a.vl t c <+: M)
  (hX:X=a.L k∧M <+: a.L k∨X=M∧¬ M <+: a.L k):Inv N (Ze a k t M.length X):=by
 have eL:(Ze a k t M.length X).L k=X:=if_pos rfl
 have eL' : ∀ f,f≠k→(Ze a k t M.length X).L f=a.L f:=fun f q=>if_neg q
 have eA : ∀ t' f,¬ (t'=t∧f=k)→(Ze a k t M.length X).A t' f=a.A t' f:=fun t' f q=>if_neg q
 have eA':(Ze a k t M.length X).A t k=max (a.A t k) M.length:=if_pos ⟨rfl,rfl⟩
 have hMX:M <+: X:=by
  rcases hX with⟨rfl,q⟩ | ⟨rfl,_⟩
  ·exact q
  ·exact List.prefix_refl _
 have hlm:LM a X:=by
  rcases hX with⟨rfl,_⟩ | ⟨rfl,_⟩
  ·exact h.lm k
  ·exact(h.lml t c hl).pre hM
 have same : ∀ {Y},LM a Y→LM (Ze a k t M.length X) Y:=fun q=>⟨q.srt,q.pos,q.at'⟩
 have novote : ∀ {t' x},t<t'→a.V t' k=some x→False:=by
  intro t' x q1 q2
  have:=h.vt t' k x q2
  omega
 refine⟨fun f=>?_,fun t' f x hx=>same (h.lmv t' f x hx),fun t' x hx=>same (h.lml t' x hx),fun f e he=>?_,h.vt,h.vc,h.vb,h.ls,h.lb,h.sv,fun t' f hA=>?_,fun t' f n h1 h2=>?_,fun t0 t' f n h1 h2 h3 h4=>?_⟩
 ·by_cases q:f=k
  ·subst q; rw [eL]; exact same hlm
  ·rw [eL' f q]; exact same (h.lm f)
 ·by_cases q:f=k
  ·subst q
   rw [eL] at he
   show e.Term≤a.T f
   rcases hX with⟨rfl,_⟩ | ⟨rfl,_⟩
   ·exact h.lt f e he
   ·obtain⟨Z,hZ,hZ2⟩:=h.lb t c hl
    have:e ∈ a.LL t:=hM.subset he
    rw [hZ] at this
    rcases List.mem_append.1 this with q | q
    ·have:=h.vb t c (h.ls t c hl).1 e q
     omega
    ·have:=hZ2 e q
     omega
  ·rw [eL' f q] at he
   exact h.lt f e he
 ·by_cases q:t'=t∧f=k
  ·obtain⟨rfl,rfl⟩:=q
   refine⟨⟨c,hl⟩,by show t'≤a.T f; omega,?_⟩
   rw [eA']
   show _≤(a.LL t').length
   have h1:=hM.length_le
   have h2:a.A t' f≤(a.LL t').length:=by
    rcases Nat.eq_zero_or_pos (a.A t' f) with q | q
    ·omega
    ·exact(h.ac t' f q).2.2
   omega
  ·rw [eA t' f q] at hA ⊢
   exact h.ac t' f hA
 ·show(a.LL t').take n <+: _∨_
  by_cases q:f=k
  ·subst q
   rw [eL]
   rcases Nat.lt_or_ge (a.A t' f) n with hn | hn
   ·
    by_cases q:t'=t
    ·subst q
     rw [eA'] at h2
     left
     refine(Acx (List.take_prefix _ _) hM ?_).trans hMX
     rw [List.length_take]; omega
    ·rw [eA t' f (by omega)] at h2
     omega
   ·rcases h.x t' f n h1 hn with q | ⟨u,y,q1,q2,q3,q4⟩
    ·rcases hX with⟨rfl,_⟩ | ⟨rfl,hno⟩
     ·exact .inl q
     ·obtain⟨⟨c',hc'⟩,ht',hlen⟩:=h.ac t' f (by omega)
      by_cases e:t'=t
      ·subst e
       left
       rcases Ag3 (List.take_prefix n (a.LL t')) hM with q5 | q5
       ·exact q5
       ·exact absurd (q5.trans q) hno
      ·by_cases q5:(a.LL t').take n <+: a.vl t c
       ·exact .inl (q5.trans hb)
       ·exact .inr ⟨t,c,by omega,by show t≤a.T f; omega,hl,q5⟩
    ·exact .inr ⟨u,y,q1,q2,q3,q4⟩
  ·rw [eL' f q]
   rw [eA t' f (fun p=>q p.2)] at h2
   exact h.x t' f n h1 h2
 ·by_cases q:t0=t∧f=k
  ·obtain⟨rfl,rfl⟩:=q
   exfalso
   rcases h4 with⟨⟨x,q⟩,_⟩ | hs
   ·exact novote h3 q
   ·have hs':a.S t' f=true:=hs
    obtain⟨l,hl'⟩:=h.sv t' f hs'
    exact novote h3 ((h.ls t' l hl').2.2 f hs')
  ·rw [eA t0 f q] at h2
   exact h.w t0 t' f n h1 h2 h3 h4
def R9 (a:Abs)(k:Nat)(t:Int)(e:Record):Abs:={ a with
 L:=fun f=>if f=k then a.L k++[e] else a.L f
 LL:=fun t'=>if t'=t then a.LL t++[e] else a.LL t'
 A:=fun t' f=>if t'=t∧f=k then(a.LL t).length+1 else a.A t' f }
theorem Aip {N:Nat}{a:Abs}(h:Inv N a)(t:Int)(f:Nat):a.A t f≤(a.LL t).length:=by
 rcases Nat.eq_zero_or_pos (a.A t f) with q | q
 ·omega
 ·exact(h.ac t f q).2.2
theorem Afa {N:Nat}{a:Abs}(k:Nat)(t:Int)(e:Record)(h:Inv N a):Grow a (R9 a k t e):=by
 refine⟨fun _=>Int.le_refl _,fun _ _ _ q=>⟨q,rfl⟩,fun t' x q=>⟨q,?_⟩,fun t' f=>?_⟩
 ·show _ <+: if _ then _ else _
  split
  ·rename_i q; subst q; exact List.prefix_append _ _
  ·exact List.prefix_refl _
 ·show _≤if _ then _ else _
  split
  ·rename_i q
   obtain⟨rfl,rfl⟩:=q
   exact Nat.le_succ_of_le (Aip h t' f)
  ·exact Nat.le_refl _
theorem Akl (a:Abs)(k:Nat)(t:Int)(e:Record)(hl:a.led t=some k):Frame k a (R9 a k t e):=
 ⟨fun _ _=>rfl,fun _ hf=>if_neg hf,fun _ _ _=>rfl,fun _=>.inl rfl,fun t' c hc hk=>if_neg (by rintro rfl; rw [hl] at hc; cases hc; exact hk rfl)⟩
theorem An4 {N:Nat}{a:Abs}{k:Nat}{t:Int}{e:Record}(h:Inv N a)(hT:a.T k=t)(hl:a.led t=some k)(hL:a.L k=a.LL t)(he:e.Term=t)(h1t:1≤t):Inv N (R9 a k t e):=by
 have hgr:=Afa k t e h
 have eL:(R9 a k t e).L k=a.LL t++[e]:=by show(if _ then _ else _)=_; rw [if_pos rfl,hL]
 have eL' : ∀ f,f≠k→(R9 a k t e).L f=a.L f:=fun f q=>if_neg q
 have eA : ∀ t' f,¬ (t'=t∧f=k)→(R9 a k t e).A t' f=a.A t' f:=fun t' f q=>if_neg q
 have eA':(R9 a k t e).A t k=(a.LL t).length+1:=if_pos ⟨rfl,rfl⟩
 have eP:(R9 a k t e).LL t=a.LL t++[e]:=if_pos rfl
 have eP' : ∀ t',t'≠t→(R9 a k t e).LL t'=a.LL t':=fun t' q=>if_neg q
 have tk : ∀ t' f n,n≤a.A t' f→((R9 a k t e).LL t').take n=(a.LL t').take n:=by
  intro t' f n hn
  have:=Aip h t' f
  by_cases q:t'=t
  ·subst q
   rw [eP]
   exact List.take_append_of_le_length (by omega)
  ·rw [eP' t' q]
 have new:LM (R9 a k t e) (a.LL t++[e]):=by
  have old:=(h.lml t k hl).grow hgr.led
  have hle : ∀ x ∈ a.LL t,x.Term≤t:=fun x hx=>by
   have:=h.lt k x (by rw [hL]; exact hx)
   omega
  refine⟨?_,fun x hx=>?_,fun i x hx=>?_⟩
  ·rw [List.pairwise_append]
   refine⟨old.srt,List.pairwise_singleton _ _,fun x hx y hy=>?_⟩
   rw [List.mem_singleton.1 hy,he]
   exact hle x hx
  ·rcases List.mem_append.1 hx with q | q
   ·exact old.pos x q
   ·rw [List.mem_singleton.1 q]; omega
  ·rcases Nat.lt_or_ge i (a.LL t).length with hi | hi
   ·rw [List.getElem?_append_left hi] at hx
    rw [List.take_append_of_le_length (by omega)]
    exact old.at' i x hx
   ·have hlt:i<(a.LL t++[e]).length:=by
     rcases Nat.lt_or_ge i (a.LL t++[e]).length with hh | hh
     ·exact hh
     ·rw [List.getElem?_eq_none hh] at hx; cases hx
    simp only [List.length_append,List.length_singleton] at hlt
    have hi':i=(a.LL t).length:=by omega
    subst hi'
    rw [List.getElem?_concat_length] at hx
    cases hx
    rw [he,eP]
    exact⟨⟨k,hl⟩,List.take_prefix _ _⟩
 have lost : ∀ {t0 hi P},We a t0 hi P→We (R9 a k t e) t0 hi P:=fun q=>q
 refine⟨fun f=>?_,fun t' f x hx=>(h.lmv t' f x hx).grow hgr.led,fun t' x hx=>?_,fun f y hy=>?_,h.vt,h.vc,h.vb,h.ls,fun t' x hx=>?_,h.sv,fun t' f hA=>?_,fun t' f n h1 h2=>?_,fun t0 t' f n h1 h2 h3 h4=>?_⟩
 ·by_cases q:f=k
  ·subst q; rw [eL]; exact new
  ·rw [eL' f q]; exact(h.lm f).grow hgr.led
 ·by_cases q:t'=t
  ·subst q; rw [eP]; exact new
  ·rw [eP' t' q]; exact(h.lml t' x hx).grow hgr.led
 ·by_cases q:f=k
  ·subst q
   rw [eL] at hy
   show y.Term≤a.T f
   rcases List.mem_append.1 hy with q | q
   ·exact h.lt f y (by rw [hL]; exact q)
   ·rw [List.mem_singleton.1 q]; omega
  ·rw [eL' f q] at hy
   exact h.lt f y hy
 ·by_cases q:t'=t
  ·subst q
   obtain⟨M,q1,q2⟩:=h.lb t' x hx
   refine⟨M++[e],by rw [eP,q1,List.append_assoc]; rfl,fun y hy=>?_⟩
   rcases List.mem_append.1 hy with q | q
   ·exact q2 y q
   ·rw [List.mem_singleton.1 q]; exact he
  ·rw [eP' t' q]; exact h.lb t' x hx
 ·by_cases q:t'=t∧f=k
  ·obtain⟨rfl,rfl⟩:=q
   refine⟨⟨f,hl⟩,by show t'≤a.T f; omega,?_⟩
   rw [eA',eP,List.length_append,List.length_singleton]
   omega
  ·rw [eA t' f q] at hA ⊢
   obtain⟨q1,q2,q3⟩:=h.ac t' f hA
   obtain⟨x,hx⟩:=q1
   exact⟨⟨x,hx⟩,q2,by have:=(hgr.led t' x hx).2.length_le; omega⟩
 ·by_cases q:t'=t∧f=k
  ·obtain⟨rfl,rfl⟩:=q
   rw [eP,eL]
   exact .inl (List.take_prefix _ _)
  ·rw [eA t' f q] at h2
   rw [tk t' f n h2]
   rcases h.x t' f n h1 h2 with hq | hq
   ·left
    by_cases p:f=k
    ·subst p
     rw [eL,← hL]
     exact hq.trans (List.prefix_append _ _)
    ·rw [eL' f p]; exact hq
   ·exact .inr (lost hq)
 ·by_cases q:t0=t∧f=k
  ·obtain⟨rfl,rfl⟩:=q
   exfalso
   have hv' : ∃ x,a.V t' f=some x:=by
    rcases h4 with⟨q,_⟩ | hs
    ·exact q
    ·have hs':a.S t' f=true:=hs
     obtain⟨l,hl⟩:=h.sv t' f hs'
     exact⟨l,(h.ls t' l hl).2.2 f hs'⟩
   obtain⟨x,hx⟩:=hv'
   have:=h.vt t' f x hx
   omega
  ·rw [eA t0 f q] at h2
   rw [tk t0 f n h2]
   exact h.w t0 t' f n h1 h2 h3 h4
end Rp
end Go.Am
namespace Go.Am
open Go
set_option linter.unusedVariables false
set_option linter.unusedSimpArgs false
namespace Rp
structure Rep (N:Nat)(a:Abs)(k:Nat)(r:Replica):Prop where
 good:Good r
 bok:Sl r.Log
 id:r.ID=k
 many:r.Many=N
 T:a.T k=r.Term
 L:a.L k=r.Log
 len:r.Log.length≤4096
 v0:r.Vote = -1→a.V r.Term k=none
 v1 : ∀ c:Nat,r.Vote=c→a.V r.Term k=some c
 r1:r.Role=1→a.vl r.Term k=r.Log∧a.led r.Term≠some k ∧ ∀ j:Nat,r.Votes[j]? = some true→a.V r.Term j=some k
 r2:r.Role=2→a.led r.Term=some k∧a.LL r.Term=r.Log ∧ ∀ (j:Nat) n,r.Match[j]? = some n→n.toNat≤a.A r.Term j
 cp:CP N a r.Term (comm r)
structure Sent (N:Nat)(a:Abs)(m:Message):Prop where
 kind:1≤m.Kind∧m.Kind≤4
 frm:0≤m.From∧m.From<N
 to:0≤m.To∧m.To<N
 ne:m.From≠m.To
 term:1≤m.Term∧m.Term≤1048576
 mat:0≤m.Match
 lt:0≤m.LastTerm
 last:0≤m.Last
 commit:0≤m.Commit∧m.Commit≤m.Log.length
 fits:Fh m.Term 0 m.Log=true
 bok:Sl m.Log
 len:m.Log.length≤4096
 tm:m.Term≤a.T m.From.toNat
 k1:m.Kind=1→a.V m.Term m.From.toNat=some m.From.toNat∧m.Last=(a.vl m.Term m.From.toNat).length∧m.LastTerm=E7 (a.vl m.Term m.From.toNat)
 k2:m.Kind=2→m.Granted=true→a.V m.Term m.From.toNat=some m.To.toNat
 k3:m.Kind=3 → ∃ c,a.led m.Term=some c∧a.vl m.Term c <+: m.Log∧m.Log <+: a.LL m.Term∧CP N a m.Term (m.Log.take m.Commit.toNat)
 k4:m.Kind=4→m.Granted=true→m.Match.toNat≤a.A m.Term m.From.toNat
theorem Sent.grow {N:Nat}{a b:Abs}(h:Inv N a)(hN:1≤N)(hg:Grow a b){m:Message}(hm:Sent N a m):Sent N b m:=
 ⟨hm.kind,hm.frm,hm.to,hm.ne,hm.term,hm.mat,hm.lt,hm.last,hm.commit,hm.fits,hm.bok,hm.len,Int.le_trans hm.tm (hg.T _),fun q=>by
  obtain⟨q1,q2,q3⟩:=hm.k1 q
  obtain⟨p1,p2⟩:=hg.V _ _ _ q1
  rw [p2]
  exact⟨p1,q2,q3⟩,fun q q'=>(hg.V _ _ _ (hm.k2 q q')).1,fun q=>by
  obtain⟨c,q1,q2,q3,q4⟩:=hm.k3 q
  obtain⟨p1,p2⟩:=hg.led _ _ q1
  refine⟨c,p1,?_,q3.trans p2,q4.grow h hN hg (Int.le_refl _)⟩
  rw [(hg.V _ _ _ (h.ls _ _ q1).1).2]
  exact q2,fun q q'=>Nat.le_trans (hm.k4 q q') (hg.A _ _)⟩
theorem Rep.other {N:Nat}{a b:Abs}{k k':Nat}(h:Inv N a)(hN:1≤N)(hg:Grow a b)(hf:Frame k a b)(hk:k'≠k){r:Replica}(hr:Rep N a k' r):Rep N b k' r:=
  ⟨hr.good,hr.bok,hr.id,hr.many,by rw [hf.T k' hk,hr.T],by rw [hf.L k' hk,hr.L],hr.len,fun q=>by rw [hf.V _ _ hk]; exact hr.v0 q,fun c q=>by rw [hf.V _ _ hk]; exact hr.v1 c q,
   fun q=>by
    obtain⟨q1,q2,q3⟩:=hr.r1 q
    have hv:=hr.v1 k' (by rw [(hr.good.lead (by omega)).1,hr.id])
    refine⟨by rw [(hg.V _ _ _ hv).2]; exact q1,?_,fun j hj=>(hg.V _ _ _ (q3 j hj)).1⟩
    rcases hf.led r.Term with p | p
    · rw [p]; exact q2
    · rw [p]; intro e; exact hk (Option.some.inj e).symm,
   fun q=>by
    obtain⟨q1,q2,q3⟩:=hr.r2 q
    exact⟨(hg.led _ _ q1).1,by rw [hf.LL _ _ q1 hk]; exact q2,fun j n hj=>Nat.le_trans (q3 j n hj) (hg.A _ _)⟩,
   hr.cp.grow h hN hg (Int.le_refl _)⟩
def Qu (N:Nat)(a:Abs)(k:Nat)(x:Replica)(l:List Message):Prop := ∃ b,Inv N b∧Grow a b∧Frame k a b∧Rep N b k x∧(∀ m ∈ l,Sent N b m) ∧ ∀ t,b.led t=a.led t∨x.Role=2∧x.Term=t
theorem Qu.after {N:Nat}{a b:Abs}{k:Nat}{x:Replica}{l:List Message}(hg:Grow a b)(hf:Frame k a b)(hl : ∀ t,b.led t=a.led t)(h:Qu N b k x l):Qu N a k x l:=by
 obtain⟨c,h1,h2,h3,h4,h5,h6⟩:=h
 exact⟨c,h1,hg.trans h2,hf.trans hg h3,h4,h5,fun t=>by rw [← hl t]; exact h6 t⟩
theorem Rep.refl {N:Nat}{a:Abs}{k:Nat}{r:Replica}{l:List Message}(h:Inv N a)(hr:Rep N a k r)(hl : ∀ m ∈ l,Sent N a m):Qu N a k r l:=⟨a,h,Grow.refl a,Frame.refl k a,hr,hl,fun _=>.inl rfl⟩
theorem Sent.mok {N:Nat}{a:Abs}{k:Nat}{r:Replica}{m:Message}(hr:Rep N a k r)(hm:Sent N a m)(hk:m.To=k):MOk r m:=
 ⟨hm.kind,by rw [hr.id,hk],by rw [hr.many]; exact hm.frm,by rw [hr.id,← hk]; exact hm.ne,hm.term,hm.mat,hm.lt,hm.last,hm.commit,hm.fits⟩
theorem Als {N:Nat}{a:Abs}{k:Nat}{r:Replica}(hr:Rep N a k r):Rep N a k (Aeg r):=
 ⟨Pn (r:={ r with Commit:=0 }) hr.good.many hr.good.id hr.good.term hr.good.vote hr.good.fits ⟨Int.le_refl _,by show(0:Int)≤_; omega⟩,hr.bok,hr.id,hr.many,hr.T,hr.L,hr.len,hr.v0,hr.v1,fun q=>absurd q (by decide:¬ (0:Int)=1),fun q=>absurd q (by decide:¬ (0:Int)=2),.inl rfl⟩
theorem Ag5 {N:Nat}{a:Abs}{k:Nat}{t:Int}(h:Inv N a)(ht:a.T k<t):a.V t k=none:=by
 cases hv:a.V t k with
 | none=>rfl
 | some c=>
  have:=h.vt t k c hv
  omega
theorem Ai6 {N:Nat}{a:Abs}{k:Nat}{r:Replica}{t:Int}(h:Inv N a)(hN:1≤N)(hr:Rep N a k r)(ht:r.Term<t)(ht2:t≤1048576):Rep N (Ws a k t) k (Hu { r with Term:=t,Vote := -1 }):=by
 have hT:=hr.T
 have hterm:=hr.good.term
 have hmany:=hr.good.many
 exact⟨Pn (r:={ r with Term:=t,Vote := -1 }) hr.good.many hr.good.id ⟨by show 0≤t; omega,ht2⟩ ⟨Int.le_refl _,by show(-1:Int)<r.Many; omega⟩ (Yj hr.good.fits (by show r.Term≤t; omega)) hr.good.commit,
  hr.bok,hr.id,hr.many,if_pos rfl,hr.L,hr.len,fun _=>(Ag5 h (by omega):a.V t k=none),fun c q=>absurd q (by show ¬ (-1:Int)=c; omega),fun q=>absurd q (by decide:¬ (0:Int)=1),fun q=>absurd q (by decide:¬ (0:Int)=2),
  hr.cp.grow h hN (Xh (by omega)) (by show r.Term≤t; omega)⟩
theorem Aka {N:Nat}{a:Abs}{k:Nat}{r:Replica}{m:Message}(h:Inv N a)(hN:1≤N)(hr:Rep N a k r)(hm:Sent N a m) : ∃ b,Inv N b∧Grow a b∧Frame k a b∧Rep N b k (Jc r m) ∧ ∀ t,b.led t=a.led t:=by
 unfold Jc
 split
 ·rename_i q
  have hle:a.T k≤m.Term:=by rw [hr.T]; omega
  exact⟨Ws a k m.Term,Ahh h hle,Xh hle,Adj a k m.Term,Ai6 h hN hr q hm.term.2,fun _=>rfl⟩
 ·exact⟨a,h,Grow.refl a,Frame.refl k a,hr,fun _=>rfl⟩
theorem Aeu {p:Nat→Bool} : ∀ {α:Type} (l:List α) (q:α→Bool) (s:Nat),(∀ (j:Nat) x,l[j]? = some x→q x=true→p (s+j)=true)→l.countP q≤(List.range' s l.length).countP p
 | _,[],q,s,h=>Nat.zero_le _
 | _,x::l,q,s,h=>by
  have ih:=Aeu l q (s+1) fun j y hj hy=>by
   have:=h (j+1) y (by simpa using hj) hy
   rwa [show s+1+j=s+(j+1) by omega]
  rw [List.countP_cons,List.length_cons,List.range'_succ,List.countP_cons]
  have h0:=h 0 x rfl
  rw [Nat.add_zero] at h0
  cases hq:q x with
  | false=>simp; omega
  | true=>rw [h0 hq]; simp; omega
theorem Z7 {α:Type}{p:Nat→Bool}{l:List α}{q:α→Bool}{N:Nat}(hl:l.length=N)(h : ∀ (j:Nat) x,l[j]? = some x→q x=true→p j=true):l.countP q≤(List.range N).countP p:=by
 have:=Aeu (p:=p) l q 0 fun j x hj hx=>by rw [Nat.zero_add]; exact h j x hj hx
 rwa [hl,← List.range_eq_range'] at this
theorem Afs {N:Nat}{a:Abs}{t:Int}{log:List Record}{commit:Int}{mat:List Int}(hN:1≤N)(hlog:a.LL t=log)(hml:mat.length=N)(hA : ∀ (j:Nat) n,mat[j]? = some n→n.toNat≤a.A t j)(ha : ∀ n ∈ mat,0≤n∧n≤log.length)
  (hc:0≤commit) (hcp:CP N a t (log.take commit.toNat)):CP N a t (log.take (Nq t log commit mat).toNat):=by
 rcases Vt t log commit mat with e | ⟨e,e2,e3⟩
 ·rw [e]; exact hcp
 ·rw [e]
  have h1:1≤mat.length:=by omega
  have hm:=ha _ (Um h1)
  have hmost:=Agr h1
  refine .inr ⟨t,(Ev mat).toNat,⟨by omega,?_,?_⟩,Int.le_refl _,by rw [hlog]⟩
  ·have hlt:(Ev mat - 1).toNat<log.length:=by omega
   refine⟨log[(Ev mat - 1).toNat],?_,?_⟩
   ·rw [hlog,show(Ev mat).toNat - 1=(Ev mat - 1).toNat by omega,List.getElem?_eq_getElem hlt]
   ·simpa only [List.getD,List.getElem?_eq_getElem hlt,Option.getD_some] using e3
  ·have:=Z7 (p:=fun f=>decide ((Ev mat).toNat≤a.A t f)) (q:=fun n=>decide (Ev mat≤n)) hml fun j n hj hn=>by
    have h1:=hA j n hj
    have h2:Ev mat≤n:=by simpa using hn
    simp
    omega
   omega
theorem Afo {r:Replica}(h:Good r):(comm r).length=r.Commit.toNat:=by
 have:=h.commit
 unfold comm
 rw [List.length_take]
 omega
end Rp
end Go.Am
namespace Go.Am
open Go
set_option linter.unusedVariables false
set_option linter.unusedSimpArgs false
namespace Rp
theorem Ab0 {N:Nat}{a:Abs}{k:Nat}{r:Replica}(hr:Rep N a k r){m:Message}(h : ∀ to:Nat,to<N→to≠k→Sent N a (Nr r m to)) : ∀ x ∈ De r m,Sent N a x:=by
 intro x hx
 obtain⟨to,h1,rfl⟩:=List.mem_map.1 hx
 unfold Db at h1
 obtain⟨h2,h3⟩:=List.mem_filter.1 h1
 have hm:=hr.many
 have hid:=hr.id
 rw [List.mem_range] at h2
 simp only [decide_eq_true_eq,ne_eq] at h3
 exact h to (by omega) (by omega)
theorem Ad4 {N:Nat}{a:Abs}{k:Nat}{r:Replica}(h:Inv N a)(hr:Rep N a k r)(h2:r.Role=2) : ∀ x ∈ De r (Fb r.Log r.Commit),Sent N a x:=by
 have hg:=hr.good
 have hid:=hr.id
 have hm:=hr.many
 have hi:=hg.id
 refine Ab0 hr fun to ht hk=>⟨⟨by show(1:Int)≤3; decide,by show(3:Int)≤4; decide⟩,⟨by show 0≤r.ID; omega,by show r.ID<N; omega⟩,⟨by show(0:Int)≤to; omega,by show(to:Int)<N; omega⟩,by show r.ID≠(to:Int); omega,⟨(hg.lead (by omega)).2.1,hg.term.2⟩,Int.le_refl _,Int.le_refl _,Int.le_refl _,hg.commit,hg.fits,hr.bok,hr.len,(by show r.Term≤a.T r.ID.toNat; rw [show r.ID.toNat=k by omega,hr.T]; exact Int.le_refl _),fun q=>absurd q (by show ¬ (3:Int)=1; decide),fun q=>absurd q (by show ¬ (3:Int)=2; decide),fun _=>?_,fun q=>absurd q (by show ¬ (3:Int)=4; decide)⟩
 obtain⟨q1,q2,_⟩:=hr.r2 h2
 refine⟨k,q1,?_,?_,hr.cp⟩
 ·have:=Ak6 h q1
  rw [q2] at this
  exact this
 ·show r.Log <+: a.LL r.Term
  rw [q2]; exact List.prefix_refl _
theorem Ad3 {N:Nat}{a:Abs}{k:Nat}{r:Replica}(h:Inv N a)(hN:1≤N)(hr:Rep N a k r)(h1:r.Role=1)(hm:2 * ((r.Votes.count true:Nat):Int) > r.Many):Qu N a k (Ji r).1 (Ji r).2:=by
 obtain⟨q1,q2,q3⟩:=hr.r1 h1
 have hg:=hr.good
 obtain⟨l1,l2,l3⟩:=hg.lead (by omega)
 have hid:=hr.id
 have hmany:=hr.many
 have hgm:=hg.many
 have hv:=hr.v1 k (by omega)
 have hmost:N<2 * (List.range N).countP fun f=>decide (a.V r.Term f=some k):=by
  have:=Z7 (N:=N) (p:=fun f=>decide (a.V r.Term f=some k)) (l:=r.Votes) (q:=fun b=>b==true) (by have:=hg.votes; omega) fun j x hj hx=>by
   have:x=true:=by simpa using hx
   subst this
   exact decide_eq_true (q3 j hj)
  have hcnt:r.Votes.count true=r.Votes.countP (fun b=>b==true):=rfl
  omega
 have hn:a.led r.Term=none:=by
  cases hl:a.led r.Term with
  | none=>rfl
  | some c=>
   obtain⟨_,p2,p3⟩:=h.ls _ _ hl
   obtain⟨f,_,e1,e2⟩:=Aop p2 hmost
   have e3:=p3 f e1
   rw [of_decide_eq_true e2] at e3
   rw [hl] at q2
   exact absurd e3.symm q2
 have hinv:=Anc h hn hr.T hv (by rw [hr.L,q1]) hmost
 have hgrow:=Afb (k:=k) h hn
 have e1:(S7 a k r.Term).LL r.Term=r.Log:=by rw [← q1]; exact if_pos rfl
 have e2:(S7 a k r.Term).led r.Term=some k:=if_pos rfl
 have e3:(S7 a k r.Term).A r.Term k=r.Log.length:=by rw [← q1]; exact if_pos ⟨rfl,rfl⟩
 have hA : ∀ (j:Nat) n,((List.replicate r.Many.toNat (0:Int)).set r.ID.toNat r.Log.length)[j]? = some n→n.toNat≤(S7 a k r.Term).A r.Term j:=by
  intro j n hj
  rw [List.getElem?_set] at hj
  split at hj
  ·rename_i e
   split at hj
   ·cases hj
    have:j=k:=by omega
    rw [this,e3]; omega
   ·cases hj
  ·have:=List.eq_of_mem_replicate (List.mem_of_getElem? hj)
   omega
 have hrep:Rep N (S7 a k r.Term) k (Ji r).1:=by
  refine⟨Aja hg.many hg.id ⟨l2,hg.term.2⟩ l1 hg.fits hg.commit hg.votes l3,hr.bok,hr.id,hr.many,hr.T,hr.L,hr.len,hr.v0,hr.v1,fun q=>absurd q (by show ¬ (2:Int)=1; decide),fun _=>⟨e2,e1,hA⟩,?_⟩
  exact Afs (mat:=(List.replicate r.Many.toNat (0:Int)).set r.ID.toNat r.Log.length) hN e1 (by simp; omega) hA (Xt hg.id) hg.commit.1 (hr.cp.grow h hN hgrow (Int.le_refl _))
 refine⟨_,hinv,hgrow,Ajb a k r.Term hn,hrep,Ad4 hinv hrep rfl,fun t=>?_⟩
 by_cases q:t=r.Term
 ·exact .inr ⟨rfl,q.symm⟩
 ·exact .inl (if_neg q)
theorem Agt {N:Nat}{a:Abs}{k:Nat}{r:Replica}(h:Inv N a)(hN:1≤N)(hr:Rep N a k r)(ht:r.Term≠1048576) : ∃ b,Inv N b∧Grow a b∧Frame k a b∧Rep N b k (Dc r)∧(∀ m ∈ De (Dc r) (K9 r),Sent N b m) ∧ ∀ t,b.led t=a.led t:=by
 have hg:=hr.good
 have hterm:=hg.term
 have hid:=hr.id
 have hgid:=hg.id
 have hmany:=hr.many
 have hgm:=hg.many
 have hle:a.T k≤r.Term+1:=by rw [hr.T]; omega
 have hno:a.V (r.Term+1) k=none:=Ag5 h (by rw [hr.T]; omega)
 have hno':(Ws a k (r.Term+1)).V (r.Term+1) k=none:=hno
 have hi1:=Ahh h hle
 have hT:(Ws a k (r.Term+1)).T k=r.Term+1:=if_pos rfl
 have hi2:=Ag2 (c:=k) hi1 hT hno' (.inl ⟨rfl,fun e he=>by
  have:=h.lt k e he
  rw [hr.T] at this
  omega⟩)
 have hg2:Grow a (Qp (Ws a k (r.Term+1)) k (r.Term+1) k):=(Xh hle).trans (Xc hno')
 have hV:(Qp (Ws a k (r.Term+1)) k (r.Term+1) k).V (r.Term+1) k=some k:=if_pos ⟨rfl,rfl⟩
 have hvl:(Qp (Ws a k (r.Term+1)) k (r.Term+1) k).vl (r.Term+1) k=r.Log:=by rw [← hr.L]; exact if_pos ⟨rfl,rfl⟩
 have hset:((List.replicate r.Many.toNat false).set r.ID.toNat true)[r.ID.toNat]? = some true:=by
  rw [List.getElem?_set,if_pos rfl,if_pos (by simp; omega)]
 have hrep:Rep N (Qp (Ws a k (r.Term+1)) k (r.Term+1) k) k (Dc r):=by
  refine⟨⟨hg.many,hg.id,⟨by show 0≤r.Term+1; omega,by show r.Term+1≤1048576; omega⟩,⟨by show -1≤r.ID; omega,hg.id.2⟩,Yj hg.fits (by show r.Term≤r.Term+1; omega),⟨by show(0:Int)≤1; decide,by show(1:Int)≤2; decide⟩,hg.commit,by simp [Dc]; omega,by simp [Dc]; omega,fun j x hx=>⟨?_,fun q=>absurd q (by show ¬ (1:Int)=0; decide)⟩,fun _=>⟨rfl,by show 1≤r.Term+1; omega,hset⟩⟩,
   hr.bok,hr.id,hr.many,hT,hr.L,hr.len,fun q=>?_,fun c q=>?_,fun _=>⟨hvl,?_,fun j hj=>?_⟩,fun q=>absurd q (by show ¬ (1:Int)=2; decide),hr.cp.grow h hN hg2 (by show r.Term≤r.Term+1; omega)⟩
  ·have:=List.eq_of_mem_replicate (List.mem_of_getElem? hx)
   have:=hg.commit
   show 0≤x∧x≤(r.Log.length:Int)
   omega
  ·have:r.ID = -1:=q
   omega
  ·have:r.ID=c:=q
   have:c=k:=by omega
   subst this; exact hV
  ·show a.led (r.Term+1)≠some k
   intro q
   have:=(h.ls _ _ q).1
   rw [hno] at this; cases this
  ·have hj':((List.replicate r.Many.toNat false).set r.ID.toNat true)[j]? = some true:=hj
   rw [List.getElem?_set] at hj'
   split at hj'
   ·have:j=k:=by omega
    subst this; exact hV
   ·have:=List.eq_of_mem_replicate (List.mem_of_getElem? hj')
    cases this
 refine⟨_,hi2,hg2,(Adj a k _).trans (Xh hle) (Adc _ k _ k),hrep,?_,fun _=>rfl⟩
 refine Ab0 hrep fun to ht' hk=>⟨⟨by show(1:Int)≤1; decide,by show(1:Int)≤4; decide⟩,⟨by show 0≤r.ID; omega,by show r.ID<N; omega⟩,⟨by show(0:Int)≤to; omega,by show(to:Int)<N; omega⟩,by show r.ID≠(to:Int); omega,⟨by show 1≤r.Term+1; omega,by show r.Term+1≤1048576; omega⟩,Int.le_refl _,?_,by show(0:Int)≤r.Log.length; omega,⟨Int.le_refl _,Int.le_refl _⟩,rfl,fun x hx=>(by cases hx),by show(0:Nat)≤4096; omega,(by show r.Term+1≤(Qp (Ws a k (r.Term+1)) k (r.Term+1) k).T r.ID.toNat; rw [show r.ID.toNat=k by omega,hrep.T]; exact Int.le_refl _),fun _=>?_,fun q=>absurd q (by show ¬ (1:Int)=2; decide),fun q=>absurd q (by show ¬ (1:Int)=3; decide),fun q=>absurd q (by show ¬ (1:Int)=4; decide)⟩
 ·show 0≤E7 r.Log
  rcases Nat.eq_zero_or_pos r.Log.length with q | q
  ·rw [List.length_eq_zero_iff.1 q]; exact Int.le_refl _
  ·obtain⟨e,he1,he2⟩:=Om (X:=r.Log) q
   rw [he2]
   have:=(h.lm k).pos e (by rw [hr.L]; exact List.mem_of_getElem? he1)
   omega
 ·have e:(Nr (Dc r) (K9 r) to).From.toNat=k:=by show r.ID.toNat=k; omega
  rw [e]
  refine⟨hV,?_,?_⟩
  ·rw [show(Nr (Dc r) (K9 r) to).Term=r.Term+1 from rfl,hvl]; rfl
  ·rw [show(Nr (Dc r) (K9 r) to).Term=r.Term+1 from rfl,hvl]; rfl
theorem Ajc {N:Nat}{a:Abs}{k:Nat}{r:Replica}(h:Inv N a)(hN:1≤N)(hr:Rep N a k r)(ht:r.Term≠1048576):Qu N a k (Da r).1 (Da r).2:=by
 obtain⟨b,h1,h2,h3,h4,h5,h6⟩:=Agt h hN hr ht
 unfold Da
 split
 ·rename_i q
  refine(Ad3 h1 hN h4 rfl ?_).after h2 h3 h6
  have hid:=hr.good.id
  have:r.ID=0:=by omega
  show 2 * ((((List.replicate r.Many.toNat false).set r.ID.toNat true).count true:Nat):Int) > r.Many
  rw [q,this]
  decide
 ·exact⟨b,h1,h2,h3,h4,h5,fun t=>.inl (h6 t)⟩
theorem Adf {N:Nat}{a:Abs}{k:Nat}{r:Replica}{d:List Int}(h:Inv N a)(hN:1≤N)(hr:Rep N a k r)(h2:r.Role=2)(hl:r.Log.length<4096)(hd : ∀ b ∈ d,0≤b∧b<256):Qu N a k (F1 r d).1 (F1 r d).2:=by
 obtain⟨q1,q2,q3⟩:=hr.r2 h2
 have hg:=hr.good
 obtain⟨l1,l2,l3⟩:=hg.lead (by omega)
 have hid:=hr.id
 have hgid:=hg.id
 have hmany:=hr.many
 have hgm:=hg.many
 have hcm:=hg.commit
 have hml:=hg.mlen
 have hi:Inv N (R9 a k r.Term { Term:=r.Term,Data:=d }):=An4 h hr.T q1 (by rw [hr.L,q2]) rfl l2
 have hgrow:=Afa k r.Term ({ Term:=r.Term,Data:=d }:Record) h
 have e1:(R9 a k r.Term { Term:=r.Term,Data:=d }).LL r.Term=r.Log++[{ Term:=r.Term,Data:=d }]:=by rw [← q2]; exact if_pos rfl
 have e2:(R9 a k r.Term { Term:=r.Term,Data:=d }).L k=r.Log++[{ Term:=r.Term,Data:=d }]:=by rw [← hr.L]; exact if_pos rfl
 have e3:(R9 a k r.Term { Term:=r.Term,Data:=d }).A r.Term k=r.Log.length+1:=by rw [← q2]; exact if_pos ⟨rfl,rfl⟩
 have hlen:(r.Log++[({ Term:=r.Term,Data:=d }:Record)]).length=r.Log.length+1:=by simp
 have hA : ∀ (j:Nat) n,(r.Match.set r.ID.toNat ((r.Log++[({ Term:=r.Term,Data:=d }:Record)]).length:Int))[j]? = some n→n.toNat≤(R9 a k r.Term { Term:=r.Term,Data:=d }).A r.Term j:=by
  intro j n hj
  rw [List.getElem?_set] at hj
  split at hj
  ·split at hj
   ·cases hj
    have:j=k:=by omega
    rw [this,e3,hlen]; omega
   ·cases hj
  ·exact Nat.le_trans (q3 j n hj) (hgrow.A _ _)
 have hmat : ∀ n ∈ r.Match.set r.ID.toNat ((r.Log++[({ Term:=r.Term,Data:=d }:Record)]).length:Int),0≤n∧n≤((r.Log++[({ Term:=r.Term,Data:=d }:Record)]).length:Int):=by
  intro n hn
  rcases List.mem_or_eq_of_mem_set hn with q | q
  ·obtain⟨j,hj⟩:=List.getElem?_of_mem q
   have:=(hg.mat j n hj).1
   omega
  ·omega
 have hcp:CP N (R9 a k r.Term { Term:=r.Term,Data:=d }) r.Term ((r.Log++[({ Term:=r.Term,Data:=d }:Record)]).take r.Commit.toNat):=by
  rw [List.take_append_of_le_length (by omega)]
  exact hr.cp.grow h hN hgrow (Int.le_refl _)
 have hadv:=Acc (term:=r.Term) (log:=r.Log++[({ Term:=r.Term,Data:=d }:Record)]) (commit:=r.Commit) (mat:=r.Match.set r.ID.toNat ((r.Log++[({ Term:=r.Term,Data:=d }:Record)]).length:Int)) (by simp; omega) hmat ⟨hcm.1,by rw [hlen]; omega⟩
 have hfit:Fh r.Term 0 (r.Log++[({ Term:=r.Term,Data:=d }:Record)])=true:=by
  obtain⟨f1,f2⟩:=(Rx r.Term r.Log 0).1 hg.fits
  refine(Rx r.Term _ 0).2 ⟨fun x hx=>?_,?_⟩
  ·rcases List.mem_append.1 hx with q | q
   ·exact f1 x q
   ·rw [List.mem_singleton.1 q]
    exact⟨l2,Int.le_refl _,by show(0:Int)≤r.Term; omega⟩
  ·rw [List.pairwise_append]
   exact⟨f2,List.pairwise_singleton _ _,fun x hx y hy=>by rw [List.mem_singleton.1 hy]; exact(f1 x hx).2.1⟩
 have hrep:Rep N (R9 a k r.Term { Term:=r.Term,Data:=d }) k (F1 r d).1:=by
  refine⟨⟨hg.many,hg.id,hg.term,hg.vote,hfit,hg.role,⟨by show 0≤Nq _ _ _ _; omega,hadv.2⟩,hg.votes,by simpa [F1] using hml,fun j n hj=>⟨hmat n (List.mem_of_getElem? hj),fun q=>absurd (h2.symm.trans q) (by decide)⟩,hg.lead⟩,
   fun x hx=>?_,hr.id,hr.many,hr.T,e2,by show(r.Log++[({ Term:=r.Term,Data:=d }:Record)]).length≤4096; omega,hr.v0,hr.v1,fun q=>absurd (h2.symm.trans q) (by decide),fun _=>⟨q1,e1,hA⟩,?_⟩
  ·rcases List.mem_append.1 hx with q | q
   ·exact hr.bok x q
   ·rw [List.mem_singleton.1 q]; exact hd
  ·exact Afs (mat:=r.Match.set r.ID.toNat ((r.Log++[({ Term:=r.Term,Data:=d }:Record)]).length:Int)) hN e1 (by simp; omega) hA hmat hcm.1 hcp
 exact⟨_,hi,hgrow,Akl a k r.Term _ q1,hrep,Ad4 hi hrep h2,fun _=>.inl rfl⟩
end Rp
end Go.Am
namespace Go.Am
open Go
set_option linter.unusedVariables false
set_option linter.unusedSimpArgs false
namespace Rp
theorem Uw {N:Nat}{a:Abs}{k:Nat}{r:Replica}{m:Message}(hr:Rep N a k r)(hm:Sent N a m)(hk:m.To=k)(ht:1≤r.Term){kind:Int}{g:Bool}{mat:Int}(hkind:kind=2∨kind=4)(hmat:0≤mat)
  (h2:kind=2→g=true→a.V r.Term k=some m.From.toNat) (h4:kind=4→g=true→mat.toNat≤a.A r.Term k):Sent N a (Nt r m kind g mat):=by
 have hid:=hr.id
 have hmany:=hr.many
 have hgid:=hr.good.id
 have hne:=hm.ne
 have e:r.ID.toNat=k:=by omega
 refine⟨⟨by show 1≤kind; omega,by show kind≤4; omega⟩,⟨by show 0≤r.ID; omega,by show r.ID<N; omega⟩,hm.frm,by show r.ID≠m.From; omega,⟨ht,hr.good.term.2⟩,hmat,Int.le_refl _,Int.le_refl _,⟨Int.le_refl _,Int.le_refl _⟩,rfl,fun x hx=>(by cases hx),by show(0:Nat)≤4096; omega,(by show r.Term≤a.T r.ID.toNat; rw [e,hr.T]; exact Int.le_refl _),fun q=>?_,fun q q'=>?_,fun q=>?_,fun q q'=>?_⟩
 ·have:kind=1:=q
  omega
 ·show a.V r.Term r.ID.toNat=some m.From.toNat
  rw [e]; exact h2 q q'
 ·have:kind=3:=q
  omega
 ·show mat.toNat≤a.A r.Term r.ID.toNat
  rw [e]; exact h4 q q'
theorem Ad5 {r:Replica}{m:Message}{X:List Record}(h:Yw r m=true)(h1:m.Last=X.length)(h2:m.LastTerm=E7 X):G4 X r.Log:=by
 simp only [Yw,Bool.or_eq_true,Bool.and_eq_true,decide_eq_true_eq] at h
 rcases h with q | ⟨q1,q2⟩
 ·exact .inl (by omega)
 ·exact .inr ⟨by omega,by omega⟩
theorem Ak9 {N:Nat}{a:Abs}{k:Nat}{r:Replica}{m:Message}(h:Inv N a)(hN:1≤N)(hr:Rep N a k r)(hm:Sent N a m)(hk:m.To=k)(hkind:m.Kind=1)(hge:m.Term≤r.Term):Qu N a k (Ml r m).1 (Ml r m).2:=by
 have hgood:=Al8 hr.good (hm.mok hr hk)
 have hid:=hr.id
 have hfrm:=hm.frm
 have hne:=hm.ne
 have h1:1≤r.Term:=by have:=hm.term; omega
 unfold Ml at hgood ⊢
 cases hg:Lo r m with
 | false=>
  simp only [Bool.false_eq_true,if_false]
  refine Rep.refl h hr fun x hx=>?_
  rw [List.mem_singleton.1 hx]
  exact Uw hr hm hk h1 (.inl rfl) (Int.le_refl _) (fun _ q=>by cases q) (fun q=>by cases q)
 | true=>
  rw [hg] at hgood
  simp only [if_true] at hgood ⊢
  simp only [Lo,Bool.and_eq_true,decide_eq_true_eq,Bool.or_eq_true] at hg
  obtain⟨⟨g1,g2⟩,g3⟩:=hg
  obtain⟨k1,k2,k3⟩:=hm.k1 hkind
  by_cases hv:r.Vote = -1
  ·have hT:a.T k=r.Term:=hr.T
   have hno:=hr.v0 hv
   have hinv:=Ag2 (c:=m.From.toNat) h hT hno (.inr ⟨by rw [← g1]; exact k1,by rw [hr.L,← g1]; exact Ad5 g3 k2 k3⟩)
   have hgrow:=Xc (c:=m.From.toNat) hno
   have hrole:r.Role=0:=Classical.byContradiction fun q=>by
    have:=(hr.good.lead q).1
    have:=hr.good.id
    omega
   have hV:(Qp a k r.Term m.From.toNat).V r.Term k=some m.From.toNat:=if_pos ⟨rfl,rfl⟩
   have hrep:Rep N (Qp a k r.Term m.From.toNat) k { r with Vote:=m.From }:=
    ⟨hgood,hr.bok,hr.id,hr.many,hr.T,hr.L,hr.len,fun q=>by have:m.From = -1:=q; omega,fun c q=>by
     have:m.From=c:=q
     rw [hV,this]; rfl,fun q=>absurd (hrole.symm.trans q) (by decide),fun q=>absurd (hrole.symm.trans q) (by decide),hr.cp.grow h hN hgrow (Int.le_refl _)⟩
   refine⟨_,hinv,hgrow,Adc a k _ _,hrep,fun x hx=>?_,fun _=>.inl rfl⟩
   rw [List.mem_singleton.1 hx]
   have:=Uw (kind:=2) (g:=true) (mat:=0) hrep (hm.grow h hN hgrow) hk h1 (.inl rfl) (Int.le_refl _) (fun _ _=>hV) (fun q=>by cases q)
   exact this
  ·have hvf:r.Vote=m.From:=g2.resolve_left hv
   have e:({ r with Vote:=m.From }:Replica)=r:=by rw [← hvf]
   rw [e]
   refine Rep.refl h hr fun x hx=>?_
   rw [List.mem_singleton.1 hx]
   exact Uw hr hm hk h1 (.inl rfl) (Int.le_refl _) (fun _ _=>hr.v1 m.From.toNat (by omega)) (fun q=>by cases q)
theorem Akk {N:Nat}{a:Abs}{k:Nat}{r:Replica}{m:Message}(h:Inv N a)(hN:1≤N)(hr:Rep N a k r)(hm:Sent N a m)(hk:m.To=k)(hkind:m.Kind=2):Qu N a k (K5 r m).1 (K5 r m).2:=by
 have hfrm:=hm.frm
 unfold K5
 split
 ·rename_i hc
  obtain⟨c1,c2,c3⟩:=hc
  obtain⟨q1,q2,q3⟩:=hr.r1 c1
  have hgood:=hr.good
  obtain⟨l1,l2,l3⟩:=hgood.lead (by omega)
  have hset:(r.Votes.set m.From.toNat true)[r.ID.toNat]? = some true:=by
   rw [List.getElem?_set]
   split
   ·have hv':=hgood.votes
    have:=hr.many
    rw [if_pos (by omega)]
   ·exact l3
  have hrep:Rep N a k { r with Votes:=r.Votes.set m.From.toNat true }:=
   ⟨⟨hgood.many,hgood.id,hgood.term,hgood.vote,hgood.fits,hgood.role,hgood.commit,by simpa using hgood.votes,hgood.mlen,fun j x hx=>⟨(hgood.mat j x hx).1,fun h0=>absurd (c1.symm.trans h0) (by decide)⟩,fun _=>⟨l1,l2,hset⟩⟩,
    hr.bok,hr.id,hr.many,hr.T,hr.L,hr.len,hr.v0,hr.v1,fun _=>⟨q1,q2,fun j hj=>by
     rw [List.getElem?_set] at hj
     split at hj
     ·rename_i e
      subst e
      have:=hm.k2 hkind c3
      rw [hk] at this
      rw [← c2]
      exact this
     ·exact q3 j hj⟩,fun q=>absurd (c1.symm.trans q) (by decide),hr.cp⟩
  simp only
  split
  ·rename_i hmost
   exact Ad3 h hN hrep c1 hmost
  ·exact Rep.refl h hrep fun x hx=>by cases hx
 ·exact Rep.refl h hr fun x hx=>by cases hx
theorem Alr {N:Nat}{a:Abs}{k:Nat}{r:Replica}{m:Message}(h:Inv N a)(hN:1≤N)(hr:Rep N a k r)(hm:Sent N a m)(hk:m.To=k)(hkind:m.Kind=3)(hge:m.Term≤r.Term) : ∃ x l,Pt r m=some (x,l)∧Qu N a k x l:=by
 have hmok:=hm.mok hr hk
 have h1:1≤r.Term:=by have:=hm.term; omega
 have hcm:=hm.commit
 have hcr:=hr.good.commit
 obtain⟨c,q1,q2,q3,q4⟩:=hm.k3 hkind
 have hgood : ∀ {x l},Pt r m=some (x,l)→Good x:=fun ho=>Amu hr.good hmok hge ho
 unfold Pt at hgood ⊢
 split
 ·refine⟨_,_,rfl,Rep.refl h hr fun x hx=>?_⟩
  rw [List.mem_singleton.1 hx]
  exact Uw hr hm hk h1 (.inr rfl) (Int.le_refl _) (fun q=>by cases q) (fun _ q=>by cases q)
 rename_i hlt
 have het:m.Term=r.Term:=by omega
 rw [if_neg hlt] at hgood
 split
 ·exact⟨_,_,rfl,Rep.refl h hr fun x hx=>by cases hx⟩
 rename_i hrole
 rw [if_neg hrole] at hgood
 rw [het] at q1 q2 q3 q4
 have go : ∀ X:List Record,(X=a.L k∧m.Log <+: a.L k∨X=m.Log∧¬ m.Log <+: a.L k)→Good { Hu r with Log:=X,Commit:=max r.Commit m.Commit }→Sl X→X.length≤4096→CP N a r.Term (X.take (max r.Commit m.Commit).toNat) →
   Qu N a k { Hu r with Log:=X,Commit:=max r.Commit m.Commit } [Nt r m 4 true m.Log.length]:=by
  intro X hX hG hB hlen hcp
  have hinv:=Am8 h hr.T q1 q3 q2 hX
  have hgrow:=Alo a k r.Term m.Log.length X
  have eA:(Ze a k r.Term m.Log.length X).A r.Term k=max (a.A r.Term k) m.Log.length:=if_pos ⟨rfl,rfl⟩
  have hrep:Rep N (Ze a k r.Term m.Log.length X) k { Hu r with Log:=X,Commit:=max r.Commit m.Commit }:=
   ⟨hG,hB,hr.id,hr.many,hr.T,if_pos rfl,hlen,hr.v0,hr.v1,fun q=>absurd q (by show ¬ (0:Int)=1; decide),fun q=>absurd q (by show ¬ (0:Int)=2; decide),hcp.grow h hN hgrow (Int.le_refl _)⟩
  refine⟨_,hinv,hgrow,Akb a k _ _ _,hrep,fun x hx=>?_,fun _=>.inl rfl⟩
  rw [List.mem_singleton.1 hx]
  exact Uw (kind:=4) (g:=true) (mat:=(m.Log.length:Int)) hrep (hm.grow h hN hgrow) hk h1 (.inr rfl) (by omega) (fun q=>by cases q) (fun _ _=>by
   show((m.Log.length:Nat):Int).toNat≤(Ze a k r.Term m.Log.length X).A r.Term k
   rw [eA]; omega)
 by_cases h3:m.Log <+: r.Log
 ·rw [if_pos h3] at hgood ⊢
  refine⟨_,_,rfl,go r.Log (.inl ⟨hr.L.symm,by rw [hr.L]; exact h3⟩) (hgood rfl) hr.bok hr.len ?_⟩
  rcases Int.le_total r.Commit m.Commit with q | q
  ·rw [show max r.Commit m.Commit=m.Commit by omega,Adr h3 (by omega)]
   exact q4
  ·rw [show max r.Commit m.Commit=r.Commit by omega]
   exact hr.cp
 ·rw [if_neg h3] at hgood ⊢
  have h4:comm r <+: m.Log:=by
   rcases hr.cp with e | ⟨t,n,c1,t1,e⟩
   ·rw [e]; exact List.nil_prefix
   ·rcases Int.lt_or_eq_of_le t1 with p | p
    ·rw [e]; exact(Anx h c1 p q1).trans q2
    ·have hx:comm r <+: a.LL r.Term:=by rw [e,p]; exact List.take_prefix _ _
     rcases Ag3 hx q3 with p2 | p2
     ·exact p2
     ·exact absurd (p2.trans (List.take_prefix _ _)) h3
  have h4':r.Log.take r.Commit.toNat <+: m.Log:=h4
  rw [if_pos h4'] at hgood ⊢
  have hlen:=h4'.length_le
  simp only [List.length_take] at hlen
  refine⟨_,_,rfl,go m.Log (.inr ⟨rfl,by rw [hr.L]; exact h3⟩) (hgood rfl) hm.bok hm.len ?_⟩
  rcases Int.le_total r.Commit m.Commit with q | q
  ·rw [show max r.Commit m.Commit=m.Commit by omega]
   exact q4
  ·rw [show max r.Commit m.Commit=r.Commit by omega]
   have:m.Log.take r.Commit.toNat=comm r:=by
    have hx:=List.prefix_iff_eq_take.1 h4
    rw [Afo hr.good] at hx
    exact hx.symm
   rw [this]
   exact hr.cp
theorem Amv {N:Nat}{a:Abs}{k:Nat}{r:Replica}{m:Message}(h:Inv N a)(hN:1≤N)(hr:Rep N a k r)(hm:Sent N a m)(hk:m.To=k)(hkind:m.Kind=4) : ∃ x l,Qa r m=some (x,l)∧Qu N a k x l:=by
 have hmok:=hm.mok hr hk
 have hgood : ∀ {x l},Qa r m=some (x,l)→Good x:=fun ho=>Alp hr.good hmok ho
 have hfrm:=hm.frm
 have hmm:=hm.mat
 have hmany:=hr.many
 have hml:=hr.good.mlen
 unfold Qa at hgood ⊢
 split
 ·rename_i hc
  obtain⟨c1,c2,c3⟩:=hc
  rw [if_pos ⟨c1,c2,c3⟩] at hgood
  obtain⟨q1,q2,q3⟩:=hr.r2 c1
  have hA:=hm.k4 hkind c3
  rw [c2] at hA
  have hle:m.Match≤r.Log.length:=by
   have:=Aip h r.Term m.From.toNat
   rw [q2] at this
   omega
  rw [if_pos hle] at hgood ⊢
  have hlt:m.From.toNat<r.Match.length:=by omega
  have hget:r.Match[m.From.toNat]? = some (r.Match.getD m.From.toNat 0):=by simp only [List.getD,List.getElem?_eq_getElem hlt,Option.getD_some]
  have hmat : ∀ (j:Nat) n,(r.Match.set m.From.toNat (max m.Match (r.Match.getD m.From.toNat 0)))[j]? = some n→n.toNat≤a.A r.Term j:=by
   intro j n hj
   rw [List.getElem?_set] at hj
   split at hj
   ·rename_i e
    subst e
    cases hj
    have:=q3 _ _ hget
    omega
   ·exact q3 j n hj
  have hG:=hgood rfl
  have hrep:Rep N a k { r with Match:=r.Match.set m.From.toNat (max m.Match (r.Match.getD m.From.toNat 0)),Commit:=Nq r.Term r.Log r.Commit (r.Match.set m.From.toNat (max m.Match (r.Match.getD m.From.toNat 0))) }:=
   ⟨hG,hr.bok,hr.id,hr.many,hr.T,hr.L,hr.len,hr.v0,hr.v1,fun q=>absurd (c1.symm.trans q) (by decide),fun _=>⟨q1,q2,hmat⟩,
    Afs (mat:=r.Match.set m.From.toNat (max m.Match (r.Match.getD m.From.toNat 0))) hN q2 (by simp; omega) hmat (fun n hn=>by
     obtain⟨j,hj⟩:=List.getElem?_of_mem hn
     exact(hG.mat j n hj).1) hr.good.commit.1 hr.cp⟩
  exact⟨_,_,rfl,Rep.refl h hrep fun x hx=>by cases hx⟩
 ·exact⟨_,_,rfl,Rep.refl h hr fun x hx=>by cases hx⟩
theorem Ai1 {N:Nat}{a:Abs}{k:Nat}{r:Replica}{m:Message}(h:Inv N a)(hN:1≤N)(hr:Rep N a k r)(hm:Sent N a m)(hk:m.To=k) : ∃ x l,Kb r m=some (x,l)∧Qu N a k x l:=by
 obtain⟨b,b1,b2,b3,b4,b5⟩:=Aka h hN hr hm
 have hm':=hm.grow h hN b2
 have hge:m.Term≤(Jc r m).Term:=by have:=(Ro r m).2.2.2.2; omega
 have key : ∃ x l,Lg (Jc r m) m=some (x,l)∧Qu N b k x l:=by
  have hkind:=hm.kind
  unfold Lg
  by_cases h1:m.Kind=1
  ·rw [if_pos h1]
   exact⟨_,_,rfl,Ak9 b1 hN b4 hm' hk h1 hge⟩
  rw [if_neg h1]
  by_cases h2:m.Kind=2
  ·rw [if_pos h2]
   exact⟨_,_,rfl,Akk b1 hN b4 hm' hk h2⟩
  rw [if_neg h2]
  by_cases h3:m.Kind=3
  ·rw [if_pos h3]
   exact Alr b1 hN b4 hm' hk h3 hge
  rw [if_neg h3]
  exact Amv b1 hN b4 hm' hk (by omega)
 obtain⟨x,l,e1,e2⟩:=key
 refine⟨x,l,?_,e2.after b2 b3 b5⟩
 unfold Kb
 rw [if_pos ((Ahd r m).2 (hm.mok hr hk))]
 exact e1
end Rp
end Go.Am
namespace Go.Am
open Go
set_option linter.unusedVariables false
set_option linter.unusedSimpArgs false
namespace Rp
structure SInv (N:Nat)(a:Abs)(rs:List Replica)(sent:List Message):Prop where
 n:1≤N∧N≤5
 inv:Inv N a
 len:rs.length=N
 reps : ∀ (k:Nat) r,rs[k]? = some r→Rep N a k r
 msgs : ∀ m ∈ sent,Sent N a m
def Sh (i N:Nat):Replica:={ ID:=i,Many:=N,Term:=0,Vote := -1,Log:=[],Role:=0,Commit:=0,Votes:=List.replicate N false,Match:=List.replicate N 0 }
def Air:Abs:={ T:=fun _=>0,L:=fun _=>[],V:=fun _ _=>none,vl:=fun _ _=>[],led:=fun _=>none,S:=fun _ _=>false,LL:=fun _=>[],A:=fun _ _=>0 }
theorem Aoo (a:Abs):LM a []:=⟨List.Pairwise.nil,fun e he=>(by cases he),fun i e he=>(by cases he)⟩
theorem Aqp (N:Nat):Inv N Air:=by
 refine⟨fun f=>Aoo _,fun t f c h=>?_,fun t c h=>?_,fun f e he=>?_,fun t f c h=>?_,fun t f c h=>?_,fun t c h=>?_,fun t c h=>?_,fun t c h=>?_,fun t f h=>?_,fun t f h=>absurd h (by show ¬ 1≤0; omega),fun t f n h1 h2=>absurd h2 (by show ¬ n≤0; omega),fun t t' f n h1 h2=>absurd h2 (by show ¬ n≤0; omega)⟩
 ·cases h
 ·cases h
 ·cases he
 ·cases h
 ·cases h
 ·cases h
 ·cases h
 ·cases h
 ·cases h
theorem Alc {i N:Nat}(h:N≤5)(hi:i<N):Good (Sh i N):=by
 have:=Pn (r:=Sh i N) (by show(1:Int)≤N∧(N:Int)≤5; omega) (by show(0:Int)≤i∧(i:Int)<N; omega) (by show(0:Int)≤0∧(0:Int)≤1048576; omega) (by show(-1:Int) ≤ -1∧(-1:Int)<N; omega) rfl ⟨Int.le_refl _,Int.le_refl _⟩
 exact this
theorem Aoa {i N:Nat}(h:N≤5)(hi:i<N):Rep N Air i (Sh i N):=
 ⟨Alc h hi,fun x hx=>(by cases hx),rfl,rfl,rfl,rfl,by show 0≤4096; omega,fun _=>rfl,fun c q=>absurd q (by show ¬ (-1:Int)=c; omega),fun q=>absurd q (by show ¬ (0:Int)=1; decide),fun q=>absurd q (by show ¬ (0:Int)=2; decide),.inl rfl⟩
theorem Ape {i N:Nat}(h:N≤5)(hi:i<N):Jg i N=.ok (Sh i N,0):=by
 unfold Jg
 have hw:IntKind.wrap .i64 ((N:Int) - 1)=(N:Int) - 1:=Ga (by omega) (by omega)
 rw [Ok]
 simp only [R.ok_bind,hw]
 rw [decide_eq_true (by omega:(1:Int)≤N),decide_eq_true (by omega:(N:Int)≤5)]
 simp only [Bool.and_self,Bool.not_true,Bool.false_eq_true,if_false,Ok,R.ok_bind]
 rw [decide_eq_true (by omega:(0:Int)≤i),decide_eq_true (by omega:(i:Int)≤(N:Int) - 1)]
 simp only [Bool.and_self,Bool.not_true,Bool.false_eq_true,if_false,L8,R.ok_bind]
 unfold Iu I0 Kx
 rw [Ok]
 simp only [R.ok_bind]
 rw [decide_eq_true (by omega:(0:Int)≤N),decide_eq_true (by omega:(N:Int)≤5)]
 simp only [Bool.and_self,if_true]
 rw [if_pos ⟨by omega,Int.le_refl _,by unfold Ca; omega⟩,if_pos ⟨by omega,Int.le_refl _,by unfold Ca; omega⟩]
 rfl
theorem Amq {N:Nat}(h:N≤5):M5 N=.ok (true,(List.range N).map fun i=>Sh i N):=by
 have key : ∀ (n k:Nat),k+n=N→loop (Dn fun i l=>Hm N i l) ((k:Int),(List.range k).map fun i=>Sh i N)=.ok (.inl ((List.range N).map fun i=>Sh i N)):=by
  intro n
  induction n with
  | zero=>
   intro k hk
   rw [Jy]
   have:(Dn fun i l=>Hm N i l) ((k:Int),(List.range k).map fun i=>Sh i N)=.ok (.inr (.inl ((List.range k).map fun i=>Sh i N))):=by
    simp only [Dn,Hm]
    rw [if_neg (by omega)]
   rw [this,show k=N by omega]
   rfl
  | succ n ih=>
   intro k hk
   rw [Jy]
   have hw:IntKind.wrap .i64 ((k:Int)+1)=((k+1:Nat):Int):=by rw [Ga (by omega) (by omega)]; omega
   have:(Dn fun i l=>Hm N i l) ((k:Int),(List.range k).map fun i=>Sh i N)=.ok (.inl (((k+1:Nat):Int),(List.range (k+1)).map fun i=>Sh i N)):=by
    simp only [Dn,Hm]
    rw [if_pos (by omega),Ape h (by omega)]
    simp only [R.ok_bind,bne_self_eq_false,Bool.false_eq_true,if_false]
    rw [if_pos (by simp only [List.length_map,List.length_range,List.length_singleton]; unfold Ca; omega),hw,List.range_succ,List.map_append]
    rfl
   rw [this,R.ok_bind]
   exact ih (k+1) (by omega)
 unfold M5
 have:=key N 0 (by omega)
 rw [show((0:Int),([]:List Replica))=(((0:Nat):Int),(List.range 0).map fun i=>Sh i N) from rfl,this]
 rfl
theorem Apx {N:Nat}(h:1≤N∧N≤5):SInv N Air ((List.range N).map fun i=>Sh i N) []:=by
 refine⟨h,Aqp N,by simp,fun k r hr=>?_,fun m hm=>by cases hm⟩
 rw [List.getElem?_map] at hr
 by_cases hk:k<N
 ·rw [List.getElem?_range hk] at hr
  cases hr
  exact Aoa h.2 hk
 ·rw [List.getElem?_eq_none (by simp; omega)] at hr
  cases hr
theorem Ade {α ε:Type}{b:Nat→α→Unit→R (Unit ⊕ ε)} : ∀ (l:List α) (k:Nat),(∀ (j:Nat) a,l[j]? = some a→b (k+j) a ()=.ok (.inl ()))→each b k l ()=.ok (.inl ())
 | [],k,_=>rfl
 | a::l,k,hb=>by
  rw [M7,show b k a ()=.ok (.inl ()) from hb 0 a rfl]
  simp only [R.ok_bind]
  exact Ade l (k+1) fun j x hx=>by rw [show k+1+j=k+(j+1) by omega]; exact hb (j+1) x (by simpa using hx)
theorem SInv.step {N:Nat}{a:Abs}{rs:List Replica}{sent:List Message}(h:SInv N a rs sent){k:Nat}{x:Replica}{l:List Message}(hk:k<N)(hs:Qu N a k x l) : ∃ b,Grow a b∧Frame k a b∧Rep N b k x∧SInv N b (rs.set k x) (sent++l) ∧ ∀ t,b.led t=a.led t∨x.Role=2∧x.Term=t:=by
 obtain⟨b,h1,h2,h3,h4,h5,h6⟩:=hs
 refine⟨b,h2,h3,h4,⟨h.n,h1,by rw [List.length_set]; exact h.len,fun k' r hr=>?_,fun m hm=>?_⟩,h6⟩
 ·rw [List.getElem?_set] at hr
  split at hr
  ·rename_i e
   split at hr
   ·cases hr
    rw [← e]; exact h4
   ·cases hr
  ·rename_i e
   exact(h.reps k' r hr).other h.inv h.n.1 h2 h3 (fun q=>e q.symm)
 ·rcases List.mem_append.1 hm with q | q
  ·exact(h.msgs m q).grow h.inv h.n.1 h2
  ·exact h5 m q
theorem Rep.llim {N:Nat}{a:Abs}{k:Nat}{r:Replica}(h:Rep N a k r):r.Log.length≤Ca:=by
 have:=h.len
 unfold Ca; omega
theorem Anw {N:Nat}{k:Nat}{r x:Replica}{rs:List Replica}{l sent:List Message}(hr:rs[k]? = some r)(hg:Good x)(hl:x.Log.length≤Ca)(hid:x.ID=k)(hm:x.Many=rs.length)(ht:r.Term≤x.Term)
  (hf : ∀ m ∈ l,m.From=k∧m.To≠k) (hs:(sent.length+l.length) * 96≤Ca):I9 k x l rs sent=.ok (true,rs.set k x,sent++l):=by
 unfold I9
 rw [Qj hl hg,R.ok_bind,if_neg (by simp),if_neg (by simpa using hid),if_neg (by simpa using hm),D0 hr,R.ok_bind,decide_eq_false (by omega)]
 unfold Ka
 rw [if_neg (by simp),Ade l 0 fun j m hj=>?_]
 ·simp only [R.ok_bind,Jk,D0 hr]
  rw [if_pos hs]
  rfl
 ·obtain⟨q1,q2⟩:=hf m (List.mem_of_getElem? hj)
  unfold Ng
  rw [if_neg]
  simp only [Bool.or_eq_true,bne_iff_ne,ne_eq,beq_iff_eq]
  omega
theorem Afn {N:Nat}{k:Nat}{r x:Replica}{rs:List Replica}{sent:List Message}(hr:rs[k]? = some r)(hg:Good x)(hl:x.Log.length≤Ca)(hid:x.ID=k)(hm:x.Many=rs.length)(ht:r.Term≤x.Term)
  (hs:sent.length * 96≤Ca):Jb k x rs sent=.ok (true,rs.set k x,sent):=by
 unfold Jb
 rw [Qj hl hg,R.ok_bind,if_neg (by simp),if_neg (by simpa using hid),if_neg (by simpa using hm),D0 hr,R.ok_bind,decide_eq_false (by omega)]
 unfold Kk
 rw [if_neg (by simp)]
 simp only [List.range_zero,Xg,R.ok_bind,D0 hr]
 rw [if_pos (by simpa using hs)]
 simp
theorem Ait {N:Nat}{a b:Abs}{k:Nat}{r x:Replica}(hg:Grow a b)(hr:Rep N a k r)(hx:Rep N b k x):r.Term≤x.Term:=by
 have:=hg.T k
 rw [hr.T,hx.T] at this
 exact this
theorem Ack {N:Nat}{a:Abs}{rs:List Replica}{sent:List Message}(h:SInv N a rs sent){k:Nat}{r x:Replica}{l:List Message}(hr:rs[k]? = some r)(hs:Qu N a k x l)(hf : ∀ m ∈ l,m.From=r.ID)(hl:l.length≤5)(hn:sent.length≤100000) :
  ∃ b,Grow a b∧Frame k a b∧Rep N b k x∧SInv N b (rs.set k x) (sent++l)∧I9 k x l rs sent=.ok (true,rs.set k x,sent++l) ∧ ∀ t,b.led t=a.led t∨x.Role=2∧x.Term=t:=by
 have hk:k<N:=by
  rw [← h.len]
  rcases Nat.lt_or_ge k rs.length with hh | hh
  ·exact hh
  ·rw [List.getElem?_eq_none hh] at hr; cases hr
 have hrep:=h.reps k r hr
 obtain⟨b,h1,h2,h3,h4,h5⟩:=h.step hk hs
 refine⟨b,h1,h2,h3,h4,Anw (N:=N) hr h3.good h3.llim h3.id (by rw [h3.many,h.len]) (Ait h1 hrep h3) (fun m hm=>?_) (by unfold Ca; omega),h5⟩
 have hm2:=h4.msgs m (List.mem_append_right _ hm)
 have:=hf m hm
 have:=hrep.id
 have:=hm2.ne
 omega
theorem Ak5 {N:Nat}{a:Abs}{k:Nat}{r x:Replica}{m:Message}{l:List Message}(hr:Rep N a k r)(ho:Kb r m=some (x,l)):l.length≤5:=by
 have hall : ∀ (r':Replica) (m':Message),r'.Many=r.Many→(De r' m').length≤5:=by
  intro r' m' q
  have h1:=hr.good.many
  unfold De Db
  rw [List.length_map]
  have:=List.length_filter_le (fun x:Nat=>decide ((x:Int)≠r'.ID)) (List.range r'.Many.toNat)
  rw [List.length_range] at this
  omega
 have hb:=(Ro r m).2.1
 unfold Kb at ho
 split at ho
 ·unfold Lg at ho
  split at ho
  ·have e:l=(Ml (Jc r m) m).2:=by rw [Option.some.inj ho]
   rw [e]
   show 1≤5
   omega
  split at ho
  ·have e:l=(K5 (Jc r m) m).2:=by rw [Option.some.inj ho]
   rw [e]
   unfold K5
   split
   ·simp only
    split
    ·exact hall _ _ hb
    ·simp
   ·simp
  split at ho
  ·unfold Pt at ho
   split at ho
   ·cases ho; simp
   split at ho
   ·cases ho; simp
   split at ho
   ·cases ho; simp
   split at ho
   ·cases ho; simp
   ·cases ho
  ·have:=Aax ho
   rw [this]; simp
 ·cases ho
theorem Ace {N:Nat}{a:Abs}{rs:List Replica}{sent:List Message}(h:SInv N a rs sent){n:Nat}{m:Message}(hm:sent[n]? = some m)(hn:sent.length≤100000) :
  ∃ b r x l,rs[m.To.toNat]? = some r∧Kb r m=some (x,l)∧Grow a b∧Frame m.To.toNat a b∧Rep N b m.To.toNat x∧SInv N b (rs.set m.To.toNat x) (sent++l)∧l.length≤5∧Kj n rs sent=.ok (true,rs.set m.To.toNat x,sent++l) ∧ ∀ t,b.led t=a.led t∨x.Role=2∧x.Term=t:=by
 have hs:=h.msgs m (List.mem_of_getElem? hm)
 have hto:=hs.to
 have hlen:=h.len
 have hlt:m.To.toNat<rs.length:=by omega
 have hr:rs[m.To.toNat]? = some rs[m.To.toNat]:=List.getElem?_eq_getElem hlt
 generalize rs[m.To.toNat]=r at hr
 have hrep:=h.reps _ r hr
 obtain⟨x,l,e1,e2⟩:=Ai1 h.inv h.n.1 hrep hs (by omega)
 have hfr : ∀ m' ∈ l,m'.From=r.ID:=fun m' hm'=>((Adx hrep.good e1).2.2.2.2.2.1 m' hm').1
 have hl5:=Ak5 hrep e1
 obtain⟨b,b1,b2,b3,b4,b5,b6⟩:=Ack h hr e2 hfr hl5 hn
 refine⟨b,r,x,l,hr,e1,b1,b2,b3,b4,hl5,?_,b6⟩
 unfold Kj
 rw [D0 hm,R.ok_bind,decide_eq_false (by omega),decide_eq_false (by omega)]
 have e:((m.To.toNat:Nat):Int)=m.To:=by omega
 have hi:Cs rs m.To=.ok r:=by rw [← e]; exact D0 hr
 simp only [Bool.or_self,Bool.false_eq_true,if_false,hi,R.ok_bind]
 rw [Anf hrep.good hrep.llim hrep.bok hs.bok (by have:=hs.len; unfold Ca; omega),e1]
 simp only [R.ok_bind]
 unfold Nb
 rw [if_neg (by simp),← e,b5]
 rfl
end Rp
end Go.Am
namespace Go.Am
open Go
set_option linter.unusedVariables false
set_option linter.unusedSimpArgs false
namespace Rp
theorem Acp {x:Int}{n:Nat}(h0:0≤x)(hn:0<n) : ∃ k:Nat,Int.tmod x n=k∧k<n:=by
 have h1:=Int.tmod_nonneg (n:Int) h0
 have h2:=Int.tmod_lt_of_pos x (b:=(n:Int)) (by omega)
 exact⟨(Int.tmod x n).toNat,by omega,by omega⟩
theorem Aik {x:Int}(h:0≤x∧x<256):IntKind.wrap .i64 x=x:=Ga (by omega) (by omega)
structure Byt (s:T44):Prop where
 k:0≤s.Kind∧s.Kind<256
 a:0≤s.At∧s.At<256
 d:0≤s.Data∧s.Data<256
theorem Aib (r:Replica) : ∀ m ∈ (Da r).2,m.From=r.ID:=by
 intro m hm
 unfold Da at hm
 split at hm
 ·exact(Kd _ _ m hm).1
 ·exact(Kd _ _ m hm).1
theorem S1 {r:Replica}(h:0≤r.Many∧r.Many≤5)(m:Message):(De r m).length≤5:=by
 unfold De Db
 rw [List.length_map]
 have:=List.length_filter_le (fun x:Nat=>decide ((x:Int)≠r.ID)) (List.range r.Many.toNat)
 rw [List.length_range] at this
 omega
theorem Adk {r:Replica}(h:0≤r.Many∧r.Many≤5):(Da r).2.length≤5:=by
 unfold Da
 split
 ·exact S1 (r:=(Ji (Dc r)).1) h _
 ·exact S1 (r:=Dc r) h _
theorem Acv {N:Nat}{a:Abs}{rs:List Replica}{sent:List Message}(h:SInv N a rs sent){s:T44}(h0:s.Kind=0){k:Nat}{r:Replica}(hk:Int.tmod (IntKind.wrap .i64 s.At) (rs.length:Int)=k)(hr:rs[k]? = some r)(hn:sent.length≤100000) :
  (r.Term=1048576→G0 s rs sent=.ok (true,rs,sent)) ∧
  (r.Term≠1048576 → ∃ b,Grow a b∧Frame k a b∧Rep N b k (Da r).1∧SInv N b (rs.set k (Da r).1) (sent++(Da r).2)∧(Da r).2.length≤5∧G0 s rs sent=.ok (true,rs.set k (Da r).1,sent++(Da r).2) ∧ ∀ t,b.led t=a.led t∨(Da r).1.Role=2∧(Da r).1.Term=t):=by
 have hrep:=h.reps k r hr
 have hne:(rs.length:Int)≠0:=by have:=h.len; have:=h.n; omega
 have e:G0 s rs sent=((G9 r).bind fun r1=>if(r1.2.2 != 0) then(.ok ((r1.2.2==2),rs,sent)) else((I9 k r1.1 r1.2.1 rs sent).bind fun r1=>.ok (r1.1,r1.2.1,r1.2.2))):=by
  unfold G0
  rw [if_pos hne,h0,if_pos (by rfl),hk,D0 hr,R.ok_bind]
 rw [e,Am6 hrep.good hrep.llim,R.ok_bind]
 constructor
 ·intro ht
  rw [if_pos ht]
  rfl
 ·intro ht
  have hm:=hrep.good.many
  have hl:=Adk (r:=r) (by omega)
  obtain⟨b,b1,b2,b3,b4,b5,b6⟩:=Ack h hr (Ajc h.inv h.n.1 hrep ht) (Aib r) hl hn
  refine⟨b,b1,b2,b3,b4,hl,?_,b6⟩
  rw [if_neg ht]
  simp only [bne_self_eq_false,Bool.false_eq_true,if_false]
  rw [b5]
  rfl
theorem Aps {N:Nat}{a:Abs}{rs:List Replica}{sent:List Message}(h:SInv N a rs sent){s:T44}(hb:Byt s)(hn:sent.length≤10000) :
  ∃ b rs' sent',G0 s rs sent=.ok (true,rs',sent')∧SInv N b rs' sent'∧Grow a b∧sent'.length≤sent.length+5∧(∀ t,b.led t=a.led t ∨ ∃ (k:Nat) (x:Replica),rs'[k]? = some x∧x.Role=2∧x.Term=t)∧(rs'=rs∧sent'=sent∨Next ⟨rs,sent⟩ ⟨rs',sent'⟩):=by
 have new : ∀ {b:Abs} {k:Nat} {x:Replica},k<rs.length→(∀ t,b.led t=a.led t∨x.Role=2∧x.Term=t) → ∀ t,b.led t=a.led t ∨ ∃ (k':Nat) (y:Replica),(rs.set k x)[k']? = some y∧y.Role=2∧y.Term=t:=by
  intro b k x hk hq t
  rcases hq t with q | ⟨q1,q2⟩
  ·exact .inl q
  ·exact .inr ⟨k,x,by rw [List.getElem?_set,if_pos rfl,if_pos hk],q1,q2⟩
 have hN:=h.n
 have hlen:=h.len
 obtain⟨k,hk,hlt⟩:=Acp (x:=IntKind.wrap .i64 s.At) (n:=rs.length) (by rw [Aik hb.a]; exact hb.a.1) (by omega)
 have hr:rs[k]? = some rs[k]:=List.getElem?_eq_getElem hlt
 generalize rs[k]=r at hr
 have hrep:=h.reps k r hr
 have hne:(rs.length:Int)≠0:=by omega
 by_cases h0:s.Kind=0
 ·obtain⟨d1,d2⟩:=Acv h h0 hk hr (by omega)
  by_cases ht:r.Term=1048576
  ·exact⟨a,rs,sent,d1 ht,h,Grow.refl a,by omega,fun _=>.inl rfl,.inl ⟨rfl,rfl⟩⟩
  ·obtain⟨b,b1,b2,b3,b4,b5,b6,b7⟩:=d2 ht
   exact⟨b,_,_,b6,b4,b1,by rw [List.length_append]; omega,new hlt b7,.inr (.time k r hr ht)⟩
 by_cases h1:s.Kind=1
 ·have e:G0 s rs sent=((Ha r [s.Data]).bind fun r2=>Pd s rs sent r2.2.1 r2.2.2 rs r2.1):=by
   unfold G0
   rw [if_pos hne,h1,if_neg (by decide),if_pos (by rfl),hk,D0 hr,R.ok_bind]
  rw [e,Ans hrep.good hrep.llim,R.ok_bind]
  unfold Pd
  rw [hk]
  by_cases h2:r.Role=2
  ·rw [if_pos h2]
   by_cases h3:r.Log.length≥4096
   ·rw [if_pos h3]
    refine⟨a,rs,sent,?_,h,Grow.refl a,by omega,fun _=>.inl rfl,.inl ⟨rfl,rfl⟩⟩
    simp only [show((2:Int) != 0)=true from rfl,if_true,D0 hr,R.ok_bind]
    rw [if_neg (by simpa using h2)]
    rfl
   ·rw [if_neg h3]
    have hm:=hrep.good.many
    have hl:(F1 r [s.Data]).2.length≤5:=S1 (r:=(F1 r [s.Data]).1) (by show 0≤r.Many∧r.Many≤5; omega) _
    obtain⟨b,b1,b2,b3,b4,b5,b6⟩:=Ack h hr (Adf (d:=[s.Data]) h.inv h.n.1 hrep h2 (by omega) (fun x hx=>by rw [List.mem_singleton.1 hx]; exact hb.d)) (fun m hm=>(Kd _ _ m hm).1) hl (by omega)
    refine⟨b,_,_,?_,b4,b1,by rw [List.length_append]; omega,new hlt b6,.inr (.prop k r [s.Data] hr h2 (by omega) (fun x hx=>by rw [List.mem_singleton.1 hx]; exact hb.d))⟩
    simp only [bne_self_eq_false,Bool.false_eq_true,if_false]
    rw [b5]
    rfl
  ·rw [if_neg h2]
   refine⟨a,rs,sent,?_,h,Grow.refl a,by omega,fun _=>.inl rfl,.inl ⟨rfl,rfl⟩⟩
   simp only [show((470:Int) != 0)=true from rfl,if_true,D0 hr,R.ok_bind]
   rw [if_pos (by simpa using h2)]
 by_cases h2:s.Kind=2
 ·have e:G0 s rs sent=((Gs r).bind fun r6=>(Jb k r6 rs sent).bind fun r7=>.ok (r7.1,r7.2.1,r7.2.2)):=by
   unfold G0
   rw [if_pos hne,h2,if_neg (by decide),if_neg (by decide),if_pos (by rfl),hk,D0 hr,R.ok_bind]
  have hm:=hrep.good.many
  have hx:=Als hrep
  have hk':k<N:=by omega
  obtain⟨b,b1,b2,b3,b4,b5⟩:=h.step hk' (Rep.refl (l:=[]) h.inv hx (fun m hm=>by cases hm))
  rw [e,Anj (by omega),R.ok_bind,Afn (N:=N) hr hx.good hx.llim hx.id (by rw [hx.many,h.len]) (Int.le_refl _) (by unfold Ca; omega),R.ok_bind]
  rw [List.append_nil] at b4
  have hnx:=Next.rest (s:=⟨rs,sent⟩) k r hr
  unfold Sys.put at hnx
  rw [List.append_nil] at hnx
  exact⟨b,rs.set k (Aeg r),sent,rfl,b4,b1,by omega,new hlt b5,.inr hnx⟩
 by_cases hz:sent.length=0
 ·refine⟨a,rs,sent,?_,h,Grow.refl a,by omega,fun _=>.inl rfl,.inl ⟨rfl,rfl⟩⟩
  unfold G0
  rw [if_pos hne,if_neg (by simpa using h0),if_neg (by simpa using h1),if_neg (by simpa using h2),if_pos (by simp [hz])]
 ·have hbk:=hb.k
  have hbd:=hb.d
  have hw1:IntKind.wrap .i64 s.Data=s.Data:=Aik hb.d
  have hw2:IntKind.wrap .i64 (256 * s.Data)=256 * s.Data:=Ga (by omega) (by omega)
  have hw3:IntKind.wrap .i64 s.Kind=s.Kind:=Aik hb.k
  have hw4:IntKind.wrap .i64 (s.Kind+256 * s.Data)=s.Kind+256 * s.Data:=Ga (by omega) (by omega)
  obtain⟨n,hn',hlt'⟩:=Acp (x:=s.Kind+256 * s.Data) (n:=sent.length) (by omega) (by omega)
  have hm:sent[n]? = some sent[n]:=List.getElem?_eq_getElem hlt'
  obtain⟨b,r',x,l,q1,q2,q3,q4,q5,q6,q7,q8,q9⟩:=Ace h hm (by omega)
  refine⟨b,_,_,?_,q6,q3,by rw [List.length_append]; omega,new (by
   rcases Nat.lt_or_ge sent[n].To.toNat rs.length with hh | hh
   ·exact hh
   ·rw [List.getElem?_eq_none hh] at q1; cases q1) q9,.inr (.recv sent[n].To.toNat r' sent[n] x l q1 (List.mem_of_getElem? hm) (by have:=(h.msgs _ (List.mem_of_getElem? hm)).to; omega) q2)⟩
  unfold G0
  rw [if_pos hne,if_neg (by simpa using h0),if_neg (by simpa using h1),if_neg (by simpa using h2),if_neg (by simpa using hz),if_pos (by omega),hw1,hw2,hw3,hw4,hn',q8]
  rfl
def Qz (X:List Record):List (List Int):=X.map (·.Data)
theorem Y3 {N:Nat}{a:Abs}{k:Nat}{r:Replica}(hr:Rep N a k r):C9 r=.ok (Qz (comm r)):=
 Anq r (by have:=hr.len; unfold Ca; omega) hr.good.commit.1
theorem Aod {X Y:List Record}(h:X <+: Y):Qz X <+: Qz Y:=by
 obtain⟨Z,rfl⟩:=h
 exact⟨Qz Z,by unfold Qz; rw [List.map_append]⟩
def All (N:Nat)(a:Abs)(all:List (List Int)):Prop := ∃ hi X,CP N a hi X∧all=Qz X
theorem All.grow {N:Nat}{a b:Abs}(h:Inv N a)(hN:1≤N)(hg:Grow a b){all:List (List Int)}(hx:All N a all):All N b all:=by
 obtain⟨hi,X,h1,h2⟩:=hx
 exact⟨hi,X,h1.grow h hN hg (Int.le_refl _),h2⟩
theorem Ao0 {l:List T44}(h:(Zd 3 Aay).good l) : ∀ s ∈ l,Byt s:=by
 intro s hs
 have h1:Aay.good s:=h s hs
 obtain⟨q1,q2,q3,_⟩:=h1
 have f : ∀ x:Int,(Od .u8).good x→0≤x∧x<256:=by
  intro x hx
  have h2:(Lit.int .u8 x).wf=true:=hx
  have:0≤x∧x≤255:=by simpa [Lit.wf,IntKind.min,IntKind.max,IntKind.signed,IntKind.bits] using h2
  omega
 exact⟨f _ q1,f _ q2,f _ q3⟩
theorem Aoh {x:Int}(h:(Od .u8).good x) : ∃ N:Nat,(1≤N∧N≤5)∧IntKind.wrap .i64 (1+(IntKind.wrap .i64 (Int.tmod x 5)))=N:=by
 have h2:(Lit.int .u8 x).wf=true:=h
 have h3:0≤x∧x≤255:=by simpa [Lit.wf,IntKind.min,IntKind.max,IntKind.signed,IntKind.bits] using h2
 obtain⟨k,hk,hlt⟩:=Acp (x:=x) (n:=5) h3.1 (by omega)
 refine⟨k+1,by omega,?_⟩
 rw [show((5:Nat):Int)=5 from rfl] at hk
 rw [hk,Ga (n:=(k:Int)) (by omega) (by omega),Ga (by omega) (by omega)]
 omega
end Rp
end Go.Am
namespace Go.Am
open Go
set_option linter.unusedVariables false
set_option linter.unusedSimpArgs false
namespace Rp
structure TW (a:Abs)(ts ws:List Int):Prop where
 len:ts.length=ws.length
 led : ∀ (n:Nat) t,ts[n]? = some t → ∃ c:Nat,ws[n]? = some (c:Int)∧a.led t=some c
theorem TW.grow {a b:Abs}(hg:Grow a b){ts ws:List Int}(h:TW a ts ws):TW b ts ws:=
 ⟨h.len,fun n t hn=>by
  obtain⟨c,q1,q2⟩:=h.led n t hn
  exact⟨c,q1,(hg.led _ _ q2).1⟩⟩
theorem Nh {α:Type}{l:List α}{n:Nat}{x:α}(h:l[n]? = some x):n<l.length:=by
 rcases Nat.lt_or_ge n l.length with hh | hh
 ·exact hh
 ·rw [List.getElem?_eq_none hh] at h; cases h
theorem TW.add {N:Nat}{a:Abs}{k:Nat}{r:Replica}(hr:Rep N a k r)(h2:r.Role=2){ts ws:List Int}(h:TW a ts ws):TW a (ts++[r.Term]) (ws++[(k:Int)]):=by
 have hl:=h.len
 refine⟨by simp [hl],fun n t hn=>?_⟩
 rcases Nat.lt_or_ge n ts.length with q | q
 ·rw [List.getElem?_append_left q] at hn
  obtain⟨c,q1,q2⟩:=h.led n t hn
  exact⟨c,by rw [List.getElem?_append_left (by omega)]; exact q1,q2⟩
 ·have hlt:=Nh hn
  simp only [List.length_append,List.length_singleton] at hlt
  have e:n=ts.length:=by omega
  subst e
  rw [List.getElem?_concat_length] at hn
  cases hn
  exact⟨k,by rw [hl,List.getElem?_concat_length],(hr.r2 h2).1⟩
end Rp
end Go.Am
namespace Go.Am
open Go
set_option linter.unusedVariables false
set_option linter.unusedSimpArgs false
namespace Rp
structure Bd (B:Int)(s:Sys):Prop where
 r : ∀ (k:Nat) r,s.rs[k]? = some r→r.Term≤B∧(r.Log.length:Int)≤B
 m : ∀ m ∈ s.sent,m.Term≤B∧(m.Log.length:Int)≤B
theorem S2 (r:Replica)(m:Message) : ∀ a ∈ De r m,a.Log=m.Log:=by
 intro a ha
 obtain⟨x,_,rfl⟩:=List.mem_map.1 ha
 rfl
theorem Ajk {r x:Replica}{m:Message}{l:List Message}(ho:Kb r m=some (x,l)) : ∀ a ∈ l,a.Log=[]∨a.Log=r.Log:=by
 have hb:=(Ro r m).2.2.1
 unfold Kb at ho
 split at ho
 ·unfold Lg at ho
  split at ho
  ·have e:l=(Ml (Jc r m) m).2:=by rw [Option.some.inj ho]
   rw [e]
   intro a ha
   rw [List.mem_singleton.1 ha]
   exact .inl rfl
  split at ho
  ·have e:l=(K5 (Jc r m) m).2:=by rw [Option.some.inj ho]
   rw [e]
   unfold K5
   split
   ·simp only
    split
    ·intro a ha
     right
     rw [← hb]
     exact S2 _ _ a ha
    ·intro a ha; cases ha
   ·intro a ha; cases ha
  split at ho
  ·unfold Pt at ho
   have one : ∀ g mat,∀ a ∈ [Nt (Jc r m) m 4 g mat],a.Log=[]∨a.Log=r.Log:=by
    intro g mat a ha
    rw [List.mem_singleton.1 ha]
    exact .inl rfl
   split at ho
   ·cases ho; exact one _ _
   split at ho
   ·cases ho; intro a ha; cases ha
   split at ho
   ·cases ho; exact one _ _
   split at ho
   ·cases ho; exact one _ _
   ·cases ho
  ·have:=Aax ho
   rw [this]; intro a ha; cases ha
 ·cases ho
theorem Bd.put {B:Int}{s:Sys}(h:Bd B s){k:Nat}{x:Replica}{l:List Message}(hx:x.Term≤B+1∧(x.Log.length:Int)≤B+1)(hl : ∀ m ∈ l,m.Term≤B+1∧(m.Log.length:Int)≤B+1):Bd (B+1) (s.put k x l):=by
 refine⟨fun j r hr=>?_,fun m hm=>?_⟩
 ·have hr':(s.rs.set k x)[j]? = some r:=hr
  rw [List.getElem?_set] at hr'
  split at hr'
  ·split at hr'
   ·cases hr'; exact hx
   ·cases hr'
  ·have:=h.r j r hr'
   omega
 ·rcases List.mem_append.1 hm with q | q
  ·have:=h.m m q
   omega
  ·exact hl m q
theorem Bd.next {N:Nat}{a:Abs}{B:Int}{s s':Sys}(hs:SInv N a s.rs s.sent)(hB:0≤B)(h:Bd B s)(hn:Next s s'):Bd (B+1) s':=by
 have b0 : ∀ {k:Nat} {r:Replica},s.rs[k]? = some r→r.Term≤B∧(r.Log.length:Int)≤B:=fun hr=>h.r _ _ hr
 cases hn with
 | time k r hr ht=>
  have h1:=b0 hr
  have e1:(Da r).1.Term=r.Term+1:=by unfold Da; split <;> rfl
  have e2:(Da r).1.Log=r.Log:=by unfold Da; split <;> rfl
  refine h.put (by rw [e1,e2]; omega) fun m hm=>?_
  unfold Da at hm
  split at hm
  ·have q1:=Kd _ _ m hm
   have q2:=S2 _ _ m hm
   refine⟨?_,?_⟩
   ·have:m.Term=r.Term+1:=q1.2
    omega
   ·have:m.Log=r.Log:=q2
    rw [this]; omega
  ·have q1:=Kd _ _ m hm
   have q2:=S2 _ _ m hm
   refine⟨?_,?_⟩
   ·have:m.Term=r.Term+1:=q1.2
    omega
   ·have:m.Log=[]:=q2
    rw [this]; simp; omega
 | prop k r d hr h2 hl hd=>
  have h1:=b0 hr
  have e2:(F1 r d).1.Log.length=r.Log.length+1:=by simp [F1]
  refine h.put ⟨by show r.Term≤B+1; omega,by omega⟩ fun m hm=>?_
  have q1:=Kd _ _ m hm
  have q2:=S2 _ _ m hm
  refine⟨?_,?_⟩
  ·have:m.Term=r.Term:=q1.2
   omega
  ·have:m.Log=(F1 r d).1.Log:=q2
   rw [this]; omega
 | rest k r hr=>
  have h1:=b0 hr
  refine h.put ⟨by show r.Term≤B+1; omega,by show(r.Log.length:Int)≤B+1; omega⟩ fun m hm=>by cases hm
 | recv k r m x l hr hm hk ho=>
  have h1:=b0 hr
  have h2:=h.m m hm
  have hrep:=hs.reps k r hr
  obtain⟨_,_,_,q1,_,q2,_⟩:=Adx hrep.good ho
  refine h.put ⟨by rw [q1]; omega,?_⟩ fun m' hm'=>?_
  ·rcases Al2 ho with q | q
   ·rw [q]; omega
   ·rw [q]; omega
  ·have q3:=q2 m' hm'
   refine⟨by rw [q3.2,q1]; omega,?_⟩
   rcases Ajk ho m' hm' with q | q
   ·rw [q]; simp; omega
   ·rw [q]; omega
theorem bd0 (N:Nat):Bd 0 ⟨(List.range N).map fun i=>Sh i N,[]⟩:=by
 refine⟨fun k r hr=>?_,fun m hm=>by cases hm⟩
 obtain⟨i,_,rfl⟩:=List.mem_map.1 (List.mem_of_getElem? hr)
 exact⟨Int.le_refl _,Int.le_refl _⟩
theorem Ab1 : ∀ (steps:List T44) (j N:Nat) (a:Abs) (rs:List Replica) (sent:List Message) (B:Int),0≤B→(∀ s ∈ steps,Byt s)→SInv N a rs sent→Bd B ⟨rs,sent⟩→sent.length+5 * steps.length≤1000 →
  ∃ b rs' sent',SInv N b rs' sent'∧Bd (B+steps.length) ⟨rs',sent'⟩∧sent'.length≤1000∧each (fun _ a1=>Dn fun l l1=>G3 a1 l l1) j steps (rs,sent)=.ok (.inl (rs',sent'))
 | [],j,N,a,rs,sent,B,hB,hb,h,hbd,hn=>⟨a,rs,sent,h,by simpa using hbd,by omega,rfl⟩
 | s::steps,j,N,a,rs,sent,B,hB,hb,h,hbd,hn=>by
  simp only [List.length_cons] at hn
  obtain⟨b,rs',sent',e1,e2,e3,e4,_,e5⟩:=Aps h (hb s (List.mem_cons_self ..)) (by omega)
  have hbd':Bd (B+1) ⟨rs',sent'⟩:=by
   rcases e5 with⟨rfl,rfl⟩ | q
   ·exact⟨fun k r hr=>by have:=hbd.r k r hr; omega,fun m hm=>by have:=hbd.m m hm; omega⟩
   ·exact Bd.next (s:=⟨rs,sent⟩) h hB hbd q
  obtain⟨c,rs2,sent2,f1,f2,f3,f4⟩:=Ab1 steps (j+1) N b rs' sent' (B+1) (by omega) (fun s hs=>hb s (List.mem_cons_of_mem _ hs)) e2 hbd' (by omega)
  refine⟨c,rs2,sent2,f1,by rw [show B+((s::steps).length:Int)=B+1+(steps.length:Int) by simp only [List.length_cons]; omega]; exact f2,f3,?_⟩
  have hst:(Dn fun l l1=>G3 s l l1) (rs,sent)=.ok (.inl (rs',sent')):=by
   simp only [Dn,G3]
   rw [e1,R.ok_bind,if_pos rfl]
  rw [M7,hst]
  exact f4
instance (X Y:List Record):Decidable (G4 X Y):=by unfold G4; exact inferInstance
theorem Agz (X:List Record):G4 X X:=.inr ⟨rfl,Nat.le_refl _⟩
theorem Ae0 {X Y Z:List Record}(h1:G4 X Y)(h2:G4 Y Z):G4 X Z:=by
 unfold G4 at *
 omega
theorem Ad1 {l:List Record}(hl:l.length≤Ca){α:Type}(f:Int→R α):(if(l.length:Int) > 0 then((Cs l (IntKind.wrap .i64 ((l.length:Int) - 1))).bind fun a=>f a.Term) else f 0)=f (E7 l):=by
 by_cases h:(l.length:Int) > 0
 ·rw [if_pos h]
  have hw:IntKind.wrap .i64 ((l.length:Int) - 1)=((l.length - 1:Nat):Int):=by
   unfold Ca at hl
   rw [Ga (by omega) (by omega)]; omega
  obtain⟨e,q1,q2⟩:=Om (X:=l) (by omega)
  rw [hw,D0 q1,R.ok_bind,q2]
 ·rw [if_neg h]
  have:l=[]:=List.length_eq_zero_iff.1 (by omega)
  rw [this]
  rfl
theorem Afc {N:Nat}{a:Abs}{rs:List Replica}{sent:List Message}(h:SInv N a rs sent) : ∀ (n k best:Nat) (term:Int),k+n=N→best<N→0≤term →
  (∀ (j:Nat) r,j<k→rs[j]? = some r→r.Term≤term ∧ ∀ b,rs[best]? = some b→G4 b.Log r.Log)→(term=0 ∨ ∃ (j:Nat) (r:Replica),rs[j]? = some r∧r.Term=term) →
  ∃ (best':Nat) (term':Int),best'<N∧0≤term'∧(∀ (j:Nat) r,rs[j]? = some r→r.Term≤term' ∧ ∀ b,rs[best']? = some b→G4 b.Log r.Log)∧(term'=0 ∨ ∃ (j:Nat) (r:Replica),rs[j]? = some r∧r.Term=term') ∧
   loop (T3 fun x1 x2 x3 l2=>Er x1 x2 x3 l2) ((best:Int),term,(k:Int),rs)=.ok ((best':Int),term',rs)
 | 0,k,best,term,hk,hb,h0,hi,ht=>by
  refine⟨best,term,hb,h0,fun j r hr=>hi j r (by have:=Nh hr; have:=h.len; omega) hr,ht,?_⟩
  rw [Jy]
  have:(T3 fun x1 x2 x3 l2=>Er x1 x2 x3 l2) ((best:Int),term,(k:Int),rs)=.ok (.inr ((best:Int),term,rs)):=by
   simp only [T3,Er]
   rw [if_neg (by have:=h.len; omega)]
  rw [this]
  rfl
 | n+1,k,best,term,hk,hb,h0,hi,ht=>by
  have hN:=h.n
  have hlen:=h.len
  have hr:rs[k]? = some rs[k]:=List.getElem?_eq_getElem (by omega)
  generalize rs[k]=r at hr
  have hbr:rs[best]? = some rs[best]:=List.getElem?_eq_getElem (by omega)
  generalize rs[best]=b at hbr
  have hrep:=h.reps k r hr
  have hrepb:=h.reps best b hbr
  have hw:IntKind.wrap .i64 ((k:Int)+1)=((k+1:Nat):Int):=by rw [Ga (by omega) (by omega)]; omega
  have hst:(T3 fun x1 x2 x3 l2=>Er x1 x2 x3 l2) ((best:Int),term,(k:Int),rs)=F2 best term k rs r b (E7 r.Log) (E7 b.Log):=by
   simp only [T3,Er]
   rw [if_pos (by omega),D0 hr,R.ok_bind,D0 hbr,R.ok_bind,Ad1 hrep.llim (fun t=>Ih best term k rs r b t)]
   unfold Ih
   rw [Ad1 hrepb.llim (fun t=>F2 best term k rs r b (E7 r.Log) t)]
  have hj2:F2 best term k rs r b (E7 r.Log) (E7 b.Log)=.ok (.inl (((if G4 b.Log r.Log then best else k:Nat):Int),max term r.Term,((k+1:Nat):Int),rs)):=by
   unfold F2 J0
   rw [hw,Akr]
   by_cases hq:G4 b.Log r.Log
   ·rw [if_pos hq,if_neg]
    unfold G4 at hq
    simp only [Bool.or_eq_true,decide_eq_true_eq,Bool.and_eq_true,beq_iff_eq]
    omega
   ·rw [if_neg hq,if_pos]
    unfold G4 at hq
    simp only [Bool.or_eq_true,decide_eq_true_eq,Bool.and_eq_true,beq_iff_eq]
    omega
  obtain⟨b',t',q1,q2,q3,q4,q5⟩:=Afc h n (k+1) (if G4 b.Log r.Log then best else k) (max term r.Term) (by omega) (by split <;> omega) (by omega) (fun j x hj hx=>by
   by_cases e:j=k
   ·subst e
    rw [hr] at hx
    cases hx
    refine⟨by omega,fun y hy=>?_⟩
    by_cases hq:G4 b.Log r.Log
    ·rw [if_pos hq,hbr] at hy
     cases hy; exact hq
    ·rw [if_neg hq,hr] at hy
     cases hy; exact Agz _
   ·obtain⟨p1,p2⟩:=hi j x (by omega) hx
    refine⟨by omega,fun y hy=>?_⟩
    by_cases hq:G4 b.Log r.Log
    ·rw [if_pos hq] at hy
     exact p2 y hy
    ·rw [if_neg hq,hr] at hy
     cases hy
     refine Ae0 (Y:=b.Log) ?_ (p2 b hbr)
     unfold G4 at hq ⊢
     omega) (by
   rcases Int.le_total r.Term term with q | q
   ·rw [show max term r.Term=term by omega]; exact ht
   ·exact .inr ⟨k,r,hr,by omega⟩)
  refine⟨b',t',q1,q2,q3,q4,?_⟩
  rw [Jy,hst,hj2,R.ok_bind]
  exact q5
theorem Alg {r:Replica}{data:List Int}(h:Good r)(hl:r.Log.length≤Ca)(h2:r.Role=2)(h3:r.Log.length<4096):I2 r data=.ok (0,(F1 r data).1,(F1 r data).2):=by
 have hmany:=h.many
 have hid:=h.id
 have hml:=h.mlen
 unfold I2
 rw [Qj hl h,R.ok_bind,if_neg (by simp),if_neg (show ¬ ((r.Role != 2)=true) by simp [h2]),if_neg (show ¬ ((r.Log.length:Int)≥4096) by omega)]
 unfold Dg Gy
 rw [R.ok_bind,if_pos (by unfold Ca; omega),R.ok_bind,if_pos (by simp only [List.length_singleton]; unfold Ca; omega)]
 unfold Lt Fv
 have hlt:r.ID.toNat<r.Match.length:=by omega
 have hi:Cs r.Match r.ID=.ok (r.Match.getD r.ID.toNat 0):=by
  have:=D0 (l:=r.Match) (j:=r.ID.toNat) (a:=r.Match.getD r.ID.toNat 0) (by simp only [List.getD,List.getElem?_eq_getElem hlt,Option.getD_some])
  rwa [show((r.ID.toNat:Nat):Int)=r.ID by omega] at this
 rw [if_pos (by unfold Ca; omega),R.ok_bind,hi,R.ok_bind]
 rw [Adt (by simp; omega) (by simp; omega) (by
  intro a ha
  rcases List.mem_or_eq_of_mem_set ha with h' | h'
  ·have:=(h.shape hl).mat a h'
   simp only [List.length_append,List.length_singleton]
   omega
  ·subst h'; omega) h.commit.1 (by simp only [List.length_append,List.length_singleton]; unfold Ca; omega)]
 simp only [R.ok_bind]
 unfold E5
 have:=Ae9 (Fb (r.Log++[({ Term:=r.Term,Data:=data }:Record)]) (F1 r data).1.Commit) (F1 r data).1 (by show 0≤r.Many∧r.Many≤5; omega)
 simp only [F1,Fb] at this
 rw [this]
 rfl
theorem Ahy {t:Int}{L:List Message}(hL:L.length≤10000) : ∀ (l:List Message) (k:Nat) (s:List Message),L.drop k=l→k≤L.length→s.length≤k →
  loop (J7 fun i l1 x=>Iv t i l1 x) ((k:Int),L,s)=.ok (L,s++l.filter fun m=>m.Term==t)
 | [],k,s,hd,hk,hs=>by
  have:L.length≤k:=List.drop_eq_nil_iff.1 hd
  rw [Jy]
  have:(J7 fun i l1 x=>Iv t i l1 x) ((k:Int),L,s)=.ok (.inr (L,s)):=by
   simp only [J7,Iv]
   rw [if_neg (by omega)]
  rw [this]
  simp
 | m::l,k,s,hd,hk,hs=>by
  have hlt:k<L.length:=by
   rcases Nat.lt_or_ge k L.length with hh | hh
   ·exact hh
   ·rw [List.drop_eq_nil_of_le hh] at hd; cases hd
  have ha:L[k]? = some m:=by
   have:=List.getElem?_drop (xs:=L) (i:=k) (j:=0)
   rw [hd] at this; simpa using this.symm
  have hd':L.drop (k+1)=l:=by
   have:=congrArg List.tail hd
   simpa using this
  have hw:IntKind.wrap .i64 ((k:Int)+1)=((k+1:Nat):Int):=by rw [Ga (by omega) (by omega)]; omega
  have hst:(J7 fun i l1 x=>Iv t i l1 x) ((k:Int),L,s)=.ok (.inl (((k+1:Nat):Int),L,if m.Term==t then s++[m] else s)):=by
   simp only [J7,Iv]
   rw [if_pos (by omega),D0 ha,R.ok_bind,hw]
   cases hq:m.Term==t with
   | false=>simp
   | true=>
    simp only [if_true]
    rw [if_pos (by simp only [List.length_singleton]; unfold Ca; omega)]
  rw [Jy,hst,R.ok_bind]
  simp only
  rw [Ahy hL l (k+1) _ hd' (by omega) (by cases m.Term==t <;> simp <;> omega),List.filter_cons]
  cases hq:m.Term==t <;> simp
theorem An9 {t:Int}{L:List Message}(hL:L.length≤10000):Pl t L=.ok (L,L.filter fun m=>m.Term==t):=by
 unfold Pl
 have:=Ahy (t:=t) hL L 0 [] rfl (by omega) (by simp)
 rw [show((0:Int),L,([]:List Message))=(((0:Nat):Int),L,[]) from rfl,this]
 rfl
end Rp
end Go.Am
namespace Go.Am
open Go
set_option linter.unusedVariables false
set_option linter.unusedSimpArgs false
namespace Rp
noncomputable def S3:Int×List Replica×List Message→R ((Int×List Replica×List Message) ⊕ ((List Replica×List Message) ⊕ (Bool×List Replica×List Message))):=
 J7 fun i l2 l3=>Es i l2 l3
theorem Abh {N:Nat}(pre msgs:List Message)(J:Nat→List Replica→List Message→Prop)(hout : ∀ j rs out,J j rs out→pre.length+msgs.length+out.length≤200)
  (hstep : ∀ j m a rs out r x l,msgs[j]? = some m→SInv N a rs (pre++msgs++out)→J j rs out→rs[m.To.toNat]? = some r→Kb r m=some (x,l)→J (j+1) (rs.set m.To.toNat x) (out++l)) :
  ∀ (d j:Nat) a rs out,j+d=msgs.length→SInv N a rs (pre++msgs++out)→J j rs out →
   ∃ b rs' out',SInv N b rs' (pre++msgs++out')∧J msgs.length rs' out'∧loop S3 (((pre.length+j:Nat):Int),rs,pre++msgs++out)=loop S3 (((pre.length+msgs.length:Nat):Int),rs',pre++msgs++out')
 | 0,j,a,rs,out,hj,hs,hJ=>by
  have e:j=msgs.length:=by omega
  subst e
  exact⟨a,rs,out,hs,hJ,rfl⟩
 | d+1,j,a,rs,out,hj,hs,hJ=>by
  have hlt:j<msgs.length:=by omega
  have hm:msgs[j]? = some msgs[j]:=List.getElem?_eq_getElem hlt
  generalize msgs[j]=m at hm
  have ho:=hout j rs out hJ
  have hm':(pre++msgs++out)[pre.length+j]? = some m:=by
   rw [List.getElem?_append_left (by simp; omega),List.getElem?_append_right (by omega),show pre.length+j - pre.length=j by omega]
   exact hm
  have hlen:(pre++msgs++out).length=pre.length+msgs.length+out.length:=by simp; omega
  obtain⟨b,r,x,l,q1,q2,q3,q4,q5,q6,q7,q8,q9⟩:=Ace hs hm' (by omega)
  rw [List.append_assoc (pre++msgs) out l] at q6 q8
  obtain⟨b',rs',out',p1,p2,p3⟩:=Abh pre msgs J hout hstep d (j+1) b _ (out++l) (by omega) q6 (hstep j m a rs out r x l hm hs hJ q1 q2)
  refine⟨b',rs',out',p1,p2,?_⟩
  have hw:IntKind.wrap .i64 (((pre.length+j:Nat):Int)+1)=((pre.length+(j+1):Nat):Int):=by rw [Ga (by omega) (by omega)]; omega
  have hst:S3 (((pre.length+j:Nat):Int),rs,pre++msgs++out)=.ok (.inl (((pre.length+(j+1):Nat):Int),rs.set m.To.toNat x,pre++msgs++(out++l))):=by
   show Es _ _ _=_
   unfold Es
   rw [if_pos (by omega),if_neg (by omega),q8,R.ok_bind,if_pos rfl,hw]
  rw [Jy,hst,R.ok_bind]
  exact p3
theorem Aj8 {rs:List Replica}{sent:List Message}:loop S3 ((sent.length:Int),rs,sent)=.ok (.inl (rs,sent)):=by
 rw [Jy]
 have:S3 ((sent.length:Int),rs,sent)=.ok (.inr (.inl (rs,sent))):=by
  show Es _ _ _=_
  unfold Es
  rw [if_neg (by omega)]
 rw [this]
 rfl
theorem Agb {rs rs':List Replica}{sent sent':List Message}(h:loop S3 (0,rs,sent)=.ok (.inl (rs',sent'))):Fr rs sent=.ok (true,rs',sent'):=by
 unfold Fr
 rw [show(J7 fun i l2 l3=>Es i l2 l3)=S3 from rfl,h]
 rfl
theorem K4 {N k0 k:Nat}:k ∈ Db (N:Int) (k0:Int)↔k<N∧k≠k0:=by
 unfold Db
 rw [List.mem_filter,List.mem_range]
 simp only [decide_eq_true_eq,ne_eq]
 omega
theorem Uu (N k0:Int):(Db N k0).Nodup:=List.Sublist.nodup List.filter_sublist List.nodup_range
theorem Ah6 {N k0:Nat}:(Db (N:Int) (k0:Int)).length≤N:=by
 unfold Db
 have:=List.length_filter_le (fun x:Nat=>decide ((x:Int)≠(k0:Int))) (List.range ((N:Int).toNat))
 rw [List.length_range] at this
 omega
theorem Rc {l:List Nat}{j:Nat}{o:Nat}(h:l[j]? = some o)(k:Nat):k ∈ l.take (j+1)↔k ∈ l.take j∨k=o:=by
 rw [List.take_add_one,h]
 simp
theorem Y0 {l:List Nat}(hn:l.Nodup){j:Nat}{o:Nat}(h:l[j]? = some o):o ∉ l.take j:=by
 intro hm
 obtain⟨i,hi⟩:=List.getElem?_of_mem hm
 have hlt:=Nh hi
 rw [List.length_take] at hlt
 rw [List.getElem?_take,if_pos (by omega)] at hi
 have:=(List.getElem?_inj (i:=i) (j:=j) (by omega) hn).1 (hi.trans h.symm)
 omega
theorem X3 {α:Type}{l:List Nat}{j:Nat}{o:Nat}(h:l[j]? = some o)(f:Nat→α):(l.take (j+1)).map f=(l.take j).map f++[f o]:=by
 rw [List.take_add_one,h]
 simp
theorem Ahu {rs:List Replica}{k k':Nat}{x r y:Replica}(hy:rs[k]? = some y)(h:(rs.set k x)[k']? = some r):(k'=k∧r=x)∨(k'≠k∧rs[k']? = some r):=by
 rw [List.getElem?_set] at h
 split at h
 ·rename_i e
  rw [if_pos (Nh hy)] at h
  cases h
  exact .inl ⟨e.symm,rfl⟩
 ·rename_i e
  exact .inr ⟨fun q=>e q.symm,h⟩
theorem O7 {rs:List Replica}{k:Nat}{x y:Replica}(hy:rs[k]? = some y):(rs.set k x)[k]? = some x:=by
 rw [List.getElem?_set,if_pos rfl,if_pos (Nh hy)]
theorem P6 {rs:List Replica}{k k':Nat}{x:Replica}(h:k'≠k):(rs.set k x)[k']? = rs[k']? := by
 rw [List.getElem?_set,if_neg (fun q=>h q.symm)]
theorem Uf {r x:Replica}{m:Message}{l:List Message}(h:Kb r m=some (x,l)):Lg (Jc r m) m=some (x,l):=by
 unfold Kb at h
 split at h
 ·exact h
 ·cases h
theorem Ac1 {r:Replica}{m:Message}(h:m.Term=r.Term):Jc r m=r:=by
 unfold Jc
 rw [if_neg (by omega)]
def R5 (k0 k:Nat)(t:Int):Message:={ Kind:=2,From:=k,To:=k0,Term:=t,Last:=0,LastTerm:=0,Log:=[],Commit:=0,Match:=0,Granted:=true }
def Rj (k0 k:Nat)(t:Int)(n:Int):Message:={ Kind:=4,From:=k,To:=k0,Term:=t,Last:=0,LastTerm:=0,Log:=[],Commit:=0,Match:=n,Granted:=true }
def JA (N k0:Nat)(t:Int)(c:Replica)(j:Nat)(rs:List Replica)(out:List Message):Prop:=
 rs[k0]? = some c∧(∀ (k:Nat) (r:Replica),k≠k0→rs[k]? = some r→G4 c.Log r.Log∧(k ∈ (Db N k0).take j→r.Term=t∧r.Role=0)∧(k ∉ (Db N k0).take j→r.Term<t))∧out=((Db N k0).take j).map fun k=>R5 k0 k t
theorem Aoj {N k0:Nat}{t:Int}{c:Replica}{a:Abs}{rs:List Replica}{out:List Message}{j:Nat}{m:Message}{r x:Replica}{l pre:List Message}(hid:c.ID=k0)(hmany:c.Many=N)(ht:c.Term=t)
  (hm:(De c (K9 c))[j]? = some m) (hs:SInv N a rs pre) (hJ:JA N k0 t c j rs out) (hr:rs[m.To.toNat]? = some r) (ho:Kb r m=some (x,l)):JA N k0 t c (j+1) (rs.set m.To.toNat x) (out++l):=by
 obtain⟨h1,h2,h3⟩:=hJ
 unfold De at hm
 rw [hid,hmany,List.getElem?_map] at hm
 cases hoj:(Db (N:Int) (k0:Int))[j]? with
 | none=>rw [hoj] at hm; cases hm
 | some o=>
  rw [hoj] at hm
  cases hm
  have hok:=K4.1 (List.mem_of_getElem? hoj)
  have hto:(Nr c (K9 c) o).To.toNat=o:=by show((o:Nat):Int).toNat=o; omega
  rw [hto] at hr ⊢
  have hnot:=Y0 (Uu N k0) hoj
  obtain⟨r1,_,r3⟩:=h2 o r hok.2 hr
  have hlt:=r3 hnot
  have hrep:=hs.reps o r hr
  have hb:Jc r (Nr c (K9 c) o)=Hu { r with Term:=t,Vote := -1 }:=by
   unfold Jc
   rw [if_pos (by show c.Term > r.Term; omega),show(Nr c (K9 c) o).Term=t from ht]
  have hst:=Uf ho
  rw [hb] at hst
  have hg:Lo (Hu { r with Term:=t,Vote := -1 }) (Nr c (K9 c) o)=true:=by
   unfold Lo Yw
   have e1:(Nr c (K9 c) o).Term=(Hu { r with Term:=t,Vote := -1 }).Term:=ht
   have e2:(Hu { r with Term:=t,Vote := -1 }).Vote = -1:=rfl
   have e3:(Hu { r with Term:=t,Vote := -1 }).Log=r.Log:=rfl
   have e4:(Nr c (K9 c) o).LastTerm=E7 c.Log:=rfl
   have e5:(Nr c (K9 c) o).Last=c.Log.length:=rfl
   rw [e1,e2,e3,e4,e5]
   unfold G4 at r1
   simp only [decide_true,Bool.true_or,Bool.and_self,Bool.true_and,Bool.or_eq_true,Bool.and_eq_true,decide_eq_true_eq]
   omega
  have e:Lg (Hu { r with Term:=t,Vote := -1 }) (Nr c (K9 c) o)=some (Ml (Hu { r with Term:=t,Vote := -1 }) (Nr c (K9 c) o)):=by
   unfold Lg
   exact if_pos rfl
  rw [e] at hst
  unfold Ml at hst
  rw [hg] at hst
  simp only [if_true] at hst
  cases hst
  refine⟨?_,fun k y hk hy=>?_,?_⟩
  ·rw [P6 (fun q=>hok.2 q.symm)]; exact h1
  ·rw [Rc hoj]
   rcases Ahu hr hy with⟨rfl,rfl⟩ | ⟨q,hy'⟩
   ·exact⟨r1,fun _=>⟨rfl,rfl⟩,fun q=>absurd (.inr rfl) q⟩
   ·obtain⟨p1,p2,p3⟩:=h2 k y hk hy'
    exact⟨p1,fun p=>p2 (p.resolve_right q),fun p=>p3 fun p'=>p (.inl p')⟩
  ·rw [X3 hoj,h3]
   congr 1
   have hidr:=hrep.id
   show [Nt _ _ 2 true 0]=_
   unfold Nt R5
   show [({ Kind:=2,From:=r.ID,To:=c.ID,Term:=t,Last:=0,LastTerm:=0,Log:=[],Commit:=0,Match:=0,Granted:=true }:Message)]=_
   rw [hid,hidr]
def JB (N k0:Nat)(t:Int)(L:List Record)(j:Nat)(rs:List Replica)(out:List Message):Prop:=
 (∀ (k:Nat) (r:Replica),k≠k0→rs[k]? = some r→r.Term=t∧r.Role=0∧G4 L r.Log) ∧ ∃ c:Replica,rs[k0]? = some c∧c.Term=t∧c.Log=L∧c.ID=k0∧c.Many=N ∧
  ((c.Role=1∧out=[]∧c.Votes.count true=1+j∧2 * (1+j)≤N ∧ ∀ k ∈ (Db N k0).drop j,c.Votes[k]? = some false)∨(c.Role=2∧c.Match[k0]? = some (L.length:Int)∧out=De c (Fb c.Log c.Commit)))
theorem Yy : ∀ (l:List Bool) (i:Nat),l[i]? = some false→(l.set i true).count true=l.count true+1
 | [],i,h=>by simp at h
 | b::l,0,h=>by
  simp at h
  subst h
  simp
 | b::l,i+1,h=>by
  have:=Yy l i (by simpa using h)
  rw [List.set_cons_succ,List.count_cons,List.count_cons,this]
  omega
theorem Apa {N k0:Nat}{t:Int}{L:List Record}{a:Abs}{rs:List Replica}{out:List Message}{j:Nat}{m:Message}{r x:Replica}{l pre:List Message}
  (hm:((Db N k0).map fun k=>R5 k0 k t)[j]? = some m) (hs:SInv N a rs pre) (hJ:JB N k0 t L j rs out) (hr:rs[m.To.toNat]? = some r) (ho:Kb r m=some (x,l)):JB N k0 t L (j+1) (rs.set m.To.toNat x) (out++l):=by
 obtain⟨h1,c,h2,h3,h4,h5,h6,h7⟩:=hJ
 rw [List.getElem?_map] at hm
 cases hoj:(Db (N:Int) (k0:Int))[j]? with
 | none=>rw [hoj] at hm; cases hm
 | some o=>
  rw [hoj] at hm
  cases hm
  have hok:=K4.1 (List.mem_of_getElem? hoj)
  have hto:(R5 k0 o t).To.toNat=k0:=by show((k0:Nat):Int).toNat=k0; omega
  rw [hto] at hr ⊢
  rw [h2] at hr
  obtain rfl:c=r:=Option.some.inj hr
  have hst:=Uf ho
  rw [Ac1 (show(R5 k0 o t).Term=c.Term from h3.symm)] at hst
  have e:Lg c (R5 k0 o t)=some (K5 c (R5 k0 o t)):=by
   unfold Lg
   rw [if_neg (by show ¬ (2:Int)=1; decide),if_pos (by rfl)]
  rw [e] at hst
  have oth : ∀ (y:Replica),∀ (k:Nat) (r:Replica),k≠k0→(rs.set k0 y)[k]? = some r→r.Term=t∧r.Role=0∧G4 L r.Log:=by
   intro y k r hk hy
   rw [P6 hk] at hy
   exact h1 k r hk hy
  rcases h7 with⟨q1,q2,q3,q4,q5⟩ | ⟨q1,q2,q3⟩
  ·have hdrop:(Db (N:Int) (k0:Int)).drop j=o::(Db (N:Int) (k0:Int)).drop (j+1):=by
    have hlt:=Nh hoj
    rw [List.drop_eq_getElem_cons hlt]
    congr 1
    rw [List.getElem?_eq_getElem hlt] at hoj
    exact Option.some.inj hoj
   have hfo:c.Votes[o]? = some false:=q5 o (by rw [hdrop]; exact List.mem_cons_self ..)
   have hcnt:=Yy c.Votes o hfo
   unfold K5 at hst
   rw [if_pos ⟨q1,h3.symm,rfl⟩] at hst
   have ef:(R5 k0 o t).From.toNat=o:=by show((o:Nat):Int).toNat=o; omega
   simp only [ef] at hst
   by_cases hq:2 * (((c.Votes.set o true).count true:Nat):Int) > c.Many
   ·rw [if_pos hq] at hst
    cases hst
    refine⟨oth _,_,O7 h2,h3,h4,h5,h6,.inr ⟨rfl,?_,?_⟩⟩
    ·show((List.replicate c.Many.toNat (0:Int)).set c.ID.toNat (c.Log.length:Int))[k0]? = some (L.length:Int)
     have hid:=(hs.reps k0 c h2).good.id
     rw [show c.ID.toNat=k0 by omega,List.getElem?_set,if_pos rfl,if_pos (by simp; omega),h4]
    ·rw [q2]; rfl
   ·rw [if_neg hq] at hst
    cases hst
    refine⟨oth _,_,O7 h2,h3,h4,h5,h6,.inl ⟨q1,by rw [q2]; rfl,by show(c.Votes.set o true).count true=_; omega,by omega,fun k hk=>?_⟩⟩
    have hne:k≠o:=by
     rintro rfl
     have hn:=Uu (N:Int) (k0:Int)
     have hn2:((Db (N:Int) (k0:Int)).drop j).Nodup:=List.Sublist.nodup (List.drop_sublist _ _) hn
     rw [hdrop] at hn2
     exact(List.nodup_cons.1 hn2).1 hk
    show(c.Votes.set o true)[k]? = some false
    rw [List.getElem?_set,if_neg (fun p=>hne p.symm)]
    exact q5 k (by rw [hdrop]; exact List.mem_cons_of_mem _ hk)
  ·unfold K5 at hst
   rw [if_neg (by rintro⟨p,_⟩; omega)] at hst
   cases hst
   exact⟨oth _,_,O7 h2,h3,h4,h5,h6,.inr ⟨q1,q2,by rw [q3,List.append_nil]⟩⟩
end Rp
end Go.Am
namespace Go.Am
open Go
set_option linter.unusedVariables false
set_option linter.unusedSimpArgs false
namespace Rp
def JC (N k0:Nat)(t:Int)(G:List Record)(c:Replica)(j:Nat)(rs:List Replica)(out:List Message):Prop:=
 rs[k0]? = some c∧(∀ (k:Nat) (r:Replica),k≠k0→rs[k]? = some r→r.Term=t∧r.Role=0∧(k ∈ (Db N k0).take j→r.Log=G∧c.Commit≤r.Commit)∧(k ∉ (Db N k0).take j→G <+: r.Log→r.Log=G))∧out=((Db N k0).take j).map fun k=>Rj k0 k t G.length
theorem Ao5 {N k0:Nat}{t:Int}{G:List Record}{c:Replica}{a:Abs}{rs:List Replica}{out:List Message}{j:Nat}{m:Message}{r x:Replica}{l pre:List Message}(hid:c.ID=k0)(hmany:c.Many=N)(ht:c.Term=t)(hG:c.Log=G)
  (hm:(De c (Fb c.Log c.Commit))[j]? = some m) (hs:SInv N a rs pre) (hJ:JC N k0 t G c j rs out) (hr:rs[m.To.toNat]? = some r) (ho:Kb r m=some (x,l)):JC N k0 t G c (j+1) (rs.set m.To.toNat x) (out++l):=by
 obtain⟨h1,h2,h3⟩:=hJ
 unfold De at hm
 rw [hid,hmany,List.getElem?_map] at hm
 cases hoj:(Db (N:Int) (k0:Int))[j]? with
 | none=>rw [hoj] at hm; cases hm
 | some o=>
  rw [hoj] at hm
  cases hm
  have hok:=K4.1 (List.mem_of_getElem? hoj)
  have hto:(Nr c (Fb c.Log c.Commit) o).To.toNat=o:=by show((o:Nat):Int).toNat=o; omega
  rw [hto] at hr ⊢
  have hnot:=Y0 (Uu N k0) hoj
  obtain⟨r1,r2,_,r4⟩:=h2 o r hok.2 hr
  have hrep:=hs.reps o r hr
  have hst:=Uf ho
  rw [Ac1 (show(Nr c (Fb c.Log c.Commit) o).Term=r.Term by show c.Term=r.Term; omega)] at hst
  have e:Lg r (Nr c (Fb c.Log c.Commit) o)=Pt r (Nr c (Fb c.Log c.Commit) o):=by
   unfold Lg
   rw [if_neg (by show ¬ (3:Int)=1; decide),if_neg (by show ¬ (3:Int)=2; decide),if_pos (by rfl)]
  rw [e] at hst
  have eL:(Nr c (Fb c.Log c.Commit) o).Log=G:=hG
  have eC:(Nr c (Fb c.Log c.Commit) o).Commit=c.Commit:=rfl
  have go : ∀ (y:Replica) (l':List Message),(x,l)=(y,l')→y.Term=t→y.Role=0→y.Log=G→c.Commit≤y.Commit→l'=[Rj k0 o t G.length]→JC N k0 t G c (j+1) (rs.set o x) (out++l):=by
   intro y l' exy y1 y2 y3 y4 y5
   cases exy
   refine⟨?_,fun k z hk hz=>?_,?_⟩
   ·rw [P6 (fun q=>hok.2 q.symm)]; exact h1
   ·rw [Rc hoj]
    rcases Ahu hr hz with⟨rfl,rfl⟩ | ⟨q,hz'⟩
    ·exact⟨y1,y2,fun _=>⟨y3,y4⟩,fun q=>absurd (.inr rfl) q⟩
    ·obtain⟨p1,p2,p3,p4⟩:=h2 k z hk hz'
     exact⟨p1,p2,fun p=>p3 (p.resolve_right q),fun p=>p4 fun p'=>p (.inl p')⟩
   ·rw [X3 hoj,h3,y5]
  have hidr:=hrep.id
  have hack:[Nt r (Nr c (Fb c.Log c.Commit) o) 4 true ((Nr c (Fb c.Log c.Commit) o).Log.length:Int)]=[Rj k0 o t G.length]:=by
   rw [eL]
   unfold Nt Rj
   show [({ Kind:=4,From:=r.ID,To:=c.ID,Term:=r.Term,Last:=0,LastTerm:=0,Log:=[],Commit:=0,Match:=(G.length:Int),Granted:=true }:Message)]=_
   rw [hid,hidr,r1]
  unfold Pt at hst
  rw [if_neg (by show ¬ c.Term<r.Term; omega),if_neg (by omega)] at hst
  rw [eL,eC] at hst
  by_cases q:G <+: r.Log
  ·rw [if_pos q] at hst
   refine go _ _ (Option.some.inj hst).symm r1 rfl (r4 hnot q) (by show c.Commit≤max r.Commit c.Commit; omega) ?_
   rw [← hack,eL]
  ·rw [if_neg q] at hst
   split at hst
   ·refine go _ _ (Option.some.inj hst).symm r1 rfl rfl (by show c.Commit≤max r.Commit c.Commit; omega) ?_
    rw [← hack,eL]
   ·cases hst
theorem Ae4 {t:Int}{G:List Record}{commit:Int}{mat:List Int}(h1:1≤mat.length)(ha : ∀ a ∈ mat,a=(G.length:Int))(hl:E7 G=t)(hg:1≤t)(hc:commit≤G.length):Nq t G commit mat=G.length:=by
 have hm:=ha _ (Um h1)
 unfold Nq
 rw [hm]
 split
 ·rfl
 ·rename_i hn
  have hne:1≤G.length:=by
   rcases Nat.eq_zero_or_pos G.length with q | q
   ·rw [List.length_eq_zero_iff.1 q] at hl
    have:E7 []=0:=rfl
    omega
   ·omega
  obtain⟨e,q1,q2⟩:=Om hne
  have hlt:((G.length:Int) - 1).toNat<G.length:=by omega
  have hget:(G.getD ((G.length:Int) - 1).toNat Nj).Term=t:=by
   rw [show((G.length:Int) - 1).toNat=G.length - 1 by omega]
   simp only [List.getD,q1,Option.getD_some]
   omega
  have:¬ (G.length:Int) > commit:=fun q=>hn ⟨q,hget⟩
  omega
theorem Ak1 (t:Int)(G:List Record)(commit:Int)(mat:List Int):commit≤Nq t G commit mat:=by
 rcases Vt t G commit mat with e | ⟨e,e2,_⟩
 ·rw [e]; exact Int.le_refl _
 ·rw [e]; omega
def JD (N k0:Nat)(t:Int)(G:List Record)(C:Int)(j:Nat)(rs:List Replica)(out:List Message):Prop:=
 out=[]∧(∀ (k:Nat) (r:Replica),k≠k0→rs[k]? = some r→r.Term=t∧r.Role=0∧r.Log=G∧C≤r.Commit) ∧
 ∃ c:Replica,rs[k0]? = some c∧c.Role=2∧c.Term=t∧c.Log=G∧c.ID=k0∧c.Many=N∧C≤c.Commit∧c.Match[k0]? = some (G.length:Int)∧(∀ k ∈ (Db N k0).take j,c.Match[k]? = some (G.length:Int)) ∧
  (E7 G=t→j=(Db N k0).length→c.Commit=G.length)
theorem Ao2 {N k0:Nat}{t C:Int}{G:List Record}{a:Abs}{rs:List Replica}{out:List Message}{j:Nat}{m:Message}{r x:Replica}{l pre:List Message}(h1t:1≤t)
  (hm:((Db N k0).map fun k=>Rj k0 k t G.length)[j]? = some m) (hs:SInv N a rs pre) (hJ:JD N k0 t G C j rs out) (hr:rs[m.To.toNat]? = some r) (ho:Kb r m=some (x,l)):JD N k0 t G C (j+1) (rs.set m.To.toNat x) (out++l):=by
 obtain⟨h0,h1,c,h2,h3,h4,h5,h6,h7,h8,h9,h10,h11⟩:=hJ
 rw [List.getElem?_map] at hm
 cases hoj:(Db (N:Int) (k0:Int))[j]? with
 | none=>rw [hoj] at hm; cases hm
 | some o=>
  rw [hoj] at hm
  cases hm
  have hok:=K4.1 (List.mem_of_getElem? hoj)
  have hto:(Rj k0 o t G.length).To.toNat=k0:=by show((k0:Nat):Int).toNat=k0; omega
  rw [hto] at hr ⊢
  rw [h2] at hr
  obtain rfl:c=r:=Option.some.inj hr
  have hst:=Uf ho
  rw [Ac1 (show(Rj k0 o t G.length).Term=c.Term from h4.symm)] at hst
  have e:Lg c (Rj k0 o t G.length)=Qa c (Rj k0 o t G.length):=by
   unfold Lg
   rw [if_neg (by show ¬ (4:Int)=1; decide),if_neg (by show ¬ (4:Int)=2; decide),if_neg (by show ¬ (4:Int)=3; decide)]
  rw [e] at hst
  have hrep:=hs.reps k0 c h2
  have hml:=hrep.good.mlen
  have ef:(Rj k0 o t G.length).From.toNat=o:=by show((o:Nat):Int).toNat=o; omega
  have em:(Rj k0 o t G.length).Match=(G.length:Int):=rfl
  have holt:o<c.Match.length:=by omega
  have hget:c.Match[o]? = some (c.Match.getD o 0):=by simp only [List.getD,List.getElem?_eq_getElem holt,Option.getD_some]
  have hbd:=(hrep.good.mat o _ hget).1
  have hmax:max (G.length:Int) (c.Match.getD o 0)=G.length:=by rw [h5] at hbd; omega
  unfold Qa at hst
  rw [if_pos ⟨h3,h4.symm,rfl⟩,em,if_pos (by rw [h5]; exact Int.le_refl _),ef,hmax] at hst
  simp only at hst
  cases hst
  have hset : ∀ k:Nat,(k=o∨c.Match[k]? = some (G.length:Int))→(c.Match.set o (G.length:Int))[k]? = some (G.length:Int):=by
   intro k hk
   rw [List.getElem?_set]
   split
   ·rename_i e; subst e; rfl
   ·rename_i e
    exact hk.resolve_left fun q=>e q.symm
  refine⟨by rw [h0]; rfl,fun k y hk hy=>?_,_,O7 h2,h3,h4,h5,h6,h7,?_,hset k0 (.inr h9),fun k hk=>?_,fun hl hj=>?_⟩
  ·rw [P6 hk] at hy
   exact h1 k y hk hy
  ·have:=Ak1 c.Term c.Log c.Commit (c.Match.set o (G.length:Int))
   show C≤Nq _ _ _ _
   omega
  ·rw [Rc hoj] at hk
   rcases hk with q | q
   ·exact hset k (.inr (h10 k q))
   ·exact hset k (.inl q)
  ·show Nq c.Term c.Log c.Commit (c.Match.set o (G.length:Int))=G.length
   have hcc:=hrep.good.commit
   rw [h4,h5]
   refine Ae4 (by rw [List.length_set]; omega) (fun a ha=>?_) hl h1t (by rw [← h5]; exact hcc.2)
   obtain⟨k,hk⟩:=List.getElem?_of_mem ha
   have hklt:=Nh hk
   rw [List.length_set] at hklt
   have hval:(c.Match.set o (G.length:Int))[k]? = some (G.length:Int):=by
    by_cases q:k=k0
    ·subst q; exact hset k (.inr h9)
    ·have hmem:k ∈ (Db (N:Int) (k0:Int)):=K4.2 ⟨by omega,q⟩
     have hall:(Db (N:Int) (k0:Int)).take (j+1)=Db (N:Int) (k0:Int):=by rw [hj,List.take_length]
     rw [← hall,Rc hoj] at hmem
     rcases hmem with p | p
     ·exact hset k (.inr (h10 k p))
     ·exact hset k (.inl p)
   rw [hk] at hval
   exact Option.some.inj hval
structure Led (N k0:Nat)(t:Int)(G:List Record)(C:Int)(rs:List Replica)(c:Replica):Prop where
 me:rs[k0]? = some c
 role:c.Role=2
 term:c.Term=t
 log:c.Log=G
 id:c.ID=k0
 many:c.Many=N
 com:C≤c.Commit
 mat : ∀ k:Nat,k<N→c.Match[k]? = some (G.length:Int)
 full:E7 G=t→c.Commit=G.length
 oth : ∀ (k:Nat) (r:Replica),k≠k0→rs[k]? = some r→r.Term=t∧r.Role=0∧r.Log=G∧C≤r.Commit
theorem Aaj {N k0:Nat}{t:Int}{G:List Record}{a:Abs}{rs:List Replica}{c:Replica}{pre:List Message}(h1t:1≤t)(hp:pre.length≤100)(hs:SInv N a rs (pre++De c (Fb c.Log c.Commit)))
  (h1:rs[k0]? = some c) (h2:c.Role=2) (h3:c.Term=t) (h4:c.Log=G) (h5:c.Match[k0]? = some (G.length:Int)) (h6:N=1→E7 G=t→c.Commit=G.length)
  (h7 : ∀ (k:Nat) (r:Replica),k≠k0→rs[k]? = some r→r.Term=t∧r.Role=0∧(G <+: r.Log→r.Log=G)) :
  ∃ b rs' sent' c',SInv N b rs' sent'∧sent'.length≤200∧Led N k0 t G c.Commit rs' c'∧loop S3 ((pre.length:Int),rs,pre++De c (Fb c.Log c.Commit))=.ok (.inl (rs',sent')):=by
 have hrep:=hs.reps k0 c h1
 have hid:=hrep.id
 have hmany:=hrep.many
 have hN:=hs.n
 have hol:=Ah6 (N:=N) (k0:=k0)
 have hk0:k0<N:=by have:=Nh h1; have:=hs.len; omega
 have eS:(De c (Fb c.Log c.Commit)).length=(Db (N:Int) (k0:Int)).length:=by unfold De; rw [List.length_map,hid,hmany]
 obtain⟨b1,rs1,out1,s1,j1,l1⟩:=Abh (N:=N) pre (De c (Fb c.Log c.Commit)) (JC N k0 t G c) (fun j rs out hJ=>by
   rw [hJ.2.2,List.length_map,List.length_take,eS]; omega)
  (fun j m a rs out r x l hm hs hJ hr ho=>Ao5 hid hmany h3 h4 hm hs hJ hr ho) (De c (Fb c.Log c.Commit)).length 0 a rs [] (by omega) (by rw [List.append_nil]; exact hs)
  ⟨h1,fun k r hk hr=>by
   obtain⟨p1,p2,p3⟩:=h7 k r hk hr
   exact⟨p1,p2,fun q=>by simp at q,fun _=>p3⟩,by simp⟩
 rw [List.append_nil,Nat.add_zero] at l1
 obtain⟨c1,c2,c3⟩:=j1
 rw [eS,List.take_length] at c3
 rw [eS] at c2
 have s1':=s1
 rw [← List.append_nil ((pre++De c (Fb c.Log c.Commit))++out1)] at s1'
 have hlm:((Db (N:Int) (k0:Int)).map fun k=>Rj k0 k t G.length).length=(Db (N:Int) (k0:Int)).length:=List.length_map _
 rw [c3] at s1' l1
 obtain⟨b2,rs2,out2,s2,j2,l2⟩:=Abh (N:=N) (pre++De c (Fb c.Log c.Commit)) ((Db (N:Int) (k0:Int)).map fun k=>Rj k0 k t G.length) (JD N k0 t G c.Commit) (fun j rs out hJ=>by
   rw [hJ.1,List.length_append,eS,hlm]; simp; omega)
  (fun j m a rs out r x l hm hs hJ hr ho=>Ao2 h1t hm hs hJ hr ho) (Db (N:Int) (k0:Int)).length 0 b1 rs1 [] (by rw [hlm]; omega) s1'
  ⟨rfl,fun k r hk hr=>by
   obtain⟨p1,p2,p3,_⟩:=c2 k r hk hr
   have hmem:k ∈ (Db (N:Int) (k0:Int)).take (Db (N:Int) (k0:Int)).length:=by
    rw [List.take_length]
    exact K4.2 ⟨by have:=Nh hr; have:=s1.len; omega,hk⟩
   exact⟨p1,p2,p3 hmem⟩,c,c1,h2,h3,h4,hid,hmany,Int.le_refl _,h5,fun k hk=>by simp at hk,fun q1 q2=>h6 (by
    rcases Nat.lt_or_ge 1 N with hh | hh
    ·exfalso
     have:(if k0=0 then 1 else 0) ∈ Db (N:Int) (k0:Int):=K4.2 (by split <;> omega)
     rw [List.length_eq_zero_iff.1 q2.symm] at this
     cases this
    ·omega) q1⟩
 rw [List.append_nil,Nat.add_zero,List.length_append] at l2
 obtain⟨d0,d1,c',d2,d3,d4,d5,d6,d7,d8,d9,d10,d11⟩:=j2
 rw [hlm] at d10 d11
 rw [d0,List.append_nil] at s2 l2
 have hlen:(pre++De c (Fb c.Log c.Commit)++(Db (N:Int) (k0:Int)).map fun k=>Rj k0 k t G.length).length=pre.length+(De c (Fb c.Log c.Commit)).length+((Db (N:Int) (k0:Int)).map fun k=>Rj k0 k t G.length).length:=by
  rw [List.length_append,List.length_append]
 refine⟨b2,rs2,_,c',s2,by rw [hlen,eS,hlm]; omega,⟨d2,d3,d4,d5,d6,d7,d8,fun k hk=>?_,fun q=>d11 q rfl,d1⟩,?_⟩
 ·by_cases q:k=k0
  ·subst q; exact d9
  ·exact d10 k (by rw [List.take_length]; exact K4.2 ⟨hk,q⟩)
 ·rw [l1,l2,← hlen]
  exact Aj8
end Rp
end Go.Am
namespace Go.Am
open Go
set_option linter.unusedVariables false
set_option linter.unusedSimpArgs false
namespace Rp
theorem SInv.sub {N:Nat}{a:Abs}{rs:List Replica}{sent sent':List Message}(h:SInv N a rs sent)(hs : ∀ m ∈ sent',m ∈ sent):SInv N a rs sent':=
 ⟨h.n,h.inv,h.len,h.reps,fun m hm=>h.msgs m (hs m hm)⟩
theorem Abu (G:List Record)(e:Record):E7 (G++[e])=e.Term:=by
 unfold E7
 rw [List.getLast?_concat]
theorem Adv {N k0:Nat}{t C:Int}{G:List Record}{a:Abs}{rs:List Replica}{sent:List Message}{c:Replica}{d:List Int}(hs:SInv N a rs sent)(hn:sent.length≤1000)(hl:Led N k0 t G C rs c)(hd : ∀ b ∈ d,0≤b∧b<256)(hG:G.length<4096) :
  ∃ b rs' sent' c',SInv N b rs' sent'∧sent'.length≤200∧Led N k0 t (G++[({ Term:=t,Data:=d }:Record)]) (F1 c d).1.Commit rs' c'∧c.Commit≤(F1 c d).1.Commit ∧
   I2 c d=.ok (0,(F1 c d).1,(F1 c d).2)∧Jb k0 (F1 c d).1 rs sent=.ok (true,rs.set k0 (F1 c d).1,sent)∧Fr (rs.set k0 (F1 c d).1) (F1 c d).2=.ok (true,rs',sent'):=by
 have hN:=hs.n
 have hrep:=hs.reps k0 c hl.me
 have hg:=hrep.good
 have h1t:1≤t:=by
  have:=(hg.lead (by rw [hl.role]; decide)).2.1
  rw [hl.term] at this; exact this
 have hk0:k0<N:=by have:=Nh hl.me; have:=hs.len; omega
 have hstep:=Adf (d:=d) hs.inv hN.1 hrep hl.role (by rw [hl.log]; omega) hd
 obtain⟨b,b1,b2,b3,b4,_⟩:=hs.step hk0 hstep
 have s4:SInv N b (rs.set k0 (F1 c d).1) ([]++De (F1 c d).1 (Fb (F1 c d).1.Log (F1 c d).1.Commit)):=b4.sub fun m hm=>List.mem_append_right _ hm
 have eL:(F1 c d).1.Log=G++[({ Term:=t,Data:=d }:Record)]:=by
  show c.Log++[({ Term:=c.Term,Data:=d }:Record)]=_
  rw [hl.log,hl.term]
 have hid:=hg.id
 have hidk:c.ID.toNat=k0:=by have:=hl.id; omega
 have eM:(F1 c d).1.Match=c.Match.set k0 ((G++[({ Term:=t,Data:=d }:Record)]).length:Int):=by
  show c.Match.set c.ID.toNat ((c.Log++[({ Term:=c.Term,Data:=d }:Record)]).length:Int)=_
  rw [hidk,hl.log,hl.term]
 have hml:=hg.mlen
 have hmany:=hrep.many
 obtain⟨b',rs',sent',c',q1,q2,q3,q4⟩:=Aaj (G:=G++[({ Term:=t,Data:=d }:Record)]) (pre:=[]) h1t (by simp) s4 (O7 hl.me) hl.role hl.term eL (by
   rw [eM,List.getElem?_set,if_pos rfl,if_pos (by omega)])
  (fun hN1 hlast=>by
   show Nq c.Term (c.Log++[({ Term:=c.Term,Data:=d }:Record)]) c.Commit (c.Match.set c.ID.toNat ((c.Log++[({ Term:=c.Term,Data:=d }:Record)]).length:Int))=_
   rw [hidk,hl.log,hl.term]
   have hcc:=hg.commit
   rw [hl.log] at hcc
   refine Ae4 (by rw [List.length_set]; omega) (fun x hx=>?_) hlast h1t (by rw [List.length_append]; omega)
   obtain⟨k,hk⟩:=List.getElem?_of_mem hx
   have hklt:=Nh hk
   rw [List.length_set] at hklt
   rw [List.getElem?_set,if_pos (by omega),if_pos (by omega)] at hk
   exact(Option.some.inj hk).symm)
  (fun k r hk hr=>by
   rw [P6 hk] at hr
   obtain⟨p1,p2,p3,_⟩:=hl.oth k r hk hr
   refine⟨p1,p2,fun p=>?_⟩
   have:=p.length_le
   rw [p3,List.length_append,List.length_singleton] at this
   omega)
 have hx:=b3
 refine⟨b',rs',sent',c',q1,q2,q3,Ak1 _ _ _ _,Alg hg hrep.llim hl.role (by rw [hl.log]; omega),Afn (N:=N) hl.me hx.good hx.llim hx.id (by rw [hx.many,hs.len]) (Int.le_refl _) (by unfold Ca; omega),Agb q4⟩
theorem Alw {N k0:Nat}(hk0:k0<N){term:Int}(ht:term≤1000){rs0:List Replica} : ∀ (d:Nat) (a:Abs) (rs:List Replica) (sent:List Message) (r:Replica),r.Term+d=term→SInv N a rs sent→rs[k0]? = some r→(∀ k:Nat,k≠k0→rs[k]? = rs0[k]?)→sent.length+5 * (d+1)≤10000 →
  ∃ a0 b rs' sent' r',SInv N a0 rs' sent'∧rs'[k0]? = some r'∧r'.Term=term∧r'.Log=r.Log∧(∀ k:Nat,k≠k0→rs'[k]? = rs0[k]?)∧SInv N b (rs'.set k0 (Da r').1) (sent'++(Da r').2)∧sent'.length≤9995 ∧
   loop (J7 fun x9 l4 l5=>Ea k0 term x9 l4 l5) (r.Term,rs,sent)=.ok (.inl (rs'.set k0 (Da r').1,sent'++(Da r').2)):=by
 intro d
 induction d with
 | zero=>
  intro a rs sent r hd hs hr ho hn
  have hN:=hs.n
  have hlen:=hs.len
  have hrep:=hs.reps k0 r hr
  have htm:=hrep.good.term
  have hw8:IntKind.wrap .u8 (k0:Int)=(k0:Int):=by
   simp [IntKind.wrap,IntKind.bits,IntKind.signed]
   omega
  have hmod:Int.tmod (IntKind.wrap .i64 ({ Kind:=0,At:=IntKind.wrap .u8 (k0:Int),Data:=0 }:T44).At) (rs.length:Int)=(k0:Int):=by
   show Int.tmod (IntKind.wrap .i64 (IntKind.wrap .u8 (k0:Int))) (rs.length:Int)=_
   rw [hw8,Ga (by omega) (by omega)]
   exact Int.tmod_eq_of_lt (by omega) (by omega)
  obtain⟨_,d2⟩:=Acv hs (s:={ Kind:=0,At:=IntKind.wrap .u8 (k0:Int),Data:=0 }) rfl hmod hr (by omega)
  obtain⟨b,b1,b2,b3,b4,b5,b6,_⟩:=d2 (by omega)
  refine⟨a,b,rs,sent,r,hs,hr,by omega,rfl,ho,b4,by omega,?_⟩
  have hw:IntKind.wrap .i64 (r.Term+1)=r.Term+1:=Ga (by omega) (by omega)
  have hst:(J7 fun x9 l4 l5=>Ea k0 term x9 l4 l5) (r.Term,rs,sent)=.ok (.inl (r.Term+1,rs.set k0 (Da r).1,sent++(Da r).2)):=by
   simp only [J7,Ea]
   rw [if_pos (by omega),b6,R.ok_bind,if_pos rfl,hw]
  have hst2:(J7 fun x9 l4 l5=>Ea k0 term x9 l4 l5) (r.Term+1,rs.set k0 (Da r).1,sent++(Da r).2)=.ok (.inr (.inl (rs.set k0 (Da r).1,sent++(Da r).2))):=by
   simp only [J7,Ea]
   rw [if_neg (by omega)]
  rw [Jy,hst,R.ok_bind]
  simp only
  rw [Jy,hst2]
  rfl
 | succ d ih=>
  intro a rs sent r hd hs hr ho hn
  have hN:=hs.n
  have hlen:=hs.len
  have hrep:=hs.reps k0 r hr
  have htm:=hrep.good.term
  have hw8:IntKind.wrap .u8 (k0:Int)=(k0:Int):=by
   simp [IntKind.wrap,IntKind.bits,IntKind.signed]
   omega
  have hmod:Int.tmod (IntKind.wrap .i64 ({ Kind:=0,At:=IntKind.wrap .u8 (k0:Int),Data:=0 }:T44).At) (rs.length:Int)=(k0:Int):=by
   show Int.tmod (IntKind.wrap .i64 (IntKind.wrap .u8 (k0:Int))) (rs.length:Int)=_
   rw [hw8,Ga (by omega) (by omega)]
   exact Int.tmod_eq_of_lt (by omega) (by omega)
  obtain⟨_,d2⟩:=Acv hs (s:={ Kind:=0,At:=IntKind.wrap .u8 (k0:Int),Data:=0 }) rfl hmod hr (by omega)
  obtain⟨b,b1,b2,b3,b4,b5,b6,_⟩:=d2 (by omega)
  have e1:(Da r).1.Term=r.Term+1:=by unfold Da; split <;> rfl
  have e2:(Da r).1.Log=r.Log:=by unfold Da; split <;> rfl
  obtain⟨a0,b',rs',sent',r',q1,q2,q3,q4,q5,q6,q7,q8⟩:=ih b (rs.set k0 (Da r).1) (sent++(Da r).2) (Da r).1 (by rw [e1]; omega) b4 (O7 hr) (fun k hk=>by rw [P6 hk]; exact ho k hk) (by rw [List.length_append]; omega)
  refine⟨a0,b',rs',sent',r',q1,q2,q3,by rw [q4,e2],q5,q6,q7,?_⟩
  have hw:IntKind.wrap .i64 (r.Term+1)=(Da r).1.Term:=by rw [e1]; exact Ga (by omega) (by omega)
  have hst:(J7 fun x9 l4 l5=>Ea k0 term x9 l4 l5) (r.Term,rs,sent)=.ok (.inl ((Da r).1.Term,rs.set k0 (Da r).1,sent++(Da r).2)):=by
   simp only [J7,Ea]
   rw [if_pos (by omega),b6,R.ok_bind,if_pos rfl,hw]
  rw [Jy,hst,R.ok_bind]
  exact q8
theorem Agf {rs:List Replica}{k:Nat}(h:k<rs.length) : ∃ r,rs[k]? = some r:=⟨rs[k],List.getElem?_eq_getElem h⟩
theorem Ah0 : ∀ N:Nat,N<6 → ∀ k0:Nat,k0<N→(Db (N:Int) (k0:Int)).length+1=N:=by decide
theorem Ai8 {N:Nat}{a:Abs}{k:Nat}{r:Replica}(h:Inv N a)(hr:Rep N a k r){L:List Record}(hb:G4 L r.Log)(hp:L <+: r.Log):r.Log=L:=by
 have hlm:=h.lm k
 rw [hr.L] at hlm
 have hle:E7 L≤E7 r.Log:=by
  rcases Nat.eq_zero_or_pos L.length with q | q
  ·rw [List.length_eq_zero_iff.1 q]
   show 0≤E7 r.Log
   rcases Nat.eq_zero_or_pos r.Log.length with p | p
   ·rw [List.length_eq_zero_iff.1 p]; exact Int.le_refl _
   ·obtain⟨e,e1,e2⟩:=Om (X:=r.Log) p
    rw [e2]
    have:=hlm.pos e (List.mem_of_getElem? e1)
    omega
  ·obtain⟨e,e1,e2⟩:=Om (X:=L) q
   rw [e2]
   exact Ag4 hlm.srt (Zo hp e1)
 have:=hp.length_le
 refine(hp.eq_of_length_le ?_).symm
 unfold G4 at hb
 omega
theorem Ais {N k0:Nat}{t:Int}{a0 b:Abs}{rs:List Replica}{sent:List Message}{r:Replica}(hs0:SInv N a0 rs sent)(hr:rs[k0]? = some r)(ht:r.Term+1=t)
  (ho : ∀ (k:Nat) (y:Replica),k≠k0→rs[k]? = some y→y.Term<t∧G4 r.Log y.Log) (hs:SInv N b (rs.set k0 (Da r).1) (Da r).2) :
  ∃ b' rs' sent' c C,SInv N b' rs' sent'∧sent'.length≤200∧Led N k0 t r.Log C rs' c∧Fr (rs.set k0 (Da r).1) (Da r).2=.ok (true,rs',sent'):=by
 have hN:=hs.n
 have hrep0:=hs0.reps k0 r hr
 have hgood:=hrep0.good
 have hterm:=hgood.term
 have hid:=hrep0.id
 have hmany:=hrep0.many
 have hk0:k0<N:=by have:=Nh hr; have:=hs0.len; omega
 have hlast:E7 r.Log≠t:=by
  rcases Nat.eq_zero_or_pos r.Log.length with q | q
  ·rw [List.length_eq_zero_iff.1 q]
   show(0:Int)≠t
   omega
  ·obtain⟨e,e1,e2⟩:=Om (X:=r.Log) q
   have:=hs0.inv.lt k0 e (by rw [hrep0.L]; exact List.mem_of_getElem? e1)
   rw [hrep0.T] at this
   omega
 by_cases h1:r.Many=1
 ·have e:Da r=Ji (Dc r):=by unfold Da; rw [if_pos h1]
  rw [e] at hs ⊢
  have s4:SInv N b (rs.set k0 (Ji (Dc r)).1) ([]++De (Ji (Dc r)).1 (Fb (Ji (Dc r)).1.Log (Ji (Dc r)).1.Commit)):=hs
  obtain⟨b',rs',sent',c',q1,q2,q3,q4⟩:=Aaj (t:=t) (G:=r.Log) (pre:=[]) (by omega) (by simp) s4 (O7 hr) rfl ht rfl (by
    show((List.replicate r.Many.toNat (0:Int)).set r.ID.toNat (r.Log.length:Int))[k0]? = some (r.Log.length:Int)
    rw [show r.ID.toNat=k0 by omega,List.getElem?_set,if_pos rfl,if_pos (by simp; omega)]) (fun _ q=>absurd q hlast)
   (fun k y hk hy=>by
    exfalso
    have:=Nh hy
    rw [List.length_set] at this
    have:=hs0.len
    omega)
  exact⟨b',rs',sent',c',_,q1,q2,q3,Agb q4⟩
 ·have e:Da r=(Dc r,De (Dc r) (K9 r)):=by unfold Da; rw [if_neg h1]
  rw [e] at hs ⊢
  have hN2:2≤N:=by omega
  have hos:=Ah0 N (by omega) k0 hk0
  have eS:(De (Dc r) (K9 (Dc r))).length=(Db (N:Int) (k0:Int)).length:=by
   unfold De
   rw [List.length_map,show(Dc r).ID=(k0:Int) from hid,show(Dc r).Many=(N:Int) from hmany]
  have s0:SInv N b (rs.set k0 (Dc r)) ([]++De (Dc r) (K9 (Dc r))++[]):=by rw [List.append_nil]; exact hs
  obtain⟨b1,rs1,out1,s1,j1,l1⟩:=Abh (N:=N) [] (De (Dc r) (K9 (Dc r))) (JA N k0 t (Dc r)) (fun j rs out hJ=>by
    rw [hJ.2.2,List.length_map,List.length_take,eS]; simp; omega)
   (fun j m a rs out r' x l hm hs hJ hr ho=>Aoj hid hmany ht hm hs hJ hr ho) (De (Dc r) (K9 (Dc r))).length 0 b (rs.set k0 (Dc r)) [] (by omega) s0
   ⟨O7 hr,fun k y hk hy=>by
    rw [P6 hk] at hy
    obtain⟨p1,p2⟩:=ho k y hk hy
    exact⟨p2,fun q=>by simp at q,fun _=>p1⟩,by simp⟩
  rw [List.append_nil,List.nil_append] at l1
  rw [List.nil_append] at s1
  obtain⟨c1,c2,c3⟩:=j1
  rw [eS,List.take_length] at c3
  rw [eS] at c2
  rw [c3] at s1 l1
  have hlv:((Db (N:Int) (k0:Int)).map fun k=>R5 k0 k t).length=(Db (N:Int) (k0:Int)).length:=List.length_map _
  obtain⟨b2,rs2,out2,s2,j2,l2⟩:=Abh (N:=N) (De (Dc r) (K9 (Dc r))) ((Db (N:Int) (k0:Int)).map fun k=>R5 k0 k t) (JB N k0 t r.Log) (fun j rs out hJ=>by
    obtain⟨_,c,_,_,_,h5,h6,h7⟩:=hJ
    have:out.length≤5:=by
     rcases h7 with⟨_,q,_⟩ | ⟨_,_,q⟩
     ·rw [q]; simp
     ·rw [q]; exact S1 (by omega) _
    rw [eS,hlv]; omega)
   (fun j m a rs out r' x l hm hs hJ hr ho=>Apa hm hs hJ hr ho) (Db (N:Int) (k0:Int)).length 0 b1 rs1 [] (by rw [hlv]; omega) (by rw [List.append_nil]; exact s1)
   ⟨fun k y hk hy=>by
    obtain⟨p1,p2,p3⟩:=c2 k y hk hy
    have hmem:k ∈ (Db (N:Int) (k0:Int)).take (Db (N:Int) (k0:Int)).length:=by
     rw [List.take_length]
     exact K4.2 ⟨by have:=Nh hy; have:=s1.len; omega,hk⟩
    obtain⟨p4,p5⟩:=p2 hmem
    exact⟨p4,p5,p1⟩,Dc r,c1,ht,rfl,hid,hmany,.inl ⟨rfl,rfl,by
     show((List.replicate r.Many.toNat false).set r.ID.toNat true).count true=1+0
     rw [Yy _ _ (by rw [List.getElem?_replicate,if_pos (by omega)]),List.count_eq_zero.2 fun q=>by cases List.eq_of_mem_replicate q],by omega,fun k hk=>by
     rw [List.drop_zero] at hk
     have:=K4.1 hk
     show((List.replicate r.Many.toNat false).set r.ID.toNat true)[k]? = some false
     rw [List.getElem?_set,if_neg (by omega),List.getElem?_replicate,if_pos (by omega)]⟩⟩
  rw [List.append_nil,Nat.add_zero] at l2
  obtain⟨d1,c,d2,d3,d4,d5,d6,d7⟩:=j2
  rw [hlv] at d7
  rcases d7 with⟨_,_,_,q,_⟩ | ⟨q1,q2,q3⟩
  ·omega
  rw [q3] at s2 l2
  obtain⟨b',rs',sent',c',w1,w2,w3,w4⟩:=Aaj (t:=t) (G:=r.Log) (pre:=De (Dc r) (K9 (Dc r))++(Db (N:Int) (k0:Int)).map fun k=>R5 k0 k t) (by omega) (by rw [List.length_append,eS,hlv]; omega) s2 d2 q1 d3 d4 q2 (fun hN1 _=>by omega)
   (fun k y hk hy=>by
    obtain⟨p1,p2,p3⟩:=d1 k y hk hy
    exact⟨p1,p2,fun p=>Ai8 s2.inv (s2.reps k y hy) p3 p⟩)
  refine⟨b',rs',sent',c',_,w1,w2,w3,Agb ?_⟩
  rw [List.length_append] at w4
  have l1':loop S3 (0,rs.set k0 (Dc r),De (Dc r) (K9 (Dc r)))=_:=l1
  rw [List.length_nil,Nat.zero_add] at l1'
  show loop S3 (0,rs.set k0 (Dc r),De (Dc r) (K9 (Dc r)))=_
  rw [l1',l2,w4]
theorem Amm {N k0:Nat}{t C:Int}{G:List Record}{a:Abs}{rs:List Replica}{sent:List Message}{c:Replica}(hs:SInv N a rs sent)(hl:Led N k0 t G C rs c)(hlast:E7 G=t)(hC:(G.length:Int) - 1≤C)(hG:G.length≤4096) :
  C9 c=.ok (Qz G) ∧ ∀ (n k:Nat),k+n=N→loop (Dn fun x11 l8=>Fa (Qz G) x11 l8) ((k:Int),rs)=.ok (.inl ()):=by
 have hall : ∀ (k:Nat) (r:Replica),rs[k]? = some r→r.Log=G∧(G.length:Int) - 1≤r.Commit:=by
  intro k r hr
  by_cases q:k=k0
  ·subst q
   rw [hl.me] at hr
   cases hr
   exact⟨hl.log,by rw [hl.full hlast]; omega⟩
  ·obtain⟨_,_,p3,p4⟩:=hl.oth k r q hr
   exact⟨p3,by omega⟩
 constructor
 ·rw [Y3 (hs.reps k0 c hl.me)]
  unfold comm
  rw [hl.log,hl.full hlast]
  simp
 ·intro n
  induction n with
  | zero=>
   intro k hk
   rw [Jy]
   have:(Dn fun x11 l8=>Fa (Qz G) x11 l8) ((k:Int),rs)=.ok (.inr (.inl ())):=by
    simp only [Dn,Fa]
    rw [if_neg (by have:=hs.len; omega)]
   rw [this]
   rfl
  | succ n ih=>
   intro k hk
   have hN:=hs.n
   obtain⟨r,hr⟩:=Agf (rs:=rs) (k:=k) (by have:=hs.len; omega)
   have hrep:=hs.reps k r hr
   obtain⟨p1,p2⟩:=hall k r hr
   have hw:IntKind.wrap .i64 ((k:Int)+1)=((k+1:Nat):Int):=by rw [Ga (by omega) (by omega)]; omega
   have hpre:Qz (comm r) <+: Qz G:=Aod (by unfold comm; rw [p1]; exact List.take_prefix _ _)
   have hlen:(Qz (comm r)).length=r.Commit.toNat:=by unfold Qz; rw [List.length_map,Afo hrep.good]
   have hlG:(Qz G).length=G.length:=List.length_map _
   have hst:(Dn fun x11 l8=>Fa (Qz G) x11 l8) ((k:Int),rs)=.ok (.inl (((k+1:Nat):Int),rs)):=by
    simp only [Dn,Fa]
    have hw2:IntKind.wrap .i64 (((Qz G).length:Int) - 1)=(G.length:Int) - 1:=by rw [hlG]; exact Ga (by omega) (by omega)
    rw [if_pos (by have:=hs.len; omega),D0 hr,R.ok_bind,Y3 hrep,R.ok_bind,Aiz hpre,R.ok_bind,hw2,hw,if_neg]
    simp only [Bool.not_true,Bool.false_or,decide_eq_true_eq]
    have:=hrep.good.commit
    omega
   rw [Jy,hst,R.ok_bind]
   exact ih (k+1) (by omega)
end Rp
open Rp in
theorem law_ReplicaLives : Ot := by
 intro many steps d hm hst hd hb
 obtain ⟨N, hN, e⟩ := Aoh hm
 have hbytes : ∀ x ∈ d, 0 ≤ x ∧ x < 256 := by
  intro x hx
  have h2 : (Lit.int .u8 x).wf = true := hd x hx
  have : 0 ≤ x ∧ x ≤ 255 := by simpa [Lit.wf, IntKind.min, IntKind.max, IntKind.signed, IntKind.bits] using h2
  omega
 unfold M9
 rw [Ad8, R.ok_bind, if_pos rfl]
 by_cases hg : ((decide ((steps.length : Int) > 30)) || (decide ((d.length : Int) > 20))) = true
 ·rw [if_pos hg]
 ·rw [if_neg hg, e, Amq hN.2, R.ok_bind, if_pos rfl]
  simp only [Bool.or_eq_true, decide_eq_true_eq, not_or] at hg
  obtain ⟨a1, rs1, sent1, s1, bd1, n1, e1⟩ := Ab1 steps 0 N Air _ [] 0 (Int.le_refl _) (Ao0 hst) (Apx hN) (bd0 N) (by simp only [List.length_nil]; omega)
  rw [e1]
  simp only [R.ok_bind, Jk, Dn]
  obtain ⟨k0, term, hk0, t0, hall, hterm, e2⟩ := Afc s1 N 0 0 0 (by omega) (by omega) (Int.le_refl _) (fun j r hj => by omega) (.inl rfl)
  rw [show (((0 : Int), (0 : Int), (0 : Int), rs1) : Int × Int × Int × List Replica) = (((0 : Nat) : Int), 0, ((0 : Nat) : Int), rs1) from rfl, e2]
  simp only [R.ok_bind, J7, Ii]
  obtain ⟨r0, hr0⟩ := Agf (rs := rs1) (k := k0) (by rw [s1.len]; exact hk0)
  rw [D0 hr0, R.ok_bind]
  have hT0 := hall k0 r0 hr0
  have hrep0 := s1.reps k0 r0 hr0
  have hterm0 := hrep0.good.term
  have htl : term ≤ 1000 := by
   rcases hterm with q | ⟨j, r, q1, q2⟩
   ·omega
   ·have := (bd1.r j r q1).1
    omega
  obtain ⟨a2, b2, rs2, sent2, r2, s2, f1, f2, f3, f4, f5, f6, f7⟩ := Alw hk0 htl (rs0 := rs1) (term - r0.Term).toNat a1 rs1 sent1 r0 (by omega) s1 hr0 (fun _ _ => rfl) (by omega)
  rw [f7]
  simp only [R.ok_bind, Jk, Dn, J1]
  have hme : (rs2.set k0 (Da r2).1)[k0]? = some (Da r2).1 := O7 f1
  have eT : (Da r2).1.Term = term + 1 := by rw [← f2]; unfold Da; split <;> rfl
  have hlen5 : (Da r2).2.length ≤ 5 := Adk (by have := (s2.reps k0 r2 f1).good.many; omega)
  have hfil : (sent2 ++ (Da r2).2).filter (fun m => m.Term == (Da r2).1.Term) = (Da r2).2 := by
   rw [List.filter_append, List.filter_eq_nil_iff.2, List.filter_eq_self.2, List.nil_append]
   ·intro m hm'
    have : m.Term = r2.Term + 1 := by
     unfold Da at hm'
     split at hm'
     ·exact (Kd _ _ m hm').2
     ·exact (Kd _ _ m hm').2
    simp
    omega
   ·intro m hm'
    have h1 := s2.msgs m hm'
    have h2 := h1.frm
    have h3 := h1.tm
    obtain ⟨y, hrm⟩ := Agf (rs := rs2) (k := m.From.toNat) (by rw [s2.len]; omega)
    have hy := s2.reps _ y hrm
    rw [hy.T] at h3
    have : y.Term ≤ term := by
     by_cases q : m.From.toNat = k0
     ·rw [q, f1] at hrm
      cases hrm
      omega
     ·rw [f4 _ q] at hrm
      exact (hall _ y hrm).1
    simp
    omega
  rw [D0 hme, R.ok_bind, An9 (by rw [List.length_append]; omega), R.ok_bind, hfil]
  obtain ⟨a3, rs3, sent3, c3, C3, s3, n3, L3, e3⟩ := Ais (t := term + 1) s2 f1 (by omega) (fun k y hk hy => by
   rw [f4 k hk] at hy
   obtain ⟨p1, p2⟩ := hall k y hy
   refine ⟨by omega, ?_⟩
   rw [f3]
   exact p2 r0 hr0) (f5.sub fun m hm' => List.mem_append_right _ hm')
  rw [e3]
  simp only [R.ok_bind, if_true]
  have hLlen : (r2.Log.length : Int) ≤ 30 := by
   have := (bd1.r k0 r0 hr0).2
   rw [f3]; omega
  obtain ⟨a4, rs4, sent4, c4, s4, n4, L4, g4, p4, k4, e4⟩ := Adv (d := d) s3 (by omega) L3 hbytes (by omega)
  rw [D0 L3.me, R.ok_bind, p4, R.ok_bind]
  simp only
  rw [k4, R.ok_bind]
  simp only [bne_self_eq_false, Bool.not_true, Bool.or_self, Bool.false_eq_true, if_false]
  rw [e4]
  simp only [R.ok_bind, if_true]
  have hG1 : (r2.Log ++ [({ Term := term + 1, Data := d } : Record)]).length = r2.Log.length + 1 := by simp
  obtain ⟨a5, rs5, sent5, c5, s5, n5, L5, g5, p5, k5, e5⟩ := Adv (d := []) s4 (by omega) L4 (fun x hx => by cases hx) (by omega)
  rw [D0 L4.me, R.ok_bind, show Lr c4 = .ok (0, (F1 c4 []).1, (F1 c4 []).2) from p5, R.ok_bind]
  simp only
  rw [k5, R.ok_bind]
  simp only [bne_self_eq_false, Bool.not_true, Bool.or_self, Bool.false_eq_true, if_false]
  rw [e5]
  simp only [R.ok_bind, if_true]
  have hG2 : (r2.Log ++ [({ Term := term + 1, Data := d } : Record)] ++ [({ Term := term + 1, Data := [] } : Record)]).length = r2.Log.length + 2 := by simp
  have hf4 := L4.full (Abu _ _)
  obtain ⟨z1, z2⟩ := Amm s5 L5 (Abu _ _) (by rw [hG2]; rw [hf4, hG1] at g5; omega) (by rw [hG2]; omega)
  have hdl : (Qz (r2.Log ++ [({ Term := term + 1, Data := d } : Record)] ++ [({ Term := term + 1, Data := [] } : Record)])).length = r2.Log.length + 2 := by unfold Qz; rw [List.length_map, hG2]
  rw [D0 L5.me, R.ok_bind, z1, R.ok_bind, if_neg (by rw [L5.log, hdl, hG2]; simp), if_neg (by rw [hdl]; simp; omega)]
  have hw : IntKind.wrap .i64 (((Qz (r2.Log ++ [({ Term := term + 1, Data := d } : Record)] ++ [({ Term := term + 1, Data := [] } : Record)])).length : Int) - 2) = ((r2.Log.length : Nat) : Int) := by
   rw [hdl, Ga (by omega) (by omega)]; omega
  have hg : (Qz (r2.Log ++ [({ Term := term + 1, Data := d } : Record)] ++ [({ Term := term + 1, Data := [] } : Record)]))[r2.Log.length]? = some d := by
   unfold Qz
   rw [List.getElem?_map, List.append_assoc, List.getElem?_append_right (by omega), Nat.sub_self]
   rfl
  rw [hw, D0 hg, R.ok_bind]
  unfold Ig
  rw [if_neg (by simp)]
  have := z2 N 0 (by omega)
  rw [show (((0 : Int), rs5) : Int × List Replica) = (((0 : Nat) : Int), rs5) from rfl, this]
  rfl
end Go.Am
namespace Go.Proofs
open Go.Shelf
def Try.laysSlM5_f92_ren:Go.Shelf.Ren:=⟨fun | 5=>92 | 8=>97 | 7=>96 | 19=>107 | 20=>108 | 10=>98 | 11=>99 | 12=>100 | 13=>101 | 14=>102 | 15=>103 | 16=>104 | 17=>105 | 18=>106 | 30=>109 | 31=>110 | 32=>111 | 33=>112 | 34=>113 | 35=>114 | 40=>115 | n=>n,fun | 23=>48 | 25=>3 | 3=>3 | 32=>140 | 22=>48 | 0=>0 | 44=>153 | 46=>125 | 4=>4 | 36=>146 | 35=>145 | 41=>120 | 5=>5 | 9=>9 | 53=>154 | 57=>157 | 63=>159 | 64=>160 | n=>n,fun | n=>n⟩
theorem Try.laysSlM5_f92:Go.Proofs.SlLaysM.n5 Try.prog Try.laysSlM5_f92_ren:={
 mixed:=by kernel_rfl
 f5:=⟨Try.f92.name,by decide,Try.func92.trans (congrArg some (by kernel_rfl))⟩
 f7:=⟨Try.f96.name,by decide,Try.func96.trans (congrArg some (by kernel_rfl))⟩
 f8:=Try.func97.trans (congrArg some (by kernel_rfl))
 f10:=⟨Try.f98.name,by decide,Try.func98.trans (congrArg some (by kernel_rfl))⟩
 f11:=⟨Try.f99.name,by decide,Try.func99.trans (congrArg some (by kernel_rfl))⟩
 f12:=⟨Try.f100.name,by decide,Try.func100.trans (congrArg some (by kernel_rfl))⟩
 f13:=⟨Try.f101.name,by decide,Try.func101.trans (congrArg some (by kernel_rfl))⟩
 f14:=⟨Try.f102.name,by decide,Try.func102.trans (congrArg some (by kernel_rfl))⟩
 f15:=⟨Try.f103.name,by decide,Try.func103.trans (congrArg some (by kernel_rfl))⟩
 f16:=⟨Try.f104.name,by decide,Try.func104.trans (congrArg some (by kernel_rfl))⟩
 f17:=⟨Try.f105.name,by decide,Try.func105.trans (congrArg some (by kernel_rfl))⟩
 f18:=⟨Try.f106.name,by decide,Try.func106.trans (congrArg some (by kernel_rfl))⟩
 f19:=Try.func107.trans (congrArg some (by kernel_rfl))
 f20:=Try.func108.trans (congrArg some (by kernel_rfl))
 f30:=⟨Try.f109.name,by decide,Try.func109.trans (congrArg some (by kernel_rfl))⟩
 f31:=Try.func110.trans (congrArg some (by kernel_rfl))
 f32:=Try.func111.trans (congrArg some (by kernel_rfl))
 f33:=⟨Try.f112.name,by decide,Try.func112.trans (congrArg some (by kernel_rfl))⟩
 f34:=⟨Try.f113.name,by decide,Try.func113.trans (congrArg some (by kernel_rfl))⟩
 f35:=⟨Try.f114.name,by decide,Try.func114.trans (congrArg some (by kernel_rfl))⟩
 f40:=⟨Try.f115.name,by decide,Try.func115.trans (congrArg some (by kernel_rfl))⟩
 t0:=Try.underlying0
 a0:=Try.isAgg0
 z0:=Try.sizeOf0
 v0:=Try.zeroValue0
 t3:=Try.underlying3
 a3:=Try.isAgg3
 z3:=Try.sizeOf3
 v3:=Try.zeroValue3
 t4:=Try.underlying4
 a4:=Try.isAgg4
 z4:=Try.sizeOf4
 v4:=Try.zeroValue4
 t5:=Try.underlying5
 a5:=Try.isAgg5
 z5:=Try.sizeOf5
 v5:=Try.zeroValue5
 t9:=Try.underlying9
 a9:=Try.isAgg9
 z9:=Try.sizeOf9
 v9:=Try.zeroValue9
 t22:=Try.underlying48
 a22:=Try.isAgg48
 z22:=Try.sizeOf48
 v22:=Try.zeroValue48
 t23:=Try.underlying48
 a23:=Try.isAgg48
 z23:=Try.sizeOf48
 v23:=Try.zeroValue48
 t25:=Try.underlying3
 a25:=Try.isAgg3
 z25:=Try.sizeOf3
 v25:=Try.zeroValue3
 t32:=Try.underlying140
 a32:=Try.isAgg140
 z32:=Try.sizeOf140
 v32:=Try.zeroValue140
 t35:=Try.underlying145
 a35:=Try.isAgg145
 z35:=Try.sizeOf145
 v35:=Try.zeroValue145
 t36:=Try.underlying146
 a36:=Try.isAgg146
 z36:=Try.sizeOf146
 v36:=Try.zeroValue146
 t41:=Try.underlying120
 a41:=Try.isAgg120
 z41:=Try.sizeOf120
 v41:=Try.zeroValue120
 t44:=Try.underlying153
 a44:=Try.isAgg153
 z44:=Try.sizeOf153
 v44:=Try.zeroValue153
 t46:=Try.underlying125
 a46:=Try.isAgg125
 z46:=Try.sizeOf125
 v46:=Try.zeroValue125
 t53:=Try.underlying154
 a53:=Try.isAgg154
 z53:=Try.sizeOf154
 v53:=Try.zeroValue154
 t57:=Try.underlying157
 a57:=Try.isAgg157
 z57:=Try.sizeOf157
 v57:=Try.zeroValue157
 t63:=Try.underlying159
 a63:=Try.isAgg159
 z63:=Try.sizeOf159
 v63:=Try.zeroValue159
 t64:=Try.underlying160
 a64:=Try.isAgg160
 z64:=Try.sizeOf160
 v64:=Try.zeroValue160 }
open Go.Sort Go.RowKit in
theorem Try.slices_Sort_int (blk off cap : Nat) (zs : List Int) (w : World) (hH : Holds (Value.int .i64) w blk off zs.toArray) (hblk : blk < w.heap.size) (hsz : zs.length < 4611686018427387904) :
  Calls Try.prog 92 #[.slice (some ⟨blk, off, none⟩) zs.length cap] w fun e w' =>
   e = .returned (.tuple #[]) ∧ ∃ n os, w' = grow (putRow (Value.int .i64) (Sort.ahead w n) blk off (zs.mergeSort fun x y => decide (x ≤ y)).toArray) os := AnyM.slices_Sort_int Try.laysSlM5_f92 blk off cap zs w hH hblk hsz
open Go.RowKit Go.Sort in
theorem Try.slices_Sort_int_none (p : Option Addr) (cap : Nat) (w : World) :
  Calls Try.prog 92 #[.slice p 0 cap] w fun e w' => e = .returned (.tuple #[]) ∧ w' = w := AnyM.slices_Sort_int_none Try.laysSlM5_f92 p cap w
end Go.Proofs
namespace Go.Am
open Go Go.Proofs
set_option linter.unusedVariables false
set_option linter.unusedSimpArgs false
instance gwI:GW Try.prog:={ n:=0,G:=fun _ _=>True,keep:=fun _ _ _=>trivial }
theorem C8:Try.prog.follows .mixedOrders=true:=by kernel_rfl
theorem A0:ti Try.prog 3=some ⟨.int .i64,1,8,[.int .i64 0]⟩:=by kernel_rfl
theorem Kv:ti Try.prog 4=some ⟨.bool,1,1,[.bool false]⟩:=by kernel_rfl
theorem Gx:ti Try.prog 5=some ⟨.int .u8,1,1,[.int .u8 0]⟩:=by kernel_rfl
theorem Ll:ti Try.prog 9=some ⟨.str,1,16,[.str []]⟩:=by kernel_rfl
theorem Aiw:ti Try.prog 20=some ⟨.ifc,1,16,[.nili]⟩:=by kernel_rfl
theorem Bn:ti Try.prog 22=some ⟨.sl 54,1,24,[.emp]⟩:=by kernel_rfl
theorem Bx:ti Try.prog 24=some ⟨.st [(0,3),(1,3),(2,3),(3,3),(4,3),(5,3),(6,22),(7,3),(8,3),(9,4)],10,96,[.int .i64 0,.int .i64 0,.int .i64 0,.int .i64 0,.int .i64 0,.int .i64 0,.emp,.int .i64 0,.int .i64 0,.bool false]⟩:=by kernel_rfl
theorem Ej:ti Try.prog 25=some ⟨.sl 5,1,24,[.emp]⟩:=by kernel_rfl
theorem H8:ti Try.prog 28=some ⟨.int .i64,1,8,[.int .i64 0]⟩:=by kernel_rfl
theorem Aia:ti Try.prog 35=some ⟨.sl 45,1,24,[.emp]⟩:=by kernel_rfl
theorem C7:ti Try.prog 36=some ⟨.sl 50,1,24,[.emp]⟩:=by kernel_rfl
theorem B7:ti Try.prog 37=some ⟨.sl 24,1,24,[.emp]⟩:=by kernel_rfl
theorem Cv:ti Try.prog 39=some ⟨.st [(0,36),(1,37)],2,48,[.emp,.emp]⟩:=by kernel_rfl
theorem Pq:ti Try.prog 42=some ⟨.sl 25,1,24,[.emp]⟩:=by kernel_rfl
theorem Xa:ti Try.prog 45=some ⟨.st [(0,5),(1,5),(2,5)],3,3,[.int .u8 0,.int .u8 0,.int .u8 0]⟩:=by kernel_rfl
theorem Dy:ti Try.prog 47=some ⟨.sl 4,1,24,[.emp]⟩:=by kernel_rfl
theorem Cj:ti Try.prog 48=some ⟨.sl 3,1,24,[.emp]⟩:=by kernel_rfl
theorem Au:ti Try.prog 50=some ⟨.st [(0,3),(1,3),(2,3),(3,3),(4,22),(5,3),(6,3),(7,47),(8,48)],9,120,[.int .i64 0,.int .i64 0,.int .i64 0,.int .i64 0,.emp,.int .i64 0,.int .i64 0,.emp,.emp]⟩:=by kernel_rfl
theorem D1:ti Try.prog 54=some ⟨.st [(0,3),(1,25)],2,32,[.int .i64 0,.emp]⟩:=by kernel_rfl
theorem Dv:ti Try.prog 71=some ⟨.sl 73,1,24,[.emp]⟩:=by kernel_rfl
theorem B8:ti Try.prog 73=some ⟨.st [(0,3),(1,3),(2,9),(3,71)],4,56,[.int .i64 0,.int .i64 0,.str [],.emp]⟩:=by kernel_rfl
theorem Bf:ti Try.prog 88=some ⟨.st [(0,50),(9,37)],10,144,[.int .i64 0,.int .i64 0,.int .i64 0,.int .i64 0,.emp,.int .i64 0,.int .i64 0,.emp,.emp,.emp]⟩:=by kernel_rfl
theorem Wc:ti Try.prog 89=some ⟨.fn,1,8,[.nilf]⟩:=by kernel_rfl
theorem Aaz:ti Try.prog 90=some ⟨.arr 5 89,5,40,[.nilf,.nilf,.nilf,.nilf,.nilf]⟩:=by kernel_rfl
theorem Aoq:ti Try.prog 92=some ⟨.st [(0,90)],5,40,[.nilf,.nilf,.nilf,.nilf,.nilf]⟩:=by kernel_rfl
theorem J6:ti Try.prog 98=some ⟨.fn,1,8,[.nilf]⟩:=by kernel_rfl
theorem Ho:ti Try.prog 100=some ⟨.st [(0,98)],1,8,[.nilf]⟩:=by kernel_rfl
theorem Aef:ti Try.prog 101=some ⟨.ptr 123,1,8,[.nilp]⟩:=by kernel_rfl
theorem Aii:ti Try.prog 105=some ⟨.st [(0,28)],1,8,[.int .i64 0]⟩:=by kernel_rfl
theorem Nu:ti Try.prog 123=some ⟨.arr 4 100,4,32,[.nilf,.nilf,.nilf,.nilf]⟩:=by kernel_rfl
theorem Mo:ti Try.prog 125=some ⟨.int .u64,1,8,[.int .u64 0]⟩:=by kernel_rfl
theorem Aed:ti Try.prog 139=some ⟨.arr 4 4,4,4,[.bool false,.bool false,.bool false,.bool false]⟩:=by kernel_rfl
theorem Aei:M4 Try.prog [(0,3),(1,3),(2,3),(3,3),(4,3),(5,3),(6,22),(7,3),(8,3),(9,4)]=some [(0,1),(1,1),(2,1),(3,1),(4,1),(5,1),(6,1),(7,1),(8,1),(9,1)]:=by kernel_rfl
theorem Ap9:M4 Try.prog [(0,36),(1,37)]=some [(0,1),(1,1)]:=by kernel_rfl
theorem Aqs:M4 Try.prog [(0,5),(1,5),(2,5)]=some [(0,1),(1,1),(2,1)]:=by kernel_rfl
theorem Aqb:M4 Try.prog [(0,3),(1,3),(2,3),(3,3),(4,22),(5,3),(6,3),(7,47),(8,48)]=some [(0,1),(1,1),(2,1),(3,1),(4,1),(5,1),(6,1),(7,1),(8,1)]:=by kernel_rfl
theorem Uy:M4 Try.prog [(0,3),(1,25)]=some [(0,1),(1,1)]:=by kernel_rfl
theorem Aag:M4 Try.prog [(0,3),(1,3),(2,9),(3,71)]=some [(0,1),(1,1),(2,1),(3,1)]:=by kernel_rfl
end Go.Am
