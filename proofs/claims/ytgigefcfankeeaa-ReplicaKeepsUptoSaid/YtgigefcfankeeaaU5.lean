/- Written by shrink.py from texts of ours: comments struck, what is not reached left out, names short. -/
import Derived.Test.YtgigefcfankeeaaU4
import Derived.KernelRfl
import Derived.Shelf.Small.Bits
import Derived.Shelf.Strconv.Itoa0
import Derived.Ground.Names2Prog
import Derived.Shelf.Slices.Clone
import Derived.Shelf.Slices.SearchI
import Derived.Ground.SlgnProg
import Derived.Shelf.SlicesE.Clone
import Derived.Ground.SlgmProg
import Derived.Shelf.SortM.Plain
import Derived.Shelf.SortM.SortNone
import Derived.Test.YtgigefcfankeeaaProg
namespace Go.Am
open Go
set_option linter.unusedVariables false
set_option maxRecDepth 100000
def He (s:List Int):R (List Int):=
 (Fb s).bind fun s1=>
 (Ls s1).bind fun _=>
 .ok (Ux s1)
theorem J9 (s:List Int):Le (He s) (Dj s):=by
 unfold He Dj
 repeat' first | with_reducible exact Le.refl _ | with_reducible exact hW .. | with_reducible apply Co | with_reducible apply Ch | with_reducible apply C5 | with_reducible apply Cm | with_reducible apply B6 | with_reducible apply B7 | with_reducible apply C3 | with_reducible apply C7 | with_reducible apply C4 | with_reducible apply C6 | with_reducible apply C8 | with_reducible apply Do | (rw [B8]; with_reducible exact Le.refl _) | intro _
def Kl (s0_ReplicaID:Int)(s0_ReplicaMany:Int)(s0_ReplicaTerm:Int)(s0_ReplicaVote:Int)(s0_ReplicaRole:Int)(s0_ReplicaCommit:Int)(s0_ReplicaVotes:List Bool)(l:List Record)(l1:List Int):R (Int×(List Record)):=
 (D2 l1).bind fun _=>
 (He l1).bind fun l2=>
 (C1 l2 (IntKind.wrap .i64 (Int.tdiv (IntKind.wrap .i64 ((l2.length:Int) - 1)) 2))).bind fun a=>
 if(decide (a > s0_ReplicaCommit)) then
((C1 l (IntKind.wrap .i64 (a - 1))).bind fun a1=>
 Fc s0_ReplicaCommit a (a1.Term==s0_ReplicaTerm) l)
else
(Fc s0_ReplicaCommit a false l)
theorem Rl (s0_ReplicaID:Int)(s0_ReplicaMany:Int)(s0_ReplicaTerm:Int)(s0_ReplicaVote:Int)(s0_ReplicaRole:Int)(s0_ReplicaCommit:Int)(s0_ReplicaVotes:List Bool)(l:List Record)(l1:List Int):Le (Kl s0_ReplicaID s0_ReplicaMany s0_ReplicaTerm s0_ReplicaVote s0_ReplicaRole s0_ReplicaCommit s0_ReplicaVotes l l1) (F3 s0_ReplicaID s0_ReplicaMany s0_ReplicaTerm s0_ReplicaVote s0_ReplicaRole s0_ReplicaCommit s0_ReplicaVotes l l1):=by
 unfold Kl F3
 repeat' first | with_reducible exact Le.refl _ | with_reducible exact hW .. | with_reducible exact J9 .. | with_reducible apply Co | with_reducible apply Ch | with_reducible apply C5 | with_reducible apply Cm | with_reducible apply B6 | with_reducible apply B7 | with_reducible apply C3 | with_reducible apply C7 | with_reducible apply C4 | with_reducible apply C6 | with_reducible apply C8 | with_reducible apply Do | (rw [B8]; with_reducible exact Le.refl _) | intro _
def Mi (m:Message)(s_Replica:Replica):R (List Message):=
 (R8 64 (Fr fun x l=>Hv m s_Replica x l) (0,[])).bind (fun l1=>Hs l1)
theorem Tw (m:Message)(s_Replica:Replica):Le (Mi m s_Replica) (Hk m s_Replica):=by
 unfold Mi Hk
 repeat' first | with_reducible exact Le.refl _ | with_reducible exact hW .. | with_reducible apply Co | with_reducible apply Ch | with_reducible apply C5 | with_reducible apply Cm | with_reducible apply B6 | with_reducible apply B7 | with_reducible apply C3 | with_reducible apply C7 | with_reducible apply C4 | with_reducible apply C6 | with_reducible apply C8 | with_reducible apply Do | (rw [B8]; with_reducible exact Le.refl _) | intro _
def L1 (s0_ReplicaID:Int)(s0_ReplicaMany:Int)(s0_ReplicaTerm:Int)(s0_ReplicaVote:Int)(s0_ReplicaRole:Int)(s0_ReplicaCommit:Int)(s0_ReplicaVotes:List Bool)(s0_ReplicaMatch:List Int)(l:List Record):R (List Message):=
 (Mi ({ Kind:=3,From:=0,To:=0,Term:=0,Last:=0,LastTerm:=0,Log:=l,Commit:=s0_ReplicaCommit,Match:=0,Granted:=false }:Message) ({ ID:=s0_ReplicaID,Many:=s0_ReplicaMany,Term:=s0_ReplicaTerm,Vote:=s0_ReplicaVote,Log:=l,Role:=s0_ReplicaRole,Commit:=s0_ReplicaCommit,Votes:=s0_ReplicaVotes,Match:=s0_ReplicaMatch }:Replica)).bind fun r=>
 .ok r
theorem S6 (s0_ReplicaID:Int)(s0_ReplicaMany:Int)(s0_ReplicaTerm:Int)(s0_ReplicaVote:Int)(s0_ReplicaRole:Int)(s0_ReplicaCommit:Int)(s0_ReplicaVotes:List Bool)(s0_ReplicaMatch:List Int)(l:List Record):Le (L1 s0_ReplicaID s0_ReplicaMany s0_ReplicaTerm s0_ReplicaVote s0_ReplicaRole s0_ReplicaCommit s0_ReplicaVotes s0_ReplicaMatch l) (G8 s0_ReplicaID s0_ReplicaMany s0_ReplicaTerm s0_ReplicaVote s0_ReplicaRole s0_ReplicaCommit s0_ReplicaVotes s0_ReplicaMatch l):=by
 unfold L1 G8
 repeat' first | with_reducible exact Le.refl _ | with_reducible exact hW .. | with_reducible exact Tw .. | with_reducible apply Co | with_reducible apply Ch | with_reducible apply C5 | with_reducible apply Cm | with_reducible apply B6 | with_reducible apply B7 | with_reducible apply C3 | with_reducible apply C7 | with_reducible apply C4 | with_reducible apply C6 | with_reducible apply C8 | with_reducible apply Do | (rw [B8]; with_reducible exact Le.refl _) | intro _
def Nj (r:Replica)(l:List Record):R (Replica×(List Message)×Int):=
 (H0 r.Match).bind fun r3=>
 (C1 r3 r.ID).bind fun a=>
 (Kl r.ID r.Many r.Term r.Vote r.Role r.Commit r.Votes l (r3.set r.ID.toNat (l.length:Int))).bind fun r4=>
 (L1 r.ID r.Many r.Term r.Vote r.Role r4.1 r.Votes (r3.set r.ID.toNat (l.length:Int)) r4.2).bind fun r5=>
 .ok (({ ID:=r.ID,Many:=r.Many,Term:=r.Term,Vote:=r.Vote,Log:=r4.2,Role:=r.Role,Commit:=r4.1,Votes:=r.Votes,Match:=(r3.set r.ID.toNat (l.length:Int)) }:Replica),r5,0)
theorem Us (r:Replica)(l:List Record):Le (Nj r l) (Jg r l):=by
 unfold Nj Jg
 repeat' first | with_reducible exact Le.refl _ | with_reducible exact hW .. | with_reducible exact Rl .. | with_reducible exact S6 .. | with_reducible apply Co | with_reducible apply Ch | with_reducible apply C5 | with_reducible apply Cm | with_reducible apply B6 | with_reducible apply B7 | with_reducible apply C3 | with_reducible apply C7 | with_reducible apply C4 | with_reducible apply C6 | with_reducible apply C8 | with_reducible apply Do | (rw [B8]; with_reducible exact Le.refl _) | intro _
def Mq (r:Replica)(data:List Int):R (Replica×(List Message)×Int):=
 (Db r).bind fun e=>
 if(e != 0) then
(.ok (({ ID:=0,Many:=0,Term:=0,Vote:=0,Log:=[],Role:=0,Commit:=0,Votes:=[],Match:=[] }:Replica),[],e))
else
(if(r.Role != 2) then
(.ok (({ ID:=0,Many:=0,Term:=0,Vote:=0,Log:=[],Role:=0,Commit:=0,Votes:=[],Match:=[] }:Replica),[],470))
else
(if(r.Log.length:Int)≥4096 then
(.ok (({ ID:=0,Many:=0,Term:=0,Vote:=0,Log:=[],Role:=0,Commit:=0,Votes:=[],Match:=[] }:Replica),[],2))
else
((D4 r).bind fun _=>
 (Kt r.Log).bind fun r1=>
 if(r1.length+[({ Term:=r.Term,Data:=data }:Record)].length) * 32≤Cf then
 Nj r (r1++[({ Term:=r.Term,Data:=data }:Record)]) else .bad)))
theorem We (r:Replica)(data:List Int):Le (Mq r data) (Jt r data):=by
 unfold Mq Jt
 repeat' first | with_reducible exact Le.refl _ | with_reducible exact hW .. | with_reducible exact Us .. | with_reducible apply Co | with_reducible apply Ch | with_reducible apply C5 | with_reducible apply Cm | with_reducible apply B6 | with_reducible apply B7 | with_reducible apply C3 | with_reducible apply C7 | with_reducible apply C4 | with_reducible apply C6 | with_reducible apply C8 | with_reducible apply Do | (rw [B8]; with_reducible exact Le.refl _) | intro _
def Ip (s0_ReplicaID:Int)(s0_ReplicaMany:Int)(s0_ReplicaTerm:Int)(s0_ReplicaVote:Int)(s0_ReplicaLog:List Record)(s0_ReplicaRole:Int)(s0_ReplicaCommit:Int)(l:List Bool)(l1:List Int):R Int:=
 (D2 l1).bind fun _=>
 (He l1).bind fun l2=>
 (C1 l2 (IntKind.wrap .i64 (Int.tdiv (IntKind.wrap .i64 ((l2.length:Int) - 1)) 2))).bind fun a=>
 if(decide (a > s0_ReplicaCommit)) then
((C1 s0_ReplicaLog (IntKind.wrap .i64 (a - 1))).bind fun a1=>
 Dv s0_ReplicaCommit a (a1.Term==s0_ReplicaTerm))
else
(Dv s0_ReplicaCommit a false)
theorem M8 (s0_ReplicaID:Int)(s0_ReplicaMany:Int)(s0_ReplicaTerm:Int)(s0_ReplicaVote:Int)(s0_ReplicaLog:List Record)(s0_ReplicaRole:Int)(s0_ReplicaCommit:Int)(l:List Bool)(l1:List Int):Le (Ip s0_ReplicaID s0_ReplicaMany s0_ReplicaTerm s0_ReplicaVote s0_ReplicaLog s0_ReplicaRole s0_ReplicaCommit l l1) (Dx s0_ReplicaID s0_ReplicaMany s0_ReplicaTerm s0_ReplicaVote s0_ReplicaLog s0_ReplicaRole s0_ReplicaCommit l l1):=by
 unfold Ip Dx
 repeat' first | with_reducible exact Le.refl _ | with_reducible exact hW .. | with_reducible exact J9 .. | with_reducible apply Co | with_reducible apply Ch | with_reducible apply C5 | with_reducible apply Cm | with_reducible apply B6 | with_reducible apply B7 | with_reducible apply C3 | with_reducible apply C7 | with_reducible apply C4 | with_reducible apply C6 | with_reducible apply C8 | with_reducible apply Do | (rw [B8]; with_reducible exact Le.refl _) | intro _
def Mj (m:Message)(s_ReplicaID:Int)(s_ReplicaMany:Int)(s_ReplicaTerm:Int)(s_ReplicaVote:Int)(s_ReplicaLog:List Record)(s_ReplicaRole:Int)(s_ReplicaCommit:Int)(s_ReplicaMatch:List Int):R (List Message):=
 (R8 64 (Fr fun x l=>Gf m s_ReplicaID s_ReplicaMany s_ReplicaTerm s_ReplicaVote s_ReplicaLog s_ReplicaRole s_ReplicaCommit s_ReplicaMatch x l) (0,[])).bind (fun l1=>Ho l1)
theorem Tu (m:Message)(s_ReplicaID:Int)(s_ReplicaMany:Int)(s_ReplicaTerm:Int)(s_ReplicaVote:Int)(s_ReplicaLog:List Record)(s_ReplicaRole:Int)(s_ReplicaCommit:Int)(s_ReplicaMatch:List Int):Le (Mj m s_ReplicaID s_ReplicaMany s_ReplicaTerm s_ReplicaVote s_ReplicaLog s_ReplicaRole s_ReplicaCommit s_ReplicaMatch) (Ez m s_ReplicaID s_ReplicaMany s_ReplicaTerm s_ReplicaVote s_ReplicaLog s_ReplicaRole s_ReplicaCommit s_ReplicaMatch):=by
 unfold Mj Ez
 repeat' first | with_reducible exact Le.refl _ | with_reducible exact hW .. | with_reducible apply Co | with_reducible apply Ch | with_reducible apply C5 | with_reducible apply Cm | with_reducible apply B6 | with_reducible apply B7 | with_reducible apply C3 | with_reducible apply C7 | with_reducible apply C4 | with_reducible apply C6 | with_reducible apply C8 | with_reducible apply Do | (rw [B8]; with_reducible exact Le.refl _) | intro _
def Js (s_ReplicaID:Int)(s_ReplicaMany:Int)(s_ReplicaTerm:Int)(s_ReplicaVote:Int)(s_ReplicaLog:List Record)(s_ReplicaRole:Int)(s_ReplicaCommit:Int)(s_ReplicaMatch:List Int):R (List Message):=
 (Mj ({ Kind:=3,From:=0,To:=0,Term:=0,Last:=0,LastTerm:=0,Log:=s_ReplicaLog,Commit:=s_ReplicaCommit,Match:=0,Granted:=false }:Message) s_ReplicaID s_ReplicaMany s_ReplicaTerm s_ReplicaVote s_ReplicaLog s_ReplicaRole s_ReplicaCommit s_ReplicaMatch).bind fun r=>
 .ok r
theorem Oo (s_ReplicaID:Int)(s_ReplicaMany:Int)(s_ReplicaTerm:Int)(s_ReplicaVote:Int)(s_ReplicaLog:List Record)(s_ReplicaRole:Int)(s_ReplicaCommit:Int)(s_ReplicaMatch:List Int):Le (Js s_ReplicaID s_ReplicaMany s_ReplicaTerm s_ReplicaVote s_ReplicaLog s_ReplicaRole s_ReplicaCommit s_ReplicaMatch) (Fj s_ReplicaID s_ReplicaMany s_ReplicaTerm s_ReplicaVote s_ReplicaLog s_ReplicaRole s_ReplicaCommit s_ReplicaMatch):=by
 unfold Js Fj
 repeat' first | with_reducible exact Le.refl _ | with_reducible exact hW .. | with_reducible exact Tu .. | with_reducible apply Co | with_reducible apply Ch | with_reducible apply C5 | with_reducible apply Cm | with_reducible apply B6 | with_reducible apply B7 | with_reducible apply C3 | with_reducible apply C7 | with_reducible apply C4 | with_reducible apply C6 | with_reducible apply C8 | with_reducible apply Do | (rw [B8]; with_reducible exact Le.refl _) | intro _
def Ke (s0_ReplicaID:Int)(s0_ReplicaMany:Int)(s0_ReplicaTerm:Int)(s0_ReplicaVote:Int)(s0_ReplicaLog:List Record)(s0_ReplicaCommit:Int)(l:List Bool)(l1:List Int):R (Int×(List Int)×(List Message)):=
 (C1 l1 s0_ReplicaID).bind fun a=>
 (Ip s0_ReplicaID s0_ReplicaMany s0_ReplicaTerm s0_ReplicaVote s0_ReplicaLog 2 s0_ReplicaCommit l (l1.set s0_ReplicaID.toNat (s0_ReplicaLog.length:Int))).bind fun r=>
 (Js s0_ReplicaID s0_ReplicaMany s0_ReplicaTerm s0_ReplicaVote s0_ReplicaLog 2 r (l1.set s0_ReplicaID.toNat (s0_ReplicaLog.length:Int))).bind fun r1=>
 .ok (r,(l1.set s0_ReplicaID.toNat (s0_ReplicaLog.length:Int)),r1)
theorem Rf (s0_ReplicaID:Int)(s0_ReplicaMany:Int)(s0_ReplicaTerm:Int)(s0_ReplicaVote:Int)(s0_ReplicaLog:List Record)(s0_ReplicaCommit:Int)(l:List Bool)(l1:List Int):Le (Ke s0_ReplicaID s0_ReplicaMany s0_ReplicaTerm s0_ReplicaVote s0_ReplicaLog s0_ReplicaCommit l l1) (F2 s0_ReplicaID s0_ReplicaMany s0_ReplicaTerm s0_ReplicaVote s0_ReplicaLog s0_ReplicaCommit l l1):=by
 unfold Ke F2
 repeat' first | with_reducible exact Le.refl _ | with_reducible exact hW .. | with_reducible exact Oo .. | with_reducible exact M8 .. | with_reducible apply Co | with_reducible apply Ch | with_reducible apply C5 | with_reducible apply Cm | with_reducible apply B6 | with_reducible apply B7 | with_reducible apply C3 | with_reducible apply C7 | with_reducible apply C4 | with_reducible apply C6 | with_reducible apply C8 | with_reducible apply Do | (rw [B8]; with_reducible exact Le.refl _) | intro _
def L0 (s0_ReplicaID:Int)(s0_ReplicaMany:Int)(s0_ReplicaTerm:Int)(s0_ReplicaVote:Int)(s0_ReplicaLog:List Record)(s0_ReplicaRole:Int)(s0_ReplicaCommit:Int)(s0_ReplicaMatch:List Int)(l:List Bool):R (Int×(List Int)×(List Message)):=
 if(0:Int)≤s0_ReplicaMany∧(s0_ReplicaMany:Int)≤s0_ReplicaMany∧(Int.toNat s0_ReplicaMany) * 8≤Cf then
 Ke s0_ReplicaID s0_ReplicaMany s0_ReplicaTerm s0_ReplicaVote s0_ReplicaLog s0_ReplicaCommit l (List.replicate (Int.toNat s0_ReplicaMany) 0) else .bad
theorem Td (s0_ReplicaID:Int)(s0_ReplicaMany:Int)(s0_ReplicaTerm:Int)(s0_ReplicaVote:Int)(s0_ReplicaLog:List Record)(s0_ReplicaRole:Int)(s0_ReplicaCommit:Int)(s0_ReplicaMatch:List Int)(l:List Bool):Le (L0 s0_ReplicaID s0_ReplicaMany s0_ReplicaTerm s0_ReplicaVote s0_ReplicaLog s0_ReplicaRole s0_ReplicaCommit s0_ReplicaMatch l) (Dr s0_ReplicaID s0_ReplicaMany s0_ReplicaTerm s0_ReplicaVote s0_ReplicaLog s0_ReplicaRole s0_ReplicaCommit s0_ReplicaMatch l):=by
 unfold L0 Dr
 repeat' first | with_reducible exact Le.refl _ | with_reducible exact hW .. | with_reducible exact Rf .. | with_reducible apply Co | with_reducible apply Ch | with_reducible apply C5 | with_reducible apply Cm | with_reducible apply B6 | with_reducible apply B7 | with_reducible apply C3 | with_reducible apply C7 | with_reducible apply C4 | with_reducible apply C6 | with_reducible apply C8 | with_reducible apply Do | (rw [B8]; with_reducible exact Le.refl _) | intro _
def G1 (m:Message)(s_Replica:Replica)(x:Bool):R (Int×Int×(List Bool)×(List Int)×(List Message)):=
 if x then
(.ok (s_Replica.Role,s_Replica.Commit,s_Replica.Votes,s_Replica.Match,[]))
else
((J3 s_Replica.Votes).bind fun r=>
 (C1 r m.From).bind fun a=>
 (E7 (fun j _=>Fr fun n x2=>Ej j n x2) 0 (r.set m.From.toNat true) (0,(r.set m.From.toNat true))).bind ((Fr fun n x2=>if(IntKind.wrap .i64 (2 * n)) > s_Replica.Many then
((L0 s_Replica.ID s_Replica.Many s_Replica.Term s_Replica.Vote s_Replica.Log s_Replica.Role s_Replica.Commit s_Replica.Match x2).bind fun r1=>
 .ok (2,r1.1,x2,r1.2.1,r1.2.2))
else
(.ok (s_Replica.Role,s_Replica.Commit,x2,s_Replica.Match,[])))))
theorem Rj (m:Message)(s_Replica:Replica)(x:Bool):Le (G1 m s_Replica x) (De m s_Replica x):=by
 unfold G1 De
 repeat' first | with_reducible exact Le.refl _ | with_reducible exact hW .. | with_reducible exact Td .. | with_reducible apply Co | with_reducible apply Ch | with_reducible apply C5 | with_reducible apply Cm | with_reducible apply B6 | with_reducible apply B7 | with_reducible apply C3 | with_reducible apply C7 | with_reducible apply C4 | with_reducible apply C6 | with_reducible apply C8 | with_reducible apply Do | (rw [B8]; with_reducible exact Le.refl _) | intro _
def L6 (m:Message)(s_Replica:Replica):R (Int×Int×(List Bool)×(List Int)×(List Message)):=
 if(s_Replica.Role != 1) then
(G1 m s_Replica true)
else
(if(m.Term != s_Replica.Term) then
(G1 m s_Replica true)
else
(G1 m s_Replica (!m.Granted)))
theorem Tg (m:Message)(s_Replica:Replica):Le (L6 m s_Replica) (Ea m s_Replica):=by
 unfold L6 Ea
 repeat' first | with_reducible exact Le.refl _ | with_reducible exact hW .. | with_reducible exact Rj .. | with_reducible apply Co | with_reducible apply Ch | with_reducible apply C5 | with_reducible apply Cm | with_reducible apply B6 | with_reducible apply B7 | with_reducible apply C3 | with_reducible apply C7 | with_reducible apply C4 | with_reducible apply C6 | with_reducible apply C8 | with_reducible apply Do | (rw [B8]; with_reducible exact Le.refl _) | intro _
def Ou {σ_ ε_:Type}(b:List Record)(c:List Record)(b_:Record→Record→σ_→R (σ_ ⊕ ε_))(s_:σ_):R (σ_ ⊕ ε_):=
 (R8 64 (Fr fun x s=>Ey b c b_ x s) (0,s_)).bind (Hz (fun s2=>Hj s2) (fun r=>.ok r))
theorem Vr {σ_ ε_:Type}(b:List Record)(c:List Record)(b_:Record→Record→σ_→R (σ_ ⊕ ε_))(s_:σ_):Le (Ou b c b_ s_) (H1 b c b_ s_):=by
 unfold Ou H1
 repeat' first | with_reducible exact Le.refl _ | with_reducible exact hW .. | with_reducible apply Co | with_reducible apply Ch | with_reducible apply C5 | with_reducible apply Cm | with_reducible apply B6 | with_reducible apply B7 | with_reducible apply C3 | with_reducible apply C7 | with_reducible apply C4 | with_reducible apply C6 | with_reducible apply C8 | with_reducible apply Do | (rw [B8]; with_reducible exact Le.refl _) | intro _
def Nm (a:List Record)(b:List Record):R Bool:=
 (Jp a b).bind fun _=>
 (Ou a b (fun a1 a2 z_=>R.np ((fun _=>Gj a1 a2) z_)) ()).bind (Hz (fun _=>.ok (decide ((a.length:Int)≤(b.length:Int)))) (fun _=>.ok false))
theorem Xa (a:List Record)(b:List Record):Le (Nm a b) (H8 a b):=by
 unfold Nm H8
 repeat' first | with_reducible exact Le.refl _ | with_reducible exact hW .. | with_reducible exact Vr .. | with_reducible apply Co | with_reducible apply Ch | with_reducible apply C5 | with_reducible apply Cm | with_reducible apply B6 | with_reducible apply B7 | with_reducible apply C3 | with_reducible apply C7 | with_reducible apply C4 | with_reducible apply C6 | with_reducible apply C8 | with_reducible apply Do | (rw [B8]; with_reducible exact Le.refl _) | intro _
def Kw (m:Message)(s_Replica:Replica):R ((List Record)×Int×Int×(List Bool)×(List Int)×(List Message)):=
 if m.Term<s_Replica.Term then
((Eo m.From 4 0 0 0 0 0 0 0 false s_Replica).bind fun r=>
 .ok (s_Replica.Log,s_Replica.Role,s_Replica.Commit,s_Replica.Votes,s_Replica.Match,r))
else
(if(s_Replica.Role==2) then
(.ok (s_Replica.Log,s_Replica.Role,s_Replica.Commit,s_Replica.Votes,s_Replica.Match,[]))
else
((Cg s_Replica).bind fun r1=>
 (Nm m.Log s_Replica.Log).bind fun r2=>
 if r2 then
(D3 m s_Replica r1 s_Replica.Log)
else
(if(0:Int)≤s_Replica.Commit∧s_Replica.Commit≤(s_Replica.Log.length:Int) then
 (Nm (s_Replica.Log.take (Int.toNat s_Replica.Commit)) m.Log).bind fun r3=>
 (Ba r3 470).bind fun _=>
 D3 m s_Replica r1 m.Log else .bad)))
theorem Sh (m:Message)(s_Replica:Replica):Le (Kw m s_Replica) (Er m s_Replica):=by
 unfold Kw Er
 repeat' first | with_reducible exact Le.refl _ | with_reducible exact hW .. | with_reducible exact Xa .. | with_reducible apply Co | with_reducible apply Ch | with_reducible apply C5 | with_reducible apply Cm | with_reducible apply B6 | with_reducible apply B7 | with_reducible apply C3 | with_reducible apply C7 | with_reducible apply C4 | with_reducible apply C6 | with_reducible apply C8 | with_reducible apply Do | (rw [B8]; with_reducible exact Le.refl _) | intro _
def Kk (s0_ReplicaID:Int)(s0_ReplicaMany:Int)(s0_ReplicaTerm:Int)(s0_ReplicaVote:Int)(s0_ReplicaLog:List Record)(s0_ReplicaRole:Int)(s0_ReplicaCommit:Int)(s0_ReplicaVotes:List Bool)(l:List Int):R Replica:=
 (D2 l).bind fun _=>
 (He l).bind fun l1=>
 (C1 l1 (IntKind.wrap .i64 (Int.tdiv (IntKind.wrap .i64 ((l1.length:Int) - 1)) 2))).bind fun a=>
 if(decide (a > s0_ReplicaCommit)) then
((C1 s0_ReplicaLog (IntKind.wrap .i64 (a - 1))).bind fun a1=>
 Du s0_ReplicaID s0_ReplicaMany s0_ReplicaTerm s0_ReplicaVote s0_ReplicaLog s0_ReplicaRole s0_ReplicaCommit s0_ReplicaVotes l a (a1.Term==s0_ReplicaTerm))
else
(Du s0_ReplicaID s0_ReplicaMany s0_ReplicaTerm s0_ReplicaVote s0_ReplicaLog s0_ReplicaRole s0_ReplicaCommit s0_ReplicaVotes l a false)
theorem Ri (s0_ReplicaID:Int)(s0_ReplicaMany:Int)(s0_ReplicaTerm:Int)(s0_ReplicaVote:Int)(s0_ReplicaLog:List Record)(s0_ReplicaRole:Int)(s0_ReplicaCommit:Int)(s0_ReplicaVotes:List Bool)(l:List Int):Le (Kk s0_ReplicaID s0_ReplicaMany s0_ReplicaTerm s0_ReplicaVote s0_ReplicaLog s0_ReplicaRole s0_ReplicaCommit s0_ReplicaVotes l) (Fa s0_ReplicaID s0_ReplicaMany s0_ReplicaTerm s0_ReplicaVote s0_ReplicaLog s0_ReplicaRole s0_ReplicaCommit s0_ReplicaVotes l):=by
 unfold Kk Fa
 repeat' first | with_reducible exact Le.refl _ | with_reducible exact hW .. | with_reducible exact J9 .. | with_reducible apply Co | with_reducible apply Ch | with_reducible apply C5 | with_reducible apply Cm | with_reducible apply B6 | with_reducible apply B7 | with_reducible apply C3 | with_reducible apply C7 | with_reducible apply C4 | with_reducible apply C6 | with_reducible apply C8 | with_reducible apply Do | (rw [B8]; with_reducible exact Le.refl _) | intro _
def Hb (m:Message)(s_Replica:Replica)(x:Bool):R Replica:=
 if x then
(.ok s_Replica)
else
((Ba (decide (m.Match≤(s_Replica.Log.length:Int))) 470).bind fun _=>
 (H0 s_Replica.Match).bind fun r1=>
 (C1 r1 m.From).bind fun a=>
 (Kk s_Replica.ID s_Replica.Many s_Replica.Term s_Replica.Vote s_Replica.Log s_Replica.Role s_Replica.Commit s_Replica.Votes (r1.set m.From.toNat (if m.Match > a then m.Match else a))).bind fun r2=>
 .ok r2)
theorem R3 (m:Message)(s_Replica:Replica)(x:Bool):Le (Hb m s_Replica x) (Dp m s_Replica x):=by
 unfold Hb Dp
 repeat' first | with_reducible exact Le.refl _ | with_reducible exact hW .. | with_reducible exact Ri .. | with_reducible apply Co | with_reducible apply Ch | with_reducible apply C5 | with_reducible apply Cm | with_reducible apply B6 | with_reducible apply B7 | with_reducible apply C3 | with_reducible apply C7 | with_reducible apply C4 | with_reducible apply C6 | with_reducible apply C8 | with_reducible apply Do | (rw [B8]; with_reducible exact Le.refl _) | intro _
def Mz (m:Message)(s_Replica:Replica):R Replica:=
 if(s_Replica.Role != 2) then
(Hb m s_Replica true)
else
(if(m.Term != s_Replica.Term) then
(Hb m s_Replica true)
else
(Hb m s_Replica (!m.Granted)))
theorem Ts (m:Message)(s_Replica:Replica):Le (Mz m s_Replica) (Ee m s_Replica):=by
 unfold Mz Ee
 repeat' first | with_reducible exact Le.refl _ | with_reducible exact hW .. | with_reducible exact R3 .. | with_reducible apply Co | with_reducible apply Ch | with_reducible apply C5 | with_reducible apply Cm | with_reducible apply B6 | with_reducible apply B7 | with_reducible apply C3 | with_reducible apply C7 | with_reducible apply C4 | with_reducible apply C6 | with_reducible apply C8 | with_reducible apply Do | (rw [B8]; with_reducible exact Le.refl _) | intro _
def Kq (m:Message)(vID1:Int)(vMany1:Int)(vTerm1:Int)(vVote1:Int)(vLog1:List Record)(vRole1:Int)(vCommit1:Int)(vVotes1:List Bool)(vMatch1:List Int):R (Replica×(List Message)×Int):=
 if m.Kind=0 then
(.bad)
else
(if m.Kind=1 then
((Gp m ({ ID:=vID1,Many:=vMany1,Term:=vTerm1,Vote:=vVote1,Log:=vLog1,Role:=vRole1,Commit:=vCommit1,Votes:=vVotes1,Match:=vMatch1 }:Replica)).bind fun r10=>
 .ok (r10.1,r10.2,0))
else
(if m.Kind=2 then
((L6 m ({ ID:=vID1,Many:=vMany1,Term:=vTerm1,Vote:=vVote1,Log:=vLog1,Role:=vRole1,Commit:=vCommit1,Votes:=vVotes1,Match:=vMatch1 }:Replica)).bind fun r11=>
 .ok (({ ID:=(({ ID:=vID1,Many:=vMany1,Term:=vTerm1,Vote:=vVote1,Log:=vLog1,Role:=vRole1,Commit:=vCommit1,Votes:=vVotes1,Match:=vMatch1 }:Replica).ID),Many:=(({ ID:=vID1,Many:=vMany1,Term:=vTerm1,Vote:=vVote1,Log:=vLog1,Role:=vRole1,Commit:=vCommit1,Votes:=vVotes1,Match:=vMatch1 }:Replica).Many),Term:=(({ ID:=vID1,Many:=vMany1,Term:=vTerm1,Vote:=vVote1,Log:=vLog1,Role:=vRole1,Commit:=vCommit1,Votes:=vVotes1,Match:=vMatch1 }:Replica).Term),Vote:=(({ ID:=vID1,Many:=vMany1,Term:=vTerm1,Vote:=vVote1,Log:=vLog1,Role:=vRole1,Commit:=vCommit1,Votes:=vVotes1,Match:=vMatch1 }:Replica).Vote),Log:=(({ ID:=vID1,Many:=vMany1,Term:=vTerm1,Vote:=vVote1,Log:=vLog1,Role:=vRole1,Commit:=vCommit1,Votes:=vVotes1,Match:=vMatch1 }:Replica).Log),Role:=r11.1,Commit:=r11.2.1,Votes:=r11.2.2.1,Match:=r11.2.2.2.1 }:Replica),r11.2.2.2.2,0))
else
(if m.Kind=3 then
((Kw m ({ ID:=vID1,Many:=vMany1,Term:=vTerm1,Vote:=vVote1,Log:=vLog1,Role:=vRole1,Commit:=vCommit1,Votes:=vVotes1,Match:=vMatch1 }:Replica)).bind fun r12=>
 .ok (({ ID:=(({ ID:=vID1,Many:=vMany1,Term:=vTerm1,Vote:=vVote1,Log:=vLog1,Role:=vRole1,Commit:=vCommit1,Votes:=vVotes1,Match:=vMatch1 }:Replica).ID),Many:=(({ ID:=vID1,Many:=vMany1,Term:=vTerm1,Vote:=vVote1,Log:=vLog1,Role:=vRole1,Commit:=vCommit1,Votes:=vVotes1,Match:=vMatch1 }:Replica).Many),Term:=(({ ID:=vID1,Many:=vMany1,Term:=vTerm1,Vote:=vVote1,Log:=vLog1,Role:=vRole1,Commit:=vCommit1,Votes:=vVotes1,Match:=vMatch1 }:Replica).Term),Vote:=(({ ID:=vID1,Many:=vMany1,Term:=vTerm1,Vote:=vVote1,Log:=vLog1,Role:=vRole1,Commit:=vCommit1,Votes:=vVotes1,Match:=vMatch1 }:Replica).Vote),Log:=r12.1,Role:=r12.2.1,Commit:=r12.2.2.1,Votes:=r12.2.2.2.1,Match:=r12.2.2.2.2.1 }:Replica),r12.2.2.2.2.2,0))
else
(if m.Kind=4 then
((Mz m ({ ID:=vID1,Many:=vMany1,Term:=vTerm1,Vote:=vVote1,Log:=vLog1,Role:=vRole1,Commit:=vCommit1,Votes:=vVotes1,Match:=vMatch1 }:Replica)).bind fun r13=>
 .ok (r13,[],0))
else
(.bad)))))
theorem Ul (m:Message)(vID1:Int)(vMany1:Int)(vTerm1:Int)(vVote1:Int)(vLog1:List Record)(vRole1:Int)(vCommit1:Int)(vVotes1:List Bool)(vMatch1:List Int):Le (Kq m vID1 vMany1 vTerm1 vVote1 vLog1 vRole1 vCommit1 vVotes1 vMatch1) (C0 m vID1 vMany1 vTerm1 vVote1 vLog1 vRole1 vCommit1 vVotes1 vMatch1):=by
 unfold Kq C0
 repeat' first | with_reducible exact Le.refl _ | with_reducible exact hW .. | with_reducible exact Ts .. | with_reducible exact Sh .. | with_reducible exact Tg .. | with_reducible apply Co | with_reducible apply Ch | with_reducible apply C5 | with_reducible apply Cm | with_reducible apply B6 | with_reducible apply B7 | with_reducible apply C3 | with_reducible apply C7 | with_reducible apply C4 | with_reducible apply C6 | with_reducible apply C8 | with_reducible apply Do | (rw [B8]; with_reducible exact Le.refl _) | intro _
def Nv (r:Replica)(m:Message):R (Replica×(List Message)×Int):=
 (Db r).bind fun r1=>
 if(r1 != 0) then
(.ok (({ ID:=0,Many:=0,Term:=0,Vote:=0,Log:=[],Role:=0,Commit:=0,Votes:=[],Match:=[] }:Replica),[],r1))
else
((Bi m.Kind 1 4).bind fun r2=>
 (if(r2&&(m.To==r.ID)) then(Bi m.From 0 (IntKind.wrap .i64 (r.Many - 1))).bind fun r3=>
 R.ok r3 else R.ok false).bind (fun(b:Bool)=>(if(b&&(m.From != r.ID)) then(Bi m.Term 1 1048576).bind fun r4=>
 R.ok r4 else R.ok false).bind (fun(b1:Bool)=>(Ba b1 470).bind fun _=>
 (if(decide ((if m.Match<(if m.LastTerm<m.Last then m.LastTerm else m.Last) then m.Match else(if m.LastTerm<m.Last then m.LastTerm else m.Last))≥0)) then(Bi m.Commit 0 (m.Log.length:Int)).bind fun r6=>
 R.ok r6 else R.ok false).bind (fun(b2:Bool)=>(if b2 then(Fu m.Log m.Term).bind fun r7=>
 R.ok r7 else R.ok false).bind (fun(b3:Bool)=>(Ba b3 470).bind fun _=>
 (D4 r).bind fun _=>
 if m.Term > r.Term then
((Cg ({ ID:=r.ID,Many:=r.Many,Term:=m.Term,Vote:=(-1),Log:=r.Log,Role:=r.Role,Commit:=r.Commit,Votes:=r.Votes,Match:=r.Match }:Replica)).bind fun r9=>
 Kq m (({ ID:=r.ID,Many:=r.Many,Term:=m.Term,Vote:=(-1),Log:=r.Log,Role:=r.Role,Commit:=r.Commit,Votes:=r.Votes,Match:=r.Match }:Replica).ID) (({ ID:=r.ID,Many:=r.Many,Term:=m.Term,Vote:=(-1),Log:=r.Log,Role:=r.Role,Commit:=r.Commit,Votes:=r.Votes,Match:=r.Match }:Replica).Many) (({ ID:=r.ID,Many:=r.Many,Term:=m.Term,Vote:=(-1),Log:=r.Log,Role:=r.Role,Commit:=r.Commit,Votes:=r.Votes,Match:=r.Match }:Replica).Term) (({ ID:=r.ID,Many:=r.Many,Term:=m.Term,Vote:=(-1),Log:=r.Log,Role:=r.Role,Commit:=r.Commit,Votes:=r.Votes,Match:=r.Match }:Replica).Vote) (({ ID:=r.ID,Many:=r.Many,Term:=m.Term,Vote:=(-1),Log:=r.Log,Role:=r.Role,Commit:=r.Commit,Votes:=r.Votes,Match:=r.Match }:Replica).Log) 0 (({ ID:=r.ID,Many:=r.Many,Term:=m.Term,Vote:=(-1),Log:=r.Log,Role:=r.Role,Commit:=r.Commit,Votes:=r.Votes,Match:=r.Match }:Replica).Commit) r9.1 r9.2)
else
(Kq m r.ID r.Many r.Term r.Vote r.Log r.Role r.Commit r.Votes r.Match))))))
theorem Vk (r:Replica)(m:Message):Le (Nv r m) (Gk r m):=by
 unfold Nv Gk
 repeat' first | with_reducible exact Le.refl _ | with_reducible exact hW .. | with_reducible exact Ul .. | with_reducible apply Co | with_reducible apply Ch | with_reducible apply C5 | with_reducible apply Cm | with_reducible apply B6 | with_reducible apply B7 | with_reducible apply C3 | with_reducible apply C7 | with_reducible apply C4 | with_reducible apply C6 | with_reducible apply C8 | with_reducible apply Do | (rw [B8]; with_reducible exact Le.refl _) | intro _
def Mp (r:Replica)(m:Message):R (Replica×(List Message)×Int):=
 (Nv r m).catch' (Ha 105 .i64 (fun n=>(Dy n).bind fun p=>.ok (({ ID:=0,Many:=0,Term:=0,Vote:=0,Log:=[],Role:=0,Commit:=0,Votes:=[],Match:=[] }:Replica),[],p)) (fun _=>.bad))
theorem Wh (r:Replica)(m:Message):Le (Mp r m) (Ev r m):=by
 unfold Mp Ev
 repeat' first | with_reducible exact Le.refl _ | with_reducible exact hW .. | with_reducible exact Vk .. | with_reducible apply Co | with_reducible apply Ch | with_reducible apply C5 | with_reducible apply Cm | with_reducible apply B6 | with_reducible apply B7 | with_reducible apply C3 | with_reducible apply C7 | with_reducible apply C4 | with_reducible apply C6 | with_reducible apply C8 | with_reducible apply Do | (rw [B8]; with_reducible exact Le.refl _) | intro _
def Ko (s0_ReplicaID:Int)(s0_ReplicaMany:Int)(s0_ReplicaTerm:Int)(s0_ReplicaVote:Int)(s0_ReplicaLog:List Record)(s0_ReplicaCommit:Int)(l:List Bool)(l1:List Int):R (Int×(List Int)×(List Message)):=
 (C1 l1 s0_ReplicaID).bind fun a=>
 (Ip s0_ReplicaID s0_ReplicaMany s0_ReplicaTerm s0_ReplicaVote s0_ReplicaLog 2 s0_ReplicaCommit l (l1.set s0_ReplicaID.toNat (s0_ReplicaLog.length:Int))).bind fun r=>
 (Js s0_ReplicaID s0_ReplicaMany s0_ReplicaTerm s0_ReplicaVote s0_ReplicaLog 2 r (l1.set s0_ReplicaID.toNat (s0_ReplicaLog.length:Int))).bind fun r1=>
 .ok (r,(l1.set s0_ReplicaID.toNat (s0_ReplicaLog.length:Int)),r1)
theorem Re (s0_ReplicaID:Int)(s0_ReplicaMany:Int)(s0_ReplicaTerm:Int)(s0_ReplicaVote:Int)(s0_ReplicaLog:List Record)(s0_ReplicaCommit:Int)(l:List Bool)(l1:List Int):Le (Ko s0_ReplicaID s0_ReplicaMany s0_ReplicaTerm s0_ReplicaVote s0_ReplicaLog s0_ReplicaCommit l l1) (Hd s0_ReplicaID s0_ReplicaMany s0_ReplicaTerm s0_ReplicaVote s0_ReplicaLog s0_ReplicaCommit l l1):=by
 unfold Ko Hd
 repeat' first | with_reducible exact Le.refl _ | with_reducible exact hW .. | with_reducible exact Oo .. | with_reducible exact M8 .. | with_reducible apply Co | with_reducible apply Ch | with_reducible apply C5 | with_reducible apply Cm | with_reducible apply B6 | with_reducible apply B7 | with_reducible apply C3 | with_reducible apply C7 | with_reducible apply C4 | with_reducible apply C6 | with_reducible apply C8 | with_reducible apply Do | (rw [B8]; with_reducible exact Le.refl _) | intro _
def Ly (s0_ReplicaID:Int)(s0_ReplicaMany:Int)(s0_ReplicaTerm:Int)(s0_ReplicaVote:Int)(s0_ReplicaLog:List Record)(s0_ReplicaRole:Int)(s0_ReplicaCommit:Int)(l:List Bool):R (Int×(List Int)×(List Message)):=
 if(0:Int)≤s0_ReplicaMany∧(s0_ReplicaMany:Int)≤s0_ReplicaMany∧(Int.toNat s0_ReplicaMany) * 8≤Cf then
 Ko s0_ReplicaID s0_ReplicaMany s0_ReplicaTerm s0_ReplicaVote s0_ReplicaLog s0_ReplicaCommit l (List.replicate (Int.toNat s0_ReplicaMany) 0) else .bad
theorem S0 (s0_ReplicaID:Int)(s0_ReplicaMany:Int)(s0_ReplicaTerm:Int)(s0_ReplicaVote:Int)(s0_ReplicaLog:List Record)(s0_ReplicaRole:Int)(s0_ReplicaCommit:Int)(l:List Bool):Le (Ly s0_ReplicaID s0_ReplicaMany s0_ReplicaTerm s0_ReplicaVote s0_ReplicaLog s0_ReplicaRole s0_ReplicaCommit l) (G7 s0_ReplicaID s0_ReplicaMany s0_ReplicaTerm s0_ReplicaVote s0_ReplicaLog s0_ReplicaRole s0_ReplicaCommit l):=by
 unfold Ly G7
 repeat' first | with_reducible exact Le.refl _ | with_reducible exact hW .. | with_reducible exact Re .. | with_reducible apply Co | with_reducible apply Ch | with_reducible apply C5 | with_reducible apply Cm | with_reducible apply B6 | with_reducible apply B7 | with_reducible apply C3 | with_reducible apply C7 | with_reducible apply C4 | with_reducible apply C6 | with_reducible apply C8 | with_reducible apply Do | (rw [B8]; with_reducible exact Le.refl _) | intro _
def Mm (mKind:Int)(mFrom:Int)(mTo:Int)(mTerm:Int)(mLast:Int)(mLastTerm:Int)(mCommit:Int)(mMatch:Int)(mGranted:Bool)(s_ReplicaID:Int)(s_ReplicaMany:Int)(s_ReplicaTerm:Int)(s_ReplicaVote:Int)(s_ReplicaLog:List Record)(s_ReplicaRole:Int)(s_ReplicaCommit:Int):R (List Message):=
 (R8 64 (Fr fun x l=>Hp mKind mFrom mTo mTerm mLast mLastTerm mCommit mMatch mGranted s_ReplicaID s_ReplicaMany s_ReplicaTerm s_ReplicaVote s_ReplicaLog s_ReplicaRole s_ReplicaCommit x l) (0,[])).bind (fun l1=>Hu l1)
theorem Tq (mKind:Int)(mFrom:Int)(mTo:Int)(mTerm:Int)(mLast:Int)(mLastTerm:Int)(mCommit:Int)(mMatch:Int)(mGranted:Bool)(s_ReplicaID:Int)(s_ReplicaMany:Int)(s_ReplicaTerm:Int)(s_ReplicaVote:Int)(s_ReplicaLog:List Record)(s_ReplicaRole:Int)(s_ReplicaCommit:Int):Le (Mm mKind mFrom mTo mTerm mLast mLastTerm mCommit mMatch mGranted s_ReplicaID s_ReplicaMany s_ReplicaTerm s_ReplicaVote s_ReplicaLog s_ReplicaRole s_ReplicaCommit) (Hl mKind mFrom mTo mTerm mLast mLastTerm mCommit mMatch mGranted s_ReplicaID s_ReplicaMany s_ReplicaTerm s_ReplicaVote s_ReplicaLog s_ReplicaRole s_ReplicaCommit):=by
 unfold Mm Hl
 repeat' first | with_reducible exact Le.refl _ | with_reducible exact hW .. | with_reducible apply Co | with_reducible apply Ch | with_reducible apply C5 | with_reducible apply Cm | with_reducible apply B6 | with_reducible apply B7 | with_reducible apply C3 | with_reducible apply C7 | with_reducible apply C4 | with_reducible apply C6 | with_reducible apply C8 | with_reducible apply Do | (rw [B8]; with_reducible exact Le.refl _) | intro _
def Mv (r:Replica):R (Replica×(List Message)×Int):=
 (Db r).bind fun e=>
 if(e != 0) then
(.ok (({ ID:=0,Many:=0,Term:=0,Vote:=0,Log:=[],Role:=0,Commit:=0,Votes:=[],Match:=[] }:Replica),[],e))
else
(if(r.Term==1048576) then
(.ok (({ ID:=0,Many:=0,Term:=0,Vote:=0,Log:=[],Role:=0,Commit:=0,Votes:=[],Match:=[] }:Replica),[],2))
else
((D4 r).bind fun _=>
 (Cg r).bind fun r1=>
 (C1 r1.1 r.ID).bind fun a=>
 if(r.Many==1) then
((Ly r.ID r.Many (IntKind.wrap .i64 (r.Term+1)) r.ID r.Log 1 r.Commit (r1.1.set r.ID.toNat true)).bind fun r2=>
 .ok (({ ID:=r.ID,Many:=r.Many,Term:=(IntKind.wrap .i64 (r.Term+1)),Vote:=r.ID,Log:=r.Log,Role:=2,Commit:=r2.1,Votes:=(r1.1.set r.ID.toNat true),Match:=r2.2.1 }:Replica),r2.2.2,0))
else
((F0 ({ Replica:=({ ID:=r.ID,Many:=r.Many,Term:=(IntKind.wrap .i64 (r.Term+1)),Vote:=r.ID,Log:=r.Log,Role:=1,Commit:=r.Commit,Votes:=(r1.1.set r.ID.toNat true),Match:=r1.2 }:Replica),fSent:=[] }:T87)).bind fun r3=>
 (Mm 1 0 0 0 (r.Log.length:Int) r3 0 0 false r.ID r.Many (IntKind.wrap .i64 (r.Term+1)) r.ID r.Log 1 r.Commit).bind fun r4=>
 .ok (({ ID:=r.ID,Many:=r.Many,Term:=(IntKind.wrap .i64 (r.Term+1)),Vote:=r.ID,Log:=r.Log,Role:=1,Commit:=r.Commit,Votes:=(r1.1.set r.ID.toNat true),Match:=r1.2 }:Replica),r4,0))))
theorem Wt (r:Replica):Le (Mv r) (Ju r):=by
 unfold Mv Ju
 repeat' first | with_reducible exact Le.refl _ | with_reducible exact hW .. | with_reducible exact Tq .. | with_reducible exact S0 .. | with_reducible apply Co | with_reducible apply Ch | with_reducible apply C5 | with_reducible apply Cm | with_reducible apply B6 | with_reducible apply B7 | with_reducible apply C3 | with_reducible apply C7 | with_reducible apply C4 | with_reducible apply C6 | with_reducible apply C8 | with_reducible apply Do | (rw [B8]; with_reducible exact Le.refl _) | intro _
def Pg (W_:Value→R (Int×Bool))(a:Value)(depth:Int):R (Int ⊕ (Int×Bool)):=
 (W_ a).bind fun r=>
 if r.2 then
(.ok (.inl (if r.1 > depth then r.1 else depth)))
else
(.ok (.inr ((0,false))))
theorem Wk {W' W_:Value→R (Int×Bool)}(hW : ∀ w0,Le (W' w0) (W_ w0))(a:Value)(depth:Int):Le (Pg W' a depth) (In W_ a depth):=by
 unfold Pg In
 repeat' first | with_reducible exact Le.refl _ | with_reducible exact hW .. | with_reducible apply Co | with_reducible apply Ch | with_reducible apply C5 | with_reducible apply Cm | with_reducible apply B6 | with_reducible apply B7 | with_reducible apply C3 | with_reducible apply C7 | with_reducible apply C4 | with_reducible apply C6 | with_reducible apply C8 | with_reducible apply Do | (rw [B8]; with_reducible exact Le.refl _) | intro _
def Py (W_:Value→R (Int×Bool))(v:Value):R (Int×Bool):=
 (if((decide (v.Kind<1))||(decide (v.Kind > 3))) then R.ok true else if(0:Int)≤v.Kind∧v.Kind<4 then
 R.ok (!(V0 (#v[false,((v.S==[])&&((v.L.length:Int)==0)),((v.N==0)&&((v.L.length:Int)==0)),((v.N==0)&&(v.S==[]))]:(Vector Bool 4)) (Int.toNat v.Kind) false)) else .bad).bind (fun(b:Bool)=>if b then
(.ok (0,false))
else
(if v.Kind<3 then
(.ok (0,true))
else
((each (fun _ a=>fun depth=>Pg W_ a depth) 0 v.L 0).bind (Hz (fun depth=>.ok ((IntKind.wrap .i64 (depth+1)),true)) (fun r=>.ok r)))))
theorem Xg {W' W_:Value→R (Int×Bool)}(hW : ∀ w0,Le (W' w0) (W_ w0))(v:Value):Le (Py W' v) (Lr W_ v):=by
 unfold Py Lr
 repeat' first | with_reducible exact Le.refl _ | with_reducible exact hW .. | with_reducible exact Wk (by assumption) .. | with_reducible apply Co | with_reducible apply Ch | with_reducible apply C5 | with_reducible apply Cm | with_reducible apply B6 | with_reducible apply B7 | with_reducible apply C3 | with_reducible apply C7 | with_reducible apply C4 | with_reducible apply C6 | with_reducible apply C8 | with_reducible apply Do | (rw [B8]; with_reducible exact Le.refl _) | intro _
def P6:Nat→Value→R (Int×Bool)
 | 0,_=>.bad
 | n+1,v=>Py (P6 n) v
theorem Rz : ∀ (n k:Nat) a0,Le (P6 n a0) (Lp (n+k) a0)
 | 0,k,a0=>.inl rfl
 | n+1,k,a0=>by
  rw [show n+1+k=(n+k)+1 by omega]
  exact Xg (fun a0=>Rz n k a0) a0
def Rr (v:Value):R (Int×Bool):=P6 16 v
theorem Yw (v:Value):Le (Rr v) (Px v):=by
 unfold Rr Px
 rw [Z8]
 exact Rz 16 (4000000 - 16) v
def Sx (v:Value):R Int:=
 (Rr v).bind fun r=>
 if r.2 then
(if r.1 > 16 then
(.ok 2)
else
(.ok 0))
else
(.ok 1)
theorem Zv (v:Value):Le (Sx v) (O1 v):=by
 unfold Sx O1
 repeat' first | with_reducible exact Le.refl _ | with_reducible exact hW .. | with_reducible exact Yw .. | with_reducible apply Co | with_reducible apply Ch | with_reducible apply C5 | with_reducible apply Cm | with_reducible apply B6 | with_reducible apply B7 | with_reducible apply C3 | with_reducible apply C7 | with_reducible apply C4 | with_reducible apply C6 | with_reducible apply C8 | with_reducible apply Do | (rw [B8]; with_reducible exact Le.refl _) | intro _
def Jd (u:Int)(l:List Int):R (List Int):=
 (R8 64 (Fr fun u1 b=>Jm u1 b) (u,l)).bind (Fr fun u2 b1=>Jo u2 b1)
theorem K7 (u:Int)(l:List Int):Le (Jd u l) (Gv u l):=by
 unfold Jd Gv
 repeat' first | with_reducible exact Le.refl _ | with_reducible exact hW .. | with_reducible apply Co | with_reducible apply Ch | with_reducible apply C5 | with_reducible apply Cm | with_reducible apply B6 | with_reducible apply B7 | with_reducible apply C3 | with_reducible apply C7 | with_reducible apply C4 | with_reducible apply C6 | with_reducible apply C8 | with_reducible apply Do | (rw [B8]; with_reducible exact Le.refl _) | intro _
def H6 (v1:Value)(l:List Int):R (List Int):=
 if(l.length+[1].length) * 1≤Cf then
 (Oi v1.N).bind fun r=>
 (Jd r (l++[1])).bind fun r1=>
 .ok r1 else .bad
theorem Kx (v1:Value)(l:List Int):Le (H6 v1 l) (Fi v1 l):=by
 unfold H6 Fi
 repeat' first | with_reducible exact Le.refl _ | with_reducible exact hW .. | with_reducible exact K7 .. | with_reducible apply Co | with_reducible apply Ch | with_reducible apply C5 | with_reducible apply Cm | with_reducible apply B6 | with_reducible apply B7 | with_reducible apply C3 | with_reducible apply C7 | with_reducible apply C4 | with_reducible apply C6 | with_reducible apply C8 | with_reducible apply Do | (rw [B8]; with_reducible exact Le.refl _) | intro _
def Id (v1:Value)(l:List Int):R (List Int):=
 if(l.length+[2].length) * 1≤Cf then
 (Jd (IntKind.wrap .u64 (v1.S.length:Int)) (l++[2])).bind fun r=>
 if(r.length+(Gc v1.S).length) * 1≤Cf then
 .ok (r++(Gc v1.S)) else .bad else .bad
theorem K1 (v1:Value)(l:List Int):Le (Id v1 l) (Fh v1 l):=by
 unfold Id Fh
 repeat' first | with_reducible exact Le.refl _ | with_reducible exact hW .. | with_reducible exact K7 .. | with_reducible apply Co | with_reducible apply Ch | with_reducible apply C5 | with_reducible apply Cm | with_reducible apply B6 | with_reducible apply B7 | with_reducible apply C3 | with_reducible apply C7 | with_reducible apply C4 | with_reducible apply C6 | with_reducible apply C8 | with_reducible apply Do | (rw [B8]; with_reducible exact Le.refl _) | intro _
def Kd (W_:Value→(List Int)→R (List Int))(a:Value)(b1:List Int):R (List Int):=
 if a.Kind=0 then
(.bad)
else
(if a.Kind=1 then
((H6 a b1).bind fun b2=>
 .ok b2)
else
(if a.Kind=2 then
((Id a b1).bind fun b3=>
 .ok b3)
else
(if a.Kind=3 then
((W_ a b1).bind fun b4=>
 .ok b4)
else
(.bad))))
theorem Rc {W' W_:Value→(List Int)→R (List Int)}(hW : ∀ w0 w1,Le (W' w0 w1) (W_ w0 w1))(a:Value)(b1:List Int):Le (Kd W' a b1) (F6 W_ a b1):=by
 unfold Kd F6
 repeat' first | with_reducible exact Le.refl _ | with_reducible exact hW .. | with_reducible exact K1 .. | with_reducible exact Kx .. | with_reducible apply Co | with_reducible apply Ch | with_reducible apply C5 | with_reducible apply Cm | with_reducible apply B6 | with_reducible apply B7 | with_reducible apply C3 | with_reducible apply C7 | with_reducible apply C4 | with_reducible apply C6 | with_reducible apply C8 | with_reducible apply Do | (rw [B8]; with_reducible exact Le.refl _) | intro _
def Kv (W_:Value→(List Int)→R (List Int))(v1:Value)(l:List Int):R (List Int):=
 if(l.length+[3].length) * 1≤Cf then
 (Jd (IntKind.wrap .u64 (v1.L.length:Int)) (l++[3])).bind fun b=>
 (E7 (fun _ a=>fun b1=>Kd W_ a b1) 0 v1.L b).bind ((fun b1=>.ok b1)) else .bad
theorem R9 {W' W_:Value→(List Int)→R (List Int)}(hW : ∀ w0 w1,Le (W' w0 w1) (W_ w0 w1))(v1:Value)(l:List Int):Le (Kv W' v1 l) (Ge W_ v1 l):=by
 unfold Kv Ge
 repeat' first | with_reducible exact Le.refl _ | with_reducible exact hW .. | with_reducible exact K7 .. | with_reducible exact Rc (by assumption) .. | with_reducible apply Co | with_reducible apply Ch | with_reducible apply C5 | with_reducible apply Cm | with_reducible apply B6 | with_reducible apply B7 | with_reducible apply C3 | with_reducible apply C7 | with_reducible apply C4 | with_reducible apply C6 | with_reducible apply C8 | with_reducible apply Do | (rw [B8]; with_reducible exact Le.refl _) | intro _
def K0:Nat→Value→(List Int)→R (List Int)
 | 0,_,_=>.bad
 | n+1,v1,l=>Kv (K0 n) v1 l
theorem Np : ∀ (n k:Nat) a0 a1,Le (K0 n a0 a1) (Gg (n+k) a0 a1)
 | 0,k,a0,a1=>.inl rfl
 | n+1,k,a0,a1=>by
  rw [show n+1+k=(n+k)+1 by omega]
  exact R9 (fun a0 a1=>Np n k a0 a1) a0 a1
def Lw (v1:Value)(l:List Int):R (List Int):=K0 16 v1 l
theorem S1 (v1:Value)(l:List Int):Le (Lw v1 l) (It v1 l):=by
 unfold Lw It
 rw [Z8]
 exact Np 16 (4000000 - 16) v1 l
def Lf (a:Value)(b1:List Int):R (List Int):=
 if a.Kind=0 then
(.bad)
else
(if a.Kind=1 then
((H6 a b1).bind fun b2=>
 .ok b2)
else
(if a.Kind=2 then
((Id a b1).bind fun b3=>
 .ok b3)
else
(if a.Kind=3 then
((Lw a b1).bind fun b4=>
 .ok b4)
else
(.bad))))
theorem Ss (a:Value)(b1:List Int):Le (Lf a b1) (Gx a b1):=by
 unfold Lf Gx
 repeat' first | with_reducible exact Le.refl _ | with_reducible exact hW .. | with_reducible exact K1 .. | with_reducible exact Kx .. | with_reducible exact S1 .. | with_reducible apply Co | with_reducible apply Ch | with_reducible apply C5 | with_reducible apply Cm | with_reducible apply B6 | with_reducible apply B7 | with_reducible apply C3 | with_reducible apply C7 | with_reducible apply C4 | with_reducible apply C6 | with_reducible apply C8 | with_reducible apply Do | (rw [B8]; with_reducible exact Le.refl _) | intro _
def Nh (v1:Value):R (List Int):=
 if [3].length * 1≤Cf then
 (Jd (IntKind.wrap .u64 (v1.L.length:Int)) [3]).bind fun b=>
 (E7 (fun _ a=>fun b1=>Lf a b1) 0 v1.L b).bind ((fun b1=>.ok b1)) else .bad
theorem Ur (v1:Value):Le (Nh v1) (H4 v1):=by
 unfold Nh H4
 repeat' first | with_reducible exact Le.refl _ | with_reducible exact hW .. | with_reducible exact K7 .. | with_reducible exact Ss .. | with_reducible apply Co | with_reducible apply Ch | with_reducible apply C5 | with_reducible apply Cm | with_reducible apply B6 | with_reducible apply B7 | with_reducible apply C3 | with_reducible apply C7 | with_reducible apply C4 | with_reducible apply C6 | with_reducible apply C8 | with_reducible apply Do | (rw [B8]; with_reducible exact Le.refl _) | intro _
def Pa (v:Value):R ((List Int)×Int):=
 (Sx v).bind fun e=>
 if(e != 0) then
(.ok ([],e))
else
((J1).bind fun _=>
 if v.Kind=0 then
(.bad)
else
(if v.Kind=1 then
((H6 v []).bind fun b=>
 .ok (b,0))
else
(if v.Kind=2 then
((Id v []).bind fun b1=>
 .ok (b1,0))
else
(if v.Kind=3 then
((Nh v).bind fun b2=>
 .ok (b2,0))
else
(.bad)))))
theorem Tp (v:Value):Le (Pa v) (Lx v):=by
 unfold Pa Lx
 repeat' first | with_reducible exact Le.refl _ | with_reducible exact hW .. | with_reducible exact K1 .. | with_reducible exact Ur .. | with_reducible exact Zv .. | with_reducible exact Kx .. | with_reducible apply Co | with_reducible apply Ch | with_reducible apply C5 | with_reducible apply Cm | with_reducible apply B6 | with_reducible apply B7 | with_reducible apply C3 | with_reducible apply C7 | with_reducible apply C4 | with_reducible apply C6 | with_reducible apply C8 | with_reducible apply Do | (rw [B8]; with_reducible exact Le.refl _) | intro _
def Ld (m:Message)(l:List Value)(granted:Int):R ((List Int)×Int):=
 (Cx m.Kind).bind fun r1=>
 (Cx m.From).bind fun r2=>
 (Cx m.To).bind fun r3=>
 (Cx m.Term).bind fun r4=>
 (Cx m.Last).bind fun r5=>
 (Cx m.LastTerm).bind fun r6=>
 (Cx m.Commit).bind fun r7=>
 (Cx m.Match).bind fun r8=>
 (Cx granted).bind fun r9=>
 (Pa ({ Kind:=3,N:=0,S:=[],L:=[r1,r2,r3,r4,r5,r6,({ Kind:=3,N:=0,S:=[],L:=l }:Value),r7,r8,r9] }:Value)).bind fun r10=>
 .ok (r10.1,r10.2)
theorem U6 (m:Message)(l:List Value)(granted:Int):Le (Ld m l granted) (Gi m l granted):=by
 unfold Ld Gi
 repeat' first | with_reducible exact Le.refl _ | with_reducible exact hW .. | with_reducible exact Tp .. | with_reducible apply Co | with_reducible apply Ch | with_reducible apply C5 | with_reducible apply Cm | with_reducible apply B6 | with_reducible apply B7 | with_reducible apply C3 | with_reducible apply C7 | with_reducible apply C4 | with_reducible apply C6 | with_reducible apply C8 | with_reducible apply Do | (rw [B8]; with_reducible exact Le.refl _) | intro _
def P0 (m:Message):R ((List Int)×Int):=
 (E7 (fun _ a=>fun l=>J2 a l) 0 m.Log []).bind ((fun l=>if m.Granted then
(Ld m l 1)
else
(Ld m l 0)))
theorem Xc (m:Message):Le (P0 m) (L9 m):=by
 unfold P0 L9
 repeat' first | with_reducible exact Le.refl _ | with_reducible exact hW .. | with_reducible exact U6 .. | with_reducible apply Co | with_reducible apply Ch | with_reducible apply C5 | with_reducible apply Cm | with_reducible apply B6 | with_reducible apply B7 | with_reducible apply C3 | with_reducible apply C7 | with_reducible apply C4 | with_reducible apply C6 | with_reducible apply C8 | with_reducible apply Do | (rw [B8]; with_reducible exact Le.refl _) | intro _
def J5 (s:T107):R (Int×T107):=
 (R8 64 (Vz fun u i fRest=>Hn u i fRest) (0,0,s.fRest)).bind (fun r=>.ok r)
theorem O6 (s:T107):Le (J5 s) (Gr s):=by
 unfold J5 Gr
 repeat' first | with_reducible exact Le.refl _ | with_reducible exact hW .. | with_reducible apply Co | with_reducible apply Ch | with_reducible apply C5 | with_reducible apply Cm | with_reducible apply B6 | with_reducible apply B7 | with_reducible apply C3 | with_reducible apply C7 | with_reducible apply C4 | with_reducible apply C6 | with_reducible apply C8 | with_reducible apply Do | (rw [B8]; with_reducible exact Le.refl _) | intro _
def J7 (s:T107):R (Int×T107):=
 (J5 s).bind fun n=>
 (D5 n.2 (decide (n.1≤(IntKind.wrap .u64 (n.2.fRest.length:Int))))).bind fun _=>
 .ok ((IntKind.wrap .i64 n.1),n.2)
theorem T0 (s:T107):Le (J7 s) (Gq s):=by
 unfold J7 Gq
 repeat' first | with_reducible exact Le.refl _ | with_reducible exact hW .. | with_reducible exact O6 .. | with_reducible apply Co | with_reducible apply Ch | with_reducible apply C5 | with_reducible apply Cm | with_reducible apply B6 | with_reducible apply B7 | with_reducible apply C3 | with_reducible apply C7 | with_reducible apply C4 | with_reducible apply C6 | with_reducible apply C8 | with_reducible apply Do | (rw [B8]; with_reducible exact Le.refl _) | intro _
def Lj (depth:Int)(W_:Int→T107→R (Value×T107))(r6:(Int×T107))(x:Int)(o:T107)(l:List Value):R ((Int×T107×(List Value)) ⊕ (T107×(List Value))):=
 if x<r6.1 then
((W_ (IntKind.wrap .i64 (depth+1)) o).bind fun r7=>
 if(l.length+[r7.1].length) * 56≤Cf then
 .ok (.inl ((IntKind.wrap .i64 (x+1)),r7.2,(l++[r7.1]))) else .bad)
else
(.ok (.inr ((o,l))))
theorem Sw {W' W_:Int→T107→R (Value×T107)}(hW : ∀ w0 w1,Le (W' w0 w1) (W_ w0 w1))(depth:Int)(r6:(Int×T107))(x:Int)(o:T107)(l:List Value):Le (Lj depth W' r6 x o l) (Gy depth W_ r6 x o l):=by
 unfold Lj Gy
 repeat' first | with_reducible exact Le.refl _ | with_reducible exact hW .. | with_reducible apply Co | with_reducible apply Ch | with_reducible apply C5 | with_reducible apply Cm | with_reducible apply B6 | with_reducible apply B7 | with_reducible apply C3 | with_reducible apply C7 | with_reducible apply C4 | with_reducible apply C6 | with_reducible apply C8 | with_reducible apply Do | (rw [B8]; with_reducible exact Le.refl _) | intro _
def Lt (W_:Int→T107→R (Value×T107))(depth:Int)(s:T107):R (Value×T107):=
 (Gl 1 s).bind fun _=>
 (C1 (s.fRest.take 1) 0).bind fun a=>
 if((IntKind.wrap .i64 a)==1) then
((J5 ({ fRest:=(s.fRest.drop 1) }:T107)).bind fun r1=>
 (Pu r1.1).bind fun r2=>
 .ok (({ Kind:=(IntKind.wrap .i64 a),N:=r2,S:=[],L:=[] }:Value),r1.2))
else
(if((IntKind.wrap .i64 a)==2) then
((J7 ({ fRest:=(s.fRest.drop 1) }:T107)).bind fun r3=>
 (Gl r3.1 r3.2).bind fun _=>
 .ok (({ Kind:=(IntKind.wrap .i64 a),N:=0,S:=(B9 (r3.2.fRest.take (Int.toNat r3.1))),L:=[] }:Value),({ fRest:=(r3.2.fRest.drop (Int.toNat r3.1)) }:T107)))
else
(if((IntKind.wrap .i64 a)==3) then
((D5 ({ fRest:=(s.fRest.drop 1) }:T107) (decide (depth<16))).bind fun _=>
 (J7 ({ fRest:=(s.fRest.drop 1) }:T107)).bind fun r6=>
 (R8 64 (Vz fun x o l=>Lj depth W_ r6 x o l) (0,r6.2,[])).bind (Fr fun o1 l1=>Ia a o1 l1))
else
((D5 ({ fRest:=(s.fRest.drop 1) }:T107) false).bind fun _=>
 .ok (({ Kind:=(IntKind.wrap .i64 a),N:=0,S:=[],L:=[] }:Value),({ fRest:=(s.fRest.drop 1) }:T107)))))
theorem Te {W' W_:Int→T107→R (Value×T107)}(hW : ∀ w0 w1,Le (W' w0 w1) (W_ w0 w1))(depth:Int)(s:T107):Le (Lt W' depth s) (G6 W_ depth s):=by
 unfold Lt G6
 repeat' first | with_reducible exact Le.refl _ | with_reducible exact hW .. | with_reducible exact T0 .. | with_reducible exact Sw (by assumption) .. | with_reducible exact O6 .. | with_reducible apply Co | with_reducible apply Ch | with_reducible apply C5 | with_reducible apply Cm | with_reducible apply B6 | with_reducible apply B7 | with_reducible apply C3 | with_reducible apply C7 | with_reducible apply C4 | with_reducible apply C6 | with_reducible apply C8 | with_reducible apply Do | (rw [B8]; with_reducible exact Le.refl _) | intro _
def Lq:Nat→Int→T107→R (Value×T107)
 | 0,_,_=>.bad
 | n+1,depth,s=>Lt (Lq n) depth s
theorem Oq : ∀ (n k:Nat) a0 a1,Le (Lq n a0 a1) (G4 (n+k) a0 a1)
 | 0,k,a0,a1=>.inl rfl
 | n+1,k,a0,a1=>by
  rw [show n+1+k=(n+k)+1 by omega]
  exact Te (fun a0 a1=>Oq n k a0 a1) a0 a1
def Nk (depth:Int)(s:T107):R (Value×T107):=Lq 16 depth s
theorem Ud (depth:Int)(s:T107):Le (Nk depth s) (Jk depth s):=by
 unfold Nk Jk
 rw [Z8]
 exact Oq 16 (4000000 - 16) depth s
def Pw (b:List Int):R (Value×Int):=
 (Nk 0 ({ fRest:=b }:T107)).bind fun r=>
 (D5 r.2 ((r.2.fRest.length:Int)==0)).bind fun _=>
 .ok (r.1,0)
theorem Xe (b:List Int):Le (Pw b) (Lv b):=by
 unfold Pw Lv
 repeat' first | with_reducible exact Le.refl _ | with_reducible exact hW .. | with_reducible exact Ud .. | with_reducible apply Co | with_reducible apply Ch | with_reducible apply C5 | with_reducible apply Cm | with_reducible apply B6 | with_reducible apply B7 | with_reducible apply C3 | with_reducible apply C7 | with_reducible apply C4 | with_reducible apply C6 | with_reducible apply C8 | with_reducible apply Do | (rw [B8]; with_reducible exact Le.refl _) | intro _
def Rm (b:List Int):R (Value×Int):=
 (Pw b).catch' (Ki 28 .i64 (fun n=>(E0 n).bind fun p=>.ok (({ Kind:=0,N:=0,S:=[],L:=[] }:Value),p)) (fun _=>.bad))
theorem Y5 (b:List Int):Le (Rm b) (Qa b):=by
 unfold Rm Qa
 repeat' first | with_reducible exact Le.refl _ | with_reducible exact hW .. | with_reducible exact Xe .. | with_reducible apply Co | with_reducible apply Ch | with_reducible apply C5 | with_reducible apply Cm | with_reducible apply B6 | with_reducible apply B7 | with_reducible apply C3 | with_reducible apply C7 | with_reducible apply C4 | with_reducible apply C6 | with_reducible apply C8 | with_reducible apply Do | (rw [B8]; with_reducible exact Le.refl _) | intro _
def Ov (b:List Int):R (Message×Int):=
 (Rm b).bind fun r=>
 if(r.2 != 0) then
(.ok (({ Kind:=0,From:=0,To:=0,Term:=0,Last:=0,LastTerm:=0,Log:=[],Commit:=0,Match:=0,Granted:=false }:Message),r.2))
else
((if((r.1.Kind==3)&&((r.1.L.length:Int)==10)) then(C1 r.1.L 6).bind fun a=>
 R.ok (a.Kind==3) else R.ok false).bind (fun(b1:Bool)=>(Ba b1 470).bind fun _=>
 (Bh 0 r.1).bind fun r2=>
 (Bh 1 r.1).bind fun r3=>
 (Bh 2 r.1).bind fun r4=>
 (Bh 3 r.1).bind fun r5=>
 (Bh 4 r.1).bind fun r6=>
 (Bh 5 r.1).bind fun r7=>
 (Bh 7 r.1).bind fun r8=>
 (Bh 8 r.1).bind fun r9=>
 (Bh 9 r.1).bind fun r10=>
 (Bh 9 r.1).bind fun r11=>
 (Bi r11 0 1).bind fun r12=>
 (Ba r12 470).bind fun _=>
 (C1 r.1.L 6).bind fun a1=>
 (E7 (fun _ a2=>fun l=>I5 a2 l) 0 a1.L []).bind ((fun l=>.ok (({ Kind:=r2,From:=r3,To:=r4,Term:=r5,Last:=r6,LastTerm:=r7,Log:=l,Commit:=r8,Match:=r9,Granted:=(r10==1) }:Message),0)))))
theorem Vu (b:List Int):Le (Ov b) (Kn b):=by
 unfold Ov Kn
 repeat' first | with_reducible exact Le.refl _ | with_reducible exact hW .. | with_reducible exact Y5 .. | with_reducible apply Co | with_reducible apply Ch | with_reducible apply C5 | with_reducible apply Cm | with_reducible apply B6 | with_reducible apply B7 | with_reducible apply C3 | with_reducible apply C7 | with_reducible apply C4 | with_reducible apply C6 | with_reducible apply C8 | with_reducible apply Do | (rw [B8]; with_reducible exact Le.refl _) | intro _
def Nq (b:List Int):R (Message×Int):=
 (Ov b).catch' (Ha 105 .i64 (fun n=>(D8 n).bind fun p=>.ok (({ Kind:=0,From:=0,To:=0,Term:=0,Last:=0,LastTerm:=0,Log:=[],Commit:=0,Match:=0,Granted:=false }:Message),p)) (fun _=>.bad))
theorem Xf (b:List Int):Le (Nq b) (L4 b):=by
 unfold Nq L4
 repeat' first | with_reducible exact Le.refl _ | with_reducible exact hW .. | with_reducible exact Vu .. | with_reducible apply Co | with_reducible apply Ch | with_reducible apply C5 | with_reducible apply Cm | with_reducible apply B6 | with_reducible apply B7 | with_reducible apply C3 | with_reducible apply C7 | with_reducible apply C4 | with_reducible apply C6 | with_reducible apply C8 | with_reducible apply Do | (rw [B8]; with_reducible exact Le.refl _) | intro _
def Xj:R Bool:=
 (Kb 0 3).bind fun r=>
 (Kb 0 6).bind fun r1=>
 (Mq r.1 []).bind fun r2=>
 (Mp r.1 ({ Kind:=0,From:=0,To:=0,Term:=0,Last:=0,LastTerm:=0,Log:=[],Commit:=0,Match:=0,Granted:=false }:Message)).bind fun r3=>
 (Kb 0 1).bind fun r4=>
 (Mv r4.1).bind fun r5=>
 (Mq r5.1 [97]).bind fun r6=>
 (Mv r.1).bind fun r7=>
 (Mp r7.1 ({ Kind:=2,From:=2,To:=0,Term:=1,Last:=0,LastTerm:=0,Log:=[],Commit:=0,Match:=0,Granted:=true }:Message)).bind fun r8=>
 (P0 ({ Kind:=3,From:=0,To:=0,Term:=0,Last:=0,LastTerm:=0,Log:=[({ Term:=3,Data:=[120] }:Record)],Commit:=1,Match:=0,Granted:=true }:Message)).bind fun r9=>
 (Nq r9.1).bind fun r10=>
 (Pa ({ Kind:=1,N:=0,S:=[],L:=[] }:Value)).bind fun r11=>
 (Nq r11.1).bind fun r12=>
 (if(((((((((((((r.2 != 0)||(r1.2 != 470))||(r2.2.2 != 470))||(r3.2.2 != 470))||(r4.2 != 0))||(r5.2.2 != 0))||(r6.2.2 != 0))||(r7.2.2 != 0))||(r8.2.2 != 0))||(r9.2 != 0))||(r10.2 != 0))||(r11.2 != 0))||(r12.2 != 470)) then R.ok true else(Db ({ ID:=0,Many:=0,Term:=0,Vote:=0,Log:=[],Role:=0,Commit:=0,Votes:=[],Match:=[] }:Replica)).bind fun r13=>
 R.ok (r13 != 470)).bind (fun(b:Bool)=>(if b then R.ok true else(Db r.1).bind fun r14=>
 R.ok (r14 != 0)).bind (fun(b1:Bool)=>if b1 then
(.ok false)
else
((Ck r6.1).bind fun r15=>
 (if(((r5.2.1.length:Int)==0)&&((r15.length:Int)==1)) then(C1 r15 0).bind fun a=>
 R.ok ((B9 a)==[97]) else R.ok false).bind (fun(b2:Bool)=>(if b2 then(Ir r6.1).bind fun r16=>
 (Ck r16).bind fun r17=>
 R.ok ((r17.length:Int)==0) else R.ok false).bind (fun(b3:Bool)=>(if(b3&&((r7.2.1.length:Int)==2)) then(C1 r7.2.1 0).bind fun a1=>
 R.ok (a1.Kind==1) else R.ok false).bind (fun(b4:Bool)=>(if((b4&&(r8.1.Role==2))&&((r8.2.1.length:Int)==2)) then(C1 r8.2.1 1).bind fun a2=>
 R.ok (a2.Kind==3) else R.ok false).bind (fun(b5:Bool)=>(if((b5&&r10.1.Granted)&&((r10.1.Log.length:Int)==1)) then(C1 r10.1.Log 0).bind fun a3=>
 R.ok ((B9 a3.Data)==[120]) else R.ok false).bind (fun(b6:Bool)=>.ok b6))))))))
theorem Aa1:Le (Xj ) (Mk ):=by
 unfold Xj Mk
 repeat' first | with_reducible exact Le.refl _ | with_reducible exact hW .. | with_reducible exact We .. | with_reducible exact Tp .. | with_reducible exact Wt .. | with_reducible exact Xf .. | with_reducible exact Wh .. | with_reducible exact Xc .. | with_reducible apply Co | with_reducible apply Ch | with_reducible apply C5 | with_reducible apply Cm | with_reducible apply B6 | with_reducible apply B7 | with_reducible apply C3 | with_reducible apply C7 | with_reducible apply C4 | with_reducible apply C6 | with_reducible apply C8 | with_reducible apply Do | (rw [B8]; with_reducible exact Le.refl _) | intro _
end Go.Am
namespace Go.Am
open Go
theorem Aa4:Mk=.ok true:=Akx Aa1 (by kernel_rfl)
end Go.Am
namespace Go.Am
open Go
set_option linter.unusedVariables false
set_option linter.unusedSimpArgs false
namespace Rp
theorem Ag3 {l:List Record}(h:(Md 2 Jw).good l):Po l:=by
 intro a ha b hb
 have h1:Jw.good a:=h a ha
 have h2:(Lit.int .u8 b).wf=true:=h1.2.1 b hb
 have:0≤b∧b≤255:=by simpa [Lit.wf,IntKind.min,IntKind.max,IntKind.signed,IntKind.bits] using h2
 omega
theorem Aji (a:Record):1≤Jw.bulk a:=Nat.le_add_left _ _
theorem Adp (l:List Record):l.length+1≤(Md 2 Jw).bulk l:=Ajb Aji l
theorem rep_len {r:Replica}:r.Log.length+1≤Ql.bulk r:=by
 have:=Adp r.Log
 show _≤(_+(_+(_+(_+((Md 2 Jw).bulk r.Log+_)))))+1
 omega
theorem mes_len {m:Message}:m.Log.length+1≤Qo.bulk m:=by
 have:=Adp m.Log
 show _≤(_+(_+(_+(_+(_+(_+((Md 2 Jw).bulk m.Log+_)))))))+1
 omega
theorem rep_bok {r:Replica}(h:Ql.good r):Po r.Log:=Ag3 h.2.2.2.2.1
theorem mes_bok {m:Message}(h:Qo.good m):Po m.Log:=Ag3 h.2.2.2.2.2.2.1
end Rp
theorem law_ReplicaKeeps:Mt:=by
 intro r m hr hm hb
 have h1:=Rp.rep_len (r:=r)
 have h2:=Rp.mes_len (m:=m)
 exact Rp.keeps_of Aa4 (Rp.rep_bok hr) (Rp.mes_bok hm) (by omega) (by omega)
end Go.Am
namespace Go.Proofs
open Go.Shelf
def Try.laysSlM5_f92_ren:Go.Shelf.Ren:=⟨fun | 5=>92 | 8=>97 | 7=>96 | 19=>107 | 20=>108 | 10=>98 | 11=>99 | 12=>100 | 13=>101 | 14=>102 | 15=>103 | 16=>104 | 17=>105 | 18=>106 | 30=>109 | 31=>110 | 32=>111 | 33=>112 | 34=>113 | 35=>114 | 40=>115 | n=>n,fun | 23=>48 | 25=>3 | 3=>3 | 32=>140 | 22=>48 | 0=>0 | 44=>153 | 46=>125 | 4=>4 | 36=>146 | 35=>145 | 41=>120 | 5=>5 | 9=>9 | 53=>154 | 57=>157 | 63=>159 | 64=>160 | n=>n,fun | n=>n⟩
theorem Try.laysSlM5_f92:Go.Proofs.SlLaysM.n5 Try.prog Try.laysSlM5_f92_ren:={
 mixed:=by kernel_rfl
 f5:=⟨Try.f92.name,by decide,Try.func92.trans (congrArg some (by kernel_rfl))⟩
 f7:=⟨Try.f96.name,by decide,Try.func96.trans (congrArg some (by kernel_rfl))⟩
 f8:=Try.func97.trans (congrArg some (by kernel_rfl))
 f10:=⟨Try.f98.name,by decide,Try.func98.trans (congrArg some (by kernel_rfl))⟩
 f11:=⟨Try.f99.name,by decide,Try.func99.trans (congrArg some (by kernel_rfl))⟩
 f12:=⟨Try.f100.name,by decide,Try.func100.trans (congrArg some (by kernel_rfl))⟩
 f13:=⟨Try.f101.name,by decide,Try.func101.trans (congrArg some (by kernel_rfl))⟩
 f14:=⟨Try.f102.name,by decide,Try.func102.trans (congrArg some (by kernel_rfl))⟩
 f15:=⟨Try.f103.name,by decide,Try.func103.trans (congrArg some (by kernel_rfl))⟩
 f16:=⟨Try.f104.name,by decide,Try.func104.trans (congrArg some (by kernel_rfl))⟩
 f17:=⟨Try.f105.name,by decide,Try.func105.trans (congrArg some (by kernel_rfl))⟩
 f18:=⟨Try.f106.name,by decide,Try.func106.trans (congrArg some (by kernel_rfl))⟩
 f19:=Try.func107.trans (congrArg some (by kernel_rfl))
 f20:=Try.func108.trans (congrArg some (by kernel_rfl))
 f30:=⟨Try.f109.name,by decide,Try.func109.trans (congrArg some (by kernel_rfl))⟩
 f31:=Try.func110.trans (congrArg some (by kernel_rfl))
 f32:=Try.func111.trans (congrArg some (by kernel_rfl))
 f33:=⟨Try.f112.name,by decide,Try.func112.trans (congrArg some (by kernel_rfl))⟩
 f34:=⟨Try.f113.name,by decide,Try.func113.trans (congrArg some (by kernel_rfl))⟩
 f35:=⟨Try.f114.name,by decide,Try.func114.trans (congrArg some (by kernel_rfl))⟩
 f40:=⟨Try.f115.name,by decide,Try.func115.trans (congrArg some (by kernel_rfl))⟩
 t0:=Try.underlying0
 a0:=Try.isAgg0
 z0:=Try.sizeOf0
 v0:=Try.zeroValue0
 t3:=Try.underlying3
 a3:=Try.isAgg3
 z3:=Try.sizeOf3
 v3:=Try.zeroValue3
 t4:=Try.underlying4
 a4:=Try.isAgg4
 z4:=Try.sizeOf4
 v4:=Try.zeroValue4
 t5:=Try.underlying5
 a5:=Try.isAgg5
 z5:=Try.sizeOf5
 v5:=Try.zeroValue5
 t9:=Try.underlying9
 a9:=Try.isAgg9
 z9:=Try.sizeOf9
 v9:=Try.zeroValue9
 t22:=Try.underlying48
 a22:=Try.isAgg48
 z22:=Try.sizeOf48
 v22:=Try.zeroValue48
 t23:=Try.underlying48
 a23:=Try.isAgg48
 z23:=Try.sizeOf48
 v23:=Try.zeroValue48
 t25:=Try.underlying3
 a25:=Try.isAgg3
 z25:=Try.sizeOf3
 v25:=Try.zeroValue3
 t32:=Try.underlying140
 a32:=Try.isAgg140
 z32:=Try.sizeOf140
 v32:=Try.zeroValue140
 t35:=Try.underlying145
 a35:=Try.isAgg145
 z35:=Try.sizeOf145
 v35:=Try.zeroValue145
 t36:=Try.underlying146
 a36:=Try.isAgg146
 z36:=Try.sizeOf146
 v36:=Try.zeroValue146
 t41:=Try.underlying120
 a41:=Try.isAgg120
 z41:=Try.sizeOf120
 v41:=Try.zeroValue120
 t44:=Try.underlying153
 a44:=Try.isAgg153
 z44:=Try.sizeOf153
 v44:=Try.zeroValue153
 t46:=Try.underlying125
 a46:=Try.isAgg125
 z46:=Try.sizeOf125
 v46:=Try.zeroValue125
 t53:=Try.underlying154
 a53:=Try.isAgg154
 z53:=Try.sizeOf154
 v53:=Try.zeroValue154
 t57:=Try.underlying157
 a57:=Try.isAgg157
 z57:=Try.sizeOf157
 v57:=Try.zeroValue157
 t63:=Try.underlying159
 a63:=Try.isAgg159
 z63:=Try.sizeOf159
 v63:=Try.zeroValue159
 t64:=Try.underlying160
 a64:=Try.isAgg160
 z64:=Try.sizeOf160
 v64:=Try.zeroValue160 }
open Go.Sort Go.RowKit in
theorem Try.slices_Sort_int (blk off cap : Nat) (zs : List Int) (w : World) (hH : Holds (Value.int .i64) w blk off zs.toArray) (hblk : blk < w.heap.size) (hsz : zs.length < 4611686018427387904) :
  Calls Try.prog 92 #[.slice (some ⟨blk, off, none⟩) zs.length cap] w fun e w' =>
   e = .returned (.tuple #[]) ∧ ∃ n os, w' = grow (putRow (Value.int .i64) (Sort.ahead w n) blk off (zs.mergeSort fun x y => decide (x ≤ y)).toArray) os := AnyM.slices_Sort_int Try.laysSlM5_f92 blk off cap zs w hH hblk hsz
open Go.RowKit Go.Sort in
theorem Try.slices_Sort_int_none (p : Option Addr) (cap : Nat) (w : World) :
  Calls Try.prog 92 #[.slice p 0 cap] w fun e w' => e = .returned (.tuple #[]) ∧ w' = w := AnyM.slices_Sort_int_none Try.laysSlM5_f92 p cap w
end Go.Proofs
namespace Go.Am
open Go Go.Proofs
set_option linter.unusedVariables false
set_option linter.unusedSimpArgs false
instance gwI:GW Try.prog:={ n:=0,G:=fun _ _=>True,keep:=fun _ _ _=>trivial }
theorem Dd:Try.prog.follows .mixedOrders=true:=by kernel_rfl
theorem Av:ti Try.prog 3=some ⟨.int .i64,1,8,[.int .i64 0]⟩:=by kernel_rfl
theorem Hr:ti Try.prog 4=some ⟨.bool,1,1,[.bool false]⟩:=by kernel_rfl
theorem Je:ti Try.prog 5=some ⟨.int .u8,1,1,[.int .u8 0]⟩:=by kernel_rfl
theorem Jr:ti Try.prog 9=some ⟨.str,1,16,[.str []]⟩:=by kernel_rfl
theorem Aey:ti Try.prog 20=some ⟨.ifc,1,16,[.nili]⟩:=by kernel_rfl
theorem Bq:ti Try.prog 22=some ⟨.sl 54,1,24,[.emp]⟩:=by kernel_rfl
theorem Bp:ti Try.prog 24=some ⟨.st [(0,3),(1,3),(2,3),(3,3),(4,3),(5,3),(6,22),(7,3),(8,3),(9,4)],10,96,[.int .i64 0,.int .i64 0,.int .i64 0,.int .i64 0,.int .i64 0,.int .i64 0,.emp,.int .i64 0,.int .i64 0,.bool false]⟩:=by kernel_rfl
theorem D7:ti Try.prog 25=some ⟨.sl 5,1,24,[.emp]⟩:=by kernel_rfl
theorem Gm:ti Try.prog 28=some ⟨.int .i64,1,8,[.int .i64 0]⟩:=by kernel_rfl
theorem Cp:ti Try.prog 37=some ⟨.sl 24,1,24,[.emp]⟩:=by kernel_rfl
theorem Ru:ti Try.prog 42=some ⟨.sl 25,1,24,[.emp]⟩:=by kernel_rfl
theorem Cv:ti Try.prog 47=some ⟨.sl 4,1,24,[.emp]⟩:=by kernel_rfl
theorem B3:ti Try.prog 48=some ⟨.sl 3,1,24,[.emp]⟩:=by kernel_rfl
theorem Ar:ti Try.prog 50=some ⟨.st [(0,3),(1,3),(2,3),(3,3),(4,22),(5,3),(6,3),(7,47),(8,48)],9,120,[.int .i64 0,.int .i64 0,.int .i64 0,.int .i64 0,.emp,.int .i64 0,.int .i64 0,.emp,.emp]⟩:=by kernel_rfl
theorem D0:ti Try.prog 54=some ⟨.st [(0,3),(1,25)],2,32,[.int .i64 0,.emp]⟩:=by kernel_rfl
theorem Da:ti Try.prog 71=some ⟨.sl 73,1,24,[.emp]⟩:=by kernel_rfl
theorem Br:ti Try.prog 73=some ⟨.st [(0,3),(1,3),(2,9),(3,71)],4,56,[.int .i64 0,.int .i64 0,.str [],.emp]⟩:=by kernel_rfl
theorem A6:ti Try.prog 88=some ⟨.st [(0,50),(9,37)],10,144,[.int .i64 0,.int .i64 0,.int .i64 0,.int .i64 0,.emp,.int .i64 0,.int .i64 0,.emp,.emp,.emp]⟩:=by kernel_rfl
theorem T7:ti Try.prog 89=some ⟨.fn,1,8,[.nilf]⟩:=by kernel_rfl
theorem Yh:ti Try.prog 90=some ⟨.arr 5 89,5,40,[.nilf,.nilf,.nilf,.nilf,.nilf]⟩:=by kernel_rfl
theorem Aka:ti Try.prog 92=some ⟨.st [(0,90)],5,40,[.nilf,.nilf,.nilf,.nilf,.nilf]⟩:=by kernel_rfl
theorem Ik:ti Try.prog 98=some ⟨.fn,1,8,[.nilf]⟩:=by kernel_rfl
theorem F9:ti Try.prog 100=some ⟨.st [(0,98)],1,8,[.nilf]⟩:=by kernel_rfl
theorem Abb:ti Try.prog 101=some ⟨.ptr 123,1,8,[.nilp]⟩:=by kernel_rfl
theorem Ael:ti Try.prog 105=some ⟨.st [(0,28)],1,8,[.int .i64 0]⟩:=by kernel_rfl
theorem Ll:ti Try.prog 123=some ⟨.arr 4 100,4,32,[.nilf,.nilf,.nilf,.nilf]⟩:=by kernel_rfl
theorem Ks:ti Try.prog 125=some ⟨.int .u64,1,8,[.int .u64 0]⟩:=by kernel_rfl
theorem Aa6:ti Try.prog 139=some ⟨.arr 4 4,4,4,[.bool false,.bool false,.bool false,.bool false]⟩:=by kernel_rfl
theorem Ac1:Nf Try.prog [(0,3),(1,3),(2,3),(3,3),(4,3),(5,3),(6,22),(7,3),(8,3),(9,4)]=some [(0,1),(1,1),(2,1),(3,1),(4,1),(5,1),(6,1),(7,1),(8,1),(9,1)]:=by kernel_rfl
theorem Ak6:Nf Try.prog [(0,3),(1,3),(2,3),(3,3),(4,22),(5,3),(6,3),(7,47),(8,48)]=some [(0,1),(1,1),(2,1),(3,1),(4,1),(5,1),(6,1),(7,1),(8,1)]:=by kernel_rfl
theorem Acf:Nf Try.prog [(0,3),(1,25)]=some [(0,1),(1,1)]:=by kernel_rfl
theorem X4:Nf Try.prog [(0,3),(1,3),(2,9),(3,71)]=some [(0,1),(1,1),(2,1),(3,1)]:=by kernel_rfl
end Go.Am
namespace Go.Am
open Go Go.Proofs
set_option maxRecDepth 100000
set_option maxHeartbeats 4000000
set_option linter.unusedSimpArgs false
set_option linter.unusedVariables false
theorem Cz (n:Int)(lo:Int)(hi:Int):CP Try.prog 39 [(.int .i64 n),(.int .i64 lo),(.int .i64 hi)] (Bi n lo hi) (fun(x:Bool)=>(AV.bool x)):=by
 refine Ec (n:=15) 0 Try.func39 O (by decide) O O fun h0 ids hI=>B5 (A2 (Bi.eq_1 _ _ _) ?_)
 refine Ad<|Ab<|Af (.bool false) O As<|Ag<|Ad<|Ab<|Aq 4 [] [(10,(.bool (decide (lo≤n))))] ?_
 refine Ct 4 [(14,(.bool ((decide (lo≤n))&&(decide (n≤hi)))))] ?_ fun hJ=>Cd (decide (lo≤n)) (fun hb1=>?_) (fun hb1=>?_)
 ·refine Af (.bool ((decide (lo≤n))&&(decide (n≤hi)))) O As<|Ag<|Cu (a:=((decide (lo≤n))&&(decide (n≤hi)))) (vs:=[(.bool ((decide (lo≤n))&&(decide (n≤hi))))]) Try.func39 hI O (.same _)
 ·refine Bd (t:=10) hb1 O<|Aq 4 [] [(14,(.bool (decide (n≤hi))))] ?_
  exact Bt hJ (.cons (Jx hb1) .nil)
 refine Bd (t:=10) hb1 O<|Aq 4 [] [(14,(.bool false))] ?_
 exact Bt hJ (.cons (Jv hb1) .nil)
theorem W8 (rID:Int)(rMany:Int)(rTerm:Int)(rVote:Int)(rRole:Int)(rCommit:Int)(h0:Ah)(o0:Nat)(hI0:Ids h0 [o0] 1):Lu rID rMany rTerm rVote rRole rCommit≠.bad→Bm Try.prog 46 [(.agg [(.int .i64 rID),(.int .i64 rMany),(.int .i64 rTerm),(.int .i64 rVote),.emp,(.int .i64 rRole),(.int .i64 rCommit),.emp,.emp])] (hp h0 [o0] [none]) (Eg (fun a_ v h' => ∃ (g2:Nat),v=(.ptr o0 g2 0 0)∧h'=hp h0 [o0] [some (.rows g2 10 [[(.int .i64 rID),(.int .i64 rMany),(.int .i64 rTerm),(.int .i64 rVote),.emp,(.int .i64 rRole),(.int .i64 rCommit),.emp,.emp,.emp]])]) h0 (Lu rID rMany rTerm rVote rRole rCommit)):=by
 refine Ci (n:=6) 1 Try.func46 O (by decide) O O hI0 O fun ids he hI=>?_
 clear hI0
 obtain rfl:ix ids 0=o0:=he 0 rfl
 clear he
 refine B5 (A2 (Lu.eq_1 _ _ _ _ _ _) ?_)
 refine A4 ?_
 refine Ad<|Ab<|Dk (v:=(.agg [(.I rID),(.I rMany),(.I rTerm),(.I rVote),.emp,(.I rRole),(.I rCommit),.emp,.emp])) (j:=1) hI O O O O O O O fun g=>Af .nilp O As<|Ag<|A4 ?_
 refine Ad<|Ab<|Aq 2 [1] [(4,(.agg [(.I rID),(.I rMany),(.I rTerm),(.I rVote),.emp,(.I rRole),(.I rCommit),.emp,.emp,.emp]))] ?_
 refine Dk (v:=(.agg [(.I rID),(.I rMany),(.I rTerm),(.I rVote),.emp,(.I rRole),(.I rCommit),.emp,.emp,.emp])) (j:=0) hI O O O O O O O fun g1=>Af (.q ids 0 g1) O As<|Ag<|A4 ?_
 exact Fq (K:=1) (N:=1) (a:=()) (vs:=[(.q ids 0 g1)]) [some (.rows g1 10 [[(.I rID),(.I rMany),(.I rTerm),(.I rVote),.emp,(.I rRole),(.I rCommit),.emp,.emp,.emp]])] Try.func46 hI O O O (.keep (.drop .nil)) (.same _) ⟨g1,O,O⟩
theorem Th (s_ReplicaID:Int)(s_ReplicaMany:Int)(s_ReplicaTerm:Int)(s_ReplicaVote:Int)(s_ReplicaRole:Int)(s_ReplicaCommit:Int)(h0:Ah)(o0:Nat)(o1:Nat)(o2:Nat)(w:AV)(w1:AV)(w2:AV)(w3:AV)(g:Nat)(hI0:Ids h0 [o0,o1,o2] 3):Iv s_ReplicaID s_ReplicaMany s_ReplicaTerm s_ReplicaVote s_ReplicaRole s_ReplicaCommit≠.bad→Bm Try.prog 47 [(.ptr o0 g 0 0)] (hp h0 [o0,o1,o2] [some (.rows g 10 [[(.int .i64 s_ReplicaID),(.int .i64 s_ReplicaMany),(.int .i64 s_ReplicaTerm),(.int .i64 s_ReplicaVote),w,(.int .i64 s_ReplicaRole),(.int .i64 s_ReplicaCommit),w1,w2,w3]]),none,none]) (Eg (fun a_ v h' => ∃ (v19:AV),∃ (g19:Nat),∃ (v20:AV),∃ (g20:Nat),Bk v19 o1 g19 a_.1.length∧Bk v20 o2 g20 a_.2.length∧v=(.tup [])∧h'=hp h0 [o0,o1,o2] [some (.rows g 10 [[(.int .i64 s_ReplicaID),(.int .i64 s_ReplicaMany),(.int .i64 s_ReplicaTerm),(.int .i64 s_ReplicaVote),w,(.int .i64 0),(.int .i64 s_ReplicaCommit),v19,v20,w3]]),A5 v19 g19 1 (List.map rB a_.1),A5 v20 g20 1 (List.map (rI .i64) a_.2)]) h0 (Iv s_ReplicaID s_ReplicaMany s_ReplicaTerm s_ReplicaVote s_ReplicaRole s_ReplicaCommit)):=by
 refine Ci (n:=30) 0 Try.func47 O (by decide) O O hI0 O fun ids he hI=>?_
 clear hI0
 obtain rfl:ix ids 0=o0:=he 0 rfl
 obtain rfl:ix ids 1=o1:=he 1 rfl
 obtain rfl:ix ids 2=o2:=he 2 rfl
 clear he
 refine B5 (A2 (Iv.eq_1 _ _ _ _ _ _) ?_)
 refine Ad<|Ab<|Af (.I 0) O As<|Ag<|Ad<|Ad<|Ab ?_
 refine Aq 5 [0] [(7,(.I s_ReplicaMany))] ?_
 refine Bf [(.I s_ReplicaMany),(.I 0),(.I 5)] O O O O ((Cz s_ReplicaMany 0 5) _) (fun v _=>B4 (K:=3) (N:=0) Try.func47 hI) fun r _=>Ag<|Em (fun n=>I9 n) (fun n=>fun(fr:Nat→AV) (h:Ah)=>fr=Az [(0,(.q ids 0 g)),(2,(.I n))]∧h=hp h0 ids [(some (.rows g 10 [[(.I s_ReplicaID),(.I s_ReplicaMany),(.I s_ReplicaTerm),(.I s_ReplicaVote),w,(.I s_ReplicaRole),(.I s_ReplicaCommit),w1,w2,w3]])),none,none]) ?_ fun hJ1=>?_
 ·rintro n fr h ⟨rfl,rfl⟩
  refine A2 (I9.eq_1 _)<|Em (Fr fun l l1=>Ky l l1) (Fr fun l l1=>fun(fr:Nat→AV) (h:Ah) => ∃ (v17:AV),∃ (g17:Nat),∃ (v18:AV),∃ (g18:Nat),Bk v17 (ix ids 1) g17 l.length∧Bk v18 (ix ids 2) g18 l1.length∧fr=Az []∧h=hp h0 ids [(some (.rows g 10 [[(.I s_ReplicaID),(.I s_ReplicaMany),(.I s_ReplicaTerm),(.I s_ReplicaVote),w,(.I 0),(.I s_ReplicaCommit),v17,v18,w3]])),(A5 v17 g17 1 (List.map rB l)),(A5 v18 g18 1 (List.map (rI .i64) l1))]) ?_ fun hJ=>?_
  ·rintro⟨l,l1⟩ fr h ⟨v17,g17,v18,g18,vH16,vH17,rfl,rfl⟩
   refine A2 (Ky.eq_1 _ _)<|E1 (K:=3) (N:=0) (a:=(l,l1)) (vs:=[]) [some (.rows g 10 [[(.I s_ReplicaID),(.I s_ReplicaMany),(.I s_ReplicaTerm),(.I s_ReplicaVote),w,(.I 0),(.I s_ReplicaCommit),v17,v18,w3]]),A5 v17 g17 1 (List.map rB l),A5 v18 g18 1 (List.map (rI .i64) l1)] Try.func47 hI O O O (.keep (.keep (.keep .nil))) (.same _) ⟨v17,g17,v18,g18,vH16,vH17,O,O⟩
  refine Sz Dd (.node 14 6 (.node 10 6 (.node 10 4 (.node 6 4 (.leaf [[],[],[],[],[3,3],[],[3,4,5],[0,0],[0,7],[0,7,8],[0,3,4,5,6,7,8,9],[0,1,3,4,5,6,7,8,9,10],[0,1,3,4,5,6,7,8,9,10,11],[0,1,3,4,5,6,7,8,9,10,11,12],[0,1,3,4,5,6,7,8,9,10,11,12,13],[0,1,2,2,3,4,5,6,7,8,9,10,11,12,13,14],[0,1,2,3,4,5,6,7,8,9,10,11,12,13,14,15],[0,1,2,3,4,5,6,7,8,9,10,11,12,13,14,15,16],[0,1,2,3,4,5,6,7,8,9,10,11,12,13,14,15,16,17]] [(false,0),(false,1),(false,2),(false,3),(false,5),(false,7),(false,8),(false,9),(true,4),(true,6),(true,10),(false,11),(false,12),(false,13),(true,14),(false,15),(false,16),(false,17),(true,18)]) (.leaf [[],[],[],[],[3,5,6],[],[5,5],[0,0],[0,7],[0,7,8],[0,3,4,5,6,7,8,9],[0,1,3,4,5,6,7,8,9,10],[0,1,3,4,5,6,7,8,9,10,11],[0,1,3,4,5,6,7,8,9,10,11,12],[0,1,3,4,5,6,7,8,9,10,11,12,13],[0,1,2,2,3,4,5,6,7,8,9,10,11,12,13,14],[0,1,2,3,4,5,6,7,8,9,10,11,12,13,14,15],[0,1,2,3,4,5,6,7,8,9,10,11,12,13,14,15,16],[0,1,2,3,4,5,6,7,8,9,10,11,12,13,14,15,16,17]] [(false,0),(false,1),(false,2),(false,3),(false,5),(false,7),(false,8),(false,9),(true,6),(true,4),(true,10),(false,11),(false,12),(false,13),(true,14),(false,15),(false,16),(false,17),(true,18)])) (.leaf [[],[],[],[],[0,3,5,6,7,8,9,10],[],[5,5],[0,0],[0,7],[0,7,8],[0,5,6,7,8,9],[0,1,3,4,5,6,7,8,9,10],[0,1,3,4,5,6,7,8,9,10,11],[0,1,3,4,5,6,7,8,9,10,11,12],[0,1,3,4,5,6,7,8,9,10,11,12,13],[0,1,2,2,3,4,5,6,7,8,9,10,11,12,13,14],[0,1,2,3,4,5,6,7,8,9,10,11,12,13,14,15],[0,1,2,3,4,5,6,7,8,9,10,11,12,13,14,15,16],[0,1,2,3,4,5,6,7,8,9,10,11,12,13,14,15,16,17]] [(false,0),(false,1),(false,2),(false,3),(false,5),(false,7),(false,8),(false,9),(true,6),(true,10),(true,4),(false,11),(false,12),(false,13),(true,14),(false,15),(false,16),(false,17),(true,18)])) (.node 6 4 (.node 10 4 (.leaf [[],[],[],[],[3,3],[],[0,3,4,5,7,8,9,10],[0,0],[0,7],[0,7,8],[0,3,4,7,8,9],[0,1,1,3,4,7,8,9,10],[0,1,3,4,7,8,9,10,11],[0,1,3,4,7,8,9,10,11,12],[0,1,3,4,5,6,7,8,9,10,11,12,13],[0,1,2,2,3,4,5,6,7,8,9,10,11,12,13,14],[0,1,2,3,4,5,6,7,8,9,10,11,12,13,14,15],[0,1,2,3,4,5,6,7,8,9,10,11,12,13,14,15,16],[0,1,2,3,4,5,6,7,8,9,10,11,12,13,14,15,16,17]] [(false,0),(false,1),(false,2),(false,3),(false,5),(false,7),(false,8),(false,9),(true,4),(true,10),(false,11),(false,12),(false,13),(true,6),(true,14),(false,15),(false,16),(false,17),(true,18)]) (.leaf [[],[],[],[],[0,3,7,8,9,10],[],[0,3,4,5,7,8,9,10],[0,0],[0,7],[0,7,8],[0,7,8,9],[0,1,1,3,4,7,8,9,10],[0,1,3,4,7,8,9,10,11],[0,1,3,4,7,8,9,10,11,12],[0,1,3,4,5,6,7,8,9,10,11,12,13],[0,1,2,2,3,4,5,6,7,8,9,10,11,12,13,14],[0,1,2,3,4,5,6,7,8,9,10,11,12,13,14,15],[0,1,2,3,4,5,6,7,8,9,10,11,12,13,14,15,16],[0,1,2,3,4,5,6,7,8,9,10,11,12,13,14,15,16,17]] [(false,0),(false,1),(false,2),(false,3),(false,5),(false,7),(false,8),(false,9),(true,10),(true,4),(false,11),(false,12),(false,13),(true,6),(true,14),(false,15),(false,16),(false,17),(true,18)])) (.leaf [[],[],[],[],[0,3,5,6,7,8,9,10],[],[0,5,7,8,9,10],[0,0],[0,7],[0,7,8],[0,7,8,9],[0,1,3,4,5,6,7,8,9,10],[0,1,3,4,5,6,7,8,9,10,11],[0,1,3,4,5,6,7,8,9,10,11,12],[0,1,3,4,5,6,7,8,9,10,11,12,13],[0,1,2,2,3,4,5,6,7,8,9,10,11,12,13,14],[0,1,2,3,4,5,6,7,8,9,10,11,12,13,14,15],[0,1,2,3,4,5,6,7,8,9,10,11,12,13,14,15,16],[0,1,2,3,4,5,6,7,8,9,10,11,12,13,14,15,16,17]] [(false,0),(false,1),(false,2),(false,3),(false,5),(false,7),(false,8),(false,9),(true,10),(true,6),(true,4),(false,11),(false,12),(false,13),(true,14),(false,15),(false,16),(false,17),(true,18)]))) (.node 10 4 (.leaf [[],[],[],[],[3,3],[],[0,1,3,4,5,7,8,9,10,11,12,13,14],[0,0],[0,7],[0,7,8],[0,3,4,7,8,9],[0,1,1,3,4,7,8,9,10],[0,1,3,4,7,8,9,10,11],[0,1,3,4,7,8,9,10,11,12],[0,1,3,4,7,8,9,10,11,12,13],[0,1,2,2,3,4,5,6,7,8,9,10,11,12,13,14],[0,1,2,3,4,5,6,7,8,9,10,11,12,13,14,15],[0,1,2,3,4,5,6,7,8,9,10,11,12,13,14,15,16],[0,1,2,3,4,5,6,7,8,9,10,11,12,13,14,15,16,17]] [(false,0),(false,1),(false,2),(false,3),(false,5),(false,7),(false,8),(false,9),(true,4),(true,10),(false,11),(false,12),(false,13),(true,14),(true,6),(false,15),(false,16),(false,17),(true,18)]) (.leaf [[],[],[],[],[0,3,7,8,9,10],[],[0,1,3,4,5,7,8,9,10,11,12,13,14],[0,0],[0,7],[0,7,8],[0,7,8,9],[0,1,1,3,4,7,8,9,10],[0,1,3,4,7,8,9,10,11],[0,1,3,4,7,8,9,10,11,12],[0,1,3,4,7,8,9,10,11,12,13],[0,1,2,2,3,4,5,6,7,8,9,10,11,12,13,14],[0,1,2,3,4,5,6,7,8,9,10,11,12,13,14,15],[0,1,2,3,4,5,6,7,8,9,10,11,12,13,14,15,16],[0,1,2,3,4,5,6,7,8,9,10,11,12,13,14,15,16,17]] [(false,0),(false,1),(false,2),(false,3),(false,5),(false,7),(false,8),(false,9),(true,10),(true,4),(false,11),(false,12),(false,13),(true,14),(true,6),(false,15),(false,16),(false,17),(true,18)]))) (by kernel_rfl)<|H5 ?_ ?_
  ·refine H5 ?_ ?_
   ·refine H5 ?_ ?_
    ·refine H5 ?_ ?_
     ·refine F4<|Z (.q ids 0 g) O O Aa<|Z (.q ids 0 g) O O Aa<|Z (.q ids 0 g) O O Aa<|Z (.I n) O O Aa<|Z (.I n) O O Aa<|Z (.q ids 0 g) O O (Al O) ?_
      refine Z (.q ids 0 g) O O (Ai (Ae (c:=0) (off:=0) (i:=0) A6 O Ar O))<|Z (.ptr (ix ids 0) g 0 5) O O (Ai (Ae (c:=0) (off:=5) (i:=5) Ar O Av O))<|Cb fun hl=>Cn O O (fun _ _=>O) (fun K hK=>C2 (y:=(false:Bool)) (e:=rB) (st:=1) (j:=1) hI O O O Cv Hr O O hl.1 hl.2.1 hl.2.2 O O O O O fun v1 g1 vH=>hK _ _ (Ac O (Ai (Ae (c:=0) (off:=5) (i:=5) Ar O Av O)) (Ac O (Ai (Ae (c:=0) (off:=0) (i:=0) A6 O Ar O)) (Ac O (Al O) (Ac O Aa (Y O (Ac O Aa (Ac O Aa (Ac O Aa Ap)))))))) ?_)
      clear hK K
      refine Cb fun hl1=>Cn O O (fun _ _=>O) (fun K hK=>C2 (y:=(0:Int)) (e:=(rI .i64)) (st:=1) (j:=2) hI O O O B3 Av O O hl1.1 hl1.2.1 hl1.2.2 O O O O O fun v2 g2 vH1=>hK _ _ (Ac O (Ai (Ae (c:=0) (off:=5) (i:=5) Ar O Av O)) (Ac O (Ai (Ae (c:=0) (off:=0) (i:=0) A6 O Ar O)) (Ac O (Al O) (Y O (Y O (Ac O Aa (Ac O Aa (Ac O Aa Ap)))))))) ?_)
      clear hK K
      refine Bb O (fun _ _=>O) (fun K hK=>A3 (A8 (v:=(.I 0)) hI O O O O Av O O O O O) (hK _ _ (Y O (Y O (Y O (Y O (Y O (Ac O Aa (Ac O Aa (Y O Ap)))))))) ?_))
      clear hK K
      refine Z (.q ids 0 g) O O (Al O)<|Z (.q ids 0 g) O O (Ai (Ae (c:=0) (off:=0) (i:=0) A6 O Ar O))<|Z (.ptr (ix ids 0) g 0 7) O O (Ai (Ae (c:=0) (off:=7) (i:=7) Ar O Cv O))<|Bb O (fun _ _=>O) (fun K hK=>A3 (Cj vH hI O O O O Cv O O O) (hK _ _ (Y O (Y O (Y O (Y O (Y O (Y O (Y O (Y O (Ac O Aa (Y O (Y O Ap))))))))))) ?_))
      clear hK K
      refine Z (.q ids 0 g) O O (Al O)<|Z (.q ids 0 g) O O (Ai (Ae (c:=0) (off:=0) (i:=0) A6 O Ar O))<|Z (.ptr (ix ids 0) g 0 8) O O (Ai (Ae (c:=0) (off:=8) (i:=8) Ar O B3 O))<|Bb O (fun _ _=>O) (fun K hK=>A3 (Cj vH1 hI O O O O B3 O O O) (hK _ _ (Y O (Y O (Y O (Y O (Y O (Y O (Y O (Y O (Y O (Y O (Y O (Y O (Y O (Y O Ap)))))))))))))) ?_))
      clear hK K
      refine A9<|A4 ?_
      exact Bl (hJ ((List.replicate (Int.toNat n) false),(List.replicate (Int.toNat n) 0)) _ _ ⟨v1,g1,v2,g2,vH,vH1,O,O⟩)
     refine F4<|Cb fun hl3=>Cb fun hl2=>Z (.q ids 0 g) O O Aa<|Z (.q ids 0 g) O O Aa<|Z (.q ids 0 g) O O Aa<|Z (.I n) O O Aa ?_
     refine Z (.I n) O O Aa<|Z (.q ids 0 g) O O (Al O)<|Z (.q ids 0 g) O O (Ai (Ae (c:=0) (off:=0) (i:=0) A6 O Ar O))<|Z (.ptr (ix ids 0) g 0 5) O O (Ai (Ae (c:=0) (off:=5) (i:=5) Ar O Av O))<|Cn O O (fun _ _=>O) (fun K hK=>C2 (y:=(0:Int)) (e:=(rI .i64)) (st:=1) (j:=2) hI O O O B3 Av O O hl2.1 hl2.2.1 hl2.2.2 O O O O O fun v3 g3 vH2=>hK _ _ (Ac O (Ai (Ae (c:=0) (off:=5) (i:=5) Ar O Av O)) (Ac O (Ai (Ae (c:=0) (off:=0) (i:=0) A6 O Ar O)) (Ac O (Al O) (Y O (Ac O Aa (Ac O Aa (Ac O Aa (Ac O Aa Ap)))))))) ?_)
     clear hK K
     refine Cn O O (fun _ _=>O) (fun K hK=>C2 (y:=(false:Bool)) (e:=rB) (st:=1) (j:=1) hI O O O Cv Hr O O hl3.1 hl3.2.1 hl3.2.2 O O O O O fun v4 g4 vH3=>hK _ _ (Ac O (Ai (Ae (c:=0) (off:=5) (i:=5) Ar O Av O)) (Ac O (Ai (Ae (c:=0) (off:=0) (i:=0) A6 O Ar O)) (Ac O (Al O) (Y O (Y O (Ac O Aa (Ac O Aa (Ac O Aa Ap)))))))) ?_)
     clear hK K
     refine Bb O (fun _ _=>O) (fun K hK=>A3 (A8 (v:=(.I 0)) hI O O O O Av O O O O O) (hK _ _ (Y O (Y O (Y O (Y O (Y O (Ac O Aa (Ac O Aa (Y O Ap)))))))) ?_))
     clear hK K
     refine Z (.q ids 0 g) O O (Al O)<|Z (.q ids 0 g) O O (Ai (Ae (c:=0) (off:=0) (i:=0) A6 O Ar O))<|Z (.ptr (ix ids 0) g 0 7) O O (Ai (Ae (c:=0) (off:=7) (i:=7) Ar O Cv O))<|Bb O (fun _ _=>O) (fun K hK=>A3 (Cj vH3 hI O O O O Cv O O O) (hK _ _ (Y O (Y O (Y O (Y O (Y O (Y O (Y O (Y O (Ac O Aa (Y O (Y O Ap))))))))))) ?_))
     clear hK K
     refine Z (.q ids 0 g) O O (Al O)<|Z (.q ids 0 g) O O (Ai (Ae (c:=0) (off:=0) (i:=0) A6 O Ar O))<|Z (.ptr (ix ids 0) g 0 8) O O (Ai (Ae (c:=0) (off:=8) (i:=8) Ar O B3 O))<|Bb O (fun _ _=>O) (fun K hK=>A3 (Cj vH2 hI O O O O B3 O O O) (hK _ _ (Y O (Y O (Y O (Y O (Y O (Y O (Y O (Y O (Y O (Y O (Y O (Y O (Y O (Y O Ap)))))))))))))) ?_))
     clear hK K
     refine A9<|A4 ?_
     exact Bl (hJ ((List.replicate (Int.toNat n) false),(List.replicate (Int.toNat n) 0)) _ _ ⟨v4,g4,v3,g3,vH3,vH2,O,O⟩)
    refine F4<|Cb fun hl5=>Cb fun hl4=>Z (.q ids 0 g) O O Aa<|Z (.q ids 0 g) O O Aa<|Z (.q ids 0 g) O O Aa<|Z (.I n) O O Aa ?_
    refine Z (.I n) O O Aa<|Z (.q ids 0 g) O O (Al O)<|Z (.q ids 0 g) O O (Ai (Ae (c:=0) (off:=0) (i:=0) A6 O Ar O))<|Z (.ptr (ix ids 0) g 0 5) O O (Ai (Ae (c:=0) (off:=5) (i:=5) Ar O Av O))<|Cn O O (fun _ _=>O) (fun K hK=>C2 (y:=(0:Int)) (e:=(rI .i64)) (st:=1) (j:=2) hI O O O B3 Av O O hl4.1 hl4.2.1 hl4.2.2 O O O O O fun v5 g5 vH4=>hK _ _ (Ac O (Ai (Ae (c:=0) (off:=5) (i:=5) Ar O Av O)) (Ac O (Ai (Ae (c:=0) (off:=0) (i:=0) A6 O Ar O)) (Ac O (Al O) (Y O (Ac O Aa (Ac O Aa (Ac O Aa (Ac O Aa Ap)))))))) ?_)
    clear hK K
    refine Bb O (fun _ _=>O) (fun K hK=>A3 (A8 (v:=(.I 0)) hI O O O O Av O O O O O) (hK _ _ (Y O (Y O (Y O (Y O (Ac O Aa (Ac O Aa (Ac O Aa (Y O Ap)))))))) ?_))
    clear hK K
    refine Cn O O (fun _ _=>O) (fun K hK=>C2 (y:=(false:Bool)) (e:=rB) (st:=1) (j:=1) hI O O O Cv Hr O O hl5.1 hl5.2.1 hl5.2.2 O O O O O fun v6 g6 vH5=>hK _ _ (Y O (Y O (Y O (Y O (Y O (Ac O Aa (Ac O Aa (Y O Ap)))))))) ?_)
    clear hK K
    refine Z (.q ids 0 g) O O (Al O)<|Z (.q ids 0 g) O O (Ai (Ae (c:=0) (off:=0) (i:=0) A6 O Ar O))<|Z (.ptr (ix ids 0) g 0 7) O O (Ai (Ae (c:=0) (off:=7) (i:=7) Ar O Cv O))<|Bb O (fun _ _=>O) (fun K hK=>A3 (Cj vH5 hI O O O O Cv O O O) (hK _ _ (Y O (Y O (Y O (Y O (Y O (Y O (Y O (Y O (Ac O Aa (Y O (Y O Ap))))))))))) ?_))
    clear hK K
    refine Z (.q ids 0 g) O O (Al O)<|Z (.q ids 0 g) O O (Ai (Ae (c:=0) (off:=0) (i:=0) A6 O Ar O))<|Z (.ptr (ix ids 0) g 0 8) O O (Ai (Ae (c:=0) (off:=8) (i:=8) Ar O B3 O))<|Bb O (fun _ _=>O) (fun K hK=>A3 (Cj vH4 hI O O O O B3 O O O) (hK _ _ (Y O (Y O (Y O (Y O (Y O (Y O (Y O (Y O (Y O (Y O (Y O (Y O (Y O (Y O Ap)))))))))))))) ?_))
    clear hK K
    refine A9<|A4 ?_
    exact Bl (hJ ((List.replicate (Int.toNat n) false),(List.replicate (Int.toNat n) 0)) _ _ ⟨v6,g6,v5,g5,vH5,vH4,O,O⟩)
   refine H5 ?_ ?_
   ·refine H5 ?_ ?_
    ·refine F4<|Cb fun hl6=>Cb fun hl7=>Z (.q ids 0 g) O O Aa<|Z (.q ids 0 g) O O Aa<|Z (.q ids 0 g) O O Aa<|Z (.I n) O O Aa ?_
     refine Z (.I n) O O Aa<|Z (.q ids 0 g) O O (Al O)<|Z (.q ids 0 g) O O (Ai (Ae (c:=0) (off:=0) (i:=0) A6 O Ar O))<|Z (.ptr (ix ids 0) g 0 5) O O (Ai (Ae (c:=0) (off:=5) (i:=5) Ar O Av O))<|Cn O O (fun _ _=>O) (fun K hK=>C2 (y:=(false:Bool)) (e:=rB) (st:=1) (j:=1) hI O O O Cv Hr O O hl6.1 hl6.2.1 hl6.2.2 O O O O O fun v7 g7 vH6=>hK _ _ (Ac O (Ai (Ae (c:=0) (off:=5) (i:=5) Ar O Av O)) (Ac O (Ai (Ae (c:=0) (off:=0) (i:=0) A6 O Ar O)) (Ac O (Al O) (Ac O Aa (Y O (Ac O Aa (Ac O Aa (Ac O Aa Ap)))))))) ?_)
     clear hK K
     refine Bb O (fun _ _=>O) (fun K hK=>A3 (A8 (v:=(.I 0)) hI O O O O Av O O O O O) (hK _ _ (Y O (Y O (Y O (Ac O Aa (Y O (Ac O Aa (Ac O Aa (Y O Ap)))))))) ?_))
     clear hK K
     refine Z (.q ids 0 g) O O (Al O)<|Z (.q ids 0 g) O O (Ai (Ae (c:=0) (off:=0) (i:=0) A6 O Ar O))<|Z (.ptr (ix ids 0) g 0 7) O O (Ai (Ae (c:=0) (off:=7) (i:=7) Ar O Cv O))<|Cn O O (fun _ _=>O) (fun K hK=>C2 (y:=(0:Int)) (e:=(rI .i64)) (st:=1) (j:=2) hI O O O B3 Av O O hl7.1 hl7.2.1 hl7.2.2 O O O O O fun v8 g8 vH7=>hK _ _ (Ac O (Ai (Ae (c:=0) (off:=7) (i:=7) Ar O Cv O)) (Ac O (Ai (Ae (c:=0) (off:=0) (i:=0) A6 O Ar O)) (Ac O (Al O) (Y O (Y O (Y O (Y O (Y O (Ac O Aa (Ac O Aa (Y O Ap))))))))))) ?_)
     clear hK K
     refine Bb O (fun _ _=>O) (fun K hK=>A3 (Cj vH6 hI O O O O Cv O O O) (hK _ _ (Y O (Y O (Y O (Y O (Y O (Y O (Y O (Y O (Ac O Aa (Y O (Y O Ap))))))))))) ?_))
     clear hK K
     refine Z (.q ids 0 g) O O (Al O)<|Z (.q ids 0 g) O O (Ai (Ae (c:=0) (off:=0) (i:=0) A6 O Ar O))<|Z (.ptr (ix ids 0) g 0 8) O O (Ai (Ae (c:=0) (off:=8) (i:=8) Ar O B3 O))<|Bb O (fun _ _=>O) (fun K hK=>A3 (Cj vH7 hI O O O O B3 O O O) (hK _ _ (Y O (Y O (Y O (Y O (Y O (Y O (Y O (Y O (Y O (Y O (Y O (Y O (Y O (Y O Ap)))))))))))))) ?_))
     clear hK K
     refine A9<|A4 ?_
     exact Bl (hJ ((List.replicate (Int.toNat n) false),(List.replicate (Int.toNat n) 0)) _ _ ⟨v7,g7,v8,g8,vH6,vH7,O,O⟩)
    refine F4<|Cb fun hl8=>Cb fun hl9=>Z (.q ids 0 g) O O Aa<|Z (.q ids 0 g) O O Aa<|Z (.q ids 0 g) O O Aa<|Z (.I n) O O Aa ?_
    refine Z (.I n) O O Aa<|Z (.q ids 0 g) O O (Al O)<|Z (.q ids 0 g) O O (Ai (Ae (c:=0) (off:=0) (i:=0) A6 O Ar O))<|Z (.ptr (ix ids 0) g 0 5) O O (Ai (Ae (c:=0) (off:=5) (i:=5) Ar O Av O))<|Bb O (fun _ _=>O) (fun K hK=>A3 (A8 (v:=(.I 0)) hI O O O O Av O O O O O) (hK _ _ (Y O (Y O (Y O (Ac O Aa (Ac O Aa (Ac O Aa (Ac O Aa (Y O Ap)))))))) ?_))
    clear hK K
    refine Cn O O (fun _ _=>O) (fun K hK=>C2 (y:=(false:Bool)) (e:=rB) (st:=1) (j:=1) hI O O O Cv Hr O O hl8.1 hl8.2.1 hl8.2.2 O O O O O fun v9 g9 vH8=>hK _ _ (Y O (Y O (Y O (Ac O Aa (Y O (Ac O Aa (Ac O Aa (Y O Ap)))))))) ?_)
    clear hK K
    refine Z (.q ids 0 g) O O (Al O)<|Z (.q ids 0 g) O O (Ai (Ae (c:=0) (off:=0) (i:=0) A6 O Ar O))<|Z (.ptr (ix ids 0) g 0 7) O O (Ai (Ae (c:=0) (off:=7) (i:=7) Ar O Cv O))<|Cn O O (fun _ _=>O) (fun K hK=>C2 (y:=(0:Int)) (e:=(rI .i64)) (st:=1) (j:=2) hI O O O B3 Av O O hl9.1 hl9.2.1 hl9.2.2 O O O O O fun v10 g10 vH9=>hK _ _ (Ac O (Ai (Ae (c:=0) (off:=7) (i:=7) Ar O Cv O)) (Ac O (Ai (Ae (c:=0) (off:=0) (i:=0) A6 O Ar O)) (Ac O (Al O) (Y O (Y O (Y O (Y O (Y O (Ac O Aa (Ac O Aa (Y O Ap))))))))))) ?_)
    clear hK K
    refine Bb O (fun _ _=>O) (fun K hK=>A3 (Cj vH8 hI O O O O Cv O O O) (hK _ _ (Y O (Y O (Y O (Y O (Y O (Y O (Y O (Y O (Ac O Aa (Y O (Y O Ap))))))))))) ?_))
    clear hK K
    refine Z (.q ids 0 g) O O (Al O)<|Z (.q ids 0 g) O O (Ai (Ae (c:=0) (off:=0) (i:=0) A6 O Ar O))<|Z (.ptr (ix ids 0) g 0 8) O O (Ai (Ae (c:=0) (off:=8) (i:=8) Ar O B3 O))<|Bb O (fun _ _=>O) (fun K hK=>A3 (Cj vH9 hI O O O O B3 O O O) (hK _ _ (Y O (Y O (Y O (Y O (Y O (Y O (Y O (Y O (Y O (Y O (Y O (Y O (Y O (Y O Ap)))))))))))))) ?_))
    clear hK K
    refine A9<|A4 ?_
    exact Bl (hJ ((List.replicate (Int.toNat n) false),(List.replicate (Int.toNat n) 0)) _ _ ⟨v9,g9,v10,g10,vH8,vH9,O,O⟩)
   refine F4<|Cb fun hl11=>Cb fun hl10=>Z (.q ids 0 g) O O Aa<|Z (.q ids 0 g) O O Aa<|Z (.q ids 0 g) O O Aa<|Z (.I n) O O Aa ?_
   refine Z (.I n) O O Aa<|Z (.q ids 0 g) O O (Al O)<|Z (.q ids 0 g) O O (Ai (Ae (c:=0) (off:=0) (i:=0) A6 O Ar O))<|Z (.ptr (ix ids 0) g 0 5) O O (Ai (Ae (c:=0) (off:=5) (i:=5) Ar O Av O))<|Bb O (fun _ _=>O) (fun K hK=>A3 (A8 (v:=(.I 0)) hI O O O O Av O O O O O) (hK _ _ (Y O (Y O (Y O (Ac O Aa (Ac O Aa (Ac O Aa (Ac O Aa (Y O Ap)))))))) ?_))
   clear hK K
   refine Cn O O (fun _ _=>O) (fun K hK=>C2 (y:=(0:Int)) (e:=(rI .i64)) (st:=1) (j:=2) hI O O O B3 Av O O hl10.1 hl10.2.1 hl10.2.2 O O O O O fun v11 g11 vH10=>hK _ _ (Y O (Y O (Y O (Y O (Ac O Aa (Ac O Aa (Ac O Aa (Y O Ap)))))))) ?_)
   clear hK K
   refine Cn O O (fun _ _=>O) (fun K hK=>C2 (y:=(false:Bool)) (e:=rB) (st:=1) (j:=1) hI O O O Cv Hr O O hl11.1 hl11.2.1 hl11.2.2 O O O O O fun v12 g12 vH11=>hK _ _ (Y O (Y O (Y O (Y O (Y O (Ac O Aa (Ac O Aa (Y O Ap)))))))) ?_)
   clear hK K
   refine Z (.q ids 0 g) O O (Al O)<|Z (.q ids 0 g) O O (Ai (Ae (c:=0) (off:=0) (i:=0) A6 O Ar O))<|Z (.ptr (ix ids 0) g 0 7) O O (Ai (Ae (c:=0) (off:=7) (i:=7) Ar O Cv O))<|Bb O (fun _ _=>O) (fun K hK=>A3 (Cj vH11 hI O O O O Cv O O O) (hK _ _ (Y O (Y O (Y O (Y O (Y O (Y O (Y O (Y O (Ac O Aa (Y O (Y O Ap))))))))))) ?_))
   clear hK K
   refine Z (.q ids 0 g) O O (Al O)<|Z (.q ids 0 g) O O (Ai (Ae (c:=0) (off:=0) (i:=0) A6 O Ar O))<|Z (.ptr (ix ids 0) g 0 8) O O (Ai (Ae (c:=0) (off:=8) (i:=8) Ar O B3 O))<|Bb O (fun _ _=>O) (fun K hK=>A3 (Cj vH10 hI O O O O B3 O O O) (hK _ _ (Y O (Y O (Y O (Y O (Y O (Y O (Y O (Y O (Y O (Y O (Y O (Y O (Y O (Y O Ap)))))))))))))) ?_))
   clear hK K
   refine A9<|A4 ?_
   exact Bl (hJ ((List.replicate (Int.toNat n) false),(List.replicate (Int.toNat n) 0)) _ _ ⟨v12,g12,v11,g11,vH11,vH10,O,O⟩)
  refine H5 ?_ ?_
  ·refine F4<|Cb fun hl12=>Cb fun hl13=>Z (.q ids 0 g) O O Aa<|Z (.q ids 0 g) O O Aa<|Z (.q ids 0 g) O O Aa<|Z (.I n) O O Aa ?_
   refine Z (.I n) O O Aa<|Z (.q ids 0 g) O O (Al O)<|Z (.q ids 0 g) O O (Ai (Ae (c:=0) (off:=0) (i:=0) A6 O Ar O))<|Z (.ptr (ix ids 0) g 0 5) O O (Ai (Ae (c:=0) (off:=5) (i:=5) Ar O Av O))<|Cn O O (fun _ _=>O) (fun K hK=>C2 (y:=(false:Bool)) (e:=rB) (st:=1) (j:=1) hI O O O Cv Hr O O hl12.1 hl12.2.1 hl12.2.2 O O O O O fun v13 g13 vH12=>hK _ _ (Ac O (Ai (Ae (c:=0) (off:=5) (i:=5) Ar O Av O)) (Ac O (Ai (Ae (c:=0) (off:=0) (i:=0) A6 O Ar O)) (Ac O (Al O) (Ac O Aa (Y O (Ac O Aa (Ac O Aa (Ac O Aa Ap)))))))) ?_)
   clear hK K
   refine Bb O (fun _ _=>O) (fun K hK=>A3 (A8 (v:=(.I 0)) hI O O O O Av O O O O O) (hK _ _ (Y O (Y O (Y O (Ac O Aa (Y O (Ac O Aa (Ac O Aa (Y O Ap)))))))) ?_))
   clear hK K
   refine Z (.q ids 0 g) O O (Al O)<|Z (.q ids 0 g) O O (Ai (Ae (c:=0) (off:=0) (i:=0) A6 O Ar O))<|Z (.ptr (ix ids 0) g 0 7) O O (Ai (Ae (c:=0) (off:=7) (i:=7) Ar O Cv O))<|Bb O (fun _ _=>O) (fun K hK=>A3 (Cj vH12 hI O O O O Cv O O O) (hK _ _ (Y O (Y O (Y O (Y O (Y O (Y O (Ac O Aa (Y O (Ac O Aa (Y O (Y O Ap))))))))))) ?_))
   clear hK K
   refine Cn O O (fun _ _=>O) (fun K hK=>C2 (y:=(0:Int)) (e:=(rI .i64)) (st:=1) (j:=2) hI O O O B3 Av O O hl13.1 hl13.2.1 hl13.2.2 O O O O O fun v14 g14 vH13=>hK _ _ (Y O (Y O (Y O (Y O (Y O (Y O (Y O (Y O (Ac O Aa (Y O (Y O Ap))))))))))) ?_)
   clear hK K
   refine Z (.q ids 0 g) O O (Al O)<|Z (.q ids 0 g) O O (Ai (Ae (c:=0) (off:=0) (i:=0) A6 O Ar O))<|Z (.ptr (ix ids 0) g 0 8) O O (Ai (Ae (c:=0) (off:=8) (i:=8) Ar O B3 O))<|Bb O (fun _ _=>O) (fun K hK=>A3 (Cj vH13 hI O O O O B3 O O O) (hK _ _ (Y O (Y O (Y O (Y O (Y O (Y O (Y O (Y O (Y O (Y O (Y O (Y O (Y O (Y O Ap)))))))))))))) ?_))
   clear hK K
   refine A9<|A4 ?_
   exact Bl (hJ ((List.replicate (Int.toNat n) false),(List.replicate (Int.toNat n) 0)) _ _ ⟨v13,g13,v14,g14,vH12,vH13,O,O⟩)
  refine F4<|Cb fun hl14=>Cb fun hl15=>Z (.q ids 0 g) O O Aa<|Z (.q ids 0 g) O O Aa<|Z (.q ids 0 g) O O Aa<|Z (.I n) O O Aa ?_
  refine Z (.I n) O O Aa<|Z (.q ids 0 g) O O (Al O)<|Z (.q ids 0 g) O O (Ai (Ae (c:=0) (off:=0) (i:=0) A6 O Ar O))<|Z (.ptr (ix ids 0) g 0 5) O O (Ai (Ae (c:=0) (off:=5) (i:=5) Ar O Av O))<|Bb O (fun _ _=>O) (fun K hK=>A3 (A8 (v:=(.I 0)) hI O O O O Av O O O O O) (hK _ _ (Y O (Y O (Y O (Ac O Aa (Ac O Aa (Ac O Aa (Ac O Aa (Y O Ap)))))))) ?_))
  clear hK K
  refine Cn O O (fun _ _=>O) (fun K hK=>C2 (y:=(false:Bool)) (e:=rB) (st:=1) (j:=1) hI O O O Cv Hr O O hl14.1 hl14.2.1 hl14.2.2 O O O O O fun v15 g15 vH14=>hK _ _ (Y O (Y O (Y O (Ac O Aa (Y O (Ac O Aa (Ac O Aa (Y O Ap)))))))) ?_)
  clear hK K
  refine Z (.q ids 0 g) O O (Al O)<|Z (.q ids 0 g) O O (Ai (Ae (c:=0) (off:=0) (i:=0) A6 O Ar O))<|Z (.ptr (ix ids 0) g 0 7) O O (Ai (Ae (c:=0) (off:=7) (i:=7) Ar O Cv O))<|Bb O (fun _ _=>O) (fun K hK=>A3 (Cj vH14 hI O O O O Cv O O O) (hK _ _ (Y O (Y O (Y O (Y O (Y O (Y O (Ac O Aa (Y O (Ac O Aa (Y O (Y O Ap))))))))))) ?_))
  clear hK K
  refine Cn O O (fun _ _=>O) (fun K hK=>C2 (y:=(0:Int)) (e:=(rI .i64)) (st:=1) (j:=2) hI O O O B3 Av O O hl15.1 hl15.2.1 hl15.2.2 O O O O O fun v16 g16 vH15=>hK _ _ (Y O (Y O (Y O (Y O (Y O (Y O (Y O (Y O (Ac O Aa (Y O (Y O Ap))))))))))) ?_)
  clear hK K
  refine Z (.q ids 0 g) O O (Al O)<|Z (.q ids 0 g) O O (Ai (Ae (c:=0) (off:=0) (i:=0) A6 O Ar O))<|Z (.ptr (ix ids 0) g 0 8) O O (Ai (Ae (c:=0) (off:=8) (i:=8) Ar O B3 O))<|Bb O (fun _ _=>O) (fun K hK=>A3 (Cj vH15 hI O O O O B3 O O O) (hK _ _ (Y O (Y O (Y O (Y O (Y O (Y O (Y O (Y O (Y O (Y O (Y O (Y O (Y O (Y O Ap)))))))))))))) ?_))
  clear hK K
  refine A9<|A4 ?_
  exact Bl (hJ ((List.replicate (Int.toNat n) false),(List.replicate (Int.toNat n) 0)) _ _ ⟨v15,g15,v16,g16,vH14,vH15,O,O⟩)
 refine Dh O (fun hc=>?_) (fun hc=>?_)
 ·refine Ab<|Aq 6 [0] [(2,(.I s_ReplicaMany))] ?_
  refine Ag<|Bl (hJ1 s_ReplicaMany _ _ ⟨O,O⟩)
 refine Bj<|Bl (hJ1 0 _ _ ⟨O,O⟩)
theorem Qn (id:Int)(many:Int):CP Try.prog 28 [(.int .i64 id),(.int .i64 many)] (Kb id many) (fun(p:(Replica×Int))=>AV.tup [(.agg (Au p.1)),(.int .i64 p.2)]):=by
 refine Ec (n:=28) 4 Try.func28 O (by decide) O O fun h0 ids hI=>B5 (A2 (Kb.eq_1 _ _) ?_)
 refine Ad<|Ab<|Cw (j:=0) hI O O O O Ar O fun g=>Af (.I 0) O As<|Ag<|A4 ?_
 refine Ad<|Ad<|Ab<|Af (.I many) O Aa<|Bf [(.I many),(.I 1),(.I 5)] O O O O ((Cz many 1 5) _) (fun v _=>Bz Try.func28 hI) fun r _=>Aq 2 [] [(10,(.bool (!r)))] ?_
 refine El 6 ((fun(b:Bool)=>if b then(.ok (({ ID:=0,Many:=0,Term:=0,Vote:=0,Log:=[],Role:=0,Commit:=0,Votes:=[],Match:=[] }:Replica),470)) else((Lu id many 0 (-1) 0 0).bind fun _=>(Iv id many 0 (-1) 0 0).bind fun r2=>.ok (({ ID:=id,Many:=many,Term:=0,Vote:=(-1),Log:=[],Role:=0,Commit:=0,Votes:=r2.1,Match:=r2.2 }:Replica),0))):Bool→R (Replica×Int)) (fun(b:Bool) (fr:Nat→AV) (h:Ah)=>fr=Az [(0,(.I id)),(1,(.I many)),(4,(.q ids 0 g)),(16,(.bool b))]∧h=hp h0 ids [(some (.rows g 9 [[(.I 0),(.I 0),(.I 0),(.I 0),.emp,(.I 0),(.I 0),.emp,.emp]])),none,none,none]) ?_ fun hJ=>Fm (fun hb1=>?_) (fun hb1=>?_)
 ·rintro b fr h ⟨rfl,rfl⟩
  refine Ag<|Dh O (fun hc=>?_) (fun hc=>?_)
  ·refine Ad<|Ab<|Aq 1 [0] [(17,(.agg [(.I 0),(.I 0),(.I 0),(.I 0),.emp,(.I 0),(.I 0),.emp,.emp]))] ?_
   refine Be (A8 (v:=(.agg [(.I 0),(.I 0),(.I 0),(.I 0),.emp,(.I 0),(.I 0),.emp,.emp])) hI O O O O Ar O O O O O)<|Af (.I 470) O As<|Ag<|Cu (a:=(({ ID:=0,Many:=0,Term:=0,Vote:=0,Log:=[],Role:=0,Commit:=0,Votes:=[],Match:=[] }:Replica),470)) (vs:=[(.agg [(.I 0),(.I 0),(.I 0),(.I 0),.emp,(.I 0),(.I 0),.emp,.emp]),(.I 470)]) Try.func28 hI (Cr (Ao hI O O O Ar O) (En Dm)) (.tupL (.cons (.aggL (.cons (.same _) (.cons (.same _) (.cons (.same _) (.cons (.same _) (.cons (.emp _) (.cons (.same _) (.cons (.same _) (.cons (.emp _) (.cons (.emp _) .nil)))))))))) (.cons (.same _) .nil)))
  refine Bj<|Ad<|Ab<|Aq 3 [] [(20,(.agg [(.I id),(.I many),(.I 0),(.I (-1)),.emp,(.I 0),(.I 0),.emp,.emp]))] ?_
  refine Cc [1] hI O O (W8 id many 0 (-1) 0 0 _ (ix ids 1) (by exact hI.sub' O O)) O O O O O O (fun v _=>Bz Try.func28 hI) ?_
  rintro _ _ _ _ ⟨g1,rfl,rfl⟩
  refine Dt [1] hI O O O ?_
  refine Cs<|Af (.q ids 1 g1) O As<|Ag<|A4 ?_
  refine Ad<|Ab<|Af (.q ids 1 g1) O Aa<|Cc [1,2,3] hI O O (Th id many 0 (-1) 0 0 _ (ix ids 1) (ix ids 2) (ix ids 3) .emp .emp .emp .emp g1 (by exact hI.sub' O O)) O O O O O O (fun v _=>Bz Try.func28 hI) ?_
  rintro r2 _ _ _ ⟨v,g2,v1,g3,vH,vH1,rfl,rfl⟩
  refine Dt [1,2,3] hI O O O ?_
  refine Cs<|Ag<|A4 ?_
  refine Ad<|Ab<|Aq 4 [1] [(27,(.agg [(.I id),(.I many),(.I 0),(.I (-1)),.emp,(.I 0),(.I 0),v,v1]))] ?_
  refine Be (A8 (v:=(.agg [(.I id),(.I many),(.I 0),(.I (-1)),.emp,(.I 0),(.I 0),v,v1])) hI O O O O Ar O O O O (Aw O (Aw O (Aw O (Aw O (Aw O (Aw O (Aw O (Aw (Bk.flat vH) (Aw (Bk.flat vH1) Gn))))))))))<|Af (.I 0) O As<|Ag<|A4 ?_
  exact Cu (a:=(({ ID:=id,Many:=many,Term:=0,Vote:=(-1),Log:=[],Role:=0,Commit:=0,Votes:=r2.1,Match:=r2.2 }:Replica),0)) (vs:=[(.agg [(.I id),(.I many),(.I 0),(.I (-1)),.emp,(.I 0),(.I 0),v,v1]),(.I 0)]) Try.func28 hI (Cr (Ao hI O O O Ar O) (En Dm)) (.tupL (.cons (.aggL (.cons (.same _) (.cons (.same _) (.cons (.same _) (.cons (.same _) (.cons (.emp _) (.cons (.same _) (.cons (.same _) (.cons (Dz vH (hI.at O O) (hI.out O) (fun x=>Rs x)) (.cons (Dz vH1 (hI.at O O) (hI.out O) (fun x=>Jb x)) .nil)))))))))) (.cons (.same _) .nil)))
 ·refine Bd (t:=10) hb1 O<|Aq 6 [] [(16,(.bool true))] ?_
  refine Bw<|C9 [(0,(.I id)),(1,(.I many)),(4,(.q ids 0 g)),(16,(.bool true))] (FI O)<|hJ true _ _ ⟨O,O⟩
 refine Bd (t:=10) hb1 O<|Aq 3 [] [(13,(.I (IntKind.wrap .i64 (many - 1)))),(11,(.I id))] ?_
 refine Bf [(.I id),(.I 0),(.I (IntKind.wrap .i64 (many - 1)))] O (Dw (tj:=10) O O) O O ((Cz id 0 (IntKind.wrap .i64 (many - 1))) _) (fun v _=>Bz Try.func28 hI) fun r1 _=>Aq 2 [] [(16,(.bool (!r1)))] ?_
 refine Bw<|C9 [(0,(.I id)),(1,(.I many)),(4,(.q ids 0 g)),(16,(.bool (!r1)))] (FI O)<|hJ (!r1) _ _ ⟨O,O⟩
theorem Ds (ok:Bool)(e:Int):CP Try.prog 37 [(.bool ok),(.int .i64 e)] (Ba ok e) (fun(_:Unit)=>AV.tup []):=by
 refine Ec (n:=9) 0 Try.func37 O (by decide) O O fun h0 ids hI=>B5 (A2 (Ba.eq_1 _ _) ?_)
 refine Ad<|Ab<|Aq 2 [] [(5,(.bool (!ok)))] ?_
 refine Ag<|Mn O (fun hc=>?_) (fun hc=>?_)
 ·refine Bj<|Ab2 (a:=()) (vs:=[]) Try.func37 hI O (.tupL .nil)
 refine Ab<|Aq 3 [] [(8,(.iface 105 (.agg [(.I e)])))] ?_
 exact Abg (v:=⟨105,.one .i64 e⟩) O O (Bz Try.func37 hI)
theorem Tm (l:List Record)(term:Int):CP Try.prog 45 [(.sl 2 (List.map Ak l)),(.int .i64 term)] (Fu l term) (fun(x:Bool)=>(AV.bool x)):=by
 refine Ec (n:=35) 1 Try.func45 O (by decide) O O fun h0 ids hI=>B5 (A2 (Fu.eq_1 _ _) ?_)
 refine Ad<|Ab<|Af (.bool false) O As<|Ag<|Ad<|Ad<|Ab ?_
 refine Af (.sl 2 (List.map Ak l)) O Aa<|Af (.I (l.length:Int)) O (Bn (Bs Bq))<|Af (.I 0) O Aa<|Ag<|By<|Hi [(0,(.sl 2 (List.map Ak l))),(1,(.I term)),(7,(.sl 2 (List.map Ak l))),(8,(.I (l.length:Int))),(9,(.I 0))] (FI O)<|My (P:=Try.prog) l (fun j a=>fun _=>I0 l term j a) ((Hz (fun _=>.ok true) (fun r=>.ok r)):(Unit ⊕ Bool)→R Bool) (fun j=>fun _=>fun(fr:Nat→AV) (h:Ah)=>fr=Az [(0,(.sl 2 (List.map Ak l))),(1,(.I term)),(7,(.sl 2 (List.map Ak l))),(8,(.I (l.length:Int))),(9,(.I (j:Int)))]∧h=hp h0 ids [none]) () ?_ ?_ ?_
 ·exact⟨O,O⟩
 ·rintro j a ha W hW _ fr h ⟨rfl,rfl⟩
  refine A2 (m':=I0 l term j a) O (A2 (I0.eq_1 _ _ _ _) ?_)
  refine Ad<|Ab<|Af (.bool (decide ((j:Int)<(l.length:Int)))) O (Bc O O O)<|Ag<|Ad<|Kj (t:=0) (L:=l) O fun hlim=>Hh O (Int.ofNat_lt.2 (B0 ha)) ?_
  refine Bj<|Ad<|By<|Ad<|Ab<|Af (.I (j:Int)) O Aa<|Af (.cp (Ak a) 0) O (Bu (Kc Bq D0 O ha)) ?_
  refine Af (.agg (Ak a)) O (Aj (Ex D0 O))<|Cw (j:=0) hI O O O O D0 O fun g=>Af (.I (j:Int)) O As<|Be (A8 (v:=(.agg (Ak a))) hI O O O O D0 O O O O O)<|Ag<|A4 ?_
  refine Ad<|Em (fun x1=>Gs x1) (fun x1=>fun(fr:Nat→AV) (h:Ah)=>fr=Az [(0,(.sl 2 (List.map Ak l))),(1,(.I term)),(7,(.sl 2 (List.map Ak l))),(8,(.I (l.length:Int))),(9,(.I (j:Int))),(33,(.bool x1))]∧h=hp h0 ids [none]) ?_ fun hJ=>?_
  ·rintro x1 fr h ⟨rfl,rfl⟩
   refine A2 (Gs.eq_1 _)<|Dh O (fun hc=>?_) (fun hc=>?_)
   ·refine Ad<|Ab<|Af (.bool false) O As<|Ag<|Og<|O3<|Cu (a:=false) (vs:=[(.bool false)]) Try.func45 hI O (.same _)
   refine Bj<|B2<|Ab<|Aq 2 [] [(9,(.I (IntKind.wrap .i64 ((j:Int)+1))))] ?_
   refine Ag<|Bl (Of (hW () _ _ ⟨O,O⟩)) (.cons O (.cons O (.cons O (.cons O (.cons (Hm (B0 ha) hlim) .nil)))))
  refine Bx Dd [[],[0],[],[0,1,2],[0,1,2,3],[0,1,2,3,4],[0,1,2,3,4,5],[0,1,2,3,4,5,6],[0,1,2,3,4,5,6,7],[0,1,2,3,4,5,6,7,8],[0,1,2,3,4,5,6,7,8],[0,1,2,3,4,5,6,7,8,10],[0,1,2,3,4,5,6,7,8,9,10,11],[0,1,2,3,4,5,6,7,8,9,10,11,12],[0,1,2,3,4,5,6,7,8,9,10,11,12,13],[0,1,2,3,4,5,6,7,8],[0,1,2,3,4,5,6,7,8,15],[0,1,2,3,4,5,6,7,8,9,10,11,12,13,14,15,16],[0,1,2,3,4,5,6,7,8,9,10,11,12,13,14,15,16,17],[0,1,2,3,4,5,6,7,8,9,10,11,12,13,14,15,16,17,18]] [(false,0),(false,1),(false,2),(true,3),(false,4),(false,5),(false,6),(false,7),(false,8),(false,9),(false,10),(false,11),(false,12),(false,13),(false,14),(false,15),(false,16),(false,17),(false,18),(false,19)] (by kernel_rfl)<|Z (.q ids 0 g) O O (Ai (Ae (c:=0) (off:=0) (i:=0) D0 O Av O))<|Z (.I a.Term) O O (Aj (Ao hI O O O Av O))<|Z (.I term) O O Aa<|Fe [(.I a.Term),(.I 1),(.I term)] O O O O O ((Cz a.Term 1 term) _) (fun v _ _ _=>Bz Try.func45 hI) (Y O (Y O (Y O Ap))) fun r _=>Z (.bool (!r)) O O (Qc O)<|Z (.bool (!r)) O O Aa ?_
  refine Gw (fun hb=>?_) (fun hb=>?_)
  ·refine Ax (tj:=19) (b:=true) O O (congrArg AV.bool hb) O O<|Ax (tj:=19) (b:=true) O O (congrArg AV.bool hb) O O<|Ax (tj:=19) (b:=true) O O (congrArg AV.bool hb) O O<|E4 (tj:=22) O O O O<|E4 (tj:=22) O O O O<|E4 (tj:=22) O O O O<|E4 (tj:=22) O O O O ?_
   refine E4 (tj:=22) O O O O<|E4 (tj:=22) O O O O<|E4 (tj:=22) O O O O<|E4 (tj:=22) O O O O<|E4 (tj:=22) O O O O<|Ax (tj:=19) (b:=true) O O (congrArg AV.bool hb) O O<|Z (.bool true) O O (Bo (t:=true) (congrArg AV.bool hb) O) ?_
   refine A9<|E3 [none] hI O (.drop .nil)<|Bl (hJ true _ _ ⟨O,O⟩)
  refine A0 (tj:=19) (.I (j:Int)) O O (congrArg AV.bool hb) O Aa<|A0 (tj:=19) (.bool (decide ((j:Int) > 0))) O O (congrArg AV.bool hb) O (Bc O O O)<|A0 (tj:=19) (.bool (decide ((j:Int) > 0))) O O (congrArg AV.bool hb) O Aa<|Gw (fun hb1=>?_) (fun hb1=>?_)
  ·refine A0 (tj:=22) (.sl 2 (List.map Ak l)) O O (congrArg AV.bool hb1) O Aa<|A0 (tj:=22) (.I (j:Int)) O O (congrArg AV.bool hb1) O Aa<|A0 (tj:=22) (.I (IntKind.wrap .i64 ((j:Int) - 1))) O O (congrArg AV.bool hb1) O (Bc O O O)<|Iq fun a1 hz hx1=>A0 (tj:=22) (.cp (Ak a1) 0) O O (congrArg AV.bool hb1) O (Bu (G0 Bq D0 O hz hx1))<|A0 (tj:=22) (.cp (Ak a1) 0) O O (congrArg AV.bool hb1) O (Ai (Od (c:=0) (off:=0) (i:=0) D0 O Av O))<|A0 (tj:=22) (.I a1.Term) O O (congrArg AV.bool hb1) O (Aj (Ex Av O)) ?_
   refine A0 (tj:=22) (.q ids 0 g) O O (congrArg AV.bool hb1) O (Ai (Ae (c:=0) (off:=0) (i:=0) D0 O Av O))<|A0 (tj:=22) (.I a.Term) O O (congrArg AV.bool hb1) O (Aj (Ao hI O O O Av O))<|A0 (tj:=22) (.bool (decide (a1.Term > a.Term))) O O (congrArg AV.bool hb1) O (Bc O O O)<|A0 (tj:=19) (.bool (decide (a1.Term > a.Term))) O O (congrArg AV.bool hb) O (Bo (t:=true) (congrArg AV.bool hb1) O)<|Z (.bool (decide (a1.Term > a.Term))) O O (Bo (t:=false) (congrArg AV.bool hb) O)<|A9<|E3 [none] hI O (.drop .nil) ?_
   exact Bl (hJ (decide (a1.Term > a.Term)) _ _ ⟨O,O⟩)
  refine Ax (tj:=22) (b:=false) O O (congrArg AV.bool hb1) O O<|Ax (tj:=22) (b:=false) O O (congrArg AV.bool hb1) O O<|Ax (tj:=22) (b:=false) O O (congrArg AV.bool hb1) O O<|Ax (tj:=22) (b:=false) O O (congrArg AV.bool hb1) O O<|Ax (tj:=22) (b:=false) O O (congrArg AV.bool hb1) O O<|Ax (tj:=22) (b:=false) O O (congrArg AV.bool hb1) O O<|Ax (tj:=22) (b:=false) O O (congrArg AV.bool hb1) O O ?_
  refine Ax (tj:=22) (b:=false) O O (congrArg AV.bool hb1) O O<|Ax (tj:=22) (b:=false) O O (congrArg AV.bool hb1) O O<|A0 (tj:=19) (.bool false) O O (congrArg AV.bool hb) O (Bo (t:=false) (congrArg AV.bool hb1) O)<|Z (.bool false) O O (Bo (t:=false) (congrArg AV.bool hb) O)<|A9<|E3 [none] hI O (.drop .nil)<|Bl (hJ false _ _ ⟨O,O⟩)
 rintro _ fr h ⟨rfl,rfl⟩
 refine A2 (Oj _ _ _)<|Ad<|Ab<|Af (.bool (decide ((l.length:Int)<(l.length:Int)))) O (Bc O O O)<|Ag<|Ad<|Hf O (Int.lt_irrefl _) ?_
 refine Fs O<|Ad<|Ab<|Af (.bool true) O As<|Ag<|Cu (a:=true) (vs:=[(.bool true)]) Try.func45 hI O (.same _)
theorem Ow (w:AV):CP Try.prog 35 [.nili,w] (H3) (fun(_:Unit)=>AV.tup []):=by
 refine Ec (n:=17) 0 Try.func35 O (by decide) O O fun h0 ids hI=>B5 (A2 (H3.eq_1) ?_)
 refine Ad<|Ab<|Af .nili O Aa<|Ag<|By<|Ad<|Ab ?_
 refine Af (.bool true) O (Bc O O (Akd Aey))<|Ag<|L3 true O<|Ab<|Af .nili O As<|Ag<|B2 ?_
 exact Ab2 (a:=()) (vs:=[]) Try.func35 hI O (.tupL .nil)
theorem Va (a0:AV)(h:Ah):Ja Try.prog 52 [a0] .ret h (Qq (fun _:Unit=>h) .ret (.ok ())):=by
 refine N2 (n:=3) Try.func52 O (by decide) O O ?_ ⟨(),O⟩
 refine B5 (A2 (m':=(H3).bind fun _ =>   .ok ()) O ?_)
 refine Ab<|Wy O<|Bf [.nili,a0] O O O O ((Ow a0) _) (fun v hv=>by unfold H3 at hv; cases hv) fun _ _=>?_
 refine Ag<|Pr Try.func52 O O O
theorem Nl (p:T104)(h0:Ah)(o0:Nat)(r:List AV)(g:Nat)(hr:r.length=1)(hI0:Ids h0 [o0] 1):Ef p≠.bad→Bm Try.prog 35 [(.iface 105 (.agg (Y7 p))),(.ptr o0 g 0 0)] (hp h0 [o0] [some (.rows g 1 [r])]) (Eg (fun a_ v h'=>v=(.tup [])∧h'=hp h0 [o0] [some (.rows g 1 [[(.int .i64 p.fE)]])]) h0 (Ef p)):=by
 refine Ci (n:=17) 1 Try.func35 O (by decide) O O hI0 O fun ids he hI=>?_
 clear hI0
 obtain rfl:ix ids 0=o0:=he 0 rfl
 clear he
 refine B5 (A2 (Ef.eq_1 _) ?_)
 refine A4 ?_
 refine Ad<|Ab<|Af (.iface 105 (.agg (Y7 p))) O Aa<|Ag<|By<|Ad<|Ab ?_
 refine Af (.bool false) O (Bc O O (Aiw Aey))<|Ag<|L3 false O<|Ad<|Ab<|Af (.tup [(.agg (Y7 p)),(.bool true)]) O (Aeh (Akj Ael (by decide)))<|Aq 2 [] [(12,(.agg (Y7 p))),(11,(.bool true))] ?_
 refine Ag<|L3 true O<|Ad<|Ab<|Cw (j:=1) hI O O O O Ael O fun g1=>Be (A8 (v:=(.agg (Y7 p))) hI O O O O Ael O O O O O)<|Ag ?_
 refine A4 ?_
 refine Ab<|Aq 4 [1] [(16,(.q ids 0 g)),(15,(.I p.fE))] ?_
 refine Be (W6 (v:=(.I p.fE)) hI O O O Gm O O O hr O)<|Ag<|A4 ?_
 refine B2<|E1 (K:=1) (N:=1) (a:=()) (vs:=[]) [some (.rows g 1 [[(.I p.fE)]])] Try.func35 hI O O O (.keep (.drop .nil)) (.same _) ⟨O,O⟩
theorem R5 (n:Int)(h0:Ah)(ids:List Nat)(hI:Ids h0 ids 1)(g0_:Nat)(r0_:List AV)(hr0_:r0_.length=1):(∃ a,E2 n=.ok a)→Ja Try.prog 52 [(.ptr (ix ids 0) g0_ 0 0)] (.pan (.iface 105 (.agg [.int .i64 n])) false) (hp h0 ids [some (.rows g0_ 1 [r0_])]) (Qq (fun p=>hp h0 ids [some (.rows g0_ 1 [[(.int .i64 p)]])]) (.pan (.iface 105 (.agg [.int .i64 n])) true) (E2 n)):=by
 refine N2 (n:=3) Try.func52 O (by decide) O O<|B5 (A2 (E2.eq_1 _) ?_)
 refine Ab<|Wu O<|Cc [0] hI O O (Nl ({ fE:=n }:T104) _ (ix ids 0) r0_ g0_ hr0_ (by exact hI.sub' O O)) O O O O O O (fun v hv=>by unfold Ef at hv; cases hv) ?_
 rintro _ _ _ _ ⟨rfl,rfl⟩
 refine Dt [0] hI O O O ?_
 refine Cs<|Ag<|A4 ?_
 exact Pr (a:=(({ fE:=n }:T104).fE)) Try.func52 O O O
theorem Jc (r:Replica):CP Try.prog 22 [(.agg (Au r))] (Db r) (fun(x:Int)=>(AV.int .i64 x)):=by
 show CP _ _ _ ((Iy r).catch' (Ha 105 .i64 (fun n=>(E2 n).bind fun p=>.ok p) (fun _=>.bad))) _
 refine Tk (n:=121) 2 Try.func22 O (by decide) O O fun h0 ids hI=>?_
 have hU : ∀ (v:PV) (fr:Nat→AV) (xs:List (Option AO)) (g0_:Nat) (r0_:List AV) (hl_:xs.length=2) (hr0_:r0_.length=1) (hy_:xs.take 1=[some (.rows g0_ 1 [r0_])]) (hq2_:fr 2=.q ids 0 g0_),WU Try.prog 22 121 false (M4 (fun(x:Int)=>(AV.I x)) h0 (Ha 105 .i64 (fun n=>(E2 n).bind fun p=>.ok p) (fun _=>.bad))) (.pan v) (.pan v.av false) fr [⟨52,[.q ids 0 g0_]⟩] (hp h0 ids xs) .ret:=by
  intro v fr xs g0_ r0_ hl_ hr0_ hy_ hq2_
  refine Ae4 (t:=105) (k1:=.i64) O (fun n hv=>?_) (fun hne105=>?_)
  ·subst hv
   exact Uz (Hc:=E2 n) (fin:=fun p=>p) (c:=1) (cells:=fun p=>[some (.rows g0_ 1 [[(.I p)]])]) (vs:=fun p=>[(.I p)]) Try.func22 hI hl_ O hy_ (by first | (rw [Pl]; done) | (rw [Pl]; rfl)) (fun hx=>by have:=R5 n h0 (ids.take 1) (hI.take O) g0_ r0_ hr0_ hx; simp only [K4 (c:=1) (j:=0) O] at this; exact this) (by intro w; simp [E2,Ef]) (fun p=>(Mx hq2_ (Qf (hI.take O) (K4 O) O O O Gm O) Dm)) (fun p=>(.same _))
  exact Aa7 (by rw [Wi hne105])
 refine B5 (A2 (Iy.eq_1 _) ?_)
 refine Ad<|Ab<|Dk (v:=(.agg (Au r))) (j:=1) hI O O O O O O O fun g=>Cw (j:=0) hI O O O O Gm O fun g1=>Ag<|A4 ?_
 refine Ad<|Ab<|Af (.func (.func 52) [] [(.q ids 0 g1)]) O W1<|U5 O O O ?_
 refine Ag<|Ad<|Ab<|Aq 2 [1] [(7,(.I r.Many))] ?_
 refine Bf [(.I r.Many),(.I 1),(.I 5)] O O O O ((Cz r.Many 1 5) _) (fun v _=>hU v _ _ _ _ O O O O) fun r1 _=>Af (.bool r1) O Aa<|El 7 ((fun(b:Bool)=>(if b then(Bi r.Term 0 1048576).bind fun r3=>R.ok r3 else R.ok false).bind (fun(b1:Bool)=>(if b1 then(Bi r.Vote (-1) (IntKind.wrap .i64 (r.Many - 1))).bind fun r4=>R.ok r4 else R.ok false).bind (fun(b2:Bool)=>(Ba b2 470).bind fun _=>(Fu r.Log r.Term).bind fun r6=>(if r6 then(Bi r.Role 0 2).bind fun r7=>R.ok r7 else R.ok false).bind (fun(b3:Bool)=>(if b3 then(Bi r.Commit 0 (r.Log.length:Int)).bind fun r8=>R.ok r8 else R.ok false).bind (fun(b4:Bool)=>(Ba ((b4&&((r.Votes.length:Int)==r.Many))&&((r.Match.length:Int)==r.Many)) 470).bind fun _=>(E7 (fun j a=>fun _=>Eh r j a) 0 r.Match ()).bind ((fun _=>(if(r.Role==0) then R.ok true else(if((r.Vote==r.ID)&&(decide (r.Term≥1))) then(C1 r.Votes r.ID).bind fun a2=>R.ok a2 else R.ok false).bind (fun(b8:Bool)=>R.ok b8)).bind (fun(b7:Bool)=>(Ba b7 470).bind fun _=>.ok 0)))))))):Bool→R Int) (fun(b:Bool) (fr:Nat→AV) (h:Ah)=>fr=Az [(1,(.q ids 1 g)),(2,(.q ids 0 g1)),(16,(.bool b))]∧h=hp h0 ids [(some (.rows g1 1 [[(.I 0)]])),(some (.rows g 9 [(Au r)]))]) ?_ fun hJ=>Fm (fun hb1=>?_) (fun hb1=>?_)
 ·rintro b fr h ⟨rfl,rfl⟩
  refine Af (.bool b) O Aa<|El 4 ((fun(b1:Bool)=>(if b1 then(Bi r.Vote (-1) (IntKind.wrap .i64 (r.Many - 1))).bind fun r4=>R.ok r4 else R.ok false).bind (fun(b2:Bool)=>(Ba b2 470).bind fun _=>(Fu r.Log r.Term).bind fun r6=>(if r6 then(Bi r.Role 0 2).bind fun r7=>R.ok r7 else R.ok false).bind (fun(b3:Bool)=>(if b3 then(Bi r.Commit 0 (r.Log.length:Int)).bind fun r8=>R.ok r8 else R.ok false).bind (fun(b4:Bool)=>(Ba ((b4&&((r.Votes.length:Int)==r.Many))&&((r.Match.length:Int)==r.Many)) 470).bind fun _=>(E7 (fun j a=>fun _=>Eh r j a) 0 r.Match ()).bind ((fun _=>(if(r.Role==0) then R.ok true else(if((r.Vote==r.ID)&&(decide (r.Term≥1))) then(C1 r.Votes r.ID).bind fun a2=>R.ok a2 else R.ok false).bind (fun(b8:Bool)=>R.ok b8)).bind (fun(b7:Bool)=>(Ba b7 470).bind fun _=>.ok 0))))))):Bool→R Int) (fun(b1:Bool) (fr:Nat→AV) (h:Ah)=>fr=Az [(1,(.q ids 1 g)),(2,(.q ids 0 g1)),(21,(.bool b1))]∧h=hp h0 ids [(some (.rows g1 1 [[(.I 0)]])),(some (.rows g 9 [(Au r)]))]) ?_ fun hJ1=>Fm (fun hb3=>?_) (fun hb3=>?_)
  ·rintro b1 fr h ⟨rfl,rfl⟩
   refine Af (.bool b1) O Aa<|El 7 ((fun(b2:Bool)=>(Ba b2 470).bind fun _=>(Fu r.Log r.Term).bind fun r6=>(if r6 then(Bi r.Role 0 2).bind fun r7=>R.ok r7 else R.ok false).bind (fun(b3:Bool)=>(if b3 then(Bi r.Commit 0 (r.Log.length:Int)).bind fun r8=>R.ok r8 else R.ok false).bind (fun(b4:Bool)=>(Ba ((b4&&((r.Votes.length:Int)==r.Many))&&((r.Match.length:Int)==r.Many)) 470).bind fun _=>(E7 (fun j a=>fun _=>Eh r j a) 0 r.Match ()).bind ((fun _=>(if(r.Role==0) then R.ok true else(if((r.Vote==r.ID)&&(decide (r.Term≥1))) then(C1 r.Votes r.ID).bind fun a2=>R.ok a2 else R.ok false).bind (fun(b8:Bool)=>R.ok b8)).bind (fun(b7:Bool)=>(Ba b7 470).bind fun _=>.ok 0)))))):Bool→R Int) (fun(b2:Bool) (fr:Nat→AV) (h:Ah)=>fr=Az [(1,(.q ids 1 g)),(2,(.q ids 0 g1)),(29,(.bool b2))]∧h=hp h0 ids [(some (.rows g1 1 [[(.I 0)]])),(some (.rows g 9 [(Au r)]))]) ?_ fun hJ2=>Fm (fun hb5=>?_) (fun hb5=>?_)
   ·rintro b2 fr h ⟨rfl,rfl⟩
    refine Bf [(.bool b2),(.I 470)] O O O O ((Ds b2 470) _) (fun v _=>hU v _ _ _ _ O O O O) fun _ _=>Ag<|Ad<|Ab<|Aq 4 [1,1] [(34,(.I r.Term)),(32,(.sl 2 (List.map Ak r.Log)))] ?_
    refine Bf [(.sl 2 (List.map Ak r.Log)),(.I r.Term)] O O O O ((Tm r.Log r.Term) _) (fun v _=>hU v _ _ _ _ O O O O) fun r6 _=>Af (.bool r6) O Aa<|El 4 ((fun(b3:Bool)=>(if b3 then(Bi r.Commit 0 (r.Log.length:Int)).bind fun r8=>R.ok r8 else R.ok false).bind (fun(b4:Bool)=>(Ba ((b4&&((r.Votes.length:Int)==r.Many))&&((r.Match.length:Int)==r.Many)) 470).bind fun _=>(E7 (fun j a=>fun _=>Eh r j a) 0 r.Match ()).bind ((fun _=>(if(r.Role==0) then R.ok true else(if((r.Vote==r.ID)&&(decide (r.Term≥1))) then(C1 r.Votes r.ID).bind fun a2=>R.ok a2 else R.ok false).bind (fun(b8:Bool)=>R.ok b8)).bind (fun(b7:Bool)=>(Ba b7 470).bind fun _=>.ok 0))))):Bool→R Int) (fun(b3:Bool) (fr:Nat→AV) (h:Ah)=>fr=Az [(1,(.q ids 1 g)),(2,(.q ids 0 g1)),(40,(.bool b3))]∧h=hp h0 ids [(some (.rows g1 1 [[(.I 0)]])),(some (.rows g 9 [(Au r)]))]) ?_ fun hJ3=>Fm (fun hb7=>?_) (fun hb7=>?_)
    ·rintro b3 fr h ⟨rfl,rfl⟩
     refine Af (.bool b3) O Aa<|El 7 ((fun(b4:Bool)=>(Ba ((b4&&((r.Votes.length:Int)==r.Many))&&((r.Match.length:Int)==r.Many)) 470).bind fun _=>(E7 (fun j a=>fun _=>Eh r j a) 0 r.Match ()).bind ((fun _=>(if(r.Role==0) then R.ok true else(if((r.Vote==r.ID)&&(decide (r.Term≥1))) then(C1 r.Votes r.ID).bind fun a2=>R.ok a2 else R.ok false).bind (fun(b8:Bool)=>R.ok b8)).bind (fun(b7:Bool)=>(Ba b7 470).bind fun _=>.ok 0)))):Bool→R Int) (fun(b4:Bool) (fr:Nat→AV) (h:Ah)=>fr=Az [(1,(.q ids 1 g)),(2,(.q ids 0 g1)),(48,(.bool b4))]∧h=hp h0 ids [(some (.rows g1 1 [[(.I 0)]])),(some (.rows g 9 [(Au r)]))]) ?_ fun hJ4=>Fm (fun hb9=>?_) (fun hb9=>?_)
     ·rintro b4 fr h ⟨rfl,rfl⟩
      refine Af (.bool b4) O Aa<|Ct 7 [(1,(.q ids 1 g)),(2,(.q ids 0 g1)),(56,(.bool (b4&&((r.Votes.length:Int)==r.Many))))] ?_ fun hJ5=>Cd b4 (fun hb11=>?_) (fun hb11=>?_)
      ·refine Af (.bool (b4&&((r.Votes.length:Int)==r.Many))) O Aa<|Ct 7 [(1,(.q ids 1 g)),(2,(.q ids 0 g1)),(64,(.bool ((b4&&((r.Votes.length:Int)==r.Many))&&((r.Match.length:Int)==r.Many))))] ?_ fun hJ6=>Cd (b4&&((r.Votes.length:Int)==r.Many)) (fun hb13=>?_) (fun hb13=>?_)
       ·refine Bf [(.bool ((b4&&((r.Votes.length:Int)==r.Many))&&((r.Match.length:Int)==r.Many))),(.I 470)] O O O O ((Ds ((b4&&((r.Votes.length:Int)==r.Many))&&((r.Match.length:Int)==r.Many)) 470) _) (fun v _=>hU v _ _ _ _ O O O O) fun _ _=>Ag<|Ad<|Ad<|Ab<|Aq 2 [1] [(67,(.sl 1 (List.map (rI .i64) r.Match)))] ?_
        refine Af (.I (r.Match.length:Int)) O (Bn (Bs B3))<|Af (.I 0) O Aa<|Ag<|By<|Hi [(1,(.q ids 1 g)),(2,(.q ids 0 g1)),(67,(.sl 1 (List.map (rI .i64) r.Match))),(68,(.I (r.Match.length:Int))),(69,(.I 0))] (FI O)<|N4 (P:=Try.prog) r.Match (fun j a=>fun _=>Eh r j a) (((fun _=>(if(r.Role==0) then R.ok true else(if((r.Vote==r.ID)&&(decide (r.Term≥1))) then(C1 r.Votes r.ID).bind fun a2=>R.ok a2 else R.ok false).bind (fun(b8:Bool)=>R.ok b8)).bind (fun(b7:Bool)=>(Ba b7 470).bind fun _=>.ok 0))):Unit→R Int) (fun j=>fun _=>fun(fr:Nat→AV) (h:Ah)=>fr=Az [(1,(.q ids 1 g)),(2,(.q ids 0 g1)),(67,(.sl 1 (List.map (rI .i64) r.Match))),(68,(.I (r.Match.length:Int))),(69,(.I (j:Int)))]∧h=hp h0 ids [(some (.rows g1 1 [[(.I 0)]])),(some (.rows g 9 [(Au r)]))]) () ?_ ?_ ?_
        ·exact⟨O,O⟩
        ·rintro j a ha W hW _ fr h ⟨rfl,rfl⟩
         refine A2 (m':=Eh r j a) O (A2 (Eh.eq_1 _ _ _) ?_)
         refine Ad<|Ab<|Af (.bool (decide ((j:Int)<(r.Match.length:Int)))) O (Bc O O O)<|Ag<|Ad<|Kj (t:=67) (L:=r.Match) O fun hlim=>Hh O (Int.ofNat_lt.2 (B0 ha)) ?_
         refine Bj<|Ad<|By<|Ad<|Ab<|Af (.I (j:Int)) O Aa<|Af (.cp [(.I a)] 0) O (Bu (Kc B3 Av O ha)) ?_
         refine Aq 3 [] [(4,(.I a)),(3,(.I (j:Int)))] ?_
         refine Ag<|Ad<|Ab<|Aq 3 [1] [(76,(.sl 2 (List.map Ak r.Log))),(74,(.I a))] ?_
         refine Af (.I (r.Log.length:Int)) O (Bn (Bs Bq))<|Bf [(.I a),(.I 0),(.I (r.Log.length:Int))] O O O O ((Cz a 0 (r.Log.length:Int)) _) (fun v _=>hU v _ _ _ _ O O O O) fun r10 _=>Bf [(.bool r10),(.I 470)] O O O O ((Ds r10 470) _) (fun v _=>hU v _ _ _ _ O O O O) fun _ _=>Ag<|Ab<|Aq 4 [1] [(83,(.bool (r.Role != 0)))] ?_
         refine El 11 ((fun(b5:Bool)=>(Ba b5 470).bind fun _=>.ok ()):Bool→R Unit) (fun(b5:Bool) (fr:Nat→AV) (h:Ah)=>fr=Az [(1,(.q ids 1 g)),(2,(.q ids 0 g1)),(67,(.sl 1 (List.map (rI .i64) r.Match))),(68,(.I (r.Match.length:Int))),(69,(.I (j:Int))),(94,(.bool b5))]∧h=hp h0 ids [(some (.rows g1 1 [[(.I 0)]])),(some (.rows g 9 [(Au r)]))]) ?_ fun hJ7=>Fm (fun hb15=>?_) (fun hb15=>?_)
         ·rintro b5 fr h ⟨rfl,rfl⟩
          refine Bf [(.bool b5),(.I 470)] O O O O ((Ds b5 470) _) (fun v _=>hU v _ _ _ _ O O O O) fun _ _=>Ag<|B2<|Ab<|Aq 2 [] [(69,(.I (IntKind.wrap .i64 ((j:Int)+1))))] ?_
          refine Ag<|Bl (Rg (hW () _ _ ⟨O,O⟩)) (.cons O (.cons O (.cons O (.cons O (.cons (Hm (B0 ha) hlim) .nil)))))
         ·refine Bd (t:=83) hb15 O<|Aq 11 [] [(94,(.bool true)),(93,.und),(92,.und),(91,.und),(90,.und),(89,.und),(88,.und),(87,.und),(86,.und),(85,.und),(84,.und)] ?_
          refine Bw<|C9 [(1,(.q ids 1 g)),(2,(.q ids 0 g1)),(67,(.sl 1 (List.map (rI .i64) r.Match))),(68,(.I (r.Match.length:Int))),(69,(.I (j:Int))),(94,(.bool true))] (FI O)<|hJ7 true _ _ ⟨O,O⟩
         refine Bd (t:=83) hb15 O<|Aq 3 [] [(86,(.bool (a==0))),(85,(.bool (a==0))),(84,(.I a))] ?_
         refine El 7 ((fun(b6:Bool)=>R.ok b6):Bool→R Bool) (fun(b6:Bool) (fr:Nat→AV) (h:Ah)=>fr=Az [(1,(.q ids 1 g)),(2,(.q ids 0 g1)),(67,(.sl 1 (List.map (rI .i64) r.Match))),(68,(.I (r.Match.length:Int))),(69,(.I (j:Int))),(83,(.bool false)),(84,(.I a)),(85,(.bool (a==0))),(86,(.bool (a==0))),(93,(.bool b6))]∧h=hp h0 ids [(some (.rows g1 1 [[(.I 0)]])),(some (.rows g 9 [(Au r)]))]) ?_ fun hJ8=>Fm (fun hb17=>?_) (fun hb17=>?_)
         ·rintro b6 fr h ⟨rfl,rfl⟩
          refine Af (.bool b6) O (Bo (t:=false) O O)<|Bw<|C9 [(1,(.q ids 1 g)),(2,(.q ids 0 g1)),(67,(.sl 1 (List.map (rI .i64) r.Match))),(68,(.I (r.Match.length:Int))),(69,(.I (j:Int))),(94,(.bool b6))] (FI O)<|hJ7 b6 _ _ ⟨O,O⟩
         ·refine Bd (t:=86) hb17 O<|Aq 3 [1] [(89,(.I (j:Int))),(88,(.sl 1 (List.map rB r.Votes))),(87,(.ptr (ix ids 1) g 0 7))] ?_
          refine Jn fun a1 hz hx1=>Cq (tj:=86) (.cp [(.bool a1)] 0) O O O (Bu (G0 Cv Hr O hz hx1))<|Aq 3 [] [(93,(.bool (!a1))),(92,(.bool (!a1))),(91,(.bool a1))] ?_
          refine Bw<|C9 [(1,(.q ids 1 g)),(2,(.q ids 0 g1)),(67,(.sl 1 (List.map (rI .i64) r.Match))),(68,(.I (r.Match.length:Int))),(69,(.I (j:Int))),(83,(.bool false)),(84,(.I a)),(85,(.bool (a==0))),(86,(.bool (a==0))),(93,(.bool (!a1)))] (.cons O (.cons O (.cons O (.cons O (.cons O (.cons O (.cons O (.cons O (.cons (congrArg AV.bool hb17.symm) (FI O))))))))))<|hJ8 (!a1) _ _ ⟨O,O⟩
         refine Bd (t:=86) hb17 O<|Aq 7 [] [(93,(.bool false)),(92,.und),(91,.und),(90,.und),(89,.und),(88,.und),(87,.und)] ?_
         refine Bw<|C9 [(1,(.q ids 1 g)),(2,(.q ids 0 g1)),(67,(.sl 1 (List.map (rI .i64) r.Match))),(68,(.I (r.Match.length:Int))),(69,(.I (j:Int))),(83,(.bool false)),(84,(.I a)),(85,(.bool (a==0))),(86,(.bool (a==0))),(93,(.bool false))] (.cons O (.cons O (.cons O (.cons O (.cons O (.cons O (.cons O (.cons O (.cons (congrArg AV.bool hb17.symm) (FI O))))))))))<|hJ8 false _ _ ⟨O,O⟩
        rintro _ fr h ⟨rfl,rfl⟩
        refine Ad<|Ab<|Af (.bool (decide ((r.Match.length:Int)<(r.Match.length:Int)))) O (Bc O O O)<|Ag<|Ad<|Hf O (Int.lt_irrefl _)<|Fs O ?_
        refine Ad<|Ab<|Aq 4 [1] [(100,(.bool (r.Role==0)))] ?_
        refine El 19 ((fun(b7:Bool)=>(Ba b7 470).bind fun _=>.ok 0):Bool→R Int) (fun(b7:Bool) (fr:Nat→AV) (h:Ah)=>fr=Az [(2,(.q ids 0 g1)),(119,(.bool b7))]∧h=hp h0 ids [(some (.rows g1 1 [[(.I 0)]])),(some (.rows g 9 [(Au r)]))]) ?_ fun hJ9=>Fm (fun hb19=>?_) (fun hb19=>?_)
        ·rintro b7 fr h ⟨rfl,rfl⟩
         refine Bf [(.bool b7),(.I 470)] O O O O ((Ds b7 470) _) (fun v _=>hU v _ _ _ _ O O O O) fun _ _=>Ag<|Ad<|Ab<|Be (A8 (v:=(.I 0)) hI O O O O Gm O O O O O)<|Ag<|Ok (a:=0) (vs:=[(.I 0)]) Try.func22 hI (Va _ _) (Cr (Ao hI O O O Gm O) Dm) (.same _)
        ·refine Bd (t:=100) hb19 O<|Aq 19 [] [(119,(.bool true))] ?_
         refine Bw<|C9 [(2,(.q ids 0 g1)),(119,(.bool true))] (FI O)<|hJ9 true _ _ ⟨O,O⟩
        refine Bd (t:=100) hb19 O<|Aq 6 [1,1] [(106,(.bool (r.Vote==r.ID)))] ?_
        refine Ct 4 [(1,(.q ids 1 g)),(2,(.q ids 0 g1)),(100,(.bool false)),(110,(.bool ((r.Vote==r.ID)&&(decide (r.Term≥1)))))] ?_ fun hJ10=>Cd (r.Vote==r.ID) (fun hb21=>?_) (fun hb21=>?_)
        ·refine Cq (tj:=100) (.bool ((r.Vote==r.ID)&&(decide (r.Term≥1)))) O O O Aa<|El 7 ((fun(b8:Bool)=>R.ok b8):Bool→R Bool) (fun(b8:Bool) (fr:Nat→AV) (h:Ah)=>fr=Az [(2,(.q ids 0 g1)),(100,(.bool false)),(118,(.bool b8))]∧h=hp h0 ids [(some (.rows g1 1 [[(.I 0)]])),(some (.rows g 9 [(Au r)]))]) ?_ fun hJ11=>Fm (fun hb23=>?_) (fun hb23=>?_)
         ·rintro b8 fr h ⟨rfl,rfl⟩
          refine Af (.bool b8) O (Bo (t:=false) O O)<|Bw<|C9 [(2,(.q ids 0 g1)),(119,(.bool b8))] (FI O)<|hJ9 b8 _ _ ⟨O,O⟩
         ·refine Bd (t:=111) hb23 O<|Aq 4 [1,1] [(115,(.I r.ID)),(113,(.sl 1 (List.map rB r.Votes)))] ?_
          refine Jn fun a2 hz1 hx2=>Cq (tj:=111) (.cp [(.bool a2)] 0) O O O (Bu (G0 Cv Hr O hz1 hx2))<|Aq 2 [] [(118,(.bool a2))] ?_
          refine Bw<|C9 [(2,(.q ids 0 g1)),(100,(.bool false)),(118,(.bool a2))] (FI O)<|hJ11 a2 _ _ ⟨O,O⟩
         refine Bd (t:=111) hb23 O<|Aq 7 [] [(118,(.bool false))] ?_
         refine Bw<|C9 [(2,(.q ids 0 g1)),(100,(.bool false)),(118,(.bool false))] (FI O)<|hJ11 false _ _ ⟨O,O⟩
        ·refine Bd (t:=106) hb21 O<|Aq 4 [1] [(110,(.bool (decide (r.Term≥1))))] ?_
         exact Bt hJ10 (.cons O (.cons O (.cons O (.cons (Jx hb21) .nil))))
        refine Bd (t:=106) hb21 O<|Aq 4 [] [(110,(.bool false))] ?_
        exact Bt hJ10 (.cons O (.cons O (.cons O (.cons (Jv hb21) .nil))))
       ·refine Bd (t:=57) hb13 O<|Aq 2 [1] [(59,(.sl 1 (List.map (rI .i64) r.Match)))] ?_
        refine Cq (tj:=57) (.I (r.Match.length:Int)) O O O (Bn (Bs B3))<|Aq 4 [1] [(64,(.bool ((r.Match.length:Int)==r.Many)))] ?_
        exact Bt hJ6 (.cons O (.cons O (.cons (Jx hb13) .nil)))
       refine Bd (t:=57) hb13 O<|Aq 7 [] [(64,(.bool false))] ?_
       exact Bt hJ6 (.cons O (.cons O (.cons (Jv hb13) .nil)))
      ·refine Bd (t:=49) hb11 O<|Aq 2 [1] [(51,(.sl 1 (List.map rB r.Votes)))] ?_
       refine Cq (tj:=49) (.I (r.Votes.length:Int)) O O O (Bn (Bs Cv))<|Aq 4 [1] [(56,(.bool ((r.Votes.length:Int)==r.Many)))] ?_
       exact Bt hJ5 (.cons O (.cons O (.cons (Jx hb11) .nil)))
      refine Bd (t:=49) hb11 O<|Aq 7 [] [(56,(.bool false))] ?_
      exact Bt hJ5 (.cons O (.cons O (.cons (Jv hb11) .nil)))
     ·refine Bd (t:=41) hb9 O<|Aq 4 [1,1] [(45,(.sl 2 (List.map Ak r.Log))),(43,(.I r.Commit))] ?_
      refine Cq (tj:=41) (.I (r.Log.length:Int)) O O O (Bn (Bs Bq))<|Bf [(.I r.Commit),(.I 0),(.I (r.Log.length:Int))] O (Dw (tj:=41) O O) O O ((Cz r.Commit 0 (r.Log.length:Int)) _) (fun v _=>hU v _ _ _ _ O O O O) fun r8 _=>Af (.bool r8) O (Bo (t:=true) O O)<|Bw<|C9 [(1,(.q ids 1 g)),(2,(.q ids 0 g1)),(48,(.bool r8))] (FI O)<|hJ4 r8 _ _ ⟨O,O⟩
     refine Bd (t:=41) hb9 O<|Aq 7 [] [(48,(.bool false))] ?_
     refine Bw<|C9 [(1,(.q ids 1 g)),(2,(.q ids 0 g1)),(48,(.bool false))] (FI O)<|hJ4 false _ _ ⟨O,O⟩
    ·refine Bd (t:=36) hb7 O<|Aq 2 [1] [(38,(.I r.Role))] ?_
     refine Bf [(.I r.Role),(.I 0),(.I 2)] O (Dw (tj:=36) O O) O O ((Cz r.Role 0 2) _) (fun v _=>hU v _ _ _ _ O O O O) fun r7 _=>Af (.bool r7) O (Bo (t:=true) O O)<|Bw<|C9 [(1,(.q ids 1 g)),(2,(.q ids 0 g1)),(40,(.bool r7))] (FI O)<|hJ3 r7 _ _ ⟨O,O⟩
    refine Bd (t:=36) hb7 O<|Aq 4 [] [(40,(.bool false))] ?_
    refine Bw<|C9 [(1,(.q ids 1 g)),(2,(.q ids 0 g1)),(40,(.bool false))] (FI O)<|hJ3 false _ _ ⟨O,O⟩
   ·refine Bd (t:=22) hb5 O<|Aq 5 [1,1] [(27,(.I (IntKind.wrap .i64 (r.Many - 1)))),(24,(.I r.Vote))] ?_
    refine Bf [(.I r.Vote),(.I (-1)),(.I (IntKind.wrap .i64 (r.Many - 1)))] O (Dw (tj:=22) O O) O O ((Cz r.Vote (-1) (IntKind.wrap .i64 (r.Many - 1))) _) (fun v _=>hU v _ _ _ _ O O O O) fun r4 _=>Af (.bool r4) O (Bo (t:=true) O O)<|Bw<|C9 [(1,(.q ids 1 g)),(2,(.q ids 0 g1)),(29,(.bool r4))] (FI O)<|hJ2 r4 _ _ ⟨O,O⟩
   refine Bd (t:=22) hb5 O<|Aq 7 [] [(29,(.bool false))] ?_
   refine Bw<|C9 [(1,(.q ids 1 g)),(2,(.q ids 0 g1)),(29,(.bool false))] (FI O)<|hJ2 false _ _ ⟨O,O⟩
  ·refine Bd (t:=17) hb3 O<|Aq 2 [1] [(19,(.I r.Term))] ?_
   refine Bf [(.I r.Term),(.I 0),(.I 1048576)] O (Dw (tj:=17) O O) O O ((Cz r.Term 0 1048576) _) (fun v _=>hU v _ _ _ _ O O O O) fun r3 _=>Af (.bool r3) O (Bo (t:=true) O O)<|Bw<|C9 [(1,(.q ids 1 g)),(2,(.q ids 0 g1)),(21,(.bool r3))] (FI O)<|hJ1 r3 _ _ ⟨O,O⟩
  refine Bd (t:=17) hb3 O<|Aq 4 [] [(21,(.bool false))] ?_
  refine Bw<|C9 [(1,(.q ids 1 g)),(2,(.q ids 0 g1)),(21,(.bool false))] (FI O)<|hJ1 false _ _ ⟨O,O⟩
 ·refine Bd (t:=9) hb1 O<|Aq 5 [1,1] [(14,(.I (IntKind.wrap .i64 (r.Many - 1)))),(11,(.I r.ID))] ?_
  refine Bf [(.I r.ID),(.I 0),(.I (IntKind.wrap .i64 (r.Many - 1)))] O (Dw (tj:=9) O O) O O ((Cz r.ID 0 (IntKind.wrap .i64 (r.Many - 1))) _) (fun v _=>hU v _ _ _ _ O O O O) fun r2 _=>Af (.bool r2) O (Bo (t:=true) O O)<|Bw<|C9 [(1,(.q ids 1 g)),(2,(.q ids 0 g1)),(16,(.bool r2))] (FI O)<|hJ r2 _ _ ⟨O,O⟩
 refine Bd (t:=9) hb1 O<|Aq 7 [] [(16,(.bool false))] ?_
 refine Bw<|C9 [(1,(.q ids 1 g)),(2,(.q ids 0 g1)),(16,(.bool false))] (FI O)<|hJ false _ _ ⟨O,O⟩
theorem Ln (r:Replica)(h0:Ah)(o0:Nat)(hI0:Ids h0 [o0] 1):D4 r≠.bad→Bm Try.prog 46 [(.agg (Au r))] (hp h0 [o0] [none]) (Eg (fun a_ v h' => ∃ (g2:Nat),v=(.ptr o0 g2 0 0)∧h'=hp h0 [o0] [some (.rows g2 10 [[(.int .i64 r.ID),(.int .i64 r.Many),(.int .i64 r.Term),(.int .i64 r.Vote),(.sl 2 (List.map Ak r.Log)),(.int .i64 r.Role),(.int .i64 r.Commit),(.sl 1 (List.map rB r.Votes)),(.sl 1 (List.map (rI .i64) r.Match)),.emp]])]) h0 (D4 r)):=by
 refine Ci (n:=6) 1 Try.func46 O (by decide) O O hI0 O fun ids he hI=>?_
 clear hI0
 obtain rfl:ix ids 0=o0:=he 0 rfl
 clear he
 refine B5 (A2 (D4.eq_1 _) ?_)
 refine A4 ?_
 refine Ad<|Ab<|Dk (v:=(.agg (Au r))) (j:=1) hI O O O O O O O fun g=>Af .nilp O As<|Ag<|A4 ?_
 refine Ad<|Ab<|Aq 2 [1] [(4,(.agg [(.I r.ID),(.I r.Many),(.I r.Term),(.I r.Vote),(.sl 2 (List.map Ak r.Log)),(.I r.Role),(.I r.Commit),(.sl 1 (List.map rB r.Votes)),(.sl 1 (List.map (rI .i64) r.Match)),.emp]))] ?_
 refine Dk (v:=(.agg [(.I r.ID),(.I r.Many),(.I r.Term),(.I r.Vote),(.sl 2 (List.map Ak r.Log)),(.I r.Role),(.I r.Commit),(.sl 1 (List.map rB r.Votes)),(.sl 1 (List.map (rI .i64) r.Match)),.emp])) (j:=0) hI O O O O O O O fun g1=>Af (.q ids 0 g1) O As<|Ag<|A4 ?_
 exact Fq (K:=1) (N:=1) (a:=()) (vs:=[(.q ids 0 g1)]) [some (.rows g1 10 [[(.I r.ID),(.I r.Many),(.I r.Term),(.I r.Vote),(.sl 2 (List.map Ak r.Log)),(.I r.Role),(.I r.Commit),(.sl 1 (List.map rB r.Votes)),(.sl 1 (List.map (rI .i64) r.Match)),.emp]])] Try.func46 hI O O O (.keep (.drop .nil)) (.same _) ⟨g1,O,O⟩
theorem On (s:List Record):CPO Try.prog 53 [(.sl 2 (List.map Ak s))] (Kt s) 2 Ak:=by
 refine Tj (n:=8) 0 Try.func53 O (by decide) O O fun h0 ids hI=>O9 (Kt.eq_1 _)<|Ad<|Ab<|Af .emp O As<|Ag<|Ad ?_
 refine Ad<|Ab<|Af (.sl 2 (List.map Ak s)) O Aa<|Z7 (L:=s) O Bq O fun c hc=>Ag ?_
 by_cases hl:s.length * 32≤Cf
 case neg=>rw [if_neg hl]; exact Acn
 rw [if_pos hl]
 refine L3 c O ?_
 cases c with
 | true=>
  have hs:=hc rfl
  subst hs
  refine Ad<|Ab<|Af .emp O As<|Ag<|Qk (a:=[]) (v:=.emp) (g:=0) Try.func53 hI O O .nil O
 | false=>
  refine Bj<|Ad<|Ab<|Ac4 O Bq D0<|Af (.sl 2 (List.map Ak s)) O Aa<|N1 (e:=Ak) (L:=[]) (L2:=s) (v:=.emp) (g:=0) (st:=2) (j:=0) hI O O O O .nil O (Ht O) Bq Bq O D0 O O O (by simpa using hl) fun v g H=>Af v O As ?_
  refine Ag<|Qk (a:=s) (v:=v) (g:=g) Try.func53 hI O O H O
theorem P5 (s:List Int):CPO Try.prog 54 [(.sl 1 (List.map (rI .i64) s))] (H0 s) 1 (rI .i64):=by
 refine Tj (n:=8) 0 Try.func54 O (by decide) O O fun h0 ids hI=>O9 (H0.eq_1 _)<|Ad<|Ab<|Af .emp O As<|Ag<|Ad ?_
 refine Ad<|Ab<|Af (.sl 1 (List.map (rI .i64) s)) O Aa<|Z7 (L:=s) O B3 O fun c hc=>Ag ?_
 by_cases hl:s.length * 8≤Cf
 case neg=>rw [if_neg hl]; exact Acn
 rw [if_pos hl]
 refine L3 c O ?_
 cases c with
 | true=>
  have hs:=hc rfl
  subst hs
  refine Ad<|Ab<|Af .emp O As<|Ag<|Qk (a:=[]) (v:=.emp) (g:=0) Try.func54 hI O O .nil O
 | false=>
  refine Bj<|Ad<|Ab<|Ac4 O B3 Av<|Af (.sl 1 (List.map (rI .i64) s)) O Aa<|N1 (e:=(rI .i64)) (L:=[]) (L2:=s) (v:=.emp) (g:=0) (st:=1) (j:=0) hI O O O O .nil O (Ht O) B3 B3 O Av O O O (by simpa using hl) fun v g H=>Af v O As ?_
  refine Ag<|Qk (a:=s) (v:=v) (g:=g) Try.func54 hI O O H O
theorem Lg (l:List Int)(h0:Ah)(o0:Nat)(o1:Nat)(v1:AV)(g:Nat)(vH:Bk v1 o0 g l.length)(hI0:Ids h0 [o0,o1] 2):D2 l≠.bad→Bm Try.prog 73 [v1] (hp h0 [o0,o1] [A5 v1 g 1 (List.map (rI .i64) l),none]) (Eg (fun a_ v h' => ∃ (g2:Nat),v=(.func (.func 93) [] [(.ptr o1 g2 0 0)])∧h'=hp h0 [o0,o1] [A5 v1 g 1 (List.map (rI .i64) l),some (.rows g2 1 [[v1]])]) h0 (D2 l)):=by
 refine Ci (n:=4) 0 Try.func73 O (by decide) O O hI0 O fun ids he hI=>?_
 clear hI0
 obtain rfl:ix ids 0=o0:=he 0 rfl
 obtain rfl:ix ids 1=o1:=he 1 rfl
 clear he
 refine B5 (A2 (D2.eq_1 _) ?_)
 refine Ad<|Ab<|Ai7 (j:=1) vH hI O O O O O fun g1=>Af .nilf O As<|Ag<|A4 ?_
 refine Ad<|Ab<|Aq 2 [] [(2,(.func (.func 93) [] [(.q ids 1 g1)]))] ?_
 refine Ag<|Fq (K:=2) (N:=0) (a:=()) (vs:=[(.func (.func 93) [] [(.q ids 1 g1)])]) [A5 v1 g 1 (List.map (rI .i64) l),some (.rows g1 1 [[v1]])] Try.func73 hI O O O (.keep (.keep .nil)) (.same _) ⟨g1,O,O⟩
theorem S4 {σ_:Type}(b:List Int)(b_:Int→σ_→R σ_)(St_:σ_→Ah→Prop)(y_:YF)(o_ g_:Nat)(hy_ : ∀ (a0_:Int),YOk Try.prog y_ o_ g_ [(.int .i64 a0_)] St_ (b_ a0_))(hnp_ : ∀ (a0_:Int) (s:σ_) (v:PV),b_ a0_ s≠.pan v)(s_:σ_)(hh_:Ah)(hs_:St_ s_ hh_):Iw b b_ s_≠.bad→Bm Try.prog 93 [(.yld y_ o_ g_),(.cp [(.sl 1 (List.map (rI .i64) b))] 0)] hh_ (Yb St_ (Iw b b_ s_)):=by
 refine Abe (n:=16) Try.func93 O (by decide) O O<|B5 (A2 (Iw.eq_1 _ _ _) ?_)
 refine Ad<|Ab<|Af (.sl 1 (List.map (rI .i64) b)) O (Aj (Ex B3 O))<|Af (.I (b.length:Int)) O (Bn (Bs B3))<|Af (.I 0) O Aa<|Ag<|By ?_
 refine Hi [(0,(.yld y_ o_ g_)),(5,(.sl 1 (List.map (rI .i64) b))),(6,(.I (b.length:Int))),(7,(.I 0))] (FI O)<|N4 (P:=Try.prog) b (fun _ a=>fun s=>E9 b_ a s) (((fun s=>.ok s)):σ_→R σ_) (fun j=>fun s=>fun(fr:Nat→AV) (h:Ah) => ∃ (hh:Ah),St_ s hh∧fr=Az [(0,(.yld y_ o_ g_)),(5,(.sl 1 (List.map (rI .i64) b))),(6,(.I (b.length:Int))),(7,(.I (j:Int)))]∧hh=h) s_ ?_ ?_ ?_
 ·exact⟨_,hs_,O,O⟩
 ·rintro j a ha W hW s fr h ⟨hh,vHs,rfl,rfl⟩
  refine A2 (m':=E9 b_ a s) O (A2 (E9.eq_1 _ _ _) ?_)
  refine Ad<|Ab<|Af (.bool (decide ((j:Int)<(b.length:Int)))) O (Bc O O O)<|Ag<|Ad<|Kj (t:=5) (L:=b) O fun hlim=>Hh O (Int.ofNat_lt.2 (B0 ha)) ?_
  refine Bj<|Ad<|By<|Ad<|Ab<|Af (.cp [(.I a)] 0) O (Bu (Kc B3 Av O ha))<|Af (.I a) O (Aj (Ex Av O)) ?_
  refine Af (.I a) O As<|Ag<|Ad<|Ab<|Af (.yld y_ o_ g_) O Aa<|Af (.I a) O Aa<|Aid (b:=b_ a) O O O vHs (hy_ a) (hnp_ a _) fun s1 hb hh1 vHs1=>?_
  refine Af (.bool false) O (Qc O)<|Ag<|L3 false O<|Bj<|B2<|Ab<|Af (.I (IntKind.wrap .i64 ((j:Int)+1))) O (Bc O O O) ?_
  refine Af (.I (IntKind.wrap .i64 ((j:Int)+1))) O Aa<|Ag<|Bl (Rg (hW s1 _ _ ⟨_,vHs1,O,O⟩)) (.cons O (.cons O (.cons O (.cons (Hm (B0 ha) hlim) .nil))))
 rintro s fr h ⟨hh,vHs,rfl,rfl⟩
 refine Ad<|Ab<|Af (.bool (decide ((b.length:Int)<(b.length:Int)))) O (Bc O O O)<|Ag<|Ad<|Hf O (Int.lt_irrefl _)<|Fs O ?_
 exact Ady Try.func93 O vHs
theorem W9 (l:List Int)(h0:Ah)(o0:Nat)(v:AV)(g:Nat)(hv:Bk v o0 g l.length)(hI0:Ids h0 [o0] 1):Ls l≠.bad→Bm Try.prog 92 [v] (hp h0 [o0] [A5 v g 1 (l.map (rI .i64))]) (Eg (fun a_ v' h'=>v'=(.tup [])∧h'=hp h0 [o0] [A5 v g 1 ((La l).map (rI .i64))]) h0 (Ls l)):=
 Aej hI0 (.mk Try.func92 rfl (by decide)) hv Go.Proofs.Try.slices_Sort_int Go.Proofs.Try.slices_Sort_int_none
theorem Qp (s:List Int)(h0:Ah)(o0:Nat)(o1:Nat)(g:Nat)(hI0:Ids h0 [o0,o1] 2):Gt s≠.bad→Bm Try.prog 95 [.emp,(.func (.func 93) [] [(.ptr o0 g 0 0)])] (hp h0 [o0,o1] [some (.rows g 1 [[(.sl 1 (List.map (rI .i64) s))]]),none]) (Eg (fun a_ v h' => ∃ (v4:AV),∃ (g4:Nat),Bk v4 o1 g4 a_.length∧v4=v∧h'=hp h0 [o0,o1] [none,A5 v4 g4 1 (List.map (rI .i64) a_)]) h0 (Gt s)):=by
 refine Ci (n:=13) 2 Try.func95 O (by decide) O O hI0 O fun ids he hI=>?_
 clear hI0
 obtain rfl:ix ids 0=o0:=he 0 rfl
 obtain rfl:ix ids 1=o1:=he 1 rfl
 clear he
 refine B5 (A2 (Gt.eq_1 _) ?_)
 refine A4 ?_
 refine Ad6<|Ad<|Ab<|Dk (v:=.emp) (j:=2) hI O O O O O O O fun g1=>Af .emp O As<|Ag<|A4 ?_
 refine Ad<|Ad<|Ab<|Af (.func (.func 93) [] [(.q ids 0 g)]) O Aa<|Ag<|By<|Ag4 (h2:=hp h0 ids [none,none,(some (.rows g1 1 [[.emp]])),none]) [(2,(.q ids 2 g1)),(6,(.func (.func 93) [] [(.cp [(.sl 1 (List.map (rI .i64) s))] 0)]))] (Drops.sub (.drop (.keep (.keep (.keep .nil)))) hI.len) (.cons (.same _) (.cons (.funcL .nil (.cons (.ptrL (hI.at O O) (hI.at O O) O (H9 _)) .nil)) .nil)) O O ?_
 refine Hi [(2,(.q ids 2 g1)),(6,(.func (.func 93) [] [(.cp [(.sl 1 (List.map (rI .i64) s))] 0)]))] (FI O)<|Ab5 (P:=Try.prog) 3 (fun(gL:Nat) (r_L:Loop)=>fun l=>fun(h1:Ah) => ∃ (v1:AV),∃ (g2:Nat),Bk v1 (ix ids 1) g2 l.length∧h1=hp h0 ids [none,(A5 v1 g2 1 (List.map (rI .i64) l)),(some (.rows g1 1 [[v1]])),(some (.blk gL (.loop r_L)))]:Nat→Loop→(List Int)→Ah→Prop) O O hI O O O fun gL y_L r_L hl_L hy_L=>⟨?_,?_,?_,?_⟩
 ·refine S4 s _ _ _ _ _ (fun a=>Afi hl_L (by decide) O hy_L ?_ ?_) (fun _ _ _=>R.np_ne _ _) _ _ ?_
  ·rintro l _ ⟨v1,g2,vH,rfl⟩
   exact hI.at O O
  ·rintro lo_ l _ ⟨v1,g2,vH,rfl⟩
   refine Aks (B5 (A2 (m':=Eu a l) O (A2 (Eu.eq_1 _ _) ?_)))
   refine Agk [(7,(.I a)),(2,(.q ids 2 g1)),(6,(.func (.func 93) [] [(.cp [(.sl 1 (List.map (rI .i64) s))] 0)]))] (Wd _ _ _)<|Ab<|Af (.I a) O As<|Ag<|Um hI O O O hl_L.ready<|A4 ?_
   refine By<|Ab<|Aq 2 [2] [(9,(.I a)),(8,v1)] ?_
   refine Wq (e:=(rI .i64)) (L:=[a]) (st:=1) (rows:=[[(.I a)]]) O B3 Av O O O O O (.cons (RowSim.refl _) .nil) (fun x=>Jb x) O O<|Pj fun hl=>N1 (e:=(rI .i64)) (L:=l) (L2:=[a]) (v:=v1) (g:=g2) (st:=1) (j:=1) hI O O O O vH O (Ht O) B3 B3 O Av O O O hl fun v2 g3 vH1=>Be (Cj vH1 hI O O O O B3 O O O)<|Ag<|A4 ?_
   refine B2<|Ahj (s:=(l++[a])) (jL:=3) hI O O O ⟨v2,g3,vH1,O⟩
  exact⟨.emp,0,.nil,O⟩
 ·rintro l _ ⟨v1,g2,vH,rfl⟩
  exact hI.at O O
 ·rintro l _ _ ⟨v1,g2,vH,rfl⟩
  refine Abk [none,(A5 v1 g2 1 (List.map (rI .i64) l)),(some (.rows g1 1 [[v1]])),none] hI O O O<|B2<|Ad<|Ab<|Aq 2 [2] [(4,v1)] ?_
  refine Ag<|Z6 (Qs (Ai6 (K:=2) (N:=2) (a:=l) (vs:=[v1]) [none,A5 v1 g2 1 (List.map (rI .i64) l)] Try.func95 hI O O O (.keep (.keep (.drop (.keep .nil)))) (.same _) ⟨v1,g2,vH,O,O⟩))
 rintro v3 _ l _ ⟨v1,g2,vH,rfl⟩
 refine Abh [none,(A5 v1 g2 1 (List.map (rI .i64) l)),(some (.rows g1 1 [[v1]])),none] hI O O O<|Qs (B4 (K:=2) (N:=2) Try.func95 hI)
theorem Rh (s:List Int)(h0:Ah)(o0:Nat)(o1:Nat)(g:Nat)(hI0:Ids h0 [o0,o1] 2):Fb s≠.bad→Bm Try.prog 91 [(.func (.func 93) [] [(.ptr o0 g 0 0)])] (hp h0 [o0,o1] [some (.rows g 1 [[(.sl 1 (List.map (rI .i64) s))]]),none]) (Eg (fun a_ v h' => ∃ (v2:AV),∃ (g2:Nat),Bk v2 o1 g2 a_.length∧v2=v∧h'=hp h0 [o0,o1] [none,A5 v2 g2 1 (List.map (rI .i64) a_)]) h0 (Fb s)):=by
 refine Ci (n:=5) 0 Try.func91 O (by decide) O O hI0 O fun ids he hI=>?_
 clear hI0
 obtain rfl:ix ids 0=o0:=he 0 rfl
 obtain rfl:ix ids 1=o1:=he 1 rfl
 clear he
 refine B5 (A2 (Fb.eq_1 _) ?_)
 refine Ad<|Ab<|Af .emp O As<|Ag<|Ad<|Ab<|Af (.func (.func 93) [] [(.q ids 0 g)]) O Aa ?_
 refine Cc [0,1] hI O O (Qp s _ (ix ids 0) (ix ids 1) g (by exact hI.sub' O O)) O O O O O O (fun v _=>B4 (K:=2) (N:=0) Try.func91 hI) ?_
 rintro r _ _ _ ⟨v1,g1,vH,rfl,rfl⟩
 refine Dt [0,1] hI O O O ?_
 refine Cs<|Af v1 O As<|Ag<|A4 ?_
 exact Fq (K:=2) (N:=0) (a:=r) (vs:=[v1]) [none,A5 v1 g1 1 (List.map (rI .i64) r)] Try.func91 hI O O O (.keep (.keep .nil)) (.same _) ⟨v1,g1,vH,O,O⟩
theorem Ka (s:List Int)(h0:Ah)(o0:Nat)(g:Nat)(hI0:Ids h0 [o0] 1):Dj s≠.bad→Bm Try.prog 72 [(.func (.func 93) [] [(.ptr o0 g 0 0)])] (hp h0 [o0] [some (.rows g 1 [[(.sl 1 (List.map (rI .i64) s))]])]) (Eg (fun a_ v h'=>v=(.sl 1 (List.map (rI .i64) a_))∧h'=hp h0 [o0] [none]) h0 (Dj s)):=by
 refine Ci (n:=9) 1 Try.func72 O (by decide) O O hI0 O fun ids he hI=>?_
 clear hI0
 obtain rfl:ix ids 0=o0:=he 0 rfl
 clear he
 refine B5 (A2 (Dj.eq_1 _) ?_)
 refine A4 ?_
 refine Ad<|Ab<|Af .emp O As<|Ag<|Ad<|Ab<|Af (.func (.func 93) [] [(.q ids 0 g)]) O Aa ?_
 refine Cc [0,1] hI O O (Rh s _ (ix ids 0) (ix ids 1) g (by exact hI.sub' O O)) O O O O O O (fun v _=>B4 (K:=1) (N:=1) Try.func72 hI) ?_
 rintro s1 _ _ _ ⟨v1,g1,vH,rfl,rfl⟩
 refine Dt [0,1] hI O O O ?_
 refine Cs<|Af v1 O As<|Ag<|A4 ?_
 refine Ad<|Ab<|Af v1 O Aa<|Cc [1] hI O O (W9 s1 _ (ix ids 1) v1 g1 vH (by exact hI.sub' O O)) O O O O O O (fun v _=>B4 (K:=1) (N:=1) Try.func72 hI) ?_
 rintro _ _ _ _ ⟨rfl,rfl⟩
 refine Dt [1] hI O O O ?_
 refine Cs<|Ag<|A4 ?_
 refine Ad<|Ab<|Aq 2 [] [(2,v1)] ?_
 refine Ag<|Fq (K:=1) (N:=1) (a:=(La s1)) (vs:=[v1]) [none] Try.func72 hI O O O (.keep (.drop .nil)) (Dz (Bk.sort vH) (hI.at O O) (hI.at O O) (fun x=>Jb x)) ⟨O,O⟩
theorem Rb (s0_ReplicaID:Int)(s0_ReplicaMany:Int)(s0_ReplicaTerm:Int)(s0_ReplicaVote:Int)(s0_ReplicaRole:Int)(s0_ReplicaCommit:Int)(s0_ReplicaVotes:List Bool)(l:List Record)(l1:List Int)(h0:Ah)(o0:Nat)(o1:Nat)(o2:Nat)(g:Nat)(v1:AV)(g1:Nat)(v2:AV)(g2:Nat)(vH:Bk v1 o1 g1 l.length)(vH1:Bk v2 o2 g2 l1.length)(hI0:Ids h0 [o0,o1,o2] 3):F3 s0_ReplicaID s0_ReplicaMany s0_ReplicaTerm s0_ReplicaVote s0_ReplicaRole s0_ReplicaCommit s0_ReplicaVotes l l1≠.bad→Bm Try.prog 55 [(.ptr o0 g 0 0)] (hp h0 [o0,o1,o2] [some (.rows g 10 [[(.int .i64 s0_ReplicaID),(.int .i64 s0_ReplicaMany),(.int .i64 s0_ReplicaTerm),(.int .i64 s0_ReplicaVote),v1,(.int .i64 s0_ReplicaRole),(.int .i64 s0_ReplicaCommit),(.sl 1 (List.map rB s0_ReplicaVotes)),v2,.emp]]),A5 v1 g1 2 (List.map Ak l),A5 v2 g2 1 (List.map (rI .i64) l1)]) (Eg (fun a_ v h' => ∃ (v4:AV),∃ (g5:Nat),Bk v4 o1 g5 a_.2.length∧v=(.tup [])∧h'=hp h0 [o0,o1,o2] [some (.rows g 10 [[(.int .i64 s0_ReplicaID),(.int .i64 s0_ReplicaMany),(.int .i64 s0_ReplicaTerm),(.int .i64 s0_ReplicaVote),v4,(.int .i64 s0_ReplicaRole),(.int .i64 a_.1),(.sl 1 (List.map rB s0_ReplicaVotes)),(.sl 1 (List.map (rI .i64) l1)),.emp]]),A5 v4 g5 2 (List.map Ak a_.2),none]) h0 (F3 s0_ReplicaID s0_ReplicaMany s0_ReplicaTerm s0_ReplicaVote s0_ReplicaRole s0_ReplicaCommit s0_ReplicaVotes l l1)):=by
 refine Ci (n:=48) 1 Try.func55 O (by decide) O O hI0 O fun ids he hI=>?_
 clear hI0
 obtain rfl:ix ids 0=o0:=he 0 rfl
 obtain rfl:ix ids 1=o1:=he 1 rfl
 obtain rfl:ix ids 2=o2:=he 2 rfl
 clear he
 refine B5 (A2 (F3.eq_1 _ _ _ _ _ _ _ _ _) ?_)
 refine A4 ?_
 refine Ad<|Ab<|Aq 5 [0] [(8,v2)] ?_
 refine Cc [2,3] hI O O (Lg l1 _ (ix ids 2) (ix ids 3) v2 g2 vH1 (by exact hI.sub' O O)) O O O O O O (fun v _=>B4 (K:=3) (N:=1) Try.func55 hI) ?_
 rintro _ _ _ _ ⟨g3,rfl,rfl⟩
 refine Dt [2,3] hI O O O ?_
 refine Cs<|Aeu [(some (.rows g 10 [[(.I s0_ReplicaID),(.I s0_ReplicaMany),(.I s0_ReplicaTerm),(.I s0_ReplicaVote),v1,(.I s0_ReplicaRole),(.I s0_ReplicaCommit),(.sl 1 (List.map rB s0_ReplicaVotes)),(.sl 1 (List.map (rI .i64) l1)),.emp]])),(A5 v1 g1 2 (List.map Ak l)),none,(some (.rows g3 1 [[(.sl 1 (List.map (rI .i64) l1))]]))] [(0,(.q ids 0 g)),(9,(.func (.func 93) [] [(.q ids 3 g3)]))] hI O (.fz (.cons (.same _) (.cons (.same _) (.cons (.same _) (.cons (.same _) (.cons (.same _) (.cons (.same _) (.cons (.same _) (.cons (.same _) (.cons (Dz vH1 (hI.at O O) (hI.at O O) (fun x=>Jb x)) (.cons (.same _) .nil)))))))))) O (Aw O (Aw O (Aw O (Aw O (Aw (Bk.flat vH) (Aw O (Aw O (Aw O (Aw O (Aw O Gn)))))))))) (.keep (.drop (.fz (.cons (Dz vH1 (hI.at O O) (hI.at O O) (fun x=>Jb x)) .nil) O O .nil)))) (.cons (.same _) (.cons (.same _) .nil))<|Cc [3] hI O O (Ka l1 _ (ix ids 3) g3 (by exact hI.sub' O O)) O O O O O O (fun v _=>B4 (K:=3) (N:=1) Try.func55 hI) ?_
 rintro l2 _ _ _ ⟨rfl,rfl⟩
 refine Dt [3] hI O O O ?_
 refine Cs<|Af (.sl 1 (List.map (rI .i64) l2)) O As<|Ag<|A4 ?_
 refine Ad<|Ab<|Aq 2 [] [(12,(.sl 1 (List.map (rI .i64) l2))),(11,(.sl 1 (List.map (rI .i64) l2)))] ?_
 refine Af (.I (l2.length:Int)) O (Bn (Bs B3))<|Af (.I (IntKind.wrap .i64 ((l2.length:Int) - 1))) O (Bc O O O)<|Af (.I (IntKind.wrap .i64 (Int.tdiv (IntKind.wrap .i64 ((l2.length:Int) - 1)) 2))) O (Bc O O (Z3 O (by decide)))<|Jn fun a hz hx1=>Af (.cp [(.I a)] 0) O (Bu (G0 B3 Av O hz hx1))<|Aq 2 [] [(3,(.I a))] ?_
 refine Ag<|Ad<|Em (Fr fun x l3=>Fc s0_ReplicaCommit a x l3) (Fr fun x l3=>fun(fr:Nat→AV) (h:Ah) => ∃ (v3:AV),∃ (g4:Nat),Bk v3 (ix ids 1) g4 l3.length∧fr=Az [(0,(.q ids 0 g)),(3,(.I a)),(42,(.bool x))]∧h=hp h0 ids [(some (.rows g 10 [[(.I s0_ReplicaID),(.I s0_ReplicaMany),(.I s0_ReplicaTerm),(.I s0_ReplicaVote),v3,(.I s0_ReplicaRole),(.I s0_ReplicaCommit),(.sl 1 (List.map rB s0_ReplicaVotes)),(.sl 1 (List.map (rI .i64) l1)),.emp]])),(A5 v3 g4 2 (List.map Ak l3)),none,none]) ?_ fun hJ=>?_
 ·rintro⟨x,l3⟩ fr h ⟨v3,g4,vH2,rfl,rfl⟩
  refine A2 (Fc.eq_1 _ _ _ _)<|Dh O (fun hc=>?_) (fun hc=>?_)
  ·refine Ab<|Aq 5 [] [(47,(.ptr (ix ids 0) g 0 6)),(44,(.I a))] ?_
   refine Be (A8 (v:=(.I a)) hI O O O O Av O O O O O)<|Ag<|A4 ?_
   exact E1 (K:=3) (N:=1) (a:=(a,l3)) (vs:=[]) [some (.rows g 10 [[(.I s0_ReplicaID),(.I s0_ReplicaMany),(.I s0_ReplicaTerm),(.I s0_ReplicaVote),v3,(.I s0_ReplicaRole),(.I a),(.sl 1 (List.map rB s0_ReplicaVotes)),(.sl 1 (List.map (rI .i64) l1)),.emp]]),A5 v3 g4 2 (List.map Ak l3),none] Try.func55 hI O O O (.keep (.keep (.keep (.keep .nil)))) (.same _) ⟨v3,g4,vH2,O,O⟩
  refine Bj<|E1 (K:=3) (N:=1) (a:=(s0_ReplicaCommit,l3)) (vs:=[]) [some (.rows g 10 [[(.I s0_ReplicaID),(.I s0_ReplicaMany),(.I s0_ReplicaTerm),(.I s0_ReplicaVote),v3,(.I s0_ReplicaRole),(.I s0_ReplicaCommit),(.sl 1 (List.map rB s0_ReplicaVotes)),(.sl 1 (List.map (rI .i64) l1)),.emp]]),A5 v3 g4 2 (List.map Ak l3),none] Try.func55 hI O O O (.keep (.keep (.keep (.keep .nil)))) (.same _) ⟨v3,g4,vH2,O,O⟩
 refine Bx Dd [[],[],[1],[1,2],[1,2,3],[1,2,3,4],[0,1,2,3,4,5],[0,1,2,3,4,5,6],[0,1,2,3,4,5,6,7],[0,1,2,3,4,5,6,7,8],[0,1,2,3,4,5,6,7,8,9],[0,1,2,3,4,5,6,7,8,9,10],[0,1,2,3,4,5,6,7,8,9,10,11],[0,1,2,3,4,5,6,7],[0,1,2,3,4,5,6,7,13],[0,1,2,3,4,5,6,7,8,9,10,11,12,13,14],[0,1,2,3,4,5,6,7,8,9,10,11,12,13,14,15],[0,1,2,3,4,5,6,7,8,9,10,11,12,13,14,15,16],[0,1,2,3,4,5,6,7],[0,1,2,3,4,5,6,7,18],[0,1,2,3,4,5,6,7,18,19],[0,1,2,3,4,5,6,7,18,19,20],[0,1,2,3,4,5,6,7,18,19,20,21],[0,1,2,3,4,5,6,7,8,9,10,11,12,13,14,15,16,17,18,19,20,21,22],[0,1,2,3,4,5,6,7,8,9,10,11,12,13,14,15,16,17,18,19,20,21,22,23]] [(false,0),(false,1),(false,2),(false,3),(false,4),(false,5),(false,6),(false,7),(false,8),(false,9),(false,10),(false,11),(false,12),(false,13),(false,14),(false,15),(false,16),(false,17),(false,18),(false,19),(false,20),(false,21),(false,22),(false,23),(false,24)] (by kernel_rfl)<|Z (.I a) O O Aa<|Z (.q ids 0 g) O O Aa<|Z (.q ids 0 g) O O (Al O)<|Z (.q ids 0 g) O O (Ai (Ae (c:=0) (off:=0) (i:=0) A6 O Ar O))<|Z (.ptr (ix ids 0) g 0 6) O O (Ai (Ae (c:=0) (off:=6) (i:=6) Ar O Av O))<|Z (.I s0_ReplicaCommit) O O (Aj (Ao hI O O O Av O)) ?_
 refine Z (.bool (decide (a > s0_ReplicaCommit))) O O (Bc O O O)<|Z (.bool (decide (a > s0_ReplicaCommit))) O O Aa<|Gw (fun hb=>?_) (fun hb=>?_)
 ·refine A0 (tj:=25) (.q ids 0 g) O O (congrArg AV.bool hb) O Aa<|A0 (tj:=25) (.q ids 0 g) O O (congrArg AV.bool hb) O (Al O)<|A0 (tj:=25) (.q ids 0 g) O O (congrArg AV.bool hb) O (Ai (Ae (c:=0) (off:=0) (i:=0) A6 O Ar O))<|A0 (tj:=25) (.ptr (ix ids 0) g 0 4) O O (congrArg AV.bool hb) O (Ai (Ae (c:=0) (off:=4) (i:=4) Ar O Bq O))<|A0 (tj:=25) v1 O O (congrArg AV.bool hb) O (Aj (Ao hI O O O Bq O))<|A0 (tj:=25) (.I a) O O (congrArg AV.bool hb) O Aa<|A0 (tj:=25) (.I (IntKind.wrap .i64 (a - 1))) O O (congrArg AV.bool hb) O (Bc O O O) ?_
  refine Iq fun a1 hz1 hx2=>A0 (tj:=25) (.ptr (ix ids 1) g1 (IntKind.wrap .i64 (a - 1)).toNat 0) O O (congrArg AV.bool hb) O (Bu (Oa hI O vH O Bq D0 O hz1 hx2))<|A0 (tj:=25) (.ptr (ix ids 1) g1 (IntKind.wrap .i64 (a - 1)).toNat 0) O O (congrArg AV.bool hb) O (Ai (Ae (c:=0) (off:=0) (i:=0) D0 O Av O))<|A0 (tj:=25) (.I a1.Term) O O (congrArg AV.bool hb) O (Aj (Ac3 hI O vH O hx2 Av O))<|A0 (tj:=25) (.q ids 0 g) O O (congrArg AV.bool hb) O Aa<|A0 (tj:=25) (.q ids 0 g) O O (congrArg AV.bool hb) O (Al O)<|A0 (tj:=25) (.q ids 0 g) O O (congrArg AV.bool hb) O (Ai (Ae (c:=0) (off:=0) (i:=0) A6 O Ar O)) ?_
  refine A0 (tj:=25) (.ptr (ix ids 0) g 0 2) O O (congrArg AV.bool hb) O (Ai (Ae (c:=0) (off:=2) (i:=2) Ar O Av O))<|A0 (tj:=25) (.I s0_ReplicaTerm) O O (congrArg AV.bool hb) O (Aj (Ao hI O O O Av O))<|A0 (tj:=25) (.bool (a1.Term==s0_ReplicaTerm)) O O (congrArg AV.bool hb) O (Bc O O O)<|Z (.bool (a1.Term==s0_ReplicaTerm)) O O (Bo (t:=true) (congrArg AV.bool hb) O)<|A9<|Bl (hJ ((a1.Term==s0_ReplicaTerm),l) _ _ ⟨v1,g1,vH,O,O⟩)
 refine Ax (tj:=25) (b:=false) O O (congrArg AV.bool hb) O O<|Ax (tj:=25) (b:=false) O O (congrArg AV.bool hb) O O<|Ax (tj:=25) (b:=false) O O (congrArg AV.bool hb) O O<|Ax (tj:=25) (b:=false) O O (congrArg AV.bool hb) O O<|Ax (tj:=25) (b:=false) O O (congrArg AV.bool hb) O O<|Ax (tj:=25) (b:=false) O O (congrArg AV.bool hb) O O<|Ax (tj:=25) (b:=false) O O (congrArg AV.bool hb) O O ?_
 refine Ax (tj:=25) (b:=false) O O (congrArg AV.bool hb) O O<|Ax (tj:=25) (b:=false) O O (congrArg AV.bool hb) O O<|Ax (tj:=25) (b:=false) O O (congrArg AV.bool hb) O O<|Ax (tj:=25) (b:=false) O O (congrArg AV.bool hb) O O<|Ax (tj:=25) (b:=false) O O (congrArg AV.bool hb) O O<|Ax (tj:=25) (b:=false) O O (congrArg AV.bool hb) O O<|Ax (tj:=25) (b:=false) O O (congrArg AV.bool hb) O O ?_
 refine Ax (tj:=25) (b:=false) O O (congrArg AV.bool hb) O O<|Ax (tj:=25) (b:=false) O O (congrArg AV.bool hb) O O<|Z (.bool false) O O (Bo (t:=false) (congrArg AV.bool hb) O)<|A9<|Bl (hJ (false,l) _ _ ⟨v1,g1,vH,O,O⟩)
theorem S3 (vto:Int)(m:Message)(s0_Replica:Replica)(l:List Message)(h0:Ah)(o0:Nat)(o1:Nat)(g:Nat)(v1:AV)(g1:Nat)(vH:Bk v1 o1 g1 l.length)(hI0:Ids h0 [o0,o1] 2):J8 vto m s0_Replica l≠.bad→Bm Try.prog 69 [(.ptr o0 g 0 0),(.int .i64 vto),(.agg (An m))] (hp h0 [o0,o1] [some (.rows g 10 [[(.int .i64 s0_Replica.ID),(.int .i64 s0_Replica.Many),(.int .i64 s0_Replica.Term),(.int .i64 s0_Replica.Vote),(.sl 2 (List.map Ak s0_Replica.Log)),(.int .i64 s0_Replica.Role),(.int .i64 s0_Replica.Commit),(.sl 1 (List.map rB s0_Replica.Votes)),(.sl 1 (List.map (rI .i64) s0_Replica.Match)),v1]]),A5 v1 g1 10 (List.map An l)]) (Eg (fun a_ v h' => ∃ (v3:AV),∃ (g4:Nat),Bk v3 o1 g4 a_.length∧v=(.tup [])∧h'=hp h0 [o0,o1] [some (.rows g 10 [[(.int .i64 s0_Replica.ID),(.int .i64 s0_Replica.Many),(.int .i64 s0_Replica.Term),(.int .i64 s0_Replica.Vote),(.sl 2 (List.map Ak s0_Replica.Log)),(.int .i64 s0_Replica.Role),(.int .i64 s0_Replica.Commit),(.sl 1 (List.map rB s0_Replica.Votes)),(.sl 1 (List.map (rI .i64) s0_Replica.Match)),v3]]),A5 v3 g4 10 (List.map An a_)]) h0 (J8 vto m s0_Replica l)):=by
 refine Ci (n:=30) 1 Try.func69 O (by decide) O O hI0 O fun ids he hI=>?_
 clear hI0
 obtain rfl:ix ids 0=o0:=he 0 rfl
 obtain rfl:ix ids 1=o1:=he 1 rfl
 clear he
 refine B5 (A2 (J8.eq_1 _ _ _ _) ?_)
 refine A4 ?_
 refine Ad<|Ab<|Dk (v:=(.agg (An m))) (j:=2) hI O O O O O O O fun g2=>Ag<|A4 ?_
 refine Ad<|Bx Dd [[],[0],[0,1],[0,1,2],[0,1,2,3],[],[],[6],[6,7],[6,7,8],[6,7,8,9],[0,1,2,3,4],[0,1,2,3,4,4,11],[0,1,2,3,4,5,11,12],[0,1,2,3,4,5,5,11,12,12,13],[0,1,2,3,4,5,6,7,8,9,10,11,12,13,14],[0,1,2,3,4,5,6,7,8,9,10,10,11,12,13,14,14,15]] [(false,0),(false,1),(false,2),(false,3),(false,4),(false,5),(false,6),(false,7),(false,8),(false,9),(false,10),(false,11),(true,12),(false,13),(true,14),(false,15),(true,16)] (by kernel_rfl)<|Z (.q ids 0 g) O O Aa<|Z (.q ids 0 g) O O (Al O)<|Z (.q ids 0 g) O O (Ai (Ae (c:=0) (off:=0) (i:=0) A6 O Ar O))<|Z (.q ids 0 g) O O (Ai (Ae (c:=0) (off:=0) (i:=0) Ar O Av O))<|Z (.I s0_Replica.ID) O O (Aj (Ao hI O O O Av O)) ?_
 refine Z (.I vto) O O Aa<|Z (.q ids 0 g) O O Aa<|Z (.q ids 0 g) O O (Al O)<|Z (.q ids 0 g) O O (Ai (Ae (c:=0) (off:=0) (i:=0) A6 O Ar O))<|Z (.ptr (ix ids 0) g 0 2) O O (Ai (Ae (c:=0) (off:=2) (i:=2) Ar O Av O))<|Z (.I s0_Replica.Term) O O (Aj (Ao hI O O O Av O))<|Z (.ptr (ix ids 2) g2 0 1) O O (Ai (Ae (c:=0) (off:=1) (i:=1) Bp O Av O)) ?_
 refine Bb O (fun _ _=>O) (fun K hK=>A3 (A8 (v:=(.I s0_Replica.ID)) hI O O O O Av O O O O O) (hK _ _ (Y O (Ac O (Aj (Ao hI O O O Av O)) (Ac O (Ai (Ae (c:=0) (off:=2) (i:=2) Ar O Av O)) (Ac O (Ai (Ae (c:=0) (off:=0) (i:=0) A6 O Ar O)) (Ac O (Al O) (Ac O Aa (Ac O Aa (Y O (Y O (Y O (Y O (Y O Ap)))))))))))) ?_))
 clear hK K
 refine Z (.ptr (ix ids 2) g2 0 2) O O (Ai (Ae (c:=0) (off:=2) (i:=2) Bp O Av O))<|Bb O (fun _ _=>O) (fun K hK=>A3 (A8 (v:=(.I vto)) hI O O O O Av O O O O O) (hK _ _ (Y O (Y O (Ac O (Aj (Ao hI O O O Av O)) (Ac O (Ai (Ae (c:=0) (off:=2) (i:=2) Ar O Av O)) (Ac O (Ai (Ae (c:=0) (off:=0) (i:=0) A6 O Ar O)) (Ac O (Al O) (Ac O Aa (Y O (Y O (Y O (Y O (Y O (Y O Ap))))))))))))) ?_))
 clear hK K
 refine Z (.ptr (ix ids 2) g2 0 3) O O (Ai (Ae (c:=0) (off:=3) (i:=3) Bp O Av O))<|Bb O (fun _ _=>O) (fun K hK=>A3 (A8 (v:=(.I s0_Replica.Term)) hI O O O O Av O O O O O) (hK _ _ (Y O (Y O (Y O (Y O (Y O (Y O (Y O (Y O (Y O (Y O (Y O (Y O (Y O (Y O Ap)))))))))))))) ?_))
 clear hK K
 refine A9<|A4 ?_
 refine Bx Dd [[],[],[1],[1,2],[1,2,3],[],[5],[1,2,3,4,5,6],[0,0,1,2,3,4,5,6,7],[0,1,2,3,4,5,6,7,8],[0,1,2,3,4,5,6,7,8,9]] [(false,0),(false,1),(false,2),(false,3),(false,4),(false,5),(true,6),(true,7),(false,8),(false,9),(true,10)] (by kernel_rfl)<|Z (.q ids 0 g) O O Aa<|Z (.q ids 0 g) O O Aa<|Z (.q ids 0 g) O O (Al O)<|Z (.ptr (ix ids 0) g 0 9) O O (Ai (Ae (c:=0) (off:=9) (i:=1) A6 O Cp O))<|Z v1 O O (Aj (Ao hI O O O Cp O))<|Z (.agg [(.I m.Kind),(.I s0_Replica.ID),(.I vto),(.I s0_Replica.Term),(.I m.Last),(.I m.LastTerm),(.sl 2 (List.map Ak m.Log)),(.I m.Commit),(.I m.Match),(.bool m.Granted)]) O O (Aj (Ao hI O O O Bp O)) ?_
 refine Cn O O (fun _ _=>O) (fun K hK=>Ic (e:=An) (L:=[({ Kind:=m.Kind,From:=s0_Replica.ID,To:=vto,Term:=s0_Replica.Term,Last:=m.Last,LastTerm:=m.LastTerm,Log:=m.Log,Commit:=m.Commit,Match:=m.Match,Granted:=m.Granted }:Message)]) (st:=10) (rows:=[[(.I m.Kind),(.I s0_Replica.ID),(.I vto),(.I s0_Replica.Term),(.I m.Last),(.I m.LastTerm),(.sl 2 (List.map Ak m.Log)),(.I m.Commit),(.I m.Match),(.bool m.Granted)]]) Cp Bp O O O O O (.cons (.cons (.same _) (.cons (.same _) (.cons (.same _) (.cons (.same _) (.cons (.same _) (.cons (.same _) (.cons (.same _) (.cons (.same _) (.cons (.same _) (.cons (.same _) .nil)))))))))) .nil) (fun x=>Hx x) O O (hK _ _ (Y O (Ac O (Aj (Ao hI O O O Cp O)) (Ac O (Ai (Ae (c:=0) (off:=9) (i:=1) A6 O Cp O)) (Ac O (Al O) (Ac O Aa (Ac O Aa Ap)))))) ?_))
 clear hK K
 refine Cb fun hl=>Cn O O (fun _ _=>O) (fun K hK=>Fo (e:=An) (L:=l) (L2:=[({ Kind:=m.Kind,From:=s0_Replica.ID,To:=vto,Term:=s0_Replica.Term,Last:=m.Last,LastTerm:=m.LastTerm,Log:=m.Log,Commit:=m.Commit,Match:=m.Match,Granted:=m.Granted }:Message)]) (v:=v1) (g:=g1) (st:=10) (j:=1) hI O O O vH O (Ht O) Cp Cp O Bp O O O hl fun v2 g3 vH1=>hK _ _ (Y O (Y O (Y O (Y O (Y O (Ac O Aa Ap)))))) ?_)
 clear hK K
 refine Z (.q ids 0 g) O O (Al O)<|Z (.ptr (ix ids 0) g 0 9) O O (Ai (Ae (c:=0) (off:=9) (i:=1) A6 O Cp O))<|Bb O (fun _ _=>O) (fun K hK=>A3 (Cj vH1 hI O O O O Cp O O O) (hK _ _ (Y O (Y O (Y O (Y O (Y O (Y O (Y O (Y O Ap)))))))) ?_))
 clear hK K
 refine A9<|A4 ?_
 exact E1 (K:=2) (N:=1) (a:=(l++[({ Kind:=m.Kind,From:=s0_Replica.ID,To:=vto,Term:=s0_Replica.Term,Last:=m.Last,LastTerm:=m.LastTerm,Log:=m.Log,Commit:=m.Commit,Match:=m.Match,Granted:=m.Granted }:Message)])) (vs:=[]) [some (.rows g 10 [[(.I s0_Replica.ID),(.I s0_Replica.Many),(.I s0_Replica.Term),(.I s0_Replica.Vote),(.sl 2 (List.map Ak s0_Replica.Log)),(.I s0_Replica.Role),(.I s0_Replica.Commit),(.sl 1 (List.map rB s0_Replica.Votes)),(.sl 1 (List.map (rI .i64) s0_Replica.Match)),v2]]),A5 v2 g3 10 (List.map An (l++[({ Kind:=m.Kind,From:=s0_Replica.ID,To:=vto,Term:=s0_Replica.Term,Last:=m.Last,LastTerm:=m.LastTerm,Log:=m.Log,Commit:=m.Commit,Match:=m.Match,Granted:=m.Granted }:Message)]))] Try.func69 hI O O O (.keep (.keep (.drop .nil))) (.same _) ⟨v2,g3,vH1,O,O⟩
theorem T4 (m:Message)(s_Replica:Replica)(h0:Ah)(o0:Nat)(o1:Nat)(g:Nat)(hI0:Ids h0 [o0,o1] 2):Hk m s_Replica≠.bad→Bm Try.prog 58 [(.ptr o0 g 0 0),(.agg (An m))] (hp h0 [o0,o1] [some (.rows g 10 [[(.int .i64 s_Replica.ID),(.int .i64 s_Replica.Many),(.int .i64 s_Replica.Term),(.int .i64 s_Replica.Vote),(.sl 2 (List.map Ak s_Replica.Log)),(.int .i64 s_Replica.Role),(.int .i64 s_Replica.Commit),(.sl 1 (List.map rB s_Replica.Votes)),(.sl 1 (List.map (rI .i64) s_Replica.Match)),.emp]]),none]) (Eg (fun a_ v h' => ∃ (v4:AV),∃ (g5:Nat),Bk v4 o1 g5 a_.length∧v=(.tup [])∧h'=hp h0 [o0,o1] [some (.rows g 10 [[(.int .i64 s_Replica.ID),(.int .i64 s_Replica.Many),(.int .i64 s_Replica.Term),(.int .i64 s_Replica.Vote),(.sl 2 (List.map Ak s_Replica.Log)),(.int .i64 s_Replica.Role),(.int .i64 s_Replica.Commit),(.sl 1 (List.map rB s_Replica.Votes)),(.sl 1 (List.map (rI .i64) s_Replica.Match)),v4]]),A5 v4 g5 10 (List.map An a_)]) h0 (Hk m s_Replica)):=by
 refine Ci (n:=25) 1 Try.func58 O (by decide) O O hI0 O fun ids he hI=>?_
 clear hI0
 obtain rfl:ix ids 0=o0:=he 0 rfl
 obtain rfl:ix ids 1=o1:=he 1 rfl
 clear he
 refine B5 (A2 (Hk.eq_1 _ _) ?_)
 refine A4 ?_
 refine Ad<|Ab<|Dk (v:=(.agg (An m))) (j:=2) hI O O O O O O O fun g1=>Ag<|A4 ?_
 refine Ad<|Ab<|Aq 6 [0] [(10,(.I 0)),(9,(.I s_Replica.Many))] ?_
 refine Ag<|Em (fun l1=>Hs l1) (fun l1=>fun(fr:Nat→AV) (h:Ah) => ∃ (v3:AV),∃ (g4:Nat),Bk v3 (ix ids 1) g4 l1.length∧fr=Az []∧h=hp h0 ids [(some (.rows g 10 [[(.I s_Replica.ID),(.I s_Replica.Many),(.I s_Replica.Term),(.I s_Replica.Vote),(.sl 2 (List.map Ak s_Replica.Log)),(.I s_Replica.Role),(.I s_Replica.Commit),(.sl 1 (List.map rB s_Replica.Votes)),(.sl 1 (List.map (rI .i64) s_Replica.Match)),v3]])),(A5 v3 g4 10 (List.map An l1)),none]) ?_ fun hJ=>?_
 ·rintro l1 fr h ⟨v3,g4,vH2,rfl,rfl⟩
  refine A2 (Hs.eq_1 _)<|E1 (K:=2) (N:=1) (a:=l1) (vs:=[]) [some (.rows g 10 [[(.I s_Replica.ID),(.I s_Replica.Many),(.I s_Replica.Term),(.I s_Replica.Vote),(.sl 2 (List.map Ak s_Replica.Log)),(.I s_Replica.Role),(.I s_Replica.Commit),(.sl 1 (List.map rB s_Replica.Votes)),(.sl 1 (List.map (rI .i64) s_Replica.Match)),v3]]),A5 v3 g4 10 (List.map An l1)] Try.func58 hI O O O (.keep (.keep (.keep .nil))) (.same _) ⟨v3,g4,vH2,O,O⟩
 refine By<|Hi [(0,(.q ids 0 g)),(3,(.q ids 2 g1)),(9,(.I s_Replica.Many)),(10,(.I 0))] (FI O)<|Pf (P:=Try.prog) (Fr fun x l=>Hv m s_Replica x l) ((fun l1=>Hs l1):(List Message)→R (List Message)) (Fr fun x l=>fun(fr:Nat→AV) (h:Ah) => ∃ (v1:AV),∃ (g2:Nat),Bk v1 (ix ids 1) g2 l.length∧fr=Az [(0,(.q ids 0 g)),(3,(.q ids 2 g1)),(9,(.I s_Replica.Many)),(10,(.I x))]∧h=hp h0 ids [(some (.rows g 10 [[(.I s_Replica.ID),(.I s_Replica.Many),(.I s_Replica.Term),(.I s_Replica.Vote),(.sl 2 (List.map Ak s_Replica.Log)),(.I s_Replica.Role),(.I s_Replica.Commit),(.sl 1 (List.map rB s_Replica.Votes)),(.sl 1 (List.map (rI .i64) s_Replica.Match)),v1]])),(A5 v1 g2 10 (List.map An l)),(some (.rows g1 10 [(An m)]))]) (0,[]) ?_ ?_
 ·exact⟨.emp,0,.nil,O,O⟩
 rintro vW hW ⟨x,l⟩ fr h ⟨v1,g2,vH,rfl,rfl⟩
 refine A2 (m':=Hv m s_Replica x l) O (A2 (Hv.eq_1 _ _ _ _) ?_)
 refine Ad<|Ab<|Af (.bool (decide (x<s_Replica.Many))) O (Bc O O O)<|Ag<|Ad<|Jl O (fun hc=>?_) (fun hc=>?_)
 ·refine Bj<|Ad<|By<|Ad<|Ab<|Aq 2 [] [(4,(.I x))] ?_
  refine Ag<|Ad<|Ab<|Aq 7 [0] [(19,(.bool (x != s_Replica.ID)))] ?_
  refine Ag<|Dh O (fun hc1=>?_) (fun hc1=>?_)
  ·refine Ab<|Aq 3 [2] [(22,(.agg (An m))),(21,(.I x)),(20,(.q ids 0 g))] ?_
   refine Cc [0,1] hI O O (S3 x m s_Replica l _ (ix ids 0) (ix ids 1) g v1 g2 vH (by exact hI.sub' O O)) O O O O O O (fun v _=>B4 (K:=2) (N:=1) Try.func58 hI) ?_
   rintro r _ _ _ ⟨v2,g3,vH1,rfl,rfl⟩
   refine Dt [0,1] hI O O O ?_
   refine Cs<|Ag<|A4 ?_
   refine B2<|Ab<|Aq 2 [] [(10,(.I (IntKind.wrap .i64 (x+1))))] ?_
   refine Ag<|Bl (Nc (hW ((IntKind.wrap .i64 (x+1)),r) _ _ ⟨v2,g3,vH1,O,O⟩))
  refine Bj<|B2<|Ab<|Aq 2 [] [(10,(.I (IntKind.wrap .i64 (x+1))))] ?_
  refine Ag<|Bl (Nc (hW ((IntKind.wrap .i64 (x+1)),l) _ _ ⟨v1,g2,vH,O,O⟩))
 refine Fs O<|Pi<|E3 [(some (.rows g 10 [[(.I s_Replica.ID),(.I s_Replica.Many),(.I s_Replica.Term),(.I s_Replica.Vote),(.sl 2 (List.map Ak s_Replica.Log)),(.I s_Replica.Role),(.I s_Replica.Commit),(.sl 1 (List.map rB s_Replica.Votes)),(.sl 1 (List.map (rI .i64) s_Replica.Match)),v1]])),(A5 v1 g2 10 (List.map An l)),none] hI O (.keep (.keep (.drop .nil)))<|Bl (hJ l _ _ ⟨v1,g2,vH,O,O⟩)
theorem S5 (s0_ReplicaID:Int)(s0_ReplicaMany:Int)(s0_ReplicaTerm:Int)(s0_ReplicaVote:Int)(s0_ReplicaRole:Int)(s0_ReplicaCommit:Int)(s0_ReplicaVotes:List Bool)(s0_ReplicaMatch:List Int)(l:List Record)(h0:Ah)(o0:Nat)(o1:Nat)(o2:Nat)(g:Nat)(v1:AV)(g1:Nat)(vH:Bk v1 o1 g1 l.length)(hI0:Ids h0 [o0,o1,o2] 3):G8 s0_ReplicaID s0_ReplicaMany s0_ReplicaTerm s0_ReplicaVote s0_ReplicaRole s0_ReplicaCommit s0_ReplicaVotes s0_ReplicaMatch l≠.bad→Bm Try.prog 56 [(.ptr o0 g 0 0)] (hp h0 [o0,o1,o2] [some (.rows g 10 [[(.int .i64 s0_ReplicaID),(.int .i64 s0_ReplicaMany),(.int .i64 s0_ReplicaTerm),(.int .i64 s0_ReplicaVote),v1,(.int .i64 s0_ReplicaRole),(.int .i64 s0_ReplicaCommit),(.sl 1 (List.map rB s0_ReplicaVotes)),(.sl 1 (List.map (rI .i64) s0_ReplicaMatch)),.emp]]),A5 v1 g1 2 (List.map Ak l),none]) (Eg (fun a_ v h' => ∃ (v3:AV),∃ (g3:Nat),Bk v3 o2 g3 a_.length∧v=(.tup [])∧h'=hp h0 [o0,o1,o2] [some (.rows g 10 [[(.int .i64 ({ ID:=s0_ReplicaID,Many:=s0_ReplicaMany,Term:=s0_ReplicaTerm,Vote:=s0_ReplicaVote,Log:=l,Role:=s0_ReplicaRole,Commit:=s0_ReplicaCommit,Votes:=s0_ReplicaVotes,Match:=s0_ReplicaMatch }:Replica).ID),(.int .i64 ({ ID:=s0_ReplicaID,Many:=s0_ReplicaMany,Term:=s0_ReplicaTerm,Vote:=s0_ReplicaVote,Log:=l,Role:=s0_ReplicaRole,Commit:=s0_ReplicaCommit,Votes:=s0_ReplicaVotes,Match:=s0_ReplicaMatch }:Replica).Many),(.int .i64 ({ ID:=s0_ReplicaID,Many:=s0_ReplicaMany,Term:=s0_ReplicaTerm,Vote:=s0_ReplicaVote,Log:=l,Role:=s0_ReplicaRole,Commit:=s0_ReplicaCommit,Votes:=s0_ReplicaVotes,Match:=s0_ReplicaMatch }:Replica).Term),(.int .i64 ({ ID:=s0_ReplicaID,Many:=s0_ReplicaMany,Term:=s0_ReplicaTerm,Vote:=s0_ReplicaVote,Log:=l,Role:=s0_ReplicaRole,Commit:=s0_ReplicaCommit,Votes:=s0_ReplicaVotes,Match:=s0_ReplicaMatch }:Replica).Vote),(.sl 2 (List.map Ak ({ ID:=s0_ReplicaID,Many:=s0_ReplicaMany,Term:=s0_ReplicaTerm,Vote:=s0_ReplicaVote,Log:=l,Role:=s0_ReplicaRole,Commit:=s0_ReplicaCommit,Votes:=s0_ReplicaVotes,Match:=s0_ReplicaMatch }:Replica).Log)),(.int .i64 ({ ID:=s0_ReplicaID,Many:=s0_ReplicaMany,Term:=s0_ReplicaTerm,Vote:=s0_ReplicaVote,Log:=l,Role:=s0_ReplicaRole,Commit:=s0_ReplicaCommit,Votes:=s0_ReplicaVotes,Match:=s0_ReplicaMatch }:Replica).Role),(.int .i64 ({ ID:=s0_ReplicaID,Many:=s0_ReplicaMany,Term:=s0_ReplicaTerm,Vote:=s0_ReplicaVote,Log:=l,Role:=s0_ReplicaRole,Commit:=s0_ReplicaCommit,Votes:=s0_ReplicaVotes,Match:=s0_ReplicaMatch }:Replica).Commit),(.sl 1 (List.map rB ({ ID:=s0_ReplicaID,Many:=s0_ReplicaMany,Term:=s0_ReplicaTerm,Vote:=s0_ReplicaVote,Log:=l,Role:=s0_ReplicaRole,Commit:=s0_ReplicaCommit,Votes:=s0_ReplicaVotes,Match:=s0_ReplicaMatch }:Replica).Votes)),(.sl 1 (List.map (rI .i64) ({ ID:=s0_ReplicaID,Many:=s0_ReplicaMany,Term:=s0_ReplicaTerm,Vote:=s0_ReplicaVote,Log:=l,Role:=s0_ReplicaRole,Commit:=s0_ReplicaCommit,Votes:=s0_ReplicaVotes,Match:=s0_ReplicaMatch }:Replica).Match)),v3]]),none,A5 v3 g3 10 (List.map An a_)]) h0 (G8 s0_ReplicaID s0_ReplicaMany s0_ReplicaTerm s0_ReplicaVote s0_ReplicaRole s0_ReplicaCommit s0_ReplicaVotes s0_ReplicaMatch l)):=by
 refine Ci (n:=15) 0 Try.func56 O (by decide) O O hI0 O fun ids he hI=>?_
 clear hI0
 obtain rfl:ix ids 0=o0:=he 0 rfl
 obtain rfl:ix ids 1=o1:=he 1 rfl
 obtain rfl:ix ids 2=o2:=he 2 rfl
 clear he
 refine B5 (A2 (G8.eq_1 _ _ _ _ _ _ _ _ _) ?_)
 refine Ae0 [(some (.rows g 10 [[(.I s0_ReplicaID),(.I s0_ReplicaMany),(.I s0_ReplicaTerm),(.I s0_ReplicaVote),(.sl 2 (List.map Ak l)),(.I s0_ReplicaRole),(.I s0_ReplicaCommit),(.sl 1 (List.map rB s0_ReplicaVotes)),(.sl 1 (List.map (rI .i64) s0_ReplicaMatch)),.emp]])),none,none] [(0,(.q ids 0 g))] hI O (.fz (.cons (.same _) (.cons (.same _) (.cons (.same _) (.cons (.same _) (.cons (Dz vH (hI.at O O) (hI.at O O) (fun x=>N5 x)) (.cons (.same _) (.cons (.same _) (.cons (.same _) (.cons (.same _) (.cons (.same _) .nil)))))))))) O O (.drop (.keep .nil))) (.cons (.same _) .nil)<|Bx Dd [[],[],[1],[1,2],[1,2,3],[1,2,3,4],[],[6],[6,7],[6,7,8],[6,7,8,9],[1,2,3,4,5,6,7,8,9,10],[0,1,2,3,4,5,6,7,8,9,10,11]] [(false,0),(false,1),(false,2),(false,3),(false,4),(false,5),(false,6),(false,7),(false,8),(false,9),(false,10),(false,11),(true,12)] (by kernel_rfl)<|Z (.q ids 0 g) O O Aa<|Z (.q ids 0 g) O O Aa<|Z (.q ids 0 g) O O (Al O)<|Z (.q ids 0 g) O O (Ai (Ae (c:=0) (off:=0) (i:=0) A6 O Ar O))<|Z (.ptr (ix ids 0) g 0 4) O O (Ai (Ae (c:=0) (off:=4) (i:=4) Ar O Bq O)) ?_
 refine Z (.sl 2 (List.map Ak l)) O O (Aj (Ao hI O O O Bq O))<|Z (.q ids 0 g) O O Aa<|Z (.q ids 0 g) O O (Al O)<|Z (.q ids 0 g) O O (Ai (Ae (c:=0) (off:=0) (i:=0) A6 O Ar O))<|Z (.ptr (ix ids 0) g 0 6) O O (Ai (Ae (c:=0) (off:=6) (i:=6) Ar O Av O))<|Z (.I s0_ReplicaCommit) O O (Aj (Ao hI O O O Av O))<|Z (.agg [(.I 3),(.I 0),(.I 0),(.I 0),(.I 0),(.I 0),(.sl 2 (List.map Ak l)),(.I s0_ReplicaCommit),(.I 0),(.bool false)]) O O (Fv (Kr Bp Ac1 O)) ?_
 refine E8 [0,2] hI O O (T4 ({ Kind:=3,From:=0,To:=0,Term:=0,Last:=0,LastTerm:=0,Log:=l,Commit:=s0_ReplicaCommit,Match:=0,Granted:=false }:Message) ({ ID:=s0_ReplicaID,Many:=s0_ReplicaMany,Term:=s0_ReplicaTerm,Vote:=s0_ReplicaVote,Log:=l,Role:=s0_ReplicaRole,Commit:=s0_ReplicaCommit,Votes:=s0_ReplicaVotes,Match:=s0_ReplicaMatch }:Replica) _ (ix ids 0) (ix ids 2) g (by exact hI.sub' O O)) O O O O O O O (fun v _ _ _=>B4 (K:=3) (N:=0) Try.func56 hI) ?_
 rintro r _ _ _ ⟨v2,g2,vH1,rfl,rfl⟩
 refine F5 [0,2] [some (.rows g 10 [[(.I ({ ID:=s0_ReplicaID,Many:=s0_ReplicaMany,Term:=s0_ReplicaTerm,Vote:=s0_ReplicaVote,Log:=l,Role:=s0_ReplicaRole,Commit:=s0_ReplicaCommit,Votes:=s0_ReplicaVotes,Match:=s0_ReplicaMatch }:Replica).ID),(.I ({ ID:=s0_ReplicaID,Many:=s0_ReplicaMany,Term:=s0_ReplicaTerm,Vote:=s0_ReplicaVote,Log:=l,Role:=s0_ReplicaRole,Commit:=s0_ReplicaCommit,Votes:=s0_ReplicaVotes,Match:=s0_ReplicaMatch }:Replica).Many),(.I ({ ID:=s0_ReplicaID,Many:=s0_ReplicaMany,Term:=s0_ReplicaTerm,Vote:=s0_ReplicaVote,Log:=l,Role:=s0_ReplicaRole,Commit:=s0_ReplicaCommit,Votes:=s0_ReplicaVotes,Match:=s0_ReplicaMatch }:Replica).Term),(.I ({ ID:=s0_ReplicaID,Many:=s0_ReplicaMany,Term:=s0_ReplicaTerm,Vote:=s0_ReplicaVote,Log:=l,Role:=s0_ReplicaRole,Commit:=s0_ReplicaCommit,Votes:=s0_ReplicaVotes,Match:=s0_ReplicaMatch }:Replica).Vote),(.sl 2 (List.map Ak ({ ID:=s0_ReplicaID,Many:=s0_ReplicaMany,Term:=s0_ReplicaTerm,Vote:=s0_ReplicaVote,Log:=l,Role:=s0_ReplicaRole,Commit:=s0_ReplicaCommit,Votes:=s0_ReplicaVotes,Match:=s0_ReplicaMatch }:Replica).Log)),(.I ({ ID:=s0_ReplicaID,Many:=s0_ReplicaMany,Term:=s0_ReplicaTerm,Vote:=s0_ReplicaVote,Log:=l,Role:=s0_ReplicaRole,Commit:=s0_ReplicaCommit,Votes:=s0_ReplicaVotes,Match:=s0_ReplicaMatch }:Replica).Role),(.I ({ ID:=s0_ReplicaID,Many:=s0_ReplicaMany,Term:=s0_ReplicaTerm,Vote:=s0_ReplicaVote,Log:=l,Role:=s0_ReplicaRole,Commit:=s0_ReplicaCommit,Votes:=s0_ReplicaVotes,Match:=s0_ReplicaMatch }:Replica).Commit),(.sl 1 (List.map rB ({ ID:=s0_ReplicaID,Many:=s0_ReplicaMany,Term:=s0_ReplicaTerm,Vote:=s0_ReplicaVote,Log:=l,Role:=s0_ReplicaRole,Commit:=s0_ReplicaCommit,Votes:=s0_ReplicaVotes,Match:=s0_ReplicaMatch }:Replica).Votes)),(.sl 1 (List.map (rI .i64) ({ ID:=s0_ReplicaID,Many:=s0_ReplicaMany,Term:=s0_ReplicaTerm,Vote:=s0_ReplicaVote,Log:=l,Role:=s0_ReplicaRole,Commit:=s0_ReplicaCommit,Votes:=s0_ReplicaVotes,Match:=s0_ReplicaMatch }:Replica).Match)),v2]]),none,A5 v2 g2 10 (List.map An r)] hI O O O O ⟨(Y O (Y O (Y O (Y O (Y O (Y O (Y O (Y O (Y O (Y O (Y O (Y O Ap)))))))))))),?_⟩
 refine F1<|A9<|A4 ?_
 exact E1 (K:=3) (N:=0) (a:=r) (vs:=[]) [some (.rows g 10 [[(.I ({ ID:=s0_ReplicaID,Many:=s0_ReplicaMany,Term:=s0_ReplicaTerm,Vote:=s0_ReplicaVote,Log:=l,Role:=s0_ReplicaRole,Commit:=s0_ReplicaCommit,Votes:=s0_ReplicaVotes,Match:=s0_ReplicaMatch }:Replica).ID),(.I ({ ID:=s0_ReplicaID,Many:=s0_ReplicaMany,Term:=s0_ReplicaTerm,Vote:=s0_ReplicaVote,Log:=l,Role:=s0_ReplicaRole,Commit:=s0_ReplicaCommit,Votes:=s0_ReplicaVotes,Match:=s0_ReplicaMatch }:Replica).Many),(.I ({ ID:=s0_ReplicaID,Many:=s0_ReplicaMany,Term:=s0_ReplicaTerm,Vote:=s0_ReplicaVote,Log:=l,Role:=s0_ReplicaRole,Commit:=s0_ReplicaCommit,Votes:=s0_ReplicaVotes,Match:=s0_ReplicaMatch }:Replica).Term),(.I ({ ID:=s0_ReplicaID,Many:=s0_ReplicaMany,Term:=s0_ReplicaTerm,Vote:=s0_ReplicaVote,Log:=l,Role:=s0_ReplicaRole,Commit:=s0_ReplicaCommit,Votes:=s0_ReplicaVotes,Match:=s0_ReplicaMatch }:Replica).Vote),(.sl 2 (List.map Ak ({ ID:=s0_ReplicaID,Many:=s0_ReplicaMany,Term:=s0_ReplicaTerm,Vote:=s0_ReplicaVote,Log:=l,Role:=s0_ReplicaRole,Commit:=s0_ReplicaCommit,Votes:=s0_ReplicaVotes,Match:=s0_ReplicaMatch }:Replica).Log)),(.I ({ ID:=s0_ReplicaID,Many:=s0_ReplicaMany,Term:=s0_ReplicaTerm,Vote:=s0_ReplicaVote,Log:=l,Role:=s0_ReplicaRole,Commit:=s0_ReplicaCommit,Votes:=s0_ReplicaVotes,Match:=s0_ReplicaMatch }:Replica).Role),(.I ({ ID:=s0_ReplicaID,Many:=s0_ReplicaMany,Term:=s0_ReplicaTerm,Vote:=s0_ReplicaVote,Log:=l,Role:=s0_ReplicaRole,Commit:=s0_ReplicaCommit,Votes:=s0_ReplicaVotes,Match:=s0_ReplicaMatch }:Replica).Commit),(.sl 1 (List.map rB ({ ID:=s0_ReplicaID,Many:=s0_ReplicaMany,Term:=s0_ReplicaTerm,Vote:=s0_ReplicaVote,Log:=l,Role:=s0_ReplicaRole,Commit:=s0_ReplicaCommit,Votes:=s0_ReplicaVotes,Match:=s0_ReplicaMatch }:Replica).Votes)),(.sl 1 (List.map (rI .i64) ({ ID:=s0_ReplicaID,Many:=s0_ReplicaMany,Term:=s0_ReplicaTerm,Vote:=s0_ReplicaVote,Log:=l,Role:=s0_ReplicaRole,Commit:=s0_ReplicaCommit,Votes:=s0_ReplicaVotes,Match:=s0_ReplicaMatch }:Replica).Match)),v2]]),none,A5 v2 g2 10 (List.map An r)] Try.func56 hI O O O (.keep (.keep (.keep .nil))) (.same _) ⟨v2,g2,vH1,O,O⟩
theorem Q5 (r:Replica)(data:List Int):CP Try.prog 26 [(.agg (Au r)),(.sl 1 (List.map (rI .u8) data))] (Jt r data) (fun(p:(Replica×(List Message)×Int))=>AV.tup [(.agg (Au p.1)),(.sl 10 (List.map An p.2.1)),(.int .i64 p.2.2)]):=by
 refine Ec (n:=77) 6 Try.func26 O (by decide) O O fun h0 ids hI=>B5 (A2 (Jt.eq_1 _ _) ?_)
 refine Ad<|Ab<|Dk (v:=(.agg (Au r))) (j:=0) hI O O O O O O O fun g=>Cw (j:=1) hI O O O O Ar O fun g1=>Aq 2 [] [] ?_
 refine Ag<|A4 ?_
 refine Ad<|Ad<|Ab<|Aq 1 [0] [(8,(.agg (Au r)))] ?_
 refine Bf [(.agg (Au r))] O O O O ((Jc r) _) (fun v _=>Bz Try.func26 hI) fun e _=>Af (.I e) O As<|Ag<|Ad<|Ab<|Aq 2 [] [(11,(.bool (e != 0)))] ?_
 refine Ag<|Dh O (fun hc=>?_) (fun hc=>?_)
 ·refine Ad<|Ab<|Aq 2 [1] [(13,(.I e)),(12,(.agg [(.I 0),(.I 0),(.I 0),(.I 0),.emp,(.I 0),(.I 0),.emp,.emp]))] ?_
  refine Be (A8 (v:=(.agg [(.I 0),(.I 0),(.I 0),(.I 0),.emp,(.I 0),(.I 0),.emp,.emp])) hI O O O O Ar O O O O O)<|Aq 2 [] [(6,(.I e)),(5,.emp)] ?_
  refine Ag<|Cu (a:=(({ ID:=0,Many:=0,Term:=0,Vote:=0,Log:=[],Role:=0,Commit:=0,Votes:=[],Match:=[] }:Replica),[],e)) (vs:=[(.agg [(.I 0),(.I 0),(.I 0),(.I 0),.emp,(.I 0),(.I 0),.emp,.emp]),.emp,(.I e)]) Try.func26 hI (Cr (Ao hI O O O Ar O) (En (En Dm))) (.tupL (.cons (.aggL (.cons (.same _) (.cons (.same _) (.cons (.same _) (.cons (.same _) (.cons (.emp _) (.cons (.same _) (.cons (.same _) (.cons (.emp _) (.cons (.emp _) .nil)))))))))) (.cons (.emp _) (.cons (.same _) .nil))))
 refine Bj<|Ad<|Ad<|Ab<|Aq 3 [0] [(16,(.bool (r.Role != 2)))] ?_
 refine Ag<|Dh O (fun hc1=>?_) (fun hc1=>?_)
 ·refine Ad<|Ab<|Aq 1 [1] [(17,(.agg [(.I 0),(.I 0),(.I 0),(.I 0),.emp,(.I 0),(.I 0),.emp,.emp]))] ?_
  refine Be (A8 (v:=(.agg [(.I 0),(.I 0),(.I 0),(.I 0),.emp,(.I 0),(.I 0),.emp,.emp])) hI O O O O Ar O O O O O)<|Aq 2 [] [(6,(.I 470)),(5,.emp)] ?_
  refine Ag<|Cu (a:=(({ ID:=0,Many:=0,Term:=0,Vote:=0,Log:=[],Role:=0,Commit:=0,Votes:=[],Match:=[] }:Replica),[],470)) (vs:=[(.agg [(.I 0),(.I 0),(.I 0),(.I 0),.emp,(.I 0),(.I 0),.emp,.emp]),.emp,(.I 470)]) Try.func26 hI (Cr (Ao hI O O O Ar O) (En (En Dm))) (.tupL (.cons (.aggL (.cons (.same _) (.cons (.same _) (.cons (.same _) (.cons (.same _) (.cons (.emp _) (.cons (.same _) (.cons (.same _) (.cons (.emp _) (.cons (.emp _) .nil)))))))))) (.cons (.emp _) (.cons (.same _) .nil))))
 refine Bj<|Ad<|Ad<|Ab<|Aq 2 [0] [(19,(.sl 2 (List.map Ak r.Log)))] ?_
 refine Af (.I (r.Log.length:Int)) O (Bn (Bs Bq))<|Af (.bool (decide ((r.Log.length:Int)≥4096))) O (Bc O O O)<|Ag<|Jl O (fun hc2=>?_) (fun hc2=>?_)
 ·refine Ad<|Ab<|Aq 1 [1] [(22,(.agg [(.I 0),(.I 0),(.I 0),(.I 0),.emp,(.I 0),(.I 0),.emp,.emp]))] ?_
  refine Be (A8 (v:=(.agg [(.I 0),(.I 0),(.I 0),(.I 0),.emp,(.I 0),(.I 0),.emp,.emp])) hI O O O O Ar O O O O O)<|Aq 2 [] [(6,(.I 2)),(5,.emp)] ?_
  refine Ag<|Cu (a:=(({ ID:=0,Many:=0,Term:=0,Vote:=0,Log:=[],Role:=0,Commit:=0,Votes:=[],Match:=[] }:Replica),[],2)) (vs:=[(.agg [(.I 0),(.I 0),(.I 0),(.I 0),.emp,(.I 0),(.I 0),.emp,.emp]),.emp,(.I 2)]) Try.func26 hI (Cr (Ao hI O O O Ar O) (En (En Dm))) (.tupL (.cons (.aggL (.cons (.same _) (.cons (.same _) (.cons (.same _) (.cons (.same _) (.cons (.emp _) (.cons (.same _) (.cons (.same _) (.cons (.emp _) (.cons (.emp _) .nil)))))))))) (.cons (.emp _) (.cons (.same _) .nil))))
 refine Bj<|Ad<|Ab<|Aq 1 [0] [(23,(.agg (Au r)))] ?_
 refine Cc [2] hI O O (Ln r _ (ix ids 2) (by exact hI.sub' O O)) O O O O O O (fun v _=>Bz Try.func26 hI) ?_
 rintro _ _ _ _ ⟨g2,rfl,rfl⟩
 refine Dt [2] hI O O O ?_
 refine Cs<|Af (.q ids 2 g2) O As<|Ag<|A4 ?_
 refine Ad<|Em (fun l=>Jg r l) (fun l=>fun(fr:Nat→AV) (h:Ah) => ∃ (v4:AV),∃ (g7:Nat),Bk v4 (ix ids 3) g7 l.length∧fr=Az [(2,(.q ids 0 g)),(4,(.q ids 1 g1)),(7,(.q ids 2 g2))]∧h=hp h0 ids [(some (.rows g 9 [(Au r)])),(some (.rows g1 9 [[(.I 0),(.I 0),(.I 0),(.I 0),.emp,(.I 0),(.I 0),.emp,.emp]])),(some (.rows g2 10 [[(.I r.ID),(.I r.Many),(.I r.Term),(.I r.Vote),v4,(.I r.Role),(.I r.Commit),(.sl 1 (List.map rB r.Votes)),(.sl 1 (List.map (rI .i64) r.Match)),.emp]])),(A5 v4 g7 2 (List.map Ak l)),none,none]) ?_ fun hJ=>?_
 ·rintro l fr h ⟨v4,g7,vH4,rfl,rfl⟩
  refine A2 (Jg.eq_1 _ _)<|Ad<|Ab<|Aq 3 [0] [(43,(.sl 1 (List.map (rI .i64) r.Match))),(41,(.q ids 2 g2))] ?_
  refine Yg (j:=4) [(.sl 1 (List.map (rI .i64) r.Match))] hI O O O O O O ((P5 r.Match) _ _ (hI.at O O)) (fun v _=>Bz Try.func26 hI) fun r3 _ v5 g8 vH5=>Aq 3 [] [(47,(.ptr (ix ids 2) g2 0 8))] ?_
  refine Be (Cj vH5 hI O O O O B3 O O O)<|Ag<|A4 ?_
  refine Ad<|Bx Dd [[],[0],[0,1],[0,1,2],[0,1,2,3],[],[5],[5,6],[5,6,7],[5,6,7,8],[],[10],[10,11],[10,11,12],[10,11,12,13],[10,11,12,13,14],[0,1,2,3,4,4,5,6,7,8,9,9,10,11,12,13,14,15],[0,1,2,3,4,5,6,7,8,9,10,11,12,13,14,15,15,16]] [(false,0),(false,1),(false,2),(false,3),(false,4),(false,5),(false,6),(false,7),(false,8),(false,9),(false,10),(false,11),(false,12),(false,13),(false,14),(false,15),(false,16),(true,17)] (by kernel_rfl)<|Z (.q ids 2 g2) O O Aa<|Z (.q ids 2 g2) O O (Al O)<|Z (.q ids 2 g2) O O (Ai (Ae (c:=0) (off:=0) (i:=0) A6 O Ar O))<|Z (.ptr (ix ids 2) g2 0 8) O O (Ai (Ae (c:=0) (off:=8) (i:=8) Ar O B3 O))<|Z v5 O O (Aj (Ao hI O O O B3 O)) ?_
  refine Z (.q ids 2 g2) O O Aa<|Z (.q ids 2 g2) O O (Al O)<|Z (.q ids 2 g2) O O (Ai (Ae (c:=0) (off:=0) (i:=0) A6 O Ar O))<|Z (.q ids 2 g2) O O (Ai (Ae (c:=0) (off:=0) (i:=0) Ar O Av O))<|Z (.I r.ID) O O (Aj (Ao hI O O O Av O))<|Z (.q ids 2 g2) O O Aa<|Z (.q ids 2 g2) O O (Al O) ?_
  refine Z (.q ids 2 g2) O O (Ai (Ae (c:=0) (off:=0) (i:=0) A6 O Ar O))<|Z (.ptr (ix ids 2) g2 0 4) O O (Ai (Ae (c:=0) (off:=4) (i:=4) Ar O Bq O))<|Z v4 O O (Aj (Ao hI O O O Bq O))<|Z (.I (l.length:Int)) O O (Bn (Bk.len vH4 Bq))<|Iq fun a hz hx1=>Z (.ptr (ix ids 4) g8 r.ID.toNat 0) O O (Bu (Oa hI O vH5 O B3 Av O hz hx1))<|Bb O (fun _ _=>O) (fun K hK=>A3 (Uk (y:=(l.length:Int)) hI O O vH5 O hx1 Av O O O O O O) (hK _ _ (Y O (Y O (Y O (Y O (Y O (Y O (Y O (Y O (Y O (Y O (Y O (Y O (Y O (Y O (Y O (Y O (Y O Ap))))))))))))))))) ?_))
  clear hK K
  have vH6:=Bk.set (i:=r.ID.toNat) (y:=(l.length:Int)) vH5
  have hx2:=List.getElem?_set_self (a:=(l.length:Int)) (B0 hx1)
  refine A9<|A4 ?_
  refine Ad<|Ab<|Af (.q ids 2 g2) O Aa<|Cc [2,3,4] hI O O (Rb r.ID r.Many r.Term r.Vote r.Role r.Commit r.Votes l (r3.set r.ID.toNat (l.length:Int)) _ (ix ids 2) (ix ids 3) (ix ids 4) g2 v4 g7 v5 g8 vH4 vH6 (by exact hI.sub' O O)) O O O O O O (fun v _=>Bz Try.func26 hI) ?_
  rintro r4 _ _ _ ⟨v6,g9,vH7,rfl,rfl⟩
  refine Dt [2,3,4] hI O O O ?_
  refine Cs<|Ag<|A4 ?_
  refine Ad<|Ab<|Af (.q ids 2 g2) O Aa<|Cc [2,3,5] hI O O (S5 r.ID r.Many r.Term r.Vote r.Role r4.1 r.Votes (r3.set r.ID.toNat (l.length:Int)) r4.2 _ (ix ids 2) (ix ids 3) (ix ids 5) g2 v6 g9 vH7 (by exact hI.sub' O O)) O O O O O O (fun v _=>Bz Try.func26 hI) ?_
  rintro r5 _ _ _ ⟨v7,g10,vH8,rfl,rfl⟩
  refine Dt [2,3,5] hI O O O ?_
  refine Cs<|Ag<|A4 ?_
  refine Ad<|Bx Dd [[],[0],[0,1],[0,1,2],[],[4],[4,5],[4,5,6],[0,1,2,3,3],[0,1,2,3,4,5,6,7,7,8,8],[0,1,2,3,4,5,6,7,8,9,9]] [(false,0),(false,1),(false,2),(false,3),(false,4),(false,5),(false,6),(false,7),(true,8),(false,9),(false,10)] (by kernel_rfl)<|Z (.q ids 2 g2) O O Aa<|Z (.q ids 2 g2) O O (Al O)<|Z (.q ids 2 g2) O O (Ai (Ae (c:=0) (off:=0) (i:=0) A6 O Ar O))<|Z (.agg (Au ({ ID:=r.ID,Many:=r.Many,Term:=r.Term,Vote:=r.Vote,Log:=r4.2,Role:=r.Role,Commit:=r4.1,Votes:=r.Votes,Match:=(r3.set r.ID.toNat (l.length:Int)) }:Replica))) O O (Aj (Ao hI O O O Ar O))<|Z (.q ids 2 g2) O O Aa ?_
  refine Z (.q ids 2 g2) O O (Al O)<|Z (.ptr (ix ids 2) g2 0 9) O O (Ai (Ae (c:=0) (off:=9) (i:=1) A6 O Cp O))<|Z v7 O O (Aj (Ao hI O O O Cp O))<|Bb O (fun _ _=>O) (fun K hK=>A3 (A8 (v:=(.agg (Au ({ ID:=r.ID,Many:=r.Many,Term:=r.Term,Vote:=r.Vote,Log:=r4.2,Role:=r.Role,Commit:=r4.1,Votes:=r.Votes,Match:=(r3.set r.ID.toNat (l.length:Int)) }:Replica)))) hI O O O O Ar O O O O O) (hK _ _ (Ac O (Aj (Ao hI O O O Cp O)) (Ac O (Ai (Ae (c:=0) (off:=9) (i:=1) A6 O Cp O)) (Ac O (Al O) (Ac O Aa (Y O (Y O (Y O (Y O Ap)))))))) ?_))
  clear hK K
  refine Z v7 O O As<|Z (.I 0) O O As<|A9<|A4 ?_
  exact Cu (a:=(({ ID:=r.ID,Many:=r.Many,Term:=r.Term,Vote:=r.Vote,Log:=r4.2,Role:=r.Role,Commit:=r4.1,Votes:=r.Votes,Match:=(r3.set r.ID.toNat (l.length:Int)) }:Replica),r5,0)) (vs:=[(.agg (Au ({ ID:=r.ID,Many:=r.Many,Term:=r.Term,Vote:=r.Vote,Log:=r4.2,Role:=r.Role,Commit:=r4.1,Votes:=r.Votes,Match:=(r3.set r.ID.toNat (l.length:Int)) }:Replica))),v7,(.I 0)]) Try.func26 hI (Cr (Ao hI O O O Ar O) (En (En Dm))) (.tupL (.cons (.same _) (.cons (Dz vH8 (hI.at O O) (hI.out O) (fun x=>Hx x)) (.cons (.same _) .nil))))
 refine Sz Dd (.node 11 3 (.leaf [[],[],[1],[1,2],[],[4],[4,5],[4,5,6],[4,5,6,7],[],[4,5,6,7,8,9],[1,2,3,4,5,6,7,8,9,10],[1,2,3,4,5,6,7,8,9,10,11],[0,0,1,2,3,4,5,6,7,8,9,10,11,12],[0,1,2,3,4,5,6,7,8,9,10,11,12,13],[0,1,2,3,4,5,6,7,8,9,10,11,12,13,14],[0,1,2,3,4,5,6,7,8,9,10,11,12,13,14,15]] [(false,0),(false,1),(false,2),(false,4),(false,5),(false,6),(false,7),(false,8),(false,9),(false,10),(true,3),(true,11),(true,12),(false,13),(false,14),(false,15),(true,16)]) (.leaf [[],[],[1],[1,2,4,5,6,7,8,9,10,11],[],[4],[4,5],[4,5,6],[4,5,6,7],[],[4,5,6,7,8,9],[4,5,6,7,8,9,10],[1,2,3,4,5,6,7,8,9,10,11],[0,0,1,2,3,4,5,6,7,8,9,10,11,12],[0,1,2,3,4,5,6,7,8,9,10,11,12,13],[0,1,2,3,4,5,6,7,8,9,10,11,12,13,14],[0,1,2,3,4,5,6,7,8,9,10,11,12,13,14,15]] [(false,0),(false,1),(false,2),(false,4),(false,5),(false,6),(false,7),(false,8),(false,9),(false,10),(true,11),(true,3),(true,12),(false,13),(false,14),(false,15),(true,16)])) (by kernel_rfl)<|H5 ?_ ?_
 ·refine F4<|Z (.q ids 2 g2) O O Aa<|Z (.ptr (ix ids 0) g 0 4) O O (Ai (Ae (c:=0) (off:=4) (i:=4) Ar O Bq O))<|Z (.sl 2 (List.map Ak r.Log)) O O (Aj (Ao hI O O O Bq O))<|Z (.q ids 2 g2) O O Aa<|Z (.q ids 2 g2) O O (Al O)<|Z (.q ids 2 g2) O O (Ai (Ae (c:=0) (off:=0) (i:=0) A6 O Ar O)) ?_
  refine Z (.ptr (ix ids 2) g2 0 2) O O (Ai (Ae (c:=0) (off:=2) (i:=2) Ar O Av O))<|Z (.I r.Term) O O (Aj (Ao hI O O O Av O))<|Z (.sl 1 (List.map (rI .u8) data)) O O Aa<|Z (.agg [(.I r.Term),(.sl 1 (List.map (rI .u8) data))]) O O (Fv (Kr D0 Acf O))<|Abs (j:=3) [(.sl 2 (List.map Ak r.Log))] O hI O O O O O O ((On r.Log) _ _ (hI.at O O)) (fun v _ _ _=>Bz Try.func26 hI) fun r1 _ v g3 vH=>⟨(Ac O (Fv (Kr D0 Acf O)) (Ac O Aa (Ac O (Aj (Ao hI O O O Av O)) (Ac O (Ai (Ae (c:=0) (off:=2) (i:=2) Ar O Av O)) (Ac O (Ai (Ae (c:=0) (off:=0) (i:=0) A6 O Ar O)) (Ac O (Al O) (Ac O Aa (Y O (Y O (Ac O Aa Ap)))))))))),?_⟩
  refine Cn O O (fun _ _=>O) (fun K hK=>Ic (e:=Ak) (L:=[({ Term:=r.Term,Data:=data }:Record)]) (st:=2) (rows:=[[(.I r.Term),(.sl 1 (List.map (rI .u8) data))]]) Bq D0 O O O O O (.cons (.cons (.same _) (.cons (.same _) .nil)) .nil) (fun x=>N5 x) O O (hK _ _ (Y O (Y O (Y O (Y O (Y O (Y O (Y O (Y O (Y O (Ac O Aa Ap)))))))))) ?_))
  clear hK K
  refine Cb fun hl=>Cn O O (fun _ _=>O) (fun K hK=>Fo (e:=Ak) (L:=r1) (L2:=[({ Term:=r.Term,Data:=data }:Record)]) (v:=v) (g:=g3) (st:=2) (j:=3) hI O O O vH O (Ht O) Bq Bq O D0 O O O hl fun v1 g4 vH1=>hK _ _ (Y O (Y O (Y O (Y O (Y O (Y O (Y O (Y O (Y O (Ac O Aa Ap)))))))))) ?_)
  clear hK K
  refine Z (.q ids 2 g2) O O (Al O)<|Z (.q ids 2 g2) O O (Ai (Ae (c:=0) (off:=0) (i:=0) A6 O Ar O))<|Z (.ptr (ix ids 2) g2 0 4) O O (Ai (Ae (c:=0) (off:=4) (i:=4) Ar O Bq O))<|Bb O (fun _ _=>O) (fun K hK=>A3 (Cj vH1 hI O O O O Bq O O O) (hK _ _ (Y O (Y O (Y O (Y O (Y O (Y O (Y O (Y O (Y O (Y O (Y O (Y O (Y O Ap))))))))))))) ?_))
  clear hK K
  refine A9<|A4 ?_
  exact Bl (hJ (r1++[({ Term:=r.Term,Data:=data }:Record)]) _ _ ⟨v1,g4,vH1,O,O⟩)
 refine F4<|Z (.q ids 2 g2) O O Aa<|Z (.ptr (ix ids 0) g 0 4) O O (Ai (Ae (c:=0) (off:=4) (i:=4) Ar O Bq O))<|Z (.sl 2 (List.map Ak r.Log)) O O (Aj (Ao hI O O O Bq O))<|Z (.q ids 2 g2) O O Aa<|Z (.q ids 2 g2) O O (Al O)<|Z (.q ids 2 g2) O O (Ai (Ae (c:=0) (off:=0) (i:=0) A6 O Ar O)) ?_
 refine Z (.ptr (ix ids 2) g2 0 2) O O (Ai (Ae (c:=0) (off:=2) (i:=2) Ar O Av O))<|Z (.I r.Term) O O (Aj (Ao hI O O O Av O))<|Z (.sl 1 (List.map (rI .u8) data)) O O Aa<|Z (.agg [(.I r.Term),(.sl 1 (List.map (rI .u8) data))]) O O (Fv (Kr D0 Acf O))<|Cn O O (fun _ _=>O) (fun K hK=>Ic (e:=Ak) (L:=[({ Term:=r.Term,Data:=data }:Record)]) (st:=2) (rows:=[[(.I r.Term),(.sl 1 (List.map (rI .u8) data))]]) Bq D0 O O O O O (.cons (.cons (.same _) (.cons (.same _) .nil)) .nil) (fun x=>N5 x) O O (hK _ _ (Y O (Y O (Y O (Y O (Y O (Y O (Y O (Ac O (Aj (Ao hI O O O Bq O)) (Ac O (Ai (Ae (c:=0) (off:=4) (i:=4) Ar O Bq O)) (Ac O Aa Ap)))))))))) ?_))
 clear hK K
 refine Abs (j:=3) [(.sl 2 (List.map Ak r.Log))] O hI O O O O O O ((On r.Log) _ _ (hI.at O O)) (fun v _ _ _=>Bz Try.func26 hI) fun r2 _ v2 g5 vH2=>⟨(Y O (Y O (Y O (Y O (Y O (Y O (Y O (Y O (Y O (Ac O Aa Ap)))))))))),?_⟩
 refine Cb fun hl1=>Cn O O (fun _ _=>O) (fun K hK=>Fo (e:=Ak) (L:=r2) (L2:=[({ Term:=r.Term,Data:=data }:Record)]) (v:=v2) (g:=g5) (st:=2) (j:=3) hI O O O vH2 O (Ht O) Bq Bq O D0 O O O hl1 fun v3 g6 vH3=>hK _ _ (Y O (Y O (Y O (Y O (Y O (Y O (Y O (Y O (Y O (Ac O Aa Ap)))))))))) ?_)
 clear hK K
 refine Z (.q ids 2 g2) O O (Al O)<|Z (.q ids 2 g2) O O (Ai (Ae (c:=0) (off:=0) (i:=0) A6 O Ar O))<|Z (.ptr (ix ids 2) g2 0 4) O O (Ai (Ae (c:=0) (off:=4) (i:=4) Ar O Bq O))<|Bb O (fun _ _=>O) (fun K hK=>A3 (Cj vH3 hI O O O O Bq O O O) (hK _ _ (Y O (Y O (Y O (Y O (Y O (Y O (Y O (Y O (Y O (Y O (Y O (Y O (Y O Ap))))))))))))) ?_))
 clear hK K
 refine A9<|A4 ?_
 exact Bl (hJ (r2++[({ Term:=r.Term,Data:=data }:Record)]) _ _ ⟨v3,g6,vH3,O,O⟩)
theorem Hq (a0:AV)(h:Ah):Ja Try.prog 44 [a0] .ret h (Qq (fun _:Unit=>h) .ret (.ok ())):=by
 refine N2 (n:=3) Try.func44 O (by decide) O O ?_ ⟨(),O⟩
 refine B5 (A2 (m':=(H3).bind fun _ =>   .ok ()) O ?_)
 refine Ab<|Wy O<|Bf [.nili,a0] O O O O ((Ow a0) _) (fun v hv=>by unfold H3 at hv; cases hv) fun _ _=>?_
 refine Ag<|Pr Try.func44 O O O
theorem Ij (s_Replica:Replica)(h0:Ah)(o0:Nat)(o1:Nat)(o2:Nat)(w:AV)(g:Nat)(hI0:Ids h0 [o0,o1,o2] 3):Cg s_Replica≠.bad→Bm Try.prog 47 [(.ptr o0 g 0 0)] (hp h0 [o0,o1,o2] [some (.rows g 10 [[(.int .i64 s_Replica.ID),(.int .i64 s_Replica.Many),(.int .i64 s_Replica.Term),(.int .i64 s_Replica.Vote),(.sl 2 (List.map Ak s_Replica.Log)),(.int .i64 s_Replica.Role),(.int .i64 s_Replica.Commit),(.sl 1 (List.map rB s_Replica.Votes)),(.sl 1 (List.map (rI .i64) s_Replica.Match)),w]]),none,none]) (Eg (fun a_ v h' => ∃ (v19:AV),∃ (g19:Nat),∃ (v20:AV),∃ (g20:Nat),Bk v19 o1 g19 a_.1.length∧Bk v20 o2 g20 a_.2.length∧v=(.tup [])∧h'=hp h0 [o0,o1,o2] [some (.rows g 10 [[(.int .i64 s_Replica.ID),(.int .i64 s_Replica.Many),(.int .i64 s_Replica.Term),(.int .i64 s_Replica.Vote),(.sl 2 (List.map Ak s_Replica.Log)),(.int .i64 0),(.int .i64 s_Replica.Commit),v19,v20,w]]),A5 v19 g19 1 (List.map rB a_.1),A5 v20 g20 1 (List.map (rI .i64) a_.2)]) h0 (Cg s_Replica)):=by
 refine Ci (n:=30) 0 Try.func47 O (by decide) O O hI0 O fun ids he hI=>?_
 clear hI0
 obtain rfl:ix ids 0=o0:=he 0 rfl
 obtain rfl:ix ids 1=o1:=he 1 rfl
 obtain rfl:ix ids 2=o2:=he 2 rfl
 clear he
 refine B5 (A2 (Cg.eq_1 _) ?_)
 refine Ad<|Ab<|Af (.I 0) O As<|Ag<|Ad<|Ad<|Ab ?_
 refine Aq 5 [0] [(7,(.I s_Replica.Many))] ?_
 refine Bf [(.I s_Replica.Many),(.I 0),(.I 5)] O O O O ((Cz s_Replica.Many 0 5) _) (fun v _=>B4 (K:=3) (N:=0) Try.func47 hI) fun r _=>Ag<|Em (fun n=>Gu n) (fun n=>fun(fr:Nat→AV) (h:Ah)=>fr=Az [(0,(.q ids 0 g)),(2,(.I n))]∧h=hp h0 ids [(some (.rows g 10 [[(.I s_Replica.ID),(.I s_Replica.Many),(.I s_Replica.Term),(.I s_Replica.Vote),(.sl 2 (List.map Ak s_Replica.Log)),(.I s_Replica.Role),(.I s_Replica.Commit),(.sl 1 (List.map rB s_Replica.Votes)),(.sl 1 (List.map (rI .i64) s_Replica.Match)),w]])),none,none]) ?_ fun hJ1=>?_
 ·rintro n fr h ⟨rfl,rfl⟩
  refine A2 (Gu.eq_1 _)<|Em (Fr fun l l1=>Ih l l1) (Fr fun l l1=>fun(fr:Nat→AV) (h:Ah) => ∃ (v17:AV),∃ (g17:Nat),∃ (v18:AV),∃ (g18:Nat),Bk v17 (ix ids 1) g17 l.length∧Bk v18 (ix ids 2) g18 l1.length∧fr=Az []∧h=hp h0 ids [(some (.rows g 10 [[(.I s_Replica.ID),(.I s_Replica.Many),(.I s_Replica.Term),(.I s_Replica.Vote),(.sl 2 (List.map Ak s_Replica.Log)),(.I 0),(.I s_Replica.Commit),v17,v18,w]])),(A5 v17 g17 1 (List.map rB l)),(A5 v18 g18 1 (List.map (rI .i64) l1))]) ?_ fun hJ=>?_
  ·rintro⟨l,l1⟩ fr h ⟨v17,g17,v18,g18,vH16,vH17,rfl,rfl⟩
   refine A2 (Ih.eq_1 _ _)<|E1 (K:=3) (N:=0) (a:=(l,l1)) (vs:=[]) [some (.rows g 10 [[(.I s_Replica.ID),(.I s_Replica.Many),(.I s_Replica.Term),(.I s_Replica.Vote),(.sl 2 (List.map Ak s_Replica.Log)),(.I 0),(.I s_Replica.Commit),v17,v18,w]]),A5 v17 g17 1 (List.map rB l),A5 v18 g18 1 (List.map (rI .i64) l1)] Try.func47 hI O O O (.keep (.keep (.keep .nil))) (.same _) ⟨v17,g17,v18,g18,vH16,vH17,O,O⟩
  refine Sz Dd (.node 14 6 (.node 10 6 (.node 10 4 (.node 6 4 (.leaf [[],[],[],[],[3,3],[],[3,4,5],[0,0],[0,7],[0,7,8],[0,3,4,5,6,7,8,9],[0,1,3,4,5,6,7,8,9,10],[0,1,3,4,5,6,7,8,9,10,11],[0,1,3,4,5,6,7,8,9,10,11,12],[0,1,3,4,5,6,7,8,9,10,11,12,13],[0,1,2,2,3,4,5,6,7,8,9,10,11,12,13,14],[0,1,2,3,4,5,6,7,8,9,10,11,12,13,14,15],[0,1,2,3,4,5,6,7,8,9,10,11,12,13,14,15,16],[0,1,2,3,4,5,6,7,8,9,10,11,12,13,14,15,16,17]] [(false,0),(false,1),(false,2),(false,3),(false,5),(false,7),(false,8),(false,9),(true,4),(true,6),(true,10),(false,11),(false,12),(false,13),(true,14),(false,15),(false,16),(false,17),(true,18)]) (.leaf [[],[],[],[],[3,5,6],[],[5,5],[0,0],[0,7],[0,7,8],[0,3,4,5,6,7,8,9],[0,1,3,4,5,6,7,8,9,10],[0,1,3,4,5,6,7,8,9,10,11],[0,1,3,4,5,6,7,8,9,10,11,12],[0,1,3,4,5,6,7,8,9,10,11,12,13],[0,1,2,2,3,4,5,6,7,8,9,10,11,12,13,14],[0,1,2,3,4,5,6,7,8,9,10,11,12,13,14,15],[0,1,2,3,4,5,6,7,8,9,10,11,12,13,14,15,16],[0,1,2,3,4,5,6,7,8,9,10,11,12,13,14,15,16,17]] [(false,0),(false,1),(false,2),(false,3),(false,5),(false,7),(false,8),(false,9),(true,6),(true,4),(true,10),(false,11),(false,12),(false,13),(true,14),(false,15),(false,16),(false,17),(true,18)])) (.leaf [[],[],[],[],[0,3,5,6,7,8,9,10],[],[5,5],[0,0],[0,7],[0,7,8],[0,5,6,7,8,9],[0,1,3,4,5,6,7,8,9,10],[0,1,3,4,5,6,7,8,9,10,11],[0,1,3,4,5,6,7,8,9,10,11,12],[0,1,3,4,5,6,7,8,9,10,11,12,13],[0,1,2,2,3,4,5,6,7,8,9,10,11,12,13,14],[0,1,2,3,4,5,6,7,8,9,10,11,12,13,14,15],[0,1,2,3,4,5,6,7,8,9,10,11,12,13,14,15,16],[0,1,2,3,4,5,6,7,8,9,10,11,12,13,14,15,16,17]] [(false,0),(false,1),(false,2),(false,3),(false,5),(false,7),(false,8),(false,9),(true,6),(true,10),(true,4),(false,11),(false,12),(false,13),(true,14),(false,15),(false,16),(false,17),(true,18)])) (.node 6 4 (.node 10 4 (.leaf [[],[],[],[],[3,3],[],[0,3,4,5,7,8,9,10],[0,0],[0,7],[0,7,8],[0,3,4,7,8,9],[0,1,1,3,4,7,8,9,10],[0,1,3,4,7,8,9,10,11],[0,1,3,4,7,8,9,10,11,12],[0,1,3,4,5,6,7,8,9,10,11,12,13],[0,1,2,2,3,4,5,6,7,8,9,10,11,12,13,14],[0,1,2,3,4,5,6,7,8,9,10,11,12,13,14,15],[0,1,2,3,4,5,6,7,8,9,10,11,12,13,14,15,16],[0,1,2,3,4,5,6,7,8,9,10,11,12,13,14,15,16,17]] [(false,0),(false,1),(false,2),(false,3),(false,5),(false,7),(false,8),(false,9),(true,4),(true,10),(false,11),(false,12),(false,13),(true,6),(true,14),(false,15),(false,16),(false,17),(true,18)]) (.leaf [[],[],[],[],[0,3,7,8,9,10],[],[0,3,4,5,7,8,9,10],[0,0],[0,7],[0,7,8],[0,7,8,9],[0,1,1,3,4,7,8,9,10],[0,1,3,4,7,8,9,10,11],[0,1,3,4,7,8,9,10,11,12],[0,1,3,4,5,6,7,8,9,10,11,12,13],[0,1,2,2,3,4,5,6,7,8,9,10,11,12,13,14],[0,1,2,3,4,5,6,7,8,9,10,11,12,13,14,15],[0,1,2,3,4,5,6,7,8,9,10,11,12,13,14,15,16],[0,1,2,3,4,5,6,7,8,9,10,11,12,13,14,15,16,17]] [(false,0),(false,1),(false,2),(false,3),(false,5),(false,7),(false,8),(false,9),(true,10),(true,4),(false,11),(false,12),(false,13),(true,6),(true,14),(false,15),(false,16),(false,17),(true,18)])) (.leaf [[],[],[],[],[0,3,5,6,7,8,9,10],[],[0,5,7,8,9,10],[0,0],[0,7],[0,7,8],[0,7,8,9],[0,1,3,4,5,6,7,8,9,10],[0,1,3,4,5,6,7,8,9,10,11],[0,1,3,4,5,6,7,8,9,10,11,12],[0,1,3,4,5,6,7,8,9,10,11,12,13],[0,1,2,2,3,4,5,6,7,8,9,10,11,12,13,14],[0,1,2,3,4,5,6,7,8,9,10,11,12,13,14,15],[0,1,2,3,4,5,6,7,8,9,10,11,12,13,14,15,16],[0,1,2,3,4,5,6,7,8,9,10,11,12,13,14,15,16,17]] [(false,0),(false,1),(false,2),(false,3),(false,5),(false,7),(false,8),(false,9),(true,10),(true,6),(true,4),(false,11),(false,12),(false,13),(true,14),(false,15),(false,16),(false,17),(true,18)]))) (.node 10 4 (.leaf [[],[],[],[],[3,3],[],[0,1,3,4,5,7,8,9,10,11,12,13,14],[0,0],[0,7],[0,7,8],[0,3,4,7,8,9],[0,1,1,3,4,7,8,9,10],[0,1,3,4,7,8,9,10,11],[0,1,3,4,7,8,9,10,11,12],[0,1,3,4,7,8,9,10,11,12,13],[0,1,2,2,3,4,5,6,7,8,9,10,11,12,13,14],[0,1,2,3,4,5,6,7,8,9,10,11,12,13,14,15],[0,1,2,3,4,5,6,7,8,9,10,11,12,13,14,15,16],[0,1,2,3,4,5,6,7,8,9,10,11,12,13,14,15,16,17]] [(false,0),(false,1),(false,2),(false,3),(false,5),(false,7),(false,8),(false,9),(true,4),(true,10),(false,11),(false,12),(false,13),(true,14),(true,6),(false,15),(false,16),(false,17),(true,18)]) (.leaf [[],[],[],[],[0,3,7,8,9,10],[],[0,1,3,4,5,7,8,9,10,11,12,13,14],[0,0],[0,7],[0,7,8],[0,7,8,9],[0,1,1,3,4,7,8,9,10],[0,1,3,4,7,8,9,10,11],[0,1,3,4,7,8,9,10,11,12],[0,1,3,4,7,8,9,10,11,12,13],[0,1,2,2,3,4,5,6,7,8,9,10,11,12,13,14],[0,1,2,3,4,5,6,7,8,9,10,11,12,13,14,15],[0,1,2,3,4,5,6,7,8,9,10,11,12,13,14,15,16],[0,1,2,3,4,5,6,7,8,9,10,11,12,13,14,15,16,17]] [(false,0),(false,1),(false,2),(false,3),(false,5),(false,7),(false,8),(false,9),(true,10),(true,4),(false,11),(false,12),(false,13),(true,14),(true,6),(false,15),(false,16),(false,17),(true,18)]))) (by kernel_rfl)<|H5 ?_ ?_
  ·refine H5 ?_ ?_
   ·refine H5 ?_ ?_
    ·refine H5 ?_ ?_
     ·refine F4<|Z (.q ids 0 g) O O Aa<|Z (.q ids 0 g) O O Aa<|Z (.q ids 0 g) O O Aa<|Z (.I n) O O Aa<|Z (.I n) O O Aa<|Z (.q ids 0 g) O O (Al O) ?_
      refine Z (.q ids 0 g) O O (Ai (Ae (c:=0) (off:=0) (i:=0) A6 O Ar O))<|Z (.ptr (ix ids 0) g 0 5) O O (Ai (Ae (c:=0) (off:=5) (i:=5) Ar O Av O))<|Cb fun hl=>Cn O O (fun _ _=>O) (fun K hK=>C2 (y:=(false:Bool)) (e:=rB) (st:=1) (j:=1) hI O O O Cv Hr O O hl.1 hl.2.1 hl.2.2 O O O O O fun v1 g1 vH=>hK _ _ (Ac O (Ai (Ae (c:=0) (off:=5) (i:=5) Ar O Av O)) (Ac O (Ai (Ae (c:=0) (off:=0) (i:=0) A6 O Ar O)) (Ac O (Al O) (Ac O Aa (Y O (Ac O Aa (Ac O Aa (Ac O Aa Ap)))))))) ?_)
      clear hK K
      refine Cb fun hl1=>Cn O O (fun _ _=>O) (fun K hK=>C2 (y:=(0:Int)) (e:=(rI .i64)) (st:=1) (j:=2) hI O O O B3 Av O O hl1.1 hl1.2.1 hl1.2.2 O O O O O fun v2 g2 vH1=>hK _ _ (Ac O (Ai (Ae (c:=0) (off:=5) (i:=5) Ar O Av O)) (Ac O (Ai (Ae (c:=0) (off:=0) (i:=0) A6 O Ar O)) (Ac O (Al O) (Y O (Y O (Ac O Aa (Ac O Aa (Ac O Aa Ap)))))))) ?_)
      clear hK K
      refine Bb O (fun _ _=>O) (fun K hK=>A3 (A8 (v:=(.I 0)) hI O O O O Av O O O O O) (hK _ _ (Y O (Y O (Y O (Y O (Y O (Ac O Aa (Ac O Aa (Y O Ap)))))))) ?_))
      clear hK K
      refine Z (.q ids 0 g) O O (Al O)<|Z (.q ids 0 g) O O (Ai (Ae (c:=0) (off:=0) (i:=0) A6 O Ar O))<|Z (.ptr (ix ids 0) g 0 7) O O (Ai (Ae (c:=0) (off:=7) (i:=7) Ar O Cv O))<|Bb O (fun _ _=>O) (fun K hK=>A3 (Cj vH hI O O O O Cv O O O) (hK _ _ (Y O (Y O (Y O (Y O (Y O (Y O (Y O (Y O (Ac O Aa (Y O (Y O Ap))))))))))) ?_))
      clear hK K
      refine Z (.q ids 0 g) O O (Al O)<|Z (.q ids 0 g) O O (Ai (Ae (c:=0) (off:=0) (i:=0) A6 O Ar O))<|Z (.ptr (ix ids 0) g 0 8) O O (Ai (Ae (c:=0) (off:=8) (i:=8) Ar O B3 O))<|Bb O (fun _ _=>O) (fun K hK=>A3 (Cj vH1 hI O O O O B3 O O O) (hK _ _ (Y O (Y O (Y O (Y O (Y O (Y O (Y O (Y O (Y O (Y O (Y O (Y O (Y O (Y O Ap)))))))))))))) ?_))
      clear hK K
      refine A9<|A4 ?_
      exact Bl (hJ ((List.replicate (Int.toNat n) false),(List.replicate (Int.toNat n) 0)) _ _ ⟨v1,g1,v2,g2,vH,vH1,O,O⟩)
     refine F4<|Cb fun hl3=>Cb fun hl2=>Z (.q ids 0 g) O O Aa<|Z (.q ids 0 g) O O Aa<|Z (.q ids 0 g) O O Aa<|Z (.I n) O O Aa ?_
     refine Z (.I n) O O Aa<|Z (.q ids 0 g) O O (Al O)<|Z (.q ids 0 g) O O (Ai (Ae (c:=0) (off:=0) (i:=0) A6 O Ar O))<|Z (.ptr (ix ids 0) g 0 5) O O (Ai (Ae (c:=0) (off:=5) (i:=5) Ar O Av O))<|Cn O O (fun _ _=>O) (fun K hK=>C2 (y:=(0:Int)) (e:=(rI .i64)) (st:=1) (j:=2) hI O O O B3 Av O O hl2.1 hl2.2.1 hl2.2.2 O O O O O fun v3 g3 vH2=>hK _ _ (Ac O (Ai (Ae (c:=0) (off:=5) (i:=5) Ar O Av O)) (Ac O (Ai (Ae (c:=0) (off:=0) (i:=0) A6 O Ar O)) (Ac O (Al O) (Y O (Ac O Aa (Ac O Aa (Ac O Aa (Ac O Aa Ap)))))))) ?_)
     clear hK K
     refine Cn O O (fun _ _=>O) (fun K hK=>C2 (y:=(false:Bool)) (e:=rB) (st:=1) (j:=1) hI O O O Cv Hr O O hl3.1 hl3.2.1 hl3.2.2 O O O O O fun v4 g4 vH3=>hK _ _ (Ac O (Ai (Ae (c:=0) (off:=5) (i:=5) Ar O Av O)) (Ac O (Ai (Ae (c:=0) (off:=0) (i:=0) A6 O Ar O)) (Ac O (Al O) (Y O (Y O (Ac O Aa (Ac O Aa (Ac O Aa Ap)))))))) ?_)
     clear hK K
     refine Bb O (fun _ _=>O) (fun K hK=>A3 (A8 (v:=(.I 0)) hI O O O O Av O O O O O) (hK _ _ (Y O (Y O (Y O (Y O (Y O (Ac O Aa (Ac O Aa (Y O Ap)))))))) ?_))
     clear hK K
     refine Z (.q ids 0 g) O O (Al O)<|Z (.q ids 0 g) O O (Ai (Ae (c:=0) (off:=0) (i:=0) A6 O Ar O))<|Z (.ptr (ix ids 0) g 0 7) O O (Ai (Ae (c:=0) (off:=7) (i:=7) Ar O Cv O))<|Bb O (fun _ _=>O) (fun K hK=>A3 (Cj vH3 hI O O O O Cv O O O) (hK _ _ (Y O (Y O (Y O (Y O (Y O (Y O (Y O (Y O (Ac O Aa (Y O (Y O Ap))))))))))) ?_))
     clear hK K
     refine Z (.q ids 0 g) O O (Al O)<|Z (.q ids 0 g) O O (Ai (Ae (c:=0) (off:=0) (i:=0) A6 O Ar O))<|Z (.ptr (ix ids 0) g 0 8) O O (Ai (Ae (c:=0) (off:=8) (i:=8) Ar O B3 O))<|Bb O (fun _ _=>O) (fun K hK=>A3 (Cj vH2 hI O O O O B3 O O O) (hK _ _ (Y O (Y O (Y O (Y O (Y O (Y O (Y O (Y O (Y O (Y O (Y O (Y O (Y O (Y O Ap)))))))))))))) ?_))
     clear hK K
     refine A9<|A4 ?_
     exact Bl (hJ ((List.replicate (Int.toNat n) false),(List.replicate (Int.toNat n) 0)) _ _ ⟨v4,g4,v3,g3,vH3,vH2,O,O⟩)
    refine F4<|Cb fun hl5=>Cb fun hl4=>Z (.q ids 0 g) O O Aa<|Z (.q ids 0 g) O O Aa<|Z (.q ids 0 g) O O Aa<|Z (.I n) O O Aa ?_
    refine Z (.I n) O O Aa<|Z (.q ids 0 g) O O (Al O)<|Z (.q ids 0 g) O O (Ai (Ae (c:=0) (off:=0) (i:=0) A6 O Ar O))<|Z (.ptr (ix ids 0) g 0 5) O O (Ai (Ae (c:=0) (off:=5) (i:=5) Ar O Av O))<|Cn O O (fun _ _=>O) (fun K hK=>C2 (y:=(0:Int)) (e:=(rI .i64)) (st:=1) (j:=2) hI O O O B3 Av O O hl4.1 hl4.2.1 hl4.2.2 O O O O O fun v5 g5 vH4=>hK _ _ (Ac O (Ai (Ae (c:=0) (off:=5) (i:=5) Ar O Av O)) (Ac O (Ai (Ae (c:=0) (off:=0) (i:=0) A6 O Ar O)) (Ac O (Al O) (Y O (Ac O Aa (Ac O Aa (Ac O Aa (Ac O Aa Ap)))))))) ?_)
    clear hK K
    refine Bb O (fun _ _=>O) (fun K hK=>A3 (A8 (v:=(.I 0)) hI O O O O Av O O O O O) (hK _ _ (Y O (Y O (Y O (Y O (Ac O Aa (Ac O Aa (Ac O Aa (Y O Ap)))))))) ?_))
    clear hK K
    refine Cn O O (fun _ _=>O) (fun K hK=>C2 (y:=(false:Bool)) (e:=rB) (st:=1) (j:=1) hI O O O Cv Hr O O hl5.1 hl5.2.1 hl5.2.2 O O O O O fun v6 g6 vH5=>hK _ _ (Y O (Y O (Y O (Y O (Y O (Ac O Aa (Ac O Aa (Y O Ap)))))))) ?_)
    clear hK K
    refine Z (.q ids 0 g) O O (Al O)<|Z (.q ids 0 g) O O (Ai (Ae (c:=0) (off:=0) (i:=0) A6 O Ar O))<|Z (.ptr (ix ids 0) g 0 7) O O (Ai (Ae (c:=0) (off:=7) (i:=7) Ar O Cv O))<|Bb O (fun _ _=>O) (fun K hK=>A3 (Cj vH5 hI O O O O Cv O O O) (hK _ _ (Y O (Y O (Y O (Y O (Y O (Y O (Y O (Y O (Ac O Aa (Y O (Y O Ap))))))))))) ?_))
    clear hK K
    refine Z (.q ids 0 g) O O (Al O)<|Z (.q ids 0 g) O O (Ai (Ae (c:=0) (off:=0) (i:=0) A6 O Ar O))<|Z (.ptr (ix ids 0) g 0 8) O O (Ai (Ae (c:=0) (off:=8) (i:=8) Ar O B3 O))<|Bb O (fun _ _=>O) (fun K hK=>A3 (Cj vH4 hI O O O O B3 O O O) (hK _ _ (Y O (Y O (Y O (Y O (Y O (Y O (Y O (Y O (Y O (Y O (Y O (Y O (Y O (Y O Ap)))))))))))))) ?_))
    clear hK K
    refine A9<|A4 ?_
    exact Bl (hJ ((List.replicate (Int.toNat n) false),(List.replicate (Int.toNat n) 0)) _ _ ⟨v6,g6,v5,g5,vH5,vH4,O,O⟩)
   refine H5 ?_ ?_
   ·refine H5 ?_ ?_
    ·refine F4<|Cb fun hl6=>Cb fun hl7=>Z (.q ids 0 g) O O Aa<|Z (.q ids 0 g) O O Aa<|Z (.q ids 0 g) O O Aa<|Z (.I n) O O Aa ?_
     refine Z (.I n) O O Aa<|Z (.q ids 0 g) O O (Al O)<|Z (.q ids 0 g) O O (Ai (Ae (c:=0) (off:=0) (i:=0) A6 O Ar O))<|Z (.ptr (ix ids 0) g 0 5) O O (Ai (Ae (c:=0) (off:=5) (i:=5) Ar O Av O))<|Cn O O (fun _ _=>O) (fun K hK=>C2 (y:=(false:Bool)) (e:=rB) (st:=1) (j:=1) hI O O O Cv Hr O O hl6.1 hl6.2.1 hl6.2.2 O O O O O fun v7 g7 vH6=>hK _ _ (Ac O (Ai (Ae (c:=0) (off:=5) (i:=5) Ar O Av O)) (Ac O (Ai (Ae (c:=0) (off:=0) (i:=0) A6 O Ar O)) (Ac O (Al O) (Ac O Aa (Y O (Ac O Aa (Ac O Aa (Ac O Aa Ap)))))))) ?_)
     clear hK K
     refine Bb O (fun _ _=>O) (fun K hK=>A3 (A8 (v:=(.I 0)) hI O O O O Av O O O O O) (hK _ _ (Y O (Y O (Y O (Ac O Aa (Y O (Ac O Aa (Ac O Aa (Y O Ap)))))))) ?_))
     clear hK K
     refine Z (.q ids 0 g) O O (Al O)<|Z (.q ids 0 g) O O (Ai (Ae (c:=0) (off:=0) (i:=0) A6 O Ar O))<|Z (.ptr (ix ids 0) g 0 7) O O (Ai (Ae (c:=0) (off:=7) (i:=7) Ar O Cv O))<|Cn O O (fun _ _=>O) (fun K hK=>C2 (y:=(0:Int)) (e:=(rI .i64)) (st:=1) (j:=2) hI O O O B3 Av O O hl7.1 hl7.2.1 hl7.2.2 O O O O O fun v8 g8 vH7=>hK _ _ (Ac O (Ai (Ae (c:=0) (off:=7) (i:=7) Ar O Cv O)) (Ac O (Ai (Ae (c:=0) (off:=0) (i:=0) A6 O Ar O)) (Ac O (Al O) (Y O (Y O (Y O (Y O (Y O (Ac O Aa (Ac O Aa (Y O Ap))))))))))) ?_)
     clear hK K
     refine Bb O (fun _ _=>O) (fun K hK=>A3 (Cj vH6 hI O O O O Cv O O O) (hK _ _ (Y O (Y O (Y O (Y O (Y O (Y O (Y O (Y O (Ac O Aa (Y O (Y O Ap))))))))))) ?_))
     clear hK K
     refine Z (.q ids 0 g) O O (Al O)<|Z (.q ids 0 g) O O (Ai (Ae (c:=0) (off:=0) (i:=0) A6 O Ar O))<|Z (.ptr (ix ids 0) g 0 8) O O (Ai (Ae (c:=0) (off:=8) (i:=8) Ar O B3 O))<|Bb O (fun _ _=>O) (fun K hK=>A3 (Cj vH7 hI O O O O B3 O O O) (hK _ _ (Y O (Y O (Y O (Y O (Y O (Y O (Y O (Y O (Y O (Y O (Y O (Y O (Y O (Y O Ap)))))))))))))) ?_))
     clear hK K
     refine A9<|A4 ?_
     exact Bl (hJ ((List.replicate (Int.toNat n) false),(List.replicate (Int.toNat n) 0)) _ _ ⟨v7,g7,v8,g8,vH6,vH7,O,O⟩)
    refine F4<|Cb fun hl8=>Cb fun hl9=>Z (.q ids 0 g) O O Aa<|Z (.q ids 0 g) O O Aa<|Z (.q ids 0 g) O O Aa<|Z (.I n) O O Aa ?_
    refine Z (.I n) O O Aa<|Z (.q ids 0 g) O O (Al O)<|Z (.q ids 0 g) O O (Ai (Ae (c:=0) (off:=0) (i:=0) A6 O Ar O))<|Z (.ptr (ix ids 0) g 0 5) O O (Ai (Ae (c:=0) (off:=5) (i:=5) Ar O Av O))<|Bb O (fun _ _=>O) (fun K hK=>A3 (A8 (v:=(.I 0)) hI O O O O Av O O O O O) (hK _ _ (Y O (Y O (Y O (Ac O Aa (Ac O Aa (Ac O Aa (Ac O Aa (Y O Ap)))))))) ?_))
    clear hK K
    refine Cn O O (fun _ _=>O) (fun K hK=>C2 (y:=(false:Bool)) (e:=rB) (st:=1) (j:=1) hI O O O Cv Hr O O hl8.1 hl8.2.1 hl8.2.2 O O O O O fun v9 g9 vH8=>hK _ _ (Y O (Y O (Y O (Ac O Aa (Y O (Ac O Aa (Ac O Aa (Y O Ap)))))))) ?_)
    clear hK K
    refine Z (.q ids 0 g) O O (Al O)<|Z (.q ids 0 g) O O (Ai (Ae (c:=0) (off:=0) (i:=0) A6 O Ar O))<|Z (.ptr (ix ids 0) g 0 7) O O (Ai (Ae (c:=0) (off:=7) (i:=7) Ar O Cv O))<|Cn O O (fun _ _=>O) (fun K hK=>C2 (y:=(0:Int)) (e:=(rI .i64)) (st:=1) (j:=2) hI O O O B3 Av O O hl9.1 hl9.2.1 hl9.2.2 O O O O O fun v10 g10 vH9=>hK _ _ (Ac O (Ai (Ae (c:=0) (off:=7) (i:=7) Ar O Cv O)) (Ac O (Ai (Ae (c:=0) (off:=0) (i:=0) A6 O Ar O)) (Ac O (Al O) (Y O (Y O (Y O (Y O (Y O (Ac O Aa (Ac O Aa (Y O Ap))))))))))) ?_)
    clear hK K
    refine Bb O (fun _ _=>O) (fun K hK=>A3 (Cj vH8 hI O O O O Cv O O O) (hK _ _ (Y O (Y O (Y O (Y O (Y O (Y O (Y O (Y O (Ac O Aa (Y O (Y O Ap))))))))))) ?_))
    clear hK K
    refine Z (.q ids 0 g) O O (Al O)<|Z (.q ids 0 g) O O (Ai (Ae (c:=0) (off:=0) (i:=0) A6 O Ar O))<|Z (.ptr (ix ids 0) g 0 8) O O (Ai (Ae (c:=0) (off:=8) (i:=8) Ar O B3 O))<|Bb O (fun _ _=>O) (fun K hK=>A3 (Cj vH9 hI O O O O B3 O O O) (hK _ _ (Y O (Y O (Y O (Y O (Y O (Y O (Y O (Y O (Y O (Y O (Y O (Y O (Y O (Y O Ap)))))))))))))) ?_))
    clear hK K
    refine A9<|A4 ?_
    exact Bl (hJ ((List.replicate (Int.toNat n) false),(List.replicate (Int.toNat n) 0)) _ _ ⟨v9,g9,v10,g10,vH8,vH9,O,O⟩)
   refine F4<|Cb fun hl11=>Cb fun hl10=>Z (.q ids 0 g) O O Aa<|Z (.q ids 0 g) O O Aa<|Z (.q ids 0 g) O O Aa<|Z (.I n) O O Aa ?_
   refine Z (.I n) O O Aa<|Z (.q ids 0 g) O O (Al O)<|Z (.q ids 0 g) O O (Ai (Ae (c:=0) (off:=0) (i:=0) A6 O Ar O))<|Z (.ptr (ix ids 0) g 0 5) O O (Ai (Ae (c:=0) (off:=5) (i:=5) Ar O Av O))<|Bb O (fun _ _=>O) (fun K hK=>A3 (A8 (v:=(.I 0)) hI O O O O Av O O O O O) (hK _ _ (Y O (Y O (Y O (Ac O Aa (Ac O Aa (Ac O Aa (Ac O Aa (Y O Ap)))))))) ?_))
   clear hK K
   refine Cn O O (fun _ _=>O) (fun K hK=>C2 (y:=(0:Int)) (e:=(rI .i64)) (st:=1) (j:=2) hI O O O B3 Av O O hl10.1 hl10.2.1 hl10.2.2 O O O O O fun v11 g11 vH10=>hK _ _ (Y O (Y O (Y O (Y O (Ac O Aa (Ac O Aa (Ac O Aa (Y O Ap)))))))) ?_)
   clear hK K
   refine Cn O O (fun _ _=>O) (fun K hK=>C2 (y:=(false:Bool)) (e:=rB) (st:=1) (j:=1) hI O O O Cv Hr O O hl11.1 hl11.2.1 hl11.2.2 O O O O O fun v12 g12 vH11=>hK _ _ (Y O (Y O (Y O (Y O (Y O (Ac O Aa (Ac O Aa (Y O Ap)))))))) ?_)
   clear hK K
   refine Z (.q ids 0 g) O O (Al O)<|Z (.q ids 0 g) O O (Ai (Ae (c:=0) (off:=0) (i:=0) A6 O Ar O))<|Z (.ptr (ix ids 0) g 0 7) O O (Ai (Ae (c:=0) (off:=7) (i:=7) Ar O Cv O))<|Bb O (fun _ _=>O) (fun K hK=>A3 (Cj vH11 hI O O O O Cv O O O) (hK _ _ (Y O (Y O (Y O (Y O (Y O (Y O (Y O (Y O (Ac O Aa (Y O (Y O Ap))))))))))) ?_))
   clear hK K
   refine Z (.q ids 0 g) O O (Al O)<|Z (.q ids 0 g) O O (Ai (Ae (c:=0) (off:=0) (i:=0) A6 O Ar O))<|Z (.ptr (ix ids 0) g 0 8) O O (Ai (Ae (c:=0) (off:=8) (i:=8) Ar O B3 O))<|Bb O (fun _ _=>O) (fun K hK=>A3 (Cj vH10 hI O O O O B3 O O O) (hK _ _ (Y O (Y O (Y O (Y O (Y O (Y O (Y O (Y O (Y O (Y O (Y O (Y O (Y O (Y O Ap)))))))))))))) ?_))
   clear hK K
   refine A9<|A4 ?_
   exact Bl (hJ ((List.replicate (Int.toNat n) false),(List.replicate (Int.toNat n) 0)) _ _ ⟨v12,g12,v11,g11,vH11,vH10,O,O⟩)
  refine H5 ?_ ?_
  ·refine F4<|Cb fun hl12=>Cb fun hl13=>Z (.q ids 0 g) O O Aa<|Z (.q ids 0 g) O O Aa<|Z (.q ids 0 g) O O Aa<|Z (.I n) O O Aa ?_
   refine Z (.I n) O O Aa<|Z (.q ids 0 g) O O (Al O)<|Z (.q ids 0 g) O O (Ai (Ae (c:=0) (off:=0) (i:=0) A6 O Ar O))<|Z (.ptr (ix ids 0) g 0 5) O O (Ai (Ae (c:=0) (off:=5) (i:=5) Ar O Av O))<|Cn O O (fun _ _=>O) (fun K hK=>C2 (y:=(false:Bool)) (e:=rB) (st:=1) (j:=1) hI O O O Cv Hr O O hl12.1 hl12.2.1 hl12.2.2 O O O O O fun v13 g13 vH12=>hK _ _ (Ac O (Ai (Ae (c:=0) (off:=5) (i:=5) Ar O Av O)) (Ac O (Ai (Ae (c:=0) (off:=0) (i:=0) A6 O Ar O)) (Ac O (Al O) (Ac O Aa (Y O (Ac O Aa (Ac O Aa (Ac O Aa Ap)))))))) ?_)
   clear hK K
   refine Bb O (fun _ _=>O) (fun K hK=>A3 (A8 (v:=(.I 0)) hI O O O O Av O O O O O) (hK _ _ (Y O (Y O (Y O (Ac O Aa (Y O (Ac O Aa (Ac O Aa (Y O Ap)))))))) ?_))
   clear hK K
   refine Z (.q ids 0 g) O O (Al O)<|Z (.q ids 0 g) O O (Ai (Ae (c:=0) (off:=0) (i:=0) A6 O Ar O))<|Z (.ptr (ix ids 0) g 0 7) O O (Ai (Ae (c:=0) (off:=7) (i:=7) Ar O Cv O))<|Bb O (fun _ _=>O) (fun K hK=>A3 (Cj vH12 hI O O O O Cv O O O) (hK _ _ (Y O (Y O (Y O (Y O (Y O (Y O (Ac O Aa (Y O (Ac O Aa (Y O (Y O Ap))))))))))) ?_))
   clear hK K
   refine Cn O O (fun _ _=>O) (fun K hK=>C2 (y:=(0:Int)) (e:=(rI .i64)) (st:=1) (j:=2) hI O O O B3 Av O O hl13.1 hl13.2.1 hl13.2.2 O O O O O fun v14 g14 vH13=>hK _ _ (Y O (Y O (Y O (Y O (Y O (Y O (Y O (Y O (Ac O Aa (Y O (Y O Ap))))))))))) ?_)
   clear hK K
   refine Z (.q ids 0 g) O O (Al O)<|Z (.q ids 0 g) O O (Ai (Ae (c:=0) (off:=0) (i:=0) A6 O Ar O))<|Z (.ptr (ix ids 0) g 0 8) O O (Ai (Ae (c:=0) (off:=8) (i:=8) Ar O B3 O))<|Bb O (fun _ _=>O) (fun K hK=>A3 (Cj vH13 hI O O O O B3 O O O) (hK _ _ (Y O (Y O (Y O (Y O (Y O (Y O (Y O (Y O (Y O (Y O (Y O (Y O (Y O (Y O Ap)))))))))))))) ?_))
   clear hK K
   refine A9<|A4 ?_
   exact Bl (hJ ((List.replicate (Int.toNat n) false),(List.replicate (Int.toNat n) 0)) _ _ ⟨v13,g13,v14,g14,vH12,vH13,O,O⟩)
  refine F4<|Cb fun hl14=>Cb fun hl15=>Z (.q ids 0 g) O O Aa<|Z (.q ids 0 g) O O Aa<|Z (.q ids 0 g) O O Aa<|Z (.I n) O O Aa ?_
  refine Z (.I n) O O Aa<|Z (.q ids 0 g) O O (Al O)<|Z (.q ids 0 g) O O (Ai (Ae (c:=0) (off:=0) (i:=0) A6 O Ar O))<|Z (.ptr (ix ids 0) g 0 5) O O (Ai (Ae (c:=0) (off:=5) (i:=5) Ar O Av O))<|Bb O (fun _ _=>O) (fun K hK=>A3 (A8 (v:=(.I 0)) hI O O O O Av O O O O O) (hK _ _ (Y O (Y O (Y O (Ac O Aa (Ac O Aa (Ac O Aa (Ac O Aa (Y O Ap)))))))) ?_))
  clear hK K
  refine Cn O O (fun _ _=>O) (fun K hK=>C2 (y:=(false:Bool)) (e:=rB) (st:=1) (j:=1) hI O O O Cv Hr O O hl14.1 hl14.2.1 hl14.2.2 O O O O O fun v15 g15 vH14=>hK _ _ (Y O (Y O (Y O (Ac O Aa (Y O (Ac O Aa (Ac O Aa (Y O Ap)))))))) ?_)
  clear hK K
  refine Z (.q ids 0 g) O O (Al O)<|Z (.q ids 0 g) O O (Ai (Ae (c:=0) (off:=0) (i:=0) A6 O Ar O))<|Z (.ptr (ix ids 0) g 0 7) O O (Ai (Ae (c:=0) (off:=7) (i:=7) Ar O Cv O))<|Bb O (fun _ _=>O) (fun K hK=>A3 (Cj vH14 hI O O O O Cv O O O) (hK _ _ (Y O (Y O (Y O (Y O (Y O (Y O (Ac O Aa (Y O (Ac O Aa (Y O (Y O Ap))))))))))) ?_))
  clear hK K
  refine Cn O O (fun _ _=>O) (fun K hK=>C2 (y:=(0:Int)) (e:=(rI .i64)) (st:=1) (j:=2) hI O O O B3 Av O O hl15.1 hl15.2.1 hl15.2.2 O O O O O fun v16 g16 vH15=>hK _ _ (Y O (Y O (Y O (Y O (Y O (Y O (Y O (Y O (Ac O Aa (Y O (Y O Ap))))))))))) ?_)
  clear hK K
  refine Z (.q ids 0 g) O O (Al O)<|Z (.q ids 0 g) O O (Ai (Ae (c:=0) (off:=0) (i:=0) A6 O Ar O))<|Z (.ptr (ix ids 0) g 0 8) O O (Ai (Ae (c:=0) (off:=8) (i:=8) Ar O B3 O))<|Bb O (fun _ _=>O) (fun K hK=>A3 (Cj vH15 hI O O O O B3 O O O) (hK _ _ (Y O (Y O (Y O (Y O (Y O (Y O (Y O (Y O (Y O (Y O (Y O (Y O (Y O (Y O Ap)))))))))))))) ?_))
  clear hK K
  refine A9<|A4 ?_
  exact Bl (hJ ((List.replicate (Int.toNat n) false),(List.replicate (Int.toNat n) 0)) _ _ ⟨v15,g15,v16,g16,vH14,vH15,O,O⟩)
 refine Dh O (fun hc=>?_) (fun hc=>?_)
 ·refine Ab<|Aq 6 [0] [(2,(.I s_Replica.Many))] ?_
  refine Ag<|Bl (hJ1 s_Replica.Many _ _ ⟨O,O⟩)
 refine Bj<|Bl (hJ1 0 _ _ ⟨O,O⟩)
theorem L5 (s:T87):CP Try.prog 59 [(.cp (Vc s) 0)] (F0 s) (fun(x:Int)=>(AV.int .i64 x)):=by
 refine Ec (n:=25) 0 Try.func59 O (by decide) O O fun h0 ids hI=>B5 (A2 (F0.eq_1 _) ?_)
 refine Ad<|Ab<|Af (.I 0) O As<|Ag<|Ad<|Ad<|Ab ?_
 refine Aq 5 [] [(7,(.sl 2 (List.map Ak s.Replica.Log)))] ?_
 refine Af (.I (s.Replica.Log.length:Int)) O (Bn (Bs Bq))<|Af (.bool ((s.Replica.Log.length:Int)==0)) O (Bc O O O)<|Ag<|Dh O (fun hc=>?_) (fun hc=>?_)
 ·refine Ad<|Ab<|Af (.I 0) O As<|Ag<|Cu (a:=0) (vs:=[(.I 0)]) Try.func59 hI O (.same _)
 refine Bj<|Ad<|Bx Dd [[],[0],[0,1],[0,1,2],[0,1,2,3],[],[5],[5,6],[5,6,7],[5,6,7,8],[5,6,7,8,9],[5,6,7,8,9,10],[0,1,2,3,4,5,6,7,8,9,10,11],[0,1,2,3,4,5,6,7,8,9,10,11,12],[0,1,2,3,4,5,6,7,8,9,10,11,12,13],[0,1,2,3,4,5,6,7,8,9,10,11,12,13,14,14]] [(false,0),(false,1),(false,2),(false,3),(false,4),(false,5),(false,6),(false,7),(false,8),(false,9),(false,10),(false,11),(false,12),(false,13),(false,14),(false,15)] (by kernel_rfl)<|Z (.cp (Vc s) 0) O O Aa<|Z (.cp (Vc s) 0) O O (Al O)<|Z (.cp (Vc s) 0) O O (Ai (Od (c:=0) (off:=0) (i:=0) A6 O Ar O))<|Z (.cp (Vc s) 4) O O (Ai (Od (c:=0) (off:=4) (i:=4) Ar O Bq O)) ?_
 refine Z (.sl 2 (List.map Ak s.Replica.Log)) O O (Aj (Ex Bq O))<|Z (.cp (Vc s) 0) O O Aa<|Z (.cp (Vc s) 0) O O (Al O)<|Z (.cp (Vc s) 0) O O (Ai (Od (c:=0) (off:=0) (i:=0) A6 O Ar O))<|Z (.cp (Vc s) 4) O O (Ai (Od (c:=0) (off:=4) (i:=4) Ar O Bq O))<|Z (.sl 2 (List.map Ak s.Replica.Log)) O O (Aj (Ex Bq O))<|Z (.I (s.Replica.Log.length:Int)) O O (Bn (Bs Bq)) ?_
 refine Z (.I (IntKind.wrap .i64 ((s.Replica.Log.length:Int) - 1))) O O (Bc O O O)<|Iq fun a hz hx1=>Z (.cp (Ak a) 0) O O (Bu (G0 Bq D0 O hz hx1))<|Z (.cp (Ak a) 0) O O (Ai (Od (c:=0) (off:=0) (i:=0) D0 O Av O))<|Z (.I a.Term) O O (Aj (Ex Av O))<|Z (.I a.Term) O O As<|A9 ?_
 exact Cu (a:=a.Term) (vs:=[(.I a.Term)]) Try.func59 hI O (.same _)
theorem Om (vto:Int)(mKind:Int)(mFrom:Int)(mTo:Int)(mTerm:Int)(mLast:Int)(mLastTerm:Int)(mCommit:Int)(mMatch:Int)(mGranted:Bool)(s_Replica:Replica)(h0:Ah)(o0:Nat)(o1:Nat)(g:Nat)(hI0:Ids h0 [o0,o1] 2):Eo vto mKind mFrom mTo mTerm mLast mLastTerm mCommit mMatch mGranted s_Replica≠.bad→Bm Try.prog 69 [(.ptr o0 g 0 0),(.int .i64 vto),(.agg [(.int .i64 mKind),(.int .i64 mFrom),(.int .i64 mTo),(.int .i64 mTerm),(.int .i64 mLast),(.int .i64 mLastTerm),.emp,(.int .i64 mCommit),(.int .i64 mMatch),(.bool mGranted)])] (hp h0 [o0,o1] [some (.rows g 10 [[(.int .i64 s_Replica.ID),(.int .i64 s_Replica.Many),(.int .i64 s_Replica.Term),(.int .i64 s_Replica.Vote),(.sl 2 (List.map Ak s_Replica.Log)),(.int .i64 s_Replica.Role),(.int .i64 s_Replica.Commit),(.sl 1 (List.map rB s_Replica.Votes)),(.sl 1 (List.map (rI .i64) s_Replica.Match)),.emp]]),none]) (Eg (fun a_ v h' => ∃ (v2:AV),∃ (g3:Nat),Bk v2 o1 g3 a_.length∧v=(.tup [])∧h'=hp h0 [o0,o1] [some (.rows g 10 [[(.int .i64 s_Replica.ID),(.int .i64 s_Replica.Many),(.int .i64 s_Replica.Term),(.int .i64 s_Replica.Vote),(.sl 2 (List.map Ak s_Replica.Log)),(.int .i64 s_Replica.Role),(.int .i64 s_Replica.Commit),(.sl 1 (List.map rB s_Replica.Votes)),(.sl 1 (List.map (rI .i64) s_Replica.Match)),v2]]),A5 v2 g3 10 (List.map An a_)]) h0 (Eo vto mKind mFrom mTo mTerm mLast mLastTerm mCommit mMatch mGranted s_Replica)):=by
 refine Ci (n:=30) 1 Try.func69 O (by decide) O O hI0 O fun ids he hI=>?_
 clear hI0
 obtain rfl:ix ids 0=o0:=he 0 rfl
 obtain rfl:ix ids 1=o1:=he 1 rfl
 clear he
 refine B5 (A2 (Eo.eq_1 _ _ _ _ _ _ _ _ _ _ _) ?_)
 refine A4 ?_
 refine Ad<|Ab<|Dk (v:=(.agg [(.I mKind),(.I mFrom),(.I mTo),(.I mTerm),(.I mLast),(.I mLastTerm),.emp,(.I mCommit),(.I mMatch),(.bool mGranted)])) (j:=2) hI O O O O O O O fun g1=>Ag<|A4 ?_
 refine Ad<|Bx Dd [[],[0],[0,1],[0,1,2],[0,1,2,3],[],[],[6],[6,7],[6,7,8],[6,7,8,9],[0,1,2,3,4],[0,1,2,3,4,4,11],[0,1,2,3,4,5,11,12],[0,1,2,3,4,5,5,11,12,12,13],[0,1,2,3,4,5,6,7,8,9,10,11,12,13,14],[0,1,2,3,4,5,6,7,8,9,10,10,11,12,13,14,14,15]] [(false,0),(false,1),(false,2),(false,3),(false,4),(false,5),(false,6),(false,7),(false,8),(false,9),(false,10),(false,11),(true,12),(false,13),(true,14),(false,15),(true,16)] (by kernel_rfl)<|Z (.q ids 0 g) O O Aa<|Z (.q ids 0 g) O O (Al O)<|Z (.q ids 0 g) O O (Ai (Ae (c:=0) (off:=0) (i:=0) A6 O Ar O))<|Z (.q ids 0 g) O O (Ai (Ae (c:=0) (off:=0) (i:=0) Ar O Av O))<|Z (.I s_Replica.ID) O O (Aj (Ao hI O O O Av O)) ?_
 refine Z (.I vto) O O Aa<|Z (.q ids 0 g) O O Aa<|Z (.q ids 0 g) O O (Al O)<|Z (.q ids 0 g) O O (Ai (Ae (c:=0) (off:=0) (i:=0) A6 O Ar O))<|Z (.ptr (ix ids 0) g 0 2) O O (Ai (Ae (c:=0) (off:=2) (i:=2) Ar O Av O))<|Z (.I s_Replica.Term) O O (Aj (Ao hI O O O Av O))<|Z (.ptr (ix ids 2) g1 0 1) O O (Ai (Ae (c:=0) (off:=1) (i:=1) Bp O Av O)) ?_
 refine Bb O (fun _ _=>O) (fun K hK=>A3 (A8 (v:=(.I s_Replica.ID)) hI O O O O Av O O O O O) (hK _ _ (Y O (Ac O (Aj (Ao hI O O O Av O)) (Ac O (Ai (Ae (c:=0) (off:=2) (i:=2) Ar O Av O)) (Ac O (Ai (Ae (c:=0) (off:=0) (i:=0) A6 O Ar O)) (Ac O (Al O) (Ac O Aa (Ac O Aa (Y O (Y O (Y O (Y O (Y O Ap)))))))))))) ?_))
 clear hK K
 refine Z (.ptr (ix ids 2) g1 0 2) O O (Ai (Ae (c:=0) (off:=2) (i:=2) Bp O Av O))<|Bb O (fun _ _=>O) (fun K hK=>A3 (A8 (v:=(.I vto)) hI O O O O Av O O O O O) (hK _ _ (Y O (Y O (Ac O (Aj (Ao hI O O O Av O)) (Ac O (Ai (Ae (c:=0) (off:=2) (i:=2) Ar O Av O)) (Ac O (Ai (Ae (c:=0) (off:=0) (i:=0) A6 O Ar O)) (Ac O (Al O) (Ac O Aa (Y O (Y O (Y O (Y O (Y O (Y O Ap))))))))))))) ?_))
 clear hK K
 refine Z (.ptr (ix ids 2) g1 0 3) O O (Ai (Ae (c:=0) (off:=3) (i:=3) Bp O Av O))<|Bb O (fun _ _=>O) (fun K hK=>A3 (A8 (v:=(.I s_Replica.Term)) hI O O O O Av O O O O O) (hK _ _ (Y O (Y O (Y O (Y O (Y O (Y O (Y O (Y O (Y O (Y O (Y O (Y O (Y O (Y O Ap)))))))))))))) ?_))
 clear hK K
 refine A9<|A4 ?_
 refine Bx Dd [[],[],[1],[1,2],[1,2,3],[],[5],[1,2,3,4,5,6],[0,0,1,2,3,4,5,6,7],[0,1,2,3,4,5,6,7,8],[0,1,2,3,4,5,6,7,8,9]] [(false,0),(false,1),(false,2),(false,3),(false,4),(false,5),(true,6),(true,7),(false,8),(false,9),(true,10)] (by kernel_rfl)<|Z (.q ids 0 g) O O Aa<|Z (.q ids 0 g) O O Aa<|Z (.q ids 0 g) O O (Al O)<|Z (.ptr (ix ids 0) g 0 9) O O (Ai (Ae (c:=0) (off:=9) (i:=1) A6 O Cp O))<|Z .emp O O (Aj (Ao hI O O O Cp O))<|Z (.agg [(.I mKind),(.I s_Replica.ID),(.I vto),(.I s_Replica.Term),(.I mLast),(.I mLastTerm),.emp,(.I mCommit),(.I mMatch),(.bool mGranted)]) O O (Aj (Ao hI O O O Bp O)) ?_
 refine Cn O O (fun _ _=>O) (fun K hK=>Ic (e:=An) (L:=[({ Kind:=mKind,From:=s_Replica.ID,To:=vto,Term:=s_Replica.Term,Last:=mLast,LastTerm:=mLastTerm,Log:=[],Commit:=mCommit,Match:=mMatch,Granted:=mGranted }:Message)]) (st:=10) (rows:=[[(.I mKind),(.I s_Replica.ID),(.I vto),(.I s_Replica.Term),(.I mLast),(.I mLastTerm),.emp,(.I mCommit),(.I mMatch),(.bool mGranted)]]) Cp Bp O O O O O (.cons (.cons (.same _) (.cons (.same _) (.cons (.same _) (.cons (.same _) (.cons (.same _) (.cons (.same _) (.cons (.emp _) (.cons (.same _) (.cons (.same _) (.cons (.same _) .nil)))))))))) .nil) (fun x=>Hx x) O O (hK _ _ (Y O (Ac O (Aj (Ao hI O O O Cp O)) (Ac O (Ai (Ae (c:=0) (off:=9) (i:=1) A6 O Cp O)) (Ac O (Al O) (Ac O Aa (Ac O Aa Ap)))))) ?_))
 clear hK K
 refine Cb fun hl=>Cn O O (fun _ _=>O) (fun K hK=>Fo (e:=An) (L:=([]:List Message)) (L2:=[({ Kind:=mKind,From:=s_Replica.ID,To:=vto,Term:=s_Replica.Term,Last:=mLast,LastTerm:=mLastTerm,Log:=[],Commit:=mCommit,Match:=mMatch,Granted:=mGranted }:Message)]) (v:=.emp) (g:=0) (st:=10) (j:=1) hI O O O .nil O (Ht O) Cp Cp O Bp O O O (by simpa using hl) fun v1 g2 vH=>hK _ _ (Y O (Y O (Y O (Y O (Y O (Ac O Aa Ap)))))) ?_)
 clear hK K
 refine Z (.q ids 0 g) O O (Al O)<|Z (.ptr (ix ids 0) g 0 9) O O (Ai (Ae (c:=0) (off:=9) (i:=1) A6 O Cp O))<|Bb O (fun _ _=>O) (fun K hK=>A3 (Cj vH hI O O O O Cp O O O) (hK _ _ (Y O (Y O (Y O (Y O (Y O (Y O (Y O (Y O Ap)))))))) ?_))
 clear hK K
 refine A9<|A4 ?_
 exact E1 (K:=2) (N:=1) (a:=[({ Kind:=mKind,From:=s_Replica.ID,To:=vto,Term:=s_Replica.Term,Last:=mLast,LastTerm:=mLastTerm,Log:=[],Commit:=mCommit,Match:=mMatch,Granted:=mGranted }:Message)]) (vs:=[]) [some (.rows g 10 [[(.I s_Replica.ID),(.I s_Replica.Many),(.I s_Replica.Term),(.I s_Replica.Vote),(.sl 2 (List.map Ak s_Replica.Log)),(.I s_Replica.Role),(.I s_Replica.Commit),(.sl 1 (List.map rB s_Replica.Votes)),(.sl 1 (List.map (rI .i64) s_Replica.Match)),v1]]),A5 v1 g2 10 (List.map An [({ Kind:=mKind,From:=s_Replica.ID,To:=vto,Term:=s_Replica.Term,Last:=mLast,LastTerm:=mLastTerm,Log:=[],Commit:=mCommit,Match:=mMatch,Granted:=mGranted }:Message)])] Try.func69 hI O O O (.keep (.keep (.drop .nil))) (.same _) ⟨v1,g2,vH,O,O⟩
theorem Tt (m:Message)(s_Replica:Replica)(h0:Ah)(o0:Nat)(o1:Nat)(g:Nat)(hI0:Ids h0 [o0,o1] 2):Gp m s_Replica≠.bad→Bm Try.prog 48 [(.ptr o0 g 0 0),(.agg (An m))] (hp h0 [o0,o1] [some (.rows g 10 [[(.int .i64 s_Replica.ID),(.int .i64 s_Replica.Many),(.int .i64 s_Replica.Term),(.int .i64 s_Replica.Vote),(.sl 2 (List.map Ak s_Replica.Log)),(.int .i64 s_Replica.Role),(.int .i64 s_Replica.Commit),(.sl 1 (List.map rB s_Replica.Votes)),(.sl 1 (List.map (rI .i64) s_Replica.Match)),.emp]]),none]) (Eg (fun a_ v h' => ∃ (v2:AV),∃ (g3:Nat),Bk v2 o1 g3 a_.2.length∧v=(.tup [])∧h'=hp h0 [o0,o1] [some (.rows g 10 [[(.int .i64 a_.1.ID),(.int .i64 a_.1.Many),(.int .i64 a_.1.Term),(.int .i64 a_.1.Vote),(.sl 2 (List.map Ak a_.1.Log)),(.int .i64 a_.1.Role),(.int .i64 a_.1.Commit),(.sl 1 (List.map rB a_.1.Votes)),(.sl 1 (List.map (rI .i64) a_.1.Match)),v2]]),A5 v2 g3 10 (List.map An a_.2)]) h0 (Gp m s_Replica)):=by
 refine Ci (n:=71) 1 Try.func48 O (by decide) O O hI0 O fun ids he hI=>?_
 clear hI0
 obtain rfl:ix ids 0=o0:=he 0 rfl
 obtain rfl:ix ids 1=o1:=he 1 rfl
 clear he
 refine B5 (A2 (Gp.eq_1 _ _) ?_)
 refine A4 ?_
 refine Ad<|Ab<|Dk (v:=(.agg (An m))) (j:=2) hI O O O O O O O fun g1=>Ag<|A4 ?_
 refine Ad<|Em (fun good=>Fl m s_Replica good) (fun good=>fun(fr:Nat→AV) (h:Ah)=>fr=Az [(0,(.q ids 0 g)),(3,(.q ids 2 g1)),(4,(.bool good))]∧h=hp h0 ids [(some (.rows g 10 [[(.I s_Replica.ID),(.I s_Replica.Many),(.I s_Replica.Term),(.I s_Replica.Vote),(.sl 2 (List.map Ak s_Replica.Log)),(.I s_Replica.Role),(.I s_Replica.Commit),(.sl 1 (List.map rB s_Replica.Votes)),(.sl 1 (List.map (rI .i64) s_Replica.Match)),.emp]])),none,(some (.rows g1 10 [(An m)]))]) ?_ fun hJ2=>?_
 ·rintro good fr h ⟨rfl,rfl⟩
  refine A2 (Fl.eq_1 _ _ _)<|Ad<|Em (fun granted=>Es m s_Replica granted) (fun granted=>fun(fr:Nat→AV) (h:Ah)=>fr=Az [(0,(.q ids 0 g)),(3,(.q ids 2 g1)),(5,(.bool granted))]∧h=hp h0 ids [(some (.rows g 10 [[(.I s_Replica.ID),(.I s_Replica.Many),(.I s_Replica.Term),(.I s_Replica.Vote),(.sl 2 (List.map Ak s_Replica.Log)),(.I s_Replica.Role),(.I s_Replica.Commit),(.sl 1 (List.map rB s_Replica.Votes)),(.sl 1 (List.map (rI .i64) s_Replica.Match)),.emp]])),none,(some (.rows g1 10 [(An m)]))]) ?_ fun hJ1=>?_
  ·rintro granted fr h ⟨rfl,rfl⟩
   refine A2 (Es.eq_1 _ _ _)<|Ad<|Ad<|Ab<|Af (.bool granted) O Aa<|Ag<|Em (fun vReplica=>Hw m granted vReplica) (fun vReplica=>fun(fr:Nat→AV) (h:Ah)=>fr=Az [(0,(.q ids 0 g)),(3,(.q ids 2 g1)),(5,(.bool granted))]∧h=hp h0 ids [(some (.rows g 10 [[(.I vReplica.ID),(.I vReplica.Many),(.I vReplica.Term),(.I vReplica.Vote),(.sl 2 (List.map Ak vReplica.Log)),(.I vReplica.Role),(.I vReplica.Commit),(.sl 1 (List.map rB vReplica.Votes)),(.sl 1 (List.map (rI .i64) vReplica.Match)),.emp]])),none,(some (.rows g1 10 [(An m)]))]) ?_ fun hJ=>?_
   ·rintro vReplica fr h ⟨rfl,rfl⟩
    refine A2 (Hw.eq_1 _ _ _)<|Ab<|Aq 5 [2] [(69,(.agg [(.I 2),(.I 0),(.I 0),(.I 0),(.I 0),(.I 0),.emp,(.I 0),(.I 0),(.bool granted)])),(67,(.I m.From)),(65,(.q ids 0 g))] ?_
    refine Cc [0,1] hI O O (Om m.From 2 0 0 0 0 0 0 0 granted vReplica _ (ix ids 0) (ix ids 1) g (by exact hI.sub' O O)) O O O O O O (fun v _=>B4 (K:=2) (N:=1) Try.func48 hI) ?_
    rintro r2 _ _ _ ⟨v1,g2,vH,rfl,rfl⟩
    refine Dt [0,1] hI O O O ?_
    refine Cs<|Ag<|A4 ?_
    exact E1 (K:=2) (N:=1) (a:=(vReplica,r2)) (vs:=[]) [some (.rows g 10 [[(.I vReplica.ID),(.I vReplica.Many),(.I vReplica.Term),(.I vReplica.Vote),(.sl 2 (List.map Ak vReplica.Log)),(.I vReplica.Role),(.I vReplica.Commit),(.sl 1 (List.map rB vReplica.Votes)),(.sl 1 (List.map (rI .i64) vReplica.Match)),v1]]),A5 v1 g2 10 (List.map An r2)] Try.func48 hI O O O (.keep (.keep (.drop .nil))) (.same _) ⟨v1,g2,vH,O,O⟩
   refine Dh O (fun hc=>?_) (fun hc=>?_)
   ·refine Ab<|Aq 6 [2] [(64,(.ptr (ix ids 0) g 0 3)),(61,(.I m.From))] ?_
    refine Be (A8 (v:=(.I m.From)) hI O O O O Av O O O O O)<|Ag<|A4 ?_
    exact Bl (hJ ({ ID:=s_Replica.ID,Many:=s_Replica.Many,Term:=s_Replica.Term,Vote:=m.From,Log:=s_Replica.Log,Role:=s_Replica.Role,Commit:=s_Replica.Commit,Votes:=s_Replica.Votes,Match:=s_Replica.Match }:Replica) _ _ ⟨O,O⟩)
   refine Bj<|Bl (hJ s_Replica _ _ ⟨O,O⟩)
  refine Bx Dd [[],[0],[],[2],[2,3],[2,3,4],[2,3,4,5],[0,1,2,3,4,5,6],[0,1,2,3,4,5,6,7],[0,1,2,3,4,5,6,7,8],[0,1,2,3,4,5,6,7,8,9],[0,1,2,3,4,5,6,7,8,9,10],[0,1,2,3,4,5,6,7,8,9,10,11],[0,1,2,3,4,5,6,7,8,9,10,11,12],[0,1,2,3,4,5,6,7,8,9,10,11,12,13],[0,1,2,3,4,5,6,7,8,9,10,11,12,13,14],[0,1,2,3,4,5,6,7,8,9,10,11,12,13,14,15],[0,1,2,3,4,5,6,7,8,9,10,11,12,13,14,15,16],[0,1,2,3,4,5,6,7,8,9,10,11,12,13,14,15,16,17],[0,1,2,3,4,5,6,7,8,9,10,11,12,13,14,15,16,17,18],[0,1,2,3,4,5,6,7,8,9,10,11,12,13,14,15,16,17,18,19],[0,1,2,3,4,5,6,7,8,9,10,11,12,13,14,15],[0,1,2,3,4,5,6,7,8,9,10,11,12,13,14,15,21],[0,1,2,3,4,5,6,7,8,9,10,11,12,13,14,15,16,17,18,19,20,21,22],[0,1,2,3,4,5,6,7,8,9,10,11,12,13,14,15,16,17,18,19,20,21,22,23],[0,1,2,3,4,5,6,7,8,9,10,11,12,13,14,15,16,17,18,19,20,21,22,23,24],[0,1,2,3,4,5,6,7,8,9,10,11,12,13,14,15,16,17,18,19,20,21,22,23,24,25],[0,1,2,3,4,5,6,7,8,9,10,11,12,13,14,15,16,17,18,19,20,21,22,23,24,25,26],[0,1,2,3,4,5,6,7,8,9,10,11,12,13,14,15,16,17,18,19,20,21,22,23,24,25,26,27],[0,1,2,3,4,5,6,7,8,9,10,11,12,13,14,15,16,17,18,19,20,21,22,23,24,25,26,26,27,28,28]] [(false,0),(false,1),(false,2),(false,3),(false,4),(false,5),(false,6),(false,7),(false,8),(false,9),(false,10),(false,11),(false,12),(false,13),(false,14),(false,15),(false,16),(false,17),(false,18),(false,19),(false,20),(false,21),(false,22),(false,23),(false,24),(false,25),(false,26),(false,27),(false,28),(false,29)] (by kernel_rfl)<|Z (.ptr (ix ids 2) g1 0 3) O O (Ai (Ae (c:=0) (off:=3) (i:=3) Bp O Av O))<|Z (.I m.Term) O O (Aj (Ao hI O O O Av O))<|Z (.q ids 0 g) O O Aa<|Z (.q ids 0 g) O O (Al O)<|Z (.q ids 0 g) O O (Ai (Ae (c:=0) (off:=0) (i:=0) A6 O Ar O))<|Z (.ptr (ix ids 0) g 0 2) O O (Ai (Ae (c:=0) (off:=2) (i:=2) Ar O Av O)) ?_
  refine Z (.I s_Replica.Term) O O (Aj (Ao hI O O O Av O))<|Z (.bool (m.Term==s_Replica.Term)) O O (Bc O O O)<|Z (.bool (m.Term==s_Replica.Term)) O O Aa<|Gw (fun hb2=>?_) (fun hb2=>?_)
  ·refine A0 (tj:=37) (.q ids 0 g) O O (congrArg AV.bool hb2) O Aa<|A0 (tj:=37) (.q ids 0 g) O O (congrArg AV.bool hb2) O (Al O)<|A0 (tj:=37) (.q ids 0 g) O O (congrArg AV.bool hb2) O (Ai (Ae (c:=0) (off:=0) (i:=0) A6 O Ar O))<|A0 (tj:=37) (.ptr (ix ids 0) g 0 3) O O (congrArg AV.bool hb2) O (Ai (Ae (c:=0) (off:=3) (i:=3) Ar O Av O))<|A0 (tj:=37) (.I s_Replica.Vote) O O (congrArg AV.bool hb2) O (Aj (Ao hI O O O Av O))<|A0 (tj:=37) (.bool (s_Replica.Vote==(-1))) O O (congrArg AV.bool hb2) O (Bc O O O)<|A0 (tj:=37) (.bool (s_Replica.Vote==(-1))) O O (congrArg AV.bool hb2) O Aa ?_
   refine Gw (fun hb3=>?_) (fun hb3=>?_)
   ·refine Ax (tj:=44) (b:=true) O O (congrArg AV.bool hb3) O O<|Ax (tj:=44) (b:=true) O O (congrArg AV.bool hb3) O O<|Ax (tj:=44) (b:=true) O O (congrArg AV.bool hb3) O O<|Ax (tj:=44) (b:=true) O O (congrArg AV.bool hb3) O O<|Ax (tj:=44) (b:=true) O O (congrArg AV.bool hb3) O O<|Ax (tj:=44) (b:=true) O O (congrArg AV.bool hb3) O O<|Ax (tj:=44) (b:=true) O O (congrArg AV.bool hb3) O O ?_
    refine Ax (tj:=44) (b:=true) O O (congrArg AV.bool hb3) O O<|A0 (tj:=37) (.bool true) O O (congrArg AV.bool hb2) O (Bo (t:=true) (congrArg AV.bool hb3) O)<|Z (.bool true) O O (Bo (t:=true) (congrArg AV.bool hb2) O)<|Z (.bool true) O O Aa<|A0 (tj:=55) (.bool good) O O O O Aa<|Z (.bool good) O O (Bo (t:=true) O O)<|Z (.bool good) O O As ?_
    refine A9<|Bl (hJ1 good _ _ ⟨O,O⟩)
   refine A0 (tj:=44) (.q ids 0 g) O O (congrArg AV.bool hb3) O Aa<|A0 (tj:=44) (.q ids 0 g) O O (congrArg AV.bool hb3) O (Al O)<|A0 (tj:=44) (.q ids 0 g) O O (congrArg AV.bool hb3) O (Ai (Ae (c:=0) (off:=0) (i:=0) A6 O Ar O))<|A0 (tj:=44) (.ptr (ix ids 0) g 0 3) O O (congrArg AV.bool hb3) O (Ai (Ae (c:=0) (off:=3) (i:=3) Ar O Av O))<|A0 (tj:=44) (.I s_Replica.Vote) O O (congrArg AV.bool hb3) O (Aj (Ao hI O O O Av O))<|A0 (tj:=44) (.ptr (ix ids 2) g1 0 1) O O (congrArg AV.bool hb3) O (Ai (Ae (c:=0) (off:=1) (i:=1) Bp O Av O))<|A0 (tj:=44) (.I m.From) O O (congrArg AV.bool hb3) O (Aj (Ao hI O O O Av O)) ?_
   refine A0 (tj:=44) (.bool (s_Replica.Vote==m.From)) O O (congrArg AV.bool hb3) O (Bc O O O)<|A0 (tj:=37) (.bool (s_Replica.Vote==m.From)) O O (congrArg AV.bool hb2) O (Bo (t:=false) (congrArg AV.bool hb3) O)<|Z (.bool (s_Replica.Vote==m.From)) O O (Bo (t:=true) (congrArg AV.bool hb2) O)<|Z (.bool (s_Replica.Vote==m.From)) O O Aa<|Gw (fun hb4=>?_) (fun hb4=>?_)
   ·refine A0 (tj:=55) (.bool good) O O (congrArg AV.bool hb4) O Aa<|Z (.bool good) O O (Bo (t:=true) (congrArg AV.bool hb4) O)<|Z (.bool good) O O As<|A9<|Bl (hJ1 good _ _ ⟨O,O⟩)
   refine Ax (tj:=55) (b:=false) O O (congrArg AV.bool hb4) O O<|Z (.bool false) O O (Bo (t:=false) (congrArg AV.bool hb4) O)<|Z (.bool false) O O As<|A9<|Bl (hJ1 false _ _ ⟨O,O⟩)
  refine Ax (tj:=37) (b:=false) O O (congrArg AV.bool hb2) O O<|Ax (tj:=37) (b:=false) O O (congrArg AV.bool hb2) O O<|Ax (tj:=37) (b:=false) O O (congrArg AV.bool hb2) O O<|Ax (tj:=37) (b:=false) O O (congrArg AV.bool hb2) O O<|Ax (tj:=37) (b:=false) O O (congrArg AV.bool hb2) O O<|Ax (tj:=37) (b:=false) O O (congrArg AV.bool hb2) O O<|Ax (tj:=37) (b:=false) O O (congrArg AV.bool hb2) O O ?_
  refine E4 (tj:=44) O O O O<|E4 (tj:=44) O O O O<|E4 (tj:=44) O O O O<|E4 (tj:=44) O O O O<|E4 (tj:=44) O O O O<|E4 (tj:=44) O O O O<|E4 (tj:=44) O O O O ?_
  refine E4 (tj:=44) O O O O<|Ax (tj:=37) (b:=false) O O (congrArg AV.bool hb2) O O<|Z (.bool false) O O (Bo (t:=false) (congrArg AV.bool hb2) O)<|Z (.bool false) O O Aa<|Ax (tj:=55) (b:=false) O O O O O<|Z (.bool false) O O (Bo (t:=false) O O)<|Z (.bool false) O O As ?_
  refine A9<|Bl (hJ1 false _ _ ⟨O,O⟩)
 refine Bx Dd [[],[0],[],[2],[0,1,2,3],[0,1,2,3,4],[0,1,2,3,4,5],[0,1,2,3,4,5,6],[0,1,2,3,4,5],[0,1,2,3,4,5,8],[0,1,2,3,4,5,6,7,8,9],[0,1,2,3,4,5,6,7,8,9,10],[0,1,2,3,4,5,6,7,8,9,10,11],[0,1,2,3,4,5,6,7,8,9,10,11,12],[0,1,2,3,4,5,6,7,8,9,10,11],[0,1,2,3,4,5,6,7,8,9,10,11,14],[0,1,2,3,4,5,6,7,8,9,10,11,14,15],[0,1,2,3,4,5,6,7,8,9,10,11,14,15,16],[0,1,2,3,4,5,6,7,8,9,10,11,14,15,16,17],[0,1,2,3,4,5,6,7,8,9,10,11,14,15,16,17,18],[0,1,2,3,4,5,6,7,8,9,10,11,12,13,14,15,16,17,18,19],[0,1,2,3,4,5,6,7,8,9,10,11,12,13,14,15,16,17,18,19,20],[0,1,2,3,4,5,6,7,8,9,10,11,12,13,14,15,16,17,18,19,20,21],[0,1,2,3,4,5,6,7,8,9,10,11,11,12,13,14,15,16,17,18,19,20,21,22,22]] [(false,0),(false,1),(false,2),(true,3),(false,4),(false,5),(false,6),(false,7),(false,8),(true,9),(false,10),(false,11),(false,12),(false,13),(false,14),(false,15),(false,16),(false,17),(false,18),(false,19),(false,20),(false,21),(false,22),(false,23)] (by kernel_rfl)<|Z (.ptr (ix ids 2) g1 0 5) O O (Ai (Ae (c:=0) (off:=5) (i:=5) Bp O Av O))<|Z (.I m.LastTerm) O O (Aj (Ao hI O O O Av O))<|Z (.q ids 0 g) O O Aa<|Fe [(.q ids 0 g)] O O O O O (CP.lend (L5 ({ Replica:=s_Replica,fSent:=[] }:T87)) (LF.lfz (.cons (.ptrL (hI.at O O) O O (.cons (.same _) (.cons (.same _) (.cons (.same _) (.cons (.same _) (.cons (.same _) (.cons (.same _) (.cons (.same _) (.cons (.same _) (.cons (.same _) (.cons (.emp _) .nil))))))))))) .nil)) (fun _ _=>(.int _ _))) (fun v _ _ _=>B4 (K:=2) (N:=1) Try.func48 hI) (Y O (Ac O (Aj (Ao hI O O O Av O)) (Ac O (Ai (Ae (c:=0) (off:=5) (i:=5) Bp O Av O)) Ap))) fun r _=>Z (.bool (decide (m.LastTerm > r))) O O (Bc O O O)<|Z (.bool (decide (m.LastTerm > r))) O O Aa ?_
 refine Gw (fun hb=>?_) (fun hb=>?_)
 ·refine Ax (tj:=11) (b:=true) O O (congrArg AV.bool hb) O O<|Ax (tj:=11) (b:=true) O O (congrArg AV.bool hb) O O<|Ax (tj:=11) (b:=true) O O (congrArg AV.bool hb) O O<|Nb (tj:=11) (b:=true) O O (congrArg AV.bool hb) O O<|Ax (tj:=11) (b:=true) O O (congrArg AV.bool hb) O O<|Ax (tj:=11) (b:=true) O O (congrArg AV.bool hb) O O<|E4 (tj:=17) O O O O ?_
  refine E4 (tj:=17) O O O O<|E4 (tj:=17) O O O O<|E4 (tj:=17) O O O O<|E4 (tj:=17) O O O O<|E4 (tj:=17) O O O O<|E4 (tj:=17) O O O O<|E4 (tj:=17) O O O O ?_
  refine E4 (tj:=17) O O O O<|Ax (tj:=11) (b:=true) O O (congrArg AV.bool hb) O O<|Z (.bool true) O O (Bo (t:=true) (congrArg AV.bool hb) O)<|Z (.bool true) O O As<|A9<|Bl (hJ2 true _ _ ⟨O,O⟩)
 refine A0 (tj:=11) (.ptr (ix ids 2) g1 0 5) O O (congrArg AV.bool hb) O (Ai (Ae (c:=0) (off:=5) (i:=5) Bp O Av O))<|A0 (tj:=11) (.I m.LastTerm) O O (congrArg AV.bool hb) O (Aj (Ao hI O O O Av O))<|A0 (tj:=11) (.q ids 0 g) O O (congrArg AV.bool hb) O Aa<|Fe [(.q ids 0 g)] O (Dw (tj:=11) O (congrArg AV.bool hb)) O O O (CP.lend (L5 ({ Replica:=s_Replica,fSent:=[] }:T87)) (LF.lfz (.cons (.ptrL (hI.at O O) O O (.cons (.same _) (.cons (.same _) (.cons (.same _) (.cons (.same _) (.cons (.same _) (.cons (.same _) (.cons (.same _) (.cons (.same _) (.cons (.same _) (.cons (.emp _) .nil))))))))))) .nil)) (fun _ _=>(.int _ _))) (fun v _ _ _=>B4 (K:=2) (N:=1) Try.func48 hI) (Y O (Xx (tj:=11) O O (congrArg AV.bool hb) (Aj (Ao hI O O O Av O)) (Xx (tj:=11) O O (congrArg AV.bool hb) (Ai (Ae (c:=0) (off:=5) (i:=5) Bp O Av O)) (Y O (Y O (Y O (Y O (Y O Ap)))))))) fun r1 _=>A0 (tj:=11) (.bool (m.LastTerm==r1)) O O (congrArg AV.bool hb) O (Bc O O O)<|A0 (tj:=11) (.bool (m.LastTerm==r1)) O O (congrArg AV.bool hb) O Aa<|Gw (fun hb1=>?_) (fun hb1=>?_)
 ·refine A0 (tj:=17) (.ptr (ix ids 2) g1 0 4) O O (congrArg AV.bool hb1) O (Ai (Ae (c:=0) (off:=4) (i:=4) Bp O Av O))<|A0 (tj:=17) (.I m.Last) O O (congrArg AV.bool hb1) O (Aj (Ao hI O O O Av O))<|A0 (tj:=17) (.q ids 0 g) O O (congrArg AV.bool hb1) O Aa<|A0 (tj:=17) (.q ids 0 g) O O (congrArg AV.bool hb1) O (Al O)<|A0 (tj:=17) (.q ids 0 g) O O (congrArg AV.bool hb1) O (Ai (Ae (c:=0) (off:=0) (i:=0) A6 O Ar O))<|A0 (tj:=17) (.ptr (ix ids 0) g 0 4) O O (congrArg AV.bool hb1) O (Ai (Ae (c:=0) (off:=4) (i:=4) Ar O Bq O))<|A0 (tj:=17) (.sl 2 (List.map Ak s_Replica.Log)) O O (congrArg AV.bool hb1) O (Aj (Ao hI O O O Bq O)) ?_
  refine A0 (tj:=17) (.I (s_Replica.Log.length:Int)) O O (congrArg AV.bool hb1) O (Bn (Bs Bq))<|A0 (tj:=17) (.bool (decide (m.Last≥(s_Replica.Log.length:Int)))) O O (congrArg AV.bool hb1) O (Bc O O O)<|A0 (tj:=11) (.bool (decide (m.Last≥(s_Replica.Log.length:Int)))) O O (congrArg AV.bool hb) O (Bo (t:=true) (congrArg AV.bool hb1) O)<|Z (.bool (decide (m.Last≥(s_Replica.Log.length:Int)))) O O (Bo (t:=false) (congrArg AV.bool hb) O)<|Z (.bool (decide (m.Last≥(s_Replica.Log.length:Int)))) O O As<|A9<|Bl (hJ2 (decide (m.Last≥(s_Replica.Log.length:Int))) _ _ ⟨O,O⟩)
 refine Ax (tj:=17) (b:=false) O O (congrArg AV.bool hb1) O O<|Ax (tj:=17) (b:=false) O O (congrArg AV.bool hb1) O O<|Ax (tj:=17) (b:=false) O O (congrArg AV.bool hb1) O O<|Ax (tj:=17) (b:=false) O O (congrArg AV.bool hb1) O O<|Ax (tj:=17) (b:=false) O O (congrArg AV.bool hb1) O O<|Ax (tj:=17) (b:=false) O O (congrArg AV.bool hb1) O O<|Ax (tj:=17) (b:=false) O O (congrArg AV.bool hb1) O O ?_
 refine Ax (tj:=17) (b:=false) O O (congrArg AV.bool hb1) O O<|Ax (tj:=17) (b:=false) O O (congrArg AV.bool hb1) O O<|A0 (tj:=11) (.bool false) O O (congrArg AV.bool hb) O (Bo (t:=false) (congrArg AV.bool hb1) O)<|Z (.bool false) O O (Bo (t:=false) (congrArg AV.bool hb) O)<|Z (.bool false) O O As<|A9<|Bl (hJ2 false _ _ ⟨O,O⟩)
theorem T9 (s:List Bool):CPO Try.prog 70 [(.sl 1 (List.map rB s))] (J3 s) 1 rB:=by
 refine Tj (n:=8) 0 Try.func70 O (by decide) O O fun h0 ids hI=>O9 (J3.eq_1 _)<|Ad<|Ab<|Af .emp O As<|Ag<|Ad ?_
 refine Ad<|Ab<|Af (.sl 1 (List.map rB s)) O Aa<|Z7 (L:=s) O Cv O fun c hc=>Ag ?_
 by_cases hl:s.length * 1≤Cf
 case neg=>rw [if_neg hl]; exact Acn
 rw [if_pos hl]
 refine L3 c O ?_
 cases c with
 | true=>
  have hs:=hc rfl
  subst hs
  refine Ad<|Ab<|Af .emp O As<|Ag<|Qk (a:=[]) (v:=.emp) (g:=0) Try.func70 hI O O .nil O
 | false=>
  refine Bj<|Ad<|Ab<|Ac4 O Cv Hr<|Af (.sl 1 (List.map rB s)) O Aa<|N1 (e:=rB) (L:=[]) (L2:=s) (v:=.emp) (g:=0) (st:=1) (j:=0) hI O O O O .nil O (Ht O) Cv Cv O Hr O O O (by simpa using hl) fun v g H=>Af v O As ?_
  refine Ag<|Qk (a:=s) (v:=v) (g:=g) Try.func70 hI O O H O
end Go.Am
