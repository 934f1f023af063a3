/- Written by shrink.py from texts of ours: comments struck, what is not reached left out, names short. -/
import Derived.Test.YtgigefcfankeeaaU4
import Derived.KernelRfl
import Derived.Shelf.Strconv.Itoa0
import Derived.Ground.SlgmProg
import Derived.Shelf.SortM.Plain
import Derived.Shelf.SortM.SortNone
import Derived.Test.YtgigefcfankeeaaProg
namespace Go.Am
open Go
set_option linter.unusedVariables false
set_option maxRecDepth 100000
def Ia (s:List Int):R (List Int):=
 (Fr s).bind fun s1=>
 (Nb s1).bind fun _=>
 .ok (Vq s1)
theorem K5 (s:List Int):Le (Ia s) (Ds s):=by
 unfold Ia Ds
 repeat' first | with_reducible exact Le.refl _ | with_reducible exact hW .. | with_reducible apply Cv | with_reducible apply Co | with_reducible apply Da | with_reducible apply Cr | with_reducible apply Cc | with_reducible apply Ce | with_reducible apply Db | with_reducible apply Dd | with_reducible apply C7 | with_reducible apply Dc | with_reducible apply C9 | with_reducible apply D2 | (rw [B9]; with_reducible exact Le.refl _) | intro _
def Lk (s0_ReplicaID:Int)(s0_ReplicaMany:Int)(s0_ReplicaTerm:Int)(s0_ReplicaVote:Int)(s0_ReplicaRole:Int)(s0_ReplicaCommit:Int)(s0_ReplicaVotes:List Bool)(l:List Record)(l1:List Int):R (Int×(List Record)):=
 (Ej l1).bind fun _=>
 (Ia l1).bind fun l2=>
 (Cp l2 (IntKind.wrap .i64 (Int.tdiv (IntKind.wrap .i64 ((l2.length:Int) - 1)) 2))).bind fun a=>
 if(decide (a > s0_ReplicaCommit)) then
((Cp l (IntKind.wrap .i64 (a - 1))).bind fun a1=>
 Ea s0_ReplicaCommit a (a1.Term==s0_ReplicaTerm) l)
else
(Ea s0_ReplicaCommit a false l)
theorem Sr (s0_ReplicaID:Int)(s0_ReplicaMany:Int)(s0_ReplicaTerm:Int)(s0_ReplicaVote:Int)(s0_ReplicaRole:Int)(s0_ReplicaCommit:Int)(s0_ReplicaVotes:List Bool)(l:List Record)(l1:List Int):Le (Lk s0_ReplicaID s0_ReplicaMany s0_ReplicaTerm s0_ReplicaVote s0_ReplicaRole s0_ReplicaCommit s0_ReplicaVotes l l1) (E3 s0_ReplicaID s0_ReplicaMany s0_ReplicaTerm s0_ReplicaVote s0_ReplicaRole s0_ReplicaCommit s0_ReplicaVotes l l1):=by
 unfold Lk E3
 repeat' first | with_reducible exact Le.refl _ | with_reducible exact hW .. | with_reducible exact K5 .. | with_reducible apply Cv | with_reducible apply Co | with_reducible apply Da | with_reducible apply Cr | with_reducible apply Cc | with_reducible apply Ce | with_reducible apply Db | with_reducible apply Dd | with_reducible apply C7 | with_reducible apply Dc | with_reducible apply C9 | with_reducible apply D2 | (rw [B9]; with_reducible exact Le.refl _) | intro _
def No (m:Message)(s_Replica:Replica):R (List Message):=
 (S8 64 (Dx fun x l=>He m s_Replica x l) (0,[])).bind (fun l1=>Iv l1)
theorem Vc (m:Message)(s_Replica:Replica):Le (No m s_Replica) (Ge m s_Replica):=by
 unfold No Ge
 repeat' first | with_reducible exact Le.refl _ | with_reducible exact hW .. | with_reducible apply Cv | with_reducible apply Co | with_reducible apply Da | with_reducible apply Cr | with_reducible apply Cc | with_reducible apply Ce | with_reducible apply Db | with_reducible apply Dd | with_reducible apply C7 | with_reducible apply Dc | with_reducible apply C9 | with_reducible apply D2 | (rw [B9]; with_reducible exact Le.refl _) | intro _
def M5 (s0_ReplicaID:Int)(s0_ReplicaMany:Int)(s0_ReplicaTerm:Int)(s0_ReplicaVote:Int)(s0_ReplicaRole:Int)(s0_ReplicaCommit:Int)(s0_ReplicaVotes:List Bool)(s0_ReplicaMatch:List Int)(l:List Record):R (List Message):=
 (No ({ Kind:=3,From:=0,To:=0,Term:=0,Last:=0,LastTerm:=0,Log:=l,Commit:=s0_ReplicaCommit,Match:=0,Granted:=false }:Message) ({ ID:=s0_ReplicaID,Many:=s0_ReplicaMany,Term:=s0_ReplicaTerm,Vote:=s0_ReplicaVote,Log:=l,Role:=s0_ReplicaRole,Commit:=s0_ReplicaCommit,Votes:=s0_ReplicaVotes,Match:=s0_ReplicaMatch }:Replica)).bind fun r=>
 .ok r
theorem Ud (s0_ReplicaID:Int)(s0_ReplicaMany:Int)(s0_ReplicaTerm:Int)(s0_ReplicaVote:Int)(s0_ReplicaRole:Int)(s0_ReplicaCommit:Int)(s0_ReplicaVotes:List Bool)(s0_ReplicaMatch:List Int)(l:List Record):Le (M5 s0_ReplicaID s0_ReplicaMany s0_ReplicaTerm s0_ReplicaVote s0_ReplicaRole s0_ReplicaCommit s0_ReplicaVotes s0_ReplicaMatch l) (Gz s0_ReplicaID s0_ReplicaMany s0_ReplicaTerm s0_ReplicaVote s0_ReplicaRole s0_ReplicaCommit s0_ReplicaVotes s0_ReplicaMatch l):=by
 unfold M5 Gz
 repeat' first | with_reducible exact Le.refl _ | with_reducible exact hW .. | with_reducible exact Vc .. | with_reducible apply Cv | with_reducible apply Co | with_reducible apply Da | with_reducible apply Cr | with_reducible apply Cc | with_reducible apply Ce | with_reducible apply Db | with_reducible apply Dd | with_reducible apply C7 | with_reducible apply Dc | with_reducible apply C9 | with_reducible apply D2 | (rw [B9]; with_reducible exact Le.refl _) | intro _
def Og (r:Replica)(l:List Record):R (Replica×(List Message)×Int):=
 (Hz r.Match).bind fun r3=>
 (Cp r3 r.ID).bind fun a=>
 (Lk r.ID r.Many r.Term r.Vote r.Role r.Commit r.Votes l (r3.set r.ID.toNat (l.length:Int))).bind fun r4=>
 (M5 r.ID r.Many r.Term r.Vote r.Role r4.1 r.Votes (r3.set r.ID.toNat (l.length:Int)) r4.2).bind fun r5=>
 .ok (({ ID:=r.ID,Many:=r.Many,Term:=r.Term,Vote:=r.Vote,Log:=r4.2,Role:=r.Role,Commit:=r4.1,Votes:=r.Votes,Match:=(r3.set r.ID.toNat (l.length:Int)) }:Replica),r5,0)
theorem Vi (r:Replica)(l:List Record):Le (Og r l) (I6 r l):=by
 unfold Og I6
 repeat' first | with_reducible exact Le.refl _ | with_reducible exact hW .. | with_reducible exact Sr .. | with_reducible exact Ud .. | with_reducible apply Cv | with_reducible apply Co | with_reducible apply Da | with_reducible apply Cr | with_reducible apply Cc | with_reducible apply Ce | with_reducible apply Db | with_reducible apply Dd | with_reducible apply C7 | with_reducible apply Dc | with_reducible apply C9 | with_reducible apply D2 | (rw [B9]; with_reducible exact Le.refl _) | intro _
def Ny (r:Replica)(data:List Int):R (Replica×(List Message)×Int):=
 (Eb r).bind fun e=>
 if(e != 0) then
(.ok (({ ID:=0,Many:=0,Term:=0,Vote:=0,Log:=[],Role:=0,Commit:=0,Votes:=[],Match:=[] }:Replica),[],e))
else
(if(r.Role != 2) then
(.ok (({ ID:=0,Many:=0,Term:=0,Vote:=0,Log:=[],Role:=0,Commit:=0,Votes:=[],Match:=[] }:Replica),[],470))
else
(if(r.Log.length:Int)≥4096 then
(.ok (({ ID:=0,Many:=0,Term:=0,Vote:=0,Log:=[],Role:=0,Commit:=0,Votes:=[],Match:=[] }:Replica),[],2))
else
((Dp r).bind fun _=>
 (Kd r.Log).bind fun r1=>
 if(r1.length+[({ Term:=r.Term,Data:=data }:Record)].length) * 32≤B2 then
 Og r (r1++[({ Term:=r.Term,Data:=data }:Record)]) else .bad)))
theorem W7 (r:Replica)(data:List Int):Le (Ny r data) (Gk r data):=by
 unfold Ny Gk
 repeat' first | with_reducible exact Le.refl _ | with_reducible exact hW .. | with_reducible exact Vi .. | with_reducible apply Cv | with_reducible apply Co | with_reducible apply Da | with_reducible apply Cr | with_reducible apply Cc | with_reducible apply Ce | with_reducible apply Db | with_reducible apply Dd | with_reducible apply C7 | with_reducible apply Dc | with_reducible apply C9 | with_reducible apply D2 | (rw [B9]; with_reducible exact Le.refl _) | intro _
def J0 (s0_ReplicaID:Int)(s0_ReplicaMany:Int)(s0_ReplicaTerm:Int)(s0_ReplicaVote:Int)(s0_ReplicaLog:List Record)(s0_ReplicaRole:Int)(s0_ReplicaCommit:Int)(l:List Bool)(l1:List Int):R Int:=
 (Ej l1).bind fun _=>
 (Ia l1).bind fun l2=>
 (Cp l2 (IntKind.wrap .i64 (Int.tdiv (IntKind.wrap .i64 ((l2.length:Int) - 1)) 2))).bind fun a=>
 if(decide (a > s0_ReplicaCommit)) then
((Cp s0_ReplicaLog (IntKind.wrap .i64 (a - 1))).bind fun a1=>
 D9 s0_ReplicaCommit a (a1.Term==s0_ReplicaTerm))
else
(D9 s0_ReplicaCommit a false)
theorem N8 (s0_ReplicaID:Int)(s0_ReplicaMany:Int)(s0_ReplicaTerm:Int)(s0_ReplicaVote:Int)(s0_ReplicaLog:List Record)(s0_ReplicaRole:Int)(s0_ReplicaCommit:Int)(l:List Bool)(l1:List Int):Le (J0 s0_ReplicaID s0_ReplicaMany s0_ReplicaTerm s0_ReplicaVote s0_ReplicaLog s0_ReplicaRole s0_ReplicaCommit l l1) (Eh s0_ReplicaID s0_ReplicaMany s0_ReplicaTerm s0_ReplicaVote s0_ReplicaLog s0_ReplicaRole s0_ReplicaCommit l l1):=by
 unfold J0 Eh
 repeat' first | with_reducible exact Le.refl _ | with_reducible exact hW .. | with_reducible exact K5 .. | with_reducible apply Cv | with_reducible apply Co | with_reducible apply Da | with_reducible apply Cr | with_reducible apply Cc | with_reducible apply Ce | with_reducible apply Db | with_reducible apply Dd | with_reducible apply C7 | with_reducible apply Dc | with_reducible apply C9 | with_reducible apply D2 | (rw [B9]; with_reducible exact Le.refl _) | intro _
def Nt (m:Message)(s_ReplicaID:Int)(s_ReplicaMany:Int)(s_ReplicaTerm:Int)(s_ReplicaVote:Int)(s_ReplicaLog:List Record)(s_ReplicaRole:Int)(s_ReplicaCommit:Int)(s_ReplicaMatch:List Int):R (List Message):=
 (S8 64 (Dx fun x l=>G9 m s_ReplicaID s_ReplicaMany s_ReplicaTerm s_ReplicaVote s_ReplicaLog s_ReplicaRole s_ReplicaCommit s_ReplicaMatch x l) (0,[])).bind (fun l1=>It l1)
theorem Uz (m:Message)(s_ReplicaID:Int)(s_ReplicaMany:Int)(s_ReplicaTerm:Int)(s_ReplicaVote:Int)(s_ReplicaLog:List Record)(s_ReplicaRole:Int)(s_ReplicaCommit:Int)(s_ReplicaMatch:List Int):Le (Nt m s_ReplicaID s_ReplicaMany s_ReplicaTerm s_ReplicaVote s_ReplicaLog s_ReplicaRole s_ReplicaCommit s_ReplicaMatch) (Fj m s_ReplicaID s_ReplicaMany s_ReplicaTerm s_ReplicaVote s_ReplicaLog s_ReplicaRole s_ReplicaCommit s_ReplicaMatch):=by
 unfold Nt Fj
 repeat' first | with_reducible exact Le.refl _ | with_reducible exact hW .. | with_reducible apply Cv | with_reducible apply Co | with_reducible apply Da | with_reducible apply Cr | with_reducible apply Cc | with_reducible apply Ce | with_reducible apply Db | with_reducible apply Dd | with_reducible apply C7 | with_reducible apply Dc | with_reducible apply C9 | with_reducible apply D2 | (rw [B9]; with_reducible exact Le.refl _) | intro _
def Kn (s_ReplicaID:Int)(s_ReplicaMany:Int)(s_ReplicaTerm:Int)(s_ReplicaVote:Int)(s_ReplicaLog:List Record)(s_ReplicaRole:Int)(s_ReplicaCommit:Int)(s_ReplicaMatch:List Int):R (List Message):=
 (Nt ({ Kind:=3,From:=0,To:=0,Term:=0,Last:=0,LastTerm:=0,Log:=s_ReplicaLog,Commit:=s_ReplicaCommit,Match:=0,Granted:=false }:Message) s_ReplicaID s_ReplicaMany s_ReplicaTerm s_ReplicaVote s_ReplicaLog s_ReplicaRole s_ReplicaCommit s_ReplicaMatch).bind fun r=>
 .ok r
theorem Pk (s_ReplicaID:Int)(s_ReplicaMany:Int)(s_ReplicaTerm:Int)(s_ReplicaVote:Int)(s_ReplicaLog:List Record)(s_ReplicaRole:Int)(s_ReplicaCommit:Int)(s_ReplicaMatch:List Int):Le (Kn s_ReplicaID s_ReplicaMany s_ReplicaTerm s_ReplicaVote s_ReplicaLog s_ReplicaRole s_ReplicaCommit s_ReplicaMatch) (F3 s_ReplicaID s_ReplicaMany s_ReplicaTerm s_ReplicaVote s_ReplicaLog s_ReplicaRole s_ReplicaCommit s_ReplicaMatch):=by
 unfold Kn F3
 repeat' first | with_reducible exact Le.refl _ | with_reducible exact hW .. | with_reducible exact Uz .. | with_reducible apply Cv | with_reducible apply Co | with_reducible apply Da | with_reducible apply Cr | with_reducible apply Cc | with_reducible apply Ce | with_reducible apply Db | with_reducible apply Dd | with_reducible apply C7 | with_reducible apply Dc | with_reducible apply C9 | with_reducible apply D2 | (rw [B9]; with_reducible exact Le.refl _) | intro _
def Ln (s0_ReplicaID:Int)(s0_ReplicaMany:Int)(s0_ReplicaTerm:Int)(s0_ReplicaVote:Int)(s0_ReplicaLog:List Record)(s0_ReplicaCommit:Int)(l:List Bool)(l1:List Int):R (Int×(List Int)×(List Message)):=
 (Cp l1 s0_ReplicaID).bind fun a=>
 (J0 s0_ReplicaID s0_ReplicaMany s0_ReplicaTerm s0_ReplicaVote s0_ReplicaLog 2 s0_ReplicaCommit l (l1.set s0_ReplicaID.toNat (s0_ReplicaLog.length:Int))).bind fun r=>
 (Kn s0_ReplicaID s0_ReplicaMany s0_ReplicaTerm s0_ReplicaVote s0_ReplicaLog 2 r (l1.set s0_ReplicaID.toNat (s0_ReplicaLog.length:Int))).bind fun r1=>
 .ok (r,(l1.set s0_ReplicaID.toNat (s0_ReplicaLog.length:Int)),r1)
theorem Sq (s0_ReplicaID:Int)(s0_ReplicaMany:Int)(s0_ReplicaTerm:Int)(s0_ReplicaVote:Int)(s0_ReplicaLog:List Record)(s0_ReplicaCommit:Int)(l:List Bool)(l1:List Int):Le (Ln s0_ReplicaID s0_ReplicaMany s0_ReplicaTerm s0_ReplicaVote s0_ReplicaLog s0_ReplicaCommit l l1) (Gt s0_ReplicaID s0_ReplicaMany s0_ReplicaTerm s0_ReplicaVote s0_ReplicaLog s0_ReplicaCommit l l1):=by
 unfold Ln Gt
 repeat' first | with_reducible exact Le.refl _ | with_reducible exact hW .. | with_reducible exact Pk .. | with_reducible exact N8 .. | with_reducible apply Cv | with_reducible apply Co | with_reducible apply Da | with_reducible apply Cr | with_reducible apply Cc | with_reducible apply Ce | with_reducible apply Db | with_reducible apply Dd | with_reducible apply C7 | with_reducible apply Dc | with_reducible apply C9 | with_reducible apply D2 | (rw [B9]; with_reducible exact Le.refl _) | intro _
def M7 (s0_ReplicaID:Int)(s0_ReplicaMany:Int)(s0_ReplicaTerm:Int)(s0_ReplicaVote:Int)(s0_ReplicaLog:List Record)(s0_ReplicaRole:Int)(s0_ReplicaCommit:Int)(s0_ReplicaMatch:List Int)(l:List Bool):R (Int×(List Int)×(List Message)):=
 if(0:Int)≤s0_ReplicaMany∧(s0_ReplicaMany:Int)≤s0_ReplicaMany∧(Int.toNat s0_ReplicaMany) * 8≤B2 then
 Ln s0_ReplicaID s0_ReplicaMany s0_ReplicaTerm s0_ReplicaVote s0_ReplicaLog s0_ReplicaCommit l (List.replicate (Int.toNat s0_ReplicaMany) 0) else .bad
theorem Ui (s0_ReplicaID:Int)(s0_ReplicaMany:Int)(s0_ReplicaTerm:Int)(s0_ReplicaVote:Int)(s0_ReplicaLog:List Record)(s0_ReplicaRole:Int)(s0_ReplicaCommit:Int)(s0_ReplicaMatch:List Int)(l:List Bool):Le (M7 s0_ReplicaID s0_ReplicaMany s0_ReplicaTerm s0_ReplicaVote s0_ReplicaLog s0_ReplicaRole s0_ReplicaCommit s0_ReplicaMatch l) (D6 s0_ReplicaID s0_ReplicaMany s0_ReplicaTerm s0_ReplicaVote s0_ReplicaLog s0_ReplicaRole s0_ReplicaCommit s0_ReplicaMatch l):=by
 unfold M7 D6
 repeat' first | with_reducible exact Le.refl _ | with_reducible exact hW .. | with_reducible exact Sq .. | with_reducible apply Cv | with_reducible apply Co | with_reducible apply Da | with_reducible apply Cr | with_reducible apply Cc | with_reducible apply Ce | with_reducible apply Db | with_reducible apply Dd | with_reducible apply C7 | with_reducible apply Dc | with_reducible apply C9 | with_reducible apply D2 | (rw [B9]; with_reducible exact Le.refl _) | intro _
def H1 (m:Message)(s_Replica:Replica)(x:Bool):R (Int×Int×(List Bool)×(List Int)×(List Message)):=
 if x then
(.ok (s_Replica.Role,s_Replica.Commit,s_Replica.Votes,s_Replica.Match,[]))
else
((Kw s_Replica.Votes).bind fun r=>
 (Cp r m.From).bind fun a=>
 (Fp (fun j _=>Dx fun n x2=>E4 j n x2) 0 (r.set m.From.toNat true) (0,(r.set m.From.toNat true))).bind ((Dx fun n x2=>if(IntKind.wrap .i64 (2 * n)) > s_Replica.Many then
((M7 s_Replica.ID s_Replica.Many s_Replica.Term s_Replica.Vote s_Replica.Log s_Replica.Role s_Replica.Commit s_Replica.Match x2).bind fun r1=>
 .ok (2,r1.1,x2,r1.2.1,r1.2.2))
else
(.ok (s_Replica.Role,s_Replica.Commit,x2,s_Replica.Match,[])))))
theorem So (m:Message)(s_Replica:Replica)(x:Bool):Le (H1 m s_Replica x) (Dk m s_Replica x):=by
 unfold H1 Dk
 repeat' first | with_reducible exact Le.refl _ | with_reducible exact hW .. | with_reducible exact Ui .. | with_reducible apply Cv | with_reducible apply Co | with_reducible apply Da | with_reducible apply Cr | with_reducible apply Cc | with_reducible apply Ce | with_reducible apply Db | with_reducible apply Dd | with_reducible apply C7 | with_reducible apply Dc | with_reducible apply C9 | with_reducible apply D2 | (rw [B9]; with_reducible exact Le.refl _) | intro _
def Mw (m:Message)(s_Replica:Replica):R (Int×Int×(List Bool)×(List Int)×(List Message)):=
 if(s_Replica.Role != 1) then
(H1 m s_Replica true)
else
(if(m.Term != s_Replica.Term) then
(H1 m s_Replica true)
else
(H1 m s_Replica (!m.Granted)))
theorem Ub (m:Message)(s_Replica:Replica):Le (Mw m s_Replica) (Er m s_Replica):=by
 unfold Mw Er
 repeat' first | with_reducible exact Le.refl _ | with_reducible exact hW .. | with_reducible exact So .. | with_reducible apply Cv | with_reducible apply Co | with_reducible apply Da | with_reducible apply Cr | with_reducible apply Cc | with_reducible apply Ce | with_reducible apply Db | with_reducible apply Dd | with_reducible apply C7 | with_reducible apply Dc | with_reducible apply C9 | with_reducible apply D2 | (rw [B9]; with_reducible exact Le.refl _) | intro _
def Ps {σ_ ε_:Type}(b:List Record)(c:List Record)(b_:Record→Record→σ_→R (σ_ ⊕ ε_))(s_:σ_):R (σ_ ⊕ ε_):=
 (S8 64 (Dx fun x s=>Fi b c b_ x s) (0,s_)).bind (Jm (fun s2=>Im s2) (fun r=>.ok r))
theorem W2 {σ_ ε_:Type}(b:List Record)(c:List Record)(b_:Record→Record→σ_→R (σ_ ⊕ ε_))(s_:σ_):Le (Ps b c b_ s_) (I1 b c b_ s_):=by
 unfold Ps I1
 repeat' first | with_reducible exact Le.refl _ | with_reducible exact hW .. | with_reducible apply Cv | with_reducible apply Co | with_reducible apply Da | with_reducible apply Cr | with_reducible apply Cc | with_reducible apply Ce | with_reducible apply Db | with_reducible apply Dd | with_reducible apply C7 | with_reducible apply Dc | with_reducible apply C9 | with_reducible apply D2 | (rw [B9]; with_reducible exact Le.refl _) | intro _
def Oq (a:List Record)(b:List Record):R Bool:=
 (Kr a b).bind fun _=>
 (Ps a b (fun a1 a2 z_=>R.np ((fun _=>Hh a1 a2) z_)) ()).bind (Jm (fun _=>.ok (decide ((a.length:Int)≤(b.length:Int)))) (fun _=>.ok false))
theorem Yt (a:List Record)(b:List Record):Le (Oq a b) (I7 a b):=by
 unfold Oq I7
 repeat' first | with_reducible exact Le.refl _ | with_reducible exact hW .. | with_reducible exact W2 .. | with_reducible apply Cv | with_reducible apply Co | with_reducible apply Da | with_reducible apply Cr | with_reducible apply Cc | with_reducible apply Ce | with_reducible apply Db | with_reducible apply Dd | with_reducible apply C7 | with_reducible apply Dc | with_reducible apply C9 | with_reducible apply D2 | (rw [B9]; with_reducible exact Le.refl _) | intro _
def Lx (m:Message)(s_Replica:Replica):R ((List Record)×Int×Int×(List Bool)×(List Int)×(List Message)):=
 if m.Term<s_Replica.Term then
((E7 m.From 4 0 0 0 0 0 0 0 false s_Replica).bind fun r=>
 .ok (s_Replica.Log,s_Replica.Role,s_Replica.Commit,s_Replica.Votes,s_Replica.Match,r))
else
(if(s_Replica.Role==2) then
(.ok (s_Replica.Log,s_Replica.Role,s_Replica.Commit,s_Replica.Votes,s_Replica.Match,[]))
else
((Cl s_Replica).bind fun r1=>
 (Oq m.Log s_Replica.Log).bind fun r2=>
 if r2 then
(En m s_Replica r1 s_Replica.Log)
else
(if(0:Int)≤s_Replica.Commit∧s_Replica.Commit≤(s_Replica.Log.length:Int) then
 (Oq (s_Replica.Log.take (Int.toNat s_Replica.Commit)) m.Log).bind fun r3=>
 (Bg r3 470).bind fun _=>
 En m s_Replica r1 m.Log else .bad)))
theorem S3 (m:Message)(s_Replica:Replica):Le (Lx m s_Replica) (Fa m s_Replica):=by
 unfold Lx Fa
 repeat' first | with_reducible exact Le.refl _ | with_reducible exact hW .. | with_reducible exact Yt .. | with_reducible apply Cv | with_reducible apply Co | with_reducible apply Da | with_reducible apply Cr | with_reducible apply Cc | with_reducible apply Ce | with_reducible apply Db | with_reducible apply Dd | with_reducible apply C7 | with_reducible apply Dc | with_reducible apply C9 | with_reducible apply D2 | (rw [B9]; with_reducible exact Le.refl _) | intro _
def Li (s0_ReplicaID:Int)(s0_ReplicaMany:Int)(s0_ReplicaTerm:Int)(s0_ReplicaVote:Int)(s0_ReplicaLog:List Record)(s0_ReplicaRole:Int)(s0_ReplicaCommit:Int)(s0_ReplicaVotes:List Bool)(l:List Int):R Replica:=
 (Ej l).bind fun _=>
 (Ia l).bind fun l1=>
 (Cp l1 (IntKind.wrap .i64 (Int.tdiv (IntKind.wrap .i64 ((l1.length:Int) - 1)) 2))).bind fun a=>
 if(decide (a > s0_ReplicaCommit)) then
((Cp s0_ReplicaLog (IntKind.wrap .i64 (a - 1))).bind fun a1=>
 D8 s0_ReplicaID s0_ReplicaMany s0_ReplicaTerm s0_ReplicaVote s0_ReplicaLog s0_ReplicaRole s0_ReplicaCommit s0_ReplicaVotes l a (a1.Term==s0_ReplicaTerm))
else
(D8 s0_ReplicaID s0_ReplicaMany s0_ReplicaTerm s0_ReplicaVote s0_ReplicaLog s0_ReplicaRole s0_ReplicaCommit s0_ReplicaVotes l a false)
theorem Sv (s0_ReplicaID:Int)(s0_ReplicaMany:Int)(s0_ReplicaTerm:Int)(s0_ReplicaVote:Int)(s0_ReplicaLog:List Record)(s0_ReplicaRole:Int)(s0_ReplicaCommit:Int)(s0_ReplicaVotes:List Bool)(l:List Int):Le (Li s0_ReplicaID s0_ReplicaMany s0_ReplicaTerm s0_ReplicaVote s0_ReplicaLog s0_ReplicaRole s0_ReplicaCommit s0_ReplicaVotes l) (Fs s0_ReplicaID s0_ReplicaMany s0_ReplicaTerm s0_ReplicaVote s0_ReplicaLog s0_ReplicaRole s0_ReplicaCommit s0_ReplicaVotes l):=by
 unfold Li Fs
 repeat' first | with_reducible exact Le.refl _ | with_reducible exact hW .. | with_reducible exact K5 .. | with_reducible apply Cv | with_reducible apply Co | with_reducible apply Da | with_reducible apply Cr | with_reducible apply Cc | with_reducible apply Ce | with_reducible apply Db | with_reducible apply Dd | with_reducible apply C7 | with_reducible apply Dc | with_reducible apply C9 | with_reducible apply D2 | (rw [B9]; with_reducible exact Le.refl _) | intro _
def Ig (m:Message)(s_Replica:Replica)(x:Bool):R Replica:=
 if x then
(.ok s_Replica)
else
((Bg (decide (m.Match≤(s_Replica.Log.length:Int))) 470).bind fun _=>
 (Hz s_Replica.Match).bind fun r1=>
 (Cp r1 m.From).bind fun a=>
 (Li s_Replica.ID s_Replica.Many s_Replica.Term s_Replica.Vote s_Replica.Log s_Replica.Role s_Replica.Commit s_Replica.Votes (r1.set m.From.toNat (if m.Match > a then m.Match else a))).bind fun r2=>
 .ok r2)
theorem Tc (m:Message)(s_Replica:Replica)(x:Bool):Le (Ig m s_Replica x) (D4 m s_Replica x):=by
 unfold Ig D4
 repeat' first | with_reducible exact Le.refl _ | with_reducible exact hW .. | with_reducible exact Sv .. | with_reducible apply Cv | with_reducible apply Co | with_reducible apply Da | with_reducible apply Cr | with_reducible apply Cc | with_reducible apply Ce | with_reducible apply Db | with_reducible apply Dd | with_reducible apply C7 | with_reducible apply Dc | with_reducible apply C9 | with_reducible apply D2 | (rw [B9]; with_reducible exact Le.refl _) | intro _
def Nz (m:Message)(s_Replica:Replica):R Replica:=
 if(s_Replica.Role != 2) then
(Ig m s_Replica true)
else
(if(m.Term != s_Replica.Term) then
(Ig m s_Replica true)
else
(Ig m s_Replica (!m.Granted)))
theorem Uy (m:Message)(s_Replica:Replica):Le (Nz m s_Replica) (Ex m s_Replica):=by
 unfold Nz Ex
 repeat' first | with_reducible exact Le.refl _ | with_reducible exact hW .. | with_reducible exact Tc .. | with_reducible apply Cv | with_reducible apply Co | with_reducible apply Da | with_reducible apply Cr | with_reducible apply Cc | with_reducible apply Ce | with_reducible apply Db | with_reducible apply Dd | with_reducible apply C7 | with_reducible apply Dc | with_reducible apply C9 | with_reducible apply D2 | (rw [B9]; with_reducible exact Le.refl _) | intro _
def Lr (m:Message)(vID1:Int)(vMany1:Int)(vTerm1:Int)(vVote1:Int)(vLog1:List Record)(vRole1:Int)(vCommit1:Int)(vVotes1:List Bool)(vMatch1:List Int):R (Replica×(List Message)×Int):=
 if m.Kind=0 then
(.bad)
else
(if m.Kind=1 then
((Hj m ({ ID:=vID1,Many:=vMany1,Term:=vTerm1,Vote:=vVote1,Log:=vLog1,Role:=vRole1,Commit:=vCommit1,Votes:=vVotes1,Match:=vMatch1 }:Replica)).bind fun r10=>
 .ok (r10.1,r10.2,0))
else
(if m.Kind=2 then
((Mw m ({ ID:=vID1,Many:=vMany1,Term:=vTerm1,Vote:=vVote1,Log:=vLog1,Role:=vRole1,Commit:=vCommit1,Votes:=vVotes1,Match:=vMatch1 }:Replica)).bind fun r11=>
 .ok (({ ID:=(({ ID:=vID1,Many:=vMany1,Term:=vTerm1,Vote:=vVote1,Log:=vLog1,Role:=vRole1,Commit:=vCommit1,Votes:=vVotes1,Match:=vMatch1 }:Replica).ID),Many:=(({ ID:=vID1,Many:=vMany1,Term:=vTerm1,Vote:=vVote1,Log:=vLog1,Role:=vRole1,Commit:=vCommit1,Votes:=vVotes1,Match:=vMatch1 }:Replica).Many),Term:=(({ ID:=vID1,Many:=vMany1,Term:=vTerm1,Vote:=vVote1,Log:=vLog1,Role:=vRole1,Commit:=vCommit1,Votes:=vVotes1,Match:=vMatch1 }:Replica).Term),Vote:=(({ ID:=vID1,Many:=vMany1,Term:=vTerm1,Vote:=vVote1,Log:=vLog1,Role:=vRole1,Commit:=vCommit1,Votes:=vVotes1,Match:=vMatch1 }:Replica).Vote),Log:=(({ ID:=vID1,Many:=vMany1,Term:=vTerm1,Vote:=vVote1,Log:=vLog1,Role:=vRole1,Commit:=vCommit1,Votes:=vVotes1,Match:=vMatch1 }:Replica).Log),Role:=r11.1,Commit:=r11.2.1,Votes:=r11.2.2.1,Match:=r11.2.2.2.1 }:Replica),r11.2.2.2.2,0))
else
(if m.Kind=3 then
((Lx m ({ ID:=vID1,Many:=vMany1,Term:=vTerm1,Vote:=vVote1,Log:=vLog1,Role:=vRole1,Commit:=vCommit1,Votes:=vVotes1,Match:=vMatch1 }:Replica)).bind fun r12=>
 .ok (({ ID:=(({ ID:=vID1,Many:=vMany1,Term:=vTerm1,Vote:=vVote1,Log:=vLog1,Role:=vRole1,Commit:=vCommit1,Votes:=vVotes1,Match:=vMatch1 }:Replica).ID),Many:=(({ ID:=vID1,Many:=vMany1,Term:=vTerm1,Vote:=vVote1,Log:=vLog1,Role:=vRole1,Commit:=vCommit1,Votes:=vVotes1,Match:=vMatch1 }:Replica).Many),Term:=(({ ID:=vID1,Many:=vMany1,Term:=vTerm1,Vote:=vVote1,Log:=vLog1,Role:=vRole1,Commit:=vCommit1,Votes:=vVotes1,Match:=vMatch1 }:Replica).Term),Vote:=(({ ID:=vID1,Many:=vMany1,Term:=vTerm1,Vote:=vVote1,Log:=vLog1,Role:=vRole1,Commit:=vCommit1,Votes:=vVotes1,Match:=vMatch1 }:Replica).Vote),Log:=r12.1,Role:=r12.2.1,Commit:=r12.2.2.1,Votes:=r12.2.2.2.1,Match:=r12.2.2.2.2.1 }:Replica),r12.2.2.2.2.2,0))
else
(if m.Kind=4 then
((Nz m ({ ID:=vID1,Many:=vMany1,Term:=vTerm1,Vote:=vVote1,Log:=vLog1,Role:=vRole1,Commit:=vCommit1,Votes:=vVotes1,Match:=vMatch1 }:Replica)).bind fun r13=>
 .ok (r13,[],0))
else
(.bad)))))
theorem Vy (m:Message)(vID1:Int)(vMany1:Int)(vTerm1:Int)(vVote1:Int)(vLog1:List Record)(vRole1:Int)(vCommit1:Int)(vVotes1:List Bool)(vMatch1:List Int):Le (Lr m vID1 vMany1 vTerm1 vVote1 vLog1 vRole1 vCommit1 vVotes1 vMatch1) (C2 m vID1 vMany1 vTerm1 vVote1 vLog1 vRole1 vCommit1 vVotes1 vMatch1):=by
 unfold Lr C2
 repeat' first | with_reducible exact Le.refl _ | with_reducible exact hW .. | with_reducible exact Uy .. | with_reducible exact S3 .. | with_reducible exact Ub .. | with_reducible apply Cv | with_reducible apply Co | with_reducible apply Da | with_reducible apply Cr | with_reducible apply Cc | with_reducible apply Ce | with_reducible apply Db | with_reducible apply Dd | with_reducible apply C7 | with_reducible apply Dc | with_reducible apply C9 | with_reducible apply D2 | (rw [B9]; with_reducible exact Le.refl _) | intro _
def Oy (r:Replica)(m:Message):R (Replica×(List Message)×Int):=
 (Eb r).bind fun r1=>
 if(r1 != 0) then
(.ok (({ ID:=0,Many:=0,Term:=0,Vote:=0,Log:=[],Role:=0,Commit:=0,Votes:=[],Match:=[] }:Replica),[],r1))
else
((Bm m.Kind 1 4).bind fun r2=>
 (if(r2&&(m.To==r.ID)) then(Bm m.From 0 (IntKind.wrap .i64 (r.Many - 1))).bind fun r3=>
 R.ok r3 else R.ok false).bind (fun(b:Bool)=>(if(b&&(m.From != r.ID)) then(Bm m.Term 1 1048576).bind fun r4=>
 R.ok r4 else R.ok false).bind (fun(b1:Bool)=>(Bg b1 470).bind fun _=>
 (if(decide ((if m.Match<(if m.LastTerm<m.Last then m.LastTerm else m.Last) then m.Match else(if m.LastTerm<m.Last then m.LastTerm else m.Last))≥0)) then(Bm m.Commit 0 (m.Log.length:Int)).bind fun r6=>
 R.ok r6 else R.ok false).bind (fun(b2:Bool)=>(if b2 then(Gi m.Log m.Term).bind fun r7=>
 R.ok r7 else R.ok false).bind (fun(b3:Bool)=>(Bg b3 470).bind fun _=>
 (Dp r).bind fun _=>
 if m.Term > r.Term then
((Cl ({ ID:=r.ID,Many:=r.Many,Term:=m.Term,Vote:=(-1),Log:=r.Log,Role:=r.Role,Commit:=r.Commit,Votes:=r.Votes,Match:=r.Match }:Replica)).bind fun r9=>
 Lr m (({ ID:=r.ID,Many:=r.Many,Term:=m.Term,Vote:=(-1),Log:=r.Log,Role:=r.Role,Commit:=r.Commit,Votes:=r.Votes,Match:=r.Match }:Replica).ID) (({ ID:=r.ID,Many:=r.Many,Term:=m.Term,Vote:=(-1),Log:=r.Log,Role:=r.Role,Commit:=r.Commit,Votes:=r.Votes,Match:=r.Match }:Replica).Many) (({ ID:=r.ID,Many:=r.Many,Term:=m.Term,Vote:=(-1),Log:=r.Log,Role:=r.Role,Commit:=r.Commit,Votes:=r.Votes,Match:=r.Match }:Replica).Term) (({ ID:=r.ID,Many:=r.Many,Term:=m.Term,Vote:=(-1),Log:=r.Log,Role:=r.Role,Commit:=r.Commit,Votes:=r.Votes,Match:=r.Match }:Replica).Vote) (({ ID:=r.ID,Many:=r.Many,Term:=m.Term,Vote:=(-1),Log:=r.Log,Role:=r.Role,Commit:=r.Commit,Votes:=r.Votes,Match:=r.Match }:Replica).Log) 0 (({ ID:=r.ID,Many:=r.Many,Term:=m.Term,Vote:=(-1),Log:=r.Log,Role:=r.Role,Commit:=r.Commit,Votes:=r.Votes,Match:=r.Match }:Replica).Commit) r9.1 r9.2)
else
(Lr m r.ID r.Many r.Term r.Vote r.Log r.Role r.Commit r.Votes r.Match))))))
theorem V6 (r:Replica)(m:Message):Le (Oy r m) (Ii r m):=by
 unfold Oy Ii
 repeat' first | with_reducible exact Le.refl _ | with_reducible exact hW .. | with_reducible exact Vy .. | with_reducible apply Cv | with_reducible apply Co | with_reducible apply Da | with_reducible apply Cr | with_reducible apply Cc | with_reducible apply Ce | with_reducible apply Db | with_reducible apply Dd | with_reducible apply C7 | with_reducible apply Dc | with_reducible apply C9 | with_reducible apply D2 | (rw [B9]; with_reducible exact Le.refl _) | intro _
def Np (r:Replica)(m:Message):R (Replica×(List Message)×Int):=
 (Oy r m).catch' (If 105 .i64 (fun n=>(Ef n).bind fun p=>.ok (({ ID:=0,Many:=0,Term:=0,Vote:=0,Log:=[],Role:=0,Commit:=0,Votes:=[],Match:=[] }:Replica),[],p)) (fun _=>.bad))
theorem Xy (r:Replica)(m:Message):Le (Np r m) (Ik r m):=by
 unfold Np Ik
 repeat' first | with_reducible exact Le.refl _ | with_reducible exact hW .. | with_reducible exact V6 .. | with_reducible apply Cv | with_reducible apply Co | with_reducible apply Da | with_reducible apply Cr | with_reducible apply Cc | with_reducible apply Ce | with_reducible apply Db | with_reducible apply Dd | with_reducible apply C7 | with_reducible apply Dc | with_reducible apply C9 | with_reducible apply D2 | (rw [B9]; with_reducible exact Le.refl _) | intro _
def Lg (s0_ReplicaID:Int)(s0_ReplicaMany:Int)(s0_ReplicaTerm:Int)(s0_ReplicaVote:Int)(s0_ReplicaLog:List Record)(s0_ReplicaCommit:Int)(l:List Bool)(l1:List Int):R (Int×(List Int)×(List Message)):=
 (Cp l1 s0_ReplicaID).bind fun a=>
 (J0 s0_ReplicaID s0_ReplicaMany s0_ReplicaTerm s0_ReplicaVote s0_ReplicaLog 2 s0_ReplicaCommit l (l1.set s0_ReplicaID.toNat (s0_ReplicaLog.length:Int))).bind fun r=>
 (Kn s0_ReplicaID s0_ReplicaMany s0_ReplicaTerm s0_ReplicaVote s0_ReplicaLog 2 r (l1.set s0_ReplicaID.toNat (s0_ReplicaLog.length:Int))).bind fun r1=>
 .ok (r,(l1.set s0_ReplicaID.toNat (s0_ReplicaLog.length:Int)),r1)
theorem Si (s0_ReplicaID:Int)(s0_ReplicaMany:Int)(s0_ReplicaTerm:Int)(s0_ReplicaVote:Int)(s0_ReplicaLog:List Record)(s0_ReplicaCommit:Int)(l:List Bool)(l1:List Int):Le (Lg s0_ReplicaID s0_ReplicaMany s0_ReplicaTerm s0_ReplicaVote s0_ReplicaLog s0_ReplicaCommit l l1) (H9 s0_ReplicaID s0_ReplicaMany s0_ReplicaTerm s0_ReplicaVote s0_ReplicaLog s0_ReplicaCommit l l1):=by
 unfold Lg H9
 repeat' first | with_reducible exact Le.refl _ | with_reducible exact hW .. | with_reducible exact Pk .. | with_reducible exact N8 .. | with_reducible apply Cv | with_reducible apply Co | with_reducible apply Da | with_reducible apply Cr | with_reducible apply Cc | with_reducible apply Ce | with_reducible apply Db | with_reducible apply Dd | with_reducible apply C7 | with_reducible apply Dc | with_reducible apply C9 | with_reducible apply D2 | (rw [B9]; with_reducible exact Le.refl _) | intro _
def Mp (s0_ReplicaID:Int)(s0_ReplicaMany:Int)(s0_ReplicaTerm:Int)(s0_ReplicaVote:Int)(s0_ReplicaLog:List Record)(s0_ReplicaRole:Int)(s0_ReplicaCommit:Int)(l:List Bool):R (Int×(List Int)×(List Message)):=
 if(0:Int)≤s0_ReplicaMany∧(s0_ReplicaMany:Int)≤s0_ReplicaMany∧(Int.toNat s0_ReplicaMany) * 8≤B2 then
 Lg s0_ReplicaID s0_ReplicaMany s0_ReplicaTerm s0_ReplicaVote s0_ReplicaLog s0_ReplicaCommit l (List.replicate (Int.toNat s0_ReplicaMany) 0) else .bad
theorem Uf (s0_ReplicaID:Int)(s0_ReplicaMany:Int)(s0_ReplicaTerm:Int)(s0_ReplicaVote:Int)(s0_ReplicaLog:List Record)(s0_ReplicaRole:Int)(s0_ReplicaCommit:Int)(l:List Bool):Le (Mp s0_ReplicaID s0_ReplicaMany s0_ReplicaTerm s0_ReplicaVote s0_ReplicaLog s0_ReplicaRole s0_ReplicaCommit l) (F6 s0_ReplicaID s0_ReplicaMany s0_ReplicaTerm s0_ReplicaVote s0_ReplicaLog s0_ReplicaRole s0_ReplicaCommit l):=by
 unfold Mp F6
 repeat' first | with_reducible exact Le.refl _ | with_reducible exact hW .. | with_reducible exact Si .. | with_reducible apply Cv | with_reducible apply Co | with_reducible apply Da | with_reducible apply Cr | with_reducible apply Cc | with_reducible apply Ce | with_reducible apply Db | with_reducible apply Dd | with_reducible apply C7 | with_reducible apply Dc | with_reducible apply C9 | with_reducible apply D2 | (rw [B9]; with_reducible exact Le.refl _) | intro _
def Nu (mKind:Int)(mFrom:Int)(mTo:Int)(mTerm:Int)(mLast:Int)(mLastTerm:Int)(mCommit:Int)(mMatch:Int)(mGranted:Bool)(s_ReplicaID:Int)(s_ReplicaMany:Int)(s_ReplicaTerm:Int)(s_ReplicaVote:Int)(s_ReplicaLog:List Record)(s_ReplicaRole:Int)(s_ReplicaCommit:Int):R (List Message):=
 (S8 64 (Dx fun x l=>Ha mKind mFrom mTo mTerm mLast mLastTerm mCommit mMatch mGranted s_ReplicaID s_ReplicaMany s_ReplicaTerm s_ReplicaVote s_ReplicaLog s_ReplicaRole s_ReplicaCommit x l) (0,[])).bind (fun l1=>Ix l1)
theorem U2 (mKind:Int)(mFrom:Int)(mTo:Int)(mTerm:Int)(mLast:Int)(mLastTerm:Int)(mCommit:Int)(mMatch:Int)(mGranted:Bool)(s_ReplicaID:Int)(s_ReplicaMany:Int)(s_ReplicaTerm:Int)(s_ReplicaVote:Int)(s_ReplicaLog:List Record)(s_ReplicaRole:Int)(s_ReplicaCommit:Int):Le (Nu mKind mFrom mTo mTerm mLast mLastTerm mCommit mMatch mGranted s_ReplicaID s_ReplicaMany s_ReplicaTerm s_ReplicaVote s_ReplicaLog s_ReplicaRole s_ReplicaCommit) (Fh mKind mFrom mTo mTerm mLast mLastTerm mCommit mMatch mGranted s_ReplicaID s_ReplicaMany s_ReplicaTerm s_ReplicaVote s_ReplicaLog s_ReplicaRole s_ReplicaCommit):=by
 unfold Nu Fh
 repeat' first | with_reducible exact Le.refl _ | with_reducible exact hW .. | with_reducible apply Cv | with_reducible apply Co | with_reducible apply Da | with_reducible apply Cr | with_reducible apply Cc | with_reducible apply Ce | with_reducible apply Db | with_reducible apply Dd | with_reducible apply C7 | with_reducible apply Dc | with_reducible apply C9 | with_reducible apply D2 | (rw [B9]; with_reducible exact Le.refl _) | intro _
def Nn (r:Replica):R (Replica×(List Message)×Int):=
 (Eb r).bind fun e=>
 if(e != 0) then
(.ok (({ ID:=0,Many:=0,Term:=0,Vote:=0,Log:=[],Role:=0,Commit:=0,Votes:=[],Match:=[] }:Replica),[],e))
else
(if(r.Term==1048576) then
(.ok (({ ID:=0,Many:=0,Term:=0,Vote:=0,Log:=[],Role:=0,Commit:=0,Votes:=[],Match:=[] }:Replica),[],2))
else
((Dp r).bind fun _=>
 (Cl r).bind fun r1=>
 (Cp r1.1 r.ID).bind fun a=>
 if(r.Many==1) then
((Mp r.ID r.Many (IntKind.wrap .i64 (r.Term+1)) r.ID r.Log 1 r.Commit (r1.1.set r.ID.toNat true)).bind fun r2=>
 .ok (({ ID:=r.ID,Many:=r.Many,Term:=(IntKind.wrap .i64 (r.Term+1)),Vote:=r.ID,Log:=r.Log,Role:=2,Commit:=r2.1,Votes:=(r1.1.set r.ID.toNat true),Match:=r2.2.1 }:Replica),r2.2.2,0))
else
((F8 ({ Replica:=({ ID:=r.ID,Many:=r.Many,Term:=(IntKind.wrap .i64 (r.Term+1)),Vote:=r.ID,Log:=r.Log,Role:=1,Commit:=r.Commit,Votes:=(r1.1.set r.ID.toNat true),Match:=r1.2 }:Replica),fSent:=[] }:T87)).bind fun r3=>
 (Nu 1 0 0 0 (r.Log.length:Int) r3 0 0 false r.ID r.Many (IntKind.wrap .i64 (r.Term+1)) r.ID r.Log 1 r.Commit).bind fun r4=>
 .ok (({ ID:=r.ID,Many:=r.Many,Term:=(IntKind.wrap .i64 (r.Term+1)),Vote:=r.ID,Log:=r.Log,Role:=1,Commit:=r.Commit,Votes:=(r1.1.set r.ID.toNat true),Match:=r1.2 }:Replica),r4,0))))
theorem W9 (r:Replica):Le (Nn r) (Gl r):=by
 unfold Nn Gl
 repeat' first | with_reducible exact Le.refl _ | with_reducible exact hW .. | with_reducible exact U2 .. | with_reducible exact Uf .. | with_reducible apply Cv | with_reducible apply Co | with_reducible apply Da | with_reducible apply Cr | with_reducible apply Cc | with_reducible apply Ce | with_reducible apply Db | with_reducible apply Dd | with_reducible apply C7 | with_reducible apply Dc | with_reducible apply C9 | with_reducible apply D2 | (rw [B9]; with_reducible exact Le.refl _) | intro _
def Qb (W_:Value→R (Int×Bool))(a:Value)(depth:Int):R (Int ⊕ (Int×Bool)):=
 (W_ a).bind fun r=>
 if r.2 then
(.ok (.inl (if r.1 > depth then r.1 else depth)))
else
(.ok (.inr ((0,false))))
theorem Xu {W' W_:Value→R (Int×Bool)}(hW : ∀ w0,Le (W' w0) (W_ w0))(a:Value)(depth:Int):Le (Qb W' a depth) (Jr W_ a depth):=by
 unfold Qb Jr
 repeat' first | with_reducible exact Le.refl _ | with_reducible exact hW .. | with_reducible apply Cv | with_reducible apply Co | with_reducible apply Da | with_reducible apply Cr | with_reducible apply Cc | with_reducible apply Ce | with_reducible apply Db | with_reducible apply Dd | with_reducible apply C7 | with_reducible apply Dc | with_reducible apply C9 | with_reducible apply D2 | (rw [B9]; with_reducible exact Le.refl _) | intro _
def Qr (W_:Value→R (Int×Bool))(v:Value):R (Int×Bool):=
 (if((decide (v.Kind<1))||(decide (v.Kind > 3))) then R.ok true else if(0:Int)≤v.Kind∧v.Kind<4 then
 R.ok (!(Xq (#v[false,((v.S==[])&&((v.L.length:Int)==0)),((v.N==0)&&((v.L.length:Int)==0)),((v.N==0)&&(v.S==[]))]:(Vector Bool 4)) (Int.toNat v.Kind) false)) else .bad).bind (fun(b:Bool)=>if b then
(.ok (0,false))
else
(if v.Kind<3 then
(.ok (0,true))
else
((each (fun _ a=>fun depth=>Qb W_ a depth) 0 v.L 0).bind (Jm (fun depth=>.ok ((IntKind.wrap .i64 (depth+1)),true)) (fun r=>.ok r)))))
theorem Ys {W' W_:Value→R (Int×Bool)}(hW : ∀ w0,Le (W' w0) (W_ w0))(v:Value):Le (Qr W' v) (Ms W_ v):=by
 unfold Qr Ms
 repeat' first | with_reducible exact Le.refl _ | with_reducible exact hW .. | with_reducible exact Xu (by assumption) .. | with_reducible apply Cv | with_reducible apply Co | with_reducible apply Da | with_reducible apply Cr | with_reducible apply Cc | with_reducible apply Ce | with_reducible apply Db | with_reducible apply Dd | with_reducible apply C7 | with_reducible apply Dc | with_reducible apply C9 | with_reducible apply D2 | (rw [B9]; with_reducible exact Le.refl _) | intro _
def Q4:Nat→Value→R (Int×Bool)
 | 0,_=>.bad
 | n+1,v=>Qr (Q4 n) v
theorem S1 : ∀ (n k:Nat) a0,Le (Q4 n a0) (Mz (n+k) a0)
 | 0,k,a0=>.inl rfl
 | n+1,k,a0=>by
  rw [show n+1+k=(n+k)+1 by omega]
  exact Ys (fun a0=>S1 n k a0) a0
def Sl (v:Value):R (Int×Bool):=Q4 16 v
theorem Aay (v:Value):Le (Sl v) (Q5 v):=by
 unfold Sl Q5
 rw [Abn]
 exact S1 16 (4000000 - 16) v
def Ts (v:Value):R Int:=
 (Sl v).bind fun r=>
 if r.2 then
(if r.1 > 16 then
(.ok 2)
else
(.ok 0))
else
(.ok 1)
theorem Aa7 (v:Value):Le (Ts v) (Py v):=by
 unfold Ts Py
 repeat' first | with_reducible exact Le.refl _ | with_reducible exact hW .. | with_reducible exact Aay .. | with_reducible apply Cv | with_reducible apply Co | with_reducible apply Da | with_reducible apply Cr | with_reducible apply Cc | with_reducible apply Ce | with_reducible apply Db | with_reducible apply Dd | with_reducible apply C7 | with_reducible apply Dc | with_reducible apply C9 | with_reducible apply D2 | (rw [B9]; with_reducible exact Le.refl _) | intro _
def Kg (u:Int)(l:List Int):R (List Int):=
 (S8 64 (Dx fun u1 b=>Kj u1 b) (u,l)).bind (Dx fun u2 b1=>Kk u2 b1)
theorem L5 (u:Int)(l:List Int):Le (Kg u l) (Ho u l):=by
 unfold Kg Ho
 repeat' first | with_reducible exact Le.refl _ | with_reducible exact hW .. | with_reducible apply Cv | with_reducible apply Co | with_reducible apply Da | with_reducible apply Cr | with_reducible apply Cc | with_reducible apply Ce | with_reducible apply Db | with_reducible apply Dd | with_reducible apply C7 | with_reducible apply Dc | with_reducible apply C9 | with_reducible apply D2 | (rw [B9]; with_reducible exact Le.refl _) | intro _
def I5 (v1:Value)(l:List Int):R (List Int):=
 if(l.length+[1].length) * 1≤B2 then
 (O9 v1.N).bind fun r=>
 (Kg r (l++[1])).bind fun r1=>
 .ok r1 else .bad
theorem Lz (v1:Value)(l:List Int):Le (I5 v1 l) (F9 v1 l):=by
 unfold I5 F9
 repeat' first | with_reducible exact Le.refl _ | with_reducible exact hW .. | with_reducible exact L5 .. | with_reducible apply Cv | with_reducible apply Co | with_reducible apply Da | with_reducible apply Cr | with_reducible apply Cc | with_reducible apply Ce | with_reducible apply Db | with_reducible apply Dd | with_reducible apply C7 | with_reducible apply Dc | with_reducible apply C9 | with_reducible apply D2 | (rw [B9]; with_reducible exact Le.refl _) | intro _
def Jg (v1:Value)(l:List Int):R (List Int):=
 if(l.length+[2].length) * 1≤B2 then
 (Kg (IntKind.wrap .u64 (v1.S.length:Int)) (l++[2])).bind fun r=>
 if(r.length+(G4 v1.S).length) * 1≤B2 then
 .ok (r++(G4 v1.S)) else .bad else .bad
theorem Lw (v1:Value)(l:List Int):Le (Jg v1 l) (F5 v1 l):=by
 unfold Jg F5
 repeat' first | with_reducible exact Le.refl _ | with_reducible exact hW .. | with_reducible exact L5 .. | with_reducible apply Cv | with_reducible apply Co | with_reducible apply Da | with_reducible apply Cr | with_reducible apply Cc | with_reducible apply Ce | with_reducible apply Db | with_reducible apply Dd | with_reducible apply C7 | with_reducible apply Dc | with_reducible apply C9 | with_reducible apply D2 | (rw [B9]; with_reducible exact Le.refl _) | intro _
def Ll (W_:Value→(List Int)→R (List Int))(a:Value)(b1:List Int):R (List Int):=
 if a.Kind=0 then
(.bad)
else
(if a.Kind=1 then
((I5 a b1).bind fun b2=>
 .ok b2)
else
(if a.Kind=2 then
((Jg a b1).bind fun b3=>
 .ok b3)
else
(if a.Kind=3 then
((W_ a b1).bind fun b4=>
 .ok b4)
else
(.bad))))
theorem Sg {W' W_:Value→(List Int)→R (List Int)}(hW : ∀ w0 w1,Le (W' w0 w1) (W_ w0 w1))(a:Value)(b1:List Int):Le (Ll W' a b1) (Gs W_ a b1):=by
 unfold Ll Gs
 repeat' first | with_reducible exact Le.refl _ | with_reducible exact hW .. | with_reducible exact Lw .. | with_reducible exact Lz .. | with_reducible apply Cv | with_reducible apply Co | with_reducible apply Da | with_reducible apply Cr | with_reducible apply Cc | with_reducible apply Ce | with_reducible apply Db | with_reducible apply Dd | with_reducible apply C7 | with_reducible apply Dc | with_reducible apply C9 | with_reducible apply D2 | (rw [B9]; with_reducible exact Le.refl _) | intro _
def L0 (W_:Value→(List Int)→R (List Int))(v1:Value)(l:List Int):R (List Int):=
 if(l.length+[3].length) * 1≤B2 then
 (Kg (IntKind.wrap .u64 (v1.L.length:Int)) (l++[3])).bind fun b=>
 (Fp (fun _ a=>fun b1=>Ll W_ a b1) 0 v1.L b).bind ((fun b1=>.ok b1)) else .bad
theorem Te {W' W_:Value→(List Int)→R (List Int)}(hW : ∀ w0 w1,Le (W' w0 w1) (W_ w0 w1))(v1:Value)(l:List Int):Le (L0 W' v1 l) (Hd W_ v1 l):=by
 unfold L0 Hd
 repeat' first | with_reducible exact Le.refl _ | with_reducible exact hW .. | with_reducible exact L5 .. | with_reducible exact Sg (by assumption) .. | with_reducible apply Cv | with_reducible apply Co | with_reducible apply Da | with_reducible apply Cr | with_reducible apply Cc | with_reducible apply Ce | with_reducible apply Db | with_reducible apply Dd | with_reducible apply C7 | with_reducible apply Dc | with_reducible apply C9 | with_reducible apply D2 | (rw [B9]; with_reducible exact Le.refl _) | intro _
def Ls:Nat→Value→(List Int)→R (List Int)
 | 0,_,_=>.bad
 | n+1,v1,l=>L0 (Ls n) v1 l
theorem Ou : ∀ (n k:Nat) a0 a1,Le (Ls n a0 a1) (Hb (n+k) a0 a1)
 | 0,k,a0,a1=>.inl rfl
 | n+1,k,a0,a1=>by
  rw [show n+1+k=(n+k)+1 by omega]
  exact Te (fun a0 a1=>Ou n k a0 a1) a0 a1
def Mt (v1:Value)(l:List Int):R (List Int):=Ls 16 v1 l
theorem Uk (v1:Value)(l:List Int):Le (Mt v1 l) (Jy v1 l):=by
 unfold Mt Jy
 rw [Abn]
 exact Ou 16 (4000000 - 16) v1 l
def Mj (a:Value)(b1:List Int):R (List Int):=
 if a.Kind=0 then
(.bad)
else
(if a.Kind=1 then
((I5 a b1).bind fun b2=>
 .ok b2)
else
(if a.Kind=2 then
((Jg a b1).bind fun b3=>
 .ok b3)
else
(if a.Kind=3 then
((Mt a b1).bind fun b4=>
 .ok b4)
else
(.bad))))
theorem Tx (a:Value)(b1:List Int):Le (Mj a b1) (Ht a b1):=by
 unfold Mj Ht
 repeat' first | with_reducible exact Le.refl _ | with_reducible exact hW .. | with_reducible exact Lw .. | with_reducible exact Lz .. | with_reducible exact Uk .. | with_reducible apply Cv | with_reducible apply Co | with_reducible apply Da | with_reducible apply Cr | with_reducible apply Cc | with_reducible apply Ce | with_reducible apply Db | with_reducible apply Dd | with_reducible apply C7 | with_reducible apply Dc | with_reducible apply C9 | with_reducible apply D2 | (rw [B9]; with_reducible exact Le.refl _) | intro _
def Ol (v1:Value):R (List Int):=
 if [3].length * 1≤B2 then
 (Kg (IntKind.wrap .u64 (v1.L.length:Int)) [3]).bind fun b=>
 (Fp (fun _ a=>fun b1=>Mj a b1) 0 v1.L b).bind ((fun b1=>.ok b1)) else .bad
theorem Vf (v1:Value):Le (Ol v1) (Jc v1):=by
 unfold Ol Jc
 repeat' first | with_reducible exact Le.refl _ | with_reducible exact hW .. | with_reducible exact L5 .. | with_reducible exact Tx .. | with_reducible apply Cv | with_reducible apply Co | with_reducible apply Da | with_reducible apply Cr | with_reducible apply Cc | with_reducible apply Ce | with_reducible apply Db | with_reducible apply Dd | with_reducible apply C7 | with_reducible apply Dc | with_reducible apply C9 | with_reducible apply D2 | (rw [B9]; with_reducible exact Le.refl _) | intro _
def P8 (v:Value):R ((List Int)×Int):=
 (Ts v).bind fun e=>
 if(e != 0) then
(.ok ([],e))
else
((Ky).bind fun _=>
 if v.Kind=0 then
(.bad)
else
(if v.Kind=1 then
((I5 v []).bind fun b=>
 .ok (b,0))
else
(if v.Kind=2 then
((Jg v []).bind fun b1=>
 .ok (b1,0))
else
(if v.Kind=3 then
((Ol v).bind fun b2=>
 .ok (b2,0))
else
(.bad)))))
theorem Uv (v:Value):Le (P8 v) (Mo v):=by
 unfold P8 Mo
 repeat' first | with_reducible exact Le.refl _ | with_reducible exact hW .. | with_reducible exact Lw .. | with_reducible exact Vf .. | with_reducible exact Aa7 .. | with_reducible exact Lz .. | with_reducible apply Cv | with_reducible apply Co | with_reducible apply Da | with_reducible apply Cr | with_reducible apply Cc | with_reducible apply Ce | with_reducible apply Db | with_reducible apply Dd | with_reducible apply C7 | with_reducible apply Dc | with_reducible apply C9 | with_reducible apply D2 | (rw [B9]; with_reducible exact Le.refl _) | intro _
def L8 (m:Message)(l:List Value)(granted:Int):R ((List Int)×Int):=
 (C1 m.Kind).bind fun r1=>
 (C1 m.From).bind fun r2=>
 (C1 m.To).bind fun r3=>
 (C1 m.Term).bind fun r4=>
 (C1 m.Last).bind fun r5=>
 (C1 m.LastTerm).bind fun r6=>
 (C1 m.Commit).bind fun r7=>
 (C1 m.Match).bind fun r8=>
 (C1 granted).bind fun r9=>
 (P8 ({ Kind:=3,N:=0,S:=[],L:=[r1,r2,r3,r4,r5,r6,({ Kind:=3,N:=0,S:=[],L:=l }:Value),r7,r8,r9] }:Value)).bind fun r10=>
 .ok (r10.1,r10.2)
theorem Wo (m:Message)(l:List Value)(granted:Int):Le (L8 m l granted) (Hg m l granted):=by
 unfold L8 Hg
 repeat' first | with_reducible exact Le.refl _ | with_reducible exact hW .. | with_reducible exact Uv .. | with_reducible apply Cv | with_reducible apply Co | with_reducible apply Da | with_reducible apply Cr | with_reducible apply Cc | with_reducible apply Ce | with_reducible apply Db | with_reducible apply Dd | with_reducible apply C7 | with_reducible apply Dc | with_reducible apply C9 | with_reducible apply D2 | (rw [B9]; with_reducible exact Le.refl _) | intro _
def Qz (m:Message):R ((List Int)×Int):=
 (Fp (fun _ a=>fun l=>Kx a l) 0 m.Log []).bind ((fun l=>if m.Granted then
(L8 m l 1)
else
(L8 m l 0)))
theorem Yl (m:Message):Le (Qz m) (Mv m):=by
 unfold Qz Mv
 repeat' first | with_reducible exact Le.refl _ | with_reducible exact hW .. | with_reducible exact Wo .. | with_reducible apply Cv | with_reducible apply Co | with_reducible apply Da | with_reducible apply Cr | with_reducible apply Cc | with_reducible apply Ce | with_reducible apply Db | with_reducible apply Dd | with_reducible apply C7 | with_reducible apply Dc | with_reducible apply C9 | with_reducible apply D2 | (rw [B9]; with_reducible exact Le.refl _) | intro _
def K4 (s:T107):R (Int×T107):=
 (S8 64 (Kz fun u i fRest=>Iw u i fRest) (0,0,s.fRest)).bind (fun r=>.ok r)
theorem Pv (s:T107):Le (K4 s) (Hi s):=by
 unfold K4 Hi
 repeat' first | with_reducible exact Le.refl _ | with_reducible exact hW .. | with_reducible apply Cv | with_reducible apply Co | with_reducible apply Da | with_reducible apply Cr | with_reducible apply Cc | with_reducible apply Ce | with_reducible apply Db | with_reducible apply Dd | with_reducible apply C7 | with_reducible apply Dc | with_reducible apply C9 | with_reducible apply D2 | (rw [B9]; with_reducible exact Le.refl _) | intro _
def K6 (s:T107):R (Int×T107):=
 (K4 s).bind fun n=>
 (Ep n.2 (decide (n.1≤(IntKind.wrap .u64 (n.2.fRest.length:Int))))).bind fun _=>
 .ok ((IntKind.wrap .i64 n.1),n.2)
theorem Ux (s:T107):Le (K6 s) (Hl s):=by
 unfold K6 Hl
 repeat' first | with_reducible exact Le.refl _ | with_reducible exact hW .. | with_reducible exact Pv .. | with_reducible apply Cv | with_reducible apply Co | with_reducible apply Da | with_reducible apply Cr | with_reducible apply Cc | with_reducible apply Ce | with_reducible apply Db | with_reducible apply Dd | with_reducible apply C7 | with_reducible apply Dc | with_reducible apply C9 | with_reducible apply D2 | (rw [B9]; with_reducible exact Le.refl _) | intro _
def Mi (depth:Int)(W_:Int→T107→R (Value×T107))(r6:(Int×T107))(x:Int)(o:T107)(l:List Value):R ((Int×T107×(List Value)) ⊕ (T107×(List Value))):=
 if x<r6.1 then
((W_ (IntKind.wrap .i64 (depth+1)) o).bind fun r7=>
 if(l.length+[r7.1].length) * 56≤B2 then
 .ok (.inl ((IntKind.wrap .i64 (x+1)),r7.2,(l++[r7.1]))) else .bad)
else
(.ok (.inr ((o,l))))
theorem Tv {W' W_:Int→T107→R (Value×T107)}(hW : ∀ w0 w1,Le (W' w0 w1) (W_ w0 w1))(depth:Int)(r6:(Int×T107))(x:Int)(o:T107)(l:List Value):Le (Mi depth W' r6 x o l) (Hr depth W_ r6 x o l):=by
 unfold Mi Hr
 repeat' first | with_reducible exact Le.refl _ | with_reducible exact hW .. | with_reducible apply Cv | with_reducible apply Co | with_reducible apply Da | with_reducible apply Cr | with_reducible apply Cc | with_reducible apply Ce | with_reducible apply Db | with_reducible apply Dd | with_reducible apply C7 | with_reducible apply Dc | with_reducible apply C9 | with_reducible apply D2 | (rw [B9]; with_reducible exact Le.refl _) | intro _
def Nc (W_:Int→T107→R (Value×T107))(depth:Int)(s:T107):R (Value×T107):=
 (Hf 1 s).bind fun _=>
 (Cp (s.fRest.take 1) 0).bind fun a=>
 if((IntKind.wrap .i64 a)==1) then
((K4 ({ fRest:=(s.fRest.drop 1) }:T107)).bind fun r1=>
 (Q1 r1.1).bind fun r2=>
 .ok (({ Kind:=(IntKind.wrap .i64 a),N:=r2,S:=[],L:=[] }:Value),r1.2))
else
(if((IntKind.wrap .i64 a)==2) then
((K6 ({ fRest:=(s.fRest.drop 1) }:T107)).bind fun r3=>
 (Hf r3.1 r3.2).bind fun _=>
 .ok (({ Kind:=(IntKind.wrap .i64 a),N:=0,S:=(Cw (r3.2.fRest.take (Int.toNat r3.1))),L:=[] }:Value),({ fRest:=(r3.2.fRest.drop (Int.toNat r3.1)) }:T107)))
else
(if((IntKind.wrap .i64 a)==3) then
((Ep ({ fRest:=(s.fRest.drop 1) }:T107) (decide (depth<16))).bind fun _=>
 (K6 ({ fRest:=(s.fRest.drop 1) }:T107)).bind fun r6=>
 (S8 64 (Kz fun x o l=>Mi depth W_ r6 x o l) (0,r6.2,[])).bind (Dx fun o1 l1=>I4 a o1 l1))
else
((Ep ({ fRest:=(s.fRest.drop 1) }:T107) false).bind fun _=>
 .ok (({ Kind:=(IntKind.wrap .i64 a),N:=0,S:=[],L:=[] }:Value),({ fRest:=(s.fRest.drop 1) }:T107)))))
theorem Uj {W' W_:Int→T107→R (Value×T107)}(hW : ∀ w0 w1,Le (W' w0 w1) (W_ w0 w1))(depth:Int)(s:T107):Le (Nc W' depth s) (H5 W_ depth s):=by
 unfold Nc H5
 repeat' first | with_reducible exact Le.refl _ | with_reducible exact hW .. | with_reducible exact Ux .. | with_reducible exact Tv (by assumption) .. | with_reducible exact Pv .. | with_reducible apply Cv | with_reducible apply Co | with_reducible apply Da | with_reducible apply Cr | with_reducible apply Cc | with_reducible apply Ce | with_reducible apply Db | with_reducible apply Dd | with_reducible apply C7 | with_reducible apply Dc | with_reducible apply C9 | with_reducible apply D2 | (rw [B9]; with_reducible exact Le.refl _) | intro _
def M6:Nat→Int→T107→R (Value×T107)
 | 0,_,_=>.bad
 | n+1,depth,s=>Nc (M6 n) depth s
theorem Pj : ∀ (n k:Nat) a0 a1,Le (M6 n a0 a1) (H3 (n+k) a0 a1)
 | 0,k,a0,a1=>.inl rfl
 | n+1,k,a0,a1=>by
  rw [show n+1+k=(n+k)+1 by omega]
  exact Uj (fun a0 a1=>Pj n k a0 a1) a0 a1
def Ok (depth:Int)(s:T107):R (Value×T107):=M6 16 depth s
theorem Vt (depth:Int)(s:T107):Le (Ok depth s) (Ki depth s):=by
 unfold Ok Ki
 rw [Abn]
 exact Pj 16 (4000000 - 16) depth s
def Qx (b:List Int):R (Value×Int):=
 (Ok 0 ({ fRest:=b }:T107)).bind fun r=>
 (Ep r.2 ((r.2.fRest.length:Int)==0)).bind fun _=>
 .ok (r.1,0)
theorem Yj (b:List Int):Le (Qx b) (Mq b):=by
 unfold Qx Mq
 repeat' first | with_reducible exact Le.refl _ | with_reducible exact hW .. | with_reducible exact Vt .. | with_reducible apply Cv | with_reducible apply Co | with_reducible apply Da | with_reducible apply Cr | with_reducible apply Cc | with_reducible apply Ce | with_reducible apply Db | with_reducible apply Dd | with_reducible apply C7 | with_reducible apply Dc | with_reducible apply C9 | with_reducible apply D2 | (rw [B9]; with_reducible exact Le.refl _) | intro _
def Sw (b:List Int):R (Value×Int):=
 (Qx b).catch' (Ld 28 .i64 (fun n=>(Fg n).bind fun p=>.ok (({ Kind:=0,N:=0,S:=[],L:=[] }:Value),p)) (fun _=>.bad))
theorem Z2 (b:List Int):Le (Sw b) (Qt b):=by
 unfold Sw Qt
 repeat' first | with_reducible exact Le.refl _ | with_reducible exact hW .. | with_reducible exact Yj .. | with_reducible apply Cv | with_reducible apply Co | with_reducible apply Da | with_reducible apply Cr | with_reducible apply Cc | with_reducible apply Ce | with_reducible apply Db | with_reducible apply Dd | with_reducible apply C7 | with_reducible apply Dc | with_reducible apply C9 | with_reducible apply D2 | (rw [B9]; with_reducible exact Le.refl _) | intro _
def Po (b:List Int):R (Message×Int):=
 (Sw b).bind fun r=>
 if(r.2 != 0) then
(.ok (({ Kind:=0,From:=0,To:=0,Term:=0,Last:=0,LastTerm:=0,Log:=[],Commit:=0,Match:=0,Granted:=false }:Message),r.2))
else
((if((r.1.Kind==3)&&((r.1.L.length:Int)==10)) then(Cp r.1.L 6).bind fun a=>
 R.ok (a.Kind==3) else R.ok false).bind (fun(b1:Bool)=>(Bg b1 470).bind fun _=>
 (Bl 0 r.1).bind fun r2=>
 (Bl 1 r.1).bind fun r3=>
 (Bl 2 r.1).bind fun r4=>
 (Bl 3 r.1).bind fun r5=>
 (Bl 4 r.1).bind fun r6=>
 (Bl 5 r.1).bind fun r7=>
 (Bl 7 r.1).bind fun r8=>
 (Bl 8 r.1).bind fun r9=>
 (Bl 9 r.1).bind fun r10=>
 (Bl 9 r.1).bind fun r11=>
 (Bm r11 0 1).bind fun r12=>
 (Bg r12 470).bind fun _=>
 (Cp r.1.L 6).bind fun a1=>
 (Fp (fun _ a2=>fun l=>J3 a2 l) 0 a1.L []).bind ((fun l=>.ok (({ Kind:=r2,From:=r3,To:=r4,Term:=r5,Last:=r6,LastTerm:=r7,Log:=l,Commit:=r8,Match:=r9,Granted:=(r10==1) }:Message),0)))))
theorem W5 (b:List Int):Le (Po b) (Lh b):=by
 unfold Po Lh
 repeat' first | with_reducible exact Le.refl _ | with_reducible exact hW .. | with_reducible exact Z2 .. | with_reducible apply Cv | with_reducible apply Co | with_reducible apply Da | with_reducible apply Cr | with_reducible apply Cc | with_reducible apply Ce | with_reducible apply Db | with_reducible apply Dd | with_reducible apply C7 | with_reducible apply Dc | with_reducible apply C9 | with_reducible apply D2 | (rw [B9]; with_reducible exact Le.refl _) | intro _
def Oo (b:List Int):R (Message×Int):=
 (Po b).catch' (If 105 .i64 (fun n=>(Es n).bind fun p=>.ok (({ Kind:=0,From:=0,To:=0,Term:=0,Last:=0,LastTerm:=0,Log:=[],Commit:=0,Match:=0,Granted:=false }:Message),p)) (fun _=>.bad))
theorem Yp (b:List Int):Le (Oo b) (M4 b):=by
 unfold Oo M4
 repeat' first | with_reducible exact Le.refl _ | with_reducible exact hW .. | with_reducible exact W5 .. | with_reducible apply Cv | with_reducible apply Co | with_reducible apply Da | with_reducible apply Cr | with_reducible apply Cc | with_reducible apply Ce | with_reducible apply Db | with_reducible apply Dd | with_reducible apply C7 | with_reducible apply Dc | with_reducible apply C9 | with_reducible apply D2 | (rw [B9]; with_reducible exact Le.refl _) | intro _
def Y2:R Bool:=
 (Iq 0 3).bind fun r=>
 (Iq 0 6).bind fun r1=>
 (Ny r.1 []).bind fun r2=>
 (Np r.1 ({ Kind:=0,From:=0,To:=0,Term:=0,Last:=0,LastTerm:=0,Log:=[],Commit:=0,Match:=0,Granted:=false }:Message)).bind fun r3=>
 (Iq 0 1).bind fun r4=>
 (Nn r4.1).bind fun r5=>
 (Ny r5.1 [97]).bind fun r6=>
 (Nn r.1).bind fun r7=>
 (Np r7.1 ({ Kind:=2,From:=2,To:=0,Term:=1,Last:=0,LastTerm:=0,Log:=[],Commit:=0,Match:=0,Granted:=true }:Message)).bind fun r8=>
 (Qz ({ Kind:=3,From:=0,To:=0,Term:=0,Last:=0,LastTerm:=0,Log:=[({ Term:=3,Data:=[120] }:Record)],Commit:=1,Match:=0,Granted:=true }:Message)).bind fun r9=>
 (Oo r9.1).bind fun r10=>
 (P8 ({ Kind:=1,N:=0,S:=[],L:=[] }:Value)).bind fun r11=>
 (Oo r11.1).bind fun r12=>
 (if(((((((((((((r.2 != 0)||(r1.2 != 470))||(r2.2.2 != 470))||(r3.2.2 != 470))||(r4.2 != 0))||(r5.2.2 != 0))||(r6.2.2 != 0))||(r7.2.2 != 0))||(r8.2.2 != 0))||(r9.2 != 0))||(r10.2 != 0))||(r11.2 != 0))||(r12.2 != 470)) then R.ok true else(Eb ({ ID:=0,Many:=0,Term:=0,Vote:=0,Log:=[],Role:=0,Commit:=0,Votes:=[],Match:=[] }:Replica)).bind fun r13=>
 R.ok (r13 != 470)).bind (fun(b:Bool)=>(if b then R.ok true else(Eb r.1).bind fun r14=>
 R.ok (r14 != 0)).bind (fun(b1:Bool)=>if b1 then
(.ok false)
else
((De r6.1).bind fun r15=>
 (if(((r5.2.1.length:Int)==0)&&((r15.length:Int)==1)) then(Cp r15 0).bind fun a=>
 R.ok ((Cw a)==[97]) else R.ok false).bind (fun(b2:Bool)=>(if b2 then(F4 r6.1).bind fun r16=>
 (De r16).bind fun r17=>
 R.ok ((r17.length:Int)==0) else R.ok false).bind (fun(b3:Bool)=>(if(b3&&((r7.2.1.length:Int)==2)) then(Cp r7.2.1 0).bind fun a1=>
 R.ok (a1.Kind==1) else R.ok false).bind (fun(b4:Bool)=>(if((b4&&(r8.1.Role==2))&&((r8.2.1.length:Int)==2)) then(Cp r8.2.1 1).bind fun a2=>
 R.ok (a2.Kind==3) else R.ok false).bind (fun(b5:Bool)=>(if((b5&&r10.1.Granted)&&((r10.1.Log.length:Int)==1)) then(Cp r10.1.Log 0).bind fun a3=>
 R.ok ((Cw a3.Data)==[120]) else R.ok false).bind (fun(b6:Bool)=>.ok b6))))))))
theorem Acm:Le (Y2 ) (Pf ):=by
 unfold Y2 Pf
 repeat' first | with_reducible exact Le.refl _ | with_reducible exact hW .. | with_reducible exact W7 .. | with_reducible exact Uv .. | with_reducible exact W9 .. | with_reducible exact Yp .. | with_reducible exact Xy .. | with_reducible exact Yl .. | with_reducible apply Cv | with_reducible apply Co | with_reducible apply Da | with_reducible apply Cr | with_reducible apply Cc | with_reducible apply Ce | with_reducible apply Db | with_reducible apply Dd | with_reducible apply C7 | with_reducible apply Dc | with_reducible apply C9 | with_reducible apply D2 | (rw [B9]; with_reducible exact Le.refl _) | intro _
end Go.Am
namespace Go.Am
open Go
theorem Acr:Pf=.ok true:=An2 Acm (by kernel_rfl)
end Go.Am
namespace Go.Am
open Go
set_option linter.unusedVariables false
set_option linter.unusedSimpArgs false
namespace Rp
end Rp
end Go.Am
namespace Go.Am
open Go
set_option linter.unusedVariables false
set_option linter.unusedSimpArgs false
namespace Rp
structure Sys where
 rs:List Replica
 sent:List Message
def Sys.put (s:Sys)(k:Nat)(x:Replica)(l:List Message):Sys:=⟨s.rs.set k x,s.sent++l⟩
inductive Next (s:Sys):Sys→Prop
 | time (k:Nat) (r:Replica) (h:s.rs[k]? = some r) (ht:r.Term≠1048576):Next s (s.put k (Ks r).1 (Ks r).2)
 | prop (k:Nat) (r:Replica) (d:List Int) (h:s.rs[k]? = some r) (hr:r.Role=2) (hl:r.Log.length<4096) (hd : ∀ b ∈ d,0≤b∧b<256):Next s (s.put k (Pg r d).1 (Pg r d).2)
 | rest (k:Nat) (r:Replica) (h:s.rs[k]? = some r):Next s (s.put k (Acw r) [])
 | recv (k:Nat) (r:Replica) (m:Message) (x:Replica) (l:List Message) (h:s.rs[k]? = some r) (hm:m ∈ s.sent) (hk:m.To=k) (ho:P7 r m=some (x,l)):Next s (s.put k x l)
end Rp
end Go.Am
namespace Go.Am
open Go
set_option linter.unusedVariables false
set_option linter.unusedSimpArgs false
namespace Rp
theorem Afg {l:List Int}(h:1≤l.length):l.length<2 * l.countP (fun a=>decide (Ek l≤a)):=by
 have hp:(Gm l).Perm l:=List.mergeSort_perm l _
 have hs:(Gm l).Pairwise (· ≤ ·):=by rw [B9]; exact Sh l
 have hlen:(Gm l).length=l.length:=O2 l
 have hi:(l.length - 1) / 2<(Gm l).length:=by rw [hlen]; omega
 have hm:Ek l=(Gm l)[(l.length - 1) / 2]:=by
  unfold Ek
  simp only [List.getD,List.getElem?_eq_getElem hi,Option.getD_some]
 rw [← hp.countP_eq]
 have e:Gm l=(Gm l).take ((l.length - 1) / 2)++(Gm l).drop ((l.length - 1) / 2):=(List.take_append_drop _ _).symm
 have hall : ∀ a ∈ (Gm l).drop ((l.length - 1) / 2),decide (Ek l≤a)=true:=by
  intro a ha
  rw [decide_eq_true_eq,hm]
  obtain⟨j,hj⟩:=List.getElem?_of_mem ha
  rw [List.getElem?_drop] at hj
  have hjl:(l.length - 1) / 2+j<(Gm l).length:=by
   rcases Nat.lt_or_ge ((l.length - 1) / 2+j) (Gm l).length with hh | hh
   ·exact hh
   ·rw [List.getElem?_eq_none hh] at hj; cases hj
  rw [List.getElem?_eq_getElem hjl] at hj
  cases hj
  rcases Nat.eq_zero_or_pos j with rfl | hj0
  ·exact Int.le_refl _
  ·exact List.pairwise_iff_getElem.1 hs _ _ hi hjl (by omega)
 have hc:((Gm l).drop ((l.length - 1) / 2)).countP (fun a=>decide (Ek l≤a))=l.length - (l.length - 1) / 2:=by
  rw [List.countP_eq_length.2 hall,List.length_drop,hlen]
 have:(Gm l).countP (fun a=>decide (Ek l≤a))=((Gm l).take ((l.length - 1) / 2)).countP (fun a=>decide (Ek l≤a))+((Gm l).drop ((l.length - 1) / 2)).countP (fun a=>decide (Ek l≤a)):=by
  rw [← List.countP_append,← e]
 rw [this,hc]
 omega
theorem Am2 {n:Nat}{p q:Nat→Bool}(hp:n<2 * (List.range n).countP p)(hq:n<2 * (List.range n).countP q) : ∃ i,i<n∧p i=true∧q i=true:=by
 refine Classical.byContradiction fun hn=>?_
 have hd : ∀ i ∈ List.range n,¬ (p i=true∧q i=true):=fun i hi hpq=>hn ⟨i,by simpa using hi,hpq.1,hpq.2⟩
 have key : ∀ l:List Nat,(∀ i ∈ l,¬ (p i=true∧q i=true))→l.countP p+l.countP q≤l.length:=by
  intro l
  induction l with
  | nil=>intro _; simp
  | cons a l ih=>
   intro h
   have h1:=ih fun i hi=>h i (List.mem_cons_of_mem _ hi)
   have h2:=h a (List.mem_cons_self ..)
   rw [List.countP_cons,List.countP_cons,List.length_cons]
   cases hpa:p a <;> cases hqa:q a <;> simp [hpa,hqa] at h2 ⊢ <;> omega
 have:=key (List.range n) hd
 rw [List.length_range] at this
 omega
end Rp
end Go.Am
namespace Go.Am
open Go
set_option linter.unusedVariables false
set_option linter.unusedSimpArgs false
namespace Rp
structure Abs where
 T:Nat→Int
 L:Nat→List Record
 V:Int→Nat→Option Nat
 vl:Int→Nat→List Record
 led:Int→Option Nat
 S:Int→Nat→Bool
 LL:Int→List Record
 A:Int→Nat→Nat
structure LM (a:Abs)(X:List Record):Prop where
 srt:X.Pairwise (fun x y=>x.Term≤y.Term)
 pos : ∀ e ∈ X,1≤e.Term
 at' : ∀ (i:Nat) e,X[i]? = some e→(∃ c,a.led e.Term=some c)∧X.take (i+1) <+: a.LL e.Term
def Aep (X Y:List Record):Prop:=Js Y<Js X∨Js Y=Js X∧Y.length≤X.length
def U4 (a:Abs)(t hi:Int)(P:List Record):Prop := ∃ u c,t<u∧u≤hi∧a.led u=some c∧¬ P <+: a.vl u c
structure Inv (N:Nat)(a:Abs):Prop where
 lm : ∀ f,LM a (a.L f)
 lmv : ∀ t f c,a.V t f=some c→LM a (a.vl t f)
 lml : ∀ t c,a.led t=some c→LM a (a.LL t)
 lt : ∀ f,∀ e ∈ a.L f,e.Term≤a.T f
 vt : ∀ t f c,a.V t f=some c→t≤a.T f
 vc : ∀ t f c,a.V t f=some c→a.V t c=some c∧Aep (a.vl t c) (a.vl t f)
 vb : ∀ t c,a.V t c=some c → ∀ e ∈ a.vl t c,e.Term<t
 ls : ∀ t c,a.led t=some c→a.V t c=some c∧N<2 * (List.range N).countP (a.S t) ∧ ∀ f,a.S t f=true→a.V t f=some c
 lb : ∀ t c,a.led t=some c → ∃ M,a.LL t=a.vl t c++M ∧ ∀ e ∈ M,e.Term=t
 sv : ∀ t f,a.S t f=true → ∃ c,a.led t=some c
 ac : ∀ t f,1≤a.A t f→(∃ c,a.led t=some c)∧t≤a.T f∧a.A t f≤(a.LL t).length
 x : ∀ t f n,1≤n→n≤a.A t f→(a.LL t).take n <+: a.L f∨U4 a t (a.T f) ((a.LL t).take n)
 w : ∀ t t' f n,1≤n→n≤a.A t f→t<t'→((∃ c,a.V t' f=some c)∧a.led t'=none∨a.S t' f=true)→(a.LL t).take n <+: a.vl t' f∨U4 a t (t' - 1) ((a.LL t).take n)
structure Com (N:Nat)(a:Abs)(t:Int)(n:Nat):Prop where
 one:1≤n
 at' : ∃ e,(a.LL t)[n - 1]? = some e∧e.Term=t
 most:N<2 * (List.range N).countP fun f=>decide (n≤a.A t f)
theorem Age {X Y Z:List Record}(h1:X <+: Z)(h2:Y <+: Z):X <+: Y∨Y <+: X:=List.prefix_or_prefix_of_prefix h1 h2
theorem Aba {X Y Z:List Record}(h1:X <+: Z)(h2:Y <+: Z)(h:X.length≤Y.length):X <+: Y:=List.prefix_of_prefix_length_le h1 h2 h
theorem Akp {X:List Record}{e:Record}(h:X.getLast? = some e):Js X=e.Term:=by unfold Js; rw [h]
theorem Xh {X:List Record}(h:1≤X.length) : ∃ e,X[X.length - 1]? = some e∧Js X=e.Term:=by
 have h1:X.length - 1<X.length:=by omega
 refine⟨X[X.length - 1],List.getElem?_eq_getElem h1,Akp ?_⟩
 rw [List.getLast?_eq_getElem?,List.getElem?_eq_getElem h1]
theorem Amp {X:List Record}(hs:X.Pairwise (fun x y=>x.Term≤y.Term)){i:Nat}{e:Record}(h:X[i]? = some e):e.Term≤Js X:=by
 have hi:i<X.length:=by
  rcases Nat.lt_or_ge i X.length with hh | hh
  ·exact hh
  ·rw [List.getElem?_eq_none hh] at h; cases h
 obtain⟨g,hg,he⟩:=Xh (X:=X) (by omega)
 rw [he]
 have h1:X.length - 1<X.length:=by omega
 rw [List.getElem?_eq_getElem h1] at hg
 rw [List.getElem?_eq_getElem hi] at h
 cases hg; cases h
 rcases Nat.lt_or_ge i (X.length - 1) with hh | hh
 ·exact List.pairwise_iff_getElem.1 hs i (X.length - 1) hi h1 hh
 ·have:i=X.length - 1:=by omega
  subst this
  exact Int.le_refl _
theorem Abm {X Y:List Record}(h:X <+: Y){i:Nat}{e:Record}(hx:X[i]? = some e):Y[i]? = some e:=by
 obtain⟨Z,rfl⟩:=h
 have hi:i<X.length:=by
  rcases Nat.lt_or_ge i X.length with hh | hh
  ·exact hh
  ·rw [List.getElem?_eq_none hh] at hx; cases hx
 rw [List.getElem?_append_left hi,hx]
theorem Aeo {N:Nat}{a:Abs}(h:Inv N a){t:Int}{n:Nat}(hc:Com N a t n) : ∀ (k:Nat) (t':Int),t'≤t+k→t<t' → ∀ c',a.led t'=some c'→(a.LL t).take n <+: a.vl t' c'
 | 0,t',h1,h2,c',h3=>by omega
 | k+1,t',h1,h2,c',h3=>by
  have ih:=Aeo h hc k
  obtain⟨v1,v2,v3⟩:=h.ls t' c' h3
  obtain⟨f,hf,hp,hq⟩:=Am2 hc.most v2
  have hn:n≤a.A t f:=by simpa using hp
  have no:¬ U4 a t (t' - 1) ((a.LL t).take n):=by
   rintro⟨u,c,q1,q2,q3,q4⟩
   exact q4 (ih u (by omega) q1 c q3)
  have hw:=(h.w t t' f n hc.one hn h2 (.inr hq)).resolve_right no
  obtain⟨⟨cl,hcl⟩,ha2,ha3⟩:=h.ac t f (by have:=hc.one; omega)
  obtain⟨e,he1,he2⟩:=hc.at'
  have hPl:((a.LL t).take n).length=n:=by rw [List.length_take]; omega
  have hone:=hc.one
  have heP:((a.LL t).take n)[n - 1]? = some e:=by rw [List.getElem?_take,if_pos (by omega),he1]
  have het:1≤t:=by rw [← he2]; exact(h.lml t cl hcl).pos e (List.mem_of_getElem? he1)
  have hvf:=v3 f hq
  obtain⟨_,hbet⟩:=h.vc t' f c' hvf
  have hlf:t≤Js (a.vl t' f):=by
   rw [← he2]
   exact Amp (h.lmv t' f c' hvf).srt (Abm hw heP)
  have hlen:n≤(a.vl t' f).length:=by rw [← hPl]; exact hw.length_le
  have hlc:t≤Js (a.vl t' c'):=by rcases hbet with q | q <;> omega
  have hnz:1≤(a.vl t' c').length:=by
   rcases Nat.eq_zero_or_pos (a.vl t' c').length with q | q
   ·rw [List.length_eq_zero_iff.1 q] at hlc
    have:Js []=0:=rfl
    omega
   ·omega
  obtain⟨g,hg1,hg2⟩:=Xh hnz
  have hmc:=h.lmv t' c' c' v1
  obtain⟨⟨cu,hcu⟩,hpre⟩:=hmc.at' _ g hg1
  rw [show(a.vl t' c').length - 1+1=(a.vl t' c').length by omega,List.take_length] at hpre
  have hgt:g.Term<t':=h.vb t' c' v1 g (List.mem_of_getElem? hg1)
  rcases Int.lt_or_eq_of_le hlc with hlt | heq
  ·have hup:(a.LL t).take n <+: a.vl g.Term cu:=ih g.Term (by omega) (by omega) cu hcu
   obtain⟨M,hM,_⟩:=h.lb g.Term cu hcu
   have hup2:a.vl g.Term cu <+: a.LL g.Term:=⟨M,hM.symm⟩
   refine Aba (hup.trans hup2) hpre ?_
   rcases Nat.lt_or_ge (a.vl t' c').length (a.vl g.Term cu).length with hh | hh
   ·exfalso
    have hgL:=Abm hpre hg1
    have:(a.vl g.Term cu)[(a.vl t' c').length - 1]? = some g:=by
     rw [hM,List.getElem?_append_left (by omega)] at hgL
     exact hgL
    have:=h.vb g.Term cu (h.ls g.Term cu hcu).1 g (List.mem_of_getElem? this)
    omega
   ·have:=hup.length_le; omega
  ·have hgt:g.Term=t:=by omega
   rw [hgt] at hpre
   refine Aba (List.take_prefix _ _) hpre ?_
   rw [hPl]
   rcases hbet with q | q
   ·omega
   ·omega
theorem Agg {N:Nat}{a:Abs}(h:Inv N a){t t':Int}{n:Nat}{c':Nat}(hc:Com N a t n)(ht:t<t')(hl:a.led t'=some c'):(a.LL t).take n <+: a.vl t' c':=
 Aeo h hc (t' - t).toNat t' (by omega) ht c' hl
theorem Ad1 {N:Nat}{a:Abs}(h:Inv N a){t:Int}{c:Nat}(hl:a.led t=some c):a.vl t c <+: a.LL t:=by
 obtain⟨M,hM,_⟩:=h.lb t c hl
 exact⟨M,hM.symm⟩
theorem Afk {N:Nat}{a:Abs}(h:Inv N a)(hN:1≤N){t:Int}{n:Nat}(hc:Com N a t n) : ∃ c,a.led t=some c:=by
 have h1:=hc.most
 have : ∃ f ∈ List.range N,decide (n≤a.A t f)=true:=by
  refine Classical.byContradiction fun hn=>?_
  have:(List.range N).countP (fun f=>decide (n≤a.A t f))=0:=List.countP_eq_zero.2 fun f hf hq=>hn ⟨f,hf,hq⟩
  omega
 obtain⟨f,_,hf⟩:=this
 have:n≤a.A t f:=by simpa using hf
 exact(h.ac t f (by have:=hc.one; omega)).1
def CP (N:Nat)(a:Abs)(hi:Int)(X:List Record):Prop:=X=[] ∨ ∃ t n,Com N a t n∧t≤hi∧X=(a.LL t).take n
theorem Ang {N:Nat}{a:Abs}(h:Inv N a){t:Int}{c:Nat}{X:List Record}(hx:CP N a t X)(hl:a.led t=some c):X <+: a.LL t:=by
 rcases hx with rfl | ⟨t1,n,c1,t2,rfl⟩
 ·exact List.nil_prefix
 rcases Int.lt_or_eq_of_le t2 with q | q
 ·exact(Agg h c1 q hl).trans (Ad1 h hl)
 ·subst q; exact List.take_prefix _ _
end Rp
end Go.Am
namespace Go.Am
open Go
set_option linter.unusedVariables false
set_option linter.unusedSimpArgs false
namespace Rp
structure Grow (a b:Abs):Prop where
 T : ∀ f,a.T f≤b.T f
 V : ∀ t f c,a.V t f=some c→b.V t f=some c∧b.vl t f=a.vl t f
 led : ∀ t c,a.led t=some c→b.led t=some c∧a.LL t <+: b.LL t
 A : ∀ t f,a.A t f≤b.A t f
theorem Grow.refl (a:Abs):Grow a a:=⟨fun _=>Int.le_refl _,fun _ _ _ h=>⟨h,rfl⟩,fun _ _ h=>⟨h,List.prefix_refl _⟩,fun _ _=>Nat.le_refl _⟩
theorem Grow.trans {a b c:Abs}(h1:Grow a b)(h2:Grow b c):Grow a c:=
 ⟨fun f=>Int.le_trans (h1.T f) (h2.T f),fun t f x h=>by
  obtain⟨q1,q2⟩:=h1.V t f x h
  obtain⟨q3,q4⟩:=h2.V t f x q1
  exact⟨q3,by rw [q4,q2]⟩,fun t x h=>by
  obtain⟨q1,q2⟩:=h1.led t x h
  obtain⟨q3,q4⟩:=h2.led t x q1
  exact⟨q3,q2.trans q4⟩,fun t f=>Nat.le_trans (h1.A t f) (h2.A t f)⟩
structure Frame (k:Nat)(a b:Abs):Prop where
 T : ∀ f,f≠k→b.T f=a.T f
 L : ∀ f,f≠k→b.L f=a.L f
 V : ∀ t f,f≠k→b.V t f=a.V t f
 led : ∀ t,b.led t=a.led t∨b.led t=some k
 LL : ∀ t c,a.led t=some c→c≠k→b.LL t=a.LL t
theorem Frame.refl (k:Nat)(a:Abs):Frame k a a:=⟨fun _ _=>rfl,fun _ _=>rfl,fun _ _ _=>rfl,fun _=>.inl rfl,fun _ _ _ _=>rfl⟩
theorem Frame.trans {k:Nat}{a b c:Abs}(hg:Grow a b)(h1:Frame k a b)(h2:Frame k b c):Frame k a c:=
  ⟨fun f hf=>by rw [h2.T f hf,h1.T f hf],fun f hf=>by rw [h2.L f hf,h1.L f hf],fun t f hf=>by rw [h2.V t f hf,h1.V t f hf],
   fun t=>by
    rcases h2.led t with q | q
    · rw [q]; exact h1.led t
    · exact .inr q,fun t x hx hk=>by rw [h2.LL t x (hg.led t x hx).1 hk,h1.LL t x hx hk]⟩
theorem LM.grow {a b:Abs}{X:List Record}(h:LM a X)(hg : ∀ t c,a.led t=some c→b.led t=some c∧a.LL t <+: b.LL t):LM b X:=
 ⟨h.srt,h.pos,fun i e he=>by
  obtain⟨⟨c,hc⟩,hp⟩:=h.at' i e he
  obtain⟨q1,q2⟩:=hg _ _ hc
  exact⟨⟨c,q1⟩,hp.trans q2⟩⟩
theorem LM.pre {a:Abs}{X Y:List Record}(h:LM a Y)(hp:X <+: Y):LM a X:=by
 obtain⟨Z,rfl⟩:=hp
 refine⟨(List.pairwise_append.1 h.srt).1,fun e he=>h.pos e (List.mem_append_left _ he),fun i e he=>?_⟩
 have hi:i<X.length:=by
  rcases Nat.lt_or_ge i X.length with hh | hh
  ·exact hh
  ·rw [List.getElem?_eq_none hh] at he; cases he
 obtain⟨q1,q2⟩:=h.at' i e (by rw [List.getElem?_append_left hi,he])
 refine⟨q1,?_⟩
 rw [List.take_append_of_le_length (by omega)] at q2
 exact q2
theorem Acj {X Y:List Record}{n:Nat}(h:X <+: Y)(hn:n≤X.length):Y.take n=X.take n:=by
 obtain⟨Z,rfl⟩:=h
 exact List.take_append_of_le_length hn
theorem Com.grow {N:Nat}{a b:Abs}(h:Inv N a)(hN:1≤N)(hg:Grow a b){t:Int}{n:Nat}(hc:Com N a t n):Com N b t n∧(b.LL t).take n=(a.LL t).take n:=by
 obtain⟨c,hl⟩:=Afk h hN hc
 obtain⟨e,he1,he2⟩:=hc.at'
 have hp:=(hg.led t c hl).2
 have hlen:n - 1<(a.LL t).length:=by
  rcases Nat.lt_or_ge (n - 1) (a.LL t).length with hh | hh
  ·exact hh
  ·rw [List.getElem?_eq_none hh] at he1; cases he1
 refine⟨⟨hc.one,⟨e,Abm hp he1,he2⟩,?_⟩,Acj hp (by have:=hc.one; omega)⟩
 have:(List.range N).countP (fun f=>decide (n≤a.A t f))≤(List.range N).countP (fun f=>decide (n≤b.A t f)):=
  List.countP_mono_left fun f _ hf=>by
   have:=hg.A t f
   have:n≤a.A t f:=by simpa using hf
   simp; omega
 have:=hc.most
 omega
theorem CP.grow {N:Nat}{a b:Abs}(h:Inv N a)(hN:1≤N)(hg:Grow a b){hi hi':Int}(hle:hi≤hi'){X:List Record}(hx:CP N a hi X):CP N b hi' X:=by
 rcases hx with rfl | ⟨t,n,c1,t1,rfl⟩
 ·exact .inl rfl
 ·obtain⟨q1,q2⟩:=c1.grow h hN hg
  exact .inr ⟨t,n,q1,by omega,q2.symm⟩
def Vv (a:Abs)(k:Nat)(t:Int):Abs:={ a with T:=fun f=>if f=k then t else a.T f }
theorem Aic {a:Abs}{k:Nat}{t:Int}(h:a.T k≤t)(f:Nat):a.T f≤(Vv a k t).T f:=by
 show a.T f≤if f=k then t else a.T f
 split
 ·subst f; exact h
 ·exact Int.le_refl _
theorem Wc {a:Abs}{k:Nat}{t:Int}(h:a.T k≤t):Grow a (Vv a k t):=⟨Aic h,fun _ _ _ q=>⟨q,rfl⟩,fun _ _ q=>⟨q,List.prefix_refl _⟩,fun _ _=>Nat.le_refl _⟩
theorem Ab3 (a:Abs)(k:Nat)(t:Int):Frame k a (Vv a k t):=⟨fun f hf=>if_neg hf,fun _ _=>rfl,fun _ _ _=>rfl,fun _=>.inl rfl,fun _ _ _ _=>rfl⟩
theorem Af2 {N:Nat}{a:Abs}{k:Nat}{t:Int}(h:Inv N a)(ht:a.T k≤t):Inv N (Vv a k t):=by
 have hle:=Aic ht
 refine⟨fun f=>⟨(h.lm f).srt,(h.lm f).pos,(h.lm f).at'⟩,fun t f c q=>⟨(h.lmv t f c q).srt,(h.lmv t f c q).pos,(h.lmv t f c q).at'⟩,fun t c q=>⟨(h.lml t c q).srt,(h.lml t c q).pos,(h.lml t c q).at'⟩,
  fun f e he=>Int.le_trans (h.lt f e he) (hle f),fun t f c q=>Int.le_trans (h.vt t f c q) (hle f),h.vc,h.vb,h.ls,h.lb,h.sv,fun t f q=>?_,fun t f n h1 h2=>?_,h.w⟩
 ·obtain⟨q1,q2,q3⟩:=h.ac t f q
  exact⟨q1,Int.le_trans q2 (hle f),q3⟩
 ·rcases h.x t f n h1 h2 with q | ⟨u,c,q1,q2,q3,q4⟩
  ·exact .inl q
  ·exact .inr ⟨u,c,q1,Int.le_trans q2 (hle f),q3,q4⟩
def Ph (a:Abs)(k:Nat)(t:Int)(c:Nat):Abs:={ a with V:=fun t' f=>if t'=t∧f=k then some c else a.V t' f,vl:=fun t' f=>if t'=t∧f=k then a.L k else a.vl t' f }
theorem Af9 {a:Abs}{k:Nat}{t:Int}{c:Nat}(h:a.V t k=none){t':Int}{f x:Nat}(hv:a.V t' f=some x):¬ (t'=t∧f=k):=by
 rintro⟨rfl,rfl⟩
 rw [h] at hv; cases hv
theorem Wp {a:Abs}{k:Nat}{t:Int}{c:Nat}(h:a.V t k=none):Grow a (Ph a k t c):=
 ⟨fun _=>Int.le_refl _,fun t' f x hv=>⟨by show(if _ then _ else _)=_; rw [if_neg (Af9 (c:=c) h hv),hv],if_neg (Af9 (c:=c) h hv)⟩,fun _ _ q=>⟨q,List.prefix_refl _⟩,fun _ _=>Nat.le_refl _⟩
theorem Ach (a:Abs)(k:Nat)(t:Int)(c:Nat):Frame k a (Ph a k t c):=⟨fun f hf=>rfl,fun _ _=>rfl,fun _ _ hf=>if_neg fun q=>hf q.2,fun _=>.inl rfl,fun _ _ _ _=>rfl⟩
theorem Afu {N:Nat}{a:Abs}{k:Nat}{t:Int}{c:Nat}(h:Inv N a)(hT:a.T k=t)(hn:a.V t k=none)
  (hc:c=k∧(∀ e ∈ a.L k,e.Term<t)∨a.V t c=some c∧Aep (a.vl t c) (a.L k)):Inv N (Ph a k t c):=by
 have hV : ∀ {t' f x},(Ph a k t c).V t' f=some x→(t'=t∧f=k∧x=c)∨(¬ (t'=t∧f=k)∧a.V t' f=some x):=by
  intro t' f x hx
  by_cases q:t'=t∧f=k
  ·have:(Ph a k t c).V t' f=some c:=if_pos q
   rw [this] at hx
   cases hx
   exact .inl ⟨q.1,q.2,rfl⟩
  ·have:(Ph a k t c).V t' f=a.V t' f:=if_neg q
   rw [this] at hx
   exact .inr ⟨q,hx⟩
 have old : ∀ {t' f x},a.V t' f=some x→(Ph a k t c).V t' f=some x∧(Ph a k t c).vl t' f=a.vl t' f:=fun hv=>(Wp hn).V _ _ _ hv
 have nv:(Ph a k t c).vl t k=a.L k:=if_pos ⟨rfl,rfl⟩
 have nV:(Ph a k t c).V t k=some c:=if_pos ⟨rfl,rfl⟩
 have hg : ∀ t' c',a.led t'=some c'→(Ph a k t c).led t'=some c'∧a.LL t' <+: (Ph a k t c).LL t':=(Wp (c:=c) hn).led
 have lost : ∀ {t0 hi P},U4 a t0 hi P→U4 (Ph a k t c) t0 hi P:=by
  rintro t0 hi P ⟨u,x,q1,q2,q3,q4⟩
  refine⟨u,x,q1,q2,q3,?_⟩
  rw [(old (h.ls u x q3).1).2]
  exact q4
 refine⟨fun f=>(h.lm f).grow hg,fun t' f x hx=>?_,fun t' x hx=>(h.lml t' x hx).grow hg,h.lt,fun t' f x hx=>?_,fun t' f x hx=>?_,fun t' x hx=>?_,fun t' x hx=>?_,fun t' x hx=>?_,h.sv,h.ac,fun t' f n h1 h2=>?_,fun t0 t' f n h1 h2 h3 h4=>?_⟩
 ·rcases hV hx with⟨rfl,rfl,rfl⟩ | ⟨_,q⟩
  ·rw [nv]; exact(h.lm f).grow hg
  ·rw [(old q).2]; exact(h.lmv _ _ _ q).grow hg
 ·rcases hV hx with⟨rfl,rfl,rfl⟩ | ⟨_,q⟩
  ·show t'≤a.T f; omega
  ·exact h.vt _ _ _ q
 ·rcases hV hx with⟨rfl,rfl,rfl⟩ | ⟨q0,q⟩
  ·rcases hc with⟨rfl,_⟩ | ⟨q1,q2⟩
   ·exact⟨nV,.inr ⟨rfl,Nat.le_refl _⟩⟩
   ·rw [nv,(old q1).2]
    exact⟨(old q1).1,q2⟩
  ·obtain⟨q1,q2⟩:=h.vc _ _ _ q
   rw [(old q).2,(old q1).2]
   exact⟨(old q1).1,q2⟩
 ·rcases hV hx with⟨rfl,rfl,rfl⟩ | ⟨q0,q⟩
  ·rcases hc with⟨_,q2⟩ | ⟨q1,q2⟩
   ·rw [nv]; exact q2
   ·rw [hn] at q1; cases q1
  ·rw [(old q).2]
   exact h.vb _ _ q
 ·obtain⟨q1,q2,q3⟩:=h.ls t' x hx
  exact⟨(old q1).1,q2,fun f hf=>(old (q3 f hf)).1⟩
 ·rw [(old (h.ls t' x hx).1).2]
  exact h.lb t' x hx
 ·rcases h.x t' f n h1 h2 with q | q
  ·exact .inl q
  ·exact .inr (lost q)
 ·have keep:(((∃ x,a.V t' f=some x)∧a.led t'=none)∨a.S t' f=true)→(a.LL t0).take n <+: (Ph a k t c).vl t' f∨U4 (Ph a k t c) t0 (t' - 1) ((a.LL t0).take n):=by
   intro hq
   have hv : ∃ x,a.V t' f=some x:=by
    rcases hq with⟨q,_⟩ | q
    ·exact q
    ·obtain⟨l,hl⟩:=h.sv t' f q
     exact⟨l,(h.ls t' l hl).2.2 f q⟩
   obtain⟨x,hx⟩:=hv
   rw [(old hx).2]
   rcases h.w t0 t' f n h1 h2 h3 hq with q | q
   ·exact .inl q
   ·exact .inr (lost q)
  rcases h4 with⟨⟨x,hx⟩,hl⟩ | hs
  ·rcases hV hx with⟨rfl,rfl,rfl⟩ | ⟨q0,q⟩
   ·rw [nv]
    rcases h.x t0 f n h1 h2 with q | ⟨u,y,q1,q2,q3,q4⟩
    ·exact .inl q
    ·refine .inr (lost ⟨u,y,q1,?_,q3,q4⟩)
     have hl':a.led t'=none:=hl
     have:u≠t':=by rintro rfl; rw [hl'] at q3; cases q3
     omega
   ·exact keep (.inl ⟨⟨x,q⟩,hl⟩)
  ·exact keep (.inr hs)
def R7 (a:Abs)(k:Nat)(t:Int):Abs:={ a with
 led:=fun t'=>if t'=t then some k else a.led t'
 S:=fun t' f=>if t'=t then decide (a.V t f=some k) else a.S t' f
 LL:=fun t'=>if t'=t then a.vl t k else a.LL t'
 A:=fun t' f=>if t'=t∧f=k then(a.vl t k).length else a.A t' f }
theorem Ael {N:Nat}{a:Abs}{k:Nat}{t:Int}(h:Inv N a)(hn:a.led t=none):Grow a (R7 a k t):=by
 refine⟨fun _=>Int.le_refl _,fun _ _ _ q=>⟨q,rfl⟩,fun t' x q=>?_,fun t' f=>?_⟩
 ·have:t'≠t:=by rintro rfl; rw [hn] at q; cases q
  refine⟨?_,?_⟩
  ·show(if _ then _ else _)=_; rw [if_neg this,q]
  ·show _ <+: (if _ then _ else _); rw [if_neg this]; exact List.prefix_refl _
 ·show _≤if _ then _ else _
  split
  ·rename_i q
   obtain⟨rfl,rfl⟩:=q
   rcases Nat.eq_zero_or_pos (a.A t' f) with q | q
   ·omega
   ·obtain⟨⟨c,hc⟩,_⟩:=h.ac t' f q
    rw [hn] at hc; cases hc
  ·exact Nat.le_refl _
theorem Ah3 (a:Abs)(k:Nat)(t:Int)(hn:a.led t=none):Frame k a (R7 a k t):=by
 refine⟨fun _ _=>rfl,fun _ _=>rfl,fun _ _ _=>rfl,fun t'=>?_,fun t' x hx _=>?_⟩
 ·by_cases q:t'=t
  ·exact .inr (if_pos q)
  ·exact .inl (if_neg q)
 ·exact if_neg (by rintro rfl; rw [hn] at hx; cases hx)
theorem Alc {N:Nat}{a:Abs}{k:Nat}{t:Int}(h:Inv N a)(hn:a.led t=none)(hT:a.T k=t)(hv:a.V t k=some k)(hL:a.L k=a.vl t k)
  (hm:N<2 * (List.range N).countP fun f=>decide (a.V t f=some k)):Inv N (R7 a k t):=by
 have hgr:=Ael (k:=k) h hn
 have e1:(R7 a k t).led t=some k:=if_pos rfl
 have e2:(R7 a k t).LL t=a.vl t k:=if_pos rfl
 have e3 : ∀ t',t'≠t→(R7 a k t).led t'=a.led t':=fun t' q=>if_neg q
 have e4 : ∀ t',t'≠t→(R7 a k t).LL t'=a.LL t':=fun t' q=>if_neg q
 have e5 : ∀ f,(R7 a k t).S t f=decide (a.V t f=some k):=fun f=>if_pos rfl
 have e6 : ∀ t' f,t'≠t→(R7 a k t).S t' f=a.S t' f:=fun t' f q=>if_neg q
 have e7 : ∀ t' f,¬ (t'=t∧f=k)→(R7 a k t).A t' f=a.A t' f:=fun t' f q=>if_neg q
 have e8:(R7 a k t).A t k=(a.vl t k).length:=if_pos ⟨rfl,rfl⟩
 have z : ∀ f,a.A t f=0:=by
  intro f
  rcases Nat.eq_zero_or_pos (a.A t f) with q | q
  ·exact q
  ·obtain⟨⟨c,hc⟩,_⟩:=h.ac t f q
   rw [hn] at hc; cases hc
 have ne : ∀ {t' c},a.led t'=some c→t'≠t:=by rintro t' c hc rfl; rw [hn] at hc; cases hc
 have lost : ∀ {t0 hi P},U4 a t0 hi P→U4 (R7 a k t) t0 hi P:=by
  rintro t0 hi P ⟨u,x,q1,q2,q3,q4⟩
  exact⟨u,x,q1,q2,by rw [e3 u (ne q3),q3],q4⟩
 refine⟨fun f=>(h.lm f).grow hgr.led,fun t' f x hx=>(h.lmv t' f x hx).grow hgr.led,fun t' x hx=>?_,h.lt,h.vt,h.vc,h.vb,fun t' x hx=>?_,fun t' x hx=>?_,fun t' f hs=>?_,fun t' f hA=>?_,fun t' f n h1 h2=>?_,fun t0 t' f n h1 h2 h3 h4=>?_⟩
 ·by_cases q:t'=t
  ·subst q
   rw [e2]
   exact(h.lmv t' k k hv).grow hgr.led
  ·rw [e4 t' q]
   rw [e3 t' q] at hx
   exact(h.lml t' x hx).grow hgr.led
 ·by_cases q:t'=t
  ·subst q
   rw [e1] at hx
   cases hx
   refine⟨hv,?_,fun f hf=>?_⟩
   ·rw [List.countP_congr (q:=fun f=>decide (a.V t' f=some k)) fun f _=>by rw [e5 f]]
    exact hm
   ·rw [e5 f] at hf
    exact of_decide_eq_true hf
  ·rw [e3 t' q] at hx
   obtain⟨q1,q2,q3⟩:=h.ls t' x hx
   refine⟨q1,?_,fun f hf=>?_⟩
   ·rw [List.countP_congr (q:=a.S t') fun f _=>by rw [e6 t' f q]]
    exact q2
   ·rw [e6 t' f q] at hf
    exact q3 f hf
 ·by_cases q:t'=t
  ·subst q
   rw [e1] at hx
   cases hx
   exact⟨[],by rw [e2,List.append_nil]; rfl,fun e he=>by cases he⟩
  ·rw [e3 t' q] at hx
   rw [e4 t' q]
   exact h.lb t' x hx
 ·by_cases q:t'=t
  ·subst q; exact⟨k,e1⟩
  ·rw [e6 t' f q] at hs
   rw [e3 t' q]
   exact h.sv t' f hs
 ·by_cases q:t'=t∧f=k
  ·obtain⟨rfl,rfl⟩:=q
   exact⟨⟨f,e1⟩,by show t'≤a.T f; omega,by rw [e8,e2]; exact Nat.le_refl _⟩
  ·rw [e7 t' f q] at hA ⊢
   obtain⟨⟨c,hc⟩,q2,q3⟩:=h.ac t' f hA
   have:=ne hc
   rw [e3 t' this,e4 t' this]
   exact⟨⟨c,hc⟩,q2,q3⟩
 ·by_cases q:t'=t∧f=k
  ·obtain⟨rfl,rfl⟩:=q
   rw [e2]
   left
   show _ <+: a.L f
   rw [hL]
   exact List.take_prefix _ _
  ·rw [e7 t' f q] at h2
   have hx:=h.x t' f n h1 h2
   obtain⟨⟨c,hc⟩,_⟩:=h.ac t' f (by omega)
   rw [e4 t' (ne hc)]
   rcases hx with q | q
   ·exact .inl q
   ·exact .inr (lost q)
 ·by_cases q:t0=t∧f=k
  ·obtain⟨rfl,rfl⟩:=q
   exfalso
   have hv' : ∃ x,a.V t' f=some x:=by
    rcases h4 with⟨q,_⟩ | hs
    ·exact q
    ·rw [e6 t' f (by omega)] at hs
     obtain⟨l,hl⟩:=h.sv t' f hs
     exact⟨l,(h.ls t' l hl).2.2 f hs⟩
   obtain⟨x,hx⟩:=hv'
   have:=h.vt t' f x hx
   omega
  ·rw [e7 t0 f q] at h2
   obtain⟨⟨c,hc⟩,_⟩:=h.ac t0 f (by omega)
   rw [e4 t0 (ne hc)]
   have hq:((∃ x,a.V t' f=some x)∧a.led t'=none)∨a.S t' f=true:=by
    by_cases q:t'=t
    ·subst q
     rcases h4 with⟨_,q2⟩ | hs
     ·rw [e1] at q2; cases q2
     ·rw [e5 f] at hs
      exact .inl ⟨⟨k,by simpa using hs⟩,hn⟩
    ·rcases h4 with⟨q1,q2⟩ | hs
     ·rw [e3 t' q] at q2
      exact .inl ⟨q1,q2⟩
     ·rw [e6 t' f q] at hs
      exact .inr hs
   rcases h.w t0 t' f n h1 h2 h3 hq with q | q
   ·exact .inl q
   ·exact .inr (lost q)
end Rp
end Go.Am
namespace Go.Am
open Go
set_option linter.unusedVariables false
set_option linter.unusedSimpArgs false
namespace Rp
def Xv (a:Abs)(k:Nat)(t:Int)(n:Nat)(X:List Record):Abs:={ a with
 L:=fun f=>if f=k then X else a.L f
 A:=fun t' f=>if t'=t∧f=k then max (a.A t k) n else a.A t' f }
theorem Aj2 (a:Abs)(k:Nat)(t:Int)(n:Nat)(X:List Record):Grow a (Xv a k t n X):=by
 refine⟨fun _=>Int.le_refl _,fun _ _ _ q=>⟨q,rfl⟩,fun t' x q=>⟨q,List.prefix_refl _⟩,fun t' f=>?_⟩
 show _≤if _ then _ else _
 split
 ·rename_i q
  obtain⟨rfl,rfl⟩:=q
  exact Nat.le_max_left _ _
 ·exact Nat.le_refl _
theorem Ajd (a:Abs)(k:Nat)(t:Int)(n:Nat)(X:List Record):Frame k a (Xv a k t n X):=
 ⟨fun _ _=>rfl,fun _ hf=>if_neg hf,fun _ _ _=>rfl,fun _=>.inl rfl,fun _ _ _ _=>rfl⟩
theorem Al3 {N:Nat}{a:Abs}{k c:Nat}{t:Int}{M X:List Record}(h:Inv N a)(hT:a.T k=t)(hl:a.led t=some c)(hM:M <+: a.LL t)(hb:a.vl t c <+: M)
  (hX:X=a.L k∧M <+: a.L k∨X=M∧¬ M <+: a.L k):Inv N (Xv a k t M.length X):=by
 have eL:(Xv a k t M.length X).L k=X:=if_pos rfl
 have eL' : ∀ f,f≠k→(Xv a k t M.length X).L f=a.L f:=fun f q=>if_neg q
 have eA : ∀ t' f,¬ (t'=t∧f=k)→(Xv a k t M.length X).A t' f=a.A t' f:=fun t' f q=>if_neg q
 have eA':(Xv a k t M.length X).A t k=max (a.A t k) M.length:=if_pos ⟨rfl,rfl⟩
 have hMX:M <+: X:=by
  rcases hX with⟨rfl,q⟩ | ⟨rfl,_⟩
  ·exact q
  ·exact List.prefix_refl _
 have hlm:LM a X:=by
  rcases hX with⟨rfl,_⟩ | ⟨rfl,_⟩
  ·exact h.lm k
  ·exact(h.lml t c hl).pre hM
 have same : ∀ {Y},LM a Y→LM (Xv a k t M.length X) Y:=fun q=>⟨q.srt,q.pos,q.at'⟩
 have novote : ∀ {t' x},t<t'→a.V t' k=some x→False:=by
  intro t' x q1 q2
  have:=h.vt t' k x q2
  omega
 refine⟨fun f=>?_,fun t' f x hx=>same (h.lmv t' f x hx),fun t' x hx=>same (h.lml t' x hx),fun f e he=>?_,h.vt,h.vc,h.vb,h.ls,h.lb,h.sv,fun t' f hA=>?_,fun t' f n h1 h2=>?_,fun t0 t' f n h1 h2 h3 h4=>?_⟩
 ·by_cases q:f=k
  ·subst q; rw [eL]; exact same hlm
  ·rw [eL' f q]; exact same (h.lm f)
 ·by_cases q:f=k
  ·subst q
   rw [eL] at he
   show e.Term≤a.T f
   rcases hX with⟨rfl,_⟩ | ⟨rfl,_⟩
   ·exact h.lt f e he
   ·obtain⟨Z,hZ,hZ2⟩:=h.lb t c hl
    have:e ∈ a.LL t:=hM.subset he
    rw [hZ] at this
    rcases List.mem_append.1 this with q | q
    ·have:=h.vb t c (h.ls t c hl).1 e q
     omega
    ·have:=hZ2 e q
     omega
  ·rw [eL' f q] at he
   exact h.lt f e he
 ·by_cases q:t'=t∧f=k
  ·obtain⟨rfl,rfl⟩:=q
   refine⟨⟨c,hl⟩,by show t'≤a.T f; omega,?_⟩
   rw [eA']
   show _≤(a.LL t').length
   have h1:=hM.length_le
   have h2:a.A t' f≤(a.LL t').length:=by
    rcases Nat.eq_zero_or_pos (a.A t' f) with q | q
    ·omega
    ·exact(h.ac t' f q).2.2
   omega
  ·rw [eA t' f q] at hA ⊢
   exact h.ac t' f hA
 ·show(a.LL t').take n <+: _∨_
  by_cases q:f=k
  ·subst q
   rw [eL]
   rcases Nat.lt_or_ge (a.A t' f) n with hn | hn
   ·
    by_cases q:t'=t
    ·subst q
     rw [eA'] at h2
     left
     refine(Aba (List.take_prefix _ _) hM ?_).trans hMX
     rw [List.length_take]; omega
    ·rw [eA t' f (by omega)] at h2
     omega
   ·rcases h.x t' f n h1 hn with q | ⟨u,y,q1,q2,q3,q4⟩
    ·rcases hX with⟨rfl,_⟩ | ⟨rfl,hno⟩
     ·exact .inl q
     ·obtain⟨⟨c',hc'⟩,ht',hlen⟩:=h.ac t' f (by omega)
      by_cases e:t'=t
      ·subst e
       left
       rcases Age (List.take_prefix n (a.LL t')) hM with q5 | q5
       ·exact q5
       ·exact absurd (q5.trans q) hno
      ·by_cases q5:(a.LL t').take n <+: a.vl t c
       ·exact .inl (q5.trans hb)
       ·exact .inr ⟨t,c,by omega,by show t≤a.T f; omega,hl,q5⟩
    ·exact .inr ⟨u,y,q1,q2,q3,q4⟩
  ·rw [eL' f q]
   rw [eA t' f (fun p=>q p.2)] at h2
   exact h.x t' f n h1 h2
 ·by_cases q:t0=t∧f=k
  ·obtain⟨rfl,rfl⟩:=q
   exfalso
   rcases h4 with⟨⟨x,q⟩,_⟩ | hs
   ·exact novote h3 q
   ·have hs':a.S t' f=true:=hs
    obtain⟨l,hl'⟩:=h.sv t' f hs'
    exact novote h3 ((h.ls t' l hl').2.2 f hs')
  ·rw [eA t0 f q] at h2
   exact h.w t0 t' f n h1 h2 h3 h4
def Q0 (a:Abs)(k:Nat)(t:Int)(e:Record):Abs:={ a with
 L:=fun f=>if f=k then a.L k++[e] else a.L f
 LL:=fun t'=>if t'=t then a.LL t++[e] else a.LL t'
 A:=fun t' f=>if t'=t∧f=k then(a.LL t).length+1 else a.A t' f }
theorem Ag2 {N:Nat}{a:Abs}(h:Inv N a)(t:Int)(f:Nat):a.A t f≤(a.LL t).length:=by
 rcases Nat.eq_zero_or_pos (a.A t f) with q | q
 ·omega
 ·exact(h.ac t f q).2.2
theorem Adp {N:Nat}{a:Abs}(k:Nat)(t:Int)(e:Record)(h:Inv N a):Grow a (Q0 a k t e):=by
 refine⟨fun _=>Int.le_refl _,fun _ _ _ q=>⟨q,rfl⟩,fun t' x q=>⟨q,?_⟩,fun t' f=>?_⟩
 ·show _ <+: if _ then _ else _
  split
  ·rename_i q; subst q; exact List.prefix_append _ _
  ·exact List.prefix_refl _
 ·show _≤if _ then _ else _
  split
  ·rename_i q
   obtain⟨rfl,rfl⟩:=q
   exact Nat.le_succ_of_le (Ag2 h t' f)
  ·exact Nat.le_refl _
theorem Ahy (a:Abs)(k:Nat)(t:Int)(e:Record)(hl:a.led t=some k):Frame k a (Q0 a k t e):=
 ⟨fun _ _=>rfl,fun _ hf=>if_neg hf,fun _ _ _=>rfl,fun _=>.inl rfl,fun t' c hc hk=>if_neg (by rintro rfl; rw [hl] at hc; cases hc; exact hk rfl)⟩
theorem Amm {N:Nat}{a:Abs}{k:Nat}{t:Int}{e:Record}(h:Inv N a)(hT:a.T k=t)(hl:a.led t=some k)(hL:a.L k=a.LL t)(he:e.Term=t)(h1t:1≤t):Inv N (Q0 a k t e):=by
 have hgr:=Adp k t e h
 have eL:(Q0 a k t e).L k=a.LL t++[e]:=by show(if _ then _ else _)=_; rw [if_pos rfl,hL]
 have eL' : ∀ f,f≠k→(Q0 a k t e).L f=a.L f:=fun f q=>if_neg q
 have eA : ∀ t' f,¬ (t'=t∧f=k)→(Q0 a k t e).A t' f=a.A t' f:=fun t' f q=>if_neg q
 have eA':(Q0 a k t e).A t k=(a.LL t).length+1:=if_pos ⟨rfl,rfl⟩
 have eP:(Q0 a k t e).LL t=a.LL t++[e]:=if_pos rfl
 have eP' : ∀ t',t'≠t→(Q0 a k t e).LL t'=a.LL t':=fun t' q=>if_neg q
 have tk : ∀ t' f n,n≤a.A t' f→((Q0 a k t e).LL t').take n=(a.LL t').take n:=by
  intro t' f n hn
  have:=Ag2 h t' f
  by_cases q:t'=t
  ·subst q
   rw [eP]
   exact List.take_append_of_le_length (by omega)
  ·rw [eP' t' q]
 have new:LM (Q0 a k t e) (a.LL t++[e]):=by
  have old:=(h.lml t k hl).grow hgr.led
  have hle : ∀ x ∈ a.LL t,x.Term≤t:=fun x hx=>by
   have:=h.lt k x (by rw [hL]; exact hx)
   omega
  refine⟨?_,fun x hx=>?_,fun i x hx=>?_⟩
  ·rw [List.pairwise_append]
   refine⟨old.srt,List.pairwise_singleton _ _,fun x hx y hy=>?_⟩
   rw [List.mem_singleton.1 hy,he]
   exact hle x hx
  ·rcases List.mem_append.1 hx with q | q
   ·exact old.pos x q
   ·rw [List.mem_singleton.1 q]; omega
  ·rcases Nat.lt_or_ge i (a.LL t).length with hi | hi
   ·rw [List.getElem?_append_left hi] at hx
    rw [List.take_append_of_le_length (by omega)]
    exact old.at' i x hx
   ·have hlt:i<(a.LL t++[e]).length:=by
     rcases Nat.lt_or_ge i (a.LL t++[e]).length with hh | hh
     ·exact hh
     ·rw [List.getElem?_eq_none hh] at hx; cases hx
    simp only [List.length_append,List.length_singleton] at hlt
    have hi':i=(a.LL t).length:=by omega
    subst hi'
    rw [List.getElem?_concat_length] at hx
    cases hx
    rw [he,eP]
    exact⟨⟨k,hl⟩,List.take_prefix _ _⟩
 have lost : ∀ {t0 hi P},U4 a t0 hi P→U4 (Q0 a k t e) t0 hi P:=fun q=>q
 refine⟨fun f=>?_,fun t' f x hx=>(h.lmv t' f x hx).grow hgr.led,fun t' x hx=>?_,fun f y hy=>?_,h.vt,h.vc,h.vb,h.ls,fun t' x hx=>?_,h.sv,fun t' f hA=>?_,fun t' f n h1 h2=>?_,fun t0 t' f n h1 h2 h3 h4=>?_⟩
 ·by_cases q:f=k
  ·subst q; rw [eL]; exact new
  ·rw [eL' f q]; exact(h.lm f).grow hgr.led
 ·by_cases q:t'=t
  ·subst q; rw [eP]; exact new
  ·rw [eP' t' q]; exact(h.lml t' x hx).grow hgr.led
 ·by_cases q:f=k
  ·subst q
   rw [eL] at hy
   show y.Term≤a.T f
   rcases List.mem_append.1 hy with q | q
   ·exact h.lt f y (by rw [hL]; exact q)
   ·rw [List.mem_singleton.1 q]; omega
  ·rw [eL' f q] at hy
   exact h.lt f y hy
 ·by_cases q:t'=t
  ·subst q
   obtain⟨M,q1,q2⟩:=h.lb t' x hx
   refine⟨M++[e],by rw [eP,q1,List.append_assoc]; rfl,fun y hy=>?_⟩
   rcases List.mem_append.1 hy with q | q
   ·exact q2 y q
   ·rw [List.mem_singleton.1 q]; exact he
  ·rw [eP' t' q]; exact h.lb t' x hx
 ·by_cases q:t'=t∧f=k
  ·obtain⟨rfl,rfl⟩:=q
   refine⟨⟨f,hl⟩,by show t'≤a.T f; omega,?_⟩
   rw [eA',eP,List.length_append,List.length_singleton]
   omega
  ·rw [eA t' f q] at hA ⊢
   obtain⟨q1,q2,q3⟩:=h.ac t' f hA
   obtain⟨x,hx⟩:=q1
   exact⟨⟨x,hx⟩,q2,by have:=(hgr.led t' x hx).2.length_le; omega⟩
 ·by_cases q:t'=t∧f=k
  ·obtain⟨rfl,rfl⟩:=q
   rw [eP,eL]
   exact .inl (List.take_prefix _ _)
  ·rw [eA t' f q] at h2
   rw [tk t' f n h2]
   rcases h.x t' f n h1 h2 with hq | hq
   ·left
    by_cases p:f=k
    ·subst p
     rw [eL,← hL]
     exact hq.trans (List.prefix_append _ _)
    ·rw [eL' f p]; exact hq
   ·exact .inr (lost hq)
 ·by_cases q:t0=t∧f=k
  ·obtain⟨rfl,rfl⟩:=q
   exfalso
   have hv' : ∃ x,a.V t' f=some x:=by
    rcases h4 with⟨q,_⟩ | hs
    ·exact q
    ·have hs':a.S t' f=true:=hs
     obtain⟨l,hl⟩:=h.sv t' f hs'
     exact⟨l,(h.ls t' l hl).2.2 f hs'⟩
   obtain⟨x,hx⟩:=hv'
   have:=h.vt t' f x hx
   omega
  ·rw [eA t0 f q] at h2
   rw [tk t0 f n h2]
   exact h.w t0 t' f n h1 h2 h3 h4
end Rp
end Go.Am
namespace Go.Am
open Go
set_option linter.unusedVariables false
set_option linter.unusedSimpArgs false
namespace Rp
structure Rep (N:Nat)(a:Abs)(k:Nat)(r:Replica):Prop where
 good:Good r
 bok:Rf r.Log
 id:r.ID=k
 many:r.Many=N
 T:a.T k=r.Term
 L:a.L k=r.Log
 len:r.Log.length≤4096
 v0:r.Vote = -1→a.V r.Term k=none
 v1 : ∀ c:Nat,r.Vote=c→a.V r.Term k=some c
 r1:r.Role=1→a.vl r.Term k=r.Log∧a.led r.Term≠some k ∧ ∀ j:Nat,r.Votes[j]? = some true→a.V r.Term j=some k
 r2:r.Role=2→a.led r.Term=some k∧a.LL r.Term=r.Log ∧ ∀ (j:Nat) n,r.Match[j]? = some n→n.toNat≤a.A r.Term j
 cp:CP N a r.Term (comm r)
structure Sent (N:Nat)(a:Abs)(m:Message):Prop where
 kind:1≤m.Kind∧m.Kind≤4
 frm:0≤m.From∧m.From<N
 to:0≤m.To∧m.To<N
 ne:m.From≠m.To
 term:1≤m.Term∧m.Term≤1048576
 mat:0≤m.Match
 lt:0≤m.LastTerm
 last:0≤m.Last
 commit:0≤m.Commit∧m.Commit≤m.Log.length
 fits:E1 m.Term 0 m.Log=true
 bok:Rf m.Log
 len:m.Log.length≤4096
 tm:m.Term≤a.T m.From.toNat
 k1:m.Kind=1→a.V m.Term m.From.toNat=some m.From.toNat∧m.Last=(a.vl m.Term m.From.toNat).length∧m.LastTerm=Js (a.vl m.Term m.From.toNat)
 k2:m.Kind=2→m.Granted=true→a.V m.Term m.From.toNat=some m.To.toNat
 k3:m.Kind=3 → ∃ c,a.led m.Term=some c∧a.vl m.Term c <+: m.Log∧m.Log <+: a.LL m.Term∧CP N a m.Term (m.Log.take m.Commit.toNat)
 k4:m.Kind=4→m.Granted=true→m.Match.toNat≤a.A m.Term m.From.toNat
theorem Sent.grow {N:Nat}{a b:Abs}(h:Inv N a)(hN:1≤N)(hg:Grow a b){m:Message}(hm:Sent N a m):Sent N b m:=
 ⟨hm.kind,hm.frm,hm.to,hm.ne,hm.term,hm.mat,hm.lt,hm.last,hm.commit,hm.fits,hm.bok,hm.len,Int.le_trans hm.tm (hg.T _),fun q=>by
  obtain⟨q1,q2,q3⟩:=hm.k1 q
  obtain⟨p1,p2⟩:=hg.V _ _ _ q1
  rw [p2]
  exact⟨p1,q2,q3⟩,fun q q'=>(hg.V _ _ _ (hm.k2 q q')).1,fun q=>by
  obtain⟨c,q1,q2,q3,q4⟩:=hm.k3 q
  obtain⟨p1,p2⟩:=hg.led _ _ q1
  refine⟨c,p1,?_,q3.trans p2,q4.grow h hN hg (Int.le_refl _)⟩
  rw [(hg.V _ _ _ (h.ls _ _ q1).1).2]
  exact q2,fun q q'=>Nat.le_trans (hm.k4 q q') (hg.A _ _)⟩
theorem Rep.other {N:Nat}{a b:Abs}{k k':Nat}(h:Inv N a)(hN:1≤N)(hg:Grow a b)(hf:Frame k a b)(hk:k'≠k){r:Replica}(hr:Rep N a k' r):Rep N b k' r:=
  ⟨hr.good,hr.bok,hr.id,hr.many,by rw [hf.T k' hk,hr.T],by rw [hf.L k' hk,hr.L],hr.len,fun q=>by rw [hf.V _ _ hk]; exact hr.v0 q,fun c q=>by rw [hf.V _ _ hk]; exact hr.v1 c q,
   fun q=>by
    obtain⟨q1,q2,q3⟩:=hr.r1 q
    have hv:=hr.v1 k' (by rw [(hr.good.lead (by omega)).1,hr.id])
    refine⟨by rw [(hg.V _ _ _ hv).2]; exact q1,?_,fun j hj=>(hg.V _ _ _ (q3 j hj)).1⟩
    rcases hf.led r.Term with p | p
    · rw [p]; exact q2
    · rw [p]; intro e; exact hk (Option.some.inj e).symm,
   fun q=>by
    obtain⟨q1,q2,q3⟩:=hr.r2 q
    exact⟨(hg.led _ _ q1).1,by rw [hf.LL _ _ q1 hk]; exact q2,fun j n hj=>Nat.le_trans (q3 j n hj) (hg.A _ _)⟩,
   hr.cp.grow h hN hg (Int.le_refl _)⟩
def Pp (N:Nat)(a:Abs)(k:Nat)(x:Replica)(l:List Message):Prop := ∃ b,Inv N b∧Grow a b∧Frame k a b∧Rep N b k x∧(∀ m ∈ l,Sent N b m) ∧ ∀ t,b.led t=a.led t∨x.Role=2∧x.Term=t
theorem Pp.after {N:Nat}{a b:Abs}{k:Nat}{x:Replica}{l:List Message}(hg:Grow a b)(hf:Frame k a b)(hl : ∀ t,b.led t=a.led t)(h:Pp N b k x l):Pp N a k x l:=by
 obtain⟨c,h1,h2,h3,h4,h5,h6⟩:=h
 exact⟨c,h1,hg.trans h2,hf.trans hg h3,h4,h5,fun t=>by rw [← hl t]; exact h6 t⟩
theorem Rep.refl {N:Nat}{a:Abs}{k:Nat}{r:Replica}{l:List Message}(h:Inv N a)(hr:Rep N a k r)(hl : ∀ m ∈ l,Sent N a m):Pp N a k r l:=⟨a,h,Grow.refl a,Frame.refl k a,hr,hl,fun _=>.inl rfl⟩
theorem Sent.mok {N:Nat}{a:Abs}{k:Nat}{r:Replica}{m:Message}(hr:Rep N a k r)(hm:Sent N a m)(hk:m.To=k):MOk r m:=
 ⟨hm.kind,by rw [hr.id,hk],by rw [hr.many]; exact hm.frm,by rw [hr.id,← hk]; exact hm.ne,hm.term,hm.mat,hm.lt,hm.last,hm.commit,hm.fits⟩
theorem Akt {N:Nat}{a:Abs}{k:Nat}{r:Replica}(hr:Rep N a k r):Rep N a k (Acw r):=
 ⟨Of (r:={ r with Commit:=0 }) hr.good.many hr.good.id hr.good.term hr.good.vote hr.good.fits ⟨Int.le_refl _,by show(0:Int)≤_; omega⟩,hr.bok,hr.id,hr.many,hr.T,hr.L,hr.len,hr.v0,hr.v1,fun q=>absurd q (by decide:¬ (0:Int)=1),fun q=>absurd q (by decide:¬ (0:Int)=2),.inl rfl⟩
theorem Aga {N:Nat}{a:Abs}{k:Nat}{t:Int}(h:Inv N a)(ht:a.T k<t):a.V t k=none:=by
 cases hv:a.V t k with
 | none=>rfl
 | some c=>
  have:=h.vt t k c hv
  omega
theorem Aie {N:Nat}{a:Abs}{k:Nat}{r:Replica}{t:Int}(h:Inv N a)(hN:1≤N)(hr:Rep N a k r)(ht:r.Term<t)(ht2:t≤1048576):Rep N (Vv a k t) k (Kc { r with Term:=t,Vote := -1 }):=by
 have hT:=hr.T
 have hterm:=hr.good.term
 have hmany:=hr.good.many
 exact⟨Of (r:={ r with Term:=t,Vote := -1 }) hr.good.many hr.good.id ⟨by show 0≤t; omega,ht2⟩ ⟨Int.le_refl _,by show(-1:Int)<r.Many; omega⟩ (X7 hr.good.fits (by show r.Term≤t; omega)) hr.good.commit,
  hr.bok,hr.id,hr.many,if_pos rfl,hr.L,hr.len,fun _=>(Aga h (by omega):a.V t k=none),fun c q=>absurd q (by show ¬ (-1:Int)=c; omega),fun q=>absurd q (by decide:¬ (0:Int)=1),fun q=>absurd q (by decide:¬ (0:Int)=2),
  hr.cp.grow h hN (Wc (by omega)) (by show r.Term≤t; omega)⟩
theorem Ai6 {N:Nat}{a:Abs}{k:Nat}{r:Replica}{m:Message}(h:Inv N a)(hN:1≤N)(hr:Rep N a k r)(hm:Sent N a m) : ∃ b,Inv N b∧Grow a b∧Frame k a b∧Rep N b k (K8 r m) ∧ ∀ t,b.led t=a.led t:=by
 unfold K8
 split
 ·rename_i q
  have hle:a.T k≤m.Term:=by rw [hr.T]; omega
  exact⟨Vv a k m.Term,Af2 h hle,Wc hle,Ab3 a k m.Term,Aie h hN hr q hm.term.2,fun _=>rfl⟩
 ·exact⟨a,h,Grow.refl a,Frame.refl k a,hr,fun _=>rfl⟩
theorem Ad4 {p:Nat→Bool} : ∀ {α:Type} (l:List α) (q:α→Bool) (s:Nat),(∀ (j:Nat) x,l[j]? = some x→q x=true→p (s+j)=true)→l.countP q≤(List.range' s l.length).countP p
 | _,[],q,s,h=>Nat.zero_le _
 | _,x::l,q,s,h=>by
  have ih:=Ad4 l q (s+1) fun j y hj hy=>by
   have:=h (j+1) y (by simpa using hj) hy
   rwa [show s+1+j=s+(j+1) by omega]
  rw [List.countP_cons,List.length_cons,List.range'_succ,List.countP_cons]
  have h0:=h 0 x rfl
  rw [Nat.add_zero] at h0
  cases hq:q x with
  | false=>simp; omega
  | true=>rw [h0 hq]; simp; omega
theorem Y7 {α:Type}{p:Nat→Bool}{l:List α}{q:α→Bool}{N:Nat}(hl:l.length=N)(h : ∀ (j:Nat) x,l[j]? = some x→q x=true→p j=true):l.countP q≤(List.range N).countP p:=by
 have:=Ad4 (p:=p) l q 0 fun j x hj hx=>by rw [Nat.zero_add]; exact h j x hj hx
 rwa [hl,← List.range_eq_range'] at this
theorem Aes {N:Nat}{a:Abs}{t:Int}{log:List Record}{commit:Int}{mat:List Int}(hN:1≤N)(hlog:a.LL t=log)(hml:mat.length=N)(hA : ∀ (j:Nat) n,mat[j]? = some n→n.toNat≤a.A t j)(ha : ∀ n ∈ mat,0≤n∧n≤log.length)
  (hc:0≤commit) (hcp:CP N a t (log.take commit.toNat)):CP N a t (log.take (Pi t log commit mat).toNat):=by
 rcases X4 t log commit mat with e | ⟨e,e2,e3⟩
 ·rw [e]; exact hcp
 ·rw [e]
  have h1:1≤mat.length:=by omega
  have hm:=ha _ (Wa h1)
  have hmost:=Afg h1
  refine .inr ⟨t,(Ek mat).toNat,⟨by omega,?_,?_⟩,Int.le_refl _,by rw [hlog]⟩
  ·have hlt:(Ek mat - 1).toNat<log.length:=by omega
   refine⟨log[(Ek mat - 1).toNat],?_,?_⟩
   ·rw [hlog,show(Ek mat).toNat - 1=(Ek mat - 1).toNat by omega,List.getElem?_eq_getElem hlt]
   ·simpa only [List.getD,List.getElem?_eq_getElem hlt,Option.getD_some] using e3
  ·have:=Y7 (p:=fun f=>decide ((Ek mat).toNat≤a.A t f)) (q:=fun n=>decide (Ek mat≤n)) hml fun j n hj hn=>by
    have h1:=hA j n hj
    have h2:Ek mat≤n:=by simpa using hn
    simp
    omega
   omega
theorem Akx {r:Replica}(h:Good r):(comm r).length=r.Commit.toNat:=by
 have:=h.commit
 unfold comm
 rw [List.length_take]
 omega
end Rp
end Go.Am
namespace Go.Am
open Go
set_option linter.unusedVariables false
set_option linter.unusedSimpArgs false
namespace Rp
theorem Aas {N:Nat}{a:Abs}{k:Nat}{r:Replica}(hr:Rep N a k r){m:Message}(h : ∀ to:Nat,to<N→to≠k→Sent N a (Xz r m to)) : ∀ x ∈ Kf r m,Sent N a x:=by
 intro x hx
 obtain⟨to,h1,rfl⟩:=List.mem_map.1 hx
 unfold Vd at h1
 obtain⟨h2,h3⟩:=List.mem_filter.1 h1
 have hm:=hr.many
 have hid:=hr.id
 rw [List.mem_range] at h2
 simp only [decide_eq_true_eq,ne_eq] at h3
 exact h to (by omega) (by omega)
theorem Ab1 {N:Nat}{a:Abs}{k:Nat}{r:Replica}(h:Inv N a)(hr:Rep N a k r)(h2:r.Role=2) : ∀ x ∈ Kf r (Tj r.Log r.Commit),Sent N a x:=by
 have hg:=hr.good
 have hid:=hr.id
 have hm:=hr.many
 have hi:=hg.id
 refine Aas hr fun to ht hk=>⟨⟨by show(1:Int)≤3; decide,by show(3:Int)≤4; decide⟩,⟨by show 0≤r.ID; omega,by show r.ID<N; omega⟩,⟨by show(0:Int)≤to; omega,by show(to:Int)<N; omega⟩,by show r.ID≠(to:Int); omega,⟨(hg.lead (by omega)).2.1,hg.term.2⟩,Int.le_refl _,Int.le_refl _,Int.le_refl _,hg.commit,hg.fits,hr.bok,hr.len,(by show r.Term≤a.T r.ID.toNat; rw [show r.ID.toNat=k by omega,hr.T]; exact Int.le_refl _),fun q=>absurd q (by show ¬ (3:Int)=1; decide),fun q=>absurd q (by show ¬ (3:Int)=2; decide),fun _=>?_,fun q=>absurd q (by show ¬ (3:Int)=4; decide)⟩
 obtain⟨q1,q2,_⟩:=hr.r2 h2
 refine⟨k,q1,?_,?_,hr.cp⟩
 ·have:=Ad1 h q1
  rw [q2] at this
  exact this
 ·show r.Log <+: a.LL r.Term
  rw [q2]; exact List.prefix_refl _
theorem Ab8 {N:Nat}{a:Abs}{k:Nat}{r:Replica}(h:Inv N a)(hN:1≤N)(hr:Rep N a k r)(h1:r.Role=1)(hm:2 * ((r.Votes.count true:Nat):Int) > r.Many):Pp N a k (Kt r).1 (Kt r).2:=by
 obtain⟨q1,q2,q3⟩:=hr.r1 h1
 have hg:=hr.good
 obtain⟨l1,l2,l3⟩:=hg.lead (by omega)
 have hid:=hr.id
 have hmany:=hr.many
 have hgm:=hg.many
 have hv:=hr.v1 k (by omega)
 have hmost:N<2 * (List.range N).countP fun f=>decide (a.V r.Term f=some k):=by
  have:=Y7 (N:=N) (p:=fun f=>decide (a.V r.Term f=some k)) (l:=r.Votes) (q:=fun b=>b==true) (by have:=hg.votes; omega) fun j x hj hx=>by
   have:x=true:=by simpa using hx
   subst this
   exact decide_eq_true (q3 j hj)
  have hcnt:r.Votes.count true=r.Votes.countP (fun b=>b==true):=rfl
  omega
 have hn:a.led r.Term=none:=by
  cases hl:a.led r.Term with
  | none=>rfl
  | some c=>
   obtain⟨_,p2,p3⟩:=h.ls _ _ hl
   obtain⟨f,_,e1,e2⟩:=Am2 p2 hmost
   have e3:=p3 f e1
   rw [of_decide_eq_true e2] at e3
   rw [hl] at q2
   exact absurd e3.symm q2
 have hinv:=Alc h hn hr.T hv (by rw [hr.L,q1]) hmost
 have hgrow:=Ael (k:=k) h hn
 have e1:(R7 a k r.Term).LL r.Term=r.Log:=by rw [← q1]; exact if_pos rfl
 have e2:(R7 a k r.Term).led r.Term=some k:=if_pos rfl
 have e3:(R7 a k r.Term).A r.Term k=r.Log.length:=by rw [← q1]; exact if_pos ⟨rfl,rfl⟩
 have hA : ∀ (j:Nat) n,((List.replicate r.Many.toNat (0:Int)).set r.ID.toNat r.Log.length)[j]? = some n→n.toNat≤(R7 a k r.Term).A r.Term j:=by
  intro j n hj
  rw [List.getElem?_set] at hj
  split at hj
  ·rename_i e
   split at hj
   ·cases hj
    have:j=k:=by omega
    rw [this,e3]; omega
   ·cases hj
  ·have:=List.eq_of_mem_replicate (List.mem_of_getElem? hj)
   omega
 have hrep:Rep N (R7 a k r.Term) k (Kt r).1:=by
  refine⟨Ahl hg.many hg.id ⟨l2,hg.term.2⟩ l1 hg.fits hg.commit hg.votes l3,hr.bok,hr.id,hr.many,hr.T,hr.L,hr.len,hr.v0,hr.v1,fun q=>absurd q (by show ¬ (2:Int)=1; decide),fun _=>⟨e2,e1,hA⟩,?_⟩
  exact Aes (mat:=(List.replicate r.Many.toNat (0:Int)).set r.ID.toNat r.Log.length) hN e1 (by simp; omega) hA (Wk hg.id) hg.commit.1 (hr.cp.grow h hN hgrow (Int.le_refl _))
 refine⟨_,hinv,hgrow,Ah3 a k r.Term hn,hrep,Ab1 hinv hrep rfl,fun t=>?_⟩
 by_cases q:t=r.Term
 ·exact .inr ⟨rfl,q.symm⟩
 ·exact .inl (if_neg q)
theorem Ae6 {N:Nat}{a:Abs}{k:Nat}{r:Replica}(h:Inv N a)(hN:1≤N)(hr:Rep N a k r)(ht:r.Term≠1048576) : ∃ b,Inv N b∧Grow a b∧Frame k a b∧Rep N b k (Jf r)∧(∀ m ∈ Kf (Jf r) (Zi r),Sent N b m) ∧ ∀ t,b.led t=a.led t:=by
 have hg:=hr.good
 have hterm:=hg.term
 have hid:=hr.id
 have hgid:=hg.id
 have hmany:=hr.many
 have hgm:=hg.many
 have hle:a.T k≤r.Term+1:=by rw [hr.T]; omega
 have hno:a.V (r.Term+1) k=none:=Aga h (by rw [hr.T]; omega)
 have hno':(Vv a k (r.Term+1)).V (r.Term+1) k=none:=hno
 have hi1:=Af2 h hle
 have hT:(Vv a k (r.Term+1)).T k=r.Term+1:=if_pos rfl
 have hi2:=Afu (c:=k) hi1 hT hno' (.inl ⟨rfl,fun e he=>by
  have:=h.lt k e he
  rw [hr.T] at this
  omega⟩)
 have hg2:Grow a (Ph (Vv a k (r.Term+1)) k (r.Term+1) k):=(Wc hle).trans (Wp hno')
 have hV:(Ph (Vv a k (r.Term+1)) k (r.Term+1) k).V (r.Term+1) k=some k:=if_pos ⟨rfl,rfl⟩
 have hvl:(Ph (Vv a k (r.Term+1)) k (r.Term+1) k).vl (r.Term+1) k=r.Log:=by rw [← hr.L]; exact if_pos ⟨rfl,rfl⟩
 have hset:((List.replicate r.Many.toNat false).set r.ID.toNat true)[r.ID.toNat]? = some true:=by
  rw [List.getElem?_set,if_pos rfl,if_pos (by simp; omega)]
 have hrep:Rep N (Ph (Vv a k (r.Term+1)) k (r.Term+1) k) k (Jf r):=by
  refine⟨⟨hg.many,hg.id,⟨by show 0≤r.Term+1; omega,by show r.Term+1≤1048576; omega⟩,⟨by show -1≤r.ID; omega,hg.id.2⟩,X7 hg.fits (by show r.Term≤r.Term+1; omega),⟨by show(0:Int)≤1; decide,by show(1:Int)≤2; decide⟩,hg.commit,by simp [Jf]; omega,by simp [Jf]; omega,fun j x hx=>⟨?_,fun q=>absurd q (by show ¬ (1:Int)=0; decide)⟩,fun _=>⟨rfl,by show 1≤r.Term+1; omega,hset⟩⟩,
   hr.bok,hr.id,hr.many,hT,hr.L,hr.len,fun q=>?_,fun c q=>?_,fun _=>⟨hvl,?_,fun j hj=>?_⟩,fun q=>absurd q (by show ¬ (1:Int)=2; decide),hr.cp.grow h hN hg2 (by show r.Term≤r.Term+1; omega)⟩
  ·have:=List.eq_of_mem_replicate (List.mem_of_getElem? hx)
   have:=hg.commit
   show 0≤x∧x≤(r.Log.length:Int)
   omega
  ·have:r.ID = -1:=q
   omega
  ·have:r.ID=c:=q
   have:c=k:=by omega
   subst this; exact hV
  ·show a.led (r.Term+1)≠some k
   intro q
   have:=(h.ls _ _ q).1
   rw [hno] at this; cases this
  ·have hj':((List.replicate r.Many.toNat false).set r.ID.toNat true)[j]? = some true:=hj
   rw [List.getElem?_set] at hj'
   split at hj'
   ·have:j=k:=by omega
    subst this; exact hV
   ·have:=List.eq_of_mem_replicate (List.mem_of_getElem? hj')
    cases this
 refine⟨_,hi2,hg2,(Ab3 a k _).trans (Wc hle) (Ach _ k _ k),hrep,?_,fun _=>rfl⟩
 refine Aas hrep fun to ht' hk=>⟨⟨by show(1:Int)≤1; decide,by show(1:Int)≤4; decide⟩,⟨by show 0≤r.ID; omega,by show r.ID<N; omega⟩,⟨by show(0:Int)≤to; omega,by show(to:Int)<N; omega⟩,by show r.ID≠(to:Int); omega,⟨by show 1≤r.Term+1; omega,by show r.Term+1≤1048576; omega⟩,Int.le_refl _,?_,by show(0:Int)≤r.Log.length; omega,⟨Int.le_refl _,Int.le_refl _⟩,rfl,fun x hx=>(by cases hx),by show(0:Nat)≤4096; omega,(by show r.Term+1≤(Ph (Vv a k (r.Term+1)) k (r.Term+1) k).T r.ID.toNat; rw [show r.ID.toNat=k by omega,hrep.T]; exact Int.le_refl _),fun _=>?_,fun q=>absurd q (by show ¬ (1:Int)=2; decide),fun q=>absurd q (by show ¬ (1:Int)=3; decide),fun q=>absurd q (by show ¬ (1:Int)=4; decide)⟩
 ·show 0≤Js r.Log
  rcases Nat.eq_zero_or_pos r.Log.length with q | q
  ·rw [List.length_eq_zero_iff.1 q]; exact Int.le_refl _
  ·obtain⟨e,he1,he2⟩:=Xh (X:=r.Log) q
   rw [he2]
   have:=(h.lm k).pos e (by rw [hr.L]; exact List.mem_of_getElem? he1)
   omega
 ·have e:(Xz (Jf r) (Zi r) to).From.toNat=k:=by show r.ID.toNat=k; omega
  rw [e]
  refine⟨hV,?_,?_⟩
  ·rw [show(Xz (Jf r) (Zi r) to).Term=r.Term+1 from rfl,hvl]; rfl
  ·rw [show(Xz (Jf r) (Zi r) to).Term=r.Term+1 from rfl,hvl]; rfl
theorem Ai5 {N:Nat}{a:Abs}{k:Nat}{r:Replica}(h:Inv N a)(hN:1≤N)(hr:Rep N a k r)(ht:r.Term≠1048576):Pp N a k (Ks r).1 (Ks r).2:=by
 obtain⟨b,h1,h2,h3,h4,h5,h6⟩:=Ae6 h hN hr ht
 unfold Ks
 split
 ·rename_i q
  refine(Ab8 h1 hN h4 rfl ?_).after h2 h3 h6
  have hid:=hr.good.id
  have:r.ID=0:=by omega
  show 2 * ((((List.replicate r.Many.toNat false).set r.ID.toNat true).count true:Nat):Int) > r.Many
  rw [q,this]
  decide
 ·exact⟨b,h1,h2,h3,h4,h5,fun t=>.inl (h6 t)⟩
theorem Ahm {N:Nat}{a:Abs}{k:Nat}{r:Replica}{d:List Int}(h:Inv N a)(hN:1≤N)(hr:Rep N a k r)(h2:r.Role=2)(hl:r.Log.length<4096)(hd : ∀ b ∈ d,0≤b∧b<256):Pp N a k (Pg r d).1 (Pg r d).2:=by
 obtain⟨q1,q2,q3⟩:=hr.r2 h2
 have hg:=hr.good
 obtain⟨l1,l2,l3⟩:=hg.lead (by omega)
 have hid:=hr.id
 have hgid:=hg.id
 have hmany:=hr.many
 have hgm:=hg.many
 have hcm:=hg.commit
 have hml:=hg.mlen
 have hi:Inv N (Q0 a k r.Term { Term:=r.Term,Data:=d }):=Amm h hr.T q1 (by rw [hr.L,q2]) rfl l2
 have hgrow:=Adp k r.Term ({ Term:=r.Term,Data:=d }:Record) h
 have e1:(Q0 a k r.Term { Term:=r.Term,Data:=d }).LL r.Term=r.Log++[{ Term:=r.Term,Data:=d }]:=by rw [← q2]; exact if_pos rfl
 have e2:(Q0 a k r.Term { Term:=r.Term,Data:=d }).L k=r.Log++[{ Term:=r.Term,Data:=d }]:=by rw [← hr.L]; exact if_pos rfl
 have e3:(Q0 a k r.Term { Term:=r.Term,Data:=d }).A r.Term k=r.Log.length+1:=by rw [← q2]; exact if_pos ⟨rfl,rfl⟩
 have hlen:(r.Log++[({ Term:=r.Term,Data:=d }:Record)]).length=r.Log.length+1:=by simp
 have hA : ∀ (j:Nat) n,(r.Match.set r.ID.toNat ((r.Log++[({ Term:=r.Term,Data:=d }:Record)]).length:Int))[j]? = some n→n.toNat≤(Q0 a k r.Term { Term:=r.Term,Data:=d }).A r.Term j:=by
  intro j n hj
  rw [List.getElem?_set] at hj
  split at hj
  ·split at hj
   ·cases hj
    have:j=k:=by omega
    rw [this,e3,hlen]; omega
   ·cases hj
  ·exact Nat.le_trans (q3 j n hj) (hgrow.A _ _)
 have hmat : ∀ n ∈ r.Match.set r.ID.toNat ((r.Log++[({ Term:=r.Term,Data:=d }:Record)]).length:Int),0≤n∧n≤((r.Log++[({ Term:=r.Term,Data:=d }:Record)]).length:Int):=by
  intro n hn
  rcases List.mem_or_eq_of_mem_set hn with q | q
  ·obtain⟨j,hj⟩:=List.getElem?_of_mem q
   have:=(hg.mat j n hj).1
   omega
  ·omega
 have hcp:CP N (Q0 a k r.Term { Term:=r.Term,Data:=d }) r.Term ((r.Log++[({ Term:=r.Term,Data:=d }:Record)]).take r.Commit.toNat):=by
  rw [List.take_append_of_le_length (by omega)]
  exact hr.cp.grow h hN hgrow (Int.le_refl _)
 have hadv:=Aa2 (term:=r.Term) (log:=r.Log++[({ Term:=r.Term,Data:=d }:Record)]) (commit:=r.Commit) (mat:=r.Match.set r.ID.toNat ((r.Log++[({ Term:=r.Term,Data:=d }:Record)]).length:Int)) (by simp; omega) hmat ⟨hcm.1,by rw [hlen]; omega⟩
 have hfit:E1 r.Term 0 (r.Log++[({ Term:=r.Term,Data:=d }:Record)])=true:=by
  obtain⟨f1,f2⟩:=(Q9 r.Term r.Log 0).1 hg.fits
  refine(Q9 r.Term _ 0).2 ⟨fun x hx=>?_,?_⟩
  ·rcases List.mem_append.1 hx with q | q
   ·exact f1 x q
   ·rw [List.mem_singleton.1 q]
    exact⟨l2,Int.le_refl _,by show(0:Int)≤r.Term; omega⟩
  ·rw [List.pairwise_append]
   exact⟨f2,List.pairwise_singleton _ _,fun x hx y hy=>by rw [List.mem_singleton.1 hy]; exact(f1 x hx).2.1⟩
 have hrep:Rep N (Q0 a k r.Term { Term:=r.Term,Data:=d }) k (Pg r d).1:=by
  refine⟨⟨hg.many,hg.id,hg.term,hg.vote,hfit,hg.role,⟨by show 0≤Pi _ _ _ _; omega,hadv.2⟩,hg.votes,by simpa [Pg] using hml,fun j n hj=>⟨hmat n (List.mem_of_getElem? hj),fun q=>absurd (h2.symm.trans q) (by decide)⟩,hg.lead⟩,
   fun x hx=>?_,hr.id,hr.many,hr.T,e2,by show(r.Log++[({ Term:=r.Term,Data:=d }:Record)]).length≤4096; omega,hr.v0,hr.v1,fun q=>absurd (h2.symm.trans q) (by decide),fun _=>⟨q1,e1,hA⟩,?_⟩
  ·rcases List.mem_append.1 hx with q | q
   ·exact hr.bok x q
   ·rw [List.mem_singleton.1 q]; exact hd
  ·exact Aes (mat:=r.Match.set r.ID.toNat ((r.Log++[({ Term:=r.Term,Data:=d }:Record)]).length:Int)) hN e1 (by simp; omega) hA hmat hcm.1 hcp
 exact⟨_,hi,hgrow,Ahy a k r.Term _ q1,hrep,Ab1 hi hrep h2,fun _=>.inl rfl⟩
end Rp
end Go.Am
namespace Go.Am
open Go
set_option linter.unusedVariables false
set_option linter.unusedSimpArgs false
namespace Rp
theorem Tn {N:Nat}{a:Abs}{k:Nat}{r:Replica}{m:Message}(hr:Rep N a k r)(hm:Sent N a m)(hk:m.To=k)(ht:1≤r.Term){kind:Int}{g:Bool}{mat:Int}(hkind:kind=2∨kind=4)(hmat:0≤mat)
  (h2:kind=2→g=true→a.V r.Term k=some m.From.toNat) (h4:kind=4→g=true→mat.toNat≤a.A r.Term k):Sent N a (Rb r m kind g mat):=by
 have hid:=hr.id
 have hmany:=hr.many
 have hgid:=hr.good.id
 have hne:=hm.ne
 have e:r.ID.toNat=k:=by omega
 refine⟨⟨by show 1≤kind; omega,by show kind≤4; omega⟩,⟨by show 0≤r.ID; omega,by show r.ID<N; omega⟩,hm.frm,by show r.ID≠m.From; omega,⟨ht,hr.good.term.2⟩,hmat,Int.le_refl _,Int.le_refl _,⟨Int.le_refl _,Int.le_refl _⟩,rfl,fun x hx=>(by cases hx),by show(0:Nat)≤4096; omega,(by show r.Term≤a.T r.ID.toNat; rw [e,hr.T]; exact Int.le_refl _),fun q=>?_,fun q q'=>?_,fun q=>?_,fun q q'=>?_⟩
 ·have:kind=1:=q
  omega
 ·show a.V r.Term r.ID.toNat=some m.From.toNat
  rw [e]; exact h2 q q'
 ·have:kind=3:=q
  omega
 ·show mat.toNat≤a.A r.Term r.ID.toNat
  rw [e]; exact h4 q q'
theorem Acq {r:Replica}{m:Message}{X:List Record}(h:Zt r m=true)(h1:m.Last=X.length)(h2:m.LastTerm=Js X):Aep X r.Log:=by
 simp only [Zt,Bool.or_eq_true,Bool.and_eq_true,decide_eq_true_eq] at h
 rcases h with q | ⟨q1,q2⟩
 ·exact .inl (by omega)
 ·exact .inr ⟨by omega,by omega⟩
theorem Ajf {N:Nat}{a:Abs}{k:Nat}{r:Replica}{m:Message}(h:Inv N a)(hN:1≤N)(hr:Rep N a k r)(hm:Sent N a m)(hk:m.To=k)(hkind:m.Kind=1)(hge:m.Term≤r.Term):Pp N a k (Oh r m).1 (Oh r m).2:=by
 have hgood:=Ajx hr.good (hm.mok hr hk)
 have hid:=hr.id
 have hfrm:=hm.frm
 have hne:=hm.ne
 have h1:1≤r.Term:=by have:=hm.term; omega
 unfold Oh at hgood ⊢
 cases hg:Mr r m with
 | false=>
  simp only [Bool.false_eq_true,if_false]
  refine Rep.refl h hr fun x hx=>?_
  rw [List.mem_singleton.1 hx]
  exact Tn hr hm hk h1 (.inl rfl) (Int.le_refl _) (fun _ q=>by cases q) (fun q=>by cases q)
 | true=>
  rw [hg] at hgood
  simp only [if_true] at hgood ⊢
  simp only [Mr,Bool.and_eq_true,decide_eq_true_eq,Bool.or_eq_true] at hg
  obtain⟨⟨g1,g2⟩,g3⟩:=hg
  obtain⟨k1,k2,k3⟩:=hm.k1 hkind
  by_cases hv:r.Vote = -1
  ·have hT:a.T k=r.Term:=hr.T
   have hno:=hr.v0 hv
   have hinv:=Afu (c:=m.From.toNat) h hT hno (.inr ⟨by rw [← g1]; exact k1,by rw [hr.L,← g1]; exact Acq g3 k2 k3⟩)
   have hgrow:=Wp (c:=m.From.toNat) hno
   have hrole:r.Role=0:=Classical.byContradiction fun q=>by
    have:=(hr.good.lead q).1
    have:=hr.good.id
    omega
   have hV:(Ph a k r.Term m.From.toNat).V r.Term k=some m.From.toNat:=if_pos ⟨rfl,rfl⟩
   have hrep:Rep N (Ph a k r.Term m.From.toNat) k { r with Vote:=m.From }:=
    ⟨hgood,hr.bok,hr.id,hr.many,hr.T,hr.L,hr.len,fun q=>by have:m.From = -1:=q; omega,fun c q=>by
     have:m.From=c:=q
     rw [hV,this]; rfl,fun q=>absurd (hrole.symm.trans q) (by decide),fun q=>absurd (hrole.symm.trans q) (by decide),hr.cp.grow h hN hgrow (Int.le_refl _)⟩
   refine⟨_,hinv,hgrow,Ach a k _ _,hrep,fun x hx=>?_,fun _=>.inl rfl⟩
   rw [List.mem_singleton.1 hx]
   have:=Tn (kind:=2) (g:=true) (mat:=0) hrep (hm.grow h hN hgrow) hk h1 (.inl rfl) (Int.le_refl _) (fun _ _=>hV) (fun q=>by cases q)
   exact this
  ·have hvf:r.Vote=m.From:=g2.resolve_left hv
   have e:({ r with Vote:=m.From }:Replica)=r:=by rw [← hvf]
   rw [e]
   refine Rep.refl h hr fun x hx=>?_
   rw [List.mem_singleton.1 hx]
   exact Tn hr hm hk h1 (.inl rfl) (Int.le_refl _) (fun _ _=>hr.v1 m.From.toNat (by omega)) (fun q=>by cases q)
theorem Aib {N:Nat}{a:Abs}{k:Nat}{r:Replica}{m:Message}(h:Inv N a)(hN:1≤N)(hr:Rep N a k r)(hm:Sent N a m)(hk:m.To=k)(hkind:m.Kind=2):Pp N a k (Ow r m).1 (Ow r m).2:=by
 have hfrm:=hm.frm
 unfold Ow
 split
 ·rename_i hc
  obtain⟨c1,c2,c3⟩:=hc
  obtain⟨q1,q2,q3⟩:=hr.r1 c1
  have hgood:=hr.good
  obtain⟨l1,l2,l3⟩:=hgood.lead (by omega)
  have hset:(r.Votes.set m.From.toNat true)[r.ID.toNat]? = some true:=by
   rw [List.getElem?_set]
   split
   ·have hv':=hgood.votes
    have:=hr.many
    rw [if_pos (by omega)]
   ·exact l3
  have hrep:Rep N a k { r with Votes:=r.Votes.set m.From.toNat true }:=
   ⟨⟨hgood.many,hgood.id,hgood.term,hgood.vote,hgood.fits,hgood.role,hgood.commit,by simpa using hgood.votes,hgood.mlen,fun j x hx=>⟨(hgood.mat j x hx).1,fun h0=>absurd (c1.symm.trans h0) (by decide)⟩,fun _=>⟨l1,l2,hset⟩⟩,
    hr.bok,hr.id,hr.many,hr.T,hr.L,hr.len,hr.v0,hr.v1,fun _=>⟨q1,q2,fun j hj=>by
     rw [List.getElem?_set] at hj
     split at hj
     ·rename_i e
      subst e
      have:=hm.k2 hkind c3
      rw [hk] at this
      rw [← c2]
      exact this
     ·exact q3 j hj⟩,fun q=>absurd (c1.symm.trans q) (by decide),hr.cp⟩
  simp only
  split
  ·rename_i hmost
   exact Ab8 h hN hrep c1 hmost
  ·exact Rep.refl h hrep fun x hx=>by cases hx
 ·exact Rep.refl h hr fun x hx=>by cases hx
theorem Ajy {N:Nat}{a:Abs}{k:Nat}{r:Replica}{m:Message}(h:Inv N a)(hN:1≤N)(hr:Rep N a k r)(hm:Sent N a m)(hk:m.To=k)(hkind:m.Kind=3)(hge:m.Term≤r.Term) : ∃ x l,appF r m=some (x,l)∧Pp N a k x l:=by
 have hmok:=hm.mok hr hk
 have h1:1≤r.Term:=by have:=hm.term; omega
 have hcm:=hm.commit
 have hcr:=hr.good.commit
 obtain⟨c,q1,q2,q3,q4⟩:=hm.k3 hkind
 have hgood : ∀ {x l},appF r m=some (x,l)→Good x:=fun ho=>Akr hr.good hmok hge ho
 unfold appF at hgood ⊢
 split
 ·refine⟨_,_,rfl,Rep.refl h hr fun x hx=>?_⟩
  rw [List.mem_singleton.1 hx]
  exact Tn hr hm hk h1 (.inr rfl) (Int.le_refl _) (fun q=>by cases q) (fun _ q=>by cases q)
 rename_i hlt
 have het:m.Term=r.Term:=by omega
 rw [if_neg hlt] at hgood
 split
 ·exact⟨_,_,rfl,Rep.refl h hr fun x hx=>by cases hx⟩
 rename_i hrole
 rw [if_neg hrole] at hgood
 rw [het] at q1 q2 q3 q4
 have go : ∀ X:List Record,(X=a.L k∧m.Log <+: a.L k∨X=m.Log∧¬ m.Log <+: a.L k)→Good { Kc r with Log:=X,Commit:=max r.Commit m.Commit }→Rf X→X.length≤4096→CP N a r.Term (X.take (max r.Commit m.Commit).toNat) →
   Pp N a k { Kc r with Log:=X,Commit:=max r.Commit m.Commit } [Rb r m 4 true m.Log.length]:=by
  intro X hX hG hB hlen hcp
  have hinv:=Al3 h hr.T q1 q3 q2 hX
  have hgrow:=Aj2 a k r.Term m.Log.length X
  have eA:(Xv a k r.Term m.Log.length X).A r.Term k=max (a.A r.Term k) m.Log.length:=if_pos ⟨rfl,rfl⟩
  have hrep:Rep N (Xv a k r.Term m.Log.length X) k { Kc r with Log:=X,Commit:=max r.Commit m.Commit }:=
   ⟨hG,hB,hr.id,hr.many,hr.T,if_pos rfl,hlen,hr.v0,hr.v1,fun q=>absurd q (by show ¬ (0:Int)=1; decide),fun q=>absurd q (by show ¬ (0:Int)=2; decide),hcp.grow h hN hgrow (Int.le_refl _)⟩
  refine⟨_,hinv,hgrow,Ajd a k _ _ _,hrep,fun x hx=>?_,fun _=>.inl rfl⟩
  rw [List.mem_singleton.1 hx]
  exact Tn (kind:=4) (g:=true) (mat:=(m.Log.length:Int)) hrep (hm.grow h hN hgrow) hk h1 (.inr rfl) (by omega) (fun q=>by cases q) (fun _ _=>by
   show((m.Log.length:Nat):Int).toNat≤(Xv a k r.Term m.Log.length X).A r.Term k
   rw [eA]; omega)
 by_cases h3:m.Log <+: r.Log
 ·rw [if_pos h3] at hgood ⊢
  refine⟨_,_,rfl,go r.Log (.inl ⟨hr.L.symm,by rw [hr.L]; exact h3⟩) (hgood rfl) hr.bok hr.len ?_⟩
  rcases Int.le_total r.Commit m.Commit with q | q
  ·rw [show max r.Commit m.Commit=m.Commit by omega,Acj h3 (by omega)]
   exact q4
  ·rw [show max r.Commit m.Commit=r.Commit by omega]
   exact hr.cp
 ·rw [if_neg h3] at hgood ⊢
  have h4:comm r <+: m.Log:=by
   rcases hr.cp with e | ⟨t,n,c1,t1,e⟩
   ·rw [e]; exact List.nil_prefix
   ·rcases Int.lt_or_eq_of_le t1 with p | p
    ·rw [e]; exact(Agg h c1 p q1).trans q2
    ·have hx:comm r <+: a.LL r.Term:=by rw [e,p]; exact List.take_prefix _ _
     rcases Age hx q3 with p2 | p2
     ·exact p2
     ·exact absurd (p2.trans (List.take_prefix _ _)) h3
  have h4':r.Log.take r.Commit.toNat <+: m.Log:=h4
  rw [if_pos h4'] at hgood ⊢
  have hlen:=h4'.length_le
  simp only [List.length_take] at hlen
  refine⟨_,_,rfl,go m.Log (.inr ⟨rfl,by rw [hr.L]; exact h3⟩) (hgood rfl) hm.bok hm.len ?_⟩
  rcases Int.le_total r.Commit m.Commit with q | q
  ·rw [show max r.Commit m.Commit=m.Commit by omega]
   exact q4
  ·rw [show max r.Commit m.Commit=r.Commit by omega]
   have:m.Log.take r.Commit.toNat=comm r:=by
    have hx:=List.prefix_iff_eq_take.1 h4
    rw [Akx hr.good] at hx
    exact hx.symm
   rw [this]
   exact hr.cp
theorem Aju {N:Nat}{a:Abs}{k:Nat}{r:Replica}{m:Message}(h:Inv N a)(hN:1≤N)(hr:Rep N a k r)(hm:Sent N a m)(hk:m.To=k)(hkind:m.Kind=4) : ∃ x l,Q7 r m=some (x,l)∧Pp N a k x l:=by
 have hmok:=hm.mok hr hk
 have hgood : ∀ {x l},Q7 r m=some (x,l)→Good x:=fun ho=>Ajk hr.good hmok ho
 have hfrm:=hm.frm
 have hmm:=hm.mat
 have hmany:=hr.many
 have hml:=hr.good.mlen
 unfold Q7 at hgood ⊢
 split
 ·rename_i hc
  obtain⟨c1,c2,c3⟩:=hc
  rw [if_pos ⟨c1,c2,c3⟩] at hgood
  obtain⟨q1,q2,q3⟩:=hr.r2 c1
  have hA:=hm.k4 hkind c3
  rw [c2] at hA
  have hle:m.Match≤r.Log.length:=by
   have:=Ag2 h r.Term m.From.toNat
   rw [q2] at this
   omega
  rw [if_pos hle] at hgood ⊢
  have hlt:m.From.toNat<r.Match.length:=by omega
  have hget:r.Match[m.From.toNat]? = some (r.Match.getD m.From.toNat 0):=by simp only [List.getD,List.getElem?_eq_getElem hlt,Option.getD_some]
  have hmat : ∀ (j:Nat) n,(r.Match.set m.From.toNat (max m.Match (r.Match.getD m.From.toNat 0)))[j]? = some n→n.toNat≤a.A r.Term j:=by
   intro j n hj
   rw [List.getElem?_set] at hj
   split at hj
   ·rename_i e
    subst e
    cases hj
    have:=q3 _ _ hget
    omega
   ·exact q3 j n hj
  have hG:=hgood rfl
  have hrep:Rep N a k { r with Match:=r.Match.set m.From.toNat (max m.Match (r.Match.getD m.From.toNat 0)),Commit:=Pi r.Term r.Log r.Commit (r.Match.set m.From.toNat (max m.Match (r.Match.getD m.From.toNat 0))) }:=
   ⟨hG,hr.bok,hr.id,hr.many,hr.T,hr.L,hr.len,hr.v0,hr.v1,fun q=>absurd (c1.symm.trans q) (by decide),fun _=>⟨q1,q2,hmat⟩,
    Aes (mat:=r.Match.set m.From.toNat (max m.Match (r.Match.getD m.From.toNat 0))) hN q2 (by simp; omega) hmat (fun n hn=>by
     obtain⟨j,hj⟩:=List.getElem?_of_mem hn
     exact(hG.mat j n hj).1) hr.good.commit.1 hr.cp⟩
  exact⟨_,_,rfl,Rep.refl h hrep fun x hx=>by cases hx⟩
 ·exact⟨_,_,rfl,Rep.refl h hr fun x hx=>by cases hx⟩
theorem Aiq {N:Nat}{a:Abs}{k:Nat}{r:Replica}{m:Message}(h:Inv N a)(hN:1≤N)(hr:Rep N a k r)(hm:Sent N a m)(hk:m.To=k) : ∃ x l,P7 r m=some (x,l)∧Pp N a k x l:=by
 obtain⟨b,b1,b2,b3,b4,b5⟩:=Ai6 h hN hr hm
 have hm':=hm.grow h hN b2
 have hge:m.Term≤(K8 r m).Term:=by have:=(Uo r m).2.2.2.2; omega
 have key : ∃ x l,Us (K8 r m) m=some (x,l)∧Pp N b k x l:=by
  have hkind:=hm.kind
  unfold Us
  by_cases h1:m.Kind=1
  ·rw [if_pos h1]
   exact⟨_,_,rfl,Ajf b1 hN b4 hm' hk h1 hge⟩
  rw [if_neg h1]
  by_cases h2:m.Kind=2
  ·rw [if_pos h2]
   exact⟨_,_,rfl,Aib b1 hN b4 hm' hk h2⟩
  rw [if_neg h2]
  by_cases h3:m.Kind=3
  ·rw [if_pos h3]
   exact Ajy b1 hN b4 hm' hk h3 hge
  rw [if_neg h3]
  exact Aju b1 hN b4 hm' hk (by omega)
 obtain⟨x,l,e1,e2⟩:=key
 refine⟨x,l,?_,e2.after b2 b3 b5⟩
 unfold P7
 rw [if_pos ((Agf r m).2 (hm.mok hr hk))]
 exact e1
end Rp
end Go.Am
namespace Go.Am
open Go
set_option linter.unusedVariables false
set_option linter.unusedSimpArgs false
namespace Rp
structure SInv (N:Nat)(a:Abs)(rs:List Replica)(sent:List Message):Prop where
 n:1≤N∧N≤5
 inv:Inv N a
 len:rs.length=N
 reps : ∀ (k:Nat) r,rs[k]? = some r→Rep N a k r
 msgs : ∀ m ∈ sent,Sent N a m
def Rs (i N:Nat):Replica:={ ID:=i,Many:=N,Term:=0,Vote := -1,Log:=[],Role:=0,Commit:=0,Votes:=List.replicate N false,Match:=List.replicate N 0 }
def abs0:Abs:={ T:=fun _=>0,L:=fun _=>[],V:=fun _ _=>none,vl:=fun _ _=>[],led:=fun _=>none,S:=fun _ _=>false,LL:=fun _=>[],A:=fun _ _=>0 }
theorem Anm (a:Abs):LM a []:=⟨List.Pairwise.nil,fun e he=>(by cases he),fun i e he=>(by cases he)⟩
theorem Aon (N:Nat):Inv N abs0:=by
 refine⟨fun f=>Anm _,fun t f c h=>?_,fun t c h=>?_,fun f e he=>?_,fun t f c h=>?_,fun t f c h=>?_,fun t c h=>?_,fun t c h=>?_,fun t c h=>?_,fun t f h=>?_,fun t f h=>absurd h (by show ¬ 1≤0; omega),fun t f n h1 h2=>absurd h2 (by show ¬ n≤0; omega),fun t t' f n h1 h2=>absurd h2 (by show ¬ n≤0; omega)⟩
 ·cases h
 ·cases h
 ·cases he
 ·cases h
 ·cases h
 ·cases h
 ·cases h
 ·cases h
 ·cases h
theorem Ajr {i N:Nat}(h:N≤5)(hi:i<N):Good (Rs i N):=by
 have:=Of (r:=Rs i N) (by show(1:Int)≤N∧(N:Int)≤5; omega) (by show(0:Int)≤i∧(i:Int)<N; omega) (by show(0:Int)≤0∧(0:Int)≤1048576; omega) (by show(-1:Int) ≤ -1∧(-1:Int)<N; omega) rfl ⟨Int.le_refl _,Int.le_refl _⟩
 exact this
theorem Al9 {i N:Nat}(h:N≤5)(hi:i<N):Rep N abs0 i (Rs i N):=
 ⟨Ajr h hi,fun x hx=>(by cases hx),rfl,rfl,rfl,rfl,by show 0≤4096; omega,fun _=>rfl,fun c q=>absurd q (by show ¬ (-1:Int)=c; omega),fun q=>absurd q (by show ¬ (0:Int)=1; decide),fun q=>absurd q (by show ¬ (0:Int)=2; decide),.inl rfl⟩
theorem Amw {i N:Nat}(h:N≤5)(hi:i<N):Iq i N=.ok (Rs i N,0):=by
 unfold Iq
 have hw:IntKind.wrap .i64 ((N:Int) - 1)=(N:Int) - 1:=Hy (by omega) (by omega)
 rw [Nh]
 simp only [R.ok_bind,hw]
 rw [decide_eq_true (by omega:(1:Int)≤N),decide_eq_true (by omega:(N:Int)≤5)]
 simp only [Bool.and_self,Bool.not_true,Bool.false_eq_true,if_false,Nh,R.ok_bind]
 rw [decide_eq_true (by omega:(0:Int)≤i),decide_eq_true (by omega:(i:Int)≤(N:Int) - 1)]
 simp only [Bool.and_self,Bool.not_true,Bool.false_eq_true,if_false,Lc,R.ok_bind]
 unfold H4 Ie Kb
 rw [Nh]
 simp only [R.ok_bind]
 rw [decide_eq_true (by omega:(0:Int)≤N),decide_eq_true (by omega:(N:Int)≤5)]
 simp only [Bool.and_self,if_true]
 rw [if_pos ⟨by omega,Int.le_refl _,by unfold B2; omega⟩,if_pos ⟨by omega,Int.le_refl _,by unfold B2; omega⟩]
 rfl
theorem fresh_eq {N:Nat}(h:N≤5):L3 N=.ok (true,(List.range N).map fun i=>Rs i N):=by
 have key : ∀ (n k:Nat),k+n=N→loop (Dx fun i l=>Gw N i l) ((k:Int),(List.range k).map fun i=>Rs i N)=.ok (.inl ((List.range N).map fun i=>Rs i N)):=by
  intro n
  induction n with
  | zero=>
   intro k hk
   rw [J2]
   have:(Dx fun i l=>Gw N i l) ((k:Int),(List.range k).map fun i=>Rs i N)=.ok (.inr (.inl ((List.range k).map fun i=>Rs i N))):=by
    simp only [Dx,Gw]
    rw [if_neg (by omega)]
   rw [this,show k=N by omega]
   rfl
  | succ n ih=>
   intro k hk
   rw [J2]
   have hw:IntKind.wrap .i64 ((k:Int)+1)=((k+1:Nat):Int):=by rw [Hy (by omega) (by omega)]; omega
   have:(Dx fun i l=>Gw N i l) ((k:Int),(List.range k).map fun i=>Rs i N)=.ok (.inl (((k+1:Nat):Int),(List.range (k+1)).map fun i=>Rs i N)):=by
    simp only [Dx,Gw]
    rw [if_pos (by omega),Amw h (by omega)]
    simp only [R.ok_bind,bne_self_eq_false,Bool.false_eq_true,if_false]
    rw [if_pos (by simp only [List.length_map,List.length_range,List.length_singleton]; unfold B2; omega),hw,List.range_succ,List.map_append]
    rfl
   rw [this,R.ok_bind]
   exact ih (k+1) (by omega)
 unfold L3
 have:=key N 0 (by omega)
 rw [show((0:Int),([]:List Replica))=(((0:Nat):Int),(List.range 0).map fun i=>Rs i N) from rfl,this]
 rfl
theorem sinv0 {N:Nat}(h:1≤N∧N≤5):SInv N abs0 ((List.range N).map fun i=>Rs i N) []:=by
 refine⟨h,Aon N,by simp,fun k r hr=>?_,fun m hm=>by cases hm⟩
 rw [List.getElem?_map] at hr
 by_cases hk:k<N
 ·rw [List.getElem?_range hk] at hr
  cases hr
  exact Al9 h.2 hk
 ·rw [List.getElem?_eq_none (by simp; omega)] at hr
  cases hr
theorem Acc {α ε:Type}{b:Nat→α→Unit→R (Unit ⊕ ε)} : ∀ (l:List α) (k:Nat),(∀ (j:Nat) a,l[j]? = some a→b (k+j) a ()=.ok (.inl ()))→each b k l ()=.ok (.inl ())
 | [],k,_=>rfl
 | a::l,k,hb=>by
  rw [L9,show b k a ()=.ok (.inl ()) from hb 0 a rfl]
  simp only [R.ok_bind]
  exact Acc l (k+1) fun j x hx=>by rw [show k+1+j=k+(j+1) by omega]; exact hb (j+1) x (by simpa using hx)
theorem SInv.step {N:Nat}{a:Abs}{rs:List Replica}{sent:List Message}(h:SInv N a rs sent){k:Nat}{x:Replica}{l:List Message}(hk:k<N)(hs:Pp N a k x l) : ∃ b,Grow a b∧Frame k a b∧Rep N b k x∧SInv N b (rs.set k x) (sent++l) ∧ ∀ t,b.led t=a.led t∨x.Role=2∧x.Term=t:=by
 obtain⟨b,h1,h2,h3,h4,h5,h6⟩:=hs
 refine⟨b,h2,h3,h4,⟨h.n,h1,by rw [List.length_set]; exact h.len,fun k' r hr=>?_,fun m hm=>?_⟩,h6⟩
 ·rw [List.getElem?_set] at hr
  split at hr
  ·rename_i e
   split at hr
   ·cases hr
    rw [← e]; exact h4
   ·cases hr
  ·rename_i e
   exact(h.reps k' r hr).other h.inv h.n.1 h2 h3 (fun q=>e q.symm)
 ·rcases List.mem_append.1 hm with q | q
  ·exact(h.msgs m q).grow h.inv h.n.1 h2
  ·exact h5 m q
theorem Rep.llim {N:Nat}{a:Abs}{k:Nat}{r:Replica}(h:Rep N a k r):r.Log.length≤B2:=by
 have:=h.len
 unfold B2; omega
theorem Alb {N:Nat}{k:Nat}{r x:Replica}{rs:List Replica}{l sent:List Message}(hr:rs[k]? = some r)(hg:Good x)(hl:x.Log.length≤B2)(hid:x.ID=k)(hm:x.Many=rs.length)(ht:r.Term≤x.Term)
  (hf : ∀ m ∈ l,m.From=k∧m.To≠k) (hs:(sent.length+l.length) * 96≤B2):Io k x l rs sent=.ok (true,rs.set k x,sent++l):=by
 unfold Io
 rw [Qq hl hg,R.ok_bind,if_neg (by simp),if_neg (by simpa using hid),if_neg (by simpa using hm),D0 hr,R.ok_bind,decide_eq_false (by omega)]
 unfold Jq
 rw [if_neg (by simp),Acc l 0 fun j m hj=>?_]
 ·simp only [R.ok_bind,Jm,D0 hr]
  rw [if_pos hs]
  rfl
 ·obtain⟨q1,q2⟩:=hf m (List.mem_of_getElem? hj)
  unfold Mb
  rw [if_neg]
  simp only [Bool.or_eq_true,bne_iff_ne,ne_eq,beq_iff_eq]
  omega
theorem Ajg {N:Nat}{k:Nat}{r x:Replica}{rs:List Replica}{sent:List Message}(hr:rs[k]? = some r)(hg:Good x)(hl:x.Log.length≤B2)(hid:x.ID=k)(hm:x.Many=rs.length)(ht:r.Term≤x.Term)
  (hs:sent.length * 96≤B2):Lm k x rs sent=.ok (true,rs.set k x,sent):=by
 unfold Lm
 rw [Qq hl hg,R.ok_bind,if_neg (by simp),if_neg (by simpa using hid),if_neg (by simpa using hm),D0 hr,R.ok_bind,decide_eq_false (by omega)]
 unfold Jv
 rw [if_neg (by simp)]
 simp only [List.range_zero,Wh,R.ok_bind,D0 hr]
 rw [if_pos (by simpa using hs)]
 simp
theorem Agm {N:Nat}{a b:Abs}{k:Nat}{r x:Replica}(hg:Grow a b)(hr:Rep N a k r)(hx:Rep N b k x):r.Term≤x.Term:=by
 have:=hg.T k
 rw [hr.T,hx.T] at this
 exact this
theorem Abv {N:Nat}{a:Abs}{rs:List Replica}{sent:List Message}(h:SInv N a rs sent){k:Nat}{r x:Replica}{l:List Message}(hr:rs[k]? = some r)(hs:Pp N a k x l)(hf : ∀ m ∈ l,m.From=r.ID)(hl:l.length≤5)(hn:sent.length≤100000) :
  ∃ b,Grow a b∧Frame k a b∧Rep N b k x∧SInv N b (rs.set k x) (sent++l)∧Io k x l rs sent=.ok (true,rs.set k x,sent++l) ∧ ∀ t,b.led t=a.led t∨x.Role=2∧x.Term=t:=by
 have hk:k<N:=by
  rw [← h.len]
  rcases Nat.lt_or_ge k rs.length with hh | hh
  ·exact hh
  ·rw [List.getElem?_eq_none hh] at hr; cases hr
 have hrep:=h.reps k r hr
 obtain⟨b,h1,h2,h3,h4,h5⟩:=h.step hk hs
 refine⟨b,h1,h2,h3,h4,Alb (N:=N) hr h3.good h3.llim h3.id (by rw [h3.many,h.len]) (Agm h1 hrep h3) (fun m hm=>?_) (by unfold B2; omega),h5⟩
 have hm2:=h4.msgs m (List.mem_append_right _ hm)
 have:=hf m hm
 have:=hrep.id
 have:=hm2.ne
 omega
theorem Aj0 {N:Nat}{a:Abs}{k:Nat}{r x:Replica}{m:Message}{l:List Message}(hr:Rep N a k r)(ho:P7 r m=some (x,l)):l.length≤5:=by
 have hall : ∀ (r':Replica) (m':Message),r'.Many=r.Many→(Kf r' m').length≤5:=by
  intro r' m' q
  have h1:=hr.good.many
  unfold Kf Vd
  rw [List.length_map]
  have:=List.length_filter_le (fun x:Nat=>decide ((x:Int)≠r'.ID)) (List.range r'.Many.toNat)
  rw [List.length_range] at this
  omega
 have hb:=(Uo r m).2.1
 unfold P7 at ho
 split at ho
 ·unfold Us at ho
  split at ho
  ·have e:l=(Oh (K8 r m) m).2:=by rw [Option.some.inj ho]
   rw [e]
   show 1≤5
   omega
  split at ho
  ·have e:l=(Ow (K8 r m) m).2:=by rw [Option.some.inj ho]
   rw [e]
   unfold Ow
   split
   ·simp only
    split
    ·exact hall _ _ hb
    ·simp
   ·simp
  split at ho
  ·unfold appF at ho
   split at ho
   ·cases ho; simp
   split at ho
   ·cases ho; simp
   split at ho
   ·cases ho; simp
   split at ho
   ·cases ho; simp
   ·cases ho
  ·have:=Ad3 ho
   rw [this]; simp
 ·cases ho
theorem Ag7 {N:Nat}{a:Abs}{rs:List Replica}{sent:List Message}(h:SInv N a rs sent){n:Nat}{m:Message}(hm:sent[n]? = some m)(hn:sent.length≤100000) :
  ∃ b r x l,rs[m.To.toNat]? = some r∧P7 r m=some (x,l)∧Grow a b∧Frame m.To.toNat a b∧Rep N b m.To.toNat x∧SInv N b (rs.set m.To.toNat x) (sent++l)∧l.length≤5∧Ko n rs sent=.ok (true,rs.set m.To.toNat x,sent++l) ∧ ∀ t,b.led t=a.led t∨x.Role=2∧x.Term=t:=by
 have hs:=h.msgs m (List.mem_of_getElem? hm)
 have hto:=hs.to
 have hlen:=h.len
 have hlt:m.To.toNat<rs.length:=by omega
 have hr:rs[m.To.toNat]? = some rs[m.To.toNat]:=List.getElem?_eq_getElem hlt
 generalize rs[m.To.toNat]=r at hr
 have hrep:=h.reps _ r hr
 obtain⟨x,l,e1,e2⟩:=Aiq h.inv h.n.1 hrep hs (by omega)
 have hfr : ∀ m' ∈ l,m'.From=r.ID:=fun m' hm'=>((Ait hrep.good e1).2.2.2.2.2.1 m' hm').1
 have hl5:=Aj0 hrep e1
 obtain⟨b,b1,b2,b3,b4,b5,b6⟩:=Abv h hr e2 hfr hl5 hn
 refine⟨b,r,x,l,hr,e1,b1,b2,b3,b4,hl5,?_,b6⟩
 unfold Ko
 rw [D0 hm,R.ok_bind,decide_eq_false (by omega),decide_eq_false (by omega)]
 have e:((m.To.toNat:Nat):Int)=m.To:=by omega
 have hi:Cp rs m.To=.ok r:=by rw [← e]; exact D0 hr
 simp only [Bool.or_self,Bool.false_eq_true,if_false,hi,R.ok_bind]
 rw [Alz hrep.good hrep.llim hrep.bok hs.bok (by have:=hs.len; unfold B2; omega),e1]
 simp only [R.ok_bind]
 unfold Md
 rw [if_neg (by simp),← e,b5]
 rfl
end Rp
end Go.Am
namespace Go.Am
open Go
set_option linter.unusedVariables false
set_option linter.unusedSimpArgs false
namespace Rp
theorem Abe {x:Int}{n:Nat}(h0:0≤x)(hn:0<n) : ∃ k:Nat,Int.tmod x n=k∧k<n:=by
 have h1:=Int.tmod_nonneg (n:Int) h0
 have h2:=Int.tmod_lt_of_pos x (b:=(n:Int)) (by omega)
 exact⟨(Int.tmod x n).toNat,by omega,by omega⟩
theorem Ahc {x:Int}(h:0≤x∧x<256):IntKind.wrap .i64 x=x:=Hy (by omega) (by omega)
structure Byt (s:T44):Prop where
 k:0≤s.Kind∧s.Kind<256
 a:0≤s.At∧s.At<256
 d:0≤s.Data∧s.Data<256
theorem Agn (r:Replica) : ∀ m ∈ (Ks r).2,m.From=r.ID:=by
 intro m hm
 unfold Ks at hm
 split at hm
 ·exact(Q2 _ _ m hm).1
 ·exact(Q2 _ _ m hm).1
theorem U0 {r:Replica}(h:0≤r.Many∧r.Many≤5)(m:Message):(Kf r m).length≤5:=by
 unfold Kf Vd
 rw [List.length_map]
 have:=List.length_filter_le (fun x:Nat=>decide ((x:Int)≠r.ID)) (List.range r.Many.toNat)
 rw [List.length_range] at this
 omega
theorem Ai7 {r:Replica}(h:0≤r.Many∧r.Many≤5):(Ks r).2.length≤5:=by
 unfold Ks
 split
 ·exact U0 (r:=(Kt (Jf r)).1) h _
 ·exact U0 (r:=Jf r) h _
theorem Amg {N:Nat}{a:Abs}{rs:List Replica}{sent:List Message}(h:SInv N a rs sent){s:T44}(h0:s.Kind=0){k:Nat}{r:Replica}(hk:Int.tmod (IntKind.wrap .i64 s.At) (rs.length:Int)=k)(hr:rs[k]? = some r)(hn:sent.length≤100000) :
  (r.Term=1048576→Gx s rs sent=.ok (true,rs,sent)) ∧
  (r.Term≠1048576 → ∃ b,Grow a b∧Frame k a b∧Rep N b k (Ks r).1∧SInv N b (rs.set k (Ks r).1) (sent++(Ks r).2)∧(Ks r).2.length≤5∧Gx s rs sent=.ok (true,rs.set k (Ks r).1,sent++(Ks r).2) ∧ ∀ t,b.led t=a.led t∨(Ks r).1.Role=2∧(Ks r).1.Term=t):=by
 have hrep:=h.reps k r hr
 have hne:(rs.length:Int)≠0:=by have:=h.len; have:=h.n; omega
 have e:Gx s rs sent=((Gl r).bind fun r1=>if(r1.2.2 != 0) then(.ok ((r1.2.2==2),rs,sent)) else((Io k r1.1 r1.2.1 rs sent).bind fun r1=>.ok (r1.1,r1.2.1,r1.2.2))):=by
  unfold Gx
  rw [if_pos hne,h0,if_pos (by rfl),hk,D0 hr,R.ok_bind]
 rw [e,Ami hrep.good hrep.llim,R.ok_bind]
 constructor
 ·intro ht
  rw [if_pos ht]
  rfl
 ·intro ht
  have hm:=hrep.good.many
  have hl:=Ai7 (r:=r) (by omega)
  obtain⟨b,b1,b2,b3,b4,b5,b6⟩:=Abv h hr (Ai5 h.inv h.n.1 hrep ht) (Agn r) hl hn
  refine⟨b,b1,b2,b3,b4,hl,?_,b6⟩
  rw [if_neg ht]
  simp only [bne_self_eq_false,Bool.false_eq_true,if_false]
  rw [b5]
  rfl
theorem An5 {N:Nat}{a:Abs}{rs:List Replica}{sent:List Message}(h:SInv N a rs sent){s:T44}(hb:Byt s)(hn:sent.length≤10000) :
  ∃ b rs' sent',Gx s rs sent=.ok (true,rs',sent')∧SInv N b rs' sent'∧Grow a b∧sent'.length≤sent.length+5∧(∀ t,b.led t=a.led t ∨ ∃ (k:Nat) (x:Replica),rs'[k]? = some x∧x.Role=2∧x.Term=t)∧(rs'=rs∧sent'=sent∨Next ⟨rs,sent⟩ ⟨rs',sent'⟩):=by
 have new : ∀ {b:Abs} {k:Nat} {x:Replica},k<rs.length→(∀ t,b.led t=a.led t∨x.Role=2∧x.Term=t) → ∀ t,b.led t=a.led t ∨ ∃ (k':Nat) (y:Replica),(rs.set k x)[k']? = some y∧y.Role=2∧y.Term=t:=by
  intro b k x hk hq t
  rcases hq t with q | ⟨q1,q2⟩
  ·exact .inl q
  ·exact .inr ⟨k,x,by rw [List.getElem?_set,if_pos rfl,if_pos hk],q1,q2⟩
 have hN:=h.n
 have hlen:=h.len
 obtain⟨k,hk,hlt⟩:=Abe (x:=IntKind.wrap .i64 s.At) (n:=rs.length) (by rw [Ahc hb.a]; exact hb.a.1) (by omega)
 have hr:rs[k]? = some rs[k]:=List.getElem?_eq_getElem hlt
 generalize rs[k]=r at hr
 have hrep:=h.reps k r hr
 have hne:(rs.length:Int)≠0:=by omega
 by_cases h0:s.Kind=0
 ·obtain⟨d1,d2⟩:=Amg h h0 hk hr (by omega)
  by_cases ht:r.Term=1048576
  ·exact⟨a,rs,sent,d1 ht,h,Grow.refl a,by omega,fun _=>.inl rfl,.inl ⟨rfl,rfl⟩⟩
  ·obtain⟨b,b1,b2,b3,b4,b5,b6,b7⟩:=d2 ht
   exact⟨b,_,_,b6,b4,b1,by rw [List.length_append]; omega,new hlt b7,.inr (.time k r hr ht)⟩
 by_cases h1:s.Kind=1
 ·have e:Gx s rs sent=((Gk r [s.Data]).bind fun r2=>Ob s rs sent r2.2.1 r2.2.2 rs r2.1):=by
   unfold Gx
   rw [if_pos hne,h1,if_neg (by decide),if_pos (by rfl),hk,D0 hr,R.ok_bind]
  rw [e,Alv hrep.good hrep.llim,R.ok_bind]
  unfold Ob
  rw [hk]
  by_cases h2:r.Role=2
  ·rw [if_pos h2]
   by_cases h3:r.Log.length≥4096
   ·rw [if_pos h3]
    refine⟨a,rs,sent,?_,h,Grow.refl a,by omega,fun _=>.inl rfl,.inl ⟨rfl,rfl⟩⟩
    simp only [show((2:Int) != 0)=true from rfl,if_true,D0 hr,R.ok_bind]
    rw [if_neg (by simpa using h2)]
    rfl
   ·rw [if_neg h3]
    have hm:=hrep.good.many
    have hl:(Pg r [s.Data]).2.length≤5:=U0 (r:=(Pg r [s.Data]).1) (by show 0≤r.Many∧r.Many≤5; omega) _
    obtain⟨b,b1,b2,b3,b4,b5,b6⟩:=Abv h hr (Ahm (d:=[s.Data]) h.inv h.n.1 hrep h2 (by omega) (fun x hx=>by rw [List.mem_singleton.1 hx]; exact hb.d)) (fun m hm=>(Q2 _ _ m hm).1) hl (by omega)
    refine⟨b,_,_,?_,b4,b1,by rw [List.length_append]; omega,new hlt b6,.inr (.prop k r [s.Data] hr h2 (by omega) (fun x hx=>by rw [List.mem_singleton.1 hx]; exact hb.d))⟩
    simp only [bne_self_eq_false,Bool.false_eq_true,if_false]
    rw [b5]
    rfl
  ·rw [if_neg h2]
   refine⟨a,rs,sent,?_,h,Grow.refl a,by omega,fun _=>.inl rfl,.inl ⟨rfl,rfl⟩⟩
   simp only [show((470:Int) != 0)=true from rfl,if_true,D0 hr,R.ok_bind]
   rw [if_pos (by simpa using h2)]
 by_cases h2:s.Kind=2
 ·have e:Gx s rs sent=((F4 r).bind fun r6=>(Lm k r6 rs sent).bind fun r7=>.ok (r7.1,r7.2.1,r7.2.2)):=by
   unfold Gx
   rw [if_pos hne,h2,if_neg (by decide),if_neg (by decide),if_pos (by rfl),hk,D0 hr,R.ok_bind]
  have hm:=hrep.good.many
  have hx:=Akt hrep
  have hk':k<N:=by omega
  obtain⟨b,b1,b2,b3,b4,b5⟩:=h.step hk' (Rep.refl (l:=[]) h.inv hx (fun m hm=>by cases hm))
  rw [e,Amq (by omega),R.ok_bind,Ajg (N:=N) hr hx.good hx.llim hx.id (by rw [hx.many,h.len]) (Int.le_refl _) (by unfold B2; omega),R.ok_bind]
  rw [List.append_nil] at b4
  have hnx:=Next.rest (s:=⟨rs,sent⟩) k r hr
  unfold Sys.put at hnx
  rw [List.append_nil] at hnx
  exact⟨b,rs.set k (Acw r),sent,rfl,b4,b1,by omega,new hlt b5,.inr hnx⟩
 by_cases hz:sent.length=0
 ·refine⟨a,rs,sent,?_,h,Grow.refl a,by omega,fun _=>.inl rfl,.inl ⟨rfl,rfl⟩⟩
  unfold Gx
  rw [if_pos hne,if_neg (by simpa using h0),if_neg (by simpa using h1),if_neg (by simpa using h2),if_pos (by simp [hz])]
 ·have hbk:=hb.k
  have hbd:=hb.d
  have hw1:IntKind.wrap .i64 s.Data=s.Data:=Ahc hb.d
  have hw2:IntKind.wrap .i64 (256 * s.Data)=256 * s.Data:=Hy (by omega) (by omega)
  have hw3:IntKind.wrap .i64 s.Kind=s.Kind:=Ahc hb.k
  have hw4:IntKind.wrap .i64 (s.Kind+256 * s.Data)=s.Kind+256 * s.Data:=Hy (by omega) (by omega)
  obtain⟨n,hn',hlt'⟩:=Abe (x:=s.Kind+256 * s.Data) (n:=sent.length) (by omega) (by omega)
  have hm:sent[n]? = some sent[n]:=List.getElem?_eq_getElem hlt'
  obtain⟨b,r',x,l,q1,q2,q3,q4,q5,q6,q7,q8,q9⟩:=Ag7 h hm (by omega)
  refine⟨b,_,_,?_,q6,q3,by rw [List.length_append]; omega,new (by
   rcases Nat.lt_or_ge sent[n].To.toNat rs.length with hh | hh
   ·exact hh
   ·rw [List.getElem?_eq_none hh] at q1; cases q1) q9,.inr (.recv sent[n].To.toNat r' sent[n] x l q1 (List.mem_of_getElem? hm) (by have:=(h.msgs _ (List.mem_of_getElem? hm)).to; omega) q2)⟩
  unfold Gx
  rw [if_pos hne,if_neg (by simpa using h0),if_neg (by simpa using h1),if_neg (by simpa using h2),if_neg (by simpa using hz),if_pos (by omega),hw1,hw2,hw3,hw4,hn',q8]
  rfl
def Qn (X:List Record):List (List Int):=X.map (·.Data)
theorem Aer {N:Nat}{a:Abs}{k:Nat}{r:Replica}(hr:Rep N a k r):De r=.ok (Qn (comm r)):=
 Alp r (by have:=hr.len; unfold B2; omega) hr.good.commit.1
theorem Al0 {X Y:List Record}(h:X <+: Y):Qn X <+: Qn Y:=by
 obtain⟨Z,rfl⟩:=h
 exact⟨Qn Z,by unfold Qn; rw [List.map_append]⟩
def Zz (N:Nat)(a:Abs)(all:List (List Int)):Prop := ∃ hi X,CP N a hi X∧all=Qn X
theorem Zz.grow {N:Nat}{a b:Abs}(h:Inv N a)(hN:1≤N)(hg:Grow a b){all:List (List Int)}(hx:Zz N a all):Zz N b all:=by
 obtain⟨hi,X,h1,h2⟩:=hx
 exact⟨hi,X,h1.grow h hN hg (Int.le_refl _),h2⟩
theorem byt_of {l:List T44}(h:(tSl 3 Zh).good l) : ∀ s ∈ l,Byt s:=by
 intro s hs
 have h1:Zh.good s:=h s hs
 obtain⟨q1,q2,q3,_⟩:=h1
 have f : ∀ x:Int,(Pt .u8).good x→0≤x∧x<256:=by
  intro x hx
  have h2:(Lit.int .u8 x).wf=true:=hx
  have:0≤x∧x≤255:=by simpa [Lit.wf,IntKind.min,IntKind.max,IntKind.signed,IntKind.bits] using h2
  omega
 exact⟨f _ q1,f _ q2,f _ q3⟩
theorem many_of {x:Int}(h:(Pt .u8).good x) : ∃ N:Nat,(1≤N∧N≤5)∧IntKind.wrap .i64 (1+(IntKind.wrap .i64 (Int.tmod x 5)))=N:=by
 have h2:(Lit.int .u8 x).wf=true:=h
 have h3:0≤x∧x≤255:=by simpa [Lit.wf,IntKind.min,IntKind.max,IntKind.signed,IntKind.bits] using h2
 obtain⟨k,hk,hlt⟩:=Abe (x:=x) (n:=5) h3.1 (by omega)
 refine⟨k+1,by omega,?_⟩
 rw [show((5:Nat):Int)=5 from rfl] at hk
 rw [hk,Hy (n:=(k:Int)) (by omega) (by omega),Hy (by omega) (by omega)]
 omega
end Rp
end Go.Am
namespace Go.Am
open Go
set_option linter.unusedVariables false
set_option linter.unusedSimpArgs false
namespace Rp
structure TW (a:Abs)(ts ws:List Int):Prop where
 len:ts.length=ws.length
 led : ∀ (n:Nat) t,ts[n]? = some t → ∃ c:Nat,ws[n]? = some (c:Int)∧a.led t=some c
theorem TW.grow {a b:Abs}(hg:Grow a b){ts ws:List Int}(h:TW a ts ws):TW b ts ws:=
 ⟨h.len,fun n t hn=>by
  obtain⟨c,q1,q2⟩:=h.led n t hn
  exact⟨c,q1,(hg.led _ _ q2).1⟩⟩
theorem Aal {α:Type}{l:List α}{n:Nat}{x:α}(h:l[n]? = some x):n<l.length:=by
 rcases Nat.lt_or_ge n l.length with hh | hh
 ·exact hh
 ·rw [List.getElem?_eq_none hh] at h; cases h
theorem Aaz {N:Nat}{a:Abs}{k:Nat}{r:Replica}(hr:Rep N a k r)(h2:r.Role=2){ts ws:List Int}(h:TW a ts ws)(hl:ts.length≤100000) : ∀ (d n:Nat),n+d=ts.length →
  loop (Kz fun x8 x9 x10=>Ee k r x8 x9 x10) ((n:Int),ts,ws)=.ok (.inl (ts,ws))
 | 0,n,hn=>by
  rw [J2]
  have:(Kz fun x8 x9 x10=>Ee k r x8 x9 x10) ((n:Int),ts,ws)=.ok (.inr (.inl (ts,ws))):=by
   simp only [Kz,Ee]
   rw [if_neg (by omega)]
  rw [this]; rfl
 | d+1,n,hn=>by
  have hw:IntKind.wrap .i64 ((n:Int)+1)=((n+1:Nat):Int):=by rw [Hy (by omega) (by omega)]; omega
  have hlt:n<ts.length:=by omega
  have ht:ts[n]? = some ts[n]:=List.getElem?_eq_getElem hlt
  obtain⟨c,q1,q2⟩:=h.led n _ ht
  have:(Kz fun x8 x9 x10=>Ee k r x8 x9 x10) ((n:Int),ts,ws)=.ok (.inl (((n+1:Nat):Int),ts,ws)):=by
   simp only [Kz,Ee]
   rw [if_pos (by omega),D0 ht,R.ok_bind]
   by_cases he:ts[n]=r.Term
   ·rw [if_pos (by simpa using he),D0 q1,R.ok_bind]
    have hc:c=k:=by
     rw [he,(hr.r2 h2).1] at q2
     exact(Option.some.inj q2).symm
    unfold Gq
    rw [if_neg (by simp [hc]),hw]
   ·rw [if_neg (by simpa using he)]
    unfold Gq
    rw [if_neg (by simp),hw]
  rw [J2,this,R.ok_bind]
  exact Aaz hr h2 h hl d (n+1) (by omega)
theorem TW.add {N:Nat}{a:Abs}{k:Nat}{r:Replica}(hr:Rep N a k r)(h2:r.Role=2){ts ws:List Int}(h:TW a ts ws):TW a (ts++[r.Term]) (ws++[(k:Int)]):=by
 have hl:=h.len
 refine⟨by simp [hl],fun n t hn=>?_⟩
 rcases Nat.lt_or_ge n ts.length with q | q
 ·rw [List.getElem?_append_left q] at hn
  obtain⟨c,q1,q2⟩:=h.led n t hn
  exact⟨c,by rw [List.getElem?_append_left (by omega)]; exact q1,q2⟩
 ·have hlt:=Aal hn
  simp only [List.length_append,List.length_singleton] at hlt
  have e:n=ts.length:=by omega
  subst e
  rw [List.getElem?_concat_length] at hn
  cases hn
  exact⟨k,by rw [hl,List.getElem?_concat_length],(hr.r2 h2).1⟩
theorem Wt {N:Nat}{a:Abs}{rs:List Replica}{sent:List Message}(h:SInv N a rs sent) : ∀ (n k:Nat) (all:List (List Int)) (ts ws:List Int),k+n=N→Zz N a all→TW a ts ws→ts.length+n≤100000 →
  ∃ all' ts' ws',Zz N a all'∧TW a ts' ws'∧ts <+: ts'∧ts'.length≤ts.length+n∧(∀ (j:Nat) r,k≤j→rs[j]? = some r→r.Role=2→r.Term ∈ ts')∧loop (P0 fun x4 x5 l2 x6 x7=>Dl true x4 x5 l2 x6 x7) (all,(k:Int),rs,ts,ws)=.ok (.inl (all',rs,ts',ws'))
 | 0,k,all,ts,ws,hk,ha,ht,hs=>by
  refine⟨all,ts,ws,ha,ht,List.prefix_refl _,by omega,fun j r hj hr _=>?_,?_⟩
  ·have:=Aal hr
   have:=h.len
   omega
  rw [J2]
  have:(P0 fun x4 x5 l2 x6 x7=>Dl true x4 x5 l2 x6 x7) (all,(k:Int),rs,ts,ws)=.ok (.inr (.inl (all,rs,ts,ws))):=by
   simp only [P0,Dl]
   rw [if_neg (by have:=h.len; omega)]
  rw [this]
  rfl
 | n+1,k,all,ts,ws,hk,ha,ht,hs=>by
  have hN:=h.n
  have hlt:k<rs.length:=by have:=h.len; omega
  have hr:rs[k]? = some rs[k]:=List.getElem?_eq_getElem hlt
  have hrep:=h.reps k _ hr
  generalize hrk:rs[k]=r at hr hrep
  have hw:IntKind.wrap .i64 ((k:Int)+1)=((k+1:Nat):Int):=by rw [Hy (by omega) (by omega)]; omega
  have mine:Zz N a (Qn (comm r)):=⟨_,_,hrep.cp,rfl⟩
  have j3 : ∀ ts ws,Gu all k rs r ts ws=.ok (.inl ((if((Qn (comm r)).length:Int) > (all.length:Int) then Qn (comm r) else all),((k+1:Nat):Int),rs,ts,ws)):=by
   intro ts ws
   unfold Gu
   rw [Aer hrep,R.ok_bind,hw]
   split <;> rfl
  have hall:Zz N a (if((Qn (comm r)).length:Int) > (all.length:Int) then Qn (comm r) else all):=by split <;> assumption
  by_cases h2:r.Role=2
  ·have hst:(P0 fun x4 x5 l2 x6 x7=>Dl true x4 x5 l2 x6 x7) (all,(k:Int),rs,ts,ws)=.ok (.inl ((if((Qn (comm r)).length:Int) > (all.length:Int) then Qn (comm r) else all),((k+1:Nat):Int),rs,ts++[r.Term],ws++[(k:Int)])):=by
    simp only [P0,Dl]
    rw [if_pos (by omega),D0 hr,R.ok_bind,if_pos (by simpa using h2)]
    have:=Aaz hrep h2 ht (by omega) ts.length 0 (by omega)
    rw [show((0:Int),ts,ws)=(((0:Nat):Int),ts,ws) from rfl,this]
    have hl:=ht.len
    simp only [R.ok_bind,Jm,Dx,Ib]
    rw [if_pos (by simp only [List.length_singleton]; unfold B2; omega),if_pos (by simp only [List.length_singleton]; unfold B2; omega),j3]
   obtain⟨all',ts',ws',a1,a2,a3,a4,a5,a6⟩:=Wt h n (k+1) _ _ _ (by omega) hall (ht.add hrep h2) (by simp only [List.length_append,List.length_singleton]; omega)
   refine⟨all',ts',ws',a1,a2,(List.prefix_append _ _).trans a3,by simp only [List.length_append,List.length_singleton] at a4; omega,fun j r' hj hr' h2'=>?_,?_⟩
   ·by_cases e:j=k
    ·subst e
     rw [hr] at hr'
     cases hr'
     exact a3.subset (List.mem_append_right _ (List.mem_singleton.2 rfl))
    ·exact a5 j r' (by omega) hr' h2'
   ·rw [J2,hst,R.ok_bind]
    exact a6
  ·have hst:(P0 fun x4 x5 l2 x6 x7=>Dl true x4 x5 l2 x6 x7) (all,(k:Int),rs,ts,ws)=.ok (.inl ((if((Qn (comm r)).length:Int) > (all.length:Int) then Qn (comm r) else all),((k+1:Nat):Int),rs,ts,ws)):=by
    simp only [P0,Dl]
    rw [if_pos (by omega),D0 hr,R.ok_bind,if_neg (by simpa using h2),j3]
   obtain⟨all',ts',ws',a1,a2,a3,a4,a5,a6⟩:=Wt h n (k+1) _ _ _ (by omega) hall ht (by omega)
   refine⟨all',ts',ws',a1,a2,a3,by omega,fun j r' hj hr' h2'=>?_,?_⟩
   ·by_cases e:j=k
    ·subst e
     rw [hr] at hr'
     cases hr'
     exact absurd h2' h2
    ·exact a5 j r' (by omega) hr' h2'
   ·rw [J2,hst,R.ok_bind]
    exact a6
theorem Aah {rs:List Replica}(hl:rs.length≤5) : ∀ (n k:Nat) (best:Int),k+n=rs.length→(best = -1 ∨ ∃ (j:Nat) (r:Replica),best=j∧rs[j]? = some r∧r.Role=2) →
  ∃ best':Int,(best' = -1 ∨ ∃ (j:Nat) (r:Replica),best'=j∧rs[j]? = some r∧r.Role=2)∧loop (Kz fun x20 x21 l4=>Eg x20 x21 l4) (best,(k:Int),rs)=.ok (best',rs)
 | 0,k,best,hk,hb=>by
  refine⟨best,hb,?_⟩
  rw [J2]
  have:(Kz fun x20 x21 l4=>Eg x20 x21 l4) (best,(k:Int),rs)=.ok (.inr (best,rs)):=by
   simp only [Kz,Eg]
   rw [if_neg (by omega)]
  rw [this]
  rfl
 | n+1,k,best,hk,hb=>by
  have hlt:k<rs.length:=by omega
  have hr:rs[k]? = some rs[k]:=List.getElem?_eq_getElem hlt
  generalize rs[k]=r at hr
  have hw:IntKind.wrap .i64 ((k:Int)+1)=((k+1:Nat):Int):=by rw [Hy (by omega) (by omega)]; omega
  have hst : ∃ best1:Int,(best1 = -1 ∨ ∃ (j:Nat) (r:Replica),best1=j∧rs[j]? = some r∧r.Role=2)∧(Kz fun x20 x21 l4=>Eg x20 x21 l4) (best,(k:Int),rs)=.ok (.inl (best1,((k+1:Nat):Int),rs)):=by
   simp only [Kz,Eg]
   rw [if_pos (by omega),D0 hr,R.ok_bind]
   by_cases h2:r.Role=2
   ·rw [if_pos (by simpa using h2)]
    rcases hb with rfl | ⟨j,r',rfl,hj,hj2⟩
    ·rw [if_pos (by decide)]
     refine⟨k,.inr ⟨k,r,rfl,hr,h2⟩,?_⟩
     unfold E5
     rw [if_pos rfl,hw]
    ·rw [if_neg (by simp),D0 hj,R.ok_bind]
     unfold E5
     rw [hw]
     by_cases hq:r.Term > r'.Term
     ·rw [if_pos (by simpa using hq)]
      exact⟨k,.inr ⟨k,r,rfl,hr,h2⟩,rfl⟩
     ·rw [if_neg (by simpa using hq)]
      exact⟨j,.inr ⟨j,r',rfl,hj,hj2⟩,rfl⟩
   ·rw [if_neg (by simpa using h2)]
    refine⟨best,hb,?_⟩
    unfold E5
    rw [if_neg (by simp),hw]
  obtain⟨b1,q1,q2⟩:=hst
  obtain⟨b2,q3,q4⟩:=Aah hl n (k+1) b1 (by omega) q1
  refine⟨b2,q3,?_⟩
  rw [J2,q2,R.ok_bind]
  exact q4
theorem Xc {rs:List Replica}{ts:List Int}(hl:ts.length≤100000){j:Nat}{r:Replica}(hr:rs[j]? = some r) : ∀ (n k:Nat) (ok:Bool),k+n=ts.length →
  ∃ ok',(ok'=true → ∀ (i:Nat) t,k≤i→ts[i]? = some t→t≤r.Term)∧(ok'=true→ok=true)∧loop (O1 fun x24 x25 l7 x26=>C5 (j:Int) x24 x25 l7 x26) (ok,(k:Int),rs,ts)=.ok (ok',rs,ts)
 | 0,k,ok,hk=>by
  refine⟨ok,fun _ i t hi ht=>?_,fun h=>h,?_⟩
  ·have:=Aal ht
   omega
  rw [J2]
  have:(O1 fun x24 x25 l7 x26=>C5 (j:Int) x24 x25 l7 x26) (ok,(k:Int),rs,ts)=.ok (.inr (ok,rs,ts)):=by
   simp only [O1,C5]
   rw [if_neg (by simp; omega)]
  rw [this]
  rfl
 | n+1,k,ok,hk=>by
  have hlt:k<ts.length:=by omega
  have ht:ts[k]? = some ts[k]:=List.getElem?_eq_getElem hlt
  have hw:IntKind.wrap .i64 ((k:Int)+1)=((k+1:Nat):Int):=by rw [Hy (by omega) (by omega)]; omega
  have hc:((decide ((j:Int)≥0))&&(decide ((k:Int)<(ts.length:Int))))=true:=by simp; omega
  have hst:(O1 fun x24 x25 l7 x26=>C5 (j:Int) x24 x25 l7 x26) (ok,(k:Int),rs,ts)=.ok (.inl ((ok&&decide (ts[k]≤r.Term)),((k+1:Nat):Int),rs,ts)):=by
   simp only [O1,C5]
   rw [if_pos hc,hw]
   cases ok with
   | false=>rfl
   | true=>
    rw [if_pos rfl,D0 ht,R.ok_bind,D0 hr,R.ok_bind]
    rfl
  obtain⟨ok',q1,q2,q3⟩:=Xc hl hr n (k+1) (ok&&decide (ts[k]≤r.Term)) (by omega)
  refine⟨ok',fun h i t hi hit=>?_,fun h=>?_,?_⟩
  ·by_cases e:i=k
   ·subst e
    rw [ht] at hit
    cases hit
    have:=q2 h
    simp only [Bool.and_eq_true,decide_eq_true_eq] at this
    exact this.2
   ·exact q1 h i t (by omega) hit
  ·have:=q2 h
   simp only [Bool.and_eq_true] at this
   exact this.1
  ·rw [J2,hst,R.ok_bind]
   exact q3
theorem Alm {N:Nat}{a:Abs}{rs:List Replica}{sent:List Message}(h:SInv N a rs sent){j:Nat}{r:Replica}(hr:rs[j]? = some r)(h2:r.Role=2){all:List (List Int)}(ha:Zz N a all){ts:List Int}(hcov : ∀ t c,a.led t=some c→t ∈ ts)(hnew : ∀ t ∈ ts,t≤r.Term) :
  all <+: Qn r.Log:=by
 obtain⟨hi,X,hx,rfl⟩:=ha
 have hrep:=h.reps j r hr
 obtain⟨q1,q2,_⟩:=hrep.r2 h2
 refine Al0 ?_
 rw [← q2]
 refine Ang (N:=N) h.inv (t:=r.Term) ?_ q1
 rcases hx with rfl | ⟨t,n,c1,t1,e⟩
 ·exact .inl rfl
 ·obtain⟨c,hc⟩:=Afk h.inv h.n.1 c1
  exact .inr ⟨t,n,c1,hnew t (hcov t c hc),e⟩
theorem lead_steps : ∀ (steps:List T44) (j N:Nat) (a:Abs) (rs:List Replica) (sent:List Message) (all:List (List Int)) (ts ws:List Int),(∀ s ∈ steps,Byt s)→SInv N a rs sent→Zz N a all→TW a ts ws→(∀ t c,a.led t=some c→t ∈ ts)→sent.length+5 * steps.length≤10000→ts.length+5 * steps.length≤10000 →
  ∃ x,each (fun _ a1=>P0 fun x l l1 x2 x3=>Fq true a1 x l l1 x2 x3) j steps (all,rs,sent,ts,ws)=.ok (.inl x)
 | [],j,N,a,rs,sent,all,ts,ws,hb,h,ha,ht,hc,hn,hn2=>⟨_,rfl⟩
 | s::steps,j,N,a,rs,sent,all,ts,ws,hb,h,ha,ht,hc,hn,hn2=>by
  simp only [List.length_cons] at hn hn2
  obtain⟨b,rs',sent',e1,e2,e3,e4,e5,_⟩:=An5 h (hb s (List.mem_cons_self ..)) (by omega)
  have hN:=h.n
  obtain⟨all',ts',ws',a1,a2,a3,a4,a5,a6⟩:=Wt e2 N 0 all ts ws (by omega) (ha.grow h.inv h.n.1 e3) (ht.grow e3) (by omega)
  have hcov : ∀ t c,b.led t=some c→t ∈ ts':=by
   intro t c hl
   rcases e5 t with q | ⟨k,x,q1,q2,q3⟩
   ·rw [q] at hl
    exact a3.subset (hc t c hl)
   ·rw [← q3]
    exact a5 k x (by omega) q1 q2
  obtain⟨x,hx⟩:=lead_steps steps (j+1) N b rs' sent' all' ts' ws' (fun s hs=>hb s (List.mem_cons_of_mem _ hs)) e2 a1 a2 hcov (by omega) (by omega)
  refine⟨x,?_⟩
  have hst:(P0 fun x l l1 x2 x3=>Fq true s x l l1 x2 x3) (all,rs,sent,ts,ws)=.ok (.inl (all',rs',sent',ts',ws')):=by
   simp only [P0,Fq]
   rw [e1,R.ok_bind,if_pos rfl]
   rw [show((all,(0:Int),(true,rs',sent').snd.fst,ts,ws):List (List Int)×Int×List Replica×List Int×List Int)=(all,((0:Nat):Int),rs',ts,ws) from rfl,a6]
   simp only [R.ok_bind,Jm,O1,H8]
   obtain⟨best,b1,b2⟩:=Aah (rs:=rs') (by have:=e2.len; omega) rs'.length 0 (-1) (by omega) (.inl rfl)
   rw [show(((-1:Int),(0:Int),rs'):Int×Int×List Replica)=(-1,((0:Nat):Int),rs') from rfl,b2]
   simp only [R.ok_bind,Dx,Id]
   rcases b1 with rfl | ⟨i,r,rfl,hr,h2⟩
   ·have:loop (O1 fun x24 x25 l7 x26=>C5 (-1) x24 x25 l7 x26) (true,0,rs',ts')=.ok (true,rs',ts'):=by
     rw [J2]
     have:(O1 fun x24 x25 l7 x26=>C5 (-1) x24 x25 l7 x26) (true,0,rs',ts')=.ok (.inr (true,rs',ts')):=by
      simp only [O1,C5]
      rw [if_neg (by simp)]
     rw [this]; rfl
    rw [this]
    simp only [R.ok_bind,Kz,Gr]
    rw [if_pos (by rfl)]
   ·obtain⟨ok',n1,_,n3⟩:=Xc (rs:=rs') (ts:=ts') (by omega) hr ts'.length 0 true (by omega)
    rw [show((true,(0:Int),rs',ts'):Bool×Int×List Replica×List Int)=(true,((0:Nat):Int),rs',ts') from rfl,n3]
    simp only [R.ok_bind,Kz,Gr]
    cases ok' with
    | false=>rw [if_pos (by simp)]
    | true=>
     have hp:all' <+: Qn r.Log:=Alm e2 hr h2 a1 hcov fun t ht=>by
      obtain⟨i,hi⟩:=List.getElem?_of_mem ht
      exact n1 rfl i t (by omega) hi
     have hle:=hp.length_le
     simp only [Qn,List.length_map] at hle
     rw [if_neg (by simp),D0 hr,R.ok_bind,if_neg (by omega),Adk all' 0 fun j' x hx=>?_]
     ·rfl
     ·unfold Ic
      obtain⟨Z,hZ⟩:=hp
      have hjl:=Aal hx
      have hj2:j'<r.Log.length:=by omega
      have hg:r.Log[j']? = some r.Log[j']:=List.getElem?_eq_getElem hj2
      have hd:(Qn r.Log)[j']? = some x:=by rw [← hZ,List.getElem?_append_left hjl,hx]
      unfold Qn at hd
      rw [List.getElem?_map,hg] at hd
      have he:r.Log[j'].Data=x:=Option.some.inj hd
      rw [Nat.zero_add,D0 hg,R.ok_bind,if_pos (by rw [he]; simp)]
  rw [L9,hst]
  exact hx
end Rp
theorem law_ReplicaLeaders:Mc:=by
 intro many steps hm hs hb
 obtain⟨N,hN,e⟩:=Rp.many_of hm
 unfold La
 rw [Acr,R.ok_bind,if_pos rfl]
 by_cases hl:(steps.length:Int) > 60
 ·rw [if_pos hl]
 ·rw [if_neg hl,e,Rp.fresh_eq hN.2,R.ok_bind,if_pos rfl]
  obtain⟨x,hx⟩:=Rp.lead_steps steps 0 N Rp.abs0 _ [] [] [] [] (Rp.byt_of hs) (Rp.sinv0 hN) ⟨0,[],.inl rfl,rfl⟩ ⟨rfl,fun n t h=>by simp at h⟩ (fun t c h=>by cases h) (by simp only [List.length_nil]; omega) (by simp only [List.length_nil]; omega)
  rw [hx]
  rfl
end Go.Am
namespace Go.Proofs
open Go.Shelf
def Try.laysSlM5_f92_ren:Go.Shelf.Ren:=⟨fun | 5=>92 | 8=>97 | 7=>96 | 19=>107 | 20=>108 | 10=>98 | 11=>99 | 12=>100 | 13=>101 | 14=>102 | 15=>103 | 16=>104 | 17=>105 | 18=>106 | 30=>109 | 31=>110 | 32=>111 | 33=>112 | 34=>113 | 35=>114 | 40=>115 | n=>n,fun | 23=>48 | 25=>3 | 3=>3 | 32=>140 | 22=>48 | 0=>0 | 44=>153 | 46=>125 | 4=>4 | 36=>146 | 35=>145 | 41=>120 | 5=>5 | 9=>9 | 53=>154 | 57=>157 | 63=>159 | 64=>160 | n=>n,fun | n=>n⟩
theorem Try.laysSlM5_f92:Go.Proofs.SlLaysM.n5 Try.prog Try.laysSlM5_f92_ren:={
 mixed:=by kernel_rfl
 f5:=⟨Try.f92.name,by decide,Try.func92.trans (congrArg some (by kernel_rfl))⟩
 f7:=⟨Try.f96.name,by decide,Try.func96.trans (congrArg some (by kernel_rfl))⟩
 f8:=Try.func97.trans (congrArg some (by kernel_rfl))
 f10:=⟨Try.f98.name,by decide,Try.func98.trans (congrArg some (by kernel_rfl))⟩
 f11:=⟨Try.f99.name,by decide,Try.func99.trans (congrArg some (by kernel_rfl))⟩
 f12:=⟨Try.f100.name,by decide,Try.func100.trans (congrArg some (by kernel_rfl))⟩
 f13:=⟨Try.f101.name,by decide,Try.func101.trans (congrArg some (by kernel_rfl))⟩
 f14:=⟨Try.f102.name,by decide,Try.func102.trans (congrArg some (by kernel_rfl))⟩
 f15:=⟨Try.f103.name,by decide,Try.func103.trans (congrArg some (by kernel_rfl))⟩
 f16:=⟨Try.f104.name,by decide,Try.func104.trans (congrArg some (by kernel_rfl))⟩
 f17:=⟨Try.f105.name,by decide,Try.func105.trans (congrArg some (by kernel_rfl))⟩
 f18:=⟨Try.f106.name,by decide,Try.func106.trans (congrArg some (by kernel_rfl))⟩
 f19:=Try.func107.trans (congrArg some (by kernel_rfl))
 f20:=Try.func108.trans (congrArg some (by kernel_rfl))
 f30:=⟨Try.f109.name,by decide,Try.func109.trans (congrArg some (by kernel_rfl))⟩
 f31:=Try.func110.trans (congrArg some (by kernel_rfl))
 f32:=Try.func111.trans (congrArg some (by kernel_rfl))
 f33:=⟨Try.f112.name,by decide,Try.func112.trans (congrArg some (by kernel_rfl))⟩
 f34:=⟨Try.f113.name,by decide,Try.func113.trans (congrArg some (by kernel_rfl))⟩
 f35:=⟨Try.f114.name,by decide,Try.func114.trans (congrArg some (by kernel_rfl))⟩
 f40:=⟨Try.f115.name,by decide,Try.func115.trans (congrArg some (by kernel_rfl))⟩
 t0:=Try.underlying0
 a0:=Try.isAgg0
 z0:=Try.sizeOf0
 v0:=Try.zeroValue0
 t3:=Try.underlying3
 a3:=Try.isAgg3
 z3:=Try.sizeOf3
 v3:=Try.zeroValue3
 t4:=Try.underlying4
 a4:=Try.isAgg4
 z4:=Try.sizeOf4
 v4:=Try.zeroValue4
 t5:=Try.underlying5
 a5:=Try.isAgg5
 z5:=Try.sizeOf5
 v5:=Try.zeroValue5
 t9:=Try.underlying9
 a9:=Try.isAgg9
 z9:=Try.sizeOf9
 v9:=Try.zeroValue9
 t22:=Try.underlying48
 a22:=Try.isAgg48
 z22:=Try.sizeOf48
 v22:=Try.zeroValue48
 t23:=Try.underlying48
 a23:=Try.isAgg48
 z23:=Try.sizeOf48
 v23:=Try.zeroValue48
 t25:=Try.underlying3
 a25:=Try.isAgg3
 z25:=Try.sizeOf3
 v25:=Try.zeroValue3
 t32:=Try.underlying140
 a32:=Try.isAgg140
 z32:=Try.sizeOf140
 v32:=Try.zeroValue140
 t35:=Try.underlying145
 a35:=Try.isAgg145
 z35:=Try.sizeOf145
 v35:=Try.zeroValue145
 t36:=Try.underlying146
 a36:=Try.isAgg146
 z36:=Try.sizeOf146
 v36:=Try.zeroValue146
 t41:=Try.underlying120
 a41:=Try.isAgg120
 z41:=Try.sizeOf120
 v41:=Try.zeroValue120
 t44:=Try.underlying153
 a44:=Try.isAgg153
 z44:=Try.sizeOf153
 v44:=Try.zeroValue153
 t46:=Try.underlying125
 a46:=Try.isAgg125
 z46:=Try.sizeOf125
 v46:=Try.zeroValue125
 t53:=Try.underlying154
 a53:=Try.isAgg154
 z53:=Try.sizeOf154
 v53:=Try.zeroValue154
 t57:=Try.underlying157
 a57:=Try.isAgg157
 z57:=Try.sizeOf157
 v57:=Try.zeroValue157
 t63:=Try.underlying159
 a63:=Try.isAgg159
 z63:=Try.sizeOf159
 v63:=Try.zeroValue159
 t64:=Try.underlying160
 a64:=Try.isAgg160
 z64:=Try.sizeOf160
 v64:=Try.zeroValue160 }
open Go.Sort Go.RowKit in
theorem Try.slices_Sort_int (blk off cap : Nat) (zs : List Int) (w : World) (hH : Holds (Value.int .i64) w blk off zs.toArray) (hblk : blk < w.heap.size) (hsz : zs.length < 4611686018427387904) :
  Calls Try.prog 92 #[.slice (some ⟨blk, off, none⟩) zs.length cap] w fun e w' =>
   e = .returned (.tuple #[]) ∧ ∃ n os, w' = grow (putRow (Value.int .i64) (Sort.ahead w n) blk off (zs.mergeSort fun x y => decide (x ≤ y)).toArray) os := AnyM.slices_Sort_int Try.laysSlM5_f92 blk off cap zs w hH hblk hsz
open Go.RowKit Go.Sort in
theorem Try.slices_Sort_int_none (p : Option Addr) (cap : Nat) (w : World) :
  Calls Try.prog 92 #[.slice p 0 cap] w fun e w' => e = .returned (.tuple #[]) ∧ w' = w := AnyM.slices_Sort_int_none Try.laysSlM5_f92 p cap w
end Go.Proofs
namespace Go.Am
open Go Go.Proofs
set_option linter.unusedVariables false
set_option linter.unusedSimpArgs false
instance gwI:GW Try.prog:={ n:=0,G:=fun _ _=>True,keep:=fun _ _ _=>trivial }
theorem C4:Try.prog.follows .mixedOrders=true:=by kernel_rfl
theorem Az:ti Try.prog 3=some ⟨.int .i64,1,8,[.int .i64 0]⟩:=by kernel_rfl
theorem J8:ti Try.prog 4=some ⟨.bool,1,1,[.bool false]⟩:=by kernel_rfl
theorem Gp:ti Try.prog 5=some ⟨.int .u8,1,1,[.int .u8 0]⟩:=by kernel_rfl
theorem Lb:ti Try.prog 9=some ⟨.str,1,16,[.str []]⟩:=by kernel_rfl
theorem Agu:ti Try.prog 20=some ⟨.ifc,1,16,[.nili]⟩:=by kernel_rfl
theorem Bz:ti Try.prog 22=some ⟨.sl 54,1,24,[.emp]⟩:=by kernel_rfl
theorem Br:ti Try.prog 24=some ⟨.st [(0,3),(1,3),(2,3),(3,3),(4,3),(5,3),(6,22),(7,3),(8,3),(9,4)],10,96,[.int .i64 0,.int .i64 0,.int .i64 0,.int .i64 0,.int .i64 0,.int .i64 0,.emp,.int .i64 0,.int .i64 0,.bool false]⟩:=by kernel_rfl
theorem Eo:ti Try.prog 25=some ⟨.sl 5,1,24,[.emp]⟩:=by kernel_rfl
theorem Hk:ti Try.prog 28=some ⟨.int .i64,1,8,[.int .i64 0]⟩:=by kernel_rfl
theorem Ahb:ti Try.prog 35=some ⟨.sl 45,1,24,[.emp]⟩:=by kernel_rfl
theorem Cy:ti Try.prog 36=some ⟨.sl 50,1,24,[.emp]⟩:=by kernel_rfl
theorem Cd:ti Try.prog 37=some ⟨.sl 24,1,24,[.emp]⟩:=by kernel_rfl
theorem Cz:ti Try.prog 39=some ⟨.st [(0,36),(1,37)],2,48,[.emp,.emp]⟩:=by kernel_rfl
theorem Ry:ti Try.prog 42=some ⟨.sl 25,1,24,[.emp]⟩:=by kernel_rfl
theorem Xa:ti Try.prog 45=some ⟨.st [(0,5),(1,5),(2,5)],3,3,[.int .u8 0,.int .u8 0,.int .u8 0]⟩:=by kernel_rfl
theorem Dj:ti Try.prog 47=some ⟨.sl 4,1,24,[.emp]⟩:=by kernel_rfl
theorem B0:ti Try.prog 48=some ⟨.sl 3,1,24,[.emp]⟩:=by kernel_rfl
theorem Av:ti Try.prog 50=some ⟨.st [(0,3),(1,3),(2,3),(3,3),(4,22),(5,3),(6,3),(7,47),(8,48)],9,120,[.int .i64 0,.int .i64 0,.int .i64 0,.int .i64 0,.emp,.int .i64 0,.int .i64 0,.emp,.emp]⟩:=by kernel_rfl
theorem Eu:ti Try.prog 54=some ⟨.st [(0,3),(1,25)],2,32,[.int .i64 0,.emp]⟩:=by kernel_rfl
theorem Df:ti Try.prog 71=some ⟨.sl 73,1,24,[.emp]⟩:=by kernel_rfl
theorem Bw:ti Try.prog 73=some ⟨.st [(0,3),(1,3),(2,9),(3,71)],4,56,[.int .i64 0,.int .i64 0,.str [],.emp]⟩:=by kernel_rfl
theorem Bd:ti Try.prog 88=some ⟨.st [(0,50),(9,37)],10,144,[.int .i64 0,.int .i64 0,.int .i64 0,.int .i64 0,.emp,.int .i64 0,.int .i64 0,.emp,.emp,.emp]⟩:=by kernel_rfl
theorem U3:ti Try.prog 89=some ⟨.fn,1,8,[.nilf]⟩:=by kernel_rfl
theorem Zm:ti Try.prog 90=some ⟨.arr 5 89,5,40,[.nilf,.nilf,.nilf,.nilf,.nilf]⟩:=by kernel_rfl
theorem Am4:ti Try.prog 92=some ⟨.st [(0,90)],5,40,[.nilf,.nilf,.nilf,.nilf,.nilf]⟩:=by kernel_rfl
theorem Jl:ti Try.prog 98=some ⟨.fn,1,8,[.nilf]⟩:=by kernel_rfl
theorem Gv:ti Try.prog 100=some ⟨.st [(0,98)],1,8,[.nilf]⟩:=by kernel_rfl
theorem Acv:ti Try.prog 101=some ⟨.ptr 123,1,8,[.nilp]⟩:=by kernel_rfl
theorem Agr:ti Try.prog 105=some ⟨.st [(0,28)],1,8,[.int .i64 0]⟩:=by kernel_rfl
theorem Ml:ti Try.prog 123=some ⟨.arr 4 100,4,32,[.nilf,.nilf,.nilf,.nilf]⟩:=by kernel_rfl
theorem Lq:ti Try.prog 125=some ⟨.int .u64,1,8,[.int .u64 0]⟩:=by kernel_rfl
theorem Acx:ti Try.prog 139=some ⟨.arr 4 4,4,4,[.bool false,.bool false,.bool false,.bool false]⟩:=by kernel_rfl
theorem Adh:Mm Try.prog [(0,3),(1,3),(2,3),(3,3),(4,3),(5,3),(6,22),(7,3),(8,3),(9,4)]=some [(0,1),(1,1),(2,1),(3,1),(4,1),(5,1),(6,1),(7,1),(8,1),(9,1)]:=by kernel_rfl
theorem Aoo:Mm Try.prog [(0,36),(1,37)]=some [(0,1),(1,1)]:=by kernel_rfl
theorem Aog:Mm Try.prog [(0,3),(1,3),(2,3),(3,3),(4,22),(5,3),(6,3),(7,47),(8,48)]=some [(0,1),(1,1),(2,1),(3,1),(4,1),(5,1),(6,1),(7,1),(8,1)]:=by kernel_rfl
theorem Aem:Mm Try.prog [(0,3),(1,25)]=some [(0,1),(1,1)]:=by kernel_rfl
theorem Zj:Mm Try.prog [(0,3),(1,3),(2,9),(3,71)]=some [(0,1),(1,1),(2,1),(3,1)]:=by kernel_rfl
end Go.Am
