/- Written by shrink.py from texts of ours: comments struck, what is not reached left out, names short. -/
import Derived.Test.YtgigefcfankeeaaU4
import Derived.KernelRfl
import Derived.Shelf.Small.Bits
import Derived.Shelf.Strconv.Itoa0
import Derived.Ground.Names2Prog
import Derived.Shelf.Slices.Clone
import Derived.Shelf.Slices.SearchI
import Derived.Ground.SlgnProg
import Derived.Shelf.SlicesE.Clone
import Derived.Ground.SlgmProg
import Derived.Shelf.SortM.Plain
import Derived.Shelf.SortM.SortNone
import Derived.Test.YtgigefcfankeeaaProg
namespace Go.Am
open Go
set_option linter.unusedVariables false
set_option maxRecDepth 100000
def Hf (s:List Int):R (List Int):=
 (Fa s).bind fun s1=>
 (Lx s1).bind fun _=>
 .ok (Ub s1)
theorem Jz (s:List Int):Le (Hf s) (Dh s):=by
 unfold Hf Dh
 repeat' first | with_reducible exact Le.refl _ | with_reducible exact hW .. | with_reducible apply Cn | with_reducible apply Cf | with_reducible apply C4 | with_reducible apply Cm | with_reducible apply Bz | with_reducible apply B3 | with_reducible apply C0 | with_reducible apply C1 | with_reducible apply C2 | with_reducible apply C3 | with_reducible apply Cz | with_reducible apply Dn | (rw [B2]; with_reducible exact Le.refl _) | intro _
def Ka (s0_ReplicaID:Int)(s0_ReplicaMany:Int)(s0_ReplicaTerm:Int)(s0_ReplicaVote:Int)(s0_ReplicaRole:Int)(s0_ReplicaCommit:Int)(s0_ReplicaVotes:List Bool)(l:List Record)(l1:List Int):R (Int×(List Record)):=
 (D2 l1).bind fun _=>
 (Hf l1).bind fun l2=>
 (Cs l2 (IntKind.wrap .i64 (Int.tdiv (IntKind.wrap .i64 ((l2.length:Int) - 1)) 2))).bind fun a=>
 if(decide (a > s0_ReplicaCommit)) then
((Cs l (IntKind.wrap .i64 (a - 1))).bind fun a1=>
 Ff s0_ReplicaCommit a (a1.Term==s0_ReplicaTerm) l)
else
(Ff s0_ReplicaCommit a false l)
theorem Q3 (s0_ReplicaID:Int)(s0_ReplicaMany:Int)(s0_ReplicaTerm:Int)(s0_ReplicaVote:Int)(s0_ReplicaRole:Int)(s0_ReplicaCommit:Int)(s0_ReplicaVotes:List Bool)(l:List Record)(l1:List Int):Le (Ka s0_ReplicaID s0_ReplicaMany s0_ReplicaTerm s0_ReplicaVote s0_ReplicaRole s0_ReplicaCommit s0_ReplicaVotes l l1) (F7 s0_ReplicaID s0_ReplicaMany s0_ReplicaTerm s0_ReplicaVote s0_ReplicaRole s0_ReplicaCommit s0_ReplicaVotes l l1):=by
 unfold Ka F7
 repeat' first | with_reducible exact Le.refl _ | with_reducible exact hW .. | with_reducible exact Jz .. | with_reducible apply Cn | with_reducible apply Cf | with_reducible apply C4 | with_reducible apply Cm | with_reducible apply Bz | with_reducible apply B3 | with_reducible apply C0 | with_reducible apply C1 | with_reducible apply C2 | with_reducible apply C3 | with_reducible apply Cz | with_reducible apply Dn | (rw [B2]; with_reducible exact Le.refl _) | intro _
def Mm (m:Message)(s_Replica:Replica):R (List Message):=
 (Rx 64 (Fw fun x l=>Hp m s_Replica x l) (0,[])).bind (fun l1=>Hu l1)
theorem Ti (m:Message)(s_Replica:Replica):Le (Mm m s_Replica) (Hj m s_Replica):=by
 unfold Mm Hj
 repeat' first | with_reducible exact Le.refl _ | with_reducible exact hW .. | with_reducible apply Cn | with_reducible apply Cf | with_reducible apply C4 | with_reducible apply Cm | with_reducible apply Bz | with_reducible apply B3 | with_reducible apply C0 | with_reducible apply C1 | with_reducible apply C2 | with_reducible apply C3 | with_reducible apply Cz | with_reducible apply Dn | (rw [B2]; with_reducible exact Le.refl _) | intro _
def Lv (s0_ReplicaID:Int)(s0_ReplicaMany:Int)(s0_ReplicaTerm:Int)(s0_ReplicaVote:Int)(s0_ReplicaRole:Int)(s0_ReplicaCommit:Int)(s0_ReplicaVotes:List Bool)(s0_ReplicaMatch:List Int)(l:List Record):R (List Message):=
 (Mm ({ Kind:=3,From:=0,To:=0,Term:=0,Last:=0,LastTerm:=0,Log:=l,Commit:=s0_ReplicaCommit,Match:=0,Granted:=false }:Message) ({ ID:=s0_ReplicaID,Many:=s0_ReplicaMany,Term:=s0_ReplicaTerm,Vote:=s0_ReplicaVote,Log:=l,Role:=s0_ReplicaRole,Commit:=s0_ReplicaCommit,Votes:=s0_ReplicaVotes,Match:=s0_ReplicaMatch }:Replica)).bind fun r=>
 .ok r
theorem Sx (s0_ReplicaID:Int)(s0_ReplicaMany:Int)(s0_ReplicaTerm:Int)(s0_ReplicaVote:Int)(s0_ReplicaRole:Int)(s0_ReplicaCommit:Int)(s0_ReplicaVotes:List Bool)(s0_ReplicaMatch:List Int)(l:List Record):Le (Lv s0_ReplicaID s0_ReplicaMany s0_ReplicaTerm s0_ReplicaVote s0_ReplicaRole s0_ReplicaCommit s0_ReplicaVotes s0_ReplicaMatch l) (G4 s0_ReplicaID s0_ReplicaMany s0_ReplicaTerm s0_ReplicaVote s0_ReplicaRole s0_ReplicaCommit s0_ReplicaVotes s0_ReplicaMatch l):=by
 unfold Lv G4
 repeat' first | with_reducible exact Le.refl _ | with_reducible exact hW .. | with_reducible exact Ti .. | with_reducible apply Cn | with_reducible apply Cf | with_reducible apply C4 | with_reducible apply Cm | with_reducible apply Bz | with_reducible apply B3 | with_reducible apply C0 | with_reducible apply C1 | with_reducible apply C2 | with_reducible apply C3 | with_reducible apply Cz | with_reducible apply Dn | (rw [B2]; with_reducible exact Le.refl _) | intro _
def Na (r:Replica)(l:List Record):R (Replica×(List Message)×Int):=
 (Hy r.Match).bind fun r3=>
 (Cs r3 r.ID).bind fun a=>
 (Ka r.ID r.Many r.Term r.Vote r.Role r.Commit r.Votes l (r3.set r.ID.toNat (l.length:Int))).bind fun r4=>
 (Lv r.ID r.Many r.Term r.Vote r.Role r4.1 r.Votes (r3.set r.ID.toNat (l.length:Int)) r4.2).bind fun r5=>
 .ok (({ ID:=r.ID,Many:=r.Many,Term:=r.Term,Vote:=r.Vote,Log:=r4.2,Role:=r.Role,Commit:=r4.1,Votes:=r.Votes,Match:=(r3.set r.ID.toNat (l.length:Int)) }:Replica),r5,0)
theorem Uf (r:Replica)(l:List Record):Le (Na r l) (Ji r l):=by
 unfold Na Ji
 repeat' first | with_reducible exact Le.refl _ | with_reducible exact hW .. | with_reducible exact Q3 .. | with_reducible exact Sx .. | with_reducible apply Cn | with_reducible apply Cf | with_reducible apply C4 | with_reducible apply Cm | with_reducible apply Bz | with_reducible apply B3 | with_reducible apply C0 | with_reducible apply C1 | with_reducible apply C2 | with_reducible apply C3 | with_reducible apply Cz | with_reducible apply Dn | (rw [B2]; with_reducible exact Le.refl _) | intro _
def Mg (r:Replica)(data:List Int):R (Replica×(List Message)×Int):=
 (Dl r).bind fun e=>
 if(e != 0) then
(.ok (({ ID:=0,Many:=0,Term:=0,Vote:=0,Log:=[],Role:=0,Commit:=0,Votes:=[],Match:=[] }:Replica),[],e))
else
(if(r.Role != 2) then
(.ok (({ ID:=0,Many:=0,Term:=0,Vote:=0,Log:=[],Role:=0,Commit:=0,Votes:=[],Match:=[] }:Replica),[],470))
else
(if(r.Log.length:Int)≥4096 then
(.ok (({ ID:=0,Many:=0,Term:=0,Vote:=0,Log:=[],Role:=0,Commit:=0,Votes:=[],Match:=[] }:Replica),[],2))
else
((Ds r).bind fun _=>
 (Kp r.Log).bind fun r1=>
 if(r1.length+[({ Term:=r.Term,Data:=data }:Record)].length) * 32≤Cc then
 Na r (r1++[({ Term:=r.Term,Data:=data }:Record)]) else .bad)))
theorem Vq (r:Replica)(data:List Int):Le (Mg r data) (Jm r data):=by
 unfold Mg Jm
 repeat' first | with_reducible exact Le.refl _ | with_reducible exact hW .. | with_reducible exact Uf .. | with_reducible apply Cn | with_reducible apply Cf | with_reducible apply C4 | with_reducible apply Cm | with_reducible apply Bz | with_reducible apply B3 | with_reducible apply C0 | with_reducible apply C1 | with_reducible apply C2 | with_reducible apply C3 | with_reducible apply Cz | with_reducible apply Dn | (rw [B2]; with_reducible exact Le.refl _) | intro _
def Io (s0_ReplicaID:Int)(s0_ReplicaMany:Int)(s0_ReplicaTerm:Int)(s0_ReplicaVote:Int)(s0_ReplicaLog:List Record)(s0_ReplicaRole:Int)(s0_ReplicaCommit:Int)(l:List Bool)(l1:List Int):R Int:=
 (D2 l1).bind fun _=>
 (Hf l1).bind fun l2=>
 (Cs l2 (IntKind.wrap .i64 (Int.tdiv (IntKind.wrap .i64 ((l2.length:Int) - 1)) 2))).bind fun a=>
 if(decide (a > s0_ReplicaCommit)) then
((Cs s0_ReplicaLog (IntKind.wrap .i64 (a - 1))).bind fun a1=>
 Dw s0_ReplicaCommit a (a1.Term==s0_ReplicaTerm))
else
(Dw s0_ReplicaCommit a false)
theorem Mv (s0_ReplicaID:Int)(s0_ReplicaMany:Int)(s0_ReplicaTerm:Int)(s0_ReplicaVote:Int)(s0_ReplicaLog:List Record)(s0_ReplicaRole:Int)(s0_ReplicaCommit:Int)(l:List Bool)(l1:List Int):Le (Io s0_ReplicaID s0_ReplicaMany s0_ReplicaTerm s0_ReplicaVote s0_ReplicaLog s0_ReplicaRole s0_ReplicaCommit l l1) (Dy s0_ReplicaID s0_ReplicaMany s0_ReplicaTerm s0_ReplicaVote s0_ReplicaLog s0_ReplicaRole s0_ReplicaCommit l l1):=by
 unfold Io Dy
 repeat' first | with_reducible exact Le.refl _ | with_reducible exact hW .. | with_reducible exact Jz .. | with_reducible apply Cn | with_reducible apply Cf | with_reducible apply C4 | with_reducible apply Cm | with_reducible apply Bz | with_reducible apply B3 | with_reducible apply C0 | with_reducible apply C1 | with_reducible apply C2 | with_reducible apply C3 | with_reducible apply Cz | with_reducible apply Dn | (rw [B2]; with_reducible exact Le.refl _) | intro _
def Mi (m:Message)(s_ReplicaID:Int)(s_ReplicaMany:Int)(s_ReplicaTerm:Int)(s_ReplicaVote:Int)(s_ReplicaLog:List Record)(s_ReplicaRole:Int)(s_ReplicaCommit:Int)(s_ReplicaMatch:List Int):R (List Message):=
 (Rx 64 (Fw fun x l=>Gh m s_ReplicaID s_ReplicaMany s_ReplicaTerm s_ReplicaVote s_ReplicaLog s_ReplicaRole s_ReplicaCommit s_ReplicaMatch x l) (0,[])).bind (fun l1=>Hs l1)
theorem Tn (m:Message)(s_ReplicaID:Int)(s_ReplicaMany:Int)(s_ReplicaTerm:Int)(s_ReplicaVote:Int)(s_ReplicaLog:List Record)(s_ReplicaRole:Int)(s_ReplicaCommit:Int)(s_ReplicaMatch:List Int):Le (Mi m s_ReplicaID s_ReplicaMany s_ReplicaTerm s_ReplicaVote s_ReplicaLog s_ReplicaRole s_ReplicaCommit s_ReplicaMatch) (Ey m s_ReplicaID s_ReplicaMany s_ReplicaTerm s_ReplicaVote s_ReplicaLog s_ReplicaRole s_ReplicaCommit s_ReplicaMatch):=by
 unfold Mi Ey
 repeat' first | with_reducible exact Le.refl _ | with_reducible exact hW .. | with_reducible apply Cn | with_reducible apply Cf | with_reducible apply C4 | with_reducible apply Cm | with_reducible apply Bz | with_reducible apply B3 | with_reducible apply C0 | with_reducible apply C1 | with_reducible apply C2 | with_reducible apply C3 | with_reducible apply Cz | with_reducible apply Dn | (rw [B2]; with_reducible exact Le.refl _) | intro _
def Jo (s_ReplicaID:Int)(s_ReplicaMany:Int)(s_ReplicaTerm:Int)(s_ReplicaVote:Int)(s_ReplicaLog:List Record)(s_ReplicaRole:Int)(s_ReplicaCommit:Int)(s_ReplicaMatch:List Int):R (List Message):=
 (Mi ({ Kind:=3,From:=0,To:=0,Term:=0,Last:=0,LastTerm:=0,Log:=s_ReplicaLog,Commit:=s_ReplicaCommit,Match:=0,Granted:=false }:Message) s_ReplicaID s_ReplicaMany s_ReplicaTerm s_ReplicaVote s_ReplicaLog s_ReplicaRole s_ReplicaCommit s_ReplicaMatch).bind fun r=>
 .ok r
theorem N7 (s_ReplicaID:Int)(s_ReplicaMany:Int)(s_ReplicaTerm:Int)(s_ReplicaVote:Int)(s_ReplicaLog:List Record)(s_ReplicaRole:Int)(s_ReplicaCommit:Int)(s_ReplicaMatch:List Int):Le (Jo s_ReplicaID s_ReplicaMany s_ReplicaTerm s_ReplicaVote s_ReplicaLog s_ReplicaRole s_ReplicaCommit s_ReplicaMatch) (Fi s_ReplicaID s_ReplicaMany s_ReplicaTerm s_ReplicaVote s_ReplicaLog s_ReplicaRole s_ReplicaCommit s_ReplicaMatch):=by
 unfold Jo Fi
 repeat' first | with_reducible exact Le.refl _ | with_reducible exact hW .. | with_reducible exact Tn .. | with_reducible apply Cn | with_reducible apply Cf | with_reducible apply C4 | with_reducible apply Cm | with_reducible apply Bz | with_reducible apply B3 | with_reducible apply C0 | with_reducible apply C1 | with_reducible apply C2 | with_reducible apply C3 | with_reducible apply Cz | with_reducible apply Dn | (rw [B2]; with_reducible exact Le.refl _) | intro _
def Kl (s0_ReplicaID:Int)(s0_ReplicaMany:Int)(s0_ReplicaTerm:Int)(s0_ReplicaVote:Int)(s0_ReplicaLog:List Record)(s0_ReplicaCommit:Int)(l:List Bool)(l1:List Int):R (Int×(List Int)×(List Message)):=
 (Cs l1 s0_ReplicaID).bind fun a=>
 (Io s0_ReplicaID s0_ReplicaMany s0_ReplicaTerm s0_ReplicaVote s0_ReplicaLog 2 s0_ReplicaCommit l (l1.set s0_ReplicaID.toNat (s0_ReplicaLog.length:Int))).bind fun r=>
 (Jo s0_ReplicaID s0_ReplicaMany s0_ReplicaTerm s0_ReplicaVote s0_ReplicaLog 2 r (l1.set s0_ReplicaID.toNat (s0_ReplicaLog.length:Int))).bind fun r1=>
 .ok (r,(l1.set s0_ReplicaID.toNat (s0_ReplicaLog.length:Int)),r1)
theorem Q4 (s0_ReplicaID:Int)(s0_ReplicaMany:Int)(s0_ReplicaTerm:Int)(s0_ReplicaVote:Int)(s0_ReplicaLog:List Record)(s0_ReplicaCommit:Int)(l:List Bool)(l1:List Int):Le (Kl s0_ReplicaID s0_ReplicaMany s0_ReplicaTerm s0_ReplicaVote s0_ReplicaLog s0_ReplicaCommit l l1) (F3 s0_ReplicaID s0_ReplicaMany s0_ReplicaTerm s0_ReplicaVote s0_ReplicaLog s0_ReplicaCommit l l1):=by
 unfold Kl F3
 repeat' first | with_reducible exact Le.refl _ | with_reducible exact hW .. | with_reducible exact N7 .. | with_reducible exact Mv .. | with_reducible apply Cn | with_reducible apply Cf | with_reducible apply C4 | with_reducible apply Cm | with_reducible apply Bz | with_reducible apply B3 | with_reducible apply C0 | with_reducible apply C1 | with_reducible apply C2 | with_reducible apply C3 | with_reducible apply Cz | with_reducible apply Dn | (rw [B2]; with_reducible exact Le.refl _) | intro _
def L6 (s0_ReplicaID:Int)(s0_ReplicaMany:Int)(s0_ReplicaTerm:Int)(s0_ReplicaVote:Int)(s0_ReplicaLog:List Record)(s0_ReplicaRole:Int)(s0_ReplicaCommit:Int)(s0_ReplicaMatch:List Int)(l:List Bool):R (Int×(List Int)×(List Message)):=
 if(0:Int)≤s0_ReplicaMany∧(s0_ReplicaMany:Int)≤s0_ReplicaMany∧(Int.toNat s0_ReplicaMany) * 8≤Cc then
 Kl s0_ReplicaID s0_ReplicaMany s0_ReplicaTerm s0_ReplicaVote s0_ReplicaLog s0_ReplicaCommit l (List.replicate (Int.toNat s0_ReplicaMany) 0) else .bad
theorem Sq (s0_ReplicaID:Int)(s0_ReplicaMany:Int)(s0_ReplicaTerm:Int)(s0_ReplicaVote:Int)(s0_ReplicaLog:List Record)(s0_ReplicaRole:Int)(s0_ReplicaCommit:Int)(s0_ReplicaMatch:List Int)(l:List Bool):Le (L6 s0_ReplicaID s0_ReplicaMany s0_ReplicaTerm s0_ReplicaVote s0_ReplicaLog s0_ReplicaRole s0_ReplicaCommit s0_ReplicaMatch l) (Dr s0_ReplicaID s0_ReplicaMany s0_ReplicaTerm s0_ReplicaVote s0_ReplicaLog s0_ReplicaRole s0_ReplicaCommit s0_ReplicaMatch l):=by
 unfold L6 Dr
 repeat' first | with_reducible exact Le.refl _ | with_reducible exact hW .. | with_reducible exact Q4 .. | with_reducible apply Cn | with_reducible apply Cf | with_reducible apply C4 | with_reducible apply Cm | with_reducible apply Bz | with_reducible apply B3 | with_reducible apply C0 | with_reducible apply C1 | with_reducible apply C2 | with_reducible apply C3 | with_reducible apply Cz | with_reducible apply Dn | (rw [B2]; with_reducible exact Le.refl _) | intro _
def G2 (m:Message)(s_Replica:Replica)(x:Bool):R (Int×Int×(List Bool)×(List Int)×(List Message)):=
 if x then
(.ok (s_Replica.Role,s_Replica.Commit,s_Replica.Votes,s_Replica.Match,[]))
else
((Jv s_Replica.Votes).bind fun r=>
 (Cs r m.From).bind fun a=>
 (E7 (fun j _=>Fw fun n x2=>Ej j n x2) 0 (r.set m.From.toNat true) (0,(r.set m.From.toNat true))).bind ((Fw fun n x2=>if(IntKind.wrap .i64 (2 * n)) > s_Replica.Many then
((L6 s_Replica.ID s_Replica.Many s_Replica.Term s_Replica.Vote s_Replica.Log s_Replica.Role s_Replica.Commit s_Replica.Match x2).bind fun r1=>
 .ok (2,r1.1,x2,r1.2.1,r1.2.2))
else
(.ok (s_Replica.Role,s_Replica.Commit,x2,s_Replica.Match,[])))))
theorem Re (m:Message)(s_Replica:Replica)(x:Bool):Le (G2 m s_Replica x) (Dc m s_Replica x):=by
 unfold G2 Dc
 repeat' first | with_reducible exact Le.refl _ | with_reducible exact hW .. | with_reducible exact Sq .. | with_reducible apply Cn | with_reducible apply Cf | with_reducible apply C4 | with_reducible apply Cm | with_reducible apply Bz | with_reducible apply B3 | with_reducible apply C0 | with_reducible apply C1 | with_reducible apply C2 | with_reducible apply C3 | with_reducible apply Cz | with_reducible apply Dn | (rw [B2]; with_reducible exact Le.refl _) | intro _
def L0 (m:Message)(s_Replica:Replica):R (Int×Int×(List Bool)×(List Int)×(List Message)):=
 if(s_Replica.Role != 1) then
(G2 m s_Replica true)
else
(if(m.Term != s_Replica.Term) then
(G2 m s_Replica true)
else
(G2 m s_Replica (!m.Granted)))
theorem Sp (m:Message)(s_Replica:Replica):Le (L0 m s_Replica) (D8 m s_Replica):=by
 unfold L0 D8
 repeat' first | with_reducible exact Le.refl _ | with_reducible exact hW .. | with_reducible exact Re .. | with_reducible apply Cn | with_reducible apply Cf | with_reducible apply C4 | with_reducible apply Cm | with_reducible apply Bz | with_reducible apply B3 | with_reducible apply C0 | with_reducible apply C1 | with_reducible apply C2 | with_reducible apply C3 | with_reducible apply Cz | with_reducible apply Dn | (rw [B2]; with_reducible exact Le.refl _) | intro _
def Oc {σ_ ε_:Type}(b:List Record)(c:List Record)(b_:Record→Record→σ_→R (σ_ ⊕ ε_))(s_:σ_):R (σ_ ⊕ ε_):=
 (Rx 64 (Fw fun x s=>Ew b c b_ x s) (0,s_)).bind (Ls (fun s2=>Hk s2) (fun r=>.ok r))
theorem Vf {σ_ ε_:Type}(b:List Record)(c:List Record)(b_:Record→Record→σ_→R (σ_ ⊕ ε_))(s_:σ_):Le (Oc b c b_ s_) (Hz b c b_ s_):=by
 unfold Oc Hz
 repeat' first | with_reducible exact Le.refl _ | with_reducible exact hW .. | with_reducible apply Cn | with_reducible apply Cf | with_reducible apply C4 | with_reducible apply Cm | with_reducible apply Bz | with_reducible apply B3 | with_reducible apply C0 | with_reducible apply C1 | with_reducible apply C2 | with_reducible apply C3 | with_reducible apply Cz | with_reducible apply Dn | (rw [B2]; with_reducible exact Le.refl _) | intro _
def Nk (a:List Record)(b:List Record):R Bool:=
 (Jl a b).bind fun _=>
 (Oc a b (fun a1 a2 z_=>R.np ((fun _=>Gk a1 a2) z_)) ()).bind (Ls (fun _=>.ok (decide ((a.length:Int)≤(b.length:Int)))) (fun _=>.ok false))
theorem W2 (a:List Record)(b:List Record):Le (Nk a b) (H1 a b):=by
 unfold Nk H1
 repeat' first | with_reducible exact Le.refl _ | with_reducible exact hW .. | with_reducible exact Vf .. | with_reducible apply Cn | with_reducible apply Cf | with_reducible apply C4 | with_reducible apply Cm | with_reducible apply Bz | with_reducible apply B3 | with_reducible apply C0 | with_reducible apply C1 | with_reducible apply C2 | with_reducible apply C3 | with_reducible apply Cz | with_reducible apply Dn | (rw [B2]; with_reducible exact Le.refl _) | intro _
def Kw (m:Message)(s_Replica:Replica):R ((List Record)×Int×Int×(List Bool)×(List Int)×(List Message)):=
 if m.Term<s_Replica.Term then
((Em m.From 4 0 0 0 0 0 0 0 false s_Replica).bind fun r=>
 .ok (s_Replica.Log,s_Replica.Role,s_Replica.Commit,s_Replica.Votes,s_Replica.Match,r))
else
(if(s_Replica.Role==2) then
(.ok (s_Replica.Log,s_Replica.Role,s_Replica.Commit,s_Replica.Votes,s_Replica.Match,[]))
else
((Cb s_Replica).bind fun r1=>
 (Nk m.Log s_Replica.Log).bind fun r2=>
 if r2 then
(D3 m s_Replica r1 s_Replica.Log)
else
(if(0:Int)≤s_Replica.Commit∧s_Replica.Commit≤(s_Replica.Log.length:Int) then
 (Nk (s_Replica.Log.take (Int.toNat s_Replica.Commit)) m.Log).bind fun r3=>
 (Ba r3 470).bind fun _=>
 D3 m s_Replica r1 m.Log else .bad)))
theorem Rq (m:Message)(s_Replica:Replica):Le (Kw m s_Replica) (Es m s_Replica):=by
 unfold Kw Es
 repeat' first | with_reducible exact Le.refl _ | with_reducible exact hW .. | with_reducible exact W2 .. | with_reducible apply Cn | with_reducible apply Cf | with_reducible apply C4 | with_reducible apply Cm | with_reducible apply Bz | with_reducible apply B3 | with_reducible apply C0 | with_reducible apply C1 | with_reducible apply C2 | with_reducible apply C3 | with_reducible apply Cz | with_reducible apply Dn | (rw [B2]; with_reducible exact Le.refl _) | intro _
def Kb (s0_ReplicaID:Int)(s0_ReplicaMany:Int)(s0_ReplicaTerm:Int)(s0_ReplicaVote:Int)(s0_ReplicaLog:List Record)(s0_ReplicaRole:Int)(s0_ReplicaCommit:Int)(s0_ReplicaVotes:List Bool)(l:List Int):R Replica:=
 (D2 l).bind fun _=>
 (Hf l).bind fun l1=>
 (Cs l1 (IntKind.wrap .i64 (Int.tdiv (IntKind.wrap .i64 ((l1.length:Int) - 1)) 2))).bind fun a=>
 if(decide (a > s0_ReplicaCommit)) then
((Cs s0_ReplicaLog (IntKind.wrap .i64 (a - 1))).bind fun a1=>
 Dv s0_ReplicaID s0_ReplicaMany s0_ReplicaTerm s0_ReplicaVote s0_ReplicaLog s0_ReplicaRole s0_ReplicaCommit s0_ReplicaVotes l a (a1.Term==s0_ReplicaTerm))
else
(Dv s0_ReplicaID s0_ReplicaMany s0_ReplicaTerm s0_ReplicaVote s0_ReplicaLog s0_ReplicaRole s0_ReplicaCommit s0_ReplicaVotes l a false)
theorem Q2 (s0_ReplicaID:Int)(s0_ReplicaMany:Int)(s0_ReplicaTerm:Int)(s0_ReplicaVote:Int)(s0_ReplicaLog:List Record)(s0_ReplicaRole:Int)(s0_ReplicaCommit:Int)(s0_ReplicaVotes:List Bool)(l:List Int):Le (Kb s0_ReplicaID s0_ReplicaMany s0_ReplicaTerm s0_ReplicaVote s0_ReplicaLog s0_ReplicaRole s0_ReplicaCommit s0_ReplicaVotes l) (E9 s0_ReplicaID s0_ReplicaMany s0_ReplicaTerm s0_ReplicaVote s0_ReplicaLog s0_ReplicaRole s0_ReplicaCommit s0_ReplicaVotes l):=by
 unfold Kb E9
 repeat' first | with_reducible exact Le.refl _ | with_reducible exact hW .. | with_reducible exact Jz .. | with_reducible apply Cn | with_reducible apply Cf | with_reducible apply C4 | with_reducible apply Cm | with_reducible apply Bz | with_reducible apply B3 | with_reducible apply C0 | with_reducible apply C1 | with_reducible apply C2 | with_reducible apply C3 | with_reducible apply Cz | with_reducible apply Dn | (rw [B2]; with_reducible exact Le.refl _) | intro _
def He (m:Message)(s_Replica:Replica)(x:Bool):R Replica:=
 if x then
(.ok s_Replica)
else
((Ba (decide (m.Match≤(s_Replica.Log.length:Int))) 470).bind fun _=>
 (Hy s_Replica.Match).bind fun r1=>
 (Cs r1 m.From).bind fun a=>
 (Kb s_Replica.ID s_Replica.Many s_Replica.Term s_Replica.Vote s_Replica.Log s_Replica.Role s_Replica.Commit s_Replica.Votes (r1.set m.From.toNat (if m.Match > a then m.Match else a))).bind fun r2=>
 .ok r2)
theorem Rz (m:Message)(s_Replica:Replica)(x:Bool):Le (He m s_Replica x) (Dp m s_Replica x):=by
 unfold He Dp
 repeat' first | with_reducible exact Le.refl _ | with_reducible exact hW .. | with_reducible exact Q2 .. | with_reducible apply Cn | with_reducible apply Cf | with_reducible apply C4 | with_reducible apply Cm | with_reducible apply Bz | with_reducible apply B3 | with_reducible apply C0 | with_reducible apply C1 | with_reducible apply C2 | with_reducible apply C3 | with_reducible apply Cz | with_reducible apply Dn | (rw [B2]; with_reducible exact Le.refl _) | intro _
def Mf (m:Message)(s_Replica:Replica):R Replica:=
 if(s_Replica.Role != 2) then
(He m s_Replica true)
else
(if(m.Term != s_Replica.Term) then
(He m s_Replica true)
else
(He m s_Replica (!m.Granted)))
theorem Te (m:Message)(s_Replica:Replica):Le (Mf m s_Replica) (Ee m s_Replica):=by
 unfold Mf Ee
 repeat' first | with_reducible exact Le.refl _ | with_reducible exact hW .. | with_reducible exact Rz .. | with_reducible apply Cn | with_reducible apply Cf | with_reducible apply C4 | with_reducible apply Cm | with_reducible apply Bz | with_reducible apply B3 | with_reducible apply C0 | with_reducible apply C1 | with_reducible apply C2 | with_reducible apply C3 | with_reducible apply Cz | with_reducible apply Dn | (rw [B2]; with_reducible exact Le.refl _) | intro _
def Kn (m:Message)(vID1:Int)(vMany1:Int)(vTerm1:Int)(vVote1:Int)(vLog1:List Record)(vRole1:Int)(vCommit1:Int)(vVotes1:List Bool)(vMatch1:List Int):R (Replica×(List Message)×Int):=
 if m.Kind=0 then
(.bad)
else
(if m.Kind=1 then
((Gs m ({ ID:=vID1,Many:=vMany1,Term:=vTerm1,Vote:=vVote1,Log:=vLog1,Role:=vRole1,Commit:=vCommit1,Votes:=vVotes1,Match:=vMatch1 }:Replica)).bind fun r10=>
 .ok (r10.1,r10.2,0))
else
(if m.Kind=2 then
((L0 m ({ ID:=vID1,Many:=vMany1,Term:=vTerm1,Vote:=vVote1,Log:=vLog1,Role:=vRole1,Commit:=vCommit1,Votes:=vVotes1,Match:=vMatch1 }:Replica)).bind fun r11=>
 .ok (({ ID:=(({ ID:=vID1,Many:=vMany1,Term:=vTerm1,Vote:=vVote1,Log:=vLog1,Role:=vRole1,Commit:=vCommit1,Votes:=vVotes1,Match:=vMatch1 }:Replica).ID),Many:=(({ ID:=vID1,Many:=vMany1,Term:=vTerm1,Vote:=vVote1,Log:=vLog1,Role:=vRole1,Commit:=vCommit1,Votes:=vVotes1,Match:=vMatch1 }:Replica).Many),Term:=(({ ID:=vID1,Many:=vMany1,Term:=vTerm1,Vote:=vVote1,Log:=vLog1,Role:=vRole1,Commit:=vCommit1,Votes:=vVotes1,Match:=vMatch1 }:Replica).Term),Vote:=(({ ID:=vID1,Many:=vMany1,Term:=vTerm1,Vote:=vVote1,Log:=vLog1,Role:=vRole1,Commit:=vCommit1,Votes:=vVotes1,Match:=vMatch1 }:Replica).Vote),Log:=(({ ID:=vID1,Many:=vMany1,Term:=vTerm1,Vote:=vVote1,Log:=vLog1,Role:=vRole1,Commit:=vCommit1,Votes:=vVotes1,Match:=vMatch1 }:Replica).Log),Role:=r11.1,Commit:=r11.2.1,Votes:=r11.2.2.1,Match:=r11.2.2.2.1 }:Replica),r11.2.2.2.2,0))
else
(if m.Kind=3 then
((Kw m ({ ID:=vID1,Many:=vMany1,Term:=vTerm1,Vote:=vVote1,Log:=vLog1,Role:=vRole1,Commit:=vCommit1,Votes:=vVotes1,Match:=vMatch1 }:Replica)).bind fun r12=>
 .ok (({ ID:=(({ ID:=vID1,Many:=vMany1,Term:=vTerm1,Vote:=vVote1,Log:=vLog1,Role:=vRole1,Commit:=vCommit1,Votes:=vVotes1,Match:=vMatch1 }:Replica).ID),Many:=(({ ID:=vID1,Many:=vMany1,Term:=vTerm1,Vote:=vVote1,Log:=vLog1,Role:=vRole1,Commit:=vCommit1,Votes:=vVotes1,Match:=vMatch1 }:Replica).Many),Term:=(({ ID:=vID1,Many:=vMany1,Term:=vTerm1,Vote:=vVote1,Log:=vLog1,Role:=vRole1,Commit:=vCommit1,Votes:=vVotes1,Match:=vMatch1 }:Replica).Term),Vote:=(({ ID:=vID1,Many:=vMany1,Term:=vTerm1,Vote:=vVote1,Log:=vLog1,Role:=vRole1,Commit:=vCommit1,Votes:=vVotes1,Match:=vMatch1 }:Replica).Vote),Log:=r12.1,Role:=r12.2.1,Commit:=r12.2.2.1,Votes:=r12.2.2.2.1,Match:=r12.2.2.2.2.1 }:Replica),r12.2.2.2.2.2,0))
else
(if m.Kind=4 then
((Mf m ({ ID:=vID1,Many:=vMany1,Term:=vTerm1,Vote:=vVote1,Log:=vLog1,Role:=vRole1,Commit:=vCommit1,Votes:=vVotes1,Match:=vMatch1 }:Replica)).bind fun r13=>
 .ok (r13,[],0))
else
(.bad)))))
theorem Ua (m:Message)(vID1:Int)(vMany1:Int)(vTerm1:Int)(vVote1:Int)(vLog1:List Record)(vRole1:Int)(vCommit1:Int)(vVotes1:List Bool)(vMatch1:List Int):Le (Kn m vID1 vMany1 vTerm1 vVote1 vLog1 vRole1 vCommit1 vVotes1 vMatch1) (Cx m vID1 vMany1 vTerm1 vVote1 vLog1 vRole1 vCommit1 vVotes1 vMatch1):=by
 unfold Kn Cx
 repeat' first | with_reducible exact Le.refl _ | with_reducible exact hW .. | with_reducible exact Te .. | with_reducible exact Rq .. | with_reducible exact Sp .. | with_reducible apply Cn | with_reducible apply Cf | with_reducible apply C4 | with_reducible apply Cm | with_reducible apply Bz | with_reducible apply B3 | with_reducible apply C0 | with_reducible apply C1 | with_reducible apply C2 | with_reducible apply C3 | with_reducible apply Cz | with_reducible apply Dn | (rw [B2]; with_reducible exact Le.refl _) | intro _
def Nu (r:Replica)(m:Message):R (Replica×(List Message)×Int):=
 (Dl r).bind fun r1=>
 if(r1 != 0) then
(.ok (({ ID:=0,Many:=0,Term:=0,Vote:=0,Log:=[],Role:=0,Commit:=0,Votes:=[],Match:=[] }:Replica),[],r1))
else
((Bi m.Kind 1 4).bind fun r2=>
 (if(r2&&(m.To==r.ID)) then(Bi m.From 0 (IntKind.wrap .i64 (r.Many - 1))).bind fun r3=>
 R.ok r3 else R.ok false).bind (fun(b:Bool)=>(if(b&&(m.From != r.ID)) then(Bi m.Term 1 1048576).bind fun r4=>
 R.ok r4 else R.ok false).bind (fun(b1:Bool)=>(Ba b1 470).bind fun _=>
 (if(decide ((if m.Match<(if m.LastTerm<m.Last then m.LastTerm else m.Last) then m.Match else(if m.LastTerm<m.Last then m.LastTerm else m.Last))≥0)) then(Bi m.Commit 0 (m.Log.length:Int)).bind fun r6=>
 R.ok r6 else R.ok false).bind (fun(b2:Bool)=>(if b2 then(Fu m.Log m.Term).bind fun r7=>
 R.ok r7 else R.ok false).bind (fun(b3:Bool)=>(Ba b3 470).bind fun _=>
 (Ds r).bind fun _=>
 if m.Term > r.Term then
((Cb ({ ID:=r.ID,Many:=r.Many,Term:=m.Term,Vote:=(-1),Log:=r.Log,Role:=r.Role,Commit:=r.Commit,Votes:=r.Votes,Match:=r.Match }:Replica)).bind fun r9=>
 Kn m (({ ID:=r.ID,Many:=r.Many,Term:=m.Term,Vote:=(-1),Log:=r.Log,Role:=r.Role,Commit:=r.Commit,Votes:=r.Votes,Match:=r.Match }:Replica).ID) (({ ID:=r.ID,Many:=r.Many,Term:=m.Term,Vote:=(-1),Log:=r.Log,Role:=r.Role,Commit:=r.Commit,Votes:=r.Votes,Match:=r.Match }:Replica).Many) (({ ID:=r.ID,Many:=r.Many,Term:=m.Term,Vote:=(-1),Log:=r.Log,Role:=r.Role,Commit:=r.Commit,Votes:=r.Votes,Match:=r.Match }:Replica).Term) (({ ID:=r.ID,Many:=r.Many,Term:=m.Term,Vote:=(-1),Log:=r.Log,Role:=r.Role,Commit:=r.Commit,Votes:=r.Votes,Match:=r.Match }:Replica).Vote) (({ ID:=r.ID,Many:=r.Many,Term:=m.Term,Vote:=(-1),Log:=r.Log,Role:=r.Role,Commit:=r.Commit,Votes:=r.Votes,Match:=r.Match }:Replica).Log) 0 (({ ID:=r.ID,Many:=r.Many,Term:=m.Term,Vote:=(-1),Log:=r.Log,Role:=r.Role,Commit:=r.Commit,Votes:=r.Votes,Match:=r.Match }:Replica).Commit) r9.1 r9.2)
else
(Kn m r.ID r.Many r.Term r.Vote r.Log r.Role r.Commit r.Votes r.Match))))))
theorem Up (r:Replica)(m:Message):Le (Nu r m) (Gl r m):=by
 unfold Nu Gl
 repeat' first | with_reducible exact Le.refl _ | with_reducible exact hW .. | with_reducible exact Ua .. | with_reducible apply Cn | with_reducible apply Cf | with_reducible apply C4 | with_reducible apply Cm | with_reducible apply Bz | with_reducible apply B3 | with_reducible apply C0 | with_reducible apply C1 | with_reducible apply C2 | with_reducible apply C3 | with_reducible apply Cz | with_reducible apply Dn | (rw [B2]; with_reducible exact Le.refl _) | intro _
def Mp (r:Replica)(m:Message):R (Replica×(List Message)×Int):=
 (Nu r m).catch' (Hd 105 .i64 (fun n=>(Dx n).bind fun p=>.ok (({ ID:=0,Many:=0,Term:=0,Vote:=0,Log:=[],Role:=0,Commit:=0,Votes:=[],Match:=[] }:Replica),[],p)) (fun _=>.bad))
theorem Wi (r:Replica)(m:Message):Le (Mp r m) (Fj r m):=by
 unfold Mp Fj
 repeat' first | with_reducible exact Le.refl _ | with_reducible exact hW .. | with_reducible exact Up .. | with_reducible apply Cn | with_reducible apply Cf | with_reducible apply C4 | with_reducible apply Cm | with_reducible apply Bz | with_reducible apply B3 | with_reducible apply C0 | with_reducible apply C1 | with_reducible apply C2 | with_reducible apply C3 | with_reducible apply Cz | with_reducible apply Dn | (rw [B2]; with_reducible exact Le.refl _) | intro _
def Ki (s0_ReplicaID:Int)(s0_ReplicaMany:Int)(s0_ReplicaTerm:Int)(s0_ReplicaVote:Int)(s0_ReplicaLog:List Record)(s0_ReplicaCommit:Int)(l:List Bool)(l1:List Int):R (Int×(List Int)×(List Message)):=
 (Cs l1 s0_ReplicaID).bind fun a=>
 (Io s0_ReplicaID s0_ReplicaMany s0_ReplicaTerm s0_ReplicaVote s0_ReplicaLog 2 s0_ReplicaCommit l (l1.set s0_ReplicaID.toNat (s0_ReplicaLog.length:Int))).bind fun r=>
 (Jo s0_ReplicaID s0_ReplicaMany s0_ReplicaTerm s0_ReplicaVote s0_ReplicaLog 2 r (l1.set s0_ReplicaID.toNat (s0_ReplicaLog.length:Int))).bind fun r1=>
 .ok (r,(l1.set s0_ReplicaID.toNat (s0_ReplicaLog.length:Int)),r1)
theorem Q8 (s0_ReplicaID:Int)(s0_ReplicaMany:Int)(s0_ReplicaTerm:Int)(s0_ReplicaVote:Int)(s0_ReplicaLog:List Record)(s0_ReplicaCommit:Int)(l:List Bool)(l1:List Int):Le (Ki s0_ReplicaID s0_ReplicaMany s0_ReplicaTerm s0_ReplicaVote s0_ReplicaLog s0_ReplicaCommit l l1) (Hg s0_ReplicaID s0_ReplicaMany s0_ReplicaTerm s0_ReplicaVote s0_ReplicaLog s0_ReplicaCommit l l1):=by
 unfold Ki Hg
 repeat' first | with_reducible exact Le.refl _ | with_reducible exact hW .. | with_reducible exact N7 .. | with_reducible exact Mv .. | with_reducible apply Cn | with_reducible apply Cf | with_reducible apply C4 | with_reducible apply Cm | with_reducible apply Bz | with_reducible apply B3 | with_reducible apply C0 | with_reducible apply C1 | with_reducible apply C2 | with_reducible apply C3 | with_reducible apply Cz | with_reducible apply Dn | (rw [B2]; with_reducible exact Le.refl _) | intro _
def Lu (s0_ReplicaID:Int)(s0_ReplicaMany:Int)(s0_ReplicaTerm:Int)(s0_ReplicaVote:Int)(s0_ReplicaLog:List Record)(s0_ReplicaRole:Int)(s0_ReplicaCommit:Int)(l:List Bool):R (Int×(List Int)×(List Message)):=
 if(0:Int)≤s0_ReplicaMany∧(s0_ReplicaMany:Int)≤s0_ReplicaMany∧(Int.toNat s0_ReplicaMany) * 8≤Cc then
 Ki s0_ReplicaID s0_ReplicaMany s0_ReplicaTerm s0_ReplicaVote s0_ReplicaLog s0_ReplicaCommit l (List.replicate (Int.toNat s0_ReplicaMany) 0) else .bad
theorem Sk (s0_ReplicaID:Int)(s0_ReplicaMany:Int)(s0_ReplicaTerm:Int)(s0_ReplicaVote:Int)(s0_ReplicaLog:List Record)(s0_ReplicaRole:Int)(s0_ReplicaCommit:Int)(l:List Bool):Le (Lu s0_ReplicaID s0_ReplicaMany s0_ReplicaTerm s0_ReplicaVote s0_ReplicaLog s0_ReplicaRole s0_ReplicaCommit l) (G8 s0_ReplicaID s0_ReplicaMany s0_ReplicaTerm s0_ReplicaVote s0_ReplicaLog s0_ReplicaRole s0_ReplicaCommit l):=by
 unfold Lu G8
 repeat' first | with_reducible exact Le.refl _ | with_reducible exact hW .. | with_reducible exact Q8 .. | with_reducible apply Cn | with_reducible apply Cf | with_reducible apply C4 | with_reducible apply Cm | with_reducible apply Bz | with_reducible apply B3 | with_reducible apply C0 | with_reducible apply C1 | with_reducible apply C2 | with_reducible apply C3 | with_reducible apply Cz | with_reducible apply Dn | (rw [B2]; with_reducible exact Le.refl _) | intro _
def Mk (mKind:Int)(mFrom:Int)(mTo:Int)(mTerm:Int)(mLast:Int)(mLastTerm:Int)(mCommit:Int)(mMatch:Int)(mGranted:Bool)(s_ReplicaID:Int)(s_ReplicaMany:Int)(s_ReplicaTerm:Int)(s_ReplicaVote:Int)(s_ReplicaLog:List Record)(s_ReplicaRole:Int)(s_ReplicaCommit:Int):R (List Message):=
 (Rx 64 (Fw fun x l=>Ht mKind mFrom mTo mTerm mLast mLastTerm mCommit mMatch mGranted s_ReplicaID s_ReplicaMany s_ReplicaTerm s_ReplicaVote s_ReplicaLog s_ReplicaRole s_ReplicaCommit x l) (0,[])).bind (fun l1=>Hn l1)
theorem Tm (mKind:Int)(mFrom:Int)(mTo:Int)(mTerm:Int)(mLast:Int)(mLastTerm:Int)(mCommit:Int)(mMatch:Int)(mGranted:Bool)(s_ReplicaID:Int)(s_ReplicaMany:Int)(s_ReplicaTerm:Int)(s_ReplicaVote:Int)(s_ReplicaLog:List Record)(s_ReplicaRole:Int)(s_ReplicaCommit:Int):Le (Mk mKind mFrom mTo mTerm mLast mLastTerm mCommit mMatch mGranted s_ReplicaID s_ReplicaMany s_ReplicaTerm s_ReplicaVote s_ReplicaLog s_ReplicaRole s_ReplicaCommit) (Hi mKind mFrom mTo mTerm mLast mLastTerm mCommit mMatch mGranted s_ReplicaID s_ReplicaMany s_ReplicaTerm s_ReplicaVote s_ReplicaLog s_ReplicaRole s_ReplicaCommit):=by
 unfold Mk Hi
 repeat' first | with_reducible exact Le.refl _ | with_reducible exact hW .. | with_reducible apply Cn | with_reducible apply Cf | with_reducible apply C4 | with_reducible apply Cm | with_reducible apply Bz | with_reducible apply B3 | with_reducible apply C0 | with_reducible apply C1 | with_reducible apply C2 | with_reducible apply C3 | with_reducible apply Cz | with_reducible apply Dn | (rw [B2]; with_reducible exact Le.refl _) | intro _
def Md (r:Replica):R (Replica×(List Message)×Int):=
 (Dl r).bind fun e=>
 if(e != 0) then
(.ok (({ ID:=0,Many:=0,Term:=0,Vote:=0,Log:=[],Role:=0,Commit:=0,Votes:=[],Match:=[] }:Replica),[],e))
else
(if(r.Term==1048576) then
(.ok (({ ID:=0,Many:=0,Term:=0,Vote:=0,Log:=[],Role:=0,Commit:=0,Votes:=[],Match:=[] }:Replica),[],2))
else
((Ds r).bind fun _=>
 (Cb r).bind fun r1=>
 (Cs r1.1 r.ID).bind fun a=>
 if(r.Many==1) then
((Lu r.ID r.Many (IntKind.wrap .i64 (r.Term+1)) r.ID r.Log 1 r.Commit (r1.1.set r.ID.toNat true)).bind fun r2=>
 .ok (({ ID:=r.ID,Many:=r.Many,Term:=(IntKind.wrap .i64 (r.Term+1)),Vote:=r.ID,Log:=r.Log,Role:=2,Commit:=r2.1,Votes:=(r1.1.set r.ID.toNat true),Match:=r2.2.1 }:Replica),r2.2.2,0))
else
((F2 ({ Replica:=({ ID:=r.ID,Many:=r.Many,Term:=(IntKind.wrap .i64 (r.Term+1)),Vote:=r.ID,Log:=r.Log,Role:=1,Commit:=r.Commit,Votes:=(r1.1.set r.ID.toNat true),Match:=r1.2 }:Replica),fSent:=[] }:T87)).bind fun r3=>
 (Mk 1 0 0 0 (r.Log.length:Int) r3 0 0 false r.ID r.Many (IntKind.wrap .i64 (r.Term+1)) r.ID r.Log 1 r.Commit).bind fun r4=>
 .ok (({ ID:=r.ID,Many:=r.Many,Term:=(IntKind.wrap .i64 (r.Term+1)),Vote:=r.ID,Log:=r.Log,Role:=1,Commit:=r.Commit,Votes:=(r1.1.set r.ID.toNat true),Match:=r1.2 }:Replica),r4,0))))
theorem Vm (r:Replica):Le (Md r) (Jn r):=by
 unfold Md Jn
 repeat' first | with_reducible exact Le.refl _ | with_reducible exact hW .. | with_reducible exact Tm .. | with_reducible exact Sk .. | with_reducible apply Cn | with_reducible apply Cf | with_reducible apply C4 | with_reducible apply Cm | with_reducible apply Bz | with_reducible apply B3 | with_reducible apply C0 | with_reducible apply C1 | with_reducible apply C2 | with_reducible apply C3 | with_reducible apply Cz | with_reducible apply Dn | (rw [B2]; with_reducible exact Le.refl _) | intro _
def Ou (W_:Value→R (Int×Bool))(a:Value)(depth:Int):R (Int ⊕ (Int×Bool)):=
 (W_ a).bind fun r=>
 if r.2 then
(.ok (.inl (if r.1 > depth then r.1 else depth)))
else
(.ok (.inr ((0,false))))
theorem Vr {W' W_:Value→R (Int×Bool)}(hW : ∀ w0,Le (W' w0) (W_ w0))(a:Value)(depth:Int):Le (Ou W' a depth) (Ik W_ a depth):=by
 unfold Ou Ik
 repeat' first | with_reducible exact Le.refl _ | with_reducible exact hW .. | with_reducible apply Cn | with_reducible apply Cf | with_reducible apply C4 | with_reducible apply Cm | with_reducible apply Bz | with_reducible apply B3 | with_reducible apply C0 | with_reducible apply C1 | with_reducible apply C2 | with_reducible apply C3 | with_reducible apply Cz | with_reducible apply Dn | (rw [B2]; with_reducible exact Le.refl _) | intro _
def Pe (W_:Value→R (Int×Bool))(v:Value):R (Int×Bool):=
 (if((decide (v.Kind<1))||(decide (v.Kind > 3))) then R.ok true else if(0:Int)≤v.Kind∧v.Kind<4 then
 R.ok (!(V5 (#v[false,((v.S==[])&&((v.L.length:Int)==0)),((v.N==0)&&((v.L.length:Int)==0)),((v.N==0)&&(v.S==[]))]:(Vector Bool 4)) (Int.toNat v.Kind) false)) else .bad).bind (fun(b:Bool)=>if b then
(.ok (0,false))
else
(if v.Kind<3 then
(.ok (0,true))
else
((each (fun _ a=>fun depth=>Ou W_ a depth) 0 v.L 0).bind (Ls (fun depth=>.ok ((IntKind.wrap .i64 (depth+1)),true)) (fun r=>.ok r)))))
theorem Xa {W' W_:Value→R (Int×Bool)}(hW : ∀ w0,Le (W' w0) (W_ w0))(v:Value):Le (Pe W' v) (Lr W_ v):=by
 unfold Pe Lr
 repeat' first | with_reducible exact Le.refl _ | with_reducible exact hW .. | with_reducible exact Vr (by assumption) .. | with_reducible apply Cn | with_reducible apply Cf | with_reducible apply C4 | with_reducible apply Cm | with_reducible apply Bz | with_reducible apply B3 | with_reducible apply C0 | with_reducible apply C1 | with_reducible apply C2 | with_reducible apply C3 | with_reducible apply Cz | with_reducible apply Dn | (rw [B2]; with_reducible exact Le.refl _) | intro _
def Pn:Nat→Value→R (Int×Bool)
 | 0,_=>.bad
 | n+1,v=>Pe (Pn n) v
theorem Rk : ∀ (n k:Nat) a0,Le (Pn n a0) (L1 (n+k) a0)
 | 0,k,a0=>.inl rfl
 | n+1,k,a0=>by
  rw [show n+1+k=(n+k)+1 by omega]
  exact Xa (fun a0=>Rk n k a0) a0
def Rh (v:Value):R (Int×Bool):=Pn 16 v
theorem Za (v:Value):Le (Rh v) (Pl v):=by
 unfold Rh Pl
 rw [Zl]
 exact Rk 16 (4000000 - 16) v
def Sd (v:Value):R Int:=
 (Rh v).bind fun r=>
 if r.2 then
(if r.1 > 16 then
(.ok 2)
else
(.ok 0))
else
(.ok 1)
theorem Zq (v:Value):Le (Sd v) (Oi v):=by
 unfold Sd Oi
 repeat' first | with_reducible exact Le.refl _ | with_reducible exact hW .. | with_reducible exact Za .. | with_reducible apply Cn | with_reducible apply Cf | with_reducible apply C4 | with_reducible apply Cm | with_reducible apply Bz | with_reducible apply B3 | with_reducible apply C0 | with_reducible apply C1 | with_reducible apply C2 | with_reducible apply C3 | with_reducible apply Cz | with_reducible apply Dn | (rw [B2]; with_reducible exact Le.refl _) | intro _
def I8 (u:Int)(l:List Int):R (List Int):=
 (Rx 64 (Fw fun u1 b=>Jg u1 b) (u,l)).bind (Fw fun u2 b1=>Jf u2 b1)
theorem K5 (u:Int)(l:List Int):Le (I8 u l) (Gt u l):=by
 unfold I8 Gt
 repeat' first | with_reducible exact Le.refl _ | with_reducible exact hW .. | with_reducible apply Cn | with_reducible apply Cf | with_reducible apply C4 | with_reducible apply Cm | with_reducible apply Bz | with_reducible apply B3 | with_reducible apply C0 | with_reducible apply C1 | with_reducible apply C2 | with_reducible apply C3 | with_reducible apply Cz | with_reducible apply Dn | (rw [B2]; with_reducible exact Le.refl _) | intro _
def H4 (v1:Value)(l:List Int):R (List Int):=
 if(l.length+[1].length) * 1≤Cc then
 (Ny v1.N).bind fun r=>
 (I8 r (l++[1])).bind fun r1=>
 .ok r1 else .bad
theorem Ky (v1:Value)(l:List Int):Le (H4 v1 l) (Fh v1 l):=by
 unfold H4 Fh
 repeat' first | with_reducible exact Le.refl _ | with_reducible exact hW .. | with_reducible exact K5 .. | with_reducible apply Cn | with_reducible apply Cf | with_reducible apply C4 | with_reducible apply Cm | with_reducible apply Bz | with_reducible apply B3 | with_reducible apply C0 | with_reducible apply C1 | with_reducible apply C2 | with_reducible apply C3 | with_reducible apply Cz | with_reducible apply Dn | (rw [B2]; with_reducible exact Le.refl _) | intro _
def H5 (v1:Value)(l:List Int):R (List Int):=
 if(l.length+[2].length) * 1≤Cc then
 (I8 (IntKind.wrap .u64 (v1.S.length:Int)) (l++[2])).bind fun r=>
 if(r.length+(Gd v1.S).length) * 1≤Cc then
 .ok (r++(Gd v1.S)) else .bad else .bad
theorem Kt (v1:Value)(l:List Int):Le (H5 v1 l) (Fk v1 l):=by
 unfold H5 Fk
 repeat' first | with_reducible exact Le.refl _ | with_reducible exact hW .. | with_reducible exact K5 .. | with_reducible apply Cn | with_reducible apply Cf | with_reducible apply C4 | with_reducible apply Cm | with_reducible apply Bz | with_reducible apply B3 | with_reducible apply C0 | with_reducible apply C1 | with_reducible apply C2 | with_reducible apply C3 | with_reducible apply Cz | with_reducible apply Dn | (rw [B2]; with_reducible exact Le.refl _) | intro _
def Kj (W_:Value→(List Int)→R (List Int))(a:Value)(b1:List Int):R (List Int):=
 if a.Kind=0 then
(.bad)
else
(if a.Kind=1 then
((H4 a b1).bind fun b2=>
 .ok b2)
else
(if a.Kind=2 then
((H5 a b1).bind fun b3=>
 .ok b3)
else
(if a.Kind=3 then
((W_ a b1).bind fun b4=>
 .ok b4)
else
(.bad))))
theorem Q5 {W' W_:Value→(List Int)→R (List Int)}(hW : ∀ w0 w1,Le (W' w0 w1) (W_ w0 w1))(a:Value)(b1:List Int):Le (Kj W' a b1) (F5 W_ a b1):=by
 unfold Kj F5
 repeat' first | with_reducible exact Le.refl _ | with_reducible exact hW .. | with_reducible exact Kt .. | with_reducible exact Ky .. | with_reducible apply Cn | with_reducible apply Cf | with_reducible apply C4 | with_reducible apply Cm | with_reducible apply Bz | with_reducible apply B3 | with_reducible apply C0 | with_reducible apply C1 | with_reducible apply C2 | with_reducible apply C3 | with_reducible apply Cz | with_reducible apply Dn | (rw [B2]; with_reducible exact Le.refl _) | intro _
def Kz (W_:Value→(List Int)→R (List Int))(v1:Value)(l:List Int):R (List Int):=
 if(l.length+[3].length) * 1≤Cc then
 (I8 (IntKind.wrap .u64 (v1.L.length:Int)) (l++[3])).bind fun b=>
 (E7 (fun _ a=>fun b1=>Kj W_ a b1) 0 v1.L b).bind ((fun b1=>.ok b1)) else .bad
theorem Rr {W' W_:Value→(List Int)→R (List Int)}(hW : ∀ w0 w1,Le (W' w0 w1) (W_ w0 w1))(v1:Value)(l:List Int):Le (Kz W' v1 l) (Ge W_ v1 l):=by
 unfold Kz Ge
 repeat' first | with_reducible exact Le.refl _ | with_reducible exact hW .. | with_reducible exact K5 .. | with_reducible exact Q5 (by assumption) .. | with_reducible apply Cn | with_reducible apply Cf | with_reducible apply C4 | with_reducible apply Cm | with_reducible apply Bz | with_reducible apply B3 | with_reducible apply C0 | with_reducible apply C1 | with_reducible apply C2 | with_reducible apply C3 | with_reducible apply Cz | with_reducible apply Dn | (rw [B2]; with_reducible exact Le.refl _) | intro _
def Ks:Nat→Value→(List Int)→R (List Int)
 | 0,_,_=>.bad
 | n+1,v1,l=>Kz (Ks n) v1 l
theorem Nf : ∀ (n k:Nat) a0 a1,Le (Ks n a0 a1) (Gi (n+k) a0 a1)
 | 0,k,a0,a1=>.inl rfl
 | n+1,k,a0,a1=>by
  rw [show n+1+k=(n+k)+1 by omega]
  exact Rr (fun a0 a1=>Nf n k a0 a1) a0 a1
def Ly (v1:Value)(l:List Int):R (List Int):=Ks 16 v1 l
theorem Sr (v1:Value)(l:List Int):Le (Ly v1 l) (Ip v1 l):=by
 unfold Ly Ip
 rw [Zl]
 exact Nf 16 (4000000 - 16) v1 l
def Lg (a:Value)(b1:List Int):R (List Int):=
 if a.Kind=0 then
(.bad)
else
(if a.Kind=1 then
((H4 a b1).bind fun b2=>
 .ok b2)
else
(if a.Kind=2 then
((H5 a b1).bind fun b3=>
 .ok b3)
else
(if a.Kind=3 then
((Ly a b1).bind fun b4=>
 .ok b4)
else
(.bad))))
theorem R7 (a:Value)(b1:List Int):Le (Lg a b1) (Gy a b1):=by
 unfold Lg Gy
 repeat' first | with_reducible exact Le.refl _ | with_reducible exact hW .. | with_reducible exact Kt .. | with_reducible exact Ky .. | with_reducible exact Sr .. | with_reducible apply Cn | with_reducible apply Cf | with_reducible apply C4 | with_reducible apply Cm | with_reducible apply Bz | with_reducible apply B3 | with_reducible apply C0 | with_reducible apply C1 | with_reducible apply C2 | with_reducible apply C3 | with_reducible apply Cz | with_reducible apply Dn | (rw [B2]; with_reducible exact Le.refl _) | intro _
def Nc (v1:Value):R (List Int):=
 if [3].length * 1≤Cc then
 (I8 (IntKind.wrap .u64 (v1.L.length:Int)) [3]).bind fun b=>
 (E7 (fun _ a=>fun b1=>Lg a b1) 0 v1.L b).bind ((fun b1=>.ok b1)) else .bad
theorem Tr (v1:Value):Le (Nc v1) (Ic v1):=by
 unfold Nc Ic
 repeat' first | with_reducible exact Le.refl _ | with_reducible exact hW .. | with_reducible exact K5 .. | with_reducible exact R7 .. | with_reducible apply Cn | with_reducible apply Cf | with_reducible apply C4 | with_reducible apply Cm | with_reducible apply Bz | with_reducible apply B3 | with_reducible apply C0 | with_reducible apply C1 | with_reducible apply C2 | with_reducible apply C3 | with_reducible apply Cz | with_reducible apply Dn | (rw [B2]; with_reducible exact Le.refl _) | intro _
def Oq (v:Value):R ((List Int)×Int):=
 (Sd v).bind fun e=>
 if(e != 0) then
(.ok ([],e))
else
((Ju).bind fun _=>
 if v.Kind=0 then
(.bad)
else
(if v.Kind=1 then
((H4 v []).bind fun b=>
 .ok (b,0))
else
(if v.Kind=2 then
((H5 v []).bind fun b1=>
 .ok (b1,0))
else
(if v.Kind=3 then
((Nc v).bind fun b2=>
 .ok (b2,0))
else
(.bad)))))
theorem S7 (v:Value):Le (Oq v) (L4 v):=by
 unfold Oq L4
 repeat' first | with_reducible exact Le.refl _ | with_reducible exact hW .. | with_reducible exact Kt .. | with_reducible exact Tr .. | with_reducible exact Zq .. | with_reducible exact Ky .. | with_reducible apply Cn | with_reducible apply Cf | with_reducible apply C4 | with_reducible apply Cm | with_reducible apply Bz | with_reducible apply B3 | with_reducible apply C0 | with_reducible apply C1 | with_reducible apply C2 | with_reducible apply C3 | with_reducible apply Cz | with_reducible apply Dn | (rw [B2]; with_reducible exact Le.refl _) | intro _
def K4 (m:Message)(l:List Value)(granted:Int):R ((List Int)×Int):=
 (Cv m.Kind).bind fun r1=>
 (Cv m.From).bind fun r2=>
 (Cv m.To).bind fun r3=>
 (Cv m.Term).bind fun r4=>
 (Cv m.Last).bind fun r5=>
 (Cv m.LastTerm).bind fun r6=>
 (Cv m.Commit).bind fun r7=>
 (Cv m.Match).bind fun r8=>
 (Cv granted).bind fun r9=>
 (Oq ({ Kind:=3,N:=0,S:=[],L:=[r1,r2,r3,r4,r5,r6,({ Kind:=3,N:=0,S:=[],L:=l }:Value),r7,r8,r9] }:Value)).bind fun r10=>
 .ok (r10.1,r10.2)
theorem U6 (m:Message)(l:List Value)(granted:Int):Le (K4 m l granted) (Gj m l granted):=by
 unfold K4 Gj
 repeat' first | with_reducible exact Le.refl _ | with_reducible exact hW .. | with_reducible exact S7 .. | with_reducible apply Cn | with_reducible apply Cf | with_reducible apply C4 | with_reducible apply Cm | with_reducible apply Bz | with_reducible apply B3 | with_reducible apply C0 | with_reducible apply C1 | with_reducible apply C2 | with_reducible apply C3 | with_reducible apply Cz | with_reducible apply Dn | (rw [B2]; with_reducible exact Le.refl _) | intro _
def Pm (m:Message):R ((List Int)×Int):=
 (E7 (fun _ a=>fun l=>Jt a l) 0 m.Log []).bind ((fun l=>if m.Granted then
(K4 m l 1)
else
(K4 m l 0)))
theorem W4 (m:Message):Le (Pm m) (Lo m):=by
 unfold Pm Lo
 repeat' first | with_reducible exact Le.refl _ | with_reducible exact hW .. | with_reducible exact U6 .. | with_reducible apply Cn | with_reducible apply Cf | with_reducible apply C4 | with_reducible apply Cm | with_reducible apply Bz | with_reducible apply B3 | with_reducible apply C0 | with_reducible apply C1 | with_reducible apply C2 | with_reducible apply C3 | with_reducible apply Cz | with_reducible apply Dn | (rw [B2]; with_reducible exact Le.refl _) | intro _
def Jx (s:T107):R (Int×T107):=
 (Rx 64 (Tx fun u i fRest=>Hr u i fRest) (0,0,s.fRest)).bind (fun r=>.ok r)
theorem Oe (s:T107):Le (Jx s) (Gr s):=by
 unfold Jx Gr
 repeat' first | with_reducible exact Le.refl _ | with_reducible exact hW .. | with_reducible apply Cn | with_reducible apply Cf | with_reducible apply C4 | with_reducible apply Cm | with_reducible apply Bz | with_reducible apply B3 | with_reducible apply C0 | with_reducible apply C1 | with_reducible apply C2 | with_reducible apply C3 | with_reducible apply Cz | with_reducible apply Dn | (rw [B2]; with_reducible exact Le.refl _) | intro _
def J3 (s:T107):R (Int×T107):=
 (Jx s).bind fun n=>
 (D5 n.2 (decide (n.1≤(IntKind.wrap .u64 (n.2.fRest.length:Int))))).bind fun _=>
 .ok ((IntKind.wrap .i64 n.1),n.2)
theorem Tp (s:T107):Le (J3 s) (Gp s):=by
 unfold J3 Gp
 repeat' first | with_reducible exact Le.refl _ | with_reducible exact hW .. | with_reducible exact Oe .. | with_reducible apply Cn | with_reducible apply Cf | with_reducible apply C4 | with_reducible apply Cm | with_reducible apply Bz | with_reducible apply B3 | with_reducible apply C0 | with_reducible apply C1 | with_reducible apply C2 | with_reducible apply C3 | with_reducible apply Cz | with_reducible apply Dn | (rw [B2]; with_reducible exact Le.refl _) | intro _
def La (depth:Int)(W_:Int→T107→R (Value×T107))(r6:(Int×T107))(x:Int)(o:T107)(l:List Value):R ((Int×T107×(List Value)) ⊕ (T107×(List Value))):=
 if x<r6.1 then
((W_ (IntKind.wrap .i64 (depth+1)) o).bind fun r7=>
 if(l.length+[r7.1].length) * 56≤Cc then
 .ok (.inl ((IntKind.wrap .i64 (x+1)),r7.2,(l++[r7.1]))) else .bad)
else
(.ok (.inr ((o,l))))
theorem Sb {W' W_:Int→T107→R (Value×T107)}(hW : ∀ w0 w1,Le (W' w0 w1) (W_ w0 w1))(depth:Int)(r6:(Int×T107))(x:Int)(o:T107)(l:List Value):Le (La depth W' r6 x o l) (Gz depth W_ r6 x o l):=by
 unfold La Gz
 repeat' first | with_reducible exact Le.refl _ | with_reducible exact hW .. | with_reducible apply Cn | with_reducible apply Cf | with_reducible apply C4 | with_reducible apply Cm | with_reducible apply Bz | with_reducible apply B3 | with_reducible apply C0 | with_reducible apply C1 | with_reducible apply C2 | with_reducible apply C3 | with_reducible apply Cz | with_reducible apply Dn | (rw [B2]; with_reducible exact Le.refl _) | intro _
def Lw (W_:Int→T107→R (Value×T107))(depth:Int)(s:T107):R (Value×T107):=
 (Gm 1 s).bind fun _=>
 (Cs (s.fRest.take 1) 0).bind fun a=>
 if((IntKind.wrap .i64 a)==1) then
((Jx ({ fRest:=(s.fRest.drop 1) }:T107)).bind fun r1=>
 (Pi r1.1).bind fun r2=>
 .ok (({ Kind:=(IntKind.wrap .i64 a),N:=r2,S:=[],L:=[] }:Value),r1.2))
else
(if((IntKind.wrap .i64 a)==2) then
((J3 ({ fRest:=(s.fRest.drop 1) }:T107)).bind fun r3=>
 (Gm r3.1 r3.2).bind fun _=>
 .ok (({ Kind:=(IntKind.wrap .i64 a),N:=0,S:=(C5 (r3.2.fRest.take (Int.toNat r3.1))),L:=[] }:Value),({ fRest:=(r3.2.fRest.drop (Int.toNat r3.1)) }:T107)))
else
(if((IntKind.wrap .i64 a)==3) then
((D5 ({ fRest:=(s.fRest.drop 1) }:T107) (decide (depth<16))).bind fun _=>
 (J3 ({ fRest:=(s.fRest.drop 1) }:T107)).bind fun r6=>
 (Rx 64 (Tx fun x o l=>La depth W_ r6 x o l) (0,r6.2,[])).bind (Fw fun o1 l1=>Ia a o1 l1))
else
((D5 ({ fRest:=(s.fRest.drop 1) }:T107) false).bind fun _=>
 .ok (({ Kind:=(IntKind.wrap .i64 a),N:=0,S:=[],L:=[] }:Value),({ fRest:=(s.fRest.drop 1) }:T107)))))
theorem Sv {W' W_:Int→T107→R (Value×T107)}(hW : ∀ w0 w1,Le (W' w0 w1) (W_ w0 w1))(depth:Int)(s:T107):Le (Lw W' depth s) (Hb W_ depth s):=by
 unfold Lw Hb
 repeat' first | with_reducible exact Le.refl _ | with_reducible exact hW .. | with_reducible exact Tp .. | with_reducible exact Sb (by assumption) .. | with_reducible exact Oe .. | with_reducible apply Cn | with_reducible apply Cf | with_reducible apply C4 | with_reducible apply Cm | with_reducible apply Bz | with_reducible apply B3 | with_reducible apply C0 | with_reducible apply C1 | with_reducible apply C2 | with_reducible apply C3 | with_reducible apply Cz | with_reducible apply Dn | (rw [B2]; with_reducible exact Le.refl _) | intro _
def Lt:Nat→Int→T107→R (Value×T107)
 | 0,_,_=>.bad
 | n+1,depth,s=>Lw (Lt n) depth s
theorem N9 : ∀ (n k:Nat) a0 a1,Le (Lt n a0 a1) (G7 (n+k) a0 a1)
 | 0,k,a0,a1=>.inl rfl
 | n+1,k,a0,a1=>by
  rw [show n+1+k=(n+k)+1 by omega]
  exact Sv (fun a0 a1=>N9 n k a0 a1) a0 a1
def Nd (depth:Int)(s:T107):R (Value×T107):=Lt 16 depth s
theorem T7 (depth:Int)(s:T107):Le (Nd depth s) (Jh depth s):=by
 unfold Nd Jh
 rw [Zl]
 exact N9 16 (4000000 - 16) depth s
def Ph (b:List Int):R (Value×Int):=
 (Nd 0 ({ fRest:=b }:T107)).bind fun r=>
 (D5 r.2 ((r.2.fRest.length:Int)==0)).bind fun _=>
 .ok (r.1,0)
theorem W7 (b:List Int):Le (Ph b) (Lz b):=by
 unfold Ph Lz
 repeat' first | with_reducible exact Le.refl _ | with_reducible exact hW .. | with_reducible exact T7 .. | with_reducible apply Cn | with_reducible apply Cf | with_reducible apply C4 | with_reducible apply Cm | with_reducible apply Bz | with_reducible apply B3 | with_reducible apply C0 | with_reducible apply C1 | with_reducible apply C2 | with_reducible apply C3 | with_reducible apply Cz | with_reducible apply Dn | (rw [B2]; with_reducible exact Le.refl _) | intro _
def Q1 (b:List Int):R (Value×Int):=
 (Ph b).catch' (J7 28 .i64 (fun n=>(Ex n).bind fun p=>.ok (({ Kind:=0,N:=0,S:=[],L:=[] }:Value),p)) (fun _=>.bad))
theorem Yu (b:List Int):Le (Q1 b) (Pu b):=by
 unfold Q1 Pu
 repeat' first | with_reducible exact Le.refl _ | with_reducible exact hW .. | with_reducible exact W7 .. | with_reducible apply Cn | with_reducible apply Cf | with_reducible apply C4 | with_reducible apply Cm | with_reducible apply Bz | with_reducible apply B3 | with_reducible apply C0 | with_reducible apply C1 | with_reducible apply C2 | with_reducible apply C3 | with_reducible apply Cz | with_reducible apply Dn | (rw [B2]; with_reducible exact Le.refl _) | intro _
def Ob (b:List Int):R (Message×Int):=
 (Q1 b).bind fun r=>
 if(r.2 != 0) then
(.ok (({ Kind:=0,From:=0,To:=0,Term:=0,Last:=0,LastTerm:=0,Log:=[],Commit:=0,Match:=0,Granted:=false }:Message),r.2))
else
((if((r.1.Kind==3)&&((r.1.L.length:Int)==10)) then(Cs r.1.L 6).bind fun a=>
 R.ok (a.Kind==3) else R.ok false).bind (fun(b1:Bool)=>(Ba b1 470).bind fun _=>
 (Bh 0 r.1).bind fun r2=>
 (Bh 1 r.1).bind fun r3=>
 (Bh 2 r.1).bind fun r4=>
 (Bh 3 r.1).bind fun r5=>
 (Bh 4 r.1).bind fun r6=>
 (Bh 5 r.1).bind fun r7=>
 (Bh 7 r.1).bind fun r8=>
 (Bh 8 r.1).bind fun r9=>
 (Bh 9 r.1).bind fun r10=>
 (Bh 9 r.1).bind fun r11=>
 (Bi r11 0 1).bind fun r12=>
 (Ba r12 470).bind fun _=>
 (Cs r.1.L 6).bind fun a1=>
 (E7 (fun _ a2=>fun l=>I0 a2 l) 0 a1.L []).bind ((fun l=>.ok (({ Kind:=r2,From:=r3,To:=r4,Term:=r5,Last:=r6,LastTerm:=r7,Log:=l,Commit:=r8,Match:=r9,Granted:=(r10==1) }:Message),0)))))
theorem Vg (b:List Int):Le (Ob b) (Ke b):=by
 unfold Ob Ke
 repeat' first | with_reducible exact Le.refl _ | with_reducible exact hW .. | with_reducible exact Yu .. | with_reducible apply Cn | with_reducible apply Cf | with_reducible apply C4 | with_reducible apply Cm | with_reducible apply Bz | with_reducible apply B3 | with_reducible apply C0 | with_reducible apply C1 | with_reducible apply C2 | with_reducible apply C3 | with_reducible apply Cz | with_reducible apply Dn | (rw [B2]; with_reducible exact Le.refl _) | intro _
def Nj (b:List Int):R (Message×Int):=
 (Ob b).catch' (Hd 105 .i64 (fun n=>(Ea n).bind fun p=>.ok (({ Kind:=0,From:=0,To:=0,Term:=0,Last:=0,LastTerm:=0,Log:=[],Commit:=0,Match:=0,Granted:=false }:Message),p)) (fun _=>.bad))
theorem W3 (b:List Int):Le (Nj b) (Lp b):=by
 unfold Nj Lp
 repeat' first | with_reducible exact Le.refl _ | with_reducible exact hW .. | with_reducible exact Vg .. | with_reducible apply Cn | with_reducible apply Cf | with_reducible apply C4 | with_reducible apply Cm | with_reducible apply Bz | with_reducible apply B3 | with_reducible apply C0 | with_reducible apply C1 | with_reducible apply C2 | with_reducible apply C3 | with_reducible apply Cz | with_reducible apply Dn | (rw [B2]; with_reducible exact Le.refl _) | intro _
def Xg:R Bool:=
 (J4 0 3).bind fun r=>
 (J4 0 6).bind fun r1=>
 (Mg r.1 []).bind fun r2=>
 (Mp r.1 ({ Kind:=0,From:=0,To:=0,Term:=0,Last:=0,LastTerm:=0,Log:=[],Commit:=0,Match:=0,Granted:=false }:Message)).bind fun r3=>
 (J4 0 1).bind fun r4=>
 (Md r4.1).bind fun r5=>
 (Mg r5.1 [97]).bind fun r6=>
 (Md r.1).bind fun r7=>
 (Mp r7.1 ({ Kind:=2,From:=2,To:=0,Term:=1,Last:=0,LastTerm:=0,Log:=[],Commit:=0,Match:=0,Granted:=true }:Message)).bind fun r8=>
 (Pm ({ Kind:=3,From:=0,To:=0,Term:=0,Last:=0,LastTerm:=0,Log:=[({ Term:=3,Data:=[120] }:Record)],Commit:=1,Match:=0,Granted:=true }:Message)).bind fun r9=>
 (Nj r9.1).bind fun r10=>
 (Oq ({ Kind:=1,N:=0,S:=[],L:=[] }:Value)).bind fun r11=>
 (Nj r11.1).bind fun r12=>
 (if(((((((((((((r.2 != 0)||(r1.2 != 470))||(r2.2.2 != 470))||(r3.2.2 != 470))||(r4.2 != 0))||(r5.2.2 != 0))||(r6.2.2 != 0))||(r7.2.2 != 0))||(r8.2.2 != 0))||(r9.2 != 0))||(r10.2 != 0))||(r11.2 != 0))||(r12.2 != 470)) then R.ok true else(Dl ({ ID:=0,Many:=0,Term:=0,Vote:=0,Log:=[],Role:=0,Commit:=0,Votes:=[],Match:=[] }:Replica)).bind fun r13=>
 R.ok (r13 != 470)).bind (fun(b:Bool)=>(if b then R.ok true else(Dl r.1).bind fun r14=>
 R.ok (r14 != 0)).bind (fun(b1:Bool)=>if b1 then
(.ok false)
else
((D6 r6.1).bind fun r15=>
 (if(((r5.2.1.length:Int)==0)&&((r15.length:Int)==1)) then(Cs r15 0).bind fun a=>
 R.ok ((C5 a)==[97]) else R.ok false).bind (fun(b2:Bool)=>(if b2 then(F0 r6.1).bind fun r16=>
 (D6 r16).bind fun r17=>
 R.ok ((r17.length:Int)==0) else R.ok false).bind (fun(b3:Bool)=>(if(b3&&((r7.2.1.length:Int)==2)) then(Cs r7.2.1 0).bind fun a1=>
 R.ok (a1.Kind==1) else R.ok false).bind (fun(b4:Bool)=>(if((b4&&(r8.1.Role==2))&&((r8.2.1.length:Int)==2)) then(Cs r8.2.1 1).bind fun a2=>
 R.ok (a2.Kind==3) else R.ok false).bind (fun(b5:Bool)=>(if((b5&&r10.1.Granted)&&((r10.1.Log.length:Int)==1)) then(Cs r10.1.Log 0).bind fun a3=>
 R.ok ((C5 a3.Data)==[120]) else R.ok false).bind (fun(b6:Bool)=>.ok b6))))))))
theorem Aam:Le (Xg ) (Mo ):=by
 unfold Xg Mo
 repeat' first | with_reducible exact Le.refl _ | with_reducible exact hW .. | with_reducible exact Vq .. | with_reducible exact S7 .. | with_reducible exact Vm .. | with_reducible exact W3 .. | with_reducible exact Wi .. | with_reducible exact W4 .. | with_reducible apply Cn | with_reducible apply Cf | with_reducible apply C4 | with_reducible apply Cm | with_reducible apply Bz | with_reducible apply B3 | with_reducible apply C0 | with_reducible apply C1 | with_reducible apply C2 | with_reducible apply C3 | with_reducible apply Cz | with_reducible apply Dn | (rw [B2]; with_reducible exact Le.refl _) | intro _
end Go.Am
namespace Go.Am
open Go
theorem Aal:Mo=.ok true:=Aka Aam (by kernel_rfl)
end Go.Am
namespace Go.Am
open Go
set_option linter.unusedVariables false
set_option linter.unusedSimpArgs false
namespace Rp
theorem Aja {l:List Record}(h:(My 2 J6).good l):O6 l:=by
 intro a ha b hb
 have h1:J6.good a:=h a ha
 have h2:(Lit.int .u8 b).wf=true:=h1.2.1 b hb
 have:0≤b∧b≤255:=by simpa [Lit.wf,IntKind.min,IntKind.max,IntKind.signed,IntKind.bits] using h2
 omega
theorem Aiq (a:Record):1≤J6.bulk a:=Nat.le_add_left _ _
theorem Air (l:List Record):l.length+1≤(My 2 J6).bulk l:=Aiw Aiq l
theorem rep_len {r:Replica}:r.Log.length+1≤Py.bulk r:=by
 have:=Air r.Log
 show _≤(_+(_+(_+(_+((My 2 J6).bulk r.Log+_)))))+1
 omega
theorem rep_bok {r:Replica}(h:Py.good r):O6 r.Log:=Aja h.2.2.2.2.1
end Rp
end Go.Am
namespace Go.Am
open Go
set_option linter.unusedVariables false
set_option linter.unusedSimpArgs false
namespace Rp
def Ha (b:Message)(term:Int):Message:={ Kind:=1,From:=b.From,To:=b.To,Term:=term,Last:=b.Last,LastTerm:=b.LastTerm,Log:=[],Commit:=0,Match:=b.Match,Granted:=b.Granted }
theorem Ab0 {r x:Replica}{b:Message}{t:Int}{l:List Message}(ho:Qi r (Ha b t)=some (x,l)):MOk r (Ha b t)∧Rc (I6 r (Ha b t)) (Ha b t)=(x,l):=by
 unfold Qi at ho
 split at ho
 ·rename_i hk
  refine⟨(Adz _ _).1 hk,?_⟩
  unfold Wy at ho
  rw [if_pos (show(Ha b t).Kind=1 from rfl)] at ho
  exact Option.some.inj ho
 ·cases ho
theorem Agf {r:Replica}(h:Good r):Good (Uz r):=
 Qj (r:={ r with Commit:=0 }) h.many h.id h.term h.vote h.fits ⟨Int.le_refl _,by show(0:Int)≤(r.Log.length:Int); omega⟩
theorem Agn {l:List Record}(h:0<l.length)(hl:l.length≤Cc) : ∃ a,Cs l (IntKind.wrap .i64 ((l.length:Int) - 1))=.ok a∧Qe l=a.Term:=by
 rcases List.eq_nil_or_concat l with e | ⟨l',a,e⟩
 ·subst e; simp at h
 ·have hlen:l.length=l'.length+1:=by rw [e]; simp
  refine⟨a,?_,by unfold Qe; rw [e]; simp⟩
  have hw:IntKind.wrap .i64 ((l.length:Int) - 1)=(l'.length:Int):=by
   unfold Cc at hl
   rw [Mx (by omega) (by omega)]; omega
  rw [hw]
  exact Jq (by rw [e]; simp)
theorem votes_of {r:Replica}{b c:Message}(hsane:Mo=.ok true)(hb1:O6 r.Log)(hl:r.Log.length≤1048576):Jc r b c=.ok true:=by
 unfold Jc
 obtain⟨f1,e1⟩:=Aju r.Log
 have hL:r.Log.length≤Cc:=by unfold Cc; omega
 have hnil:O6 ([]:List Record):=fun a ha=>by cases ha
 have hnl:([]:List Record).length≤Cc:=by unfold Cc; simp
 simp only [hsane,R.ok_bind,if_true,e1]
 by_cases hc:((!f1||decide ((r.Votes.length:Int) > 10))||decide ((r.Match.length:Int) > 10))=true
 ·rw [if_pos hc]
 rw [if_neg hc]
 refine(Classical.em (Good r)).elim (fun h=>?_) (fun h=>by rw [Ahk h hL]; rfl)
 rw [show({ Kind:=1,From:=b.From,To:=b.To,Term:=b.Term,Last:=b.Last,LastTerm:=b.LastTerm,Log:=[],Commit:=0,Match:=b.Match,Granted:=b.Granted }:Message)=Ha b b.Term from rfl,
  show({ Kind:=1,From:=c.From,To:=c.To,Term:=b.Term,Last:=c.Last,LastTerm:=c.LastTerm,Log:=[],Commit:=0,Match:=c.Match,Granted:=c.Granted }:Message)=Ha c b.Term from rfl]
 rw [Adf h hL hb1 hnil hnl]
 cases ho:Qi r (Ha b b.Term) with
 | none=>rfl
 | some p=>
  obtain⟨x,l⟩:=p
  have hx:=Afi h ho
  obtain⟨hm,ha⟩:=Ab0 ho
  have hxlog:x.Log=r.Log:=by
   have:=congrArg (fun p=>p.1.Log) ha
   simp only at this
   rw [← this,← (S8 r (Ha b b.Term)).2.2.1]
   unfold Rc
   cases No _ _ <;> rfl
  obtain⟨q1,q2,q3,q4,q5⟩:=S8 r (Ha b b.Term)
  have hxterm:x.Term=(I6 r (Ha b b.Term)).Term:=by
   have:=congrArg (fun p=>p.1.Term) ha
   simp only at this
   rw [← this]
   unfold Rc
   cases No _ _ <;> rfl
  simp only [R.ok_bind,bne_self_eq_false,Bool.false_eq_true,if_false]
  have hmx:=hx.many
  rw [Ai4 ⟨by omega,hmx.2⟩,R.ok_bind,Adf (Agf hx) (by show x.Log.length≤Cc; rw [hxlog]; exact hL) (by show O6 x.Log; rw [hxlog]; exact hb1) hnil hnl]
  cases ho2:Qi (Uz x) (Ha c b.Term) with
  | none=>rfl
  | some p2=>
   obtain⟨y,l2⟩:=p2
   obtain⟨hm2,ha2⟩:=Ab0 ho2
   have hnb:I6 (Uz x) (Ha c b.Term)=Uz x:=by
    unfold I6
    rw [if_neg]
    show ¬ b.Term > x.Term
    rw [hxterm,q5]
    show ¬ b.Term > max r.Term b.Term
    omega
   rw [hnb] at ha2
   generalize hg1:No (I6 r (Ha b b.Term)) (Ha b b.Term)=g1 at *
   generalize hg2:No (Uz x) (Ha c b.Term)=g2 at *
   have hl1:l=[Po (I6 r (Ha b b.Term)) (Ha b b.Term) 2 g1 0]:=by
    have:=congrArg (fun p=>p.2) ha
    simp only [Rc,hg1] at this
    exact this.symm
   have hl2:l2=[Po (Uz x) (Ha c b.Term) 2 g2 0]:=by
    have:=congrArg (fun p=>p.2) ha2
    simp only [Rc,hg2] at this
    exact this.symm
   have v1:g1=true→x.Vote=b.From:=by
    intro hg
    have:=congrArg (fun p=>p.1.Vote) ha
    simp only [Rc,hg1,hg,if_true] at this
    exact this.symm
   have v2:g2=true→y.Vote=c.From:=by
    intro hg
    have:=congrArg (fun p=>p.1.Vote) ha2
    simp only [Rc,hg2,hg,if_true] at this
    exact this.symm
   have v12:g1=true→g2=true→b.From=c.From:=by
    intro k1 k2
    rw [k2] at hg2
    simp only [No,Bool.and_eq_true,decide_eq_true_eq,Bool.or_eq_true] at hg2
    have hv:=v1 k1
    have hf:0≤b.From:=hm.frm.1
    have h3:x.Vote = -1∨x.Vote=c.From:=hg2.1.2
    rcases h3 with h3 | h3
    ·omega
    ·rw [← hv,h3]
   have g1t:g1=true→b.Term≥r.Term∧(I6 r (Ha b b.Term)).Term=b.Term∧Vx (I6 r (Ha b b.Term)) (Ha b b.Term)=true:=by
    intro k1
    rw [k1] at hg1
    simp only [No,Bool.and_eq_true,decide_eq_true_eq,Bool.or_eq_true] at hg1
    have h3:b.Term=(I6 r (Ha b b.Term)).Term:=hg1.1.1
    refine⟨?_,h3.symm,hg1.2⟩
    rw [q5] at h3
    have h4:b.Term=max r.Term b.Term:=h3
    omega
   simp only [R.ok_bind]
   unfold Jj
   simp only [bne_self_eq_false,Bool.false_eq_true,if_false]
   rw [hl1,hl2]
   simp only [List.length_singleton,Ah2,R.ok_bind,Po,Ha,bne_self_eq_false,Bool.false_eq_true,if_false,show(((1:Nat):Int) != 1)=false from rfl]
   have j1f : ∀ (a3:Message),a3.Granted=g1→a3.Term=(I6 r (Ha b b.Term)).Term→Bx r b a3 false=.ok true:=by
    intro a3 k1 k2
    unfold Bx
    rw [if_neg (by simp),k1]
    cases hgg:g1 with
    | false=>rfl
    | true=>
     obtain⟨t1,t2,_⟩:=g1t hgg
     simp only [Bool.not_true,Bool.false_eq_true,if_false]
     rw [if_pos (by simpa using t1),k2,t2]
     simp
   unfold Ed
   rw [if_neg (by simp)]
   simp only [Ah2,R.ok_bind]
   have hcond:((if g1=true then R.ok g2 else R.ok false:R Bool))=.ok (g1&&g2):=by cases g1 <;> rfl
   simp only [hcond,R.ok_bind]
   have hA:(((g1&&g2)&&(b.From != c.From))||(g1&&(x.Vote != b.From)))=false:=by
    cases k1:g1 with
    | false=>rfl
    | true=>
     rw [v1 k1]
     cases k2:g2 with
     | false=>simp
     | true=>rw [v12 k1 k2]; simp
   have hB:(g2&&(y.Vote != c.From))=false:=by
    cases k2:g2 with
    | false=>rfl
    | true=>rw [v2 k2]; simp
   rw [hA]
   simp only [Bool.false_eq_true,if_false,R.ok_bind,hB]
   by_cases k1:g1=true
   ·rw [if_pos k1]
    obtain⟨t1,t2,t3⟩:=g1t k1
    by_cases hlen:0<r.Log.length
    ·rw [if_pos (show decide ((r.Log.length:Int) > 0)=true by rw [decide_eq_true_eq]; omega)]
     obtain⟨a6,i1,i2⟩:=Agn hlen hL
     rw [i1,R.ok_bind]
     have hq:Vx (I6 r (Ha b b.Term)) (Ha b b.Term)=(decide (b.LastTerm > Qe r.Log)||(decide (b.LastTerm=Qe r.Log)&&decide (b.Last≥(r.Log.length:Int)))):=by
      unfold Vx
      rw [q3]
      rfl
     rw [hq] at t3
     simp only [Bool.or_eq_true,decide_eq_true_eq,Bool.and_eq_true] at t3
     rw [i2] at t3
     rw [if_neg (show ¬ (decide (b.LastTerm<a6.Term)=true) by rw [decide_eq_true_eq]; omega)]
     by_cases he:b.LastTerm=a6.Term
     ·rw [if_pos (by simpa using he),show decide (b.Last<(r.Log.length:Int))=false by simp; omega]
      exact j1f _ rfl rfl
     ·rw [if_neg (by simpa using he)]
      exact j1f _ rfl rfl
    ·rw [if_neg (show ¬ (decide ((r.Log.length:Int) > 0)=true) by rw [decide_eq_true_eq]; omega)]
     exact j1f _ rfl rfl
   ·rw [if_neg k1]
    exact j1f _ rfl rfl
end Rp
theorem law_ReplicaVotes:Mq:=by
 intro r b c hr hm hm2 hb
 have h1:=Rp.rep_len (r:=r)
 exact Rp.votes_of Aal (Rp.rep_bok hr) (by omega)
end Go.Am
namespace Go.Proofs
open Go.Shelf
def Try.laysSlM5_f92_ren:Go.Shelf.Ren:=⟨fun | 5=>92 | 8=>97 | 7=>96 | 19=>107 | 20=>108 | 10=>98 | 11=>99 | 12=>100 | 13=>101 | 14=>102 | 15=>103 | 16=>104 | 17=>105 | 18=>106 | 30=>109 | 31=>110 | 32=>111 | 33=>112 | 34=>113 | 35=>114 | 40=>115 | n=>n,fun | 23=>48 | 25=>3 | 3=>3 | 32=>140 | 22=>48 | 0=>0 | 44=>153 | 46=>125 | 4=>4 | 36=>146 | 35=>145 | 41=>120 | 5=>5 | 9=>9 | 53=>154 | 57=>157 | 63=>159 | 64=>160 | n=>n,fun | n=>n⟩
theorem Try.laysSlM5_f92:Go.Proofs.SlLaysM.n5 Try.prog Try.laysSlM5_f92_ren:={
 mixed:=by kernel_rfl
 f5:=⟨Try.f92.name,by decide,Try.func92.trans (congrArg some (by kernel_rfl))⟩
 f7:=⟨Try.f96.name,by decide,Try.func96.trans (congrArg some (by kernel_rfl))⟩
 f8:=Try.func97.trans (congrArg some (by kernel_rfl))
 f10:=⟨Try.f98.name,by decide,Try.func98.trans (congrArg some (by kernel_rfl))⟩
 f11:=⟨Try.f99.name,by decide,Try.func99.trans (congrArg some (by kernel_rfl))⟩
 f12:=⟨Try.f100.name,by decide,Try.func100.trans (congrArg some (by kernel_rfl))⟩
 f13:=⟨Try.f101.name,by decide,Try.func101.trans (congrArg some (by kernel_rfl))⟩
 f14:=⟨Try.f102.name,by decide,Try.func102.trans (congrArg some (by kernel_rfl))⟩
 f15:=⟨Try.f103.name,by decide,Try.func103.trans (congrArg some (by kernel_rfl))⟩
 f16:=⟨Try.f104.name,by decide,Try.func104.trans (congrArg some (by kernel_rfl))⟩
 f17:=⟨Try.f105.name,by decide,Try.func105.trans (congrArg some (by kernel_rfl))⟩
 f18:=⟨Try.f106.name,by decide,Try.func106.trans (congrArg some (by kernel_rfl))⟩
 f19:=Try.func107.trans (congrArg some (by kernel_rfl))
 f20:=Try.func108.trans (congrArg some (by kernel_rfl))
 f30:=⟨Try.f109.name,by decide,Try.func109.trans (congrArg some (by kernel_rfl))⟩
 f31:=Try.func110.trans (congrArg some (by kernel_rfl))
 f32:=Try.func111.trans (congrArg some (by kernel_rfl))
 f33:=⟨Try.f112.name,by decide,Try.func112.trans (congrArg some (by kernel_rfl))⟩
 f34:=⟨Try.f113.name,by decide,Try.func113.trans (congrArg some (by kernel_rfl))⟩
 f35:=⟨Try.f114.name,by decide,Try.func114.trans (congrArg some (by kernel_rfl))⟩
 f40:=⟨Try.f115.name,by decide,Try.func115.trans (congrArg some (by kernel_rfl))⟩
 t0:=Try.underlying0
 a0:=Try.isAgg0
 z0:=Try.sizeOf0
 v0:=Try.zeroValue0
 t3:=Try.underlying3
 a3:=Try.isAgg3
 z3:=Try.sizeOf3
 v3:=Try.zeroValue3
 t4:=Try.underlying4
 a4:=Try.isAgg4
 z4:=Try.sizeOf4
 v4:=Try.zeroValue4
 t5:=Try.underlying5
 a5:=Try.isAgg5
 z5:=Try.sizeOf5
 v5:=Try.zeroValue5
 t9:=Try.underlying9
 a9:=Try.isAgg9
 z9:=Try.sizeOf9
 v9:=Try.zeroValue9
 t22:=Try.underlying48
 a22:=Try.isAgg48
 z22:=Try.sizeOf48
 v22:=Try.zeroValue48
 t23:=Try.underlying48
 a23:=Try.isAgg48
 z23:=Try.sizeOf48
 v23:=Try.zeroValue48
 t25:=Try.underlying3
 a25:=Try.isAgg3
 z25:=Try.sizeOf3
 v25:=Try.zeroValue3
 t32:=Try.underlying140
 a32:=Try.isAgg140
 z32:=Try.sizeOf140
 v32:=Try.zeroValue140
 t35:=Try.underlying145
 a35:=Try.isAgg145
 z35:=Try.sizeOf145
 v35:=Try.zeroValue145
 t36:=Try.underlying146
 a36:=Try.isAgg146
 z36:=Try.sizeOf146
 v36:=Try.zeroValue146
 t41:=Try.underlying120
 a41:=Try.isAgg120
 z41:=Try.sizeOf120
 v41:=Try.zeroValue120
 t44:=Try.underlying153
 a44:=Try.isAgg153
 z44:=Try.sizeOf153
 v44:=Try.zeroValue153
 t46:=Try.underlying125
 a46:=Try.isAgg125
 z46:=Try.sizeOf125
 v46:=Try.zeroValue125
 t53:=Try.underlying154
 a53:=Try.isAgg154
 z53:=Try.sizeOf154
 v53:=Try.zeroValue154
 t57:=Try.underlying157
 a57:=Try.isAgg157
 z57:=Try.sizeOf157
 v57:=Try.zeroValue157
 t63:=Try.underlying159
 a63:=Try.isAgg159
 z63:=Try.sizeOf159
 v63:=Try.zeroValue159
 t64:=Try.underlying160
 a64:=Try.isAgg160
 z64:=Try.sizeOf160
 v64:=Try.zeroValue160 }
open Go.Sort Go.RowKit in
theorem Try.slices_Sort_int (blk off cap : Nat) (zs : List Int) (w : World) (hH : Holds (Value.int .i64) w blk off zs.toArray) (hblk : blk < w.heap.size) (hsz : zs.length < 4611686018427387904) :
  Calls Try.prog 92 #[.slice (some ⟨blk, off, none⟩) zs.length cap] w fun e w' =>
   e = .returned (.tuple #[]) ∧ ∃ n os, w' = grow (putRow (Value.int .i64) (Sort.ahead w n) blk off (zs.mergeSort fun x y => decide (x ≤ y)).toArray) os := AnyM.slices_Sort_int Try.laysSlM5_f92 blk off cap zs w hH hblk hsz
open Go.RowKit Go.Sort in
theorem Try.slices_Sort_int_none (p : Option Addr) (cap : Nat) (w : World) :
  Calls Try.prog 92 #[.slice p 0 cap] w fun e w' => e = .returned (.tuple #[]) ∧ w' = w := AnyM.slices_Sort_int_none Try.laysSlM5_f92 p cap w
end Go.Proofs
namespace Go.Am
open Go Go.Proofs
set_option linter.unusedVariables false
set_option linter.unusedSimpArgs false
instance gwI:GW Try.prog:={ n:=0,G:=fun _ _=>True,keep:=fun _ _ _=>trivial }
theorem De:Try.prog.follows .mixedOrders=true:=by kernel_rfl
theorem Ax:ti Try.prog 3=some ⟨.int .i64,1,8,[.int .i64 0]⟩:=by kernel_rfl
theorem Hw:ti Try.prog 4=some ⟨.bool,1,1,[.bool false]⟩:=by kernel_rfl
theorem J5:ti Try.prog 5=some ⟨.int .u8,1,1,[.int .u8 0]⟩:=by kernel_rfl
theorem Kq:ti Try.prog 9=some ⟨.str,1,16,[.str []]⟩:=by kernel_rfl
theorem Aer:ti Try.prog 20=some ⟨.ifc,1,16,[.nili]⟩:=by kernel_rfl
theorem Bo:ti Try.prog 22=some ⟨.sl 54,1,24,[.emp]⟩:=by kernel_rfl
theorem Bd:ti Try.prog 24=some ⟨.st [(0,3),(1,3),(2,3),(3,3),(4,3),(5,3),(6,22),(7,3),(8,3),(9,4)],10,96,[.int .i64 0,.int .i64 0,.int .i64 0,.int .i64 0,.int .i64 0,.int .i64 0,.emp,.int .i64 0,.int .i64 0,.bool false]⟩:=by kernel_rfl
theorem E4:ti Try.prog 25=some ⟨.sl 5,1,24,[.emp]⟩:=by kernel_rfl
theorem Gq:ti Try.prog 28=some ⟨.int .i64,1,8,[.int .i64 0]⟩:=by kernel_rfl
theorem Ce:ti Try.prog 37=some ⟨.sl 24,1,24,[.emp]⟩:=by kernel_rfl
theorem Zx:ti Try.prog 42=some ⟨.sl 25,1,24,[.emp]⟩:=by kernel_rfl
theorem Db:ti Try.prog 47=some ⟨.sl 4,1,24,[.emp]⟩:=by kernel_rfl
theorem B0:ti Try.prog 48=some ⟨.sl 3,1,24,[.emp]⟩:=by kernel_rfl
theorem As:ti Try.prog 50=some ⟨.st [(0,3),(1,3),(2,3),(3,3),(4,22),(5,3),(6,3),(7,47),(8,48)],9,120,[.int .i64 0,.int .i64 0,.int .i64 0,.int .i64 0,.emp,.int .i64 0,.int .i64 0,.emp,.emp]⟩:=by kernel_rfl
theorem D0:ti Try.prog 54=some ⟨.st [(0,3),(1,25)],2,32,[.int .i64 0,.emp]⟩:=by kernel_rfl
theorem C6:ti Try.prog 71=some ⟨.sl 73,1,24,[.emp]⟩:=by kernel_rfl
theorem Bs:ti Try.prog 73=some ⟨.st [(0,3),(1,3),(2,9),(3,71)],4,56,[.int .i64 0,.int .i64 0,.str [],.emp]⟩:=by kernel_rfl
theorem A7:ti Try.prog 88=some ⟨.st [(0,50),(9,37)],10,144,[.int .i64 0,.int .i64 0,.int .i64 0,.int .i64 0,.emp,.int .i64 0,.int .i64 0,.emp,.emp,.emp]⟩:=by kernel_rfl
theorem Tl:ti Try.prog 89=some ⟨.fn,1,8,[.nilf]⟩:=by kernel_rfl
theorem Xx:ti Try.prog 90=some ⟨.arr 5 89,5,40,[.nilf,.nilf,.nilf,.nilf,.nilf]⟩:=by kernel_rfl
theorem Aji:ti Try.prog 92=some ⟨.st [(0,90)],5,40,[.nilf,.nilf,.nilf,.nilf,.nilf]⟩:=by kernel_rfl
theorem Ih:ti Try.prog 98=some ⟨.fn,1,8,[.nilf]⟩:=by kernel_rfl
theorem F9:ti Try.prog 100=some ⟨.st [(0,98)],1,8,[.nilf]⟩:=by kernel_rfl
theorem Aas:ti Try.prog 101=some ⟨.ptr 123,1,8,[.nilp]⟩:=by kernel_rfl
theorem Ad2:ti Try.prog 105=some ⟨.st [(0,28)],1,8,[.int .i64 0]⟩:=by kernel_rfl
theorem Lh:ti Try.prog 123=some ⟨.arr 4 100,4,32,[.nilf,.nilf,.nilf,.nilf]⟩:=by kernel_rfl
theorem Ko:ti Try.prog 125=some ⟨.int .u64,1,8,[.int .u64 0]⟩:=by kernel_rfl
theorem Aaq:ti Try.prog 139=some ⟨.arr 4 4,4,4,[.bool false,.bool false,.bool false,.bool false]⟩:=by kernel_rfl
theorem Ab3:M6 Try.prog [(0,3),(1,3),(2,3),(3,3),(4,3),(5,3),(6,22),(7,3),(8,3),(9,4)]=some [(0,1),(1,1),(2,1),(3,1),(4,1),(5,1),(6,1),(7,1),(8,1),(9,1)]:=by kernel_rfl
theorem Akp:M6 Try.prog [(0,3),(1,3),(2,3),(3,3),(4,22),(5,3),(6,3),(7,47),(8,48)]=some [(0,1),(1,1),(2,1),(3,1),(4,1),(5,1),(6,1),(7,1),(8,1)]:=by kernel_rfl
theorem Abc:M6 Try.prog [(0,3),(1,25)]=some [(0,1),(1,1)]:=by kernel_rfl
theorem Xu:M6 Try.prog [(0,3),(1,3),(2,9),(3,71)]=some [(0,1),(1,1),(2,1),(3,1)]:=by kernel_rfl
end Go.Am
namespace Go.Am
open Go Go.Proofs
set_option maxRecDepth 100000
set_option maxHeartbeats 4000000
set_option linter.unusedSimpArgs false
set_option linter.unusedVariables false
theorem Cw (n:Int)(lo:Int)(hi:Int):CP Try.prog 39 [(.int .i64 n),(.int .i64 lo),(.int .i64 hi)] (Bi n lo hi) (fun(x:Bool)=>(AV.bool x)):=by
 refine E8 (n:=15) 0 Try.func39 O (by decide) O O fun h0 ids hI=>B4 (A4 (Bi.eq_1 _ _ _) ?_)
 refine Ae<|Ac<|Ah (.bool false) O Av<|Aj<|Ae<|Ac<|Aq 4 [] [(10,(.bool (decide (lo≤n))))] ?_
 refine C7 4 [(14,(.bool ((decide (lo≤n))&&(decide (n≤hi)))))] ?_ fun hJ=>Cq (decide (lo≤n)) (fun hb1=>?_) (fun hb1=>?_)
 ·refine Ah (.bool ((decide (lo≤n))&&(decide (n≤hi)))) O Av<|Aj<|C8 (a:=((decide (lo≤n))&&(decide (n≤hi)))) (vs:=[(.bool ((decide (lo≤n))&&(decide (n≤hi))))]) Try.func39 hI O (.same _)
 ·refine Bl (t:=10) hb1 O<|Aq 4 [] [(14,(.bool (decide (n≤hi))))] ?_
  exact By hJ (.cons (Ja hb1) .nil)
 refine Bl (t:=10) hb1 O<|Aq 4 [] [(14,(.bool false))] ?_
 exact By hJ (.cons (Jb hb1) .nil)
theorem W1 (rID:Int)(rMany:Int)(rTerm:Int)(rVote:Int)(rRole:Int)(rCommit:Int)(h0:Ag)(o0:Nat)(hI0:Ids h0 [o0] 1):Lm rID rMany rTerm rVote rRole rCommit≠.bad→Bm Try.prog 46 [(.agg [(.int .i64 rID),(.int .i64 rMany),(.int .i64 rTerm),(.int .i64 rVote),.emp,(.int .i64 rRole),(.int .i64 rCommit),.emp,.emp])] (hp h0 [o0] [none]) (Ef (fun a_ v h' => ∃ (g2:Nat),v=(.ptr o0 g2 0 0)∧h'=hp h0 [o0] [some (.rows g2 10 [[(.int .i64 rID),(.int .i64 rMany),(.int .i64 rTerm),(.int .i64 rVote),.emp,(.int .i64 rRole),(.int .i64 rCommit),.emp,.emp,.emp]])]) h0 (Lm rID rMany rTerm rVote rRole rCommit)):=by
 refine Cg (n:=6) 1 Try.func46 O (by decide) O O hI0 O fun ids he hI=>?_
 clear hI0
 obtain rfl:ix ids 0=o0:=he 0 rfl
 clear he
 refine B4 (A4 (Lm.eq_1 _ _ _ _ _ _) ?_)
 refine A3 ?_
 refine Ae<|Ac<|Dq (v:=(.agg [(.I rID),(.I rMany),(.I rTerm),(.I rVote),.emp,(.I rRole),(.I rCommit),.emp,.emp])) (j:=1) hI O O O O O O O fun g=>Ah .nilp O Av<|Aj<|A3 ?_
 refine Ae<|Ac<|Aq 2 [1] [(4,(.agg [(.I rID),(.I rMany),(.I rTerm),(.I rVote),.emp,(.I rRole),(.I rCommit),.emp,.emp,.emp]))] ?_
 refine Dq (v:=(.agg [(.I rID),(.I rMany),(.I rTerm),(.I rVote),.emp,(.I rRole),(.I rCommit),.emp,.emp,.emp])) (j:=0) hI O O O O O O O fun g1=>Ah (.q ids 0 g1) O Av<|Aj<|A3 ?_
 exact Ft (K:=1) (N:=1) (a:=()) (vs:=[(.q ids 0 g1)]) [some (.rows g1 10 [[(.I rID),(.I rMany),(.I rTerm),(.I rVote),.emp,(.I rRole),(.I rCommit),.emp,.emp,.emp]])] Try.func46 hI O O O (.keep (.drop .nil)) (.same _) ⟨g1,O,O⟩
theorem S1 (s_ReplicaID:Int)(s_ReplicaMany:Int)(s_ReplicaTerm:Int)(s_ReplicaVote:Int)(s_ReplicaRole:Int)(s_ReplicaCommit:Int)(h0:Ag)(o0:Nat)(o1:Nat)(o2:Nat)(w:AV)(w1:AV)(w2:AV)(w3:AV)(g:Nat)(hI0:Ids h0 [o0,o1,o2] 3):Iw s_ReplicaID s_ReplicaMany s_ReplicaTerm s_ReplicaVote s_ReplicaRole s_ReplicaCommit≠.bad→Bm Try.prog 47 [(.ptr o0 g 0 0)] (hp h0 [o0,o1,o2] [some (.rows g 10 [[(.int .i64 s_ReplicaID),(.int .i64 s_ReplicaMany),(.int .i64 s_ReplicaTerm),(.int .i64 s_ReplicaVote),w,(.int .i64 s_ReplicaRole),(.int .i64 s_ReplicaCommit),w1,w2,w3]]),none,none]) (Ef (fun a_ v h' => ∃ (v19:AV),∃ (g19:Nat),∃ (v20:AV),∃ (g20:Nat),Bk v19 o1 g19 a_.1.length∧Bk v20 o2 g20 a_.2.length∧v=(.tup [])∧h'=hp h0 [o0,o1,o2] [some (.rows g 10 [[(.int .i64 s_ReplicaID),(.int .i64 s_ReplicaMany),(.int .i64 s_ReplicaTerm),(.int .i64 s_ReplicaVote),w,(.int .i64 0),(.int .i64 s_ReplicaCommit),v19,v20,w3]]),A6 v19 g19 1 (List.map rB a_.1),A6 v20 g20 1 (List.map (rI .i64) a_.2)]) h0 (Iw s_ReplicaID s_ReplicaMany s_ReplicaTerm s_ReplicaVote s_ReplicaRole s_ReplicaCommit)):=by
 refine Cg (n:=30) 0 Try.func47 O (by decide) O O hI0 O fun ids he hI=>?_
 clear hI0
 obtain rfl:ix ids 0=o0:=he 0 rfl
 obtain rfl:ix ids 1=o1:=he 1 rfl
 obtain rfl:ix ids 2=o2:=he 2 rfl
 clear he
 refine B4 (A4 (Iw.eq_1 _ _ _ _ _ _) ?_)
 refine Ae<|Ac<|Ah (.I 0) O Av<|Aj<|Ae<|Ae<|Ac ?_
 refine Aq 5 [0] [(7,(.I s_ReplicaMany))] ?_
 refine Bj [(.I s_ReplicaMany),(.I 0),(.I 5)] O O O O ((Cw s_ReplicaMany 0 5) _) (fun v _=>Bw (K:=3) (N:=0) Try.func47 hI) fun r _=>Aj<|Ec (fun n=>I3 n) (fun n=>fun(fr:Nat→AV) (h:Ag)=>fr=A0 [(0,(.q ids 0 g)),(2,(.I n))]∧h=hp h0 ids [(some (.rows g 10 [[(.I s_ReplicaID),(.I s_ReplicaMany),(.I s_ReplicaTerm),(.I s_ReplicaVote),w,(.I s_ReplicaRole),(.I s_ReplicaCommit),w1,w2,w3]])),none,none]) ?_ fun hJ1=>?_
 ·rintro n fr h ⟨rfl,rfl⟩
  refine A4 (I3.eq_1 _)<|Ec (Fw fun l l1=>Kr l l1) (Fw fun l l1=>fun(fr:Nat→AV) (h:Ag) => ∃ (v17:AV),∃ (g17:Nat),∃ (v18:AV),∃ (g18:Nat),Bk v17 (ix ids 1) g17 l.length∧Bk v18 (ix ids 2) g18 l1.length∧fr=A0 []∧h=hp h0 ids [(some (.rows g 10 [[(.I s_ReplicaID),(.I s_ReplicaMany),(.I s_ReplicaTerm),(.I s_ReplicaVote),w,(.I 0),(.I s_ReplicaCommit),v17,v18,w3]])),(A6 v17 g17 1 (List.map rB l)),(A6 v18 g18 1 (List.map (rI .i64) l1))]) ?_ fun hJ=>?_
  ·rintro⟨l,l1⟩ fr h ⟨v17,g17,v18,g18,vH16,vH17,rfl,rfl⟩
   refine A4 (Kr.eq_1 _ _)<|E2 (K:=3) (N:=0) (a:=(l,l1)) (vs:=[]) [some (.rows g 10 [[(.I s_ReplicaID),(.I s_ReplicaMany),(.I s_ReplicaTerm),(.I s_ReplicaVote),w,(.I 0),(.I s_ReplicaCommit),v17,v18,w3]]),A6 v17 g17 1 (List.map rB l),A6 v18 g18 1 (List.map (rI .i64) l1)] Try.func47 hI O O O (.keep (.keep (.keep .nil))) (.same _) ⟨v17,g17,v18,g18,vH16,vH17,O,O⟩
  refine P6 De (.node 14 6 (.node 10 6 (.node 10 4 (.node 6 4 (.leaf [[],[],[],[],[3,3],[],[3,4,5],[0,0],[0,7],[0,7,8],[0,3,4,5,6,7,8,9],[0,1,3,4,5,6,7,8,9,10],[0,1,3,4,5,6,7,8,9,10,11],[0,1,3,4,5,6,7,8,9,10,11,12],[0,1,3,4,5,6,7,8,9,10,11,12,13],[0,1,2,2,3,4,5,6,7,8,9,10,11,12,13,14],[0,1,2,3,4,5,6,7,8,9,10,11,12,13,14,15],[0,1,2,3,4,5,6,7,8,9,10,11,12,13,14,15,16],[0,1,2,3,4,5,6,7,8,9,10,11,12,13,14,15,16,17]] [(false,0),(false,1),(false,2),(false,3),(false,5),(false,7),(false,8),(false,9),(true,4),(true,6),(true,10),(false,11),(false,12),(false,13),(true,14),(false,15),(false,16),(false,17),(true,18)]) (.leaf [[],[],[],[],[3,5,6],[],[5,5],[0,0],[0,7],[0,7,8],[0,3,4,5,6,7,8,9],[0,1,3,4,5,6,7,8,9,10],[0,1,3,4,5,6,7,8,9,10,11],[0,1,3,4,5,6,7,8,9,10,11,12],[0,1,3,4,5,6,7,8,9,10,11,12,13],[0,1,2,2,3,4,5,6,7,8,9,10,11,12,13,14],[0,1,2,3,4,5,6,7,8,9,10,11,12,13,14,15],[0,1,2,3,4,5,6,7,8,9,10,11,12,13,14,15,16],[0,1,2,3,4,5,6,7,8,9,10,11,12,13,14,15,16,17]] [(false,0),(false,1),(false,2),(false,3),(false,5),(false,7),(false,8),(false,9),(true,6),(true,4),(true,10),(false,11),(false,12),(false,13),(true,14),(false,15),(false,16),(false,17),(true,18)])) (.leaf [[],[],[],[],[0,3,5,6,7,8,9,10],[],[5,5],[0,0],[0,7],[0,7,8],[0,5,6,7,8,9],[0,1,3,4,5,6,7,8,9,10],[0,1,3,4,5,6,7,8,9,10,11],[0,1,3,4,5,6,7,8,9,10,11,12],[0,1,3,4,5,6,7,8,9,10,11,12,13],[0,1,2,2,3,4,5,6,7,8,9,10,11,12,13,14],[0,1,2,3,4,5,6,7,8,9,10,11,12,13,14,15],[0,1,2,3,4,5,6,7,8,9,10,11,12,13,14,15,16],[0,1,2,3,4,5,6,7,8,9,10,11,12,13,14,15,16,17]] [(false,0),(false,1),(false,2),(false,3),(false,5),(false,7),(false,8),(false,9),(true,6),(true,10),(true,4),(false,11),(false,12),(false,13),(true,14),(false,15),(false,16),(false,17),(true,18)])) (.node 6 4 (.node 10 4 (.leaf [[],[],[],[],[3,3],[],[0,3,4,5,7,8,9,10],[0,0],[0,7],[0,7,8],[0,3,4,7,8,9],[0,1,1,3,4,7,8,9,10],[0,1,3,4,7,8,9,10,11],[0,1,3,4,7,8,9,10,11,12],[0,1,3,4,5,6,7,8,9,10,11,12,13],[0,1,2,2,3,4,5,6,7,8,9,10,11,12,13,14],[0,1,2,3,4,5,6,7,8,9,10,11,12,13,14,15],[0,1,2,3,4,5,6,7,8,9,10,11,12,13,14,15,16],[0,1,2,3,4,5,6,7,8,9,10,11,12,13,14,15,16,17]] [(false,0),(false,1),(false,2),(false,3),(false,5),(false,7),(false,8),(false,9),(true,4),(true,10),(false,11),(false,12),(false,13),(true,6),(true,14),(false,15),(false,16),(false,17),(true,18)]) (.leaf [[],[],[],[],[0,3,7,8,9,10],[],[0,3,4,5,7,8,9,10],[0,0],[0,7],[0,7,8],[0,7,8,9],[0,1,1,3,4,7,8,9,10],[0,1,3,4,7,8,9,10,11],[0,1,3,4,7,8,9,10,11,12],[0,1,3,4,5,6,7,8,9,10,11,12,13],[0,1,2,2,3,4,5,6,7,8,9,10,11,12,13,14],[0,1,2,3,4,5,6,7,8,9,10,11,12,13,14,15],[0,1,2,3,4,5,6,7,8,9,10,11,12,13,14,15,16],[0,1,2,3,4,5,6,7,8,9,10,11,12,13,14,15,16,17]] [(false,0),(false,1),(false,2),(false,3),(false,5),(false,7),(false,8),(false,9),(true,10),(true,4),(false,11),(false,12),(false,13),(true,6),(true,14),(false,15),(false,16),(false,17),(true,18)])) (.leaf [[],[],[],[],[0,3,5,6,7,8,9,10],[],[0,5,7,8,9,10],[0,0],[0,7],[0,7,8],[0,7,8,9],[0,1,3,4,5,6,7,8,9,10],[0,1,3,4,5,6,7,8,9,10,11],[0,1,3,4,5,6,7,8,9,10,11,12],[0,1,3,4,5,6,7,8,9,10,11,12,13],[0,1,2,2,3,4,5,6,7,8,9,10,11,12,13,14],[0,1,2,3,4,5,6,7,8,9,10,11,12,13,14,15],[0,1,2,3,4,5,6,7,8,9,10,11,12,13,14,15,16],[0,1,2,3,4,5,6,7,8,9,10,11,12,13,14,15,16,17]] [(false,0),(false,1),(false,2),(false,3),(false,5),(false,7),(false,8),(false,9),(true,10),(true,6),(true,4),(false,11),(false,12),(false,13),(true,14),(false,15),(false,16),(false,17),(true,18)]))) (.node 10 4 (.leaf [[],[],[],[],[3,3],[],[0,1,3,4,5,7,8,9,10,11,12,13,14],[0,0],[0,7],[0,7,8],[0,3,4,7,8,9],[0,1,1,3,4,7,8,9,10],[0,1,3,4,7,8,9,10,11],[0,1,3,4,7,8,9,10,11,12],[0,1,3,4,7,8,9,10,11,12,13],[0,1,2,2,3,4,5,6,7,8,9,10,11,12,13,14],[0,1,2,3,4,5,6,7,8,9,10,11,12,13,14,15],[0,1,2,3,4,5,6,7,8,9,10,11,12,13,14,15,16],[0,1,2,3,4,5,6,7,8,9,10,11,12,13,14,15,16,17]] [(false,0),(false,1),(false,2),(false,3),(false,5),(false,7),(false,8),(false,9),(true,4),(true,10),(false,11),(false,12),(false,13),(true,14),(true,6),(false,15),(false,16),(false,17),(true,18)]) (.leaf [[],[],[],[],[0,3,7,8,9,10],[],[0,1,3,4,5,7,8,9,10,11,12,13,14],[0,0],[0,7],[0,7,8],[0,7,8,9],[0,1,1,3,4,7,8,9,10],[0,1,3,4,7,8,9,10,11],[0,1,3,4,7,8,9,10,11,12],[0,1,3,4,7,8,9,10,11,12,13],[0,1,2,2,3,4,5,6,7,8,9,10,11,12,13,14],[0,1,2,3,4,5,6,7,8,9,10,11,12,13,14,15],[0,1,2,3,4,5,6,7,8,9,10,11,12,13,14,15,16],[0,1,2,3,4,5,6,7,8,9,10,11,12,13,14,15,16,17]] [(false,0),(false,1),(false,2),(false,3),(false,5),(false,7),(false,8),(false,9),(true,10),(true,4),(false,11),(false,12),(false,13),(true,14),(true,6),(false,15),(false,16),(false,17),(true,18)]))) (by kernel_rfl)<|G9 ?_ ?_
  ·refine G9 ?_ ?_
   ·refine G9 ?_ ?_
    ·refine G9 ?_ ?_
     ·refine Fg<|Z (.q ids 0 g) O O Aa<|Z (.q ids 0 g) O O Aa<|Z (.q ids 0 g) O O Aa<|Z (.I n) O O Aa<|Z (.I n) O O Aa<|Z (.q ids 0 g) O O (Al O) ?_
      refine Z (.q ids 0 g) O O (Af (Ad (c:=0) (off:=0) (i:=0) A7 O As O))<|Z (.ptr (ix ids 0) g 0 5) O O (Af (Ad (c:=0) (off:=5) (i:=5) As O Ax O))<|B8 fun hl=>Ci O O (fun _ _=>O) (fun K hK=>Cy (y:=(false:Bool)) (e:=rB) (st:=1) (j:=1) hI O O O Db Hw O O hl.1 hl.2.1 hl.2.2 O O O O O fun v1 g1 vH=>hK _ _ (Ab O (Af (Ad (c:=0) (off:=5) (i:=5) As O Ax O)) (Ab O (Af (Ad (c:=0) (off:=0) (i:=0) A7 O As O)) (Ab O (Al O) (Ab O Aa (Y O (Ab O Aa (Ab O Aa (Ab O Aa Ap)))))))) ?_)
      clear hK K
      refine B8 fun hl1=>Ci O O (fun _ _=>O) (fun K hK=>Cy (y:=(0:Int)) (e:=(rI .i64)) (st:=1) (j:=2) hI O O O B0 Ax O O hl1.1 hl1.2.1 hl1.2.2 O O O O O fun v2 g2 vH1=>hK _ _ (Ab O (Af (Ad (c:=0) (off:=5) (i:=5) As O Ax O)) (Ab O (Af (Ad (c:=0) (off:=0) (i:=0) A7 O As O)) (Ab O (Al O) (Y O (Y O (Ab O Aa (Ab O Aa (Ab O Aa Ap)))))))) ?_)
      clear hK K
      refine Bb O (fun _ _=>O) (fun K hK=>A2 (A5 (v:=(.I 0)) hI O O O O Ax O O O O O) (hK _ _ (Y O (Y O (Y O (Y O (Y O (Ab O Aa (Ab O Aa (Y O Ap)))))))) ?_))
      clear hK K
      refine Z (.q ids 0 g) O O (Al O)<|Z (.q ids 0 g) O O (Af (Ad (c:=0) (off:=0) (i:=0) A7 O As O))<|Z (.ptr (ix ids 0) g 0 7) O O (Af (Ad (c:=0) (off:=7) (i:=7) As O Db O))<|Bb O (fun _ _=>O) (fun K hK=>A2 (Cj vH hI O O O O Db O O O) (hK _ _ (Y O (Y O (Y O (Y O (Y O (Y O (Y O (Y O (Ab O Aa (Y O (Y O Ap))))))))))) ?_))
      clear hK K
      refine Z (.q ids 0 g) O O (Al O)<|Z (.q ids 0 g) O O (Af (Ad (c:=0) (off:=0) (i:=0) A7 O As O))<|Z (.ptr (ix ids 0) g 0 8) O O (Af (Ad (c:=0) (off:=8) (i:=8) As O B0 O))<|Bb O (fun _ _=>O) (fun K hK=>A2 (Cj vH1 hI O O O O B0 O O O) (hK _ _ (Y O (Y O (Y O (Y O (Y O (Y O (Y O (Y O (Y O (Y O (Y O (Y O (Y O (Y O Ap)))))))))))))) ?_))
      clear hK K
      refine A8<|A3 ?_
      exact Bn (hJ ((List.replicate (Int.toNat n) false),(List.replicate (Int.toNat n) 0)) _ _ ⟨v1,g1,v2,g2,vH,vH1,O,O⟩)
     refine Fg<|B8 fun hl3=>B8 fun hl2=>Z (.q ids 0 g) O O Aa<|Z (.q ids 0 g) O O Aa<|Z (.q ids 0 g) O O Aa<|Z (.I n) O O Aa ?_
     refine Z (.I n) O O Aa<|Z (.q ids 0 g) O O (Al O)<|Z (.q ids 0 g) O O (Af (Ad (c:=0) (off:=0) (i:=0) A7 O As O))<|Z (.ptr (ix ids 0) g 0 5) O O (Af (Ad (c:=0) (off:=5) (i:=5) As O Ax O))<|Ci O O (fun _ _=>O) (fun K hK=>Cy (y:=(0:Int)) (e:=(rI .i64)) (st:=1) (j:=2) hI O O O B0 Ax O O hl2.1 hl2.2.1 hl2.2.2 O O O O O fun v3 g3 vH2=>hK _ _ (Ab O (Af (Ad (c:=0) (off:=5) (i:=5) As O Ax O)) (Ab O (Af (Ad (c:=0) (off:=0) (i:=0) A7 O As O)) (Ab O (Al O) (Y O (Ab O Aa (Ab O Aa (Ab O Aa (Ab O Aa Ap)))))))) ?_)
     clear hK K
     refine Ci O O (fun _ _=>O) (fun K hK=>Cy (y:=(false:Bool)) (e:=rB) (st:=1) (j:=1) hI O O O Db Hw O O hl3.1 hl3.2.1 hl3.2.2 O O O O O fun v4 g4 vH3=>hK _ _ (Ab O (Af (Ad (c:=0) (off:=5) (i:=5) As O Ax O)) (Ab O (Af (Ad (c:=0) (off:=0) (i:=0) A7 O As O)) (Ab O (Al O) (Y O (Y O (Ab O Aa (Ab O Aa (Ab O Aa Ap)))))))) ?_)
     clear hK K
     refine Bb O (fun _ _=>O) (fun K hK=>A2 (A5 (v:=(.I 0)) hI O O O O Ax O O O O O) (hK _ _ (Y O (Y O (Y O (Y O (Y O (Ab O Aa (Ab O Aa (Y O Ap)))))))) ?_))
     clear hK K
     refine Z (.q ids 0 g) O O (Al O)<|Z (.q ids 0 g) O O (Af (Ad (c:=0) (off:=0) (i:=0) A7 O As O))<|Z (.ptr (ix ids 0) g 0 7) O O (Af (Ad (c:=0) (off:=7) (i:=7) As O Db O))<|Bb O (fun _ _=>O) (fun K hK=>A2 (Cj vH3 hI O O O O Db O O O) (hK _ _ (Y O (Y O (Y O (Y O (Y O (Y O (Y O (Y O (Ab O Aa (Y O (Y O Ap))))))))))) ?_))
     clear hK K
     refine Z (.q ids 0 g) O O (Al O)<|Z (.q ids 0 g) O O (Af (Ad (c:=0) (off:=0) (i:=0) A7 O As O))<|Z (.ptr (ix ids 0) g 0 8) O O (Af (Ad (c:=0) (off:=8) (i:=8) As O B0 O))<|Bb O (fun _ _=>O) (fun K hK=>A2 (Cj vH2 hI O O O O B0 O O O) (hK _ _ (Y O (Y O (Y O (Y O (Y O (Y O (Y O (Y O (Y O (Y O (Y O (Y O (Y O (Y O Ap)))))))))))))) ?_))
     clear hK K
     refine A8<|A3 ?_
     exact Bn (hJ ((List.replicate (Int.toNat n) false),(List.replicate (Int.toNat n) 0)) _ _ ⟨v4,g4,v3,g3,vH3,vH2,O,O⟩)
    refine Fg<|B8 fun hl5=>B8 fun hl4=>Z (.q ids 0 g) O O Aa<|Z (.q ids 0 g) O O Aa<|Z (.q ids 0 g) O O Aa<|Z (.I n) O O Aa ?_
    refine Z (.I n) O O Aa<|Z (.q ids 0 g) O O (Al O)<|Z (.q ids 0 g) O O (Af (Ad (c:=0) (off:=0) (i:=0) A7 O As O))<|Z (.ptr (ix ids 0) g 0 5) O O (Af (Ad (c:=0) (off:=5) (i:=5) As O Ax O))<|Ci O O (fun _ _=>O) (fun K hK=>Cy (y:=(0:Int)) (e:=(rI .i64)) (st:=1) (j:=2) hI O O O B0 Ax O O hl4.1 hl4.2.1 hl4.2.2 O O O O O fun v5 g5 vH4=>hK _ _ (Ab O (Af (Ad (c:=0) (off:=5) (i:=5) As O Ax O)) (Ab O (Af (Ad (c:=0) (off:=0) (i:=0) A7 O As O)) (Ab O (Al O) (Y O (Ab O Aa (Ab O Aa (Ab O Aa (Ab O Aa Ap)))))))) ?_)
    clear hK K
    refine Bb O (fun _ _=>O) (fun K hK=>A2 (A5 (v:=(.I 0)) hI O O O O Ax O O O O O) (hK _ _ (Y O (Y O (Y O (Y O (Ab O Aa (Ab O Aa (Ab O Aa (Y O Ap)))))))) ?_))
    clear hK K
    refine Ci O O (fun _ _=>O) (fun K hK=>Cy (y:=(false:Bool)) (e:=rB) (st:=1) (j:=1) hI O O O Db Hw O O hl5.1 hl5.2.1 hl5.2.2 O O O O O fun v6 g6 vH5=>hK _ _ (Y O (Y O (Y O (Y O (Y O (Ab O Aa (Ab O Aa (Y O Ap)))))))) ?_)
    clear hK K
    refine Z (.q ids 0 g) O O (Al O)<|Z (.q ids 0 g) O O (Af (Ad (c:=0) (off:=0) (i:=0) A7 O As O))<|Z (.ptr (ix ids 0) g 0 7) O O (Af (Ad (c:=0) (off:=7) (i:=7) As O Db O))<|Bb O (fun _ _=>O) (fun K hK=>A2 (Cj vH5 hI O O O O Db O O O) (hK _ _ (Y O (Y O (Y O (Y O (Y O (Y O (Y O (Y O (Ab O Aa (Y O (Y O Ap))))))))))) ?_))
    clear hK K
    refine Z (.q ids 0 g) O O (Al O)<|Z (.q ids 0 g) O O (Af (Ad (c:=0) (off:=0) (i:=0) A7 O As O))<|Z (.ptr (ix ids 0) g 0 8) O O (Af (Ad (c:=0) (off:=8) (i:=8) As O B0 O))<|Bb O (fun _ _=>O) (fun K hK=>A2 (Cj vH4 hI O O O O B0 O O O) (hK _ _ (Y O (Y O (Y O (Y O (Y O (Y O (Y O (Y O (Y O (Y O (Y O (Y O (Y O (Y O Ap)))))))))))))) ?_))
    clear hK K
    refine A8<|A3 ?_
    exact Bn (hJ ((List.replicate (Int.toNat n) false),(List.replicate (Int.toNat n) 0)) _ _ ⟨v6,g6,v5,g5,vH5,vH4,O,O⟩)
   refine G9 ?_ ?_
   ·refine G9 ?_ ?_
    ·refine Fg<|B8 fun hl6=>B8 fun hl7=>Z (.q ids 0 g) O O Aa<|Z (.q ids 0 g) O O Aa<|Z (.q ids 0 g) O O Aa<|Z (.I n) O O Aa ?_
     refine Z (.I n) O O Aa<|Z (.q ids 0 g) O O (Al O)<|Z (.q ids 0 g) O O (Af (Ad (c:=0) (off:=0) (i:=0) A7 O As O))<|Z (.ptr (ix ids 0) g 0 5) O O (Af (Ad (c:=0) (off:=5) (i:=5) As O Ax O))<|Ci O O (fun _ _=>O) (fun K hK=>Cy (y:=(false:Bool)) (e:=rB) (st:=1) (j:=1) hI O O O Db Hw O O hl6.1 hl6.2.1 hl6.2.2 O O O O O fun v7 g7 vH6=>hK _ _ (Ab O (Af (Ad (c:=0) (off:=5) (i:=5) As O Ax O)) (Ab O (Af (Ad (c:=0) (off:=0) (i:=0) A7 O As O)) (Ab O (Al O) (Ab O Aa (Y O (Ab O Aa (Ab O Aa (Ab O Aa Ap)))))))) ?_)
     clear hK K
     refine Bb O (fun _ _=>O) (fun K hK=>A2 (A5 (v:=(.I 0)) hI O O O O Ax O O O O O) (hK _ _ (Y O (Y O (Y O (Ab O Aa (Y O (Ab O Aa (Ab O Aa (Y O Ap)))))))) ?_))
     clear hK K
     refine Z (.q ids 0 g) O O (Al O)<|Z (.q ids 0 g) O O (Af (Ad (c:=0) (off:=0) (i:=0) A7 O As O))<|Z (.ptr (ix ids 0) g 0 7) O O (Af (Ad (c:=0) (off:=7) (i:=7) As O Db O))<|Ci O O (fun _ _=>O) (fun K hK=>Cy (y:=(0:Int)) (e:=(rI .i64)) (st:=1) (j:=2) hI O O O B0 Ax O O hl7.1 hl7.2.1 hl7.2.2 O O O O O fun v8 g8 vH7=>hK _ _ (Ab O (Af (Ad (c:=0) (off:=7) (i:=7) As O Db O)) (Ab O (Af (Ad (c:=0) (off:=0) (i:=0) A7 O As O)) (Ab O (Al O) (Y O (Y O (Y O (Y O (Y O (Ab O Aa (Ab O Aa (Y O Ap))))))))))) ?_)
     clear hK K
     refine Bb O (fun _ _=>O) (fun K hK=>A2 (Cj vH6 hI O O O O Db O O O) (hK _ _ (Y O (Y O (Y O (Y O (Y O (Y O (Y O (Y O (Ab O Aa (Y O (Y O Ap))))))))))) ?_))
     clear hK K
     refine Z (.q ids 0 g) O O (Al O)<|Z (.q ids 0 g) O O (Af (Ad (c:=0) (off:=0) (i:=0) A7 O As O))<|Z (.ptr (ix ids 0) g 0 8) O O (Af (Ad (c:=0) (off:=8) (i:=8) As O B0 O))<|Bb O (fun _ _=>O) (fun K hK=>A2 (Cj vH7 hI O O O O B0 O O O) (hK _ _ (Y O (Y O (Y O (Y O (Y O (Y O (Y O (Y O (Y O (Y O (Y O (Y O (Y O (Y O Ap)))))))))))))) ?_))
     clear hK K
     refine A8<|A3 ?_
     exact Bn (hJ ((List.replicate (Int.toNat n) false),(List.replicate (Int.toNat n) 0)) _ _ ⟨v7,g7,v8,g8,vH6,vH7,O,O⟩)
    refine Fg<|B8 fun hl8=>B8 fun hl9=>Z (.q ids 0 g) O O Aa<|Z (.q ids 0 g) O O Aa<|Z (.q ids 0 g) O O Aa<|Z (.I n) O O Aa ?_
    refine Z (.I n) O O Aa<|Z (.q ids 0 g) O O (Al O)<|Z (.q ids 0 g) O O (Af (Ad (c:=0) (off:=0) (i:=0) A7 O As O))<|Z (.ptr (ix ids 0) g 0 5) O O (Af (Ad (c:=0) (off:=5) (i:=5) As O Ax O))<|Bb O (fun _ _=>O) (fun K hK=>A2 (A5 (v:=(.I 0)) hI O O O O Ax O O O O O) (hK _ _ (Y O (Y O (Y O (Ab O Aa (Ab O Aa (Ab O Aa (Ab O Aa (Y O Ap)))))))) ?_))
    clear hK K
    refine Ci O O (fun _ _=>O) (fun K hK=>Cy (y:=(false:Bool)) (e:=rB) (st:=1) (j:=1) hI O O O Db Hw O O hl8.1 hl8.2.1 hl8.2.2 O O O O O fun v9 g9 vH8=>hK _ _ (Y O (Y O (Y O (Ab O Aa (Y O (Ab O Aa (Ab O Aa (Y O Ap)))))))) ?_)
    clear hK K
    refine Z (.q ids 0 g) O O (Al O)<|Z (.q ids 0 g) O O (Af (Ad (c:=0) (off:=0) (i:=0) A7 O As O))<|Z (.ptr (ix ids 0) g 0 7) O O (Af (Ad (c:=0) (off:=7) (i:=7) As O Db O))<|Ci O O (fun _ _=>O) (fun K hK=>Cy (y:=(0:Int)) (e:=(rI .i64)) (st:=1) (j:=2) hI O O O B0 Ax O O hl9.1 hl9.2.1 hl9.2.2 O O O O O fun v10 g10 vH9=>hK _ _ (Ab O (Af (Ad (c:=0) (off:=7) (i:=7) As O Db O)) (Ab O (Af (Ad (c:=0) (off:=0) (i:=0) A7 O As O)) (Ab O (Al O) (Y O (Y O (Y O (Y O (Y O (Ab O Aa (Ab O Aa (Y O Ap))))))))))) ?_)
    clear hK K
    refine Bb O (fun _ _=>O) (fun K hK=>A2 (Cj vH8 hI O O O O Db O O O) (hK _ _ (Y O (Y O (Y O (Y O (Y O (Y O (Y O (Y O (Ab O Aa (Y O (Y O Ap))))))))))) ?_))
    clear hK K
    refine Z (.q ids 0 g) O O (Al O)<|Z (.q ids 0 g) O O (Af (Ad (c:=0) (off:=0) (i:=0) A7 O As O))<|Z (.ptr (ix ids 0) g 0 8) O O (Af (Ad (c:=0) (off:=8) (i:=8) As O B0 O))<|Bb O (fun _ _=>O) (fun K hK=>A2 (Cj vH9 hI O O O O B0 O O O) (hK _ _ (Y O (Y O (Y O (Y O (Y O (Y O (Y O (Y O (Y O (Y O (Y O (Y O (Y O (Y O Ap)))))))))))))) ?_))
    clear hK K
    refine A8<|A3 ?_
    exact Bn (hJ ((List.replicate (Int.toNat n) false),(List.replicate (Int.toNat n) 0)) _ _ ⟨v9,g9,v10,g10,vH8,vH9,O,O⟩)
   refine Fg<|B8 fun hl11=>B8 fun hl10=>Z (.q ids 0 g) O O Aa<|Z (.q ids 0 g) O O Aa<|Z (.q ids 0 g) O O Aa<|Z (.I n) O O Aa ?_
   refine Z (.I n) O O Aa<|Z (.q ids 0 g) O O (Al O)<|Z (.q ids 0 g) O O (Af (Ad (c:=0) (off:=0) (i:=0) A7 O As O))<|Z (.ptr (ix ids 0) g 0 5) O O (Af (Ad (c:=0) (off:=5) (i:=5) As O Ax O))<|Bb O (fun _ _=>O) (fun K hK=>A2 (A5 (v:=(.I 0)) hI O O O O Ax O O O O O) (hK _ _ (Y O (Y O (Y O (Ab O Aa (Ab O Aa (Ab O Aa (Ab O Aa (Y O Ap)))))))) ?_))
   clear hK K
   refine Ci O O (fun _ _=>O) (fun K hK=>Cy (y:=(0:Int)) (e:=(rI .i64)) (st:=1) (j:=2) hI O O O B0 Ax O O hl10.1 hl10.2.1 hl10.2.2 O O O O O fun v11 g11 vH10=>hK _ _ (Y O (Y O (Y O (Y O (Ab O Aa (Ab O Aa (Ab O Aa (Y O Ap)))))))) ?_)
   clear hK K
   refine Ci O O (fun _ _=>O) (fun K hK=>Cy (y:=(false:Bool)) (e:=rB) (st:=1) (j:=1) hI O O O Db Hw O O hl11.1 hl11.2.1 hl11.2.2 O O O O O fun v12 g12 vH11=>hK _ _ (Y O (Y O (Y O (Y O (Y O (Ab O Aa (Ab O Aa (Y O Ap)))))))) ?_)
   clear hK K
   refine Z (.q ids 0 g) O O (Al O)<|Z (.q ids 0 g) O O (Af (Ad (c:=0) (off:=0) (i:=0) A7 O As O))<|Z (.ptr (ix ids 0) g 0 7) O O (Af (Ad (c:=0) (off:=7) (i:=7) As O Db O))<|Bb O (fun _ _=>O) (fun K hK=>A2 (Cj vH11 hI O O O O Db O O O) (hK _ _ (Y O (Y O (Y O (Y O (Y O (Y O (Y O (Y O (Ab O Aa (Y O (Y O Ap))))))))))) ?_))
   clear hK K
   refine Z (.q ids 0 g) O O (Al O)<|Z (.q ids 0 g) O O (Af (Ad (c:=0) (off:=0) (i:=0) A7 O As O))<|Z (.ptr (ix ids 0) g 0 8) O O (Af (Ad (c:=0) (off:=8) (i:=8) As O B0 O))<|Bb O (fun _ _=>O) (fun K hK=>A2 (Cj vH10 hI O O O O B0 O O O) (hK _ _ (Y O (Y O (Y O (Y O (Y O (Y O (Y O (Y O (Y O (Y O (Y O (Y O (Y O (Y O Ap)))))))))))))) ?_))
   clear hK K
   refine A8<|A3 ?_
   exact Bn (hJ ((List.replicate (Int.toNat n) false),(List.replicate (Int.toNat n) 0)) _ _ ⟨v12,g12,v11,g11,vH11,vH10,O,O⟩)
  refine G9 ?_ ?_
  ·refine Fg<|B8 fun hl12=>B8 fun hl13=>Z (.q ids 0 g) O O Aa<|Z (.q ids 0 g) O O Aa<|Z (.q ids 0 g) O O Aa<|Z (.I n) O O Aa ?_
   refine Z (.I n) O O Aa<|Z (.q ids 0 g) O O (Al O)<|Z (.q ids 0 g) O O (Af (Ad (c:=0) (off:=0) (i:=0) A7 O As O))<|Z (.ptr (ix ids 0) g 0 5) O O (Af (Ad (c:=0) (off:=5) (i:=5) As O Ax O))<|Ci O O (fun _ _=>O) (fun K hK=>Cy (y:=(false:Bool)) (e:=rB) (st:=1) (j:=1) hI O O O Db Hw O O hl12.1 hl12.2.1 hl12.2.2 O O O O O fun v13 g13 vH12=>hK _ _ (Ab O (Af (Ad (c:=0) (off:=5) (i:=5) As O Ax O)) (Ab O (Af (Ad (c:=0) (off:=0) (i:=0) A7 O As O)) (Ab O (Al O) (Ab O Aa (Y O (Ab O Aa (Ab O Aa (Ab O Aa Ap)))))))) ?_)
   clear hK K
   refine Bb O (fun _ _=>O) (fun K hK=>A2 (A5 (v:=(.I 0)) hI O O O O Ax O O O O O) (hK _ _ (Y O (Y O (Y O (Ab O Aa (Y O (Ab O Aa (Ab O Aa (Y O Ap)))))))) ?_))
   clear hK K
   refine Z (.q ids 0 g) O O (Al O)<|Z (.q ids 0 g) O O (Af (Ad (c:=0) (off:=0) (i:=0) A7 O As O))<|Z (.ptr (ix ids 0) g 0 7) O O (Af (Ad (c:=0) (off:=7) (i:=7) As O Db O))<|Bb O (fun _ _=>O) (fun K hK=>A2 (Cj vH12 hI O O O O Db O O O) (hK _ _ (Y O (Y O (Y O (Y O (Y O (Y O (Ab O Aa (Y O (Ab O Aa (Y O (Y O Ap))))))))))) ?_))
   clear hK K
   refine Ci O O (fun _ _=>O) (fun K hK=>Cy (y:=(0:Int)) (e:=(rI .i64)) (st:=1) (j:=2) hI O O O B0 Ax O O hl13.1 hl13.2.1 hl13.2.2 O O O O O fun v14 g14 vH13=>hK _ _ (Y O (Y O (Y O (Y O (Y O (Y O (Y O (Y O (Ab O Aa (Y O (Y O Ap))))))))))) ?_)
   clear hK K
   refine Z (.q ids 0 g) O O (Al O)<|Z (.q ids 0 g) O O (Af (Ad (c:=0) (off:=0) (i:=0) A7 O As O))<|Z (.ptr (ix ids 0) g 0 8) O O (Af (Ad (c:=0) (off:=8) (i:=8) As O B0 O))<|Bb O (fun _ _=>O) (fun K hK=>A2 (Cj vH13 hI O O O O B0 O O O) (hK _ _ (Y O (Y O (Y O (Y O (Y O (Y O (Y O (Y O (Y O (Y O (Y O (Y O (Y O (Y O Ap)))))))))))))) ?_))
   clear hK K
   refine A8<|A3 ?_
   exact Bn (hJ ((List.replicate (Int.toNat n) false),(List.replicate (Int.toNat n) 0)) _ _ ⟨v13,g13,v14,g14,vH12,vH13,O,O⟩)
  refine Fg<|B8 fun hl14=>B8 fun hl15=>Z (.q ids 0 g) O O Aa<|Z (.q ids 0 g) O O Aa<|Z (.q ids 0 g) O O Aa<|Z (.I n) O O Aa ?_
  refine Z (.I n) O O Aa<|Z (.q ids 0 g) O O (Al O)<|Z (.q ids 0 g) O O (Af (Ad (c:=0) (off:=0) (i:=0) A7 O As O))<|Z (.ptr (ix ids 0) g 0 5) O O (Af (Ad (c:=0) (off:=5) (i:=5) As O Ax O))<|Bb O (fun _ _=>O) (fun K hK=>A2 (A5 (v:=(.I 0)) hI O O O O Ax O O O O O) (hK _ _ (Y O (Y O (Y O (Ab O Aa (Ab O Aa (Ab O Aa (Ab O Aa (Y O Ap)))))))) ?_))
  clear hK K
  refine Ci O O (fun _ _=>O) (fun K hK=>Cy (y:=(false:Bool)) (e:=rB) (st:=1) (j:=1) hI O O O Db Hw O O hl14.1 hl14.2.1 hl14.2.2 O O O O O fun v15 g15 vH14=>hK _ _ (Y O (Y O (Y O (Ab O Aa (Y O (Ab O Aa (Ab O Aa (Y O Ap)))))))) ?_)
  clear hK K
  refine Z (.q ids 0 g) O O (Al O)<|Z (.q ids 0 g) O O (Af (Ad (c:=0) (off:=0) (i:=0) A7 O As O))<|Z (.ptr (ix ids 0) g 0 7) O O (Af (Ad (c:=0) (off:=7) (i:=7) As O Db O))<|Bb O (fun _ _=>O) (fun K hK=>A2 (Cj vH14 hI O O O O Db O O O) (hK _ _ (Y O (Y O (Y O (Y O (Y O (Y O (Ab O Aa (Y O (Ab O Aa (Y O (Y O Ap))))))))))) ?_))
  clear hK K
  refine Ci O O (fun _ _=>O) (fun K hK=>Cy (y:=(0:Int)) (e:=(rI .i64)) (st:=1) (j:=2) hI O O O B0 Ax O O hl15.1 hl15.2.1 hl15.2.2 O O O O O fun v16 g16 vH15=>hK _ _ (Y O (Y O (Y O (Y O (Y O (Y O (Y O (Y O (Ab O Aa (Y O (Y O Ap))))))))))) ?_)
  clear hK K
  refine Z (.q ids 0 g) O O (Al O)<|Z (.q ids 0 g) O O (Af (Ad (c:=0) (off:=0) (i:=0) A7 O As O))<|Z (.ptr (ix ids 0) g 0 8) O O (Af (Ad (c:=0) (off:=8) (i:=8) As O B0 O))<|Bb O (fun _ _=>O) (fun K hK=>A2 (Cj vH15 hI O O O O B0 O O O) (hK _ _ (Y O (Y O (Y O (Y O (Y O (Y O (Y O (Y O (Y O (Y O (Y O (Y O (Y O (Y O Ap)))))))))))))) ?_))
  clear hK K
  refine A8<|A3 ?_
  exact Bn (hJ ((List.replicate (Int.toNat n) false),(List.replicate (Int.toNat n) 0)) _ _ ⟨v15,g15,v16,g16,vH14,vH15,O,O⟩)
 refine Df O (fun hc=>?_) (fun hc=>?_)
 ·refine Ac<|Aq 6 [0] [(2,(.I s_ReplicaMany))] ?_
  refine Aj<|Bn (hJ1 s_ReplicaMany _ _ ⟨O,O⟩)
 refine Bq<|Bn (hJ1 0 _ _ ⟨O,O⟩)
theorem P9 (id:Int)(many:Int):CP Try.prog 28 [(.int .i64 id),(.int .i64 many)] (J4 id many) (fun(p:(Replica×Int))=>AV.tup [(.agg (Au p.1)),(.int .i64 p.2)]):=by
 refine E8 (n:=28) 4 Try.func28 O (by decide) O O fun h0 ids hI=>B4 (A4 (J4.eq_1 _ _) ?_)
 refine Ae<|Ac<|Ct (j:=0) hI O O O O As O fun g=>Ah (.I 0) O Av<|Aj<|A3 ?_
 refine Ae<|Ae<|Ac<|Ah (.I many) O Aa<|Bj [(.I many),(.I 1),(.I 5)] O O O O ((Cw many 1 5) _) (fun v _=>Bu Try.func28 hI) fun r _=>Aq 2 [] [(10,(.bool (!r)))] ?_
 refine Et 6 ((fun(b:Bool)=>if b then(.ok (({ ID:=0,Many:=0,Term:=0,Vote:=0,Log:=[],Role:=0,Commit:=0,Votes:=[],Match:=[] }:Replica),470)) else((Lm id many 0 (-1) 0 0).bind fun _=>(Iw id many 0 (-1) 0 0).bind fun r2=>.ok (({ ID:=id,Many:=many,Term:=0,Vote:=(-1),Log:=[],Role:=0,Commit:=0,Votes:=r2.1,Match:=r2.2 }:Replica),0))):Bool→R (Replica×Int)) (fun(b:Bool) (fr:Nat→AV) (h:Ag)=>fr=A0 [(0,(.I id)),(1,(.I many)),(4,(.q ids 0 g)),(16,(.bool b))]∧h=hp h0 ids [(some (.rows g 9 [[(.I 0),(.I 0),(.I 0),(.I 0),.emp,(.I 0),(.I 0),.emp,.emp]])),none,none,none]) ?_ fun hJ=>Fy (fun hb1=>?_) (fun hb1=>?_)
 ·rintro b fr h ⟨rfl,rfl⟩
  refine Aj<|Df O (fun hc=>?_) (fun hc=>?_)
  ·refine Ae<|Ac<|Aq 1 [0] [(17,(.agg [(.I 0),(.I 0),(.I 0),(.I 0),.emp,(.I 0),(.I 0),.emp,.emp]))] ?_
   refine Bc (A5 (v:=(.agg [(.I 0),(.I 0),(.I 0),(.I 0),.emp,(.I 0),(.I 0),.emp,.emp])) hI O O O O As O O O O O)<|Ah (.I 470) O Av<|Aj<|C8 (a:=(({ ID:=0,Many:=0,Term:=0,Vote:=0,Log:=[],Role:=0,Commit:=0,Votes:=[],Match:=[] }:Replica),470)) (vs:=[(.agg [(.I 0),(.I 0),(.I 0),(.I 0),.emp,(.I 0),(.I 0),.emp,.emp]),(.I 470)]) Try.func28 hI (Co (Ao hI O O O As O) (El Dj)) (.tupL (.cons (.aggL (.cons (.same _) (.cons (.same _) (.cons (.same _) (.cons (.same _) (.cons (.emp _) (.cons (.same _) (.cons (.same _) (.cons (.emp _) (.cons (.emp _) .nil)))))))))) (.cons (.same _) .nil)))
  refine Bq<|Ae<|Ac<|Aq 3 [] [(20,(.agg [(.I id),(.I many),(.I 0),(.I (-1)),.emp,(.I 0),(.I 0),.emp,.emp]))] ?_
  refine B9 [1] hI O O (W1 id many 0 (-1) 0 0 _ (ix ids 1) (by exact hI.sub' O O)) O O O O O O (fun v _=>Bu Try.func28 hI) ?_
  rintro _ _ _ _ ⟨g1,rfl,rfl⟩
  refine Du [1] hI O O O ?_
  refine Cp<|Ah (.q ids 1 g1) O Av<|Aj<|A3 ?_
  refine Ae<|Ac<|Ah (.q ids 1 g1) O Aa<|B9 [1,2,3] hI O O (S1 id many 0 (-1) 0 0 _ (ix ids 1) (ix ids 2) (ix ids 3) .emp .emp .emp .emp g1 (by exact hI.sub' O O)) O O O O O O (fun v _=>Bu Try.func28 hI) ?_
  rintro r2 _ _ _ ⟨v,g2,v1,g3,vH,vH1,rfl,rfl⟩
  refine Du [1,2,3] hI O O O ?_
  refine Cp<|Aj<|A3 ?_
  refine Ae<|Ac<|Aq 4 [1] [(27,(.agg [(.I id),(.I many),(.I 0),(.I (-1)),.emp,(.I 0),(.I 0),v,v1]))] ?_
  refine Bc (A5 (v:=(.agg [(.I id),(.I many),(.I 0),(.I (-1)),.emp,(.I 0),(.I 0),v,v1])) hI O O O O As O O O O (Ay O (Ay O (Ay O (Ay O (Ay O (Ay O (Ay O (Ay (Bk.flat vH) (Ay (Bk.flat vH1) Gn))))))))))<|Ah (.I 0) O Av<|Aj<|A3 ?_
  exact C8 (a:=(({ ID:=id,Many:=many,Term:=0,Vote:=(-1),Log:=[],Role:=0,Commit:=0,Votes:=r2.1,Match:=r2.2 }:Replica),0)) (vs:=[(.agg [(.I id),(.I many),(.I 0),(.I (-1)),.emp,(.I 0),(.I 0),v,v1]),(.I 0)]) Try.func28 hI (Co (Ao hI O O O As O) (El Dj)) (.tupL (.cons (.aggL (.cons (.same _) (.cons (.same _) (.cons (.same _) (.cons (.same _) (.cons (.emp _) (.cons (.same _) (.cons (.same _) (.cons (D1 vH (hI.at O O) (hI.out O) (fun x=>Qz x)) (.cons (D1 vH1 (hI.at O O) (hI.out O) (fun x=>I7 x)) .nil)))))))))) (.cons (.same _) .nil)))
 ·refine Bl (t:=10) hb1 O<|Aq 6 [] [(16,(.bool true))] ?_
  refine Bt<|C9 [(0,(.I id)),(1,(.I many)),(4,(.q ids 0 g)),(16,(.bool true))] (FI O)<|hJ true _ _ ⟨O,O⟩
 refine Bl (t:=10) hb1 O<|Aq 3 [] [(13,(.I (IntKind.wrap .i64 (many - 1)))),(11,(.I id))] ?_
 refine Bj [(.I id),(.I 0),(.I (IntKind.wrap .i64 (many - 1)))] O (Fr (tj:=10) O O) O O ((Cw id 0 (IntKind.wrap .i64 (many - 1))) _) (fun v _=>Bu Try.func28 hI) fun r1 _=>Aq 2 [] [(16,(.bool (!r1)))] ?_
 refine Bt<|C9 [(0,(.I id)),(1,(.I many)),(4,(.q ids 0 g)),(16,(.bool (!r1)))] (FI O)<|hJ (!r1) _ _ ⟨O,O⟩
theorem Dt (ok:Bool)(e:Int):CP Try.prog 37 [(.bool ok),(.int .i64 e)] (Ba ok e) (fun(_:Unit)=>AV.tup []):=by
 refine E8 (n:=9) 0 Try.func37 O (by decide) O O fun h0 ids hI=>B4 (A4 (Ba.eq_1 _ _) ?_)
 refine Ae<|Ac<|Aq 2 [] [(5,(.bool (!ok)))] ?_
 refine Aj<|P5 O (fun hc=>?_) (fun hc=>?_)
 ·refine Bq<|Abm (a:=()) (vs:=[]) Try.func37 hI O (.tupL .nil)
 refine Ac<|Aq 3 [] [(8,(.iface 105 (.agg [(.I e)])))] ?_
 exact Acf (v:=⟨105,.one .i64 e⟩) O O (Bu Try.func37 hI)
theorem S9 (l:List Record)(term:Int):CP Try.prog 45 [(.sl 2 (List.map An l)),(.int .i64 term)] (Fu l term) (fun(x:Bool)=>(AV.bool x)):=by
 refine E8 (n:=35) 1 Try.func45 O (by decide) O O fun h0 ids hI=>B4 (A4 (Fu.eq_1 _ _) ?_)
 refine Ae<|Ac<|Ah (.bool false) O Av<|Aj<|Ae<|Ae<|Ac ?_
 refine Ah (.sl 2 (List.map An l)) O Aa<|Ah (.I (l.length:Int)) O (B6 (Ch Bo))<|Ah (.I 0) O Aa<|Aj<|Cd<|I9 [(0,(.sl 2 (List.map An l))),(1,(.I term)),(7,(.sl 2 (List.map An l))),(8,(.I (l.length:Int))),(9,(.I 0))] (FI O)<|Uo (P:=Try.prog) l (fun j a=>fun _=>Iy l term j a) ((Ls (fun _=>.ok true) (fun r=>.ok r)):(Unit ⊕ Bool)→R Bool) (fun j=>fun _=>fun(fr:Nat→AV) (h:Ag)=>fr=A0 [(0,(.sl 2 (List.map An l))),(1,(.I term)),(7,(.sl 2 (List.map An l))),(8,(.I (l.length:Int))),(9,(.I (j:Int)))]∧h=hp h0 ids [none]) () ?_ ?_ ?_
 ·exact⟨O,O⟩
 ·rintro j a ha W hW _ fr h ⟨rfl,rfl⟩
  refine A4 (m':=Iy l term j a) O (A4 (Iy.eq_1 _ _ _ _) ?_)
  refine Ae<|Ac<|Ah (.bool (decide ((j:Int)<(l.length:Int)))) O (Bf O O O)<|Aj<|Ae<|Om (t:=0) (L:=l) O fun hlim=>Kg O (Int.ofNat_lt.2 (Cl ha)) ?_
  refine Bq<|Ae<|Cd<|Ae<|Ac<|Ah (.I (j:Int)) O Aa<|Ah (.cp (An a) 0) O (Br (Qa Bo D0 O ha)) ?_
  refine Ah (.agg (An a)) O (Ak (E6 D0 O))<|Ct (j:=0) hI O O O O D0 O fun g=>Ah (.I (j:Int)) O Av<|Bc (A5 (v:=(.agg (An a))) hI O O O O D0 O O O O O)<|Aj<|A3 ?_
  refine Ae<|Ec (fun x1=>Gw x1) (fun x1=>fun(fr:Nat→AV) (h:Ag)=>fr=A0 [(0,(.sl 2 (List.map An l))),(1,(.I term)),(7,(.sl 2 (List.map An l))),(8,(.I (l.length:Int))),(9,(.I (j:Int))),(33,(.bool x1))]∧h=hp h0 ids [none]) ?_ fun hJ=>?_
  ·rintro x1 fr h ⟨rfl,rfl⟩
   refine A4 (Gw.eq_1 _)<|Df O (fun hc=>?_) (fun hc=>?_)
   ·refine Ae<|Ac<|Ah (.bool false) O Av<|Aj<|Wl<|Vt<|C8 (a:=false) (vs:=[(.bool false)]) Try.func45 hI O (.same _)
   refine Bq<|B5<|Ac<|Aq 2 [] [(9,(.I (IntKind.wrap .i64 ((j:Int)+1))))] ?_
   refine Aj<|Bn (Ww (hW () _ _ ⟨O,O⟩)) (.cons O (.cons O (.cons O (.cons O (.cons (Jw (Cl ha) hlim) .nil)))))
  refine Bv De [[],[0],[],[0,1,2],[0,1,2,3],[0,1,2,3,4],[0,1,2,3,4,5],[0,1,2,3,4,5,6],[0,1,2,3,4,5,6,7],[0,1,2,3,4,5,6,7,8],[0,1,2,3,4,5,6,7,8],[0,1,2,3,4,5,6,7,8,10],[0,1,2,3,4,5,6,7,8,9,10,11],[0,1,2,3,4,5,6,7,8,9,10,11,12],[0,1,2,3,4,5,6,7,8,9,10,11,12,13],[0,1,2,3,4,5,6,7,8],[0,1,2,3,4,5,6,7,8,15],[0,1,2,3,4,5,6,7,8,9,10,11,12,13,14,15,16],[0,1,2,3,4,5,6,7,8,9,10,11,12,13,14,15,16,17],[0,1,2,3,4,5,6,7,8,9,10,11,12,13,14,15,16,17,18]] [(false,0),(false,1),(false,2),(true,3),(false,4),(false,5),(false,6),(false,7),(false,8),(false,9),(false,10),(false,11),(false,12),(false,13),(false,14),(false,15),(false,16),(false,17),(false,18),(false,19)] (by kernel_rfl)<|Z (.q ids 0 g) O O (Af (Ad (c:=0) (off:=0) (i:=0) D0 O Ax O))<|Z (.I a.Term) O O (Ak (Ao hI O O O Ax O))<|Z (.I term) O O Aa<|Ez [(.I a.Term),(.I 1),(.I term)] O O O O O ((Cw a.Term 1 term) _) (fun v _ _ _=>Bu Try.func45 hI) (Y O (Y O (Y O Ap))) fun r _=>Z (.bool (!r)) O O (Qf O)<|Z (.bool (!r)) O O Aa ?_
  refine Fe (fun hb=>?_) (fun hb=>?_)
  ·refine Ar (tj:=19) (b:=true) O O (congrArg AV.bool hb) O O<|Ar (tj:=19) (b:=true) O O (congrArg AV.bool hb) O O<|Ar (tj:=19) (b:=true) O O (congrArg AV.bool hb) O O<|Bp (tj:=22) O O O O<|Bp (tj:=22) O O O O<|Bp (tj:=22) O O O O<|Bp (tj:=22) O O O O ?_
   refine Bp (tj:=22) O O O O<|Bp (tj:=22) O O O O<|Bp (tj:=22) O O O O<|Bp (tj:=22) O O O O<|Bp (tj:=22) O O O O<|Ar (tj:=19) (b:=true) O O (congrArg AV.bool hb) O O<|Z (.bool true) O O (Be (t:=true) (congrArg AV.bool hb) O) ?_
   refine A8<|D4 [none] hI O (.drop .nil)<|Bn (hJ true _ _ ⟨O,O⟩)
  refine Aw (tj:=19) (.I (j:Int)) O O (congrArg AV.bool hb) O Aa<|Aw (tj:=19) (.bool (decide ((j:Int) > 0))) O O (congrArg AV.bool hb) O (Bf O O O)<|Aw (tj:=19) (.bool (decide ((j:Int) > 0))) O O (congrArg AV.bool hb) O Aa<|Fe (fun hb1=>?_) (fun hb1=>?_)
  ·refine Aw (tj:=22) (.sl 2 (List.map An l)) O O (congrArg AV.bool hb1) O Aa<|Aw (tj:=22) (.I (j:Int)) O O (congrArg AV.bool hb1) O Aa<|Aw (tj:=22) (.I (IntKind.wrap .i64 ((j:Int) - 1))) O O (congrArg AV.bool hb1) O (Bf O O O)<|I4 fun a1 hz hx1=>Aw (tj:=22) (.cp (An a1) 0) O O (congrArg AV.bool hb1) O (Br (Eo Bo D0 O hz hx1))<|Aw (tj:=22) (.cp (An a1) 0) O O (congrArg AV.bool hb1) O (Af (Jp (c:=0) (off:=0) (i:=0) D0 O Ax O))<|Aw (tj:=22) (.I a1.Term) O O (congrArg AV.bool hb1) O (Ak (E6 Ax O)) ?_
   refine Aw (tj:=22) (.q ids 0 g) O O (congrArg AV.bool hb1) O (Af (Ad (c:=0) (off:=0) (i:=0) D0 O Ax O))<|Aw (tj:=22) (.I a.Term) O O (congrArg AV.bool hb1) O (Ak (Ao hI O O O Ax O))<|Aw (tj:=22) (.bool (decide (a1.Term > a.Term))) O O (congrArg AV.bool hb1) O (Bf O O O)<|Aw (tj:=19) (.bool (decide (a1.Term > a.Term))) O O (congrArg AV.bool hb) O (Be (t:=true) (congrArg AV.bool hb1) O)<|Z (.bool (decide (a1.Term > a.Term))) O O (Be (t:=false) (congrArg AV.bool hb) O)<|A8<|D4 [none] hI O (.drop .nil) ?_
   exact Bn (hJ (decide (a1.Term > a.Term)) _ _ ⟨O,O⟩)
  refine Ar (tj:=22) (b:=false) O O (congrArg AV.bool hb1) O O<|Ar (tj:=22) (b:=false) O O (congrArg AV.bool hb1) O O<|Ar (tj:=22) (b:=false) O O (congrArg AV.bool hb1) O O<|Ar (tj:=22) (b:=false) O O (congrArg AV.bool hb1) O O<|Ar (tj:=22) (b:=false) O O (congrArg AV.bool hb1) O O<|Ar (tj:=22) (b:=false) O O (congrArg AV.bool hb1) O O<|Ar (tj:=22) (b:=false) O O (congrArg AV.bool hb1) O O ?_
  refine Ar (tj:=22) (b:=false) O O (congrArg AV.bool hb1) O O<|Ar (tj:=22) (b:=false) O O (congrArg AV.bool hb1) O O<|Aw (tj:=19) (.bool false) O O (congrArg AV.bool hb) O (Be (t:=false) (congrArg AV.bool hb1) O)<|Z (.bool false) O O (Be (t:=false) (congrArg AV.bool hb) O)<|A8<|D4 [none] hI O (.drop .nil)<|Bn (hJ false _ _ ⟨O,O⟩)
 rintro _ fr h ⟨rfl,rfl⟩
 refine A4 (Wu _ _ _)<|Ae<|Ac<|Ah (.bool (decide ((l.length:Int)<(l.length:Int)))) O (Bf O O O)<|Aj<|Ae<|Kc O (Int.lt_irrefl _) ?_
 refine Hl O<|Ae<|Ac<|Ah (.bool true) O Av<|Aj<|C8 (a:=true) (vs:=[(.bool true)]) Try.func45 hI O (.same _)
theorem Od (w:AV):CP Try.prog 35 [.nili,w] (H6) (fun(_:Unit)=>AV.tup []):=by
 refine E8 (n:=17) 0 Try.func35 O (by decide) O O fun h0 ids hI=>B4 (A4 (H6.eq_1) ?_)
 refine Ae<|Ac<|Ah .nili O Aa<|Aj<|Cd<|Ae<|Ac ?_
 refine Ah (.bool true) O (Bf O O (Ajr Aer))<|Aj<|Ln true O<|Ac<|Ah .nili O Av<|Aj<|B5 ?_
 exact Abm (a:=()) (vs:=[]) Try.func35 hI O (.tupL .nil)
theorem Ut (a0:AV)(h:Ag):I5 Try.prog 52 [a0] .ret h (P2 (fun _:Unit=>h) .ret (.ok ())):=by
 refine Nv (n:=3) Try.func52 O (by decide) O O ?_ ⟨(),O⟩
 refine B4 (A4 (m':=(H6).bind fun _ =>   .ok ()) O ?_)
 refine Ac<|Wz O<|Bj [.nili,a0] O O O O ((Od a0) _) (fun v hv=>by unfold H6 at hv; cases hv) fun _ _=>?_
 refine Aj<|O9 Try.func52 O O O
theorem Nb (p:T104)(h0:Ag)(o0:Nat)(r:List AV)(g:Nat)(hr:r.length=1)(hI0:Ids h0 [o0] 1):Ei p≠.bad→Bm Try.prog 35 [(.iface 105 (.agg (Zc p))),(.ptr o0 g 0 0)] (hp h0 [o0] [some (.rows g 1 [r])]) (Ef (fun a_ v h'=>v=(.tup [])∧h'=hp h0 [o0] [some (.rows g 1 [[(.int .i64 p.fE)]])]) h0 (Ei p)):=by
 refine Cg (n:=17) 1 Try.func35 O (by decide) O O hI0 O fun ids he hI=>?_
 clear hI0
 obtain rfl:ix ids 0=o0:=he 0 rfl
 clear he
 refine B4 (A4 (Ei.eq_1 _) ?_)
 refine A3 ?_
 refine Ae<|Ac<|Ah (.iface 105 (.agg (Zc p))) O Aa<|Aj<|Cd<|Ae<|Ac ?_
 refine Ah (.bool false) O (Bf O O (Ai1 Aer))<|Aj<|Ln false O<|Ae<|Ac<|Ah (.tup [(.agg (Zc p)),(.bool true)]) O (Aeq (Ajn Ad2 (by decide)))<|Aq 2 [] [(12,(.agg (Zc p))),(11,(.bool true))] ?_
 refine Aj<|Ln true O<|Ae<|Ac<|Ct (j:=1) hI O O O O Ad2 O fun g1=>Bc (A5 (v:=(.agg (Zc p))) hI O O O O Ad2 O O O O O)<|Aj ?_
 refine A3 ?_
 refine Ac<|Aq 4 [1] [(16,(.q ids 0 g)),(15,(.I p.fE))] ?_
 refine Bc (Wp (v:=(.I p.fE)) hI O O O Gq O O O hr O)<|Aj<|A3 ?_
 refine B5<|E2 (K:=1) (N:=1) (a:=()) (vs:=[]) [some (.rows g 1 [[(.I p.fE)]])] Try.func35 hI O O O (.keep (.drop .nil)) (.same _) ⟨O,O⟩
theorem Ry (n:Int)(h0:Ag)(ids:List Nat)(hI:Ids h0 ids 1)(g0_:Nat)(r0_:List AV)(hr0_:r0_.length=1):(∃ a,E3 n=.ok a)→I5 Try.prog 52 [(.ptr (ix ids 0) g0_ 0 0)] (.pan (.iface 105 (.agg [.int .i64 n])) false) (hp h0 ids [some (.rows g0_ 1 [r0_])]) (P2 (fun p=>hp h0 ids [some (.rows g0_ 1 [[(.int .i64 p)]])]) (.pan (.iface 105 (.agg [.int .i64 n])) true) (E3 n)):=by
 refine Nv (n:=3) Try.func52 O (by decide) O O<|B4 (A4 (E3.eq_1 _) ?_)
 refine Ac<|Wr O<|B9 [0] hI O O (Nb ({ fE:=n }:T104) _ (ix ids 0) r0_ g0_ hr0_ (by exact hI.sub' O O)) O O O O O O (fun v hv=>by unfold Ei at hv; cases hv) ?_
 rintro _ _ _ _ ⟨rfl,rfl⟩
 refine Du [0] hI O O O ?_
 refine Cp<|Aj<|A3 ?_
 exact O9 (a:=(({ fE:=n }:T104).fE)) Try.func52 O O O
theorem J8 (r:Replica):CP Try.prog 22 [(.agg (Au r))] (Dl r) (fun(x:Int)=>(AV.int .i64 x)):=by
 show CP _ _ _ ((Iu r).catch' (Hd 105 .i64 (fun n=>(E3 n).bind fun p=>.ok p) (fun _=>.bad))) _
 refine S5 (n:=121) 2 Try.func22 O (by decide) O O fun h0 ids hI=>?_
 have hU : ∀ (v:PV) (fr:Nat→AV) (xs:List (Option AO)) (g0_:Nat) (r0_:List AV) (hl_:xs.length=2) (hr0_:r0_.length=1) (hy_:xs.take 1=[some (.rows g0_ 1 [r0_])]) (hq2_:fr 2=.q ids 0 g0_),WU Try.prog 22 121 false (Mj (fun(x:Int)=>(AV.I x)) h0 (Hd 105 .i64 (fun n=>(E3 n).bind fun p=>.ok p) (fun _=>.bad))) (.pan v) (.pan v.av false) fr [⟨52,[.q ids 0 g0_]⟩] (hp h0 ids xs) .ret:=by
  intro v fr xs g0_ r0_ hl_ hr0_ hy_ hq2_
  refine Aeg (t:=105) (k1:=.i64) O (fun n hv=>?_) (fun hne105=>?_)
  ·subst hv
   exact Un (Hc:=E3 n) (fin:=fun p=>p) (c:=1) (cells:=fun p=>[some (.rows g0_ 1 [[(.I p)]])]) (vs:=fun p=>[(.I p)]) Try.func22 hI hl_ O hy_ (by first | (rw [O5]; done) | (rw [O5]; rfl)) (fun hx=>by have:=Ry n h0 (ids.take 1) (hI.take O) g0_ r0_ hr0_ hx; simp only [K0 (c:=1) (j:=0) O] at this; exact this) (by intro w; simp [E3,Ei]) (fun p=>(Me hq2_ (P8 (hI.take O) (K0 O) O O O Gq O) Dj)) (fun p=>(.same _))
  exact Aau (by rw [V3 hne105])
 refine B4 (A4 (Iu.eq_1 _) ?_)
 refine Ae<|Ac<|Dq (v:=(.agg (Au r))) (j:=1) hI O O O O O O O fun g=>Ct (j:=0) hI O O O O Gq O fun g1=>Aj<|A3 ?_
 refine Ae<|Ac<|Ah (.func (.func 52) [] [(.q ids 0 g1)]) O Wt<|Us O O O ?_
 refine Aj<|Ae<|Ac<|Aq 2 [1] [(7,(.I r.Many))] ?_
 refine Bj [(.I r.Many),(.I 1),(.I 5)] O O O O ((Cw r.Many 1 5) _) (fun v _=>hU v _ _ _ _ O O O O) fun r1 _=>Ah (.bool r1) O Aa<|Et 7 ((fun(b:Bool)=>(if b then(Bi r.Term 0 1048576).bind fun r3=>R.ok r3 else R.ok false).bind (fun(b1:Bool)=>(if b1 then(Bi r.Vote (-1) (IntKind.wrap .i64 (r.Many - 1))).bind fun r4=>R.ok r4 else R.ok false).bind (fun(b2:Bool)=>(Ba b2 470).bind fun _=>(Fu r.Log r.Term).bind fun r6=>(if r6 then(Bi r.Role 0 2).bind fun r7=>R.ok r7 else R.ok false).bind (fun(b3:Bool)=>(if b3 then(Bi r.Commit 0 (r.Log.length:Int)).bind fun r8=>R.ok r8 else R.ok false).bind (fun(b4:Bool)=>(Ba ((b4&&((r.Votes.length:Int)==r.Many))&&((r.Match.length:Int)==r.Many)) 470).bind fun _=>(E7 (fun j a=>fun _=>Eg r j a) 0 r.Match ()).bind ((fun _=>(if(r.Role==0) then R.ok true else(if((r.Vote==r.ID)&&(decide (r.Term≥1))) then(Cs r.Votes r.ID).bind fun a2=>R.ok a2 else R.ok false).bind (fun(b8:Bool)=>R.ok b8)).bind (fun(b7:Bool)=>(Ba b7 470).bind fun _=>.ok 0)))))))):Bool→R Int) (fun(b:Bool) (fr:Nat→AV) (h:Ag)=>fr=A0 [(1,(.q ids 1 g)),(2,(.q ids 0 g1)),(16,(.bool b))]∧h=hp h0 ids [(some (.rows g1 1 [[(.I 0)]])),(some (.rows g 9 [(Au r)]))]) ?_ fun hJ=>Fy (fun hb1=>?_) (fun hb1=>?_)
 ·rintro b fr h ⟨rfl,rfl⟩
  refine Ah (.bool b) O Aa<|Et 4 ((fun(b1:Bool)=>(if b1 then(Bi r.Vote (-1) (IntKind.wrap .i64 (r.Many - 1))).bind fun r4=>R.ok r4 else R.ok false).bind (fun(b2:Bool)=>(Ba b2 470).bind fun _=>(Fu r.Log r.Term).bind fun r6=>(if r6 then(Bi r.Role 0 2).bind fun r7=>R.ok r7 else R.ok false).bind (fun(b3:Bool)=>(if b3 then(Bi r.Commit 0 (r.Log.length:Int)).bind fun r8=>R.ok r8 else R.ok false).bind (fun(b4:Bool)=>(Ba ((b4&&((r.Votes.length:Int)==r.Many))&&((r.Match.length:Int)==r.Many)) 470).bind fun _=>(E7 (fun j a=>fun _=>Eg r j a) 0 r.Match ()).bind ((fun _=>(if(r.Role==0) then R.ok true else(if((r.Vote==r.ID)&&(decide (r.Term≥1))) then(Cs r.Votes r.ID).bind fun a2=>R.ok a2 else R.ok false).bind (fun(b8:Bool)=>R.ok b8)).bind (fun(b7:Bool)=>(Ba b7 470).bind fun _=>.ok 0))))))):Bool→R Int) (fun(b1:Bool) (fr:Nat→AV) (h:Ag)=>fr=A0 [(1,(.q ids 1 g)),(2,(.q ids 0 g1)),(21,(.bool b1))]∧h=hp h0 ids [(some (.rows g1 1 [[(.I 0)]])),(some (.rows g 9 [(Au r)]))]) ?_ fun hJ1=>Fy (fun hb3=>?_) (fun hb3=>?_)
  ·rintro b1 fr h ⟨rfl,rfl⟩
   refine Ah (.bool b1) O Aa<|Et 7 ((fun(b2:Bool)=>(Ba b2 470).bind fun _=>(Fu r.Log r.Term).bind fun r6=>(if r6 then(Bi r.Role 0 2).bind fun r7=>R.ok r7 else R.ok false).bind (fun(b3:Bool)=>(if b3 then(Bi r.Commit 0 (r.Log.length:Int)).bind fun r8=>R.ok r8 else R.ok false).bind (fun(b4:Bool)=>(Ba ((b4&&((r.Votes.length:Int)==r.Many))&&((r.Match.length:Int)==r.Many)) 470).bind fun _=>(E7 (fun j a=>fun _=>Eg r j a) 0 r.Match ()).bind ((fun _=>(if(r.Role==0) then R.ok true else(if((r.Vote==r.ID)&&(decide (r.Term≥1))) then(Cs r.Votes r.ID).bind fun a2=>R.ok a2 else R.ok false).bind (fun(b8:Bool)=>R.ok b8)).bind (fun(b7:Bool)=>(Ba b7 470).bind fun _=>.ok 0)))))):Bool→R Int) (fun(b2:Bool) (fr:Nat→AV) (h:Ag)=>fr=A0 [(1,(.q ids 1 g)),(2,(.q ids 0 g1)),(29,(.bool b2))]∧h=hp h0 ids [(some (.rows g1 1 [[(.I 0)]])),(some (.rows g 9 [(Au r)]))]) ?_ fun hJ2=>Fy (fun hb5=>?_) (fun hb5=>?_)
   ·rintro b2 fr h ⟨rfl,rfl⟩
    refine Bj [(.bool b2),(.I 470)] O O O O ((Dt b2 470) _) (fun v _=>hU v _ _ _ _ O O O O) fun _ _=>Aj<|Ae<|Ac<|Aq 4 [1,1] [(34,(.I r.Term)),(32,(.sl 2 (List.map An r.Log)))] ?_
    refine Bj [(.sl 2 (List.map An r.Log)),(.I r.Term)] O O O O ((S9 r.Log r.Term) _) (fun v _=>hU v _ _ _ _ O O O O) fun r6 _=>Ah (.bool r6) O Aa<|Et 4 ((fun(b3:Bool)=>(if b3 then(Bi r.Commit 0 (r.Log.length:Int)).bind fun r8=>R.ok r8 else R.ok false).bind (fun(b4:Bool)=>(Ba ((b4&&((r.Votes.length:Int)==r.Many))&&((r.Match.length:Int)==r.Many)) 470).bind fun _=>(E7 (fun j a=>fun _=>Eg r j a) 0 r.Match ()).bind ((fun _=>(if(r.Role==0) then R.ok true else(if((r.Vote==r.ID)&&(decide (r.Term≥1))) then(Cs r.Votes r.ID).bind fun a2=>R.ok a2 else R.ok false).bind (fun(b8:Bool)=>R.ok b8)).bind (fun(b7:Bool)=>(Ba b7 470).bind fun _=>.ok 0))))):Bool→R Int) (fun(b3:Bool) (fr:Nat→AV) (h:Ag)=>fr=A0 [(1,(.q ids 1 g)),(2,(.q ids 0 g1)),(40,(.bool b3))]∧h=hp h0 ids [(some (.rows g1 1 [[(.I 0)]])),(some (.rows g 9 [(Au r)]))]) ?_ fun hJ3=>Fy (fun hb7=>?_) (fun hb7=>?_)
    ·rintro b3 fr h ⟨rfl,rfl⟩
     refine Ah (.bool b3) O Aa<|Et 7 ((fun(b4:Bool)=>(Ba ((b4&&((r.Votes.length:Int)==r.Many))&&((r.Match.length:Int)==r.Many)) 470).bind fun _=>(E7 (fun j a=>fun _=>Eg r j a) 0 r.Match ()).bind ((fun _=>(if(r.Role==0) then R.ok true else(if((r.Vote==r.ID)&&(decide (r.Term≥1))) then(Cs r.Votes r.ID).bind fun a2=>R.ok a2 else R.ok false).bind (fun(b8:Bool)=>R.ok b8)).bind (fun(b7:Bool)=>(Ba b7 470).bind fun _=>.ok 0)))):Bool→R Int) (fun(b4:Bool) (fr:Nat→AV) (h:Ag)=>fr=A0 [(1,(.q ids 1 g)),(2,(.q ids 0 g1)),(48,(.bool b4))]∧h=hp h0 ids [(some (.rows g1 1 [[(.I 0)]])),(some (.rows g 9 [(Au r)]))]) ?_ fun hJ4=>Fy (fun hb9=>?_) (fun hb9=>?_)
     ·rintro b4 fr h ⟨rfl,rfl⟩
      refine Ah (.bool b4) O Aa<|C7 7 [(1,(.q ids 1 g)),(2,(.q ids 0 g1)),(56,(.bool (b4&&((r.Votes.length:Int)==r.Many))))] ?_ fun hJ5=>Cq b4 (fun hb11=>?_) (fun hb11=>?_)
      ·refine Ah (.bool (b4&&((r.Votes.length:Int)==r.Many))) O Aa<|C7 7 [(1,(.q ids 1 g)),(2,(.q ids 0 g1)),(64,(.bool ((b4&&((r.Votes.length:Int)==r.Many))&&((r.Match.length:Int)==r.Many))))] ?_ fun hJ6=>Cq (b4&&((r.Votes.length:Int)==r.Many)) (fun hb13=>?_) (fun hb13=>?_)
       ·refine Bj [(.bool ((b4&&((r.Votes.length:Int)==r.Many))&&((r.Match.length:Int)==r.Many))),(.I 470)] O O O O ((Dt ((b4&&((r.Votes.length:Int)==r.Many))&&((r.Match.length:Int)==r.Many)) 470) _) (fun v _=>hU v _ _ _ _ O O O O) fun _ _=>Aj<|Ae<|Ae<|Ac<|Aq 2 [1] [(67,(.sl 1 (List.map (rI .i64) r.Match)))] ?_
        refine Ah (.I (r.Match.length:Int)) O (B6 (Ch B0))<|Ah (.I 0) O Aa<|Aj<|Cd<|I9 [(1,(.q ids 1 g)),(2,(.q ids 0 g1)),(67,(.sl 1 (List.map (rI .i64) r.Match))),(68,(.I (r.Match.length:Int))),(69,(.I 0))] (FI O)<|Nn (P:=Try.prog) r.Match (fun j a=>fun _=>Eg r j a) (((fun _=>(if(r.Role==0) then R.ok true else(if((r.Vote==r.ID)&&(decide (r.Term≥1))) then(Cs r.Votes r.ID).bind fun a2=>R.ok a2 else R.ok false).bind (fun(b8:Bool)=>R.ok b8)).bind (fun(b7:Bool)=>(Ba b7 470).bind fun _=>.ok 0))):Unit→R Int) (fun j=>fun _=>fun(fr:Nat→AV) (h:Ag)=>fr=A0 [(1,(.q ids 1 g)),(2,(.q ids 0 g1)),(67,(.sl 1 (List.map (rI .i64) r.Match))),(68,(.I (r.Match.length:Int))),(69,(.I (j:Int)))]∧h=hp h0 ids [(some (.rows g1 1 [[(.I 0)]])),(some (.rows g 9 [(Au r)]))]) () ?_ ?_ ?_
        ·exact⟨O,O⟩
        ·rintro j a ha W hW _ fr h ⟨rfl,rfl⟩
         refine A4 (m':=Eg r j a) O (A4 (Eg.eq_1 _ _ _) ?_)
         refine Ae<|Ac<|Ah (.bool (decide ((j:Int)<(r.Match.length:Int)))) O (Bf O O O)<|Aj<|Ae<|Om (t:=67) (L:=r.Match) O fun hlim=>Kg O (Int.ofNat_lt.2 (Cl ha)) ?_
         refine Bq<|Ae<|Cd<|Ae<|Ac<|Ah (.I (j:Int)) O Aa<|Ah (.cp [(.I a)] 0) O (Br (Qa B0 Ax O ha)) ?_
         refine Aq 3 [] [(4,(.I a)),(3,(.I (j:Int)))] ?_
         refine Aj<|Ae<|Ac<|Aq 3 [1] [(76,(.sl 2 (List.map An r.Log))),(74,(.I a))] ?_
         refine Ah (.I (r.Log.length:Int)) O (B6 (Ch Bo))<|Bj [(.I a),(.I 0),(.I (r.Log.length:Int))] O O O O ((Cw a 0 (r.Log.length:Int)) _) (fun v _=>hU v _ _ _ _ O O O O) fun r10 _=>Bj [(.bool r10),(.I 470)] O O O O ((Dt r10 470) _) (fun v _=>hU v _ _ _ _ O O O O) fun _ _=>Aj<|Ac<|Aq 4 [1] [(83,(.bool (r.Role != 0)))] ?_
         refine Et 11 ((fun(b5:Bool)=>(Ba b5 470).bind fun _=>.ok ()):Bool→R Unit) (fun(b5:Bool) (fr:Nat→AV) (h:Ag)=>fr=A0 [(1,(.q ids 1 g)),(2,(.q ids 0 g1)),(67,(.sl 1 (List.map (rI .i64) r.Match))),(68,(.I (r.Match.length:Int))),(69,(.I (j:Int))),(94,(.bool b5))]∧h=hp h0 ids [(some (.rows g1 1 [[(.I 0)]])),(some (.rows g 9 [(Au r)]))]) ?_ fun hJ7=>Fy (fun hb15=>?_) (fun hb15=>?_)
         ·rintro b5 fr h ⟨rfl,rfl⟩
          refine Bj [(.bool b5),(.I 470)] O O O O ((Dt b5 470) _) (fun v _=>hU v _ _ _ _ O O O O) fun _ _=>Aj<|B5<|Ac<|Aq 2 [] [(69,(.I (IntKind.wrap .i64 ((j:Int)+1))))] ?_
          refine Aj<|Bn (Ra (hW () _ _ ⟨O,O⟩)) (.cons O (.cons O (.cons O (.cons O (.cons (Jw (Cl ha) hlim) .nil)))))
         ·refine Bl (t:=83) hb15 O<|Aq 11 [] [(94,(.bool true)),(93,.und),(92,.und),(91,.und),(90,.und),(89,.und),(88,.und),(87,.und),(86,.und),(85,.und),(84,.und)] ?_
          refine Bt<|C9 [(1,(.q ids 1 g)),(2,(.q ids 0 g1)),(67,(.sl 1 (List.map (rI .i64) r.Match))),(68,(.I (r.Match.length:Int))),(69,(.I (j:Int))),(94,(.bool true))] (FI O)<|hJ7 true _ _ ⟨O,O⟩
         refine Bl (t:=83) hb15 O<|Aq 3 [] [(86,(.bool (a==0))),(85,(.bool (a==0))),(84,(.I a))] ?_
         refine Et 7 ((fun(b6:Bool)=>R.ok b6):Bool→R Bool) (fun(b6:Bool) (fr:Nat→AV) (h:Ag)=>fr=A0 [(1,(.q ids 1 g)),(2,(.q ids 0 g1)),(67,(.sl 1 (List.map (rI .i64) r.Match))),(68,(.I (r.Match.length:Int))),(69,(.I (j:Int))),(83,(.bool false)),(84,(.I a)),(85,(.bool (a==0))),(86,(.bool (a==0))),(93,(.bool b6))]∧h=hp h0 ids [(some (.rows g1 1 [[(.I 0)]])),(some (.rows g 9 [(Au r)]))]) ?_ fun hJ8=>Fy (fun hb17=>?_) (fun hb17=>?_)
         ·rintro b6 fr h ⟨rfl,rfl⟩
          refine Ah (.bool b6) O (Be (t:=false) O O)<|Bt<|C9 [(1,(.q ids 1 g)),(2,(.q ids 0 g1)),(67,(.sl 1 (List.map (rI .i64) r.Match))),(68,(.I (r.Match.length:Int))),(69,(.I (j:Int))),(94,(.bool b6))] (FI O)<|hJ7 b6 _ _ ⟨O,O⟩
         ·refine Bl (t:=86) hb17 O<|Aq 3 [1] [(89,(.I (j:Int))),(88,(.sl 1 (List.map rB r.Votes))),(87,(.ptr (ix ids 1) g 0 7))] ?_
          refine H9 fun a1 hz hx1=>Cr (tj:=86) (.cp [(.bool a1)] 0) O O O (Br (Eo Db Hw O hz hx1))<|Aq 3 [] [(93,(.bool (!a1))),(92,(.bool (!a1))),(91,(.bool a1))] ?_
          refine Bt<|C9 [(1,(.q ids 1 g)),(2,(.q ids 0 g1)),(67,(.sl 1 (List.map (rI .i64) r.Match))),(68,(.I (r.Match.length:Int))),(69,(.I (j:Int))),(83,(.bool false)),(84,(.I a)),(85,(.bool (a==0))),(86,(.bool (a==0))),(93,(.bool (!a1)))] (.cons O (.cons O (.cons O (.cons O (.cons O (.cons O (.cons O (.cons O (.cons (congrArg AV.bool hb17.symm) (FI O))))))))))<|hJ8 (!a1) _ _ ⟨O,O⟩
         refine Bl (t:=86) hb17 O<|Aq 7 [] [(93,(.bool false)),(92,.und),(91,.und),(90,.und),(89,.und),(88,.und),(87,.und)] ?_
         refine Bt<|C9 [(1,(.q ids 1 g)),(2,(.q ids 0 g1)),(67,(.sl 1 (List.map (rI .i64) r.Match))),(68,(.I (r.Match.length:Int))),(69,(.I (j:Int))),(83,(.bool false)),(84,(.I a)),(85,(.bool (a==0))),(86,(.bool (a==0))),(93,(.bool false))] (.cons O (.cons O (.cons O (.cons O (.cons O (.cons O (.cons O (.cons O (.cons (congrArg AV.bool hb17.symm) (FI O))))))))))<|hJ8 false _ _ ⟨O,O⟩
        rintro _ fr h ⟨rfl,rfl⟩
        refine Ae<|Ac<|Ah (.bool (decide ((r.Match.length:Int)<(r.Match.length:Int)))) O (Bf O O O)<|Aj<|Ae<|Kc O (Int.lt_irrefl _)<|Hl O ?_
        refine Ae<|Ac<|Aq 4 [1] [(100,(.bool (r.Role==0)))] ?_
        refine Et 19 ((fun(b7:Bool)=>(Ba b7 470).bind fun _=>.ok 0):Bool→R Int) (fun(b7:Bool) (fr:Nat→AV) (h:Ag)=>fr=A0 [(2,(.q ids 0 g1)),(119,(.bool b7))]∧h=hp h0 ids [(some (.rows g1 1 [[(.I 0)]])),(some (.rows g 9 [(Au r)]))]) ?_ fun hJ9=>Fy (fun hb19=>?_) (fun hb19=>?_)
        ·rintro b7 fr h ⟨rfl,rfl⟩
         refine Bj [(.bool b7),(.I 470)] O O O O ((Dt b7 470) _) (fun v _=>hU v _ _ _ _ O O O O) fun _ _=>Aj<|Ae<|Ac<|Bc (A5 (v:=(.I 0)) hI O O O O Gq O O O O O)<|Aj<|N3 (a:=0) (vs:=[(.I 0)]) Try.func22 hI (Ut _ _) (Co (Ao hI O O O Gq O) Dj) (.same _)
        ·refine Bl (t:=100) hb19 O<|Aq 19 [] [(119,(.bool true))] ?_
         refine Bt<|C9 [(2,(.q ids 0 g1)),(119,(.bool true))] (FI O)<|hJ9 true _ _ ⟨O,O⟩
        refine Bl (t:=100) hb19 O<|Aq 6 [1,1] [(106,(.bool (r.Vote==r.ID)))] ?_
        refine C7 4 [(1,(.q ids 1 g)),(2,(.q ids 0 g1)),(100,(.bool false)),(110,(.bool ((r.Vote==r.ID)&&(decide (r.Term≥1)))))] ?_ fun hJ10=>Cq (r.Vote==r.ID) (fun hb21=>?_) (fun hb21=>?_)
        ·refine Cr (tj:=100) (.bool ((r.Vote==r.ID)&&(decide (r.Term≥1)))) O O O Aa<|Et 7 ((fun(b8:Bool)=>R.ok b8):Bool→R Bool) (fun(b8:Bool) (fr:Nat→AV) (h:Ag)=>fr=A0 [(2,(.q ids 0 g1)),(100,(.bool false)),(118,(.bool b8))]∧h=hp h0 ids [(some (.rows g1 1 [[(.I 0)]])),(some (.rows g 9 [(Au r)]))]) ?_ fun hJ11=>Fy (fun hb23=>?_) (fun hb23=>?_)
         ·rintro b8 fr h ⟨rfl,rfl⟩
          refine Ah (.bool b8) O (Be (t:=false) O O)<|Bt<|C9 [(2,(.q ids 0 g1)),(119,(.bool b8))] (FI O)<|hJ9 b8 _ _ ⟨O,O⟩
         ·refine Bl (t:=111) hb23 O<|Aq 4 [1,1] [(115,(.I r.ID)),(113,(.sl 1 (List.map rB r.Votes)))] ?_
          refine H9 fun a2 hz1 hx2=>Cr (tj:=111) (.cp [(.bool a2)] 0) O O O (Br (Eo Db Hw O hz1 hx2))<|Aq 2 [] [(118,(.bool a2))] ?_
          refine Bt<|C9 [(2,(.q ids 0 g1)),(100,(.bool false)),(118,(.bool a2))] (FI O)<|hJ11 a2 _ _ ⟨O,O⟩
         refine Bl (t:=111) hb23 O<|Aq 7 [] [(118,(.bool false))] ?_
         refine Bt<|C9 [(2,(.q ids 0 g1)),(100,(.bool false)),(118,(.bool false))] (FI O)<|hJ11 false _ _ ⟨O,O⟩
        ·refine Bl (t:=106) hb21 O<|Aq 4 [1] [(110,(.bool (decide (r.Term≥1))))] ?_
         exact By hJ10 (.cons O (.cons O (.cons O (.cons (Ja hb21) .nil))))
        refine Bl (t:=106) hb21 O<|Aq 4 [] [(110,(.bool false))] ?_
        exact By hJ10 (.cons O (.cons O (.cons O (.cons (Jb hb21) .nil))))
       ·refine Bl (t:=57) hb13 O<|Aq 2 [1] [(59,(.sl 1 (List.map (rI .i64) r.Match)))] ?_
        refine Cr (tj:=57) (.I (r.Match.length:Int)) O O O (B6 (Ch B0))<|Aq 4 [1] [(64,(.bool ((r.Match.length:Int)==r.Many)))] ?_
        exact By hJ6 (.cons O (.cons O (.cons (Ja hb13) .nil)))
       refine Bl (t:=57) hb13 O<|Aq 7 [] [(64,(.bool false))] ?_
       exact By hJ6 (.cons O (.cons O (.cons (Jb hb13) .nil)))
      ·refine Bl (t:=49) hb11 O<|Aq 2 [1] [(51,(.sl 1 (List.map rB r.Votes)))] ?_
       refine Cr (tj:=49) (.I (r.Votes.length:Int)) O O O (B6 (Ch Db))<|Aq 4 [1] [(56,(.bool ((r.Votes.length:Int)==r.Many)))] ?_
       exact By hJ5 (.cons O (.cons O (.cons (Ja hb11) .nil)))
      refine Bl (t:=49) hb11 O<|Aq 7 [] [(56,(.bool false))] ?_
      exact By hJ5 (.cons O (.cons O (.cons (Jb hb11) .nil)))
     ·refine Bl (t:=41) hb9 O<|Aq 4 [1,1] [(45,(.sl 2 (List.map An r.Log))),(43,(.I r.Commit))] ?_
      refine Cr (tj:=41) (.I (r.Log.length:Int)) O O O (B6 (Ch Bo))<|Bj [(.I r.Commit),(.I 0),(.I (r.Log.length:Int))] O (Fr (tj:=41) O O) O O ((Cw r.Commit 0 (r.Log.length:Int)) _) (fun v _=>hU v _ _ _ _ O O O O) fun r8 _=>Ah (.bool r8) O (Be (t:=true) O O)<|Bt<|C9 [(1,(.q ids 1 g)),(2,(.q ids 0 g1)),(48,(.bool r8))] (FI O)<|hJ4 r8 _ _ ⟨O,O⟩
     refine Bl (t:=41) hb9 O<|Aq 7 [] [(48,(.bool false))] ?_
     refine Bt<|C9 [(1,(.q ids 1 g)),(2,(.q ids 0 g1)),(48,(.bool false))] (FI O)<|hJ4 false _ _ ⟨O,O⟩
    ·refine Bl (t:=36) hb7 O<|Aq 2 [1] [(38,(.I r.Role))] ?_
     refine Bj [(.I r.Role),(.I 0),(.I 2)] O (Fr (tj:=36) O O) O O ((Cw r.Role 0 2) _) (fun v _=>hU v _ _ _ _ O O O O) fun r7 _=>Ah (.bool r7) O (Be (t:=true) O O)<|Bt<|C9 [(1,(.q ids 1 g)),(2,(.q ids 0 g1)),(40,(.bool r7))] (FI O)<|hJ3 r7 _ _ ⟨O,O⟩
    refine Bl (t:=36) hb7 O<|Aq 4 [] [(40,(.bool false))] ?_
    refine Bt<|C9 [(1,(.q ids 1 g)),(2,(.q ids 0 g1)),(40,(.bool false))] (FI O)<|hJ3 false _ _ ⟨O,O⟩
   ·refine Bl (t:=22) hb5 O<|Aq 5 [1,1] [(27,(.I (IntKind.wrap .i64 (r.Many - 1)))),(24,(.I r.Vote))] ?_
    refine Bj [(.I r.Vote),(.I (-1)),(.I (IntKind.wrap .i64 (r.Many - 1)))] O (Fr (tj:=22) O O) O O ((Cw r.Vote (-1) (IntKind.wrap .i64 (r.Many - 1))) _) (fun v _=>hU v _ _ _ _ O O O O) fun r4 _=>Ah (.bool r4) O (Be (t:=true) O O)<|Bt<|C9 [(1,(.q ids 1 g)),(2,(.q ids 0 g1)),(29,(.bool r4))] (FI O)<|hJ2 r4 _ _ ⟨O,O⟩
   refine Bl (t:=22) hb5 O<|Aq 7 [] [(29,(.bool false))] ?_
   refine Bt<|C9 [(1,(.q ids 1 g)),(2,(.q ids 0 g1)),(29,(.bool false))] (FI O)<|hJ2 false _ _ ⟨O,O⟩
  ·refine Bl (t:=17) hb3 O<|Aq 2 [1] [(19,(.I r.Term))] ?_
   refine Bj [(.I r.Term),(.I 0),(.I 1048576)] O (Fr (tj:=17) O O) O O ((Cw r.Term 0 1048576) _) (fun v _=>hU v _ _ _ _ O O O O) fun r3 _=>Ah (.bool r3) O (Be (t:=true) O O)<|Bt<|C9 [(1,(.q ids 1 g)),(2,(.q ids 0 g1)),(21,(.bool r3))] (FI O)<|hJ1 r3 _ _ ⟨O,O⟩
  refine Bl (t:=17) hb3 O<|Aq 4 [] [(21,(.bool false))] ?_
  refine Bt<|C9 [(1,(.q ids 1 g)),(2,(.q ids 0 g1)),(21,(.bool false))] (FI O)<|hJ1 false _ _ ⟨O,O⟩
 ·refine Bl (t:=9) hb1 O<|Aq 5 [1,1] [(14,(.I (IntKind.wrap .i64 (r.Many - 1)))),(11,(.I r.ID))] ?_
  refine Bj [(.I r.ID),(.I 0),(.I (IntKind.wrap .i64 (r.Many - 1)))] O (Fr (tj:=9) O O) O O ((Cw r.ID 0 (IntKind.wrap .i64 (r.Many - 1))) _) (fun v _=>hU v _ _ _ _ O O O O) fun r2 _=>Ah (.bool r2) O (Be (t:=true) O O)<|Bt<|C9 [(1,(.q ids 1 g)),(2,(.q ids 0 g1)),(16,(.bool r2))] (FI O)<|hJ r2 _ _ ⟨O,O⟩
 refine Bl (t:=9) hb1 O<|Aq 7 [] [(16,(.bool false))] ?_
 refine Bt<|C9 [(1,(.q ids 1 g)),(2,(.q ids 0 g1)),(16,(.bool false))] (FI O)<|hJ false _ _ ⟨O,O⟩
theorem Lj (r:Replica)(h0:Ag)(o0:Nat)(hI0:Ids h0 [o0] 1):Ds r≠.bad→Bm Try.prog 46 [(.agg (Au r))] (hp h0 [o0] [none]) (Ef (fun a_ v h' => ∃ (g2:Nat),v=(.ptr o0 g2 0 0)∧h'=hp h0 [o0] [some (.rows g2 10 [[(.int .i64 r.ID),(.int .i64 r.Many),(.int .i64 r.Term),(.int .i64 r.Vote),(.sl 2 (List.map An r.Log)),(.int .i64 r.Role),(.int .i64 r.Commit),(.sl 1 (List.map rB r.Votes)),(.sl 1 (List.map (rI .i64) r.Match)),.emp]])]) h0 (Ds r)):=by
 refine Cg (n:=6) 1 Try.func46 O (by decide) O O hI0 O fun ids he hI=>?_
 clear hI0
 obtain rfl:ix ids 0=o0:=he 0 rfl
 clear he
 refine B4 (A4 (Ds.eq_1 _) ?_)
 refine A3 ?_
 refine Ae<|Ac<|Dq (v:=(.agg (Au r))) (j:=1) hI O O O O O O O fun g=>Ah .nilp O Av<|Aj<|A3 ?_
 refine Ae<|Ac<|Aq 2 [1] [(4,(.agg [(.I r.ID),(.I r.Many),(.I r.Term),(.I r.Vote),(.sl 2 (List.map An r.Log)),(.I r.Role),(.I r.Commit),(.sl 1 (List.map rB r.Votes)),(.sl 1 (List.map (rI .i64) r.Match)),.emp]))] ?_
 refine Dq (v:=(.agg [(.I r.ID),(.I r.Many),(.I r.Term),(.I r.Vote),(.sl 2 (List.map An r.Log)),(.I r.Role),(.I r.Commit),(.sl 1 (List.map rB r.Votes)),(.sl 1 (List.map (rI .i64) r.Match)),.emp])) (j:=0) hI O O O O O O O fun g1=>Ah (.q ids 0 g1) O Av<|Aj<|A3 ?_
 exact Ft (K:=1) (N:=1) (a:=()) (vs:=[(.q ids 0 g1)]) [some (.rows g1 10 [[(.I r.ID),(.I r.Many),(.I r.Term),(.I r.Vote),(.sl 2 (List.map An r.Log)),(.I r.Role),(.I r.Commit),(.sl 1 (List.map rB r.Votes)),(.sl 1 (List.map (rI .i64) r.Match)),.emp]])] Try.func46 hI O O O (.keep (.drop .nil)) (.same _) ⟨g1,O,O⟩
theorem N6 (s:List Record):CPO Try.prog 53 [(.sl 2 (List.map An s))] (Kp s) 2 An:=by
 refine S2 (n:=8) 0 Try.func53 O (by decide) O O fun h0 ids hI=>Oo (Kp.eq_1 _)<|Ae<|Ac<|Ah .emp O Av<|Aj<|Ae ?_
 refine Ae<|Ac<|Ah (.sl 2 (List.map An s)) O Aa<|Zy (L:=s) O Bo O fun c hc=>Aj ?_
 by_cases hl:s.length * 32≤Cc
 case neg=>rw [if_neg hl]; exact Aav
 rw [if_pos hl]
 refine Ln c O ?_
 cases c with
 | true=>
  have hs:=hc rfl
  subst hs
  refine Ae<|Ac<|Ah .emp O Av<|Aj<|Qd (a:=[]) (v:=.emp) (g:=0) Try.func53 hI O O .nil O
 | false=>
  refine Bq<|Ae<|Ac<|Aa8 O Bo D0<|Ah (.sl 2 (List.map An s)) O Aa<|Nm (e:=An) (L:=[]) (L2:=s) (v:=.emp) (g:=0) (st:=2) (j:=0) hI O O O O .nil O (Hq O) Bo Bo O D0 O O O (by simpa using hl) fun v g H=>Ah v O Av ?_
  refine Aj<|Qd (a:=s) (v:=v) (g:=g) Try.func53 hI O O H O
theorem Pf (s:List Int):CPO Try.prog 54 [(.sl 1 (List.map (rI .i64) s))] (Hy s) 1 (rI .i64):=by
 refine S2 (n:=8) 0 Try.func54 O (by decide) O O fun h0 ids hI=>Oo (Hy.eq_1 _)<|Ae<|Ac<|Ah .emp O Av<|Aj<|Ae ?_
 refine Ae<|Ac<|Ah (.sl 1 (List.map (rI .i64) s)) O Aa<|Zy (L:=s) O B0 O fun c hc=>Aj ?_
 by_cases hl:s.length * 8≤Cc
 case neg=>rw [if_neg hl]; exact Aav
 rw [if_pos hl]
 refine Ln c O ?_
 cases c with
 | true=>
  have hs:=hc rfl
  subst hs
  refine Ae<|Ac<|Ah .emp O Av<|Aj<|Qd (a:=[]) (v:=.emp) (g:=0) Try.func54 hI O O .nil O
 | false=>
  refine Bq<|Ae<|Ac<|Aa8 O B0 Ax<|Ah (.sl 1 (List.map (rI .i64) s)) O Aa<|Nm (e:=(rI .i64)) (L:=[]) (L2:=s) (v:=.emp) (g:=0) (st:=1) (j:=0) hI O O O O .nil O (Hq O) B0 B0 O Ax O O O (by simpa using hl) fun v g H=>Ah v O Av ?_
  refine Aj<|Qd (a:=s) (v:=v) (g:=g) Try.func54 hI O O H O
theorem Lf (l:List Int)(h0:Ag)(o0:Nat)(o1:Nat)(v1:AV)(g:Nat)(vH:Bk v1 o0 g l.length)(hI0:Ids h0 [o0,o1] 2):D2 l≠.bad→Bm Try.prog 73 [v1] (hp h0 [o0,o1] [A6 v1 g 1 (List.map (rI .i64) l),none]) (Ef (fun a_ v h' => ∃ (g2:Nat),v=(.func (.func 93) [] [(.ptr o1 g2 0 0)])∧h'=hp h0 [o0,o1] [A6 v1 g 1 (List.map (rI .i64) l),some (.rows g2 1 [[v1]])]) h0 (D2 l)):=by
 refine Cg (n:=4) 0 Try.func73 O (by decide) O O hI0 O fun ids he hI=>?_
 clear hI0
 obtain rfl:ix ids 0=o0:=he 0 rfl
 obtain rfl:ix ids 1=o1:=he 1 rfl
 clear he
 refine B4 (A4 (D2.eq_1 _) ?_)
 refine Ae<|Ac<|Aie (j:=1) vH hI O O O O O fun g1=>Ah .nilf O Av<|Aj<|A3 ?_
 refine Ae<|Ac<|Aq 2 [] [(2,(.func (.func 93) [] [(.q ids 1 g1)]))] ?_
 refine Aj<|Ft (K:=2) (N:=0) (a:=()) (vs:=[(.func (.func 93) [] [(.q ids 1 g1)])]) [A6 v1 g 1 (List.map (rI .i64) l),some (.rows g1 1 [[v1]])] Try.func73 hI O O O (.keep (.keep .nil)) (.same _) ⟨g1,O,O⟩
theorem Sj {σ_:Type}(b:List Int)(b_:Int→σ_→R σ_)(St_:σ_→Ag→Prop)(y_:YF)(o_ g_:Nat)(hy_ : ∀ (a0_:Int),YOk Try.prog y_ o_ g_ [(.int .i64 a0_)] St_ (b_ a0_))(hnp_ : ∀ (a0_:Int) (s:σ_) (v:PV),b_ a0_ s≠.pan v)(s_:σ_)(hh_:Ag)(hs_:St_ s_ hh_):Ir b b_ s_≠.bad→Bm Try.prog 93 [(.yld y_ o_ g_),(.cp [(.sl 1 (List.map (rI .i64) b))] 0)] hh_ (X0 St_ (Ir b b_ s_)):=by
 refine Abw (n:=16) Try.func93 O (by decide) O O<|B4 (A4 (Ir.eq_1 _ _ _) ?_)
 refine Ae<|Ac<|Ah (.sl 1 (List.map (rI .i64) b)) O (Ak (E6 B0 O))<|Ah (.I (b.length:Int)) O (B6 (Ch B0))<|Ah (.I 0) O Aa<|Aj<|Cd ?_
 refine I9 [(0,(.yld y_ o_ g_)),(5,(.sl 1 (List.map (rI .i64) b))),(6,(.I (b.length:Int))),(7,(.I 0))] (FI O)<|Nn (P:=Try.prog) b (fun _ a=>fun s=>Fb b_ a s) (((fun s=>.ok s)):σ_→R σ_) (fun j=>fun s=>fun(fr:Nat→AV) (h:Ag) => ∃ (hh:Ag),St_ s hh∧fr=A0 [(0,(.yld y_ o_ g_)),(5,(.sl 1 (List.map (rI .i64) b))),(6,(.I (b.length:Int))),(7,(.I (j:Int)))]∧hh=h) s_ ?_ ?_ ?_
 ·exact⟨_,hs_,O,O⟩
 ·rintro j a ha W hW s fr h ⟨hh,vHs,rfl,rfl⟩
  refine A4 (m':=Fb b_ a s) O (A4 (Fb.eq_1 _ _ _) ?_)
  refine Ae<|Ac<|Ah (.bool (decide ((j:Int)<(b.length:Int)))) O (Bf O O O)<|Aj<|Ae<|Om (t:=5) (L:=b) O fun hlim=>Kg O (Int.ofNat_lt.2 (Cl ha)) ?_
  refine Bq<|Ae<|Cd<|Ae<|Ac<|Ah (.cp [(.I a)] 0) O (Br (Qa B0 Ax O ha))<|Ah (.I a) O (Ak (E6 Ax O)) ?_
  refine Ah (.I a) O Av<|Aj<|Ae<|Ac<|Ah (.yld y_ o_ g_) O Aa<|Ah (.I a) O Aa<|Ags (b:=b_ a) O O O vHs (hy_ a) (hnp_ a _) fun s1 hb hh1 vHs1=>?_
  refine Ah (.bool false) O (Qf O)<|Aj<|Ln false O<|Bq<|B5<|Ac<|Ah (.I (IntKind.wrap .i64 ((j:Int)+1))) O (Bf O O O) ?_
  refine Ah (.I (IntKind.wrap .i64 ((j:Int)+1))) O Aa<|Aj<|Bn (Ra (hW s1 _ _ ⟨_,vHs1,O,O⟩)) (.cons O (.cons O (.cons O (.cons (Jw (Cl ha) hlim) .nil))))
 rintro s fr h ⟨hh,vHs,rfl,rfl⟩
 refine Ae<|Ac<|Ah (.bool (decide ((b.length:Int)<(b.length:Int)))) O (Bf O O O)<|Aj<|Ae<|Kc O (Int.lt_irrefl _)<|Hl O ?_
 exact Ads Try.func93 O vHs
theorem W9 (l:List Int)(h0:Ag)(o0:Nat)(v:AV)(g:Nat)(hv:Bk v o0 g l.length)(hI0:Ids h0 [o0] 1):Lx l≠.bad→Bm Try.prog 92 [v] (hp h0 [o0] [A6 v g 1 (l.map (rI .i64))]) (Ef (fun a_ v' h'=>v'=(.tup [])∧h'=hp h0 [o0] [A6 v g 1 ((K7 l).map (rI .i64))]) h0 (Lx l)):=
 Ad8 hI0 (.mk Try.func92 rfl (by decide)) hv Go.Proofs.Try.slices_Sort_int Go.Proofs.Try.slices_Sort_int_none
theorem Qb (s:List Int)(h0:Ag)(o0:Nat)(o1:Nat)(g:Nat)(hI0:Ids h0 [o0,o1] 2):Gv s≠.bad→Bm Try.prog 95 [.emp,(.func (.func 93) [] [(.ptr o0 g 0 0)])] (hp h0 [o0,o1] [some (.rows g 1 [[(.sl 1 (List.map (rI .i64) s))]]),none]) (Ef (fun a_ v h' => ∃ (v4:AV),∃ (g4:Nat),Bk v4 o1 g4 a_.length∧v4=v∧h'=hp h0 [o0,o1] [none,A6 v4 g4 1 (List.map (rI .i64) a_)]) h0 (Gv s)):=by
 refine Cg (n:=13) 2 Try.func95 O (by decide) O O hI0 O fun ids he hI=>?_
 clear hI0
 obtain rfl:ix ids 0=o0:=he 0 rfl
 obtain rfl:ix ids 1=o1:=he 1 rfl
 clear he
 refine B4 (A4 (Gv.eq_1 _) ?_)
 refine A3 ?_
 refine Ad0<|Ae<|Ac<|Dq (v:=.emp) (j:=2) hI O O O O O O O fun g1=>Ah .emp O Av<|Aj<|A3 ?_
 refine Ae<|Ae<|Ac<|Ah (.func (.func 93) [] [(.q ids 0 g)]) O Aa<|Aj<|Cd<|Afb (h2:=hp h0 ids [none,none,(some (.rows g1 1 [[.emp]])),none]) [(2,(.q ids 2 g1)),(6,(.func (.func 93) [] [(.cp [(.sl 1 (List.map (rI .i64) s))] 0)]))] (Drops.sub (.drop (.keep (.keep (.keep .nil)))) hI.len) (.cons (.same _) (.cons (.funcL .nil (.cons (.ptrL (hI.at O O) (hI.at O O) O (Id _)) .nil)) .nil)) O O ?_
 refine I9 [(2,(.q ids 2 g1)),(6,(.func (.func 93) [] [(.cp [(.sl 1 (List.map (rI .i64) s))] 0)]))] (FI O)<|Acb (P:=Try.prog) 3 (fun(gL:Nat) (r_L:Loop)=>fun l=>fun(h1:Ag) => ∃ (v1:AV),∃ (g2:Nat),Bk v1 (ix ids 1) g2 l.length∧h1=hp h0 ids [none,(A6 v1 g2 1 (List.map (rI .i64) l)),(some (.rows g1 1 [[v1]])),(some (.blk gL (.loop r_L)))]:Nat→Loop→(List Int)→Ag→Prop) O O hI O O O fun gL y_L r_L hl_L hy_L=>⟨?_,?_,?_,?_⟩
 ·refine Sj s _ _ _ _ _ (fun a=>Agk hl_L (by decide) O hy_L ?_ ?_) (fun _ _ _=>R.np_ne _ _) _ _ ?_
  ·rintro l _ ⟨v1,g2,vH,rfl⟩
   exact hI.at O O
  ·rintro lo_ l _ ⟨v1,g2,vH,rfl⟩
   refine Akg (B4 (A4 (m':=Eu a l) O (A4 (Eu.eq_1 _ _) ?_)))
   refine Af1 [(7,(.I a)),(2,(.q ids 2 g1)),(6,(.func (.func 93) [] [(.cp [(.sl 1 (List.map (rI .i64) s))] 0)]))] (V1 _ _ _)<|Ac<|Ah (.I a) O Av<|Aj<|T3 hI O O O hl_L.ready<|A3 ?_
   refine Cd<|Ac<|Aq 2 [2] [(9,(.I a)),(8,v1)] ?_
   refine V8 (e:=(rI .i64)) (L:=[a]) (st:=1) (rows:=[[(.I a)]]) O B0 Ax O O O O O (.cons (RowSim.refl _) .nil) (fun x=>I7 x) O O<|O4 fun hl=>Nm (e:=(rI .i64)) (L:=l) (L2:=[a]) (v:=v1) (g:=g2) (st:=1) (j:=1) hI O O O O vH O (Hq O) B0 B0 O Ax O O O hl fun v2 g3 vH1=>Bc (Cj vH1 hI O O O O B0 O O O)<|Aj<|A3 ?_
   refine B5<|Ahd (s:=(l++[a])) (jL:=3) hI O O O ⟨v2,g3,vH1,O⟩
  exact⟨.emp,0,.nil,O⟩
 ·rintro l _ ⟨v1,g2,vH,rfl⟩
  exact hI.at O O
 ·rintro l _ _ ⟨v1,g2,vH,rfl⟩
  refine Abi [none,(A6 v1 g2 1 (List.map (rI .i64) l)),(some (.rows g1 1 [[v1]])),none] hI O O O<|B5<|Ae<|Ac<|Aq 2 [2] [(4,v1)] ?_
  refine Aj<|Zm (Px (Aiv (K:=2) (N:=2) (a:=l) (vs:=[v1]) [none,A6 v1 g2 1 (List.map (rI .i64) l)] Try.func95 hI O O O (.keep (.keep (.drop (.keep .nil)))) (.same _) ⟨v1,g2,vH,O,O⟩))
 rintro v3 _ l _ ⟨v1,g2,vH,rfl⟩
 refine Aa5 [none,(A6 v1 g2 1 (List.map (rI .i64) l)),(some (.rows g1 1 [[v1]])),none] hI O O O<|Px (Bw (K:=2) (N:=2) Try.func95 hI)
theorem Rf (s:List Int)(h0:Ag)(o0:Nat)(o1:Nat)(g:Nat)(hI0:Ids h0 [o0,o1] 2):Fa s≠.bad→Bm Try.prog 91 [(.func (.func 93) [] [(.ptr o0 g 0 0)])] (hp h0 [o0,o1] [some (.rows g 1 [[(.sl 1 (List.map (rI .i64) s))]]),none]) (Ef (fun a_ v h' => ∃ (v2:AV),∃ (g2:Nat),Bk v2 o1 g2 a_.length∧v2=v∧h'=hp h0 [o0,o1] [none,A6 v2 g2 1 (List.map (rI .i64) a_)]) h0 (Fa s)):=by
 refine Cg (n:=5) 0 Try.func91 O (by decide) O O hI0 O fun ids he hI=>?_
 clear hI0
 obtain rfl:ix ids 0=o0:=he 0 rfl
 obtain rfl:ix ids 1=o1:=he 1 rfl
 clear he
 refine B4 (A4 (Fa.eq_1 _) ?_)
 refine Ae<|Ac<|Ah .emp O Av<|Aj<|Ae<|Ac<|Ah (.func (.func 93) [] [(.q ids 0 g)]) O Aa ?_
 refine B9 [0,1] hI O O (Qb s _ (ix ids 0) (ix ids 1) g (by exact hI.sub' O O)) O O O O O O (fun v _=>Bw (K:=2) (N:=0) Try.func91 hI) ?_
 rintro r _ _ _ ⟨v1,g1,vH,rfl,rfl⟩
 refine Du [0,1] hI O O O ?_
 refine Cp<|Ah v1 O Av<|Aj<|A3 ?_
 exact Ft (K:=2) (N:=0) (a:=r) (vs:=[v1]) [none,A6 v1 g1 1 (List.map (rI .i64) r)] Try.func91 hI O O O (.keep (.keep .nil)) (.same _) ⟨v1,g1,vH,O,O⟩
theorem J0 (s:List Int)(h0:Ag)(o0:Nat)(g:Nat)(hI0:Ids h0 [o0] 1):Dh s≠.bad→Bm Try.prog 72 [(.func (.func 93) [] [(.ptr o0 g 0 0)])] (hp h0 [o0] [some (.rows g 1 [[(.sl 1 (List.map (rI .i64) s))]])]) (Ef (fun a_ v h'=>v=(.sl 1 (List.map (rI .i64) a_))∧h'=hp h0 [o0] [none]) h0 (Dh s)):=by
 refine Cg (n:=9) 1 Try.func72 O (by decide) O O hI0 O fun ids he hI=>?_
 clear hI0
 obtain rfl:ix ids 0=o0:=he 0 rfl
 clear he
 refine B4 (A4 (Dh.eq_1 _) ?_)
 refine A3 ?_
 refine Ae<|Ac<|Ah .emp O Av<|Aj<|Ae<|Ac<|Ah (.func (.func 93) [] [(.q ids 0 g)]) O Aa ?_
 refine B9 [0,1] hI O O (Rf s _ (ix ids 0) (ix ids 1) g (by exact hI.sub' O O)) O O O O O O (fun v _=>Bw (K:=1) (N:=1) Try.func72 hI) ?_
 rintro s1 _ _ _ ⟨v1,g1,vH,rfl,rfl⟩
 refine Du [0,1] hI O O O ?_
 refine Cp<|Ah v1 O Av<|Aj<|A3 ?_
 refine Ae<|Ac<|Ah v1 O Aa<|B9 [1] hI O O (W9 s1 _ (ix ids 1) v1 g1 vH (by exact hI.sub' O O)) O O O O O O (fun v _=>Bw (K:=1) (N:=1) Try.func72 hI) ?_
 rintro _ _ _ _ ⟨rfl,rfl⟩
 refine Du [1] hI O O O ?_
 refine Cp<|Aj<|A3 ?_
 refine Ae<|Ac<|Aq 2 [] [(2,v1)] ?_
 refine Aj<|Ft (K:=1) (N:=1) (a:=(K7 s1)) (vs:=[v1]) [none] Try.func72 hI O O O (.keep (.drop .nil)) (D1 (Bk.sort vH) (hI.at O O) (hI.at O O) (fun x=>I7 x)) ⟨O,O⟩
theorem Q7 (s0_ReplicaID:Int)(s0_ReplicaMany:Int)(s0_ReplicaTerm:Int)(s0_ReplicaVote:Int)(s0_ReplicaRole:Int)(s0_ReplicaCommit:Int)(s0_ReplicaVotes:List Bool)(l:List Record)(l1:List Int)(h0:Ag)(o0:Nat)(o1:Nat)(o2:Nat)(g:Nat)(v1:AV)(g1:Nat)(v2:AV)(g2:Nat)(vH:Bk v1 o1 g1 l.length)(vH1:Bk v2 o2 g2 l1.length)(hI0:Ids h0 [o0,o1,o2] 3):F7 s0_ReplicaID s0_ReplicaMany s0_ReplicaTerm s0_ReplicaVote s0_ReplicaRole s0_ReplicaCommit s0_ReplicaVotes l l1≠.bad→Bm Try.prog 55 [(.ptr o0 g 0 0)] (hp h0 [o0,o1,o2] [some (.rows g 10 [[(.int .i64 s0_ReplicaID),(.int .i64 s0_ReplicaMany),(.int .i64 s0_ReplicaTerm),(.int .i64 s0_ReplicaVote),v1,(.int .i64 s0_ReplicaRole),(.int .i64 s0_ReplicaCommit),(.sl 1 (List.map rB s0_ReplicaVotes)),v2,.emp]]),A6 v1 g1 2 (List.map An l),A6 v2 g2 1 (List.map (rI .i64) l1)]) (Ef (fun a_ v h' => ∃ (v4:AV),∃ (g5:Nat),Bk v4 o1 g5 a_.2.length∧v=(.tup [])∧h'=hp h0 [o0,o1,o2] [some (.rows g 10 [[(.int .i64 s0_ReplicaID),(.int .i64 s0_ReplicaMany),(.int .i64 s0_ReplicaTerm),(.int .i64 s0_ReplicaVote),v4,(.int .i64 s0_ReplicaRole),(.int .i64 a_.1),(.sl 1 (List.map rB s0_ReplicaVotes)),(.sl 1 (List.map (rI .i64) l1)),.emp]]),A6 v4 g5 2 (List.map An a_.2),none]) h0 (F7 s0_ReplicaID s0_ReplicaMany s0_ReplicaTerm s0_ReplicaVote s0_ReplicaRole s0_ReplicaCommit s0_ReplicaVotes l l1)):=by
 refine Cg (n:=48) 1 Try.func55 O (by decide) O O hI0 O fun ids he hI=>?_
 clear hI0
 obtain rfl:ix ids 0=o0:=he 0 rfl
 obtain rfl:ix ids 1=o1:=he 1 rfl
 obtain rfl:ix ids 2=o2:=he 2 rfl
 clear he
 refine B4 (A4 (F7.eq_1 _ _ _ _ _ _ _ _ _) ?_)
 refine A3 ?_
 refine Ae<|Ac<|Aq 5 [0] [(8,v2)] ?_
 refine B9 [2,3] hI O O (Lf l1 _ (ix ids 2) (ix ids 3) v2 g2 vH1 (by exact hI.sub' O O)) O O O O O O (fun v _=>Bw (K:=3) (N:=1) Try.func55 hI) ?_
 rintro _ _ _ _ ⟨g3,rfl,rfl⟩
 refine Du [2,3] hI O O O ?_
 refine Cp<|Aed [(some (.rows g 10 [[(.I s0_ReplicaID),(.I s0_ReplicaMany),(.I s0_ReplicaTerm),(.I s0_ReplicaVote),v1,(.I s0_ReplicaRole),(.I s0_ReplicaCommit),(.sl 1 (List.map rB s0_ReplicaVotes)),(.sl 1 (List.map (rI .i64) l1)),.emp]])),(A6 v1 g1 2 (List.map An l)),none,(some (.rows g3 1 [[(.sl 1 (List.map (rI .i64) l1))]]))] [(0,(.q ids 0 g)),(9,(.func (.func 93) [] [(.q ids 3 g3)]))] hI O (.fz (.cons (.same _) (.cons (.same _) (.cons (.same _) (.cons (.same _) (.cons (.same _) (.cons (.same _) (.cons (.same _) (.cons (.same _) (.cons (D1 vH1 (hI.at O O) (hI.at O O) (fun x=>I7 x)) (.cons (.same _) .nil)))))))))) O (Ay O (Ay O (Ay O (Ay O (Ay (Bk.flat vH) (Ay O (Ay O (Ay O (Ay O (Ay O Gn)))))))))) (.keep (.drop (.fz (.cons (D1 vH1 (hI.at O O) (hI.at O O) (fun x=>I7 x)) .nil) O O .nil)))) (.cons (.same _) (.cons (.same _) .nil))<|B9 [3] hI O O (J0 l1 _ (ix ids 3) g3 (by exact hI.sub' O O)) O O O O O O (fun v _=>Bw (K:=3) (N:=1) Try.func55 hI) ?_
 rintro l2 _ _ _ ⟨rfl,rfl⟩
 refine Du [3] hI O O O ?_
 refine Cp<|Ah (.sl 1 (List.map (rI .i64) l2)) O Av<|Aj<|A3 ?_
 refine Ae<|Ac<|Aq 2 [] [(12,(.sl 1 (List.map (rI .i64) l2))),(11,(.sl 1 (List.map (rI .i64) l2)))] ?_
 refine Ah (.I (l2.length:Int)) O (B6 (Ch B0))<|Ah (.I (IntKind.wrap .i64 ((l2.length:Int) - 1))) O (Bf O O O)<|Ah (.I (IntKind.wrap .i64 (Int.tdiv (IntKind.wrap .i64 ((l2.length:Int) - 1)) 2))) O (Bf O O (Zk O (by decide)))<|H9 fun a hz hx1=>Ah (.cp [(.I a)] 0) O (Br (Eo B0 Ax O hz hx1))<|Aq 2 [] [(3,(.I a))] ?_
 refine Aj<|Ae<|Ec (Fw fun x l3=>Ff s0_ReplicaCommit a x l3) (Fw fun x l3=>fun(fr:Nat→AV) (h:Ag) => ∃ (v3:AV),∃ (g4:Nat),Bk v3 (ix ids 1) g4 l3.length∧fr=A0 [(0,(.q ids 0 g)),(3,(.I a)),(42,(.bool x))]∧h=hp h0 ids [(some (.rows g 10 [[(.I s0_ReplicaID),(.I s0_ReplicaMany),(.I s0_ReplicaTerm),(.I s0_ReplicaVote),v3,(.I s0_ReplicaRole),(.I s0_ReplicaCommit),(.sl 1 (List.map rB s0_ReplicaVotes)),(.sl 1 (List.map (rI .i64) l1)),.emp]])),(A6 v3 g4 2 (List.map An l3)),none,none]) ?_ fun hJ=>?_
 ·rintro⟨x,l3⟩ fr h ⟨v3,g4,vH2,rfl,rfl⟩
  refine A4 (Ff.eq_1 _ _ _ _)<|Df O (fun hc=>?_) (fun hc=>?_)
  ·refine Ac<|Aq 5 [] [(47,(.ptr (ix ids 0) g 0 6)),(44,(.I a))] ?_
   refine Bc (A5 (v:=(.I a)) hI O O O O Ax O O O O O)<|Aj<|A3 ?_
   exact E2 (K:=3) (N:=1) (a:=(a,l3)) (vs:=[]) [some (.rows g 10 [[(.I s0_ReplicaID),(.I s0_ReplicaMany),(.I s0_ReplicaTerm),(.I s0_ReplicaVote),v3,(.I s0_ReplicaRole),(.I a),(.sl 1 (List.map rB s0_ReplicaVotes)),(.sl 1 (List.map (rI .i64) l1)),.emp]]),A6 v3 g4 2 (List.map An l3),none] Try.func55 hI O O O (.keep (.keep (.keep (.keep .nil)))) (.same _) ⟨v3,g4,vH2,O,O⟩
  refine Bq<|E2 (K:=3) (N:=1) (a:=(s0_ReplicaCommit,l3)) (vs:=[]) [some (.rows g 10 [[(.I s0_ReplicaID),(.I s0_ReplicaMany),(.I s0_ReplicaTerm),(.I s0_ReplicaVote),v3,(.I s0_ReplicaRole),(.I s0_ReplicaCommit),(.sl 1 (List.map rB s0_ReplicaVotes)),(.sl 1 (List.map (rI .i64) l1)),.emp]]),A6 v3 g4 2 (List.map An l3),none] Try.func55 hI O O O (.keep (.keep (.keep (.keep .nil)))) (.same _) ⟨v3,g4,vH2,O,O⟩
 refine Bv De [[],[],[1],[1,2],[1,2,3],[1,2,3,4],[0,1,2,3,4,5],[0,1,2,3,4,5,6],[0,1,2,3,4,5,6,7],[0,1,2,3,4,5,6,7,8],[0,1,2,3,4,5,6,7,8,9],[0,1,2,3,4,5,6,7,8,9,10],[0,1,2,3,4,5,6,7,8,9,10,11],[0,1,2,3,4,5,6,7],[0,1,2,3,4,5,6,7,13],[0,1,2,3,4,5,6,7,8,9,10,11,12,13,14],[0,1,2,3,4,5,6,7,8,9,10,11,12,13,14,15],[0,1,2,3,4,5,6,7,8,9,10,11,12,13,14,15,16],[0,1,2,3,4,5,6,7],[0,1,2,3,4,5,6,7,18],[0,1,2,3,4,5,6,7,18,19],[0,1,2,3,4,5,6,7,18,19,20],[0,1,2,3,4,5,6,7,18,19,20,21],[0,1,2,3,4,5,6,7,8,9,10,11,12,13,14,15,16,17,18,19,20,21,22],[0,1,2,3,4,5,6,7,8,9,10,11,12,13,14,15,16,17,18,19,20,21,22,23]] [(false,0),(false,1),(false,2),(false,3),(false,4),(false,5),(false,6),(false,7),(false,8),(false,9),(false,10),(false,11),(false,12),(false,13),(false,14),(false,15),(false,16),(false,17),(false,18),(false,19),(false,20),(false,21),(false,22),(false,23),(false,24)] (by kernel_rfl)<|Z (.I a) O O Aa<|Z (.q ids 0 g) O O Aa<|Z (.q ids 0 g) O O (Al O)<|Z (.q ids 0 g) O O (Af (Ad (c:=0) (off:=0) (i:=0) A7 O As O))<|Z (.ptr (ix ids 0) g 0 6) O O (Af (Ad (c:=0) (off:=6) (i:=6) As O Ax O))<|Z (.I s0_ReplicaCommit) O O (Ak (Ao hI O O O Ax O)) ?_
 refine Z (.bool (decide (a > s0_ReplicaCommit))) O O (Bf O O O)<|Z (.bool (decide (a > s0_ReplicaCommit))) O O Aa<|Fe (fun hb=>?_) (fun hb=>?_)
 ·refine Aw (tj:=25) (.q ids 0 g) O O (congrArg AV.bool hb) O Aa<|Aw (tj:=25) (.q ids 0 g) O O (congrArg AV.bool hb) O (Al O)<|Aw (tj:=25) (.q ids 0 g) O O (congrArg AV.bool hb) O (Af (Ad (c:=0) (off:=0) (i:=0) A7 O As O))<|Aw (tj:=25) (.ptr (ix ids 0) g 0 4) O O (congrArg AV.bool hb) O (Af (Ad (c:=0) (off:=4) (i:=4) As O Bo O))<|Aw (tj:=25) v1 O O (congrArg AV.bool hb) O (Ak (Ao hI O O O Bo O))<|Aw (tj:=25) (.I a) O O (congrArg AV.bool hb) O Aa<|Aw (tj:=25) (.I (IntKind.wrap .i64 (a - 1))) O O (congrArg AV.bool hb) O (Bf O O O) ?_
  refine I4 fun a1 hz1 hx2=>Aw (tj:=25) (.ptr (ix ids 1) g1 (IntKind.wrap .i64 (a - 1)).toNat 0) O O (congrArg AV.bool hb) O (Br (N2 hI O vH O Bo D0 O hz1 hx2))<|Aw (tj:=25) (.ptr (ix ids 1) g1 (IntKind.wrap .i64 (a - 1)).toNat 0) O O (congrArg AV.bool hb) O (Af (Ad (c:=0) (off:=0) (i:=0) D0 O Ax O))<|Aw (tj:=25) (.I a1.Term) O O (congrArg AV.bool hb) O (Ak (Ack hI O vH O hx2 Ax O))<|Aw (tj:=25) (.q ids 0 g) O O (congrArg AV.bool hb) O Aa<|Aw (tj:=25) (.q ids 0 g) O O (congrArg AV.bool hb) O (Al O)<|Aw (tj:=25) (.q ids 0 g) O O (congrArg AV.bool hb) O (Af (Ad (c:=0) (off:=0) (i:=0) A7 O As O)) ?_
  refine Aw (tj:=25) (.ptr (ix ids 0) g 0 2) O O (congrArg AV.bool hb) O (Af (Ad (c:=0) (off:=2) (i:=2) As O Ax O))<|Aw (tj:=25) (.I s0_ReplicaTerm) O O (congrArg AV.bool hb) O (Ak (Ao hI O O O Ax O))<|Aw (tj:=25) (.bool (a1.Term==s0_ReplicaTerm)) O O (congrArg AV.bool hb) O (Bf O O O)<|Z (.bool (a1.Term==s0_ReplicaTerm)) O O (Be (t:=true) (congrArg AV.bool hb) O)<|A8<|Bn (hJ ((a1.Term==s0_ReplicaTerm),l) _ _ ⟨v1,g1,vH,O,O⟩)
 refine Ar (tj:=25) (b:=false) O O (congrArg AV.bool hb) O O<|Ar (tj:=25) (b:=false) O O (congrArg AV.bool hb) O O<|Ar (tj:=25) (b:=false) O O (congrArg AV.bool hb) O O<|Ar (tj:=25) (b:=false) O O (congrArg AV.bool hb) O O<|Ar (tj:=25) (b:=false) O O (congrArg AV.bool hb) O O<|Ar (tj:=25) (b:=false) O O (congrArg AV.bool hb) O O<|Ar (tj:=25) (b:=false) O O (congrArg AV.bool hb) O O ?_
 refine Ar (tj:=25) (b:=false) O O (congrArg AV.bool hb) O O<|Ar (tj:=25) (b:=false) O O (congrArg AV.bool hb) O O<|Ar (tj:=25) (b:=false) O O (congrArg AV.bool hb) O O<|Ar (tj:=25) (b:=false) O O (congrArg AV.bool hb) O O<|Ar (tj:=25) (b:=false) O O (congrArg AV.bool hb) O O<|Ar (tj:=25) (b:=false) O O (congrArg AV.bool hb) O O<|Ar (tj:=25) (b:=false) O O (congrArg AV.bool hb) O O ?_
 refine Ar (tj:=25) (b:=false) O O (congrArg AV.bool hb) O O<|Ar (tj:=25) (b:=false) O O (congrArg AV.bool hb) O O<|Z (.bool false) O O (Be (t:=false) (congrArg AV.bool hb) O)<|A8<|Bn (hJ (false,l) _ _ ⟨v1,g1,vH,O,O⟩)
theorem Sm (vto:Int)(m:Message)(s0_Replica:Replica)(l:List Message)(h0:Ag)(o0:Nat)(o1:Nat)(g:Nat)(v1:AV)(g1:Nat)(vH:Bk v1 o1 g1 l.length)(hI0:Ids h0 [o0,o1] 2):Jy vto m s0_Replica l≠.bad→Bm Try.prog 69 [(.ptr o0 g 0 0),(.int .i64 vto),(.agg (Ai m))] (hp h0 [o0,o1] [some (.rows g 10 [[(.int .i64 s0_Replica.ID),(.int .i64 s0_Replica.Many),(.int .i64 s0_Replica.Term),(.int .i64 s0_Replica.Vote),(.sl 2 (List.map An s0_Replica.Log)),(.int .i64 s0_Replica.Role),(.int .i64 s0_Replica.Commit),(.sl 1 (List.map rB s0_Replica.Votes)),(.sl 1 (List.map (rI .i64) s0_Replica.Match)),v1]]),A6 v1 g1 10 (List.map Ai l)]) (Ef (fun a_ v h' => ∃ (v3:AV),∃ (g4:Nat),Bk v3 o1 g4 a_.length∧v=(.tup [])∧h'=hp h0 [o0,o1] [some (.rows g 10 [[(.int .i64 s0_Replica.ID),(.int .i64 s0_Replica.Many),(.int .i64 s0_Replica.Term),(.int .i64 s0_Replica.Vote),(.sl 2 (List.map An s0_Replica.Log)),(.int .i64 s0_Replica.Role),(.int .i64 s0_Replica.Commit),(.sl 1 (List.map rB s0_Replica.Votes)),(.sl 1 (List.map (rI .i64) s0_Replica.Match)),v3]]),A6 v3 g4 10 (List.map Ai a_)]) h0 (Jy vto m s0_Replica l)):=by
 refine Cg (n:=30) 1 Try.func69 O (by decide) O O hI0 O fun ids he hI=>?_
 clear hI0
 obtain rfl:ix ids 0=o0:=he 0 rfl
 obtain rfl:ix ids 1=o1:=he 1 rfl
 clear he
 refine B4 (A4 (Jy.eq_1 _ _ _ _) ?_)
 refine A3 ?_
 refine Ae<|Ac<|Dq (v:=(.agg (Ai m))) (j:=2) hI O O O O O O O fun g2=>Aj<|A3 ?_
 refine Ae<|Bv De [[],[0],[0,1],[0,1,2],[0,1,2,3],[],[],[6],[6,7],[6,7,8],[6,7,8,9],[0,1,2,3,4],[0,1,2,3,4,4,11],[0,1,2,3,4,5,11,12],[0,1,2,3,4,5,5,11,12,12,13],[0,1,2,3,4,5,6,7,8,9,10,11,12,13,14],[0,1,2,3,4,5,6,7,8,9,10,10,11,12,13,14,14,15]] [(false,0),(false,1),(false,2),(false,3),(false,4),(false,5),(false,6),(false,7),(false,8),(false,9),(false,10),(false,11),(true,12),(false,13),(true,14),(false,15),(true,16)] (by kernel_rfl)<|Z (.q ids 0 g) O O Aa<|Z (.q ids 0 g) O O (Al O)<|Z (.q ids 0 g) O O (Af (Ad (c:=0) (off:=0) (i:=0) A7 O As O))<|Z (.q ids 0 g) O O (Af (Ad (c:=0) (off:=0) (i:=0) As O Ax O))<|Z (.I s0_Replica.ID) O O (Ak (Ao hI O O O Ax O)) ?_
 refine Z (.I vto) O O Aa<|Z (.q ids 0 g) O O Aa<|Z (.q ids 0 g) O O (Al O)<|Z (.q ids 0 g) O O (Af (Ad (c:=0) (off:=0) (i:=0) A7 O As O))<|Z (.ptr (ix ids 0) g 0 2) O O (Af (Ad (c:=0) (off:=2) (i:=2) As O Ax O))<|Z (.I s0_Replica.Term) O O (Ak (Ao hI O O O Ax O))<|Z (.ptr (ix ids 2) g2 0 1) O O (Af (Ad (c:=0) (off:=1) (i:=1) Bd O Ax O)) ?_
 refine Bb O (fun _ _=>O) (fun K hK=>A2 (A5 (v:=(.I s0_Replica.ID)) hI O O O O Ax O O O O O) (hK _ _ (Y O (Ab O (Ak (Ao hI O O O Ax O)) (Ab O (Af (Ad (c:=0) (off:=2) (i:=2) As O Ax O)) (Ab O (Af (Ad (c:=0) (off:=0) (i:=0) A7 O As O)) (Ab O (Al O) (Ab O Aa (Ab O Aa (Y O (Y O (Y O (Y O (Y O Ap)))))))))))) ?_))
 clear hK K
 refine Z (.ptr (ix ids 2) g2 0 2) O O (Af (Ad (c:=0) (off:=2) (i:=2) Bd O Ax O))<|Bb O (fun _ _=>O) (fun K hK=>A2 (A5 (v:=(.I vto)) hI O O O O Ax O O O O O) (hK _ _ (Y O (Y O (Ab O (Ak (Ao hI O O O Ax O)) (Ab O (Af (Ad (c:=0) (off:=2) (i:=2) As O Ax O)) (Ab O (Af (Ad (c:=0) (off:=0) (i:=0) A7 O As O)) (Ab O (Al O) (Ab O Aa (Y O (Y O (Y O (Y O (Y O (Y O Ap))))))))))))) ?_))
 clear hK K
 refine Z (.ptr (ix ids 2) g2 0 3) O O (Af (Ad (c:=0) (off:=3) (i:=3) Bd O Ax O))<|Bb O (fun _ _=>O) (fun K hK=>A2 (A5 (v:=(.I s0_Replica.Term)) hI O O O O Ax O O O O O) (hK _ _ (Y O (Y O (Y O (Y O (Y O (Y O (Y O (Y O (Y O (Y O (Y O (Y O (Y O (Y O Ap)))))))))))))) ?_))
 clear hK K
 refine A8<|A3 ?_
 refine Bv De [[],[],[1],[1,2],[1,2,3],[],[5],[1,2,3,4,5,6],[0,0,1,2,3,4,5,6,7],[0,1,2,3,4,5,6,7,8],[0,1,2,3,4,5,6,7,8,9]] [(false,0),(false,1),(false,2),(false,3),(false,4),(false,5),(true,6),(true,7),(false,8),(false,9),(true,10)] (by kernel_rfl)<|Z (.q ids 0 g) O O Aa<|Z (.q ids 0 g) O O Aa<|Z (.q ids 0 g) O O (Al O)<|Z (.ptr (ix ids 0) g 0 9) O O (Af (Ad (c:=0) (off:=9) (i:=1) A7 O Ce O))<|Z v1 O O (Ak (Ao hI O O O Ce O))<|Z (.agg [(.I m.Kind),(.I s0_Replica.ID),(.I vto),(.I s0_Replica.Term),(.I m.Last),(.I m.LastTerm),(.sl 2 (List.map An m.Log)),(.I m.Commit),(.I m.Match),(.bool m.Granted)]) O O (Ak (Ao hI O O O Bd O)) ?_
 refine Ci O O (fun _ _=>O) (fun K hK=>H0 (e:=Ai) (L:=[({ Kind:=m.Kind,From:=s0_Replica.ID,To:=vto,Term:=s0_Replica.Term,Last:=m.Last,LastTerm:=m.LastTerm,Log:=m.Log,Commit:=m.Commit,Match:=m.Match,Granted:=m.Granted }:Message)]) (st:=10) (rows:=[[(.I m.Kind),(.I s0_Replica.ID),(.I vto),(.I s0_Replica.Term),(.I m.Last),(.I m.LastTerm),(.sl 2 (List.map An m.Log)),(.I m.Commit),(.I m.Match),(.bool m.Granted)]]) Ce Bd O O O O O (.cons (.cons (.same _) (.cons (.same _) (.cons (.same _) (.cons (.same _) (.cons (.same _) (.cons (.same _) (.cons (.same _) (.cons (.same _) (.cons (.same _) (.cons (.same _) .nil)))))))))) .nil) (fun x=>Hv x) O O (hK _ _ (Y O (Ab O (Ak (Ao hI O O O Ce O)) (Ab O (Af (Ad (c:=0) (off:=9) (i:=1) A7 O Ce O)) (Ab O (Al O) (Ab O Aa (Ab O Aa Ap)))))) ?_))
 clear hK K
 refine B8 fun hl=>Ci O O (fun _ _=>O) (fun K hK=>Fs (e:=Ai) (L:=l) (L2:=[({ Kind:=m.Kind,From:=s0_Replica.ID,To:=vto,Term:=s0_Replica.Term,Last:=m.Last,LastTerm:=m.LastTerm,Log:=m.Log,Commit:=m.Commit,Match:=m.Match,Granted:=m.Granted }:Message)]) (v:=v1) (g:=g1) (st:=10) (j:=1) hI O O O vH O (Hq O) Ce Ce O Bd O O O hl fun v2 g3 vH1=>hK _ _ (Y O (Y O (Y O (Y O (Y O (Ab O Aa Ap)))))) ?_)
 clear hK K
 refine Z (.q ids 0 g) O O (Al O)<|Z (.ptr (ix ids 0) g 0 9) O O (Af (Ad (c:=0) (off:=9) (i:=1) A7 O Ce O))<|Bb O (fun _ _=>O) (fun K hK=>A2 (Cj vH1 hI O O O O Ce O O O) (hK _ _ (Y O (Y O (Y O (Y O (Y O (Y O (Y O (Y O Ap)))))))) ?_))
 clear hK K
 refine A8<|A3 ?_
 exact E2 (K:=2) (N:=1) (a:=(l++[({ Kind:=m.Kind,From:=s0_Replica.ID,To:=vto,Term:=s0_Replica.Term,Last:=m.Last,LastTerm:=m.LastTerm,Log:=m.Log,Commit:=m.Commit,Match:=m.Match,Granted:=m.Granted }:Message)])) (vs:=[]) [some (.rows g 10 [[(.I s0_Replica.ID),(.I s0_Replica.Many),(.I s0_Replica.Term),(.I s0_Replica.Vote),(.sl 2 (List.map An s0_Replica.Log)),(.I s0_Replica.Role),(.I s0_Replica.Commit),(.sl 1 (List.map rB s0_Replica.Votes)),(.sl 1 (List.map (rI .i64) s0_Replica.Match)),v2]]),A6 v2 g3 10 (List.map Ai (l++[({ Kind:=m.Kind,From:=s0_Replica.ID,To:=vto,Term:=s0_Replica.Term,Last:=m.Last,LastTerm:=m.LastTerm,Log:=m.Log,Commit:=m.Commit,Match:=m.Match,Granted:=m.Granted }:Message)]))] Try.func69 hI O O O (.keep (.keep (.drop .nil))) (.same _) ⟨v2,g3,vH1,O,O⟩
theorem Tb (m:Message)(s_Replica:Replica)(h0:Ag)(o0:Nat)(o1:Nat)(g:Nat)(hI0:Ids h0 [o0,o1] 2):Hj m s_Replica≠.bad→Bm Try.prog 58 [(.ptr o0 g 0 0),(.agg (Ai m))] (hp h0 [o0,o1] [some (.rows g 10 [[(.int .i64 s_Replica.ID),(.int .i64 s_Replica.Many),(.int .i64 s_Replica.Term),(.int .i64 s_Replica.Vote),(.sl 2 (List.map An s_Replica.Log)),(.int .i64 s_Replica.Role),(.int .i64 s_Replica.Commit),(.sl 1 (List.map rB s_Replica.Votes)),(.sl 1 (List.map (rI .i64) s_Replica.Match)),.emp]]),none]) (Ef (fun a_ v h' => ∃ (v4:AV),∃ (g5:Nat),Bk v4 o1 g5 a_.length∧v=(.tup [])∧h'=hp h0 [o0,o1] [some (.rows g 10 [[(.int .i64 s_Replica.ID),(.int .i64 s_Replica.Many),(.int .i64 s_Replica.Term),(.int .i64 s_Replica.Vote),(.sl 2 (List.map An s_Replica.Log)),(.int .i64 s_Replica.Role),(.int .i64 s_Replica.Commit),(.sl 1 (List.map rB s_Replica.Votes)),(.sl 1 (List.map (rI .i64) s_Replica.Match)),v4]]),A6 v4 g5 10 (List.map Ai a_)]) h0 (Hj m s_Replica)):=by
 refine Cg (n:=25) 1 Try.func58 O (by decide) O O hI0 O fun ids he hI=>?_
 clear hI0
 obtain rfl:ix ids 0=o0:=he 0 rfl
 obtain rfl:ix ids 1=o1:=he 1 rfl
 clear he
 refine B4 (A4 (Hj.eq_1 _ _) ?_)
 refine A3 ?_
 refine Ae<|Ac<|Dq (v:=(.agg (Ai m))) (j:=2) hI O O O O O O O fun g1=>Aj<|A3 ?_
 refine Ae<|Ac<|Aq 6 [0] [(10,(.I 0)),(9,(.I s_Replica.Many))] ?_
 refine Aj<|Ec (fun l1=>Hu l1) (fun l1=>fun(fr:Nat→AV) (h:Ag) => ∃ (v3:AV),∃ (g4:Nat),Bk v3 (ix ids 1) g4 l1.length∧fr=A0 []∧h=hp h0 ids [(some (.rows g 10 [[(.I s_Replica.ID),(.I s_Replica.Many),(.I s_Replica.Term),(.I s_Replica.Vote),(.sl 2 (List.map An s_Replica.Log)),(.I s_Replica.Role),(.I s_Replica.Commit),(.sl 1 (List.map rB s_Replica.Votes)),(.sl 1 (List.map (rI .i64) s_Replica.Match)),v3]])),(A6 v3 g4 10 (List.map Ai l1)),none]) ?_ fun hJ=>?_
 ·rintro l1 fr h ⟨v3,g4,vH2,rfl,rfl⟩
  refine A4 (Hu.eq_1 _)<|E2 (K:=2) (N:=1) (a:=l1) (vs:=[]) [some (.rows g 10 [[(.I s_Replica.ID),(.I s_Replica.Many),(.I s_Replica.Term),(.I s_Replica.Vote),(.sl 2 (List.map An s_Replica.Log)),(.I s_Replica.Role),(.I s_Replica.Commit),(.sl 1 (List.map rB s_Replica.Votes)),(.sl 1 (List.map (rI .i64) s_Replica.Match)),v3]]),A6 v3 g4 10 (List.map Ai l1)] Try.func58 hI O O O (.keep (.keep (.keep .nil))) (.same _) ⟨v3,g4,vH2,O,O⟩
 refine Cd<|I9 [(0,(.q ids 0 g)),(3,(.q ids 2 g1)),(9,(.I s_Replica.Many)),(10,(.I 0))] (FI O)<|Ow (P:=Try.prog) (Fw fun x l=>Hp m s_Replica x l) ((fun l1=>Hu l1):(List Message)→R (List Message)) (Fw fun x l=>fun(fr:Nat→AV) (h:Ag) => ∃ (v1:AV),∃ (g2:Nat),Bk v1 (ix ids 1) g2 l.length∧fr=A0 [(0,(.q ids 0 g)),(3,(.q ids 2 g1)),(9,(.I s_Replica.Many)),(10,(.I x))]∧h=hp h0 ids [(some (.rows g 10 [[(.I s_Replica.ID),(.I s_Replica.Many),(.I s_Replica.Term),(.I s_Replica.Vote),(.sl 2 (List.map An s_Replica.Log)),(.I s_Replica.Role),(.I s_Replica.Commit),(.sl 1 (List.map rB s_Replica.Votes)),(.sl 1 (List.map (rI .i64) s_Replica.Match)),v1]])),(A6 v1 g2 10 (List.map Ai l)),(some (.rows g1 10 [(Ai m)]))]) (0,[]) ?_ ?_
 ·exact⟨.emp,0,.nil,O,O⟩
 rintro vW hW ⟨x,l⟩ fr h ⟨v1,g2,vH,rfl,rfl⟩
 refine A4 (m':=Hp m s_Replica x l) O (A4 (Hp.eq_1 _ _ _ _) ?_)
 refine Ae<|Ac<|Ah (.bool (decide (x<s_Replica.Many))) O (Bf O O O)<|Aj<|Ae<|Kd O (fun hc=>?_) (fun hc=>?_)
 ·refine Bq<|Ae<|Cd<|Ae<|Ac<|Aq 2 [] [(4,(.I x))] ?_
  refine Aj<|Ae<|Ac<|Aq 7 [0] [(19,(.bool (x != s_Replica.ID)))] ?_
  refine Aj<|Df O (fun hc1=>?_) (fun hc1=>?_)
  ·refine Ac<|Aq 3 [2] [(22,(.agg (Ai m))),(21,(.I x)),(20,(.q ids 0 g))] ?_
   refine B9 [0,1] hI O O (Sm x m s_Replica l _ (ix ids 0) (ix ids 1) g v1 g2 vH (by exact hI.sub' O O)) O O O O O O (fun v _=>Bw (K:=2) (N:=1) Try.func58 hI) ?_
   rintro r _ _ _ ⟨v2,g3,vH1,rfl,rfl⟩
   refine Du [0,1] hI O O O ?_
   refine Cp<|Aj<|A3 ?_
   refine B5<|Ac<|Aq 2 [] [(10,(.I (IntKind.wrap .i64 (x+1))))] ?_
   refine Aj<|Bn (M8 (hW ((IntKind.wrap .i64 (x+1)),r) _ _ ⟨v2,g3,vH1,O,O⟩))
  refine Bq<|B5<|Ac<|Aq 2 [] [(10,(.I (IntKind.wrap .i64 (x+1))))] ?_
  refine Aj<|Bn (M8 (hW ((IntKind.wrap .i64 (x+1)),l) _ _ ⟨v1,g2,vH,O,O⟩))
 refine Hl O<|O7<|D4 [(some (.rows g 10 [[(.I s_Replica.ID),(.I s_Replica.Many),(.I s_Replica.Term),(.I s_Replica.Vote),(.sl 2 (List.map An s_Replica.Log)),(.I s_Replica.Role),(.I s_Replica.Commit),(.sl 1 (List.map rB s_Replica.Votes)),(.sl 1 (List.map (rI .i64) s_Replica.Match)),v1]])),(A6 v1 g2 10 (List.map Ai l)),none] hI O (.keep (.keep (.drop .nil)))<|Bn (hJ l _ _ ⟨v1,g2,vH,O,O⟩)
theorem Sw (s0_ReplicaID:Int)(s0_ReplicaMany:Int)(s0_ReplicaTerm:Int)(s0_ReplicaVote:Int)(s0_ReplicaRole:Int)(s0_ReplicaCommit:Int)(s0_ReplicaVotes:List Bool)(s0_ReplicaMatch:List Int)(l:List Record)(h0:Ag)(o0:Nat)(o1:Nat)(o2:Nat)(g:Nat)(v1:AV)(g1:Nat)(vH:Bk v1 o1 g1 l.length)(hI0:Ids h0 [o0,o1,o2] 3):G4 s0_ReplicaID s0_ReplicaMany s0_ReplicaTerm s0_ReplicaVote s0_ReplicaRole s0_ReplicaCommit s0_ReplicaVotes s0_ReplicaMatch l≠.bad→Bm Try.prog 56 [(.ptr o0 g 0 0)] (hp h0 [o0,o1,o2] [some (.rows g 10 [[(.int .i64 s0_ReplicaID),(.int .i64 s0_ReplicaMany),(.int .i64 s0_ReplicaTerm),(.int .i64 s0_ReplicaVote),v1,(.int .i64 s0_ReplicaRole),(.int .i64 s0_ReplicaCommit),(.sl 1 (List.map rB s0_ReplicaVotes)),(.sl 1 (List.map (rI .i64) s0_ReplicaMatch)),.emp]]),A6 v1 g1 2 (List.map An l),none]) (Ef (fun a_ v h' => ∃ (v3:AV),∃ (g3:Nat),Bk v3 o2 g3 a_.length∧v=(.tup [])∧h'=hp h0 [o0,o1,o2] [some (.rows g 10 [[(.int .i64 ({ ID:=s0_ReplicaID,Many:=s0_ReplicaMany,Term:=s0_ReplicaTerm,Vote:=s0_ReplicaVote,Log:=l,Role:=s0_ReplicaRole,Commit:=s0_ReplicaCommit,Votes:=s0_ReplicaVotes,Match:=s0_ReplicaMatch }:Replica).ID),(.int .i64 ({ ID:=s0_ReplicaID,Many:=s0_ReplicaMany,Term:=s0_ReplicaTerm,Vote:=s0_ReplicaVote,Log:=l,Role:=s0_ReplicaRole,Commit:=s0_ReplicaCommit,Votes:=s0_ReplicaVotes,Match:=s0_ReplicaMatch }:Replica).Many),(.int .i64 ({ ID:=s0_ReplicaID,Many:=s0_ReplicaMany,Term:=s0_ReplicaTerm,Vote:=s0_ReplicaVote,Log:=l,Role:=s0_ReplicaRole,Commit:=s0_ReplicaCommit,Votes:=s0_ReplicaVotes,Match:=s0_ReplicaMatch }:Replica).Term),(.int .i64 ({ ID:=s0_ReplicaID,Many:=s0_ReplicaMany,Term:=s0_ReplicaTerm,Vote:=s0_ReplicaVote,Log:=l,Role:=s0_ReplicaRole,Commit:=s0_ReplicaCommit,Votes:=s0_ReplicaVotes,Match:=s0_ReplicaMatch }:Replica).Vote),(.sl 2 (List.map An ({ ID:=s0_ReplicaID,Many:=s0_ReplicaMany,Term:=s0_ReplicaTerm,Vote:=s0_ReplicaVote,Log:=l,Role:=s0_ReplicaRole,Commit:=s0_ReplicaCommit,Votes:=s0_ReplicaVotes,Match:=s0_ReplicaMatch }:Replica).Log)),(.int .i64 ({ ID:=s0_ReplicaID,Many:=s0_ReplicaMany,Term:=s0_ReplicaTerm,Vote:=s0_ReplicaVote,Log:=l,Role:=s0_ReplicaRole,Commit:=s0_ReplicaCommit,Votes:=s0_ReplicaVotes,Match:=s0_ReplicaMatch }:Replica).Role),(.int .i64 ({ ID:=s0_ReplicaID,Many:=s0_ReplicaMany,Term:=s0_ReplicaTerm,Vote:=s0_ReplicaVote,Log:=l,Role:=s0_ReplicaRole,Commit:=s0_ReplicaCommit,Votes:=s0_ReplicaVotes,Match:=s0_ReplicaMatch }:Replica).Commit),(.sl 1 (List.map rB ({ ID:=s0_ReplicaID,Many:=s0_ReplicaMany,Term:=s0_ReplicaTerm,Vote:=s0_ReplicaVote,Log:=l,Role:=s0_ReplicaRole,Commit:=s0_ReplicaCommit,Votes:=s0_ReplicaVotes,Match:=s0_ReplicaMatch }:Replica).Votes)),(.sl 1 (List.map (rI .i64) ({ ID:=s0_ReplicaID,Many:=s0_ReplicaMany,Term:=s0_ReplicaTerm,Vote:=s0_ReplicaVote,Log:=l,Role:=s0_ReplicaRole,Commit:=s0_ReplicaCommit,Votes:=s0_ReplicaVotes,Match:=s0_ReplicaMatch }:Replica).Match)),v3]]),none,A6 v3 g3 10 (List.map Ai a_)]) h0 (G4 s0_ReplicaID s0_ReplicaMany s0_ReplicaTerm s0_ReplicaVote s0_ReplicaRole s0_ReplicaCommit s0_ReplicaVotes s0_ReplicaMatch l)):=by
 refine Cg (n:=15) 0 Try.func56 O (by decide) O O hI0 O fun ids he hI=>?_
 clear hI0
 obtain rfl:ix ids 0=o0:=he 0 rfl
 obtain rfl:ix ids 1=o1:=he 1 rfl
 obtain rfl:ix ids 2=o2:=he 2 rfl
 clear he
 refine B4 (A4 (G4.eq_1 _ _ _ _ _ _ _ _ _) ?_)
 refine Aeu [(some (.rows g 10 [[(.I s0_ReplicaID),(.I s0_ReplicaMany),(.I s0_ReplicaTerm),(.I s0_ReplicaVote),(.sl 2 (List.map An l)),(.I s0_ReplicaRole),(.I s0_ReplicaCommit),(.sl 1 (List.map rB s0_ReplicaVotes)),(.sl 1 (List.map (rI .i64) s0_ReplicaMatch)),.emp]])),none,none] [(0,(.q ids 0 g))] hI O (.fz (.cons (.same _) (.cons (.same _) (.cons (.same _) (.cons (.same _) (.cons (D1 vH (hI.at O O) (hI.at O O) (fun x=>Ns x)) (.cons (.same _) (.cons (.same _) (.cons (.same _) (.cons (.same _) (.cons (.same _) .nil)))))))))) O O (.drop (.keep .nil))) (.cons (.same _) .nil)<|Bv De [[],[],[1],[1,2],[1,2,3],[1,2,3,4],[],[6],[6,7],[6,7,8],[6,7,8,9],[1,2,3,4,5,6,7,8,9,10],[0,1,2,3,4,5,6,7,8,9,10,11]] [(false,0),(false,1),(false,2),(false,3),(false,4),(false,5),(false,6),(false,7),(false,8),(false,9),(false,10),(false,11),(true,12)] (by kernel_rfl)<|Z (.q ids 0 g) O O Aa<|Z (.q ids 0 g) O O Aa<|Z (.q ids 0 g) O O (Al O)<|Z (.q ids 0 g) O O (Af (Ad (c:=0) (off:=0) (i:=0) A7 O As O))<|Z (.ptr (ix ids 0) g 0 4) O O (Af (Ad (c:=0) (off:=4) (i:=4) As O Bo O)) ?_
 refine Z (.sl 2 (List.map An l)) O O (Ak (Ao hI O O O Bo O))<|Z (.q ids 0 g) O O Aa<|Z (.q ids 0 g) O O (Al O)<|Z (.q ids 0 g) O O (Af (Ad (c:=0) (off:=0) (i:=0) A7 O As O))<|Z (.ptr (ix ids 0) g 0 6) O O (Af (Ad (c:=0) (off:=6) (i:=6) As O Ax O))<|Z (.I s0_ReplicaCommit) O O (Ak (Ao hI O O O Ax O))<|Z (.agg [(.I 3),(.I 0),(.I 0),(.I 0),(.I 0),(.I 0),(.sl 2 (List.map An l)),(.I s0_ReplicaCommit),(.I 0),(.bool false)]) O O (Fv (Km Bd Ab3 O)) ?_
 refine Fc [0,2] hI O O (Tb ({ Kind:=3,From:=0,To:=0,Term:=0,Last:=0,LastTerm:=0,Log:=l,Commit:=s0_ReplicaCommit,Match:=0,Granted:=false }:Message) ({ ID:=s0_ReplicaID,Many:=s0_ReplicaMany,Term:=s0_ReplicaTerm,Vote:=s0_ReplicaVote,Log:=l,Role:=s0_ReplicaRole,Commit:=s0_ReplicaCommit,Votes:=s0_ReplicaVotes,Match:=s0_ReplicaMatch }:Replica) _ (ix ids 0) (ix ids 2) g (by exact hI.sub' O O)) O O O O O O O (fun v _ _ _=>Bw (K:=3) (N:=0) Try.func56 hI) ?_
 rintro r _ _ _ ⟨v2,g2,vH1,rfl,rfl⟩
 refine F6 [0,2] [some (.rows g 10 [[(.I ({ ID:=s0_ReplicaID,Many:=s0_ReplicaMany,Term:=s0_ReplicaTerm,Vote:=s0_ReplicaVote,Log:=l,Role:=s0_ReplicaRole,Commit:=s0_ReplicaCommit,Votes:=s0_ReplicaVotes,Match:=s0_ReplicaMatch }:Replica).ID),(.I ({ ID:=s0_ReplicaID,Many:=s0_ReplicaMany,Term:=s0_ReplicaTerm,Vote:=s0_ReplicaVote,Log:=l,Role:=s0_ReplicaRole,Commit:=s0_ReplicaCommit,Votes:=s0_ReplicaVotes,Match:=s0_ReplicaMatch }:Replica).Many),(.I ({ ID:=s0_ReplicaID,Many:=s0_ReplicaMany,Term:=s0_ReplicaTerm,Vote:=s0_ReplicaVote,Log:=l,Role:=s0_ReplicaRole,Commit:=s0_ReplicaCommit,Votes:=s0_ReplicaVotes,Match:=s0_ReplicaMatch }:Replica).Term),(.I ({ ID:=s0_ReplicaID,Many:=s0_ReplicaMany,Term:=s0_ReplicaTerm,Vote:=s0_ReplicaVote,Log:=l,Role:=s0_ReplicaRole,Commit:=s0_ReplicaCommit,Votes:=s0_ReplicaVotes,Match:=s0_ReplicaMatch }:Replica).Vote),(.sl 2 (List.map An ({ ID:=s0_ReplicaID,Many:=s0_ReplicaMany,Term:=s0_ReplicaTerm,Vote:=s0_ReplicaVote,Log:=l,Role:=s0_ReplicaRole,Commit:=s0_ReplicaCommit,Votes:=s0_ReplicaVotes,Match:=s0_ReplicaMatch }:Replica).Log)),(.I ({ ID:=s0_ReplicaID,Many:=s0_ReplicaMany,Term:=s0_ReplicaTerm,Vote:=s0_ReplicaVote,Log:=l,Role:=s0_ReplicaRole,Commit:=s0_ReplicaCommit,Votes:=s0_ReplicaVotes,Match:=s0_ReplicaMatch }:Replica).Role),(.I ({ ID:=s0_ReplicaID,Many:=s0_ReplicaMany,Term:=s0_ReplicaTerm,Vote:=s0_ReplicaVote,Log:=l,Role:=s0_ReplicaRole,Commit:=s0_ReplicaCommit,Votes:=s0_ReplicaVotes,Match:=s0_ReplicaMatch }:Replica).Commit),(.sl 1 (List.map rB ({ ID:=s0_ReplicaID,Many:=s0_ReplicaMany,Term:=s0_ReplicaTerm,Vote:=s0_ReplicaVote,Log:=l,Role:=s0_ReplicaRole,Commit:=s0_ReplicaCommit,Votes:=s0_ReplicaVotes,Match:=s0_ReplicaMatch }:Replica).Votes)),(.sl 1 (List.map (rI .i64) ({ ID:=s0_ReplicaID,Many:=s0_ReplicaMany,Term:=s0_ReplicaTerm,Vote:=s0_ReplicaVote,Log:=l,Role:=s0_ReplicaRole,Commit:=s0_ReplicaCommit,Votes:=s0_ReplicaVotes,Match:=s0_ReplicaMatch }:Replica).Match)),v2]]),none,A6 v2 g2 10 (List.map Ai r)] hI O O O O ⟨(Y O (Y O (Y O (Y O (Y O (Y O (Y O (Y O (Y O (Y O (Y O (Y O Ap)))))))))))),?_⟩
 refine F4<|A8<|A3 ?_
 exact E2 (K:=3) (N:=0) (a:=r) (vs:=[]) [some (.rows g 10 [[(.I ({ ID:=s0_ReplicaID,Many:=s0_ReplicaMany,Term:=s0_ReplicaTerm,Vote:=s0_ReplicaVote,Log:=l,Role:=s0_ReplicaRole,Commit:=s0_ReplicaCommit,Votes:=s0_ReplicaVotes,Match:=s0_ReplicaMatch }:Replica).ID),(.I ({ ID:=s0_ReplicaID,Many:=s0_ReplicaMany,Term:=s0_ReplicaTerm,Vote:=s0_ReplicaVote,Log:=l,Role:=s0_ReplicaRole,Commit:=s0_ReplicaCommit,Votes:=s0_ReplicaVotes,Match:=s0_ReplicaMatch }:Replica).Many),(.I ({ ID:=s0_ReplicaID,Many:=s0_ReplicaMany,Term:=s0_ReplicaTerm,Vote:=s0_ReplicaVote,Log:=l,Role:=s0_ReplicaRole,Commit:=s0_ReplicaCommit,Votes:=s0_ReplicaVotes,Match:=s0_ReplicaMatch }:Replica).Term),(.I ({ ID:=s0_ReplicaID,Many:=s0_ReplicaMany,Term:=s0_ReplicaTerm,Vote:=s0_ReplicaVote,Log:=l,Role:=s0_ReplicaRole,Commit:=s0_ReplicaCommit,Votes:=s0_ReplicaVotes,Match:=s0_ReplicaMatch }:Replica).Vote),(.sl 2 (List.map An ({ ID:=s0_ReplicaID,Many:=s0_ReplicaMany,Term:=s0_ReplicaTerm,Vote:=s0_ReplicaVote,Log:=l,Role:=s0_ReplicaRole,Commit:=s0_ReplicaCommit,Votes:=s0_ReplicaVotes,Match:=s0_ReplicaMatch }:Replica).Log)),(.I ({ ID:=s0_ReplicaID,Many:=s0_ReplicaMany,Term:=s0_ReplicaTerm,Vote:=s0_ReplicaVote,Log:=l,Role:=s0_ReplicaRole,Commit:=s0_ReplicaCommit,Votes:=s0_ReplicaVotes,Match:=s0_ReplicaMatch }:Replica).Role),(.I ({ ID:=s0_ReplicaID,Many:=s0_ReplicaMany,Term:=s0_ReplicaTerm,Vote:=s0_ReplicaVote,Log:=l,Role:=s0_ReplicaRole,Commit:=s0_ReplicaCommit,Votes:=s0_ReplicaVotes,Match:=s0_ReplicaMatch }:Replica).Commit),(.sl 1 (List.map rB ({ ID:=s0_ReplicaID,Many:=s0_ReplicaMany,Term:=s0_ReplicaTerm,Vote:=s0_ReplicaVote,Log:=l,Role:=s0_ReplicaRole,Commit:=s0_ReplicaCommit,Votes:=s0_ReplicaVotes,Match:=s0_ReplicaMatch }:Replica).Votes)),(.sl 1 (List.map (rI .i64) ({ ID:=s0_ReplicaID,Many:=s0_ReplicaMany,Term:=s0_ReplicaTerm,Vote:=s0_ReplicaVote,Log:=l,Role:=s0_ReplicaRole,Commit:=s0_ReplicaCommit,Votes:=s0_ReplicaVotes,Match:=s0_ReplicaMatch }:Replica).Match)),v2]]),none,A6 v2 g2 10 (List.map Ai r)] Try.func56 hI O O O (.keep (.keep (.keep .nil))) (.same _) ⟨v2,g2,vH1,O,O⟩
theorem Qv (r:Replica)(data:List Int):CP Try.prog 26 [(.agg (Au r)),(.sl 1 (List.map (rI .u8) data))] (Jm r data) (fun(p:(Replica×(List Message)×Int))=>AV.tup [(.agg (Au p.1)),(.sl 10 (List.map Ai p.2.1)),(.int .i64 p.2.2)]):=by
 refine E8 (n:=77) 6 Try.func26 O (by decide) O O fun h0 ids hI=>B4 (A4 (Jm.eq_1 _ _) ?_)
 refine Ae<|Ac<|Dq (v:=(.agg (Au r))) (j:=0) hI O O O O O O O fun g=>Ct (j:=1) hI O O O O As O fun g1=>Aq 2 [] [] ?_
 refine Aj<|A3 ?_
 refine Ae<|Ae<|Ac<|Aq 1 [0] [(8,(.agg (Au r)))] ?_
 refine Bj [(.agg (Au r))] O O O O ((J8 r) _) (fun v _=>Bu Try.func26 hI) fun e _=>Ah (.I e) O Av<|Aj<|Ae<|Ac<|Aq 2 [] [(11,(.bool (e != 0)))] ?_
 refine Aj<|Df O (fun hc=>?_) (fun hc=>?_)
 ·refine Ae<|Ac<|Aq 2 [1] [(13,(.I e)),(12,(.agg [(.I 0),(.I 0),(.I 0),(.I 0),.emp,(.I 0),(.I 0),.emp,.emp]))] ?_
  refine Bc (A5 (v:=(.agg [(.I 0),(.I 0),(.I 0),(.I 0),.emp,(.I 0),(.I 0),.emp,.emp])) hI O O O O As O O O O O)<|Aq 2 [] [(6,(.I e)),(5,.emp)] ?_
  refine Aj<|C8 (a:=(({ ID:=0,Many:=0,Term:=0,Vote:=0,Log:=[],Role:=0,Commit:=0,Votes:=[],Match:=[] }:Replica),[],e)) (vs:=[(.agg [(.I 0),(.I 0),(.I 0),(.I 0),.emp,(.I 0),(.I 0),.emp,.emp]),.emp,(.I e)]) Try.func26 hI (Co (Ao hI O O O As O) (El (El Dj))) (.tupL (.cons (.aggL (.cons (.same _) (.cons (.same _) (.cons (.same _) (.cons (.same _) (.cons (.emp _) (.cons (.same _) (.cons (.same _) (.cons (.emp _) (.cons (.emp _) .nil)))))))))) (.cons (.emp _) (.cons (.same _) .nil))))
 refine Bq<|Ae<|Ae<|Ac<|Aq 3 [0] [(16,(.bool (r.Role != 2)))] ?_
 refine Aj<|Df O (fun hc1=>?_) (fun hc1=>?_)
 ·refine Ae<|Ac<|Aq 1 [1] [(17,(.agg [(.I 0),(.I 0),(.I 0),(.I 0),.emp,(.I 0),(.I 0),.emp,.emp]))] ?_
  refine Bc (A5 (v:=(.agg [(.I 0),(.I 0),(.I 0),(.I 0),.emp,(.I 0),(.I 0),.emp,.emp])) hI O O O O As O O O O O)<|Aq 2 [] [(6,(.I 470)),(5,.emp)] ?_
  refine Aj<|C8 (a:=(({ ID:=0,Many:=0,Term:=0,Vote:=0,Log:=[],Role:=0,Commit:=0,Votes:=[],Match:=[] }:Replica),[],470)) (vs:=[(.agg [(.I 0),(.I 0),(.I 0),(.I 0),.emp,(.I 0),(.I 0),.emp,.emp]),.emp,(.I 470)]) Try.func26 hI (Co (Ao hI O O O As O) (El (El Dj))) (.tupL (.cons (.aggL (.cons (.same _) (.cons (.same _) (.cons (.same _) (.cons (.same _) (.cons (.emp _) (.cons (.same _) (.cons (.same _) (.cons (.emp _) (.cons (.emp _) .nil)))))))))) (.cons (.emp _) (.cons (.same _) .nil))))
 refine Bq<|Ae<|Ae<|Ac<|Aq 2 [0] [(19,(.sl 2 (List.map An r.Log)))] ?_
 refine Ah (.I (r.Log.length:Int)) O (B6 (Ch Bo))<|Ah (.bool (decide ((r.Log.length:Int)≥4096))) O (Bf O O O)<|Aj<|Kd O (fun hc2=>?_) (fun hc2=>?_)
 ·refine Ae<|Ac<|Aq 1 [1] [(22,(.agg [(.I 0),(.I 0),(.I 0),(.I 0),.emp,(.I 0),(.I 0),.emp,.emp]))] ?_
  refine Bc (A5 (v:=(.agg [(.I 0),(.I 0),(.I 0),(.I 0),.emp,(.I 0),(.I 0),.emp,.emp])) hI O O O O As O O O O O)<|Aq 2 [] [(6,(.I 2)),(5,.emp)] ?_
  refine Aj<|C8 (a:=(({ ID:=0,Many:=0,Term:=0,Vote:=0,Log:=[],Role:=0,Commit:=0,Votes:=[],Match:=[] }:Replica),[],2)) (vs:=[(.agg [(.I 0),(.I 0),(.I 0),(.I 0),.emp,(.I 0),(.I 0),.emp,.emp]),.emp,(.I 2)]) Try.func26 hI (Co (Ao hI O O O As O) (El (El Dj))) (.tupL (.cons (.aggL (.cons (.same _) (.cons (.same _) (.cons (.same _) (.cons (.same _) (.cons (.emp _) (.cons (.same _) (.cons (.same _) (.cons (.emp _) (.cons (.emp _) .nil)))))))))) (.cons (.emp _) (.cons (.same _) .nil))))
 refine Bq<|Ae<|Ac<|Aq 1 [0] [(23,(.agg (Au r)))] ?_
 refine B9 [2] hI O O (Lj r _ (ix ids 2) (by exact hI.sub' O O)) O O O O O O (fun v _=>Bu Try.func26 hI) ?_
 rintro _ _ _ _ ⟨g2,rfl,rfl⟩
 refine Du [2] hI O O O ?_
 refine Cp<|Ah (.q ids 2 g2) O Av<|Aj<|A3 ?_
 refine Ae<|Ec (fun l=>Ji r l) (fun l=>fun(fr:Nat→AV) (h:Ag) => ∃ (v4:AV),∃ (g7:Nat),Bk v4 (ix ids 3) g7 l.length∧fr=A0 [(2,(.q ids 0 g)),(4,(.q ids 1 g1)),(7,(.q ids 2 g2))]∧h=hp h0 ids [(some (.rows g 9 [(Au r)])),(some (.rows g1 9 [[(.I 0),(.I 0),(.I 0),(.I 0),.emp,(.I 0),(.I 0),.emp,.emp]])),(some (.rows g2 10 [[(.I r.ID),(.I r.Many),(.I r.Term),(.I r.Vote),v4,(.I r.Role),(.I r.Commit),(.sl 1 (List.map rB r.Votes)),(.sl 1 (List.map (rI .i64) r.Match)),.emp]])),(A6 v4 g7 2 (List.map An l)),none,none]) ?_ fun hJ=>?_
 ·rintro l fr h ⟨v4,g7,vH4,rfl,rfl⟩
  refine A4 (Ji.eq_1 _ _)<|Ae<|Ac<|Aq 3 [0] [(43,(.sl 1 (List.map (rI .i64) r.Match))),(41,(.q ids 2 g2))] ?_
  refine Xr (j:=4) [(.sl 1 (List.map (rI .i64) r.Match))] hI O O O O O O ((Pf r.Match) _ _ (hI.at O O)) (fun v _=>Bu Try.func26 hI) fun r3 _ v5 g8 vH5=>Aq 3 [] [(47,(.ptr (ix ids 2) g2 0 8))] ?_
  refine Bc (Cj vH5 hI O O O O B0 O O O)<|Aj<|A3 ?_
  refine Ae<|Bv De [[],[0],[0,1],[0,1,2],[0,1,2,3],[],[5],[5,6],[5,6,7],[5,6,7,8],[],[10],[10,11],[10,11,12],[10,11,12,13],[10,11,12,13,14],[0,1,2,3,4,4,5,6,7,8,9,9,10,11,12,13,14,15],[0,1,2,3,4,5,6,7,8,9,10,11,12,13,14,15,15,16]] [(false,0),(false,1),(false,2),(false,3),(false,4),(false,5),(false,6),(false,7),(false,8),(false,9),(false,10),(false,11),(false,12),(false,13),(false,14),(false,15),(false,16),(true,17)] (by kernel_rfl)<|Z (.q ids 2 g2) O O Aa<|Z (.q ids 2 g2) O O (Al O)<|Z (.q ids 2 g2) O O (Af (Ad (c:=0) (off:=0) (i:=0) A7 O As O))<|Z (.ptr (ix ids 2) g2 0 8) O O (Af (Ad (c:=0) (off:=8) (i:=8) As O B0 O))<|Z v5 O O (Ak (Ao hI O O O B0 O)) ?_
  refine Z (.q ids 2 g2) O O Aa<|Z (.q ids 2 g2) O O (Al O)<|Z (.q ids 2 g2) O O (Af (Ad (c:=0) (off:=0) (i:=0) A7 O As O))<|Z (.q ids 2 g2) O O (Af (Ad (c:=0) (off:=0) (i:=0) As O Ax O))<|Z (.I r.ID) O O (Ak (Ao hI O O O Ax O))<|Z (.q ids 2 g2) O O Aa<|Z (.q ids 2 g2) O O (Al O) ?_
  refine Z (.q ids 2 g2) O O (Af (Ad (c:=0) (off:=0) (i:=0) A7 O As O))<|Z (.ptr (ix ids 2) g2 0 4) O O (Af (Ad (c:=0) (off:=4) (i:=4) As O Bo O))<|Z v4 O O (Ak (Ao hI O O O Bo O))<|Z (.I (l.length:Int)) O O (B6 (Bk.len vH4 Bo))<|I4 fun a hz hx1=>Z (.ptr (ix ids 4) g8 r.ID.toNat 0) O O (Br (N2 hI O vH5 O B0 Ax O hz hx1))<|Bb O (fun _ _=>O) (fun K hK=>A2 (Tt (y:=(l.length:Int)) hI O O vH5 O hx1 Ax O O O O O O) (hK _ _ (Y O (Y O (Y O (Y O (Y O (Y O (Y O (Y O (Y O (Y O (Y O (Y O (Y O (Y O (Y O (Y O (Y O Ap))))))))))))))))) ?_))
  clear hK K
  have vH6:=Bk.set (i:=r.ID.toNat) (y:=(l.length:Int)) vH5
  have hx2:=List.getElem?_set_self (a:=(l.length:Int)) (Cl hx1)
  refine A8<|A3 ?_
  refine Ae<|Ac<|Ah (.q ids 2 g2) O Aa<|B9 [2,3,4] hI O O (Q7 r.ID r.Many r.Term r.Vote r.Role r.Commit r.Votes l (r3.set r.ID.toNat (l.length:Int)) _ (ix ids 2) (ix ids 3) (ix ids 4) g2 v4 g7 v5 g8 vH4 vH6 (by exact hI.sub' O O)) O O O O O O (fun v _=>Bu Try.func26 hI) ?_
  rintro r4 _ _ _ ⟨v6,g9,vH7,rfl,rfl⟩
  refine Du [2,3,4] hI O O O ?_
  refine Cp<|Aj<|A3 ?_
  refine Ae<|Ac<|Ah (.q ids 2 g2) O Aa<|B9 [2,3,5] hI O O (Sw r.ID r.Many r.Term r.Vote r.Role r4.1 r.Votes (r3.set r.ID.toNat (l.length:Int)) r4.2 _ (ix ids 2) (ix ids 3) (ix ids 5) g2 v6 g9 vH7 (by exact hI.sub' O O)) O O O O O O (fun v _=>Bu Try.func26 hI) ?_
  rintro r5 _ _ _ ⟨v7,g10,vH8,rfl,rfl⟩
  refine Du [2,3,5] hI O O O ?_
  refine Cp<|Aj<|A3 ?_
  refine Ae<|Bv De [[],[0],[0,1],[0,1,2],[],[4],[4,5],[4,5,6],[0,1,2,3,3],[0,1,2,3,4,5,6,7,7,8,8],[0,1,2,3,4,5,6,7,8,9,9]] [(false,0),(false,1),(false,2),(false,3),(false,4),(false,5),(false,6),(false,7),(true,8),(false,9),(false,10)] (by kernel_rfl)<|Z (.q ids 2 g2) O O Aa<|Z (.q ids 2 g2) O O (Al O)<|Z (.q ids 2 g2) O O (Af (Ad (c:=0) (off:=0) (i:=0) A7 O As O))<|Z (.agg (Au ({ ID:=r.ID,Many:=r.Many,Term:=r.Term,Vote:=r.Vote,Log:=r4.2,Role:=r.Role,Commit:=r4.1,Votes:=r.Votes,Match:=(r3.set r.ID.toNat (l.length:Int)) }:Replica))) O O (Ak (Ao hI O O O As O))<|Z (.q ids 2 g2) O O Aa ?_
  refine Z (.q ids 2 g2) O O (Al O)<|Z (.ptr (ix ids 2) g2 0 9) O O (Af (Ad (c:=0) (off:=9) (i:=1) A7 O Ce O))<|Z v7 O O (Ak (Ao hI O O O Ce O))<|Bb O (fun _ _=>O) (fun K hK=>A2 (A5 (v:=(.agg (Au ({ ID:=r.ID,Many:=r.Many,Term:=r.Term,Vote:=r.Vote,Log:=r4.2,Role:=r.Role,Commit:=r4.1,Votes:=r.Votes,Match:=(r3.set r.ID.toNat (l.length:Int)) }:Replica)))) hI O O O O As O O O O O) (hK _ _ (Ab O (Ak (Ao hI O O O Ce O)) (Ab O (Af (Ad (c:=0) (off:=9) (i:=1) A7 O Ce O)) (Ab O (Al O) (Ab O Aa (Y O (Y O (Y O (Y O Ap)))))))) ?_))
  clear hK K
  refine Z v7 O O Av<|Z (.I 0) O O Av<|A8<|A3 ?_
  exact C8 (a:=(({ ID:=r.ID,Many:=r.Many,Term:=r.Term,Vote:=r.Vote,Log:=r4.2,Role:=r.Role,Commit:=r4.1,Votes:=r.Votes,Match:=(r3.set r.ID.toNat (l.length:Int)) }:Replica),r5,0)) (vs:=[(.agg (Au ({ ID:=r.ID,Many:=r.Many,Term:=r.Term,Vote:=r.Vote,Log:=r4.2,Role:=r.Role,Commit:=r4.1,Votes:=r.Votes,Match:=(r3.set r.ID.toNat (l.length:Int)) }:Replica))),v7,(.I 0)]) Try.func26 hI (Co (Ao hI O O O As O) (El (El Dj))) (.tupL (.cons (.same _) (.cons (D1 vH8 (hI.at O O) (hI.out O) (fun x=>Hv x)) (.cons (.same _) .nil))))
 refine P6 De (.node 11 3 (.leaf [[],[],[1],[1,2],[],[4],[4,5],[4,5,6],[4,5,6,7],[],[4,5,6,7,8,9],[1,2,3,4,5,6,7,8,9,10],[1,2,3,4,5,6,7,8,9,10,11],[0,0,1,2,3,4,5,6,7,8,9,10,11,12],[0,1,2,3,4,5,6,7,8,9,10,11,12,13],[0,1,2,3,4,5,6,7,8,9,10,11,12,13,14],[0,1,2,3,4,5,6,7,8,9,10,11,12,13,14,15]] [(false,0),(false,1),(false,2),(false,4),(false,5),(false,6),(false,7),(false,8),(false,9),(false,10),(true,3),(true,11),(true,12),(false,13),(false,14),(false,15),(true,16)]) (.leaf [[],[],[1],[1,2,4,5,6,7,8,9,10,11],[],[4],[4,5],[4,5,6],[4,5,6,7],[],[4,5,6,7,8,9],[4,5,6,7,8,9,10],[1,2,3,4,5,6,7,8,9,10,11],[0,0,1,2,3,4,5,6,7,8,9,10,11,12],[0,1,2,3,4,5,6,7,8,9,10,11,12,13],[0,1,2,3,4,5,6,7,8,9,10,11,12,13,14],[0,1,2,3,4,5,6,7,8,9,10,11,12,13,14,15]] [(false,0),(false,1),(false,2),(false,4),(false,5),(false,6),(false,7),(false,8),(false,9),(false,10),(true,11),(true,3),(true,12),(false,13),(false,14),(false,15),(true,16)])) (by kernel_rfl)<|G9 ?_ ?_
 ·refine Fg<|Z (.q ids 2 g2) O O Aa<|Z (.ptr (ix ids 0) g 0 4) O O (Af (Ad (c:=0) (off:=4) (i:=4) As O Bo O))<|Z (.sl 2 (List.map An r.Log)) O O (Ak (Ao hI O O O Bo O))<|Z (.q ids 2 g2) O O Aa<|Z (.q ids 2 g2) O O (Al O)<|Z (.q ids 2 g2) O O (Af (Ad (c:=0) (off:=0) (i:=0) A7 O As O)) ?_
  refine Z (.ptr (ix ids 2) g2 0 2) O O (Af (Ad (c:=0) (off:=2) (i:=2) As O Ax O))<|Z (.I r.Term) O O (Ak (Ao hI O O O Ax O))<|Z (.sl 1 (List.map (rI .u8) data)) O O Aa<|Z (.agg [(.I r.Term),(.sl 1 (List.map (rI .u8) data))]) O O (Fv (Km D0 Abc O))<|Abq (j:=3) [(.sl 2 (List.map An r.Log))] O hI O O O O O O ((N6 r.Log) _ _ (hI.at O O)) (fun v _ _ _=>Bu Try.func26 hI) fun r1 _ v g3 vH=>⟨(Ab O (Fv (Km D0 Abc O)) (Ab O Aa (Ab O (Ak (Ao hI O O O Ax O)) (Ab O (Af (Ad (c:=0) (off:=2) (i:=2) As O Ax O)) (Ab O (Af (Ad (c:=0) (off:=0) (i:=0) A7 O As O)) (Ab O (Al O) (Ab O Aa (Y O (Y O (Ab O Aa Ap)))))))))),?_⟩
  refine Ci O O (fun _ _=>O) (fun K hK=>H0 (e:=An) (L:=[({ Term:=r.Term,Data:=data }:Record)]) (st:=2) (rows:=[[(.I r.Term),(.sl 1 (List.map (rI .u8) data))]]) Bo D0 O O O O O (.cons (.cons (.same _) (.cons (.same _) .nil)) .nil) (fun x=>Ns x) O O (hK _ _ (Y O (Y O (Y O (Y O (Y O (Y O (Y O (Y O (Y O (Ab O Aa Ap)))))))))) ?_))
  clear hK K
  refine B8 fun hl=>Ci O O (fun _ _=>O) (fun K hK=>Fs (e:=An) (L:=r1) (L2:=[({ Term:=r.Term,Data:=data }:Record)]) (v:=v) (g:=g3) (st:=2) (j:=3) hI O O O vH O (Hq O) Bo Bo O D0 O O O hl fun v1 g4 vH1=>hK _ _ (Y O (Y O (Y O (Y O (Y O (Y O (Y O (Y O (Y O (Ab O Aa Ap)))))))))) ?_)
  clear hK K
  refine Z (.q ids 2 g2) O O (Al O)<|Z (.q ids 2 g2) O O (Af (Ad (c:=0) (off:=0) (i:=0) A7 O As O))<|Z (.ptr (ix ids 2) g2 0 4) O O (Af (Ad (c:=0) (off:=4) (i:=4) As O Bo O))<|Bb O (fun _ _=>O) (fun K hK=>A2 (Cj vH1 hI O O O O Bo O O O) (hK _ _ (Y O (Y O (Y O (Y O (Y O (Y O (Y O (Y O (Y O (Y O (Y O (Y O (Y O Ap))))))))))))) ?_))
  clear hK K
  refine A8<|A3 ?_
  exact Bn (hJ (r1++[({ Term:=r.Term,Data:=data }:Record)]) _ _ ⟨v1,g4,vH1,O,O⟩)
 refine Fg<|Z (.q ids 2 g2) O O Aa<|Z (.ptr (ix ids 0) g 0 4) O O (Af (Ad (c:=0) (off:=4) (i:=4) As O Bo O))<|Z (.sl 2 (List.map An r.Log)) O O (Ak (Ao hI O O O Bo O))<|Z (.q ids 2 g2) O O Aa<|Z (.q ids 2 g2) O O (Al O)<|Z (.q ids 2 g2) O O (Af (Ad (c:=0) (off:=0) (i:=0) A7 O As O)) ?_
 refine Z (.ptr (ix ids 2) g2 0 2) O O (Af (Ad (c:=0) (off:=2) (i:=2) As O Ax O))<|Z (.I r.Term) O O (Ak (Ao hI O O O Ax O))<|Z (.sl 1 (List.map (rI .u8) data)) O O Aa<|Z (.agg [(.I r.Term),(.sl 1 (List.map (rI .u8) data))]) O O (Fv (Km D0 Abc O))<|Ci O O (fun _ _=>O) (fun K hK=>H0 (e:=An) (L:=[({ Term:=r.Term,Data:=data }:Record)]) (st:=2) (rows:=[[(.I r.Term),(.sl 1 (List.map (rI .u8) data))]]) Bo D0 O O O O O (.cons (.cons (.same _) (.cons (.same _) .nil)) .nil) (fun x=>Ns x) O O (hK _ _ (Y O (Y O (Y O (Y O (Y O (Y O (Y O (Ab O (Ak (Ao hI O O O Bo O)) (Ab O (Af (Ad (c:=0) (off:=4) (i:=4) As O Bo O)) (Ab O Aa Ap)))))))))) ?_))
 clear hK K
 refine Abq (j:=3) [(.sl 2 (List.map An r.Log))] O hI O O O O O O ((N6 r.Log) _ _ (hI.at O O)) (fun v _ _ _=>Bu Try.func26 hI) fun r2 _ v2 g5 vH2=>⟨(Y O (Y O (Y O (Y O (Y O (Y O (Y O (Y O (Y O (Ab O Aa Ap)))))))))),?_⟩
 refine B8 fun hl1=>Ci O O (fun _ _=>O) (fun K hK=>Fs (e:=An) (L:=r2) (L2:=[({ Term:=r.Term,Data:=data }:Record)]) (v:=v2) (g:=g5) (st:=2) (j:=3) hI O O O vH2 O (Hq O) Bo Bo O D0 O O O hl1 fun v3 g6 vH3=>hK _ _ (Y O (Y O (Y O (Y O (Y O (Y O (Y O (Y O (Y O (Ab O Aa Ap)))))))))) ?_)
 clear hK K
 refine Z (.q ids 2 g2) O O (Al O)<|Z (.q ids 2 g2) O O (Af (Ad (c:=0) (off:=0) (i:=0) A7 O As O))<|Z (.ptr (ix ids 2) g2 0 4) O O (Af (Ad (c:=0) (off:=4) (i:=4) As O Bo O))<|Bb O (fun _ _=>O) (fun K hK=>A2 (Cj vH3 hI O O O O Bo O O O) (hK _ _ (Y O (Y O (Y O (Y O (Y O (Y O (Y O (Y O (Y O (Y O (Y O (Y O (Y O Ap))))))))))))) ?_))
 clear hK K
 refine A8<|A3 ?_
 exact Bn (hJ (r2++[({ Term:=r.Term,Data:=data }:Record)]) _ _ ⟨v3,g6,vH3,O,O⟩)
theorem Hm (a0:AV)(h:Ag):I5 Try.prog 44 [a0] .ret h (P2 (fun _:Unit=>h) .ret (.ok ())):=by
 refine Nv (n:=3) Try.func44 O (by decide) O O ?_ ⟨(),O⟩
 refine B4 (A4 (m':=(H6).bind fun _ =>   .ok ()) O ?_)
 refine Ac<|Wz O<|Bj [.nili,a0] O O O O ((Od a0) _) (fun v hv=>by unfold H6 at hv; cases hv) fun _ _=>?_
 refine Aj<|O9 Try.func44 O O O
theorem If (s_Replica:Replica)(h0:Ag)(o0:Nat)(o1:Nat)(o2:Nat)(w:AV)(g:Nat)(hI0:Ids h0 [o0,o1,o2] 3):Cb s_Replica≠.bad→Bm Try.prog 47 [(.ptr o0 g 0 0)] (hp h0 [o0,o1,o2] [some (.rows g 10 [[(.int .i64 s_Replica.ID),(.int .i64 s_Replica.Many),(.int .i64 s_Replica.Term),(.int .i64 s_Replica.Vote),(.sl 2 (List.map An s_Replica.Log)),(.int .i64 s_Replica.Role),(.int .i64 s_Replica.Commit),(.sl 1 (List.map rB s_Replica.Votes)),(.sl 1 (List.map (rI .i64) s_Replica.Match)),w]]),none,none]) (Ef (fun a_ v h' => ∃ (v19:AV),∃ (g19:Nat),∃ (v20:AV),∃ (g20:Nat),Bk v19 o1 g19 a_.1.length∧Bk v20 o2 g20 a_.2.length∧v=(.tup [])∧h'=hp h0 [o0,o1,o2] [some (.rows g 10 [[(.int .i64 s_Replica.ID),(.int .i64 s_Replica.Many),(.int .i64 s_Replica.Term),(.int .i64 s_Replica.Vote),(.sl 2 (List.map An s_Replica.Log)),(.int .i64 0),(.int .i64 s_Replica.Commit),v19,v20,w]]),A6 v19 g19 1 (List.map rB a_.1),A6 v20 g20 1 (List.map (rI .i64) a_.2)]) h0 (Cb s_Replica)):=by
 refine Cg (n:=30) 0 Try.func47 O (by decide) O O hI0 O fun ids he hI=>?_
 clear hI0
 obtain rfl:ix ids 0=o0:=he 0 rfl
 obtain rfl:ix ids 1=o1:=he 1 rfl
 obtain rfl:ix ids 2=o2:=he 2 rfl
 clear he
 refine B4 (A4 (Cb.eq_1 _) ?_)
 refine Ae<|Ac<|Ah (.I 0) O Av<|Aj<|Ae<|Ae<|Ac ?_
 refine Aq 5 [0] [(7,(.I s_Replica.Many))] ?_
 refine Bj [(.I s_Replica.Many),(.I 0),(.I 5)] O O O O ((Cw s_Replica.Many 0 5) _) (fun v _=>Bw (K:=3) (N:=0) Try.func47 hI) fun r _=>Aj<|Ec (fun n=>Gu n) (fun n=>fun(fr:Nat→AV) (h:Ag)=>fr=A0 [(0,(.q ids 0 g)),(2,(.I n))]∧h=hp h0 ids [(some (.rows g 10 [[(.I s_Replica.ID),(.I s_Replica.Many),(.I s_Replica.Term),(.I s_Replica.Vote),(.sl 2 (List.map An s_Replica.Log)),(.I s_Replica.Role),(.I s_Replica.Commit),(.sl 1 (List.map rB s_Replica.Votes)),(.sl 1 (List.map (rI .i64) s_Replica.Match)),w]])),none,none]) ?_ fun hJ1=>?_
 ·rintro n fr h ⟨rfl,rfl⟩
  refine A4 (Gu.eq_1 _)<|Ec (Fw fun l l1=>Ie l l1) (Fw fun l l1=>fun(fr:Nat→AV) (h:Ag) => ∃ (v17:AV),∃ (g17:Nat),∃ (v18:AV),∃ (g18:Nat),Bk v17 (ix ids 1) g17 l.length∧Bk v18 (ix ids 2) g18 l1.length∧fr=A0 []∧h=hp h0 ids [(some (.rows g 10 [[(.I s_Replica.ID),(.I s_Replica.Many),(.I s_Replica.Term),(.I s_Replica.Vote),(.sl 2 (List.map An s_Replica.Log)),(.I 0),(.I s_Replica.Commit),v17,v18,w]])),(A6 v17 g17 1 (List.map rB l)),(A6 v18 g18 1 (List.map (rI .i64) l1))]) ?_ fun hJ=>?_
  ·rintro⟨l,l1⟩ fr h ⟨v17,g17,v18,g18,vH16,vH17,rfl,rfl⟩
   refine A4 (Ie.eq_1 _ _)<|E2 (K:=3) (N:=0) (a:=(l,l1)) (vs:=[]) [some (.rows g 10 [[(.I s_Replica.ID),(.I s_Replica.Many),(.I s_Replica.Term),(.I s_Replica.Vote),(.sl 2 (List.map An s_Replica.Log)),(.I 0),(.I s_Replica.Commit),v17,v18,w]]),A6 v17 g17 1 (List.map rB l),A6 v18 g18 1 (List.map (rI .i64) l1)] Try.func47 hI O O O (.keep (.keep (.keep .nil))) (.same _) ⟨v17,g17,v18,g18,vH16,vH17,O,O⟩
  refine P6 De (.node 14 6 (.node 10 6 (.node 10 4 (.node 6 4 (.leaf [[],[],[],[],[3,3],[],[3,4,5],[0,0],[0,7],[0,7,8],[0,3,4,5,6,7,8,9],[0,1,3,4,5,6,7,8,9,10],[0,1,3,4,5,6,7,8,9,10,11],[0,1,3,4,5,6,7,8,9,10,11,12],[0,1,3,4,5,6,7,8,9,10,11,12,13],[0,1,2,2,3,4,5,6,7,8,9,10,11,12,13,14],[0,1,2,3,4,5,6,7,8,9,10,11,12,13,14,15],[0,1,2,3,4,5,6,7,8,9,10,11,12,13,14,15,16],[0,1,2,3,4,5,6,7,8,9,10,11,12,13,14,15,16,17]] [(false,0),(false,1),(false,2),(false,3),(false,5),(false,7),(false,8),(false,9),(true,4),(true,6),(true,10),(false,11),(false,12),(false,13),(true,14),(false,15),(false,16),(false,17),(true,18)]) (.leaf [[],[],[],[],[3,5,6],[],[5,5],[0,0],[0,7],[0,7,8],[0,3,4,5,6,7,8,9],[0,1,3,4,5,6,7,8,9,10],[0,1,3,4,5,6,7,8,9,10,11],[0,1,3,4,5,6,7,8,9,10,11,12],[0,1,3,4,5,6,7,8,9,10,11,12,13],[0,1,2,2,3,4,5,6,7,8,9,10,11,12,13,14],[0,1,2,3,4,5,6,7,8,9,10,11,12,13,14,15],[0,1,2,3,4,5,6,7,8,9,10,11,12,13,14,15,16],[0,1,2,3,4,5,6,7,8,9,10,11,12,13,14,15,16,17]] [(false,0),(false,1),(false,2),(false,3),(false,5),(false,7),(false,8),(false,9),(true,6),(true,4),(true,10),(false,11),(false,12),(false,13),(true,14),(false,15),(false,16),(false,17),(true,18)])) (.leaf [[],[],[],[],[0,3,5,6,7,8,9,10],[],[5,5],[0,0],[0,7],[0,7,8],[0,5,6,7,8,9],[0,1,3,4,5,6,7,8,9,10],[0,1,3,4,5,6,7,8,9,10,11],[0,1,3,4,5,6,7,8,9,10,11,12],[0,1,3,4,5,6,7,8,9,10,11,12,13],[0,1,2,2,3,4,5,6,7,8,9,10,11,12,13,14],[0,1,2,3,4,5,6,7,8,9,10,11,12,13,14,15],[0,1,2,3,4,5,6,7,8,9,10,11,12,13,14,15,16],[0,1,2,3,4,5,6,7,8,9,10,11,12,13,14,15,16,17]] [(false,0),(false,1),(false,2),(false,3),(false,5),(false,7),(false,8),(false,9),(true,6),(true,10),(true,4),(false,11),(false,12),(false,13),(true,14),(false,15),(false,16),(false,17),(true,18)])) (.node 6 4 (.node 10 4 (.leaf [[],[],[],[],[3,3],[],[0,3,4,5,7,8,9,10],[0,0],[0,7],[0,7,8],[0,3,4,7,8,9],[0,1,1,3,4,7,8,9,10],[0,1,3,4,7,8,9,10,11],[0,1,3,4,7,8,9,10,11,12],[0,1,3,4,5,6,7,8,9,10,11,12,13],[0,1,2,2,3,4,5,6,7,8,9,10,11,12,13,14],[0,1,2,3,4,5,6,7,8,9,10,11,12,13,14,15],[0,1,2,3,4,5,6,7,8,9,10,11,12,13,14,15,16],[0,1,2,3,4,5,6,7,8,9,10,11,12,13,14,15,16,17]] [(false,0),(false,1),(false,2),(false,3),(false,5),(false,7),(false,8),(false,9),(true,4),(true,10),(false,11),(false,12),(false,13),(true,6),(true,14),(false,15),(false,16),(false,17),(true,18)]) (.leaf [[],[],[],[],[0,3,7,8,9,10],[],[0,3,4,5,7,8,9,10],[0,0],[0,7],[0,7,8],[0,7,8,9],[0,1,1,3,4,7,8,9,10],[0,1,3,4,7,8,9,10,11],[0,1,3,4,7,8,9,10,11,12],[0,1,3,4,5,6,7,8,9,10,11,12,13],[0,1,2,2,3,4,5,6,7,8,9,10,11,12,13,14],[0,1,2,3,4,5,6,7,8,9,10,11,12,13,14,15],[0,1,2,3,4,5,6,7,8,9,10,11,12,13,14,15,16],[0,1,2,3,4,5,6,7,8,9,10,11,12,13,14,15,16,17]] [(false,0),(false,1),(false,2),(false,3),(false,5),(false,7),(false,8),(false,9),(true,10),(true,4),(false,11),(false,12),(false,13),(true,6),(true,14),(false,15),(false,16),(false,17),(true,18)])) (.leaf [[],[],[],[],[0,3,5,6,7,8,9,10],[],[0,5,7,8,9,10],[0,0],[0,7],[0,7,8],[0,7,8,9],[0,1,3,4,5,6,7,8,9,10],[0,1,3,4,5,6,7,8,9,10,11],[0,1,3,4,5,6,7,8,9,10,11,12],[0,1,3,4,5,6,7,8,9,10,11,12,13],[0,1,2,2,3,4,5,6,7,8,9,10,11,12,13,14],[0,1,2,3,4,5,6,7,8,9,10,11,12,13,14,15],[0,1,2,3,4,5,6,7,8,9,10,11,12,13,14,15,16],[0,1,2,3,4,5,6,7,8,9,10,11,12,13,14,15,16,17]] [(false,0),(false,1),(false,2),(false,3),(false,5),(false,7),(false,8),(false,9),(true,10),(true,6),(true,4),(false,11),(false,12),(false,13),(true,14),(false,15),(false,16),(false,17),(true,18)]))) (.node 10 4 (.leaf [[],[],[],[],[3,3],[],[0,1,3,4,5,7,8,9,10,11,12,13,14],[0,0],[0,7],[0,7,8],[0,3,4,7,8,9],[0,1,1,3,4,7,8,9,10],[0,1,3,4,7,8,9,10,11],[0,1,3,4,7,8,9,10,11,12],[0,1,3,4,7,8,9,10,11,12,13],[0,1,2,2,3,4,5,6,7,8,9,10,11,12,13,14],[0,1,2,3,4,5,6,7,8,9,10,11,12,13,14,15],[0,1,2,3,4,5,6,7,8,9,10,11,12,13,14,15,16],[0,1,2,3,4,5,6,7,8,9,10,11,12,13,14,15,16,17]] [(false,0),(false,1),(false,2),(false,3),(false,5),(false,7),(false,8),(false,9),(true,4),(true,10),(false,11),(false,12),(false,13),(true,14),(true,6),(false,15),(false,16),(false,17),(true,18)]) (.leaf [[],[],[],[],[0,3,7,8,9,10],[],[0,1,3,4,5,7,8,9,10,11,12,13,14],[0,0],[0,7],[0,7,8],[0,7,8,9],[0,1,1,3,4,7,8,9,10],[0,1,3,4,7,8,9,10,11],[0,1,3,4,7,8,9,10,11,12],[0,1,3,4,7,8,9,10,11,12,13],[0,1,2,2,3,4,5,6,7,8,9,10,11,12,13,14],[0,1,2,3,4,5,6,7,8,9,10,11,12,13,14,15],[0,1,2,3,4,5,6,7,8,9,10,11,12,13,14,15,16],[0,1,2,3,4,5,6,7,8,9,10,11,12,13,14,15,16,17]] [(false,0),(false,1),(false,2),(false,3),(false,5),(false,7),(false,8),(false,9),(true,10),(true,4),(false,11),(false,12),(false,13),(true,14),(true,6),(false,15),(false,16),(false,17),(true,18)]))) (by kernel_rfl)<|G9 ?_ ?_
  ·refine G9 ?_ ?_
   ·refine G9 ?_ ?_
    ·refine G9 ?_ ?_
     ·refine Fg<|Z (.q ids 0 g) O O Aa<|Z (.q ids 0 g) O O Aa<|Z (.q ids 0 g) O O Aa<|Z (.I n) O O Aa<|Z (.I n) O O Aa<|Z (.q ids 0 g) O O (Al O) ?_
      refine Z (.q ids 0 g) O O (Af (Ad (c:=0) (off:=0) (i:=0) A7 O As O))<|Z (.ptr (ix ids 0) g 0 5) O O (Af (Ad (c:=0) (off:=5) (i:=5) As O Ax O))<|B8 fun hl=>Ci O O (fun _ _=>O) (fun K hK=>Cy (y:=(false:Bool)) (e:=rB) (st:=1) (j:=1) hI O O O Db Hw O O hl.1 hl.2.1 hl.2.2 O O O O O fun v1 g1 vH=>hK _ _ (Ab O (Af (Ad (c:=0) (off:=5) (i:=5) As O Ax O)) (Ab O (Af (Ad (c:=0) (off:=0) (i:=0) A7 O As O)) (Ab O (Al O) (Ab O Aa (Y O (Ab O Aa (Ab O Aa (Ab O Aa Ap)))))))) ?_)
      clear hK K
      refine B8 fun hl1=>Ci O O (fun _ _=>O) (fun K hK=>Cy (y:=(0:Int)) (e:=(rI .i64)) (st:=1) (j:=2) hI O O O B0 Ax O O hl1.1 hl1.2.1 hl1.2.2 O O O O O fun v2 g2 vH1=>hK _ _ (Ab O (Af (Ad (c:=0) (off:=5) (i:=5) As O Ax O)) (Ab O (Af (Ad (c:=0) (off:=0) (i:=0) A7 O As O)) (Ab O (Al O) (Y O (Y O (Ab O Aa (Ab O Aa (Ab O Aa Ap)))))))) ?_)
      clear hK K
      refine Bb O (fun _ _=>O) (fun K hK=>A2 (A5 (v:=(.I 0)) hI O O O O Ax O O O O O) (hK _ _ (Y O (Y O (Y O (Y O (Y O (Ab O Aa (Ab O Aa (Y O Ap)))))))) ?_))
      clear hK K
      refine Z (.q ids 0 g) O O (Al O)<|Z (.q ids 0 g) O O (Af (Ad (c:=0) (off:=0) (i:=0) A7 O As O))<|Z (.ptr (ix ids 0) g 0 7) O O (Af (Ad (c:=0) (off:=7) (i:=7) As O Db O))<|Bb O (fun _ _=>O) (fun K hK=>A2 (Cj vH hI O O O O Db O O O) (hK _ _ (Y O (Y O (Y O (Y O (Y O (Y O (Y O (Y O (Ab O Aa (Y O (Y O Ap))))))))))) ?_))
      clear hK K
      refine Z (.q ids 0 g) O O (Al O)<|Z (.q ids 0 g) O O (Af (Ad (c:=0) (off:=0) (i:=0) A7 O As O))<|Z (.ptr (ix ids 0) g 0 8) O O (Af (Ad (c:=0) (off:=8) (i:=8) As O B0 O))<|Bb O (fun _ _=>O) (fun K hK=>A2 (Cj vH1 hI O O O O B0 O O O) (hK _ _ (Y O (Y O (Y O (Y O (Y O (Y O (Y O (Y O (Y O (Y O (Y O (Y O (Y O (Y O Ap)))))))))))))) ?_))
      clear hK K
      refine A8<|A3 ?_
      exact Bn (hJ ((List.replicate (Int.toNat n) false),(List.replicate (Int.toNat n) 0)) _ _ ⟨v1,g1,v2,g2,vH,vH1,O,O⟩)
     refine Fg<|B8 fun hl3=>B8 fun hl2=>Z (.q ids 0 g) O O Aa<|Z (.q ids 0 g) O O Aa<|Z (.q ids 0 g) O O Aa<|Z (.I n) O O Aa ?_
     refine Z (.I n) O O Aa<|Z (.q ids 0 g) O O (Al O)<|Z (.q ids 0 g) O O (Af (Ad (c:=0) (off:=0) (i:=0) A7 O As O))<|Z (.ptr (ix ids 0) g 0 5) O O (Af (Ad (c:=0) (off:=5) (i:=5) As O Ax O))<|Ci O O (fun _ _=>O) (fun K hK=>Cy (y:=(0:Int)) (e:=(rI .i64)) (st:=1) (j:=2) hI O O O B0 Ax O O hl2.1 hl2.2.1 hl2.2.2 O O O O O fun v3 g3 vH2=>hK _ _ (Ab O (Af (Ad (c:=0) (off:=5) (i:=5) As O Ax O)) (Ab O (Af (Ad (c:=0) (off:=0) (i:=0) A7 O As O)) (Ab O (Al O) (Y O (Ab O Aa (Ab O Aa (Ab O Aa (Ab O Aa Ap)))))))) ?_)
     clear hK K
     refine Ci O O (fun _ _=>O) (fun K hK=>Cy (y:=(false:Bool)) (e:=rB) (st:=1) (j:=1) hI O O O Db Hw O O hl3.1 hl3.2.1 hl3.2.2 O O O O O fun v4 g4 vH3=>hK _ _ (Ab O (Af (Ad (c:=0) (off:=5) (i:=5) As O Ax O)) (Ab O (Af (Ad (c:=0) (off:=0) (i:=0) A7 O As O)) (Ab O (Al O) (Y O (Y O (Ab O Aa (Ab O Aa (Ab O Aa Ap)))))))) ?_)
     clear hK K
     refine Bb O (fun _ _=>O) (fun K hK=>A2 (A5 (v:=(.I 0)) hI O O O O Ax O O O O O) (hK _ _ (Y O (Y O (Y O (Y O (Y O (Ab O Aa (Ab O Aa (Y O Ap)))))))) ?_))
     clear hK K
     refine Z (.q ids 0 g) O O (Al O)<|Z (.q ids 0 g) O O (Af (Ad (c:=0) (off:=0) (i:=0) A7 O As O))<|Z (.ptr (ix ids 0) g 0 7) O O (Af (Ad (c:=0) (off:=7) (i:=7) As O Db O))<|Bb O (fun _ _=>O) (fun K hK=>A2 (Cj vH3 hI O O O O Db O O O) (hK _ _ (Y O (Y O (Y O (Y O (Y O (Y O (Y O (Y O (Ab O Aa (Y O (Y O Ap))))))))))) ?_))
     clear hK K
     refine Z (.q ids 0 g) O O (Al O)<|Z (.q ids 0 g) O O (Af (Ad (c:=0) (off:=0) (i:=0) A7 O As O))<|Z (.ptr (ix ids 0) g 0 8) O O (Af (Ad (c:=0) (off:=8) (i:=8) As O B0 O))<|Bb O (fun _ _=>O) (fun K hK=>A2 (Cj vH2 hI O O O O B0 O O O) (hK _ _ (Y O (Y O (Y O (Y O (Y O (Y O (Y O (Y O (Y O (Y O (Y O (Y O (Y O (Y O Ap)))))))))))))) ?_))
     clear hK K
     refine A8<|A3 ?_
     exact Bn (hJ ((List.replicate (Int.toNat n) false),(List.replicate (Int.toNat n) 0)) _ _ ⟨v4,g4,v3,g3,vH3,vH2,O,O⟩)
    refine Fg<|B8 fun hl5=>B8 fun hl4=>Z (.q ids 0 g) O O Aa<|Z (.q ids 0 g) O O Aa<|Z (.q ids 0 g) O O Aa<|Z (.I n) O O Aa ?_
    refine Z (.I n) O O Aa<|Z (.q ids 0 g) O O (Al O)<|Z (.q ids 0 g) O O (Af (Ad (c:=0) (off:=0) (i:=0) A7 O As O))<|Z (.ptr (ix ids 0) g 0 5) O O (Af (Ad (c:=0) (off:=5) (i:=5) As O Ax O))<|Ci O O (fun _ _=>O) (fun K hK=>Cy (y:=(0:Int)) (e:=(rI .i64)) (st:=1) (j:=2) hI O O O B0 Ax O O hl4.1 hl4.2.1 hl4.2.2 O O O O O fun v5 g5 vH4=>hK _ _ (Ab O (Af (Ad (c:=0) (off:=5) (i:=5) As O Ax O)) (Ab O (Af (Ad (c:=0) (off:=0) (i:=0) A7 O As O)) (Ab O (Al O) (Y O (Ab O Aa (Ab O Aa (Ab O Aa (Ab O Aa Ap)))))))) ?_)
    clear hK K
    refine Bb O (fun _ _=>O) (fun K hK=>A2 (A5 (v:=(.I 0)) hI O O O O Ax O O O O O) (hK _ _ (Y O (Y O (Y O (Y O (Ab O Aa (Ab O Aa (Ab O Aa (Y O Ap)))))))) ?_))
    clear hK K
    refine Ci O O (fun _ _=>O) (fun K hK=>Cy (y:=(false:Bool)) (e:=rB) (st:=1) (j:=1) hI O O O Db Hw O O hl5.1 hl5.2.1 hl5.2.2 O O O O O fun v6 g6 vH5=>hK _ _ (Y O (Y O (Y O (Y O (Y O (Ab O Aa (Ab O Aa (Y O Ap)))))))) ?_)
    clear hK K
    refine Z (.q ids 0 g) O O (Al O)<|Z (.q ids 0 g) O O (Af (Ad (c:=0) (off:=0) (i:=0) A7 O As O))<|Z (.ptr (ix ids 0) g 0 7) O O (Af (Ad (c:=0) (off:=7) (i:=7) As O Db O))<|Bb O (fun _ _=>O) (fun K hK=>A2 (Cj vH5 hI O O O O Db O O O) (hK _ _ (Y O (Y O (Y O (Y O (Y O (Y O (Y O (Y O (Ab O Aa (Y O (Y O Ap))))))))))) ?_))
    clear hK K
    refine Z (.q ids 0 g) O O (Al O)<|Z (.q ids 0 g) O O (Af (Ad (c:=0) (off:=0) (i:=0) A7 O As O))<|Z (.ptr (ix ids 0) g 0 8) O O (Af (Ad (c:=0) (off:=8) (i:=8) As O B0 O))<|Bb O (fun _ _=>O) (fun K hK=>A2 (Cj vH4 hI O O O O B0 O O O) (hK _ _ (Y O (Y O (Y O (Y O (Y O (Y O (Y O (Y O (Y O (Y O (Y O (Y O (Y O (Y O Ap)))))))))))))) ?_))
    clear hK K
    refine A8<|A3 ?_
    exact Bn (hJ ((List.replicate (Int.toNat n) false),(List.replicate (Int.toNat n) 0)) _ _ ⟨v6,g6,v5,g5,vH5,vH4,O,O⟩)
   refine G9 ?_ ?_
   ·refine G9 ?_ ?_
    ·refine Fg<|B8 fun hl6=>B8 fun hl7=>Z (.q ids 0 g) O O Aa<|Z (.q ids 0 g) O O Aa<|Z (.q ids 0 g) O O Aa<|Z (.I n) O O Aa ?_
     refine Z (.I n) O O Aa<|Z (.q ids 0 g) O O (Al O)<|Z (.q ids 0 g) O O (Af (Ad (c:=0) (off:=0) (i:=0) A7 O As O))<|Z (.ptr (ix ids 0) g 0 5) O O (Af (Ad (c:=0) (off:=5) (i:=5) As O Ax O))<|Ci O O (fun _ _=>O) (fun K hK=>Cy (y:=(false:Bool)) (e:=rB) (st:=1) (j:=1) hI O O O Db Hw O O hl6.1 hl6.2.1 hl6.2.2 O O O O O fun v7 g7 vH6=>hK _ _ (Ab O (Af (Ad (c:=0) (off:=5) (i:=5) As O Ax O)) (Ab O (Af (Ad (c:=0) (off:=0) (i:=0) A7 O As O)) (Ab O (Al O) (Ab O Aa (Y O (Ab O Aa (Ab O Aa (Ab O Aa Ap)))))))) ?_)
     clear hK K
     refine Bb O (fun _ _=>O) (fun K hK=>A2 (A5 (v:=(.I 0)) hI O O O O Ax O O O O O) (hK _ _ (Y O (Y O (Y O (Ab O Aa (Y O (Ab O Aa (Ab O Aa (Y O Ap)))))))) ?_))
     clear hK K
     refine Z (.q ids 0 g) O O (Al O)<|Z (.q ids 0 g) O O (Af (Ad (c:=0) (off:=0) (i:=0) A7 O As O))<|Z (.ptr (ix ids 0) g 0 7) O O (Af (Ad (c:=0) (off:=7) (i:=7) As O Db O))<|Ci O O (fun _ _=>O) (fun K hK=>Cy (y:=(0:Int)) (e:=(rI .i64)) (st:=1) (j:=2) hI O O O B0 Ax O O hl7.1 hl7.2.1 hl7.2.2 O O O O O fun v8 g8 vH7=>hK _ _ (Ab O (Af (Ad (c:=0) (off:=7) (i:=7) As O Db O)) (Ab O (Af (Ad (c:=0) (off:=0) (i:=0) A7 O As O)) (Ab O (Al O) (Y O (Y O (Y O (Y O (Y O (Ab O Aa (Ab O Aa (Y O Ap))))))))))) ?_)
     clear hK K
     refine Bb O (fun _ _=>O) (fun K hK=>A2 (Cj vH6 hI O O O O Db O O O) (hK _ _ (Y O (Y O (Y O (Y O (Y O (Y O (Y O (Y O (Ab O Aa (Y O (Y O Ap))))))))))) ?_))
     clear hK K
     refine Z (.q ids 0 g) O O (Al O)<|Z (.q ids 0 g) O O (Af (Ad (c:=0) (off:=0) (i:=0) A7 O As O))<|Z (.ptr (ix ids 0) g 0 8) O O (Af (Ad (c:=0) (off:=8) (i:=8) As O B0 O))<|Bb O (fun _ _=>O) (fun K hK=>A2 (Cj vH7 hI O O O O B0 O O O) (hK _ _ (Y O (Y O (Y O (Y O (Y O (Y O (Y O (Y O (Y O (Y O (Y O (Y O (Y O (Y O Ap)))))))))))))) ?_))
     clear hK K
     refine A8<|A3 ?_
     exact Bn (hJ ((List.replicate (Int.toNat n) false),(List.replicate (Int.toNat n) 0)) _ _ ⟨v7,g7,v8,g8,vH6,vH7,O,O⟩)
    refine Fg<|B8 fun hl8=>B8 fun hl9=>Z (.q ids 0 g) O O Aa<|Z (.q ids 0 g) O O Aa<|Z (.q ids 0 g) O O Aa<|Z (.I n) O O Aa ?_
    refine Z (.I n) O O Aa<|Z (.q ids 0 g) O O (Al O)<|Z (.q ids 0 g) O O (Af (Ad (c:=0) (off:=0) (i:=0) A7 O As O))<|Z (.ptr (ix ids 0) g 0 5) O O (Af (Ad (c:=0) (off:=5) (i:=5) As O Ax O))<|Bb O (fun _ _=>O) (fun K hK=>A2 (A5 (v:=(.I 0)) hI O O O O Ax O O O O O) (hK _ _ (Y O (Y O (Y O (Ab O Aa (Ab O Aa (Ab O Aa (Ab O Aa (Y O Ap)))))))) ?_))
    clear hK K
    refine Ci O O (fun _ _=>O) (fun K hK=>Cy (y:=(false:Bool)) (e:=rB) (st:=1) (j:=1) hI O O O Db Hw O O hl8.1 hl8.2.1 hl8.2.2 O O O O O fun v9 g9 vH8=>hK _ _ (Y O (Y O (Y O (Ab O Aa (Y O (Ab O Aa (Ab O Aa (Y O Ap)))))))) ?_)
    clear hK K
    refine Z (.q ids 0 g) O O (Al O)<|Z (.q ids 0 g) O O (Af (Ad (c:=0) (off:=0) (i:=0) A7 O As O))<|Z (.ptr (ix ids 0) g 0 7) O O (Af (Ad (c:=0) (off:=7) (i:=7) As O Db O))<|Ci O O (fun _ _=>O) (fun K hK=>Cy (y:=(0:Int)) (e:=(rI .i64)) (st:=1) (j:=2) hI O O O B0 Ax O O hl9.1 hl9.2.1 hl9.2.2 O O O O O fun v10 g10 vH9=>hK _ _ (Ab O (Af (Ad (c:=0) (off:=7) (i:=7) As O Db O)) (Ab O (Af (Ad (c:=0) (off:=0) (i:=0) A7 O As O)) (Ab O (Al O) (Y O (Y O (Y O (Y O (Y O (Ab O Aa (Ab O Aa (Y O Ap))))))))))) ?_)
    clear hK K
    refine Bb O (fun _ _=>O) (fun K hK=>A2 (Cj vH8 hI O O O O Db O O O) (hK _ _ (Y O (Y O (Y O (Y O (Y O (Y O (Y O (Y O (Ab O Aa (Y O (Y O Ap))))))))))) ?_))
    clear hK K
    refine Z (.q ids 0 g) O O (Al O)<|Z (.q ids 0 g) O O (Af (Ad (c:=0) (off:=0) (i:=0) A7 O As O))<|Z (.ptr (ix ids 0) g 0 8) O O (Af (Ad (c:=0) (off:=8) (i:=8) As O B0 O))<|Bb O (fun _ _=>O) (fun K hK=>A2 (Cj vH9 hI O O O O B0 O O O) (hK _ _ (Y O (Y O (Y O (Y O (Y O (Y O (Y O (Y O (Y O (Y O (Y O (Y O (Y O (Y O Ap)))))))))))))) ?_))
    clear hK K
    refine A8<|A3 ?_
    exact Bn (hJ ((List.replicate (Int.toNat n) false),(List.replicate (Int.toNat n) 0)) _ _ ⟨v9,g9,v10,g10,vH8,vH9,O,O⟩)
   refine Fg<|B8 fun hl11=>B8 fun hl10=>Z (.q ids 0 g) O O Aa<|Z (.q ids 0 g) O O Aa<|Z (.q ids 0 g) O O Aa<|Z (.I n) O O Aa ?_
   refine Z (.I n) O O Aa<|Z (.q ids 0 g) O O (Al O)<|Z (.q ids 0 g) O O (Af (Ad (c:=0) (off:=0) (i:=0) A7 O As O))<|Z (.ptr (ix ids 0) g 0 5) O O (Af (Ad (c:=0) (off:=5) (i:=5) As O Ax O))<|Bb O (fun _ _=>O) (fun K hK=>A2 (A5 (v:=(.I 0)) hI O O O O Ax O O O O O) (hK _ _ (Y O (Y O (Y O (Ab O Aa (Ab O Aa (Ab O Aa (Ab O Aa (Y O Ap)))))))) ?_))
   clear hK K
   refine Ci O O (fun _ _=>O) (fun K hK=>Cy (y:=(0:Int)) (e:=(rI .i64)) (st:=1) (j:=2) hI O O O B0 Ax O O hl10.1 hl10.2.1 hl10.2.2 O O O O O fun v11 g11 vH10=>hK _ _ (Y O (Y O (Y O (Y O (Ab O Aa (Ab O Aa (Ab O Aa (Y O Ap)))))))) ?_)
   clear hK K
   refine Ci O O (fun _ _=>O) (fun K hK=>Cy (y:=(false:Bool)) (e:=rB) (st:=1) (j:=1) hI O O O Db Hw O O hl11.1 hl11.2.1 hl11.2.2 O O O O O fun v12 g12 vH11=>hK _ _ (Y O (Y O (Y O (Y O (Y O (Ab O Aa (Ab O Aa (Y O Ap)))))))) ?_)
   clear hK K
   refine Z (.q ids 0 g) O O (Al O)<|Z (.q ids 0 g) O O (Af (Ad (c:=0) (off:=0) (i:=0) A7 O As O))<|Z (.ptr (ix ids 0) g 0 7) O O (Af (Ad (c:=0) (off:=7) (i:=7) As O Db O))<|Bb O (fun _ _=>O) (fun K hK=>A2 (Cj vH11 hI O O O O Db O O O) (hK _ _ (Y O (Y O (Y O (Y O (Y O (Y O (Y O (Y O (Ab O Aa (Y O (Y O Ap))))))))))) ?_))
   clear hK K
   refine Z (.q ids 0 g) O O (Al O)<|Z (.q ids 0 g) O O (Af (Ad (c:=0) (off:=0) (i:=0) A7 O As O))<|Z (.ptr (ix ids 0) g 0 8) O O (Af (Ad (c:=0) (off:=8) (i:=8) As O B0 O))<|Bb O (fun _ _=>O) (fun K hK=>A2 (Cj vH10 hI O O O O B0 O O O) (hK _ _ (Y O (Y O (Y O (Y O (Y O (Y O (Y O (Y O (Y O (Y O (Y O (Y O (Y O (Y O Ap)))))))))))))) ?_))
   clear hK K
   refine A8<|A3 ?_
   exact Bn (hJ ((List.replicate (Int.toNat n) false),(List.replicate (Int.toNat n) 0)) _ _ ⟨v12,g12,v11,g11,vH11,vH10,O,O⟩)
  refine G9 ?_ ?_
  ·refine Fg<|B8 fun hl12=>B8 fun hl13=>Z (.q ids 0 g) O O Aa<|Z (.q ids 0 g) O O Aa<|Z (.q ids 0 g) O O Aa<|Z (.I n) O O Aa ?_
   refine Z (.I n) O O Aa<|Z (.q ids 0 g) O O (Al O)<|Z (.q ids 0 g) O O (Af (Ad (c:=0) (off:=0) (i:=0) A7 O As O))<|Z (.ptr (ix ids 0) g 0 5) O O (Af (Ad (c:=0) (off:=5) (i:=5) As O Ax O))<|Ci O O (fun _ _=>O) (fun K hK=>Cy (y:=(false:Bool)) (e:=rB) (st:=1) (j:=1) hI O O O Db Hw O O hl12.1 hl12.2.1 hl12.2.2 O O O O O fun v13 g13 vH12=>hK _ _ (Ab O (Af (Ad (c:=0) (off:=5) (i:=5) As O Ax O)) (Ab O (Af (Ad (c:=0) (off:=0) (i:=0) A7 O As O)) (Ab O (Al O) (Ab O Aa (Y O (Ab O Aa (Ab O Aa (Ab O Aa Ap)))))))) ?_)
   clear hK K
   refine Bb O (fun _ _=>O) (fun K hK=>A2 (A5 (v:=(.I 0)) hI O O O O Ax O O O O O) (hK _ _ (Y O (Y O (Y O (Ab O Aa (Y O (Ab O Aa (Ab O Aa (Y O Ap)))))))) ?_))
   clear hK K
   refine Z (.q ids 0 g) O O (Al O)<|Z (.q ids 0 g) O O (Af (Ad (c:=0) (off:=0) (i:=0) A7 O As O))<|Z (.ptr (ix ids 0) g 0 7) O O (Af (Ad (c:=0) (off:=7) (i:=7) As O Db O))<|Bb O (fun _ _=>O) (fun K hK=>A2 (Cj vH12 hI O O O O Db O O O) (hK _ _ (Y O (Y O (Y O (Y O (Y O (Y O (Ab O Aa (Y O (Ab O Aa (Y O (Y O Ap))))))))))) ?_))
   clear hK K
   refine Ci O O (fun _ _=>O) (fun K hK=>Cy (y:=(0:Int)) (e:=(rI .i64)) (st:=1) (j:=2) hI O O O B0 Ax O O hl13.1 hl13.2.1 hl13.2.2 O O O O O fun v14 g14 vH13=>hK _ _ (Y O (Y O (Y O (Y O (Y O (Y O (Y O (Y O (Ab O Aa (Y O (Y O Ap))))))))))) ?_)
   clear hK K
   refine Z (.q ids 0 g) O O (Al O)<|Z (.q ids 0 g) O O (Af (Ad (c:=0) (off:=0) (i:=0) A7 O As O))<|Z (.ptr (ix ids 0) g 0 8) O O (Af (Ad (c:=0) (off:=8) (i:=8) As O B0 O))<|Bb O (fun _ _=>O) (fun K hK=>A2 (Cj vH13 hI O O O O B0 O O O) (hK _ _ (Y O (Y O (Y O (Y O (Y O (Y O (Y O (Y O (Y O (Y O (Y O (Y O (Y O (Y O Ap)))))))))))))) ?_))
   clear hK K
   refine A8<|A3 ?_
   exact Bn (hJ ((List.replicate (Int.toNat n) false),(List.replicate (Int.toNat n) 0)) _ _ ⟨v13,g13,v14,g14,vH12,vH13,O,O⟩)
  refine Fg<|B8 fun hl14=>B8 fun hl15=>Z (.q ids 0 g) O O Aa<|Z (.q ids 0 g) O O Aa<|Z (.q ids 0 g) O O Aa<|Z (.I n) O O Aa ?_
  refine Z (.I n) O O Aa<|Z (.q ids 0 g) O O (Al O)<|Z (.q ids 0 g) O O (Af (Ad (c:=0) (off:=0) (i:=0) A7 O As O))<|Z (.ptr (ix ids 0) g 0 5) O O (Af (Ad (c:=0) (off:=5) (i:=5) As O Ax O))<|Bb O (fun _ _=>O) (fun K hK=>A2 (A5 (v:=(.I 0)) hI O O O O Ax O O O O O) (hK _ _ (Y O (Y O (Y O (Ab O Aa (Ab O Aa (Ab O Aa (Ab O Aa (Y O Ap)))))))) ?_))
  clear hK K
  refine Ci O O (fun _ _=>O) (fun K hK=>Cy (y:=(false:Bool)) (e:=rB) (st:=1) (j:=1) hI O O O Db Hw O O hl14.1 hl14.2.1 hl14.2.2 O O O O O fun v15 g15 vH14=>hK _ _ (Y O (Y O (Y O (Ab O Aa (Y O (Ab O Aa (Ab O Aa (Y O Ap)))))))) ?_)
  clear hK K
  refine Z (.q ids 0 g) O O (Al O)<|Z (.q ids 0 g) O O (Af (Ad (c:=0) (off:=0) (i:=0) A7 O As O))<|Z (.ptr (ix ids 0) g 0 7) O O (Af (Ad (c:=0) (off:=7) (i:=7) As O Db O))<|Bb O (fun _ _=>O) (fun K hK=>A2 (Cj vH14 hI O O O O Db O O O) (hK _ _ (Y O (Y O (Y O (Y O (Y O (Y O (Ab O Aa (Y O (Ab O Aa (Y O (Y O Ap))))))))))) ?_))
  clear hK K
  refine Ci O O (fun _ _=>O) (fun K hK=>Cy (y:=(0:Int)) (e:=(rI .i64)) (st:=1) (j:=2) hI O O O B0 Ax O O hl15.1 hl15.2.1 hl15.2.2 O O O O O fun v16 g16 vH15=>hK _ _ (Y O (Y O (Y O (Y O (Y O (Y O (Y O (Y O (Ab O Aa (Y O (Y O Ap))))))))))) ?_)
  clear hK K
  refine Z (.q ids 0 g) O O (Al O)<|Z (.q ids 0 g) O O (Af (Ad (c:=0) (off:=0) (i:=0) A7 O As O))<|Z (.ptr (ix ids 0) g 0 8) O O (Af (Ad (c:=0) (off:=8) (i:=8) As O B0 O))<|Bb O (fun _ _=>O) (fun K hK=>A2 (Cj vH15 hI O O O O B0 O O O) (hK _ _ (Y O (Y O (Y O (Y O (Y O (Y O (Y O (Y O (Y O (Y O (Y O (Y O (Y O (Y O Ap)))))))))))))) ?_))
  clear hK K
  refine A8<|A3 ?_
  exact Bn (hJ ((List.replicate (Int.toNat n) false),(List.replicate (Int.toNat n) 0)) _ _ ⟨v15,g15,v16,g16,vH14,vH15,O,O⟩)
 refine Df O (fun hc=>?_) (fun hc=>?_)
 ·refine Ac<|Aq 6 [0] [(2,(.I s_Replica.Many))] ?_
  refine Aj<|Bn (hJ1 s_Replica.Many _ _ ⟨O,O⟩)
 refine Bq<|Bn (hJ1 0 _ _ ⟨O,O⟩)
theorem L3 (s:T87):CP Try.prog 59 [(.cp (Ux s) 0)] (F2 s) (fun(x:Int)=>(AV.int .i64 x)):=by
 refine E8 (n:=25) 0 Try.func59 O (by decide) O O fun h0 ids hI=>B4 (A4 (F2.eq_1 _) ?_)
 refine Ae<|Ac<|Ah (.I 0) O Av<|Aj<|Ae<|Ae<|Ac ?_
 refine Aq 5 [] [(7,(.sl 2 (List.map An s.Replica.Log)))] ?_
 refine Ah (.I (s.Replica.Log.length:Int)) O (B6 (Ch Bo))<|Ah (.bool ((s.Replica.Log.length:Int)==0)) O (Bf O O O)<|Aj<|Df O (fun hc=>?_) (fun hc=>?_)
 ·refine Ae<|Ac<|Ah (.I 0) O Av<|Aj<|C8 (a:=0) (vs:=[(.I 0)]) Try.func59 hI O (.same _)
 refine Bq<|Ae<|Bv De [[],[0],[0,1],[0,1,2],[0,1,2,3],[],[5],[5,6],[5,6,7],[5,6,7,8],[5,6,7,8,9],[5,6,7,8,9,10],[0,1,2,3,4,5,6,7,8,9,10,11],[0,1,2,3,4,5,6,7,8,9,10,11,12],[0,1,2,3,4,5,6,7,8,9,10,11,12,13],[0,1,2,3,4,5,6,7,8,9,10,11,12,13,14,14]] [(false,0),(false,1),(false,2),(false,3),(false,4),(false,5),(false,6),(false,7),(false,8),(false,9),(false,10),(false,11),(false,12),(false,13),(false,14),(false,15)] (by kernel_rfl)<|Z (.cp (Ux s) 0) O O Aa<|Z (.cp (Ux s) 0) O O (Al O)<|Z (.cp (Ux s) 0) O O (Af (Jp (c:=0) (off:=0) (i:=0) A7 O As O))<|Z (.cp (Ux s) 4) O O (Af (Jp (c:=0) (off:=4) (i:=4) As O Bo O)) ?_
 refine Z (.sl 2 (List.map An s.Replica.Log)) O O (Ak (E6 Bo O))<|Z (.cp (Ux s) 0) O O Aa<|Z (.cp (Ux s) 0) O O (Al O)<|Z (.cp (Ux s) 0) O O (Af (Jp (c:=0) (off:=0) (i:=0) A7 O As O))<|Z (.cp (Ux s) 4) O O (Af (Jp (c:=0) (off:=4) (i:=4) As O Bo O))<|Z (.sl 2 (List.map An s.Replica.Log)) O O (Ak (E6 Bo O))<|Z (.I (s.Replica.Log.length:Int)) O O (B6 (Ch Bo)) ?_
 refine Z (.I (IntKind.wrap .i64 ((s.Replica.Log.length:Int) - 1))) O O (Bf O O O)<|I4 fun a hz hx1=>Z (.cp (An a) 0) O O (Br (Eo Bo D0 O hz hx1))<|Z (.cp (An a) 0) O O (Af (Jp (c:=0) (off:=0) (i:=0) D0 O Ax O))<|Z (.I a.Term) O O (Ak (E6 Ax O))<|Z (.I a.Term) O O Av<|A8 ?_
 exact C8 (a:=a.Term) (vs:=[(.I a.Term)]) Try.func59 hI O (.same _)
theorem N8 (vto:Int)(mKind:Int)(mFrom:Int)(mTo:Int)(mTerm:Int)(mLast:Int)(mLastTerm:Int)(mCommit:Int)(mMatch:Int)(mGranted:Bool)(s_Replica:Replica)(h0:Ag)(o0:Nat)(o1:Nat)(g:Nat)(hI0:Ids h0 [o0,o1] 2):Em vto mKind mFrom mTo mTerm mLast mLastTerm mCommit mMatch mGranted s_Replica≠.bad→Bm Try.prog 69 [(.ptr o0 g 0 0),(.int .i64 vto),(.agg [(.int .i64 mKind),(.int .i64 mFrom),(.int .i64 mTo),(.int .i64 mTerm),(.int .i64 mLast),(.int .i64 mLastTerm),.emp,(.int .i64 mCommit),(.int .i64 mMatch),(.bool mGranted)])] (hp h0 [o0,o1] [some (.rows g 10 [[(.int .i64 s_Replica.ID),(.int .i64 s_Replica.Many),(.int .i64 s_Replica.Term),(.int .i64 s_Replica.Vote),(.sl 2 (List.map An s_Replica.Log)),(.int .i64 s_Replica.Role),(.int .i64 s_Replica.Commit),(.sl 1 (List.map rB s_Replica.Votes)),(.sl 1 (List.map (rI .i64) s_Replica.Match)),.emp]]),none]) (Ef (fun a_ v h' => ∃ (v2:AV),∃ (g3:Nat),Bk v2 o1 g3 a_.length∧v=(.tup [])∧h'=hp h0 [o0,o1] [some (.rows g 10 [[(.int .i64 s_Replica.ID),(.int .i64 s_Replica.Many),(.int .i64 s_Replica.Term),(.int .i64 s_Replica.Vote),(.sl 2 (List.map An s_Replica.Log)),(.int .i64 s_Replica.Role),(.int .i64 s_Replica.Commit),(.sl 1 (List.map rB s_Replica.Votes)),(.sl 1 (List.map (rI .i64) s_Replica.Match)),v2]]),A6 v2 g3 10 (List.map Ai a_)]) h0 (Em vto mKind mFrom mTo mTerm mLast mLastTerm mCommit mMatch mGranted s_Replica)):=by
 refine Cg (n:=30) 1 Try.func69 O (by decide) O O hI0 O fun ids he hI=>?_
 clear hI0
 obtain rfl:ix ids 0=o0:=he 0 rfl
 obtain rfl:ix ids 1=o1:=he 1 rfl
 clear he
 refine B4 (A4 (Em.eq_1 _ _ _ _ _ _ _ _ _ _ _) ?_)
 refine A3 ?_
 refine Ae<|Ac<|Dq (v:=(.agg [(.I mKind),(.I mFrom),(.I mTo),(.I mTerm),(.I mLast),(.I mLastTerm),.emp,(.I mCommit),(.I mMatch),(.bool mGranted)])) (j:=2) hI O O O O O O O fun g1=>Aj<|A3 ?_
 refine Ae<|Bv De [[],[0],[0,1],[0,1,2],[0,1,2,3],[],[],[6],[6,7],[6,7,8],[6,7,8,9],[0,1,2,3,4],[0,1,2,3,4,4,11],[0,1,2,3,4,5,11,12],[0,1,2,3,4,5,5,11,12,12,13],[0,1,2,3,4,5,6,7,8,9,10,11,12,13,14],[0,1,2,3,4,5,6,7,8,9,10,10,11,12,13,14,14,15]] [(false,0),(false,1),(false,2),(false,3),(false,4),(false,5),(false,6),(false,7),(false,8),(false,9),(false,10),(false,11),(true,12),(false,13),(true,14),(false,15),(true,16)] (by kernel_rfl)<|Z (.q ids 0 g) O O Aa<|Z (.q ids 0 g) O O (Al O)<|Z (.q ids 0 g) O O (Af (Ad (c:=0) (off:=0) (i:=0) A7 O As O))<|Z (.q ids 0 g) O O (Af (Ad (c:=0) (off:=0) (i:=0) As O Ax O))<|Z (.I s_Replica.ID) O O (Ak (Ao hI O O O Ax O)) ?_
 refine Z (.I vto) O O Aa<|Z (.q ids 0 g) O O Aa<|Z (.q ids 0 g) O O (Al O)<|Z (.q ids 0 g) O O (Af (Ad (c:=0) (off:=0) (i:=0) A7 O As O))<|Z (.ptr (ix ids 0) g 0 2) O O (Af (Ad (c:=0) (off:=2) (i:=2) As O Ax O))<|Z (.I s_Replica.Term) O O (Ak (Ao hI O O O Ax O))<|Z (.ptr (ix ids 2) g1 0 1) O O (Af (Ad (c:=0) (off:=1) (i:=1) Bd O Ax O)) ?_
 refine Bb O (fun _ _=>O) (fun K hK=>A2 (A5 (v:=(.I s_Replica.ID)) hI O O O O Ax O O O O O) (hK _ _ (Y O (Ab O (Ak (Ao hI O O O Ax O)) (Ab O (Af (Ad (c:=0) (off:=2) (i:=2) As O Ax O)) (Ab O (Af (Ad (c:=0) (off:=0) (i:=0) A7 O As O)) (Ab O (Al O) (Ab O Aa (Ab O Aa (Y O (Y O (Y O (Y O (Y O Ap)))))))))))) ?_))
 clear hK K
 refine Z (.ptr (ix ids 2) g1 0 2) O O (Af (Ad (c:=0) (off:=2) (i:=2) Bd O Ax O))<|Bb O (fun _ _=>O) (fun K hK=>A2 (A5 (v:=(.I vto)) hI O O O O Ax O O O O O) (hK _ _ (Y O (Y O (Ab O (Ak (Ao hI O O O Ax O)) (Ab O (Af (Ad (c:=0) (off:=2) (i:=2) As O Ax O)) (Ab O (Af (Ad (c:=0) (off:=0) (i:=0) A7 O As O)) (Ab O (Al O) (Ab O Aa (Y O (Y O (Y O (Y O (Y O (Y O Ap))))))))))))) ?_))
 clear hK K
 refine Z (.ptr (ix ids 2) g1 0 3) O O (Af (Ad (c:=0) (off:=3) (i:=3) Bd O Ax O))<|Bb O (fun _ _=>O) (fun K hK=>A2 (A5 (v:=(.I s_Replica.Term)) hI O O O O Ax O O O O O) (hK _ _ (Y O (Y O (Y O (Y O (Y O (Y O (Y O (Y O (Y O (Y O (Y O (Y O (Y O (Y O Ap)))))))))))))) ?_))
 clear hK K
 refine A8<|A3 ?_
 refine Bv De [[],[],[1],[1,2],[1,2,3],[],[5],[1,2,3,4,5,6],[0,0,1,2,3,4,5,6,7],[0,1,2,3,4,5,6,7,8],[0,1,2,3,4,5,6,7,8,9]] [(false,0),(false,1),(false,2),(false,3),(false,4),(false,5),(true,6),(true,7),(false,8),(false,9),(true,10)] (by kernel_rfl)<|Z (.q ids 0 g) O O Aa<|Z (.q ids 0 g) O O Aa<|Z (.q ids 0 g) O O (Al O)<|Z (.ptr (ix ids 0) g 0 9) O O (Af (Ad (c:=0) (off:=9) (i:=1) A7 O Ce O))<|Z .emp O O (Ak (Ao hI O O O Ce O))<|Z (.agg [(.I mKind),(.I s_Replica.ID),(.I vto),(.I s_Replica.Term),(.I mLast),(.I mLastTerm),.emp,(.I mCommit),(.I mMatch),(.bool mGranted)]) O O (Ak (Ao hI O O O Bd O)) ?_
 refine Ci O O (fun _ _=>O) (fun K hK=>H0 (e:=Ai) (L:=[({ Kind:=mKind,From:=s_Replica.ID,To:=vto,Term:=s_Replica.Term,Last:=mLast,LastTerm:=mLastTerm,Log:=[],Commit:=mCommit,Match:=mMatch,Granted:=mGranted }:Message)]) (st:=10) (rows:=[[(.I mKind),(.I s_Replica.ID),(.I vto),(.I s_Replica.Term),(.I mLast),(.I mLastTerm),.emp,(.I mCommit),(.I mMatch),(.bool mGranted)]]) Ce Bd O O O O O (.cons (.cons (.same _) (.cons (.same _) (.cons (.same _) (.cons (.same _) (.cons (.same _) (.cons (.same _) (.cons (.emp _) (.cons (.same _) (.cons (.same _) (.cons (.same _) .nil)))))))))) .nil) (fun x=>Hv x) O O (hK _ _ (Y O (Ab O (Ak (Ao hI O O O Ce O)) (Ab O (Af (Ad (c:=0) (off:=9) (i:=1) A7 O Ce O)) (Ab O (Al O) (Ab O Aa (Ab O Aa Ap)))))) ?_))
 clear hK K
 refine B8 fun hl=>Ci O O (fun _ _=>O) (fun K hK=>Fs (e:=Ai) (L:=([]:List Message)) (L2:=[({ Kind:=mKind,From:=s_Replica.ID,To:=vto,Term:=s_Replica.Term,Last:=mLast,LastTerm:=mLastTerm,Log:=[],Commit:=mCommit,Match:=mMatch,Granted:=mGranted }:Message)]) (v:=.emp) (g:=0) (st:=10) (j:=1) hI O O O .nil O (Hq O) Ce Ce O Bd O O O (by simpa using hl) fun v1 g2 vH=>hK _ _ (Y O (Y O (Y O (Y O (Y O (Ab O Aa Ap)))))) ?_)
 clear hK K
 refine Z (.q ids 0 g) O O (Al O)<|Z (.ptr (ix ids 0) g 0 9) O O (Af (Ad (c:=0) (off:=9) (i:=1) A7 O Ce O))<|Bb O (fun _ _=>O) (fun K hK=>A2 (Cj vH hI O O O O Ce O O O) (hK _ _ (Y O (Y O (Y O (Y O (Y O (Y O (Y O (Y O Ap)))))))) ?_))
 clear hK K
 refine A8<|A3 ?_
 exact E2 (K:=2) (N:=1) (a:=[({ Kind:=mKind,From:=s_Replica.ID,To:=vto,Term:=s_Replica.Term,Last:=mLast,LastTerm:=mLastTerm,Log:=[],Commit:=mCommit,Match:=mMatch,Granted:=mGranted }:Message)]) (vs:=[]) [some (.rows g 10 [[(.I s_Replica.ID),(.I s_Replica.Many),(.I s_Replica.Term),(.I s_Replica.Vote),(.sl 2 (List.map An s_Replica.Log)),(.I s_Replica.Role),(.I s_Replica.Commit),(.sl 1 (List.map rB s_Replica.Votes)),(.sl 1 (List.map (rI .i64) s_Replica.Match)),v1]]),A6 v1 g2 10 (List.map Ai [({ Kind:=mKind,From:=s_Replica.ID,To:=vto,Term:=s_Replica.Term,Last:=mLast,LastTerm:=mLastTerm,Log:=[],Commit:=mCommit,Match:=mMatch,Granted:=mGranted }:Message)])] Try.func69 hI O O O (.keep (.keep (.drop .nil))) (.same _) ⟨v1,g2,vH,O,O⟩
theorem Tg (m:Message)(s_Replica:Replica)(h0:Ag)(o0:Nat)(o1:Nat)(g:Nat)(hI0:Ids h0 [o0,o1] 2):Gs m s_Replica≠.bad→Bm Try.prog 48 [(.ptr o0 g 0 0),(.agg (Ai m))] (hp h0 [o0,o1] [some (.rows g 10 [[(.int .i64 s_Replica.ID),(.int .i64 s_Replica.Many),(.int .i64 s_Replica.Term),(.int .i64 s_Replica.Vote),(.sl 2 (List.map An s_Replica.Log)),(.int .i64 s_Replica.Role),(.int .i64 s_Replica.Commit),(.sl 1 (List.map rB s_Replica.Votes)),(.sl 1 (List.map (rI .i64) s_Replica.Match)),.emp]]),none]) (Ef (fun a_ v h' => ∃ (v2:AV),∃ (g3:Nat),Bk v2 o1 g3 a_.2.length∧v=(.tup [])∧h'=hp h0 [o0,o1] [some (.rows g 10 [[(.int .i64 a_.1.ID),(.int .i64 a_.1.Many),(.int .i64 a_.1.Term),(.int .i64 a_.1.Vote),(.sl 2 (List.map An a_.1.Log)),(.int .i64 a_.1.Role),(.int .i64 a_.1.Commit),(.sl 1 (List.map rB a_.1.Votes)),(.sl 1 (List.map (rI .i64) a_.1.Match)),v2]]),A6 v2 g3 10 (List.map Ai a_.2)]) h0 (Gs m s_Replica)):=by
 refine Cg (n:=71) 1 Try.func48 O (by decide) O O hI0 O fun ids he hI=>?_
 clear hI0
 obtain rfl:ix ids 0=o0:=he 0 rfl
 obtain rfl:ix ids 1=o1:=he 1 rfl
 clear he
 refine B4 (A4 (Gs.eq_1 _ _) ?_)
 refine A3 ?_
 refine Ae<|Ac<|Dq (v:=(.agg (Ai m))) (j:=2) hI O O O O O O O fun g1=>Aj<|A3 ?_
 refine Ae<|Ec (fun good=>Fo m s_Replica good) (fun good=>fun(fr:Nat→AV) (h:Ag)=>fr=A0 [(0,(.q ids 0 g)),(3,(.q ids 2 g1)),(4,(.bool good))]∧h=hp h0 ids [(some (.rows g 10 [[(.I s_Replica.ID),(.I s_Replica.Many),(.I s_Replica.Term),(.I s_Replica.Vote),(.sl 2 (List.map An s_Replica.Log)),(.I s_Replica.Role),(.I s_Replica.Commit),(.sl 1 (List.map rB s_Replica.Votes)),(.sl 1 (List.map (rI .i64) s_Replica.Match)),.emp]])),none,(some (.rows g1 10 [(Ai m)]))]) ?_ fun hJ2=>?_
 ·rintro good fr h ⟨rfl,rfl⟩
  refine A4 (Fo.eq_1 _ _ _)<|Ae<|Ec (fun granted=>Er m s_Replica granted) (fun granted=>fun(fr:Nat→AV) (h:Ag)=>fr=A0 [(0,(.q ids 0 g)),(3,(.q ids 2 g1)),(5,(.bool granted))]∧h=hp h0 ids [(some (.rows g 10 [[(.I s_Replica.ID),(.I s_Replica.Many),(.I s_Replica.Term),(.I s_Replica.Vote),(.sl 2 (List.map An s_Replica.Log)),(.I s_Replica.Role),(.I s_Replica.Commit),(.sl 1 (List.map rB s_Replica.Votes)),(.sl 1 (List.map (rI .i64) s_Replica.Match)),.emp]])),none,(some (.rows g1 10 [(Ai m)]))]) ?_ fun hJ1=>?_
  ·rintro granted fr h ⟨rfl,rfl⟩
   refine A4 (Er.eq_1 _ _ _)<|Ae<|Ae<|Ac<|Ah (.bool granted) O Aa<|Aj<|Ec (fun vReplica=>Ho m granted vReplica) (fun vReplica=>fun(fr:Nat→AV) (h:Ag)=>fr=A0 [(0,(.q ids 0 g)),(3,(.q ids 2 g1)),(5,(.bool granted))]∧h=hp h0 ids [(some (.rows g 10 [[(.I vReplica.ID),(.I vReplica.Many),(.I vReplica.Term),(.I vReplica.Vote),(.sl 2 (List.map An vReplica.Log)),(.I vReplica.Role),(.I vReplica.Commit),(.sl 1 (List.map rB vReplica.Votes)),(.sl 1 (List.map (rI .i64) vReplica.Match)),.emp]])),none,(some (.rows g1 10 [(Ai m)]))]) ?_ fun hJ=>?_
   ·rintro vReplica fr h ⟨rfl,rfl⟩
    refine A4 (Ho.eq_1 _ _ _)<|Ac<|Aq 5 [2] [(69,(.agg [(.I 2),(.I 0),(.I 0),(.I 0),(.I 0),(.I 0),.emp,(.I 0),(.I 0),(.bool granted)])),(67,(.I m.From)),(65,(.q ids 0 g))] ?_
    refine B9 [0,1] hI O O (N8 m.From 2 0 0 0 0 0 0 0 granted vReplica _ (ix ids 0) (ix ids 1) g (by exact hI.sub' O O)) O O O O O O (fun v _=>Bw (K:=2) (N:=1) Try.func48 hI) ?_
    rintro r2 _ _ _ ⟨v1,g2,vH,rfl,rfl⟩
    refine Du [0,1] hI O O O ?_
    refine Cp<|Aj<|A3 ?_
    exact E2 (K:=2) (N:=1) (a:=(vReplica,r2)) (vs:=[]) [some (.rows g 10 [[(.I vReplica.ID),(.I vReplica.Many),(.I vReplica.Term),(.I vReplica.Vote),(.sl 2 (List.map An vReplica.Log)),(.I vReplica.Role),(.I vReplica.Commit),(.sl 1 (List.map rB vReplica.Votes)),(.sl 1 (List.map (rI .i64) vReplica.Match)),v1]]),A6 v1 g2 10 (List.map Ai r2)] Try.func48 hI O O O (.keep (.keep (.drop .nil))) (.same _) ⟨v1,g2,vH,O,O⟩
   refine Df O (fun hc=>?_) (fun hc=>?_)
   ·refine Ac<|Aq 6 [2] [(64,(.ptr (ix ids 0) g 0 3)),(61,(.I m.From))] ?_
    refine Bc (A5 (v:=(.I m.From)) hI O O O O Ax O O O O O)<|Aj<|A3 ?_
    exact Bn (hJ ({ ID:=s_Replica.ID,Many:=s_Replica.Many,Term:=s_Replica.Term,Vote:=m.From,Log:=s_Replica.Log,Role:=s_Replica.Role,Commit:=s_Replica.Commit,Votes:=s_Replica.Votes,Match:=s_Replica.Match }:Replica) _ _ ⟨O,O⟩)
   refine Bq<|Bn (hJ s_Replica _ _ ⟨O,O⟩)
  refine Bv De [[],[0],[],[2],[2,3],[2,3,4],[2,3,4,5],[0,1,2,3,4,5,6],[0,1,2,3,4,5,6,7],[0,1,2,3,4,5,6,7,8],[0,1,2,3,4,5,6,7,8,9],[0,1,2,3,4,5,6,7,8,9,10],[0,1,2,3,4,5,6,7,8,9,10,11],[0,1,2,3,4,5,6,7,8,9,10,11,12],[0,1,2,3,4,5,6,7,8,9,10,11,12,13],[0,1,2,3,4,5,6,7,8,9,10,11,12,13,14],[0,1,2,3,4,5,6,7,8,9,10,11,12,13,14,15],[0,1,2,3,4,5,6,7,8,9,10,11,12,13,14,15,16],[0,1,2,3,4,5,6,7,8,9,10,11,12,13,14,15,16,17],[0,1,2,3,4,5,6,7,8,9,10,11,12,13,14,15,16,17,18],[0,1,2,3,4,5,6,7,8,9,10,11,12,13,14,15,16,17,18,19],[0,1,2,3,4,5,6,7,8,9,10,11,12,13,14,15],[0,1,2,3,4,5,6,7,8,9,10,11,12,13,14,15,21],[0,1,2,3,4,5,6,7,8,9,10,11,12,13,14,15,16,17,18,19,20,21,22],[0,1,2,3,4,5,6,7,8,9,10,11,12,13,14,15,16,17,18,19,20,21,22,23],[0,1,2,3,4,5,6,7,8,9,10,11,12,13,14,15,16,17,18,19,20,21,22,23,24],[0,1,2,3,4,5,6,7,8,9,10,11,12,13,14,15,16,17,18,19,20,21,22,23,24,25],[0,1,2,3,4,5,6,7,8,9,10,11,12,13,14,15,16,17,18,19,20,21,22,23,24,25,26],[0,1,2,3,4,5,6,7,8,9,10,11,12,13,14,15,16,17,18,19,20,21,22,23,24,25,26,27],[0,1,2,3,4,5,6,7,8,9,10,11,12,13,14,15,16,17,18,19,20,21,22,23,24,25,26,26,27,28,28]] [(false,0),(false,1),(false,2),(false,3),(false,4),(false,5),(false,6),(false,7),(false,8),(false,9),(false,10),(false,11),(false,12),(false,13),(false,14),(false,15),(false,16),(false,17),(false,18),(false,19),(false,20),(false,21),(false,22),(false,23),(false,24),(false,25),(false,26),(false,27),(false,28),(false,29)] (by kernel_rfl)<|Z (.ptr (ix ids 2) g1 0 3) O O (Af (Ad (c:=0) (off:=3) (i:=3) Bd O Ax O))<|Z (.I m.Term) O O (Ak (Ao hI O O O Ax O))<|Z (.q ids 0 g) O O Aa<|Z (.q ids 0 g) O O (Al O)<|Z (.q ids 0 g) O O (Af (Ad (c:=0) (off:=0) (i:=0) A7 O As O))<|Z (.ptr (ix ids 0) g 0 2) O O (Af (Ad (c:=0) (off:=2) (i:=2) As O Ax O)) ?_
  refine Z (.I s_Replica.Term) O O (Ak (Ao hI O O O Ax O))<|Z (.bool (m.Term==s_Replica.Term)) O O (Bf O O O)<|Z (.bool (m.Term==s_Replica.Term)) O O Aa<|Fe (fun hb2=>?_) (fun hb2=>?_)
  ·refine Aw (tj:=37) (.q ids 0 g) O O (congrArg AV.bool hb2) O Aa<|Aw (tj:=37) (.q ids 0 g) O O (congrArg AV.bool hb2) O (Al O)<|Aw (tj:=37) (.q ids 0 g) O O (congrArg AV.bool hb2) O (Af (Ad (c:=0) (off:=0) (i:=0) A7 O As O))<|Aw (tj:=37) (.ptr (ix ids 0) g 0 3) O O (congrArg AV.bool hb2) O (Af (Ad (c:=0) (off:=3) (i:=3) As O Ax O))<|Aw (tj:=37) (.I s_Replica.Vote) O O (congrArg AV.bool hb2) O (Ak (Ao hI O O O Ax O))<|Aw (tj:=37) (.bool (s_Replica.Vote==(-1))) O O (congrArg AV.bool hb2) O (Bf O O O)<|Aw (tj:=37) (.bool (s_Replica.Vote==(-1))) O O (congrArg AV.bool hb2) O Aa ?_
   refine Fe (fun hb3=>?_) (fun hb3=>?_)
   ·refine Ar (tj:=44) (b:=true) O O (congrArg AV.bool hb3) O O<|Ar (tj:=44) (b:=true) O O (congrArg AV.bool hb3) O O<|Ar (tj:=44) (b:=true) O O (congrArg AV.bool hb3) O O<|Ar (tj:=44) (b:=true) O O (congrArg AV.bool hb3) O O<|Ar (tj:=44) (b:=true) O O (congrArg AV.bool hb3) O O<|Ar (tj:=44) (b:=true) O O (congrArg AV.bool hb3) O O<|Ar (tj:=44) (b:=true) O O (congrArg AV.bool hb3) O O ?_
    refine Ar (tj:=44) (b:=true) O O (congrArg AV.bool hb3) O O<|Aw (tj:=37) (.bool true) O O (congrArg AV.bool hb2) O (Be (t:=true) (congrArg AV.bool hb3) O)<|Z (.bool true) O O (Be (t:=true) (congrArg AV.bool hb2) O)<|Z (.bool true) O O Aa<|Aw (tj:=55) (.bool good) O O O O Aa<|Z (.bool good) O O (Be (t:=true) O O)<|Z (.bool good) O O Av ?_
    refine A8<|Bn (hJ1 good _ _ ⟨O,O⟩)
   refine Aw (tj:=44) (.q ids 0 g) O O (congrArg AV.bool hb3) O Aa<|Aw (tj:=44) (.q ids 0 g) O O (congrArg AV.bool hb3) O (Al O)<|Aw (tj:=44) (.q ids 0 g) O O (congrArg AV.bool hb3) O (Af (Ad (c:=0) (off:=0) (i:=0) A7 O As O))<|Aw (tj:=44) (.ptr (ix ids 0) g 0 3) O O (congrArg AV.bool hb3) O (Af (Ad (c:=0) (off:=3) (i:=3) As O Ax O))<|Aw (tj:=44) (.I s_Replica.Vote) O O (congrArg AV.bool hb3) O (Ak (Ao hI O O O Ax O))<|Aw (tj:=44) (.ptr (ix ids 2) g1 0 1) O O (congrArg AV.bool hb3) O (Af (Ad (c:=0) (off:=1) (i:=1) Bd O Ax O))<|Aw (tj:=44) (.I m.From) O O (congrArg AV.bool hb3) O (Ak (Ao hI O O O Ax O)) ?_
   refine Aw (tj:=44) (.bool (s_Replica.Vote==m.From)) O O (congrArg AV.bool hb3) O (Bf O O O)<|Aw (tj:=37) (.bool (s_Replica.Vote==m.From)) O O (congrArg AV.bool hb2) O (Be (t:=false) (congrArg AV.bool hb3) O)<|Z (.bool (s_Replica.Vote==m.From)) O O (Be (t:=true) (congrArg AV.bool hb2) O)<|Z (.bool (s_Replica.Vote==m.From)) O O Aa<|Fe (fun hb4=>?_) (fun hb4=>?_)
   ·refine Aw (tj:=55) (.bool good) O O (congrArg AV.bool hb4) O Aa<|Z (.bool good) O O (Be (t:=true) (congrArg AV.bool hb4) O)<|Z (.bool good) O O Av<|A8<|Bn (hJ1 good _ _ ⟨O,O⟩)
   refine Ar (tj:=55) (b:=false) O O (congrArg AV.bool hb4) O O<|Z (.bool false) O O (Be (t:=false) (congrArg AV.bool hb4) O)<|Z (.bool false) O O Av<|A8<|Bn (hJ1 false _ _ ⟨O,O⟩)
  refine Ar (tj:=37) (b:=false) O O (congrArg AV.bool hb2) O O<|Ar (tj:=37) (b:=false) O O (congrArg AV.bool hb2) O O<|Ar (tj:=37) (b:=false) O O (congrArg AV.bool hb2) O O<|Ar (tj:=37) (b:=false) O O (congrArg AV.bool hb2) O O<|Ar (tj:=37) (b:=false) O O (congrArg AV.bool hb2) O O<|Ar (tj:=37) (b:=false) O O (congrArg AV.bool hb2) O O<|Ar (tj:=37) (b:=false) O O (congrArg AV.bool hb2) O O ?_
  refine Bp (tj:=44) O O O O<|Bp (tj:=44) O O O O<|Bp (tj:=44) O O O O<|Bp (tj:=44) O O O O<|Bp (tj:=44) O O O O<|Bp (tj:=44) O O O O<|Bp (tj:=44) O O O O ?_
  refine Bp (tj:=44) O O O O<|Ar (tj:=37) (b:=false) O O (congrArg AV.bool hb2) O O<|Z (.bool false) O O (Be (t:=false) (congrArg AV.bool hb2) O)<|Z (.bool false) O O Aa<|Ar (tj:=55) (b:=false) O O O O O<|Z (.bool false) O O (Be (t:=false) O O)<|Z (.bool false) O O Av ?_
  refine A8<|Bn (hJ1 false _ _ ⟨O,O⟩)
 refine Bv De [[],[0],[],[2],[0,1,2,3],[0,1,2,3,4],[0,1,2,3,4,5],[0,1,2,3,4,5,6],[0,1,2,3,4,5],[0,1,2,3,4,5,8],[0,1,2,3,4,5,6,7,8,9],[0,1,2,3,4,5,6,7,8,9,10],[0,1,2,3,4,5,6,7,8,9,10,11],[0,1,2,3,4,5,6,7,8,9,10,11,12],[0,1,2,3,4,5,6,7,8,9,10,11],[0,1,2,3,4,5,6,7,8,9,10,11,14],[0,1,2,3,4,5,6,7,8,9,10,11,14,15],[0,1,2,3,4,5,6,7,8,9,10,11,14,15,16],[0,1,2,3,4,5,6,7,8,9,10,11,14,15,16,17],[0,1,2,3,4,5,6,7,8,9,10,11,14,15,16,17,18],[0,1,2,3,4,5,6,7,8,9,10,11,12,13,14,15,16,17,18,19],[0,1,2,3,4,5,6,7,8,9,10,11,12,13,14,15,16,17,18,19,20],[0,1,2,3,4,5,6,7,8,9,10,11,12,13,14,15,16,17,18,19,20,21],[0,1,2,3,4,5,6,7,8,9,10,11,11,12,13,14,15,16,17,18,19,20,21,22,22]] [(false,0),(false,1),(false,2),(true,3),(false,4),(false,5),(false,6),(false,7),(false,8),(true,9),(false,10),(false,11),(false,12),(false,13),(false,14),(false,15),(false,16),(false,17),(false,18),(false,19),(false,20),(false,21),(false,22),(false,23)] (by kernel_rfl)<|Z (.ptr (ix ids 2) g1 0 5) O O (Af (Ad (c:=0) (off:=5) (i:=5) Bd O Ax O))<|Z (.I m.LastTerm) O O (Ak (Ao hI O O O Ax O))<|Z (.q ids 0 g) O O Aa<|Ez [(.q ids 0 g)] O O O O O (CP.lend (L3 ({ Replica:=s_Replica,fSent:=[] }:T87)) (LF.lfz (.cons (.ptrL (hI.at O O) O O (.cons (.same _) (.cons (.same _) (.cons (.same _) (.cons (.same _) (.cons (.same _) (.cons (.same _) (.cons (.same _) (.cons (.same _) (.cons (.same _) (.cons (.emp _) .nil))))))))))) .nil)) (fun _ _=>(.int _ _))) (fun v _ _ _=>Bw (K:=2) (N:=1) Try.func48 hI) (Y O (Ab O (Ak (Ao hI O O O Ax O)) (Ab O (Af (Ad (c:=0) (off:=5) (i:=5) Bd O Ax O)) Ap))) fun r _=>Z (.bool (decide (m.LastTerm > r))) O O (Bf O O O)<|Z (.bool (decide (m.LastTerm > r))) O O Aa ?_
 refine Fe (fun hb=>?_) (fun hb=>?_)
 ·refine Ar (tj:=11) (b:=true) O O (congrArg AV.bool hb) O O<|Ar (tj:=11) (b:=true) O O (congrArg AV.bool hb) O O<|Ar (tj:=11) (b:=true) O O (congrArg AV.bool hb) O O<|Ai3 (tj:=11) (b:=true) O O (congrArg AV.bool hb) O O<|Ar (tj:=11) (b:=true) O O (congrArg AV.bool hb) O O<|Ar (tj:=11) (b:=true) O O (congrArg AV.bool hb) O O<|Bp (tj:=17) O O O O ?_
  refine Bp (tj:=17) O O O O<|Bp (tj:=17) O O O O<|Bp (tj:=17) O O O O<|Bp (tj:=17) O O O O<|Bp (tj:=17) O O O O<|Bp (tj:=17) O O O O<|Bp (tj:=17) O O O O ?_
  refine Bp (tj:=17) O O O O<|Ar (tj:=11) (b:=true) O O (congrArg AV.bool hb) O O<|Z (.bool true) O O (Be (t:=true) (congrArg AV.bool hb) O)<|Z (.bool true) O O Av<|A8<|Bn (hJ2 true _ _ ⟨O,O⟩)
 refine Aw (tj:=11) (.ptr (ix ids 2) g1 0 5) O O (congrArg AV.bool hb) O (Af (Ad (c:=0) (off:=5) (i:=5) Bd O Ax O))<|Aw (tj:=11) (.I m.LastTerm) O O (congrArg AV.bool hb) O (Ak (Ao hI O O O Ax O))<|Aw (tj:=11) (.q ids 0 g) O O (congrArg AV.bool hb) O Aa<|Ez [(.q ids 0 g)] O (Fr (tj:=11) O (congrArg AV.bool hb)) O O O (CP.lend (L3 ({ Replica:=s_Replica,fSent:=[] }:T87)) (LF.lfz (.cons (.ptrL (hI.at O O) O O (.cons (.same _) (.cons (.same _) (.cons (.same _) (.cons (.same _) (.cons (.same _) (.cons (.same _) (.cons (.same _) (.cons (.same _) (.cons (.same _) (.cons (.emp _) .nil))))))))))) .nil)) (fun _ _=>(.int _ _))) (fun v _ _ _=>Bw (K:=2) (N:=1) Try.func48 hI) (Y O (Aaw (tj:=11) O O (congrArg AV.bool hb) (Ak (Ao hI O O O Ax O)) (Aaw (tj:=11) O O (congrArg AV.bool hb) (Af (Ad (c:=0) (off:=5) (i:=5) Bd O Ax O)) (Y O (Y O (Y O (Y O (Y O Ap)))))))) fun r1 _=>Aw (tj:=11) (.bool (m.LastTerm==r1)) O O (congrArg AV.bool hb) O (Bf O O O)<|Aw (tj:=11) (.bool (m.LastTerm==r1)) O O (congrArg AV.bool hb) O Aa<|Fe (fun hb1=>?_) (fun hb1=>?_)
 ·refine Aw (tj:=17) (.ptr (ix ids 2) g1 0 4) O O (congrArg AV.bool hb1) O (Af (Ad (c:=0) (off:=4) (i:=4) Bd O Ax O))<|Aw (tj:=17) (.I m.Last) O O (congrArg AV.bool hb1) O (Ak (Ao hI O O O Ax O))<|Aw (tj:=17) (.q ids 0 g) O O (congrArg AV.bool hb1) O Aa<|Aw (tj:=17) (.q ids 0 g) O O (congrArg AV.bool hb1) O (Al O)<|Aw (tj:=17) (.q ids 0 g) O O (congrArg AV.bool hb1) O (Af (Ad (c:=0) (off:=0) (i:=0) A7 O As O))<|Aw (tj:=17) (.ptr (ix ids 0) g 0 4) O O (congrArg AV.bool hb1) O (Af (Ad (c:=0) (off:=4) (i:=4) As O Bo O))<|Aw (tj:=17) (.sl 2 (List.map An s_Replica.Log)) O O (congrArg AV.bool hb1) O (Ak (Ao hI O O O Bo O)) ?_
  refine Aw (tj:=17) (.I (s_Replica.Log.length:Int)) O O (congrArg AV.bool hb1) O (B6 (Ch Bo))<|Aw (tj:=17) (.bool (decide (m.Last≥(s_Replica.Log.length:Int)))) O O (congrArg AV.bool hb1) O (Bf O O O)<|Aw (tj:=11) (.bool (decide (m.Last≥(s_Replica.Log.length:Int)))) O O (congrArg AV.bool hb) O (Be (t:=true) (congrArg AV.bool hb1) O)<|Z (.bool (decide (m.Last≥(s_Replica.Log.length:Int)))) O O (Be (t:=false) (congrArg AV.bool hb) O)<|Z (.bool (decide (m.Last≥(s_Replica.Log.length:Int)))) O O Av<|A8<|Bn (hJ2 (decide (m.Last≥(s_Replica.Log.length:Int))) _ _ ⟨O,O⟩)
 refine Ar (tj:=17) (b:=false) O O (congrArg AV.bool hb1) O O<|Ar (tj:=17) (b:=false) O O (congrArg AV.bool hb1) O O<|Ar (tj:=17) (b:=false) O O (congrArg AV.bool hb1) O O<|Ar (tj:=17) (b:=false) O O (congrArg AV.bool hb1) O O<|Ar (tj:=17) (b:=false) O O (congrArg AV.bool hb1) O O<|Ar (tj:=17) (b:=false) O O (congrArg AV.bool hb1) O O<|Ar (tj:=17) (b:=false) O O (congrArg AV.bool hb1) O O ?_
 refine Ar (tj:=17) (b:=false) O O (congrArg AV.bool hb1) O O<|Ar (tj:=17) (b:=false) O O (congrArg AV.bool hb1) O O<|Aw (tj:=11) (.bool false) O O (congrArg AV.bool hb) O (Be (t:=false) (congrArg AV.bool hb1) O)<|Z (.bool false) O O (Be (t:=false) (congrArg AV.bool hb) O)<|Z (.bool false) O O Av<|A8<|Bn (hJ2 false _ _ ⟨O,O⟩)
theorem Ud (s:List Bool):CPO Try.prog 70 [(.sl 1 (List.map rB s))] (Jv s) 1 rB:=by
 refine S2 (n:=8) 0 Try.func70 O (by decide) O O fun h0 ids hI=>Oo (Jv.eq_1 _)<|Ae<|Ac<|Ah .emp O Av<|Aj<|Ae ?_
 refine Ae<|Ac<|Ah (.sl 1 (List.map rB s)) O Aa<|Zy (L:=s) O Db O fun c hc=>Aj ?_
 by_cases hl:s.length * 1≤Cc
 case neg=>rw [if_neg hl]; exact Aav
 rw [if_pos hl]
 refine Ln c O ?_
 cases c with
 | true=>
  have hs:=hc rfl
  subst hs
  refine Ae<|Ac<|Ah .emp O Av<|Aj<|Qd (a:=[]) (v:=.emp) (g:=0) Try.func70 hI O O .nil O
 | false=>
  refine Bq<|Ae<|Ac<|Aa8 O Db Hw<|Ah (.sl 1 (List.map rB s)) O Aa<|Nm (e:=rB) (L:=[]) (L2:=s) (v:=.emp) (g:=0) (st:=1) (j:=0) hI O O O O .nil O (Hq O) Db Db O Hw O O O (by simpa using hl) fun v g H=>Ah v O Av ?_
  refine Aj<|Qd (a:=s) (v:=v) (g:=g) Try.func70 hI O O H O
end Go.Am
