/- Written by shrink.py from texts of ours: comments struck, what is not reached left out, names short. -/
import Derived.Test.YtgigefcfankeeaaGreatU4
import Derived.KernelRfl
import Derived.Shelf.Strconv.Itoa0
import Derived.Ground.SlgmProg
import Derived.Shelf.SortM.Plain
import Derived.Shelf.SortM.SortNone
import Derived.Test.YtgigefcfankeeaaGreatProg
namespace Go.Am
open Go
set_option linter.unusedVariables false
set_option maxRecDepth 100000
def Ic (s:List Int):R (List Int):=
 (Fo s).bind fun s1=>
 (Nu s1).bind fun _=>
 .ok (Vv s1)
theorem Lb (s:List Int):Le (Ic s) (Dr s):=by
 unfold Ic Dr
 repeat' first | with_reducible exact Le.refl _ | with_reducible exact hW .. | with_reducible apply C4 | with_reducible apply Cv | with_reducible apply Dg | with_reducible apply C0 | with_reducible apply Cj | with_reducible apply Co | with_reducible apply Df | with_reducible apply Di | with_reducible apply Dk | with_reducible apply Dh | with_reducible apply De | with_reducible apply D2 | (rw [Ce]; with_reducible exact Le.refl _) | intro _
def Lj (s0_ReplicaID:Int)(s0_ReplicaMany:Int)(s0_ReplicaTerm:Int)(s0_ReplicaVote:Int)(s0_ReplicaRole:Int)(s0_ReplicaCommit:Int)(s0_ReplicaVotes:List Bool)(l:List Record)(l1:List Int):R (Int×(List Record)):=
 (Ee l1).bind fun _=>
 (Ic l1).bind fun l2=>
 (C3 l2 (IntKind.wrap .i64 (Int.tdiv (IntKind.wrap .i64 ((l2.length:Int) - 1)) 2))).bind fun a=>
 if(decide (a > s0_ReplicaCommit)) then
((C3 l (IntKind.wrap .i64 (a - 1))).bind fun a1=>
 D9 s0_ReplicaCommit a (a1.Term==s0_ReplicaTerm) l)
else
(D9 s0_ReplicaCommit a false l)
theorem S8 (s0_ReplicaID:Int)(s0_ReplicaMany:Int)(s0_ReplicaTerm:Int)(s0_ReplicaVote:Int)(s0_ReplicaRole:Int)(s0_ReplicaCommit:Int)(s0_ReplicaVotes:List Bool)(l:List Record)(l1:List Int):Le (Lj s0_ReplicaID s0_ReplicaMany s0_ReplicaTerm s0_ReplicaVote s0_ReplicaRole s0_ReplicaCommit s0_ReplicaVotes l l1) (E1 s0_ReplicaID s0_ReplicaMany s0_ReplicaTerm s0_ReplicaVote s0_ReplicaRole s0_ReplicaCommit s0_ReplicaVotes l l1):=by
 unfold Lj E1
 repeat' first | with_reducible exact Le.refl _ | with_reducible exact hW .. | with_reducible exact Lb .. | with_reducible apply C4 | with_reducible apply Cv | with_reducible apply Dg | with_reducible apply C0 | with_reducible apply Cj | with_reducible apply Co | with_reducible apply Df | with_reducible apply Di | with_reducible apply Dk | with_reducible apply Dh | with_reducible apply De | with_reducible apply D2 | (rw [Ce]; with_reducible exact Le.refl _) | intro _
def N9 (m:Message)(s_Replica:Replica):R (List Message):=
 (Tl 64 (D1 fun x l=>G8 m s_Replica x l) (0,[])).bind (fun l1=>Ip l1)
theorem Vm (m:Message)(s_Replica:Replica):Le (N9 m s_Replica) (F8 m s_Replica):=by
 unfold N9 F8
 repeat' first | with_reducible exact Le.refl _ | with_reducible exact hW .. | with_reducible apply C4 | with_reducible apply Cv | with_reducible apply Dg | with_reducible apply C0 | with_reducible apply Cj | with_reducible apply Co | with_reducible apply Df | with_reducible apply Di | with_reducible apply Dk | with_reducible apply Dh | with_reducible apply De | with_reducible apply D2 | (rw [Ce]; with_reducible exact Le.refl _) | intro _
def Nm (s0_ReplicaID:Int)(s0_ReplicaMany:Int)(s0_ReplicaTerm:Int)(s0_ReplicaVote:Int)(s0_ReplicaRole:Int)(s0_ReplicaCommit:Int)(s0_ReplicaVotes:List Bool)(s0_ReplicaMatch:List Int)(l:List Record):R (List Message):=
 (N9 ({ Kind:=3,From:=0,To:=0,Term:=0,Last:=0,LastTerm:=0,Log:=l,Commit:=s0_ReplicaCommit,Match:=0,Granted:=false }:Message) ({ ID:=s0_ReplicaID,Many:=s0_ReplicaMany,Term:=s0_ReplicaTerm,Vote:=s0_ReplicaVote,Log:=l,Role:=s0_ReplicaRole,Commit:=s0_ReplicaCommit,Votes:=s0_ReplicaVotes,Match:=s0_ReplicaMatch }:Replica)).bind fun r=>
 .ok r
theorem Ui (s0_ReplicaID:Int)(s0_ReplicaMany:Int)(s0_ReplicaTerm:Int)(s0_ReplicaVote:Int)(s0_ReplicaRole:Int)(s0_ReplicaCommit:Int)(s0_ReplicaVotes:List Bool)(s0_ReplicaMatch:List Int)(l:List Record):Le (Nm s0_ReplicaID s0_ReplicaMany s0_ReplicaTerm s0_ReplicaVote s0_ReplicaRole s0_ReplicaCommit s0_ReplicaVotes s0_ReplicaMatch l) (Gs s0_ReplicaID s0_ReplicaMany s0_ReplicaTerm s0_ReplicaVote s0_ReplicaRole s0_ReplicaCommit s0_ReplicaVotes s0_ReplicaMatch l):=by
 unfold Nm Gs
 repeat' first | with_reducible exact Le.refl _ | with_reducible exact hW .. | with_reducible exact Vm .. | with_reducible apply C4 | with_reducible apply Cv | with_reducible apply Dg | with_reducible apply C0 | with_reducible apply Cj | with_reducible apply Co | with_reducible apply Df | with_reducible apply Di | with_reducible apply Dk | with_reducible apply Dh | with_reducible apply De | with_reducible apply D2 | (rw [Ce]; with_reducible exact Le.refl _) | intro _
def O2 (r:Replica)(l:List Record):R (Replica×(List Message)×Int):=
 (Iy r.Match).bind fun r3=>
 (C3 r3 r.ID).bind fun a=>
 (Lj r.ID r.Many r.Term r.Vote r.Role r.Commit r.Votes l (r3.set r.ID.toNat (l.length:Int))).bind fun r4=>
 (Nm r.ID r.Many r.Term r.Vote r.Role r4.1 r.Votes (r3.set r.ID.toNat (l.length:Int)) r4.2).bind fun r5=>
 .ok (({ ID:=r.ID,Many:=r.Many,Term:=r.Term,Vote:=r.Vote,Log:=r4.2,Role:=r.Role,Commit:=r4.1,Votes:=r.Votes,Match:=(r3.set r.ID.toNat (l.length:Int)) }:Replica),r5,0)
theorem Wc (r:Replica)(l:List Record):Le (O2 r l) (Je r l):=by
 unfold O2 Je
 repeat' first | with_reducible exact Le.refl _ | with_reducible exact hW .. | with_reducible exact S8 .. | with_reducible exact Ui .. | with_reducible apply C4 | with_reducible apply Cv | with_reducible apply Dg | with_reducible apply C0 | with_reducible apply Cj | with_reducible apply Co | with_reducible apply Df | with_reducible apply Di | with_reducible apply Dk | with_reducible apply Dh | with_reducible apply De | with_reducible apply D2 | (rw [Ce]; with_reducible exact Le.refl _) | intro _
def Oe (r:Replica)(data:List Int):R (Replica×(List Message)×Int):=
 (C5 r).bind fun e=>
 if(e != 0) then
(.ok (({ ID:=0,Many:=0,Term:=0,Vote:=0,Log:=[],Role:=0,Commit:=0,Votes:=[],Match:=[] }:Replica),[],e))
else
(if(r.Role != 2) then
(.ok (({ ID:=0,Many:=0,Term:=0,Vote:=0,Log:=[],Role:=0,Commit:=0,Votes:=[],Match:=[] }:Replica),[],470))
else
(if(r.Log.length:Int)≥4096 then
(.ok (({ ID:=0,Many:=0,Term:=0,Vote:=0,Log:=[],Role:=0,Commit:=0,Votes:=[],Match:=[] }:Replica),[],2))
else
((Dx r).bind fun _=>
 (J3 r.Log).bind fun r1=>
 if(r1.length+[({ Term:=r.Term,Data:=data }:Record)].length) * 32≤B2 then
 O2 r (r1++[({ Term:=r.Term,Data:=data }:Record)]) else .bad)))
theorem X4 (r:Replica)(data:List Int):Le (Oe r data) (Ew r data):=by
 unfold Oe Ew
 repeat' first | with_reducible exact Le.refl _ | with_reducible exact hW .. | with_reducible exact Wc .. | with_reducible apply C4 | with_reducible apply Cv | with_reducible apply Dg | with_reducible apply C0 | with_reducible apply Cj | with_reducible apply Co | with_reducible apply Df | with_reducible apply Di | with_reducible apply Dk | with_reducible apply Dh | with_reducible apply De | with_reducible apply D2 | (rw [Ce]; with_reducible exact Le.refl _) | intro _
def Jp (s0_ReplicaID:Int)(s0_ReplicaMany:Int)(s0_ReplicaTerm:Int)(s0_ReplicaVote:Int)(s0_ReplicaLog:List Record)(s0_ReplicaRole:Int)(s0_ReplicaCommit:Int)(l:List Bool)(l1:List Int):R Int:=
 (Ee l1).bind fun _=>
 (Ic l1).bind fun l2=>
 (C3 l2 (IntKind.wrap .i64 (Int.tdiv (IntKind.wrap .i64 ((l2.length:Int) - 1)) 2))).bind fun a=>
 if(decide (a > s0_ReplicaCommit)) then
((C3 s0_ReplicaLog (IntKind.wrap .i64 (a - 1))).bind fun a1=>
 D7 s0_ReplicaCommit a (a1.Term==s0_ReplicaTerm))
else
(D7 s0_ReplicaCommit a false)
theorem Oo (s0_ReplicaID:Int)(s0_ReplicaMany:Int)(s0_ReplicaTerm:Int)(s0_ReplicaVote:Int)(s0_ReplicaLog:List Record)(s0_ReplicaRole:Int)(s0_ReplicaCommit:Int)(l:List Bool)(l1:List Int):Le (Jp s0_ReplicaID s0_ReplicaMany s0_ReplicaTerm s0_ReplicaVote s0_ReplicaLog s0_ReplicaRole s0_ReplicaCommit l l1) (Ec s0_ReplicaID s0_ReplicaMany s0_ReplicaTerm s0_ReplicaVote s0_ReplicaLog s0_ReplicaRole s0_ReplicaCommit l l1):=by
 unfold Jp Ec
 repeat' first | with_reducible exact Le.refl _ | with_reducible exact hW .. | with_reducible exact Lb .. | with_reducible apply C4 | with_reducible apply Cv | with_reducible apply Dg | with_reducible apply C0 | with_reducible apply Cj | with_reducible apply Co | with_reducible apply Df | with_reducible apply Di | with_reducible apply Dk | with_reducible apply Dh | with_reducible apply De | with_reducible apply D2 | (rw [Ce]; with_reducible exact Le.refl _) | intro _
def Ok (m:Message)(s_ReplicaID:Int)(s_ReplicaMany:Int)(s_ReplicaTerm:Int)(s_ReplicaVote:Int)(s_ReplicaLog:List Record)(s_ReplicaRole:Int)(s_ReplicaCommit:Int)(s_ReplicaMatch:List Int):R (List Message):=
 (Tl 64 (D1 fun x l=>G9 m s_ReplicaID s_ReplicaMany s_ReplicaTerm s_ReplicaVote s_ReplicaLog s_ReplicaRole s_ReplicaCommit s_ReplicaMatch x l) (0,[])).bind (fun l1=>Iq l1)
theorem Vk (m:Message)(s_ReplicaID:Int)(s_ReplicaMany:Int)(s_ReplicaTerm:Int)(s_ReplicaVote:Int)(s_ReplicaLog:List Record)(s_ReplicaRole:Int)(s_ReplicaCommit:Int)(s_ReplicaMatch:List Int):Le (Ok m s_ReplicaID s_ReplicaMany s_ReplicaTerm s_ReplicaVote s_ReplicaLog s_ReplicaRole s_ReplicaCommit s_ReplicaMatch) (Ff m s_ReplicaID s_ReplicaMany s_ReplicaTerm s_ReplicaVote s_ReplicaLog s_ReplicaRole s_ReplicaCommit s_ReplicaMatch):=by
 unfold Ok Ff
 repeat' first | with_reducible exact Le.refl _ | with_reducible exact hW .. | with_reducible apply C4 | with_reducible apply Cv | with_reducible apply Dg | with_reducible apply C0 | with_reducible apply Cj | with_reducible apply Co | with_reducible apply Df | with_reducible apply Di | with_reducible apply Dk | with_reducible apply Dh | with_reducible apply De | with_reducible apply D2 | (rw [Ce]; with_reducible exact Le.refl _) | intro _
def Kq (s_ReplicaID:Int)(s_ReplicaMany:Int)(s_ReplicaTerm:Int)(s_ReplicaVote:Int)(s_ReplicaLog:List Record)(s_ReplicaRole:Int)(s_ReplicaCommit:Int)(s_ReplicaMatch:List Int):R (List Message):=
 (Ok ({ Kind:=3,From:=0,To:=0,Term:=0,Last:=0,LastTerm:=0,Log:=s_ReplicaLog,Commit:=s_ReplicaCommit,Match:=0,Granted:=false }:Message) s_ReplicaID s_ReplicaMany s_ReplicaTerm s_ReplicaVote s_ReplicaLog s_ReplicaRole s_ReplicaCommit s_ReplicaMatch).bind fun r=>
 .ok r
theorem P7 (s_ReplicaID:Int)(s_ReplicaMany:Int)(s_ReplicaTerm:Int)(s_ReplicaVote:Int)(s_ReplicaLog:List Record)(s_ReplicaRole:Int)(s_ReplicaCommit:Int)(s_ReplicaMatch:List Int):Le (Kq s_ReplicaID s_ReplicaMany s_ReplicaTerm s_ReplicaVote s_ReplicaLog s_ReplicaRole s_ReplicaCommit s_ReplicaMatch) (Fw s_ReplicaID s_ReplicaMany s_ReplicaTerm s_ReplicaVote s_ReplicaLog s_ReplicaRole s_ReplicaCommit s_ReplicaMatch):=by
 unfold Kq Fw
 repeat' first | with_reducible exact Le.refl _ | with_reducible exact hW .. | with_reducible exact Vk .. | with_reducible apply C4 | with_reducible apply Cv | with_reducible apply Dg | with_reducible apply C0 | with_reducible apply Cj | with_reducible apply Co | with_reducible apply Df | with_reducible apply Di | with_reducible apply Dk | with_reducible apply Dh | with_reducible apply De | with_reducible apply D2 | (rw [Ce]; with_reducible exact Le.refl _) | intro _
def Ll (s0_ReplicaID:Int)(s0_ReplicaMany:Int)(s0_ReplicaTerm:Int)(s0_ReplicaVote:Int)(s0_ReplicaLog:List Record)(s0_ReplicaCommit:Int)(l:List Bool)(l1:List Int):R (Int×(List Int)×(List Message)):=
 (C3 l1 s0_ReplicaID).bind fun a=>
 (Jp s0_ReplicaID s0_ReplicaMany s0_ReplicaTerm s0_ReplicaVote s0_ReplicaLog 2 s0_ReplicaCommit l (l1.set s0_ReplicaID.toNat (s0_ReplicaLog.length:Int))).bind fun r=>
 (Kq s0_ReplicaID s0_ReplicaMany s0_ReplicaTerm s0_ReplicaVote s0_ReplicaLog 2 r (l1.set s0_ReplicaID.toNat (s0_ReplicaLog.length:Int))).bind fun r1=>
 .ok (r,(l1.set s0_ReplicaID.toNat (s0_ReplicaLog.length:Int)),r1)
theorem Sy (s0_ReplicaID:Int)(s0_ReplicaMany:Int)(s0_ReplicaTerm:Int)(s0_ReplicaVote:Int)(s0_ReplicaLog:List Record)(s0_ReplicaCommit:Int)(l:List Bool)(l1:List Int):Le (Ll s0_ReplicaID s0_ReplicaMany s0_ReplicaTerm s0_ReplicaVote s0_ReplicaLog s0_ReplicaCommit l l1) (Gn s0_ReplicaID s0_ReplicaMany s0_ReplicaTerm s0_ReplicaVote s0_ReplicaLog s0_ReplicaCommit l l1):=by
 unfold Ll Gn
 repeat' first | with_reducible exact Le.refl _ | with_reducible exact hW .. | with_reducible exact P7 .. | with_reducible exact Oo .. | with_reducible apply C4 | with_reducible apply Cv | with_reducible apply Dg | with_reducible apply C0 | with_reducible apply Cj | with_reducible apply Co | with_reducible apply Df | with_reducible apply Di | with_reducible apply Dk | with_reducible apply Dh | with_reducible apply De | with_reducible apply D2 | (rw [Ce]; with_reducible exact Le.refl _) | intro _
def Nj (s0_ReplicaID:Int)(s0_ReplicaMany:Int)(s0_ReplicaTerm:Int)(s0_ReplicaVote:Int)(s0_ReplicaLog:List Record)(s0_ReplicaRole:Int)(s0_ReplicaCommit:Int)(s0_ReplicaMatch:List Int)(l:List Bool):R (Int×(List Int)×(List Message)):=
 if(0:Int)≤s0_ReplicaMany∧(s0_ReplicaMany:Int)≤s0_ReplicaMany∧(Int.toNat s0_ReplicaMany) * 8≤B2 then
 Ll s0_ReplicaID s0_ReplicaMany s0_ReplicaTerm s0_ReplicaVote s0_ReplicaLog s0_ReplicaCommit l (List.replicate (Int.toNat s0_ReplicaMany) (0:Int)) else .bad
theorem Us (s0_ReplicaID:Int)(s0_ReplicaMany:Int)(s0_ReplicaTerm:Int)(s0_ReplicaVote:Int)(s0_ReplicaLog:List Record)(s0_ReplicaRole:Int)(s0_ReplicaCommit:Int)(s0_ReplicaMatch:List Int)(l:List Bool):Le (Nj s0_ReplicaID s0_ReplicaMany s0_ReplicaTerm s0_ReplicaVote s0_ReplicaLog s0_ReplicaRole s0_ReplicaCommit s0_ReplicaMatch l) (E4 s0_ReplicaID s0_ReplicaMany s0_ReplicaTerm s0_ReplicaVote s0_ReplicaLog s0_ReplicaRole s0_ReplicaCommit s0_ReplicaMatch l):=by
 unfold Nj E4
 repeat' first | with_reducible exact Le.refl _ | with_reducible exact hW .. | with_reducible exact Sy .. | with_reducible apply C4 | with_reducible apply Cv | with_reducible apply Dg | with_reducible apply C0 | with_reducible apply Cj | with_reducible apply Co | with_reducible apply Df | with_reducible apply Di | with_reducible apply Dk | with_reducible apply Dh | with_reducible apply De | with_reducible apply D2 | (rw [Ce]; with_reducible exact Le.refl _) | intro _
def Hx (m:Message)(s_Replica:Replica)(x:Bool):R (Int×Int×(List Bool)×(List Int)×(List Message)):=
 if x then
(.ok (s_Replica.Role,s_Replica.Commit,s_Replica.Votes,s_Replica.Match,[]))
else
((Mz s_Replica.Votes).bind fun r=>
 (C3 r m.From).bind fun a=>
 (Fs (fun j _=>D1 fun n x2=>Ie j n x2) 0 (r.set m.From.toNat true) (0,(r.set m.From.toNat true))).bind ((D1 fun n x2=>if(IntKind.wrap .i64 (2 * n)) > s_Replica.Many then
((Nj s_Replica.ID s_Replica.Many s_Replica.Term s_Replica.Vote s_Replica.Log s_Replica.Role s_Replica.Commit s_Replica.Match x2).bind fun r1=>
 .ok (2,r1.1,x2,r1.2.1,r1.2.2))
else
(.ok (s_Replica.Role,s_Replica.Commit,x2,s_Replica.Match,[])))))
theorem S0 (m:Message)(s_Replica:Replica)(x:Bool):Le (Hx m s_Replica x) (Fl m s_Replica x):=by
 unfold Hx Fl
 repeat' first | with_reducible exact Le.refl _ | with_reducible exact hW .. | with_reducible exact Us .. | with_reducible apply C4 | with_reducible apply Cv | with_reducible apply Dg | with_reducible apply C0 | with_reducible apply Cj | with_reducible apply Co | with_reducible apply Df | with_reducible apply Di | with_reducible apply Dk | with_reducible apply Dh | with_reducible apply De | with_reducible apply D2 | (rw [Ce]; with_reducible exact Le.refl _) | intro _
def M9 (m:Message)(s_Replica:Replica):R (Int×Int×(List Bool)×(List Int)×(List Message)):=
 if(s_Replica.Role != 1) then
(Hx m s_Replica true)
else
(if(m.Term != s_Replica.Term) then
(Hx m s_Replica true)
else
(Hx m s_Replica (!m.Granted)))
theorem Up (m:Message)(s_Replica:Replica):Le (M9 m s_Replica) (Hz m s_Replica):=by
 unfold M9 Hz
 repeat' first | with_reducible exact Le.refl _ | with_reducible exact hW .. | with_reducible exact S0 .. | with_reducible apply C4 | with_reducible apply Cv | with_reducible apply Dg | with_reducible apply C0 | with_reducible apply Cj | with_reducible apply Co | with_reducible apply Df | with_reducible apply Di | with_reducible apply Dk | with_reducible apply Dh | with_reducible apply De | with_reducible apply D2 | (rw [Ce]; with_reducible exact Le.refl _) | intro _
def Qc {σ_ ε_:Type}(b:List Record)(c:List Record)(b_:Record→Record→σ_→R (σ_ ⊕ ε_))(s_:σ_):R (σ_ ⊕ ε_):=
 (Tl 64 (D1 fun x s=>J2 b c b_ x s) (0,s_)).bind (F4 (fun s2=>Ij s2) (fun r=>.ok r))
theorem Xj {σ_ ε_:Type}(b:List Record)(c:List Record)(b_:Record→Record→σ_→R (σ_ ⊕ ε_))(s_:σ_):Le (Qc b c b_ s_) (Iz b c b_ s_):=by
 unfold Qc Iz
 repeat' first | with_reducible exact Le.refl _ | with_reducible exact hW .. | with_reducible apply C4 | with_reducible apply Cv | with_reducible apply Dg | with_reducible apply C0 | with_reducible apply Cj | with_reducible apply Co | with_reducible apply Df | with_reducible apply Di | with_reducible apply Dk | with_reducible apply Dh | with_reducible apply De | with_reducible apply D2 | (rw [Ce]; with_reducible exact Le.refl _) | intro _
def O6 (a:List Record)(b:List Record):R Bool:=
 (Ku a b).bind fun _=>
 (Qc a b (fun a1 a2 z_=>R.np ((fun _=>M5 a1 a2) z_)) ()).bind (F4 (fun _=>.ok (decide ((a.length:Int)≤(b.length:Int)))) (fun _=>.ok false))
theorem Y0 (a:List Record)(b:List Record):Le (O6 a b) (Jd a b):=by
 unfold O6 Jd
 repeat' first | with_reducible exact Le.refl _ | with_reducible exact hW .. | with_reducible exact Xj .. | with_reducible apply C4 | with_reducible apply Cv | with_reducible apply Dg | with_reducible apply C0 | with_reducible apply Cj | with_reducible apply Co | with_reducible apply Df | with_reducible apply Di | with_reducible apply Dk | with_reducible apply Dh | with_reducible apply De | with_reducible apply D2 | (rw [Ce]; with_reducible exact Le.refl _) | intro _
def Lz (m:Message)(s_Replica:Replica):R ((List Record)×Int×Int×(List Bool)×(List Int)×(List Message)):=
 if m.Term<s_Replica.Term then
((H1 m.From 4 0 0 0 0 0 0 0 false s_Replica).bind fun r=>
 .ok (s_Replica.Log,s_Replica.Role,s_Replica.Commit,s_Replica.Votes,s_Replica.Match,r))
else
(if(s_Replica.Role==2) then
(.ok (s_Replica.Log,s_Replica.Role,s_Replica.Commit,s_Replica.Votes,s_Replica.Match,[]))
else
((Cl s_Replica).bind fun r1=>
 (O6 m.Log s_Replica.Log).bind fun r2=>
 if r2 then
(F6 m s_Replica r1 s_Replica.Log)
else
(if(0:Int)≤s_Replica.Commit∧s_Replica.Commit≤(s_Replica.Log.length:Int) then
 (O6 (s_Replica.Log.take (Int.toNat s_Replica.Commit)) m.Log).bind fun r3=>
 (Bg r3 470).bind fun _=>
 F6 m s_Replica r1 m.Log else .bad)))
theorem Tg (m:Message)(s_Replica:Replica):Le (Lz m s_Replica) (Hd m s_Replica):=by
 unfold Lz Hd
 repeat' first | with_reducible exact Le.refl _ | with_reducible exact hW .. | with_reducible exact Y0 .. | with_reducible apply C4 | with_reducible apply Cv | with_reducible apply Dg | with_reducible apply C0 | with_reducible apply Cj | with_reducible apply Co | with_reducible apply Df | with_reducible apply Di | with_reducible apply Dk | with_reducible apply Dh | with_reducible apply De | with_reducible apply D2 | (rw [Ce]; with_reducible exact Le.refl _) | intro _
def Ld (s0_ReplicaID:Int)(s0_ReplicaMany:Int)(s0_ReplicaTerm:Int)(s0_ReplicaVote:Int)(s0_ReplicaLog:List Record)(s0_ReplicaRole:Int)(s0_ReplicaCommit:Int)(s0_ReplicaVotes:List Bool)(l:List Int):R Replica:=
 (Ee l).bind fun _=>
 (Ic l).bind fun l1=>
 (C3 l1 (IntKind.wrap .i64 (Int.tdiv (IntKind.wrap .i64 ((l1.length:Int) - 1)) 2))).bind fun a=>
 if(decide (a > s0_ReplicaCommit)) then
((C3 s0_ReplicaLog (IntKind.wrap .i64 (a - 1))).bind fun a1=>
 Fr s0_ReplicaID s0_ReplicaMany s0_ReplicaTerm s0_ReplicaVote s0_ReplicaLog s0_ReplicaRole s0_ReplicaCommit s0_ReplicaVotes l a (a1.Term==s0_ReplicaTerm))
else
(Fr s0_ReplicaID s0_ReplicaMany s0_ReplicaTerm s0_ReplicaVote s0_ReplicaLog s0_ReplicaRole s0_ReplicaCommit s0_ReplicaVotes l a false)
theorem S6 (s0_ReplicaID:Int)(s0_ReplicaMany:Int)(s0_ReplicaTerm:Int)(s0_ReplicaVote:Int)(s0_ReplicaLog:List Record)(s0_ReplicaRole:Int)(s0_ReplicaCommit:Int)(s0_ReplicaVotes:List Bool)(l:List Int):Le (Ld s0_ReplicaID s0_ReplicaMany s0_ReplicaTerm s0_ReplicaVote s0_ReplicaLog s0_ReplicaRole s0_ReplicaCommit s0_ReplicaVotes l) (Gr s0_ReplicaID s0_ReplicaMany s0_ReplicaTerm s0_ReplicaVote s0_ReplicaLog s0_ReplicaRole s0_ReplicaCommit s0_ReplicaVotes l):=by
 unfold Ld Gr
 repeat' first | with_reducible exact Le.refl _ | with_reducible exact hW .. | with_reducible exact Lb .. | with_reducible apply C4 | with_reducible apply Cv | with_reducible apply Dg | with_reducible apply C0 | with_reducible apply Cj | with_reducible apply Co | with_reducible apply Df | with_reducible apply Di | with_reducible apply Dk | with_reducible apply Dh | with_reducible apply De | with_reducible apply D2 | (rw [Ce]; with_reducible exact Le.refl _) | intro _
def Ib (m:Message)(s_Replica:Replica)(x:Bool):R Replica:=
 if x then
(.ok s_Replica)
else
((Bg (decide (m.Match≤(s_Replica.Log.length:Int))) 470).bind fun _=>
 (Iy s_Replica.Match).bind fun r1=>
 (C3 r1 m.From).bind fun a=>
 (Ld s_Replica.ID s_Replica.Many s_Replica.Term s_Replica.Vote s_Replica.Log s_Replica.Role s_Replica.Commit s_Replica.Votes (r1.set m.From.toNat (if m.Match > a then m.Match else a))).bind fun r2=>
 .ok r2)
theorem Tf (m:Message)(s_Replica:Replica)(x:Bool):Le (Ib m s_Replica x) (F5 m s_Replica x):=by
 unfold Ib F5
 repeat' first | with_reducible exact Le.refl _ | with_reducible exact hW .. | with_reducible exact S6 .. | with_reducible apply C4 | with_reducible apply Cv | with_reducible apply Dg | with_reducible apply C0 | with_reducible apply Cj | with_reducible apply Co | with_reducible apply Df | with_reducible apply Di | with_reducible apply Dk | with_reducible apply Dh | with_reducible apply De | with_reducible apply D2 | (rw [Ce]; with_reducible exact Le.refl _) | intro _
def N4 (m:Message)(s_Replica:Replica):R Replica:=
 if(s_Replica.Role != 2) then
(Ib m s_Replica true)
else
(if(m.Term != s_Replica.Term) then
(Ib m s_Replica true)
else
(Ib m s_Replica (!m.Granted)))
theorem Vd (m:Message)(s_Replica:Replica):Le (N4 m s_Replica) (Ik m s_Replica):=by
 unfold N4 Ik
 repeat' first | with_reducible exact Le.refl _ | with_reducible exact hW .. | with_reducible exact Tf .. | with_reducible apply C4 | with_reducible apply Cv | with_reducible apply Dg | with_reducible apply C0 | with_reducible apply Cj | with_reducible apply Co | with_reducible apply Df | with_reducible apply Di | with_reducible apply Dk | with_reducible apply Dh | with_reducible apply De | with_reducible apply D2 | (rw [Ce]; with_reducible exact Le.refl _) | intro _
def Lq (m:Message)(vID1:Int)(vMany1:Int)(vTerm1:Int)(vVote1:Int)(vLog1:List Record)(vRole1:Int)(vCommit1:Int)(vVotes1:List Bool)(vMatch1:List Int):R (Replica×(List Message)×Int):=
 if m.Kind=0 then
(.bad)
else
(if m.Kind=1 then
((J4 m ({ ID:=vID1,Many:=vMany1,Term:=vTerm1,Vote:=vVote1,Log:=vLog1,Role:=vRole1,Commit:=vCommit1,Votes:=vVotes1,Match:=vMatch1 }:Replica)).bind fun r10=>
 .ok (r10.1,r10.2,0))
else
(if m.Kind=2 then
((M9 m ({ ID:=vID1,Many:=vMany1,Term:=vTerm1,Vote:=vVote1,Log:=vLog1,Role:=vRole1,Commit:=vCommit1,Votes:=vVotes1,Match:=vMatch1 }:Replica)).bind fun r11=>
 .ok (({ ID:=(({ ID:=vID1,Many:=vMany1,Term:=vTerm1,Vote:=vVote1,Log:=vLog1,Role:=vRole1,Commit:=vCommit1,Votes:=vVotes1,Match:=vMatch1 }:Replica).ID),Many:=(({ ID:=vID1,Many:=vMany1,Term:=vTerm1,Vote:=vVote1,Log:=vLog1,Role:=vRole1,Commit:=vCommit1,Votes:=vVotes1,Match:=vMatch1 }:Replica).Many),Term:=(({ ID:=vID1,Many:=vMany1,Term:=vTerm1,Vote:=vVote1,Log:=vLog1,Role:=vRole1,Commit:=vCommit1,Votes:=vVotes1,Match:=vMatch1 }:Replica).Term),Vote:=(({ ID:=vID1,Many:=vMany1,Term:=vTerm1,Vote:=vVote1,Log:=vLog1,Role:=vRole1,Commit:=vCommit1,Votes:=vVotes1,Match:=vMatch1 }:Replica).Vote),Log:=(({ ID:=vID1,Many:=vMany1,Term:=vTerm1,Vote:=vVote1,Log:=vLog1,Role:=vRole1,Commit:=vCommit1,Votes:=vVotes1,Match:=vMatch1 }:Replica).Log),Role:=r11.1,Commit:=r11.2.1,Votes:=r11.2.2.1,Match:=r11.2.2.2.1 }:Replica),r11.2.2.2.2,0))
else
(if m.Kind=3 then
((Lz m ({ ID:=vID1,Many:=vMany1,Term:=vTerm1,Vote:=vVote1,Log:=vLog1,Role:=vRole1,Commit:=vCommit1,Votes:=vVotes1,Match:=vMatch1 }:Replica)).bind fun r12=>
 .ok (({ ID:=(({ ID:=vID1,Many:=vMany1,Term:=vTerm1,Vote:=vVote1,Log:=vLog1,Role:=vRole1,Commit:=vCommit1,Votes:=vVotes1,Match:=vMatch1 }:Replica).ID),Many:=(({ ID:=vID1,Many:=vMany1,Term:=vTerm1,Vote:=vVote1,Log:=vLog1,Role:=vRole1,Commit:=vCommit1,Votes:=vVotes1,Match:=vMatch1 }:Replica).Many),Term:=(({ ID:=vID1,Many:=vMany1,Term:=vTerm1,Vote:=vVote1,Log:=vLog1,Role:=vRole1,Commit:=vCommit1,Votes:=vVotes1,Match:=vMatch1 }:Replica).Term),Vote:=(({ ID:=vID1,Many:=vMany1,Term:=vTerm1,Vote:=vVote1,Log:=vLog1,Role:=vRole1,Commit:=vCommit1,Votes:=vVotes1,Match:=vMatch1 }:Replica).Vote),Log:=r12.1,Role:=r12.2.1,Commit:=r12.2.2.1,Votes:=r12.2.2.2.1,Match:=r12.2.2.2.2.1 }:Replica),r12.2.2.2.2.2,0))
else
(if m.Kind=4 then
((N4 m ({ ID:=vID1,Many:=vMany1,Term:=vTerm1,Vote:=vVote1,Log:=vLog1,Role:=vRole1,Commit:=vCommit1,Votes:=vVotes1,Match:=vMatch1 }:Replica)).bind fun r13=>
 .ok (r13,[],0))
else
(.bad)))))
theorem V7 (m:Message)(vID1:Int)(vMany1:Int)(vTerm1:Int)(vVote1:Int)(vLog1:List Record)(vRole1:Int)(vCommit1:Int)(vVotes1:List Bool)(vMatch1:List Int):Le (Lq m vID1 vMany1 vTerm1 vVote1 vLog1 vRole1 vCommit1 vVotes1 vMatch1) (Dp m vID1 vMany1 vTerm1 vVote1 vLog1 vRole1 vCommit1 vVotes1 vMatch1):=by
 unfold Lq Dp
 repeat' first | with_reducible exact Le.refl _ | with_reducible exact hW .. | with_reducible exact Up .. | with_reducible exact Tg .. | with_reducible exact Vd .. | with_reducible apply C4 | with_reducible apply Cv | with_reducible apply Dg | with_reducible apply C0 | with_reducible apply Cj | with_reducible apply Co | with_reducible apply Df | with_reducible apply Di | with_reducible apply Dk | with_reducible apply Dh | with_reducible apply De | with_reducible apply D2 | (rw [Ce]; with_reducible exact Le.refl _) | intro _
def Pf (r:Replica)(m:Message):R (Replica×(List Message)×Int):=
 (C5 r).bind fun r1=>
 if(r1 != 0) then
(.ok (({ ID:=0,Many:=0,Term:=0,Vote:=0,Log:=[],Role:=0,Commit:=0,Votes:=[],Match:=[] }:Replica),[],r1))
else
((Bs m.Kind 1 4).bind fun r2=>
 (if(r2&&(m.To==r.ID)) then(Bs m.From 0 (IntKind.wrap .i64 (r.Many - 1))).bind fun r3=>
 R.ok r3 else R.ok false).bind (fun(b:Bool)=>(if(b&&(m.From != r.ID)) then(Bs m.Term 1 1048576).bind fun r4=>
 R.ok r4 else R.ok false).bind (fun(b1:Bool)=>(Bg b1 470).bind fun _=>
 (if(decide ((if m.Match<(if m.LastTerm<m.Last then m.LastTerm else m.Last) then m.Match else(if m.LastTerm<m.Last then m.LastTerm else m.Last))≥0)) then(Bs m.Commit 0 (m.Log.length:Int)).bind fun r6=>
 R.ok r6 else R.ok false).bind (fun(b2:Bool)=>(if b2 then(Gi m.Log m.Term).bind fun r7=>
 R.ok r7 else R.ok false).bind (fun(b3:Bool)=>(Bg b3 470).bind fun _=>
 (Dx r).bind fun _=>
 if m.Term > r.Term then
((Cl ({ ID:=r.ID,Many:=r.Many,Term:=m.Term,Vote:=(-1),Log:=r.Log,Role:=r.Role,Commit:=r.Commit,Votes:=r.Votes,Match:=r.Match }:Replica)).bind fun r9=>
 Lq m (({ ID:=r.ID,Many:=r.Many,Term:=m.Term,Vote:=(-1),Log:=r.Log,Role:=r.Role,Commit:=r.Commit,Votes:=r.Votes,Match:=r.Match }:Replica).ID) (({ ID:=r.ID,Many:=r.Many,Term:=m.Term,Vote:=(-1),Log:=r.Log,Role:=r.Role,Commit:=r.Commit,Votes:=r.Votes,Match:=r.Match }:Replica).Many) (({ ID:=r.ID,Many:=r.Many,Term:=m.Term,Vote:=(-1),Log:=r.Log,Role:=r.Role,Commit:=r.Commit,Votes:=r.Votes,Match:=r.Match }:Replica).Term) (({ ID:=r.ID,Many:=r.Many,Term:=m.Term,Vote:=(-1),Log:=r.Log,Role:=r.Role,Commit:=r.Commit,Votes:=r.Votes,Match:=r.Match }:Replica).Vote) (({ ID:=r.ID,Many:=r.Many,Term:=m.Term,Vote:=(-1),Log:=r.Log,Role:=r.Role,Commit:=r.Commit,Votes:=r.Votes,Match:=r.Match }:Replica).Log) 0 (({ ID:=r.ID,Many:=r.Many,Term:=m.Term,Vote:=(-1),Log:=r.Log,Role:=r.Role,Commit:=r.Commit,Votes:=r.Votes,Match:=r.Match }:Replica).Commit) r9.1 r9.2)
else
(Lq m r.ID r.Many r.Term r.Vote r.Log r.Role r.Commit r.Votes r.Match))))))
theorem W5 (r:Replica)(m:Message):Le (Pf r m) (K3 r m):=by
 unfold Pf K3
 repeat' first | with_reducible exact Le.refl _ | with_reducible exact hW .. | with_reducible exact V7 .. | with_reducible apply C4 | with_reducible apply Cv | with_reducible apply Dg | with_reducible apply C0 | with_reducible apply Cj | with_reducible apply Co | with_reducible apply Df | with_reducible apply Di | with_reducible apply Dk | with_reducible apply Dh | with_reducible apply De | with_reducible apply D2 | (rw [Ce]; with_reducible exact Le.refl _) | intro _
def Og (r:Replica)(m:Message):R (Replica×(List Message)×Int):=
 (Pf r m).catch' (H9 99 .i64 (fun n=>(Ek n).bind fun p=>.ok (({ ID:=0,Many:=0,Term:=0,Vote:=0,Log:=[],Role:=0,Commit:=0,Votes:=[],Match:=[] }:Replica),[],p)) (fun _=>.bad))
theorem Xq (r:Replica)(m:Message):Le (Og r m) (Mh r m):=by
 unfold Og Mh
 repeat' first | with_reducible exact Le.refl _ | with_reducible exact hW .. | with_reducible exact W5 .. | with_reducible apply C4 | with_reducible apply Cv | with_reducible apply Dg | with_reducible apply C0 | with_reducible apply Cj | with_reducible apply Co | with_reducible apply Df | with_reducible apply Di | with_reducible apply Dk | with_reducible apply Dh | with_reducible apply De | with_reducible apply D2 | (rw [Ce]; with_reducible exact Le.refl _) | intro _
def Ln (s0_ReplicaID:Int)(s0_ReplicaMany:Int)(s0_ReplicaTerm:Int)(s0_ReplicaVote:Int)(s0_ReplicaLog:List Record)(s0_ReplicaCommit:Int)(l:List Bool)(l1:List Int):R (Int×(List Int)×(List Message)):=
 (C3 l1 s0_ReplicaID).bind fun a=>
 (Jp s0_ReplicaID s0_ReplicaMany s0_ReplicaTerm s0_ReplicaVote s0_ReplicaLog 2 s0_ReplicaCommit l (l1.set s0_ReplicaID.toNat (s0_ReplicaLog.length:Int))).bind fun r=>
 (Kq s0_ReplicaID s0_ReplicaMany s0_ReplicaTerm s0_ReplicaVote s0_ReplicaLog 2 r (l1.set s0_ReplicaID.toNat (s0_ReplicaLog.length:Int))).bind fun r1=>
 .ok (r,(l1.set s0_ReplicaID.toNat (s0_ReplicaLog.length:Int)),r1)
theorem Sx (s0_ReplicaID:Int)(s0_ReplicaMany:Int)(s0_ReplicaTerm:Int)(s0_ReplicaVote:Int)(s0_ReplicaLog:List Record)(s0_ReplicaCommit:Int)(l:List Bool)(l1:List Int):Le (Ln s0_ReplicaID s0_ReplicaMany s0_ReplicaTerm s0_ReplicaVote s0_ReplicaLog s0_ReplicaCommit l l1) (Id s0_ReplicaID s0_ReplicaMany s0_ReplicaTerm s0_ReplicaVote s0_ReplicaLog s0_ReplicaCommit l l1):=by
 unfold Ln Id
 repeat' first | with_reducible exact Le.refl _ | with_reducible exact hW .. | with_reducible exact P7 .. | with_reducible exact Oo .. | with_reducible apply C4 | with_reducible apply Cv | with_reducible apply Dg | with_reducible apply C0 | with_reducible apply Cj | with_reducible apply Co | with_reducible apply Df | with_reducible apply Di | with_reducible apply Dk | with_reducible apply Dh | with_reducible apply De | with_reducible apply D2 | (rw [Ce]; with_reducible exact Le.refl _) | intro _
def Nw (s0_ReplicaID:Int)(s0_ReplicaMany:Int)(s0_ReplicaTerm:Int)(s0_ReplicaVote:Int)(s0_ReplicaLog:List Record)(s0_ReplicaRole:Int)(s0_ReplicaCommit:Int)(l:List Bool):R (Int×(List Int)×(List Message)):=
 if(0:Int)≤s0_ReplicaMany∧(s0_ReplicaMany:Int)≤s0_ReplicaMany∧(Int.toNat s0_ReplicaMany) * 8≤B2 then
 Ln s0_ReplicaID s0_ReplicaMany s0_ReplicaTerm s0_ReplicaVote s0_ReplicaLog s0_ReplicaCommit l (List.replicate (Int.toNat s0_ReplicaMany) (0:Int)) else .bad
theorem Un (s0_ReplicaID:Int)(s0_ReplicaMany:Int)(s0_ReplicaTerm:Int)(s0_ReplicaVote:Int)(s0_ReplicaLog:List Record)(s0_ReplicaRole:Int)(s0_ReplicaCommit:Int)(l:List Bool):Le (Nw s0_ReplicaID s0_ReplicaMany s0_ReplicaTerm s0_ReplicaVote s0_ReplicaLog s0_ReplicaRole s0_ReplicaCommit l) (F0 s0_ReplicaID s0_ReplicaMany s0_ReplicaTerm s0_ReplicaVote s0_ReplicaLog s0_ReplicaRole s0_ReplicaCommit l):=by
 unfold Nw F0
 repeat' first | with_reducible exact Le.refl _ | with_reducible exact hW .. | with_reducible exact Sx .. | with_reducible apply C4 | with_reducible apply Cv | with_reducible apply Dg | with_reducible apply C0 | with_reducible apply Cj | with_reducible apply Co | with_reducible apply Df | with_reducible apply Di | with_reducible apply Dk | with_reducible apply Dh | with_reducible apply De | with_reducible apply D2 | (rw [Ce]; with_reducible exact Le.refl _) | intro _
def N6 (mKind:Int)(mFrom:Int)(mTo:Int)(mTerm:Int)(mLast:Int)(mLastTerm:Int)(mCommit:Int)(mMatch:Int)(mGranted:Bool)(s_ReplicaID:Int)(s_ReplicaMany:Int)(s_ReplicaTerm:Int)(s_ReplicaVote:Int)(s_ReplicaLog:List Record)(s_ReplicaRole:Int)(s_ReplicaCommit:Int):R (List Message):=
 (Tl 64 (D1 fun x l=>G4 mKind mFrom mTo mTerm mLast mLastTerm mCommit mMatch mGranted s_ReplicaID s_ReplicaMany s_ReplicaTerm s_ReplicaVote s_ReplicaLog s_ReplicaRole s_ReplicaCommit x l) (0,[])).bind (fun l1=>Iu l1)
theorem Vg (mKind:Int)(mFrom:Int)(mTo:Int)(mTerm:Int)(mLast:Int)(mLastTerm:Int)(mCommit:Int)(mMatch:Int)(mGranted:Bool)(s_ReplicaID:Int)(s_ReplicaMany:Int)(s_ReplicaTerm:Int)(s_ReplicaVote:Int)(s_ReplicaLog:List Record)(s_ReplicaRole:Int)(s_ReplicaCommit:Int):Le (N6 mKind mFrom mTo mTerm mLast mLastTerm mCommit mMatch mGranted s_ReplicaID s_ReplicaMany s_ReplicaTerm s_ReplicaVote s_ReplicaLog s_ReplicaRole s_ReplicaCommit) (Fh mKind mFrom mTo mTerm mLast mLastTerm mCommit mMatch mGranted s_ReplicaID s_ReplicaMany s_ReplicaTerm s_ReplicaVote s_ReplicaLog s_ReplicaRole s_ReplicaCommit):=by
 unfold N6 Fh
 repeat' first | with_reducible exact Le.refl _ | with_reducible exact hW .. | with_reducible apply C4 | with_reducible apply Cv | with_reducible apply Dg | with_reducible apply C0 | with_reducible apply Cj | with_reducible apply Co | with_reducible apply Df | with_reducible apply Di | with_reducible apply Dk | with_reducible apply Dh | with_reducible apply De | with_reducible apply D2 | (rw [Ce]; with_reducible exact Le.refl _) | intro _
def Oa (r:Replica):R (Replica×(List Message)×Int):=
 (C5 r).bind fun e=>
 if(e != 0) then
(.ok (({ ID:=0,Many:=0,Term:=0,Vote:=0,Log:=[],Role:=0,Commit:=0,Votes:=[],Match:=[] }:Replica),[],e))
else
(if(r.Term==1048576) then
(.ok (({ ID:=0,Many:=0,Term:=0,Vote:=0,Log:=[],Role:=0,Commit:=0,Votes:=[],Match:=[] }:Replica),[],2))
else
((Dx r).bind fun _=>
 (Cl r).bind fun r1=>
 (C3 r1.1 r.ID).bind fun a=>
 if(r.Many==1) then
((Nw r.ID r.Many (IntKind.wrap .i64 (r.Term+1)) r.ID r.Log 1 r.Commit (r1.1.set r.ID.toNat true)).bind fun r2=>
 .ok (({ ID:=r.ID,Many:=r.Many,Term:=(IntKind.wrap .i64 (r.Term+1)),Vote:=r.ID,Log:=r.Log,Role:=2,Commit:=r2.1,Votes:=(r1.1.set r.ID.toNat true),Match:=r2.2.1 }:Replica),r2.2.2,0))
else
((F1 ({ Replica:=({ ID:=r.ID,Many:=r.Many,Term:=(IntKind.wrap .i64 (r.Term+1)),Vote:=r.ID,Log:=r.Log,Role:=1,Commit:=r.Commit,Votes:=(r1.1.set r.ID.toNat true),Match:=r1.2 }:Replica),fSent:=[] }:T61)).bind fun r3=>
 (N6 1 0 0 0 (r.Log.length:Int) r3 0 0 false r.ID r.Many (IntKind.wrap .i64 (r.Term+1)) r.ID r.Log 1 r.Commit).bind fun r4=>
 .ok (({ ID:=r.ID,Many:=r.Many,Term:=(IntKind.wrap .i64 (r.Term+1)),Vote:=r.ID,Log:=r.Log,Role:=1,Commit:=r.Commit,Votes:=(r1.1.set r.ID.toNat true),Match:=r1.2 }:Replica),r4,0))))
theorem Yj (r:Replica):Le (Oa r) (Eu r):=by
 unfold Oa Eu
 repeat' first | with_reducible exact Le.refl _ | with_reducible exact hW .. | with_reducible exact Vg .. | with_reducible exact Un .. | with_reducible apply C4 | with_reducible apply Cv | with_reducible apply Dg | with_reducible apply C0 | with_reducible apply Cj | with_reducible apply Co | with_reducible apply Df | with_reducible apply Di | with_reducible apply Dk | with_reducible apply Dh | with_reducible apply De | with_reducible apply D2 | (rw [Ce]; with_reducible exact Le.refl _) | intro _
def Q1 (W_:Value→R (Int×Bool))(a:Value)(depth:Int):R (Int ⊕ (Int×Bool)):=
 (W_ a).bind fun r=>
 if r.2 then
(.ok (.inl (if r.1 > depth then r.1 else depth)))
else
(.ok (.inr ((0,false))))
theorem Yf {W' W_:Value→R (Int×Bool)}(hW : ∀ w0,Le (W' w0) (W_ w0))(a:Value)(depth:Int):Le (Q1 W' a depth) (Jm W_ a depth):=by
 unfold Q1 Jm
 repeat' first | with_reducible exact Le.refl _ | with_reducible exact hW .. | with_reducible apply C4 | with_reducible apply Cv | with_reducible apply Dg | with_reducible apply C0 | with_reducible apply Cj | with_reducible apply Co | with_reducible apply Df | with_reducible apply Di | with_reducible apply Dk | with_reducible apply Dh | with_reducible apply De | with_reducible apply D2 | (rw [Ce]; with_reducible exact Le.refl _) | intro _
def Rl (W_:Value→R (Int×Bool))(v:Value):R (Int×Bool):=
 (if((decide (v.Kind<1))||(decide (v.Kind > 3))) then R.ok true else if(0:Int)≤v.Kind∧v.Kind<4 then
 R.ok (!(X1 (#v[false,((v.S==[])&&((v.L.length:Int)==0)),((v.N==0)&&((v.L.length:Int)==0)),((v.N==0)&&(v.S==[]))]:(Vector Bool 4)) (Int.toNat v.Kind) false)) else .bad).bind (fun(b:Bool)=>if b then
(.ok (0,false))
else
(if v.Kind<3 then
(.ok (0,true))
else
((each (fun _ a=>fun depth=>Q1 W_ a depth) 0 v.L 0).bind (F4 (fun depth=>.ok ((IntKind.wrap .i64 (depth+1)),true)) (fun r=>.ok r)))))
theorem Y6 {W' W_:Value→R (Int×Bool)}(hW : ∀ w0,Le (W' w0) (W_ w0))(v:Value):Le (Rl W' v) (Nf W_ v):=by
 unfold Rl Nf
 repeat' first | with_reducible exact Le.refl _ | with_reducible exact hW .. | with_reducible exact Yf (by assumption) .. | with_reducible apply C4 | with_reducible apply Cv | with_reducible apply Dg | with_reducible apply C0 | with_reducible apply Cj | with_reducible apply Co | with_reducible apply Df | with_reducible apply Di | with_reducible apply Dk | with_reducible apply Dh | with_reducible apply De | with_reducible apply D2 | (rw [Ce]; with_reducible exact Le.refl _) | intro _
def Rk:Nat→Value→R (Int×Bool)
 | 0,_=>.bad
 | n+1,v=>Rl (Rk n) v
theorem Td : ∀ (n k:Nat) a0,Le (Rk n a0) (Nb (n+k) a0)
 | 0,k,a0=>.inl rfl
 | n+1,k,a0=>by
  rw [show n+1+k=(n+k)+1 by omega]
  exact Y6 (fun a0=>Td n k a0) a0
def S1 (v:Value):R (Int×Bool):=Rk 16 v
theorem Aa5 (v:Value):Le (S1 v) (Rm v):=by
 unfold S1 Rm
 rw [Abv]
 exact Td 16 (4000000 - 16) v
def Ud (v:Value):R Int:=
 (S1 v).bind fun r=>
 if r.2 then
(if r.1 > 16 then
(.ok 2)
else
(.ok 0))
else
(.ok 1)
theorem Ab4 (v:Value):Le (Ud v) (Qj v):=by
 unfold Ud Qj
 repeat' first | with_reducible exact Le.refl _ | with_reducible exact hW .. | with_reducible exact Aa5 .. | with_reducible apply C4 | with_reducible apply Cv | with_reducible apply Dg | with_reducible apply C0 | with_reducible apply Cj | with_reducible apply Co | with_reducible apply Df | with_reducible apply Di | with_reducible apply Dk | with_reducible apply Dh | with_reducible apply De | with_reducible apply D2 | (rw [Ce]; with_reducible exact Le.refl _) | intro _
def J9 (u:Int)(l:List Int):R (List Int):=
 (Tl 64 (D1 fun u1 b=>Km u1 b) (u,l)).bind (D1 fun u2 b1=>Kl u2 b1)
theorem Ma (u:Int)(l:List Int):Le (J9 u l) (Ho u l):=by
 unfold J9 Ho
 repeat' first | with_reducible exact Le.refl _ | with_reducible exact hW .. | with_reducible apply C4 | with_reducible apply Cv | with_reducible apply Dg | with_reducible apply C0 | with_reducible apply Cj | with_reducible apply Co | with_reducible apply Df | with_reducible apply Di | with_reducible apply Dk | with_reducible apply Dh | with_reducible apply De | with_reducible apply D2 | (rw [Ce]; with_reducible exact Le.refl _) | intro _
def I7 (v1:Value)(l:List Int):R (List Int):=
 if(l.length+[1].length) * 1≤B2 then
 (P1 v1.N).bind fun r=>
 (J9 r (l++[1])).bind fun r1=>
 .ok r1 else .bad
theorem Lv (v1:Value)(l:List Int):Le (I7 v1 l) (Fx v1 l):=by
 unfold I7 Fx
 repeat' first | with_reducible exact Le.refl _ | with_reducible exact hW .. | with_reducible exact Ma .. | with_reducible apply C4 | with_reducible apply Cv | with_reducible apply Dg | with_reducible apply C0 | with_reducible apply Cj | with_reducible apply Co | with_reducible apply Df | with_reducible apply Di | with_reducible apply Dk | with_reducible apply Dh | with_reducible apply De | with_reducible apply D2 | (rw [Ce]; with_reducible exact Le.refl _) | intro _
def I2 (v1:Value)(l:List Int):R (List Int):=
 if(l.length+[2].length) * 1≤B2 then
 (J9 (IntKind.wrap .u64 (v1.S.length:Int)) (l++[2])).bind fun r=>
 if(r.length+(Gz v1.S).length) * 1≤B2 then
 .ok (r++(Gz v1.S)) else .bad else .bad
theorem Ly (v1:Value)(l:List Int):Le (I2 v1 l) (Fy v1 l):=by
 unfold I2 Fy
 repeat' first | with_reducible exact Le.refl _ | with_reducible exact hW .. | with_reducible exact Ma .. | with_reducible apply C4 | with_reducible apply Cv | with_reducible apply Dg | with_reducible apply C0 | with_reducible apply Cj | with_reducible apply Co | with_reducible apply Df | with_reducible apply Di | with_reducible apply Dk | with_reducible apply Dh | with_reducible apply De | with_reducible apply D2 | (rw [Ce]; with_reducible exact Le.refl _) | intro _
def Li (W_:Value→(List Int)→R (List Int))(a:Value)(b1:List Int):R (List Int):=
 if a.Kind=0 then
(.bad)
else
(if a.Kind=1 then
((I7 a b1).bind fun b2=>
 .ok b2)
else
(if a.Kind=2 then
((I2 a b1).bind fun b3=>
 .ok b3)
else
(if a.Kind=3 then
((W_ a b1).bind fun b4=>
 .ok b4)
else
(.bad))))
theorem Su {W' W_:Value→(List Int)→R (List Int)}(hW : ∀ w0 w1,Le (W' w0 w1) (W_ w0 w1))(a:Value)(b1:List Int):Le (Li W' a b1) (Gq W_ a b1):=by
 unfold Li Gq
 repeat' first | with_reducible exact Le.refl _ | with_reducible exact hW .. | with_reducible exact Ly .. | with_reducible exact Lv .. | with_reducible apply C4 | with_reducible apply Cv | with_reducible apply Dg | with_reducible apply C0 | with_reducible apply Cj | with_reducible apply Co | with_reducible apply Df | with_reducible apply Di | with_reducible apply Dk | with_reducible apply Dh | with_reducible apply De | with_reducible apply D2 | (rw [Ce]; with_reducible exact Le.refl _) | intro _
def L0 (W_:Value→(List Int)→R (List Int))(v1:Value)(l:List Int):R (List Int):=
 if(l.length+[3].length) * 1≤B2 then
 (J9 (IntKind.wrap .u64 (v1.L.length:Int)) (l++[3])).bind fun b=>
 (Fs (fun _ a=>fun b1=>Li W_ a b1) 0 v1.L b).bind ((fun b1=>.ok b1)) else .bad
theorem Tr {W' W_:Value→(List Int)→R (List Int)}(hW : ∀ w0 w1,Le (W' w0 w1) (W_ w0 w1))(v1:Value)(l:List Int):Le (L0 W' v1 l) (G5 W_ v1 l):=by
 unfold L0 G5
 repeat' first | with_reducible exact Le.refl _ | with_reducible exact hW .. | with_reducible exact Su (by assumption) .. | with_reducible exact Ma .. | with_reducible apply C4 | with_reducible apply Cv | with_reducible apply Dg | with_reducible apply C0 | with_reducible apply Cj | with_reducible apply Co | with_reducible apply Df | with_reducible apply Di | with_reducible apply Dk | with_reducible apply Dh | with_reducible apply De | with_reducible apply D2 | (rw [Ce]; with_reducible exact Le.refl _) | intro _
def L1:Nat→Value→(List Int)→R (List Int)
 | 0,_,_=>.bad
 | n+1,v1,l=>L0 (L1 n) v1 l
theorem O4 : ∀ (n k:Nat) a0 a1,Le (L1 n a0 a1) (Hb (n+k) a0 a1)
 | 0,k,a0,a1=>.inl rfl
 | n+1,k,a0,a1=>by
  rw [show n+1+k=(n+k)+1 by omega]
  exact Tr (fun a0 a1=>O4 n k a0 a1) a0 a1
def Nr (v1:Value)(l:List Int):R (List Int):=L1 16 v1 l
theorem Uu (v1:Value)(l:List Int):Le (Nr v1 l) (Jq v1 l):=by
 unfold Nr Jq
 rw [Abv]
 exact O4 16 (4000000 - 16) v1 l
def Mt (a:Value)(b1:List Int):R (List Int):=
 if a.Kind=0 then
(.bad)
else
(if a.Kind=1 then
((I7 a b1).bind fun b2=>
 .ok b2)
else
(if a.Kind=2 then
((I2 a b1).bind fun b3=>
 .ok b3)
else
(if a.Kind=3 then
((Nr a b1).bind fun b4=>
 .ok b4)
else
(.bad))))
theorem Tz (a:Value)(b1:List Int):Le (Mt a b1) (Hq a b1):=by
 unfold Mt Hq
 repeat' first | with_reducible exact Le.refl _ | with_reducible exact hW .. | with_reducible exact Ly .. | with_reducible exact Lv .. | with_reducible exact Uu .. | with_reducible apply C4 | with_reducible apply Cv | with_reducible apply Dg | with_reducible apply C0 | with_reducible apply Cj | with_reducible apply Co | with_reducible apply Df | with_reducible apply Di | with_reducible apply Dk | with_reducible apply Dh | with_reducible apply De | with_reducible apply D2 | (rw [Ce]; with_reducible exact Le.refl _) | intro _
def O1 (v1:Value):R (List Int):=
 if [3].length * 1≤B2 then
 (J9 (IntKind.wrap .u64 (v1.L.length:Int)) [3]).bind fun b=>
 (Fs (fun _ a=>fun b1=>Mt a b1) 0 v1.L b).bind ((fun b1=>.ok b1)) else .bad
theorem Vq (v1:Value):Le (O1 v1) (Ja v1):=by
 unfold O1 Ja
 repeat' first | with_reducible exact Le.refl _ | with_reducible exact hW .. | with_reducible exact Tz .. | with_reducible exact Ma .. | with_reducible apply C4 | with_reducible apply Cv | with_reducible apply Dg | with_reducible apply C0 | with_reducible apply Cj | with_reducible apply Co | with_reducible apply Df | with_reducible apply Di | with_reducible apply Dk | with_reducible apply Dh | with_reducible apply De | with_reducible apply D2 | (rw [Ce]; with_reducible exact Le.refl _) | intro _
def Qu (v:Value):R ((List Int)×Int):=
 (Ud v).bind fun e=>
 if(e != 0) then
(.ok ([],e))
else
((K6).bind fun _=>
 if v.Kind=0 then
(.bad)
else
(if v.Kind=1 then
((I7 v []).bind fun b=>
 .ok (b,0))
else
(if v.Kind=2 then
((I2 v []).bind fun b1=>
 .ok (b1,0))
else
(if v.Kind=3 then
((O1 v).bind fun b2=>
 .ok (b2,0))
else
(.bad)))))
theorem U0 (v:Value):Le (Qu v) (M6 v):=by
 unfold Qu M6
 repeat' first | with_reducible exact Le.refl _ | with_reducible exact hW .. | with_reducible exact Ly .. | with_reducible exact Ab4 .. | with_reducible exact Lv .. | with_reducible exact Vq .. | with_reducible apply C4 | with_reducible apply Cv | with_reducible apply Dg | with_reducible apply C0 | with_reducible apply Cj | with_reducible apply Co | with_reducible apply Df | with_reducible apply Di | with_reducible apply Dk | with_reducible apply Dh | with_reducible apply De | with_reducible apply D2 | (rw [Ce]; with_reducible exact Le.refl _) | intro _
def Mm (m:Message)(l:List Value)(granted:Int):R ((List Int)×Int):=
 (C8 m.Kind).bind fun r1=>
 (C8 m.From).bind fun r2=>
 (C8 m.To).bind fun r3=>
 (C8 m.Term).bind fun r4=>
 (C8 m.Last).bind fun r5=>
 (C8 m.LastTerm).bind fun r6=>
 (C8 m.Commit).bind fun r7=>
 (C8 m.Match).bind fun r8=>
 (C8 granted).bind fun r9=>
 (Qu ({ Kind:=3,N:=0,S:=[],L:=[r1,r2,r3,r4,r5,r6,({ Kind:=3,N:=0,S:=[],L:=l }:Value),r7,r8,r9] }:Value)).bind fun r10=>
 .ok (r10.1,r10.2)
theorem W1 (m:Message)(l:List Value)(granted:Int):Le (Mm m l granted) (Hf m l granted):=by
 unfold Mm Hf
 repeat' first | with_reducible exact Le.refl _ | with_reducible exact hW .. | with_reducible exact U0 .. | with_reducible apply C4 | with_reducible apply Cv | with_reducible apply Dg | with_reducible apply C0 | with_reducible apply Cj | with_reducible apply Co | with_reducible apply Df | with_reducible apply Di | with_reducible apply Dk | with_reducible apply Dh | with_reducible apply De | with_reducible apply D2 | (rw [Ce]; with_reducible exact Le.refl _) | intro _
def Ri (m:Message):R ((List Int)×Int):=
 (Fs (fun _ a=>fun l=>K1 a l) 0 m.Log []).bind ((fun l=>if m.Granted then
(Mm m l 1)
else
(Mm m l 0)))
theorem Y3 (m:Message):Le (Ri m) (Ng m):=by
 unfold Ri Ng
 repeat' first | with_reducible exact Le.refl _ | with_reducible exact hW .. | with_reducible exact W1 .. | with_reducible apply C4 | with_reducible apply Cv | with_reducible apply Dg | with_reducible apply C0 | with_reducible apply Cj | with_reducible apply Co | with_reducible apply Df | with_reducible apply Di | with_reducible apply Dk | with_reducible apply Dh | with_reducible apply De | with_reducible apply D2 | (rw [Ce]; with_reducible exact Le.refl _) | intro _
def K9 (s:T102):R (Int×T102):=
 (Tl 64 (Lt fun u i fRest=>Im u i fRest) (0,0,s.fRest)).bind (fun r=>.ok r)
theorem Qn (s:T102):Le (K9 s) (Hh s):=by
 unfold K9 Hh
 repeat' first | with_reducible exact Le.refl _ | with_reducible exact hW .. | with_reducible apply C4 | with_reducible apply Cv | with_reducible apply Dg | with_reducible apply C0 | with_reducible apply Cj | with_reducible apply Co | with_reducible apply Df | with_reducible apply Di | with_reducible apply Dk | with_reducible apply Dh | with_reducible apply De | with_reducible apply D2 | (rw [Ce]; with_reducible exact Le.refl _) | intro _
def K7 (s:T102):R (Int×T102):=
 (K9 s).bind fun n=>
 (Ej n.2 (decide (n.1≤(IntKind.wrap .u64 (n.2.fRest.length:Int))))).bind fun _=>
 .ok ((IntKind.wrap .i64 n.1),n.2)
theorem Vj (s:T102):Le (K7 s) (Hg s):=by
 unfold K7 Hg
 repeat' first | with_reducible exact Le.refl _ | with_reducible exact hW .. | with_reducible exact Qn .. | with_reducible apply C4 | with_reducible apply Cv | with_reducible apply Dg | with_reducible apply C0 | with_reducible apply Cj | with_reducible apply Co | with_reducible apply Df | with_reducible apply Di | with_reducible apply Dk | with_reducible apply Dh | with_reducible apply De | with_reducible apply D2 | (rw [Ce]; with_reducible exact Le.refl _) | intro _
def Mp (depth:Int)(W_:Int→T102→R (Value×T102))(r6:(Int×T102))(x:Int)(o:T102)(l:List Value):R ((Int×T102×(List Value)) ⊕ (T102×(List Value))):=
 if x<r6.1 then
((W_ (IntKind.wrap .i64 (depth+1)) o).bind fun r7=>
 if(l.length+[r7.1].length) * 56≤B2 then
 .ok (.inl ((IntKind.wrap .i64 (x+1)),r7.2,(l++[r7.1]))) else .bad)
else
(.ok (.inr ((o,l))))
theorem T1 {W' W_:Int→T102→R (Value×T102)}(hW : ∀ w0 w1,Le (W' w0 w1) (W_ w0 w1))(depth:Int)(r6:(Int×T102))(x:Int)(o:T102)(l:List Value):Le (Mp depth W' r6 x o l) (Hs depth W_ r6 x o l):=by
 unfold Mp Hs
 repeat' first | with_reducible exact Le.refl _ | with_reducible exact hW .. | with_reducible apply C4 | with_reducible apply Cv | with_reducible apply Dg | with_reducible apply C0 | with_reducible apply Cj | with_reducible apply Co | with_reducible apply Df | with_reducible apply Di | with_reducible apply Dk | with_reducible apply Dh | with_reducible apply De | with_reducible apply D2 | (rw [Ce]; with_reducible exact Le.refl _) | intro _
def M8 (W_:Int→T102→R (Value×T102))(depth:Int)(s:T102):R (Value×T102):=
 (He 1 s).bind fun _=>
 (C3 (s.fRest.take 1) 0).bind fun a=>
 if((IntKind.wrap .i64 a)==1) then
((K9 ({ fRest:=(s.fRest.drop 1) }:T102)).bind fun r1=>
 (Ru r1.1).bind fun r2=>
 .ok (({ Kind:=(IntKind.wrap .i64 a),N:=r2,S:=[],L:=[] }:Value),r1.2))
else
(if((IntKind.wrap .i64 a)==2) then
((K7 ({ fRest:=(s.fRest.drop 1) }:T102)).bind fun r3=>
 (He r3.1 r3.2).bind fun _=>
 .ok (({ Kind:=(IntKind.wrap .i64 a),N:=0,S:=(Cx (r3.2.fRest.take (Int.toNat r3.1))),L:=[] }:Value),({ fRest:=(r3.2.fRest.drop (Int.toNat r3.1)) }:T102)))
else
(if((IntKind.wrap .i64 a)==3) then
((Ej ({ fRest:=(s.fRest.drop 1) }:T102) (decide (depth<16))).bind fun _=>
 (K7 ({ fRest:=(s.fRest.drop 1) }:T102)).bind fun r6=>
 (Tl 64 (Lt fun x o l=>Mp depth W_ r6 x o l) (0,r6.2,[])).bind (D1 fun o1 l1=>I5 a o1 l1))
else
((Ej ({ fRest:=(s.fRest.drop 1) }:T102) false).bind fun _=>
 .ok (({ Kind:=(IntKind.wrap .i64 a),N:=0,S:=[],L:=[] }:Value),({ fRest:=(s.fRest.drop 1) }:T102)))))
theorem Uq {W' W_:Int→T102→R (Value×T102)}(hW : ∀ w0 w1,Le (W' w0 w1) (W_ w0 w1))(depth:Int)(s:T102):Le (M8 W' depth s) (Hy W_ depth s):=by
 unfold M8 Hy
 repeat' first | with_reducible exact Le.refl _ | with_reducible exact hW .. | with_reducible exact T1 (by assumption) .. | with_reducible exact Qn .. | with_reducible exact Vj .. | with_reducible apply C4 | with_reducible apply Cv | with_reducible apply Dg | with_reducible apply C0 | with_reducible apply Cj | with_reducible apply Co | with_reducible apply Df | with_reducible apply Di | with_reducible apply Dk | with_reducible apply Dh | with_reducible apply De | with_reducible apply D2 | (rw [Ce]; with_reducible exact Le.refl _) | intro _
def Nv:Nat→Int→T102→R (Value×T102)
 | 0,_,_=>.bad
 | n+1,depth,s=>M8 (Nv n) depth s
theorem Qa : ∀ (n k:Nat) a0 a1,Le (Nv n a0 a1) (H0 (n+k) a0 a1)
 | 0,k,a0,a1=>.inl rfl
 | n+1,k,a0,a1=>by
  rw [show n+1+k=(n+k)+1 by omega]
  exact Uq (fun a0 a1=>Qa n k a0 a1) a0 a1
def Oz (depth:Int)(s:T102):R (Value×T102):=Nv 16 depth s
theorem Vy (depth:Int)(s:T102):Le (Oz depth s) (Ki depth s):=by
 unfold Oz Ki
 rw [Abv]
 exact Qa 16 (4000000 - 16) depth s
def Rh (b:List Int):R (Value×Int):=
 (Oz 0 ({ fRest:=b }:T102)).bind fun r=>
 (Ej r.2 ((r.2.fRest.length:Int)==0)).bind fun _=>
 .ok (r.1,0)
theorem Y5 (b:List Int):Le (Rh b) (Nd b):=by
 unfold Rh Nd
 repeat' first | with_reducible exact Le.refl _ | with_reducible exact hW .. | with_reducible exact Vy .. | with_reducible apply C4 | with_reducible apply Cv | with_reducible apply Dg | with_reducible apply C0 | with_reducible apply Cj | with_reducible apply Co | with_reducible apply Df | with_reducible apply Di | with_reducible apply Dk | with_reducible apply Dh | with_reducible apply De | with_reducible apply D2 | (rw [Ce]; with_reducible exact Le.refl _) | intro _
def S5 (b:List Int):R (Value×Int):=
 (Rh b).catch' (Lf 30 .i64 (fun n=>(Fg n).bind fun p=>.ok (({ Kind:=0,N:=0,S:=[],L:=[] }:Value),p)) (fun _=>.bad))
theorem Aas (b:List Int):Le (S5 b) (Re b):=by
 unfold S5 Re
 repeat' first | with_reducible exact Le.refl _ | with_reducible exact hW .. | with_reducible exact Y5 .. | with_reducible apply C4 | with_reducible apply Cv | with_reducible apply Dg | with_reducible apply C0 | with_reducible apply Cj | with_reducible apply Co | with_reducible apply Df | with_reducible apply Di | with_reducible apply Dk | with_reducible apply Dh | with_reducible apply De | with_reducible apply D2 | (rw [Ce]; with_reducible exact Le.refl _) | intro _
def Qe (b:List Int):R (Message×Int):=
 (S5 b).bind fun r=>
 if(r.2 != 0) then
(.ok (({ Kind:=0,From:=0,To:=0,Term:=0,Last:=0,LastTerm:=0,Log:=[],Commit:=0,Match:=0,Granted:=false }:Message),r.2))
else
((if((r.1.Kind==3)&&((r.1.L.length:Int)==10)) then(C3 r.1.L 6).bind fun a=>
 R.ok (a.Kind==3) else R.ok false).bind (fun(b1:Bool)=>(Bg b1 470).bind fun _=>
 (Br 0 r.1).bind fun r2=>
 (Br 1 r.1).bind fun r3=>
 (Br 2 r.1).bind fun r4=>
 (Br 3 r.1).bind fun r5=>
 (Br 4 r.1).bind fun r6=>
 (Br 5 r.1).bind fun r7=>
 (Br 7 r.1).bind fun r8=>
 (Br 8 r.1).bind fun r9=>
 (Br 9 r.1).bind fun r10=>
 (Br 9 r.1).bind fun r11=>
 (Bs r11 0 1).bind fun r12=>
 (Bg r12 470).bind fun _=>
 (C3 r.1.L 6).bind fun a1=>
 (Fs (fun _ a2=>fun l=>Jy a2 l) 0 a1.L []).bind ((fun l=>.ok (({ Kind:=r2,From:=r3,To:=r4,Term:=r5,Last:=r6,LastTerm:=r7,Log:=l,Commit:=r8,Match:=r9,Granted:=(r10==1) }:Message),0)))))
theorem Xf (b:List Int):Le (Qe b) (Lh b):=by
 unfold Qe Lh
 repeat' first | with_reducible exact Le.refl _ | with_reducible exact hW .. | with_reducible exact Aas .. | with_reducible apply C4 | with_reducible apply Cv | with_reducible apply Dg | with_reducible apply C0 | with_reducible apply Cj | with_reducible apply Co | with_reducible apply Df | with_reducible apply Di | with_reducible apply Dk | with_reducible apply Dh | with_reducible apply De | with_reducible apply D2 | (rw [Ce]; with_reducible exact Le.refl _) | intro _
def O9 (b:List Int):R (Message×Int):=
 (Qe b).catch' (H9 99 .i64 (fun n=>(Ev n).bind fun p=>.ok (({ Kind:=0,From:=0,To:=0,Term:=0,Last:=0,LastTerm:=0,Log:=[],Commit:=0,Match:=0,Granted:=false }:Message),p)) (fun _=>.bad))
theorem Y8 (b:List Int):Le (O9 b) (Nq b):=by
 unfold O9 Nq
 repeat' first | with_reducible exact Le.refl _ | with_reducible exact hW .. | with_reducible exact Xf .. | with_reducible apply C4 | with_reducible apply Cv | with_reducible apply Dg | with_reducible apply C0 | with_reducible apply Cj | with_reducible apply Co | with_reducible apply Df | with_reducible apply Di | with_reducible apply Dk | with_reducible apply Dh | with_reducible apply De | with_reducible apply D2 | (rw [Ce]; with_reducible exact Le.refl _) | intro _
def Zk:R Bool:=
 (It 0 3).bind fun r=>
 (It 0 6).bind fun r1=>
 (Oe r.1 []).bind fun r2=>
 (Og r.1 ({ Kind:=0,From:=0,To:=0,Term:=0,Last:=0,LastTerm:=0,Log:=[],Commit:=0,Match:=0,Granted:=false }:Message)).bind fun r3=>
 (It 0 1).bind fun r4=>
 (Oa r4.1).bind fun r5=>
 (Oe r5.1 [97]).bind fun r6=>
 (Oa r.1).bind fun r7=>
 (Og r7.1 ({ Kind:=2,From:=2,To:=0,Term:=1,Last:=0,LastTerm:=0,Log:=[],Commit:=0,Match:=0,Granted:=true }:Message)).bind fun r8=>
 (Ri ({ Kind:=3,From:=0,To:=0,Term:=0,Last:=0,LastTerm:=0,Log:=[({ Term:=3,Data:=[120] }:Record)],Commit:=1,Match:=0,Granted:=true }:Message)).bind fun r9=>
 (O9 r9.1).bind fun r10=>
 (Qu ({ Kind:=1,N:=0,S:=[],L:=[] }:Value)).bind fun r11=>
 (O9 r11.1).bind fun r12=>
 (if(((((((((((((r.2 != 0)||(r1.2 != 470))||(r2.2.2 != 470))||(r3.2.2 != 470))||(r4.2 != 0))||(r5.2.2 != 0))||(r6.2.2 != 0))||(r7.2.2 != 0))||(r8.2.2 != 0))||(r9.2 != 0))||(r10.2 != 0))||(r11.2 != 0))||(r12.2 != 470)) then R.ok true else(C5 ({ ID:=0,Many:=0,Term:=0,Vote:=0,Log:=[],Role:=0,Commit:=0,Votes:=[],Match:=[] }:Replica)).bind fun r13=>
 R.ok (r13 != 470)).bind (fun(b:Bool)=>(if b then R.ok true else(C5 r.1).bind fun r14=>
 R.ok (r14 != 0)).bind (fun(b1:Bool)=>if b1 then
(.ok false)
else
((Cs r6.1).bind fun r15=>
 (if(((r5.2.1.length:Int)==0)&&((r15.length:Int)==1)) then(C3 r15 0).bind fun a=>
 R.ok ((Cx a)==[97]) else R.ok false).bind (fun(b2:Bool)=>(if b2 then(Eg r6.1).bind fun r16=>
 (Cs r16).bind fun r17=>
 R.ok ((r17.length:Int)==0) else R.ok false).bind (fun(b3:Bool)=>(if(b3&&((r7.2.1.length:Int)==2)) then(C3 r7.2.1 0).bind fun a1=>
 R.ok (a1.Kind==1) else R.ok false).bind (fun(b4:Bool)=>(if((b4&&(r8.1.Role==2))&&((r8.2.1.length:Int)==2)) then(C3 r8.2.1 1).bind fun a2=>
 R.ok (a2.Kind==3) else R.ok false).bind (fun(b5:Bool)=>(if((b5&&r10.1.Granted)&&((r10.1.Log.length:Int)==1)) then(C3 r10.1.Log 0).bind fun a3=>
 R.ok ((Cx a3.Data)==[120]) else R.ok false).bind (fun(b6:Bool)=>.ok b6))))))))
theorem Acz:Le (Zk ) (Pt ):=by
 unfold Zk Pt
 repeat' first | with_reducible exact Le.refl _ | with_reducible exact hW .. | with_reducible exact U0 .. | with_reducible exact Xq .. | with_reducible exact Y8 .. | with_reducible exact Y3 .. | with_reducible exact X4 .. | with_reducible exact Yj .. | with_reducible apply C4 | with_reducible apply Cv | with_reducible apply Dg | with_reducible apply C0 | with_reducible apply Cj | with_reducible apply Co | with_reducible apply Df | with_reducible apply Di | with_reducible apply Dk | with_reducible apply Dh | with_reducible apply De | with_reducible apply D2 | (rw [Ce]; with_reducible exact Le.refl _) | intro _
end Go.Am
namespace Go.Am
open Go
theorem Acx:Pt=.ok true:=Ama Acz (by kernel_rfl)
end Go.Am
namespace Go.Am
open Go
set_option linter.unusedVariables false
set_option linter.unusedSimpArgs false
namespace Rp
theorem Abl {n:Int}(h:0≤n∧n≤5):((0:Int)≤n∧n≤n∧(Int.toNat n) * 1≤B2)∧((0:Int)≤n∧n≤n∧(Int.toNat n) * 8≤B2):=
 ⟨⟨h.1,Int.le_refl _,by unfold B2; omega⟩,h.1,Int.le_refl _,by unfold B2; omega⟩
theorem new_same (id many:Int) : ∃ p,It id many=.ok p∧Sl id many=.ok p:=by
 unfold It Sl
 simp only [Po,P4,R.ok_bind]
 by_cases h:1≤many∧many≤5
 ·have hw:IntKind.wrap .i64 (many - 1)=many - 1:=Ir (by omega) (by omega)
  rw [decide_eq_true h.1,decide_eq_true h.2,hw]
  simp only [Bool.and_self,Bool.not_true,Bool.false_eq_true,if_false,R.ok_bind]
  by_cases h2:0≤id∧id≤many - 1
  ·rw [decide_eq_true h2.1,decide_eq_true h2.2]
   simp only [Bool.and_self,Bool.not_true,Bool.false_eq_true,if_false,R.ok_bind,Lc]
   obtain⟨l1,l2⟩:=Abl (n:=many) ⟨by omega,h.2⟩
   unfold H2 Ia J0 J6
   simp only [Po,P4,R.ok_bind]
   rw [decide_eq_true (by omega:(0:Int)≤many),decide_eq_true h.2]
   simp only [Bool.and_self,if_true]
   simp only [if_pos l1,if_pos l2,R.ok_bind]
   exact⟨_,rfl,rfl⟩
  ·have hb:(decide (0≤id)&&decide (id≤many - 1))=false:=by
    rw [Bool.and_eq_false_iff,decide_eq_false_iff_not,decide_eq_false_iff_not]
    omega
   rw [hb]
   exact⟨_,rfl,rfl⟩
 ·have hb:(decide (1≤many)&&decide (many≤5))=false:=by
   rw [Bool.and_eq_false_iff,decide_eq_false_iff_not,decide_eq_false_iff_not]
   omega
  rw [hb]
  exact⟨_,rfl,rfl⟩
theorem rest_same (r:Replica) : ∃ p,Eg r=.ok p∧Iw r=.ok p:=by
 unfold Eg Iw Dx Cl F7 Hm J6
 simp only [Po,P4,R.ok_bind]
 by_cases h:0≤r.Many∧r.Many≤5
 ·rw [decide_eq_true h.1,decide_eq_true h.2]
  simp only [Bool.and_self,if_true]
  obtain⟨l1,l2⟩:=Abl h
  simp only [if_pos l1,if_pos l2,R.ok_bind]
  exact⟨_,rfl,rfl⟩
 ·have hb:(decide (0≤r.Many)&&decide (r.Many≤5))=false:=by
   rw [Bool.and_eq_false_iff,decide_eq_false_iff_not,decide_eq_false_iff_not]
   omega
  obtain⟨l1,l2⟩:=Abl (n:=0) (by omega)
  rw [hb]
  simp only [Bool.false_eq_true,if_false,if_pos l1,if_pos l2,R.ok_bind]
  exact⟨_,rfl,rfl⟩
theorem comm_any (r:Replica)(hl:r.Log.length * 24≤B2):Cs r=.ok ((r.Log.take r.Commit.toNat).map (·.Data)):=by
 rcases Int.lt_or_le r.Commit 0 with h | h
 ·unfold Cs
  rw [show r.Commit.toNat=0 by omega]
  cases hL:r.Log with
  | nil=>rfl
  | cons a l=>
   rw [Mg]
   have:El r 0 a []=.ok (.inr []):=by
    unfold El
    rw [if_pos (by omega)]
   rw [this]
   rfl
 ·exact Akm r hl h
theorem rcomm_any (r:Replica)(hl:r.Log.length * 24≤B2):Gk r=.ok ((r.Log.take r.Commit.toNat).map (·.Data)):=by
 have key : ∀ (n k:Nat),k+n=min r.Log.length r.Commit.toNat→loop (D1 fun i l=>Fu r i l) ((k:Int),(r.Log.take k).map (·.Data))=.ok ((r.Log.take r.Commit.toNat).map (·.Data)):=by
  intro n
  induction n with
  | zero=>
   intro k hk
   have hst:(D1 fun i l=>Fu r i l) ((k:Int),(r.Log.take k).map (·.Data))=.ok (.inr ((r.Log.take k).map (·.Data))):=by
    simp only [D1,Fu]
    rw [if_neg]
    simp only [Bool.and_eq_true,decide_eq_true_eq]
    omega
   rw [H3,hst,R.ok_bind]
   simp only
   congr 2
   rcases Nat.le_total r.Log.length r.Commit.toNat with h | h
   ·rw [List.take_of_length_le h,List.take_of_length_le (by omega)]
   ·rw [show k=r.Commit.toNat by omega]
  | succ n ih=>
   intro k hk
   have hlt:k<r.Log.length:=by omega
   have hg:r.Log[k]? = some r.Log[k]:=List.getElem?_eq_getElem hlt
   unfold B2 at hl
   have hw:IntKind.wrap .i64 ((k:Int)+1)=((k+1:Nat):Int):=by rw [Ir (by omega) (by omega)]; omega
   have hst:(D1 fun i l=>Fu r i l) ((k:Int),(r.Log.take k).map (·.Data))=.ok (.inl (((k+1:Nat):Int),(r.Log.take (k+1)).map (·.Data))):=by
    simp only [D1,Fu]
    rw [if_pos (by simp only [Bool.and_eq_true,decide_eq_true_eq]; omega),Hr hg,R.ok_bind,if_pos (by simp only [List.length_map,List.length_take,List.length_singleton]; unfold B2; omega),hw,List.take_add_one,hg,List.map_append]
    rfl
   rw [H3,hst,R.ok_bind]
   exact ih (k+1) (by omega)
 unfold Gk
 have:=key (min r.Log.length r.Commit.toNat) 0 (by omega)
 rw [show((0:Int),([]:List (List Int)))=(((0:Nat):Int),(r.Log.take 0).map (·.Data)) from rfl,this]
 rfl
theorem Vz {α:Type}{b:Nat→α→Unit→R (Unit ⊕ Bool)} : ∀ (l:List α) (k:Nat),(∀ (j:Nat) a,l[j]? = some a→b (k+j) a ()=.ok (.inl ()))→each b k l ()=.ok (.inl ())
 | [],k,_=>rfl
 | a::l,k,hb=>by
  rw [Mg,show b k a ()=.ok (.inl ()) from hb 0 a rfl]
  simp only [R.ok_bind]
  exact Vz l (k+1) fun j x hx=>by rw [show k+1+j=k+(j+1) by omega]; exact hb (j+1) x (by simpa using hx)
theorem Zl (l:List Record):M7 l l=.ok true:=by
 unfold M7
 rw [if_neg (by omega),Vz l 0 fun j x hx=>?_]
 ·rfl
 ·simp only [Mj,Tn,Nat.zero_add,Hr hx,R.ok_bind,beq_self_eq_true,Bool.and_self,if_true]
theorem same_self (r:Replica):Hj r r=.ok true:=by
 unfold Hj
 simp only [bne_self_eq_false,Bool.or_self,Bool.false_eq_true,if_false,Zl,R.ok_bind,Bool.not_true]
 rw [Vz r.Votes 0 fun j x hx=>by simp only [L5,Nat.zero_add,Hr hx,R.ok_bind,beq_self_eq_true,if_true]]
 simp only [R.ok_bind,F4]
 rw [Vz r.Match 0 fun j x hx=>by simp only [Ky,Nat.zero_add,Hr hx,R.ok_bind,bne_self_eq_false,Bool.false_eq_true,if_false]]
 rfl
theorem Ah7 (m:Message):K5 m m=.ok true:=by
 unfold K5
 simp only [beq_self_eq_true,Bool.and_self,if_true,Zl,R.ok_bind]
theorem messes_self (l:List Message):E7 l l=.ok true:=by
 unfold E7
 rw [if_neg (by simp),Vz l 0 fun j x hx=>by simp only [I1,Nat.zero_add,Hr hx,R.ok_bind,Ah7,if_true]]
 rfl
theorem lists_self (l:List (List Int)):Kd l l=.ok true:=by
 unfold Kd Rr
 rw [if_pos (by simp),if_neg (by omega),Vz l 0 fun j x hx=>by simp only [Mc,Nat.zero_add,Hr hx,R.ok_bind,beq_self_eq_true,if_true]]
 rfl
theorem few_ok (l:List Record) : ∃ b,Sh l=.ok b:=by
 unfold Sh
 rw [Aer (p:=fun a=>decide ((a.Data.length:Int) > 100)) false l 0 fun j a _=>by simp only [Pk,decide_eq_true_eq]]
 simp only [R.ok_bind]
 cases l.any _
 ·exact⟨_,rfl⟩
 ·exact⟨_,rfl⟩
theorem check_ok {r:Replica}(hl:r.Log.length≤B2) : ∃ e,C5 r=.ok e:=by
 by_cases h:Good r
 ·exact⟨_,Pq hl h⟩
 ·exact⟨_,Q8 hl h⟩
theorem time_ok {r:Replica}(hl:r.Log.length≤B2) : ∃ e,Eu r=.ok e:=by
 by_cases h:Good r
 ·exact⟨_,Afx h hl⟩
 ·exact⟨_,Ad1 h hl⟩
theorem prop_ok {r:Replica}{d:List Int}(hl:r.Log.length≤B2) : ∃ e,Ew r d=.ok e:=by
 by_cases h:Good r
 ·exact⟨_,Afk h hl⟩
 ·exact⟨_,Adq h hl⟩
theorem Aky (a:Record):1≤Ra.bulk a:=Nat.le_add_left _ _
theorem Ak4 (l:List Record):l.length+1≤(O8 2 Ra).bulk l:=Aku Aky l
theorem rep_len {r:Replica}:r.Log.length+1≤T0.bulk r:=by
 have:=Ak4 r.Log
 show _≤(_+(_+(_+(_+((O8 2 Ra).bulk r.Log+_)))))+1
 omega
end Rp
theorem law_ReplicaStepSpec:Ls:=by
 intro id many r d h1 h2 hr hd hb
 have h1:=Rp.rep_len (r:=r)
 have hl:r.Log.length≤B2:=by unfold B2; omega
 obtain⟨f,ef⟩:=Rp.few_ok r.Log
 obtain⟨p1,n1,n2⟩:=Rp.new_same id many
 obtain⟨p2,t1⟩:=Rp.time_ok hl
 obtain⟨p3,q1⟩:=Rp.prop_ok (d:=d) hl
 obtain⟨p4,r1,r2⟩:=Rp.rest_same r
 obtain⟨p5,c1⟩:=Rp.check_ok hl
 unfold Kx
 rw [Acx,R.ok_bind,if_pos rfl,ef,R.ok_bind]
 split
 ·rfl
 ·rw [n1,n2,Rp.rtime_eq hl,t1,Rp.rprop_eq hl,q1]
  simp only [R.ok_bind,Rp.same_self,Rp.messes_self,bne_self_eq_false,Bool.not_true,Bool.or_self,Bool.false_eq_true,if_false]
  rw [Rp.rcheck_eq hl,c1]
  simp only [R.ok_bind,beq_self_eq_true,if_true]
  rw [r1,r2]
  simp only [R.ok_bind,Rp.same_self,if_true]
  rw [Rp.comm_any r (by unfold B2; omega),Rp.rcomm_any r (by unfold B2; omega)]
  simp only [R.ok_bind,Rp.lists_self]
end Go.Am
namespace Go.Proofs
open Go.Shelf
def Tryz.laysSlM5_f77_ren:Go.Shelf.Ren:=⟨fun | 5=>77 | 8=>86 | 7=>85 | 19=>97 | 20=>98 | 10=>88 | 11=>89 | 12=>90 | 13=>91 | 14=>92 | 15=>93 | 16=>94 | 17=>95 | 18=>96 | 30=>99 | 31=>100 | 32=>101 | 33=>102 | 34=>103 | 35=>104 | 40=>105 | n=>n,fun | 23=>24 | 25=>3 | 3=>3 | 32=>121 | 22=>24 | 0=>0 | 44=>134 | 46=>110 | 4=>4 | 36=>127 | 35=>126 | 41=>105 | 5=>5 | 9=>9 | 53=>135 | 57=>138 | 63=>140 | 64=>141 | n=>n,fun | n=>n⟩
theorem Tryz.laysSlM5_f77:Go.Proofs.SlLaysM.n5 Tryz.prog Tryz.laysSlM5_f77_ren:={
 mixed:=by kernel_rfl
 f5:=⟨Tryz.f77.name,by decide,Tryz.func77.trans (congrArg some (by kernel_rfl))⟩
 f7:=⟨Tryz.f85.name,by decide,Tryz.func85.trans (congrArg some (by kernel_rfl))⟩
 f8:=Tryz.func86.trans (congrArg some (by kernel_rfl))
 f10:=⟨Tryz.f88.name,by decide,Tryz.func88.trans (congrArg some (by kernel_rfl))⟩
 f11:=⟨Tryz.f89.name,by decide,Tryz.func89.trans (congrArg some (by kernel_rfl))⟩
 f12:=⟨Tryz.f90.name,by decide,Tryz.func90.trans (congrArg some (by kernel_rfl))⟩
 f13:=⟨Tryz.f91.name,by decide,Tryz.func91.trans (congrArg some (by kernel_rfl))⟩
 f14:=⟨Tryz.f92.name,by decide,Tryz.func92.trans (congrArg some (by kernel_rfl))⟩
 f15:=⟨Tryz.f93.name,by decide,Tryz.func93.trans (congrArg some (by kernel_rfl))⟩
 f16:=⟨Tryz.f94.name,by decide,Tryz.func94.trans (congrArg some (by kernel_rfl))⟩
 f17:=⟨Tryz.f95.name,by decide,Tryz.func95.trans (congrArg some (by kernel_rfl))⟩
 f18:=⟨Tryz.f96.name,by decide,Tryz.func96.trans (congrArg some (by kernel_rfl))⟩
 f19:=Tryz.func97.trans (congrArg some (by kernel_rfl))
 f20:=Tryz.func98.trans (congrArg some (by kernel_rfl))
 f30:=⟨Tryz.f99.name,by decide,Tryz.func99.trans (congrArg some (by kernel_rfl))⟩
 f31:=Tryz.func100.trans (congrArg some (by kernel_rfl))
 f32:=Tryz.func101.trans (congrArg some (by kernel_rfl))
 f33:=⟨Tryz.f102.name,by decide,Tryz.func102.trans (congrArg some (by kernel_rfl))⟩
 f34:=⟨Tryz.f103.name,by decide,Tryz.func103.trans (congrArg some (by kernel_rfl))⟩
 f35:=⟨Tryz.f104.name,by decide,Tryz.func104.trans (congrArg some (by kernel_rfl))⟩
 f40:=⟨Tryz.f105.name,by decide,Tryz.func105.trans (congrArg some (by kernel_rfl))⟩
 t0:=Tryz.underlying0
 a0:=Tryz.isAgg0
 z0:=Tryz.sizeOf0
 v0:=Tryz.zeroValue0
 t3:=Tryz.underlying3
 a3:=Tryz.isAgg3
 z3:=Tryz.sizeOf3
 v3:=Tryz.zeroValue3
 t4:=Tryz.underlying4
 a4:=Tryz.isAgg4
 z4:=Tryz.sizeOf4
 v4:=Tryz.zeroValue4
 t5:=Tryz.underlying5
 a5:=Tryz.isAgg5
 z5:=Tryz.sizeOf5
 v5:=Tryz.zeroValue5
 t9:=Tryz.underlying9
 a9:=Tryz.isAgg9
 z9:=Tryz.sizeOf9
 v9:=Tryz.zeroValue9
 t22:=Tryz.underlying24
 a22:=Tryz.isAgg24
 z22:=Tryz.sizeOf24
 v22:=Tryz.zeroValue24
 t23:=Tryz.underlying24
 a23:=Tryz.isAgg24
 z23:=Tryz.sizeOf24
 v23:=Tryz.zeroValue24
 t25:=Tryz.underlying3
 a25:=Tryz.isAgg3
 z25:=Tryz.sizeOf3
 v25:=Tryz.zeroValue3
 t32:=Tryz.underlying121
 a32:=Tryz.isAgg121
 z32:=Tryz.sizeOf121
 v32:=Tryz.zeroValue121
 t35:=Tryz.underlying126
 a35:=Tryz.isAgg126
 z35:=Tryz.sizeOf126
 v35:=Tryz.zeroValue126
 t36:=Tryz.underlying127
 a36:=Tryz.isAgg127
 z36:=Tryz.sizeOf127
 v36:=Tryz.zeroValue127
 t41:=Tryz.underlying105
 a41:=Tryz.isAgg105
 z41:=Tryz.sizeOf105
 v41:=Tryz.zeroValue105
 t44:=Tryz.underlying134
 a44:=Tryz.isAgg134
 z44:=Tryz.sizeOf134
 v44:=Tryz.zeroValue134
 t46:=Tryz.underlying110
 a46:=Tryz.isAgg110
 z46:=Tryz.sizeOf110
 v46:=Tryz.zeroValue110
 t53:=Tryz.underlying135
 a53:=Tryz.isAgg135
 z53:=Tryz.sizeOf135
 v53:=Tryz.zeroValue135
 t57:=Tryz.underlying138
 a57:=Tryz.isAgg138
 z57:=Tryz.sizeOf138
 v57:=Tryz.zeroValue138
 t63:=Tryz.underlying140
 a63:=Tryz.isAgg140
 z63:=Tryz.sizeOf140
 v63:=Tryz.zeroValue140
 t64:=Tryz.underlying141
 a64:=Tryz.isAgg141
 z64:=Tryz.sizeOf141
 v64:=Tryz.zeroValue141 }
open Go.Sort Go.RowKit in
theorem Tryz.slices_Sort_int (blk off cap : Nat) (zs : List Int) (w : World) (hH : Holds (Value.int .i64) w blk off zs.toArray) (hblk : blk < w.heap.size) (hsz : zs.length < 4611686018427387904) :
  Calls Tryz.prog 77 #[.slice (some ⟨blk, off, none⟩) zs.length cap] w fun e w' =>
   e = .returned (.tuple #[]) ∧ ∃ n os, w' = grow (putRow (Value.int .i64) (Sort.ahead w n) blk off (zs.mergeSort fun x y => decide (x ≤ y)).toArray) os := AnyM.slices_Sort_int Tryz.laysSlM5_f77 blk off cap zs w hH hblk hsz
open Go.RowKit Go.Sort in
theorem Tryz.slices_Sort_int_none (p : Option Addr) (cap : Nat) (w : World) :
  Calls Tryz.prog 77 #[.slice p 0 cap] w fun e w' => e = .returned (.tuple #[]) ∧ w' = w := AnyM.slices_Sort_int_none Tryz.laysSlM5_f77 p cap w
end Go.Proofs
namespace Go.Am
open Go Go.Proofs
set_option linter.unusedVariables false
set_option linter.unusedSimpArgs false
instance gwI:GW Tryz.prog:={ n:=0,G:=fun _ _=>True,keep:=fun _ _ _=>trivial }
theorem Da:Tryz.prog.follows .mixedOrders=true:=by kernel_rfl
theorem Av:ti Tryz.prog 3=some ⟨.int .i64,1,8,[.int .i64 0]⟩:=by kernel_rfl
theorem Gm:ti Tryz.prog 4=some ⟨.bool,1,1,[.bool false]⟩:=by kernel_rfl
theorem Kb:ti Tryz.prog 5=some ⟨.int .u8,1,1,[.int .u8 0]⟩:=by kernel_rfl
theorem Kn:ti Tryz.prog 9=some ⟨.str,1,16,[.str []]⟩:=by kernel_rfl
theorem Agw:ti Tryz.prog 20=some ⟨.ifc,1,16,[.nili]⟩:=by kernel_rfl
theorem Ba:ti Tryz.prog 22=some ⟨.sl 51,1,24,[.emp]⟩:=by kernel_rfl
theorem Cn:ti Tryz.prog 23=some ⟨.sl 4,1,24,[.emp]⟩:=by kernel_rfl
theorem Bt:ti Tryz.prog 24=some ⟨.sl 3,1,24,[.emp]⟩:=by kernel_rfl
theorem As:ti Tryz.prog 26=some ⟨.st [(0,3),(1,3),(2,3),(3,3),(4,22),(5,3),(6,3),(7,23),(8,24)],9,120,[.int .i64 0,.int .i64 0,.int .i64 0,.int .i64 0,.emp,.int .i64 0,.int .i64 0,.emp,.emp]⟩:=by kernel_rfl
theorem D6:ti Tryz.prog 27=some ⟨.sl 5,1,24,[.emp]⟩:=by kernel_rfl
theorem Hi:ti Tryz.prog 30=some ⟨.int .i64,1,8,[.int .i64 0]⟩:=by kernel_rfl
theorem Ct:ti Tryz.prog 33=some ⟨.sl 47,1,24,[.emp]⟩:=by kernel_rfl
theorem O0:ti Tryz.prog 42=some ⟨.sl 27,1,24,[.emp]⟩:=by kernel_rfl
theorem Bx:ti Tryz.prog 47=some ⟨.st [(0,3),(1,3),(2,3),(3,3),(4,3),(5,3),(6,22),(7,3),(8,3),(9,4)],10,96,[.int .i64 0,.int .i64 0,.int .i64 0,.int .i64 0,.int .i64 0,.int .i64 0,.emp,.int .i64 0,.int .i64 0,.bool false]⟩:=by kernel_rfl
theorem C2:ti Tryz.prog 51=some ⟨.st [(0,3),(1,27)],2,32,[.int .i64 0,.emp]⟩:=by kernel_rfl
theorem Dl:ti Tryz.prog 55=some ⟨.sl 57,1,24,[.emp]⟩:=by kernel_rfl
theorem B6:ti Tryz.prog 57=some ⟨.st [(0,3),(1,3),(2,9),(3,55)],4,56,[.int .i64 0,.int .i64 0,.str [],.emp]⟩:=by kernel_rfl
theorem Bc:ti Tryz.prog 62=some ⟨.st [(0,26),(9,33)],10,144,[.int .i64 0,.int .i64 0,.int .i64 0,.int .i64 0,.emp,.int .i64 0,.int .i64 0,.emp,.emp,.emp]⟩:=by kernel_rfl
theorem Vh:ti Tryz.prog 78=some ⟨.fn,1,8,[.nilf]⟩:=by kernel_rfl
theorem Zy:ti Tryz.prog 79=some ⟨.arr 5 78,5,40,[.nilf,.nilf,.nilf,.nilf,.nilf]⟩:=by kernel_rfl
theorem Alo:ti Tryz.prog 81=some ⟨.st [(0,79)],5,40,[.nilf,.nilf,.nilf,.nilf,.nilf]⟩:=by kernel_rfl
theorem Ji:ti Tryz.prog 87=some ⟨.fn,1,8,[.nilf]⟩:=by kernel_rfl
theorem Ix:ti Tryz.prog 89=some ⟨.st [(0,87)],1,8,[.nilf]⟩:=by kernel_rfl
theorem Ag6:ti Tryz.prog 90=some ⟨.ptr 108,1,8,[.nilp]⟩:=by kernel_rfl
theorem Ajt:ti Tryz.prog 99=some ⟨.st [(0,30)],1,8,[.int .i64 0]⟩:=by kernel_rfl
theorem M4:ti Tryz.prog 108=some ⟨.arr 4 89,4,32,[.nilf,.nilf,.nilf,.nilf]⟩:=by kernel_rfl
theorem Lr:ti Tryz.prog 110=some ⟨.int .u64,1,8,[.int .u64 0]⟩:=by kernel_rfl
theorem Ac7:ti Tryz.prog 120=some ⟨.arr 4 4,4,4,[.bool false,.bool false,.bool false,.bool false]⟩:=by kernel_rfl
theorem Aes:Oq Tryz.prog [(0,3),(1,3),(2,3),(3,3),(4,22),(5,3),(6,3),(7,23),(8,24)]=some [(0,1),(1,1),(2,1),(3,1),(4,1),(5,1),(6,1),(7,1),(8,1)]:=by kernel_rfl
theorem Abx:Oq Tryz.prog [(0,3),(1,3),(2,3),(3,3),(4,3),(5,3),(6,22),(7,3),(8,3),(9,4)]=some [(0,1),(1,1),(2,1),(3,1),(4,1),(5,1),(6,1),(7,1),(8,1),(9,1)]:=by kernel_rfl
theorem Ua:Oq Tryz.prog [(0,3),(1,27)]=some [(0,1),(1,1)]:=by kernel_rfl
theorem Z6:Oq Tryz.prog [(0,3),(1,3),(2,9),(3,55)]=some [(0,1),(1,1),(2,1),(3,1)]:=by kernel_rfl
end Go.Am
namespace Go.Am
open Go Go.Proofs
set_option maxRecDepth 100000
set_option maxHeartbeats 4000000
set_option linter.unusedSimpArgs false
set_option linter.unusedVariables false
theorem Db (n:Int)(lo:Int)(hi:Int):CP Tryz.prog 25 [(.int .i64 n),(.int .i64 lo),(.int .i64 hi)] (Bs n lo hi) (fun(x:Bool)=>(AV.bool x)):=by
 refine C7 (n:=15) 0 Tryz.func25 O (by decide) O O fun h0 ids hI=>B0 (Ax (Bs.eq_1 _ _ _) ?_)
 refine Ac<|Aa<|Ae (.bool false) O Au<|Af<|Ac<|Aa<|Al 4 [] [(10,(.bool (decide (lo≤n))))] ?_
 refine B7 4 [(14,(.bool ((decide (lo≤n))&&(decide (n≤hi)))))] ?_ fun hJ=>Bz (decide (lo≤n)) (fun hb1=>?_) (fun hb1=>?_)
 ·refine Ae (.bool ((decide (lo≤n))&&(decide (n≤hi)))) O Au<|Af<|B3 (a:=((decide (lo≤n))&&(decide (n≤hi)))) (vs:=[(.bool ((decide (lo≤n))&&(decide (n≤hi))))]) Tryz.func25 hI O (.same _)
 ·refine A8 (t:=10) hb1 O<|Al 4 [] [(14,(.bool (decide (n≤hi))))] ?_
  exact Bl hJ (.cons (G1 hb1) .nil)
 refine A8 (t:=10) hb1 O<|Al 4 [] [(14,(.bool false))] ?_
 exact Bl hJ (.cons (G2 hb1) .nil)
theorem Y1 (rID:Int)(rMany:Int)(rTerm:Int)(rVote:Int)(rRole:Int)(rCommit:Int)(h0:Ai)(o0:Nat)(hI0:Ids h0 [o0] 1):Lc rID rMany rTerm rVote rRole rCommit≠.bad→Bv Tryz.prog 26 [(.agg [(.int .i64 rID),(.int .i64 rMany),(.int .i64 rTerm),(.int .i64 rVote),.emp,(.int .i64 rRole),(.int .i64 rCommit),.emp,.emp])] (hp h0 [o0] [none]) (Ei (fun a_ v h' => ∃ (g2:Nat),v=(.ptr o0 g2 0 0)∧h'=hp h0 [o0] [some (.rows g2 10 [[(.int .i64 rID),(.int .i64 rMany),(.int .i64 rTerm),(.int .i64 rVote),.emp,(.int .i64 rRole),(.int .i64 rCommit),.emp,.emp,.emp]])]) h0 (Lc rID rMany rTerm rVote rRole rCommit)):=by
 refine Cm (n:=6) 1 Tryz.func26 O (by decide) O O hI0 O fun ids he hI=>?_
 clear hI0
 obtain rfl:ix ids 0=o0:=he 0 rfl
 clear he
 refine B0 (Ax (Lc.eq_1 _ _ _ _ _ _) ?_)
 refine Az ?_
 refine Ac<|Aa<|Cy (v:=(.agg [(.I rID),(.I rMany),(.I rTerm),(.I rVote),.emp,(.I rRole),(.I rCommit),.emp,.emp])) (j:=1) hI O O O O O O O fun g=>Ae .nilp O Au<|Af<|Az ?_
 refine Ac<|Aa<|Al 2 [1] [(4,(.agg [(.I rID),(.I rMany),(.I rTerm),(.I rVote),.emp,(.I rRole),(.I rCommit),.emp,.emp,.emp]))] ?_
 refine Cy (v:=(.agg [(.I rID),(.I rMany),(.I rTerm),(.I rVote),.emp,(.I rRole),(.I rCommit),.emp,.emp,.emp])) (j:=0) hI O O O O O O O fun g1=>Ae (.q ids 0 g1) O Au<|Af<|Az ?_
 exact En (K:=1) (N:=1) (a:=()) (vs:=[(.q ids 0 g1)]) [some (.rows g1 10 [[(.I rID),(.I rMany),(.I rTerm),(.I rVote),.emp,(.I rRole),(.I rCommit),.emp,.emp,.emp]])] Tryz.func26 hI O O O (.keep (.drop .nil)) (.same _) ⟨g1,O,O⟩
theorem Ut (s_ReplicaID:Int)(s_ReplicaMany:Int)(s_ReplicaTerm:Int)(s_ReplicaVote:Int)(s_ReplicaRole:Int)(s_ReplicaCommit:Int)(h0:Ai)(o0:Nat)(o1:Nat)(o2:Nat)(w:AV)(w1:AV)(w2:AV)(w3:AV)(g:Nat)(hI0:Ids h0 [o0,o1,o2] 3):H2 s_ReplicaID s_ReplicaMany s_ReplicaTerm s_ReplicaVote s_ReplicaRole s_ReplicaCommit≠.bad→Bv Tryz.prog 27 [(.ptr o0 g 0 0)] (hp h0 [o0,o1,o2] [some (.rows g 10 [[(.int .i64 s_ReplicaID),(.int .i64 s_ReplicaMany),(.int .i64 s_ReplicaTerm),(.int .i64 s_ReplicaVote),w,(.int .i64 s_ReplicaRole),(.int .i64 s_ReplicaCommit),w1,w2,w3]]),none,none]) (Ei (fun a_ v h' => ∃ (v19:AV),∃ (g19:Nat),∃ (v20:AV),∃ (g20:Nat),A9 v19 o1 g19 a_.1.length∧A9 v20 o2 g20 a_.2.length∧v=(.tup [])∧h'=hp h0 [o0,o1,o2] [some (.rows g 10 [[(.int .i64 s_ReplicaID),(.int .i64 s_ReplicaMany),(.int .i64 s_ReplicaTerm),(.int .i64 s_ReplicaVote),w,(.int .i64 0),(.int .i64 s_ReplicaCommit),v19,v20,w3]]),A5 v19 g19 1 (List.map rB a_.1),A5 v20 g20 1 (List.map (rI .i64) a_.2)]) h0 (H2 s_ReplicaID s_ReplicaMany s_ReplicaTerm s_ReplicaVote s_ReplicaRole s_ReplicaCommit)):=by
 refine Cm (n:=30) 0 Tryz.func27 O (by decide) O O hI0 O fun ids he hI=>?_
 clear hI0
 obtain rfl:ix ids 0=o0:=he 0 rfl
 obtain rfl:ix ids 1=o1:=he 1 rfl
 obtain rfl:ix ids 2=o2:=he 2 rfl
 clear he
 refine B0 (Ax (H2.eq_1 _ _ _ _ _ _) ?_)
 refine Ac<|Aa<|Ae (.I 0) O Au<|Af<|Ac<|Ac<|Aa ?_
 refine Al 5 [0] [(7,(.I s_ReplicaMany))] ?_
 refine Be [(.I s_ReplicaMany),(.I 0),(.I 5)] O O O O ((Db s_ReplicaMany 0 5) _) (fun v _=>Ca (K:=3) (N:=0) Tryz.func27 hI) fun r _=>Af<|Dn (fun n=>Ia n) (fun n=>fun(fr:Nat→AV) (h:Ai)=>fr=A0 [(0,(.q ids 0 g)),(2,(.I n))]∧h=hp h0 ids [(some (.rows g 10 [[(.I s_ReplicaID),(.I s_ReplicaMany),(.I s_ReplicaTerm),(.I s_ReplicaVote),w,(.I s_ReplicaRole),(.I s_ReplicaCommit),w1,w2,w3]])),none,none]) ?_ fun hJ1=>?_
 ·rintro n fr h ⟨rfl,rfl⟩
  refine Ax (Ia.eq_1 _)<|Dn (D1 fun l l1=>J0 l l1) (D1 fun l l1=>fun(fr:Nat→AV) (h:Ai) => ∃ (v17:AV),∃ (g17:Nat),∃ (v18:AV),∃ (g18:Nat),A9 v17 (ix ids 1) g17 l.length∧A9 v18 (ix ids 2) g18 l1.length∧fr=A0 []∧h=hp h0 ids [(some (.rows g 10 [[(.I s_ReplicaID),(.I s_ReplicaMany),(.I s_ReplicaTerm),(.I s_ReplicaVote),w,(.I 0),(.I s_ReplicaCommit),v17,v18,w3]])),(A5 v17 g17 1 (List.map rB l)),(A5 v18 g18 1 (List.map (rI .i64) l1))]) ?_ fun hJ=>?_
  ·rintro⟨l,l1⟩ fr h ⟨v17,g17,v18,g18,vH16,vH17,rfl,rfl⟩
   refine Ax (J0.eq_1 _ _)<|Fi (K:=3) (N:=0) (a:=(l,l1)) (vs:=[]) [some (.rows g 10 [[(.I s_ReplicaID),(.I s_ReplicaMany),(.I s_ReplicaTerm),(.I s_ReplicaVote),w,(.I 0),(.I s_ReplicaCommit),v17,v18,w3]]),A5 v17 g17 1 (List.map rB l),A5 v18 g18 1 (List.map (rI .i64) l1)] Tryz.func27 hI O O O (.keep (.keep (.keep .nil))) (.same _) ⟨v17,g17,v18,g18,vH16,vH17,O,O⟩
  refine R9 Da (.node 14 6 (.node 10 6 (.node 10 4 (.node 6 4 (.leaf [[],[],[],[],[3,3],[],[3,4,5],[0,0],[0,7],[0,7,8],[0,3,4,5,6,7,8,9],[0,1,3,4,5,6,7,8,9,10],[0,1,3,4,5,6,7,8,9,10,11],[0,1,3,4,5,6,7,8,9,10,11,12],[0,1,3,4,5,6,7,8,9,10,11,12,13],[0,1,2,2,3,4,5,6,7,8,9,10,11,12,13,14],[0,1,2,3,4,5,6,7,8,9,10,11,12,13,14,15],[0,1,2,3,4,5,6,7,8,9,10,11,12,13,14,15,16],[0,1,2,3,4,5,6,7,8,9,10,11,12,13,14,15,16,17]] [(false,0),(false,1),(false,2),(false,3),(false,5),(false,7),(false,8),(false,9),(true,4),(true,6),(true,10),(false,11),(false,12),(false,13),(true,14),(false,15),(false,16),(false,17),(true,18)]) (.leaf [[],[],[],[],[3,5,6],[],[5,5],[0,0],[0,7],[0,7,8],[0,3,4,5,6,7,8,9],[0,1,3,4,5,6,7,8,9,10],[0,1,3,4,5,6,7,8,9,10,11],[0,1,3,4,5,6,7,8,9,10,11,12],[0,1,3,4,5,6,7,8,9,10,11,12,13],[0,1,2,2,3,4,5,6,7,8,9,10,11,12,13,14],[0,1,2,3,4,5,6,7,8,9,10,11,12,13,14,15],[0,1,2,3,4,5,6,7,8,9,10,11,12,13,14,15,16],[0,1,2,3,4,5,6,7,8,9,10,11,12,13,14,15,16,17]] [(false,0),(false,1),(false,2),(false,3),(false,5),(false,7),(false,8),(false,9),(true,6),(true,4),(true,10),(false,11),(false,12),(false,13),(true,14),(false,15),(false,16),(false,17),(true,18)])) (.leaf [[],[],[],[],[0,3,5,6,7,8,9,10],[],[5,5],[0,0],[0,7],[0,7,8],[0,5,6,7,8,9],[0,1,3,4,5,6,7,8,9,10],[0,1,3,4,5,6,7,8,9,10,11],[0,1,3,4,5,6,7,8,9,10,11,12],[0,1,3,4,5,6,7,8,9,10,11,12,13],[0,1,2,2,3,4,5,6,7,8,9,10,11,12,13,14],[0,1,2,3,4,5,6,7,8,9,10,11,12,13,14,15],[0,1,2,3,4,5,6,7,8,9,10,11,12,13,14,15,16],[0,1,2,3,4,5,6,7,8,9,10,11,12,13,14,15,16,17]] [(false,0),(false,1),(false,2),(false,3),(false,5),(false,7),(false,8),(false,9),(true,6),(true,10),(true,4),(false,11),(false,12),(false,13),(true,14),(false,15),(false,16),(false,17),(true,18)])) (.node 6 4 (.node 10 4 (.leaf [[],[],[],[],[3,3],[],[0,3,4,5,7,8,9,10],[0,0],[0,7],[0,7,8],[0,3,4,7,8,9],[0,1,1,3,4,7,8,9,10],[0,1,3,4,7,8,9,10,11],[0,1,3,4,7,8,9,10,11,12],[0,1,3,4,5,6,7,8,9,10,11,12,13],[0,1,2,2,3,4,5,6,7,8,9,10,11,12,13,14],[0,1,2,3,4,5,6,7,8,9,10,11,12,13,14,15],[0,1,2,3,4,5,6,7,8,9,10,11,12,13,14,15,16],[0,1,2,3,4,5,6,7,8,9,10,11,12,13,14,15,16,17]] [(false,0),(false,1),(false,2),(false,3),(false,5),(false,7),(false,8),(false,9),(true,4),(true,10),(false,11),(false,12),(false,13),(true,6),(true,14),(false,15),(false,16),(false,17),(true,18)]) (.leaf [[],[],[],[],[0,3,7,8,9,10],[],[0,3,4,5,7,8,9,10],[0,0],[0,7],[0,7,8],[0,7,8,9],[0,1,1,3,4,7,8,9,10],[0,1,3,4,7,8,9,10,11],[0,1,3,4,7,8,9,10,11,12],[0,1,3,4,5,6,7,8,9,10,11,12,13],[0,1,2,2,3,4,5,6,7,8,9,10,11,12,13,14],[0,1,2,3,4,5,6,7,8,9,10,11,12,13,14,15],[0,1,2,3,4,5,6,7,8,9,10,11,12,13,14,15,16],[0,1,2,3,4,5,6,7,8,9,10,11,12,13,14,15,16,17]] [(false,0),(false,1),(false,2),(false,3),(false,5),(false,7),(false,8),(false,9),(true,10),(true,4),(false,11),(false,12),(false,13),(true,6),(true,14),(false,15),(false,16),(false,17),(true,18)])) (.leaf [[],[],[],[],[0,3,5,6,7,8,9,10],[],[0,5,7,8,9,10],[0,0],[0,7],[0,7,8],[0,7,8,9],[0,1,3,4,5,6,7,8,9,10],[0,1,3,4,5,6,7,8,9,10,11],[0,1,3,4,5,6,7,8,9,10,11,12],[0,1,3,4,5,6,7,8,9,10,11,12,13],[0,1,2,2,3,4,5,6,7,8,9,10,11,12,13,14],[0,1,2,3,4,5,6,7,8,9,10,11,12,13,14,15],[0,1,2,3,4,5,6,7,8,9,10,11,12,13,14,15,16],[0,1,2,3,4,5,6,7,8,9,10,11,12,13,14,15,16,17]] [(false,0),(false,1),(false,2),(false,3),(false,5),(false,7),(false,8),(false,9),(true,10),(true,6),(true,4),(false,11),(false,12),(false,13),(true,14),(false,15),(false,16),(false,17),(true,18)]))) (.node 10 4 (.leaf [[],[],[],[],[3,3],[],[0,1,3,4,5,7,8,9,10,11,12,13,14],[0,0],[0,7],[0,7,8],[0,3,4,7,8,9],[0,1,1,3,4,7,8,9,10],[0,1,3,4,7,8,9,10,11],[0,1,3,4,7,8,9,10,11,12],[0,1,3,4,7,8,9,10,11,12,13],[0,1,2,2,3,4,5,6,7,8,9,10,11,12,13,14],[0,1,2,3,4,5,6,7,8,9,10,11,12,13,14,15],[0,1,2,3,4,5,6,7,8,9,10,11,12,13,14,15,16],[0,1,2,3,4,5,6,7,8,9,10,11,12,13,14,15,16,17]] [(false,0),(false,1),(false,2),(false,3),(false,5),(false,7),(false,8),(false,9),(true,4),(true,10),(false,11),(false,12),(false,13),(true,14),(true,6),(false,15),(false,16),(false,17),(true,18)]) (.leaf [[],[],[],[],[0,3,7,8,9,10],[],[0,1,3,4,5,7,8,9,10,11,12,13,14],[0,0],[0,7],[0,7,8],[0,7,8,9],[0,1,1,3,4,7,8,9,10],[0,1,3,4,7,8,9,10,11],[0,1,3,4,7,8,9,10,11,12],[0,1,3,4,7,8,9,10,11,12,13],[0,1,2,2,3,4,5,6,7,8,9,10,11,12,13,14],[0,1,2,3,4,5,6,7,8,9,10,11,12,13,14,15],[0,1,2,3,4,5,6,7,8,9,10,11,12,13,14,15,16],[0,1,2,3,4,5,6,7,8,9,10,11,12,13,14,15,16,17]] [(false,0),(false,1),(false,2),(false,3),(false,5),(false,7),(false,8),(false,9),(true,10),(true,4),(false,11),(false,12),(false,13),(true,14),(true,6),(false,15),(false,16),(false,17),(true,18)]))) (by kernel_rfl)<|H4 ?_ ?_
  ·refine H4 ?_ ?_
   ·refine H4 ?_ ?_
    ·refine H4 ?_ ?_
     ·refine Fp<|Z (.q ids 0 g) O O Ab<|Z (.q ids 0 g) O O Ab<|Z (.q ids 0 g) O O Ab<|Z (.I n) O O Ab<|Z (.I n) O O Ab<|Z (.q ids 0 g) O O (Ar O) ?_
      refine Z (.q ids 0 g) O O (Aj (Ag (c:=0) (off:=0) (i:=0) Bc O As O))<|Z (.ptr (ix ids 0) g 0 5) O O (Aj (Ag (c:=0) (off:=5) (i:=5) As O Av O))<|Cb fun hl=>Ch O O (fun _ _=>O) (fun K hK=>Dc (y:=(false:Bool)) (e:=rB) (st:=1) (j:=1) hI O O O Cn Gm O O hl.1 hl.2.1 hl.2.2 O O O O O fun v1 g1 vH=>hK _ _ (Ad O (Aj (Ag (c:=0) (off:=5) (i:=5) As O Av O)) (Ad O (Aj (Ag (c:=0) (off:=0) (i:=0) Bc O As O)) (Ad O (Ar O) (Ad O Ab (Y O (Ad O Ab (Ad O Ab (Ad O Ab At)))))))) ?_)
      clear hK K
      refine Cb fun hl1=>Ch O O (fun _ _=>O) (fun K hK=>Dc (y:=(0:Int)) (e:=(rI .i64)) (st:=1) (j:=2) hI O O O Bt Av O O hl1.1 hl1.2.1 hl1.2.2 O O O O O fun v2 g2 vH1=>hK _ _ (Ad O (Aj (Ag (c:=0) (off:=5) (i:=5) As O Av O)) (Ad O (Aj (Ag (c:=0) (off:=0) (i:=0) Bc O As O)) (Ad O (Ar O) (Y O (Y O (Ad O Ab (Ad O Ab (Ad O Ab At)))))))) ?_)
      clear hK K
      refine Bi O (fun _ _=>O) (fun K hK=>A3 (A6 (v:=(.I 0)) hI O O O O Av O O O O O) (hK _ _ (Y O (Y O (Y O (Y O (Y O (Ad O Ab (Ad O Ab (Y O At)))))))) ?_))
      clear hK K
      refine Z (.q ids 0 g) O O (Ar O)<|Z (.q ids 0 g) O O (Aj (Ag (c:=0) (off:=0) (i:=0) Bc O As O))<|Z (.ptr (ix ids 0) g 0 7) O O (Aj (Ag (c:=0) (off:=7) (i:=7) As O Cn O))<|Bi O (fun _ _=>O) (fun K hK=>A3 (B8 vH hI O O O O Cn O O O) (hK _ _ (Y O (Y O (Y O (Y O (Y O (Y O (Y O (Y O (Ad O Ab (Y O (Y O At))))))))))) ?_))
      clear hK K
      refine Z (.q ids 0 g) O O (Ar O)<|Z (.q ids 0 g) O O (Aj (Ag (c:=0) (off:=0) (i:=0) Bc O As O))<|Z (.ptr (ix ids 0) g 0 8) O O (Aj (Ag (c:=0) (off:=8) (i:=8) As O Bt O))<|Bi O (fun _ _=>O) (fun K hK=>A3 (B8 vH1 hI O O O O Bt O O O) (hK _ _ (Y O (Y O (Y O (Y O (Y O (Y O (Y O (Y O (Y O (Y O (Y O (Y O (Y O (Y O At)))))))))))))) ?_))
      clear hK K
      refine Bb<|Az ?_
      exact Bk (hJ ((List.replicate (Int.toNat n) false),(List.replicate (Int.toNat n) (0:Int))) _ _ ⟨v1,g1,v2,g2,vH,vH1,O,O⟩)
     refine Fp<|Cb fun hl3=>Cb fun hl2=>Z (.q ids 0 g) O O Ab<|Z (.q ids 0 g) O O Ab<|Z (.q ids 0 g) O O Ab<|Z (.I n) O O Ab ?_
     refine Z (.I n) O O Ab<|Z (.q ids 0 g) O O (Ar O)<|Z (.q ids 0 g) O O (Aj (Ag (c:=0) (off:=0) (i:=0) Bc O As O))<|Z (.ptr (ix ids 0) g 0 5) O O (Aj (Ag (c:=0) (off:=5) (i:=5) As O Av O))<|Ch O O (fun _ _=>O) (fun K hK=>Dc (y:=(0:Int)) (e:=(rI .i64)) (st:=1) (j:=2) hI O O O Bt Av O O hl2.1 hl2.2.1 hl2.2.2 O O O O O fun v3 g3 vH2=>hK _ _ (Ad O (Aj (Ag (c:=0) (off:=5) (i:=5) As O Av O)) (Ad O (Aj (Ag (c:=0) (off:=0) (i:=0) Bc O As O)) (Ad O (Ar O) (Y O (Ad O Ab (Ad O Ab (Ad O Ab (Ad O Ab At)))))))) ?_)
     clear hK K
     refine Ch O O (fun _ _=>O) (fun K hK=>Dc (y:=(false:Bool)) (e:=rB) (st:=1) (j:=1) hI O O O Cn Gm O O hl3.1 hl3.2.1 hl3.2.2 O O O O O fun v4 g4 vH3=>hK _ _ (Ad O (Aj (Ag (c:=0) (off:=5) (i:=5) As O Av O)) (Ad O (Aj (Ag (c:=0) (off:=0) (i:=0) Bc O As O)) (Ad O (Ar O) (Y O (Y O (Ad O Ab (Ad O Ab (Ad O Ab At)))))))) ?_)
     clear hK K
     refine Bi O (fun _ _=>O) (fun K hK=>A3 (A6 (v:=(.I 0)) hI O O O O Av O O O O O) (hK _ _ (Y O (Y O (Y O (Y O (Y O (Ad O Ab (Ad O Ab (Y O At)))))))) ?_))
     clear hK K
     refine Z (.q ids 0 g) O O (Ar O)<|Z (.q ids 0 g) O O (Aj (Ag (c:=0) (off:=0) (i:=0) Bc O As O))<|Z (.ptr (ix ids 0) g 0 7) O O (Aj (Ag (c:=0) (off:=7) (i:=7) As O Cn O))<|Bi O (fun _ _=>O) (fun K hK=>A3 (B8 vH3 hI O O O O Cn O O O) (hK _ _ (Y O (Y O (Y O (Y O (Y O (Y O (Y O (Y O (Ad O Ab (Y O (Y O At))))))))))) ?_))
     clear hK K
     refine Z (.q ids 0 g) O O (Ar O)<|Z (.q ids 0 g) O O (Aj (Ag (c:=0) (off:=0) (i:=0) Bc O As O))<|Z (.ptr (ix ids 0) g 0 8) O O (Aj (Ag (c:=0) (off:=8) (i:=8) As O Bt O))<|Bi O (fun _ _=>O) (fun K hK=>A3 (B8 vH2 hI O O O O Bt O O O) (hK _ _ (Y O (Y O (Y O (Y O (Y O (Y O (Y O (Y O (Y O (Y O (Y O (Y O (Y O (Y O At)))))))))))))) ?_))
     clear hK K
     refine Bb<|Az ?_
     exact Bk (hJ ((List.replicate (Int.toNat n) false),(List.replicate (Int.toNat n) (0:Int))) _ _ ⟨v4,g4,v3,g3,vH3,vH2,O,O⟩)
    refine Fp<|Cb fun hl5=>Cb fun hl4=>Z (.q ids 0 g) O O Ab<|Z (.q ids 0 g) O O Ab<|Z (.q ids 0 g) O O Ab<|Z (.I n) O O Ab ?_
    refine Z (.I n) O O Ab<|Z (.q ids 0 g) O O (Ar O)<|Z (.q ids 0 g) O O (Aj (Ag (c:=0) (off:=0) (i:=0) Bc O As O))<|Z (.ptr (ix ids 0) g 0 5) O O (Aj (Ag (c:=0) (off:=5) (i:=5) As O Av O))<|Ch O O (fun _ _=>O) (fun K hK=>Dc (y:=(0:Int)) (e:=(rI .i64)) (st:=1) (j:=2) hI O O O Bt Av O O hl4.1 hl4.2.1 hl4.2.2 O O O O O fun v5 g5 vH4=>hK _ _ (Ad O (Aj (Ag (c:=0) (off:=5) (i:=5) As O Av O)) (Ad O (Aj (Ag (c:=0) (off:=0) (i:=0) Bc O As O)) (Ad O (Ar O) (Y O (Ad O Ab (Ad O Ab (Ad O Ab (Ad O Ab At)))))))) ?_)
    clear hK K
    refine Bi O (fun _ _=>O) (fun K hK=>A3 (A6 (v:=(.I 0)) hI O O O O Av O O O O O) (hK _ _ (Y O (Y O (Y O (Y O (Ad O Ab (Ad O Ab (Ad O Ab (Y O At)))))))) ?_))
    clear hK K
    refine Ch O O (fun _ _=>O) (fun K hK=>Dc (y:=(false:Bool)) (e:=rB) (st:=1) (j:=1) hI O O O Cn Gm O O hl5.1 hl5.2.1 hl5.2.2 O O O O O fun v6 g6 vH5=>hK _ _ (Y O (Y O (Y O (Y O (Y O (Ad O Ab (Ad O Ab (Y O At)))))))) ?_)
    clear hK K
    refine Z (.q ids 0 g) O O (Ar O)<|Z (.q ids 0 g) O O (Aj (Ag (c:=0) (off:=0) (i:=0) Bc O As O))<|Z (.ptr (ix ids 0) g 0 7) O O (Aj (Ag (c:=0) (off:=7) (i:=7) As O Cn O))<|Bi O (fun _ _=>O) (fun K hK=>A3 (B8 vH5 hI O O O O Cn O O O) (hK _ _ (Y O (Y O (Y O (Y O (Y O (Y O (Y O (Y O (Ad O Ab (Y O (Y O At))))))))))) ?_))
    clear hK K
    refine Z (.q ids 0 g) O O (Ar O)<|Z (.q ids 0 g) O O (Aj (Ag (c:=0) (off:=0) (i:=0) Bc O As O))<|Z (.ptr (ix ids 0) g 0 8) O O (Aj (Ag (c:=0) (off:=8) (i:=8) As O Bt O))<|Bi O (fun _ _=>O) (fun K hK=>A3 (B8 vH4 hI O O O O Bt O O O) (hK _ _ (Y O (Y O (Y O (Y O (Y O (Y O (Y O (Y O (Y O (Y O (Y O (Y O (Y O (Y O At)))))))))))))) ?_))
    clear hK K
    refine Bb<|Az ?_
    exact Bk (hJ ((List.replicate (Int.toNat n) false),(List.replicate (Int.toNat n) (0:Int))) _ _ ⟨v6,g6,v5,g5,vH5,vH4,O,O⟩)
   refine H4 ?_ ?_
   ·refine H4 ?_ ?_
    ·refine Fp<|Cb fun hl6=>Cb fun hl7=>Z (.q ids 0 g) O O Ab<|Z (.q ids 0 g) O O Ab<|Z (.q ids 0 g) O O Ab<|Z (.I n) O O Ab ?_
     refine Z (.I n) O O Ab<|Z (.q ids 0 g) O O (Ar O)<|Z (.q ids 0 g) O O (Aj (Ag (c:=0) (off:=0) (i:=0) Bc O As O))<|Z (.ptr (ix ids 0) g 0 5) O O (Aj (Ag (c:=0) (off:=5) (i:=5) As O Av O))<|Ch O O (fun _ _=>O) (fun K hK=>Dc (y:=(false:Bool)) (e:=rB) (st:=1) (j:=1) hI O O O Cn Gm O O hl6.1 hl6.2.1 hl6.2.2 O O O O O fun v7 g7 vH6=>hK _ _ (Ad O (Aj (Ag (c:=0) (off:=5) (i:=5) As O Av O)) (Ad O (Aj (Ag (c:=0) (off:=0) (i:=0) Bc O As O)) (Ad O (Ar O) (Ad O Ab (Y O (Ad O Ab (Ad O Ab (Ad O Ab At)))))))) ?_)
     clear hK K
     refine Bi O (fun _ _=>O) (fun K hK=>A3 (A6 (v:=(.I 0)) hI O O O O Av O O O O O) (hK _ _ (Y O (Y O (Y O (Ad O Ab (Y O (Ad O Ab (Ad O Ab (Y O At)))))))) ?_))
     clear hK K
     refine Z (.q ids 0 g) O O (Ar O)<|Z (.q ids 0 g) O O (Aj (Ag (c:=0) (off:=0) (i:=0) Bc O As O))<|Z (.ptr (ix ids 0) g 0 7) O O (Aj (Ag (c:=0) (off:=7) (i:=7) As O Cn O))<|Ch O O (fun _ _=>O) (fun K hK=>Dc (y:=(0:Int)) (e:=(rI .i64)) (st:=1) (j:=2) hI O O O Bt Av O O hl7.1 hl7.2.1 hl7.2.2 O O O O O fun v8 g8 vH7=>hK _ _ (Ad O (Aj (Ag (c:=0) (off:=7) (i:=7) As O Cn O)) (Ad O (Aj (Ag (c:=0) (off:=0) (i:=0) Bc O As O)) (Ad O (Ar O) (Y O (Y O (Y O (Y O (Y O (Ad O Ab (Ad O Ab (Y O At))))))))))) ?_)
     clear hK K
     refine Bi O (fun _ _=>O) (fun K hK=>A3 (B8 vH6 hI O O O O Cn O O O) (hK _ _ (Y O (Y O (Y O (Y O (Y O (Y O (Y O (Y O (Ad O Ab (Y O (Y O At))))))))))) ?_))
     clear hK K
     refine Z (.q ids 0 g) O O (Ar O)<|Z (.q ids 0 g) O O (Aj (Ag (c:=0) (off:=0) (i:=0) Bc O As O))<|Z (.ptr (ix ids 0) g 0 8) O O (Aj (Ag (c:=0) (off:=8) (i:=8) As O Bt O))<|Bi O (fun _ _=>O) (fun K hK=>A3 (B8 vH7 hI O O O O Bt O O O) (hK _ _ (Y O (Y O (Y O (Y O (Y O (Y O (Y O (Y O (Y O (Y O (Y O (Y O (Y O (Y O At)))))))))))))) ?_))
     clear hK K
     refine Bb<|Az ?_
     exact Bk (hJ ((List.replicate (Int.toNat n) false),(List.replicate (Int.toNat n) (0:Int))) _ _ ⟨v7,g7,v8,g8,vH6,vH7,O,O⟩)
    refine Fp<|Cb fun hl8=>Cb fun hl9=>Z (.q ids 0 g) O O Ab<|Z (.q ids 0 g) O O Ab<|Z (.q ids 0 g) O O Ab<|Z (.I n) O O Ab ?_
    refine Z (.I n) O O Ab<|Z (.q ids 0 g) O O (Ar O)<|Z (.q ids 0 g) O O (Aj (Ag (c:=0) (off:=0) (i:=0) Bc O As O))<|Z (.ptr (ix ids 0) g 0 5) O O (Aj (Ag (c:=0) (off:=5) (i:=5) As O Av O))<|Bi O (fun _ _=>O) (fun K hK=>A3 (A6 (v:=(.I 0)) hI O O O O Av O O O O O) (hK _ _ (Y O (Y O (Y O (Ad O Ab (Ad O Ab (Ad O Ab (Ad O Ab (Y O At)))))))) ?_))
    clear hK K
    refine Ch O O (fun _ _=>O) (fun K hK=>Dc (y:=(false:Bool)) (e:=rB) (st:=1) (j:=1) hI O O O Cn Gm O O hl8.1 hl8.2.1 hl8.2.2 O O O O O fun v9 g9 vH8=>hK _ _ (Y O (Y O (Y O (Ad O Ab (Y O (Ad O Ab (Ad O Ab (Y O At)))))))) ?_)
    clear hK K
    refine Z (.q ids 0 g) O O (Ar O)<|Z (.q ids 0 g) O O (Aj (Ag (c:=0) (off:=0) (i:=0) Bc O As O))<|Z (.ptr (ix ids 0) g 0 7) O O (Aj (Ag (c:=0) (off:=7) (i:=7) As O Cn O))<|Ch O O (fun _ _=>O) (fun K hK=>Dc (y:=(0:Int)) (e:=(rI .i64)) (st:=1) (j:=2) hI O O O Bt Av O O hl9.1 hl9.2.1 hl9.2.2 O O O O O fun v10 g10 vH9=>hK _ _ (Ad O (Aj (Ag (c:=0) (off:=7) (i:=7) As O Cn O)) (Ad O (Aj (Ag (c:=0) (off:=0) (i:=0) Bc O As O)) (Ad O (Ar O) (Y O (Y O (Y O (Y O (Y O (Ad O Ab (Ad O Ab (Y O At))))))))))) ?_)
    clear hK K
    refine Bi O (fun _ _=>O) (fun K hK=>A3 (B8 vH8 hI O O O O Cn O O O) (hK _ _ (Y O (Y O (Y O (Y O (Y O (Y O (Y O (Y O (Ad O Ab (Y O (Y O At))))))))))) ?_))
    clear hK K
    refine Z (.q ids 0 g) O O (Ar O)<|Z (.q ids 0 g) O O (Aj (Ag (c:=0) (off:=0) (i:=0) Bc O As O))<|Z (.ptr (ix ids 0) g 0 8) O O (Aj (Ag (c:=0) (off:=8) (i:=8) As O Bt O))<|Bi O (fun _ _=>O) (fun K hK=>A3 (B8 vH9 hI O O O O Bt O O O) (hK _ _ (Y O (Y O (Y O (Y O (Y O (Y O (Y O (Y O (Y O (Y O (Y O (Y O (Y O (Y O At)))))))))))))) ?_))
    clear hK K
    refine Bb<|Az ?_
    exact Bk (hJ ((List.replicate (Int.toNat n) false),(List.replicate (Int.toNat n) (0:Int))) _ _ ⟨v9,g9,v10,g10,vH8,vH9,O,O⟩)
   refine Fp<|Cb fun hl11=>Cb fun hl10=>Z (.q ids 0 g) O O Ab<|Z (.q ids 0 g) O O Ab<|Z (.q ids 0 g) O O Ab<|Z (.I n) O O Ab ?_
   refine Z (.I n) O O Ab<|Z (.q ids 0 g) O O (Ar O)<|Z (.q ids 0 g) O O (Aj (Ag (c:=0) (off:=0) (i:=0) Bc O As O))<|Z (.ptr (ix ids 0) g 0 5) O O (Aj (Ag (c:=0) (off:=5) (i:=5) As O Av O))<|Bi O (fun _ _=>O) (fun K hK=>A3 (A6 (v:=(.I 0)) hI O O O O Av O O O O O) (hK _ _ (Y O (Y O (Y O (Ad O Ab (Ad O Ab (Ad O Ab (Ad O Ab (Y O At)))))))) ?_))
   clear hK K
   refine Ch O O (fun _ _=>O) (fun K hK=>Dc (y:=(0:Int)) (e:=(rI .i64)) (st:=1) (j:=2) hI O O O Bt Av O O hl10.1 hl10.2.1 hl10.2.2 O O O O O fun v11 g11 vH10=>hK _ _ (Y O (Y O (Y O (Y O (Ad O Ab (Ad O Ab (Ad O Ab (Y O At)))))))) ?_)
   clear hK K
   refine Ch O O (fun _ _=>O) (fun K hK=>Dc (y:=(false:Bool)) (e:=rB) (st:=1) (j:=1) hI O O O Cn Gm O O hl11.1 hl11.2.1 hl11.2.2 O O O O O fun v12 g12 vH11=>hK _ _ (Y O (Y O (Y O (Y O (Y O (Ad O Ab (Ad O Ab (Y O At)))))))) ?_)
   clear hK K
   refine Z (.q ids 0 g) O O (Ar O)<|Z (.q ids 0 g) O O (Aj (Ag (c:=0) (off:=0) (i:=0) Bc O As O))<|Z (.ptr (ix ids 0) g 0 7) O O (Aj (Ag (c:=0) (off:=7) (i:=7) As O Cn O))<|Bi O (fun _ _=>O) (fun K hK=>A3 (B8 vH11 hI O O O O Cn O O O) (hK _ _ (Y O (Y O (Y O (Y O (Y O (Y O (Y O (Y O (Ad O Ab (Y O (Y O At))))))))))) ?_))
   clear hK K
   refine Z (.q ids 0 g) O O (Ar O)<|Z (.q ids 0 g) O O (Aj (Ag (c:=0) (off:=0) (i:=0) Bc O As O))<|Z (.ptr (ix ids 0) g 0 8) O O (Aj (Ag (c:=0) (off:=8) (i:=8) As O Bt O))<|Bi O (fun _ _=>O) (fun K hK=>A3 (B8 vH10 hI O O O O Bt O O O) (hK _ _ (Y O (Y O (Y O (Y O (Y O (Y O (Y O (Y O (Y O (Y O (Y O (Y O (Y O (Y O At)))))))))))))) ?_))
   clear hK K
   refine Bb<|Az ?_
   exact Bk (hJ ((List.replicate (Int.toNat n) false),(List.replicate (Int.toNat n) (0:Int))) _ _ ⟨v12,g12,v11,g11,vH11,vH10,O,O⟩)
  refine H4 ?_ ?_
  ·refine Fp<|Cb fun hl12=>Cb fun hl13=>Z (.q ids 0 g) O O Ab<|Z (.q ids 0 g) O O Ab<|Z (.q ids 0 g) O O Ab<|Z (.I n) O O Ab ?_
   refine Z (.I n) O O Ab<|Z (.q ids 0 g) O O (Ar O)<|Z (.q ids 0 g) O O (Aj (Ag (c:=0) (off:=0) (i:=0) Bc O As O))<|Z (.ptr (ix ids 0) g 0 5) O O (Aj (Ag (c:=0) (off:=5) (i:=5) As O Av O))<|Ch O O (fun _ _=>O) (fun K hK=>Dc (y:=(false:Bool)) (e:=rB) (st:=1) (j:=1) hI O O O Cn Gm O O hl12.1 hl12.2.1 hl12.2.2 O O O O O fun v13 g13 vH12=>hK _ _ (Ad O (Aj (Ag (c:=0) (off:=5) (i:=5) As O Av O)) (Ad O (Aj (Ag (c:=0) (off:=0) (i:=0) Bc O As O)) (Ad O (Ar O) (Ad O Ab (Y O (Ad O Ab (Ad O Ab (Ad O Ab At)))))))) ?_)
   clear hK K
   refine Bi O (fun _ _=>O) (fun K hK=>A3 (A6 (v:=(.I 0)) hI O O O O Av O O O O O) (hK _ _ (Y O (Y O (Y O (Ad O Ab (Y O (Ad O Ab (Ad O Ab (Y O At)))))))) ?_))
   clear hK K
   refine Z (.q ids 0 g) O O (Ar O)<|Z (.q ids 0 g) O O (Aj (Ag (c:=0) (off:=0) (i:=0) Bc O As O))<|Z (.ptr (ix ids 0) g 0 7) O O (Aj (Ag (c:=0) (off:=7) (i:=7) As O Cn O))<|Bi O (fun _ _=>O) (fun K hK=>A3 (B8 vH12 hI O O O O Cn O O O) (hK _ _ (Y O (Y O (Y O (Y O (Y O (Y O (Ad O Ab (Y O (Ad O Ab (Y O (Y O At))))))))))) ?_))
   clear hK K
   refine Ch O O (fun _ _=>O) (fun K hK=>Dc (y:=(0:Int)) (e:=(rI .i64)) (st:=1) (j:=2) hI O O O Bt Av O O hl13.1 hl13.2.1 hl13.2.2 O O O O O fun v14 g14 vH13=>hK _ _ (Y O (Y O (Y O (Y O (Y O (Y O (Y O (Y O (Ad O Ab (Y O (Y O At))))))))))) ?_)
   clear hK K
   refine Z (.q ids 0 g) O O (Ar O)<|Z (.q ids 0 g) O O (Aj (Ag (c:=0) (off:=0) (i:=0) Bc O As O))<|Z (.ptr (ix ids 0) g 0 8) O O (Aj (Ag (c:=0) (off:=8) (i:=8) As O Bt O))<|Bi O (fun _ _=>O) (fun K hK=>A3 (B8 vH13 hI O O O O Bt O O O) (hK _ _ (Y O (Y O (Y O (Y O (Y O (Y O (Y O (Y O (Y O (Y O (Y O (Y O (Y O (Y O At)))))))))))))) ?_))
   clear hK K
   refine Bb<|Az ?_
   exact Bk (hJ ((List.replicate (Int.toNat n) false),(List.replicate (Int.toNat n) (0:Int))) _ _ ⟨v13,g13,v14,g14,vH12,vH13,O,O⟩)
  refine Fp<|Cb fun hl14=>Cb fun hl15=>Z (.q ids 0 g) O O Ab<|Z (.q ids 0 g) O O Ab<|Z (.q ids 0 g) O O Ab<|Z (.I n) O O Ab ?_
  refine Z (.I n) O O Ab<|Z (.q ids 0 g) O O (Ar O)<|Z (.q ids 0 g) O O (Aj (Ag (c:=0) (off:=0) (i:=0) Bc O As O))<|Z (.ptr (ix ids 0) g 0 5) O O (Aj (Ag (c:=0) (off:=5) (i:=5) As O Av O))<|Bi O (fun _ _=>O) (fun K hK=>A3 (A6 (v:=(.I 0)) hI O O O O Av O O O O O) (hK _ _ (Y O (Y O (Y O (Ad O Ab (Ad O Ab (Ad O Ab (Ad O Ab (Y O At)))))))) ?_))
  clear hK K
  refine Ch O O (fun _ _=>O) (fun K hK=>Dc (y:=(false:Bool)) (e:=rB) (st:=1) (j:=1) hI O O O Cn Gm O O hl14.1 hl14.2.1 hl14.2.2 O O O O O fun v15 g15 vH14=>hK _ _ (Y O (Y O (Y O (Ad O Ab (Y O (Ad O Ab (Ad O Ab (Y O At)))))))) ?_)
  clear hK K
  refine Z (.q ids 0 g) O O (Ar O)<|Z (.q ids 0 g) O O (Aj (Ag (c:=0) (off:=0) (i:=0) Bc O As O))<|Z (.ptr (ix ids 0) g 0 7) O O (Aj (Ag (c:=0) (off:=7) (i:=7) As O Cn O))<|Bi O (fun _ _=>O) (fun K hK=>A3 (B8 vH14 hI O O O O Cn O O O) (hK _ _ (Y O (Y O (Y O (Y O (Y O (Y O (Ad O Ab (Y O (Ad O Ab (Y O (Y O At))))))))))) ?_))
  clear hK K
  refine Ch O O (fun _ _=>O) (fun K hK=>Dc (y:=(0:Int)) (e:=(rI .i64)) (st:=1) (j:=2) hI O O O Bt Av O O hl15.1 hl15.2.1 hl15.2.2 O O O O O fun v16 g16 vH15=>hK _ _ (Y O (Y O (Y O (Y O (Y O (Y O (Y O (Y O (Ad O Ab (Y O (Y O At))))))))))) ?_)
  clear hK K
  refine Z (.q ids 0 g) O O (Ar O)<|Z (.q ids 0 g) O O (Aj (Ag (c:=0) (off:=0) (i:=0) Bc O As O))<|Z (.ptr (ix ids 0) g 0 8) O O (Aj (Ag (c:=0) (off:=8) (i:=8) As O Bt O))<|Bi O (fun _ _=>O) (fun K hK=>A3 (B8 vH15 hI O O O O Bt O O O) (hK _ _ (Y O (Y O (Y O (Y O (Y O (Y O (Y O (Y O (Y O (Y O (Y O (Y O (Y O (Y O At)))))))))))))) ?_))
  clear hK K
  refine Bb<|Az ?_
  exact Bk (hJ ((List.replicate (Int.toNat n) false),(List.replicate (Int.toNat n) (0:Int))) _ _ ⟨v15,g15,v16,g16,vH14,vH15,O,O⟩)
 refine Cp O (fun hc=>?_) (fun hc=>?_)
 ·refine Aa<|Al 6 [0] [(2,(.I s_ReplicaMany))] ?_
  refine Af<|Bk (hJ1 s_ReplicaMany _ _ ⟨O,O⟩)
 refine Bd<|Bk (hJ1 0 _ _ ⟨O,O⟩)
theorem Ps (id:Int)(many:Int):CP Tryz.prog 6 [(.int .i64 id),(.int .i64 many)] (It id many) (fun(p:(Replica×Int))=>AV.tup [(.agg (Ap p.1)),(.int .i64 p.2)]):=by
 refine C7 (n:=28) 4 Tryz.func6 O (by decide) O O fun h0 ids hI=>B0 (Ax (It.eq_1 _ _) ?_)
 refine Ac<|Aa<|B9 (j:=0) hI O O O O As O fun g=>Ae (.I 0) O Au<|Af<|Az ?_
 refine Ac<|Ac<|Aa<|Ae (.I many) O Ab<|Be [(.I many),(.I 1),(.I 5)] O O O O ((Db many 1 5) _) (fun v _=>Bh Tryz.func6 hI) fun r _=>Al 2 [] [(10,(.bool (!r)))] ?_
 refine Dj 6 ((fun(b:Bool)=>if b then(.ok (({ ID:=0,Many:=0,Term:=0,Vote:=0,Log:=[],Role:=0,Commit:=0,Votes:=[],Match:=[] }:Replica),470)) else((Lc id many 0 (-1) 0 0).bind fun _=>(H2 id many 0 (-1) 0 0).bind fun r2=>.ok (({ ID:=id,Many:=many,Term:=0,Vote:=(-1),Log:=[],Role:=0,Commit:=0,Votes:=r2.1,Match:=r2.2 }:Replica),0))):Bool→R (Replica×Int)) (fun(b:Bool) (fr:Nat→AV) (h:Ai)=>fr=A0 [(0,(.I id)),(1,(.I many)),(4,(.q ids 0 g)),(16,(.bool b))]∧h=hp h0 ids [(some (.rows g 9 [[(.I 0),(.I 0),(.I 0),(.I 0),.emp,(.I 0),(.I 0),.emp,.emp]])),none,none,none]) ?_ fun hJ=>Dw (fun hb1=>?_) (fun hb1=>?_)
 ·rintro b fr h ⟨rfl,rfl⟩
  refine Af<|Cp O (fun hc=>?_) (fun hc=>?_)
  ·refine Ac<|Aa<|Al 1 [0] [(17,(.agg [(.I 0),(.I 0),(.I 0),(.I 0),.emp,(.I 0),(.I 0),.emp,.emp]))] ?_
   refine A4 (A6 (v:=(.agg [(.I 0),(.I 0),(.I 0),(.I 0),.emp,(.I 0),(.I 0),.emp,.emp])) hI O O O O As O O O O O)<|Ae (.I 470) O Au<|Af<|B3 (a:=(({ ID:=0,Many:=0,Term:=0,Vote:=0,Log:=[],Role:=0,Commit:=0,Votes:=[],Match:=[] }:Replica),470)) (vs:=[(.agg [(.I 0),(.I 0),(.I 0),(.I 0),.emp,(.I 0),(.I 0),.emp,.emp]),(.I 470)]) Tryz.func6 hI (By (Aq hI O O O As O) (Cz Cd)) (.tupL (.cons (.aggL (.cons (.same _) (.cons (.same _) (.cons (.same _) (.cons (.same _) (.cons (.emp _) (.cons (.same _) (.cons (.same _) (.cons (.emp _) (.cons (.emp _) .nil)))))))))) (.cons (.same _) .nil)))
  refine Bd<|Ac<|Aa<|Al 3 [] [(20,(.agg [(.I id),(.I many),(.I 0),(.I (-1)),.emp,(.I 0),(.I 0),.emp,.emp]))] ?_
  refine Ck [1] hI O O (Y1 id many 0 (-1) 0 0 _ (ix ids 1) (by exact hI.sub' O O)) O O O O O O (fun v _=>Bh Tryz.func6 hI) ?_
  rintro _ _ _ _ ⟨g1,rfl,rfl⟩
  refine Dz [1] hI O O O ?_
  refine C1<|Ae (.q ids 1 g1) O Au<|Af<|Az ?_
  refine Ac<|Aa<|Ae (.q ids 1 g1) O Ab<|Ck [1,2,3] hI O O (Ut id many 0 (-1) 0 0 _ (ix ids 1) (ix ids 2) (ix ids 3) .emp .emp .emp .emp g1 (by exact hI.sub' O O)) O O O O O O (fun v _=>Bh Tryz.func6 hI) ?_
  rintro r2 _ _ _ ⟨v,g2,v1,g3,vH,vH1,rfl,rfl⟩
  refine Dz [1,2,3] hI O O O ?_
  refine C1<|Af<|Az ?_
  refine Ac<|Aa<|Al 4 [1] [(27,(.agg [(.I id),(.I many),(.I 0),(.I (-1)),.emp,(.I 0),(.I 0),v,v1]))] ?_
  refine A4 (A6 (v:=(.agg [(.I id),(.I many),(.I 0),(.I (-1)),.emp,(.I 0),(.I 0),v,v1])) hI O O O O As O O O O (Ao O (Ao O (Ao O (Ao O (Ao O (Ao O (Ao O (Ao (A9.flat vH) (Ao (A9.flat vH1) Do))))))))))<|Ae (.I 0) O Au<|Af<|Az ?_
  exact B3 (a:=(({ ID:=id,Many:=many,Term:=0,Vote:=(-1),Log:=[],Role:=0,Commit:=0,Votes:=r2.1,Match:=r2.2 }:Replica),0)) (vs:=[(.agg [(.I id),(.I many),(.I 0),(.I (-1)),.emp,(.I 0),(.I 0),v,v1]),(.I 0)]) Tryz.func6 hI (By (Aq hI O O O As O) (Cz Cd)) (.tupL (.cons (.aggL (.cons (.same _) (.cons (.same _) (.cons (.same _) (.cons (.same _) (.cons (.emp _) (.cons (.same _) (.cons (.same _) (.cons (Dd vH (hI.at O O) (hI.out O) (fun x=>Qf x)) (.cons (Dd vH1 (hI.at O O) (hI.out O) (fun x=>Ih x)) .nil)))))))))) (.cons (.same _) .nil)))
 ·refine A8 (t:=10) hb1 O<|Al 6 [] [(16,(.bool true))] ?_
  refine Bj<|Cc [(0,(.I id)),(1,(.I many)),(4,(.q ids 0 g)),(16,(.bool true))] (FI O)<|hJ true _ _ ⟨O,O⟩
 refine A8 (t:=10) hb1 O<|Al 3 [] [(13,(.I (IntKind.wrap .i64 (many - 1)))),(11,(.I id))] ?_
 refine Be [(.I id),(.I 0),(.I (IntKind.wrap .i64 (many - 1)))] O (Cu (tj:=10) O O) O O ((Db id 0 (IntKind.wrap .i64 (many - 1))) _) (fun v _=>Bh Tryz.func6 hI) fun r1 _=>Al 2 [] [(16,(.bool (!r1)))] ?_
 refine Bj<|Cc [(0,(.I id)),(1,(.I many)),(4,(.q ids 0 g)),(16,(.bool (!r1)))] (FI O)<|hJ (!r1) _ _ ⟨O,O⟩
theorem D5 (ok:Bool)(e:Int):CP Tryz.prog 46 [(.bool ok),(.int .i64 e)] (Bg ok e) (fun(_:Unit)=>AV.tup []):=by
 refine C7 (n:=9) 0 Tryz.func46 O (by decide) O O fun h0 ids hI=>B0 (Ax (Bg.eq_1 _ _) ?_)
 refine Ac<|Aa<|Al 2 [] [(5,(.bool (!ok)))] ?_
 refine Af<|Mq O (fun hc=>?_) (fun hc=>?_)
 ·refine Bd<|Ad5 (a:=()) (vs:=[]) Tryz.func46 hI O (.tupL .nil)
 refine Aa<|Al 3 [] [(8,(.iface 99 (.agg [(.I e)])))] ?_
 exact Aeu (v:=⟨99,.one .i64 e⟩) O O (Bh Tryz.func46 hI)
theorem U3 (l:List Record)(term:Int):CP Tryz.prog 47 [(.sl 2 (List.map Ah l)),(.int .i64 term)] (Gi l term) (fun(x:Bool)=>(AV.bool x)):=by
 refine C7 (n:=35) 1 Tryz.func47 O (by decide) O O fun h0 ids hI=>B0 (Ax (Gi.eq_1 _ _) ?_)
 refine Ac<|Aa<|Ae (.bool false) O Au<|Af<|Ac<|Ac<|Aa ?_
 refine Ae (.sl 2 (List.map Ah l)) O Ab<|Ae (.I (l.length:Int)) O (Bm (Bo Ba))<|Ae (.I 0) O Ab<|Af<|Bn<|Ft [(0,(.sl 2 (List.map Ah l))),(1,(.I term)),(7,(.sl 2 (List.map Ah l))),(8,(.I (l.length:Int))),(9,(.I 0))] (FI O)<|Mn (P:=Tryz.prog) l (fun j a=>fun _=>Jt l term j a) ((F4 (fun _=>.ok true) (fun r=>.ok r)):(Unit ⊕ Bool)→R Bool) (fun j=>fun _=>fun(fr:Nat→AV) (h:Ai)=>fr=A0 [(0,(.sl 2 (List.map Ah l))),(1,(.I term)),(7,(.sl 2 (List.map Ah l))),(8,(.I (l.length:Int))),(9,(.I (j:Int)))]∧h=hp h0 ids [none]) () ?_ ?_ ?_
 ·exact⟨O,O⟩
 ·rintro j a ha W hW _ fr h ⟨rfl,rfl⟩
  refine Ax (m':=Jt l term j a) O (Ax (Jt.eq_1 _ _ _ _) ?_)
  refine Ac<|Aa<|Ae (.bool (decide ((j:Int)<(l.length:Int)))) O (Bf O O O)<|Af<|Ac<|K4 (t:=0) (L:=l) O fun hlim=>Hv O (Int.ofNat_lt.2 (B5 ha)) ?_
  refine Bd<|Ac<|Bn<|Ac<|Aa<|Ae (.I (j:Int)) O Ab<|Ae (.cp (Ah a) 0) O (Bu (Kv Ba C2 O ha)) ?_
  refine Ae (.agg (Ah a)) O (An (Eh C2 O))<|B9 (j:=0) hI O O O O C2 O fun g=>Ae (.I (j:Int)) O Au<|A4 (A6 (v:=(.agg (Ah a))) hI O O O O C2 O O O O O)<|Af<|Az ?_
  refine Ac<|Dn (fun x1=>Hl x1) (fun x1=>fun(fr:Nat→AV) (h:Ai)=>fr=A0 [(0,(.sl 2 (List.map Ah l))),(1,(.I term)),(7,(.sl 2 (List.map Ah l))),(8,(.I (l.length:Int))),(9,(.I (j:Int))),(33,(.bool x1))]∧h=hp h0 ids [none]) ?_ fun hJ=>?_
  ·rintro x1 fr h ⟨rfl,rfl⟩
   refine Ax (Hl.eq_1 _)<|Cp O (fun hc=>?_) (fun hc=>?_)
   ·refine Ac<|Aa<|Ae (.bool false) O Au<|Af<|Oy<|Mb<|B3 (a:=false) (vs:=[(.bool false)]) Tryz.func47 hI O (.same _)
   refine Bd<|Bp<|Aa<|Al 2 [] [(9,(.I (IntKind.wrap .i64 ((j:Int)+1))))] ?_
   refine Af<|Bk (Ou (hW () _ _ ⟨O,O⟩)) (.cons O (.cons O (.cons O (.cons O (.cons (H8 (B5 ha) hlim) .nil)))))
  refine B4 Da [[],[0],[],[0,1,2],[0,1,2,3],[0,1,2,3,4],[0,1,2,3,4,5],[0,1,2,3,4,5,6],[0,1,2,3,4,5,6,7],[0,1,2,3,4,5,6,7,8],[0,1,2,3,4,5,6,7,8],[0,1,2,3,4,5,6,7,8,10],[0,1,2,3,4,5,6,7,8,9,10,11],[0,1,2,3,4,5,6,7,8,9,10,11,12],[0,1,2,3,4,5,6,7,8,9,10,11,12,13],[0,1,2,3,4,5,6,7,8],[0,1,2,3,4,5,6,7,8,15],[0,1,2,3,4,5,6,7,8,9,10,11,12,13,14,15,16],[0,1,2,3,4,5,6,7,8,9,10,11,12,13,14,15,16,17],[0,1,2,3,4,5,6,7,8,9,10,11,12,13,14,15,16,17,18]] [(false,0),(false,1),(false,2),(true,3),(false,4),(false,5),(false,6),(false,7),(false,8),(false,9),(false,10),(false,11),(false,12),(false,13),(false,14),(false,15),(false,16),(false,17),(false,18),(false,19)] (by kernel_rfl)<|Z (.q ids 0 g) O O (Aj (Ag (c:=0) (off:=0) (i:=0) C2 O Av O))<|Z (.I a.Term) O O (An (Aq hI O O O Av O))<|Z (.I term) O O Ab<|Dy [(.I a.Term),(.I 1),(.I term)] O O O O O ((Db a.Term 1 term) _) (fun v _ _ _=>Bh Tryz.func47 hI) (Y O (Y O (Y O At))) fun r _=>Z (.bool (!r)) O O (P3 O)<|Z (.bool (!r)) O O Ab ?_
  refine Ge (fun hb=>?_) (fun hb=>?_)
  ·refine A2 (tj:=19) (b:=true) O O (congrArg AV.bool hb) O O<|A2 (tj:=19) (b:=true) O O (congrArg AV.bool hb) O O<|A2 (tj:=19) (b:=true) O O (congrArg AV.bool hb) O O<|Cf (tj:=22) O O O O<|Cf (tj:=22) O O O O<|Cf (tj:=22) O O O O<|Cf (tj:=22) O O O O ?_
   refine Cf (tj:=22) O O O O<|Cf (tj:=22) O O O O<|Cf (tj:=22) O O O O<|Cf (tj:=22) O O O O<|Cf (tj:=22) O O O O<|A2 (tj:=19) (b:=true) O O (congrArg AV.bool hb) O O<|Z (.bool true) O O (Bw (t:=true) (congrArg AV.bool hb) O) ?_
   refine Bb<|Ex [none] hI O (.drop .nil)<|Bk (hJ true _ _ ⟨O,O⟩)
  refine Ay (tj:=19) (.I (j:Int)) O O (congrArg AV.bool hb) O Ab<|Ay (tj:=19) (.bool (decide ((j:Int) > 0))) O O (congrArg AV.bool hb) O (Bf O O O)<|Ay (tj:=19) (.bool (decide ((j:Int) > 0))) O O (congrArg AV.bool hb) O Ab<|Ge (fun hb1=>?_) (fun hb1=>?_)
  ·refine Ay (tj:=22) (.sl 2 (List.map Ah l)) O O (congrArg AV.bool hb1) O Ab<|Ay (tj:=22) (.I (j:Int)) O O (congrArg AV.bool hb1) O Ab<|Ay (tj:=22) (.I (IntKind.wrap .i64 ((j:Int) - 1))) O O (congrArg AV.bool hb1) O (Bf O O O)<|G0 fun a1 hz hx1=>Ay (tj:=22) (.cp (Ah a1) 0) O O (congrArg AV.bool hb1) O (Bu (E6 Ba C2 O hz hx1))<|Ay (tj:=22) (.cp (Ah a1) 0) O O (congrArg AV.bool hb1) O (Aj (N7 (c:=0) (off:=0) (i:=0) C2 O Av O))<|Ay (tj:=22) (.I a1.Term) O O (congrArg AV.bool hb1) O (An (Eh Av O)) ?_
   refine Ay (tj:=22) (.q ids 0 g) O O (congrArg AV.bool hb1) O (Aj (Ag (c:=0) (off:=0) (i:=0) C2 O Av O))<|Ay (tj:=22) (.I a.Term) O O (congrArg AV.bool hb1) O (An (Aq hI O O O Av O))<|Ay (tj:=22) (.bool (decide (a1.Term > a.Term))) O O (congrArg AV.bool hb1) O (Bf O O O)<|Ay (tj:=19) (.bool (decide (a1.Term > a.Term))) O O (congrArg AV.bool hb) O (Bw (t:=true) (congrArg AV.bool hb1) O)<|Z (.bool (decide (a1.Term > a.Term))) O O (Bw (t:=false) (congrArg AV.bool hb) O)<|Bb<|Ex [none] hI O (.drop .nil) ?_
   exact Bk (hJ (decide (a1.Term > a.Term)) _ _ ⟨O,O⟩)
  refine A2 (tj:=22) (b:=false) O O (congrArg AV.bool hb1) O O<|A2 (tj:=22) (b:=false) O O (congrArg AV.bool hb1) O O<|A2 (tj:=22) (b:=false) O O (congrArg AV.bool hb1) O O<|A2 (tj:=22) (b:=false) O O (congrArg AV.bool hb1) O O<|A2 (tj:=22) (b:=false) O O (congrArg AV.bool hb1) O O<|A2 (tj:=22) (b:=false) O O (congrArg AV.bool hb1) O O<|A2 (tj:=22) (b:=false) O O (congrArg AV.bool hb1) O O ?_
  refine A2 (tj:=22) (b:=false) O O (congrArg AV.bool hb1) O O<|A2 (tj:=22) (b:=false) O O (congrArg AV.bool hb1) O O<|Ay (tj:=19) (.bool false) O O (congrArg AV.bool hb) O (Bw (t:=false) (congrArg AV.bool hb1) O)<|Z (.bool false) O O (Bw (t:=false) (congrArg AV.bool hb) O)<|Bb<|Ex [none] hI O (.drop .nil)<|Bk (hJ false _ _ ⟨O,O⟩)
 rintro _ fr h ⟨rfl,rfl⟩
 refine Ax (Ov _ _ _)<|Ac<|Aa<|Ae (.bool (decide ((l.length:Int)<(l.length:Int)))) O (Bf O O O)<|Af<|Ac<|Hu O (Int.lt_irrefl _) ?_
 refine Ea O<|Ac<|Aa<|Ae (.bool true) O Au<|Af<|B3 (a:=true) (vs:=[(.bool true)]) Tryz.func47 hI O (.same _)
theorem Qg (w:AV):CP Tryz.prog 45 [.nili,w] (I8) (fun(_:Unit)=>AV.tup []):=by
 refine C7 (n:=17) 0 Tryz.func45 O (by decide) O O fun h0 ids hI=>B0 (Ax (I8.eq_1) ?_)
 refine Ac<|Aa<|Ae .nili O Ab<|Af<|Bn<|Ac<|Aa ?_
 refine Ae (.bool true) O (Bf O O (Alw Agw))<|Af<|Nc true O<|Aa<|Ae .nili O Au<|Af<|Bp ?_
 exact Ad5 (a:=()) (vs:=[]) Tryz.func45 hI O (.tupL .nil)
theorem Wl (a0:AV)(h:Ai):J1 Tryz.prog 44 [a0] .ret h (R2 (fun _:Unit=>h) .ret (.ok ())):=by
 refine Pb (n:=3) Tryz.func44 O (by decide) O O ?_ ⟨(),O⟩
 refine B0 (Ax (m':=(I8).bind fun _ =>   .ok ()) O ?_)
 refine Aa<|Ys O<|Be [.nili,a0] O O O O ((Qg a0) _) (fun v hv=>by unfold I8 at hv; cases hv) fun _ _=>?_
 refine Af<|Rb Tryz.func44 O O O
theorem O3 (p:T98)(h0:Ai)(o0:Nat)(r:List AV)(g:Nat)(hr:r.length=1)(hI0:Ids h0 [o0] 1):Ey p≠.bad→Bv Tryz.prog 45 [(.iface 99 (.agg (Adm p))),(.ptr o0 g 0 0)] (hp h0 [o0] [some (.rows g 1 [r])]) (Ei (fun a_ v h'=>v=(.tup [])∧h'=hp h0 [o0] [some (.rows g 1 [[(.int .i64 p.fE)]])]) h0 (Ey p)):=by
 refine Cm (n:=17) 1 Tryz.func45 O (by decide) O O hI0 O fun ids he hI=>?_
 clear hI0
 obtain rfl:ix ids 0=o0:=he 0 rfl
 clear he
 refine B0 (Ax (Ey.eq_1 _) ?_)
 refine Az ?_
 refine Ac<|Aa<|Ae (.iface 99 (.agg (Adm p))) O Ab<|Af<|Bn<|Ac<|Aa ?_
 refine Ae (.bool false) O (Bf O O (Akz Agw))<|Af<|Nc false O<|Ac<|Aa<|Ae (.tup [(.agg (Adm p)),(.bool true)]) O (Ag2 (Ali Ajt (by decide)))<|Al 2 [] [(12,(.agg (Adm p))),(11,(.bool true))] ?_
 refine Af<|Nc true O<|Ac<|Aa<|B9 (j:=1) hI O O O O Ajt O fun g1=>A4 (A6 (v:=(.agg (Adm p))) hI O O O O Ajt O O O O O)<|Af ?_
 refine Az ?_
 refine Aa<|Al 4 [1] [(16,(.q ids 0 g)),(15,(.I p.fE))] ?_
 refine A4 (Yw (v:=(.I p.fE)) hI O O O Hi O O O hr O)<|Af<|Az ?_
 refine Bp<|Fi (K:=1) (N:=1) (a:=()) (vs:=[]) [some (.rows g 1 [[(.I p.fE)]])] Tryz.func45 hI O O O (.keep (.drop .nil)) (.same _) ⟨O,O⟩
theorem T5 (n:Int)(h0:Ai)(ids:List Nat)(hI:Ids h0 ids 1)(g0_:Nat)(r0_:List AV)(hr0_:r0_.length=1):(∃ a,F2 n=.ok a)→J1 Tryz.prog 44 [(.ptr (ix ids 0) g0_ 0 0)] (.pan (.iface 99 (.agg [.int .i64 n])) false) (hp h0 ids [some (.rows g0_ 1 [r0_])]) (R2 (fun p=>hp h0 ids [some (.rows g0_ 1 [[(.int .i64 p)]])]) (.pan (.iface 99 (.agg [.int .i64 n])) true) (F2 n)):=by
 refine Pb (n:=3) Tryz.func44 O (by decide) O O<|B0 (Ax (F2.eq_1 _) ?_)
 refine Aa<|Yu O<|Ck [0] hI O O (O3 ({ fE:=n }:T98) _ (ix ids 0) r0_ g0_ hr0_ (by exact hI.sub' O O)) O O O O O O (fun v hv=>by unfold Ey at hv; cases hv) ?_
 rintro _ _ _ _ ⟨rfl,rfl⟩
 refine Dz [0] hI O O O ?_
 refine C1<|Af<|Az ?_
 exact Rb (a:=(({ fE:=n }:T98).fE)) Tryz.func44 O O O
theorem J8 (r:Replica):CP Tryz.prog 14 [(.agg (Ap r))] (C5 r) (fun(x:Int)=>(AV.int .i64 x)):=by
 show CP _ _ _ ((Jo r).catch' (H9 99 .i64 (fun n=>(F2 n).bind fun p=>.ok p) (fun _=>.bad))) _
 refine U4 (n:=121) 2 Tryz.func14 O (by decide) O O fun h0 ids hI=>?_
 have hU : ∀ (v:PV) (fr:Nat→AV) (xs:List (Option AO)) (g0_:Nat) (r0_:List AV) (hl_:xs.length=2) (hr0_:r0_.length=1) (hy_:xs.take 1=[some (.rows g0_ 1 [r0_])]) (hq2_:fr 2=.q ids 0 g0_),WU Tryz.prog 14 121 false (Od (fun(x:Int)=>(AV.I x)) h0 (H9 99 .i64 (fun n=>(F2 n).bind fun p=>.ok p) (fun _=>.bad))) (.pan v) (.pan v.av false) fr [⟨44,[.q ids 0 g0_]⟩] (hp h0 ids xs) .ret:=by
  intro v fr xs g0_ r0_ hl_ hr0_ hy_ hq2_
  refine Agh (t:=99) (k1:=.i64) O (fun n hv=>?_) (fun hne99=>?_)
  ·subst hv
   exact Wv (Hc:=F2 n) (fin:=fun p=>p) (c:=1) (cells:=fun p=>[some (.rows g0_ 1 [[(.I p)]])]) (vs:=fun p=>[(.I p)]) Tryz.func14 hI hl_ O hy_ (by first | (rw [Q4]; done) | (rw [Q4]; rfl)) (fun hx=>by have:=T5 n h0 (ids.take 1) (hI.take O) g0_ r0_ hr0_ hx; simp only [L3 (c:=1) (j:=0) O] at this; exact this) (by intro w; simp [F2,Ey]) (fun p=>(Oi hq2_ (R4 (hI.take O) (L3 O) O O O Hi O) Cd)) (fun p=>(.same _))
  exact Ac6 (by rw [X6 hne99])
 refine B0 (Ax (Jo.eq_1 _) ?_)
 refine Ac<|Aa<|Cy (v:=(.agg (Ap r))) (j:=1) hI O O O O O O O fun g=>B9 (j:=0) hI O O O O Hi O fun g1=>Af<|Az ?_
 refine Ac<|Aa<|Ae (.func (.func 44) [] [(.q ids 0 g1)]) O Yr<|Ww O O O ?_
 refine Af<|Ac<|Aa<|Al 2 [1] [(7,(.I r.Many))] ?_
 refine Be [(.I r.Many),(.I 1),(.I 5)] O O O O ((Db r.Many 1 5) _) (fun v _=>hU v _ _ _ _ O O O O) fun r1 _=>Ae (.bool r1) O Ab<|Dj 7 ((fun(b:Bool)=>(if b then(Bs r.Term 0 1048576).bind fun r3=>R.ok r3 else R.ok false).bind (fun(b1:Bool)=>(if b1 then(Bs r.Vote (-1) (IntKind.wrap .i64 (r.Many - 1))).bind fun r4=>R.ok r4 else R.ok false).bind (fun(b2:Bool)=>(Bg b2 470).bind fun _=>(Gi r.Log r.Term).bind fun r6=>(if r6 then(Bs r.Role 0 2).bind fun r7=>R.ok r7 else R.ok false).bind (fun(b3:Bool)=>(if b3 then(Bs r.Commit 0 (r.Log.length:Int)).bind fun r8=>R.ok r8 else R.ok false).bind (fun(b4:Bool)=>(Bg ((b4&&((r.Votes.length:Int)==r.Many))&&((r.Match.length:Int)==r.Many)) 470).bind fun _=>(Fs (fun j a=>fun _=>E0 r j a) 0 r.Match ()).bind ((fun _=>(if(r.Role==0) then R.ok true else(if((r.Vote==r.ID)&&(decide (r.Term≥1))) then(C3 r.Votes r.ID).bind fun a2=>R.ok a2 else R.ok false).bind (fun(b8:Bool)=>R.ok b8)).bind (fun(b7:Bool)=>(Bg b7 470).bind fun _=>.ok 0)))))))):Bool→R Int) (fun(b:Bool) (fr:Nat→AV) (h:Ai)=>fr=A0 [(1,(.q ids 1 g)),(2,(.q ids 0 g1)),(16,(.bool b))]∧h=hp h0 ids [(some (.rows g1 1 [[(.I 0)]])),(some (.rows g 9 [(Ap r)]))]) ?_ fun hJ=>Dw (fun hb1=>?_) (fun hb1=>?_)
 ·rintro b fr h ⟨rfl,rfl⟩
  refine Ae (.bool b) O Ab<|Dj 4 ((fun(b1:Bool)=>(if b1 then(Bs r.Vote (-1) (IntKind.wrap .i64 (r.Many - 1))).bind fun r4=>R.ok r4 else R.ok false).bind (fun(b2:Bool)=>(Bg b2 470).bind fun _=>(Gi r.Log r.Term).bind fun r6=>(if r6 then(Bs r.Role 0 2).bind fun r7=>R.ok r7 else R.ok false).bind (fun(b3:Bool)=>(if b3 then(Bs r.Commit 0 (r.Log.length:Int)).bind fun r8=>R.ok r8 else R.ok false).bind (fun(b4:Bool)=>(Bg ((b4&&((r.Votes.length:Int)==r.Many))&&((r.Match.length:Int)==r.Many)) 470).bind fun _=>(Fs (fun j a=>fun _=>E0 r j a) 0 r.Match ()).bind ((fun _=>(if(r.Role==0) then R.ok true else(if((r.Vote==r.ID)&&(decide (r.Term≥1))) then(C3 r.Votes r.ID).bind fun a2=>R.ok a2 else R.ok false).bind (fun(b8:Bool)=>R.ok b8)).bind (fun(b7:Bool)=>(Bg b7 470).bind fun _=>.ok 0))))))):Bool→R Int) (fun(b1:Bool) (fr:Nat→AV) (h:Ai)=>fr=A0 [(1,(.q ids 1 g)),(2,(.q ids 0 g1)),(21,(.bool b1))]∧h=hp h0 ids [(some (.rows g1 1 [[(.I 0)]])),(some (.rows g 9 [(Ap r)]))]) ?_ fun hJ1=>Dw (fun hb3=>?_) (fun hb3=>?_)
  ·rintro b1 fr h ⟨rfl,rfl⟩
   refine Ae (.bool b1) O Ab<|Dj 7 ((fun(b2:Bool)=>(Bg b2 470).bind fun _=>(Gi r.Log r.Term).bind fun r6=>(if r6 then(Bs r.Role 0 2).bind fun r7=>R.ok r7 else R.ok false).bind (fun(b3:Bool)=>(if b3 then(Bs r.Commit 0 (r.Log.length:Int)).bind fun r8=>R.ok r8 else R.ok false).bind (fun(b4:Bool)=>(Bg ((b4&&((r.Votes.length:Int)==r.Many))&&((r.Match.length:Int)==r.Many)) 470).bind fun _=>(Fs (fun j a=>fun _=>E0 r j a) 0 r.Match ()).bind ((fun _=>(if(r.Role==0) then R.ok true else(if((r.Vote==r.ID)&&(decide (r.Term≥1))) then(C3 r.Votes r.ID).bind fun a2=>R.ok a2 else R.ok false).bind (fun(b8:Bool)=>R.ok b8)).bind (fun(b7:Bool)=>(Bg b7 470).bind fun _=>.ok 0)))))):Bool→R Int) (fun(b2:Bool) (fr:Nat→AV) (h:Ai)=>fr=A0 [(1,(.q ids 1 g)),(2,(.q ids 0 g1)),(29,(.bool b2))]∧h=hp h0 ids [(some (.rows g1 1 [[(.I 0)]])),(some (.rows g 9 [(Ap r)]))]) ?_ fun hJ2=>Dw (fun hb5=>?_) (fun hb5=>?_)
   ·rintro b2 fr h ⟨rfl,rfl⟩
    refine Be [(.bool b2),(.I 470)] O O O O ((D5 b2 470) _) (fun v _=>hU v _ _ _ _ O O O O) fun _ _=>Af<|Ac<|Aa<|Al 4 [1,1] [(34,(.I r.Term)),(32,(.sl 2 (List.map Ah r.Log)))] ?_
    refine Be [(.sl 2 (List.map Ah r.Log)),(.I r.Term)] O O O O ((U3 r.Log r.Term) _) (fun v _=>hU v _ _ _ _ O O O O) fun r6 _=>Ae (.bool r6) O Ab<|Dj 4 ((fun(b3:Bool)=>(if b3 then(Bs r.Commit 0 (r.Log.length:Int)).bind fun r8=>R.ok r8 else R.ok false).bind (fun(b4:Bool)=>(Bg ((b4&&((r.Votes.length:Int)==r.Many))&&((r.Match.length:Int)==r.Many)) 470).bind fun _=>(Fs (fun j a=>fun _=>E0 r j a) 0 r.Match ()).bind ((fun _=>(if(r.Role==0) then R.ok true else(if((r.Vote==r.ID)&&(decide (r.Term≥1))) then(C3 r.Votes r.ID).bind fun a2=>R.ok a2 else R.ok false).bind (fun(b8:Bool)=>R.ok b8)).bind (fun(b7:Bool)=>(Bg b7 470).bind fun _=>.ok 0))))):Bool→R Int) (fun(b3:Bool) (fr:Nat→AV) (h:Ai)=>fr=A0 [(1,(.q ids 1 g)),(2,(.q ids 0 g1)),(40,(.bool b3))]∧h=hp h0 ids [(some (.rows g1 1 [[(.I 0)]])),(some (.rows g 9 [(Ap r)]))]) ?_ fun hJ3=>Dw (fun hb7=>?_) (fun hb7=>?_)
    ·rintro b3 fr h ⟨rfl,rfl⟩
     refine Ae (.bool b3) O Ab<|Dj 7 ((fun(b4:Bool)=>(Bg ((b4&&((r.Votes.length:Int)==r.Many))&&((r.Match.length:Int)==r.Many)) 470).bind fun _=>(Fs (fun j a=>fun _=>E0 r j a) 0 r.Match ()).bind ((fun _=>(if(r.Role==0) then R.ok true else(if((r.Vote==r.ID)&&(decide (r.Term≥1))) then(C3 r.Votes r.ID).bind fun a2=>R.ok a2 else R.ok false).bind (fun(b8:Bool)=>R.ok b8)).bind (fun(b7:Bool)=>(Bg b7 470).bind fun _=>.ok 0)))):Bool→R Int) (fun(b4:Bool) (fr:Nat→AV) (h:Ai)=>fr=A0 [(1,(.q ids 1 g)),(2,(.q ids 0 g1)),(48,(.bool b4))]∧h=hp h0 ids [(some (.rows g1 1 [[(.I 0)]])),(some (.rows g 9 [(Ap r)]))]) ?_ fun hJ4=>Dw (fun hb9=>?_) (fun hb9=>?_)
     ·rintro b4 fr h ⟨rfl,rfl⟩
      refine Ae (.bool b4) O Ab<|B7 7 [(1,(.q ids 1 g)),(2,(.q ids 0 g1)),(56,(.bool (b4&&((r.Votes.length:Int)==r.Many))))] ?_ fun hJ5=>Bz b4 (fun hb11=>?_) (fun hb11=>?_)
      ·refine Ae (.bool (b4&&((r.Votes.length:Int)==r.Many))) O Ab<|B7 7 [(1,(.q ids 1 g)),(2,(.q ids 0 g1)),(64,(.bool ((b4&&((r.Votes.length:Int)==r.Many))&&((r.Match.length:Int)==r.Many))))] ?_ fun hJ6=>Bz (b4&&((r.Votes.length:Int)==r.Many)) (fun hb13=>?_) (fun hb13=>?_)
       ·refine Be [(.bool ((b4&&((r.Votes.length:Int)==r.Many))&&((r.Match.length:Int)==r.Many))),(.I 470)] O O O O ((D5 ((b4&&((r.Votes.length:Int)==r.Many))&&((r.Match.length:Int)==r.Many)) 470) _) (fun v _=>hU v _ _ _ _ O O O O) fun _ _=>Af<|Ac<|Ac<|Aa<|Al 2 [1] [(67,(.sl 1 (List.map (rI .i64) r.Match)))] ?_
        refine Ae (.I (r.Match.length:Int)) O (Bm (Bo Bt))<|Ae (.I 0) O Ab<|Af<|Bn<|Ft [(1,(.q ids 1 g)),(2,(.q ids 0 g1)),(67,(.sl 1 (List.map (rI .i64) r.Match))),(68,(.I (r.Match.length:Int))),(69,(.I 0))] (FI O)<|Pi (P:=Tryz.prog) r.Match (fun j a=>fun _=>E0 r j a) (((fun _=>(if(r.Role==0) then R.ok true else(if((r.Vote==r.ID)&&(decide (r.Term≥1))) then(C3 r.Votes r.ID).bind fun a2=>R.ok a2 else R.ok false).bind (fun(b8:Bool)=>R.ok b8)).bind (fun(b7:Bool)=>(Bg b7 470).bind fun _=>.ok 0))):Unit→R Int) (fun j=>fun _=>fun(fr:Nat→AV) (h:Ai)=>fr=A0 [(1,(.q ids 1 g)),(2,(.q ids 0 g1)),(67,(.sl 1 (List.map (rI .i64) r.Match))),(68,(.I (r.Match.length:Int))),(69,(.I (j:Int)))]∧h=hp h0 ids [(some (.rows g1 1 [[(.I 0)]])),(some (.rows g 9 [(Ap r)]))]) () ?_ ?_ ?_
        ·exact⟨O,O⟩
        ·rintro j a ha W hW _ fr h ⟨rfl,rfl⟩
         refine Ax (m':=E0 r j a) O (Ax (E0.eq_1 _ _ _) ?_)
         refine Ac<|Aa<|Ae (.bool (decide ((j:Int)<(r.Match.length:Int)))) O (Bf O O O)<|Af<|Ac<|K4 (t:=67) (L:=r.Match) O fun hlim=>Hv O (Int.ofNat_lt.2 (B5 ha)) ?_
         refine Bd<|Ac<|Bn<|Ac<|Aa<|Ae (.I (j:Int)) O Ab<|Ae (.cp [(.I a)] 0) O (Bu (Kv Bt Av O ha)) ?_
         refine Al 3 [] [(4,(.I a)),(3,(.I (j:Int)))] ?_
         refine Af<|Ac<|Aa<|Al 3 [1] [(76,(.sl 2 (List.map Ah r.Log))),(74,(.I a))] ?_
         refine Ae (.I (r.Log.length:Int)) O (Bm (Bo Ba))<|Be [(.I a),(.I 0),(.I (r.Log.length:Int))] O O O O ((Db a 0 (r.Log.length:Int)) _) (fun v _=>hU v _ _ _ _ O O O O) fun r10 _=>Be [(.bool r10),(.I 470)] O O O O ((D5 r10 470) _) (fun v _=>hU v _ _ _ _ O O O O) fun _ _=>Af<|Aa<|Al 4 [1] [(83,(.bool (r.Role != 0)))] ?_
         refine Dj 11 ((fun(b5:Bool)=>(Bg b5 470).bind fun _=>.ok ()):Bool→R Unit) (fun(b5:Bool) (fr:Nat→AV) (h:Ai)=>fr=A0 [(1,(.q ids 1 g)),(2,(.q ids 0 g1)),(67,(.sl 1 (List.map (rI .i64) r.Match))),(68,(.I (r.Match.length:Int))),(69,(.I (j:Int))),(94,(.bool b5))]∧h=hp h0 ids [(some (.rows g1 1 [[(.I 0)]])),(some (.rows g 9 [(Ap r)]))]) ?_ fun hJ7=>Dw (fun hb15=>?_) (fun hb15=>?_)
         ·rintro b5 fr h ⟨rfl,rfl⟩
          refine Be [(.bool b5),(.I 470)] O O O O ((D5 b5 470) _) (fun v _=>hU v _ _ _ _ O O O O) fun _ _=>Af<|Bp<|Aa<|Al 2 [] [(69,(.I (IntKind.wrap .i64 ((j:Int)+1))))] ?_
          refine Af<|Bk (S7 (hW () _ _ ⟨O,O⟩)) (.cons O (.cons O (.cons O (.cons O (.cons (H8 (B5 ha) hlim) .nil)))))
         ·refine A8 (t:=83) hb15 O<|Al 11 [] [(94,(.bool true)),(93,.und),(92,.und),(91,.und),(90,.und),(89,.und),(88,.und),(87,.und),(86,.und),(85,.und),(84,.und)] ?_
          refine Bj<|Cc [(1,(.q ids 1 g)),(2,(.q ids 0 g1)),(67,(.sl 1 (List.map (rI .i64) r.Match))),(68,(.I (r.Match.length:Int))),(69,(.I (j:Int))),(94,(.bool true))] (FI O)<|hJ7 true _ _ ⟨O,O⟩
         refine A8 (t:=83) hb15 O<|Al 3 [] [(86,(.bool (a==0))),(85,(.bool (a==0))),(84,(.I a))] ?_
         refine Dj 7 ((fun(b6:Bool)=>R.ok b6):Bool→R Bool) (fun(b6:Bool) (fr:Nat→AV) (h:Ai)=>fr=A0 [(1,(.q ids 1 g)),(2,(.q ids 0 g1)),(67,(.sl 1 (List.map (rI .i64) r.Match))),(68,(.I (r.Match.length:Int))),(69,(.I (j:Int))),(83,(.bool false)),(84,(.I a)),(85,(.bool (a==0))),(86,(.bool (a==0))),(93,(.bool b6))]∧h=hp h0 ids [(some (.rows g1 1 [[(.I 0)]])),(some (.rows g 9 [(Ap r)]))]) ?_ fun hJ8=>Dw (fun hb17=>?_) (fun hb17=>?_)
         ·rintro b6 fr h ⟨rfl,rfl⟩
          refine Ae (.bool b6) O (Bw (t:=false) O O)<|Bj<|Cc [(1,(.q ids 1 g)),(2,(.q ids 0 g1)),(67,(.sl 1 (List.map (rI .i64) r.Match))),(68,(.I (r.Match.length:Int))),(69,(.I (j:Int))),(94,(.bool b6))] (FI O)<|hJ7 b6 _ _ ⟨O,O⟩
         ·refine A8 (t:=86) hb17 O<|Al 3 [1] [(89,(.I (j:Int))),(88,(.sl 1 (List.map rB r.Votes))),(87,(.ptr (ix ids 1) g 0 7))] ?_
          refine Gy fun a1 hz hx1=>Cg (tj:=86) (.cp [(.bool a1)] 0) O O O (Bu (E6 Cn Gm O hz hx1))<|Al 3 [] [(93,(.bool (!a1))),(92,(.bool (!a1))),(91,(.bool a1))] ?_
          refine Bj<|Cc [(1,(.q ids 1 g)),(2,(.q ids 0 g1)),(67,(.sl 1 (List.map (rI .i64) r.Match))),(68,(.I (r.Match.length:Int))),(69,(.I (j:Int))),(83,(.bool false)),(84,(.I a)),(85,(.bool (a==0))),(86,(.bool (a==0))),(93,(.bool (!a1)))] (.cons O (.cons O (.cons O (.cons O (.cons O (.cons O (.cons O (.cons O (.cons (congrArg AV.bool hb17.symm) (FI O))))))))))<|hJ8 (!a1) _ _ ⟨O,O⟩
         refine A8 (t:=86) hb17 O<|Al 7 [] [(93,(.bool false)),(92,.und),(91,.und),(90,.und),(89,.und),(88,.und),(87,.und)] ?_
         refine Bj<|Cc [(1,(.q ids 1 g)),(2,(.q ids 0 g1)),(67,(.sl 1 (List.map (rI .i64) r.Match))),(68,(.I (r.Match.length:Int))),(69,(.I (j:Int))),(83,(.bool false)),(84,(.I a)),(85,(.bool (a==0))),(86,(.bool (a==0))),(93,(.bool false))] (.cons O (.cons O (.cons O (.cons O (.cons O (.cons O (.cons O (.cons O (.cons (congrArg AV.bool hb17.symm) (FI O))))))))))<|hJ8 false _ _ ⟨O,O⟩
        rintro _ fr h ⟨rfl,rfl⟩
        refine Ac<|Aa<|Ae (.bool (decide ((r.Match.length:Int)<(r.Match.length:Int)))) O (Bf O O O)<|Af<|Ac<|Hu O (Int.lt_irrefl _)<|Ea O ?_
        refine Ac<|Aa<|Al 4 [1] [(100,(.bool (r.Role==0)))] ?_
        refine Dj 19 ((fun(b7:Bool)=>(Bg b7 470).bind fun _=>.ok 0):Bool→R Int) (fun(b7:Bool) (fr:Nat→AV) (h:Ai)=>fr=A0 [(2,(.q ids 0 g1)),(119,(.bool b7))]∧h=hp h0 ids [(some (.rows g1 1 [[(.I 0)]])),(some (.rows g 9 [(Ap r)]))]) ?_ fun hJ9=>Dw (fun hb19=>?_) (fun hb19=>?_)
        ·rintro b7 fr h ⟨rfl,rfl⟩
         refine Be [(.bool b7),(.I 470)] O O O O ((D5 b7 470) _) (fun v _=>hU v _ _ _ _ O O O O) fun _ _=>Af<|Ac<|Aa<|A4 (A6 (v:=(.I 0)) hI O O O O Hi O O O O O)<|Af<|Py (a:=0) (vs:=[(.I 0)]) Tryz.func14 hI (Wl _ _) (By (Aq hI O O O Hi O) Cd) (.same _)
        ·refine A8 (t:=100) hb19 O<|Al 19 [] [(119,(.bool true))] ?_
         refine Bj<|Cc [(2,(.q ids 0 g1)),(119,(.bool true))] (FI O)<|hJ9 true _ _ ⟨O,O⟩
        refine A8 (t:=100) hb19 O<|Al 6 [1,1] [(106,(.bool (r.Vote==r.ID)))] ?_
        refine B7 4 [(1,(.q ids 1 g)),(2,(.q ids 0 g1)),(100,(.bool false)),(110,(.bool ((r.Vote==r.ID)&&(decide (r.Term≥1)))))] ?_ fun hJ10=>Bz (r.Vote==r.ID) (fun hb21=>?_) (fun hb21=>?_)
        ·refine Cg (tj:=100) (.bool ((r.Vote==r.ID)&&(decide (r.Term≥1)))) O O O Ab<|Dj 7 ((fun(b8:Bool)=>R.ok b8):Bool→R Bool) (fun(b8:Bool) (fr:Nat→AV) (h:Ai)=>fr=A0 [(2,(.q ids 0 g1)),(100,(.bool false)),(118,(.bool b8))]∧h=hp h0 ids [(some (.rows g1 1 [[(.I 0)]])),(some (.rows g 9 [(Ap r)]))]) ?_ fun hJ11=>Dw (fun hb23=>?_) (fun hb23=>?_)
         ·rintro b8 fr h ⟨rfl,rfl⟩
          refine Ae (.bool b8) O (Bw (t:=false) O O)<|Bj<|Cc [(2,(.q ids 0 g1)),(119,(.bool b8))] (FI O)<|hJ9 b8 _ _ ⟨O,O⟩
         ·refine A8 (t:=111) hb23 O<|Al 4 [1,1] [(115,(.I r.ID)),(113,(.sl 1 (List.map rB r.Votes)))] ?_
          refine Gy fun a2 hz1 hx2=>Cg (tj:=111) (.cp [(.bool a2)] 0) O O O (Bu (E6 Cn Gm O hz1 hx2))<|Al 2 [] [(118,(.bool a2))] ?_
          refine Bj<|Cc [(2,(.q ids 0 g1)),(100,(.bool false)),(118,(.bool a2))] (FI O)<|hJ11 a2 _ _ ⟨O,O⟩
         refine A8 (t:=111) hb23 O<|Al 7 [] [(118,(.bool false))] ?_
         refine Bj<|Cc [(2,(.q ids 0 g1)),(100,(.bool false)),(118,(.bool false))] (FI O)<|hJ11 false _ _ ⟨O,O⟩
        ·refine A8 (t:=106) hb21 O<|Al 4 [1] [(110,(.bool (decide (r.Term≥1))))] ?_
         exact Bl hJ10 (.cons O (.cons O (.cons O (.cons (G1 hb21) .nil))))
        refine A8 (t:=106) hb21 O<|Al 4 [] [(110,(.bool false))] ?_
        exact Bl hJ10 (.cons O (.cons O (.cons O (.cons (G2 hb21) .nil))))
       ·refine A8 (t:=57) hb13 O<|Al 2 [1] [(59,(.sl 1 (List.map (rI .i64) r.Match)))] ?_
        refine Cg (tj:=57) (.I (r.Match.length:Int)) O O O (Bm (Bo Bt))<|Al 4 [1] [(64,(.bool ((r.Match.length:Int)==r.Many)))] ?_
        exact Bl hJ6 (.cons O (.cons O (.cons (G1 hb13) .nil)))
       refine A8 (t:=57) hb13 O<|Al 7 [] [(64,(.bool false))] ?_
       exact Bl hJ6 (.cons O (.cons O (.cons (G2 hb13) .nil)))
      ·refine A8 (t:=49) hb11 O<|Al 2 [1] [(51,(.sl 1 (List.map rB r.Votes)))] ?_
       refine Cg (tj:=49) (.I (r.Votes.length:Int)) O O O (Bm (Bo Cn))<|Al 4 [1] [(56,(.bool ((r.Votes.length:Int)==r.Many)))] ?_
       exact Bl hJ5 (.cons O (.cons O (.cons (G1 hb11) .nil)))
      refine A8 (t:=49) hb11 O<|Al 7 [] [(56,(.bool false))] ?_
      exact Bl hJ5 (.cons O (.cons O (.cons (G2 hb11) .nil)))
     ·refine A8 (t:=41) hb9 O<|Al 4 [1,1] [(45,(.sl 2 (List.map Ah r.Log))),(43,(.I r.Commit))] ?_
      refine Cg (tj:=41) (.I (r.Log.length:Int)) O O O (Bm (Bo Ba))<|Be [(.I r.Commit),(.I 0),(.I (r.Log.length:Int))] O (Cu (tj:=41) O O) O O ((Db r.Commit 0 (r.Log.length:Int)) _) (fun v _=>hU v _ _ _ _ O O O O) fun r8 _=>Ae (.bool r8) O (Bw (t:=true) O O)<|Bj<|Cc [(1,(.q ids 1 g)),(2,(.q ids 0 g1)),(48,(.bool r8))] (FI O)<|hJ4 r8 _ _ ⟨O,O⟩
     refine A8 (t:=41) hb9 O<|Al 7 [] [(48,(.bool false))] ?_
     refine Bj<|Cc [(1,(.q ids 1 g)),(2,(.q ids 0 g1)),(48,(.bool false))] (FI O)<|hJ4 false _ _ ⟨O,O⟩
    ·refine A8 (t:=36) hb7 O<|Al 2 [1] [(38,(.I r.Role))] ?_
     refine Be [(.I r.Role),(.I 0),(.I 2)] O (Cu (tj:=36) O O) O O ((Db r.Role 0 2) _) (fun v _=>hU v _ _ _ _ O O O O) fun r7 _=>Ae (.bool r7) O (Bw (t:=true) O O)<|Bj<|Cc [(1,(.q ids 1 g)),(2,(.q ids 0 g1)),(40,(.bool r7))] (FI O)<|hJ3 r7 _ _ ⟨O,O⟩
    refine A8 (t:=36) hb7 O<|Al 4 [] [(40,(.bool false))] ?_
    refine Bj<|Cc [(1,(.q ids 1 g)),(2,(.q ids 0 g1)),(40,(.bool false))] (FI O)<|hJ3 false _ _ ⟨O,O⟩
   ·refine A8 (t:=22) hb5 O<|Al 5 [1,1] [(27,(.I (IntKind.wrap .i64 (r.Many - 1)))),(24,(.I r.Vote))] ?_
    refine Be [(.I r.Vote),(.I (-1)),(.I (IntKind.wrap .i64 (r.Many - 1)))] O (Cu (tj:=22) O O) O O ((Db r.Vote (-1) (IntKind.wrap .i64 (r.Many - 1))) _) (fun v _=>hU v _ _ _ _ O O O O) fun r4 _=>Ae (.bool r4) O (Bw (t:=true) O O)<|Bj<|Cc [(1,(.q ids 1 g)),(2,(.q ids 0 g1)),(29,(.bool r4))] (FI O)<|hJ2 r4 _ _ ⟨O,O⟩
   refine A8 (t:=22) hb5 O<|Al 7 [] [(29,(.bool false))] ?_
   refine Bj<|Cc [(1,(.q ids 1 g)),(2,(.q ids 0 g1)),(29,(.bool false))] (FI O)<|hJ2 false _ _ ⟨O,O⟩
  ·refine A8 (t:=17) hb3 O<|Al 2 [1] [(19,(.I r.Term))] ?_
   refine Be [(.I r.Term),(.I 0),(.I 1048576)] O (Cu (tj:=17) O O) O O ((Db r.Term 0 1048576) _) (fun v _=>hU v _ _ _ _ O O O O) fun r3 _=>Ae (.bool r3) O (Bw (t:=true) O O)<|Bj<|Cc [(1,(.q ids 1 g)),(2,(.q ids 0 g1)),(21,(.bool r3))] (FI O)<|hJ1 r3 _ _ ⟨O,O⟩
  refine A8 (t:=17) hb3 O<|Al 4 [] [(21,(.bool false))] ?_
  refine Bj<|Cc [(1,(.q ids 1 g)),(2,(.q ids 0 g1)),(21,(.bool false))] (FI O)<|hJ1 false _ _ ⟨O,O⟩
 ·refine A8 (t:=9) hb1 O<|Al 5 [1,1] [(14,(.I (IntKind.wrap .i64 (r.Many - 1)))),(11,(.I r.ID))] ?_
  refine Be [(.I r.ID),(.I 0),(.I (IntKind.wrap .i64 (r.Many - 1)))] O (Cu (tj:=9) O O) O O ((Db r.ID 0 (IntKind.wrap .i64 (r.Many - 1))) _) (fun v _=>hU v _ _ _ _ O O O O) fun r2 _=>Ae (.bool r2) O (Bw (t:=true) O O)<|Bj<|Cc [(1,(.q ids 1 g)),(2,(.q ids 0 g1)),(16,(.bool r2))] (FI O)<|hJ r2 _ _ ⟨O,O⟩
 refine A8 (t:=9) hb1 O<|Al 7 [] [(16,(.bool false))] ?_
 refine Bj<|Cc [(1,(.q ids 1 g)),(2,(.q ids 0 g1)),(16,(.bool false))] (FI O)<|hJ false _ _ ⟨O,O⟩
theorem My (r:Replica)(h0:Ai)(o0:Nat)(hI0:Ids h0 [o0] 1):Dx r≠.bad→Bv Tryz.prog 26 [(.agg (Ap r))] (hp h0 [o0] [none]) (Ei (fun a_ v h' => ∃ (g2:Nat),v=(.ptr o0 g2 0 0)∧h'=hp h0 [o0] [some (.rows g2 10 [[(.int .i64 r.ID),(.int .i64 r.Many),(.int .i64 r.Term),(.int .i64 r.Vote),(.sl 2 (List.map Ah r.Log)),(.int .i64 r.Role),(.int .i64 r.Commit),(.sl 1 (List.map rB r.Votes)),(.sl 1 (List.map (rI .i64) r.Match)),.emp]])]) h0 (Dx r)):=by
 refine Cm (n:=6) 1 Tryz.func26 O (by decide) O O hI0 O fun ids he hI=>?_
 clear hI0
 obtain rfl:ix ids 0=o0:=he 0 rfl
 clear he
 refine B0 (Ax (Dx.eq_1 _) ?_)
 refine Az ?_
 refine Ac<|Aa<|Cy (v:=(.agg (Ap r))) (j:=1) hI O O O O O O O fun g=>Ae .nilp O Au<|Af<|Az ?_
 refine Ac<|Aa<|Al 2 [1] [(4,(.agg [(.I r.ID),(.I r.Many),(.I r.Term),(.I r.Vote),(.sl 2 (List.map Ah r.Log)),(.I r.Role),(.I r.Commit),(.sl 1 (List.map rB r.Votes)),(.sl 1 (List.map (rI .i64) r.Match)),.emp]))] ?_
 refine Cy (v:=(.agg [(.I r.ID),(.I r.Many),(.I r.Term),(.I r.Vote),(.sl 2 (List.map Ah r.Log)),(.I r.Role),(.I r.Commit),(.sl 1 (List.map rB r.Votes)),(.sl 1 (List.map (rI .i64) r.Match)),.emp])) (j:=0) hI O O O O O O O fun g1=>Ae (.q ids 0 g1) O Au<|Af<|Az ?_
 exact En (K:=1) (N:=1) (a:=()) (vs:=[(.q ids 0 g1)]) [some (.rows g1 10 [[(.I r.ID),(.I r.Many),(.I r.Term),(.I r.Vote),(.sl 2 (List.map Ah r.Log)),(.I r.Role),(.I r.Commit),(.sl 1 (List.map rB r.Votes)),(.sl 1 (List.map (rI .i64) r.Match)),.emp]])] Tryz.func26 hI O O O (.keep (.drop .nil)) (.same _) ⟨g1,O,O⟩
theorem Qb (s:List Record):CPO Tryz.prog 36 [(.sl 2 (List.map Ah s))] (J3 s) 2 Ah:=by
 refine Rc (n:=8) 0 Tryz.func36 O (by decide) O O fun h0 ids hI=>Qt (J3.eq_1 _)<|Ac<|Aa<|Ae .emp O Au<|Af<|Ac ?_
 refine Ac<|Aa<|Ae (.sl 2 (List.map Ah s)) O Ab<|Abk (L:=s) O Ba O fun c hc=>Af ?_
 by_cases hl:s.length * 32≤B2
 case neg=>rw [if_neg hl]; exact Adi
 rw [if_pos hl]
 refine Nc c O ?_
 cases c with
 | true=>
  have hs:=hc rfl
  subst hs
  refine Ac<|Aa<|Ae .emp O Au<|Af<|Pv (a:=[]) (v:=.emp) (g:=0) Tryz.func36 hI O O .nil O
 | false=>
  refine Bd<|Ac<|Aa<|Ug O Ba C2<|Ae (.sl 2 (List.map Ah s)) O Ab<|Kh (e:=Ah) (L:=[]) (L2:=s) (v:=.emp) (g:=0) (st:=2) (j:=0) hI O O O O .nil O (Fe O) Ba Ba O C2 O O O (by simpa using hl) fun v g H=>Ae v O Au ?_
  refine Af<|Pv (a:=s) (v:=v) (g:=g) Tryz.func36 hI O O H O
theorem Rw (s:List Int):CPO Tryz.prog 37 [(.sl 1 (List.map (rI .i64) s))] (Iy s) 1 (rI .i64):=by
 refine Rc (n:=8) 0 Tryz.func37 O (by decide) O O fun h0 ids hI=>Qt (Iy.eq_1 _)<|Ac<|Aa<|Ae .emp O Au<|Af<|Ac ?_
 refine Ac<|Aa<|Ae (.sl 1 (List.map (rI .i64) s)) O Ab<|Abk (L:=s) O Bt O fun c hc=>Af ?_
 by_cases hl:s.length * 8≤B2
 case neg=>rw [if_neg hl]; exact Adi
 rw [if_pos hl]
 refine Nc c O ?_
 cases c with
 | true=>
  have hs:=hc rfl
  subst hs
  refine Ac<|Aa<|Ae .emp O Au<|Af<|Pv (a:=[]) (v:=.emp) (g:=0) Tryz.func37 hI O O .nil O
 | false=>
  refine Bd<|Ac<|Aa<|Ug O Bt Av<|Ae (.sl 1 (List.map (rI .i64) s)) O Ab<|Kh (e:=(rI .i64)) (L:=[]) (L2:=s) (v:=.emp) (g:=0) (st:=1) (j:=0) hI O O O O .nil O (Fe O) Bt Bt O Av O O O (by simpa using hl) fun v g H=>Ae v O Au ?_
  refine Af<|Pv (a:=s) (v:=v) (g:=g) Tryz.func37 hI O O H O
theorem Mv (l:List Int)(h0:Ai)(o0:Nat)(o1:Nat)(v1:AV)(g:Nat)(vH:A9 v1 o0 g l.length)(hI0:Ids h0 [o0,o1] 2):Ee l≠.bad→Bv Tryz.prog 63 [v1] (hp h0 [o0,o1] [A5 v1 g 1 (List.map (rI .i64) l),none]) (Ei (fun a_ v h' => ∃ (g2:Nat),v=(.func (.func 78) [] [(.ptr o1 g2 0 0)])∧h'=hp h0 [o0,o1] [A5 v1 g 1 (List.map (rI .i64) l),some (.rows g2 1 [[v1]])]) h0 (Ee l)):=by
 refine Cm (n:=4) 0 Tryz.func63 O (by decide) O O hI0 O fun ids he hI=>?_
 clear hI0
 obtain rfl:ix ids 0=o0:=he 0 rfl
 obtain rfl:ix ids 1=o1:=he 1 rfl
 clear he
 refine B0 (Ax (Ee.eq_1 _) ?_)
 refine Ac<|Aa<|Akt (j:=1) vH hI O O O O O fun g1=>Ae .nilf O Au<|Af<|Az ?_
 refine Ac<|Aa<|Al 2 [] [(2,(.func (.func 78) [] [(.q ids 1 g1)]))] ?_
 refine Af<|En (K:=2) (N:=0) (a:=()) (vs:=[(.func (.func 78) [] [(.q ids 1 g1)])]) [A5 v1 g 1 (List.map (rI .i64) l),some (.rows g1 1 [[v1]])] Tryz.func63 hI O O O (.keep (.keep .nil)) (.same _) ⟨g1,O,O⟩
theorem Uv {σ_:Type}(b:List Int)(b_:Int→σ_→R σ_)(St_:σ_→Ai→Prop)(y_:YF)(o_ g_:Nat)(hy_ : ∀ (a0_:Int),YOk Tryz.prog y_ o_ g_ [(.int .i64 a0_)] St_ (b_ a0_))(hnp_ : ∀ (a0_:Int) (s:σ_) (v:PV),b_ a0_ s≠.pan v)(s_:σ_)(hh_:Ai)(hs_:St_ s_ hh_):Js b b_ s_≠.bad→Bv Tryz.prog 78 [(.yld y_ o_ g_),(.cp [(.sl 1 (List.map (rI .i64) b))] 0)] hh_ (Zv St_ (Js b b_ s_)):=by
 refine Aet (n:=16) Tryz.func78 O (by decide) O O<|B0 (Ax (Js.eq_1 _ _ _) ?_)
 refine Ac<|Aa<|Ae (.sl 1 (List.map (rI .i64) b)) O (An (Eh Bt O))<|Ae (.I (b.length:Int)) O (Bm (Bo Bt))<|Ae (.I 0) O Ab<|Af<|Bn ?_
 refine Ft [(0,(.yld y_ o_ g_)),(5,(.sl 1 (List.map (rI .i64) b))),(6,(.I (b.length:Int))),(7,(.I 0))] (FI O)<|Pi (P:=Tryz.prog) b (fun _ a=>fun s=>Fm b_ a s) (((fun s=>.ok s)):σ_→R σ_) (fun j=>fun s=>fun(fr:Nat→AV) (h:Ai) => ∃ (hh:Ai),St_ s hh∧fr=A0 [(0,(.yld y_ o_ g_)),(5,(.sl 1 (List.map (rI .i64) b))),(6,(.I (b.length:Int))),(7,(.I (j:Int)))]∧hh=h) s_ ?_ ?_ ?_
 ·exact⟨_,hs_,O,O⟩
 ·rintro j a ha W hW s fr h ⟨hh,vHs,rfl,rfl⟩
  refine Ax (m':=Fm b_ a s) O (Ax (Fm.eq_1 _ _ _) ?_)
  refine Ac<|Aa<|Ae (.bool (decide ((j:Int)<(b.length:Int)))) O (Bf O O O)<|Af<|Ac<|K4 (t:=5) (L:=b) O fun hlim=>Hv O (Int.ofNat_lt.2 (B5 ha)) ?_
  refine Bd<|Ac<|Bn<|Ac<|Aa<|Ae (.cp [(.I a)] 0) O (Bu (Kv Bt Av O ha))<|Ae (.I a) O (An (Eh Av O)) ?_
  refine Ae (.I a) O Au<|Af<|Ac<|Aa<|Ae (.yld y_ o_ g_) O Ab<|Ae (.I a) O Ab<|Aiv (b:=b_ a) O O O vHs (hy_ a) (hnp_ a _) fun s1 hb hh1 vHs1=>?_
  refine Ae (.bool false) O (P3 O)<|Af<|Nc false O<|Bd<|Bp<|Aa<|Ae (.I (IntKind.wrap .i64 ((j:Int)+1))) O (Bf O O O) ?_
  refine Ae (.I (IntKind.wrap .i64 ((j:Int)+1))) O Ab<|Af<|Bk (S7 (hW s1 _ _ ⟨_,vHs1,O,O⟩)) (.cons O (.cons O (.cons O (.cons (H8 (B5 ha) hlim) .nil))))
 rintro s fr h ⟨hh,vHs,rfl,rfl⟩
 refine Ac<|Aa<|Ae (.bool (decide ((b.length:Int)<(b.length:Int)))) O (Bf O O O)<|Af<|Ac<|Hu O (Int.lt_irrefl _)<|Ea O ?_
 exact Af3 Tryz.func78 O vHs
theorem Yx (l:List Int)(h0:Ai)(o0:Nat)(v:AV)(g:Nat)(hv:A9 v o0 g l.length)(hI0:Ids h0 [o0] 1):Nu l≠.bad→Bv Tryz.prog 77 [v] (hp h0 [o0] [A5 v g 1 (l.map (rI .i64))]) (Ei (fun a_ v' h'=>v'=(.tup [])∧h'=hp h0 [o0] [A5 v g 1 ((D0 l).map (rI .i64))]) h0 (Nu l)):=
 Agf hI0 (.mk Tryz.func77 rfl (by decide)) hv Go.Proofs.Tryz.slices_Sort_int Go.Proofs.Tryz.slices_Sort_int_none
theorem R7 (s:List Int)(h0:Ai)(o0:Nat)(o1:Nat)(g:Nat)(hI0:Ids h0 [o0,o1] 2):Hk s≠.bad→Bv Tryz.prog 84 [.emp,(.func (.func 78) [] [(.ptr o0 g 0 0)])] (hp h0 [o0,o1] [some (.rows g 1 [[(.sl 1 (List.map (rI .i64) s))]]),none]) (Ei (fun a_ v h' => ∃ (v4:AV),∃ (g4:Nat),A9 v4 o1 g4 a_.length∧v4=v∧h'=hp h0 [o0,o1] [none,A5 v4 g4 1 (List.map (rI .i64) a_)]) h0 (Hk s)):=by
 refine Cm (n:=13) 2 Tryz.func84 O (by decide) O O hI0 O fun ids he hI=>?_
 clear hI0
 obtain rfl:ix ids 0=o0:=he 0 rfl
 obtain rfl:ix ids 1=o1:=he 1 rfl
 clear he
 refine B0 (Ax (Hk.eq_1 _) ?_)
 refine Az ?_
 refine Afs<|Ac<|Aa<|Cy (v:=.emp) (j:=2) hI O O O O O O O fun g1=>Ae .emp O Au<|Af<|Az ?_
 refine Ac<|Ac<|Aa<|Ae (.func (.func 78) [] [(.q ids 0 g)]) O Ab<|Af<|Bn<|Ah2 (h2:=hp h0 ids [none,none,(some (.rows g1 1 [[.emp]])),none]) [(2,(.q ids 2 g1)),(6,(.func (.func 78) [] [(.cp [(.sl 1 (List.map (rI .i64) s))] 0)]))] (Drops.sub (.drop (.keep (.keep (.keep .nil)))) hI.len) (.cons (.same _) (.cons (.funcL .nil (.cons (.ptrL (hI.at O O) (hI.at O O) O (Jb _)) .nil)) .nil)) O O ?_
 refine Ft [(2,(.q ids 2 g1)),(6,(.func (.func 78) [] [(.cp [(.sl 1 (List.map (rI .i64) s))] 0)]))] (FI O)<|Ad7 (P:=Tryz.prog) 3 (fun(gL:Nat) (r_L:Loop)=>fun l=>fun(h1:Ai) => ∃ (v1:AV),∃ (g2:Nat),A9 v1 (ix ids 1) g2 l.length∧h1=hp h0 ids [none,(A5 v1 g2 1 (List.map (rI .i64) l)),(some (.rows g1 1 [[v1]])),(some (.blk gL (.loop r_L)))]:Nat→Loop→(List Int)→Ai→Prop) O O hI O O O fun gL y_L r_L hl_L hy_L=>⟨?_,?_,?_,?_⟩
 ·refine Uv s _ _ _ _ _ (fun a=>Ahc hl_L (by decide) O hy_L ?_ ?_) (fun _ _ _=>R.np_ne _ _) _ _ ?_
  ·rintro l _ ⟨v1,g2,vH,rfl⟩
   exact hI.at O O
  ·rintro lo_ l _ ⟨v1,g2,vH,rfl⟩
   refine Al9 (B0 (Ax (m':=Fa a l) O (Ax (Fa.eq_1 _ _) ?_)))
   refine Aic [(7,(.I a)),(2,(.q ids 2 g1)),(6,(.func (.func 78) [] [(.cp [(.sl 1 (List.map (rI .i64) s))] 0)]))] (Yb _ _ _)<|Aa<|Ae (.I a) O Au<|Af<|V1 hI O O O hl_L.ready<|Az ?_
   refine Bn<|Aa<|Al 2 [2] [(9,(.I a)),(8,v1)] ?_
   refine Sf (e:=(rI .i64)) (L:=[a]) (st:=1) (rows:=[[(.I a)]]) O Bt Av O O O O O (.cons (RowSim.refl _) .nil) (fun x=>Ih x) O O<|G6 fun hl=>Kh (e:=(rI .i64)) (L:=l) (L2:=[a]) (v:=v1) (g:=g2) (st:=1) (j:=1) hI O O O O vH O (Fe O) Bt Bt O Av O O O hl fun v2 g3 vH1=>A4 (B8 vH1 hI O O O O Bt O O O)<|Af<|Az ?_
   refine Bp<|Ajq (s:=(l++[a])) (jL:=3) hI O O O ⟨v2,g3,vH1,O⟩
  exact⟨.emp,0,.nil,O⟩
 ·rintro l _ ⟨v1,g2,vH,rfl⟩
  exact hI.at O O
 ·rintro l _ _ ⟨v1,g2,vH,rfl⟩
  refine Ad4 [none,(A5 v1 g2 1 (List.map (rI .i64) l)),(some (.rows g1 1 [[v1]])),none] hI O O O<|Bp<|Ac<|Aa<|Al 2 [2] [(4,v1)] ?_
  refine Af<|Ab5 (R6 (Akl (K:=2) (N:=2) (a:=l) (vs:=[v1]) [none,A5 v1 g2 1 (List.map (rI .i64) l)] Tryz.func84 hI O O O (.keep (.keep (.drop (.keep .nil)))) (.same _) ⟨v1,g2,vH,O,O⟩))
 rintro v3 _ l _ ⟨v1,g2,vH,rfl⟩
 refine Ad0 [none,(A5 v1 g2 1 (List.map (rI .i64) l)),(some (.rows g1 1 [[v1]])),none] hI O O O<|R6 (Ca (K:=2) (N:=2) Tryz.func84 hI)
theorem Sz (s:List Int)(h0:Ai)(o0:Nat)(o1:Nat)(g:Nat)(hI0:Ids h0 [o0,o1] 2):Fo s≠.bad→Bv Tryz.prog 76 [(.func (.func 78) [] [(.ptr o0 g 0 0)])] (hp h0 [o0,o1] [some (.rows g 1 [[(.sl 1 (List.map (rI .i64) s))]]),none]) (Ei (fun a_ v h' => ∃ (v2:AV),∃ (g2:Nat),A9 v2 o1 g2 a_.length∧v2=v∧h'=hp h0 [o0,o1] [none,A5 v2 g2 1 (List.map (rI .i64) a_)]) h0 (Fo s)):=by
 refine Cm (n:=5) 0 Tryz.func76 O (by decide) O O hI0 O fun ids he hI=>?_
 clear hI0
 obtain rfl:ix ids 0=o0:=he 0 rfl
 obtain rfl:ix ids 1=o1:=he 1 rfl
 clear he
 refine B0 (Ax (Fo.eq_1 _) ?_)
 refine Ac<|Aa<|Ae .emp O Au<|Af<|Ac<|Aa<|Ae (.func (.func 78) [] [(.q ids 0 g)]) O Ab ?_
 refine Ck [0,1] hI O O (R7 s _ (ix ids 0) (ix ids 1) g (by exact hI.sub' O O)) O O O O O O (fun v _=>Ca (K:=2) (N:=0) Tryz.func76 hI) ?_
 rintro r _ _ _ ⟨v1,g1,vH,rfl,rfl⟩
 refine Dz [0,1] hI O O O ?_
 refine C1<|Ae v1 O Au<|Af<|Az ?_
 exact En (K:=2) (N:=0) (a:=r) (vs:=[v1]) [none,A5 v1 g1 1 (List.map (rI .i64) r)] Tryz.func76 hI O O O (.keep (.keep .nil)) (.same _) ⟨v1,g1,vH,O,O⟩
theorem La (s:List Int)(h0:Ai)(o0:Nat)(g:Nat)(hI0:Ids h0 [o0] 1):Dr s≠.bad→Bv Tryz.prog 62 [(.func (.func 78) [] [(.ptr o0 g 0 0)])] (hp h0 [o0] [some (.rows g 1 [[(.sl 1 (List.map (rI .i64) s))]])]) (Ei (fun a_ v h'=>v=(.sl 1 (List.map (rI .i64) a_))∧h'=hp h0 [o0] [none]) h0 (Dr s)):=by
 refine Cm (n:=9) 1 Tryz.func62 O (by decide) O O hI0 O fun ids he hI=>?_
 clear hI0
 obtain rfl:ix ids 0=o0:=he 0 rfl
 clear he
 refine B0 (Ax (Dr.eq_1 _) ?_)
 refine Az ?_
 refine Ac<|Aa<|Ae .emp O Au<|Af<|Ac<|Aa<|Ae (.func (.func 78) [] [(.q ids 0 g)]) O Ab ?_
 refine Ck [0,1] hI O O (Sz s _ (ix ids 0) (ix ids 1) g (by exact hI.sub' O O)) O O O O O O (fun v _=>Ca (K:=1) (N:=1) Tryz.func62 hI) ?_
 rintro s1 _ _ _ ⟨v1,g1,vH,rfl,rfl⟩
 refine Dz [0,1] hI O O O ?_
 refine C1<|Ae v1 O Au<|Af<|Az ?_
 refine Ac<|Aa<|Ae v1 O Ab<|Ck [1] hI O O (Yx s1 _ (ix ids 1) v1 g1 vH (by exact hI.sub' O O)) O O O O O O (fun v _=>Ca (K:=1) (N:=1) Tryz.func62 hI) ?_
 rintro _ _ _ _ ⟨rfl,rfl⟩
 refine Dz [1] hI O O O ?_
 refine C1<|Af<|Az ?_
 refine Ac<|Aa<|Al 2 [] [(2,v1)] ?_
 refine Af<|En (K:=1) (N:=1) (a:=(D0 s1)) (vs:=[v1]) [none] Tryz.func62 hI O O O (.keep (.drop .nil)) (Dd (A9.sort vH) (hI.at O O) (hI.at O O) (fun x=>Ih x)) ⟨O,O⟩
theorem Sw (s0_ReplicaID:Int)(s0_ReplicaMany:Int)(s0_ReplicaTerm:Int)(s0_ReplicaVote:Int)(s0_ReplicaRole:Int)(s0_ReplicaCommit:Int)(s0_ReplicaVotes:List Bool)(l:List Record)(l1:List Int)(h0:Ai)(o0:Nat)(o1:Nat)(o2:Nat)(g:Nat)(v1:AV)(g1:Nat)(v2:AV)(g2:Nat)(vH:A9 v1 o1 g1 l.length)(vH1:A9 v2 o2 g2 l1.length)(hI0:Ids h0 [o0,o1,o2] 3):E1 s0_ReplicaID s0_ReplicaMany s0_ReplicaTerm s0_ReplicaVote s0_ReplicaRole s0_ReplicaCommit s0_ReplicaVotes l l1≠.bad→Bv Tryz.prog 38 [(.ptr o0 g 0 0)] (hp h0 [o0,o1,o2] [some (.rows g 10 [[(.int .i64 s0_ReplicaID),(.int .i64 s0_ReplicaMany),(.int .i64 s0_ReplicaTerm),(.int .i64 s0_ReplicaVote),v1,(.int .i64 s0_ReplicaRole),(.int .i64 s0_ReplicaCommit),(.sl 1 (List.map rB s0_ReplicaVotes)),v2,.emp]]),A5 v1 g1 2 (List.map Ah l),A5 v2 g2 1 (List.map (rI .i64) l1)]) (Ei (fun a_ v h' => ∃ (v4:AV),∃ (g5:Nat),A9 v4 o1 g5 a_.2.length∧v=(.tup [])∧h'=hp h0 [o0,o1,o2] [some (.rows g 10 [[(.int .i64 s0_ReplicaID),(.int .i64 s0_ReplicaMany),(.int .i64 s0_ReplicaTerm),(.int .i64 s0_ReplicaVote),v4,(.int .i64 s0_ReplicaRole),(.int .i64 a_.1),(.sl 1 (List.map rB s0_ReplicaVotes)),(.sl 1 (List.map (rI .i64) l1)),.emp]]),A5 v4 g5 2 (List.map Ah a_.2),none]) h0 (E1 s0_ReplicaID s0_ReplicaMany s0_ReplicaTerm s0_ReplicaVote s0_ReplicaRole s0_ReplicaCommit s0_ReplicaVotes l l1)):=by
 refine Cm (n:=48) 1 Tryz.func38 O (by decide) O O hI0 O fun ids he hI=>?_
 clear hI0
 obtain rfl:ix ids 0=o0:=he 0 rfl
 obtain rfl:ix ids 1=o1:=he 1 rfl
 obtain rfl:ix ids 2=o2:=he 2 rfl
 clear he
 refine B0 (Ax (E1.eq_1 _ _ _ _ _ _ _ _ _) ?_)
 refine Az ?_
 refine Ac<|Aa<|Al 5 [0] [(8,v2)] ?_
 refine Ck [2,3] hI O O (Mv l1 _ (ix ids 2) (ix ids 3) v2 g2 vH1 (by exact hI.sub' O O)) O O O O O O (fun v _=>Ca (K:=3) (N:=1) Tryz.func38 hI) ?_
 rintro _ _ _ _ ⟨g3,rfl,rfl⟩
 refine Dz [2,3] hI O O O ?_
 refine C1<|Agb [(some (.rows g 10 [[(.I s0_ReplicaID),(.I s0_ReplicaMany),(.I s0_ReplicaTerm),(.I s0_ReplicaVote),v1,(.I s0_ReplicaRole),(.I s0_ReplicaCommit),(.sl 1 (List.map rB s0_ReplicaVotes)),(.sl 1 (List.map (rI .i64) l1)),.emp]])),(A5 v1 g1 2 (List.map Ah l)),none,(some (.rows g3 1 [[(.sl 1 (List.map (rI .i64) l1))]]))] [(0,(.q ids 0 g)),(9,(.func (.func 78) [] [(.q ids 3 g3)]))] hI O (.fz (.cons (.same _) (.cons (.same _) (.cons (.same _) (.cons (.same _) (.cons (.same _) (.cons (.same _) (.cons (.same _) (.cons (.same _) (.cons (Dd vH1 (hI.at O O) (hI.at O O) (fun x=>Ih x)) (.cons (.same _) .nil)))))))))) O (Ao O (Ao O (Ao O (Ao O (Ao (A9.flat vH) (Ao O (Ao O (Ao O (Ao O (Ao O Do)))))))))) (.keep (.drop (.fz (.cons (Dd vH1 (hI.at O O) (hI.at O O) (fun x=>Ih x)) .nil) O O .nil)))) (.cons (.same _) (.cons (.same _) .nil))<|Ck [3] hI O O (La l1 _ (ix ids 3) g3 (by exact hI.sub' O O)) O O O O O O (fun v _=>Ca (K:=3) (N:=1) Tryz.func38 hI) ?_
 rintro l2 _ _ _ ⟨rfl,rfl⟩
 refine Dz [3] hI O O O ?_
 refine C1<|Ae (.sl 1 (List.map (rI .i64) l2)) O Au<|Af<|Az ?_
 refine Ac<|Aa<|Al 2 [] [(12,(.sl 1 (List.map (rI .i64) l2))),(11,(.sl 1 (List.map (rI .i64) l2)))] ?_
 refine Ae (.I (l2.length:Int)) O (Bm (Bo Bt))<|Ae (.I (IntKind.wrap .i64 ((l2.length:Int) - 1))) O (Bf O O O)<|Ae (.I (IntKind.wrap .i64 (Int.tdiv (IntKind.wrap .i64 ((l2.length:Int) - 1)) 2))) O (Bf O O (Abo O (by decide)))<|Gy fun a hz hx1=>Ae (.cp [(.I a)] 0) O (Bu (E6 Bt Av O hz hx1))<|Al 2 [] [(3,(.I a))] ?_
 refine Af<|Ac<|Dn (D1 fun x l3=>D9 s0_ReplicaCommit a x l3) (D1 fun x l3=>fun(fr:Nat→AV) (h:Ai) => ∃ (v3:AV),∃ (g4:Nat),A9 v3 (ix ids 1) g4 l3.length∧fr=A0 [(0,(.q ids 0 g)),(3,(.I a)),(42,(.bool x))]∧h=hp h0 ids [(some (.rows g 10 [[(.I s0_ReplicaID),(.I s0_ReplicaMany),(.I s0_ReplicaTerm),(.I s0_ReplicaVote),v3,(.I s0_ReplicaRole),(.I s0_ReplicaCommit),(.sl 1 (List.map rB s0_ReplicaVotes)),(.sl 1 (List.map (rI .i64) l1)),.emp]])),(A5 v3 g4 2 (List.map Ah l3)),none,none]) ?_ fun hJ=>?_
 ·rintro⟨x,l3⟩ fr h ⟨v3,g4,vH2,rfl,rfl⟩
  refine Ax (D9.eq_1 _ _ _ _)<|Cp O (fun hc=>?_) (fun hc=>?_)
  ·refine Aa<|Al 5 [] [(47,(.ptr (ix ids 0) g 0 6)),(44,(.I a))] ?_
   refine A4 (A6 (v:=(.I a)) hI O O O O Av O O O O O)<|Af<|Az ?_
   exact Fi (K:=3) (N:=1) (a:=(a,l3)) (vs:=[]) [some (.rows g 10 [[(.I s0_ReplicaID),(.I s0_ReplicaMany),(.I s0_ReplicaTerm),(.I s0_ReplicaVote),v3,(.I s0_ReplicaRole),(.I a),(.sl 1 (List.map rB s0_ReplicaVotes)),(.sl 1 (List.map (rI .i64) l1)),.emp]]),A5 v3 g4 2 (List.map Ah l3),none] Tryz.func38 hI O O O (.keep (.keep (.keep (.keep .nil)))) (.same _) ⟨v3,g4,vH2,O,O⟩
  refine Bd<|Fi (K:=3) (N:=1) (a:=(s0_ReplicaCommit,l3)) (vs:=[]) [some (.rows g 10 [[(.I s0_ReplicaID),(.I s0_ReplicaMany),(.I s0_ReplicaTerm),(.I s0_ReplicaVote),v3,(.I s0_ReplicaRole),(.I s0_ReplicaCommit),(.sl 1 (List.map rB s0_ReplicaVotes)),(.sl 1 (List.map (rI .i64) l1)),.emp]]),A5 v3 g4 2 (List.map Ah l3),none] Tryz.func38 hI O O O (.keep (.keep (.keep (.keep .nil)))) (.same _) ⟨v3,g4,vH2,O,O⟩
 refine B4 Da [[],[],[1],[1,2],[1,2,3],[1,2,3,4],[0,1,2,3,4,5],[0,1,2,3,4,5,6],[0,1,2,3,4,5,6,7],[0,1,2,3,4,5,6,7,8],[0,1,2,3,4,5,6,7,8,9],[0,1,2,3,4,5,6,7,8,9,10],[0,1,2,3,4,5,6,7,8,9,10,11],[0,1,2,3,4,5,6,7],[0,1,2,3,4,5,6,7,13],[0,1,2,3,4,5,6,7,8,9,10,11,12,13,14],[0,1,2,3,4,5,6,7,8,9,10,11,12,13,14,15],[0,1,2,3,4,5,6,7,8,9,10,11,12,13,14,15,16],[0,1,2,3,4,5,6,7],[0,1,2,3,4,5,6,7,18],[0,1,2,3,4,5,6,7,18,19],[0,1,2,3,4,5,6,7,18,19,20],[0,1,2,3,4,5,6,7,18,19,20,21],[0,1,2,3,4,5,6,7,8,9,10,11,12,13,14,15,16,17,18,19,20,21,22],[0,1,2,3,4,5,6,7,8,9,10,11,12,13,14,15,16,17,18,19,20,21,22,23]] [(false,0),(false,1),(false,2),(false,3),(false,4),(false,5),(false,6),(false,7),(false,8),(false,9),(false,10),(false,11),(false,12),(false,13),(false,14),(false,15),(false,16),(false,17),(false,18),(false,19),(false,20),(false,21),(false,22),(false,23),(false,24)] (by kernel_rfl)<|Z (.I a) O O Ab<|Z (.q ids 0 g) O O Ab<|Z (.q ids 0 g) O O (Ar O)<|Z (.q ids 0 g) O O (Aj (Ag (c:=0) (off:=0) (i:=0) Bc O As O))<|Z (.ptr (ix ids 0) g 0 6) O O (Aj (Ag (c:=0) (off:=6) (i:=6) As O Av O))<|Z (.I s0_ReplicaCommit) O O (An (Aq hI O O O Av O)) ?_
 refine Z (.bool (decide (a > s0_ReplicaCommit))) O O (Bf O O O)<|Z (.bool (decide (a > s0_ReplicaCommit))) O O Ab<|Ge (fun hb=>?_) (fun hb=>?_)
 ·refine Ay (tj:=25) (.q ids 0 g) O O (congrArg AV.bool hb) O Ab<|Ay (tj:=25) (.q ids 0 g) O O (congrArg AV.bool hb) O (Ar O)<|Ay (tj:=25) (.q ids 0 g) O O (congrArg AV.bool hb) O (Aj (Ag (c:=0) (off:=0) (i:=0) Bc O As O))<|Ay (tj:=25) (.ptr (ix ids 0) g 0 4) O O (congrArg AV.bool hb) O (Aj (Ag (c:=0) (off:=4) (i:=4) As O Ba O))<|Ay (tj:=25) v1 O O (congrArg AV.bool hb) O (An (Aq hI O O O Ba O))<|Ay (tj:=25) (.I a) O O (congrArg AV.bool hb) O Ab<|Ay (tj:=25) (.I (IntKind.wrap .i64 (a - 1))) O O (congrArg AV.bool hb) O (Bf O O O) ?_
  refine G0 fun a1 hz1 hx2=>Ay (tj:=25) (.ptr (ix ids 1) g1 (IntKind.wrap .i64 (a - 1)).toNat 0) O O (congrArg AV.bool hb) O (Bu (J5 hI O vH O Ba C2 O hz1 hx2))<|Ay (tj:=25) (.ptr (ix ids 1) g1 (IntKind.wrap .i64 (a - 1)).toNat 0) O O (congrArg AV.bool hb) O (Aj (Ag (c:=0) (off:=0) (i:=0) C2 O Av O))<|Ay (tj:=25) (.I a1.Term) O O (congrArg AV.bool hb) O (An (We hI O vH O hx2 Av O))<|Ay (tj:=25) (.q ids 0 g) O O (congrArg AV.bool hb) O Ab<|Ay (tj:=25) (.q ids 0 g) O O (congrArg AV.bool hb) O (Ar O)<|Ay (tj:=25) (.q ids 0 g) O O (congrArg AV.bool hb) O (Aj (Ag (c:=0) (off:=0) (i:=0) Bc O As O)) ?_
  refine Ay (tj:=25) (.ptr (ix ids 0) g 0 2) O O (congrArg AV.bool hb) O (Aj (Ag (c:=0) (off:=2) (i:=2) As O Av O))<|Ay (tj:=25) (.I s0_ReplicaTerm) O O (congrArg AV.bool hb) O (An (Aq hI O O O Av O))<|Ay (tj:=25) (.bool (a1.Term==s0_ReplicaTerm)) O O (congrArg AV.bool hb) O (Bf O O O)<|Z (.bool (a1.Term==s0_ReplicaTerm)) O O (Bw (t:=true) (congrArg AV.bool hb) O)<|Bb<|Bk (hJ ((a1.Term==s0_ReplicaTerm),l) _ _ ⟨v1,g1,vH,O,O⟩)
 refine A2 (tj:=25) (b:=false) O O (congrArg AV.bool hb) O O<|A2 (tj:=25) (b:=false) O O (congrArg AV.bool hb) O O<|A2 (tj:=25) (b:=false) O O (congrArg AV.bool hb) O O<|A2 (tj:=25) (b:=false) O O (congrArg AV.bool hb) O O<|A2 (tj:=25) (b:=false) O O (congrArg AV.bool hb) O O<|A2 (tj:=25) (b:=false) O O (congrArg AV.bool hb) O O<|A2 (tj:=25) (b:=false) O O (congrArg AV.bool hb) O O ?_
 refine A2 (tj:=25) (b:=false) O O (congrArg AV.bool hb) O O<|A2 (tj:=25) (b:=false) O O (congrArg AV.bool hb) O O<|A2 (tj:=25) (b:=false) O O (congrArg AV.bool hb) O O<|A2 (tj:=25) (b:=false) O O (congrArg AV.bool hb) O O<|A2 (tj:=25) (b:=false) O O (congrArg AV.bool hb) O O<|A2 (tj:=25) (b:=false) O O (congrArg AV.bool hb) O O<|A2 (tj:=25) (b:=false) O O (congrArg AV.bool hb) O O ?_
 refine A2 (tj:=25) (b:=false) O O (congrArg AV.bool hb) O O<|A2 (tj:=25) (b:=false) O O (congrArg AV.bool hb) O O<|Z (.bool false) O O (Bw (t:=false) (congrArg AV.bool hb) O)<|Bb<|Bk (hJ (false,l) _ _ ⟨v1,g1,vH,O,O⟩)
theorem Um (vto:Int)(m:Message)(s0_Replica:Replica)(l:List Message)(h0:Ai)(o0:Nat)(o1:Nat)(g:Nat)(v1:AV)(g1:Nat)(vH:A9 v1 o1 g1 l.length)(hI0:Ids h0 [o0,o1] 2):Jr vto m s0_Replica l≠.bad→Bv Tryz.prog 61 [(.ptr o0 g 0 0),(.int .i64 vto),(.agg (Ak m))] (hp h0 [o0,o1] [some (.rows g 10 [[(.int .i64 s0_Replica.ID),(.int .i64 s0_Replica.Many),(.int .i64 s0_Replica.Term),(.int .i64 s0_Replica.Vote),(.sl 2 (List.map Ah s0_Replica.Log)),(.int .i64 s0_Replica.Role),(.int .i64 s0_Replica.Commit),(.sl 1 (List.map rB s0_Replica.Votes)),(.sl 1 (List.map (rI .i64) s0_Replica.Match)),v1]]),A5 v1 g1 10 (List.map Ak l)]) (Ei (fun a_ v h' => ∃ (v3:AV),∃ (g4:Nat),A9 v3 o1 g4 a_.length∧v=(.tup [])∧h'=hp h0 [o0,o1] [some (.rows g 10 [[(.int .i64 s0_Replica.ID),(.int .i64 s0_Replica.Many),(.int .i64 s0_Replica.Term),(.int .i64 s0_Replica.Vote),(.sl 2 (List.map Ah s0_Replica.Log)),(.int .i64 s0_Replica.Role),(.int .i64 s0_Replica.Commit),(.sl 1 (List.map rB s0_Replica.Votes)),(.sl 1 (List.map (rI .i64) s0_Replica.Match)),v3]]),A5 v3 g4 10 (List.map Ak a_)]) h0 (Jr vto m s0_Replica l)):=by
 refine Cm (n:=30) 1 Tryz.func61 O (by decide) O O hI0 O fun ids he hI=>?_
 clear hI0
 obtain rfl:ix ids 0=o0:=he 0 rfl
 obtain rfl:ix ids 1=o1:=he 1 rfl
 clear he
 refine B0 (Ax (Jr.eq_1 _ _ _ _) ?_)
 refine Az ?_
 refine Ac<|Aa<|Cy (v:=(.agg (Ak m))) (j:=2) hI O O O O O O O fun g2=>Af<|Az ?_
 refine Ac<|B4 Da [[],[0],[0,1],[0,1,2],[0,1,2,3],[],[],[6],[6,7],[6,7,8],[6,7,8,9],[0,1,2,3,4],[0,1,2,3,4,4,11],[0,1,2,3,4,5,11,12],[0,1,2,3,4,5,5,11,12,12,13],[0,1,2,3,4,5,6,7,8,9,10,11,12,13,14],[0,1,2,3,4,5,6,7,8,9,10,10,11,12,13,14,14,15]] [(false,0),(false,1),(false,2),(false,3),(false,4),(false,5),(false,6),(false,7),(false,8),(false,9),(false,10),(false,11),(true,12),(false,13),(true,14),(false,15),(true,16)] (by kernel_rfl)<|Z (.q ids 0 g) O O Ab<|Z (.q ids 0 g) O O (Ar O)<|Z (.q ids 0 g) O O (Aj (Ag (c:=0) (off:=0) (i:=0) Bc O As O))<|Z (.q ids 0 g) O O (Aj (Ag (c:=0) (off:=0) (i:=0) As O Av O))<|Z (.I s0_Replica.ID) O O (An (Aq hI O O O Av O)) ?_
 refine Z (.I vto) O O Ab<|Z (.q ids 0 g) O O Ab<|Z (.q ids 0 g) O O (Ar O)<|Z (.q ids 0 g) O O (Aj (Ag (c:=0) (off:=0) (i:=0) Bc O As O))<|Z (.ptr (ix ids 0) g 0 2) O O (Aj (Ag (c:=0) (off:=2) (i:=2) As O Av O))<|Z (.I s0_Replica.Term) O O (An (Aq hI O O O Av O))<|Z (.ptr (ix ids 2) g2 0 1) O O (Aj (Ag (c:=0) (off:=1) (i:=1) Bx O Av O)) ?_
 refine Bi O (fun _ _=>O) (fun K hK=>A3 (A6 (v:=(.I s0_Replica.ID)) hI O O O O Av O O O O O) (hK _ _ (Y O (Ad O (An (Aq hI O O O Av O)) (Ad O (Aj (Ag (c:=0) (off:=2) (i:=2) As O Av O)) (Ad O (Aj (Ag (c:=0) (off:=0) (i:=0) Bc O As O)) (Ad O (Ar O) (Ad O Ab (Ad O Ab (Y O (Y O (Y O (Y O (Y O At)))))))))))) ?_))
 clear hK K
 refine Z (.ptr (ix ids 2) g2 0 2) O O (Aj (Ag (c:=0) (off:=2) (i:=2) Bx O Av O))<|Bi O (fun _ _=>O) (fun K hK=>A3 (A6 (v:=(.I vto)) hI O O O O Av O O O O O) (hK _ _ (Y O (Y O (Ad O (An (Aq hI O O O Av O)) (Ad O (Aj (Ag (c:=0) (off:=2) (i:=2) As O Av O)) (Ad O (Aj (Ag (c:=0) (off:=0) (i:=0) Bc O As O)) (Ad O (Ar O) (Ad O Ab (Y O (Y O (Y O (Y O (Y O (Y O At))))))))))))) ?_))
 clear hK K
 refine Z (.ptr (ix ids 2) g2 0 3) O O (Aj (Ag (c:=0) (off:=3) (i:=3) Bx O Av O))<|Bi O (fun _ _=>O) (fun K hK=>A3 (A6 (v:=(.I s0_Replica.Term)) hI O O O O Av O O O O O) (hK _ _ (Y O (Y O (Y O (Y O (Y O (Y O (Y O (Y O (Y O (Y O (Y O (Y O (Y O (Y O At)))))))))))))) ?_))
 clear hK K
 refine Bb<|Az ?_
 refine B4 Da [[],[],[1],[1,2],[1,2,3],[],[5],[1,2,3,4,5,6],[0,0,1,2,3,4,5,6,7],[0,1,2,3,4,5,6,7,8],[0,1,2,3,4,5,6,7,8,9]] [(false,0),(false,1),(false,2),(false,3),(false,4),(false,5),(true,6),(true,7),(false,8),(false,9),(true,10)] (by kernel_rfl)<|Z (.q ids 0 g) O O Ab<|Z (.q ids 0 g) O O Ab<|Z (.q ids 0 g) O O (Ar O)<|Z (.ptr (ix ids 0) g 0 9) O O (Aj (Ag (c:=0) (off:=9) (i:=1) Bc O Ct O))<|Z v1 O O (An (Aq hI O O O Ct O))<|Z (.agg [(.I m.Kind),(.I s0_Replica.ID),(.I vto),(.I s0_Replica.Term),(.I m.Last),(.I m.LastTerm),(.sl 2 (List.map Ah m.Log)),(.I m.Commit),(.I m.Match),(.bool m.Granted)]) O O (An (Aq hI O O O Bx O)) ?_
 refine Ch O O (fun _ _=>O) (fun K hK=>Hp (e:=Ak) (L:=[({ Kind:=m.Kind,From:=s0_Replica.ID,To:=vto,Term:=s0_Replica.Term,Last:=m.Last,LastTerm:=m.LastTerm,Log:=m.Log,Commit:=m.Commit,Match:=m.Match,Granted:=m.Granted }:Message)]) (st:=10) (rows:=[[(.I m.Kind),(.I s0_Replica.ID),(.I vto),(.I s0_Replica.Term),(.I m.Last),(.I m.LastTerm),(.sl 2 (List.map Ah m.Log)),(.I m.Commit),(.I m.Match),(.bool m.Granted)]]) Ct Bx O O O O O (.cons (.cons (.same _) (.cons (.same _) (.cons (.same _) (.cons (.same _) (.cons (.same _) (.cons (.same _) (.cons (.same _) (.cons (.same _) (.cons (.same _) (.cons (.same _) .nil)))))))))) .nil) (fun x=>F9 x) O O (hK _ _ (Y O (Ad O (An (Aq hI O O O Ct O)) (Ad O (Aj (Ag (c:=0) (off:=9) (i:=1) Bc O Ct O)) (Ad O (Ar O) (Ad O Ab (Ad O Ab At)))))) ?_))
 clear hK K
 refine Cb fun hl=>Ch O O (fun _ _=>O) (fun K hK=>Eb (e:=Ak) (L:=l) (L2:=[({ Kind:=m.Kind,From:=s0_Replica.ID,To:=vto,Term:=s0_Replica.Term,Last:=m.Last,LastTerm:=m.LastTerm,Log:=m.Log,Commit:=m.Commit,Match:=m.Match,Granted:=m.Granted }:Message)]) (v:=v1) (g:=g1) (st:=10) (j:=1) hI O O O vH O (Fe O) Ct Ct O Bx O O O hl fun v2 g3 vH1=>hK _ _ (Y O (Y O (Y O (Y O (Y O (Ad O Ab At)))))) ?_)
 clear hK K
 refine Z (.q ids 0 g) O O (Ar O)<|Z (.ptr (ix ids 0) g 0 9) O O (Aj (Ag (c:=0) (off:=9) (i:=1) Bc O Ct O))<|Bi O (fun _ _=>O) (fun K hK=>A3 (B8 vH1 hI O O O O Ct O O O) (hK _ _ (Y O (Y O (Y O (Y O (Y O (Y O (Y O (Y O At)))))))) ?_))
 clear hK K
 refine Bb<|Az ?_
 exact Fi (K:=2) (N:=1) (a:=(l++[({ Kind:=m.Kind,From:=s0_Replica.ID,To:=vto,Term:=s0_Replica.Term,Last:=m.Last,LastTerm:=m.LastTerm,Log:=m.Log,Commit:=m.Commit,Match:=m.Match,Granted:=m.Granted }:Message)])) (vs:=[]) [some (.rows g 10 [[(.I s0_Replica.ID),(.I s0_Replica.Many),(.I s0_Replica.Term),(.I s0_Replica.Vote),(.sl 2 (List.map Ah s0_Replica.Log)),(.I s0_Replica.Role),(.I s0_Replica.Commit),(.sl 1 (List.map rB s0_Replica.Votes)),(.sl 1 (List.map (rI .i64) s0_Replica.Match)),v2]]),A5 v2 g3 10 (List.map Ak (l++[({ Kind:=m.Kind,From:=s0_Replica.ID,To:=vto,Term:=s0_Replica.Term,Last:=m.Last,LastTerm:=m.LastTerm,Log:=m.Log,Commit:=m.Commit,Match:=m.Match,Granted:=m.Granted }:Message)]))] Tryz.func61 hI O O O (.keep (.keep (.drop .nil))) (.same _) ⟨v2,g3,vH1,O,O⟩
theorem Vi (m:Message)(s_Replica:Replica)(h0:Ai)(o0:Nat)(o1:Nat)(g:Nat)(hI0:Ids h0 [o0,o1] 2):F8 m s_Replica≠.bad→Bv Tryz.prog 31 [(.ptr o0 g 0 0),(.agg (Ak m))] (hp h0 [o0,o1] [some (.rows g 10 [[(.int .i64 s_Replica.ID),(.int .i64 s_Replica.Many),(.int .i64 s_Replica.Term),(.int .i64 s_Replica.Vote),(.sl 2 (List.map Ah s_Replica.Log)),(.int .i64 s_Replica.Role),(.int .i64 s_Replica.Commit),(.sl 1 (List.map rB s_Replica.Votes)),(.sl 1 (List.map (rI .i64) s_Replica.Match)),.emp]]),none]) (Ei (fun a_ v h' => ∃ (v4:AV),∃ (g5:Nat),A9 v4 o1 g5 a_.length∧v=(.tup [])∧h'=hp h0 [o0,o1] [some (.rows g 10 [[(.int .i64 s_Replica.ID),(.int .i64 s_Replica.Many),(.int .i64 s_Replica.Term),(.int .i64 s_Replica.Vote),(.sl 2 (List.map Ah s_Replica.Log)),(.int .i64 s_Replica.Role),(.int .i64 s_Replica.Commit),(.sl 1 (List.map rB s_Replica.Votes)),(.sl 1 (List.map (rI .i64) s_Replica.Match)),v4]]),A5 v4 g5 10 (List.map Ak a_)]) h0 (F8 m s_Replica)):=by
 refine Cm (n:=25) 1 Tryz.func31 O (by decide) O O hI0 O fun ids he hI=>?_
 clear hI0
 obtain rfl:ix ids 0=o0:=he 0 rfl
 obtain rfl:ix ids 1=o1:=he 1 rfl
 clear he
 refine B0 (Ax (F8.eq_1 _ _) ?_)
 refine Az ?_
 refine Ac<|Aa<|Cy (v:=(.agg (Ak m))) (j:=2) hI O O O O O O O fun g1=>Af<|Az ?_
 refine Ac<|Aa<|Al 6 [0] [(10,(.I 0)),(9,(.I s_Replica.Many))] ?_
 refine Af<|Dn (fun l1=>Ip l1) (fun l1=>fun(fr:Nat→AV) (h:Ai) => ∃ (v3:AV),∃ (g4:Nat),A9 v3 (ix ids 1) g4 l1.length∧fr=A0 []∧h=hp h0 ids [(some (.rows g 10 [[(.I s_Replica.ID),(.I s_Replica.Many),(.I s_Replica.Term),(.I s_Replica.Vote),(.sl 2 (List.map Ah s_Replica.Log)),(.I s_Replica.Role),(.I s_Replica.Commit),(.sl 1 (List.map rB s_Replica.Votes)),(.sl 1 (List.map (rI .i64) s_Replica.Match)),v3]])),(A5 v3 g4 10 (List.map Ak l1)),none]) ?_ fun hJ=>?_
 ·rintro l1 fr h ⟨v3,g4,vH2,rfl,rfl⟩
  refine Ax (Ip.eq_1 _)<|Fi (K:=2) (N:=1) (a:=l1) (vs:=[]) [some (.rows g 10 [[(.I s_Replica.ID),(.I s_Replica.Many),(.I s_Replica.Term),(.I s_Replica.Vote),(.sl 2 (List.map Ah s_Replica.Log)),(.I s_Replica.Role),(.I s_Replica.Commit),(.sl 1 (List.map rB s_Replica.Votes)),(.sl 1 (List.map (rI .i64) s_Replica.Match)),v3]]),A5 v3 g4 10 (List.map Ak l1)] Tryz.func31 hI O O O (.keep (.keep (.keep .nil))) (.same _) ⟨v3,g4,vH2,O,O⟩
 refine Bn<|Ft [(0,(.q ids 0 g)),(3,(.q ids 2 g1)),(9,(.I s_Replica.Many)),(10,(.I 0))] (FI O)<|I0 (P:=Tryz.prog) (D1 fun x l=>G8 m s_Replica x l) ((fun l1=>Ip l1):(List Message)→R (List Message)) (D1 fun x l=>fun(fr:Nat→AV) (h:Ai) => ∃ (v1:AV),∃ (g2:Nat),A9 v1 (ix ids 1) g2 l.length∧fr=A0 [(0,(.q ids 0 g)),(3,(.q ids 2 g1)),(9,(.I s_Replica.Many)),(10,(.I x))]∧h=hp h0 ids [(some (.rows g 10 [[(.I s_Replica.ID),(.I s_Replica.Many),(.I s_Replica.Term),(.I s_Replica.Vote),(.sl 2 (List.map Ah s_Replica.Log)),(.I s_Replica.Role),(.I s_Replica.Commit),(.sl 1 (List.map rB s_Replica.Votes)),(.sl 1 (List.map (rI .i64) s_Replica.Match)),v1]])),(A5 v1 g2 10 (List.map Ak l)),(some (.rows g1 10 [(Ak m)]))]) (0,[]) ?_ ?_
 ·exact⟨.emp,0,.nil,O,O⟩
 rintro vW hW ⟨x,l⟩ fr h ⟨v1,g2,vH,rfl,rfl⟩
 refine Ax (m':=G8 m s_Replica x l) O (Ax (G8.eq_1 _ _ _ _) ?_)
 refine Ac<|Aa<|Ae (.bool (decide (x<s_Replica.Many))) O (Bf O O O)<|Af<|Ac<|Gf O (fun hc=>?_) (fun hc=>?_)
 ·refine Bd<|Ac<|Bn<|Ac<|Aa<|Al 2 [] [(4,(.I x))] ?_
  refine Af<|Ac<|Aa<|Al 7 [0] [(19,(.bool (x != s_Replica.ID)))] ?_
  refine Af<|Cp O (fun hc1=>?_) (fun hc1=>?_)
  ·refine Aa<|Al 3 [2] [(22,(.agg (Ak m))),(21,(.I x)),(20,(.q ids 0 g))] ?_
   refine Ck [0,1] hI O O (Um x m s_Replica l _ (ix ids 0) (ix ids 1) g v1 g2 vH (by exact hI.sub' O O)) O O O O O O (fun v _=>Ca (K:=2) (N:=1) Tryz.func31 hI) ?_
   rintro r _ _ _ ⟨v2,g3,vH1,rfl,rfl⟩
   refine Dz [0,1] hI O O O ?_
   refine C1<|Af<|Az ?_
   refine Bp<|Aa<|Al 2 [] [(10,(.I (IntKind.wrap .i64 (x+1))))] ?_
   refine Af<|Bk (Gp (hW ((IntKind.wrap .i64 (x+1)),r) _ _ ⟨v2,g3,vH1,O,O⟩))
  refine Bd<|Bp<|Aa<|Al 2 [] [(10,(.I (IntKind.wrap .i64 (x+1))))] ?_
  refine Af<|Bk (Gp (hW ((IntKind.wrap .i64 (x+1)),l) _ _ ⟨v1,g2,vH,O,O⟩))
 refine Ea O<|H6<|Ex [(some (.rows g 10 [[(.I s_Replica.ID),(.I s_Replica.Many),(.I s_Replica.Term),(.I s_Replica.Vote),(.sl 2 (List.map Ah s_Replica.Log)),(.I s_Replica.Role),(.I s_Replica.Commit),(.sl 1 (List.map rB s_Replica.Votes)),(.sl 1 (List.map (rI .i64) s_Replica.Match)),v1]])),(A5 v1 g2 10 (List.map Ak l)),none] hI O (.keep (.keep (.drop .nil)))<|Bk (hJ l _ _ ⟨v1,g2,vH,O,O⟩)
theorem Uk (s0_ReplicaID:Int)(s0_ReplicaMany:Int)(s0_ReplicaTerm:Int)(s0_ReplicaVote:Int)(s0_ReplicaRole:Int)(s0_ReplicaCommit:Int)(s0_ReplicaVotes:List Bool)(s0_ReplicaMatch:List Int)(l:List Record)(h0:Ai)(o0:Nat)(o1:Nat)(o2:Nat)(g:Nat)(v1:AV)(g1:Nat)(vH:A9 v1 o1 g1 l.length)(hI0:Ids h0 [o0,o1,o2] 3):Gs s0_ReplicaID s0_ReplicaMany s0_ReplicaTerm s0_ReplicaVote s0_ReplicaRole s0_ReplicaCommit s0_ReplicaVotes s0_ReplicaMatch l≠.bad→Bv Tryz.prog 39 [(.ptr o0 g 0 0)] (hp h0 [o0,o1,o2] [some (.rows g 10 [[(.int .i64 s0_ReplicaID),(.int .i64 s0_ReplicaMany),(.int .i64 s0_ReplicaTerm),(.int .i64 s0_ReplicaVote),v1,(.int .i64 s0_ReplicaRole),(.int .i64 s0_ReplicaCommit),(.sl 1 (List.map rB s0_ReplicaVotes)),(.sl 1 (List.map (rI .i64) s0_ReplicaMatch)),.emp]]),A5 v1 g1 2 (List.map Ah l),none]) (Ei (fun a_ v h' => ∃ (v3:AV),∃ (g3:Nat),A9 v3 o2 g3 a_.length∧v=(.tup [])∧h'=hp h0 [o0,o1,o2] [some (.rows g 10 [[(.int .i64 ({ ID:=s0_ReplicaID,Many:=s0_ReplicaMany,Term:=s0_ReplicaTerm,Vote:=s0_ReplicaVote,Log:=l,Role:=s0_ReplicaRole,Commit:=s0_ReplicaCommit,Votes:=s0_ReplicaVotes,Match:=s0_ReplicaMatch }:Replica).ID),(.int .i64 ({ ID:=s0_ReplicaID,Many:=s0_ReplicaMany,Term:=s0_ReplicaTerm,Vote:=s0_ReplicaVote,Log:=l,Role:=s0_ReplicaRole,Commit:=s0_ReplicaCommit,Votes:=s0_ReplicaVotes,Match:=s0_ReplicaMatch }:Replica).Many),(.int .i64 ({ ID:=s0_ReplicaID,Many:=s0_ReplicaMany,Term:=s0_ReplicaTerm,Vote:=s0_ReplicaVote,Log:=l,Role:=s0_ReplicaRole,Commit:=s0_ReplicaCommit,Votes:=s0_ReplicaVotes,Match:=s0_ReplicaMatch }:Replica).Term),(.int .i64 ({ ID:=s0_ReplicaID,Many:=s0_ReplicaMany,Term:=s0_ReplicaTerm,Vote:=s0_ReplicaVote,Log:=l,Role:=s0_ReplicaRole,Commit:=s0_ReplicaCommit,Votes:=s0_ReplicaVotes,Match:=s0_ReplicaMatch }:Replica).Vote),(.sl 2 (List.map Ah ({ ID:=s0_ReplicaID,Many:=s0_ReplicaMany,Term:=s0_ReplicaTerm,Vote:=s0_ReplicaVote,Log:=l,Role:=s0_ReplicaRole,Commit:=s0_ReplicaCommit,Votes:=s0_ReplicaVotes,Match:=s0_ReplicaMatch }:Replica).Log)),(.int .i64 ({ ID:=s0_ReplicaID,Many:=s0_ReplicaMany,Term:=s0_ReplicaTerm,Vote:=s0_ReplicaVote,Log:=l,Role:=s0_ReplicaRole,Commit:=s0_ReplicaCommit,Votes:=s0_ReplicaVotes,Match:=s0_ReplicaMatch }:Replica).Role),(.int .i64 ({ ID:=s0_ReplicaID,Many:=s0_ReplicaMany,Term:=s0_ReplicaTerm,Vote:=s0_ReplicaVote,Log:=l,Role:=s0_ReplicaRole,Commit:=s0_ReplicaCommit,Votes:=s0_ReplicaVotes,Match:=s0_ReplicaMatch }:Replica).Commit),(.sl 1 (List.map rB ({ ID:=s0_ReplicaID,Many:=s0_ReplicaMany,Term:=s0_ReplicaTerm,Vote:=s0_ReplicaVote,Log:=l,Role:=s0_ReplicaRole,Commit:=s0_ReplicaCommit,Votes:=s0_ReplicaVotes,Match:=s0_ReplicaMatch }:Replica).Votes)),(.sl 1 (List.map (rI .i64) ({ ID:=s0_ReplicaID,Many:=s0_ReplicaMany,Term:=s0_ReplicaTerm,Vote:=s0_ReplicaVote,Log:=l,Role:=s0_ReplicaRole,Commit:=s0_ReplicaCommit,Votes:=s0_ReplicaVotes,Match:=s0_ReplicaMatch }:Replica).Match)),v3]]),none,A5 v3 g3 10 (List.map Ak a_)]) h0 (Gs s0_ReplicaID s0_ReplicaMany s0_ReplicaTerm s0_ReplicaVote s0_ReplicaRole s0_ReplicaCommit s0_ReplicaVotes s0_ReplicaMatch l)):=by
 refine Cm (n:=15) 0 Tryz.func39 O (by decide) O O hI0 O fun ids he hI=>?_
 clear hI0
 obtain rfl:ix ids 0=o0:=he 0 rfl
 obtain rfl:ix ids 1=o1:=he 1 rfl
 obtain rfl:ix ids 2=o2:=he 2 rfl
 clear he
 refine B0 (Ax (Gs.eq_1 _ _ _ _ _ _ _ _ _) ?_)
 refine Aa3 [(some (.rows g 10 [[(.I s0_ReplicaID),(.I s0_ReplicaMany),(.I s0_ReplicaTerm),(.I s0_ReplicaVote),(.sl 2 (List.map Ah l)),(.I s0_ReplicaRole),(.I s0_ReplicaCommit),(.sl 1 (List.map rB s0_ReplicaVotes)),(.sl 1 (List.map (rI .i64) s0_ReplicaMatch)),.emp]])),none,none] [(0,(.q ids 0 g))] hI O (.fz (.cons (.same _) (.cons (.same _) (.cons (.same _) (.cons (.same _) (.cons (Dd vH (hI.at O O) (hI.at O O) (fun x=>Kk x)) (.cons (.same _) (.cons (.same _) (.cons (.same _) (.cons (.same _) (.cons (.same _) .nil)))))))))) O O (.drop (.keep .nil))) (.cons (.same _) .nil)<|B4 Da [[],[],[1],[1,2],[1,2,3],[1,2,3,4],[],[6],[6,7],[6,7,8],[6,7,8,9],[1,2,3,4,5,6,7,8,9,10],[0,1,2,3,4,5,6,7,8,9,10,11]] [(false,0),(false,1),(false,2),(false,3),(false,4),(false,5),(false,6),(false,7),(false,8),(false,9),(false,10),(false,11),(true,12)] (by kernel_rfl)<|Z (.q ids 0 g) O O Ab<|Z (.q ids 0 g) O O Ab<|Z (.q ids 0 g) O O (Ar O)<|Z (.q ids 0 g) O O (Aj (Ag (c:=0) (off:=0) (i:=0) Bc O As O))<|Z (.ptr (ix ids 0) g 0 4) O O (Aj (Ag (c:=0) (off:=4) (i:=4) As O Ba O)) ?_
 refine Z (.sl 2 (List.map Ah l)) O O (An (Aq hI O O O Ba O))<|Z (.q ids 0 g) O O Ab<|Z (.q ids 0 g) O O (Ar O)<|Z (.q ids 0 g) O O (Aj (Ag (c:=0) (off:=0) (i:=0) Bc O As O))<|Z (.ptr (ix ids 0) g 0 6) O O (Aj (Ag (c:=0) (off:=6) (i:=6) As O Av O))<|Z (.I s0_ReplicaCommit) O O (An (Aq hI O O O Av O))<|Z (.agg [(.I 3),(.I 0),(.I 0),(.I 0),(.I 0),(.I 0),(.sl 2 (List.map Ah l)),(.I s0_ReplicaCommit),(.I 0),(.bool false)]) O O (Du (Hn Bx Abx O)) ?_
 refine Fd [0,2] hI O O (Vi ({ Kind:=3,From:=0,To:=0,Term:=0,Last:=0,LastTerm:=0,Log:=l,Commit:=s0_ReplicaCommit,Match:=0,Granted:=false }:Message) ({ ID:=s0_ReplicaID,Many:=s0_ReplicaMany,Term:=s0_ReplicaTerm,Vote:=s0_ReplicaVote,Log:=l,Role:=s0_ReplicaRole,Commit:=s0_ReplicaCommit,Votes:=s0_ReplicaVotes,Match:=s0_ReplicaMatch }:Replica) _ (ix ids 0) (ix ids 2) g (by exact hI.sub' O O)) O O O O O O O (fun v _ _ _=>Ca (K:=3) (N:=0) Tryz.func39 hI) ?_
 rintro r _ _ _ ⟨v2,g2,vH1,rfl,rfl⟩
 refine Gg [0,2] [some (.rows g 10 [[(.I ({ ID:=s0_ReplicaID,Many:=s0_ReplicaMany,Term:=s0_ReplicaTerm,Vote:=s0_ReplicaVote,Log:=l,Role:=s0_ReplicaRole,Commit:=s0_ReplicaCommit,Votes:=s0_ReplicaVotes,Match:=s0_ReplicaMatch }:Replica).ID),(.I ({ ID:=s0_ReplicaID,Many:=s0_ReplicaMany,Term:=s0_ReplicaTerm,Vote:=s0_ReplicaVote,Log:=l,Role:=s0_ReplicaRole,Commit:=s0_ReplicaCommit,Votes:=s0_ReplicaVotes,Match:=s0_ReplicaMatch }:Replica).Many),(.I ({ ID:=s0_ReplicaID,Many:=s0_ReplicaMany,Term:=s0_ReplicaTerm,Vote:=s0_ReplicaVote,Log:=l,Role:=s0_ReplicaRole,Commit:=s0_ReplicaCommit,Votes:=s0_ReplicaVotes,Match:=s0_ReplicaMatch }:Replica).Term),(.I ({ ID:=s0_ReplicaID,Many:=s0_ReplicaMany,Term:=s0_ReplicaTerm,Vote:=s0_ReplicaVote,Log:=l,Role:=s0_ReplicaRole,Commit:=s0_ReplicaCommit,Votes:=s0_ReplicaVotes,Match:=s0_ReplicaMatch }:Replica).Vote),(.sl 2 (List.map Ah ({ ID:=s0_ReplicaID,Many:=s0_ReplicaMany,Term:=s0_ReplicaTerm,Vote:=s0_ReplicaVote,Log:=l,Role:=s0_ReplicaRole,Commit:=s0_ReplicaCommit,Votes:=s0_ReplicaVotes,Match:=s0_ReplicaMatch }:Replica).Log)),(.I ({ ID:=s0_ReplicaID,Many:=s0_ReplicaMany,Term:=s0_ReplicaTerm,Vote:=s0_ReplicaVote,Log:=l,Role:=s0_ReplicaRole,Commit:=s0_ReplicaCommit,Votes:=s0_ReplicaVotes,Match:=s0_ReplicaMatch }:Replica).Role),(.I ({ ID:=s0_ReplicaID,Many:=s0_ReplicaMany,Term:=s0_ReplicaTerm,Vote:=s0_ReplicaVote,Log:=l,Role:=s0_ReplicaRole,Commit:=s0_ReplicaCommit,Votes:=s0_ReplicaVotes,Match:=s0_ReplicaMatch }:Replica).Commit),(.sl 1 (List.map rB ({ ID:=s0_ReplicaID,Many:=s0_ReplicaMany,Term:=s0_ReplicaTerm,Vote:=s0_ReplicaVote,Log:=l,Role:=s0_ReplicaRole,Commit:=s0_ReplicaCommit,Votes:=s0_ReplicaVotes,Match:=s0_ReplicaMatch }:Replica).Votes)),(.sl 1 (List.map (rI .i64) ({ ID:=s0_ReplicaID,Many:=s0_ReplicaMany,Term:=s0_ReplicaTerm,Vote:=s0_ReplicaVote,Log:=l,Role:=s0_ReplicaRole,Commit:=s0_ReplicaCommit,Votes:=s0_ReplicaVotes,Match:=s0_ReplicaMatch }:Replica).Match)),v2]]),none,A5 v2 g2 10 (List.map Ak r)] hI O O O O ⟨(Y O (Y O (Y O (Y O (Y O (Y O (Y O (Y O (Y O (Y O (Y O (Y O At)))))))))))),?_⟩
 refine Gd<|Bb<|Az ?_
 exact Fi (K:=3) (N:=0) (a:=r) (vs:=[]) [some (.rows g 10 [[(.I ({ ID:=s0_ReplicaID,Many:=s0_ReplicaMany,Term:=s0_ReplicaTerm,Vote:=s0_ReplicaVote,Log:=l,Role:=s0_ReplicaRole,Commit:=s0_ReplicaCommit,Votes:=s0_ReplicaVotes,Match:=s0_ReplicaMatch }:Replica).ID),(.I ({ ID:=s0_ReplicaID,Many:=s0_ReplicaMany,Term:=s0_ReplicaTerm,Vote:=s0_ReplicaVote,Log:=l,Role:=s0_ReplicaRole,Commit:=s0_ReplicaCommit,Votes:=s0_ReplicaVotes,Match:=s0_ReplicaMatch }:Replica).Many),(.I ({ ID:=s0_ReplicaID,Many:=s0_ReplicaMany,Term:=s0_ReplicaTerm,Vote:=s0_ReplicaVote,Log:=l,Role:=s0_ReplicaRole,Commit:=s0_ReplicaCommit,Votes:=s0_ReplicaVotes,Match:=s0_ReplicaMatch }:Replica).Term),(.I ({ ID:=s0_ReplicaID,Many:=s0_ReplicaMany,Term:=s0_ReplicaTerm,Vote:=s0_ReplicaVote,Log:=l,Role:=s0_ReplicaRole,Commit:=s0_ReplicaCommit,Votes:=s0_ReplicaVotes,Match:=s0_ReplicaMatch }:Replica).Vote),(.sl 2 (List.map Ah ({ ID:=s0_ReplicaID,Many:=s0_ReplicaMany,Term:=s0_ReplicaTerm,Vote:=s0_ReplicaVote,Log:=l,Role:=s0_ReplicaRole,Commit:=s0_ReplicaCommit,Votes:=s0_ReplicaVotes,Match:=s0_ReplicaMatch }:Replica).Log)),(.I ({ ID:=s0_ReplicaID,Many:=s0_ReplicaMany,Term:=s0_ReplicaTerm,Vote:=s0_ReplicaVote,Log:=l,Role:=s0_ReplicaRole,Commit:=s0_ReplicaCommit,Votes:=s0_ReplicaVotes,Match:=s0_ReplicaMatch }:Replica).Role),(.I ({ ID:=s0_ReplicaID,Many:=s0_ReplicaMany,Term:=s0_ReplicaTerm,Vote:=s0_ReplicaVote,Log:=l,Role:=s0_ReplicaRole,Commit:=s0_ReplicaCommit,Votes:=s0_ReplicaVotes,Match:=s0_ReplicaMatch }:Replica).Commit),(.sl 1 (List.map rB ({ ID:=s0_ReplicaID,Many:=s0_ReplicaMany,Term:=s0_ReplicaTerm,Vote:=s0_ReplicaVote,Log:=l,Role:=s0_ReplicaRole,Commit:=s0_ReplicaCommit,Votes:=s0_ReplicaVotes,Match:=s0_ReplicaMatch }:Replica).Votes)),(.sl 1 (List.map (rI .i64) ({ ID:=s0_ReplicaID,Many:=s0_ReplicaMany,Term:=s0_ReplicaTerm,Vote:=s0_ReplicaVote,Log:=l,Role:=s0_ReplicaRole,Commit:=s0_ReplicaCommit,Votes:=s0_ReplicaVotes,Match:=s0_ReplicaMatch }:Replica).Match)),v2]]),none,A5 v2 g2 10 (List.map Ak r)] Tryz.func39 hI O O O (.keep (.keep (.keep .nil))) (.same _) ⟨v2,g2,vH1,O,O⟩
theorem Pe (r:Replica)(data:List Int):CP Tryz.prog 10 [(.agg (Ap r)),(.sl 1 (List.map (rI .u8) data))] (Ew r data) (fun(p:(Replica×(List Message)×Int))=>AV.tup [(.agg (Ap p.1)),(.sl 10 (List.map Ak p.2.1)),(.int .i64 p.2.2)]):=by
 refine C7 (n:=77) 6 Tryz.func10 O (by decide) O O fun h0 ids hI=>B0 (Ax (Ew.eq_1 _ _) ?_)
 refine Ac<|Aa<|Cy (v:=(.agg (Ap r))) (j:=0) hI O O O O O O O fun g=>B9 (j:=1) hI O O O O As O fun g1=>Al 2 [] [] ?_
 refine Af<|Az ?_
 refine Ac<|Ac<|Aa<|Al 1 [0] [(8,(.agg (Ap r)))] ?_
 refine Be [(.agg (Ap r))] O O O O ((J8 r) _) (fun v _=>Bh Tryz.func10 hI) fun e _=>Ae (.I e) O Au<|Af<|Ac<|Aa<|Al 2 [] [(11,(.bool (e != 0)))] ?_
 refine Af<|Cp O (fun hc=>?_) (fun hc=>?_)
 ·refine Ac<|Aa<|Al 2 [1] [(13,(.I e)),(12,(.agg [(.I 0),(.I 0),(.I 0),(.I 0),.emp,(.I 0),(.I 0),.emp,.emp]))] ?_
  refine A4 (A6 (v:=(.agg [(.I 0),(.I 0),(.I 0),(.I 0),.emp,(.I 0),(.I 0),.emp,.emp])) hI O O O O As O O O O O)<|Al 2 [] [(6,(.I e)),(5,.emp)] ?_
  refine Af<|B3 (a:=(({ ID:=0,Many:=0,Term:=0,Vote:=0,Log:=[],Role:=0,Commit:=0,Votes:=[],Match:=[] }:Replica),[],e)) (vs:=[(.agg [(.I 0),(.I 0),(.I 0),(.I 0),.emp,(.I 0),(.I 0),.emp,.emp]),.emp,(.I e)]) Tryz.func10 hI (By (Aq hI O O O As O) (Cz (Cz Cd))) (.tupL (.cons (.aggL (.cons (.same _) (.cons (.same _) (.cons (.same _) (.cons (.same _) (.cons (.emp _) (.cons (.same _) (.cons (.same _) (.cons (.emp _) (.cons (.emp _) .nil)))))))))) (.cons (.emp _) (.cons (.same _) .nil))))
 refine Bd<|Ac<|Ac<|Aa<|Al 3 [0] [(16,(.bool (r.Role != 2)))] ?_
 refine Af<|Cp O (fun hc1=>?_) (fun hc1=>?_)
 ·refine Ac<|Aa<|Al 1 [1] [(17,(.agg [(.I 0),(.I 0),(.I 0),(.I 0),.emp,(.I 0),(.I 0),.emp,.emp]))] ?_
  refine A4 (A6 (v:=(.agg [(.I 0),(.I 0),(.I 0),(.I 0),.emp,(.I 0),(.I 0),.emp,.emp])) hI O O O O As O O O O O)<|Al 2 [] [(6,(.I 470)),(5,.emp)] ?_
  refine Af<|B3 (a:=(({ ID:=0,Many:=0,Term:=0,Vote:=0,Log:=[],Role:=0,Commit:=0,Votes:=[],Match:=[] }:Replica),[],470)) (vs:=[(.agg [(.I 0),(.I 0),(.I 0),(.I 0),.emp,(.I 0),(.I 0),.emp,.emp]),.emp,(.I 470)]) Tryz.func10 hI (By (Aq hI O O O As O) (Cz (Cz Cd))) (.tupL (.cons (.aggL (.cons (.same _) (.cons (.same _) (.cons (.same _) (.cons (.same _) (.cons (.emp _) (.cons (.same _) (.cons (.same _) (.cons (.emp _) (.cons (.emp _) .nil)))))))))) (.cons (.emp _) (.cons (.same _) .nil))))
 refine Bd<|Ac<|Ac<|Aa<|Al 2 [0] [(19,(.sl 2 (List.map Ah r.Log)))] ?_
 refine Ae (.I (r.Log.length:Int)) O (Bm (Bo Ba))<|Ae (.bool (decide ((r.Log.length:Int)≥4096))) O (Bf O O O)<|Af<|Gf O (fun hc2=>?_) (fun hc2=>?_)
 ·refine Ac<|Aa<|Al 1 [1] [(22,(.agg [(.I 0),(.I 0),(.I 0),(.I 0),.emp,(.I 0),(.I 0),.emp,.emp]))] ?_
  refine A4 (A6 (v:=(.agg [(.I 0),(.I 0),(.I 0),(.I 0),.emp,(.I 0),(.I 0),.emp,.emp])) hI O O O O As O O O O O)<|Al 2 [] [(6,(.I 2)),(5,.emp)] ?_
  refine Af<|B3 (a:=(({ ID:=0,Many:=0,Term:=0,Vote:=0,Log:=[],Role:=0,Commit:=0,Votes:=[],Match:=[] }:Replica),[],2)) (vs:=[(.agg [(.I 0),(.I 0),(.I 0),(.I 0),.emp,(.I 0),(.I 0),.emp,.emp]),.emp,(.I 2)]) Tryz.func10 hI (By (Aq hI O O O As O) (Cz (Cz Cd))) (.tupL (.cons (.aggL (.cons (.same _) (.cons (.same _) (.cons (.same _) (.cons (.same _) (.cons (.emp _) (.cons (.same _) (.cons (.same _) (.cons (.emp _) (.cons (.emp _) .nil)))))))))) (.cons (.emp _) (.cons (.same _) .nil))))
 refine Bd<|Ac<|Aa<|Al 1 [0] [(23,(.agg (Ap r)))] ?_
 refine Ck [2] hI O O (My r _ (ix ids 2) (by exact hI.sub' O O)) O O O O O O (fun v _=>Bh Tryz.func10 hI) ?_
 rintro _ _ _ _ ⟨g2,rfl,rfl⟩
 refine Dz [2] hI O O O ?_
 refine C1<|Ae (.q ids 2 g2) O Au<|Af<|Az ?_
 refine Ac<|Dn (fun l=>Je r l) (fun l=>fun(fr:Nat→AV) (h:Ai) => ∃ (v4:AV),∃ (g7:Nat),A9 v4 (ix ids 3) g7 l.length∧fr=A0 [(2,(.q ids 0 g)),(4,(.q ids 1 g1)),(7,(.q ids 2 g2))]∧h=hp h0 ids [(some (.rows g 9 [(Ap r)])),(some (.rows g1 9 [[(.I 0),(.I 0),(.I 0),(.I 0),.emp,(.I 0),(.I 0),.emp,.emp]])),(some (.rows g2 10 [[(.I r.ID),(.I r.Many),(.I r.Term),(.I r.Vote),v4,(.I r.Role),(.I r.Commit),(.sl 1 (List.map rB r.Votes)),(.sl 1 (List.map (rI .i64) r.Match)),.emp]])),(A5 v4 g7 2 (List.map Ah l)),none,none]) ?_ fun hJ=>?_
 ·rintro l fr h ⟨v4,g7,vH4,rfl,rfl⟩
  refine Ax (Je.eq_1 _ _)<|Ac<|Aa<|Al 3 [0] [(43,(.sl 1 (List.map (rI .i64) r.Match))),(41,(.q ids 2 g2))] ?_
  refine Zu (j:=4) [(.sl 1 (List.map (rI .i64) r.Match))] hI O O O O O O ((Rw r.Match) _ _ (hI.at O O)) (fun v _=>Bh Tryz.func10 hI) fun r3 _ v5 g8 vH5=>Al 3 [] [(47,(.ptr (ix ids 2) g2 0 8))] ?_
  refine A4 (B8 vH5 hI O O O O Bt O O O)<|Af<|Az ?_
  refine Ac<|B4 Da [[],[0],[0,1],[0,1,2],[0,1,2,3],[],[5],[5,6],[5,6,7],[5,6,7,8],[],[10],[10,11],[10,11,12],[10,11,12,13],[10,11,12,13,14],[0,1,2,3,4,4,5,6,7,8,9,9,10,11,12,13,14,15],[0,1,2,3,4,5,6,7,8,9,10,11,12,13,14,15,15,16]] [(false,0),(false,1),(false,2),(false,3),(false,4),(false,5),(false,6),(false,7),(false,8),(false,9),(false,10),(false,11),(false,12),(false,13),(false,14),(false,15),(false,16),(true,17)] (by kernel_rfl)<|Z (.q ids 2 g2) O O Ab<|Z (.q ids 2 g2) O O (Ar O)<|Z (.q ids 2 g2) O O (Aj (Ag (c:=0) (off:=0) (i:=0) Bc O As O))<|Z (.ptr (ix ids 2) g2 0 8) O O (Aj (Ag (c:=0) (off:=8) (i:=8) As O Bt O))<|Z v5 O O (An (Aq hI O O O Bt O)) ?_
  refine Z (.q ids 2 g2) O O Ab<|Z (.q ids 2 g2) O O (Ar O)<|Z (.q ids 2 g2) O O (Aj (Ag (c:=0) (off:=0) (i:=0) Bc O As O))<|Z (.q ids 2 g2) O O (Aj (Ag (c:=0) (off:=0) (i:=0) As O Av O))<|Z (.I r.ID) O O (An (Aq hI O O O Av O))<|Z (.q ids 2 g2) O O Ab<|Z (.q ids 2 g2) O O (Ar O) ?_
  refine Z (.q ids 2 g2) O O (Aj (Ag (c:=0) (off:=0) (i:=0) Bc O As O))<|Z (.ptr (ix ids 2) g2 0 4) O O (Aj (Ag (c:=0) (off:=4) (i:=4) As O Ba O))<|Z v4 O O (An (Aq hI O O O Ba O))<|Z (.I (l.length:Int)) O O (Bm (A9.len vH4 Ba))<|G0 fun a hz hx1=>Z (.ptr (ix ids 4) g8 r.ID.toNat 0) O O (Bu (J5 hI O vH5 O Bt Av O hz hx1))<|Bi O (fun _ _=>O) (fun K hK=>A3 (Ro (y:=(l.length:Int)) hI O O vH5 O hx1 Av O O O O O O) (hK _ _ (Y O (Y O (Y O (Y O (Y O (Y O (Y O (Y O (Y O (Y O (Y O (Y O (Y O (Y O (Y O (Y O (Y O At))))))))))))))))) ?_))
  clear hK K
  have vH6:=A9.set (i:=r.ID.toNat) (y:=(l.length:Int)) vH5
  have hx2:=List.getElem?_set_self (a:=(l.length:Int)) (B5 hx1)
  refine Bb<|Az ?_
  refine Ac<|Aa<|Ae (.q ids 2 g2) O Ab<|Ck [2,3,4] hI O O (Sw r.ID r.Many r.Term r.Vote r.Role r.Commit r.Votes l (r3.set r.ID.toNat (l.length:Int)) _ (ix ids 2) (ix ids 3) (ix ids 4) g2 v4 g7 v5 g8 vH4 vH6 (by exact hI.sub' O O)) O O O O O O (fun v _=>Bh Tryz.func10 hI) ?_
  rintro r4 _ _ _ ⟨v6,g9,vH7,rfl,rfl⟩
  refine Dz [2,3,4] hI O O O ?_
  refine C1<|Af<|Az ?_
  refine Ac<|Aa<|Ae (.q ids 2 g2) O Ab<|Ck [2,3,5] hI O O (Uk r.ID r.Many r.Term r.Vote r.Role r4.1 r.Votes (r3.set r.ID.toNat (l.length:Int)) r4.2 _ (ix ids 2) (ix ids 3) (ix ids 5) g2 v6 g9 vH7 (by exact hI.sub' O O)) O O O O O O (fun v _=>Bh Tryz.func10 hI) ?_
  rintro r5 _ _ _ ⟨v7,g10,vH8,rfl,rfl⟩
  refine Dz [2,3,5] hI O O O ?_
  refine C1<|Af<|Az ?_
  refine Ac<|B4 Da [[],[0],[0,1],[0,1,2],[],[4],[4,5],[4,5,6],[0,1,2,3,3],[0,1,2,3,4,5,6,7,7,8,8],[0,1,2,3,4,5,6,7,8,9,9]] [(false,0),(false,1),(false,2),(false,3),(false,4),(false,5),(false,6),(false,7),(true,8),(false,9),(false,10)] (by kernel_rfl)<|Z (.q ids 2 g2) O O Ab<|Z (.q ids 2 g2) O O (Ar O)<|Z (.q ids 2 g2) O O (Aj (Ag (c:=0) (off:=0) (i:=0) Bc O As O))<|Z (.agg (Ap ({ ID:=r.ID,Many:=r.Many,Term:=r.Term,Vote:=r.Vote,Log:=r4.2,Role:=r.Role,Commit:=r4.1,Votes:=r.Votes,Match:=(r3.set r.ID.toNat (l.length:Int)) }:Replica))) O O (An (Aq hI O O O As O))<|Z (.q ids 2 g2) O O Ab ?_
  refine Z (.q ids 2 g2) O O (Ar O)<|Z (.ptr (ix ids 2) g2 0 9) O O (Aj (Ag (c:=0) (off:=9) (i:=1) Bc O Ct O))<|Z v7 O O (An (Aq hI O O O Ct O))<|Bi O (fun _ _=>O) (fun K hK=>A3 (A6 (v:=(.agg (Ap ({ ID:=r.ID,Many:=r.Many,Term:=r.Term,Vote:=r.Vote,Log:=r4.2,Role:=r.Role,Commit:=r4.1,Votes:=r.Votes,Match:=(r3.set r.ID.toNat (l.length:Int)) }:Replica)))) hI O O O O As O O O O O) (hK _ _ (Ad O (An (Aq hI O O O Ct O)) (Ad O (Aj (Ag (c:=0) (off:=9) (i:=1) Bc O Ct O)) (Ad O (Ar O) (Ad O Ab (Y O (Y O (Y O (Y O At)))))))) ?_))
  clear hK K
  refine Z v7 O O Au<|Z (.I 0) O O Au<|Bb<|Az ?_
  exact B3 (a:=(({ ID:=r.ID,Many:=r.Many,Term:=r.Term,Vote:=r.Vote,Log:=r4.2,Role:=r.Role,Commit:=r4.1,Votes:=r.Votes,Match:=(r3.set r.ID.toNat (l.length:Int)) }:Replica),r5,0)) (vs:=[(.agg (Ap ({ ID:=r.ID,Many:=r.Many,Term:=r.Term,Vote:=r.Vote,Log:=r4.2,Role:=r.Role,Commit:=r4.1,Votes:=r.Votes,Match:=(r3.set r.ID.toNat (l.length:Int)) }:Replica))),v7,(.I 0)]) Tryz.func10 hI (By (Aq hI O O O As O) (Cz (Cz Cd))) (.tupL (.cons (.same _) (.cons (Dd vH8 (hI.at O O) (hI.out O) (fun x=>F9 x)) (.cons (.same _) .nil))))
 refine R9 Da (.node 11 3 (.leaf [[],[],[1],[1,2],[],[4],[4,5],[4,5,6],[4,5,6,7],[],[4,5,6,7,8,9],[1,2,3,4,5,6,7,8,9,10],[1,2,3,4,5,6,7,8,9,10,11],[0,0,1,2,3,4,5,6,7,8,9,10,11,12],[0,1,2,3,4,5,6,7,8,9,10,11,12,13],[0,1,2,3,4,5,6,7,8,9,10,11,12,13,14],[0,1,2,3,4,5,6,7,8,9,10,11,12,13,14,15]] [(false,0),(false,1),(false,2),(false,4),(false,5),(false,6),(false,7),(false,8),(false,9),(false,10),(true,3),(true,11),(true,12),(false,13),(false,14),(false,15),(true,16)]) (.leaf [[],[],[1],[1,2,4,5,6,7,8,9,10,11],[],[4],[4,5],[4,5,6],[4,5,6,7],[],[4,5,6,7,8,9],[4,5,6,7,8,9,10],[1,2,3,4,5,6,7,8,9,10,11],[0,0,1,2,3,4,5,6,7,8,9,10,11,12],[0,1,2,3,4,5,6,7,8,9,10,11,12,13],[0,1,2,3,4,5,6,7,8,9,10,11,12,13,14],[0,1,2,3,4,5,6,7,8,9,10,11,12,13,14,15]] [(false,0),(false,1),(false,2),(false,4),(false,5),(false,6),(false,7),(false,8),(false,9),(false,10),(true,11),(true,3),(true,12),(false,13),(false,14),(false,15),(true,16)])) (by kernel_rfl)<|H4 ?_ ?_
 ·refine Fp<|Z (.q ids 2 g2) O O Ab<|Z (.ptr (ix ids 0) g 0 4) O O (Aj (Ag (c:=0) (off:=4) (i:=4) As O Ba O))<|Z (.sl 2 (List.map Ah r.Log)) O O (An (Aq hI O O O Ba O))<|Z (.q ids 2 g2) O O Ab<|Z (.q ids 2 g2) O O (Ar O)<|Z (.q ids 2 g2) O O (Aj (Ag (c:=0) (off:=0) (i:=0) Bc O As O)) ?_
  refine Z (.ptr (ix ids 2) g2 0 2) O O (Aj (Ag (c:=0) (off:=2) (i:=2) As O Av O))<|Z (.I r.Term) O O (An (Aq hI O O O Av O))<|Z (.sl 1 (List.map (rI .u8) data)) O O Ab<|Z (.agg [(.I r.Term),(.sl 1 (List.map (rI .u8) data))]) O O (Du (Hn C2 Ua O))<|Adf (j:=3) [(.sl 2 (List.map Ah r.Log))] O hI O O O O O O ((Qb r.Log) _ _ (hI.at O O)) (fun v _ _ _=>Bh Tryz.func10 hI) fun r1 _ v g3 vH=>⟨(Ad O (Du (Hn C2 Ua O)) (Ad O Ab (Ad O (An (Aq hI O O O Av O)) (Ad O (Aj (Ag (c:=0) (off:=2) (i:=2) As O Av O)) (Ad O (Aj (Ag (c:=0) (off:=0) (i:=0) Bc O As O)) (Ad O (Ar O) (Ad O Ab (Y O (Y O (Ad O Ab At)))))))))),?_⟩
  refine Ch O O (fun _ _=>O) (fun K hK=>Hp (e:=Ah) (L:=[({ Term:=r.Term,Data:=data }:Record)]) (st:=2) (rows:=[[(.I r.Term),(.sl 1 (List.map (rI .u8) data))]]) Ba C2 O O O O O (.cons (.cons (.same _) (.cons (.same _) .nil)) .nil) (fun x=>Kk x) O O (hK _ _ (Y O (Y O (Y O (Y O (Y O (Y O (Y O (Y O (Y O (Ad O Ab At)))))))))) ?_))
  clear hK K
  refine Cb fun hl=>Ch O O (fun _ _=>O) (fun K hK=>Eb (e:=Ah) (L:=r1) (L2:=[({ Term:=r.Term,Data:=data }:Record)]) (v:=v) (g:=g3) (st:=2) (j:=3) hI O O O vH O (Fe O) Ba Ba O C2 O O O hl fun v1 g4 vH1=>hK _ _ (Y O (Y O (Y O (Y O (Y O (Y O (Y O (Y O (Y O (Ad O Ab At)))))))))) ?_)
  clear hK K
  refine Z (.q ids 2 g2) O O (Ar O)<|Z (.q ids 2 g2) O O (Aj (Ag (c:=0) (off:=0) (i:=0) Bc O As O))<|Z (.ptr (ix ids 2) g2 0 4) O O (Aj (Ag (c:=0) (off:=4) (i:=4) As O Ba O))<|Bi O (fun _ _=>O) (fun K hK=>A3 (B8 vH1 hI O O O O Ba O O O) (hK _ _ (Y O (Y O (Y O (Y O (Y O (Y O (Y O (Y O (Y O (Y O (Y O (Y O (Y O At))))))))))))) ?_))
  clear hK K
  refine Bb<|Az ?_
  exact Bk (hJ (r1++[({ Term:=r.Term,Data:=data }:Record)]) _ _ ⟨v1,g4,vH1,O,O⟩)
 refine Fp<|Z (.q ids 2 g2) O O Ab<|Z (.ptr (ix ids 0) g 0 4) O O (Aj (Ag (c:=0) (off:=4) (i:=4) As O Ba O))<|Z (.sl 2 (List.map Ah r.Log)) O O (An (Aq hI O O O Ba O))<|Z (.q ids 2 g2) O O Ab<|Z (.q ids 2 g2) O O (Ar O)<|Z (.q ids 2 g2) O O (Aj (Ag (c:=0) (off:=0) (i:=0) Bc O As O)) ?_
 refine Z (.ptr (ix ids 2) g2 0 2) O O (Aj (Ag (c:=0) (off:=2) (i:=2) As O Av O))<|Z (.I r.Term) O O (An (Aq hI O O O Av O))<|Z (.sl 1 (List.map (rI .u8) data)) O O Ab<|Z (.agg [(.I r.Term),(.sl 1 (List.map (rI .u8) data))]) O O (Du (Hn C2 Ua O))<|Ch O O (fun _ _=>O) (fun K hK=>Hp (e:=Ah) (L:=[({ Term:=r.Term,Data:=data }:Record)]) (st:=2) (rows:=[[(.I r.Term),(.sl 1 (List.map (rI .u8) data))]]) Ba C2 O O O O O (.cons (.cons (.same _) (.cons (.same _) .nil)) .nil) (fun x=>Kk x) O O (hK _ _ (Y O (Y O (Y O (Y O (Y O (Y O (Y O (Ad O (An (Aq hI O O O Ba O)) (Ad O (Aj (Ag (c:=0) (off:=4) (i:=4) As O Ba O)) (Ad O Ab At)))))))))) ?_))
 clear hK K
 refine Adf (j:=3) [(.sl 2 (List.map Ah r.Log))] O hI O O O O O O ((Qb r.Log) _ _ (hI.at O O)) (fun v _ _ _=>Bh Tryz.func10 hI) fun r2 _ v2 g5 vH2=>⟨(Y O (Y O (Y O (Y O (Y O (Y O (Y O (Y O (Y O (Ad O Ab At)))))))))),?_⟩
 refine Cb fun hl1=>Ch O O (fun _ _=>O) (fun K hK=>Eb (e:=Ah) (L:=r2) (L2:=[({ Term:=r.Term,Data:=data }:Record)]) (v:=v2) (g:=g5) (st:=2) (j:=3) hI O O O vH2 O (Fe O) Ba Ba O C2 O O O hl1 fun v3 g6 vH3=>hK _ _ (Y O (Y O (Y O (Y O (Y O (Y O (Y O (Y O (Y O (Ad O Ab At)))))))))) ?_)
 clear hK K
 refine Z (.q ids 2 g2) O O (Ar O)<|Z (.q ids 2 g2) O O (Aj (Ag (c:=0) (off:=0) (i:=0) Bc O As O))<|Z (.ptr (ix ids 2) g2 0 4) O O (Aj (Ag (c:=0) (off:=4) (i:=4) As O Ba O))<|Bi O (fun _ _=>O) (fun K hK=>A3 (B8 vH3 hI O O O O Ba O O O) (hK _ _ (Y O (Y O (Y O (Y O (Y O (Y O (Y O (Y O (Y O (Y O (Y O (Y O (Y O At))))))))))))) ?_))
 clear hK K
 refine Bb<|Az ?_
 exact Bk (hJ (r2++[({ Term:=r.Term,Data:=data }:Record)]) _ _ ⟨v3,g6,vH3,O,O⟩)
theorem Io (a0:AV)(h:Ai):J1 Tryz.prog 50 [a0] .ret h (R2 (fun _:Unit=>h) .ret (.ok ())):=by
 refine Pb (n:=3) Tryz.func50 O (by decide) O O ?_ ⟨(),O⟩
 refine B0 (Ax (m':=(I8).bind fun _ =>   .ok ()) O ?_)
 refine Aa<|Ys O<|Be [.nili,a0] O O O O ((Qg a0) _) (fun v hv=>by unfold I8 at hv; cases hv) fun _ _=>?_
 refine Af<|Rb Tryz.func50 O O O
theorem Jf (s_Replica:Replica)(h0:Ai)(o0:Nat)(o1:Nat)(o2:Nat)(w:AV)(g:Nat)(hI0:Ids h0 [o0,o1,o2] 3):Cl s_Replica≠.bad→Bv Tryz.prog 27 [(.ptr o0 g 0 0)] (hp h0 [o0,o1,o2] [some (.rows g 10 [[(.int .i64 s_Replica.ID),(.int .i64 s_Replica.Many),(.int .i64 s_Replica.Term),(.int .i64 s_Replica.Vote),(.sl 2 (List.map Ah s_Replica.Log)),(.int .i64 s_Replica.Role),(.int .i64 s_Replica.Commit),(.sl 1 (List.map rB s_Replica.Votes)),(.sl 1 (List.map (rI .i64) s_Replica.Match)),w]]),none,none]) (Ei (fun a_ v h' => ∃ (v19:AV),∃ (g19:Nat),∃ (v20:AV),∃ (g20:Nat),A9 v19 o1 g19 a_.1.length∧A9 v20 o2 g20 a_.2.length∧v=(.tup [])∧h'=hp h0 [o0,o1,o2] [some (.rows g 10 [[(.int .i64 s_Replica.ID),(.int .i64 s_Replica.Many),(.int .i64 s_Replica.Term),(.int .i64 s_Replica.Vote),(.sl 2 (List.map Ah s_Replica.Log)),(.int .i64 0),(.int .i64 s_Replica.Commit),v19,v20,w]]),A5 v19 g19 1 (List.map rB a_.1),A5 v20 g20 1 (List.map (rI .i64) a_.2)]) h0 (Cl s_Replica)):=by
 refine Cm (n:=30) 0 Tryz.func27 O (by decide) O O hI0 O fun ids he hI=>?_
 clear hI0
 obtain rfl:ix ids 0=o0:=he 0 rfl
 obtain rfl:ix ids 1=o1:=he 1 rfl
 obtain rfl:ix ids 2=o2:=he 2 rfl
 clear he
 refine B0 (Ax (Cl.eq_1 _) ?_)
 refine Ac<|Aa<|Ae (.I 0) O Au<|Af<|Ac<|Ac<|Aa ?_
 refine Al 5 [0] [(7,(.I s_Replica.Many))] ?_
 refine Be [(.I s_Replica.Many),(.I 0),(.I 5)] O O O O ((Db s_Replica.Many 0 5) _) (fun v _=>Ca (K:=3) (N:=0) Tryz.func27 hI) fun r _=>Af<|Dn (fun n=>F7 n) (fun n=>fun(fr:Nat→AV) (h:Ai)=>fr=A0 [(0,(.q ids 0 g)),(2,(.I n))]∧h=hp h0 ids [(some (.rows g 10 [[(.I s_Replica.ID),(.I s_Replica.Many),(.I s_Replica.Term),(.I s_Replica.Vote),(.sl 2 (List.map Ah s_Replica.Log)),(.I s_Replica.Role),(.I s_Replica.Commit),(.sl 1 (List.map rB s_Replica.Votes)),(.sl 1 (List.map (rI .i64) s_Replica.Match)),w]])),none,none]) ?_ fun hJ1=>?_
 ·rintro n fr h ⟨rfl,rfl⟩
  refine Ax (F7.eq_1 _)<|Dn (D1 fun l l1=>Hm l l1) (D1 fun l l1=>fun(fr:Nat→AV) (h:Ai) => ∃ (v17:AV),∃ (g17:Nat),∃ (v18:AV),∃ (g18:Nat),A9 v17 (ix ids 1) g17 l.length∧A9 v18 (ix ids 2) g18 l1.length∧fr=A0 []∧h=hp h0 ids [(some (.rows g 10 [[(.I s_Replica.ID),(.I s_Replica.Many),(.I s_Replica.Term),(.I s_Replica.Vote),(.sl 2 (List.map Ah s_Replica.Log)),(.I 0),(.I s_Replica.Commit),v17,v18,w]])),(A5 v17 g17 1 (List.map rB l)),(A5 v18 g18 1 (List.map (rI .i64) l1))]) ?_ fun hJ=>?_
  ·rintro⟨l,l1⟩ fr h ⟨v17,g17,v18,g18,vH16,vH17,rfl,rfl⟩
   refine Ax (Hm.eq_1 _ _)<|Fi (K:=3) (N:=0) (a:=(l,l1)) (vs:=[]) [some (.rows g 10 [[(.I s_Replica.ID),(.I s_Replica.Many),(.I s_Replica.Term),(.I s_Replica.Vote),(.sl 2 (List.map Ah s_Replica.Log)),(.I 0),(.I s_Replica.Commit),v17,v18,w]]),A5 v17 g17 1 (List.map rB l),A5 v18 g18 1 (List.map (rI .i64) l1)] Tryz.func27 hI O O O (.keep (.keep (.keep .nil))) (.same _) ⟨v17,g17,v18,g18,vH16,vH17,O,O⟩
  refine R9 Da (.node 14 6 (.node 10 6 (.node 10 4 (.node 6 4 (.leaf [[],[],[],[],[3,3],[],[3,4,5],[0,0],[0,7],[0,7,8],[0,3,4,5,6,7,8,9],[0,1,3,4,5,6,7,8,9,10],[0,1,3,4,5,6,7,8,9,10,11],[0,1,3,4,5,6,7,8,9,10,11,12],[0,1,3,4,5,6,7,8,9,10,11,12,13],[0,1,2,2,3,4,5,6,7,8,9,10,11,12,13,14],[0,1,2,3,4,5,6,7,8,9,10,11,12,13,14,15],[0,1,2,3,4,5,6,7,8,9,10,11,12,13,14,15,16],[0,1,2,3,4,5,6,7,8,9,10,11,12,13,14,15,16,17]] [(false,0),(false,1),(false,2),(false,3),(false,5),(false,7),(false,8),(false,9),(true,4),(true,6),(true,10),(false,11),(false,12),(false,13),(true,14),(false,15),(false,16),(false,17),(true,18)]) (.leaf [[],[],[],[],[3,5,6],[],[5,5],[0,0],[0,7],[0,7,8],[0,3,4,5,6,7,8,9],[0,1,3,4,5,6,7,8,9,10],[0,1,3,4,5,6,7,8,9,10,11],[0,1,3,4,5,6,7,8,9,10,11,12],[0,1,3,4,5,6,7,8,9,10,11,12,13],[0,1,2,2,3,4,5,6,7,8,9,10,11,12,13,14],[0,1,2,3,4,5,6,7,8,9,10,11,12,13,14,15],[0,1,2,3,4,5,6,7,8,9,10,11,12,13,14,15,16],[0,1,2,3,4,5,6,7,8,9,10,11,12,13,14,15,16,17]] [(false,0),(false,1),(false,2),(false,3),(false,5),(false,7),(false,8),(false,9),(true,6),(true,4),(true,10),(false,11),(false,12),(false,13),(true,14),(false,15),(false,16),(false,17),(true,18)])) (.leaf [[],[],[],[],[0,3,5,6,7,8,9,10],[],[5,5],[0,0],[0,7],[0,7,8],[0,5,6,7,8,9],[0,1,3,4,5,6,7,8,9,10],[0,1,3,4,5,6,7,8,9,10,11],[0,1,3,4,5,6,7,8,9,10,11,12],[0,1,3,4,5,6,7,8,9,10,11,12,13],[0,1,2,2,3,4,5,6,7,8,9,10,11,12,13,14],[0,1,2,3,4,5,6,7,8,9,10,11,12,13,14,15],[0,1,2,3,4,5,6,7,8,9,10,11,12,13,14,15,16],[0,1,2,3,4,5,6,7,8,9,10,11,12,13,14,15,16,17]] [(false,0),(false,1),(false,2),(false,3),(false,5),(false,7),(false,8),(false,9),(true,6),(true,10),(true,4),(false,11),(false,12),(false,13),(true,14),(false,15),(false,16),(false,17),(true,18)])) (.node 6 4 (.node 10 4 (.leaf [[],[],[],[],[3,3],[],[0,3,4,5,7,8,9,10],[0,0],[0,7],[0,7,8],[0,3,4,7,8,9],[0,1,1,3,4,7,8,9,10],[0,1,3,4,7,8,9,10,11],[0,1,3,4,7,8,9,10,11,12],[0,1,3,4,5,6,7,8,9,10,11,12,13],[0,1,2,2,3,4,5,6,7,8,9,10,11,12,13,14],[0,1,2,3,4,5,6,7,8,9,10,11,12,13,14,15],[0,1,2,3,4,5,6,7,8,9,10,11,12,13,14,15,16],[0,1,2,3,4,5,6,7,8,9,10,11,12,13,14,15,16,17]] [(false,0),(false,1),(false,2),(false,3),(false,5),(false,7),(false,8),(false,9),(true,4),(true,10),(false,11),(false,12),(false,13),(true,6),(true,14),(false,15),(false,16),(false,17),(true,18)]) (.leaf [[],[],[],[],[0,3,7,8,9,10],[],[0,3,4,5,7,8,9,10],[0,0],[0,7],[0,7,8],[0,7,8,9],[0,1,1,3,4,7,8,9,10],[0,1,3,4,7,8,9,10,11],[0,1,3,4,7,8,9,10,11,12],[0,1,3,4,5,6,7,8,9,10,11,12,13],[0,1,2,2,3,4,5,6,7,8,9,10,11,12,13,14],[0,1,2,3,4,5,6,7,8,9,10,11,12,13,14,15],[0,1,2,3,4,5,6,7,8,9,10,11,12,13,14,15,16],[0,1,2,3,4,5,6,7,8,9,10,11,12,13,14,15,16,17]] [(false,0),(false,1),(false,2),(false,3),(false,5),(false,7),(false,8),(false,9),(true,10),(true,4),(false,11),(false,12),(false,13),(true,6),(true,14),(false,15),(false,16),(false,17),(true,18)])) (.leaf [[],[],[],[],[0,3,5,6,7,8,9,10],[],[0,5,7,8,9,10],[0,0],[0,7],[0,7,8],[0,7,8,9],[0,1,3,4,5,6,7,8,9,10],[0,1,3,4,5,6,7,8,9,10,11],[0,1,3,4,5,6,7,8,9,10,11,12],[0,1,3,4,5,6,7,8,9,10,11,12,13],[0,1,2,2,3,4,5,6,7,8,9,10,11,12,13,14],[0,1,2,3,4,5,6,7,8,9,10,11,12,13,14,15],[0,1,2,3,4,5,6,7,8,9,10,11,12,13,14,15,16],[0,1,2,3,4,5,6,7,8,9,10,11,12,13,14,15,16,17]] [(false,0),(false,1),(false,2),(false,3),(false,5),(false,7),(false,8),(false,9),(true,10),(true,6),(true,4),(false,11),(false,12),(false,13),(true,14),(false,15),(false,16),(false,17),(true,18)]))) (.node 10 4 (.leaf [[],[],[],[],[3,3],[],[0,1,3,4,5,7,8,9,10,11,12,13,14],[0,0],[0,7],[0,7,8],[0,3,4,7,8,9],[0,1,1,3,4,7,8,9,10],[0,1,3,4,7,8,9,10,11],[0,1,3,4,7,8,9,10,11,12],[0,1,3,4,7,8,9,10,11,12,13],[0,1,2,2,3,4,5,6,7,8,9,10,11,12,13,14],[0,1,2,3,4,5,6,7,8,9,10,11,12,13,14,15],[0,1,2,3,4,5,6,7,8,9,10,11,12,13,14,15,16],[0,1,2,3,4,5,6,7,8,9,10,11,12,13,14,15,16,17]] [(false,0),(false,1),(false,2),(false,3),(false,5),(false,7),(false,8),(false,9),(true,4),(true,10),(false,11),(false,12),(false,13),(true,14),(true,6),(false,15),(false,16),(false,17),(true,18)]) (.leaf [[],[],[],[],[0,3,7,8,9,10],[],[0,1,3,4,5,7,8,9,10,11,12,13,14],[0,0],[0,7],[0,7,8],[0,7,8,9],[0,1,1,3,4,7,8,9,10],[0,1,3,4,7,8,9,10,11],[0,1,3,4,7,8,9,10,11,12],[0,1,3,4,7,8,9,10,11,12,13],[0,1,2,2,3,4,5,6,7,8,9,10,11,12,13,14],[0,1,2,3,4,5,6,7,8,9,10,11,12,13,14,15],[0,1,2,3,4,5,6,7,8,9,10,11,12,13,14,15,16],[0,1,2,3,4,5,6,7,8,9,10,11,12,13,14,15,16,17]] [(false,0),(false,1),(false,2),(false,3),(false,5),(false,7),(false,8),(false,9),(true,10),(true,4),(false,11),(false,12),(false,13),(true,14),(true,6),(false,15),(false,16),(false,17),(true,18)]))) (by kernel_rfl)<|H4 ?_ ?_
  ·refine H4 ?_ ?_
   ·refine H4 ?_ ?_
    ·refine H4 ?_ ?_
     ·refine Fp<|Z (.q ids 0 g) O O Ab<|Z (.q ids 0 g) O O Ab<|Z (.q ids 0 g) O O Ab<|Z (.I n) O O Ab<|Z (.I n) O O Ab<|Z (.q ids 0 g) O O (Ar O) ?_
      refine Z (.q ids 0 g) O O (Aj (Ag (c:=0) (off:=0) (i:=0) Bc O As O))<|Z (.ptr (ix ids 0) g 0 5) O O (Aj (Ag (c:=0) (off:=5) (i:=5) As O Av O))<|Cb fun hl=>Ch O O (fun _ _=>O) (fun K hK=>Dc (y:=(false:Bool)) (e:=rB) (st:=1) (j:=1) hI O O O Cn Gm O O hl.1 hl.2.1 hl.2.2 O O O O O fun v1 g1 vH=>hK _ _ (Ad O (Aj (Ag (c:=0) (off:=5) (i:=5) As O Av O)) (Ad O (Aj (Ag (c:=0) (off:=0) (i:=0) Bc O As O)) (Ad O (Ar O) (Ad O Ab (Y O (Ad O Ab (Ad O Ab (Ad O Ab At)))))))) ?_)
      clear hK K
      refine Cb fun hl1=>Ch O O (fun _ _=>O) (fun K hK=>Dc (y:=(0:Int)) (e:=(rI .i64)) (st:=1) (j:=2) hI O O O Bt Av O O hl1.1 hl1.2.1 hl1.2.2 O O O O O fun v2 g2 vH1=>hK _ _ (Ad O (Aj (Ag (c:=0) (off:=5) (i:=5) As O Av O)) (Ad O (Aj (Ag (c:=0) (off:=0) (i:=0) Bc O As O)) (Ad O (Ar O) (Y O (Y O (Ad O Ab (Ad O Ab (Ad O Ab At)))))))) ?_)
      clear hK K
      refine Bi O (fun _ _=>O) (fun K hK=>A3 (A6 (v:=(.I 0)) hI O O O O Av O O O O O) (hK _ _ (Y O (Y O (Y O (Y O (Y O (Ad O Ab (Ad O Ab (Y O At)))))))) ?_))
      clear hK K
      refine Z (.q ids 0 g) O O (Ar O)<|Z (.q ids 0 g) O O (Aj (Ag (c:=0) (off:=0) (i:=0) Bc O As O))<|Z (.ptr (ix ids 0) g 0 7) O O (Aj (Ag (c:=0) (off:=7) (i:=7) As O Cn O))<|Bi O (fun _ _=>O) (fun K hK=>A3 (B8 vH hI O O O O Cn O O O) (hK _ _ (Y O (Y O (Y O (Y O (Y O (Y O (Y O (Y O (Ad O Ab (Y O (Y O At))))))))))) ?_))
      clear hK K
      refine Z (.q ids 0 g) O O (Ar O)<|Z (.q ids 0 g) O O (Aj (Ag (c:=0) (off:=0) (i:=0) Bc O As O))<|Z (.ptr (ix ids 0) g 0 8) O O (Aj (Ag (c:=0) (off:=8) (i:=8) As O Bt O))<|Bi O (fun _ _=>O) (fun K hK=>A3 (B8 vH1 hI O O O O Bt O O O) (hK _ _ (Y O (Y O (Y O (Y O (Y O (Y O (Y O (Y O (Y O (Y O (Y O (Y O (Y O (Y O At)))))))))))))) ?_))
      clear hK K
      refine Bb<|Az ?_
      exact Bk (hJ ((List.replicate (Int.toNat n) false),(List.replicate (Int.toNat n) (0:Int))) _ _ ⟨v1,g1,v2,g2,vH,vH1,O,O⟩)
     refine Fp<|Cb fun hl3=>Cb fun hl2=>Z (.q ids 0 g) O O Ab<|Z (.q ids 0 g) O O Ab<|Z (.q ids 0 g) O O Ab<|Z (.I n) O O Ab ?_
     refine Z (.I n) O O Ab<|Z (.q ids 0 g) O O (Ar O)<|Z (.q ids 0 g) O O (Aj (Ag (c:=0) (off:=0) (i:=0) Bc O As O))<|Z (.ptr (ix ids 0) g 0 5) O O (Aj (Ag (c:=0) (off:=5) (i:=5) As O Av O))<|Ch O O (fun _ _=>O) (fun K hK=>Dc (y:=(0:Int)) (e:=(rI .i64)) (st:=1) (j:=2) hI O O O Bt Av O O hl2.1 hl2.2.1 hl2.2.2 O O O O O fun v3 g3 vH2=>hK _ _ (Ad O (Aj (Ag (c:=0) (off:=5) (i:=5) As O Av O)) (Ad O (Aj (Ag (c:=0) (off:=0) (i:=0) Bc O As O)) (Ad O (Ar O) (Y O (Ad O Ab (Ad O Ab (Ad O Ab (Ad O Ab At)))))))) ?_)
     clear hK K
     refine Ch O O (fun _ _=>O) (fun K hK=>Dc (y:=(false:Bool)) (e:=rB) (st:=1) (j:=1) hI O O O Cn Gm O O hl3.1 hl3.2.1 hl3.2.2 O O O O O fun v4 g4 vH3=>hK _ _ (Ad O (Aj (Ag (c:=0) (off:=5) (i:=5) As O Av O)) (Ad O (Aj (Ag (c:=0) (off:=0) (i:=0) Bc O As O)) (Ad O (Ar O) (Y O (Y O (Ad O Ab (Ad O Ab (Ad O Ab At)))))))) ?_)
     clear hK K
     refine Bi O (fun _ _=>O) (fun K hK=>A3 (A6 (v:=(.I 0)) hI O O O O Av O O O O O) (hK _ _ (Y O (Y O (Y O (Y O (Y O (Ad O Ab (Ad O Ab (Y O At)))))))) ?_))
     clear hK K
     refine Z (.q ids 0 g) O O (Ar O)<|Z (.q ids 0 g) O O (Aj (Ag (c:=0) (off:=0) (i:=0) Bc O As O))<|Z (.ptr (ix ids 0) g 0 7) O O (Aj (Ag (c:=0) (off:=7) (i:=7) As O Cn O))<|Bi O (fun _ _=>O) (fun K hK=>A3 (B8 vH3 hI O O O O Cn O O O) (hK _ _ (Y O (Y O (Y O (Y O (Y O (Y O (Y O (Y O (Ad O Ab (Y O (Y O At))))))))))) ?_))
     clear hK K
     refine Z (.q ids 0 g) O O (Ar O)<|Z (.q ids 0 g) O O (Aj (Ag (c:=0) (off:=0) (i:=0) Bc O As O))<|Z (.ptr (ix ids 0) g 0 8) O O (Aj (Ag (c:=0) (off:=8) (i:=8) As O Bt O))<|Bi O (fun _ _=>O) (fun K hK=>A3 (B8 vH2 hI O O O O Bt O O O) (hK _ _ (Y O (Y O (Y O (Y O (Y O (Y O (Y O (Y O (Y O (Y O (Y O (Y O (Y O (Y O At)))))))))))))) ?_))
     clear hK K
     refine Bb<|Az ?_
     exact Bk (hJ ((List.replicate (Int.toNat n) false),(List.replicate (Int.toNat n) (0:Int))) _ _ ⟨v4,g4,v3,g3,vH3,vH2,O,O⟩)
    refine Fp<|Cb fun hl5=>Cb fun hl4=>Z (.q ids 0 g) O O Ab<|Z (.q ids 0 g) O O Ab<|Z (.q ids 0 g) O O Ab<|Z (.I n) O O Ab ?_
    refine Z (.I n) O O Ab<|Z (.q ids 0 g) O O (Ar O)<|Z (.q ids 0 g) O O (Aj (Ag (c:=0) (off:=0) (i:=0) Bc O As O))<|Z (.ptr (ix ids 0) g 0 5) O O (Aj (Ag (c:=0) (off:=5) (i:=5) As O Av O))<|Ch O O (fun _ _=>O) (fun K hK=>Dc (y:=(0:Int)) (e:=(rI .i64)) (st:=1) (j:=2) hI O O O Bt Av O O hl4.1 hl4.2.1 hl4.2.2 O O O O O fun v5 g5 vH4=>hK _ _ (Ad O (Aj (Ag (c:=0) (off:=5) (i:=5) As O Av O)) (Ad O (Aj (Ag (c:=0) (off:=0) (i:=0) Bc O As O)) (Ad O (Ar O) (Y O (Ad O Ab (Ad O Ab (Ad O Ab (Ad O Ab At)))))))) ?_)
    clear hK K
    refine Bi O (fun _ _=>O) (fun K hK=>A3 (A6 (v:=(.I 0)) hI O O O O Av O O O O O) (hK _ _ (Y O (Y O (Y O (Y O (Ad O Ab (Ad O Ab (Ad O Ab (Y O At)))))))) ?_))
    clear hK K
    refine Ch O O (fun _ _=>O) (fun K hK=>Dc (y:=(false:Bool)) (e:=rB) (st:=1) (j:=1) hI O O O Cn Gm O O hl5.1 hl5.2.1 hl5.2.2 O O O O O fun v6 g6 vH5=>hK _ _ (Y O (Y O (Y O (Y O (Y O (Ad O Ab (Ad O Ab (Y O At)))))))) ?_)
    clear hK K
    refine Z (.q ids 0 g) O O (Ar O)<|Z (.q ids 0 g) O O (Aj (Ag (c:=0) (off:=0) (i:=0) Bc O As O))<|Z (.ptr (ix ids 0) g 0 7) O O (Aj (Ag (c:=0) (off:=7) (i:=7) As O Cn O))<|Bi O (fun _ _=>O) (fun K hK=>A3 (B8 vH5 hI O O O O Cn O O O) (hK _ _ (Y O (Y O (Y O (Y O (Y O (Y O (Y O (Y O (Ad O Ab (Y O (Y O At))))))))))) ?_))
    clear hK K
    refine Z (.q ids 0 g) O O (Ar O)<|Z (.q ids 0 g) O O (Aj (Ag (c:=0) (off:=0) (i:=0) Bc O As O))<|Z (.ptr (ix ids 0) g 0 8) O O (Aj (Ag (c:=0) (off:=8) (i:=8) As O Bt O))<|Bi O (fun _ _=>O) (fun K hK=>A3 (B8 vH4 hI O O O O Bt O O O) (hK _ _ (Y O (Y O (Y O (Y O (Y O (Y O (Y O (Y O (Y O (Y O (Y O (Y O (Y O (Y O At)))))))))))))) ?_))
    clear hK K
    refine Bb<|Az ?_
    exact Bk (hJ ((List.replicate (Int.toNat n) false),(List.replicate (Int.toNat n) (0:Int))) _ _ ⟨v6,g6,v5,g5,vH5,vH4,O,O⟩)
   refine H4 ?_ ?_
   ·refine H4 ?_ ?_
    ·refine Fp<|Cb fun hl6=>Cb fun hl7=>Z (.q ids 0 g) O O Ab<|Z (.q ids 0 g) O O Ab<|Z (.q ids 0 g) O O Ab<|Z (.I n) O O Ab ?_
     refine Z (.I n) O O Ab<|Z (.q ids 0 g) O O (Ar O)<|Z (.q ids 0 g) O O (Aj (Ag (c:=0) (off:=0) (i:=0) Bc O As O))<|Z (.ptr (ix ids 0) g 0 5) O O (Aj (Ag (c:=0) (off:=5) (i:=5) As O Av O))<|Ch O O (fun _ _=>O) (fun K hK=>Dc (y:=(false:Bool)) (e:=rB) (st:=1) (j:=1) hI O O O Cn Gm O O hl6.1 hl6.2.1 hl6.2.2 O O O O O fun v7 g7 vH6=>hK _ _ (Ad O (Aj (Ag (c:=0) (off:=5) (i:=5) As O Av O)) (Ad O (Aj (Ag (c:=0) (off:=0) (i:=0) Bc O As O)) (Ad O (Ar O) (Ad O Ab (Y O (Ad O Ab (Ad O Ab (Ad O Ab At)))))))) ?_)
     clear hK K
     refine Bi O (fun _ _=>O) (fun K hK=>A3 (A6 (v:=(.I 0)) hI O O O O Av O O O O O) (hK _ _ (Y O (Y O (Y O (Ad O Ab (Y O (Ad O Ab (Ad O Ab (Y O At)))))))) ?_))
     clear hK K
     refine Z (.q ids 0 g) O O (Ar O)<|Z (.q ids 0 g) O O (Aj (Ag (c:=0) (off:=0) (i:=0) Bc O As O))<|Z (.ptr (ix ids 0) g 0 7) O O (Aj (Ag (c:=0) (off:=7) (i:=7) As O Cn O))<|Ch O O (fun _ _=>O) (fun K hK=>Dc (y:=(0:Int)) (e:=(rI .i64)) (st:=1) (j:=2) hI O O O Bt Av O O hl7.1 hl7.2.1 hl7.2.2 O O O O O fun v8 g8 vH7=>hK _ _ (Ad O (Aj (Ag (c:=0) (off:=7) (i:=7) As O Cn O)) (Ad O (Aj (Ag (c:=0) (off:=0) (i:=0) Bc O As O)) (Ad O (Ar O) (Y O (Y O (Y O (Y O (Y O (Ad O Ab (Ad O Ab (Y O At))))))))))) ?_)
     clear hK K
     refine Bi O (fun _ _=>O) (fun K hK=>A3 (B8 vH6 hI O O O O Cn O O O) (hK _ _ (Y O (Y O (Y O (Y O (Y O (Y O (Y O (Y O (Ad O Ab (Y O (Y O At))))))))))) ?_))
     clear hK K
     refine Z (.q ids 0 g) O O (Ar O)<|Z (.q ids 0 g) O O (Aj (Ag (c:=0) (off:=0) (i:=0) Bc O As O))<|Z (.ptr (ix ids 0) g 0 8) O O (Aj (Ag (c:=0) (off:=8) (i:=8) As O Bt O))<|Bi O (fun _ _=>O) (fun K hK=>A3 (B8 vH7 hI O O O O Bt O O O) (hK _ _ (Y O (Y O (Y O (Y O (Y O (Y O (Y O (Y O (Y O (Y O (Y O (Y O (Y O (Y O At)))))))))))))) ?_))
     clear hK K
     refine Bb<|Az ?_
     exact Bk (hJ ((List.replicate (Int.toNat n) false),(List.replicate (Int.toNat n) (0:Int))) _ _ ⟨v7,g7,v8,g8,vH6,vH7,O,O⟩)
    refine Fp<|Cb fun hl8=>Cb fun hl9=>Z (.q ids 0 g) O O Ab<|Z (.q ids 0 g) O O Ab<|Z (.q ids 0 g) O O Ab<|Z (.I n) O O Ab ?_
    refine Z (.I n) O O Ab<|Z (.q ids 0 g) O O (Ar O)<|Z (.q ids 0 g) O O (Aj (Ag (c:=0) (off:=0) (i:=0) Bc O As O))<|Z (.ptr (ix ids 0) g 0 5) O O (Aj (Ag (c:=0) (off:=5) (i:=5) As O Av O))<|Bi O (fun _ _=>O) (fun K hK=>A3 (A6 (v:=(.I 0)) hI O O O O Av O O O O O) (hK _ _ (Y O (Y O (Y O (Ad O Ab (Ad O Ab (Ad O Ab (Ad O Ab (Y O At)))))))) ?_))
    clear hK K
    refine Ch O O (fun _ _=>O) (fun K hK=>Dc (y:=(false:Bool)) (e:=rB) (st:=1) (j:=1) hI O O O Cn Gm O O hl8.1 hl8.2.1 hl8.2.2 O O O O O fun v9 g9 vH8=>hK _ _ (Y O (Y O (Y O (Ad O Ab (Y O (Ad O Ab (Ad O Ab (Y O At)))))))) ?_)
    clear hK K
    refine Z (.q ids 0 g) O O (Ar O)<|Z (.q ids 0 g) O O (Aj (Ag (c:=0) (off:=0) (i:=0) Bc O As O))<|Z (.ptr (ix ids 0) g 0 7) O O (Aj (Ag (c:=0) (off:=7) (i:=7) As O Cn O))<|Ch O O (fun _ _=>O) (fun K hK=>Dc (y:=(0:Int)) (e:=(rI .i64)) (st:=1) (j:=2) hI O O O Bt Av O O hl9.1 hl9.2.1 hl9.2.2 O O O O O fun v10 g10 vH9=>hK _ _ (Ad O (Aj (Ag (c:=0) (off:=7) (i:=7) As O Cn O)) (Ad O (Aj (Ag (c:=0) (off:=0) (i:=0) Bc O As O)) (Ad O (Ar O) (Y O (Y O (Y O (Y O (Y O (Ad O Ab (Ad O Ab (Y O At))))))))))) ?_)
    clear hK K
    refine Bi O (fun _ _=>O) (fun K hK=>A3 (B8 vH8 hI O O O O Cn O O O) (hK _ _ (Y O (Y O (Y O (Y O (Y O (Y O (Y O (Y O (Ad O Ab (Y O (Y O At))))))))))) ?_))
    clear hK K
    refine Z (.q ids 0 g) O O (Ar O)<|Z (.q ids 0 g) O O (Aj (Ag (c:=0) (off:=0) (i:=0) Bc O As O))<|Z (.ptr (ix ids 0) g 0 8) O O (Aj (Ag (c:=0) (off:=8) (i:=8) As O Bt O))<|Bi O (fun _ _=>O) (fun K hK=>A3 (B8 vH9 hI O O O O Bt O O O) (hK _ _ (Y O (Y O (Y O (Y O (Y O (Y O (Y O (Y O (Y O (Y O (Y O (Y O (Y O (Y O At)))))))))))))) ?_))
    clear hK K
    refine Bb<|Az ?_
    exact Bk (hJ ((List.replicate (Int.toNat n) false),(List.replicate (Int.toNat n) (0:Int))) _ _ ⟨v9,g9,v10,g10,vH8,vH9,O,O⟩)
   refine Fp<|Cb fun hl11=>Cb fun hl10=>Z (.q ids 0 g) O O Ab<|Z (.q ids 0 g) O O Ab<|Z (.q ids 0 g) O O Ab<|Z (.I n) O O Ab ?_
   refine Z (.I n) O O Ab<|Z (.q ids 0 g) O O (Ar O)<|Z (.q ids 0 g) O O (Aj (Ag (c:=0) (off:=0) (i:=0) Bc O As O))<|Z (.ptr (ix ids 0) g 0 5) O O (Aj (Ag (c:=0) (off:=5) (i:=5) As O Av O))<|Bi O (fun _ _=>O) (fun K hK=>A3 (A6 (v:=(.I 0)) hI O O O O Av O O O O O) (hK _ _ (Y O (Y O (Y O (Ad O Ab (Ad O Ab (Ad O Ab (Ad O Ab (Y O At)))))))) ?_))
   clear hK K
   refine Ch O O (fun _ _=>O) (fun K hK=>Dc (y:=(0:Int)) (e:=(rI .i64)) (st:=1) (j:=2) hI O O O Bt Av O O hl10.1 hl10.2.1 hl10.2.2 O O O O O fun v11 g11 vH10=>hK _ _ (Y O (Y O (Y O (Y O (Ad O Ab (Ad O Ab (Ad O Ab (Y O At)))))))) ?_)
   clear hK K
   refine Ch O O (fun _ _=>O) (fun K hK=>Dc (y:=(false:Bool)) (e:=rB) (st:=1) (j:=1) hI O O O Cn Gm O O hl11.1 hl11.2.1 hl11.2.2 O O O O O fun v12 g12 vH11=>hK _ _ (Y O (Y O (Y O (Y O (Y O (Ad O Ab (Ad O Ab (Y O At)))))))) ?_)
   clear hK K
   refine Z (.q ids 0 g) O O (Ar O)<|Z (.q ids 0 g) O O (Aj (Ag (c:=0) (off:=0) (i:=0) Bc O As O))<|Z (.ptr (ix ids 0) g 0 7) O O (Aj (Ag (c:=0) (off:=7) (i:=7) As O Cn O))<|Bi O (fun _ _=>O) (fun K hK=>A3 (B8 vH11 hI O O O O Cn O O O) (hK _ _ (Y O (Y O (Y O (Y O (Y O (Y O (Y O (Y O (Ad O Ab (Y O (Y O At))))))))))) ?_))
   clear hK K
   refine Z (.q ids 0 g) O O (Ar O)<|Z (.q ids 0 g) O O (Aj (Ag (c:=0) (off:=0) (i:=0) Bc O As O))<|Z (.ptr (ix ids 0) g 0 8) O O (Aj (Ag (c:=0) (off:=8) (i:=8) As O Bt O))<|Bi O (fun _ _=>O) (fun K hK=>A3 (B8 vH10 hI O O O O Bt O O O) (hK _ _ (Y O (Y O (Y O (Y O (Y O (Y O (Y O (Y O (Y O (Y O (Y O (Y O (Y O (Y O At)))))))))))))) ?_))
   clear hK K
   refine Bb<|Az ?_
   exact Bk (hJ ((List.replicate (Int.toNat n) false),(List.replicate (Int.toNat n) (0:Int))) _ _ ⟨v12,g12,v11,g11,vH11,vH10,O,O⟩)
  refine H4 ?_ ?_
  ·refine Fp<|Cb fun hl12=>Cb fun hl13=>Z (.q ids 0 g) O O Ab<|Z (.q ids 0 g) O O Ab<|Z (.q ids 0 g) O O Ab<|Z (.I n) O O Ab ?_
   refine Z (.I n) O O Ab<|Z (.q ids 0 g) O O (Ar O)<|Z (.q ids 0 g) O O (Aj (Ag (c:=0) (off:=0) (i:=0) Bc O As O))<|Z (.ptr (ix ids 0) g 0 5) O O (Aj (Ag (c:=0) (off:=5) (i:=5) As O Av O))<|Ch O O (fun _ _=>O) (fun K hK=>Dc (y:=(false:Bool)) (e:=rB) (st:=1) (j:=1) hI O O O Cn Gm O O hl12.1 hl12.2.1 hl12.2.2 O O O O O fun v13 g13 vH12=>hK _ _ (Ad O (Aj (Ag (c:=0) (off:=5) (i:=5) As O Av O)) (Ad O (Aj (Ag (c:=0) (off:=0) (i:=0) Bc O As O)) (Ad O (Ar O) (Ad O Ab (Y O (Ad O Ab (Ad O Ab (Ad O Ab At)))))))) ?_)
   clear hK K
   refine Bi O (fun _ _=>O) (fun K hK=>A3 (A6 (v:=(.I 0)) hI O O O O Av O O O O O) (hK _ _ (Y O (Y O (Y O (Ad O Ab (Y O (Ad O Ab (Ad O Ab (Y O At)))))))) ?_))
   clear hK K
   refine Z (.q ids 0 g) O O (Ar O)<|Z (.q ids 0 g) O O (Aj (Ag (c:=0) (off:=0) (i:=0) Bc O As O))<|Z (.ptr (ix ids 0) g 0 7) O O (Aj (Ag (c:=0) (off:=7) (i:=7) As O Cn O))<|Bi O (fun _ _=>O) (fun K hK=>A3 (B8 vH12 hI O O O O Cn O O O) (hK _ _ (Y O (Y O (Y O (Y O (Y O (Y O (Ad O Ab (Y O (Ad O Ab (Y O (Y O At))))))))))) ?_))
   clear hK K
   refine Ch O O (fun _ _=>O) (fun K hK=>Dc (y:=(0:Int)) (e:=(rI .i64)) (st:=1) (j:=2) hI O O O Bt Av O O hl13.1 hl13.2.1 hl13.2.2 O O O O O fun v14 g14 vH13=>hK _ _ (Y O (Y O (Y O (Y O (Y O (Y O (Y O (Y O (Ad O Ab (Y O (Y O At))))))))))) ?_)
   clear hK K
   refine Z (.q ids 0 g) O O (Ar O)<|Z (.q ids 0 g) O O (Aj (Ag (c:=0) (off:=0) (i:=0) Bc O As O))<|Z (.ptr (ix ids 0) g 0 8) O O (Aj (Ag (c:=0) (off:=8) (i:=8) As O Bt O))<|Bi O (fun _ _=>O) (fun K hK=>A3 (B8 vH13 hI O O O O Bt O O O) (hK _ _ (Y O (Y O (Y O (Y O (Y O (Y O (Y O (Y O (Y O (Y O (Y O (Y O (Y O (Y O At)))))))))))))) ?_))
   clear hK K
   refine Bb<|Az ?_
   exact Bk (hJ ((List.replicate (Int.toNat n) false),(List.replicate (Int.toNat n) (0:Int))) _ _ ⟨v13,g13,v14,g14,vH12,vH13,O,O⟩)
  refine Fp<|Cb fun hl14=>Cb fun hl15=>Z (.q ids 0 g) O O Ab<|Z (.q ids 0 g) O O Ab<|Z (.q ids 0 g) O O Ab<|Z (.I n) O O Ab ?_
  refine Z (.I n) O O Ab<|Z (.q ids 0 g) O O (Ar O)<|Z (.q ids 0 g) O O (Aj (Ag (c:=0) (off:=0) (i:=0) Bc O As O))<|Z (.ptr (ix ids 0) g 0 5) O O (Aj (Ag (c:=0) (off:=5) (i:=5) As O Av O))<|Bi O (fun _ _=>O) (fun K hK=>A3 (A6 (v:=(.I 0)) hI O O O O Av O O O O O) (hK _ _ (Y O (Y O (Y O (Ad O Ab (Ad O Ab (Ad O Ab (Ad O Ab (Y O At)))))))) ?_))
  clear hK K
  refine Ch O O (fun _ _=>O) (fun K hK=>Dc (y:=(false:Bool)) (e:=rB) (st:=1) (j:=1) hI O O O Cn Gm O O hl14.1 hl14.2.1 hl14.2.2 O O O O O fun v15 g15 vH14=>hK _ _ (Y O (Y O (Y O (Ad O Ab (Y O (Ad O Ab (Ad O Ab (Y O At)))))))) ?_)
  clear hK K
  refine Z (.q ids 0 g) O O (Ar O)<|Z (.q ids 0 g) O O (Aj (Ag (c:=0) (off:=0) (i:=0) Bc O As O))<|Z (.ptr (ix ids 0) g 0 7) O O (Aj (Ag (c:=0) (off:=7) (i:=7) As O Cn O))<|Bi O (fun _ _=>O) (fun K hK=>A3 (B8 vH14 hI O O O O Cn O O O) (hK _ _ (Y O (Y O (Y O (Y O (Y O (Y O (Ad O Ab (Y O (Ad O Ab (Y O (Y O At))))))))))) ?_))
  clear hK K
  refine Ch O O (fun _ _=>O) (fun K hK=>Dc (y:=(0:Int)) (e:=(rI .i64)) (st:=1) (j:=2) hI O O O Bt Av O O hl15.1 hl15.2.1 hl15.2.2 O O O O O fun v16 g16 vH15=>hK _ _ (Y O (Y O (Y O (Y O (Y O (Y O (Y O (Y O (Ad O Ab (Y O (Y O At))))))))))) ?_)
  clear hK K
  refine Z (.q ids 0 g) O O (Ar O)<|Z (.q ids 0 g) O O (Aj (Ag (c:=0) (off:=0) (i:=0) Bc O As O))<|Z (.ptr (ix ids 0) g 0 8) O O (Aj (Ag (c:=0) (off:=8) (i:=8) As O Bt O))<|Bi O (fun _ _=>O) (fun K hK=>A3 (B8 vH15 hI O O O O Bt O O O) (hK _ _ (Y O (Y O (Y O (Y O (Y O (Y O (Y O (Y O (Y O (Y O (Y O (Y O (Y O (Y O At)))))))))))))) ?_))
  clear hK K
  refine Bb<|Az ?_
  exact Bk (hJ ((List.replicate (Int.toNat n) false),(List.replicate (Int.toNat n) (0:Int))) _ _ ⟨v15,g15,v16,g16,vH14,vH15,O,O⟩)
 refine Cp O (fun hc=>?_) (fun hc=>?_)
 ·refine Aa<|Al 6 [0] [(2,(.I s_Replica.Many))] ?_
  refine Af<|Bk (hJ1 s_Replica.Many _ _ ⟨O,O⟩)
 refine Bd<|Bk (hJ1 0 _ _ ⟨O,O⟩)
theorem Nl (s:T61):CP Tryz.prog 32 [(.cp (W6 s) 0)] (F1 s) (fun(x:Int)=>(AV.int .i64 x)):=by
 refine C7 (n:=25) 0 Tryz.func32 O (by decide) O O fun h0 ids hI=>B0 (Ax (F1.eq_1 _) ?_)
 refine Ac<|Aa<|Ae (.I 0) O Au<|Af<|Ac<|Ac<|Aa ?_
 refine Al 5 [] [(7,(.sl 2 (List.map Ah s.Replica.Log)))] ?_
 refine Ae (.I (s.Replica.Log.length:Int)) O (Bm (Bo Ba))<|Ae (.bool ((s.Replica.Log.length:Int)==0)) O (Bf O O O)<|Af<|Cp O (fun hc=>?_) (fun hc=>?_)
 ·refine Ac<|Aa<|Ae (.I 0) O Au<|Af<|B3 (a:=0) (vs:=[(.I 0)]) Tryz.func32 hI O (.same _)
 refine Bd<|Ac<|B4 Da [[],[0],[0,1],[0,1,2],[0,1,2,3],[],[5],[5,6],[5,6,7],[5,6,7,8],[5,6,7,8,9],[5,6,7,8,9,10],[0,1,2,3,4,5,6,7,8,9,10,11],[0,1,2,3,4,5,6,7,8,9,10,11,12],[0,1,2,3,4,5,6,7,8,9,10,11,12,13],[0,1,2,3,4,5,6,7,8,9,10,11,12,13,14,14]] [(false,0),(false,1),(false,2),(false,3),(false,4),(false,5),(false,6),(false,7),(false,8),(false,9),(false,10),(false,11),(false,12),(false,13),(false,14),(false,15)] (by kernel_rfl)<|Z (.cp (W6 s) 0) O O Ab<|Z (.cp (W6 s) 0) O O (Ar O)<|Z (.cp (W6 s) 0) O O (Aj (N7 (c:=0) (off:=0) (i:=0) Bc O As O))<|Z (.cp (W6 s) 4) O O (Aj (N7 (c:=0) (off:=4) (i:=4) As O Ba O)) ?_
 refine Z (.sl 2 (List.map Ah s.Replica.Log)) O O (An (Eh Ba O))<|Z (.cp (W6 s) 0) O O Ab<|Z (.cp (W6 s) 0) O O (Ar O)<|Z (.cp (W6 s) 0) O O (Aj (N7 (c:=0) (off:=0) (i:=0) Bc O As O))<|Z (.cp (W6 s) 4) O O (Aj (N7 (c:=0) (off:=4) (i:=4) As O Ba O))<|Z (.sl 2 (List.map Ah s.Replica.Log)) O O (An (Eh Ba O))<|Z (.I (s.Replica.Log.length:Int)) O O (Bm (Bo Ba)) ?_
 refine Z (.I (IntKind.wrap .i64 ((s.Replica.Log.length:Int) - 1))) O O (Bf O O O)<|G0 fun a hz hx1=>Z (.cp (Ah a) 0) O O (Bu (E6 Ba C2 O hz hx1))<|Z (.cp (Ah a) 0) O O (Aj (N7 (c:=0) (off:=0) (i:=0) C2 O Av O))<|Z (.I a.Term) O O (An (Eh Av O))<|Z (.I a.Term) O O Au<|Bb ?_
 exact B3 (a:=a.Term) (vs:=[(.I a.Term)]) Tryz.func32 hI O (.same _)
theorem P9 (vto:Int)(mKind:Int)(mFrom:Int)(mTo:Int)(mTerm:Int)(mLast:Int)(mLastTerm:Int)(mCommit:Int)(mMatch:Int)(mGranted:Bool)(s_Replica:Replica)(h0:Ai)(o0:Nat)(o1:Nat)(g:Nat)(hI0:Ids h0 [o0,o1] 2):H1 vto mKind mFrom mTo mTerm mLast mLastTerm mCommit mMatch mGranted s_Replica≠.bad→Bv Tryz.prog 61 [(.ptr o0 g 0 0),(.int .i64 vto),(.agg [(.int .i64 mKind),(.int .i64 mFrom),(.int .i64 mTo),(.int .i64 mTerm),(.int .i64 mLast),(.int .i64 mLastTerm),.emp,(.int .i64 mCommit),(.int .i64 mMatch),(.bool mGranted)])] (hp h0 [o0,o1] [some (.rows g 10 [[(.int .i64 s_Replica.ID),(.int .i64 s_Replica.Many),(.int .i64 s_Replica.Term),(.int .i64 s_Replica.Vote),(.sl 2 (List.map Ah s_Replica.Log)),(.int .i64 s_Replica.Role),(.int .i64 s_Replica.Commit),(.sl 1 (List.map rB s_Replica.Votes)),(.sl 1 (List.map (rI .i64) s_Replica.Match)),.emp]]),none]) (Ei (fun a_ v h' => ∃ (v2:AV),∃ (g3:Nat),A9 v2 o1 g3 a_.length∧v=(.tup [])∧h'=hp h0 [o0,o1] [some (.rows g 10 [[(.int .i64 s_Replica.ID),(.int .i64 s_Replica.Many),(.int .i64 s_Replica.Term),(.int .i64 s_Replica.Vote),(.sl 2 (List.map Ah s_Replica.Log)),(.int .i64 s_Replica.Role),(.int .i64 s_Replica.Commit),(.sl 1 (List.map rB s_Replica.Votes)),(.sl 1 (List.map (rI .i64) s_Replica.Match)),v2]]),A5 v2 g3 10 (List.map Ak a_)]) h0 (H1 vto mKind mFrom mTo mTerm mLast mLastTerm mCommit mMatch mGranted s_Replica)):=by
 refine Cm (n:=30) 1 Tryz.func61 O (by decide) O O hI0 O fun ids he hI=>?_
 clear hI0
 obtain rfl:ix ids 0=o0:=he 0 rfl
 obtain rfl:ix ids 1=o1:=he 1 rfl
 clear he
 refine B0 (Ax (H1.eq_1 _ _ _ _ _ _ _ _ _ _ _) ?_)
 refine Az ?_
 refine Ac<|Aa<|Cy (v:=(.agg [(.I mKind),(.I mFrom),(.I mTo),(.I mTerm),(.I mLast),(.I mLastTerm),.emp,(.I mCommit),(.I mMatch),(.bool mGranted)])) (j:=2) hI O O O O O O O fun g1=>Af<|Az ?_
 refine Ac<|B4 Da [[],[0],[0,1],[0,1,2],[0,1,2,3],[],[],[6],[6,7],[6,7,8],[6,7,8,9],[0,1,2,3,4],[0,1,2,3,4,4,11],[0,1,2,3,4,5,11,12],[0,1,2,3,4,5,5,11,12,12,13],[0,1,2,3,4,5,6,7,8,9,10,11,12,13,14],[0,1,2,3,4,5,6,7,8,9,10,10,11,12,13,14,14,15]] [(false,0),(false,1),(false,2),(false,3),(false,4),(false,5),(false,6),(false,7),(false,8),(false,9),(false,10),(false,11),(true,12),(false,13),(true,14),(false,15),(true,16)] (by kernel_rfl)<|Z (.q ids 0 g) O O Ab<|Z (.q ids 0 g) O O (Ar O)<|Z (.q ids 0 g) O O (Aj (Ag (c:=0) (off:=0) (i:=0) Bc O As O))<|Z (.q ids 0 g) O O (Aj (Ag (c:=0) (off:=0) (i:=0) As O Av O))<|Z (.I s_Replica.ID) O O (An (Aq hI O O O Av O)) ?_
 refine Z (.I vto) O O Ab<|Z (.q ids 0 g) O O Ab<|Z (.q ids 0 g) O O (Ar O)<|Z (.q ids 0 g) O O (Aj (Ag (c:=0) (off:=0) (i:=0) Bc O As O))<|Z (.ptr (ix ids 0) g 0 2) O O (Aj (Ag (c:=0) (off:=2) (i:=2) As O Av O))<|Z (.I s_Replica.Term) O O (An (Aq hI O O O Av O))<|Z (.ptr (ix ids 2) g1 0 1) O O (Aj (Ag (c:=0) (off:=1) (i:=1) Bx O Av O)) ?_
 refine Bi O (fun _ _=>O) (fun K hK=>A3 (A6 (v:=(.I s_Replica.ID)) hI O O O O Av O O O O O) (hK _ _ (Y O (Ad O (An (Aq hI O O O Av O)) (Ad O (Aj (Ag (c:=0) (off:=2) (i:=2) As O Av O)) (Ad O (Aj (Ag (c:=0) (off:=0) (i:=0) Bc O As O)) (Ad O (Ar O) (Ad O Ab (Ad O Ab (Y O (Y O (Y O (Y O (Y O At)))))))))))) ?_))
 clear hK K
 refine Z (.ptr (ix ids 2) g1 0 2) O O (Aj (Ag (c:=0) (off:=2) (i:=2) Bx O Av O))<|Bi O (fun _ _=>O) (fun K hK=>A3 (A6 (v:=(.I vto)) hI O O O O Av O O O O O) (hK _ _ (Y O (Y O (Ad O (An (Aq hI O O O Av O)) (Ad O (Aj (Ag (c:=0) (off:=2) (i:=2) As O Av O)) (Ad O (Aj (Ag (c:=0) (off:=0) (i:=0) Bc O As O)) (Ad O (Ar O) (Ad O Ab (Y O (Y O (Y O (Y O (Y O (Y O At))))))))))))) ?_))
 clear hK K
 refine Z (.ptr (ix ids 2) g1 0 3) O O (Aj (Ag (c:=0) (off:=3) (i:=3) Bx O Av O))<|Bi O (fun _ _=>O) (fun K hK=>A3 (A6 (v:=(.I s_Replica.Term)) hI O O O O Av O O O O O) (hK _ _ (Y O (Y O (Y O (Y O (Y O (Y O (Y O (Y O (Y O (Y O (Y O (Y O (Y O (Y O At)))))))))))))) ?_))
 clear hK K
 refine Bb<|Az ?_
 refine B4 Da [[],[],[1],[1,2],[1,2,3],[],[5],[1,2,3,4,5,6],[0,0,1,2,3,4,5,6,7],[0,1,2,3,4,5,6,7,8],[0,1,2,3,4,5,6,7,8,9]] [(false,0),(false,1),(false,2),(false,3),(false,4),(false,5),(true,6),(true,7),(false,8),(false,9),(true,10)] (by kernel_rfl)<|Z (.q ids 0 g) O O Ab<|Z (.q ids 0 g) O O Ab<|Z (.q ids 0 g) O O (Ar O)<|Z (.ptr (ix ids 0) g 0 9) O O (Aj (Ag (c:=0) (off:=9) (i:=1) Bc O Ct O))<|Z .emp O O (An (Aq hI O O O Ct O))<|Z (.agg [(.I mKind),(.I s_Replica.ID),(.I vto),(.I s_Replica.Term),(.I mLast),(.I mLastTerm),.emp,(.I mCommit),(.I mMatch),(.bool mGranted)]) O O (An (Aq hI O O O Bx O)) ?_
 refine Ch O O (fun _ _=>O) (fun K hK=>Hp (e:=Ak) (L:=[({ Kind:=mKind,From:=s_Replica.ID,To:=vto,Term:=s_Replica.Term,Last:=mLast,LastTerm:=mLastTerm,Log:=[],Commit:=mCommit,Match:=mMatch,Granted:=mGranted }:Message)]) (st:=10) (rows:=[[(.I mKind),(.I s_Replica.ID),(.I vto),(.I s_Replica.Term),(.I mLast),(.I mLastTerm),.emp,(.I mCommit),(.I mMatch),(.bool mGranted)]]) Ct Bx O O O O O (.cons (.cons (.same _) (.cons (.same _) (.cons (.same _) (.cons (.same _) (.cons (.same _) (.cons (.same _) (.cons (.emp _) (.cons (.same _) (.cons (.same _) (.cons (.same _) .nil)))))))))) .nil) (fun x=>F9 x) O O (hK _ _ (Y O (Ad O (An (Aq hI O O O Ct O)) (Ad O (Aj (Ag (c:=0) (off:=9) (i:=1) Bc O Ct O)) (Ad O (Ar O) (Ad O Ab (Ad O Ab At)))))) ?_))
 clear hK K
 refine Cb fun hl=>Ch O O (fun _ _=>O) (fun K hK=>Eb (e:=Ak) (L:=([]:List Message)) (L2:=[({ Kind:=mKind,From:=s_Replica.ID,To:=vto,Term:=s_Replica.Term,Last:=mLast,LastTerm:=mLastTerm,Log:=[],Commit:=mCommit,Match:=mMatch,Granted:=mGranted }:Message)]) (v:=.emp) (g:=0) (st:=10) (j:=1) hI O O O .nil O (Fe O) Ct Ct O Bx O O O (by simpa using hl) fun v1 g2 vH=>hK _ _ (Y O (Y O (Y O (Y O (Y O (Ad O Ab At)))))) ?_)
 clear hK K
 refine Z (.q ids 0 g) O O (Ar O)<|Z (.ptr (ix ids 0) g 0 9) O O (Aj (Ag (c:=0) (off:=9) (i:=1) Bc O Ct O))<|Bi O (fun _ _=>O) (fun K hK=>A3 (B8 vH hI O O O O Ct O O O) (hK _ _ (Y O (Y O (Y O (Y O (Y O (Y O (Y O (Y O At)))))))) ?_))
 clear hK K
 refine Bb<|Az ?_
 exact Fi (K:=2) (N:=1) (a:=[({ Kind:=mKind,From:=s_Replica.ID,To:=vto,Term:=s_Replica.Term,Last:=mLast,LastTerm:=mLastTerm,Log:=[],Commit:=mCommit,Match:=mMatch,Granted:=mGranted }:Message)]) (vs:=[]) [some (.rows g 10 [[(.I s_Replica.ID),(.I s_Replica.Many),(.I s_Replica.Term),(.I s_Replica.Vote),(.sl 2 (List.map Ah s_Replica.Log)),(.I s_Replica.Role),(.I s_Replica.Commit),(.sl 1 (List.map rB s_Replica.Votes)),(.sl 1 (List.map (rI .i64) s_Replica.Match)),v1]]),A5 v1 g2 10 (List.map Ak [({ Kind:=mKind,From:=s_Replica.ID,To:=vto,Term:=s_Replica.Term,Last:=mLast,LastTerm:=mLastTerm,Log:=[],Commit:=mCommit,Match:=mMatch,Granted:=mGranted }:Message)])] Tryz.func61 hI O O O (.keep (.keep (.drop .nil))) (.same _) ⟨v1,g2,vH,O,O⟩
theorem Vn (m:Message)(s_Replica:Replica)(h0:Ai)(o0:Nat)(o1:Nat)(g:Nat)(hI0:Ids h0 [o0,o1] 2):J4 m s_Replica≠.bad→Bv Tryz.prog 51 [(.ptr o0 g 0 0),(.agg (Ak m))] (hp h0 [o0,o1] [some (.rows g 10 [[(.int .i64 s_Replica.ID),(.int .i64 s_Replica.Many),(.int .i64 s_Replica.Term),(.int .i64 s_Replica.Vote),(.sl 2 (List.map Ah s_Replica.Log)),(.int .i64 s_Replica.Role),(.int .i64 s_Replica.Commit),(.sl 1 (List.map rB s_Replica.Votes)),(.sl 1 (List.map (rI .i64) s_Replica.Match)),.emp]]),none]) (Ei (fun a_ v h' => ∃ (v2:AV),∃ (g3:Nat),A9 v2 o1 g3 a_.2.length∧v=(.tup [])∧h'=hp h0 [o0,o1] [some (.rows g 10 [[(.int .i64 a_.1.ID),(.int .i64 a_.1.Many),(.int .i64 a_.1.Term),(.int .i64 a_.1.Vote),(.sl 2 (List.map Ah a_.1.Log)),(.int .i64 a_.1.Role),(.int .i64 a_.1.Commit),(.sl 1 (List.map rB a_.1.Votes)),(.sl 1 (List.map (rI .i64) a_.1.Match)),v2]]),A5 v2 g3 10 (List.map Ak a_.2)]) h0 (J4 m s_Replica)):=by
 refine Cm (n:=71) 1 Tryz.func51 O (by decide) O O hI0 O fun ids he hI=>?_
 clear hI0
 obtain rfl:ix ids 0=o0:=he 0 rfl
 obtain rfl:ix ids 1=o1:=he 1 rfl
 clear he
 refine B0 (Ax (J4.eq_1 _ _) ?_)
 refine Az ?_
 refine Ac<|Aa<|Cy (v:=(.agg (Ak m))) (j:=2) hI O O O O O O O fun g1=>Af<|Az ?_
 refine Ac<|Dn (fun good=>In m s_Replica good) (fun good=>fun(fr:Nat→AV) (h:Ai)=>fr=A0 [(0,(.q ids 0 g)),(3,(.q ids 2 g1)),(4,(.bool good))]∧h=hp h0 ids [(some (.rows g 10 [[(.I s_Replica.ID),(.I s_Replica.Many),(.I s_Replica.Term),(.I s_Replica.Vote),(.sl 2 (List.map Ah s_Replica.Log)),(.I s_Replica.Role),(.I s_Replica.Commit),(.sl 1 (List.map rB s_Replica.Votes)),(.sl 1 (List.map (rI .i64) s_Replica.Match)),.emp]])),none,(some (.rows g1 10 [(Ak m)]))]) ?_ fun hJ2=>?_
 ·rintro good fr h ⟨rfl,rfl⟩
  refine Ax (In.eq_1 _ _ _)<|Ac<|Dn (fun granted=>G7 m s_Replica granted) (fun granted=>fun(fr:Nat→AV) (h:Ai)=>fr=A0 [(0,(.q ids 0 g)),(3,(.q ids 2 g1)),(5,(.bool granted))]∧h=hp h0 ids [(some (.rows g 10 [[(.I s_Replica.ID),(.I s_Replica.Many),(.I s_Replica.Term),(.I s_Replica.Vote),(.sl 2 (List.map Ah s_Replica.Log)),(.I s_Replica.Role),(.I s_Replica.Commit),(.sl 1 (List.map rB s_Replica.Votes)),(.sl 1 (List.map (rI .i64) s_Replica.Match)),.emp]])),none,(some (.rows g1 10 [(Ak m)]))]) ?_ fun hJ1=>?_
  ·rintro granted fr h ⟨rfl,rfl⟩
   refine Ax (G7.eq_1 _ _ _)<|Ac<|Ac<|Aa<|Ae (.bool granted) O Ab<|Af<|Dn (fun vReplica=>Kc m granted vReplica) (fun vReplica=>fun(fr:Nat→AV) (h:Ai)=>fr=A0 [(0,(.q ids 0 g)),(3,(.q ids 2 g1)),(5,(.bool granted))]∧h=hp h0 ids [(some (.rows g 10 [[(.I vReplica.ID),(.I vReplica.Many),(.I vReplica.Term),(.I vReplica.Vote),(.sl 2 (List.map Ah vReplica.Log)),(.I vReplica.Role),(.I vReplica.Commit),(.sl 1 (List.map rB vReplica.Votes)),(.sl 1 (List.map (rI .i64) vReplica.Match)),.emp]])),none,(some (.rows g1 10 [(Ak m)]))]) ?_ fun hJ=>?_
   ·rintro vReplica fr h ⟨rfl,rfl⟩
    refine Ax (Kc.eq_1 _ _ _)<|Aa<|Al 5 [2] [(69,(.agg [(.I 2),(.I 0),(.I 0),(.I 0),(.I 0),(.I 0),.emp,(.I 0),(.I 0),(.bool granted)])),(67,(.I m.From)),(65,(.q ids 0 g))] ?_
    refine Ck [0,1] hI O O (P9 m.From 2 0 0 0 0 0 0 0 granted vReplica _ (ix ids 0) (ix ids 1) g (by exact hI.sub' O O)) O O O O O O (fun v _=>Ca (K:=2) (N:=1) Tryz.func51 hI) ?_
    rintro r2 _ _ _ ⟨v1,g2,vH,rfl,rfl⟩
    refine Dz [0,1] hI O O O ?_
    refine C1<|Af<|Az ?_
    exact Fi (K:=2) (N:=1) (a:=(vReplica,r2)) (vs:=[]) [some (.rows g 10 [[(.I vReplica.ID),(.I vReplica.Many),(.I vReplica.Term),(.I vReplica.Vote),(.sl 2 (List.map Ah vReplica.Log)),(.I vReplica.Role),(.I vReplica.Commit),(.sl 1 (List.map rB vReplica.Votes)),(.sl 1 (List.map (rI .i64) vReplica.Match)),v1]]),A5 v1 g2 10 (List.map Ak r2)] Tryz.func51 hI O O O (.keep (.keep (.drop .nil))) (.same _) ⟨v1,g2,vH,O,O⟩
   refine Cp O (fun hc=>?_) (fun hc=>?_)
   ·refine Aa<|Al 6 [2] [(64,(.ptr (ix ids 0) g 0 3)),(61,(.I m.From))] ?_
    refine A4 (A6 (v:=(.I m.From)) hI O O O O Av O O O O O)<|Af<|Az ?_
    exact Bk (hJ ({ ID:=s_Replica.ID,Many:=s_Replica.Many,Term:=s_Replica.Term,Vote:=m.From,Log:=s_Replica.Log,Role:=s_Replica.Role,Commit:=s_Replica.Commit,Votes:=s_Replica.Votes,Match:=s_Replica.Match }:Replica) _ _ ⟨O,O⟩)
   refine Bd<|Bk (hJ s_Replica _ _ ⟨O,O⟩)
  refine B4 Da [[],[0],[],[2],[2,3],[2,3,4],[2,3,4,5],[0,1,2,3,4,5,6],[0,1,2,3,4,5,6,7],[0,1,2,3,4,5,6,7,8],[0,1,2,3,4,5,6,7,8,9],[0,1,2,3,4,5,6,7,8,9,10],[0,1,2,3,4,5,6,7,8,9,10,11],[0,1,2,3,4,5,6,7,8,9,10,11,12],[0,1,2,3,4,5,6,7,8,9,10,11,12,13],[0,1,2,3,4,5,6,7,8,9,10,11,12,13,14],[0,1,2,3,4,5,6,7,8,9,10,11,12,13,14,15],[0,1,2,3,4,5,6,7,8,9,10,11,12,13,14,15,16],[0,1,2,3,4,5,6,7,8,9,10,11,12,13,14,15,16,17],[0,1,2,3,4,5,6,7,8,9,10,11,12,13,14,15,16,17,18],[0,1,2,3,4,5,6,7,8,9,10,11,12,13,14,15,16,17,18,19],[0,1,2,3,4,5,6,7,8,9,10,11,12,13,14,15],[0,1,2,3,4,5,6,7,8,9,10,11,12,13,14,15,21],[0,1,2,3,4,5,6,7,8,9,10,11,12,13,14,15,16,17,18,19,20,21,22],[0,1,2,3,4,5,6,7,8,9,10,11,12,13,14,15,16,17,18,19,20,21,22,23],[0,1,2,3,4,5,6,7,8,9,10,11,12,13,14,15,16,17,18,19,20,21,22,23,24],[0,1,2,3,4,5,6,7,8,9,10,11,12,13,14,15,16,17,18,19,20,21,22,23,24,25],[0,1,2,3,4,5,6,7,8,9,10,11,12,13,14,15,16,17,18,19,20,21,22,23,24,25,26],[0,1,2,3,4,5,6,7,8,9,10,11,12,13,14,15,16,17,18,19,20,21,22,23,24,25,26,27],[0,1,2,3,4,5,6,7,8,9,10,11,12,13,14,15,16,17,18,19,20,21,22,23,24,25,26,26,27,28,28]] [(false,0),(false,1),(false,2),(false,3),(false,4),(false,5),(false,6),(false,7),(false,8),(false,9),(false,10),(false,11),(false,12),(false,13),(false,14),(false,15),(false,16),(false,17),(false,18),(false,19),(false,20),(false,21),(false,22),(false,23),(false,24),(false,25),(false,26),(false,27),(false,28),(false,29)] (by kernel_rfl)<|Z (.ptr (ix ids 2) g1 0 3) O O (Aj (Ag (c:=0) (off:=3) (i:=3) Bx O Av O))<|Z (.I m.Term) O O (An (Aq hI O O O Av O))<|Z (.q ids 0 g) O O Ab<|Z (.q ids 0 g) O O (Ar O)<|Z (.q ids 0 g) O O (Aj (Ag (c:=0) (off:=0) (i:=0) Bc O As O))<|Z (.ptr (ix ids 0) g 0 2) O O (Aj (Ag (c:=0) (off:=2) (i:=2) As O Av O)) ?_
  refine Z (.I s_Replica.Term) O O (An (Aq hI O O O Av O))<|Z (.bool (m.Term==s_Replica.Term)) O O (Bf O O O)<|Z (.bool (m.Term==s_Replica.Term)) O O Ab<|Ge (fun hb2=>?_) (fun hb2=>?_)
  ·refine Ay (tj:=37) (.q ids 0 g) O O (congrArg AV.bool hb2) O Ab<|Ay (tj:=37) (.q ids 0 g) O O (congrArg AV.bool hb2) O (Ar O)<|Ay (tj:=37) (.q ids 0 g) O O (congrArg AV.bool hb2) O (Aj (Ag (c:=0) (off:=0) (i:=0) Bc O As O))<|Ay (tj:=37) (.ptr (ix ids 0) g 0 3) O O (congrArg AV.bool hb2) O (Aj (Ag (c:=0) (off:=3) (i:=3) As O Av O))<|Ay (tj:=37) (.I s_Replica.Vote) O O (congrArg AV.bool hb2) O (An (Aq hI O O O Av O))<|Ay (tj:=37) (.bool (s_Replica.Vote==(-1))) O O (congrArg AV.bool hb2) O (Bf O O O)<|Ay (tj:=37) (.bool (s_Replica.Vote==(-1))) O O (congrArg AV.bool hb2) O Ab ?_
   refine Ge (fun hb3=>?_) (fun hb3=>?_)
   ·refine A2 (tj:=44) (b:=true) O O (congrArg AV.bool hb3) O O<|A2 (tj:=44) (b:=true) O O (congrArg AV.bool hb3) O O<|A2 (tj:=44) (b:=true) O O (congrArg AV.bool hb3) O O<|A2 (tj:=44) (b:=true) O O (congrArg AV.bool hb3) O O<|A2 (tj:=44) (b:=true) O O (congrArg AV.bool hb3) O O<|A2 (tj:=44) (b:=true) O O (congrArg AV.bool hb3) O O<|A2 (tj:=44) (b:=true) O O (congrArg AV.bool hb3) O O ?_
    refine A2 (tj:=44) (b:=true) O O (congrArg AV.bool hb3) O O<|Ay (tj:=37) (.bool true) O O (congrArg AV.bool hb2) O (Bw (t:=true) (congrArg AV.bool hb3) O)<|Z (.bool true) O O (Bw (t:=true) (congrArg AV.bool hb2) O)<|Z (.bool true) O O Ab<|Ay (tj:=55) (.bool good) O O O O Ab<|Z (.bool good) O O (Bw (t:=true) O O)<|Z (.bool good) O O Au ?_
    refine Bb<|Bk (hJ1 good _ _ ⟨O,O⟩)
   refine Ay (tj:=44) (.q ids 0 g) O O (congrArg AV.bool hb3) O Ab<|Ay (tj:=44) (.q ids 0 g) O O (congrArg AV.bool hb3) O (Ar O)<|Ay (tj:=44) (.q ids 0 g) O O (congrArg AV.bool hb3) O (Aj (Ag (c:=0) (off:=0) (i:=0) Bc O As O))<|Ay (tj:=44) (.ptr (ix ids 0) g 0 3) O O (congrArg AV.bool hb3) O (Aj (Ag (c:=0) (off:=3) (i:=3) As O Av O))<|Ay (tj:=44) (.I s_Replica.Vote) O O (congrArg AV.bool hb3) O (An (Aq hI O O O Av O))<|Ay (tj:=44) (.ptr (ix ids 2) g1 0 1) O O (congrArg AV.bool hb3) O (Aj (Ag (c:=0) (off:=1) (i:=1) Bx O Av O))<|Ay (tj:=44) (.I m.From) O O (congrArg AV.bool hb3) O (An (Aq hI O O O Av O)) ?_
   refine Ay (tj:=44) (.bool (s_Replica.Vote==m.From)) O O (congrArg AV.bool hb3) O (Bf O O O)<|Ay (tj:=37) (.bool (s_Replica.Vote==m.From)) O O (congrArg AV.bool hb2) O (Bw (t:=false) (congrArg AV.bool hb3) O)<|Z (.bool (s_Replica.Vote==m.From)) O O (Bw (t:=true) (congrArg AV.bool hb2) O)<|Z (.bool (s_Replica.Vote==m.From)) O O Ab<|Ge (fun hb4=>?_) (fun hb4=>?_)
   ·refine Ay (tj:=55) (.bool good) O O (congrArg AV.bool hb4) O Ab<|Z (.bool good) O O (Bw (t:=true) (congrArg AV.bool hb4) O)<|Z (.bool good) O O Au<|Bb<|Bk (hJ1 good _ _ ⟨O,O⟩)
   refine A2 (tj:=55) (b:=false) O O (congrArg AV.bool hb4) O O<|Z (.bool false) O O (Bw (t:=false) (congrArg AV.bool hb4) O)<|Z (.bool false) O O Au<|Bb<|Bk (hJ1 false _ _ ⟨O,O⟩)
  refine A2 (tj:=37) (b:=false) O O (congrArg AV.bool hb2) O O<|A2 (tj:=37) (b:=false) O O (congrArg AV.bool hb2) O O<|A2 (tj:=37) (b:=false) O O (congrArg AV.bool hb2) O O<|A2 (tj:=37) (b:=false) O O (congrArg AV.bool hb2) O O<|A2 (tj:=37) (b:=false) O O (congrArg AV.bool hb2) O O<|A2 (tj:=37) (b:=false) O O (congrArg AV.bool hb2) O O<|A2 (tj:=37) (b:=false) O O (congrArg AV.bool hb2) O O ?_
  refine Cf (tj:=44) O O O O<|Cf (tj:=44) O O O O<|Cf (tj:=44) O O O O<|Cf (tj:=44) O O O O<|Cf (tj:=44) O O O O<|Cf (tj:=44) O O O O<|Cf (tj:=44) O O O O ?_
  refine Cf (tj:=44) O O O O<|A2 (tj:=37) (b:=false) O O (congrArg AV.bool hb2) O O<|Z (.bool false) O O (Bw (t:=false) (congrArg AV.bool hb2) O)<|Z (.bool false) O O Ab<|A2 (tj:=55) (b:=false) O O O O O<|Z (.bool false) O O (Bw (t:=false) O O)<|Z (.bool false) O O Au ?_
  refine Bb<|Bk (hJ1 false _ _ ⟨O,O⟩)
 refine B4 Da [[],[0],[],[2],[0,1,2,3],[0,1,2,3,4],[0,1,2,3,4,5],[0,1,2,3,4,5,6],[0,1,2,3,4,5],[0,1,2,3,4,5,8],[0,1,2,3,4,5,6,7,8,9],[0,1,2,3,4,5,6,7,8,9,10],[0,1,2,3,4,5,6,7,8,9,10,11],[0,1,2,3,4,5,6,7,8,9,10,11,12],[0,1,2,3,4,5,6,7,8,9,10,11],[0,1,2,3,4,5,6,7,8,9,10,11,14],[0,1,2,3,4,5,6,7,8,9,10,11,14,15],[0,1,2,3,4,5,6,7,8,9,10,11,14,15,16],[0,1,2,3,4,5,6,7,8,9,10,11,14,15,16,17],[0,1,2,3,4,5,6,7,8,9,10,11,14,15,16,17,18],[0,1,2,3,4,5,6,7,8,9,10,11,12,13,14,15,16,17,18,19],[0,1,2,3,4,5,6,7,8,9,10,11,12,13,14,15,16,17,18,19,20],[0,1,2,3,4,5,6,7,8,9,10,11,12,13,14,15,16,17,18,19,20,21],[0,1,2,3,4,5,6,7,8,9,10,11,11,12,13,14,15,16,17,18,19,20,21,22,22]] [(false,0),(false,1),(false,2),(true,3),(false,4),(false,5),(false,6),(false,7),(false,8),(true,9),(false,10),(false,11),(false,12),(false,13),(false,14),(false,15),(false,16),(false,17),(false,18),(false,19),(false,20),(false,21),(false,22),(false,23)] (by kernel_rfl)<|Z (.ptr (ix ids 2) g1 0 5) O O (Aj (Ag (c:=0) (off:=5) (i:=5) Bx O Av O))<|Z (.I m.LastTerm) O O (An (Aq hI O O O Av O))<|Z (.q ids 0 g) O O Ab<|Dy [(.q ids 0 g)] O O O O O (CP.lend (Nl ({ Replica:=s_Replica,fSent:=[] }:T61)) (LF.lfz (.cons (.ptrL (hI.at O O) O O (.cons (.same _) (.cons (.same _) (.cons (.same _) (.cons (.same _) (.cons (.same _) (.cons (.same _) (.cons (.same _) (.cons (.same _) (.cons (.same _) (.cons (.emp _) .nil))))))))))) .nil)) (fun _ _=>(.int _ _))) (fun v _ _ _=>Ca (K:=2) (N:=1) Tryz.func51 hI) (Y O (Ad O (An (Aq hI O O O Av O)) (Ad O (Aj (Ag (c:=0) (off:=5) (i:=5) Bx O Av O)) At))) fun r _=>Z (.bool (decide (m.LastTerm > r))) O O (Bf O O O)<|Z (.bool (decide (m.LastTerm > r))) O O Ab ?_
 refine Ge (fun hb=>?_) (fun hb=>?_)
 ·refine A2 (tj:=11) (b:=true) O O (congrArg AV.bool hb) O O<|A2 (tj:=11) (b:=true) O O (congrArg AV.bool hb) O O<|A2 (tj:=11) (b:=true) O O (congrArg AV.bool hb) O O<|Ow (tj:=11) (b:=true) O O (congrArg AV.bool hb) O O<|A2 (tj:=11) (b:=true) O O (congrArg AV.bool hb) O O<|A2 (tj:=11) (b:=true) O O (congrArg AV.bool hb) O O<|Cf (tj:=17) O O O O ?_
  refine Cf (tj:=17) O O O O<|Cf (tj:=17) O O O O<|Cf (tj:=17) O O O O<|Cf (tj:=17) O O O O<|Cf (tj:=17) O O O O<|Cf (tj:=17) O O O O<|Cf (tj:=17) O O O O ?_
  refine Cf (tj:=17) O O O O<|A2 (tj:=11) (b:=true) O O (congrArg AV.bool hb) O O<|Z (.bool true) O O (Bw (t:=true) (congrArg AV.bool hb) O)<|Z (.bool true) O O Au<|Bb<|Bk (hJ2 true _ _ ⟨O,O⟩)
 refine Ay (tj:=11) (.ptr (ix ids 2) g1 0 5) O O (congrArg AV.bool hb) O (Aj (Ag (c:=0) (off:=5) (i:=5) Bx O Av O))<|Ay (tj:=11) (.I m.LastTerm) O O (congrArg AV.bool hb) O (An (Aq hI O O O Av O))<|Ay (tj:=11) (.q ids 0 g) O O (congrArg AV.bool hb) O Ab<|Dy [(.q ids 0 g)] O (Cu (tj:=11) O (congrArg AV.bool hb)) O O O (CP.lend (Nl ({ Replica:=s_Replica,fSent:=[] }:T61)) (LF.lfz (.cons (.ptrL (hI.at O O) O O (.cons (.same _) (.cons (.same _) (.cons (.same _) (.cons (.same _) (.cons (.same _) (.cons (.same _) (.cons (.same _) (.cons (.same _) (.cons (.same _) (.cons (.emp _) .nil))))))))))) .nil)) (fun _ _=>(.int _ _))) (fun v _ _ _=>Ca (K:=2) (N:=1) Tryz.func51 hI) (Y O (Wj (tj:=11) O O (congrArg AV.bool hb) (An (Aq hI O O O Av O)) (Wj (tj:=11) O O (congrArg AV.bool hb) (Aj (Ag (c:=0) (off:=5) (i:=5) Bx O Av O)) (Y O (Y O (Y O (Y O (Y O At)))))))) fun r1 _=>Ay (tj:=11) (.bool (m.LastTerm==r1)) O O (congrArg AV.bool hb) O (Bf O O O)<|Ay (tj:=11) (.bool (m.LastTerm==r1)) O O (congrArg AV.bool hb) O Ab<|Ge (fun hb1=>?_) (fun hb1=>?_)
 ·refine Ay (tj:=17) (.ptr (ix ids 2) g1 0 4) O O (congrArg AV.bool hb1) O (Aj (Ag (c:=0) (off:=4) (i:=4) Bx O Av O))<|Ay (tj:=17) (.I m.Last) O O (congrArg AV.bool hb1) O (An (Aq hI O O O Av O))<|Ay (tj:=17) (.q ids 0 g) O O (congrArg AV.bool hb1) O Ab<|Ay (tj:=17) (.q ids 0 g) O O (congrArg AV.bool hb1) O (Ar O)<|Ay (tj:=17) (.q ids 0 g) O O (congrArg AV.bool hb1) O (Aj (Ag (c:=0) (off:=0) (i:=0) Bc O As O))<|Ay (tj:=17) (.ptr (ix ids 0) g 0 4) O O (congrArg AV.bool hb1) O (Aj (Ag (c:=0) (off:=4) (i:=4) As O Ba O))<|Ay (tj:=17) (.sl 2 (List.map Ah s_Replica.Log)) O O (congrArg AV.bool hb1) O (An (Aq hI O O O Ba O)) ?_
  refine Ay (tj:=17) (.I (s_Replica.Log.length:Int)) O O (congrArg AV.bool hb1) O (Bm (Bo Ba))<|Ay (tj:=17) (.bool (decide (m.Last≥(s_Replica.Log.length:Int)))) O O (congrArg AV.bool hb1) O (Bf O O O)<|Ay (tj:=11) (.bool (decide (m.Last≥(s_Replica.Log.length:Int)))) O O (congrArg AV.bool hb) O (Bw (t:=true) (congrArg AV.bool hb1) O)<|Z (.bool (decide (m.Last≥(s_Replica.Log.length:Int)))) O O (Bw (t:=false) (congrArg AV.bool hb) O)<|Z (.bool (decide (m.Last≥(s_Replica.Log.length:Int)))) O O Au<|Bb<|Bk (hJ2 (decide (m.Last≥(s_Replica.Log.length:Int))) _ _ ⟨O,O⟩)
 refine A2 (tj:=17) (b:=false) O O (congrArg AV.bool hb1) O O<|A2 (tj:=17) (b:=false) O O (congrArg AV.bool hb1) O O<|A2 (tj:=17) (b:=false) O O (congrArg AV.bool hb1) O O<|A2 (tj:=17) (b:=false) O O (congrArg AV.bool hb1) O O<|A2 (tj:=17) (b:=false) O O (congrArg AV.bool hb1) O O<|A2 (tj:=17) (b:=false) O O (congrArg AV.bool hb1) O O<|A2 (tj:=17) (b:=false) O O (congrArg AV.bool hb1) O O ?_
 refine A2 (tj:=17) (b:=false) O O (congrArg AV.bool hb1) O O<|A2 (tj:=17) (b:=false) O O (congrArg AV.bool hb1) O O<|Ay (tj:=11) (.bool false) O O (congrArg AV.bool hb) O (Bw (t:=false) (congrArg AV.bool hb1) O)<|Z (.bool false) O O (Bw (t:=false) (congrArg AV.bool hb) O)<|Z (.bool false) O O Au<|Bb<|Bk (hJ2 false _ _ ⟨O,O⟩)
theorem V9 (s:List Bool):CPO Tryz.prog 65 [(.sl 1 (List.map rB s))] (Mz s) 1 rB:=by
 refine Rc (n:=8) 0 Tryz.func65 O (by decide) O O fun h0 ids hI=>Qt (Mz.eq_1 _)<|Ac<|Aa<|Ae .emp O Au<|Af<|Ac ?_
 refine Ac<|Aa<|Ae (.sl 1 (List.map rB s)) O Ab<|Abk (L:=s) O Cn O fun c hc=>Af ?_
 by_cases hl:s.length * 1≤B2
 case neg=>rw [if_neg hl]; exact Adi
 rw [if_pos hl]
 refine Nc c O ?_
 cases c with
 | true=>
  have hs:=hc rfl
  subst hs
  refine Ac<|Aa<|Ae .emp O Au<|Af<|Pv (a:=[]) (v:=.emp) (g:=0) Tryz.func65 hI O O .nil O
 | false=>
  refine Bd<|Ac<|Aa<|Ug O Cn Gm<|Ae (.sl 1 (List.map rB s)) O Ab<|Kh (e:=rB) (L:=[]) (L2:=s) (v:=.emp) (g:=0) (st:=1) (j:=0) hI O O O O .nil O (Fe O) Cn Cn O Gm O O O (by simpa using hl) fun v g H=>Ae v O Au ?_
  refine Af<|Pv (a:=s) (v:=v) (g:=g) Tryz.func65 hI O O H O
end Go.Am
