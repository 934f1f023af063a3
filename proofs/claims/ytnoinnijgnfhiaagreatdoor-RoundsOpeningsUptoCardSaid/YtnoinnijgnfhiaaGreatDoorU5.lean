/- Written by shrink.py from texts of ours: comments struck, what is not reached left out, names short. -/
import Derived.Test.YtnoinnijgnfhiaaGreatDoorU4
namespace Go.Am
open Go
set_option maxRecDepth 100000
set_option maxHeartbeats 4000000
set_option linter.unusedSimpArgs false
set_option linter.unusedVariables false
noncomputable section
def L8 (l:List Int):R Unit:=Wg l
def G6 (a:Int)(m:(List (Int×Int)))(airlines:List Int):R ((List (Int×Int))×(List Int)):=
 if((decide (a<0))||(decide (a≥8))) then
(.ok (m,airlines))
else
(if((Option.getD (E7 m a) 0)==0) then
(if(airlines.length+[a].length) * 8≤Ci then
 .ok ((L9 m a (IntKind.wrap .i64 ((Option.getD (E7 m a) 0)+1))),(airlines++[a])) else .bad)
else
(.ok ((L9 m a (IntKind.wrap .i64 ((Option.getD (E7 m a) 0)+1))),airlines)))
def Fi (owners:List Int):R ((List Int)×(List (Int×Int))):=
 (eachS (fun _ a=>Do fun m airlines=>G6 a m airlines) 0 owners ([],[])).bind ((Do fun m airlines=>(L8 airlines).bind fun _=>
 .ok ((Pe airlines),m)))
def Jy (c:Clearing)(j:Nat)(a:Int)(last:Int):R (Int ⊕ Bool):=
 (if((decide (a≤last))||(decide (a > 4095))) then R.ok true else(idx c.Owners (j:Int)).bind fun a1=>
 R.ok (decide (a1<0))).bind (fun(b:Bool)=>(if b then R.ok true else(idx c.Owners (j:Int)).bind fun a2=>
 R.ok (decide (a2≥8))).bind (fun(b1:Bool)=>if b1 then
(.ok (.inr (false)))
else
(.ok (.inl a))))
def Ng (c:Clearing):R Bool:=
 if(((((((decide (c.No<1))||(decide (c.No > 1048576)))||(decide (c.Slots<1)))||(decide (c.Slots > 8)))||(decide ((c.Flights.length:Int)<1)))||(decide ((c.Flights.length:Int) > c.Slots)))||((c.Owners.length:Int) != (c.Flights.length:Int))) then
(.ok false)
else
((each (fun j a=>fun last=>Jy c j a last) 0 c.Flights (-1)).bind (alt (fun last=>(Fi c.Owners).bind fun r=>
 .ok ((c.Commitments.length:Int)==(r.1.length:Int))) (fun r=>.ok r)))
def Mg (v:(Vector Int 32))(j:Nat)(a:(Vector Int 32)):R (Unit ⊕ Int):=
 if(v==a) then
(.ok (.inr ((j:Int))))
else
(.ok (.inl ()))
def Ou (s:(List (Vector Int 32)))(v:(Vector Int 32)):R Int:=
 (each (fun j a=>fun _=>Mg v j a) 0 s ()).bind (alt (fun _=>.ok (-1)) (fun r=>.ok r))
def Jt (s:(List (Vector Int 32)))(v:(Vector Int 32)):R Bool:=
 (Ou s v).bind fun r=>
 .ok (decide (r≥0))
def Fq (c:Clearing):R Bool:=
 (Jt c.Commitments (#v[0,0,0,0,0,0,0,0,0,0,0,0,0,0,0,0,0,0,0,0,0,0,0,0,0,0,0,0,0,0,0,0]:(Vector Int 32))).bind fun r=>
 .ok (!r)
def Oi (c:Clearing):R Bool:=
 (Fq c).bind fun r=>
 .ok ((!r)&&((IntKind.wrap .i64 ((c.Openings.length:Int)+(c.Outcome.length:Int)))==0))
def Rs (a:Int):R Bool:=
 .ok (a != a)
def Kz (a:Int)(y:Int):R Int:=
 (Rs a).bind fun xNaN=>
 (Rs y).bind fun yNaN=>
 if xNaN then
(if yNaN then
(.ok 0)
else
(.ok (-1)))
else
(if yNaN then
(.ok 1)
else
(if a<y then
(.ok (-1))
else
(if a > y then
(.ok 1)
else
(.ok 0))))
def Na (a:Int):R (Unit ⊕ Int):=
 if(a != 0) then
(.ok (.inr (a)))
else
(.ok (.inl ()))
def Vz (vals:List Int):R Int:=
 (each (fun _ a=>fun _=>Na a) 0 vals ()).bind (alt (fun _=>.ok 0) (fun r=>.ok r))
def Ms (a:Opening)(b:Opening):R Int:=
 (Kz a.Flight b.Flight).bind fun r=>
 (Kz a.Slot b.Slot).bind fun r1=>
 (Vz [r,r1]).bind fun r2=>
 .ok r2
def On (v:Int)(j:Nat)(a:Int):R (Unit ⊕ Int):=
 if(v==a) then
(.ok (.inr ((j:Int))))
else
(.ok (.inl ()))
def Gt (s:List Int)(v:Int):R Int:=
 (each (fun j a=>fun _=>On v j a) 0 s ()).bind (alt (fun _=>.ok (-1)) (fun r=>.ok r))
def J0 (airline:Int)(flight:Int):R Bool:=
 .ok ((((decide (airline≥0))&&(decide (airline<8)))&&(decide (flight≥0)))&&(decide (flight≤4095)))
def Jk (c:Int):R Bool:=
 .ok ((decide (c≥(-1)))&&(decide (c≤1048576)))
def G4 (W_:Value→R (Int×Bool))(a:Value)(depth:Int):R (Int ⊕ (Int×Bool)):=
 (W_ a).bind fun r=>
 if r.2 then
(.ok (.inl (if r.1 > depth then r.1 else depth)))
else
(.ok (.inr ((0,false))))
def N5 (W_:Value→R (Int×Bool))(v:Value):R (Int×Bool):=
 (if((decide (v.Kind<1))||(decide (v.Kind > 3))) then R.ok true else if(0:Int)≤v.Kind∧v.Kind<4 then
 R.ok (!(Ba (#v[false,((v.S==[])&&((v.L.length:Int)==0)),((v.N==0)&&((v.L.length:Int)==0)),((v.N==0)&&(v.S==[]))]:(Vector Bool 4)) (Int.toNat v.Kind) false)) else .bad).bind (fun(b:Bool)=>if b then
(.ok (0,false))
else
(if v.Kind<3 then
(.ok (0,true))
else
((each (fun _ a=>fun depth=>G4 W_ a depth) 0 v.L 0).bind (alt (fun depth=>.ok ((IntKind.wrap .i64 (depth+1)),true)) (fun r=>.ok r)))))
def Hx:Nat→Value→R (Int×Bool)
 | 0,_=>.bad
 | n+1,v=>N5 (Hx n) v
def Qo (v:Value):R (Int×Bool):=Hx Vx v
def P6 (v:Value):R Int:=
 (Qo v).bind fun r=>
 if r.2 then
(if r.1 > 16 then
(.ok 2)
else
(.ok 0))
else
(.ok 1)
def K3:R Unit:=
 .ok ()
def Qp (n:Int):R Int:=
 .ok (Dn .u64 (Se .u64 (IntKind.wrap .u64 n) 1) (IntKind.wrap .u64 (Int.fdiv n 9223372036854775808)))
def Iu (u1:Int)(b:List Int):R ((Int×(List Int)) ⊕ (Int×(List Int))):=
 if u1≥128 then
(if(b.length+[(Ny .u8 (IntKind.wrap .u8 u1) 128)].length) * 1≤Ci then
 .ok (.inl ((Int.fdiv u1 128),(b++[(Ny .u8 (IntKind.wrap .u8 u1) 128)]))) else .bad)
else
(.ok (.inr ((u1,b))))
def In (u2:Int)(b1:List Int):R (List Int):=
 if(b1.length+[(IntKind.wrap .u8 u2)].length) * 1≤Ci then
 .ok (b1++[(IntKind.wrap .u8 u2)]) else .bad
def Gi (u:Int)(l:List Int):R (List Int):=
 (loop (Do fun u1 b=>Iu u1 b) (u,l)).bind (Do fun u2 b1=>In u2 b1)
def Ei (v1:Value)(l:List Int):R (List Int):=
 if(l.length+[1].length) * 1≤Ci then
 (Qp v1.N).bind fun r=>
 (Gi r (l++[1])).bind fun r1=>
 .ok r1 else .bad
def Gf (v1:Value)(l:List Int):R (List Int):=
 if(l.length+[2].length) * 1≤Ci then
 (Gi (IntKind.wrap .u64 (v1.S.length:Int)) (l++[2])).bind fun r=>
 if(r.length+(Nm v1.S).length) * 1≤Ci then
 .ok (r++(Nm v1.S)) else .bad else .bad
def He (W_:Value→(List Int)→R (List Int))(a:Value)(b1:List Int):R (List Int):=
 if a.Kind=0 then
(.bad)
else
(if a.Kind=1 then
((Ei a b1).bind fun b2=>
 .ok b2)
else
(if a.Kind=2 then
((Gf a b1).bind fun b3=>
 .ok b3)
else
(if a.Kind=3 then
((W_ a b1).bind fun b4=>
 .ok b4)
else
(.bad))))
def H3 (W_:Value→(List Int)→R (List Int))(v1:Value)(l:List Int):R (List Int):=
 if(l.length+[3].length) * 1≤Ci then
 (Gi (IntKind.wrap .u64 (v1.L.length:Int)) (l++[3])).bind fun b=>
 (eachS (fun _ a=>fun b1=>He W_ a b1) 0 v1.L b).bind ((fun b1=>.ok b1)) else .bad
def H4:Nat→Value→(List Int)→R (List Int)
 | 0,_,_=>.bad
 | n+1,v1,l=>H3 (H4 n) v1 l
def Kq (v1:Value)(l:List Int):R (List Int):=H4 Vx v1 l
def Fs (a:Value)(b1:List Int):R (List Int):=
 if a.Kind=0 then
(.bad)
else
(if a.Kind=1 then
((Ei a b1).bind fun b2=>
 .ok b2)
else
(if a.Kind=2 then
((Gf a b1).bind fun b3=>
 .ok b3)
else
(if a.Kind=3 then
((Kq a b1).bind fun b4=>
 .ok b4)
else
(.bad))))
def It (v1:Value):R (List Int):=
 if [3].length * 1≤Ci then
 (Gi (IntKind.wrap .u64 (v1.L.length:Int)) [3]).bind fun b=>
 (eachS (fun _ a=>fun b1=>Fs a b1) 0 v1.L b).bind ((fun b1=>.ok b1)) else .bad
def Mm (v:Value):R ((List Int)×Int):=
 (P6 v).bind fun e=>
 if(e != 0) then
(.ok ([],e))
else
((K3).bind fun _=>
 if v.Kind=0 then
(.bad)
else
(if v.Kind=1 then
((Ei v []).bind fun b=>
 .ok (b,0))
else
(if v.Kind=2 then
((Gf v []).bind fun b1=>
 .ok (b1,0))
else
(if v.Kind=3 then
((It v).bind fun b2=>
 .ok (b2,0))
else
(.bad)))))
def To (a:Int)(n:Int):R Int:=
 .ok (Ny .u32 (Se .u32 n 8) (IntKind.wrap .u32 a))
def T6 (b:List Int):R Int:=
 if(0:Int)≤4∧4≤(b.length:Int) then
 (eachS (fun _ a=>fun n=>To a n) 0 (b.take (Int.toNat 4)) 0).bind ((fun n=>.ok n)) else .bad
def Dq (a:Int)(k:Int):R Int:=
 if(0:Int)≤(Ew .u64 (IntKind.wrap .u64 k) 31) then if(0:Int)≤(IntKind.wrap .u64 (32 - (Ew .u64 (IntKind.wrap .u64 k) 31))) then .ok (Ny .u32 (Se .u32 a (Ew .u64 (IntKind.wrap .u64 k) 31)) (Q2 .u32 a (IntKind.wrap .u64 (32 - (Ew .u64 (IntKind.wrap .u64 k) 31))))) else .bad else .bad
def N3 (v:Int)(a:Int)(b:Int)(c:Int):R Int:=
 (Dq v (IntKind.wrap .i64 (0 - a))).bind fun r=>
 (Dq v (IntKind.wrap .i64 (0 - b))).bind fun r1=>
 (Dq v (IntKind.wrap .i64 (0 - c))).bind fun r2=>
 .ok (Dn .u32 (Dn .u32 r r1) r2)
def H1 (b:List Int)(j:Nat)(o:(Vector Int 64)):R (Vector Int 64):=
 if(0:Int)≤(IntKind.wrap .i64 (4 * (j:Int)))∧(IntKind.wrap .i64 (4 * (j:Int)))≤(b.length:Int) then
 (T6 (b.drop (Int.toNat (IntKind.wrap .i64 (4 * (j:Int)))))).bind fun r=>
 .ok (Ns o j r) else .bad
def Ff (x1:Int)(o1:(Vector Int 64)):R ((Int×(Vector Int 64)) ⊕ (Vector Int 64)):=
 if x1<64 then
(if(0:Int)≤(IntKind.wrap .i64 (x1 - 15))∧(IntKind.wrap .i64 (x1 - 15))<64 then
 if(0:Int)≤(IntKind.wrap .i64 (x1 - 2))∧(IntKind.wrap .i64 (x1 - 2))<64 then
 if(0:Int)≤(IntKind.wrap .i64 (x1 - 16))∧(IntKind.wrap .i64 (x1 - 16))<64 then
 if(0:Int)≤(IntKind.wrap .i64 (x1 - 7))∧(IntKind.wrap .i64 (x1 - 7))<64 then
 (Dq (Ba o1 (Int.toNat (IntKind.wrap .i64 (x1 - 15))) 0) (-7)).bind fun r1=>
 (Dq (Ba o1 (Int.toNat (IntKind.wrap .i64 (x1 - 15))) 0) (-18)).bind fun r2=>
 (Dq (Ba o1 (Int.toNat (IntKind.wrap .i64 (x1 - 2))) 0) (-17)).bind fun r3=>
 (Dq (Ba o1 (Int.toNat (IntKind.wrap .i64 (x1 - 2))) 0) (-19)).bind fun r4=>
 if(0:Int)≤x1∧x1<64 then
 .ok (.inl ((IntKind.wrap .i64 (x1+1)),(Ns o1 (Int.toNat x1) (IntKind.wrap .u32 ((IntKind.wrap .u32 ((IntKind.wrap .u32 ((Ba o1 (Int.toNat (IntKind.wrap .i64 (x1 - 16))) 0)+(Dn .u32 (Dn .u32 r1 r2) (Int.fdiv (Ba o1 (Int.toNat (IntKind.wrap .i64 (x1 - 15))) 0) 8))))+(Ba o1 (Int.toNat (IntKind.wrap .i64 (x1 - 7))) 0)))+(Dn .u32 (Dn .u32 r3 r4) (Int.fdiv (Ba o1 (Int.toNat (IntKind.wrap .i64 (x1 - 2))) 0) 1024))))))) else .bad else .bad else .bad else .bad else .bad)
else
(.ok (.inr (o1)))
def Jl (o2:(Vector Int 64))(j1:Nat)(o3:(Vector Int 8)):R (Vector Int 8):=
 (N3 (Ba o3 4 0) 6 11 25).bind fun r5=>
 (N3 (Ba o3 0 0) 2 13 22).bind fun r6=>
 if((o3.toList.drop 0).take 7).length≤7 then
 .ok (Ns (Ns (Sb o3 1 ((o3.toList.drop 0).take 7)) 4 (IntKind.wrap .u32 ((Ba (Sb o3 1 ((o3.toList.drop 0).take 7)) 4 0)+(IntKind.wrap .u32 ((IntKind.wrap .u32 ((IntKind.wrap .u32 ((IntKind.wrap .u32 ((Ba o3 7 0)+r5))+(Dn .u32 (Ba o3 6 0) (Ew .u32 (Ba o3 4 0) (Dn .u32 (Ba o3 5 0) (Ba o3 6 0))))))+(Ba Sp j1 0)))+(Ba o2 j1 0)))))) 0 (IntKind.wrap .u32 ((IntKind.wrap .u32 ((IntKind.wrap .u32 ((IntKind.wrap .u32 ((IntKind.wrap .u32 ((Ba o3 7 0)+r5))+(Dn .u32 (Ba o3 6 0) (Ew .u32 (Ba o3 4 0) (Dn .u32 (Ba o3 5 0) (Ba o3 6 0))))))+(Ba Sp j1 0)))+(Ba o2 j1 0)))+(IntKind.wrap .u32 (r6+(Ny .u32 (Ew .u32 (Ba o3 0 0) (Ba o3 1 0)) (Ew .u32 (Ba o3 2 0) (Ny .u32 (Ba o3 0 0) (Ba o3 1 0))))))))) else .bad
def Jr (o3:(Vector Int 8))(j2:Nat)(o4:(Vector Int 8)):R (Vector Int 8):=
 .ok (Ns o4 j2 (IntKind.wrap .u32 ((Ba o4 j2 0)+(Ba o3 j2 0))))
def Gr (s:(Vector Int 8))(o2:(Vector Int 64)):R (Vector Int 8):=
 (eachS (fun j1 _=>fun o3=>Jl o2 j1 o3) 0 (List.range 64) s).bind ((fun o3=>(eachS (fun j2 _=>fun o4=>Jr o3 j2 o4) 0 (List.range 8) s).bind ((fun o4=>.ok o4))))
def Ep (b:List Int)(s:(Vector Int 8)):R (Vector Int 8):=
 (eachS (fun j _=>fun o=>H1 b j o) 0 (List.range 16) (B5 64 0)).bind ((fun o=>(loop (Do fun x1 o1=>Ff x1 o1) (16,o)).bind (fun o2=>Gr s o2)))
def R4 (c:Nat)(n:Int)(j:Nat)(o:(Vector Int 128)):R (Vector Int 128):=
 if(0:Int)≤(IntKind.wrap .i64 (8 * (j:Int))) then if(0:Int)≤(IntKind.wrap .i64 (7 - (j:Int)))∧(IntKind.wrap .i64 (7 - (j:Int)))<8 then
 .ok (Ns o (c+Int.toNat (IntKind.wrap .i64 (7 - (j:Int)))) (IntKind.wrap .u8 (Q2 .u64 n (IntKind.wrap .i64 (8 * (j:Int)))))) else .bad else .bad
def Nt (c:Nat)(cp:Nat)(n:Int)(s:(Vector Int 128)):R (Vector Int 128):=
 (eachS (fun j _=>fun o=>R4 c n j o) 0 (List.range 8) s).bind ((fun o=>.ok o))
def Ph (c:Nat)(n:Int)(j:Nat)(o:(Vector Int 32)):R (Vector Int 32):=
 if(0:Int)≤(IntKind.wrap .i64 (8 * (j:Int))) then if(0:Int)≤(IntKind.wrap .i64 (3 - (j:Int)))∧(IntKind.wrap .i64 (3 - (j:Int)))<4 then
 .ok (Ns o (c+Int.toNat (IntKind.wrap .i64 (3 - (j:Int)))) (IntKind.wrap .u8 (Q2 .u64 n (IntKind.wrap .i64 (8 * (j:Int)))))) else .bad else .bad
def Oh (c:Nat)(cp:Nat)(n:Int)(s:(Vector Int 32)):R (Vector Int 32):=
 (eachS (fun j _=>fun o=>Ph c n j o) 0 (List.range 4) s).bind ((fun o=>.ok o))
def La (rest:List Int)(o:(Vector Int 8)):R (((List Int)×(Vector Int 8)) ⊕ ((List Int)×(Vector Int 8))):=
 if(rest.length:Int)≥64 then
(if(0:Int)≤64∧64≤(rest.length:Int) then
 (Ep (rest.take (Int.toNat 64)) o).bind fun r=>
 if(0:Int)≤64∧64≤(rest.length:Int) then
 .ok (.inl ((rest.drop (Int.toNat 64)),r)) else .bad else .bad)
else
(.ok (.inr ((rest,o))))
def Iy (vend:List Int)(o2:(Vector Int 8)):R (((List Int)×(Vector Int 8)) ⊕ (Vector Int 8)):=
 if(vend.length:Int) > 0 then
(if(0:Int)≤64∧64≤(vend.length:Int) then
 (Ep (vend.take (Int.toNat 64)) o2).bind fun r2=>
 if(0:Int)≤64∧64≤(vend.length:Int) then
 .ok (.inl ((vend.drop (Int.toNat 64)),r2)) else .bad else .bad)
else
(.ok (.inr (o2)))
def R3 (o3:(Vector Int 8))(j:Nat)(o4:(Vector Int 32)):R (Vector Int 32):=
 if((IntKind.wrap .i64 ((IntKind.wrap .i64 (4 * (j:Int)))+4))=(IntKind.wrap .i64 (4 * (j:Int)))+4)∧((0:Int)≤(IntKind.wrap .i64 (4 * (j:Int)))∧(IntKind.wrap .i64 (4 * (j:Int)))+4≤32) then
 (Oh (Int.toNat (IntKind.wrap .i64 (4 * (j:Int)))) (32 - (Int.toNat (IntKind.wrap .i64 (4 * (j:Int))))) (IntKind.wrap .u64 (Ba o3 j 0)) o4).bind fun r3=>
 .ok r3 else .bad
def K6 (o3:(Vector Int 8)):R (Vector Int 32):=
 (eachS (fun j _=>fun o4=>R3 o3 j o4) 0 (List.range 8) (B5 32 0)).bind ((fun o4=>.ok o4))
def Nd (vend1:List Int)(o5:(Vector Int 8)):R (((List Int)×(Vector Int 8)) ⊕ (Vector Int 8)):=
 if(vend1.length:Int) > 0 then
(if(0:Int)≤64∧64≤(vend1.length:Int) then
 (Ep (vend1.take (Int.toNat 64)) o5).bind fun r5=>
 if(0:Int)≤64∧64≤(vend1.length:Int) then
 .ok (.inl ((vend1.drop (Int.toNat 64)),r5)) else .bad else .bad)
else
(.ok (.inr (o5)))
def Uh (o6:(Vector Int 8))(j1:Nat)(o7:(Vector Int 32)):R (Vector Int 32):=
 if((IntKind.wrap .i64 ((IntKind.wrap .i64 (4 * (j1:Int)))+4))=(IntKind.wrap .i64 (4 * (j1:Int)))+4)∧((0:Int)≤(IntKind.wrap .i64 (4 * (j1:Int)))∧(IntKind.wrap .i64 (4 * (j1:Int)))+4≤32) then
 (Oh (Int.toNat (IntKind.wrap .i64 (4 * (j1:Int)))) (32 - (Int.toNat (IntKind.wrap .i64 (4 * (j1:Int))))) (IntKind.wrap .u64 (Ba o6 j1 0)) o7).bind fun r6=>
 .ok r6 else .bad
def O9 (o6:(Vector Int 8)):R (Vector Int 32):=
 (eachS (fun j1 _=>fun o7=>Uh o6 j1 o7) 0 (List.range 8) (B5 32 0)).bind ((fun o7=>.ok o7))
def K5 (b:List Int)(rest1:List Int)(o1:(Vector Int 8)):R (Vector Int 32):=
 if rest1.length≤64 then
 if(0:Int)≤(rest1.length:Int)∧(rest1.length:Int)<64 then
 if(rest1.length:Int) > 55 then
((Nt 120 8 (IntKind.wrap .u64 ((IntKind.wrap .u64 (b.length:Int)) * 8)) (Ns (Sb (B5 128 (0:Int)) 0 rest1) (Int.toNat (rest1.length:Int)) 128)).bind fun r1=>
 (loop (Do fun vend o2=>Iy vend o2) ((r1.toList.take 128),o1)).bind (fun o3=>K6 o3))
else
((Nt 56 72 (IntKind.wrap .u64 ((IntKind.wrap .u64 (b.length:Int)) * 8)) (Ns (Sb (B5 128 (0:Int)) 0 rest1) (Int.toNat (rest1.length:Int)) 128)).bind fun r4=>
 (loop (Do fun vend1 o5=>Nd vend1 o5) ((r4.toList.take 64),o1)).bind (fun o6=>O9 o6)) else .bad else .bad
def Dh (b:List Int):R (Vector Int 32):=
 (loop (Do fun rest o=>La rest o) (b,Adg)).bind (Do fun rest1 o1=>K5 b rest1 o1)
def Iq (n:Int):R (List Int):=
 if n<0 then
(.pan ⟨9,.str [99,97,110,110,111,116,32,98,101,32,110,101,103,97,116,105,118,101]⟩)
else
(if(IntKind.wrap .i64 (n - 0)) > 0 then
(if(0:Int)<(IntKind.wrap .i64 (n - 0))∧(Int.toNat (IntKind.wrap .i64 (n - 0))) * 1≤Ci then
 if(0:Int)≤0∧0≤((List.replicate (Int.toNat (IntKind.wrap .i64 (n - 0))) (0:Int)).length:Int) then
 .ok ((List.replicate (Int.toNat (IntKind.wrap .i64 (n - 0))) (0:Int)).take (Int.toNat 0)) else .bad else .bad)
else
(.ok []))
def Ig (a:List Int)(size:Int):R Int:=
 if(IntKind.wrap .i64 (size+(a.length:Int)))<0 then
(.pan ⟨9,.str [108,101,110,32,111,117,116,32,111,102,32,114,97,110,103,101]⟩)
else
(.ok (IntKind.wrap .i64 (size+(a.length:Int))))
def Ie (a1:List Int)(newslice1:List Int):R (List Int):=
 if(newslice1.length+a1.length) * 1≤Ci then
 .ok (newslice1++a1) else .bad
def Gk (slices:(List (List Int))):R (List Int):=
 (eachS (fun _ a=>fun size=>Ig a size) 0 slices 0).bind ((fun size=>(Iq size).bind fun newslice=>
 (eachS (fun _ a1=>fun newslice1=>Ie a1 newslice1) 0 slices newslice).bind ((fun newslice1=>.ok newslice1))))
def Hp (tag:Tq)(b:List Int):R (Vector Int 32):=
 if tag.length≤Ci then
 (Dh (Nm tag)).bind fun r=>
 (Gk [r.toList,b]).bind fun r1=>
 (Dh r1).bind fun r2=>
 .ok r2 else .bad
def G5 (a:Int)(l1:List Value):R (List Value):=
 if(l1.length+[({ Kind:=1,N:=a,S:=[],L:=[] }:Value)].length) * 56≤Ci then
 .ok (l1++[({ Kind:=1,N:=a,S:=[],L:=[] }:Value)]) else .bad
def Fj (salt:(Vector Int 32))(l:List Int):R (Vector Int 32):=
 (eachS (fun _ a=>fun l1=>G5 a l1) 0 l []).bind ((fun l1=>(Mm ({ Kind:=3,N:=0,S:=[],L:=l1 }:Value)).bind fun r=>
 if r.1.length≠0∧(32+r.1.length) * 1≤Ci then
 (Hp [99,111,115,116] (salt.toList++r.1)).bind fun r1=>
 .ok r1 else .bad))
def Pl (x1:Int)(n1:Int):R Int:=
 if x1≥256 then
((idx ([0,1,2,2,3,3,3,3,4,4,4,4,4,4,4,4,5,5,5,5,5,5,5,5,5,5,5,5,5,5,5,5,6,6,6,6,6,6,6,6,6,6,6,6,6,6,6,6,6,6,6,6,6,6,6,6,6,6,6,6,6,6,6,6,7,7,7,7,7,7,7,7,7,7,7,7,7,7,7,7,7,7,7,7,7,7,7,7,7,7,7,7,7,7,7,7,7,7,7,7,7,7,7,7,7,7,7,7,7,7,7,7,7,7,7,7,7,7,7,7,7,7,7,7,7,7,7,7,8,8,8,8,8,8,8,8,8,8,8,8,8,8,8,8,8,8,8,8,8,8,8,8,8,8,8,8,8,8,8,8,8,8,8,8,8,8,8,8,8,8,8,8,8,8,8,8,8,8,8,8,8,8,8,8,8,8,8,8,8,8,8,8,8,8,8,8,8,8,8,8,8,8,8,8,8,8,8,8,8,8,8,8,8,8,8,8,8,8,8,8,8,8,8,8,8,8,8,8,8,8,8,8,8,8,8,8,8,8,8,8,8,8,8,8,8,8,8,8,8,8,8,8,8,8,8,8]:Tq) (IntKind.wrap .u8 (Int.fdiv x1 256))).bind fun a1=>
 .ok (IntKind.wrap .i64 ((IntKind.wrap .i64 (n1+8))+(IntKind.wrap .i64 (a1.toNat:Int)))))
else
((idx ([0,1,2,2,3,3,3,3,4,4,4,4,4,4,4,4,5,5,5,5,5,5,5,5,5,5,5,5,5,5,5,5,6,6,6,6,6,6,6,6,6,6,6,6,6,6,6,6,6,6,6,6,6,6,6,6,6,6,6,6,6,6,6,6,7,7,7,7,7,7,7,7,7,7,7,7,7,7,7,7,7,7,7,7,7,7,7,7,7,7,7,7,7,7,7,7,7,7,7,7,7,7,7,7,7,7,7,7,7,7,7,7,7,7,7,7,7,7,7,7,7,7,7,7,7,7,7,7,8,8,8,8,8,8,8,8,8,8,8,8,8,8,8,8,8,8,8,8,8,8,8,8,8,8,8,8,8,8,8,8,8,8,8,8,8,8,8,8,8,8,8,8,8,8,8,8,8,8,8,8,8,8,8,8,8,8,8,8,8,8,8,8,8,8,8,8,8,8,8,8,8,8,8,8,8,8,8,8,8,8,8,8,8,8,8,8,8,8,8,8,8,8,8,8,8,8,8,8,8,8,8,8,8,8,8,8,8,8,8,8,8,8,8,8,8,8,8,8,8,8,8,8,8,8,8,8]:Tq) (IntKind.wrap .u8 x1)).bind fun a2=>
 .ok (IntKind.wrap .i64 (n1+(IntKind.wrap .i64 (a2.toNat:Int)))))
def Pv (x:Int)(n:Int):R Int:=
 if x≥65536 then
(Pl (Int.fdiv x 65536) (IntKind.wrap .i64 (n+16)))
else
(Pl x n)
def Vp (a:Int):R Int:=
 if a≥4294967296 then
(Pv (Int.fdiv a 4294967296) 32)
else
(Pv a 0)
def Ym (a:Int):R Int:=
 (Vp a).bind fun r=>
 .ok r
def Gm (n:Int):R Int:=
 (Ym (IntKind.wrap .u64 (IntKind.wrap .i64 (n - 1)))).bind fun r=>
 if(0:Int)≤(IntKind.wrap .i64 (r - 1)) then .ok (Se .i64 1 (IntKind.wrap .i64 (r - 1))) else .bad
def Mb (d:(Vector Int 32)):R (Vector Int 32):=
 (Hp [108,101,97,102] d.toList).bind fun r=>
 .ok r
def Km (a:(Vector Int 32))(b:(Vector Int 32)):R (Vector Int 32):=
 (Gk [a.toList,b.toList]).bind fun r=>
 (Hp [110,111,100,101] r).bind fun r1=>
 .ok r1
def Gd (vat1:Int)(n1:Int)(first:List Bool):R ((Int×Int×(List Bool)) ⊕ (List Bool)):=
 if n1 > 1 then
((Gm n1).bind fun k=>
 if(first.length+[(decide (vat1<k))].length) * 1≤Ci then
 if vat1<k then
(.ok (.inl (vat1,k,(first++[(decide (vat1<k))]))))
else
(.ok (.inl ((IntKind.wrap .i64 (vat1 - k)),(IntKind.wrap .i64 (n1 - k)),(first++[(decide (vat1<k))])))) else .bad)
else
(.ok (.inr (first)))
def G2 (j:Nat)(a:(Vector Int 32))(o:(Vector Int 32))(first2:List Bool):R ((Vector Int 32)×(List Bool)):=
 (idx first2 (IntKind.wrap .i64 ((IntKind.wrap .i64 ((first2.length:Int) - 1)) - (j:Int)))).bind fun a1=>
 if a1 then
((Km o a).bind fun r1=>
 .ok (r1,first2))
else
((Km a o).bind fun r2=>
 .ok (r2,first2))
def Kn (d:(Vector Int 32))(p:(List (Vector Int 32)))(first1:List Bool):R ((Vector Int 32)×Int):=
 if((p.length:Int) != (first1.length:Int)) then
(.ok ((B5 32 0),1))
else
((Mb d).bind fun r=>
 (eachS (fun j a=>Do fun o first2=>G2 j a o first2) 0 p (r,first1)).bind ((Do fun o first2=>.ok (o,0))))
def Mv (d:(Vector Int 32))(vat:Int)(n:Int)(p:(List (Vector Int 32))):R ((Vector Int 32)×Int):=
 if((((decide (n<1))||(decide (n > 1099511627776)))||(decide (vat<0)))||(decide (vat≥n))) then
(.ok ((B5 32 0),1))
else
((loop (Sn fun vat1 n1 first=>Gd vat1 n1 first) (vat,n,[])).bind (fun first1=>Kn d p first1))
def Hi (d:(Vector Int 32))(tables:Int)(o:Opening)(x:Int)(r3:((Vector Int 32)×Int))(x1:Int):R (Int ⊕ (Unit ⊕ Int)):=
 if x1<tables then
((Mv r3.1 x1 tables (o.Path.drop (Int.toNat x))).bind fun r4=>
 if((r4.2==0)&&(r4.1==d)) then
(.ok (.inr (.inr (0))))
else
(.ok (.inl (IntKind.wrap .i64 (x1+1)))))
else
(.ok (.inr (.inl (()))))
def Hk (x:Int):R (Int ⊕ (Unit ⊕ Int)):=
 .ok (.inl (IntKind.wrap .i64 (x+1)))
def E8 (d:(Vector Int 32))(tables:Int)(slots:Int)(o:Opening)(r2:(Vector Int 32))(x:Int):R (Int ⊕ (Unit ⊕ Int)):=
 if x<(IntKind.wrap .i64 ((o.Path.length:Int)+1)) then
(if(0:Int)≤x∧x≤(o.Path.length:Int) then
 if(0:Int)≤x∧x≤(o.Path.length:Int) then
 (Mv r2 o.Slot slots (o.Path.take (Int.toNat x))).bind fun r3=>
 if(r3.2 != 0) then
(.ok (.inl (IntKind.wrap .i64 (x+1))))
else
((loop (fun x1=>Hi d tables o x r3 x1) 0).bind (alt (fun _=>Hk x) (fun r=>.ok (.inr (.inr (r)))))) else .bad else .bad)
else
(.ok (.inr (.inl (()))))
def Hj:R Int:=
 .ok 360
def Gx (d:(Vector Int 32))(airline:Int)(tables:Int)(slots:Int)(o:Opening):R Int:=
 (if(((((decide (tables<1))||(decide (tables > 8)))||(decide (slots<1)))||(decide (slots > 8)))||(o.Airline != airline)) then R.ok true else(J0 o.Airline o.Flight).bind fun r=>
 R.ok (!r)).bind (fun(b:Bool)=>(if((b||(decide (o.Slot<0)))||(decide (o.Slot≥slots))) then R.ok true else(Jk o.Cost).bind fun r1=>
 R.ok (!r1)).bind (fun(b1:Bool)=>if b1 then
(.ok 360)
else
((Fj o.Salt [o.Airline,o.Flight,o.Slot,o.Cost]).bind fun r2=>
 (loop (fun x=>E8 d tables slots o r2 x) 0).bind (alt (fun _=>Hj) (fun r=>.ok r)))))
def Jh (c:Clearing)(o:Opening)(x:Bool):R Int:=
 if x then
(.ok 400)
else
((Fi c.Owners).bind fun r=>
 (Gt r.1 o.Airline).bind fun r1=>
 (idx c.Commitments r1).bind fun a1=>
 (Gx a1 o.Airline (Option.getD (E7 r.2 o.Airline) 0) c.Slots o).bind fun r2=>
 .ok r2)
def Hv (c:Clearing)(o:Opening):R Int:=
 (Gt c.Flights o.Flight).bind fun i=>
 if(decide (i<0)) then
(Jh c o true)
else
((idx c.Owners i).bind fun a=>
 Jh c o (a != o.Airline))
def Gq (x1:Bool):R (Unit ⊕ Bool):=
 if x1 then
(.ok (.inr (false)))
else
(.ok (.inl ()))
def Io (c:Clearing)(j:Nat)(a:Opening):R (Unit ⊕ Bool):=
 if(decide ((j:Int) > 0)) then
((idx c.Openings (IntKind.wrap .i64 ((j:Int) - 1))).bind fun a1=>
 (Ms a1 a).bind fun r=>
 if(decide (r≥0)) then
(Gq true)
else
((Hv c a).bind fun r1=>
 Gq (r1 != 0)))
else
((Hv c a).bind fun r2=>
 Gq (r2 != 0))
def K9 (c:Clearing):R Bool:=
 (each (fun j a=>fun _=>Io c j a) 0 c.Openings ()).bind (alt (fun _=>.ok true) (fun r=>.ok r))
def L7 (c:Clearing):R Bool:=
 (Fq c).bind fun r=>
 (if r then(K9 c).bind fun r1=>
 R.ok r1 else R.ok false).bind (fun(b:Bool)=>.ok (b&&((c.Outcome.length:Int)==0)))
def Hu (s:List Opening)(n:Int):R Unit:=
 if n<1 then
(.pan ⟨9,.str [99,97,110,110,111,116,32,98,101,32,108,101,115,115,32,116,104,97,110,32,49]⟩)
else
(.ok ())
section
variable {σ_:Type}
def Ea (b:List Opening)(c:Int)(b_:(List Opening)→σ_→R σ_)(i:Int)(s:σ_):R ((Int×σ_) ⊕ σ_):=
 if i<(b.length:Int) then
(if(0:Int)≤i∧i≤(b.length:Int) then
 if(0:Int)≤i∧i≤(IntKind.wrap .i64 (i+(if((b.drop (Int.toNat i)).length:Int)<c then((b.drop (Int.toNat i)).length:Int) else c)))∧(IntKind.wrap .i64 (i+(if((b.drop (Int.toNat i)).length:Int)<c then((b.drop (Int.toNat i)).length:Int) else c)))≤(b.length:Int) then
 (b_ (cut b i (IntKind.wrap .i64 (i+(if((b.drop (Int.toNat i)).length:Int)<c then((b.drop (Int.toNat i)).length:Int) else c)))) s).bind fun s1=>
 .ok (.inl ((IntKind.wrap .i64 (i+c)),s1)) else .bad else .bad)
else
(.ok (.inr (s)))
def Hm (s2:σ_):R σ_:=
 .ok s2
def Eu (b:List Opening)(c:Int)(b_:(List Opening)→σ_→R σ_)(s_:σ_):R σ_:=
 (loop (Do fun i s=>Ea b c b_ i s) (0,s_)).bind (fun s2=>Hm s2)
end
def Kj (a1:Opening)(costs:List Int):R (List Int):=
 if(costs.length+[a1.Cost].length) * 8≤Ci then
 .ok (costs++[a1.Cost]) else .bad
def Ik (a:List Opening)(l:(List (List Int))):R (List (List Int)):=
 (eachS (fun _ a1=>fun costs=>Kj a1 costs) 0 a []).bind ((fun costs=>if(l.length+[costs].length) * 24≤Ci then
 .ok (l++[costs]) else .bad))
def Ib (c:Clearing):R (Round×Bool):=
 if((c.Openings.length:Int) != (IntKind.wrap .i64 ((c.Flights.length:Int) * c.Slots))) then
(.ok (({ Slots:=0,Owners:=[],Costs:=[] }:Round),false))
else
((Hu c.Openings c.Slots).bind fun _=>
 (Eu c.Openings c.Slots (fun a z_=>R.np ((fun l=>Ik a l) z_)) []).bind (fun l=>.ok (({ Slots:=c.Slots,Owners:=c.Owners,Costs:=l }:Round),true)))
def J7 (n:Int)(most:Int):R Bool:=
 .ok ((decide (n<0))||(decide (n > most)))
def Mn (c:Int):R Bool:=
 (J7 (IntKind.wrap .i64 (c+1)) 1048577).bind fun r=>
 .ok r
def Hs (j:Nat)(a:Int):R (Unit ⊕ Int):=
 (Mn a).bind fun r=>
 if r then
(.ok (.inr ((j:Int))))
else
(.ok (.inl ()))
def Ja (s:List Int):R Int:=
 (each (fun j a=>fun _=>Hs j a) 0 s ()).bind (alt (fun _=>.ok (-1)) (fun r=>.ok r))
def F9 (s:List Int):R Bool:=
 (Ja s).bind fun r=>
 .ok (decide (r≥0))
def Im (x1:Bool):R (Unit ⊕ Int):=
 if x1 then
(.ok (.inr (370)))
else
(.ok (.inl ()))
def Ki (r:Round)(j:Nat)(a:List Int):R (Unit ⊕ Int):=
 (idx r.Owners (j:Int)).bind fun a1=>
 (J7 a1 7).bind fun r1=>
 if r1 then
(Im true)
else
(if((a.length:Int) != r.Slots) then
(Im true)
else
((idx a (j:Int)).bind fun a2=>
 if(decide (a2<0)) then
(Im true)
else
((F9 a).bind fun r2=>
 Im r2)))
def Kv (r:Round):R Int:=
 if((((decide (r.Slots<1))||(decide (r.Slots > 8)))||(decide ((r.Owners.length:Int) > r.Slots)))||((r.Costs.length:Int) != (r.Owners.length:Int))) then
(.ok 370)
else
((each (fun j a=>fun _=>Ki r j a) 0 r.Costs ()).bind (alt (fun _=>.ok 0) (fun r=>.ok r)))
def H0 (r:Round):R Unit:=
 .ok ()
def M5 (s:List Int):R (List Int):=
 if(0:Int)≤(s.length:Int)∧(s.length:Int)≤(s.length:Int) then
 .ok (s.take (Int.toNat (s.length:Int))) else .bad
section
variable {σ_:Type}
def E4 (x:Int)(m2:(List (Int×Bool)))(s2:σ_):R ((Int×(List (Int×Bool))×σ_) ⊕ ((List (Int×Bool))×σ_)):=
 .ok (.inl ((IntKind.wrap .i64 (x+1)),(L9 m2 x false),s2))
def Dr (slots:List Int)(b:Round)(c:Round)(W_:(List Int)→Round→(List (Int×Bool))→Round→σ_→R ((List (Int×Bool))×σ_))(x:Int)(m1:(List (Int×Bool)))(s1:σ_):R ((Int×(List (Int×Bool))×σ_) ⊕ ((List (Int×Bool))×σ_)):=
 if x<b.Slots then
((if(Option.getD (E7 m1 x) false) then R.ok true else(idx b.Costs (slots.length:Int)).bind fun a=>
 (idx a x).bind fun a1=>
 R.ok (decide (a1<0))).bind (fun(b1:Bool)=>if b1 then
(.ok (.inl ((IntKind.wrap .i64 (x+1)),m1,s1)))
else
((M5 slots).bind fun r=>
 if [x].length≠0∧(r.length+[x].length) * 8≤Ci then
 (W_ (r++[x]) c (L9 m1 x true) c s1).bind fun r1=>
 E4 x r1.1 r1.2 else .bad)))
else
(.ok (.inr ((m1,s1))))
def Gu (m3:(List (Int×Bool)))(s3:σ_):R ((List (Int×Bool))×σ_):=
 .ok (m3,s3)
def Ef (W_:(List Int)→Round→(List (Int×Bool))→Round→σ_→R ((List (Int×Bool))×σ_))(slots:List Int)(b:Round)(m:(List (Int×Bool)))(c:Round)(b_:(List Int)→σ_→R σ_)(s_:σ_):R ((List (Int×Bool))×σ_):=
 if((slots.length:Int)==(b.Owners.length:Int)) then
((b_ slots s_).bind fun s=>
 .ok (m,s))
else
((loop (Sn fun x m1 s1=>Dr slots b c W_ x m1 s1) (0,m,s_)).bind (Do fun m3 s3=>Gu m3 s3))
def Dw (b_:(List Int)→σ_→R σ_):Nat→(List Int)→Round→(List (Int×Bool))→Round→σ_→R ((List (Int×Bool))×σ_)
 | 0,_,_,_,_,_=>.bad
 | n+1,slots,b,m,c,s_=>R.np (Ef (Dw b_ n) slots b m c b_ s_)
def F8 (slots:List Int)(b:Round)(m:(List (Int×Bool)))(c:Round)(b_:(List Int)→σ_→R σ_)(s_:σ_):R ((List (Int×Bool))×σ_):=Dw b_ Vx slots b m c s_
end
section
variable {σ_:Type}
def El (b:Round)(b_:(List Int)→σ_→R σ_)(s_:σ_):R σ_:=
 (F8 [] b [] b b_ s_).bind fun r=>
 .ok r.2
def Fa (b:Round)(b_:(List Int)→σ_→R σ_)(s_:σ_):R σ_:=R.np (El b b_ s_)
end
def Np (r:Round)(j:Nat)(a:Int)(v1:List Int):R (List Int):=
 (idx v1 0).bind fun a1=>
 (idx r.Costs (j:Int)).bind fun a2=>
 (idx a2 a).bind fun a3=>
 if(a != (j:Int)) then
((idx (v1.set (Int.toNat 0) (IntKind.wrap .i64 (a1+a3))) 1).bind fun a4=>
 .ok ((v1.set (Int.toNat 0) (IntKind.wrap .i64 (a1+a3))).set 1 (IntKind.wrap .i64 (a4+1))))
else
(.ok (v1.set (Int.toNat 0) (IntKind.wrap .i64 (a1+a3))))
def L5 (r:Round)(slots:List Int):R (List Int):=
 (eachS (fun j a=>fun v1=>Np r j a v1) 0 slots [0,0]).bind ((fun v1=>.ok v1))
def Ke (s2:List Int)(j:Nat)(a:Int):R (Unit ⊕ Int):=
 if(j:Int)≥(s2.length:Int) then
(.ok (.inr (1)))
else
((idx s2 (j:Int)).bind fun a1=>
 (Kz a a1).bind fun c=>
 if(c != 0) then
(.ok (.inr (c)))
else
(.ok (.inl ())))
def J8 (s1:List Int)(s2:List Int):R Int:=
 (each (fun j a=>fun _=>Ke s2 j a) 0 s1 ()).bind (alt (fun _=>if(s1.length:Int)<(s2.length:Int) then
(.ok (-1))
else
(.ok 0)) (fun r=>.ok r))
def Eo (s:List Int)(v:Int):R Bool:=
 (Gt s v).bind fun r=>
 .ok (decide (r≥0))
def I4 (r:Round)(slots:List Int)(j:Nat)(a:Int):R (Unit ⊕ Bool):=
 (if((decide (a<0))||(decide (a≥r.Slots))) then R.ok true else(idx r.Costs (j:Int)).bind fun a1=>
 (idx a1 a).bind fun a2=>
 R.ok (decide (a2<0))).bind (fun(b:Bool)=>(if b then R.ok true else if(0:Int)≤(j:Int)∧(j:Int)≤(slots.length:Int) then
 (Eo (slots.take (Int.toNat (j:Int))) a).bind fun r1=>
 R.ok r1 else .bad).bind (fun(b1:Bool)=>if b1 then
(.ok (.inr (false)))
else
(.ok (.inl ()))))
def Nl (r:Round)(slots:List Int):R Bool:=
 if((slots.length:Int) != (r.Owners.length:Int)) then
(.ok false)
else
((each (fun j a=>fun _=>I4 r slots j a) 0 slots ()).bind (alt (fun _=>.ok true) (fun r=>.ok r)))
def Qe (r:Round)(slots:List Int):R (Bool×Int):=
 (Kv r).bind fun e=>
 if(e != 0) then
(.ok (false,e))
else
((Nl r slots).bind fun ok=>
 .ok (ok,0))
def Sr (r:Round)(slots:List Int):R Int:=
 (Qe r slots).bind fun r1=>
 if((r1.2 != 0)||(!r1.1)) then
(.ok 370)
else
(.ok 0)
def Lq (j:Nat)(l:List Int):R (List Int):=
 if(l.length+[(j:Int)].length) * 8≤Ci then
 .ok (l++[(j:Int)]) else .bad
def Ix (r:Round):R (List Int):=
 (eachS (fun j _=>fun l=>Lq j l) 0 r.Owners []).bind ((fun l=>.ok l))
def Mr (r:Round)(slots:List Int)(j:Nat)(a:Int)(out:List Int):R (List Int):=
 (idx r.Owners a).bind fun a1=>
 (idx out a1).bind fun a2=>
 (idx r.Costs a).bind fun a3=>
 (idx slots (j:Int)).bind fun a4=>
 (idx a3 a4).bind fun a5=>
 .ok (out.set (Int.toNat a1) (IntKind.wrap .i64 (a2+a5)))
def G3 (r:Round)(flights:List Int)(slots:List Int):R (List Int):=
 if(0:Int)≤8∧(8:Int)≤8∧(Int.toNat 8) * 8≤Ci then
 (eachS (fun j a=>fun out=>Mr r slots j a out) 0 flights (List.replicate (Int.toNat 8) (0:Int))).bind ((fun out=>.ok out)) else .bad
def Kb (before:List Int)(j:Nat)(a:Int)(l:List Int):R (List Int):=
 (idx before (j:Int)).bind fun a1=>
 if a > a1 then
(if(l.length+[(j:Int)].length) * 8≤Ci then
 .ok (l++[(j:Int)]) else .bad)
else
(.ok l)
def M4 (r:Round)(slots:List Int):R ((List Int)×Int):=
 (Sr r slots).bind fun e=>
 if(e != 0) then
(.ok ([],e))
else
((Ix r).bind fun r1=>
 (Ix r).bind fun r2=>
 (G3 r r1 r2).bind fun before=>
 (Ix r).bind fun r3=>
 (G3 r r3 slots).bind fun r4=>
 (eachS (fun j a=>fun l=>Kb before j a l) 0 r4 []).bind ((fun l=>.ok (l,0))))
def Gn (r:Round)(l:List Int):R Unit:=
 .ok ()
def Gp (s:List Int):R (List Int):=if s.length * 8≤Ci then .ok s else .bad
section
variable {σ_ ε_:Type}
def Da (s3:σ_):R (σ_ ⊕ (σ_ ⊕ ε_)):=
 .ok (.inl s3)
def Eb (begin:List Int)(b:List Int)(d:Round)(c:List Int)(c1:Round)(W_:(List Int)→(List Int)→Round→(List Int)→Round→σ_→R (σ_ ⊕ ε_))(a:Int)(s1:σ_):R (σ_ ⊕ (σ_ ⊕ ε_)):=
 (idx b (begin.length:Int)).bind fun a1=>
 (idx d.Costs a1).bind fun a2=>
 (idx a2 a).bind fun a3=>
 if(decide (a3≥0)) then
((Eo begin a).bind fun r1=>
 if(!r1) then
(if(0:Int)≤(begin.length:Int)∧(begin.length:Int)≤(begin.length:Int) then
 if [a].length≠0∧((begin.take (Int.toNat (begin.length:Int))).length+[a].length) * 8≤Ci then
 (W_ ((begin.take (Int.toNat (begin.length:Int)))++[a]) c c1 c c1 s1).bind (alt (fun s2=>
 Da s2) (fun e1=>
 .ok (.inr ((Sum.inr (α:=σ_) e1))))) else .bad else .bad)
else
(Da s1))
else
(Da s1)
def Eh (W_:(List Int)→(List Int)→Round→(List Int)→Round→σ_→R (σ_ ⊕ ε_))(begin:List Int)(b:List Int)(d:Round)(c:List Int)(c1:Round)(b_:(List Int)→σ_→R (σ_ ⊕ ε_))(s_:σ_):R (σ_ ⊕ ε_):=
 if((begin.length:Int)==(b.length:Int)) then
((Gp begin).bind fun r=>
 (b_ r s_).bind (alt (fun s=>
 .ok (Sum.inl (β:=ε_) s)) (fun e=>
 .ok (Sum.inr (α:=σ_) e))))
else
((each (fun _ a=>fun s1=>Eb begin b d c c1 W_ a s1) 0 b s_).bind (alt (fun s1=>.ok (Sum.inl (β:=ε_) s1)) (fun r=>.ok r)))
def Dy (b_:(List Int)→σ_→R (σ_ ⊕ ε_)):Nat→(List Int)→(List Int)→Round→(List Int)→Round→σ_→R (σ_ ⊕ ε_)
 | 0,_,_,_,_,_,_=>.bad
 | n+1,begin,b,d,c,c1,s_=>R.np (Eh (Dy b_ n) begin b d c c1 b_ s_)
def F7 (begin:List Int)(b:List Int)(d:Round)(c:List Int)(c1:Round)(b_:(List Int)→σ_→R (σ_ ⊕ ε_))(s_:σ_):R (σ_ ⊕ ε_):=Dy b_ Vx begin b d c c1 s_
end
section
variable {σ_ ε_:Type}
def Ek (b:List Int)(c:Round)(b_:(List Int)→σ_→R (σ_ ⊕ ε_))(s_:σ_):R (σ_ ⊕ ε_):=
 (F7 [] b c b c b_ s_).bind (alt (fun s=>
 .ok (Sum.inl (β:=ε_) s)) (fun e=>
 .ok (Sum.inr (α:=σ_) e)))
def Ee (b:List Int)(c:Round)(b_:(List Int)→σ_→R (σ_ ⊕ ε_))(s_:σ_):R (σ_ ⊕ ε_):=R.np (Ek b c b_ s_)
end
def H7 (group:List Int)(j:Nat)(a:Int)(l:List Int):R (List Int):=
 (Eo group a).bind fun r1=>
 if r1 then
(if(l.length+[(j:Int)].length) * 8≤Ci then
 .ok (l++[(j:Int)]) else .bad)
else
(.ok l)
def Lj (than:List Int)(now:List Int)(a2:Int):R (Unit ⊕ Unit):=
 (idx now a2).bind fun a3=>
 (idx than a2).bind fun a4=>
 if a3≥a4 then
(.ok (.inr (())))
else
(.ok (.inl ()))
def Lm:R (Unit ⊕ (List Int)):=
 .ok (.inl ())
def Gw (r:Round)(than:List Int)(group:List Int)(l:List Int)(a1:List Int):R (Unit ⊕ (List Int)):=
 (G3 r l a1).bind fun now=>
 (each (fun _ a2=>fun _=>Lj than now a2) 0 group ()).bind (alt (fun _=>.ok (.inr a1)) (fun _=>Lm))
def Ir (r:Round)(than:List Int)(group:List Int):R ((List Int)×Bool):=
 (eachS (fun j a=>fun l=>H7 group j a l) 0 r.Owners []).bind ((fun l=>(Gn r l).bind fun _=>
 (Ee l r (fun a1 z_=>R.np ((fun _=>Gw r than group l a1) z_)) ()).bind (alt (fun _=>.ok ([],false)) (fun o=>.ok (o,true)))))
def Ia (r:Round)(j:Nat)(j1:Nat)(group:List Int):R ((List Int) ⊕ Unit):=
 if(0:Int)≤(j1:Int) then if((Ew .i64 (Q2 .i64 (j:Int) (j1:Int)) 1)==0) then
(.ok (.inl group))
else
((Eo r.Owners (j1:Int)).bind fun r3=>
 if r3 then
(if(group.length+[(j1:Int)].length) * 8≤Ci then
 .ok (.inl (group++[(j1:Int)])) else .bad)
else
(.ok (.inr (())))) else .bad
def D2:R (Unit ⊕ (Bool×Int)):=
 .ok (.inl ())
def H9 (r:Round)(than:List Int)(j:Nat):R (Unit ⊕ (Bool×Int)):=
 (each (fun j1 _=>fun group=>Ia r j j1 group) 0 (List.range 8) []).bind (alt (fun group=>if((group.length:Int)==0) then
(D2)
else
((Ir r than group).bind fun r4=>
 if r4.2 then
(.ok (.inr ((false,0))))
else
(D2))) (fun _=>D2))
def Es (r:Round)(slots:List Int):R (Bool×Int):=
 (M4 r slots).bind fun r1=>
 if((r1.2 != 0)||(decide ((r1.1.length:Int) > 0))) then
(.ok (false,r1.2))
else
((Ix r).bind fun r2=>
 (G3 r r2 slots).bind fun than=>
 (each (fun j _=>fun _=>H9 r than j) 0 (List.range 256) ()).bind (alt (fun _=>.ok (true,0)) (fun r=>.ok r)))
def Iv (r:Round)(a:List Int)(o:List Int)(o1:List Int):R ((List Int)×(List Int)):=
 (L5 r a).bind fun v=>
 (if(!List.isEmpty o1) then(J8 v o1).bind fun r2=>
 R.ok (decide (r2≥0)) else R.ok false).bind (fun(b:Bool)=>if b then
(.ok (o,o1))
else
((Es r a).bind fun r3=>
 if((r3.2==0)&&r3.1) then
((Gp a).bind fun r4=>
 if v.length≠0 then
 .ok (r4,v) else .bad)
else
(.ok (o,o1))))
def Ni (r:Round):R ((List Int)×Int):=
 (Kv r).bind fun e=>
 if(e != 0) then
(.ok ([],e))
else
((H0 r).bind fun _=>
 (Fa r (fun a z_=>R.np ((Do fun o o1=>Iv r a o o1) z_)) ([],[])).bind (Do fun o o1=>if(List.isEmpty o1) then
(.ok ([],380))
else
(.ok (o,0))))
def Kx (j:Nat)(outcome:List Int):R (List Int):=
 if(outcome.length+[(j:Int)].length) * 8≤Ci then
 .ok (outcome++[(j:Int)]) else .bad
def Jm (r:Round):R ((List Int)×Int):=
 (Ni r).bind fun r1=>
 if(r1.2==0) then
(.ok (r1.1,3))
else
((eachS (fun j _=>fun outcome=>Kx j outcome) 0 r.Owners []).bind ((fun outcome=>.ok (outcome,4))))
def Ll (s2:List Int)(j:Nat)(a:Int):R (Unit ⊕ Bool):=
 (idx s2 (j:Int)).bind fun a1=>
 if(a != a1) then
(.ok (.inr (false)))
else
(.ok (.inl ()))
def Jz (s1:List Int)(s2:List Int):R Bool:=
 if((s1.length:Int) != (s2.length:Int)) then
(.ok false)
else
((each (fun j a=>fun _=>Ll s2 j a) 0 s1 ()).bind (alt (fun _=>.ok true) (fun r=>.ok r)))
def Ji (c:Clearing):R Bool:=
 (Fq c).bind fun r=>
 (if(!r) then R.ok true else(K9 c).bind fun r1=>
 R.ok (!r1)).bind (fun(b:Bool)=>if b then
(.ok false)
else
((Ib c).bind fun r2=>
 if r2.2 then
((Jm r2.1).bind fun r3=>
 (if(r3.2==c.Phase) then(Jz r3.1 c.Outcome).bind fun r4=>
 R.ok r4 else R.ok false).bind (fun(b1:Bool)=>.ok b1))
else
(.ok false)))
def Dd (x:Bool):R Int:=
 if x then
(.ok 400)
else
(.ok 0)
def Hr (c:Clearing):R Int:=
 (Ng c).bind fun r=>
 if(!r) then
(Dd true)
else
(if(decide (c.Phase<1)) then
(Dd true)
else
(if(decide (c.Phase > 4)) then
(Dd true)
else
(if c.Phase=0 then
(.bad)
else
(if c.Phase=1 then
((Oi c).bind fun r1=>
 Dd (!r1))
else
(if c.Phase=2 then
((L7 c).bind fun r2=>
 Dd (!r2))
else
(if c.Phase=3 then
((Ji c).bind fun r3=>
 Dd (!r3))
else
(if c.Phase=4 then
((Ji c).bind fun r4=>
 Dd (!r4))
else
(.bad))))))))
def Tk (no:Int)(slots:Int)(owners:List Int)(flights:List Int):R (Clearing×Int):=
 (Fi owners).bind fun r=>
 if(0:Int)≤(r.1.length:Int)∧((r.1.length:Int):Int)≤(r.1.length:Int)∧(Int.toNat (r.1.length:Int)) * 32≤Ci then
 (Hr ({ No:=no,Phase:=1,Slots:=slots,Owners:=owners,Flights:=flights,Commitments:=(List.replicate (Int.toNat (r.1.length:Int)) (B5 32 0)),Openings:=[],Outcome:=[] }:Clearing)).bind fun e=>
 if(e != 0) then
(.ok (({ No:=0,Phase:=0,Slots:=0,Owners:=[],Flights:=[],Commitments:=[],Openings:=[],Outcome:=[] }:Clearing),e))
else
(.ok (({ No:=no,Phase:=1,Slots:=slots,Owners:=owners,Flights:=flights,Commitments:=(List.replicate (Int.toNat (r.1.length:Int)) (B5 32 0)),Openings:=[],Outcome:=[] }:Clearing),0)) else .bad
def Sg (c:Int):R Bool:=
 (Jk c).bind fun r=>
 .ok (!r)
def Ju (j:Nat)(a:Int):R (Unit ⊕ Int):=
 (Sg a).bind fun r=>
 if r then
(.ok (.inr ((j:Int))))
else
(.ok (.inl ()))
def O6 (s:List Int):R Int:=
 (each (fun j a=>fun _=>Ju j a) 0 s ()).bind (alt (fun _=>.ok (-1)) (fun r=>.ok r))
def Nc (s:List Int):R Bool:=
 (O6 s).bind fun r=>
 .ok (decide (r≥0))
def Un (t:Table):R Int:=
 (J0 t.Airline t.Flight).bind fun r=>
 (if(((!r)||(decide ((t.Costs.length:Int)<1)))||(decide ((t.Costs.length:Int) > 8))) then R.ok true else(Nc t.Costs).bind fun r1=>
 R.ok r1).bind (fun(b:Bool)=>if b then
(.ok 360)
else
(.ok 0))
def H6 (x1:Bool):R (Unit ⊕ Bool):=
 if x1 then
(.ok (.inr (false)))
else
(.ok (.inl ()))
def Ov (l:List Table)(j:Nat)(a:Table):R (Unit ⊕ Bool):=
 (Un a).bind fun r=>
 if(r != 0) then
(H6 true)
else
((idx l 0).bind fun a1=>
 if(a.Airline != a1.Airline) then
(H6 true)
else
(if((a.Costs.length:Int) != (a1.Costs.length:Int)) then
(H6 true)
else
(if(decide ((j:Int) > 0)) then
((idx l (IntKind.wrap .i64 ((j:Int) - 1))).bind fun a2=>
 H6 (decide (a.Flight≤a2.Flight)))
else
(H6 false))))
def L4 (l:List Table):R Bool:=
 if((decide ((l.length:Int)<1))||(decide ((l.length:Int) > 8))) then
(.ok false)
else
((each (fun j a=>fun _=>Ov l j a) 0 l ()).bind (alt (fun _=>.ok true) (fun r=>.ok r)))
def Lk (t:Table):R Unit:=
 .ok ()
section
variable {σ_:Type}
def Hb (b:Table)(b_:(Vector Int 32)→σ_→R σ_)(j:Nat)(a:Int)(s:σ_):R σ_:=
 (Fj b.Salt [b.Airline,b.Flight,(j:Int),a]).bind fun r=>
 (b_ r s).bind fun s1=>
 .ok s1
def I6 (b:Table)(b_:(Vector Int 32)→σ_→R σ_)(s_:σ_):R σ_:=
 (eachS (fun j a=>fun s=>Hb b b_ j a s) 0 b.Costs s_).bind ((fun s=>.ok s))
end
def Nr (a:(Vector Int 32))(l:(List (Vector Int 32))):R (List (Vector Int 32)):=
 if(l.length+[a].length) * 32≤Ci then
 .ok (l++[a]) else .bad
def Jg (t:Table):R (List (Vector Int 32)):=
 (Lk t).bind fun _=>
 (I6 t (fun a z_=>R.np ((fun l=>Nr a l) z_)) []).bind (fun l=>.ok l)
def Rw (W_:(List (Vector Int 32))→R (Vector Int 32))(l:(List (Vector Int 32))):R (Vector Int 32):=
 if((l.length:Int)==0) then
((Hp [101,109,112,116,121] []).bind fun r=>
 .ok r)
else
(if((l.length:Int)==1) then
((idx l 0).bind fun a=>
 (Mb a).bind fun r1=>
 .ok r1)
else
((Gm (l.length:Int)).bind fun n=>
 if(0:Int)≤n∧n≤(l.length:Int) then
 if(0:Int)≤n∧n≤(l.length:Int) then
 (W_ (l.take (Int.toNat n))).bind fun r2=>
 (W_ (l.drop (Int.toNat n))).bind fun r3=>
 (Km r2 r3).bind fun r4=>
 .ok r4 else .bad else .bad))
def Rt:Nat→(List (Vector Int 32))→R (Vector Int 32)
 | 0,_=>.bad
 | n+1,l=>Rw (Rt n) l
def P7 (l:(List (Vector Int 32))):R (Vector Int 32):=Rt Vx l
def Ih (a:Table)(d:(List (Vector Int 32))):R (List (Vector Int 32)):=
 (Jg a).bind fun r=>
 (P7 r).bind fun r1=>
 if(d.length+[r1].length) * 32≤Ci then
 .ok (d++[r1]) else .bad
def G7 (l:List Table):R (List (Vector Int 32)):=
 (eachS (fun _ a=>fun d=>Ih a d) 0 l []).bind ((fun d=>.ok d))
def Nk (l:List Table):R ((Vector Int 32)×Int):=
 (L4 l).bind fun r=>
 if r then
((G7 l).bind fun r1=>
 (P7 r1).bind fun r2=>
 .ok (r2,0))
else
(.ok ((B5 32 0),360))
def Om (s:List (Vector Int 32)):R (List (Vector Int 32)):=if s.length * 32≤Ci then .ok s else .bad
def O8 (c:Clearing)(airline:Int)(d:(Vector Int 32)):R (Clearing×Int):=
 (Hr c).bind fun e=>
 if(e != 0) then
(.ok (({ No:=0,Phase:=0,Slots:=0,Owners:=[],Flights:=[],Commitments:=[],Openings:=[],Outcome:=[] }:Clearing),e))
else
((Fi c.Owners).bind fun r=>
 (Gt r.1 airline).bind fun i=>
 if((decide (i<0))||(d==(#v[0,0,0,0,0,0,0,0,0,0,0,0,0,0,0,0,0,0,0,0,0,0,0,0,0,0,0,0,0,0,0,0]:(Vector Int 32)))) then
(.ok (({ No:=0,Phase:=0,Slots:=0,Owners:=[],Flights:=[],Commitments:=[],Openings:=[],Outcome:=[] }:Clearing),400))
else
((idx c.Commitments i).bind fun a=>
 if(a==d) then
(.ok (c,0))
else
(if(a==(#v[0,0,0,0,0,0,0,0,0,0,0,0,0,0,0,0,0,0,0,0,0,0,0,0,0,0,0,0,0,0,0,0]:(Vector Int 32))) then
((Om c.Commitments).bind fun r1=>
 (idx r1 i).bind fun a1=>
 (Fq ({ No:=c.No,Phase:=c.Phase,Slots:=c.Slots,Owners:=c.Owners,Flights:=c.Flights,Commitments:=(r1.set (Int.toNat i) d),Openings:=c.Openings,Outcome:=c.Outcome }:Clearing)).bind fun r2=>
 if r2 then
(.ok (({ No:=c.No,Phase:=2,Slots:=c.Slots,Owners:=c.Owners,Flights:=c.Flights,Commitments:=(r1.set (Int.toNat i) d),Openings:=c.Openings,Outcome:=c.Outcome }:Clearing),0))
else
(.ok (({ No:=c.No,Phase:=c.Phase,Slots:=c.Slots,Owners:=c.Owners,Flights:=c.Flights,Commitments:=(r1.set (Int.toNat i) d),Openings:=c.Openings,Outcome:=c.Outcome }:Clearing),0)))
else
(.ok (({ No:=0,Phase:=0,Slots:=0,Owners:=[],Flights:=[],Commitments:=[],Openings:=[],Outcome:=[] }:Clearing),400)))))
def Hq (i:Int)(j:Int)(s:(List (Vector Int 32))):R ((Int×Int×(List (Vector Int 32))) ⊕ (List (Vector Int 32))):=
 if i<j then
((idx s j).bind fun a=>
 (idx s i).bind fun a1=>
 (idx (s.set (Int.toNat i) a) j).bind fun a2=>
 .ok (.inl ((IntKind.wrap .i64 (i+1)),(IntKind.wrap .i64 (j - 1)),((s.set (Int.toNat i) a).set (Int.toNat j) a1))))
else
(.ok (.inr (s)))
def Hn (l1:(List (Vector Int 32))):R (List (Vector Int 32)):=
 .ok l1
def Ha (l:(List (Vector Int 32))):R (List (Vector Int 32)):=
 (loop (Sn fun i j s=>Hq i j s) (0,(IntKind.wrap .i64 ((l.length:Int) - 1)),l)).bind (fun l1=>Hn l1)
def N1 (l1:(List (Vector Int 32)))(vat1:Int)(p:(List (Vector Int 32))):R (((List (Vector Int 32))×Int×(List (Vector Int 32))) ⊕ (List (Vector Int 32))):=
 if(l1.length:Int) > 1 then
((Gm (l1.length:Int)).bind fun n=>
 if vat1<n then
(if(0:Int)≤n∧n≤(l1.length:Int) then
 if(0:Int)≤n∧n≤(l1.length:Int) then
 (P7 (l1.drop (Int.toNat n))).bind fun r=>
 if(p.length+[r].length) * 32≤Ci then
 .ok (.inl ((l1.take (Int.toNat n)),vat1,(p++[r]))) else .bad else .bad else .bad)
else
(if(0:Int)≤n∧n≤(l1.length:Int) then
 if(0:Int)≤n∧n≤(l1.length:Int) then
 (P7 (l1.take (Int.toNat n))).bind fun r1=>
 if(p.length+[r1].length) * 32≤Ci then
 .ok (.inl ((l1.drop (Int.toNat n)),(IntKind.wrap .i64 (vat1 - n)),(p++[r1]))) else .bad else .bad else .bad))
else
(.ok (.inr (p)))
def N9 (p1:(List (Vector Int 32))):R ((List (Vector Int 32))×Int):=
 (Ha p1).bind fun r2=>
 .ok (r2,0)
def N0 (l:(List (Vector Int 32)))(vat:Int):R ((List (Vector Int 32))×Int):=
 if((decide (vat<0))||(decide (vat≥(l.length:Int)))) then
(.ok ([],1))
else
((loop (Sn fun l1 vat1 p=>N1 l1 vat1 p) (l,vat,[])).bind (fun p1=>N9 p1))
def Kw (n:Int):R (List (Vector Int 32)):=
 if n<0 then
(.pan ⟨9,.str [99,97,110,110,111,116,32,98,101,32,110,101,103,97,116,105,118,101]⟩)
else
(if(IntKind.wrap .i64 (n - 0)) > 0 then
(if(0:Int)<(IntKind.wrap .i64 (n - 0))∧(Int.toNat (IntKind.wrap .i64 (n - 0))) * 32≤Ci then
 if(0:Int)≤0∧0≤((List.replicate (Int.toNat (IntKind.wrap .i64 (n - 0))) ((B5 32 0):(Vector Int 32))).length:Int) then
 .ok ((List.replicate (Int.toNat (IntKind.wrap .i64 (n - 0))) ((B5 32 0):(Vector Int 32))).take (Int.toNat 0)) else .bad else .bad)
else
(.ok []))
def Li (a:(List (Vector Int 32)))(size:Int):R Int:=
 if(IntKind.wrap .i64 (size+(a.length:Int)))<0 then
(.pan ⟨9,.str [108,101,110,32,111,117,116,32,111,102,32,114,97,110,103,101]⟩)
else
(.ok (IntKind.wrap .i64 (size+(a.length:Int))))
def Je (a1:(List (Vector Int 32)))(newslice1:(List (Vector Int 32))):R (List (Vector Int 32)):=
 if(newslice1.length+a1.length) * 32≤Ci then
 .ok (newslice1++a1) else .bad
def I0 (slices:(List (List (Vector Int 32)))):R (List (Vector Int 32)):=
 (eachS (fun _ a=>fun size=>Li a size) 0 slices 0).bind ((fun size=>(Kw size).bind fun newslice=>
 (eachS (fun _ a1=>fun newslice1=>Je a1 newslice1) 0 slices newslice).bind ((fun newslice1=>.ok newslice1))))
def Pg (l:List Table)(vat:Int)(slot:Int):R (Opening×Int):=
 (L4 l).bind fun r=>
 (if((((!r)||(decide (vat<0)))||(decide (vat≥(l.length:Int))))||(decide (slot<0))) then R.ok true else(idx l 0).bind fun a=>
 R.ok (decide (slot≥(a.Costs.length:Int)))).bind (fun(b:Bool)=>if b then
(.ok (({ Airline:=0,Flight:=0,Slot:=0,Cost:=0,Salt:=(B5 32 0),Path:=[] }:Opening),360))
else
((idx l vat).bind fun a1=>
 (Jg a1).bind fun r1=>
 (N0 r1 slot).bind fun r2=>
 (G7 l).bind fun r3=>
 (N0 r3 vat).bind fun r4=>
 (idx a1.Costs slot).bind fun a2=>
 (I0 [r2.1,r4.1]).bind fun r5=>
 .ok (({ Airline:=a1.Airline,Flight:=a1.Flight,Slot:=slot,Cost:=a2,Salt:=a1.Salt,Path:=r5 }:Opening),0)))
def C3 (a:List Opening)(target:Opening)(i:Int)(j:Int):R ((Int×Int) ⊕ Int):=
 if i<j then
((idx a (IntKind.wrap .i64 (Int.fdiv (IntKind.wrap .u64 (IntKind.wrap .i64 (i+j))) 2))).bind fun a1=>
 (Ms a1 target).bind fun r=>
 if r<0 then
(.ok (.inl ((IntKind.wrap .i64 ((IntKind.wrap .i64 (Int.fdiv (IntKind.wrap .u64 (IntKind.wrap .i64 (i+j))) 2))+1)),j)))
else
(.ok (.inl (i,(IntKind.wrap .i64 (Int.fdiv (IntKind.wrap .u64 (IntKind.wrap .i64 (i+j))) 2))))))
else
(.ok (.inr (i)))
def Di (a:List Opening)(target:Opening)(i1:Int):R (Int×Bool):=
 if(decide (i1<(a.length:Int))) then
((idx a i1).bind fun a2=>
 (Ms a2 target).bind fun r1=>
 .ok (i1,(r1==0)))
else
(.ok (i1,false))
def C9 (a:List Opening)(target:Opening):R (Int×Bool):=
 (loop (Do fun i j=>C3 a target i j) (0,(a.length:Int))).bind (fun i1=>Di a target i1)
def Ks (s:List Opening):R (List Opening):=if s.length * 88≤Ci then .ok s else .bad
def Of (i:Int)(l:List Opening)(l2:List Opening):R (List Opening):=Ta 88 l i l2
def Hl (r:(Int×Bool))(y2:List Opening):R (Int×Bool×(List Opening)):=
 .ok (r.1,false,y2)
def E2 (l:List Opening)(b:Opening):R (Int×Bool×(List Opening)):=
 (C9 l b).bind fun r=>
 if r.2 then
(.ok (r.1,true,l))
else
((Ks l).bind fun r1=>
 (Of r.1 r1 [b]).bind fun y=>
 Hl r y)
def Jn (s2:(List (Vector Int 32)))(j:Nat)(a:(Vector Int 32)):R (Unit ⊕ Bool):=
 (idx s2 (j:Int)).bind fun a1=>
 if(a==a1) then
(.ok (.inl ()))
else
(.ok (.inr (false)))
def Lp (s1:(List (Vector Int 32)))(s2:(List (Vector Int 32))):R Bool:=
 if((s1.length:Int) != (s2.length:Int)) then
(.ok false)
else
((each (fun j a=>fun _=>Jn s2 j a) 0 s1 ()).bind (alt (fun _=>.ok true) (fun r=>.ok r)))
def R8 (a:Opening)(b:Opening):R Bool:=
 (if(((((a.Airline==b.Airline)&&(a.Flight==b.Flight))&&(a.Slot==b.Slot))&&(a.Cost==b.Cost))&&(a.Salt==b.Salt)) then(Lp a.Path b.Path).bind fun r=>
 R.ok r else R.ok false).bind (fun(b1:Bool)=>.ok b1)
def J6 (c:Clearing)(r:(Int×Bool×(List Opening)))(x:Bool):R (Clearing×Int):=
 if x then
(.ok (({ No:=0,Phase:=0,Slots:=0,Owners:=[],Flights:=[],Commitments:=[],Openings:=[],Outcome:=[] }:Clearing),400))
else
(.ok (({ No:=c.No,Phase:=c.Phase,Slots:=c.Slots,Owners:=c.Owners,Flights:=c.Flights,Commitments:=c.Commitments,Openings:=r.2.2,Outcome:=c.Outcome }:Clearing),0))
def Mf (c:Clearing)(o:Opening):R (Clearing×Int):=
 (Hr c).bind fun e=>
 if(e != 0) then
(.ok (({ No:=0,Phase:=0,Slots:=0,Owners:=[],Flights:=[],Commitments:=[],Openings:=[],Outcome:=[] }:Clearing),e))
else
(if(c.Phase==1) then
(.ok (({ No:=0,Phase:=0,Slots:=0,Owners:=[],Flights:=[],Commitments:=[],Openings:=[],Outcome:=[] }:Clearing),401))
else
((Hv c o).bind fun e1=>
 if(e1 != 0) then
(.ok (({ No:=0,Phase:=0,Slots:=0,Owners:=[],Flights:=[],Commitments:=[],Openings:=[],Outcome:=[] }:Clearing),e1))
else
((E2 c.Openings o).bind fun r=>
 if r.2.1 then
((idx c.Openings r.1).bind fun a=>
 (R8 a o).bind fun r1=>
 J6 c r (!r1))
else
(J6 c r false))))
def Ql (i:Int)(o:Clearing)(o1:Table):R ((Int×Int×Clearing) ⊕ ((Int×Clearing) ⊕ (Clearing×Bool))):=
 if i≤2 then
((Nk [o1]).bind fun r1=>
 if(r1.2 != 0) then
(.ok (.inr (.inr ((o,false)))))
else
((O8 o o1.Airline r1.1).bind fun r2=>
 .ok (.inl (r2.2,(IntKind.wrap .i64 (i+1)),r2.1))))
else
((Pg [o1] 0 (IntKind.wrap .i64 (Int.tdiv (IntKind.wrap .i64 (i - 3)) 2))).bind fun r3=>
 if(r3.2 != 0) then
(.ok (.inr (.inr ((o,false)))))
else
((Mf o r3.1).bind fun r4=>
 .ok (.inl (r4.2,(IntKind.wrap .i64 (i+1)),r4.1))))
def Qw (steps:Int)(e:Int)(i:Int)(o:Clearing):R ((Int×Int×Clearing) ⊕ ((Int×Clearing) ⊕ (Clearing×Bool))):=
 if((decide (i≤steps))&&(e==0)) then
(if((Int.tmod i 2)==0) then
(Ql i o ({ Airline:=3,Flight:=9,Costs:=[2,6],Salt:=(B5 32 0) }:Table))
else
(Ql i o ({ Airline:=0,Flight:=5,Costs:=[4,1],Salt:=(B5 32 0) }:Table)))
else
(.ok (.inr (.inl ((e,o)))))
def S5 (e1:Int)(o2:Clearing):R (Clearing×Bool):=
 .ok (o2,(e1==0))
def Vb (steps:Int):R (Clearing×Bool):=
 (Tk 1 2 [0,3] [5,9]).bind fun r=>
 (loop (Sn fun e i o=>Qw steps e i o) (r.2,1,r.1)).bind (alt (Do fun e1 o2=>S5 e1 o2) (fun r=>.ok r))
def Iw (c:Clearing):R (Round×Int):=
 (Hr c).bind fun e=>
 if(e != 0) then
(.ok (({ Slots:=0,Owners:=[],Costs:=[] }:Round),e))
else
((Ib c).bind fun r=>
 if r.2 then
(.ok (r.1,0))
else
(.ok (({ Slots:=0,Owners:=[],Costs:=[] }:Round),401)))
def Qs (c:Clearing):R (Clearing×Int):=
 (Iw c).bind fun r=>
 if(r.2 != 0) then
(.ok (({ No:=0,Phase:=0,Slots:=0,Owners:=[],Flights:=[],Commitments:=[],Openings:=[],Outcome:=[] }:Clearing),r.2))
else
(if(c.Phase==2) then
((Jm r.1).bind fun r1=>
 .ok (({ No:=c.No,Phase:=r1.2,Slots:=c.Slots,Owners:=c.Owners,Flights:=c.Flights,Commitments:=c.Commitments,Openings:=c.Openings,Outcome:=r1.1 }:Clearing),0))
else
(.ok (c,0)))
def Oa (n:Int)(lo:Int)(hi:Int):R Bool:=
 .ok ((decide (lo≤n))&&(decide (n≤hi)))
def I1 (m:(List (Int×Bool)))(a:Lease)(x1:Bool):R ((List (Int×Bool)) ⊕ Int):=
 if x1 then
(.ok (.inr (350)))
else
(.ok (.inl (L9 m a.Token true)))
def Tp (l:Leases)(j:Nat)(a:Lease)(m:(List (Int×Bool))):R ((List (Int×Bool)) ⊕ Int):=
 (Oa a.Slot 0 4095).bind fun r1=>
 if(!r1) then
(I1 m a true)
else
((Oa a.Airline 0 7).bind fun r2=>
 if(!r2) then
(I1 m a true)
else
((Oa a.Flight 0 4095).bind fun r3=>
 if(!r3) then
(I1 m a true)
else
((Oa a.Token 1 l.Token).bind fun r4=>
 if(!r4) then
(I1 m a true)
else
(if(decide ((j:Int) > 0)) then
((idx l.List (IntKind.wrap .i64 ((j:Int) - 1))).bind fun a1=>
 if(decide (a1.Slot≥a.Slot)) then
(I1 m a true)
else
(I1 m a (Option.getD (E7 m a.Token) false)))
else
(I1 m a (Option.getD (E7 m a.Token) false))))))
def Xn (l:Leases):R Int:=
 (Oa l.Token 0 1048576).bind fun r=>
 if r then
((each (fun j a=>fun m=>Tp l j a m) 0 l.List []).bind (alt (fun m=>.ok 0) (fun r=>.ok r)))
else
(.ok 350)
def W6 (a:Lease)(b:Int):R Bool:=
 .ok (a.Slot==b)
def I7 (s1:Int)(j:Nat)(a:Lease):R (Unit ⊕ Int):=
 (W6 a s1).bind fun r=>
 if r then
(.ok (.inr ((j:Int))))
else
(.ok (.inl ()))
def Kk (s:List Lease)(s1:Int):R Int:=
 (each (fun j a=>fun _=>I7 s1 j a) 0 s ()).bind (alt (fun _=>.ok (-1)) (fun r=>.ok r))
def Xk (l:Leases)(slot:Int):R (Lease×Bool):=
 (Kk l.List slot).bind fun i=>
 if i<0 then
(.ok (({ Slot:=0,Airline:=0,Flight:=0,Token:=0,Used:=false }:Lease),false))
else
((idx l.List i).bind fun a=>
 .ok (a,true))
def Lw (x:Int)(x1:Bool):R (Int ⊕ (Unit ⊕ Bool)):=
 if x1 then
(.ok (.inr (.inr (false))))
else
(.ok (.inl (IntKind.wrap .i64 (x+1))))
def Qk (c:Clearing)(l:Leases)(x:Int):R (Int ⊕ (Unit ⊕ Bool)):=
 if x<c.Slots then
((Xk l x).bind fun r1=>
 if(!(r1.2==(decide (x<(c.Flights.length:Int))))) then
(Lw x true)
else
(if r1.2 then
((idx c.Owners x).bind fun a=>
 if(r1.1.Airline != a) then
(Lw x true)
else
((idx c.Flights x).bind fun a1=>
 if(r1.1.Flight != a1) then
(Lw x true)
else
(Lw x r1.1.Used)))
else
(Lw x false)))
else
(.ok (.inr (.inl (()))))
def Q0:R Bool:=
 .ok true
def T8 (c:Clearing)(l:Leases):R Bool:=
 (Xn l).bind fun r=>
 if(r != 0) then
(.ok false)
else
((loop (fun x=>Qk c l x) 0).bind (alt (fun _=>Q0) (fun r=>.ok r)))
def Ml (c:Clearing)(l:Leases)(j:Nat)(a:Int)(x1:List Command):R (List Command):=
 if(a==(j:Int)) then
(.ok x1)
else
((idx c.Owners (j:Int)).bind fun a1=>
 (idx c.Flights (j:Int)).bind fun a2=>
 (Xk l a).bind fun r1=>
 if r1.2 then
(if(x1.length+[({ Kind:=2,Slot:=a,Airline:=a1,Flight:=a2,Token:=r1.1.Token }:Command)].length) * 40≤Ci then
 .ok (x1++[({ Kind:=2,Slot:=a,Airline:=a1,Flight:=a2,Token:=r1.1.Token }:Command)]) else .bad)
else
(if(x1.length+[({ Kind:=1,Slot:=a,Airline:=a1,Flight:=a2,Token:=0 }:Command)].length) * 40≤Ci then
 .ok (x1++[({ Kind:=1,Slot:=a,Airline:=a1,Flight:=a2,Token:=0 }:Command)]) else .bad))
def Mx (c:Clearing)(l:Leases):R ((List Command)×Int):=
 (Hr c).bind fun e=>
 if(e != 0) then
(.ok ([],e))
else
(if((c.Phase != 3)&&(c.Phase != 4)) then
(.ok ([],401))
else
((T8 c l).bind fun r=>
 if r then
((eachS (fun j a=>fun x1=>Ml c l j a x1) 0 c.Outcome []).bind ((fun x1=>.ok (x1,0))))
else
(.ok ([],400))))
def Qh (b:List Int)(j:Nat)(a1:Int):R (Unit ⊕ Bool):=
 (idx b (j:Int)).bind fun a2=>
 if(a1 != a2) then
(.ok (.inr (false)))
else
(.ok (.inl ()))
def Lu (a:List Int)(b:List Int):R Bool:=
 if((a.length:Int) != (b.length:Int)) then
(.ok false)
else
((each (fun j a1=>fun _=>Qh b j a1) 0 a ()).bind (alt (fun _=>.ok true) (fun r=>.ok r)))
def Mt (b:Round)(j:Nat)(a1:List Int):R (Unit ⊕ Bool):=
 (idx b.Costs (j:Int)).bind fun a2=>
 (Lu a1 a2).bind fun r1=>
 if r1 then
(.ok (.inl ()))
else
(.ok (.inr (false)))
def Pb (a:Round)(b:Round):R Bool:=
 (if(a.Slots != b.Slots) then R.ok true else(Lu a.Owners b.Owners).bind fun r=>
 R.ok (!r)).bind (fun(b1:Bool)=>if(b1||((a.Costs.length:Int) != (b.Costs.length:Int))) then
(.ok false)
else
((each (fun j a1=>fun _=>Mt b j a1) 0 a.Costs ()).bind (alt (fun _=>.ok true) (fun r=>.ok r))))
def M6 (b:List Command)(j:Nat)(a1:Command):R (Unit ⊕ Bool):=
 (idx b (j:Int)).bind fun a2=>
 if((a1.Kind==a2.Kind)&&((a1.Slot==a2.Slot)&&((a1.Airline==a2.Airline)&&((a1.Flight==a2.Flight)&&(a1.Token==a2.Token))))) then
(.ok (.inl ()))
else
(.ok (.inr (false)))
def Kf (a:List Command)(b:List Command):R Bool:=
 if((a.length:Int) != (b.length:Int)) then
(.ok false)
else
((each (fun j a1=>fun _=>M6 b j a1) 0 a ()).bind (alt (fun _=>.ok true) (fun r=>.ok r)))
def Rm:R Bool:=
 (Tk 1 2 [0,1,2] [0,1,2]).bind fun r=>
 (Vb 0).bind fun r1=>
 (O8 r1.1 1 (#v[1,0,0,0,0,0,0,0,0,0,0,0,0,0,0,0,0,0,0,0,0,0,0,0,0,0,0,0,0,0,0,0]:(Vector Int 32))).bind fun r2=>
 (Qs r1.1).bind fun r3=>
 (Mx r1.1 ({ Token:=0,List:=[] }:Leases)).bind fun r4=>
 (Mf r1.1 ({ Airline:=0,Flight:=0,Slot:=0,Cost:=0,Salt:=(B5 32 0),Path:=[] }:Opening)).bind fun r5=>
 (Vb 6).bind fun r6=>
 (Iw r6.1).bind fun r7=>
 (Qs r6.1).bind fun r8=>
 (Mx r8.1 ({ Token:=2,List:=[({ Slot:=0,Airline:=0,Flight:=5,Token:=1,Used:=false }:Lease),({ Slot:=1,Airline:=3,Flight:=9,Token:=2,Used:=false }:Lease)] }:Leases)).bind fun r9=>
 (if(((((((((((((r.2 != 400)||(!r1.2))||(!r6.2))||(r2.2 != 400))||(r3.2 != 401))||(r4.2 != 401))||(r5.2 != 401))||(r7.2 != 0))||(r8.2 != 0))||(r9.2 != 0))||(r1.1.Phase != 1))||(r6.1.Phase != 2))||(r8.1.Phase != 3)) then R.ok true else(Hr r8.1).bind fun r10=>
 R.ok (r10 != 0)).bind (fun(b:Bool)=>if b then
(.ok false)
else
((Pb r7.1 ({ Slots:=2,Owners:=[0,3],Costs:=[[4,1],[2,6]] }:Round)).bind fun r11=>
 (if r11 then(Lu r8.1.Outcome [1,0]).bind fun r12=>
 R.ok r12 else R.ok false).bind (fun(b1:Bool)=>(if b1 then(Kf r9.1 [({ Kind:=2,Slot:=1,Airline:=0,Flight:=5,Token:=2 }:Command),({ Kind:=2,Slot:=0,Airline:=3,Flight:=9,Token:=1 }:Command)]).bind fun r13=>
 R.ok r13 else R.ok false).bind (fun(b2:Bool)=>.ok b2))))
def Q3 (a:Opening):R (Unit ⊕ Bool):=
 if(a.Path.length:Int) > 12 then
(.ok (.inr (false)))
else
(.ok (.inl ()))
def X4 (c:Clearing):R Bool:=
 (each (fun _ a=>fun _=>Q3 a) 0 c.Openings ()).bind (alt (fun _=>.ok ((((((decide ((c.Flights.length:Int)≤4))&&(decide ((c.Owners.length:Int)≤6)))&&(decide (c.Slots≤5)))&&(decide ((c.Commitments.length:Int)≤8)))&&(decide ((c.Openings.length:Int)≤30)))&&(decide ((c.Outcome.length:Int)≤10)))) (fun r=>.ok r))
def R5 (b:(List (Vector Int 32)))(j:Nat)(a1:(Vector Int 32)):R (Unit ⊕ Bool):=
 (idx b (j:Int)).bind fun a2=>
 if(a1==a2) then
(.ok (.inl ()))
else
(.ok (.inr (false)))
def V9 (a:(List (Vector Int 32)))(b:(List (Vector Int 32))):R Bool:=
 if((a.length:Int) != (b.length:Int)) then
(.ok false)
else
((each (fun j a1=>fun _=>R5 b j a1) 0 a ()).bind (alt (fun _=>.ok true) (fun r=>.ok r)))
def Nj (a:Opening)(b:Opening):R Bool:=
 (if(((((a.Airline==b.Airline)&&(a.Flight==b.Flight))&&(a.Slot==b.Slot))&&(a.Cost==b.Cost))&&(a.Salt==b.Salt)) then(V9 a.Path b.Path).bind fun r=>
 R.ok r else R.ok false).bind (fun(b1:Bool)=>.ok b1)
def R1 (airline:Int)(a:Int)(n:Int):R Int:=
 if(a==airline) then
(.ok (IntKind.wrap .i64 (n+1)))
else
(.ok n)
def Wa (owners:List Int)(airline:Int):R Int:=
 (eachS (fun _ a=>fun n=>R1 airline a n) 0 owners 0).bind ((fun n=>.ok n))
def Nn (owners:List Int)(j:Nat)(l:List Int):R (List Int):=
 (Wa owners (j:Int)).bind fun r=>
 if r > 0 then
(if(l.length+[(j:Int)].length) * 8≤Ci then
 .ok (l++[(j:Int)]) else .bad)
else
(.ok l)
def Ka (owners:List Int):R (List Int):=
 (eachS (fun j _=>fun l=>Nn owners j l) 0 (List.range 8) []).bind ((fun l=>.ok l))
def Hf (b:Opening)(r2:(Clearing×Int))(x1:Int)(j:Nat)(x3:Int):R (Int×Int):=
 (idx r2.1.Owners (j:Int)).bind fun a2=>
 if(a2==b.Airline) then
(.ok (x3,(IntKind.wrap .i64 (x1+1))))
else
(.ok (x3,x1))
def Hd (b:Opening)(r2:(Clearing×Int))(j:Nat)(a1:Int)(x:Int)(x1:Int):R (Int×Int):=
 if(a1==b.Flight) then
(Hf b r2 x1 j (j:Int))
else
(Hf b r2 x1 j x)
def I9 (x4:Int)(x5:Bool):R (Int ⊕ Int):=
 if x5 then
(.ok (.inl (IntKind.wrap .i64 (x4+1))))
else
(.ok (.inr (x4)))
def F5 (b:Opening)(r3:List Int)(x4:Int):R (Int ⊕ Int):=
 if(decide (x4<(r3.length:Int))) then
((idx r3 x4).bind fun a3=>
 I9 x4 (a3 != b.Airline))
else
(I9 x4 false)
def G9 (b:Opening)(a6:Opening)(x8:Bool):R Bool:=
 (if x8 then R.ok true else(Nj a6 b).bind fun r5=>
 R.ok r5).bind (fun(b1:Bool)=>.ok b1)
def F3 (b:Opening)(r2:(Clearing×Int))(x:Int)(x7:Bool):R Bool:=
 if x7 then
(.ok false)
else
((eachS (fun _ a6=>fun x8=>G9 b a6 x8) 0 r2.1.Openings false).bind ((fun x8=>(Iw r2.1).bind fun r6=>
 if x8 then
(if(r6.2==401) then
(.ok true)
else
(if(r6.2==0) then
((idx r6.1.Costs x).bind fun a7=>
 if(decide (b.Slot<(a7.length:Int))) then
((idx a7 b.Slot).bind fun a8=>
 .ok (a8==b.Cost))
else
(.ok false))
else
(.ok false)))
else
(.ok false))))
def G8 (b:Opening)(r2:(Clearing×Int))(x:Int)(x1:Int)(x6:Int):R Bool:=
 if(decide (x<0)) then
(F3 b r2 x true)
else
(if(decide (x6≥(r2.1.Commitments.length:Int))) then
(F3 b r2 x true)
else
((idx r2.1.Owners x).bind fun a4=>
 if(a4 != b.Airline) then
(F3 b r2 x true)
else
((idx r2.1.Commitments x6).bind fun a5=>
 (Gx a5 b.Airline x1 r2.1.Slots b).bind fun r4=>
 F3 b r2 x (r4 != 0))))
def Nu (a:Clearing)(b:Opening):R Bool:=
 (Rm).bind fun r=>
 if r then
((X4 a).bind fun r1=>
 if((!r1)||(decide ((b.Path.length:Int) > 12))) then
(.ok true)
else
((Mf a b).bind fun r2=>
 if(r2.2 != 0) then
(.ok ((r2.1.Flights.length:Int)==0))
else
((eachS (fun j a1=>Do fun x x1=>Hd b r2 j a1 x x1) 0 r2.1.Flights ((-1),0)).bind ((Do fun x x1=>(Ka r2.1.Owners).bind fun r3=>
 (loop (fun x4=>F5 b r3 x4) 0).bind (fun x6=>G8 b r2 x x1 x6))))))
else
(.ok false)
end
end Go.Am
namespace Go.Am
open Go Go.Proofs Go.Proofs.Tryz
set_option maxRecDepth 100000
set_option maxHeartbeats 4000000
set_option linter.unusedSimpArgs false
set_option linter.unusedVariables false
theorem Af6 (l:List Int)(h0:Ab)(o0:Nat)(v:AV)(g:Nat)(hv:Cg v o0 g l.length)(hI0:Ids h0 [o0] 1):L8 l≠.bad→Bz Tryz.prog 88 [v] (hp h0 [o0] [Bp v g 1 (l.map (rI .i64))]) (Ev (fun a_ v' h'=>v'=(.tup [])∧h'=hp h0 [o0] [Bp v g 1 ((Pe l).map (rI .i64))]) h0 (L8 l)):=
 Aqh hI0 (.mk Tryz.func88 rfl (by decide)) hv Go.Proofs.Tryz.slices_Sort_int Go.Proofs.Tryz.slices_Sort_int_none
theorem Pm (owners:List Int)(h0:Ab)(o0:Nat)(hI0:Ids h0 [o0] 1):Fi owners≠.bad→Bz Tryz.prog 50 [(.sl 1 (List.map (rI .i64) owners))] (hp h0 [o0] [none]) (Ev (fun a_ v h' => ∃ (g3:Nat),v=(.tup [(.map o0 g3),(.sl 1 (List.map (rI .i64) a_.1))])∧h'=hp h0 [o0] [some (.mp g3 (mE (fun x:Int=>(AV.int .i64 x)) (fun x:Int=>(AV.int .i64 x)) a_.2))]) h0 (Fi owners)):=by
 refine Fb (n:=36) 1 func50 J (by decide) J J hI0 J fun ids he hI=>?_
 clear hI0
 obtain rfl:ix ids 0=o0:=he 0 rfl
 clear he
 refine Bo (Ah (Fi.eq_1 _) ?_)
 refine A3 ?_
 refine Y<|Aa 2 [] [(3,.emp)]<|O<|Y<|Acg (j:=0) hI J J J J fun g=>Al (.map (ix ids 0) g)<|O<|A3 ?_
 refine Ad<|Y<|Av (.K owners)<|Ac (.I (owners.length:Int)) J (A7 (Bh A2))<|Av (.I 0)<|O<|Aw<|Co [(2,(.map (ix ids 0) g)),(3,.emp),(7,(.K owners)),(8,(.I (owners.length:Int))),(9,(.I 0))] (FI J)<|Db (P:=Tryz.prog) owners (fun _ a=>Do fun m airlines=>G6 a m airlines) (((Do fun m airlines=>(L8 airlines).bind fun _=>.ok ((Pe airlines),m))):((List (Int×Int))×(List Int))→R ((List Int)×(List (Int×Int)))) (fun j=>Do fun m airlines=>fun fr h => ∃ (v1:AV),∃ (g1:Nat),Cg v1 (ix ids 1) g1 airlines.length∧fr=Ap [(2,(.map (ix ids 0) g)),(3,v1),(7,(.K owners)),(8,(.I (owners.length:Int))),(9,(.I j))]∧h=hp h0 ids [(some (.mp g (mE (fun x:Int=>(AV.I x)) (fun x:Int=>(AV.I x)) m))),(Bp v1 g1 1 (List.map rJ airlines))]) ([],[]) ?_ ?_ ?_
 ·exact⟨.emp,0,.nil,J,J⟩
 ·rintro j a ha W hW ⟨m,airlines⟩ fr h ⟨v1,g1,vH,rfl,rfl⟩
  refine Ah (m':=G6 a m airlines) J (Ah (G6.eq_1 _ _ _) ?_)
  refine Y<|Ac (.B (decide ((j:Int)<(owners.length:Int)))) J (Ak J J J)<|O<|Ad<|Dg (t:=7) (L:=owners) J fun hlim=>Ce J (Int.ofNat_lt.2 (A8 ha))<|Aq<|Ad<|Aw<|Y<|Ac (.cp [(.I a)] 0) J (Ay (C7 A2 Bb J ha))<|Aa 2 [] [(5,(.I a))]<|O<|Ad<|Y<|Aa 3 [] [(15,(.B (decide (a<0))))]<|By 3 [(2,(.map (ix ids 0) g)),(3,v1),(5,(.I a)),(7,(.K owners)),(8,(.I (owners.length:Int))),(9,(.I j)),(18,(.B ((decide (a<0))||(decide (a≥8)))))] ?_ fun hJ=>Br (decide (a<0)) (fun hb1=>?_) (fun hb1=>?_)
  ·refine O<|Bl J (fun hc=>?_) (fun hc=>?_)
   ·refine Bs J<|As<|Aa 2 [] [(9,(.I (wi ((j:Int)+1))))]<|O<|Bg (Fy (hW (m,airlines) _ _ ⟨v1,g1,vH,J,J⟩)) (.r4 (.o (ic ha hlim)))
   refine Aq<|Ad<|Y<|Aa 2 [] [(20,(.I a)),(19,(.map (ix ids 0) g))]<|Ac (.I (Option.getD (E7 m a) 0)) J (U9 (S6 (eK:=(fun x:Int=>(AV.I x))) (eV:=(fun x:Int=>(AV.I x))) (zv:=0) (Sv (hI.at J J)) Ac4 Bb Bb L1 J).1)<|Ac (.B ((Option.getD (E7 m a) 0)==0)) J (Ak J J J)<|O<|Bl J (fun hc1=>?_) (fun hc1=>?_)
   ·refine As<|Aa 2 [] [(24,(.I a)),(23,v1)]<|Ey (e:=rJ) (L:=[a]) (st:=1) (rows:=[[(.I a)]]) J A2 Bb J J J J J (.cons (RowSim.refl _) .nil) (fun x=>Cb x) J J<|Cs fun hl=>Et (e:=rJ) (L:=airlines) (L2:=[a]) (v:=v1) (g:=g1) (st:=1) (j:=1) hI J J J J vH J (Ez J) A2 A2 J Bb J J J hl fun v2 g2 vH1=>Al v2<|O<|A3 ?_
    refine As<|Aa 2 [] [(28,(.I a)),(27,(.map (ix ids 0) g))]<|Ac (.I (Option.getD (E7 m a) 0)) J (U9 (S6 (eK:=(fun x:Int=>(AV.I x))) (eV:=(fun x:Int=>(AV.I x))) (zv:=0) (Sv (hI.at J J)) Ac4 Bb Bb L1 J).1)<|Ac (.I (wi ((Option.getD (E7 m a) 0)+1))) J (Ak J J J)<|Ss (j:=0) (eK:=(fun x:Int=>(AV.I x))) (eV:=(fun x:Int=>(AV.I x))) (M:=m) (ky:=a) (w:=(wi ((Option.getD (E7 m a) 0)+1))) hI J J J J J J Ac4 Bb L1<|O<|A3 ?_
    refine A6<|As<|Aa 2 [] [(9,(.I (wi ((j:Int)+1))))]<|O<|Bg (Fy (hW ((L9 m a (wi ((Option.getD (E7 m a) 0)+1))),(airlines++[a])) _ _ ⟨v2,g2,vH1,J,J⟩)) (.r4 (.o (ic ha hlim)))
   refine Aq<|As<|Aa 2 [] [(28,(.I a)),(27,(.map (ix ids 0) g))]<|Ac (.I (Option.getD (E7 m a) 0)) J (U9 (S6 (eK:=(fun x:Int=>(AV.I x))) (eV:=(fun x:Int=>(AV.I x))) (zv:=0) (Sv (hI.at J J)) Ac4 Bb Bb L1 J).1)<|Ac (.I (wi ((Option.getD (E7 m a) 0)+1))) J (Ak J J J)<|Ss (j:=0) (eK:=(fun x:Int=>(AV.I x))) (eV:=(fun x:Int=>(AV.I x))) (M:=m) (ky:=a) (w:=(wi ((Option.getD (E7 m a) 0)+1))) hI J J J J J J Ac4 Bb L1<|O<|A3 ?_
   refine A6<|As<|Aa 2 [] [(9,(.I (wi ((j:Int)+1))))]<|O<|Bg (Fy (hW ((L9 m a (wi ((Option.getD (E7 m a) 0)+1))),airlines) _ _ ⟨v1,g1,vH,J,J⟩)) (.r4 (.o (ic ha hlim)))
  ·refine Bi (t:=15) hb1 J<|Aa 3 [] [(18,(.B true)),(17,.und),(16,.und)]<|Bj hJ (.r4 (.r2 (.cons (Fl hb1) .nil)))
  refine Bi (t:=15) hb1 J<|Aa 3 [] [(18,(.B (decide (a≥8)))),(17,(.B (decide (a≥8)))),(16,(.I a))]<|Bj hJ (.r4 (.r2 (.cons (Fr hb1) .nil)))
 rintro⟨m,airlines⟩ fr h ⟨v1,g1,vH,rfl,rfl⟩
 refine Ah (Alr _ _ _)<|Y<|Ac (.B (decide ((owners.length:Int)<(owners.length:Int)))) J (Ak J J J)<|O<|Ad<|Cd J (Int.lt_irrefl _)<|Bs J<|Y<|Av v1<|E9 [1] hI J J (Af6 airlines _ (ix ids 1) v1 g1 vH (by exact hI.sub' J J)) J J J J J J (fun v _=>Fv (K:=1) (N:=1) func50 hI) ?_
 rintro _ _ _ _ ⟨rfl,rfl⟩
 refine Jv [1] hI J J J ?_
 refine Gb<|O<|A3 ?_
 refine Y<|Aa 4 [] [(3,v1),(2,(.map (ix ids 0) g))]<|O<|Hw (K:=1) (N:=1) [some (.mp g (mE (fun x:Int=>(AV.I x)) (fun x:Int=>(AV.I x)) m))] func50 hI J J J (.keep (.drop .nil)) (.tupL (.s (.cons (Jd (Cg.sort vH) (hI.at J J) (hI.at J J) (fun x=>Cb x)) .nil))) ⟨g,J,J⟩
theorem Ahm (c:Clearing):CP Tryz.prog 38 [(.agg (Ao c))] (Ng c) (fun(x:Bool)=>(AV.bool x)):=by
 refine Bk (n:=94) 2 func38 J (by decide) J J fun h0 ids hI=>Bo (Ah (Ng.eq_1 _) ?_)
 refine Y<|B9 (v:=(.A (Ao c))) (j:=0) hI J J J J J J J fun g=>Al (.B false)<|O<|A3 ?_
 refine Ad<|Y<|Aa 4 [0] [(11,(.B (decide (c.No<1))))]<|By 4 [(1,(.q ids 0 g)),(15,(.B ((decide (c.No<1))||(decide (c.No > 1048576)))))] ?_ fun hJ=>Br (decide (c.No<1)) (fun hb1=>?_) (fun hb1=>?_)
 ·refine Av (.B ((decide (c.No<1))||(decide (c.No > 1048576))))<|By 4 [(1,(.q ids 0 g)),(20,(.B (((decide (c.No<1))||(decide (c.No > 1048576)))||(decide (c.Slots<1)))))] ?_ fun hJ1=>Br ((decide (c.No<1))||(decide (c.No > 1048576))) (fun hb3=>?_) (fun hb3=>?_)
  ·refine Av (.B (((decide (c.No<1))||(decide (c.No > 1048576)))||(decide (c.Slots<1))))<|By 4 [(1,(.q ids 0 g)),(25,(.B ((((decide (c.No<1))||(decide (c.No > 1048576)))||(decide (c.Slots<1)))||(decide (c.Slots > 8)))))] ?_ fun hJ2=>Br (((decide (c.No<1))||(decide (c.No > 1048576)))||(decide (c.Slots<1))) (fun hb5=>?_) (fun hb5=>?_)
   ·refine Av (.B ((((decide (c.No<1))||(decide (c.No > 1048576)))||(decide (c.Slots<1)))||(decide (c.Slots > 8))))<|By 5 [(1,(.q ids 0 g)),(31,(.B (((((decide (c.No<1))||(decide (c.No > 1048576)))||(decide (c.Slots<1)))||(decide (c.Slots > 8)))||(decide ((c.Flights.length:Int)<1)))))] ?_ fun hJ3=>Br ((((decide (c.No<1))||(decide (c.No > 1048576)))||(decide (c.Slots<1)))||(decide (c.Slots > 8))) (fun hb7=>?_) (fun hb7=>?_)
    ·refine Av (.B (((((decide (c.No<1))||(decide (c.No > 1048576)))||(decide (c.Slots<1)))||(decide (c.Slots > 8)))||(decide ((c.Flights.length:Int)<1))))<|By 7 [(1,(.q ids 0 g)),(39,(.B ((((((decide (c.No<1))||(decide (c.No > 1048576)))||(decide (c.Slots<1)))||(decide (c.Slots > 8)))||(decide ((c.Flights.length:Int)<1)))||(decide ((c.Flights.length:Int) > c.Slots)))))] ?_ fun hJ4=>Br (((((decide (c.No<1))||(decide (c.No > 1048576)))||(decide (c.Slots<1)))||(decide (c.Slots > 8)))||(decide ((c.Flights.length:Int)<1))) (fun hb9=>?_) (fun hb9=>?_)
     ·refine Av (.B ((((((decide (c.No<1))||(decide (c.No > 1048576)))||(decide (c.Slots<1)))||(decide (c.Slots > 8)))||(decide ((c.Flights.length:Int)<1)))||(decide ((c.Flights.length:Int) > c.Slots))))<|By 8 [(1,(.q ids 0 g)),(48,(.B (((((((decide (c.No<1))||(decide (c.No > 1048576)))||(decide (c.Slots<1)))||(decide (c.Slots > 8)))||(decide ((c.Flights.length:Int)<1)))||(decide ((c.Flights.length:Int) > c.Slots)))||((c.Owners.length:Int) != (c.Flights.length:Int)))))] ?_ fun hJ5=>Br ((((((decide (c.No<1))||(decide (c.No > 1048576)))||(decide (c.Slots<1)))||(decide (c.Slots > 8)))||(decide ((c.Flights.length:Int)<1)))||(decide ((c.Flights.length:Int) > c.Slots))) (fun hb11=>?_) (fun hb11=>?_)
      ·refine O<|Bl J (fun hc=>?_) (fun hc=>?_)
       ·refine Y<|Al (.B false)<|O<|A0 func38 hI J (.same _)
       refine Aq<|Y<|Al (.I (-1))<|O<|Ad<|Y<|Aa 2 [0] [(50,(.K c.Flights))]<|Ac (.I (c.Flights.length:Int)) J (A7 (Bh A2))<|Av (.I 0)<|O<|Aw<|Co [(1,(.q ids 0 g)),(3,(.I (-1))),(50,(.K c.Flights)),(51,(.I (c.Flights.length:Int))),(52,(.I 0))] (FI J)<|Er (P:=Tryz.prog) c.Flights (fun j a=>fun last=>Jy c j a last) ((alt (fun last=>(Fi c.Owners).bind fun r=>.ok ((c.Commitments.length:Int)==(r.1.length:Int))) (fun r=>.ok r)):(Int ⊕ Bool)→R Bool) (fun j=>fun last=>fun fr h=>fr=Ap [(1,(.q ids 0 g)),(3,(.I last)),(50,(.K c.Flights)),(51,(.I (c.Flights.length:Int))),(52,(.I j))]∧h=hp h0 ids [(At g 8 [(Ao c)]),none]) (-1) ?_ ?_ ?_
       ·exact⟨J,J⟩
       ·rintro j a ha W hW last fr h ⟨rfl,rfl⟩
        refine Ah (m':=Jy c j a last) J (Ah (Jy.eq_1 _ _ _ _) ?_)
        refine Y<|Ac (.B (decide ((j:Int)<(c.Flights.length:Int)))) J (Ak J J J)<|O<|Ad<|Dg (t:=50) (L:=c.Flights) J fun hlim=>Ce J (Int.ofNat_lt.2 (A8 ha))<|Aq<|Ad<|Aw<|Y<|Av (.I j)<|Ac (.cp [(.I a)] 0) J (Ay (C7 A2 Bb J ha))<|Aa 3 [] [(5,(.I a)),(4,(.I j))]<|O<|Ad<|Y<|Aa 4 [] [(60,(.B (decide (a≤last))))]<|By 3 [(1,(.q ids 0 g)),(4,(.I j)),(5,(.I a)),(50,(.K c.Flights)),(51,(.I (c.Flights.length:Int))),(52,(.I j)),(63,(.B ((decide (a≤last))||(decide (a > 4095)))))] ?_ fun hJ6=>Br (decide (a≤last)) (fun hb13=>?_) (fun hb13=>?_)
        ·refine Av (.B ((decide (a≤last))||(decide (a > 4095))))<|Hy 7 ((fun(b:Bool)=>(if b then R.ok true else(idx c.Owners (j:Int)).bind fun a2=>R.ok (decide (a2≥8))).bind (fun(b1:Bool)=>if b1 then(.ok (.inr (false))) else(.ok (.inl a)))):Bool→R (Int ⊕ Bool)) (fun(b:Bool) (fr:Nat→AV) (h:Ab)=>fr=Ap [(1,(.q ids 0 g)),(4,(.I j)),(5,(.I a)),(50,(.K c.Flights)),(51,(.I (c.Flights.length:Int))),(52,(.I j)),(71,(.B b))]∧h=hp h0 ids [(At g 8 [(Ao c)]),none]) ?_ fun hJ7=>Jq (fun hb15=>?_) (fun hb15=>?_)
         ·rintro b fr h ⟨rfl,rfl⟩
          refine Av (.B b)<|Hy 7 ((fun(b1:Bool)=>if b1 then(.ok (.inr (false))) else(.ok (.inl a))):Bool→R (Int ⊕ Bool)) (fun(b1:Bool) (fr:Nat→AV) (h:Ab)=>fr=Ap [(1,(.q ids 0 g)),(5,(.I a)),(50,(.K c.Flights)),(51,(.I (c.Flights.length:Int))),(52,(.I j)),(79,(.B b1))]∧h=hp h0 ids [(At g 8 [(Ao c)]),none]) ?_ fun hJ8=>Jq (fun hb17=>?_) (fun hb17=>?_)
          ·rintro b1 fr h ⟨rfl,rfl⟩
           refine O<|Bl J (fun hc1=>?_) (fun hc1=>?_)
           ·refine Y<|Al (.B false)<|O<|Ft<|Fp<|A0 func38 hI J (.same _)
           refine Aq<|As<|Aa 2 [] [(3,(.I a))]<|O<|A6<|As<|Aa 2 [] [(52,(.I (wi ((j:Int)+1))))]<|O<|Bg (Fu (hW a _ _ ⟨J,J⟩)) (.r4 (.o (ic ha hlim)))
          ·refine Bi (t:=72) hb17 J<|Aa 7 [] [(79,(.B true)),(78,.und),(77,.und),(76,.und),(75,.und),(74,.und),(73,.und)]<|Cz<|Ed [(1,(.q ids 0 g)),(5,(.I a)),(50,(.K c.Flights)),(51,(.I (c.Flights.length:Int))),(52,(.I j)),(79,(.B true))] (FI J)<|hJ8 true _ _ ⟨J,J⟩
          refine Bi (t:=72) hb17 J<|Aa 3 [0] [(75,(.I j)),(74,(.K c.Owners)),(73,(.ptr (ix ids 0) g 0 3))]<|Ln fun a2 hz1 hx2=>C5 (tj:=72) (.cp [(.I a2)] 0) J J J (Ay (Cv A2 Bb J hz1 hx2))<|Aa 3 [] [(79,(.B (decide (a2≥8)))),(78,(.B (decide (a2≥8)))),(77,(.I a2))]<|Cz<|Ed [(1,(.q ids 0 g)),(5,(.I a)),(50,(.K c.Flights)),(51,(.I (c.Flights.length:Int))),(52,(.I j)),(79,(.B (decide (a2≥8))))] (FI J)<|hJ8 (decide (a2≥8)) _ _ ⟨J,J⟩
         ·refine Bi (t:=64) hb15 J<|Aa 7 [] [(71,(.B true)),(70,.und),(69,.und),(68,.und),(67,.und),(66,.und),(65,.und)]<|Cz<|Ed [(1,(.q ids 0 g)),(4,(.I j)),(5,(.I a)),(50,(.K c.Flights)),(51,(.I (c.Flights.length:Int))),(52,(.I j)),(71,(.B true))] (FI J)<|hJ7 true _ _ ⟨J,J⟩
         refine Bi (t:=64) hb15 J<|Aa 3 [0] [(67,(.I j)),(66,(.K c.Owners)),(65,(.ptr (ix ids 0) g 0 3))]<|Ln fun a1 hz hx1=>C5 (tj:=64) (.cp [(.I a1)] 0) J J J (Ay (Cv A2 Bb J hz hx1))<|Aa 3 [] [(71,(.B (decide (a1<0)))),(70,(.B (decide (a1<0)))),(69,(.I a1))]<|Cz<|Ed [(1,(.q ids 0 g)),(4,(.I j)),(5,(.I a)),(50,(.K c.Flights)),(51,(.I (c.Flights.length:Int))),(52,(.I j)),(71,(.B (decide (a1<0))))] (FI J)<|hJ7 (decide (a1<0)) _ _ ⟨J,J⟩
        ·refine Bi (t:=60) hb13 J<|Aa 3 [] [(63,(.B true)),(62,.und),(61,.und)]<|Bj hJ6 (.r4 (.r2 (.cons (Fl hb13) .nil)))
        refine Bi (t:=60) hb13 J<|Aa 3 [] [(63,(.B (decide (a > 4095)))),(62,(.B (decide (a > 4095)))),(61,(.I a))]<|Bj hJ6 (.r4 (.r2 (.cons (Fr hb13) .nil)))
       rintro last fr h ⟨rfl,rfl⟩
       refine Ah (F6 _ _ _)<|Y<|Ac (.B (decide ((c.Flights.length:Int)<(c.Flights.length:Int)))) J (Ak J J J)<|O<|Ad<|Cd J (Int.lt_irrefl _)<|Bs J<|Y<|Aa 2 [0] [(84,(.K c.Owners))]<|E9 [1] hI J J (Pm c.Owners _ (ix ids 1) (by exact hI.sub' J J)) J J J J J J (fun v _=>Az func38 hI) ?_
       rintro r _ _ _ ⟨g1,rfl,rfl⟩
       refine Jv [1] hI J J J ?_
       refine Gb<|Aa 5 [] [(7,(.K r.1))]<|O<|A3 ?_
       refine Y<|Aa 2 [0] [(89,(.M c.Commitments))]<|Ac (.I (c.Commitments.length:Int)) J (A7 (Bh Ck))<|Av (.K r.1)<|Ac (.I (r.1.length:Int)) J (A7 (Bh A2))<|Aa 2 [] [(2,(.B ((c.Commitments.length:Int)==(r.1.length:Int))))]<|O<|A0 func38 hI J (.same _)
      ·refine Bi (t:=40) hb11 J<|Aa 8 [] [(48,(.B true))]<|Bj hJ5 (.r (.cons (Fl hb11) .nil))
      refine Bi (t:=40) hb11 J<|Aa 2 [0] [(42,(.K c.Owners))]<|C5 (tj:=40) (.I (c.Owners.length:Int)) J J J (A7 (Bh A2))<|Aa 2 [0] [(45,(.K c.Flights))]<|C5 (tj:=40) (.I (c.Flights.length:Int)) J J J (A7 (Bh A2))<|Aa 2 [] [(48,(.B ((c.Owners.length:Int) != (c.Flights.length:Int))))]<|Bj hJ5 (.r (.cons (Fr hb11) .nil))
     ·refine Bi (t:=32) hb9 J<|Aa 7 [] [(39,(.B true))]<|Bj hJ4 (.r (.cons (Fl hb9) .nil))
     refine Bi (t:=32) hb9 J<|Aa 2 [0] [(34,(.K c.Flights))]<|C5 (tj:=32) (.I (c.Flights.length:Int)) J J J (A7 (Bh A2))<|Aa 4 [0] [(39,(.B (decide ((c.Flights.length:Int) > c.Slots))))]<|Bj hJ4 (.r (.cons (Fr hb9) .nil))
    ·refine Bi (t:=26) hb7 J<|Aa 5 [] [(31,(.B true))]<|Bj hJ3 (.r (.cons (Fl hb7) .nil))
    refine Bi (t:=26) hb7 J<|Aa 2 [0] [(28,(.K c.Flights))]<|C5 (tj:=26) (.I (c.Flights.length:Int)) J J J (A7 (Bh A2))<|Aa 2 [] [(31,(.B (decide ((c.Flights.length:Int)<1))))]<|Bj hJ3 (.r (.cons (Fr hb7) .nil))
   ·refine Bi (t:=21) hb5 J<|Aa 4 [] [(25,(.B true))]<|Bj hJ2 (.r (.cons (Fl hb5) .nil))
   refine Bi (t:=21) hb5 J<|Aa 4 [0] [(25,(.B (decide (c.Slots > 8))))]<|Bj hJ2 (.r (.cons (Fr hb5) .nil))
  ·refine Bi (t:=16) hb3 J<|Aa 4 [] [(20,(.B true))]<|Bj hJ1 (.r (.cons (Fl hb3) .nil))
  refine Bi (t:=16) hb3 J<|Aa 4 [0] [(20,(.B (decide (c.Slots<1))))]<|Bj hJ1 (.r (.cons (Fr hb3) .nil))
 ·refine Bi (t:=11) hb1 J<|Aa 4 [] [(15,(.B true))]<|Bj hJ (.r (.cons (Fl hb1) .nil))
 refine Bi (t:=11) hb1 J<|Aa 4 [0] [(15,(.B (decide (c.No > 1048576))))]<|Bj hJ (.r (.cons (Fr hb1) .nil))
theorem Aa4 (s:(List (Vector Int 32)))(v:(Vector Int 32)):CP Tryz.prog 117 [(.sl 32 (List.map (rV (rI .u8)) s)),(.agg ((rV (rI .u8)) v))] (Ou s v) (fun(x:Int)=>(AV.int .i64 x)):=by
 refine Bk (n:=19) 1 func117 J (by decide) J J fun h0 ids hI=>Bo (Ah (Ou.eq_1 _ _) ?_)
 refine Y<|B9 (v:=(.A (rU v))) (j:=0) hI J J J J J J J fun g=>Al (.I 0)<|O<|A3 ?_
 refine Ad<|Y<|Av (.M s)<|Ac (.I (s.length:Int)) J (A7 (Bh Ck))<|Av (.I 0)<|O<|Aw<|Co [(0,(.M s)),(3,(.q ids 0 g)),(7,(.I (s.length:Int))),(8,(.I 0))] (FI J)<|Er (P:=Tryz.prog) s (fun j a=>fun _=>Mg v j a) ((alt (fun _=>.ok (-1)) (fun r=>.ok r)):(Unit ⊕ Int)→R Int) (fun j=>fun _=>fun fr h=>fr=Ap [(0,(.M s)),(3,(.q ids 0 g)),(7,(.I (s.length:Int))),(8,(.I j))]∧h=hp h0 ids [(At g 32 [(rU v)])]) () ?_ ?_ ?_
 ·exact⟨J,J⟩
 ·rintro j a ha W hW _ fr h ⟨rfl,rfl⟩
  refine Ah (m':=Mg v j a) J (Ah (Mg.eq_1 _ _ _) ?_)
  refine Y<|Ac (.B (decide ((j:Int)<(s.length:Int)))) J (Ak J J J)<|O<|Ad<|Dg (t:=0) (L:=s) J fun hlim=>Ce J (Int.ofNat_lt.2 (A8 ha))<|Aq<|Ad<|Aw<|Y<|Aa 2 [] [(5,(.I j))]<|O<|Ad<|Cp Ec [[],[],[],[1,2],[1,2,3],[0,1,2,3,4]] [(false,0),(false,1),(false,2),(false,3),(false,4),(false,5)] (by kernel_rfl)<|Z (.A (rU v)) J J (Af (An hI J J J Bv J))<|Z (.M s) J J Ae<|Z (.I j) J J Ae<|Z (.cp (rU a) 0) J J (Ay (C7 Ck Bv J ha))<|Z (.A (rU a)) J J (Af (Cf Bv J)) ?_
  refine Z (.B (v==a)) J J (Ak (Vu J J) J (W2 Bv Fe))<|Bn<|Bl J (fun hc=>?_) (fun hc=>?_)
  ·refine Y<|Aa 2 [] [(4,(.I j))]<|O<|Ft<|Fp<|A0 func117 hI J (.same _)
  refine Aq<|A6<|As<|Aa 2 [] [(8,(.I (wi ((j:Int)+1))))]<|O<|Bg (Fu (hW () _ _ ⟨J,J⟩)) (.r2 (.r (.o (ic ha hlim))))
 rintro _ fr h ⟨rfl,rfl⟩
 refine Ah (F6 _ _ _)<|Y<|Ac (.B (decide ((s.length:Int)<(s.length:Int)))) J (Ak J J J)<|O<|Ad<|Cd J (Int.lt_irrefl _)<|Bs J<|Y<|Al (.I (-1))<|O<|A0 func117 hI J (.same _)
theorem Y9 (s:(List (Vector Int 32)))(v:(Vector Int 32)):CP Tryz.prog 89 [(.sl 32 (List.map (rV (rI .u8)) s)),(.agg ((rV (rI .u8)) v))] (Jt s v) (fun(x:Bool)=>(AV.bool x)):=by
 refine Bk (n:=9) 1 func89 J (by decide) J J fun h0 ids hI=>Bo (Ah (Jt.eq_1 _ _) ?_)
 refine Y<|B9 (v:=(.A (rU v))) (j:=0) hI J J J J J J J fun g=>Al (.B false)<|O<|A3 ?_
 refine Y<|Aa 2 [0] [(6,(.A (rU v))),(5,(.M s))]<|Bf _ J J J J ((Aa4 s v) _) (fun v _=>Az func89 hI) fun r _=>Aa 2 [] [(4,(.B (decide (r≥0))))]<|O<|A0 func89 hI J (.same _)
theorem Ot (c:Clearing):CP Tryz.prog 53 [(.agg (Ao c))] (Fq c) (fun(x:Bool)=>(AV.bool x)):=by
 refine Bk (n:=8) 1 func53 J (by decide) J J fun h0 ids hI=>Bo (Ah (Fq.eq_1 _) ?_)
 refine Y<|B9 (v:=(.A (Ao c))) (j:=0) hI J J J J J J J fun g=>Al (.B false)<|O<|A3 ?_
 refine Y<|Aa 3 [0] [(5,(.A (rU (#v[0,0,0,0,0,0,0,0,0,0,0,0,0,0,0,0,0,0,0,0,0,0,0,0,0,0,0,0,0,0,0,0]:(Vector Int 32))))),(4,(.M c.Commitments))]<|Bf _ J J J J ((Y9 c.Commitments (#v[0,0,0,0,0,0,0,0,0,0,0,0,0,0,0,0,0,0,0,0,0,0,0,0,0,0,0,0,0,0,0,0]:(Vector Int 32))) _) (fun v _=>Az func53 hI) fun r _=>Aa 2 [] [(2,(.B (!r)))]<|O<|A0 func53 hI J (.same _)
theorem Ad0 (c:Clearing):CP Tryz.prog 182 [(.agg (Ao c))] (Oi c) (fun(x:Bool)=>(AV.bool x)):=by
 refine Bk (n:=16) 1 func182 J (by decide) J J fun h0 ids hI=>Bo (Ah (Oi.eq_1 _) ?_)
 refine Y<|B9 (v:=(.A (Ao c))) (j:=0) hI J J J J J J J fun g=>Al (.B false)<|O<|A3 ?_
 refine Y<|Aa 1 [0] [(3,(.A (Ao c)))]<|Bf _ J J J J ((Ot c) _) (fun v _=>Az func182 hI) fun r _=>Aa 2 [] [(6,(.B (!r)))]<|By 9 [(15,(.B ((!r)&&((wi ((c.Openings.length:Int)+(c.Outcome.length:Int)))==0))))] ?_ fun hJ=>Br (!r) (fun hb1=>?_) (fun hb1=>?_)
 ·refine Al (.B ((!r)&&((wi ((c.Openings.length:Int)+(c.Outcome.length:Int)))==0)))<|O<|A0 func182 hI J (.same _)
 ·refine Bi (t:=6) hb1 J<|Aa 2 [0] [(8,(.sl 37 (List.map Ar c.Openings)))]<|C5 (tj:=6) (.I (c.Openings.length:Int)) J J J (A7 (Bh Ip))<|Aa 2 [0] [(11,(.K c.Outcome))]<|C5 (tj:=6) (.I (c.Outcome.length:Int)) J J J (A7 (Bh A2))<|Aa 3 [] [(15,(.B ((wi ((c.Openings.length:Int)+(c.Outcome.length:Int)))==0)))]<|Bj hJ (.cons (I3 hb1) .nil)
 refine Bi (t:=6) hb1 J<|Aa 9 [] [(15,(.B false))]<|Bj hJ (.cons (Iz hb1) .nil)
theorem Zv (a:Int):CP Tryz.prog 120 [(.int .i64 a)] (Rs a) (fun(x:Bool)=>(AV.bool x)):=by
 refine Bk (n:=6) 0 func120 J (by decide) J J fun h0 ids hI=>Bo (Ah (Rs.eq_1 _) ?_)
 refine Y<|Al (.B false)<|O<|Y<|Aa 4 [] [(2,(.B (a != a)))]<|O<|A0 func120 hI J (.same _)
theorem Tb (a:Int)(y:Int):CP Tryz.prog 94 [(.int .i64 a),(.int .i64 y)] (Kz a y) (fun(x:Int)=>(AV.int .i64 x)):=by
 refine Bk (n:=20) 0 func94 J (by decide) J J fun h0 ids hI=>Bo (Ah (Kz.eq_1 _ _) ?_)
 refine Y<|Al (.I 0)<|O<|Y<|Av (.I a)<|Bf _ J J J J ((Zv a) _) (fun v _=>Az func94 hI) fun xNaN _=>Al (.B xNaN)<|O<|Y<|Av (.I y)<|Bf _ J J J J ((Zv y) _) (fun v _=>Az func94 hI) fun yNaN _=>Al (.B yNaN)<|O<|Ad<|Y<|Av (.B xNaN)<|O ?_
 refine Bl J (fun hc=>?_) (fun hc=>?_)
 ·refine Ad<|Y<|Av (.B yNaN)<|O<|Bl J (fun hc1=>?_) (fun hc1=>?_)
  ·refine Y<|Al (.I 0)<|O<|A0 func94 hI J (.same _)
  refine Aq<|Y<|Al (.I (-1))<|O<|A0 func94 hI J (.same _)
 refine Aq<|Ad<|Y<|Av (.B yNaN)<|O<|Bl J (fun hc2=>?_) (fun hc2=>?_)
 ·refine Y<|Al (.I 1)<|O<|A0 func94 hI J (.same _)
 refine Aq<|Ad<|Y<|Aa 3 [] [(16,(.B (decide (a<y))))]<|O<|D4 J (fun hc3=>?_) (fun hc3=>?_)
 ·refine Y<|Al (.I (-1))<|O<|A0 func94 hI J (.same _)
 refine Aq<|Ad<|Y<|Aa 3 [] [(19,(.B (decide (a > y))))]<|O<|D4 J (fun hc4=>?_) (fun hc4=>?_)
 ·refine Y<|Al (.I 1)<|O<|A0 func94 hI J (.same _)
 refine Aq<|Y<|Al (.I 0)<|O<|A0 func94 hI J (.same _)
theorem Ak1 (vals:List Int):CP Tryz.prog 93 [(.sl 1 (List.map (rI .i64) vals))] (Vz vals) (fun(x:Int)=>(AV.int .i64 x)):=by
 refine Bk (n:=18) 0 func93 J (by decide) J J fun h0 ids hI=>Bo (Ah (Vz.eq_1 _) ?_)
 refine Y<|Al (.I 0)<|O<|Y<|Al (.I 0)<|O<|Ad<|Y<|Av (.K vals)<|Ac (.I (vals.length:Int)) J (A7 (Bh A2))<|Av (.I 0)<|O<|Aw<|Co [(3,(.I 0)),(6,(.K vals)),(7,(.I (vals.length:Int))),(8,(.I 0))] (FI J)<|Er (P:=Tryz.prog) vals (fun _ a=>fun _=>Na a) ((alt (fun _=>.ok 0) (fun r=>.ok r)):(Unit ⊕ Int)→R Int) (fun j=>fun _=>fun fr h=>fr=Ap [(3,(.I 0)),(6,(.K vals)),(7,(.I (vals.length:Int))),(8,(.I j))]∧h=hp h0 ids []) () ?_ ?_ ?_
 ·exact⟨J,J⟩
 ·rintro j a ha W hW _ fr h ⟨rfl,rfl⟩
  refine Ah (m':=Na a) J (Ah (Na.eq_1 _) ?_)
  refine Y<|Ac (.B (decide ((j:Int)<(vals.length:Int)))) J (Ak J J J)<|O<|Ad<|Dg (t:=6) (L:=vals) J fun hlim=>Ce J (Int.ofNat_lt.2 (A8 ha))<|Aq<|Ad<|Aw<|Y<|Ac (.cp [(.I a)] 0) J (Ay (C7 A2 Bb J ha))<|Aa 2 [] [(5,(.I a))]<|O<|Y<|Aa 3 [] [(14,(.B (a != 0)))]<|O<|Bl J (fun hc=>?_) (fun hc=>?_)
  ·refine Y<|Aa 2 [] [(2,(.I a))]<|O<|Ft<|Fp<|A0 func93 hI J (.same _)
  refine Aq<|A6<|As<|Aa 2 [] [(8,(.I (wi ((j:Int)+1))))]<|O<|Bg (Fu (hW () _ _ ⟨J,J⟩)) (.r2 (.r (.o (ic ha hlim))))
 rintro _ fr h ⟨rfl,rfl⟩
 refine Ah (F6 _ _ _)<|Y<|Ac (.B (decide ((vals.length:Int)<(vals.length:Int)))) J (Ak J J J)<|O<|Ad<|Cd J (Int.lt_irrefl _)<|Bs J<|Y<|Aa 2 [] [(2,(.I 0))]<|O<|A0 func93 hI J (.same _)
theorem V6 (a:Opening)(b:Opening):CP Tryz.prog 56 [(.agg (Ar a)),(.agg (Ar b))] (Ms a b) (fun(x:Int)=>(AV.int .i64 x)):=by
 refine Bk (n:=17) 2 func56 J (by decide) J J fun h0 ids hI=>Bo (Ah (Ms.eq_1 _ _) ?_)
 refine Y<|B9 (v:=(.A (Ar a))) (j:=0) hI J J J J J J J fun g=>B9 (v:=(.A (Ar b))) (j:=1) hI J J J J J J J fun g1=>Al (.I 0)<|O<|A3 ?_
 refine Ad<|Cp Ec [[],[0],[],[2],[0,1,2,3],[],[5],[],[7],[0,1,2,3,4,5,6,7,8],[0,1,2,3,4,5,6,7,8,9],[0,1,2,3,4,5,6,7,8,9,10],[0,1,2,3,4,5,6,7,8,9,10,11,11,11]] [(false,0),(false,1),(false,2),(false,3),(false,5),(false,6),(false,7),(false,8),(true,4),(true,9),(true,10),(true,11),(false,12)] (by kernel_rfl)<|Z (.ptr (ix ids 0) g 0 1) J J (Bm (B3 0 1 1 Dk J Bb J))<|Z (.I a.Flight) J J (Af (An hI J J J Bb J))<|Z (.ptr (ix ids 1) g1 0 1) J J (Bm (B3 0 1 1 Dk J Bb J))<|Z (.I b.Flight) J J (Af (An hI J J J Bb J))<|Z (.ptr (ix ids 0) g 0 2) J J (Bm (B3 0 2 2 Dk J Bb J))<|Z (.I a.Slot) J J (Af (An hI J J J Bb J))<|Z (.ptr (ix ids 1) g1 0 2) J J (Bm (B3 0 2 2 Dk J Bb J))<|Z (.I b.Slot) J J (Af (An hI J J J Bb J))<|Cx _ J J J J J ((Tb a.Flight b.Flight) _) (fun v _ _ _=>Az func56 hI) (Ai J (Af (An hI J J J Bb J)) (Ai J (Bm (B3 0 2 2 Dk J Bb J)) (Ai J (Af (An hI J J J Bb J)) (Ai J (Bm (B3 0 2 2 Dk J Bb J)) (Ej J Bc))))) fun r _=>Cx _ J J J J J ((Tb a.Slot b.Slot) _) (fun v _ _ _=>Az func56 hI) (Cn J Bc) fun r1 _=>Kl J J (fun _ _=>J) (fun K hK=>Lz (e:=rJ) (L:=[r,r1]) (st:=1) (rows:=[[(.I r)],[(.I r1)]]) A2 Bb J J J J J (.cons (RowSim.refl _) (.cons (RowSim.refl _) .nil)) (fun x=>Cb x) J J (hK _ _ (Cn J Bc) ?_))
 clear hK K
 refine Cx _ J J J J J ((Ak1 [r,r1]) _) (fun v _ _ _=>Az func56 hI) (Cn J Bc) fun r2 _=>Z (.I r2) J J B2<|Bn<|A0 func56 hI J (.same _)
theorem Oo (s:List Int)(v:Int):CP Tryz.prog 51 [(.sl 1 (List.map (rI .i64) s)),(.int .i64 v)] (Gt s v) (fun(x:Int)=>(AV.int .i64 x)):=by
 refine Bk (n:=19) 0 func51 J (by decide) J J fun h0 ids hI=>Bo (Ah (Gt.eq_1 _ _) ?_)
 refine Y<|Al (.I 0)<|O<|Ad<|Y<|Av (.K s)<|Ac (.I (s.length:Int)) J (A7 (Bh A2))<|Av (.I 0)<|O<|Aw<|Co [(0,(.K s)),(1,(.I v)),(7,(.I (s.length:Int))),(8,(.I 0))] (FI J)<|Er (P:=Tryz.prog) s (fun j a=>fun _=>On v j a) ((alt (fun _=>.ok (-1)) (fun r=>.ok r)):(Unit ⊕ Int)→R Int) (fun j=>fun _=>fun fr h=>fr=Ap [(0,(.K s)),(1,(.I v)),(7,(.I (s.length:Int))),(8,(.I j))]∧h=hp h0 ids []) () ?_ ?_ ?_
 ·exact⟨J,J⟩
 ·rintro j a ha W hW _ fr h ⟨rfl,rfl⟩
  refine Ah (m':=On v j a) J (Ah (On.eq_1 _ _ _) ?_)
  refine Y<|Ac (.B (decide ((j:Int)<(s.length:Int)))) J (Ak J J J)<|O<|Ad<|Dg (t:=0) (L:=s) J fun hlim=>Ce J (Int.ofNat_lt.2 (A8 ha))<|Aq<|Ad<|Aw<|Y<|Aa 2 [] [(5,(.I j))]<|O<|Y<|Aa 3 [] [(13,(.I j)),(12,(.K s)),(11,(.I v))]<|Ac (.cp [(.I a)] 0) J (Ay (C7 A2 Bb J ha))<|Aa 2 [] [(16,(.B (v==a)))]<|O<|Bl J (fun hc=>?_) (fun hc=>?_)
  ·refine Y<|Aa 2 [] [(4,(.I j))]<|O<|Ft<|Fp<|A0 func51 hI J (.same _)
  refine Aq<|A6<|As<|Aa 2 [] [(8,(.I (wi ((j:Int)+1))))]<|O<|Bg (Fu (hW () _ _ ⟨J,J⟩)) (.r2 (.r (.o (ic ha hlim))))
 rintro _ fr h ⟨rfl,rfl⟩
 refine Ah (F6 _ _ _)<|Y<|Ac (.B (decide ((s.length:Int)<(s.length:Int)))) J (Ak J J J)<|O<|Ad<|Cd J (Int.lt_irrefl _)<|Bs J<|Y<|Al (.I (-1))<|O<|A0 func51 hI J (.same _)
theorem Ws (airline:Int)(flight:Int):CP Tryz.prog 59 [(.int .i64 airline),(.int .i64 flight)] (J0 airline flight) (fun(x:Bool)=>(AV.bool x)):=by
 refine Bk (n:=19) 0 func59 J (by decide) J J fun h0 ids hI=>Bo (Ah (J0.eq_1 _ _) ?_)
 refine Y<|Al (.B false)<|O<|Y<|Aa 3 [] [(7,(.B (decide (airline≥0))))]<|By 3 [(1,(.I flight)),(10,(.B ((decide (airline≥0))&&(decide (airline<8)))))] ?_ fun hJ=>Br (decide (airline≥0)) (fun hb1=>?_) (fun hb1=>?_)
 ·refine Av (.B ((decide (airline≥0))&&(decide (airline<8))))<|By 3 [(1,(.I flight)),(14,(.B (((decide (airline≥0))&&(decide (airline<8)))&&(decide (flight≥0)))))] ?_ fun hJ1=>Br ((decide (airline≥0))&&(decide (airline<8))) (fun hb3=>?_) (fun hb3=>?_)
  ·refine Av (.B (((decide (airline≥0))&&(decide (airline<8)))&&(decide (flight≥0))))<|By 3 [(18,(.B ((((decide (airline≥0))&&(decide (airline<8)))&&(decide (flight≥0)))&&(decide (flight≤4095)))))] ?_ fun hJ2=>Br (((decide (airline≥0))&&(decide (airline<8)))&&(decide (flight≥0))) (fun hb5=>?_) (fun hb5=>?_)
   ·refine Al (.B ((((decide (airline≥0))&&(decide (airline<8)))&&(decide (flight≥0)))&&(decide (flight≤4095))))<|O<|A0 func59 hI J (.same _)
   ·refine Bi (t:=15) hb5 J<|Aa 3 [] [(18,(.B (decide (flight≤4095))))]<|Bj hJ2 (.cons (I3 hb5) .nil)
   refine Bi (t:=15) hb5 J<|Aa 3 [] [(18,(.B false))]<|Bj hJ2 (.cons (Iz hb5) .nil)
  ·refine Bi (t:=11) hb3 J<|Aa 3 [] [(14,(.B (decide (flight≥0))))]<|Bj hJ1 (.r (.cons (I3 hb3) .nil))
  refine Bi (t:=11) hb3 J<|Aa 3 [] [(14,(.B false))]<|Bj hJ1 (.r (.cons (Iz hb3) .nil))
 ·refine Bi (t:=7) hb1 J<|Aa 3 [] [(10,(.B (decide (airline<8))))]<|Bj hJ (.r (.cons (I3 hb1) .nil))
 refine Bi (t:=7) hb1 J<|Aa 3 [] [(10,(.B false))]<|Bj hJ (.r (.cons (Iz hb1) .nil))
theorem Xz (c:Int):CP Tryz.prog 60 [(.int .i64 c)] (Jk c) (fun(x:Bool)=>(AV.bool x)):=by
 refine Bk (n:=9) 0 func60 J (by decide) J J fun h0 ids hI=>Bo (Ah (Jk.eq_1 _) ?_)
 refine Y<|Al (.B false)<|O<|Y<|Aa 3 [] [(5,(.B (decide (c≥(-1)))))]<|By 3 [(8,(.B ((decide (c≥(-1)))&&(decide (c≤1048576)))))] ?_ fun hJ=>Br (decide (c≥(-1))) (fun hb1=>?_) (fun hb1=>?_)
 ·refine Al (.B ((decide (c≥(-1)))&&(decide (c≤1048576))))<|O<|A0 func60 hI J (.same _)
 ·refine Bi (t:=5) hb1 J<|Aa 3 [] [(8,(.B (decide (c≤1048576))))]<|Bj hJ (.cons (I3 hb1) .nil)
 refine Bi (t:=5) hb1 J<|Aa 3 [] [(8,(.B false))]<|Bj hJ (.cons (Iz hb1) .nil)
theorem Af0 (W_:Value→R (Int×Bool))(cp_W_ : ∀ (v:Value),CP Tryz.prog 148 [(.agg (Cu v))] (W_ v) (fun(p:(Int×Bool))=>AV.tup [(.int .i64 p.1),(.bool p.2)]))(v:Value):CP Tryz.prog 148 [(.agg (Cu v))] (N5 W_ v) (fun(p:(Int×Bool))=>AV.tup [(.int .i64 p.1),(.bool p.2)]):=by
 refine Bk (n:=74) 3 func148 J (by decide) J J fun h0 ids hI=>Bo (Ah (N5.eq_1 _ _) ?_)
 refine Y<|B9 (v:=(.A (Cu v))) (j:=0) hI J J J J J J J fun g=>Aa 2 [] [(2,(.I 0))]<|O<|A3 ?_
 refine Y<|Aa 4 [0] [(12,(.B (v.S==[])))]<|By 5 [(1,(.q ids 0 g)),(2,(.I 0)),(17,(.B ((v.S==[])&&((v.L.length:Int)==0))))] ?_ fun hJ=>Br (v.S==[]) (fun hb1=>?_) (fun hb1=>?_)
 ·refine Aa 4 [0] [(21,(.B (v.N==0)))]<|By 5 [(1,(.q ids 0 g)),(2,(.I 0)),(17,(.B ((v.S==[])&&((v.L.length:Int)==0)))),(26,(.B ((v.N==0)&&((v.L.length:Int)==0))))] ?_ fun hJ1=>Br (v.N==0) (fun hb3=>?_) (fun hb3=>?_)
  ·refine Aa 4 [0] [(30,(.B (v.N==0)))]<|By 4 [(1,(.q ids 0 g)),(2,(.I 0)),(17,(.B ((v.S==[])&&((v.L.length:Int)==0)))),(26,(.B ((v.N==0)&&((v.L.length:Int)==0)))),(34,(.B ((v.N==0)&&(v.S==[]))))] ?_ fun hJ2=>Br (v.N==0) (fun hb5=>?_) (fun hb5=>?_)
   ·refine Ac (.A ((rV rB) (#v[false,((v.S==[])&&((v.L.length:Int)==0)),((v.N==0)&&((v.L.length:Int)==0)),((v.N==0)&&(v.S==[]))]:(Vector Bool 4)))) J (L6 (Amu Alh Wp J))<|Gc (j:=1) (row:=((rV rB) (B5 4 false))) hI J J J J Alh (J4 (n:=4) (e:=rB) (E:=(fun x:Bool=>(AV.bool x))) (fun _=>J) _).symm ((Ds (fun x=>As2 x) J) _) fun g1=>A5 (Fg (v:=(.A ((rV rB) (#v[false,((v.S==[])&&((v.L.length:Int)==0)),((v.N==0)&&((v.L.length:Int)==0)),((v.N==0)&&(v.S==[]))]:(Vector Bool 4))))) hI J J J Alh J J J (((Ds (fun x=>As2 x) J) _).1) J)<|O<|A3 ?_
    refine Ad<|Y<|Aa 4 [0] [(39,(.B (decide (v.Kind<1))))]<|By 4 [(1,(.q ids 0 g)),(2,(.I 0)),(4,(.q ids 1 g1)),(43,(.B ((decide (v.Kind<1))||(decide (v.Kind > 3)))))] ?_ fun hJ3=>Br (decide (v.Kind<1)) (fun hb7=>?_) (fun hb7=>?_)
    ·refine Av (.B ((decide (v.Kind<1))||(decide (v.Kind > 3))))<|Hy 6 ((fun(b:Bool)=>if b then(.ok (0,false)) else(if v.Kind<3 then(.ok (0,true)) else((each (fun _ a=>fun depth=>G4 W_ a depth) 0 v.L 0).bind (alt (fun depth=>.ok ((wi (depth+1)),true)) (fun r=>.ok r))))):Bool→R (Int×Bool)) (fun(b:Bool) (fr:Nat→AV) (h:Ab)=>fr=Ap [(1,(.q ids 0 g)),(2,(.I 0)),(50,(.B b))]∧h=hp h0 ids [(At g 4 [(Cu v)]),(At g1 4 [((rV rB) (#v[false,((v.S==[])&&((v.L.length:Int)==0)),((v.N==0)&&((v.L.length:Int)==0)),((v.N==0)&&(v.S==[]))]:(Vector Bool 4)))]),none]) ?_ fun hJ4=>Jq (fun hb9=>?_) (fun hb9=>?_)
     ·rintro b fr h ⟨rfl,rfl⟩
      refine O<|Bl J (fun hc=>?_) (fun hc=>?_)
      ·refine Y<|Aa 2 [] [(3,(.B false)),(2,(.I 0))]<|O<|A0 func148 hI J (.tupL .s2)
      refine Aq<|Ad<|Y<|Aa 3 [0] [(53,(.B (decide (v.Kind<3))))]<|O<|D4 J (fun hc1=>?_) (fun hc1=>?_)
      ·refine Y<|Aa 2 [] [(3,(.B true)),(2,(.I 0))]<|O<|A0 func148 hI J (.tupL .s2)
      refine Aq<|Ad<|Y<|Aa 2 [0] [(55,(.sl 4 (List.map rValueA v.L)))]<|Ac (.I (v.L.length:Int)) J (A7 (Bh Hh))<|Av (.I 0)<|O<|Aw<|Ch [none,none,none] hI J (.drop (.drop (.keep .nil)))<|Co [(2,(.I 0)),(55,(.sl 4 (List.map rValueA v.L))),(56,(.I (v.L.length:Int))),(57,(.I 0))] (FI J)<|Er (P:=Tryz.prog) v.L (fun _ a=>fun depth=>G4 W_ a depth) ((alt (fun depth=>.ok ((wi (depth+1)),true)) (fun r=>.ok r)):(Int ⊕ (Int×Bool))→R (Int×Bool)) (fun j=>fun depth=>fun fr h=>fr=Ap [(2,(.I depth)),(55,(.sl 4 (List.map rValueA v.L))),(56,(.I (v.L.length:Int))),(57,(.I j))]∧h=hp h0 ids [none,none,none]) 0 ?_ ?_ ?_
      ·exact⟨J,J⟩
      ·rintro j a ha W hW depth fr h ⟨rfl,rfl⟩
       refine Ah (m':=G4 W_ a depth) J (Ah (G4.eq_1 _ _ _) ?_)
       refine Y<|Ac (.B (decide ((j:Int)<(v.L.length:Int)))) J (Ak J J J)<|O<|Ad<|Dg (t:=55) (L:=v.L) J fun hlim=>Ce J (Int.ofNat_lt.2 (A8 ha))<|Aq<|Ad<|Aw<|Y<|Ac (.cp (Cu a) 0) J (Ay (Agx Vv Hh D6 J ha))<|Ac (.A (Cu a)) J (Af (Cf D6 J))<|Cj (j:=2) hI J J J J D6 J fun g2=>A5 (Bu (v:=(.A (Cu a))) hI J J J J D6 J J J J J)<|O<|A3 ?_
       refine Y<|Aa 1 [2] [(62,(.A (Cu a)))]<|Bf _ J J J J ((cp_W_ a) _) (fun v _=>Az func148 hI) fun r _=>Aa 5 [] [(8,(.B r.2)),(7,(.I r.1))]<|O<|Ad<|Y<|Aa 2 [] [(67,(.B (!r.2)))]<|O<|Lx J (fun hc2=>?_) (fun hc2=>?_)
       ·refine Aq<|As<|Aa 2 [] [(69,(.I r.1)),(68,(.I depth))]<|Ac (.I (if r.1 > depth then r.1 else depth)) J (Av1 J)<|Al (.I (if r.1 > depth then r.1 else depth))<|O<|A6<|As<|Aa 2 [] [(57,(.I (wi ((j:Int)+1))))]<|O<|Ch [none,none,none] hI J (.keep (.keep (.drop .nil)))<|Bg (Fu (hW (if r.1 > depth then r.1 else depth) _ _ ⟨J,J⟩)) (.r2 (.r (.o (ic ha hlim))))
       refine Y<|Aa 2 [] [(3,(.B false)),(2,(.I 0))]<|O<|Ft<|Fp<|A0 func148 hI J (.tupL .s2)
      rintro depth fr h ⟨rfl,rfl⟩
      refine Ah (F6 _ _ _)<|Y<|Ac (.B (decide ((v.L.length:Int)<(v.L.length:Int)))) J (Ak J J J)<|O<|Ad<|Cd J (Int.lt_irrefl _)<|Bs J<|Y<|Aa 4 [] [(3,(.B true)),(2,(.I (wi (depth+1))))]<|O<|A0 func148 hI J (.tupL .s2)
     ·refine Bi (t:=44) hb9 J<|Aa 6 [] [(50,(.B true))]<|Cz<|Ed [(1,(.q ids 0 g)),(2,(.I 0)),(50,(.B true))] (FI J)<|hJ4 true _ _ ⟨J,J⟩
     refine Bi (t:=44) hb9 J<|Aa 2 [0] [(46,(.I v.Kind))]<|Cs fun hi=>C5 (tj:=44) (.ptr (ix ids 1) g1 0 (Int.toNat v.Kind)) J J J (Ay (Jj Alh Wp J hi))<|C5 (tj:=44) (.B (Ba (#v[false,((v.S==[])&&((v.L.length:Int)==0)),((v.N==0)&&((v.L.length:Int)==0)),((v.N==0)&&(v.S==[]))]:(Vector Bool 4)) (Int.toNat v.Kind) false)) J J J (Af (An hI J J J Wp (Gs (e:=rB) (E:=(fun x:Bool=>(AV.bool x))) (fun _=>J) (J1 hi) false)))<|Aa 2 [] [(50,(.B (!(Ba (#v[false,((v.S==[])&&((v.L.length:Int)==0)),((v.N==0)&&((v.L.length:Int)==0)),((v.N==0)&&(v.S==[]))]:(Vector Bool 4)) (Int.toNat v.Kind) false))))]<|Cz<|Ed [(1,(.q ids 0 g)),(2,(.I 0)),(50,(.B (!(Ba (#v[false,((v.S==[])&&((v.L.length:Int)==0)),((v.N==0)&&((v.L.length:Int)==0)),((v.N==0)&&(v.S==[]))]:(Vector Bool 4)) (Int.toNat v.Kind) false))))] (FI J)<|hJ4 (!(Ba (#v[false,((v.S==[])&&((v.L.length:Int)==0)),((v.N==0)&&((v.L.length:Int)==0)),((v.N==0)&&(v.S==[]))]:(Vector Bool 4)) (Int.toNat v.Kind) false)) _ _ ⟨J,J⟩
    ·refine Bi (t:=39) hb7 J<|Aa 4 [] [(43,(.B true))]<|Bj hJ3 (.r2 (.r (.cons (Fl hb7) .nil)))
    refine Bi (t:=39) hb7 J<|Aa 4 [0] [(43,(.B (decide (v.Kind > 3))))]<|Bj hJ3 (.r2 (.r (.cons (Fr hb7) .nil)))
   ·refine Bi (t:=30) hb5 J<|Aa 4 [0] [(34,(.B (v.S==[])))]<|Bj hJ2 (.r4 (.cons (I3 hb5) .nil))
   refine Bi (t:=30) hb5 J<|Aa 4 [] [(34,(.B false))]<|Bj hJ2 (.r4 (.cons (Iz hb5) .nil))
  ·refine Bi (t:=21) hb3 J<|Aa 2 [0] [(23,(.sl 4 (List.map rValueA v.L)))]<|C5 (tj:=21) (.I (v.L.length:Int)) J J J (A7 (Bh Hh))<|Aa 2 [] [(26,(.B ((v.L.length:Int)==0)))]<|Bj hJ1 (.r2 (.r (.cons (I3 hb3) .nil)))
  refine Bi (t:=21) hb3 J<|Aa 5 [] [(26,(.B false))]<|Bj hJ1 (.r2 (.r (.cons (Iz hb3) .nil)))
 ·refine Bi (t:=12) hb1 J<|Aa 2 [0] [(14,(.sl 4 (List.map rValueA v.L)))]<|C5 (tj:=12) (.I (v.L.length:Int)) J J J (A7 (Bh Hh))<|Aa 2 [] [(17,(.B ((v.L.length:Int)==0)))]<|Bj hJ (.r2 (.cons (I3 hb1) .nil))
 refine Bi (t:=12) hb1 J<|Aa 5 [] [(17,(.B false))]<|Bj hJ (.r2 (.cons (Iz hb1) .nil))
theorem Afz : ∀ (n:Nat) (v:Value),CP Tryz.prog 148 [(.agg (Cu v))] (Hx n v) (fun(p:(Int×Bool))=>AV.tup [(.int .i64 p.1),(.bool p.2)]):=by
 intro n
 induction n with
 | zero=>intro v; exact fun h hb=>absurd rfl hb
 | succ n ih=>intro v; exact Af0 (Hx n) ih v
theorem Ahw (v:Value):CP Tryz.prog 148 [(.agg (Cu v))] (Qo v) (fun(p:(Int×Bool))=>AV.tup [(.int .i64 p.1),(.bool p.2)]):=Afz Vx v
theorem Ajw (v:Value):CP Tryz.prog 121 [(.agg (Cu v))] (P6 v) (fun(x:Int)=>(AV.int .i64 x)):=by
 refine Bk (n:=16) 1 func121 J (by decide) J J fun h0 ids hI=>Bo (Ah (P6.eq_1 _) ?_)
 refine Y<|B9 (v:=(.A (Cu v))) (j:=0) hI J J J J J J J fun g=>Al (.I 0)<|O<|A3 ?_
 refine Y<|Aa 1 [0] [(6,(.A (Cu v)))]<|Bf _ J J J J ((Ahw v) _) (fun v _=>Az func121 hI) fun r _=>Aa 5 [] [(4,(.B r.2)),(3,(.I r.1))]<|O<|Ad<|Aw<|Y<|Aa 3 [] [(10,(.B (!r.2)))]<|O<|Lx J (fun hc=>?_) (fun hc=>?_)
 ·refine Y<|Aa 3 [] [(13,(.B (decide (r.1 > 16))))]<|O<|D4 J (fun hc1=>?_) (fun hc1=>?_)
  ·refine Y<|Al (.I 2)<|O<|A0 func121 hI J (.same _)
  refine Aq<|A6<|Y<|Al (.I 0)<|O<|A0 func121 hI J (.same _)
 refine Y<|Al (.I 1)<|O<|A0 func121 hI J (.same _)
theorem Ac0 (h0:Ab)(o0:Nat)(o1:Nat)(hI0:Ids h0 [o0,o1] 2):K3≠.bad→Bz Tryz.prog 122 [] (hp h0 [o0,o1] [none,none]) (Ev (fun a_ v h' => ∃ (g2:Nat),∃ (g3:Nat),v=(.ptr o0 g2 0 0)∧h'=hp h0 [o0,o1] [some (.rows g2 4 [[.nilf,(.func (.func 149) [] []),(.func (.func 152) [] []),(.func (.func 153) [] [(.ptr o1 g3 0 0)])]]),some (.rows g3 1 [[(.ptr o0 g2 0 0)]])]) h0 (K3)):=by
 refine Fb (n:=18) 0 func122 J (by decide) J J hI0 J fun ids he hI=>?_
 clear hI0
 obtain rfl:ix ids 0=o0:=he 0 rfl
 obtain rfl:ix ids 1=o1:=he 1 rfl
 clear he
 refine Bo (Ah (K3.eq_1) ?_)
 refine Y<|Al .nilp<|O<|Y<|Ac (.A [.nilf,.nilf,.nilf,.nilf]) J (L6 (Amu Qg Hg J))<|B9 (v:=(.A [.nilf,.nilf,.nilf,.nilf])) (j:=0) hI J J J J J J J fun g=>Cj (j:=1) hI J J J J Ali J fun g1=>A5 (Bu (v:=(.q ids 0 g)) hI J J J J Ali J J J J J)<|O<|A3 ?_
 refine Y<|Aa 2 [1] [(5,(.q ids 0 g))]<|Ac (.ptr (ix ids 0) g 0 1) J (Ay (Jx 1 Qg Hg J J))<|Ac (.ptr (ix ids 0) g 0 1) J (Bm (B3 1 0 0 Hg J Ht J))<|A5 (Bu (v:=(.func (.func 149) [] [])) hI J J J J Ht J J J J J)<|O<|A3 ?_
 refine Y<|Aa 2 [1] [(9,(.q ids 0 g))]<|Ac (.ptr (ix ids 0) g 0 2) J (Ay (Jx 2 Qg Hg J J))<|Ac (.ptr (ix ids 0) g 0 2) J (Bm (B3 2 0 0 Hg J Ht J))<|A5 (Bu (v:=(.func (.func 152) [] [])) hI J J J J Ht J J J J J)<|O<|A3 ?_
 refine Y<|Aa 3 [1] [(14,(.q ids 0 g)),(13,(.func (.func 153) [] [(.q ids 1 g1)]))]<|Ac (.ptr (ix ids 0) g 0 3) J (Ay (Jx 3 Qg Hg J J))<|Ac (.ptr (ix ids 0) g 0 3) J (Bm (B3 3 0 0 Hg J Ht J))<|A5 (Bu (v:=(.func (.func 153) [] [(.q ids 1 g1)])) hI J J J J Ht J J J J J)<|O<|A3 ?_
 refine Y<|Aa 2 [1] [(0,(.q ids 0 g))]<|O<|Hw (K:=2) (N:=0) [At g 4 [[.nilf,(.func (.func 149) [] []),(.func (.func 152) [] []),(.func (.func 153) [] [(.q ids 1 g1)])]],At g1 1 [[(.q ids 0 g)]]] func122 hI J J J (.keep (.keep .nil)) (.same _) ⟨g,g1,J,J⟩
theorem Af4 (n:Int):CP Tryz.prog 151 [(.int .i64 n)] (Qp n) (fun(x:Int)=>(AV.int .u64 x)):=by
 refine Bk (n:=10) 0 func151 J (by decide) J J fun h0 ids hI=>Bo (Ah (Qp.eq_1 _) ?_)
 refine Y<|Al (.int .u64 0)<|O<|Y<|Av (.I n)<|Ac (.int .u64 (IntKind.wrap .u64 n)) J (E0 (Gv Bb Me))<|Ac (.int .u64 (Se .u64 (IntKind.wrap .u64 n) 1)) J (Ak J J (Acs (by decide)))<|Av (.I n)<|Ac (.I (Int.fdiv n 9223372036854775808)) J (Ak J J (K4 (by decide) (by decide)))<|Ac (.int .u64 (IntKind.wrap .u64 (Int.fdiv n 9223372036854775808))) J (E0 (Gv Bb Me))<|Ac (.int .u64 (Dn .u64 (Se .u64 (IntKind.wrap .u64 n) 1) (IntKind.wrap .u64 (Int.fdiv n 9223372036854775808)))) J (Ak J J Lt)<|Al (.int .u64 (Dn .u64 (Se .u64 (IntKind.wrap .u64 n) 1) (IntKind.wrap .u64 (Int.fdiv n 9223372036854775808))))<|O<|A0 func151 hI J (.same _)
theorem Py (u:Int)(l:List Int)(h0:Ab)(o0:Nat)(v1:AV)(g:Nat)(vH:Cg v1 o0 g l.length)(hI0:Ids h0 [o0] 1):Gi u l≠.bad→Bz Tryz.prog 150 [v1,(.int .u64 u)] (hp h0 [o0] [Bp v1 g 1 (List.map (rI .u8) l)]) (Ev (fun a_ v h' => ∃ (v6:AV),∃ (g5:Nat),Cg v6 o0 g5 a_.length∧v6=v∧h'=hp h0 [o0] [Bp v6 g5 1 (List.map (rI .u8) a_)]) h0 (Gi u l)):=by
 refine Fb (n:=20) 0 func150 J (by decide) J J hI0 J fun ids he hI=>?_
 clear hI0
 obtain rfl:ix ids 0=o0:=he 0 rfl
 clear he
 refine Bo (Ah (Gi.eq_1 _ _) ?_)
 refine Y<|Al .emp<|O<|Ad<|Dz (Do fun u2 b1=>In u2 b1) (Do fun u2 b1=>fun fr h => ∃ (v4:AV),∃ (g3:Nat),Cg v4 (ix ids 0) g3 b1.length∧fr=Ap [(0,v4),(1,(.int .u64 u2))]∧h=hp h0 ids [(Bp v4 g3 1 (List.map (rI .u8) b1))]) ?_ fun hJ=>?_
 ·rintro⟨u2,b1⟩ fr h ⟨v4,g3,vH3,rfl,rfl⟩
  refine Ah (In.eq_1 _ _)<|Y<|Aa 2 [] [(16,(.int .u64 u2)),(15,v4)]<|Ac (.int .u8 (IntKind.wrap .u8 u2)) J (E0 (Gv Me Fe))<|Ey (e:=(rI .u8)) (L:=[(IntKind.wrap .u8 u2)]) (st:=1) (rows:=[[(.int .u8 (IntKind.wrap .u8 u2))]]) J Dl Fe J J J J J (.cons (RowSim.refl _) .nil) (fun x=>Cb x) J J<|Cs fun hl1=>Et (e:=(rI .u8)) (L:=b1) (L2:=[(IntKind.wrap .u8 u2)]) (v:=v4) (g:=g3) (st:=1) (j:=0) hI J J J J vH3 J (Ez J) Dl Dl J Fe J J J hl1 fun v5 g4 vH4=>Al v5<|O<|A3 ?_
  exact Hw (K:=1) (N:=0) [Bp v5 g4 1 (List.map (rI .u8) (b1++[(IntKind.wrap .u8 u2)]))] func150 hI J J J (.keep .nil) (.same _) ⟨v5,g4,vH4,J,J⟩
 refine Aw<|Co [(0,v1),(1,(.int .u64 u))] (FI J)<|Jf (P:=Tryz.prog) (Do fun u1 b=>Iu u1 b) ((Do fun u2 b1=>In u2 b1):(Int×(List Int))→R (List Int)) (Do fun u1 b=>fun fr h => ∃ (v2:AV),∃ (g1:Nat),Cg v2 (ix ids 0) g1 b.length∧fr=Ap [(0,v2),(1,(.int .u64 u1))]∧h=hp h0 ids [(Bp v2 g1 1 (List.map (rI .u8) b))]) (u,l) ?_ ?_
 ·exact⟨v1,g,vH,J,J⟩
 rintro vW hW ⟨u1,b⟩ fr h ⟨v2,g1,vH1,rfl,rfl⟩
 refine Ah (m':=Iu u1 b) J (Ah (Iu.eq_1 _ _) ?_)
 refine Ad<|Y<|Aa 2 [] [(6,(.B (decide (u1≥128))))]<|O<|D4 J (fun hc=>?_) (fun hc=>?_)
 ·refine Aq<|Ad<|Aw<|As<|Aa 2 [] [(10,(.int .u64 u1)),(9,v2)]<|Ac (.int .u8 (IntKind.wrap .u8 u1)) J (E0 (Gv Me Fe))<|Ac (.int .u8 (Ny .u8 (IntKind.wrap .u8 u1) 128)) J (Ak J J Z0)<|Ey (e:=(rI .u8)) (L:=[(Ny .u8 (IntKind.wrap .u8 u1) 128)]) (st:=1) (rows:=[[(.int .u8 (Ny .u8 (IntKind.wrap .u8 u1) 128))]]) J Dl Fe J J J J J (.cons (RowSim.refl _) .nil) (fun x=>Cb x) J J<|Cs fun hl=>Et (e:=(rI .u8)) (L:=b) (L2:=[(Ny .u8 (IntKind.wrap .u8 u1) 128)]) (v:=v2) (g:=g1) (st:=1) (j:=0) hI J J J J vH1 J (Ez J) Dl Dl J Fe J J J hl fun v3 g2 vH2=>Al v3<|O<|A3 ?_
  refine A6<|As<|Av (.int .u64 u1)<|Ac (.int .u64 (Int.fdiv u1 128)) J (Ak J J (K4 (by decide) (by decide)))<|Al (.int .u64 (Int.fdiv u1 128))<|O<|Bg (Hc (hW ((Int.fdiv u1 128),(b++[(Ny .u8 (IntKind.wrap .u8 u1) 128)])) _ _ ⟨v3,g2,vH2,J,J⟩))
 refine Bs J<|H5<|Bg (hJ (u1,b) _ _ ⟨v2,g1,vH1,J,J⟩)
theorem O1 (v1:Value)(l:List Int)(h0:Ab)(o0:Nat)(v2:AV)(g:Nat)(vH:Cg v2 o0 g l.length)(hI0:Ids h0 [o0] 1):Ei v1 l≠.bad→Bz Tryz.prog 149 [v2,(.agg (Cu v1))] (hp h0 [o0] [Bp v2 g 1 (List.map (rI .u8) l)]) (Ev (fun a_ v h' => ∃ (v5:AV),∃ (g4:Nat),Cg v5 o0 g4 a_.length∧v5=v∧h'=hp h0 [o0] [Bp v5 g4 1 (List.map (rI .u8) a_)]) h0 (Ei v1 l)):=by
 refine Fb (n:=12) 1 func149 J (by decide) J J hI0 J fun ids he hI=>?_
 clear hI0
 obtain rfl:ix ids 0=o0:=he 0 rfl
 clear he
 refine Bo (Ah (Ei.eq_1 _ _) ?_)
 refine A3 ?_
 refine Y<|B9 (v:=(.A (Cu v1))) (j:=1) hI J J J J J J J fun g1=>Al .emp<|O<|A3 ?_
 refine Ad<|Cp Ec [[],[],[0,1],[],[3],[0,1,2,3,4],[0,1,2,3,4,5],[0,1,2,3,4,5,6,6,6]] [(false,0),(false,3),(false,4),(true,1),(true,2),(true,5),(true,6),(false,7)] (by kernel_rfl)<|Z v2 J J Ae<|Z (.ptr (ix ids 1) g1 0 1) J J (Bm (B3 0 1 1 D6 J Bb J))<|Z (.I v1.N) J J (Af (An hI J J J Bb J))<|Kl J J (fun _ _=>J) (fun K hK=>Lz (e:=(rI .u8)) (L:=[1]) (st:=1) (rows:=[[(.int .u8 1)]]) Dl Fe J J J J J (.cons (RowSim.refl _) .nil) (fun x=>Cb x) J J (hK _ _ (Ai J (Af (An hI J J J Bb J)) (Ai J (Bm (B3 0 1 1 D6 J Bb J)) (Ai J Ae Bc))) ?_))
 clear hK K
 refine Fx fun hl=>Kl J J (fun _ _=>J) (fun K hK=>Pj (e:=(rI .u8)) (L:=l) (L2:=[1]) (v:=v2) (g:=g) (st:=1) (j:=0) hI J J J vH J (Ez J) Dl Dl J Fe J J J hl fun v3 g2 vH1=>hK _ _ (Ai J (Af (An hI J J J Bb J)) (Ai J (Bm (B3 0 1 1 D6 J Bb J)) (Bx J Bc))) ?_)
 clear hK K
 refine Cx _ J J J J J ((Af4 v1.N) _) (fun v _ _ _=>Fv (K:=1) (N:=1) func149 hI) (B6 J (Bx J Bc)) fun r _=>G0 [0] hI J J (Py r (l++[1]) _ (ix ids 0) v3 g2 vH1 (by exact hI.sub' J J)) J J J J J J J (fun v _ _ _=>Fv (K:=1) (N:=1) func149 hI) ?_
 rintro r1 _ _ _ ⟨v4,g3,vH2,rfl,rfl⟩
 refine H2 [0] [Bp v4 g3 1 (List.map (rI .u8) r1),At g1 4 [(Cu v1)]] hI J J J J ⟨(B6 J (Bx J Bc)),?_⟩
 refine Hz<|Z v4 J J B2<|Bn<|A3 ?_
 exact Hw (K:=1) (N:=1) [Bp v4 g3 1 (List.map (rI .u8) r1)] func149 hI J J J (.keep (.drop .nil)) (.same _) ⟨v4,g3,vH2,J,J⟩
theorem O0 (v1:Value)(l:List Int)(h0:Ab)(o0:Nat)(v2:AV)(g:Nat)(vH:Cg v2 o0 g l.length)(hI0:Ids h0 [o0] 1):Gf v1 l≠.bad→Bz Tryz.prog 152 [v2,(.agg (Cu v1))] (hp h0 [o0] [Bp v2 g 1 (List.map (rI .u8) l)]) (Ev (fun a_ v h' => ∃ (v6:AV),∃ (g5:Nat),Cg v6 o0 g5 a_.length∧v6=v∧h'=hp h0 [o0] [Bp v6 g5 1 (List.map (rI .u8) a_)]) h0 (Gf v1 l)):=by
 refine Fb (n:=16) 1 func152 J (by decide) J J hI0 J fun ids he hI=>?_
 clear hI0
 obtain rfl:ix ids 0=o0:=he 0 rfl
 clear he
 refine Bo (Ah (Gf.eq_1 _ _) ?_)
 refine A3 ?_
 refine Y<|B9 (v:=(.A (Cu v1))) (j:=1) hI J J J J J J J fun g1=>Al .emp<|O<|A3 ?_
 refine Ad<|Cp Ec [[],[],[0,1],[],[3],[3,4],[3,4,5],[0,1,2,3,4,5,6],[],[8],[0,1,2,3,4,5,6,7,8,9],[0,1,2,3,4,5,6,7,8,9,10,10,10]] [(false,0),(false,3),(false,4),(false,5),(false,6),(false,8),(false,9),(true,1),(true,2),(true,7),(true,10),(false,11)] (by kernel_rfl)<|Z v2 J J Ae<|Z (.ptr (ix ids 1) g1 0 2) J J (Bm (B3 0 2 2 D6 J Q9 J))<|Z (.str v1.S) J J (Af (An hI J J J Q9 J))<|Z (.I (v1.S.length:Int)) J J (A7 (Ajz Q9))<|Z (.int .u64 (IntKind.wrap .u64 (v1.S.length:Int))) J J (E0 (Gv Bb Me))<|Z (.ptr (ix ids 1) g1 0 2) J J (Bm (B3 0 2 2 D6 J Q9 J))<|Z (.str v1.S) J J (Af (An hI J J J Q9 J))<|Kl J J (fun _ _=>J) (fun K hK=>Lz (e:=(rI .u8)) (L:=[2]) (st:=1) (rows:=[[(.int .u8 2)]]) Dl Fe J J J J J (.cons (RowSim.refl _) .nil) (fun x=>Cb x) J J (hK _ _ (Ai J (Af (An hI J J J Q9 J)) (Ai J (Bm (B3 0 2 2 D6 J Q9 J)) (Ai J (E0 (Gv Bb Me)) (Ai J (A7 (Ajz Q9)) (Ai J (Af (An hI J J J Q9 J)) (Ai J (Bm (B3 0 2 2 D6 J Q9 J)) (Ai J Ae Bc))))))) ?_))
 clear hK K
 refine Fx fun hl=>Kl J J (fun _ _=>J) (fun K hK=>Pj (e:=(rI .u8)) (L:=l) (L2:=[2]) (v:=v2) (g:=g) (st:=1) (j:=0) hI J J J vH J (Ez J) Dl Dl J Fe J J J hl fun v3 g2 vH1=>hK _ _ (Ai J (Af (An hI J J J Q9 J)) (Ai J (Bm (B3 0 2 2 D6 J Q9 J)) (Ai J (E0 (Gv Bb Me)) (Ai J (A7 (Ajz Q9)) (Ai J (Af (An hI J J J Q9 J)) (Ai J (Bm (B3 0 2 2 D6 J Q9 J)) (Bx J Bc))))))) ?_)
 clear hK K
 refine G0 [0] hI J J (Py (IntKind.wrap .u64 (v1.S.length:Int)) (l++[2]) _ (ix ids 0) v3 g2 vH1 (by exact hI.sub' J J)) J J J J J J J (fun v _ _ _=>Fv (K:=1) (N:=1) func152 hI) ?_
 rintro r _ _ _ ⟨v4,g3,vH2,rfl,rfl⟩
 refine H2 [0] [Bp v4 g3 1 (List.map (rI .u8) r),At g1 4 [(Cu v1)]] hI J J J J ⟨(Ai J (Af (An hI J J J Q9 J)) (Ai J (Bm (B3 0 2 2 D6 J Q9 J)) (Ej J (Bx J Bc)))),?_⟩
 refine Hz<|Fx fun hl1=>Kl J J (fun _ _=>J) (fun K hK=>Pj (e:=(rI .u8)) (L:=r) (L2:=(Nm v1.S)) (v:=v4) (g:=g3) (st:=1) (j:=0) hI J J J vH2 J (Auq J J) Dl Q9 J Fe J J J hl1 fun v5 g4 vH3=>hK _ _ (Ej J (B6 J (Bx J Bc))) ?_)
 clear hK K
 refine Z v5 J J B2<|Bn<|A3 ?_
 exact Hw (K:=1) (N:=1) [Bp v5 g4 1 (List.map (rI .u8) (r++(Nm v1.S)))] func152 hI J J J (.keep (.drop .nil)) (.same _) ⟨v5,g4,vH3,J,J⟩
theorem Yx (W_:Value→(List Int)→R (List Int))(cg_W_ : ∀ (v1:Value) (l:List Int) (h0:Ab) (o0:Nat) (o1:Nat) (o2:Nat) (v2:AV) (g:Nat) (g1:Nat) (g2:Nat) (vH:Cg v2 o0 g l.length) (hI0:Ids h0 [o0,o1,o2] 3),W_ v1 l≠.bad→Bz Tryz.prog 153 [v2,(.agg (Cu v1)),(.ptr o1 g1 0 0)] (hp h0 [o0,o1,o2] [Bp v2 g 1 (List.map (rI .u8) l),some (.rows g1 1 [[(.ptr o2 g2 0 0)]]),some (.rows g2 4 [[.nilf,(.func (.func 149) [] []),(.func (.func 152) [] []),(.func (.func 153) [] [(.ptr o1 g1 0 0)])]])]) (Ev (fun a_ v h' => ∃ (v9:AV),∃ (g11:Nat),Cg v9 o0 g11 a_.length∧v9=v∧h'=hp h0 [o0,o1,o2] [Bp v9 g11 1 (List.map (rI .u8) a_),some (.rows g1 1 [[(.ptr o2 g2 0 0)]]),some (.rows g2 4 [[.nilf,(.func (.func 149) [] []),(.func (.func 152) [] []),(.func (.func 153) [] [(.ptr o1 g1 0 0)])]])]) h0 (W_ v1 l)))(v1:Value)(l:List Int)(h0:Ab)(o0:Nat)(o1:Nat)(o2:Nat)(v2:AV)(g:Nat)(g1:Nat)(g2:Nat)(vH:Cg v2 o0 g l.length)(hI0:Ids h0 [o0,o1,o2] 3):H3 W_ v1 l≠.bad→Bz Tryz.prog 153 [v2,(.agg (Cu v1)),(.ptr o1 g1 0 0)] (hp h0 [o0,o1,o2] [Bp v2 g 1 (List.map (rI .u8) l),some (.rows g1 1 [[(.ptr o2 g2 0 0)]]),some (.rows g2 4 [[.nilf,(.func (.func 149) [] []),(.func (.func 152) [] []),(.func (.func 153) [] [(.ptr o1 g1 0 0)])]])]) (Ev (fun a_ v h' => ∃ (v9:AV),∃ (g11:Nat),Cg v9 o0 g11 a_.length∧v9=v∧h'=hp h0 [o0,o1,o2] [Bp v9 g11 1 (List.map (rI .u8) a_),some (.rows g1 1 [[(.ptr o2 g2 0 0)]]),some (.rows g2 4 [[.nilf,(.func (.func 149) [] []),(.func (.func 152) [] []),(.func (.func 153) [] [(.ptr o1 g1 0 0)])]])]) h0 (H3 W_ v1 l)):=by
 refine Fb (n:=35) 2 func153 J (by decide) J J hI0 J fun ids he hI=>?_
 clear hI0
 obtain rfl:ix ids 0=o0:=he 0 rfl
 obtain rfl:ix ids 1=o1:=he 1 rfl
 obtain rfl:ix ids 2=o2:=he 2 rfl
 clear he
 refine Bo (Ah (H3.eq_1 _ _ _) ?_)
 refine A3 ?_
 refine Y<|B9 (v:=(.A (Cu v1))) (j:=3) hI J J J J J J J fun g3=>Al .emp<|O<|A3 ?_
 refine Ad<|Cp Ec [[],[],[0,1],[],[3],[3,4],[3,4,5],[0,1,2,3,4,5,6],[0,1,2,3,4,5,6,7,7,7]] [(false,0),(false,3),(false,4),(false,5),(false,6),(true,1),(true,2),(true,7),(false,8)] (by kernel_rfl)<|Z v2 J J Ae<|Z (.ptr (ix ids 3) g3 0 3) J J (Bm (B3 0 3 3 D6 J Hh J))<|Z (.sl 4 (List.map rValueA v1.L)) J J (Af (An hI J J J Hh J))<|Z (.I (v1.L.length:Int)) J J (A7 (Bh Hh))<|Z (.int .u64 (IntKind.wrap .u64 (v1.L.length:Int))) J J (E0 (Gv Bb Me))<|Kl J J (fun _ _=>J) (fun K hK=>Lz (e:=(rI .u8)) (L:=[3]) (st:=1) (rows:=[[(.int .u8 3)]]) Dl Fe J J J J J (.cons (RowSim.refl _) .nil) (fun x=>Cb x) J J (hK _ _ (Ai J (E0 (Gv Bb Me)) (Ai J (A7 (Bh Hh)) (Ai J (Af (An hI J J J Hh J)) (Ai J (Bm (B3 0 3 3 D6 J Hh J)) (Ai J Ae Bc))))) ?_))
 clear hK K
 refine Fx fun hl=>Kl J J (fun _ _=>J) (fun K hK=>Pj (e:=(rI .u8)) (L:=l) (L2:=[3]) (v:=v2) (g:=g) (st:=1) (j:=0) hI J J J vH J (Ez J) Dl Dl J Fe J J J hl fun v3 g4 vH1=>hK _ _ (Ai J (E0 (Gv Bb Me)) (Ai J (A7 (Bh Hh)) (Ai J (Af (An hI J J J Hh J)) (Ai J (Bm (B3 0 3 3 D6 J Hh J)) (Bx J Bc))))) ?_)
 clear hK K
 refine G0 [0] hI J J (Py (IntKind.wrap .u64 (v1.L.length:Int)) (l++[3]) _ (ix ids 0) v3 g4 vH1 (by exact hI.sub' J J)) J J J J J J J (fun v _ _ _=>Fv (K:=3) (N:=2) func153 hI) ?_
 rintro b _ _ _ ⟨v4,g5,vH2,rfl,rfl⟩
 refine H2 [0] [Bp v4 g5 1 (List.map (rI .u8) b),At g1 1 [[(.q ids 2 g2)]],At g2 4 [[.nilf,(.func (.func 149) [] []),(.func (.func 152) [] []),(.func (.func 153) [] [(.q ids 1 g1)])]],At g3 4 [(Cu v1)],none] hI J J J J ⟨(Ej J (Bx J Bc)),?_⟩
 refine Hz<|Z v4 J J B2<|Bn<|A3 ?_
 refine Ad<|Y<|Aa 2 [3] [(17,(.sl 4 (List.map rValueA v1.L)))]<|Ac (.I (v1.L.length:Int)) J (A7 (Bh Hh))<|Av (.I 0)<|O<|Aw<|Ch [(Bp v4 g5 1 (List.map (rI .u8) b)),(At g1 1 [[(.q ids 2 g2)]]),(At g2 4 [[.nilf,(.func (.func 149) [] []),(.func (.func 152) [] []),(.func (.func 153) [] [(.q ids 1 g1)])]]),none,none] hI J (.keep (.keep (.keep (.drop (.keep .nil)))))<|Co [(0,v4),(2,(.q ids 1 g1)),(17,(.sl 4 (List.map rValueA v1.L))),(18,(.I (v1.L.length:Int))),(19,(.I 0))] (FI J)<|Db (P:=Tryz.prog) v1.L (fun _ a=>fun b1=>He W_ a b1) (((fun b1=>.ok b1)):(List Int)→R (List Int)) (fun j=>fun b1=>fun fr h => ∃ (v5:AV),∃ (g6:Nat),Cg v5 (ix ids 0) g6 b1.length∧fr=Ap [(0,v5),(2,(.q ids 1 g1)),(17,(.sl 4 (List.map rValueA v1.L))),(18,(.I (v1.L.length:Int))),(19,(.I j))]∧h=hp h0 ids [(Bp v5 g6 1 (List.map (rI .u8) b1)),(At g1 1 [[(.q ids 2 g2)]]),(At g2 4 [[.nilf,(.func (.func 149) [] []),(.func (.func 152) [] []),(.func (.func 153) [] [(.q ids 1 g1)])]]),none,none]) b ?_ ?_ ?_
 ·exact⟨v4,g5,vH2,J,J⟩
 ·rintro j a ha W hW b1 fr h ⟨v5,g6,vH3,rfl,rfl⟩
  refine Ah (m':=He W_ a b1) J (Ah (He.eq_1 _ _ _) ?_)
  refine Y<|Ac (.B (decide ((j:Int)<(v1.L.length:Int)))) J (Ak J J J)<|O<|Ad<|Dg (t:=17) (L:=v1.L) J fun hlim=>Ce J (Int.ofNat_lt.2 (A8 ha))<|Aq<|Ad<|Aw<|Y<|Ac (.cp (Cu a) 0) J (Ay (Agx Vv Hh D6 J ha))<|Ac (.A (Cu a)) J (Af (Cf D6 J))<|Cj (j:=4) hI J J J J D6 J fun g7=>A5 (Bu (v:=(.A (Cu a))) hI J J J J D6 J J J J J)<|O<|A3 ?_
  refine Cp Ec [[],[],[1],[0],[0,1,2,3],[0,1,2,3,4],[0,1,2,3,4,5],[],[],[0,1,2,3,4,5,6,7,8],[0,1,2,3,4,5,6,7,8,9,9,9]] [(false,0),(false,1),(false,2),(false,3),(false,4),(false,5),(false,6),(false,7),(false,8),(true,9),(false,10)] (by kernel_rfl)<|Z (.q ids 2 g2) J J (Af (An hI J J J Ali J))<|Z (.q ids 4 g7) J J (Bm (B3 0 0 0 D6 J Bb J))<|Z (.I a.Kind) J J (Af (An hI J J J Bb J))<|Z (.q ids 2 g2) J J (Ua J)<|Kh (fun hi=>?_) (fun _=>?_)
  ·refine Z (.q ids 2 g2) J J (Ay (Jx 0 Qg Hg hi J))<|Z (.q ids 2 g2) J J (Bm (B3 0 0 0 Hg J Ht J))<|Z .nilf J J (Af (An hI J J J Ht J))<|Z v5 J J Ae<|Z (.A (Cu a)) J J (Af (An hI J J J D6 J))<|Yb
  refine Kh (fun hi=>?_) (fun _=>?_)
  ·refine Z (.ptr (ix ids 2) g2 0 1) J J (Ay (Jx 1 Qg Hg hi J))<|Z (.ptr (ix ids 2) g2 0 1) J J (Bm (B3 1 0 0 Hg J Ht J))<|Z (.func (.func 149) [] []) J J (Af (An hI J J J Ht J))<|Z v5 J J Ae<|Z (.A (Cu a)) J J (Af (An hI J J J D6 J))<|G0 [0] hI J J (O1 a b1 _ (ix ids 0) v5 g6 vH3 (by exact hI.sub' J J)) J J J J J J J (fun v _ _ _=>Fv (K:=3) (N:=2) func153 hI) ?_
   rintro b2 _ _ _ ⟨v6,g8,vH4,rfl,rfl⟩
   refine H2 [0] [Bp v6 g8 1 (List.map (rI .u8) b2),At g1 1 [[(.q ids 2 g2)]],At g2 4 [[.nilf,(.func (.func 149) [] []),(.func (.func 152) [] []),(.func (.func 153) [] [(.q ids 1 g1)])]],none,At g7 4 [(Cu a)]] hI J J J J ⟨(Cn J (Bx J Bc)),?_⟩
   refine Hz<|Z v6 J J B2<|Bn<|A3 ?_
   refine A6<|As<|Aa 2 [] [(19,(.I (wi ((j:Int)+1))))]<|O<|Ch [(Bp v6 g8 1 (List.map (rI .u8) b2)),(At g1 1 [[(.q ids 2 g2)]]),(At g2 4 [[.nilf,(.func (.func 149) [] []),(.func (.func 152) [] []),(.func (.func 153) [] [(.q ids 1 g1)])]]),none,none] hI J (.keep (.keep (.keep (.keep (.drop .nil)))))<|Bg (Fy (hW b2 _ _ ⟨v6,g8,vH4,J,J⟩)) (.r4 (.o (ic ha hlim)))
  refine Kh (fun hi=>?_) (fun _=>?_)
  ·refine Z (.ptr (ix ids 2) g2 0 2) J J (Ay (Jx 2 Qg Hg hi J))<|Z (.ptr (ix ids 2) g2 0 2) J J (Bm (B3 2 0 0 Hg J Ht J))<|Z (.func (.func 152) [] []) J J (Af (An hI J J J Ht J))<|Z v5 J J Ae<|Z (.A (Cu a)) J J (Af (An hI J J J D6 J))<|G0 [0] hI J J (O0 a b1 _ (ix ids 0) v5 g6 vH3 (by exact hI.sub' J J)) J J J J J J J (fun v _ _ _=>Fv (K:=3) (N:=2) func153 hI) ?_
   rintro b3 _ _ _ ⟨v7,g9,vH5,rfl,rfl⟩
   refine H2 [0] [Bp v7 g9 1 (List.map (rI .u8) b3),At g1 1 [[(.q ids 2 g2)]],At g2 4 [[.nilf,(.func (.func 149) [] []),(.func (.func 152) [] []),(.func (.func 153) [] [(.q ids 1 g1)])]],none,At g7 4 [(Cu a)]] hI J J J J ⟨(Cn J (Bx J Bc)),?_⟩
   refine Hz<|Z v7 J J B2<|Bn<|A3 ?_
   refine A6<|As<|Aa 2 [] [(19,(.I (wi ((j:Int)+1))))]<|O<|Ch [(Bp v7 g9 1 (List.map (rI .u8) b3)),(At g1 1 [[(.q ids 2 g2)]]),(At g2 4 [[.nilf,(.func (.func 149) [] []),(.func (.func 152) [] []),(.func (.func 153) [] [(.q ids 1 g1)])]]),none,none] hI J (.keep (.keep (.keep (.keep (.drop .nil)))))<|Bg (Fy (hW b3 _ _ ⟨v7,g9,vH5,J,J⟩)) (.r4 (.o (ic ha hlim)))
  refine Kh (fun hi=>?_) (fun _=>?_)
  ·refine Z (.ptr (ix ids 2) g2 0 3) J J (Ay (Jx 3 Qg Hg hi J))<|Z (.ptr (ix ids 2) g2 0 3) J J (Bm (B3 3 0 0 Hg J Ht J))<|Z (.func (.func 153) [] [(.q ids 1 g1)]) J J (Af (An hI J J J Ht J))<|Z v5 J J Ae<|Z (.A (Cu a)) J J (Af (An hI J J J D6 J))<|G0 [0,1,2] hI J J (cg_W_ a b1 _ (ix ids 0) (ix ids 1) (ix ids 2) v5 g6 g1 g2 vH3 (by exact hI.sub' J J)) J J J J J J J (fun v _ _ _=>Fv (K:=3) (N:=2) func153 hI) ?_
   rintro b4 _ _ _ ⟨v8,g10,vH6,rfl,rfl⟩
   refine H2 [0,1,2] [Bp v8 g10 1 (List.map (rI .u8) b4),At g1 1 [[(.q ids 2 g2)]],At g2 4 [[.nilf,(.func (.func 149) [] []),(.func (.func 152) [] []),(.func (.func 153) [] [(.q ids 1 g1)])]],none,At g7 4 [(Cu a)]] hI J J J J ⟨(Cn J (Bx J Bc)),?_⟩
   refine Hz<|Z v8 J J B2<|Bn<|A3 ?_
   refine A6<|As<|Aa 2 [] [(19,(.I (wi ((j:Int)+1))))]<|O<|Ch [(Bp v8 g10 1 (List.map (rI .u8) b4)),(At g1 1 [[(.q ids 2 g2)]]),(At g2 4 [[.nilf,(.func (.func 149) [] []),(.func (.func 152) [] []),(.func (.func 153) [] [(.q ids 1 g1)])]]),none,none] hI J (.keep (.keep (.keep (.keep (.drop .nil)))))<|Bg (Fy (hW b4 _ _ ⟨v8,g10,vH6,J,J⟩)) (.r4 (.o (ic ha hlim)))
  exact Yb
 rintro b1 fr h ⟨v5,g6,vH3,rfl,rfl⟩
 refine Y<|Ac (.B (decide ((v1.L.length:Int)<(v1.L.length:Int)))) J (Ak J J J)<|O<|Ad<|Cd J (Int.lt_irrefl _)<|Bs J<|Y<|Aa 2 [] [(5,v5)]<|O<|Hw (K:=3) (N:=2) [Bp v5 g6 1 (List.map (rI .u8) b1),At g1 1 [[(.q ids 2 g2)]],At g2 4 [[.nilf,(.func (.func 149) [] []),(.func (.func 152) [] []),(.func (.func 153) [] [(.q ids 1 g1)])]]] func153 hI J J J (.keep (.keep (.keep (.keep (.keep .nil))))) (.same _) ⟨v5,g6,vH3,J,J⟩
theorem Zb : ∀ (n:Nat) (v1:Value) (l:List Int) (h0:Ab) (o0:Nat) (o1:Nat) (o2:Nat) (v2:AV) (g:Nat) (g1:Nat) (g2:Nat) (vH:Cg v2 o0 g l.length) (hI0:Ids h0 [o0,o1,o2] 3),H4 n v1 l≠.bad→Bz Tryz.prog 153 [v2,(.agg (Cu v1)),(.ptr o1 g1 0 0)] (hp h0 [o0,o1,o2] [Bp v2 g 1 (List.map (rI .u8) l),some (.rows g1 1 [[(.ptr o2 g2 0 0)]]),some (.rows g2 4 [[.nilf,(.func (.func 149) [] []),(.func (.func 152) [] []),(.func (.func 153) [] [(.ptr o1 g1 0 0)])]])]) (Ev (fun a_ v h' => ∃ (v9:AV),∃ (g11:Nat),Cg v9 o0 g11 a_.length∧v9=v∧h'=hp h0 [o0,o1,o2] [Bp v9 g11 1 (List.map (rI .u8) a_),some (.rows g1 1 [[(.ptr o2 g2 0 0)]]),some (.rows g2 4 [[.nilf,(.func (.func 149) [] []),(.func (.func 152) [] []),(.func (.func 153) [] [(.ptr o1 g1 0 0)])]])]) h0 (H4 n v1 l)):=by
 intro n
 induction n with
 | zero=>intro v1 l h0 o0 o1 o2 v2 g g1 g2 vH hI0; exact fun hb=>absurd rfl hb
 | succ n ih=>intro v1 l h0 o0 o1 o2 v2 g g1 g2 vH hI0; exact Yx (H4 n) ih v1 l h0 o0 o1 o2 v2 g g1 g2 vH hI0
theorem Aaa (v1:Value)(l:List Int)(h0:Ab)(o0:Nat)(o1:Nat)(o2:Nat)(v2:AV)(g:Nat)(g1:Nat)(g2:Nat)(vH:Cg v2 o0 g l.length)(hI0:Ids h0 [o0,o1,o2] 3):Kq v1 l≠.bad→Bz Tryz.prog 153 [v2,(.agg (Cu v1)),(.ptr o1 g1 0 0)] (hp h0 [o0,o1,o2] [Bp v2 g 1 (List.map (rI .u8) l),some (.rows g1 1 [[(.ptr o2 g2 0 0)]]),some (.rows g2 4 [[.nilf,(.func (.func 149) [] []),(.func (.func 152) [] []),(.func (.func 153) [] [(.ptr o1 g1 0 0)])]])]) (Ev (fun a_ v h' => ∃ (v9:AV),∃ (g11:Nat),Cg v9 o0 g11 a_.length∧v9=v∧h'=hp h0 [o0,o1,o2] [Bp v9 g11 1 (List.map (rI .u8) a_),some (.rows g1 1 [[(.ptr o2 g2 0 0)]]),some (.rows g2 4 [[.nilf,(.func (.func 149) [] []),(.func (.func 152) [] []),(.func (.func 153) [] [(.ptr o1 g1 0 0)])]])]) h0 (Kq v1 l)):=Zb Vx v1 l h0 o0 o1 o2 v2 g g1 g2 vH hI0
theorem Abx (v1:Value)(h0:Ab)(o0:Nat)(o1:Nat)(g:Nat)(g1:Nat)(hI0:Ids h0 [o0,o1] 2):It v1≠.bad→Bz Tryz.prog 153 [.emp,(.agg (Cu v1)),(.ptr o0 g 0 0)] (hp h0 [o0,o1] [some (.rows g 1 [[(.ptr o1 g1 0 0)]]),some (.rows g1 4 [[.nilf,(.func (.func 149) [] []),(.func (.func 152) [] []),(.func (.func 153) [] [(.ptr o0 g 0 0)])]])]) (Ev (fun a_ v h'=>v=(.sl 1 (List.map (rI .u8) a_))∧h'=hp h0 [o0,o1] [some (.rows g 1 [[(.ptr o1 g1 0 0)]]),some (.rows g1 4 [[.nilf,(.func (.func 149) [] []),(.func (.func 152) [] []),(.func (.func 153) [] [(.ptr o0 g 0 0)])]])]) h0 (It v1)):=by
 refine Fb (n:=35) 3 func153 J (by decide) J J hI0 J fun ids he hI=>?_
 clear hI0
 obtain rfl:ix ids 0=o0:=he 0 rfl
 obtain rfl:ix ids 1=o1:=he 1 rfl
 clear he
 refine Bo (Ah (It.eq_1 _) ?_)
 refine A3 ?_
 refine Y<|B9 (v:=(.A (Cu v1))) (j:=2) hI J J J J J J J fun g2=>Al .emp<|O<|A3 ?_
 refine Ad<|Cp Ec [[],[],[0,1],[],[3],[3,4],[3,4,5],[0,1,2,3,4,5,6],[0,1,2,3,4,5,6,7,7,7]] [(false,0),(false,3),(false,4),(false,5),(false,6),(true,1),(true,2),(true,7),(false,8)] (by kernel_rfl)<|Z .emp J J Ae<|Z (.ptr (ix ids 2) g2 0 3) J J (Bm (B3 0 3 3 D6 J Hh J))<|Z (.sl 4 (List.map rValueA v1.L)) J J (Af (An hI J J J Hh J))<|Z (.I (v1.L.length:Int)) J J (A7 (Bh Hh))<|Z (.int .u64 (IntKind.wrap .u64 (v1.L.length:Int))) J J (E0 (Gv Bb Me))<|Kl J J (fun _ _=>J) (fun K hK=>Lz (e:=(rI .u8)) (L:=[3]) (st:=1) (rows:=[[(.int .u8 3)]]) Dl Fe J J J J J (.cons (RowSim.refl _) .nil) (fun x=>Cb x) J J (hK _ _ (Ai J (E0 (Gv Bb Me)) (Ai J (A7 (Bh Hh)) (Ai J (Af (An hI J J J Hh J)) (Ai J (Bm (B3 0 3 3 D6 J Hh J)) (Ai J Ae Bc))))) ?_))
 clear hK K
 refine Fx fun hl=>Kl J J (fun _ _=>J) (fun K hK=>Pj (e:=(rI .u8)) (L:=([]:List Int)) (L2:=[3]) (v:=.emp) (g:=0) (st:=1) (j:=3) hI J J J .nil J (Ez J) Dl Dl J Fe J J J (by simpa using hl) fun v2 g3 vH=>hK _ _ (Ai J (E0 (Gv Bb Me)) (Ai J (A7 (Bh Hh)) (Ai J (Af (An hI J J J Hh J)) (Ai J (Bm (B3 0 3 3 D6 J Hh J)) (Bx J Bc))))) ?_)
 clear hK K
 refine G0 [3] hI J J (Py (IntKind.wrap .u64 (v1.L.length:Int)) [3] _ (ix ids 3) v2 g3 vH (by exact hI.sub' J J)) J J J J J J J (fun v _ _ _=>Fv (K:=2) (N:=3) func153 hI) ?_
 rintro b _ _ _ ⟨v3,g4,vH1,rfl,rfl⟩
 refine H2 [3] [At g 1 [[(.q ids 1 g1)]],At g1 4 [[.nilf,(.func (.func 149) [] []),(.func (.func 152) [] []),(.func (.func 153) [] [(.q ids 0 g)])]],At g2 4 [(Cu v1)],Bp v3 g4 1 (List.map (rI .u8) b),none] hI J J J J ⟨(Ej J (Bx J Bc)),?_⟩
 refine Hz<|Z v3 J J B2<|Bn<|A3 ?_
 refine Ad<|Y<|Aa 2 [2] [(17,(.sl 4 (List.map rValueA v1.L)))]<|Ac (.I (v1.L.length:Int)) J (A7 (Bh Hh))<|Av (.I 0)<|O<|Aw<|Ch [(At g 1 [[(.q ids 1 g1)]]),(At g1 4 [[.nilf,(.func (.func 149) [] []),(.func (.func 152) [] []),(.func (.func 153) [] [(.q ids 0 g)])]]),none,(Bp v3 g4 1 (List.map (rI .u8) b)),none] hI J (.keep (.keep (.drop (.keep (.keep .nil)))))<|Co [(0,v3),(2,(.q ids 0 g)),(17,(.sl 4 (List.map rValueA v1.L))),(18,(.I (v1.L.length:Int))),(19,(.I 0))] (FI J)<|Db (P:=Tryz.prog) v1.L (fun _ a=>fun b1=>Fs a b1) (((fun b1=>.ok b1)):(List Int)→R (List Int)) (fun j=>fun b1=>fun fr h => ∃ (v4:AV),∃ (g5:Nat),Cg v4 (ix ids 3) g5 b1.length∧fr=Ap [(0,v4),(2,(.q ids 0 g)),(17,(.sl 4 (List.map rValueA v1.L))),(18,(.I (v1.L.length:Int))),(19,(.I j))]∧h=hp h0 ids [(At g 1 [[(.q ids 1 g1)]]),(At g1 4 [[.nilf,(.func (.func 149) [] []),(.func (.func 152) [] []),(.func (.func 153) [] [(.q ids 0 g)])]]),none,(Bp v4 g5 1 (List.map (rI .u8) b1)),none]) b ?_ ?_ ?_
 ·exact⟨v3,g4,vH1,J,J⟩
 ·rintro j a ha W hW b1 fr h ⟨v4,g5,vH2,rfl,rfl⟩
  refine Ah (m':=Fs a b1) J (Ah (Fs.eq_1 _ _) ?_)
  refine Y<|Ac (.B (decide ((j:Int)<(v1.L.length:Int)))) J (Ak J J J)<|O<|Ad<|Dg (t:=17) (L:=v1.L) J fun hlim=>Ce J (Int.ofNat_lt.2 (A8 ha))<|Aq<|Ad<|Aw<|Y<|Ac (.cp (Cu a) 0) J (Ay (Agx Vv Hh D6 J ha))<|Ac (.A (Cu a)) J (Af (Cf D6 J))<|Cj (j:=4) hI J J J J D6 J fun g6=>A5 (Bu (v:=(.A (Cu a))) hI J J J J D6 J J J J J)<|O<|A3 ?_
  refine Cp Ec [[],[],[1],[0],[0,1,2,3],[0,1,2,3,4],[0,1,2,3,4,5],[],[],[0,1,2,3,4,5,6,7,8],[0,1,2,3,4,5,6,7,8,9,9,9]] [(false,0),(false,1),(false,2),(false,3),(false,4),(false,5),(false,6),(false,7),(false,8),(true,9),(false,10)] (by kernel_rfl)<|Z (.q ids 1 g1) J J (Af (An hI J J J Ali J))<|Z (.q ids 4 g6) J J (Bm (B3 0 0 0 D6 J Bb J))<|Z (.I a.Kind) J J (Af (An hI J J J Bb J))<|Z (.q ids 1 g1) J J (Ua J)<|Kh (fun hi=>?_) (fun _=>?_)
  ·refine Z (.q ids 1 g1) J J (Ay (Jx 0 Qg Hg hi J))<|Z (.q ids 1 g1) J J (Bm (B3 0 0 0 Hg J Ht J))<|Z .nilf J J (Af (An hI J J J Ht J))<|Z v4 J J Ae<|Z (.A (Cu a)) J J (Af (An hI J J J D6 J))<|Yb
  refine Kh (fun hi=>?_) (fun _=>?_)
  ·refine Z (.ptr (ix ids 1) g1 0 1) J J (Ay (Jx 1 Qg Hg hi J))<|Z (.ptr (ix ids 1) g1 0 1) J J (Bm (B3 1 0 0 Hg J Ht J))<|Z (.func (.func 149) [] []) J J (Af (An hI J J J Ht J))<|Z v4 J J Ae<|Z (.A (Cu a)) J J (Af (An hI J J J D6 J))<|G0 [3] hI J J (O1 a b1 _ (ix ids 3) v4 g5 vH2 (by exact hI.sub' J J)) J J J J J J J (fun v _ _ _=>Fv (K:=2) (N:=3) func153 hI) ?_
   rintro b2 _ _ _ ⟨v5,g7,vH3,rfl,rfl⟩
   refine H2 [3] [At g 1 [[(.q ids 1 g1)]],At g1 4 [[.nilf,(.func (.func 149) [] []),(.func (.func 152) [] []),(.func (.func 153) [] [(.q ids 0 g)])]],none,Bp v5 g7 1 (List.map (rI .u8) b2),At g6 4 [(Cu a)]] hI J J J J ⟨(Cn J (Bx J Bc)),?_⟩
   refine Hz<|Z v5 J J B2<|Bn<|A3 ?_
   refine A6<|As<|Aa 2 [] [(19,(.I (wi ((j:Int)+1))))]<|O<|Ch [(At g 1 [[(.q ids 1 g1)]]),(At g1 4 [[.nilf,(.func (.func 149) [] []),(.func (.func 152) [] []),(.func (.func 153) [] [(.q ids 0 g)])]]),none,(Bp v5 g7 1 (List.map (rI .u8) b2)),none] hI J (.keep (.keep (.keep (.keep (.drop .nil)))))<|Bg (Fy (hW b2 _ _ ⟨v5,g7,vH3,J,J⟩)) (.r4 (.o (ic ha hlim)))
  refine Kh (fun hi=>?_) (fun _=>?_)
  ·refine Z (.ptr (ix ids 1) g1 0 2) J J (Ay (Jx 2 Qg Hg hi J))<|Z (.ptr (ix ids 1) g1 0 2) J J (Bm (B3 2 0 0 Hg J Ht J))<|Z (.func (.func 152) [] []) J J (Af (An hI J J J Ht J))<|Z v4 J J Ae<|Z (.A (Cu a)) J J (Af (An hI J J J D6 J))<|G0 [3] hI J J (O0 a b1 _ (ix ids 3) v4 g5 vH2 (by exact hI.sub' J J)) J J J J J J J (fun v _ _ _=>Fv (K:=2) (N:=3) func153 hI) ?_
   rintro b3 _ _ _ ⟨v6,g8,vH4,rfl,rfl⟩
   refine H2 [3] [At g 1 [[(.q ids 1 g1)]],At g1 4 [[.nilf,(.func (.func 149) [] []),(.func (.func 152) [] []),(.func (.func 153) [] [(.q ids 0 g)])]],none,Bp v6 g8 1 (List.map (rI .u8) b3),At g6 4 [(Cu a)]] hI J J J J ⟨(Cn J (Bx J Bc)),?_⟩
   refine Hz<|Z v6 J J B2<|Bn<|A3 ?_
   refine A6<|As<|Aa 2 [] [(19,(.I (wi ((j:Int)+1))))]<|O<|Ch [(At g 1 [[(.q ids 1 g1)]]),(At g1 4 [[.nilf,(.func (.func 149) [] []),(.func (.func 152) [] []),(.func (.func 153) [] [(.q ids 0 g)])]]),none,(Bp v6 g8 1 (List.map (rI .u8) b3)),none] hI J (.keep (.keep (.keep (.keep (.drop .nil)))))<|Bg (Fy (hW b3 _ _ ⟨v6,g8,vH4,J,J⟩)) (.r4 (.o (ic ha hlim)))
  refine Kh (fun hi=>?_) (fun _=>?_)
  ·refine Z (.ptr (ix ids 1) g1 0 3) J J (Ay (Jx 3 Qg Hg hi J))<|Z (.ptr (ix ids 1) g1 0 3) J J (Bm (B3 3 0 0 Hg J Ht J))<|Z (.func (.func 153) [] [(.q ids 0 g)]) J J (Af (An hI J J J Ht J))<|Z v4 J J Ae<|Z (.A (Cu a)) J J (Af (An hI J J J D6 J))<|G0 [3,0,1] hI J J (Aaa a b1 _ (ix ids 3) (ix ids 0) (ix ids 1) v4 g5 g g1 vH2 (by exact hI.sub' J J)) J J J J J J J (fun v _ _ _=>Fv (K:=2) (N:=3) func153 hI) ?_
   rintro b4 _ _ _ ⟨v7,g9,vH5,rfl,rfl⟩
   refine H2 [3,0,1] [At g 1 [[(.q ids 1 g1)]],At g1 4 [[.nilf,(.func (.func 149) [] []),(.func (.func 152) [] []),(.func (.func 153) [] [(.q ids 0 g)])]],none,Bp v7 g9 1 (List.map (rI .u8) b4),At g6 4 [(Cu a)]] hI J J J J ⟨(Cn J (Bx J Bc)),?_⟩
   refine Hz<|Z v7 J J B2<|Bn<|A3 ?_
   refine A6<|As<|Aa 2 [] [(19,(.I (wi ((j:Int)+1))))]<|O<|Ch [(At g 1 [[(.q ids 1 g1)]]),(At g1 4 [[.nilf,(.func (.func 149) [] []),(.func (.func 152) [] []),(.func (.func 153) [] [(.q ids 0 g)])]]),none,(Bp v7 g9 1 (List.map (rI .u8) b4)),none] hI J (.keep (.keep (.keep (.keep (.drop .nil)))))<|Bg (Fy (hW b4 _ _ ⟨v7,g9,vH5,J,J⟩)) (.r4 (.o (ic ha hlim)))
  exact Yb
 rintro b1 fr h ⟨v4,g5,vH2,rfl,rfl⟩
 refine Y<|Ac (.B (decide ((v1.L.length:Int)<(v1.L.length:Int)))) J (Ak J J J)<|O<|Ad<|Cd J (Int.lt_irrefl _)<|Bs J<|Y<|Aa 2 [] [(5,v4)]<|O<|Hw (K:=2) (N:=3) [At g 1 [[(.q ids 1 g1)]],At g1 4 [[.nilf,(.func (.func 149) [] []),(.func (.func 152) [] []),(.func (.func 153) [] [(.q ids 0 g)])]]] func153 hI J J J (.keep (.keep (.keep (.drop (.keep .nil))))) (Jd vH2 (hI.at J J) (hI.at J J) (fun x=>Cb x)) ⟨J,J⟩
theorem Ah4 (v:Value):CP Tryz.prog 96 [(.agg (Cu v))] (Mm v) (fun(p:((List Int)×Int))=>AV.tup [(.sl 1 (List.map (rI .u8) p.1)),(.int .i64 p.2)]):=by
 refine Bk (n:=19) 4 func96 J (by decide) J J fun h0 ids hI=>Bo (Ah (Mm.eq_1 _) ?_)
 refine Y<|B9 (v:=(.A (Cu v))) (j:=0) hI J J J J J J J fun g=>Aa 2 [] []<|O<|A3 ?_
 refine Ad<|Y<|Aa 1 [0] [(5,(.A (Cu v)))]<|Bf _ J J J J ((Ajw v) _) (fun v _=>Az func96 hI) fun e _=>Al (.I e)<|O<|Y<|Aa 2 [] [(8,(.B (e != 0)))]<|O<|Bl J (fun hc=>?_) (fun hc=>?_)
 ·refine Y<|Aa 3 [] [(3,(.I e)),(2,.emp)]<|O<|A0 func96 hI J (.tupL (.cons (.emp _) .s1))
 refine Aq<|Ad<|Cp Ec [[],[],[1],[0],[0,1,2,3],[0,1,2,3,4],[0,1,2,3,4,5],[],[0,1,2,3,4,5,6,7],[0,1,2,3,4,5,6,7,8,8,8],[0,1,2,3,4,5,6,7,8,9,9]] [(false,1),(false,2),(false,7),(true,0),(false,3),(false,4),(false,5),(false,6),(true,8),(false,9),(false,10)] (by kernel_rfl)<|Z (.q ids 0 g) J J (Bm (B3 0 0 0 D6 J Bb J))<|Z (.I v.Kind) J J (Af (An hI J J J Bb J))<|Z (.A (Cu v)) J J (Af (An hI J J J D6 J))<|G0 [1,2] hI J J (Ac0 _ (ix ids 1) (ix ids 2) (by exact hI.sub' J J)) J J J J J J J (fun v _ _ _=>Az func96 hI) ?_
 rintro _ _ _ _ ⟨g1,g2,rfl,rfl⟩
 refine H2 [1,2] [At g 4 [(Cu v)],At g1 4 [[.nilf,(.func (.func 149) [] []),(.func (.func 152) [] []),(.func (.func 153) [] [(.q ids 2 g2)])]],At g2 1 [[(.q ids 1 g1)]],none] hI J J J J ⟨(Ai J (Af (An hI J J J D6 J)) (Ai J (Af (An hI J J J Bb J)) (Ai J (Bm (B3 0 0 0 D6 J Bb J)) Bc))),?_⟩
 refine Hz<|Z (.q ids 1 g1) J J (Ua J)<|Kh (fun hi=>?_) (fun _=>?_)
 ·refine Z (.q ids 1 g1) J J (Ay (Jx 0 Qg Hg hi J))<|Z (.q ids 1 g1) J J (Bm (B3 0 0 0 Hg J Ht J))<|Z .nilf J J (Af (An hI J J J Ht J))<|Yb
 refine Kh (fun hi=>?_) (fun _=>?_)
 ·refine Z (.ptr (ix ids 1) g1 0 1) J J (Ay (Jx 1 Qg Hg hi J))<|Z (.ptr (ix ids 1) g1 0 1) J J (Bm (B3 1 0 0 Hg J Ht J))<|Z (.func (.func 149) [] []) J J (Af (An hI J J J Ht J))<|G0 [3] hI J J (O1 v [] _ (ix ids 3) .emp 0 .nil (by exact hI.sub' J J)) J J J J J J J (fun v _ _ _=>Az func96 hI) ?_
  rintro b _ _ _ ⟨v1,g3,vH,rfl,rfl⟩
  refine H2 [3] [At g 4 [(Cu v)],At g1 4 [[.nilf,(.func (.func 149) [] []),(.func (.func 152) [] []),(.func (.func 153) [] [(.q ids 2 g2)])]],At g2 1 [[(.q ids 1 g1)]],Bp v1 g3 1 (List.map (rI .u8) b)] hI J J J J ⟨(Ej J (B6 J (Bx J Bc))),?_⟩
  refine Hz<|Z v1 J J B2<|Z (.I 0) J J B2<|Bn<|A3 ?_
  exact A0 func96 hI J (.tupL (.cons (Jd vH (hI.at J J) (hI.out J) (fun x=>Cb x)) .s1))
 refine Kh (fun hi=>?_) (fun _=>?_)
 ·refine Z (.ptr (ix ids 1) g1 0 2) J J (Ay (Jx 2 Qg Hg hi J))<|Z (.ptr (ix ids 1) g1 0 2) J J (Bm (B3 2 0 0 Hg J Ht J))<|Z (.func (.func 152) [] []) J J (Af (An hI J J J Ht J))<|G0 [3] hI J J (O0 v [] _ (ix ids 3) .emp 0 .nil (by exact hI.sub' J J)) J J J J J J J (fun v _ _ _=>Az func96 hI) ?_
  rintro b1 _ _ _ ⟨v2,g4,vH1,rfl,rfl⟩
  refine H2 [3] [At g 4 [(Cu v)],At g1 4 [[.nilf,(.func (.func 149) [] []),(.func (.func 152) [] []),(.func (.func 153) [] [(.q ids 2 g2)])]],At g2 1 [[(.q ids 1 g1)]],Bp v2 g4 1 (List.map (rI .u8) b1)] hI J J J J ⟨(Ej J (B6 J (Bx J Bc))),?_⟩
  refine Hz<|Z v2 J J B2<|Z (.I 0) J J B2<|Bn<|A3 ?_
  exact A0 func96 hI J (.tupL (.cons (Jd vH1 (hI.at J J) (hI.out J) (fun x=>Cb x)) .s1))
 refine Kh (fun hi=>?_) (fun _=>?_)
 ·refine Z (.ptr (ix ids 1) g1 0 3) J J (Ay (Jx 3 Qg Hg hi J))<|Z (.ptr (ix ids 1) g1 0 3) J J (Bm (B3 3 0 0 Hg J Ht J))<|Z (.func (.func 153) [] [(.q ids 2 g2)]) J J (Af (An hI J J J Ht J))<|G0 [2,1] hI J J (Abx v _ (ix ids 2) (ix ids 1) g2 g1 (by exact hI.sub' J J)) J J J J J J J (fun v _ _ _=>Az func96 hI) ?_
  rintro b2 _ _ _ ⟨rfl,rfl⟩
  refine H2 [2,1] [At g 4 [(Cu v)],At g1 4 [[.nilf,(.func (.func 149) [] []),(.func (.func 152) [] []),(.func (.func 153) [] [(.q ids 2 g2)])]],At g2 1 [[(.q ids 1 g1)]],none] hI J J J J ⟨(Ej J (B6 J (Bx J Bc))),?_⟩
  refine Hz<|Z (.sl 1 (List.map (rI .u8) b2)) J J B2<|Z (.I 0) J J B2<|Bn<|A3 ?_
  exact A0 func96 hI J (.tupL .s2)
 exact Yb
theorem Aj1 (b:List Int):CP Tryz.prog 155 [(.sl 1 (List.map (rI .u8) b))] (T6 b) (fun(x:Int)=>(AV.int .u32 x)):=by
 refine Bk (n:=19) 0 func155 J (by decide) J J fun h0 ids hI=>Bo (Ah (T6.eq_1 _) ?_)
 refine Y<|Al (.int .u32 0)<|O<|Ad<|Y<|Av (.sl 1 (List.map (rI .u8) b))<|Cs fun hs=>Ac (.sl 1 (List.map (rI .u8) (b.take (Int.toNat 4)))) J (C0 (S2 Dl Fe J hs))<|Ac (.I ((b.take (Int.toNat 4)).length:Int)) J (A7 (Bh Dl))<|Av (.I 0)<|O<|Aw<|Co [(2,(.int .u32 0)),(6,(.sl 1 (List.map (rI .u8) (b.take (Int.toNat 4))))),(7,(.I ((b.take (Int.toNat 4)).length:Int))),(8,(.I 0))] (FI J)<|Db (P:=Tryz.prog) (b.take (Int.toNat 4)) (fun _ a=>fun n=>To a n) (((fun n=>.ok n)):Int→R Int) (fun j=>fun n=>fun fr h=>fr=Ap [(2,(.int .u32 n)),(6,(.sl 1 (List.map (rI .u8) (b.take (Int.toNat 4))))),(7,(.I ((b.take (Int.toNat 4)).length:Int))),(8,(.I j))]∧h=hp h0 ids []) 0 ?_ ?_ ?_
 ·exact⟨J,J⟩
 ·rintro j a ha W hW n fr h ⟨rfl,rfl⟩
  refine Ah (m':=To a n) J (Ah (To.eq_1 _ _) ?_)
  refine Y<|Ac (.B (decide ((j:Int)<((b.take (Int.toNat 4)).length:Int)))) J (Ak J J J)<|O<|Ad<|Dg (t:=6) (L:=(b.take (Int.toNat 4))) J fun hlim=>Ce J (Int.ofNat_lt.2 (A8 ha))<|Aq<|Ad<|Aw<|Y<|Ac (.cp [(.int .u8 a)] 0) J (Ay (C7 Dl Fe J ha))<|Aa 2 [] [(4,(.int .u8 a))]<|O<|As<|Av (.int .u32 n)<|Ac (.int .u32 (Se .u32 n 8)) J (Ak J J (Acs (by decide)))<|Av (.int .u8 a)<|Ac (.int .u32 (wU a)) J (E0 (Gv Fe B0))<|Ac (.int .u32 (Ny .u32 (Se .u32 n 8) (wU a))) J (Ak J J Z0) ?_
  refine Al (.int .u32 (Ny .u32 (Se .u32 n 8) (wU a)))<|O<|A6<|As<|Aa 2 [] [(8,(.I (wi ((j:Int)+1))))]<|O<|Bg (Fy (hW (Ny .u32 (Se .u32 n 8) (wU a)) _ _ ⟨J,J⟩)) (.r2 (.r (.o (ic ha hlim))))
 rintro n fr h ⟨rfl,rfl⟩
 refine Y<|Ac (.B (decide (((b.take (Int.toNat 4)).length:Int)<((b.take (Int.toNat 4)).length:Int)))) J (Ak J J J)<|O<|Ad<|Cd J (Int.lt_irrefl _)<|Bs J<|Y<|Aa 2 [] [(2,(.int .u32 n))]<|O<|A0 func155 hI J (.same _)
theorem E6 (a:Int)(k:Int):CP Tryz.prog 156 [(.int .u32 a),(.int .i64 k)] (Dq a k) (fun(x:Int)=>(AV.int .u32 x)):=by
 refine Bk (n:=17) 0 func156 J (by decide) J J fun h0 ids hI=>Bo (Ah (Dq.eq_1 _ _) ?_)
 refine Y<|Al (.int .u32 0)<|O<|Y<|Av (.I k)<|Ac (.int .u64 (IntKind.wrap .u64 k)) J (E0 (Gv Bb Alb))<|Ac (.int .u64 (Ew .u64 (IntKind.wrap .u64 k) 31)) J (Ak J J U0)<|Al (.int .u64 (Ew .u64 (IntKind.wrap .u64 k) 31))<|O<|Y<|Aa 2 [] [(10,(.int .u64 (Ew .u64 (IntKind.wrap .u64 k) 31))),(9,(.int .u32 a))]<|Cs fun hz=>Ac (.int .u32 (Se .u32 a (Ew .u64 (IntKind.wrap .u64 k) 31))) J (Ak J J (Acs hz))<|Aa 3 [] [(14,(.int .u64 (IntKind.wrap .u64 (32 - (Ew .u64 (IntKind.wrap .u64 k) 31))))),(12,(.int .u32 a))]<|Cs fun hz1=>Ac (.int .u32 (Q2 .u32 a (IntKind.wrap .u64 (32 - (Ew .u64 (IntKind.wrap .u64 k) 31))))) J (Ak J J (Acj hz1))<|Ac (.int .u32 (Ny .u32 (Se .u32 a (Ew .u64 (IntKind.wrap .u64 k) 31)) (Q2 .u32 a (IntKind.wrap .u64 (32 - (Ew .u64 (IntKind.wrap .u64 k) 31)))))) J (Ak J J Z0)<|Ac (.int .u32 (Ny .u32 (Se .u32 a (Ew .u64 (IntKind.wrap .u64 k) 31)) (Q2 .u32 a (IntKind.wrap .u64 (32 - (Ew .u64 (IntKind.wrap .u64 k) 31)))))) J B2 ?_
 refine O<|A0 func156 hI J (.same _)
theorem Yu (v:Int)(a:Int)(b:Int)(c:Int):CP Tryz.prog 157 [(.int .u32 v),(.int .i64 a),(.int .i64 b),(.int .i64 c)] (N3 v a b c) (fun(x:Int)=>(AV.int .u32 x)):=by
 refine Bk (n:=23) 0 func157 J (by decide) J J fun h0 ids hI=>Bo (Ah (N3.eq_1 _ _ _ _) ?_)
 refine Y<|Al (.int .u32 0)<|O<|Y<|Aa 3 [] [(11,(.I (wi (0 - a)))),(9,(.int .u32 v))]<|Bf _ J J J J ((E6 v (wi (0 - a))) _) (fun v _=>Az func157 hI) fun r _=>Aa 3 [] [(15,(.I (wi (0 - b)))),(13,(.int .u32 v))]<|Bf _ J J J J ((E6 v (wi (0 - b))) _) (fun v _=>Az func157 hI) fun r1 _=>Ac (.int .u32 (Dn .u32 r r1)) J (Ak J J Lt)<|Aa 3 [] [(20,(.I (wi (0 - c)))),(18,(.int .u32 v))]<|Bf _ J J J J ((E6 v (wi (0 - c))) _) (fun v _=>Az func157 hI) fun r2 _=>Ac (.int .u32 (Dn .u32 (Dn .u32 r r1) r2)) J (Ak J J Lt)<|Al (.int .u32 (Dn .u32 (Dn .u32 r r1) r2))<|O<|A0 func157 hI J (.same _)
theorem P3 (b:List Int)(s:(Vector Int 8))(h0:Ab)(o0:Nat)(g:Nat)(hI0:Ids h0 [o0] 1):Ep b s≠.bad→Bz Tryz.prog 133 [(.ptr o0 g 0 0),(.sl 1 (List.map (rI .u8) b))] (hp h0 [o0] [some (.rows g 8 [((rV (rI .u32)) s)])]) (Ev (fun a_ v h'=>v=(.tup [])∧h'=hp h0 [o0] [some (.rows g 8 [((rV (rI .u32)) a_)])]) h0 (Ep b s)):=by
 refine Fb (n:=144) 2 func133 J (by decide) J J hI0 J fun ids he hI=>?_
 clear hI0
 obtain rfl:ix ids 0=o0:=he 0 rfl
 clear he
 refine Bo (Ah (Ep.eq_1 _ _) ?_)
 refine A3 ?_
 refine Y<|Gc (j:=1) (row:=((rV (rI .u32)) (B5 64 0))) hI J J J J Nq (J4 (n:=64) (e:=(rI .u32)) (E:=(fun x:Int=>(AV.int .u32 x))) (fun _=>J) _).symm ((Ds (fun x=>Cb x) J) _) fun g1=>O<|A3 ?_
 refine Ad<|Y<|Av (.I 0)<|O<|Aw<|Co [(0,(.q ids 0 g)),(1,(.sl 1 (List.map (rI .u8) b))),(4,(.q ids 1 g1)),(14,(.I 0))] (FI J)<|Db (P:=Tryz.prog) (List.range 16) (fun j _=>fun o=>H1 b j o) (((fun o=>(loop (Do fun x1 o1=>Ff x1 o1) (16,o)).bind (fun o2=>Gr s o2))):(Vector Int 64)→R (Vector Int 8)) (fun j=>fun o=>fun fr h=>fr=Ap [(0,(.q ids 0 g)),(1,(.sl 1 (List.map (rI .u8) b))),(4,(.q ids 1 g1)),(14,(.I j))]∧h=hp h0 ids [(At g 8 [((rV (rI .u32)) s)]),(At g1 64 [((rV (rI .u32)) o)]),none]) (B5 64 0) ?_ ?_ ?_
 ·exact⟨J,J⟩
 ·rintro j a ha W hW o fr h ⟨rfl,rfl⟩
  refine Ah (m':=H1 b j o) J (Ah (H1.eq_1 _ _ _) ?_)
  refine Y<|Ac (.B (decide ((j:Int)<16))) J (Ak J J J)<|O<|Ad<|Ce J (by have:=(Ct ha).1; omega)<|Aq<|Ad<|Aw<|Y<|Aa 2 [] [(5,(.I j))]<|O<|As<|Aa 4 [] [(20,(.I (wi (4 * (j:Int))))),(18,(.sl 1 (List.map (rI .u8) b))),(17,(.I j))]<|Cs fun hs=>Ac (.sl 1 (List.map (rI .u8) (b.drop (Int.toNat (wi (4 * (j:Int))))))) J (C0 (Qj Dl Fe J hs))<|Bf _ J J J J ((Aj1 (b.drop (Int.toNat (wi (4 * (j:Int)))))) _) (fun v _=>Fv (K:=1) (N:=2) func133 hI) fun r _=>Ac (.ptr (ix ids 1) g1 0 j) J (Ay (Dt Nq B0 J (Nat.lt_of_lt_of_le (Ct ha).1 (by decide))))<|A5 (X0 (e:=(rI .u32)) (E:=(fun x:Int=>(AV.int .u32 x))) (x:=r) (fun _=>J) hI J J J B0 J J (Nat.lt_of_lt_of_le (Ct ha).1 (by decide)) J J J)<|O ?_
  refine A3 ?_
  refine A6<|As<|Aa 2 [] [(14,(.I (wi ((j:Int)+1))))]<|O<|Bg (Fy (hW (Ns o j r) _ _ ⟨J,J⟩)) (.r2 (.r (.cons (Ic (Ct ha).1 (by decide)) .nil)))
 rintro o fr h ⟨rfl,rfl⟩
 refine Y<|Ac (.B (decide (((List.range 16).length:Int)<16))) J (Ak J J J)<|O<|Ad<|Cd J (by simp)<|Bs J<|Ad<|Y<|Al (.I 16)<|O<|Dz (fun o2=>Gr s o2) (fun o2=>fun fr h=>fr=Ap [(0,(.q ids 0 g)),(4,(.q ids 1 g1))]∧h=hp h0 ids [(At g 8 [((rV (rI .u32)) s)]),(At g1 64 [((rV (rI .u32)) o2)]),none]) ?_ fun hJ=>?_
 ·rintro o2 fr h ⟨rfl,rfl⟩
  refine Ah (Gr.eq_1 _ _)<|Y<|Aa 3 [0] [(68,(.A ((rV (rI .u32)) s)))]<|Gc (j:=2) (row:=((rV (rI .u32)) (B5 8 0))) hI J J J J F2 (J4 (n:=8) (e:=(rI .u32)) (E:=(fun x:Int=>(AV.int .u32 x))) (fun _=>J) _).symm ((Ds (fun x=>Cb x) J) _) fun g2=>A5 (Fg (v:=(.A ((rV (rI .u32)) s))) hI J J J F2 J J J (((Ds (fun x=>Cb x) J) _).1) J)<|O<|A3 ?_
  refine Ad<|Y<|Av (.I 0)<|O<|Aw<|Co [(0,(.q ids 0 g)),(4,(.q ids 1 g1)),(9,(.q ids 2 g2)),(69,(.I 0))] (FI J)<|Db (P:=Tryz.prog) (List.range 64) (fun j1 _=>fun o3=>Jl o2 j1 o3) (((fun o3=>(eachS (fun j2 _=>fun o4=>Jr o3 j2 o4) 0 (List.range 8) s).bind ((fun o4=>.ok o4)))):(Vector Int 8)→R (Vector Int 8)) (fun j1=>fun o3=>fun fr h=>fr=Ap [(0,(.q ids 0 g)),(4,(.q ids 1 g1)),(9,(.q ids 2 g2)),(69,(.I j1))]∧h=hp h0 ids [(At g 8 [((rV (rI .u32)) s)]),(At g1 64 [((rV (rI .u32)) o2)]),(At g2 8 [((rV (rI .u32)) o3)])]) s ?_ ?_ ?_
  ·exact⟨J,J⟩
  ·rintro j1 a1 ha1 W hW2 o3 fr h ⟨rfl,rfl⟩
   refine Ah (m':=Jl o2 j1 o3) J (Ah (Jl.eq_1 _ _ _) ?_)
   refine Y<|Ac (.B (decide ((j1:Int)<64))) J (Ak J J J)<|O<|Ad<|Ce J (by have:=(Ct ha1).1; omega)<|Aq<|Ad<|Aw<|Y<|Aa 2 [] [(10,(.I j1))]<|O<|Ad<|Cp Ec [[],[0],[],[2],[2,3],[0,1,2,3,4],[],[6],[],[8],[],[10],[],[12],[10,11,12,13],[8,9,10,11,12,13,14],[6,7,8,9,10,11,12,13,14,15],[0,1,2,3,4,5,6,7,8,9,10,11,12,13,14,15,16],[],[18],[18,19],[0,1,2,3,4,5,6,7,8,9,10,11,12,13,14,15,16,17,18,19,20],[],[22],[22,23],[0,1,2,3,4,5,6,7,8,9,10,11,12,13,14,15,16,17,18,19,20,21,22,23,24],[0,1,2,3,4,4,5,6,7,8,9,10,11,12,13,14,15,16,17,18,19,20,21,22,23,24,25,25]] [(false,0),(false,1),(false,2),(false,3),(false,6),(false,7),(false,8),(false,9),(false,10),(false,11),(false,12),(false,13),(false,14),(false,15),(false,16),(false,18),(false,19),(false,20),(false,22),(false,23),(false,24),(true,4),(false,5),(false,17),(false,21),(false,25),(false,26)] (by kernel_rfl)<|Z (.ptr (ix ids 2) g2 0 7) J J (Ay (Dt (i:=7) F2 B0 J (by decide)))<|Z (.int .u32 (Ba o3 7 0)) J J (Af (An hI J J J B0 (Gs (e:=(rI .u32)) (E:=(fun x:Int=>(AV.int .u32 x))) (fun _=>J) (by decide) 0)))<|Z (.ptr (ix ids 2) g2 0 4) J J (Ay (Dt (i:=4) F2 B0 J (by decide)))<|Z (.int .u32 (Ba o3 4 0)) J J (Af (An hI J J J B0 (Gs (e:=(rI .u32)) (E:=(fun x:Int=>(AV.int .u32 x))) (fun _=>J) (by decide) 0)))<|Z (.ptr (ix ids 2) g2 0 6) J J (Ay (Dt (i:=6) F2 B0 J (by decide)))<|Z (.int .u32 (Ba o3 6 0)) J J (Af (An hI J J J B0 (Gs (e:=(rI .u32)) (E:=(fun x:Int=>(AV.int .u32 x))) (fun _=>J) (by decide) 0))) ?_
   refine Z (.ptr (ix ids 2) g2 0 4) J J (Ay (Dt (i:=4) F2 B0 J (by decide)))<|Z (.int .u32 (Ba o3 4 0)) J J (Af (An hI J J J B0 (Gs (e:=(rI .u32)) (E:=(fun x:Int=>(AV.int .u32 x))) (fun _=>J) (by decide) 0)))<|Z (.ptr (ix ids 2) g2 0 5) J J (Ay (Dt (i:=5) F2 B0 J (by decide)))<|Z (.int .u32 (Ba o3 5 0)) J J (Af (An hI J J J B0 (Gs (e:=(rI .u32)) (E:=(fun x:Int=>(AV.int .u32 x))) (fun _=>J) (by decide) 0)))<|Z (.ptr (ix ids 2) g2 0 6) J J (Ay (Dt (i:=6) F2 B0 J (by decide)))<|Z (.int .u32 (Ba o3 6 0)) J J (Af (An hI J J J B0 (Gs (e:=(rI .u32)) (E:=(fun x:Int=>(AV.int .u32 x))) (fun _=>J) (by decide) 0)))<|Z (.int .u32 (Dn .u32 (Ba o3 5 0) (Ba o3 6 0))) J J (Ak J J Lt)<|Z (.int .u32 (Ew .u32 (Ba o3 4 0) (Dn .u32 (Ba o3 5 0) (Ba o3 6 0)))) J J (Ak J J U0)<|Z (.int .u32 (Dn .u32 (Ba o3 6 0) (Ew .u32 (Ba o3 4 0) (Dn .u32 (Ba o3 5 0) (Ba o3 6 0))))) J J (Ak J J Lt)<|Z (.I j1) J J Ae<|Z (.cp ((rV (rI .u32)) Sp) j1) J J (Ay (Al5 J Nq B0 J (Ct ha1).1))<|Z (.int .u32 (Ba Sp j1 0)) J J (Af (Cf B0 (Gs (e:=(rI .u32)) (E:=(fun x:Int=>(AV.int .u32 x))) (fun _=>J) (Ct ha1).1 0)))<|Z (.I j1) J J Ae<|Z (.ptr (ix ids 1) g1 0 j1) J J (Ay (Dt Nq B0 J (Ct ha1).1))<|Z (.int .u32 (Ba o2 j1 0)) J J (Af (An hI J J J B0 (Gs (e:=(rI .u32)) (E:=(fun x:Int=>(AV.int .u32 x))) (fun _=>J) (Ct ha1).1 0)))<|Cx _ J J J J J ((Yu (Ba o3 4 0) 6 11 25) _) (fun v _ _ _=>Fv (K:=1) (N:=2) func133 hI) (Ai J (Af (An hI J J J B0 (Gs (e:=(rI .u32)) (E:=(fun x:Int=>(AV.int .u32 x))) (fun _=>J) (Ct ha1).1 0))) (Ai J (Ay (Dt Nq B0 J (Ct ha1).1)) (Ai J Ae (Ai J (Af (Cf B0 (Gs (e:=(rI .u32)) (E:=(fun x:Int=>(AV.int .u32 x))) (fun _=>J) (Ct ha1).1 0))) (Ai J (Ay (Al5 J Nq B0 J (Ct ha1).1)) (Ai J Ae (Ai J (Ak J J Lt) (Ai J (Ak J J U0) (Ai J (Ak J J Lt) (Ai J (Af (An hI J J J B0 (Gs (e:=(rI .u32)) (E:=(fun x:Int=>(AV.int .u32 x))) (fun _=>J) (by decide) 0))) (Ai J (Ay (Dt (i:=6) F2 B0 J (by decide))) (Ai J (Af (An hI J J J B0 (Gs (e:=(rI .u32)) (E:=(fun x:Int=>(AV.int .u32 x))) (fun _=>J) (by decide) 0))) (Ai J (Ay (Dt (i:=5) F2 B0 J (by decide))) (Ai J (Af (An hI J J J B0 (Gs (e:=(rI .u32)) (E:=(fun x:Int=>(AV.int .u32 x))) (fun _=>J) (by decide) 0))) (Ai J (Ay (Dt (i:=4) F2 B0 J (by decide))) (Ai J (Af (An hI J J J B0 (Gs (e:=(rI .u32)) (E:=(fun x:Int=>(AV.int .u32 x))) (fun _=>J) (by decide) 0))) (Ai J (Ay (Dt (i:=6) F2 B0 J (by decide))) (B6 J (Ai J (Af (An hI J J J B0 (Gs (e:=(rI .u32)) (E:=(fun x:Int=>(AV.int .u32 x))) (fun _=>J) (by decide) 0))) (Ai J (Ay (Dt (i:=7) F2 B0 J (by decide))) Bc)))))))))))))))))))) fun r5 _=>Z (.int .u32 (wU ((Ba o3 7 0)+r5))) J J (Ak J J J)<|Z (.int .u32 (wU ((wU ((Ba o3 7 0)+r5))+(Dn .u32 (Ba o3 6 0) (Ew .u32 (Ba o3 4 0) (Dn .u32 (Ba o3 5 0) (Ba o3 6 0))))))) J J (Ak J J J)<|Z (.int .u32 (wU ((wU ((wU ((Ba o3 7 0)+r5))+(Dn .u32 (Ba o3 6 0) (Ew .u32 (Ba o3 4 0) (Dn .u32 (Ba o3 5 0) (Ba o3 6 0))))))+(Ba Sp j1 0)))) J J (Ak J J J)<|Z (.int .u32 (wU ((wU ((wU ((wU ((Ba o3 7 0)+r5))+(Dn .u32 (Ba o3 6 0) (Ew .u32 (Ba o3 4 0) (Dn .u32 (Ba o3 5 0) (Ba o3 6 0))))))+(Ba Sp j1 0)))+(Ba o2 j1 0)))) J J (Ak J J J)<|Z (.int .u32 (wU ((wU ((wU ((wU ((Ba o3 7 0)+r5))+(Dn .u32 (Ba o3 6 0) (Ew .u32 (Ba o3 4 0) (Dn .u32 (Ba o3 5 0) (Ba o3 6 0))))))+(Ba Sp j1 0)))+(Ba o2 j1 0)))) J J B2 ?_
   refine Bn<|Ad<|Cp Ec [[],[0],[0,1],[],[3],[],[5],[3,4,5,6],[],[8],[],[10],[],[12],[10,11,12,13],[8,9,10,11,12,13,14],[3,4,5,6,7,8,9,10,11,12,13,14,15],[0,1,2,3,4,5,6,7,8,9,10,11,12,13,14,15,16],[0,1,2,2,3,4,5,6,7,8,9,10,11,12,13,14,15,16,17,17]] [(false,0),(false,1),(false,3),(false,4),(false,5),(false,6),(false,7),(false,8),(false,9),(false,10),(false,11),(false,12),(false,13),(false,14),(false,15),(false,16),(true,2),(false,17),(false,18)] (by kernel_rfl)<|Z (.q ids 2 g2) J J (Ay (Dt (i:=0) F2 B0 J (by decide)))<|Z (.int .u32 (Ba o3 0 0)) J J (Af (An hI J J J B0 (Gs (e:=(rI .u32)) (E:=(fun x:Int=>(AV.int .u32 x))) (fun _=>J) (by decide) 0)))<|Z (.q ids 2 g2) J J (Ay (Dt (i:=0) F2 B0 J (by decide)))<|Z (.int .u32 (Ba o3 0 0)) J J (Af (An hI J J J B0 (Gs (e:=(rI .u32)) (E:=(fun x:Int=>(AV.int .u32 x))) (fun _=>J) (by decide) 0)))<|Z (.ptr (ix ids 2) g2 0 1) J J (Ay (Dt (i:=1) F2 B0 J (by decide)))<|Z (.int .u32 (Ba o3 1 0)) J J (Af (An hI J J J B0 (Gs (e:=(rI .u32)) (E:=(fun x:Int=>(AV.int .u32 x))) (fun _=>J) (by decide) 0)))<|Z (.int .u32 (Ew .u32 (Ba o3 0 0) (Ba o3 1 0))) J J (Ak J J U0)<|Z (.ptr (ix ids 2) g2 0 2) J J (Ay (Dt (i:=2) F2 B0 J (by decide)))<|Z (.int .u32 (Ba o3 2 0)) J J (Af (An hI J J J B0 (Gs (e:=(rI .u32)) (E:=(fun x:Int=>(AV.int .u32 x))) (fun _=>J) (by decide) 0)))<|Z (.q ids 2 g2) J J (Ay (Dt (i:=0) F2 B0 J (by decide)))<|Z (.int .u32 (Ba o3 0 0)) J J (Af (An hI J J J B0 (Gs (e:=(rI .u32)) (E:=(fun x:Int=>(AV.int .u32 x))) (fun _=>J) (by decide) 0)))<|Z (.ptr (ix ids 2) g2 0 1) J J (Ay (Dt (i:=1) F2 B0 J (by decide)))<|Z (.int .u32 (Ba o3 1 0)) J J (Af (An hI J J J B0 (Gs (e:=(rI .u32)) (E:=(fun x:Int=>(AV.int .u32 x))) (fun _=>J) (by decide) 0)))<|Z (.int .u32 (Ny .u32 (Ba o3 0 0) (Ba o3 1 0))) J J (Ak J J Z0)<|Z (.int .u32 (Ew .u32 (Ba o3 2 0) (Ny .u32 (Ba o3 0 0) (Ba o3 1 0)))) J J (Ak J J U0)<|Z (.int .u32 (Ny .u32 (Ew .u32 (Ba o3 0 0) (Ba o3 1 0)) (Ew .u32 (Ba o3 2 0) (Ny .u32 (Ba o3 0 0) (Ba o3 1 0))))) J J (Ak J J Z0)<|Cx _ J J J J J ((Yu (Ba o3 0 0) 2 13 22) _) (fun v _ _ _=>Fv (K:=1) (N:=2) func133 hI) (Ai J (Ak J J Z0) (Ai J (Ak J J U0) (Ai J (Ak J J Z0) (Ai J (Af (An hI J J J B0 (Gs (e:=(rI .u32)) (E:=(fun x:Int=>(AV.int .u32 x))) (fun _=>J) (by decide) 0))) (Ai J (Ay (Dt (i:=1) F2 B0 J (by decide))) (Ai J (Af (An hI J J J B0 (Gs (e:=(rI .u32)) (E:=(fun x:Int=>(AV.int .u32 x))) (fun _=>J) (by decide) 0))) (Ai J (Ay (Dt (i:=0) F2 B0 J (by decide))) (Ai J (Af (An hI J J J B0 (Gs (e:=(rI .u32)) (E:=(fun x:Int=>(AV.int .u32 x))) (fun _=>J) (by decide) 0))) (Ai J (Ay (Dt (i:=2) F2 B0 J (by decide))) (Ai J (Ak J J U0) (Ai J (Af (An hI J J J B0 (Gs (e:=(rI .u32)) (E:=(fun x:Int=>(AV.int .u32 x))) (fun _=>J) (by decide) 0))) (Ai J (Ay (Dt (i:=1) F2 B0 J (by decide))) (Ai J (Af (An hI J J J B0 (Gs (e:=(rI .u32)) (E:=(fun x:Int=>(AV.int .u32 x))) (fun _=>J) (by decide) 0))) (Ai J (Ay (Dt (i:=0) F2 B0 J (by decide))) (B6 J Bc))))))))))))))) fun r6 _=>Z (.int .u32 (wU (r6+(Ny .u32 (Ew .u32 (Ba o3 0 0) (Ba o3 1 0)) (Ew .u32 (Ba o3 2 0) (Ny .u32 (Ba o3 0 0) (Ba o3 1 0))))))) J J (Ak J J J) ?_
   refine Z (.int .u32 (wU (r6+(Ny .u32 (Ew .u32 (Ba o3 0 0) (Ba o3 1 0)) (Ew .u32 (Ba o3 2 0) (Ny .u32 (Ba o3 0 0) (Ba o3 1 0))))))) J J B2<|Bn<|Ad<|Cp Ec [[],[],[0,1]] [(false,0),(false,1),(true,2)] (by kernel_rfl)<|Z (.refc (ix ids 2) g2 0 1 7 7) J J (C0 (Ajq (a:=1) (b:=8) hI J J F2 B0 J J J)) ?_
   refine Z (.refc (ix ids 2) g2 0 0 7 8) J J (C0 (Ajq (a:=0) (b:=7) hI J J F2 B0 J J J)) ?_
   refine Fx fun hl=>Kl J J (fun _ _=>J) (fun K hK=>Akq (e:=(rI .u32)) (E1:=(fun x:Int=>(AV.int .u32 x))) (v:=o3) (L:=((o3.toList.drop 0).take 7)) (fun _=>J) hI J J J J (Aqo (E1:=(fun x:Int=>(AV.int .u32 x))) (v:=o3) (fun _=>J) J (hI.at J J) J) Aw9 B0 J J hl (hK _ _ (B6 J Bc) ?_))
   clear hK K
   refine Bn<|A3 ?_
   refine Y<|Ac (.ptr (ix ids 2) g2 0 4) J (Ay (Dt (i:=4) F2 B0 J (by decide)))<|Ac (.int .u32 (Ba (Sb o3 1 ((o3.toList.drop 0).take 7)) 4 0)) J (Af (An hI J J J B0 (Gs (e:=(rI .u32)) (E:=(fun x:Int=>(AV.int .u32 x))) (fun _=>J) (by decide) 0)))<|Aa 2 [] [(122,(.int .u32 (wU ((Ba (Sb o3 1 ((o3.toList.drop 0).take 7)) 4 0)+(wU ((wU ((wU ((wU ((Ba o3 7 0)+r5))+(Dn .u32 (Ba o3 6 0) (Ew .u32 (Ba o3 4 0) (Dn .u32 (Ba o3 5 0) (Ba o3 6 0))))))+(Ba Sp j1 0)))+(Ba o2 j1 0)))))))]<|Ac (.ptr (ix ids 2) g2 0 4) J (Ay (Dt (i:=4) F2 B0 J (by decide)))<|A5 (X0 (e:=(rI .u32)) (E:=(fun x:Int=>(AV.int .u32 x))) (x:=(wU ((Ba (Sb o3 1 ((o3.toList.drop 0).take 7)) 4 0)+(wU ((wU ((wU ((wU ((Ba o3 7 0)+r5))+(Dn .u32 (Ba o3 6 0) (Ew .u32 (Ba o3 4 0) (Dn .u32 (Ba o3 5 0) (Ba o3 6 0))))))+(Ba Sp j1 0)))+(Ba o2 j1 0)))))) (fun _=>J) hI J J J B0 J J (by decide) J J J)<|O<|A3 ?_
   refine As<|Aa 3 [] [(126,(.int .u32 (wU ((wU ((wU ((wU ((wU ((Ba o3 7 0)+r5))+(Dn .u32 (Ba o3 6 0) (Ew .u32 (Ba o3 4 0) (Dn .u32 (Ba o3 5 0) (Ba o3 6 0))))))+(Ba Sp j1 0)))+(Ba o2 j1 0)))+(wU (r6+(Ny .u32 (Ew .u32 (Ba o3 0 0) (Ba o3 1 0)) (Ew .u32 (Ba o3 2 0) (Ny .u32 (Ba o3 0 0) (Ba o3 1 0))))))))))]<|Ac (.q ids 2 g2) J (Ay (Dt (i:=0) F2 B0 J (by decide)))<|A5 (X0 (e:=(rI .u32)) (E:=(fun x:Int=>(AV.int .u32 x))) (x:=(wU ((wU ((wU ((wU ((wU ((Ba o3 7 0)+r5))+(Dn .u32 (Ba o3 6 0) (Ew .u32 (Ba o3 4 0) (Dn .u32 (Ba o3 5 0) (Ba o3 6 0))))))+(Ba Sp j1 0)))+(Ba o2 j1 0)))+(wU (r6+(Ny .u32 (Ew .u32 (Ba o3 0 0) (Ba o3 1 0)) (Ew .u32 (Ba o3 2 0) (Ny .u32 (Ba o3 0 0) (Ba o3 1 0))))))))) (fun _=>J) hI J J J B0 J J (by decide) J J J)<|O<|A3 ?_
   refine A6<|As<|Aa 2 [] [(69,(.I (wi ((j1:Int)+1))))]<|O<|Bg (Fy (hW2 (Ns (Ns (Sb o3 1 ((o3.toList.drop 0).take 7)) 4 (wU ((Ba (Sb o3 1 ((o3.toList.drop 0).take 7)) 4 0)+(wU ((wU ((wU ((wU ((Ba o3 7 0)+r5))+(Dn .u32 (Ba o3 6 0) (Ew .u32 (Ba o3 4 0) (Dn .u32 (Ba o3 5 0) (Ba o3 6 0))))))+(Ba Sp j1 0)))+(Ba o2 j1 0)))))) 0 (wU ((wU ((wU ((wU ((wU ((Ba o3 7 0)+r5))+(Dn .u32 (Ba o3 6 0) (Ew .u32 (Ba o3 4 0) (Dn .u32 (Ba o3 5 0) (Ba o3 6 0))))))+(Ba Sp j1 0)))+(Ba o2 j1 0)))+(wU (r6+(Ny .u32 (Ew .u32 (Ba o3 0 0) (Ba o3 1 0)) (Ew .u32 (Ba o3 2 0) (Ny .u32 (Ba o3 0 0) (Ba o3 1 0))))))))) _ _ ⟨J,J⟩)) (.r2 (.r (.cons (Ic (Ct ha1).1 (by decide)) .nil)))
  rintro o3 fr h ⟨rfl,rfl⟩
  refine Y<|Ac (.B (decide (((List.range 64).length:Int)<64))) J (Ak J J J)<|O<|Ad<|Cd J (by simp)<|Bs J<|Y<|Av (.I 0)<|O<|Aw<|Ch [(At g 8 [((rV (rI .u32)) s)]),none,(At g2 8 [((rV (rI .u32)) o3)])] hI J (.keep (.drop (.keep .nil)))<|Co [(0,(.q ids 0 g)),(9,(.q ids 2 g2)),(129,(.I 0))] (FI J)<|Db (P:=Tryz.prog) (List.range 8) (fun j2 _=>fun o4=>Jr o3 j2 o4) (((fun o4=>.ok o4)):(Vector Int 8)→R (Vector Int 8)) (fun j2=>fun o4=>fun fr h=>fr=Ap [(0,(.q ids 0 g)),(9,(.q ids 2 g2)),(129,(.I j2))]∧h=hp h0 ids [(At g 8 [((rV (rI .u32)) o4)]),none,(At g2 8 [((rV (rI .u32)) o3)])]) s ?_ ?_ ?_
  ·exact⟨J,J⟩
  ·rintro j2 a2 ha2 W hW3 o4 fr h ⟨rfl,rfl⟩
   refine Ah (m':=Jr o3 j2 o4) J (Ah (Jr.eq_1 _ _ _) ?_)
   refine Y<|Ac (.B (decide ((j2:Int)<8))) J (Ak J J J)<|O<|Ad<|Ce J (by have:=(Ct ha2).1; omega)<|Aq<|Ad<|Aw<|Y<|Aa 2 [] [(13,(.I j2))]<|O<|Cp Ec [[],[],[0],[0,1,2],[0,1,2,3],[],[5],[5,6],[0,1,2,3,4,5,6,7],[0],[0,1,1,2,3,4,5,6,7,8,9],[0,1,2,3,4,5,6,7,8,9,10]] [(false,0),(false,1),(false,2),(false,3),(false,4),(false,5),(false,6),(false,7),(false,8),(false,9),(false,10),(true,11)] (by kernel_rfl)<|Z (.q ids 0 g) J J Ae<|Z (.I j2) J J Ae<|Z (.q ids 0 g) J J (Ua J)<|Z (.ptr (ix ids 0) g 0 j2) J J (Ay (Dt F2 B0 J (Ct ha2).1))<|Z (.int .u32 (Ba o4 j2 0)) J J (Af (An hI J J J B0 (Gs (e:=(rI .u32)) (E:=(fun x:Int=>(AV.int .u32 x))) (fun _=>J) (Ct ha2).1 0)))<|Z (.I j2) J J Ae<|Z (.ptr (ix ids 2) g2 0 j2) J J (Ay (Dt F2 B0 J (Ct ha2).1)) ?_
   refine Z (.int .u32 (Ba o3 j2 0)) J J (Af (An hI J J J B0 (Gs (e:=(rI .u32)) (E:=(fun x:Int=>(AV.int .u32 x))) (fun _=>J) (Ct ha2).1 0)))<|Z (.int .u32 (wU ((Ba o4 j2 0)+(Ba o3 j2 0)))) J J (Ak J J J)<|Z (.q ids 0 g) J J (Ua J)<|Z (.ptr (ix ids 0) g 0 j2) J J (Ay (Dt F2 B0 J (Ct ha2).1))<|Ru J (fun _ _=>J) (fun K hK=>Kg (X0 (e:=(rI .u32)) (E:=(fun x:Int=>(AV.int .u32 x))) (x:=(wU ((Ba o4 j2 0)+(Ba o3 j2 0)))) (fun _=>J) hI J J J B0 J J (Ct ha2).1 J J J) (hK _ _ (Cn J (B6 J (Bx J Bc))) ?_))
   clear hK K
   refine Bn<|A3 ?_
   refine A6<|As<|Aa 2 [] [(129,(.I (wi ((j2:Int)+1))))]<|O<|Bg (Fy (hW3 (Ns o4 j2 (wU ((Ba o4 j2 0)+(Ba o3 j2 0)))) _ _ ⟨J,J⟩)) (.r2 (.cons (Ic (Ct ha2).1 (by decide)) .nil))
  rintro o4 fr h ⟨rfl,rfl⟩
  refine Y<|Ac (.B (decide (((List.range 8).length:Int)<8))) J (Ak J J J)<|O<|Ad<|Cd J (by simp)<|Bs J<|Afw (K:=1) (N:=2) (a:=o4) (vs:=[]) [At g 8 [((rV (rI .u32)) o4)]] func133 hI J J J (.keep (.keep (.drop .nil))) (.same _) ⟨J,J⟩
 refine Aw<|Co [(0,(.q ids 0 g)),(4,(.q ids 1 g1)),(6,(.I 16))] (FI J)<|Jf (P:=Tryz.prog) (Do fun x1 o1=>Ff x1 o1) ((fun o2=>Gr s o2):(Vector Int 64)→R (Vector Int 8)) (Do fun x1 o1=>fun fr h=>fr=Ap [(0,(.q ids 0 g)),(4,(.q ids 1 g1)),(6,(.I x1))]∧h=hp h0 ids [(At g 8 [((rV (rI .u32)) s)]),(At g1 64 [((rV (rI .u32)) o1)]),none]) (16,o) ?_ ?_
 ·exact⟨J,J⟩
 rintro vW1 hW1 ⟨x1,o1⟩ fr h ⟨rfl,rfl⟩
 refine Ah (m':=Ff x1 o1) J (Ah (Ff.eq_1 _ _) ?_)
 refine Ad<|Y<|Aa 2 [] [(26,(.B (decide (x1<64))))]<|O<|D4 J (fun hc=>?_) (fun hc=>?_)
 ·refine Aq<|Ad<|Aw<|Ad<|Cp Ec [[],[0],[0,1],[0,1,2],[],[4],[4,5],[4,5,6],[0,1,2,3,3],[0,1,2,3,4,5,6,7,7,8,8]] [(false,0),(false,1),(false,2),(false,3),(false,4),(false,5),(false,6),(false,7),(false,8),(false,9)] (by kernel_rfl)<|Z (.I x1) J J Ae<|Z (.I (wi (x1 - 15))) J J (Ak J J J)<|Fx fun hi=>Z (.ptr (ix ids 1) g1 0 (Int.toNat (wi (x1 - 15)))) J J (Ay (Jj Nq B0 J hi))<|Z (.int .u32 (Ba o1 (Int.toNat (wi (x1 - 15))) 0)) J J (Af (An hI J J J B0 (Gs (e:=(rI .u32)) (E:=(fun x:Int=>(AV.int .u32 x))) (fun _=>J) (J1 hi) 0)))<|Z (.I x1) J J Ae<|Z (.I (wi (x1 - 2))) J J (Ak J J J)<|Fx fun hi1=>Z (.ptr (ix ids 1) g1 0 (Int.toNat (wi (x1 - 2)))) J J (Ay (Jj Nq B0 J hi1))<|Z (.int .u32 (Ba o1 (Int.toNat (wi (x1 - 2))) 0)) J J (Af (An hI J J J B0 (Gs (e:=(rI .u32)) (E:=(fun x:Int=>(AV.int .u32 x))) (fun _=>J) (J1 hi1) 0)))<|Z (.int .u32 (Ba o1 (Int.toNat (wi (x1 - 15))) 0)) J J B2<|Z (.int .u32 (Ba o1 (Int.toNat (wi (x1 - 2))) 0)) J J B2<|Bn<|Cp Ec [[],[],[1],[1,2],[1,2,3],[],[5],[],[5,6,7],[5,6,7,8],[],[10],[5,6,7,8,9,10,11],[1,2,3,4,5,6,7,8,9,10,11,12],[],[14],[14,15],[14,15,16],[1,2,3,4,5,6,7,8,9,10,11,12,13,14,15,16,17],[],[5,6,7,8,19],[],[5,6,7,8,19,20,21],[5,6,7,8,19,20,21,22],[],[24],[5,6,7,8,19,20,21,22,23,24,25],[1,2,3,4,5,6,7,8,9,10,11,12,13,14,15,16,17,18,19,20,21,22,23,24,25,26],[0,0,1,2,3,4,5,6,7,8,9,10,11,12,13,14,15,16,17,18,19,20,21,22,23,24,25,26,27],[0,1,2,3,4,5,6,7,8,9,10,11,12,13,14,15,16,17,18,19,20,21,22,22,23,24,25,26,27,27,28]] [(false,0),(false,1),(false,2),(false,3),(false,4),(false,5),(false,7),(false,10),(false,11),(false,14),(false,15),(false,16),(false,17),(false,19),(false,21),(false,24),(false,25),(true,6),(true,8),(false,9),(false,12),(false,13),(false,18),(true,20),(true,22),(false,23),(false,26),(false,27),(false,28),(true,29)] (by kernel_rfl)<|Z (.I x1) J J Ae<|Z (.I x1) J J Ae ?_
  refine Z (.I (wi (x1 - 16))) J J (Ak J J J)<|Fx fun hi2=>Z (.ptr (ix ids 1) g1 0 (Int.toNat (wi (x1 - 16)))) J J (Ay (Jj Nq B0 J hi2))<|Z (.int .u32 (Ba o1 (Int.toNat (wi (x1 - 16))) 0)) J J (Af (An hI J J J B0 (Gs (e:=(rI .u32)) (E:=(fun x:Int=>(AV.int .u32 x))) (fun _=>J) (J1 hi2) 0)))<|Z (.int .u32 (Ba o1 (Int.toNat (wi (x1 - 15))) 0)) J J Ae<|Z (.int .u32 (Ba o1 (Int.toNat (wi (x1 - 15))) 0)) J J Ae<|Z (.int .u32 (Ba o1 (Int.toNat (wi (x1 - 15))) 0)) J J Ae<|Z (.int .u32 (Int.fdiv (Ba o1 (Int.toNat (wi (x1 - 15))) 0) 8)) J J (Ak J J (K4 (by decide) (by decide)))<|Z (.I x1) J J Ae<|Z (.I (wi (x1 - 7))) J J (Ak J J J)<|Fx fun hi3=>Z (.ptr (ix ids 1) g1 0 (Int.toNat (wi (x1 - 7)))) J J (Ay (Jj Nq B0 J hi3))<|Z (.int .u32 (Ba o1 (Int.toNat (wi (x1 - 7))) 0)) J J (Af (An hI J J J B0 (Gs (e:=(rI .u32)) (E:=(fun x:Int=>(AV.int .u32 x))) (fun _=>J) (J1 hi3) 0)))<|Z (.int .u32 (Ba o1 (Int.toNat (wi (x1 - 2))) 0)) J J Ae<|Z (.int .u32 (Ba o1 (Int.toNat (wi (x1 - 2))) 0)) J J Ae<|Z (.int .u32 (Ba o1 (Int.toNat (wi (x1 - 2))) 0)) J J Ae<|Z (.int .u32 (Int.fdiv (Ba o1 (Int.toNat (wi (x1 - 2))) 0) 1024)) J J (Ak J J (K4 (by decide) (by decide)))<|Cx _ J J J J J ((E6 (Ba o1 (Int.toNat (wi (x1 - 15))) 0) (-7)) _) (fun v _ _ _=>Fv (K:=1) (N:=2) func133 hI) (Ai J (Ak J J (K4 (by decide) (by decide))) (Ai J Ae (Ai J Ae (Ai J Ae (Ai J (Af (An hI J J J B0 (Gs (e:=(rI .u32)) (E:=(fun x:Int=>(AV.int .u32 x))) (fun _=>J) (J1 hi3) 0))) (Ai J (Ay (Jj Nq B0 J hi3)) (Ai J (Ak J J J) (Ai J Ae (Ai J (Ak J J (K4 (by decide) (by decide))) (Ai J Ae (Ai J Ae (Bx J (Ai J (Af (An hI J J J B0 (Gs (e:=(rI .u32)) (E:=(fun x:Int=>(AV.int .u32 x))) (fun _=>J) (J1 hi2) 0))) (Ai J (Ay (Jj Nq B0 J hi2)) (Ai J (Ak J J J) (Ai J Ae (Ai J Ae Bc))))))))))))))))) fun r1 _=>Cx _ J J J J J ((E6 (Ba o1 (Int.toNat (wi (x1 - 15))) 0) (-18)) _) (fun v _ _ _=>Fv (K:=1) (N:=2) func133 hI) (Ai J (Ak J J (K4 (by decide) (by decide))) (Ai J Ae (Ai J Ae (Ai J Ae (Ai J (Af (An hI J J J B0 (Gs (e:=(rI .u32)) (E:=(fun x:Int=>(AV.int .u32 x))) (fun _=>J) (J1 hi3) 0))) (Ai J (Ay (Jj Nq B0 J hi3)) (Ai J (Ak J J J) (Ai J Ae (Ai J (Ak J J (K4 (by decide) (by decide))) (Ai J Ae (B6 J (Ai J (Af (An hI J J J B0 (Gs (e:=(rI .u32)) (E:=(fun x:Int=>(AV.int .u32 x))) (fun _=>J) (J1 hi2) 0))) (Ai J (Ay (Jj Nq B0 J hi2)) (Ai J (Ak J J J) (Ai J Ae (Ai J Ae Bc)))))))))))))))) fun r2 _=>Z (.int .u32 (Dn .u32 r1 r2)) J J (Ak J J Lt)<|Z (.int .u32 (Dn .u32 (Dn .u32 r1 r2) (Int.fdiv (Ba o1 (Int.toNat (wi (x1 - 15))) 0) 8))) J J (Ak J J Lt) ?_
  refine Z (.int .u32 (wU ((Ba o1 (Int.toNat (wi (x1 - 16))) 0)+(Dn .u32 (Dn .u32 r1 r2) (Int.fdiv (Ba o1 (Int.toNat (wi (x1 - 15))) 0) 8))))) J J (Ak J J J)<|Z (.int .u32 (wU ((wU ((Ba o1 (Int.toNat (wi (x1 - 16))) 0)+(Dn .u32 (Dn .u32 r1 r2) (Int.fdiv (Ba o1 (Int.toNat (wi (x1 - 15))) 0) 8))))+(Ba o1 (Int.toNat (wi (x1 - 7))) 0)))) J J (Ak J J J)<|Cx _ J J J J J ((E6 (Ba o1 (Int.toNat (wi (x1 - 2))) 0) (-17)) _) (fun v _ _ _=>Fv (K:=1) (N:=2) func133 hI) (Ai J (Ak J J J) (Ai J (Ak J J J) (Ai J (Ak J J Lt) (Ai J (Ak J J Lt) (Ai J (Ak J J (K4 (by decide) (by decide))) (Ai J Ae (Ai J Ae (Bx J (Ai J (Af (An hI J J J B0 (Gs (e:=(rI .u32)) (E:=(fun x:Int=>(AV.int .u32 x))) (fun _=>J) (J1 hi3) 0))) (Ai J (Ay (Jj Nq B0 J hi3)) (Ai J (Ak J J J) (Ai J Ae (Ai J (Ak J J (K4 (by decide) (by decide))) (Ai J Ae (B6 J (Ai J (Af (An hI J J J B0 (Gs (e:=(rI .u32)) (E:=(fun x:Int=>(AV.int .u32 x))) (fun _=>J) (J1 hi2) 0))) (Ai J (Ay (Jj Nq B0 J hi2)) (Ai J (Ak J J J) (Ai J Ae (Ai J Ae Bc)))))))))))))))))))) fun r3 _=>Cx _ J J J J J ((E6 (Ba o1 (Int.toNat (wi (x1 - 2))) 0) (-19)) _) (fun v _ _ _=>Fv (K:=1) (N:=2) func133 hI) (Ai J (Ak J J J) (Ai J (Ak J J J) (Ai J (Ak J J Lt) (Ai J (Ak J J Lt) (Ai J (Ak J J (K4 (by decide) (by decide))) (Ai J Ae (B6 J (Ai J (Af (An hI J J J B0 (Gs (e:=(rI .u32)) (E:=(fun x:Int=>(AV.int .u32 x))) (fun _=>J) (J1 hi3) 0))) (Ai J (Ay (Jj Nq B0 J hi3)) (Ai J (Ak J J J) (Ai J Ae (Ai J (Ak J J (K4 (by decide) (by decide))) (Ai J Ae (B6 J (Ai J (Af (An hI J J J B0 (Gs (e:=(rI .u32)) (E:=(fun x:Int=>(AV.int .u32 x))) (fun _=>J) (J1 hi2) 0))) (Ai J (Ay (Jj Nq B0 J hi2)) (Ai J (Ak J J J) (Ai J Ae (Ai J Ae Bc))))))))))))))))))) fun r4 _=>Z (.int .u32 (Dn .u32 r3 r4)) J J (Ak J J Lt)<|Z (.int .u32 (Dn .u32 (Dn .u32 r3 r4) (Int.fdiv (Ba o1 (Int.toNat (wi (x1 - 2))) 0) 1024))) J J (Ak J J Lt)<|Z (.int .u32 (wU ((wU ((wU ((Ba o1 (Int.toNat (wi (x1 - 16))) 0)+(Dn .u32 (Dn .u32 r1 r2) (Int.fdiv (Ba o1 (Int.toNat (wi (x1 - 15))) 0) 8))))+(Ba o1 (Int.toNat (wi (x1 - 7))) 0)))+(Dn .u32 (Dn .u32 r3 r4) (Int.fdiv (Ba o1 (Int.toNat (wi (x1 - 2))) 0) 1024))))) J J (Ak J J J)<|Fx fun hi4=>Z (.ptr (ix ids 1) g1 0 (Int.toNat x1)) J J (Ay (Jj Nq B0 J hi4))<|Ru J (fun _ _=>J) (fun K hK=>Kg (X0 (e:=(rI .u32)) (E:=(fun x:Int=>(AV.int .u32 x))) (x:=(wU ((wU ((wU ((Ba o1 (Int.toNat (wi (x1 - 16))) 0)+(Dn .u32 (Dn .u32 r1 r2) (Int.fdiv (Ba o1 (Int.toNat (wi (x1 - 15))) 0) 8))))+(Ba o1 (Int.toNat (wi (x1 - 7))) 0)))+(Dn .u32 (Dn .u32 r3 r4) (Int.fdiv (Ba o1 (Int.toNat (wi (x1 - 2))) 0) 1024))))) (fun _=>J) hI J J J B0 J J (J1 hi4) J J J) (hK _ _ (Cn J (Cn J (Cn J (Bx J Bc)))) ?_))
  clear hK K
  refine Bn<|A3 ?_
  refine A6<|As<|Aa 3 [] [(6,(.I (wi (x1+1))))]<|O<|Bg (Hc (hW1 ((wi (x1+1)),(Ns o1 (Int.toNat x1) (wU ((wU ((wU ((Ba o1 (Int.toNat (wi (x1 - 16))) 0)+(Dn .u32 (Dn .u32 r1 r2) (Int.fdiv (Ba o1 (Int.toNat (wi (x1 - 15))) 0) 8))))+(Ba o1 (Int.toNat (wi (x1 - 7))) 0)))+(Dn .u32 (Dn .u32 r3 r4) (Int.fdiv (Ba o1 (Int.toNat (wi (x1 - 2))) 0) 1024)))))) _ _ ⟨J,J⟩))
 refine Bs J<|H5<|Bg (hJ o1 _ _ ⟨J,J⟩)
theorem Adp (c:Nat)(cp:Nat)(n:Int)(s:(Vector Int 128))(h0:Ab)(o0:Nat)(g:Nat)(vHc:c+8≤128)(hI0:Ids h0 [o0] 1):Nt c cp n s≠.bad→Bz Tryz.prog 134 [(.refc o0 g 0 c 8 cp),(.int .u64 n)] (hp h0 [o0] [some (.rows g 128 [((rV (rI .u8)) s)])]) (Ev (fun a_ v h'=>v=(.tup [])∧h'=hp h0 [o0] [some (.rows g 128 [((rV (rI .u8)) a_)])]) h0 (Nt c cp n s)):=by
 refine Fb (n:=23) 0 func134 J (by decide) J J hI0 J fun ids he hI=>?_
 clear hI0
 obtain rfl:ix ids 0=o0:=he 0 rfl
 clear he
 refine Bo (Ah (Nt.eq_1 _ _ _ _) ?_)
 refine Y<|Av (.refc (ix ids 0) g 0 c 8 cp)<|Ac (.I 8) J (A7 (W4 Dl))<|Av (.I 0)<|O<|Aw<|Co [(0,(.refc (ix ids 0) g 0 c 8 cp)),(1,(.int .u64 n)),(6,(.I 8)),(7,(.I 0))] (FI J)<|Db (P:=Tryz.prog) (List.range 8) (fun j _=>fun o=>R4 c n j o) (((fun o=>.ok o)):(Vector Int 128)→R (Vector Int 128)) (fun j=>fun o=>fun fr h=>fr=Ap [(0,(.refc (ix ids 0) g 0 c 8 cp)),(1,(.int .u64 n)),(6,(.I 8)),(7,(.I j))]∧h=hp h0 ids [(At g 128 [(rU o)])]) s ?_ ?_ ?_
 ·exact⟨J,J⟩
 ·rintro j a ha W hW o fr h ⟨rfl,rfl⟩
  refine Ah (m':=R4 c n j o) J (Ah (R4.eq_1 _ _ _ _) ?_)
  refine Y<|Ac (.B (decide ((j:Int)<8))) J (Ak J J J)<|O<|Ad<|Ce J (by have:=(Ct ha).1; omega)<|Aq<|Ad<|Aw<|Y<|Aa 2 [] [(4,(.I j))]<|O<|As<|Aa 2 [] [(11,(.refc (ix ids 0) g 0 c 8 cp)),(10,(.refc (ix ids 0) g 0 c 8 cp))]<|Ac (.I 8) J (A7 (W4 Dl))<|Aa 6 [] [(18,(.I (wi (8 * (j:Int))))),(16,(.int .u64 n)),(15,(.I (wi (7 - (j:Int)))))]<|Cs fun hz=>Ac (.int .u64 (Q2 .u64 n (wi (8 * (j:Int))))) J (Ak J J (Acj hz))<|Ac (.int .u8 (IntKind.wrap .u8 (Q2 .u64 n (wi (8 * (j:Int)))))) J (E0 (Gv Me Fe))<|Cs fun hi=>?_
  refine Ac (.ptr (ix ids 0) g 0 (c+Int.toNat (wi (7 - (j:Int))))) J (Ay (Amm Dl Fe J hi))<|A5 (X0 (e:=(rI .u8)) (E:=(fun x:Int=>(AV.int .u8 x))) (x:=(IntKind.wrap .u8 (Q2 .u64 n (wi (8 * (j:Int)))))) (fun _=>J) hI J J J Fe J J (Aua hi vHc) J J J)<|O<|A3 ?_
  refine A6<|As<|Aa 2 [] [(7,(.I (wi ((j:Int)+1))))]<|O<|Bg (Fy (hW (Ns o (c+Int.toNat (wi (7 - (j:Int)))) (IntKind.wrap .u8 (Q2 .u64 n (wi (8 * (j:Int)))))) _ _ ⟨J,J⟩)) (.r2 (.r (.cons (Ic (Ct ha).1 (by decide)) .nil)))
 rintro o fr h ⟨rfl,rfl⟩
 refine Y<|Ac (.B (decide (((List.range 8).length:Int)<8))) J (Ak J J J)<|O<|Ad<|Cd J (by simp)<|Bs J<|Afw (K:=1) (N:=0) (a:=o) (vs:=[]) [At g 128 [(rU o)]] func134 hI J J J (.keep .nil) (.same _) ⟨J,J⟩
theorem Aaj (c:Nat)(cp:Nat)(n:Int)(s:(Vector Int 32))(h0:Ab)(o0:Nat)(g:Nat)(vHc:c+4≤32)(hI0:Ids h0 [o0] 1):Oh c cp n s≠.bad→Bz Tryz.prog 134 [(.refc o0 g 0 c 4 cp),(.int .u64 n)] (hp h0 [o0] [some (.rows g 32 [((rV (rI .u8)) s)])]) (Ev (fun a_ v h'=>v=(.tup [])∧h'=hp h0 [o0] [some (.rows g 32 [((rV (rI .u8)) a_)])]) h0 (Oh c cp n s)):=by
 refine Fb (n:=23) 0 func134 J (by decide) J J hI0 J fun ids he hI=>?_
 clear hI0
 obtain rfl:ix ids 0=o0:=he 0 rfl
 clear he
 refine Bo (Ah (Oh.eq_1 _ _ _ _) ?_)
 refine Y<|Av (.refc (ix ids 0) g 0 c 4 cp)<|Ac (.I 4) J (A7 (W4 Dl))<|Av (.I 0)<|O<|Aw<|Co [(0,(.refc (ix ids 0) g 0 c 4 cp)),(1,(.int .u64 n)),(6,(.I 4)),(7,(.I 0))] (FI J)<|Db (P:=Tryz.prog) (List.range 4) (fun j _=>fun o=>Ph c n j o) (((fun o=>.ok o)):(Vector Int 32)→R (Vector Int 32)) (fun j=>fun o=>fun fr h=>fr=Ap [(0,(.refc (ix ids 0) g 0 c 4 cp)),(1,(.int .u64 n)),(6,(.I 4)),(7,(.I j))]∧h=hp h0 ids [(At g 32 [(rU o)])]) s ?_ ?_ ?_
 ·exact⟨J,J⟩
 ·rintro j a ha W hW o fr h ⟨rfl,rfl⟩
  refine Ah (m':=Ph c n j o) J (Ah (Ph.eq_1 _ _ _ _) ?_)
  refine Y<|Ac (.B (decide ((j:Int)<4))) J (Ak J J J)<|O<|Ad<|Ce J (by have:=(Ct ha).1; omega)<|Aq<|Ad<|Aw<|Y<|Aa 2 [] [(4,(.I j))]<|O<|As<|Aa 2 [] [(11,(.refc (ix ids 0) g 0 c 4 cp)),(10,(.refc (ix ids 0) g 0 c 4 cp))]<|Ac (.I 4) J (A7 (W4 Dl))<|Aa 6 [] [(18,(.I (wi (8 * (j:Int))))),(16,(.int .u64 n)),(15,(.I (wi (3 - (j:Int)))))]<|Cs fun hz=>Ac (.int .u64 (Q2 .u64 n (wi (8 * (j:Int))))) J (Ak J J (Acj hz))<|Ac (.int .u8 (IntKind.wrap .u8 (Q2 .u64 n (wi (8 * (j:Int)))))) J (E0 (Gv Me Fe))<|Cs fun hi=>?_
  refine Ac (.ptr (ix ids 0) g 0 (c+Int.toNat (wi (3 - (j:Int))))) J (Ay (Amm Dl Fe J hi))<|A5 (X0 (e:=(rI .u8)) (E:=(fun x:Int=>(AV.int .u8 x))) (x:=(IntKind.wrap .u8 (Q2 .u64 n (wi (8 * (j:Int)))))) (fun _=>J) hI J J J Fe J J (Aua hi vHc) J J J)<|O<|A3 ?_
  refine A6<|As<|Aa 2 [] [(7,(.I (wi ((j:Int)+1))))]<|O<|Bg (Fy (hW (Ns o (c+Int.toNat (wi (3 - (j:Int)))) (IntKind.wrap .u8 (Q2 .u64 n (wi (8 * (j:Int)))))) _ _ ⟨J,J⟩)) (.r2 (.r (.cons (Ic (Ct ha).1 (by decide)) .nil)))
 rintro o fr h ⟨rfl,rfl⟩
 refine Y<|Ac (.B (decide (((List.range 4).length:Int)<4))) J (Ak J J J)<|O<|Ad<|Cd J (by simp)<|Bs J<|Afw (K:=1) (N:=0) (a:=o) (vs:=[]) [At g 32 [(rU o)]] func134 hI J J J (.keep .nil) (.same _) ⟨J,J⟩
theorem Adq (b:List Int):CP Tryz.prog 112 [(.sl 1 (List.map (rI .u8) b))] (Dh b) (fun(x:(Vector Int 32))=>(AV.agg ((rV (rI .u8)) x))):=by
 refine Bk (n:=69) 3 func112 J (by decide) J J fun h0 ids hI=>Bo (Ah (Dh.eq_1 _) ?_)
 refine Y<|Gc (j:=0) (row:=(rU (B5 32 0))) hI J J J J Bv (J4 (n:=32) (e:=(rI .u8)) (E:=(fun x:Int=>(AV.int .u8 x))) (fun _=>J) _).symm ((Ds (fun x=>Cb x) J) _) fun g=>O<|A3 ?_
 refine Y<|Ac (.A ((rV (rI .u32)) Adg)) J (Af (Aw3 (b:=1) (c:=0) J Axl J))<|Gc (j:=1) (row:=((rV (rI .u32)) (B5 8 0))) hI J J J J F2 (J4 (n:=8) (e:=(rI .u32)) (E:=(fun x:Int=>(AV.int .u32 x))) (fun _=>J) _).symm ((Ds (fun x=>Cb x) J) _) fun g1=>A5 (Fg (v:=(.A ((rV (rI .u32)) Adg))) hI J J J F2 J J J (((Ds (fun x=>Cb x) J) _).1) J)<|O<|A3 ?_
 refine Y<|Aa 2 [] [(4,(.func (.func 133) [(.q ids 1 g1)] []))]<|O<|Y<|Aa 2 [] [(5,(.sl 1 (List.map (rI .u8) b)))]<|O<|Ad<|Dz (Do fun rest1 o1=>K5 b rest1 o1) (Do fun rest1 o1=>fun fr h=>fr=Ap [(0,(.sl 1 (List.map (rI .u8) b))),(2,(.q ids 0 g)),(3,(.q ids 1 g1)),(4,(.func (.func 133) [(.q ids 1 g1)] [])),(5,(.sl 1 (List.map (rI .u8) rest1)))]∧h=hp h0 ids [(At g 32 [(rU (B5 32 0))]),(At g1 8 [((rV (rI .u32)) o1)]),none]) ?_ fun hJ2=>?_
 ·rintro⟨rest1,o1⟩ fr h ⟨rfl,rfl⟩
  refine Ah (K5.eq_1 _ _ _)<|Y<|Atc (q:=128) (nn:=64) (e:=(rI .u8)) (E1:=(fun x:Int=>(AV.int .u8 x))) (y:=(0:Int)) (j:=2) (fun _=>J) hI J J J J Dl Fe J J J J J J J J fun g2=>Al (.refc (ix ids 2) g2 0 0 64 128)<|O<|A3 ?_
  refine Y<|Aa 2 [] [(23,(.sl 1 (List.map (rI .u8) rest1))),(22,(.refc (ix ids 2) g2 0 0 64 128))]<|Cs fun hl=>Atr (e:=(rI .u8)) (E1:=(fun x:Int=>(AV.int .u8 x))) (v:=(B5 128 (0:Int))) (L:=rest1) (fun _=>J) hI J J J J J (Ez J) Dl Fe J J hl<|O<|A3 ?_
  refine Y<|Aa 2 [] [(26,(.sl 1 (List.map (rI .u8) rest1))),(25,(.refc (ix ids 2) g2 0 0 64 128))]<|Ac (.I (rest1.length:Int)) J (A7 (Bh Dl))<|Cs fun hi=>Ac (.ptr (ix ids 2) g2 0 (Int.toNat (rest1.length:Int))) J (Ay (Asa Dl Fe J hi))<|A5 (X0 (e:=(rI .u8)) (E:=(fun x:Int=>(AV.int .u8 x))) (x:=128) (fun _=>J) hI J J J Fe J J (Nat.lt_of_lt_of_le (J1 hi) (by decide)) J J J)<|O<|A3 ?_
  refine Ad<|Y<|Av (.sl 1 (List.map (rI .u8) rest1))<|Ac (.I (rest1.length:Int)) J (A7 (Bh Dl))<|Ac (.B (decide ((rest1.length:Int) > 55))) J (Ak J J J)<|O<|D4 J (fun hc1=>?_) (fun hc1=>?_)
  ·refine As<|Av (.refc (ix ids 2) g2 0 0 64 128)<|Ac (.refc (ix ids 2) g2 0 0 128 128) J (C0 (Ajd (a:=0) (b:=128) Dl Fe J (Aj0 (by decide)) Ajk (by decide) (.inl J)))<|Al (.refc (ix ids 2) g2 0 0 128 128)<|O<|Y<|Aa 2 [] [(35,(.refc (ix ids 2) g2 0 0 128 128)),(34,(.refc (ix ids 2) g2 0 0 128 128))]<|Ac (.I 128) J (A7 (W4 Dl))<|Ac (.I 120) J (Ak J J J)<|Ac (.refc (ix ids 2) g2 0 120 8 8) J (C0 (Ajd (a:=120) (b:=128) Dl Fe J Ajk (Aj0 (by decide)) (by decide) (.inr (by decide))))<|Av (.sl 1 (List.map (rI .u8) b))<|Ac (.I (b.length:Int)) J (A7 (Bh Dl))<|Ac (.int .u64 (IntKind.wrap .u64 (b.length:Int))) J (E0 (Gv Bb Me))<|Ac (.int .u64 (IntKind.wrap .u64 ((IntKind.wrap .u64 (b.length:Int)) * 8))) J (Ak J J J)<|E9 [2] hI J J (Adp 120 8 (IntKind.wrap .u64 ((IntKind.wrap .u64 (b.length:Int)) * 8)) (Ns (Sb (B5 128 (0:Int)) 0 rest1) (Int.toNat (rest1.length:Int)) 128) _ (ix ids 2) g2 (by decide) (by exact hI.sub' J J)) J J J J J J (fun v _=>Az func112 hI) ?_
   rintro r1 _ _ _ ⟨rfl,rfl⟩
   refine Jv [2] hI J J J ?_
   refine Gb<|O<|A3 ?_
   refine Ad<|Dz (fun o3=>K6 o3) (fun o3=>fun fr h=>fr=Ap [(2,(.q ids 0 g)),(3,(.q ids 1 g1))]∧h=hp h0 ids [(At g 32 [(rU (B5 32 0))]),(At g1 8 [((rV (rI .u32)) o3)]),none]) ?_ fun hJ=>?_
   ·rintro o3 fr h ⟨rfl,rfl⟩
    refine Ah (K6.eq_1 _)<|Ad<|Y<|Aa 2 [1] [(54,(.I 0)),(53,(.A ((rV (rI .u32)) o3)))]<|O<|Aw<|Ch [(At g 32 [(rU (B5 32 0))]),none,none] hI J (.keep (.drop (.keep .nil)))<|Co [(2,(.q ids 0 g)),(53,(.A ((rV (rI .u32)) o3))),(54,(.I 0))] (FI J)<|Db (P:=Tryz.prog) (List.range 8) (fun j _=>fun o4=>R3 o3 j o4) (((fun o4=>.ok o4)):(Vector Int 32)→R (Vector Int 32)) (fun j=>fun o4=>fun fr h=>fr=Ap [(2,(.q ids 0 g)),(53,(.A ((rV (rI .u32)) o3))),(54,(.I j))]∧h=hp h0 ids [(At g 32 [(rU o4)]),none,none]) (B5 32 0) ?_ ?_ ?_
    ·exact⟨J,J⟩
    ·rintro j a ha W hW2 o4 fr h ⟨rfl,rfl⟩
     refine Ah (m':=R3 o3 j o4) J (Ah (R3.eq_1 _ _ _) ?_)
     refine Y<|Ac (.B (decide ((j:Int)<8))) J (Ak J J J)<|O<|Ad<|Ce J (by have:=(Ct ha).1; omega)<|Aq<|Ad<|Aw<|Y<|Av (.I j)<|Ac (.int .u32 (Ba o3 j 0)) J (Ald (Aoo (e:=(rI .u32)) (E:=(fun x:Int=>(AV.int .u32 x))) (fun _=>J) F2 B0 J J ((Ct ha).1) 0))<|Aa 2 [] [(8,(.int .u32 (Ba o3 j 0))),(7,(.I j))]<|O<|As<|Aa 5 [] [(62,(.I (wi ((wi (4 * (j:Int)))+4)))),(59,(.I (wi (4 * (j:Int)))))]<|Cs fun hi1=>Ac (.refc (ix ids 0) g 0 (Int.toNat (wi (4 * (j:Int)))) 4 (32 - (Int.toNat (wi (4 * (j:Int)))))) J (C0 (Ao5 (k:=4) hI J J Bv Fe J hi1.1 hi1.2)) ?_
     refine Av (.int .u32 (Ba o3 j 0))<|Ac (.int .u64 (IntKind.wrap .u64 (Ba o3 j 0))) J (E0 (Gv B0 Me))<|E9 [0] hI J J (Aaj (Int.toNat (wi (4 * (j:Int)))) (32 - (Int.toNat (wi (4 * (j:Int))))) (IntKind.wrap .u64 (Ba o3 j 0)) o4 _ (ix ids 0) g (Art hi1.2) (by exact hI.sub' J J)) J J J J J J (fun v _=>Az func112 hI) ?_
     rintro r3 _ _ _ ⟨rfl,rfl⟩
     refine Jv [0] hI J J J ?_
     refine Gb<|O<|A3 ?_
     refine A6<|As<|Aa 2 [] [(54,(.I (wi ((j:Int)+1))))]<|O<|Bg (Fy (hW2 r3 _ _ ⟨J,J⟩)) (.r2 (.cons (Ic (Ct ha).1 (by decide)) .nil))
    rintro o4 fr h ⟨rfl,rfl⟩
    refine Y<|Ac (.B (decide (((List.range 8).length:Int)<8))) J (Ak J J J)<|O<|Ad<|Cd J (by simp)<|Bs J<|Y<|Aa 1 [0] [(68,(.A (rU o4)))]<|A5 (Fg (v:=(.A (rU o4))) hI J J J Bv J J J (((Ds (fun x=>Cb x) J) _).1) J)<|O<|A0 func112 hI (Cc (An hI J J J Bv J) Cm) (.same _)
   refine Aw<|Yy [(At g 32 [(rU (B5 32 0))]),(At g1 8 [((rV (rI .u32)) o1)]),none] [(2,(.q ids 0 g)),(3,(.q ids 1 g1)),(4,(.func (.func 133) [(.q ids 1 g1)] [])),(6,(.sl 1 (List.map (rI .u8) (r1.toList.take 128))))] hI J (.keep (.keep (.drop .nil))) (.s (.s (.s (.cons (Aof (E:=(fun x:Int=>(AV.int .u8 x))) (fun _=>J) (fun _=>J) (hI.at J J) (hI.at J J) (by decide)) .nil))))<|Co [(2,(.q ids 0 g)),(3,(.q ids 1 g1)),(4,(.func (.func 133) [(.q ids 1 g1)] [])),(6,(.sl 1 (List.map (rI .u8) (r1.toList.take 128))))] (FI J)<|Jf (P:=Tryz.prog) (Do fun vend o2=>Iy vend o2) ((fun o3=>K6 o3):(Vector Int 8)→R (Vector Int 32)) (Do fun vend o2=>fun fr h=>fr=Ap [(2,(.q ids 0 g)),(3,(.q ids 1 g1)),(4,(.func (.func 133) [(.q ids 1 g1)] [])),(6,(.sl 1 (List.map (rI .u8) vend)))]∧h=hp h0 ids [(At g 32 [(rU (B5 32 0))]),(At g1 8 [((rV (rI .u32)) o2)]),none]) ((r1.toList.take 128),o1) ?_ ?_
   ·exact⟨J,J⟩
   rintro vW1 hW1 ⟨vend,o2⟩ fr h ⟨rfl,rfl⟩
   refine Ah (m':=Iy vend o2) J (Ah (Iy.eq_1 _ _) ?_)
   refine Ad<|Y<|Av (.sl 1 (List.map (rI .u8) vend))<|Ac (.I (vend.length:Int)) J (A7 (Bh Dl))<|Ac (.B (decide ((vend.length:Int) > 0))) J (Ak J J J)<|O<|D4 J (fun hc2=>?_) (fun hc2=>?_)
   ·refine Aq<|Ad<|Aw<|As<|Aa 2 [] [(50,(.sl 1 (List.map (rI .u8) vend))),(49,(.func (.func 133) [(.q ids 1 g1)] []))]<|Cs fun hs2=>Ac (.sl 1 (List.map (rI .u8) (vend.take (Int.toNat 64)))) J (C0 (S2 Dl Fe J hs2))<|E9 [1] hI J J (P3 (vend.take (Int.toNat 64)) o2 _ (ix ids 1) g1 (by exact hI.sub' J J)) J J J J J J (fun v _=>Az func112 hI) ?_
    rintro r2 _ _ _ ⟨rfl,rfl⟩
    refine Jv [1] hI J J J ?_
    refine Gb<|O<|A3 ?_
    refine A6<|As<|Av (.sl 1 (List.map (rI .u8) vend))<|Cs fun hs3=>Ac (.sl 1 (List.map (rI .u8) (vend.drop (Int.toNat 64)))) J (C0 (Qj Dl Fe J hs3))<|Al (.sl 1 (List.map (rI .u8) (vend.drop (Int.toNat 64))))<|O<|Bg (Hc (hW1 ((vend.drop (Int.toNat 64)),r2) _ _ ⟨J,J⟩))
   refine Bs J<|H5<|Bg (hJ o2 _ _ ⟨J,J⟩)
  refine Aq<|Y<|Aa 2 [] [(35,(.refc (ix ids 2) g2 0 0 64 128)),(34,(.refc (ix ids 2) g2 0 0 64 128))]<|Ac (.I 64) J (A7 (W4 Dl))<|Ac (.I 56) J (Ak J J J)<|Ac (.refc (ix ids 2) g2 0 56 8 72) J (C0 (Ajd (a:=56) (b:=64) Dl Fe J Ajk (Aj0 (by decide)) (by decide) (.inr (by decide))))<|Av (.sl 1 (List.map (rI .u8) b))<|Ac (.I (b.length:Int)) J (A7 (Bh Dl))<|Ac (.int .u64 (IntKind.wrap .u64 (b.length:Int))) J (E0 (Gv Bb Me))<|Ac (.int .u64 (IntKind.wrap .u64 ((IntKind.wrap .u64 (b.length:Int)) * 8))) J (Ak J J J)<|E9 [2] hI J J (Adp 56 72 (IntKind.wrap .u64 ((IntKind.wrap .u64 (b.length:Int)) * 8)) (Ns (Sb (B5 128 (0:Int)) 0 rest1) (Int.toNat (rest1.length:Int)) 128) _ (ix ids 2) g2 (by decide) (by exact hI.sub' J J)) J J J J J J (fun v _=>Az func112 hI) ?_
  rintro r4 _ _ _ ⟨rfl,rfl⟩
  refine Jv [2] hI J J J ?_
  refine Gb<|O<|A3 ?_
  refine Ad<|Dz (fun o6=>O9 o6) (fun o6=>fun fr h=>fr=Ap [(2,(.q ids 0 g)),(3,(.q ids 1 g1))]∧h=hp h0 ids [(At g 32 [(rU (B5 32 0))]),(At g1 8 [((rV (rI .u32)) o6)]),none]) ?_ fun hJ1=>?_
  ·rintro o6 fr h ⟨rfl,rfl⟩
   refine Ah (O9.eq_1 _)<|Ad<|Y<|Aa 2 [1] [(54,(.I 0)),(53,(.A ((rV (rI .u32)) o6)))]<|O<|Aw<|Ch [(At g 32 [(rU (B5 32 0))]),none,none] hI J (.keep (.drop (.keep .nil)))<|Co [(2,(.q ids 0 g)),(53,(.A ((rV (rI .u32)) o6))),(54,(.I 0))] (FI J)<|Db (P:=Tryz.prog) (List.range 8) (fun j1 _=>fun o7=>Uh o6 j1 o7) (((fun o7=>.ok o7)):(Vector Int 32)→R (Vector Int 32)) (fun j1=>fun o7=>fun fr h=>fr=Ap [(2,(.q ids 0 g)),(53,(.A ((rV (rI .u32)) o6))),(54,(.I j1))]∧h=hp h0 ids [(At g 32 [(rU o7)]),none,none]) (B5 32 0) ?_ ?_ ?_
   ·exact⟨J,J⟩
   ·rintro j1 a1 ha1 W hW4 o7 fr h ⟨rfl,rfl⟩
    refine Ah (m':=Uh o6 j1 o7) J (Ah (Uh.eq_1 _ _ _) ?_)
    refine Y<|Ac (.B (decide ((j1:Int)<8))) J (Ak J J J)<|O<|Ad<|Ce J (by have:=(Ct ha1).1; omega)<|Aq<|Ad<|Aw<|Y<|Av (.I j1)<|Ac (.int .u32 (Ba o6 j1 0)) J (Ald (Aoo (e:=(rI .u32)) (E:=(fun x:Int=>(AV.int .u32 x))) (fun _=>J) F2 B0 J J ((Ct ha1).1) 0))<|Aa 2 [] [(8,(.int .u32 (Ba o6 j1 0))),(7,(.I j1))]<|O<|As<|Aa 5 [] [(62,(.I (wi ((wi (4 * (j1:Int)))+4)))),(59,(.I (wi (4 * (j1:Int)))))]<|Cs fun hi2=>Ac (.refc (ix ids 0) g 0 (Int.toNat (wi (4 * (j1:Int)))) 4 (32 - (Int.toNat (wi (4 * (j1:Int)))))) J (C0 (Ao5 (k:=4) hI J J Bv Fe J hi2.1 hi2.2)) ?_
    refine Av (.int .u32 (Ba o6 j1 0))<|Ac (.int .u64 (IntKind.wrap .u64 (Ba o6 j1 0))) J (E0 (Gv B0 Me))<|E9 [0] hI J J (Aaj (Int.toNat (wi (4 * (j1:Int)))) (32 - (Int.toNat (wi (4 * (j1:Int))))) (IntKind.wrap .u64 (Ba o6 j1 0)) o7 _ (ix ids 0) g (Art hi2.2) (by exact hI.sub' J J)) J J J J J J (fun v _=>Az func112 hI) ?_
    rintro r6 _ _ _ ⟨rfl,rfl⟩
    refine Jv [0] hI J J J ?_
    refine Gb<|O<|A3 ?_
    refine A6<|As<|Aa 2 [] [(54,(.I (wi ((j1:Int)+1))))]<|O<|Bg (Fy (hW4 r6 _ _ ⟨J,J⟩)) (.r2 (.cons (Ic (Ct ha1).1 (by decide)) .nil))
   rintro o7 fr h ⟨rfl,rfl⟩
   refine Y<|Ac (.B (decide (((List.range 8).length:Int)<8))) J (Ak J J J)<|O<|Ad<|Cd J (by simp)<|Bs J<|Y<|Aa 1 [0] [(68,(.A (rU o7)))]<|A5 (Fg (v:=(.A (rU o7))) hI J J J Bv J J J (((Ds (fun x=>Cb x) J) _).1) J)<|O<|A0 func112 hI (Cc (An hI J J J Bv J) Cm) (.same _)
  refine Aw<|Yy [(At g 32 [(rU (B5 32 0))]),(At g1 8 [((rV (rI .u32)) o1)]),none] [(2,(.q ids 0 g)),(3,(.q ids 1 g1)),(4,(.func (.func 133) [(.q ids 1 g1)] [])),(6,(.sl 1 (List.map (rI .u8) (r4.toList.take 64))))] hI J (.keep (.keep (.drop .nil))) (.s (.s (.s (.cons (Aof (E:=(fun x:Int=>(AV.int .u8 x))) (fun _=>J) (fun _=>J) (hI.at J J) (hI.at J J) (by decide)) .nil))))<|Co [(2,(.q ids 0 g)),(3,(.q ids 1 g1)),(4,(.func (.func 133) [(.q ids 1 g1)] [])),(6,(.sl 1 (List.map (rI .u8) (r4.toList.take 64))))] (FI J)<|Jf (P:=Tryz.prog) (Do fun vend1 o5=>Nd vend1 o5) ((fun o6=>O9 o6):(Vector Int 8)→R (Vector Int 32)) (Do fun vend1 o5=>fun fr h=>fr=Ap [(2,(.q ids 0 g)),(3,(.q ids 1 g1)),(4,(.func (.func 133) [(.q ids 1 g1)] [])),(6,(.sl 1 (List.map (rI .u8) vend1)))]∧h=hp h0 ids [(At g 32 [(rU (B5 32 0))]),(At g1 8 [((rV (rI .u32)) o5)]),none]) ((r4.toList.take 64),o1) ?_ ?_
  ·exact⟨J,J⟩
  rintro vW3 hW3 ⟨vend1,o5⟩ fr h ⟨rfl,rfl⟩
  refine Ah (m':=Nd vend1 o5) J (Ah (Nd.eq_1 _ _) ?_)
  refine Ad<|Y<|Av (.sl 1 (List.map (rI .u8) vend1))<|Ac (.I (vend1.length:Int)) J (A7 (Bh Dl))<|Ac (.B (decide ((vend1.length:Int) > 0))) J (Ak J J J)<|O<|D4 J (fun hc3=>?_) (fun hc3=>?_)
  ·refine Aq<|Ad<|Aw<|As<|Aa 2 [] [(50,(.sl 1 (List.map (rI .u8) vend1))),(49,(.func (.func 133) [(.q ids 1 g1)] []))]<|Cs fun hs4=>Ac (.sl 1 (List.map (rI .u8) (vend1.take (Int.toNat 64)))) J (C0 (S2 Dl Fe J hs4))<|E9 [1] hI J J (P3 (vend1.take (Int.toNat 64)) o5 _ (ix ids 1) g1 (by exact hI.sub' J J)) J J J J J J (fun v _=>Az func112 hI) ?_
   rintro r5 _ _ _ ⟨rfl,rfl⟩
   refine Jv [1] hI J J J ?_
   refine Gb<|O<|A3 ?_
   refine A6<|As<|Av (.sl 1 (List.map (rI .u8) vend1))<|Cs fun hs5=>Ac (.sl 1 (List.map (rI .u8) (vend1.drop (Int.toNat 64)))) J (C0 (Qj Dl Fe J hs5))<|Al (.sl 1 (List.map (rI .u8) (vend1.drop (Int.toNat 64))))<|O<|Bg (Hc (hW3 ((vend1.drop (Int.toNat 64)),r5) _ _ ⟨J,J⟩))
  refine Bs J<|H5<|Bg (hJ1 o5 _ _ ⟨J,J⟩)
 refine Aw<|Co [(0,(.sl 1 (List.map (rI .u8) b))),(2,(.q ids 0 g)),(3,(.q ids 1 g1)),(4,(.func (.func 133) [(.q ids 1 g1)] [])),(5,(.sl 1 (List.map (rI .u8) b)))] (FI J)<|Jf (P:=Tryz.prog) (Do fun rest o=>La rest o) ((Do fun rest1 o1=>K5 b rest1 o1):((List Int)×(Vector Int 8))→R (Vector Int 32)) (Do fun rest o=>fun fr h=>fr=Ap [(0,(.sl 1 (List.map (rI .u8) b))),(2,(.q ids 0 g)),(3,(.q ids 1 g1)),(4,(.func (.func 133) [(.q ids 1 g1)] [])),(5,(.sl 1 (List.map (rI .u8) rest)))]∧h=hp h0 ids [(At g 32 [(rU (B5 32 0))]),(At g1 8 [((rV (rI .u32)) o)]),none]) (b,Adg) ?_ ?_
 ·exact⟨J,J⟩
 rintro vW hW ⟨rest,o⟩ fr h ⟨rfl,rfl⟩
 refine Ah (m':=La rest o) J (Ah (La.eq_1 _ _) ?_)
 refine Ad<|Y<|Av (.sl 1 (List.map (rI .u8) rest))<|Ac (.I (rest.length:Int)) J (A7 (Bh Dl))<|Ac (.B (decide ((rest.length:Int)≥64))) J (Ak J J J)<|O<|D4 J (fun hc=>?_) (fun hc=>?_)
 ·refine Aq<|Ad<|Aw<|As<|Aa 2 [] [(18,(.sl 1 (List.map (rI .u8) rest))),(17,(.func (.func 133) [(.q ids 1 g1)] []))]<|Cs fun hs=>Ac (.sl 1 (List.map (rI .u8) (rest.take (Int.toNat 64)))) J (C0 (S2 Dl Fe J hs))<|E9 [1] hI J J (P3 (rest.take (Int.toNat 64)) o _ (ix ids 1) g1 (by exact hI.sub' J J)) J J J J J J (fun v _=>Az func112 hI) ?_
  rintro r _ _ _ ⟨rfl,rfl⟩
  refine Jv [1] hI J J J ?_
  refine Gb<|O<|A3 ?_
  refine A6<|As<|Av (.sl 1 (List.map (rI .u8) rest))<|Cs fun hs1=>Ac (.sl 1 (List.map (rI .u8) (rest.drop (Int.toNat 64)))) J (C0 (Qj Dl Fe J hs1))<|Al (.sl 1 (List.map (rI .u8) (rest.drop (Int.toNat 64))))<|O<|Bg (Hc (hW ((rest.drop (Int.toNat 64)),r) _ _ ⟨J,J⟩))
 refine Bs J<|H5<|Bg (hJ2 (rest,o) _ _ ⟨J,J⟩)
theorem Ab0 (n:Int)(h0:Ab)(o0:Nat)(hI0:Ids h0 [o0] 1):Iq n≠.bad→Bz Tryz.prog 135 [.emp,(.int .i64 n)] (hp h0 [o0] [none]) (Ev (fun a_ v h' => ∃ (v3:AV),∃ (g1:Nat),Cg v3 o0 g1 a_.length∧v3=v∧h'=hp h0 [o0] [Bp v3 g1 1 (List.map (rI .u8) a_)]) h0 (Iq n)):=by
 refine Fb (n:=27) 0 func135 J (by decide) J J hI0 J fun ids he hI=>?_
 clear hI0
 obtain rfl:ix ids 0=o0:=he 0 rfl
 clear he
 refine Bo (Ah (Iq.eq_1 _) ?_)
 refine Y<|Al .emp<|O<|Ad<|Y<|Aa 2 [] [(6,(.B (decide (n<0))))]<|O<|D4 J (fun hc=>?_) (fun hc=>?_)
 ·refine As<|Ac (.iface 9 (.str [99,97,110,110,111,116,32,98,101,32,110,101,103,97,116,105,118,101])) J (Z2 Q9 (by decide))<|Zm (v:=⟨9,.str [99,97,110,110,111,116,32,98,101,32,110,101,103,97,116,105,118,101]⟩) J J (Fv (K:=1) (N:=0) func135 hI)
 refine Aq<|Ad<|Y<|Aa 2 [] [(9,.emp),(8,(.I n))]<|Ac (.I 0) J (Ai6 (Afh Dl))<|Av .emp<|Ac (.I 0) J (A7 (Afl Dl))<|Aa 3 [] [(1,(.I (wi (n - 0))))]<|O<|Y<|Aa 2 [] [(16,(.B (decide ((wi (n - 0)) > 0))))]<|O<|D4 J (fun hc1=>?_) (fun hc1=>?_)
 ·refine As<|Aa 2 [] [(18,.emp),(17,.emp)]<|Ac (.I 0) J (Ai6 (Afh Dl))<|Ac .emp J (C0 (Aol Dl Fe))<|Av (.I (wi (n - 0)))<|Cs fun hl=>Aik (e:=(rI .u8)) (y:=0) (i:=(wi (n - 0))) (st:=1) (j:=0) hI J J J J J J Dl Bb Fe J J J J J hl fun v1 g vH=>Av .emp<|Ac (.I 0) J (A7 (Afl Dl))<|Cs fun hs=>Aio (e:=(rI .u8)) (L:=(List.replicate (Int.toNat (wi (n - 0))) (0:Int))) (j:=0) J hI J J J vH J J Dl Fe J hs fun v2 vH1=>Al v2<|O<|A3 ?_
  refine Y<|Aa 2 [] [(4,v2)]<|O<|Hw (K:=1) (N:=0) [Bp v2 g 1 (List.map (rI .u8) ((List.replicate (Int.toNat (wi (n - 0))) (0:Int)).take (Int.toNat 0)))] func135 hI J J J (.keep .nil) (.same _) ⟨v2,g,vH1,J,J⟩
 refine Aq<|Y<|Aa 2 [] [(4,.emp)]<|O<|Hw (K:=1) (N:=0) [Bp .emp 0 1 (List.map (rI .u8) [])] func135 hI J J J (.drop .nil) (.same _) ⟨.emp,0,.nil,J,J⟩
theorem Aa5 (slices:(List (List Int))):CPO Tryz.prog 113 [(.sl 1 (List.map (rL 1 (rI .u8)) slices))] (Gk slices) 1 (rI .u8):=by
 refine Nx (n:=36) 0 func113 J (by decide) J J fun h0 ids hI=>Bo (Ah (Gk.eq_1 _) ?_)
 refine Y<|Al .emp<|O<|Y<|Al (.I 0)<|O<|Ad<|Y<|Av (.sl 1 (List.map (rL 1 (rI .u8)) slices))<|Ac (.I (slices.length:Int)) J (A7 (Bh Afv))<|Av (.I 0)<|O<|Aw<|Co [(0,(.sl 1 (List.map (rL 1 (rI .u8)) slices))),(3,(.I 0)),(9,(.sl 1 (List.map (rL 1 (rI .u8)) slices))),(10,(.I (slices.length:Int))),(11,(.I 0))] (FI J)<|Db (P:=Tryz.prog) slices (fun _ a=>fun size=>Ig a size) (((fun size=>(Iq size).bind fun newslice=>(eachS (fun _ a1=>fun newslice1=>Ie a1 newslice1) 0 slices newslice).bind ((fun newslice1=>.ok newslice1)))):Int→R (List Int)) (fun j=>fun size=>fun fr h=>fr=Ap [(0,(.sl 1 (List.map (rL 1 (rI .u8)) slices))),(3,(.I size)),(9,(.sl 1 (List.map (rL 1 (rI .u8)) slices))),(10,(.I (slices.length:Int))),(11,(.I j))]∧h=hp h0 ids [none]) 0 ?_ ?_ ?_
 ·exact⟨J,J⟩
 ·rintro j a ha W hW size fr h ⟨rfl,rfl⟩
  refine Ah (m':=Ig a size) J (Ah (Ig.eq_1 _ _) ?_)
  refine Y<|Ac (.B (decide ((j:Int)<(slices.length:Int)))) J (Ak J J J)<|O<|Ad<|Dg (t:=0) (L:=slices) J fun hlim=>Ce J (Int.ofNat_lt.2 (A8 ha))<|Aq<|Ad<|Aw<|Y<|Ac (.cp [(.sl 1 (List.map (rI .u8) a))] 0) J (Ay (C7 Afv Dl J ha))<|Aa 2 [] [(5,(.sl 1 (List.map (rI .u8) a)))]<|O<|Y<|Aa 2 [] [(16,(.sl 1 (List.map (rI .u8) a))),(15,(.I size))]<|Ac (.I (a.length:Int)) J (A7 (Bh Dl))<|Aa 2 [] [(3,(.I (wi (size+(a.length:Int)))))]<|O ?_
  refine Y<|Aa 2 [] [(20,(.B (decide ((wi (size+(a.length:Int)))<0))))]<|O<|D4 J (fun hc=>?_) (fun hc=>?_)
  ·refine As<|Ac (.iface 9 (.str [108,101,110,32,111,117,116,32,111,102,32,114,97,110,103,101])) J (Z2 Q9 (by decide))<|Zm (v:=⟨9,.str [108,101,110,32,111,117,116,32,111,102,32,114,97,110,103,101]⟩) J J (Wy func113 hI)
  refine Aq<|A6<|As<|Aa 2 [] [(11,(.I (wi ((j:Int)+1))))]<|O<|Bg (Fy (hW (wi (size+(a.length:Int))) _ _ ⟨J,J⟩)) (.r4 (.o (ic ha hlim)))
 rintro size fr h ⟨rfl,rfl⟩
 refine Y<|Ac (.B (decide ((slices.length:Int)<(slices.length:Int)))) J (Ak J J J)<|O<|Ad<|Cd J (Int.lt_irrefl _)<|Bs J<|Y<|Av (.I size)<|E9 [0] hI J J (Ab0 size _ (ix ids 0) (by exact hI.sub' J J)) J J J J J J (fun v _=>Wy func113 hI) ?_
 rintro newslice _ _ _ ⟨v,g,vH,rfl,rfl⟩
 refine Jv [0] hI J J J ?_
 refine Gb<|Al v<|O<|A3 ?_
 refine Ad<|Y<|Av (.sl 1 (List.map (rL 1 (rI .u8)) slices))<|Ac (.I (slices.length:Int)) J (A7 (Bh Afv))<|Av (.I 0)<|O<|Aw<|Co [(6,v),(25,(.sl 1 (List.map (rL 1 (rI .u8)) slices))),(26,(.I (slices.length:Int))),(27,(.I 0))] (FI J)<|Db (P:=Tryz.prog) slices (fun _ a1=>fun newslice1=>Ie a1 newslice1) (((fun newslice1=>.ok newslice1)):(List Int)→R (List Int)) (fun j1=>fun newslice1=>fun fr h => ∃ (v1:AV),∃ (g1:Nat),Cg v1 (ix ids 0) g1 newslice1.length∧fr=Ap [(6,v1),(25,(.sl 1 (List.map (rL 1 (rI .u8)) slices))),(26,(.I (slices.length:Int))),(27,(.I j1))]∧h=hp h0 ids [(Bp v1 g1 1 (List.map (rI .u8) newslice1))]) newslice ?_ ?_ ?_
 ·exact⟨v,g,vH,J,J⟩
 ·rintro j1 a1 ha1 W hW1 newslice1 fr h ⟨v1,g1,vH1,rfl,rfl⟩
  refine Ah (m':=Ie a1 newslice1) J (Ah (Ie.eq_1 _ _) ?_)
  refine Y<|Ac (.B (decide ((j1:Int)<(slices.length:Int)))) J (Ak J J J)<|O<|Ad<|Dg (t:=25) (L:=slices) J fun hlim1=>Ce J (Int.ofNat_lt.2 (A8 ha1))<|Aq<|Ad<|Aw<|Y<|Ac (.cp [(.sl 1 (List.map (rI .u8) a1))] 0) J (Ay (C7 Afv Dl J ha1))<|Aa 2 [] [(8,(.sl 1 (List.map (rI .u8) a1)))]<|O<|As<|Aa 2 [] [(32,(.sl 1 (List.map (rI .u8) a1))),(31,v1)]<|Cs fun hl=>Et (e:=(rI .u8)) (L:=newslice1) (L2:=a1) (v:=v1) (g:=g1) (st:=1) (j:=0) hI J J J J vH1 J (Ez J) Dl Dl J Fe J J J hl fun v2 g2 vH2=>Al v2<|O ?_
  refine A3 ?_
  refine A6<|As<|Aa 2 [] [(27,(.I (wi ((j1:Int)+1))))]<|O<|Bg (Fy (hW1 (newslice1++a1) _ _ ⟨v2,g2,vH2,J,J⟩)) (.r2 (.r (.cons (Ic (A8 ha1) hlim1) .nil)))
 rintro newslice1 fr h ⟨v1,g1,vH1,rfl,rfl⟩
 refine Y<|Ac (.B (decide ((slices.length:Int)<(slices.length:Int)))) J (Ak J J J)<|O<|Ad<|Cd J (Int.lt_irrefl _)<|Bs J<|Y<|Aa 2 [] [(2,v1)]<|O<|N2 (a:=newslice1) (v:=v1) (g:=g1) func113 hI J J vH1 J
theorem U5 (slices:(List (List Int))):CP Tryz.prog 113 [(.sl 1 (List.map (rL 1 (rI .u8)) slices))] (Gk slices) (fun(x:List Int)=>(AV.sl 1 (List.map (rI .u8) x))):=(Aa5 slices).cp (fun x=>Cb x)
theorem Rr (tag:Tq)(b:List Int):CP Tryz.prog 81 [(.str tag),(.sl 1 (List.map (rI .u8) b))] (Hp tag b) (fun(x:(Vector Int 32))=>(AV.agg ((rV (rI .u8)) x))):=by
 refine Bk (n:=14) 2 func81 J (by decide) J J fun h0 ids hI=>Bo (Ah (Hp.eq_1 _ _) ?_)
 refine Y<|Gc (j:=0) (row:=(rU (B5 32 0))) hI J J J J Bv (J4 (n:=32) (e:=(rI .u8)) (E:=(fun x:Int=>(AV.int .u8 x))) (fun _=>J) _).symm ((Ds (fun x=>Cb x) J) _) fun g=>O<|A3 ?_
 refine Y<|Av (.str tag)<|Cs fun hl=>Aw6 J Q9 Dl Fe J J hl<|Bf _ J J J J ((Adq (Nm tag)) _) (fun v _=>Az func81 hI) fun r _=>Gc (j:=1) (row:=(rU (B5 32 0))) hI J J J J Bv (J4 (n:=32) (e:=(rI .u8)) (E:=(fun x:Int=>(AV.int .u8 x))) (fun _=>J) _).symm ((Ds (fun x=>Cb x) J) _) fun g1=>A5 (Fg (v:=(.A (rU r))) hI J J J Bv J J J (((Ds (fun x=>Cb x) J) _).1) J)<|O<|A3 ?_
 refine Y<|Aud [(At g 32 [(rU (B5 32 0))]),none] [(1,(.sl 1 (List.map (rI .u8) b))),(4,(.q ids 0 g)),(5,(.cp (rU r) 0))] hI J (.keep (.drop .nil)) (.s (.s (.cons (.ptrL (hI.at J J) (hI.at J J) ((Ds (fun x=>Cb x) J) _).1 (Qz _)) .nil)))<|Ac (.sl 1 (List.map (rI .u8) r.toList)) J (C0 (Afk (E:=(fun x:Int=>(AV.int .u8 x))) (fun _=>J) (fun _=>J) Bv Fe J)) ?_
 refine Av (.sl 1 (List.map (rI .u8) b))<|Ey (e:=(rL 1 (rI .u8))) (L:=[r.toList,b]) (st:=1) (rows:=[[(.sl 1 (List.map (rI .u8) r.toList))],[(.sl 1 (List.map (rI .u8) b))]]) J Afv Dl J J J J J (.cons (RowSim.refl _) (.cons (RowSim.refl _) .nil)) (fun x=>Aja x) J J<|Bf _ J J J J ((U5 [r.toList,b]) _) (fun v _=>Az func81 hI) fun r1 _=>Bf _ J J J J ((Adq r1) _) (fun v _=>Az func81 hI) fun r2 _=>A5 (Fg (v:=(.A (rU r2))) hI J J J Bv J J J (((Ds (fun x=>Cb x) J) _).1) J)<|O<|A3 ?_
 exact A0 func81 hI (Cc (An hI J J J Bv J) Cm) (.same _)
theorem Xw (salt:(Vector Int 32))(l:List Int):CP Tryz.prog 61 [(.agg ((rV (rI .u8)) salt)),(.sl 1 (List.map (rI .i64) l))] (Fj salt l) (fun(x:(Vector Int 32))=>(AV.agg ((rV (rI .u8)) x))):=by
 refine Bk (n:=34) 5 func61 J (by decide) J J fun h0 ids hI=>Bo (Ah (Fj.eq_1 _ _) ?_)
 refine Y<|B9 (v:=(.A (rU salt))) (j:=0) hI J J J J J J J fun g=>Gc (j:=1) (row:=(rU (B5 32 0))) hI J J J J Bv (J4 (n:=32) (e:=(rI .u8)) (E:=(fun x:Int=>(AV.int .u8 x))) (fun _=>J) _).symm ((Ds (fun x=>Cb x) J) _) fun g1=>O<|A3 ?_
 refine Y<|Ac (.A [(.I 3),(.I 0),(.str []),.emp]) J (L6 (Xs D6 Axj J))<|Cj (j:=2) hI J J J J D6 J fun g2=>A5 (Bu (v:=(.A [(.I 3),(.I 0),(.str []),.emp])) hI J J J J D6 J J J J J)<|O<|A3 ?_
 refine Ad<|Y<|Av (.K l)<|Ac (.I (l.length:Int)) J (A7 (Bh A2))<|Av (.I 0)<|O<|Aw<|Co [(2,(.q ids 0 g)),(4,(.q ids 1 g1)),(5,(.q ids 2 g2)),(11,(.K l)),(12,(.I (l.length:Int))),(13,(.I 0))] (FI J)<|Db (P:=Tryz.prog) l (fun _ a=>fun l1=>G5 a l1) (((fun l1=>(Mm ({ Kind:=3,N:=0,S:=[],L:=l1 }:Value)).bind fun r=>if r.1.length≠0∧(32+r.1.length) * 1≤Ci then(Hp [99,111,115,116] (salt.toList++r.1)).bind fun r1=>.ok r1 else .bad)):(List Value)→R (Vector Int 32)) (fun j=>fun l1=>fun fr h => ∃ (v:AV),∃ (g3:Nat),Cg v (ix ids 3) g3 l1.length∧fr=Ap [(2,(.q ids 0 g)),(4,(.q ids 1 g1)),(5,(.q ids 2 g2)),(11,(.K l)),(12,(.I (l.length:Int))),(13,(.I j))]∧h=hp h0 ids [(At g 32 [(rU salt)]),(At g1 32 [(rU (B5 32 0))]),(At g2 4 [[(.I 3),(.I 0),(.str []),v]]),(Bp v g3 4 (List.map rValueA l1)),none]) [] ?_ ?_ ?_
 ·exact⟨.emp,0,.nil,J,J⟩
 ·rintro j a ha W hW l1 fr h ⟨v,g3,vH,rfl,rfl⟩
  refine Ah (m':=G5 a l1) J (Ah (G5.eq_1 _ _) ?_)
  refine Y<|Ac (.B (decide ((j:Int)<(l.length:Int)))) J (Ak J J J)<|O<|Ad<|Dg (t:=11) (L:=l) J fun hlim=>Ce J (Int.ofNat_lt.2 (A8 ha))<|Aq<|Ad<|Aw<|Y<|Ac (.cp [(.I a)] 0) J (Ay (C7 A2 Bb J ha))<|Aa 2 [] [(7,(.I a))]<|O<|As<|Aa 4 [2] [(20,(.A [(.I 1),(.I a),(.str []),.emp])),(18,v)]<|Ey (e:=rValueA) (L:=[({ Kind:=1,N:=a,S:=[],L:=[] }:Value)]) (st:=4) (rows:=[[(.I 1),(.I a),(.str []),.emp]]) J Hh D6 J J J J J (.cons (Auw (.s (.s (.s (.cons (.emp _) .nil))))) .nil) (fun x=>Alo x) J J<|Cs fun hl=>Et (e:=rValueA) (L:=l1) (L2:=[({ Kind:=1,N:=a,S:=[],L:=[] }:Value)]) (v:=v) (g:=g3) (st:=4) (j:=3) hI J J J J vH J (Ez J) Hh Hh J D6 J J J hl fun v1 g4 vH1=>Ac (.ptr (ix ids 2) g2 0 3) J (Bm (B3 0 3 3 D6 J Hh J)) ?_
  refine A5 (Zi vH1 hI J J J J Hh J J J)<|O<|A3 ?_
  refine A6<|As<|Aa 2 [] [(13,(.I (wi ((j:Int)+1))))]<|O<|Bg (Fy (hW (l1++[({ Kind:=1,N:=a,S:=[],L:=[] }:Value)]) _ _ ⟨v1,g4,vH1,J,J⟩)) (.r4 (.r (.o (ic ha hlim))))
 rintro l1 fr h ⟨v,g3,vH,rfl,rfl⟩
 refine Y<|Ac (.B (decide ((l.length:Int)<(l.length:Int)))) J (Ak J J J)<|O<|Ad<|Cd J (Int.lt_irrefl _)<|Bs J<|Y<|Aa 1 [2] [(26,(.A [(.I 3),(.I 0),(.str []),v]))]<|Ae7 (h2:=hp h0 ids [(At g 32 [(rU salt)]),(At g1 32 [(rU (B5 32 0))]),none,none,none]) [(2,(.q ids 0 g)),(4,(.q ids 1 g1)),(26,(.A (Cu ({ Kind:=3,N:=0,S:=[],L:=l1 }:Value))))] (Drops.sub (.keep (.keep (.drop (.drop (.keep .nil))))) hI.len) (.s (.s (.cons (.aggL (.s (.s (.s (.cons (Jd vH (hI.at J J) (hI.at J J) (fun x=>Alo x)) .nil))))) .nil))) J J<|Bf _ J J J J ((Ah4 ({ Kind:=3,N:=0,S:=[],L:=l1 }:Value)) _) (fun v _=>Az func61 hI) fun r _=>Aa 5 [] [(8,(.sl 1 (List.map (rI .u8) r.1)))]<|O<|A3 ?_
 refine Y<|Ac (.refc (ix ids 0) g 0 0 32 32) J (C0 (Ajq (a:=0) (b:=32) hI J J Bv Fe J J J)) ?_
 refine Av (.sl 1 (List.map (rI .u8) r.1))<|Cs fun hl1=>Apv (e:=(rI .u8)) (E1:=(fun x:Int=>(AV.int .u8 x))) (v:=salt) (L2:=r.1) (j2:=4) (fun _=>J) hI J J J J J J (Ez J) Dl Dl J Fe J J hl1 fun v2 g5 vH2=>Ae7 (h2:=hp h0 ids [(At g 32 [(rU salt)]),(At g1 32 [(rU (B5 32 0))]),none,none,none]) [(4,(.q ids 1 g1)),(32,(.sl 1 (List.map (rI .u8) (salt.toList++r.1))))] (Drops.sub (.keep (.keep (.keep (.keep (.drop .nil))))) hI.len) (.s (.cons (Jd vH2 (hI.at J J) (hI.at J J) (fun x=>Cb x)) .nil)) J J<|Bf _ J J J J ((Rr [99,111,115,116] (salt.toList++r.1)) _) (fun v _=>Az func61 hI) fun r1 _=>A5 (Fg (v:=(.A (rU r1))) hI J J J Bv J J J (((Ds (fun x=>Cb x) J) _).1) J)<|O<|A3 ?_
 exact A0 func61 hI (Cc (An hI J J J Bv J) Cm) (.same _)
theorem Aet (a:Int):CP Tryz.prog 137 [(.int .u64 a)] (Vp a) (fun(x:Int)=>(AV.int .i64 x)):=by
 refine Bk (n:=25) 0 func137 J (by decide) J J fun h0 ids hI=>Bo (Ah (Vp.eq_1 _) ?_)
 refine Y<|Al (.I 0)<|O<|Ad<|Y<|Aa 2 [] [(4,(.B (decide (a≥4294967296))))]<|O<|Dz (Do fun x n=>Pv x n) (Do fun x n=>fun fr h=>fr=Ap [(0,(.int .u64 x)),(2,(.I n))]∧h=hp h0 ids []) ?_ fun hJ1=>?_
 ·rintro⟨x,n⟩ fr h ⟨rfl,rfl⟩
  refine Ah (Pv.eq_1 _ _)<|Ad<|Y<|Aa 2 [] [(8,(.B (decide (x≥65536))))]<|O<|Dz (Do fun x1 n1=>Pl x1 n1) (Do fun x1 n1=>fun fr h=>fr=Ap [(0,(.int .u64 x1)),(2,(.I n1))]∧h=hp h0 ids []) ?_ fun hJ=>?_
  ·rintro⟨x1,n1⟩ fr h ⟨rfl,rfl⟩
   refine Ah (Pl.eq_1 _ _)<|Ad<|Y<|Aa 2 [] [(14,(.B (decide (x1≥256))))]<|O<|D4 J (fun hc2=>?_) (fun hc2=>?_)
   ·refine Y<|Av (.int .u64 x1)<|Ac (.int .u64 (Int.fdiv x1 256)) J (Ak J J (K4 (by decide) (by decide)))<|Al (.int .u64 (Int.fdiv x1 256))<|O<|As<|Aa 3 [] [(2,(.I (wi (n1+8))))]<|O<|Y<|Aa 2 [] [(20,(.int .u64 (Int.fdiv x1 256))),(19,(.I (wi (n1+8))))]<|Ac (.int .u8 (IntKind.wrap .u8 (Int.fdiv x1 256))) J (E0 (Gv Me Fe))<|Ln fun a1 hz hx1=>Ac (.int .u8 (a1.toNat:Int)) J (Ald (Aq6 Q9 hz hx1))<|Ac (.I (wi (a1.toNat:Int))) J (E0 (Gv Fe Bb))<|Aa 2 [] [(2,(.I (wi ((wi (n1+8))+(wi (a1.toNat:Int))))))]<|O<|A0 func137 hI J (.same _)
   refine Aq<|Y<|Aa 2 [] [(20,(.int .u64 x1)),(19,(.I n1))]<|Ac (.int .u8 (IntKind.wrap .u8 x1)) J (E0 (Gv Me Fe))<|Ln fun a2 hz1 hx2=>Ac (.int .u8 (a2.toNat:Int)) J (Ald (Aq6 Q9 hz1 hx2))<|Ac (.I (wi (a2.toNat:Int))) J (E0 (Gv Fe Bb))<|Aa 2 [] [(2,(.I (wi (n1+(wi (a2.toNat:Int))))))]<|O<|A0 func137 hI J (.same _)
  refine D4 J (fun hc1=>?_) (fun hc1=>?_)
  ·refine Y<|Av (.int .u64 x)<|Ac (.int .u64 (Int.fdiv x 65536)) J (Ak J J (K4 (by decide) (by decide)))<|Al (.int .u64 (Int.fdiv x 65536))<|O<|As<|Aa 3 [] [(2,(.I (wi (n+16))))]<|O<|Bg (hJ ((Int.fdiv x 65536),(wi (n+16))) _ _ ⟨J,J⟩)
  refine Aq<|Bg (hJ (x,n) _ _ ⟨J,J⟩)
 refine D4 J (fun hc=>?_) (fun hc=>?_)
 ·refine Y<|Av (.int .u64 a)<|Ac (.int .u64 (Int.fdiv a 4294967296)) J (Ak J J (K4 (by decide) (by decide)))<|Al (.int .u64 (Int.fdiv a 4294967296))<|O<|As<|Al (.I 32)<|O<|Bg (hJ1 ((Int.fdiv a 4294967296),32) _ _ ⟨J,J⟩)
 refine Aq<|Bg (hJ1 (a,0) _ _ ⟨J,J⟩)
theorem Ahs (a:Int):CP Tryz.prog 114 [(.int .u64 a)] (Ym a) (fun(x:Int)=>(AV.int .i64 x)):=by
 refine Bk (n:=8) 0 func114 J (by decide) J J fun h0 ids hI=>Bo (Ah (Ym.eq_1 _) ?_)
 refine Y<|Al (.I 0)<|O<|Ad<|Tl false J<|Aq<|Y<|Av (.int .u64 a)<|Bf _ J J J J ((Aet a) _) (fun v _=>Az func114 hI) fun r _=>Al (.I r)<|O<|A0 func114 hI J (.same _)
theorem W3 (n:Int):CP Tryz.prog 83 [(.int .i64 n)] (Gm n) (fun(x:Int)=>(AV.int .i64 x)):=by
 refine Bk (n:=9) 0 func83 J (by decide) J J fun h0 ids hI=>Bo (Ah (Gm.eq_1 _) ?_)
 refine Y<|Al (.I 0)<|O<|Y<|Aa 2 [] [(4,(.I (wi (n - 1))))]<|Ac (.int .u64 (IntKind.wrap .u64 (wi (n - 1)))) J (E0 (Gv Bb Alb))<|Bf _ J J J J ((Ahs (IntKind.wrap .u64 (wi (n - 1)))) _) (fun v _=>Az func83 hI) fun r _=>Ac (.I (wi (r - 1))) J (Ak J J J)<|Cs fun hz=>Ac (.I (Se .i64 1 (wi (r - 1)))) J (Ak J J (Acs hz))<|Al (.I (Se .i64 1 (wi (r - 1))))<|O<|A0 func83 hI J (.same _)
theorem Abz (d:(Vector Int 32)):CP Tryz.prog 82 [(.agg ((rV (rI .u8)) d))] (Mb d) (fun(x:(Vector Int 32))=>(AV.agg ((rV (rI .u8)) x))):=by
 refine Bk (n:=5) 2 func82 J (by decide) J J fun h0 ids hI=>Bo (Ah (Mb.eq_1 _) ?_)
 refine Y<|B9 (v:=(.A (rU d))) (j:=0) hI J J J J J J J fun g=>Gc (j:=1) (row:=(rU (B5 32 0))) hI J J J J Bv (J4 (n:=32) (e:=(rI .u8)) (E:=(fun x:Int=>(AV.int .u8 x))) (fun _=>J) _).symm ((Ds (fun x=>Cb x) J) _) fun g1=>O<|A3 ?_
 refine Y<|Aud [none,(At g1 32 [(rU (B5 32 0))])] [(1,(.cp (rU d) 0)),(2,(.q ids 1 g1))] hI J (.drop (.keep .nil)) (.cons (.ptrL (hI.at J J) (hI.at J J) ((Ds (fun x=>Cb x) J) _).1 (Qz _)) .s1)<|Ac (.sl 1 (List.map (rI .u8) d.toList)) J (C0 (Afk (E:=(fun x:Int=>(AV.int .u8 x))) (fun _=>J) (fun _=>J) Bv Fe J)) ?_
 refine Bf _ J J J J ((Rr [108,101,97,102] d.toList) _) (fun v _=>Az func82 hI) fun r _=>A5 (Fg (v:=(.A (rU r))) hI J J J Bv J J J (((Ds (fun x=>Cb x) J) _).1) J)<|O<|A3 ?_
 exact A0 func82 hI (Cc (An hI J J J Bv J) Cm) (.same _)
theorem Wv (a:(Vector Int 32))(b:(Vector Int 32)):CP Tryz.prog 84 [(.agg ((rV (rI .u8)) a)),(.agg ((rV (rI .u8)) b))] (Km a b) (fun(x:(Vector Int 32))=>(AV.agg ((rV (rI .u8)) x))):=by
 refine Bk (n:=10) 3 func84 J (by decide) J J fun h0 ids hI=>Bo (Ah (Km.eq_1 _ _) ?_)
 refine Y<|B9 (v:=(.A (rU a))) (j:=0) hI J J J J J J J fun g=>B9 (v:=(.A (rU b))) (j:=1) hI J J J J J J J fun g1=>Gc (j:=2) (row:=(rU (B5 32 0))) hI J J J J Bv (J4 (n:=32) (e:=(rI .u8)) (E:=(fun x:Int=>(AV.int .u8 x))) (fun _=>J) _).symm ((Ds (fun x=>Cb x) J) _) fun g2=>O<|A3 ?_
 refine Ad<|Yy [none,(At g1 32 [(rU b)]),(At g2 32 [(rU (B5 32 0))])] [(2,(.cp (rU a) 0)),(3,(.q ids 1 g1)),(4,(.q ids 2 g2))] hI J (.drop (.keep (.keep .nil))) (.cons (.ptrL (hI.at J J) (hI.at J J) ((Ds (fun x=>Cb x) J) _).1 (Qz _)) .s2)<|Yy [none,none,(At g2 32 [(rU (B5 32 0))])] [(2,(.cp (rU a) 0)),(3,(.cp (rU b) 0)),(4,(.q ids 2 g2))] hI J (.keep (.drop (.keep .nil))) (.s (.cons (.ptrL (hI.at J J) (hI.at J J) ((Ds (fun x=>Cb x) J) _).1 (Qz _)) .s1))<|Cp Ec [[],[],[0,1],[0,1,2],[0,1,2,3],[0,1,2,3,4,4,4]] [(false,0),(false,1),(true,2),(true,3),(true,4),(true,5)] (by kernel_rfl)<|Z (.sl 1 (List.map (rI .u8) a.toList)) J J (C0 (Afk (E:=(fun x:Int=>(AV.int .u8 x))) (fun _=>J) (fun _=>J) Bv Fe J)) ?_
 refine Z (.sl 1 (List.map (rI .u8) b.toList)) J J (C0 (Afk (E:=(fun x:Int=>(AV.int .u8 x))) (fun _=>J) (fun _=>J) Bv Fe J)) ?_
 refine Kl J J (fun _ _=>J) (fun K hK=>Lz (e:=(rL 1 (rI .u8))) (L:=[a.toList,b.toList]) (st:=1) (rows:=[[(.sl 1 (List.map (rI .u8) a.toList))],[(.sl 1 (List.map (rI .u8) b.toList))]]) Afv Dl J J J J J (.cons (RowSim.refl _) (.cons (RowSim.refl _) .nil)) (fun x=>Aja x) J J (hK _ _ (B6 J Bc) ?_))
 clear hK K
 refine Cx _ J J J J J ((U5 [a.toList,b.toList]) _) (fun v _ _ _=>Az func84 hI) (B6 J Bc) fun r _=>Cx _ J J J J J ((Rr [110,111,100,101] r) _) (fun v _ _ _=>Az func84 hI) (B6 J Bc) fun r1 _=>Ru J (fun _ _=>J) (fun K hK=>Kg (Fg (v:=(.A (rU r1))) hI J J J Bv J J J (((Ds (fun x=>Cb x) J) _).1) J) (hK _ _ (B6 J Bc) ?_))
 clear hK K
 refine Bn<|A3 ?_
 exact A0 func84 hI (Cc (An hI J J J Bv J) Cm) (.same _)
end Go.Am
