/- Written by shrink.py from texts of ours: comments struck, what is not reached left out, names short. -/
import Derived.Test.YtnoinnijgnfhiaaGreatDoorU4
namespace Go.Am
open Go
set_option maxRecDepth 100000
set_option maxHeartbeats 4000000
set_option linter.unusedSimpArgs false
set_option linter.unusedVariables false
noncomputable section
def Mc (l:List Int):R Unit:=We l
def Ha (a:Int)(m:(List (Int×Int)))(airlines:List Int):R ((List (Int×Int))×(List Int)):=
 if((decide (a<0))||(decide (a≥8))) then
(.ok (m,airlines))
else
(if((Option.getD (Fj m a) 0)==0) then
(if(airlines.length+[a].length) * 8≤Cm then
 .ok ((Mb m a (IntKind.wrap .i64 ((Option.getD (Fj m a) 0)+1))),(airlines++[a])) else .bad)
else
(.ok ((Mb m a (IntKind.wrap .i64 ((Option.getD (Fj m a) 0)+1))),airlines)))
def Fw (owners:List Int):R ((List Int)×(List (Int×Int))):=
 (eachS (fun _ a=>D0 fun m airlines=>Ha a m airlines) 0 owners ([],[])).bind ((D0 fun m airlines=>(Mc airlines).bind fun _=>
 .ok ((Pj airlines),m)))
def Jy (c:Clearing)(j:Nat)(a:Int)(last:Int):R (Int ⊕ Bool):=
 (if((decide (a≤last))||(decide (a > 4095))) then R.ok true else(idx c.Owners (j:Int)).bind fun a1=>
 R.ok (decide (a1<0))).bind (fun(b:Bool)=>(if b then R.ok true else(idx c.Owners (j:Int)).bind fun a2=>
 R.ok (decide (a2≥8))).bind (fun(b1:Bool)=>if b1 then
(.ok (.inr (false)))
else
(.ok (.inl a))))
def Ni (c:Clearing):R Bool:=
 if(((((((decide (c.No<1))||(decide (c.No > 1048576)))||(decide (c.Slots<1)))||(decide (c.Slots > 8)))||(decide ((c.Flights.length:Int)<1)))||(decide ((c.Flights.length:Int) > c.Slots)))||((c.Owners.length:Int) != (c.Flights.length:Int))) then
(.ok false)
else
((each (fun j a=>fun last=>Jy c j a last) 0 c.Flights (-1)).bind (alt (fun last=>(Fw c.Owners).bind fun r=>
 .ok ((c.Commitments.length:Int)==(r.1.length:Int))) (fun r=>.ok r)))
def Mg (v:(Vector Int 32))(j:Nat)(a:(Vector Int 32)):R (Unit ⊕ Int):=
 if(v==a) then
(.ok (.inr ((j:Int))))
else
(.ok (.inl ()))
def Oo (s:(List (Vector Int 32)))(v:(Vector Int 32)):R Int:=
 (each (fun j a=>fun _=>Mg v j a) 0 s ()).bind (alt (fun _=>.ok (-1)) (fun r=>.ok r))
def Jl (s:(List (Vector Int 32)))(v:(Vector Int 32)):R Bool:=
 (Oo s v).bind fun r=>
 .ok (decide (r≥0))
def Fy (c:Clearing):R Bool:=
 (Jl c.Commitments (#v[0,0,0,0,0,0,0,0,0,0,0,0,0,0,0,0,0,0,0,0,0,0,0,0,0,0,0,0,0,0,0,0]:(Vector Int 32))).bind fun r=>
 .ok (!r)
def Og (c:Clearing):R Bool:=
 (Fy c).bind fun r=>
 .ok ((!r)&&((IntKind.wrap .i64 ((c.Openings.length:Int)+(c.Outcome.length:Int)))==0))
def R5 (a:Int):R Bool:=
 .ok (a != a)
def K4 (a:Int)(y:Int):R Int:=
 (R5 a).bind fun xNaN=>
 (R5 y).bind fun yNaN=>
 if xNaN then
(if yNaN then
(.ok 0)
else
(.ok (-1)))
else
(if yNaN then
(.ok 1)
else
(if a<y then
(.ok (-1))
else
(if a > y then
(.ok 1)
else
(.ok 0))))
def Nd (a:Int):R (Unit ⊕ Int):=
 if(a != 0) then
(.ok (.inr (a)))
else
(.ok (.inl ()))
def Vm (vals:List Int):R Int:=
 (each (fun _ a=>fun _=>Nd a) 0 vals ()).bind (alt (fun _=>.ok 0) (fun r=>.ok r))
def Mq (a:Opening)(b:Opening):R Int:=
 (K4 a.Flight b.Flight).bind fun r=>
 (K4 a.Slot b.Slot).bind fun r1=>
 (Vm [r,r1]).bind fun r2=>
 .ok r2
def Oq (v:Int)(j:Nat)(a:Int):R (Unit ⊕ Int):=
 if(v==a) then
(.ok (.inr ((j:Int))))
else
(.ok (.inl ()))
def Gv (s:List Int)(v:Int):R Int:=
 (each (fun j a=>fun _=>Oq v j a) 0 s ()).bind (alt (fun _=>.ok (-1)) (fun r=>.ok r))
def J1 (airline:Int)(flight:Int):R Bool:=
 .ok ((((decide (airline≥0))&&(decide (airline<8)))&&(decide (flight≥0)))&&(decide (flight≤4095)))
def Jj (c:Int):R Bool:=
 .ok ((decide (c≥(-1)))&&(decide (c≤1048576)))
def G7 (W_:Value→R (Int×Bool))(a:Value)(depth:Int):R (Int ⊕ (Int×Bool)):=
 (W_ a).bind fun r=>
 if r.2 then
(.ok (.inl (if r.1 > depth then r.1 else depth)))
else
(.ok (.inr ((0,false))))
def N1 (W_:Value→R (Int×Bool))(v:Value):R (Int×Bool):=
 (if((decide (v.Kind<1))||(decide (v.Kind > 3))) then R.ok true else if(0:Int)≤v.Kind∧v.Kind<4 then
 R.ok (!(A4 (#v[false,((v.S==[])&&((v.L.length:Int)==0)),((v.N==0)&&((v.L.length:Int)==0)),((v.N==0)&&(v.S==[]))]:(Vector Bool 4)) (Int.toNat v.Kind) false)) else .bad).bind (fun(b:Bool)=>if b then
(.ok (0,false))
else
(if v.Kind<3 then
(.ok (0,true))
else
((each (fun _ a=>fun depth=>G7 W_ a depth) 0 v.L 0).bind (alt (fun depth=>.ok ((IntKind.wrap .i64 (depth+1)),true)) (fun r=>.ok r)))))
def Hv:Nat→Value→R (Int×Bool)
 | 0,_=>.bad
 | n+1,v=>N1 (Hv n) v
def Q1 (v:Value):R (Int×Bool):=Hv V3 v
def P8 (v:Value):R Int:=
 (Q1 v).bind fun r=>
 if r.2 then
(if r.1 > 16 then
(.ok 2)
else
(.ok 0))
else
(.ok 1)
def K8:R Unit:=
 .ok ()
def Qm (n:Int):R Int:=
 .ok (Do .u64 (Sh .u64 (IntKind.wrap .u64 n) 1) (IntKind.wrap .u64 (Int.fdiv n 9223372036854775808)))
def Ik (u1:Int)(b:List Int):R ((Int×(List Int)) ⊕ (Int×(List Int))):=
 if u1≥128 then
(if(b.length+[(Ny .u8 (IntKind.wrap .u8 u1) 128)].length) * 1≤Cm then
 .ok (.inl ((Int.fdiv u1 128),(b++[(Ny .u8 (IntKind.wrap .u8 u1) 128)]))) else .bad)
else
(.ok (.inr ((u1,b))))
def Io (u2:Int)(b1:List Int):R (List Int):=
 if(b1.length+[(IntKind.wrap .u8 u2)].length) * 1≤Cm then
 .ok (b1++[(IntKind.wrap .u8 u2)]) else .bad
def Gj (u:Int)(l:List Int):R (List Int):=
 (loop (D0 fun u1 b=>Ik u1 b) (u,l)).bind (D0 fun u2 b1=>Io u2 b1)
def Eo (v1:Value)(l:List Int):R (List Int):=
 if(l.length+[1].length) * 1≤Cm then
 (Qm v1.N).bind fun r=>
 (Gj r (l++[1])).bind fun r1=>
 .ok r1 else .bad
def Gg (v1:Value)(l:List Int):R (List Int):=
 if(l.length+[2].length) * 1≤Cm then
 (Gj (IntKind.wrap .u64 (v1.S.length:Int)) (l++[2])).bind fun r=>
 if(r.length+(Nm v1.S).length) * 1≤Cm then
 .ok (r++(Nm v1.S)) else .bad else .bad
def Hf (W_:Value→(List Int)→R (List Int))(a:Value)(b1:List Int):R (List Int):=
 if a.Kind=0 then
(.bad)
else
(if a.Kind=1 then
((Eo a b1).bind fun b2=>
 .ok b2)
else
(if a.Kind=2 then
((Gg a b1).bind fun b3=>
 .ok b3)
else
(if a.Kind=3 then
((W_ a b1).bind fun b4=>
 .ok b4)
else
(.bad))))
def H4 (W_:Value→(List Int)→R (List Int))(v1:Value)(l:List Int):R (List Int):=
 if(l.length+[3].length) * 1≤Cm then
 (Gj (IntKind.wrap .u64 (v1.L.length:Int)) (l++[3])).bind fun b=>
 (eachS (fun _ a=>fun b1=>Hf W_ a b1) 0 v1.L b).bind ((fun b1=>.ok b1)) else .bad
def H1:Nat→Value→(List Int)→R (List Int)
 | 0,_,_=>.bad
 | n+1,v1,l=>H4 (H1 n) v1 l
def Kw (v1:Value)(l:List Int):R (List Int):=H1 V3 v1 l
def F1 (a:Value)(b1:List Int):R (List Int):=
 if a.Kind=0 then
(.bad)
else
(if a.Kind=1 then
((Eo a b1).bind fun b2=>
 .ok b2)
else
(if a.Kind=2 then
((Gg a b1).bind fun b3=>
 .ok b3)
else
(if a.Kind=3 then
((Kw a b1).bind fun b4=>
 .ok b4)
else
(.bad))))
def Ip (v1:Value):R (List Int):=
 if [3].length * 1≤Cm then
 (Gj (IntKind.wrap .u64 (v1.L.length:Int)) [3]).bind fun b=>
 (eachS (fun _ a=>fun b1=>F1 a b1) 0 v1.L b).bind ((fun b1=>.ok b1)) else .bad
def Mv (v:Value):R ((List Int)×Int):=
 (P8 v).bind fun e=>
 if(e != 0) then
(.ok ([],e))
else
((K8).bind fun _=>
 if v.Kind=0 then
(.bad)
else
(if v.Kind=1 then
((Eo v []).bind fun b=>
 .ok (b,0))
else
(if v.Kind=2 then
((Gg v []).bind fun b1=>
 .ok (b1,0))
else
(if v.Kind=3 then
((Ip v).bind fun b2=>
 .ok (b2,0))
else
(.bad)))))
def Tj (a:Int)(n:Int):R Int:=
 .ok (Ny .u32 (Sh .u32 n 8) (IntKind.wrap .u32 a))
def T5 (b:List Int):R Int:=
 if(0:Int)≤4∧4≤(b.length:Int) then
 (eachS (fun _ a=>fun n=>Tj a n) 0 (b.take (Int.toNat 4)) 0).bind ((fun n=>.ok n)) else .bad
def Dq (a:Int)(k:Int):R Int:=
 if(0:Int)≤(E9 .u64 (IntKind.wrap .u64 k) 31) then if(0:Int)≤(IntKind.wrap .u64 (32 - (E9 .u64 (IntKind.wrap .u64 k) 31))) then .ok (Ny .u32 (Sh .u32 a (E9 .u64 (IntKind.wrap .u64 k) 31)) (Qs .u32 a (IntKind.wrap .u64 (32 - (E9 .u64 (IntKind.wrap .u64 k) 31))))) else .bad else .bad
def N7 (v:Int)(a:Int)(b:Int)(c:Int):R Int:=
 (Dq v (IntKind.wrap .i64 (0 - a))).bind fun r=>
 (Dq v (IntKind.wrap .i64 (0 - b))).bind fun r1=>
 (Dq v (IntKind.wrap .i64 (0 - c))).bind fun r2=>
 .ok (Do .u32 (Do .u32 r r1) r2)
def H2 (b:List Int)(j:Nat)(o:(Vector Int 64)):R (Vector Int 64):=
 if(0:Int)≤(IntKind.wrap .i64 (4 * (j:Int)))∧(IntKind.wrap .i64 (4 * (j:Int)))≤(b.length:Int) then
 (T5 (b.drop (Int.toNat (IntKind.wrap .i64 (4 * (j:Int)))))).bind fun r=>
 .ok (Ic o j r) else .bad
def Fp (x1:Int)(o1:(Vector Int 64)):R ((Int×(Vector Int 64)) ⊕ (Vector Int 64)):=
 if x1<64 then
(if(0:Int)≤(IntKind.wrap .i64 (x1 - 15))∧(IntKind.wrap .i64 (x1 - 15))<64 then
 if(0:Int)≤(IntKind.wrap .i64 (x1 - 2))∧(IntKind.wrap .i64 (x1 - 2))<64 then
 if(0:Int)≤(IntKind.wrap .i64 (x1 - 16))∧(IntKind.wrap .i64 (x1 - 16))<64 then
 if(0:Int)≤(IntKind.wrap .i64 (x1 - 7))∧(IntKind.wrap .i64 (x1 - 7))<64 then
 (Dq (A4 o1 (Int.toNat (IntKind.wrap .i64 (x1 - 15))) 0) (-7)).bind fun r1=>
 (Dq (A4 o1 (Int.toNat (IntKind.wrap .i64 (x1 - 15))) 0) (-18)).bind fun r2=>
 (Dq (A4 o1 (Int.toNat (IntKind.wrap .i64 (x1 - 2))) 0) (-17)).bind fun r3=>
 (Dq (A4 o1 (Int.toNat (IntKind.wrap .i64 (x1 - 2))) 0) (-19)).bind fun r4=>
 if(0:Int)≤x1∧x1<64 then
 .ok (.inl ((IntKind.wrap .i64 (x1+1)),(Ic o1 (Int.toNat x1) (IntKind.wrap .u32 ((IntKind.wrap .u32 ((IntKind.wrap .u32 ((A4 o1 (Int.toNat (IntKind.wrap .i64 (x1 - 16))) 0)+(Do .u32 (Do .u32 r1 r2) (Int.fdiv (A4 o1 (Int.toNat (IntKind.wrap .i64 (x1 - 15))) 0) 8))))+(A4 o1 (Int.toNat (IntKind.wrap .i64 (x1 - 7))) 0)))+(Do .u32 (Do .u32 r3 r4) (Int.fdiv (A4 o1 (Int.toNat (IntKind.wrap .i64 (x1 - 2))) 0) 1024))))))) else .bad else .bad else .bad else .bad else .bad)
else
(.ok (.inr (o1)))
def Jq (o2:(Vector Int 64))(j1:Nat)(o3:(Vector Int 8)):R (Vector Int 8):=
 (N7 (A4 o3 4 0) 6 11 25).bind fun r5=>
 (N7 (A4 o3 0 0) 2 13 22).bind fun r6=>
 if((o3.toList.drop 0).take 7).length≤7 then
 .ok (Ic (Ic (Se o3 1 ((o3.toList.drop 0).take 7)) 4 (IntKind.wrap .u32 ((A4 (Se o3 1 ((o3.toList.drop 0).take 7)) 4 0)+(IntKind.wrap .u32 ((IntKind.wrap .u32 ((IntKind.wrap .u32 ((IntKind.wrap .u32 ((A4 o3 7 0)+r5))+(Do .u32 (A4 o3 6 0) (E9 .u32 (A4 o3 4 0) (Do .u32 (A4 o3 5 0) (A4 o3 6 0))))))+(A4 Sj j1 0)))+(A4 o2 j1 0)))))) 0 (IntKind.wrap .u32 ((IntKind.wrap .u32 ((IntKind.wrap .u32 ((IntKind.wrap .u32 ((IntKind.wrap .u32 ((A4 o3 7 0)+r5))+(Do .u32 (A4 o3 6 0) (E9 .u32 (A4 o3 4 0) (Do .u32 (A4 o3 5 0) (A4 o3 6 0))))))+(A4 Sj j1 0)))+(A4 o2 j1 0)))+(IntKind.wrap .u32 (r6+(Ny .u32 (E9 .u32 (A4 o3 0 0) (A4 o3 1 0)) (E9 .u32 (A4 o3 2 0) (Ny .u32 (A4 o3 0 0) (A4 o3 1 0))))))))) else .bad
def Jp (o3:(Vector Int 8))(j2:Nat)(o4:(Vector Int 8)):R (Vector Int 8):=
 .ok (Ic o4 j2 (IntKind.wrap .u32 ((A4 o4 j2 0)+(A4 o3 j2 0))))
def Gq (s:(Vector Int 8))(o2:(Vector Int 64)):R (Vector Int 8):=
 (eachS (fun j1 _=>fun o3=>Jq o2 j1 o3) 0 (List.range 64) s).bind ((fun o3=>(eachS (fun j2 _=>fun o4=>Jp o3 j2 o4) 0 (List.range 8) s).bind ((fun o4=>.ok o4))))
def E4 (b:List Int)(s:(Vector Int 8)):R (Vector Int 8):=
 (eachS (fun j _=>fun o=>H2 b j o) 0 (List.range 16) (B3 64 0)).bind ((fun o=>(loop (D0 fun x1 o1=>Fp x1 o1) (16,o)).bind (fun o2=>Gq s o2)))
def Rt (c:Nat)(n:Int)(j:Nat)(o:(Vector Int 128)):R (Vector Int 128):=
 if(0:Int)≤(IntKind.wrap .i64 (8 * (j:Int))) then if(0:Int)≤(IntKind.wrap .i64 (7 - (j:Int)))∧(IntKind.wrap .i64 (7 - (j:Int)))<8 then
 .ok (Ic o (c+Int.toNat (IntKind.wrap .i64 (7 - (j:Int)))) (IntKind.wrap .u8 (Qs .u64 n (IntKind.wrap .i64 (8 * (j:Int)))))) else .bad else .bad
def Nv (c:Nat)(cp:Nat)(n:Int)(s:(Vector Int 128)):R (Vector Int 128):=
 (eachS (fun j _=>fun o=>Rt c n j o) 0 (List.range 8) s).bind ((fun o=>.ok o))
def Pp (c:Nat)(n:Int)(j:Nat)(o:(Vector Int 32)):R (Vector Int 32):=
 if(0:Int)≤(IntKind.wrap .i64 (8 * (j:Int))) then if(0:Int)≤(IntKind.wrap .i64 (3 - (j:Int)))∧(IntKind.wrap .i64 (3 - (j:Int)))<4 then
 .ok (Ic o (c+Int.toNat (IntKind.wrap .i64 (3 - (j:Int)))) (IntKind.wrap .u8 (Qs .u64 n (IntKind.wrap .i64 (8 * (j:Int)))))) else .bad else .bad
def N9 (c:Nat)(cp:Nat)(n:Int)(s:(Vector Int 32)):R (Vector Int 32):=
 (eachS (fun j _=>fun o=>Pp c n j o) 0 (List.range 4) s).bind ((fun o=>.ok o))
def Lg (rest:List Int)(o:(Vector Int 8)):R (((List Int)×(Vector Int 8)) ⊕ ((List Int)×(Vector Int 8))):=
 if(rest.length:Int)≥64 then
(if(0:Int)≤64∧64≤(rest.length:Int) then
 (E4 (rest.take (Int.toNat 64)) o).bind fun r=>
 if(0:Int)≤64∧64≤(rest.length:Int) then
 .ok (.inl ((rest.drop (Int.toNat 64)),r)) else .bad else .bad)
else
(.ok (.inr ((rest,o))))
def Iw (vend:List Int)(o2:(Vector Int 8)):R (((List Int)×(Vector Int 8)) ⊕ (Vector Int 8)):=
 if(vend.length:Int) > 0 then
(if(0:Int)≤64∧64≤(vend.length:Int) then
 (E4 (vend.take (Int.toNat 64)) o2).bind fun r2=>
 if(0:Int)≤64∧64≤(vend.length:Int) then
 .ok (.inl ((vend.drop (Int.toNat 64)),r2)) else .bad else .bad)
else
(.ok (.inr (o2)))
def Rs (o3:(Vector Int 8))(j:Nat)(o4:(Vector Int 32)):R (Vector Int 32):=
 if((IntKind.wrap .i64 ((IntKind.wrap .i64 (4 * (j:Int)))+4))=(IntKind.wrap .i64 (4 * (j:Int)))+4)∧((0:Int)≤(IntKind.wrap .i64 (4 * (j:Int)))∧(IntKind.wrap .i64 (4 * (j:Int)))+4≤32) then
 (N9 (Int.toNat (IntKind.wrap .i64 (4 * (j:Int)))) (32 - (Int.toNat (IntKind.wrap .i64 (4 * (j:Int))))) (IntKind.wrap .u64 (A4 o3 j 0)) o4).bind fun r3=>
 .ok r3 else .bad
def Lf (o3:(Vector Int 8)):R (Vector Int 32):=
 (eachS (fun j _=>fun o4=>Rs o3 j o4) 0 (List.range 8) (B3 32 0)).bind ((fun o4=>.ok o4))
def Ng (vend1:List Int)(o5:(Vector Int 8)):R (((List Int)×(Vector Int 8)) ⊕ (Vector Int 8)):=
 if(vend1.length:Int) > 0 then
(if(0:Int)≤64∧64≤(vend1.length:Int) then
 (E4 (vend1.take (Int.toNat 64)) o5).bind fun r5=>
 if(0:Int)≤64∧64≤(vend1.length:Int) then
 .ok (.inl ((vend1.drop (Int.toNat 64)),r5)) else .bad else .bad)
else
(.ok (.inr (o5)))
def T9 (o6:(Vector Int 8))(j1:Nat)(o7:(Vector Int 32)):R (Vector Int 32):=
 if((IntKind.wrap .i64 ((IntKind.wrap .i64 (4 * (j1:Int)))+4))=(IntKind.wrap .i64 (4 * (j1:Int)))+4)∧((0:Int)≤(IntKind.wrap .i64 (4 * (j1:Int)))∧(IntKind.wrap .i64 (4 * (j1:Int)))+4≤32) then
 (N9 (Int.toNat (IntKind.wrap .i64 (4 * (j1:Int)))) (32 - (Int.toNat (IntKind.wrap .i64 (4 * (j1:Int))))) (IntKind.wrap .u64 (A4 o6 j1 0)) o7).bind fun r6=>
 .ok r6 else .bad
def O7 (o6:(Vector Int 8)):R (Vector Int 32):=
 (eachS (fun j1 _=>fun o7=>T9 o6 j1 o7) 0 (List.range 8) (B3 32 0)).bind ((fun o7=>.ok o7))
def Ld (b:List Int)(rest1:List Int)(o1:(Vector Int 8)):R (Vector Int 32):=
 if rest1.length≤64 then
 if(0:Int)≤(rest1.length:Int)∧(rest1.length:Int)<64 then
 if(rest1.length:Int) > 55 then
((Nv 120 8 (IntKind.wrap .u64 ((IntKind.wrap .u64 (b.length:Int)) * 8)) (Ic (Se (B3 128 (0:Int)) 0 rest1) (Int.toNat (rest1.length:Int)) 128)).bind fun r1=>
 (loop (D0 fun vend o2=>Iw vend o2) ((r1.toList.take 128),o1)).bind (fun o3=>Lf o3))
else
((Nv 56 72 (IntKind.wrap .u64 ((IntKind.wrap .u64 (b.length:Int)) * 8)) (Ic (Se (B3 128 (0:Int)) 0 rest1) (Int.toNat (rest1.length:Int)) 128)).bind fun r4=>
 (loop (D0 fun vend1 o5=>Ng vend1 o5) ((r4.toList.take 64),o1)).bind (fun o6=>O7 o6)) else .bad else .bad
def Dk (b:List Int):R (Vector Int 32):=
 (loop (D0 fun rest o=>Lg rest o) (b,Ace)).bind (D0 fun rest1 o1=>Ld b rest1 o1)
def Ij (n:Int):R (List Int):=
 if n<0 then
(.pan ⟨9,.str [99,97,110,110,111,116,32,98,101,32,110,101,103,97,116,105,118,101]⟩)
else
(if(IntKind.wrap .i64 (n - 0)) > 0 then
(if(0:Int)<(IntKind.wrap .i64 (n - 0))∧(Int.toNat (IntKind.wrap .i64 (n - 0))) * 1≤Cm then
 if(0:Int)≤0∧0≤((List.replicate (Int.toNat (IntKind.wrap .i64 (n - 0))) (0:Int)).length:Int) then
 .ok ((List.replicate (Int.toNat (IntKind.wrap .i64 (n - 0))) (0:Int)).take (Int.toNat 0)) else .bad else .bad)
else
(.ok []))
def If (a:List Int)(size:Int):R Int:=
 if(IntKind.wrap .i64 (size+(a.length:Int)))<0 then
(.pan ⟨9,.str [108,101,110,32,111,117,116,32,111,102,32,114,97,110,103,101]⟩)
else
(.ok (IntKind.wrap .i64 (size+(a.length:Int))))
def Ie (a1:List Int)(newslice1:List Int):R (List Int):=
 if(newslice1.length+a1.length) * 1≤Cm then
 .ok (newslice1++a1) else .bad
def Gl (slices:(List (List Int))):R (List Int):=
 (eachS (fun _ a=>fun size=>If a size) 0 slices 0).bind ((fun size=>(Ij size).bind fun newslice=>
 (eachS (fun _ a1=>fun newslice1=>Ie a1 newslice1) 0 slices newslice).bind ((fun newslice1=>.ok newslice1))))
def Hp (tag:To)(b:List Int):R (Vector Int 32):=
 if tag.length≤Cm then
 (Dk (Nm tag)).bind fun r=>
 (Gl [r.toList,b]).bind fun r1=>
 (Dk r1).bind fun r2=>
 .ok r2 else .bad
def Hb (a:Int)(l1:List Value):R (List Value):=
 if(l1.length+[({ Kind:=1,N:=a,S:=[],L:=[] }:Value)].length) * 56≤Cm then
 .ok (l1++[({ Kind:=1,N:=a,S:=[],L:=[] }:Value)]) else .bad
def Fx (salt:(Vector Int 32))(l:List Int):R (Vector Int 32):=
 (eachS (fun _ a=>fun l1=>Hb a l1) 0 l []).bind ((fun l1=>(Mv ({ Kind:=3,N:=0,S:=[],L:=l1 }:Value)).bind fun r=>
 if r.1.length≠0∧(32+r.1.length) * 1≤Cm then
 (Hp [99,111,115,116] (salt.toList++r.1)).bind fun r1=>
 .ok r1 else .bad))
def Pi (x1:Int)(n1:Int):R Int:=
 if x1≥256 then
((idx ([0,1,2,2,3,3,3,3,4,4,4,4,4,4,4,4,5,5,5,5,5,5,5,5,5,5,5,5,5,5,5,5,6,6,6,6,6,6,6,6,6,6,6,6,6,6,6,6,6,6,6,6,6,6,6,6,6,6,6,6,6,6,6,6,7,7,7,7,7,7,7,7,7,7,7,7,7,7,7,7,7,7,7,7,7,7,7,7,7,7,7,7,7,7,7,7,7,7,7,7,7,7,7,7,7,7,7,7,7,7,7,7,7,7,7,7,7,7,7,7,7,7,7,7,7,7,7,7,8,8,8,8,8,8,8,8,8,8,8,8,8,8,8,8,8,8,8,8,8,8,8,8,8,8,8,8,8,8,8,8,8,8,8,8,8,8,8,8,8,8,8,8,8,8,8,8,8,8,8,8,8,8,8,8,8,8,8,8,8,8,8,8,8,8,8,8,8,8,8,8,8,8,8,8,8,8,8,8,8,8,8,8,8,8,8,8,8,8,8,8,8,8,8,8,8,8,8,8,8,8,8,8,8,8,8,8,8,8,8,8,8,8,8,8,8,8,8,8,8,8,8,8,8,8,8,8]:To) (IntKind.wrap .u8 (Int.fdiv x1 256))).bind fun a1=>
 .ok (IntKind.wrap .i64 ((IntKind.wrap .i64 (n1+8))+(IntKind.wrap .i64 (a1.toNat:Int)))))
else
((idx ([0,1,2,2,3,3,3,3,4,4,4,4,4,4,4,4,5,5,5,5,5,5,5,5,5,5,5,5,5,5,5,5,6,6,6,6,6,6,6,6,6,6,6,6,6,6,6,6,6,6,6,6,6,6,6,6,6,6,6,6,6,6,6,6,7,7,7,7,7,7,7,7,7,7,7,7,7,7,7,7,7,7,7,7,7,7,7,7,7,7,7,7,7,7,7,7,7,7,7,7,7,7,7,7,7,7,7,7,7,7,7,7,7,7,7,7,7,7,7,7,7,7,7,7,7,7,7,7,8,8,8,8,8,8,8,8,8,8,8,8,8,8,8,8,8,8,8,8,8,8,8,8,8,8,8,8,8,8,8,8,8,8,8,8,8,8,8,8,8,8,8,8,8,8,8,8,8,8,8,8,8,8,8,8,8,8,8,8,8,8,8,8,8,8,8,8,8,8,8,8,8,8,8,8,8,8,8,8,8,8,8,8,8,8,8,8,8,8,8,8,8,8,8,8,8,8,8,8,8,8,8,8,8,8,8,8,8,8,8,8,8,8,8,8,8,8,8,8,8,8,8,8,8,8,8,8]:To) (IntKind.wrap .u8 x1)).bind fun a2=>
 .ok (IntKind.wrap .i64 (n1+(IntKind.wrap .i64 (a2.toNat:Int)))))
def Ps (x:Int)(n:Int):R Int:=
 if x≥65536 then
(Pi (Int.fdiv x 65536) (IntKind.wrap .i64 (n+16)))
else
(Pi x n)
def V0 (a:Int):R Int:=
 if a≥4294967296 then
(Ps (Int.fdiv a 4294967296) 32)
else
(Ps a 0)
def X6 (a:Int):R Int:=
 (V0 a).bind fun r=>
 .ok r
def Gw (n:Int):R Int:=
 (X6 (IntKind.wrap .u64 (IntKind.wrap .i64 (n - 1)))).bind fun r=>
 if(0:Int)≤(IntKind.wrap .i64 (r - 1)) then .ok (Sh .i64 1 (IntKind.wrap .i64 (r - 1))) else .bad
def Mi (d:(Vector Int 32)):R (Vector Int 32):=
 (Hp [108,101,97,102] d.toList).bind fun r=>
 .ok r
def Kp (a:(Vector Int 32))(b:(Vector Int 32)):R (Vector Int 32):=
 (Gl [a.toList,b.toList]).bind fun r=>
 (Hp [110,111,100,101] r).bind fun r1=>
 .ok r1
def Gi (vat1:Int)(n1:Int)(first:List Bool):R ((Int×Int×(List Bool)) ⊕ (List Bool)):=
 if n1 > 1 then
((Gw n1).bind fun k=>
 if(first.length+[(decide (vat1<k))].length) * 1≤Cm then
 if vat1<k then
(.ok (.inl (vat1,k,(first++[(decide (vat1<k))]))))
else
(.ok (.inl ((IntKind.wrap .i64 (vat1 - k)),(IntKind.wrap .i64 (n1 - k)),(first++[(decide (vat1<k))])))) else .bad)
else
(.ok (.inr (first)))
def G6 (j:Nat)(a:(Vector Int 32))(o:(Vector Int 32))(first2:List Bool):R ((Vector Int 32)×(List Bool)):=
 (idx first2 (IntKind.wrap .i64 ((IntKind.wrap .i64 ((first2.length:Int) - 1)) - (j:Int)))).bind fun a1=>
 if a1 then
((Kp o a).bind fun r1=>
 .ok (r1,first2))
else
((Kp a o).bind fun r2=>
 .ok (r2,first2))
def Ku (d:(Vector Int 32))(p:(List (Vector Int 32)))(first1:List Bool):R ((Vector Int 32)×Int):=
 if((p.length:Int) != (first1.length:Int)) then
(.ok ((B3 32 0),1))
else
((Mi d).bind fun r=>
 (eachS (fun j a=>D0 fun o first2=>G6 j a o first2) 0 p (r,first1)).bind ((D0 fun o first2=>.ok (o,0))))
def Mw (d:(Vector Int 32))(vat:Int)(n:Int)(p:(List (Vector Int 32))):R ((Vector Int 32)×Int):=
 if((((decide (n<1))||(decide (n > 1099511627776)))||(decide (vat<0)))||(decide (vat≥n))) then
(.ok ((B3 32 0),1))
else
((loop (Sk fun vat1 n1 first=>Gi vat1 n1 first) (vat,n,[])).bind (fun first1=>Ku d p first1))
def Hj (d:(Vector Int 32))(tables:Int)(o:Opening)(x:Int)(r3:((Vector Int 32)×Int))(x1:Int):R (Int ⊕ (Unit ⊕ Int)):=
 if x1<tables then
((Mw r3.1 x1 tables (o.Path.drop (Int.toNat x))).bind fun r4=>
 if((r4.2==0)&&(r4.1==d)) then
(.ok (.inr (.inr (0))))
else
(.ok (.inl (IntKind.wrap .i64 (x1+1)))))
else
(.ok (.inr (.inl (()))))
def Hh (x:Int):R (Int ⊕ (Unit ⊕ Int)):=
 .ok (.inl (IntKind.wrap .i64 (x+1)))
def Fk (d:(Vector Int 32))(tables:Int)(slots:Int)(o:Opening)(r2:(Vector Int 32))(x:Int):R (Int ⊕ (Unit ⊕ Int)):=
 if x<(IntKind.wrap .i64 ((o.Path.length:Int)+1)) then
(if(0:Int)≤x∧x≤(o.Path.length:Int) then
 if(0:Int)≤x∧x≤(o.Path.length:Int) then
 (Mw r2 o.Slot slots (o.Path.take (Int.toNat x))).bind fun r3=>
 if(r3.2 != 0) then
(.ok (.inl (IntKind.wrap .i64 (x+1))))
else
((loop (fun x1=>Hj d tables o x r3 x1) 0).bind (alt (fun _=>Hh x) (fun r=>.ok (.inr (.inr (r)))))) else .bad else .bad)
else
(.ok (.inr (.inl (()))))
def Hg:R Int:=
 .ok 360
def Jh (d:(Vector Int 32))(airline:Int)(tables:Int)(slots:Int)(o:Opening):R Int:=
 (if(((((decide (tables<1))||(decide (tables > 8)))||(decide (slots<1)))||(decide (slots > 8)))||(o.Airline != airline)) then R.ok true else(J1 o.Airline o.Flight).bind fun r=>
 R.ok (!r)).bind (fun(b:Bool)=>(if((b||(decide (o.Slot<0)))||(decide (o.Slot≥slots))) then R.ok true else(Jj o.Cost).bind fun r1=>
 R.ok (!r1)).bind (fun(b1:Bool)=>if b1 then
(.ok 360)
else
((Fx o.Salt [o.Airline,o.Flight,o.Slot,o.Cost]).bind fun r2=>
 (loop (fun x=>Fk d tables slots o r2 x) 0).bind (alt (fun _=>Hg) (fun r=>.ok r)))))
def Jg (c:Clearing)(o:Opening)(x:Bool):R Int:=
 if x then
(.ok 400)
else
((Fw c.Owners).bind fun r=>
 (Gv r.1 o.Airline).bind fun r1=>
 (idx c.Commitments r1).bind fun a1=>
 (Jh a1 o.Airline (Option.getD (Fj r.2 o.Airline) 0) c.Slots o).bind fun r2=>
 .ok r2)
def Hw (c:Clearing)(o:Opening):R Int:=
 (Gv c.Flights o.Flight).bind fun i=>
 if(decide (i<0)) then
(Jg c o true)
else
((idx c.Owners i).bind fun a=>
 Jg c o (a != o.Airline))
def Gu (x1:Bool):R (Unit ⊕ Bool):=
 if x1 then
(.ok (.inr (false)))
else
(.ok (.inl ()))
def It (c:Clearing)(j:Nat)(a:Opening):R (Unit ⊕ Bool):=
 if(decide ((j:Int) > 0)) then
((idx c.Openings (IntKind.wrap .i64 ((j:Int) - 1))).bind fun a1=>
 (Mq a1 a).bind fun r=>
 if(decide (r≥0)) then
(Gu true)
else
((Hw c a).bind fun r1=>
 Gu (r1 != 0)))
else
((Hw c a).bind fun r2=>
 Gu (r2 != 0))
def La (c:Clearing):R Bool:=
 (each (fun j a=>fun _=>It c j a) 0 c.Openings ()).bind (alt (fun _=>.ok true) (fun r=>.ok r))
def Ma (c:Clearing):R Bool:=
 (Fy c).bind fun r=>
 (if r then(La c).bind fun r1=>
 R.ok r1 else R.ok false).bind (fun(b:Bool)=>.ok (b&&((c.Outcome.length:Int)==0)))
def H3 (s:List Opening)(n:Int):R Unit:=
 if n<1 then
(.pan ⟨9,.str [99,97,110,110,111,116,32,98,101,32,108,101,115,115,32,116,104,97,110,32,49]⟩)
else
(.ok ())
section
variable {σ_:Type}
def Ed (b:List Opening)(c:Int)(b_:(List Opening)→σ_→R σ_)(i:Int)(s:σ_):R ((Int×σ_) ⊕ σ_):=
 if i<(b.length:Int) then
(if(0:Int)≤i∧i≤(b.length:Int) then
 if(0:Int)≤i∧i≤(IntKind.wrap .i64 (i+(if((b.drop (Int.toNat i)).length:Int)<c then((b.drop (Int.toNat i)).length:Int) else c)))∧(IntKind.wrap .i64 (i+(if((b.drop (Int.toNat i)).length:Int)<c then((b.drop (Int.toNat i)).length:Int) else c)))≤(b.length:Int) then
 (b_ (cut b i (IntKind.wrap .i64 (i+(if((b.drop (Int.toNat i)).length:Int)<c then((b.drop (Int.toNat i)).length:Int) else c)))) s).bind fun s1=>
 .ok (.inl ((IntKind.wrap .i64 (i+c)),s1)) else .bad else .bad)
else
(.ok (.inr (s)))
def Hn (s2:σ_):R σ_:=
 .ok s2
def E6 (b:List Opening)(c:Int)(b_:(List Opening)→σ_→R σ_)(s_:σ_):R σ_:=
 (loop (D0 fun i s=>Ed b c b_ i s) (0,s_)).bind (fun s2=>Hn s2)
end
def J9 (a1:Opening)(costs:List Int):R (List Int):=
 if(costs.length+[a1.Cost].length) * 8≤Cm then
 .ok (costs++[a1.Cost]) else .bad
def Im (a:List Opening)(l:(List (List Int))):R (List (List Int)):=
 (eachS (fun _ a1=>fun costs=>J9 a1 costs) 0 a []).bind ((fun costs=>if(l.length+[costs].length) * 24≤Cm then
 .ok (l++[costs]) else .bad))
def Ib (c:Clearing):R (Round×Bool):=
 if((c.Openings.length:Int) != (IntKind.wrap .i64 ((c.Flights.length:Int) * c.Slots))) then
(.ok (({ Slots:=0,Owners:=[],Costs:=[] }:Round),false))
else
((H3 c.Openings c.Slots).bind fun _=>
 (E6 c.Openings c.Slots (fun a z_=>R.np ((fun l=>Im a l) z_)) []).bind (fun l=>.ok (({ Slots:=c.Slots,Owners:=c.Owners,Costs:=l }:Round),true)))
def Kc (n:Int)(most:Int):R Bool:=
 .ok ((decide (n<0))||(decide (n > most)))
def Mx (c:Int):R Bool:=
 (Kc (IntKind.wrap .i64 (c+1)) 1048577).bind fun r=>
 .ok r
def Hr (j:Nat)(a:Int):R (Unit ⊕ Int):=
 (Mx a).bind fun r=>
 if r then
(.ok (.inr ((j:Int))))
else
(.ok (.inl ()))
def Ja (s:List Int):R Int:=
 (each (fun j a=>fun _=>Hr j a) 0 s ()).bind (alt (fun _=>.ok (-1)) (fun r=>.ok r))
def Gb (s:List Int):R Bool:=
 (Ja s).bind fun r=>
 .ok (decide (r≥0))
def In (x1:Bool):R (Unit ⊕ Int):=
 if x1 then
(.ok (.inr (370)))
else
(.ok (.inl ()))
def J5 (r:Round)(j:Nat)(a:List Int):R (Unit ⊕ Int):=
 (idx r.Owners (j:Int)).bind fun a1=>
 (Kc a1 7).bind fun r1=>
 if r1 then
(In true)
else
(if((a.length:Int) != r.Slots) then
(In true)
else
((idx a (j:Int)).bind fun a2=>
 if(decide (a2<0)) then
(In true)
else
((Gb a).bind fun r2=>
 In r2)))
def Ks (r:Round):R Int:=
 if((((decide (r.Slots<1))||(decide (r.Slots > 8)))||(decide ((r.Owners.length:Int) > r.Slots)))||((r.Costs.length:Int) != (r.Owners.length:Int))) then
(.ok 370)
else
((each (fun j a=>fun _=>J5 r j a) 0 r.Costs ()).bind (alt (fun _=>.ok 0) (fun r=>.ok r)))
def H5 (r:Round):R Unit:=
 .ok ()
def M6 (s:List Int):R (List Int):=
 if(0:Int)≤(s.length:Int)∧(s.length:Int)≤(s.length:Int) then
 .ok (s.take (Int.toNat (s.length:Int))) else .bad
section
variable {σ_:Type}
def Ff (x:Int)(m2:(List (Int×Bool)))(s2:σ_):R ((Int×(List (Int×Bool))×σ_) ⊕ ((List (Int×Bool))×σ_)):=
 .ok (.inl ((IntKind.wrap .i64 (x+1)),(Mb m2 x false),s2))
def Dt (slots:List Int)(b:Round)(c:Round)(W_:(List Int)→Round→(List (Int×Bool))→Round→σ_→R ((List (Int×Bool))×σ_))(x:Int)(m1:(List (Int×Bool)))(s1:σ_):R ((Int×(List (Int×Bool))×σ_) ⊕ ((List (Int×Bool))×σ_)):=
 if x<b.Slots then
((if(Option.getD (Fj m1 x) false) then R.ok true else(idx b.Costs (slots.length:Int)).bind fun a=>
 (idx a x).bind fun a1=>
 R.ok (decide (a1<0))).bind (fun(b1:Bool)=>if b1 then
(.ok (.inl ((IntKind.wrap .i64 (x+1)),m1,s1)))
else
((M6 slots).bind fun r=>
 if [x].length≠0∧(r.length+[x].length) * 8≤Cm then
 (W_ (r++[x]) c (Mb m1 x true) c s1).bind fun r1=>
 Ff x r1.1 r1.2 else .bad)))
else
(.ok (.inr ((m1,s1))))
def Gx (m3:(List (Int×Bool)))(s3:σ_):R ((List (Int×Bool))×σ_):=
 .ok (m3,s3)
def Ei (W_:(List Int)→Round→(List (Int×Bool))→Round→σ_→R ((List (Int×Bool))×σ_))(slots:List Int)(b:Round)(m:(List (Int×Bool)))(c:Round)(b_:(List Int)→σ_→R σ_)(s_:σ_):R ((List (Int×Bool))×σ_):=
 if((slots.length:Int)==(b.Owners.length:Int)) then
((b_ slots s_).bind fun s=>
 .ok (m,s))
else
((loop (Sk fun x m1 s1=>Dt slots b c W_ x m1 s1) (0,m,s_)).bind (D0 fun m3 s3=>Gx m3 s3))
def Dx (b_:(List Int)→σ_→R σ_):Nat→(List Int)→Round→(List (Int×Bool))→Round→σ_→R ((List (Int×Bool))×σ_)
 | 0,_,_,_,_,_=>.bad
 | n+1,slots,b,m,c,s_=>R.np (Ei (Dx b_ n) slots b m c b_ s_)
def Gc (slots:List Int)(b:Round)(m:(List (Int×Bool)))(c:Round)(b_:(List Int)→σ_→R σ_)(s_:σ_):R ((List (Int×Bool))×σ_):=Dx b_ V3 slots b m c s_
end
section
variable {σ_:Type}
def Eu (b:Round)(b_:(List Int)→σ_→R σ_)(s_:σ_):R σ_:=
 (Gc [] b [] b b_ s_).bind fun r=>
 .ok r.2
def Fi (b:Round)(b_:(List Int)→σ_→R σ_)(s_:σ_):R σ_:=R.np (Eu b b_ s_)
end
def Np (r:Round)(j:Nat)(a:Int)(v1:List Int):R (List Int):=
 (idx v1 0).bind fun a1=>
 (idx r.Costs (j:Int)).bind fun a2=>
 (idx a2 a).bind fun a3=>
 if(a != (j:Int)) then
((idx (v1.set (Int.toNat 0) (IntKind.wrap .i64 (a1+a3))) 1).bind fun a4=>
 .ok ((v1.set (Int.toNat 0) (IntKind.wrap .i64 (a1+a3))).set 1 (IntKind.wrap .i64 (a4+1))))
else
(.ok (v1.set (Int.toNat 0) (IntKind.wrap .i64 (a1+a3))))
def Lz (r:Round)(slots:List Int):R (List Int):=
 (eachS (fun j a=>fun v1=>Np r j a v1) 0 slots [0,0]).bind ((fun v1=>.ok v1))
def Kb (s2:List Int)(j:Nat)(a:Int):R (Unit ⊕ Int):=
 if(j:Int)≥(s2.length:Int) then
(.ok (.inr (1)))
else
((idx s2 (j:Int)).bind fun a1=>
 (K4 a a1).bind fun c=>
 if(c != 0) then
(.ok (.inr (c)))
else
(.ok (.inl ())))
def Ka (s1:List Int)(s2:List Int):R Int:=
 (each (fun j a=>fun _=>Kb s2 j a) 0 s1 ()).bind (alt (fun _=>if(s1.length:Int)<(s2.length:Int) then
(.ok (-1))
else
(.ok 0)) (fun r=>.ok r))
def E3 (s:List Int)(v:Int):R Bool:=
 (Gv s v).bind fun r=>
 .ok (decide (r≥0))
def I0 (r:Round)(slots:List Int)(j:Nat)(a:Int):R (Unit ⊕ Bool):=
 (if((decide (a<0))||(decide (a≥r.Slots))) then R.ok true else(idx r.Costs (j:Int)).bind fun a1=>
 (idx a1 a).bind fun a2=>
 R.ok (decide (a2<0))).bind (fun(b:Bool)=>(if b then R.ok true else if(0:Int)≤(j:Int)∧(j:Int)≤(slots.length:Int) then
 (E3 (slots.take (Int.toNat (j:Int))) a).bind fun r1=>
 R.ok r1 else .bad).bind (fun(b1:Bool)=>if b1 then
(.ok (.inr (false)))
else
(.ok (.inl ()))))
def Nr (r:Round)(slots:List Int):R Bool:=
 if((slots.length:Int) != (r.Owners.length:Int)) then
(.ok false)
else
((each (fun j a=>fun _=>I0 r slots j a) 0 slots ()).bind (alt (fun _=>.ok true) (fun r=>.ok r)))
def Qi (r:Round)(slots:List Int):R (Bool×Int):=
 (Ks r).bind fun e=>
 if(e != 0) then
(.ok (false,e))
else
((Nr r slots).bind fun ok=>
 .ok (ok,0))
def Sl (r:Round)(slots:List Int):R Int:=
 (Qi r slots).bind fun r1=>
 if((r1.2 != 0)||(!r1.1)) then
(.ok 370)
else
(.ok 0)
def L1 (j:Nat)(l:List Int):R (List Int):=
 if(l.length+[(j:Int)].length) * 8≤Cm then
 .ok (l++[(j:Int)]) else .bad
def Iv (r:Round):R (List Int):=
 (eachS (fun j _=>fun l=>L1 j l) 0 r.Owners []).bind ((fun l=>.ok l))
def Ml (r:Round)(slots:List Int)(j:Nat)(a:Int)(out:List Int):R (List Int):=
 (idx r.Owners a).bind fun a1=>
 (idx out a1).bind fun a2=>
 (idx r.Costs a).bind fun a3=>
 (idx slots (j:Int)).bind fun a4=>
 (idx a3 a4).bind fun a5=>
 .ok (out.set (Int.toNat a1) (IntKind.wrap .i64 (a2+a5)))
def G8 (r:Round)(flights:List Int)(slots:List Int):R (List Int):=
 if(0:Int)≤8∧(8:Int)≤8∧(Int.toNat 8) * 8≤Cm then
 (eachS (fun j a=>fun out=>Ml r slots j a out) 0 flights (List.replicate (Int.toNat 8) (0:Int))).bind ((fun out=>.ok out)) else .bad
def Kk (before:List Int)(j:Nat)(a:Int)(l:List Int):R (List Int):=
 (idx before (j:Int)).bind fun a1=>
 if a > a1 then
(if(l.length+[(j:Int)].length) * 8≤Cm then
 .ok (l++[(j:Int)]) else .bad)
else
(.ok l)
def M8 (r:Round)(slots:List Int):R ((List Int)×Int):=
 (Sl r slots).bind fun e=>
 if(e != 0) then
(.ok ([],e))
else
((Iv r).bind fun r1=>
 (Iv r).bind fun r2=>
 (G8 r r1 r2).bind fun before=>
 (Iv r).bind fun r3=>
 (G8 r r3 slots).bind fun r4=>
 (eachS (fun j a=>fun l=>Kk before j a l) 0 r4 []).bind ((fun l=>.ok (l,0))))
def Gp (r:Round)(l:List Int):R Unit:=
 .ok ()
def Gs (s:List Int):R (List Int):=if s.length * 8≤Cm then .ok s else .bad
section
variable {σ_ ε_:Type}
def Dd (s3:σ_):R (σ_ ⊕ (σ_ ⊕ ε_)):=
 .ok (.inl s3)
def Ee (begin:List Int)(b:List Int)(d:Round)(c:List Int)(c1:Round)(W_:(List Int)→(List Int)→Round→(List Int)→Round→σ_→R (σ_ ⊕ ε_))(a:Int)(s1:σ_):R (σ_ ⊕ (σ_ ⊕ ε_)):=
 (idx b (begin.length:Int)).bind fun a1=>
 (idx d.Costs a1).bind fun a2=>
 (idx a2 a).bind fun a3=>
 if(decide (a3≥0)) then
((E3 begin a).bind fun r1=>
 if(!r1) then
(if(0:Int)≤(begin.length:Int)∧(begin.length:Int)≤(begin.length:Int) then
 if [a].length≠0∧((begin.take (Int.toNat (begin.length:Int))).length+[a].length) * 8≤Cm then
 (W_ ((begin.take (Int.toNat (begin.length:Int)))++[a]) c c1 c c1 s1).bind (alt (fun s2=>
 Dd s2) (fun e1=>
 .ok (.inr ((Sum.inr (α:=σ_) e1))))) else .bad else .bad)
else
(Dd s1))
else
(Dd s1)
def Ej (W_:(List Int)→(List Int)→Round→(List Int)→Round→σ_→R (σ_ ⊕ ε_))(begin:List Int)(b:List Int)(d:Round)(c:List Int)(c1:Round)(b_:(List Int)→σ_→R (σ_ ⊕ ε_))(s_:σ_):R (σ_ ⊕ ε_):=
 if((begin.length:Int)==(b.length:Int)) then
((Gs begin).bind fun r=>
 (b_ r s_).bind (alt (fun s=>
 .ok (Sum.inl (β:=ε_) s)) (fun e=>
 .ok (Sum.inr (α:=σ_) e))))
else
((each (fun _ a=>fun s1=>Ee begin b d c c1 W_ a s1) 0 b s_).bind (alt (fun s1=>.ok (Sum.inl (β:=ε_) s1)) (fun r=>.ok r)))
def Dw (b_:(List Int)→σ_→R (σ_ ⊕ ε_)):Nat→(List Int)→(List Int)→Round→(List Int)→Round→σ_→R (σ_ ⊕ ε_)
 | 0,_,_,_,_,_,_=>.bad
 | n+1,begin,b,d,c,c1,s_=>R.np (Ej (Dw b_ n) begin b d c c1 b_ s_)
def Ge (begin:List Int)(b:List Int)(d:Round)(c:List Int)(c1:Round)(b_:(List Int)→σ_→R (σ_ ⊕ ε_))(s_:σ_):R (σ_ ⊕ ε_):=Dw b_ V3 begin b d c c1 s_
end
section
variable {σ_ ε_:Type}
def Et (b:List Int)(c:Round)(b_:(List Int)→σ_→R (σ_ ⊕ ε_))(s_:σ_):R (σ_ ⊕ ε_):=
 (Ge [] b c b c b_ s_).bind (alt (fun s=>
 .ok (Sum.inl (β:=ε_) s)) (fun e=>
 .ok (Sum.inr (α:=σ_) e)))
def Eg (b:List Int)(c:Round)(b_:(List Int)→σ_→R (σ_ ⊕ ε_))(s_:σ_):R (σ_ ⊕ ε_):=R.np (Et b c b_ s_)
end
def Ia (group:List Int)(j:Nat)(a:Int)(l:List Int):R (List Int):=
 (E3 group a).bind fun r1=>
 if r1 then
(if(l.length+[(j:Int)].length) * 8≤Cm then
 .ok (l++[(j:Int)]) else .bad)
else
(.ok l)
def Lq (than:List Int)(now:List Int)(a2:Int):R (Unit ⊕ Unit):=
 (idx now a2).bind fun a3=>
 (idx than a2).bind fun a4=>
 if a3≥a4 then
(.ok (.inr (())))
else
(.ok (.inl ()))
def Lu:R (Unit ⊕ (List Int)):=
 .ok (.inl ())
def Gz (r:Round)(than:List Int)(group:List Int)(l:List Int)(a1:List Int):R (Unit ⊕ (List Int)):=
 (G8 r l a1).bind fun now=>
 (each (fun _ a2=>fun _=>Lq than now a2) 0 group ()).bind (alt (fun _=>.ok (.inr a1)) (fun _=>Lu))
def Iq (r:Round)(than:List Int)(group:List Int):R ((List Int)×Bool):=
 (eachS (fun j a=>fun l=>Ia group j a l) 0 r.Owners []).bind ((fun l=>(Gp r l).bind fun _=>
 (Eg l r (fun a1 z_=>R.np ((fun _=>Gz r than group l a1) z_)) ()).bind (alt (fun _=>.ok ([],false)) (fun o=>.ok (o,true)))))
def H6 (r:Round)(j:Nat)(j1:Nat)(group:List Int):R ((List Int) ⊕ Unit):=
 if(0:Int)≤(j1:Int) then if((E9 .i64 (Qs .i64 (j:Int) (j1:Int)) 1)==0) then
(.ok (.inl group))
else
((E3 r.Owners (j1:Int)).bind fun r3=>
 if r3 then
(if(group.length+[(j1:Int)].length) * 8≤Cm then
 .ok (.inl (group++[(j1:Int)])) else .bad)
else
(.ok (.inr (())))) else .bad
def D3:R (Unit ⊕ (Bool×Int)):=
 .ok (.inl ())
def H9 (r:Round)(than:List Int)(j:Nat):R (Unit ⊕ (Bool×Int)):=
 (each (fun j1 _=>fun group=>H6 r j j1 group) 0 (List.range 8) []).bind (alt (fun group=>if((group.length:Int)==0) then
(D3)
else
((Iq r than group).bind fun r4=>
 if r4.2 then
(.ok (.inr ((false,0))))
else
(D3))) (fun _=>D3))
def Ek (r:Round)(slots:List Int):R (Bool×Int):=
 (M8 r slots).bind fun r1=>
 if((r1.2 != 0)||(decide ((r1.1.length:Int) > 0))) then
(.ok (false,r1.2))
else
((Iv r).bind fun r2=>
 (G8 r r2 slots).bind fun than=>
 (each (fun j _=>fun _=>H9 r than j) 0 (List.range 256) ()).bind (alt (fun _=>.ok (true,0)) (fun r=>.ok r)))
def Ir (r:Round)(a:List Int)(o:List Int)(o1:List Int):R ((List Int)×(List Int)):=
 (Lz r a).bind fun v=>
 (if(!List.isEmpty o1) then(Ka v o1).bind fun r2=>
 R.ok (decide (r2≥0)) else R.ok false).bind (fun(b:Bool)=>if b then
(.ok (o,o1))
else
((Ek r a).bind fun r3=>
 if((r3.2==0)&&r3.1) then
((Gs a).bind fun r4=>
 if v.length≠0 then
 .ok (r4,v) else .bad)
else
(.ok (o,o1))))
def Nf (r:Round):R ((List Int)×Int):=
 (Ks r).bind fun e=>
 if(e != 0) then
(.ok ([],e))
else
((H5 r).bind fun _=>
 (Fi r (fun a z_=>R.np ((D0 fun o o1=>Ir r a o o1) z_)) ([],[])).bind (D0 fun o o1=>if(List.isEmpty o1) then
(.ok ([],380))
else
(.ok (o,0))))
def K0 (j:Nat)(outcome:List Int):R (List Int):=
 if(outcome.length+[(j:Int)].length) * 8≤Cm then
 .ok (outcome++[(j:Int)]) else .bad
def Ho (r:Round):R ((List Int)×Int):=
 (Nf r).bind fun r1=>
 if(r1.2==0) then
(.ok (r1.1,3))
else
((eachS (fun j _=>fun outcome=>K0 j outcome) 0 r.Owners []).bind ((fun outcome=>.ok (outcome,4))))
def Lt (s2:List Int)(j:Nat)(a:Int):R (Unit ⊕ Bool):=
 (idx s2 (j:Int)).bind fun a1=>
 if(a != a1) then
(.ok (.inr (false)))
else
(.ok (.inl ()))
def J4 (s1:List Int)(s2:List Int):R Bool:=
 if((s1.length:Int) != (s2.length:Int)) then
(.ok false)
else
((each (fun j a=>fun _=>Lt s2 j a) 0 s1 ()).bind (alt (fun _=>.ok true) (fun r=>.ok r)))
def Ji (c:Clearing):R Bool:=
 (Fy c).bind fun r=>
 (if(!r) then R.ok true else(La c).bind fun r1=>
 R.ok (!r1)).bind (fun(b:Bool)=>if b then
(.ok false)
else
((Ib c).bind fun r2=>
 if r2.2 then
((Ho r2.1).bind fun r3=>
 (if(r3.2==c.Phase) then(J4 r3.1 c.Outcome).bind fun r4=>
 R.ok r4 else R.ok false).bind (fun(b1:Bool)=>.ok b1))
else
(.ok false)))
def Df (x:Bool):R Int:=
 if x then
(.ok 400)
else
(.ok 0)
def C4 (c:Clearing):R Int:=
 (Ni c).bind fun r=>
 if(!r) then
(Df true)
else
(if(decide (c.Phase<1)) then
(Df true)
else
(if(decide (c.Phase > 4)) then
(Df true)
else
(if c.Phase=0 then
(.bad)
else
(if c.Phase=1 then
((Og c).bind fun r1=>
 Df (!r1))
else
(if c.Phase=2 then
((Ma c).bind fun r2=>
 Df (!r2))
else
(if c.Phase=3 then
((Ji c).bind fun r3=>
 Df (!r3))
else
(if c.Phase=4 then
((Ji c).bind fun r4=>
 Df (!r4))
else
(.bad))))))))
def Th (no:Int)(slots:Int)(owners:List Int)(flights:List Int):R (Clearing×Int):=
 (Fw owners).bind fun r=>
 if(0:Int)≤(r.1.length:Int)∧((r.1.length:Int):Int)≤(r.1.length:Int)∧(Int.toNat (r.1.length:Int)) * 32≤Cm then
 (C4 ({ No:=no,Phase:=1,Slots:=slots,Owners:=owners,Flights:=flights,Commitments:=(List.replicate (Int.toNat (r.1.length:Int)) (B3 32 0)),Openings:=[],Outcome:=[] }:Clearing)).bind fun e=>
 if(e != 0) then
(.ok (({ No:=0,Phase:=0,Slots:=0,Owners:=[],Flights:=[],Commitments:=[],Openings:=[],Outcome:=[] }:Clearing),e))
else
(.ok (({ No:=no,Phase:=1,Slots:=slots,Owners:=owners,Flights:=flights,Commitments:=(List.replicate (Int.toNat (r.1.length:Int)) (B3 32 0)),Openings:=[],Outcome:=[] }:Clearing),0)) else .bad
def Sf (c:Int):R Bool:=
 (Jj c).bind fun r=>
 .ok (!r)
def Jw (j:Nat)(a:Int):R (Unit ⊕ Int):=
 (Sf a).bind fun r=>
 if r then
(.ok (.inr ((j:Int))))
else
(.ok (.inl ()))
def O2 (s:List Int):R Int:=
 (each (fun j a=>fun _=>Jw j a) 0 s ()).bind (alt (fun _=>.ok (-1)) (fun r=>.ok r))
def Nb (s:List Int):R Bool:=
 (O2 s).bind fun r=>
 .ok (decide (r≥0))
def Uk (t:Table):R Int:=
 (J1 t.Airline t.Flight).bind fun r=>
 (if(((!r)||(decide ((t.Costs.length:Int)<1)))||(decide ((t.Costs.length:Int) > 8))) then R.ok true else(Nb t.Costs).bind fun r1=>
 R.ok r1).bind (fun(b:Bool)=>if b then
(.ok 360)
else
(.ok 0))
def H8 (x1:Bool):R (Unit ⊕ Bool):=
 if x1 then
(.ok (.inr (false)))
else
(.ok (.inl ()))
def Ov (l:List Table)(j:Nat)(a:Table):R (Unit ⊕ Bool):=
 (Uk a).bind fun r=>
 if(r != 0) then
(H8 true)
else
((idx l 0).bind fun a1=>
 if(a.Airline != a1.Airline) then
(H8 true)
else
(if((a.Costs.length:Int) != (a1.Costs.length:Int)) then
(H8 true)
else
(if(decide ((j:Int) > 0)) then
((idx l (IntKind.wrap .i64 ((j:Int) - 1))).bind fun a2=>
 H8 (decide (a.Flight≤a2.Flight)))
else
(H8 false))))
def L9 (l:List Table):R Bool:=
 if((decide ((l.length:Int)<1))||(decide ((l.length:Int) > 8))) then
(.ok false)
else
((each (fun j a=>fun _=>Ov l j a) 0 l ()).bind (alt (fun _=>.ok true) (fun r=>.ok r)))
def Lr (t:Table):R Unit:=
 .ok ()
section
variable {σ_:Type}
def He (b:Table)(b_:(Vector Int 32)→σ_→R σ_)(j:Nat)(a:Int)(s:σ_):R σ_:=
 (Fx b.Salt [b.Airline,b.Flight,(j:Int),a]).bind fun r=>
 (b_ r s).bind fun s1=>
 .ok s1
def Iz (b:Table)(b_:(Vector Int 32)→σ_→R σ_)(s_:σ_):R σ_:=
 (eachS (fun j a=>fun s=>He b b_ j a s) 0 b.Costs s_).bind ((fun s=>.ok s))
end
def Nw (a:(Vector Int 32))(l:(List (Vector Int 32))):R (List (Vector Int 32)):=
 if(l.length+[a].length) * 32≤Cm then
 .ok (l++[a]) else .bad
def Jf (t:Table):R (List (Vector Int 32)):=
 (Lr t).bind fun _=>
 (Iz t (fun a z_=>R.np ((fun l=>Nw a l) z_)) []).bind (fun l=>.ok l)
def Ry (W_:(List (Vector Int 32))→R (Vector Int 32))(l:(List (Vector Int 32))):R (Vector Int 32):=
 if((l.length:Int)==0) then
((Hp [101,109,112,116,121] []).bind fun r=>
 .ok r)
else
(if((l.length:Int)==1) then
((idx l 0).bind fun a=>
 (Mi a).bind fun r1=>
 .ok r1)
else
((Gw (l.length:Int)).bind fun n=>
 if(0:Int)≤n∧n≤(l.length:Int) then
 if(0:Int)≤n∧n≤(l.length:Int) then
 (W_ (l.take (Int.toNat n))).bind fun r2=>
 (W_ (l.drop (Int.toNat n))).bind fun r3=>
 (Kp r2 r3).bind fun r4=>
 .ok r4 else .bad else .bad))
def Ru:Nat→(List (Vector Int 32))→R (Vector Int 32)
 | 0,_=>.bad
 | n+1,l=>Ry (Ru n) l
def P6 (l:(List (Vector Int 32))):R (Vector Int 32):=Ru V3 l
def Id (a:Table)(d:(List (Vector Int 32))):R (List (Vector Int 32)):=
 (Jf a).bind fun r=>
 (P6 r).bind fun r1=>
 if(d.length+[r1].length) * 32≤Cm then
 .ok (d++[r1]) else .bad
def Hc (l:List Table):R (List (Vector Int 32)):=
 (eachS (fun _ a=>fun d=>Id a d) 0 l []).bind ((fun d=>.ok d))
def Nk (l:List Table):R ((Vector Int 32)×Int):=
 (L9 l).bind fun r=>
 if r then
((Hc l).bind fun r1=>
 (P6 r1).bind fun r2=>
 .ok (r2,0))
else
(.ok ((B3 32 0),360))
def Lv (s:List (Vector Int 32)):R (List (Vector Int 32)):=if s.length * 32≤Cm then .ok s else .bad
def En (c:Clearing)(airline:Int)(d:(Vector Int 32)):R (Clearing×Int):=
 (C4 c).bind fun e=>
 if(e != 0) then
(.ok (({ No:=0,Phase:=0,Slots:=0,Owners:=[],Flights:=[],Commitments:=[],Openings:=[],Outcome:=[] }:Clearing),e))
else
((Fw c.Owners).bind fun r=>
 (Gv r.1 airline).bind fun i=>
 if((decide (i<0))||(d==(#v[0,0,0,0,0,0,0,0,0,0,0,0,0,0,0,0,0,0,0,0,0,0,0,0,0,0,0,0,0,0,0,0]:(Vector Int 32)))) then
(.ok (({ No:=0,Phase:=0,Slots:=0,Owners:=[],Flights:=[],Commitments:=[],Openings:=[],Outcome:=[] }:Clearing),400))
else
((idx c.Commitments i).bind fun a=>
 if(a==d) then
(.ok (c,0))
else
(if(a==(#v[0,0,0,0,0,0,0,0,0,0,0,0,0,0,0,0,0,0,0,0,0,0,0,0,0,0,0,0,0,0,0,0]:(Vector Int 32))) then
((Lv c.Commitments).bind fun r1=>
 (idx r1 i).bind fun a1=>
 (Fy ({ No:=c.No,Phase:=c.Phase,Slots:=c.Slots,Owners:=c.Owners,Flights:=c.Flights,Commitments:=(r1.set (Int.toNat i) d),Openings:=c.Openings,Outcome:=c.Outcome }:Clearing)).bind fun r2=>
 if r2 then
(.ok (({ No:=c.No,Phase:=2,Slots:=c.Slots,Owners:=c.Owners,Flights:=c.Flights,Commitments:=(r1.set (Int.toNat i) d),Openings:=c.Openings,Outcome:=c.Outcome }:Clearing),0))
else
(.ok (({ No:=c.No,Phase:=c.Phase,Slots:=c.Slots,Owners:=c.Owners,Flights:=c.Flights,Commitments:=(r1.set (Int.toNat i) d),Openings:=c.Openings,Outcome:=c.Outcome }:Clearing),0)))
else
(.ok (({ No:=0,Phase:=0,Slots:=0,Owners:=[],Flights:=[],Commitments:=[],Openings:=[],Outcome:=[] }:Clearing),400)))))
def Hq (i:Int)(j:Int)(s:(List (Vector Int 32))):R ((Int×Int×(List (Vector Int 32))) ⊕ (List (Vector Int 32))):=
 if i<j then
((idx s j).bind fun a=>
 (idx s i).bind fun a1=>
 (idx (s.set (Int.toNat i) a) j).bind fun a2=>
 .ok (.inl ((IntKind.wrap .i64 (i+1)),(IntKind.wrap .i64 (j - 1)),((s.set (Int.toNat i) a).set (Int.toNat j) a1))))
else
(.ok (.inr (s)))
def Hs (l1:(List (Vector Int 32))):R (List (Vector Int 32)):=
 .ok l1
def Hd (l:(List (Vector Int 32))):R (List (Vector Int 32)):=
 (loop (Sk fun i j s=>Hq i j s) (0,(IntKind.wrap .i64 ((l.length:Int) - 1)),l)).bind (fun l1=>Hs l1)
def N3 (l1:(List (Vector Int 32)))(vat1:Int)(p:(List (Vector Int 32))):R (((List (Vector Int 32))×Int×(List (Vector Int 32))) ⊕ (List (Vector Int 32))):=
 if(l1.length:Int) > 1 then
((Gw (l1.length:Int)).bind fun n=>
 if vat1<n then
(if(0:Int)≤n∧n≤(l1.length:Int) then
 if(0:Int)≤n∧n≤(l1.length:Int) then
 (P6 (l1.drop (Int.toNat n))).bind fun r=>
 if(p.length+[r].length) * 32≤Cm then
 .ok (.inl ((l1.take (Int.toNat n)),vat1,(p++[r]))) else .bad else .bad else .bad)
else
(if(0:Int)≤n∧n≤(l1.length:Int) then
 if(0:Int)≤n∧n≤(l1.length:Int) then
 (P6 (l1.take (Int.toNat n))).bind fun r1=>
 if(p.length+[r1].length) * 32≤Cm then
 .ok (.inl ((l1.drop (Int.toNat n)),(IntKind.wrap .i64 (vat1 - n)),(p++[r1]))) else .bad else .bad else .bad))
else
(.ok (.inr (p)))
def N0 (p1:(List (Vector Int 32))):R ((List (Vector Int 32))×Int):=
 (Hd p1).bind fun r2=>
 .ok (r2,0)
def Nx (l:(List (Vector Int 32)))(vat:Int):R ((List (Vector Int 32))×Int):=
 if((decide (vat<0))||(decide (vat≥(l.length:Int)))) then
(.ok ([],1))
else
((loop (Sk fun l1 vat1 p=>N3 l1 vat1 p) (l,vat,[])).bind (fun p1=>N0 p1))
def Kt (n:Int):R (List (Vector Int 32)):=
 if n<0 then
(.pan ⟨9,.str [99,97,110,110,111,116,32,98,101,32,110,101,103,97,116,105,118,101]⟩)
else
(if(IntKind.wrap .i64 (n - 0)) > 0 then
(if(0:Int)<(IntKind.wrap .i64 (n - 0))∧(Int.toNat (IntKind.wrap .i64 (n - 0))) * 32≤Cm then
 if(0:Int)≤0∧0≤((List.replicate (Int.toNat (IntKind.wrap .i64 (n - 0))) ((B3 32 0):(Vector Int 32))).length:Int) then
 .ok ((List.replicate (Int.toNat (IntKind.wrap .i64 (n - 0))) ((B3 32 0):(Vector Int 32))).take (Int.toNat 0)) else .bad else .bad)
else
(.ok []))
def Lo (a:(List (Vector Int 32)))(size:Int):R Int:=
 if(IntKind.wrap .i64 (size+(a.length:Int)))<0 then
(.pan ⟨9,.str [108,101,110,32,111,117,116,32,111,102,32,114,97,110,103,101]⟩)
else
(.ok (IntKind.wrap .i64 (size+(a.length:Int))))
def Je (a1:(List (Vector Int 32)))(newslice1:(List (Vector Int 32))):R (List (Vector Int 32)):=
 if(newslice1.length+a1.length) * 32≤Cm then
 .ok (newslice1++a1) else .bad
def I3 (slices:(List (List (Vector Int 32)))):R (List (Vector Int 32)):=
 (eachS (fun _ a=>fun size=>Lo a size) 0 slices 0).bind ((fun size=>(Kt size).bind fun newslice=>
 (eachS (fun _ a1=>fun newslice1=>Je a1 newslice1) 0 slices newslice).bind ((fun newslice1=>.ok newslice1))))
def Pv (l:List Table)(vat:Int)(slot:Int):R (Opening×Int):=
 (L9 l).bind fun r=>
 (if((((!r)||(decide (vat<0)))||(decide (vat≥(l.length:Int))))||(decide (slot<0))) then R.ok true else(idx l 0).bind fun a=>
 R.ok (decide (slot≥(a.Costs.length:Int)))).bind (fun(b:Bool)=>if b then
(.ok (({ Airline:=0,Flight:=0,Slot:=0,Cost:=0,Salt:=(B3 32 0),Path:=[] }:Opening),360))
else
((idx l vat).bind fun a1=>
 (Jf a1).bind fun r1=>
 (Nx r1 slot).bind fun r2=>
 (Hc l).bind fun r3=>
 (Nx r3 vat).bind fun r4=>
 (idx a1.Costs slot).bind fun a2=>
 (I3 [r2.1,r4.1]).bind fun r5=>
 .ok (({ Airline:=a1.Airline,Flight:=a1.Flight,Slot:=slot,Cost:=a2,Salt:=a1.Salt,Path:=r5 }:Opening),0)))
def C6 (a:List Opening)(target:Opening)(i:Int)(j:Int):R ((Int×Int) ⊕ Int):=
 if i<j then
((idx a (IntKind.wrap .i64 (Int.fdiv (IntKind.wrap .u64 (IntKind.wrap .i64 (i+j))) 2))).bind fun a1=>
 (Mq a1 target).bind fun r=>
 if r<0 then
(.ok (.inl ((IntKind.wrap .i64 ((IntKind.wrap .i64 (Int.fdiv (IntKind.wrap .u64 (IntKind.wrap .i64 (i+j))) 2))+1)),j)))
else
(.ok (.inl (i,(IntKind.wrap .i64 (Int.fdiv (IntKind.wrap .u64 (IntKind.wrap .i64 (i+j))) 2))))))
else
(.ok (.inr (i)))
def Dj (a:List Opening)(target:Opening)(i1:Int):R (Int×Bool):=
 if(decide (i1<(a.length:Int))) then
((idx a i1).bind fun a2=>
 (Mq a2 target).bind fun r1=>
 .ok (i1,(r1==0)))
else
(.ok (i1,false))
def Dc (a:List Opening)(target:Opening):R (Int×Bool):=
 (loop (D0 fun i j=>C6 a target i j) (0,(a.length:Int))).bind (fun i1=>Dj a target i1)
def Ky (s:List Opening):R (List Opening):=if s.length * 88≤Cm then .ok s else .bad
def Oi (i:Int)(l:List Opening)(l2:List Opening):R (List Opening):=S1 88 l i l2
def Hi (r:(Int×Bool))(y2:List Opening):R (Int×Bool×(List Opening)):=
 .ok (r.1,false,y2)
def Fb (l:List Opening)(b:Opening):R (Int×Bool×(List Opening)):=
 (Dc l b).bind fun r=>
 if r.2 then
(.ok (r.1,true,l))
else
((Ky l).bind fun r1=>
 (Oi r.1 r1 [b]).bind fun y=>
 Hi r y)
def Jt (s2:(List (Vector Int 32)))(j:Nat)(a:(Vector Int 32)):R (Unit ⊕ Bool):=
 (idx s2 (j:Int)).bind fun a1=>
 if(a==a1) then
(.ok (.inl ()))
else
(.ok (.inr (false)))
def Ls (s1:(List (Vector Int 32)))(s2:(List (Vector Int 32))):R Bool:=
 if((s1.length:Int) != (s2.length:Int)) then
(.ok false)
else
((each (fun j a=>fun _=>Jt s2 j a) 0 s1 ()).bind (alt (fun _=>.ok true) (fun r=>.ok r)))
def R9 (a:Opening)(b:Opening):R Bool:=
 (if(((((a.Airline==b.Airline)&&(a.Flight==b.Flight))&&(a.Slot==b.Slot))&&(a.Cost==b.Cost))&&(a.Salt==b.Salt)) then(Ls a.Path b.Path).bind fun r=>
 R.ok r else R.ok false).bind (fun(b1:Bool)=>.ok b1)
def Kg (c:Clearing)(r:(Int×Bool×(List Opening)))(x:Bool):R (Clearing×Int):=
 if x then
(.ok (({ No:=0,Phase:=0,Slots:=0,Owners:=[],Flights:=[],Commitments:=[],Openings:=[],Outcome:=[] }:Clearing),400))
else
(.ok (({ No:=c.No,Phase:=c.Phase,Slots:=c.Slots,Owners:=c.Owners,Flights:=c.Flights,Commitments:=c.Commitments,Openings:=r.2.2,Outcome:=c.Outcome }:Clearing),0))
def Ix (c:Clearing)(o:Opening):R (Clearing×Int):=
 (C4 c).bind fun e=>
 if(e != 0) then
(.ok (({ No:=0,Phase:=0,Slots:=0,Owners:=[],Flights:=[],Commitments:=[],Openings:=[],Outcome:=[] }:Clearing),e))
else
(if(c.Phase==1) then
(.ok (({ No:=0,Phase:=0,Slots:=0,Owners:=[],Flights:=[],Commitments:=[],Openings:=[],Outcome:=[] }:Clearing),401))
else
((Hw c o).bind fun e1=>
 if(e1 != 0) then
(.ok (({ No:=0,Phase:=0,Slots:=0,Owners:=[],Flights:=[],Commitments:=[],Openings:=[],Outcome:=[] }:Clearing),e1))
else
((Fb c.Openings o).bind fun r=>
 if r.2.1 then
((idx c.Openings r.1).bind fun a=>
 (R9 a o).bind fun r1=>
 Kg c r (!r1))
else
(Kg c r false))))
def Qo (i:Int)(o:Clearing)(o1:Table):R ((Int×Int×Clearing) ⊕ ((Int×Clearing) ⊕ (Clearing×Bool))):=
 if i≤2 then
((Nk [o1]).bind fun r1=>
 if(r1.2 != 0) then
(.ok (.inr (.inr ((o,false)))))
else
((En o o1.Airline r1.1).bind fun r2=>
 .ok (.inl (r2.2,(IntKind.wrap .i64 (i+1)),r2.1))))
else
((Pv [o1] 0 (IntKind.wrap .i64 (Int.tdiv (IntKind.wrap .i64 (i - 3)) 2))).bind fun r3=>
 if(r3.2 != 0) then
(.ok (.inr (.inr ((o,false)))))
else
((Ix o r3.1).bind fun r4=>
 .ok (.inl (r4.2,(IntKind.wrap .i64 (i+1)),r4.1))))
def Qq (steps:Int)(e:Int)(i:Int)(o:Clearing):R ((Int×Int×Clearing) ⊕ ((Int×Clearing) ⊕ (Clearing×Bool))):=
 if((decide (i≤steps))&&(e==0)) then
(if((Int.tmod i 2)==0) then
(Qo i o ({ Airline:=3,Flight:=9,Costs:=[2,6],Salt:=(B3 32 0) }:Table))
else
(Qo i o ({ Airline:=0,Flight:=5,Costs:=[4,1],Salt:=(B3 32 0) }:Table)))
else
(.ok (.inr (.inl ((e,o)))))
def Td (e1:Int)(o2:Clearing):R (Clearing×Bool):=
 .ok (o2,(e1==0))
def U8 (steps:Int):R (Clearing×Bool):=
 (Th 1 2 [0,3] [5,9]).bind fun r=>
 (loop (Sk fun e i o=>Qq steps e i o) (r.2,1,r.1)).bind (alt (D0 fun e1 o2=>Td e1 o2) (fun r=>.ok r))
def Mr (c:Clearing):R (Round×Int):=
 (C4 c).bind fun e=>
 if(e != 0) then
(.ok (({ Slots:=0,Owners:=[],Costs:=[] }:Round),e))
else
((Ib c).bind fun r=>
 if r.2 then
(.ok (r.1,0))
else
(.ok (({ Slots:=0,Owners:=[],Costs:=[] }:Round),401)))
def Jn (c:Clearing):R (Clearing×Int):=
 (Mr c).bind fun r=>
 if(r.2 != 0) then
(.ok (({ No:=0,Phase:=0,Slots:=0,Owners:=[],Flights:=[],Commitments:=[],Openings:=[],Outcome:=[] }:Clearing),r.2))
else
(if(c.Phase==2) then
((Ho r.1).bind fun r1=>
 .ok (({ No:=c.No,Phase:=r1.2,Slots:=c.Slots,Owners:=c.Owners,Flights:=c.Flights,Commitments:=c.Commitments,Openings:=c.Openings,Outcome:=r1.1 }:Clearing),0))
else
(.ok (c,0)))
def Oh (n:Int)(lo:Int)(hi:Int):R Bool:=
 .ok ((decide (lo≤n))&&(decide (n≤hi)))
def I8 (m:(List (Int×Bool)))(a:Lease)(x1:Bool):R ((List (Int×Bool)) ⊕ Int):=
 if x1 then
(.ok (.inr (350)))
else
(.ok (.inl (Mb m a.Token true)))
def Ti (l:Leases)(j:Nat)(a:Lease)(m:(List (Int×Bool))):R ((List (Int×Bool)) ⊕ Int):=
 (Oh a.Slot 0 4095).bind fun r1=>
 if(!r1) then
(I8 m a true)
else
((Oh a.Airline 0 7).bind fun r2=>
 if(!r2) then
(I8 m a true)
else
((Oh a.Flight 0 4095).bind fun r3=>
 if(!r3) then
(I8 m a true)
else
((Oh a.Token 1 l.Token).bind fun r4=>
 if(!r4) then
(I8 m a true)
else
(if(decide ((j:Int) > 0)) then
((idx l.List (IntKind.wrap .i64 ((j:Int) - 1))).bind fun a1=>
 if(decide (a1.Slot≥a.Slot)) then
(I8 m a true)
else
(I8 m a (Option.getD (Fj m a.Token) false)))
else
(I8 m a (Option.getD (Fj m a.Token) false))))))
def Xh (l:Leases):R Int:=
 (Oh l.Token 0 1048576).bind fun r=>
 if r then
((each (fun j a=>fun m=>Ti l j a m) 0 l.List []).bind (alt (fun m=>.ok 0) (fun r=>.ok r)))
else
(.ok 350)
def W0 (a:Lease)(b:Int):R Bool:=
 .ok (a.Slot==b)
def I1 (s1:Int)(j:Nat)(a:Lease):R (Unit ⊕ Int):=
 (W0 a s1).bind fun r=>
 if r then
(.ok (.inr ((j:Int))))
else
(.ok (.inl ()))
def Km (s:List Lease)(s1:Int):R Int:=
 (each (fun j a=>fun _=>I1 s1 j a) 0 s ()).bind (alt (fun _=>.ok (-1)) (fun r=>.ok r))
def Xg (l:Leases)(slot:Int):R (Lease×Bool):=
 (Km l.List slot).bind fun i=>
 if i<0 then
(.ok (({ Slot:=0,Airline:=0,Flight:=0,Token:=0,Used:=false }:Lease),false))
else
((idx l.List i).bind fun a=>
 .ok (a,true))
def L4 (x:Int)(x1:Bool):R (Int ⊕ (Unit ⊕ Bool)):=
 if x1 then
(.ok (.inr (.inr (false))))
else
(.ok (.inl (IntKind.wrap .i64 (x+1))))
def Qv (c:Clearing)(l:Leases)(x:Int):R (Int ⊕ (Unit ⊕ Bool)):=
 if x<c.Slots then
((Xg l x).bind fun r1=>
 if(!(r1.2==(decide (x<(c.Flights.length:Int))))) then
(L4 x true)
else
(if r1.2 then
((idx c.Owners x).bind fun a=>
 if(r1.1.Airline != a) then
(L4 x true)
else
((idx c.Flights x).bind fun a1=>
 if(r1.1.Flight != a1) then
(L4 x true)
else
(L4 x r1.1.Used)))
else
(L4 x false)))
else
(.ok (.inr (.inl (()))))
def Qp:R Bool:=
 .ok true
def T2 (c:Clearing)(l:Leases):R Bool:=
 (Xh l).bind fun r=>
 if(r != 0) then
(.ok false)
else
((loop (fun x=>Qv c l x) 0).bind (alt (fun _=>Qp) (fun r=>.ok r)))
def Mm (c:Clearing)(l:Leases)(j:Nat)(a:Int)(x1:List Command):R (List Command):=
 if(a==(j:Int)) then
(.ok x1)
else
((idx c.Owners (j:Int)).bind fun a1=>
 (idx c.Flights (j:Int)).bind fun a2=>
 (Xg l a).bind fun r1=>
 if r1.2 then
(if(x1.length+[({ Kind:=2,Slot:=a,Airline:=a1,Flight:=a2,Token:=r1.1.Token }:Command)].length) * 40≤Cm then
 .ok (x1++[({ Kind:=2,Slot:=a,Airline:=a1,Flight:=a2,Token:=r1.1.Token }:Command)]) else .bad)
else
(if(x1.length+[({ Kind:=1,Slot:=a,Airline:=a1,Flight:=a2,Token:=0 }:Command)].length) * 40≤Cm then
 .ok (x1++[({ Kind:=1,Slot:=a,Airline:=a1,Flight:=a2,Token:=0 }:Command)]) else .bad))
def M4 (c:Clearing)(l:Leases):R ((List Command)×Int):=
 (C4 c).bind fun e=>
 if(e != 0) then
(.ok ([],e))
else
(if((c.Phase != 3)&&(c.Phase != 4)) then
(.ok ([],401))
else
((T2 c l).bind fun r=>
 if r then
((eachS (fun j a=>fun x1=>Mm c l j a x1) 0 c.Outcome []).bind ((fun x1=>.ok (x1,0))))
else
(.ok ([],400))))
def Nq (b:List Int)(j:Nat)(a1:Int):R (Unit ⊕ Bool):=
 (idx b (j:Int)).bind fun a2=>
 if(a1 != a2) then
(.ok (.inr (false)))
else
(.ok (.inl ()))
def Eb (a:List Int)(b:List Int):R Bool:=
 if((a.length:Int) != (b.length:Int)) then
(.ok false)
else
((each (fun j a1=>fun _=>Nq b j a1) 0 a ()).bind (alt (fun _=>.ok true) (fun r=>.ok r)))
def Mp (b:Round)(j:Nat)(a1:List Int):R (Unit ⊕ Bool):=
 (idx b.Costs (j:Int)).bind fun a2=>
 (Eb a1 a2).bind fun r1=>
 if r1 then
(.ok (.inl ()))
else
(.ok (.inr (false)))
def Pf (a:Round)(b:Round):R Bool:=
 (if(a.Slots != b.Slots) then R.ok true else(Eb a.Owners b.Owners).bind fun r=>
 R.ok (!r)).bind (fun(b1:Bool)=>if(b1||((a.Costs.length:Int) != (b.Costs.length:Int))) then
(.ok false)
else
((each (fun j a1=>fun _=>Mp b j a1) 0 a.Costs ()).bind (alt (fun _=>.ok true) (fun r=>.ok r))))
def Mz (b:List Command)(j:Nat)(a1:Command):R (Unit ⊕ Bool):=
 (idx b (j:Int)).bind fun a2=>
 if((a1.Kind==a2.Kind)&&((a1.Slot==a2.Slot)&&((a1.Airline==a2.Airline)&&((a1.Flight==a2.Flight)&&(a1.Token==a2.Token))))) then
(.ok (.inl ()))
else
(.ok (.inr (false)))
def Ki (a:List Command)(b:List Command):R Bool:=
 if((a.length:Int) != (b.length:Int)) then
(.ok false)
else
((each (fun j a1=>fun _=>Mz b j a1) 0 a ()).bind (alt (fun _=>.ok true) (fun r=>.ok r)))
def Rh:R Bool:=
 (Th 1 2 [0,1,2] [0,1,2]).bind fun r=>
 (U8 0).bind fun r1=>
 (En r1.1 1 (#v[1,0,0,0,0,0,0,0,0,0,0,0,0,0,0,0,0,0,0,0,0,0,0,0,0,0,0,0,0,0,0,0]:(Vector Int 32))).bind fun r2=>
 (Jn r1.1).bind fun r3=>
 (M4 r1.1 ({ Token:=0,List:=[] }:Leases)).bind fun r4=>
 (Ix r1.1 ({ Airline:=0,Flight:=0,Slot:=0,Cost:=0,Salt:=(B3 32 0),Path:=[] }:Opening)).bind fun r5=>
 (U8 6).bind fun r6=>
 (Mr r6.1).bind fun r7=>
 (Jn r6.1).bind fun r8=>
 (M4 r8.1 ({ Token:=2,List:=[({ Slot:=0,Airline:=0,Flight:=5,Token:=1,Used:=false }:Lease),({ Slot:=1,Airline:=3,Flight:=9,Token:=2,Used:=false }:Lease)] }:Leases)).bind fun r9=>
 (if(((((((((((((r.2 != 400)||(!r1.2))||(!r6.2))||(r2.2 != 400))||(r3.2 != 401))||(r4.2 != 401))||(r5.2 != 401))||(r7.2 != 0))||(r8.2 != 0))||(r9.2 != 0))||(r1.1.Phase != 1))||(r6.1.Phase != 2))||(r8.1.Phase != 3)) then R.ok true else(C4 r8.1).bind fun r10=>
 R.ok (r10 != 0)).bind (fun(b:Bool)=>if b then
(.ok false)
else
((Pf r7.1 ({ Slots:=2,Owners:=[0,3],Costs:=[[4,1],[2,6]] }:Round)).bind fun r11=>
 (if r11 then(Eb r8.1.Outcome [1,0]).bind fun r12=>
 R.ok r12 else R.ok false).bind (fun(b1:Bool)=>(if b1 then(Ki r9.1 [({ Kind:=2,Slot:=1,Airline:=0,Flight:=5,Token:=2 }:Command),({ Kind:=2,Slot:=0,Airline:=3,Flight:=9,Token:=1 }:Command)]).bind fun r13=>
 R.ok r13 else R.ok false).bind (fun(b2:Bool)=>.ok b2))))
def Qt (a:Opening):R (Unit ⊕ Bool):=
 if(a.Path.length:Int) > 12 then
(.ok (.inr (false)))
else
(.ok (.inl ()))
def Xp (c:Clearing):R Bool:=
 (each (fun _ a=>fun _=>Qt a) 0 c.Openings ()).bind (alt (fun _=>.ok ((((((decide ((c.Flights.length:Int)≤4))&&(decide ((c.Owners.length:Int)≤6)))&&(decide (c.Slots≤5)))&&(decide ((c.Commitments.length:Int)≤8)))&&(decide ((c.Openings.length:Int)≤30)))&&(decide ((c.Outcome.length:Int)≤10)))) (fun r=>.ok r))
def R4 (b:(List (Vector Int 32)))(j:Nat)(a1:(Vector Int 32)):R (Unit ⊕ Bool):=
 (idx b (j:Int)).bind fun a2=>
 if(a1==a2) then
(.ok (.inl ()))
else
(.ok (.inr (false)))
def Vk (a:(List (Vector Int 32)))(b:(List (Vector Int 32))):R Bool:=
 if((a.length:Int) != (b.length:Int)) then
(.ok false)
else
((each (fun j a1=>fun _=>R4 b j a1) 0 a ()).bind (alt (fun _=>.ok true) (fun r=>.ok r)))
def Nn (a:Opening)(b:Opening):R Bool:=
 (if(((((a.Airline==b.Airline)&&(a.Flight==b.Flight))&&(a.Slot==b.Slot))&&(a.Cost==b.Cost))&&(a.Salt==b.Salt)) then(Vk a.Path b.Path).bind fun r=>
 R.ok r else R.ok false).bind (fun(b1:Bool)=>.ok b1)
def Lb (b:Clearing)(j:Nat)(a1:(Vector Int 32)):R (Unit ⊕ Bool):=
 (idx b.Commitments (j:Int)).bind fun a2=>
 if(a1==a2) then
(.ok (.inl ()))
else
(.ok (.inr (false)))
def Jx (b:Clearing)(j1:Nat)(a3:Opening):R (Unit ⊕ Bool):=
 (idx b.Openings (j1:Int)).bind fun a4=>
 (Nn a3 a4).bind fun r3=>
 if r3 then
(.ok (.inl ()))
else
(.ok (.inr (false)))
def Vy (a:Clearing)(b:Clearing):R Bool:=
 (if(((a.No != b.No)||(a.Phase != b.Phase))||(a.Slots != b.Slots)) then R.ok true else(Eb a.Owners b.Owners).bind fun r=>
 R.ok (!r)).bind (fun(b1:Bool)=>(if b1 then R.ok true else(Eb a.Flights b.Flights).bind fun r1=>
 R.ok (!r1)).bind (fun(b2:Bool)=>(if((b2||((a.Commitments.length:Int) != (b.Commitments.length:Int)))||((a.Openings.length:Int) != (b.Openings.length:Int))) then R.ok true else(Eb a.Outcome b.Outcome).bind fun r2=>
 R.ok (!r2)).bind (fun(b3:Bool)=>if b3 then
(.ok false)
else
((each (fun j a1=>fun _=>Lb b j a1) 0 a.Commitments ()).bind (alt (fun _=>(each (fun j1 a3=>fun _=>Jx b j1 a3) 0 a.Openings ()).bind (alt (fun _=>.ok true) (fun r=>.ok r))) (fun r=>.ok r))))))
def I5 (x1:Bool):R (Unit ⊕ Bool):=
 if x1 then
(.ok (.inr (false)))
else
(.ok (.inl ()))
def Fh (r3:(Clearing×Int))(j:Nat)(a1:(Vector Int 32)):R (Unit ⊕ Bool):=
 if(decide ((j:Int)≥(r3.1.Commitments.length:Int))) then
(I5 true)
else
(if(!(a1==(#v[0,0,0,0,0,0,0,0,0,0,0,0,0,0,0,0,0,0,0,0,0,0,0,0,0,0,0,0,0,0,0,0]:(Vector Int 32)))) then
((idx r3.1.Commitments (j:Int)).bind fun a2=>
 I5 (!(a2==a1)))
else
(I5 false))
def C5 (a:Clearing)(d:Opening)(r4:(Clearing×Int))(r5:(Clearing×Int)):R Bool:=
 if(r4.2==0) then
((Ix r4.1 d).bind fun r10=>
 (if(r10.2 != 0) then R.ok true else(Vy r10.1 r4.1).bind fun r11=>
 R.ok (!r11)).bind (fun(b7:Bool)=>if(b7||(decide ((r4.1.Openings.length:Int)<(a.Openings.length:Int)))) then
(.ok false)
else
(.ok ((r5.2==0)||(r5.2==401)))))
else
(.ok ((r5.2==0)||(r5.2==401)))
def Ql (a:Clearing)(b:Int)(c:(Vector Int 32))(d:Opening):R Bool:=
 (Rh).bind fun r=>
 if r then
((Xp a).bind fun r1=>
 (if((!r1)||(decide ((d.Path.length:Int) > 12))) then R.ok true else(C4 a).bind fun r2=>
 R.ok (r2 != 0)).bind (fun(b1:Bool)=>if b1 then
(.ok true)
else
((En a b c).bind fun r3=>
 (Ix a d).bind fun r4=>
 (Jn a).bind fun r5=>
 (if(r3.2==0) then(C4 r3.1).bind fun r6=>
 R.ok (r6 != 0) else R.ok false).bind (fun(b2:Bool)=>(if b2 then R.ok true else(if(r4.2==0) then(C4 r4.1).bind fun r7=>
 R.ok (r7 != 0) else R.ok false).bind (fun(b4:Bool)=>R.ok b4)).bind (fun(b3:Bool)=>(if b3 then R.ok true else(if(r5.2==0) then(C4 r5.1).bind fun r8=>
 R.ok (r8 != 0) else R.ok false).bind (fun(b6:Bool)=>R.ok b6)).bind (fun(b5:Bool)=>if b5 then
(.ok false)
else
(if(r3.2==0) then
((each (fun j a1=>fun _=>Fh r3 j a1) 0 a.Commitments ()).bind (alt (fun _=>(En r3.1 b (Ic c 0 (IntKind.wrap .u8 ((A4 c 0 0)+1)))).bind fun r9=>
 if(r9.2 != 400) then
(.ok false)
else
(C5 a d r4 r5)) (fun r=>.ok r)))
else
(C5 a d r4 r5))))))))
else
(.ok false)
end
end Go.Am
namespace Go.Am
open Go Go.Proofs Go.Proofs.Tryz
set_option maxRecDepth 100000
set_option maxHeartbeats 4000000
set_option linter.unusedSimpArgs false
set_option linter.unusedVariables false
theorem Af0 (l:List Int)(h0:Ab)(o0:Nat)(v:AV)(g:Nat)(hv:Cj v o0 g l.length)(hI0:Ids h0 [o0] 1):Mc l≠.bad→B0 Tryz.prog 88 [v] (hp h0 [o0] [Bq v g 1 (l.map (rI .i64))]) (E8 (fun a_ v' h'=>v'=(.tup [])∧h'=hp h0 [o0] [Bq v g 1 ((Pj l).map (rI .i64))]) h0 (Mc l)):=
 Ap5 hI0 (.mk Tryz.func88 rfl (by decide)) hv Go.Proofs.Tryz.slices_Sort_int Go.Proofs.Tryz.slices_Sort_int_none
theorem Pd (owners:List Int)(h0:Ab)(o0:Nat)(hI0:Ids h0 [o0] 1):Fw owners≠.bad→B0 Tryz.prog 50 [(.sl 1 (List.map (rI .i64) owners))] (hp h0 [o0] [none]) (E8 (fun a_ v h' => ∃ (g3:Nat),v=(.tup [(.map o0 g3),(.sl 1 (List.map (rI .i64) a_.1))])∧h'=hp h0 [o0] [some (.mp g3 (mE (fun x:Int=>(AV.int .i64 x)) (fun x:Int=>(AV.int .i64 x)) a_.2))]) h0 (Fw owners)):=by
 refine Fr (n:=36) 1 func50 J (by decide) J J hI0 J fun ids he hI=>?_
 clear hI0
 obtain rfl:ix ids 0=o0:=he 0 rfl
 clear he
 refine Bp (Ah (Fw.eq_1 _) ?_)
 refine A2 ?_
 refine Y<|Aa 2 [] [(3,.emp)]<|O<|Y<|Acz (j:=0) hI J J J J fun g=>Aj (.map (ix ids 0) g)<|O<|A2 ?_
 refine Ad<|Y<|Au (.K owners)<|Ac (.I (owners.length:Int)) J (A5 (Be A7))<|Au (.I 0)<|O<|Aw<|Ct [(2,(.map (ix ids 0) g)),(3,.emp),(7,(.K owners)),(8,(.I (owners.length:Int))),(9,(.I 0))] (FI J)<|Dy (P:=Tryz.prog) owners (fun _ a=>D0 fun m airlines=>Ha a m airlines) (((D0 fun m airlines=>(Mc airlines).bind fun _=>.ok ((Pj airlines),m))):((List (Int×Int))×(List Int))→R ((List Int)×(List (Int×Int)))) (fun j=>D0 fun m airlines=>fun fr h => ∃ (v1:AV),∃ (g1:Nat),Cj v1 (ix ids 1) g1 airlines.length∧fr=Ap [(2,(.map (ix ids 0) g)),(3,v1),(7,(.K owners)),(8,(.I (owners.length:Int))),(9,(.I j))]∧h=hp h0 ids [(some (.mp g (mE (fun x:Int=>(AV.I x)) (fun x:Int=>(AV.I x)) m))),(Bq v1 g1 1 (List.map rJ airlines))]) ([],[]) ?_ ?_ ?_
 ·exact⟨.emp,0,.nil,J,J⟩
 ·rintro j a ha W hW ⟨m,airlines⟩ fr h ⟨v1,g1,vH,rfl,rfl⟩
  refine Ah (m':=Ha a m airlines) J (Ah (Ha.eq_1 _ _ _) ?_)
  refine Y<|Ac (.B (decide ((j:Int)<(owners.length:Int)))) J (Ak J J J)<|O<|Ad<|Di (t:=7) (L:=owners) J fun hlim=>Ch J (Int.ofNat_lt.2 (A6 ha))<|Aq<|Ad<|Aw<|Y<|Ac (.cp [(.I a)] 0) J (Az (C9 A7 Bf J ha))<|Aa 2 [] [(5,(.I a))]<|O<|Ad<|Y<|Aa 3 [] [(15,(.B (decide (a<0))))]<|Bv 3 [(2,(.map (ix ids 0) g)),(3,v1),(5,(.I a)),(7,(.K owners)),(8,(.I (owners.length:Int))),(9,(.I j)),(18,(.B ((decide (a<0))||(decide (a≥8)))))] ?_ fun hJ=>Bm (decide (a<0)) (fun hb1=>?_) (fun hb1=>?_)
  ·refine O<|Bk J (fun hc=>?_) (fun hc=>?_)
   ·refine Bw J<|At<|Aa 2 [] [(9,(.I (wi ((j:Int)+1))))]<|O<|Bh (Hm (hW (m,airlines) _ _ ⟨v1,g1,vH,J,J⟩)) (.r4 (.o (ic ha hlim)))
   refine Aq<|Ad<|Y<|Aa 2 [] [(20,(.I a)),(19,(.map (ix ids 0) g))]<|Ac (.I (Option.getD (Fj m a) 0)) J (Uu (Sv (eK:=(fun x:Int=>(AV.I x))) (eV:=(fun x:Int=>(AV.I x))) (zv:=0) (S6 (hI.at J J)) Acr Bf Bf L5 J).1)<|Ac (.B ((Option.getD (Fj m a) 0)==0)) J (Ak J J J)<|O<|Bk J (fun hc1=>?_) (fun hc1=>?_)
   ·refine At<|Aa 2 [] [(24,(.I a)),(23,v1)]<|Ft (e:=rJ) (L:=[a]) (st:=1) (rows:=[[(.I a)]]) J A7 Bf J J J J J (.cons (RowSim.refl _) .nil) (fun x=>Cb x) J J<|Cu fun hl=>Fu (e:=rJ) (L:=airlines) (L2:=[a]) (v:=v1) (g:=g1) (st:=1) (j:=1) hI J J J J vH J (Fo J) A7 A7 J Bf J J J hl fun v2 g2 vH1=>Aj v2<|O<|A2 ?_
    refine At<|Aa 2 [] [(28,(.I a)),(27,(.map (ix ids 0) g))]<|Ac (.I (Option.getD (Fj m a) 0)) J (Uu (Sv (eK:=(fun x:Int=>(AV.I x))) (eV:=(fun x:Int=>(AV.I x))) (zv:=0) (S6 (hI.at J J)) Acr Bf Bf L5 J).1)<|Ac (.I (wi ((Option.getD (Fj m a) 0)+1))) J (Ak J J J)<|Sz (j:=0) (eK:=(fun x:Int=>(AV.I x))) (eV:=(fun x:Int=>(AV.I x))) (M:=m) (ky:=a) (w:=(wi ((Option.getD (Fj m a) 0)+1))) hI J J J J J J Acr Bf L5<|O<|A2 ?_
    refine A8<|At<|Aa 2 [] [(9,(.I (wi ((j:Int)+1))))]<|O<|Bh (Hm (hW ((Mb m a (wi ((Option.getD (Fj m a) 0)+1))),(airlines++[a])) _ _ ⟨v2,g2,vH1,J,J⟩)) (.r4 (.o (ic ha hlim)))
   refine Aq<|At<|Aa 2 [] [(28,(.I a)),(27,(.map (ix ids 0) g))]<|Ac (.I (Option.getD (Fj m a) 0)) J (Uu (Sv (eK:=(fun x:Int=>(AV.I x))) (eV:=(fun x:Int=>(AV.I x))) (zv:=0) (S6 (hI.at J J)) Acr Bf Bf L5 J).1)<|Ac (.I (wi ((Option.getD (Fj m a) 0)+1))) J (Ak J J J)<|Sz (j:=0) (eK:=(fun x:Int=>(AV.I x))) (eV:=(fun x:Int=>(AV.I x))) (M:=m) (ky:=a) (w:=(wi ((Option.getD (Fj m a) 0)+1))) hI J J J J J J Acr Bf L5<|O<|A2 ?_
   refine A8<|At<|Aa 2 [] [(9,(.I (wi ((j:Int)+1))))]<|O<|Bh (Hm (hW ((Mb m a (wi ((Option.getD (Fj m a) 0)+1))),airlines) _ _ ⟨v1,g1,vH,J,J⟩)) (.r4 (.o (ic ha hlim)))
  ·refine Bc (t:=15) hb1 J<|Aa 3 [] [(18,(.B true)),(17,.und),(16,.und)]<|Bg hJ (.r4 (.r2 (.cons (Ep hb1) .nil)))
  refine Bc (t:=15) hb1 J<|Aa 3 [] [(18,(.B (decide (a≥8)))),(17,(.B (decide (a≥8)))),(16,(.I a))]<|Bg hJ (.r4 (.r2 (.cons (Er hb1) .nil)))
 rintro⟨m,airlines⟩ fr h ⟨v1,g1,vH,rfl,rfl⟩
 refine Ah (Asl _ _ _)<|Y<|Ac (.B (decide ((owners.length:Int)<(owners.length:Int)))) J (Ak J J J)<|O<|Ad<|Ci J (Int.lt_irrefl _)<|Bw J<|Y<|Au v1<|Fm [1] hI J J (Af0 airlines _ (ix ids 1) v1 g1 vH (by exact hI.sub' J J)) J J J J J J (fun v _=>F4 (K:=1) (N:=1) func50 hI) ?_
 rintro _ _ _ _ ⟨rfl,rfl⟩
 refine Jv [1] hI J J J ?_
 refine Gf<|O<|A2 ?_
 refine Y<|Aa 4 [] [(3,v1),(2,(.map (ix ids 0) g))]<|O<|Hx (K:=1) (N:=1) [some (.mp g (mE (fun x:Int=>(AV.I x)) (fun x:Int=>(AV.I x)) m))] func50 hI J J J (.keep (.drop .nil)) (.tupL (.s (.cons (I9 (Cj.sort vH) (hI.at J J) (hI.at J J) (fun x=>Cb x)) .nil))) ⟨g,J,J⟩
theorem Agt (c:Clearing):CP Tryz.prog 38 [(.agg (Ag c))] (Ni c) (fun(x:Bool)=>(AV.bool x)):=by
 refine Bl (n:=94) 2 func38 J (by decide) J J fun h0 ids hI=>Bp (Ah (Ni.eq_1 _) ?_)
 refine Y<|B5 (v:=(.A (Ag c))) (j:=0) hI J J J J J J J fun g=>Aj (.B false)<|O<|A2 ?_
 refine Ad<|Y<|Aa 4 [0] [(11,(.B (decide (c.No<1))))]<|Bv 4 [(1,(.q ids 0 g)),(15,(.B ((decide (c.No<1))||(decide (c.No > 1048576)))))] ?_ fun hJ=>Bm (decide (c.No<1)) (fun hb1=>?_) (fun hb1=>?_)
 ·refine Au (.B ((decide (c.No<1))||(decide (c.No > 1048576))))<|Bv 4 [(1,(.q ids 0 g)),(20,(.B (((decide (c.No<1))||(decide (c.No > 1048576)))||(decide (c.Slots<1)))))] ?_ fun hJ1=>Bm ((decide (c.No<1))||(decide (c.No > 1048576))) (fun hb3=>?_) (fun hb3=>?_)
  ·refine Au (.B (((decide (c.No<1))||(decide (c.No > 1048576)))||(decide (c.Slots<1))))<|Bv 4 [(1,(.q ids 0 g)),(25,(.B ((((decide (c.No<1))||(decide (c.No > 1048576)))||(decide (c.Slots<1)))||(decide (c.Slots > 8)))))] ?_ fun hJ2=>Bm (((decide (c.No<1))||(decide (c.No > 1048576)))||(decide (c.Slots<1))) (fun hb5=>?_) (fun hb5=>?_)
   ·refine Au (.B ((((decide (c.No<1))||(decide (c.No > 1048576)))||(decide (c.Slots<1)))||(decide (c.Slots > 8))))<|Bv 5 [(1,(.q ids 0 g)),(31,(.B (((((decide (c.No<1))||(decide (c.No > 1048576)))||(decide (c.Slots<1)))||(decide (c.Slots > 8)))||(decide ((c.Flights.length:Int)<1)))))] ?_ fun hJ3=>Bm ((((decide (c.No<1))||(decide (c.No > 1048576)))||(decide (c.Slots<1)))||(decide (c.Slots > 8))) (fun hb7=>?_) (fun hb7=>?_)
    ·refine Au (.B (((((decide (c.No<1))||(decide (c.No > 1048576)))||(decide (c.Slots<1)))||(decide (c.Slots > 8)))||(decide ((c.Flights.length:Int)<1))))<|Bv 7 [(1,(.q ids 0 g)),(39,(.B ((((((decide (c.No<1))||(decide (c.No > 1048576)))||(decide (c.Slots<1)))||(decide (c.Slots > 8)))||(decide ((c.Flights.length:Int)<1)))||(decide ((c.Flights.length:Int) > c.Slots)))))] ?_ fun hJ4=>Bm (((((decide (c.No<1))||(decide (c.No > 1048576)))||(decide (c.Slots<1)))||(decide (c.Slots > 8)))||(decide ((c.Flights.length:Int)<1))) (fun hb9=>?_) (fun hb9=>?_)
     ·refine Au (.B ((((((decide (c.No<1))||(decide (c.No > 1048576)))||(decide (c.Slots<1)))||(decide (c.Slots > 8)))||(decide ((c.Flights.length:Int)<1)))||(decide ((c.Flights.length:Int) > c.Slots))))<|Bv 8 [(1,(.q ids 0 g)),(48,(.B (((((((decide (c.No<1))||(decide (c.No > 1048576)))||(decide (c.Slots<1)))||(decide (c.Slots > 8)))||(decide ((c.Flights.length:Int)<1)))||(decide ((c.Flights.length:Int) > c.Slots)))||((c.Owners.length:Int) != (c.Flights.length:Int)))))] ?_ fun hJ5=>Bm ((((((decide (c.No<1))||(decide (c.No > 1048576)))||(decide (c.Slots<1)))||(decide (c.Slots > 8)))||(decide ((c.Flights.length:Int)<1)))||(decide ((c.Flights.length:Int) > c.Slots))) (fun hb11=>?_) (fun hb11=>?_)
      ·refine O<|Bk J (fun hc=>?_) (fun hc=>?_)
       ·refine Y<|Aj (.B false)<|O<|A0 func38 hI J (.same _)
       refine Aq<|Y<|Aj (.I (-1))<|O<|Ad<|Y<|Aa 2 [0] [(50,(.K c.Flights))]<|Ac (.I (c.Flights.length:Int)) J (A5 (Be A7))<|Au (.I 0)<|O<|Aw<|Ct [(1,(.q ids 0 g)),(3,(.I (-1))),(50,(.K c.Flights)),(51,(.I (c.Flights.length:Int))),(52,(.I 0))] (FI J)<|Ef (P:=Tryz.prog) c.Flights (fun j a=>fun last=>Jy c j a last) ((alt (fun last=>(Fw c.Owners).bind fun r=>.ok ((c.Commitments.length:Int)==(r.1.length:Int))) (fun r=>.ok r)):(Int ⊕ Bool)→R Bool) (fun j=>fun last=>fun fr h=>fr=Ap [(1,(.q ids 0 g)),(3,(.I last)),(50,(.K c.Flights)),(51,(.I (c.Flights.length:Int))),(52,(.I j))]∧h=hp h0 ids [(Ao g 8 [(Ag c)]),none]) (-1) ?_ ?_ ?_
       ·exact⟨J,J⟩
       ·rintro j a ha W hW last fr h ⟨rfl,rfl⟩
        refine Ah (m':=Jy c j a last) J (Ah (Jy.eq_1 _ _ _ _) ?_)
        refine Y<|Ac (.B (decide ((j:Int)<(c.Flights.length:Int)))) J (Ak J J J)<|O<|Ad<|Di (t:=50) (L:=c.Flights) J fun hlim=>Ch J (Int.ofNat_lt.2 (A6 ha))<|Aq<|Ad<|Aw<|Y<|Au (.I j)<|Ac (.cp [(.I a)] 0) J (Az (C9 A7 Bf J ha))<|Aa 3 [] [(5,(.I a)),(4,(.I j))]<|O<|Ad<|Y<|Aa 4 [] [(60,(.B (decide (a≤last))))]<|Bv 3 [(1,(.q ids 0 g)),(4,(.I j)),(5,(.I a)),(50,(.K c.Flights)),(51,(.I (c.Flights.length:Int))),(52,(.I j)),(63,(.B ((decide (a≤last))||(decide (a > 4095)))))] ?_ fun hJ6=>Bm (decide (a≤last)) (fun hb13=>?_) (fun hb13=>?_)
        ·refine Au (.B ((decide (a≤last))||(decide (a > 4095))))<|Es 7 ((fun(b:Bool)=>(if b then R.ok true else(idx c.Owners (j:Int)).bind fun a2=>R.ok (decide (a2≥8))).bind (fun(b1:Bool)=>if b1 then(.ok (.inr (false))) else(.ok (.inl a)))):Bool→R (Int ⊕ Bool)) (fun(b:Bool) (fr:Nat→AV) (h:Ab)=>fr=Ap [(1,(.q ids 0 g)),(4,(.I j)),(5,(.I a)),(50,(.K c.Flights)),(51,(.I (c.Flights.length:Int))),(52,(.I j)),(71,(.B b))]∧h=hp h0 ids [(Ao g 8 [(Ag c)]),none]) ?_ fun hJ7=>F6 (fun hb15=>?_) (fun hb15=>?_)
         ·rintro b fr h ⟨rfl,rfl⟩
          refine Au (.B b)<|Es 7 ((fun(b1:Bool)=>if b1 then(.ok (.inr (false))) else(.ok (.inl a))):Bool→R (Int ⊕ Bool)) (fun(b1:Bool) (fr:Nat→AV) (h:Ab)=>fr=Ap [(1,(.q ids 0 g)),(5,(.I a)),(50,(.K c.Flights)),(51,(.I (c.Flights.length:Int))),(52,(.I j)),(79,(.B b1))]∧h=hp h0 ids [(Ao g 8 [(Ag c)]),none]) ?_ fun hJ8=>F6 (fun hb17=>?_) (fun hb17=>?_)
          ·rintro b1 fr h ⟨rfl,rfl⟩
           refine O<|Bk J (fun hc1=>?_) (fun hc1=>?_)
           ·refine Y<|Aj (.B false)<|O<|Ew<|E2<|A0 func38 hI J (.same _)
           refine Aq<|At<|Aa 2 [] [(3,(.I a))]<|O<|A8<|At<|Aa 2 [] [(52,(.I (wi ((j:Int)+1))))]<|O<|Bh (Ey (hW a _ _ ⟨J,J⟩)) (.r4 (.o (ic ha hlim)))
          ·refine Bc (t:=72) hb17 J<|Aa 7 [] [(79,(.B true)),(78,.und),(77,.und),(76,.und),(75,.und),(74,.und),(73,.und)]<|B4<|C8 [(1,(.q ids 0 g)),(5,(.I a)),(50,(.K c.Flights)),(51,(.I (c.Flights.length:Int))),(52,(.I j)),(79,(.B true))] (FI J)<|hJ8 true _ _ ⟨J,J⟩
          refine Bc (t:=72) hb17 J<|Aa 3 [0] [(75,(.I j)),(74,(.K c.Owners)),(73,(.ptr (ix ids 0) g 0 3))]<|Lw fun a2 hz1 hx2=>Cx (tj:=72) (.cp [(.I a2)] 0) J J J (Az (C3 A7 Bf J hz1 hx2))<|Aa 3 [] [(79,(.B (decide (a2≥8)))),(78,(.B (decide (a2≥8)))),(77,(.I a2))]<|B4<|C8 [(1,(.q ids 0 g)),(5,(.I a)),(50,(.K c.Flights)),(51,(.I (c.Flights.length:Int))),(52,(.I j)),(79,(.B (decide (a2≥8))))] (FI J)<|hJ8 (decide (a2≥8)) _ _ ⟨J,J⟩
         ·refine Bc (t:=64) hb15 J<|Aa 7 [] [(71,(.B true)),(70,.und),(69,.und),(68,.und),(67,.und),(66,.und),(65,.und)]<|B4<|C8 [(1,(.q ids 0 g)),(4,(.I j)),(5,(.I a)),(50,(.K c.Flights)),(51,(.I (c.Flights.length:Int))),(52,(.I j)),(71,(.B true))] (FI J)<|hJ7 true _ _ ⟨J,J⟩
         refine Bc (t:=64) hb15 J<|Aa 3 [0] [(67,(.I j)),(66,(.K c.Owners)),(65,(.ptr (ix ids 0) g 0 3))]<|Lw fun a1 hz hx1=>Cx (tj:=64) (.cp [(.I a1)] 0) J J J (Az (C3 A7 Bf J hz hx1))<|Aa 3 [] [(71,(.B (decide (a1<0)))),(70,(.B (decide (a1<0)))),(69,(.I a1))]<|B4<|C8 [(1,(.q ids 0 g)),(4,(.I j)),(5,(.I a)),(50,(.K c.Flights)),(51,(.I (c.Flights.length:Int))),(52,(.I j)),(71,(.B (decide (a1<0))))] (FI J)<|hJ7 (decide (a1<0)) _ _ ⟨J,J⟩
        ·refine Bc (t:=60) hb13 J<|Aa 3 [] [(63,(.B true)),(62,.und),(61,.und)]<|Bg hJ6 (.r4 (.r2 (.cons (Ep hb13) .nil)))
        refine Bc (t:=60) hb13 J<|Aa 3 [] [(63,(.B (decide (a > 4095)))),(62,(.B (decide (a > 4095)))),(61,(.I a))]<|Bg hJ6 (.r4 (.r2 (.cons (Er hb13) .nil)))
       rintro last fr h ⟨rfl,rfl⟩
       refine Ah (Fd _ _ _)<|Y<|Ac (.B (decide ((c.Flights.length:Int)<(c.Flights.length:Int)))) J (Ak J J J)<|O<|Ad<|Ci J (Int.lt_irrefl _)<|Bw J<|Y<|Aa 2 [0] [(84,(.K c.Owners))]<|Fm [1] hI J J (Pd c.Owners _ (ix ids 1) (by exact hI.sub' J J)) J J J J J J (fun v _=>Ax func38 hI) ?_
       rintro r _ _ _ ⟨g1,rfl,rfl⟩
       refine Jv [1] hI J J J ?_
       refine Gf<|Aa 5 [] [(7,(.K r.1))]<|O<|A2 ?_
       refine Y<|Aa 2 [0] [(89,(.M c.Commitments))]<|Ac (.I (c.Commitments.length:Int)) J (A5 (Be B9))<|Au (.K r.1)<|Ac (.I (r.1.length:Int)) J (A5 (Be A7))<|Aa 2 [] [(2,(.B ((c.Commitments.length:Int)==(r.1.length:Int))))]<|O<|A0 func38 hI J (.same _)
      ·refine Bc (t:=40) hb11 J<|Aa 8 [] [(48,(.B true))]<|Bg hJ5 (.r (.cons (Ep hb11) .nil))
      refine Bc (t:=40) hb11 J<|Aa 2 [0] [(42,(.K c.Owners))]<|Cx (tj:=40) (.I (c.Owners.length:Int)) J J J (A5 (Be A7))<|Aa 2 [0] [(45,(.K c.Flights))]<|Cx (tj:=40) (.I (c.Flights.length:Int)) J J J (A5 (Be A7))<|Aa 2 [] [(48,(.B ((c.Owners.length:Int) != (c.Flights.length:Int))))]<|Bg hJ5 (.r (.cons (Er hb11) .nil))
     ·refine Bc (t:=32) hb9 J<|Aa 7 [] [(39,(.B true))]<|Bg hJ4 (.r (.cons (Ep hb9) .nil))
     refine Bc (t:=32) hb9 J<|Aa 2 [0] [(34,(.K c.Flights))]<|Cx (tj:=32) (.I (c.Flights.length:Int)) J J J (A5 (Be A7))<|Aa 4 [0] [(39,(.B (decide ((c.Flights.length:Int) > c.Slots))))]<|Bg hJ4 (.r (.cons (Er hb9) .nil))
    ·refine Bc (t:=26) hb7 J<|Aa 5 [] [(31,(.B true))]<|Bg hJ3 (.r (.cons (Ep hb7) .nil))
    refine Bc (t:=26) hb7 J<|Aa 2 [0] [(28,(.K c.Flights))]<|Cx (tj:=26) (.I (c.Flights.length:Int)) J J J (A5 (Be A7))<|Aa 2 [] [(31,(.B (decide ((c.Flights.length:Int)<1))))]<|Bg hJ3 (.r (.cons (Er hb7) .nil))
   ·refine Bc (t:=21) hb5 J<|Aa 4 [] [(25,(.B true))]<|Bg hJ2 (.r (.cons (Ep hb5) .nil))
   refine Bc (t:=21) hb5 J<|Aa 4 [0] [(25,(.B (decide (c.Slots > 8))))]<|Bg hJ2 (.r (.cons (Er hb5) .nil))
  ·refine Bc (t:=16) hb3 J<|Aa 4 [] [(20,(.B true))]<|Bg hJ1 (.r (.cons (Ep hb3) .nil))
  refine Bc (t:=16) hb3 J<|Aa 4 [0] [(20,(.B (decide (c.Slots<1))))]<|Bg hJ1 (.r (.cons (Er hb3) .nil))
 ·refine Bc (t:=11) hb1 J<|Aa 4 [] [(15,(.B true))]<|Bg hJ (.r (.cons (Ep hb1) .nil))
 refine Bc (t:=11) hb1 J<|Aa 4 [0] [(15,(.B (decide (c.No > 1048576))))]<|Bg hJ (.r (.cons (Er hb1) .nil))
theorem Aa2 (s:(List (Vector Int 32)))(v:(Vector Int 32)):CP Tryz.prog 117 [(.sl 32 (List.map (rV (rI .u8)) s)),(.agg ((rV (rI .u8)) v))] (Oo s v) (fun(x:Int)=>(AV.int .i64 x)):=by
 refine Bl (n:=19) 1 func117 J (by decide) J J fun h0 ids hI=>Bp (Ah (Oo.eq_1 _ _) ?_)
 refine Y<|B5 (v:=(.A (rU v))) (j:=0) hI J J J J J J J fun g=>Aj (.I 0)<|O<|A2 ?_
 refine Ad<|Y<|Au (.M s)<|Ac (.I (s.length:Int)) J (A5 (Be B9))<|Au (.I 0)<|O<|Aw<|Ct [(0,(.M s)),(3,(.q ids 0 g)),(7,(.I (s.length:Int))),(8,(.I 0))] (FI J)<|Ef (P:=Tryz.prog) s (fun j a=>fun _=>Mg v j a) ((alt (fun _=>.ok (-1)) (fun r=>.ok r)):(Unit ⊕ Int)→R Int) (fun j=>fun _=>fun fr h=>fr=Ap [(0,(.M s)),(3,(.q ids 0 g)),(7,(.I (s.length:Int))),(8,(.I j))]∧h=hp h0 ids [(Ao g 32 [(rU v)])]) () ?_ ?_ ?_
 ·exact⟨J,J⟩
 ·rintro j a ha W hW _ fr h ⟨rfl,rfl⟩
  refine Ah (m':=Mg v j a) J (Ah (Mg.eq_1 _ _ _) ?_)
  refine Y<|Ac (.B (decide ((j:Int)<(s.length:Int)))) J (Ak J J J)<|O<|Ad<|Di (t:=0) (L:=s) J fun hlim=>Ch J (Int.ofNat_lt.2 (A6 ha))<|Aq<|Ad<|Aw<|Y<|Aa 2 [] [(5,(.I j))]<|O<|Ad<|Cq El [[],[],[],[1,2],[1,2,3],[0,1,2,3,4]] [(false,0),(false,1),(false,2),(false,3),(false,4),(false,5)] (by kernel_rfl)<|Z (.A (rU v)) J J (Af (An hI J J J Bo J))<|Z (.M s) J J Ae<|Z (.I j) J J Ae<|Z (.cp (rU a) 0) J J (Az (C9 B9 Bo J ha))<|Z (.A (rU a)) J J (Af (Cg Bo J)) ?_
  refine Z (.B (v==a)) J J (Ak (R1 J J) J (Xc Bo Em))<|Bs<|Bk J (fun hc=>?_) (fun hc=>?_)
  ·refine Y<|Aa 2 [] [(4,(.I j))]<|O<|Ew<|E2<|A0 func117 hI J (.same _)
  refine Aq<|A8<|At<|Aa 2 [] [(8,(.I (wi ((j:Int)+1))))]<|O<|Bh (Ey (hW () _ _ ⟨J,J⟩)) (.r2 (.r (.o (ic ha hlim))))
 rintro _ fr h ⟨rfl,rfl⟩
 refine Ah (Fd _ _ _)<|Y<|Ac (.B (decide ((s.length:Int)<(s.length:Int)))) J (Ak J J J)<|O<|Ad<|Ci J (Int.lt_irrefl _)<|Bw J<|Y<|Aj (.I (-1))<|O<|A0 func117 hI J (.same _)
theorem Yx (s:(List (Vector Int 32)))(v:(Vector Int 32)):CP Tryz.prog 89 [(.sl 32 (List.map (rV (rI .u8)) s)),(.agg ((rV (rI .u8)) v))] (Jl s v) (fun(x:Bool)=>(AV.bool x)):=by
 refine Bl (n:=9) 1 func89 J (by decide) J J fun h0 ids hI=>Bp (Ah (Jl.eq_1 _ _) ?_)
 refine Y<|B5 (v:=(.A (rU v))) (j:=0) hI J J J J J J J fun g=>Aj (.B false)<|O<|A2 ?_
 refine Y<|Aa 2 [0] [(6,(.A (rU v))),(5,(.M s))]<|Ba _ J J J J ((Aa2 s v) _) (fun v _=>Ax func89 hI) fun r _=>Aa 2 [] [(4,(.B (decide (r≥0))))]<|O<|A0 func89 hI J (.same _)
theorem Ou (c:Clearing):CP Tryz.prog 53 [(.agg (Ag c))] (Fy c) (fun(x:Bool)=>(AV.bool x)):=by
 refine Bl (n:=8) 1 func53 J (by decide) J J fun h0 ids hI=>Bp (Ah (Fy.eq_1 _) ?_)
 refine Y<|B5 (v:=(.A (Ag c))) (j:=0) hI J J J J J J J fun g=>Aj (.B false)<|O<|A2 ?_
 refine Y<|Aa 3 [0] [(5,(.A (rU (#v[0,0,0,0,0,0,0,0,0,0,0,0,0,0,0,0,0,0,0,0,0,0,0,0,0,0,0,0,0,0,0,0]:(Vector Int 32))))),(4,(.M c.Commitments))]<|Ba _ J J J J ((Yx c.Commitments (#v[0,0,0,0,0,0,0,0,0,0,0,0,0,0,0,0,0,0,0,0,0,0,0,0,0,0,0,0,0,0,0,0]:(Vector Int 32))) _) (fun v _=>Ax func53 hI) fun r _=>Aa 2 [] [(2,(.B (!r)))]<|O<|A0 func53 hI J (.same _)
theorem Ado (c:Clearing):CP Tryz.prog 182 [(.agg (Ag c))] (Og c) (fun(x:Bool)=>(AV.bool x)):=by
 refine Bl (n:=16) 1 func182 J (by decide) J J fun h0 ids hI=>Bp (Ah (Og.eq_1 _) ?_)
 refine Y<|B5 (v:=(.A (Ag c))) (j:=0) hI J J J J J J J fun g=>Aj (.B false)<|O<|A2 ?_
 refine Y<|Aa 1 [0] [(3,(.A (Ag c)))]<|Ba _ J J J J ((Ou c) _) (fun v _=>Ax func182 hI) fun r _=>Aa 2 [] [(6,(.B (!r)))]<|Bv 9 [(15,(.B ((!r)&&((wi ((c.Openings.length:Int)+(c.Outcome.length:Int)))==0))))] ?_ fun hJ=>Bm (!r) (fun hb1=>?_) (fun hb1=>?_)
 ·refine Aj (.B ((!r)&&((wi ((c.Openings.length:Int)+(c.Outcome.length:Int)))==0)))<|O<|A0 func182 hI J (.same _)
 ·refine Bc (t:=6) hb1 J<|Aa 2 [0] [(8,(.sl 37 (List.map Ar c.Openings)))]<|Cx (tj:=6) (.I (c.Openings.length:Int)) J J J (A5 (Be F9))<|Aa 2 [0] [(11,(.K c.Outcome))]<|Cx (tj:=6) (.I (c.Outcome.length:Int)) J J J (A5 (Be A7))<|Aa 3 [] [(15,(.B ((wi ((c.Openings.length:Int)+(c.Outcome.length:Int)))==0)))]<|Bg hJ (.cons (I6 hb1) .nil)
 refine Bc (t:=6) hb1 J<|Aa 9 [] [(15,(.B false))]<|Bg hJ (.cons (I4 hb1) .nil)
theorem Zr (a:Int):CP Tryz.prog 120 [(.int .i64 a)] (R5 a) (fun(x:Bool)=>(AV.bool x)):=by
 refine Bl (n:=6) 0 func120 J (by decide) J J fun h0 ids hI=>Bp (Ah (R5.eq_1 _) ?_)
 refine Y<|Aj (.B false)<|O<|Y<|Aa 4 [] [(2,(.B (a != a)))]<|O<|A0 func120 hI J (.same _)
theorem Sw (a:Int)(y:Int):CP Tryz.prog 94 [(.int .i64 a),(.int .i64 y)] (K4 a y) (fun(x:Int)=>(AV.int .i64 x)):=by
 refine Bl (n:=20) 0 func94 J (by decide) J J fun h0 ids hI=>Bp (Ah (K4.eq_1 _ _) ?_)
 refine Y<|Aj (.I 0)<|O<|Y<|Au (.I a)<|Ba _ J J J J ((Zr a) _) (fun v _=>Ax func94 hI) fun xNaN _=>Aj (.B xNaN)<|O<|Y<|Au (.I y)<|Ba _ J J J J ((Zr y) _) (fun v _=>Ax func94 hI) fun yNaN _=>Aj (.B yNaN)<|O<|Ad<|Y<|Au (.B xNaN)<|O ?_
 refine Bk J (fun hc=>?_) (fun hc=>?_)
 ·refine Ad<|Y<|Au (.B yNaN)<|O<|Bk J (fun hc1=>?_) (fun hc1=>?_)
  ·refine Y<|Aj (.I 0)<|O<|A0 func94 hI J (.same _)
  refine Aq<|Y<|Aj (.I (-1))<|O<|A0 func94 hI J (.same _)
 refine Aq<|Ad<|Y<|Au (.B yNaN)<|O<|Bk J (fun hc2=>?_) (fun hc2=>?_)
 ·refine Y<|Aj (.I 1)<|O<|A0 func94 hI J (.same _)
 refine Aq<|Ad<|Y<|Aa 3 [] [(16,(.B (decide (a<y))))]<|O<|D9 J (fun hc3=>?_) (fun hc3=>?_)
 ·refine Y<|Aj (.I (-1))<|O<|A0 func94 hI J (.same _)
 refine Aq<|Ad<|Y<|Aa 3 [] [(19,(.B (decide (a > y))))]<|O<|D9 J (fun hc4=>?_) (fun hc4=>?_)
 ·refine Y<|Aj (.I 1)<|O<|A0 func94 hI J (.same _)
 refine Aq<|Y<|Aj (.I 0)<|O<|A0 func94 hI J (.same _)
theorem Ak7 (vals:List Int):CP Tryz.prog 93 [(.sl 1 (List.map (rI .i64) vals))] (Vm vals) (fun(x:Int)=>(AV.int .i64 x)):=by
 refine Bl (n:=18) 0 func93 J (by decide) J J fun h0 ids hI=>Bp (Ah (Vm.eq_1 _) ?_)
 refine Y<|Aj (.I 0)<|O<|Y<|Aj (.I 0)<|O<|Ad<|Y<|Au (.K vals)<|Ac (.I (vals.length:Int)) J (A5 (Be A7))<|Au (.I 0)<|O<|Aw<|Ct [(3,(.I 0)),(6,(.K vals)),(7,(.I (vals.length:Int))),(8,(.I 0))] (FI J)<|Ef (P:=Tryz.prog) vals (fun _ a=>fun _=>Nd a) ((alt (fun _=>.ok 0) (fun r=>.ok r)):(Unit ⊕ Int)→R Int) (fun j=>fun _=>fun fr h=>fr=Ap [(3,(.I 0)),(6,(.K vals)),(7,(.I (vals.length:Int))),(8,(.I j))]∧h=hp h0 ids []) () ?_ ?_ ?_
 ·exact⟨J,J⟩
 ·rintro j a ha W hW _ fr h ⟨rfl,rfl⟩
  refine Ah (m':=Nd a) J (Ah (Nd.eq_1 _) ?_)
  refine Y<|Ac (.B (decide ((j:Int)<(vals.length:Int)))) J (Ak J J J)<|O<|Ad<|Di (t:=6) (L:=vals) J fun hlim=>Ch J (Int.ofNat_lt.2 (A6 ha))<|Aq<|Ad<|Aw<|Y<|Ac (.cp [(.I a)] 0) J (Az (C9 A7 Bf J ha))<|Aa 2 [] [(5,(.I a))]<|O<|Y<|Aa 3 [] [(14,(.B (a != 0)))]<|O<|Bk J (fun hc=>?_) (fun hc=>?_)
  ·refine Y<|Aa 2 [] [(2,(.I a))]<|O<|Ew<|E2<|A0 func93 hI J (.same _)
  refine Aq<|A8<|At<|Aa 2 [] [(8,(.I (wi ((j:Int)+1))))]<|O<|Bh (Ey (hW () _ _ ⟨J,J⟩)) (.r2 (.r (.o (ic ha hlim))))
 rintro _ fr h ⟨rfl,rfl⟩
 refine Ah (Fd _ _ _)<|Y<|Ac (.B (decide ((vals.length:Int)<(vals.length:Int)))) J (Ak J J J)<|O<|Ad<|Ci J (Int.lt_irrefl _)<|Bw J<|Y<|Aa 2 [] [(2,(.I 0))]<|O<|A0 func93 hI J (.same _)
theorem V4 (a:Opening)(b:Opening):CP Tryz.prog 56 [(.agg (Ar a)),(.agg (Ar b))] (Mq a b) (fun(x:Int)=>(AV.int .i64 x)):=by
 refine Bl (n:=17) 2 func56 J (by decide) J J fun h0 ids hI=>Bp (Ah (Mq.eq_1 _ _) ?_)
 refine Y<|B5 (v:=(.A (Ar a))) (j:=0) hI J J J J J J J fun g=>B5 (v:=(.A (Ar b))) (j:=1) hI J J J J J J J fun g1=>Aj (.I 0)<|O<|A2 ?_
 refine Ad<|Cq El [[],[0],[],[2],[0,1,2,3],[],[5],[],[7],[0,1,2,3,4,5,6,7,8],[0,1,2,3,4,5,6,7,8,9],[0,1,2,3,4,5,6,7,8,9,10],[0,1,2,3,4,5,6,7,8,9,10,11,11,11]] [(false,0),(false,1),(false,2),(false,3),(false,5),(false,6),(false,7),(false,8),(true,4),(true,9),(true,10),(true,11),(false,12)] (by kernel_rfl)<|Z (.ptr (ix ids 0) g 0 1) J J (Bn (B8 0 1 1 D7 J Bf J))<|Z (.I a.Flight) J J (Af (An hI J J J Bf J))<|Z (.ptr (ix ids 1) g1 0 1) J J (Bn (B8 0 1 1 D7 J Bf J))<|Z (.I b.Flight) J J (Af (An hI J J J Bf J))<|Z (.ptr (ix ids 0) g 0 2) J J (Bn (B8 0 2 2 D7 J Bf J))<|Z (.I a.Slot) J J (Af (An hI J J J Bf J))<|Z (.ptr (ix ids 1) g1 0 2) J J (Bn (B8 0 2 2 D7 J Bf J))<|Z (.I b.Slot) J J (Af (An hI J J J Bf J))<|Cy _ J J J J J ((Sw a.Flight b.Flight) _) (fun v _ _ _=>Ax func56 hI) (Ai J (Af (An hI J J J Bf J)) (Ai J (Bn (B8 0 2 2 D7 J Bf J)) (Ai J (Af (An hI J J J Bf J)) (Ai J (Bn (B8 0 2 2 D7 J Bf J)) (Ex J Bb))))) fun r _=>Cy _ J J J J J ((Sw a.Slot b.Slot) _) (fun v _ _ _=>Ax func56 hI) (Cr J Bb) fun r1 _=>Kl J J (fun _ _=>J) (fun K hK=>Lx (e:=rJ) (L:=[r,r1]) (st:=1) (rows:=[[(.I r)],[(.I r1)]]) A7 Bf J J J J J (.cons (RowSim.refl _) (.cons (RowSim.refl _) .nil)) (fun x=>Cb x) J J (hK _ _ (Cr J Bb) ?_))
 clear hK K
 refine Cy _ J J J J J ((Ak7 [r,r1]) _) (fun v _ _ _=>Ax func56 hI) (Cr J Bb) fun r2 _=>Z (.I r2) J J Ce<|Bs<|A0 func56 hI J (.same _)
theorem Om (s:List Int)(v:Int):CP Tryz.prog 51 [(.sl 1 (List.map (rI .i64) s)),(.int .i64 v)] (Gv s v) (fun(x:Int)=>(AV.int .i64 x)):=by
 refine Bl (n:=19) 0 func51 J (by decide) J J fun h0 ids hI=>Bp (Ah (Gv.eq_1 _ _) ?_)
 refine Y<|Aj (.I 0)<|O<|Ad<|Y<|Au (.K s)<|Ac (.I (s.length:Int)) J (A5 (Be A7))<|Au (.I 0)<|O<|Aw<|Ct [(0,(.K s)),(1,(.I v)),(7,(.I (s.length:Int))),(8,(.I 0))] (FI J)<|Ef (P:=Tryz.prog) s (fun j a=>fun _=>Oq v j a) ((alt (fun _=>.ok (-1)) (fun r=>.ok r)):(Unit ⊕ Int)→R Int) (fun j=>fun _=>fun fr h=>fr=Ap [(0,(.K s)),(1,(.I v)),(7,(.I (s.length:Int))),(8,(.I j))]∧h=hp h0 ids []) () ?_ ?_ ?_
 ·exact⟨J,J⟩
 ·rintro j a ha W hW _ fr h ⟨rfl,rfl⟩
  refine Ah (m':=Oq v j a) J (Ah (Oq.eq_1 _ _ _) ?_)
  refine Y<|Ac (.B (decide ((j:Int)<(s.length:Int)))) J (Ak J J J)<|O<|Ad<|Di (t:=0) (L:=s) J fun hlim=>Ch J (Int.ofNat_lt.2 (A6 ha))<|Aq<|Ad<|Aw<|Y<|Aa 2 [] [(5,(.I j))]<|O<|Y<|Aa 3 [] [(13,(.I j)),(12,(.K s)),(11,(.I v))]<|Ac (.cp [(.I a)] 0) J (Az (C9 A7 Bf J ha))<|Aa 2 [] [(16,(.B (v==a)))]<|O<|Bk J (fun hc=>?_) (fun hc=>?_)
  ·refine Y<|Aa 2 [] [(4,(.I j))]<|O<|Ew<|E2<|A0 func51 hI J (.same _)
  refine Aq<|A8<|At<|Aa 2 [] [(8,(.I (wi ((j:Int)+1))))]<|O<|Bh (Ey (hW () _ _ ⟨J,J⟩)) (.r2 (.r (.o (ic ha hlim))))
 rintro _ fr h ⟨rfl,rfl⟩
 refine Ah (Fd _ _ _)<|Y<|Ac (.B (decide ((s.length:Int)<(s.length:Int)))) J (Ak J J J)<|O<|Ad<|Ci J (Int.lt_irrefl _)<|Bw J<|Y<|Aj (.I (-1))<|O<|A0 func51 hI J (.same _)
theorem Wk (airline:Int)(flight:Int):CP Tryz.prog 59 [(.int .i64 airline),(.int .i64 flight)] (J1 airline flight) (fun(x:Bool)=>(AV.bool x)):=by
 refine Bl (n:=19) 0 func59 J (by decide) J J fun h0 ids hI=>Bp (Ah (J1.eq_1 _ _) ?_)
 refine Y<|Aj (.B false)<|O<|Y<|Aa 3 [] [(7,(.B (decide (airline≥0))))]<|Bv 3 [(1,(.I flight)),(10,(.B ((decide (airline≥0))&&(decide (airline<8)))))] ?_ fun hJ=>Bm (decide (airline≥0)) (fun hb1=>?_) (fun hb1=>?_)
 ·refine Au (.B ((decide (airline≥0))&&(decide (airline<8))))<|Bv 3 [(1,(.I flight)),(14,(.B (((decide (airline≥0))&&(decide (airline<8)))&&(decide (flight≥0)))))] ?_ fun hJ1=>Bm ((decide (airline≥0))&&(decide (airline<8))) (fun hb3=>?_) (fun hb3=>?_)
  ·refine Au (.B (((decide (airline≥0))&&(decide (airline<8)))&&(decide (flight≥0))))<|Bv 3 [(18,(.B ((((decide (airline≥0))&&(decide (airline<8)))&&(decide (flight≥0)))&&(decide (flight≤4095)))))] ?_ fun hJ2=>Bm (((decide (airline≥0))&&(decide (airline<8)))&&(decide (flight≥0))) (fun hb5=>?_) (fun hb5=>?_)
   ·refine Aj (.B ((((decide (airline≥0))&&(decide (airline<8)))&&(decide (flight≥0)))&&(decide (flight≤4095))))<|O<|A0 func59 hI J (.same _)
   ·refine Bc (t:=15) hb5 J<|Aa 3 [] [(18,(.B (decide (flight≤4095))))]<|Bg hJ2 (.cons (I6 hb5) .nil)
   refine Bc (t:=15) hb5 J<|Aa 3 [] [(18,(.B false))]<|Bg hJ2 (.cons (I4 hb5) .nil)
  ·refine Bc (t:=11) hb3 J<|Aa 3 [] [(14,(.B (decide (flight≥0))))]<|Bg hJ1 (.r (.cons (I6 hb3) .nil))
  refine Bc (t:=11) hb3 J<|Aa 3 [] [(14,(.B false))]<|Bg hJ1 (.r (.cons (I4 hb3) .nil))
 ·refine Bc (t:=7) hb1 J<|Aa 3 [] [(10,(.B (decide (airline<8))))]<|Bg hJ (.r (.cons (I6 hb1) .nil))
 refine Bc (t:=7) hb1 J<|Aa 3 [] [(10,(.B false))]<|Bg hJ (.r (.cons (I4 hb1) .nil))
theorem X2 (c:Int):CP Tryz.prog 60 [(.int .i64 c)] (Jj c) (fun(x:Bool)=>(AV.bool x)):=by
 refine Bl (n:=9) 0 func60 J (by decide) J J fun h0 ids hI=>Bp (Ah (Jj.eq_1 _) ?_)
 refine Y<|Aj (.B false)<|O<|Y<|Aa 3 [] [(5,(.B (decide (c≥(-1)))))]<|Bv 3 [(8,(.B ((decide (c≥(-1)))&&(decide (c≤1048576)))))] ?_ fun hJ=>Bm (decide (c≥(-1))) (fun hb1=>?_) (fun hb1=>?_)
 ·refine Aj (.B ((decide (c≥(-1)))&&(decide (c≤1048576))))<|O<|A0 func60 hI J (.same _)
 ·refine Bc (t:=5) hb1 J<|Aa 3 [] [(8,(.B (decide (c≤1048576))))]<|Bg hJ (.cons (I6 hb1) .nil)
 refine Bc (t:=5) hb1 J<|Aa 3 [] [(8,(.B false))]<|Bg hJ (.cons (I4 hb1) .nil)
theorem Afw (W_:Value→R (Int×Bool))(cp_W_ : ∀ (v:Value),CP Tryz.prog 148 [(.agg (Cw v))] (W_ v) (fun(p:(Int×Bool))=>AV.tup [(.int .i64 p.1),(.bool p.2)]))(v:Value):CP Tryz.prog 148 [(.agg (Cw v))] (N1 W_ v) (fun(p:(Int×Bool))=>AV.tup [(.int .i64 p.1),(.bool p.2)]):=by
 refine Bl (n:=74) 3 func148 J (by decide) J J fun h0 ids hI=>Bp (Ah (N1.eq_1 _ _) ?_)
 refine Y<|B5 (v:=(.A (Cw v))) (j:=0) hI J J J J J J J fun g=>Aa 2 [] [(2,(.I 0))]<|O<|A2 ?_
 refine Y<|Aa 4 [0] [(12,(.B (v.S==[])))]<|Bv 5 [(1,(.q ids 0 g)),(2,(.I 0)),(17,(.B ((v.S==[])&&((v.L.length:Int)==0))))] ?_ fun hJ=>Bm (v.S==[]) (fun hb1=>?_) (fun hb1=>?_)
 ·refine Aa 4 [0] [(21,(.B (v.N==0)))]<|Bv 5 [(1,(.q ids 0 g)),(2,(.I 0)),(17,(.B ((v.S==[])&&((v.L.length:Int)==0)))),(26,(.B ((v.N==0)&&((v.L.length:Int)==0))))] ?_ fun hJ1=>Bm (v.N==0) (fun hb3=>?_) (fun hb3=>?_)
  ·refine Aa 4 [0] [(30,(.B (v.N==0)))]<|Bv 4 [(1,(.q ids 0 g)),(2,(.I 0)),(17,(.B ((v.S==[])&&((v.L.length:Int)==0)))),(26,(.B ((v.N==0)&&((v.L.length:Int)==0)))),(34,(.B ((v.N==0)&&(v.S==[]))))] ?_ fun hJ2=>Bm (v.N==0) (fun hb5=>?_) (fun hb5=>?_)
   ·refine Ac (.A ((rV rB) (#v[false,((v.S==[])&&((v.L.length:Int)==0)),((v.N==0)&&((v.L.length:Int)==0)),((v.N==0)&&(v.S==[]))]:(Vector Bool 4)))) J (Kz (Ai8 Ale Wo J))<|F3 (j:=1) (row:=((rV rB) (B3 4 false))) hI J J J J Ale (Js (n:=4) (e:=rB) (E:=(fun x:Bool=>(AV.bool x))) (fun _=>J) _).symm ((Dr (fun x=>Atq x) J) _) fun g1=>A3 (Fe (v:=(.A ((rV rB) (#v[false,((v.S==[])&&((v.L.length:Int)==0)),((v.N==0)&&((v.L.length:Int)==0)),((v.N==0)&&(v.S==[]))]:(Vector Bool 4))))) hI J J J Ale J J J (((Dr (fun x=>Atq x) J) _).1) J)<|O<|A2 ?_
    refine Ad<|Y<|Aa 4 [0] [(39,(.B (decide (v.Kind<1))))]<|Bv 4 [(1,(.q ids 0 g)),(2,(.I 0)),(4,(.q ids 1 g1)),(43,(.B ((decide (v.Kind<1))||(decide (v.Kind > 3)))))] ?_ fun hJ3=>Bm (decide (v.Kind<1)) (fun hb7=>?_) (fun hb7=>?_)
    ·refine Au (.B ((decide (v.Kind<1))||(decide (v.Kind > 3))))<|Es 6 ((fun(b:Bool)=>if b then(.ok (0,false)) else(if v.Kind<3 then(.ok (0,true)) else((each (fun _ a=>fun depth=>G7 W_ a depth) 0 v.L 0).bind (alt (fun depth=>.ok ((wi (depth+1)),true)) (fun r=>.ok r))))):Bool→R (Int×Bool)) (fun(b:Bool) (fr:Nat→AV) (h:Ab)=>fr=Ap [(1,(.q ids 0 g)),(2,(.I 0)),(50,(.B b))]∧h=hp h0 ids [(Ao g 4 [(Cw v)]),(Ao g1 4 [((rV rB) (#v[false,((v.S==[])&&((v.L.length:Int)==0)),((v.N==0)&&((v.L.length:Int)==0)),((v.N==0)&&(v.S==[]))]:(Vector Bool 4)))]),none]) ?_ fun hJ4=>F6 (fun hb9=>?_) (fun hb9=>?_)
     ·rintro b fr h ⟨rfl,rfl⟩
      refine O<|Bk J (fun hc=>?_) (fun hc=>?_)
      ·refine Y<|Aa 2 [] [(3,(.B false)),(2,(.I 0))]<|O<|A0 func148 hI J (.tupL .s2)
      refine Aq<|Ad<|Y<|Aa 3 [0] [(53,(.B (decide (v.Kind<3))))]<|O<|D9 J (fun hc1=>?_) (fun hc1=>?_)
      ·refine Y<|Aa 2 [] [(3,(.B true)),(2,(.I 0))]<|O<|A0 func148 hI J (.tupL .s2)
      refine Aq<|Ad<|Y<|Aa 2 [0] [(55,(.sl 4 (List.map rValueA v.L)))]<|Ac (.I (v.L.length:Int)) J (A5 (Be Hl))<|Au (.I 0)<|O<|Aw<|Cf [none,none,none] hI J (.drop (.drop (.keep .nil)))<|Ct [(2,(.I 0)),(55,(.sl 4 (List.map rValueA v.L))),(56,(.I (v.L.length:Int))),(57,(.I 0))] (FI J)<|Ef (P:=Tryz.prog) v.L (fun _ a=>fun depth=>G7 W_ a depth) ((alt (fun depth=>.ok ((wi (depth+1)),true)) (fun r=>.ok r)):(Int ⊕ (Int×Bool))→R (Int×Bool)) (fun j=>fun depth=>fun fr h=>fr=Ap [(2,(.I depth)),(55,(.sl 4 (List.map rValueA v.L))),(56,(.I (v.L.length:Int))),(57,(.I j))]∧h=hp h0 ids [none,none,none]) 0 ?_ ?_ ?_
      ·exact⟨J,J⟩
      ·rintro j a ha W hW depth fr h ⟨rfl,rfl⟩
       refine Ah (m':=G7 W_ a depth) J (Ah (G7.eq_1 _ _ _) ?_)
       refine Y<|Ac (.B (decide ((j:Int)<(v.L.length:Int)))) J (Ak J J J)<|O<|Ad<|Di (t:=55) (L:=v.L) J fun hlim=>Ch J (Int.ofNat_lt.2 (A6 ha))<|Aq<|Ad<|Aw<|Y<|Ac (.cp (Cw a) 0) J (Az (Aha Vw Hl D5 J ha))<|Ac (.A (Cw a)) J (Af (Cg D5 J))<|Cl (j:=2) hI J J J J D5 J fun g2=>A3 (Bt (v:=(.A (Cw a))) hI J J J J D5 J J J J J)<|O<|A2 ?_
       refine Y<|Aa 1 [2] [(62,(.A (Cw a)))]<|Ba _ J J J J ((cp_W_ a) _) (fun v _=>Ax func148 hI) fun r _=>Aa 5 [] [(8,(.B r.2)),(7,(.I r.1))]<|O<|Ad<|Y<|Aa 2 [] [(67,(.B (!r.2)))]<|O<|J3 J (fun hc2=>?_) (fun hc2=>?_)
       ·refine Aq<|At<|Aa 2 [] [(69,(.I r.1)),(68,(.I depth))]<|Ac (.I (if r.1 > depth then r.1 else depth)) J (Avy J)<|Aj (.I (if r.1 > depth then r.1 else depth))<|O<|A8<|At<|Aa 2 [] [(57,(.I (wi ((j:Int)+1))))]<|O<|Cf [none,none,none] hI J (.keep (.keep (.drop .nil)))<|Bh (Ey (hW (if r.1 > depth then r.1 else depth) _ _ ⟨J,J⟩)) (.r2 (.r (.o (ic ha hlim))))
       refine Y<|Aa 2 [] [(3,(.B false)),(2,(.I 0))]<|O<|Ew<|E2<|A0 func148 hI J (.tupL .s2)
      rintro depth fr h ⟨rfl,rfl⟩
      refine Ah (Fd _ _ _)<|Y<|Ac (.B (decide ((v.L.length:Int)<(v.L.length:Int)))) J (Ak J J J)<|O<|Ad<|Ci J (Int.lt_irrefl _)<|Bw J<|Y<|Aa 4 [] [(3,(.B true)),(2,(.I (wi (depth+1))))]<|O<|A0 func148 hI J (.tupL .s2)
     ·refine Bc (t:=44) hb9 J<|Aa 6 [] [(50,(.B true))]<|B4<|C8 [(1,(.q ids 0 g)),(2,(.I 0)),(50,(.B true))] (FI J)<|hJ4 true _ _ ⟨J,J⟩
     refine Bc (t:=44) hb9 J<|Aa 2 [0] [(46,(.I v.Kind))]<|Cu fun hi=>Cx (tj:=44) (.ptr (ix ids 1) g1 0 (Int.toNat v.Kind)) J J J (Az (Jk Ale Wo J hi))<|Cx (tj:=44) (.B (A4 (#v[false,((v.S==[])&&((v.L.length:Int)==0)),((v.N==0)&&((v.L.length:Int)==0)),((v.N==0)&&(v.S==[]))]:(Vector Bool 4)) (Int.toNat v.Kind) false)) J J J (Af (An hI J J J Wo (Gm (e:=rB) (E:=(fun x:Bool=>(AV.bool x))) (fun _=>J) (J0 hi) false)))<|Aa 2 [] [(50,(.B (!(A4 (#v[false,((v.S==[])&&((v.L.length:Int)==0)),((v.N==0)&&((v.L.length:Int)==0)),((v.N==0)&&(v.S==[]))]:(Vector Bool 4)) (Int.toNat v.Kind) false))))]<|B4<|C8 [(1,(.q ids 0 g)),(2,(.I 0)),(50,(.B (!(A4 (#v[false,((v.S==[])&&((v.L.length:Int)==0)),((v.N==0)&&((v.L.length:Int)==0)),((v.N==0)&&(v.S==[]))]:(Vector Bool 4)) (Int.toNat v.Kind) false))))] (FI J)<|hJ4 (!(A4 (#v[false,((v.S==[])&&((v.L.length:Int)==0)),((v.N==0)&&((v.L.length:Int)==0)),((v.N==0)&&(v.S==[]))]:(Vector Bool 4)) (Int.toNat v.Kind) false)) _ _ ⟨J,J⟩
    ·refine Bc (t:=39) hb7 J<|Aa 4 [] [(43,(.B true))]<|Bg hJ3 (.r2 (.r (.cons (Ep hb7) .nil)))
    refine Bc (t:=39) hb7 J<|Aa 4 [0] [(43,(.B (decide (v.Kind > 3))))]<|Bg hJ3 (.r2 (.r (.cons (Er hb7) .nil)))
   ·refine Bc (t:=30) hb5 J<|Aa 4 [0] [(34,(.B (v.S==[])))]<|Bg hJ2 (.r4 (.cons (I6 hb5) .nil))
   refine Bc (t:=30) hb5 J<|Aa 4 [] [(34,(.B false))]<|Bg hJ2 (.r4 (.cons (I4 hb5) .nil))
  ·refine Bc (t:=21) hb3 J<|Aa 2 [0] [(23,(.sl 4 (List.map rValueA v.L)))]<|Cx (tj:=21) (.I (v.L.length:Int)) J J J (A5 (Be Hl))<|Aa 2 [] [(26,(.B ((v.L.length:Int)==0)))]<|Bg hJ1 (.r2 (.r (.cons (I6 hb3) .nil)))
  refine Bc (t:=21) hb3 J<|Aa 5 [] [(26,(.B false))]<|Bg hJ1 (.r2 (.r (.cons (I4 hb3) .nil)))
 ·refine Bc (t:=12) hb1 J<|Aa 2 [0] [(14,(.sl 4 (List.map rValueA v.L)))]<|Cx (tj:=12) (.I (v.L.length:Int)) J J J (A5 (Be Hl))<|Aa 2 [] [(17,(.B ((v.L.length:Int)==0)))]<|Bg hJ (.r2 (.cons (I6 hb1) .nil))
 refine Bc (t:=12) hb1 J<|Aa 5 [] [(17,(.B false))]<|Bg hJ (.r2 (.cons (I4 hb1) .nil))
theorem Af2 : ∀ (n:Nat) (v:Value),CP Tryz.prog 148 [(.agg (Cw v))] (Hv n v) (fun(p:(Int×Bool))=>AV.tup [(.int .i64 p.1),(.bool p.2)]):=by
 intro n
 induction n with
 | zero=>intro v; exact fun h hb=>absurd rfl hb
 | succ n ih=>intro v; exact Afw (Hv n) ih v
theorem Aiy (v:Value):CP Tryz.prog 148 [(.agg (Cw v))] (Q1 v) (fun(p:(Int×Bool))=>AV.tup [(.int .i64 p.1),(.bool p.2)]):=Af2 V3 v
theorem Ajo (v:Value):CP Tryz.prog 121 [(.agg (Cw v))] (P8 v) (fun(x:Int)=>(AV.int .i64 x)):=by
 refine Bl (n:=16) 1 func121 J (by decide) J J fun h0 ids hI=>Bp (Ah (P8.eq_1 _) ?_)
 refine Y<|B5 (v:=(.A (Cw v))) (j:=0) hI J J J J J J J fun g=>Aj (.I 0)<|O<|A2 ?_
 refine Y<|Aa 1 [0] [(6,(.A (Cw v)))]<|Ba _ J J J J ((Aiy v) _) (fun v _=>Ax func121 hI) fun r _=>Aa 5 [] [(4,(.B r.2)),(3,(.I r.1))]<|O<|Ad<|Aw<|Y<|Aa 3 [] [(10,(.B (!r.2)))]<|O<|J3 J (fun hc=>?_) (fun hc=>?_)
 ·refine Y<|Aa 3 [] [(13,(.B (decide (r.1 > 16))))]<|O<|D9 J (fun hc1=>?_) (fun hc1=>?_)
  ·refine Y<|Aj (.I 2)<|O<|A0 func121 hI J (.same _)
  refine Aq<|A8<|Y<|Aj (.I 0)<|O<|A0 func121 hI J (.same _)
 refine Y<|Aj (.I 1)<|O<|A0 func121 hI J (.same _)
theorem Acw (h0:Ab)(o0:Nat)(o1:Nat)(hI0:Ids h0 [o0,o1] 2):K8≠.bad→B0 Tryz.prog 122 [] (hp h0 [o0,o1] [none,none]) (E8 (fun a_ v h' => ∃ (g2:Nat),∃ (g3:Nat),v=(.ptr o0 g2 0 0)∧h'=hp h0 [o0,o1] [some (.rows g2 4 [[.nilf,(.func (.func 149) [] []),(.func (.func 152) [] []),(.func (.func 153) [] [(.ptr o1 g3 0 0)])]]),some (.rows g3 1 [[(.ptr o0 g2 0 0)]])]) h0 (K8)):=by
 refine Fr (n:=18) 0 func122 J (by decide) J J hI0 J fun ids he hI=>?_
 clear hI0
 obtain rfl:ix ids 0=o0:=he 0 rfl
 obtain rfl:ix ids 1=o1:=he 1 rfl
 clear he
 refine Bp (Ah (K8.eq_1) ?_)
 refine Y<|Aj .nilp<|O<|Y<|Ac (.A [.nilf,.nilf,.nilf,.nilf]) J (Kz (Ai8 Qj Hk J))<|B5 (v:=(.A [.nilf,.nilf,.nilf,.nilf])) (j:=0) hI J J J J J J J fun g=>Cl (j:=1) hI J J J J Alj J fun g1=>A3 (Bt (v:=(.q ids 0 g)) hI J J J J Alj J J J J J)<|O<|A2 ?_
 refine Y<|Aa 2 [1] [(5,(.q ids 0 g))]<|Ac (.ptr (ix ids 0) g 0 1) J (Az (J2 1 Qj Hk J J))<|Ac (.ptr (ix ids 0) g 0 1) J (Bn (B8 1 0 0 Hk J Hu J))<|A3 (Bt (v:=(.func (.func 149) [] [])) hI J J J J Hu J J J J J)<|O<|A2 ?_
 refine Y<|Aa 2 [1] [(9,(.q ids 0 g))]<|Ac (.ptr (ix ids 0) g 0 2) J (Az (J2 2 Qj Hk J J))<|Ac (.ptr (ix ids 0) g 0 2) J (Bn (B8 2 0 0 Hk J Hu J))<|A3 (Bt (v:=(.func (.func 152) [] [])) hI J J J J Hu J J J J J)<|O<|A2 ?_
 refine Y<|Aa 3 [1] [(14,(.q ids 0 g)),(13,(.func (.func 153) [] [(.q ids 1 g1)]))]<|Ac (.ptr (ix ids 0) g 0 3) J (Az (J2 3 Qj Hk J J))<|Ac (.ptr (ix ids 0) g 0 3) J (Bn (B8 3 0 0 Hk J Hu J))<|A3 (Bt (v:=(.func (.func 153) [] [(.q ids 1 g1)])) hI J J J J Hu J J J J J)<|O<|A2 ?_
 refine Y<|Aa 2 [1] [(0,(.q ids 0 g))]<|O<|Hx (K:=2) (N:=0) [Ao g 4 [[.nilf,(.func (.func 149) [] []),(.func (.func 152) [] []),(.func (.func 153) [] [(.q ids 1 g1)])]],Ao g1 1 [[(.q ids 0 g)]]] func122 hI J J J (.keep (.keep .nil)) (.same _) ⟨g,g1,J,J⟩
theorem Afx (n:Int):CP Tryz.prog 151 [(.int .i64 n)] (Qm n) (fun(x:Int)=>(AV.int .u64 x)):=by
 refine Bl (n:=10) 0 func151 J (by decide) J J fun h0 ids hI=>Bp (Ah (Qm.eq_1 _) ?_)
 refine Y<|Aj (.int .u64 0)<|O<|Y<|Au (.I n)<|Ac (.int .u64 (IntKind.wrap .u64 n)) J (Fa (Gy Bf Mk))<|Ac (.int .u64 (Sh .u64 (IntKind.wrap .u64 n) 1)) J (Ak J J (Ab9 (by decide)))<|Au (.I n)<|Ac (.I (Int.fdiv n 9223372036854775808)) J (Ak J J (K9 (by decide) (by decide)))<|Ac (.int .u64 (IntKind.wrap .u64 (Int.fdiv n 9223372036854775808))) J (Fa (Gy Bf Mk))<|Ac (.int .u64 (Do .u64 (Sh .u64 (IntKind.wrap .u64 n) 1) (IntKind.wrap .u64 (Int.fdiv n 9223372036854775808)))) J (Ak J J L8)<|Aj (.int .u64 (Do .u64 (Sh .u64 (IntKind.wrap .u64 n) 1) (IntKind.wrap .u64 (Int.fdiv n 9223372036854775808))))<|O<|A0 func151 hI J (.same _)
theorem Pr (u:Int)(l:List Int)(h0:Ab)(o0:Nat)(v1:AV)(g:Nat)(vH:Cj v1 o0 g l.length)(hI0:Ids h0 [o0] 1):Gj u l≠.bad→B0 Tryz.prog 150 [v1,(.int .u64 u)] (hp h0 [o0] [Bq v1 g 1 (List.map (rI .u8) l)]) (E8 (fun a_ v h' => ∃ (v6:AV),∃ (g5:Nat),Cj v6 o0 g5 a_.length∧v6=v∧h'=hp h0 [o0] [Bq v6 g5 1 (List.map (rI .u8) a_)]) h0 (Gj u l)):=by
 refine Fr (n:=20) 0 func150 J (by decide) J J hI0 J fun ids he hI=>?_
 clear hI0
 obtain rfl:ix ids 0=o0:=he 0 rfl
 clear he
 refine Bp (Ah (Gj.eq_1 _ _) ?_)
 refine Y<|Aj .emp<|O<|Ad<|Ec (D0 fun u2 b1=>Io u2 b1) (D0 fun u2 b1=>fun fr h => ∃ (v4:AV),∃ (g3:Nat),Cj v4 (ix ids 0) g3 b1.length∧fr=Ap [(0,v4),(1,(.int .u64 u2))]∧h=hp h0 ids [(Bq v4 g3 1 (List.map (rI .u8) b1))]) ?_ fun hJ=>?_
 ·rintro⟨u2,b1⟩ fr h ⟨v4,g3,vH3,rfl,rfl⟩
  refine Ah (Io.eq_1 _ _)<|Y<|Aa 2 [] [(16,(.int .u64 u2)),(15,v4)]<|Ac (.int .u8 (IntKind.wrap .u8 u2)) J (Fa (Gy Mk Em))<|Ft (e:=(rI .u8)) (L:=[(IntKind.wrap .u8 u2)]) (st:=1) (rows:=[[(.int .u8 (IntKind.wrap .u8 u2))]]) J Dm Em J J J J J (.cons (RowSim.refl _) .nil) (fun x=>Cb x) J J<|Cu fun hl1=>Fu (e:=(rI .u8)) (L:=b1) (L2:=[(IntKind.wrap .u8 u2)]) (v:=v4) (g:=g3) (st:=1) (j:=0) hI J J J J vH3 J (Fo J) Dm Dm J Em J J J hl1 fun v5 g4 vH4=>Aj v5<|O<|A2 ?_
  exact Hx (K:=1) (N:=0) [Bq v5 g4 1 (List.map (rI .u8) (b1++[(IntKind.wrap .u8 u2)]))] func150 hI J J J (.keep .nil) (.same _) ⟨v5,g4,vH4,J,J⟩
 refine Aw<|Ct [(0,v1),(1,(.int .u64 u))] (FI J)<|Jz (P:=Tryz.prog) (D0 fun u1 b=>Ik u1 b) ((D0 fun u2 b1=>Io u2 b1):(Int×(List Int))→R (List Int)) (D0 fun u1 b=>fun fr h => ∃ (v2:AV),∃ (g1:Nat),Cj v2 (ix ids 0) g1 b.length∧fr=Ap [(0,v2),(1,(.int .u64 u1))]∧h=hp h0 ids [(Bq v2 g1 1 (List.map (rI .u8) b))]) (u,l) ?_ ?_
 ·exact⟨v1,g,vH,J,J⟩
 rintro vW hW ⟨u1,b⟩ fr h ⟨v2,g1,vH1,rfl,rfl⟩
 refine Ah (m':=Ik u1 b) J (Ah (Ik.eq_1 _ _) ?_)
 refine Ad<|Y<|Aa 2 [] [(6,(.B (decide (u1≥128))))]<|O<|D9 J (fun hc=>?_) (fun hc=>?_)
 ·refine Aq<|Ad<|Aw<|At<|Aa 2 [] [(10,(.int .u64 u1)),(9,v2)]<|Ac (.int .u8 (IntKind.wrap .u8 u1)) J (Fa (Gy Mk Em))<|Ac (.int .u8 (Ny .u8 (IntKind.wrap .u8 u1) 128)) J (Ak J J Zx)<|Ft (e:=(rI .u8)) (L:=[(Ny .u8 (IntKind.wrap .u8 u1) 128)]) (st:=1) (rows:=[[(.int .u8 (Ny .u8 (IntKind.wrap .u8 u1) 128))]]) J Dm Em J J J J J (.cons (RowSim.refl _) .nil) (fun x=>Cb x) J J<|Cu fun hl=>Fu (e:=(rI .u8)) (L:=b) (L2:=[(Ny .u8 (IntKind.wrap .u8 u1) 128)]) (v:=v2) (g:=g1) (st:=1) (j:=0) hI J J J J vH1 J (Fo J) Dm Dm J Em J J J hl fun v3 g2 vH2=>Aj v3<|O<|A2 ?_
  refine A8<|At<|Au (.int .u64 u1)<|Ac (.int .u64 (Int.fdiv u1 128)) J (Ak J J (K9 (by decide) (by decide)))<|Aj (.int .u64 (Int.fdiv u1 128))<|O<|Bh (Hy (hW ((Int.fdiv u1 128),(b++[(Ny .u8 (IntKind.wrap .u8 u1) 128)])) _ _ ⟨v3,g2,vH2,J,J⟩))
 refine Bw J<|Ig<|Bh (hJ (u1,b) _ _ ⟨v2,g1,vH1,J,J⟩)
theorem O4 (v1:Value)(l:List Int)(h0:Ab)(o0:Nat)(v2:AV)(g:Nat)(vH:Cj v2 o0 g l.length)(hI0:Ids h0 [o0] 1):Eo v1 l≠.bad→B0 Tryz.prog 149 [v2,(.agg (Cw v1))] (hp h0 [o0] [Bq v2 g 1 (List.map (rI .u8) l)]) (E8 (fun a_ v h' => ∃ (v5:AV),∃ (g4:Nat),Cj v5 o0 g4 a_.length∧v5=v∧h'=hp h0 [o0] [Bq v5 g4 1 (List.map (rI .u8) a_)]) h0 (Eo v1 l)):=by
 refine Fr (n:=12) 1 func149 J (by decide) J J hI0 J fun ids he hI=>?_
 clear hI0
 obtain rfl:ix ids 0=o0:=he 0 rfl
 clear he
 refine Bp (Ah (Eo.eq_1 _ _) ?_)
 refine A2 ?_
 refine Y<|B5 (v:=(.A (Cw v1))) (j:=1) hI J J J J J J J fun g1=>Aj .emp<|O<|A2 ?_
 refine Ad<|Cq El [[],[],[0,1],[],[3],[0,1,2,3,4],[0,1,2,3,4,5],[0,1,2,3,4,5,6,6,6]] [(false,0),(false,3),(false,4),(true,1),(true,2),(true,5),(true,6),(false,7)] (by kernel_rfl)<|Z v2 J J Ae<|Z (.ptr (ix ids 1) g1 0 1) J J (Bn (B8 0 1 1 D5 J Bf J))<|Z (.I v1.N) J J (Af (An hI J J J Bf J))<|Kl J J (fun _ _=>J) (fun K hK=>Lx (e:=(rI .u8)) (L:=[1]) (st:=1) (rows:=[[(.int .u8 1)]]) Dm Em J J J J J (.cons (RowSim.refl _) .nil) (fun x=>Cb x) J J (hK _ _ (Ai J (Af (An hI J J J Bf J)) (Ai J (Bn (B8 0 1 1 D5 J Bf J)) (Ai J Ae Bb))) ?_))
 clear hK K
 refine F2 fun hl=>Kl J J (fun _ _=>J) (fun K hK=>Pe (e:=(rI .u8)) (L:=l) (L2:=[1]) (v:=v2) (g:=g) (st:=1) (j:=0) hI J J J vH J (Fo J) Dm Dm J Em J J J hl fun v3 g2 vH1=>hK _ _ (Ai J (Af (An hI J J J Bf J)) (Ai J (Bn (B8 0 1 1 D5 J Bf J)) (Bz J Bb))) ?_)
 clear hK K
 refine Cy _ J J J J J ((Afx v1.N) _) (fun v _ _ _=>F4 (K:=1) (N:=1) func149 hI) (B7 J (Bz J Bb)) fun r _=>G3 [0] hI J J (Pr r (l++[1]) _ (ix ids 0) v3 g2 vH1 (by exact hI.sub' J J)) J J J J J J J (fun v _ _ _=>F4 (K:=1) (N:=1) func149 hI) ?_
 rintro r1 _ _ _ ⟨v4,g3,vH2,rfl,rfl⟩
 refine Hz [0] [Bq v4 g3 1 (List.map (rI .u8) r1),Ao g1 4 [(Cw v1)]] hI J J J J ⟨(B7 J (Bz J Bb)),?_⟩
 refine H0<|Z v4 J J Ce<|Bs<|A2 ?_
 exact Hx (K:=1) (N:=1) [Bq v4 g3 1 (List.map (rI .u8) r1)] func149 hI J J J (.keep (.drop .nil)) (.same _) ⟨v4,g3,vH2,J,J⟩
theorem O0 (v1:Value)(l:List Int)(h0:Ab)(o0:Nat)(v2:AV)(g:Nat)(vH:Cj v2 o0 g l.length)(hI0:Ids h0 [o0] 1):Gg v1 l≠.bad→B0 Tryz.prog 152 [v2,(.agg (Cw v1))] (hp h0 [o0] [Bq v2 g 1 (List.map (rI .u8) l)]) (E8 (fun a_ v h' => ∃ (v6:AV),∃ (g5:Nat),Cj v6 o0 g5 a_.length∧v6=v∧h'=hp h0 [o0] [Bq v6 g5 1 (List.map (rI .u8) a_)]) h0 (Gg v1 l)):=by
 refine Fr (n:=16) 1 func152 J (by decide) J J hI0 J fun ids he hI=>?_
 clear hI0
 obtain rfl:ix ids 0=o0:=he 0 rfl
 clear he
 refine Bp (Ah (Gg.eq_1 _ _) ?_)
 refine A2 ?_
 refine Y<|B5 (v:=(.A (Cw v1))) (j:=1) hI J J J J J J J fun g1=>Aj .emp<|O<|A2 ?_
 refine Ad<|Cq El [[],[],[0,1],[],[3],[3,4],[3,4,5],[0,1,2,3,4,5,6],[],[8],[0,1,2,3,4,5,6,7,8,9],[0,1,2,3,4,5,6,7,8,9,10,10,10]] [(false,0),(false,3),(false,4),(false,5),(false,6),(false,8),(false,9),(true,1),(true,2),(true,7),(true,10),(false,11)] (by kernel_rfl)<|Z v2 J J Ae<|Z (.ptr (ix ids 1) g1 0 2) J J (Bn (B8 0 2 2 D5 J Q8 J))<|Z (.str v1.S) J J (Af (An hI J J J Q8 J))<|Z (.I (v1.S.length:Int)) J J (A5 (Aji Q8))<|Z (.int .u64 (IntKind.wrap .u64 (v1.S.length:Int))) J J (Fa (Gy Bf Mk))<|Z (.ptr (ix ids 1) g1 0 2) J J (Bn (B8 0 2 2 D5 J Q8 J))<|Z (.str v1.S) J J (Af (An hI J J J Q8 J))<|Kl J J (fun _ _=>J) (fun K hK=>Lx (e:=(rI .u8)) (L:=[2]) (st:=1) (rows:=[[(.int .u8 2)]]) Dm Em J J J J J (.cons (RowSim.refl _) .nil) (fun x=>Cb x) J J (hK _ _ (Ai J (Af (An hI J J J Q8 J)) (Ai J (Bn (B8 0 2 2 D5 J Q8 J)) (Ai J (Fa (Gy Bf Mk)) (Ai J (A5 (Aji Q8)) (Ai J (Af (An hI J J J Q8 J)) (Ai J (Bn (B8 0 2 2 D5 J Q8 J)) (Ai J Ae Bb))))))) ?_))
 clear hK K
 refine F2 fun hl=>Kl J J (fun _ _=>J) (fun K hK=>Pe (e:=(rI .u8)) (L:=l) (L2:=[2]) (v:=v2) (g:=g) (st:=1) (j:=0) hI J J J vH J (Fo J) Dm Dm J Em J J J hl fun v3 g2 vH1=>hK _ _ (Ai J (Af (An hI J J J Q8 J)) (Ai J (Bn (B8 0 2 2 D5 J Q8 J)) (Ai J (Fa (Gy Bf Mk)) (Ai J (A5 (Aji Q8)) (Ai J (Af (An hI J J J Q8 J)) (Ai J (Bn (B8 0 2 2 D5 J Q8 J)) (Bz J Bb))))))) ?_)
 clear hK K
 refine G3 [0] hI J J (Pr (IntKind.wrap .u64 (v1.S.length:Int)) (l++[2]) _ (ix ids 0) v3 g2 vH1 (by exact hI.sub' J J)) J J J J J J J (fun v _ _ _=>F4 (K:=1) (N:=1) func152 hI) ?_
 rintro r _ _ _ ⟨v4,g3,vH2,rfl,rfl⟩
 refine Hz [0] [Bq v4 g3 1 (List.map (rI .u8) r),Ao g1 4 [(Cw v1)]] hI J J J J ⟨(Ai J (Af (An hI J J J Q8 J)) (Ai J (Bn (B8 0 2 2 D5 J Q8 J)) (Ex J (Bz J Bb)))),?_⟩
 refine H0<|F2 fun hl1=>Kl J J (fun _ _=>J) (fun K hK=>Pe (e:=(rI .u8)) (L:=r) (L2:=(Nm v1.S)) (v:=v4) (g:=g3) (st:=1) (j:=0) hI J J J vH2 J (Avb J J) Dm Q8 J Em J J J hl1 fun v5 g4 vH3=>hK _ _ (Ex J (B7 J (Bz J Bb))) ?_)
 clear hK K
 refine Z v5 J J Ce<|Bs<|A2 ?_
 exact Hx (K:=1) (N:=1) [Bq v5 g4 1 (List.map (rI .u8) (r++(Nm v1.S)))] func152 hI J J J (.keep (.drop .nil)) (.same _) ⟨v5,g4,vH3,J,J⟩
theorem Y3 (W_:Value→(List Int)→R (List Int))(cg_W_ : ∀ (v1:Value) (l:List Int) (h0:Ab) (o0:Nat) (o1:Nat) (o2:Nat) (v2:AV) (g:Nat) (g1:Nat) (g2:Nat) (vH:Cj v2 o0 g l.length) (hI0:Ids h0 [o0,o1,o2] 3),W_ v1 l≠.bad→B0 Tryz.prog 153 [v2,(.agg (Cw v1)),(.ptr o1 g1 0 0)] (hp h0 [o0,o1,o2] [Bq v2 g 1 (List.map (rI .u8) l),some (.rows g1 1 [[(.ptr o2 g2 0 0)]]),some (.rows g2 4 [[.nilf,(.func (.func 149) [] []),(.func (.func 152) [] []),(.func (.func 153) [] [(.ptr o1 g1 0 0)])]])]) (E8 (fun a_ v h' => ∃ (v9:AV),∃ (g11:Nat),Cj v9 o0 g11 a_.length∧v9=v∧h'=hp h0 [o0,o1,o2] [Bq v9 g11 1 (List.map (rI .u8) a_),some (.rows g1 1 [[(.ptr o2 g2 0 0)]]),some (.rows g2 4 [[.nilf,(.func (.func 149) [] []),(.func (.func 152) [] []),(.func (.func 153) [] [(.ptr o1 g1 0 0)])]])]) h0 (W_ v1 l)))(v1:Value)(l:List Int)(h0:Ab)(o0:Nat)(o1:Nat)(o2:Nat)(v2:AV)(g:Nat)(g1:Nat)(g2:Nat)(vH:Cj v2 o0 g l.length)(hI0:Ids h0 [o0,o1,o2] 3):H4 W_ v1 l≠.bad→B0 Tryz.prog 153 [v2,(.agg (Cw v1)),(.ptr o1 g1 0 0)] (hp h0 [o0,o1,o2] [Bq v2 g 1 (List.map (rI .u8) l),some (.rows g1 1 [[(.ptr o2 g2 0 0)]]),some (.rows g2 4 [[.nilf,(.func (.func 149) [] []),(.func (.func 152) [] []),(.func (.func 153) [] [(.ptr o1 g1 0 0)])]])]) (E8 (fun a_ v h' => ∃ (v9:AV),∃ (g11:Nat),Cj v9 o0 g11 a_.length∧v9=v∧h'=hp h0 [o0,o1,o2] [Bq v9 g11 1 (List.map (rI .u8) a_),some (.rows g1 1 [[(.ptr o2 g2 0 0)]]),some (.rows g2 4 [[.nilf,(.func (.func 149) [] []),(.func (.func 152) [] []),(.func (.func 153) [] [(.ptr o1 g1 0 0)])]])]) h0 (H4 W_ v1 l)):=by
 refine Fr (n:=35) 2 func153 J (by decide) J J hI0 J fun ids he hI=>?_
 clear hI0
 obtain rfl:ix ids 0=o0:=he 0 rfl
 obtain rfl:ix ids 1=o1:=he 1 rfl
 obtain rfl:ix ids 2=o2:=he 2 rfl
 clear he
 refine Bp (Ah (H4.eq_1 _ _ _) ?_)
 refine A2 ?_
 refine Y<|B5 (v:=(.A (Cw v1))) (j:=3) hI J J J J J J J fun g3=>Aj .emp<|O<|A2 ?_
 refine Ad<|Cq El [[],[],[0,1],[],[3],[3,4],[3,4,5],[0,1,2,3,4,5,6],[0,1,2,3,4,5,6,7,7,7]] [(false,0),(false,3),(false,4),(false,5),(false,6),(true,1),(true,2),(true,7),(false,8)] (by kernel_rfl)<|Z v2 J J Ae<|Z (.ptr (ix ids 3) g3 0 3) J J (Bn (B8 0 3 3 D5 J Hl J))<|Z (.sl 4 (List.map rValueA v1.L)) J J (Af (An hI J J J Hl J))<|Z (.I (v1.L.length:Int)) J J (A5 (Be Hl))<|Z (.int .u64 (IntKind.wrap .u64 (v1.L.length:Int))) J J (Fa (Gy Bf Mk))<|Kl J J (fun _ _=>J) (fun K hK=>Lx (e:=(rI .u8)) (L:=[3]) (st:=1) (rows:=[[(.int .u8 3)]]) Dm Em J J J J J (.cons (RowSim.refl _) .nil) (fun x=>Cb x) J J (hK _ _ (Ai J (Fa (Gy Bf Mk)) (Ai J (A5 (Be Hl)) (Ai J (Af (An hI J J J Hl J)) (Ai J (Bn (B8 0 3 3 D5 J Hl J)) (Ai J Ae Bb))))) ?_))
 clear hK K
 refine F2 fun hl=>Kl J J (fun _ _=>J) (fun K hK=>Pe (e:=(rI .u8)) (L:=l) (L2:=[3]) (v:=v2) (g:=g) (st:=1) (j:=0) hI J J J vH J (Fo J) Dm Dm J Em J J J hl fun v3 g4 vH1=>hK _ _ (Ai J (Fa (Gy Bf Mk)) (Ai J (A5 (Be Hl)) (Ai J (Af (An hI J J J Hl J)) (Ai J (Bn (B8 0 3 3 D5 J Hl J)) (Bz J Bb))))) ?_)
 clear hK K
 refine G3 [0] hI J J (Pr (IntKind.wrap .u64 (v1.L.length:Int)) (l++[3]) _ (ix ids 0) v3 g4 vH1 (by exact hI.sub' J J)) J J J J J J J (fun v _ _ _=>F4 (K:=3) (N:=2) func153 hI) ?_
 rintro b _ _ _ ⟨v4,g5,vH2,rfl,rfl⟩
 refine Hz [0] [Bq v4 g5 1 (List.map (rI .u8) b),Ao g1 1 [[(.q ids 2 g2)]],Ao g2 4 [[.nilf,(.func (.func 149) [] []),(.func (.func 152) [] []),(.func (.func 153) [] [(.q ids 1 g1)])]],Ao g3 4 [(Cw v1)],none] hI J J J J ⟨(Ex J (Bz J Bb)),?_⟩
 refine H0<|Z v4 J J Ce<|Bs<|A2 ?_
 refine Ad<|Y<|Aa 2 [3] [(17,(.sl 4 (List.map rValueA v1.L)))]<|Ac (.I (v1.L.length:Int)) J (A5 (Be Hl))<|Au (.I 0)<|O<|Aw<|Cf [(Bq v4 g5 1 (List.map (rI .u8) b)),(Ao g1 1 [[(.q ids 2 g2)]]),(Ao g2 4 [[.nilf,(.func (.func 149) [] []),(.func (.func 152) [] []),(.func (.func 153) [] [(.q ids 1 g1)])]]),none,none] hI J (.keep (.keep (.keep (.drop (.keep .nil)))))<|Ct [(0,v4),(2,(.q ids 1 g1)),(17,(.sl 4 (List.map rValueA v1.L))),(18,(.I (v1.L.length:Int))),(19,(.I 0))] (FI J)<|Dy (P:=Tryz.prog) v1.L (fun _ a=>fun b1=>Hf W_ a b1) (((fun b1=>.ok b1)):(List Int)→R (List Int)) (fun j=>fun b1=>fun fr h => ∃ (v5:AV),∃ (g6:Nat),Cj v5 (ix ids 0) g6 b1.length∧fr=Ap [(0,v5),(2,(.q ids 1 g1)),(17,(.sl 4 (List.map rValueA v1.L))),(18,(.I (v1.L.length:Int))),(19,(.I j))]∧h=hp h0 ids [(Bq v5 g6 1 (List.map (rI .u8) b1)),(Ao g1 1 [[(.q ids 2 g2)]]),(Ao g2 4 [[.nilf,(.func (.func 149) [] []),(.func (.func 152) [] []),(.func (.func 153) [] [(.q ids 1 g1)])]]),none,none]) b ?_ ?_ ?_
 ·exact⟨v4,g5,vH2,J,J⟩
 ·rintro j a ha W hW b1 fr h ⟨v5,g6,vH3,rfl,rfl⟩
  refine Ah (m':=Hf W_ a b1) J (Ah (Hf.eq_1 _ _ _) ?_)
  refine Y<|Ac (.B (decide ((j:Int)<(v1.L.length:Int)))) J (Ak J J J)<|O<|Ad<|Di (t:=17) (L:=v1.L) J fun hlim=>Ch J (Int.ofNat_lt.2 (A6 ha))<|Aq<|Ad<|Aw<|Y<|Ac (.cp (Cw a) 0) J (Az (Aha Vw Hl D5 J ha))<|Ac (.A (Cw a)) J (Af (Cg D5 J))<|Cl (j:=4) hI J J J J D5 J fun g7=>A3 (Bt (v:=(.A (Cw a))) hI J J J J D5 J J J J J)<|O<|A2 ?_
  refine Cq El [[],[],[1],[0],[0,1,2,3],[0,1,2,3,4],[0,1,2,3,4,5],[],[],[0,1,2,3,4,5,6,7,8],[0,1,2,3,4,5,6,7,8,9,9,9]] [(false,0),(false,1),(false,2),(false,3),(false,4),(false,5),(false,6),(false,7),(false,8),(true,9),(false,10)] (by kernel_rfl)<|Z (.q ids 2 g2) J J (Af (An hI J J J Alj J))<|Z (.q ids 4 g7) J J (Bn (B8 0 0 0 D5 J Bf J))<|Z (.I a.Kind) J J (Af (An hI J J J Bf J))<|Z (.q ids 2 g2) J J (T7 J)<|J6 (fun hi=>?_) (fun _=>?_)
  ·refine Z (.q ids 2 g2) J J (Az (J2 0 Qj Hk hi J))<|Z (.q ids 2 g2) J J (Bn (B8 0 0 0 Hk J Hu J))<|Z .nilf J J (Af (An hI J J J Hu J))<|Z v5 J J Ae<|Z (.A (Cw a)) J J (Af (An hI J J J D5 J))<|Xz
  refine J6 (fun hi=>?_) (fun _=>?_)
  ·refine Z (.ptr (ix ids 2) g2 0 1) J J (Az (J2 1 Qj Hk hi J))<|Z (.ptr (ix ids 2) g2 0 1) J J (Bn (B8 1 0 0 Hk J Hu J))<|Z (.func (.func 149) [] []) J J (Af (An hI J J J Hu J))<|Z v5 J J Ae<|Z (.A (Cw a)) J J (Af (An hI J J J D5 J))<|G3 [0] hI J J (O4 a b1 _ (ix ids 0) v5 g6 vH3 (by exact hI.sub' J J)) J J J J J J J (fun v _ _ _=>F4 (K:=3) (N:=2) func153 hI) ?_
   rintro b2 _ _ _ ⟨v6,g8,vH4,rfl,rfl⟩
   refine Hz [0] [Bq v6 g8 1 (List.map (rI .u8) b2),Ao g1 1 [[(.q ids 2 g2)]],Ao g2 4 [[.nilf,(.func (.func 149) [] []),(.func (.func 152) [] []),(.func (.func 153) [] [(.q ids 1 g1)])]],none,Ao g7 4 [(Cw a)]] hI J J J J ⟨(Cr J (Bz J Bb)),?_⟩
   refine H0<|Z v6 J J Ce<|Bs<|A2 ?_
   refine A8<|At<|Aa 2 [] [(19,(.I (wi ((j:Int)+1))))]<|O<|Cf [(Bq v6 g8 1 (List.map (rI .u8) b2)),(Ao g1 1 [[(.q ids 2 g2)]]),(Ao g2 4 [[.nilf,(.func (.func 149) [] []),(.func (.func 152) [] []),(.func (.func 153) [] [(.q ids 1 g1)])]]),none,none] hI J (.keep (.keep (.keep (.keep (.drop .nil)))))<|Bh (Hm (hW b2 _ _ ⟨v6,g8,vH4,J,J⟩)) (.r4 (.o (ic ha hlim)))
  refine J6 (fun hi=>?_) (fun _=>?_)
  ·refine Z (.ptr (ix ids 2) g2 0 2) J J (Az (J2 2 Qj Hk hi J))<|Z (.ptr (ix ids 2) g2 0 2) J J (Bn (B8 2 0 0 Hk J Hu J))<|Z (.func (.func 152) [] []) J J (Af (An hI J J J Hu J))<|Z v5 J J Ae<|Z (.A (Cw a)) J J (Af (An hI J J J D5 J))<|G3 [0] hI J J (O0 a b1 _ (ix ids 0) v5 g6 vH3 (by exact hI.sub' J J)) J J J J J J J (fun v _ _ _=>F4 (K:=3) (N:=2) func153 hI) ?_
   rintro b3 _ _ _ ⟨v7,g9,vH5,rfl,rfl⟩
   refine Hz [0] [Bq v7 g9 1 (List.map (rI .u8) b3),Ao g1 1 [[(.q ids 2 g2)]],Ao g2 4 [[.nilf,(.func (.func 149) [] []),(.func (.func 152) [] []),(.func (.func 153) [] [(.q ids 1 g1)])]],none,Ao g7 4 [(Cw a)]] hI J J J J ⟨(Cr J (Bz J Bb)),?_⟩
   refine H0<|Z v7 J J Ce<|Bs<|A2 ?_
   refine A8<|At<|Aa 2 [] [(19,(.I (wi ((j:Int)+1))))]<|O<|Cf [(Bq v7 g9 1 (List.map (rI .u8) b3)),(Ao g1 1 [[(.q ids 2 g2)]]),(Ao g2 4 [[.nilf,(.func (.func 149) [] []),(.func (.func 152) [] []),(.func (.func 153) [] [(.q ids 1 g1)])]]),none,none] hI J (.keep (.keep (.keep (.keep (.drop .nil)))))<|Bh (Hm (hW b3 _ _ ⟨v7,g9,vH5,J,J⟩)) (.r4 (.o (ic ha hlim)))
  refine J6 (fun hi=>?_) (fun _=>?_)
  ·refine Z (.ptr (ix ids 2) g2 0 3) J J (Az (J2 3 Qj Hk hi J))<|Z (.ptr (ix ids 2) g2 0 3) J J (Bn (B8 3 0 0 Hk J Hu J))<|Z (.func (.func 153) [] [(.q ids 1 g1)]) J J (Af (An hI J J J Hu J))<|Z v5 J J Ae<|Z (.A (Cw a)) J J (Af (An hI J J J D5 J))<|G3 [0,1,2] hI J J (cg_W_ a b1 _ (ix ids 0) (ix ids 1) (ix ids 2) v5 g6 g1 g2 vH3 (by exact hI.sub' J J)) J J J J J J J (fun v _ _ _=>F4 (K:=3) (N:=2) func153 hI) ?_
   rintro b4 _ _ _ ⟨v8,g10,vH6,rfl,rfl⟩
   refine Hz [0,1,2] [Bq v8 g10 1 (List.map (rI .u8) b4),Ao g1 1 [[(.q ids 2 g2)]],Ao g2 4 [[.nilf,(.func (.func 149) [] []),(.func (.func 152) [] []),(.func (.func 153) [] [(.q ids 1 g1)])]],none,Ao g7 4 [(Cw a)]] hI J J J J ⟨(Cr J (Bz J Bb)),?_⟩
   refine H0<|Z v8 J J Ce<|Bs<|A2 ?_
   refine A8<|At<|Aa 2 [] [(19,(.I (wi ((j:Int)+1))))]<|O<|Cf [(Bq v8 g10 1 (List.map (rI .u8) b4)),(Ao g1 1 [[(.q ids 2 g2)]]),(Ao g2 4 [[.nilf,(.func (.func 149) [] []),(.func (.func 152) [] []),(.func (.func 153) [] [(.q ids 1 g1)])]]),none,none] hI J (.keep (.keep (.keep (.keep (.drop .nil)))))<|Bh (Hm (hW b4 _ _ ⟨v8,g10,vH6,J,J⟩)) (.r4 (.o (ic ha hlim)))
  exact Xz
 rintro b1 fr h ⟨v5,g6,vH3,rfl,rfl⟩
 refine Y<|Ac (.B (decide ((v1.L.length:Int)<(v1.L.length:Int)))) J (Ak J J J)<|O<|Ad<|Ci J (Int.lt_irrefl _)<|Bw J<|Y<|Aa 2 [] [(5,v5)]<|O<|Hx (K:=3) (N:=2) [Bq v5 g6 1 (List.map (rI .u8) b1),Ao g1 1 [[(.q ids 2 g2)]],Ao g2 4 [[.nilf,(.func (.func 149) [] []),(.func (.func 152) [] []),(.func (.func 153) [] [(.q ids 1 g1)])]]] func153 hI J J J (.keep (.keep (.keep (.keep (.keep .nil))))) (.same _) ⟨v5,g6,vH3,J,J⟩
theorem Yy : ∀ (n:Nat) (v1:Value) (l:List Int) (h0:Ab) (o0:Nat) (o1:Nat) (o2:Nat) (v2:AV) (g:Nat) (g1:Nat) (g2:Nat) (vH:Cj v2 o0 g l.length) (hI0:Ids h0 [o0,o1,o2] 3),H1 n v1 l≠.bad→B0 Tryz.prog 153 [v2,(.agg (Cw v1)),(.ptr o1 g1 0 0)] (hp h0 [o0,o1,o2] [Bq v2 g 1 (List.map (rI .u8) l),some (.rows g1 1 [[(.ptr o2 g2 0 0)]]),some (.rows g2 4 [[.nilf,(.func (.func 149) [] []),(.func (.func 152) [] []),(.func (.func 153) [] [(.ptr o1 g1 0 0)])]])]) (E8 (fun a_ v h' => ∃ (v9:AV),∃ (g11:Nat),Cj v9 o0 g11 a_.length∧v9=v∧h'=hp h0 [o0,o1,o2] [Bq v9 g11 1 (List.map (rI .u8) a_),some (.rows g1 1 [[(.ptr o2 g2 0 0)]]),some (.rows g2 4 [[.nilf,(.func (.func 149) [] []),(.func (.func 152) [] []),(.func (.func 153) [] [(.ptr o1 g1 0 0)])]])]) h0 (H1 n v1 l)):=by
 intro n
 induction n with
 | zero=>intro v1 l h0 o0 o1 o2 v2 g g1 g2 vH hI0; exact fun hb=>absurd rfl hb
 | succ n ih=>intro v1 l h0 o0 o1 o2 v2 g g1 g2 vH hI0; exact Y3 (H1 n) ih v1 l h0 o0 o1 o2 v2 g g1 g2 vH hI0
theorem Z7 (v1:Value)(l:List Int)(h0:Ab)(o0:Nat)(o1:Nat)(o2:Nat)(v2:AV)(g:Nat)(g1:Nat)(g2:Nat)(vH:Cj v2 o0 g l.length)(hI0:Ids h0 [o0,o1,o2] 3):Kw v1 l≠.bad→B0 Tryz.prog 153 [v2,(.agg (Cw v1)),(.ptr o1 g1 0 0)] (hp h0 [o0,o1,o2] [Bq v2 g 1 (List.map (rI .u8) l),some (.rows g1 1 [[(.ptr o2 g2 0 0)]]),some (.rows g2 4 [[.nilf,(.func (.func 149) [] []),(.func (.func 152) [] []),(.func (.func 153) [] [(.ptr o1 g1 0 0)])]])]) (E8 (fun a_ v h' => ∃ (v9:AV),∃ (g11:Nat),Cj v9 o0 g11 a_.length∧v9=v∧h'=hp h0 [o0,o1,o2] [Bq v9 g11 1 (List.map (rI .u8) a_),some (.rows g1 1 [[(.ptr o2 g2 0 0)]]),some (.rows g2 4 [[.nilf,(.func (.func 149) [] []),(.func (.func 152) [] []),(.func (.func 153) [] [(.ptr o1 g1 0 0)])]])]) h0 (Kw v1 l)):=Yy V3 v1 l h0 o0 o1 o2 v2 g g1 g2 vH hI0
theorem Aa9 (v1:Value)(h0:Ab)(o0:Nat)(o1:Nat)(g:Nat)(g1:Nat)(hI0:Ids h0 [o0,o1] 2):Ip v1≠.bad→B0 Tryz.prog 153 [.emp,(.agg (Cw v1)),(.ptr o0 g 0 0)] (hp h0 [o0,o1] [some (.rows g 1 [[(.ptr o1 g1 0 0)]]),some (.rows g1 4 [[.nilf,(.func (.func 149) [] []),(.func (.func 152) [] []),(.func (.func 153) [] [(.ptr o0 g 0 0)])]])]) (E8 (fun a_ v h'=>v=(.sl 1 (List.map (rI .u8) a_))∧h'=hp h0 [o0,o1] [some (.rows g 1 [[(.ptr o1 g1 0 0)]]),some (.rows g1 4 [[.nilf,(.func (.func 149) [] []),(.func (.func 152) [] []),(.func (.func 153) [] [(.ptr o0 g 0 0)])]])]) h0 (Ip v1)):=by
 refine Fr (n:=35) 3 func153 J (by decide) J J hI0 J fun ids he hI=>?_
 clear hI0
 obtain rfl:ix ids 0=o0:=he 0 rfl
 obtain rfl:ix ids 1=o1:=he 1 rfl
 clear he
 refine Bp (Ah (Ip.eq_1 _) ?_)
 refine A2 ?_
 refine Y<|B5 (v:=(.A (Cw v1))) (j:=2) hI J J J J J J J fun g2=>Aj .emp<|O<|A2 ?_
 refine Ad<|Cq El [[],[],[0,1],[],[3],[3,4],[3,4,5],[0,1,2,3,4,5,6],[0,1,2,3,4,5,6,7,7,7]] [(false,0),(false,3),(false,4),(false,5),(false,6),(true,1),(true,2),(true,7),(false,8)] (by kernel_rfl)<|Z .emp J J Ae<|Z (.ptr (ix ids 2) g2 0 3) J J (Bn (B8 0 3 3 D5 J Hl J))<|Z (.sl 4 (List.map rValueA v1.L)) J J (Af (An hI J J J Hl J))<|Z (.I (v1.L.length:Int)) J J (A5 (Be Hl))<|Z (.int .u64 (IntKind.wrap .u64 (v1.L.length:Int))) J J (Fa (Gy Bf Mk))<|Kl J J (fun _ _=>J) (fun K hK=>Lx (e:=(rI .u8)) (L:=[3]) (st:=1) (rows:=[[(.int .u8 3)]]) Dm Em J J J J J (.cons (RowSim.refl _) .nil) (fun x=>Cb x) J J (hK _ _ (Ai J (Fa (Gy Bf Mk)) (Ai J (A5 (Be Hl)) (Ai J (Af (An hI J J J Hl J)) (Ai J (Bn (B8 0 3 3 D5 J Hl J)) (Ai J Ae Bb))))) ?_))
 clear hK K
 refine F2 fun hl=>Kl J J (fun _ _=>J) (fun K hK=>Pe (e:=(rI .u8)) (L:=([]:List Int)) (L2:=[3]) (v:=.emp) (g:=0) (st:=1) (j:=3) hI J J J .nil J (Fo J) Dm Dm J Em J J J (by simpa using hl) fun v2 g3 vH=>hK _ _ (Ai J (Fa (Gy Bf Mk)) (Ai J (A5 (Be Hl)) (Ai J (Af (An hI J J J Hl J)) (Ai J (Bn (B8 0 3 3 D5 J Hl J)) (Bz J Bb))))) ?_)
 clear hK K
 refine G3 [3] hI J J (Pr (IntKind.wrap .u64 (v1.L.length:Int)) [3] _ (ix ids 3) v2 g3 vH (by exact hI.sub' J J)) J J J J J J J (fun v _ _ _=>F4 (K:=2) (N:=3) func153 hI) ?_
 rintro b _ _ _ ⟨v3,g4,vH1,rfl,rfl⟩
 refine Hz [3] [Ao g 1 [[(.q ids 1 g1)]],Ao g1 4 [[.nilf,(.func (.func 149) [] []),(.func (.func 152) [] []),(.func (.func 153) [] [(.q ids 0 g)])]],Ao g2 4 [(Cw v1)],Bq v3 g4 1 (List.map (rI .u8) b),none] hI J J J J ⟨(Ex J (Bz J Bb)),?_⟩
 refine H0<|Z v3 J J Ce<|Bs<|A2 ?_
 refine Ad<|Y<|Aa 2 [2] [(17,(.sl 4 (List.map rValueA v1.L)))]<|Ac (.I (v1.L.length:Int)) J (A5 (Be Hl))<|Au (.I 0)<|O<|Aw<|Cf [(Ao g 1 [[(.q ids 1 g1)]]),(Ao g1 4 [[.nilf,(.func (.func 149) [] []),(.func (.func 152) [] []),(.func (.func 153) [] [(.q ids 0 g)])]]),none,(Bq v3 g4 1 (List.map (rI .u8) b)),none] hI J (.keep (.keep (.drop (.keep (.keep .nil)))))<|Ct [(0,v3),(2,(.q ids 0 g)),(17,(.sl 4 (List.map rValueA v1.L))),(18,(.I (v1.L.length:Int))),(19,(.I 0))] (FI J)<|Dy (P:=Tryz.prog) v1.L (fun _ a=>fun b1=>F1 a b1) (((fun b1=>.ok b1)):(List Int)→R (List Int)) (fun j=>fun b1=>fun fr h => ∃ (v4:AV),∃ (g5:Nat),Cj v4 (ix ids 3) g5 b1.length∧fr=Ap [(0,v4),(2,(.q ids 0 g)),(17,(.sl 4 (List.map rValueA v1.L))),(18,(.I (v1.L.length:Int))),(19,(.I j))]∧h=hp h0 ids [(Ao g 1 [[(.q ids 1 g1)]]),(Ao g1 4 [[.nilf,(.func (.func 149) [] []),(.func (.func 152) [] []),(.func (.func 153) [] [(.q ids 0 g)])]]),none,(Bq v4 g5 1 (List.map (rI .u8) b1)),none]) b ?_ ?_ ?_
 ·exact⟨v3,g4,vH1,J,J⟩
 ·rintro j a ha W hW b1 fr h ⟨v4,g5,vH2,rfl,rfl⟩
  refine Ah (m':=F1 a b1) J (Ah (F1.eq_1 _ _) ?_)
  refine Y<|Ac (.B (decide ((j:Int)<(v1.L.length:Int)))) J (Ak J J J)<|O<|Ad<|Di (t:=17) (L:=v1.L) J fun hlim=>Ch J (Int.ofNat_lt.2 (A6 ha))<|Aq<|Ad<|Aw<|Y<|Ac (.cp (Cw a) 0) J (Az (Aha Vw Hl D5 J ha))<|Ac (.A (Cw a)) J (Af (Cg D5 J))<|Cl (j:=4) hI J J J J D5 J fun g6=>A3 (Bt (v:=(.A (Cw a))) hI J J J J D5 J J J J J)<|O<|A2 ?_
  refine Cq El [[],[],[1],[0],[0,1,2,3],[0,1,2,3,4],[0,1,2,3,4,5],[],[],[0,1,2,3,4,5,6,7,8],[0,1,2,3,4,5,6,7,8,9,9,9]] [(false,0),(false,1),(false,2),(false,3),(false,4),(false,5),(false,6),(false,7),(false,8),(true,9),(false,10)] (by kernel_rfl)<|Z (.q ids 1 g1) J J (Af (An hI J J J Alj J))<|Z (.q ids 4 g6) J J (Bn (B8 0 0 0 D5 J Bf J))<|Z (.I a.Kind) J J (Af (An hI J J J Bf J))<|Z (.q ids 1 g1) J J (T7 J)<|J6 (fun hi=>?_) (fun _=>?_)
  ·refine Z (.q ids 1 g1) J J (Az (J2 0 Qj Hk hi J))<|Z (.q ids 1 g1) J J (Bn (B8 0 0 0 Hk J Hu J))<|Z .nilf J J (Af (An hI J J J Hu J))<|Z v4 J J Ae<|Z (.A (Cw a)) J J (Af (An hI J J J D5 J))<|Xz
  refine J6 (fun hi=>?_) (fun _=>?_)
  ·refine Z (.ptr (ix ids 1) g1 0 1) J J (Az (J2 1 Qj Hk hi J))<|Z (.ptr (ix ids 1) g1 0 1) J J (Bn (B8 1 0 0 Hk J Hu J))<|Z (.func (.func 149) [] []) J J (Af (An hI J J J Hu J))<|Z v4 J J Ae<|Z (.A (Cw a)) J J (Af (An hI J J J D5 J))<|G3 [3] hI J J (O4 a b1 _ (ix ids 3) v4 g5 vH2 (by exact hI.sub' J J)) J J J J J J J (fun v _ _ _=>F4 (K:=2) (N:=3) func153 hI) ?_
   rintro b2 _ _ _ ⟨v5,g7,vH3,rfl,rfl⟩
   refine Hz [3] [Ao g 1 [[(.q ids 1 g1)]],Ao g1 4 [[.nilf,(.func (.func 149) [] []),(.func (.func 152) [] []),(.func (.func 153) [] [(.q ids 0 g)])]],none,Bq v5 g7 1 (List.map (rI .u8) b2),Ao g6 4 [(Cw a)]] hI J J J J ⟨(Cr J (Bz J Bb)),?_⟩
   refine H0<|Z v5 J J Ce<|Bs<|A2 ?_
   refine A8<|At<|Aa 2 [] [(19,(.I (wi ((j:Int)+1))))]<|O<|Cf [(Ao g 1 [[(.q ids 1 g1)]]),(Ao g1 4 [[.nilf,(.func (.func 149) [] []),(.func (.func 152) [] []),(.func (.func 153) [] [(.q ids 0 g)])]]),none,(Bq v5 g7 1 (List.map (rI .u8) b2)),none] hI J (.keep (.keep (.keep (.keep (.drop .nil)))))<|Bh (Hm (hW b2 _ _ ⟨v5,g7,vH3,J,J⟩)) (.r4 (.o (ic ha hlim)))
  refine J6 (fun hi=>?_) (fun _=>?_)
  ·refine Z (.ptr (ix ids 1) g1 0 2) J J (Az (J2 2 Qj Hk hi J))<|Z (.ptr (ix ids 1) g1 0 2) J J (Bn (B8 2 0 0 Hk J Hu J))<|Z (.func (.func 152) [] []) J J (Af (An hI J J J Hu J))<|Z v4 J J Ae<|Z (.A (Cw a)) J J (Af (An hI J J J D5 J))<|G3 [3] hI J J (O0 a b1 _ (ix ids 3) v4 g5 vH2 (by exact hI.sub' J J)) J J J J J J J (fun v _ _ _=>F4 (K:=2) (N:=3) func153 hI) ?_
   rintro b3 _ _ _ ⟨v6,g8,vH4,rfl,rfl⟩
   refine Hz [3] [Ao g 1 [[(.q ids 1 g1)]],Ao g1 4 [[.nilf,(.func (.func 149) [] []),(.func (.func 152) [] []),(.func (.func 153) [] [(.q ids 0 g)])]],none,Bq v6 g8 1 (List.map (rI .u8) b3),Ao g6 4 [(Cw a)]] hI J J J J ⟨(Cr J (Bz J Bb)),?_⟩
   refine H0<|Z v6 J J Ce<|Bs<|A2 ?_
   refine A8<|At<|Aa 2 [] [(19,(.I (wi ((j:Int)+1))))]<|O<|Cf [(Ao g 1 [[(.q ids 1 g1)]]),(Ao g1 4 [[.nilf,(.func (.func 149) [] []),(.func (.func 152) [] []),(.func (.func 153) [] [(.q ids 0 g)])]]),none,(Bq v6 g8 1 (List.map (rI .u8) b3)),none] hI J (.keep (.keep (.keep (.keep (.drop .nil)))))<|Bh (Hm (hW b3 _ _ ⟨v6,g8,vH4,J,J⟩)) (.r4 (.o (ic ha hlim)))
  refine J6 (fun hi=>?_) (fun _=>?_)
  ·refine Z (.ptr (ix ids 1) g1 0 3) J J (Az (J2 3 Qj Hk hi J))<|Z (.ptr (ix ids 1) g1 0 3) J J (Bn (B8 3 0 0 Hk J Hu J))<|Z (.func (.func 153) [] [(.q ids 0 g)]) J J (Af (An hI J J J Hu J))<|Z v4 J J Ae<|Z (.A (Cw a)) J J (Af (An hI J J J D5 J))<|G3 [3,0,1] hI J J (Z7 a b1 _ (ix ids 3) (ix ids 0) (ix ids 1) v4 g5 g g1 vH2 (by exact hI.sub' J J)) J J J J J J J (fun v _ _ _=>F4 (K:=2) (N:=3) func153 hI) ?_
   rintro b4 _ _ _ ⟨v7,g9,vH5,rfl,rfl⟩
   refine Hz [3,0,1] [Ao g 1 [[(.q ids 1 g1)]],Ao g1 4 [[.nilf,(.func (.func 149) [] []),(.func (.func 152) [] []),(.func (.func 153) [] [(.q ids 0 g)])]],none,Bq v7 g9 1 (List.map (rI .u8) b4),Ao g6 4 [(Cw a)]] hI J J J J ⟨(Cr J (Bz J Bb)),?_⟩
   refine H0<|Z v7 J J Ce<|Bs<|A2 ?_
   refine A8<|At<|Aa 2 [] [(19,(.I (wi ((j:Int)+1))))]<|O<|Cf [(Ao g 1 [[(.q ids 1 g1)]]),(Ao g1 4 [[.nilf,(.func (.func 149) [] []),(.func (.func 152) [] []),(.func (.func 153) [] [(.q ids 0 g)])]]),none,(Bq v7 g9 1 (List.map (rI .u8) b4)),none] hI J (.keep (.keep (.keep (.keep (.drop .nil)))))<|Bh (Hm (hW b4 _ _ ⟨v7,g9,vH5,J,J⟩)) (.r4 (.o (ic ha hlim)))
  exact Xz
 rintro b1 fr h ⟨v4,g5,vH2,rfl,rfl⟩
 refine Y<|Ac (.B (decide ((v1.L.length:Int)<(v1.L.length:Int)))) J (Ak J J J)<|O<|Ad<|Ci J (Int.lt_irrefl _)<|Bw J<|Y<|Aa 2 [] [(5,v4)]<|O<|Hx (K:=2) (N:=3) [Ao g 1 [[(.q ids 1 g1)]],Ao g1 4 [[.nilf,(.func (.func 149) [] []),(.func (.func 152) [] []),(.func (.func 153) [] [(.q ids 0 g)])]]] func153 hI J J J (.keep (.keep (.keep (.drop (.keep .nil))))) (I9 vH2 (hI.at J J) (hI.at J J) (fun x=>Cb x)) ⟨J,J⟩
theorem Aiw (v:Value):CP Tryz.prog 96 [(.agg (Cw v))] (Mv v) (fun(p:((List Int)×Int))=>AV.tup [(.sl 1 (List.map (rI .u8) p.1)),(.int .i64 p.2)]):=by
 refine Bl (n:=19) 4 func96 J (by decide) J J fun h0 ids hI=>Bp (Ah (Mv.eq_1 _) ?_)
 refine Y<|B5 (v:=(.A (Cw v))) (j:=0) hI J J J J J J J fun g=>Aa 2 [] []<|O<|A2 ?_
 refine Ad<|Y<|Aa 1 [0] [(5,(.A (Cw v)))]<|Ba _ J J J J ((Ajo v) _) (fun v _=>Ax func96 hI) fun e _=>Aj (.I e)<|O<|Y<|Aa 2 [] [(8,(.B (e != 0)))]<|O<|Bk J (fun hc=>?_) (fun hc=>?_)
 ·refine Y<|Aa 3 [] [(3,(.I e)),(2,.emp)]<|O<|A0 func96 hI J (.tupL (.cons (.emp _) .s1))
 refine Aq<|Ad<|Cq El [[],[],[1],[0],[0,1,2,3],[0,1,2,3,4],[0,1,2,3,4,5],[],[0,1,2,3,4,5,6,7],[0,1,2,3,4,5,6,7,8,8,8],[0,1,2,3,4,5,6,7,8,9,9]] [(false,1),(false,2),(false,7),(true,0),(false,3),(false,4),(false,5),(false,6),(true,8),(false,9),(false,10)] (by kernel_rfl)<|Z (.q ids 0 g) J J (Bn (B8 0 0 0 D5 J Bf J))<|Z (.I v.Kind) J J (Af (An hI J J J Bf J))<|Z (.A (Cw v)) J J (Af (An hI J J J D5 J))<|G3 [1,2] hI J J (Acw _ (ix ids 1) (ix ids 2) (by exact hI.sub' J J)) J J J J J J J (fun v _ _ _=>Ax func96 hI) ?_
 rintro _ _ _ _ ⟨g1,g2,rfl,rfl⟩
 refine Hz [1,2] [Ao g 4 [(Cw v)],Ao g1 4 [[.nilf,(.func (.func 149) [] []),(.func (.func 152) [] []),(.func (.func 153) [] [(.q ids 2 g2)])]],Ao g2 1 [[(.q ids 1 g1)]],none] hI J J J J ⟨(Ai J (Af (An hI J J J D5 J)) (Ai J (Af (An hI J J J Bf J)) (Ai J (Bn (B8 0 0 0 D5 J Bf J)) Bb))),?_⟩
 refine H0<|Z (.q ids 1 g1) J J (T7 J)<|J6 (fun hi=>?_) (fun _=>?_)
 ·refine Z (.q ids 1 g1) J J (Az (J2 0 Qj Hk hi J))<|Z (.q ids 1 g1) J J (Bn (B8 0 0 0 Hk J Hu J))<|Z .nilf J J (Af (An hI J J J Hu J))<|Xz
 refine J6 (fun hi=>?_) (fun _=>?_)
 ·refine Z (.ptr (ix ids 1) g1 0 1) J J (Az (J2 1 Qj Hk hi J))<|Z (.ptr (ix ids 1) g1 0 1) J J (Bn (B8 1 0 0 Hk J Hu J))<|Z (.func (.func 149) [] []) J J (Af (An hI J J J Hu J))<|G3 [3] hI J J (O4 v [] _ (ix ids 3) .emp 0 .nil (by exact hI.sub' J J)) J J J J J J J (fun v _ _ _=>Ax func96 hI) ?_
  rintro b _ _ _ ⟨v1,g3,vH,rfl,rfl⟩
  refine Hz [3] [Ao g 4 [(Cw v)],Ao g1 4 [[.nilf,(.func (.func 149) [] []),(.func (.func 152) [] []),(.func (.func 153) [] [(.q ids 2 g2)])]],Ao g2 1 [[(.q ids 1 g1)]],Bq v1 g3 1 (List.map (rI .u8) b)] hI J J J J ⟨(Ex J (B7 J (Bz J Bb))),?_⟩
  refine H0<|Z v1 J J Ce<|Z (.I 0) J J Ce<|Bs<|A2 ?_
  exact A0 func96 hI J (.tupL (.cons (I9 vH (hI.at J J) (hI.out J) (fun x=>Cb x)) .s1))
 refine J6 (fun hi=>?_) (fun _=>?_)
 ·refine Z (.ptr (ix ids 1) g1 0 2) J J (Az (J2 2 Qj Hk hi J))<|Z (.ptr (ix ids 1) g1 0 2) J J (Bn (B8 2 0 0 Hk J Hu J))<|Z (.func (.func 152) [] []) J J (Af (An hI J J J Hu J))<|G3 [3] hI J J (O0 v [] _ (ix ids 3) .emp 0 .nil (by exact hI.sub' J J)) J J J J J J J (fun v _ _ _=>Ax func96 hI) ?_
  rintro b1 _ _ _ ⟨v2,g4,vH1,rfl,rfl⟩
  refine Hz [3] [Ao g 4 [(Cw v)],Ao g1 4 [[.nilf,(.func (.func 149) [] []),(.func (.func 152) [] []),(.func (.func 153) [] [(.q ids 2 g2)])]],Ao g2 1 [[(.q ids 1 g1)]],Bq v2 g4 1 (List.map (rI .u8) b1)] hI J J J J ⟨(Ex J (B7 J (Bz J Bb))),?_⟩
  refine H0<|Z v2 J J Ce<|Z (.I 0) J J Ce<|Bs<|A2 ?_
  exact A0 func96 hI J (.tupL (.cons (I9 vH1 (hI.at J J) (hI.out J) (fun x=>Cb x)) .s1))
 refine J6 (fun hi=>?_) (fun _=>?_)
 ·refine Z (.ptr (ix ids 1) g1 0 3) J J (Az (J2 3 Qj Hk hi J))<|Z (.ptr (ix ids 1) g1 0 3) J J (Bn (B8 3 0 0 Hk J Hu J))<|Z (.func (.func 153) [] [(.q ids 2 g2)]) J J (Af (An hI J J J Hu J))<|G3 [2,1] hI J J (Aa9 v _ (ix ids 2) (ix ids 1) g2 g1 (by exact hI.sub' J J)) J J J J J J J (fun v _ _ _=>Ax func96 hI) ?_
  rintro b2 _ _ _ ⟨rfl,rfl⟩
  refine Hz [2,1] [Ao g 4 [(Cw v)],Ao g1 4 [[.nilf,(.func (.func 149) [] []),(.func (.func 152) [] []),(.func (.func 153) [] [(.q ids 2 g2)])]],Ao g2 1 [[(.q ids 1 g1)]],none] hI J J J J ⟨(Ex J (B7 J (Bz J Bb))),?_⟩
  refine H0<|Z (.sl 1 (List.map (rI .u8) b2)) J J Ce<|Z (.I 0) J J Ce<|Bs<|A2 ?_
  exact A0 func96 hI J (.tupL .s2)
 exact Xz
theorem Ajc (b:List Int):CP Tryz.prog 155 [(.sl 1 (List.map (rI .u8) b))] (T5 b) (fun(x:Int)=>(AV.int .u32 x)):=by
 refine Bl (n:=19) 0 func155 J (by decide) J J fun h0 ids hI=>Bp (Ah (T5.eq_1 _) ?_)
 refine Y<|Aj (.int .u32 0)<|O<|Ad<|Y<|Au (.sl 1 (List.map (rI .u8) b))<|Cu fun hs=>Ac (.sl 1 (List.map (rI .u8) (b.take (Int.toNat 4)))) J (Cz (S9 Dm Em J hs))<|Ac (.I ((b.take (Int.toNat 4)).length:Int)) J (A5 (Be Dm))<|Au (.I 0)<|O<|Aw<|Ct [(2,(.int .u32 0)),(6,(.sl 1 (List.map (rI .u8) (b.take (Int.toNat 4))))),(7,(.I ((b.take (Int.toNat 4)).length:Int))),(8,(.I 0))] (FI J)<|Dy (P:=Tryz.prog) (b.take (Int.toNat 4)) (fun _ a=>fun n=>Tj a n) (((fun n=>.ok n)):Int→R Int) (fun j=>fun n=>fun fr h=>fr=Ap [(2,(.int .u32 n)),(6,(.sl 1 (List.map (rI .u8) (b.take (Int.toNat 4))))),(7,(.I ((b.take (Int.toNat 4)).length:Int))),(8,(.I j))]∧h=hp h0 ids []) 0 ?_ ?_ ?_
 ·exact⟨J,J⟩
 ·rintro j a ha W hW n fr h ⟨rfl,rfl⟩
  refine Ah (m':=Tj a n) J (Ah (Tj.eq_1 _ _) ?_)
  refine Y<|Ac (.B (decide ((j:Int)<((b.take (Int.toNat 4)).length:Int)))) J (Ak J J J)<|O<|Ad<|Di (t:=6) (L:=(b.take (Int.toNat 4))) J fun hlim=>Ch J (Int.ofNat_lt.2 (A6 ha))<|Aq<|Ad<|Aw<|Y<|Ac (.cp [(.int .u8 a)] 0) J (Az (C9 Dm Em J ha))<|Aa 2 [] [(4,(.int .u8 a))]<|O<|At<|Au (.int .u32 n)<|Ac (.int .u32 (Sh .u32 n 8)) J (Ak J J (Ab9 (by decide)))<|Au (.int .u8 a)<|Ac (.int .u32 (wU a)) J (Fa (Gy Em B2))<|Ac (.int .u32 (Ny .u32 (Sh .u32 n 8) (wU a))) J (Ak J J Zx) ?_
  refine Aj (.int .u32 (Ny .u32 (Sh .u32 n 8) (wU a)))<|O<|A8<|At<|Aa 2 [] [(8,(.I (wi ((j:Int)+1))))]<|O<|Bh (Hm (hW (Ny .u32 (Sh .u32 n 8) (wU a)) _ _ ⟨J,J⟩)) (.r2 (.r (.o (ic ha hlim))))
 rintro n fr h ⟨rfl,rfl⟩
 refine Y<|Ac (.B (decide (((b.take (Int.toNat 4)).length:Int)<((b.take (Int.toNat 4)).length:Int)))) J (Ak J J J)<|O<|Ad<|Ci J (Int.lt_irrefl _)<|Bw J<|Y<|Aa 2 [] [(2,(.int .u32 n))]<|O<|A0 func155 hI J (.same _)
theorem Fl (a:Int)(k:Int):CP Tryz.prog 156 [(.int .u32 a),(.int .i64 k)] (Dq a k) (fun(x:Int)=>(AV.int .u32 x)):=by
 refine Bl (n:=17) 0 func156 J (by decide) J J fun h0 ids hI=>Bp (Ah (Dq.eq_1 _ _) ?_)
 refine Y<|Aj (.int .u32 0)<|O<|Y<|Au (.I k)<|Ac (.int .u64 (IntKind.wrap .u64 k)) J (Fa (Gy Bf Alc))<|Ac (.int .u64 (E9 .u64 (IntKind.wrap .u64 k) 31)) J (Ak J J Ux)<|Aj (.int .u64 (E9 .u64 (IntKind.wrap .u64 k) 31))<|O<|Y<|Aa 2 [] [(10,(.int .u64 (E9 .u64 (IntKind.wrap .u64 k) 31))),(9,(.int .u32 a))]<|Cu fun hz=>Ac (.int .u32 (Sh .u32 a (E9 .u64 (IntKind.wrap .u64 k) 31))) J (Ak J J (Ab9 hz))<|Aa 3 [] [(14,(.int .u64 (IntKind.wrap .u64 (32 - (E9 .u64 (IntKind.wrap .u64 k) 31))))),(12,(.int .u32 a))]<|Cu fun hz1=>Ac (.int .u32 (Qs .u32 a (IntKind.wrap .u64 (32 - (E9 .u64 (IntKind.wrap .u64 k) 31))))) J (Ak J J (Acs hz1))<|Ac (.int .u32 (Ny .u32 (Sh .u32 a (E9 .u64 (IntKind.wrap .u64 k) 31)) (Qs .u32 a (IntKind.wrap .u64 (32 - (E9 .u64 (IntKind.wrap .u64 k) 31)))))) J (Ak J J Zx)<|Ac (.int .u32 (Ny .u32 (Sh .u32 a (E9 .u64 (IntKind.wrap .u64 k) 31)) (Qs .u32 a (IntKind.wrap .u64 (32 - (E9 .u64 (IntKind.wrap .u64 k) 31)))))) J Ce ?_
 refine O<|A0 func156 hI J (.same _)
theorem Yk (v:Int)(a:Int)(b:Int)(c:Int):CP Tryz.prog 157 [(.int .u32 v),(.int .i64 a),(.int .i64 b),(.int .i64 c)] (N7 v a b c) (fun(x:Int)=>(AV.int .u32 x)):=by
 refine Bl (n:=23) 0 func157 J (by decide) J J fun h0 ids hI=>Bp (Ah (N7.eq_1 _ _ _ _) ?_)
 refine Y<|Aj (.int .u32 0)<|O<|Y<|Aa 3 [] [(11,(.I (wi (0 - a)))),(9,(.int .u32 v))]<|Ba _ J J J J ((Fl v (wi (0 - a))) _) (fun v _=>Ax func157 hI) fun r _=>Aa 3 [] [(15,(.I (wi (0 - b)))),(13,(.int .u32 v))]<|Ba _ J J J J ((Fl v (wi (0 - b))) _) (fun v _=>Ax func157 hI) fun r1 _=>Ac (.int .u32 (Do .u32 r r1)) J (Ak J J L8)<|Aa 3 [] [(20,(.I (wi (0 - c)))),(18,(.int .u32 v))]<|Ba _ J J J J ((Fl v (wi (0 - c))) _) (fun v _=>Ax func157 hI) fun r2 _=>Ac (.int .u32 (Do .u32 (Do .u32 r r1) r2)) J (Ak J J L8)<|Aj (.int .u32 (Do .u32 (Do .u32 r r1) r2))<|O<|A0 func157 hI J (.same _)
theorem Qb (b:List Int)(s:(Vector Int 8))(h0:Ab)(o0:Nat)(g:Nat)(hI0:Ids h0 [o0] 1):E4 b s≠.bad→B0 Tryz.prog 133 [(.ptr o0 g 0 0),(.sl 1 (List.map (rI .u8) b))] (hp h0 [o0] [some (.rows g 8 [((rV (rI .u32)) s)])]) (E8 (fun a_ v h'=>v=(.tup [])∧h'=hp h0 [o0] [some (.rows g 8 [((rV (rI .u32)) a_)])]) h0 (E4 b s)):=by
 refine Fr (n:=144) 2 func133 J (by decide) J J hI0 J fun ids he hI=>?_
 clear hI0
 obtain rfl:ix ids 0=o0:=he 0 rfl
 clear he
 refine Bp (Ah (E4.eq_1 _ _) ?_)
 refine A2 ?_
 refine Y<|F3 (j:=1) (row:=((rV (rI .u32)) (B3 64 0))) hI J J J J Nt (Js (n:=64) (e:=(rI .u32)) (E:=(fun x:Int=>(AV.int .u32 x))) (fun _=>J) _).symm ((Dr (fun x=>Cb x) J) _) fun g1=>O<|A2 ?_
 refine Ad<|Y<|Au (.I 0)<|O<|Aw<|Ct [(0,(.q ids 0 g)),(1,(.sl 1 (List.map (rI .u8) b))),(4,(.q ids 1 g1)),(14,(.I 0))] (FI J)<|Dy (P:=Tryz.prog) (List.range 16) (fun j _=>fun o=>H2 b j o) (((fun o=>(loop (D0 fun x1 o1=>Fp x1 o1) (16,o)).bind (fun o2=>Gq s o2))):(Vector Int 64)→R (Vector Int 8)) (fun j=>fun o=>fun fr h=>fr=Ap [(0,(.q ids 0 g)),(1,(.sl 1 (List.map (rI .u8) b))),(4,(.q ids 1 g1)),(14,(.I j))]∧h=hp h0 ids [(Ao g 8 [((rV (rI .u32)) s)]),(Ao g1 64 [((rV (rI .u32)) o)]),none]) (B3 64 0) ?_ ?_ ?_
 ·exact⟨J,J⟩
 ·rintro j a ha W hW o fr h ⟨rfl,rfl⟩
  refine Ah (m':=H2 b j o) J (Ah (H2.eq_1 _ _ _) ?_)
  refine Y<|Ac (.B (decide ((j:Int)<16))) J (Ak J J J)<|O<|Ad<|Ch J (by have:=(C0 ha).1; omega)<|Aq<|Ad<|Aw<|Y<|Aa 2 [] [(5,(.I j))]<|O<|At<|Aa 4 [] [(20,(.I (wi (4 * (j:Int))))),(18,(.sl 1 (List.map (rI .u8) b))),(17,(.I j))]<|Cu fun hs=>Ac (.sl 1 (List.map (rI .u8) (b.drop (Int.toNat (wi (4 * (j:Int))))))) J (Cz (Qn Dm Em J hs))<|Ba _ J J J J ((Ajc (b.drop (Int.toNat (wi (4 * (j:Int)))))) _) (fun v _=>F4 (K:=1) (N:=2) func133 hI) fun r _=>Ac (.ptr (ix ids 1) g1 0 j) J (Az (Dn Nt B2 J (Nat.lt_of_lt_of_le (C0 ha).1 (by decide))))<|A3 (V8 (e:=(rI .u32)) (E:=(fun x:Int=>(AV.int .u32 x))) (x:=r) (fun _=>J) hI J J J B2 J J (Nat.lt_of_lt_of_le (C0 ha).1 (by decide)) J J J)<|O ?_
  refine A2 ?_
  refine A8<|At<|Aa 2 [] [(14,(.I (wi ((j:Int)+1))))]<|O<|Bh (Hm (hW (Ic o j r) _ _ ⟨J,J⟩)) (.r2 (.r (.cons (Jb (C0 ha).1 (by decide)) .nil)))
 rintro o fr h ⟨rfl,rfl⟩
 refine Y<|Ac (.B (decide (((List.range 16).length:Int)<16))) J (Ak J J J)<|O<|Ad<|Ci J (by simp)<|Bw J<|Ad<|Y<|Aj (.I 16)<|O<|Ec (fun o2=>Gq s o2) (fun o2=>fun fr h=>fr=Ap [(0,(.q ids 0 g)),(4,(.q ids 1 g1))]∧h=hp h0 ids [(Ao g 8 [((rV (rI .u32)) s)]),(Ao g1 64 [((rV (rI .u32)) o2)]),none]) ?_ fun hJ=>?_
 ·rintro o2 fr h ⟨rfl,rfl⟩
  refine Ah (Gq.eq_1 _ _)<|Y<|Aa 3 [0] [(68,(.A ((rV (rI .u32)) s)))]<|F3 (j:=2) (row:=((rV (rI .u32)) (B3 8 0))) hI J J J J F8 (Js (n:=8) (e:=(rI .u32)) (E:=(fun x:Int=>(AV.int .u32 x))) (fun _=>J) _).symm ((Dr (fun x=>Cb x) J) _) fun g2=>A3 (Fe (v:=(.A ((rV (rI .u32)) s))) hI J J J F8 J J J (((Dr (fun x=>Cb x) J) _).1) J)<|O<|A2 ?_
  refine Ad<|Y<|Au (.I 0)<|O<|Aw<|Ct [(0,(.q ids 0 g)),(4,(.q ids 1 g1)),(9,(.q ids 2 g2)),(69,(.I 0))] (FI J)<|Dy (P:=Tryz.prog) (List.range 64) (fun j1 _=>fun o3=>Jq o2 j1 o3) (((fun o3=>(eachS (fun j2 _=>fun o4=>Jp o3 j2 o4) 0 (List.range 8) s).bind ((fun o4=>.ok o4)))):(Vector Int 8)→R (Vector Int 8)) (fun j1=>fun o3=>fun fr h=>fr=Ap [(0,(.q ids 0 g)),(4,(.q ids 1 g1)),(9,(.q ids 2 g2)),(69,(.I j1))]∧h=hp h0 ids [(Ao g 8 [((rV (rI .u32)) s)]),(Ao g1 64 [((rV (rI .u32)) o2)]),(Ao g2 8 [((rV (rI .u32)) o3)])]) s ?_ ?_ ?_
  ·exact⟨J,J⟩
  ·rintro j1 a1 ha1 W hW2 o3 fr h ⟨rfl,rfl⟩
   refine Ah (m':=Jq o2 j1 o3) J (Ah (Jq.eq_1 _ _ _) ?_)
   refine Y<|Ac (.B (decide ((j1:Int)<64))) J (Ak J J J)<|O<|Ad<|Ch J (by have:=(C0 ha1).1; omega)<|Aq<|Ad<|Aw<|Y<|Aa 2 [] [(10,(.I j1))]<|O<|Ad<|Cq El [[],[0],[],[2],[2,3],[0,1,2,3,4],[],[6],[],[8],[],[10],[],[12],[10,11,12,13],[8,9,10,11,12,13,14],[6,7,8,9,10,11,12,13,14,15],[0,1,2,3,4,5,6,7,8,9,10,11,12,13,14,15,16],[],[18],[18,19],[0,1,2,3,4,5,6,7,8,9,10,11,12,13,14,15,16,17,18,19,20],[],[22],[22,23],[0,1,2,3,4,5,6,7,8,9,10,11,12,13,14,15,16,17,18,19,20,21,22,23,24],[0,1,2,3,4,4,5,6,7,8,9,10,11,12,13,14,15,16,17,18,19,20,21,22,23,24,25,25]] [(false,0),(false,1),(false,2),(false,3),(false,6),(false,7),(false,8),(false,9),(false,10),(false,11),(false,12),(false,13),(false,14),(false,15),(false,16),(false,18),(false,19),(false,20),(false,22),(false,23),(false,24),(true,4),(false,5),(false,17),(false,21),(false,25),(false,26)] (by kernel_rfl)<|Z (.ptr (ix ids 2) g2 0 7) J J (Az (Dn (i:=7) F8 B2 J (by decide)))<|Z (.int .u32 (A4 o3 7 0)) J J (Af (An hI J J J B2 (Gm (e:=(rI .u32)) (E:=(fun x:Int=>(AV.int .u32 x))) (fun _=>J) (by decide) 0)))<|Z (.ptr (ix ids 2) g2 0 4) J J (Az (Dn (i:=4) F8 B2 J (by decide)))<|Z (.int .u32 (A4 o3 4 0)) J J (Af (An hI J J J B2 (Gm (e:=(rI .u32)) (E:=(fun x:Int=>(AV.int .u32 x))) (fun _=>J) (by decide) 0)))<|Z (.ptr (ix ids 2) g2 0 6) J J (Az (Dn (i:=6) F8 B2 J (by decide)))<|Z (.int .u32 (A4 o3 6 0)) J J (Af (An hI J J J B2 (Gm (e:=(rI .u32)) (E:=(fun x:Int=>(AV.int .u32 x))) (fun _=>J) (by decide) 0))) ?_
   refine Z (.ptr (ix ids 2) g2 0 4) J J (Az (Dn (i:=4) F8 B2 J (by decide)))<|Z (.int .u32 (A4 o3 4 0)) J J (Af (An hI J J J B2 (Gm (e:=(rI .u32)) (E:=(fun x:Int=>(AV.int .u32 x))) (fun _=>J) (by decide) 0)))<|Z (.ptr (ix ids 2) g2 0 5) J J (Az (Dn (i:=5) F8 B2 J (by decide)))<|Z (.int .u32 (A4 o3 5 0)) J J (Af (An hI J J J B2 (Gm (e:=(rI .u32)) (E:=(fun x:Int=>(AV.int .u32 x))) (fun _=>J) (by decide) 0)))<|Z (.ptr (ix ids 2) g2 0 6) J J (Az (Dn (i:=6) F8 B2 J (by decide)))<|Z (.int .u32 (A4 o3 6 0)) J J (Af (An hI J J J B2 (Gm (e:=(rI .u32)) (E:=(fun x:Int=>(AV.int .u32 x))) (fun _=>J) (by decide) 0)))<|Z (.int .u32 (Do .u32 (A4 o3 5 0) (A4 o3 6 0))) J J (Ak J J L8)<|Z (.int .u32 (E9 .u32 (A4 o3 4 0) (Do .u32 (A4 o3 5 0) (A4 o3 6 0)))) J J (Ak J J Ux)<|Z (.int .u32 (Do .u32 (A4 o3 6 0) (E9 .u32 (A4 o3 4 0) (Do .u32 (A4 o3 5 0) (A4 o3 6 0))))) J J (Ak J J L8)<|Z (.I j1) J J Ae<|Z (.cp ((rV (rI .u32)) Sj) j1) J J (Az (Al3 J Nt B2 J (C0 ha1).1))<|Z (.int .u32 (A4 Sj j1 0)) J J (Af (Cg B2 (Gm (e:=(rI .u32)) (E:=(fun x:Int=>(AV.int .u32 x))) (fun _=>J) (C0 ha1).1 0)))<|Z (.I j1) J J Ae<|Z (.ptr (ix ids 1) g1 0 j1) J J (Az (Dn Nt B2 J (C0 ha1).1))<|Z (.int .u32 (A4 o2 j1 0)) J J (Af (An hI J J J B2 (Gm (e:=(rI .u32)) (E:=(fun x:Int=>(AV.int .u32 x))) (fun _=>J) (C0 ha1).1 0)))<|Cy _ J J J J J ((Yk (A4 o3 4 0) 6 11 25) _) (fun v _ _ _=>F4 (K:=1) (N:=2) func133 hI) (Ai J (Af (An hI J J J B2 (Gm (e:=(rI .u32)) (E:=(fun x:Int=>(AV.int .u32 x))) (fun _=>J) (C0 ha1).1 0))) (Ai J (Az (Dn Nt B2 J (C0 ha1).1)) (Ai J Ae (Ai J (Af (Cg B2 (Gm (e:=(rI .u32)) (E:=(fun x:Int=>(AV.int .u32 x))) (fun _=>J) (C0 ha1).1 0))) (Ai J (Az (Al3 J Nt B2 J (C0 ha1).1)) (Ai J Ae (Ai J (Ak J J L8) (Ai J (Ak J J Ux) (Ai J (Ak J J L8) (Ai J (Af (An hI J J J B2 (Gm (e:=(rI .u32)) (E:=(fun x:Int=>(AV.int .u32 x))) (fun _=>J) (by decide) 0))) (Ai J (Az (Dn (i:=6) F8 B2 J (by decide))) (Ai J (Af (An hI J J J B2 (Gm (e:=(rI .u32)) (E:=(fun x:Int=>(AV.int .u32 x))) (fun _=>J) (by decide) 0))) (Ai J (Az (Dn (i:=5) F8 B2 J (by decide))) (Ai J (Af (An hI J J J B2 (Gm (e:=(rI .u32)) (E:=(fun x:Int=>(AV.int .u32 x))) (fun _=>J) (by decide) 0))) (Ai J (Az (Dn (i:=4) F8 B2 J (by decide))) (Ai J (Af (An hI J J J B2 (Gm (e:=(rI .u32)) (E:=(fun x:Int=>(AV.int .u32 x))) (fun _=>J) (by decide) 0))) (Ai J (Az (Dn (i:=6) F8 B2 J (by decide))) (B7 J (Ai J (Af (An hI J J J B2 (Gm (e:=(rI .u32)) (E:=(fun x:Int=>(AV.int .u32 x))) (fun _=>J) (by decide) 0))) (Ai J (Az (Dn (i:=7) F8 B2 J (by decide))) Bb)))))))))))))))))))) fun r5 _=>Z (.int .u32 (wU ((A4 o3 7 0)+r5))) J J (Ak J J J)<|Z (.int .u32 (wU ((wU ((A4 o3 7 0)+r5))+(Do .u32 (A4 o3 6 0) (E9 .u32 (A4 o3 4 0) (Do .u32 (A4 o3 5 0) (A4 o3 6 0))))))) J J (Ak J J J)<|Z (.int .u32 (wU ((wU ((wU ((A4 o3 7 0)+r5))+(Do .u32 (A4 o3 6 0) (E9 .u32 (A4 o3 4 0) (Do .u32 (A4 o3 5 0) (A4 o3 6 0))))))+(A4 Sj j1 0)))) J J (Ak J J J)<|Z (.int .u32 (wU ((wU ((wU ((wU ((A4 o3 7 0)+r5))+(Do .u32 (A4 o3 6 0) (E9 .u32 (A4 o3 4 0) (Do .u32 (A4 o3 5 0) (A4 o3 6 0))))))+(A4 Sj j1 0)))+(A4 o2 j1 0)))) J J (Ak J J J)<|Z (.int .u32 (wU ((wU ((wU ((wU ((A4 o3 7 0)+r5))+(Do .u32 (A4 o3 6 0) (E9 .u32 (A4 o3 4 0) (Do .u32 (A4 o3 5 0) (A4 o3 6 0))))))+(A4 Sj j1 0)))+(A4 o2 j1 0)))) J J Ce ?_
   refine Bs<|Ad<|Cq El [[],[0],[0,1],[],[3],[],[5],[3,4,5,6],[],[8],[],[10],[],[12],[10,11,12,13],[8,9,10,11,12,13,14],[3,4,5,6,7,8,9,10,11,12,13,14,15],[0,1,2,3,4,5,6,7,8,9,10,11,12,13,14,15,16],[0,1,2,2,3,4,5,6,7,8,9,10,11,12,13,14,15,16,17,17]] [(false,0),(false,1),(false,3),(false,4),(false,5),(false,6),(false,7),(false,8),(false,9),(false,10),(false,11),(false,12),(false,13),(false,14),(false,15),(false,16),(true,2),(false,17),(false,18)] (by kernel_rfl)<|Z (.q ids 2 g2) J J (Az (Dn (i:=0) F8 B2 J (by decide)))<|Z (.int .u32 (A4 o3 0 0)) J J (Af (An hI J J J B2 (Gm (e:=(rI .u32)) (E:=(fun x:Int=>(AV.int .u32 x))) (fun _=>J) (by decide) 0)))<|Z (.q ids 2 g2) J J (Az (Dn (i:=0) F8 B2 J (by decide)))<|Z (.int .u32 (A4 o3 0 0)) J J (Af (An hI J J J B2 (Gm (e:=(rI .u32)) (E:=(fun x:Int=>(AV.int .u32 x))) (fun _=>J) (by decide) 0)))<|Z (.ptr (ix ids 2) g2 0 1) J J (Az (Dn (i:=1) F8 B2 J (by decide)))<|Z (.int .u32 (A4 o3 1 0)) J J (Af (An hI J J J B2 (Gm (e:=(rI .u32)) (E:=(fun x:Int=>(AV.int .u32 x))) (fun _=>J) (by decide) 0)))<|Z (.int .u32 (E9 .u32 (A4 o3 0 0) (A4 o3 1 0))) J J (Ak J J Ux)<|Z (.ptr (ix ids 2) g2 0 2) J J (Az (Dn (i:=2) F8 B2 J (by decide)))<|Z (.int .u32 (A4 o3 2 0)) J J (Af (An hI J J J B2 (Gm (e:=(rI .u32)) (E:=(fun x:Int=>(AV.int .u32 x))) (fun _=>J) (by decide) 0)))<|Z (.q ids 2 g2) J J (Az (Dn (i:=0) F8 B2 J (by decide)))<|Z (.int .u32 (A4 o3 0 0)) J J (Af (An hI J J J B2 (Gm (e:=(rI .u32)) (E:=(fun x:Int=>(AV.int .u32 x))) (fun _=>J) (by decide) 0)))<|Z (.ptr (ix ids 2) g2 0 1) J J (Az (Dn (i:=1) F8 B2 J (by decide)))<|Z (.int .u32 (A4 o3 1 0)) J J (Af (An hI J J J B2 (Gm (e:=(rI .u32)) (E:=(fun x:Int=>(AV.int .u32 x))) (fun _=>J) (by decide) 0)))<|Z (.int .u32 (Ny .u32 (A4 o3 0 0) (A4 o3 1 0))) J J (Ak J J Zx)<|Z (.int .u32 (E9 .u32 (A4 o3 2 0) (Ny .u32 (A4 o3 0 0) (A4 o3 1 0)))) J J (Ak J J Ux)<|Z (.int .u32 (Ny .u32 (E9 .u32 (A4 o3 0 0) (A4 o3 1 0)) (E9 .u32 (A4 o3 2 0) (Ny .u32 (A4 o3 0 0) (A4 o3 1 0))))) J J (Ak J J Zx)<|Cy _ J J J J J ((Yk (A4 o3 0 0) 2 13 22) _) (fun v _ _ _=>F4 (K:=1) (N:=2) func133 hI) (Ai J (Ak J J Zx) (Ai J (Ak J J Ux) (Ai J (Ak J J Zx) (Ai J (Af (An hI J J J B2 (Gm (e:=(rI .u32)) (E:=(fun x:Int=>(AV.int .u32 x))) (fun _=>J) (by decide) 0))) (Ai J (Az (Dn (i:=1) F8 B2 J (by decide))) (Ai J (Af (An hI J J J B2 (Gm (e:=(rI .u32)) (E:=(fun x:Int=>(AV.int .u32 x))) (fun _=>J) (by decide) 0))) (Ai J (Az (Dn (i:=0) F8 B2 J (by decide))) (Ai J (Af (An hI J J J B2 (Gm (e:=(rI .u32)) (E:=(fun x:Int=>(AV.int .u32 x))) (fun _=>J) (by decide) 0))) (Ai J (Az (Dn (i:=2) F8 B2 J (by decide))) (Ai J (Ak J J Ux) (Ai J (Af (An hI J J J B2 (Gm (e:=(rI .u32)) (E:=(fun x:Int=>(AV.int .u32 x))) (fun _=>J) (by decide) 0))) (Ai J (Az (Dn (i:=1) F8 B2 J (by decide))) (Ai J (Af (An hI J J J B2 (Gm (e:=(rI .u32)) (E:=(fun x:Int=>(AV.int .u32 x))) (fun _=>J) (by decide) 0))) (Ai J (Az (Dn (i:=0) F8 B2 J (by decide))) (B7 J Bb))))))))))))))) fun r6 _=>Z (.int .u32 (wU (r6+(Ny .u32 (E9 .u32 (A4 o3 0 0) (A4 o3 1 0)) (E9 .u32 (A4 o3 2 0) (Ny .u32 (A4 o3 0 0) (A4 o3 1 0))))))) J J (Ak J J J) ?_
   refine Z (.int .u32 (wU (r6+(Ny .u32 (E9 .u32 (A4 o3 0 0) (A4 o3 1 0)) (E9 .u32 (A4 o3 2 0) (Ny .u32 (A4 o3 0 0) (A4 o3 1 0))))))) J J Ce<|Bs<|Ad<|Cq El [[],[],[0,1]] [(false,0),(false,1),(true,2)] (by kernel_rfl)<|Z (.refc (ix ids 2) g2 0 1 7 7) J J (Cz (Aj1 (a:=1) (b:=8) hI J J F8 B2 J J J)) ?_
   refine Z (.refc (ix ids 2) g2 0 0 7 8) J J (Cz (Aj1 (a:=0) (b:=7) hI J J F8 B2 J J J)) ?_
   refine F2 fun hl=>Kl J J (fun _ _=>J) (fun K hK=>Aki (e:=(rI .u32)) (E1:=(fun x:Int=>(AV.int .u32 x))) (v:=o3) (L:=((o3.toList.drop 0).take 7)) (fun _=>J) hI J J J J (Asf (E1:=(fun x:Int=>(AV.int .u32 x))) (v:=o3) (fun _=>J) J (hI.at J J) J) Axc B2 J J hl (hK _ _ (B7 J Bb) ?_))
   clear hK K
   refine Bs<|A2 ?_
   refine Y<|Ac (.ptr (ix ids 2) g2 0 4) J (Az (Dn (i:=4) F8 B2 J (by decide)))<|Ac (.int .u32 (A4 (Se o3 1 ((o3.toList.drop 0).take 7)) 4 0)) J (Af (An hI J J J B2 (Gm (e:=(rI .u32)) (E:=(fun x:Int=>(AV.int .u32 x))) (fun _=>J) (by decide) 0)))<|Aa 2 [] [(122,(.int .u32 (wU ((A4 (Se o3 1 ((o3.toList.drop 0).take 7)) 4 0)+(wU ((wU ((wU ((wU ((A4 o3 7 0)+r5))+(Do .u32 (A4 o3 6 0) (E9 .u32 (A4 o3 4 0) (Do .u32 (A4 o3 5 0) (A4 o3 6 0))))))+(A4 Sj j1 0)))+(A4 o2 j1 0)))))))]<|Ac (.ptr (ix ids 2) g2 0 4) J (Az (Dn (i:=4) F8 B2 J (by decide)))<|A3 (V8 (e:=(rI .u32)) (E:=(fun x:Int=>(AV.int .u32 x))) (x:=(wU ((A4 (Se o3 1 ((o3.toList.drop 0).take 7)) 4 0)+(wU ((wU ((wU ((wU ((A4 o3 7 0)+r5))+(Do .u32 (A4 o3 6 0) (E9 .u32 (A4 o3 4 0) (Do .u32 (A4 o3 5 0) (A4 o3 6 0))))))+(A4 Sj j1 0)))+(A4 o2 j1 0)))))) (fun _=>J) hI J J J B2 J J (by decide) J J J)<|O<|A2 ?_
   refine At<|Aa 3 [] [(126,(.int .u32 (wU ((wU ((wU ((wU ((wU ((A4 o3 7 0)+r5))+(Do .u32 (A4 o3 6 0) (E9 .u32 (A4 o3 4 0) (Do .u32 (A4 o3 5 0) (A4 o3 6 0))))))+(A4 Sj j1 0)))+(A4 o2 j1 0)))+(wU (r6+(Ny .u32 (E9 .u32 (A4 o3 0 0) (A4 o3 1 0)) (E9 .u32 (A4 o3 2 0) (Ny .u32 (A4 o3 0 0) (A4 o3 1 0))))))))))]<|Ac (.q ids 2 g2) J (Az (Dn (i:=0) F8 B2 J (by decide)))<|A3 (V8 (e:=(rI .u32)) (E:=(fun x:Int=>(AV.int .u32 x))) (x:=(wU ((wU ((wU ((wU ((wU ((A4 o3 7 0)+r5))+(Do .u32 (A4 o3 6 0) (E9 .u32 (A4 o3 4 0) (Do .u32 (A4 o3 5 0) (A4 o3 6 0))))))+(A4 Sj j1 0)))+(A4 o2 j1 0)))+(wU (r6+(Ny .u32 (E9 .u32 (A4 o3 0 0) (A4 o3 1 0)) (E9 .u32 (A4 o3 2 0) (Ny .u32 (A4 o3 0 0) (A4 o3 1 0))))))))) (fun _=>J) hI J J J B2 J J (by decide) J J J)<|O<|A2 ?_
   refine A8<|At<|Aa 2 [] [(69,(.I (wi ((j1:Int)+1))))]<|O<|Bh (Hm (hW2 (Ic (Ic (Se o3 1 ((o3.toList.drop 0).take 7)) 4 (wU ((A4 (Se o3 1 ((o3.toList.drop 0).take 7)) 4 0)+(wU ((wU ((wU ((wU ((A4 o3 7 0)+r5))+(Do .u32 (A4 o3 6 0) (E9 .u32 (A4 o3 4 0) (Do .u32 (A4 o3 5 0) (A4 o3 6 0))))))+(A4 Sj j1 0)))+(A4 o2 j1 0)))))) 0 (wU ((wU ((wU ((wU ((wU ((A4 o3 7 0)+r5))+(Do .u32 (A4 o3 6 0) (E9 .u32 (A4 o3 4 0) (Do .u32 (A4 o3 5 0) (A4 o3 6 0))))))+(A4 Sj j1 0)))+(A4 o2 j1 0)))+(wU (r6+(Ny .u32 (E9 .u32 (A4 o3 0 0) (A4 o3 1 0)) (E9 .u32 (A4 o3 2 0) (Ny .u32 (A4 o3 0 0) (A4 o3 1 0))))))))) _ _ ⟨J,J⟩)) (.r2 (.r (.cons (Jb (C0 ha1).1 (by decide)) .nil)))
  rintro o3 fr h ⟨rfl,rfl⟩
  refine Y<|Ac (.B (decide (((List.range 64).length:Int)<64))) J (Ak J J J)<|O<|Ad<|Ci J (by simp)<|Bw J<|Y<|Au (.I 0)<|O<|Aw<|Cf [(Ao g 8 [((rV (rI .u32)) s)]),none,(Ao g2 8 [((rV (rI .u32)) o3)])] hI J (.keep (.drop (.keep .nil)))<|Ct [(0,(.q ids 0 g)),(9,(.q ids 2 g2)),(129,(.I 0))] (FI J)<|Dy (P:=Tryz.prog) (List.range 8) (fun j2 _=>fun o4=>Jp o3 j2 o4) (((fun o4=>.ok o4)):(Vector Int 8)→R (Vector Int 8)) (fun j2=>fun o4=>fun fr h=>fr=Ap [(0,(.q ids 0 g)),(9,(.q ids 2 g2)),(129,(.I j2))]∧h=hp h0 ids [(Ao g 8 [((rV (rI .u32)) o4)]),none,(Ao g2 8 [((rV (rI .u32)) o3)])]) s ?_ ?_ ?_
  ·exact⟨J,J⟩
  ·rintro j2 a2 ha2 W hW3 o4 fr h ⟨rfl,rfl⟩
   refine Ah (m':=Jp o3 j2 o4) J (Ah (Jp.eq_1 _ _ _) ?_)
   refine Y<|Ac (.B (decide ((j2:Int)<8))) J (Ak J J J)<|O<|Ad<|Ch J (by have:=(C0 ha2).1; omega)<|Aq<|Ad<|Aw<|Y<|Aa 2 [] [(13,(.I j2))]<|O<|Cq El [[],[],[0],[0,1,2],[0,1,2,3],[],[5],[5,6],[0,1,2,3,4,5,6,7],[0],[0,1,1,2,3,4,5,6,7,8,9],[0,1,2,3,4,5,6,7,8,9,10]] [(false,0),(false,1),(false,2),(false,3),(false,4),(false,5),(false,6),(false,7),(false,8),(false,9),(false,10),(true,11)] (by kernel_rfl)<|Z (.q ids 0 g) J J Ae<|Z (.I j2) J J Ae<|Z (.q ids 0 g) J J (T7 J)<|Z (.ptr (ix ids 0) g 0 j2) J J (Az (Dn F8 B2 J (C0 ha2).1))<|Z (.int .u32 (A4 o4 j2 0)) J J (Af (An hI J J J B2 (Gm (e:=(rI .u32)) (E:=(fun x:Int=>(AV.int .u32 x))) (fun _=>J) (C0 ha2).1 0)))<|Z (.I j2) J J Ae<|Z (.ptr (ix ids 2) g2 0 j2) J J (Az (Dn F8 B2 J (C0 ha2).1)) ?_
   refine Z (.int .u32 (A4 o3 j2 0)) J J (Af (An hI J J J B2 (Gm (e:=(rI .u32)) (E:=(fun x:Int=>(AV.int .u32 x))) (fun _=>J) (C0 ha2).1 0)))<|Z (.int .u32 (wU ((A4 o4 j2 0)+(A4 o3 j2 0)))) J J (Ak J J J)<|Z (.q ids 0 g) J J (T7 J)<|Z (.ptr (ix ids 0) g 0 j2) J J (Az (Dn F8 B2 J (C0 ha2).1))<|R7 J (fun _ _=>J) (fun K hK=>Kd (V8 (e:=(rI .u32)) (E:=(fun x:Int=>(AV.int .u32 x))) (x:=(wU ((A4 o4 j2 0)+(A4 o3 j2 0)))) (fun _=>J) hI J J J B2 J J (C0 ha2).1 J J J) (hK _ _ (Cr J (B7 J (Bz J Bb))) ?_))
   clear hK K
   refine Bs<|A2 ?_
   refine A8<|At<|Aa 2 [] [(129,(.I (wi ((j2:Int)+1))))]<|O<|Bh (Hm (hW3 (Ic o4 j2 (wU ((A4 o4 j2 0)+(A4 o3 j2 0)))) _ _ ⟨J,J⟩)) (.r2 (.cons (Jb (C0 ha2).1 (by decide)) .nil))
  rintro o4 fr h ⟨rfl,rfl⟩
  refine Y<|Ac (.B (decide (((List.range 8).length:Int)<8))) J (Ak J J J)<|O<|Ad<|Ci J (by simp)<|Bw J<|Afn (K:=1) (N:=2) (a:=o4) (vs:=[]) [Ao g 8 [((rV (rI .u32)) o4)]] func133 hI J J J (.keep (.keep (.drop .nil))) (.same _) ⟨J,J⟩
 refine Aw<|Ct [(0,(.q ids 0 g)),(4,(.q ids 1 g1)),(6,(.I 16))] (FI J)<|Jz (P:=Tryz.prog) (D0 fun x1 o1=>Fp x1 o1) ((fun o2=>Gq s o2):(Vector Int 64)→R (Vector Int 8)) (D0 fun x1 o1=>fun fr h=>fr=Ap [(0,(.q ids 0 g)),(4,(.q ids 1 g1)),(6,(.I x1))]∧h=hp h0 ids [(Ao g 8 [((rV (rI .u32)) s)]),(Ao g1 64 [((rV (rI .u32)) o1)]),none]) (16,o) ?_ ?_
 ·exact⟨J,J⟩
 rintro vW1 hW1 ⟨x1,o1⟩ fr h ⟨rfl,rfl⟩
 refine Ah (m':=Fp x1 o1) J (Ah (Fp.eq_1 _ _) ?_)
 refine Ad<|Y<|Aa 2 [] [(26,(.B (decide (x1<64))))]<|O<|D9 J (fun hc=>?_) (fun hc=>?_)
 ·refine Aq<|Ad<|Aw<|Ad<|Cq El [[],[0],[0,1],[0,1,2],[],[4],[4,5],[4,5,6],[0,1,2,3,3],[0,1,2,3,4,5,6,7,7,8,8]] [(false,0),(false,1),(false,2),(false,3),(false,4),(false,5),(false,6),(false,7),(false,8),(false,9)] (by kernel_rfl)<|Z (.I x1) J J Ae<|Z (.I (wi (x1 - 15))) J J (Ak J J J)<|F2 fun hi=>Z (.ptr (ix ids 1) g1 0 (Int.toNat (wi (x1 - 15)))) J J (Az (Jk Nt B2 J hi))<|Z (.int .u32 (A4 o1 (Int.toNat (wi (x1 - 15))) 0)) J J (Af (An hI J J J B2 (Gm (e:=(rI .u32)) (E:=(fun x:Int=>(AV.int .u32 x))) (fun _=>J) (J0 hi) 0)))<|Z (.I x1) J J Ae<|Z (.I (wi (x1 - 2))) J J (Ak J J J)<|F2 fun hi1=>Z (.ptr (ix ids 1) g1 0 (Int.toNat (wi (x1 - 2)))) J J (Az (Jk Nt B2 J hi1))<|Z (.int .u32 (A4 o1 (Int.toNat (wi (x1 - 2))) 0)) J J (Af (An hI J J J B2 (Gm (e:=(rI .u32)) (E:=(fun x:Int=>(AV.int .u32 x))) (fun _=>J) (J0 hi1) 0)))<|Z (.int .u32 (A4 o1 (Int.toNat (wi (x1 - 15))) 0)) J J Ce<|Z (.int .u32 (A4 o1 (Int.toNat (wi (x1 - 2))) 0)) J J Ce<|Bs<|Cq El [[],[],[1],[1,2],[1,2,3],[],[5],[],[5,6,7],[5,6,7,8],[],[10],[5,6,7,8,9,10,11],[1,2,3,4,5,6,7,8,9,10,11,12],[],[14],[14,15],[14,15,16],[1,2,3,4,5,6,7,8,9,10,11,12,13,14,15,16,17],[],[5,6,7,8,19],[],[5,6,7,8,19,20,21],[5,6,7,8,19,20,21,22],[],[24],[5,6,7,8,19,20,21,22,23,24,25],[1,2,3,4,5,6,7,8,9,10,11,12,13,14,15,16,17,18,19,20,21,22,23,24,25,26],[0,0,1,2,3,4,5,6,7,8,9,10,11,12,13,14,15,16,17,18,19,20,21,22,23,24,25,26,27],[0,1,2,3,4,5,6,7,8,9,10,11,12,13,14,15,16,17,18,19,20,21,22,22,23,24,25,26,27,27,28]] [(false,0),(false,1),(false,2),(false,3),(false,4),(false,5),(false,7),(false,10),(false,11),(false,14),(false,15),(false,16),(false,17),(false,19),(false,21),(false,24),(false,25),(true,6),(true,8),(false,9),(false,12),(false,13),(false,18),(true,20),(true,22),(false,23),(false,26),(false,27),(false,28),(true,29)] (by kernel_rfl)<|Z (.I x1) J J Ae<|Z (.I x1) J J Ae ?_
  refine Z (.I (wi (x1 - 16))) J J (Ak J J J)<|F2 fun hi2=>Z (.ptr (ix ids 1) g1 0 (Int.toNat (wi (x1 - 16)))) J J (Az (Jk Nt B2 J hi2))<|Z (.int .u32 (A4 o1 (Int.toNat (wi (x1 - 16))) 0)) J J (Af (An hI J J J B2 (Gm (e:=(rI .u32)) (E:=(fun x:Int=>(AV.int .u32 x))) (fun _=>J) (J0 hi2) 0)))<|Z (.int .u32 (A4 o1 (Int.toNat (wi (x1 - 15))) 0)) J J Ae<|Z (.int .u32 (A4 o1 (Int.toNat (wi (x1 - 15))) 0)) J J Ae<|Z (.int .u32 (A4 o1 (Int.toNat (wi (x1 - 15))) 0)) J J Ae<|Z (.int .u32 (Int.fdiv (A4 o1 (Int.toNat (wi (x1 - 15))) 0) 8)) J J (Ak J J (K9 (by decide) (by decide)))<|Z (.I x1) J J Ae<|Z (.I (wi (x1 - 7))) J J (Ak J J J)<|F2 fun hi3=>Z (.ptr (ix ids 1) g1 0 (Int.toNat (wi (x1 - 7)))) J J (Az (Jk Nt B2 J hi3))<|Z (.int .u32 (A4 o1 (Int.toNat (wi (x1 - 7))) 0)) J J (Af (An hI J J J B2 (Gm (e:=(rI .u32)) (E:=(fun x:Int=>(AV.int .u32 x))) (fun _=>J) (J0 hi3) 0)))<|Z (.int .u32 (A4 o1 (Int.toNat (wi (x1 - 2))) 0)) J J Ae<|Z (.int .u32 (A4 o1 (Int.toNat (wi (x1 - 2))) 0)) J J Ae<|Z (.int .u32 (A4 o1 (Int.toNat (wi (x1 - 2))) 0)) J J Ae<|Z (.int .u32 (Int.fdiv (A4 o1 (Int.toNat (wi (x1 - 2))) 0) 1024)) J J (Ak J J (K9 (by decide) (by decide)))<|Cy _ J J J J J ((Fl (A4 o1 (Int.toNat (wi (x1 - 15))) 0) (-7)) _) (fun v _ _ _=>F4 (K:=1) (N:=2) func133 hI) (Ai J (Ak J J (K9 (by decide) (by decide))) (Ai J Ae (Ai J Ae (Ai J Ae (Ai J (Af (An hI J J J B2 (Gm (e:=(rI .u32)) (E:=(fun x:Int=>(AV.int .u32 x))) (fun _=>J) (J0 hi3) 0))) (Ai J (Az (Jk Nt B2 J hi3)) (Ai J (Ak J J J) (Ai J Ae (Ai J (Ak J J (K9 (by decide) (by decide))) (Ai J Ae (Ai J Ae (Bz J (Ai J (Af (An hI J J J B2 (Gm (e:=(rI .u32)) (E:=(fun x:Int=>(AV.int .u32 x))) (fun _=>J) (J0 hi2) 0))) (Ai J (Az (Jk Nt B2 J hi2)) (Ai J (Ak J J J) (Ai J Ae (Ai J Ae Bb))))))))))))))))) fun r1 _=>Cy _ J J J J J ((Fl (A4 o1 (Int.toNat (wi (x1 - 15))) 0) (-18)) _) (fun v _ _ _=>F4 (K:=1) (N:=2) func133 hI) (Ai J (Ak J J (K9 (by decide) (by decide))) (Ai J Ae (Ai J Ae (Ai J Ae (Ai J (Af (An hI J J J B2 (Gm (e:=(rI .u32)) (E:=(fun x:Int=>(AV.int .u32 x))) (fun _=>J) (J0 hi3) 0))) (Ai J (Az (Jk Nt B2 J hi3)) (Ai J (Ak J J J) (Ai J Ae (Ai J (Ak J J (K9 (by decide) (by decide))) (Ai J Ae (B7 J (Ai J (Af (An hI J J J B2 (Gm (e:=(rI .u32)) (E:=(fun x:Int=>(AV.int .u32 x))) (fun _=>J) (J0 hi2) 0))) (Ai J (Az (Jk Nt B2 J hi2)) (Ai J (Ak J J J) (Ai J Ae (Ai J Ae Bb)))))))))))))))) fun r2 _=>Z (.int .u32 (Do .u32 r1 r2)) J J (Ak J J L8)<|Z (.int .u32 (Do .u32 (Do .u32 r1 r2) (Int.fdiv (A4 o1 (Int.toNat (wi (x1 - 15))) 0) 8))) J J (Ak J J L8) ?_
  refine Z (.int .u32 (wU ((A4 o1 (Int.toNat (wi (x1 - 16))) 0)+(Do .u32 (Do .u32 r1 r2) (Int.fdiv (A4 o1 (Int.toNat (wi (x1 - 15))) 0) 8))))) J J (Ak J J J)<|Z (.int .u32 (wU ((wU ((A4 o1 (Int.toNat (wi (x1 - 16))) 0)+(Do .u32 (Do .u32 r1 r2) (Int.fdiv (A4 o1 (Int.toNat (wi (x1 - 15))) 0) 8))))+(A4 o1 (Int.toNat (wi (x1 - 7))) 0)))) J J (Ak J J J)<|Cy _ J J J J J ((Fl (A4 o1 (Int.toNat (wi (x1 - 2))) 0) (-17)) _) (fun v _ _ _=>F4 (K:=1) (N:=2) func133 hI) (Ai J (Ak J J J) (Ai J (Ak J J J) (Ai J (Ak J J L8) (Ai J (Ak J J L8) (Ai J (Ak J J (K9 (by decide) (by decide))) (Ai J Ae (Ai J Ae (Bz J (Ai J (Af (An hI J J J B2 (Gm (e:=(rI .u32)) (E:=(fun x:Int=>(AV.int .u32 x))) (fun _=>J) (J0 hi3) 0))) (Ai J (Az (Jk Nt B2 J hi3)) (Ai J (Ak J J J) (Ai J Ae (Ai J (Ak J J (K9 (by decide) (by decide))) (Ai J Ae (B7 J (Ai J (Af (An hI J J J B2 (Gm (e:=(rI .u32)) (E:=(fun x:Int=>(AV.int .u32 x))) (fun _=>J) (J0 hi2) 0))) (Ai J (Az (Jk Nt B2 J hi2)) (Ai J (Ak J J J) (Ai J Ae (Ai J Ae Bb)))))))))))))))))))) fun r3 _=>Cy _ J J J J J ((Fl (A4 o1 (Int.toNat (wi (x1 - 2))) 0) (-19)) _) (fun v _ _ _=>F4 (K:=1) (N:=2) func133 hI) (Ai J (Ak J J J) (Ai J (Ak J J J) (Ai J (Ak J J L8) (Ai J (Ak J J L8) (Ai J (Ak J J (K9 (by decide) (by decide))) (Ai J Ae (B7 J (Ai J (Af (An hI J J J B2 (Gm (e:=(rI .u32)) (E:=(fun x:Int=>(AV.int .u32 x))) (fun _=>J) (J0 hi3) 0))) (Ai J (Az (Jk Nt B2 J hi3)) (Ai J (Ak J J J) (Ai J Ae (Ai J (Ak J J (K9 (by decide) (by decide))) (Ai J Ae (B7 J (Ai J (Af (An hI J J J B2 (Gm (e:=(rI .u32)) (E:=(fun x:Int=>(AV.int .u32 x))) (fun _=>J) (J0 hi2) 0))) (Ai J (Az (Jk Nt B2 J hi2)) (Ai J (Ak J J J) (Ai J Ae (Ai J Ae Bb))))))))))))))))))) fun r4 _=>Z (.int .u32 (Do .u32 r3 r4)) J J (Ak J J L8)<|Z (.int .u32 (Do .u32 (Do .u32 r3 r4) (Int.fdiv (A4 o1 (Int.toNat (wi (x1 - 2))) 0) 1024))) J J (Ak J J L8)<|Z (.int .u32 (wU ((wU ((wU ((A4 o1 (Int.toNat (wi (x1 - 16))) 0)+(Do .u32 (Do .u32 r1 r2) (Int.fdiv (A4 o1 (Int.toNat (wi (x1 - 15))) 0) 8))))+(A4 o1 (Int.toNat (wi (x1 - 7))) 0)))+(Do .u32 (Do .u32 r3 r4) (Int.fdiv (A4 o1 (Int.toNat (wi (x1 - 2))) 0) 1024))))) J J (Ak J J J)<|F2 fun hi4=>Z (.ptr (ix ids 1) g1 0 (Int.toNat x1)) J J (Az (Jk Nt B2 J hi4))<|R7 J (fun _ _=>J) (fun K hK=>Kd (V8 (e:=(rI .u32)) (E:=(fun x:Int=>(AV.int .u32 x))) (x:=(wU ((wU ((wU ((A4 o1 (Int.toNat (wi (x1 - 16))) 0)+(Do .u32 (Do .u32 r1 r2) (Int.fdiv (A4 o1 (Int.toNat (wi (x1 - 15))) 0) 8))))+(A4 o1 (Int.toNat (wi (x1 - 7))) 0)))+(Do .u32 (Do .u32 r3 r4) (Int.fdiv (A4 o1 (Int.toNat (wi (x1 - 2))) 0) 1024))))) (fun _=>J) hI J J J B2 J J (J0 hi4) J J J) (hK _ _ (Cr J (Cr J (Cr J (Bz J Bb)))) ?_))
  clear hK K
  refine Bs<|A2 ?_
  refine A8<|At<|Aa 3 [] [(6,(.I (wi (x1+1))))]<|O<|Bh (Hy (hW1 ((wi (x1+1)),(Ic o1 (Int.toNat x1) (wU ((wU ((wU ((A4 o1 (Int.toNat (wi (x1 - 16))) 0)+(Do .u32 (Do .u32 r1 r2) (Int.fdiv (A4 o1 (Int.toNat (wi (x1 - 15))) 0) 8))))+(A4 o1 (Int.toNat (wi (x1 - 7))) 0)))+(Do .u32 (Do .u32 r3 r4) (Int.fdiv (A4 o1 (Int.toNat (wi (x1 - 2))) 0) 1024)))))) _ _ ⟨J,J⟩))
 refine Bw J<|Ig<|Bh (hJ o1 _ _ ⟨J,J⟩)
theorem Adj (c:Nat)(cp:Nat)(n:Int)(s:(Vector Int 128))(h0:Ab)(o0:Nat)(g:Nat)(vHc:c+8≤128)(hI0:Ids h0 [o0] 1):Nv c cp n s≠.bad→B0 Tryz.prog 134 [(.refc o0 g 0 c 8 cp),(.int .u64 n)] (hp h0 [o0] [some (.rows g 128 [((rV (rI .u8)) s)])]) (E8 (fun a_ v h'=>v=(.tup [])∧h'=hp h0 [o0] [some (.rows g 128 [((rV (rI .u8)) a_)])]) h0 (Nv c cp n s)):=by
 refine Fr (n:=23) 0 func134 J (by decide) J J hI0 J fun ids he hI=>?_
 clear hI0
 obtain rfl:ix ids 0=o0:=he 0 rfl
 clear he
 refine Bp (Ah (Nv.eq_1 _ _ _ _) ?_)
 refine Y<|Au (.refc (ix ids 0) g 0 c 8 cp)<|Ac (.I 8) J (A5 (W2 Dm))<|Au (.I 0)<|O<|Aw<|Ct [(0,(.refc (ix ids 0) g 0 c 8 cp)),(1,(.int .u64 n)),(6,(.I 8)),(7,(.I 0))] (FI J)<|Dy (P:=Tryz.prog) (List.range 8) (fun j _=>fun o=>Rt c n j o) (((fun o=>.ok o)):(Vector Int 128)→R (Vector Int 128)) (fun j=>fun o=>fun fr h=>fr=Ap [(0,(.refc (ix ids 0) g 0 c 8 cp)),(1,(.int .u64 n)),(6,(.I 8)),(7,(.I j))]∧h=hp h0 ids [(Ao g 128 [(rU o)])]) s ?_ ?_ ?_
 ·exact⟨J,J⟩
 ·rintro j a ha W hW o fr h ⟨rfl,rfl⟩
  refine Ah (m':=Rt c n j o) J (Ah (Rt.eq_1 _ _ _ _) ?_)
  refine Y<|Ac (.B (decide ((j:Int)<8))) J (Ak J J J)<|O<|Ad<|Ch J (by have:=(C0 ha).1; omega)<|Aq<|Ad<|Aw<|Y<|Aa 2 [] [(4,(.I j))]<|O<|At<|Aa 2 [] [(11,(.refc (ix ids 0) g 0 c 8 cp)),(10,(.refc (ix ids 0) g 0 c 8 cp))]<|Ac (.I 8) J (A5 (W2 Dm))<|Aa 6 [] [(18,(.I (wi (8 * (j:Int))))),(16,(.int .u64 n)),(15,(.I (wi (7 - (j:Int)))))]<|Cu fun hz=>Ac (.int .u64 (Qs .u64 n (wi (8 * (j:Int))))) J (Ak J J (Acs hz))<|Ac (.int .u8 (IntKind.wrap .u8 (Qs .u64 n (wi (8 * (j:Int)))))) J (Fa (Gy Mk Em))<|Cu fun hi=>?_
  refine Ac (.ptr (ix ids 0) g 0 (c+Int.toNat (wi (7 - (j:Int))))) J (Az (Amu Dm Em J hi))<|A3 (V8 (e:=(rI .u8)) (E:=(fun x:Int=>(AV.int .u8 x))) (x:=(IntKind.wrap .u8 (Qs .u64 n (wi (8 * (j:Int)))))) (fun _=>J) hI J J J Em J J (At9 hi vHc) J J J)<|O<|A2 ?_
  refine A8<|At<|Aa 2 [] [(7,(.I (wi ((j:Int)+1))))]<|O<|Bh (Hm (hW (Ic o (c+Int.toNat (wi (7 - (j:Int)))) (IntKind.wrap .u8 (Qs .u64 n (wi (8 * (j:Int)))))) _ _ ⟨J,J⟩)) (.r2 (.r (.cons (Jb (C0 ha).1 (by decide)) .nil)))
 rintro o fr h ⟨rfl,rfl⟩
 refine Y<|Ac (.B (decide (((List.range 8).length:Int)<8))) J (Ak J J J)<|O<|Ad<|Ci J (by simp)<|Bw J<|Afn (K:=1) (N:=0) (a:=o) (vs:=[]) [Ao g 128 [(rU o)]] func134 hI J J J (.keep .nil) (.same _) ⟨J,J⟩
theorem Aap (c:Nat)(cp:Nat)(n:Int)(s:(Vector Int 32))(h0:Ab)(o0:Nat)(g:Nat)(vHc:c+4≤32)(hI0:Ids h0 [o0] 1):N9 c cp n s≠.bad→B0 Tryz.prog 134 [(.refc o0 g 0 c 4 cp),(.int .u64 n)] (hp h0 [o0] [some (.rows g 32 [((rV (rI .u8)) s)])]) (E8 (fun a_ v h'=>v=(.tup [])∧h'=hp h0 [o0] [some (.rows g 32 [((rV (rI .u8)) a_)])]) h0 (N9 c cp n s)):=by
 refine Fr (n:=23) 0 func134 J (by decide) J J hI0 J fun ids he hI=>?_
 clear hI0
 obtain rfl:ix ids 0=o0:=he 0 rfl
 clear he
 refine Bp (Ah (N9.eq_1 _ _ _ _) ?_)
 refine Y<|Au (.refc (ix ids 0) g 0 c 4 cp)<|Ac (.I 4) J (A5 (W2 Dm))<|Au (.I 0)<|O<|Aw<|Ct [(0,(.refc (ix ids 0) g 0 c 4 cp)),(1,(.int .u64 n)),(6,(.I 4)),(7,(.I 0))] (FI J)<|Dy (P:=Tryz.prog) (List.range 4) (fun j _=>fun o=>Pp c n j o) (((fun o=>.ok o)):(Vector Int 32)→R (Vector Int 32)) (fun j=>fun o=>fun fr h=>fr=Ap [(0,(.refc (ix ids 0) g 0 c 4 cp)),(1,(.int .u64 n)),(6,(.I 4)),(7,(.I j))]∧h=hp h0 ids [(Ao g 32 [(rU o)])]) s ?_ ?_ ?_
 ·exact⟨J,J⟩
 ·rintro j a ha W hW o fr h ⟨rfl,rfl⟩
  refine Ah (m':=Pp c n j o) J (Ah (Pp.eq_1 _ _ _ _) ?_)
  refine Y<|Ac (.B (decide ((j:Int)<4))) J (Ak J J J)<|O<|Ad<|Ch J (by have:=(C0 ha).1; omega)<|Aq<|Ad<|Aw<|Y<|Aa 2 [] [(4,(.I j))]<|O<|At<|Aa 2 [] [(11,(.refc (ix ids 0) g 0 c 4 cp)),(10,(.refc (ix ids 0) g 0 c 4 cp))]<|Ac (.I 4) J (A5 (W2 Dm))<|Aa 6 [] [(18,(.I (wi (8 * (j:Int))))),(16,(.int .u64 n)),(15,(.I (wi (3 - (j:Int)))))]<|Cu fun hz=>Ac (.int .u64 (Qs .u64 n (wi (8 * (j:Int))))) J (Ak J J (Acs hz))<|Ac (.int .u8 (IntKind.wrap .u8 (Qs .u64 n (wi (8 * (j:Int)))))) J (Fa (Gy Mk Em))<|Cu fun hi=>?_
  refine Ac (.ptr (ix ids 0) g 0 (c+Int.toNat (wi (3 - (j:Int))))) J (Az (Amu Dm Em J hi))<|A3 (V8 (e:=(rI .u8)) (E:=(fun x:Int=>(AV.int .u8 x))) (x:=(IntKind.wrap .u8 (Qs .u64 n (wi (8 * (j:Int)))))) (fun _=>J) hI J J J Em J J (At9 hi vHc) J J J)<|O<|A2 ?_
  refine A8<|At<|Aa 2 [] [(7,(.I (wi ((j:Int)+1))))]<|O<|Bh (Hm (hW (Ic o (c+Int.toNat (wi (3 - (j:Int)))) (IntKind.wrap .u8 (Qs .u64 n (wi (8 * (j:Int)))))) _ _ ⟨J,J⟩)) (.r2 (.r (.cons (Jb (C0 ha).1 (by decide)) .nil)))
 rintro o fr h ⟨rfl,rfl⟩
 refine Y<|Ac (.B (decide (((List.range 4).length:Int)<4))) J (Ak J J J)<|O<|Ad<|Ci J (by simp)<|Bw J<|Afn (K:=1) (N:=0) (a:=o) (vs:=[]) [Ao g 32 [(rU o)]] func134 hI J J J (.keep .nil) (.same _) ⟨J,J⟩
theorem Adg (b:List Int):CP Tryz.prog 112 [(.sl 1 (List.map (rI .u8) b))] (Dk b) (fun(x:(Vector Int 32))=>(AV.agg ((rV (rI .u8)) x))):=by
 refine Bl (n:=69) 3 func112 J (by decide) J J fun h0 ids hI=>Bp (Ah (Dk.eq_1 _) ?_)
 refine Y<|F3 (j:=0) (row:=(rU (B3 32 0))) hI J J J J Bo (Js (n:=32) (e:=(rI .u8)) (E:=(fun x:Int=>(AV.int .u8 x))) (fun _=>J) _).symm ((Dr (fun x=>Cb x) J) _) fun g=>O<|A2 ?_
 refine Y<|Ac (.A ((rV (rI .u32)) Ace)) J (Af (Aw8 (b:=1) (c:=0) J Aw1 J))<|F3 (j:=1) (row:=((rV (rI .u32)) (B3 8 0))) hI J J J J F8 (Js (n:=8) (e:=(rI .u32)) (E:=(fun x:Int=>(AV.int .u32 x))) (fun _=>J) _).symm ((Dr (fun x=>Cb x) J) _) fun g1=>A3 (Fe (v:=(.A ((rV (rI .u32)) Ace))) hI J J J F8 J J J (((Dr (fun x=>Cb x) J) _).1) J)<|O<|A2 ?_
 refine Y<|Aa 2 [] [(4,(.func (.func 133) [(.q ids 1 g1)] []))]<|O<|Y<|Aa 2 [] [(5,(.sl 1 (List.map (rI .u8) b)))]<|O<|Ad<|Ec (D0 fun rest1 o1=>Ld b rest1 o1) (D0 fun rest1 o1=>fun fr h=>fr=Ap [(0,(.sl 1 (List.map (rI .u8) b))),(2,(.q ids 0 g)),(3,(.q ids 1 g1)),(4,(.func (.func 133) [(.q ids 1 g1)] [])),(5,(.sl 1 (List.map (rI .u8) rest1)))]∧h=hp h0 ids [(Ao g 32 [(rU (B3 32 0))]),(Ao g1 8 [((rV (rI .u32)) o1)]),none]) ?_ fun hJ2=>?_
 ·rintro⟨rest1,o1⟩ fr h ⟨rfl,rfl⟩
  refine Ah (Ld.eq_1 _ _ _)<|Y<|At2 (q:=128) (nn:=64) (e:=(rI .u8)) (E1:=(fun x:Int=>(AV.int .u8 x))) (y:=(0:Int)) (j:=2) (fun _=>J) hI J J J J Dm Em J J J J J J J J fun g2=>Aj (.refc (ix ids 2) g2 0 0 64 128)<|O<|A2 ?_
  refine Y<|Aa 2 [] [(23,(.sl 1 (List.map (rI .u8) rest1))),(22,(.refc (ix ids 2) g2 0 0 64 128))]<|Cu fun hl=>Asq (e:=(rI .u8)) (E1:=(fun x:Int=>(AV.int .u8 x))) (v:=(B3 128 (0:Int))) (L:=rest1) (fun _=>J) hI J J J J J (Fo J) Dm Em J J hl<|O<|A2 ?_
  refine Y<|Aa 2 [] [(26,(.sl 1 (List.map (rI .u8) rest1))),(25,(.refc (ix ids 2) g2 0 0 64 128))]<|Ac (.I (rest1.length:Int)) J (A5 (Be Dm))<|Cu fun hi=>Ac (.ptr (ix ids 2) g2 0 (Int.toNat (rest1.length:Int))) J (Az (Aq8 Dm Em J hi))<|A3 (V8 (e:=(rI .u8)) (E:=(fun x:Int=>(AV.int .u8 x))) (x:=128) (fun _=>J) hI J J J Em J J (Nat.lt_of_lt_of_le (J0 hi) (by decide)) J J J)<|O<|A2 ?_
  refine Ad<|Y<|Au (.sl 1 (List.map (rI .u8) rest1))<|Ac (.I (rest1.length:Int)) J (A5 (Be Dm))<|Ac (.B (decide ((rest1.length:Int) > 55))) J (Ak J J J)<|O<|D9 J (fun hc1=>?_) (fun hc1=>?_)
  ·refine At<|Au (.refc (ix ids 2) g2 0 0 64 128)<|Ac (.refc (ix ids 2) g2 0 0 128 128) J (Cz (Ajb (a:=0) (b:=128) Dm Em J (Ajp (by decide)) Ajm (by decide) (.inl J)))<|Aj (.refc (ix ids 2) g2 0 0 128 128)<|O<|Y<|Aa 2 [] [(35,(.refc (ix ids 2) g2 0 0 128 128)),(34,(.refc (ix ids 2) g2 0 0 128 128))]<|Ac (.I 128) J (A5 (W2 Dm))<|Ac (.I 120) J (Ak J J J)<|Ac (.refc (ix ids 2) g2 0 120 8 8) J (Cz (Ajb (a:=120) (b:=128) Dm Em J Ajm (Ajp (by decide)) (by decide) (.inr (by decide))))<|Au (.sl 1 (List.map (rI .u8) b))<|Ac (.I (b.length:Int)) J (A5 (Be Dm))<|Ac (.int .u64 (IntKind.wrap .u64 (b.length:Int))) J (Fa (Gy Bf Mk))<|Ac (.int .u64 (IntKind.wrap .u64 ((IntKind.wrap .u64 (b.length:Int)) * 8))) J (Ak J J J)<|Fm [2] hI J J (Adj 120 8 (IntKind.wrap .u64 ((IntKind.wrap .u64 (b.length:Int)) * 8)) (Ic (Se (B3 128 (0:Int)) 0 rest1) (Int.toNat (rest1.length:Int)) 128) _ (ix ids 2) g2 (by decide) (by exact hI.sub' J J)) J J J J J J (fun v _=>Ax func112 hI) ?_
   rintro r1 _ _ _ ⟨rfl,rfl⟩
   refine Jv [2] hI J J J ?_
   refine Gf<|O<|A2 ?_
   refine Ad<|Ec (fun o3=>Lf o3) (fun o3=>fun fr h=>fr=Ap [(2,(.q ids 0 g)),(3,(.q ids 1 g1))]∧h=hp h0 ids [(Ao g 32 [(rU (B3 32 0))]),(Ao g1 8 [((rV (rI .u32)) o3)]),none]) ?_ fun hJ=>?_
   ·rintro o3 fr h ⟨rfl,rfl⟩
    refine Ah (Lf.eq_1 _)<|Ad<|Y<|Aa 2 [1] [(54,(.I 0)),(53,(.A ((rV (rI .u32)) o3)))]<|O<|Aw<|Cf [(Ao g 32 [(rU (B3 32 0))]),none,none] hI J (.keep (.drop (.keep .nil)))<|Ct [(2,(.q ids 0 g)),(53,(.A ((rV (rI .u32)) o3))),(54,(.I 0))] (FI J)<|Dy (P:=Tryz.prog) (List.range 8) (fun j _=>fun o4=>Rs o3 j o4) (((fun o4=>.ok o4)):(Vector Int 32)→R (Vector Int 32)) (fun j=>fun o4=>fun fr h=>fr=Ap [(2,(.q ids 0 g)),(53,(.A ((rV (rI .u32)) o3))),(54,(.I j))]∧h=hp h0 ids [(Ao g 32 [(rU o4)]),none,none]) (B3 32 0) ?_ ?_ ?_
    ·exact⟨J,J⟩
    ·rintro j a ha W hW2 o4 fr h ⟨rfl,rfl⟩
     refine Ah (m':=Rs o3 j o4) J (Ah (Rs.eq_1 _ _ _) ?_)
     refine Y<|Ac (.B (decide ((j:Int)<8))) J (Ak J J J)<|O<|Ad<|Ch J (by have:=(C0 ha).1; omega)<|Aq<|Ad<|Aw<|Y<|Au (.I j)<|Ac (.int .u32 (A4 o3 j 0)) J (Ali (Aom (e:=(rI .u32)) (E:=(fun x:Int=>(AV.int .u32 x))) (fun _=>J) F8 B2 J J ((C0 ha).1) 0))<|Aa 2 [] [(8,(.int .u32 (A4 o3 j 0))),(7,(.I j))]<|O<|At<|Aa 5 [] [(62,(.I (wi ((wi (4 * (j:Int)))+4)))),(59,(.I (wi (4 * (j:Int)))))]<|Cu fun hi1=>Ac (.refc (ix ids 0) g 0 (Int.toNat (wi (4 * (j:Int)))) 4 (32 - (Int.toNat (wi (4 * (j:Int)))))) J (Cz (Ao7 (k:=4) hI J J Bo Em J hi1.1 hi1.2)) ?_
     refine Au (.int .u32 (A4 o3 j 0))<|Ac (.int .u64 (IntKind.wrap .u64 (A4 o3 j 0))) J (Fa (Gy B2 Mk))<|Fm [0] hI J J (Aap (Int.toNat (wi (4 * (j:Int)))) (32 - (Int.toNat (wi (4 * (j:Int))))) (IntKind.wrap .u64 (A4 o3 j 0)) o4 _ (ix ids 0) g (Ask hi1.2) (by exact hI.sub' J J)) J J J J J J (fun v _=>Ax func112 hI) ?_
     rintro r3 _ _ _ ⟨rfl,rfl⟩
     refine Jv [0] hI J J J ?_
     refine Gf<|O<|A2 ?_
     refine A8<|At<|Aa 2 [] [(54,(.I (wi ((j:Int)+1))))]<|O<|Bh (Hm (hW2 r3 _ _ ⟨J,J⟩)) (.r2 (.cons (Jb (C0 ha).1 (by decide)) .nil))
    rintro o4 fr h ⟨rfl,rfl⟩
    refine Y<|Ac (.B (decide (((List.range 8).length:Int)<8))) J (Ak J J J)<|O<|Ad<|Ci J (by simp)<|Bw J<|Y<|Aa 1 [0] [(68,(.A (rU o4)))]<|A3 (Fe (v:=(.A (rU o4))) hI J J J Bo J J J (((Dr (fun x=>Cb x) J) _).1) J)<|O<|A0 func112 hI (Cd (An hI J J J Bo J) Co) (.same _)
   refine Aw<|Y4 [(Ao g 32 [(rU (B3 32 0))]),(Ao g1 8 [((rV (rI .u32)) o1)]),none] [(2,(.q ids 0 g)),(3,(.q ids 1 g1)),(4,(.func (.func 133) [(.q ids 1 g1)] [])),(6,(.sl 1 (List.map (rI .u8) (r1.toList.take 128))))] hI J (.keep (.keep (.drop .nil))) (.s (.s (.s (.cons (Aoc (E:=(fun x:Int=>(AV.int .u8 x))) (fun _=>J) (fun _=>J) (hI.at J J) (hI.at J J) (by decide)) .nil))))<|Ct [(2,(.q ids 0 g)),(3,(.q ids 1 g1)),(4,(.func (.func 133) [(.q ids 1 g1)] [])),(6,(.sl 1 (List.map (rI .u8) (r1.toList.take 128))))] (FI J)<|Jz (P:=Tryz.prog) (D0 fun vend o2=>Iw vend o2) ((fun o3=>Lf o3):(Vector Int 8)→R (Vector Int 32)) (D0 fun vend o2=>fun fr h=>fr=Ap [(2,(.q ids 0 g)),(3,(.q ids 1 g1)),(4,(.func (.func 133) [(.q ids 1 g1)] [])),(6,(.sl 1 (List.map (rI .u8) vend)))]∧h=hp h0 ids [(Ao g 32 [(rU (B3 32 0))]),(Ao g1 8 [((rV (rI .u32)) o2)]),none]) ((r1.toList.take 128),o1) ?_ ?_
   ·exact⟨J,J⟩
   rintro vW1 hW1 ⟨vend,o2⟩ fr h ⟨rfl,rfl⟩
   refine Ah (m':=Iw vend o2) J (Ah (Iw.eq_1 _ _) ?_)
   refine Ad<|Y<|Au (.sl 1 (List.map (rI .u8) vend))<|Ac (.I (vend.length:Int)) J (A5 (Be Dm))<|Ac (.B (decide ((vend.length:Int) > 0))) J (Ak J J J)<|O<|D9 J (fun hc2=>?_) (fun hc2=>?_)
   ·refine Aq<|Ad<|Aw<|At<|Aa 2 [] [(50,(.sl 1 (List.map (rI .u8) vend))),(49,(.func (.func 133) [(.q ids 1 g1)] []))]<|Cu fun hs2=>Ac (.sl 1 (List.map (rI .u8) (vend.take (Int.toNat 64)))) J (Cz (S9 Dm Em J hs2))<|Fm [1] hI J J (Qb (vend.take (Int.toNat 64)) o2 _ (ix ids 1) g1 (by exact hI.sub' J J)) J J J J J J (fun v _=>Ax func112 hI) ?_
    rintro r2 _ _ _ ⟨rfl,rfl⟩
    refine Jv [1] hI J J J ?_
    refine Gf<|O<|A2 ?_
    refine A8<|At<|Au (.sl 1 (List.map (rI .u8) vend))<|Cu fun hs3=>Ac (.sl 1 (List.map (rI .u8) (vend.drop (Int.toNat 64)))) J (Cz (Qn Dm Em J hs3))<|Aj (.sl 1 (List.map (rI .u8) (vend.drop (Int.toNat 64))))<|O<|Bh (Hy (hW1 ((vend.drop (Int.toNat 64)),r2) _ _ ⟨J,J⟩))
   refine Bw J<|Ig<|Bh (hJ o2 _ _ ⟨J,J⟩)
  refine Aq<|Y<|Aa 2 [] [(35,(.refc (ix ids 2) g2 0 0 64 128)),(34,(.refc (ix ids 2) g2 0 0 64 128))]<|Ac (.I 64) J (A5 (W2 Dm))<|Ac (.I 56) J (Ak J J J)<|Ac (.refc (ix ids 2) g2 0 56 8 72) J (Cz (Ajb (a:=56) (b:=64) Dm Em J Ajm (Ajp (by decide)) (by decide) (.inr (by decide))))<|Au (.sl 1 (List.map (rI .u8) b))<|Ac (.I (b.length:Int)) J (A5 (Be Dm))<|Ac (.int .u64 (IntKind.wrap .u64 (b.length:Int))) J (Fa (Gy Bf Mk))<|Ac (.int .u64 (IntKind.wrap .u64 ((IntKind.wrap .u64 (b.length:Int)) * 8))) J (Ak J J J)<|Fm [2] hI J J (Adj 56 72 (IntKind.wrap .u64 ((IntKind.wrap .u64 (b.length:Int)) * 8)) (Ic (Se (B3 128 (0:Int)) 0 rest1) (Int.toNat (rest1.length:Int)) 128) _ (ix ids 2) g2 (by decide) (by exact hI.sub' J J)) J J J J J J (fun v _=>Ax func112 hI) ?_
  rintro r4 _ _ _ ⟨rfl,rfl⟩
  refine Jv [2] hI J J J ?_
  refine Gf<|O<|A2 ?_
  refine Ad<|Ec (fun o6=>O7 o6) (fun o6=>fun fr h=>fr=Ap [(2,(.q ids 0 g)),(3,(.q ids 1 g1))]∧h=hp h0 ids [(Ao g 32 [(rU (B3 32 0))]),(Ao g1 8 [((rV (rI .u32)) o6)]),none]) ?_ fun hJ1=>?_
  ·rintro o6 fr h ⟨rfl,rfl⟩
   refine Ah (O7.eq_1 _)<|Ad<|Y<|Aa 2 [1] [(54,(.I 0)),(53,(.A ((rV (rI .u32)) o6)))]<|O<|Aw<|Cf [(Ao g 32 [(rU (B3 32 0))]),none,none] hI J (.keep (.drop (.keep .nil)))<|Ct [(2,(.q ids 0 g)),(53,(.A ((rV (rI .u32)) o6))),(54,(.I 0))] (FI J)<|Dy (P:=Tryz.prog) (List.range 8) (fun j1 _=>fun o7=>T9 o6 j1 o7) (((fun o7=>.ok o7)):(Vector Int 32)→R (Vector Int 32)) (fun j1=>fun o7=>fun fr h=>fr=Ap [(2,(.q ids 0 g)),(53,(.A ((rV (rI .u32)) o6))),(54,(.I j1))]∧h=hp h0 ids [(Ao g 32 [(rU o7)]),none,none]) (B3 32 0) ?_ ?_ ?_
   ·exact⟨J,J⟩
   ·rintro j1 a1 ha1 W hW4 o7 fr h ⟨rfl,rfl⟩
    refine Ah (m':=T9 o6 j1 o7) J (Ah (T9.eq_1 _ _ _) ?_)
    refine Y<|Ac (.B (decide ((j1:Int)<8))) J (Ak J J J)<|O<|Ad<|Ch J (by have:=(C0 ha1).1; omega)<|Aq<|Ad<|Aw<|Y<|Au (.I j1)<|Ac (.int .u32 (A4 o6 j1 0)) J (Ali (Aom (e:=(rI .u32)) (E:=(fun x:Int=>(AV.int .u32 x))) (fun _=>J) F8 B2 J J ((C0 ha1).1) 0))<|Aa 2 [] [(8,(.int .u32 (A4 o6 j1 0))),(7,(.I j1))]<|O<|At<|Aa 5 [] [(62,(.I (wi ((wi (4 * (j1:Int)))+4)))),(59,(.I (wi (4 * (j1:Int)))))]<|Cu fun hi2=>Ac (.refc (ix ids 0) g 0 (Int.toNat (wi (4 * (j1:Int)))) 4 (32 - (Int.toNat (wi (4 * (j1:Int)))))) J (Cz (Ao7 (k:=4) hI J J Bo Em J hi2.1 hi2.2)) ?_
    refine Au (.int .u32 (A4 o6 j1 0))<|Ac (.int .u64 (IntKind.wrap .u64 (A4 o6 j1 0))) J (Fa (Gy B2 Mk))<|Fm [0] hI J J (Aap (Int.toNat (wi (4 * (j1:Int)))) (32 - (Int.toNat (wi (4 * (j1:Int))))) (IntKind.wrap .u64 (A4 o6 j1 0)) o7 _ (ix ids 0) g (Ask hi2.2) (by exact hI.sub' J J)) J J J J J J (fun v _=>Ax func112 hI) ?_
    rintro r6 _ _ _ ⟨rfl,rfl⟩
    refine Jv [0] hI J J J ?_
    refine Gf<|O<|A2 ?_
    refine A8<|At<|Aa 2 [] [(54,(.I (wi ((j1:Int)+1))))]<|O<|Bh (Hm (hW4 r6 _ _ ⟨J,J⟩)) (.r2 (.cons (Jb (C0 ha1).1 (by decide)) .nil))
   rintro o7 fr h ⟨rfl,rfl⟩
   refine Y<|Ac (.B (decide (((List.range 8).length:Int)<8))) J (Ak J J J)<|O<|Ad<|Ci J (by simp)<|Bw J<|Y<|Aa 1 [0] [(68,(.A (rU o7)))]<|A3 (Fe (v:=(.A (rU o7))) hI J J J Bo J J J (((Dr (fun x=>Cb x) J) _).1) J)<|O<|A0 func112 hI (Cd (An hI J J J Bo J) Co) (.same _)
  refine Aw<|Y4 [(Ao g 32 [(rU (B3 32 0))]),(Ao g1 8 [((rV (rI .u32)) o1)]),none] [(2,(.q ids 0 g)),(3,(.q ids 1 g1)),(4,(.func (.func 133) [(.q ids 1 g1)] [])),(6,(.sl 1 (List.map (rI .u8) (r4.toList.take 64))))] hI J (.keep (.keep (.drop .nil))) (.s (.s (.s (.cons (Aoc (E:=(fun x:Int=>(AV.int .u8 x))) (fun _=>J) (fun _=>J) (hI.at J J) (hI.at J J) (by decide)) .nil))))<|Ct [(2,(.q ids 0 g)),(3,(.q ids 1 g1)),(4,(.func (.func 133) [(.q ids 1 g1)] [])),(6,(.sl 1 (List.map (rI .u8) (r4.toList.take 64))))] (FI J)<|Jz (P:=Tryz.prog) (D0 fun vend1 o5=>Ng vend1 o5) ((fun o6=>O7 o6):(Vector Int 8)→R (Vector Int 32)) (D0 fun vend1 o5=>fun fr h=>fr=Ap [(2,(.q ids 0 g)),(3,(.q ids 1 g1)),(4,(.func (.func 133) [(.q ids 1 g1)] [])),(6,(.sl 1 (List.map (rI .u8) vend1)))]∧h=hp h0 ids [(Ao g 32 [(rU (B3 32 0))]),(Ao g1 8 [((rV (rI .u32)) o5)]),none]) ((r4.toList.take 64),o1) ?_ ?_
  ·exact⟨J,J⟩
  rintro vW3 hW3 ⟨vend1,o5⟩ fr h ⟨rfl,rfl⟩
  refine Ah (m':=Ng vend1 o5) J (Ah (Ng.eq_1 _ _) ?_)
  refine Ad<|Y<|Au (.sl 1 (List.map (rI .u8) vend1))<|Ac (.I (vend1.length:Int)) J (A5 (Be Dm))<|Ac (.B (decide ((vend1.length:Int) > 0))) J (Ak J J J)<|O<|D9 J (fun hc3=>?_) (fun hc3=>?_)
  ·refine Aq<|Ad<|Aw<|At<|Aa 2 [] [(50,(.sl 1 (List.map (rI .u8) vend1))),(49,(.func (.func 133) [(.q ids 1 g1)] []))]<|Cu fun hs4=>Ac (.sl 1 (List.map (rI .u8) (vend1.take (Int.toNat 64)))) J (Cz (S9 Dm Em J hs4))<|Fm [1] hI J J (Qb (vend1.take (Int.toNat 64)) o5 _ (ix ids 1) g1 (by exact hI.sub' J J)) J J J J J J (fun v _=>Ax func112 hI) ?_
   rintro r5 _ _ _ ⟨rfl,rfl⟩
   refine Jv [1] hI J J J ?_
   refine Gf<|O<|A2 ?_
   refine A8<|At<|Au (.sl 1 (List.map (rI .u8) vend1))<|Cu fun hs5=>Ac (.sl 1 (List.map (rI .u8) (vend1.drop (Int.toNat 64)))) J (Cz (Qn Dm Em J hs5))<|Aj (.sl 1 (List.map (rI .u8) (vend1.drop (Int.toNat 64))))<|O<|Bh (Hy (hW3 ((vend1.drop (Int.toNat 64)),r5) _ _ ⟨J,J⟩))
  refine Bw J<|Ig<|Bh (hJ1 o5 _ _ ⟨J,J⟩)
 refine Aw<|Ct [(0,(.sl 1 (List.map (rI .u8) b))),(2,(.q ids 0 g)),(3,(.q ids 1 g1)),(4,(.func (.func 133) [(.q ids 1 g1)] [])),(5,(.sl 1 (List.map (rI .u8) b)))] (FI J)<|Jz (P:=Tryz.prog) (D0 fun rest o=>Lg rest o) ((D0 fun rest1 o1=>Ld b rest1 o1):((List Int)×(Vector Int 8))→R (Vector Int 32)) (D0 fun rest o=>fun fr h=>fr=Ap [(0,(.sl 1 (List.map (rI .u8) b))),(2,(.q ids 0 g)),(3,(.q ids 1 g1)),(4,(.func (.func 133) [(.q ids 1 g1)] [])),(5,(.sl 1 (List.map (rI .u8) rest)))]∧h=hp h0 ids [(Ao g 32 [(rU (B3 32 0))]),(Ao g1 8 [((rV (rI .u32)) o)]),none]) (b,Ace) ?_ ?_
 ·exact⟨J,J⟩
 rintro vW hW ⟨rest,o⟩ fr h ⟨rfl,rfl⟩
 refine Ah (m':=Lg rest o) J (Ah (Lg.eq_1 _ _) ?_)
 refine Ad<|Y<|Au (.sl 1 (List.map (rI .u8) rest))<|Ac (.I (rest.length:Int)) J (A5 (Be Dm))<|Ac (.B (decide ((rest.length:Int)≥64))) J (Ak J J J)<|O<|D9 J (fun hc=>?_) (fun hc=>?_)
 ·refine Aq<|Ad<|Aw<|At<|Aa 2 [] [(18,(.sl 1 (List.map (rI .u8) rest))),(17,(.func (.func 133) [(.q ids 1 g1)] []))]<|Cu fun hs=>Ac (.sl 1 (List.map (rI .u8) (rest.take (Int.toNat 64)))) J (Cz (S9 Dm Em J hs))<|Fm [1] hI J J (Qb (rest.take (Int.toNat 64)) o _ (ix ids 1) g1 (by exact hI.sub' J J)) J J J J J J (fun v _=>Ax func112 hI) ?_
  rintro r _ _ _ ⟨rfl,rfl⟩
  refine Jv [1] hI J J J ?_
  refine Gf<|O<|A2 ?_
  refine A8<|At<|Au (.sl 1 (List.map (rI .u8) rest))<|Cu fun hs1=>Ac (.sl 1 (List.map (rI .u8) (rest.drop (Int.toNat 64)))) J (Cz (Qn Dm Em J hs1))<|Aj (.sl 1 (List.map (rI .u8) (rest.drop (Int.toNat 64))))<|O<|Bh (Hy (hW ((rest.drop (Int.toNat 64)),r) _ _ ⟨J,J⟩))
 refine Bw J<|Ig<|Bh (hJ2 (rest,o) _ _ ⟨J,J⟩)
theorem Aby (n:Int)(h0:Ab)(o0:Nat)(hI0:Ids h0 [o0] 1):Ij n≠.bad→B0 Tryz.prog 135 [.emp,(.int .i64 n)] (hp h0 [o0] [none]) (E8 (fun a_ v h' => ∃ (v3:AV),∃ (g1:Nat),Cj v3 o0 g1 a_.length∧v3=v∧h'=hp h0 [o0] [Bq v3 g1 1 (List.map (rI .u8) a_)]) h0 (Ij n)):=by
 refine Fr (n:=27) 0 func135 J (by decide) J J hI0 J fun ids he hI=>?_
 clear hI0
 obtain rfl:ix ids 0=o0:=he 0 rfl
 clear he
 refine Bp (Ah (Ij.eq_1 _) ?_)
 refine Y<|Aj .emp<|O<|Ad<|Y<|Aa 2 [] [(6,(.B (decide (n<0))))]<|O<|D9 J (fun hc=>?_) (fun hc=>?_)
 ·refine At<|Ac (.iface 9 (.str [99,97,110,110,111,116,32,98,101,32,110,101,103,97,116,105,118,101])) J (Z1 Q8 (by decide))<|Zp (v:=⟨9,.str [99,97,110,110,111,116,32,98,101,32,110,101,103,97,116,105,118,101]⟩) J J (F4 (K:=1) (N:=0) func135 hI)
 refine Aq<|Ad<|Y<|Aa 2 [] [(9,.emp),(8,(.I n))]<|Ac (.I 0) J (Air (Afp Dm))<|Au .emp<|Ac (.I 0) J (A5 (Aft Dm))<|Aa 3 [] [(1,(.I (wi (n - 0))))]<|O<|Y<|Aa 2 [] [(16,(.B (decide ((wi (n - 0)) > 0))))]<|O<|D9 J (fun hc1=>?_) (fun hc1=>?_)
 ·refine At<|Aa 2 [] [(18,.emp),(17,.emp)]<|Ac (.I 0) J (Air (Afp Dm))<|Ac .emp J (Cz (Ao0 Dm Em))<|Au (.I (wi (n - 0)))<|Cu fun hl=>Ahw (e:=(rI .u8)) (y:=0) (i:=(wi (n - 0))) (st:=1) (j:=0) hI J J J J J J Dm Bf Em J J J J J hl fun v1 g vH=>Au .emp<|Ac (.I 0) J (A5 (Aft Dm))<|Cu fun hs=>Ah1 (e:=(rI .u8)) (L:=(List.replicate (Int.toNat (wi (n - 0))) (0:Int))) (j:=0) J hI J J J vH J J Dm Em J hs fun v2 vH1=>Aj v2<|O<|A2 ?_
  refine Y<|Aa 2 [] [(4,v2)]<|O<|Hx (K:=1) (N:=0) [Bq v2 g 1 (List.map (rI .u8) ((List.replicate (Int.toNat (wi (n - 0))) (0:Int)).take (Int.toNat 0)))] func135 hI J J J (.keep .nil) (.same _) ⟨v2,g,vH1,J,J⟩
 refine Aq<|Y<|Aa 2 [] [(4,.emp)]<|O<|Hx (K:=1) (N:=0) [Bq .emp 0 1 (List.map (rI .u8) [])] func135 hI J J J (.drop .nil) (.same _) ⟨.emp,0,.nil,J,J⟩
theorem Aay (slices:(List (List Int))):CPO Tryz.prog 113 [(.sl 1 (List.map (rL 1 (rI .u8)) slices))] (Gl slices) 1 (rI .u8):=by
 refine P0 (n:=36) 0 func113 J (by decide) J J fun h0 ids hI=>Bp (Ah (Gl.eq_1 _) ?_)
 refine Y<|Aj .emp<|O<|Y<|Aj (.I 0)<|O<|Ad<|Y<|Au (.sl 1 (List.map (rL 1 (rI .u8)) slices))<|Ac (.I (slices.length:Int)) J (A5 (Be Afj))<|Au (.I 0)<|O<|Aw<|Ct [(0,(.sl 1 (List.map (rL 1 (rI .u8)) slices))),(3,(.I 0)),(9,(.sl 1 (List.map (rL 1 (rI .u8)) slices))),(10,(.I (slices.length:Int))),(11,(.I 0))] (FI J)<|Dy (P:=Tryz.prog) slices (fun _ a=>fun size=>If a size) (((fun size=>(Ij size).bind fun newslice=>(eachS (fun _ a1=>fun newslice1=>Ie a1 newslice1) 0 slices newslice).bind ((fun newslice1=>.ok newslice1)))):Int→R (List Int)) (fun j=>fun size=>fun fr h=>fr=Ap [(0,(.sl 1 (List.map (rL 1 (rI .u8)) slices))),(3,(.I size)),(9,(.sl 1 (List.map (rL 1 (rI .u8)) slices))),(10,(.I (slices.length:Int))),(11,(.I j))]∧h=hp h0 ids [none]) 0 ?_ ?_ ?_
 ·exact⟨J,J⟩
 ·rintro j a ha W hW size fr h ⟨rfl,rfl⟩
  refine Ah (m':=If a size) J (Ah (If.eq_1 _ _) ?_)
  refine Y<|Ac (.B (decide ((j:Int)<(slices.length:Int)))) J (Ak J J J)<|O<|Ad<|Di (t:=0) (L:=slices) J fun hlim=>Ch J (Int.ofNat_lt.2 (A6 ha))<|Aq<|Ad<|Aw<|Y<|Ac (.cp [(.sl 1 (List.map (rI .u8) a))] 0) J (Az (C9 Afj Dm J ha))<|Aa 2 [] [(5,(.sl 1 (List.map (rI .u8) a)))]<|O<|Y<|Aa 2 [] [(16,(.sl 1 (List.map (rI .u8) a))),(15,(.I size))]<|Ac (.I (a.length:Int)) J (A5 (Be Dm))<|Aa 2 [] [(3,(.I (wi (size+(a.length:Int)))))]<|O ?_
  refine Y<|Aa 2 [] [(20,(.B (decide ((wi (size+(a.length:Int)))<0))))]<|O<|D9 J (fun hc=>?_) (fun hc=>?_)
  ·refine At<|Ac (.iface 9 (.str [108,101,110,32,111,117,116,32,111,102,32,114,97,110,103,101])) J (Z1 Q8 (by decide))<|Zp (v:=⟨9,.str [108,101,110,32,111,117,116,32,111,102,32,114,97,110,103,101]⟩) J J (Za func113 hI)
  refine Aq<|A8<|At<|Aa 2 [] [(11,(.I (wi ((j:Int)+1))))]<|O<|Bh (Hm (hW (wi (size+(a.length:Int))) _ _ ⟨J,J⟩)) (.r4 (.o (ic ha hlim)))
 rintro size fr h ⟨rfl,rfl⟩
 refine Y<|Ac (.B (decide ((slices.length:Int)<(slices.length:Int)))) J (Ak J J J)<|O<|Ad<|Ci J (Int.lt_irrefl _)<|Bw J<|Y<|Au (.I size)<|Fm [0] hI J J (Aby size _ (ix ids 0) (by exact hI.sub' J J)) J J J J J J (fun v _=>Za func113 hI) ?_
 rintro newslice _ _ _ ⟨v,g,vH,rfl,rfl⟩
 refine Jv [0] hI J J J ?_
 refine Gf<|Aj v<|O<|A2 ?_
 refine Ad<|Y<|Au (.sl 1 (List.map (rL 1 (rI .u8)) slices))<|Ac (.I (slices.length:Int)) J (A5 (Be Afj))<|Au (.I 0)<|O<|Aw<|Ct [(6,v),(25,(.sl 1 (List.map (rL 1 (rI .u8)) slices))),(26,(.I (slices.length:Int))),(27,(.I 0))] (FI J)<|Dy (P:=Tryz.prog) slices (fun _ a1=>fun newslice1=>Ie a1 newslice1) (((fun newslice1=>.ok newslice1)):(List Int)→R (List Int)) (fun j1=>fun newslice1=>fun fr h => ∃ (v1:AV),∃ (g1:Nat),Cj v1 (ix ids 0) g1 newslice1.length∧fr=Ap [(6,v1),(25,(.sl 1 (List.map (rL 1 (rI .u8)) slices))),(26,(.I (slices.length:Int))),(27,(.I j1))]∧h=hp h0 ids [(Bq v1 g1 1 (List.map (rI .u8) newslice1))]) newslice ?_ ?_ ?_
 ·exact⟨v,g,vH,J,J⟩
 ·rintro j1 a1 ha1 W hW1 newslice1 fr h ⟨v1,g1,vH1,rfl,rfl⟩
  refine Ah (m':=Ie a1 newslice1) J (Ah (Ie.eq_1 _ _) ?_)
  refine Y<|Ac (.B (decide ((j1:Int)<(slices.length:Int)))) J (Ak J J J)<|O<|Ad<|Di (t:=25) (L:=slices) J fun hlim1=>Ch J (Int.ofNat_lt.2 (A6 ha1))<|Aq<|Ad<|Aw<|Y<|Ac (.cp [(.sl 1 (List.map (rI .u8) a1))] 0) J (Az (C9 Afj Dm J ha1))<|Aa 2 [] [(8,(.sl 1 (List.map (rI .u8) a1)))]<|O<|At<|Aa 2 [] [(32,(.sl 1 (List.map (rI .u8) a1))),(31,v1)]<|Cu fun hl=>Fu (e:=(rI .u8)) (L:=newslice1) (L2:=a1) (v:=v1) (g:=g1) (st:=1) (j:=0) hI J J J J vH1 J (Fo J) Dm Dm J Em J J J hl fun v2 g2 vH2=>Aj v2<|O ?_
  refine A2 ?_
  refine A8<|At<|Aa 2 [] [(27,(.I (wi ((j1:Int)+1))))]<|O<|Bh (Hm (hW1 (newslice1++a1) _ _ ⟨v2,g2,vH2,J,J⟩)) (.r2 (.r (.cons (Jb (A6 ha1) hlim1) .nil)))
 rintro newslice1 fr h ⟨v1,g1,vH1,rfl,rfl⟩
 refine Y<|Ac (.B (decide ((slices.length:Int)<(slices.length:Int)))) J (Ak J J J)<|O<|Ad<|Ci J (Int.lt_irrefl _)<|Bw J<|Y<|Aa 2 [] [(2,v1)]<|O<|Pa (a:=newslice1) (v:=v1) (g:=g1) func113 hI J J vH1 J
theorem U9 (slices:(List (List Int))):CP Tryz.prog 113 [(.sl 1 (List.map (rL 1 (rI .u8)) slices))] (Gl slices) (fun(x:List Int)=>(AV.sl 1 (List.map (rI .u8) x))):=(Aay slices).cp (fun x=>Cb x)
theorem Rf (tag:To)(b:List Int):CP Tryz.prog 81 [(.str tag),(.sl 1 (List.map (rI .u8) b))] (Hp tag b) (fun(x:(Vector Int 32))=>(AV.agg ((rV (rI .u8)) x))):=by
 refine Bl (n:=14) 2 func81 J (by decide) J J fun h0 ids hI=>Bp (Ah (Hp.eq_1 _ _) ?_)
 refine Y<|F3 (j:=0) (row:=(rU (B3 32 0))) hI J J J J Bo (Js (n:=32) (e:=(rI .u8)) (E:=(fun x:Int=>(AV.int .u8 x))) (fun _=>J) _).symm ((Dr (fun x=>Cb x) J) _) fun g=>O<|A2 ?_
 refine Y<|Au (.str tag)<|Cu fun hl=>Axl J Q8 Dm Em J J hl<|Ba _ J J J J ((Adg (Nm tag)) _) (fun v _=>Ax func81 hI) fun r _=>F3 (j:=1) (row:=(rU (B3 32 0))) hI J J J J Bo (Js (n:=32) (e:=(rI .u8)) (E:=(fun x:Int=>(AV.int .u8 x))) (fun _=>J) _).symm ((Dr (fun x=>Cb x) J) _) fun g1=>A3 (Fe (v:=(.A (rU r))) hI J J J Bo J J J (((Dr (fun x=>Cb x) J) _).1) J)<|O<|A2 ?_
 refine Y<|Aua [(Ao g 32 [(rU (B3 32 0))]),none] [(1,(.sl 1 (List.map (rI .u8) b))),(4,(.q ids 0 g)),(5,(.cp (rU r) 0))] hI J (.keep (.drop .nil)) (.s (.s (.cons (.ptrL (hI.at J J) (hI.at J J) ((Dr (fun x=>Cb x) J) _).1 (Q3 _)) .nil)))<|Ac (.sl 1 (List.map (rI .u8) r.toList)) J (Cz (Afm (E:=(fun x:Int=>(AV.int .u8 x))) (fun _=>J) (fun _=>J) Bo Em J)) ?_
 refine Au (.sl 1 (List.map (rI .u8) b))<|Ft (e:=(rL 1 (rI .u8))) (L:=[r.toList,b]) (st:=1) (rows:=[[(.sl 1 (List.map (rI .u8) r.toList))],[(.sl 1 (List.map (rI .u8) b))]]) J Afj Dm J J J J J (.cons (RowSim.refl _) (.cons (RowSim.refl _) .nil)) (fun x=>Ajv x) J J<|Ba _ J J J J ((U9 [r.toList,b]) _) (fun v _=>Ax func81 hI) fun r1 _=>Ba _ J J J J ((Adg r1) _) (fun v _=>Ax func81 hI) fun r2 _=>A3 (Fe (v:=(.A (rU r2))) hI J J J Bo J J J (((Dr (fun x=>Cb x) J) _).1) J)<|O<|A2 ?_
 exact A0 func81 hI (Cd (An hI J J J Bo J) Co) (.same _)
theorem Xx (salt:(Vector Int 32))(l:List Int):CP Tryz.prog 61 [(.agg ((rV (rI .u8)) salt)),(.sl 1 (List.map (rI .i64) l))] (Fx salt l) (fun(x:(Vector Int 32))=>(AV.agg ((rV (rI .u8)) x))):=by
 refine Bl (n:=34) 5 func61 J (by decide) J J fun h0 ids hI=>Bp (Ah (Fx.eq_1 _ _) ?_)
 refine Y<|B5 (v:=(.A (rU salt))) (j:=0) hI J J J J J J J fun g=>F3 (j:=1) (row:=(rU (B3 32 0))) hI J J J J Bo (Js (n:=32) (e:=(rI .u8)) (E:=(fun x:Int=>(AV.int .u8 x))) (fun _=>J) _).symm ((Dr (fun x=>Cb x) J) _) fun g1=>O<|A2 ?_
 refine Y<|Ac (.A [(.I 3),(.I 0),(.str []),.emp]) J (Kz (Xm D5 Aw6 J))<|Cl (j:=2) hI J J J J D5 J fun g2=>A3 (Bt (v:=(.A [(.I 3),(.I 0),(.str []),.emp])) hI J J J J D5 J J J J J)<|O<|A2 ?_
 refine Ad<|Y<|Au (.K l)<|Ac (.I (l.length:Int)) J (A5 (Be A7))<|Au (.I 0)<|O<|Aw<|Ct [(2,(.q ids 0 g)),(4,(.q ids 1 g1)),(5,(.q ids 2 g2)),(11,(.K l)),(12,(.I (l.length:Int))),(13,(.I 0))] (FI J)<|Dy (P:=Tryz.prog) l (fun _ a=>fun l1=>Hb a l1) (((fun l1=>(Mv ({ Kind:=3,N:=0,S:=[],L:=l1 }:Value)).bind fun r=>if r.1.length≠0∧(32+r.1.length) * 1≤Cm then(Hp [99,111,115,116] (salt.toList++r.1)).bind fun r1=>.ok r1 else .bad)):(List Value)→R (Vector Int 32)) (fun j=>fun l1=>fun fr h => ∃ (v:AV),∃ (g3:Nat),Cj v (ix ids 3) g3 l1.length∧fr=Ap [(2,(.q ids 0 g)),(4,(.q ids 1 g1)),(5,(.q ids 2 g2)),(11,(.K l)),(12,(.I (l.length:Int))),(13,(.I j))]∧h=hp h0 ids [(Ao g 32 [(rU salt)]),(Ao g1 32 [(rU (B3 32 0))]),(Ao g2 4 [[(.I 3),(.I 0),(.str []),v]]),(Bq v g3 4 (List.map rValueA l1)),none]) [] ?_ ?_ ?_
 ·exact⟨.emp,0,.nil,J,J⟩
 ·rintro j a ha W hW l1 fr h ⟨v,g3,vH,rfl,rfl⟩
  refine Ah (m':=Hb a l1) J (Ah (Hb.eq_1 _ _) ?_)
  refine Y<|Ac (.B (decide ((j:Int)<(l.length:Int)))) J (Ak J J J)<|O<|Ad<|Di (t:=11) (L:=l) J fun hlim=>Ch J (Int.ofNat_lt.2 (A6 ha))<|Aq<|Ad<|Aw<|Y<|Ac (.cp [(.I a)] 0) J (Az (C9 A7 Bf J ha))<|Aa 2 [] [(7,(.I a))]<|O<|At<|Aa 4 [2] [(20,(.A [(.I 1),(.I a),(.str []),.emp])),(18,v)]<|Ft (e:=rValueA) (L:=[({ Kind:=1,N:=a,S:=[],L:=[] }:Value)]) (st:=4) (rows:=[[(.I 1),(.I a),(.str []),.emp]]) J Hl D5 J J J J J (.cons (Avl (.s (.s (.s (.cons (.emp _) .nil))))) .nil) (fun x=>Aly x) J J<|Cu fun hl=>Fu (e:=rValueA) (L:=l1) (L2:=[({ Kind:=1,N:=a,S:=[],L:=[] }:Value)]) (v:=v) (g:=g3) (st:=4) (j:=3) hI J J J J vH J (Fo J) Hl Hl J D5 J J J hl fun v1 g4 vH1=>Ac (.ptr (ix ids 2) g2 0 3) J (Bn (B8 0 3 3 D5 J Hl J)) ?_
  refine A3 (Zb vH1 hI J J J J Hl J J J)<|O<|A2 ?_
  refine A8<|At<|Aa 2 [] [(13,(.I (wi ((j:Int)+1))))]<|O<|Bh (Hm (hW (l1++[({ Kind:=1,N:=a,S:=[],L:=[] }:Value)]) _ _ ⟨v1,g4,vH1,J,J⟩)) (.r4 (.r (.o (ic ha hlim))))
 rintro l1 fr h ⟨v,g3,vH,rfl,rfl⟩
 refine Y<|Ac (.B (decide ((l.length:Int)<(l.length:Int)))) J (Ak J J J)<|O<|Ad<|Ci J (Int.lt_irrefl _)<|Bw J<|Y<|Aa 1 [2] [(26,(.A [(.I 3),(.I 0),(.str []),v]))]<|Aec (h2:=hp h0 ids [(Ao g 32 [(rU salt)]),(Ao g1 32 [(rU (B3 32 0))]),none,none,none]) [(2,(.q ids 0 g)),(4,(.q ids 1 g1)),(26,(.A (Cw ({ Kind:=3,N:=0,S:=[],L:=l1 }:Value))))] (Drops.sub (.keep (.keep (.drop (.drop (.keep .nil))))) hI.len) (.s (.s (.cons (.aggL (.s (.s (.s (.cons (I9 vH (hI.at J J) (hI.at J J) (fun x=>Aly x)) .nil))))) .nil))) J J<|Ba _ J J J J ((Aiw ({ Kind:=3,N:=0,S:=[],L:=l1 }:Value)) _) (fun v _=>Ax func61 hI) fun r _=>Aa 5 [] [(8,(.sl 1 (List.map (rI .u8) r.1)))]<|O<|A2 ?_
 refine Y<|Ac (.refc (ix ids 0) g 0 0 32 32) J (Cz (Aj1 (a:=0) (b:=32) hI J J Bo Em J J J)) ?_
 refine Au (.sl 1 (List.map (rI .u8) r.1))<|Cu fun hl1=>Apk (e:=(rI .u8)) (E1:=(fun x:Int=>(AV.int .u8 x))) (v:=salt) (L2:=r.1) (j2:=4) (fun _=>J) hI J J J J J J (Fo J) Dm Dm J Em J J hl1 fun v2 g5 vH2=>Aec (h2:=hp h0 ids [(Ao g 32 [(rU salt)]),(Ao g1 32 [(rU (B3 32 0))]),none,none,none]) [(4,(.q ids 1 g1)),(32,(.sl 1 (List.map (rI .u8) (salt.toList++r.1))))] (Drops.sub (.keep (.keep (.keep (.keep (.drop .nil))))) hI.len) (.s (.cons (I9 vH2 (hI.at J J) (hI.at J J) (fun x=>Cb x)) .nil)) J J<|Ba _ J J J J ((Rf [99,111,115,116] (salt.toList++r.1)) _) (fun v _=>Ax func61 hI) fun r1 _=>A3 (Fe (v:=(.A (rU r1))) hI J J J Bo J J J (((Dr (fun x=>Cb x) J) _).1) J)<|O<|A2 ?_
 exact A0 func61 hI (Cd (An hI J J J Bo J) Co) (.same _)
theorem Ad4 (a:Int):CP Tryz.prog 137 [(.int .u64 a)] (V0 a) (fun(x:Int)=>(AV.int .i64 x)):=by
 refine Bl (n:=25) 0 func137 J (by decide) J J fun h0 ids hI=>Bp (Ah (V0.eq_1 _) ?_)
 refine Y<|Aj (.I 0)<|O<|Ad<|Y<|Aa 2 [] [(4,(.B (decide (a≥4294967296))))]<|O<|Ec (D0 fun x n=>Ps x n) (D0 fun x n=>fun fr h=>fr=Ap [(0,(.int .u64 x)),(2,(.I n))]∧h=hp h0 ids []) ?_ fun hJ1=>?_
 ·rintro⟨x,n⟩ fr h ⟨rfl,rfl⟩
  refine Ah (Ps.eq_1 _ _)<|Ad<|Y<|Aa 2 [] [(8,(.B (decide (x≥65536))))]<|O<|Ec (D0 fun x1 n1=>Pi x1 n1) (D0 fun x1 n1=>fun fr h=>fr=Ap [(0,(.int .u64 x1)),(2,(.I n1))]∧h=hp h0 ids []) ?_ fun hJ=>?_
  ·rintro⟨x1,n1⟩ fr h ⟨rfl,rfl⟩
   refine Ah (Pi.eq_1 _ _)<|Ad<|Y<|Aa 2 [] [(14,(.B (decide (x1≥256))))]<|O<|D9 J (fun hc2=>?_) (fun hc2=>?_)
   ·refine Y<|Au (.int .u64 x1)<|Ac (.int .u64 (Int.fdiv x1 256)) J (Ak J J (K9 (by decide) (by decide)))<|Aj (.int .u64 (Int.fdiv x1 256))<|O<|At<|Aa 3 [] [(2,(.I (wi (n1+8))))]<|O<|Y<|Aa 2 [] [(20,(.int .u64 (Int.fdiv x1 256))),(19,(.I (wi (n1+8))))]<|Ac (.int .u8 (IntKind.wrap .u8 (Int.fdiv x1 256))) J (Fa (Gy Mk Em))<|Lw fun a1 hz hx1=>Ac (.int .u8 (a1.toNat:Int)) J (Ali (Arr Q8 hz hx1))<|Ac (.I (wi (a1.toNat:Int))) J (Fa (Gy Em Bf))<|Aa 2 [] [(2,(.I (wi ((wi (n1+8))+(wi (a1.toNat:Int))))))]<|O<|A0 func137 hI J (.same _)
   refine Aq<|Y<|Aa 2 [] [(20,(.int .u64 x1)),(19,(.I n1))]<|Ac (.int .u8 (IntKind.wrap .u8 x1)) J (Fa (Gy Mk Em))<|Lw fun a2 hz1 hx2=>Ac (.int .u8 (a2.toNat:Int)) J (Ali (Arr Q8 hz1 hx2))<|Ac (.I (wi (a2.toNat:Int))) J (Fa (Gy Em Bf))<|Aa 2 [] [(2,(.I (wi (n1+(wi (a2.toNat:Int))))))]<|O<|A0 func137 hI J (.same _)
  refine D9 J (fun hc1=>?_) (fun hc1=>?_)
  ·refine Y<|Au (.int .u64 x)<|Ac (.int .u64 (Int.fdiv x 65536)) J (Ak J J (K9 (by decide) (by decide)))<|Aj (.int .u64 (Int.fdiv x 65536))<|O<|At<|Aa 3 [] [(2,(.I (wi (n+16))))]<|O<|Bh (hJ ((Int.fdiv x 65536),(wi (n+16))) _ _ ⟨J,J⟩)
  refine Aq<|Bh (hJ (x,n) _ _ ⟨J,J⟩)
 refine D9 J (fun hc=>?_) (fun hc=>?_)
 ·refine Y<|Au (.int .u64 a)<|Ac (.int .u64 (Int.fdiv a 4294967296)) J (Ak J J (K9 (by decide) (by decide)))<|Aj (.int .u64 (Int.fdiv a 4294967296))<|O<|At<|Aj (.I 32)<|O<|Bh (hJ1 ((Int.fdiv a 4294967296),32) _ _ ⟨J,J⟩)
 refine Aq<|Bh (hJ1 (a,0) _ _ ⟨J,J⟩)
theorem Ag0 (a:Int):CP Tryz.prog 114 [(.int .u64 a)] (X6 a) (fun(x:Int)=>(AV.int .i64 x)):=by
 refine Bl (n:=8) 0 func114 J (by decide) J J fun h0 ids hI=>Bp (Ah (X6.eq_1 _) ?_)
 refine Y<|Aj (.I 0)<|O<|Ad<|Tg false J<|Aq<|Y<|Au (.int .u64 a)<|Ba _ J J J J ((Ad4 a) _) (fun v _=>Ax func114 hI) fun r _=>Aj (.I r)<|O<|A0 func114 hI J (.same _)
theorem W7 (n:Int):CP Tryz.prog 83 [(.int .i64 n)] (Gw n) (fun(x:Int)=>(AV.int .i64 x)):=by
 refine Bl (n:=9) 0 func83 J (by decide) J J fun h0 ids hI=>Bp (Ah (Gw.eq_1 _) ?_)
 refine Y<|Aj (.I 0)<|O<|Y<|Aa 2 [] [(4,(.I (wi (n - 1))))]<|Ac (.int .u64 (IntKind.wrap .u64 (wi (n - 1)))) J (Fa (Gy Bf Alc))<|Ba _ J J J J ((Ag0 (IntKind.wrap .u64 (wi (n - 1)))) _) (fun v _=>Ax func83 hI) fun r _=>Ac (.I (wi (r - 1))) J (Ak J J J)<|Cu fun hz=>Ac (.I (Sh .i64 1 (wi (r - 1)))) J (Ak J J (Ab9 hz))<|Aj (.I (Sh .i64 1 (wi (r - 1))))<|O<|A0 func83 hI J (.same _)
theorem Abm (d:(Vector Int 32)):CP Tryz.prog 82 [(.agg ((rV (rI .u8)) d))] (Mi d) (fun(x:(Vector Int 32))=>(AV.agg ((rV (rI .u8)) x))):=by
 refine Bl (n:=5) 2 func82 J (by decide) J J fun h0 ids hI=>Bp (Ah (Mi.eq_1 _) ?_)
 refine Y<|B5 (v:=(.A (rU d))) (j:=0) hI J J J J J J J fun g=>F3 (j:=1) (row:=(rU (B3 32 0))) hI J J J J Bo (Js (n:=32) (e:=(rI .u8)) (E:=(fun x:Int=>(AV.int .u8 x))) (fun _=>J) _).symm ((Dr (fun x=>Cb x) J) _) fun g1=>O<|A2 ?_
 refine Y<|Aua [none,(Ao g1 32 [(rU (B3 32 0))])] [(1,(.cp (rU d) 0)),(2,(.q ids 1 g1))] hI J (.drop (.keep .nil)) (.cons (.ptrL (hI.at J J) (hI.at J J) ((Dr (fun x=>Cb x) J) _).1 (Q3 _)) .s1)<|Ac (.sl 1 (List.map (rI .u8) d.toList)) J (Cz (Afm (E:=(fun x:Int=>(AV.int .u8 x))) (fun _=>J) (fun _=>J) Bo Em J)) ?_
 refine Ba _ J J J J ((Rf [108,101,97,102] d.toList) _) (fun v _=>Ax func82 hI) fun r _=>A3 (Fe (v:=(.A (rU r))) hI J J J Bo J J J (((Dr (fun x=>Cb x) J) _).1) J)<|O<|A2 ?_
 exact A0 func82 hI (Cd (An hI J J J Bo J) Co) (.same _)
theorem Wt (a:(Vector Int 32))(b:(Vector Int 32)):CP Tryz.prog 84 [(.agg ((rV (rI .u8)) a)),(.agg ((rV (rI .u8)) b))] (Kp a b) (fun(x:(Vector Int 32))=>(AV.agg ((rV (rI .u8)) x))):=by
 refine Bl (n:=10) 3 func84 J (by decide) J J fun h0 ids hI=>Bp (Ah (Kp.eq_1 _ _) ?_)
 refine Y<|B5 (v:=(.A (rU a))) (j:=0) hI J J J J J J J fun g=>B5 (v:=(.A (rU b))) (j:=1) hI J J J J J J J fun g1=>F3 (j:=2) (row:=(rU (B3 32 0))) hI J J J J Bo (Js (n:=32) (e:=(rI .u8)) (E:=(fun x:Int=>(AV.int .u8 x))) (fun _=>J) _).symm ((Dr (fun x=>Cb x) J) _) fun g2=>O<|A2 ?_
 refine Ad<|Y4 [none,(Ao g1 32 [(rU b)]),(Ao g2 32 [(rU (B3 32 0))])] [(2,(.cp (rU a) 0)),(3,(.q ids 1 g1)),(4,(.q ids 2 g2))] hI J (.drop (.keep (.keep .nil))) (.cons (.ptrL (hI.at J J) (hI.at J J) ((Dr (fun x=>Cb x) J) _).1 (Q3 _)) .s2)<|Y4 [none,none,(Ao g2 32 [(rU (B3 32 0))])] [(2,(.cp (rU a) 0)),(3,(.cp (rU b) 0)),(4,(.q ids 2 g2))] hI J (.keep (.drop (.keep .nil))) (.s (.cons (.ptrL (hI.at J J) (hI.at J J) ((Dr (fun x=>Cb x) J) _).1 (Q3 _)) .s1))<|Cq El [[],[],[0,1],[0,1,2],[0,1,2,3],[0,1,2,3,4,4,4]] [(false,0),(false,1),(true,2),(true,3),(true,4),(true,5)] (by kernel_rfl)<|Z (.sl 1 (List.map (rI .u8) a.toList)) J J (Cz (Afm (E:=(fun x:Int=>(AV.int .u8 x))) (fun _=>J) (fun _=>J) Bo Em J)) ?_
 refine Z (.sl 1 (List.map (rI .u8) b.toList)) J J (Cz (Afm (E:=(fun x:Int=>(AV.int .u8 x))) (fun _=>J) (fun _=>J) Bo Em J)) ?_
 refine Kl J J (fun _ _=>J) (fun K hK=>Lx (e:=(rL 1 (rI .u8))) (L:=[a.toList,b.toList]) (st:=1) (rows:=[[(.sl 1 (List.map (rI .u8) a.toList))],[(.sl 1 (List.map (rI .u8) b.toList))]]) Afj Dm J J J J J (.cons (RowSim.refl _) (.cons (RowSim.refl _) .nil)) (fun x=>Ajv x) J J (hK _ _ (B7 J Bb) ?_))
 clear hK K
 refine Cy _ J J J J J ((U9 [a.toList,b.toList]) _) (fun v _ _ _=>Ax func84 hI) (B7 J Bb) fun r _=>Cy _ J J J J J ((Rf [110,111,100,101] r) _) (fun v _ _ _=>Ax func84 hI) (B7 J Bb) fun r1 _=>R7 J (fun _ _=>J) (fun K hK=>Kd (Fe (v:=(.A (rU r1))) hI J J J Bo J J J (((Dr (fun x=>Cb x) J) _).1) J) (hK _ _ (B7 J Bb) ?_))
 clear hK K
 refine Bs<|A2 ?_
 exact A0 func84 hI (Cd (An hI J J J Bo J) Co) (.same _)
end Go.Am
