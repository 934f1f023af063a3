/- Written by shrink.py from texts of ours: comments struck, what is not reached left out, names short. -/
import Derived.Test.YtnoinnijgnfhiaaGreatDoorProg
import Derived.Test.YtnoinnijgnfhiaaGreatDoorU4
import Derived.KernelRfl
namespace Go.Am
open Go Go.Proofs
set_option linter.unusedVariables false
set_option linter.unusedSimpArgs false
def GWp (w:World):Prop:=True
theorem At4 {w w':World}(e : ∀ b,b<3→w'.heap[b]? = w.heap[b]?)(k:GWp w):GWp w':=trivial
def Asl:List (Option (Sg×FuncId)):=[none,some ([111,118,101,114,102,108,105,103,104,116,47,114,111,117,110,100,115,46,112,104,97,115,101,115,36,49],182),some ([111,118,101,114,102,108,105,103,104,116,47,114,111,117,110,100,115,46,112,104,97,115,101,115,36,50],183),some ([111,118,101,114,102,108,105,103,104,116,47,114,111,117,110,100,115,46,102,105,110,105,115,104,101,100],185),some ([111,118,101,114,102,108,105,103,104,116,47,114,111,117,110,100,115,46,102,105,110,105,115,104,101,100],185)]
def Aoi:List AV:=Asl.map Aib
def Ajz:List AV:=rV (rI .u32) Acs
def Ain:List AV:=rV (rI .u32) Qd
instance gwI:GW Tryz.prog where
 n:=3
 G:=fun m w=>GWp w∧Up w 0 Aoi∧Up w 1 Ajz∧Up w 2 Ain
 keep:=fun hn e k=>⟨At4 (fun b hb=>e b (Nat.lt_of_lt_of_le hb hn)) k.1,k.2.1.keep (Nat.lt_of_lt_of_le (by decide) hn) e,k.2.2.1.keep (Nat.lt_of_lt_of_le (by decide) hn) e,k.2.2.2.keep (Nat.lt_of_lt_of_le (by decide) hn) e⟩
 row:=fun b=>if b=0 then some Aoi else if b=1 then some Ajz else if b=2 then some Ain else none
 rowOk:=by
  intro m w b r hn hm k hr
  by_cases h0:b=0
  ·subst h0
   simp at hr
   subst hr
   exact⟨by decide,fun mu M _=>k.2.1.rv mu M⟩
  by_cases h1:b=1
  ·subst h1
   simp at hr
   subst hr
   exact⟨by decide,fun mu M _=>k.2.2.1.rv mu M⟩
  by_cases h2:b=2
  ·subst h2
   simp at hr
   subst hr
   exact⟨by decide,fun mu M _=>k.2.2.2.rv mu M⟩
  simp [h0,h1,h2] at hr
theorem Dr:Tryz.prog.follows .mixedOrders=true:=by kernel_rfl
theorem Bh:ti Tryz.prog 3=some ⟨.int .i64,1,8,[.int .i64 0]⟩:=by kernel_rfl
theorem Xp:ti Tryz.prog 4=some ⟨.bool,1,1,[.bool false]⟩:=by kernel_rfl
theorem Fe:ti Tryz.prog 5=some ⟨.int .u8,1,1,[.int .u8 0]⟩:=by kernel_rfl
theorem W9:ti Tryz.prog 9=some ⟨.str,1,16,[.str []]⟩:=by kernel_rfl
theorem De:ti Tryz.prog 22=some ⟨.sl 5,1,24,[.emp]⟩:=by kernel_rfl
theorem Ni:ti Tryz.prog 23=some ⟨.sl 28,1,24,[.emp]⟩:=by kernel_rfl
theorem Cy:ti Tryz.prog 24=some ⟨.sl 49,1,24,[.emp]⟩:=by kernel_rfl
theorem A6:ti Tryz.prog 28=some ⟨.sl 3,1,24,[.emp]⟩:=by kernel_rfl
theorem Abu:ti Tryz.prog 29=some ⟨.map 3 47,1,8,[.mnil]⟩:=by kernel_rfl
theorem Iz:ti Tryz.prog 33=some ⟨.sl 61,1,24,[.emp]⟩:=by kernel_rfl
theorem Ed:ti Tryz.prog 35=some ⟨.st [(0,3),(1,3),(2,3),(3,28),(4,28),(5,24),(6,33),(7,28)],8,144,[.int .i64 0,.int .i64 0,.int .i64 0,.emp,.emp,.emp,.emp,.emp]⟩:=by kernel_rfl
theorem Vr:ti Tryz.prog 39=some ⟨.st [(0,3),(1,28),(2,23)],3,56,[.int .i64 0,.emp,.emp]⟩:=by kernel_rfl
theorem Oi:ti Tryz.prog 47=some ⟨.sl 51,1,24,[.emp]⟩:=by kernel_rfl
theorem Bm:ti Tryz.prog 49=some ⟨.arr 32 5,32,32,List.replicate 32 (.int .u8 0)⟩:=by kernel_rfl
theorem Id:ti Tryz.prog 51=some ⟨.st [(0,3),(1,3),(2,28),(3,49)],35,72,[.int .i64 0,.int .i64 0,.emp,.int .u8 0,.int .u8 0,.int .u8 0,.int .u8 0,.int .u8 0,.int .u8 0,.int .u8 0,.int .u8 0,.int .u8 0,.int .u8 0,.int .u8 0,.int .u8 0,.int .u8 0,.int .u8 0,.int .u8 0,.int .u8 0,.int .u8 0,.int .u8 0,.int .u8 0,.int .u8 0,.int .u8 0,.int .u8 0,.int .u8 0,.int .u8 0,.int .u8 0,.int .u8 0,.int .u8 0,.int .u8 0,.int .u8 0,.int .u8 0,.int .u8 0,.int .u8 0]⟩:=by kernel_rfl
theorem Hm:ti Tryz.prog 61=some ⟨.st [(0,3),(1,3),(2,3),(3,3),(4,49),(36,24)],37,88,[.int .i64 0,.int .i64 0,.int .i64 0,.int .i64 0,.int .u8 0,.int .u8 0,.int .u8 0,.int .u8 0,.int .u8 0,.int .u8 0,.int .u8 0,.int .u8 0,.int .u8 0,.int .u8 0,.int .u8 0,.int .u8 0,.int .u8 0,.int .u8 0,.int .u8 0,.int .u8 0,.int .u8 0,.int .u8 0,.int .u8 0,.int .u8 0,.int .u8 0,.int .u8 0,.int .u8 0,.int .u8 0,.int .u8 0,.int .u8 0,.int .u8 0,.int .u8 0,.int .u8 0,.int .u8 0,.int .u8 0,.int .u8 0,.emp]⟩:=by kernel_rfl
theorem Aj1:ti Tryz.prog 68=some ⟨.fn,1,8,[.nilf]⟩:=by kernel_rfl
theorem Aj7:ti Tryz.prog 74=some ⟨.sl 86,1,24,[.emp]⟩:=by kernel_rfl
theorem Aw3:ti Tryz.prog 76=some ⟨.st [(0,3),(1,74)],2,32,[.int .i64 0,.emp]⟩:=by kernel_rfl
theorem Zs:ti Tryz.prog 78=some ⟨.sl 82,1,24,[.emp]⟩:=by kernel_rfl
theorem Xb:ti Tryz.prog 82=some ⟨.st [(0,3),(1,3),(2,3),(3,3),(4,3)],5,40,[.int .i64 0,.int .i64 0,.int .i64 0,.int .i64 0,.int .i64 0]⟩:=by kernel_rfl
theorem W5:ti Tryz.prog 86=some ⟨.st [(0,3),(1,3),(2,3),(3,3),(4,4)],5,40,[.int .i64 0,.int .i64 0,.int .i64 0,.int .i64 0,.bool false]⟩:=by kernel_rfl
theorem Ake:ti Tryz.prog 99=some ⟨.arr 5 68,5,40,[.nilf,.nilf,.nilf,.nilf,.nilf]⟩:=by kernel_rfl
theorem Z4:ti Tryz.prog 113=some ⟨.map 3 3,1,8,[.mnil]⟩:=by kernel_rfl
theorem Av6:ti Tryz.prog 122=some ⟨.fn,1,8,[.nilf]⟩:=by kernel_rfl
theorem Am4:ti Tryz.prog 159=some ⟨.sl 24,1,24,[.emp]⟩:=by kernel_rfl
theorem J2:ti Tryz.prog 169=some ⟨.sl 171,1,24,[.emp]⟩:=by kernel_rfl
theorem Oa:ti Tryz.prog 171=some ⟨.st [(0,3),(1,3),(2,9),(3,169)],4,56,[.int .i64 0,.int .i64 0,.str [],.emp]⟩:=by kernel_rfl
theorem Acn:ti Tryz.prog 174=some ⟨.sl 4,1,24,[.emp]⟩:=by kernel_rfl
theorem Zm:ti Tryz.prog 177=some ⟨.map 3 4,1,8,[.mnil]⟩:=by kernel_rfl
theorem An5:ti Tryz.prog 189=some ⟨.fn,1,8,[.nilf]⟩:=by kernel_rfl
theorem On:ti Tryz.prog 203=some ⟨.st [(0,201)],1,8,[.nilf]⟩:=by kernel_rfl
theorem Av0:ti Tryz.prog 204=some ⟨.ptr 230,1,8,[.nilp]⟩:=by kernel_rfl
theorem Bq:ti Tryz.prog 211=some ⟨.int .u32,1,4,[.int .u32 0]⟩:=by kernel_rfl
theorem Awa:ti Tryz.prog 212=some ⟨.arr 8 211,8,32,[.int .u32 0,.int .u32 0,.int .u32 0,.int .u32 0,.int .u32 0,.int .u32 0,.int .u32 0,.int .u32 0]⟩:=by kernel_rfl
theorem E5:ti Tryz.prog 213=some ⟨.arr 8 211,8,32,[.int .u32 0,.int .u32 0,.int .u32 0,.int .u32 0,.int .u32 0,.int .u32 0,.int .u32 0,.int .u32 0]⟩:=by kernel_rfl
theorem We:ti Tryz.prog 216=some ⟨.int .u64,1,8,[.int .u64 0]⟩:=by kernel_rfl
theorem Aic:ti Tryz.prog 217=some ⟨.sl 22,1,24,[.emp]⟩:=by kernel_rfl
theorem Oo:ti Tryz.prog 230=some ⟨.arr 4 203,4,32,[.nilf,.nilf,.nilf,.nilf]⟩:=by kernel_rfl
theorem L9:ti Tryz.prog 234=some ⟨.arr 64 211,64,256,List.replicate 64 (.int .u32 0)⟩:=by kernel_rfl
theorem Av3:ti Tryz.prog 238=some ⟨.sl 211,1,24,[.emp]⟩:=by kernel_rfl
theorem Aif:ti Tryz.prog 246=some ⟨.arr 4 4,4,4,[.bool false,.bool false,.bool false,.bool false]⟩:=by kernel_rfl
theorem Axj:Uf Tryz.prog [(0,3),(1,3),(2,3),(3,3),(4,3)]=some [(0,1),(1,1),(2,1),(3,1),(4,1)]:=by kernel_rfl
theorem Vg {o:BinOp}{x y:Operand}{a b:AV}(ha:a.isAgg=true)(hb:b.isAgg=true):O3 Tryz.prog o 49 x y a b=true:=Ahm ha hb (by kernel_rfl)
theorem Aus {o:BinOp}{x y:Operand}{a b:AV}(ha:a.isAgg=true)(hb:b.isAgg=true):O3 Tryz.prog o 82 x y a b=true:=Ahm ha hb (by kernel_rfl)
theorem Avc {aKind:Int}{aSlot:Int}{aAirline:Int}{aFlight:Int}{aToken:Int}{bKind:Int}{bSlot:Int}{bAirline:Int}{bFlight:Int}{bToken:Int}:J9 Tryz.prog .neq 82 (AV.agg [(.int .i64 aKind),(.int .i64 aSlot),(.int .i64 aAirline),(.int .i64 aFlight),(.int .i64 aToken)]) (AV.agg [(.int .i64 bKind),(.int .i64 bSlot),(.int .i64 bAirline),(.int .i64 bFlight),(.int .i64 bToken)])=some (.bool (!((aKind==bKind)&&((aSlot==bSlot)&&((aAirline==bAirline)&&((aFlight==bFlight)&&(aToken==bToken))))))):=by
 have he82:Abx Tryz.prog 82=true:=by kernel_rfl
 simp only [J9,Ro,he82,if_true,List.drop_succ_cons,List.drop_zero,List.take_succ_cons,List.take_zero,List.take_nil,Atm,Ar5,Vq,G6,Bh,Xb,TK.agg,Nat.reduceAdd,Nat.reduceLT,Nat.reduceLeDiff,List.length_cons,List.length_nil,List.getD_cons_zero,List.getD_cons_succ,Apb,Bool.and_true,Option.map_some,if_false,Bool.false_eq_true,reduceCtorEq,Nat.zero_add]
 try rfl
end Go.Am
namespace Go.Am
open Go
set_option maxRecDepth 100000
set_option maxHeartbeats 4000000
set_option linter.unusedSimpArgs false
set_option linter.unusedVariables false
noncomputable section
def Mg (l:List Int):R Unit:=Th l
def Ha (a:Int)(m:(List (Int×Int)))(airlines:List Int):R ((List (Int×Int))×(List Int)):=
 if((decide (a<0))||(decide (a≥8))) then
(.ok (m,airlines))
else
(if((Option.getD (B3 m a) 0)==0) then
(if(airlines.length+[a].length) * 8≤Bs then
 .ok ((Hv m a (IntKind.wrap .i64 ((Option.getD (B3 m a) 0)+1))),(airlines++[a])) else .bad)
else
(.ok ((Hv m a (IntKind.wrap .i64 ((Option.getD (B3 m a) 0)+1))),airlines)))
def F0 (owners:List Int):R ((List Int)×(List (Int×Int))):=
 (eachS (fun _ a=>C8 fun m airlines=>Ha a m airlines) 0 owners ([],[])).bind ((C8 fun m airlines=>(Mg airlines).bind fun _=>
 .ok ((K7 airlines),m)))
def Ku (c:Clearing)(j:Nat)(a:Int)(last:Int):R (Int ⊕ Bool):=
 (if((decide (a≤last))||(decide (a > 4095))) then R.ok true else(idx c.Owners (j:Int)).bind fun a1=>
 R.ok (decide (a1<0))).bind (fun(b:Bool)=>(if b then R.ok true else(idx c.Owners (j:Int)).bind fun a2=>
 R.ok (decide (a2≥8))).bind (fun(b1:Bool)=>if b1 then
(.ok (.inr (false)))
else
(.ok (.inl a))))
def Px (c:Clearing):R Bool:=
 if(((((((decide (c.No<1))||(decide (c.No > 1048576)))||(decide (c.Slots<1)))||(decide (c.Slots > 8)))||(decide ((c.Flights.length:Int)<1)))||(decide ((c.Flights.length:Int) > c.Slots)))||((c.Owners.length:Int) != (c.Flights.length:Int))) then
(.ok false)
else
((each (fun j a=>fun last=>Ku c j a last) 0 c.Flights (-1)).bind (alt (fun last=>(F0 c.Owners).bind fun r=>
 .ok ((c.Commitments.length:Int)==(r.1.length:Int))) (fun r=>.ok r)))
def K3 (v:(Vector Int 32))(j:Nat)(a:(Vector Int 32)):R (Unit ⊕ Int):=
 if(v==a) then
(.ok (.inr ((j:Int))))
else
(.ok (.inl ()))
def M6 (s:(List (Vector Int 32)))(v:(Vector Int 32)):R Int:=
 (each (fun j a=>fun _=>K3 v j a) 0 s ()).bind (alt (fun _=>.ok (-1)) (fun r=>.ok r))
def Ii (s:(List (Vector Int 32)))(v:(Vector Int 32)):R Bool:=
 (M6 s v).bind fun r=>
 .ok (decide (r≥0))
def Hb (c:Clearing):R Bool:=
 (Ii c.Commitments (#v[0,0,0,0,0,0,0,0,0,0,0,0,0,0,0,0,0,0,0,0,0,0,0,0,0,0,0,0,0,0,0,0]:(Vector Int 32))).bind fun r=>
 .ok (!r)
def Pp (c:Clearing):R Bool:=
 (Hb c).bind fun r=>
 .ok ((!r)&&((IntKind.wrap .i64 ((c.Openings.length:Int)+(c.Outcome.length:Int)))==0))
def P3 (a:Int):R Bool:=
 .ok (a != a)
def Jk (a:Int)(y:Int):R Int:=
 (P3 a).bind fun xNaN=>
 (P3 y).bind fun yNaN=>
 if xNaN then
(if yNaN then
(.ok 0)
else
(.ok (-1)))
else
(if yNaN then
(.ok 1)
else
(if a<y then
(.ok (-1))
else
(if a > y then
(.ok 1)
else
(.ok 0))))
def Lv (a:Int):R (Unit ⊕ Int):=
 if(a != 0) then
(.ok (.inr (a)))
else
(.ok (.inl ()))
def Ti (vals:List Int):R Int:=
 (each (fun _ a=>fun _=>Lv a) 0 vals ()).bind (alt (fun _=>.ok 0) (fun r=>.ok r))
def Ms (a:Opening)(b:Opening):R Int:=
 (Jk a.Flight b.Flight).bind fun r=>
 (Jk a.Slot b.Slot).bind fun r1=>
 (Ti [r,r1]).bind fun r2=>
 .ok r2
def Nb (v:Int)(j:Nat)(a:Int):R (Unit ⊕ Int):=
 if(v==a) then
(.ok (.inr ((j:Int))))
else
(.ok (.inl ()))
def Ix (s:List Int)(v:Int):R Int:=
 (each (fun j a=>fun _=>Nb v j a) 0 s ()).bind (alt (fun _=>.ok (-1)) (fun r=>.ok r))
def Kt (airline:Int)(flight:Int):R Bool:=
 .ok ((((decide (airline≥0))&&(decide (airline<8)))&&(decide (flight≥0)))&&(decide (flight≤4095)))
def Ls (c:Int):R Bool:=
 .ok ((decide (c≥(-1)))&&(decide (c≤1048576)))
def Jy (W_:Value→R (Int×Bool))(a:Value)(depth:Int):R (Int ⊕ (Int×Bool)):=
 (W_ a).bind fun r=>
 if r.2 then
(.ok (.inl (if r.1 > depth then r.1 else depth)))
else
(.ok (.inr ((0,false))))
def Ra (W_:Value→R (Int×Bool))(v:Value):R (Int×Bool):=
 (if((decide (v.Kind<1))||(decide (v.Kind > 3))) then R.ok true else if(0:Int)≤v.Kind∧v.Kind<4 then
 R.ok (!(A0 (#v[false,((v.S==[])&&((v.L.length:Int)==0)),((v.N==0)&&((v.L.length:Int)==0)),((v.N==0)&&(v.S==[]))]:(Vector Bool 4)) (Int.toNat v.Kind) false)) else .bad).bind (fun(b:Bool)=>if b then
(.ok (0,false))
else
(if v.Kind<3 then
(.ok (0,true))
else
((each (fun _ a=>fun depth=>Jy W_ a depth) 0 v.L 0).bind (alt (fun depth=>.ok ((IntKind.wrap .i64 (depth+1)),true)) (fun r=>.ok r)))))
def Hj:Nat→Value→R (Int×Bool)
 | 0,_=>.bad
 | n+1,v=>Ra (Hj n) v
def Ts (v:Value):R (Int×Bool):=Hj Sa v
def Ru (v:Value):R Int:=
 (Ts v).bind fun r=>
 if r.2 then
(if r.1 > 16 then
(.ok 2)
else
(.ok 0))
else
(.ok 1)
def Ly:R Unit:=
 .ok ()
def Rg (n:Int):R Int:=
 .ok (Cx .u64 (Qb .u64 (IntKind.wrap .u64 n) 1) (IntKind.wrap .u64 (Int.fdiv n 9223372036854775808)))
def Jf (u1:Int)(b:List Int):R ((Int×(List Int)) ⊕ (Int×(List Int))):=
 if u1≥128 then
(if(b.length+[(Mc .u8 (IntKind.wrap .u8 u1) 128)].length) * 1≤Bs then
 .ok (.inl ((Int.fdiv u1 128),(b++[(Mc .u8 (IntKind.wrap .u8 u1) 128)]))) else .bad)
else
(.ok (.inr ((u1,b))))
def I6 (u2:Int)(b1:List Int):R (List Int):=
 if(b1.length+[(IntKind.wrap .u8 u2)].length) * 1≤Bs then
 .ok (b1++[(IntKind.wrap .u8 u2)]) else .bad
def Gu (u:Int)(l:List Int):R (List Int):=
 (loop (C8 fun u1 b=>Jf u1 b) (u,l)).bind (C8 fun u2 b1=>I6 u2 b1)
def Fa (v1:Value)(l:List Int):R (List Int):=
 if(l.length+[1].length) * 1≤Bs then
 (Rg v1.N).bind fun r=>
 (Gu r (l++[1])).bind fun r1=>
 .ok r1 else .bad
def Hi (v1:Value)(l:List Int):R (List Int):=
 if(l.length+[2].length) * 1≤Bs then
 (Gu (IntKind.wrap .u64 (v1.S.length:Int)) (l++[2])).bind fun r=>
 if(r.length+(Od v1.S).length) * 1≤Bs then
 .ok (r++(Od v1.S)) else .bad else .bad
def Kd (W_:Value→(List Int)→R (List Int))(a:Value)(b1:List Int):R (List Int):=
 if a.Kind=0 then
(.bad)
else
(if a.Kind=1 then
((Fa a b1).bind fun b2=>
 .ok b2)
else
(if a.Kind=2 then
((Hi a b1).bind fun b3=>
 .ok b3)
else
(if a.Kind=3 then
((W_ a b1).bind fun b4=>
 .ok b4)
else
(.bad))))
def La (W_:Value→(List Int)→R (List Int))(v1:Value)(l:List Int):R (List Int):=
 if(l.length+[3].length) * 1≤Bs then
 (Gu (IntKind.wrap .u64 (v1.L.length:Int)) (l++[3])).bind fun b=>
 (eachS (fun _ a=>fun b1=>Kd W_ a b1) 0 v1.L b).bind ((fun b1=>.ok b1)) else .bad
def Ie:Nat→Value→(List Int)→R (List Int)
 | 0,_,_=>.bad
 | n+1,v1,l=>La (Ie n) v1 l
def Pr (v1:Value)(l:List Int):R (List Int):=Ie Sa v1 l
def G0 (a:Value)(b1:List Int):R (List Int):=
 if a.Kind=0 then
(.bad)
else
(if a.Kind=1 then
((Fa a b1).bind fun b2=>
 .ok b2)
else
(if a.Kind=2 then
((Hi a b1).bind fun b3=>
 .ok b3)
else
(if a.Kind=3 then
((Pr a b1).bind fun b4=>
 .ok b4)
else
(.bad))))
def Lh (v1:Value):R (List Int):=
 if [3].length * 1≤Bs then
 (Gu (IntKind.wrap .u64 (v1.L.length:Int)) [3]).bind fun b=>
 (eachS (fun _ a=>fun b1=>G0 a b1) 0 v1.L b).bind ((fun b1=>.ok b1)) else .bad
def Oy (v:Value):R ((List Int)×Int):=
 (Ru v).bind fun e=>
 if(e != 0) then
(.ok ([],e))
else
((Ly).bind fun _=>
 if v.Kind=0 then
(.bad)
else
(if v.Kind=1 then
((Fa v []).bind fun b=>
 .ok (b,0))
else
(if v.Kind=2 then
((Hi v []).bind fun b1=>
 .ok (b1,0))
else
(if v.Kind=3 then
((Lh v).bind fun b2=>
 .ok (b2,0))
else
(.bad)))))
def Rb (a:Int)(n:Int):R Int:=
 .ok (Mc .u32 (Qb .u32 n 8) (IntKind.wrap .u32 a))
def Ry (b:List Int):R Int:=
 if(0:Int)≤4∧4≤(b.length:Int) then
 (eachS (fun _ a=>fun n=>Rb a n) 0 (b.take (Int.toNat 4)) 0).bind ((fun n=>.ok n)) else .bad
def C0 (a:Int)(k:Int):R Int:=
 if(0:Int)≤(Ef .u64 (IntKind.wrap .u64 k) 31) then if(0:Int)≤(IntKind.wrap .u64 (32 - (Ef .u64 (IntKind.wrap .u64 k) 31))) then .ok (Mc .u32 (Qb .u32 a (Ef .u64 (IntKind.wrap .u64 k) 31)) (Ow .u32 a (IntKind.wrap .u64 (32 - (Ef .u64 (IntKind.wrap .u64 k) 31))))) else .bad else .bad
def Mk (v:Int)(a:Int)(b:Int)(c:Int):R Int:=
 (C0 v (IntKind.wrap .i64 (0 - a))).bind fun r=>
 (C0 v (IntKind.wrap .i64 (0 - b))).bind fun r1=>
 (C0 v (IntKind.wrap .i64 (0 - c))).bind fun r2=>
 .ok (Cx .u32 (Cx .u32 r r1) r2)
def Ia (b:List Int)(j:Nat)(o:(Vector Int 64)):R (Vector Int 64):=
 if(0:Int)≤(IntKind.wrap .i64 (4 * (j:Int)))∧(IntKind.wrap .i64 (4 * (j:Int)))≤(b.length:Int) then
 (Ry (b.drop (Int.toNat (IntKind.wrap .i64 (4 * (j:Int)))))).bind fun r=>
 .ok (Nh o j r) else .bad
def Fg (x1:Int)(o1:(Vector Int 64)):R ((Int×(Vector Int 64)) ⊕ (Vector Int 64)):=
 if x1<64 then
(if(0:Int)≤(IntKind.wrap .i64 (x1 - 15))∧(IntKind.wrap .i64 (x1 - 15))<64 then
 if(0:Int)≤(IntKind.wrap .i64 (x1 - 2))∧(IntKind.wrap .i64 (x1 - 2))<64 then
 if(0:Int)≤(IntKind.wrap .i64 (x1 - 16))∧(IntKind.wrap .i64 (x1 - 16))<64 then
 if(0:Int)≤(IntKind.wrap .i64 (x1 - 7))∧(IntKind.wrap .i64 (x1 - 7))<64 then
 (C0 (A0 o1 (Int.toNat (IntKind.wrap .i64 (x1 - 15))) 0) (-7)).bind fun r1=>
 (C0 (A0 o1 (Int.toNat (IntKind.wrap .i64 (x1 - 15))) 0) (-18)).bind fun r2=>
 (C0 (A0 o1 (Int.toNat (IntKind.wrap .i64 (x1 - 2))) 0) (-17)).bind fun r3=>
 (C0 (A0 o1 (Int.toNat (IntKind.wrap .i64 (x1 - 2))) 0) (-19)).bind fun r4=>
 if(0:Int)≤x1∧x1<64 then
 .ok (.inl ((IntKind.wrap .i64 (x1+1)),(Nh o1 (Int.toNat x1) (IntKind.wrap .u32 ((IntKind.wrap .u32 ((IntKind.wrap .u32 ((A0 o1 (Int.toNat (IntKind.wrap .i64 (x1 - 16))) 0)+(Cx .u32 (Cx .u32 r1 r2) (Int.fdiv (A0 o1 (Int.toNat (IntKind.wrap .i64 (x1 - 15))) 0) 8))))+(A0 o1 (Int.toNat (IntKind.wrap .i64 (x1 - 7))) 0)))+(Cx .u32 (Cx .u32 r3 r4) (Int.fdiv (A0 o1 (Int.toNat (IntKind.wrap .i64 (x1 - 2))) 0) 1024))))))) else .bad else .bad else .bad else .bad else .bad)
else
(.ok (.inr (o1)))
def H9 (o2:(Vector Int 64))(j1:Nat)(o3:(Vector Int 8)):R (Vector Int 8):=
 (Mk (A0 o3 4 0) 6 11 25).bind fun r5=>
 (Mk (A0 o3 0 0) 2 13 22).bind fun r6=>
 if((o3.toList.drop 0).take 7).length≤7 then
 .ok (Nh (Nh (Rn o3 1 ((o3.toList.drop 0).take 7)) 4 (IntKind.wrap .u32 ((A0 (Rn o3 1 ((o3.toList.drop 0).take 7)) 4 0)+(IntKind.wrap .u32 ((IntKind.wrap .u32 ((IntKind.wrap .u32 ((IntKind.wrap .u32 ((A0 o3 7 0)+r5))+(Cx .u32 (A0 o3 6 0) (Ef .u32 (A0 o3 4 0) (Cx .u32 (A0 o3 5 0) (A0 o3 6 0))))))+(A0 Qd j1 0)))+(A0 o2 j1 0)))))) 0 (IntKind.wrap .u32 ((IntKind.wrap .u32 ((IntKind.wrap .u32 ((IntKind.wrap .u32 ((IntKind.wrap .u32 ((A0 o3 7 0)+r5))+(Cx .u32 (A0 o3 6 0) (Ef .u32 (A0 o3 4 0) (Cx .u32 (A0 o3 5 0) (A0 o3 6 0))))))+(A0 Qd j1 0)))+(A0 o2 j1 0)))+(IntKind.wrap .u32 (r6+(Mc .u32 (Ef .u32 (A0 o3 0 0) (A0 o3 1 0)) (Ef .u32 (A0 o3 2 0) (Mc .u32 (A0 o3 0 0) (A0 o3 1 0))))))))) else .bad
def Ic (o3:(Vector Int 8))(j2:Nat)(o4:(Vector Int 8)):R (Vector Int 8):=
 .ok (Nh o4 j2 (IntKind.wrap .u32 ((A0 o4 j2 0)+(A0 o3 j2 0))))
def Gn (s:(Vector Int 8))(o2:(Vector Int 64)):R (Vector Int 8):=
 (eachS (fun j1 _=>fun o3=>H9 o2 j1 o3) 0 (List.range 64) s).bind ((fun o3=>(eachS (fun j2 _=>fun o4=>Ic o3 j2 o4) 0 (List.range 8) s).bind ((fun o4=>.ok o4))))
def Fl (b:List Int)(s:(Vector Int 8)):R (Vector Int 8):=
 (eachS (fun j _=>fun o=>Ia b j o) 0 (List.range 16) (B0 64 0)).bind ((fun o=>(loop (C8 fun x1 o1=>Fg x1 o1) (16,o)).bind (fun o2=>Gn s o2)))
def Py (c:Nat)(n:Int)(j:Nat)(o:(Vector Int 128)):R (Vector Int 128):=
 if(0:Int)≤(IntKind.wrap .i64 (8 * (j:Int))) then if(0:Int)≤(IntKind.wrap .i64 (7 - (j:Int)))∧(IntKind.wrap .i64 (7 - (j:Int)))<8 then
 .ok (Nh o (c+Int.toNat (IntKind.wrap .i64 (7 - (j:Int)))) (IntKind.wrap .u8 (Ow .u64 n (IntKind.wrap .i64 (8 * (j:Int)))))) else .bad else .bad
def Pq (c:Nat)(cp:Nat)(n:Int)(s:(Vector Int 128)):R (Vector Int 128):=
 (eachS (fun j _=>fun o=>Py c n j o) 0 (List.range 8) s).bind ((fun o=>.ok o))
def N4 (c:Nat)(n:Int)(j:Nat)(o:(Vector Int 32)):R (Vector Int 32):=
 if(0:Int)≤(IntKind.wrap .i64 (8 * (j:Int))) then if(0:Int)≤(IntKind.wrap .i64 (3 - (j:Int)))∧(IntKind.wrap .i64 (3 - (j:Int)))<4 then
 .ok (Nh o (c+Int.toNat (IntKind.wrap .i64 (3 - (j:Int)))) (IntKind.wrap .u8 (Ow .u64 n (IntKind.wrap .i64 (8 * (j:Int)))))) else .bad else .bad
def M4 (c:Nat)(cp:Nat)(n:Int)(s:(Vector Int 32)):R (Vector Int 32):=
 (eachS (fun j _=>fun o=>N4 c n j o) 0 (List.range 4) s).bind ((fun o=>.ok o))
def Nn (rest:List Int)(o:(Vector Int 8)):R (((List Int)×(Vector Int 8)) ⊕ ((List Int)×(Vector Int 8))):=
 if(rest.length:Int)≥64 then
(if(0:Int)≤64∧64≤(rest.length:Int) then
 (Fl (rest.take (Int.toNat 64)) o).bind fun r=>
 if(0:Int)≤64∧64≤(rest.length:Int) then
 .ok (.inl ((rest.drop (Int.toNat 64)),r)) else .bad else .bad)
else
(.ok (.inr ((rest,o))))
def J8 (vend:List Int)(o2:(Vector Int 8)):R (((List Int)×(Vector Int 8)) ⊕ (Vector Int 8)):=
 if(vend.length:Int) > 0 then
(if(0:Int)≤64∧64≤(vend.length:Int) then
 (Fl (vend.take (Int.toNat 64)) o2).bind fun r2=>
 if(0:Int)≤64∧64≤(vend.length:Int) then
 .ok (.inl ((vend.drop (Int.toNat 64)),r2)) else .bad else .bad)
else
(.ok (.inr (o2)))
def P0 (o3:(Vector Int 8))(j:Nat)(o4:(Vector Int 32)):R (Vector Int 32):=
 if((IntKind.wrap .i64 ((IntKind.wrap .i64 (4 * (j:Int)))+4))=(IntKind.wrap .i64 (4 * (j:Int)))+4)∧((0:Int)≤(IntKind.wrap .i64 (4 * (j:Int)))∧(IntKind.wrap .i64 (4 * (j:Int)))+4≤32) then
 (M4 (Int.toNat (IntKind.wrap .i64 (4 * (j:Int)))) (32 - (Int.toNat (IntKind.wrap .i64 (4 * (j:Int))))) (IntKind.wrap .u64 (A0 o3 j 0)) o4).bind fun r3=>
 .ok r3 else .bad
def Lw (o3:(Vector Int 8)):R (Vector Int 32):=
 (eachS (fun j _=>fun o4=>P0 o3 j o4) 0 (List.range 8) (B0 32 0)).bind ((fun o4=>.ok o4))
def Pu (vend1:List Int)(o5:(Vector Int 8)):R (((List Int)×(Vector Int 8)) ⊕ (Vector Int 8)):=
 if(vend1.length:Int) > 0 then
(if(0:Int)≤64∧64≤(vend1.length:Int) then
 (Fl (vend1.take (Int.toNat 64)) o5).bind fun r5=>
 if(0:Int)≤64∧64≤(vend1.length:Int) then
 .ok (.inl ((vend1.drop (Int.toNat 64)),r5)) else .bad else .bad)
else
(.ok (.inr (o5)))
def R5 (o6:(Vector Int 8))(j1:Nat)(o7:(Vector Int 32)):R (Vector Int 32):=
 if((IntKind.wrap .i64 ((IntKind.wrap .i64 (4 * (j1:Int)))+4))=(IntKind.wrap .i64 (4 * (j1:Int)))+4)∧((0:Int)≤(IntKind.wrap .i64 (4 * (j1:Int)))∧(IntKind.wrap .i64 (4 * (j1:Int)))+4≤32) then
 (M4 (Int.toNat (IntKind.wrap .i64 (4 * (j1:Int)))) (32 - (Int.toNat (IntKind.wrap .i64 (4 * (j1:Int))))) (IntKind.wrap .u64 (A0 o6 j1 0)) o7).bind fun r6=>
 .ok r6 else .bad
def Pz (o6:(Vector Int 8)):R (Vector Int 32):=
 (eachS (fun j1 _=>fun o7=>R5 o6 j1 o7) 0 (List.range 8) (B0 32 0)).bind ((fun o7=>.ok o7))
def Nm (b:List Int)(rest1:List Int)(o1:(Vector Int 8)):R (Vector Int 32):=
 if rest1.length≤64 then
 if(0:Int)≤(rest1.length:Int)∧(rest1.length:Int)<64 then
 if(rest1.length:Int) > 55 then
((Pq 120 8 (IntKind.wrap .u64 ((IntKind.wrap .u64 (b.length:Int)) * 8)) (Nh (Rn (B0 128 (0:Int)) 0 rest1) (Int.toNat (rest1.length:Int)) 128)).bind fun r1=>
 (loop (C8 fun vend o2=>J8 vend o2) ((r1.toList.take 128),o1)).bind (fun o3=>Lw o3))
else
((Pq 56 72 (IntKind.wrap .u64 ((IntKind.wrap .u64 (b.length:Int)) * 8)) (Nh (Rn (B0 128 (0:Int)) 0 rest1) (Int.toNat (rest1.length:Int)) 128)).bind fun r4=>
 (loop (C8 fun vend1 o5=>Pu vend1 o5) ((r4.toList.take 64),o1)).bind (fun o6=>Pz o6)) else .bad else .bad
def Dc (b:List Int):R (Vector Int 32):=
 (loop (C8 fun rest o=>Nn rest o) (b,Acs)).bind (C8 fun rest1 o1=>Nm b rest1 o1)
def hk0:List Int:=[99,111,115,116]
def hv0:Vector Int 32 := #v[159,130,247,179,117,244,170,27,215,213,10,190,15,118,12,76,165,168,240,32,138,166,133,85,72,156,57,221,124,122,238,170]
theorem hs0:Dc hk0=.ok hv0:=by kernel_rfl
def hk1:List Int:=[159,130,247,179,117,244,170,27,215,213,10,190,15,118,12,76,165,168,240,32,138,166,133,85,72,156,57,221,124,122,238,170,0,0,0,0,0,0,0,0,0,0,0,0,0,0,0,0,0,0,0,0,0,0,0,0,0,0,0,0,0,0,0,0,3,4,1,0,1,10,1,0,1,8]
def hv1:Vector Int 32 := #v[86,201,120,238,206,67,165,246,68,53,53,225,98,174,231,88,184,91,64,150,235,66,164,127,219,27,97,126,189,246,253,249]
theorem hs1:Dc hk1=.ok hv1:=by kernel_rfl
def hk2:List Int:=[159,130,247,179,117,244,170,27,215,213,10,190,15,118,12,76,165,168,240,32,138,166,133,85,72,156,57,221,124,122,238,170,0,0,0,0,0,0,0,0,0,0,0,0,0,0,0,0,0,0,0,0,0,0,0,0,0,0,0,0,0,0,0,0,3,4,1,0,1,10,1,2,1,2]
def hv2:Vector Int 32 := #v[158,238,121,61,83,149,99,18,134,192,125,175,139,98,119,241,223,6,148,9,7,105,55,176,42,32,44,101,4,205,169,171]
theorem hs2:Dc hk2=.ok hv2:=by kernel_rfl
def hk3:List Int:=[108,101,97,102]
def hv3:Vector Int 32 := #v[159,145,22,31,67,67,62,73,166,222,109,182,128,215,159,96,21,159,46,74,201,23,38,33,161,40,70,66,129,88,68,11]
theorem hs3:Dc hk3=.ok hv3:=by kernel_rfl
def hk4:List Int:=[159,145,22,31,67,67,62,73,166,222,109,182,128,215,159,96,21,159,46,74,201,23,38,33,161,40,70,66,129,88,68,11,86,201,120,238,206,67,165,246,68,53,53,225,98,174,231,88,184,91,64,150,235,66,164,127,219,27,97,126,189,246,253,249]
def hv4:Vector Int 32 := #v[222,145,4,110,114,123,197,124,155,33,135,28,61,211,84,158,253,134,68,151,226,86,6,180,185,51,88,31,49,8,132,53]
theorem hs4:Dc hk4=.ok hv4:=by kernel_rfl
def hk5:List Int:=[159,145,22,31,67,67,62,73,166,222,109,182,128,215,159,96,21,159,46,74,201,23,38,33,161,40,70,66,129,88,68,11,158,238,121,61,83,149,99,18,134,192,125,175,139,98,119,241,223,6,148,9,7,105,55,176,42,32,44,101,4,205,169,171]
def hv5:Vector Int 32 := #v[12,3,245,167,69,161,146,137,195,180,59,77,198,45,190,226,112,223,203,130,32,152,92,97,6,5,164,1,93,169,212,33]
theorem hs5:Dc hk5=.ok hv5:=by kernel_rfl
def hk6:List Int:=[110,111,100,101]
def hv6:Vector Int 32 := #v[84,94,165,56,70,16,3,239,220,140,129,194,68,83,27,0,63,111,38,207,204,246,192,7,59,50,57,253,237,244,148,70]
theorem hs6:Dc hk6=.ok hv6:=by kernel_rfl
def hk7:List Int:=[84,94,165,56,70,16,3,239,220,140,129,194,68,83,27,0,63,111,38,207,204,246,192,7,59,50,57,253,237,244,148,70,222,145,4,110,114,123,197,124,155,33,135,28,61,211,84,158,253,134,68,151,226,86,6,180,185,51,88,31,49,8,132,53,12,3,245,167,69,161,146,137,195,180,59,77,198,45,190,226,112,223,203,130,32,152,92,97,6,5,164,1,93,169,212,33]
def hv7:Vector Int 32 := #v[233,189,103,47,143,233,176,245,20,118,76,57,162,192,0,183,241,6,80,71,59,11,143,95,243,30,182,81,173,7,173,193]
theorem hs7:Dc hk7=.ok hv7:=by kernel_rfl
def hk8:List Int:=[159,145,22,31,67,67,62,73,166,222,109,182,128,215,159,96,21,159,46,74,201,23,38,33,161,40,70,66,129,88,68,11,233,189,103,47,143,233,176,245,20,118,76,57,162,192,0,183,241,6,80,71,59,11,143,95,243,30,182,81,173,7,173,193]
def hv8:Vector Int 32 := #v[101,65,231,36,73,77,75,8,168,110,76,209,226,179,202,169,205,189,215,163,197,27,4,0,79,254,216,217,141,222,183,213]
theorem hs8:Dc hk8=.ok hv8:=by kernel_rfl
def hk9:List Int:=[159,130,247,179,117,244,170,27,215,213,10,190,15,118,12,76,165,168,240,32,138,166,133,85,72,156,57,221,124,122,238,170,0,0,0,0,0,0,0,0,0,0,0,0,0,0,0,0,0,0,0,0,0,0,0,0,0,0,0,0,0,0,0,0,3,4,1,6,1,18,1,0,1,4]
def hv9:Vector Int 32 := #v[17,122,206,225,255,102,214,230,45,158,190,151,247,143,161,223,234,197,135,137,11,191,46,108,151,181,0,236,51,40,69,156]
theorem hs9:Dc hk9=.ok hv9:=by kernel_rfl
def Auo:List Int:=[159,130,247,179,117,244,170,27,215,213,10,190,15,118,12,76,165,168,240,32,138,166,133,85,72,156,57,221,124,122,238,170,0,0,0,0,0,0,0,0,0,0,0,0,0,0,0,0,0,0,0,0,0,0,0,0,0,0,0,0,0,0,0,0,3,4,1,6,1,18,1,2,1,12]
def Aux:Vector Int 32 := #v[14,46,40,129,69,7,74,120,194,148,211,246,208,184,8,102,183,40,95,179,9,198,105,80,15,232,117,251,80,57,244,196]
theorem Axf:Dc Auo=.ok Aux:=by kernel_rfl
def Auq:List Int:=[159,145,22,31,67,67,62,73,166,222,109,182,128,215,159,96,21,159,46,74,201,23,38,33,161,40,70,66,129,88,68,11,17,122,206,225,255,102,214,230,45,158,190,151,247,143,161,223,234,197,135,137,11,191,46,108,151,181,0,236,51,40,69,156]
def Avi:Vector Int 32 := #v[100,47,45,123,40,94,119,7,42,5,163,246,119,86,65,8,136,218,181,164,160,230,217,159,243,97,119,15,236,95,254,218]
theorem Axc:Dc Auq=.ok Avi:=by kernel_rfl
def Aub:List Int:=[159,145,22,31,67,67,62,73,166,222,109,182,128,215,159,96,21,159,46,74,201,23,38,33,161,40,70,66,129,88,68,11,14,46,40,129,69,7,74,120,194,148,211,246,208,184,8,102,183,40,95,179,9,198,105,80,15,232,117,251,80,57,244,196]
def Auf:Vector Int 32 := #v[241,217,215,127,29,3,141,165,186,108,48,239,61,143,64,192,35,156,186,30,236,249,214,93,201,51,153,217,76,111,98,41]
theorem Axk:Dc Aub=.ok Auf:=by kernel_rfl
def Ava:List Int:=[84,94,165,56,70,16,3,239,220,140,129,194,68,83,27,0,63,111,38,207,204,246,192,7,59,50,57,253,237,244,148,70,100,47,45,123,40,94,119,7,42,5,163,246,119,86,65,8,136,218,181,164,160,230,217,159,243,97,119,15,236,95,254,218,241,217,215,127,29,3,141,165,186,108,48,239,61,143,64,192,35,156,186,30,236,249,214,93,201,51,153,217,76,111,98,41]
def Avn:Vector Int 32 := #v[200,101,97,15,102,92,202,119,65,32,176,97,229,106,69,170,240,4,140,168,58,154,204,161,247,152,148,33,167,62,178,37]
theorem Aw5:Dc Ava=.ok Avn:=by kernel_rfl
def Aue:List Int:=[159,145,22,31,67,67,62,73,166,222,109,182,128,215,159,96,21,159,46,74,201,23,38,33,161,40,70,66,129,88,68,11,200,101,97,15,102,92,202,119,65,32,176,97,229,106,69,170,240,4,140,168,58,154,204,161,247,152,148,33,167,62,178,37]
def Avh:Vector Int 32 := #v[189,107,203,89,123,138,252,122,76,154,241,52,10,45,57,200,138,9,177,113,130,232,85,176,130,96,131,207,221,25,182,179]
theorem Axq:Dc Aue=.ok Avh:=by kernel_rfl
def hks:List (List Int×Vector Int 32):=[(hk0,hv0),(hk1,hv1),(hk2,hv2),(hk3,hv3),(hk4,hv4),(hk5,hv5),(hk6,hv6),(hk7,hv7),(hk8,hv8),(hk9,hv9),(Auo,Aux),(Auq,Avi),(Aub,Auf),(Ava,Avn),(Aue,Avh)]
theorem Aul : ∀ e ∈ hks,Dc e.1=.ok e.2:=List.forall_mem_cons.2 ⟨hs0,List.forall_mem_cons.2 ⟨hs1,List.forall_mem_cons.2 ⟨hs2,List.forall_mem_cons.2 ⟨hs3,List.forall_mem_cons.2 ⟨hs4,List.forall_mem_cons.2 ⟨hs5,List.forall_mem_cons.2 ⟨hs6,List.forall_mem_cons.2 ⟨hs7,List.forall_mem_cons.2 ⟨hs8,List.forall_mem_cons.2 ⟨hs9,List.forall_mem_cons.2 ⟨Axf,List.forall_mem_cons.2 ⟨Axc,List.forall_mem_cons.2 ⟨Axk,List.forall_mem_cons.2 ⟨Aw5,List.forall_mem_cons.2 ⟨Axq,fun _ h=>(List.not_mem_nil h).elim⟩⟩⟩⟩⟩⟩⟩⟩⟩⟩⟩⟩⟩⟩⟩
def Ut (b:List Int):R (Vector Int 32):=match hks.find? fun e=>e.1==b with
 | some e=>.ok e.2
 | none=>Dc b
theorem Af7 (b:List Int):Ut b=Dc b:=by
 unfold Ut
 split
 ·rename_i e h
  rw [← Aul e (List.mem_of_find?_eq_some h),show e.1=b by simpa using List.find?_some h]
 ·rfl
def G7 (n:Int):R (List Int):=
 if n<0 then
(.pan ⟨9,.str [99,97,110,110,111,116,32,98,101,32,110,101,103,97,116,105,118,101]⟩)
else
(if(IntKind.wrap .i64 (n - 0)) > 0 then
(if(0:Int)<(IntKind.wrap .i64 (n - 0))∧(Int.toNat (IntKind.wrap .i64 (n - 0))) * 1≤Bs then
 if(0:Int)≤0∧0≤((List.replicate (Int.toNat (IntKind.wrap .i64 (n - 0))) (0:Int)).length:Int) then
 .ok ((List.replicate (Int.toNat (IntKind.wrap .i64 (n - 0))) (0:Int)).take (Int.toNat 0)) else .bad else .bad)
else
(.ok []))
def Gz (a:List Int)(size:Int):R Int:=
 if(IntKind.wrap .i64 (size+(a.length:Int)))<0 then
(.pan ⟨9,.str [108,101,110,32,111,117,116,32,111,102,32,114,97,110,103,101]⟩)
else
(.ok (IntKind.wrap .i64 (size+(a.length:Int))))
def Gy (a1:List Int)(newslice1:List Int):R (List Int):=
 if(newslice1.length+a1.length) * 1≤Bs then
 .ok (newslice1++a1) else .bad
def F3 (slices:(List (List Int))):R (List Int):=
 (eachS (fun _ a=>fun size=>Gz a size) 0 slices 0).bind ((fun size=>(G7 size).bind fun newslice=>
 (eachS (fun _ a1=>fun newslice1=>Gy a1 newslice1) 0 slices newslice).bind ((fun newslice1=>.ok newslice1))))
def In (tag:Sg)(b:List Int):R (Vector Int 32):=
 if tag.length≤Bs then
 (Ut (Od tag)).bind fun r=>
 (F3 [r.toList,b]).bind fun r1=>
 (Ut r1).bind fun r2=>
 .ok r2 else .bad
theorem Wv (tag:Sg)(b:List Int):In tag b=(
 if tag.length≤Bs then
 (Dc (Od tag)).bind fun r=>
 (F3 [r.toList,b]).bind fun r1=>
 (Dc r1).bind fun r2=>
 .ok r2 else .bad):=by
 unfold In
 simp only [Af7]
def Hd (a:Int)(l1:List Value):R (List Value):=
 if(l1.length+[({ Kind:=1,N:=a,S:=[],L:=[] }:Value)].length) * 56≤Bs then
 .ok (l1++[({ Kind:=1,N:=a,S:=[],L:=[] }:Value)]) else .bad
def H0 (salt:(Vector Int 32))(l:List Int):R (Vector Int 32):=
 (eachS (fun _ a=>fun l1=>Hd a l1) 0 l []).bind ((fun l1=>(Oy ({ Kind:=3,N:=0,S:=[],L:=l1 }:Value)).bind fun r=>
 if r.1.length≠0∧(32+r.1.length) * 1≤Bs then
 (In [99,111,115,116] (salt.toList++r.1)).bind fun r1=>
 .ok r1 else .bad))
def Oc (x1:Int)(n1:Int):R Int:=
 if x1≥256 then
((idx ([0,1,2,2,3,3,3,3,4,4,4,4,4,4,4,4,5,5,5,5,5,5,5,5,5,5,5,5,5,5,5,5,6,6,6,6,6,6,6,6,6,6,6,6,6,6,6,6,6,6,6,6,6,6,6,6,6,6,6,6,6,6,6,6,7,7,7,7,7,7,7,7,7,7,7,7,7,7,7,7,7,7,7,7,7,7,7,7,7,7,7,7,7,7,7,7,7,7,7,7,7,7,7,7,7,7,7,7,7,7,7,7,7,7,7,7,7,7,7,7,7,7,7,7,7,7,7,7,8,8,8,8,8,8,8,8,8,8,8,8,8,8,8,8,8,8,8,8,8,8,8,8,8,8,8,8,8,8,8,8,8,8,8,8,8,8,8,8,8,8,8,8,8,8,8,8,8,8,8,8,8,8,8,8,8,8,8,8,8,8,8,8,8,8,8,8,8,8,8,8,8,8,8,8,8,8,8,8,8,8,8,8,8,8,8,8,8,8,8,8,8,8,8,8,8,8,8,8,8,8,8,8,8,8,8,8,8,8,8,8,8,8,8,8,8,8,8,8,8,8,8,8,8,8,8,8]:Sg) (IntKind.wrap .u8 (Int.fdiv x1 256))).bind fun a1=>
 .ok (IntKind.wrap .i64 ((IntKind.wrap .i64 (n1+8))+(IntKind.wrap .i64 (a1.toNat:Int)))))
else
((idx ([0,1,2,2,3,3,3,3,4,4,4,4,4,4,4,4,5,5,5,5,5,5,5,5,5,5,5,5,5,5,5,5,6,6,6,6,6,6,6,6,6,6,6,6,6,6,6,6,6,6,6,6,6,6,6,6,6,6,6,6,6,6,6,6,7,7,7,7,7,7,7,7,7,7,7,7,7,7,7,7,7,7,7,7,7,7,7,7,7,7,7,7,7,7,7,7,7,7,7,7,7,7,7,7,7,7,7,7,7,7,7,7,7,7,7,7,7,7,7,7,7,7,7,7,7,7,7,7,8,8,8,8,8,8,8,8,8,8,8,8,8,8,8,8,8,8,8,8,8,8,8,8,8,8,8,8,8,8,8,8,8,8,8,8,8,8,8,8,8,8,8,8,8,8,8,8,8,8,8,8,8,8,8,8,8,8,8,8,8,8,8,8,8,8,8,8,8,8,8,8,8,8,8,8,8,8,8,8,8,8,8,8,8,8,8,8,8,8,8,8,8,8,8,8,8,8,8,8,8,8,8,8,8,8,8,8,8,8,8,8,8,8,8,8,8,8,8,8,8,8,8,8,8,8,8,8]:Sg) (IntKind.wrap .u8 x1)).bind fun a2=>
 .ok (IntKind.wrap .i64 (n1+(IntKind.wrap .i64 (a2.toNat:Int)))))
def N9 (x:Int)(n:Int):R Int:=
 if x≥65536 then
(Oc (Int.fdiv x 65536) (IntKind.wrap .i64 (n+16)))
else
(Oc x n)
def S4 (a:Int):R Int:=
 if a≥4294967296 then
(N9 (Int.fdiv a 4294967296) 32)
else
(N9 a 0)
def Vs (a:Int):R Int:=
 (S4 a).bind fun r=>
 .ok r
def Gp (n:Int):R Int:=
 (Vs (IntKind.wrap .u64 (IntKind.wrap .i64 (n - 1)))).bind fun r=>
 if(0:Int)≤(IntKind.wrap .i64 (r - 1)) then .ok (Qb .i64 1 (IntKind.wrap .i64 (r - 1))) else .bad
def Oj (d:(Vector Int 32)):R (Vector Int 32):=
 (In [108,101,97,102] d.toList).bind fun r=>
 .ok r
def Mb (a:(Vector Int 32))(b:(Vector Int 32)):R (Vector Int 32):=
 (F3 [a.toList,b.toList]).bind fun r=>
 (In [110,111,100,101] r).bind fun r1=>
 .ok r1
def F1 (vat1:Int)(n1:Int)(first:List Bool):R ((Int×Int×(List Bool)) ⊕ (List Bool)):=
 if n1 > 1 then
((Gp n1).bind fun k=>
 if(first.length+[(decide (vat1<k))].length) * 1≤Bs then
 if vat1<k then
(.ok (.inl (vat1,k,(first++[(decide (vat1<k))]))))
else
(.ok (.inl ((IntKind.wrap .i64 (vat1 - k)),(IntKind.wrap .i64 (n1 - k)),(first++[(decide (vat1<k))])))) else .bad)
else
(.ok (.inr (first)))
def H1 (j:Nat)(a:(Vector Int 32))(o:(Vector Int 32))(first2:List Bool):R ((Vector Int 32)×(List Bool)):=
 (idx first2 (IntKind.wrap .i64 ((IntKind.wrap .i64 ((first2.length:Int) - 1)) - (j:Int)))).bind fun a1=>
 if a1 then
((Mb o a).bind fun r1=>
 .ok (r1,first2))
else
((Mb a o).bind fun r2=>
 .ok (r2,first2))
def Nx (d:(Vector Int 32))(p:(List (Vector Int 32)))(first1:List Bool):R ((Vector Int 32)×Int):=
 if((p.length:Int) != (first1.length:Int)) then
(.ok ((B0 32 0),1))
else
((Oj d).bind fun r=>
 (eachS (fun j a=>C8 fun o first2=>H1 j a o first2) 0 p (r,first1)).bind ((C8 fun o first2=>.ok (o,0))))
def O2 (d:(Vector Int 32))(vat:Int)(n:Int)(p:(List (Vector Int 32))):R ((Vector Int 32)×Int):=
 if((((decide (n<1))||(decide (n > 1099511627776)))||(decide (vat<0)))||(decide (vat≥n))) then
(.ok ((B0 32 0),1))
else
((loop (Nf fun vat1 n1 first=>F1 vat1 n1 first) (vat,n,[])).bind (fun first1=>Nx d p first1))
def Jq (d:(Vector Int 32))(tables:Int)(o:Opening)(x:Int)(r3:((Vector Int 32)×Int))(x1:Int):R (Int ⊕ (Unit ⊕ Int)):=
 if x1<tables then
((O2 r3.1 x1 tables (o.Path.drop (Int.toNat x))).bind fun r4=>
 if((r4.2==0)&&(r4.1==d)) then
(.ok (.inr (.inr (0))))
else
(.ok (.inl (IntKind.wrap .i64 (x1+1)))))
else
(.ok (.inr (.inl (()))))
def Hl (x:Int):R (Int ⊕ (Unit ⊕ Int)):=
 .ok (.inl (IntKind.wrap .i64 (x+1)))
def Jl (d:(Vector Int 32))(tables:Int)(slots:Int)(o:Opening)(r2:(Vector Int 32))(x:Int):R (Int ⊕ (Unit ⊕ Int)):=
 if x<(IntKind.wrap .i64 ((o.Path.length:Int)+1)) then
(if(0:Int)≤x∧x≤(o.Path.length:Int) then
 if(0:Int)≤x∧x≤(o.Path.length:Int) then
 (O2 r2 o.Slot slots (o.Path.take (Int.toNat x))).bind fun r3=>
 if(r3.2 != 0) then
(.ok (.inl (IntKind.wrap .i64 (x+1))))
else
((loop (fun x1=>Jq d tables o x r3 x1) 0).bind (alt (fun _=>Hl x) (fun r=>.ok (.inr (.inr (r)))))) else .bad else .bad)
else
(.ok (.inr (.inl (()))))
def L6:R Int:=
 .ok 360
def L0 (d:(Vector Int 32))(airline:Int)(tables:Int)(slots:Int)(o:Opening):R Int:=
 (if(((((decide (tables<1))||(decide (tables > 8)))||(decide (slots<1)))||(decide (slots > 8)))||(o.Airline != airline)) then R.ok true else(Kt o.Airline o.Flight).bind fun r=>
 R.ok (!r)).bind (fun(b:Bool)=>(if((b||(decide (o.Slot<0)))||(decide (o.Slot≥slots))) then R.ok true else(Ls o.Cost).bind fun r1=>
 R.ok (!r1)).bind (fun(b1:Bool)=>if b1 then
(.ok 360)
else
((H0 o.Salt [o.Airline,o.Flight,o.Slot,o.Cost]).bind fun r2=>
 (loop (fun x=>Jl d tables slots o r2 x) 0).bind (alt (fun _=>L6) (fun r=>.ok r)))))
def L1 (c:Clearing)(o:Opening)(x:Bool):R Int:=
 if x then
(.ok 400)
else
((F0 c.Owners).bind fun r=>
 (Ix r.1 o.Airline).bind fun r1=>
 (idx c.Commitments r1).bind fun a1=>
 (L0 a1 o.Airline (Option.getD (B3 r.2 o.Airline) 0) c.Slots o).bind fun r2=>
 .ok r2)
def I3 (c:Clearing)(o:Opening):R Int:=
 (Ix c.Flights o.Flight).bind fun i=>
 if(decide (i<0)) then
(L1 c o true)
else
((idx c.Owners i).bind fun a=>
 L1 c o (a != o.Airline))
def Iw (x1:Bool):R (Unit ⊕ Bool):=
 if x1 then
(.ok (.inr (false)))
else
(.ok (.inl ()))
def Ky (c:Clearing)(j:Nat)(a:Opening):R (Unit ⊕ Bool):=
 if(decide ((j:Int) > 0)) then
((idx c.Openings (IntKind.wrap .i64 ((j:Int) - 1))).bind fun a1=>
 (Ms a1 a).bind fun r=>
 if(decide (r≥0)) then
(Iw true)
else
((I3 c a).bind fun r1=>
 Iw (r1 != 0)))
else
((I3 c a).bind fun r2=>
 Iw (r2 != 0))
def Nl (c:Clearing):R Bool:=
 (each (fun j a=>fun _=>Ky c j a) 0 c.Openings ()).bind (alt (fun _=>.ok true) (fun r=>.ok r))
def Pf (c:Clearing):R Bool:=
 (Hb c).bind fun r=>
 (if r then(Nl c).bind fun r1=>
 R.ok r1 else R.ok false).bind (fun(b:Bool)=>.ok (b&&((c.Outcome.length:Int)==0)))
def If (s:List Opening)(n:Int):R Unit:=
 if n<1 then
(.pan ⟨9,.str [99,97,110,110,111,116,32,98,101,32,108,101,115,115,32,116,104,97,110,32,49]⟩)
else
(.ok ())
section
variable {σ_:Type}
def E8 (b:List Opening)(c:Int)(b_:(List Opening)→σ_→R σ_)(i:Int)(s:σ_):R ((Int×σ_) ⊕ σ_):=
 if i<(b.length:Int) then
(if(0:Int)≤i∧i≤(b.length:Int) then
 if(0:Int)≤i∧i≤(IntKind.wrap .i64 (i+(if((b.drop (Int.toNat i)).length:Int)<c then((b.drop (Int.toNat i)).length:Int) else c)))∧(IntKind.wrap .i64 (i+(if((b.drop (Int.toNat i)).length:Int)<c then((b.drop (Int.toNat i)).length:Int) else c)))≤(b.length:Int) then
 (b_ (cut b i (IntKind.wrap .i64 (i+(if((b.drop (Int.toNat i)).length:Int)<c then((b.drop (Int.toNat i)).length:Int) else c)))) s).bind fun s1=>
 .ok (.inl ((IntKind.wrap .i64 (i+c)),s1)) else .bad else .bad)
else
(.ok (.inr (s)))
def Ip (s2:σ_):R σ_:=
 .ok s2
def F9 (b:List Opening)(c:Int)(b_:(List Opening)→σ_→R σ_)(s_:σ_):R σ_:=
 (loop (C8 fun i s=>E8 b c b_ i s) (0,s_)).bind (fun s2=>Ip s2)
end
def I9 (a1:Opening)(costs:List Int):R (List Int):=
 if(costs.length+[a1.Cost].length) * 8≤Bs then
 .ok (costs++[a1.Cost]) else .bad
def I4 (a:List Opening)(l:(List (List Int))):R (List (List Int)):=
 (eachS (fun _ a1=>fun costs=>I9 a1 costs) 0 a []).bind ((fun costs=>if(l.length+[costs].length) * 24≤Bs then
 .ok (l++[costs]) else .bad))
def Lq (c:Clearing):R (Round×Bool):=
 if((c.Openings.length:Int) != (IntKind.wrap .i64 ((c.Flights.length:Int) * c.Slots))) then
(.ok (({ Slots:=0,Owners:=[],Costs:=[] }:Round),false))
else
((If c.Openings c.Slots).bind fun _=>
 (F9 c.Openings c.Slots (fun a z_=>R.np ((fun l=>I4 a l) z_)) []).bind (fun l=>.ok (({ Slots:=c.Slots,Owners:=c.Owners,Costs:=l }:Round),true)))
def I5 (n:Int)(most:Int):R Bool:=
 .ok ((decide (n<0))||(decide (n > most)))
def Lg (c:Int):R Bool:=
 (I5 (IntKind.wrap .i64 (c+1)) 1048577).bind fun r=>
 .ok r
def Gg (j:Nat)(a:Int):R (Unit ⊕ Int):=
 (Lg a).bind fun r=>
 if r then
(.ok (.inr ((j:Int))))
else
(.ok (.inl ()))
def Hq (s:List Int):R Int:=
 (each (fun j a=>fun _=>Gg j a) 0 s ()).bind (alt (fun _=>.ok (-1)) (fun r=>.ok r))
def E6 (s:List Int):R Bool:=
 (Hq s).bind fun r=>
 .ok (decide (r≥0))
def G5 (x1:Bool):R (Unit ⊕ Int):=
 if x1 then
(.ok (.inr (370)))
else
(.ok (.inl ()))
def Jc (r:Round)(j:Nat)(a:List Int):R (Unit ⊕ Int):=
 (idx r.Owners (j:Int)).bind fun a1=>
 (I5 a1 7).bind fun r1=>
 if r1 then
(G5 true)
else
(if((a.length:Int) != r.Slots) then
(G5 true)
else
((idx a (j:Int)).bind fun a2=>
 if(decide (a2<0)) then
(G5 true)
else
((E6 a).bind fun r2=>
 G5 r2)))
def Lo (r:Round):R Int:=
 if((((decide (r.Slots<1))||(decide (r.Slots > 8)))||(decide ((r.Owners.length:Int) > r.Slots)))||((r.Costs.length:Int) != (r.Owners.length:Int))) then
(.ok 370)
else
((each (fun j a=>fun _=>Jc r j a) 0 r.Costs ()).bind (alt (fun _=>.ok 0) (fun r=>.ok r)))
def H8 (r:Round):R Unit:=
 .ok ()
def Qc (s:List Int):R (List Int):=
 if(0:Int)≤(s.length:Int)∧(s.length:Int)≤(s.length:Int) then
 .ok (s.take (Int.toNat (s.length:Int))) else .bad
section
variable {σ_:Type}
def G2 (x:Int)(m2:(List (Int×Bool)))(s2:σ_):R ((Int×(List (Int×Bool))×σ_) ⊕ ((List (Int×Bool))×σ_)):=
 .ok (.inl ((IntKind.wrap .i64 (x+1)),(Hv m2 x false),s2))
def Ej (slots:List Int)(b:Round)(c:Round)(W_:(List Int)→Round→(List (Int×Bool))→Round→σ_→R ((List (Int×Bool))×σ_))(x:Int)(m1:(List (Int×Bool)))(s1:σ_):R ((Int×(List (Int×Bool))×σ_) ⊕ ((List (Int×Bool))×σ_)):=
 if x<b.Slots then
((if(Option.getD (B3 m1 x) false) then R.ok true else(idx b.Costs (slots.length:Int)).bind fun a=>
 (idx a x).bind fun a1=>
 R.ok (decide (a1<0))).bind (fun(b1:Bool)=>if b1 then
(.ok (.inl ((IntKind.wrap .i64 (x+1)),m1,s1)))
else
((Qc slots).bind fun r=>
 if [x].length≠0∧(r.length+[x].length) * 8≤Bs then
 (W_ (r++[x]) c (Hv m1 x true) c s1).bind fun r1=>
 G2 x r1.1 r1.2 else .bad)))
else
(.ok (.inr ((m1,s1))))
def G3 (m3:(List (Int×Bool)))(s3:σ_):R ((List (Int×Bool))×σ_):=
 .ok (m3,s3)
def Fq (W_:(List Int)→Round→(List (Int×Bool))→Round→σ_→R ((List (Int×Bool))×σ_))(slots:List Int)(b:Round)(m:(List (Int×Bool)))(c:Round)(b_:(List Int)→σ_→R σ_)(s_:σ_):R ((List (Int×Bool))×σ_):=
 if((slots.length:Int)==(b.Owners.length:Int)) then
((b_ slots s_).bind fun s=>
 .ok (m,s))
else
((loop (Nf fun x m1 s1=>Ej slots b c W_ x m1 s1) (0,m,s_)).bind (C8 fun m3 s3=>G3 m3 s3))
def D1 (b_:(List Int)→σ_→R σ_):Nat→(List Int)→Round→(List (Int×Bool))→Round→σ_→R ((List (Int×Bool))×σ_)
 | 0,_,_,_,_,_=>.bad
 | n+1,slots,b,m,c,s_=>R.np (Fq (D1 b_ n) slots b m c b_ s_)
def It (slots:List Int)(b:Round)(m:(List (Int×Bool)))(c:Round)(b_:(List Int)→σ_→R σ_)(s_:σ_):R ((List (Int×Bool))×σ_):=D1 b_ Sa slots b m c s_
end
section
variable {σ_:Type}
def F2 (b:Round)(b_:(List Int)→σ_→R σ_)(s_:σ_):R σ_:=
 (It [] b [] b b_ s_).bind fun r=>
 .ok r.2
def Gw (b:Round)(b_:(List Int)→σ_→R σ_)(s_:σ_):R σ_:=R.np (F2 b b_ s_)
end
def Lz (r:Round)(j:Nat)(a:Int)(v1:List Int):R (List Int):=
 (idx v1 0).bind fun a1=>
 (idx r.Costs (j:Int)).bind fun a2=>
 (idx a2 a).bind fun a3=>
 if(a != (j:Int)) then
((idx (v1.set (Int.toNat 0) (IntKind.wrap .i64 (a1+a3))) 1).bind fun a4=>
 .ok ((v1.set (Int.toNat 0) (IntKind.wrap .i64 (a1+a3))).set 1 (IntKind.wrap .i64 (a4+1))))
else
(.ok (v1.set (Int.toNat 0) (IntKind.wrap .i64 (a1+a3))))
def Mm (r:Round)(slots:List Int):R (List Int):=
 (eachS (fun j a=>fun v1=>Lz r j a v1) 0 slots [0,0]).bind ((fun v1=>.ok v1))
def Je (s2:List Int)(j:Nat)(a:Int):R (Unit ⊕ Int):=
 if(j:Int)≥(s2.length:Int) then
(.ok (.inr (1)))
else
((idx s2 (j:Int)).bind fun a1=>
 (Jk a a1).bind fun c=>
 if(c != 0) then
(.ok (.inr (c)))
else
(.ok (.inl ())))
def Ld (s1:List Int)(s2:List Int):R Int:=
 (each (fun j a=>fun _=>Je s2 j a) 0 s1 ()).bind (alt (fun _=>if(s1.length:Int)<(s2.length:Int) then
(.ok (-1))
else
(.ok 0)) (fun r=>.ok r))
def Fk (s:List Int)(v:Int):R Bool:=
 (Ix s v).bind fun r=>
 .ok (decide (r≥0))
def Hg (r:Round)(slots:List Int)(j:Nat)(a:Int):R (Unit ⊕ Bool):=
 (if((decide (a<0))||(decide (a≥r.Slots))) then R.ok true else(idx r.Costs (j:Int)).bind fun a1=>
 (idx a1 a).bind fun a2=>
 R.ok (decide (a2<0))).bind (fun(b:Bool)=>(if b then R.ok true else if(0:Int)≤(j:Int)∧(j:Int)≤(slots.length:Int) then
 (Fk (slots.take (Int.toNat (j:Int))) a).bind fun r1=>
 R.ok r1 else .bad).bind (fun(b1:Bool)=>if b1 then
(.ok (.inr (false)))
else
(.ok (.inl ()))))
def L4 (r:Round)(slots:List Int):R Bool:=
 if((slots.length:Int) != (r.Owners.length:Int)) then
(.ok false)
else
((each (fun j a=>fun _=>Hg r slots j a) 0 slots ()).bind (alt (fun _=>.ok true) (fun r=>.ok r)))
def Om (r:Round)(slots:List Int):R (Bool×Int):=
 (Lo r).bind fun e=>
 if(e != 0) then
(.ok (false,e))
else
((L4 r slots).bind fun ok=>
 .ok (ok,0))
def Qj (r:Round)(slots:List Int):R Int:=
 (Om r slots).bind fun r1=>
 if((r1.2 != 0)||(!r1.1)) then
(.ok 370)
else
(.ok 0)
def Kz (j:Nat)(l:List Int):R (List Int):=
 if(l.length+[(j:Int)].length) * 8≤Bs then
 .ok (l++[(j:Int)]) else .bad
def Ir (r:Round):R (List Int):=
 (eachS (fun j _=>fun l=>Kz j l) 0 r.Owners []).bind ((fun l=>.ok l))
def Le (r:Round)(slots:List Int)(j:Nat)(a:Int)(out:List Int):R (List Int):=
 (idx r.Owners a).bind fun a1=>
 (idx out a1).bind fun a2=>
 (idx r.Costs a).bind fun a3=>
 (idx slots (j:Int)).bind fun a4=>
 (idx a3 a4).bind fun a5=>
 .ok (out.set (Int.toNat a1) (IntKind.wrap .i64 (a2+a5)))
def Gv (r:Round)(flights:List Int)(slots:List Int):R (List Int):=
 if(0:Int)≤8∧(8:Int)≤8∧(Int.toNat 8) * 8≤Bs then
 (eachS (fun j a=>fun out=>Le r slots j a out) 0 flights (List.replicate (Int.toNat 8) (0:Int))).bind ((fun out=>.ok out)) else .bad
def I2 (before:List Int)(j:Nat)(a:Int)(l:List Int):R (List Int):=
 (idx before (j:Int)).bind fun a1=>
 if a > a1 then
(if(l.length+[(j:Int)].length) * 8≤Bs then
 .ok (l++[(j:Int)]) else .bad)
else
(.ok l)
def Hz (r:Round)(slots:List Int):R ((List Int)×Int):=
 (Qj r slots).bind fun e=>
 if(e != 0) then
(.ok ([],e))
else
((Ir r).bind fun r1=>
 (Ir r).bind fun r2=>
 (Gv r r1 r2).bind fun before=>
 (Ir r).bind fun r3=>
 (Gv r r3 slots).bind fun r4=>
 (eachS (fun j a=>fun l=>I2 before j a l) 0 r4 []).bind ((fun l=>.ok (l,0))))
def Gl (r:Round)(l:List Int):R Unit:=
 .ok ()
def Iy (s:List Int):R (List Int):=if s.length * 8≤Bs then .ok s else .bad
section
variable {σ_ ε_:Type}
def Ei (s3:σ_):R (σ_ ⊕ (σ_ ⊕ ε_)):=
 .ok (.inl s3)
def Fj (begin:List Int)(b:List Int)(d:Round)(c:List Int)(c1:Round)(W_:(List Int)→(List Int)→Round→(List Int)→Round→σ_→R (σ_ ⊕ ε_))(a:Int)(s1:σ_):R (σ_ ⊕ (σ_ ⊕ ε_)):=
 (idx b (begin.length:Int)).bind fun a1=>
 (idx d.Costs a1).bind fun a2=>
 (idx a2 a).bind fun a3=>
 if(decide (a3≥0)) then
((Fk begin a).bind fun r1=>
 if(!r1) then
(if(0:Int)≤(begin.length:Int)∧(begin.length:Int)≤(begin.length:Int) then
 if [a].length≠0∧((begin.take (Int.toNat (begin.length:Int))).length+[a].length) * 8≤Bs then
 (W_ ((begin.take (Int.toNat (begin.length:Int)))++[a]) c c1 c c1 s1).bind (alt (fun s2=>
 Ei s2) (fun e1=>
 .ok (.inr ((Sum.inr (α:=σ_) e1))))) else .bad else .bad)
else
(Ei s1))
else
(Ei s1)
def Fr (W_:(List Int)→(List Int)→Round→(List Int)→Round→σ_→R (σ_ ⊕ ε_))(begin:List Int)(b:List Int)(d:Round)(c:List Int)(c1:Round)(b_:(List Int)→σ_→R (σ_ ⊕ ε_))(s_:σ_):R (σ_ ⊕ ε_):=
 if((begin.length:Int)==(b.length:Int)) then
((Iy begin).bind fun r=>
 (b_ r s_).bind (alt (fun s=>
 .ok (Sum.inl (β:=ε_) s)) (fun e=>
 .ok (Sum.inr (α:=σ_) e))))
else
((each (fun _ a=>fun s1=>Fj begin b d c c1 W_ a s1) 0 b s_).bind (alt (fun s1=>.ok (Sum.inl (β:=ε_) s1)) (fun r=>.ok r)))
def Dy (b_:(List Int)→σ_→R (σ_ ⊕ ε_)):Nat→(List Int)→(List Int)→Round→(List Int)→Round→σ_→R (σ_ ⊕ ε_)
 | 0,_,_,_,_,_,_=>.bad
 | n+1,begin,b,d,c,c1,s_=>R.np (Fr (Dy b_ n) begin b d c c1 b_ s_)
def Ij (begin:List Int)(b:List Int)(d:Round)(c:List Int)(c1:Round)(b_:(List Int)→σ_→R (σ_ ⊕ ε_))(s_:σ_):R (σ_ ⊕ ε_):=Dy b_ Sa begin b d c c1 s_
end
section
variable {σ_ ε_:Type}
def F4 (b:List Int)(c:Round)(b_:(List Int)→σ_→R (σ_ ⊕ ε_))(s_:σ_):R (σ_ ⊕ ε_):=
 (Ij [] b c b c b_ s_).bind (alt (fun s=>
 .ok (Sum.inl (β:=ε_) s)) (fun e=>
 .ok (Sum.inr (α:=σ_) e)))
def Fh (b:List Int)(c:Round)(b_:(List Int)→σ_→R (σ_ ⊕ ε_))(s_:σ_):R (σ_ ⊕ ε_):=R.np (F4 b c b_ s_)
end
def H7 (group:List Int)(j:Nat)(a:Int)(l:List Int):R (List Int):=
 (Fk group a).bind fun r1=>
 if r1 then
(if(l.length+[(j:Int)].length) * 8≤Bs then
 .ok (l++[(j:Int)]) else .bad)
else
(.ok l)
def Kj (than:List Int)(now:List Int)(a2:Int):R (Unit ⊕ Unit):=
 (idx now a2).bind fun a3=>
 (idx than a2).bind fun a4=>
 if a3≥a4 then
(.ok (.inr (())))
else
(.ok (.inl ()))
def Kg:R (Unit ⊕ (List Int)):=
 .ok (.inl ())
def Gq (r:Round)(than:List Int)(group:List Int)(l:List Int)(a1:List Int):R (Unit ⊕ (List Int)):=
 (Gv r l a1).bind fun now=>
 (each (fun _ a2=>fun _=>Kj than now a2) 0 group ()).bind (alt (fun _=>.ok (.inr a1)) (fun _=>Kg))
def Ks (r:Round)(than:List Int)(group:List Int):R ((List Int)×Bool):=
 (eachS (fun j a=>fun l=>H7 group j a l) 0 r.Owners []).bind ((fun l=>(Gl r l).bind fun _=>
 (Fh l r (fun a1 z_=>R.np ((fun _=>Gq r than group l a1) z_)) ()).bind (alt (fun _=>.ok ([],false)) (fun o=>.ok (o,true)))))
def H6 (r:Round)(j:Nat)(j1:Nat)(group:List Int):R ((List Int) ⊕ Unit):=
 if(0:Int)≤(j1:Int) then if((Ef .i64 (Ow .i64 (j:Int) (j1:Int)) 1)==0) then
(.ok (.inl group))
else
((Fk r.Owners (j1:Int)).bind fun r3=>
 if r3 then
(if(group.length+[(j1:Int)].length) * 8≤Bs then
 .ok (.inl (group++[(j1:Int)])) else .bad)
else
(.ok (.inr (())))) else .bad
def Ez:R (Unit ⊕ (Bool×Int)):=
 .ok (.inl ())
def Km (r:Round)(than:List Int)(j:Nat):R (Unit ⊕ (Bool×Int)):=
 (each (fun j1 _=>fun group=>H6 r j j1 group) 0 (List.range 8) []).bind (alt (fun group=>if((group.length:Int)==0) then
(Ez)
else
((Ks r than group).bind fun r4=>
 if r4.2 then
(.ok (.inr ((false,0))))
else
(Ez))) (fun _=>Ez))
def Dz (r:Round)(slots:List Int):R (Bool×Int):=
 (Hz r slots).bind fun r1=>
 if((r1.2 != 0)||(decide ((r1.1.length:Int) > 0))) then
(.ok (false,r1.2))
else
((Ir r).bind fun r2=>
 (Gv r r2 slots).bind fun than=>
 (each (fun j _=>fun _=>Km r than j) 0 (List.range 256) ()).bind (alt (fun _=>.ok (true,0)) (fun r=>.ok r)))
def Kx (r:Round)(a:List Int)(o:List Int)(o1:List Int):R ((List Int)×(List Int)):=
 (Mm r a).bind fun v=>
 (if(!List.isEmpty o1) then(Ld v o1).bind fun r2=>
 R.ok (decide (r2≥0)) else R.ok false).bind (fun(b:Bool)=>if b then
(.ok (o,o1))
else
((Dz r a).bind fun r3=>
 if((r3.2==0)&&r3.1) then
((Iy a).bind fun r4=>
 if v.length≠0 then
 .ok (r4,v) else .bad)
else
(.ok (o,o1))))
def Pt (r:Round):R ((List Int)×Int):=
 (Lo r).bind fun e=>
 if(e != 0) then
(.ok ([],e))
else
((H8 r).bind fun _=>
 (Gw r (fun a z_=>R.np ((C8 fun o o1=>Kx r a o o1) z_)) ([],[])).bind (C8 fun o o1=>if(List.isEmpty o1) then
(.ok ([],380))
else
(.ok (o,0))))
def Lk (j:Nat)(outcome:List Int):R (List Int):=
 if(outcome.length+[(j:Int)].length) * 8≤Bs then
 .ok (outcome++[(j:Int)]) else .bad
def Jm (r:Round):R ((List Int)×Int):=
 (Pt r).bind fun r1=>
 if(r1.2==0) then
(.ok (r1.1,3))
else
((eachS (fun j _=>fun outcome=>Lk j outcome) 0 r.Owners []).bind ((fun outcome=>.ok (outcome,4))))
def Kl (s2:List Int)(j:Nat)(a:Int):R (Unit ⊕ Bool):=
 (idx s2 (j:Int)).bind fun a1=>
 if(a != a1) then
(.ok (.inr (false)))
else
(.ok (.inl ()))
def Mv (s1:List Int)(s2:List Int):R Bool:=
 if((s1.length:Int) != (s2.length:Int)) then
(.ok false)
else
((each (fun j a=>fun _=>Kl s2 j a) 0 s1 ()).bind (alt (fun _=>.ok true) (fun r=>.ok r)))
def Lm (c:Clearing):R Bool:=
 (Hb c).bind fun r=>
 (if(!r) then R.ok true else(Nl c).bind fun r1=>
 R.ok (!r1)).bind (fun(b:Bool)=>if b then
(.ok false)
else
((Lq c).bind fun r2=>
 if r2.2 then
((Jm r2.1).bind fun r3=>
 (if(r3.2==c.Phase) then(Mv r3.1 c.Outcome).bind fun r4=>
 R.ok r4 else R.ok false).bind (fun(b1:Bool)=>.ok b1))
else
(.ok false)))
def Fd (x:Bool):R Int:=
 if x then
(.ok 400)
else
(.ok 0)
def Fx (c:Clearing):R Int:=
 (Px c).bind fun r=>
 if(!r) then
(Fd true)
else
(if(decide (c.Phase<1)) then
(Fd true)
else
(if(decide (c.Phase > 4)) then
(Fd true)
else
(if c.Phase=0 then
(.bad)
else
(if c.Phase=1 then
((Pp c).bind fun r1=>
 Fd (!r1))
else
(if c.Phase=2 then
((Pf c).bind fun r2=>
 Fd (!r2))
else
(if c.Phase=3 then
((Lm c).bind fun r3=>
 Fd (!r3))
else
(if c.Phase=4 then
((Lm c).bind fun r4=>
 Fd (!r4))
else
(.bad))))))))
def Pk (no:Int)(slots:Int)(owners:List Int)(flights:List Int):R (Clearing×Int):=
 (F0 owners).bind fun r=>
 if(0:Int)≤(r.1.length:Int)∧((r.1.length:Int):Int)≤(r.1.length:Int)∧(Int.toNat (r.1.length:Int)) * 32≤Bs then
 (Fx ({ No:=no,Phase:=1,Slots:=slots,Owners:=owners,Flights:=flights,Commitments:=(List.replicate (Int.toNat (r.1.length:Int)) (B0 32 0)),Openings:=[],Outcome:=[] }:Clearing)).bind fun e=>
 if(e != 0) then
(.ok (({ No:=0,Phase:=0,Slots:=0,Owners:=[],Flights:=[],Commitments:=[],Openings:=[],Outcome:=[] }:Clearing),e))
else
(.ok (({ No:=no,Phase:=1,Slots:=slots,Owners:=owners,Flights:=flights,Commitments:=(List.replicate (Int.toNat (r.1.length:Int)) (B0 32 0)),Openings:=[],Outcome:=[] }:Clearing),0)) else .bad
def M9 (c:Int):R Bool:=
 (Ls c).bind fun r=>
 .ok (!r)
def E9 (j:Nat)(a:Int):R (Unit ⊕ Int):=
 (M9 a).bind fun r=>
 if r then
(.ok (.inr ((j:Int))))
else
(.ok (.inl ()))
def Kb (s:List Int):R Int:=
 (each (fun j a=>fun _=>E9 j a) 0 s ()).bind (alt (fun _=>.ok (-1)) (fun r=>.ok r))
def Ge (s:List Int):R Bool:=
 (Kb s).bind fun r=>
 .ok (decide (r≥0))
def Mq (t:Table):R Int:=
 (Kt t.Airline t.Flight).bind fun r=>
 (if(((!r)||(decide ((t.Costs.length:Int)<1)))||(decide ((t.Costs.length:Int) > 8))) then R.ok true else(Ge t.Costs).bind fun r1=>
 R.ok r1).bind (fun(b:Bool)=>if b then
(.ok 360)
else
(.ok 0))
def Gt (x1:Bool):R (Unit ⊕ Bool):=
 if x1 then
(.ok (.inr (false)))
else
(.ok (.inl ()))
def Kn (l:List Table)(j:Nat)(a:Table):R (Unit ⊕ Bool):=
 (Mq a).bind fun r=>
 if(r != 0) then
(Gt true)
else
((idx l 0).bind fun a1=>
 if(a.Airline != a1.Airline) then
(Gt true)
else
(if((a.Costs.length:Int) != (a1.Costs.length:Int)) then
(Gt true)
else
(if(decide ((j:Int) > 0)) then
((idx l (IntKind.wrap .i64 ((j:Int) - 1))).bind fun a2=>
 Gt (decide (a.Flight≤a2.Flight)))
else
(Gt false))))
def Kq (l:List Table):R Bool:=
 if((decide ((l.length:Int)<1))||(decide ((l.length:Int) > 8))) then
(.ok false)
else
((each (fun j a=>fun _=>Kn l j a) 0 l ()).bind (alt (fun _=>.ok true) (fun r=>.ok r)))
def Ko (t:Table):R Unit:=
 .ok ()
section
variable {σ_:Type}
def F5 (b:Table)(b_:(Vector Int 32)→σ_→R σ_)(j:Nat)(a:Int)(s:σ_):R σ_:=
 (H0 b.Salt [b.Airline,b.Flight,(j:Int),a]).bind fun r=>
 (b_ r s).bind fun s1=>
 .ok s1
def Jx (b:Table)(b_:(Vector Int 32)→σ_→R σ_)(s_:σ_):R σ_:=
 (eachS (fun j a=>fun s=>F5 b b_ j a s) 0 b.Costs s_).bind ((fun s=>.ok s))
end
def Jw (a:(Vector Int 32))(l:(List (Vector Int 32))):R (List (Vector Int 32)):=
 if(l.length+[a].length) * 32≤Bs then
 .ok (l++[a]) else .bad
def J5 (t:Table):R (List (Vector Int 32)):=
 (Ko t).bind fun _=>
 (Jx t (fun a z_=>R.np ((fun l=>Jw a l) z_)) []).bind (fun l=>.ok l)
def R3 (W_:(List (Vector Int 32))→R (Vector Int 32))(l:(List (Vector Int 32))):R (Vector Int 32):=
 if((l.length:Int)==0) then
((In [101,109,112,116,121] []).bind fun r=>
 .ok r)
else
(if((l.length:Int)==1) then
((idx l 0).bind fun a=>
 (Oj a).bind fun r1=>
 .ok r1)
else
((Gp (l.length:Int)).bind fun n=>
 if(0:Int)≤n∧n≤(l.length:Int) then
 if(0:Int)≤n∧n≤(l.length:Int) then
 (W_ (l.take (Int.toNat n))).bind fun r2=>
 (W_ (l.drop (Int.toNat n))).bind fun r3=>
 (Mb r2 r3).bind fun r4=>
 .ok r4 else .bad else .bad))
def Ns:Nat→(List (Vector Int 32))→R (Vector Int 32)
 | 0,_=>.bad
 | n+1,l=>R3 (Ns n) l
def P7 (l:(List (Vector Int 32))):R (Vector Int 32):=Ns Sa l
def Fv (a:Table)(d:(List (Vector Int 32))):R (List (Vector Int 32)):=
 (J5 a).bind fun r=>
 (P7 r).bind fun r1=>
 if(d.length+[r1].length) * 32≤Bs then
 .ok (d++[r1]) else .bad
def G8 (l:List Table):R (List (Vector Int 32)):=
 (eachS (fun _ a=>fun d=>Fv a d) 0 l []).bind ((fun d=>.ok d))
def Hw (l:List Table):R ((Vector Int 32)×Int):=
 (Kq l).bind fun r=>
 if r then
((G8 l).bind fun r1=>
 (P7 r1).bind fun r2=>
 .ok (r2,0))
else
(.ok ((B0 32 0),360))
def M8 (s:List (Vector Int 32)):R (List (Vector Int 32)):=if s.length * 32≤Bs then .ok s else .bad
def J7 (c:Clearing)(airline:Int)(d:(Vector Int 32)):R (Clearing×Int):=
 (Fx c).bind fun e=>
 if(e != 0) then
(.ok (({ No:=0,Phase:=0,Slots:=0,Owners:=[],Flights:=[],Commitments:=[],Openings:=[],Outcome:=[] }:Clearing),e))
else
((F0 c.Owners).bind fun r=>
 (Ix r.1 airline).bind fun i=>
 if((decide (i<0))||(d==(#v[0,0,0,0,0,0,0,0,0,0,0,0,0,0,0,0,0,0,0,0,0,0,0,0,0,0,0,0,0,0,0,0]:(Vector Int 32)))) then
(.ok (({ No:=0,Phase:=0,Slots:=0,Owners:=[],Flights:=[],Commitments:=[],Openings:=[],Outcome:=[] }:Clearing),400))
else
((idx c.Commitments i).bind fun a=>
 if(a==d) then
(.ok (c,0))
else
(if(a==(#v[0,0,0,0,0,0,0,0,0,0,0,0,0,0,0,0,0,0,0,0,0,0,0,0,0,0,0,0,0,0,0,0]:(Vector Int 32))) then
((M8 c.Commitments).bind fun r1=>
 (idx r1 i).bind fun a1=>
 (Hb ({ No:=c.No,Phase:=c.Phase,Slots:=c.Slots,Owners:=c.Owners,Flights:=c.Flights,Commitments:=(r1.set (Int.toNat i) d),Openings:=c.Openings,Outcome:=c.Outcome }:Clearing)).bind fun r2=>
 if r2 then
(.ok (({ No:=c.No,Phase:=2,Slots:=c.Slots,Owners:=c.Owners,Flights:=c.Flights,Commitments:=(r1.set (Int.toNat i) d),Openings:=c.Openings,Outcome:=c.Outcome }:Clearing),0))
else
(.ok (({ No:=c.No,Phase:=c.Phase,Slots:=c.Slots,Owners:=c.Owners,Flights:=c.Flights,Commitments:=(r1.set (Int.toNat i) d),Openings:=c.Openings,Outcome:=c.Outcome }:Clearing),0)))
else
(.ok (({ No:=0,Phase:=0,Slots:=0,Owners:=[],Flights:=[],Commitments:=[],Openings:=[],Outcome:=[] }:Clearing),400)))))
def Im (i:Int)(j:Int)(s:(List (Vector Int 32))):R ((Int×Int×(List (Vector Int 32))) ⊕ (List (Vector Int 32))):=
 if i<j then
((idx s j).bind fun a=>
 (idx s i).bind fun a1=>
 (idx (s.set (Int.toNat i) a) j).bind fun a2=>
 .ok (.inl ((IntKind.wrap .i64 (i+1)),(IntKind.wrap .i64 (j - 1)),((s.set (Int.toNat i) a).set (Int.toNat j) a1))))
else
(.ok (.inr (s)))
def Iq (l1:(List (Vector Int 32))):R (List (Vector Int 32)):=
 .ok l1
def F6 (l:(List (Vector Int 32))):R (List (Vector Int 32)):=
 (loop (Nf fun i j s=>Im i j s) (0,(IntKind.wrap .i64 ((l.length:Int) - 1)),l)).bind (fun l1=>Iq l1)
def Gi (l1:(List (Vector Int 32)))(vat1:Int)(p:(List (Vector Int 32))):R (((List (Vector Int 32))×Int×(List (Vector Int 32))) ⊕ (List (Vector Int 32))):=
 if(l1.length:Int) > 1 then
((Gp (l1.length:Int)).bind fun n=>
 if vat1<n then
(if(0:Int)≤n∧n≤(l1.length:Int) then
 if(0:Int)≤n∧n≤(l1.length:Int) then
 (P7 (l1.drop (Int.toNat n))).bind fun r=>
 if(p.length+[r].length) * 32≤Bs then
 .ok (.inl ((l1.take (Int.toNat n)),vat1,(p++[r]))) else .bad else .bad else .bad)
else
(if(0:Int)≤n∧n≤(l1.length:Int) then
 if(0:Int)≤n∧n≤(l1.length:Int) then
 (P7 (l1.take (Int.toNat n))).bind fun r1=>
 if(p.length+[r1].length) * 32≤Bs then
 .ok (.inl ((l1.drop (Int.toNat n)),(IntKind.wrap .i64 (vat1 - n)),(p++[r1]))) else .bad else .bad else .bad))
else
(.ok (.inr (p)))
def Oz (p1:(List (Vector Int 32))):R ((List (Vector Int 32))×Int):=
 (F6 p1).bind fun r2=>
 .ok (r2,0)
def P4 (l:(List (Vector Int 32)))(vat:Int):R ((List (Vector Int 32))×Int):=
 if((decide (vat<0))||(decide (vat≥(l.length:Int)))) then
(.ok ([],1))
else
((loop (Nf fun l1 vat1 p=>Gi l1 vat1 p) (l,vat,[])).bind (fun p1=>Oz p1))
def Gd (n:Int):R (List (Vector Int 32)):=
 if n<0 then
(.pan ⟨9,.str [99,97,110,110,111,116,32,98,101,32,110,101,103,97,116,105,118,101]⟩)
else
(if(IntKind.wrap .i64 (n - 0)) > 0 then
(if(0:Int)<(IntKind.wrap .i64 (n - 0))∧(Int.toNat (IntKind.wrap .i64 (n - 0))) * 32≤Bs then
 if(0:Int)≤0∧0≤((List.replicate (Int.toNat (IntKind.wrap .i64 (n - 0))) ((B0 32 0):(Vector Int 32))).length:Int) then
 .ok ((List.replicate (Int.toNat (IntKind.wrap .i64 (n - 0))) ((B0 32 0):(Vector Int 32))).take (Int.toNat 0)) else .bad else .bad)
else
(.ok []))
def F8 (a:(List (Vector Int 32)))(size:Int):R Int:=
 if(IntKind.wrap .i64 (size+(a.length:Int)))<0 then
(.pan ⟨9,.str [108,101,110,32,111,117,116,32,111,102,32,114,97,110,103,101]⟩)
else
(.ok (IntKind.wrap .i64 (size+(a.length:Int))))
def F7 (a1:(List (Vector Int 32)))(newslice1:(List (Vector Int 32))):R (List (Vector Int 32)):=
 if(newslice1.length+a1.length) * 32≤Bs then
 .ok (newslice1++a1) else .bad
def He (slices:(List (List (Vector Int 32)))):R (List (Vector Int 32)):=
 (eachS (fun _ a=>fun size=>F8 a size) 0 slices 0).bind ((fun size=>(Gd size).bind fun newslice=>
 (eachS (fun _ a1=>fun newslice1=>F7 a1 newslice1) 0 slices newslice).bind ((fun newslice1=>.ok newslice1))))
def Lr (l:List Table)(vat:Int)(slot:Int):R (Opening×Int):=
 (Kq l).bind fun r=>
 (if((((!r)||(decide (vat<0)))||(decide (vat≥(l.length:Int))))||(decide (slot<0))) then R.ok true else(idx l 0).bind fun a=>
 R.ok (decide (slot≥(a.Costs.length:Int)))).bind (fun(b:Bool)=>if b then
(.ok (({ Airline:=0,Flight:=0,Slot:=0,Cost:=0,Salt:=(B0 32 0),Path:=[] }:Opening),360))
else
((idx l vat).bind fun a1=>
 (J5 a1).bind fun r1=>
 (P4 r1 slot).bind fun r2=>
 (G8 l).bind fun r3=>
 (P4 r3 vat).bind fun r4=>
 (idx a1.Costs slot).bind fun a2=>
 (He [r2.1,r4.1]).bind fun r5=>
 .ok (({ Airline:=a1.Airline,Flight:=a1.Flight,Slot:=slot,Cost:=a2,Salt:=a1.Salt,Path:=r5 }:Opening),0)))
def Cq (a:List Opening)(target:Opening)(i:Int)(j:Int):R ((Int×Int) ⊕ Int):=
 if i<j then
((idx a (IntKind.wrap .i64 (Int.fdiv (IntKind.wrap .u64 (IntKind.wrap .i64 (i+j))) 2))).bind fun a1=>
 (Ms a1 target).bind fun r=>
 if r<0 then
(.ok (.inl ((IntKind.wrap .i64 ((IntKind.wrap .i64 (Int.fdiv (IntKind.wrap .u64 (IntKind.wrap .i64 (i+j))) 2))+1)),j)))
else
(.ok (.inl (i,(IntKind.wrap .i64 (Int.fdiv (IntKind.wrap .u64 (IntKind.wrap .i64 (i+j))) 2))))))
else
(.ok (.inr (i)))
def Dk (a:List Opening)(target:Opening)(i1:Int):R (Int×Bool):=
 if(decide (i1<(a.length:Int))) then
((idx a i1).bind fun a2=>
 (Ms a2 target).bind fun r1=>
 .ok (i1,(r1==0)))
else
(.ok (i1,false))
def D2 (a:List Opening)(target:Opening):R (Int×Bool):=
 (loop (C8 fun i j=>Cq a target i j) (0,(a.length:Int))).bind (fun i1=>Dk a target i1)
def Ma (s:List Opening):R (List Opening):=if s.length * 88≤Bs then .ok s else .bad
def Po (i:Int)(l:List Opening)(l2:List Opening):R (List Opening):=Q3 88 l i l2
def I0 (r:(Int×Bool))(y2:List Opening):R (Int×Bool×(List Opening)):=
 .ok (r.1,false,y2)
def G4 (l:List Opening)(b:Opening):R (Int×Bool×(List Opening)):=
 (D2 l b).bind fun r=>
 if r.2 then
(.ok (r.1,true,l))
else
((Ma l).bind fun r1=>
 (Po r.1 r1 [b]).bind fun y=>
 I0 r y)
def Ig (s2:(List (Vector Int 32)))(j:Nat)(a:(Vector Int 32)):R (Unit ⊕ Bool):=
 (idx s2 (j:Int)).bind fun a1=>
 if(a==a1) then
(.ok (.inl ()))
else
(.ok (.inr (false)))
def Kh (s1:(List (Vector Int 32)))(s2:(List (Vector Int 32))):R Bool:=
 if((s1.length:Int) != (s2.length:Int)) then
(.ok false)
else
((each (fun j a=>fun _=>Ig s2 j a) 0 s1 ()).bind (alt (fun _=>.ok true) (fun r=>.ok r)))
def Rw (a:Opening)(b:Opening):R Bool:=
 (if(((((a.Airline==b.Airline)&&(a.Flight==b.Flight))&&(a.Slot==b.Slot))&&(a.Cost==b.Cost))&&(a.Salt==b.Salt)) then(Kh a.Path b.Path).bind fun r=>
 R.ok r else R.ok false).bind (fun(b1:Bool)=>.ok b1)
def Mj (c:Clearing)(r:(Int×Bool×(List Opening)))(x:Bool):R (Clearing×Int):=
 if x then
(.ok (({ No:=0,Phase:=0,Slots:=0,Owners:=[],Flights:=[],Commitments:=[],Openings:=[],Outcome:=[] }:Clearing),400))
else
(.ok (({ No:=c.No,Phase:=c.Phase,Slots:=c.Slots,Owners:=c.Owners,Flights:=c.Flights,Commitments:=c.Commitments,Openings:=r.2.2,Outcome:=c.Outcome }:Clearing),0))
def Me (c:Clearing)(o:Opening):R (Clearing×Int):=
 (Fx c).bind fun e=>
 if(e != 0) then
(.ok (({ No:=0,Phase:=0,Slots:=0,Owners:=[],Flights:=[],Commitments:=[],Openings:=[],Outcome:=[] }:Clearing),e))
else
(if(c.Phase==1) then
(.ok (({ No:=0,Phase:=0,Slots:=0,Owners:=[],Flights:=[],Commitments:=[],Openings:=[],Outcome:=[] }:Clearing),401))
else
((I3 c o).bind fun e1=>
 if(e1 != 0) then
(.ok (({ No:=0,Phase:=0,Slots:=0,Owners:=[],Flights:=[],Commitments:=[],Openings:=[],Outcome:=[] }:Clearing),e1))
else
((G4 c.Openings o).bind fun r=>
 if r.2.1 then
((idx c.Openings r.1).bind fun a=>
 (Rw a o).bind fun r1=>
 Mj c r (!r1))
else
(Mj c r false))))
def To (i:Int)(o:Clearing)(o1:Table):R ((Int×Int×Clearing) ⊕ ((Int×Clearing) ⊕ (Clearing×Bool))):=
 if i≤2 then
((Hw [o1]).bind fun r1=>
 if(r1.2 != 0) then
(.ok (.inr (.inr ((o,false)))))
else
((J7 o o1.Airline r1.1).bind fun r2=>
 .ok (.inl (r2.2,(IntKind.wrap .i64 (i+1)),r2.1))))
else
((Lr [o1] 0 (IntKind.wrap .i64 (Int.tdiv (IntKind.wrap .i64 (i - 3)) 2))).bind fun r3=>
 if(r3.2 != 0) then
(.ok (.inr (.inr ((o,false)))))
else
((Me o r3.1).bind fun r4=>
 .ok (.inl (r4.2,(IntKind.wrap .i64 (i+1)),r4.1))))
def Ta (steps:Int)(e:Int)(i:Int)(o:Clearing):R ((Int×Int×Clearing) ⊕ ((Int×Clearing) ⊕ (Clearing×Bool))):=
 if((decide (i≤steps))&&(e==0)) then
(if((Int.tmod i 2)==0) then
(To i o ({ Airline:=3,Flight:=9,Costs:=[2,6],Salt:=(B0 32 0) }:Table))
else
(To i o ({ Airline:=0,Flight:=5,Costs:=[4,1],Salt:=(B0 32 0) }:Table)))
else
(.ok (.inr (.inl ((e,o)))))
def S5 (e1:Int)(o2:Clearing):R (Clearing×Bool):=
 .ok (o2,(e1==0))
def Xl (steps:Int):R (Clearing×Bool):=
 (Pk 1 2 [0,3] [5,9]).bind fun r=>
 (loop (Nf fun e i o=>Ta steps e i o) (r.2,1,r.1)).bind (alt (C8 fun e1 o2=>S5 e1 o2) (fun r=>.ok r))
def Lc (c:Clearing):R (Round×Int):=
 (Fx c).bind fun e=>
 if(e != 0) then
(.ok (({ Slots:=0,Owners:=[],Costs:=[] }:Round),e))
else
((Lq c).bind fun r=>
 if r.2 then
(.ok (r.1,0))
else
(.ok (({ Slots:=0,Owners:=[],Costs:=[] }:Round),401)))
def Lf (c:Clearing):R (Clearing×Int):=
 (Lc c).bind fun r=>
 if(r.2 != 0) then
(.ok (({ No:=0,Phase:=0,Slots:=0,Owners:=[],Flights:=[],Commitments:=[],Openings:=[],Outcome:=[] }:Clearing),r.2))
else
(if(c.Phase==2) then
((Jm r.1).bind fun r1=>
 .ok (({ No:=c.No,Phase:=r1.2,Slots:=c.Slots,Owners:=c.Owners,Flights:=c.Flights,Commitments:=c.Commitments,Openings:=c.Openings,Outcome:=r1.1 }:Clearing),0))
else
(.ok (c,0)))
def Mr (n:Int)(lo:Int)(hi:Int):R Bool:=
 .ok ((decide (lo≤n))&&(decide (n≤hi)))
def Hp (m:(List (Int×Bool)))(a:Lease)(x1:Bool):R ((List (Int×Bool)) ⊕ Int):=
 if x1 then
(.ok (.inr (350)))
else
(.ok (.inl (Hv m a.Token true)))
def Rf (l:Leases)(j:Nat)(a:Lease)(m:(List (Int×Bool))):R ((List (Int×Bool)) ⊕ Int):=
 (Mr a.Slot 0 4095).bind fun r1=>
 if(!r1) then
(Hp m a true)
else
((Mr a.Airline 0 7).bind fun r2=>
 if(!r2) then
(Hp m a true)
else
((Mr a.Flight 0 4095).bind fun r3=>
 if(!r3) then
(Hp m a true)
else
((Mr a.Token 1 l.Token).bind fun r4=>
 if(!r4) then
(Hp m a true)
else
(if(decide ((j:Int) > 0)) then
((idx l.List (IntKind.wrap .i64 ((j:Int) - 1))).bind fun a1=>
 if(decide (a1.Slot≥a.Slot)) then
(Hp m a true)
else
(Hp m a (Option.getD (B3 m a.Token) false)))
else
(Hp m a (Option.getD (B3 m a.Token) false))))))
def X1 (l:Leases):R Int:=
 (Mr l.Token 0 1048576).bind fun r=>
 if r then
((each (fun j a=>fun m=>Rf l j a m) 0 l.List []).bind (alt (fun m=>.ok 0) (fun r=>.ok r)))
else
(.ok 350)
def Uc (a:Lease)(b:Int):R Bool:=
 .ok (a.Slot==b)
def Hk (s1:Int)(j:Nat)(a:Lease):R (Unit ⊕ Int):=
 (Uc a s1).bind fun r=>
 if r then
(.ok (.inr ((j:Int))))
else
(.ok (.inl ()))
def Jh (s:List Lease)(s1:Int):R Int:=
 (each (fun j a=>fun _=>Hk s1 j a) 0 s ()).bind (alt (fun _=>.ok (-1)) (fun r=>.ok r))
def Uq (l:Leases)(slot:Int):R (Lease×Bool):=
 (Jh l.List slot).bind fun i=>
 if i<0 then
(.ok (({ Slot:=0,Airline:=0,Flight:=0,Token:=0,Used:=false }:Lease),false))
else
((idx l.List i).bind fun a=>
 .ok (a,true))
def Kw (x:Int)(x1:Bool):R (Int ⊕ (Unit ⊕ Bool)):=
 if x1 then
(.ok (.inr (.inr (false))))
else
(.ok (.inl (IntKind.wrap .i64 (x+1))))
def Rj (c:Clearing)(l:Leases)(x:Int):R (Int ⊕ (Unit ⊕ Bool)):=
 if x<c.Slots then
((Uq l x).bind fun r1=>
 if(!(r1.2==(decide (x<(c.Flights.length:Int))))) then
(Kw x true)
else
(if r1.2 then
((idx c.Owners x).bind fun a=>
 if(r1.1.Airline != a) then
(Kw x true)
else
((idx c.Flights x).bind fun a1=>
 if(r1.1.Flight != a1) then
(Kw x true)
else
(Kw x r1.1.Used)))
else
(Kw x false)))
else
(.ok (.inr (.inl (()))))
def Ri:R Bool:=
 .ok true
def Yc (c:Clearing)(l:Leases):R Bool:=
 (X1 l).bind fun r=>
 if(r != 0) then
(.ok false)
else
((loop (fun x=>Rj c l x) 0).bind (alt (fun _=>Ri) (fun r=>.ok r)))
def N0 (c:Clearing)(l:Leases)(j:Nat)(a:Int)(x1:List Command):R (List Command):=
 if(a==(j:Int)) then
(.ok x1)
else
((idx c.Owners (j:Int)).bind fun a1=>
 (idx c.Flights (j:Int)).bind fun a2=>
 (Uq l a).bind fun r1=>
 if r1.2 then
(if(x1.length+[({ Kind:=2,Slot:=a,Airline:=a1,Flight:=a2,Token:=r1.1.Token }:Command)].length) * 40≤Bs then
 .ok (x1++[({ Kind:=2,Slot:=a,Airline:=a1,Flight:=a2,Token:=r1.1.Token }:Command)]) else .bad)
else
(if(x1.length+[({ Kind:=1,Slot:=a,Airline:=a1,Flight:=a2,Token:=0 }:Command)].length) * 40≤Bs then
 .ok (x1++[({ Kind:=1,Slot:=a,Airline:=a1,Flight:=a2,Token:=0 }:Command)]) else .bad))
def Qk (c:Clearing)(l:Leases):R ((List Command)×Int):=
 (Fx c).bind fun e=>
 if(e != 0) then
(.ok ([],e))
else
(if((c.Phase != 3)&&(c.Phase != 4)) then
(.ok ([],401))
else
((Yc c l).bind fun r=>
 if r then
((eachS (fun j a=>fun x1=>N0 c l j a x1) 0 c.Outcome []).bind ((fun x1=>.ok (x1,0))))
else
(.ok ([],400))))
def Lx (b:List Int)(j:Nat)(a1:Int):R (Unit ⊕ Bool):=
 (idx b (j:Int)).bind fun a2=>
 if(a1 != a2) then
(.ok (.inr (false)))
else
(.ok (.inl ()))
def Gj (a:List Int)(b:List Int):R Bool:=
 if((a.length:Int) != (b.length:Int)) then
(.ok false)
else
((each (fun j a1=>fun _=>Lx b j a1) 0 a ()).bind (alt (fun _=>.ok true) (fun r=>.ok r)))
def Ob (b:Round)(j:Nat)(a1:List Int):R (Unit ⊕ Bool):=
 (idx b.Costs (j:Int)).bind fun a2=>
 (Gj a1 a2).bind fun r1=>
 if r1 then
(.ok (.inl ()))
else
(.ok (.inr (false)))
def Tg (a:Round)(b:Round):R Bool:=
 (if(a.Slots != b.Slots) then R.ok true else(Gj a.Owners b.Owners).bind fun r=>
 R.ok (!r)).bind (fun(b1:Bool)=>if(b1||((a.Costs.length:Int) != (b.Costs.length:Int))) then
(.ok false)
else
((each (fun j a1=>fun _=>Ob b j a1) 0 a.Costs ()).bind (alt (fun _=>.ok true) (fun r=>.ok r))))
def Ln (b:List Command)(j:Nat)(a1:Command):R (Unit ⊕ Bool):=
 (idx b (j:Int)).bind fun a2=>
 if((a1.Kind==a2.Kind)&&((a1.Slot==a2.Slot)&&((a1.Airline==a2.Airline)&&((a1.Flight==a2.Flight)&&(a1.Token==a2.Token))))) then
(.ok (.inl ()))
else
(.ok (.inr (false)))
def Qs (a:List Command)(b:List Command):R Bool:=
 if((a.length:Int) != (b.length:Int)) then
(.ok false)
else
((each (fun j a1=>fun _=>Ln b j a1) 0 a ()).bind (alt (fun _=>.ok true) (fun r=>.ok r)))
def Tm:R Bool:=
 (Pk 1 2 [0,1,2] [0,1,2]).bind fun r=>
 (Xl 0).bind fun r1=>
 (J7 r1.1 1 (#v[1,0,0,0,0,0,0,0,0,0,0,0,0,0,0,0,0,0,0,0,0,0,0,0,0,0,0,0,0,0,0,0]:(Vector Int 32))).bind fun r2=>
 (Lf r1.1).bind fun r3=>
 (Qk r1.1 ({ Token:=0,List:=[] }:Leases)).bind fun r4=>
 (Me r1.1 ({ Airline:=0,Flight:=0,Slot:=0,Cost:=0,Salt:=(B0 32 0),Path:=[] }:Opening)).bind fun r5=>
 (Xl 6).bind fun r6=>
 (Lc r6.1).bind fun r7=>
 (Lf r6.1).bind fun r8=>
 (Qk r8.1 ({ Token:=2,List:=[({ Slot:=0,Airline:=0,Flight:=5,Token:=1,Used:=false }:Lease),({ Slot:=1,Airline:=3,Flight:=9,Token:=2,Used:=false }:Lease)] }:Leases)).bind fun r9=>
 (if(((((((((((((r.2 != 400)||(!r1.2))||(!r6.2))||(r2.2 != 400))||(r3.2 != 401))||(r4.2 != 401))||(r5.2 != 401))||(r7.2 != 0))||(r8.2 != 0))||(r9.2 != 0))||(r1.1.Phase != 1))||(r6.1.Phase != 2))||(r8.1.Phase != 3)) then R.ok true else(Fx r8.1).bind fun r10=>
 R.ok (r10 != 0)).bind (fun(b:Bool)=>if b then
(.ok false)
else
((Tg r7.1 ({ Slots:=2,Owners:=[0,3],Costs:=[[4,1],[2,6]] }:Round)).bind fun r11=>
 (if r11 then(Gj r8.1.Outcome [1,0]).bind fun r12=>
 R.ok r12 else R.ok false).bind (fun(b1:Bool)=>(if b1 then(Qs r9.1 [({ Kind:=2,Slot:=1,Airline:=0,Flight:=5,Token:=2 }:Command),({ Kind:=2,Slot:=0,Airline:=3,Flight:=9,Token:=1 }:Command)]).bind fun r13=>
 R.ok r13 else R.ok false).bind (fun(b2:Bool)=>.ok b2))))
def Ml (slots1:Int)(x1:Int)(l:List Int)(c:Int):R ((Int×Int×(List Int)) ⊕ ((Int×(List Int)) ⊕ ((List Int)×(List Int)×Int×(List (Int×(List Table)))×Bool))):=
 if((decide (c<(-1)))||(decide (c > 1048576))) then
(.ok (.inr (.inr (([],[],0,[],false)))))
else
(if(l.length+[c].length) * 8≤Bs then
 .ok (.inl (slots1,(IntKind.wrap .i64 (x1+1)),(l++[c]))) else .bad)
def Kp (p:T25)(slots:Int)(j:Nat)(slots1:Int)(x1:Int)(l:List Int):R ((Int×Int×(List Int)) ⊕ ((Int×(List Int)) ⊕ ((List Int)×(List Int)×Int×(List (Int×(List Table)))×Bool))):=
 if x1<slots then
((idx p.Costs (j:Int)).bind fun a2=>
 if x1<(a2.length:Int) then
((idx a2 x1).bind fun a3=>
 Ml slots1 x1 l a3)
else
(Ml slots1 x1 l 0))
else
(.ok (.inr (.inl ((slots1,l)))))
def Mi (m:(List (Int×(List Table))))(owners:List Int)(flights:List Int)(j:Nat)(a:Int)(vSalt:(Vector Int 32))(slots2:Int)(l1:List Int):R ((Int×(List (Int×(List Table)))×(List Int)×(List Int)) ⊕ ((List Int)×(List Int)×Int×(List (Int×(List Table)))×Bool)):=
 if((Option.getD (B3 m (Int.tmod (IntKind.wrap .i64 a) 8)) []).length+[({ Airline:=(Int.tmod (IntKind.wrap .i64 a) 8),Flight:=(IntKind.wrap .i64 (10+(j:Int))),Costs:=l1,Salt:=vSalt }:Table)].length) * 72≤Bs then
 .ok (.inl (slots2,(Hv m (Int.tmod (IntKind.wrap .i64 a) 8) ((Option.getD (B3 m (Int.tmod (IntKind.wrap .i64 a) 8)) [])++[({ Airline:=(Int.tmod (IntKind.wrap .i64 a) 8),Flight:=(IntKind.wrap .i64 (10+(j:Int))),Costs:=l1,Salt:=vSalt }:Table)])),(owners++[(Int.tmod (IntKind.wrap .i64 a) 8)]),(flights++[(IntKind.wrap .i64 (10+(j:Int)))]))) else .bad
def Mo (p:T25)(slots:Int)(m:(List (Int×(List Table))))(owners:List Int)(flights:List Int)(j:Nat)(a:Int)(vSalt:(Vector Int 32)):R ((Int×(List (Int×(List Table)))×(List Int)×(List Int)) ⊕ ((List Int)×(List Int)×Int×(List (Int×(List Table)))×Bool)):=
 (loop (Nf fun slots1 x1 l=>Kp p slots j slots1 x1 l) (slots,0,[])).bind (alt (C8 fun slots2 l1=>Mi m owners flights j a vSalt slots2 l1) (fun r=>.ok (.inr (r))))
def Mh (p:T25)(j:Nat)(a:Int)(slots:Int)(m:(List (Int×(List Table))))(owners:List Int)(flights:List Int):R ((Int×(List (Int×(List Table)))×(List Int)×(List Int)) ⊕ ((List Int)×(List Int)×Int×(List (Int×(List Table)))×Bool)):=
 if(owners.length+[(Int.tmod (IntKind.wrap .i64 a) 8)].length) * 8≤Bs then
 if(flights.length+[(IntKind.wrap .i64 (10+(j:Int)))].length) * 8≤Bs then
 if(j:Int)<(p.Salts.length:Int) then
((idx p.Salts (j:Int)).bind fun a1=>
 Mo p slots m owners flights j a a1)
else
(Mo p slots m owners flights j a (B0 32 0)) else .bad else .bad
def Og (p:T25):R ((List Int)×(List Int)×Int×(List (Int×(List Table)))×Bool):=
 if((((decide ((p.Owners.length:Int)<1))||(decide ((p.Owners.length:Int) > 4)))||(decide ((p.Owners.length:Int) > (IntKind.wrap .i64 ((Int.tmod (IntKind.wrap .i64 p.Slots) 5)+1)))))||((p.Costs.length:Int) != (p.Owners.length:Int))) then
(.ok ([],[],0,[],false))
else
((each (fun j a=>un4 fun slots m owners flights=>Mh p j a slots m owners flights) 0 p.Owners ((IntKind.wrap .i64 ((Int.tmod (IntKind.wrap .i64 p.Slots) 5)+1)),[],[],[])).bind (alt (un4 fun slots m owners flights=>.ok (owners,flights,slots,m,true)) (fun r=>.ok r)))
def Jn (a:(Int×(List Table))):R (Unit ⊕ Bool):=
 (Hw a.2).bind fun r=>
 if((r.2==0)&&(r.1==(#v[0,0,0,0,0,0,0,0,0,0,0,0,0,0,0,0,0,0,0,0,0,0,0,0,0,0,0,0,0,0,0,0]:(Vector Int 32)))) then
(.ok (.inr (true)))
else
(.ok (.inl ()))
def Qo (tables:(List (Int×(List Table)))):R Bool:=
 (Zy (fun a=>fun _=>Jn a) tables ()).bind (alt (fun _=>.ok false) (fun r=>.ok r))
def J4 (n:Int)(s:List Int):R (Int×(List Int)):=
 if(((s.length:Int)==0)||(n==0)) then
(.ok (0,s))
else
((idx s 0).bind fun a=>
 if n≠0 then if(0:Int)≤1∧1≤(s.length:Int) then
 .ok ((Int.tmod (IntKind.wrap .i64 a) n),(s.drop 1)) else .bad else .bad)
def Jp (r:((List Int)×(List Int)×Int×(List (Int×(List Table)))×Bool))(r1:(Clearing×Int))(j:Nat)(j1:Nat)(x5:Int)(x6:List Opening):R ((Int×(List Opening)) ⊕ ((List Opening) ⊕ (Clearing×Bool))):=
 if x5<r.2.2.1 then
((Lr (Option.getD (B3 r.2.2.2.1 (j:Int)) []) (j1:Int) x5).bind fun r2=>
 if(r2.2 != 0) then
(.ok (.inr (.inr ((r1.1,false)))))
else
(if(x6.length+[r2.1].length) * 88≤Bs then
 .ok (.inl ((IntKind.wrap .i64 (x5+1)),(x6++[r2.1]))) else .bad))
else
(.ok (.inr (.inl (x6))))
def Qg (x7:List Opening):R ((List Opening) ⊕ (Clearing×Bool)):=
 .ok (.inl x7)
def Lp (r:((List Int)×(List Int)×Int×(List (Int×(List Table)))×Bool))(r1:(Clearing×Int))(j:Nat)(j1:Nat)(x4:List Opening):R ((List Opening) ⊕ (Clearing×Bool)):=
 (loop (C8 fun x5 x6=>Jp r r1 j j1 x5 x6) (0,x4)).bind (alt (fun x7=>Qg x7) (fun r=>.ok (.inr (r))))
def J0 (r:((List Int)×(List Int)×Int×(List (Int×(List Table)))×Bool))(r1:(Clearing×Int))(j:Nat)(x1:List Int)(x2:List Opening):R (((List Int)×(List Opening)) ⊕ (Clearing×Bool)):=
 if(((Option.getD (B3 r.2.2.2.1 (j:Int)) []).length:Int)==0) then
(.ok (.inl (x1,x2)))
else
(if(x1.length+[(j:Int)].length) * 8≤Bs then
 (each (fun j1 _=>fun x4=>Lp r r1 j j1 x4) 0 (Option.getD (B3 r.2.2.2.1 (j:Int)) []) x2).bind (alt (fun x4=>.ok (.inl ((x1++[(j:Int)]),x4))) (fun r=>.ok (.inr (r)))) else .bad)
def H2 (r:((List Int)×(List Int)×Int×(List (Int×(List Table)))×Bool))(x8:List Int)(o:List Int)(o1:Clearing):R (((List Int)×(List Int)×Clearing) ⊕ (((List Int)×Clearing) ⊕ (Clearing×Bool))):=
 if(x8.length:Int) > 0 then
((J4 (x8.length:Int) o).bind fun r3=>
 (idx x8 r3.1).bind fun a3=>
 (Hw (Option.getD (B3 r.2.2.2.1 a3) [])).bind fun r4=>
 if(r4.2 != 0) then
(.ok (.inr (.inr ((o1,false)))))
else
((J7 o1 a3 r4.1).bind fun r5=>
 if(r5.2 != 0) then
(.ok (.inr (.inr ((r5.1,false)))))
else
(if(0:Int)≤r3.1∧r3.1≤(x8.length:Int) then
 if(0:Int)≤(IntKind.wrap .i64 (r3.1+1))∧(IntKind.wrap .i64 (r3.1+1))≤(x8.length:Int) then
 if(x8.take (Int.toNat r3.1)).length * 8≤Bs then
 if((x8.take (Int.toNat r3.1)).length+(x8.drop (Int.toNat (IntKind.wrap .i64 (r3.1+1)))).length) * 8≤Bs then
 .ok (.inl (((x8.take (Int.toNat r3.1))++(x8.drop (Int.toNat (IntKind.wrap .i64 (r3.1+1))))),r3.2,r5.1)) else .bad else .bad else .bad else .bad)))
else
(.ok (.inr (.inl ((o,o1)))))
def Ll (x9:List Opening)(o4:List Int)(o5:Clearing):R (((List Opening)×(List Int)×Clearing) ⊕ (Clearing ⊕ (Clearing×Bool))):=
 if(x9.length:Int) > 0 then
((J4 (x9.length:Int) o4).bind fun r6=>
 (idx x9 r6.1).bind fun a4=>
 (Me o5 a4).bind fun r7=>
 if(r7.2 != 0) then
(.ok (.inr (.inr ((r7.1,false)))))
else
(if(0:Int)≤r6.1∧r6.1≤(x9.length:Int) then
 if(0:Int)≤(IntKind.wrap .i64 (r6.1+1))∧(IntKind.wrap .i64 (r6.1+1))≤(x9.length:Int) then
 if(x9.take (Int.toNat r6.1)).length * 88≤Bs then
 if((x9.take (Int.toNat r6.1)).length+(x9.drop (Int.toNat (IntKind.wrap .i64 (r6.1+1)))).length) * 88≤Bs then
 .ok (.inl (((x9.take (Int.toNat r6.1))++(x9.drop (Int.toNat (IntKind.wrap .i64 (r6.1+1))))),r6.2,r7.1)) else .bad else .bad else .bad else .bad))
else
(.ok (.inr (.inl (o5))))
def Qi (o6:Clearing):R (Clearing×Bool):=
 .ok (o6,true)
def Ju (r:((List Int)×(List Int)×Int×(List (Int×(List Table)))×Bool))(x2:List Opening)(o2:List Int)(o3:Clearing):R (Clearing×Bool):=
 (loop (Nf fun x9 o4 o5=>Ll x9 o4 o5) (x2,o2,o3)).bind (alt (fun o6=>Qi o6) (fun r=>.ok r))
def Q4 (a:T25)(b:List Int):R (Clearing×Bool):=
 (Og a).bind fun r=>
 if r.2.2.2.2 then
((Pk 7 r.2.2.1 r.1 r.2.1).bind fun r1=>
 if(r1.2 != 0) then
(.ok (r1.1,false))
else
((each (fun j _=>C8 fun x1 x2=>J0 r r1 j x1 x2) 0 (List.range 8) ([],[])).bind (alt (C8 fun x1 x2=>(loop (Nf fun x8 o o1=>H2 r x8 o o1) (x1,b,r1.1)).bind (alt (C8 fun o2 o3=>Ju r x2 o2 o3) (fun r=>.ok r))) (fun r=>.ok r))))
else
(.ok (({ No:=0,Phase:=0,Slots:=0,Owners:=[],Flights:=[],Commitments:=[],Openings:=[],Outcome:=[] }:Clearing),false))
def Ki (x2:Bool):R (Unit ⊕ Bool):=
 if x2 then
(.ok (.inr (false)))
else
(.ok (.inl ()))
def Kk (r4:(Round×Int))(a2:Table):R (Unit ⊕ Bool):=
 if(decide ((IntKind.wrap .i64 (a2.Flight - 10))<0)) then
(Ki true)
else
(if(decide ((IntKind.wrap .i64 (a2.Flight - 10))≥(r4.1.Costs.length:Int))) then
(Ki true)
else
((idx r4.1.Costs (IntKind.wrap .i64 (a2.Flight - 10))).bind fun a3=>
 (Gj a3 a2.Costs).bind fun r9=>
 Ki (!r9)))
def H4 (r:Bool)(r1:((List Int)×(List Int)×Int×(List (Int×(List Table)))×Bool))(r4:(Round×Int))(j:Nat):R (Unit ⊕ Bool):=
 (each (fun _ a2=>fun _=>Kk r4 a2) 0 (Option.getD (B3 r1.2.2.2.1 (j:Int)) []) ()).bind (alt (fun _=>.ok (.inl ())) (fun r=>.ok (.inr (r))))
def Gr (j2:Nat)(a4:Int):R (Unit ⊕ Bool):=
 if(a4 != (j2:Int)) then
(.ok (.inr (false)))
else
(.ok (.inl ()))
def Pn (a:T25):R Bool:=
 (Tm).bind fun r=>
 if r then
(if(a.Order.length:Int) > 40 then
(.ok true)
else
((Og a).bind fun r1=>
 (if(!r1.2.2.2.2) then R.ok true else(Qo r1.2.2.2.1).bind fun r2=>
 R.ok r2).bind (fun(b:Bool)=>if b then
(.ok true)
else
((Q4 a a.Order).bind fun r3=>
 if r3.2 then
((Lc r3.1).bind fun r4=>
 (Lf r3.1).bind fun r5=>
 (if((r4.2 != 0)||(r5.2 != 0)) then R.ok true else(Fx r3.1).bind fun r6=>
 R.ok (r6 != 0)).bind (fun(b1:Bool)=>(if b1 then R.ok true else(Fx r5.1).bind fun r7=>
 R.ok (r7 != 0)).bind (fun(b2:Bool)=>(if(b2||(r4.1.Slots != r1.2.2.1)) then R.ok true else(Gj r4.1.Owners r1.1).bind fun r8=>
 R.ok (!r8)).bind (fun(b3:Bool)=>if((b3||((r4.1.Costs.length:Int) != (r1.2.1.length:Int)))||((r5.1.Outcome.length:Int) != (r1.2.1.length:Int))) then
(.ok false)
else
((each (fun j _=>fun _=>H4 r r1 r4 j) 0 (List.range 8) ()).bind (alt (fun _=>if(r5.1.Phase==3) then
((Hz r4.1 r5.1.Outcome).bind fun r10=>
 (Dz r4.1 r5.1.Outcome).bind fun r11=>
 .ok ((((r10.2==0)&&((r10.1.length:Int)==0))&&(r11.2==0))&&r11.1))
else
((each (fun j2 a4=>fun _=>Gr j2 a4) 0 r5.1.Outcome ()).bind (alt (fun _=>.ok (r5.1.Phase==4)) (fun r=>.ok r)))) (fun r=>.ok r)))))))
else
(.ok false)))))
else
(.ok false)
end
end Go.Am
namespace Go.Am
open Go
set_option linter.unusedVariables false
set_option linter.unusedSectionVars false
set_option linter.unusedSimpArgs false
section
variable {α:Type}
abbrev Sf (α:Type):=List (Int×List α×AV×Nat)
def kL (Q:Sf α):List (Int×List α):=Q.map fun q=>(q.1,q.2.1)
def kv (Q:Sf α):List (Int×AV):=Q.map fun q=>(q.1,q.2.2.1)
def sO (st:Nat)(e:α→List AV)(Q:Sf α)(i:Nat):Option AO:=match Q[i]? with
 | some q=>Ba q.2.2.1 q.2.2.2 st (q.2.1.map e)
 | none=>none
def Agh (ids:List Nat)(b:Nat)(Q:Sf α):Prop := ∀ i q,Q[i]? = some q→Bp q.2.2.1 (ix ids (b+i)) q.2.2.2 q.2.1.length
def Su:Sf α→Int→Nat
 | [],_=>0
 | q::Q,k=>if q.1==k then 0 else Su Q k+1
def Yn:Sf α→Int→List α×AV×Nat→Sf α
 | [],k,r=>[(k,r)]
 | q::Q,k,r=>if q.1==k then(k,r)::Q else q::Yn Q k r
theorem Apg (k:Int) : ∀ Q:Sf α,Su Q k≤Q.length
 | []=>Nat.le_refl _
 | q::Q=>by
  unfold Su
  split
  ·exact Nat.zero_le _
  ·exact Nat.succ_le_succ (Apg k Q)
theorem Ao0 (k:Int)(r:List α×AV×Nat) : ∀ Q:Sf α,(Yn Q k r).length≤Q.length+1
 | []=>Nat.le_refl _
 | q::Q=>by
  unfold Yn
  split
  ·exact Nat.le_succ _
  ·exact Nat.succ_le_succ (Ao0 k r Q)
theorem Ago (k:Int)(r:List α×AV×Nat) : ∀ (Q:Sf α) (i:Nat),(Yn Q k r)[i]? = if i=Su Q k then some (k,r) else Q[i]?
 | [],i=>by
  cases i with
  | zero=>rfl
  | succ i=>rfl
 | q::Q,i=>by
  unfold Yn Su
  split
  ·cases i with
   | zero=>rfl
   | succ i=>rfl
  ·cases i with
   | zero=>rfl
   | succ i=>
    have:=Ago k r Q i
    simp only [List.getElem?_cons_succ,this,Nat.add_right_cancel_iff]
theorem Aqq (k:Int)(r:List α×AV×Nat) : ∀ Q:Sf α,kL (Yn Q k r)=Hv (kL Q) k r.1
 | []=>rfl
 | q::Q=>by
  have ih:=Aqq k r Q
  unfold Yn
  simp only [kL,List.map_cons,Hv] at ih ⊢
  split
  ·rfl
  ·simp only [List.map_cons,ih]
theorem Apq (k:Int)(r:List α×AV×Nat) : ∀ Q:Sf α,kv (Yn Q k r)=Hv (kv Q) k r.2.1
 | []=>rfl
 | q::Q=>by
  have ih:=Apq k r Q
  unfold Yn
  simp only [kv,List.map_cons,Hv] at ih ⊢
  split
  ·rfl
  ·simp only [List.map_cons,ih]
theorem Ap3 (k:Int) : ∀ Q:Sf α,B3 (kL Q) k=(Q[Su Q k]?).map (·.2.1)
 | []=>rfl
 | q::Q=>by
  have ih:=Ap3 k Q
  unfold Su
  simp only [kL,B3,List.map_cons,List.find?_cons] at ih ⊢
  cases q.1==k with
  | true=>rfl
  | false=>simpa using ih
theorem Apj (k:Int) : ∀ Q:Sf α,B3 (kv Q) k=(Q[Su Q k]?).map (·.2.2.1)
 | []=>rfl
 | q::Q=>by
  have ih:=Apj k Q
  unfold Su
  simp only [kv,B3,List.map_cons,List.find?_cons] at ih ⊢
  cases q.1==k with
  | true=>rfl
  | false=>simpa using ih
theorem Avj {ids:List Nat}{b:Nat}:Agh ids b ([]:Sf α):=fun i q h=>by simp at h
theorem Aon {ids:List Nat}{b st:Nat}{e:α→List AV}{Q:Sf α}(h:Agh ids b Q)(k:Int) :
  Bp ((B3 (kv Q) k).getD .emp) (ix ids (b+Su Q k)) (((Q[Su Q k]?).map (·.2.2.2)).getD 0) ((B3 (kL Q) k).getD []).length∧sO st e Q (Su Q k)=Ba ((B3 (kv Q) k).getD .emp) (((Q[Su Q k]?).map (·.2.2.2)).getD 0) st (((B3 (kL Q) k).getD []).map e):=by
 rw [Apj,Ap3]
 unfold sO
 cases hq:Q[Su Q k]? with
 | none=>exact⟨.nil,rfl⟩
 | some q=>exact⟨h _ _ hq,rfl⟩
theorem Auw {ids:List Nat}{b:Nat}{Q:Sf α}(h:Agh ids b Q){k:Int}{L:List α}{v:AV}{g:Nat}(hv:Bp v (ix ids (b+Su Q k)) g L.length):Agh ids b (Yn Q k (L,v,g)):=by
 intro i q hq
 rw [Ago] at hq
 split at hq
 ·rename_i e
  cases hq
  rw [e]
  exact hv
 ·exact h i q hq
theorem Aum {st:Nat}{e:α→List AV}{Q:Sf α}{k:Int}{L:List α}{v:AV}{g:Nat}(i:Nat):sO st e (Yn Q k (L,v,g)) i=if i=Su Q k then Ba v g st (L.map e) else sO st e Q i:=by
 unfold sO
 rw [Ago]
 by_cases h:i=Su Q k
 ·rw [if_pos h,if_pos h]
 ·rw [if_neg h,if_neg h]
theorem Aso {a b c d f g:Option AO}{F:Nat→Option AO}{i:Nat}(hi:i<4):([a,b,c,d,f,g,F 0,F 1,F 2,F 3]:List (Option AO))[6+i]? = some (F i):=by
 match i,hi with
 | 0,_=>rfl
 | 1,_=>rfl
 | 2,_=>rfl
 | 3,_=>rfl
theorem Auv {a b c d f g X:Option AO}{F F':Nat→Option AO}{i:Nat}(hi:i<4)(h : ∀ q,F' q=if q=i then X else F q):([a,b,c,d,f,g,F 0,F 1,F 2,F 3]:List (Option AO)).set (6+i) X=[a,b,c,d,f,g,F' 0,F' 1,F' 2,F' 3]:=by
 match i,hi with
 | 0,_=>simp [h]
 | 1,_=>simp [h]
 | 2,_=>simp [h]
 | 3,_=>simp [h]
theorem Av8 {h h2:Ab}{ids:List Nat}{b o g st:Nat}{e:α→List AV}{Q:Sf α}(hm:Agh ids b Q)(h1:h o=some (.mp g (mE (fun x:Int=>AV.int .i64 x) (fun v:AV=>v) (kv Q))))(h2':h2 o=none)
  (ho : ∀ i,i<Q.length→h (ix ids (b+i))=sO st e Q i∧h2 (ix ids (b+i))=none) (hr : ∀ x,Cm st (e x)):Fz h h2 (.map o g) (.mapi (mE (fun x:Int=>AV.int .i64 x) (fun L:List α=>AV.sl st (L.map e)) (kL Q))):=by
 refine .map o g _ _ h1 h2' (by simp [mE,kv,kL]) (fun i hi=>?_) (fun i hi=>?_)
 ·have hi':i<Q.length:=by simpa [mE,kv] using hi
  have e1:(mE (fun x:Int=>AV.int .i64 x) (fun v:AV=>v) (kv Q)).getD i (.und,.und)=(.int .i64 Q[i].1,Q[i].2.2.1):=by simp [mE,kv,List.getD,hi']
  have e2:(mE (fun x:Int=>AV.int .i64 x) (fun L:List α=>AV.sl st (L.map e)) (kL Q)).getD i (.und,.und)=(.int .i64 Q[i].1,.sl st (Q[i].2.1.map e)):=by simp [mE,kL,List.getD,hi']
  rw [e1,e2]
  exact .same _
 ·have hi':i<Q.length:=by simpa [mE,kv] using hi
  have e1:(mE (fun x:Int=>AV.int .i64 x) (fun v:AV=>v) (kv Q)).getD i (.und,.und)=(.int .i64 Q[i].1,Q[i].2.2.1):=by simp [mE,kv,List.getD,hi']
  have e2:(mE (fun x:Int=>AV.int .i64 x) (fun L:List α=>AV.sl st (L.map e)) (kL Q)).getD i (.und,.und)=(.int .i64 Q[i].1,.sl st (Q[i].2.1.map e)):=by simp [mE,kL,List.getD,hi']
  rw [e1,e2]
  have hq:=List.getElem?_eq_getElem hi'
  obtain⟨k1,k2⟩:=ho i hi'
  refine E3 (hm i _ hq) ?_ k2 hr
  rw [k1]
  unfold sO
  rw [hq]
end
end Go.Am
namespace Go.Am
open Go Go.Proofs
set_option maxRecDepth 100000
set_option maxHeartbeats 4000000
set_option linter.unusedSimpArgs false
set_option linter.unusedVariables false
theorem Aqh {i:Nat}(h:i<4):Nat.blt (6+i) 10=true:=by
 simpa using (by omega:6+i<10)
theorem Y5 (p:T25):CP Tryz.prog 9 [(.agg (Rm p))] (Og p) (fun(p:((List Int)×(List Int)×Int×(List (Int×(List Table)))×Bool))=>AV.tup [(.sl 1 (List.map (rI .i64) p.1)),(.sl 1 (List.map (rI .i64) p.2.1)),(.int .i64 p.2.2.1),(.mapi (mE (fun x:Int=>(AV.int .i64 x)) (fun x:(List Table)=>(AV.sl 35 (List.map A4 x))) p.2.2.2.1)),(.bool p.2.2.2.2)]):=by
 refine ci 123 10 Tryz.func9 (Og.eq_1 _) fun h0 ids hI hF=>?_
 refine Ac ?_
 refine Ah ?_
 refine B7 0 (.agg (Rm p)) fun g=>?_
 refine Aa 5 [] [(3,.emp),(2,.emp)] ?_
 refine O ?_
 refine Ar ?_
 refine Ac ?_
 refine Ah ?_
 refine Aa 2 [0] [(14,(.sl 1 (List.map (rI .u8) p.Owners)))] ?_
 refine Bo p.Owners ?_
 refine Aw (.I (p.Owners.length:Int)) rfl Sq ?_
 refine O ?_
 refine Ac ?_
 refine Ah ?_
 refine Aa 2 [0] [(17,(.int .u8 p.Slots))] ?_
 refine Ax (.I (IntKind.wrap .i64 p.Slots)) ?_
 refine Aw (.I (Int.tmod (IntKind.wrap .i64 p.Slots) 5)) rfl (Bj rfl rfl (Ace rfl (by decide))) ?_
 refine Aa 2 [] [(4,(.I (IntKind.wrap .i64 ((Int.tmod (IntKind.wrap .i64 p.Slots) 5)+1))))] ?_
 refine O ?_
 refine Ac ?_
 refine Ac ?_
 refine Ah ?_
 refine Aa 3 [] [(23,(.bool (decide ((p.Owners.length:Int)<1))))] ?_
 refine B5 3 23 26 [1,2,3,4,7] (.bool ((decide ((p.Owners.length:Int)<1))||(decide ((p.Owners.length:Int) > 4)))) rfl ?_ (fun hb1 hJ=>?_) (fun hb1 hJ=>?_)
 ·refine Aw (.bool ((decide ((p.Owners.length:Int)<1))||(decide ((p.Owners.length:Int) > 4)))) rfl Bb ?_
  refine B5 4 27 31 [1,2,3,4,7] (.bool (((decide ((p.Owners.length:Int)<1))||(decide ((p.Owners.length:Int) > 4)))||(decide ((p.Owners.length:Int) > (IntKind.wrap .i64 ((Int.tmod (IntKind.wrap .i64 p.Slots) 5)+1)))))) rfl ?_ (fun hb3 hJ1=>?_) (fun hb3 hJ1=>?_)
  ·refine Aw (.bool (((decide ((p.Owners.length:Int)<1))||(decide ((p.Owners.length:Int) > 4)))||(decide ((p.Owners.length:Int) > (IntKind.wrap .i64 ((Int.tmod (IntKind.wrap .i64 p.Slots) 5)+1)))))) rfl Bb ?_
   refine B5 6 32 38 [1,2,3,4] (.bool ((((decide ((p.Owners.length:Int)<1))||(decide ((p.Owners.length:Int) > 4)))||(decide ((p.Owners.length:Int) > (IntKind.wrap .i64 ((Int.tmod (IntKind.wrap .i64 p.Slots) 5)+1)))))||((p.Costs.length:Int) != (p.Owners.length:Int)))) rfl ?_ (fun hb5 hJ2=>?_) (fun hb5 hJ2=>?_)
   ·refine O ?_
    refine A8 rfl (fun hc=>?_) (fun hc=>?_)
    ·refine Ac ?_
     refine Ah ?_
     refine Aa 5 [] [(6,(.bool false)),(5,.mnil),(4,(.I 0)),(3,.emp),(2,.emp)] ?_
     refine O ?_
     exact Bu (a:=([],[],0,[],false)) (vs:=[.emp,.emp,(.I 0),.mnil,(.bool false)]) Tryz.func9 hI rfl (.tupL (.cons (.emp _) (.cons (.emp _) (.cons (.same _) (.cons .mnil (.cons (.same _) .nil))))))
    have hn4:p.Owners.length≤4:=by
     simp only [Bool.or_eq_false_iff,decide_eq_false_iff_not] at hc
     omega
    refine Ai ?_
    refine Ac ?_
    refine Ah ?_
    refine V1 (j:=1) hI rfl rfl rfl rfl fun g1=>?_
    refine Aw (.map (ix ids 1) g1) rfl Sq ?_
    refine O ?_
    refine Ar ?_
    refine Ac ?_
    refine Ac ?_
    refine Ah ?_
    refine Aa 2 [0] [(41,(.sl 1 (List.map (rI .u8) p.Owners)))] ?_
    refine Bo p.Owners ?_
    refine Aw (.I 0) rfl Bb ?_
    refine O ?_
    refine An ?_
    refine Cr (t:=41) (L:=p.Owners) rfl fun hlim=>?_
    refine B4 [1,2,3,4,5,42,43] ?_
    refine Dj (P:=Tryz.prog) p.Owners (fun j a=>un4 fun slots m owners flights=>Mh p j a slots m owners flights) ((alt (un4 fun slots m owners flights=>.ok (owners,flights,slots,m,true)) (fun r=>.ok r)):((Int×(List (Int×(List Table)))×(List Int)×(List Int)) ⊕ ((List Int)×(List Int)×Int×(List (Int×(List Table)))×Bool))→R ((List Int)×(List Int)×Int×(List (Int×(List Table)))×Bool)) (fun j=>un4 fun slots m owners flights=>fun(fr:Nat→AV) (h:Ab) => ∃ (v:AV),∃ (g2:Nat),∃ (v1:AV),∃ (g3:Nat),∃ (Q:Sf Table),Bp v (ix ids 2) g2 owners.length∧Bp v1 (ix ids 3) g3 flights.length∧Agh ids 6 Q∧Q.length≤j∧m=kL Q∧fr=Ae [(1,(.q ids 0 g)),(2,v),(3,v1),(4,(.I slots)),(5,(.map (ix ids 1) g1)),(42,(.I (p.Owners.length:Int))),(43,(.I (j:Int)))]∧h=hp h0 ids [(some (.rows g 5 [(Rm p)])),(some (.mp g1 (mE (fun x:Int=>(AV.I x)) (fun v:AV=>v) (kv Q)))),(Ba v g2 1 (List.map (rI .i64) owners)),(Ba v1 g3 1 (List.map (rI .i64) flights)),none,none,sO 35 A4 Q 0,sO 35 A4 Q 1,sO 35 A4 Q 2,sO 35 A4 Q 3]) ((IntKind.wrap .i64 ((Int.tmod (IntKind.wrap .i64 p.Slots) 5)+1)),[],[],[]) ?_ ?_ ?_
    ·exact⟨.emp,0,.emp,0,[],.nil,.nil,Avj,Nat.zero_le _,rfl,rfl,rfl⟩
    ·rintro j a ha W hW ⟨slots,m,owners,flights⟩ fr h ⟨v,g2,v1,g3,Q,vH,vH1,hQ,hQl,hm,rfl,rfl⟩
     refine Ag (m':=Mh p j a slots m owners flights) rfl (Ag (Mh.eq_1 _ _ _ _ _ _ _) ?_)
     refine Ac ?_
     refine Ah ?_
     refine Ax (.bool (decide ((j:Int)<(p.Owners.length:Int)))) ?_
     refine O ?_
     refine Ac ?_
     refine Bv rfl (Int.ofNat_lt.2 (As ha)) ?_
     refine Ai ?_
     refine Ac ?_
     refine An ?_
     refine Ac ?_
     refine Ah ?_
     refine Aa 2 [] [(8,(.I (j:Int)))] ?_
     refine O ?_
     refine Ac ?_
     refine Ah ?_
     refine Aa 3 [0] [(48,(.I (j:Int))),(47,(.sl 1 (List.map (rI .u8) p.Owners)))] ?_
     refine Aw (.cp [(.int .u8 a)] 0) rfl (At (Cn De Fe rfl ha)) ?_
     refine Ax (.int .u8 a) ?_
     refine Ax (.I (IntKind.wrap .i64 a)) ?_
     refine Aw (.I (Int.tmod (IntKind.wrap .i64 a) 8)) rfl (Bj rfl rfl (Ace rfl (by decide))) ?_
     refine Aw (.I (Int.tmod (IntKind.wrap .i64 a) 8)) rfl Sq ?_
     refine O ?_
     refine Ac ?_
     refine Ah ?_
     refine Aa 2 [] [(54,(.I (Int.tmod (IntKind.wrap .i64 a) 8))),(53,v)] ?_
     refine Dm (e:=(rI .i64)) (L:=[(Int.tmod (IntKind.wrap .i64 a) 8)]) (st:=1) (rows:=[[(.I (Int.tmod (IntKind.wrap .i64 a) 8))]]) rfl A6 Bh rfl rfl rfl rfl rfl (.cons (RowSim.refl _) .nil) (fun x=>Bl x) rfl rfl ?_
     refine B2 fun hl=>?_
     refine C7 (e:=(rI .i64)) (L:=owners) (L2:=[(Int.tmod (IntKind.wrap .i64 a) 8)]) (v:=v) (g:=g2) (st:=1) (j:=2) hI rfl rfl rfl rfl vH rfl (C1 rfl) A6 A6 rfl Bh rfl rfl rfl hl fun v2 g4 vH2=>?_
     refine Aa 3 [] [(59,(.I (IntKind.wrap .i64 (10+(j:Int))))),(57,v1)] ?_
     refine Dm (e:=(rI .i64)) (L:=[(IntKind.wrap .i64 (10+(j:Int)))]) (st:=1) (rows:=[[(.I (IntKind.wrap .i64 (10+(j:Int))))]]) rfl A6 Bh rfl rfl rfl rfl rfl (.cons (RowSim.refl _) .nil) (fun x=>Bl x) rfl rfl ?_
     refine B2 fun hl1=>?_
     refine C7 (e:=(rI .i64)) (L:=flights) (L2:=[(IntKind.wrap .i64 (10+(j:Int)))]) (v:=v1) (g:=g3) (st:=1) (j:=3) hI rfl rfl rfl rfl vH1 rfl (C1 rfl) A6 A6 rfl Bh rfl rfl rfl hl1 fun v3 g5 vH3=>?_
     refine Aa 2 [] [(3,v3),(2,v2)] ?_
     refine O ?_
     refine Ar ?_
     refine Ac ?_
     refine Ah ?_
     refine Aa 4 [] [(65,(.agg ((.I (Int.tmod (IntKind.wrap .i64 a) 8))::((.I (IntKind.wrap .i64 (10+(j:Int))))::(.emp::((rV (rI .u8)) (B0 32 0)++[]))))))] ?_
     refine Cp 4 Id fun g6=>?_
     refine Bt (.agg ((.I (Int.tmod (IntKind.wrap .i64 a) 8))::((.I (IntKind.wrap .i64 (10+(j:Int))))::(.emp::(List.append ((rV (rI .u8)) (B0 32 0)) []))))) ?_
     refine O ?_
     refine Ar ?_
     refine Ac ?_
     refine Ac ?_
     refine Ah ?_
     refine Aa 3 [0] [(68,(.sl 32 (List.map (rV (rI .u8)) p.Salts))),(66,(.I (j:Int)))] ?_
     refine Bo p.Salts ?_
     refine Ax (.bool (decide ((j:Int)<(p.Salts.length:Int)))) ?_
     refine O ?_
     refine Cu (fun vSalt=>Mo p slots m owners flights j a vSalt) (fun vSalt=>fun(fr:Nat→AV) (h:Ab)=>fr=Ae [(1,(.q ids 0 g)),(2,v2),(3,v3),(4,(.I slots)),(5,(.map (ix ids 1) g1)),(8,(.I (j:Int))),(9,(.I (Int.tmod (IntKind.wrap .i64 a) 8))),(10,(.q ids 4 g6)),(42,(.I (p.Owners.length:Int))),(43,(.I (j:Int)))]∧h=hp h0 ids [(some (.rows g 5 [(Rm p)])),(some (.mp g1 (mE (fun x:Int=>(AV.I x)) (fun v:AV=>v) (kv Q)))),(Ba v2 g4 1 (List.map (rI .i64) (owners++[(Int.tmod (IntKind.wrap .i64 a) 8)]))),(Ba v3 g5 1 (List.map (rI .i64) (flights++[(IntKind.wrap .i64 (10+(j:Int)))]))),(some (.rows g6 35 [((.I (Int.tmod (IntKind.wrap .i64 a) 8))::((.I (IntKind.wrap .i64 (10+(j:Int))))::(.emp::((rV (rI .u8)) vSalt++[]))))])),none,sO 35 A4 Q 0,sO 35 A4 Q 1,sO 35 A4 Q 2,sO 35 A4 Q 3]) ?_ fun hJ6=>?_
     ·rintro vSalt fr h ⟨rfl,rfl⟩
      refine Ag (Mo.eq_1 _ _ _ _ _ _ _ _) ?_
      refine Ac ?_
      refine Ac ?_
      refine Ah ?_
      refine Aa 2 [] [(78,(.I 0)),(77,(.I slots))] ?_
      refine O ?_
      refine Cu (C8 fun slots2 l1=>Mi m owners flights j a vSalt slots2 l1) (C8 fun slots2 l1=>fun(fr:Nat→AV) (h:Ab) => ∃ (v6:AV),∃ (g9:Nat),Bp v6 (ix ids 5) g9 l1.length∧fr=Ae [(1,(.q ids 0 g)),(2,v2),(3,v3),(4,(.I slots2)),(5,(.map (ix ids 1) g1)),(9,(.I (Int.tmod (IntKind.wrap .i64 a) 8))),(10,(.q ids 4 g6)),(42,(.I (p.Owners.length:Int))),(43,(.I (j:Int)))]∧h=hp h0 ids [(some (.rows g 5 [(Rm p)])),(some (.mp g1 (mE (fun x:Int=>(AV.I x)) (fun v:AV=>v) (kv Q)))),(Ba v2 g4 1 (List.map (rI .i64) (owners++[(Int.tmod (IntKind.wrap .i64 a) 8)]))),(Ba v3 g5 1 (List.map (rI .i64) (flights++[(IntKind.wrap .i64 (10+(j:Int)))]))),(some (.rows g6 35 [((.I (Int.tmod (IntKind.wrap .i64 a) 8))::((.I (IntKind.wrap .i64 (10+(j:Int))))::(v6::((rV (rI .u8)) vSalt++[]))))])),(Ba v6 g9 1 (List.map (rI .i64) l1)),sO 35 A4 Q 0,sO 35 A4 Q 1,sO 35 A4 Q 2,sO 35 A4 Q 3]) ?_ fun hJ5=>?_
      ·rintro⟨slots2,l1⟩ fr h ⟨v6,g9,vH6,rfl,rfl⟩
       refine Ag (Mi.eq_1 _ _ _ _ _ _ _ _) ?_
       refine Ah ?_
       refine Aa 4 [] [(113,(.I (Int.tmod (IntKind.wrap .i64 a) 8))),(112,(.map (ix ids 1) g1)),(111,(.I (Int.tmod (IntKind.wrap .i64 a) 8))),(110,(.map (ix ids 1) g1))] ?_
       refine Aw (Option.getD (B3 (kv Q) (Int.tmod (IntKind.wrap .i64 a) 8)) AV.emp) rfl (Qa (Pe (eK:=(fun x:Int=>(AV.I x))) (eV:=(fun v:AV=>v)) (zv:=AV.emp) (Pl (hI.at rfl rfl)) Abu Bh Oi Fs rfl).1) ?_
       refine Aa 1 [4] [(115,(.agg ((.I (Int.tmod (IntKind.wrap .i64 a) 8))::((.I (IntKind.wrap .i64 (10+(j:Int))))::(v6::((rV (rI .u8)) vSalt++[]))))))] ?_
       refine Yz (h2:=hp h0 ids [(some (.rows g 5 [(Rm p)])),(some (.mp g1 (mE (fun x:Int=>(AV.I x)) (fun v:AV=>v) (kv Q)))),(Ba v2 g4 1 (List.map (rI .i64) (owners++[(Int.tmod (IntKind.wrap .i64 a) 8)]))),(Ba v3 g5 1 (List.map (rI .i64) (flights++[(IntKind.wrap .i64 (10+(j:Int)))]))),none,none,sO 35 A4 Q 0,sO 35 A4 Q 1,sO 35 A4 Q 2,sO 35 A4 Q 3]) [(1,(.q ids 0 g)),(2,v2),(3,v3),(4,(.I slots2)),(5,(.map (ix ids 1) g1)),(42,(.I (p.Owners.length:Int))),(43,(.I (j:Int))),(110,(.map (ix ids 1) g1)),(111,(.I (Int.tmod (IntKind.wrap .i64 a) 8))),(114,(Option.getD (B3 (kv Q) (Int.tmod (IntKind.wrap .i64 a) 8)) AV.emp)),(115,(.agg (A4 ({ Airline:=(Int.tmod (IntKind.wrap .i64 a) 8),Flight:=(IntKind.wrap .i64 (10+(j:Int))),Costs:=l1,Salt:=vSalt }:Table))))] (Drops.sub (.keep (.keep (.keep (.keep (.drop (.drop (.keep (.keep (.keep (.keep .nil)))))))))) hI.len) (.cons (.same _) (.cons (.same _) (.cons (.same _) (.cons (.same _) (.cons (.same _) (.cons (.same _) (.cons (.same _) (.cons (.same _) (.cons (.same _) (.cons (.same _) (.cons (.aggL (.cons (.same _) (.cons (.same _) (.cons (E3 vH6 (hI.at rfl rfl) (hI.at rfl rfl) (fun x=>Bl x)) (Abf _ .nil))))) .nil))))))))))) rfl rfl ?_
       refine Dm (e:=A4) (L:=[({ Airline:=(Int.tmod (IntKind.wrap .i64 a) 8),Flight:=(IntKind.wrap .i64 (10+(j:Int))),Costs:=l1,Salt:=vSalt }:Table)]) (st:=35) (rows:=[((.I ({ Airline:=(Int.tmod (IntKind.wrap .i64 a) 8),Flight:=(IntKind.wrap .i64 (10+(j:Int))),Costs:=l1,Salt:=vSalt }:Table).Airline)::((.I ({ Airline:=(Int.tmod (IntKind.wrap .i64 a) 8),Flight:=(IntKind.wrap .i64 (10+(j:Int))),Costs:=l1,Salt:=vSalt }:Table).Flight)::((.sl 1 (List.map (rI .i64) ({ Airline:=(Int.tmod (IntKind.wrap .i64 a) 8),Flight:=(IntKind.wrap .i64 (10+(j:Int))),Costs:=l1,Salt:=vSalt }:Table).Costs))::((rV (rI .u8)) ({ Airline:=(Int.tmod (IntKind.wrap .i64 a) 8),Flight:=(IntKind.wrap .i64 (10+(j:Int))),Costs:=l1,Salt:=vSalt }:Table).Salt++[]))))]) rfl Oi Id rfl rfl rfl rfl rfl (.cons (RowSim.refl _) .nil) (fun x=>Z0 x) rfl rfl ?_
       refine B2 fun hl3=>?_
       have hi4:Su Q (Int.tmod (IntKind.wrap .i64 a) 8)<4:=Nat.lt_of_le_of_lt (Nat.le_trans (Apg _ Q) hQl) (Nat.lt_of_lt_of_le (As ha) hn4)
       subst hm
       refine C7 (e:=A4) (L:=(Option.getD (B3 (kL Q) (Int.tmod (IntKind.wrap .i64 a) 8)) [])) (L2:=[({ Airline:=(Int.tmod (IntKind.wrap .i64 a) 8),Flight:=(IntKind.wrap .i64 (10+(j:Int))),Costs:=l1,Salt:=vSalt }:Table)]) (v:=(Option.getD (B3 (kv Q) (Int.tmod (IntKind.wrap .i64 a) 8)) AV.emp)) (g:=(((Q[Su Q (Int.tmod (IntKind.wrap .i64 a) 8)]?).map (·.2.2.2)).getD 0)) (st:=35) (j:=6+Su Q (Int.tmod (IntKind.wrap .i64 a) 8)) hI rfl (Aqh hi4) rfl rfl (Aon (st:=35) (e:=A4) hQ _).1 ((Aso hi4).trans (congrArg some (Aon hQ _).2)) (C1 rfl) Oi Oi rfl Id rfl rfl rfl hl3 fun v7 g10 vH7=>?_
       refine Aw6 ?_ (Auv (F:=sO 35 A4 Q) (F':=sO 35 A4 (Yn Q (Int.tmod (IntKind.wrap .i64 a) 8) (((Option.getD (B3 (kL Q) (Int.tmod (IntKind.wrap .i64 a) 8)) [])++[({ Airline:=(Int.tmod (IntKind.wrap .i64 a) 8),Flight:=(IntKind.wrap .i64 (10+(j:Int))),Costs:=l1,Salt:=vSalt }:Table)]),v7,g10))) hi4 (fun q=>Aum q))
       refine O4 (j:=1) (eK:=(fun x:Int=>(AV.I x))) (eV:=(fun v:AV=>v)) (M:=(kv Q)) (ky:=(Int.tmod (IntKind.wrap .i64 a) 8)) (w:=v7) hI rfl rfl rfl rfl rfl rfl Abu Bh Fs ?_
       rw [← Apq (Int.tmod (IntKind.wrap .i64 a) 8) (((Option.getD (B3 (kL Q) (Int.tmod (IntKind.wrap .i64 a) 8)) [])++[({ Airline:=(Int.tmod (IntKind.wrap .i64 a) 8),Flight:=(IntKind.wrap .i64 (10+(j:Int))),Costs:=l1,Salt:=vSalt }:Table)]),v7,g10) Q]
       refine O ?_
       refine Ar ?_
       refine Ay ?_
       refine Ah ?_
       refine Aa 2 [] [(43,(.I (IntKind.wrap .i64 ((j:Int)+1))))] ?_
       refine O ?_
       exact A3 (Dp (hW (slots2,(Hv (kL Q) (Int.tmod (IntKind.wrap .i64 a) 8) ((Option.getD (B3 (kL Q) (Int.tmod (IntKind.wrap .i64 a) 8)) [])++[({ Airline:=(Int.tmod (IntKind.wrap .i64 a) 8),Flight:=(IntKind.wrap .i64 (10+(j:Int))),Costs:=l1,Salt:=vSalt }:Table)])),(owners++[(Int.tmod (IntKind.wrap .i64 a) 8)]),(flights++[(IntKind.wrap .i64 (10+(j:Int)))])) _ _ ⟨v2,g4,v3,g5,Yn Q (Int.tmod (IntKind.wrap .i64 a) 8) (((Option.getD (B3 (kL Q) (Int.tmod (IntKind.wrap .i64 a) 8)) [])++[({ Airline:=(Int.tmod (IntKind.wrap .i64 a) 8),Flight:=(IntKind.wrap .i64 (10+(j:Int))),Costs:=l1,Salt:=vSalt }:Table)]),v7,g10),vH2,vH3,Auw hQ vH7,Nat.le_trans (Ao0 _ _ Q) (Nat.succ_le_succ hQl),(Aqq (Int.tmod (IntKind.wrap .i64 a) 8) (((Option.getD (B3 (kL Q) (Int.tmod (IntKind.wrap .i64 a) 8)) [])++[({ Airline:=(Int.tmod (IntKind.wrap .i64 a) 8),Flight:=(IntKind.wrap .i64 (10+(j:Int))),Costs:=l1,Salt:=vSalt }:Table)]),v7,g10) Q).symm,rfl,rfl⟩)) (.cons rfl (.cons rfl (.cons rfl (.cons rfl (.cons rfl (.cons rfl (.cons (Gf (As ha) hlim) .nil)))))))
      refine An ?_
      refine B4 [1,2,3,4,5,8,9,10,42,43,77,78] ?_
      refine Ga (P:=Tryz.prog) (Nf fun slots1 x1 l=>Kp p slots j slots1 x1 l) ((alt (C8 fun slots2 l1=>Mi m owners flights j a vSalt slots2 l1) (fun r=>.ok (.inr (r)))):((Int×(List Int)) ⊕ ((List Int)×(List Int)×Int×(List (Int×(List Table)))×Bool))→R ((Int×(List (Int×(List Table)))×(List Int)×(List Int)) ⊕ ((List Int)×(List Int)×Int×(List (Int×(List Table)))×Bool))) (Nf fun slots1 x1 l=>fun(fr:Nat→AV) (h:Ab) => ∃ (v4:AV),∃ (g7:Nat),Bp v4 (ix ids 5) g7 l.length∧fr=Ae [(1,(.q ids 0 g)),(2,v2),(3,v3),(4,(.I slots1)),(5,(.map (ix ids 1) g1)),(8,(.I (j:Int))),(9,(.I (Int.tmod (IntKind.wrap .i64 a) 8))),(10,(.q ids 4 g6)),(42,(.I (p.Owners.length:Int))),(43,(.I (j:Int))),(77,(.I slots)),(78,(.I x1))]∧h=hp h0 ids [(some (.rows g 5 [(Rm p)])),(some (.mp g1 (mE (fun x:Int=>(AV.I x)) (fun v:AV=>v) (kv Q)))),(Ba v2 g4 1 (List.map (rI .i64) (owners++[(Int.tmod (IntKind.wrap .i64 a) 8)]))),(Ba v3 g5 1 (List.map (rI .i64) (flights++[(IntKind.wrap .i64 (10+(j:Int)))]))),(some (.rows g6 35 [((.I (Int.tmod (IntKind.wrap .i64 a) 8))::((.I (IntKind.wrap .i64 (10+(j:Int))))::(v4::((rV (rI .u8)) vSalt++[]))))])),(Ba v4 g7 1 (List.map (rI .i64) l)),sO 35 A4 Q 0,sO 35 A4 Q 1,sO 35 A4 Q 2,sO 35 A4 Q 3]) (slots,0,[]) ?_ ?_
      ·exact⟨.emp,0,.nil,rfl,rfl⟩
      rintro vW1 hW1 ⟨slots1,x1,l⟩ fr h ⟨v4,g7,vH4,rfl,rfl⟩
      refine Ag (m':=Kp p slots j slots1 x1 l) rfl (Ag (Kp.eq_1 _ _ _ _ _ _) ?_)
      refine Ac ?_
      refine Ah ?_
      refine Ax (.bool (decide (x1<slots))) ?_
      refine O ?_
      refine Ac ?_
      refine Cs rfl (fun hc2=>?_) (fun hc2=>?_)
      ·refine Ai ?_
       refine Ac ?_
       refine An ?_
       refine Ac ?_
       refine Ah ?_
       refine Aa 2 [] [(11,(.I x1))] ?_
       refine O ?_
       refine Ac ?_
       refine Ah ?_
       refine Aw (.I 0) rfl Sq ?_
       refine O ?_
       refine Ac ?_
       refine Ac ?_
       refine Ah ?_
       refine Aa 4 [0] [(84,(.I (j:Int))),(83,(.sl 1 (List.map (rL 1 (rI .i64)) p.Costs))),(81,(.I x1))] ?_
       refine G9 fun a2 hz1 hx2=>?_
       refine Aw (.cp [(.sl 1 (List.map (rI .i64) a2))] 0) rfl (At (Ca Ni A6 rfl hz1 hx2)) ?_
       refine Ax (.sl 1 (List.map (rI .i64) a2)) ?_
       refine Bo a2 ?_
       refine Ax (.bool (decide (x1<(a2.length:Int)))) ?_
       refine O ?_
       refine Cu (fun c=>Ml slots1 x1 l c) (fun c=>fun(fr:Nat→AV) (h:Ab)=>fr=Ae [(1,(.q ids 0 g)),(2,v2),(3,v3),(4,(.I slots1)),(5,(.map (ix ids 1) g1)),(8,(.I (j:Int))),(9,(.I (Int.tmod (IntKind.wrap .i64 a) 8))),(10,(.q ids 4 g6)),(12,(.I c)),(42,(.I (p.Owners.length:Int))),(43,(.I (j:Int))),(77,(.I slots)),(78,(.I x1))]∧h=hp h0 ids [(some (.rows g 5 [(Rm p)])),(some (.mp g1 (mE (fun x:Int=>(AV.I x)) (fun v:AV=>v) (kv Q)))),(Ba v2 g4 1 (List.map (rI .i64) (owners++[(Int.tmod (IntKind.wrap .i64 a) 8)]))),(Ba v3 g5 1 (List.map (rI .i64) (flights++[(IntKind.wrap .i64 (10+(j:Int)))]))),(some (.rows g6 35 [((.I (Int.tmod (IntKind.wrap .i64 a) 8))::((.I (IntKind.wrap .i64 (10+(j:Int))))::(v4::((rV (rI .u8)) vSalt++[]))))])),(Ba v4 g7 1 (List.map (rI .i64) l)),sO 35 A4 Q 0,sO 35 A4 Q 1,sO 35 A4 Q 2,sO 35 A4 Q 3]) ?_ fun hJ4=>?_
       ·rintro c fr h ⟨rfl,rfl⟩
        refine Ag (Ml.eq_1 _ _ _ _) ?_
        refine Ac ?_
        refine Ac ?_
        refine Ah ?_
        refine Aa 3 [] [(99,(.bool (decide (c<(-1)))))] ?_
        refine B5 3 99 102 [1,2,3,4,5,8,9,10,12,42,43,77,78] (.bool ((decide (c<(-1)))||(decide (c > 1048576)))) rfl ?_ (fun hb7 hJ3=>?_) (fun hb7 hJ3=>?_)
        ·refine O ?_
         refine A8 rfl (fun hc4=>?_) (fun hc4=>?_)
         ·refine Ac ?_
          refine Ah ?_
          refine Aa 5 [] [(6,(.bool false)),(5,.mnil),(4,(.I 0)),(3,.emp),(2,.emp)] ?_
          refine O ?_
          refine Eb ?_
          refine C9 ?_
          refine D0 ?_
          refine C9 ?_
          exact Bu (a:=([],[],0,[],false)) (vs:=[.emp,.emp,(.I 0),.mnil,(.bool false)]) Tryz.func9 hI rfl (.tupL (.cons (.emp _) (.cons (.emp _) (.cons (.same _) (.cons .mnil (.cons (.same _) .nil))))))
         refine Ai ?_
         refine Ah ?_
         refine Aa 3 [4] [(105,(.I c)),(104,v4)] ?_
         refine Dm (e:=(rI .i64)) (L:=[c]) (st:=1) (rows:=[[(.I c)]]) rfl A6 Bh rfl rfl rfl rfl rfl (.cons (RowSim.refl _) .nil) (fun x=>Bl x) rfl rfl ?_
         refine B2 fun hl2=>?_
         refine C7 (e:=(rI .i64)) (L:=l) (L2:=[c]) (v:=v4) (g:=g7) (st:=1) (j:=5) hI rfl rfl rfl rfl vH4 rfl (C1 rfl) A6 A6 rfl Bh rfl rfl rfl hl2 fun v5 g8 vH5=>?_
         refine Ax (.ptr (ix ids 4) g6 0 2) ?_
         refine B8 (T7 vH5 hI rfl rfl rfl rfl A6 rfl rfl rfl) ?_
         refine O ?_
         refine Ar ?_
         refine Ay ?_
         refine Ah ?_
         refine Aa 2 [] [(78,(.I (IntKind.wrap .i64 (x1+1))))] ?_
         refine O ?_
         exact A3 (E7 (hW1 (slots1,(IntKind.wrap .i64 (x1+1)),(l++[c])) _ _ ⟨v5,g8,vH5,rfl,rfl⟩))
        ·refine Aa 3 [] [(102,(.bool true)),(101,.und),(100,.und)] ?_
         exact A5 hJ3 (.cons rfl (.cons rfl (.cons rfl (.cons rfl (.cons rfl (.cons rfl (.cons rfl (.cons rfl (.cons rfl (.cons rfl (.cons rfl (.cons rfl (.cons rfl (.cons (Du hb7) .nil))))))))))))))
        refine Aa 3 [] [(102,(.bool (decide (c > 1048576)))),(101,(.bool (decide (c > 1048576)))),(100,(.I c))] ?_
        exact A5 hJ3 (.cons rfl (.cons rfl (.cons rfl (.cons rfl (.cons rfl (.cons rfl (.cons rfl (.cons rfl (.cons rfl (.cons rfl (.cons rfl (.cons rfl (.cons rfl (.cons (Dw hb7) .nil))))))))))))))
       refine Cs rfl (fun hc3=>?_) (fun hc3=>?_)
       ·refine Ah ?_
        refine Aa 3 [0] [(91,(.I (j:Int))),(90,(.sl 1 (List.map (rL 1 (rI .i64)) p.Costs)))] ?_
        refine Aw (.cp [(.sl 1 (List.map (rI .i64) a2))] 0) rfl (At (Ca Ni A6 rfl hz1 hx2)) ?_
        refine Aa 2 [] [(94,(.I x1)),(93,(.sl 1 (List.map (rI .i64) a2)))] ?_
        refine G9 fun a3 hz2 hx3=>?_
        refine Aw (.cp [(.I a3)] 0) rfl (At (Ca A6 Bh rfl hz2 hx3)) ?_
        refine Aa 2 [] [(12,(.I a3))] ?_
        refine O ?_
        exact A3 (hJ4 a3 _ _ ⟨rfl,rfl⟩)
       refine Ai ?_
       exact A3 (hJ4 0 _ _ ⟨rfl,rfl⟩)
      refine Bd rfl ?_
      refine Eb ?_
      refine U4 ?_
      exact A3 (hJ5 (slots1,l) _ _ ⟨v4,g7,vH4,rfl,rfl⟩)
     refine Cs rfl (fun hc1=>?_) (fun hc1=>?_)
     ·refine Ah ?_
      refine Aa 3 [0] [(73,(.I (j:Int))),(72,(.sl 32 (List.map (rV (rI .u8)) p.Salts)))] ?_
      refine G9 fun a1 hz hx1=>?_
      refine Aw (.cp ((rV (rI .u8)) a1) 0) rfl (At (Ca Cy Bm rfl hz hx1)) ?_
      refine Aa 2 [] [(76,(.ptr (ix ids 4) g6 0 3)),(75,(.agg ((rV (rI .u8)) a1)))] ?_
      refine Bt (.agg ((rV (rI .u8)) a1)) ?_
      refine O ?_
      refine Ar ?_
      exact A3 (hJ6 a1 _ _ ⟨rfl,rfl⟩)
     refine Ai ?_
     exact A3 (hJ6 (B0 32 0) _ _ ⟨rfl,rfl⟩)
    rintro⟨slots,m,owners,flights⟩ fr h ⟨v,g2,v1,g3,Q,vH,vH1,hQ,hQl,hm,rfl,rfl⟩
    subst hm
    refine Ag (D3 _ _ _) ?_
    refine Ag (Avp _ _ _ _ _) ?_
    refine Ac ?_
    refine Ah ?_
    refine Ax (.bool (decide ((p.Owners.length:Int)<(p.Owners.length:Int)))) ?_
    refine O ?_
    refine Ac ?_
    refine Bw rfl (Int.lt_irrefl _) ?_
    refine Bd rfl ?_
    refine Ac ?_
    refine Ah ?_
    refine Aa 9 [] [(6,(.bool true)),(5,(.map (ix ids 1) g1)),(4,(.I slots)),(3,v1),(2,v)] ?_
    refine O ?_
    exact Bu (a:=(owners,flights,slots,kL Q,true)) (vs:=[v,v1,(.I slots),(.map (ix ids 1) g1),(.bool true)]) Tryz.func9 hI rfl (.tupL (.cons (E3 vH (hI.at rfl rfl) (hI.out rfl) (fun x=>Bl x)) (.cons (E3 vH1 (hI.at rfl rfl) (hI.out rfl) (fun x=>Bl x)) (.cons (.same _) (.cons (Av8 hQ (hI.at rfl rfl) (hI.out rfl) (fun i hi=>⟨hI.at rfl (Aso (Nat.lt_of_lt_of_le hi (Nat.le_trans hQl hn4))),hI.out (Aqh (Nat.lt_of_lt_of_le hi (Nat.le_trans hQl hn4)))⟩) (fun x=>Z0 x)) (.cons (.same _) .nil))))))
   ·refine Aa 6 [] [(38,(.bool true))] ?_
    exact A5 hJ2 (.cons rfl (.cons rfl (.cons rfl (.cons rfl (.cons (Du hb5) .nil)))))
   refine Aa 2 [0] [(34,(.sl 1 (List.map (rL 1 (rI .i64)) p.Costs)))] ?_
   refine Cf (tj:=32) (.I (p.Costs.length:Int)) rfl rfl rfl (Cc (C3 Ni)) ?_
   refine Aa 3 [] [(38,(.bool ((p.Costs.length:Int) != (p.Owners.length:Int))))] ?_
   exact A5 hJ2 (.cons rfl (.cons rfl (.cons rfl (.cons rfl (.cons (Dw hb5) .nil)))))
  ·refine Aa 4 [] [(31,(.bool true))] ?_
   exact A5 hJ1 (.cons rfl (.cons rfl (.cons rfl (.cons rfl (.cons rfl (.cons (Du hb3) .nil))))))
  refine Aa 4 [] [(31,(.bool (decide ((p.Owners.length:Int) > (IntKind.wrap .i64 ((Int.tmod (IntKind.wrap .i64 p.Slots) 5)+1))))))] ?_
  exact A5 hJ1 (.cons rfl (.cons rfl (.cons rfl (.cons rfl (.cons rfl (.cons (Dw hb3) .nil))))))
 ·refine Aa 3 [] [(26,(.bool true))] ?_
  exact A5 hJ (.cons rfl (.cons rfl (.cons rfl (.cons rfl (.cons rfl (.cons (Du hb1) .nil))))))
 refine Aa 3 [] [(26,(.bool (decide ((p.Owners.length:Int) > 4))))] ?_
 exact A5 hJ (.cons rfl (.cons rfl (.cons rfl (.cons rfl (.cons rfl (.cons (Dw hb1) .nil))))))
end Go.Am
namespace Go.Am
open Go Go.Proofs Go.Proofs.Tryz
set_option maxRecDepth 100000
set_option maxHeartbeats 4000000
set_option linter.unusedSimpArgs false
set_option linter.unusedVariables false
theorem Ac6 (l:List Int)(h0:Ab)(o0:Nat)(v:AV)(g:Nat)(hv:Bp v o0 g l.length)(hI0:Ids h0 [o0] 1):Mg l≠.bad→Bi Tryz.prog 88 [v] (hp h0 [o0] [Ba v g 1 (l.map rJ)]) (Ec (fun a_ v' h'=>v'=(.tup [])∧h'=hp h0 [o0] [Ba v g 1 ((K7 l).map rJ)]) h0 (Mg l)):=
 Anf hI0 (.mk Tryz.func88 rfl (by decide)) hv Go.Proofs.Tryz.slices_Sort_int Go.Proofs.Tryz.slices_Sort_int_none
theorem N3 (owners:List Int)(h0:Ab)(o0:Nat)(hI0:Ids h0 [o0] 1):F0 owners≠.bad→Bi Tryz.prog 50 [(.K owners)] (hp h0 [o0] [none]) (Ec (fun a_ v h' => ∃ (g3:Nat),v=(.tup [(.map o0 g3),(.K a_.1)])∧h'=hp h0 [o0] [some (.mp g3 (mE (fun x:Int=>(AV.int .i64 x)) (fun x:Int=>(AV.int .i64 x)) a_.2))]) h0 (F0 owners)):=by
 refine Ee (n:=36) 1 func50 J (by decide) J J hI0 J fun ids he hI=>?_
 clear hI0
 obtain rfl:ix ids 0=o0:=he 0 rfl
 clear he
 refine Em (Ag (F0.eq_1 _) ?_)
 refine Ar ?_
 refine Y<|Aa 2 [] [(3,.emp)]<|O<|Y<|V1 (j:=0) hI J J J J fun g=>Ad (.map (ix ids 0) g)<|O<|Ar ?_
 refine Ac<|Y<|Ap (.K owners)<|Bo owners<|Ap (.I 0)<|O<|An<|B4 [2,3,7,8,9] ?_
 refine C6 (P:=Tryz.prog) owners (fun _ a=>C8 fun m airlines=>Ha a m airlines) (((C8 fun m airlines=>(Mg airlines).bind fun _=>.ok ((K7 airlines),m))):((List (Int×Int))×(List Int))→R ((List Int)×(List (Int×Int)))) (fun j=>C8 fun m airlines=>fun fr h => ∃ (v1:AV),∃ (g1:Nat),Bp v1 (ix ids 1) g1 airlines.length∧fr=Ae [(2,.map (ix ids 0) g),(3,v1),(7,.K owners),(8,.I (owners.length:Int)),(9,.I j)]∧h=hp h0 ids [some (.mp g (mE (fun x:Int=>(AV.I x)) (fun x:Int=>(AV.I x)) m)),Ba v1 g1 1 (List.map rJ airlines)]) ([],[]) ?_ ?_ ?_
 ·exact⟨.emp,0,.nil,J,J⟩
 ·rintro j a ha W hW ⟨m,airlines⟩ fr h ⟨v1,g1,vH,rfl,rfl⟩
  refine Ag (m':=Ha a m airlines) J (Ag (Ha.eq_1 _ _ _) ?_)
  refine Y<|Ax (.B (decide ((j:Int)<(owners.length:Int))))<|O<|Ac<|Cr (t:=7) (L:=owners) J fun hlim=>Bv J (Int.ofNat_lt.2 (As ha))<|Ai<|Ac<|An<|Y<|Aw (.cp [.I a] 0) J (At (Cn A6 Bh J ha))<|Aa 2 [] [(5,.I a)]<|O<|Ac<|Y<|Aa 3 [] [(15,.B (decide (a<0)))]<|B5 3 15 18 [2,3,5,7,8,9] (.B ((decide (a<0))||(decide (a≥8)))) J ?_ (fun hb1 hJ=>?_) (fun hb1 hJ=>?_)
  ·refine O<|A8 J (fun hc=>?_) (fun hc=>?_)
   ·refine Bd J<|Ah<|Aa 2 [] [(9,.I (wi ((j:Int)+1)))]<|O<|A3 (Gb (hW (m,airlines) _ _ ⟨v1,g1,vH,J,J⟩)) (.r4 (.o (ic ha hlim)))
   refine Ai<|Ac<|Y<|Aa 2 [] [(20,.I a),(19,.map (ix ids 0) g)]<|Aw (.I (Option.getD (B3 m a) 0)) J (Qa (Pe (eK:=(fun x:Int=>(AV.I x))) (eV:=(fun x:Int=>(AV.I x))) (zv:=0) (Pl (hI.at J J)) Z4 Bh Bh Fs J).1)<|Ax (.B ((Option.getD (B3 m a) 0)==0))<|O<|A8 J (fun hc1=>?_) (fun hc1=>?_)
   ·refine Ah<|Aa 2 [] [(24,.I a),(23,v1)]<|Dm (e:=rJ) (L:=[a]) (st:=1) (rows:=[[.I a]]) J A6 Bh J J J J J (.cons (RowSim.refl _) .nil) (fun x=>Bl x) J J<|B2 fun hl=>C7 (e:=rJ) (L:=airlines) (L2:=[a]) (v:=v1) (g:=g1) (st:=1) (j:=1) hI J J J J vH J (C1 J) A6 A6 J Bh J J J hl fun v2 g2 vH1=>Ad v2<|O<|Ar ?_
    refine Ah<|Aa 2 [] [(28,.I a),(27,.map (ix ids 0) g)]<|Aw (.I (Option.getD (B3 m a) 0)) J (Qa (Pe (eK:=(fun x:Int=>(AV.I x))) (eV:=(fun x:Int=>(AV.I x))) (zv:=0) (Pl (hI.at J J)) Z4 Bh Bh Fs J).1)<|Ax (.I (wi ((Option.getD (B3 m a) 0)+1)))<|O4 (j:=0) (eK:=(fun x:Int=>(AV.I x))) (eV:=(fun x:Int=>(AV.I x))) (M:=m) (ky:=a) (w:=(wi ((Option.getD (B3 m a) 0)+1))) hI J J J J J J Z4 Bh Fs<|O<|Ar ?_
    refine Ay<|Ah<|Aa 2 [] [(9,.I (wi ((j:Int)+1)))]<|O<|A3 (Gb (hW ((Hv m a (wi ((Option.getD (B3 m a) 0)+1))),airlines++[a]) _ _ ⟨v2,g2,vH1,J,J⟩)) (.r4 (.o (ic ha hlim)))
   refine Ai<|Ah<|Aa 2 [] [(28,.I a),(27,.map (ix ids 0) g)]<|Aw (.I (Option.getD (B3 m a) 0)) J (Qa (Pe (eK:=(fun x:Int=>(AV.I x))) (eV:=(fun x:Int=>(AV.I x))) (zv:=0) (Pl (hI.at J J)) Z4 Bh Bh Fs J).1)<|Ax (.I (wi ((Option.getD (B3 m a) 0)+1)))<|O4 (j:=0) (eK:=(fun x:Int=>(AV.I x))) (eV:=(fun x:Int=>(AV.I x))) (M:=m) (ky:=a) (w:=(wi ((Option.getD (B3 m a) 0)+1))) hI J J J J J J Z4 Bh Fs<|O<|Ar ?_
   refine Ay<|Ah<|Aa 2 [] [(9,.I (wi ((j:Int)+1)))]<|O<|A3 (Gb (hW ((Hv m a (wi ((Option.getD (B3 m a) 0)+1))),airlines) _ _ ⟨v1,g1,vH,J,J⟩)) (.r4 (.o (ic ha hlim)))
  ·refine Aa 3 [] [(18,.B true),(17,.und),(16,.und)]<|A5 hJ (.r4 (.r2 (.cons (Du hb1) .nil)))
  refine Aa 3 [] [(18,.B (decide (a≥8))),(17,.B (decide (a≥8))),(16,.I a)]<|A5 hJ (.r4 (.r2 (.cons (Dw hb1) .nil)))
 rintro⟨m,airlines⟩ fr h ⟨v1,g1,vH,rfl,rfl⟩
 refine Ag (Akk _ _ _)<|Y<|Ax (.B (decide ((owners.length:Int)<(owners.length:Int))))<|O<|Ac<|Bw J (Int.lt_irrefl _)<|Bd J<|Y<|Ap v1<|D5 [1] hI J J (Ac6 airlines _ (ix ids 1) v1 g1 vH (by exact hI.sub' J J)) J J J J J J (fun v _=>E0 (K:=1) (N:=1) func50 hI) ?_
 rintro _ _ _ _ ⟨rfl,rfl⟩
 refine Hh [1] hI J J J ?_
 refine Ev<|O<|Ar ?_
 refine Y<|Aa 4 [] [(3,v1),(2,.map (ix ids 0) g)]<|O<|Fu (K:=1) (N:=1) [some (.mp g (mE (fun x:Int=>(AV.I x)) (fun x:Int=>(AV.I x)) m))] func50 hI J J J (.keep (.drop .nil)) (.tupL (.s (.cons (E3 (Bp.sort vH) (hI.at J J) (hI.at J J) (fun x=>Bl x)) .nil))) ⟨g,J,J⟩
theorem Ad9 (c):CP Tryz.prog 38 [.A (Aj c)] (Px c) AV.bool:=by
 refine ci 94 2 func38 (Px.eq_1 _) fun h0 ids hI hF=>Y<|B7 0 (.A (Aj c)) fun g=>Ad (.B false)<|O<|Ar ?_
 refine Ac<|Y<|Aa 4 [0] [(11,.B (decide (c.No<1)))]<|B5 4 11 15 [1] (.B ((decide (c.No<1))||(decide (c.No > 1048576)))) J ?_ (fun hb1 hJ=>?_) (fun hb1 hJ=>?_)
 ·refine Ap (.B ((decide (c.No<1))||(decide (c.No > 1048576))))<|B5 4 16 20 [1] (.B (((decide (c.No<1))||(decide (c.No > 1048576)))||(decide (c.Slots<1)))) J ?_ (fun hb3 hJ1=>?_) (fun hb3 hJ1=>?_)
  ·refine Ap (.B (((decide (c.No<1))||(decide (c.No > 1048576)))||(decide (c.Slots<1))))<|B5 4 21 25 [1] (.B ((((decide (c.No<1))||(decide (c.No > 1048576)))||(decide (c.Slots<1)))||(decide (c.Slots > 8)))) J ?_ (fun hb5 hJ2=>?_) (fun hb5 hJ2=>?_)
   ·refine Ap (.B ((((decide (c.No<1))||(decide (c.No > 1048576)))||(decide (c.Slots<1)))||(decide (c.Slots > 8))))<|B5 5 26 31 [1] (.B (((((decide (c.No<1))||(decide (c.No > 1048576)))||(decide (c.Slots<1)))||(decide (c.Slots > 8)))||(decide ((c.Flights.length:Int)<1)))) J ?_ (fun hb7 hJ3=>?_) (fun hb7 hJ3=>?_)
    ·refine Ap (.B (((((decide (c.No<1))||(decide (c.No > 1048576)))||(decide (c.Slots<1)))||(decide (c.Slots > 8)))||(decide ((c.Flights.length:Int)<1))))<|B5 7 32 39 [1] (.B ((((((decide (c.No<1))||(decide (c.No > 1048576)))||(decide (c.Slots<1)))||(decide (c.Slots > 8)))||(decide ((c.Flights.length:Int)<1)))||(decide ((c.Flights.length:Int) > c.Slots)))) J ?_ (fun hb9 hJ4=>?_) (fun hb9 hJ4=>?_)
     ·refine Ap (.B ((((((decide (c.No<1))||(decide (c.No > 1048576)))||(decide (c.Slots<1)))||(decide (c.Slots > 8)))||(decide ((c.Flights.length:Int)<1)))||(decide ((c.Flights.length:Int) > c.Slots))))<|B5 8 40 48 [1] (.B (((((((decide (c.No<1))||(decide (c.No > 1048576)))||(decide (c.Slots<1)))||(decide (c.Slots > 8)))||(decide ((c.Flights.length:Int)<1)))||(decide ((c.Flights.length:Int) > c.Slots)))||((c.Owners.length:Int) != (c.Flights.length:Int)))) J ?_ (fun hb11 hJ5=>?_) (fun hb11 hJ5=>?_)
      ·refine O<|A8 J (fun hc=>?_) (fun hc=>?_)
       ·refine Y<|Ad (.B false)<|O<|rt
       refine Ai<|Y<|Ad (.I (-1))<|O<|Ac<|Y<|Aa 2 [0] [(50,.K c.Flights)]<|Bo c.Flights<|Ap (.I 0)<|O<|An<|B4 [1,3,50,51,52] ?_
       refine Dj (P:=Tryz.prog) c.Flights (fun j a=>fun last=>Ku c j a last) ((alt (fun last=>(F0 c.Owners).bind fun r=>.ok ((c.Commitments.length:Int)==(r.1.length:Int))) (fun r=>.ok r)):(Int ⊕ Bool)→R Bool) (fun j=>fun last=>fun fr h=>fr=Ae [(1,.q ids 0 g),(3,.I last),(50,.K c.Flights),(51,.I (c.Flights.length:Int)),(52,.I j)]∧h=hp h0 ids [Ao g 8 [Aj c],none]) (-1) ?_ ?_ ?_
       ·exact⟨J,J⟩
       ·rintro j a ha W hW last fr h ⟨rfl,rfl⟩
        refine Ag (m':=Ku c j a last) J (Ag (Ku.eq_1 _ _ _ _) ?_)
        refine Y<|Ax (.B (decide ((j:Int)<(c.Flights.length:Int))))<|O<|Ac<|Cr (t:=50) (L:=c.Flights) J fun hlim=>Bv J (Int.ofNat_lt.2 (As ha))<|Ai<|Ac<|An<|Y<|Ap (.I j)<|Aw (.cp [.I a] 0) J (At (Cn A6 Bh J ha))<|Aa 3 [] [(5,.I a),(4,.I j)]<|O<|Ac<|Y<|Aa 4 [] [(60,.B (decide (a≤last)))]<|B5 3 60 63 [1,4,5,50,51,52] (.B ((decide (a≤last))||(decide (a > 4095)))) J ?_ (fun hb13 hJ6=>?_) (fun hb13 hJ6=>?_)
        ·refine Ap (.B ((decide (a≤last))||(decide (a > 4095))))<|J1 7 64 71 [1,4,5,50,51,52] .bool J ?_ (fun hb15 hJ7=>?_) (fun hb15 hJ7=>?_)
         ·intro b
          refine Ap (.B b)<|J1 7 72 79 [1,5,50,51,52] .bool J ?_ (fun hb17 hJ8=>?_) (fun hb17 hJ8=>?_)
          ·intro b1
           refine O<|A8 J (fun hc1=>?_) (fun hc1=>?_)
           ·refine Y<|Ad (.B false)<|O<|D0<|C9<|rt
           refine Ai<|Ah<|Aa 2 [] [(3,.I a)]<|O<|Ay<|Ah<|Aa 2 [] [(52,.I (wi ((j:Int)+1)))]<|O<|A3 (Dp (hW a _ _ ⟨J,J⟩)) (.r4 (.o (ic ha hlim)))
          ·refine Aa 7 [] [(79,.B true),(78,.und),(77,.und),(76,.und),(75,.und),(74,.und),(73,.und)]<|Dl (hJ8 true)
          refine Aa 3 [0] [(75,.I j),(74,.K c.Owners),(73,.ptr (ix ids 0) g 0 3)]<|G9 fun a2 hz1 hx2=>Cf (tj:=72) (.cp [.I a2] 0) J J J (At (Ca A6 Bh J hz1 hx2))<|Aa 3 [] [(79,.B (decide (a2≥8))),(78,.B (decide (a2≥8))),(77,.I a2)]<|Dl (hJ8 (decide (a2≥8)))
         ·refine Aa 7 [] [(71,.B true),(70,.und),(69,.und),(68,.und),(67,.und),(66,.und),(65,.und)]<|Dl (hJ7 true)
         refine Aa 3 [0] [(67,.I j),(66,.K c.Owners),(65,.ptr (ix ids 0) g 0 3)]<|G9 fun a1 hz hx1=>Cf (tj:=64) (.cp [.I a1] 0) J J J (At (Ca A6 Bh J hz hx1))<|Aa 3 [] [(71,.B (decide (a1<0))),(70,.B (decide (a1<0))),(69,.I a1)]<|Dl (hJ7 (decide (a1<0)))
        ·refine Aa 3 [] [(63,.B true),(62,.und),(61,.und)]<|A5 hJ6 (.r4 (.r2 (.cons (Du hb13) .nil)))
        refine Aa 3 [] [(63,.B (decide (a > 4095))),(62,.B (decide (a > 4095))),(61,.I a)]<|A5 hJ6 (.r4 (.r2 (.cons (Dw hb13) .nil)))
       rintro last fr h ⟨rfl,rfl⟩
       refine Ag (D3 _ _ _)<|Y<|Ax (.B (decide ((c.Flights.length:Int)<(c.Flights.length:Int))))<|O<|Ac<|Bw J (Int.lt_irrefl _)<|Bd J<|Y<|Aa 2 [0] [(84,.K c.Owners)]<|D5 [1] hI J J (N3 c.Owners _ (ix ids 1) (by exact hI.sub' J J)) J J J J J J (fun v _=>Dn func38 hI) ?_
       rintro r _ _ _ ⟨g1,rfl,rfl⟩
       refine Hh [1] hI J J J ?_
       refine Ev<|Aa 5 [] [(7,.K r.1)]<|O<|Ar ?_
       refine Y<|Aa 2 [0] [(89,.M c.Commitments)]<|Bo c.Commitments<|Ap (.K r.1)<|Bo r.1<|Aa 2 [] [(2,.B ((c.Commitments.length:Int)==(r.1.length:Int)))]<|O<|rt
      ·refine Aa 8 [] [(48,.B true)]<|A5 hJ5 (.r (.cons (Du hb11) .nil))
      refine Aa 2 [0] [(42,.K c.Owners)]<|Cf (tj:=40) (.I (c.Owners.length:Int)) J J J (Cc (C3 A6))<|Aa 2 [0] [(45,.K c.Flights)]<|Cf (tj:=40) (.I (c.Flights.length:Int)) J J J (Cc (C3 A6))<|Aa 2 [] [(48,.B ((c.Owners.length:Int) != (c.Flights.length:Int)))]<|A5 hJ5 (.r (.cons (Dw hb11) .nil))
     ·refine Aa 7 [] [(39,.B true)]<|A5 hJ4 (.r (.cons (Du hb9) .nil))
     refine Aa 2 [0] [(34,.K c.Flights)]<|Cf (tj:=32) (.I (c.Flights.length:Int)) J J J (Cc (C3 A6))<|Aa 4 [0] [(39,.B (decide ((c.Flights.length:Int) > c.Slots)))]<|A5 hJ4 (.r (.cons (Dw hb9) .nil))
    ·refine Aa 5 [] [(31,.B true)]<|A5 hJ3 (.r (.cons (Du hb7) .nil))
    refine Aa 2 [0] [(28,.K c.Flights)]<|Cf (tj:=26) (.I (c.Flights.length:Int)) J J J (Cc (C3 A6))<|Aa 2 [] [(31,.B (decide ((c.Flights.length:Int)<1)))]<|A5 hJ3 (.r (.cons (Dw hb7) .nil))
   ·refine Aa 4 [] [(25,.B true)]<|A5 hJ2 (.r (.cons (Du hb5) .nil))
   refine Aa 4 [0] [(25,.B (decide (c.Slots > 8)))]<|A5 hJ2 (.r (.cons (Dw hb5) .nil))
  ·refine Aa 4 [] [(20,.B true)]<|A5 hJ1 (.r (.cons (Du hb3) .nil))
  refine Aa 4 [0] [(20,.B (decide (c.Slots<1)))]<|A5 hJ1 (.r (.cons (Dw hb3) .nil))
 ·refine Aa 4 [] [(15,.B true)]<|A5 hJ (.r (.cons (Du hb1) .nil))
 refine Aa 4 [0] [(15,.B (decide (c.No > 1048576)))]<|A5 hJ (.r (.cons (Dw hb1) .nil))
theorem X4 (s v):CP Tryz.prog 117 [.M s,.A (rU v)] (M6 s v) (.int .i64):=by
 refine ci 19 1 func117 (M6.eq_1 _ _) fun h0 ids hI hF=>Y<|B7 0 (.A (rU v)) fun g=>Ad (.I 0)<|O<|Ar ?_
 refine Ac<|Y<|Ap (.M s)<|Bo s<|Ap (.I 0)<|O<|An<|B4 [0,3,7,8] ?_
 refine Dj (P:=Tryz.prog) s (fun j a=>fun _=>K3 v j a) ((alt (fun _=>.ok (-1)) (fun r=>.ok r)):(Unit ⊕ Int)→R Int) (fun j=>fun _=>fun fr h=>fr=Ae [(0,.M s),(3,.q ids 0 g),(7,.I (s.length:Int)),(8,.I j)]∧h=hp h0 ids [Ao g 32 [rU v]]) () ?_ ?_ ?_
 ·exact⟨J,J⟩
 ·rintro j a ha W hW _ fr h ⟨rfl,rfl⟩
  refine Ag (m':=K3 v j a) J (Ag (K3.eq_1 _ _ _) ?_)
  refine Y<|Ax (.B (decide ((j:Int)<(s.length:Int))))<|O<|Ac<|Cr (t:=0) (L:=s) J fun hlim=>Bv J (Int.ofNat_lt.2 (As ha))<|Ai<|Ac<|An<|Y<|Aa 2 [] [(5,.I j)]<|O<|Ac<|By [0,0,0,6,14,31] [pR 0,pR 1,pR 2,pR 3,pR 4,pR 5] Dr<|Av [0] [(11,.A (rU v)),(12,.M s),(13,.I j)]<|A2 (.cp (rU a) 0) J J (At (Cn Cy Bm J ha))<|Av [] [(15,.A (rU a))]<|A2 (.B (v==a)) J J (Bj (Vg J J) J (T9 Bm Fe))<|Be ?_
  refine A8 J (fun hc=>?_) (fun hc=>?_)
  ·refine Y<|Aa 2 [] [(4,.I j)]<|O<|D0<|C9<|rt
  refine Ai<|Ay<|Ah<|Aa 2 [] [(8,.I (wi ((j:Int)+1)))]<|O<|A3 (Dp (hW () _ _ ⟨J,J⟩)) (.r2 (.r (.o (ic ha hlim))))
 rintro _ fr h ⟨rfl,rfl⟩
 refine Ag (D3 _ _ _)<|Y<|Ax (.B (decide ((s.length:Int)<(s.length:Int))))<|O<|Ac<|Bw J (Int.lt_irrefl _)<|Bd J<|Y<|Ad (.I (-1))<|O<|rt
theorem V9 (s v):CP Tryz.prog 89 [.M s,.A (rU v)] (Ii s v) AV.bool:=by
 refine ci 9 1 func89 (Ii.eq_1 _ _) fun h0 ids hI hF=>Y<|B7 0 (.A (rU v)) fun g=>Ad (.B false)<|O<|Ar ?_
 refine Y<|Aa 2 [0] [(6,.A (rU v)),(5,.M s)]<|oc ((X4 s v) _) fun r _=>Aa 2 [] [(4,.B (decide (r≥0)))]<|O<|rt
theorem Nc (c):CP Tryz.prog 53 [.A (Aj c)] (Hb c) AV.bool:=by
 refine ci 8 1 func53 (Hb.eq_1 _) fun h0 ids hI hF=>Y<|B7 0 (.A (Aj c)) fun g=>Ad (.B false)<|O<|Ar ?_
 refine Y<|Aa 3 [0] [(5,.A (rU (#v[0,0,0,0,0,0,0,0,0,0,0,0,0,0,0,0,0,0,0,0,0,0,0,0,0,0,0,0,0,0,0,0]:(Vector Int 32)))),(4,.M c.Commitments)]<|oc ((V9 c.Commitments (#v[0,0,0,0,0,0,0,0,0,0,0,0,0,0,0,0,0,0,0,0,0,0,0,0,0,0,0,0,0,0,0,0]:(Vector Int 32))) _) fun r _=>Aa 2 [] [(2,.B (!r))]<|O<|rt
theorem Aau (c):CP Tryz.prog 182 [.A (Aj c)] (Pp c) AV.bool:=by
 refine ci 16 1 func182 (Pp.eq_1 _) fun h0 ids hI hF=>Y<|B7 0 (.A (Aj c)) fun g=>Ad (.B false)<|O<|Ar ?_
 refine Y<|Aa 1 [0] [(3,.A (Aj c))]<|oc ((Nc c) _) fun r _=>Aa 2 [] [(6,.B (!r))]<|B5 9 6 15 [] (.B ((!r)&&((wi ((c.Openings.length:Int)+(c.Outcome.length:Int)))==0))) J ?_ (fun hb1 hJ=>?_) (fun hb1 hJ=>?_)
 ·refine Ad (.B ((!r)&&((wi ((c.Openings.length:Int)+(c.Outcome.length:Int)))==0)))<|O<|rt
 ·refine Aa 2 [0] [(8,.sl 37 (List.map Aq c.Openings))]<|Cf (tj:=6) (.I (c.Openings.length:Int)) J J J (Cc (C3 Iz))<|Aa 2 [0] [(11,.K c.Outcome)]<|Cf (tj:=6) (.I (c.Outcome.length:Int)) J J J (Cc (C3 A6))<|Aa 3 [] [(15,.B ((wi ((c.Openings.length:Int)+(c.Outcome.length:Int)))==0))]<|A5 hJ (.cons (Ka hb1) .nil)
 refine Aa 9 [] [(15,.B false)]<|A5 hJ (.cons (Kc hb1) .nil)
theorem Ww (a):CP Tryz.prog 120 [.int .i64 a] (P3 a) AV.bool:=by
 refine ci 6 0 func120 (P3.eq_1 _) fun h0 ids hI hF=>Y<|Ad (.B false)<|O<|Y<|Aa 4 [] [(2,.B (a != a))]<|O<|rt
theorem Q2 (a y):CP Tryz.prog 94 [.int .i64 a,.int .i64 y] (Jk a y) (.int .i64):=by
 refine ci 20 0 func94 (Jk.eq_1 _ _) fun h0 ids hI hF=>Y<|Ad (.I 0)<|O<|Y<|Ap (.I a)<|oc ((Ww a) _) fun xNaN _=>Ad (.B xNaN)<|O<|Y<|Ap (.I y)<|oc ((Ww y) _) fun yNaN _=>Ad (.B yNaN)<|O<|Ac<|Y<|Aw (.B xNaN) J Bb ?_
 refine O<|A8 J (fun hc=>?_) (fun hc=>?_)
 ·refine Ac<|Y<|Ap (.B yNaN)<|O<|A8 J (fun hc1=>?_) (fun hc1=>?_)
  ·refine Y<|Ad (.I 0)<|O<|rt
  refine Ai<|Y<|Ad (.I (-1))<|O<|rt
 refine Ai<|Ac<|Y<|Ap (.B yNaN)<|O<|A8 J (fun hc2=>?_) (fun hc2=>?_)
 ·refine Y<|Ad (.I 1)<|O<|rt
 refine Ai<|Ac<|Y<|Aa 3 [] [(16,.B (decide (a<y)))]<|O<|Cs J (fun hc3=>?_) (fun hc3=>?_)
 ·refine Y<|Ad (.I (-1))<|O<|rt
 refine Ai<|Ac<|Y<|Aa 3 [] [(19,.B (decide (a > y)))]<|O<|Cs J (fun hc4=>?_) (fun hc4=>?_)
 ·refine Y<|Ad (.I 1)<|O<|rt
 refine Ai<|Y<|Ad (.I 0)<|O<|rt
theorem Ah5 (vals):CP Tryz.prog 93 [.K vals] (Ti vals) (.int .i64):=by
 refine ci 18 0 func93 (Ti.eq_1 _) fun h0 ids hI hF=>Y<|Ad (.I 0)<|O<|Y<|Ad (.I 0)<|O<|Ac<|Y<|Ap (.K vals)<|Bo vals<|Ap (.I 0)<|O<|An<|B4 [3,6,7,8] ?_
 refine Dj (P:=Tryz.prog) vals (fun _ a=>fun _=>Lv a) ((alt (fun _=>.ok 0) (fun r=>.ok r)):(Unit ⊕ Int)→R Int) (fun j=>fun _=>fun fr h=>fr=Ae [(3,.I 0),(6,.K vals),(7,.I (vals.length:Int)),(8,.I j)]∧h=hp h0 ids []) () ?_ ?_ ?_
 ·exact⟨J,J⟩
 ·rintro j a ha W hW _ fr h ⟨rfl,rfl⟩
  refine Ag (m':=Lv a) J (Ag (Lv.eq_1 _) ?_)
  refine Y<|Ax (.B (decide ((j:Int)<(vals.length:Int))))<|O<|Ac<|Cr (t:=6) (L:=vals) J fun hlim=>Bv J (Int.ofNat_lt.2 (As ha))<|Ai<|Ac<|An<|Y<|Aw (.cp [.I a] 0) J (At (Cn A6 Bh J ha))<|Aa 2 [] [(5,.I a)]<|O<|Y<|Aa 3 [] [(14,.B (a != 0))]<|O<|A8 J (fun hc=>?_) (fun hc=>?_)
  ·refine Y<|Aa 2 [] [(2,.I a)]<|O<|D0<|C9<|rt
  refine Ai<|Ay<|Ah<|Aa 2 [] [(8,.I (wi ((j:Int)+1)))]<|O<|A3 (Dp (hW () _ _ ⟨J,J⟩)) (.r2 (.r (.o (ic ha hlim))))
 rintro _ fr h ⟨rfl,rfl⟩
 refine Ag (D3 _ _ _)<|Y<|Ax (.B (decide ((vals.length:Int)<(vals.length:Int))))<|O<|Ac<|Bw J (Int.lt_irrefl _)<|Bd J<|Y<|Aa 2 [] [(2,.I 0)]<|O<|rt
theorem S0 (a b):CP Tryz.prog 56 [.A (Aq a),.A (Aq b)] (Ms a b) (.int .i64):=by
 refine ci 17 2 func56 (Ms.eq_1 _ _) fun h0 ids hI hF=>Y<|B7 0 (.A (Aq a)) fun g=>B7 1 (.A (Aq b)) fun g1=>Ad (.I 0)<|O<|Ar ?_
 refine Ac<|By [0,1,0,4,15,0,32,0,128,511,1023,2047,4095] [pR 0,pR 1,pR 2,pR 3,pR 5,pR 6,pR 7,pR 8,pE 4,pE 9,pE 10,pE 11,pR 12] Dr<|Av [0,1,0,1] [(5,.ptr (ix ids 0) g 0 1),(6,.I a.Flight),(7,.ptr (ix ids 1) g1 0 1),(8,.I b.Flight),(10,.ptr (ix ids 0) g 0 2),(11,.I a.Slot),(12,.ptr (ix ids 1) g1 0 2),(13,.I b.Slot)]<|Jb ((Q2 a.Flight b.Flight) _) (hpd:=(Fc [1,0])) fun r _=>?_
 refine Jb ((Q2 a.Slot b.Slot) _) fun r1 _=>?_
 refine Gh J J (fun _ _=>J) (fun K hK=>K0 (e:=rJ) (L:=[r,r1]) (st:=1) (rows:=[[.I r],[.I r1]]) A6 Bh J J J J J (.cons (RowSim.refl _) (.cons (RowSim.refl _) .nil)) (fun x=>Bl x) J J (hK _ _ Dq ?_))
 clear hK K
 refine Jb ((Ah5 [r,r1]) _) fun r2 _=>?_
 refine Av [] [(4,.I r2)]<|Be<|rt
theorem Na (s v):CP Tryz.prog 51 [.K s,.int .i64 v] (Ix s v) (.int .i64):=by
 refine ci 19 0 func51 (Ix.eq_1 _ _) fun h0 ids hI hF=>Y<|Ad (.I 0)<|O<|Ac<|Y<|Ap (.K s)<|Bo s<|Ap (.I 0)<|O<|An<|B4 [0,1,7,8] ?_
 refine Dj (P:=Tryz.prog) s (fun j a=>fun _=>Nb v j a) ((alt (fun _=>.ok (-1)) (fun r=>.ok r)):(Unit ⊕ Int)→R Int) (fun j=>fun _=>fun fr h=>fr=Ae [(0,.K s),(1,.I v),(7,.I (s.length:Int)),(8,.I j)]∧h=hp h0 ids []) () ?_ ?_ ?_
 ·exact⟨J,J⟩
 ·rintro j a ha W hW _ fr h ⟨rfl,rfl⟩
  refine Ag (m':=Nb v j a) J (Ag (Nb.eq_1 _ _ _) ?_)
  refine Y<|Ax (.B (decide ((j:Int)<(s.length:Int))))<|O<|Ac<|Cr (t:=0) (L:=s) J fun hlim=>Bv J (Int.ofNat_lt.2 (As ha))<|Ai<|Ac<|An<|Y<|Aa 2 [] [(5,.I j)]<|O<|Y<|Aa 3 [] [(13,.I j),(12,.K s),(11,.I v)]<|Aw (.cp [.I a] 0) J (At (Cn A6 Bh J ha))<|Aa 2 [] [(16,.B (v==a))]<|O<|A8 J (fun hc=>?_) (fun hc=>?_)
  ·refine Y<|Aa 2 [] [(4,.I j)]<|O<|D0<|C9<|rt
  refine Ai<|Ay<|Ah<|Aa 2 [] [(8,.I (wi ((j:Int)+1)))]<|O<|A3 (Dp (hW () _ _ ⟨J,J⟩)) (.r2 (.r (.o (ic ha hlim))))
 rintro _ fr h ⟨rfl,rfl⟩
 refine Ag (D3 _ _ _)<|Y<|Ax (.B (decide ((s.length:Int)<(s.length:Int))))<|O<|Ac<|Bw J (Int.lt_irrefl _)<|Bd J<|Y<|Ad (.I (-1))<|O<|rt
theorem T4 (airline flight):CP Tryz.prog 59 [.int .i64 airline,.int .i64 flight] (Kt airline flight) AV.bool:=by
 refine ci 19 0 func59 (Kt.eq_1 _ _) fun h0 ids hI hF=>Y<|Ad (.B false)<|O<|Y<|Aa 3 [] [(7,.B (decide (airline≥0)))]<|B5 3 7 10 [1] (.B ((decide (airline≥0))&&(decide (airline<8)))) J ?_ (fun hb1 hJ=>?_) (fun hb1 hJ=>?_)
 ·refine Ap (.B ((decide (airline≥0))&&(decide (airline<8))))<|B5 3 11 14 [1] (.B (((decide (airline≥0))&&(decide (airline<8)))&&(decide (flight≥0)))) J ?_ (fun hb3 hJ1=>?_) (fun hb3 hJ1=>?_)
  ·refine Ap (.B (((decide (airline≥0))&&(decide (airline<8)))&&(decide (flight≥0))))<|B5 3 15 18 [] (.B ((((decide (airline≥0))&&(decide (airline<8)))&&(decide (flight≥0)))&&(decide (flight≤4095)))) J ?_ (fun hb5 hJ2=>?_) (fun hb5 hJ2=>?_)
   ·refine Ad (.B ((((decide (airline≥0))&&(decide (airline<8)))&&(decide (flight≥0)))&&(decide (flight≤4095))))<|O<|rt
   ·refine Aa 3 [] [(18,.B (decide (flight≤4095)))]<|A5 hJ2 (.cons (Ka hb5) .nil)
   refine Aa 3 [] [(18,.B false)]<|A5 hJ2 (.cons (Kc hb5) .nil)
  ·refine Aa 3 [] [(14,.B (decide (flight≥0)))]<|A5 hJ1 (.r (.cons (Ka hb3) .nil))
  refine Aa 3 [] [(14,.B false)]<|A5 hJ1 (.r (.cons (Kc hb3) .nil))
 ·refine Aa 3 [] [(10,.B (decide (airline<8)))]<|A5 hJ (.r (.cons (Ka hb1) .nil))
 refine Aa 3 [] [(10,.B false)]<|A5 hJ (.r (.cons (Kc hb1) .nil))
theorem U3 (c):CP Tryz.prog 60 [.int .i64 c] (Ls c) AV.bool:=by
 refine ci 9 0 func60 (Ls.eq_1 _) fun h0 ids hI hF=>Y<|Ad (.B false)<|O<|Y<|Aa 3 [] [(5,.B (decide (c≥(-1))))]<|B5 3 5 8 [] (.B ((decide (c≥(-1)))&&(decide (c≤1048576)))) J ?_ (fun hb1 hJ=>?_) (fun hb1 hJ=>?_)
 ·refine Ad (.B ((decide (c≥(-1)))&&(decide (c≤1048576))))<|O<|rt
 ·refine Aa 3 [] [(8,.B (decide (c≤1048576)))]<|A5 hJ (.cons (Ka hb1) .nil)
 refine Aa 3 [] [(8,.B false)]<|A5 hJ (.cons (Kc hb1) .nil)
theorem Ac5 (W_:Value→R (Int×Bool))(cp_W_ : ∀ (v:Value),CP Tryz.prog 148 [(.A (Cd v))] (W_ v) (fun(p:(Int×Bool))=>AV.tup [(.int .i64 p.1),(.B p.2)]))(v:Value):CP Tryz.prog 148 [(.A (Cd v))] (Ra W_ v) (fun(p:(Int×Bool))=>AV.tup [(.int .i64 p.1),(.B p.2)]):=by
 refine ci 74 3 func148 (Ra.eq_1 _ _) fun h0 ids hI hF=>Y<|B7 0 (.A (Cd v)) fun g=>Aa 2 [] [(2,.I 0)]<|O<|Ar ?_
 refine Y<|Aa 4 [0] [(12,.B (v.S==[]))]<|B5 5 12 17 [1,2] (.B ((v.S==[])&&((v.L.length:Int)==0))) J ?_ (fun hb1 hJ=>?_) (fun hb1 hJ=>?_)
 ·refine Aa 4 [0] [(21,.B (v.N==0))]<|B5 5 21 26 [1,2,17] (.B ((v.N==0)&&((v.L.length:Int)==0))) J ?_ (fun hb3 hJ1=>?_) (fun hb3 hJ1=>?_)
  ·refine Aa 4 [0] [(30,.B (v.N==0))]<|B5 4 30 34 [1,2,17,26] (.B ((v.N==0)&&(v.S==[]))) J ?_ (fun hb5 hJ2=>?_) (fun hb5 hJ2=>?_)
   ·refine Aw (.A ((rV rB) (#v[false,(v.S==[])&&((v.L.length:Int)==0),(v.N==0)&&((v.L.length:Int)==0),(v.N==0)&&(v.S==[])]:(Vector Bool 4)))) J (Zk (Ajv Aif Xp J))<|Et (j:=1) (row:=((rV rB) (B0 4 false))) hI J J J J Aif (Hr (n:=4) (e:=rB) (E:=(fun x:Bool=>(AV.bool x))) (fun _=>J) _).symm ((Cw (fun x=>Aq5 x) J) _) fun g1=>B8 (Ea (v:=(.A ((rV rB) (#v[false,(v.S==[])&&((v.L.length:Int)==0),(v.N==0)&&((v.L.length:Int)==0),(v.N==0)&&(v.S==[])]:(Vector Bool 4))))) hI J J J Aif J J J (((Cw (fun x=>Aq5 x) J) _).1) J)<|O<|Ar ?_
    refine Ac<|Y<|Aa 4 [0] [(39,.B (decide (v.Kind<1)))]<|B5 4 39 43 [1,2,4] (.B ((decide (v.Kind<1))||(decide (v.Kind > 3)))) J ?_ (fun hb7 hJ3=>?_) (fun hb7 hJ3=>?_)
    ·refine Ap (.B ((decide (v.Kind<1))||(decide (v.Kind > 3))))<|J1 6 44 50 [1,2] .bool J ?_ (fun hb9 hJ4=>?_) (fun hb9 hJ4=>?_)
     ·intro b
      refine O<|A8 J (fun hc=>?_) (fun hc=>?_)
      ·refine Y<|Aa 2 [] [(3,.B false),(2,.I 0)]<|O<|Bu func148 hI J (.tupL .s2)
      refine Ai<|Ac<|Y<|Aa 3 [0] [(53,.B (decide (v.Kind<3)))]<|O<|Cs J (fun hc1=>?_) (fun hc1=>?_)
      ·refine Y<|Aa 2 [] [(3,.B true),(2,.I 0)]<|O<|Bu func148 hI J (.tupL .s2)
      refine Ai<|Ac<|Y<|Aa 2 [0] [(55,.sl 4 (List.map rValueA v.L))]<|Bo v.L<|Ap (.I 0)<|O<|An<|Cb 3<|B4 [2,55,56,57] ?_
      refine Dj (P:=Tryz.prog) v.L (fun _ a=>fun depth=>Jy W_ a depth) ((alt (fun depth=>.ok ((wi (depth+1)),true)) (fun r=>.ok r)):(Int ⊕ (Int×Bool))→R (Int×Bool)) (fun j=>fun depth=>fun fr h=>fr=Ae [(2,.I depth),(55,.sl 4 (List.map rValueA v.L)),(56,.I (v.L.length:Int)),(57,.I j)]∧h=hp h0 ids [none,none,none]) 0 ?_ ?_ ?_
      ·exact⟨J,J⟩
      ·rintro j a ha W hW depth fr h ⟨rfl,rfl⟩
       refine Ag (m':=Jy W_ a depth) J (Ag (Jy.eq_1 _ _ _) ?_)
       refine Y<|Ax (.B (decide ((j:Int)<(v.L.length:Int))))<|O<|Ac<|Cr (t:=55) (L:=v.L) J fun hlim=>Bv J (Int.ofNat_lt.2 (As ha))<|Ai<|Ac<|An<|Y<|Aw (.cp (Cd a) 0) J (At (Aea S1 J2 Oa J ha))<|Ax (.A (Cd a))<|Cp 2 Oa fun g2=>Bt (.A (Cd a)) ?_
       refine O<|Ar ?_
       refine Y<|Aa 1 [2] [(62,.A (Cd a))]<|oc ((cp_W_ a) _) fun r _=>Aa 5 [] [(8,.B r.2),(7,.I r.1)]<|O<|Ac<|Y<|Aa 2 [] [(67,.B (!r.2))]<|O<|Js J (fun hc2=>?_) (fun hc2=>?_)
       ·refine Ai<|Ah<|Aa 2 [] [(69,.I r.1),(68,.I depth)]<|Aw (.I (if r.1 > depth then r.1 else depth)) J (Aun J)<|Ad (.I (if r.1 > depth then r.1 else depth))<|O<|Ay<|Ah<|Aa 2 [] [(57,.I (wi ((j:Int)+1)))]<|O<|Cb 4<|A3 (Dp (hW (if r.1 > depth then r.1 else depth) _ _ ⟨J,J⟩)) (.r2 (.r (.o (ic ha hlim))))
       refine Y<|Aa 2 [] [(3,.B false),(2,.I 0)]<|O<|D0<|C9<|Bu func148 hI J (.tupL .s2)
      rintro depth fr h ⟨rfl,rfl⟩
      refine Ag (D3 _ _ _)<|Y<|Ax (.B (decide ((v.L.length:Int)<(v.L.length:Int))))<|O<|Ac<|Bw J (Int.lt_irrefl _)<|Bd J<|Y<|Aa 4 [] [(3,.B true),(2,.I (wi (depth+1)))]<|O<|Bu func148 hI J (.tupL .s2)
     ·refine Aa 6 [] [(50,.B true)]<|Dl (hJ4 true)
     refine Aa 2 [0] [(46,.I v.Kind)]<|B2 fun hi=>Cf (tj:=44) (.ptr (ix ids 1) g1 0 (Int.toNat v.Kind)) J J J (At (Hy Aif Xp J hi))<|Cf (tj:=44) (.B (A0 (#v[false,(v.S==[])&&((v.L.length:Int)==0),(v.N==0)&&((v.L.length:Int)==0),(v.N==0)&&(v.S==[])]:(Vector Bool 4)) (Int.toNat v.Kind) false)) J J J (Bg (A7 hI J J J Xp (Ff (e:=rB) (E:=(fun x:Bool=>(AV.bool x))) (fun _=>J) (Iu hi) false)))<|Aa 2 [] [(50,.B (!(A0 (#v[false,(v.S==[])&&((v.L.length:Int)==0),(v.N==0)&&((v.L.length:Int)==0),(v.N==0)&&(v.S==[])]:(Vector Bool 4)) (Int.toNat v.Kind) false)))]<|Dl (hJ4 (!(A0 (#v[false,(v.S==[])&&((v.L.length:Int)==0),(v.N==0)&&((v.L.length:Int)==0),(v.N==0)&&(v.S==[])]:(Vector Bool 4)) (Int.toNat v.Kind) false)))
    ·refine Aa 4 [] [(43,.B true)]<|A5 hJ3 (.r2 (.r (.cons (Du hb7) .nil)))
    refine Aa 4 [0] [(43,.B (decide (v.Kind > 3)))]<|A5 hJ3 (.r2 (.r (.cons (Dw hb7) .nil)))
   ·refine Aa 4 [0] [(34,.B (v.S==[]))]<|A5 hJ2 (.r4 (.cons (Ka hb5) .nil))
   refine Aa 4 [] [(34,.B false)]<|A5 hJ2 (.r4 (.cons (Kc hb5) .nil))
  ·refine Aa 2 [0] [(23,.sl 4 (List.map rValueA v.L))]<|Cf (tj:=21) (.I (v.L.length:Int)) J J J (Cc (C3 J2))<|Aa 2 [] [(26,.B ((v.L.length:Int)==0))]<|A5 hJ1 (.r2 (.r (.cons (Ka hb3) .nil)))
  refine Aa 5 [] [(26,.B false)]<|A5 hJ1 (.r2 (.r (.cons (Kc hb3) .nil)))
 ·refine Aa 2 [0] [(14,.sl 4 (List.map rValueA v.L))]<|Cf (tj:=12) (.I (v.L.length:Int)) J J J (Cc (C3 J2))<|Aa 2 [] [(17,.B ((v.L.length:Int)==0))]<|A5 hJ (.r2 (.cons (Ka hb1) .nil))
 refine Aa 5 [] [(17,.B false)]<|A5 hJ (.r2 (.cons (Kc hb1) .nil))
theorem Ac1 : ∀ (n:Nat) (v:Value),CP Tryz.prog 148 [(.A (Cd v))] (Hj n v) (fun(p:(Int×Bool))=>AV.tup [(.int .i64 p.1),(.B p.2)]):=by
 intro n
 induction n with
 | zero=>intro v; exact fun h hb=>absurd rfl hb
 | succ n ih=>intro v; exact Ac5 (Hj n) ih v
theorem Aer (v:Value):CP Tryz.prog 148 [(.A (Cd v))] (Ts v) (fun(p:(Int×Bool))=>AV.tup [(.int .i64 p.1),(.B p.2)]):=Ac1 Sa v
theorem Ag3 (v):CP Tryz.prog 121 [.A (Cd v)] (Ru v) (.int .i64):=by
 refine ci 16 1 func121 (Ru.eq_1 _) fun h0 ids hI hF=>Y<|B7 0 (.A (Cd v)) fun g=>Ad (.I 0)<|O<|Ar ?_
 refine Y<|Aa 1 [0] [(6,.A (Cd v))]<|oc ((Aer v) _) fun r _=>Aa 5 [] [(4,.B r.2),(3,.I r.1)]<|O<|Ac<|An<|Y<|Aa 3 [] [(10,.B (!r.2))]<|O<|Js J (fun hc=>?_) (fun hc=>?_)
 ·refine Y<|Aa 3 [] [(13,.B (decide (r.1 > 16)))]<|O<|Cs J (fun hc1=>?_) (fun hc1=>?_)
  ·refine Y<|Ad (.I 2)<|O<|rt
  refine Ai<|Ay<|Y<|Ad (.I 0)<|O<|rt
 refine Y<|Ad (.I 1)<|O<|rt
theorem Aab (h0:Ab)(o0:Nat)(o1:Nat)(hI0:Ids h0 [o0,o1] 2):Ly≠.bad→Bi Tryz.prog 122 [] (hp h0 [o0,o1] [none,none]) (Ec (fun a_ v h' => ∃ (g2:Nat),∃ (g3:Nat),v=(.ptr o0 g2 0 0)∧h'=hp h0 [o0,o1] [Ao g2 4 [[.nilf,(.func (.func 149) [] []),(.func (.func 152) [] []),(.func (.func 153) [] [(.ptr o1 g3 0 0)])]],Ao g3 1 [[(.ptr o0 g2 0 0)]]]) h0 (Ly)):=by
 refine Ee (n:=18) 0 func122 J (by decide) J J hI0 J fun ids he hI=>?_
 clear hI0
 obtain rfl:ix ids 0=o0:=he 0 rfl
 obtain rfl:ix ids 1=o1:=he 1 rfl
 clear he
 refine Em (Ag (Ly.eq_1) ?_)
 refine Y<|Ad .nilp<|O<|Y<|Aw (.A [.nilf,.nilf,.nilf,.nilf]) J (Zk (Ajv Oo On J))<|B7 0 (.A [.nilf,.nilf,.nilf,.nilf]) fun g=>Cp 1 Av0 fun g1=>Bt (.q ids 0 g) ?_
 refine O<|Ar ?_
 refine Y<|Aa 2 [1] [(5,.q ids 0 g)]<|Aw (.ptr (ix ids 0) g 0 1) J (At (I1 1 Oo On J J))<|Ax (.ptr (ix ids 0) g 0 1)<|Bt (.func (.func 149) [] []) ?_
 refine O<|Ar ?_
 refine Y<|Aa 2 [1] [(9,.q ids 0 g)]<|Aw (.ptr (ix ids 0) g 0 2) J (At (I1 2 Oo On J J))<|Ax (.ptr (ix ids 0) g 0 2)<|Bt (.func (.func 152) [] []) ?_
 refine O<|Ar ?_
 refine Y<|Aa 3 [1] [(14,.q ids 0 g),(13,.func (.func 153) [] [.q ids 1 g1])]<|Aw (.ptr (ix ids 0) g 0 3) J (At (I1 3 Oo On J J))<|Ax (.ptr (ix ids 0) g 0 3)<|Bt (.func (.func 153) [] [.q ids 1 g1]) ?_
 refine O<|Ar ?_
 refine Y<|Aa 2 [1] [(0,.q ids 0 g)]<|O<|Fu (K:=2) (N:=0) [Ao g 4 [[.nilf,.func (.func 149) [] [],.func (.func 152) [] [],.func (.func 153) [] [.q ids 1 g1]]],Ao g1 1 [[.q ids 0 g]]] func122 hI J J J (.keep (.keep .nil)) (.same _) ⟨g,g1,J,J⟩
theorem Ac3 (n):CP Tryz.prog 151 [.int .i64 n] (Rg n) (.int .u64):=by
 refine ci 10 0 func151 (Rg.eq_1 _) fun h0 ids hI hF=>Y<|Ad (.int .u64 0)<|O<|Y<|Ap (.I n)<|Ax (.int .u64 (IntKind.wrap .u64 n))<|Aw (.int .u64 (Qb .u64 (IntKind.wrap .u64 n) 1)) J (Bj J J (Z3 (by decide)))<|Ap (.I n)<|Aw (.I (Int.fdiv n 9223372036854775808)) J (Bj J J (J6 (by decide) (by decide)))<|Ax (.int .u64 (IntKind.wrap .u64 (Int.fdiv n 9223372036854775808)))<|Aw (.int .u64 (Cx .u64 (Qb .u64 (IntKind.wrap .u64 n) 1) (IntKind.wrap .u64 (Int.fdiv n 9223372036854775808)))) J (Bj J J Kv)<|Ad (.int .u64 (Cx .u64 (Qb .u64 (IntKind.wrap .u64 n) 1) (IntKind.wrap .u64 (Int.fdiv n 9223372036854775808))))<|O<|rt
theorem Nv (u:Int)(l:List Int)(h0:Ab)(o0:Nat)(v1:AV)(g:Nat)(vH:Bp v1 o0 g l.length)(hI0:Ids h0 [o0] 1):Gu u l≠.bad→Bi Tryz.prog 150 [v1,(.int .u64 u)] (hp h0 [o0] [Ba v1 g 1 (List.map (rI .u8) l)]) (Ec (fun a_ v h' => ∃ (v6:AV),∃ (g5:Nat),Bp v6 o0 g5 a_.length∧v6=v∧h'=hp h0 [o0] [Ba v6 g5 1 (List.map (rI .u8) a_)]) h0 (Gu u l)):=by
 refine Ee (n:=20) 0 func150 J (by decide) J J hI0 J fun ids he hI=>?_
 clear hI0
 obtain rfl:ix ids 0=o0:=he 0 rfl
 clear he
 refine Em (Ag (Gu.eq_1 _ _) ?_)
 refine Y<|Ad .emp<|O<|Ac<|Cu (C8 fun u2 b1=>I6 u2 b1) (C8 fun u2 b1=>fun fr h => ∃ (v4:AV),∃ (g3:Nat),Bp v4 (ix ids 0) g3 b1.length∧fr=Ae [(0,v4),(1,.int .u64 u2)]∧h=hp h0 ids [Ba v4 g3 1 (List.map (rI .u8) b1)]) ?_ fun hJ=>?_
 ·rintro⟨u2,b1⟩ fr h ⟨v4,g3,vH3,rfl,rfl⟩
  refine Ag (I6.eq_1 _ _)<|Y<|Aa 2 [] [(16,.int .u64 u2),(15,v4)]<|Ax (.int .u8 (IntKind.wrap .u8 u2))<|Dm (e:=(rI .u8)) (L:=[IntKind.wrap .u8 u2]) (st:=1) (rows:=[[.int .u8 (IntKind.wrap .u8 u2)]]) J De Fe J J J J J (.cons (RowSim.refl _) .nil) (fun x=>Bl x) J J<|B2 fun hl1=>C7 (e:=(rI .u8)) (L:=b1) (L2:=[IntKind.wrap .u8 u2]) (v:=v4) (g:=g3) (st:=1) (j:=0) hI J J J J vH3 J (C1 J) De De J Fe J J J hl1 fun v5 g4 vH4=>Ad v5<|O<|Ar ?_
  exact Fu (K:=1) (N:=0) [Ba v5 g4 1 (List.map (rI .u8) (b1++[IntKind.wrap .u8 u2]))] func150 hI J J J (.keep .nil) (.same _) ⟨v5,g4,vH4,J,J⟩
 refine An<|B4 [0,1] ?_
 refine Ga (P:=Tryz.prog) (C8 fun u1 b=>Jf u1 b) ((C8 fun u2 b1=>I6 u2 b1):(Int×(List Int))→R (List Int)) (C8 fun u1 b=>fun fr h => ∃ (v2:AV),∃ (g1:Nat),Bp v2 (ix ids 0) g1 b.length∧fr=Ae [(0,v2),(1,.int .u64 u1)]∧h=hp h0 ids [Ba v2 g1 1 (List.map (rI .u8) b)]) (u,l) ?_ ?_
 ·exact⟨v1,g,vH,J,J⟩
 rintro vW hW ⟨u1,b⟩ fr h ⟨v2,g1,vH1,rfl,rfl⟩
 refine Ag (m':=Jf u1 b) J (Ag (Jf.eq_1 _ _) ?_)
 refine Ac<|Y<|Aa 2 [] [(6,.B (decide (u1≥128)))]<|O<|Cs J (fun hc=>?_) (fun hc=>?_)
 ·refine Ai<|Ac<|An<|Ah<|Aa 2 [] [(10,.int .u64 u1),(9,v2)]<|Ax (.int .u8 (IntKind.wrap .u8 u1))<|Aw (.int .u8 (Mc .u8 (IntKind.wrap .u8 u1) 128)) J (Bj J J W8)<|Dm (e:=(rI .u8)) (L:=[Mc .u8 (IntKind.wrap .u8 u1) 128]) (st:=1) (rows:=[[.int .u8 (Mc .u8 (IntKind.wrap .u8 u1) 128)]]) J De Fe J J J J J (.cons (RowSim.refl _) .nil) (fun x=>Bl x) J J<|B2 fun hl=>C7 (e:=(rI .u8)) (L:=b) (L2:=[Mc .u8 (IntKind.wrap .u8 u1) 128]) (v:=v2) (g:=g1) (st:=1) (j:=0) hI J J J J vH1 J (C1 J) De De J Fe J J J hl fun v3 g2 vH2=>Ad v3<|O<|Ar ?_
  refine Ay<|Ah<|Ap (.int .u64 u1)<|Aw (.int .u64 (Int.fdiv u1 128)) J (Bj J J (J6 (by decide) (by decide)))<|Ad (.int .u64 (Int.fdiv u1 128))<|O<|A3 (E7 (hW ((Int.fdiv u1 128),b++[Mc .u8 (IntKind.wrap .u8 u1) 128]) _ _ ⟨v3,g2,vH2,J,J⟩))
 refine Bd J<|Eb<|A3 (hJ (u1,b) _ _ ⟨v2,g1,vH1,J,J⟩)
theorem Nj (v1:Value)(l:List Int)(h0:Ab)(o0:Nat)(v2:AV)(g:Nat)(vH:Bp v2 o0 g l.length)(hI0:Ids h0 [o0] 1):Fa v1 l≠.bad→Bi Tryz.prog 149 [v2,(.A (Cd v1))] (hp h0 [o0] [Ba v2 g 1 (List.map (rI .u8) l)]) (Ec (fun a_ v h' => ∃ (v5:AV),∃ (g4:Nat),Bp v5 o0 g4 a_.length∧v5=v∧h'=hp h0 [o0] [Ba v5 g4 1 (List.map (rI .u8) a_)]) h0 (Fa v1 l)):=by
 refine Ee (n:=12) 1 func149 J (by decide) J J hI0 J fun ids he hI=>?_
 clear hI0
 obtain rfl:ix ids 0=o0:=he 0 rfl
 clear he
 refine Em (Ag (Fa.eq_1 _ _) ?_)
 refine Ar ?_
 refine Y<|B7 1 (.A (Cd v1)) fun g1=>Ad .emp<|O<|Ar ?_
 refine Ac<|By [0,0,3,0,8,31,63,127] [pR 0,pR 3,pR 4,pE 1,pE 2,pE 5,pE 6,pR 7] Dr<|Av [1] [(5,v2),(8,.ptr (ix ids 1) g1 0 1),(9,.I v1.N)]<|Gh J J (fun _ _=>J) (fun K hK=>K0 (e:=(rI .u8)) (L:=[1]) (st:=1) (rows:=[[.int .u8 1]]) De Fe J J J J J (.cons (RowSim.refl _) .nil) (fun x=>Bl x) J J (hK _ _ (Fc [1]) ?_))
 clear hK K
 refine Df fun hl=>Gh J J (fun _ _=>J) (fun K hK=>Ik (e:=(rI .u8)) (L:=l) (L2:=[1]) (v:=v2) (g:=g) (st:=1) (j:=0) hI J J J vH J (C1 J) De De J Fe J J J hl fun v3 g2 vH1=>hK _ _ (Fc [1]) ?_)
 clear hK K
 refine Nu _ J J J J J ((Ac3 v1.N) _) (fun v _ _ _=>E0 (K:=1) (N:=1) func149 hI) Dq fun r _=>Fw [0] hI J J (Nv r (l++[1]) _ (ix ids 0) v3 g2 vH1 (by exact hI.sub' J J)) J J J J J J J (fun v _ _ _=>E0 (K:=1) (N:=1) func149 hI) ?_
 rintro r1 _ _ _ ⟨v4,g3,vH2,rfl,rfl⟩
 refine Gk [0] [Ba v4 g3 1 (List.map (rI .u8) r1),Ao g1 4 [Cd v1]] hI J J J J ⟨Dq,?_⟩
 refine Gm<|Av [] [(4,v4)]<|Be<|Ar ?_
 exact Fu (K:=1) (N:=1) [Ba v4 g3 1 (List.map (rI .u8) r1)] func149 hI J J J (.keep (.drop .nil)) (.same _) ⟨v4,g3,vH2,J,J⟩
theorem Nk (v1:Value)(l:List Int)(h0:Ab)(o0:Nat)(v2:AV)(g:Nat)(vH:Bp v2 o0 g l.length)(hI0:Ids h0 [o0] 1):Hi v1 l≠.bad→Bi Tryz.prog 152 [v2,(.A (Cd v1))] (hp h0 [o0] [Ba v2 g 1 (List.map (rI .u8) l)]) (Ec (fun a_ v h' => ∃ (v6:AV),∃ (g5:Nat),Bp v6 o0 g5 a_.length∧v6=v∧h'=hp h0 [o0] [Ba v6 g5 1 (List.map (rI .u8) a_)]) h0 (Hi v1 l)):=by
 refine Ee (n:=16) 1 func152 J (by decide) J J hI0 J fun ids he hI=>?_
 clear hI0
 obtain rfl:ix ids 0=o0:=he 0 rfl
 clear he
 refine Em (Ag (Hi.eq_1 _ _) ?_)
 refine Ar ?_
 refine Y<|B7 1 (.A (Cd v1)) fun g1=>Ad .emp<|O<|Ar ?_
 refine Ac<|By [0,0,3,0,8,24,56,127,0,256,1023,2047] [pR 0,pR 3,pR 4,pR 5,pR 6,pR 8,pR 9,pE 1,pE 2,pE 7,pE 10,pR 11] Dr<|Av [1] [(5,v2),(8,.ptr (ix ids 1) g1 0 2),(9,.str v1.S)]<|A2 (.I (v1.S.length:Int)) J J (Cc (Af3 W9))<|A2 (.int .u64 (IntKind.wrap .u64 (v1.S.length:Int))) J J (Re (Tr Bh We))<|Av [1] [(13,.ptr (ix ids 1) g1 0 2),(14,.str v1.S)]<|Gh J J (fun _ _=>J) (fun K hK=>K0 (e:=(rI .u8)) (L:=[2]) (st:=1) (rows:=[[.int .u8 2]]) De Fe J J J J J (.cons (RowSim.refl _) .nil) (fun x=>Bl x) J J (hK _ _ (Af J (Bg (A7 hI J J J W9 J)) (Af J (H3 (Ng 0 2 2 Oa J W9 J)) (Af J (Re (Tr Bh We)) (Af J (Cc (Af3 W9)) (Af J (Bg (A7 hI J J J W9 J)) (Af J (H3 (Ng 0 2 2 Oa J W9 J)) (Af J Bb Dd))))))) ?_))
 clear hK K
 refine Df fun hl=>Gh J J (fun _ _=>J) (fun K hK=>Ik (e:=(rI .u8)) (L:=l) (L2:=[2]) (v:=v2) (g:=g) (st:=1) (j:=0) hI J J J vH J (C1 J) De De J Fe J J J hl fun v3 g2 vH1=>hK _ _ (Af J (Bg (A7 hI J J J W9 J)) (Af J (H3 (Ng 0 2 2 Oa J W9 J)) (Af J (Re (Tr Bh We)) (Af J (Cc (Af3 W9)) (Af J (Bg (A7 hI J J J W9 J)) (Af J (H3 (Ng 0 2 2 Oa J W9 J)) (Gs J Dd))))))) ?_)
 clear hK K
 refine Fw [0] hI J J (Nv (IntKind.wrap .u64 (v1.S.length:Int)) (l++[2]) _ (ix ids 0) v3 g2 vH1 (by exact hI.sub' J J)) J J J J J J J (fun v _ _ _=>E0 (K:=1) (N:=1) func152 hI) ?_
 rintro r _ _ _ ⟨v4,g3,vH2,rfl,rfl⟩
 refine Gk [0] [Ba v4 g3 1 (List.map (rI .u8) r),Ao g1 4 [Cd v1]] hI J J J J ⟨Fc [1],?_⟩
 refine Gm<|Df fun hl1=>Gh J J (fun _ _=>J) (fun K hK=>Ik (e:=(rI .u8)) (L:=r) (L2:=(Od v1.S)) (v:=v4) (g:=g3) (st:=1) (j:=0) hI J J J vH2 J (Atb J J) De W9 J Fe J J J hl1 fun v5 g4 vH3=>hK _ _ Dq ?_)
 clear hK K
 refine Av [] [(4,v5)]<|Be<|Ar ?_
 exact Fu (K:=1) (N:=1) [Ba v5 g4 1 (List.map (rI .u8) (r++(Od v1.S)))] func152 hI J J J (.keep (.drop .nil)) (.same _) ⟨v5,g4,vH3,J,J⟩
theorem Wb (W_:Value→(List Int)→R (List Int))(cg_W_ : ∀ (v1:Value) (l:List Int) (h0:Ab) (o0:Nat) (o1:Nat) (o2:Nat) (v2:AV) (g:Nat) (g1:Nat) (g2:Nat) (vH:Bp v2 o0 g l.length) (hI0:Ids h0 [o0,o1,o2] 3),W_ v1 l≠.bad→Bi Tryz.prog 153 [v2,(.A (Cd v1)),(.ptr o1 g1 0 0)] (hp h0 [o0,o1,o2] [Ba v2 g 1 (List.map (rI .u8) l),Ao g1 1 [[(.ptr o2 g2 0 0)]],Ao g2 4 [[.nilf,(.func (.func 149) [] []),(.func (.func 152) [] []),(.func (.func 153) [] [(.ptr o1 g1 0 0)])]]]) (Ec (fun a_ v h' => ∃ (v9:AV),∃ (g11:Nat),Bp v9 o0 g11 a_.length∧v9=v∧h'=hp h0 [o0,o1,o2] [Ba v9 g11 1 (List.map (rI .u8) a_),Ao g1 1 [[(.ptr o2 g2 0 0)]],Ao g2 4 [[.nilf,(.func (.func 149) [] []),(.func (.func 152) [] []),(.func (.func 153) [] [(.ptr o1 g1 0 0)])]]]) h0 (W_ v1 l)))(v1:Value)(l:List Int)(h0:Ab)(o0:Nat)(o1:Nat)(o2:Nat)(v2:AV)(g:Nat)(g1:Nat)(g2:Nat)(vH:Bp v2 o0 g l.length)(hI0:Ids h0 [o0,o1,o2] 3):La W_ v1 l≠.bad→Bi Tryz.prog 153 [v2,(.A (Cd v1)),(.ptr o1 g1 0 0)] (hp h0 [o0,o1,o2] [Ba v2 g 1 (List.map (rI .u8) l),Ao g1 1 [[(.ptr o2 g2 0 0)]],Ao g2 4 [[.nilf,(.func (.func 149) [] []),(.func (.func 152) [] []),(.func (.func 153) [] [(.ptr o1 g1 0 0)])]]]) (Ec (fun a_ v h' => ∃ (v9:AV),∃ (g11:Nat),Bp v9 o0 g11 a_.length∧v9=v∧h'=hp h0 [o0,o1,o2] [Ba v9 g11 1 (List.map (rI .u8) a_),Ao g1 1 [[(.ptr o2 g2 0 0)]],Ao g2 4 [[.nilf,(.func (.func 149) [] []),(.func (.func 152) [] []),(.func (.func 153) [] [(.ptr o1 g1 0 0)])]]]) h0 (La W_ v1 l)):=by
 refine Ee (n:=35) 2 func153 J (by decide) J J hI0 J fun ids he hI=>?_
 clear hI0
 obtain rfl:ix ids 0=o0:=he 0 rfl
 obtain rfl:ix ids 1=o1:=he 1 rfl
 obtain rfl:ix ids 2=o2:=he 2 rfl
 clear he
 refine Em (Ag (La.eq_1 _ _ _) ?_)
 refine Ar ?_
 refine Y<|B7 3 (.A (Cd v1)) fun g3=>Ad .emp<|O<|Ar ?_
 refine Ac<|By [0,0,3,0,8,24,56,127,255] [pR 0,pR 3,pR 4,pR 5,pR 6,pE 1,pE 2,pE 7,pR 8] Dr<|Av [3] [(8,v2),(11,.ptr (ix ids 3) g3 0 3),(12,.sl 4 (List.map rValueA v1.L))]<|A2 (.I (v1.L.length:Int)) J J (Cc (C3 J2))<|A2 (.int .u64 (IntKind.wrap .u64 (v1.L.length:Int))) J J (Re (Tr Bh We))<|Gh J J (fun _ _=>J) (fun K hK=>K0 (e:=(rI .u8)) (L:=[3]) (st:=1) (rows:=[[.int .u8 3]]) De Fe J J J J J (.cons (RowSim.refl _) .nil) (fun x=>Bl x) J J (hK _ _ (Af J (Re (Tr Bh We)) (Af J (Cc (C3 J2)) (Af J (Bg (A7 hI J J J J2 J)) (Af J (H3 (Ng 0 3 3 Oa J J2 J)) (Af J Bb Dd))))) ?_))
 clear hK K
 refine Df fun hl=>Gh J J (fun _ _=>J) (fun K hK=>Ik (e:=(rI .u8)) (L:=l) (L2:=[3]) (v:=v2) (g:=g) (st:=1) (j:=0) hI J J J vH J (C1 J) De De J Fe J J J hl fun v3 g4 vH1=>hK _ _ (Af J (Re (Tr Bh We)) (Af J (Cc (C3 J2)) (Af J (Bg (A7 hI J J J J2 J)) (Af J (H3 (Ng 0 3 3 Oa J J2 J)) (Gs J Dd))))) ?_)
 clear hK K
 refine Fw [0] hI J J (Nv (IntKind.wrap .u64 (v1.L.length:Int)) (l++[3]) _ (ix ids 0) v3 g4 vH1 (by exact hI.sub' J J)) J J J J J J J (fun v _ _ _=>E0 (K:=3) (N:=2) func153 hI) ?_
 rintro b _ _ _ ⟨v4,g5,vH2,rfl,rfl⟩
 refine Gk [0] [Ba v4 g5 1 (List.map (rI .u8) b),Ao g1 1 [[.q ids 2 g2]],Ao g2 4 [[.nilf,.func (.func 149) [] [],.func (.func 152) [] [],.func (.func 153) [] [.q ids 1 g1]]],Ao g3 4 [Cd v1],none] hI J J J J ⟨Dq,?_⟩
 refine Gm<|Av [] [(0,v4)]<|Be<|Ar ?_
 refine Ac<|Y<|Aa 2 [3] [(17,.sl 4 (List.map rValueA v1.L))]<|Bo v1.L<|Ap (.I 0)<|O<|An<|Cb 8<|B4 [0,2,17,18,19] ?_
 refine C6 (P:=Tryz.prog) v1.L (fun _ a=>fun b1=>Kd W_ a b1) (((fun b1=>.ok b1)):(List Int)→R (List Int)) (fun j=>fun b1=>fun fr h => ∃ (v5:AV),∃ (g6:Nat),Bp v5 (ix ids 0) g6 b1.length∧fr=Ae [(0,v5),(2,.q ids 1 g1),(17,.sl 4 (List.map rValueA v1.L)),(18,.I (v1.L.length:Int)),(19,.I j)]∧h=hp h0 ids [Ba v5 g6 1 (List.map (rI .u8) b1),Ao g1 1 [[.q ids 2 g2]],Ao g2 4 [[.nilf,.func (.func 149) [] [],.func (.func 152) [] [],.func (.func 153) [] [.q ids 1 g1]]],none,none]) b ?_ ?_ ?_
 ·exact⟨v4,g5,vH2,J,J⟩
 ·rintro j a ha W hW b1 fr h ⟨v5,g6,vH3,rfl,rfl⟩
  refine Ag (m':=Kd W_ a b1) J (Ag (Kd.eq_1 _ _ _) ?_)
  refine Y<|Ax (.B (decide ((j:Int)<(v1.L.length:Int))))<|O<|Ac<|Cr (t:=17) (L:=v1.L) J fun hlim=>Bv J (Int.ofNat_lt.2 (As ha))<|Ai<|Ac<|An<|Y<|Aw (.cp (Cd a) 0) J (At (Aea S1 J2 Oa J ha))<|Ax (.A (Cd a))<|Cp 4 Oa fun g7=>Bt (.A (Cd a)) ?_
  refine O<|Ar ?_
  refine By [0,0,2,1,15,31,63,0,0,511,1023] [pR 0,pR 1,pR 2,pR 3,pR 4,pR 5,pR 6,pR 7,pR 8,pE 9,pR 10] Dr<|Av [1,4] [(23,.q ids 2 g2),(24,.q ids 4 g7),(25,.I a.Kind),(26,.q ids 2 g2)]<|Ja (fun hi=>?_) (fun _=>?_)
  ·refine A2 (.q ids 2 g2) J J (At (I1 0 Oo On hi J))<|Av [2,4] [(28,.q ids 2 g2),(29,.nilf),(30,v5),(31,.A (Cd a))]<|Ux
  refine Ja (fun hi=>?_) (fun _=>?_)
  ·refine A2 (.ptr (ix ids 2) g2 0 1) J J (At (I1 1 Oo On hi J))<|Av [2,4] [(28,.ptr (ix ids 2) g2 0 1),(29,.func (.func 149) [] []),(30,v5),(31,.A (Cd a))]<|Fw [0] hI J J (Nj a b1 _ (ix ids 0) v5 g6 vH3 (by exact hI.sub' J J)) J J J J J J J (fun v _ _ _=>E0 (K:=3) (N:=2) func153 hI) ?_
   rintro b2 _ _ _ ⟨v6,g8,vH4,rfl,rfl⟩
   refine Gk [0] [Ba v6 g8 1 (List.map (rI .u8) b2),Ao g1 1 [[.q ids 2 g2]],Ao g2 4 [[.nilf,.func (.func 149) [] [],.func (.func 152) [] [],.func (.func 153) [] [.q ids 1 g1]]],none,Ao g7 4 [Cd a]] hI J J J J ⟨Dq,?_⟩
   refine Gm<|Av [] [(0,v6)]<|Be<|Ar ?_
   refine Ay<|Ah<|Aa 2 [] [(19,.I (wi ((j:Int)+1)))]<|O<|Cb 16<|A3 (Gb (hW b2 _ _ ⟨v6,g8,vH4,J,J⟩)) (.r4 (.o (ic ha hlim)))
  refine Ja (fun hi=>?_) (fun _=>?_)
  ·refine A2 (.ptr (ix ids 2) g2 0 2) J J (At (I1 2 Oo On hi J))<|Av [2,4] [(28,.ptr (ix ids 2) g2 0 2),(29,.func (.func 152) [] []),(30,v5),(31,.A (Cd a))]<|Fw [0] hI J J (Nk a b1 _ (ix ids 0) v5 g6 vH3 (by exact hI.sub' J J)) J J J J J J J (fun v _ _ _=>E0 (K:=3) (N:=2) func153 hI) ?_
   rintro b3 _ _ _ ⟨v7,g9,vH5,rfl,rfl⟩
   refine Gk [0] [Ba v7 g9 1 (List.map (rI .u8) b3),Ao g1 1 [[.q ids 2 g2]],Ao g2 4 [[.nilf,.func (.func 149) [] [],.func (.func 152) [] [],.func (.func 153) [] [.q ids 1 g1]]],none,Ao g7 4 [Cd a]] hI J J J J ⟨Dq,?_⟩
   refine Gm<|Av [] [(0,v7)]<|Be<|Ar ?_
   refine Ay<|Ah<|Aa 2 [] [(19,.I (wi ((j:Int)+1)))]<|O<|Cb 16<|A3 (Gb (hW b3 _ _ ⟨v7,g9,vH5,J,J⟩)) (.r4 (.o (ic ha hlim)))
  refine Ja (fun hi=>?_) (fun _=>?_)
  ·refine A2 (.ptr (ix ids 2) g2 0 3) J J (At (I1 3 Oo On hi J))<|Av [2,4] [(28,.ptr (ix ids 2) g2 0 3),(29,.func (.func 153) [] [.q ids 1 g1]),(30,v5),(31,.A (Cd a))]<|Fw [0,1,2] hI J J (cg_W_ a b1 _ (ix ids 0) (ix ids 1) (ix ids 2) v5 g6 g1 g2 vH3 (by exact hI.sub' J J)) J J J J J J J (fun v _ _ _=>E0 (K:=3) (N:=2) func153 hI) ?_
   rintro b4 _ _ _ ⟨v8,g10,vH6,rfl,rfl⟩
   refine Gk [0,1,2] [Ba v8 g10 1 (List.map (rI .u8) b4),Ao g1 1 [[.q ids 2 g2]],Ao g2 4 [[.nilf,.func (.func 149) [] [],.func (.func 152) [] [],.func (.func 153) [] [.q ids 1 g1]]],none,Ao g7 4 [Cd a]] hI J J J J ⟨Dq,?_⟩
   refine Gm<|Av [] [(0,v8)]<|Be<|Ar ?_
   refine Ay<|Ah<|Aa 2 [] [(19,.I (wi ((j:Int)+1)))]<|O<|Cb 16<|A3 (Gb (hW b4 _ _ ⟨v8,g10,vH6,J,J⟩)) (.r4 (.o (ic ha hlim)))
  exact Ux
 rintro b1 fr h ⟨v5,g6,vH3,rfl,rfl⟩
 refine Y<|Ax (.B (decide ((v1.L.length:Int)<(v1.L.length:Int))))<|O<|Ac<|Bw J (Int.lt_irrefl _)<|Bd J<|Y<|Aa 2 [] [(5,v5)]<|O<|Fu (K:=3) (N:=2) [Ba v5 g6 1 (List.map (rI .u8) b1),Ao g1 1 [[.q ids 2 g2]],Ao g2 4 [[.nilf,.func (.func 149) [] [],.func (.func 152) [] [],.func (.func 153) [] [.q ids 1 g1]]]] func153 hI J J J (.keep (.keep (.keep (.keep (.keep .nil))))) (.same _) ⟨v5,g6,vH3,J,J⟩
theorem Wa : ∀ (n:Nat) (v1:Value) (l:List Int) (h0:Ab) (o0:Nat) (o1:Nat) (o2:Nat) (v2:AV) (g:Nat) (g1:Nat) (g2:Nat) (vH:Bp v2 o0 g l.length) (hI0:Ids h0 [o0,o1,o2] 3),Ie n v1 l≠.bad→Bi Tryz.prog 153 [v2,(.A (Cd v1)),(.ptr o1 g1 0 0)] (hp h0 [o0,o1,o2] [Ba v2 g 1 (List.map (rI .u8) l),Ao g1 1 [[(.ptr o2 g2 0 0)]],Ao g2 4 [[.nilf,(.func (.func 149) [] []),(.func (.func 152) [] []),(.func (.func 153) [] [(.ptr o1 g1 0 0)])]]]) (Ec (fun a_ v h' => ∃ (v9:AV),∃ (g11:Nat),Bp v9 o0 g11 a_.length∧v9=v∧h'=hp h0 [o0,o1,o2] [Ba v9 g11 1 (List.map (rI .u8) a_),Ao g1 1 [[(.ptr o2 g2 0 0)]],Ao g2 4 [[.nilf,(.func (.func 149) [] []),(.func (.func 152) [] []),(.func (.func 153) [] [(.ptr o1 g1 0 0)])]]]) h0 (Ie n v1 l)):=by
 intro n
 induction n with
 | zero=>intro v1 l h0 o0 o1 o2 v2 g g1 g2 vH hI0; exact fun hb=>absurd rfl hb
 | succ n ih=>intro v1 l h0 o0 o1 o2 v2 g g1 g2 vH hI0; exact Wb (Ie n) ih v1 l h0 o0 o1 o2 v2 g g1 g2 vH hI0
theorem Xj (v1:Value)(l:List Int)(h0:Ab)(o0:Nat)(o1:Nat)(o2:Nat)(v2:AV)(g:Nat)(g1:Nat)(g2:Nat)(vH:Bp v2 o0 g l.length)(hI0:Ids h0 [o0,o1,o2] 3):Pr v1 l≠.bad→Bi Tryz.prog 153 [v2,(.A (Cd v1)),(.ptr o1 g1 0 0)] (hp h0 [o0,o1,o2] [Ba v2 g 1 (List.map (rI .u8) l),Ao g1 1 [[(.ptr o2 g2 0 0)]],Ao g2 4 [[.nilf,(.func (.func 149) [] []),(.func (.func 152) [] []),(.func (.func 153) [] [(.ptr o1 g1 0 0)])]]]) (Ec (fun a_ v h' => ∃ (v9:AV),∃ (g11:Nat),Bp v9 o0 g11 a_.length∧v9=v∧h'=hp h0 [o0,o1,o2] [Ba v9 g11 1 (List.map (rI .u8) a_),Ao g1 1 [[(.ptr o2 g2 0 0)]],Ao g2 4 [[.nilf,(.func (.func 149) [] []),(.func (.func 152) [] []),(.func (.func 153) [] [(.ptr o1 g1 0 0)])]]]) h0 (Pr v1 l)):=Wa Sa v1 l h0 o0 o1 o2 v2 g g1 g2 vH hI0
theorem Yw (v1:Value)(h0:Ab)(o0:Nat)(o1:Nat)(g:Nat)(g1:Nat)(hI0:Ids h0 [o0,o1] 2):Lh v1≠.bad→Bi Tryz.prog 153 [.emp,(.A (Cd v1)),(.ptr o0 g 0 0)] (hp h0 [o0,o1] [Ao g 1 [[(.ptr o1 g1 0 0)]],Ao g1 4 [[.nilf,(.func (.func 149) [] []),(.func (.func 152) [] []),(.func (.func 153) [] [(.ptr o0 g 0 0)])]]]) (Ec (fun a_ v h'=>v=(.sl 1 (List.map (rI .u8) a_))∧h'=hp h0 [o0,o1] [Ao g 1 [[(.ptr o1 g1 0 0)]],Ao g1 4 [[.nilf,(.func (.func 149) [] []),(.func (.func 152) [] []),(.func (.func 153) [] [(.ptr o0 g 0 0)])]]]) h0 (Lh v1)):=by
 refine Ee (n:=35) 3 func153 J (by decide) J J hI0 J fun ids he hI=>?_
 clear hI0
 obtain rfl:ix ids 0=o0:=he 0 rfl
 obtain rfl:ix ids 1=o1:=he 1 rfl
 clear he
 refine Em (Ag (Lh.eq_1 _) ?_)
 refine Ar ?_
 refine Y<|B7 2 (.A (Cd v1)) fun g2=>Ad .emp<|O<|Ar ?_
 refine Ac<|By [0,0,3,0,8,24,56,127,255] [pR 0,pR 3,pR 4,pR 5,pR 6,pE 1,pE 2,pE 7,pR 8] Dr<|Av [2] [(8,.emp),(11,.ptr (ix ids 2) g2 0 3),(12,.sl 4 (List.map rValueA v1.L))]<|A2 (.I (v1.L.length:Int)) J J (Cc (C3 J2))<|A2 (.int .u64 (IntKind.wrap .u64 (v1.L.length:Int))) J J (Re (Tr Bh We))<|Gh J J (fun _ _=>J) (fun K hK=>K0 (e:=(rI .u8)) (L:=[3]) (st:=1) (rows:=[[.int .u8 3]]) De Fe J J J J J (.cons (RowSim.refl _) .nil) (fun x=>Bl x) J J (hK _ _ (Af J (Re (Tr Bh We)) (Af J (Cc (C3 J2)) (Af J (Bg (A7 hI J J J J2 J)) (Af J (H3 (Ng 0 3 3 Oa J J2 J)) (Af J Bb Dd))))) ?_))
 clear hK K
 refine Df fun hl=>Gh J J (fun _ _=>J) (fun K hK=>Ik (e:=(rI .u8)) (L:=([]:List Int)) (L2:=[3]) (v:=.emp) (g:=0) (st:=1) (j:=3) hI J J J .nil J (C1 J) De De J Fe J J J (by simpa using hl) fun v2 g3 vH=>hK _ _ (Af J (Re (Tr Bh We)) (Af J (Cc (C3 J2)) (Af J (Bg (A7 hI J J J J2 J)) (Af J (H3 (Ng 0 3 3 Oa J J2 J)) (Gs J Dd))))) ?_)
 clear hK K
 refine Fw [3] hI J J (Nv (IntKind.wrap .u64 (v1.L.length:Int)) [3] _ (ix ids 3) v2 g3 vH (by exact hI.sub' J J)) J J J J J J J (fun v _ _ _=>E0 (K:=2) (N:=3) func153 hI) ?_
 rintro b _ _ _ ⟨v3,g4,vH1,rfl,rfl⟩
 refine Gk [3] [Ao g 1 [[.q ids 1 g1]],Ao g1 4 [[.nilf,.func (.func 149) [] [],.func (.func 152) [] [],.func (.func 153) [] [.q ids 0 g]]],Ao g2 4 [Cd v1],Ba v3 g4 1 (List.map (rI .u8) b),none] hI J J J J ⟨Dq,?_⟩
 refine Gm<|Av [] [(0,v3)]<|Be<|Ar ?_
 refine Ac<|Y<|Aa 2 [2] [(17,.sl 4 (List.map rValueA v1.L))]<|Bo v1.L<|Ap (.I 0)<|O<|An<|Cb 4<|B4 [0,2,17,18,19] ?_
 refine C6 (P:=Tryz.prog) v1.L (fun _ a=>fun b1=>G0 a b1) (((fun b1=>.ok b1)):(List Int)→R (List Int)) (fun j=>fun b1=>fun fr h => ∃ (v4:AV),∃ (g5:Nat),Bp v4 (ix ids 3) g5 b1.length∧fr=Ae [(0,v4),(2,.q ids 0 g),(17,.sl 4 (List.map rValueA v1.L)),(18,.I (v1.L.length:Int)),(19,.I j)]∧h=hp h0 ids [Ao g 1 [[.q ids 1 g1]],Ao g1 4 [[.nilf,.func (.func 149) [] [],.func (.func 152) [] [],.func (.func 153) [] [.q ids 0 g]]],none,Ba v4 g5 1 (List.map (rI .u8) b1),none]) b ?_ ?_ ?_
 ·exact⟨v3,g4,vH1,J,J⟩
 ·rintro j a ha W hW b1 fr h ⟨v4,g5,vH2,rfl,rfl⟩
  refine Ag (m':=G0 a b1) J (Ag (G0.eq_1 _ _) ?_)
  refine Y<|Ax (.B (decide ((j:Int)<(v1.L.length:Int))))<|O<|Ac<|Cr (t:=17) (L:=v1.L) J fun hlim=>Bv J (Int.ofNat_lt.2 (As ha))<|Ai<|Ac<|An<|Y<|Aw (.cp (Cd a) 0) J (At (Aea S1 J2 Oa J ha))<|Ax (.A (Cd a))<|Cp 4 Oa fun g6=>Bt (.A (Cd a)) ?_
  refine O<|Ar ?_
  refine By [0,0,2,1,15,31,63,0,0,511,1023] [pR 0,pR 1,pR 2,pR 3,pR 4,pR 5,pR 6,pR 7,pR 8,pE 9,pR 10] Dr<|Av [0,4] [(23,.q ids 1 g1),(24,.q ids 4 g6),(25,.I a.Kind),(26,.q ids 1 g1)]<|Ja (fun hi=>?_) (fun _=>?_)
  ·refine A2 (.q ids 1 g1) J J (At (I1 0 Oo On hi J))<|Av [1,4] [(28,.q ids 1 g1),(29,.nilf),(30,v4),(31,.A (Cd a))]<|Ux
  refine Ja (fun hi=>?_) (fun _=>?_)
  ·refine A2 (.ptr (ix ids 1) g1 0 1) J J (At (I1 1 Oo On hi J))<|Av [1,4] [(28,.ptr (ix ids 1) g1 0 1),(29,.func (.func 149) [] []),(30,v4),(31,.A (Cd a))]<|Fw [3] hI J J (Nj a b1 _ (ix ids 3) v4 g5 vH2 (by exact hI.sub' J J)) J J J J J J J (fun v _ _ _=>E0 (K:=2) (N:=3) func153 hI) ?_
   rintro b2 _ _ _ ⟨v5,g7,vH3,rfl,rfl⟩
   refine Gk [3] [Ao g 1 [[.q ids 1 g1]],Ao g1 4 [[.nilf,.func (.func 149) [] [],.func (.func 152) [] [],.func (.func 153) [] [.q ids 0 g]]],none,Ba v5 g7 1 (List.map (rI .u8) b2),Ao g6 4 [Cd a]] hI J J J J ⟨Dq,?_⟩
   refine Gm<|Av [] [(0,v5)]<|Be<|Ar ?_
   refine Ay<|Ah<|Aa 2 [] [(19,.I (wi ((j:Int)+1)))]<|O<|Cb 16<|A3 (Gb (hW b2 _ _ ⟨v5,g7,vH3,J,J⟩)) (.r4 (.o (ic ha hlim)))
  refine Ja (fun hi=>?_) (fun _=>?_)
  ·refine A2 (.ptr (ix ids 1) g1 0 2) J J (At (I1 2 Oo On hi J))<|Av [1,4] [(28,.ptr (ix ids 1) g1 0 2),(29,.func (.func 152) [] []),(30,v4),(31,.A (Cd a))]<|Fw [3] hI J J (Nk a b1 _ (ix ids 3) v4 g5 vH2 (by exact hI.sub' J J)) J J J J J J J (fun v _ _ _=>E0 (K:=2) (N:=3) func153 hI) ?_
   rintro b3 _ _ _ ⟨v6,g8,vH4,rfl,rfl⟩
   refine Gk [3] [Ao g 1 [[.q ids 1 g1]],Ao g1 4 [[.nilf,.func (.func 149) [] [],.func (.func 152) [] [],.func (.func 153) [] [.q ids 0 g]]],none,Ba v6 g8 1 (List.map (rI .u8) b3),Ao g6 4 [Cd a]] hI J J J J ⟨Dq,?_⟩
   refine Gm<|Av [] [(0,v6)]<|Be<|Ar ?_
   refine Ay<|Ah<|Aa 2 [] [(19,.I (wi ((j:Int)+1)))]<|O<|Cb 16<|A3 (Gb (hW b3 _ _ ⟨v6,g8,vH4,J,J⟩)) (.r4 (.o (ic ha hlim)))
  refine Ja (fun hi=>?_) (fun _=>?_)
  ·refine A2 (.ptr (ix ids 1) g1 0 3) J J (At (I1 3 Oo On hi J))<|Av [1,4] [(28,.ptr (ix ids 1) g1 0 3),(29,.func (.func 153) [] [.q ids 0 g]),(30,v4),(31,.A (Cd a))]<|Fw [3,0,1] hI J J (Xj a b1 _ (ix ids 3) (ix ids 0) (ix ids 1) v4 g5 g g1 vH2 (by exact hI.sub' J J)) J J J J J J J (fun v _ _ _=>E0 (K:=2) (N:=3) func153 hI) ?_
   rintro b4 _ _ _ ⟨v7,g9,vH5,rfl,rfl⟩
   refine Gk [3,0,1] [Ao g 1 [[.q ids 1 g1]],Ao g1 4 [[.nilf,.func (.func 149) [] [],.func (.func 152) [] [],.func (.func 153) [] [.q ids 0 g]]],none,Ba v7 g9 1 (List.map (rI .u8) b4),Ao g6 4 [Cd a]] hI J J J J ⟨Dq,?_⟩
   refine Gm<|Av [] [(0,v7)]<|Be<|Ar ?_
   refine Ay<|Ah<|Aa 2 [] [(19,.I (wi ((j:Int)+1)))]<|O<|Cb 16<|A3 (Gb (hW b4 _ _ ⟨v7,g9,vH5,J,J⟩)) (.r4 (.o (ic ha hlim)))
  exact Ux
 rintro b1 fr h ⟨v4,g5,vH2,rfl,rfl⟩
 refine Y<|Ax (.B (decide ((v1.L.length:Int)<(v1.L.length:Int))))<|O<|Ac<|Bw J (Int.lt_irrefl _)<|Bd J<|Y<|Aa 2 [] [(5,v4)]<|O<|Fu (K:=2) (N:=3) [Ao g 1 [[.q ids 1 g1]],Ao g1 4 [[.nilf,.func (.func 149) [] [],.func (.func 152) [] [],.func (.func 153) [] [.q ids 0 g]]]] func153 hI J J J (.keep (.keep (.keep (.drop (.keep .nil))))) (E3 vH2 (hI.at J J) (hI.at J J) (fun x=>Bl x)) ⟨J,J⟩
theorem Ae9 (v):CP Tryz.prog 96 [.A (Cd v)] (Oy v) (fun p=>AV.tup [.sl 1 (List.map (rI .u8) p.1),.int .i64 p.2]):=by
 refine ci 19 4 func96 (Oy.eq_1 _) fun h0 ids hI hF=>Y<|B7 0 (.A (Cd v)) fun g=>Aa 2 [] []<|O<|Ar ?_
 refine Ac<|Y<|Aa 1 [0] [(5,.A (Cd v))]<|oc ((Ag3 v) _) fun e _=>Ad (.I e)<|O<|Y<|Aa 2 [] [(8,.B (e != 0))]<|O<|A8 J (fun hc=>?_) (fun hc=>?_)
 ·refine Y<|Aa 3 [] [(3,.I e),(2,.emp)]<|O<|Bu func96 hI J (.tupL (.cons (.emp _) .s1))
 refine Ai<|Ac<|By [0,0,2,1,15,31,63,0,255,511,1023] [pR 1,pR 2,pR 7,pE 0,pR 3,pR 4,pR 5,pR 6,pE 8,pR 9,pR 10] Dr<|Av [0,0] [(11,.q ids 0 g),(12,.I v.Kind),(17,.A (Cd v))]<|Fw [1,2] hI J J (Aab _ (ix ids 1) (ix ids 2) (by exact hI.sub' J J)) J J J J J J J (fun v _ _ _=>Dn func96 hI) ?_
 rintro _ _ _ _ ⟨g1,g2,rfl,rfl⟩
 refine Gk [1,2] [Ao g 4 [Cd v],Ao g1 4 [[.nilf,.func (.func 149) [] [],.func (.func 152) [] [],.func (.func 153) [] [.q ids 2 g2]]],Ao g2 1 [[.q ids 1 g1]],none] hI J J J J ⟨Fc [0,0],?_⟩
 refine Gm<|Av [] [(13,.q ids 1 g1)]<|Ja (fun hi=>?_) (fun _=>?_)
 ·refine A2 (.q ids 1 g1) J J (At (I1 0 Oo On hi J))<|Av [1] [(15,.q ids 1 g1),(16,.nilf)]<|Ux
 refine Ja (fun hi=>?_) (fun _=>?_)
 ·refine A2 (.ptr (ix ids 1) g1 0 1) J J (At (I1 1 Oo On hi J))<|Av [1] [(15,.ptr (ix ids 1) g1 0 1),(16,.func (.func 149) [] [])]<|Fw [3] hI J J (Nj v [] _ (ix ids 3) .emp 0 .nil (by exact hI.sub' J J)) J J J J J J J (fun v _ _ _=>Dn func96 hI) ?_
  rintro b _ _ _ ⟨v1,g3,vH,rfl,rfl⟩
  refine Gk [3] [Ao g 4 [Cd v],Ao g1 4 [[.nilf,.func (.func 149) [] [],.func (.func 152) [] [],.func (.func 153) [] [.q ids 2 g2]]],Ao g2 1 [[.q ids 1 g1]],Ba v1 g3 1 (List.map (rI .u8) b)] hI J J J J ⟨Dq,?_⟩
  refine Gm<|Av [] [(2,v1),(3,.I 0)]<|Be<|Ar ?_
  exact Bu func96 hI J (.tupL (.cons (E3 vH (hI.at J J) (hI.out J) (fun x=>Bl x)) .s1))
 refine Ja (fun hi=>?_) (fun _=>?_)
 ·refine A2 (.ptr (ix ids 1) g1 0 2) J J (At (I1 2 Oo On hi J))<|Av [1] [(15,.ptr (ix ids 1) g1 0 2),(16,.func (.func 152) [] [])]<|Fw [3] hI J J (Nk v [] _ (ix ids 3) .emp 0 .nil (by exact hI.sub' J J)) J J J J J J J (fun v _ _ _=>Dn func96 hI) ?_
  rintro b1 _ _ _ ⟨v2,g4,vH1,rfl,rfl⟩
  refine Gk [3] [Ao g 4 [Cd v],Ao g1 4 [[.nilf,.func (.func 149) [] [],.func (.func 152) [] [],.func (.func 153) [] [.q ids 2 g2]]],Ao g2 1 [[.q ids 1 g1]],Ba v2 g4 1 (List.map (rI .u8) b1)] hI J J J J ⟨Dq,?_⟩
  refine Gm<|Av [] [(2,v2),(3,.I 0)]<|Be<|Ar ?_
  exact Bu func96 hI J (.tupL (.cons (E3 vH1 (hI.at J J) (hI.out J) (fun x=>Bl x)) .s1))
 refine Ja (fun hi=>?_) (fun _=>?_)
 ·refine A2 (.ptr (ix ids 1) g1 0 3) J J (At (I1 3 Oo On hi J))<|Av [1] [(15,.ptr (ix ids 1) g1 0 3),(16,.func (.func 153) [] [.q ids 2 g2])]<|Fw [2,1] hI J J (Yw v _ (ix ids 2) (ix ids 1) g2 g1 (by exact hI.sub' J J)) J J J J J J J (fun v _ _ _=>Dn func96 hI) ?_
  rintro b2 _ _ _ ⟨rfl,rfl⟩
  refine Gk [2,1] [Ao g 4 [Cd v],Ao g1 4 [[.nilf,.func (.func 149) [] [],.func (.func 152) [] [],.func (.func 153) [] [.q ids 2 g2]]],Ao g2 1 [[.q ids 1 g1]],none] hI J J J J ⟨Dq,?_⟩
  refine Gm<|Av [] [(2,.sl 1 (List.map (rI .u8) b2)),(3,.I 0)]<|Be<|Ar ?_
  exact Bu func96 hI J (.tupL .s2)
 exact Ux
theorem Af5 (b):CP Tryz.prog 155 [.sl 1 (List.map (rI .u8) b)] (Ry b) (.int .u32):=by
 refine ci 19 0 func155 (Ry.eq_1 _) fun h0 ids hI hF=>Y<|Ad (.int .u32 0)<|O<|Ac<|Y<|Ap (.sl 1 (List.map (rI .u8) b))<|B2 fun hs=>Aw (.sl 1 (List.map (rI .u8) (b.take (Int.toNat 4)))) J (Bz (Mx De Fe J hs))<|Bo (b.take (Int.toNat 4))<|Ap (.I 0)<|O<|An<|B4 [2,6,7,8] ?_
 refine C6 (P:=Tryz.prog) (b.take (Int.toNat 4)) (fun _ a=>fun n=>Rb a n) (((fun n=>.ok n)):Int→R Int) (fun j=>fun n=>fun fr h=>fr=Ae [(2,.int .u32 n),(6,.sl 1 (List.map (rI .u8) (b.take (Int.toNat 4)))),(7,.I ((b.take (Int.toNat 4)).length:Int)),(8,.I j)]∧h=hp h0 ids []) 0 ?_ ?_ ?_
 ·exact⟨J,J⟩
 ·rintro j a ha W hW n fr h ⟨rfl,rfl⟩
  refine Ag (m':=Rb a n) J (Ag (Rb.eq_1 _ _) ?_)
  refine Y<|Ax (.B (decide ((j:Int)<((b.take (Int.toNat 4)).length:Int))))<|O<|Ac<|Cr (t:=6) (L:=(b.take (Int.toNat 4))) J fun hlim=>Bv J (Int.ofNat_lt.2 (As ha))<|Ai<|Ac<|An<|Y<|Aw (.cp [.int .u8 a] 0) J (At (Cn De Fe J ha))<|Aa 2 [] [(4,.int .u8 a)]<|O<|Ah<|Ap (.int .u32 n)<|Aw (.int .u32 (Qb .u32 n 8)) J (Bj J J (Z3 (by decide)))<|Ap (.int .u8 a)<|Ax (.int .u32 (wU a))<|Aw (.int .u32 (Mc .u32 (Qb .u32 n 8) (wU a))) J (Bj J J W8) ?_
  refine Ad (.int .u32 (Mc .u32 (Qb .u32 n 8) (wU a)))<|O<|Ay<|Ah<|Aa 2 [] [(8,.I (wi ((j:Int)+1)))]<|O<|A3 (Gb (hW (Mc .u32 (Qb .u32 n 8) (wU a)) _ _ ⟨J,J⟩)) (.r2 (.r (.o (ic ha hlim))))
 rintro n fr h ⟨rfl,rfl⟩
 refine Y<|Ax (.B (decide (((b.take (Int.toNat 4)).length:Int)<((b.take (Int.toNat 4)).length:Int))))<|O<|Ac<|Bw J (Int.lt_irrefl _)<|Bd J<|Y<|Aa 2 [] [(2,.int .u32 n)]<|O<|rt
theorem En (a k):CP Tryz.prog 156 [.int .u32 a,.int .i64 k] (C0 a k) (.int .u32):=by
 refine ci 17 0 func156 (C0.eq_1 _ _) fun h0 ids hI hF=>Y<|Ad (.int .u32 0)<|O<|Y<|Ap (.I k)<|Ax (.int .u64 (IntKind.wrap .u64 k))<|Aw (.int .u64 (Ef .u64 (IntKind.wrap .u64 k) 31)) J (Bj J J Sk)<|Ad (.int .u64 (Ef .u64 (IntKind.wrap .u64 k) 31))<|O<|Y<|Aa 2 [] [(10,.int .u64 (Ef .u64 (IntKind.wrap .u64 k) 31)),(9,.int .u32 a)]<|B2 fun hz=>Aw (.int .u32 (Qb .u32 a (Ef .u64 (IntKind.wrap .u64 k) 31))) J (Bj J J (Z3 hz))<|Aa 3 [] [(14,.int .u64 (IntKind.wrap .u64 (32 - (Ef .u64 (IntKind.wrap .u64 k) 31)))),(12,.int .u32 a)]<|B2 fun hz1=>Aw (.int .u32 (Ow .u32 a (IntKind.wrap .u64 (32 - (Ef .u64 (IntKind.wrap .u64 k) 31))))) J (Bj J J (Aac hz1))<|Aw (.int .u32 (Mc .u32 (Qb .u32 a (Ef .u64 (IntKind.wrap .u64 k) 31)) (Ow .u32 a (IntKind.wrap .u64 (32 - (Ef .u64 (IntKind.wrap .u64 k) 31)))))) J (Bj J J W8) ?_
 refine Ad (.int .u32 (Mc .u32 (Qb .u32 a (Ef .u64 (IntKind.wrap .u64 k) 31)) (Ow .u32 a (IntKind.wrap .u64 (32 - (Ef .u64 (IntKind.wrap .u64 k) 31))))))<|O<|rt
theorem Vv (v a b c):CP Tryz.prog 157 [.int .u32 v,.int .i64 a,.int .i64 b,.int .i64 c] (Mk v a b c) (.int .u32):=by
 refine ci 23 0 func157 (Mk.eq_1 _ _ _ _) fun h0 ids hI hF=>Y<|Ad (.int .u32 0)<|O<|Y<|Aa 3 [] [(11,.I (wi (0 - a))),(9,.int .u32 v)]<|oc ((En v (wi (0 - a))) _) fun r _=>Aa 3 [] [(15,.I (wi (0 - b))),(13,.int .u32 v)]<|oc ((En v (wi (0 - b))) _) fun r1 _=>Aw (.int .u32 (Cx .u32 r r1)) J (Bj J J Kv)<|Aa 3 [] [(20,.I (wi (0 - c))),(18,.int .u32 v)]<|oc ((En v (wi (0 - c))) _) fun r2 _=>Aw (.int .u32 (Cx .u32 (Cx .u32 r r1) r2)) J (Bj J J Kv)<|Ad (.int .u32 (Cx .u32 (Cx .u32 r r1) r2))<|O<|rt
theorem Oh (b:List Int)(s:(Vector Int 8))(h0:Ab)(o0:Nat)(g:Nat)(hI0:Ids h0 [o0] 1):Fl b s≠.bad→Bi Tryz.prog 133 [(.ptr o0 g 0 0),(.sl 1 (List.map (rI .u8) b))] (hp h0 [o0] [Ao g 8 [((rV (rI .u32)) s)]]) (Ec (fun a_ v h'=>v=(.tup [])∧h'=hp h0 [o0] [Ao g 8 [((rV (rI .u32)) a_)]]) h0 (Fl b s)):=by
 refine Ee (n:=144) 2 func133 J (by decide) J J hI0 J fun ids he hI=>?_
 clear hI0
 obtain rfl:ix ids 0=o0:=he 0 rfl
 clear he
 refine Em (Ag (Fl.eq_1 _ _) ?_)
 refine Ar ?_
 refine Y<|Et (j:=1) (row:=((rV (rI .u32)) (B0 64 0))) hI J J J J L9 (Hr (n:=64) (e:=(rI .u32)) (E:=(fun x:Int=>(AV.int .u32 x))) (fun _=>J) _).symm ((Cw (fun x=>Bl x) J) _) fun g1=>O<|Ar ?_
 refine Ac<|Y<|Ap (.I 0)<|O<|An<|B4 [0,1,4,14] ?_
 refine C6 (P:=Tryz.prog) (List.range 16) (fun j _=>fun o=>Ia b j o) (((fun o=>(loop (C8 fun x1 o1=>Fg x1 o1) (16,o)).bind (fun o2=>Gn s o2))):(Vector Int 64)→R (Vector Int 8)) (fun j=>fun o=>fun fr h=>fr=Ae [(0,.q ids 0 g),(1,.sl 1 (List.map (rI .u8) b)),(4,.q ids 1 g1),(14,.I j)]∧h=hp h0 ids [Ao g 8 [(rV (rI .u32)) s],Ao g1 64 [(rV (rI .u32)) o],none]) (B0 64 0) ?_ ?_ ?_
 ·exact⟨J,J⟩
 ·rintro j a ha W hW o fr h ⟨rfl,rfl⟩
  refine Ag (m':=Ia b j o) J (Ag (Ia.eq_1 _ _ _) ?_)
  refine Y<|Ax (.B (decide ((j:Int)<16)))<|O<|Ac<|Bv J (by have:=(B6 ha).1; omega)<|Ai<|Ac<|An<|Y<|Aa 2 [] [(5,.I j)]<|O<|Ah<|Aa 4 [] [(20,.I (wi (4 * (j:Int)))),(18,.sl 1 (List.map (rI .u8) b)),(17,.I j)]<|B2 fun hs=>Aw (.sl 1 (List.map (rI .u8) (b.drop (Int.toNat (wi (4 * (j:Int))))))) J (Bz (I7 De Fe J hs))<|Nt _ J J J J ((Af5 (b.drop (Int.toNat (wi (4 * (j:Int)))))) _) (fun v _=>E0 (K:=1) (N:=2) func133 hI) fun r _=>Aw (.ptr (ix ids 1) g1 0 j) J (At (C4 L9 Bq J (Nat.lt_of_lt_of_le (B6 ha).1 (by decide))))<|B8 (Uz (e:=(rI .u32)) (E:=(fun x:Int=>(AV.int .u32 x))) (x:=r) (fun _=>J) hI J J J Bq J J (Nat.lt_of_lt_of_le (B6 ha).1 (by decide)) J J J)<|O ?_
  refine Ar ?_
  refine Ay<|Ah<|Aa 2 [] [(14,.I (wi ((j:Int)+1)))]<|O<|A3 (Gb (hW (Nh o j r) _ _ ⟨J,J⟩)) (.r2 (.r (.cons (Gf (B6 ha).1 (by decide)) .nil)))
 rintro o fr h ⟨rfl,rfl⟩
 refine Y<|Ax (.B (decide (((List.range 16).length:Int)<16)))<|O<|Ac<|Bw J (by simp)<|Bd J<|Ac<|Y<|Ad (.I 16)<|O<|Cu (fun o2=>Gn s o2) (fun o2=>fun fr h=>fr=Ae [(0,.q ids 0 g),(4,.q ids 1 g1)]∧h=hp h0 ids [Ao g 8 [(rV (rI .u32)) s],Ao g1 64 [(rV (rI .u32)) o2],none]) ?_ fun hJ=>?_
 ·rintro o2 fr h ⟨rfl,rfl⟩
  refine Ag (Gn.eq_1 _ _)<|Y<|Aa 3 [0] [(68,.A ((rV (rI .u32)) s))]<|Et (j:=2) (row:=((rV (rI .u32)) (B0 8 0))) hI J J J J E5 (Hr (n:=8) (e:=(rI .u32)) (E:=(fun x:Int=>(AV.int .u32 x))) (fun _=>J) _).symm ((Cw (fun x=>Bl x) J) _) fun g2=>B8 (Ea (v:=(.A ((rV (rI .u32)) s))) hI J J J E5 J J J (((Cw (fun x=>Bl x) J) _).1) J)<|O<|Ar ?_
  refine Ac<|Y<|Ap (.I 0)<|O<|An<|B4 [0,4,9,69] ?_
  refine C6 (P:=Tryz.prog) (List.range 64) (fun j1 _=>fun o3=>H9 o2 j1 o3) (((fun o3=>(eachS (fun j2 _=>fun o4=>Ic o3 j2 o4) 0 (List.range 8) s).bind ((fun o4=>.ok o4)))):(Vector Int 8)→R (Vector Int 8)) (fun j1=>fun o3=>fun fr h=>fr=Ae [(0,.q ids 0 g),(4,.q ids 1 g1),(9,.q ids 2 g2),(69,.I j1)]∧h=hp h0 ids [Ao g 8 [(rV (rI .u32)) s],Ao g1 64 [(rV (rI .u32)) o2],Ao g2 8 [(rV (rI .u32)) o3]]) s ?_ ?_ ?_
  ·exact⟨J,J⟩
  ·rintro j1 a1 ha1 W hW2 o3 fr h ⟨rfl,rfl⟩
   refine Ag (m':=H9 o2 j1 o3) J (Ag (H9.eq_1 _ _ _) ?_)
   refine Y<|Ax (.B (decide ((j1:Int)<64)))<|O<|Ac<|Bv J (by have:=(B6 ha1).1; omega)<|Ai<|Ac<|An<|Y<|Aa 2 [] [(10,.I j1)]<|O<|Ac<|By [0,1,0,4,12,31,0,64,0,256,0,1024,0,4096,15360,32512,65472,131071,0,262144,786432,2097151,0,4194304,12582912,33554431,67108863] [pR 0,pR 1,pR 2,pR 3,pR 6,pR 7,pR 8,pR 9,pR 10,pR 11,pR 12,pR 13,pR 14,pR 15,pR 16,pR 18,pR 19,pR 20,pR 22,pR 23,pR 24,pE 4,pR 5,pR 17,pR 21,pR 25,pR 26] Dr<|A2 (.ptr (ix ids 2) g2 0 7) J J (At (C4 (i:=7) E5 Bq J (by decide)))<|A2 (.int .u32 (A0 o3 7 0)) J J (Bg (A7 hI J J J Bq (Ff (e:=(rI .u32)) (E:=(fun x:Int=>(AV.int .u32 x))) (fun _=>J) (by decide) 0)))<|A2 (.ptr (ix ids 2) g2 0 4) J J (At (C4 (i:=4) E5 Bq J (by decide)))<|A2 (.int .u32 (A0 o3 4 0)) J J (Bg (A7 hI J J J Bq (Ff (e:=(rI .u32)) (E:=(fun x:Int=>(AV.int .u32 x))) (fun _=>J) (by decide) 0)))<|A2 (.ptr (ix ids 2) g2 0 6) J J (At (C4 (i:=6) E5 Bq J (by decide)))<|A2 (.int .u32 (A0 o3 6 0)) J J (Bg (A7 hI J J J Bq (Ff (e:=(rI .u32)) (E:=(fun x:Int=>(AV.int .u32 x))) (fun _=>J) (by decide) 0))) ?_
   refine A2 (.ptr (ix ids 2) g2 0 4) J J (At (C4 (i:=4) E5 Bq J (by decide)))<|A2 (.int .u32 (A0 o3 4 0)) J J (Bg (A7 hI J J J Bq (Ff (e:=(rI .u32)) (E:=(fun x:Int=>(AV.int .u32 x))) (fun _=>J) (by decide) 0)))<|A2 (.ptr (ix ids 2) g2 0 5) J J (At (C4 (i:=5) E5 Bq J (by decide)))<|A2 (.int .u32 (A0 o3 5 0)) J J (Bg (A7 hI J J J Bq (Ff (e:=(rI .u32)) (E:=(fun x:Int=>(AV.int .u32 x))) (fun _=>J) (by decide) 0)))<|A2 (.ptr (ix ids 2) g2 0 6) J J (At (C4 (i:=6) E5 Bq J (by decide)))<|A2 (.int .u32 (A0 o3 6 0)) J J (Bg (A7 hI J J J Bq (Ff (e:=(rI .u32)) (E:=(fun x:Int=>(AV.int .u32 x))) (fun _=>J) (by decide) 0)))<|A2 (.int .u32 (Cx .u32 (A0 o3 5 0) (A0 o3 6 0))) J J (Bj J J Kv)<|A2 (.int .u32 (Ef .u32 (A0 o3 4 0) (Cx .u32 (A0 o3 5 0) (A0 o3 6 0)))) J J (Bj J J Sk)<|A2 (.int .u32 (Cx .u32 (A0 o3 6 0) (Ef .u32 (A0 o3 4 0) (Cx .u32 (A0 o3 5 0) (A0 o3 6 0))))) J J (Bj J J Kv)<|Av [] [(90,.I j1)]<|A2 (.cp ((rV (rI .u32)) Qd) j1) J J (At (Aiv J L9 Bq J (B6 ha1).1))<|A2 (.int .u32 (A0 Qd j1 0)) J J (Bg (Vz Bq (Ff (e:=(rI .u32)) (E:=(fun x:Int=>(AV.int .u32 x))) (fun _=>J) (B6 ha1).1 0)))<|Av [] [(94,.I j1)]<|A2 (.ptr (ix ids 1) g1 0 j1) J J (At (C4 L9 Bq J (B6 ha1).1))<|A2 (.int .u32 (A0 o2 j1 0)) J J (Bg (A7 hI J J J Bq (Ff (e:=(rI .u32)) (E:=(fun x:Int=>(AV.int .u32 x))) (fun _=>J) (B6 ha1).1 0)))<|Nu _ J J J J J ((Vv (A0 o3 4 0) 6 11 25) _) (fun v _ _ _=>E0 (K:=1) (N:=2) func133 hI) (Af J (Bg (A7 hI J J J Bq (Ff (e:=(rI .u32)) (E:=(fun x:Int=>(AV.int .u32 x))) (fun _=>J) (B6 ha1).1 0))) (Af J (At (C4 L9 Bq J (B6 ha1).1)) (Af J Bb (Af J (Bg (Vz Bq (Ff (e:=(rI .u32)) (E:=(fun x:Int=>(AV.int .u32 x))) (fun _=>J) (B6 ha1).1 0))) (Af J (At (Aiv J L9 Bq J (B6 ha1).1)) (Af J Bb (Af J (Bj J J Kv) (Af J (Bj J J Sk) (Af J (Bj J J Kv) (Af J (Bg (A7 hI J J J Bq (Ff (e:=(rI .u32)) (E:=(fun x:Int=>(AV.int .u32 x))) (fun _=>J) (by decide) 0))) (Af J (At (C4 (i:=6) E5 Bq J (by decide))) (Af J (Bg (A7 hI J J J Bq (Ff (e:=(rI .u32)) (E:=(fun x:Int=>(AV.int .u32 x))) (fun _=>J) (by decide) 0))) (Af J (At (C4 (i:=5) E5 Bq J (by decide))) (Af J (Bg (A7 hI J J J Bq (Ff (e:=(rI .u32)) (E:=(fun x:Int=>(AV.int .u32 x))) (fun _=>J) (by decide) 0))) (Af J (At (C4 (i:=4) E5 Bq J (by decide))) (Af J (Bg (A7 hI J J J Bq (Ff (e:=(rI .u32)) (E:=(fun x:Int=>(AV.int .u32 x))) (fun _=>J) (by decide) 0))) (Af J (At (C4 (i:=6) E5 Bq J (by decide))) (Ho J (Af J (Bg (A7 hI J J J Bq (Ff (e:=(rI .u32)) (E:=(fun x:Int=>(AV.int .u32 x))) (fun _=>J) (by decide) 0))) (Af J (At (C4 (i:=7) E5 Bq J (by decide))) Dd)))))))))))))))))))) fun r5 _=>Av [] [(77,.int .u32 (wU ((A0 o3 7 0)+r5))),(89,.int .u32 (wU ((wU ((A0 o3 7 0)+r5))+(Cx .u32 (A0 o3 6 0) (Ef .u32 (A0 o3 4 0) (Cx .u32 (A0 o3 5 0) (A0 o3 6 0))))))),(93,.int .u32 (wU ((wU ((wU ((A0 o3 7 0)+r5))+(Cx .u32 (A0 o3 6 0) (Ef .u32 (A0 o3 4 0) (Cx .u32 (A0 o3 5 0) (A0 o3 6 0))))))+(A0 Qd j1 0)))),(97,.int .u32 (wU ((wU ((wU ((wU ((A0 o3 7 0)+r5))+(Cx .u32 (A0 o3 6 0) (Ef .u32 (A0 o3 4 0) (Cx .u32 (A0 o3 5 0) (A0 o3 6 0))))))+(A0 Qd j1 0)))+(A0 o2 j1 0)))),(11,.int .u32 (wU ((wU ((wU ((wU ((A0 o3 7 0)+r5))+(Cx .u32 (A0 o3 6 0) (Ef .u32 (A0 o3 4 0) (Cx .u32 (A0 o3 5 0) (A0 o3 6 0))))))+(A0 Qd j1 0)))+(A0 o2 j1 0))))]<|Be<|Ac<|By [0,1,3,0,8,0,32,120,0,256,0,1024,0,4096,15360,32512,65528,131071,262143] [pR 0,pR 1,pR 3,pR 4,pR 5,pR 6,pR 7,pR 8,pR 9,pR 10,pR 11,pR 12,pR 13,pR 14,pR 15,pR 16,pE 2,pR 17,pR 18] Dr<|A2 (.q ids 2 g2) J J (At (C4 (i:=0) E5 Bq J (by decide))) ?_
   refine A2 (.int .u32 (A0 o3 0 0)) J J (Bg (A7 hI J J J Bq (Ff (e:=(rI .u32)) (E:=(fun x:Int=>(AV.int .u32 x))) (fun _=>J) (by decide) 0)))<|A2 (.q ids 2 g2) J J (At (C4 (i:=0) E5 Bq J (by decide)))<|A2 (.int .u32 (A0 o3 0 0)) J J (Bg (A7 hI J J J Bq (Ff (e:=(rI .u32)) (E:=(fun x:Int=>(AV.int .u32 x))) (fun _=>J) (by decide) 0)))<|A2 (.ptr (ix ids 2) g2 0 1) J J (At (C4 (i:=1) E5 Bq J (by decide)))<|A2 (.int .u32 (A0 o3 1 0)) J J (Bg (A7 hI J J J Bq (Ff (e:=(rI .u32)) (E:=(fun x:Int=>(AV.int .u32 x))) (fun _=>J) (by decide) 0)))<|A2 (.int .u32 (Ef .u32 (A0 o3 0 0) (A0 o3 1 0))) J J (Bj J J Sk)<|A2 (.ptr (ix ids 2) g2 0 2) J J (At (C4 (i:=2) E5 Bq J (by decide)))<|A2 (.int .u32 (A0 o3 2 0)) J J (Bg (A7 hI J J J Bq (Ff (e:=(rI .u32)) (E:=(fun x:Int=>(AV.int .u32 x))) (fun _=>J) (by decide) 0)))<|A2 (.q ids 2 g2) J J (At (C4 (i:=0) E5 Bq J (by decide)))<|A2 (.int .u32 (A0 o3 0 0)) J J (Bg (A7 hI J J J Bq (Ff (e:=(rI .u32)) (E:=(fun x:Int=>(AV.int .u32 x))) (fun _=>J) (by decide) 0)))<|A2 (.ptr (ix ids 2) g2 0 1) J J (At (C4 (i:=1) E5 Bq J (by decide)))<|A2 (.int .u32 (A0 o3 1 0)) J J (Bg (A7 hI J J J Bq (Ff (e:=(rI .u32)) (E:=(fun x:Int=>(AV.int .u32 x))) (fun _=>J) (by decide) 0)))<|A2 (.int .u32 (Mc .u32 (A0 o3 0 0) (A0 o3 1 0))) J J (Bj J J W8)<|A2 (.int .u32 (Ef .u32 (A0 o3 2 0) (Mc .u32 (A0 o3 0 0) (A0 o3 1 0)))) J J (Bj J J Sk)<|A2 (.int .u32 (Mc .u32 (Ef .u32 (A0 o3 0 0) (A0 o3 1 0)) (Ef .u32 (A0 o3 2 0) (Mc .u32 (A0 o3 0 0) (A0 o3 1 0))))) J J (Bj J J W8)<|Nu _ J J J J J ((Vv (A0 o3 0 0) 2 13 22) _) (fun v _ _ _=>E0 (K:=1) (N:=2) func133 hI) (Af J (Bj J J W8) (Af J (Bj J J Sk) (Af J (Bj J J W8) (Af J (Bg (A7 hI J J J Bq (Ff (e:=(rI .u32)) (E:=(fun x:Int=>(AV.int .u32 x))) (fun _=>J) (by decide) 0))) (Af J (At (C4 (i:=1) E5 Bq J (by decide))) (Af J (Bg (A7 hI J J J Bq (Ff (e:=(rI .u32)) (E:=(fun x:Int=>(AV.int .u32 x))) (fun _=>J) (by decide) 0))) (Af J (At (C4 (i:=0) E5 Bq J (by decide))) (Af J (Bg (A7 hI J J J Bq (Ff (e:=(rI .u32)) (E:=(fun x:Int=>(AV.int .u32 x))) (fun _=>J) (by decide) 0))) (Af J (At (C4 (i:=2) E5 Bq J (by decide))) (Af J (Bj J J Sk) (Af J (Bg (A7 hI J J J Bq (Ff (e:=(rI .u32)) (E:=(fun x:Int=>(AV.int .u32 x))) (fun _=>J) (by decide) 0))) (Af J (At (C4 (i:=1) E5 Bq J (by decide))) (Af J (Bg (A7 hI J J J Bq (Ff (e:=(rI .u32)) (E:=(fun x:Int=>(AV.int .u32 x))) (fun _=>J) (by decide) 0))) (Af J (At (C4 (i:=0) E5 Bq J (by decide))) (Ho J Dd))))))))))))))) fun r6 _=>Av [] [(115,.int .u32 (wU (r6+(Mc .u32 (Ef .u32 (A0 o3 0 0) (A0 o3 1 0)) (Ef .u32 (A0 o3 2 0) (Mc .u32 (A0 o3 0 0) (A0 o3 1 0))))))),(12,.int .u32 (wU (r6+(Mc .u32 (Ef .u32 (A0 o3 0 0) (A0 o3 1 0)) (Ef .u32 (A0 o3 2 0) (Mc .u32 (A0 o3 0 0) (A0 o3 1 0)))))))]<|Be<|Ac<|By [0,0,3] [pR 0,pR 1,pE 2] Dr<|A2 (.refc (ix ids 2) g2 0 1 7 7) J J (Bz (Agi (a:=1) (b:=8) hI J J E5 Bq J J J)) ?_
   refine A2 (.refc (ix ids 2) g2 0 0 7 8) J J (Bz (Agi (a:=0) (b:=7) hI J J E5 Bq J J J)) ?_
   refine Df fun hl=>Gh J J (fun _ _=>J) (fun K hK=>Ahf (e:=(rI .u32)) (E1:=(fun x:Int=>(AV.int .u32 x))) (v:=o3) (L:=((o3.toList.drop 0).take 7)) (fun _=>J) hI J J J J (Aok (E1:=(fun x:Int=>(AV.int .u32 x))) (v:=o3) (fun _=>J) J (hI.at J J) J) Av3 Bq J J hl (hK _ _ Dq ?_))
   clear hK K
   refine Be<|Ar ?_
   refine Y<|Aw (.ptr (ix ids 2) g2 0 4) J (At (C4 (i:=4) E5 Bq J (by decide)))<|Aw (.int .u32 (A0 (Rn o3 1 ((o3.toList.drop 0).take 7)) 4 0)) J (Bg (A7 hI J J J Bq (Ff (e:=(rI .u32)) (E:=(fun x:Int=>(AV.int .u32 x))) (fun _=>J) (by decide) 0)))<|Aa 2 [] [(122,.int .u32 (wU ((A0 (Rn o3 1 ((o3.toList.drop 0).take 7)) 4 0)+(wU ((wU ((wU ((wU ((A0 o3 7 0)+r5))+(Cx .u32 (A0 o3 6 0) (Ef .u32 (A0 o3 4 0) (Cx .u32 (A0 o3 5 0) (A0 o3 6 0))))))+(A0 Qd j1 0)))+(A0 o2 j1 0))))))]<|Aw (.ptr (ix ids 2) g2 0 4) J (At (C4 (i:=4) E5 Bq J (by decide)))<|B8 (Uz (e:=(rI .u32)) (E:=(fun x:Int=>(AV.int .u32 x))) (x:=(wU ((A0 (Rn o3 1 ((o3.toList.drop 0).take 7)) 4 0)+(wU ((wU ((wU ((wU ((A0 o3 7 0)+r5))+(Cx .u32 (A0 o3 6 0) (Ef .u32 (A0 o3 4 0) (Cx .u32 (A0 o3 5 0) (A0 o3 6 0))))))+(A0 Qd j1 0)))+(A0 o2 j1 0)))))) (fun _=>J) hI J J J Bq J J (by decide) J J J)<|O<|Ar ?_
   refine Ah<|Aa 3 [] [(126,.int .u32 (wU ((wU ((wU ((wU ((wU ((A0 o3 7 0)+r5))+(Cx .u32 (A0 o3 6 0) (Ef .u32 (A0 o3 4 0) (Cx .u32 (A0 o3 5 0) (A0 o3 6 0))))))+(A0 Qd j1 0)))+(A0 o2 j1 0)))+(wU (r6+(Mc .u32 (Ef .u32 (A0 o3 0 0) (A0 o3 1 0)) (Ef .u32 (A0 o3 2 0) (Mc .u32 (A0 o3 0 0) (A0 o3 1 0)))))))))]<|Aw (.q ids 2 g2) J (At (C4 (i:=0) E5 Bq J (by decide)))<|B8 (Uz (e:=(rI .u32)) (E:=(fun x:Int=>(AV.int .u32 x))) (x:=(wU ((wU ((wU ((wU ((wU ((A0 o3 7 0)+r5))+(Cx .u32 (A0 o3 6 0) (Ef .u32 (A0 o3 4 0) (Cx .u32 (A0 o3 5 0) (A0 o3 6 0))))))+(A0 Qd j1 0)))+(A0 o2 j1 0)))+(wU (r6+(Mc .u32 (Ef .u32 (A0 o3 0 0) (A0 o3 1 0)) (Ef .u32 (A0 o3 2 0) (Mc .u32 (A0 o3 0 0) (A0 o3 1 0))))))))) (fun _=>J) hI J J J Bq J J (by decide) J J J)<|O<|Ar ?_
   refine Ay<|Ah<|Aa 2 [] [(69,.I (wi ((j1:Int)+1)))]<|O<|A3 (Gb (hW2 (Nh (Nh (Rn o3 1 ((o3.toList.drop 0).take 7)) 4 (wU ((A0 (Rn o3 1 ((o3.toList.drop 0).take 7)) 4 0)+(wU ((wU ((wU ((wU ((A0 o3 7 0)+r5))+(Cx .u32 (A0 o3 6 0) (Ef .u32 (A0 o3 4 0) (Cx .u32 (A0 o3 5 0) (A0 o3 6 0))))))+(A0 Qd j1 0)))+(A0 o2 j1 0)))))) 0 (wU ((wU ((wU ((wU ((wU ((A0 o3 7 0)+r5))+(Cx .u32 (A0 o3 6 0) (Ef .u32 (A0 o3 4 0) (Cx .u32 (A0 o3 5 0) (A0 o3 6 0))))))+(A0 Qd j1 0)))+(A0 o2 j1 0)))+(wU (r6+(Mc .u32 (Ef .u32 (A0 o3 0 0) (A0 o3 1 0)) (Ef .u32 (A0 o3 2 0) (Mc .u32 (A0 o3 0 0) (A0 o3 1 0))))))))) _ _ ⟨J,J⟩)) (.r2 (.r (.cons (Gf (B6 ha1).1 (by decide)) .nil)))
  rintro o3 fr h ⟨rfl,rfl⟩
  refine Y<|Ax (.B (decide (((List.range 64).length:Int)<64)))<|O<|Ac<|Bw J (by simp)<|Bd J<|Y<|Ap (.I 0)<|O<|An<|Cb 2<|B4 [0,9,129] ?_
  refine C6 (P:=Tryz.prog) (List.range 8) (fun j2 _=>fun o4=>Ic o3 j2 o4) (((fun o4=>.ok o4)):(Vector Int 8)→R (Vector Int 8)) (fun j2=>fun o4=>fun fr h=>fr=Ae [(0,.q ids 0 g),(9,.q ids 2 g2),(129,.I j2)]∧h=hp h0 ids [Ao g 8 [(rV (rI .u32)) o4],none,Ao g2 8 [(rV (rI .u32)) o3]]) s ?_ ?_ ?_
  ·exact⟨J,J⟩
  ·rintro j2 a2 ha2 W hW3 o4 fr h ⟨rfl,rfl⟩
   refine Ag (m':=Ic o3 j2 o4) J (Ag (Ic.eq_1 _ _ _) ?_)
   refine Y<|Ax (.B (decide ((j2:Int)<8)))<|O<|Ac<|Bv J (by have:=(B6 ha2).1; omega)<|Ai<|Ac<|An<|Y<|Aa 2 [] [(13,.I j2)]<|O<|By [0,0,1,7,15,0,32,96,255,1,1023,2047] [pR 0,pR 1,pR 2,pR 3,pR 4,pR 5,pR 6,pR 7,pR 8,pR 9,pR 10,pE 11] Dr<|Av [] [(132,.q ids 0 g),(133,.I j2),(134,.q ids 0 g)]<|A2 (.ptr (ix ids 0) g 0 j2) J J (At (C4 E5 Bq J (B6 ha2).1))<|A2 (.int .u32 (A0 o4 j2 0)) J J (Bg (A7 hI J J J Bq (Ff (e:=(rI .u32)) (E:=(fun x:Int=>(AV.int .u32 x))) (fun _=>J) (B6 ha2).1 0)))<|Av [] [(137,.I j2)]<|A2 (.ptr (ix ids 2) g2 0 j2) J J (At (C4 E5 Bq J (B6 ha2).1))<|A2 (.int .u32 (A0 o3 j2 0)) J J (Bg (A7 hI J J J Bq (Ff (e:=(rI .u32)) (E:=(fun x:Int=>(AV.int .u32 x))) (fun _=>J) (B6 ha2).1 0)))<|Av [] [(140,.int .u32 (wU ((A0 o4 j2 0)+(A0 o3 j2 0)))),(141,.q ids 0 g)] ?_
   refine A2 (.ptr (ix ids 0) g 0 j2) J J (At (C4 E5 Bq J (B6 ha2).1))<|Nw J (fun _ _=>J) (fun K hK=>Hc (Uz (e:=(rI .u32)) (E:=(fun x:Int=>(AV.int .u32 x))) (x:=(wU ((A0 o4 j2 0)+(A0 o3 j2 0)))) (fun _=>J) hI J J J Bq J J (B6 ha2).1 J J J) (hK _ _ Dq ?_))
   clear hK K
   refine Be<|Ar ?_
   refine Ay<|Ah<|Aa 2 [] [(129,.I (wi ((j2:Int)+1)))]<|O<|A3 (Gb (hW3 (Nh o4 j2 (wU ((A0 o4 j2 0)+(A0 o3 j2 0)))) _ _ ⟨J,J⟩)) (.r2 (.cons (Gf (B6 ha2).1 (by decide)) .nil))
  rintro o4 fr h ⟨rfl,rfl⟩
  refine Y<|Ax (.B (decide (((List.range 8).length:Int)<8)))<|O<|Ac<|Bw J (by simp)<|Bd J<|Aco (K:=1) (N:=2) (a:=o4) (vs:=[]) [Ao g 8 [(rV (rI .u32)) o4]] func133 hI J J J (.keep (.keep (.drop .nil))) (.same _) ⟨J,J⟩
 refine An<|B4 [0,4,6] ?_
 refine Ga (P:=Tryz.prog) (C8 fun x1 o1=>Fg x1 o1) ((fun o2=>Gn s o2):(Vector Int 64)→R (Vector Int 8)) (C8 fun x1 o1=>fun fr h=>fr=Ae [(0,.q ids 0 g),(4,.q ids 1 g1),(6,.I x1)]∧h=hp h0 ids [Ao g 8 [(rV (rI .u32)) s],Ao g1 64 [(rV (rI .u32)) o1],none]) (16,o) ?_ ?_
 ·exact⟨J,J⟩
 rintro vW1 hW1 ⟨x1,o1⟩ fr h ⟨rfl,rfl⟩
 refine Ag (m':=Fg x1 o1) J (Ag (Fg.eq_1 _ _) ?_)
 refine Ac<|Y<|Aa 2 [] [(26,.B (decide (x1<64)))]<|O<|Cs J (fun hc=>?_) (fun hc=>?_)
 ·refine Ai<|Ac<|An<|Ac<|By [0,1,3,7,0,16,48,112,15,511] [pR 0,pR 1,pR 2,pR 3,pR 4,pR 5,pR 6,pR 7,pR 8,pR 9] Dr<|Av [] [(29,.I x1),(30,.I (wi (x1 - 15)))]<|Df fun hi=>A2 (.ptr (ix ids 1) g1 0 (Int.toNat (wi (x1 - 15)))) J J (At (Hy L9 Bq J hi))<|A2 (.int .u32 (A0 o1 (Int.toNat (wi (x1 - 15))) 0)) J J (Bg (A7 hI J J J Bq (Ff (e:=(rI .u32)) (E:=(fun x:Int=>(AV.int .u32 x))) (fun _=>J) (Iu hi) 0)))<|Av [] [(33,.I x1),(34,.I (wi (x1 - 2)))]<|Df fun hi1=>A2 (.ptr (ix ids 1) g1 0 (Int.toNat (wi (x1 - 2)))) J J (At (Hy L9 Bq J hi1))<|A2 (.int .u32 (A0 o1 (Int.toNat (wi (x1 - 2))) 0)) J J (Bg (A7 hI J J J Bq (Ff (e:=(rI .u32)) (E:=(fun x:Int=>(AV.int .u32 x))) (fun _=>J) (Iu hi1) 0)))<|Av [] [(7,.int .u32 (A0 o1 (Int.toNat (wi (x1 - 15))) 0)),(8,.int .u32 (A0 o1 (Int.toNat (wi (x1 - 2))) 0))]<|Be<|By [0,0,2,6,14,0,32,0,224,480,0,1024,4064,8190,0,16384,49152,114688,262142,0,524768,0,3670496,7864800,0,16777216,66585056,134217726,268435455,536870911] [pR 0,pR 1,pR 2,pR 3,pR 4,pR 5,pR 7,pR 10,pR 11,pR 14,pR 15,pR 16,pR 17,pR 19,pR 21,pR 24,pR 25,pE 6,pE 8,pR 9,pR 12,pR 13,pR 18,pE 20,pE 22,pR 23,pR 26,pR 27,pR 28,pE 29] Dr<|Av [] [(37,.I x1),(38,.I x1),(39,.I (wi (x1 - 16)))]<|Df fun hi2=>A2 (.ptr (ix ids 1) g1 0 (Int.toNat (wi (x1 - 16)))) J J (At (Hy L9 Bq J hi2))<|A2 (.int .u32 (A0 o1 (Int.toNat (wi (x1 - 16))) 0)) J J (Bg (A7 hI J J J Bq (Ff (e:=(rI .u32)) (E:=(fun x:Int=>(AV.int .u32 x))) (fun _=>J) (Iu hi2) 0)))<|Av [] [(42,.int .u32 (A0 o1 (Int.toNat (wi (x1 - 15))) 0)),(44,.int .u32 (A0 o1 (Int.toNat (wi (x1 - 15))) 0)),(47,.int .u32 (A0 o1 (Int.toNat (wi (x1 - 15))) 0))] ?_
  refine A2 (.int .u32 (Int.fdiv (A0 o1 (Int.toNat (wi (x1 - 15))) 0) 8)) J J (Bj J J (J6 (by decide) (by decide)))<|Av [] [(51,.I x1),(52,.I (wi (x1 - 7)))]<|Df fun hi3=>A2 (.ptr (ix ids 1) g1 0 (Int.toNat (wi (x1 - 7)))) J J (At (Hy L9 Bq J hi3))<|A2 (.int .u32 (A0 o1 (Int.toNat (wi (x1 - 7))) 0)) J J (Bg (A7 hI J J J Bq (Ff (e:=(rI .u32)) (E:=(fun x:Int=>(AV.int .u32 x))) (fun _=>J) (Iu hi3) 0)))<|Av [] [(56,.int .u32 (A0 o1 (Int.toNat (wi (x1 - 2))) 0)),(58,.int .u32 (A0 o1 (Int.toNat (wi (x1 - 2))) 0)),(61,.int .u32 (A0 o1 (Int.toNat (wi (x1 - 2))) 0))]<|A2 (.int .u32 (Int.fdiv (A0 o1 (Int.toNat (wi (x1 - 2))) 0) 1024)) J J (Bj J J (J6 (by decide) (by decide)))<|Nu _ J J J J J ((En (A0 o1 (Int.toNat (wi (x1 - 15))) 0) (-7)) _) (fun v _ _ _=>E0 (K:=1) (N:=2) func133 hI) (Af J (Bj J J (J6 (by decide) (by decide))) (Af J Bb (Af J Bb (Af J Bb (Af J (Bg (A7 hI J J J Bq (Ff (e:=(rI .u32)) (E:=(fun x:Int=>(AV.int .u32 x))) (fun _=>J) (Iu hi3) 0))) (Af J (At (Hy L9 Bq J hi3)) (Af J (Bj J J J) (Af J Bb (Af J (Bj J J (J6 (by decide) (by decide))) (Af J Bb (Af J Bb (Gs J (Af J (Bg (A7 hI J J J Bq (Ff (e:=(rI .u32)) (E:=(fun x:Int=>(AV.int .u32 x))) (fun _=>J) (Iu hi2) 0))) (Af J (At (Hy L9 Bq J hi2)) (Af J (Bj J J J) (Af J Bb (Af J Bb Dd))))))))))))))))) fun r1 _=>Nu _ J J J J J ((En (A0 o1 (Int.toNat (wi (x1 - 15))) 0) (-18)) _) (fun v _ _ _=>E0 (K:=1) (N:=2) func133 hI) (Af J (Bj J J (J6 (by decide) (by decide))) (Af J Bb (Af J Bb (Af J Bb (Af J (Bg (A7 hI J J J Bq (Ff (e:=(rI .u32)) (E:=(fun x:Int=>(AV.int .u32 x))) (fun _=>J) (Iu hi3) 0))) (Af J (At (Hy L9 Bq J hi3)) (Af J (Bj J J J) (Af J Bb (Af J (Bj J J (J6 (by decide) (by decide))) (Af J Bb (Ho J (Af J (Bg (A7 hI J J J Bq (Ff (e:=(rI .u32)) (E:=(fun x:Int=>(AV.int .u32 x))) (fun _=>J) (Iu hi2) 0))) (Af J (At (Hy L9 Bq J hi2)) (Af J (Bj J J J) (Af J Bb (Af J Bb Dd)))))))))))))))) fun r2 _=>A2 (.int .u32 (Cx .u32 r1 r2)) J J (Bj J J Kv)<|A2 (.int .u32 (Cx .u32 (Cx .u32 r1 r2) (Int.fdiv (A0 o1 (Int.toNat (wi (x1 - 15))) 0) 8))) J J (Bj J J Kv)<|Av [] [(50,.int .u32 (wU ((A0 o1 (Int.toNat (wi (x1 - 16))) 0)+(Cx .u32 (Cx .u32 r1 r2) (Int.fdiv (A0 o1 (Int.toNat (wi (x1 - 15))) 0) 8))))),(55,.int .u32 (wU ((wU ((A0 o1 (Int.toNat (wi (x1 - 16))) 0)+(Cx .u32 (Cx .u32 r1 r2) (Int.fdiv (A0 o1 (Int.toNat (wi (x1 - 15))) 0) 8))))+(A0 o1 (Int.toNat (wi (x1 - 7))) 0))))]<|Nu _ J J J J J ((En (A0 o1 (Int.toNat (wi (x1 - 2))) 0) (-17)) _) (fun v _ _ _=>E0 (K:=1) (N:=2) func133 hI) (Af J (Bj J J J) (Af J (Bj J J J) (Af J (Bj J J Kv) (Af J (Bj J J Kv) (Af J (Bj J J (J6 (by decide) (by decide))) (Af J Bb (Af J Bb (Gs J (Af J (Bg (A7 hI J J J Bq (Ff (e:=(rI .u32)) (E:=(fun x:Int=>(AV.int .u32 x))) (fun _=>J) (Iu hi3) 0))) (Af J (At (Hy L9 Bq J hi3)) (Af J (Bj J J J) (Af J Bb (Af J (Bj J J (J6 (by decide) (by decide))) (Af J Bb (Ho J (Af J (Bg (A7 hI J J J Bq (Ff (e:=(rI .u32)) (E:=(fun x:Int=>(AV.int .u32 x))) (fun _=>J) (Iu hi2) 0))) (Af J (At (Hy L9 Bq J hi2)) (Af J (Bj J J J) (Af J Bb (Af J Bb Dd)))))))))))))))))))) fun r3 _=>Nu _ J J J J J ((En (A0 o1 (Int.toNat (wi (x1 - 2))) 0) (-19)) _) (fun v _ _ _=>E0 (K:=1) (N:=2) func133 hI) (Af J (Bj J J J) (Af J (Bj J J J) (Af J (Bj J J Kv) (Af J (Bj J J Kv) (Af J (Bj J J (J6 (by decide) (by decide))) (Af J Bb (Ho J (Af J (Bg (A7 hI J J J Bq (Ff (e:=(rI .u32)) (E:=(fun x:Int=>(AV.int .u32 x))) (fun _=>J) (Iu hi3) 0))) (Af J (At (Hy L9 Bq J hi3)) (Af J (Bj J J J) (Af J Bb (Af J (Bj J J (J6 (by decide) (by decide))) (Af J Bb (Ho J (Af J (Bg (A7 hI J J J Bq (Ff (e:=(rI .u32)) (E:=(fun x:Int=>(AV.int .u32 x))) (fun _=>J) (Iu hi2) 0))) (Af J (At (Hy L9 Bq J hi2)) (Af J (Bj J J J) (Af J Bb (Af J Bb Dd))))))))))))))))))) fun r4 _=>A2 (.int .u32 (Cx .u32 r3 r4)) J J (Bj J J Kv)<|A2 (.int .u32 (Cx .u32 (Cx .u32 r3 r4) (Int.fdiv (A0 o1 (Int.toNat (wi (x1 - 2))) 0) 1024))) J J (Bj J J Kv)<|Av [] [(64,.int .u32 (wU ((wU ((wU ((A0 o1 (Int.toNat (wi (x1 - 16))) 0)+(Cx .u32 (Cx .u32 r1 r2) (Int.fdiv (A0 o1 (Int.toNat (wi (x1 - 15))) 0) 8))))+(A0 o1 (Int.toNat (wi (x1 - 7))) 0)))+(Cx .u32 (Cx .u32 r3 r4) (Int.fdiv (A0 o1 (Int.toNat (wi (x1 - 2))) 0) 1024)))))]<|Df fun hi4=>A2 (.ptr (ix ids 1) g1 0 (Int.toNat x1)) J J (At (Hy L9 Bq J hi4))<|Nw J (fun _ _=>J) (fun K hK=>Hc (Uz (e:=(rI .u32)) (E:=(fun x:Int=>(AV.int .u32 x))) (x:=(wU ((wU ((wU ((A0 o1 (Int.toNat (wi (x1 - 16))) 0)+(Cx .u32 (Cx .u32 r1 r2) (Int.fdiv (A0 o1 (Int.toNat (wi (x1 - 15))) 0) 8))))+(A0 o1 (Int.toNat (wi (x1 - 7))) 0)))+(Cx .u32 (Cx .u32 r3 r4) (Int.fdiv (A0 o1 (Int.toNat (wi (x1 - 2))) 0) 1024))))) (fun _=>J) hI J J J Bq J J (Iu hi4) J J J) (hK _ _ Dq ?_))
  clear hK K
  refine Be<|Ar ?_
  refine Ay<|Ah<|Aa 3 [] [(6,.I (wi (x1+1)))]<|O<|A3 (E7 (hW1 ((wi (x1+1)),Nh o1 (Int.toNat x1) (wU ((wU ((wU ((A0 o1 (Int.toNat (wi (x1 - 16))) 0)+(Cx .u32 (Cx .u32 r1 r2) (Int.fdiv (A0 o1 (Int.toNat (wi (x1 - 15))) 0) 8))))+(A0 o1 (Int.toNat (wi (x1 - 7))) 0)))+(Cx .u32 (Cx .u32 r3 r4) (Int.fdiv (A0 o1 (Int.toNat (wi (x1 - 2))) 0) 1024))))) _ _ ⟨J,J⟩))
 refine Bd J<|Eb<|A3 (hJ o1 _ _ ⟨J,J⟩)
theorem Aam (c:Nat)(cp:Nat)(n:Int)(s:(Vector Int 128))(h0:Ab)(o0:Nat)(g:Nat)(vHc:c+8≤128)(hI0:Ids h0 [o0] 1):Pq c cp n s≠.bad→Bi Tryz.prog 134 [(.refc o0 g 0 c 8 cp),(.int .u64 n)] (hp h0 [o0] [Ao g 128 [(rU s)]]) (Ec (fun a_ v h'=>v=(.tup [])∧h'=hp h0 [o0] [Ao g 128 [(rU a_)]]) h0 (Pq c cp n s)):=by
 refine Ee (n:=23) 0 func134 J (by decide) J J hI0 J fun ids he hI=>?_
 clear hI0
 obtain rfl:ix ids 0=o0:=he 0 rfl
 clear he
 refine Em (Ag (Pq.eq_1 _ _ _ _) ?_)
 refine Y<|Ap (.refc (ix ids 0) g 0 c 8 cp)<|Aw (.I 8) J (Cc (Ul De))<|Ap (.I 0)<|O<|An<|B4 [0,1,6,7] ?_
 refine C6 (P:=Tryz.prog) (List.range 8) (fun j _=>fun o=>Py c n j o) (((fun o=>.ok o)):(Vector Int 128)→R (Vector Int 128)) (fun j=>fun o=>fun fr h=>fr=Ae [(0,.refc (ix ids 0) g 0 c 8 cp),(1,.int .u64 n),(6,.I 8),(7,.I j)]∧h=hp h0 ids [Ao g 128 [rU o]]) s ?_ ?_ ?_
 ·exact⟨J,J⟩
 ·rintro j a ha W hW o fr h ⟨rfl,rfl⟩
  refine Ag (m':=Py c n j o) J (Ag (Py.eq_1 _ _ _ _) ?_)
  refine Y<|Ax (.B (decide ((j:Int)<8)))<|O<|Ac<|Bv J (by have:=(B6 ha).1; omega)<|Ai<|Ac<|An<|Y<|Aa 2 [] [(4,.I j)]<|O<|Ah<|Aa 2 [] [(11,.refc (ix ids 0) g 0 c 8 cp),(10,.refc (ix ids 0) g 0 c 8 cp)]<|Aw (.I 8) J (Cc (Ul De))<|Aa 6 [] [(18,.I (wi (8 * (j:Int)))),(16,.int .u64 n),(15,.I (wi (7 - (j:Int))))]<|B2 fun hz=>Aw (.int .u64 (Ow .u64 n (wi (8 * (j:Int))))) J (Bj J J (Aac hz))<|Ax (.int .u8 (IntKind.wrap .u8 (Ow .u64 n (wi (8 * (j:Int))))))<|B2 fun hi=>?_
  refine Aw (.ptr (ix ids 0) g 0 (c+Int.toNat (wi (7 - (j:Int))))) J (At (Aja De Fe J hi))<|B8 (Uz (e:=(rI .u8)) (E:=(fun x:Int=>(AV.int .u8 x))) (x:=(IntKind.wrap .u8 (Ow .u64 n (wi (8 * (j:Int)))))) (fun _=>J) hI J J J Fe J J (Ast hi vHc) J J J)<|O<|Ar ?_
  refine Ay<|Ah<|Aa 2 [] [(7,.I (wi ((j:Int)+1)))]<|O<|A3 (Gb (hW (Nh o (c+Int.toNat (wi (7 - (j:Int)))) (IntKind.wrap .u8 (Ow .u64 n (wi (8 * (j:Int)))))) _ _ ⟨J,J⟩)) (.r2 (.r (.cons (Gf (B6 ha).1 (by decide)) .nil)))
 rintro o fr h ⟨rfl,rfl⟩
 refine Y<|Ax (.B (decide (((List.range 8).length:Int)<8)))<|O<|Ac<|Bw J (by simp)<|Bd J<|Aco (K:=1) (N:=0) (a:=o) (vs:=[]) [Ao g 128 [rU o]] func134 hI J J J (.keep .nil) (.same _) ⟨J,J⟩
theorem Xw (c:Nat)(cp:Nat)(n:Int)(s:(Vector Int 32))(h0:Ab)(o0:Nat)(g:Nat)(vHc:c+4≤32)(hI0:Ids h0 [o0] 1):M4 c cp n s≠.bad→Bi Tryz.prog 134 [(.refc o0 g 0 c 4 cp),(.int .u64 n)] (hp h0 [o0] [Ao g 32 [(rU s)]]) (Ec (fun a_ v h'=>v=(.tup [])∧h'=hp h0 [o0] [Ao g 32 [(rU a_)]]) h0 (M4 c cp n s)):=by
 refine Ee (n:=23) 0 func134 J (by decide) J J hI0 J fun ids he hI=>?_
 clear hI0
 obtain rfl:ix ids 0=o0:=he 0 rfl
 clear he
 refine Em (Ag (M4.eq_1 _ _ _ _) ?_)
 refine Y<|Ap (.refc (ix ids 0) g 0 c 4 cp)<|Aw (.I 4) J (Cc (Ul De))<|Ap (.I 0)<|O<|An<|B4 [0,1,6,7] ?_
 refine C6 (P:=Tryz.prog) (List.range 4) (fun j _=>fun o=>N4 c n j o) (((fun o=>.ok o)):(Vector Int 32)→R (Vector Int 32)) (fun j=>fun o=>fun fr h=>fr=Ae [(0,.refc (ix ids 0) g 0 c 4 cp),(1,.int .u64 n),(6,.I 4),(7,.I j)]∧h=hp h0 ids [Ao g 32 [rU o]]) s ?_ ?_ ?_
 ·exact⟨J,J⟩
 ·rintro j a ha W hW o fr h ⟨rfl,rfl⟩
  refine Ag (m':=N4 c n j o) J (Ag (N4.eq_1 _ _ _ _) ?_)
  refine Y<|Ax (.B (decide ((j:Int)<4)))<|O<|Ac<|Bv J (by have:=(B6 ha).1; omega)<|Ai<|Ac<|An<|Y<|Aa 2 [] [(4,.I j)]<|O<|Ah<|Aa 2 [] [(11,.refc (ix ids 0) g 0 c 4 cp),(10,.refc (ix ids 0) g 0 c 4 cp)]<|Aw (.I 4) J (Cc (Ul De))<|Aa 6 [] [(18,.I (wi (8 * (j:Int)))),(16,.int .u64 n),(15,.I (wi (3 - (j:Int))))]<|B2 fun hz=>Aw (.int .u64 (Ow .u64 n (wi (8 * (j:Int))))) J (Bj J J (Aac hz))<|Ax (.int .u8 (IntKind.wrap .u8 (Ow .u64 n (wi (8 * (j:Int))))))<|B2 fun hi=>?_
  refine Aw (.ptr (ix ids 0) g 0 (c+Int.toNat (wi (3 - (j:Int))))) J (At (Aja De Fe J hi))<|B8 (Uz (e:=(rI .u8)) (E:=(fun x:Int=>(AV.int .u8 x))) (x:=(IntKind.wrap .u8 (Ow .u64 n (wi (8 * (j:Int)))))) (fun _=>J) hI J J J Fe J J (Ast hi vHc) J J J)<|O<|Ar ?_
  refine Ay<|Ah<|Aa 2 [] [(7,.I (wi ((j:Int)+1)))]<|O<|A3 (Gb (hW (Nh o (c+Int.toNat (wi (3 - (j:Int)))) (IntKind.wrap .u8 (Ow .u64 n (wi (8 * (j:Int)))))) _ _ ⟨J,J⟩)) (.r2 (.r (.cons (Gf (B6 ha).1 (by decide)) .nil)))
 rintro o fr h ⟨rfl,rfl⟩
 refine Y<|Ax (.B (decide (((List.range 4).length:Int)<4)))<|O<|Ac<|Bw J (by simp)<|Bd J<|Aco (K:=1) (N:=0) (a:=o) (vs:=[]) [Ao g 32 [rU o]] func134 hI J J J (.keep .nil) (.same _) ⟨J,J⟩
theorem Aai (b):CP Tryz.prog 112 [.sl 1 (List.map (rI .u8) b)] (Dc b) (fun x=>(AV.agg (rU x))):=by
 refine ci 69 3 func112 (Dc.eq_1 _) fun h0 ids hI hF=>Y<|Et (j:=0) (row:=(rU (B0 32 0))) hI J J J J Bm (Hr (n:=32) (e:=(rI .u8)) (E:=(fun x:Int=>(AV.int .u8 x))) (fun _=>J) _).symm ((Cw (fun x=>Bl x) J) _) fun g=>O<|Ar ?_
 refine Y<|Aw (.A ((rV (rI .u32)) Acs)) J (Bg (Awc (b:=1) (c:=0) J Awa J))<|Et (j:=1) (row:=((rV (rI .u32)) (B0 8 0))) hI J J J J E5 (Hr (n:=8) (e:=(rI .u32)) (E:=(fun x:Int=>(AV.int .u32 x))) (fun _=>J) _).symm ((Cw (fun x=>Bl x) J) _) fun g1=>B8 (Ea (v:=(.A ((rV (rI .u32)) Acs))) hI J J J E5 J J J (((Cw (fun x=>Bl x) J) _).1) J)<|O<|Ar ?_
 refine Y<|Aa 2 [] [(4,.func (.func 133) [.q ids 1 g1] [])]<|O<|Y<|Aa 2 [] [(5,.sl 1 (List.map (rI .u8) b))]<|O<|Ac<|Cu (C8 fun rest1 o1=>Nm b rest1 o1) (C8 fun rest1 o1=>fun fr h=>fr=Ae [(0,.sl 1 (List.map (rI .u8) b)),(2,.q ids 0 g),(3,.q ids 1 g1),(4,.func (.func 133) [.q ids 1 g1] []),(5,.sl 1 (List.map (rI .u8) rest1))]∧h=hp h0 ids [Ao g 32 [rU (B0 32 0)],Ao g1 8 [(rV (rI .u32)) o1],none]) ?_ fun hJ2=>?_
 ·rintro⟨rest1,o1⟩ fr h ⟨rfl,rfl⟩
  refine Ag (Nm.eq_1 _ _ _)<|Y<|Aq9 (q:=128) (nn:=64) (e:=(rI .u8)) (E1:=(fun x:Int=>(AV.int .u8 x))) (y:=(0:Int)) (j:=2) (fun _=>J) hI J J J J De Fe J J J J J J J J fun g2=>Ad (.refc (ix ids 2) g2 0 0 64 128)<|O<|Ar ?_
  refine Y<|Aa 2 [] [(23,.sl 1 (List.map (rI .u8) rest1)),(22,.refc (ix ids 2) g2 0 0 64 128)]<|B2 fun hl=>Arg (e:=(rI .u8)) (E1:=(fun x:Int=>(AV.int .u8 x))) (v:=(B0 128 (0:Int))) (L:=rest1) (fun _=>J) hI J J J J J (C1 J) De Fe J J hl<|O<|Ar ?_
  refine Y<|Aa 2 [] [(26,.sl 1 (List.map (rI .u8) rest1)),(25,.refc (ix ids 2) g2 0 0 64 128)]<|Bo rest1<|B2 fun hi=>Aw (.ptr (ix ids 2) g2 0 (Int.toNat (rest1.length:Int))) J (At (Aog De Fe J hi))<|B8 (Uz (e:=(rI .u8)) (E:=(fun x:Int=>(AV.int .u8 x))) (x:=128) (fun _=>J) hI J J J Fe J J (Nat.lt_of_lt_of_le (Iu hi) (by decide)) J J J)<|O<|Ar ?_
  refine Ac<|Y<|Ap (.sl 1 (List.map (rI .u8) rest1))<|Bo rest1<|Ax (.B (decide ((rest1.length:Int) > 55)))<|O<|Cs J (fun hc1=>?_) (fun hc1=>?_)
  ·refine Ah<|Ap (.refc (ix ids 2) g2 0 0 64 128)<|Aw (.refc (ix ids 2) g2 0 0 128 128) J (Bz (Af2 (a:=0) (b:=128) De Fe J (Agq (by decide)) Af6 (by decide) (.inl J)))<|Ad (.refc (ix ids 2) g2 0 0 128 128)<|O<|Y<|Aa 2 [] [(35,.refc (ix ids 2) g2 0 0 128 128),(34,.refc (ix ids 2) g2 0 0 128 128)]<|Aw (.I 128) J (Cc (Ul De))<|Ax (.I 120)<|Aw (.refc (ix ids 2) g2 0 120 8 8) J (Bz (Af2 (a:=120) (b:=128) De Fe J Af6 (Agq (by decide)) (by decide) (.inr (by decide))))<|Ap (.sl 1 (List.map (rI .u8) b))<|Bo b<|Ax (.int .u64 (IntKind.wrap .u64 (b.length:Int)))<|Ax (.int .u64 (IntKind.wrap .u64 ((IntKind.wrap .u64 (b.length:Int)) * 8)))<|D5 [2] hI J J (Aam 120 8 (IntKind.wrap .u64 ((IntKind.wrap .u64 (b.length:Int)) * 8)) (Nh (Rn (B0 128 (0:Int)) 0 rest1) (Int.toNat (rest1.length:Int)) 128) _ (ix ids 2) g2 (by decide) (by exact hI.sub' J J)) J J J J J J (fun v _=>Dn func112 hI) ?_
   rintro r1 _ _ _ ⟨rfl,rfl⟩
   refine Hh [2] hI J J J ?_
   refine Ev<|O<|Ar ?_
   refine Ac<|Cu (fun o3=>Lw o3) (fun o3=>fun fr h=>fr=Ae [(2,.q ids 0 g),(3,.q ids 1 g1)]∧h=hp h0 ids [Ao g 32 [rU (B0 32 0)],Ao g1 8 [(rV (rI .u32)) o3],none]) ?_ fun hJ=>?_
   ·rintro o3 fr h ⟨rfl,rfl⟩
    refine Ag (Lw.eq_1 _)<|Ac<|Y<|Aa 2 [1] [(54,.I 0),(53,.A ((rV (rI .u32)) o3))]<|O<|An<|Cb 2<|B4 [2,53,54] ?_
    refine C6 (P:=Tryz.prog) (List.range 8) (fun j _=>fun o4=>P0 o3 j o4) (((fun o4=>.ok o4)):(Vector Int 32)→R (Vector Int 32)) (fun j=>fun o4=>fun fr h=>fr=Ae [(2,.q ids 0 g),(53,.A ((rV (rI .u32)) o3)),(54,.I j)]∧h=hp h0 ids [Ao g 32 [rU o4],none,none]) (B0 32 0) ?_ ?_ ?_
    ·exact⟨J,J⟩
    ·rintro j a ha W hW2 o4 fr h ⟨rfl,rfl⟩
     refine Ag (m':=P0 o3 j o4) J (Ag (P0.eq_1 _ _ _) ?_)
     refine Y<|Ax (.B (decide ((j:Int)<8)))<|O<|Ac<|Bv J (by have:=(B6 ha).1; omega)<|Ai<|Ac<|An<|Y<|Ap (.I j)<|Aw (.int .u32 (A0 o3 j 0)) J (Aig (Al7 (e:=(rI .u32)) (E:=(fun x:Int=>(AV.int .u32 x))) (fun _=>J) E5 Bq J J ((B6 ha).1) 0))<|Aa 2 [] [(8,.int .u32 (A0 o3 j 0)),(7,.I j)]<|O<|Ah<|Aa 5 [] [(62,.I (wi ((wi (4 * (j:Int)))+4))),(59,.I (wi (4 * (j:Int))))]<|B2 fun hi1=>Aw (.refc (ix ids 0) g 0 (Int.toNat (wi (4 * (j:Int)))) 4 (32 - (Int.toNat (wi (4 * (j:Int)))))) J (Bz (Ame (k:=4) hI J J Bm Fe J hi1.1 hi1.2)) ?_
     refine Ap (.int .u32 (A0 o3 j 0))<|Ax (.int .u64 (IntKind.wrap .u64 (A0 o3 j 0)))<|D5 [0] hI J J (Xw (Int.toNat (wi (4 * (j:Int)))) (32 - (Int.toNat (wi (4 * (j:Int))))) (IntKind.wrap .u64 (A0 o3 j 0)) o4 _ (ix ids 0) g (Aqi hi1.2) (by exact hI.sub' J J)) J J J J J J (fun v _=>Dn func112 hI) ?_
     rintro r3 _ _ _ ⟨rfl,rfl⟩
     refine Hh [0] hI J J J ?_
     refine Ev<|O<|Ar ?_
     refine Ay<|Ah<|Aa 2 [] [(54,.I (wi ((j:Int)+1)))]<|O<|A3 (Gb (hW2 r3 _ _ ⟨J,J⟩)) (.r2 (.cons (Gf (B6 ha).1 (by decide)) .nil))
    rintro o4 fr h ⟨rfl,rfl⟩
    refine Y<|Ax (.B (decide (((List.range 8).length:Int)<8)))<|O<|Ac<|Bw J (by simp)<|Bd J<|Y<|Aa 1 [0] [(68,.A (rU o4))]<|B8 (Ea (v:=(.A (rU o4))) hI J J J Bm J J J (((Cw (fun x=>Bl x) J) _).1) J)<|O<|Bu func112 hI (Bk (A7 hI J J J Bm J) Bx) (.same _)
   refine An<|S8 [Ao g 32 [rU (B0 32 0)],Ao g1 8 [(rV (rI .u32)) o1],none] [(2,.q ids 0 g),(3,.q ids 1 g1),(4,.func (.func 133) [.q ids 1 g1] []),(6,.sl 1 (List.map (rI .u8) (r1.toList.take 128)))] hI J (.keep (.keep (.drop .nil))) (.s (.s (.s (.cons (Amd (E:=(fun x:Int=>(AV.int .u8 x))) (fun _=>J) (fun _=>J) (hI.at J J) (hI.at J J) (by decide)) .nil))))<|B4 [2,3,4,6] ?_
   refine Ga (P:=Tryz.prog) (C8 fun vend o2=>J8 vend o2) ((fun o3=>Lw o3):(Vector Int 8)→R (Vector Int 32)) (C8 fun vend o2=>fun fr h=>fr=Ae [(2,.q ids 0 g),(3,.q ids 1 g1),(4,.func (.func 133) [.q ids 1 g1] []),(6,.sl 1 (List.map (rI .u8) vend))]∧h=hp h0 ids [Ao g 32 [rU (B0 32 0)],Ao g1 8 [(rV (rI .u32)) o2],none]) ((r1.toList.take 128),o1) ?_ ?_
   ·exact⟨J,J⟩
   rintro vW1 hW1 ⟨vend,o2⟩ fr h ⟨rfl,rfl⟩
   refine Ag (m':=J8 vend o2) J (Ag (J8.eq_1 _ _) ?_)
   refine Ac<|Y<|Ap (.sl 1 (List.map (rI .u8) vend))<|Bo vend<|Ax (.B (decide ((vend.length:Int) > 0)))<|O<|Cs J (fun hc2=>?_) (fun hc2=>?_)
   ·refine Ai<|Ac<|An<|Ah<|Aa 2 [] [(50,.sl 1 (List.map (rI .u8) vend)),(49,.func (.func 133) [.q ids 1 g1] [])]<|B2 fun hs2=>Aw (.sl 1 (List.map (rI .u8) (vend.take (Int.toNat 64)))) J (Bz (Mx De Fe J hs2))<|D5 [1] hI J J (Oh (vend.take (Int.toNat 64)) o2 _ (ix ids 1) g1 (by exact hI.sub' J J)) J J J J J J (fun v _=>Dn func112 hI) ?_
    rintro r2 _ _ _ ⟨rfl,rfl⟩
    refine Hh [1] hI J J J ?_
    refine Ev<|O<|Ar ?_
    refine Ay<|Ah<|Ap (.sl 1 (List.map (rI .u8) vend))<|B2 fun hs3=>Aw (.sl 1 (List.map (rI .u8) (vend.drop (Int.toNat 64)))) J (Bz (I7 De Fe J hs3))<|Ad (.sl 1 (List.map (rI .u8) (vend.drop (Int.toNat 64))))<|O<|A3 (E7 (hW1 ((vend.drop (Int.toNat 64)),r2) _ _ ⟨J,J⟩))
   refine Bd J<|Eb<|A3 (hJ o2 _ _ ⟨J,J⟩)
  refine Ai<|Y<|Aa 2 [] [(35,.refc (ix ids 2) g2 0 0 64 128),(34,.refc (ix ids 2) g2 0 0 64 128)]<|Aw (.I 64) J (Cc (Ul De))<|Ax (.I 56)<|Aw (.refc (ix ids 2) g2 0 56 8 72) J (Bz (Af2 (a:=56) (b:=64) De Fe J Af6 (Agq (by decide)) (by decide) (.inr (by decide))))<|Ap (.sl 1 (List.map (rI .u8) b))<|Bo b<|Ax (.int .u64 (IntKind.wrap .u64 (b.length:Int)))<|Ax (.int .u64 (IntKind.wrap .u64 ((IntKind.wrap .u64 (b.length:Int)) * 8)))<|D5 [2] hI J J (Aam 56 72 (IntKind.wrap .u64 ((IntKind.wrap .u64 (b.length:Int)) * 8)) (Nh (Rn (B0 128 (0:Int)) 0 rest1) (Int.toNat (rest1.length:Int)) 128) _ (ix ids 2) g2 (by decide) (by exact hI.sub' J J)) J J J J J J (fun v _=>Dn func112 hI) ?_
  rintro r4 _ _ _ ⟨rfl,rfl⟩
  refine Hh [2] hI J J J ?_
  refine Ev<|O<|Ar ?_
  refine Ac<|Cu (fun o6=>Pz o6) (fun o6=>fun fr h=>fr=Ae [(2,.q ids 0 g),(3,.q ids 1 g1)]∧h=hp h0 ids [Ao g 32 [rU (B0 32 0)],Ao g1 8 [(rV (rI .u32)) o6],none]) ?_ fun hJ1=>?_
  ·rintro o6 fr h ⟨rfl,rfl⟩
   refine Ag (Pz.eq_1 _)<|Ac<|Y<|Aa 2 [1] [(54,.I 0),(53,.A ((rV (rI .u32)) o6))]<|O<|An<|Cb 2<|B4 [2,53,54] ?_
   refine C6 (P:=Tryz.prog) (List.range 8) (fun j1 _=>fun o7=>R5 o6 j1 o7) (((fun o7=>.ok o7)):(Vector Int 32)→R (Vector Int 32)) (fun j1=>fun o7=>fun fr h=>fr=Ae [(2,.q ids 0 g),(53,.A ((rV (rI .u32)) o6)),(54,.I j1)]∧h=hp h0 ids [Ao g 32 [rU o7],none,none]) (B0 32 0) ?_ ?_ ?_
   ·exact⟨J,J⟩
   ·rintro j1 a1 ha1 W hW4 o7 fr h ⟨rfl,rfl⟩
    refine Ag (m':=R5 o6 j1 o7) J (Ag (R5.eq_1 _ _ _) ?_)
    refine Y<|Ax (.B (decide ((j1:Int)<8)))<|O<|Ac<|Bv J (by have:=(B6 ha1).1; omega)<|Ai<|Ac<|An<|Y<|Ap (.I j1)<|Aw (.int .u32 (A0 o6 j1 0)) J (Aig (Al7 (e:=(rI .u32)) (E:=(fun x:Int=>(AV.int .u32 x))) (fun _=>J) E5 Bq J J ((B6 ha1).1) 0))<|Aa 2 [] [(8,.int .u32 (A0 o6 j1 0)),(7,.I j1)]<|O<|Ah<|Aa 5 [] [(62,.I (wi ((wi (4 * (j1:Int)))+4))),(59,.I (wi (4 * (j1:Int))))]<|B2 fun hi2=>Aw (.refc (ix ids 0) g 0 (Int.toNat (wi (4 * (j1:Int)))) 4 (32 - (Int.toNat (wi (4 * (j1:Int)))))) J (Bz (Ame (k:=4) hI J J Bm Fe J hi2.1 hi2.2)) ?_
    refine Ap (.int .u32 (A0 o6 j1 0))<|Ax (.int .u64 (IntKind.wrap .u64 (A0 o6 j1 0)))<|D5 [0] hI J J (Xw (Int.toNat (wi (4 * (j1:Int)))) (32 - (Int.toNat (wi (4 * (j1:Int))))) (IntKind.wrap .u64 (A0 o6 j1 0)) o7 _ (ix ids 0) g (Aqi hi2.2) (by exact hI.sub' J J)) J J J J J J (fun v _=>Dn func112 hI) ?_
    rintro r6 _ _ _ ⟨rfl,rfl⟩
    refine Hh [0] hI J J J ?_
    refine Ev<|O<|Ar ?_
    refine Ay<|Ah<|Aa 2 [] [(54,.I (wi ((j1:Int)+1)))]<|O<|A3 (Gb (hW4 r6 _ _ ⟨J,J⟩)) (.r2 (.cons (Gf (B6 ha1).1 (by decide)) .nil))
   rintro o7 fr h ⟨rfl,rfl⟩
   refine Y<|Ax (.B (decide (((List.range 8).length:Int)<8)))<|O<|Ac<|Bw J (by simp)<|Bd J<|Y<|Aa 1 [0] [(68,.A (rU o7))]<|B8 (Ea (v:=(.A (rU o7))) hI J J J Bm J J J (((Cw (fun x=>Bl x) J) _).1) J)<|O<|Bu func112 hI (Bk (A7 hI J J J Bm J) Bx) (.same _)
  refine An<|S8 [Ao g 32 [rU (B0 32 0)],Ao g1 8 [(rV (rI .u32)) o1],none] [(2,.q ids 0 g),(3,.q ids 1 g1),(4,.func (.func 133) [.q ids 1 g1] []),(6,.sl 1 (List.map (rI .u8) (r4.toList.take 64)))] hI J (.keep (.keep (.drop .nil))) (.s (.s (.s (.cons (Amd (E:=(fun x:Int=>(AV.int .u8 x))) (fun _=>J) (fun _=>J) (hI.at J J) (hI.at J J) (by decide)) .nil))))<|B4 [2,3,4,6] ?_
  refine Ga (P:=Tryz.prog) (C8 fun vend1 o5=>Pu vend1 o5) ((fun o6=>Pz o6):(Vector Int 8)→R (Vector Int 32)) (C8 fun vend1 o5=>fun fr h=>fr=Ae [(2,.q ids 0 g),(3,.q ids 1 g1),(4,.func (.func 133) [.q ids 1 g1] []),(6,.sl 1 (List.map (rI .u8) vend1))]∧h=hp h0 ids [Ao g 32 [rU (B0 32 0)],Ao g1 8 [(rV (rI .u32)) o5],none]) ((r4.toList.take 64),o1) ?_ ?_
  ·exact⟨J,J⟩
  rintro vW3 hW3 ⟨vend1,o5⟩ fr h ⟨rfl,rfl⟩
  refine Ag (m':=Pu vend1 o5) J (Ag (Pu.eq_1 _ _) ?_)
  refine Ac<|Y<|Ap (.sl 1 (List.map (rI .u8) vend1))<|Bo vend1<|Ax (.B (decide ((vend1.length:Int) > 0)))<|O<|Cs J (fun hc3=>?_) (fun hc3=>?_)
  ·refine Ai<|Ac<|An<|Ah<|Aa 2 [] [(50,.sl 1 (List.map (rI .u8) vend1)),(49,.func (.func 133) [.q ids 1 g1] [])]<|B2 fun hs4=>Aw (.sl 1 (List.map (rI .u8) (vend1.take (Int.toNat 64)))) J (Bz (Mx De Fe J hs4))<|D5 [1] hI J J (Oh (vend1.take (Int.toNat 64)) o5 _ (ix ids 1) g1 (by exact hI.sub' J J)) J J J J J J (fun v _=>Dn func112 hI) ?_
   rintro r5 _ _ _ ⟨rfl,rfl⟩
   refine Hh [1] hI J J J ?_
   refine Ev<|O<|Ar ?_
   refine Ay<|Ah<|Ap (.sl 1 (List.map (rI .u8) vend1))<|B2 fun hs5=>Aw (.sl 1 (List.map (rI .u8) (vend1.drop (Int.toNat 64)))) J (Bz (I7 De Fe J hs5))<|Ad (.sl 1 (List.map (rI .u8) (vend1.drop (Int.toNat 64))))<|O<|A3 (E7 (hW3 ((vend1.drop (Int.toNat 64)),r5) _ _ ⟨J,J⟩))
  refine Bd J<|Eb<|A3 (hJ1 o5 _ _ ⟨J,J⟩)
 refine An<|B4 [0,2,3,4,5] ?_
 refine Ga (P:=Tryz.prog) (C8 fun rest o=>Nn rest o) ((C8 fun rest1 o1=>Nm b rest1 o1):((List Int)×(Vector Int 8))→R (Vector Int 32)) (C8 fun rest o=>fun fr h=>fr=Ae [(0,.sl 1 (List.map (rI .u8) b)),(2,.q ids 0 g),(3,.q ids 1 g1),(4,.func (.func 133) [.q ids 1 g1] []),(5,.sl 1 (List.map (rI .u8) rest))]∧h=hp h0 ids [Ao g 32 [rU (B0 32 0)],Ao g1 8 [(rV (rI .u32)) o],none]) (b,Acs) ?_ ?_
 ·exact⟨J,J⟩
 rintro vW hW ⟨rest,o⟩ fr h ⟨rfl,rfl⟩
 refine Ag (m':=Nn rest o) J (Ag (Nn.eq_1 _ _) ?_)
 refine Ac<|Y<|Ap (.sl 1 (List.map (rI .u8) rest))<|Bo rest<|Ax (.B (decide ((rest.length:Int)≥64)))<|O<|Cs J (fun hc=>?_) (fun hc=>?_)
 ·refine Ai<|Ac<|An<|Ah<|Aa 2 [] [(18,.sl 1 (List.map (rI .u8) rest)),(17,.func (.func 133) [.q ids 1 g1] [])]<|B2 fun hs=>Aw (.sl 1 (List.map (rI .u8) (rest.take (Int.toNat 64)))) J (Bz (Mx De Fe J hs))<|D5 [1] hI J J (Oh (rest.take (Int.toNat 64)) o _ (ix ids 1) g1 (by exact hI.sub' J J)) J J J J J J (fun v _=>Dn func112 hI) ?_
  rintro r _ _ _ ⟨rfl,rfl⟩
  refine Hh [1] hI J J J ?_
  refine Ev<|O<|Ar ?_
  refine Ay<|Ah<|Ap (.sl 1 (List.map (rI .u8) rest))<|B2 fun hs1=>Aw (.sl 1 (List.map (rI .u8) (rest.drop (Int.toNat 64)))) J (Bz (I7 De Fe J hs1))<|Ad (.sl 1 (List.map (rI .u8) (rest.drop (Int.toNat 64))))<|O<|A3 (E7 (hW ((rest.drop (Int.toNat 64)),r) _ _ ⟨J,J⟩))
 refine Bd J<|Eb<|A3 (hJ2 (rest,o) _ _ ⟨J,J⟩)
theorem Yu (n:Int)(h0:Ab)(o0:Nat)(hI0:Ids h0 [o0] 1):G7 n≠.bad→Bi Tryz.prog 135 [.emp,(.int .i64 n)] (hp h0 [o0] [none]) (Ec (fun a_ v h' => ∃ (v3:AV),∃ (g1:Nat),Bp v3 o0 g1 a_.length∧v3=v∧h'=hp h0 [o0] [Ba v3 g1 1 (List.map (rI .u8) a_)]) h0 (G7 n)):=by
 refine Ee (n:=27) 0 func135 J (by decide) J J hI0 J fun ids he hI=>?_
 clear hI0
 obtain rfl:ix ids 0=o0:=he 0 rfl
 clear he
 refine Em (Ag (G7.eq_1 _) ?_)
 refine Y<|Ad .emp<|O<|Ac<|Y<|Aa 2 [] [(6,.B (decide (n<0)))]<|O<|Cs J (fun hc=>?_) (fun hc=>?_)
 ·refine Ah<|Ax (.iface 9 (.str [99,97,110,110,111,116,32,98,101,32,110,101,103,97,116,105,118,101]))<|Ws (v:=⟨9,.str [99,97,110,110,111,116,32,98,101,32,110,101,103,97,116,105,118,101]⟩) J J (E0 (K:=1) (N:=0) func135 hI)
 refine Ai<|Ac<|Y<|Aa 2 [] [(9,.emp),(8,.I n)]<|Aw (.I 0) J (Aeq (Acm De))<|Ap .emp<|Aw (.I 0) J (Cc (Acr De))<|Aa 3 [] [(1,.I (wi (n - 0)))]<|O<|Y<|Aa 2 [] [(16,.B (decide ((wi (n - 0)) > 0)))]<|O<|Cs J (fun hc1=>?_) (fun hc1=>?_)
 ·refine Ah<|Aa 2 [] [(18,.emp),(17,.emp)]<|Aw (.I 0) J (Aeq (Acm De))<|Aw .emp J (Bz (Alt De Fe))<|Ap (.I (wi (n - 0)))<|B2 fun hl=>Afb (e:=(rI .u8)) (y:=0) (i:=(wi (n - 0))) (st:=1) (j:=0) hI J J J J J J De Bh Fe J J J J J hl fun v1 g vH=>Ap .emp<|Aw (.I 0) J (Cc (Acr De))<|B2 fun hs=>Afd (e:=(rI .u8)) (L:=(List.replicate (Int.toNat (wi (n - 0))) (0:Int))) (j:=0) J hI J J J vH J J De Fe J hs fun v2 vH1=>Ad v2<|O<|Ar ?_
  refine Y<|Aa 2 [] [(4,v2)]<|O<|Fu (K:=1) (N:=0) [Ba v2 g 1 (List.map (rI .u8) ((List.replicate (Int.toNat (wi (n - 0))) (0:Int)).take (Int.toNat 0)))] func135 hI J J J (.keep .nil) (.same _) ⟨v2,g,vH1,J,J⟩
 refine Ai<|Y<|Aa 2 [] [(4,.emp)]<|O<|Fu (K:=1) (N:=0) [Ba .emp 0 1 (List.map (rI .u8) [])] func135 hI J J J (.drop .nil) (.same _) ⟨.emp,0,.nil,J,J⟩
theorem Yb (slices:(List (List Int))):CPO Tryz.prog 113 [(.sl 1 (List.map (rL 1 (rI .u8)) slices))] (F3 slices) 1 (rI .u8):=by
 refine Nz (n:=36) 0 func113 J (by decide) J J fun h0 ids hI=>Em (Ag (F3.eq_1 _) ?_)
 refine Y<|Ad .emp<|O<|Y<|Ad (.I 0)<|O<|Ac<|Y<|Ap (.sl 1 (List.map (rL 1 (rI .u8)) slices))<|Bo slices<|Ap (.I 0)<|O<|An<|B4 [0,3,9,10,11] ?_
 refine C6 (P:=Tryz.prog) slices (fun _ a=>fun size=>Gz a size) (((fun size=>(G7 size).bind fun newslice=>(eachS (fun _ a1=>fun newslice1=>Gy a1 newslice1) 0 slices newslice).bind ((fun newslice1=>.ok newslice1)))):Int→R (List Int)) (fun j=>fun size=>fun fr h=>fr=Ae [(0,.sl 1 (List.map (rL 1 (rI .u8)) slices)),(3,.I size),(9,.sl 1 (List.map (rL 1 (rI .u8)) slices)),(10,.I (slices.length:Int)),(11,.I j)]∧h=hp h0 ids [none]) 0 ?_ ?_ ?_
 ·exact⟨J,J⟩
 ·rintro j a ha W hW size fr h ⟨rfl,rfl⟩
  refine Ag (m':=Gz a size) J (Ag (Gz.eq_1 _ _) ?_)
  refine Y<|Ax (.B (decide ((j:Int)<(slices.length:Int))))<|O<|Ac<|Cr (t:=0) (L:=slices) J fun hlim=>Bv J (Int.ofNat_lt.2 (As ha))<|Ai<|Ac<|An<|Y<|Aw (.cp [.sl 1 (List.map (rI .u8) a)] 0) J (At (Cn Aic De J ha))<|Aa 2 [] [(5,.sl 1 (List.map (rI .u8) a))]<|O<|Y<|Aa 2 [] [(16,.sl 1 (List.map (rI .u8) a)),(15,.I size)]<|Bo a<|Aa 2 [] [(3,.I (wi (size+(a.length:Int))))]<|O ?_
  refine Y<|Aa 2 [] [(20,.B (decide ((wi (size+(a.length:Int)))<0)))]<|O<|Cs J (fun hc=>?_) (fun hc=>?_)
  ·refine Ah<|Ax (.iface 9 (.str [108,101,110,32,111,117,116,32,111,102,32,114,97,110,103,101]))<|Ws (v:=⟨9,.str [108,101,110,32,111,117,116,32,111,102,32,114,97,110,103,101]⟩) J J (Wj func113 hI)
  refine Ai<|Ay<|Ah<|Aa 2 [] [(11,.I (wi ((j:Int)+1)))]<|O<|A3 (Gb (hW (wi (size+(a.length:Int))) _ _ ⟨J,J⟩)) (.r4 (.o (ic ha hlim)))
 rintro size fr h ⟨rfl,rfl⟩
 refine Y<|Ax (.B (decide ((slices.length:Int)<(slices.length:Int))))<|O<|Ac<|Bw J (Int.lt_irrefl _)<|Bd J<|Y<|Ap (.I size)<|D5 [0] hI J J (Yu size _ (ix ids 0) (by exact hI.sub' J J)) J J J J J J (fun v _=>Wj func113 hI) ?_
 rintro newslice _ _ _ ⟨v,g,vH,rfl,rfl⟩
 refine Hh [0] hI J J J ?_
 refine Ev<|Ad v<|O<|Ar ?_
 refine Ac<|Y<|Ap (.sl 1 (List.map (rL 1 (rI .u8)) slices))<|Bo slices<|Ap (.I 0)<|O<|An<|B4 [6,25,26,27] ?_
 refine C6 (P:=Tryz.prog) slices (fun _ a1=>fun newslice1=>Gy a1 newslice1) (((fun newslice1=>.ok newslice1)):(List Int)→R (List Int)) (fun j1=>fun newslice1=>fun fr h => ∃ (v1:AV),∃ (g1:Nat),Bp v1 (ix ids 0) g1 newslice1.length∧fr=Ae [(6,v1),(25,.sl 1 (List.map (rL 1 (rI .u8)) slices)),(26,.I (slices.length:Int)),(27,.I j1)]∧h=hp h0 ids [Ba v1 g1 1 (List.map (rI .u8) newslice1)]) newslice ?_ ?_ ?_
 ·exact⟨v,g,vH,J,J⟩
 ·rintro j1 a1 ha1 W hW1 newslice1 fr h ⟨v1,g1,vH1,rfl,rfl⟩
  refine Ag (m':=Gy a1 newslice1) J (Ag (Gy.eq_1 _ _) ?_)
  refine Y<|Ax (.B (decide ((j1:Int)<(slices.length:Int))))<|O<|Ac<|Cr (t:=25) (L:=slices) J fun hlim1=>Bv J (Int.ofNat_lt.2 (As ha1))<|Ai<|Ac<|An<|Y<|Aw (.cp [.sl 1 (List.map (rI .u8) a1)] 0) J (At (Cn Aic De J ha1))<|Aa 2 [] [(8,.sl 1 (List.map (rI .u8) a1))]<|O<|Ah<|Aa 2 [] [(32,.sl 1 (List.map (rI .u8) a1)),(31,v1)]<|B2 fun hl=>C7 (e:=(rI .u8)) (L:=newslice1) (L2:=a1) (v:=v1) (g:=g1) (st:=1) (j:=0) hI J J J J vH1 J (C1 J) De De J Fe J J J hl fun v2 g2 vH2=>Ad v2<|O ?_
  refine Ar ?_
  refine Ay<|Ah<|Aa 2 [] [(27,.I (wi ((j1:Int)+1)))]<|O<|A3 (Gb (hW1 (newslice1++a1) _ _ ⟨v2,g2,vH2,J,J⟩)) (.r2 (.r (.cons (Gf (As ha1) hlim1) .nil)))
 rintro newslice1 fr h ⟨v1,g1,vH1,rfl,rfl⟩
 refine Y<|Ax (.B (decide ((slices.length:Int)<(slices.length:Int))))<|O<|Ac<|Bw J (Int.lt_irrefl _)<|Bd J<|Y<|Aa 2 [] [(2,v1)]<|O<|Nr (a:=newslice1) (v:=v1) (g:=g1) func113 hI J J vH1 J
theorem Sr (slices:(List (List Int))):CP Tryz.prog 113 [(.sl 1 (List.map (rL 1 (rI .u8)) slices))] (F3 slices) (fun(x:List Int)=>(AV.sl 1 (List.map (rI .u8) x))):=(Yb slices).cp (fun x=>Bl x)
theorem Pa (tag b):CP Tryz.prog 81 [.str tag,.sl 1 (List.map (rI .u8) b)] (In tag b) (fun x=>(AV.agg (rU x))):=by
 refine ci 14 2 func81 (Wv _ _) fun h0 ids hI hF=>Y<|Et (j:=0) (row:=(rU (B0 32 0))) hI J J J J Bm (Hr (n:=32) (e:=(rI .u8)) (E:=(fun x:Int=>(AV.int .u8 x))) (fun _=>J) _).symm ((Cw (fun x=>Bl x) J) _) fun g=>O<|Ar ?_
 refine Y<|Ap (.str tag)<|B2 fun hl=>Av1 J W9 De Fe J J hl<|oc ((Aai (Od tag)) _) fun r _=>Et (j:=1) (row:=(rU (B0 32 0))) hI J J J J Bm (Hr (n:=32) (e:=(rI .u8)) (E:=(fun x:Int=>(AV.int .u8 x))) (fun _=>J) _).symm ((Cw (fun x=>Bl x) J) _) fun g1=>B8 (Ea (v:=(.A (rU r))) hI J J J Bm J J J (((Cw (fun x=>Bl x) J) _).1) J)<|O<|Ar ?_
 refine Y<|Asf [Ao g 32 [rU (B0 32 0)],none] [(1,.sl 1 (List.map (rI .u8) b)),(4,.q ids 0 g),(5,.cp (rU r) 0)] hI J (.keep (.drop .nil)) (.s (.s (.cons (.ptrL (hI.at J J) (hI.at J J) ((Cw (fun x=>Bl x) J) _).1 (Ot _)) .nil)))<|Aw (.sl 1 (List.map (rI .u8) r.toList)) J (Bz (Acu (E:=(fun x:Int=>(AV.int .u8 x))) (fun _=>J) (fun _=>J) Bm Fe J)) ?_
 refine Ap (.sl 1 (List.map (rI .u8) b))<|Dm (e:=(rL 1 (rI .u8))) (L:=[r.toList,b]) (st:=1) (rows:=[[.sl 1 (List.map (rI .u8) r.toList)],[.sl 1 (List.map (rI .u8) b)]]) J Aic De J J J J J (.cons (RowSim.refl _) (.cons (RowSim.refl _) .nil)) (fun x=>Adz x) J J<|oc ((Sr [r.toList,b]) _) fun r1 _=>oc ((Aai r1) _) fun r2 _=>B8 (Ea (v:=(.A (rU r2))) hI J J J Bm J J J (((Cw (fun x=>Bl x) J) _).1) J)<|O<|Ar ?_
 exact Bu func81 hI (Bk (A7 hI J J J Bm J) Bx) (.same _)
theorem Vd (salt l):CP Tryz.prog 61 [.A (rU salt),.K l] (H0 salt l) (fun x=>(AV.agg (rU x))):=by
 refine ci 34 5 func61 (H0.eq_1 _ _) fun h0 ids hI hF=>Y<|B7 0 (.A (rU salt)) fun g=>Et (j:=1) (row:=(rU (B0 32 0))) hI J J J J Bm (Hr (n:=32) (e:=(rI .u8)) (E:=(fun x:Int=>(AV.int .u8 x))) (fun _=>J) _).symm ((Cw (fun x=>Bl x) J) _) fun g1=>O<|Ar ?_
 refine Y<|Ax (.A [.I 3,.I 0,.str [],.emp])<|Cp 2 Oa fun g2=>Bt (.A [.I 3,.I 0,.str [],.emp]) ?_
 refine O<|Ar ?_
 refine Ac<|Y<|Ap (.K l)<|Bo l<|Ap (.I 0)<|O<|An<|B4 [2,4,5,11,12,13] ?_
 refine C6 (P:=Tryz.prog) l (fun _ a=>fun l1=>Hd a l1) (((fun l1=>(Oy ({ Kind:=3,N:=0,S:=[],L:=l1 }:Value)).bind fun r=>if r.1.length≠0∧(32+r.1.length) * 1≤Bs then(In [99,111,115,116] (salt.toList++r.1)).bind fun r1=>.ok r1 else .bad)):(List Value)→R (Vector Int 32)) (fun j=>fun l1=>fun fr h => ∃ (v:AV),∃ (g3:Nat),Bp v (ix ids 3) g3 l1.length∧fr=Ae [(2,.q ids 0 g),(4,.q ids 1 g1),(5,.q ids 2 g2),(11,.K l),(12,.I (l.length:Int)),(13,.I j)]∧h=hp h0 ids [Ao g 32 [rU salt],Ao g1 32 [rU (B0 32 0)],Ao g2 4 [[.I 3,.I 0,.str [],v]],Ba v g3 4 (List.map rValueA l1),none]) [] ?_ ?_ ?_
 ·exact⟨.emp,0,.nil,J,J⟩
 ·rintro j a ha W hW l1 fr h ⟨v,g3,vH,rfl,rfl⟩
  refine Ag (m':=Hd a l1) J (Ag (Hd.eq_1 _ _) ?_)
  refine Y<|Ax (.B (decide ((j:Int)<(l.length:Int))))<|O<|Ac<|Cr (t:=11) (L:=l) J fun hlim=>Bv J (Int.ofNat_lt.2 (As ha))<|Ai<|Ac<|An<|Y<|Aw (.cp [.I a] 0) J (At (Cn A6 Bh J ha))<|Aa 2 [] [(7,.I a)]<|O<|Ah<|Aa 4 [2] [(20,.A [.I 1,.I a,.str [],.emp]),(18,v)]<|Dm (e:=rValueA) (L:=[({ Kind:=1,N:=a,S:=[],L:=[] }:Value)]) (st:=4) (rows:=[[.I 1,.I a,.str [],.emp]]) J J2 Oa J J J J J (.cons (As8 (.s (.s (.s (.cons (.emp _) .nil))))) .nil) (fun x=>Ajk x) J J<|B2 fun hl=>C7 (e:=rValueA) (L:=l1) (L2:=[({ Kind:=1,N:=a,S:=[],L:=[] }:Value)]) (v:=v) (g:=g3) (st:=4) (j:=3) hI J J J J vH J (C1 J) J2 J2 J Oa J J J hl fun v1 g4 vH1=>Ax (.ptr (ix ids 2) g2 0 3) ?_
  refine B8 (T7 vH1 hI J J J J J2 J J J)<|O<|Ar ?_
  refine Ay<|Ah<|Aa 2 [] [(13,.I (wi ((j:Int)+1)))]<|O<|A3 (Gb (hW (l1++[({ Kind:=1,N:=a,S:=[],L:=[] }:Value)]) _ _ ⟨v1,g4,vH1,J,J⟩)) (.r4 (.r (.o (ic ha hlim))))
 rintro l1 fr h ⟨v,g3,vH,rfl,rfl⟩
 refine Y<|Ax (.B (decide ((l.length:Int)<(l.length:Int))))<|O<|Ac<|Bw J (Int.lt_irrefl _)<|Bd J<|Y<|Aa 1 [2] [(26,.A [.I 3,.I 0,.str [],v])]<|Yz (h2:=hp h0 ids [Ao g 32 [rU salt],Ao g1 32 [rU (B0 32 0)],none,none,none]) [(2,.q ids 0 g),(4,.q ids 1 g1),(26,.A (Cd ({ Kind:=3,N:=0,S:=[],L:=l1 }:Value)))] (Drops.sub (.keep (.keep (.drop (.drop (.keep .nil))))) hI.len) (.s (.s (.cons (.aggL (.s (.s (.s (.cons (E3 vH (hI.at J J) (hI.at J J) (fun x=>Ajk x)) .nil))))) .nil))) J J<|oc ((Ae9 ({ Kind:=3,N:=0,S:=[],L:=l1 }:Value)) _) fun r _=>Aa 5 [] [(8,.sl 1 (List.map (rI .u8) r.1))]<|O<|Ar ?_
 refine Y<|Aw (.refc (ix ids 0) g 0 0 32 32) J (Bz (Agi (a:=0) (b:=32) hI J J Bm Fe J J J)) ?_
 refine Ap (.sl 1 (List.map (rI .u8) r.1))<|B2 fun hl1=>Ann (e:=(rI .u8)) (E1:=(fun x:Int=>(AV.int .u8 x))) (v:=salt) (L2:=r.1) (j2:=4) (fun _=>J) hI J J J J J J (C1 J) De De J Fe J J hl1 fun v2 g5 vH2=>Yz (h2:=hp h0 ids [Ao g 32 [rU salt],Ao g1 32 [rU (B0 32 0)],none,none,none]) [(4,.q ids 1 g1),(32,.sl 1 (List.map (rI .u8) (salt.toList++r.1)))] (Drops.sub (.keep (.keep (.keep (.keep (.drop .nil))))) hI.len) (.s (.cons (E3 vH2 (hI.at J J) (hI.at J J) (fun x=>Bl x)) .nil)) J J<|oc ((Pa [99,111,115,116] (salt.toList++r.1)) _) fun r1 _=>B8 (Ea (v:=(.A (rU r1))) hI J J J Bm J J J (((Cw (fun x=>Bl x) J) _).1) J)<|O<|Ar ?_
 exact Bu func61 hI (Bk (A7 hI J J J Bm J) Bx) (.same _)
theorem Abm (a):CP Tryz.prog 137 [.int .u64 a] (S4 a) (.int .i64):=by
 refine ci 25 0 func137 (S4.eq_1 _) fun h0 ids hI hF=>Y<|Ad (.I 0)<|O<|Ac<|Y<|Aa 2 [] [(4,.B (decide (a≥4294967296)))]<|O<|Cu (C8 fun x n=>N9 x n) (C8 fun x n=>fun fr h=>fr=Ae [(0,.int .u64 x),(2,.I n)]∧h=hp h0 ids []) ?_ fun hJ1=>?_
 ·rintro⟨x,n⟩ fr h ⟨rfl,rfl⟩
  refine Ag (N9.eq_1 _ _)<|Ac<|Y<|Aa 2 [] [(8,.B (decide (x≥65536)))]<|O<|Cu (C8 fun x1 n1=>Oc x1 n1) (C8 fun x1 n1=>fun fr h=>fr=Ae [(0,.int .u64 x1),(2,.I n1)]∧h=hp h0 ids []) ?_ fun hJ=>?_
  ·rintro⟨x1,n1⟩ fr h ⟨rfl,rfl⟩
   refine Ag (Oc.eq_1 _ _)<|Ac<|Y<|Aa 2 [] [(14,.B (decide (x1≥256)))]<|O<|Cs J (fun hc2=>?_) (fun hc2=>?_)
   ·refine Y<|Ap (.int .u64 x1)<|Aw (.int .u64 (Int.fdiv x1 256)) J (Bj J J (J6 (by decide) (by decide)))<|Ad (.int .u64 (Int.fdiv x1 256))<|O<|Ah<|Aa 3 [] [(2,.I (wi (n1+8)))]<|O<|Y<|Aa 2 [] [(20,.int .u64 (Int.fdiv x1 256)),(19,.I (wi (n1+8)))]<|Ax (.int .u8 (IntKind.wrap .u8 (Int.fdiv x1 256)))<|G9 fun a1 hz hx1=>Aw (.int .u8 (a1.toNat:Int)) J (Aig (Ao7 W9 hz hx1))<|Ax (.I (wi (a1.toNat:Int)))<|Aa 2 [] [(2,.I (wi ((wi (n1+8))+(wi (a1.toNat:Int)))))]<|O<|rt
   refine Ai<|Y<|Aa 2 [] [(20,.int .u64 x1),(19,.I n1)]<|Ax (.int .u8 (IntKind.wrap .u8 x1))<|G9 fun a2 hz1 hx2=>Aw (.int .u8 (a2.toNat:Int)) J (Aig (Ao7 W9 hz1 hx2))<|Ax (.I (wi (a2.toNat:Int)))<|Aa 2 [] [(2,.I (wi (n1+(wi (a2.toNat:Int)))))]<|O<|rt
  refine Cs J (fun hc1=>?_) (fun hc1=>?_)
  ·refine Y<|Ap (.int .u64 x)<|Aw (.int .u64 (Int.fdiv x 65536)) J (Bj J J (J6 (by decide) (by decide)))<|Ad (.int .u64 (Int.fdiv x 65536))<|O<|Ah<|Aa 3 [] [(2,.I (wi (n+16)))]<|O<|A3 (hJ ((Int.fdiv x 65536),wi (n+16)) _ _ ⟨J,J⟩)
  refine Ai<|A3 (hJ (x,n) _ _ ⟨J,J⟩)
 refine Cs J (fun hc=>?_) (fun hc=>?_)
 ·refine Y<|Ap (.int .u64 a)<|Aw (.int .u64 (Int.fdiv a 4294967296)) J (Bj J J (J6 (by decide) (by decide)))<|Ad (.int .u64 (Int.fdiv a 4294967296))<|O<|Ah<|Ad (.I 32)<|O<|A3 (hJ1 ((Int.fdiv a 4294967296),32) _ _ ⟨J,J⟩)
 refine Ai<|A3 (hJ1 (a,0) _ _ ⟨J,J⟩)
theorem Aee (a):CP Tryz.prog 114 [.int .u64 a] (Vs a) (.int .i64):=by
 refine ci 8 0 func114 (Vs.eq_1 _) fun h0 ids hI hF=>Y<|Ad (.I 0)<|O<|Ac<|O0 false J<|Ai<|Y<|Ap (.int .u64 a)<|oc ((Abm a) _) fun r _=>Ad (.I r)<|O<|rt
theorem Uj (n):CP Tryz.prog 83 [.int .i64 n] (Gp n) (.int .i64):=by
 refine ci 9 0 func83 (Gp.eq_1 _) fun h0 ids hI hF=>Y<|Ad (.I 0)<|O<|Y<|Aa 2 [] [(4,.I (wi (n - 1)))]<|Ax (.int .u64 (IntKind.wrap .u64 (wi (n - 1))))<|oc ((Aee (IntKind.wrap .u64 (wi (n - 1)))) _) fun r _=>Ax (.I (wi (r - 1)))<|B2 fun hz=>Aw (.I (Qb .i64 1 (wi (r - 1)))) J (Bj J J (Z3 hz))<|Ad (.I (Qb .i64 1 (wi (r - 1))))<|O<|rt
theorem Zc (d):CP Tryz.prog 82 [.A (rU d)] (Oj d) (fun x=>(AV.agg (rU x))):=by
 refine ci 5 2 func82 (Oj.eq_1 _) fun h0 ids hI hF=>Y<|B7 0 (.A (rU d)) fun g=>Et (j:=1) (row:=(rU (B0 32 0))) hI J J J J Bm (Hr (n:=32) (e:=(rI .u8)) (E:=(fun x:Int=>(AV.int .u8 x))) (fun _=>J) _).symm ((Cw (fun x=>Bl x) J) _) fun g1=>O<|Ar ?_
 refine Y<|Asf [none,Ao g1 32 [rU (B0 32 0)]] [(1,.cp (rU d) 0),(2,.q ids 1 g1)] hI J (.drop (.keep .nil)) (.cons (.ptrL (hI.at J J) (hI.at J J) ((Cw (fun x=>Bl x) J) _).1 (Ot _)) .s1)<|Aw (.sl 1 (List.map (rI .u8) d.toList)) J (Bz (Acu (E:=(fun x:Int=>(AV.int .u8 x))) (fun _=>J) (fun _=>J) Bm Fe J)) ?_
 refine oc ((Pa [108,101,97,102] d.toList) _) fun r _=>B8 (Ea (v:=(.A (rU r))) hI J J J Bm J J J (((Cw (fun x=>Bl x) J) _).1) J)<|O<|Ar ?_
 exact Bu func82 hI (Bk (A7 hI J J J Bm J) Bx) (.same _)
theorem Ub (a b):CP Tryz.prog 84 [.A (rU a),.A (rU b)] (Mb a b) (fun x=>(AV.agg (rU x))):=by
 refine ci 10 3 func84 (Mb.eq_1 _ _) fun h0 ids hI hF=>Y<|B7 0 (.A (rU a)) fun g=>B7 1 (.A (rU b)) fun g1=>Et (j:=2) (row:=(rU (B0 32 0))) hI J J J J Bm (Hr (n:=32) (e:=(rI .u8)) (E:=(fun x:Int=>(AV.int .u8 x))) (fun _=>J) _).symm ((Cw (fun x=>Bl x) J) _) fun g2=>O<|Ar ?_
 refine Ac<|S8 [none,Ao g1 32 [rU b],Ao g2 32 [rU (B0 32 0)]] [(2,.cp (rU a) 0),(3,.q ids 1 g1),(4,.q ids 2 g2)] hI J (.drop (.keep (.keep .nil))) (.cons (.ptrL (hI.at J J) (hI.at J J) ((Cw (fun x=>Bl x) J) _).1 (Ot _)) .s2)<|S8 [none,none,Ao g2 32 [rU (B0 32 0)]] [(2,.cp (rU a) 0),(3,.cp (rU b) 0),(4,.q ids 2 g2)] hI J (.keep (.drop (.keep .nil))) (.s (.cons (.ptrL (hI.at J J) (hI.at J J) ((Cw (fun x=>Bl x) J) _).1 (Ot _)) .s1))<|By [0,0,3,7,15,31] [pR 0,pR 1,pE 2,pE 3,pE 4,pE 5] Dr<|A2 (.sl 1 (List.map (rI .u8) a.toList)) J J (Bz (Acu (E:=(fun x:Int=>(AV.int .u8 x))) (fun _=>J) (fun _=>J) Bm Fe J)) ?_
 refine A2 (.sl 1 (List.map (rI .u8) b.toList)) J J (Bz (Acu (E:=(fun x:Int=>(AV.int .u8 x))) (fun _=>J) (fun _=>J) Bm Fe J)) ?_
 refine Gh J J (fun _ _=>J) (fun K hK=>K0 (e:=(rL 1 (rI .u8))) (L:=[a.toList,b.toList]) (st:=1) (rows:=[[.sl 1 (List.map (rI .u8) a.toList)],[.sl 1 (List.map (rI .u8) b.toList)]]) Aic De J J J J J (.cons (RowSim.refl _) (.cons (RowSim.refl _) .nil)) (fun x=>Adz x) J J (hK _ _ Dq ?_))
 clear hK K
 refine Jb ((Sr [a.toList,b.toList]) _) fun r _=>?_
 refine Jb ((Pa [110,111,100,101] r) _) fun r1 _=>?_
 refine Nw J (fun _ _=>J) (fun K hK=>Hc (Ea (v:=(.A (rU r1))) hI J J J Bm J J J (((Cw (fun x=>Bl x) J) _).1) J) (hK _ _ Dq ?_))
 clear hK K
 refine Be<|Ar ?_
 exact Bu func84 hI (Bk (A7 hI J J J Bm J) Bx) (.same _)
theorem Xo (d vat n p):CP Tryz.prog 62 [.A (rU d),.int .i64 vat,.int .i64 n,.M p] (O2 d vat n p) (fun p=>AV.tup [.A (rU p.1),.int .i64 p.2]):=by
 refine ci 81 4 func62 (O2.eq_1 _ _ _ _) fun h0 ids hI hF=>Y<|B7 0 (.A (rU d)) fun g=>Et (j:=1) (row:=(rU (B0 32 0))) hI J J J J Bm (Hr (n:=32) (e:=(rI .u8)) (E:=(fun x:Int=>(AV.int .u8 x))) (fun _=>J) _).symm ((Cw (fun x=>Bl x) J) _) fun g1=>Ad (.I 0)<|O<|Ar ?_
 refine Ac<|Y<|Aa 3 [] [(16,.B (decide (n<1)))]<|B5 3 16 19 [1,2,3,4,8] (.B ((decide (n<1))||(decide (n > 1099511627776)))) J ?_ (fun hb1 hJ=>?_) (fun hb1 hJ=>?_)
 ·refine Ap (.B ((decide (n<1))||(decide (n > 1099511627776))))<|B5 3 20 23 [1,2,3,4,8] (.B (((decide (n<1))||(decide (n > 1099511627776)))||(decide (vat<0)))) J ?_ (fun hb3 hJ1=>?_) (fun hb3 hJ1=>?_)
  ·refine Ap (.B (((decide (n<1))||(decide (n > 1099511627776)))||(decide (vat<0))))<|B5 4 24 28 [1,2,3,4,8] (.B ((((decide (n<1))||(decide (n > 1099511627776)))||(decide (vat<0)))||(decide (vat≥n)))) J ?_ (fun hb5 hJ2=>?_) (fun hb5 hJ2=>?_)
   ·refine O<|A8 J (fun hc=>?_) (fun hc=>?_)
    ·refine Y<|Aa 1 [1] [(29,.A (rU (B0 32 0)))]<|B8 (Ea (v:=(.A (rU (B0 32 0)))) hI J J J Bm J J J (((Cw (fun x=>Bl x) J) _).1) J)<|Ad (.I 1)<|O<|Bu func62 hI (Bk (A7 hI J J J Bm J) (Ce Bx)) (.tupL .s2)
    refine Ai<|Y<|Ad .emp<|O<|Ac<|Cu (fun first1=>Nx d p first1) (fun first1=>fun fr h => ∃ (v2:AV),∃ (g4:Nat),Bp v2 (ix ids 2) g4 first1.length∧fr=Ae [(3,.M p),(4,.q ids 0 g),(8,.q ids 1 g1),(10,v2)]∧h=hp h0 ids [Ao g 32 [rU d],Ao g1 32 [rU (B0 32 0)],Ba v2 g4 1 (List.map rB first1),none]) ?_ fun hJ3=>?_
    ·rintro first1 fr h ⟨v2,g4,vH2,rfl,rfl⟩
     refine Ag (Nx.eq_1 _ _ _)<|Ac<|Y<|Ap (.M p)<|Bo p<|Ap v2<|Aw (.I (first1.length:Int)) J (Cc (Bp.len vH2 Acn))<|Ax (.B ((p.length:Int) != (first1.length:Int)))<|O<|A8 J (fun hc3=>?_) (fun hc3=>?_)
     ·refine Y<|Aa 1 [1] [(55,.A (rU (B0 32 0)))]<|B8 (Ea (v:=(.A (rU (B0 32 0)))) hI J J J Bm J J J (((Cw (fun x=>Bl x) J) _).1) J)<|Ad (.I 1)<|O<|Bu func62 hI (Bk (A7 hI J J J Bm J) (Ce Bx)) (.tupL .s2)
     refine Ai<|Y<|Aa 1 [0] [(56,.A (rU d))]<|oc ((Zc d) _) fun r _=>B8 (Ea (v:=(.A (rU r))) hI J J J Bm J J J (((Cw (fun x=>Bl x) J) _).1) J)<|O<|Ar ?_
     refine Ac<|Y<|Ap (.M p)<|Bo p<|Ap (.I 0)<|O<|An<|Cb 1<|B4 [8,10,58,59,60] ?_
     refine C6 (P:=Tryz.prog) p (fun j a=>C8 fun o first2=>H1 j a o first2) (((C8 fun o first2=>.ok (o,0))):((Vector Int 32)×(List Bool))→R ((Vector Int 32)×Int)) (fun j=>C8 fun o first2=>fun fr h=>Bp v2 (ix ids 2) g4 first2.length∧fr=Ae [(8,.q ids 1 g1),(10,v2),(58,.M p),(59,.I (p.length:Int)),(60,.I j)]∧h=hp h0 ids [none,Ao g1 32 [rU o],Ba v2 g4 1 (List.map rB first2),none]) (r,first1) ?_ ?_ ?_
     ·exact⟨vH2,J,J⟩
     ·rintro j a ha W hW1 ⟨o,first2⟩ fr h ⟨vH3,rfl,rfl⟩
      refine Ag (m':=H1 j a o first2) J (Ag (H1.eq_1 _ _ _ _) ?_)
      refine Y<|Ax (.B (decide ((j:Int)<(p.length:Int))))<|O<|Ac<|Cr (t:=58) (L:=p) J fun hlim=>Bv J (Int.ofNat_lt.2 (As ha))<|Ai<|Ac<|An<|Y<|Ap (.I j)<|Aw (.cp (rU a) 0) J (At (Cn Cy Bm J ha))<|Ax (.A (rU a))<|Et (j:=3) (row:=(rU (B0 32 0))) hI J J J J Bm (Hr (n:=32) (e:=(rI .u8)) (E:=(fun x:Int=>(AV.int .u8 x))) (fun _=>J) _).symm ((Cw (fun x=>Bl x) J) _) fun g5=>Ad (.I j)<|B8 (Ea (v:=(.A (rU a))) hI J J J Bm J J J (((Cw (fun x=>Bl x) J) _).1) J)<|O<|Ar ?_
      refine Y<|Aa 2 [] [(66,v2),(65,v2)]<|Aw (.I (first2.length:Int)) J (Cc (Bp.len vH3 Acn))<|Aa 3 [] [(70,.I (wi ((wi ((first2.length:Int) - 1)) - (j:Int))))]<|G9 fun a1 hz hx1=>Aw (.ptr (ix ids 2) g4 (Int.toNat (wi ((wi ((first2.length:Int) - 1)) - (j:Int)))) 0) J (At (Np hI J vH3 J Acn Xp J hz hx1))<|Aw (.B a1) J (Bg (Yv hI J vH3 J hx1 Xp J))<|O<|A8 J (fun hc4=>?_) (fun hc4=>?_)
      ·refine Ah<|Aa 2 [1,3] [(74,.A (rU a)),(73,.A (rU o))]<|oc ((Ub o a) _) fun r1 _=>B8 (Ea (v:=(.A (rU r1))) hI J J J Bm J J J (((Cw (fun x=>Bl x) J) _).1) J)<|O<|Ar ?_
       refine Ay<|Ah<|Aa 2 [] [(60,.I (wi ((j:Int)+1)))]<|O<|Cb 8<|A3 (Gb (hW1 (r1,first2) _ _ ⟨vH3,J,J⟩)) (.r4 (.o (ic ha hlim)))
      refine Ah<|Aa 2 [3,1] [(77,.A (rU o)),(76,.A (rU a))]<|oc ((Ub a o) _) fun r2 _=>B8 (Ea (v:=(.A (rU r2))) hI J J J Bm J J J (((Cw (fun x=>Bl x) J) _).1) J)<|O<|Ar ?_
      refine Ay<|Ah<|Aa 2 [] [(60,.I (wi ((j:Int)+1)))]<|O<|Cb 8<|A3 (Gb (hW1 (r2,first2) _ _ ⟨vH3,J,J⟩)) (.r4 (.o (ic ha hlim)))
     rintro⟨o,first2⟩ fr h ⟨vH3,rfl,rfl⟩
     refine Ag (Akk _ _ _)<|Y<|Ax (.B (decide ((p.length:Int)<(p.length:Int))))<|O<|Ac<|Bw J (Int.lt_irrefl _)<|Bd J<|Y<|Aa 1 [1] [(80,.A (rU o))]<|B8 (Ea (v:=(.A (rU o))) hI J J J Bm J J J (((Cw (fun x=>Bl x) J) _).1) J)<|Ad (.I 0)<|O<|Bu func62 hI (Bk (A7 hI J J J Bm J) (Ce Bx)) (.tupL .s2)
    refine An<|B4 [1,2,3,4,8,10] ?_
    refine Ga (P:=Tryz.prog) (Nf fun vat1 n1 first=>F1 vat1 n1 first) ((fun first1=>Nx d p first1):(List Bool)→R ((Vector Int 32)×Int)) (Nf fun vat1 n1 first=>fun fr h => ∃ (v:AV),∃ (g2:Nat),Bp v (ix ids 2) g2 first.length∧fr=Ae [(1,.I vat1),(2,.I n1),(3,.M p),(4,.q ids 0 g),(8,.q ids 1 g1),(10,v)]∧h=hp h0 ids [Ao g 32 [rU d],Ao g1 32 [rU (B0 32 0)],Ba v g2 1 (List.map rB first),none]) (vat,n,[]) ?_ ?_
    ·exact⟨.emp,0,.nil,J,J⟩
    rintro vW hW ⟨vat1,n1,first⟩ fr h ⟨v,g2,vH,rfl,rfl⟩
    refine Ag (m':=F1 vat1 n1 first) J (Ag (F1.eq_1 _ _ _) ?_)
    refine Ac<|Y<|Aa 2 [] [(31,.B (decide (n1 > 1)))]<|O<|Cs J (fun hc1=>?_) (fun hc1=>?_)
    ·refine Ai<|An<|Y<|Ap (.I n1)<|oc ((Uj n1) _) fun k _=>Ad (.I k)<|O<|Y<|Aa 4 [] [(37,.B (decide (vat1<k))),(34,v)]<|Dm (e:=rB) (L:=[decide (vat1<k)]) (st:=1) (rows:=[[.B (decide (vat1<k))]]) J Acn Xp J J J J J (.cons (RowSim.refl _) .nil) (fun x=>Aq5 x) J J<|B2 fun hl=>C7 (e:=rB) (L:=first) (L2:=[decide (vat1<k)]) (v:=v) (g:=g2) (st:=1) (j:=2) hI J J J J vH J (C1 J) Acn Acn J Xp J J J hl fun v1 g3 vH1=>Ad v1<|O<|Ar ?_
     refine Y<|Aa 3 [] [(42,.B (decide (vat1<k)))]<|O<|Cs J (fun hc2=>?_) (fun hc2=>?_)
     ·refine Ah<|Aa 2 [] [(2,.I k)]<|O<|Ay<|A3 (E7 (hW (vat1,k,first++[decide (vat1<k)]) _ _ ⟨v1,g3,vH1,J,J⟩))
     refine Ah<|Aa 8 [] [(2,.I (wi (n1 - k))),(1,.I (wi (vat1 - k)))]<|O<|Ay<|A3 (E7 (hW ((wi (vat1 - k)),wi (n1 - k),first++[decide (vat1<k)]) _ _ ⟨v1,g3,vH1,J,J⟩))
    refine Bd J<|Eb<|A3 (hJ3 first _ _ ⟨v,g2,vH,J,J⟩)
   ·refine Aa 4 [] [(28,.B true)]<|A5 hJ2 (.r4 (.r (.cons (Du hb5) .nil)))
   refine Aa 4 [] [(28,.B (decide (vat≥n)))]<|A5 hJ2 (.r4 (.r (.cons (Dw hb5) .nil)))
  ·refine Aa 3 [] [(23,.B true)]<|A5 hJ1 (.r4 (.r (.cons (Du hb3) .nil)))
  refine Aa 3 [] [(23,.B (decide (vat<0)))]<|A5 hJ1 (.r4 (.r (.cons (Dw hb3) .nil)))
 ·refine Aa 3 [] [(19,.B true)]<|A5 hJ (.r4 (.r (.cons (Du hb1) .nil)))
 refine Aa 3 [] [(19,.B (decide (n > 1099511627776)))]<|A5 hJ (.r4 (.r (.cons (Dw hb1) .nil)))
theorem Zd (d airline tables slots o):CP Tryz.prog 25 [.A (rU d),.int .i64 airline,.int .i64 tables,.int .i64 slots,.A (Aq o)] (L0 d airline tables slots o) (.int .i64):=by
 refine ci 125 5 func25 (L0.eq_1 _ _ _ _ _) fun h0 ids hI hF=>Y<|B7 0 (.A (rU d)) fun g=>B7 1 (.A (Aq o)) fun g1=>Ad (.I 0)<|O<|Ar ?_
 refine Ac<|Y<|Aa 3 [] [(22,.B (decide (tables<1)))]<|B5 3 22 25 [1,2,3,5,9] (.B ((decide (tables<1))||(decide (tables > 8)))) J ?_ (fun hb1 hJ=>?_) (fun hb1 hJ=>?_)
 ·refine Ap (.B ((decide (tables<1))||(decide (tables > 8))))<|B5 3 26 29 [1,2,3,5,9] (.B (((decide (tables<1))||(decide (tables > 8)))||(decide (slots<1)))) J ?_ (fun hb3 hJ1=>?_) (fun hb3 hJ1=>?_)
  ·refine Ap (.B (((decide (tables<1))||(decide (tables > 8)))||(decide (slots<1))))<|B5 3 30 33 [1,2,3,5,9] (.B ((((decide (tables<1))||(decide (tables > 8)))||(decide (slots<1)))||(decide (slots > 8)))) J ?_ (fun hb5 hJ2=>?_) (fun hb5 hJ2=>?_)
   ·refine Ap (.B ((((decide (tables<1))||(decide (tables > 8)))||(decide (slots<1)))||(decide (slots > 8))))<|B5 5 34 39 [2,3,5,9] (.B (((((decide (tables<1))||(decide (tables > 8)))||(decide (slots<1)))||(decide (slots > 8)))||(o.Airline != airline))) J ?_ (fun hb7 hJ3=>?_) (fun hb7 hJ3=>?_)
    ·refine Ap (.B (((((decide (tables<1))||(decide (tables > 8)))||(decide (slots<1)))||(decide (slots > 8)))||(o.Airline != airline)))<|J1 7 40 47 [2,3,5,9] .bool J ?_ (fun hb9 hJ4=>?_) (fun hb9 hJ4=>?_)
     ·intro b
      refine Ap (.B b)<|B5 4 48 52 [2,3,5,9] (.B (b||(decide (o.Slot<0)))) J ?_ (fun hb11 hJ5=>?_) (fun hb11 hJ5=>?_)
      ·refine Ap (.B (b||(decide (o.Slot<0))))<|B5 5 53 58 [2,3,5,9] (.B ((b||(decide (o.Slot<0)))||(decide (o.Slot≥slots)))) J ?_ (fun hb13 hJ6=>?_) (fun hb13 hJ6=>?_)
       ·refine Ap (.B ((b||(decide (o.Slot<0)))||(decide (o.Slot≥slots))))<|J1 5 59 64 [2,3,5,9] .bool J ?_ (fun hb15 hJ7=>?_) (fun hb15 hJ7=>?_)
        ·intro b1
         refine O<|A8 J (fun hc=>?_) (fun hc=>?_)
         ·refine Y<|Ad (.I 360)<|O<|rt
         refine Ai<|Y<|Aa 10 [1,1,1,1,1] [(74,.I o.Cost),(72,.I o.Slot),(70,.I o.Flight),(68,.I o.Airline),(66,.A (rU o.Salt))]<|Dm (e:=rJ) (L:=[o.Airline,o.Flight,o.Slot,o.Cost]) (st:=1) (rows:=[[.I o.Airline],[.I o.Flight],[.I o.Slot],[.I o.Cost]]) J A6 Bh J J J J J (.cons (RowSim.refl _) (.cons (RowSim.refl _) (.cons (RowSim.refl _) (.cons (RowSim.refl _) .nil)))) (fun x=>Bl x) J J<|oc ((Vd o.Salt [o.Airline,o.Flight,o.Slot,o.Cost]) _) fun r2 _=>Et (j:=2) (row:=(rU (B0 32 0))) hI J J J J Bm (Hr (n:=32) (e:=(rI .u8)) (E:=(fun x:Int=>(AV.int .u8 x))) (fun _=>J) _).symm ((Cw (fun x=>Bl x) J) _) fun g2=>B8 (Ea (v:=(.A (rU r2))) hI J J J Bm J J J (((Cw (fun x=>Bl x) J) _).1) J)<|O<|Ar ?_
         refine Ac<|Y<|Aa 2 [1] [(78,.M o.Path)]<|Bo o.Path<|Aa 2 [] [(81,.I 0),(80,.I (wi ((o.Path.length:Int)+1)))]<|O<|Cu (π:=Unit) (fun _=>L6) (fun _=>fun fr h=>fr=Ae []∧h=hp h0 ids [none,none,none,none,none]) ?_ fun hJ10=>?_
         ·rintro _ fr h ⟨rfl,rfl⟩
          refine Ag (L6.eq_1)<|Y<|Ad (.I 360)<|O<|rt
         refine An<|B4 [2,3,5,9,11,80,81] ?_
         refine Ga (P:=Tryz.prog) (fun x=>Jl d tables slots o r2 x) ((alt (fun _=>L6) (fun r=>.ok r)):(Unit ⊕ Int)→R Int) (fun x=>fun fr h=>fr=Ae [(2,.I tables),(3,.I slots),(5,.q ids 0 g),(9,.q ids 1 g1),(11,.q ids 2 g2),(80,.I (wi ((o.Path.length:Int)+1))),(81,.I x)]∧h=hp h0 ids [Ao g 32 [rU d],Ao g1 37 [Aq o],Ao g2 32 [rU r2],none,none]) 0 ?_ ?_
         ·exact⟨J,J⟩
         rintro vW hW x fr h ⟨rfl,rfl⟩
         refine Ag (m':=Jl d tables slots o r2 x) J (Ag (Jl.eq_1 _ _ _ _ _ _) ?_)
         refine Y<|Ax (.B (decide (x<(wi ((o.Path.length:Int)+1)))))<|O<|Ac<|Cs J (fun hc1=>?_) (fun hc1=>?_)
         ·refine Ai<|Ac<|An<|Y<|Aa 2 [] [(12,.I x)]<|O<|Ac<|By [0,1,0,0,15,0,32,0,224,31,1023] [pR 0,pR 1,pR 2,pR 3,pR 4,pR 5,pR 6,pR 7,pR 8,pR 9,pR 10] Dr<|Av [1] [(84,.ptr (ix ids 1) g1 0 36),(85,.M o.Path),(86,.I x),(87,.I x)]<|Df fun hs=>A2 (slx0 32 (List.map rU (o.Path.take (Int.toNat x)))) J J (Bz (Aie (e:=rU) (L:=o.Path) Cy Bm J hs))<|Av [1] [(89,.ptr (ix ids 1) g1 0 36),(90,.M o.Path),(91,.I x)]<|Df fun hs1=>A2 (.M (o.Path.drop (Int.toNat x))) J J (Bz (I7 Cy Bm J hs1))<|Av [] [(13,slx0 32 (List.map rU (o.Path.take (Int.toNat x)))),(14,.M (o.Path.drop (Int.toNat x)))]<|Be<|Afy [(2,.I tables),(3,.I slots),(5,.q ids 0 g),(9,.q ids 1 g1),(11,.q ids 2 g2),(12,.I x),(13,.M (o.Path.take (Int.toNat x))),(14,.M (o.Path.drop (Int.toNat x))),(80,.I (wi ((o.Path.length:Int)+1))),(81,.I x),(82,.B (decide (x<(wi ((o.Path.length:Int)+1))))),(84,.ptr (ix ids 1) g1 0 36),(85,.M o.Path),(86,.I x),(87,.I x),(88,.M (o.Path.take (Int.toNat x))),(89,.ptr (ix ids 1) g1 0 36),(90,.M o.Path),(91,.I x),(92,.M (o.Path.drop (Int.toNat x)))] (Gx.refl _) (.s (.s (.s (.s (.s (.s (.cons Agl (.s (.s (.s (.s (.s (.s (.s (.s (.cons Agl (.s (.s .s2)))))))))))))))))) J J<|Y<|Aa 5 [2,1] [(98,.M (o.Path.take (Int.toNat x))),(97,.I slots),(96,.I o.Slot),(94,.A (rU r2))] ?_
          refine oc ((Xo r2 o.Slot slots (o.Path.take (Int.toNat x))) _) fun r3 _=>Aa 3 [] [(101,.I r3.2),(100,.A (rU r3.1))]<|Et (j:=3) (row:=(rU (B0 32 0))) hI J J J J Bm (Hr (n:=32) (e:=(rI .u8)) (E:=(fun x:Int=>(AV.int .u8 x))) (fun _=>J) _).symm ((Cw (fun x=>Bl x) J) _) fun g3=>B8 (Ea (v:=(.A (rU r3.1))) hI J J J Bm J J J (((Cw (fun x=>Bl x) J) _).1) J)<|Ad (.I r3.2)<|O<|Ar ?_
          refine Ac<|Y<|Aa 2 [] [(103,.B (r3.2 != 0))]<|O<|A8 J (fun hc2=>?_) (fun hc2=>?_)
          ·refine Bd J<|Ah<|Aa 2 [] [(81,.I (wi (x+1)))]<|O<|Cb 8<|A3 (E7 (hW (wi (x+1)) _ _ ⟨J,J⟩))
          refine Ai<|Y<|Aa 2 [] [(105,.I 0),(104,.I tables)]<|O<|Cu (π:=Unit) (fun _=>Hl x) (fun _=>fun fr h=>fr=Ae [(2,.I tables),(3,.I slots),(5,.q ids 0 g),(9,.q ids 1 g1),(11,.q ids 2 g2),(80,.I (wi ((o.Path.length:Int)+1))),(81,.I x)]∧h=hp h0 ids [Ao g 32 [rU d],Ao g1 37 [Aq o],Ao g2 32 [rU r2],none,none]) ?_ fun hJ9=>?_
          ·rintro _ fr h ⟨rfl,rfl⟩
           refine Ag (Hl.eq_1 _)<|Ay<|Ah<|Aa 2 [] [(81,.I (wi (x+1)))]<|O<|A3 (E7 (hW (wi (x+1)) _ _ ⟨J,J⟩))
          refine An<|B4 [2,3,5,9,11,14,15,80,81,104,105] ?_
          refine Ga (P:=Tryz.prog) (fun x1=>Jq d tables o x r3 x1) ((alt (fun _=>Hl x) (fun r=>.ok (.inr (.inr (r))))):(Unit ⊕ Int)→R (Int ⊕ (Unit ⊕ Int))) (fun x1=>fun fr h=>fr=Ae [(2,.I tables),(3,.I slots),(5,.q ids 0 g),(9,.q ids 1 g1),(11,.q ids 2 g2),(14,.M (o.Path.drop (Int.toNat x))),(15,.q ids 3 g3),(80,.I (wi ((o.Path.length:Int)+1))),(81,.I x),(104,.I tables),(105,.I x1)]∧h=hp h0 ids [Ao g 32 [rU d],Ao g1 37 [Aq o],Ao g2 32 [rU r2],Ao g3 32 [rU r3.1],none]) 0 ?_ ?_
          ·exact⟨J,J⟩
          rintro vW1 hW1 x1 fr h ⟨rfl,rfl⟩
          refine Ag (m':=Jq d tables o x r3 x1) J (Ag (Jq.eq_1 _ _ _ _ _ _) ?_)
          refine Y<|Ax (.B (decide (x1<tables)))<|O<|Ac<|Cs J (fun hc3=>?_) (fun hc3=>?_)
          ·refine Ai<|Ac<|An<|Y<|Aa 2 [] [(17,.I x1)]<|O<|Y<|Aa 4 [3] [(112,.M (o.Path.drop (Int.toNat x))),(111,.I tables),(110,.I x1),(109,.A (rU r3.1))]<|oc ((Xo r3.1 x1 tables (o.Path.drop (Int.toNat x))) _) fun r4 _=>Aa 3 [] [(115,.I r4.2),(114,.A (rU r4.1))]<|Et (j:=4) (row:=(rU (B0 32 0))) hI J J J J Bm (Hr (n:=32) (e:=(rI .u8)) (E:=(fun x:Int=>(AV.int .u8 x))) (fun _=>J) _).symm ((Cw (fun x=>Bl x) J) _) fun g4=>B8 (Ea (v:=(.A (rU r4.1))) hI J J J Bm J J J (((Cw (fun x=>Bl x) J) _).1) J)<|Ad (.I r4.2)<|O<|Ar ?_
           refine Y<|Aa 3 [] [(118,.B (r4.2==0))]<|B5 4 118 122 [2,3,5,9,11,14,15,80,81,104,105] (.B ((r4.2==0)&&(r4.1==d))) J ?_ (fun hb17 hJ8=>?_) (fun hb17 hJ8=>?_)
           ·refine O<|A8 J (fun hc4=>?_) (fun hc4=>?_)
            ·refine Y<|Ad (.I 0)<|O<|Eb<|C9<|Eb<|C9<|rt
            refine Ai<|Ay<|Ah<|Aa 2 [] [(105,.I (wi (x1+1)))]<|O<|Cb 16<|A3 (E7 (hW1 (wi (x1+1)) _ _ ⟨J,J⟩))
           ·refine Aa 2 [4,0] [(120,.A (rU d)),(119,.A (rU r4.1))]<|Cf (tj:=118) (.B (r4.1==d)) J J J (Bj (Vg J J) J (T9 Bm Fe))<|Ax (.B (r4.1==d))<|A5 hJ8 (.r4 (.r4 (.r2 (.r (.cons (Ka hb17) .nil)))))
           refine Aa 4 [] [(122,.B false),(121,.und),(120,.und),(119,.und)]<|A5 hJ8 (.r4 (.r4 (.r2 (.r (.cons (Kc hb17) .nil)))))
          refine Bd J<|Eb<|U4<|Cb 8<|A3 (hJ9 () _ _ ⟨J,J⟩)
         refine Bd J<|Eb<|U4<|Cb 7<|A3 (hJ10 () _ _ ⟨J,J⟩)
        ·refine Aa 5 [] [(64,.B true)]<|Dl (hJ7 true)
        refine Aa 2 [1] [(61,.I o.Cost)]<|oc ((U3 o.Cost) _) fun r1 _=>Aa 2 [] [(64,.B (!r1))]<|Dl (hJ7 (!r1))
       ·refine Aa 5 [] [(58,.B true)]<|A5 hJ6 (.r4 (.cons (Du hb13) .nil))
       refine Aa 5 [1] [(58,.B (decide (o.Slot≥slots)))]<|A5 hJ6 (.r4 (.cons (Dw hb13) .nil))
      ·refine Aa 4 [] [(52,.B true)]<|A5 hJ5 (.r4 (.cons (Du hb11) .nil))
      refine Aa 4 [1] [(52,.B (decide (o.Slot<0)))]<|A5 hJ5 (.r4 (.cons (Dw hb11) .nil))
     ·refine Aa 7 [] [(47,.B true)]<|Dl (hJ4 true)
     refine Aa 4 [1,1] [(44,.I o.Flight),(42,.I o.Airline)]<|oc ((T4 o.Airline o.Flight) _) fun r _=>Aa 2 [] [(47,.B (!r))]<|Dl (hJ4 (!r))
    ·refine Aa 5 [] [(39,.B true)]<|A5 hJ3 (.r4 (.cons (Du hb7) .nil))
    refine Aa 5 [1] [(39,.B (o.Airline != airline))]<|A5 hJ3 (.r4 (.cons (Dw hb7) .nil))
   ·refine Aa 3 [] [(33,.B true)]<|A5 hJ2 (.r4 (.r (.cons (Du hb5) .nil)))
   refine Aa 3 [] [(33,.B (decide (slots > 8)))]<|A5 hJ2 (.r4 (.r (.cons (Dw hb5) .nil)))
  ·refine Aa 3 [] [(29,.B true)]<|A5 hJ1 (.r4 (.r (.cons (Du hb3) .nil)))
  refine Aa 3 [] [(29,.B (decide (slots<1)))]<|A5 hJ1 (.r4 (.r (.cons (Dw hb3) .nil)))
 ·refine Aa 3 [] [(25,.B true)]<|A5 hJ (.r4 (.r (.cons (Du hb1) .nil)))
 refine Aa 3 [] [(25,.B (decide (tables > 8)))]<|A5 hJ (.r4 (.r (.cons (Dw hb1) .nil)))
theorem Rs (c o):CP Tryz.prog 54 [.A (Aj c),.A (Aq o)] (I3 c o) (.int .i64):=by
 refine ci 49 3 func54 (I3.eq_1 _ _) fun h0 ids hI hF=>Y<|B7 0 (.A (Aj c)) fun g=>B7 1 (.A (Aq o)) fun g1=>Ad (.I 0)<|O<|Ar ?_
 refine Y<|Aa 4 [0,1] [(11,.I o.Flight),(9,.K c.Flights)]<|oc ((Na c.Flights o.Flight) _) fun i _=>Ad (.I i)<|O<|Ac<|Ac<|Cu (fun x=>L1 c o x) (fun x=>fun fr h=>fr=Ae [(2,.q ids 0 g),(3,.q ids 1 g1),(24,.B x)]∧h=hp h0 ids [Ao g 8 [Aj c],Ao g1 37 [Aq o],none]) ?_ fun hJ=>?_
 ·rintro x fr h ⟨rfl,rfl⟩
  refine Ag (L1.eq_1 _ _ _)<|A8 J (fun hc=>?_) (fun hc=>?_)
  ·refine Y<|Ad (.I 400)<|O<|rt
  refine Ai<|Y<|Aa 2 [0] [(27,.K c.Owners)]<|D5 [2] hI J J (N3 c.Owners _ (ix ids 2) (by exact hI.sub' J J)) J J J J J J (fun v _=>Dn func54 hI) ?_
  rintro r _ _ _ ⟨g2,rfl,rfl⟩
  refine Hh [2] hI J J J ?_
  refine Ev<|Aa 5 [] [(7,.K r.1),(6,.map (ix ids 2) g2)]<|O<|Ar ?_
  refine Ac<|By [0,1,0,0,8,28,63,127,0,256,0,0,2048,7168,0,16384,0,131071,262143] [pR 0,pR 1,pR 2,pR 3,pR 4,pR 8,pR 9,pR 10,pR 11,pR 12,pR 13,pR 14,pR 15,pR 16,pE 5,pR 6,pR 7,pE 17,pR 18] Dr<|Av [0,1,1,1] [(31,.ptr (ix ids 0) g 0 5),(32,.M c.Commitments),(33,.K r.1),(34,.q ids 1 g1),(35,.I o.Airline),(39,.q ids 1 g1),(40,.I o.Airline),(41,.map (ix ids 2) g2),(42,.q ids 1 g1),(43,.I o.Airline)]<|A2 (.I (Option.getD (B3 r.2 o.Airline) 0)) J J (Qa (Pe (eK:=(fun x:Int=>(AV.I x))) (eV:=(fun x:Int=>(AV.I x))) (zv:=0) (Pl (hI.at J J)) Z4 Bh Bh Fs J).1)<|Av [0,1] [(45,.ptr (ix ids 0) g 0 2),(46,.I c.Slots),(47,.A (Aq o))]<|Jb ((Na r.1 o.Airline) _) (hpd:=(Af J (Bg (A7 hI J J J Hm J)) (Af J (Bg (A7 hI J J J Bh J)) (Af J (H3 (Ng 0 2 2 Ed J Bh J)) (Af J (Qa (Pe (eK:=(fun x:Int=>(AV.I x))) (eV:=(fun x:Int=>(AV.I x))) (zv:=0) (Pl (hI.at J J)) Z4 Bh Bh Fs J).1) (Af J (Bg (A7 hI J J J Bh J)) (Af J (H3 (Ng 0 0 0 Hm J Bh J)) (Af J Bb (Af J (Bg (A7 hI J J J Bh J)) (Af J (H3 (Ng 0 0 0 Hm J Bh J)) (Ho J (Gs J (Af J (Bg (A7 hI J J J Cy J)) (Af J (H3 (Ng 0 5 5 Ed J Cy J)) Dd)))))))))))))) fun r1 _=>?_
  refine Di fun a1 hz1 hx2=>A2 (.cp (rU a1) 0) J J (At (Ca Cy Bm J hz1 hx2))<|Av [] [(38,.A (rU a1))]<|Jb ((Zd a1 o.Airline (Option.getD (B3 r.2 o.Airline) 0) c.Slots o) _) fun r2 _=>?_
  refine Av [] [(4,.I r2)]<|Be<|rt
 refine By [0,1,3,7,15,7,63,127,7,263,1023,2047] [pR 0,pR 1,pR 2,pR 3,pR 4,pR 5,pR 6,pR 7,pR 8,pR 9,pR 10,pR 11] Dr<|Av [] [(13,.I i),(14,.B (decide (i<0))),(15,.B (decide (i<0)))]<|D9 (fun hb=>?_) (fun hb=>?_)
 ·refine Cl (t:=15) hb J<|Av [] [(16,.und),(17,.und),(18,.und),(19,.und),(20,.und),(21,.und),(22,.und),(23,.und),(24,.B true)]<|Be<|A3 (hJ true _ _ ⟨J,J⟩)
 refine Cl (t:=15) hb J<|Av [0] [(16,.ptr (ix ids 0) g 0 3),(17,.K c.Owners),(18,.I i)]<|Di fun a hz hx1=>Fi (tj:=15) (.cp [.I a] 0) J J J J (At (Ca A6 Bh J hz hx1))<|Av [1] [(20,.I a),(21,.q ids 1 g1),(22,.I o.Airline),(23,.B (a != o.Airline)),(24,.B (a != o.Airline))]<|Be<|A3 (hJ (a != o.Airline) _ _ ⟨J,J⟩)
end Go.Am
