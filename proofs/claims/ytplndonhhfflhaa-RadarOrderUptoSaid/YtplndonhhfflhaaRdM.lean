/- What the functions compute. Written by dc.py. -/
import Derived.Test.YtplndonhhfflhaaRdD
import Derived.Lib.Bytealg
import Derived.Lib.ItoaNum
import Derived.Lib.Join
import Derived.Lib.AtoiAll
namespace Go.Am
open Go
set_option maxRecDepth 100000
set_option linter.unusedSimpArgs false
set_option linter.unusedVariables false
noncomputable section

def radar_in (n : Int) (least : Int) (most : Int) : R Bool :=
  .ok ((decide (n ≥ least)) && (decide (n ≤ most)))


def cmp_isNaN_int (a : Int) : R Bool :=
  .ok (a != a)


def cmp_Compare_int (a : Int) (y : Int) : R Int :=
  (cmp_isNaN_int a).bind fun xNaN =>
  (cmp_isNaN_int y).bind fun yNaN =>
  if xNaN then
(if yNaN then
(.ok 0)
else
(.ok (-1)))
else
(if yNaN then
(.ok 1)
else
(if a < y then
(.ok (-1))
else
(if a > y then
(.ok 1)
else
(.ok 0))))

def cmp_Or_int_b1 (a : Int) : R (Unit ⊕ Int) :=
  if (a != 0) then
(.ok (.inr (a)))
else
(.ok (.inl ()))

def cmp_Or_int (vals : (List Int)) : R Int :=
  (each (fun _ a => fun _ => cmp_Or_int_b1 a) 0 vals ()).bind (alt (fun _ => .ok 0) (fun r => .ok r))


def radar_status_compare (s : Status) (b : Status) : R Int :=
  (cmp_Compare_int s.Station b.Station).bind fun r =>
  (cmp_Compare_int s.From b.From).bind fun r1 =>
  (cmp_Or_int [r, r1]).bind fun r2 =>
  .ok r2


def radar_order (a : Status) (b : Status) : R Int :=
  (radar_status_compare a b).bind fun r =>
  .ok r

def radar_Check_j1 (x1 : Bool) : R (Unit ⊕ Int) :=
  if x1 then
(.ok (.inr (260)))
else
(.ok (.inl ()))

def radar_Check_b1 (many : Int) (l : (List Status)) (j : Nat) (a : Status) : R (Unit ⊕ Int) :=
  (radar_in a.Station 0 (IntKind.wrap .i64 (many - 1))).bind fun r1 =>
  if (!r1) then
(radar_Check_j1 true)
else
((radar_in a.From 0 1439).bind fun r2 =>
  if (!r2) then
(radar_Check_j1 true)
else
(if (decide ((j : Int) > 0)) then
((idx l (IntKind.wrap .i64 ((j : Int) - 1))).bind fun a1 =>
  (radar_order a1 a).bind fun r3 =>
  radar_Check_j1 (decide (r3 ≥ 0)))
else
(radar_Check_j1 false)))

def radar_Check (many : Int) (l : (List Status)) : R Int :=
  (radar_in many 0 4).bind fun r =>
  if r then
((each (fun j a => fun _ => radar_Check_b1 many l j a) 0 l ()).bind (alt (fun _ => .ok 0) (fun r => .ok r)))
else
(.ok 260)

def slices_Clone_Status (s : List Status) : R (List Status) := if s.length * 24 ≤ LIM then .ok s else .bad

def slices_BinarySearchFunc_Status_order_b1 (a : (List Status)) (target : Status) (i : Int) (j : Int) : R ((Int × Int) ⊕ Int) :=
  if i < j then
((idx a (IntKind.wrap .i64 (Int.fdiv (IntKind.wrap .u64 (IntKind.wrap .i64 (i + j))) 2))).bind fun a1 =>
  (radar_order a1 target).bind fun r =>
  if r < 0 then
(.ok (.inl ((IntKind.wrap .i64 ((IntKind.wrap .i64 (Int.fdiv (IntKind.wrap .u64 (IntKind.wrap .i64 (i + j))) 2)) + 1)), j)))
else
(.ok (.inl (i, (IntKind.wrap .i64 (Int.fdiv (IntKind.wrap .u64 (IntKind.wrap .i64 (i + j))) 2))))))
else
(.ok (.inr (i)))

def slices_BinarySearchFunc_Status_order_j1 (a : (List Status)) (target : Status) (i1 : Int) : R (Int × Bool) :=
  if (decide (i1 < (a.length : Int))) then
((idx a i1).bind fun a2 =>
  (radar_order a2 target).bind fun r1 =>
  .ok (i1, (r1 == 0)))
else
(.ok (i1, false))

def slices_BinarySearchFunc_Status_order (a : (List Status)) (target : Status) : R (Int × Bool) :=
  (loop (un2 fun i j => slices_BinarySearchFunc_Status_order_b1 a target i j) (0, (a.length : Int))).bind (fun i1 => slices_BinarySearchFunc_Status_order_j1 a target i1)

def slices_Insert_25 (i : Int) (l : List Status) (l2 : List Status) : R (List Status) := slicesInsert 24 l i l2


def radar_Add (many : Int) (l : (List Status)) (s : Status) : R ((List Status) × Int) :=
  (radar_Check many l).bind fun e =>
  if (e != 0) then
(.ok ([], e))
else
((radar_Check many [s]).bind fun e1 =>
  if (e1 != 0) then
(.ok ([], e1))
else
((slices_Clone_Status l).bind fun r =>
  (slices_BinarySearchFunc_Status_order r s).bind fun r1 =>
  if r1.2 then
((idx r r1.1).bind fun a =>
  .ok ((r.set r1.1.toNat s), 0))
else
((slices_Insert_25 r1.1 r [s]).bind fun r2 =>
  .ok (r2, 0))))


def reports_within_c1 (a : T74) : R Bool :=
  .ok ((decide (a.fN < a.fLeast)) || (decide (a.fN > a.fMost)))

def slices_IndexFunc_limit_c1_b1 (j : Nat) (a : T74) : R (Unit ⊕ Int) :=
  (reports_within_c1 a).bind fun r =>
  if r then
(.ok (.inr ((j : Int))))
else
(.ok (.inl ()))

def slices_IndexFunc_limit_c1 (s : (List T74)) : R Int :=
  (each (fun j a => fun _ => slices_IndexFunc_limit_c1_b1 j a) 0 s ()).bind (alt (fun _ => .ok (-1)) (fun r => .ok r))


def slices_ContainsFunc_limit_c1 (s : (List T74)) : R Bool :=
  (slices_IndexFunc_limit_c1 s).bind fun r =>
  .ok (decide (r ≥ 0))


def reports_within (l : (List T74)) : R Bool :=
  (slices_ContainsFunc_limit_c1 l).bind fun r =>
  .ok (!r)

def reports_Station_b1 (volumes : Int) (a : Int) (last : Int) : R (Int ⊕ Int) :=
  if ((decide (a ≤ last)) || (decide (a ≥ volumes))) then
(.ok (.inr (220)))
else
(.ok (.inl a))

def reports_Station (volumes : Int) (s : Station) : R Int :=
  (reports_within [({ fN := volumes, fLeast := 1, fMost := 64 } : T74), ({ fN := s.Shift, fLeast := 0, fMost := 3 } : T74), ({ fN := s.Faults, fLeast := 0, fMost := 3 } : T74)]).bind fun r =>
  if ((!r) || ((s.Volumes.length : Int) == 0)) then
(.ok 220)
else
((each (fun _ a => fun last => reports_Station_b1 volumes a last) 0 s.Volumes (-1)).bind (alt (fun last => .ok 0) (fun r => .ok r)))

def radar_Works_b1 (station : Int) (minute : Int) (a : Status) (ok : Bool) (vfrom : Int) (met : Bool) : R (Bool × Int × Bool) :=
  if (((a.Station == station) && (decide (a.From ≤ minute))) && ((!met) || (decide (a.From ≥ vfrom)))) then
(.ok (a.Works, a.From, true))
else
(.ok (ok, vfrom, met))

def radar_Works (l : (List Status)) (station : Int) (minute : Int) : R Bool :=
  (eachS (fun _ a => un3 fun ok vfrom met => radar_Works_b1 station minute a ok vfrom met) 0 l (true, 0, false)).bind ((un3 fun ok vfrom met => .ok ok))


def radar_Seen_c1 (v1 : Int) (l : (List Bool)) : R Unit :=
  (idx l v1).bind fun a =>
  .ok ()

def radar_Seen_b1 (volumes : Int) (a : Station) : R (Unit ⊕ ((List Bool) × Int)) :=
  (reports_Station volumes a).bind fun e =>
  if (e != 0) then
(.ok (.inr (([], e))))
else
(.ok (.inl ()))

def radar_Seen_b2 (a2 : Int) (l2 : (List Bool)) : R (List Bool) :=
  (radar_Seen_c1 a2 l2).bind fun _ =>
  .ok (l2.set a2.toNat true)

def radar_Seen_b3 (l : (List Status)) (minute : Int) (j1 : Nat) (a1 : Station) (l1 : (List Bool)) : R (List Bool) :=
  (radar_Works l (j1 : Int) minute).bind fun r2 =>
  if r2 then
((eachS (fun _ a2 => fun l2 => radar_Seen_b2 a2 l2) 0 a1.Volumes l1).bind ((fun l2 => .ok l2)))
else
(.ok l1)

def radar_Seen (volumes : Int) (s : (List Station)) (l : (List Status)) (minute : Int) : R ((List Bool) × Int) :=
  (radar_in volumes 1 64).bind fun r =>
  (if ((!r) || (decide ((s.length : Int) > 4))) then R.ok true else (radar_in minute 0 1439).bind fun r1 =>
  R.ok (!r1)).bind (fun (b : Bool) => if b then
(.ok ([], 260))
else
((each (fun _ a => fun _ => radar_Seen_b1 volumes a) 0 s ()).bind (alt (fun _ => (radar_Check (s.length : Int) l).bind fun e1 =>
  if (e1 != 0) then
(.ok ([], e1))
else
(if (0 : Int) ≤ volumes ∧ (volumes : Int) ≤ volumes ∧ (Int.toNat volumes) * 1 ≤ LIM then
  (eachS (fun j1 a1 => fun l1 => radar_Seen_b3 l minute j1 a1 l1) 0 s (List.replicate (Int.toNat volumes) false)).bind ((fun l1 => .ok (l1, 0))) else .bad)) (fun r => .ok r))))

def slices_Sort_40 (l : List Int) : R Unit := slicesSort l

def slices_Compact_41 (l : List Int) : R Unit := slicesCompact l

def radar_changes_2_b1 (a : Status) (l1 : (List Int)) : R (List Int) :=
  if ((decide (a.From > 0)) && (decide (a.From < 1440))) then
(if (l1.length + [a.From].length) * 8 ≤ LIM then
  .ok (l1 ++ [a.From]) else .bad)
else
(.ok l1)

def radar_changes_2 (l : (List Status)) : R (List Int) :=
  (eachS (fun _ a => fun l1 => radar_changes_2_b1 a l1) 0 l [0, 1440]).bind ((fun l1 => (slices_Sort_40 l1).bind fun _ =>
  (slices_Compact_41 (sortI l1)).bind fun _ =>
  .ok (compactI (sortI l1))))

section
variable {σ_ : Type}
def radar_changes_c1_b1 (b : (List Int)) (b_ : Int → Int → σ_ → R σ_) (i : Int) (s : σ_) : R ((Int × σ_) ⊕ σ_) :=
  if i < (b.length : Int) then
((idx b (IntKind.wrap .i64 (i - 1))).bind fun a =>
  (idx b i).bind fun a1 =>
  (b_ a a1 s).bind fun s1 =>
  .ok (.inl ((IntKind.wrap .i64 (i + 1)), s1)))
else
(.ok (.inr (s)))

def radar_changes_c1_j1 (s2 : σ_) : R σ_ :=
  .ok s2

def radar_changes_c1 (b : (List Int)) (b_ : Int → Int → σ_ → R σ_) (s_ : σ_) : R σ_ :=
  (loop (un2 fun i s => radar_changes_c1_b1 b b_ i s) (1, s_)).bind (fun s2 => radar_changes_c1_j1 s2)
end

def slices_Index_int_b1 (v : Int) (j : Nat) (a : Int) : R (Unit ⊕ Int) :=
  if (v == a) then
(.ok (.inr ((j : Int))))
else
(.ok (.inl ()))

def slices_Index_int (s : (List Int)) (v : Int) : R Int :=
  (each (fun j a => fun _ => slices_Index_int_b1 v j a) 0 s ()).bind (alt (fun _ => .ok (-1)) (fun r => .ok r))


def slices_Contains_int (s : (List Int)) (v : Int) : R Bool :=
  (slices_Index_int s v).bind fun r =>
  .ok (decide (r ≥ 0))

def radar_Lost_b1 (volume : Int) (l : (List Status)) (a : Int) (j : Nat) (a2 : Station) (seen : Bool) : R Bool :=
  (if seen then R.ok true else (slices_Contains_int a2.Volumes volume).bind fun r1 =>
  (if r1 then (radar_Works l (j : Int) a).bind fun r2 =>
  R.ok r2 else R.ok false).bind (fun (b1 : Bool) => R.ok b1)).bind (fun (b : Bool) => .ok b)

def radar_Lost_b2 (volume : Int) (s : (List Station)) (l : (List Status)) (a : Int) (a1 : Int) (l1 : (List Span)) : R (List Span) :=
  (eachS (fun j a2 => fun seen => radar_Lost_b1 volume l a j a2 seen) 0 s false).bind ((fun seen => if seen then
(.ok l1)
else
((if (decide ((l1.length : Int) > 0)) then (idx l1 (IntKind.wrap .i64 ((l1.length : Int) - 1))).bind fun a3 =>
  R.ok (a3.To == a) else R.ok false).bind (fun (b2 : Bool) => if b2 then
((idx l1 (IntKind.wrap .i64 ((l1.length : Int) - 1))).bind fun a4 =>
  .ok (l1.set (IntKind.wrap .i64 ((l1.length : Int) - 1)).toNat { a4 with To := a1 }))
else
(if (l1.length + [({ From := a, To := a1 } : Span)].length) * 16 ≤ LIM then
  .ok (l1 ++ [({ From := a, To := a1 } : Span)]) else .bad)))))

def radar_Lost (volume : Int) (s : (List Station)) (l : (List Status)) : R (List Span) :=
  (radar_changes_2 l).bind fun r =>
  (radar_changes_c1 r (fun a a1 z_ => R.np ((fun l1 => radar_Lost_b2 volume s l a a1 l1) z_)) []).bind (fun l1 => .ok l1)

def ref26_SameSeen_b1 (b : (List Bool)) (j : Nat) (a1 : Bool) : R (Unit ⊕ Bool) :=
  (idx b (j : Int)).bind fun a2 =>
  if (a1 == a2) then
(.ok (.inl ()))
else
(.ok (.inr (false)))

def ref26_SameSeen (a : (List Bool)) (b : (List Bool)) : R Bool :=
  if ((a.length : Int) != (b.length : Int)) then
(.ok false)
else
((each (fun j a1 => fun _ => ref26_SameSeen_b1 b j a1) 0 a ()).bind (alt (fun _ => .ok true) (fun r => .ok r)))

def ref05_Same_b1 (b : (List Span)) (j : Nat) (a1 : Span) : R (Unit ⊕ Bool) :=
  (idx b (j : Int)).bind fun a2 =>
  if ((a1.From == a2.From) && (a1.To == a2.To)) then
(.ok (.inl ()))
else
(.ok (.inr (false)))

def ref05_Same (a : (List Span)) (b : (List Span)) : R Bool :=
  if ((a.length : Int) != (b.length : Int)) then
(.ok false)
else
((each (fun j a1 => fun _ => ref05_Same_b1 b j a1) 0 a ()).bind (alt (fun _ => .ok true) (fun r => .ok r)))


def law26_sane : R Bool :=
  (radar_Add 1 [] ({ Station := 0, From := 60, Works := false } : Status)).bind fun r =>
  (radar_Add 1 r.1 ({ Station := 0, From := 100, Works := true } : Status)).bind fun r1 =>
  (radar_Add 1 r1.1 ({ Station := 0, From := 60, Works := true } : Status)).bind fun r2 =>
  (radar_Seen 2 [({ Volumes := [0], Shift := 0, Faults := 0 } : Station)] r1.1 59).bind fun r3 =>
  (radar_Seen 2 [({ Volumes := [0], Shift := 0, Faults := 0 } : Station)] r1.1 60).bind fun r4 =>
  (radar_Seen 1 [] [] 0).bind fun r5 =>
  (radar_Seen 1 [({ Volumes := [0], Shift := 0, Faults := 0 } : Station)] [] 1440).bind fun r6 =>
  (radar_Lost 0 [({ Volumes := [0], Shift := 0, Faults := 0 } : Station)] r1.1).bind fun r7 =>
  (if (((((r.2 == 0) && (r1.2 == 0)) && ((r1.1.length : Int) == 2)) && (r2.2 == 0)) && ((r2.1.length : Int) == 2)) then (idx r2.1 0).bind fun a =>
  R.ok a.Works else R.ok false).bind (fun (b : Bool) => (if (b && (r3.2 == 0)) then (ref26_SameSeen r3.1 [true, false]).bind fun r8 =>
  R.ok r8 else R.ok false).bind (fun (b1 : Bool) => (if (b1 && (r4.2 == 0)) then (ref26_SameSeen r4.1 [false, false]).bind fun r9 =>
  R.ok r9 else R.ok false).bind (fun (b2 : Bool) => (if (b2 && (r5.2 == 0)) then (ref26_SameSeen r5.1 [false]).bind fun r10 =>
  R.ok r10 else R.ok false).bind (fun (b3 : Bool) => (if (b3 && (r6.2 == 260)) then (ref05_Same r7 [({ From := 60, To := 100 } : Span)]).bind fun r11 =>
  R.ok r11 else R.ok false).bind (fun (b4 : Bool) => (if b4 then (radar_Lost 0 [] []).bind fun r12 =>
  (ref05_Same r12 [({ From := 0, To := 1440 } : Span)]).bind fun r13 =>
  R.ok r13 else R.ok false).bind (fun (b5 : Bool) => (if b5 then (radar_Works [] 0 5).bind fun r14 =>
  R.ok r14 else R.ok false).bind (fun (b6 : Bool) => (if b6 then (radar_Check 0 r1.1).bind fun r15 =>
  R.ok (r15 == 260) else R.ok false).bind (fun (b7 : Bool) => (if b7 then (radar_Check 1 r1.1).bind fun r16 =>
  R.ok (r16 == 0) else R.ok false).bind (fun (b8 : Bool) => .ok b8)))))))))

def ref26_Few_b1 (a : Station) : R (Unit ⊕ Bool) :=
  if (a.Volumes.length : Int) > 10 then
(.ok (.inr (false)))
else
(.ok (.inl ()))

def ref26_Few (s : (List Station)) (l : (List Status)) : R Bool :=
  (each (fun _ a => fun _ => ref26_Few_b1 a) 0 s ()).bind (alt (fun _ => .ok ((decide ((s.length : Int) ≤ 6)) && (decide ((l.length : Int) ≤ 12)))) (fun r => .ok r))


def ref26_in (n : Int) (least : Int) (most : Int) : R Bool :=
  .ok ((decide (n ≥ least)) && (decide (n ≤ most)))


def ref26_before (a : Status) (b : Status) : R Bool :=
  .ok ((decide (a.Station < b.Station)) || ((a.Station == b.Station) && (decide (a.From < b.From))))

def ref26_Check_j1 (x : Bool) : R (Unit ⊕ Int) :=
  if x then
(.ok (.inr (260)))
else
(.ok (.inl ()))

def ref26_Check_b1 (many : Int) (l : (List Status)) (j : Nat) (a : Status) : R (Unit ⊕ Int) :=
  (ref26_in a.Station 0 (IntKind.wrap .i64 (many - 1))).bind fun r1 =>
  if (!r1) then
(ref26_Check_j1 true)
else
((ref26_in a.From 0 1439).bind fun r2 =>
  if (!r2) then
(ref26_Check_j1 true)
else
(if (decide ((j : Int) > 0)) then
((idx l (IntKind.wrap .i64 ((j : Int) - 1))).bind fun a1 =>
  (ref26_before a1 a).bind fun r3 =>
  ref26_Check_j1 (!r3))
else
(ref26_Check_j1 false)))

def ref26_Check (many : Int) (l : (List Status)) : R Int :=
  (ref26_in many 0 4).bind fun r =>
  if r then
((each (fun j a => fun _ => ref26_Check_b1 many l j a) 0 l ()).bind (alt (fun _ => .ok 0) (fun r => .ok r)))
else
(.ok 260)

def ref26_Add_j1 (n : Int) (x : Bool) : R (Int ⊕ Int) :=
  if x then
(.ok (.inl (IntKind.wrap .i64 (n + 1))))
else
(.ok (.inr (n)))

def ref26_Add_b1 (l : (List Status)) (s : Status) (n : Int) : R (Int ⊕ Int) :=
  if (decide (n < (l.length : Int))) then
((idx l n).bind fun a =>
  (ref26_before a s).bind fun r2 =>
  ref26_Add_j1 n r2)
else
(ref26_Add_j1 n false)

def ref26_Add_j2 (x2 : (List Status)) : R ((List Status) × Int) :=
  .ok (x2, 0)

def ref26_Add_j3 (l : (List Status)) (s : Status) (n1 : Int) (rest : Int) : R ((List Status) × Int) :=
  if 0 ≤ n1 ∧ n1 ≤ (l.length : Int) then
  if 0 ≤ rest ∧ rest ≤ (l.length : Int) then
  if (l.take (Int.toNat n1)).length * 24 ≤ LIM then
  if ((l.take (Int.toNat n1)).length + [s].length) * 24 ≤ LIM then
  if (((l.take (Int.toNat n1)) ++ [s]).length + (l.drop (Int.toNat rest)).length) * 24 ≤ LIM then
  ref26_Add_j2 (((l.take (Int.toNat n1)) ++ [s]) ++ (l.drop (Int.toNat rest))) else .bad else .bad else .bad else .bad else .bad

def ref26_Add_j4 (l : (List Status)) (s : Status) (n1 : Int) (x1 : Bool) : R ((List Status) × Int) :=
  if x1 then
(ref26_Add_j3 l s n1 (IntKind.wrap .i64 (n1 + 1)))
else
(ref26_Add_j3 l s n1 n1)

def ref26_Add_j5 (l : (List Status)) (s : Status) (n1 : Int) : R ((List Status) × Int) :=
  if (decide (n1 < (l.length : Int))) then
((idx l n1).bind fun a1 =>
  (ref26_before s a1).bind fun r3 =>
  ref26_Add_j4 l s n1 (!r3))
else
(ref26_Add_j4 l s n1 false)

def ref26_Add (many : Int) (l : (List Status)) (s : Status) : R ((List Status) × Int) :=
  (ref26_Check many l).bind fun r =>
  (if (r != 0) then R.ok true else (ref26_Check many [s]).bind fun r1 =>
  R.ok (r1 != 0)).bind (fun (b : Bool) => if b then
(.ok ([], 260))
else
((loop (fun n => ref26_Add_b1 l s n) 0).bind (fun n1 => ref26_Add_j5 l s n1)))

def ref26_Same_b1 (b : (List Status)) (j : Nat) (a1 : Status) : R (Unit ⊕ Bool) :=
  (idx b (j : Int)).bind fun a2 =>
  if ((a1.Station == a2.Station) && ((a1.From == a2.From) && (a1.Works == a2.Works))) then
(.ok (.inl ()))
else
(.ok (.inr (false)))

def ref26_Same (a : (List Status)) (b : (List Status)) : R Bool :=
  if ((a.length : Int) != (b.length : Int)) then
(.ok false)
else
((each (fun j a1 => fun _ => ref26_Same_b1 b j a1) 0 a ()).bind (alt (fun _ => .ok true) (fun r => .ok r)))


def law26_RadarCheckSpec (many : Int) (l : (List Status)) (s : Status) : R Bool :=
  (law26_sane).bind fun r =>
  if r then
((ref26_Few [] l).bind fun r1 =>
  if r1 then
((radar_Add many l s).bind fun r2 =>
  (ref26_Add many l s).bind fun r3 =>
  (ref26_Same r2.1 r3.1).bind fun r4 =>
  (if (r4 && (r2.2 == r3.2)) then (radar_Check many l).bind fun r5 =>
  (ref26_Check many l).bind fun r6 =>
  R.ok (r5 == r6) else R.ok false).bind (fun (b : Bool) => .ok b))
else
(.ok true))
else
(.ok false)

def law26_RadarFrom_b1 (s : Status) (a : Status) (until1 : Int) : R Int :=
  if ((a.Station == s.Station) && (decide (a.From > s.From))) then
(.ok (if a.From < until1 then a.From else until1))
else
(.ok until1)

def law26_RadarFrom (many : Int) (l : (List Status)) (s : Status) (station : Int) (minute : Int) : R Bool :=
  (law26_sane).bind fun r =>
  if r then
((ref26_Few [] l).bind fun r1 =>
  if r1 then
((radar_Add many l s).bind fun r2 =>
  if (r2.2 != 0) then
(.ok ((r2.2 == 260) && ((r2.1.length : Int) == 0)))
else
((eachS (fun _ a => fun until1 => law26_RadarFrom_b1 s a until1) 0 l 1440).bind ((fun until1 => if (((station == s.Station) && (decide (minute ≥ s.From))) && ((decide (minute < until1)) || (until1 == 1440))) then
((radar_Works r2.1 station minute).bind fun r3 =>
  .ok (r3 == s.Works))
else
((radar_Works r2.1 station minute).bind fun r4 =>
  (radar_Works l station minute).bind fun r5 =>
  .ok (r4 == r5))))))
else
(.ok true))
else
(.ok false)

def radar_Seen_2_b1 (volumes : Int) (j : Nat) (x1 : (List Station)) : R ((List Station) ⊕ (Int × (List Bool) × (List Station))) :=
  (idx x1 (j : Int)).bind fun a1 =>
  (reports_Station volumes a1).bind fun e =>
  if (e != 0) then
(.ok (.inr ((e, [], x1))))
else
(.ok (.inl x1))

def radar_Seen_2_b2 (a4 : Int) (l3 : (List Bool)) : R (List Bool) :=
  (radar_Seen_c1 a4 l3).bind fun _ =>
  .ok (l3.set a4.toNat true)

def radar_Seen_2_b3 (l : (List Status)) (minute : Int) (j1 : Nat) (x3 : (List Station)) (l2 : (List Bool)) : R ((List Station) × (List Bool)) :=
  (idx x3 (j1 : Int)).bind fun a3 =>
  (radar_Works l (j1 : Int) minute).bind fun r2 =>
  if r2 then
((eachS (fun _ a4 => fun l3 => radar_Seen_2_b2 a4 l3) 0 a3.Volumes l2).bind ((fun l3 => .ok (x3, l3))))
else
(.ok (x3, l2))

def radar_Seen_2 (volumes : Int) (l : (List Status)) (minute : Int) (l1 : (List Station)) : R (Int × (List Bool) × (List Station)) :=
  (radar_in volumes 1 64).bind fun r =>
  (if ((!r) || (decide ((l1.length : Int) > 4))) then R.ok true else (radar_in minute 0 1439).bind fun r1 =>
  R.ok (!r1)).bind (fun (b : Bool) => if b then
(.ok (260, [], l1))
else
((each (fun j _ => fun x1 => radar_Seen_2_b1 volumes j x1) 0 l1 l1).bind (alt (fun x1 => (radar_Check (x1.length : Int) l).bind fun e1 =>
  if (e1 != 0) then
(.ok (e1, [], x1))
else
(if (0 : Int) ≤ volumes ∧ (volumes : Int) ≤ volumes ∧ (Int.toNat volumes) * 1 ≤ LIM then
  (eachS (fun j1 _ => un2 fun x3 l2 => radar_Seen_2_b3 l minute j1 x3 l2) 0 x1 (x1, (List.replicate (Int.toNat volumes) false))).bind ((un2 fun x3 l2 => .ok (0, l2, x3))) else .bad)) (fun r => .ok r))))

def law26_RadarMore_b1 (j : Nat) (a1 : Int) (sees : Bool) : R Bool :=
  .ok (sees || (a1 == (j : Int)))

def law26_RadarMore_j1 (x3 : Bool) : R (Unit ⊕ Bool) :=
  if x3 then
(.ok (.inr (false)))
else
(.ok (.inl ()))

def law26_RadarMore_b2 (more : Station) (y : (List Bool)) (j : Nat) (a : Bool) : R (Unit ⊕ Bool) :=
  (eachS (fun _ a1 => fun sees => law26_RadarMore_b1 j a1 sees) 0 more.Volumes false).bind ((fun sees => if a then
((idx y (j : Int)).bind fun a2 =>
  if (!a2) then
(law26_RadarMore_j1 true)
else
(if (!sees) then
(law26_RadarMore_j1 (!(a == a2)))
else
(law26_RadarMore_j1 false)))
else
(if (!sees) then
((idx y (j : Int)).bind fun a3 =>
  law26_RadarMore_j1 (!(a == a3)))
else
(law26_RadarMore_j1 false))))

def law26_RadarMore_j2 (more : Station) (r : Bool) (r4 : ((List Bool) × Int)) (y : (List Bool)) (f : Int) : R Bool :=
  if ((r4.2 != 0) || (f != 0)) then
(.ok true)
else
(if ((r4.1.length : Int) != (y.length : Int)) then
(.ok false)
else
((each (fun j a => fun _ => law26_RadarMore_b2 more y j a) 0 r4.1 ()).bind (alt (fun _ => .ok true) (fun r => .ok r))))

def law26_RadarMore_j3 (volumes : Int) (s : (List Station)) (l : (List Status)) (more : Station) (minute : Int) (r : Bool) (x : Bool) : R Bool :=
  if x then
(.ok true)
else
((radar_Seen volumes s l minute).bind fun r4 =>
  if s.length * 40 ≤ LIM then
  if (s.length + [more].length) * 40 ≤ LIM then
  (radar_Seen_2 volumes l minute (s ++ [more])).bind fun r5 =>
  law26_RadarMore_j2 more r r4 r5.2.1 r5.1 else .bad else .bad)

def law26_RadarMore (volumes : Int) (s : (List Station)) (l : (List Status)) (more : Station) (minute : Int) : R Bool :=
  (law26_sane).bind fun r =>
  if r then
(if s.length * 40 ≤ LIM then
  if (s.length + [more].length) * 40 ≤ LIM then
  (ref26_Few (s ++ [more]) l).bind fun r1 =>
  law26_RadarMore_j3 volumes s l more minute r (!r1) else .bad else .bad)
else
(.ok false)

def law26_RadarSays_b1 (one : Status) (r4 : ((List Bool) × Int)) (j : Nat) (a : Bool) : R (Unit ⊕ Bool) :=
  (if (one.Works && a) then (idx r4.1 (j : Int)).bind fun a1 =>
  R.ok (!a1) else R.ok false).bind (fun (b : Bool) => (if b then R.ok true else (if ((!one.Works) && (!a)) then (idx r4.1 (j : Int)).bind fun a2 =>
  R.ok a2 else R.ok false).bind (fun (b2 : Bool) => R.ok b2)).bind (fun (b1 : Bool) => if b1 then
(.ok (.inr (false)))
else
(.ok (.inl ()))))

def law26_RadarSays (volumes : Int) (s : (List Station)) (l : (List Status)) (one : Status) (minute : Int) : R Bool :=
  (law26_sane).bind fun r =>
  if r then
((ref26_Few s l).bind fun r1 =>
  if r1 then
((radar_Add (s.length : Int) l one).bind fun r2 =>
  (radar_Seen volumes s l minute).bind fun r3 =>
  (radar_Seen volumes s r2.1 minute).bind fun r4 =>
  if ((r2.2 != 0) || (r3.2 != 0)) then
(.ok true)
else
(if ((r4.2 != 0) || ((r3.1.length : Int) != (r4.1.length : Int))) then
(.ok false)
else
((each (fun j a => fun _ => law26_RadarSays_b1 one r4 j a) 0 r3.1 ()).bind (alt (fun _ => .ok true) (fun r => .ok r)))))
else
(.ok true))
else
(.ok false)


def law26_RadarOrder (many : Int) (l : (List Status)) (a : Status) (b : Status) : R Bool :=
  (law26_sane).bind fun r =>
  if r then
((ref26_Few [] l).bind fun r1 =>
  if ((!r1) || ((a.Station == b.Station) && (a.From == b.From))) then
(.ok true)
else
((radar_Add many l a).bind fun r2 =>
  (radar_Add many l b).bind fun r3 =>
  if ((r2.2 != 0) || (r3.2 != 0)) then
(.ok true)
else
((radar_Add many r2.1 b).bind fun r4 =>
  (radar_Add many r3.1 a).bind fun r5 =>
  (radar_Add many r4.1 b).bind fun r6 =>
  (if (((r4.2 == 0) && (r5.2 == 0)) && (r6.2 == 0)) then (ref26_Same r4.1 r5.1).bind fun r7 =>
  R.ok r7 else R.ok false).bind (fun (b1 : Bool) => (if b1 then (ref26_Same r4.1 r6.1).bind fun r8 =>
  R.ok r8 else R.ok false).bind (fun (b2 : Bool) => (if b2 then (radar_Check many r4.1).bind fun r9 =>
  R.ok (r9 == 0) else R.ok false).bind (fun (b3 : Bool) => .ok b3))))))
else
(.ok false)


def hours_Has_c1 (s : Span) (b : Int) : R Bool :=
  .ok ((decide (s.From ≤ b)) && (decide (b < s.To)))

def slices_IndexFunc_Span_c1_b1 (s1 : Int) (j : Nat) (a : Span) : R (Unit ⊕ Int) :=
  (hours_Has_c1 a s1).bind fun r =>
  if r then
(.ok (.inr ((j : Int))))
else
(.ok (.inl ()))

def slices_IndexFunc_Span_c1 (s : (List Span)) (s1 : Int) : R Int :=
  (each (fun j a => fun _ => slices_IndexFunc_Span_c1_b1 s1 j a) 0 s ()).bind (alt (fun _ => .ok (-1)) (fun r => .ok r))


def slices_ContainsFunc_Span_c1 (s : (List Span)) (s1 : Int) : R Bool :=
  (slices_IndexFunc_Span_c1 s s1).bind fun r =>
  .ok (decide (r ≥ 0))


def hours_Has (l : (List Span)) (minute : Int) : R Bool :=
  (if ((decide (minute ≥ 0)) && (decide (minute < 1440))) then (slices_ContainsFunc_Span_c1 l minute).bind fun r =>
  R.ok r else R.ok false).bind (fun (b : Bool) => .ok b)

def law26_RadarLost_b1 (s : (List Station)) (l : (List Status)) (minute : Int) (j : Nat) (a : Bool) : R (Unit ⊕ Bool) :=
  (radar_Lost (j : Int) s l).bind fun r3 =>
  (hours_Has r3 minute).bind fun r4 =>
  if (r4 == a) then
(.ok (.inr (false)))
else
(.ok (.inl ()))

def law26_RadarLost (volumes : Int) (s : (List Station)) (l : (List Status)) (minute : Int) : R Bool :=
  (law26_sane).bind fun r =>
  if r then
((ref26_Few s l).bind fun r1 =>
  if ((!r1) || (decide (volumes > 6))) then
(.ok true)
else
((radar_Seen volumes s l minute).bind fun r2 =>
  if (r2.2 != 0) then
(.ok ((r2.1.length : Int) == 0))
else
(if ((r2.1.length : Int) != volumes) then
(.ok false)
else
((each (fun j a => fun _ => law26_RadarLost_b1 s l minute j a) 0 r2.1 ()).bind (alt (fun _ => .ok true) (fun r => .ok r))))))
else
(.ok false)

end
end Go.Am
