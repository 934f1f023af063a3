/- What the functions compute. Written by dc.py. -/
import Derived.Test.YtjmofjoifnhloaaOpD
import Derived.Lib.Bytealg
import Derived.Lib.ItoaNum
import Derived.Lib.Join
import Derived.Lib.AtoiAll
namespace Go.Am
open Go
set_option maxRecDepth 100000
set_option linter.unusedSimpArgs false
set_option linter.unusedVariables false
noncomputable section

def law11_sample : R Airspace :=
  .ok ({ Volumes := [({ Name := [], Closed := [({ From := 150, To := 160 } : Span)] } : Volume), ({ Name := [], Closed := [({ From := 0, To := 1440 } : Span)] } : Volume)], Sectors := [], Configs := [], Segments := [({ Name := [], In := [], Volume := 0, Length := 30, Open := [({ From := 100, To := 200 } : Span)] } : Segment), ({ Name := [], In := [], Volume := 1, Length := 40, Open := [] } : Segment)], Routes := [({ Name := [], A := [], B := [], From := 0, To := 0, Names := [], Segments := [0] } : Route), ({ Name := [], A := [], B := [], From := 0, To := 0, Names := [], Segments := [0, 1] } : Route), ({ Name := [], A := [], B := [], From := 0, To := 0, Names := [], Segments := [] } : Route)], Airports := [], Classes := [], Rules := [] } : Airspace)

def hours_of_2_b1 (a : Span) (m : Int) (o1 : (Vector Bool 1440)) : R ((Int × (Vector Bool 1440)) ⊕ (Vector Bool 1440)) :=
  if m < (if 1440 < a.To then 1440 else a.To) then
(if 0 ≤ m ∧ m < 1440 then
  .ok (.inl ((IntKind.wrap .i64 (m + 1)), (vset o1 (Int.toNat m) true))) else .bad)
else
(.ok (.inr (o1)))

def hours_of_2_j1 (o2 : (Vector Bool 1440)) : R (Vector Bool 1440) :=
  .ok o2

def hours_of_2_b2 (a : Span) (o : (Vector Bool 1440)) : R (Vector Bool 1440) :=
  (loop (un2 fun m o1 => hours_of_2_b1 a m o1) ((if 0 > a.From then 0 else a.From), o)).bind (fun o2 => hours_of_2_j1 o2)

def hours_of_2 (l : (List Span)) : R (Vector Bool 1440) :=
  (eachS (fun _ a => fun o => hours_of_2_b2 a o) 0 l (vrep 1440 false)).bind ((fun o => .ok o))


def hours_Minus_c1 (a : Bool) (y : Bool) : R Bool :=
  .ok (a && (!y))


def hours_day_spans_2 (s : (Vector Bool 1440)) : R Unit :=
  .ok ()

section
variable {σ_ : Type}
def hours_day_spans_c1_b1 (b : (Vector Bool 1440)) (vto : Int) (s1 : σ_) : R ((Int × σ_) ⊕ (Int × σ_)) :=
  (if (decide (vto < 1440)) then if 0 ≤ vto ∧ vto < 1440 then
  R.ok (vget b (Int.toNat vto) false) else .bad else R.ok false).bind (fun (b1 : Bool) => if b1 then
(.ok (.inl ((IntKind.wrap .i64 (vto + 1)), s1)))
else
(.ok (.inr ((vto, s1)))))

def hours_day_spans_c1_j1 (b_ : Span → σ_ → R σ_) (vfrom : Int) (vto1 : Int) (s2 : σ_) : R ((Int × σ_) ⊕ σ_) :=
  (b_ ({ From := vfrom, To := vto1 } : Span) s2).bind fun s3 =>
  .ok (.inl ((IntKind.wrap .i64 (vto1 + 1)), s3))

def hours_day_spans_c1_b2 (b : (Vector Bool 1440)) (b_ : Span → σ_ → R σ_) (vfrom : Int) (s : σ_) : R ((Int × σ_) ⊕ σ_) :=
  if vfrom < 1440 then
(if 0 ≤ vfrom ∧ vfrom < 1440 then
  if (vget b (Int.toNat vfrom) false) then
((loop (un2 fun vto s1 => hours_day_spans_c1_b1 b vto s1) ((IntKind.wrap .i64 (vfrom + 1)), s)).bind (un2 fun vto1 s2 => hours_day_spans_c1_j1 b_ vfrom vto1 s2))
else
(.ok (.inl ((IntKind.wrap .i64 (vfrom + 1)), s))) else .bad)
else
(.ok (.inr (s)))

def hours_day_spans_c1_j2 (s4 : σ_) : R σ_ :=
  .ok s4

def hours_day_spans_c1 (b : (Vector Bool 1440)) (b_ : Span → σ_ → R σ_) (s_ : σ_) : R σ_ :=
  (loop (un2 fun vfrom s => hours_day_spans_c1_b2 b b_ vfrom s) (0, s_)).bind (fun s4 => hours_day_spans_c1_j2 s4)
end

def slices_AppendSeq_Span_c1_b1 (a : Span) (l : (List Span)) : R (List Span) :=
  if (l.length + [a].length) * 16 ≤ LIM then
  .ok (l ++ [a]) else .bad

def slices_AppendSeq_Span_c1 (s1 : (Vector Bool 1440)) : R (List Span) :=
  (hours_day_spans_c1 s1 (fun a z_ => R.np ((fun l => slices_AppendSeq_Span_c1_b1 a l) z_)) []).bind (fun l => .ok l)


def slices_Collect_Span_c1 (s1 : (Vector Bool 1440)) : R (List Span) :=
  (slices_AppendSeq_Span_c1 s1).bind fun r =>
  .ok r

def hours_combine_c1_b1 (e : (Vector Bool 1440)) (j : Nat) (o : (Vector Bool 1440)) : R (Vector Bool 1440) :=
  (hours_Minus_c1 (vget o j false) (vget e j false)).bind fun r =>
  .ok (vset o j r)

def hours_combine_c1 (a : (List Span)) (b : (List Span)) : R (List Span) :=
  (hours_of_2 a).bind fun d =>
  (hours_of_2 b).bind fun e =>
  (eachS (fun j _ => fun o => hours_combine_c1_b1 e j o) 0 (List.range 1440) d).bind ((fun o => (hours_day_spans_2 o).bind fun _ =>
  (slices_Collect_Span_c1 o).bind fun r2 =>
  .ok r2))


def hours_Minus (a : (List Span)) (b : (List Span)) : R (List Span) :=
  (hours_combine_c1 a b).bind fun r =>
  .ok r

def opening_minutes_j1 (a : Airspace) (a1 : Segment) (vopen : (List Span)) : R (List Span) :=
  (idx a.Volumes a1.Volume).bind fun a2 =>
  (hours_Minus vopen a2.Closed).bind fun r =>
  .ok r

def opening_minutes (a : Airspace) (segment : Int) : R (List Span) :=
  if ((decide (segment < 0)) || (decide (segment ≥ (a.Segments.length : Int)))) then
(.pan ⟨86, .unit⟩)
else
((idx a.Segments segment).bind fun a1 =>
  if ((decide (a1.Volume < 0)) || (decide (a1.Volume ≥ (a.Volumes.length : Int)))) then
(.pan ⟨86, .unit⟩)
else
(if ((a1.Open.length : Int) == 0) then
(opening_minutes_j1 a a1 [({ From := 0, To := 1440 } : Span)])
else
(opening_minutes_j1 a a1 a1.Open)))


def opening_caught : R Unit :=
  .ok ()



def opening_caught_2 (p : T85) : R Unit :=
  .ok ()


def opening_Minutes_c1_h86 : R Unit :=
  (opening_caught_2 ({} : T85)).bind fun _ =>
  .ok ()


def opening_Minutes_m (a : Airspace) (segment : Int) : R ((List Span) × Int) :=
  (opening_minutes a segment).bind fun l =>
  .ok (l, 0)

def opening_Minutes (a : Airspace) (segment : Int) : R ((List Span) × Int) :=
  (opening_Minutes_m a segment).catch' (catchU 86 ((opening_Minutes_c1_h86).bind fun _ => .ok ([], 1)) (fun _ => .bad))


def opening_legs_2 (a : Airspace) (route : Int) : R Unit :=
  .ok ()

section
variable {σ_ : Type}
def opening_legs_c1_b1 (c : Airspace) (b_ : Leg → σ_ → R σ_) (a1 : Int) (s : σ_) : R σ_ :=
  (opening_minutes c a1).bind fun m =>
  (idx c.Segments a1).bind fun a2 =>
  (b_ ({ Segment := a1, Volume := a2.Volume, Length := a2.Length, Minutes := m } : Leg) s).bind fun s1 =>
  .ok s1

def opening_legs_c1 (b : Int) (c : Airspace) (b_ : Leg → σ_ → R σ_) (s_ : σ_) : R σ_ :=
  if ((decide (b < 0)) || (decide (b ≥ (c.Routes.length : Int)))) then
(.pan ⟨86, .unit⟩)
else
((idx c.Routes b).bind fun a =>
  (eachS (fun _ a1 => fun s => opening_legs_c1_b1 c b_ a1 s) 0 a.Segments s_).bind ((fun s => .ok s)))
end



def opening_Legs_c1_h86 : R Unit :=
  (opening_caught_2 ({} : T85)).bind fun _ =>
  .ok ()

def opening_Legs_b1 (a1 : Leg) (l : (List Leg)) : R (List Leg) :=
  if (l.length + [a1].length) * 48 ≤ LIM then
  .ok (l ++ [a1]) else .bad

def opening_Legs_m (a : Airspace) (route : Int) : R ((List Leg) × Int) :=
  (opening_legs_2 a route).bind fun _ =>
  (opening_legs_c1 route a (fun a1 z_ => R.np ((fun l => opening_Legs_b1 a1 l) z_)) []).bind (fun l => .ok (l, 0))

def opening_Legs (a : Airspace) (route : Int) : R ((List Leg) × Int) :=
  (opening_Legs_m a route).catch' (catchU 86 ((opening_Legs_c1_h86).bind fun _ => .ok ([], 1)) (fun _ => .bad))

def maps_Keys_34 (m : (List (Int × Bool))) : R Unit := .ok ()

def slices_Sorted_33 (m : (List (Int × Bool))) : R (List Int) := sortedKeys m



def opening_Passable_c1_h86 : R Unit :=
  (opening_caught_2 ({} : T85)).bind fun _ =>
  .ok ()

def opening_Passable_b1 (a : Airspace) (j : Nat) (a1 : Segment) (m : (List (Int × Bool))) : R (List (Int × Bool)) :=
  (opening_minutes a (j : Int)).bind fun r =>
  if (r.length : Int) > 0 then
(.ok (mput m a1.Volume true))
else
(.ok m)

def opening_Passable_m (a : Airspace) : R ((List Int) × Int) :=
  (eachS (fun j a1 => fun m => opening_Passable_b1 a j a1 m) 0 a.Segments []).bind ((fun m => (maps_Keys_34 m).bind fun _ =>
  (slices_Sorted_33 m).bind fun l =>
  .ok (l, 0)))

def opening_Passable (a : Airspace) : R ((List Int) × Int) :=
  (opening_Passable_m a).catch' (catchU 86 ((opening_Passable_c1_h86).bind fun _ => .ok ([], 1)) (fun _ => .bad))



def opening_Blocked_c1_h86 : R Unit :=
  (opening_caught_2 ({} : T85)).bind fun _ =>
  .ok ()

def opening_Blocked_b1 (a2 : Leg) (o : Bool) : R Bool :=
  .ok (o || ((a2.Minutes.length : Int) == 0))

def opening_Blocked_b2 (a : Airspace) (j : Nat) (x1 : (List Int)) : R (List Int) :=
  (opening_legs_2 a (j : Int)).bind fun _ =>
  (opening_legs_c1 (j : Int) a (fun a2 z_ => R.np ((fun o => opening_Blocked_b1 a2 o) z_)) false).bind (fun o => if o then
(if (x1.length + [(j : Int)].length) * 8 ≤ LIM then
  .ok (x1 ++ [(j : Int)]) else .bad)
else
(.ok x1))

def opening_Blocked_m (a : Airspace) : R ((List Int) × Int) :=
  (eachS (fun j _ => fun x1 => opening_Blocked_b2 a j x1) 0 a.Routes []).bind ((fun x1 => .ok (x1, 0)))

def opening_Blocked (a : Airspace) : R ((List Int) × Int) :=
  (opening_Blocked_m a).catch' (catchU 86 ((opening_Blocked_c1_h86).bind fun _ => .ok ([], 1)) (fun _ => .bad))

def ref11_SameSpans_b1 (b : (List Span)) (j : Nat) (a1 : Span) : R (Unit ⊕ Bool) :=
  (idx b (j : Int)).bind fun a2 =>
  if ((a1.From == a2.From) && (a1.To == a2.To)) then
(.ok (.inl ()))
else
(.ok (.inr (false)))

def ref11_SameSpans (a : (List Span)) (b : (List Span)) : R Bool :=
  if ((a.length : Int) != (b.length : Int)) then
(.ok false)
else
((each (fun j a1 => fun _ => ref11_SameSpans_b1 b j a1) 0 a ()).bind (alt (fun _ => .ok true) (fun r => .ok r)))

def ref11_SameInts_b1 (b : (List Int)) (j : Nat) (a1 : Int) : R (Unit ⊕ Bool) :=
  (idx b (j : Int)).bind fun a2 =>
  if (a1 != a2) then
(.ok (.inr (false)))
else
(.ok (.inl ()))

def ref11_SameInts (a : (List Int)) (b : (List Int)) : R Bool :=
  if ((a.length : Int) != (b.length : Int)) then
(.ok false)
else
((each (fun j a1 => fun _ => ref11_SameInts_b1 b j a1) 0 a ()).bind (alt (fun _ => .ok true) (fun r => .ok r)))


def law11_sane : R Bool :=
  (law11_sample).bind fun r =>
  (opening_Minutes r 0).bind fun r1 =>
  (opening_Legs r 1).bind fun r2 =>
  (opening_Legs r 2).bind fun r3 =>
  (opening_Passable r).bind fun r4 =>
  (opening_Blocked r).bind fun r5 =>
  (opening_Minutes ({ Volumes := [], Sectors := [], Configs := [], Segments := [], Routes := [], Airports := [], Classes := [], Rules := [] } : Airspace) 0).bind fun r6 =>
  (opening_Passable ({ Volumes := [], Sectors := [], Configs := [], Segments := [], Routes := [], Airports := [], Classes := [], Rules := [] } : Airspace)).bind fun r7 =>
  (opening_Blocked ({ Volumes := [], Sectors := [], Configs := [], Segments := [], Routes := [], Airports := [], Classes := [], Rules := [] } : Airspace)).bind fun r8 =>
  if (((((((((r1.2 != 0) || (r2.2 != 0)) || (r3.2 != 0)) || (r4.2 != 0)) || (r5.2 != 0)) || (r6.2 != 1)) || (r7.2 != 0)) || (r8.2 != 0)) || ((r2.1.length : Int) != 2)) then
(.ok false)
else
((ref11_SameSpans r1.1 [({ From := 100, To := 150 } : Span), ({ From := 160, To := 200 } : Span)]).bind fun r9 =>
  (if r9 then (idx r2.1 1).bind fun a =>
  R.ok (a.Volume == 1) else R.ok false).bind (fun (b : Bool) => (if b then (idx r2.1 1).bind fun a1 =>
  R.ok (a1.Length == 40) else R.ok false).bind (fun (b1 : Bool) => (if b1 then (idx r2.1 1).bind fun a2 =>
  R.ok ((a2.Minutes.length : Int) == 0) else R.ok false).bind (fun (b2 : Bool) => (if (b2 && ((r3.1.length : Int) == 0)) then (ref11_SameInts r4.1 [0]).bind fun r10 =>
  R.ok r10 else R.ok false).bind (fun (b3 : Bool) => (if b3 then (ref11_SameInts r5.1 [1]).bind fun r11 =>
  R.ok r11 else R.ok false).bind (fun (b4 : Bool) => .ok ((b4 && ((r7.1.length : Int) == 0)) && ((r8.1.length : Int) == 0))))))))

def ref11_Few_b1 (a1 : Volume) : R (Unit ⊕ Bool) :=
  if (a1.Closed.length : Int) > 8 then
(.ok (.inr (false)))
else
(.ok (.inl ()))

def ref11_Few_b2 (a2 : Sector) : R (Unit ⊕ Bool) :=
  if ((decide ((a2.Volumes.length : Int) > 16)) || (decide ((a2.Names.length : Int) > 16))) then
(.ok (.inr (false)))
else
(.ok (.inl ()))

def ref11_Few_b3 (a3 : Config) : R (Unit ⊕ Bool) :=
  if ((decide ((a3.Sectors.length : Int) > 16)) || (decide ((a3.Names.length : Int) > 16))) then
(.ok (.inr (false)))
else
(.ok (.inl ()))

def ref11_Few_b4 (a4 : Segment) : R (Unit ⊕ Bool) :=
  if (a4.Open.length : Int) > 8 then
(.ok (.inr (false)))
else
(.ok (.inl ()))

def ref11_Few_b5 (a5 : Route) : R (Unit ⊕ Bool) :=
  if ((decide ((a5.Segments.length : Int) > 10)) || (decide ((a5.Names.length : Int) > 10))) then
(.ok (.inr (false)))
else
(.ok (.inl ()))

def ref11_Few_b6 (a6 : Airport) : R (Unit ⊕ Bool) :=
  if (a6.Modes.length : Int) > 6 then
(.ok (.inr (false)))
else
(.ok (.inl ()))

def ref11_Few (a : Airspace) : R Bool :=
  if ((((((((decide ((a.Volumes.length : Int) > 12)) || (decide ((a.Sectors.length : Int) > 12))) || (decide ((a.Configs.length : Int) > 8))) || (decide ((a.Segments.length : Int) > 16))) || (decide ((a.Routes.length : Int) > 10))) || (decide ((a.Airports.length : Int) > 8))) || (decide ((a.Classes.length : Int) > 6))) || (decide ((a.Rules.length : Int) > 12))) then
(.ok false)
else
((each (fun _ a1 => fun _ => ref11_Few_b1 a1) 0 a.Volumes ()).bind (alt (fun _ => (each (fun _ a2 => fun _ => ref11_Few_b2 a2) 0 a.Sectors ()).bind (alt (fun _ => (each (fun _ a3 => fun _ => ref11_Few_b3 a3) 0 a.Configs ()).bind (alt (fun _ => (each (fun _ a4 => fun _ => ref11_Few_b4 a4) 0 a.Segments ()).bind (alt (fun _ => (each (fun _ a5 => fun _ => ref11_Few_b5 a5) 0 a.Routes ()).bind (alt (fun _ => (each (fun _ a6 => fun _ => ref11_Few_b6 a6) 0 a.Airports ()).bind (alt (fun _ => .ok true) (fun r => .ok r))) (fun r => .ok r))) (fun r => .ok r))) (fun r => .ok r))) (fun r => .ok r))) (fun r => .ok r)))


def ref11_known (a : Airspace) (n : Int) : R Bool :=
  if (decide (n ≥ 0)) then
(if (decide (n < (a.Segments.length : Int))) then
((idx a.Segments n).bind fun a1 =>
  if (decide (a1.Volume ≥ 0)) then
(.ok (decide (a1.Volume < (a.Volumes.length : Int))))
else
(.ok false))
else
(.ok false))
else
(.ok false)

def ref05_Minutes_b1 (a : Span) (m : Int) (out1 : (List Bool)) : R ((Int × (List Bool)) ⊕ (List Bool)) :=
  if m < (if 1440 < a.To then 1440 else a.To) then
((idx out1 m).bind fun a1 =>
  .ok (.inl ((IntKind.wrap .i64 (m + 1)), (out1.set m.toNat true))))
else
(.ok (.inr (out1)))

def ref05_Minutes_j1 (out2 : (List Bool)) : R (List Bool) :=
  .ok out2

def ref05_Minutes_b2 (a : Span) (out : (List Bool)) : R (List Bool) :=
  (loop (un2 fun m out1 => ref05_Minutes_b1 a m out1) ((if 0 > a.From then 0 else a.From), out)).bind (fun out2 => ref05_Minutes_j1 out2)

def ref05_Minutes (l : (List Span)) : R (List Bool) :=
  if (0 : Int) ≤ 1440 ∧ (1440 : Int) ≤ 1440 ∧ (Int.toNat 1440) * 1 ≤ LIM then
  (eachS (fun _ a => fun out => ref05_Minutes_b2 a out) 0 l (List.replicate (Int.toNat 1440) false)).bind ((fun out => .ok out)) else .bad

def ref05_Spans_b1 (j : Nat) (a : Bool) (out : (List Span)) : R (List Span) :=
  if a then
((if (decide ((out.length : Int) > 0)) then (idx out (IntKind.wrap .i64 ((out.length : Int) - 1))).bind fun a1 =>
  R.ok (a1.To == (j : Int)) else R.ok false).bind (fun (b : Bool) => if b then
((idx out (IntKind.wrap .i64 ((out.length : Int) - 1))).bind fun a2 =>
  .ok (out.set (IntKind.wrap .i64 ((out.length : Int) - 1)).toNat { a2 with To := (IntKind.wrap .i64 ((j : Int) + 1)) }))
else
(if (out.length + [({ From := (j : Int), To := (IntKind.wrap .i64 ((j : Int) + 1)) } : Span)].length) * 16 ≤ LIM then
  .ok (out ++ [({ From := (j : Int), To := (IntKind.wrap .i64 ((j : Int) + 1)) } : Span)]) else .bad)))
else
(.ok out)

def ref05_Spans (vis : (List Bool)) : R (List Span) :=
  (eachS (fun j a => fun out => ref05_Spans_b1 j a out) 0 vis []).bind ((fun out => .ok out))

def ref05_Minus_b1 (y : (List Bool)) (m : Int) (x : (List Bool)) : R ((Int × (List Bool)) ⊕ (List Bool)) :=
  if m < (x.length : Int) then
((idx x m).bind fun a1 =>
  (if a1 then (idx y m).bind fun a2 =>
  R.ok (!a2) else R.ok false).bind (fun (b1 : Bool) => .ok (.inl ((IntKind.wrap .i64 (m + 1)), (x.set m.toNat b1)))))
else
(.ok (.inr (x)))

def ref05_Minus_j1 (x1 : (List Bool)) : R (List Span) :=
  (ref05_Spans x1).bind fun r1 =>
  .ok r1

def ref05_Minus (a : (List Span)) (b : (List Span)) : R (List Span) :=
  (ref05_Minutes a).bind fun r =>
  (ref05_Minutes b).bind fun y =>
  (loop (un2 fun m x => ref05_Minus_b1 y m x) (0, r)).bind (fun x1 => ref05_Minus_j1 x1)

def ref11_Minutes_j1 (a : Airspace) (a1 : Segment) (vopen : (List Span)) : R ((List Span) × Int) :=
  (idx a.Volumes a1.Volume).bind fun a2 =>
  (ref05_Minus vopen a2.Closed).bind fun r1 =>
  .ok (r1, 0)

def ref11_Minutes (a : Airspace) (segment : Int) : R ((List Span) × Int) :=
  (ref11_known a segment).bind fun r =>
  if r then
((idx a.Segments segment).bind fun a1 =>
  if ((a1.Open.length : Int) == 0) then
(ref11_Minutes_j1 a a1 [({ From := 0, To := 1440 } : Span)])
else
(ref11_Minutes_j1 a a1 a1.Open))
else
(.ok ([], 1))

def ref11_Legs_b1 (a : Airspace) (route : Int) (i : Int) (l : (List Leg)) : R ((Int × (List Leg)) ⊕ ((List Leg) ⊕ ((List Leg) × Int))) :=
  (idx a.Routes route).bind fun a1 =>
  if i < (a1.Segments.length : Int) then
((idx a1.Segments i).bind fun a2 =>
  (ref11_Minutes a a2).bind fun r =>
  if (r.2 != 0) then
(.ok (.inr (.inr (([], r.2)))))
else
((idx a.Segments a2).bind fun a3 =>
  if (l.length + [({ Segment := a2, Volume := a3.Volume, Length := a3.Length, Minutes := r.1 } : Leg)].length) * 48 ≤ LIM then
  .ok (.inl ((IntKind.wrap .i64 (i + 1)), (l ++ [({ Segment := a2, Volume := a3.Volume, Length := a3.Length, Minutes := r.1 } : Leg)]))) else .bad))
else
(.ok (.inr (.inl (l))))

def ref11_Legs_j1 (l1 : (List Leg)) : R ((List Leg) × Int) :=
  .ok (l1, 0)

def ref11_Legs (a : Airspace) (route : Int) : R ((List Leg) × Int) :=
  if ((decide (route < 0)) || (decide (route ≥ (a.Routes.length : Int)))) then
(.ok ([], 1))
else
((loop (un2 fun i l => ref11_Legs_b1 a route i l) (0, [])).bind (alt (fun l1 => ref11_Legs_j1 l1) (fun r => .ok r)))

def ref11_SameLegs_j1 (x : Bool) : R (Unit ⊕ Bool) :=
  if x then
(.ok (.inr (false)))
else
(.ok (.inl ()))

def ref11_SameLegs_b1 (b : (List Leg)) (j : Nat) (a1 : Leg) : R (Unit ⊕ Bool) :=
  (idx b (j : Int)).bind fun a2 =>
  if (a1.Segment != a2.Segment) then
(ref11_SameLegs_j1 true)
else
(if (a1.Volume != a2.Volume) then
(ref11_SameLegs_j1 true)
else
(if (a1.Length != a2.Length) then
(ref11_SameLegs_j1 true)
else
((ref11_SameSpans a1.Minutes a2.Minutes).bind fun r =>
  ref11_SameLegs_j1 (!r))))

def ref11_SameLegs (a : (List Leg)) (b : (List Leg)) : R Bool :=
  if ((a.length : Int) != (b.length : Int)) then
(.ok false)
else
((each (fun j a1 => fun _ => ref11_SameLegs_b1 b j a1) 0 a ()).bind (alt (fun _ => .ok true) (fun r => .ok r)))

def law11_OpeningMinutesSpec_b1 (a : Airspace) (a1 : Int) : R (Unit ⊕ Bool) :=
  (opening_Minutes a a1).bind fun r2 =>
  (ref11_Minutes a a1).bind fun r3 =>
  (opening_Legs a a1).bind fun r4 =>
  (ref11_Legs a a1).bind fun r5 =>
  (ref11_SameSpans r2.1 r3.1).bind fun r6 =>
  (if ((!r6) || (r2.2 != r3.2)) then R.ok true else (ref11_SameLegs r4.1 r5.1).bind fun r7 =>
  R.ok (!r7)).bind (fun (b : Bool) => if (b || (r4.2 != r5.2)) then
(.ok (.inr (false)))
else
(.ok (.inl ())))

def law11_OpeningMinutesSpec (a : Airspace) (n : Int) : R Bool :=
  (law11_sane).bind fun r =>
  if r then
((ref11_Few a).bind fun r1 =>
  if r1 then
((each (fun _ a1 => fun _ => law11_OpeningMinutesSpec_b1 a a1) 0 [n, 0, 1, (IntKind.wrap .i64 ((a.Segments.length : Int) - 1)), (IntKind.wrap .i64 ((a.Routes.length : Int) - 1))] ()).bind (alt (fun _ => .ok true) (fun r => .ok r)))
else
(.ok true))
else
(.ok false)

def ref11_Passable_b1 (a : Airspace) (j : Nat) (a1 : Segment) (vis : (List Bool)) : R ((List Bool) ⊕ ((List Int) × Int)) :=
  (ref11_Minutes a (j : Int)).bind fun r =>
  if (r.2 != 0) then
(.ok (.inr (([], r.2))))
else
(if (r.1.length : Int) > 0 then
((idx vis a1.Volume).bind fun a2 =>
  .ok (.inl (vis.set a1.Volume.toNat true)))
else
(.ok (.inl vis)))

def ref11_Passable_b2 (i1 : Int) (vis1 : (List Bool)) (l : (List Int)) : R ((Int × (List Bool) × (List Int)) ⊕ (List Int)) :=
  if i1 < (vis1.length : Int) then
((idx vis1 i1).bind fun a3 =>
  if a3 then
(if (l.length + [i1].length) * 8 ≤ LIM then
  .ok (.inl ((IntKind.wrap .i64 (i1 + 1)), vis1, (l ++ [i1]))) else .bad)
else
(.ok (.inl ((IntKind.wrap .i64 (i1 + 1)), vis1, l))))
else
(.ok (.inr (l)))

def ref11_Passable_j1 (l1 : (List Int)) : R ((List Int) × Int) :=
  .ok (l1, 0)

def ref11_Passable (a : Airspace) : R ((List Int) × Int) :=
  if (0 : Int) ≤ (a.Volumes.length : Int) ∧ ((a.Volumes.length : Int) : Int) ≤ (a.Volumes.length : Int) ∧ (Int.toNat (a.Volumes.length : Int)) * 1 ≤ LIM then
  (each (fun j a1 => fun vis => ref11_Passable_b1 a j a1 vis) 0 a.Segments (List.replicate (Int.toNat (a.Volumes.length : Int)) false)).bind (alt (fun vis => (loop (un3 fun i1 vis1 l => ref11_Passable_b2 i1 vis1 l) (0, vis, [])).bind (fun l1 => ref11_Passable_j1 l1)) (fun r => .ok r)) else .bad

def ref11_Blocked_b1 (a2 : Leg) (blocked : Bool) : R Bool :=
  .ok (blocked || ((a2.Minutes.length : Int) == 0))

def ref11_Blocked_b2 (a : Airspace) (j : Nat) (l : (List Int)) : R ((List Int) ⊕ ((List Int) × Int)) :=
  (ref11_Legs a (j : Int)).bind fun r =>
  if (r.2 != 0) then
(.ok (.inr (([], r.2))))
else
((eachS (fun _ a2 => fun blocked => ref11_Blocked_b1 a2 blocked) 0 r.1 false).bind ((fun blocked => if blocked then
(if (l.length + [(j : Int)].length) * 8 ≤ LIM then
  .ok (.inl (l ++ [(j : Int)])) else .bad)
else
(.ok (.inl l)))))

def ref11_Blocked (a : Airspace) : R ((List Int) × Int) :=
  (each (fun j _ => fun l => ref11_Blocked_b2 a j l) 0 a.Routes []).bind (alt (fun l => .ok (l, 0)) (fun r => .ok r))


def law11_OpeningPassableSpec (a : Airspace) : R Bool :=
  (law11_sane).bind fun r =>
  if r then
((ref11_Few a).bind fun r1 =>
  if r1 then
((opening_Passable a).bind fun r2 =>
  (ref11_Passable a).bind fun r3 =>
  (opening_Blocked a).bind fun r4 =>
  (ref11_Blocked a).bind fun r5 =>
  (ref11_SameInts r2.1 r3.1).bind fun r6 =>
  (if (r6 && (r2.2 == r3.2)) then (ref11_SameInts r4.1 r5.1).bind fun r7 =>
  R.ok r7 else R.ok false).bind (fun (b : Bool) => .ok (b && (r4.2 == r5.2))))
else
(.ok true))
else
(.ok false)

def law11_has_b1 (n : Int) (a : Int) : R (Unit ⊕ Bool) :=
  if (a == n) then
(.ok (.inr (true)))
else
(.ok (.inl ()))

def law11_has (l : (List Int)) (n : Int) : R Bool :=
  (each (fun _ a => fun _ => law11_has_b1 n a) 0 l ()).bind (alt (fun _ => .ok false) (fun r => .ok r))

def law11_OpeningBlocked_j1 (x1 : Bool) (r5 : ((List Span) × Int)) (x3 : Bool) : R (Bool ⊕ Bool) :=
  if x3 then
(.ok (.inr (false)))
else
(.ok (.inl (x1 || ((r5.1.length : Int) == 0))))

def law11_OpeningBlocked_b1 (a : Airspace) (r3 : ((List Int) × Int)) (a1 : Route) (j1 : Nat) (a2 : Leg) (x1 : Bool) : R (Bool ⊕ Bool) :=
  (opening_Minutes a a2.Segment).bind fun r5 =>
  if (r5.2 != 0) then
(law11_OpeningBlocked_j1 x1 r5 true)
else
((idx a1.Segments (j1 : Int)).bind fun a3 =>
  if (a2.Segment != a3) then
(law11_OpeningBlocked_j1 x1 r5 true)
else
((ref11_SameSpans r5.1 a2.Minutes).bind fun r6 =>
  if (!r6) then
(law11_OpeningBlocked_j1 x1 r5 true)
else
(if (decide ((r5.1.length : Int) > 0)) then
((law11_has r3.1 a2.Volume).bind fun r7 =>
  law11_OpeningBlocked_j1 x1 r5 (!r7))
else
(law11_OpeningBlocked_j1 x1 r5 false))))

def law11_OpeningBlocked_b2 (a : Airspace) (r : Bool) (r2 : ((List Int) × Int)) (r3 : ((List Int) × Int)) (j : Nat) (a1 : Route) : R (Unit ⊕ Bool) :=
  (opening_Legs a (j : Int)).bind fun r4 =>
  if ((r4.2 != 0) || ((r4.1.length : Int) != (a1.Segments.length : Int))) then
(.ok (.inr (false)))
else
((each (fun j1 a2 => fun x1 => law11_OpeningBlocked_b1 a r3 a1 j1 a2 x1) 0 r4.1 false).bind (alt (fun x1 => (law11_has r2.1 (j : Int)).bind fun r8 =>
  if (x1 == r8) then
(.ok (.inl ()))
else
(.ok (.inr (false)))) (fun r => .ok (.inr (r)))))

def law11_OpeningBlocked (a : Airspace) : R Bool :=
  (law11_sane).bind fun r =>
  if r then
((ref11_Few a).bind fun r1 =>
  if r1 then
((opening_Blocked a).bind fun r2 =>
  (opening_Passable a).bind fun r3 =>
  if ((r2.2 != 0) || (r3.2 != 0)) then
(.ok (((r2.2 == 0) || ((r2.1.length : Int) == 0)) && ((r3.2 == 0) || ((r3.1.length : Int) == 0))))
else
((each (fun j a1 => fun _ => law11_OpeningBlocked_b2 a r r2 r3 j a1) 0 a.Routes ()).bind (alt (fun _ => .ok true) (fun r => .ok r))))
else
(.ok true))
else
(.ok false)

def law11_in_b1 (minute : Int) (a : Span) : R (Unit ⊕ Bool) :=
  if ((decide (a.From ≤ minute)) && (decide (minute < a.To))) then
(.ok (.inr (true)))
else
(.ok (.inl ()))

def law11_in (l : (List Span)) (minute : Int) : R Bool :=
  (each (fun _ a => fun _ => law11_in_b1 minute a) 0 l ()).bind (alt (fun _ => .ok false) (fun r => .ok r))


def hours_Has_c1 (s : Span) (b : Int) : R Bool :=
  .ok ((decide (s.From ≤ b)) && (decide (b < s.To)))

def slices_IndexFunc_Span_c1_b1 (s1 : Int) (j : Nat) (a : Span) : R (Unit ⊕ Int) :=
  (hours_Has_c1 a s1).bind fun r =>
  if r then
(.ok (.inr ((j : Int))))
else
(.ok (.inl ()))

def slices_IndexFunc_Span_c1 (s : (List Span)) (s1 : Int) : R Int :=
  (each (fun j a => fun _ => slices_IndexFunc_Span_c1_b1 s1 j a) 0 s ()).bind (alt (fun _ => .ok (-1)) (fun r => .ok r))


def slices_ContainsFunc_Span_c1 (s : (List Span)) (s1 : Int) : R Bool :=
  (slices_IndexFunc_Span_c1 s s1).bind fun r =>
  .ok (decide (r ≥ 0))


def hours_Has (l : (List Span)) (minute : Int) : R Bool :=
  (if ((decide (minute ≥ 0)) && (decide (minute < 1440))) then (slices_ContainsFunc_Span_c1 l minute).bind fun r =>
  R.ok r else R.ok false).bind (fun (b : Bool) => .ok b)


def law11_OpeningClosed (a : Airspace) (segment : Int) (minute : Int) : R Bool :=
  (law11_sane).bind fun r =>
  if r then
((ref11_Few a).bind fun r1 =>
  if r1 then
((opening_Minutes a segment).bind fun r2 =>
  if (r2.2 != 0) then
(.ok (((r2.1.length : Int) == 0) && (r2.2 == 1)))
else
(if ((decide (segment < 0)) || (decide (segment ≥ (a.Segments.length : Int)))) then
(.ok false)
else
((idx a.Segments segment).bind fun a1 =>
  if ((decide (a1.Volume < 0)) || (decide (a1.Volume ≥ (a.Volumes.length : Int)))) then
(.ok false)
else
((if ((decide (minute ≥ 0)) && (decide (minute < 1440))) then (if ((a1.Open.length : Int) == 0) then R.ok true else (law11_in a1.Open minute).bind fun r3 =>
  R.ok r3).bind (fun (b1 : Bool) => R.ok b1) else R.ok false).bind (fun (b : Bool) => (if b then (idx a.Volumes a1.Volume).bind fun a2 =>
  (law11_in a2.Closed minute).bind fun r4 =>
  R.ok (!r4) else R.ok false).bind (fun (b2 : Bool) => (hours_Has r2.1 minute).bind fun r5 =>
  .ok (r5 == b2)))))))
else
(.ok true))
else
(.ok false)

end
end Go.Am
