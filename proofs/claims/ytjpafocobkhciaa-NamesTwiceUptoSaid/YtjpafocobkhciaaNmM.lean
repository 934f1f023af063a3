/- What the functions compute. Written by dc.py. -/
import Derived.Test.YtjpafocobkhciaaNmD
namespace Go.Am
open Go
set_option maxRecDepth 100000
set_option linter.unusedSimpArgs false
set_option linter.unusedVariables false
noncomputable section

def names_volume (v : Volume) : R Str :=
  .ok v.Name


def names_must (ok : Bool) (e : Int) : R Unit :=
  if ok then
(.ok ())
else
(.pan ⟨34, .int .i64 e⟩)

def names_index_Volume_volume_b1 (j : Nat) (a : Volume) (m : (List (Str × Int))) : R (List (Str × Int)) :=
  (names_volume a).bind fun r =>
  (names_must (!(Option.isSome (mget m r))) 91).bind fun _ =>
  (names_volume a).bind fun r2 =>
  .ok (mput m r2 (j : Int))

def names_index_Volume_volume (l : (List Volume)) : R (List (Str × Int)) :=
  (eachS (fun j a => fun m => names_index_Volume_volume_b1 j a m) 0 l []).bind ((fun m => .ok m))


def names_Resolve_c2 (s : Sector) : R Str :=
  .ok s.Name

def names_index_Sector_c2_b1 (j : Nat) (a : Sector) (m : (List (Str × Int))) : R (List (Str × Int)) :=
  (names_Resolve_c2 a).bind fun r =>
  (names_must (!(Option.isSome (mget m r))) 91).bind fun _ =>
  (names_Resolve_c2 a).bind fun r2 =>
  .ok (mput m r2 (j : Int))

def names_index_Sector_c2 (l : (List Sector)) : R (List (Str × Int)) :=
  (eachS (fun j a => fun m => names_index_Sector_c2_b1 j a m) 0 l []).bind ((fun m => .ok m))


def names_Resolve_c3 (c : Config) : R Str :=
  .ok c.Name

def names_index_Config_c3_b1 (j : Nat) (a : Config) (m : (List (Str × Int))) : R (List (Str × Int)) :=
  (names_Resolve_c3 a).bind fun r =>
  (names_must (!(Option.isSome (mget m r))) 91).bind fun _ =>
  (names_Resolve_c3 a).bind fun r2 =>
  .ok (mput m r2 (j : Int))

def names_index_Config_c3 (l : (List Config)) : R (List (Str × Int)) :=
  (eachS (fun j a => fun m => names_index_Config_c3_b1 j a m) 0 l []).bind ((fun m => .ok m))


def names_Resolve_c4 (s : Segment) : R Str :=
  .ok s.Name

def names_index_Segment_c4_b1 (j : Nat) (a : Segment) (m : (List (Str × Int))) : R (List (Str × Int)) :=
  (names_Resolve_c4 a).bind fun r =>
  (names_must (!(Option.isSome (mget m r))) 91).bind fun _ =>
  (names_Resolve_c4 a).bind fun r2 =>
  .ok (mput m r2 (j : Int))

def names_index_Segment_c4 (l : (List Segment)) : R (List (Str × Int)) :=
  (eachS (fun j a => fun m => names_index_Segment_c4_b1 j a m) 0 l []).bind ((fun m => .ok m))


def names_Resolve_c5 (r : Route) : R Str :=
  .ok r.Name

def names_index_Route_c5_b1 (j : Nat) (a : Route) (m : (List (Str × Int))) : R (List (Str × Int)) :=
  (names_Resolve_c5 a).bind fun r =>
  (names_must (!(Option.isSome (mget m r))) 91).bind fun _ =>
  (names_Resolve_c5 a).bind fun r2 =>
  .ok (mput m r2 (j : Int))

def names_index_Route_c5 (l : (List Route)) : R (List (Str × Int)) :=
  (eachS (fun j a => fun m => names_index_Route_c5_b1 j a m) 0 l []).bind ((fun m => .ok m))


def names_airport (p : Airport) : R Str :=
  .ok p.Name

def names_index_Airport_airport_b1 (j : Nat) (a : Airport) (m : (List (Str × Int))) : R (List (Str × Int)) :=
  (names_airport a).bind fun r =>
  (names_must (!(Option.isSome (mget m r))) 91).bind fun _ =>
  (names_airport a).bind fun r2 =>
  .ok (mput m r2 (j : Int))

def names_index_Airport_airport (l : (List Airport)) : R (List (Str × Int)) :=
  (eachS (fun j a => fun m => names_index_Airport_airport_b1 j a m) 0 l []).bind ((fun m => .ok m))


def names_class (c : Class) : R Str :=
  .ok c.Name

def names_index_Class_class_b1 (j : Nat) (a : Class) (m : (List (Str × Int))) : R (List (Str × Int)) :=
  (names_class a).bind fun r =>
  (names_must (!(Option.isSome (mget m r))) 91).bind fun _ =>
  (names_class a).bind fun r2 =>
  .ok (mput m r2 (j : Int))

def names_index_Class_class (l : (List Class)) : R (List (Str × Int)) :=
  (eachS (fun j a => fun m => names_index_Class_class_b1 j a m) 0 l []).bind ((fun m => .ok m))


def names_Resolve_c6 (m : Mode) : R Str :=
  .ok m.Name

def names_index_Mode_c6_b1 (j : Nat) (a : Mode) (m : (List (Str × Int))) : R (List (Str × Int)) :=
  (names_Resolve_c6 a).bind fun r =>
  (names_must (!(Option.isSome (mget m r))) 91).bind fun _ =>
  (names_Resolve_c6 a).bind fun r2 =>
  .ok (mput m r2 (j : Int))

def names_index_Mode_c6 (l : (List Mode)) : R (List (Str × Int)) :=
  (eachS (fun j a => fun m => names_index_Mode_c6_b1 j a m) 0 l []).bind ((fun m => .ok m))

def slices_Clone_Sector (s : List Sector) : R (List Sector) := if s.length * 80 ≤ LIM then .ok s else .bad

def slices_Clone_Config (s : List Config) : R (List Config) := if s.length * 64 ≤ LIM then .ok s else .bad

def slices_Clone_Segment (s : List Segment) : R (List Segment) := if s.length * 72 ≤ LIM then .ok s else .bad

def slices_Clone_Route (s : List Route) : R (List Route) := if s.length * 112 ≤ LIM then .ok s else .bad

def slices_Clone_Rule (s : List Rule) : R (List Rule) := if s.length * 80 ≤ LIM then .ok s else .bad


def names_numbers_of (n : (List (Str × Int))) (name : Str) : R Int :=
  (names_must (Option.isSome (mget n name)) 90).bind fun _ =>
  .ok (Option.getD (mget n name) 0)

def names_numbers_all_b1 (n : (List (Str × Int))) (a : Str) (x1 : (List Int)) : R (List Int) :=
  (names_numbers_of n a).bind fun r =>
  if (x1.length + [r].length) * 8 ≤ LIM then
  .ok (x1 ++ [r]) else .bad

def names_numbers_all (n : (List (Str × Int))) (l : (List Str)) : R (List Int) :=
  (eachS (fun _ a => fun x1 => names_numbers_all_b1 n a x1) 0 l []).bind ((fun x1 => .ok x1))



def names_Resolve_c1_h34 (n : Int) : R Int :=
  .ok n

def names_Resolve_b1 (a1 : Airport) : R Unit :=
  (names_index_Mode_c6 a1.Modes).bind fun r7 =>
  .ok ()

def names_Resolve_b2 (r : (List (Str × Int))) (j1 : Nat) (x2 : (List Sector)) : R (List Sector) :=
  (idx x2 (j1 : Int)).bind fun a3 =>
  (names_numbers_all r a3.Names).bind fun r13 =>
  .ok (x2.set (j1 : Int).toNat { a3 with Volumes := r13 })

def names_Resolve_b3 (r1 : (List (Str × Int))) (j2 : Nat) (x4 : (List Config)) : R (List Config) :=
  (idx x4 (j2 : Int)).bind fun a5 =>
  (names_numbers_all r1 a5.Names).bind fun r14 =>
  .ok (x4.set (j2 : Int).toNat { a5 with Sectors := r14 })

def names_Resolve_b4 (r : (List (Str × Int))) (j3 : Nat) (x6 : (List Segment)) : R (List Segment) :=
  (idx x6 (j3 : Int)).bind fun a7 =>
  (names_numbers_of r a7.In).bind fun r15 =>
  .ok (x6.set (j3 : Int).toNat { a7 with Volume := r15 })

def names_Resolve_b5 (r3 : (List (Str × Int))) (r5 : (List (Str × Int))) (j4 : Nat) (l : (List Route)) : R (List Route) :=
  (idx l (j4 : Int)).bind fun a9 =>
  (names_numbers_of r5 a9.A).bind fun r16 =>
  (names_numbers_of r5 a9.B).bind fun r17 =>
  (names_numbers_all r3 a9.Names).bind fun r18 =>
  .ok (((l.set (j4 : Int).toNat { a9 with From := r16 }).set (j4 : Int).toNat { { a9 with From := r16 } with To := r17 }).set (j4 : Int).toNat { { { a9 with From := r16 } with To := r17 } with Segments := r18 })

def names_Resolve_b6 (r5 : (List (Str × Int))) (r6 : (List (Str × Int))) (j5 : Nat) (l1 : (List Rule)) : R (List Rule) :=
  (idx l1 (j5 : Int)).bind fun a11 =>
  (names_numbers_of r6 a11.C).bind fun r19 =>
  if (({ { a11 with Class := r19 } with Airport := 0 }.Kind) == 1) then
((names_numbers_of r5 ({ { a11 with Class := r19 } with Airport := 0 }.A)).bind fun r20 =>
  .ok (((l1.set (j5 : Int).toNat { a11 with Class := r19 }).set (j5 : Int).toNat { { a11 with Class := r19 } with Airport := 0 }).set (j5 : Int).toNat { { { a11 with Class := r19 } with Airport := 0 } with Airport := r20 }))
else
(.ok ((l1.set (j5 : Int).toNat { a11 with Class := r19 }).set (j5 : Int).toNat { { a11 with Class := r19 } with Airport := 0 }))

def names_Resolve_m (a : Airspace) : R (Airspace × Int) :=
  (names_index_Volume_volume a.Volumes).bind fun r =>
  (names_index_Sector_c2 a.Sectors).bind fun r1 =>
  (names_index_Config_c3 a.Configs).bind fun r2 =>
  (names_index_Segment_c4 a.Segments).bind fun r3 =>
  (names_index_Route_c5 a.Routes).bind fun r4 =>
  (names_index_Airport_airport a.Airports).bind fun r5 =>
  (names_index_Class_class a.Classes).bind fun r6 =>
  (eachS (fun _ a1 => fun _ => names_Resolve_b1 a1) 0 a.Airports ()).bind ((fun _ => (slices_Clone_Sector a.Sectors).bind fun r8 =>
  (slices_Clone_Config a.Configs).bind fun r9 =>
  (slices_Clone_Segment a.Segments).bind fun r10 =>
  (slices_Clone_Route a.Routes).bind fun r11 =>
  (slices_Clone_Rule a.Rules).bind fun r12 =>
  (eachS (fun j1 _ => fun x2 => names_Resolve_b2 r j1 x2) 0 r8 r8).bind ((fun x2 => (eachS (fun j2 _ => fun x4 => names_Resolve_b3 r1 j2 x4) 0 r9 r9).bind ((fun x4 => (eachS (fun j3 _ => fun x6 => names_Resolve_b4 r j3 x6) 0 r10 r10).bind ((fun x6 => (eachS (fun j4 _ => fun l => names_Resolve_b5 r3 r5 j4 l) 0 r11 r11).bind ((fun l => (eachS (fun j5 _ => fun l1 => names_Resolve_b6 r5 r6 j5 l1) 0 r12 r12).bind ((fun l1 => .ok (({ Volumes := a.Volumes, Sectors := x2, Configs := x4, Segments := x6, Routes := l, Airports := a.Airports, Classes := a.Classes, Rules := l1 } : Airspace), 0)))))))))))))

def names_Resolve (a : Airspace) : R (Airspace × Int) :=
  (names_Resolve_m a).catch' (catchI 34 .i64 (fun n => (names_Resolve_c1_h34 n).bind fun p => .ok (({ Volumes := [], Sectors := [], Configs := [], Segments := [], Routes := [], Airports := [], Classes := [], Rules := [] } : Airspace), p)) (fun _ => .bad))


def names_find_Volume_c1 (a : Volume) (s1 : Str) : R Bool :=
  (names_volume a).bind fun r =>
  .ok (r == s1)

def slices_IndexFunc_Volume_c1_b1 (s1 : Str) (j : Nat) (a : Volume) : R (Unit ⊕ Int) :=
  (names_find_Volume_c1 a s1).bind fun r =>
  if r then
(.ok (.inr ((j : Int))))
else
(.ok (.inl ()))

def slices_IndexFunc_Volume_c1 (s : (List Volume)) (s1 : Str) : R Int :=
  (each (fun j a => fun _ => slices_IndexFunc_Volume_c1_b1 s1 j a) 0 s ()).bind (alt (fun _ => .ok (-1)) (fun r => .ok r))


def names_find_Volume_volume (l : (List Volume)) (name : Str) : R (Int × Bool) :=
  (slices_IndexFunc_Volume_c1 l name).bind fun n =>
  if n < 0 then
(.ok (0, false))
else
(.ok (n, true))


def names_Volume (a : Airspace) (name : Str) : R (Int × Bool) :=
  (names_find_Volume_volume a.Volumes name).bind fun r =>
  .ok (r.1, r.2)


def names_find_Class_c1 (a : Class) (s1 : Str) : R Bool :=
  (names_class a).bind fun r =>
  .ok (r == s1)

def slices_IndexFunc_Class_c1_b1 (s1 : Str) (j : Nat) (a : Class) : R (Unit ⊕ Int) :=
  (names_find_Class_c1 a s1).bind fun r =>
  if r then
(.ok (.inr ((j : Int))))
else
(.ok (.inl ()))

def slices_IndexFunc_Class_c1 (s : (List Class)) (s1 : Str) : R Int :=
  (each (fun j a => fun _ => slices_IndexFunc_Class_c1_b1 s1 j a) 0 s ()).bind (alt (fun _ => .ok (-1)) (fun r => .ok r))


def names_find_Class_class (l : (List Class)) (name : Str) : R (Int × Bool) :=
  (slices_IndexFunc_Class_c1 l name).bind fun n =>
  if n < 0 then
(.ok (0, false))
else
(.ok (n, true))


def names_Class (a : Airspace) (name : Str) : R (Int × Bool) :=
  (names_find_Class_class a.Classes name).bind fun r =>
  .ok (r.1, r.2)


def names_find_Airport_c1 (a : Airport) (s1 : Str) : R Bool :=
  (names_airport a).bind fun r =>
  .ok (r == s1)

def slices_IndexFunc_Airport_c1_b1 (s1 : Str) (j : Nat) (a : Airport) : R (Unit ⊕ Int) :=
  (names_find_Airport_c1 a s1).bind fun r =>
  if r then
(.ok (.inr ((j : Int))))
else
(.ok (.inl ()))

def slices_IndexFunc_Airport_c1 (s : (List Airport)) (s1 : Str) : R Int :=
  (each (fun j a => fun _ => slices_IndexFunc_Airport_c1_b1 s1 j a) 0 s ()).bind (alt (fun _ => .ok (-1)) (fun r => .ok r))


def names_find_Airport_airport (l : (List Airport)) (name : Str) : R (Int × Bool) :=
  (slices_IndexFunc_Airport_c1 l name).bind fun n =>
  if n < 0 then
(.ok (0, false))
else
(.ok (n, true))


def names_Airport (a : Airspace) (name : Str) : R (Int × Bool) :=
  (names_find_Airport_airport a.Airports name).bind fun r =>
  .ok (r.1, r.2)

def ref08_SameInts_b1 (b : (List Int)) (j : Nat) (a1 : Int) : R (Unit ⊕ Bool) :=
  (idx b (j : Int)).bind fun a2 =>
  if (a1 != a2) then
(.ok (.inr (false)))
else
(.ok (.inl ()))

def ref08_SameInts (a : (List Int)) (b : (List Int)) : R Bool :=
  if ((a.length : Int) != (b.length : Int)) then
(.ok false)
else
((each (fun j a1 => fun _ => ref08_SameInts_b1 b j a1) 0 a ()).bind (alt (fun _ => .ok true) (fun r => .ok r)))

def ref08_SameSpans_b1 (b : (List Span)) (j : Nat) (a1 : Span) : R (Unit ⊕ Bool) :=
  (idx b (j : Int)).bind fun a2 =>
  if ((a1.From == a2.From) && (a1.To == a2.To)) then
(.ok (.inl ()))
else
(.ok (.inr (false)))

def ref08_SameSpans (a : (List Span)) (b : (List Span)) : R Bool :=
  if ((a.length : Int) != (b.length : Int)) then
(.ok false)
else
((each (fun j a1 => fun _ => ref08_SameSpans_b1 b j a1) 0 a ()).bind (alt (fun _ => .ok true) (fun r => .ok r)))

def ref08_SameNames_b1 (b : (List Str)) (j : Nat) (a1 : Str) : R (Unit ⊕ Bool) :=
  (idx b (j : Int)).bind fun a2 =>
  if (a1 == a2) then
(.ok (.inl ()))
else
(.ok (.inr (false)))

def ref08_SameNames (a : (List Str)) (b : (List Str)) : R Bool :=
  if ((a.length : Int) != (b.length : Int)) then
(.ok false)
else
((each (fun j a1 => fun _ => ref08_SameNames_b1 b j a1) 0 a ()).bind (alt (fun _ => .ok true) (fun r => .ok r)))

def ref08_Same_j1 (x1 : Bool) : R (Unit ⊕ Bool) :=
  if x1 then
(.ok (.inr (false)))
else
(.ok (.inl ()))

def ref08_Same_b1 (b : Airspace) (j : Nat) (a1 : Volume) : R (Unit ⊕ Bool) :=
  (idx b.Volumes (j : Int)).bind fun a2 =>
  if (!(a1.Name == a2.Name)) then
(ref08_Same_j1 true)
else
((ref08_SameSpans a1.Closed a2.Closed).bind fun r =>
  ref08_Same_j1 (!r))

def ref08_Same_b2 (b : Airspace) (j1 : Nat) (a3 : Sector) : R (Unit ⊕ Bool) :=
  (idx b.Sectors (j1 : Int)).bind fun a4 =>
  (if (!(a3.Name == a4.Name)) then R.ok true else (ref08_SameNames a3.Names a4.Names).bind fun r1 =>
  R.ok (!r1)).bind (fun (b1 : Bool) => (if b1 then R.ok true else (ref08_SameInts a3.Volumes a4.Volumes).bind fun r2 =>
  R.ok (!r2)).bind (fun (b2 : Bool) => if ((b2 || (a3.Radar != a4.Radar)) || (a3.Procedural != a4.Procedural)) then
(.ok (.inr (false)))
else
(.ok (.inl ()))))

def ref08_Same_b3 (b : Airspace) (j2 : Nat) (a5 : Config) : R (Unit ⊕ Bool) :=
  (idx b.Configs (j2 : Int)).bind fun a6 =>
  (if (!(a5.Name == a6.Name)) then R.ok true else (ref08_SameNames a5.Names a6.Names).bind fun r3 =>
  R.ok (!r3)).bind (fun (b3 : Bool) => (if b3 then R.ok true else (ref08_SameInts a5.Sectors a6.Sectors).bind fun r4 =>
  R.ok (!r4)).bind (fun (b4 : Bool) => if b4 then
(.ok (.inr (false)))
else
(.ok (.inl ()))))

def ref08_Same_b4 (b : Airspace) (j3 : Nat) (a7 : Segment) : R (Unit ⊕ Bool) :=
  (idx b.Segments (j3 : Int)).bind fun a8 =>
  (if ((((!(a7.Name == a8.Name)) || (!(a7.In == a8.In))) || (a7.Volume != a8.Volume)) || (a7.Length != a8.Length)) then R.ok true else (ref08_SameSpans a7.Open a8.Open).bind fun r5 =>
  R.ok (!r5)).bind (fun (b5 : Bool) => if b5 then
(.ok (.inr (false)))
else
(.ok (.inl ())))

def ref08_Same_b5 (b : Airspace) (j4 : Nat) (a9 : Route) : R (Unit ⊕ Bool) :=
  (idx b.Routes (j4 : Int)).bind fun a10 =>
  (if (((((!(a9.Name == a10.Name)) || (!(a9.A == a10.A))) || (!(a9.B == a10.B))) || (a9.From != a10.From)) || (a9.To != a10.To)) then R.ok true else (ref08_SameNames a9.Names a10.Names).bind fun r6 =>
  R.ok (!r6)).bind (fun (b6 : Bool) => (if b6 then R.ok true else (ref08_SameInts a9.Segments a10.Segments).bind fun r7 =>
  R.ok (!r7)).bind (fun (b7 : Bool) => if b7 then
(.ok (.inr (false)))
else
(.ok (.inl ()))))

def ref08_Same_b6 (a12 : Airport) (j6 : Nat) (a13 : Mode) : R (Unit ⊕ Bool) :=
  (idx a12.Modes (j6 : Int)).bind fun a14 =>
  if ((a13.Name == a14.Name) && (a13.Places == a14.Places)) then
(.ok (.inl ()))
else
(.ok (.inr (false)))

def ref08_Same_b7 (b : Airspace) (j5 : Nat) (a11 : Airport) : R (Unit ⊕ Bool) :=
  (idx b.Airports (j5 : Int)).bind fun a12 =>
  if ((!(a11.Name == a12.Name)) || ((a11.Modes.length : Int) != (a12.Modes.length : Int))) then
(.ok (.inr (false)))
else
((each (fun j6 a13 => fun _ => ref08_Same_b6 a12 j6 a13) 0 a11.Modes ()).bind (alt (fun _ => .ok (.inl ())) (fun r => .ok (.inr (r)))))

def ref08_Same_b8 (b : Airspace) (j7 : Nat) (a15 : Class) : R (Unit ⊕ Bool) :=
  (idx b.Classes (j7 : Int)).bind fun a16 =>
  if ((a15.Name == a16.Name) && ((a15.Slow == a16.Slow) && ((a15.Fast == a16.Fast) && (a15.Places == a16.Places)))) then
(.ok (.inl ()))
else
(.ok (.inr (false)))

def ref08_Same_b9 (b : Airspace) (j8 : Nat) (a17 : Rule) : R (Unit ⊕ Bool) :=
  (idx b.Rules (j8 : Int)).bind fun a18 =>
  if ((a17.Kind == a18.Kind) && ((a17.C == a18.C) && ((a17.A == a18.A) && ((a17.Class == a18.Class) && ((a17.Airport == a18.Airport) && ((a17.N == a18.N) && ((a17.Hours.From == a18.Hours.From) && (a17.Hours.To == a18.Hours.To)))))))) then
(.ok (.inl ()))
else
(.ok (.inr (false)))

def ref08_Same (a : Airspace) (b : Airspace) : R Bool :=
  if (((((((((a.Volumes.length : Int) != (b.Volumes.length : Int)) || ((a.Sectors.length : Int) != (b.Sectors.length : Int))) || ((a.Configs.length : Int) != (b.Configs.length : Int))) || ((a.Segments.length : Int) != (b.Segments.length : Int))) || ((a.Routes.length : Int) != (b.Routes.length : Int))) || ((a.Airports.length : Int) != (b.Airports.length : Int))) || ((a.Classes.length : Int) != (b.Classes.length : Int))) || ((a.Rules.length : Int) != (b.Rules.length : Int))) then
(.ok false)
else
((each (fun j a1 => fun _ => ref08_Same_b1 b j a1) 0 a.Volumes ()).bind (alt (fun _ => (each (fun j1 a3 => fun _ => ref08_Same_b2 b j1 a3) 0 a.Sectors ()).bind (alt (fun _ => (each (fun j2 a5 => fun _ => ref08_Same_b3 b j2 a5) 0 a.Configs ()).bind (alt (fun _ => (each (fun j3 a7 => fun _ => ref08_Same_b4 b j3 a7) 0 a.Segments ()).bind (alt (fun _ => (each (fun j4 a9 => fun _ => ref08_Same_b5 b j4 a9) 0 a.Routes ()).bind (alt (fun _ => (each (fun j5 a11 => fun _ => ref08_Same_b7 b j5 a11) 0 a.Airports ()).bind (alt (fun _ => (each (fun j7 a15 => fun _ => ref08_Same_b8 b j7 a15) 0 a.Classes ()).bind (alt (fun _ => (each (fun j8 a17 => fun _ => ref08_Same_b9 b j8 a17) 0 a.Rules ()).bind (alt (fun _ => .ok true) (fun r => .ok r))) (fun r => .ok r))) (fun r => .ok r))) (fun r => .ok r))) (fun r => .ok r))) (fun r => .ok r))) (fun r => .ok r))) (fun r => .ok r)))


def law09_sane : R Bool :=
  (names_Resolve ({ Volumes := [({ Name := [97], Closed := [] } : Volume), ({ Name := [98], Closed := [] } : Volume)], Sectors := [({ Name := [115], Names := [[98], [97]], Volumes := [], Radar := 0, Procedural := 0 } : Sector)], Configs := [], Segments := [], Routes := [], Airports := [], Classes := [({ Name := [104, 101, 97, 118, 121], Slow := 0, Fast := 0, Places := 0 } : Class)], Rules := [({ Kind := 2, C := [104, 101, 97, 118, 121], A := [110, 111, 119, 104, 101, 114, 101], Class := 0, Airport := 5, N := 0, Hours := ({ From := 0, To := 0 } : Span) } : Rule)] } : Airspace)).bind fun r =>
  (names_Resolve ({ Volumes := [], Sectors := [], Configs := [], Segments := [], Routes := [], Airports := [], Classes := [], Rules := [] } : Airspace)).bind fun r1 =>
  (names_Resolve ({ Volumes := [({ Name := [], Closed := [] } : Volume), ({ Name := [], Closed := [] } : Volume)], Sectors := [], Configs := [], Segments := [], Routes := [], Airports := [], Classes := [], Rules := [] } : Airspace)).bind fun r2 =>
  (names_Resolve ({ Volumes := [], Sectors := [], Configs := [], Segments := [({ Name := [103], In := [97], Volume := 0, Length := 0, Open := [] } : Segment)], Routes := [], Airports := [], Classes := [], Rules := [] } : Airspace)).bind fun r3 =>
  (names_Volume ({ Volumes := [({ Name := [97], Closed := [] } : Volume), ({ Name := [98], Closed := [] } : Volume)], Sectors := [({ Name := [115], Names := [[98], [97]], Volumes := [], Radar := 0, Procedural := 0 } : Sector)], Configs := [], Segments := [], Routes := [], Airports := [], Classes := [({ Name := [104, 101, 97, 118, 121], Slow := 0, Fast := 0, Places := 0 } : Class)], Rules := [({ Kind := 2, C := [104, 101, 97, 118, 121], A := [110, 111, 119, 104, 101, 114, 101], Class := 0, Airport := 5, N := 0, Hours := ({ From := 0, To := 0 } : Span) } : Rule)] } : Airspace) [98]).bind fun r4 =>
  (names_Volume ({ Volumes := [], Sectors := [], Configs := [], Segments := [], Routes := [], Airports := [], Classes := [], Rules := [] } : Airspace) []).bind fun r5 =>
  (names_Class ({ Volumes := [({ Name := [97], Closed := [] } : Volume), ({ Name := [98], Closed := [] } : Volume)], Sectors := [({ Name := [115], Names := [[98], [97]], Volumes := [], Radar := 0, Procedural := 0 } : Sector)], Configs := [], Segments := [], Routes := [], Airports := [], Classes := [({ Name := [104, 101, 97, 118, 121], Slow := 0, Fast := 0, Places := 0 } : Class)], Rules := [({ Kind := 2, C := [104, 101, 97, 118, 121], A := [110, 111, 119, 104, 101, 114, 101], Class := 0, Airport := 5, N := 0, Hours := ({ From := 0, To := 0 } : Span) } : Rule)] } : Airspace) [104, 101, 97, 118, 121]).bind fun r6 =>
  (names_Airport ({ Volumes := [({ Name := [97], Closed := [] } : Volume), ({ Name := [98], Closed := [] } : Volume)], Sectors := [({ Name := [115], Names := [[98], [97]], Volumes := [], Radar := 0, Procedural := 0 } : Sector)], Configs := [], Segments := [], Routes := [], Airports := [], Classes := [({ Name := [104, 101, 97, 118, 121], Slow := 0, Fast := 0, Places := 0 } : Class)], Rules := [({ Kind := 2, C := [104, 101, 97, 118, 121], A := [110, 111, 119, 104, 101, 114, 101], Class := 0, Airport := 5, N := 0, Hours := ({ From := 0, To := 0 } : Span) } : Rule)] } : Airspace) [97]).bind fun r7 =>
  if ((((((r.2 != 0) || (r1.2 != 0)) || (r2.2 != 91)) || (r3.2 != 90)) || ((r.1.Sectors.length : Int) != 1)) || ((r.1.Rules.length : Int) != 1)) then
(.ok false)
else
((idx r.1.Sectors 0).bind fun a =>
  (ref08_SameInts a.Volumes [1, 0]).bind fun r8 =>
  (if r8 then (idx r.1.Rules 0).bind fun a1 =>
  R.ok (a1.Airport == 0) else R.ok false).bind (fun (b : Bool) => (if b then (idx r.1.Rules 0).bind fun a2 =>
  R.ok (a2.A == [110, 111, 119, 104, 101, 114, 101]) else R.ok false).bind (fun (b1 : Bool) => (if b1 then (ref08_Same r1.1 ({ Volumes := [], Sectors := [], Configs := [], Segments := [], Routes := [], Airports := [], Classes := [], Rules := [] } : Airspace)).bind fun r9 =>
  R.ok r9 else R.ok false).bind (fun (b2 : Bool) => .ok ((((((b2 && (r4.1 == 1)) && r4.2) && (!r5.2)) && (r6.1 == 0)) && r6.2) && (!r7.2))))))

def ref09_Few_b1 (a1 : Sector) (n : Int) : R Int :=
  .ok (IntKind.wrap .i64 (n + (a1.Names.length : Int)))

def ref09_Few_b2 (a2 : Config) (n1 : Int) : R Int :=
  .ok (IntKind.wrap .i64 (n1 + (a2.Names.length : Int)))

def ref09_Few_b3 (a3 : Route) (n2 : Int) : R Int :=
  .ok (IntKind.wrap .i64 (n2 + (a3.Names.length : Int)))

def ref09_Few_b4 (a4 : Airport) (n3 : Int) : R Int :=
  .ok (IntKind.wrap .i64 (n3 + (a4.Modes.length : Int)))

def ref09_Few (a : Airspace) : R Bool :=
  if (IntKind.wrap .i64 ((IntKind.wrap .i64 ((IntKind.wrap .i64 ((IntKind.wrap .i64 ((IntKind.wrap .i64 ((IntKind.wrap .i64 ((IntKind.wrap .i64 ((a.Volumes.length : Int) + (a.Sectors.length : Int))) + (a.Configs.length : Int))) + (a.Segments.length : Int))) + (a.Routes.length : Int))) + (a.Airports.length : Int))) + (a.Classes.length : Int))) + (a.Rules.length : Int))) > 80 then
(.ok false)
else
((eachS (fun _ a1 => fun n => ref09_Few_b1 a1 n) 0 a.Sectors (IntKind.wrap .i64 ((IntKind.wrap .i64 ((IntKind.wrap .i64 ((IntKind.wrap .i64 ((IntKind.wrap .i64 ((IntKind.wrap .i64 ((IntKind.wrap .i64 ((a.Volumes.length : Int) + (a.Sectors.length : Int))) + (a.Configs.length : Int))) + (a.Segments.length : Int))) + (a.Routes.length : Int))) + (a.Airports.length : Int))) + (a.Classes.length : Int))) + (a.Rules.length : Int)))).bind ((fun n => (eachS (fun _ a2 => fun n1 => ref09_Few_b2 a2 n1) 0 a.Configs n).bind ((fun n1 => (eachS (fun _ a3 => fun n2 => ref09_Few_b3 a3 n2) 0 a.Routes n1).bind ((fun n2 => (eachS (fun _ a4 => fun n3 => ref09_Few_b4 a4 n3) 0 a.Airports n2).bind ((fun n3 => .ok (decide (n3 ≤ 300)))))))))))

def law09_NamesTwice_b1 (j : Nat) (x8 : (List Airspace)) : R ((List Airspace) ⊕ Bool) :=
  (idx x8 (j : Int)).bind fun a18 =>
  (names_Resolve a18).bind fun r3 =>
  if (r3.2 != 91) then
(.ok (.inr (false)))
else
(.ok (.inl x8))

def law09_NamesTwice_j6 (r : Bool) (x6 : (List Airspace)) : R Bool :=
  (each (fun j _ => fun x8 => law09_NamesTwice_b1 j x8) 0 x6 x6).bind (alt (fun x8 => .ok true) (fun r => .ok r))

def law09_NamesTwice_j3 (a : Airspace) (r : Bool) (x5 : (List Airspace)) (l2 : (List Airport)) (l3 : (List Airport)) : R Bool :=
  if (x5.length + [({ Volumes := a.Volumes, Sectors := a.Sectors, Configs := a.Configs, Segments := a.Segments, Routes := a.Routes, Airports := l2, Classes := a.Classes, Rules := a.Rules } : Airspace), ({ Volumes := a.Volumes, Sectors := a.Sectors, Configs := a.Configs, Segments := a.Segments, Routes := a.Routes, Airports := l3, Classes := a.Classes, Rules := a.Rules } : Airspace)].length) * 192 ≤ LIM then
  law09_NamesTwice_j6 r (x5 ++ [({ Volumes := a.Volumes, Sectors := a.Sectors, Configs := a.Configs, Segments := a.Segments, Routes := a.Routes, Airports := l2, Classes := a.Classes, Rules := a.Rules } : Airspace), ({ Volumes := a.Volumes, Sectors := a.Sectors, Configs := a.Configs, Segments := a.Segments, Routes := a.Routes, Airports := l3, Classes := a.Classes, Rules := a.Rules } : Airspace)]) else .bad

def law09_NamesTwice_j4 (a : Airspace) (b : Int) (r : Bool) (x5 : (List Airspace)) (l2 : (List Airport)) : R Bool :=
  if a.Airports.length * 40 ≤ LIM then
  if (a.Airports.length : Int) ≠ 0 then if (a.Airports.length : Int) ≠ 0 then (idx a.Airports (Int.tmod (IntKind.wrap .i64 b) (a.Airports.length : Int))).bind fun a14 =>
  if a14.Modes.length * 24 ≤ LIM then
  if (a14.Modes.length + [({ Name := [109], Places := 1 } : Mode), ({ Name := [109], Places := 2 } : Mode)].length) * 24 ≤ LIM then
  law09_NamesTwice_j3 a r x5 l2 (a.Airports.set (Int.tmod (IntKind.wrap .i64 b) (a.Airports.length : Int)).toNat { a14 with Modes := (a14.Modes ++ [({ Name := [109], Places := 1 } : Mode), ({ Name := [109], Places := 2 } : Mode)]) }) else .bad else .bad else .bad else .bad else .bad

def law09_NamesTwice_j5 (a : Airspace) (b : Int) (r : Bool) (x5 : (List Airspace)) : R Bool :=
  if (a.Airports.length : Int) ≠ 0 then (idx a.Airports (Int.tmod (IntKind.wrap .i64 b) (a.Airports.length : Int))).bind fun a11 =>
  if a.Airports.length * 40 ≤ LIM then
  if (a.Airports.length + [({ Name := a11.Name, Modes := [] } : Airport)].length) * 40 ≤ LIM then
  law09_NamesTwice_j4 a b r x5 (a.Airports ++ [({ Name := a11.Name, Modes := [] } : Airport)]) else .bad else .bad else .bad

def law09_NamesTwice_j7 (a : Airspace) (b : Int) (r : Bool) (x5 : (List Airspace)) : R Bool :=
  if (a.Airports.length : Int) > 0 then
(law09_NamesTwice_j5 a b r x5)
else
(law09_NamesTwice_j6 r x5)

def law09_NamesTwice_j2 (a : Airspace) (b : Int) (r : Bool) (x4 : (List Airspace)) (l1 : (List Class)) : R Bool :=
  if (x4.length + [({ Volumes := a.Volumes, Sectors := a.Sectors, Configs := a.Configs, Segments := a.Segments, Routes := a.Routes, Airports := a.Airports, Classes := l1, Rules := a.Rules } : Airspace)].length) * 192 ≤ LIM then
  law09_NamesTwice_j7 a b r (x4 ++ [({ Volumes := a.Volumes, Sectors := a.Sectors, Configs := a.Configs, Segments := a.Segments, Routes := a.Routes, Airports := a.Airports, Classes := l1, Rules := a.Rules } : Airspace)]) else .bad

def law09_NamesTwice_j8 (a : Airspace) (b : Int) (r : Bool) (x4 : (List Airspace)) : R Bool :=
  if (a.Classes.length : Int) > 0 then
(if (a.Classes.length : Int) ≠ 0 then (idx a.Classes (Int.tmod (IntKind.wrap .i64 b) (a.Classes.length : Int))).bind fun a8 =>
  if a.Classes.length * 40 ≤ LIM then
  if (a.Classes.length + [({ Name := a8.Name, Slow := 0, Fast := 0, Places := 0 } : Class)].length) * 40 ≤ LIM then
  law09_NamesTwice_j2 a b r x4 (a.Classes ++ [({ Name := a8.Name, Slow := 0, Fast := 0, Places := 0 } : Class)]) else .bad else .bad else .bad)
else
(law09_NamesTwice_j7 a b r x4)

def law09_NamesTwice_j9 (a : Airspace) (b : Int) (r : Bool) (x3 : (List Airspace)) : R Bool :=
  if (a.Segments.length : Int) > 0 then
(if (a.Segments.length : Int) ≠ 0 then (idx a.Segments (Int.tmod (IntKind.wrap .i64 b) (a.Segments.length : Int))).bind fun a7 =>
  if ([({ Name := a7.Name, In := [], Volume := 0, Length := 0, Open := [] } : Segment)].length + a.Segments.length) * 72 ≤ LIM then
  if (x3.length + [({ Volumes := a.Volumes, Sectors := a.Sectors, Configs := a.Configs, Segments := ([({ Name := a7.Name, In := [], Volume := 0, Length := 0, Open := [] } : Segment)] ++ a.Segments), Routes := a.Routes, Airports := a.Airports, Classes := a.Classes, Rules := a.Rules } : Airspace)].length) * 192 ≤ LIM then
  law09_NamesTwice_j8 a b r (x3 ++ [({ Volumes := a.Volumes, Sectors := a.Sectors, Configs := a.Configs, Segments := ([({ Name := a7.Name, In := [], Volume := 0, Length := 0, Open := [] } : Segment)] ++ a.Segments), Routes := a.Routes, Airports := a.Airports, Classes := a.Classes, Rules := a.Rules } : Airspace)]) else .bad else .bad else .bad)
else
(law09_NamesTwice_j8 a b r x3)

def law09_NamesTwice_j10 (a : Airspace) (b : Int) (r : Bool) (x2 : (List Airspace)) : R Bool :=
  if (a.Routes.length : Int) > 0 then
(if (a.Routes.length : Int) ≠ 0 then (idx a.Routes (Int.tmod (IntKind.wrap .i64 b) (a.Routes.length : Int))).bind fun a6 =>
  if ([({ Name := a6.Name, A := [], B := [], From := 0, To := 0, Names := [], Segments := [] } : Route)].length + a.Routes.length) * 112 ≤ LIM then
  if (x2.length + [({ Volumes := a.Volumes, Sectors := a.Sectors, Configs := a.Configs, Segments := a.Segments, Routes := ([({ Name := a6.Name, A := [], B := [], From := 0, To := 0, Names := [], Segments := [] } : Route)] ++ a.Routes), Airports := a.Airports, Classes := a.Classes, Rules := a.Rules } : Airspace)].length) * 192 ≤ LIM then
  law09_NamesTwice_j9 a b r (x2 ++ [({ Volumes := a.Volumes, Sectors := a.Sectors, Configs := a.Configs, Segments := a.Segments, Routes := ([({ Name := a6.Name, A := [], B := [], From := 0, To := 0, Names := [], Segments := [] } : Route)] ++ a.Routes), Airports := a.Airports, Classes := a.Classes, Rules := a.Rules } : Airspace)]) else .bad else .bad else .bad)
else
(law09_NamesTwice_j9 a b r x2)

def law09_NamesTwice_j11 (a : Airspace) (b : Int) (r : Bool) (x1 : (List Airspace)) : R Bool :=
  if (a.Configs.length : Int) > 0 then
(if (a.Configs.length : Int) ≠ 0 then (idx a.Configs (Int.tmod (IntKind.wrap .i64 b) (a.Configs.length : Int))).bind fun a5 =>
  if ([({ Name := a5.Name, Names := [], Sectors := [] } : Config)].length + a.Configs.length) * 64 ≤ LIM then
  if (x1.length + [({ Volumes := a.Volumes, Sectors := a.Sectors, Configs := ([({ Name := a5.Name, Names := [], Sectors := [] } : Config)] ++ a.Configs), Segments := a.Segments, Routes := a.Routes, Airports := a.Airports, Classes := a.Classes, Rules := a.Rules } : Airspace)].length) * 192 ≤ LIM then
  law09_NamesTwice_j10 a b r (x1 ++ [({ Volumes := a.Volumes, Sectors := a.Sectors, Configs := ([({ Name := a5.Name, Names := [], Sectors := [] } : Config)] ++ a.Configs), Segments := a.Segments, Routes := a.Routes, Airports := a.Airports, Classes := a.Classes, Rules := a.Rules } : Airspace)]) else .bad else .bad else .bad)
else
(law09_NamesTwice_j10 a b r x1)

def law09_NamesTwice_j12 (a : Airspace) (b : Int) (r : Bool) (x : (List Airspace)) : R Bool :=
  if (a.Sectors.length : Int) > 0 then
(if (a.Sectors.length : Int) ≠ 0 then (idx a.Sectors (Int.tmod (IntKind.wrap .i64 b) (a.Sectors.length : Int))).bind fun a4 =>
  if ([({ Name := a4.Name, Names := [], Volumes := [], Radar := 0, Procedural := 0 } : Sector)].length + a.Sectors.length) * 80 ≤ LIM then
  if (x.length + [({ Volumes := a.Volumes, Sectors := ([({ Name := a4.Name, Names := [], Volumes := [], Radar := 0, Procedural := 0 } : Sector)] ++ a.Sectors), Configs := a.Configs, Segments := a.Segments, Routes := a.Routes, Airports := a.Airports, Classes := a.Classes, Rules := a.Rules } : Airspace)].length) * 192 ≤ LIM then
  law09_NamesTwice_j11 a b r (x ++ [({ Volumes := a.Volumes, Sectors := ([({ Name := a4.Name, Names := [], Volumes := [], Radar := 0, Procedural := 0 } : Sector)] ++ a.Sectors), Configs := a.Configs, Segments := a.Segments, Routes := a.Routes, Airports := a.Airports, Classes := a.Classes, Rules := a.Rules } : Airspace)]) else .bad else .bad else .bad)
else
(law09_NamesTwice_j11 a b r x)

def law09_NamesTwice_j1 (a : Airspace) (b : Int) (r : Bool) (l : (List Volume)) : R Bool :=
  if [({ Volumes := l, Sectors := a.Sectors, Configs := a.Configs, Segments := a.Segments, Routes := a.Routes, Airports := a.Airports, Classes := a.Classes, Rules := a.Rules } : Airspace)].length * 192 ≤ LIM then
  law09_NamesTwice_j12 a b r [({ Volumes := l, Sectors := a.Sectors, Configs := a.Configs, Segments := a.Segments, Routes := a.Routes, Airports := a.Airports, Classes := a.Classes, Rules := a.Rules } : Airspace)] else .bad

def law09_NamesTwice (a : Airspace) (b : Int) : R Bool :=
  (law09_sane).bind fun r =>
  if r then
((ref09_Few a).bind fun r1 =>
  if r1 then
((names_Resolve a).bind fun r2 =>
  if (r2.2 != 0) then
(.ok true)
else
(if (a.Volumes.length : Int) > 0 then
(if (a.Volumes.length : Int) ≠ 0 then (idx a.Volumes (Int.tmod (IntKind.wrap .i64 b) (a.Volumes.length : Int))).bind fun a1 =>
  if a.Volumes.length * 40 ≤ LIM then
  if (a.Volumes.length + [({ Name := a1.Name, Closed := [] } : Volume)].length) * 40 ≤ LIM then
  law09_NamesTwice_j1 a b r (a.Volumes ++ [({ Name := a1.Name, Closed := [] } : Volume)]) else .bad else .bad else .bad)
else
(law09_NamesTwice_j12 a b r [])))
else
(.ok true))
else
(.ok false)

end
end Go.Am
