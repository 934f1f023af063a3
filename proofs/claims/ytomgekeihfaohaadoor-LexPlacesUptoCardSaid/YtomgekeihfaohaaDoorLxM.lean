/- What the functions compute. Written by dc.py. -/
import Derived.Test.YtomgekeihfaohaaDoorLxD
import Derived.Lib.Bytealg
import Derived.Lib.ItoaNum
import Derived.Lib.Join
import Derived.Lib.AtoiAll
namespace Go.Am
open Go
set_option maxRecDepth 100000
set_option linter.unusedSimpArgs false
set_option linter.unusedVariables false
noncomputable section
def strings_IndexByte (s : Str) (c : Int) : R Int := .ok (Lib.indexByte s c.toNat.toUInt8)


def lex_class (c : Int) : R Int :=
  if (((decide (c ≥ 97)) && (decide (c ≤ 122))) || ((decide (c ≥ 65)) && (decide (c ≤ 90)))) then
(.ok 2)
else
(if ((decide (c ≥ 48)) && (decide (c ≤ 57))) then
(.ok 3)
else
(if (c == 95) then
(.ok 5)
else
(if ((((c == 32) || (c == 9)) || (c == 10)) || (c == 13)) then
(.ok 1)
else
((strings_IndexByte [123, 125, 40, 41, 59, 44, 61, 35, 47, 60, 33, 45, 46] c).bind fun r =>
  if r ≥ 0 then
(.ok 4)
else
(.ok 0)))))


def lex_scanner_wrong (s : T48) : R Unit :=
  .pan ⟨42, .int .i64 s.fAt⟩

def slices_Index_int_b1 (v : Int) (j : Nat) (a : Int) : R (Unit ⊕ Int) :=
  if (v == a) then
(.ok (.inr ((j : Int))))
else
(.ok (.inl ()))

def slices_Index_int (s : (List Int)) (v : Int) : R Int :=
  (each (fun j a => fun _ => slices_Index_int_b1 v j a) 0 s ()).bind (alt (fun _ => .ok (-1)) (fun r => .ok r))


def slices_Contains_int (s : (List Int)) (v : Int) : R Bool :=
  (slices_Index_int s v).bind fun r =>
  .ok (decide (r ≥ 0))

def lex_scanner_run_b1 (s : T48) (some : (List Int)) (n : Int) : R (Int ⊕ Int) :=
  (if (decide (n < (s.fSrc.length : Int))) then (idx s.fSrc n).bind fun a =>
  (lex_class (a.toNat : Int)).bind fun r =>
  (slices_Contains_int some r).bind fun r1 =>
  R.ok r1 else R.ok false).bind (fun (b : Bool) => if b then
(.ok (.inl (IntKind.wrap .i64 (n + 1))))
else
(.ok (.inr (n))))

def lex_scanner_run_j1 (s : T48) (n1 : Int) : R Str :=
  if 0 ≤ s.fAt ∧ s.fAt ≤ n1 ∧ n1 ≤ (s.fSrc.length : Int) then
  .ok (cut s.fSrc s.fAt n1) else .bad

def lex_scanner_run (s : T48) (some : (List Int)) : R Str :=
  (loop (fun n => lex_scanner_run_b1 s some n) s.fAt).bind (fun n1 => lex_scanner_run_j1 s n1)

def lex_Name_b1 (a1 : UInt8) : R (Unit ⊕ Bool) :=
  (lex_class (a1.toNat : Int)).bind fun c =>
  if (((c != 2) && (c != 3)) && (c != 5)) then
(.ok (.inr (false)))
else
(.ok (.inl ()))

def lex_Name (s : Str) : R Bool :=
  (if ((s == []) || (decide ((s.length : Int) > 32))) then R.ok true else (idx s 0).bind fun a =>
  (lex_class (a.toNat : Int)).bind fun r =>
  R.ok (r != 2)).bind (fun (b : Bool) => if b then
(.ok false)
else
(if s.length ≤ LIM then
((each (fun _ a1 => fun _ => lex_Name_b1 a1) 0 s ()).bind (alt (fun _ => .ok true) (fun r => .ok r))) else .bad))


def lex_valid (t : Token) : R Bool :=
  if (t.Kind == 1) then
((lex_Name t.Text).bind fun r =>
  .ok (r && (t.N == 0)))
else
(if (t.Kind == 2) then
(.ok (((t.Text == []) && (decide (t.N ≥ 0))) && (decide (t.N ≤ 1099511627776))))
else
(if (t.Kind == 3) then
((if ((t.Text.length : Int) == 1) then (idx t.Text 0).bind fun a =>
  (lex_class (a.toNat : Int)).bind fun r1 =>
  R.ok (r1 == 4) else R.ok false).bind (fun (b : Bool) => .ok (b && (t.N == 0))))
else
(.ok false)))

def strconv_Atoi (s : Str) : R (Int × Bool) := if s.length ≤ 281474976710656 then (match Lib.atoiAll s with
  | .ok v => .ok (v, false)
  | Lib.NumEnd.syntax => .ok (0, true)
  | .range => .ok (Lib.atoiSat s, true)) else .bad

def strconv_Itoa (n : Int) : R Str := if -9223372036854775808 ≤ n ∧ n ≤ 9223372036854775807 then .ok (Lib.itoa n) else .bad


def internal_stringslite_HasPrefix (s : Str) (vprefix : Str) : R Bool :=
  (if (decide ((s.length : Int) ≥ (vprefix.length : Int))) then if 0 ≤ (vprefix.length : Int) ∧ (vprefix.length : Int) ≤ (s.length : Int) then
  R.ok ((s.take (Int.toNat (vprefix.length : Int))) == vprefix) else .bad else R.ok false).bind (fun (b : Bool) => .ok b)


def strings_HasPrefix (s : Str) (vprefix : Str) : R Bool :=
  (internal_stringslite_HasPrefix s vprefix).bind fun r =>
  .ok r


def lex_scanner_space_2 (s0_src : Str) (s0_at : Int) (l : (List Token)) : R Int :=
  (lex_scanner_run ({ fSrc := s0_src, fAt := s0_at, fL := l } : T48) [1]).bind fun r =>
  .ok (IntKind.wrap .i64 (s0_at + (r.length : Int)))


def lex_scanner_add_2 (text : Str) (t : Token) (s0_src : Str) (s0_at : Int) (l : (List Token)) : R (List Token) :=
  (lex_valid t).bind fun r =>
  if r then
(if (l.length + [({ Kind := t.Kind, Text := t.Text, N := t.N, At := s0_at } : Token)].length) * 40 ≤ LIM then
  .ok (l ++ [({ Kind := t.Kind, Text := t.Text, N := t.N, At := s0_at } : Token)]) else .bad)
else
(.pan ⟨42, .int .i64 s0_at⟩)


def lex_scanner_name_2 (s0_src : Str) (s0_at : Int) (l : (List Token)) : R (Int × (List Token)) :=
  (lex_scanner_run ({ fSrc := s0_src, fAt := s0_at, fL := l } : T48) [2, 3, 5]).bind fun t =>
  (lex_scanner_add_2 t ({ Kind := 1, Text := t, N := 0, At := 0 } : Token) s0_src s0_at l).bind fun r =>
  .ok ((IntKind.wrap .i64 (s0_at + (t.length : Int))), r)


def lex_scanner_number_2 (s0_src : Str) (s0_at : Int) (l : (List Token)) : R (Int × (List Token)) :=
  (lex_scanner_run ({ fSrc := s0_src, fAt := s0_at, fL := l } : T48) [3]).bind fun t =>
  (strconv_Atoi t).bind fun r =>
  (if r.2 then R.ok true else (strconv_Itoa r.1).bind fun r1 =>
  R.ok (!(r1 == t))).bind (fun (b : Bool) => if b then
(.pan ⟨42, .int .i64 s0_at⟩)
else
((lex_scanner_add_2 t ({ Kind := 2, Text := [], N := r.1, At := 0 } : Token) s0_src s0_at l).bind fun r2 =>
  .ok ((IntKind.wrap .i64 (s0_at + (t.length : Int))), r2)))


def lex_scanner_sign_2 (s0_src : Str) (s0_at : Int) (l : (List Token)) : R (Int × (List Token)) :=
  if 0 ≤ s0_at ∧ s0_at ≤ (s0_src.length : Int) then
  (strings_HasPrefix (s0_src.drop (Int.toNat s0_at)) [47, 47]).bind fun r =>
  if r then
(if 0 ≤ s0_at ∧ s0_at ≤ (s0_src.length : Int) then
  (strings_IndexByte (s0_src.drop (Int.toNat s0_at)) 10).bind fun n =>
  if n ≥ 0 then
(.ok ((IntKind.wrap .i64 (s0_at + n)), l))
else
(.ok ((s0_src.length : Int), l)) else .bad)
else
(if 0 ≤ s0_at ∧ s0_at ≤ (IntKind.wrap .i64 (s0_at + 1)) ∧ (IntKind.wrap .i64 (s0_at + 1)) ≤ (s0_src.length : Int) then
  (lex_scanner_add_2 (cut s0_src s0_at (IntKind.wrap .i64 (s0_at + 1))) ({ Kind := 3, Text := (cut s0_src s0_at (IntKind.wrap .i64 (s0_at + 1))), N := 0, At := 0 } : Token) s0_src s0_at l).bind fun r1 =>
  .ok ((IntKind.wrap .i64 (s0_at + ((cut s0_src s0_at (IntKind.wrap .i64 (s0_at + 1))).length : Int))), r1) else .bad) else .bad



def lex_Lex_c1_h42 (n : Int) : R Int :=
  .ok n

def lex_Lex_b1 (src : Str) (fAt : Int) (l : (List Token)) : R ((Int × (List Token)) ⊕ (Int × (List Token))) :=
  if fAt < (src.length : Int) then
((idx src fAt).bind fun a =>
  (lex_class (a.toNat : Int)).bind fun r =>
  if r = 0 then
((lex_scanner_wrong ({ fSrc := src, fAt := fAt, fL := l } : T48)).bind fun _ =>
  .ok (.inl (fAt, l)))
else
(if r = 1 then
((lex_scanner_space_2 src fAt l).bind fun r2 =>
  .ok (.inl (r2, l)))
else
(if r = 2 then
((lex_scanner_name_2 src fAt l).bind fun r3 =>
  .ok (.inl (r3.1, r3.2)))
else
(if r = 3 then
((lex_scanner_number_2 src fAt l).bind fun r4 =>
  .ok (.inl (r4.1, r4.2)))
else
(if r = 4 then
((lex_scanner_sign_2 src fAt l).bind fun r5 =>
  .ok (.inl (r5.1, r5.2)))
else
(if r = 5 then
((lex_scanner_wrong ({ fSrc := src, fAt := fAt, fL := l } : T48)).bind fun _ =>
  .ok (.inl (fAt, l)))
else
(.bad)))))))
else
(.ok (.inr ((fAt, l))))

def lex_Lex_j1 (fAt1 : Int) (l1 : (List Token)) : R ((List Token) × Int × Int) :=
  .ok (l1, 0, 0)

def lex_Lex_m (src : Str) : R ((List Token) × Int × Int) :=
  if (src.length : Int) > 65536 then
(.ok ([], 0, 2))
else
((loop (un2 fun fAt l => lex_Lex_b1 src fAt l) (0, [])).bind (un2 fun fAt1 l1 => lex_Lex_j1 fAt1 l1))

def lex_Lex (src : Str) : R ((List Token) × Int × Int) :=
  (lex_Lex_m src).catch' (catchI 42 .i64 (fun n => (lex_Lex_c1_h42 n).bind fun p => .ok ([], p, 70)) (fun _ => .bad))

def strings_Join (l : List Str) (sep : Str) : R Str := if (Lib.join l sep).length ≤ 140737488355328 then .ok (Lib.join l sep) else .bad

def lex_Text_b1 (j : Nat) (a : Token) (words : (List Str)) : R ((List Str) ⊕ (Str × Int)) :=
  (lex_valid a).bind fun r =>
  if r then
(if (a.Kind == 2) then
((strconv_Itoa a.N).bind fun r1 =>
  (idx words (j : Int)).bind fun a1 =>
  .ok (.inl (words.set (j : Int).toNat r1)))
else
((idx words (j : Int)).bind fun a2 =>
  .ok (.inl (words.set (j : Int).toNat a.Text))))
else
(.ok (.inr (([], 70))))

def lex_Text (l : (List Token)) : R (Str × Int) :=
  if 0 ≤ (l.length : Int) ∧ (l.length : Int) ≤ (l.length : Int) ∧ (Int.toNat (l.length : Int)) * 16 ≤ LIM then
  (each (fun j a => fun words => lex_Text_b1 j a words) 0 l (List.replicate (Int.toNat (l.length : Int)) [])).bind (alt (fun words => (strings_Join words [32]).bind fun src =>
  .ok (src, 0)) (fun r => .ok r)) else .bad

def ref07_Same_j1 (x : Bool) : R (Unit ⊕ Bool) :=
  if x then
(.ok (.inr (false)))
else
(.ok (.inl ()))

def ref07_Same_b1 (b : (List Token)) (j : Nat) (a1 : Token) : R (Unit ⊕ Bool) :=
  (idx b (j : Int)).bind fun a2 =>
  if (a1.Kind != a2.Kind) then
(ref07_Same_j1 true)
else
(if (!(a1.Text == a2.Text)) then
(ref07_Same_j1 true)
else
(ref07_Same_j1 (a1.N != a2.N)))

def ref07_Same (a : (List Token)) (b : (List Token)) : R Bool :=
  if ((a.length : Int) != (b.length : Int)) then
(.ok false)
else
((each (fun j a1 => fun _ => ref07_Same_b1 b j a1) 0 a ()).bind (alt (fun _ => .ok true) (fun r => .ok r)))

def ref07_Equal_b1 (b : (List Token)) (j : Nat) (a1 : Token) : R (Unit ⊕ Bool) :=
  (idx b (j : Int)).bind fun a2 =>
  if (a1.At != a2.At) then
(.ok (.inr (false)))
else
(.ok (.inl ()))

def ref07_Equal (a : (List Token)) (b : (List Token)) : R Bool :=
  (ref07_Same a b).bind fun r =>
  if r then
((each (fun j a1 => fun _ => ref07_Equal_b1 b j a1) 0 a ()).bind (alt (fun _ => .ok true) (fun r => .ok r)))
else
(.ok false)


def lex_Same_c1 (a : Token) (y : Token) : R Bool :=
  .ok (((a.Kind == y.Kind) && (a.Text == y.Text)) && (a.N == y.N))

def slices_EqualFunc_api_Token_api_Token_api_Token_c1_b1 (s2 : (List Token)) (j : Nat) (a : Token) : R (Unit ⊕ Bool) :=
  (idx s2 (j : Int)).bind fun a1 =>
  (lex_Same_c1 a a1).bind fun r =>
  if r then
(.ok (.inl ()))
else
(.ok (.inr (false)))

def slices_EqualFunc_api_Token_api_Token_api_Token_c1 (s1 : (List Token)) (s2 : (List Token)) : R Bool :=
  if ((s1.length : Int) != (s2.length : Int)) then
(.ok false)
else
((each (fun j a => fun _ => slices_EqualFunc_api_Token_api_Token_api_Token_c1_b1 s2 j a) 0 s1 ()).bind (alt (fun _ => .ok true) (fun r => .ok r)))


def lex_Same (a : (List Token)) (b : (List Token)) : R Bool :=
  (slices_EqualFunc_api_Token_api_Token_api_Token_c1 a b).bind fun same =>
  .ok same


def law07_sane : R Bool :=
  (lex_Lex [101, 97, 114, 110, 32, 51, 48, 59]).bind fun r =>
  (lex_Lex [48, 48, 55]).bind fun r1 =>
  (lex_Lex [49, 48, 57, 57, 53, 49, 49, 54, 50, 55, 55, 55, 54]).bind fun r2 =>
  (lex_Lex [97, 32, 47, 47, 32, 98]).bind fun r3 =>
  (lex_Lex [97, 32, 36]).bind fun r4 =>
  (lex_Lex [97, 61, 49]).bind fun r5 =>
  (lex_Text r5.1).bind fun r6 =>
  (lex_Lex []).bind fun r7 =>
  (lex_Text [({ Kind := 0, Text := [], N := 0, At := 0 } : Token)]).bind fun r8 =>
  if (((((((((((((r.2.1 != 0) || (r.2.2 != 0)) || (r1.2.2 != 70)) || (r1.2.1 != 0)) || (r2.2.2 != 0)) || (r3.2.2 != 0)) || (r4.2.2 != 70)) || (r4.2.1 != 2)) || (r5.2.2 != 0)) || (r6.2 != 0)) || (r7.2.2 != 0)) || (r8.2 != 70)) || ((r7.1.length : Int) != 0)) then
(.ok false)
else
((ref07_Equal r.1 [({ Kind := 1, Text := [101, 97, 114, 110], N := 0, At := 0 } : Token), ({ Kind := 2, Text := [], N := 30, At := 5 } : Token), ({ Kind := 3, Text := [59], N := 0, At := 7 } : Token)]).bind fun r9 =>
  (if (r9 && ((r2.1.length : Int) == 1)) then (idx r2.1 0).bind fun a =>
  R.ok (a.N == 1099511627776) else R.ok false).bind (fun (b : Bool) => (if (b && ((r3.1.length : Int) == 1)) then (idx r3.1 0).bind fun a1 =>
  R.ok (a1.Text == [97]) else R.ok false).bind (fun (b1 : Bool) => (if (b1 && (r6.1 == [97, 32, 61, 32, 49])) then (lex_Name [66, 95, 49, 50]).bind fun r10 =>
  R.ok r10 else R.ok false).bind (fun (b2 : Bool) => (if b2 then (lex_Name [95, 49, 50]).bind fun r11 =>
  R.ok (!r11) else R.ok false).bind (fun (b3 : Bool) => (if b3 then (lex_Same r3.1 r5.1).bind fun r12 =>
  R.ok (!r12) else R.ok false).bind (fun (b4 : Bool) => (if b4 then (lex_Same r3.1 [({ Kind := 1, Text := [97], N := 0, At := 9 } : Token)]).bind fun r13 =>
  R.ok r13 else R.ok false).bind (fun (b5 : Bool) => .ok b5)))))))


def ref07_Space (c : Int) : R Bool :=
  .ok ((((c == 32) || (c == 9)) || (c == 10)) || (c == 13))


def ref07_Letter (c : Int) : R Bool :=
  .ok (((decide (c ≥ 97)) && (decide (c ≤ 122))) || ((decide (c ≥ 65)) && (decide (c ≤ 90))))


def ref07_Figure (c : Int) : R Bool :=
  .ok ((decide (c ≥ 48)) && (decide (c ≤ 57)))


def ref07_part (c : Int) : R Bool :=
  (ref07_Letter c).bind fun r =>
  (if r then R.ok true else (ref07_Figure c).bind fun r1 =>
  R.ok r1).bind (fun (b : Bool) => .ok (b || (c == 95)))

def ref07_Name_b1 (a1 : UInt8) : R (Unit ⊕ Bool) :=
  (ref07_part (a1.toNat : Int)).bind fun r1 =>
  if r1 then
(.ok (.inl ()))
else
(.ok (.inr (false)))

def ref07_Name (s : Str) : R Bool :=
  (if ((decide ((s.length : Int) < 1)) || (decide ((s.length : Int) > 32))) then R.ok true else (idx s 0).bind fun a =>
  (ref07_Letter (a.toNat : Int)).bind fun r =>
  R.ok (!r)).bind (fun (b : Bool) => if b then
(.ok false)
else
(if s.length ≤ LIM then
((each (fun _ a1 => fun _ => ref07_Name_b1 a1) 0 s ()).bind (alt (fun _ => .ok true) (fun r => .ok r))) else .bad))

def ref07_number_b1 (a : UInt8) (n : Int) : R (Int ⊕ (Int × Bool)) :=
  if (IntKind.wrap .i64 ((IntKind.wrap .i64 (10 * n)) + (IntKind.wrap .i64 (IntKind.wrap .u8 ((a.toNat : Int) - 48))))) > 1099511627776 then
(.ok (.inr ((0, false))))
else
(.ok (.inl (IntKind.wrap .i64 ((IntKind.wrap .i64 (10 * n)) + (IntKind.wrap .i64 (IntKind.wrap .u8 ((a.toNat : Int) - 48)))))))

def ref07_number (s : Str) : R (Int × Bool) :=
  if s.length ≤ LIM then
((each (fun _ a => fun n => ref07_number_b1 a n) 0 s 0).bind (alt (fun n => if ((s.length : Int) == 1) then
(.ok (n, true))
else
((idx s 0).bind fun a1 =>
  .ok (n, ((a1.toNat : Int) != 48)))) (fun r => .ok r))) else .bad

def ref07_Sign_b1 (c : Int) (a : UInt8) : R (Unit ⊕ Bool) :=
  if ((a.toNat : Int) == c) then
(.ok (.inr (true)))
else
(.ok (.inl ()))

def ref07_Sign (c : Int) : R Bool :=
  if [123, 125, 40, 41, 59, 44, 61, 35, 47, 60, 33, 45, 46].length ≤ LIM then
((each (fun _ a => fun _ => ref07_Sign_b1 c a) 0 [123, 125, 40, 41, 59, 44, 61, 35, 47, 60, 33, 45, 46] ()).bind (alt (fun _ => .ok false) (fun r => .ok r))) else .bad

def ref07_Lex_b1 (a : Str) (x2 : Int) : R (Int ⊕ Int) :=
  (if (decide (x2 < (a.length : Int))) then (idx a x2).bind fun a3 =>
  R.ok ((a3.toNat : Int) != 10) else R.ok false).bind (fun (b1 : Bool) => if b1 then
(.ok (.inl (IntKind.wrap .i64 (x2 + 1))))
else
(.ok (.inr (x2))))

def ref07_Lex_j1 (x1 : (List Token)) (x3 : Int) : R ((Int × (List Token)) ⊕ ((List Token) ⊕ ((List Token) × Int × Int))) :=
  .ok (.inl (x3, x1))

def ref07_Lex_b2 (a : Str) (x4 : Int) : R (Int ⊕ Int) :=
  (if (decide (x4 < (a.length : Int))) then (idx a x4).bind fun a4 =>
  (ref07_part (a4.toNat : Int)).bind fun r2 =>
  R.ok r2 else R.ok false).bind (fun (b2 : Bool) => if b2 then
(.ok (.inl (IntKind.wrap .i64 (x4 + 1))))
else
(.ok (.inr (x4))))

def ref07_Lex_j2 (a : Str) (x : Int) (x1 : (List Token)) (x5 : Int) : R ((Int × (List Token)) ⊕ ((List Token) ⊕ ((List Token) × Int × Int))) :=
  if 0 ≤ x ∧ x ≤ x5 ∧ x5 ≤ (a.length : Int) then
  (ref07_Name (cut a x x5)).bind fun r3 =>
  if r3 then
(if 0 ≤ x ∧ x ≤ x5 ∧ x5 ≤ (a.length : Int) then
  if (x1.length + [({ Kind := 1, Text := (cut a x x5), N := 0, At := x } : Token)].length) * 40 ≤ LIM then
  .ok (.inl (x5, (x1 ++ [({ Kind := 1, Text := (cut a x x5), N := 0, At := x } : Token)]))) else .bad else .bad)
else
(.ok (.inr (.inr (([], x, 70))))) else .bad

def ref07_Lex_b3 (a : Str) (x6 : Int) : R (Int ⊕ Int) :=
  (if (decide (x6 < (a.length : Int))) then (idx a x6).bind fun a5 =>
  (ref07_Figure (a5.toNat : Int)).bind fun r5 =>
  R.ok r5 else R.ok false).bind (fun (b3 : Bool) => if b3 then
(.ok (.inl (IntKind.wrap .i64 (x6 + 1))))
else
(.ok (.inr (x6))))

def ref07_Lex_j3 (a : Str) (x : Int) (x1 : (List Token)) (x7 : Int) : R ((Int × (List Token)) ⊕ ((List Token) ⊕ ((List Token) × Int × Int))) :=
  if 0 ≤ x ∧ x ≤ x7 ∧ x7 ≤ (a.length : Int) then
  (ref07_number (cut a x x7)).bind fun r6 =>
  if r6.2 then
(if (x1.length + [({ Kind := 2, Text := [], N := r6.1, At := x } : Token)].length) * 40 ≤ LIM then
  .ok (.inl (x7, (x1 ++ [({ Kind := 2, Text := [], N := r6.1, At := x } : Token)]))) else .bad)
else
(.ok (.inr (.inr (([], x, 70))))) else .bad

def ref07_Lex_b4 (a : Str) (x : Int) (x1 : (List Token)) : R ((Int × (List Token)) ⊕ ((List Token) ⊕ ((List Token) × Int × Int))) :=
  if x < (a.length : Int) then
((idx a x).bind fun a1 =>
  (ref07_Space (a1.toNat : Int)).bind fun r =>
  if r then
(.ok (.inl ((IntKind.wrap .i64 (x + 1)), x1)))
else
((if (((a1.toNat : Int) == 47) && (decide ((IntKind.wrap .i64 (x + 1)) < (a.length : Int)))) then (idx a (IntKind.wrap .i64 (x + 1))).bind fun a2 =>
  R.ok ((a2.toNat : Int) == 47) else R.ok false).bind (fun (b : Bool) => if b then
((loop (fun x2 => ref07_Lex_b1 a x2) x).bind (fun x3 => ref07_Lex_j1 x1 x3))
else
((ref07_Letter (a1.toNat : Int)).bind fun r1 =>
  if r1 then
((loop (fun x4 => ref07_Lex_b2 a x4) x).bind (fun x5 => ref07_Lex_j2 a x x1 x5))
else
((ref07_Figure (a1.toNat : Int)).bind fun r4 =>
  if r4 then
((loop (fun x6 => ref07_Lex_b3 a x6) x).bind (fun x7 => ref07_Lex_j3 a x x1 x7))
else
((ref07_Sign (a1.toNat : Int)).bind fun r7 =>
  if r7 then
(if 0 ≤ x ∧ x ≤ (IntKind.wrap .i64 (x + 1)) ∧ (IntKind.wrap .i64 (x + 1)) ≤ (a.length : Int) then
  if (x1.length + [({ Kind := 3, Text := (cut a x (IntKind.wrap .i64 (x + 1))), N := 0, At := x } : Token)].length) * 40 ≤ LIM then
  .ok (.inl ((IntKind.wrap .i64 (x + 1)), (x1 ++ [({ Kind := 3, Text := (cut a x (IntKind.wrap .i64 (x + 1))), N := 0, At := x } : Token)]))) else .bad else .bad)
else
(.ok (.inr (.inr (([], x, 70)))))))))))
else
(.ok (.inr (.inl (x1))))

def ref07_Lex_j4 (x8 : (List Token)) : R ((List Token) × Int × Int) :=
  .ok (x8, 0, 0)

def ref07_Lex (a : Str) : R ((List Token) × Int × Int) :=
  if (a.length : Int) > 65536 then
(.ok ([], 0, 2))
else
((loop (un2 fun x x1 => ref07_Lex_b4 a x x1) (0, [])).bind (alt (fun x8 => ref07_Lex_j4 x8) (fun r => .ok r)))


def law07_LexSpec (src : Str) : R Bool :=
  (law07_sane).bind fun r =>
  if r then
(if (src.length : Int) > 70000 then
(.ok true)
else
((lex_Lex src).bind fun r1 =>
  (ref07_Lex src).bind fun r2 =>
  (ref07_Equal r1.1 r2.1).bind fun r3 =>
  .ok ((r3 && (r1.2.1 == r2.2.1)) && (r1.2.2 == r2.2.2))))
else
(.ok false)

def ref07_Few_b1 (a : Token) (n : Int) : R Int :=
  .ok (IntKind.wrap .i64 (n + (a.Text.length : Int)))

def ref07_Few (l : (List Token)) : R Bool :=
  (eachS (fun _ a => fun n => ref07_Few_b1 a n) 0 l 0).bind ((fun n => .ok ((decide ((l.length : Int) ≤ 200)) && (decide (n ≤ 2000)))))


def ref07_Valid (t : Token) : R Bool :=
  if (t.Kind == 1) then
((ref07_Name t.Text).bind fun r =>
  .ok (r && (t.N == 0)))
else
(if (t.Kind == 2) then
(.ok (((t.Text == []) && (decide (t.N ≥ 0))) && (decide (t.N ≤ 1099511627776))))
else
(if (t.Kind == 3) then
((if ((t.Text.length : Int) == 1) then (idx t.Text 0).bind fun a =>
  (ref07_Sign (a.toNat : Int)).bind fun r1 =>
  R.ok r1 else R.ok false).bind (fun (b : Bool) => .ok (b && (t.N == 0))))
else
(.ok false)))

def ref07_Decimal_b1 (n1 : Int) (s : Str) : R ((Int × Str) ⊕ Str) :=
  if n1 ≥ 10 then
(if (strOf [(IntKind.wrap .u8 (IntKind.wrap .i64 (48 + (Int.tmod (IntKind.wrap .i64 (Int.tdiv n1 10)) 10))))]).length + s.length ≤ 9223372036854775807 then .ok (.inl ((IntKind.wrap .i64 (Int.tdiv n1 10)), ((strOf [(IntKind.wrap .u8 (IntKind.wrap .i64 (48 + (Int.tmod (IntKind.wrap .i64 (Int.tdiv n1 10)) 10))))]) ++ s))) else .bad)
else
(.ok (.inr (s)))

def ref07_Decimal_j1 (s1 : Str) : R Str :=
  .ok s1

def ref07_Decimal (n : Int) : R Str :=
  (loop (un2 fun n1 s => ref07_Decimal_b1 n1 s) (n, (strOf [(IntKind.wrap .u8 (IntKind.wrap .i64 (48 + (Int.tmod n 10))))]))).bind (fun s1 => ref07_Decimal_j1 s1)

def ref07_Text_j1 (a : Token) (s1 : Str) : R (Str ⊕ (Str × Int)) :=
  if (a.Kind == 2) then
((ref07_Decimal a.N).bind fun r1 =>
  if s1.length + r1.length ≤ 9223372036854775807 then .ok (.inl (s1 ++ r1)) else .bad)
else
(if s1.length + a.Text.length ≤ 9223372036854775807 then .ok (.inl (s1 ++ a.Text)) else .bad)

def ref07_Text_b1 (j : Nat) (a : Token) (s : Str) : R (Str ⊕ (Str × Int)) :=
  (ref07_Valid a).bind fun r =>
  if r then
(if (j : Int) > 0 then
(if s.length + [32].length ≤ 9223372036854775807 then ref07_Text_j1 a (s ++ [32]) else .bad)
else
(ref07_Text_j1 a s))
else
(.ok (.inr (([], 70))))

def ref07_Text (l : (List Token)) : R (Str × Int) :=
  (each (fun j a => fun s => ref07_Text_b1 j a s) 0 l []).bind (alt (fun s => .ok (s, 0)) (fun r => .ok r))


def law07_LexTextSpec (a : (List Token)) (b : (List Token)) (s : Str) : R Bool :=
  (law07_sane).bind fun r =>
  if r then
((ref07_Few a).bind fun r1 =>
  (if (!r1) then R.ok true else (ref07_Few b).bind fun r2 =>
  R.ok (!r2)).bind (fun (b1 : Bool) => if (b1 || (decide ((s.length : Int) > 1000))) then
(.ok true)
else
((lex_Text a).bind fun r3 =>
  (ref07_Text a).bind fun r4 =>
  (if ((r3.1 == r4.1) && (r3.2 == r4.2)) then (lex_Same a b).bind fun r5 =>
  (ref07_Same a b).bind fun r6 =>
  R.ok (r5 == r6) else R.ok false).bind (fun (b2 : Bool) => (if b2 then (lex_Same a a).bind fun r7 =>
  R.ok r7 else R.ok false).bind (fun (b3 : Bool) => (if b3 then (lex_Name s).bind fun r8 =>
  (ref07_Name s).bind fun r9 =>
  R.ok (r8 == r9) else R.ok false).bind (fun (b4 : Bool) => .ok b4))))))
else
(.ok false)

def law07_LexBack_j1 (src : Str) : R Bool :=
  (lex_Lex src).bind fun r5 =>
  if (r5.2.2 != 0) then
(.ok ((r5.1.length : Int) == 0))
else
((lex_Text r5.1).bind fun r6 =>
  (lex_Lex r6.1).bind fun r7 =>
  (if ((r6.2 == 0) && (r7.2.2 == 0)) then (lex_Same r5.1 r7.1).bind fun r8 =>
  R.ok r8 else R.ok false).bind (fun (b1 : Bool) => .ok b1))

def law07_LexBack (l : (List Token)) (src : Str) : R Bool :=
  (law07_sane).bind fun r =>
  if r then
((ref07_Few l).bind fun r1 =>
  if ((!r1) || (decide ((src.length : Int) > 3000))) then
(.ok true)
else
((lex_Text l).bind fun r2 =>
  if (r2.2 == 0) then
((lex_Lex r2.1).bind fun r3 =>
  (if ((r3.2.2 != 0) || (r3.2.1 != 0)) then R.ok true else (lex_Same l r3.1).bind fun r4 =>
  R.ok (!r4)).bind (fun (b : Bool) => if b then
(.ok false)
else
(law07_LexBack_j1 src)))
else
(law07_LexBack_j1 src)))
else
(.ok false)

def law07_spelled_b1 (s : Str) (n : Int) : R ((Str × Int) ⊕ Str) :=
  if (strOf [(IntKind.wrap .u8 (IntKind.wrap .i64 (48 + (Int.tmod n 10))))]).length + s.length ≤ 9223372036854775807 then if n < 10 then
(.ok (.inr (((strOf [(IntKind.wrap .u8 (IntKind.wrap .i64 (48 + (Int.tmod n 10))))]) ++ s))))
else
(.ok (.inl (((strOf [(IntKind.wrap .u8 (IntKind.wrap .i64 (48 + (Int.tmod n 10))))]) ++ s), (IntKind.wrap .i64 (Int.tdiv n 10))))) else .bad

def law07_spelled (t : Token) : R Str :=
  if (t.Kind != 2) then
(.ok t.Text)
else
((loop (un2 fun s n => law07_spelled_b1 s n) ([], t.N)).bind (fun r => .ok r))

def law07_LexPlaces_b1 (a : Str) (x2 : Int) (x3 : Int) (x4 : Bool) : R ((Int × Bool) ⊕ ((Int × Bool) ⊕ Bool)) :=
  if x3 < x2 then
((idx a x3).bind fun a2 =>
  (if ((a2.toNat : Int) != 10) then (if x4 then R.ok true else (if (((a2.toNat : Int) == 47) && (decide ((IntKind.wrap .i64 (x3 + 1)) < x2))) then (idx a (IntKind.wrap .i64 (x3 + 1))).bind fun a3 =>
  R.ok ((a3.toNat : Int) == 47) else R.ok false).bind (fun (b2 : Bool) => R.ok b2)).bind (fun (b1 : Bool) => R.ok b1) else R.ok false).bind (fun (b : Bool) => (if (!b) then (ref07_Space (a2.toNat : Int)).bind fun r2 =>
  R.ok (!r2) else R.ok false).bind (fun (b3 : Bool) => if b3 then
(.ok (.inr (.inr (false))))
else
(.ok (.inl ((IntKind.wrap .i64 (x3 + 1)), b))))))
else
(.ok (.inr (.inl ((x3, x4)))))

def law07_LexPlaces_j1 (a : Str) (r1 : ((List Token) × Int × Int)) (x1 : Int) (x5 : Int) (x6 : Bool) : R ((Int × Int) ⊕ (Unit ⊕ Bool)) :=
  if (x1 == (r1.1.length : Int)) then
(.ok (.inr (.inl (()))))
else
((idx r1.1 x1).bind fun a4 =>
  (law07_spelled a4).bind fun r3 =>
  (if ((x6 || ((r3.length : Int) == 0)) || (decide ((IntKind.wrap .i64 (x5 + (r3.length : Int))) > (a.length : Int)))) then R.ok true else if 0 ≤ x5 ∧ x5 ≤ (IntKind.wrap .i64 (x5 + (r3.length : Int))) ∧ (IntKind.wrap .i64 (x5 + (r3.length : Int))) ≤ (a.length : Int) then
  R.ok (!((cut a x5 (IntKind.wrap .i64 (x5 + (r3.length : Int)))) == r3)) else .bad).bind (fun (b4 : Bool) => if b4 then
(.ok (.inr (.inr (false))))
else
(.ok (.inl ((IntKind.wrap .i64 (x5 + (r3.length : Int))), (IntKind.wrap .i64 (x1 + 1)))))))

def law07_LexPlaces_j2 (a : Str) (r : Bool) (r1 : ((List Token) × Int × Int)) (x : Int) (x1 : Int) (x2 : Int) : R ((Int × Int) ⊕ (Unit ⊕ Bool)) :=
  if ((decide (x2 < x)) || (decide (x2 > (a.length : Int)))) then
(.ok (.inr (.inr (false))))
else
((loop (un2 fun x3 x4 => law07_LexPlaces_b1 a x2 x3 x4) (x, false)).bind (alt (un2 fun x5 x6 => law07_LexPlaces_j1 a r1 x1 x5 x6) (fun r => .ok (.inr (.inr (r))))))

def law07_LexPlaces_b2 (a : Str) (r : Bool) (r1 : ((List Token) × Int × Int)) (x : Int) (x1 : Int) : R ((Int × Int) ⊕ (Unit ⊕ Bool)) :=
  if x1 ≤ (r1.1.length : Int) then
(if x1 < (r1.1.length : Int) then
((idx r1.1 x1).bind fun a1 =>
  law07_LexPlaces_j2 a r r1 x x1 a1.At)
else
(law07_LexPlaces_j2 a r r1 x x1 (a.length : Int)))
else
(.ok (.inr (.inl (()))))

def law07_LexPlaces_j3 : R Bool :=
  .ok true

def law07_LexPlaces (a : Str) : R Bool :=
  (law07_sane).bind fun r =>
  if r then
(if (a.length : Int) > 3000 then
(.ok true)
else
((lex_Lex a).bind fun r1 =>
  if (r1.2.2 != 0) then
(.ok ((r1.1.length : Int) == 0))
else
((loop (un2 fun x x1 => law07_LexPlaces_b2 a r r1 x x1) (0, 0)).bind (alt (fun _ => law07_LexPlaces_j3) (fun r => .ok r)))))
else
(.ok false)

def law07_LexJoined_b1 (a : Str) (a1 : Token) (all : (List Token)) : R (List Token) :=
  if (all.length + [({ Kind := a1.Kind, Text := a1.Text, N := a1.N, At := (IntKind.wrap .i64 (a1.At + (IntKind.wrap .i64 ((a.length : Int) + 1)))) } : Token)].length) * 40 ≤ LIM then
  .ok (all ++ [({ Kind := a1.Kind, Text := a1.Text, N := a1.N, At := (IntKind.wrap .i64 (a1.At + (IntKind.wrap .i64 ((a.length : Int) + 1)))) } : Token)]) else .bad

def law07_LexJoined (a : Str) (b : Str) : R Bool :=
  (law07_sane).bind fun r =>
  if r then
(if (IntKind.wrap .i64 ((a.length : Int) + (b.length : Int))) > 3000 then
(.ok true)
else
((lex_Lex a).bind fun r1 =>
  (lex_Lex b).bind fun r2 =>
  if a.length + [10].length ≤ 9223372036854775807 then if (a ++ [10]).length + b.length ≤ 9223372036854775807 then (lex_Lex ((a ++ [10]) ++ b)).bind fun r3 =>
  if (r1.2.2 != 0) then
(.ok (((r3.2.2 == r1.2.2) && (r3.2.1 == r1.2.1)) && ((r3.1.length : Int) == 0)))
else
(if (r2.2.2 != 0) then
(.ok (((r3.2.2 == r2.2.2) && (r3.2.1 == (IntKind.wrap .i64 ((IntKind.wrap .i64 (r2.2.1 + (a.length : Int))) + 1)))) && ((r3.1.length : Int) == 0)))
else
(if r1.1.length * 40 ≤ LIM then
  (eachS (fun _ a1 => fun all => law07_LexJoined_b1 a a1 all) 0 r2.1 r1.1).bind ((fun all => (if ((r3.2.2 == 0) && (r3.2.1 == 0)) then (ref07_Equal r3.1 all).bind fun r4 =>
  R.ok r4 else R.ok false).bind (fun (b1 : Bool) => .ok b1))) else .bad)) else .bad else .bad))
else
(.ok false)

def law07_LexSpaces_b1 (note : Str) (j : Nat) (a : UInt8) (words : Str) : R Str :=
  if ((a.toNat : Int) != 10) then
(if 0 ≤ (j : Int) ∧ (j : Int) ≤ (IntKind.wrap .i64 ((j : Int) + 1)) ∧ (IntKind.wrap .i64 ((j : Int) + 1)) ≤ (note.length : Int) then
  if words.length + (cut note (j : Int) (IntKind.wrap .i64 ((j : Int) + 1))).length ≤ 9223372036854775807 then .ok (words ++ (cut note (j : Int) (IntKind.wrap .i64 ((j : Int) + 1)))) else .bad else .bad)
else
(.ok words)

def law07_LexSpaces_j1 (s : Str) (r2 : (Str × Int)) (gap : Str) : R (Str ⊕ Bool) :=
  if r2.1.length + [32].length ≤ 9223372036854775807 then if (r2.1 ++ [32]).length + gap.length ≤ 9223372036854775807 then if s.length + ((r2.1 ++ [32]) ++ gap).length ≤ 9223372036854775807 then .ok (.inl (s ++ ((r2.1 ++ [32]) ++ gap))) else .bad else .bad else .bad

def law07_LexSpaces_b2 (l : (List Token)) (turns : (List Int)) (words : Str) (j1 : Nat) (a1 : Token) (s : Str) : R (Str ⊕ Bool) :=
  (lex_Text [a1]).bind fun r2 =>
  if (r2.2 != 0) then
((lex_Text l).bind fun r3 =>
  .ok (.inr ((r3.2 == 70))))
else
(if (j1 : Int) < (turns.length : Int) then
((idx turns (j1 : Int)).bind fun a2 =>
  if ([[32], [9], [10], [13, 10], [32, 32], (([47, 47] ++ words) ++ [10]), [32, 47, 47, 32, 10], [10, 47, 47, 10]].length : Int) ≠ 0 then (idx [[32], [9], [10], [13, 10], [32, 32], (([47, 47] ++ words) ++ [10]), [32, 47, 47, 32, 10], [10, 47, 47, 10]] (Int.tmod (IntKind.wrap .i64 a2) ([[32], [9], [10], [13, 10], [32, 32], (([47, 47] ++ words) ++ [10]), [32, 47, 47, 32, 10], [10, 47, 47, 10]].length : Int))).bind fun a3 =>
  law07_LexSpaces_j1 s r2 a3 else .bad)
else
(law07_LexSpaces_j1 s r2 [32]))

def law07_LexSpaces (l : (List Token)) (turns : (List Int)) (note : Str) : R Bool :=
  (law07_sane).bind fun r =>
  if r then
((ref07_Few l).bind fun r1 =>
  if ((!r1) || (decide ((note.length : Int) > 100))) then
(.ok true)
else
(if note.length ≤ LIM then
((eachS (fun j a => fun words => law07_LexSpaces_b1 note j a words) 0 note []).bind ((fun words => if [47, 47].length + words.length ≤ 9223372036854775807 then if ([47, 47] ++ words).length + [10].length ≤ 9223372036854775807 then (each (fun j1 a1 => fun s => law07_LexSpaces_b2 l turns words j1 a1 s) 0 l [10]).bind (alt (fun s => (lex_Lex s).bind fun r4 =>
  (if ((r4.2.2 == 0) && (r4.2.1 == 0)) then (lex_Same l r4.1).bind fun r5 =>
  R.ok r5 else R.ok false).bind (fun (b : Bool) => .ok b)) (fun r => .ok r)) else .bad else .bad))) else .bad))
else
(.ok false)


def law07_LexWrong (src : Str) (more : Str) : R Bool :=
  (law07_sane).bind fun r =>
  if r then
(if (IntKind.wrap .i64 ((src.length : Int) + (more.length : Int))) > 3000 then
(.ok true)
else
((lex_Lex src).bind fun r1 =>
  if (r1.2.2 == 0) then
(.ok (r1.2.1 == 0))
else
(if (((r1.2.2 != 70) || (decide (r1.2.1 < 0))) || (decide (r1.2.1 ≥ (src.length : Int)))) then
(.ok false)
else
(if 0 ≤ r1.2.1 ∧ r1.2.1 ≤ (src.length : Int) then
  (lex_Lex (src.take (Int.toNat r1.2.1))).bind fun r2 =>
  if src.length + [32].length ≤ 9223372036854775807 then if (src ++ [32]).length + more.length ≤ 9223372036854775807 then (lex_Lex ((src ++ [32]) ++ more)).bind fun r3 =>
  if 0 ≤ r1.2.1 ∧ r1.2.1 ≤ (src.length : Int) then
  (lex_Lex (src.drop (Int.toNat r1.2.1))).bind fun r4 =>
  .ok ((((((r2.2.2 == 0) && (r2.2.1 == 0)) && (r3.2.2 == 70)) && (r3.2.1 == r1.2.1)) && (r4.2.2 == 70)) && (r4.2.1 == 0)) else .bad else .bad else .bad else .bad))))
else
(.ok false)


def law07_LexNames (s : Str) : R Bool :=
  (law07_sane).bind fun r =>
  if r then
(if (s.length : Int) > 1000 then
(.ok true)
else
((lex_Lex s).bind fun r1 =>
  (if ((r1.2.2 == 0) && ((r1.1.length : Int) == 1)) then (idx r1.1 0).bind fun a =>
  R.ok (a.Kind == 1) else R.ok false).bind (fun (b : Bool) => (if b then (idx r1.1 0).bind fun a1 =>
  R.ok (a1.Text == s) else R.ok false).bind (fun (b1 : Bool) => (if b1 then (idx r1.1 0).bind fun a2 =>
  R.ok (a2.At == 0) else R.ok false).bind (fun (b2 : Bool) => (if b2 then (idx r1.1 0).bind fun a3 =>
  R.ok (a3.N == 0) else R.ok false).bind (fun (b3 : Bool) => (lex_Text [({ Kind := 1, Text := s, N := 0, At := 0 } : Token)]).bind fun r2 =>
  (lex_Name s).bind fun r3 =>
  .ok ((r3 == b3) && (b3 == (r2.2 == 0)))))))))
else
(.ok false)

end
end Go.Am
