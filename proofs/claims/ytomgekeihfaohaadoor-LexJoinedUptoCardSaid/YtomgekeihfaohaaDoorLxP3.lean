/- lex: the whole, as one recursive function; both programs compute it. -/
import Derived.Test.YtomgekeihfaohaaDoorLxP2
namespace Go.Am
open Go
set_option linter.unusedVariables false
set_option linter.unusedSimpArgs false

/-- What stands at the head: what it gives, and how many bytes behind the first it takes. -/
def tk (c : UInt8) (s : Str) : Option (Option Token × Nat) :=
  if isSp c then some (none, 0)
  else if isLet c then
    if (s.takeWhile isPart).length + 1 ≤ 32 then some (some ⟨1, c :: s.takeWhile isPart, 0, 0⟩, (s.takeWhile isPart).length) else none
  else if isFig c then
    if numOk (c :: s.takeWhile isFig) then some (some ⟨2, [], val (c :: s.takeWhile isFig), 0⟩, (s.takeWhile isFig).length) else none
  else if isSign c then
    if c = 47 ∧ s.head? = some 47 then some (none, (s.takeWhile (· != 10)).length)
    else some (some ⟨3, [c], 0, 0⟩, 0)
  else none
def at' (p : Nat) (t : Token) : Token := { t with At := p }
inductive Lx where
  | ok (l : List Token)
  | wrong (e : Nat)
  deriving DecidableEq
def Lx.add (o : Option Token) (p : Nat) : Lx → Lx
  | .ok l => .ok ((o.map (at' p)).toList ++ l)
  | .wrong e => .wrong e
def lexN : Nat → Str → Nat → Lx
  | _, [], _ => .ok []
  | 0, _ :: _, _ => .ok []
  | n + 1, c :: s, p => match tk c s with
    | none => .wrong p
    | some (o, k) => (lexN n (s.drop k) (p + 1 + k)).add o p
def lexP (s : Str) (p : Nat) : Lx := lexN s.length s p
theorem lexN_any : ∀ (n m : Nat) (s : Str) (p : Nat), s.length ≤ n → s.length ≤ m → lexN n s p = lexN m s p
  | 0, 0, s, p, _, _ => rfl
  | 0, m + 1, s, p, h, _ => by
    have : s = [] := List.length_eq_zero_iff.1 (by omega)
    subst this; rfl
  | n + 1, 0, s, p, _, h => by
    have : s = [] := List.length_eq_zero_iff.1 (by omega)
    subst this; rfl
  | n + 1, m + 1, [], p, _, _ => rfl
  | n + 1, m + 1, c :: s, p, h1, h2 => by
    simp only [List.length_cons] at h1 h2
    rw [lexN, lexN]
    cases tk c s with
    | none => rfl
    | some x =>
      obtain ⟨o, k⟩ := x
      simp only
      rw [lexN_any n m (s.drop k) _ (by rw [List.length_drop]; omega) (by rw [List.length_drop]; omega)]
theorem lexP_nil (p : Nat) : lexP [] p = .ok [] := rfl
theorem lexP_cons (c : UInt8) (s : Str) (p : Nat) : lexP (c :: s) p = match tk c s with
    | none => .wrong p
    | some (o, k) => (lexP (s.drop k) (p + 1 + k)).add o p := by
  unfold lexP
  rw [List.length_cons, lexN]
  cases tk c s with
  | none => rfl
  | some x =>
    obtain ⟨o, k⟩ := x
    simp only
    rw [lexN_any s.length (s.drop k).length (s.drop k) _ (by rw [List.length_drop]; omega) (Nat.le_refl _)]
@[simp] theorem Lx.add_none (p : Nat) (x : Lx) : x.add none p = x := by cases x <;> rfl
theorem tk_sp {c : UInt8} (s : Str) (h : isSp c = true) : tk c s = some (none, 0) := by unfold tk; rw [if_pos h]
theorem tk_le {c : UInt8} {s : Str} {o : Option Token} {k : Nat} (ht : tk c s = some (o, k)) : k ≤ s.length := by
  have h1 := tw_le isPart s
  have h2 := tw_le isFig s
  have h3 := tw_le (· != 10) s
  unfold tk at ht
  repeat' split at ht
  all_goals first | (cases ht; done) | (cases ht; assumption) | (cases ht; exact Nat.zero_le _)
theorem lexP_sps : ∀ (w s : Str) (p : Nat), w.all isSp = true → lexP (w ++ s) p = lexP s (p + w.length)
  | [], s, p, _ => rfl
  | c :: w, s, p, h => by
    have h : isSp c = true ∧ w.all isSp = true := by simpa using h
    rw [List.cons_append, lexP_cons, tk_sp _ h.1]
    simp only [List.drop_zero, Lx.add_none]
    rw [lexP_sps w s _ h.2, List.length_cons]
    congr 1; omega

def out : Lx → List Token × Int × Int
  | .ok l => (l, 0, 0)
  | .wrong e => ([], (e : Int), 70)
def lexOut (s : Str) : List Token × Int × Int := if s.length ≤ 65536 then out (lexP s 0) else ([], 0, 2)

theorem all_tw {α : Type} (q : α → Bool) : ∀ l : List α, (l.takeWhile q).all q = true
  | [] => rfl
  | a :: l => by
    rw [List.takeWhile_cons]
    cases h : q a
    · rfl
    · rw [if_pos rfl, List.all_cons, h, all_tw q l]; rfl
theorem drop_tw {α : Type} (q : α → Bool) (l : List α) : l.drop (l.takeWhile q).length = l.dropWhile q := by
  induction l with
  | nil => rfl
  | cons a l ih =>
    rw [List.takeWhile_cons, List.dropWhile_cons]
    cases q a
    · rfl
    · simpa using ih

/-! ### the law's own lexer -/
def refRes (pre : List Token) : Lx → List Token ⊕ (List Token × Int × Int)
  | .ok l => .inl (pre ++ l)
  | .wrong e => .inr ([], (e : Int), 70)
theorem ref_run {src : Str} {q : UInt8 → Bool} {body : Int → R (Int ⊕ Int)} (hs : src.length ≤ 65536)
    (hb : ∀ n : Nat, body (n : Int) = (if (decide ((n : Int) < (src.length : Int))) then (idx src (n : Int)).bind fun a => R.ok (q a) else R.ok false).bind (fun (b : Bool) => if b then .ok (.inl (IntKind.wrap .i64 ((n : Int) + 1))) else .ok (.inr (n : Int)))) (p : Nat) (hp : p ≤ src.length) :
    loop body (p : Int) = .ok (((p + ((src.drop p).takeWhile q).length : Nat)) : Int) := by
  refine loop_tw (q := q) (fun n hn => ?_) _ p hp rfl
  rw [hb]
  by_cases hl : n < src.length
  · have hi : (n : Int) < src.length := by omega
    rw [List.getElem?_eq_getElem hl]
    simp only [hi, decide_true, if_true]
    rw [idx_str (List.getElem?_eq_getElem hl)]
    simp only [R.ok_bind]
    cases q src[n]
    · rfl
    · simp only [if_true]
      rw [wrap64 (by omega) (by omega)]
      rfl
  · have hi : ¬ ((n : Int) < src.length) := by omega
    rw [List.getElem?_eq_none (by omega)]
    simp only [hi, decide_false, Bool.false_eq_true, if_false, R.ok_bind]
theorem cut_one {src : Str} {p : Nat} {c : UInt8} {s : Str} (h : src.drop p = c :: s) : cut src (p : Int) ((p + 1 : Nat) : Int) = [c] := by
  unfold cut
  simp only [Int.toNat_natCast]
  rw [h, show p + 1 - p = 1 by omega]; rfl
theorem drop_more {src : Str} {p : Nat} {c : UInt8} {s : Str} (h : src.drop p = c :: s) (k : Nat) : s.drop k = src.drop (p + 1 + k) := by
  have : src.drop (p + 1) = s := by rw [← List.drop_drop, h]; rfl
  rw [← this, List.drop_drop]
theorem at_drop {src : Str} {p : Nat} {c : UInt8} {s : Str} (h : src.drop p = c :: s) : src[p]? = some c := by
  have := List.getElem?_drop (xs := src) (i := p) (j := 0)
  rw [h] at this
  simpa using this.symm
theorem len_drop {src : Str} {p : Nat} {c : UInt8} {s : Str} (h : src.drop p = c :: s) : p + 1 + s.length = src.length := by
  have := congrArg List.length h
  rw [List.length_drop, List.length_cons] at this
  omega
theorem name_run {c : UInt8} {w : Str} (hc : isLet c = true) (hw : w.all isPart = true) : nameOk (c :: w) = decide (w.length + 1 ≤ 32) := by
  simp [nameOk, hc, hw]

theorem ne10 (a : UInt8) : ((a.toNat : Int) != 10) = (a != 10) := all256 (p := fun a => ((a.toNat : Int) != 10) = (a != 10)) (by decide +kernel) a
/-- one round at a place before the end -/
theorem ref_round (src : Str) (hs : src.length ≤ 65536) (p : Nat) (pre : List Token) (c : UInt8) (s : Str) (h : src.drop p = c :: s) (hl : pre.length ≤ p) :
    ref07_Lex_b4 src (p : Int) pre = .ok (match tk c s with
      | none => .inr (.inr ([], (p : Int), 70))
      | some (o, k) => .inl (((p + 1 + k : Nat) : Int), pre ++ (o.map (at' p)).toList)) := by
  have hlen := len_drop h
  have hat := at_drop h
  have hlim : ∀ t : Token, (pre.length + [t].length) * 40 ≤ LIM := by intro t; simp only [List.length_singleton, LIM]; omega
  unfold ref07_Lex_b4
  rw [if_pos (by omega), idx_str hat]
  simp only [R.ok_bind, sp_eq]
  unfold tk
  cases hsp : isSp c
  · simp only [Bool.false_eq_true, if_false]
    have hw1 : IntKind.wrap .i64 ((p : Int) + 1) = ((p + 1 : Nat) : Int) := by rw [wrap64 (by omega) (by omega)]; rfl
    rw [hw1]
    have hsl : (if (((c.toNat : Int) == 47) && (decide (((p + 1 : Nat) : Int) < (src.length : Int)))) then (idx src ((p + 1 : Nat) : Int)).bind fun a2 =>
        R.ok ((a2.toNat : Int) == 47) else R.ok false) = .ok (decide (c = 47 ∧ s.head? = some 47)) := by
      by_cases hc : c = 47
      · subst hc
        cases s with
        | nil =>
          rw [if_neg (by simp only [List.length_nil] at hlen; simp; omega)]
          simp
        | cons d s' =>
          have hat2 : src[p + 1]? = some d := at_drop (s := s') (by have := drop_more h 0; simpa using this.symm)
          rw [if_pos (by simp only [List.length_cons] at hlen; simp; omega), idx_str hat2]
          simp only [R.ok_bind, List.head?_cons, true_and]
          congr 1
          by_cases hd : d = 47
          · subst hd; simp
          · have : (d.toNat : Int) ≠ 47 := fun e => hd (UInt8.toNat_inj.1 (by have : (47 : UInt8).toNat = 47 := rfl; omega))
            simp [hd, this]
      · have : (c.toNat : Int) ≠ 47 := fun e => hc (UInt8.toNat_inj.1 (by have : (47 : UInt8).toNat = 47 := rfl; omega))
        simp [hc, this]
    rw [hsl]
    simp only [R.ok_bind]
    by_cases hcom : c = 47 ∧ s.head? = some 47
    · simp only [hcom, and_self, decide_true, if_true]
      have hc := hcom.1
      subst hc
      rw [ref_run (q := (· != 10)) hs (fun n => by unfold ref07_Lex_b1; simp only [ne10]) p (by omega), h]
      simp only [R.ok_bind, ref07_Lex_j1]
      rw [show isLet 47 = false by decide, show isFig 47 = false by decide, show isSign 47 = true by decide]
      simp only [Bool.false_eq_true, if_false, if_true]
      rw [List.takeWhile_cons, show ((47 : UInt8) != 10) = true by decide, if_pos rfl, List.length_cons]
      simp only [Option.map_none, Option.toList_none, List.append_nil]
      congr 3
      omega
    · simp only [hcom, decide_false, Bool.false_eq_true, if_false, let_eq, R.ok_bind]
      cases hle : isLet c
      · simp only [Bool.false_eq_true, if_false, fig_eq, R.ok_bind]
        cases hfi : isFig c
        · simp only [Bool.false_eq_true, if_false, sign_eq, R.ok_bind]
          cases hsi : isSign c
          · simp
          · simp only [if_true]
            rw [if_pos (by omega), cut_one h, if_pos (hlim _)]
            rfl
        · simp only [if_true]
          rw [ref_run (q := isFig) hs (fun n => by unfold ref07_Lex_b3; simp only [fig_eq, R.ok_bind]) p (by omega)]
          simp only [R.ok_bind]
          unfold ref07_Lex_j3
          have hle := tw_le isFig (src.drop p)
          rw [List.length_drop] at hle
          rw [if_pos (by omega), cut_tw, h, List.takeWhile_cons, hfi, if_pos rfl]
          have hall : (c :: s.takeWhile isFig).all isFig = true := by rw [List.all_cons, hfi, all_tw]; rfl
          have := tw_le isFig s
          rw [number_eq (by simp) hall (by simp only [List.length_cons]; omega)]
          simp only [R.ok_bind, List.length_cons]
          unfold numOk
          by_cases hv : val (c :: s.takeWhile isFig) ≤ 1099511627776
          · simp only [hv, if_true, decide_true, Bool.and_true]
            cases plain (c :: s.takeWhile isFig)
            · simp
            · simp only [if_true]
              rw [if_pos (by simp only [List.length_nil, LIM]; omega)]
              simp only [Option.map_some, Option.toList_some]
              rw [show p + ((s.takeWhile isFig).length + 1) = p + 1 + (s.takeWhile isFig).length by omega]
              rfl
          · simp only [hv, if_false, decide_false, Bool.and_false, Bool.false_eq_true]
      · simp only [if_true]
        rw [ref_run (q := isPart) hs (fun n => by unfold ref07_Lex_b2; simp only [part_eq, R.ok_bind]) p (by omega)]
        simp only [R.ok_bind]
        unfold ref07_Lex_j2
        have hle' := tw_le isPart (src.drop p)
        rw [List.length_drop] at hle'
        rw [if_pos (by omega), cut_tw, rname_eq, h, List.takeWhile_cons, let_part hle, if_pos rfl]
        simp only [R.ok_bind, List.length_cons]
        rw [name_run hle (all_tw _ _)]
        by_cases hn : (s.takeWhile isPart).length + 1 ≤ 32
        · simp only [hn, decide_true, if_true]
          rw [if_pos ⟨by omega, by omega, by have := tw_le isPart s; omega⟩, if_pos (by simp only [List.length_nil, LIM]; omega)]
          simp only [Option.map_some, Option.toList_some]
          rw [show p + ((s.takeWhile isPart).length + 1) = p + 1 + (s.takeWhile isPart).length by omega]
          rfl
        · simp only [hn, decide_false, Bool.false_eq_true, if_false]
  · simp only [if_true]
    rw [wrap64 (by omega) (by omega)]
    simp
theorem ref_loop (src : Str) (hs : src.length ≤ 65536) : ∀ (n p : Nat) (pre : List Token), src.length - p ≤ n → p ≤ src.length → pre.length ≤ p →
    loop (un2 fun x x1 => ref07_Lex_b4 src x x1) ((p : Int), pre) = .ok (refRes pre (lexP (src.drop p) p)) := by
  intro n
  induction n with
  | zero =>
    intro p pre hn hp hl
    have e : src.drop p = [] := List.drop_eq_nil_of_le (by omega)
    rw [loop_eq, e, lexP_nil]
    simp only [un2]
    unfold ref07_Lex_b4
    rw [if_neg (by omega)]
    simp [refRes]
  | succ n ih =>
    intro p pre hn hp hl
    cases hd : src.drop p with
    | nil =>
      have : src.length ≤ p := by have := congrArg List.length hd; rw [List.length_drop] at this; simp at this; omega
      rw [loop_eq, lexP_nil]
      simp only [un2]
      unfold ref07_Lex_b4
      rw [if_neg (by omega)]
      simp [refRes]
    | cons c s =>
      rw [loop_eq]
      simp only [un2]
      rw [ref_round src hs p pre c s hd hl, lexP_cons]
      have hlen := len_drop hd
      cases ht : tk c s with
      | none => rfl
      | some x =>
        obtain ⟨o, k⟩ := x
        have hk : k ≤ s.length := tk_le ht
        have hol : (o.map (at' p)).toList.length ≤ 1 := by cases o <;> simp
        have := ih (p + 1 + k) (pre ++ (o.map (at' p)).toList) (by omega) (by omega) (by rw [List.length_append]; omega)
        simp only [R.ok_bind]
        rw [← drop_more hd k] at this
        refine this.trans ?_
        congr 1
        cases lexP (s.drop k) (p + 1 + k) <;> simp [refRes, Lx.add]
theorem ref_eq (s : Str) : ref07_Lex s = .ok (lexOut s) := by
  unfold ref07_Lex lexOut
  by_cases h : s.length ≤ 65536
  · rw [if_neg (by omega), if_pos h, show ((0 : Int), ([] : List Token)) = (((0 : Nat) : Int), []) from rfl, ref_loop s h s.length 0 [] (by omega) (by omega) (by simp)]
    simp only [List.drop_zero, R.ok_bind]
    cases lexP s 0 <;> rfl
  · rw [if_pos (by omega), if_neg h]
end Go.Am
