/- lex: characters, runs of characters, names, numbers. -/
import Derived.Test.YtomgekeihfaohaaDoorPlBase
import Derived.Test.YtomgekeihfaohaaDoorLxG
import Derived.Lib.ItoaMem
import Derived.Lib.AtoiAllCases
namespace Go.Am
open Go
set_option linter.unusedVariables false
set_option linter.unusedSimpArgs false

/-! ### characters -/
def isSp (c : UInt8) : Bool := c == 32 || c == 9 || c == 10 || c == 13
def isLet (c : UInt8) : Bool := (decide (97 ≤ c) && decide (c ≤ 122)) || (decide (65 ≤ c) && decide (c ≤ 90))
def isFig (c : UInt8) : Bool := decide (48 ≤ c) && decide (c ≤ 57)
def isPart (c : UInt8) : Bool := isLet c || isFig c || c == 95
def isSign (c : UInt8) : Bool := [(123 : UInt8), 125, 40, 41, 59, 44, 61, 35, 47, 60, 33, 45, 46].contains c
def cls (c : UInt8) : Int := if isLet c then 2 else if isFig c then 3 else if c == 95 then 5 else if isSp c then 1 else if isSign c then 4 else 0
theorem all256 {p : UInt8 → Prop} (h : ∀ n : Fin 256, p (UInt8.ofNat n.val)) (c : UInt8) : p c := by
  have h1 := h ⟨c.toNat, c.toNat_lt⟩
  have e : UInt8.ofNat c.toNat = c := by simp
  simpa [e] using h1
theorem cls_eq (c : UInt8) : lex_class (c.toNat : Int) = .ok (cls c) := all256 (p := fun c => lex_class (c.toNat : Int) = .ok (cls c)) (by decide +kernel) c
theorem sp_eq (c : UInt8) : ref07_Space (c.toNat : Int) = .ok (isSp c) := all256 (p := fun c => ref07_Space (c.toNat : Int) = .ok (isSp c)) (by decide +kernel) c
theorem let_eq (c : UInt8) : ref07_Letter (c.toNat : Int) = .ok (isLet c) := all256 (p := fun c => ref07_Letter (c.toNat : Int) = .ok (isLet c)) (by decide +kernel) c
theorem fig_eq (c : UInt8) : ref07_Figure (c.toNat : Int) = .ok (isFig c) := all256 (p := fun c => ref07_Figure (c.toNat : Int) = .ok (isFig c)) (by decide +kernel) c
theorem part_eq (c : UInt8) : ref07_part (c.toNat : Int) = .ok (isPart c) := all256 (p := fun c => ref07_part (c.toNat : Int) = .ok (isPart c)) (by decide +kernel) c
theorem sign_eq (c : UInt8) : ref07_Sign (c.toNat : Int) = .ok (isSign c) := all256 (p := fun c => ref07_Sign (c.toNat : Int) = .ok (isSign c)) (by decide +kernel) c
theorem cls1 (c : UInt8) : (cls c == 1) = isSp c := all256 (p := fun c => (cls c == 1) = isSp c) (by decide +kernel) c
theorem cls2 (c : UInt8) : (cls c == 2) = isLet c := all256 (p := fun c => (cls c == 2) = isLet c) (by decide +kernel) c
theorem cls3 (c : UInt8) : (cls c == 3) = isFig c := all256 (p := fun c => (cls c == 3) = isFig c) (by decide +kernel) c
theorem cls4 (c : UInt8) : (cls c == 4) = isSign c := all256 (p := fun c => (cls c == 4) = isSign c) (by decide +kernel) c
theorem clsP (c : UInt8) : (cls c == 2 || cls c == 3 || cls c == 5) = isPart c := all256 (p := fun c => (cls c == 2 || cls c == 3 || cls c == 5) = isPart c) (by decide +kernel) c
theorem clsR (c : UInt8) : cls c = 0 ∨ cls c = 1 ∨ cls c = 2 ∨ cls c = 3 ∨ cls c = 4 ∨ cls c = 5 := all256 (p := fun c => cls c = 0 ∨ cls c = 1 ∨ cls c = 2 ∨ cls c = 3 ∨ cls c = 4 ∨ cls c = 5) (by decide +kernel) c
theorem let_part {c : UInt8} (h : isLet c = true) : isPart c = true := by simp [isPart, h]
theorem let_sp {c : UInt8} (h : isLet c = true) : isSp c = false := by
  revert h; exact all256 (p := fun c => isLet c = true → isSp c = false) (by decide +kernel) c
theorem fig_sp {c : UInt8} (h : isFig c = true) : isSp c = false ∧ isLet c = false := by
  revert h; exact all256 (p := fun c => isFig c = true → isSp c = false ∧ isLet c = false) (by decide +kernel) c
theorem sign_sp {c : UInt8} (h : isSign c = true) : isSp c = false ∧ isLet c = false ∧ isFig c = false := by
  revert h; exact all256 (p := fun c => isSign c = true → isSp c = false ∧ isLet c = false ∧ isFig c = false) (by decide +kernel) c
theorem sp_not {c : UInt8} (h : isSp c = true) : isPart c = false ∧ isFig c = false ∧ c ≠ 47 := by
  revert h; exact all256 (p := fun c => isSp c = true → isPart c = false ∧ isFig c = false ∧ c ≠ 47) (by decide +kernel) c

/-! ### runs -/
theorem loop_tw {src : Str} {q : UInt8 → Bool} {body : Int → R (Int ⊕ Int)} (hb : ∀ n : Nat, n ≤ src.length → body (n : Int) = match src[n]? with | some c => if q c then .ok (.inl ((n + 1 : Nat) : Int)) else .ok (.inr (n : Int)) | none => .ok (.inr (n : Int))) :
    ∀ (k p : Nat), p ≤ src.length → src.length - p = k → loop body (p : Int) = .ok (((p + ((src.drop p).takeWhile q).length : Nat)) : Int)
  | k, p, hp, hk => by
    rw [loop_eq, hb p hp]
    by_cases hl : p < src.length
    · have e : src.drop p = src[p] :: src.drop (p + 1) := List.drop_eq_getElem_cons hl
      rw [List.getElem?_eq_getElem hl, e, List.takeWhile_cons]
      simp only
      cases hq : q src[p]
      · simp
      · simp only [if_true, R.ok_bind]
        cases k with
        | zero => omega
        | succ k =>
          rw [loop_tw hb k (p + 1) hl (by omega)]
          simp only [List.length_cons]
          congr 2
          omega
    · have e : src[p]? = none := List.getElem?_eq_none (by omega)
      have e2 : src.drop p = [] := List.drop_eq_nil_of_le (by omega)
      rw [e, e2]; simp
theorem take_tw {α : Type} (q : α → Bool) : ∀ l : List α, l.take (l.takeWhile q).length = l.takeWhile q
  | [] => rfl
  | a :: l => by
    rw [List.takeWhile_cons]
    cases q a
    · rfl
    · simp [take_tw q l]
theorem tw_le {α : Type} (q : α → Bool) : ∀ l : List α, (l.takeWhile q).length ≤ l.length
  | [] => Nat.le_refl _
  | a :: l => by
    rw [List.takeWhile_cons]
    cases q a
    · simp
    · simpa using tw_le q l
theorem cut_tw {src : Str} {p : Nat} (q : UInt8 → Bool) : cut src (p : Int) ((p + ((src.drop p).takeWhile q).length : Nat) : Int) = (src.drop p).takeWhile q := by
  unfold cut
  simp only [Int.toNat_natCast]
  rw [show p + ((src.drop p).takeWhile q).length - p = ((src.drop p).takeWhile q).length by omega, take_tw]
theorem idx_str {src : Str} {n : Nat} {c : UInt8} (h : src[n]? = some c) : idx src (n : Int) = .ok c := idx_nat h

/-- 'slices.Contains' of ints -/
theorem index_int (v : Int) : ∀ (l : List Int) (k : Nat), ∃ j : Nat, each (fun j a => fun _ => slices_Index_int_b1 v j a) k l () = .ok (if l.contains v then .inr (j : Int) else .inl ())
  | [], k => ⟨0, rfl⟩
  | a :: l, k => by
    rw [each_cons]
    by_cases h : v = a
    · subst h; exact ⟨k, by simp [slices_Index_int_b1]⟩
    · have h1 : (v == a) = false := by simpa using h
      obtain ⟨j, hj⟩ := index_int v l (k + 1)
      refine ⟨j, ?_⟩
      rw [show slices_Index_int_b1 v k a = .ok (.inl ()) by unfold slices_Index_int_b1; rw [h1]; rfl, R.ok_bind, List.contains_cons, h1]
      exact hj
theorem contains_int (l : List Int) (v : Int) : slices_Contains_int l v = .ok (l.contains v) := by
  unfold slices_Contains_int slices_Index_int
  obtain ⟨j, hj⟩ := index_int v l 0
  rw [hj]
  cases h : l.contains v
  · simp only [Bool.false_eq_true, if_false, R.ok_bind]; rfl
  · simp only [if_true, R.ok_bind]
    simp

theorem run_eq (src : Str) (p : Nat) (l : List Token) (some : List Int) (hp : p ≤ src.length) (hs : src.length ≤ 65536) :
    lex_scanner_run ({ fSrc := src, fAt := p, fL := l } : T48) some = .ok ((src.drop p).takeWhile fun c => some.contains (cls c)) := by
  unfold lex_scanner_run
  rw [loop_tw (src := src) (q := fun c => some.contains (cls c)) (k := src.length - p) (p := p) (fun n hn => ?_) hp rfl]
  · simp only [R.ok_bind]
    unfold lex_scanner_run_j1
    have hle := tw_le (fun c => some.contains (cls c)) (src.drop p)
    rw [List.length_drop] at hle
    dsimp only
    rw [if_pos ⟨by omega, by omega, by omega⟩]
    simp only [cut_tw]
  · unfold lex_scanner_run_b1
    by_cases hl : n < src.length
    · have hi : (n : Int) < src.length := by omega
      rw [List.getElem?_eq_getElem hl]
      simp only [hi, decide_true, if_true]
      rw [idx_str (List.getElem?_eq_getElem hl)]
      simp only [R.ok_bind, cls_eq, contains_int]
      cases some.contains (cls src[n])
      · rfl
      · simp only [if_true]
        rw [wrap64 (by omega) (by omega)]
        rfl
    · have hi : ¬ ((n : Int) < src.length) := by omega
      rw [List.getElem?_eq_none (by omega)]
      simp only [hi, decide_false, Bool.false_eq_true, if_false, R.ok_bind]

/-! ### names -/
def nameOk (s : Str) : Bool := match s with | [] => false | c :: w => isLet c && w.all isPart && decide (w.length + 1 ≤ 32)
theorem each_allB {α : Type} {b : Nat → α → Unit → R (Unit ⊕ Bool)} {p : α → Bool} (hb : ∀ j a, b j a () = if p a then .ok (.inl ()) else .ok (.inr false)) : ∀ (l : List α) (k : Nat), each b k l () = .ok (if l.all p then .inl () else .inr false)
  | [], k => rfl
  | a :: l, k => by
    rw [each_cons, hb]
    cases h : p a
    · simp [h]
    · simp [h, each_allB hb l (k + 1)]
theorem part_cls (c : UInt8) : (((cls c != 2) && (cls c != 3)) && (cls c != 5)) = !isPart c := by
  rw [← clsP]; simp [bne, Bool.not_or]
theorem name_eq (s : Str) : lex_Name s = .ok (nameOk s) := by
  unfold lex_Name nameOk
  cases s with
  | nil => rfl
  | cons c w =>
    simp only [show ((c :: w : Str) == []) = false from rfl, Bool.false_or]
    by_cases h : w.length + 1 ≤ 32
    · have h1 : ¬ (((c :: w).length : Int) > 32) := by simp only [List.length_cons]; omega
      have h2 : (c :: w).length ≤ LIM := by simp only [List.length_cons, LIM]; omega
      simp only [h1, decide_false, Bool.false_eq_true, if_false, idx_0, R.ok_bind, cls_eq, h2, if_true, h, decide_true, Bool.and_true]
      cases hc : isLet c
      · rw [show (cls c != 2) = true by rw [bne, cls2, hc]; rfl]; simp
      · rw [show (cls c != 2) = false by rw [bne, cls2, hc]; rfl]
        simp only [Bool.false_eq_true, if_false, Bool.true_and]
        rw [each_allB (p := isPart) (fun j a => by unfold lex_Name_b1; simp only [cls_eq, R.ok_bind, part_cls]; cases isPart a <;> rfl)]
        simp only [R.ok_bind, List.all_cons, let_part hc, Bool.true_and]
        cases w.all isPart <;> rfl
    · have h1 : ((c :: w).length : Int) > 32 := by simp only [List.length_cons]; omega
      simp only [h1, decide_true, if_true, R.ok_bind, h, decide_false, Bool.and_false]
theorem rname_eq (s : Str) : ref07_Name s = .ok (nameOk s) := by
  unfold ref07_Name nameOk
  cases s with
  | nil => rfl
  | cons c w =>
    have h0 : ¬ (((c :: w).length : Int) < 1) := by simp only [List.length_cons]; omega
    by_cases h : w.length + 1 ≤ 32
    · have h1 : ¬ (((c :: w).length : Int) > 32) := by simp only [List.length_cons]; omega
      have h2 : (c :: w).length ≤ LIM := by simp only [List.length_cons, LIM]; omega
      simp only [h0, h1, decide_false, Bool.false_eq_true, Bool.or_false, if_false, idx_0, R.ok_bind, let_eq, h2, if_true, h, decide_true, Bool.and_true]
      cases hc : isLet c
      · simp
      · simp only [Bool.not_true, Bool.false_eq_true, if_false, Bool.true_and]
        rw [each_allB (p := isPart) (fun j a => by unfold ref07_Name_b1; simp only [part_eq, R.ok_bind])]
        simp only [R.ok_bind, List.all_cons, let_part hc, Bool.true_and]
        cases w.all isPart <;> rfl
    · have h1 : ((c :: w).length : Int) > 32 := by simp only [List.length_cons]; omega
      simp only [h0, h1, decide_true, decide_false, Bool.false_or, if_true, R.ok_bind, h, Bool.and_false]
end Go.Am
