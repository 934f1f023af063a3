/- lex: sizes, the law's own text; LexTextSpec. -/
import Derived.Test.YtomgekeihfaohaaDoorLxP5
import Derived.Lib.Join
namespace Go.Am
open Go
set_option linter.unusedVariables false
set_option linter.unusedSimpArgs false

/-! ### sizes -/
def total (l : List Token) : Nat := (l.map fun t => t.Text.length).sum
theorem nD_le : ∀ (k u : Nat), u < 10 ^ (k + 1) → Lib.nDigits u ≤ k + 1
  | 0, u, h => by rw [Lib.nDigits_small (by simpa using h)]; exact Nat.le_refl _
  | k + 1, u, h => by
    by_cases h1 : u < 10
    · rw [Lib.nDigits_small h1]; omega
    · rw [Lib.nDigits_big h1]
      have := nD_le k (u / 10) (by rw [Nat.pow_succ] at h; omega)
      omega
theorem spell_le {t : Token} (h : t.N ≤ 9223372036854775807) : (spell t).length ≤ t.Text.length + 20 := by
  unfold spell
  split
  · rw [Lib.decDigits_length]
    have := nD_le 19 t.N.toNat (by rw [show (10 : Nat) ^ (19 + 1) = 100000000000000000000 from rfl]; omega)
    omega
  · omega
theorem tail_len (sep : Str) : ∀ l : List Str, (Lib.joinTail sep l).length = sep.length * l.length + (l.map List.length).sum
  | [] => by simp [Lib.joinTail]
  | a :: l => by
    have ih := tail_len sep l
    have e : Lib.joinTail sep (a :: l) = sep ++ a ++ Lib.joinTail sep l := by simp [Lib.joinTail]
    rw [e, List.length_append, List.length_append, ih, List.map_cons, List.sum_cons, List.length_cons, Nat.mul_add]
    omega
theorem join_le (l : List Str) : (Lib.join l [32]).length ≤ l.length + (l.map List.length).sum := by
  cases l with
  | nil => simp [Lib.join_nil]
  | cons a l =>
    have e1 : ([32] : Str).length = 1 := rfl
    have e2 := List.length_cons (a := a) (as := l)
    rw [Lib.join_cons, List.length_append, tail_len, List.map_cons, List.sum_cons, e1]
    omega
theorem spells_le : ∀ (l : List Token), (∀ t ∈ l, t.N ≤ 9223372036854775807) → ((l.map spell).map List.length).sum ≤ total l + 20 * l.length
  | [], _ => by simp [total]
  | t :: l, h => by
    have ih := spells_le l fun t ht => h t (List.mem_cons_of_mem _ ht)
    have := spell_le (h t (List.mem_cons_self ..))
    unfold total at ih ⊢
    simp only [List.map_cons, List.sum_cons, List.length_cons]
    omega
theorem join_spell_le (l : List Token) (h : ∀ t ∈ l, t.N ≤ 9223372036854775807) : (Lib.join (l.map spell) [32]).length ≤ total l + 21 * l.length := by
  have h1 := join_le (l.map spell)
  have h2 := spells_le l h
  rw [List.length_map] at h1
  omega
theorem total_le (l : List Token) : total l + l.length ≤ (tSl 4 tToken).bulk l := by
  show total l + l.length ≤ (l.map tToken.bulk).sum + 1
  induction l with
  | nil => simp [total]
  | cons t l ih =>
    unfold total at ih ⊢
    simp only [List.map_cons, List.sum_cons, List.length_cons]
    have : t.Text.length + 1 ≤ tToken.bulk t := by
      show _ ≤ (1 + ((t.Text.length + 1) + (1 + (1 + 0)))) + 1
      omega
    omega
theorem intLit_range {n : Int} (h : (Lit.int .i64 n).wf = true) : -9223372036854775808 ≤ n ∧ n ≤ 9223372036854775807 := by
  simpa [Lit.wf, IntKind.min, IntKind.max, IntKind.signed, IntKind.bits] using h
theorem good_N {l : List Token} (h : (tSl 4 tToken).good l) : ∀ t ∈ l, t.N ≤ 9223372036854775807 ∧ -9223372036854775808 ≤ t.N := by
  intro t ht
  have : tToken.good t := h t ht
  have h2 : (Lit.int .i64 t.N).wf = true := this.2.2.1
  have := intLit_range h2
  exact ⟨this.2, this.1⟩
theorem small_of {l : List Token} (h1 : l.length ≤ 1048576) (h2 : total l ≤ 1048576) (h3 : ∀ t ∈ l, t.N ≤ 9223372036854775807) : small l := by
  have := join_spell_le l h3
  exact ⟨h1, by omega, h3⟩
theorem small_good {l : List Token} (hg : (tSl 4 tToken).good l) (hb : (tSl 4 tToken).bulk l ≤ 1048576) : small l := by
  have := total_le l
  exact small_of (by omega) (by omega) fun t ht => (good_N hg t ht).1

/-! ### few -/
def few (l : List Token) : Bool := decide (l.length ≤ 200) && decide (total l ≤ 2000)
theorem few_each : ∀ (l : List Token) (k n : Nat), n + total l ≤ 1048576 → eachS (fun _ a => fun n => ref07_Few_b1 a n) k l (n : Int) = .ok ((n + total l : Nat) : Int)
  | [], k, n, h => by simp [total]
  | t :: l, k, n, h => by
    have e : total (t :: l) = t.Text.length + total l := by simp [total]
    rw [e] at h
    rw [eachS_cons']
    unfold ref07_Few_b1
    rw [wrap64 (by omega) (by omega), R.ok_bind]
    have := few_each l (k + 1) (n + t.Text.length) (by omega)
    rw [e]
    refine Eq.trans (by congr 1) (this.trans ?_)
    congr 2
    omega
theorem few_eq (l : List Token) (h : total l ≤ 1048576) : ref07_Few l = .ok (few l) := by
  unfold ref07_Few few
  rw [show (0 : Int) = ((0 : Nat) : Int) from rfl, few_each l 0 0 (by omega), R.ok_bind]
  congr 2
  · rw [decide_eq_decide]; omega
  · rw [decide_eq_decide]; omega

/-! ### the law's own numeral and text -/
theorem digit_eq (n : Nat) (h : n ≤ 9223372036854775807) : strOf [(IntKind.wrap .u8 (IntKind.wrap .i64 (48 + (Int.tmod (n : Int) 10))))] = [UInt8.ofNat (48 + n % 10)] := by
  have e : Int.tmod (n : Int) 10 = ((n % 10 : Nat) : Int) := (Int.ofNat_tmod n 10).symm
  rw [e, wrap64 (by omega) (by omega)]
  have e2 : IntKind.wrap .u8 (48 + ((n % 10 : Nat) : Int)) = ((48 + n % 10 : Nat) : Int) := by
    simp [IntKind.wrap, IntKind.bits, IntKind.signed]; omega
  rw [e2]
  rfl
theorem div_eq (n : Nat) (h : n ≤ 9223372036854775807) : IntKind.wrap .i64 (Int.tdiv (n : Int) 10) = ((n / 10 : Nat) : Int) := by
  have e : Int.tdiv (n : Int) 10 = ((n / 10 : Nat) : Int) := (Int.ofNat_tdiv n 10).symm
  rw [e, wrap64 (by omega) (by omega)]
theorem dec_loop : ∀ (k n : Nat) (s : Str), n ≤ k → n ≤ 9223372036854775807 → s.length + k ≤ 9223372036854775807 →
    loop (un2 fun n1 s => ref07_Decimal_b1 n1 s) ((n : Int), s) = .ok ((if n < 10 then [] else Lib.decDigits (n / 10)) ++ s) := by
  intro k
  induction k with
  | zero =>
    intro n s h1 h2 h3
    rw [loop_eq]
    simp only [un2]
    unfold ref07_Decimal_b1
    rw [if_neg (by omega), if_pos (by omega)]
    rfl
  | succ k ih =>
    intro n s h1 h2 h3
    rw [loop_eq]
    simp only [un2]
    unfold ref07_Decimal_b1
    by_cases h : n < 10
    · rw [if_neg (by omega), if_pos h]; rfl
    · rw [if_pos (by omega), div_eq n h2, digit_eq (n / 10) (by omega)]
      simp only [List.length_singleton]
      rw [if_pos (by omega)]
      simp only [R.ok_bind]
      have := ih (n / 10) ([UInt8.ofNat (48 + n / 10 % 10)] ++ s) (by omega) (by omega) (by simp; omega)
      refine this.trans ?_
      rw [if_neg h]
      congr 1
      by_cases h' : n / 10 < 10
      · rw [if_pos h', Lib.decDigits_one h', Nat.mod_eq_of_lt h']; rfl
      · rw [if_neg h']
        conv => rhs; rw [Lib.decDigits]
        simp [h']
theorem dec_eq {n : Int} (h1 : 0 ≤ n) (h2 : n ≤ 1099511627776) : ref07_Decimal n = .ok (Lib.decDigits n.toNat) := by
  unfold ref07_Decimal
  obtain ⟨m, rfl⟩ : ∃ m : Nat, n = (m : Int) := ⟨n.toNat, by omega⟩
  rw [digit_eq m (by omega), dec_loop m m _ (Nat.le_refl _) (by omega) (by simp; omega)]
  simp only [R.ok_bind, ref07_Decimal_j1, Int.toNat_natCast]
  congr 1
  by_cases h : m < 10
  · rw [if_pos h, Lib.decDigits_one h, Nat.mod_eq_of_lt h]; rfl
  · rw [if_neg h]
    conv => rhs; rw [Lib.decDigits]
    simp [h]
theorem rtext_j1 {t : Token} (hv : validTok t = true) (s : Str) (h : s.length + (spell t).length ≤ 9223372036854775807) : ref07_Text_j1 t s = .ok (.inl (s ++ spell t)) := by
  unfold ref07_Text_j1
  unfold spell at h ⊢
  cases hk : (t.Kind == 2)
  · rw [hk] at h
    simp only [Bool.false_eq_true, if_false] at h ⊢
    rw [if_pos h]
  · obtain ⟨_, h1, h2⟩ := valid_num hv hk
    rw [hk] at h
    simp only [if_true] at h ⊢
    rw [dec_eq h1 h2, R.ok_bind, if_pos h]
theorem rtext_each : ∀ (l : List Token) (k : Nat) (s : Str), s.length + (Lib.joinTail [32] (l.map spell)).length ≤ 9223372036854775807 →
    each (fun j a => fun s => ref07_Text_b1 j a s) (k + 1) l s = .ok (if l.all validTok then .inl (s ++ Lib.joinTail [32] (l.map spell)) else .inr ([], 70))
  | [], k, s, _ => by simp [Lib.joinTail]
  | t :: l, k, s, h => by
    have e : Lib.joinTail [32] ((t :: l).map spell) = [32] ++ spell t ++ Lib.joinTail [32] (l.map spell) := by simp [Lib.joinTail]
    rw [e, List.length_append, List.length_append] at h
    rw [each_cons]
    unfold ref07_Text_b1
    rw [rvalid_eq, R.ok_bind, List.all_cons, e]
    cases hv : validTok t
    · rfl
    · simp only [if_true, Bool.true_and]
      rw [if_pos (by omega), if_pos (by omega), rtext_j1 hv _ (by rw [List.length_append]; omega), R.ok_bind]
      refine (rtext_each l (k + 1) _ (by rw [List.length_append, List.length_append]; omega)).trans ?_
      simp [List.append_assoc]
theorem rtext_eq (l : List Token) (h : small l) : ref07_Text l = .ok (textOut l) := by
  unfold ref07_Text textOut
  obtain ⟨h1, h2, h3⟩ := h
  cases l with
  | nil => rfl
  | cons t l =>
    rw [List.map_cons, Lib.join_cons, List.length_append] at h2
    rw [each_cons]
    rw [show ref07_Text_b1 0 t [] = (ref07_Valid t).bind fun r => if r then (if ((0 : Nat) : Int) > 0 then (if ([] : Str).length + [32].length ≤ 9223372036854775807 then ref07_Text_j1 t ([] ++ [32]) else .bad) else (ref07_Text_j1 t [])) else (.ok (.inr (([], 70)))) from rfl]
    rw [rvalid_eq, R.ok_bind, List.all_cons]
    cases hv : validTok t
    · rfl
    · simp only [if_true, Bool.true_and]
      rw [if_neg (by omega), rtext_j1 hv [] (by simp only [List.length_nil]; omega), R.ok_bind]
      have := rtext_each l 0 (spell t) (by omega)
      simp only [List.nil_append] at this ⊢
      rw [this, List.map_cons, Lib.join_cons]
      cases l.all validTok <;> rfl
theorem law_LexTextSpec : Law_LexTextSpec := by
  intro a b s ga gb gs hb
  have ha : (tSl 4 tToken).bulk a ≤ 1048576 := by omega
  have hb' : (tSl 4 tToken).bulk b ≤ 1048576 := by omega
  have sa := small_good ga ha
  have sb := small_good gb hb'
  have ta := total_le a
  have tb := total_le b
  unfold law07_LexTextSpec
  rw [sane_ok, R.ok_bind, if_pos rfl, few_eq a (by omega), few_eq b (by omega)]
  simp only [R.ok_bind, text_eq a sa, rtext_eq a sa, same_eq, rsame_eq, same_refl, name_eq, rname_eq, beq_self_eq_true, Bool.and_self, if_true]
  cases few a <;> cases few b <;> simp
end Go.Am
