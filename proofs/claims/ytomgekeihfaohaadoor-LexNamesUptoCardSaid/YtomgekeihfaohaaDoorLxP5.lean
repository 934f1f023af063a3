/- lex: 'Same', 'Equal', the text; the laws' trial. -/
import Derived.Test.YtomgekeihfaohaaDoorLxP4
namespace Go.Am
open Go
set_option linter.unusedVariables false
set_option linter.unusedSimpArgs false

/-! ### two lists, place by place -/
def all2 {α β : Type} (q : α → β → Bool) : List α → List β → Bool
  | [], [] => true
  | a :: l, b :: m => q a b && all2 q l m
  | _, _ => false
theorem each_two {α β : Type} {q : α → β → Bool} {b : List β} {body : Nat → α → Unit → R (Unit ⊕ Bool)} (hb : ∀ (j : Nat) a y, b[j]? = some y → body j a () = .ok (if q a y then .inl () else .inr false)) :
    ∀ (l : List α) (m : List β) (k : Nat), l.length = m.length → b.drop k = m → each body k l () = .ok (if all2 q l m then .inl () else .inr false)
  | [], [], k, _, _ => rfl
  | [], _ :: _, k, h, _ => by simp at h
  | _ :: _, [], k, h, _ => by simp at h
  | a :: l, y :: m, k, h, hd => by
    have hy : b[k]? = some y := by
      have := List.getElem?_drop (xs := b) (i := k) (j := 0)
      rw [hd] at this
      simpa using this.symm
    have hd' : b.drop (k + 1) = m := by rw [← List.drop_drop, hd]; rfl
    rw [each_cons, hb k a y hy, all2]
    cases hq : q a y
    · rfl
    · simp only [if_true, R.ok_bind, Bool.true_and]
      exact each_two hb l m (k + 1) (by simpa using h) hd'
def key (a b : Token) : Bool := (a.Kind == b.Kind) && (a.Text == b.Text) && (a.N == b.N)
def same (a b : List Token) : Bool := all2 key a b
theorem all2_len {α β : Type} {q : α → β → Bool} : ∀ {l : List α} {m : List β}, l.length ≠ m.length → all2 q l m = false
  | [], [], h => absurd rfl h
  | [], _ :: _, _ => rfl
  | _ :: _, [], _ => rfl
  | a :: l, y :: m, h => by rw [all2, all2_len (by simpa using h), Bool.and_false]
theorem leneq {α β : Type} (a : List α) (b : List β) : ((a.length : Int) != (b.length : Int)) = !decide (a.length = b.length) := by
  rw [bne, beq_dec]; congr 1; rw [decide_eq_decide]; omega
theorem same_eq (a b : List Token) : lex_Same a b = .ok (same a b) := by
  unfold lex_Same slices_EqualFunc_api_Token_api_Token_api_Token_c1 same
  rw [leneq]
  by_cases h : a.length = b.length
  · simp only [h, decide_true, Bool.not_true, Bool.false_eq_true, if_false]
    rw [each_two (q := key) (b := b) (fun j x y hy => by
      unfold slices_EqualFunc_api_Token_api_Token_api_Token_c1_b1 lex_Same_c1
      rw [idx_nat hy]
      simp only [R.ok_bind]
      show (if key x y then _ else _) = _
      cases key x y <;> rfl) a b 0 h rfl]
    cases all2 key a b <;> rfl
  · simp only [h, decide_false, Bool.not_false, if_true, R.ok_bind]
    rw [all2_len h]
theorem rsame_eq (a b : List Token) : ref07_Same a b = .ok (same a b) := by
  unfold ref07_Same same
  rw [leneq]
  by_cases h : a.length = b.length
  · simp only [h, decide_true, Bool.not_true, Bool.false_eq_true, if_false]
    rw [each_two (q := key) (b := b) (fun j x y hy => by
      unfold ref07_Same_b1 ref07_Same_j1
      rw [idx_nat hy]
      simp only [R.ok_bind, key]
      by_cases h1 : x.Kind = y.Kind <;> by_cases h2 : x.Text = y.Text <;> by_cases h3 : x.N = y.N <;> simp [h1, h2, h3]) a b 0 h rfl]
    cases all2 key a b <;> rfl
  · simp only [h, decide_false, Bool.not_false, if_true]
    rw [all2_len h]
def equal (a b : List Token) : Bool := same a b && all2 (fun x y : Token => x.At == y.At) a b
theorem equal_eq (a b : List Token) : ref07_Equal a b = .ok (equal a b) := by
  unfold ref07_Equal equal
  rw [rsame_eq]
  simp only [R.ok_bind]
  cases hs : same a b
  · rfl
  · simp only [if_true, Bool.true_and]
    have h : a.length = b.length := by
      by_cases h : a.length = b.length
      · exact h
      · unfold same at hs; rw [all2_len h] at hs; cases hs
    rw [each_two (q := fun x y : Token => x.At == y.At) (b := b) (fun j x y hy => by
      unfold ref07_Equal_b1
      rw [idx_nat hy]
      simp only [R.ok_bind]
      by_cases h1 : x.At = y.At <;> simp [h1]) a b 0 h rfl]
    cases all2 (fun x y : Token => x.At == y.At) a b <;> rfl
theorem all2_refl {α : Type} {q : α → α → Bool} (hq : ∀ a, q a a = true) : ∀ l : List α, all2 q l l = true
  | [] => rfl
  | a :: l => by rw [all2, hq, all2_refl hq l]; rfl
theorem key_refl (a : Token) : key a a = true := by simp [key]
theorem same_refl (a : List Token) : same a a = true := all2_refl key_refl a
theorem equal_refl (a : List Token) : equal a a = true := by
  unfold equal; rw [same_refl, all2_refl (fun a => by simp)]; rfl

/-! ### the text -/
def spell (t : Token) : Str := if t.Kind == 2 then Lib.decDigits t.N.toNat else t.Text
def textOut (l : List Token) : Str × Int := if l.all validTok then (Lib.join (l.map spell) [32], 0) else ([], 70)
theorem valid_num {t : Token} (h : validTok t = true) (hk : (t.Kind == 2) = true) : t.Text = [] ∧ 0 ≤ t.N ∧ t.N ≤ 1099511627776 := by
  unfold validTok at h
  have : t.Kind = 2 := eq_of_beq hk
  rw [this] at h
  rw [if_neg (by decide), if_pos (by decide)] at h
  simp at h
  exact ⟨h.1.1, h.1.2, h.2⟩
theorem itoa_val {n : Int} (h : 0 ≤ n) : Lib.itoa n = Lib.decDigits n.toNat := by
  have := itoa_nat n.toNat
  rwa [show ((n.toNat : Nat) : Int) = n by omega] at this
theorem text_each : ∀ (l : List Token) (pre : List Str) (k : Nat), pre.length = k → (∀ t ∈ l, t.N ≤ 9223372036854775807) →
    each (fun j a => fun words => lex_Text_b1 j a words) k l (pre ++ List.replicate l.length []) = .ok (if l.all validTok then .inl (pre ++ l.map spell) else .inr ([], 70))
  | [], pre, k, _, _ => by simp
  | t :: l, pre, k, hk, hn => by
    rw [each_cons]
    unfold lex_Text_b1
    rw [valid_eq, R.ok_bind, List.all_cons]
    cases hv : validTok t
    · rfl
    · simp only [if_true, Bool.true_and]
      have e : (pre ++ List.replicate (t :: l).length ([] : Str))[k]? = some [] := by
        rw [List.getElem?_append_right (by omega), hk]; simp
      have e2 : ∀ w : Str, (pre ++ List.replicate (t :: l).length ([] : Str)).set (k : Int).toNat w = (pre ++ [w]) ++ List.replicate l.length [] := by
        intro w
        rw [Int.toNat_natCast, List.set_append_right _ _ (by omega), hk, List.length_cons, List.replicate_succ]
        simp
      have ih := fun w => text_each l (pre ++ [w]) (k + 1) (by simp [hk]) (fun t ht => hn t (List.mem_cons_of_mem _ ht))
      cases hkd : (t.Kind == 2)
      · simp only [Bool.false_eq_true, if_false, idx_nat e, R.ok_bind]
        rw [e2]
        refine (ih _).trans ?_
        simp [spell, hkd]
      · obtain ⟨_, h1, h2⟩ := valid_num hv hkd
        simp only [if_true]
        unfold strconv_Itoa
        rw [if_pos ⟨by omega, by omega⟩, itoa_val h1]
        simp only [idx_nat e, R.ok_bind]
        rw [e2]
        refine (ih _).trans ?_
        simp [spell, hkd]
def small (l : List Token) : Prop := l.length ≤ 1048576 ∧ (Lib.join (l.map spell) [32]).length ≤ 140737488355328 ∧ ∀ t ∈ l, t.N ≤ 9223372036854775807
theorem text_eq (l : List Token) (h : small l) : lex_Text l = .ok (textOut l) := by
  unfold lex_Text textOut
  obtain ⟨h1, h2, h3⟩ := h
  rw [if_pos ⟨by omega, by omega, by simp only [Int.toNat_natCast, LIM]; omega⟩, Int.toNat_natCast]
  have := text_each l [] 0 rfl h3
  rw [List.nil_append, List.nil_append] at this
  rw [this]
  cases l.all validTok
  · rfl
  · simp only [if_true, R.ok_bind]
    unfold strings_Join
    simp only [alt]
    rw [if_pos h2]
    rfl
theorem lexP_length : ∀ (n : Nat) (s : Str) (p : Nat) (l : List Token), s.length ≤ n → lexP s p = .ok l → l.length ≤ s.length
  | _, [], p, l, _, h => by rw [lexP_nil] at h; cases h; simp
  | 0, _ :: _, p, l, hn, _ => by simp at hn
  | n + 1, c :: s, p, l, hn, h => by
    rw [lexP_cons] at h
    cases ht : tk c s with
    | none => rw [ht] at h; cases h
    | some x =>
      obtain ⟨o, k⟩ := x
      rw [ht] at h
      simp only at h
      cases hr : lexP (s.drop k) (p + 1 + k) with
      | wrong e => rw [hr] at h; cases h
      | ok r =>
        rw [hr] at h
        simp only [Lx.add, Lx.ok.injEq] at h
        have := lexP_length n (s.drop k) _ r (by rw [List.length_drop]; simp at hn; omega) hr
        rw [List.length_drop] at this
        have hol : (o.map (at' p)).toList.length ≤ 1 := by cases o <;> simp
        rw [← h, List.length_append, List.length_cons]
        omega

/-! ### the laws' trial -/
set_option maxRecDepth 100000 in
theorem sane_ok : law07_sane = .ok true := by
  unfold law07_sane
  simp only [lex_eq, R.ok_bind]
  rw [text_eq (lexOut [97, 61, 49]).1 ⟨by decide +kernel, by decide +kernel, by decide +kernel⟩, text_eq [({ Kind := 0, Text := [], N := 0, At := 0 } : Token)] ⟨by decide +kernel, by decide +kernel, by decide +kernel⟩]
  simp only [R.ok_bind, equal_eq, name_eq, same_eq]
  decide +kernel
theorem law_LexSpec : Law_LexSpec := by
  intro a0 _ _
  unfold law07_LexSpec
  rw [sane_ok, R.ok_bind, if_pos rfl]
  split
  · rfl
  · rw [lex_eq, ref_eq]
    simp only [R.ok_bind, equal_eq, equal_refl, beq_self_eq_true, Bool.and_self]
end Go.Am
