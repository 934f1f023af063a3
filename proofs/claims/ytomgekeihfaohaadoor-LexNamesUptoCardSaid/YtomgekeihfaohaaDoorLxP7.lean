/- lex: what stands behind or ahead; LexJoined, LexWrong, LexNames. -/
import Derived.Test.YtomgekeihfaohaaDoorLxP6
namespace Go.Am
open Go
set_option linter.unusedVariables false
set_option linter.unusedSimpArgs false

theorem tw_stop {α : Type} {q : α → Bool} {d : α} (hd : q d = false) (m : List α) : ∀ s : List α, (s ++ d :: m).takeWhile q = s.takeWhile q
  | [] => by rw [List.nil_append, List.takeWhile_cons, hd]; rfl
  | a :: s => by
    rw [List.cons_append, List.takeWhile_cons, List.takeWhile_cons, tw_stop hd m s]
theorem tw_lt {α : Type} {q : α → Bool} (m : List α) : ∀ s : List α, (s.takeWhile q).length ≠ s.length → (s ++ m).takeWhile q = s.takeWhile q
  | [], h => absurd rfl h
  | a :: s, h => by
    rw [List.cons_append, List.takeWhile_cons, List.takeWhile_cons]
    cases hq : q a
    · rfl
    · rw [List.takeWhile_cons, hq] at h
      rw [tw_lt m s (by simpa using h)]
theorem tw_take {α : Type} (q : α → Bool) : ∀ (s : List α) (m : Nat), (s.takeWhile q).length ≤ m → (s.take m).takeWhile q = s.takeWhile q
  | [], m, _ => by simp
  | a :: s, 0, h => by
    rw [List.takeWhile_cons] at h ⊢
    cases hq : q a
    · rfl
    · rw [hq] at h; simp at h
  | a :: s, m + 1, h => by
    rw [List.take_succ_cons, List.takeWhile_cons, List.takeWhile_cons]
    rw [List.takeWhile_cons] at h
    cases hq : q a
    · rfl
    · rw [hq] at h
      rw [tw_take q s m (by simpa using h)]
def com (c : UInt8) (s : Str) : Prop := c = 47 ∧ s.head? = some 47
theorem head_app {d : UInt8} (hd : d ≠ 47) (m s : Str) : (s ++ d :: m).head? = some 47 ↔ s.head? = some 47 := by
  cases s with
  | nil => simp [hd]
  | cons a s => simp
theorem tk_app {c d : UInt8} {s m : Str} (hd : isSp d = true) (h : d = 10 ∨ ¬ com c s ∨ (s.takeWhile (· != 10)).length ≠ s.length) : tk c (s ++ d :: m) = tk c s := by
  obtain ⟨h1, h2, h3⟩ := sp_not hd
  unfold tk
  rw [tw_stop h1, tw_stop h2]
  simp only [head_app h3]
  by_cases hc : c = 47 ∧ s.head? = some 47
  · simp only [hc, and_self, if_true]
    have e : (s ++ d :: m).takeWhile (· != 10) = s.takeWhile (· != 10) := by
      rcases h with h | h | h
      · subst h; exact tw_stop (by rfl) m s
      · exact absurd hc h
      · exact tw_lt _ _ h
    rw [e]
  · simp only [hc, if_false]
theorem tk_take {c : UInt8} {s : Str} {o : Option Token} {k m : Nat} (h : tk c s = some (o, k)) (hm : k ≤ m) : tk c (s.take m) = some (o, k) := by
  revert h
  unfold tk
  have hh : (s.take m).head? = some 47 → s.head? = some 47 := by
    cases s with
    | nil => simp
    | cons a s => cases m with | zero => simp | succ m => simp
  have hh2 : 1 ≤ m → (s.take m).head? = s.head? := by
    intro h1
    cases s with
    | nil => simp
    | cons a s => cases m with | zero => omega | succ m => simp
  split
  · exact id
  · split
    · intro h
      split at h
      · cases h
        rw [tw_take isPart s m hm]
        rename_i h5
        rw [if_pos h5]
      · cases h
    · split
      · intro h
        split at h
        · cases h
          rw [tw_take isFig s m hm]
          rename_i h5
          rw [if_pos h5]
        · cases h
      · split
        · intro h
          split at h
          · rename_i hc
            cases h
            have h1 : 1 ≤ (s.takeWhile (· != 10)).length := by
              cases s with
              | nil => simp at hc
              | cons a s =>
                have : a = 47 := by simpa using hc.2
                subst this
                rw [List.takeWhile_cons, if_pos (by rfl)]; simp
            rw [hh2 (by omega), if_pos hc, tw_take _ s m hm]
          · rename_i hc
            cases h
            rw [if_neg (fun e => hc ⟨e.1, hh e.2⟩)]
        · exact id
theorem drop_app {α : Type} {s m : List α} {k : Nat} (h : k ≤ s.length) : (s ++ m).drop k = s.drop k ++ m := by
  rw [List.drop_append_of_le_length h]

def Lx.pre (l : List Token) : Lx → Lx
  | .ok r => .ok (l ++ r)
  | .wrong e => .wrong e
def Lx.seq (x : Lx) (y : Lx) : Lx := match x with
  | .ok l => y.pre l
  | .wrong e => .wrong e
theorem Lx.add_seq (o : Option Token) (p : Nat) (x y : Lx) : (x.add o p).seq y = (x.seq y).add o p := by
  cases x <;> cases y <;> simp [Lx.add, Lx.seq, Lx.pre]
theorem lexP_nl (b : Str) : ∀ (n : Nat) (a : Str) (p : Nat), a.length ≤ n → lexP (a ++ 10 :: b) p = (lexP a p).seq (lexP b (p + a.length + 1))
  | n, [], p, _ => by
    rw [List.nil_append, lexP_cons, tk_sp _ (by rfl), lexP_nil]
    simp only [List.drop_zero, Lx.add_none, Lx.seq, List.length_nil, Nat.add_zero]
    cases lexP b (p + 1) <;> rfl
  | 0, _ :: _, p, h => by simp at h
  | n + 1, c :: s, p, h => by
    rw [List.cons_append, lexP_cons, lexP_cons, tk_app (by rfl) (.inl rfl)]
    cases ht : tk c s with
    | none => rfl
    | some x =>
      obtain ⟨o, k⟩ := x
      have hk := tk_le ht
      simp only
      rw [drop_app hk, lexP_nl b n (s.drop k) _ (by rw [List.length_drop]; simp at h; omega), Lx.add_seq, List.length_drop, List.length_cons]
      rw [show p + 1 + k + (s.length - k) + 1 = p + (s.length + 1) + 1 by omega]
def Lx.sh (q : Nat) : Lx → Lx
  | .ok l => .ok (l.map fun t => { t with At := t.At + (q : Int) })
  | .wrong e => .wrong (e + q)
theorem lexP_sh (q : Nat) : ∀ (n : Nat) (s : Str) (p : Nat), s.length ≤ n → lexP s (p + q) = (lexP s p).sh q
  | n, [], p, _ => rfl
  | 0, _ :: _, p, h => by simp at h
  | n + 1, c :: s, p, h => by
    rw [lexP_cons, lexP_cons]
    cases ht : tk c s with
    | none => rfl
    | some x =>
      obtain ⟨o, k⟩ := x
      simp only
      rw [show p + q + 1 + k = (p + 1 + k) + q by omega, lexP_sh q n (s.drop k) _ (by rw [List.length_drop]; simp at h; omega)]
      cases lexP (s.drop k) (p + 1 + k) with
      | wrong e => rfl
      | ok l => cases o <;> simp [Lx.sh, Lx.add, at']
theorem lexP_at : ∀ (n : Nat) (s : Str) (p : Nat) (l : List Token), s.length ≤ n → lexP s p = .ok l → ∀ t ∈ l, ∃ m : Nat, t.At = (m : Int) ∧ p ≤ m ∧ m < p + s.length
  | n, [], p, l, _, h => by rw [lexP_nil] at h; cases h; intro t ht; cases ht
  | 0, _ :: _, p, l, h, _ => by simp at h
  | n + 1, c :: s, p, l, hn, h => by
    rw [lexP_cons] at h
    cases ht : tk c s with
    | none => rw [ht] at h; cases h
    | some x =>
      obtain ⟨o, k⟩ := x
      have hk := tk_le ht
      rw [ht] at h
      simp only at h
      cases hr : lexP (s.drop k) (p + 1 + k) with
      | wrong e => rw [hr] at h; cases h
      | ok r =>
        rw [hr] at h
        simp only [Lx.add, Lx.ok.injEq] at h
        subst h
        intro t ht
        rcases List.mem_append.1 ht with ht | ht
        · cases o with
          | none => cases ht
          | some u =>
            simp at ht
            exact ⟨p, by rw [ht]; rfl, Nat.le_refl _, by rw [List.length_cons]; omega⟩
        · obtain ⟨m, h1, h2, h3⟩ := lexP_at n (s.drop k) _ r (by rw [List.length_drop]; simp at hn; omega) hr t ht
          rw [List.length_drop] at h3
          exact ⟨m, h1, by omega, by rw [List.length_cons]; omega⟩
theorem len_one (c : UInt8) : ([c] : Str).length = 1 := rfl
theorem out_ok (l : List Token) : out (.ok l) = (l, 0, 0) := rfl
theorem out_wrong (e : Nat) : out (.wrong e) = ([], (e : Int), 70) := rfl
theorem lexOut_small {s : Str} (h : s.length ≤ 65536) : lexOut s = out (lexP s 0) := by unfold lexOut; rw [if_pos h]
theorem law_LexJoined : Law_LexJoined := by
  intro a b _ _ hb
  have h1 : a.length + 1 + (b.length + 1) ≤ 1048576 := hb
  unfold law07_LexJoined
  rw [sane_ok, R.ok_bind, if_pos rfl, wrap64 (by omega) (by omega)]
  by_cases hs : (a.length : Int) + (b.length : Int) > 3000
  · rw [if_pos hs]
  · rw [if_neg hs]
    have e1 : (a ++ [10]).length = a.length + 1 := by simp
    have e2 : ((a ++ [10]) ++ b).length = a.length + 1 + b.length := by rw [List.length_append, e1]
    simp only [lex_eq, R.ok_bind]
    rw [if_pos (by show a.length + 1 ≤ _; omega), if_pos (by rw [e1]; omega)]
    rw [lexOut_small (s := a) (by omega), lexOut_small (s := b) (by omega), lexOut_small (by omega)]
    have e3 : (a ++ [10]) ++ b = a ++ 10 :: b := by simp
    have e4 : lexP b (0 + a.length + 1) = (lexP b 0).sh (a.length + 1) := by
      have := lexP_sh (a.length + 1) b.length b 0 (Nat.le_refl _)
      rw [← this, Nat.add_assoc]
    rw [e3, lexP_nl b a.length a 0 (Nat.le_refl _), e4]
    cases ha : lexP a 0 with
    | wrong e => rw [show (Lx.wrong e).seq ((lexP b 0).sh (a.length + 1)) = .wrong e from rfl, out_wrong]; simp
    | ok l =>
      have hal := lexP_length _ _ _ _ (Nat.le_refl _) ha
      cases hbb : lexP b 0 with
      | wrong e =>
        have : e ≤ b.length := by
          by_cases he : e ≤ b.length
          · exact he
          · exfalso
            have key : ∀ (n : Nat) (s : Str) (p e : Nat), s.length ≤ n → lexP s p = .wrong e → e < p + s.length := by
              intro n
              induction n with
              | zero => intro s p e hn h; have : s = [] := List.length_eq_zero_iff.1 (by omega); subst this; rw [lexP_nil] at h; cases h
              | succ n ih =>
                intro s p e hn h
                cases s with
                | nil => rw [lexP_nil] at h; cases h
                | cons c s =>
                  rw [lexP_cons] at h
                  cases ht : tk c s with
                  | none => rw [ht] at h; cases h; simp
                  | some x =>
                    obtain ⟨o, k⟩ := x
                    have hk := tk_le ht
                    rw [ht] at h
                    simp only at h
                    cases hr : lexP (s.drop k) (p + 1 + k) with
                    | ok r => rw [hr] at h; cases h
                    | wrong e' =>
                      rw [hr] at h
                      cases h
                      have := ih (s.drop k) _ _ (by rw [List.length_drop]; simp at hn; omega) hr
                      rw [List.length_drop] at this
                      rw [List.length_cons]; omega
            have := key _ _ _ _ (Nat.le_refl _) hbb
            omega
        rw [show (Lx.ok l).seq ((Lx.wrong e).sh (a.length + 1)) = .wrong (e + (a.length + 1)) from rfl, out_ok, out_wrong, out_wrong]
        dsimp only
        rw [if_neg (by decide), if_pos (by decide), wrap64 (n := (e : Int) + a.length) (by omega) (by omega), wrap64 (by omega) (by omega)]
        simp
        omega
      | ok r =>
        have hbl := lexP_length _ _ _ _ (Nat.le_refl _) hbb
        have hat := lexP_at _ _ _ _ (Nat.le_refl _) hbb
        rw [show (Lx.ok l).seq ((Lx.ok r).sh (a.length + 1)) = .ok (l ++ r.map fun t => { t with At := t.At + ((a.length + 1 : Nat) : Int) }) from rfl, out_ok, out_ok, out_ok]
        dsimp only
        rw [if_neg (by decide), if_neg (by decide), if_pos (by simp only [LIM]; omega)]
        rw [eachS_app (g := fun a1 : Token => ({ Kind := a1.Kind, Text := a1.Text, N := a1.N, At := (IntKind.wrap .i64 (a1.At + (IntKind.wrap .i64 ((a.length : Int) + 1)))) } : Token)) (c := 40) (fun j x s => by unfold law07_LexJoined_b1; rfl) r 0 l (by simp only [LIM]; omega)]
        simp only [R.ok_bind]
        have em : (r.map fun a1 : Token => ({ Kind := a1.Kind, Text := a1.Text, N := a1.N, At := (IntKind.wrap .i64 (a1.At + (IntKind.wrap .i64 ((a.length : Int) + 1)))) } : Token)) = r.map fun t => { t with At := t.At + ((a.length + 1 : Nat) : Int) } := by
          refine List.map_congr_left fun t ht => ?_
          obtain ⟨m, h2, h3, h4⟩ := hat t ht
          rw [h2, wrap64 (n := (a.length : Int) + 1) (by omega) (by omega), wrap64 (by omega) (by omega)]
          rfl
        rw [em, equal_eq, equal_refl]
        rfl

/-! ### errors -/
theorem lexP_wrong : ∀ (n : Nat) (s : Str) (p e : Nat), s.length ≤ n → lexP s p = .wrong e → p ≤ e ∧ e < p + s.length ∧ (∃ l, lexP (s.take (e - p)) p = .ok l) ∧ ∀ q, lexP (s.drop (e - p)) q = .wrong q
  | n, [], p, e, _, h => by rw [lexP_nil] at h; cases h
  | 0, _ :: _, p, e, h, _ => by simp at h
  | n + 1, c :: s, p, e, hn, h => by
    rw [lexP_cons] at h
    cases ht : tk c s with
    | none =>
      rw [ht] at h
      cases h
      refine ⟨Nat.le_refl _, by simp, ⟨[], by rw [Nat.sub_self]; rfl⟩, fun q => by rw [Nat.sub_self, List.drop_zero, lexP_cons, ht]⟩
    | some x =>
      obtain ⟨o, k⟩ := x
      have hk := tk_le ht
      rw [ht] at h
      simp only at h
      cases hr : lexP (s.drop k) (p + 1 + k) with
      | ok r => rw [hr] at h; cases h
      | wrong e' =>
        rw [hr] at h
        cases h
        obtain ⟨h1, h2, ⟨l, h3⟩, h4⟩ := lexP_wrong n (s.drop k) _ _ (by rw [List.length_drop]; simp at hn; omega) hr
        rw [List.length_drop] at h2
        have ek : e - p = (e - (p + 1)) + 1 := by omega
        refine ⟨by omega, by rw [List.length_cons]; omega, ?_, fun q => ?_⟩
        · rw [ek, List.take_succ_cons, lexP_cons, tk_take ht (by omega)]
          simp only
          rw [List.drop_take, show e - (p + 1) - k = e - (p + 1 + k) by omega, h3]
          exact ⟨_, rfl⟩
        · rw [ek, List.drop_succ_cons]
          have := h4 q
          rw [List.drop_drop] at this
          rwa [show k + (e - (p + 1 + k)) = e - (p + 1) by omega] at this
theorem lexP_wrong_app {d : UInt8} (hd : isSp d = true) (m : Str) : ∀ (n : Nat) (s : Str) (p e : Nat), s.length ≤ n → lexP s p = .wrong e → lexP (s ++ d :: m) p = .wrong e
  | n, [], p, e, _, h => by rw [lexP_nil] at h; cases h
  | 0, _ :: _, p, e, h, _ => by simp at h
  | n + 1, c :: s, p, e, hn, h => by
    rw [lexP_cons] at h
    have hcom : ¬ com c s ∨ (s.takeWhile (· != 10)).length ≠ s.length := by
      by_cases hc : com c s
      · refine .inr fun e2 => ?_
        obtain ⟨hc1, hc2⟩ := hc
        have ht : tk c s = some (none, s.length) := by
          subst hc1
          unfold tk
          rw [show isSp 47 = false by decide, show isLet 47 = false by decide, show isFig 47 = false by decide, show isSign 47 = true by decide]
          simp only [Bool.false_eq_true, if_false, if_true, hc2, and_self, e2]
        rw [ht] at h
        simp only [List.drop_length, lexP_nil, Lx.add] at h
        cases h
      · exact .inl hc
    rw [List.cons_append, lexP_cons, tk_app hd (.inr hcom)]
    cases ht : tk c s with
    | none => rw [ht] at h; exact h
    | some x =>
      obtain ⟨o, k⟩ := x
      have hk := tk_le ht
      rw [ht] at h
      simp only at h ⊢
      cases hr : lexP (s.drop k) (p + 1 + k) with
      | ok r => rw [hr] at h; cases h
      | wrong e' =>
        rw [hr] at h
        cases h
        rw [drop_app hk, lexP_wrong_app hd m n (s.drop k) _ _ (by rw [List.length_drop]; simp at hn; omega) hr]
        rfl
theorem law_LexWrong : Law_LexWrong := by
  intro a b _ _ hb
  have h1 : a.length + 1 + (b.length + 1) ≤ 1048576 := hb
  unfold law07_LexWrong
  rw [sane_ok, R.ok_bind, if_pos rfl, wrap64 (by omega) (by omega)]
  by_cases hs : (a.length : Int) + (b.length : Int) > 3000
  · rw [if_pos hs]
  · rw [if_neg hs]
    simp only [lex_eq, R.ok_bind]
    rw [lexOut_small (s := a) (by omega)]
    cases ha : lexP a 0 with
    | ok l => simp [out]
    | wrong e =>
      obtain ⟨h2, h3, ⟨l, h4⟩, h5⟩ := lexP_wrong _ _ _ _ (Nat.le_refl _) ha
      simp only [Nat.sub_zero, Nat.zero_add] at h3 h4 h5
      have e1 : (a ++ [32]).length = a.length + 1 := by simp
      have e2 : ((a ++ [32]) ++ b).length = a.length + 1 + b.length := by rw [List.length_append, e1]
      have e3 : (a ++ [32]) ++ b = a ++ 32 :: b := by simp
      rw [out_wrong]
      dsimp only
      rw [if_neg (by decide), if_neg (by simp; omega), if_pos ⟨by omega, by omega⟩, if_pos (by show a.length + 1 ≤ _; omega), if_pos (by rw [e1]; omega), if_pos ⟨by omega, by omega⟩]
      rw [Int.toNat_natCast, lexOut_small (by rw [List.length_take]; omega), lexOut_small (by omega), lexOut_small (by rw [List.length_drop]; omega), h4, h5, e3, lexP_wrong_app (by rfl) b _ _ _ _ (Nat.le_refl _) ha]
      simp [out]

/-! ### names alone -/
theorem tw_of {q : UInt8 → Bool} : ∀ (w : Str), w.all q = true → w.takeWhile q = w
  | [], _ => rfl
  | a :: w, h => by
    have h : q a = true ∧ w.all q = true := by simpa using h
    rw [List.takeWhile_cons, h.1, if_pos rfl, tw_of w h.2]
theorem law_LexNames : Law_LexNames := by
  intro s _ hb
  unfold law07_LexNames
  rw [sane_ok, R.ok_bind, if_pos rfl]
  by_cases hs : (s.length : Int) > 1000
  · rw [if_pos hs]
  · rw [if_neg hs]
    have hsm : small [({ Kind := 1, Text := s, N := 0, At := 0 } : Token)] := small_of (by simp) (by simp [total]; omega) (by intro t ht; simp at ht; subst ht; show (0 : Int) ≤ _; decide)
    have hto : (textOut [({ Kind := 1, Text := s, N := 0, At := 0 } : Token)]).2 = if nameOk s then 0 else 70 := by
      unfold textOut
      have : validTok ({ Kind := 1, Text := s, N := 0, At := 0 } : Token) = nameOk s := by
        show (nameOk s && true) = _
        rw [Bool.and_true]
      simp only [List.all_cons, List.all_nil, Bool.and_true, this]
      cases nameOk s <;> rfl
    simp only [lex_eq, R.ok_bind, text_eq _ hsm, name_eq, hto]
    rw [lexOut_small (by omega)]
    have fin : ∀ b : Bool, b = nameOk s → (R.ok ((nameOk s == b) && (b == ((if nameOk s then (0 : Int) else 70) == 0))) : R Bool) = .ok true := by
      intro b hb; subst hb; cases nameOk s <;> rfl
    have key : ∀ l, lexP s 0 = .ok l → ((∃ t, l = [t] ∧ t.Kind = 1 ∧ t.Text = s ∧ t.At = 0 ∧ t.N = 0) ↔ nameOk s = true) := by
      intro l hl
      constructor
      · rintro ⟨t, rfl, k1, k2, k3, k4⟩
        cases s with
        | nil => rw [lexP_nil] at hl; cases hl
        | cons c w =>
          rw [lexP_cons] at hl
          cases ht : tk c w with
          | none => rw [ht] at hl; cases hl
          | some x =>
            obtain ⟨o, k⟩ := x
            rw [ht] at hl
            simp only at hl
            cases hr : lexP (w.drop k) (0 + 1 + k) with
            | wrong e => rw [hr] at hl; cases hl
            | ok r =>
              rw [hr] at hl
              simp only [Lx.add, Lx.ok.injEq] at hl
              cases o with
              | none =>
                simp at hl
                obtain ⟨m, m1, m2, _⟩ := lexP_at _ _ _ _ (Nat.le_refl _) hr t (by rw [hl]; simp)
                rw [k3] at m1
                omega
              | some u =>
                simp at hl
                have hu : at' 0 u = t := hl.1
                have hk1 : u.Kind = 1 := by rw [← hu] at k1; exact k1
                have hk2 : u.Text = c :: w := by rw [← hu] at k2; exact k2
                revert ht; unfold tk
                intro ht
                split at ht
                · cases ht
                · split at ht
                  · split at ht
                    · rename_i hle hn
                      cases ht
                      simp at hk2
                      rw [← hk2] 
                      rw [name_run hle (all_tw _ _)]
                      exact decide_eq_true hn
                    · cases ht
                  · split at ht
                    · split at ht
                      · cases ht; exact absurd (show (2 : Int) = 1 from hk1) (by decide)
                      · cases ht
                    · split at ht
                      · split at ht
                        · cases ht
                        · cases ht; exact absurd (show (3 : Int) = 1 from hk1) (by decide)
                      · cases ht
      · intro hn
        cases s with
        | nil => cases hn
        | cons c w =>
          have hn' : isLet c = true ∧ w.all isPart = true ∧ w.length + 1 ≤ 32 := by
            simp [nameOk] at hn
            simpa [and_assoc] using hn
          have e : w.takeWhile isPart = w := by
            have := tw_of w hn'.2.1
            exact this
          have ht : tk c w = some (some ⟨1, c :: w, 0, 0⟩, w.length) := by
            unfold tk
            rw [let_sp hn'.1, hn'.1, e]
            simp only [Bool.false_eq_true, if_false, if_true, hn'.2.2]
          rw [lexP_cons, ht] at hl
          simp only [List.drop_length, lexP_nil, Lx.add, Lx.ok.injEq] at hl
          subst hl
          exact ⟨_, rfl, rfl, rfl, rfl, rfl⟩
    cases hl : lexP s 0 with
    | wrong e =>
      have hf : nameOk s = false := by
        cases hn : nameOk s
        · rfl
        · exfalso
          have hn0 := hn
          cases s with
          | nil => cases hn
          | cons c w =>
            have hn' : isLet c = true ∧ w.all isPart = true ∧ w.length + 1 ≤ 32 := by
              simp [nameOk] at hn
              simpa [and_assoc] using hn
            have ht : tk c w = some (some ⟨1, c :: w, 0, 0⟩, w.length) := by
              unfold tk
              rw [let_sp hn'.1, hn'.1, tw_of w hn'.2.1]
              simp only [Bool.false_eq_true, if_false, if_true, hn'.2.2]
            rw [lexP_cons, ht] at hl
            simp only [List.drop_length, lexP_nil, Lx.add] at hl
            cases hl
      exact fin false hf.symm
    | ok l =>
      have hk := key l hl
      match l, hk with
      | [], hk =>
        have : nameOk s = false := by
          cases hn : nameOk s
          · rfl
          · obtain ⟨t, ht, _⟩ := hk.2 hn; cases ht
        exact fin false this.symm
      | t :: u :: l, hk =>
        have : nameOk s = false := by
          cases hn : nameOk s
          · rfl
          · obtain ⟨t, ht, _⟩ := hk.2 hn; cases ht
        have hne : (((t :: u :: l : List Token).length : Int) == 1) = false := by simp; omega
        rw [out_ok]
        simp only [hne, Bool.and_false, Bool.false_eq_true, if_false, R.ok_bind]
        exact fin false this.symm
      | [t], hk =>
        rw [out_ok]
        simp only [List.length_singleton, beq_self_eq_true, Bool.true_and, idx_0, R.ok_bind]
        have e : (decide (t.Kind = 1) && decide (t.Text = s) && decide (t.At = 0) && decide (t.N = 0)) = nameOk s := by
          cases hn : nameOk s
          · rw [Bool.eq_false_iff]
            intro h
            simp at h
            have := hk.1 ⟨t, rfl, h.1.1.1, h.1.1.2, h.1.2, h.2⟩
            rw [hn] at this; cases this
          · obtain ⟨t', ht, k1, k2, k3, k4⟩ := hk.2 hn
            cases ht
            simp [k1, k2, k3, k4]
        simp only [beq_dec]
        by_cases q1 : t.Kind = 1 <;> by_cases q2 : t.Text = s <;> by_cases q3 : t.At = 0 <;> by_cases q4 : t.N = 0 <;> simp [q1, q2, q3, q4] at e ⊢ <;> simp [← e]
end Go.Am
