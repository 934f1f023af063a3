/- lex: what is written is read again; LexBack, LexSpaces. -/
import Derived.Test.YtomgekeihfaohaaDoorLxP7
namespace Go.Am
open Go
set_option linter.unusedVariables false
set_option linter.unusedSimpArgs false

/-- a valid token's own text begins so, and is read so -/
theorem tk_valid {t : Token} (hv : validTok t = true) : ∃ c w, spell t = c :: w ∧ ∀ m : Str, (m = [] ∨ ∃ d m', m = d :: m' ∧ isSp d = true) → ∃ u, tk c (w ++ m) = some (some u, w.length) ∧ key t u = true := by
  unfold validTok at hv
  by_cases h1 : (t.Kind == 1) = true
  · rw [if_pos h1] at hv
    have hk : t.Kind = 1 := eq_of_beq h1
    have hsp : spell t = t.Text := by unfold spell; rw [hk]; rfl
    rw [hsp]
    rw [Bool.and_eq_true] at hv
    obtain ⟨hn, h0⟩ := hv
    have h0 : t.N = 0 := eq_of_beq h0
    cases hT : t.Text with
    | nil => rw [hT] at hn; cases hn
    | cons c w =>
      rw [hT] at hn
      have hn' : isLet c = true ∧ w.all isPart = true ∧ w.length + 1 ≤ 32 := by
        simp [nameOk] at hn
        simpa [and_assoc] using hn
      refine ⟨c, w, rfl, fun m hm => ?_⟩
      have e : (w ++ m).takeWhile isPart = w := by
        rcases hm with rfl | ⟨d, m', rfl, hd⟩
        · rw [List.append_nil]; exact tw_of w hn'.2.1
        · rw [tw_stop (sp_not hd).1, tw_of w hn'.2.1]
      refine ⟨⟨1, c :: w, 0, 0⟩, ?_, by simp [key, hk, hT, h0]⟩
      unfold tk
      rw [let_sp hn'.1, hn'.1, e]
      simp only [Bool.false_eq_true, if_false, if_true, hn'.2.2]
  · rw [if_neg h1] at hv
    by_cases h2 : (t.Kind == 2) = true
    · rw [if_pos h2] at hv
      have hk : t.Kind = 2 := eq_of_beq h2
      have hvv : validTok t = true := by unfold validTok; rw [if_neg h1, if_pos h2]; exact hv
      obtain ⟨hT, h3, h4⟩ := valid_num hvv h2
      have hsp : spell t = Lib.decDigits t.N.toNat := by unfold spell; rw [if_pos h2]
      obtain ⟨d1, d2, d3, d4, _⟩ := dd_spec t.N.toNat
      rw [hsp]
      cases hD : Lib.decDigits t.N.toNat with
      | nil => exact absurd hD d3
      | cons c w =>
        rw [hD] at d1 d2 d4
        have d1' : isFig c = true ∧ w.all isFig = true := by simpa using d1
        refine ⟨c, w, rfl, fun m hm => ?_⟩
        have e : (w ++ m).takeWhile isFig = w := by
          rcases hm with rfl | ⟨d, m', rfl, hd⟩
          · rw [List.append_nil]; exact tw_of w d1'.2
          · rw [tw_stop (sp_not hd).2.1, tw_of w d1'.2]
        refine ⟨⟨2, [], val (c :: w), 0⟩, ?_, ?_⟩
        · unfold tk
          have := fig_sp d1'.1
          rw [this.1, this.2, d1'.1, e]
          have hok : numOk (c :: w) = true := by unfold numOk; rw [d4, d2, decide_eq_true (by omega)]; rfl
          simp only [Bool.false_eq_true, if_false, if_true, hok]
        · rw [d2]
          simp [key, hk, hT]
          omega
    · rw [if_neg h2] at hv
      by_cases h3 : (t.Kind == 3) = true
      · rw [if_pos h3, Bool.and_eq_true] at hv
        have hk : t.Kind = 3 := eq_of_beq h3
        have hsp : spell t = t.Text := by unfold spell; rw [if_neg h2]
        have h0 : t.N = 0 := eq_of_beq hv.2
        rw [hsp]
        match hT : t.Text, hv.1 with
        | [c], hc =>
          rw [hT] at hv
          have hc : isSign c = true := hv.1
          refine ⟨c, [], rfl, fun m hm => ?_⟩
          refine ⟨⟨3, [c], 0, 0⟩, ?_, by simp [key, hk, hT, h0]⟩
          have hh : ¬ (c = 47 ∧ m.head? = some 47) := by
            rcases hm with rfl | ⟨d, m', rfl, hd⟩
            · simp
            · have := (sp_not hd).2.2
              simp [this]
          obtain ⟨q1, q2, q3⟩ := sign_sp hc
          unfold tk
          rw [q1, q2, q3, hc, List.nil_append]
          simp only [Bool.false_eq_true, if_false, if_true, hh]
          rfl
      · rw [if_neg h3] at hv; cases hv

/-- what gives no token -/
def Gap (g : Str) : Prop := ∀ (m : Str) (p : Nat), lexP (g ++ m) p = lexP m (p + g.length)
theorem gap_app {g h : Str} (a : Gap g) (b : Gap h) : Gap (g ++ h) := by
  intro m p
  rw [List.append_assoc, a, b, List.length_append, Nat.add_assoc]
theorem gap_sps {g : Str} (h : g.all isSp = true) : Gap g := fun m p => lexP_sps g m p h
theorem gap_note {w : Str} (h : w.all (· != 10) = true) : Gap (([47, 47] ++ w) ++ [10]) := by
  intro m p
  have e0 : (([47, 47] ++ w) ++ [10]) ++ m = 47 :: (47 :: w ++ 10 :: m) := by simp
  have e : ((47 :: w ++ 10 :: m : Str)).takeWhile (· != 10) = 47 :: w := by
    rw [tw_stop (by rfl)]
    exact tw_of (47 :: w) (by rw [List.all_cons, h]; rfl)
  have ht : tk 47 (47 :: w ++ 10 :: m) = some (none, (47 :: w : Str).length) := by
    unfold tk
    rw [show isSp 47 = false by decide, show isLet 47 = false by decide, show isFig 47 = false by decide, show isSign 47 = true by decide]
    simp only [Bool.false_eq_true, if_false, if_true]
    rw [if_pos (by first | exact ⟨rfl, rfl⟩ | exact ⟨trivial, rfl⟩), e]
  rw [e0, lexP_cons, ht]
  simp only [Lx.add_none]
  rw [drop_app (Nat.le_refl _), List.drop_length, List.nil_append, lexP_cons, tk_sp _ (by rfl)]
  simp only [Lx.add_none, List.drop_zero]
  congr 1
  simp
  omega

/-- tokens with gaps -/
theorem lexP_tok {t : Token} (hv : validTok t = true) {m : Str} (hm : m = [] ∨ ∃ d m', m = d :: m' ∧ isSp d = true) (p : Nat) : ∃ u, lexP (spell t ++ m) p = (lexP m (p + (spell t).length)).add (some u) p ∧ key t u = true := by
  obtain ⟨c, w, hs, h⟩ := tk_valid hv
  obtain ⟨u, h1, h2⟩ := h m hm
  refine ⟨u, ?_, h2⟩
  rw [hs, List.cons_append, lexP_cons, h1]
  simp only
  rw [drop_app (Nat.le_refl _), List.drop_length, List.nil_append, List.length_cons]
  congr 2
  omega
theorem key_at {t u : Token} (p : Nat) (h : key t u = true) : key t (at' p u) = true := h
theorem lexP_tail : ∀ (l : List Token) (p : Nat), l.all validTok = true → ∃ r, lexP (Lib.joinTail [32] (l.map spell)) p = .ok r ∧ same l r = true
  | [], p, _ => ⟨[], rfl, rfl⟩
  | t :: l, p, h => by
    have h : validTok t = true ∧ l.all validTok = true := by simpa using h
    have e : Lib.joinTail [32] ((t :: l).map spell) = [32] ++ (spell t ++ Lib.joinTail [32] (l.map spell)) := by simp [Lib.joinTail]
    obtain ⟨u, h1, h2⟩ := lexP_tok (m := Lib.joinTail [32] (l.map spell)) h.1 (by cases l with
      | nil => exact .inl rfl
      | cons a l => exact .inr ⟨32, spell a ++ Lib.joinTail [32] (l.map spell), by simp [Lib.joinTail], rfl⟩) (p + 1)
    obtain ⟨r, h3, h4⟩ := lexP_tail l (p + 1 + (spell t).length) h.2
    rw [e, gap_sps (g := [32]) (by rfl)]
    refine ⟨at' (p + 1) u :: r, ?_, ?_⟩
    · show lexP _ (p + 1) = _
      rw [h1, h3]; rfl
    · show (key t u && all2 key l r) = true
      rw [h2]; exact h4
theorem lexP_join {l : List Token} (h : l.all validTok = true) (p : Nat) : ∃ r, lexP (Lib.join (l.map spell) [32]) p = .ok r ∧ same l r = true := by
  cases l with
  | nil => exact ⟨[], rfl, rfl⟩
  | cons t l =>
    have h : validTok t = true ∧ l.all validTok = true := by simpa using h
    obtain ⟨u, h1, h2⟩ := lexP_tok (m := Lib.joinTail [32] (l.map spell)) h.1 (by cases l with
      | nil => exact .inl rfl
      | cons a l => exact .inr ⟨32, spell a ++ Lib.joinTail [32] (l.map spell), by simp [Lib.joinTail], rfl⟩) p
    obtain ⟨r, h3, h4⟩ := lexP_tail l (p + (spell t).length) h.2
    refine ⟨at' p u :: r, ?_, ?_⟩
    · rw [List.map_cons, Lib.join_cons, h1, h3]; rfl
    · show (key t u && all2 key l r) = true
      rw [h2]; exact h4

/-- what is read is valid, and no longer than what it was read from -/
theorem tk_ok {c : UInt8} {s : Str} {t : Token} {k : Nat} (h : tk c s = some (some t, k)) : validTok t = true ∧ spell t = c :: s.take k := by
  unfold tk at h
  split at h
  · cases h
  · split at h
    · split at h
      · rename_i hle hn
        cases h
        refine ⟨?_, ?_⟩
        · show (nameOk _ && true) = true
          rw [Bool.and_true, name_run hle (all_tw _ _)]; exact decide_eq_true hn
        · rw [take_tw]; rfl
      · cases h
    · split at h
      · split at h
        · rename_i _ hfi hn
          cases h
          have hall : (c :: s.takeWhile isFig).all isFig = true := by rw [List.all_cons, hfi, all_tw]; rfl
          unfold numOk at hn
          rw [Bool.and_eq_true] at hn
          have hn2 : val (c :: s.takeWhile isFig) ≤ 1099511627776 := of_decide_eq_true hn.2
          refine ⟨?_, ?_⟩
          · unfold validTok
            dsimp only
            rw [if_neg (by decide), if_pos (by decide)]
            simp
            omega
          · rw [take_tw]
            unfold spell
            dsimp only
            rw [if_pos (by decide)]
            exact dd_val _ (by simp) hall hn.1
        · cases h
      · split at h
        · split at h
          · cases h
          · rename_i hsi _
            cases h
            refine ⟨?_, rfl⟩
            show (oneSign [c] && true) = true
            rw [Bool.and_true]; exact hsi
        · cases h
theorem at_valid (p : Nat) (t : Token) : validTok (at' p t) = validTok t ∧ spell (at' p t) = spell t := ⟨rfl, rfl⟩
def spells (l : List Token) : Nat := ((l.map spell).map List.length).sum
theorem lexP_ok : ∀ (n : Nat) (s : Str) (p : Nat) (l : List Token), s.length ≤ n → lexP s p = .ok l → l.all validTok = true ∧ spells l ≤ s.length
  | n, [], p, l, _, h => by rw [lexP_nil] at h; cases h; exact ⟨rfl, Nat.le_refl _⟩
  | 0, _ :: _, p, l, h, _ => by simp at h
  | n + 1, c :: s, p, l, hn, h => by
    rw [lexP_cons] at h
    cases ht : tk c s with
    | none => rw [ht] at h; cases h
    | some x =>
      obtain ⟨o, k⟩ := x
      have hk := tk_le ht
      rw [ht] at h
      simp only at h
      cases hr : lexP (s.drop k) (p + 1 + k) with
      | wrong e => rw [hr] at h; cases h
      | ok r =>
        rw [hr] at h
        simp only [Lx.add, Lx.ok.injEq] at h
        subst h
        obtain ⟨h1, h2⟩ := lexP_ok n (s.drop k) _ r (by rw [List.length_drop]; simp at hn; omega) hr
        rw [List.length_drop] at h2
        cases o with
        | none => exact ⟨h1, by simp; omega⟩
        | some u =>
          obtain ⟨h3, h4⟩ := tk_ok ht
          refine ⟨by show (at' p u :: r).all validTok = true; rw [List.all_cons, (at_valid p u).1, h3, h1]; rfl, ?_⟩
          have e : (spell u).length = k + 1 := by rw [h4, List.length_cons, List.length_take]; omega
          unfold spells at h2 ⊢
          simp only [Option.map_some, Option.toList_some, List.cons_append, List.nil_append, List.map_cons, List.sum_cons, (at_valid p u).2, e, List.length_cons]
          omega
theorem valid_N {l : List Token} (h : l.all validTok = true) : ∀ t ∈ l, t.N ≤ 9223372036854775807 := by
  intro t ht
  have hv : validTok t = true := List.all_eq_true.1 h t ht
  by_cases h2 : (t.Kind == 2) = true
  · have := valid_num hv h2; omega
  · unfold validTok at hv
    rw [if_neg h2] at hv
    split at hv
    · rw [Bool.and_eq_true] at hv; have : t.N = 0 := eq_of_beq hv.2; omega
    · split at hv
      · rw [Bool.and_eq_true] at hv; have : t.N = 0 := eq_of_beq hv.2; omega
      · cases hv
theorem join_spells (l : List Token) : (Lib.join (l.map spell) [32]).length ≤ l.length + spells l := by
  have := join_le (l.map spell)
  rwa [List.length_map] at this
theorem law_LexBack : Law_LexBack := by
  intro a b ga _ hb
  have hb1 : (tSl 4 tToken).bulk a + (b.length + 1) ≤ 1048576 := hb
  have sa := small_good ga (by omega)
  have ta := total_le a
  unfold law07_LexBack
  rw [sane_ok, R.ok_bind, if_pos rfl, few_eq a (by omega)]
  simp only [R.ok_bind]
  by_cases hs : few a = false ∨ b.length > 3000
  · rw [if_pos (by rcases hs with h | h <;> simp [h]; omega)]
  · have hf : few a = true := by cases h : few a with
      | true => rfl
      | false => exact absurd (.inl h) hs
    have hbl : b.length ≤ 3000 := by
      by_cases h : b.length ≤ 3000
      · exact h
      · exact absurd (.inr (by omega)) hs
    rw [if_neg (by rw [hf]; simp; omega), text_eq a sa]
    simp only [R.ok_bind]
    have hj : law07_LexBack_j1 b = .ok true := by
      unfold law07_LexBack_j1
      rw [lex_eq, R.ok_bind, lexOut_small (by omega)]
      cases hl : lexP b 0 with
      | wrong e => rw [out_wrong]; rfl
      | ok l =>
        rw [out_ok]
        dsimp only
        rw [if_neg (by decide)]
        obtain ⟨h1, h2⟩ := lexP_ok _ _ _ _ (Nat.le_refl _) hl
        have h3 := lexP_length _ _ _ _ (Nat.le_refl _) hl
        have h4 := join_spells l
        have hsm : small l := ⟨by omega, by omega, valid_N h1⟩
        obtain ⟨r, h5, h6⟩ := lexP_join h1 0
        rw [text_eq l hsm]
        simp only [R.ok_bind]
        unfold textOut
        rw [h1]
        simp only [if_true]
        rw [lex_eq, R.ok_bind, lexOut_small (by omega), h5, out_ok]
        simp only [same_eq, h6, R.ok_bind]
        rfl
    rw [hj]
    cases hv : a.all validTok
    · unfold textOut
      rw [hv]
      rfl
    · have e : textOut a = (Lib.join (a.map spell) [32], 0) := by unfold textOut; rw [hv]; rfl
      have hfe : a.length ≤ 200 ∧ total a ≤ 2000 := by unfold few at hf; simpa using hf
      have hjl := join_spell_le a (valid_N hv)
      obtain ⟨r, h5, h6⟩ := lexP_join hv 0
      rw [e]
      simp only [beq_self_eq_true, if_true]
      rw [lex_eq, R.ok_bind, lexOut_small (by omega), h5, out_ok]
      simp only [same_eq, h6, R.ok_bind]
      rfl
end Go.Am
