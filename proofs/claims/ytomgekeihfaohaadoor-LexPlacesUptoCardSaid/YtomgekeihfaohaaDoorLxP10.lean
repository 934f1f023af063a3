/- lex: LexPlaces. -/
import Derived.Test.YtomgekeihfaohaaDoorLxP9
namespace Go.Am
open Go
set_option linter.unusedVariables false
set_option linter.unusedSimpArgs false

theorem spelled_loop : ∀ (k n : Nat) (s : Str), n ≤ k → n ≤ 9223372036854775807 → s.length + k + 1 ≤ 9223372036854775807 →
    loop (un2 fun s n => law07_spelled_b1 s n) (s, (n : Int)) = .ok (Lib.decDigits n ++ s) := by
  intro k
  induction k with
  | zero =>
    intro n s h1 h2 h3
    have : n = 0 := by omega
    subst this
    rw [loop_eq]
    simp only [un2]
    unfold law07_spelled_b1
    rw [digit_eq 0 (by omega), if_pos (by show 1 + _ ≤ _; omega), if_pos (by decide)]
    rw [Lib.decDigits_one (by decide)]
    rfl
  | succ k ih =>
    intro n s h1 h2 h3
    rw [loop_eq]
    simp only [un2]
    unfold law07_spelled_b1
    rw [digit_eq n h2, if_pos (by show 1 + _ ≤ _; omega)]
    by_cases h : n < 10
    · rw [if_pos (by omega), Lib.decDigits_one h, Nat.mod_eq_of_lt h]; rfl
    · rw [if_neg (by omega), div_eq n h2, R.ok_bind]
      refine (ih (n / 10) ([UInt8.ofNat (48 + n % 10)] ++ s) (by omega) (by omega) (by simp; omega)).trans ?_
      conv => rhs; rw [Lib.decDigits]
      simp [h]
theorem spelled_eq {t : Token} (hv : validTok t = true) : law07_spelled t = .ok (spell t) := by
  unfold law07_spelled
  by_cases hk : (t.Kind == 2) = true
  · obtain ⟨_, h1, h2⟩ := valid_num hv hk
    have e : t.Kind = 2 := eq_of_beq hk
    rw [if_neg (by rw [e]; decide)]
    have : spell t = Lib.decDigits t.N.toNat := by unfold spell; rw [if_pos hk]
    rw [this]
    obtain ⟨m, hm⟩ : ∃ m : Nat, t.N = (m : Int) := ⟨t.N.toNat, by omega⟩
    rw [hm, spelled_loop m m [] (Nat.le_refl _) (by omega) (by simp; omega), List.append_nil]
    rfl
  · have : spell t = t.Text := by unfold spell; rw [if_neg hk]
    rw [if_pos (by rw [bne]; simp only [Bool.not_eq_true] at hk; rw [hk]; rfl), this]

/-! ### what lies between -/
def scan : Str → Bool → Option Bool
  | [], f => some f
  | c :: g, f =>
    let f' := c != 10 && (f || (c == 47 && g.head? == some 47))
    if !f' && !isSp c then none else scan g f'
def Pl (s : Str) (p : Nat) (f : Bool) : List Token → Prop
  | [] => ∃ f', scan s f = some f'
  | t :: l => ∃ g r : Str, s = g ++ (spell t ++ r) ∧ t.At = ((p + g.length : Nat) : Int) ∧ scan g f = some false ∧ spell t ≠ [] ∧ validTok t = true ∧ Pl r (p + g.length + (spell t).length) false l
theorem pl_ahead {h s : Str} {p q : Nat} {f f' : Bool} (hs : ∀ g, scan (h ++ g) f = scan g f') (hq : q = p + h.length) {l : List Token} (H : Pl s q f' l) : Pl (h ++ s) p f l := by
  cases l with
  | nil =>
    obtain ⟨f2, h2⟩ := H
    exact ⟨f2, by rw [hs]; exact h2⟩
  | cons t l =>
    obtain ⟨g, r, h1, h2, h3, h4, h5, h6⟩ := H
    refine ⟨h ++ g, r, by rw [h1, List.append_assoc], by rw [h2, List.length_append]; congr 1; omega, by rw [hs]; exact h3, h4, h5, ?_⟩
    rw [show p + (h ++ g).length + (spell t).length = q + g.length + (spell t).length by rw [List.length_append]; omega]
    exact h6
theorem scan_note : ∀ (w g : Str), w.all (· != 10) = true → scan (w ++ g) true = scan g true
  | [], g, _ => rfl
  | c :: w, g, h => by
    have h : (c != 10) = true ∧ w.all (· != 10) = true := by simpa using h
    rw [List.cons_append, scan]
    simp only [h.1, Bool.true_or, Bool.and_self, Bool.not_true, Bool.false_and, Bool.false_eq_true, if_false]
    exact scan_note w g h.2
theorem dw_head : ∀ s : Str, s.dropWhile (· != 10) = [] ∨ (s.dropWhile (· != 10)).head? = some 10
  | [] => .inl rfl
  | c :: s => by
    rw [List.dropWhile_cons]
    by_cases h : c = 10
    · subst h; exact .inr (by rfl)
    · rw [if_pos (bne_iff_ne.2 h)]; exact dw_head s
theorem lexP_pl : ∀ (n : Nat) (s : Str) (p : Nat) (f : Bool) (l : List Token), s.length ≤ n → lexP s p = .ok l → (f = true → s = [] ∨ s.head? = some 10) → Pl s p f l
  | n, [], p, f, l, _, h, _ => by rw [lexP_nil] at h; cases h; exact ⟨f, rfl⟩
  | 0, _ :: _, p, f, l, h, _, _ => by simp at h
  | n + 1, c :: s, p, f, l, hn, h, hf => by
    rw [lexP_cons] at h
    cases ht : tk c s with
    | none => rw [ht] at h; cases h
    | some x =>
      obtain ⟨o, k⟩ := x
      have hk := tk_le ht
      rw [ht] at h
      simp only at h
      cases hr : lexP (s.drop k) (p + 1 + k) with
      | wrong e => rw [hr] at h; cases h
      | ok r =>
        rw [hr] at h
        simp only [Lx.add, Lx.ok.injEq] at h
        have ih := fun f' => lexP_pl n (s.drop k) (p + 1 + k) f' r (by rw [List.length_drop]; simp at hn; omega) hr
        have hf' : c ≠ 10 → f = false := by
          intro hc
          cases f with
          | false => rfl
          | true => rcases hf rfl with h | h
                    · cases h
                    · simp at h; exact absurd h hc
        cases o with
        | some u =>
          obtain ⟨h3, h4⟩ := tk_ok ht
          subst h
          have hc : c ≠ 10 := by
            intro e; subst e
            rw [tk_sp s (by rfl)] at ht; cases ht
          have hff := hf' hc
          subst hff
          refine ⟨[], s.drop k, ?_, by rfl, rfl, by rw [(at_valid p u).2, h4]; simp, h3, ?_⟩
          · rw [(at_valid p u).2, h4]; simp
          · rw [(at_valid p u).2, h4]
            have e : p + ([] : Str).length + (c :: s.take k).length = p + 1 + k := by
              rw [List.length_cons, List.length_take]; show p + 0 + _ = _; omega
            rw [e]
            exact ih false (fun h => by cases h)
        | none =>
          simp at h
          subst h
          cases hsp : isSp c
          · -- a note
            have hc : com c s ∧ k = (s.takeWhile (· != 10)).length := by
              unfold tk at ht
              rw [hsp] at ht
              simp only [Bool.false_eq_true, if_false] at ht
              split at ht
              · split at ht <;> cases ht
              · split at ht
                · split at ht <;> cases ht
                · split at ht
                  · split at ht
                    · rename_i hh; cases ht; exact ⟨hh, rfl⟩
                    · cases ht
                  · cases ht
            obtain ⟨⟨rfl, hh⟩, hkk⟩ := hc
            have hff := hf' (by decide)
            subst hff
            have e0 : (47 :: s : Str) = (47 :: s.takeWhile (· != 10)) ++ s.drop k := by
              rw [hkk, drop_tw, List.cons_append, List.takeWhile_append_dropWhile]
            rw [e0]
            refine pl_ahead (f' := true) (q := p + 1 + k) (fun g => ?_) (by rw [List.length_cons, ← hkk]; omega) (ih true (fun _ => by rw [hkk, drop_tw]; exact dw_head s))
            rw [List.cons_append, scan]
            have hd : (s.takeWhile (· != 10) ++ g).head? = some 47 := by
              cases s with
              | nil => cases hh
              | cons a s =>
                have : a = 47 := by simpa using hh
                subst this
                rw [List.takeWhile_cons, if_pos (by rfl)]; rfl
            rw [hd]
            show (if _ then none else scan _ true) = _
            rw [if_neg (by decide)]
            exact scan_note _ _ (all_tw _ _)
          · rw [tk_sp s hsp] at ht
            cases ht
            have hc47 : c ≠ 47 := (sp_not hsp).2.2
            have hs1 : ∀ g, scan ([c] ++ g) f = scan g false := by
              intro g
              rw [List.cons_append, scan, hsp]
              have : (c != 10 && (f || (c == 47 && ([] ++ g : Str).head? == some 47))) = false := by
                by_cases hc : c = 10
                · subst hc; rfl
                · rw [hf' hc, beq_eq_false_iff_ne.2 hc47]; simp
              rw [List.nil_append] at this
              simp only [List.nil_append, this, Bool.not_true, Bool.and_false, Bool.false_eq_true, if_false]
            exact pl_ahead (h := [c]) (f' := false) (q := p + 1 + 0) hs1 rfl (ih false (fun h => by cases h))

theorem eq47 (a : UInt8) : ((a.toNat : Int) == 47) = (a == 47) := all256 (p := fun a => ((a.toNat : Int) == 47) = (a == 47)) (by decide +kernel) a
theorem gap_loop {a : Str} (ha : a.length ≤ 1048576) : ∀ (g r : Str) (x : Nat) (f : Bool), a.drop x = g ++ r → x + g.length ≤ a.length →
    loop (un2 fun x3 x4 => law07_LexPlaces_b1 a ((x + g.length : Nat) : Int) x3 x4) ((x : Int), f) = .ok (match scan g f with | some f' => .inl (((x + g.length : Nat) : Int), f') | none => .inr false)
  | [], r, x, f, hd, hx => by
    rw [loop_eq]
    simp only [un2]
    unfold law07_LexPlaces_b1
    rw [if_neg (by simp)]
    rfl
  | c :: g, r, x, f, hd, hx => by
    have hlen := len_drop (s := g ++ r) hd
    have hat := at_drop (s := g ++ r) hd
    have hd' : a.drop (x + 1) = g ++ r := by rw [← List.drop_drop, hd]; rfl
    have hw1 : IntKind.wrap .i64 ((x : Int) + 1) = ((x + 1 : Nat) : Int) := by rw [wrap64 (by omega) (by omega)]; rfl
    rw [List.length_cons] at hx
    rw [loop_eq]
    simp only [un2]
    have e1 : law07_LexPlaces_b1 a ((x + (c :: g : Str).length : Nat) : Int) (x : Int) f = .ok (let f' := c != 10 && (f || (c == 47 && g.head? == some 47)); if !f' && !isSp c then .inr (.inr false) else .inl (((x + 1 : Nat) : Int), f')) := by
      unfold law07_LexPlaces_b1
      rw [if_pos (by rw [List.length_cons]; omega), idx_str hat]
      simp only [R.ok_bind, hw1, ne10, eq47, sp_eq]
      have hh : (if ((c == 47) && (decide (((x + 1 : Nat) : Int) < ((x + (c :: g : Str).length : Nat) : Int)))) then (idx a ((x + 1 : Nat) : Int)).bind fun a3 => R.ok (a3 == 47) else R.ok false) = .ok (c == 47 && g.head? == some 47) := by
        by_cases hc : c = 47
        · subst hc
          cases g with
          | nil => rw [if_neg (by simp)]; rfl
          | cons d g =>
            rw [if_pos (by simp; omega), idx_str (at_drop (s := g ++ r) hd')]
            simp only [R.ok_bind, List.head?_cons, beq_self_eq_true, Bool.true_and]
            congr 1
        · rw [beq_eq_false_iff_ne.2 hc]; rfl
      rw [hh]
      simp only [R.ok_bind]
      generalize (c == 47 && g.head? == some 47) = q
      generalize isSp c = sp
      cases (c != 10) <;> cases f <;> cases q <;> cases sp <;> rfl
    rw [e1, R.ok_bind, scan]
    simp only
    generalize hf' : (c != 10 && (f || (c == 47 && g.head? == some 47))) = f'
    cases hb : (!f' && !isSp c)
    · simp only [Bool.false_eq_true, if_false]
      have := gap_loop ha g r (x + 1) f' hd' (by omega)
      rw [show x + (c :: g : Str).length = x + 1 + g.length by rw [List.length_cons]; omega]
      exact this
    · simp only [if_true]
theorem j1_end {a : Str} {l0 : List Token} {y : Int × Int} {x1 : Nat} (h : l0.length = x1) (x5 : Int) (x6 : Bool) : law07_LexPlaces_j1 a (l0, y) (x1 : Int) x5 x6 = .ok (.inr (.inl ())) := by
  unfold law07_LexPlaces_j1
  dsimp only
  rw [if_pos (by rw [h]; simp)]
theorem j1_tok {a : Str} (ha : a.length ≤ 1048576) {l0 : List Token} (hl0 : l0.length ≤ 4611686018427387904) {y : Int × Int} {x1 x5 : Nat} {t : Token} (h : x1 < l0.length) (hti : l0[x1]? = some t) (hv : validTok t = true) (hsp : 1 ≤ (spell t).length) (hx : x5 + (spell t).length ≤ a.length) (hcut : cut a (x5 : Int) ((x5 + (spell t).length : Nat) : Int) = spell t) :
    law07_LexPlaces_j1 a (l0, y) (x1 : Int) (x5 : Int) false = .ok (.inl (((x5 + (spell t).length : Nat) : Int), ((x1 + 1 : Nat) : Int))) := by
  unfold law07_LexPlaces_j1
  dsimp only
  have hw : IntKind.wrap .i64 ((x5 : Int) + ((spell t).length : Int)) = ((x5 + (spell t).length : Nat) : Int) := by rw [wrap64 (by omega) (by omega)]; rfl
  have hw1 : IntKind.wrap .i64 ((x1 : Int) + 1) = ((x1 + 1 : Nat) : Int) := by rw [wrap64 (by omega) (by omega)]; rfl
  rw [if_neg (by simp; omega), idx_nat hti]
  simp only [R.ok_bind, spelled_eq hv]
  have hne : spell t ≠ [] := fun e => by rw [e] at hsp; simp at hsp
  rw [hw1, hw, if_neg (by simp [hne]; omega), if_pos ⟨by omega, by omega, by omega⟩, hcut]
  simp only [R.ok_bind, beq_self_eq_true, Bool.not_true, Bool.false_eq_true, if_false]
theorem places_loop {a : Str} (ha : a.length ≤ 1048576) (r : Bool) (l0 : List Token) (y : Int × Int) (hl0 : l0.length ≤ 4611686018427387904) : ∀ (l : List Token) (x x1 : Nat), x ≤ a.length → l0.drop x1 = l → x1 ≤ l0.length → Pl (a.drop x) x false l →
    loop (un2 fun x x1 => law07_LexPlaces_b2 a r (l0, y) x x1) ((x : Int), (x1 : Int)) = .ok (.inl ())
  | [], x, x1, hx, hd, h1, H => by
    have hl : l0.length ≤ x1 := by have := congrArg List.length hd; rw [List.length_drop] at this; simp at this; omega
    rw [loop_eq]
    simp only [un2]
    unfold law07_LexPlaces_b2
    dsimp only
    rw [if_pos (by omega), if_neg (by omega)]
    unfold law07_LexPlaces_j2
    rw [if_neg (by simp; omega)]
    obtain ⟨f', hs⟩ := H
    have := gap_loop ha (a.drop x) [] x false (by simp) (by rw [List.length_drop]; omega)
    rw [List.length_drop, show x + (a.length - x) = a.length by omega, hs] at this
    rw [this]
    simp only [R.ok_bind, alt, un2, j1_end (show l0.length = x1 by omega)]
  | t :: l, x, x1, hx, hd, h1, H => by
    obtain ⟨g, s, e1, e2, e3, e4, e5, e6⟩ := H
    have hlen : x + g.length + (spell t).length + s.length = a.length := by
      have := congrArg List.length e1
      rw [List.length_drop, List.length_append, List.length_append] at this
      omega
    have hlt : x1 < l0.length := by have := congrArg List.length hd; rw [List.length_drop] at this; simp at this; omega
    have hti : l0[x1]? = some t := by
      have := List.getElem?_drop (xs := l0) (i := x1) (j := 0)
      rw [hd] at this
      simpa using this.symm
    have hsp : 1 ≤ (spell t).length := by
      cases h : spell t with
      | nil => exact absurd h e4
      | cons c w => simp
    rw [loop_eq]
    simp only [un2]
    unfold law07_LexPlaces_b2
    dsimp only
    rw [if_pos (by omega), if_pos (by omega), idx_nat hti]
    simp only [R.ok_bind]
    rw [e2]
    unfold law07_LexPlaces_j2
    rw [if_neg (by simp; omega), gap_loop ha g (spell t ++ s) x false e1 (by omega), e3]
    have hd2 : a.drop (x + g.length) = spell t ++ s := by rw [← List.drop_drop, e1, List.drop_left]
    have hcut : cut a ((x + g.length : Nat) : Int) ((x + g.length + (spell t).length : Nat) : Int) = spell t := by
      unfold cut
      rw [Int.toNat_natCast, Int.toNat_natCast, hd2, show x + g.length + (spell t).length - (x + g.length) = (spell t).length by omega, List.take_left]
    simp only [R.ok_bind, alt, un2]
    rw [j1_tok ha hl0 hlt hti e5 hsp (by omega) hcut]
    simp only [R.ok_bind]
    exact places_loop ha r l0 y hl0 l (x + g.length + (spell t).length) (x1 + 1) (by omega) (by rw [← List.drop_drop, hd]; rfl) (by omega) (by rw [← List.drop_drop, hd2, List.drop_left]; exact e6)
theorem law_LexPlaces : Law_LexPlaces := by
  intro a _ hb
  have h1 : a.length + 1 ≤ 1048576 := hb
  unfold law07_LexPlaces
  rw [sane_ok, R.ok_bind, if_pos rfl]
  by_cases hs : (a.length : Int) > 3000
  · rw [if_pos hs]
  · rw [if_neg hs, lex_eq, R.ok_bind, lexOut_small (by omega)]
    cases hl : lexP a 0 with
    | wrong e => rw [out_wrong]; rfl
    | ok l =>
      rw [out_ok]
      dsimp only
      rw [if_neg (by decide)]
      have h2 := lexP_length _ _ _ _ (Nat.le_refl _) hl
      have := places_loop (a := a) (by omega) true l (0, 0) (by omega) l 0 0 (by omega) rfl (by omega) (lexP_pl _ a 0 false l (Nat.le_refl _) hl (fun h => by cases h))
      refine (congrArg (fun m => R.bind m _) this).trans ?_
      rfl
end Go.Am
