/- lex: numbers. -/
import Derived.Test.YtomgekeihfaohaaDoorLxP1
namespace Go.Am
open Go
set_option linter.unusedVariables false
set_option linter.unusedSimpArgs false

def valF (a : Nat) (s : Str) : Nat := s.foldl (fun a c => a * 10 + (c.toNat - 48)) a
theorem valF_nil (a : Nat) : valF a [] = a := rfl
theorem valF_cons (a : Nat) (c : UInt8) (s : Str) : valF a (c :: s) = valF (a * 10 + (c.toNat - 48)) s := by unfold valF; rw [List.foldl_cons]
theorem valF_app : ∀ (s t : Str) (a : Nat), valF a (s ++ t) = valF (valF a s) t
  | [], t, a => rfl
  | c :: s, t, a => by rw [List.cons_append, valF_cons, valF_cons, valF_app s t]
theorem valF_ge : ∀ (s : Str) (a : Nat), a ≤ valF a s
  | [], a => Nat.le_refl _
  | c :: s, a => by
    have := valF_ge s (a * 10 + (c.toNat - 48))
    rw [valF_cons]; omega
def val (s : Str) : Nat := valF 0 s
/-- no nought ahead -/
def plain (s : Str) : Bool := decide (s.length = 1) || decide (s.head? ≠ some 48)
def numOk (s : Str) : Bool := plain s && decide (val s ≤ 1099511627776)

theorem fig_iff {c : UInt8} : isFig c = true ↔ 48 ≤ c.toNat ∧ c.toNat ≤ 57 := by
  unfold isFig
  simp only [Bool.and_eq_true, decide_eq_true_eq, UInt8.le_iff_toNat_le]
  rfl
theorem fig_of (n : Nat) (h : n < 10) : isFig (UInt8.ofNat (48 + n)) = true ∧ (UInt8.ofNat (48 + n)).toNat = 48 + n := by
  have e : (UInt8.ofNat (48 + n)).toNat = 48 + n := by rw [UInt8.toNat_ofNat']; omega
  exact ⟨fig_iff.2 (by omega), e⟩
theorem fig_back {c : UInt8} (h : isFig c = true) : UInt8.ofNat (48 + (c.toNat - 48)) = c := by
  have := fig_iff.1 h
  rw [show 48 + (c.toNat - 48) = c.toNat by omega]; simp
theorem dd_spec (u : Nat) : (Lib.decDigits u).all isFig = true ∧ val (Lib.decDigits u) = u ∧ Lib.decDigits u ≠ [] ∧ plain (Lib.decDigits u) = true ∧ (1 ≤ u → (Lib.decDigits u).head? ≠ some 48) := by
  induction u using Nat.strongRecOn with
  | _ u ih =>
    by_cases h : u < 10
    · rw [Lib.decDigits_one h]
      obtain ⟨h1, h2⟩ := fig_of u h
      refine ⟨by rw [List.all_cons, h1]; rfl, by unfold val; rw [valF_cons, valF_nil, h2]; omega, by simp, by simp [plain], fun hu e => ?_⟩
      simp only [List.head?_cons, Option.some.injEq] at e
      rw [e] at h2
      have : (48 : UInt8).toNat = 48 := rfl
      omega
    · rw [Lib.decDigits, dif_neg h]
      obtain ⟨a1, a2, a3, a4, a5⟩ := ih (u / 10) (by omega)
      obtain ⟨h1, h2⟩ := fig_of (u % 10) (by omega)
      have hd : (Lib.decDigits (u / 10) ++ [UInt8.ofNat (48 + u % 10)]).head? = (Lib.decDigits (u / 10)).head? := by
        cases hq : Lib.decDigits (u / 10) with
        | nil => exact absurd hq a3
        | cons c w => rfl
      refine ⟨by rw [List.all_append, a1, List.all_cons, h1]; rfl, ?_, by simp, ?_, fun hu => by rw [hd]; exact a5 (by omega)⟩
      · unfold val at a2 ⊢
        rw [valF_app, a2, valF_cons, valF_nil, h2]; omega
      · have := a5 (by omega)
        unfold plain
        rw [hd]
        simp [this]
theorem dd_val : ∀ (s : Str), s ≠ [] → s.all isFig = true → plain s = true → Lib.decDigits (val s) = s := by
  suffices H : ∀ (n : Nat) (s : Str), s.length = n → s ≠ [] → s.all isFig = true → plain s = true → Lib.decDigits (val s) = s from fun s => H _ s rfl
  intro n
  induction n with
  | zero => intro s h1 h2; exact absurd (List.length_eq_zero_iff.1 h1) h2
  | succ n ih =>
    intro s h1 h2 h3 h4
    obtain ⟨w, c, rfl⟩ : ∃ w c, s = w ++ [c] := ⟨s.dropLast, s.getLast h2, (List.dropLast_concat_getLast h2).symm⟩
    rw [List.all_append, Bool.and_eq_true] at h3
    obtain ⟨h3, h5⟩ := h3
    have h5 : isFig c = true := by simpa using h5
    have hc := fig_iff.1 h5
    have hv : val (w ++ [c]) = val w * 10 + (c.toNat - 48) := by unfold val; rw [valF_app, valF_cons, valF_nil]
    by_cases hw : w = []
    · subst hw
      have h0 : val [] = 0 := rfl
      rw [hv, h0, Lib.decDigits_one (by omega)]
      simp only [Nat.zero_mul, Nat.zero_add, List.nil_append]
      rw [fig_back h5]
    · obtain ⟨d, w', rfl⟩ : ∃ d w', w = d :: w' := by cases w with | nil => exact absurd rfl hw | cons d w' => exact ⟨d, w', rfl⟩
      have hp : d ≠ 48 := by
        intro e; subst e
        simp [plain] at h4
      have hd : isFig d = true := by simp at h3; exact h3.1
      have hd' := fig_iff.1 hd
      have h1v : 1 ≤ val (d :: w') := by
        have := valF_ge w' (0 * 10 + (d.toNat - 48))
        have h6 : d.toNat ≠ 48 := fun e => hp (UInt8.toNat_inj.1 (by rw [e]; rfl))
        unfold val
        rw [valF_cons]
        omega
      have e0 : valF 0 (d :: w') = val (d :: w') := rfl
      rw [hv, Lib.decDigits, dif_neg (by omega)]
      have e1 : (val (d :: w') * 10 + (c.toNat - 48)) / 10 = val (d :: w') := by omega
      have e2 : (val (d :: w') * 10 + (c.toNat - 48)) % 10 = c.toNat - 48 := by omega
      rw [e1, e2, fig_back h5, ih (d :: w') (by simpa using h1) hw h3 (by simp [plain, hp])]

/-! ### 'Atoi' of figures -/
theorem parse_ok : ∀ (s : Str) (a : Nat), s.all isFig = true → valF a s < 18446744073709551616 → Lib.parseUint10 a s = .ok (valF a s)
  | [], a, _, _ => rfl
  | c :: s, a, h, hv => by
    have h : isFig c = true ∧ s.all isFig = true := by simpa using h
    have hc := fig_iff.1 h.1
    have hv' : valF (a * 10 + (c.toNat - 48)) s < 18446744073709551616 := by rw [← valF_cons]; exact hv
    have := valF_ge s (a * 10 + (c.toNat - 48))
    rw [Lib.parseUint10, if_pos hc, if_neg (by omega), if_neg (by omega), parse_ok s _ h.2 hv', valF_cons]
theorem parse_big : ∀ (s : Str) (a : Nat), a < 18446744073709551616 → s.all isFig = true → 18446744073709551616 ≤ valF a s → Lib.parseUint10 a s = .range
  | [], a, ha, _, hv => by exfalso; rw [valF_nil] at hv; omega
  | c :: s, a, ha, h, hv => by
    have h : isFig c = true ∧ s.all isFig = true := by simpa using h
    have hc := fig_iff.1 h.1
    rw [Lib.parseUint10, if_pos hc]
    split
    · rfl
    · split
      · rfl
      · exact parse_big s _ (by omega) h.2 (by rw [← valF_cons]; exact hv)
theorem atoi_fig {s : Str} (hs : s ≠ []) (h : s.all isFig = true) : Lib.atoiAll s = if 9223372036854775808 ≤ val s then .range else .ok (val s : Int) := by
  cases s with
  | nil => exact absurd rfl hs
  | cons c s =>
    have hc : isFig c = true := by simp at h; exact h.1
    have hc := fig_iff.1 hc
    rw [Lib.atoiAll_plain c s (by omega) (by omega), Lib.parseMag, if_neg (by simp)]
    by_cases hv : val (c :: s) < 18446744073709551616
    · rw [parse_ok _ _ h hv]; rfl
    · rw [parse_big _ _ (by omega) h (Nat.le_of_not_lt hv), if_pos (by omega)]; rfl

/-! ### the law's own number -/
theorem fig_wrap {c : UInt8} (h : isFig c = true) (n : Nat) (hn : n ≤ 1099511627776) : IntKind.wrap .i64 (IntKind.wrap .i64 (10 * (n : Int)) + IntKind.wrap .i64 (IntKind.wrap .u8 ((c.toNat : Int) - 48))) = ((n * 10 + (c.toNat - 48) : Nat) : Int) := by
  have hc := fig_iff.1 h
  have e : IntKind.wrap .u8 ((c.toNat : Int) - 48) = (c.toNat : Int) - 48 := by
    simp [IntKind.wrap, IntKind.bits, IntKind.signed]; omega
  rw [e, wrap64 (n := 10 * (n : Int)) (by omega) (by omega), wrap64 (n := (c.toNat : Int) - 48) (by omega) (by omega), wrap64 (by omega) (by omega)]
  omega
theorem number_each : ∀ (s : Str) (k n : Nat), s.all isFig = true → n ≤ 1099511627776 → each (fun _ a => fun n => ref07_number_b1 a n) k s (n : Int) = .ok (if valF n s ≤ 1099511627776 then .inl (valF n s : Int) else .inr (0, false))
  | [], k, n, _, hn => by rw [each_nil, valF_nil, if_pos hn]
  | c :: s, k, n, h, hn => by
    have h : isFig c = true ∧ s.all isFig = true := by simpa using h
    rw [each_cons]
    unfold ref07_number_b1
    rw [fig_wrap h.1 n hn]
    by_cases hv : n * 10 + (c.toNat - 48) ≤ 1099511627776
    · rw [if_neg (by omega)]
      rw [R.ok_bind, valF_cons]
      exact number_each s (k + 1) _ h.2 hv
    · have := valF_ge s (n * 10 + (c.toNat - 48))
      rw [if_pos (by omega), R.ok_bind, valF_cons, if_neg (by omega)]
theorem number_eq {s : Str} (hs : s ≠ []) (h : s.all isFig = true) (hl : s.length ≤ 65536) : ref07_number s = .ok (if val s ≤ 1099511627776 then ((val s : Int), plain s) else (0, false)) := by
  unfold ref07_number
  rw [if_pos (by unfold LIM; omega), show (0 : Int) = ((0 : Nat) : Int) from rfl, number_each s 0 0 h (by omega)]
  show R.bind (.ok (if val s ≤ _ then Sum.inl (val s : Int) else _)) _ = _
  by_cases hv : val s ≤ 1099511627776
  · simp only [hv, if_true, R.ok_bind]
    cases s with
    | nil => exact absurd rfl hs
    | cons c w =>
      cases w with
      | nil => rfl
      | cons d w =>
        have h1 : ((((c :: d :: w : Str).length : Int) == 1)) = false := by simp; omega
        simp only [h1, Bool.false_eq_true, if_false]
        rw [show idx (c :: d :: w : Str) ((0 : Nat) : Int) = .ok c from idx_nat rfl]
        simp only [alt, R.ok_bind]
        simp only [plain, List.head?_cons]
        congr 2
        by_cases hc : c = 48
        · subst hc; simp
        · have : (c.toNat : Int) ≠ 48 := fun e => hc (UInt8.toNat_inj.1 (by have : (48 : UInt8).toNat = 48 := rfl; omega))
          simp [hc, this]
  · rw [if_neg hv, if_neg hv]; rfl
end Go.Am
