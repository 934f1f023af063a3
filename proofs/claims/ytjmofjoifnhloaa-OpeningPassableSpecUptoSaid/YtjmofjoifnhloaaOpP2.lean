/- Chapter 11, plain: the longest spans of a table, both ways. -/
import Derived.Test.YtjmofjoifnhloaaOpP1
namespace Go.Am
open Go
set_option linter.unusedVariables false
set_option linter.unusedSimpArgs false
set_option maxRecDepth 100000

def sp (a b : Nat) : Span := { From := (a : Int), To := (b : Int) }
/-- The longest spans: from 'k' on; 'f': where the span that is open began. -/
def runs : Nat → List Bool → Option Nat → List Span
  | _, [], none => []
  | k, [], some f => [sp f k]
  | k, true :: l, none => runs (k + 1) l (some k)
  | k, true :: l, some f => runs (k + 1) l (some f)
  | k, false :: l, none => runs (k + 1) l none
  | k, false :: l, some f => sp f k :: runs (k + 1) l none

/-! ### the reference's fold -/
theorem ref_step_false (j : Nat) (out : List Span) : ref05_Spans_b1 j false out = .ok out := by simp [ref05_Spans_b1]
theorem wrapP {n : Nat} (h : n < 4000) : IntKind.wrap .i64 ((n : Int) + 1) = ((n + 1 : Nat) : Int) := by rw [wrap64 (by omega) (by omega)]; simp
theorem wrapM {n : Nat} (h : n < 4000) : IntKind.wrap .i64 (((n + 1 : Nat) : Int) - 1) = (n : Int) := by rw [wrap64 (by omega) (by omega)]; omega
theorem ref_step_new (j : Nat) (out : List Span) (hj : j < 1440) (hl : out.length ≤ j) (h : ∀ s, out.getLast? = some s → s.To ≠ (j : Int)) : ref05_Spans_b1 j true out = .ok (out ++ [sp j (j + 1)]) := by
  unfold ref05_Spans_b1
  rw [if_pos rfl, wrapP (by omega)]
  have hlim : (out.length + [({ From := (j : Int), To := ((j + 1 : Nat) : Int) } : Span)].length) * 16 ≤ LIM := by simp [LIM]; omega
  rcases List.eq_nil_or_concat out with rfl | ⟨o, s, rfl⟩
  · simp [LIM, sp]
  · have hlen : ((o.concat s).length : Int) = ((o.length + 1 : Nat) : Int) := by simp
    rw [hlen]
    have hpos : decide (((o.length + 1 : Nat) : Int) > 0) = true := decide_eq_true (by omega)
    have hw : IntKind.wrap .i64 (((o.length + 1 : Nat) : Int) - 1) = (o.length : Int) := wrapM (by simp at hl; omega)
    rw [hpos, if_pos rfl, hw]
    have hi : idx (o.concat s) (o.length : Int) = .ok s := idx_nat (by simp)
    rw [hi]
    have hne : (s.To == (j : Int)) = false := by simpa using h s (by simp)
    simp only [R.ok_bind, hne, Bool.false_eq_true, if_false]
    rw [if_pos hlim]
    rfl
theorem ref_step_ext (j f : Nat) (o : List Span) (hj : j < 1440) (hl : o.length < 1440) : ref05_Spans_b1 j true (o ++ [sp f j]) = .ok (o ++ [sp f (j + 1)]) := by
  unfold ref05_Spans_b1
  rw [if_pos rfl, wrapP (by omega)]
  have hlen : ((o ++ [sp f j]).length : Int) = ((o.length + 1 : Nat) : Int) := by simp
  rw [hlen]
  have hpos : decide (((o.length + 1 : Nat) : Int) > 0) = true := decide_eq_true (by omega)
  have hw : IntKind.wrap .i64 (((o.length + 1 : Nat) : Int) - 1) = (o.length : Int) := wrapM (by omega)
  rw [hpos, if_pos rfl, hw]
  have hi : idx (o ++ [sp f j]) (o.length : Int) = .ok (sp f j) := idx_nat (by simp)
  rw [hi]
  have he : ((sp f j).To == (j : Int)) = true := by simp [sp]
  simp only [R.ok_bind, he, if_true]
  congr 1
  simp [sp]
theorem ref_fold : ∀ (l : List Bool) (k : Nat) (out : List Span), k + l.length ≤ 1440 → out.length ≤ k →
    ((∀ s, out.getLast? = some s → s.To < (k : Int)) → eachS (fun j a => fun out => ref05_Spans_b1 j a out) k l out = .ok (out ++ runs k l none)) ∧
    (∀ o f, out = o ++ [sp f k] → eachS (fun j a => fun out => ref05_Spans_b1 j a out) k l out = .ok (o ++ runs k l (some f)))
  | [], k, out, _, _ => ⟨fun _ => by simp [eachS_nil', runs], fun o f h => by simp [eachS_nil', runs, h]⟩
  | false :: l, k, out, hk, hl => by
    have ih := ref_fold l (k + 1) out (by simp at hk; omega) (by omega)
    refine ⟨fun h => ?_, fun o f h => ?_⟩
    · rw [eachS_cons', ref_step_false, R.ok_bind, ih.1 (fun s hs => by have := h s hs; omega)]
      simp [runs]
    · rw [eachS_cons', ref_step_false, R.ok_bind, ih.1 (fun s hs => by
        rw [h] at hs
        have : s = sp f k := by simpa using hs.symm
        subst this; simp [sp]; omega)]
      simp [runs, h]
  | true :: l, k, out, hk, hl => by
    simp only [List.length_cons] at hk
    refine ⟨fun h => ?_, fun o f h => ?_⟩
    · rw [eachS_cons', ref_step_new k out (by omega) hl (fun s hs e => by have := h s hs; omega), R.ok_bind, (ref_fold l (k + 1) _ (by omega) (by simp; omega)).2 out k rfl]
      simp [runs]
    · subst h
      simp only [List.length_append, List.length_singleton] at hl
      rw [eachS_cons', ref_step_ext k f o (by omega) (by omega), R.ok_bind, (ref_fold l (k + 1) _ (by omega) (by simp; omega)).2 o f rfl]
      simp [runs]
theorem ref_spans (l : List Bool) (h : l.length ≤ 1440) : ref05_Spans l = .ok (runs 0 l none) := by
  unfold ref05_Spans
  rw [(ref_fold l 0 [] (by omega) (by simp)).1 (fun s hs => by simp at hs)]
  rfl
/-- P5.2, as the reference has it. -/
theorem ref_minus (a b : List Span) : ref05_Minus a b = .ok (runs 0 ((List.range 1440).map fun i => cov a i && !cov b i) none) := by
  unfold ref05_Minus
  rw [ref_minutes, ref_minutes, R.ok_bind, R.ok_bind]
  have key : ∀ (n m : Nat) (x : List Bool), m + n = 1440 → x.length = 1440 → (∀ i, i < 1440 → x.getD i false = if i < m then (cov a i && !cov b i) else cov a i) →
      loop (un2 fun m x => ref05_Minus_b1 ((List.range 1440).map (cov b)) m x) ((m : Int), x) = .ok ((List.range 1440).map fun i => cov a i && !cov b i) := by
    intro n
    induction n with
    | zero =>
      intro m x hm hl hx
      obtain rfl : m = 1440 := by omega
      rw [loop_eq]
      have e : (un2 fun m x => ref05_Minus_b1 ((List.range 1440).map (cov b)) m x) (((1440 : Nat) : Int), x) = .ok (.inr x) := by
        show ref05_Minus_b1 _ _ _ = _
        unfold ref05_Minus_b1
        rw [if_neg (by rw [hl]; omega)]
      rw [e]
      show R.ok x = _
      rw [toList_tab' (f := fun i => cov a i && !cov b i) hl (fun i hi => by rw [hx i hi, if_pos hi])]
    | succ n ih =>
      intro m x hm hl hx
      rw [loop_eq]
      have e : (un2 fun m x => ref05_Minus_b1 ((List.range 1440).map (cov b)) m x) ((m : Int), x) = .ok (.inl (((m + 1 : Nat) : Int), x.set m (cov a m && !cov b m))) := by
        show ref05_Minus_b1 _ _ _ = _
        unfold ref05_Minus_b1
        rw [if_pos (by rw [hl]; omega)]
        have h1 : idx x (m : Int) = .ok (cov a m) := by
          have h2 := hx m (by omega)
          rw [if_neg (by omega), List.getD_eq_getElem?_getD, List.getElem?_eq_getElem (by omega), Option.getD_some] at h2
          rw [idx_get (by omega), h2]
        have h3 : idx ((List.range 1440).map (cov b)) (m : Int) = .ok (cov b m) := idx_nat (by rw [List.getElem?_map, List.getElem?_range (by omega)]; rfl)
        rw [h1, R.ok_bind, h3, wrapN (by omega)]
        cases cov a m <;> simp
      rw [e]
      simp only [R.ok_bind]
      refine ih (m + 1) _ (by omega) (by simpa using hl) fun i hi => ?_
      rw [getD_set' _ _ _ _ (by omega), hx i hi]
      by_cases hmi : m = i
      · subst hmi; simp
      · rw [if_neg hmi]
        by_cases h1 : i < m
        · rw [if_pos h1, if_pos (by omega)]
        · rw [if_neg h1, if_neg (by omega)]
  have := key 1440 0 ((List.range 1440).map (cov a)) rfl (by simp) (fun i hi => by
    rw [if_neg (by omega), List.getD_eq_getElem?_getD, List.getElem?_map, List.getElem?_range hi]; rfl)
  rw [show (0 : Int) = ((0 : Nat) : Int) from rfl, this]
  show ref05_Minus_j1 _ = _
  unfold ref05_Minus_j1
  rw [ref_spans _ (by simp)]
  rfl

/-! ### the program's walk -/
def tw (l : List Bool) : Nat := (l.takeWhile id).length
theorem runs_some : ∀ (l : List Bool) (k f : Nat), runs k l (some f) = sp f (k + tw l) :: runs (k + tw l + 1) (l.drop (tw l + 1)) none
  | [], k, f => by simp [runs, tw]
  | true :: l, k, f => by
    have := runs_some l (k + 1) f
    have e : tw (true :: l) = tw l + 1 := by simp [tw]
    rw [e, runs, this]
    simp only [List.drop_succ_cons]
    rw [show k + 1 + tw l = k + (tw l + 1) by omega]
  | false :: l, k, f => by simp [runs, tw]
/-- A list is handed over, one by one. -/
def yfold {α σ : Type} (b : α → σ → R σ) : List α → σ → R σ
  | [], s => .ok s
  | a :: l, s => (b a s).bind fun s' => yfold b l s'
section
variable {σ : Type} {v : Vector Bool 1440}
theorem vget_get {k : Nat} (h : k < 1440) : v.toList[k]? = some (vget v k false) := by
  have hl : k < v.toList.length := by simpa using h
  rw [List.getElem?_eq_getElem hl]
  simp [vget, List.getD, List.getElem?_eq_getElem hl]
theorem drop_get {k : Nat} (h : k < 1440) : v.toList.drop k = vget v k false :: v.toList.drop (k + 1) := by
  have hl : k < v.toList.length := by simpa using h
  rw [List.drop_eq_getElem_cons hl]
  congr 1
  have := vget_get (v := v) h
  rw [List.getElem?_eq_getElem hl] at this
  exact Option.some.inj this
theorem to_loop (s : σ) : ∀ (n m : Nat), m + n = 1440 → loop (un2 fun vto s1 => hours_day_spans_c1_b1 (σ_ := σ) v vto s1) ((m : Int), s) = .ok (((m + tw (v.toList.drop m) : Nat) : Int), s)
  | 0, m, h => by
    obtain rfl : m = 1440 := by omega
    rw [loop_eq]
    have e : (un2 fun vto s1 => hours_day_spans_c1_b1 (σ_ := σ) v vto s1) (((1440 : Nat) : Int), s) = .ok (.inr (((1440 : Nat) : Int), s)) := by
      show hours_day_spans_c1_b1 _ _ _ = _
      unfold hours_day_spans_c1_b1
      simp
    rw [e]
    have : v.toList.drop 1440 = [] := List.drop_eq_nil_of_le (by simp)
    simp [this, tw]
  | n + 1, m, h => by
    rw [loop_eq, drop_get (by omega)]
    have hb : (un2 fun vto s1 => hours_day_spans_c1_b1 (σ_ := σ) v vto s1) ((m : Int), s) = if vget v m false then .ok (.inl (((m + 1 : Nat) : Int), s)) else .ok (.inr ((m : Int), s)) := by
      show hours_day_spans_c1_b1 _ _ _ = _
      unfold hours_day_spans_c1_b1
      have h1 : decide ((m : Int) < 1440) = true := by simp; omega
      rw [h1, if_pos rfl, if_pos ⟨by omega, by omega⟩, wrapN (by omega)]
      simp
    rw [hb]
    cases hq : vget v m false with
    | true =>
      simp only [if_true, R.ok_bind]
      rw [to_loop s n (m + 1) (by omega)]
      have : tw (true :: v.toList.drop (m + 1)) = tw (v.toList.drop (m + 1)) + 1 := by simp [tw]
      rw [this]
      congr 3; omega
    | false => simp [tw]
theorem from_loop (b : Span → σ → R σ) : ∀ (n k : Nat) (s : σ), 1441 - k ≤ n → k ≤ 1441 → loop (un2 fun vfrom s => hours_day_spans_c1_b2 v b vfrom s) ((k : Int), s) = yfold b (runs k (v.toList.drop k) none) s := by
  intro n
  induction n with
  | zero =>
    intro k s hn hk
    obtain rfl : k = 1441 := by omega
    rw [loop_eq]
    have e : (un2 fun vfrom s => hours_day_spans_c1_b2 v b vfrom s) (((1441 : Nat) : Int), s) = .ok (.inr s) := by
      show hours_day_spans_c1_b2 _ _ _ _ = _
      unfold hours_day_spans_c1_b2
      rw [if_neg (by omega)]
    rw [e]
    have : v.toList.drop 1441 = [] := List.drop_eq_nil_of_le (by simp)
    simp [this, runs, yfold]
  | succ n ih =>
    intro k s hn hk
    by_cases h40 : k < 1440
    · rw [loop_eq, drop_get h40]
      have hb : (un2 fun vfrom s => hours_day_spans_c1_b2 v b vfrom s) ((k : Int), s) = if vget v k false then (b (sp k (k + 1 + tw (v.toList.drop (k + 1)))) s).bind fun s3 => .ok (.inl (((k + 1 + tw (v.toList.drop (k + 1)) + 1 : Nat) : Int), s3)) else .ok (.inl (((k + 1 : Nat) : Int), s)) := by
        show hours_day_spans_c1_b2 _ _ _ _ = _
        unfold hours_day_spans_c1_b2
        rw [if_pos (by omega), if_pos ⟨by omega, by omega⟩, wrapN (by omega)]
        simp only [Int.toNat_natCast]
        rw [to_loop s (1440 - (k + 1)) (k + 1) (by omega)]
        have htw : tw (v.toList.drop (k + 1)) ≤ 1440 := by
          unfold tw
          have h1 := (List.takeWhile_sublist (p := id) (l := v.toList.drop (k + 1))).length_le
          have h2 : (v.toList.drop (k + 1)).length = 1440 - (k + 1) := by simp
          omega
        by_cases hq : vget v k false = true
        case neg => simp [hq]
        case pos =>
          rw [if_pos hq, if_pos hq, R.ok_bind]
          show hours_day_spans_c1_j1 _ _ _ _ = _
          unfold hours_day_spans_c1_j1
          rw [wrapP (by omega)]
          rfl
      rw [hb]
      cases hq : vget v k false with
      | false =>
        simp only [Bool.false_eq_true, if_false, R.ok_bind]
        rw [ih (k + 1) s (by omega) (by omega)]
        rfl
      | true =>
        simp only [if_true]
        rw [show runs k (true :: v.toList.drop (k + 1)) none = runs (k + 1) (v.toList.drop (k + 1)) (some k) from rfl, runs_some, yfold, R.bind_assoc]
        cases hbb : b (sp k (k + 1 + tw (v.toList.drop (k + 1)))) s with
        | bad => rfl
        | pan p => rfl
        | ok s3 =>
          simp only [R.ok_bind]
          have htw : k + 1 + tw (v.toList.drop (k + 1)) ≤ 1440 := by
            unfold tw
            have h1 := (List.takeWhile_sublist (p := id) (l := v.toList.drop (k + 1))).length_le
            have h2 : (v.toList.drop (k + 1)).length = 1440 - (k + 1) := by simp
            omega
          rw [ih _ s3 (by omega) (by omega)]
          congr 2
          rw [List.drop_drop]
          congr 1
    · rw [loop_eq]
      have e : (un2 fun vfrom s => hours_day_spans_c1_b2 v b vfrom s) ((k : Int), s) = .ok (.inr s) := by
        show hours_day_spans_c1_b2 _ _ _ _ = _
        unfold hours_day_spans_c1_b2
        rw [if_neg (by omega)]
      rw [e]
      have : v.toList.drop k = [] := List.drop_eq_nil_of_le (by simp; omega)
      simp [this, runs, yfold]
theorem spans_iter (b : Span → σ → R σ) (s : σ) : hours_day_spans_c1 v b s = yfold b (runs 0 v.toList none) s := by
  unfold hours_day_spans_c1
  have := from_loop (v := v) b 1441 0 s (by omega) (by omega)
  rw [show (0 : Int) = ((0 : Nat) : Int) from rfl, this]
  show (yfold b _ s).bind (fun s4 => hours_day_spans_c1_j2 s4) = _
  simp [hours_day_spans_c1_j2]
end
theorem runs_len : ∀ (l : List Bool) (k : Nat) (o : Option Nat), (runs k l o).length ≤ l.length + 1
  | [], k, none => by simp [runs]
  | [], k, some f => by simp [runs]
  | true :: l, k, none => by rw [runs]; have := runs_len l (k + 1) (some k); simp; omega
  | true :: l, k, some f => by rw [runs]; have := runs_len l (k + 1) (some f); simp; omega
  | false :: l, k, none => by rw [runs]; have := runs_len l (k + 1) none; simp; omega
  | false :: l, k, some f => by rw [runs]; have := runs_len l (k + 1) none; simp at this ⊢; omega
theorem yfold_app {α : Type} {b : α → List α → R (List α)} {c : Nat} (hb : ∀ a s, (s.length + 1) * c ≤ LIM → b a s = .ok (s ++ [a])) : ∀ (l s : List α), (s.length + l.length) * c ≤ LIM → yfold b l s = .ok (s ++ l)
  | [], s, _ => by simp [yfold]
  | a :: l, s, h => by
    have h1 : (s.length + 1) * c ≤ LIM := Nat.le_trans (Nat.mul_le_mul_right _ (by simp)) h
    rw [yfold, hb a s h1, R.ok_bind, yfold_app hb l (s ++ [a]) (by simpa [Nat.add_assoc, Nat.add_comm 1] using h)]
    simp
theorem collect_spans (v : Vector Bool 1440) : slices_Collect_Span_c1 v = .ok (runs 0 v.toList none) := by
  unfold slices_Collect_Span_c1 slices_AppendSeq_Span_c1
  rw [spans_iter, yfold_app (c := 16) (fun a s h => by
    show R.np (slices_AppendSeq_Span_c1_b1 a s) = _
    unfold slices_AppendSeq_Span_c1_b1
    rw [if_pos (by simpa using h)]; rfl) _ _ (by
      have := runs_len v.toList 0 none
      have h2 : v.toList.length = 1440 := by simp
      simp [LIM]; omega)]
  rfl
/-- The minutes of one set without those of another: one table. -/
def minus (a b : List Span) : List Span := runs 0 ((List.range 1440).map fun i => cov a i && !cov b i) none
theorem hours_minus (a b : List Span) : hours_Minus a b = .ok (minus a b) := by
  obtain ⟨d, h1, h2⟩ := hours_of_cov a
  obtain ⟨e, h3, h4⟩ := hours_of_cov b
  obtain ⟨w, h5, h6⟩ := combine_tab h2 h4
  unfold hours_Minus hours_combine_c1
  rw [h1, h3, R.ok_bind, R.ok_bind, h5]
  simp only [R.ok_bind, hours_day_spans_2, collect_spans]
  rw [toList_tab h6]
  rfl
theorem ref_minus' (a b : List Span) : ref05_Minus a b = .ok (minus a b) := ref_minus a b

/-! ### what a list of spans has -/
theorem inS_sp (f k i : Nat) : inS (sp f k) i = (decide (f ≤ i) && decide (i < k)) := by
  unfold inS sp
  congr 1
  · exact decide_eq_decide.2 (by constructor <;> intro h <;> simpa using h)
  · exact decide_eq_decide.2 (by constructor <;> intro h <;> simpa using h)
theorem runs_cov : ∀ (l : List Bool) (k : Nat) (o : Option Nat) (i : Nat), (∀ f, o = some f → f ≤ k) → cov (runs k l o) i = ((match o with | some f => decide (f ≤ i) && decide (i < k) | none => false) || (decide (k ≤ i) && l.getD (i - k) false))
  | [], k, none, i, _ => by simp [runs, cov]
  | [], k, some f, i, h => by simp [runs, cov, inS, sp]
  | true :: l, k, none, i, h => by
    rw [runs, runs_cov l (k + 1) (some k) i (fun f hf => by cases hf; omega)]
    rw [Bool.eq_iff_iff]
    simp only [Bool.or_eq_true, Bool.and_eq_true, decide_eq_true_eq, Bool.false_eq_true, false_or]
    by_cases hik : i = k
    · subst hik; simp
    · constructor
      · rintro (h1 | ⟨h1, h2⟩)
        · omega
        · refine ⟨by omega, ?_⟩
          rw [show i - k = (i - (k + 1)) + 1 by omega]; simpa using h2
      · rintro ⟨h1, h2⟩
        refine .inr ⟨by omega, ?_⟩
        rw [show i - k = (i - (k + 1)) + 1 by omega] at h2; simpa using h2
  | true :: l, k, some f, i, h => by
    have hf := h f rfl
    rw [runs, runs_cov l (k + 1) (some f) i (fun g hg => by cases hg; omega)]
    rw [Bool.eq_iff_iff]
    simp only [Bool.or_eq_true, Bool.and_eq_true, decide_eq_true_eq]
    by_cases hik : i = k
    · subst hik; simp [hf]
    · constructor
      · rintro (⟨h1, h2⟩ | ⟨h1, h2⟩)
        · exact .inl ⟨h1, by omega⟩
        · refine .inr ⟨by omega, ?_⟩
          rw [show i - k = (i - (k + 1)) + 1 by omega]; simpa using h2
      · rintro (⟨h1, h2⟩ | ⟨h1, h2⟩)
        · exact .inl ⟨h1, by omega⟩
        · refine .inr ⟨by omega, ?_⟩
          rw [show i - k = (i - (k + 1)) + 1 by omega] at h2; simpa using h2
  | false :: l, k, none, i, h => by
    rw [runs, runs_cov l (k + 1) none i (fun f hf => by cases hf)]
    rw [Bool.eq_iff_iff]
    simp only [Bool.or_eq_true, Bool.and_eq_true, decide_eq_true_eq, Bool.false_eq_true, false_or]
    by_cases hik : i = k
    · subst hik
      constructor
      · rintro ⟨h1, h2⟩; omega
      · rintro ⟨h1, h2⟩; simp at h2
    · constructor
      · rintro ⟨h1, h2⟩
        refine ⟨by omega, ?_⟩
        rw [show i - k = (i - (k + 1)) + 1 by omega]; simpa using h2
      · rintro ⟨h1, h2⟩
        refine ⟨by omega, ?_⟩
        rw [show i - k = (i - (k + 1)) + 1 by omega] at h2; simpa using h2
  | false :: l, k, some f, i, h => by
    have ih := runs_cov l (k + 1) none i (fun f hf => by cases hf)
    rw [runs]
    show (inS (sp f k) i || cov (runs (k + 1) l none) i) = _
    rw [ih, inS_sp, Bool.eq_iff_iff]
    simp only [Bool.or_eq_true, Bool.and_eq_true, decide_eq_true_eq, Bool.false_eq_true, false_or]
    by_cases hik : i = k
    · subst hik
      constructor
      · rintro (⟨h1, h2⟩ | ⟨h1, h2⟩) <;> omega
      · rintro (⟨h1, h2⟩ | ⟨h1, h2⟩)
        · omega
        · simp at h2
    · constructor
      · rintro (⟨h1, h2⟩ | ⟨h1, h2⟩)
        · exact .inl ⟨by omega, by omega⟩
        · refine .inr ⟨by omega, ?_⟩
          rw [show i - k = (i - (k + 1)) + 1 by omega]; simpa using h2
      · rintro (⟨h1, h2⟩ | ⟨h1, h2⟩)
        · exact .inl ⟨by omega, by omega⟩
        · refine .inr ⟨by omega, ?_⟩
          rw [show i - k = (i - (k + 1)) + 1 by omega] at h2; simpa using h2
theorem minus_cov (a b : List Span) (i : Nat) : cov (minus a b) i = (decide (i < 1440) && (cov a i && !cov b i)) := by
  unfold minus
  rw [runs_cov _ 0 none i (fun f hf => by cases hf)]
  simp only [Nat.zero_le, decide_true, Bool.true_and, Nat.sub_zero, Bool.false_or]
  by_cases h : i < 1440
  · rw [List.getD_eq_getElem?_getD, List.getElem?_map, List.getElem?_range h]; simp [h]
  · rw [List.getD_eq_getElem?_getD, List.getElem?_eq_none (by simp; omega)]; simp [h]
end Go.Am
