/- Chapter 26, plain: Lost. -/
import Derived.Test.YtplndonhhfflhaaRdP3
namespace Go.Am
open Go
set_option linter.unusedVariables false
set_option linter.unusedSimpArgs false
set_option maxRecDepth 100000

/-! ### Changes -/
def froms (l : List Status) : List Int := (l.filter fun x => decide (x.From > 0) && decide (x.From < 1440)).map (·.From)
def chg (l : List Status) : List Int := compactI (sortI ([0, 1440] ++ froms l))
theorem froms_each : ∀ (l : List Status) (k : Nat) (t : List Int), (t.length + l.length) * 8 ≤ LIM → eachS (fun _ a => fun l1 => radar_changes_2_b1 a l1) k l t = .ok (t ++ froms l)
  | [], k, t, _ => by show R.ok _ = _; simp [froms]
  | a :: l, k, t, h => by
    simp only [List.length_cons] at h
    rw [eachS_cons']
    rw [radar_changes_2_b1.eq_1 a t]
    cases hc : decide (a.From > 0) && decide (a.From < 1440) with
    | true =>
      rw [if_pos rfl, if_pos (by simp only [List.length_cons, List.length_nil]; omega), R.ok_bind, froms_each l (k + 1) _ (by simp only [List.length_append, List.length_cons, List.length_nil]; omega)]
      simp [froms, List.filter_cons, hc]
    | false =>
      simp only [Bool.false_eq_true, if_false, R.ok_bind]
      rw [froms_each l (k + 1) _ (by omega)]
      simp [froms, List.filter_cons, hc]
theorem froms_len (l : List Status) : (froms l).length ≤ l.length := by
  unfold froms; rw [List.length_map]; exact List.length_filter_le _ _
theorem changes_eq (l : List Status) (hl : l.length ≤ 1048570) : radar_changes_2 l = .ok (chg l) := by
  unfold radar_changes_2
  rw [froms_each l 0 _ (by simp only [List.length_cons, List.length_nil, LIM]; omega), R.ok_bind]
  have h1 := froms_len l
  have h2 : (([0, 1440] : List Int) ++ froms l).length ≤ LIM := by simp only [List.length_append, List.length_cons, List.length_nil, LIM]; omega
  unfold slices_Sort_40 slicesSort slices_Compact_41 slicesCompact
  rw [if_pos h2, R.ok_bind, sortI_length, if_pos h2, R.ok_bind]
  rfl
theorem sortI_mem {L : List Int} {x : Int} : x ∈ sortI L ↔ x ∈ L := List.mem_mergeSort
theorem sortI_sorted (L : List Int) : (sortI L).Pairwise (· ≤ ·) := by
  have := List.pairwise_mergeSort (le := fun x y : Int => decide (x ≤ y)) (fun a b c h1 h2 => by simp at *; omega) (fun a b => by simp; omega) L
  exact this.imp fun h => by simpa using h
theorem compact_mem {L : List Int} (x : Int) : x ∈ compactI L ↔ x ∈ L := by
  unfold compactI Lib.compact Lib.compactUpTo
  simp only [List.mem_map, List.mem_filter, List.mem_range]
  have hg : ∀ i (hi : i < L.length), (L.toArray)[i]! = L[i] := fun i hi => by simp [hi]
  constructor
  · rintro ⟨i, ⟨hi, _⟩, rfl⟩
    rw [hg i hi]; exact List.getElem_mem _
  · intro hx
    obtain ⟨i, hi, rfl⟩ := List.mem_iff_getElem.1 hx
    clear hx
    induction i with
    | zero => exact ⟨0, ⟨hi, by simp [Lib.keeps]⟩, hg 0 hi⟩
    | succ i ih =>
      by_cases hc : L[i + 1] = L[i]
      · obtain ⟨j, hj, e⟩ := ih (by omega)
        exact ⟨j, hj, by rw [e, hc]⟩
      · refine ⟨i + 1, ⟨hi, ?_⟩, hg _ hi⟩
        unfold Lib.keeps
        rw [hg _ hi, Nat.add_sub_cancel, hg i (by omega)]
        simp [hc]
theorem compact_sorted {L : List Int} (h : L.Pairwise (· ≤ ·)) : (compactI L).Pairwise (· < ·) := by
  unfold compactI Lib.compact Lib.compactUpTo
  have hg : ∀ i (hi : i < L.length), (L.toArray)[i]! = L[i] := fun i hi => by simp [hi]
  rw [List.pairwise_map]
  have h0 : ((List.range L.length).filter (Lib.keeps L.toArray)).Pairwise (· < ·) := List.Pairwise.filter _ List.pairwise_lt_range
  refine List.Pairwise.imp_of_mem ?_ h0
  intro a b ha hb hab
  have ha' : a < L.length := by simpa using (List.mem_filter.1 ha).1
  have hb' : b < L.length := by simpa using (List.mem_filter.1 hb).1
  have hk := (List.mem_filter.1 hb).2
  rw [List.pairwise_iff_getElem] at h
  rw [hg a ha', hg b hb']
  unfold Lib.keeps at hk
  rw [hg b hb', hg (b - 1) (by omega)] at hk
  simp only [decide_eq_true_eq] at hk
  have h1 : L[a] ≤ L[b - 1] := by
    rcases Nat.lt_or_ge a (b - 1) with hh | hh
    · exact h a (b - 1) ha' (by omega) hh
    · have : a = b - 1 := by omega
      subst this; omega
  have h2 : L[b - 1] ≤ L[b] := h (b - 1) b (by omega) hb' (by omega)
  rcases hk with hk | hk
  · omega
  · omega
theorem chg_mem {l : List Status} {x : Int} : x ∈ chg l ↔ x = 0 ∨ x = 1440 ∨ (0 < x ∧ x < 1440 ∧ ∃ s ∈ l, s.From = x) := by
  unfold chg froms
  rw [compact_mem, sortI_mem]
  simp only [List.mem_append, List.mem_cons, List.not_mem_nil, or_false, List.mem_map, List.mem_filter, Bool.and_eq_true, decide_eq_true_eq]
  constructor
  · rintro ((rfl | rfl) | ⟨s, ⟨h1, h2, h3⟩, rfl⟩)
    · exact .inl rfl
    · exact .inr (.inl rfl)
    · exact .inr (.inr ⟨h2, h3, s, h1, rfl⟩)
  · rintro (rfl | rfl | ⟨h1, h2, s, h3, rfl⟩)
    · exact .inl (.inl rfl)
    · exact .inl (.inr rfl)
    · exact .inr ⟨s, ⟨h3, h1, h2⟩, rfl⟩
theorem chg_sorted (l : List Status) : (chg l).Pairwise (· < ·) := compact_sorted (sortI_sorted _)
theorem ints_ext : ∀ {a b : List Int}, a.Pairwise (· < ·) → b.Pairwise (· < ·) → (∀ x, x ∈ a ↔ x ∈ b) → a = b
  | [], [], _, _, _ => rfl
  | [], y :: b, _, _, h => by have := (h y).2 List.mem_cons_self; cases this
  | x :: a, [], _, _, h => by have := (h x).1 List.mem_cons_self; cases this
  | x :: a, y :: b, ha, hb, h => by
    rw [List.pairwise_cons] at ha hb
    have hxy : x = y := by
      rcases List.mem_cons.1 ((h x).1 List.mem_cons_self) with e | h1
      · exact e
      · rcases List.mem_cons.1 ((h y).2 List.mem_cons_self) with e | h2
        · exact e.symm
        · have := ha.1 y h2; have := hb.1 x h1; omega
    subst hxy
    congr 1
    refine ints_ext ha.2 hb.2 fun z => ?_
    have hz := h z
    simp only [List.mem_cons] at hz
    constructor
    · intro hm
      rcases hz.1 (.inr hm) with e | e
      · have := ha.1 z hm; omega
      · exact e
    · intro hm
      rcases hz.2 (.inr hm) with e | e
      · have := hb.1 z hm; omega
      · exact e

/-! ### Contains, and a minute's look -/
theorem index_go (v : Int) : ∀ (s : List Int) (k : Nat), ∃ r, each (fun j a => fun _ => slices_Index_int_b1 v j a) k s () = .ok r ∧ ((∃ x : Int, r = .inr x ∧ x ≥ 0 ∧ v ∈ s) ∨ (r = .inl () ∧ v ∉ s))
  | [], k => ⟨_, rfl, .inr ⟨rfl, by simp⟩⟩
  | a :: s, k => by
    rw [each_cons]
    unfold slices_Index_int_b1
    by_cases h : v = a
    · subst h
      exact ⟨.inr (k : Int), by simp, .inl ⟨_, rfl, by omega, by simp⟩⟩
    · have hb : (v == a) = false := by simpa using h
      rw [hb]
      simp only [Bool.false_eq_true, if_false, R.ok_bind]
      obtain ⟨r, h1, h2⟩ := index_go v s (k + 1)
      refine ⟨r, h1, ?_⟩
      rcases h2 with ⟨x, e, hx, hm⟩ | ⟨e, hm⟩
      · exact .inl ⟨x, e, hx, by simp [hm]⟩
      · exact .inr ⟨e, by simp [h, hm]⟩
theorem contains_eq (s : List Int) (v : Int) : slices_Contains_int s v = .ok (decide (v ∈ s)) := by
  unfold slices_Contains_int slices_Index_int
  obtain ⟨r, h1, h2⟩ := index_go v s 0
  rw [h1]
  rcases h2 with ⟨x, rfl, hx, hm⟩ | ⟨rfl, hm⟩
  · show R.ok _ = _; simp [hm]; omega
  · show R.ok _ = _; simp [hm]
theorem look (volume : Int) (l : List Status) (a : Int) : ∀ (s : List Station) (k : Nat) (b : Bool), eachS (fun j a2 => fun seen => radar_Lost_b1 volume l a j a2 seen) k s b = .ok (b || seesGo l a volume k s)
  | [], k, b => by show R.ok _ = _; simp [seesGo]
  | x :: s, k, b => by
    rw [eachS_cons']
    have e : radar_Lost_b1 volume l a k x b = .ok (b || (worksL l (k : Int) a && decide (volume ∈ x.Volumes))) := by
      unfold radar_Lost_b1
      cases b with
      | true => rfl
      | false =>
        simp only [Bool.false_eq_true, if_false, contains_eq, R.ok_bind]
        cases decide (volume ∈ x.Volumes) with
        | true => simp only [if_true, Works_eq, R.ok_bind]; simp
        | false => simp
    rw [e, R.ok_bind, look volume l a s (k + 1), seesGo, Bool.or_assoc]

/-! ### Spans -/
def inSp (s : Span) (m : Int) : Bool := decide (s.From ≤ m) && decide (m < s.To)
def covS (l : List Span) (m : Int) : Bool := l.any fun s => inSp s m
def stepS (out : List Span) (a b : Int) : List Span := match out.getLast? with
  | some s => if s.To = a then out.dropLast ++ [{ s with To := b }] else out ++ [{ From := a, To := b }]
  | none => [{ From := a, To := b }]
theorem stepS_snoc (o : List Span) (s : Span) (a b : Int) : stepS (o ++ [s]) a b = if s.To = a then o ++ [{ s with To := b }] else (o ++ [s]) ++ [{ From := a, To := b }] := by
  unfold stepS; simp
theorem snoc_cases {α : Type} (l : List α) : l = [] ∨ ∃ o x, l = o ++ [x] := by
  cases h : l.getLast? with
  | none => exact .inl (List.getLast?_eq_none_iff.1 h)
  | some x => exact .inr ⟨l.dropLast, x, by have := List.getLast?_eq_some_iff.1 h; obtain ⟨ys, e⟩ := this; rw [e]; simp⟩
theorem step_len (out : List Span) (a b : Int) : (stepS out a b).length ≤ out.length + 1 := by
  rcases snoc_cases out with rfl | ⟨o, s, rfl⟩
  · simp [stepS]
  · rw [stepS_snoc]; split <;> simp
theorem step_eq (volume : Int) (s : List Station) (l : List Status) (a b : Int) (out : List Span) (hlen : out.length ≤ 1048600) :
    radar_Lost_b2 volume s l a b out = .ok (if seesGo l a volume 0 s then out else stepS out a b) := by
  unfold radar_Lost_b2
  rw [look, R.ok_bind, Bool.false_or]
  cases seesGo l a volume 0 s with
  | true => rfl
  | false =>
    simp only [Bool.false_eq_true, if_false]
    rcases snoc_cases out with rfl | ⟨o, x, rfl⟩
    · simp [stepS, LIM]
    · have hl : (o ++ [x]).length = o.length + 1 := by simp
      rw [hl] at hlen ⊢
      have e1 : decide (((o.length + 1 : Nat) : Int) > 0) = true := decide_eq_true (by omega)
      have e2 : IntKind.wrap .i64 (((o.length + 1 : Nat) : Int) - 1) = (o.length : Int) := by rw [wrap64 (by omega) (by omega)]; omega
      have e3 : (o ++ [x])[o.length]? = some x := by rw [List.getElem?_append_right (Nat.le_refl _)]; simp
      rw [e1, e2, if_pos rfl, idx_nat e3, R.ok_bind, R.ok_bind, stepS_snoc]
      by_cases h : x.To = a
      · have : (x.To == a) = true := by simpa using h
        rw [this, if_pos rfl, if_pos h, R.ok_bind]
        congr 1
        simp
      · have : (x.To == a) = false := by simpa using h
        rw [this, if_neg h]
        simp only [Bool.false_eq_true, if_false]
        rw [if_pos (by simp only [List.length_cons, List.length_nil, LIM]; omega)]
def lostGo (u : Int → Bool) : Int → List Int → List Span → List Span
  | _, [], out => out
  | a, b :: r, out => lostGo u b r (if u a then out else stepS out a b)
def lostS (volume : Int) (s : List Station) (l : List Status) : List Span := match chg l with
  | [] => []
  | a :: r => lostGo (fun m => seesGo l m volume 0 s) a r []
theorem np_ok {α : Type} (x : α) : R.np (.ok x) = .ok x := rfl
theorem lost_loop (volume : Int) (s : List Station) (l : List Status) : ∀ (rest pre : List Int) (a : Int) (out : List Span), out.length + rest.length ≤ 1048600 → (pre ++ a :: rest).length ≤ 1048600 →
    loop (un2 fun i z => radar_changes_c1_b1 (pre ++ a :: rest) (fun a a1 z_ => R.np ((fun l1 => radar_Lost_b2 volume s l a a1 l1) z_)) i z) (((pre.length + 1 : Nat) : Int), out) = .ok (lostGo (fun m => seesGo l m volume 0 s) a rest out)
  | [], pre, a, out, _, hp => by
    rw [loop_eq]
    show (radar_changes_c1_b1 _ _ _ _).bind _ = _
    rw [radar_changes_c1_b1.eq_1]
    rw [if_neg (by simp)]
    rfl
  | b :: rest, pre, a, out, ho, hp => by
    rw [loop_eq]
    show (radar_changes_c1_b1 _ _ _ _).bind _ = _
    rw [radar_changes_c1_b1.eq_1]
    simp only [List.length_append, List.length_cons] at hp ho
    rw [if_pos (by simp; omega), wrap64 (by omega) (by omega)]
    have e1 : (pre ++ a :: b :: rest)[pre.length]? = some a := by rw [List.getElem?_append_right (Nat.le_refl _)]; simp
    have e2 : (pre ++ a :: b :: rest)[pre.length + 1]? = some b := by rw [List.getElem?_append_right (by omega)]; simp
    rw [show ((pre.length + 1 : Nat) : Int) - 1 = (pre.length : Int) by omega, idx_nat e1, R.ok_bind, idx_nat e2, R.ok_bind]
    show (((radar_Lost_b2 volume s l a b out).np).bind _).bind _ = _
    rw [step_eq volume s l a b out (by omega), np_ok, R.ok_bind, R.ok_bind]
    rw [wrap64 (by omega) (by omega)]
    have ih := lost_loop volume s l rest (pre ++ [a]) b (if seesGo l a volume 0 s then out else stepS out a b) (by have := step_len out a b; split <;> omega) (by simp; omega)
    have e3 : pre ++ [a] ++ b :: rest = pre ++ a :: b :: rest := by simp
    rw [e3] at ih
    have e4 : (((pre ++ [a]).length + 1 : Nat) : Int) = ((pre.length + 1 : Nat) : Int) + 1 := by simp
    rw [e4] at ih
    exact ih
theorem compact_len (L : List Int) : (compactI L).length ≤ L.length := compact_le L
theorem chg_len (l : List Status) : (chg l).length ≤ l.length + 2 := by
  unfold chg
  have h1 := compact_len (sortI ([0, 1440] ++ froms l))
  have h2 := froms_len l
  rw [sortI_length] at h1
  simp only [List.length_append, List.length_cons, List.length_nil] at h1
  omega
theorem Lost_eq (volume : Int) (s : List Station) (l : List Status) (hl : l.length ≤ 1048570) : radar_Lost volume s l = .ok (lostS volume s l) := by
  unfold radar_Lost radar_changes_c1 lostS
  rw [changes_eq l hl, R.ok_bind]
  have hlen := chg_len l
  cases hc : chg l with
  | nil =>
    have : (0 : Int) ∈ chg l := chg_mem.2 (.inl rfl)
    rw [hc] at this; cases this
  | cons a r =>
    rw [hc] at hlen
    have := lost_loop volume s l r [] a [] (by simp at hlen ⊢; omega) (by simp at hlen ⊢; omega)
    simp only [List.nil_append] at this
    rw [show (1 : Int) = (((([] : List Int).length + 1 : Nat)) : Int) from rfl, this]
    rfl

/-! ### What it covers -/
theorem cov_step (out : List Span) (a b m : Int) (hab : a ≤ b) (hw : ∀ s ∈ out, s.From ≤ s.To) : covS (stepS out a b) m = (covS out m || (decide (a ≤ m) && decide (m < b))) ∧ ∀ s ∈ stepS out a b, s.From ≤ s.To := by
  rcases snoc_cases out with rfl | ⟨o, x, rfl⟩
  · exact ⟨by simp [stepS, covS, inSp], fun s hs => by simp [stepS] at hs; subst hs; exact hab⟩
  · rw [stepS_snoc]
    have hx := hw x (by simp)
    split
    · rename_i h
      refine ⟨?_, fun s hs => ?_⟩
      · unfold covS inSp
        simp only [List.any_append, List.any_cons, List.any_nil, Bool.or_false]
        rw [Bool.or_assoc]
        congr 1
        by_cases h1 : x.From ≤ m
        · by_cases h2 : m < x.To
          · have : m < b := by omega
            simp [h1, h2, this]
          · have h3 : a ≤ m := by omega
            simp [h1, h2, h3]
        · have h3 : ¬ a ≤ m := by omega
          simp [h1, h3]
      · rcases List.mem_append.1 hs with hs | hs
        · exact hw s (by simp [hs])
        · simp at hs; subst hs; show x.From ≤ b; omega
    · refine ⟨?_, fun s hs => ?_⟩
      · unfold covS
        rw [List.any_append]
        simp [inSp]
      · rcases List.mem_append.1 hs with hs | hs
        · exact hw s hs
        · simp at hs; subst hs; exact hab
def hitP (u : Int → Bool) (m : Int) : Int → List Int → Bool
  | _, [] => false
  | a, b :: r => (!u a && (decide (a ≤ m) && decide (m < b))) || hitP u m b r
theorem cov_go (u : Int → Bool) (m : Int) : ∀ (rest : List Int) (a : Int) (out : List Span), (a :: rest).Pairwise (· < ·) → (∀ s ∈ out, s.From ≤ s.To) → covS (lostGo u a rest out) m = (covS out m || hitP u m a rest)
  | [], a, out, _, _ => by simp [lostGo, hitP]
  | b :: rest, a, out, hp, hw => by
    rw [List.pairwise_cons] at hp
    have hab := hp.1 b List.mem_cons_self
    rw [lostGo, hitP]
    cases hu : u a with
    | true =>
      rw [if_pos rfl, cov_go u m rest b out hp.2 hw]; simp
    | false =>
      obtain ⟨h1, h2⟩ := cov_step out a b m (by omega) hw
      simp only [Bool.false_eq_true, if_false]
      rw [cov_go u m rest b _ hp.2 h2, h1, Bool.or_assoc]
      simp
theorem hit_none (u : Int → Bool) (m : Int) : ∀ (rest : List Int) (a : Int), (a :: rest).Pairwise (· < ·) → m < a → hitP u m a rest = false
  | [], a, _, _ => rfl
  | b :: rest, a, hp, h => by
    rw [List.pairwise_cons] at hp
    have hab := hp.1 b List.mem_cons_self
    rw [hitP, hit_none u m rest b hp.2 (by omega)]
    have : ¬ a ≤ m := by omega
    simp [this]
theorem hit_at (u : Int → Bool) (m : Int) : ∀ (rest : List Int) (a : Int), (a :: rest).Pairwise (· < ·) → a ≤ m → (∃ z ∈ a :: rest, m < z) → ∃ c ∈ a :: rest, c ≤ m ∧ (∀ z ∈ a :: rest, z ≤ m → z ≤ c) ∧ hitP u m a rest = !u c
  | [], a, _, h1, ⟨z, hz, h2⟩ => by simp at hz; omega
  | b :: rest, a, hp, h1, hz => by
    have hp0 := hp
    rw [List.pairwise_cons] at hp
    have hab := hp.1 b List.mem_cons_self
    by_cases hb : m < b
    · refine ⟨a, List.mem_cons_self, h1, fun z hzm hle => ?_, ?_⟩
      · rcases List.mem_cons.1 hzm with rfl | hzm
        · omega
        · rcases List.mem_cons.1 hzm with rfl | hzm
          · omega
          · have := (List.pairwise_cons.1 hp.2).1 z hzm; omega
      · rw [hitP, hit_none u m rest b hp.2 hb]
        simp [h1, hb]
    · obtain ⟨z, hzm, hlt⟩ := hz
      have hz' : ∃ z ∈ b :: rest, m < z := by
        rcases List.mem_cons.1 hzm with rfl | hzm
        · omega
        · exact ⟨z, hzm, hlt⟩
      obtain ⟨c, c1, c2, c3, c4⟩ := hit_at u m rest b hp.2 (by omega) hz'
      refine ⟨c, List.mem_cons_of_mem _ c1, c2, fun z hzm hle => ?_, ?_⟩
      · rcases List.mem_cons.1 hzm with rfl | hzm
        · have := c3 b List.mem_cons_self (by omega); omega
        · exact c3 z hzm hle
      · rw [hitP, c4]
        simp [hb]
theorem sees_congr (l : List Status) (m m' v : Int) (h : ∀ x ∈ l, x.From ≤ m ↔ x.From ≤ m') : ∀ (s : List Station) (k : Nat), seesGo l m v k s = seesGo l m' v k s
  | [], k => rfl
  | x :: s, k => by
    unfold seesGo
    rw [sees_congr l m m' v h s (k + 1)]
    have : worksL l (k : Int) m = worksL l (k : Int) m' := by
      unfold worksL; rw [works_congr _ m m' l _ h]
    rw [this]
theorem lost_cov (volume : Int) (s : List Station) (l : List Status) (m : Int) (h0 : 0 ≤ m) (h1 : m < 1440) : covS (lostS volume s l) m = !seesGo l m volume 0 s := by
  unfold lostS
  have hs := chg_sorted l
  have hm0 : (0 : Int) ∈ chg l := chg_mem.2 (.inl rfl)
  have hm1 : (1440 : Int) ∈ chg l := chg_mem.2 (.inr (.inl rfl))
  have hmem : ∀ x, x ∈ chg l → 0 ≤ x := fun x hx => by rcases chg_mem.1 hx with rfl | rfl | h <;> omega
  have hfr : ∀ x ∈ l, 0 < x.From → x.From < 1440 → x.From ∈ chg l := fun x hx a b => chg_mem.2 (.inr (.inr ⟨a, b, x, hx, rfl⟩))
  generalize chg l = C at *
  cases C with
  | nil => cases hm0
  | cons a r =>
    have ha : a ≤ 0 := by
      rcases List.mem_cons.1 hm0 with e | e
      · omega
      · have := (List.pairwise_cons.1 hs).1 0 e; omega
    show covS (lostGo _ a r []) m = _
    rw [cov_go _ m r a [] hs (fun s hs => by cases hs)]
    obtain ⟨c, c1, c2, c3, c4⟩ := hit_at (fun m => seesGo l m volume 0 s) m r a hs (by omega) ⟨1440, hm1, h1⟩
    rw [c4]
    show (false || _) = _
    rw [Bool.false_or]
    congr 1
    refine sees_congr l c m volume (fun x hx => ⟨fun h => by omega, fun h => ?_⟩) s 0
    by_cases hp : 0 < x.From
    · exact c3 _ (hfr x hx hp (by omega)) h
    · have := hmem c c1; omega
end Go.Am
