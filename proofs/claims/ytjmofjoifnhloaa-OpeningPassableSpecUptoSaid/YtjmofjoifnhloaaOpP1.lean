/- Chapter 11, plain: minutes of the day as a table; both ways of filling it. -/
import Derived.Test.YtjmofjoifnhloaaOpG
import Derived.Test.YtjmofjoifnhloaaPlBase
namespace Go.Am
open Go
set_option linter.unusedVariables false
set_option linter.unusedSimpArgs false
set_option maxRecDepth 100000

/-- A loop that counts up. -/
theorem loop_up {σ : Type} {b : Int × σ → R ((Int × σ) ⊕ σ)} {hi : Int} {g : Nat → σ → σ} {I : σ → Prop} (hI : ∀ (m : Nat) s, I s → (m : Int) < hi → I (g m s)) (h1 : ∀ (m : Nat) s, I s → (m : Int) < hi → b ((m : Int), s) = .ok (.inl (((m + 1 : Nat) : Int), g m s)))
    (h2 : ∀ (m : Nat) s, I s → hi ≤ (m : Int) → b ((m : Int), s) = .ok (.inr s)) : ∀ (n m : Nat) (s : σ), I s → (hi - (m : Int)).toNat = n → loop b ((m : Int), s) = .ok ((List.range' m n).foldl (fun s j => g j s) s)
  | 0, m, s, hs, hn => by
    rw [loop_eq, h2 m s hs (by omega)]; rfl
  | n + 1, m, s, hs, hn => by
    rw [loop_eq, h1 m s hs (by omega)]
    simp only [R.ok_bind]
    rw [loop_up hI h1 h2 n (m + 1) (g m s) (hI m s hs (by omega)) (by omega)]
    simp [List.range'_succ]

/-- Is a minute in a span? -/
def inS (s : Span) (i : Nat) : Bool := decide (s.From ≤ (i : Int)) && decide ((i : Int) < s.To)
def cov (l : List Span) (i : Nat) : Bool := l.any fun s => inS s i
theorem wrapN {m : Nat} (h : (m : Int) < 1440) : IntKind.wrap .i64 ((m : Int) + 1) = ((m + 1 : Nat) : Int) := by
  rw [wrap64 (by omega) (by omega)]; simp
theorem vget_vset {n : Nat} (v : Vector Bool n) (i j : Nat) (x : Bool) (hi : i < n) : vget (vset v i x) j false = if i = j then x else vget v j false := by
  unfold vget vset
  have : (v.setIfInBounds i x).toList = v.toList.set i x := by simp
  rw [this]
  simp only [List.getD, List.getElem?_set]
  have hl : i < v.toList.length := by simpa using hi
  by_cases hij : i = j
  · subst hij; simp [hi]
  · simp [hij]
theorem rep_get' (n i : Nat) : (List.replicate n false).getD i false = false := by
  rw [List.getD_eq_getElem?_getD, List.getElem?_replicate]
  split <;> rfl
theorem rep_get (n i : Nat) : vget (vrep n false) i false = false := by
  unfold vget vrep
  rw [Vector.toList_replicate]
  exact rep_get' n i
theorem fold_vset (f : Nat → Bool) : ∀ (n m : Nat) (v : Vector Bool 1440), m + n ≤ 1440 → (∀ i, i < 1440 → vget v i false = f i) → ∀ i, i < 1440 → vget ((List.range' m n).foldl (fun s j => vset s j true) v) i false = (f i || (decide (m ≤ i) && decide (i < m + n)))
  | 0, m, v, _, hf, i, hi => by
    have : (decide (m ≤ i) && decide (i < m + 0)) = false := by simp
    rw [this]; simpa using hf i hi
  | n + 1, m, v, hm, hf, i, hi => by
    rw [List.range'_succ, List.foldl_cons]
    rw [fold_vset (fun i => if m = i then true else f i) n (m + 1) (vset v m true) (by omega) (fun i hi => by rw [vget_vset _ _ _ _ (by omega), hf i hi]) i hi]
    by_cases hmi : m = i
    · subst hmi; simp
    · rw [if_neg hmi]
      congr 1
      have e1 : decide (m + 1 ≤ i) = decide (m ≤ i) := by apply decide_eq_decide.2; omega
      have e2 : decide (i < m + 1 + n) = decide (i < m + (n + 1)) := by apply decide_eq_decide.2; omega
      rw [e1, e2]
/-- How many minutes, from which. -/
def lo (s : Span) : Nat := s.From.toNat
def hi (s : Span) : Int := if 1440 < s.To then 1440 else s.To
theorem inS_lo (s : Span) (i : Nat) (h : i < 1440) : (decide (lo s ≤ i) && decide (i < lo s + (hi s - (lo s : Int)).toNat)) = inS s i := by
  unfold inS lo hi
  rw [Bool.eq_iff_iff]
  simp only [Bool.and_eq_true, decide_eq_true_eq]
  split <;> omega
theorem lo_eq (s : Span) : (if 0 > s.From then 0 else s.From) = (lo s : Int) := by
  unfold lo; split <;> omega
theorem hours_of_b2 (a : Span) (v : Vector Bool 1440) (f : Nat → Bool) (hf : ∀ i, i < 1440 → vget v i false = f i) : ∃ v', hours_of_2_b2 a v = .ok v' ∧ ∀ i, i < 1440 → vget v' i false = (f i || inS a i) := by
  unfold hours_of_2_b2
  rw [lo_eq]
  have hlt : hi a ≤ 1440 := by unfold hi; split <;> omega
  have := loop_up (b := un2 fun m o1 => hours_of_2_b1 a m o1) (hi := hi a) (g := fun j v => vset v j true) (I := fun _ => True) (fun _ _ _ _ => trivial)
    (fun m s _ hm => by
      show hours_of_2_b1 a m s = _
      unfold hours_of_2_b1
      have hm' : (m : Int) < (if 1440 < a.To then 1440 else a.To) := hm
      rw [if_pos hm', if_pos ⟨by omega, by omega⟩, wrapN (by omega)]
      simp)
    (fun m s _ hm => by
      show hours_of_2_b1 a m s = _
      unfold hours_of_2_b1
      have hm' : ¬ (m : Int) < (if 1440 < a.To then 1440 else a.To) := by have : hi a ≤ (m : Int) := hm; unfold hi at this; omega
      rw [if_neg hm'])
    _ (lo a) v trivial rfl
  rw [this]
  refine ⟨_, rfl, fun i hi' => ?_⟩
  rw [← inS_lo a i hi']
  by_cases hc : (hi a - (lo a : Int)).toNat = 0
  · rw [hc]
    have : (decide (lo a ≤ i) && decide (i < lo a + 0)) = false := by rw [Bool.eq_false_iff]; simp
    rw [this]; simpa using hf i hi'
  · exact fold_vset f _ _ v (by omega) hf i hi'
theorem hours_of_cov (l : List Span) : ∃ v, hours_of_2 l = .ok v ∧ ∀ i, i < 1440 → vget v i false = cov l i := by
  have key : ∀ (l : List Span) (k : Nat) (v : Vector Bool 1440) (f : Nat → Bool), (∀ i, i < 1440 → vget v i false = f i) → ∃ v', eachS (fun _ a => fun o => hours_of_2_b2 a o) k l v = .ok v' ∧ ∀ i, i < 1440 → vget v' i false = (f i || cov l i) := by
    intro l
    induction l with
    | nil => intro k v f hf; exact ⟨v, rfl, fun i hi => by simpa [cov] using hf i hi⟩
    | cons a l ih =>
      intro k v f hf
      obtain ⟨v', h1, h2⟩ := hours_of_b2 a v f hf
      obtain ⟨v2, h3, h4⟩ := ih (k + 1) v' _ h2
      refine ⟨v2, by rw [eachS_cons', h1, R.ok_bind, h3], fun i hi => ?_⟩
      rw [h4 i hi]
      simp [cov, Bool.or_assoc]
  obtain ⟨v, h1, h2⟩ := key l 0 (vrep 1440 false) (fun _ => false) (fun i hi => rep_get _ _)
  exact ⟨v, by unfold hours_of_2; rw [h1]; rfl, fun i hi => by simpa using h2 i hi⟩
theorem toList_tab {v : Vector Bool 1440} {f : Nat → Bool} (h : ∀ i, i < 1440 → vget v i false = f i) : v.toList = (List.range 1440).map f := by
  apply List.ext_getElem?
  intro i
  by_cases hi : i < 1440
  · have h1 := h i hi
    have hl : i < v.toList.length := by simpa using hi
    unfold vget at h1
    rw [List.getD_eq_getElem?_getD, List.getElem?_eq_getElem hl, Option.getD_some] at h1
    rw [List.getElem?_eq_getElem hl, h1]
    simp [hi]
  · rw [List.getElem?_eq_none (by simpa using hi), List.getElem?_eq_none (by simpa using hi)]
/-- Both, minute by minute. -/
theorem combine_tab {d e : Vector Bool 1440} {f g : Nat → Bool} (hd : ∀ i, i < 1440 → vget d i false = f i) (he : ∀ i, i < 1440 → vget e i false = g i) :
    ∃ v, eachS (fun j _ => fun o => hours_combine_c1_b1 e j o) 0 (List.range 1440) d = .ok v ∧ ∀ i, i < 1440 → vget v i false = (f i && !g i) := by
  have key : ∀ (n m : Nat) (v : Vector Bool 1440), m + n = 1440 → (∀ i, i < 1440 → vget v i false = if i < m then (f i && !g i) else f i) →
      ∃ v', eachS (fun j (_ : Nat) => fun o => hours_combine_c1_b1 e j o) m (List.range' m n) v = .ok v' ∧ ∀ i, i < 1440 → vget v' i false = (f i && !g i) := by
    intro n
    induction n with
    | zero => intro m v hm hv; exact ⟨v, rfl, fun i hi => by rw [hv i hi, if_pos (by omega)]⟩
    | succ n ih =>
      intro m v hm hv
      rw [List.range'_succ, eachS_cons']
      have e1 : hours_combine_c1_b1 e m v = .ok (vset v m (f m && !g m)) := by
        unfold hours_combine_c1_b1 hours_Minus_c1
        rw [hv m (by omega), if_neg (by omega), he m (by omega)]
        rfl
      rw [e1, R.ok_bind]
      refine ih (m + 1) _ (by omega) fun i hi => ?_
      rw [vget_vset _ _ _ _ (by omega), hv i hi]
      by_cases hmi : m = i
      · subst hmi; simp
      · rw [if_neg hmi]
        by_cases h1 : i < m
        · rw [if_pos h1, if_pos (by omega)]
        · rw [if_neg h1, if_neg (by omega)]
  have := key 1440 0 d rfl (fun i hi => by rw [if_neg (by omega)]; exact hd i hi)
  rwa [← List.range_eq_range'] at this

/-! ### the reference's -/
theorem getD_set' (l : List Bool) (i j : Nat) (x : Bool) (hi : i < l.length) : (l.set i x).getD j false = if i = j then x else l.getD j false := by
  simp only [List.getD, List.getElem?_set]
  by_cases hij : i = j
  · subst hij; simp [hi]
  · simp [hij]
theorem fold_set (f : Nat → Bool) : ∀ (n m : Nat) (v : List Bool), v.length = 1440 → m + n ≤ 1440 → (∀ i, i < 1440 → v.getD i false = f i) → (((List.range' m n).foldl (fun (s : List Bool) j => s.set j true) v).length = 1440 ∧ ∀ i, i < 1440 → ((List.range' m n).foldl (fun (s : List Bool) j => s.set j true) v).getD i false = (f i || (decide (m ≤ i) && decide (i < m + n))))
  | 0, m, v, hl, _, hf => by
    refine ⟨hl, fun i hi => ?_⟩
    have : (decide (m ≤ i) && decide (i < m + 0)) = false := by simp
    rw [this]; simpa using hf i hi
  | n + 1, m, v, hl, hm, hf => by
    rw [List.range'_succ, List.foldl_cons]
    obtain ⟨k1, k2⟩ := fold_set (fun i => if m = i then true else f i) n (m + 1) (v.set m true) (by simpa using hl) (by omega) (fun i hi => by rw [getD_set' _ _ _ _ (by omega), hf i hi])
    refine ⟨k1, fun i hi => ?_⟩
    rw [k2 i hi]
    by_cases hmi : m = i
    · subst hmi; simp
    · rw [if_neg hmi]
      congr 1
      have e1 : decide (m + 1 ≤ i) = decide (m ≤ i) := by apply decide_eq_decide.2; omega
      have e2 : decide (i < m + 1 + n) = decide (i < m + (n + 1)) := by apply decide_eq_decide.2; omega
      rw [e1, e2]
theorem idx_get {α : Type} {l : List α} {j : Nat} (h : j < l.length) : idx l (j : Int) = .ok l[j] := idx_nat (List.getElem?_eq_getElem h)
theorem ref_b2 (a : Span) (v : List Bool) (f : Nat → Bool) (hl : v.length = 1440) (hf : ∀ i, i < 1440 → v.getD i false = f i) : ∃ v', ref05_Minutes_b2 a v = .ok v' ∧ v'.length = 1440 ∧ ∀ i, i < 1440 → v'.getD i false = (f i || inS a i) := by
  unfold ref05_Minutes_b2
  rw [lo_eq]
  have hlt : hi a ≤ 1440 := by unfold hi; split <;> omega
  have := loop_up (b := un2 fun m out1 => ref05_Minutes_b1 a m out1) (hi := hi a) (g := fun j (v : List Bool) => v.set j true) (I := fun v => v.length = 1440) (fun m s hs _ => by simpa using hs)
    (fun m s hs hm => by
      show ref05_Minutes_b1 a m s = _
      unfold ref05_Minutes_b1
      have hm' : (m : Int) < (if 1440 < a.To then 1440 else a.To) := hm
      rw [if_pos hm', idx_get (by omega), R.ok_bind, wrapN (by omega)]
      simp)
    (fun m s _ hm => by
      show ref05_Minutes_b1 a m s = _
      unfold ref05_Minutes_b1
      have hm' : ¬ (m : Int) < (if 1440 < a.To then 1440 else a.To) := by have : hi a ≤ (m : Int) := hm; unfold hi at this; omega
      rw [if_neg hm'])
    _ (lo a) v hl rfl
  rw [this]
  by_cases hc : (hi a - (lo a : Int)).toNat = 0
  · rw [hc]
    refine ⟨v, rfl, hl, fun i hi' => ?_⟩
    rw [← inS_lo a i hi', hc]
    have : (decide (lo a ≤ i) && decide (i < lo a + 0)) = false := by rw [Bool.eq_false_iff]; simp
    rw [this]; simpa using hf i hi'
  · obtain ⟨k1, k2⟩ := fold_set f (hi a - (lo a : Int)).toNat (lo a) v hl (by omega) hf
    exact ⟨_, rfl, k1, fun i hi' => by rw [k2 i hi', inS_lo a i hi']⟩
theorem toList_tab' {v : List Bool} {f : Nat → Bool} (hl : v.length = 1440) (h : ∀ i, i < 1440 → v.getD i false = f i) : v = (List.range 1440).map f := by
  apply List.ext_getElem?
  intro i
  by_cases hi : i < 1440
  · have h1 := h i hi
    have hl' : i < v.length := by omega
    rw [List.getD_eq_getElem?_getD, List.getElem?_eq_getElem hl', Option.getD_some] at h1
    rw [List.getElem?_eq_getElem hl', h1]
    simp [hi]
  · rw [List.getElem?_eq_none (by omega), List.getElem?_eq_none (by simpa using hi)]
theorem ref_minutes (l : List Span) : ref05_Minutes l = .ok ((List.range 1440).map (cov l)) := by
  have key : ∀ (l : List Span) (k : Nat) (v : List Bool) (f : Nat → Bool), v.length = 1440 → (∀ i, i < 1440 → v.getD i false = f i) → ∃ v', eachS (fun _ a => fun out => ref05_Minutes_b2 a out) k l v = .ok v' ∧ v'.length = 1440 ∧ ∀ i, i < 1440 → v'.getD i false = (f i || cov l i) := by
    intro l
    induction l with
    | nil => intro k v f hl hf; exact ⟨v, rfl, hl, fun i hi => by simpa [cov] using hf i hi⟩
    | cons a l ih =>
      intro k v f hl hf
      obtain ⟨v', h1, h1', h2⟩ := ref_b2 a v f hl hf
      obtain ⟨v2, h3, h3', h4⟩ := ih (k + 1) v' _ h1' h2
      refine ⟨v2, by rw [eachS_cons', h1, R.ok_bind, h3], h3', fun i hi => ?_⟩
      rw [h4 i hi]
      simp [cov, Bool.or_assoc]
  unfold ref05_Minutes
  rw [if_pos (by refine ⟨by omega, by omega, ?_⟩; decide)]
  obtain ⟨v, h1, h1', h2⟩ := key l 0 (List.replicate (Int.toNat 1440) false) (fun _ => false) List.length_replicate (fun i hi => rep_get' _ _)
  rw [h1]
  show R.ok v = _
  rw [toList_tab' (f := cov l) h1' (fun i hi => by rw [h2 i hi, Bool.false_or])]
end Go.Am
