/- Chapter 26, plain: the order of statuses, Check, Works. -/
import Derived.Test.YtplndonhhfflhaaRdG
import Derived.Test.YtplndonhhfflhaaPlBase
namespace Go.Am
open Go
set_option linter.unusedVariables false
set_option linter.unusedSimpArgs false
set_option maxRecDepth 100000

def ltS (a b : Status) : Bool := (decide (a.Station < b.Station)) || ((a.Station == b.Station) && (decide (a.From < b.From)))
theorem ltS_iff {a b : Status} : ltS a b = true ↔ a.Station < b.Station ∨ (a.Station = b.Station ∧ a.From < b.From) := by
  unfold ltS; simp
theorem ltS_trans {a b c : Status} (h1 : ltS a b = true) (h2 : ltS b c = true) : ltS a c = true := by
  rw [ltS_iff] at *; omega
theorem ltS_irrefl (a : Status) : ltS a a = false := by
  cases h : ltS a a with
  | false => rfl
  | true => rw [ltS_iff] at h; omega
theorem ltS_asymm {a b : Status} (h1 : ltS a b = true) : ltS b a = false := by
  cases h : ltS b a with
  | false => rfl
  | true => rw [ltS_iff] at *; omega
def cmpS (a b : Status) : Int := if ltS a b then -1 else if ltS b a then 1 else 0
theorem cmpI (a b : Int) : cmp_Compare_int a b = .ok (if a < b then -1 else if b < a then 1 else 0) := by
  unfold cmp_Compare_int cmp_isNaN_int
  simp only [R.ok_bind, bne_self_eq_false, Bool.false_eq_true, if_false]
  split
  · rfl
  · simp only [gt_iff_lt]; split <;> rfl
theorem order_eq (a b : Status) : radar_order a b = .ok (cmpS a b) := by
  unfold radar_order radar_status_compare
  simp only [cmpI, R.ok_bind, cmp_Or_int, each_cons, each_nil, cmp_Or_int_b1]
  have e : cmpS a b = if a.Station < b.Station then -1 else if b.Station < a.Station then 1 else if a.From < b.From then -1 else if b.From < a.From then 1 else 0 := by
    unfold cmpS
    by_cases h1 : a.Station < b.Station
    · rw [if_pos h1, if_pos (ltS_iff.2 (.inl h1))]
    · rw [if_neg h1]
      by_cases h2 : b.Station < a.Station
      · rw [if_pos h2, if_neg (by rw [ltS_iff]; omega), if_pos (ltS_iff.2 (.inl h2))]
      · rw [if_neg h2]
        by_cases h3 : a.From < b.From
        · rw [if_pos h3, if_pos (ltS_iff.2 (by omega))]
        · rw [if_neg h3, if_neg (by rw [ltS_iff]; omega)]
          by_cases h4 : b.From < a.From
          · rw [if_pos h4, if_pos (ltS_iff.2 (by omega))]
          · rw [if_neg h4, if_neg (by rw [ltS_iff]; omega)]
  rw [e]
  by_cases h1 : a.Station < b.Station
  · simp [h1]
  · by_cases h2 : b.Station < a.Station
    · simp [h1, h2]
    · by_cases h3 : a.From < b.From
      · simp [h1, h2, h3]
      · by_cases h4 : b.From < a.From
        · simp [h1, h2, h3, h4]
        · simp [h1, h2, h3, h4]
theorem before_eq (a b : Status) : ref26_before a b = .ok (ltS a b) := rfl
theorem cmpS_ge {a b : Status} : decide (cmpS a b ≥ 0) = !ltS a b := by
  unfold cmpS
  cases h : ltS a b with
  | true => simp
  | false =>
    simp only [Bool.false_eq_true, if_false]
    split <;> simp

def okS (many : Int) (s : Status) : Bool := (decide (0 ≤ s.Station) && decide (s.Station < many)) && (decide (0 ≤ s.From) && decide (s.From < 1440))
theorem okS_iff {many : Int} {s : Status} : okS many s = true ↔ (0 ≤ s.Station ∧ s.Station < many) ∧ 0 ≤ s.From ∧ s.From < 1440 := by
  unfold okS; simp
def prevOk : Option Status → Status → Bool
  | none, _ => true
  | some q, a => ltS q a
def chkGo (many : Int) : Option Status → List Status → Bool
  | _, [] => true
  | p, a :: r => okS many a && prevOk p a && chkGo many (some a) r
def valid (many : Int) (l : List Status) : Bool := (decide (0 ≤ many) && decide (many ≤ 4)) && chkGo many none l
def chk (many : Int) (l : List Status) : Int := if valid many l then 0 else 260

theorem in_ok {many : Int} (h0 : 0 ≤ many) (h4 : many ≤ 4) (a : Status) : (decide (a.Station ≥ 0) && decide (a.Station ≤ IntKind.wrap .i64 (many - 1))) = (decide (0 ≤ a.Station) && decide (a.Station < many)) := by
  rw [wrap64 (by omega) (by omega)]
  congr 1
  apply decide_eq_decide.2; omega
theorem in_from (a : Status) : (decide (a.From ≥ 0) && decide (a.From ≤ 1439)) = (decide (0 ≤ a.From) && decide (a.From < 1440)) := by
  congr 1
  apply decide_eq_decide.2; omega

theorem chk_each {many : Int} (h0 : 0 ≤ many) (h4 : many ≤ 4) (l : List Status) (hl : l.length ≤ 1048576) : ∀ (r : List Status) (k : Nat) (p : Option Status), k + r.length = l.length → (∀ j, r[j]? = l[k + j]?) → (p = if k = 0 then none else l[k - 1]?) →
    each (fun j a => fun _ => radar_Check_b1 many l j a) k r () = .ok (if chkGo many p r then .inl () else .inr 260) ∧
    each (fun j a => fun _ => ref26_Check_b1 many l j a) k r () = .ok (if chkGo many p r then .inl () else .inr 260)
  | [], k, p, _, _, _ => ⟨rfl, rfl⟩
  | a :: r, k, p, hk, hr, hp => by
    simp only [List.length_cons] at hk
    have ih := chk_each h0 h4 l hl r (k + 1) (some a) (by omega) (fun j => by have := hr (j + 1); rw [List.getElem?_cons_succ] at this; rw [this]; congr 1; omega) (by rw [if_neg (by omega)]; have := hr 0; simpa using this)
    have hstep : radar_Check_b1 many l k a = .ok (if okS many a && prevOk p a then .inl () else .inr 260) ∧ ref26_Check_b1 many l k a = .ok (if okS many a && prevOk p a then .inl () else .inr 260) := by
      unfold radar_Check_b1 ref26_Check_b1 radar_in ref26_in radar_Check_j1 ref26_Check_j1
      simp only [R.ok_bind, in_ok h0 h4, in_from, order_eq, before_eq]
      unfold okS
      cases h1 : (decide (0 ≤ a.Station) && decide (a.Station < many)) with
      | false => simp
      | true =>
        cases h2 : (decide (0 ≤ a.From) && decide (a.From < 1440)) with
        | false => simp
        | true =>
          by_cases hk0 : k = 0
          · subst hk0
            rw [if_pos rfl] at hp; subst hp
            simp [prevOk]
          · rw [if_neg hk0] at hp
            obtain ⟨q, hq⟩ : ∃ q, l[k - 1]? = some q := ⟨_, List.getElem?_eq_getElem (by omega)⟩
            have hi : idx l (IntKind.wrap .i64 ((k : Int) - 1)) = .ok q := by
              rw [wrap64 (by omega) (by omega), show (k : Int) - 1 = ((k - 1 : Nat) : Int) by omega]
              exact idx_nat hq
            subst hp
            rw [hq, hi]
            have hk1 : decide ((k : Int) > 0) = true := by simp; omega
            rw [hk1]
            simp only [R.ok_bind, cmpS_ge, prevOk, if_true, Bool.true_and, Bool.not_true, Bool.false_eq_true, if_false]
            cases ltS q a <;> simp
    constructor
    · rw [each_cons, hstep.1, R.ok_bind]
      unfold chkGo
      cases hc : okS many a && prevOk p a with
      | true => simp only [if_true, Bool.true_and]; exact ih.1
      | false => simp
    · rw [each_cons, hstep.2, R.ok_bind]
      unfold chkGo
      cases hc : okS many a && prevOk p a with
      | true => simp only [if_true, Bool.true_and]; exact ih.2
      | false => simp
theorem Check_eq (many : Int) (l : List Status) (hl : l.length ≤ 1048576) : radar_Check many l = .ok (chk many l) ∧ ref26_Check many l = .ok (chk many l) := by
  unfold radar_Check ref26_Check radar_in ref26_in
  simp only [R.ok_bind]
  by_cases h : 0 ≤ many ∧ many ≤ 4
  · have e : (decide (many ≥ 0) && decide (many ≤ 4)) = true := by simp; omega
    obtain ⟨h1, h2⟩ := chk_each h.1 h.2 l hl l 0 none (by simp) (fun j => by simp) (by simp)
    rw [e, if_pos rfl, if_pos rfl, h1, h2]
    have e2 : chk many l = if chkGo many none l then 0 else 260 := by
      unfold chk valid
      have : (decide (0 ≤ many) && decide (many ≤ 4)) = true := by simp; omega
      rw [this, Bool.true_and]
    rw [e2]
    cases chkGo many none l <;> exact ⟨rfl, rfl⟩
  · have e : (decide (many ≥ 0) && decide (many ≤ 4)) = false := by
      cases hq : (decide (many ≥ 0) && decide (many ≤ 4)) with
      | false => rfl
      | true => simp at hq; omega
    rw [e]
    have e2 : chk many l = 260 := by
      unfold chk valid
      have : (decide (0 ≤ many) && decide (many ≤ 4)) = false := e
      rw [this]; rfl
    rw [e2]
    exact ⟨rfl, rfl⟩

/-! ### Valid lists -/
theorem chkGo_iff {many : Int} : ∀ {l : List Status} {p : Option Status}, chkGo many p l = true ↔ (∀ x ∈ l, okS many x = true) ∧ l.Pairwise (fun a b => ltS a b = true) ∧ (∀ q, p = some q → ∀ x ∈ l, ltS q x = true)
  | [], p => by simp [chkGo]
  | a :: r, p => by
    unfold chkGo
    simp only [Bool.and_eq_true, chkGo_iff (l := r), List.mem_cons, forall_eq_or_imp, List.pairwise_cons, Option.some.injEq, forall_eq']
    constructor
    · rintro ⟨⟨h1, h2⟩, h3, h4, h5⟩
      refine ⟨⟨h1, h3⟩, ⟨h5, h4⟩, ?_⟩
      rintro q rfl
      exact ⟨h2, fun x hx => ltS_trans h2 (h5 x hx)⟩
    · rintro ⟨⟨h1, h2⟩, ⟨h3, h4⟩, h5⟩
      refine ⟨⟨h1, ?_⟩, h2, h4, h3⟩
      cases p with
      | none => rfl
      | some q => exact (h5 q rfl).1
theorem valid_iff {many : Int} {l : List Status} : valid many l = true ↔ (0 ≤ many ∧ many ≤ 4) ∧ (∀ x ∈ l, okS many x = true) ∧ l.Pairwise (fun a b => ltS a b = true) := by
  unfold valid
  rw [Bool.and_eq_true, chkGo_iff]
  simp
theorem chk_zero {many : Int} {l : List Status} : chk many l = 0 ↔ valid many l = true := by
  unfold chk
  cases valid many l <;> simp
theorem chk_bne {many : Int} {l : List Status} : (chk many l != 0) = !valid many l := by
  unfold chk
  cases valid many l <;> rfl
/-- Sorted lists with the same members are the same. -/
theorem sorted_ext : ∀ {a b : List Status}, a.Pairwise (fun a b => ltS a b = true) → b.Pairwise (fun a b => ltS a b = true) → (∀ x, x ∈ a ↔ x ∈ b) → a = b
  | [], [], _, _, _ => rfl
  | [], y :: b, _, _, h => by have := (h y).2 List.mem_cons_self; cases this
  | x :: a, [], _, _, h => by have := (h x).1 List.mem_cons_self; cases this
  | x :: a, y :: b, ha, hb, h => by
    rw [List.pairwise_cons] at ha hb
    have hxy : x = y := by
      rcases List.mem_cons.1 ((h x).1 List.mem_cons_self) with e | h1
      · exact e
      · rcases List.mem_cons.1 ((h y).2 List.mem_cons_self) with e | h2
        · exact e.symm
        · have := ltS_asymm (ha.1 y h2)
          rw [hb.1 x h1] at this; cases this
    subst hxy
    congr 1
    refine sorted_ext ha.2 hb.2 fun z => ?_
    have hz := h z
    simp only [List.mem_cons] at hz
    constructor
    · intro hm
      rcases hz.1 (.inr hm) with e | e
      · subst e; have := ha.1 z hm; rw [ltS_irrefl] at this; cases this
      · exact e
    · intro hm
      rcases hz.2 (.inr hm) with e | e
      · subst e; have := hb.1 z hm; rw [ltS_irrefl] at this; cases this
      · exact e

/-! ### Works -/
def wStep (station minute : Int) (a : Status) (t : Bool × Int × Bool) : Bool × Int × Bool :=
  if (((a.Station == station) && (decide (a.From ≤ minute))) && ((!t.2.2) || (decide (a.From ≥ t.2.1)))) then (a.Works, a.From, true) else t
def worksL (l : List Status) (station minute : Int) : Bool := (l.foldl (fun t a => wStep station minute a t) (true, 0, false)).1
theorem works_fold (station minute : Int) : ∀ (l : List Status) (k : Nat) (t : Bool × Int × Bool), eachS (fun _ a => un3 fun ok vfrom met => radar_Works_b1 station minute a ok vfrom met) k l t = .ok (l.foldl (fun t a => wStep station minute a t) t)
  | [], k, t => rfl
  | a :: l, k, t => by
    rw [eachS_cons']
    have : (un3 fun ok vfrom met => radar_Works_b1 station minute a ok vfrom met) t = .ok (wStep station minute a t) := by
      obtain ⟨ok, vf, met⟩ := t
      show radar_Works_b1 station minute a ok vf met = _
      unfold radar_Works_b1 wStep
      split <;> rfl
    rw [this, R.ok_bind, works_fold station minute l (k + 1)]
    rfl
theorem Works_eq (l : List Status) (station minute : Int) : radar_Works l station minute = .ok (worksL l station minute) := by
  unfold radar_Works
  rw [works_fold, R.ok_bind]
  rfl
/-- What Works says: of the statuses that count, one with the greatest minute. -/
def WV (l : List Status) (station minute : Int) (v : Bool) : Prop :=
  (∃ x ∈ l, x.Station = station ∧ x.From ≤ minute ∧ x.Works = v ∧ ∀ y ∈ l, y.Station = station → y.From ≤ minute → y.From ≤ x.From) ∨ ((∀ y ∈ l, y.Station = station → ¬ y.From ≤ minute) ∧ v = true)
theorem works_inv (station minute : Int) : ∀ (l pre : List Status) (t : Bool × Int × Bool),
    ((t.2.2 = true ∧ ∃ x ∈ pre, x.Station = station ∧ x.From ≤ minute ∧ x.Works = t.1 ∧ x.From = t.2.1 ∧ ∀ y ∈ pre, y.Station = station → y.From ≤ minute → y.From ≤ x.From) ∨ (t.2.2 = false ∧ t.1 = true ∧ ∀ y ∈ pre, y.Station = station → ¬ y.From ≤ minute)) →
    WV (pre ++ l) station minute (l.foldl (fun t a => wStep station minute a t) t).1
  | [], pre, t, h => by
    rw [List.append_nil]
    rcases h with ⟨_, x, h1, h2, h3, h4, _, h5⟩ | ⟨_, h1, h2⟩
    · exact .inl ⟨x, h1, h2, h3, h4, h5⟩
    · exact .inr ⟨h2, h1⟩
  | a :: l, pre, t, h => by
    have e : pre ++ a :: l = (pre ++ [a]) ++ l := by simp
    rw [e, List.foldl_cons]
    refine works_inv station minute l (pre ++ [a]) _ ?_
    unfold wStep
    split
    · rename_i hc
      simp only [Bool.and_eq_true, beq_iff_eq, decide_eq_true_eq, Bool.or_eq_true, Bool.not_eq_true'] at hc
      refine .inl ⟨rfl, a, by simp, hc.1.1, hc.1.2, rfl, rfl, fun y hy h1 h2 => ?_⟩
      rcases List.mem_append.1 hy with hy | hy
      · rcases h with ⟨hm, x, g1, g2, g3, g4, g5, g6⟩ | ⟨hm, g1, g2⟩
        · rcases hc.2 with hc2 | hc2
          · rw [hm] at hc2; cases hc2
          · have := g6 y hy h1 h2; omega
        · exact absurd h2 (g2 y hy h1)
      · simp at hy; subst hy; omega
    · rename_i hc
      simp only [Bool.and_eq_true, beq_iff_eq, decide_eq_true_eq, Bool.or_eq_true, Bool.not_eq_true', not_and, not_or] at hc
      rcases h with ⟨hm, x, g1, g2, g3, g4, g5, g6⟩ | ⟨hm, g1, g2⟩
      · refine .inl ⟨hm, x, by simp [g1], g2, g3, g4, g5, fun y hy h1 h2 => ?_⟩
        rcases List.mem_append.1 hy with hy | hy
        · exact g6 y hy h1 h2
        · simp at hy; subst hy
          have := (hc ⟨h1, h2⟩).2; omega
      · refine .inr ⟨hm, g1, fun y hy h1 h2 => ?_⟩
        rcases List.mem_append.1 hy with hy | hy
        · exact g2 y hy h1 h2
        · simp at hy; subst hy
          exact (hc ⟨h1, h2⟩).1 hm
theorem works_WV (l : List Status) (station minute : Int) : WV l station minute (worksL l station minute) :=
  works_inv station minute l [] _ (.inr ⟨rfl, rfl, fun y hy => by cases hy⟩)
/-- Keys are unique in a sorted list. -/
theorem sorted_key {l : List Status} (h : l.Pairwise (fun a b => ltS a b = true)) {x y : Status} (hx : x ∈ l) (hy : y ∈ l) (h1 : x.Station = y.Station) (h2 : x.From = y.From) : x = y := by
  induction l with
  | nil => cases hx
  | cons a l ih =>
    rw [List.pairwise_cons] at h
    rcases List.mem_cons.1 hx with rfl | hx'
    · rcases List.mem_cons.1 hy with rfl | hy'
      · rfl
      · have := h.1 y hy'; rw [ltS_iff] at this; omega
    · rcases List.mem_cons.1 hy with rfl | hy'
      · have := h.1 x hx'; rw [ltS_iff] at this; omega
      · exact ih h.2 hx' hy'
theorem WV_unique {l : List Status} (hs : l.Pairwise (fun a b => ltS a b = true)) {station minute : Int} {v v' : Bool} (h : WV l station minute v) (h' : WV l station minute v') : v = v' := by
  rcases h with ⟨x, h1, h2, h3, h4, h5⟩ | ⟨h1, h2⟩
  · rcases h' with ⟨y, g1, g2, g3, g4, g5⟩ | ⟨g1, g2⟩
    · have := sorted_key hs h1 g1 (by omega) (by have := h5 y g1 g2 g3; have := g5 x h1 h2 h3; omega)
      subst this; rw [← h4, ← g4]
    · exact absurd h3 (g1 x h1 h2)
  · rcases h' with ⟨y, g1, g2, g3, g4, g5⟩ | ⟨g1, g2⟩
    · exact absurd g3 (h1 y g1 g2)
    · rw [h2, g2]
/-- It hangs on what counts alone. -/
theorem works_congr (station m m' : Int) : ∀ (l : List Status) (t : Bool × Int × Bool), (∀ x ∈ l, x.From ≤ m ↔ x.From ≤ m') → l.foldl (fun t a => wStep station m a t) t = l.foldl (fun t a => wStep station m' a t) t
  | [], t, _ => rfl
  | a :: l, t, h => by
    rw [List.foldl_cons, List.foldl_cons]
    have e : wStep station m a t = wStep station m' a t := by
      unfold wStep
      have : decide (a.From ≤ m) = decide (a.From ≤ m') := by apply decide_eq_decide.2; exact h a List.mem_cons_self
      rw [this]
    rw [e]
    exact works_congr station m m' l _ fun x hx => h x (List.mem_cons_of_mem _ hx)
end Go.Am
