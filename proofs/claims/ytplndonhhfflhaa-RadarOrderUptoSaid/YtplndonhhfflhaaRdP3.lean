/- Chapter 26, plain: Seen. -/
import Derived.Test.YtplndonhhfflhaaRdP2
namespace Go.Am
open Go
set_option linter.unusedVariables false
set_option linter.unusedSimpArgs false
set_option maxRecDepth 100000

/-! ### A station -/
def stE (volumes : Int) (x : Station) : Int := match reports_Station volumes x with
  | .ok e => e
  | _ => 0
theorem idxf_some (k : Nat) : ∀ (s : List T74), ∃ r, each (fun j a => fun _ => slices_IndexFunc_limit_c1_b1 j a) k s () = .ok r
  | [] => ⟨_, rfl⟩
  | a :: s => by
    rw [each_cons]
    unfold slices_IndexFunc_limit_c1_b1 reports_within_c1
    simp only [R.ok_bind]
    split
    · exact ⟨_, rfl⟩
    · exact idxf_some (k + 1) s
theorem within_some (l : List T74) : ∃ b, reports_within l = .ok b := by
  unfold reports_within slices_ContainsFunc_limit_c1 slices_IndexFunc_limit_c1
  obtain ⟨r, hr⟩ := idxf_some 0 l
  rw [hr]
  cases r <;> exact ⟨_, rfl⟩
theorem st_loop (volumes : Int) : ∀ (vs : List Int) (k : Nat) (last : Int), ∃ r, each (fun _ a => fun last => reports_Station_b1 volumes a last) k vs last = .ok r ∧ ((∃ x, r = .inr x ∧ x = 220) ∨ (∃ y, r = .inl y) ∧ ∀ v ∈ vs, last < v ∧ v < volumes)
  | [], k, last => ⟨_, rfl, .inr ⟨⟨_, rfl⟩, fun v hv => by cases hv⟩⟩
  | a :: vs, k, last => by
    rw [each_cons]
    unfold reports_Station_b1
    split
    · exact ⟨_, rfl, .inl ⟨_, rfl, rfl⟩⟩
    · rename_i hc
      simp only [Bool.or_eq_true, decide_eq_true_eq, not_or] at hc
      obtain ⟨r, h1, h2⟩ := st_loop volumes vs (k + 1) a
      refine ⟨r, h1, ?_⟩
      rcases h2 with h2 | ⟨h2, h3⟩
      · exact .inl h2
      · refine .inr ⟨h2, fun v hv => ?_⟩
        rcases List.mem_cons.1 hv with rfl | hv
        · omega
        · have := h3 v hv; omega
theorem st_ex (volumes : Int) (x : Station) : ∃ e, reports_Station volumes x = .ok e ∧ (e = 0 → ∀ v ∈ x.Volumes, 0 ≤ v ∧ v < volumes) := by
  unfold reports_Station
  obtain ⟨b, hb⟩ := within_some [({ fN := volumes, fLeast := 1, fMost := 64 } : T74), ({ fN := x.Shift, fLeast := 0, fMost := 3 } : T74), ({ fN := x.Faults, fLeast := 0, fMost := 3 } : T74)]
  rw [hb, R.ok_bind]
  split
  · exact ⟨220, rfl, fun h => by cases h⟩
  · obtain ⟨r, h1, h2⟩ := st_loop volumes x.Volumes 0 (-1)
    rw [h1]
    rcases h2 with ⟨y, rfl, rfl⟩ | ⟨⟨y, rfl⟩, h3⟩
    · exact ⟨220, rfl, fun h => by cases h⟩
    · exact ⟨0, rfl, fun _ v hv => by have := h3 v hv; omega⟩
theorem st_eq (volumes : Int) (x : Station) : reports_Station volumes x = .ok (stE volumes x) := by
  obtain ⟨e, h, _⟩ := st_ex volumes x
  unfold stE; rw [h]
theorem st_in {volumes : Int} {x : Station} (h : stE volumes x = 0) : ∀ v ∈ x.Volumes, 0 ≤ v ∧ v < volumes := by
  obtain ⟨e, h1, h2⟩ := st_ex volumes x
  rw [st_eq] at h1
  cases h1
  exact h2 h

/-! ### The table -/
theorem set_range (n : Nat) (f : Nat → Bool) (i : Nat) : ((List.range n).map f).set i true = (List.range n).map fun j => if j = i then true else f j := by
  apply List.ext_getElem?
  intro k
  simp only [List.getElem?_set, List.length_map, List.length_range, List.getElem?_map]
  by_cases hk : k < n
  · simp only [List.getElem?_range hk, Option.map_some]
    by_cases h : i = k
    · subst h; simp [hk]
    · rw [if_neg h, if_neg (fun hh => h hh.symm)]
  · rw [List.getElem?_eq_none (by simpa using hk)]
    split
    · rename_i h; subst h; simp [hk]
    · rfl
theorem get_range {n : Nat} {f : Nat → Bool} {i : Nat} (h : i < n) : ((List.range n).map f)[i]? = some (f i) := by
  simp [List.getElem?_map, List.getElem?_range h]
theorem mark_one {n : Nat} {f : Nat → Bool} {v : Int} (h0 : 0 ≤ v) (h1 : v < (n : Int)) : radar_Seen_c1 v ((List.range n).map f) = .ok () := by
  unfold radar_Seen_c1
  have := idx_nat (get_range (f := f) (show v.toNat < n by omega))
  rw [show ((v.toNat : Nat) : Int) = v by omega] at this
  rw [this]; rfl
theorem mark_list (n : Nat) : ∀ (vs : List Int) (k : Nat) (f : Nat → Bool), (∀ v ∈ vs, 0 ≤ v ∧ v < (n : Int)) →
    eachS (fun _ a2 => fun l2 => radar_Seen_b2 a2 l2) k vs ((List.range n).map f) = .ok ((List.range n).map fun j => f j || decide ((j : Int) ∈ vs)) ∧
    eachS (fun _ a2 => fun l2 => radar_Seen_2_b2 a2 l2) k vs ((List.range n).map f) = .ok ((List.range n).map fun j => f j || decide ((j : Int) ∈ vs))
  | [], k, f, _ => by constructor <;> (show R.ok _ = _; simp)
  | v :: vs, k, f, h => by
    have hv := h v List.mem_cons_self
    have ih := mark_list n vs (k + 1) (fun j => if j = v.toNat then true else f j) fun x hx => h x (List.mem_cons_of_mem _ hx)
    have e : (fun j : Nat => (if j = v.toNat then true else f j) || decide ((j : Int) ∈ vs)) = fun j : Nat => f j || decide ((j : Int) ∈ v :: vs) := by
      funext j
      by_cases hj : j = v.toNat
      · have : (j : Int) = v := by omega
        rw [if_pos hj, this, Bool.true_or]; simp
      · have : ¬ (j : Int) = v := by omega
        simp [hj, this]
    rw [e] at ih
    constructor
    · rw [eachS_cons']
      unfold radar_Seen_b2
      rw [mark_one hv.1 hv.2, R.ok_bind, R.ok_bind, set_range]
      exact ih.1
    · rw [eachS_cons']
      unfold radar_Seen_2_b2
      rw [mark_one hv.1 hv.2, R.ok_bind, R.ok_bind, set_range]
      exact ih.2
def seesGo (l : List Status) (minute : Int) (v : Int) : Nat → List Station → Bool
  | _, [] => false
  | k, x :: r => (worksL l (k : Int) minute && decide (v ∈ x.Volumes)) || seesGo l minute v (k + 1) r
theorem seen_b3 (l : List Status) (minute : Int) (n : Nat) (x : Station) (k : Nat) (f : Nat → Bool) (h : ∀ v ∈ x.Volumes, 0 ≤ v ∧ v < (n : Int)) :
    radar_Seen_b3 l minute k x ((List.range n).map f) = .ok ((List.range n).map fun j => f j || (worksL l (k : Int) minute && decide ((j : Int) ∈ x.Volumes))) := by
  unfold radar_Seen_b3
  rw [Works_eq, R.ok_bind]
  cases worksL l (k : Int) minute with
  | true => rw [if_pos rfl, (mark_list n x.Volumes 0 f h).1, R.ok_bind]; simp
  | false => simp
theorem seen_go (l : List Status) (minute : Int) (n : Nat) : ∀ (s : List Station) (k : Nat) (f : Nat → Bool), (∀ x ∈ s, ∀ v ∈ x.Volumes, 0 ≤ v ∧ v < (n : Int)) →
    eachS (fun j1 a1 => fun l1 => radar_Seen_b3 l minute j1 a1 l1) k s ((List.range n).map f) = .ok ((List.range n).map fun j => f j || seesGo l minute (j : Int) k s)
  | [], k, f, _ => by show R.ok _ = _; simp [seesGo]
  | x :: s, k, f, h => by
    rw [eachS_cons', seen_b3 l minute n x k f (h x List.mem_cons_self), R.ok_bind, seen_go l minute n s (k + 1) _ fun y hy => h y (List.mem_cons_of_mem _ hy)]
    congr 2
    funext j
    rw [seesGo, Bool.or_assoc]
theorem seen_go2 (l : List Status) (minute : Int) (n : Nat) (S : List Station) : ∀ (s : List Station) (k : Nat) (f : Nat → Bool), (∀ x ∈ s, ∀ v ∈ x.Volumes, 0 ≤ v ∧ v < (n : Int)) → (∀ j x, s[j]? = some x → S[k + j]? = some x) →
    eachS (fun j1 _ => un2 fun x3 l2 => radar_Seen_2_b3 l minute j1 x3 l2) k s (S, (List.range n).map f) = .ok (S, (List.range n).map fun j => f j || seesGo l minute (j : Int) k s)
  | [], k, f, _, _ => by show R.ok _ = _; simp [seesGo]
  | x :: s, k, f, h, hS => by
    have hx : S[k]? = some x := by have := hS 0 x rfl; simpa using this
    have e : (un2 fun x3 l2 => radar_Seen_2_b3 l minute k x3 l2) (S, (List.range n).map f) = .ok (S, (List.range n).map fun j => f j || (worksL l (k : Int) minute && decide ((j : Int) ∈ x.Volumes))) := by
      show radar_Seen_2_b3 l minute k S _ = _
      unfold radar_Seen_2_b3
      rw [idx_nat hx, R.ok_bind, Works_eq, R.ok_bind]
      cases worksL l (k : Int) minute with
      | true => rw [if_pos rfl, (mark_list n x.Volumes 0 f (h x List.mem_cons_self)).2, R.ok_bind]; simp
      | false => simp
    rw [eachS_cons', e, R.ok_bind, seen_go2 l minute n S s (k + 1) _ (fun y hy => h y (List.mem_cons_of_mem _ hy)) (fun j y hj => by rw [show k + 1 + j = k + (j + 1) by omega]; exact hS (j + 1) y (by simpa using hj))]
    congr 3
    funext j
    rw [seesGo, Bool.or_assoc]

/-! ### Seen -/
def preOk (volumes : Int) (n : Nat) (minute : Int) : Bool := ((decide (volumes ≥ 1) && decide (volumes ≤ 64)) && !decide ((n : Int) > 4)) && (decide (minute ≥ 0) && decide (minute ≤ 1439))
def firstE (volumes : Int) : List Station → Int
  | [] => 0
  | x :: s => if stE volumes x != 0 then stE volumes x else firstE volumes s
def seenL (volumes : Int) (s : List Station) (l : List Status) (minute : Int) : List Bool := (List.range volumes.toNat).map fun j : Nat => seesGo l minute (j : Int) 0 s
def seenS (volumes : Int) (s : List Station) (l : List Status) (minute : Int) : List Bool × Int :=
  if preOk volumes s.length minute then (if firstE volumes s != 0 then ([], firstE volumes s) else if valid (s.length : Int) l then (seenL volumes s l minute, 0) else ([], 260)) else ([], 260)
theorem firstE_in {volumes : Int} : ∀ {s : List Station}, firstE volumes s = 0 → ∀ x ∈ s, stE volumes x = 0
  | [], _, x, hx => by cases hx
  | y :: s, h, x, hx => by
    unfold firstE at h
    cases hq : stE volumes y != 0 with
    | true => rw [hq, if_pos rfl] at h; rw [h] at hq; cases hq
    | false =>
      rw [hq] at h
      simp only [Bool.false_eq_true, if_false] at h
      rcases List.mem_cons.1 hx with rfl | hx
      · simpa using hq
      · exact firstE_in h x hx
theorem sts_each (volumes : Int) : ∀ (s : List Station) (k : Nat), each (fun _ a => fun _ => radar_Seen_b1 volumes a) k s () = .ok (if firstE volumes s != 0 then .inr ([], firstE volumes s) else .inl ())
  | [], k => rfl
  | x :: s, k => by
    rw [each_cons]
    unfold radar_Seen_b1
    rw [st_eq, R.ok_bind]
    unfold firstE
    cases hq : stE volumes x != 0 with
    | true => simp only [if_true, R.ok_bind, hq]
    | false =>
      simp only [Bool.false_eq_true, if_false, R.ok_bind]
      exact sts_each volumes s (k + 1)
theorem sts_each2 (volumes : Int) (S : List Station) : ∀ (s : List Station) (k : Nat), (∀ j x, s[j]? = some x → S[k + j]? = some x) → each (fun j _ => fun x1 => radar_Seen_2_b1 volumes j x1) k s S = .ok (if firstE volumes s != 0 then .inr (firstE volumes s, [], S) else .inl S)
  | [], k, _ => rfl
  | x :: s, k, hS => by
    have hx : S[k]? = some x := by have := hS 0 x rfl; simpa using this
    rw [each_cons]
    unfold radar_Seen_2_b1
    rw [idx_nat hx, R.ok_bind, st_eq, R.ok_bind]
    unfold firstE
    cases hq : stE volumes x != 0 with
    | true => simp only [if_true, R.ok_bind, hq]
    | false =>
      simp only [Bool.false_eq_true, if_false, R.ok_bind]
      exact sts_each2 volumes S s (k + 1) (fun j y hj => by rw [show k + 1 + j = k + (j + 1) by omega]; exact hS (j + 1) y (by simpa using hj))
theorem rep_range (n : Nat) : List.replicate n false = (List.range n).map fun _ => false := by
  rw [List.map_const', List.length_range]
theorem Seen_eq (volumes : Int) (s : List Station) (l : List Status) (minute : Int) (hl : l.length ≤ 1048570) : radar_Seen volumes s l minute = .ok (seenS volumes s l minute) := by
  unfold radar_Seen seenS preOk radar_in
  simp only [R.ok_bind]
  cases h1 : (decide (volumes ≥ 1) && decide (volumes ≤ 64)) with
  | false => simp
  | true =>
    cases h2 : decide ((s.length : Int) > 4) with
    | true => simp
    | false =>
      cases h3 : (decide (minute ≥ 0) && decide (minute ≤ 1439)) with
      | false => simp
      | true =>
        simp only [Bool.not_true, Bool.or_false, Bool.false_eq_true, if_false, R.ok_bind, Bool.not_false, Bool.and_true, Bool.true_and, if_true, Bool.or_self]
        rw [sts_each, R.ok_bind]
        cases hf : firstE volumes s != 0 with
        | true => rfl
        | false =>
          simp only [Bool.false_eq_true, if_false, alt, if_true]
          rw [(Check_eq _ l (by omega)).1, R.ok_bind, chk_bne]
          cases hv : valid (s.length : Int) l with
          | false => unfold chk; rw [hv]; rfl
          | true =>
            have hvol : 1 ≤ volumes ∧ volumes ≤ 64 := by simpa using h1
            have hin : ∀ x ∈ s, ∀ v ∈ x.Volumes, 0 ≤ v ∧ v < ((volumes.toNat : Nat) : Int) := fun x hx v hv => by
              have := st_in (firstE_in (by simpa using hf) x hx) v hv; omega
            simp only [Bool.not_true, Bool.false_eq_true, if_false]
            rw [if_pos ⟨by omega, by omega, by simp only [LIM]; omega⟩, rep_range, seen_go l minute volumes.toNat s 0 _ hin, R.ok_bind]
            simp [seenL]
theorem Seen2_eq (volumes : Int) (s : List Station) (l : List Status) (minute : Int) (hl : l.length ≤ 1048570) : radar_Seen_2 volumes l minute s = .ok ((seenS volumes s l minute).2, (seenS volumes s l minute).1, s) := by
  unfold radar_Seen_2 seenS preOk radar_in
  simp only [R.ok_bind]
  cases h1 : (decide (volumes ≥ 1) && decide (volumes ≤ 64)) with
  | false => simp
  | true =>
    cases h2 : decide ((s.length : Int) > 4) with
    | true => simp
    | false =>
      cases h3 : (decide (minute ≥ 0) && decide (minute ≤ 1439)) with
      | false => simp
      | true =>
        simp only [Bool.not_true, Bool.or_false, Bool.false_eq_true, if_false, R.ok_bind, Bool.not_false, Bool.and_true, Bool.true_and, if_true, Bool.or_self]
        rw [sts_each2 volumes s s 0 (fun j x h => by rwa [Nat.zero_add]), R.ok_bind]
        cases hf : firstE volumes s != 0 with
        | true => rfl
        | false =>
          simp only [Bool.false_eq_true, if_false, alt, if_true]
          rw [(Check_eq _ l (by omega)).1, R.ok_bind, chk_bne]
          cases hv : valid (s.length : Int) l with
          | false => unfold chk; rw [hv]; rfl
          | true =>
            have hvol : 1 ≤ volumes ∧ volumes ≤ 64 := by simpa using h1
            have hin : ∀ x ∈ s, ∀ v ∈ x.Volumes, 0 ≤ v ∧ v < ((volumes.toNat : Nat) : Int) := fun x hx v hv => by
              have := st_in (firstE_in (by simpa using hf) x hx) v hv; omega
            simp only [Bool.not_true, Bool.false_eq_true, if_false]
            rw [if_pos ⟨by omega, by omega, by simp only [LIM]; omega⟩, rep_range, seen_go2 l minute volumes.toNat s s 0 _ hin (fun j x h => by rwa [Nat.zero_add]), R.ok_bind]
            simp [seenL, un2]
end Go.Am
