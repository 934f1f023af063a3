/- Chapter 11, plain: four laws. -/
import Derived.Test.YtjmofjoifnhloaaOpP4
namespace Go.Am
open Go
set_option linter.unusedVariables false
set_option linter.unusedSimpArgs false
set_option maxRecDepth 100000

theorem small_of {a : Airspace} (h : tAirspace.bulk a ≤ 1048576) : Small a := by
  have hb : ((tSl 2 tVolume).bulk a.Volumes + ((tSl 5 tSector).bulk a.Sectors + ((tSl 3 tConfig).bulk a.Configs + ((tSl 5 tSegment).bulk a.Segments + ((tSl 7 tRoute).bulk a.Routes + ((tSl 2 tAirport).bulk a.Airports + ((tSl 4 tClass).bulk a.Classes + ((tSl 8 tRule).bulk a.Rules + (0))))))))) + 1 ≤ 1048576 := h
  have h1 := tSl_len (st := 2) (T := tVolume) (fun a => Nat.le_add_left _ _) a.Volumes
  have h2 := tSl_len (st := 5) (T := tSegment) (fun a => Nat.le_add_left _ _) a.Segments
  have h3 := tSl_len (st := 7) (T := tRoute) (fun a => Nat.le_add_left _ _) a.Routes
  refine ⟨by omega, by omega, by omega, fun r hr => ?_⟩
  have h4 := tSl_mem (st := 7) (T := tRoute) hr
  have h5 : (tStr.bulk r.Name + (tStr.bulk r.A + (tStr.bulk r.B + ((tInt .i64).bulk r.From + ((tInt .i64).bulk r.To + ((tSl 1 tStr).bulk r.Names + ((tSl 1 (tInt .i64)).bulk r.Segments + (0)))))))) + 1 = tRoute.bulk r := rfl
  have h6 := tSl_len (st := 1) (T := tInt .i64) (fun n => tInt_one n) r.Segments
  omega
theorem few_some (a : Airspace) : ∃ b, ref11_Few a = .ok b := by
  have key : ∀ {α : Type} {body : Nat → α → Unit → R (Unit ⊕ Bool)} {K : R Bool} (l : List α), (∀ j x, ∃ p : Bool, body j x () = if p then .ok (.inr false) else .ok (.inl ())) → (∃ b, K = .ok b) → ∃ b, (each body 0 l ()).bind (alt (fun _ => K) (fun r => .ok r)) = .ok b := by
    intro α body K l hb hK
    have : ∀ (l : List α) (k : Nat), each body k l () = .ok (.inl ()) ∨ each body k l () = .ok (.inr false) := by
      intro l
      induction l with
      | nil => intro k; exact .inl rfl
      | cons x l ih =>
        intro k
        rw [each_cons]
        obtain ⟨p, hp⟩ := hb k x
        rw [hp]
        cases p
        · exact ih (k + 1)
        · exact .inr rfl
    rcases this l 0 with h | h
    · rw [h]; exact hK
    · rw [h]; exact ⟨false, rfl⟩
  have one : ∀ (p : Bool), ∃ q : Bool, (if p = true then (R.ok (Sum.inr false) : R (Unit ⊕ Bool)) else .ok (.inl ())) = if q = true then .ok (.inr false) else .ok (.inl ()) := fun p => ⟨p, rfl⟩
  have onep : ∀ (p : Prop) [Decidable p], ∃ q : Bool, (if p then (R.ok (Sum.inr false) : R (Unit ⊕ Bool)) else .ok (.inl ())) = if q = true then .ok (.inr false) else .ok (.inl ()) := fun p _ => ⟨decide p, by simp⟩
  unfold ref11_Few
  split
  · exact ⟨false, rfl⟩
  · refine key _ (fun _ _ => onep _) (key _ (fun _ _ => one _) (key _ (fun _ _ => one _) (key _ (fun _ _ => onep _) (key _ (fun _ _ => one _) (key _ (fun _ _ => onep _) ⟨true, rfl⟩)))))

theorem law_OpeningMinutesSpec : Law_OpeningMinutesSpec := by
  intro a n _ _ hb
  have hs := small_of (Nat.le_trans (Nat.le_add_right _ _) hb)
  unfold law11_OpeningMinutesSpec
  rw [sane_ok, R.ok_bind, if_pos rfl]
  obtain ⟨b, hf⟩ := few_some a
  rw [hf, R.ok_bind]
  cases b with
  | false => rfl
  | true =>
    rw [if_pos rfl, each_all _ 0 (fun j x h => by
      unfold law11_OpeningMinutesSpec_b1
      rw [op_Minutes, R.ok_bind, ref_Minutes, R.ok_bind, op_Legs _ _ hs, R.ok_bind, ref_Legs _ _ hs, R.ok_bind, same_spans, R.ok_bind, if_neg (by simp), same_legs]
      simp)]
    rfl
theorem law_OpeningPassableSpec : Law_OpeningPassableSpec := by
  intro a _ hb
  have hs := small_of hb
  unfold law11_OpeningPassableSpec
  rw [sane_ok, R.ok_bind, if_pos rfl]
  obtain ⟨b, hf⟩ := few_some a
  rw [hf, R.ok_bind]
  cases b with
  | false => rfl
  | true =>
    rw [if_pos rfl, op_Passable _ hs, R.ok_bind, ref_Passable _ hs, R.ok_bind, op_Blocked _ hs, R.ok_bind, ref_Blocked _ hs, R.ok_bind, same_ints, R.ok_bind, if_pos (by simp), same_ints]
    simp

/-! ### in and Has -/
def cov' (l : List Span) (m : Int) : Bool := l.any fun s => decide (s.From ≤ m) && decide (m < s.To)
theorem cov_cov' (l : List Span) (i : Nat) : cov l i = cov' l (i : Int) := rfl
theorem in_cov (l : List Span) (m : Int) : law11_in l m = .ok (cov' l m) := by
  unfold law11_in
  rw [each_any (p := fun s => decide (s.From ≤ m) && decide (m < s.To)) true l 0 (fun j s _ => rfl)]
  unfold cov'
  cases l.any fun s => decide (s.From ≤ m) && decide (m < s.To) <;> rfl
theorem has_cov (l : List Span) (m : Int) : hours_Has l m = .ok ((decide (m ≥ 0) && decide (m < 1440)) && cov' l m) := by
  unfold hours_Has
  cases decide (m ≥ 0) && decide (m < 1440) with
  | false => rfl
  | true =>
    simp only [if_true, Bool.true_and]
    have key : ∀ (l : List Span) (k : Nat), ∃ x, each (fun j a => fun _ => slices_IndexFunc_Span_c1_b1 m j a) k l () = .ok x ∧ (match x with | .inl _ => cov' l m = false | .inr i => cov' l m = true ∧ 0 ≤ i) := by
      intro l
      induction l with
      | nil => intro k; exact ⟨.inl (), rfl, rfl⟩
      | cons s l ih =>
        intro k
        rw [each_cons]
        unfold slices_IndexFunc_Span_c1_b1 hours_Has_c1
        rw [R.ok_bind]
        cases hc : decide (s.From ≤ m) && decide (m < s.To) with
        | true => exact ⟨.inr (k : Int), rfl, by simp [cov', hc], by omega⟩
        | false =>
          obtain ⟨x, h1, h2⟩ := ih (k + 1)
          refine ⟨x, h1, ?_⟩
          have : cov' (s :: l) m = cov' l m := by simp only [cov', List.any_cons, hc, Bool.false_or]
          rw [this]; exact h2
    obtain ⟨x, h1, h2⟩ := key l 0
    unfold slices_ContainsFunc_Span_c1 slices_IndexFunc_Span_c1
    rw [h1]
    cases x with
    | inl u => rw [h2]; rfl
    | inr i =>
      rw [h2.1]
      show R.ok (decide (i ≥ 0)) = _
      rw [decide_eq_true h2.2]
theorem law_OpeningClosed : Law_OpeningClosed := by
  intro a n m _ _ _ hb
  unfold law11_OpeningClosed
  rw [sane_ok, R.ok_bind, if_pos rfl]
  obtain ⟨b, hf⟩ := few_some a
  rw [hf, R.ok_bind]
  cases b with
  | false => rfl
  | true =>
    rw [if_pos rfl, op_Minutes, R.ok_bind]
    unfold mins
    cases hp : segOf a n with
    | none => rfl
    | some p =>
      obtain ⟨h0, h1, h2, h3⟩ := segOf_some hp
      have l1 := (List.getElem?_eq_some_iff.1 h1).1
      have l3 := (List.getElem?_eq_some_iff.1 h3).1
      show (if ((0 : Int) != 0) = true then _ else _) = _
      rw [if_neg (by simp), if_neg (by simp; omega), idx_some h0 h1, R.ok_bind, if_neg (by simp; omega)]
      rw [has_cov]
      have hm : (answer (Option.map minsOf (some p))).1 = minus (opn p.1) p.2.Closed := rfl
      rw [hm]
      cases hr : decide (m ≥ 0) && decide (m < 1440) with
      | false => rfl
      | true =>
        simp only [if_true, Bool.true_and]
        have hr' : 0 ≤ m ∧ m < 1440 := by simpa using hr
        obtain ⟨i, rfl⟩ : ∃ i : Nat, m = (i : Int) := ⟨m.toNat, by omega⟩
        have hc := minus_cov (opn p.1) p.2.Closed i
        rw [decide_eq_true (show i < 1440 by omega), Bool.true_and, cov_cov'] at hc
        rw [hc]
        have ho : (if ((p.1.Open.length : Int) == 0) = true then (R.ok true : R Bool) else (law11_in p.1.Open (i : Int)).bind fun r3 => R.ok r3) = .ok (cov (opn p.1) i) := by
          unfold opn
          by_cases h : p.1.Open.length = 0
          · rw [if_pos (by simpa using h), if_pos h]
            congr 1
            simp [cov, inS]; omega
          · rw [if_neg (by simpa using h), if_neg h, in_cov]; rfl
        rw [ho, R.ok_bind, R.ok_bind]
        cases hco : cov (opn p.1) i with
        | false => rfl
        | true =>
          simp only [if_true, Bool.true_and]
          rw [idx_some h2 h3, R.ok_bind, in_cov]
          simp [cov_cov']

/-! ### blocked routes -/
theorem has_mem (l : List Int) (n : Int) : law11_has l n = .ok (l.contains n) := by
  unfold law11_has
  rw [each_any (p := fun x => x == n) true l 0 (fun j x _ => rfl)]
  have : l.contains n = l.any fun x => x == n := by
    rw [List.contains_eq_any_beq]
    congr 1
    funext x
    rw [Bool.eq_iff_iff, beq_iff_eq, beq_iff_eq]
    exact eq_comm
  rw [this]
  cases l.any fun x => x == n <;> rfl
theorem blk_all (a : Airspace) : ∀ (rs : List Route) (k : Nat) (x l : List Int), blkGo a rs k x = some l → (∀ y ∈ x, y < (k : Int)) → ∀ j, j < rs.length → ∃ ls, legsOf a ((k + j : Nat) : Int) = some ls ∧ l.contains ((k + j : Nat) : Int) = isBlocked ls
  | [], k, x, l, _, _, j, hj => by simp at hj
  | rt :: rs, k, x, l, h, hx, j, hj => by
    unfold blkGo at h
    cases hl : legsOf a (k : Int) with
    | none => rw [hl] at h; cases h
    | some ls =>
      rw [hl] at h
      have mono : ∀ (rs : List Route) (k : Nat) (x l : List Int), blkGo a rs k x = some l → ∀ y : Int, y < (k : Int) → (y ∈ l ↔ y ∈ x) := by
        intro rs
        induction rs with
        | nil => intro k x l h y _; cases h; rfl
        | cons r rs ih =>
          intro k x l h y hy
          unfold blkGo at h
          split at h
          · cases h
          · rename_i ls' _
            rw [ih (k + 1) _ l h y (by omega)]
            split
            · rw [List.mem_append, List.mem_singleton]
              constructor
              · rintro (h | h)
                · exact h
                · omega
              · exact .inl
            · rfl
      cases j with
      | zero =>
        refine ⟨ls, hl, ?_⟩
        have := mono rs (k + 1) _ l h (k : Int) (by omega)
        rw [Nat.add_zero, Bool.eq_iff_iff, List.contains_iff_mem, this]
        have hk : (k : Int) ∉ x := fun hm => by have := hx _ hm; omega
        split
        · rename_i hb; simp [hb]
        · rename_i hb; exact ⟨fun h => absurd h hk, fun h => absurd h hb⟩
      | succ j =>
        have := blk_all a rs (k + 1) _ l h (fun y hy => by
          split at hy
          · rcases List.mem_append.1 hy with hy | hy
            · have := hx y hy; omega
            · simp at hy; omega
          · have := hx y hy; omega) j (by simpa using hj)
        rwa [show k + 1 + j = k + (j + 1) by omega] at this
theorem omap_get {α β : Type} {f : α → Option β} : ∀ {l : List α} {r : List β}, omap f l = some r → ∀ (j : Nat) (y : β), r[j]? = some y → ∃ x, l[j]? = some x ∧ f x = some y
  | [], r, h, j, y, hy => by cases h; simp at hy
  | x :: l, r, h, j, y, hy => by
    unfold omap at h
    split at h
    · rename_i y' r' hy' hr
      cases h
      cases j with
      | zero => simp at hy; subst hy; exact ⟨x, rfl, hy'⟩
      | succ j => simpa using omap_get hr j y (by simpa using hy)
    · cases h
theorem law_OpeningBlocked : Law_OpeningBlocked := by
  intro a _ hb
  have hs := small_of hb
  unfold law11_OpeningBlocked
  rw [sane_ok, R.ok_bind, if_pos rfl]
  obtain ⟨b, hf⟩ := few_some a
  rw [hf, R.ok_bind]
  cases b with
  | false => rfl
  | true =>
    rw [if_pos rfl, op_Blocked _ hs, R.ok_bind, op_Passable _ hs, R.ok_bind]
    cases hbl : blk a with
    | none => cases pass a <;> rfl
    | some bl =>
      cases hpa : pass a with
      | none => rfl
      | some pa =>
        show (if ((0 : Int) != 0 || (0 : Int) != 0) = true then _ else _) = _
        rw [if_neg (by simp), each_all a.Routes 0 (fun j rt hrt => ?_)]
        · rfl
        rw [Nat.zero_add]
        have hj : j < a.Routes.length := (List.getElem?_eq_some_iff.1 hrt).1
        obtain ⟨ls, hls, hcon⟩ := blk_all a a.Routes 0 [] bl hbl (fun y hy => by cases hy) j hj
        rw [Nat.zero_add] at hls hcon
        have hom : omap (legOf a) rt.Segments = some ls := by
          unfold legsOf at hls
          rw [if_pos (by omega), Int.toNat_natCast, hrt] at hls
          exact hls
        unfold law11_OpeningBlocked_b2
        rw [op_Legs _ _ hs, R.ok_bind, hls]
        show (if ((0 : Int) != 0 || ((ls.length : Int) != (rt.Segments.length : Int))) = true then _ else _) = _
        rw [if_neg (by rw [omap_len hom]; simp)]
        -- the legs one by one
        have key : ∀ (gs : List Leg) (k : Nat) (o : Bool), (∀ i g, gs[i]? = some g → ls[k + i]? = some g) → each (fun j1 a2 => fun x1 => law11_OpeningBlocked_b1 a (answer (some pa)) rt j1 a2 x1) k gs o = .ok (.inl (o || isBlocked gs)) := by
          intro gs
          induction gs with
          | nil => intro k o _; simp [isBlocked]
          | cons g gs ih =>
            intro k o hg
            rw [each_cons]
            have hg0 := hg 0 g rfl
            rw [Nat.add_zero] at hg0
            obtain ⟨n, hn, hng⟩ := omap_get hom k g hg0
            have hb1 : law11_OpeningBlocked_b1 a (answer (some pa)) rt k g o = .ok (.inl (o || ((g.Minutes.length : Int) == 0))) := by
              unfold legOf at hng
              cases hp : segOf a n with
              | none => rw [hp] at hng; cases hng
              | some p =>
                rw [hp] at hng
                simp only [Option.map_some, Option.some.injEq] at hng
                subst hng
                unfold law11_OpeningBlocked_b1
                rw [op_Minutes, R.ok_bind]
                have hm : mins a n = some (minsOf p) := by unfold mins; rw [hp]; rfl
                simp only [hm]
                show (if ((0 : Int) != 0) = true then _ else _) = _
                rw [if_neg (by simp), idx_nat hn, R.ok_bind, if_neg (by simp), show ref11_SameSpans (answer (some (minsOf p))).1 (minsOf p) = .ok true from same_spans _, R.ok_bind, if_neg (by simp)]
                have j1f : ∀ r5 : List Span × Int, law11_OpeningBlocked_j1 o r5 false = .ok (.inl (o || ((r5.1.length : Int) == 0))) := fun r5 => rfl
                by_cases hpos : ((minsOf p).length : Int) > 0
                · have hin : pa.contains p.1.Volume = true := by
                    obtain ⟨q0, q1, q2, q3⟩ := segOf_some hp
                    unfold pass at hpa
                    cases hv : volsGo a a.Segments 0 with
                    | none => rw [hv] at hpa; cases hpa
                    | some vs =>
                      rw [hv] at hpa
                      simp only [Option.map_some, Option.some.injEq] at hpa
                      obtain ⟨v1, v2⟩ := vols_in a a.Segments 0 vs (fun j s h => by simpa using h) hv
                      have hvin := v2 n.toNat p.1 (minsOf p) q1 (by rw [Nat.zero_add, Int.toNat_of_nonneg q0]; exact hm) hpos
                      rw [List.contains_iff_mem, ← hpa, mem_passL]
                      exact ⟨hvin, v1 _ hvin⟩
                  have e1 : decide (((answer (some (minsOf p))).1.length : Int) > 0) = true := decide_eq_true hpos
                  rw [e1, if_pos rfl, has_mem]
                  show (R.ok (pa.contains p.1.Volume)).bind _ = _
                  rw [hin]
                  exact j1f _
                · have e1 : decide (((answer (some (minsOf p))).1.length : Int) > 0) = false := decide_eq_false hpos
                  rw [e1, if_neg (by simp)]
                  exact j1f _
            rw [hb1]
            simp only [R.ok_bind]
            rw [ih (k + 1) _ (fun i g' h => by have := hg (i + 1) g' (by simpa using h); rwa [show k + 1 + i = k + (i + 1) by omega])]
            simp [isBlocked, Bool.or_assoc]
        have := key ls 0 false (fun i g h => by rwa [Nat.zero_add])
        show (each (fun j1 a2 => fun x1 => law11_OpeningBlocked_b1 a (answer (some pa)) rt j1 a2 x1) 0 ls false).bind _ = _
        rw [this, Bool.false_or, R.ok_bind]
        show (law11_has bl (j : Int)).bind _ = _
        rw [has_mem, hcon, R.ok_bind, if_pos (by simp)]
end Go.Am
