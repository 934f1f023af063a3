/- Chapter 26, plain: the laws. -/
import Derived.Test.YtplndonhhfflhaaRdP4
namespace Go.Am
open Go
set_option linter.unusedVariables false
set_option linter.unusedSimpArgs false
set_option maxRecDepth 100000

/-! ### The examples -/
def s60 : Status := { Station := 0, From := 60, Works := false }
def s60w : Status := { Station := 0, From := 60, Works := true }
def s100 : Status := { Station := 0, From := 100, Works := true }
def st0 : Station := { Volumes := [0], Shift := 0, Faults := 0 }
theorem a1 : addS 1 [] s60 = ([s60], 0) := by decide +kernel
theorem a2 : addS 1 [s60] s100 = ([s60, s100], 0) := by decide +kernel
theorem a3 : addS 1 [s60, s100] s60w = ([s60w, s100], 0) := by decide +kernel
theorem n1 : seenS 2 [st0] [s60, s100] 59 = ([true, false], 0) := by decide +kernel
theorem n2 : seenS 2 [st0] [s60, s100] 60 = ([false, false], 0) := by decide +kernel
theorem n3 : seenS 1 [] [] 0 = ([false], 0) := by decide +kernel
theorem n4 : seenS 1 [st0] [] 1440 = ([], 260) := by decide +kernel
theorem c1 : chg [s60, s100] = [0, 60, 100, 1440] := ints_ext (chg_sorted _) (by decide) fun x => by
  rw [chg_mem]
  simp only [List.mem_cons, List.not_mem_nil, or_false, exists_eq_or_imp, exists_eq_left, s60, s100]
  omega
theorem c2 : chg [] = [0, 1440] := ints_ext (chg_sorted _) (by decide) fun x => by
  rw [chg_mem]
  simp only [List.mem_cons, List.not_mem_nil, or_false, false_and, exists_false, and_false]
theorem o1 : lostS 0 [st0] [s60, s100] = [{ From := 60, To := 100 }] := by
  unfold lostS; rw [c1]; decide +kernel
theorem o2 : lostS 0 [] [] = [{ From := 0, To := 1440 }] := by
  unfold lostS; rw [c2]; decide +kernel
theorem k1 : chk 0 [s60, s100] = 260 := by decide +kernel
theorem k2 : chk 1 [s60, s100] = 0 := by decide +kernel
theorem sane_ok : law26_sane = .ok true := by
  unfold law26_sane
  have e1 := Add_eq 1 [] s60 (by decide)
  have e2 := Add_eq 1 [s60] s100 (by decide)
  have e3 := Add_eq 1 [s60, s100] s60w (by decide)
  have e4 := Seen_eq 2 [st0] [s60, s100] 59 (by decide)
  have e5 := Seen_eq 2 [st0] [s60, s100] 60 (by decide)
  have e6 := Seen_eq 1 [] [] 0 (by decide)
  have e7 := Seen_eq 1 [st0] [] 1440 (by decide)
  have e8 := Lost_eq 0 [st0] [s60, s100] (by decide)
  have e9 := Lost_eq 0 [] [] (by decide)
  have e10 := (Check_eq 0 [s60, s100] (by decide)).1
  have e11 := (Check_eq 1 [s60, s100] (by decide)).1
  rw [a1] at e1; rw [a2] at e2; rw [a3] at e3; rw [n1] at e4; rw [n2] at e5; rw [n3] at e6; rw [n4] at e7; rw [o1] at e8; rw [o2] at e9; rw [k1] at e10; rw [k2] at e11
  change (radar_Add 1 [] s60).bind _ = _
  rw [e1, R.ok_bind]
  change (radar_Add 1 [s60] s100).bind _ = _
  rw [e2, R.ok_bind]
  change (radar_Add 1 [s60, s100] s60w).bind _ = _
  rw [e3, R.ok_bind]
  change (radar_Seen 2 [st0] [s60, s100] 59).bind _ = _
  rw [e4, R.ok_bind]
  change (radar_Seen 2 [st0] [s60, s100] 60).bind _ = _
  rw [e5, R.ok_bind, e6, R.ok_bind]
  change (radar_Seen 1 [st0] [] 1440).bind _ = _
  rw [e7, R.ok_bind]
  change (radar_Lost 0 [st0] [s60, s100]).bind _ = _
  rw [e8, R.ok_bind, e9, Works_eq, e10, e11]
  rfl

/-! ### Few, Same, Has -/
theorem few_eq (s : List Station) (l : List Status) : ∃ b, ref26_Few s l = .ok b ∧ (b = true → s.length ≤ 6 ∧ l.length ≤ 12) := by
  have key : ∀ (s : List Station) (k : Nat), each (fun _ a => fun _ => ref26_Few_b1 a) k s () = .ok (.inl ()) ∨ each (fun _ a => fun _ => ref26_Few_b1 a) k s () = .ok (.inr false) := by
    intro s
    induction s with
    | nil => exact fun k => .inl rfl
    | cons a s ih =>
      intro k
      rw [each_cons]
      unfold ref26_Few_b1
      split
      · exact .inr rfl
      · exact ih (k + 1)
  unfold ref26_Few
  rcases key s 0 with h | h
  · rw [h]
    exact ⟨_, rfl, fun hb => by simp at hb; omega⟩
  · rw [h]
    exact ⟨false, rfl, fun hb => by cases hb⟩
theorem same_refl (l : List Status) : ref26_Same l l = .ok true := by
  unfold ref26_Same
  have h : each (fun j a1 => fun _ => ref26_Same_b1 l j a1) 0 l () = .ok (.inl ()) := each_all l 0 fun j a ha => by
    unfold ref26_Same_b1
    rw [Nat.zero_add, idx_nat ha, R.ok_bind]
    simp
  rw [h]
  simp [alt]
theorem has_go (m : Int) : ∀ (s : List Span) (k : Nat), ∃ r, each (fun j a => fun _ => slices_IndexFunc_Span_c1_b1 m j a) k s () = .ok r ∧ ((∃ x : Int, r = .inr x ∧ x ≥ 0 ∧ covS s m = true) ∨ (r = .inl () ∧ covS s m = false))
  | [], k => ⟨_, rfl, .inr ⟨rfl, rfl⟩⟩
  | a :: s, k => by
    rw [each_cons]
    unfold slices_IndexFunc_Span_c1_b1 hours_Has_c1
    simp only [R.ok_bind]
    cases hc : decide (a.From ≤ m) && decide (m < a.To) with
    | true => exact ⟨.inr (k : Int), rfl, .inl ⟨_, rfl, by omega, by unfold covS inSp; rw [List.any_cons, hc]; rfl⟩⟩
    | false =>
      simp only [Bool.false_eq_true, if_false]
      obtain ⟨r, h1, h2⟩ := has_go m s (k + 1)
      refine ⟨r, h1, ?_⟩
      have e : covS (a :: s) m = covS s m := by unfold covS inSp; rw [List.any_cons, hc]; rfl
      rw [e]; exact h2
theorem Has_eq (l : List Span) (m : Int) (h0 : 0 ≤ m) (h1 : m < 1440) : hours_Has l m = .ok (covS l m) := by
  unfold hours_Has
  have : (decide (m ≥ 0) && decide (m < 1440)) = true := by simp; omega
  rw [this, if_pos rfl]
  unfold slices_ContainsFunc_Span_c1 slices_IndexFunc_Span_c1
  obtain ⟨r, h1, h2⟩ := has_go m l 0
  rw [h1]
  rcases h2 with ⟨x, rfl, hx, hm⟩ | ⟨rfl, hm⟩
  · rw [hm]; show R.ok (decide (x ≥ 0)) = _; rw [decide_eq_true hx]
  · rw [hm]; rfl

/-! ### What a status changes -/
theorem ins_WV {l : List Status} {s : Status} {st m : Int} {w : Bool} (h : WV (ins l s) st m w) :
    (w = s.Works ∧ s.Station = st ∧ s.From ≤ m ∧ ∀ y ∈ ins l s, y.Station = st → y.From ≤ m → y.From ≤ s.From) ∨ WV l st m w := by
  rcases h with ⟨x, h1, h2, h3, h4, h5⟩ | ⟨h1, h2⟩
  · rcases mem_ins.1 h1 with rfl | ⟨h6, h7⟩
    · exact .inl ⟨h4.symm, h2, h3, h5⟩
    · refine .inr (.inl ⟨x, h6, h2, h3, h4, fun y hy q1 q2 => ?_⟩)
      by_cases hk : y.Station = s.Station ∧ y.From = s.From
      · have := h5 s (mem_ins.2 (.inl rfl)) (by omega) (by omega); omega
      · exact h5 y (mem_ins.2 (.inr ⟨hy, hk⟩)) q1 q2
  · refine .inr (.inr ⟨fun y hy q1 q2 => ?_, h2⟩)
    by_cases hk : y.Station = s.Station ∧ y.From = s.From
    · exact h1 s (mem_ins.2 (.inl rfl)) (by omega) (by omega)
    · exact h1 y (mem_ins.2 (.inr ⟨hy, hk⟩)) q1 q2
theorem ins_works {l : List Status} {s : Status} (hs : Srt l) (st m : Int) : worksL (ins l s) st m = s.Works ∨ worksL (ins l s) st m = worksL l st m := by
  rcases ins_WV (works_WV (ins l s) st m) with h | h
  · exact .inl h.1
  · exact .inr (WV_unique hs h (works_WV l st m))
theorem add_cases (many : Int) (l : List Status) (s : Status) : (addS many l s = ([], 260)) ∨ (valid many l = true ∧ valid many [s] = true ∧ addS many l s = (ins l s, 0)) := by
  unfold addS
  cases h1 : valid many l with
  | false => exact .inl rfl
  | true =>
    cases h2 : valid many [s] with
    | false => exact .inl rfl
    | true => exact .inr ⟨rfl, rfl, rfl⟩
theorem seen_cases (volumes : Int) (s : List Station) (l : List Status) (minute : Int) : (∃ e, e ≠ 0 ∧ seenS volumes s l minute = ([], e)) ∨
    (preOk volumes s.length minute = true ∧ firstE volumes s = 0 ∧ valid (s.length : Int) l = true ∧ seenS volumes s l minute = (seenL volumes s l minute, 0)) := by
  unfold seenS
  cases h1 : preOk volumes s.length minute with
  | false => exact .inl ⟨260, by decide, rfl⟩
  | true =>
    cases h2 : firstE volumes s != 0 with
    | true => exact .inl ⟨_, by simpa using h2, rfl⟩
    | false =>
      cases h3 : valid (s.length : Int) l with
      | false => exact .inl ⟨260, by decide, rfl⟩
      | true => exact .inr ⟨rfl, by simpa using h2, rfl, rfl⟩
theorem pre_in {volumes : Int} {n : Nat} {minute : Int} (h : preOk volumes n minute = true) : 1 ≤ volumes ∧ 0 ≤ minute ∧ minute < 1440 := by
  unfold preOk at h
  simp only [Bool.and_eq_true, decide_eq_true_eq] at h
  omega
theorem seenL_len (volumes : Int) (s : List Station) (l : List Status) (minute : Int) : (seenL volumes s l minute).length = volumes.toNat := by simp [seenL]
theorem seenL_get {volumes : Int} {s : List Station} {l : List Status} {minute : Int} {j : Nat} {a : Bool} (h : (seenL volumes s l minute)[j]? = some a) : j < volumes.toNat ∧ a = seesGo l minute (j : Int) 0 s := by
  unfold seenL at h
  rw [List.getElem?_map] at h
  by_cases hj : j < volumes.toNat
  · rw [List.getElem?_range hj] at h
    exact ⟨hj, by simpa using h.symm⟩
  · rw [List.getElem?_eq_none (by simpa using hj)] at h; cases h
theorem seenL_at {volumes : Int} {s : List Station} {l : List Status} {minute : Int} {j : Nat} (h : j < volumes.toNat) : (seenL volumes s l minute)[j]? = some (seesGo l minute (j : Int) 0 s) := by
  unfold seenL; rw [List.getElem?_map, List.getElem?_range h]; rfl
theorem sees_mono {l l' : List Status} {m v : Int} (h : ∀ i : Int, worksL l i m = true → worksL l' i m = true) : ∀ (s : List Station) (k : Nat), seesGo l m v k s = true → seesGo l' m v k s = true
  | [], k, hs => by cases hs
  | x :: s, k, hs => by
    unfold seesGo at hs ⊢
    rw [Bool.or_eq_true, Bool.and_eq_true] at *
    rcases hs with ⟨h1, h2⟩ | h1
    · exact .inl ⟨h _ h1, h2⟩
    · exact .inr (sees_mono h s (k + 1) h1)
theorem sees_app (l : List Status) (m v : Int) (x : Station) : ∀ (s : List Station) (k : Nat), seesGo l m v k (s ++ [x]) = (seesGo l m v k s || (worksL l ((k + s.length : Nat) : Int) m && decide (v ∈ x.Volumes)))
  | [], k => by simp [seesGo]
  | y :: s, k => by
    rw [List.cons_append, seesGo, seesGo, sees_app l m v x s (k + 1), Bool.or_assoc]
    congr 3
    simp only [List.length_cons]
    congr 2
    omega

/-! ### The laws -/
theorem law_RadarCheckSpec : Law_RadarCheckSpec := by
  intro many l s _ _ _ _
  unfold law26_RadarCheckSpec
  rw [sane_ok, R.ok_bind, if_pos rfl]
  obtain ⟨b, hb, hlen⟩ := few_eq [] l
  rw [hb, R.ok_bind]
  cases b with
  | false => rfl
  | true =>
    have hl := (hlen rfl).2
    rw [if_pos rfl, Add_eq many l s (by omega), R.ok_bind, ref_Add_eq many l s (by omega), R.ok_bind, same_refl, R.ok_bind]
    have h1 := Check_eq many l (by omega)
    simp [h1.1, h1.2]
theorem law_RadarOrder : Law_RadarOrder := by
  intro many l a b _ _ _ _ _
  unfold law26_RadarOrder
  rw [sane_ok, R.ok_bind, if_pos rfl]
  obtain ⟨f, hf, hlen⟩ := few_eq [] l
  rw [hf, R.ok_bind]
  split
  · rfl
  · rename_i hc
    simp only [Bool.or_eq_true, Bool.not_eq_true', Bool.and_eq_true, beq_iff_eq, not_or] at hc
    have hl := (hlen (by simpa using hc.1)).2
    have hk := hc.2
    rw [Add_eq many l a (by omega), R.ok_bind, Add_eq many l b (by omega), R.ok_bind]
    rcases add_cases many l a with e1 | ⟨v1, v2, e1⟩
    · rw [e1]; rfl
    · rcases add_cases many l b with e2 | ⟨_, v3, e2⟩
      · rw [e1, e2]; rfl
      · rw [e1, e2]
        simp only [bne_self_eq_false, Bool.or_self, Bool.false_eq_true, if_false]
        have hs : Srt l := (valid_iff.1 v1).2.2
        have va := valid_ins v1 v2
        have vb := valid_ins v1 v3
        have vab := valid_ins va v3
        have vba := valid_ins vb v2
        have l1 := len_ins l a
        have l2 := len_ins l b
        have l3 := len_ins (ins l a) b
        rw [Add_eq many (ins l a) b (by omega), R.ok_bind, Add_eq many (ins l b) a (by omega), R.ok_bind]
        have e3 : addS many (ins l a) b = (ins (ins l a) b, 0) := by unfold addS; rw [va, v3]; rfl
        have e4 : addS many (ins l b) a = (ins (ins l b) a, 0) := by unfold addS; rw [vb, v2]; rfl
        have e5 : addS many (ins (ins l a) b) b = (ins (ins (ins l a) b) b, 0) := by unfold addS; rw [vab, v3]; rfl
        rw [e3, e4]
        simp only []
        rw [Add_eq many (ins (ins l a) b) b (by omega), R.ok_bind, e5]
        have q1 : ins (ins l a) b = ins (ins l b) a := sorted_ext (srt_ins (srt_ins hs)) (srt_ins (srt_ins hs)) fun x => by
          rw [mem_ins, mem_ins, mem_ins, mem_ins]
          constructor
          · rintro (rfl | ⟨rfl | ⟨h1, h2⟩, h3⟩)
            · exact .inr ⟨.inl rfl, fun hh => hk ⟨hh.1.symm, hh.2.symm⟩⟩
            · exact .inl rfl
            · exact .inr ⟨.inr ⟨h1, h3⟩, h2⟩
          · rintro (rfl | ⟨rfl | ⟨h1, h2⟩, h3⟩)
            · exact .inr ⟨.inl rfl, fun hh => hk hh⟩
            · exact .inl rfl
            · exact .inr ⟨.inr ⟨h1, h3⟩, h2⟩
        have q2 : ins (ins (ins l a) b) b = ins (ins l a) b := sorted_ext (srt_ins (srt_ins (srt_ins hs))) (srt_ins (srt_ins hs)) fun x => by
          rw [mem_ins (l := ins (ins l a) b), mem_ins (l := ins l a)]
          constructor
          · rintro (rfl | ⟨rfl | ⟨h1, h2⟩, h3⟩)
            · exact .inl rfl
            · exact .inl rfl
            · exact .inr ⟨h1, h2⟩
          · rintro (rfl | ⟨h1, h2⟩)
            · exact .inl rfl
            · exact .inr ⟨.inr ⟨h1, h2⟩, h2⟩
        rw [← q1, q2, same_refl]
        have h1 := (Check_eq many (ins (ins l a) b) (by omega)).1
        have h2 : chk many (ins (ins l a) b) = 0 := chk_zero.2 vab
        rw [h2] at h1
        simp [h1]
theorem until_go (s : Status) : ∀ (l : List Status) (k : Nat) (u : Int), ∃ r, eachS (fun _ a => fun until1 => law26_RadarFrom_b1 s a until1) k l u = .ok r ∧ r ≤ u ∧ (∀ y ∈ l, y.Station = s.Station → y.From > s.From → r ≤ y.From) ∧ (r = u ∨ ∃ y ∈ l, y.Station = s.Station ∧ y.From > s.From ∧ y.From = r)
  | [], k, u => ⟨u, rfl, Int.le_refl _, (fun y hy => by cases hy), .inl rfl⟩
  | a :: l, k, u => by
    rw [eachS_cons']
    rw [law26_RadarFrom_b1.eq_1 s a u]
    split
    · rename_i hc
      simp only [Bool.and_eq_true, beq_iff_eq, decide_eq_true_eq] at hc
      rw [R.ok_bind]
      obtain ⟨r, h1, h2, h3, h4⟩ := until_go s l (k + 1) (if a.From < u then a.From else u)
      refine ⟨r, h1, by split at h2 <;> omega, fun y hy q1 q2 => ?_, ?_⟩
      · rcases List.mem_cons.1 hy with rfl | hy
        · split at h2 <;> omega
        · exact h3 y hy q1 q2
      · rcases h4 with h4 | ⟨y, h5, h6⟩
        · split at h4
          · exact .inr ⟨a, List.mem_cons_self, hc.1, hc.2, h4.symm⟩
          · exact .inl h4
        · exact .inr ⟨y, List.mem_cons_of_mem _ h5, h6⟩
    · rename_i hc
      simp only [Bool.and_eq_true, beq_iff_eq, decide_eq_true_eq] at hc
      rw [R.ok_bind]
      obtain ⟨r, h1, h2, h3, h4⟩ := until_go s l (k + 1) u
      refine ⟨r, h1, h2, fun y hy q1 q2 => ?_, ?_⟩
      · rcases List.mem_cons.1 hy with rfl | hy
        · exact absurd ⟨q1, q2⟩ hc
        · exact h3 y hy q1 q2
      · rcases h4 with h4 | ⟨y, h5, h6⟩
        · exact .inl h4
        · exact .inr ⟨y, List.mem_cons_of_mem _ h5, h6⟩
theorem law_RadarFrom : Law_RadarFrom := by
  intro many l s station minute _ _ _ _ _ _
  unfold law26_RadarFrom
  rw [sane_ok, R.ok_bind, if_pos rfl]
  obtain ⟨f, hf, hlen⟩ := few_eq [] l
  rw [hf, R.ok_bind]
  cases f with
  | false => rfl
  | true =>
    have hl := (hlen rfl).2
    rw [if_pos rfl, Add_eq many l s (by omega), R.ok_bind]
    rcases add_cases many l s with e1 | ⟨v1, v2, e1⟩
    · rw [e1]; rfl
    · rw [e1]
      simp only [bne_self_eq_false, Bool.false_eq_true, if_false]
      obtain ⟨u, h1, h2, h3, h4⟩ := until_go s l 0 1440
      rw [h1, R.ok_bind]
      have hs : Srt l := (valid_iff.1 v1).2.2
      have hok := (valid_iff.1 v1).2.1
      split
      · rename_i hc
        simp only [Bool.and_eq_true, beq_iff_eq, decide_eq_true_eq, Bool.or_eq_true] at hc
        obtain ⟨⟨q1, q2⟩, q3⟩ := hc
        rw [Works_eq, R.ok_bind]
        have : WV (ins l s) station minute s.Works := .inl ⟨s, mem_ins.2 (.inl rfl), q1.symm, q2, rfl, fun y hy g1 g2 => by
          rcases mem_ins.1 hy with rfl | ⟨hy, hk⟩
          · omega
          · rcases Int.lt_or_le s.From y.From with hlt | hle
            · have := h3 y hy (by omega) hlt
              have := (okS_iff.1 (hok y hy)).2
              omega
            · exact hle⟩
        rw [WV_unique (srt_ins hs) (works_WV (ins l s) station minute) this]
        simp
      · rename_i hc
        simp only [Bool.and_eq_true, beq_iff_eq, decide_eq_true_eq, Bool.or_eq_true, not_and, not_or] at hc
        rw [Works_eq, R.ok_bind, Works_eq, R.ok_bind]
        rcases ins_WV (works_WV (ins l s) station minute) with ⟨g1, g2, g3, g4⟩ | g
        · exfalso
          obtain ⟨q1, q2⟩ := hc ⟨g2.symm, g3⟩
          rcases h4 with h4 | ⟨y, y1, y2, y3, y4⟩
          · exact q2 h4
          · have := g4 y (mem_ins.2 (.inr ⟨y1, by omega⟩)) (by omega) (by omega)
            omega
        · rw [WV_unique hs g (works_WV l station minute)]
          simp
theorem law_RadarSays : Law_RadarSays := by
  intro volumes s l one minute _ _ _ _ _ _
  unfold law26_RadarSays
  rw [sane_ok, R.ok_bind, if_pos rfl]
  obtain ⟨f, hf, hlen⟩ := few_eq s l
  rw [hf, R.ok_bind]
  cases f with
  | false => rfl
  | true =>
    have hl := (hlen rfl).2
    rw [if_pos rfl, Add_eq _ l one (by omega), R.ok_bind, Seen_eq volumes s l minute (by omega), R.ok_bind]
    rcases add_cases (s.length : Int) l one with e1 | ⟨v1, v2, e1⟩
    · rw [e1, Seen_eq volumes s [] minute (by simp), R.ok_bind]; rfl
    · rw [e1]
      have hl2 := len_ins l one
      simp only []
      rw [Seen_eq volumes s (ins l one) minute (by omega), R.ok_bind]
      rcases seen_cases volumes s l minute with ⟨e, he, e2⟩ | ⟨p1, p2, p3, e2⟩
      · rw [e2]
        have : (e != 0) = true := by simpa using he
        simp [this]
      · have e3 : seenS volumes s (ins l one) minute = (seenL volumes s (ins l one) minute, 0) := by
          unfold seenS
          rw [p1, p2, valid_ins v1 v2]; rfl
        rw [e2, e3]
        simp only [bne_self_eq_false, Bool.or_self, Bool.false_eq_true, if_false, seenL_len, Bool.false_or]
        have hs : Srt l := (valid_iff.1 v1).2.2
        have hw := fun i : Int => ins_works (s := one) hs i minute
        have h : each (fun j a => fun _ => law26_RadarSays_b1 one (seenL volumes s (ins l one) minute, 0) j a) 0 (seenL volumes s l minute) () = .ok (.inl ()) := each_all _ 0 fun j a ha => by
          obtain ⟨hj, rfl⟩ := seenL_get ha
          rw [Nat.zero_add]
          unfold law26_RadarSays_b1
          simp only [idx_nat (seenL_at (s := s) (l := ins l one) (minute := minute) hj), R.ok_bind]
          cases ho : one.Works with
          | true =>
            have := sees_mono (l := l) (l' := ins l one) (m := minute) (v := (j : Int)) (fun i hi => by rcases hw i with h | h <;> rw [h]; exact ho; exact hi) s 0
            cases hx : seesGo l minute (j : Int) 0 s with
            | true => rw [this hx]; rfl
            | false => rfl
          | false =>
            have := sees_mono (l := ins l one) (l' := l) (m := minute) (v := (j : Int)) (fun i hi => by
              rcases hw i with h | h
              · rw [h, ho] at hi; cases hi
              · rw [← h]; exact hi) s 0
            cases hx : seesGo l minute (j : Int) 0 s with
            | true => rfl
            | false =>
              cases hy : seesGo (ins l one) minute (j : Int) 0 s with
              | true => rw [this hy] at hx; cases hx
              | false => rfl
        rw [h]; rfl
theorem more_sees (j : Nat) : ∀ (vs : List Int) (k : Nat) (b : Bool), eachS (fun _ a1 => fun sees => law26_RadarMore_b1 j a1 sees) k vs b = .ok (b || decide ((j : Int) ∈ vs))
  | [], k, b => by show R.ok _ = _; simp
  | v :: vs, k, b => by
    rw [eachS_cons']
    rw [law26_RadarMore_b1.eq_1 j v b, R.ok_bind, more_sees j vs (k + 1), Bool.or_assoc]
    congr 2
    by_cases h : v = (j : Int)
    · subst h; simp
    · have h2 : ¬ (j : Int) = v := fun hh => h hh.symm
      simp [h, h2]
theorem law_RadarMore : Law_RadarMore := by
  intro volumes s l more minute _ hgood _ _ _ hbulk
  unfold law26_RadarMore
  rw [sane_ok, R.ok_bind, if_pos rfl]
  have hsl : s.length ≤ 1048576 := by
    have := tSl_len (st := 3) (T := tStation) (fun a => Nat.le_add_left _ _) s
    omega
  rw [if_pos (by simp only [LIM]; omega), if_pos (by simp only [LIM, List.length_cons, List.length_nil]; omega)]
  obtain ⟨f, hf, hlen⟩ := few_eq (s ++ [more]) l
  rw [hf, R.ok_bind]
  unfold law26_RadarMore_j3
  cases f with
  | false => rfl
  | true =>
    have hl := (hlen rfl).2
    simp only [Bool.not_true, Bool.false_eq_true, if_false]
    rw [Seen_eq volumes s l minute (by omega), R.ok_bind, if_pos (by simp only [LIM]; omega), if_pos (by simp only [LIM, List.length_cons, List.length_nil]; omega), Seen2_eq volumes (s ++ [more]) l minute (by omega), R.ok_bind]
    unfold law26_RadarMore_j2
    rcases seen_cases volumes s l minute with ⟨e, he, e2⟩ | ⟨p1, p2, p3, e2⟩
    · rw [e2]
      have : (e != 0) = true := by simpa using he
      simp [this]
    · rcases seen_cases volumes (s ++ [more]) l minute with ⟨e, he, e3⟩ | ⟨r1, r2, r3, e3⟩
      · rw [e2, e3]
        have : (e != 0) = true := by simpa using he
        simp [this]
      · rw [e2, e3]
        simp only [bne_self_eq_false, Bool.or_self, Bool.false_eq_true, if_false, seenL_len]
        have h : each (fun j a => fun _ => law26_RadarMore_b2 more (seenL volumes (s ++ [more]) l minute) j a) 0 (seenL volumes s l minute) () = .ok (.inl ()) := each_all _ 0 fun j a ha => by
          obtain ⟨hj, rfl⟩ := seenL_get ha
          rw [Nat.zero_add]
          unfold law26_RadarMore_b2 law26_RadarMore_j1
          rw [more_sees, R.ok_bind]
          simp only [idx_nat (seenL_at (s := s ++ [more]) (l := l) (minute := minute) hj), R.ok_bind, sees_app, Bool.false_or]
          cases seesGo l minute (j : Int) 0 s with
          | true => cases decide ((j : Int) ∈ more.Volumes) <;> simp
          | false => cases decide ((j : Int) ∈ more.Volumes) <;> simp
        rw [h]; rfl
theorem law_RadarLost : Law_RadarLost := by
  intro volumes s l minute _ _ _ _ _
  unfold law26_RadarLost
  rw [sane_ok, R.ok_bind, if_pos rfl]
  obtain ⟨f, hf, hlen⟩ := few_eq s l
  rw [hf, R.ok_bind]
  cases f with
  | false => rfl
  | true =>
    have hl := (hlen rfl).2
    cases decide (volumes > 6) with
    | true => rfl
    | false =>
      simp only [Bool.not_true, Bool.or_self, Bool.false_eq_true, if_false]
      rw [Seen_eq volumes s l minute (by omega), R.ok_bind]
      rcases seen_cases volumes s l minute with ⟨e, he, e2⟩ | ⟨p1, p2, p3, e2⟩
      · rw [e2]
        have : (e != 0) = true := by simpa using he
        simp [this]
      · rw [e2]
        obtain ⟨hv, hm0, hm1⟩ := pre_in p1
        have hln : (((seenL volumes s l minute).length : Int) != volumes) = false := by rw [seenL_len]; simp; omega
        simp only [bne_self_eq_false, Bool.false_eq_true, if_false]
        rw [hln]
        simp only [Bool.false_eq_true, if_false]
        have h : each (fun j a => fun _ => law26_RadarLost_b1 s l minute j a) 0 (seenL volumes s l minute) () = .ok (.inl ()) := each_all _ 0 fun j a ha => by
          obtain ⟨hj, rfl⟩ := seenL_get ha
          rw [Nat.zero_add]
          unfold law26_RadarLost_b1
          rw [Lost_eq _ s l (by omega), R.ok_bind, Has_eq _ minute hm0 hm1, R.ok_bind, lost_cov _ s l minute hm0 hm1]
          cases seesGo l minute (j : Int) 0 s <;> rfl
        rw [h]; rfl
end Go.Am
