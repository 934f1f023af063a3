/- Names: each number is that of the definition with the name. -/
import Derived.Test.YtjpafocobkhciaaNmP5
namespace Go.Am
open Go
set_option linter.unusedVariables false
set_option linter.unusedSimpArgs false
set_option maxRecDepth 100000

theorem num_ok {α : Type} {l : List α} {g : α → Str} {n : Str} (h : known (l.map g) n = true) : ∃ (i : Nat) (v : α), posI (l.map g) n = (i : Int) ∧ i < l.length ∧ l[i]? = some v ∧ g v = n := by
  unfold known at h
  cases hp : pos (l.map g) n with
  | none => rw [hp] at h; cases h
  | some i =>
    have hg := pos_get hp
    rw [List.getElem?_map] at hg
    cases hv : l[i]? with
    | none => rw [hv] at hg; cases hg
    | some v =>
      rw [hv] at hg
      exact ⟨i, v, by unfold posI; rw [hp], (List.getElem?_eq_some_iff.1 hv).1, hv, by simpa using hg⟩
theorem get_map {α β : Type} {f : α → β} {l : List α} {j : Nat} {y : β} (h : (l.map f)[j]? = some y) : ∃ x, l[j]? = some x ∧ x ∈ l ∧ y = f x := by
  rw [List.getElem?_map] at h
  cases hx : l[j]? with
  | none => rw [hx] at h; cases h
  | some x => rw [hx] at h; exact ⟨x, rfl, List.mem_of_getElem? hx, by simpa using h.symm⟩

theorem means_sector (r : Bool) (q : Airspace × Int) (s : Sector) (h : okSector (vs q.1) s = true) : law09_NamesMeans_b2 r q (resSector (vs q.1) s) = .ok (.inl ()) := by
  unfold law09_NamesMeans_b2
  rw [if_neg (by simp [resSector]), each_all (resSector (vs q.1) s).Volumes 0 fun j x hx => ?_]
  · rfl
  · obtain ⟨n, hn, hm, rfl⟩ := get_map hx
    obtain ⟨i, v, h1, h2, h3, h4⟩ := num_ok (List.all_eq_true.1 h n hm)
    have hn' : (resSector (vs q.1) s).Names[j]? = some n := hn
    unfold law09_NamesMeans_b1
    replace h1 : posI (vs q.1) n = (i : Int) := h1
    rw [h1, if_neg (by simp), if_neg (by simpa using h2), Nat.zero_add, idx_nat h3, R.ok_bind, idx_nat hn']
    simp [h4, law09_NamesMeans_j1]
theorem means_config (r : Bool) (q : Airspace × Int) (ns : List Str) (hns : q.1.Sectors.map (·.Name) = ns) (s : Config) (h : okConfig ns s = true) : law09_NamesMeans_b4 r q (resConfig ns s) = .ok (.inl ()) := by
  subst hns
  unfold law09_NamesMeans_b4
  rw [if_neg (by simp [resConfig]), each_all (resConfig (q.1.Sectors.map (·.Name)) s).Sectors 0 fun j x hx => ?_]
  · rfl
  · obtain ⟨n, hn, hm, rfl⟩ := get_map hx
    obtain ⟨i, v, h1, h2, h3, h4⟩ := num_ok (List.all_eq_true.1 h n hm)
    have hn' : (resConfig (q.1.Sectors.map (·.Name)) s).Names[j]? = some n := hn
    unfold law09_NamesMeans_b3
    rw [h1, if_neg (by simp), if_neg (by simpa using h2), Nat.zero_add, idx_nat h3, R.ok_bind, idx_nat hn']
    simp [h4, law09_NamesMeans_j2]
theorem means_segment (q : Airspace × Int) (s : Segment) (h : okSegment (vs q.1) s = true) : law09_NamesMeans_b5 q (resSegment (vs q.1) s) = .ok (.inl ()) := by
  obtain ⟨i, v, h1, h2, h3, h4⟩ := num_ok (l := q.1.Volumes) (g := (·.Name)) h
  unfold law09_NamesMeans_b5
  have e1 : (resSegment (vs q.1) s).Volume = (i : Int) := h1
  have e2 : (resSegment (vs q.1) s).In = s.In := rfl
  rw [e1, e2, if_neg (by simp), if_neg (by simpa using h2), idx_nat h3]
  simp [h4, law09_NamesMeans_j3]
theorem means_route (r : Bool) (q : Airspace × Int) (ns : List Str) (hns : q.1.Segments.map (·.Name) = ns) (s : Route) (h : okRoute ns (ps q.1) s = true) : law09_NamesMeans_b7 r q (resRoute ns (ps q.1) s) = .ok (.inl ()) := by
  subst hns
  simp only [okRoute, Bool.and_eq_true] at h
  obtain ⟨⟨ha, hb⟩, hc⟩ := h
  obtain ⟨i, v, h1, h2, h3, h4⟩ := num_ok (l := q.1.Airports) (g := (·.Name)) ha
  obtain ⟨i', v', k1, k2, k3, k4⟩ := num_ok (l := q.1.Airports) (g := (·.Name)) hb
  unfold law09_NamesMeans_b7
  have e1 : (resRoute (q.1.Segments.map (·.Name)) (ps q.1) s).From = (i : Int) := h1
  have e2 : (resRoute (q.1.Segments.map (·.Name)) (ps q.1) s).To = (i' : Int) := k1
  have e3 : (resRoute (q.1.Segments.map (·.Name)) (ps q.1) s).A = s.A := rfl
  have e4 : (resRoute (q.1.Segments.map (·.Name)) (ps q.1) s).B = s.B := rfl
  rw [if_neg (by simp [resRoute]), e1, e2, e3, e4, if_neg (by simp), if_neg (by simpa using h2), if_neg (by simp), if_neg (by simpa using k2), idx_nat h3, R.ok_bind, if_neg (by simp [h4]), idx_nat k3, R.ok_bind]
  simp only [k4, beq_self_eq_true, Bool.not_true, law09_NamesMeans_j5, Bool.false_eq_true, if_false]
  rw [each_all (resRoute (q.1.Segments.map (·.Name)) (ps q.1) s).Segments 0 fun j x hx => ?_]
  · rfl
  · obtain ⟨n, hn, hm, rfl⟩ := get_map hx
    obtain ⟨i, v, h1, h2, h3, h4⟩ := num_ok (List.all_eq_true.1 hc n hm)
    have hn' : (resRoute (q.1.Segments.map (·.Name)) (ps q.1) s).Names[j]? = some n := hn
    unfold law09_NamesMeans_b6
    rw [h1, if_neg (by simp), if_neg (by simpa using h2), Nat.zero_add, idx_nat h3, R.ok_bind, idx_nat hn']
    simp [h4, law09_NamesMeans_j4]
theorem means_rule (q : Airspace × Int) (s : Rule) (h : okRule (ps q.1) (ks q.1) s = true) : law09_NamesMeans_b8 q (resRule (ps q.1) (ks q.1) s) = .ok (.inl ()) := by
  simp only [okRule, Bool.and_eq_true] at h
  obtain ⟨ha, hb⟩ := h
  obtain ⟨i, v, h1, h2, h3, h4⟩ := num_ok (l := q.1.Classes) (g := (·.Name)) ha
  unfold law09_NamesMeans_b8
  have e1 : (resRule (ps q.1) (ks q.1) s).Class = (i : Int) := h1
  have e2 : (resRule (ps q.1) (ks q.1) s).C = s.C := rfl
  have e3 : (resRule (ps q.1) (ks q.1) s).Kind = s.Kind := rfl
  have e5 : (resRule (ps q.1) (ks q.1) s).A = s.A := rfl
  rw [e1, e2, e3, if_neg (by simp), if_neg (by simpa using h2), idx_nat h3, R.ok_bind, if_neg (by simp [h4])]
  by_cases hk : s.Kind = 1
  · have hk' : (s.Kind == 1) = true := by simpa using hk
    rw [hk', Bool.not_true, Bool.false_or] at hb
    obtain ⟨i', v', k1, k2, k3, k4⟩ := num_ok (l := q.1.Airports) (g := (·.Name)) hb
    have e4 : (resRule (ps q.1) (ks q.1) s).Airport = (i' : Int) := by
      simp only [resRule, hk', if_true]; exact k1
    rw [if_neg (by simp [hk])]
    unfold law09_NamesMeans_j7
    rw [if_neg (by simp), e3, if_pos (by simp [hk]), e4, if_neg (by simp), if_neg (by simpa using k2), idx_nat k3, R.ok_bind, e5]
    simp [k4, law09_NamesMeans_j6]
  · have hk' : (s.Kind == 1) = false := by simpa using hk
    have e4 : (resRule (ps q.1) (ks q.1) s).Airport = 0 := by simp [resRule, hk']
    rw [if_pos (by simp [hk]), e4]
    unfold law09_NamesMeans_j7
    rw [if_neg (by simp), e3, if_neg (by simp [hk])]
    rfl
theorem law_NamesMeans : Law_NamesMeans := by
  intro a _ hb
  have hs := small_of hb
  unfold law09_NamesMeans
  rw [sane_true]
  obtain ⟨q, hf⟩ := few_some a
  rw [R.ok_bind, if_pos rfl, hf, R.ok_bind]
  cases q
  · rfl
  rw [if_pos rfl, names_Resolve_eq a hs, R.ok_bind]
  rcases resolve_cases a with ⟨n, hn, e⟩ | ⟨h1, h2, e⟩
  · rw [e]
    have := same_self emptyA
    unfold emptyA at this ⊢
    rcases hn with rfl | rfl <;> simp [this]
  · rw [e, if_neg (by simp), Unnumbered_eq _ (hs.alike (alike_resolved a)), R.ok_bind, Unnumbered_eq a hs, R.ok_bind, unn_resolved, same_self, R.ok_bind, if_pos rfl]
    simp only [allKnown, Bool.and_eq_true] at h2
    obtain ⟨⟨⟨⟨k1, k2⟩, k3⟩, k4⟩, k5⟩ := h2
    have ev : vs (resolved a) = vs a := rfl
    have ep : ps (resolved a) = ps a := rfl
    have ek : ks (resolved a) = ks a := rfl
    have es : (resolved a).Sectors.map (·.Name) = ss a := by simp [resolved, ss, resSector, Function.comp_def]
    have eg : (resolved a).Segments.map (·.Name) = gs a := by simp [resolved, gs, resSegment, Function.comp_def]
    rw [each_all (resolved a).Sectors 0 fun j x hx => by
      obtain ⟨s, _, hm, rfl⟩ := get_map hx
      have := means_sector true (resolved a, 0) s (by rw [ev]; exact List.all_eq_true.1 k1 s hm)
      rwa [ev] at this]
    simp only [R.ok_bind]
    rw [alt_inl, each_all (resolved a).Configs 0 fun j x hx => by
      obtain ⟨s, _, hm, rfl⟩ := get_map hx
      exact means_config true (resolved a, 0) _ es s (List.all_eq_true.1 k2 s hm)]
    simp only [R.ok_bind]
    rw [alt_inl, each_all (resolved a).Segments 0 fun j x hx => by
      obtain ⟨s, _, hm, rfl⟩ := get_map hx
      have := means_segment (resolved a, 0) s (by rw [ev]; exact List.all_eq_true.1 k3 s hm)
      rwa [ev] at this]
    simp only [R.ok_bind]
    rw [alt_inl, each_all (resolved a).Routes 0 fun j x hx => by
      obtain ⟨s, _, hm, rfl⟩ := get_map hx
      have := means_route true (resolved a, 0) _ eg s (by rw [ep]; exact List.all_eq_true.1 k4 s hm)
      rwa [ep] at this]
    simp only [R.ok_bind]
    rw [alt_inl, each_all (resolved a).Rules 0 fun j x hx => by
      obtain ⟨s, _, hm, rfl⟩ := get_map hx
      have := means_rule (resolved a, 0) s (by rw [ep, ek]; exact List.all_eq_true.1 k5 s hm)
      rwa [ep, ek] at this]
    rfl
end Go.Am
