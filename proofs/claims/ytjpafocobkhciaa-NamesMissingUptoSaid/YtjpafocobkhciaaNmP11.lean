/- Names: names without a definition are refused: the law, last part. -/
import Derived.Test.YtjpafocobkhciaaNmP10
namespace Go.Am
open Go
set_option linter.unusedVariables false
set_option linter.unusedSimpArgs false
set_option maxRecDepth 100000

theorem le4 {α : Type} {l : List α} {x : α} {k : Nat} (h : l.length ≤ k) (hk : k ≤ 3) : (l.length + [x].length) * 192 ≤ LIM := by
  simp only [List.length_cons, List.length_nil]
  exact Nat.le_trans (Nat.mul_le_mul_right _ (show l.length + 1 ≤ 4 by omega)) (by decide)
theorem missing_j4 {a : Airspace} {b : Int} {X : Str} (h : Miss a b X) (r : Bool) (l : List Airspace) (hl : ∀ c ∈ l, Ok90 c) (hn : l.length ≤ 2) : law09_NamesMissing_j4 a b r (resolved a, 0) X l = .ok true := by
  have hr : (resolved a).Routes = a.Routes.map (resRoute (gs a) (ps a)) := rfl
  have hX := h.len
  unfold law09_NamesMissing_j4
  simp only [hr]
  split
  · rename_i hpos
    have hpos' : ((a.Routes.map (resRoute (gs a) (ps a))).length : Int) > 0 := by simpa using hpos
    have hp : 0 < a.Routes.length := by rw [List.length_map] at hpos'; omega
    obtain ⟨s, hs, hi⟩ := pick_one (resRoute (gs a) (ps a)) a.Routes b h.b0 h.b1 hp
    rw [if_pos (by omega), hi, R.ok_bind]
    unfold law09_NamesMissing_j3
    simp only [hr]
    have hok := h.parts.2.2.1 s hs
    simp only [okRoute, Bool.and_eq_true] at hok
    cases hN : s.Names with
    | nil =>
      have : (resRoute (gs a) (ps a) s).Segments = [] := by simp [resRoute, hN]
      rw [this, if_neg (by simp)]
      exact missing_j2 h r l hl (by omega)
    | cons n t =>
      have e0 : (resRoute (gs a) (ps a) s).Segments = posI (gs a) n :: t.map (posI (gs a)) := by simp [resRoute, hN]
      have hmem : n ∈ s.Names := by rw [hN]; exact List.mem_cons_self ..
      obtain ⟨i, v, h1, h2, h3, h4⟩ := num_ok (l := a.Segments) (g := (·.Name)) (List.all_eq_true.1 hok.2 n hmem)
      have h1' : posI (gs a) n = (i : Int) := h1
      rw [e0, if_pos (by simp), if_pos (room h.small.g (by decide)), if_pos (by omega), hi, R.ok_bind, e0, idx_0, R.ok_bind, h1', if_pos (by simp; omega), if_pos (by simp; omega), idx_nat h3, R.ok_bind, if_pos (le4 hn (by decide))]
      refine missing_j2 h r _ (fun c hc => ?_) (by simp; omega)
      rcases List.mem_append.1 hc with hc | hc
      · exact hl c hc
      · obtain rfl := List.mem_singleton.1 hc
        exact ⟨small_g h.small _ _, miss_segment h.once h3 (h.new _).2.2.1 hs (h4 ▸ hmem)⟩
  · unfold law09_NamesMissing_j3
    rw [if_neg (by simp)]
    exact missing_j2 h r l hl (by omega)
theorem missing_j6 {a : Airspace} {b : Int} {X : Str} (h : Miss a b X) (r : Bool) (l : List Airspace) (hl : ∀ c ∈ l, Ok90 c) (hn : l.length ≤ 1) : law09_NamesMissing_j6 a b r (resolved a, 0) X l = .ok true := by
  have hr : (resolved a).Configs = a.Configs.map (resConfig (ss a)) := rfl
  have hX := h.len
  unfold law09_NamesMissing_j6
  simp only [hr]
  split
  · rename_i hpos
    have hpos' : ((a.Configs.map (resConfig (ss a))).length : Int) > 0 := by simpa using hpos
    have hp : 0 < a.Configs.length := by rw [List.length_map] at hpos'; omega
    obtain ⟨s, hs, hi⟩ := pick_one (resConfig (ss a)) a.Configs b h.b0 h.b1 hp
    rw [if_pos (by omega), hi, R.ok_bind]
    unfold law09_NamesMissing_j5
    simp only [hr]
    have hok := h.parts.2.1 s hs
    cases hN : s.Names with
    | nil =>
      have : (resConfig (ss a) s).Sectors = [] := by simp [resConfig, hN]
      rw [this, if_neg (by simp)]
      exact missing_j4 h r l hl (by omega)
    | cons n t =>
      have e0 : (resConfig (ss a) s).Sectors = posI (ss a) n :: t.map (posI (ss a)) := by simp [resConfig, hN]
      have hmem : n ∈ s.Names := by rw [hN]; exact List.mem_cons_self ..
      obtain ⟨i, v, h1, h2, h3, h4⟩ := num_ok (l := a.Sectors) (g := (·.Name)) (List.all_eq_true.1 hok n hmem)
      have h1' : posI (ss a) n = (i : Int) := h1
      rw [e0, if_pos (by simp), if_pos (room h.small.s (by decide)), if_pos (by omega), hi, R.ok_bind, e0, idx_0, R.ok_bind, h1', if_pos (by simp; omega), if_pos (by simp; omega), idx_nat h3, R.ok_bind, if_pos (le4 hn (by decide))]
      refine missing_j4 h r _ (fun c hc => ?_) (by simp; omega)
      rcases List.mem_append.1 hc with hc | hc
      · exact hl c hc
      · obtain rfl := List.mem_singleton.1 hc
        exact ⟨small_s h.small _ _ (h.small.sn v (List.mem_of_getElem? h3)), miss_sector h.once h3 (h.new _).2.1 hs (h4 ▸ hmem)⟩
  · unfold law09_NamesMissing_j5
    rw [if_neg (by simp)]
    exact missing_j4 h r l hl (by omega)
theorem sum_mono {α : Type} {f g : α → Nat} (h : ∀ a, f a ≤ g a) : ∀ l : List α, (l.map f).sum ≤ (l.map g).sum
  | [] => Nat.le_refl _
  | a :: l => by
    have := h a
    have := sum_mono h l
    simp only [List.map_cons, List.sum_cons]
    omega
theorem joined_bulk {α : Type} {st : Nat} {T : Ty α} {g : α → Str} (h : ∀ a, (g a).length + 1 ≤ T.bulk a) (l : List α) (x : Str) : (joined (l.map g) x).length ≤ x.length + (tSl st T).bulk l := by
  rw [← joined_len, List.map_map]
  have := sum_mono (f := fun a => (g a).length + 1) (g := T.bulk) h l
  show x.length + (l.map fun a => (g a).length + 1).sum ≤ x.length + ((l.map T.bulk).sum + 1)
  omega
theorem join_step {α : Type} {b : Nat → α → Str → R Str} {g : α → Str} {st : Nat} {T : Ty α} (hb : ∀ j a x, b j a x = if (g a).length + [120].length ≤ 9223372036854775807 then (if x.length + (g a ++ [120]).length ≤ 9223372036854775807 then .ok (x ++ (g a ++ [120])) else .bad) else .bad)
    (hT : ∀ a, (g a).length + 1 ≤ T.bulk a) (l : List α) (x : Str) (hx : x.length ≤ 8000000) (hl : (tSl st T).bulk l ≤ 1048576) :
    ∃ y : Str, eachS b 0 l x = .ok y ∧ y.length ≤ x.length + 1048576 ∧ x.length ≤ y.length ∧ ∀ n ∈ l.map g, n.length < y.length := by
  have h1 := joined_bulk (st := st) hT l x
  refine ⟨joined (l.map g) x, eachS_joined hb l 0 x (by omega), by omega, joined_le _ _, fun n hn => ?_⟩
  have := joined_lt (x := x) hn
  omega
theorem law_NamesMissing : Law_NamesMissing := by
  intro a b _ hb0 hb
  have hs := small_of (Nat.le_trans (Nat.le_add_right _ _) hb)
  have hbb : 0 ≤ b ∧ b ≤ 255 := by
    have : (Lit.int .u8 b).wf = true := hb0
    simpa [Lit.wf, IntKind.min, IntKind.max, IntKind.signed, IntKind.bits] using this
  unfold law09_NamesMissing
  rw [sane_true]
  obtain ⟨q, hf⟩ := few_some a
  rw [R.ok_bind, if_pos rfl, hf, R.ok_bind]
  cases q
  · rfl
  rw [if_pos rfl, names_Resolve_eq a hs, R.ok_bind]
  rcases resolve_cases a with ⟨n, hn, e⟩ | ⟨ho, hk, e⟩
  · rw [e]; rcases hn with rfl | rfl <;> rfl
  rw [e, if_neg (by simp)]
  have hbk : tAirspace.bulk a = ((tSl 2 tVolume).bulk a.Volumes + ((tSl 5 tSector).bulk a.Sectors + ((tSl 3 tConfig).bulk a.Configs + ((tSl 5 tSegment).bulk a.Segments + ((tSl 7 tRoute).bulk a.Routes + ((tSl 2 tAirport).bulk a.Airports + ((tSl 4 tClass).bulk a.Classes + ((tSl 8 tRule).bulk a.Rules + 0)))))))) + 1 := rfl
  rw [hbk] at hb
  obtain ⟨x1, e1, l1, m1, f1⟩ := join_step (b := fun _ a1 => fun x => law09_NamesMissing_b1 a1 x) (g := Volume.Name) (st := 2) (T := tVolume) (fun j a x => rfl) (fun v => by simp only [tVolume, tStr]; omega) a.Volumes [] (by simp) (by omega)
  obtain ⟨x2, e2, l2, m2, f2⟩ := join_step (b := fun _ a1 => fun x => law09_NamesMissing_b2 a1 x) (g := Sector.Name) (st := 5) (T := tSector) (fun j a x => rfl) (fun v => by simp only [tSector, tStr]; omega) a.Sectors x1 (by simp at l1; omega) (by omega)
  obtain ⟨x3, e3, l3, m3, f3⟩ := join_step (b := fun _ a1 => fun x => law09_NamesMissing_b3 a1 x) (g := Segment.Name) (st := 5) (T := tSegment) (fun j a x => rfl) (fun v => by simp only [tSegment, tStr]; omega) a.Segments x2 (by simp at l1; omega) (by omega)
  obtain ⟨x4, e4, l4, m4, f4⟩ := join_step (b := fun _ a1 => fun x => law09_NamesMissing_b4 a1 x) (g := Class.Name) (st := 4) (T := tClass) (fun j a x => rfl) (fun v => by simp only [tClass, tStr]; omega) a.Classes x3 (by simp at l1; omega) (by omega)
  rw [e1, R.ok_bind, e2, R.ok_bind, e3, R.ok_bind, e4, R.ok_bind]
  have hM : Miss a b x4 := ⟨hs, ho, hk, hbb.1, by omega, fun n hn => by
    rcases hn with hn | hn | hn | hn
    · have := f1 n hn; omega
    · have := f2 n hn; omega
    · have := f3 n hn; omega
    · exact f4 n hn, by simp at l1; omega⟩
  have hX := hM.len
  have hr : (resolved a).Sectors = a.Sectors.map (resSector (vs a)) := rfl
  simp only [hr]
  split
  · rename_i hpos
    have hpos' : ((a.Sectors.map (resSector (vs a))).length : Int) > 0 := by simpa using hpos
    have hp : 0 < a.Sectors.length := by rw [List.length_map] at hpos'; omega
    obtain ⟨s, hss, hi⟩ := pick_one (resSector (vs a)) a.Sectors b hM.b0 hM.b1 hp
    rw [if_pos (by omega), hi, R.ok_bind]
    unfold law09_NamesMissing_j7
    simp only [hr]
    have hok := hM.parts.1 s hss
    cases hN : s.Names with
    | nil =>
      have : (resSector (vs a) s).Volumes = [] := by simp [resSector, hN]
      rw [this, if_neg (by simp)]
      exact missing_j6 hM _ [] (fun c hc => (List.not_mem_nil hc).elim) (Nat.zero_le _)
    | cons n t =>
      have e0 : (resSector (vs a) s).Volumes = posI (vs a) n :: t.map (posI (vs a)) := by simp [resSector, hN]
      have hmem : n ∈ s.Names := by rw [hN]; exact List.mem_cons_self ..
      obtain ⟨i, v, h1, h2, h3, h4⟩ := num_ok (l := a.Volumes) (g := (·.Name)) (List.all_eq_true.1 hok n hmem)
      have h1' : posI (vs a) n = (i : Int) := h1
      rw [e0, if_pos (by simp), if_pos (room hs.v (by decide)), if_pos (by omega), hi, R.ok_bind, e0, idx_0, R.ok_bind, h1', if_pos (by simp; omega), if_pos (by simp; omega), idx_nat h3, R.ok_bind, if_pos (by simp [LIM])]
      refine missing_j6 hM _ _ (fun c hc => ?_) (by simp)
      obtain rfl := List.mem_singleton.1 hc
      exact ⟨small_v hs _ _, miss_volume ho h3 (hM.new _).1 hss (h4 ▸ hmem)⟩
  · unfold law09_NamesMissing_j7
    rw [if_neg (by simp)]
    exact missing_j6 hM _ [] (fun c hc => (List.not_mem_nil hc).elim) (Nat.zero_le _)
end Go.Am
