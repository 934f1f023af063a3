/- Names: without its numbers an airspace is resolved alike; resolving again changes nothing. -/
import Derived.Test.YtjpafocobkhciaaNmP2
import Derived.Test.YtjpafocobkhciaaNmPc
namespace Go.Am
open Go
set_option linter.unusedVariables false
set_option linter.unusedSimpArgs false
set_option maxRecDepth 100000

def unSector (s : Sector) : Sector := { s with Volumes := [] }
def unConfig (s : Config) : Config := { s with Sectors := [] }
def unSegment (s : Segment) : Segment := { s with Volume := 0 }
def unRoute (s : Route) : Route := { s with From := 0, To := 0, Segments := [] }
def unRule (s : Rule) : Rule := { s with Class := 0, Airport := 0 }
def unn (a : Airspace) : Airspace := { a with Sectors := a.Sectors.map unSector, Configs := a.Configs.map unConfig, Segments := a.Segments.map unSegment, Routes := a.Routes.map unRoute, Rules := a.Rules.map unRule }
/-- Alike but for the numbers. -/
structure Alike (a b : Airspace) : Prop where
  v : b.Volumes = a.Volumes
  s : b.Sectors.map unSector = a.Sectors.map unSector
  c : b.Configs.map unConfig = a.Configs.map unConfig
  g : b.Segments.map unSegment = a.Segments.map unSegment
  r : b.Routes.map unRoute = a.Routes.map unRoute
  p : b.Airports = a.Airports
  k : b.Classes = a.Classes
  u : b.Rules.map unRule = a.Rules.map unRule
theorem map_of {α β γ : Type} {f : α → β} {g : β → γ} {h : α → γ} {l m : List α} (hl : l.map f = m.map f) (e : ∀ x, h x = g (f x)) : l.map h = m.map h := by
  have e' : h = g ∘ f := funext e
  rw [e', ← List.map_map, hl, List.map_map]
theorem all_of {α β : Type} {f : α → β} {p : β → Bool} {q : α → Bool} {l m : List α} (hl : l.map f = m.map f) (e : ∀ x, q x = p (f x)) : l.all q = m.all q := by
  have e' : q = p ∘ f := funext e
  rw [e', ← List.all_map, hl, List.all_map]
theorem alike_resolve {a b : Airspace} (h : Alike a b) : resolve b = resolve a := by
  have e1 : vs b = vs a := by unfold vs; rw [h.v]
  have e2 : ss b = ss a := map_of (h := Sector.Name) (g := Sector.Name) h.s (fun x => rfl)
  have e3 : cs b = cs a := map_of (h := Config.Name) (g := Config.Name) h.c (fun x => rfl)
  have e4 : gs b = gs a := map_of (h := Segment.Name) (g := Segment.Name) h.g (fun x => rfl)
  have e5 : rs b = rs a := map_of (h := Route.Name) (g := Route.Name) h.r (fun x => rfl)
  have e6 : ps b = ps a := by unfold ps; rw [h.p]
  have e7 : ks b = ks a := by unfold ks; rw [h.k]
  have ho : once b = once a := by unfold once; rw [e1, e2, e3, e4, e5, e6, e7, h.p]
  have hk : allKnown b = allKnown a := by
    unfold allKnown
    rw [e1, e2, e4, e6, e7, all_of (q := okSector (vs a)) (p := okSector (vs a)) h.s (fun x => rfl), all_of (q := okConfig (ss a)) (p := okConfig (ss a)) h.c (fun x => rfl), all_of (q := okSegment (vs a)) (p := okSegment (vs a)) h.g (fun x => rfl), all_of (q := okRoute (gs a) (ps a)) (p := okRoute (gs a) (ps a)) h.r (fun x => rfl), all_of (q := okRule (ps a) (ks a)) (p := okRule (ps a) (ks a)) h.u (fun x => rfl)]
  have hr : resolved b = resolved a := by
    unfold resolved
    rw [e1, e2, e4, e6, e7, h.v, h.p, h.k, map_of (h := resSector (vs a)) (g := resSector (vs a)) h.s (fun x => rfl), map_of (h := resConfig (ss a)) (g := resConfig (ss a)) h.c (fun x => rfl), map_of (h := resSegment (vs a)) (g := resSegment (vs a)) h.g (fun x => rfl), map_of (h := resRoute (gs a) (ps a)) (g := resRoute (gs a) (ps a)) h.r (fun x => rfl), map_of (h := resRule (ps a) (ks a)) (g := resRule (ps a) (ks a)) h.u (fun x => rfl)]
  unfold resolve
  by_cases hx : once a
  · rw [if_pos hx, if_pos (ho ▸ hx), hk, hr]
  · rw [if_neg hx, if_neg (ho ▸ hx)]
theorem alike_unn (a : Airspace) : Alike a (unn a) := ⟨rfl, by simp [unn, Function.comp_def, unSector], by simp [unn, Function.comp_def, unConfig], by simp [unn, Function.comp_def, unSegment], by simp [unn, Function.comp_def, unRoute], rfl, rfl, by simp [unn, Function.comp_def, unRule]⟩
theorem alike_resolved (a : Airspace) : Alike a (resolved a) := ⟨rfl, by simp [resolved, Function.comp_def, unSector, resSector], by simp [resolved, Function.comp_def, unConfig, resConfig], by simp [resolved, Function.comp_def, unSegment, resSegment], by simp [resolved, Function.comp_def, unRoute, resRoute], rfl, rfl, by simp [resolved, Function.comp_def, unRule, resRule]⟩
theorem unn_resolved (a : Airspace) : unn (resolved a) = unn a := by
  have h := alike_resolved a
  unfold unn
  rw [h.s, h.c, h.g, h.r, h.u]
  rfl
theorem Small.alike {N : Nat} {a b : Airspace} (hs : Small N a) (h : Alike a b) : Small N b := by
  have l : ∀ {α β : Type} {f : α → β} {l m : List α}, l.map f = m.map f → l.length = m.length := fun h => by simpa using congrArg List.length h
  have m : ∀ {α β : Type} {f : α → β} {l m : List α}, l.map f = m.map f → ∀ x ∈ l, ∃ y ∈ m, f y = f x := by
    intro α β f l m h x hx
    have := List.mem_map_of_mem (f := f) hx
    rw [h] at this
    obtain ⟨y, hy, e⟩ := List.mem_map.1 this
    exact ⟨y, hy, e⟩
  refine ⟨by rw [h.v]; exact hs.v, by rw [l h.s]; exact hs.s, by rw [l h.c]; exact hs.c, by rw [l h.g]; exact hs.g, by rw [l h.r]; exact hs.r, by rw [h.p]; exact hs.p, by rw [h.k]; exact hs.k, by rw [l h.u]; exact hs.u, fun x hx => ?_, fun x hx => ?_, fun x hx => ?_, by rw [h.p]; exact hs.pm⟩
  · obtain ⟨y, hy, e⟩ := m h.s x hx
    have e' : (unSector y).Names = (unSector x).Names := congrArg Sector.Names e
    replace e' : y.Names = x.Names := e'
    exact e' ▸ hs.sn y hy
  · obtain ⟨y, hy, e⟩ := m h.c x hx
    have e' : (unConfig y).Names = (unConfig x).Names := congrArg Config.Names e
    replace e' : y.Names = x.Names := e'
    exact e' ▸ hs.cn y hy
  · obtain ⟨y, hy, e⟩ := m h.r x hx
    have e' : (unRoute y).Names = (unRoute x).Names := congrArg Route.Names e
    replace e' : y.Names = x.Names := e'
    exact e' ▸ hs.rn y hy
theorem small_empty (N : Nat) : Small N emptyA := ⟨Nat.zero_le _, Nat.zero_le _, Nat.zero_le _, Nat.zero_le _, Nat.zero_le _, Nat.zero_le _, Nat.zero_le _, Nat.zero_le _, fun _ h => (List.not_mem_nil h).elim, fun _ h => (List.not_mem_nil h).elim, fun _ h => (List.not_mem_nil h).elim, fun _ h => (List.not_mem_nil h).elim⟩
/-- What is answered: a number, and then nothing; or what is resolved. -/
theorem resolve_cases (a : Airspace) : (∃ n, (n = 91 ∨ n = 90) ∧ resolve a = (emptyA, n)) ∨ (once a ∧ allKnown a = true ∧ resolve a = (resolved a, 0)) := by
  unfold resolve
  by_cases h : once a
  · rw [if_pos h]
    cases hk : allKnown a
    · exact .inl ⟨90, .inr rfl, rfl⟩
    · exact .inr ⟨h, rfl, rfl⟩
  · rw [if_neg h]; exact .inl ⟨91, .inl rfl, rfl⟩
theorem num_ok {α : Type} {l : List α} {g : α → Str} {n : Str} (h : known (l.map g) n = true) : ∃ (i : Nat) (v : α), posI (l.map g) n = (i : Int) ∧ i < l.length ∧ l[i]? = some v ∧ g v = n := by
  unfold known at h
  cases hp : pos (l.map g) n with
  | none => rw [hp] at h; cases h
  | some i =>
    have hg := pos_get hp
    rw [List.getElem?_map] at hg
    cases hv : l[i]? with
    | none => rw [hv] at hg; cases hg
    | some v =>
      rw [hv] at hg
      exact ⟨i, v, by unfold posI; rw [hp], (List.getElem?_eq_some_iff.1 hv).1, hv, by simpa using hg⟩
theorem get_map {α β : Type} {f : α → β} {l : List α} {j : Nat} {y : β} (h : (l.map f)[j]? = some y) : ∃ x, l[j]? = some x ∧ x ∈ l ∧ y = f x := by
  rw [List.getElem?_map] at h
  cases hx : l[j]? with
  | none => rw [hx] at h; cases h
  | some x => rw [hx] at h; exact ⟨x, rfl, List.mem_of_getElem? hx, by simpa using h.symm⟩

end Go.Am
