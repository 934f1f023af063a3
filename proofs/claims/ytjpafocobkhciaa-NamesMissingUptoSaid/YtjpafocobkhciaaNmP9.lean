/- Names: a definition that is renamed is missed. Second part: what is renamed is refused. -/
import Derived.Test.YtjpafocobkhciaaNmP8
namespace Go.Am
open Go
set_option linter.unusedVariables false
set_option linter.unusedSimpArgs false
set_option maxRecDepth 100000

theorem known_false {l : List Str} {x : Str} (h : x ∉ l) : known l x = false := by unfold known; rw [pos_none.2 h]; rfl
theorem resolve_90 {c : Airspace} (ho : once c) (hk : allKnown c = false) : resolve c = (emptyA, 90) := by
  unfold resolve; rw [if_pos ho, hk]; rfl
theorem all_false {α : Type} {l : List α} {p : α → Bool} {x : α} (hx : x ∈ l) (hp : p x = false) : l.all p = false := by
  cases h : l.all p with
  | false => rfl
  | true => rw [List.all_eq_true.1 h x hx] at hp; cases hp
theorem map_name_set {α : Type} (g : α → Str) (l : List α) (i : Nat) (y : α) : (l.set i y).map g = (l.map g).set i (g y) := by
  rw [List.map_set]
theorem miss_volume {a : Airspace} {i : Nat} {v : Volume} {N : Str} {s : Sector} (ho : once a) (hi : a.Volumes[i]? = some v) (hN : N ∉ vs a) (hs : s ∈ a.Sectors) (hm : v.Name ∈ s.Names) :
    resolve { a with Volumes := a.Volumes.set i { v with Name := N } } = (emptyA, 90) := by
  have hi' : (vs a)[i]? = some v.Name := by unfold vs; rw [List.getElem?_map, hi]; rfl
  have ev : vs { a with Volumes := a.Volumes.set i { v with Name := N } } = (vs a).set i N := map_name_set Volume.Name a.Volumes i _
  have hne : N ≠ v.Name := fun e => hN (e ▸ List.mem_of_getElem? hi')
  refine resolve_90 ?_ ?_
  · unfold once at ho ⊢
    rw [ev]
    exact ⟨nodup_set ho.1 hN, ho.2⟩
  · unfold allKnown
    rw [ev, all_false (x := s) hs (all_false hm (known_false (gone_set ho.1 hi' hne)))]
    rfl
theorem miss_sector {a : Airspace} {i : Nat} {v : Sector} {N : Str} {s : Config} (ho : once a) (hi : a.Sectors[i]? = some v) (hN : N ∉ ss a) (hs : s ∈ a.Configs) (hm : v.Name ∈ s.Names) :
    resolve { a with Sectors := a.Sectors.set i { v with Name := N } } = (emptyA, 90) := by
  have hi' : (ss a)[i]? = some v.Name := by unfold ss; rw [List.getElem?_map, hi]; rfl
  have ev : ss { a with Sectors := a.Sectors.set i { v with Name := N } } = (ss a).set i N := map_name_set Sector.Name a.Sectors i _
  have hne : N ≠ v.Name := fun e => hN (e ▸ List.mem_of_getElem? hi')
  refine resolve_90 ?_ ?_
  · unfold once at ho ⊢
    rw [ev]
    exact ⟨ho.1, nodup_set ho.2.1 hN, ho.2.2⟩
  · unfold allKnown
    rw [ev, all_false (x := s) (p := okConfig ((ss a).set i N)) hs (all_false hm (known_false (gone_set ho.2.1 hi' hne)))]
    simp
theorem miss_segment {a : Airspace} {i : Nat} {v : Segment} {N : Str} {s : Route} (ho : once a) (hi : a.Segments[i]? = some v) (hN : N ∉ gs a) (hs : s ∈ a.Routes) (hm : v.Name ∈ s.Names) :
    resolve { a with Segments := a.Segments.set i { v with Name := N } } = (emptyA, 90) := by
  have hi' : (gs a)[i]? = some v.Name := by unfold gs; rw [List.getElem?_map, hi]; rfl
  have ev : gs { a with Segments := a.Segments.set i { v with Name := N } } = (gs a).set i N := map_name_set Segment.Name a.Segments i _
  have hne : N ≠ v.Name := fun e => hN (e ▸ List.mem_of_getElem? hi')
  refine resolve_90 ?_ ?_
  · unfold once at ho ⊢
    rw [ev]
    exact ⟨ho.1, ho.2.1, ho.2.2.1, nodup_set ho.2.2.2.1 hN, ho.2.2.2.2⟩
  · unfold allKnown
    have : okRoute ((gs a).set i N) (ps a) s = false := by
      unfold okRoute
      rw [all_false (x := v.Name) hm (known_false (gone_set ho.2.2.2.1 hi' hne))]
      simp
    have h2 : a.Routes.all (okRoute ((gs a).set i N) (ps a)) = false := all_false hs this
    rw [ev]
    show (_ && a.Routes.all (okRoute ((gs a).set i N) (ps a)) && _) = false
    rw [h2]
    simp
theorem miss_class {a : Airspace} {i : Nat} {v : Class} {N : Str} {s : Rule} (ho : once a) (hi : a.Classes[i]? = some v) (hN : N ∉ ks a) (hs : s ∈ a.Rules) (hm : v.Name = s.C) :
    resolve { a with Classes := a.Classes.set i { v with Name := N } } = (emptyA, 90) := by
  have hi' : (ks a)[i]? = some v.Name := by unfold ks; rw [List.getElem?_map, hi]; rfl
  have ev : ks { a with Classes := a.Classes.set i { v with Name := N } } = (ks a).set i N := map_name_set Class.Name a.Classes i _
  have hne : N ≠ v.Name := fun e => hN (e ▸ List.mem_of_getElem? hi')
  refine resolve_90 ?_ ?_
  · unfold once at ho ⊢
    rw [ev]
    exact ⟨ho.1, ho.2.1, ho.2.2.1, ho.2.2.2.1, ho.2.2.2.2.1, ho.2.2.2.2.2.1, nodup_set ho.2.2.2.2.2.2.1 hN, ho.2.2.2.2.2.2.2⟩
  · unfold allKnown
    have : okRule (ps a) ((ks a).set i N) s = false := by
      unfold okRule
      rw [known_false (hm ▸ gone_set ho.2.2.2.2.2.2.1 hi' hne)]
      rfl
    have h2 : a.Rules.all (okRule (ps a) ((ks a).set i N)) = false := all_false hs this
    rw [ev]
    show (_ && a.Rules.all (okRule (ps a) ((ks a).set i N))) = false
    rw [h2]
    simp
end Go.Am
