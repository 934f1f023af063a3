/- Names: the program's Resolve computes it. -/
import Derived.Test.YtjpafocobkhciaaNmP1
namespace Go.Am
open Go
set_option linter.unusedVariables false
set_option linter.unusedSimpArgs false
set_option maxRecDepth 100000

theorem step_sector {M : List (Str × Int)} {ns : List Str} (h : Nums M ns) (l : List Sector) (hl : ∀ x ∈ l, x.Names.length * 8 ≤ LIM) :
    eachS (fun j1 _ => fun x2 => names_Resolve_b2 M j1 x2) 0 l l = if l.all (okSector ns) then .ok (l.map (resSector ns)) else .pan p90 := by
  rw [eachS_over0 (F := fun s => (names_numbers_all M s.Names).bind fun v => .ok { s with Volumes := v }) (fun j a s x hx => by simp [names_Resolve_b2, idx_nat hx, R.bind_assoc]) l l rfl]
  exact rmap_ok l fun s hs => by
    rw [all_eq h _ (hl s hs)]
    show _ = if s.Names.all (known ns) then _ else _
    cases s.Names.all (known ns) <;> rfl
theorem step_config {M : List (Str × Int)} {ns : List Str} (h : Nums M ns) (l : List Config) (hl : ∀ x ∈ l, x.Names.length * 8 ≤ LIM) :
    eachS (fun j1 _ => fun x2 => names_Resolve_b3 M j1 x2) 0 l l = if l.all (okConfig ns) then .ok (l.map (resConfig ns)) else .pan p90 := by
  rw [eachS_over0 (F := fun s => (names_numbers_all M s.Names).bind fun v => .ok { s with Sectors := v }) (fun j a s x hx => by simp [names_Resolve_b3, idx_nat hx, R.bind_assoc]) l l rfl]
  exact rmap_ok l fun s hs => by
    rw [all_eq h _ (hl s hs)]
    show _ = if s.Names.all (known ns) then _ else _
    cases s.Names.all (known ns) <;> rfl
theorem step_segment {M : List (Str × Int)} {ns : List Str} (h : Nums M ns) (l : List Segment) :
    eachS (fun j1 _ => fun x2 => names_Resolve_b4 M j1 x2) 0 l l = if l.all (okSegment ns) then .ok (l.map (resSegment ns)) else .pan p90 := by
  rw [eachS_over0 (F := fun s => (names_numbers_of M s.In).bind fun v => .ok { s with Volume := v }) (fun j a s x hx => by simp [names_Resolve_b4, idx_nat hx, R.bind_assoc]) l l rfl]
  exact rmap_ok l fun s hs => by
    rw [of_eq h]
    show _ = if known ns s.In then _ else _
    cases known ns s.In <;> rfl
theorem step_route {M M' : List (Str × Int)} {ns qs : List Str} (h : Nums M ns) (h' : Nums M' qs) (l : List Route) (hl : ∀ x ∈ l, x.Names.length * 8 ≤ LIM) :
    eachS (fun j4 _ => fun l => names_Resolve_b5 M M' j4 l) 0 l l = if l.all (okRoute ns qs) then .ok (l.map (resRoute ns qs)) else .pan p90 := by
  rw [eachS_over0 (F := fun s => (names_numbers_of M' s.A).bind fun x => (names_numbers_of M' s.B).bind fun y => (names_numbers_all M s.Names).bind fun v => .ok { s with From := x, To := y, Segments := v })
    (fun j a s x hx => by simp [names_Resolve_b5, idx_nat hx, R.bind_assoc, List.set_set]) l l rfl]
  exact rmap_ok l fun s hs => by
    rw [all_eq h _ (hl s hs), of_eq h', of_eq h']
    show _ = if known qs s.A && known qs s.B && s.Names.all (known ns) then _ else _
    cases known qs s.A <;> cases known qs s.B <;> cases s.Names.all (known ns) <;> rfl
theorem step_rule {M M' : List (Str × Int)} {ns qs : List Str} (h : Nums M ns) (h' : Nums M' qs) (l : List Rule) :
    eachS (fun j5 _ => fun l1 => names_Resolve_b6 M M' j5 l1) 0 l l = if l.all (okRule ns qs) then .ok (l.map (resRule ns qs)) else .pan p90 := by
  rw [eachS_over0 (F := fun s => (names_numbers_of M' s.C).bind fun x => if s.Kind == 1 then (names_numbers_of M s.A).bind fun y => .ok { s with Class := x, Airport := y } else .ok { s with Class := x, Airport := 0 })
    (fun j a s x hx => by
      simp only [names_Resolve_b6, idx_nat hx, R.bind_assoc, List.set_set, R.ok_bind, Int.toNat_natCast]
      congr 1
      funext y
      split <;> simp [R.bind_assoc]) l l rfl]
  exact rmap_ok l fun s hs => by
    rw [of_eq h', of_eq h]
    show _ = if known qs s.C && (!(s.Kind == 1) || known ns s.A) then R.ok { s with Class := posI qs s.C, Airport := if s.Kind == 1 then posI ns s.A else 0 } else _
    cases known qs s.C <;> cases known ns s.A <;> cases hk : (s.Kind == 1) <;> simp
theorem step_modes (l : List Airport) : eachS (fun _ a1 => fun _ => names_Resolve_b1 a1) 0 l () = if ∀ p ∈ l, (p.Modes.map (·.Name)).Nodup then .ok () else .pan p91 := by
  have : ∀ (l : List Airport) (k : Nat), eachS (fun _ a1 => fun _ => names_Resolve_b1 a1) k l () = if ∀ p ∈ l, (p.Modes.map (·.Name)).Nodup then .ok () else .pan p91 := by
    intro l
    induction l with
    | nil => intro k; simp [eachS_nil']
    | cons a l ih =>
      intro k
      rw [eachS_cons', names_Resolve_b1]
      rcases index_Mode a.Modes with ⟨h1, M, h2, _⟩ | ⟨h1, h2⟩
      · rw [h2]; simp only [R.ok_bind]; rw [ih]; simp [h1]
      · rw [h2]; simp [h1]
  exact this l 0

theorem names_Resolve_eq (a : Airspace) (hs : Small 1048576 a) : names_Resolve a = .ok (resolve a) := by
  have hm : names_Resolve_m a = if once a then (if allKnown a then .ok (resolved a, 0) else .pan p90) else .pan p91 := by
    unfold names_Resolve_m
    rcases index_Volume a.Volumes with ⟨h1, M1, e1, n1⟩ | ⟨h1, e1⟩
    case inr => rw [e1, if_neg (fun h : once a => h1 h.1)]; rfl
    rcases index_Sector a.Sectors with ⟨h2, M2, e2, n2⟩ | ⟨h2, e2⟩
    case inr => rw [e1, e2, if_neg (fun h : once a => h2 h.2.1)]; rfl
    rcases index_Config a.Configs with ⟨h3, M3, e3, n3⟩ | ⟨h3, e3⟩
    case inr => rw [e1, e2, e3, if_neg (fun h : once a => h3 h.2.2.1)]; rfl
    rcases index_Segment a.Segments with ⟨h4, M4, e4, n4⟩ | ⟨h4, e4⟩
    case inr => rw [e1, e2, e3, e4, if_neg (fun h : once a => h4 h.2.2.2.1)]; rfl
    rcases index_Route a.Routes with ⟨h5, M5, e5, n5⟩ | ⟨h5, e5⟩
    case inr => rw [e1, e2, e3, e4, e5, if_neg (fun h : once a => h5 h.2.2.2.2.1)]; rfl
    rcases index_Airport a.Airports with ⟨h6, M6, e6, n6⟩ | ⟨h6, e6⟩
    case inr => rw [e1, e2, e3, e4, e5, e6, if_neg (fun h : once a => h6 h.2.2.2.2.2.1)]; rfl
    rcases index_Class a.Classes with ⟨h7, M7, e7, n7⟩ | ⟨h7, e7⟩
    case inr => rw [e1, e2, e3, e4, e5, e6, e7, if_neg (fun h : once a => h7 h.2.2.2.2.2.2.1)]; rfl
    rw [e1, e2, e3, e4, e5, e6, e7]
    simp only [R.ok_bind, step_modes]
    by_cases h8 : ∀ p ∈ a.Airports, (p.Modes.map (·.Name)).Nodup
    case neg => rw [if_neg h8, if_neg (fun h : once a => h8 h.2.2.2.2.2.2.2)]; rfl
    have ho : once a := ⟨h1, h2, h3, h4, h5, h6, h7, h8⟩
    rw [if_pos h8, if_pos ho]
    have hL : ∀ n c : Nat, n ≤ 1048576 → c ≤ 128 → n * c ≤ LIM := fun n c hn hc => Nat.le_trans (Nat.mul_le_mul hn hc) (by decide)
    simp only [R.ok_bind, slices_Clone_Sector, slices_Clone_Config, slices_Clone_Segment, slices_Clone_Route, slices_Clone_Rule, hL _ _ hs.s (show 80 ≤ 128 by decide), hL _ _ hs.c (show 64 ≤ 128 by decide), hL _ _ hs.g (show 72 ≤ 128 by decide), hL _ _ hs.r (show 112 ≤ 128 by decide), hL _ _ hs.u (show 80 ≤ 128 by decide), if_true,
      step_sector n1 _ (fun x hx => hL _ _ (hs.sn x hx) (by decide)), step_config n2 _ (fun x hx => hL _ _ (hs.cn x hx) (by decide)), step_segment n1, step_route n4 n6 _ (fun x hx => hL _ _ (hs.rn x hx) (by decide)), step_rule n6 n7]
    unfold allKnown resolved vs ss gs ps ks
    cases a.Sectors.all (okSector (a.Volumes.map (·.Name))) <;> cases a.Configs.all (okConfig (a.Sectors.map (·.Name))) <;> cases a.Segments.all (okSegment (a.Volumes.map (·.Name))) <;> cases a.Routes.all (okRoute (a.Segments.map (·.Name)) (a.Airports.map (·.Name))) <;> cases a.Rules.all (okRule (a.Airports.map (·.Name)) (a.Classes.map (·.Name))) <;> rfl
  unfold names_Resolve resolve
  rw [hm]
  by_cases h1 : once a
  · rw [if_pos h1, if_pos h1]
    cases allKnown a <;> rfl
  · rw [if_neg h1, if_neg h1]; rfl
end Go.Am
