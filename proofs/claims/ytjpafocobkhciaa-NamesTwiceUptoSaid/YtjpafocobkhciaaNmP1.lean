/- Names: what Resolve computes, in the program and in the reference. -/
import Derived.Test.YtjpafocobkhciaaPlBase
import Derived.Test.YtjpafocobkhciaaNmG
namespace Go.Am
open Go
set_option linter.unusedVariables false
set_option linter.unusedSimpArgs false
set_option maxRecDepth 100000

abbrev p91 : PV := ⟨34, .int .i64 91⟩
abbrev p90 : PV := ⟨34, .int .i64 90⟩
theorem must_eq (b : Bool) (e : Int) : names_must b e = if b then .ok () else .pan ⟨34, .int .i64 e⟩ := rfl
/-- The names' table gives each name its place. -/
def Nums (M : List (Str × Int)) (ns : List Str) : Prop := ∀ x, mget M x = (pos ns x).map fun i => (i : Int)
def known (ns : List Str) (x : Str) : Bool := (pos ns x).isSome
def IdxIs (ns : List Str) (m : R (List (Str × Int))) : Prop := (ns.Nodup ∧ ∃ M, m = .ok M ∧ Nums M ns) ∨ (¬ ns.Nodup ∧ m = .pan p91)

theorem step_idx {m : List (Str × Int)} {x : Str} {j : Nat} : ((names_must (!(Option.isSome (mget m x))) 91).bind fun _ => (.ok (mput m x (j : Int)) : R (List (Str × Int)))) = if (mget m x).isSome then .pan p91 else .ok (mput m x (j : Int)) := by
  rw [must_eq]
  cases (mget m x).isSome <;> simp
theorem index_Volume (l : List Volume) : IdxIs (l.map (·.Name)) (names_index_Volume_volume l) := by
  have := eachS_number0 (b := fun j a => fun m => names_index_Volume_volume_b1 j a m) (g := (·.Name)) (v := p91) (fun j a m => by simp only [names_index_Volume_volume_b1, names_volume, R.ok_bind, step_idx]) l
  simpa [IdxIs, Nums, names_index_Volume_volume] using this
theorem index_Sector (l : List Sector) : IdxIs (l.map (·.Name)) (names_index_Sector_c2 l) := by
  have := eachS_number0 (b := fun j a => fun m => names_index_Sector_c2_b1 j a m) (g := (·.Name)) (v := p91) (fun j a m => by simp only [names_index_Sector_c2_b1, names_Resolve_c2, R.ok_bind, step_idx]) l
  simpa [IdxIs, Nums, names_index_Sector_c2] using this
theorem index_Config (l : List Config) : IdxIs (l.map (·.Name)) (names_index_Config_c3 l) := by
  have := eachS_number0 (b := fun j a => fun m => names_index_Config_c3_b1 j a m) (g := (·.Name)) (v := p91) (fun j a m => by simp only [names_index_Config_c3_b1, names_Resolve_c3, R.ok_bind, step_idx]) l
  simpa [IdxIs, Nums, names_index_Config_c3] using this
theorem index_Segment (l : List Segment) : IdxIs (l.map (·.Name)) (names_index_Segment_c4 l) := by
  have := eachS_number0 (b := fun j a => fun m => names_index_Segment_c4_b1 j a m) (g := (·.Name)) (v := p91) (fun j a m => by simp only [names_index_Segment_c4_b1, names_Resolve_c4, R.ok_bind, step_idx]) l
  simpa [IdxIs, Nums, names_index_Segment_c4] using this
theorem index_Route (l : List Route) : IdxIs (l.map (·.Name)) (names_index_Route_c5 l) := by
  have := eachS_number0 (b := fun j a => fun m => names_index_Route_c5_b1 j a m) (g := (·.Name)) (v := p91) (fun j a m => by simp only [names_index_Route_c5_b1, names_Resolve_c5, R.ok_bind, step_idx]) l
  simpa [IdxIs, Nums, names_index_Route_c5] using this
theorem index_Airport (l : List Airport) : IdxIs (l.map (·.Name)) (names_index_Airport_airport l) := by
  have := eachS_number0 (b := fun j a => fun m => names_index_Airport_airport_b1 j a m) (g := (·.Name)) (v := p91) (fun j a m => by simp only [names_index_Airport_airport_b1, names_airport, R.ok_bind, step_idx]) l
  simpa [IdxIs, Nums, names_index_Airport_airport] using this
theorem index_Class (l : List Class) : IdxIs (l.map (·.Name)) (names_index_Class_class l) := by
  have := eachS_number0 (b := fun j a => fun m => names_index_Class_class_b1 j a m) (g := (·.Name)) (v := p91) (fun j a m => by simp only [names_index_Class_class_b1, names_class, R.ok_bind, step_idx]) l
  simpa [IdxIs, Nums, names_index_Class_class] using this
theorem index_Mode (l : List Mode) : IdxIs (l.map (·.Name)) (names_index_Mode_c6 l) := by
  have := eachS_number0 (b := fun j a => fun m => names_index_Mode_c6_b1 j a m) (g := (·.Name)) (v := p91) (fun j a m => by simp only [names_index_Mode_c6_b1, names_Resolve_c6, R.ok_bind, step_idx]) l
  simpa [IdxIs, Nums, names_index_Mode_c6] using this

theorem of_eq {M : List (Str × Int)} {ns : List Str} (h : Nums M ns) (x : Str) : names_numbers_of M x = if known ns x then .ok (posI ns x) else .pan p90 := by
  unfold names_numbers_of known posI
  rw [h x, must_eq]
  cases pos ns x <;> simp
theorem all_eq {M : List (Str × Int)} {ns : List Str} (h : Nums M ns) (l : List Str) (hl : l.length * 8 ≤ LIM) : names_numbers_all M l = if l.all (known ns) then .ok (l.map (posI ns)) else .pan p90 := by
  unfold names_numbers_all
  rw [eachS_appR (F := names_numbers_of M) (c := 8) (fun j a s => by simp [names_numbers_all_b1]) l 0 [] (by simpa using hl), rmap_ok (G := posI ns) (p := known ns) (v := p90) l (fun a _ => of_eq h a)]
  cases l.all (known ns) <;> simp
/-! ### the parts -/
def resSector (vs : List Str) (s : Sector) : Sector := { s with Volumes := s.Names.map (posI vs) }
def resConfig (ss : List Str) (s : Config) : Config := { s with Sectors := s.Names.map (posI ss) }
def resSegment (vs : List Str) (s : Segment) : Segment := { s with Volume := posI vs s.In }
def resRoute (gs ps : List Str) (r : Route) : Route := { r with From := posI ps r.A, To := posI ps r.B, Segments := r.Names.map (posI gs) }
def resRule (ps cs : List Str) (r : Rule) : Rule := { r with Class := posI cs r.C, Airport := if r.Kind == 1 then posI ps r.A else 0 }
def okSector (vs : List Str) (s : Sector) : Bool := s.Names.all (known vs)
def okConfig (ss : List Str) (s : Config) : Bool := s.Names.all (known ss)
def okSegment (vs : List Str) (s : Segment) : Bool := known vs s.In
def okRoute (gs ps : List Str) (r : Route) : Bool := known ps r.A && known ps r.B && r.Names.all (known gs)
def okRule (ps cs : List Str) (r : Rule) : Bool := known cs r.C && (!(r.Kind == 1) || known ps r.A)

/-- The lists are no longer than so. -/
structure Small (N : Nat) (a : Airspace) : Prop where
  v : a.Volumes.length ≤ N
  s : a.Sectors.length ≤ N
  c : a.Configs.length ≤ N
  g : a.Segments.length ≤ N
  r : a.Routes.length ≤ N
  p : a.Airports.length ≤ N
  k : a.Classes.length ≤ N
  u : a.Rules.length ≤ N
  sn : ∀ x ∈ a.Sectors, x.Names.length ≤ N
  cn : ∀ x ∈ a.Configs, x.Names.length ≤ N
  rn : ∀ x ∈ a.Routes, x.Names.length ≤ N
  pm : ∀ x ∈ a.Airports, x.Modes.length ≤ N
theorem small_of {a : Airspace} {N : Nat} (h : tAirspace.bulk a ≤ N) : Small N a := by
  have e : tAirspace.bulk a = ((tSl 2 tVolume).bulk a.Volumes + ((tSl 5 tSector).bulk a.Sectors + ((tSl 3 tConfig).bulk a.Configs + ((tSl 5 tSegment).bulk a.Segments + ((tSl 7 tRoute).bulk a.Routes + ((tSl 2 tAirport).bulk a.Airports + ((tSl 4 tClass).bulk a.Classes + ((tSl 8 tRule).bulk a.Rules + 0)))))))) + 1 := rfl
  rw [e] at h
  have h1 := tSl_len (st := 2) (T := tVolume) (fun a => Nat.le_add_left _ _) a.Volumes
  have h2 := tSl_len (st := 5) (T := tSector) (fun a => Nat.le_add_left _ _) a.Sectors
  have h3 := tSl_len (st := 3) (T := tConfig) (fun a => Nat.le_add_left _ _) a.Configs
  have h4 := tSl_len (st := 5) (T := tSegment) (fun a => Nat.le_add_left _ _) a.Segments
  have h5 := tSl_len (st := 7) (T := tRoute) (fun a => Nat.le_add_left _ _) a.Routes
  have h6 := tSl_len (st := 2) (T := tAirport) (fun a => Nat.le_add_left _ _) a.Airports
  have h7 := tSl_len (st := 4) (T := tClass) (fun a => Nat.le_add_left _ _) a.Classes
  have h8 := tSl_len (st := 8) (T := tRule) (fun a => Nat.le_add_left _ _) a.Rules
  refine ⟨by omega, by omega, by omega, by omega, by omega, by omega, by omega, by omega, fun x hx => ?_, fun x hx => ?_, fun x hx => ?_, fun x hx => ?_⟩
  · have k1 := tSl_mem (st := 5) (T := tSector) hx
    have k2 := tSl_len (st := 1) (T := tStr) tStr_one x.Names
    have k3 : (tSl 1 tStr).bulk x.Names ≤ tSector.bulk x := by simp only [tSector]; omega
    omega
  · have k1 := tSl_mem (st := 3) (T := tConfig) hx
    have k2 := tSl_len (st := 1) (T := tStr) tStr_one x.Names
    have k3 : (tSl 1 tStr).bulk x.Names ≤ tConfig.bulk x := by simp only [tConfig]; omega
    omega
  · have k1 := tSl_mem (st := 7) (T := tRoute) hx
    have k2 := tSl_len (st := 1) (T := tStr) tStr_one x.Names
    have k3 : (tSl 1 tStr).bulk x.Names ≤ tRoute.bulk x := by simp only [tRoute]; omega
    omega
  · have k1 := tSl_mem (st := 2) (T := tAirport) hx
    have k2 := tSl_len (st := 2) (T := tMode) (fun a => Nat.le_add_left _ _) x.Modes
    have k3 : (tSl 2 tMode).bulk x.Modes ≤ tAirport.bulk x := by simp only [tAirport]; omega
    omega

/-! ### what both compute -/
def vs (a : Airspace) : List Str := a.Volumes.map (·.Name)
def ss (a : Airspace) : List Str := a.Sectors.map (·.Name)
def cs (a : Airspace) : List Str := a.Configs.map (·.Name)
def gs (a : Airspace) : List Str := a.Segments.map (·.Name)
def rs (a : Airspace) : List Str := a.Routes.map (·.Name)
def ps (a : Airspace) : List Str := a.Airports.map (·.Name)
def ks (a : Airspace) : List Str := a.Classes.map (·.Name)
def emptyA : Airspace := { Volumes := [], Sectors := [], Configs := [], Segments := [], Routes := [], Airports := [], Classes := [], Rules := [] }
def once (a : Airspace) : Prop := (vs a).Nodup ∧ (ss a).Nodup ∧ (cs a).Nodup ∧ (gs a).Nodup ∧ (rs a).Nodup ∧ (ps a).Nodup ∧ (ks a).Nodup ∧ ∀ p ∈ a.Airports, (p.Modes.map (·.Name)).Nodup
instance (a : Airspace) : Decidable (once a) := by unfold once; infer_instance
def allKnown (a : Airspace) : Bool := a.Sectors.all (okSector (vs a)) && a.Configs.all (okConfig (ss a)) && a.Segments.all (okSegment (vs a)) && a.Routes.all (okRoute (gs a) (ps a)) && a.Rules.all (okRule (ps a) (ks a))
def resolved (a : Airspace) : Airspace := { a with Sectors := a.Sectors.map (resSector (vs a)), Configs := a.Configs.map (resConfig (ss a)), Segments := a.Segments.map (resSegment (vs a)), Routes := a.Routes.map (resRoute (gs a) (ps a)), Rules := a.Rules.map (resRule (ps a) (ks a)) }
def resolve (a : Airspace) : Airspace × Int := if once a then (if allKnown a then (resolved a, 0) else (emptyA, 90)) else (emptyA, 91)
end Go.Am
