/- Names: second definitions; NamesTwice. -/
import Derived.Test.YtjpafocobkhciaaNmP2
import Derived.Test.YtjpafocobkhciaaNmPc
namespace Go.Am
open Go
set_option linter.unusedVariables false
set_option linter.unusedSimpArgs false
set_option maxRecDepth 100000
set_option linter.unusedSectionVars false

theorem small_of8 {a : Airspace} {N : Nat} (h : tAirspace.bulk a ≤ N) : Small (N - 8) a := by
  have e : tAirspace.bulk a = ((tSl 2 tVolume).bulk a.Volumes + ((tSl 5 tSector).bulk a.Sectors + ((tSl 3 tConfig).bulk a.Configs + ((tSl 5 tSegment).bulk a.Segments + ((tSl 7 tRoute).bulk a.Routes + ((tSl 2 tAirport).bulk a.Airports + ((tSl 4 tClass).bulk a.Classes + ((tSl 8 tRule).bulk a.Rules + 0)))))))) + 1 := rfl
  rw [e] at h
  have h1 := tSl_len (st := 2) (T := tVolume) (fun a => Nat.le_add_left _ _) a.Volumes
  have h2 := tSl_len (st := 5) (T := tSector) (fun a => Nat.le_add_left _ _) a.Sectors
  have h3 := tSl_len (st := 3) (T := tConfig) (fun a => Nat.le_add_left _ _) a.Configs
  have h4 := tSl_len (st := 5) (T := tSegment) (fun a => Nat.le_add_left _ _) a.Segments
  have h5 := tSl_len (st := 7) (T := tRoute) (fun a => Nat.le_add_left _ _) a.Routes
  have h6 := tSl_len (st := 2) (T := tAirport) (fun a => Nat.le_add_left _ _) a.Airports
  have h7 := tSl_len (st := 4) (T := tClass) (fun a => Nat.le_add_left _ _) a.Classes
  have h8 := tSl_len (st := 8) (T := tRule) (fun a => Nat.le_add_left _ _) a.Rules
  refine ⟨by omega, by omega, by omega, by omega, by omega, by omega, by omega, by omega, fun x hx => ?_, fun x hx => ?_, fun x hx => ?_, fun x hx => ?_⟩
  · have k1 := tSl_mem (st := 5) (T := tSector) hx
    have k2 := tSl_len (st := 1) (T := tStr) tStr_one x.Names
    have k3 : (tSl 1 tStr).bulk x.Names ≤ tSector.bulk x := by simp only [tSector]; omega
    omega
  · have k1 := tSl_mem (st := 3) (T := tConfig) hx
    have k2 := tSl_len (st := 1) (T := tStr) tStr_one x.Names
    have k3 : (tSl 1 tStr).bulk x.Names ≤ tConfig.bulk x := by simp only [tConfig]; omega
    omega
  · have k1 := tSl_mem (st := 7) (T := tRoute) hx
    have k2 := tSl_len (st := 1) (T := tStr) tStr_one x.Names
    have k3 : (tSl 1 tStr).bulk x.Names ≤ tRoute.bulk x := by simp only [tRoute]; omega
    omega
  · have k1 := tSl_mem (st := 2) (T := tAirport) hx
    have k2 := tSl_len (st := 2) (T := tMode) (fun a => Nat.le_add_left _ _) x.Modes
    have k3 : (tSl 2 tMode).bulk x.Modes ≤ tAirport.bulk x := by simp only [tAirport]; omega
    omega
theorem Small.mono {N M : Nat} {a : Airspace} (h : Small N a) (hm : N ≤ M) : Small M a :=
  ⟨Nat.le_trans h.v hm, Nat.le_trans h.s hm, Nat.le_trans h.c hm, Nat.le_trans h.g hm, Nat.le_trans h.r hm, Nat.le_trans h.p hm, Nat.le_trans h.k hm, Nat.le_trans h.u hm, fun x hx => Nat.le_trans (h.sn x hx) hm, fun x hx => Nat.le_trans (h.cn x hx) hm, fun x hx => Nat.le_trans (h.rn x hx) hm, fun x hx => Nat.le_trans (h.pm x hx) hm⟩

def Ok91 (c : Airspace) : Prop := Small 1048576 c ∧ ¬ once c
theorem twice_front {α : Type} {g : α → Str} {l : List α} {x y : α} (h : (([y] ++ l).map g).Nodup) (hx : x ∈ l) (hy : g y = g x) : False := by
  simp only [List.singleton_append, List.map_cons, List.nodup_cons] at h
  exact h.1 (by rw [hy]; exact List.mem_map_of_mem hx)
theorem twice_back {α : Type} {g : α → Str} {l : List α} {x y : α} (h : ((l ++ [y]).map g).Nodup) (hx : x ∈ l) (hy : g y = g x) : False := by
  have hp : ((l ++ [y]).map g).Perm (([y] ++ l).map g) := (List.perm_append_comm).map g
  exact twice_front (hp.nodup_iff.1 h) hx hy
theorem pick {α : Type} (l : List α) {b : Int} (h0 : 0 ≤ b) (h1 : b ≤ 9223372036854775807) (hl : 0 < l.length) : ∃ (x : α) (i : Nat), x ∈ l ∧ l[i]? = some x ∧ Int.tmod (IntKind.wrap .i64 b) (l.length : Int) = (i : Int) ∧ idx l (Int.tmod (IntKind.wrap .i64 b) (l.length : Int)) = .ok x := by
  rw [wrap64 (by omega) h1]
  obtain ⟨m, rfl⟩ := Int.eq_ofNat_of_zero_le h0
  have hlt : m % l.length < l.length := Nat.mod_lt _ hl
  have e : Int.tmod (m : Int) (l.length : Int) = ((m % l.length : Nat) : Int) := (Int.ofNat_tmod m l.length).symm
  refine ⟨l[m % l.length], m % l.length, List.getElem_mem hlt, List.getElem?_eq_getElem hlt, e, ?_⟩
  rw [e]
  exact idx_nat (List.getElem?_eq_getElem hlt)
theorem rm {n c : Nat} (hn : n ≤ 1048576) (hc : c ≤ 256) : n * c ≤ LIM := Nat.le_trans (Nat.mul_le_mul hn hc) (by decide)

theorem twice_j1 (r : Bool) (l : List Airspace) (h : ∀ c ∈ l, Ok91 c) : law09_NamesTwice_j6 r l = .ok true := by
  unfold law09_NamesTwice_j6
  rw [each_keep l 0 fun j x hx => by
    have hx' := h x (List.mem_of_getElem? hx)
    simp only [law09_NamesTwice_b1, Nat.zero_add, idx_nat hx, R.ok_bind, names_Resolve_eq x hx'.1]
    unfold resolve
    rw [if_neg hx'.2]
    rfl]
  rfl
section
variable {a : Airspace} {b : Int} (hs : Small 1048568 a) (h0 : 0 ≤ b) (h1 : b ≤ 9223372036854775807)
include hs h0 h1
theorem app_ok {l : List Airspace} {c : Airspace} (hl : ∀ c ∈ l, Ok91 c) (hc : Ok91 c) : ∀ c' ∈ l ++ [c], Ok91 c' := by
  intro c' h
  rcases List.mem_append.1 h with h | h
  · exact hl c' h
  · rw [List.mem_singleton.1 h]; exact hc
theorem twice_j2 (r : Bool) (l : List Airspace) (hl : ∀ c ∈ l, Ok91 c) (hn : l.length ≤ 6) : law09_NamesTwice_j7 a b r l = .ok true := by
  have hm := hs.mono (show 1048568 ≤ 1048576 by decide)
  unfold law09_NamesTwice_j7
  by_cases hp : (a.Airports.length : Int) > 0
  · rw [if_pos hp]
    obtain ⟨x, i, hx, hi, e, hq⟩ := pick a.Airports h0 h1 (by omega)
    have hp6 := hs.p
    have hpm := hs.pm x hx
    unfold law09_NamesTwice_j5
    rw [if_pos (by omega), hq, R.ok_bind, if_pos (rm hm.p (by decide)), if_pos (rm (by simp; omega) (by decide))]
    unfold law09_NamesTwice_j4
    rw [if_pos (rm hm.p (by decide)), if_pos (by omega), if_pos (by omega), hq, R.ok_bind, if_pos (rm (by omega) (by decide)), if_pos (rm (by simp; omega) (by decide))]
    unfold law09_NamesTwice_j3
    rw [if_pos (rm (by simp; omega) (by decide)), e, Int.toNat_natCast]
    refine twice_j1 r _ fun c hc => ?_
    rcases List.mem_append.1 hc with hc | hc
    · exact hl c hc
    · simp only [List.mem_cons, List.not_mem_nil, or_false] at hc
      rcases hc with rfl | rfl
      · refine ⟨⟨hm.v, hm.s, hm.c, hm.g, hm.r, by simp; omega, hm.k, hm.u, hm.sn, hm.cn, hm.rn, fun y hy => ?_⟩, fun ho => ?_⟩
        · rcases List.mem_append.1 hy with hy | hy
          · exact hm.pm y hy
          · rw [List.mem_singleton.1 hy]; exact Nat.zero_le _
        · exact twice_back ho.2.2.2.2.2.1 hx rfl
      · have hlt : i < a.Airports.length := lt_of_get hi
        refine ⟨⟨hm.v, hm.s, hm.c, hm.g, hm.r, by simp; omega, hm.k, hm.u, hm.sn, hm.cn, hm.rn, fun y hy => ?_⟩, fun ho => ?_⟩
        · rcases List.mem_or_eq_of_mem_set hy with hy | rfl
          · exact hm.pm y hy
          · simp; omega
        · have := ho.2.2.2.2.2.2.2 _ (List.mem_set hlt _)
          rw [List.map_append] at this
          have := (List.nodup_append.1 this).2.1
          simp at this
  · rw [if_neg hp]; exact twice_j1 r l hl
theorem twice_j3 (r : Bool) (l : List Airspace) (hl : ∀ c ∈ l, Ok91 c) (hn : l.length ≤ 5) : law09_NamesTwice_j8 a b r l = .ok true := by
  have hm := hs.mono (show 1048568 ≤ 1048576 by decide)
  unfold law09_NamesTwice_j8
  by_cases hp : (a.Classes.length : Int) > 0
  · rw [if_pos hp]
    obtain ⟨x, i, hx, hi, e, hq⟩ := pick a.Classes h0 h1 (by omega)
    have hk := hs.k
    rw [if_pos (by omega), hq, R.ok_bind, if_pos (rm hm.k (by decide)), if_pos (rm (by simp; omega) (by decide))]
    unfold law09_NamesTwice_j2
    rw [if_pos (rm (by simp; omega) (by decide))]
    exact twice_j2 hs h0 h1 r _ (app_ok hs h0 h1 hl ⟨⟨hm.v, hm.s, hm.c, hm.g, hm.r, hm.p, by simp; omega, hm.u, hm.sn, hm.cn, hm.rn, hm.pm⟩, fun ho => twice_back ho.2.2.2.2.2.2.1 hx rfl⟩) (by simp; omega)
  · rw [if_neg hp]; exact twice_j2 hs h0 h1 r l hl (by omega)
theorem twice_j4 (r : Bool) (l : List Airspace) (hl : ∀ c ∈ l, Ok91 c) (hn : l.length ≤ 4) : law09_NamesTwice_j9 a b r l = .ok true := by
  have hm := hs.mono (show 1048568 ≤ 1048576 by decide)
  unfold law09_NamesTwice_j9
  by_cases hp : (a.Segments.length : Int) > 0
  · rw [if_pos hp]
    obtain ⟨x, i, hx, hi, e, hq⟩ := pick a.Segments h0 h1 (by omega)
    have hk := hs.g
    rw [if_pos (by omega), hq, R.ok_bind, if_pos (rm (by simp; omega) (by decide)), if_pos (rm (by simp; omega) (by decide))]
    exact twice_j3 hs h0 h1 r _ (app_ok hs h0 h1 hl ⟨⟨hm.v, hm.s, hm.c, by simp; omega, hm.r, hm.p, hm.k, hm.u, hm.sn, hm.cn, hm.rn, hm.pm⟩, fun ho => twice_front ho.2.2.2.1 hx rfl⟩) (by simp; omega)
  · rw [if_neg hp]; exact twice_j3 hs h0 h1 r l hl (by omega)
theorem twice_j5 (r : Bool) (l : List Airspace) (hl : ∀ c ∈ l, Ok91 c) (hn : l.length ≤ 3) : law09_NamesTwice_j10 a b r l = .ok true := by
  have hm := hs.mono (show 1048568 ≤ 1048576 by decide)
  unfold law09_NamesTwice_j10
  by_cases hp : (a.Routes.length : Int) > 0
  · rw [if_pos hp]
    obtain ⟨x, i, hx, hi, e, hq⟩ := pick a.Routes h0 h1 (by omega)
    have hk := hs.r
    rw [if_pos (by omega), hq, R.ok_bind, if_pos (rm (by simp; omega) (by decide)), if_pos (rm (by simp; omega) (by decide))]
    refine twice_j4 hs h0 h1 r _ (app_ok hs h0 h1 hl ⟨⟨hm.v, hm.s, hm.c, hm.g, by simp; omega, hm.p, hm.k, hm.u, hm.sn, hm.cn, fun y hy => ?_, hm.pm⟩, fun ho => twice_front ho.2.2.2.2.1 hx rfl⟩) (by simp; omega)
    rcases List.mem_append.1 hy with hy | hy
    · rw [List.mem_singleton.1 hy]; exact Nat.zero_le _
    · exact hm.rn y hy
  · rw [if_neg hp]; exact twice_j4 hs h0 h1 r l hl (by omega)
theorem twice_j6 (r : Bool) (l : List Airspace) (hl : ∀ c ∈ l, Ok91 c) (hn : l.length ≤ 2) : law09_NamesTwice_j11 a b r l = .ok true := by
  have hm := hs.mono (show 1048568 ≤ 1048576 by decide)
  unfold law09_NamesTwice_j11
  by_cases hp : (a.Configs.length : Int) > 0
  · rw [if_pos hp]
    obtain ⟨x, i, hx, hi, e, hq⟩ := pick a.Configs h0 h1 (by omega)
    have hk := hs.c
    rw [if_pos (by omega), hq, R.ok_bind, if_pos (rm (by simp; omega) (by decide)), if_pos (rm (by simp; omega) (by decide))]
    refine twice_j5 hs h0 h1 r _ (app_ok hs h0 h1 hl ⟨⟨hm.v, hm.s, by simp; omega, hm.g, hm.r, hm.p, hm.k, hm.u, hm.sn, fun y hy => ?_, hm.rn, hm.pm⟩, fun ho => twice_front ho.2.2.1 hx rfl⟩) (by simp; omega)
    rcases List.mem_append.1 hy with hy | hy
    · rw [List.mem_singleton.1 hy]; exact Nat.zero_le _
    · exact hm.cn y hy
  · rw [if_neg hp]; exact twice_j5 hs h0 h1 r l hl (by omega)
theorem twice_j7 (r : Bool) (l : List Airspace) (hl : ∀ c ∈ l, Ok91 c) (hn : l.length ≤ 1) : law09_NamesTwice_j12 a b r l = .ok true := by
  have hm := hs.mono (show 1048568 ≤ 1048576 by decide)
  unfold law09_NamesTwice_j12
  by_cases hp : (a.Sectors.length : Int) > 0
  · rw [if_pos hp]
    obtain ⟨x, i, hx, hi, e, hq⟩ := pick a.Sectors h0 h1 (by omega)
    have hk := hs.s
    rw [if_pos (by omega), hq, R.ok_bind, if_pos (rm (by simp; omega) (by decide)), if_pos (rm (by simp; omega) (by decide))]
    refine twice_j6 hs h0 h1 r _ (app_ok hs h0 h1 hl ⟨⟨hm.v, by simp; omega, hm.c, hm.g, hm.r, hm.p, hm.k, hm.u, fun y hy => ?_, hm.cn, hm.rn, hm.pm⟩, fun ho => twice_front ho.2.1 hx rfl⟩) (by simp; omega)
    rcases List.mem_append.1 hy with hy | hy
    · rw [List.mem_singleton.1 hy]; exact Nat.zero_le _
    · exact hm.sn y hy
  · rw [if_neg hp]; exact twice_j6 hs h0 h1 r l hl (by omega)
end
theorem law_NamesTwice : Law_NamesTwice := by
  intro a b _ hg hb
  have hs : Small 1048568 a := small_of8 (Nat.le_trans (Nat.le_add_right _ _) hb)
  have hm := hs.mono (show 1048568 ≤ 1048576 by decide)
  have hb2 : 0 ≤ b ∧ b ≤ 255 := by
    have : (Lit.int .u8 b).wf = true := hg
    simpa [Lit.wf, IntKind.min, IntKind.max, IntKind.signed, IntKind.bits] using this
  unfold law09_NamesTwice
  rw [sane_true, R.ok_bind, if_pos rfl]
  obtain ⟨q, hf⟩ := few_some a
  rw [hf, R.ok_bind]
  cases q
  · rfl
  rw [if_pos rfl, names_Resolve_eq a hm, R.ok_bind]
  split
  · rfl
  · by_cases hp : (a.Volumes.length : Int) > 0
    · rw [if_pos hp]
      obtain ⟨x, i, hx, hi, e, hq⟩ := pick a.Volumes hb2.1 (by omega) (by omega)
      have hk := hs.v
      rw [if_pos (by omega), hq, R.ok_bind, if_pos (rm hm.v (by decide)), if_pos (rm (by simp; omega) (by decide))]
      unfold law09_NamesTwice_j1
      rw [if_pos (by show 1 * 192 ≤ LIM; decide)]
      refine twice_j7 hs hb2.1 (by omega) true _ (fun c hc => ?_) (by simp)
      rw [List.mem_singleton.1 hc]
      exact ⟨⟨by simp; omega, hm.s, hm.c, hm.g, hm.r, hm.p, hm.k, hm.u, hm.sn, hm.cn, hm.rn, hm.pm⟩, fun ho => twice_back ho.1 hx rfl⟩
    · rw [if_neg hp]; exact twice_j7 hs hb2.1 (by omega) true [] (fun c hc => by cases hc) (by simp)
end Go.Am
