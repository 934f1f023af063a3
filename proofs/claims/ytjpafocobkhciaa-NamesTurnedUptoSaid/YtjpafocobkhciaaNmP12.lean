/- Names: the order of definitions; NamesTurned. -/
import Derived.Test.YtjpafocobkhciaaNmP5
import Derived.Test.YtjpafocobkhciaaNmPc
import Derived.Test.YtjpafocobkhciaaNmP4v
namespace Go.Am
open Go
set_option linter.unusedVariables false
set_option linter.unusedSimpArgs false
set_option maxRecDepth 100000

theorem known_mem (l : List Str) (x : Str) : known l x = decide (x ∈ l) := by
  unfold known
  by_cases h : x ∈ l
  · cases hp : pos l x with
    | none => exact absurd h (pos_none.1 hp)
    | some i => simp [h]
  · rw [pos_none.2 h]; simp [h]
theorem known_perm {l m : List Str} (h : l.Perm m) : known l = known m := by
  funext x
  rw [known_mem, known_mem, decide_eq_decide]
  exact h.mem_iff
theorem rot_perm {α : Type} (l : List α) (k : Nat) : (l.drop k ++ l.take k).Perm l := by
  have h := List.perm_append_comm (l₁ := l.drop k) (l₂ := l.take k)
  rwa [List.take_append_drop] at h
/-- Alike but for the order of three kinds. -/
structure Turned (a b : Airspace) : Prop where
  v : b.Volumes.Perm a.Volumes
  p : b.Airports.Perm a.Airports
  k : b.Classes.Perm a.Classes
  s : b.Sectors = a.Sectors
  c : b.Configs = a.Configs
  g : b.Segments = a.Segments
  r : b.Routes = a.Routes
  u : b.Rules = a.Rules
theorem Turned.once {a b : Airspace} (h : Turned a b) : once b ↔ once a := by
  unfold Go.Am.once
  have hv : (vs b).Perm (vs a) := h.v.map _
  have hp : (ps b).Perm (ps a) := h.p.map _
  have hk : (ks b).Perm (ks a) := h.k.map _
  have e1 : ss b = ss a := by unfold ss; rw [h.s]
  have e2 : cs b = cs a := by unfold cs; rw [h.c]
  have e3 : gs b = gs a := by unfold gs; rw [h.g]
  have e4 : rs b = rs a := by unfold rs; rw [h.r]
  rw [hv.nodup_iff, hp.nodup_iff, hk.nodup_iff, e1, e2, e3, e4]
  have : (∀ p ∈ b.Airports, (p.Modes.map (·.Name)).Nodup) ↔ ∀ p ∈ a.Airports, (p.Modes.map (·.Name)).Nodup := ⟨fun q p hp' => q p (h.p.mem_iff.2 hp'), fun q p hp' => q p (h.p.mem_iff.1 hp')⟩
  rw [this]
theorem Turned.known {a b : Airspace} (h : Turned a b) : allKnown b = allKnown a := by
  unfold allKnown
  have hv : Go.Am.known (vs b) = Go.Am.known (vs a) := known_perm (h.v.map _)
  have hp : Go.Am.known (ps b) = Go.Am.known (ps a) := known_perm (h.p.map _)
  have hk : Go.Am.known (ks b) = Go.Am.known (ks a) := known_perm (h.k.map _)
  have e1 : ss b = ss a := by unfold ss; rw [h.s]
  have e3 : gs b = gs a := by unfold gs; rw [h.g]
  have f1 : okSector (vs b) = okSector (vs a) := by funext s; unfold okSector; rw [hv]
  have f2 : okConfig (ss b) = okConfig (ss a) := by rw [e1]
  have f3 : okSegment (vs b) = okSegment (vs a) := by funext s; unfold okSegment; rw [hv]
  have f4 : okRoute (gs b) (ps b) = okRoute (gs a) (ps a) := by funext s; unfold okRoute; rw [hp, e3]
  have f5 : okRule (ps b) (ks b) = okRule (ps a) (ks a) := by funext s; unfold okRule; rw [hp, hk]
  rw [f1, f2, f3, f4, f5, h.s, h.c, h.g, h.r, h.u]
theorem Turned.small {a b : Airspace} (h : Turned a b) {N : Nat} (hs : Small N a) : Small N b :=
  ⟨by rw [h.v.length_eq]; exact hs.v, by rw [h.s]; exact hs.s, by rw [h.c]; exact hs.c, by rw [h.g]; exact hs.g, by rw [h.r]; exact hs.r, by rw [h.p.length_eq]; exact hs.p, by rw [h.k.length_eq]; exact hs.k, by rw [h.u]; exact hs.u,
   by rw [h.s]; exact hs.sn, by rw [h.c]; exact hs.cn, by rw [h.r]; exact hs.rn, fun x hx => hs.pm x (h.p.mem_iff.1 hx)⟩
theorem found_known {l : List Str} {x : Str} (h : Go.Am.known l x = true) : foundIn l x = (posI l x, true) := by
  unfold Go.Am.known at h
  unfold foundIn posI
  cases hp : pos l x with
  | none => rw [hp] at h; cases h
  | some i => rfl
theorem turned_j1 {a : Airspace} {V : List Volume} {A : List Airport} {C : List Class} (r : Bool) (hs : Small 1048576 a) (h : Turned a { a with Volumes := V, Airports := A, Classes := C }) : law09_NamesTurned_j1 a r V A C = .ok true := by
  generalize hb : ({ a with Volumes := V, Airports := A, Classes := C } : Airspace) = b at h
  have hb' : ({ Volumes := V, Sectors := a.Sectors, Configs := a.Configs, Segments := a.Segments, Routes := a.Routes, Airports := A, Classes := C, Rules := a.Rules } : Airspace) = b := hb
  unfold law09_NamesTurned_j1
  rw [hb', names_Resolve_eq a hs, names_Resolve_eq b (h.small hs)]
  simp only [R.ok_bind]
  unfold resolve
  by_cases ho : once a
  · have ho' := h.once.2 ho
    rw [if_pos ho, if_pos ho', h.known]
    cases hk : allKnown a
    · rfl
    · have hkb : allKnown b = true := by rw [h.known]; exact hk
      simp only [if_true]
      rw [if_neg (by decide), if_neg (by decide)]
      rw [if_neg (by simp [resolved, h.g, h.u])]
      have parts : (∀ s ∈ b.Segments, okSegment (vs b) s = true) ∧ (∀ s ∈ b.Routes, okRoute (gs b) (ps b) s = true) ∧ ∀ s ∈ b.Rules, okRule (ps b) (ks b) s = true := by
        unfold allKnown at hkb
        simp only [Bool.and_eq_true, List.all_eq_true] at hkb
        exact ⟨hkb.1.1.2, hkb.1.2, hkb.2⟩
      have l1 : ∀ (j : Nat) x, (resolved b).Segments[j]? = some x → law09_NamesTurned_b1 a V A C x = .ok (.inl ()) := by
        intro j x hx
        obtain ⟨y, _, hy, rfl⟩ := get_map (f := resSegment (vs b)) hx
        have := parts.1 y hy
        unfold law09_NamesTurned_b1
        rw [hb', names_Volume_eq]
        simp only [R.ok_bind, resSegment]
        rw [found_known this]
        simp
      have l2 : ∀ (j : Nat) x, (resolved b).Routes[j]? = some x → law09_NamesTurned_b2 a V A C x = .ok (.inl ()) := by
        intro j x hx
        obtain ⟨y, _, hy, rfl⟩ := get_map (f := resRoute (gs b) (ps b)) hx
        have := parts.2.1 y hy
        unfold okRoute at this
        simp only [Bool.and_eq_true] at this
        unfold law09_NamesTurned_b2
        rw [hb', names_Airport_eq, names_Airport_eq]
        simp only [R.ok_bind, resRoute]
        rw [found_known this.1.1, found_known this.1.2]
        simp
      have l3 : ∀ (j : Nat) x, (resolved b).Rules[j]? = some x → law09_NamesTurned_b3 a V A C x = .ok (.inl ()) := by
        intro j x hx
        obtain ⟨y, _, hy, rfl⟩ := get_map (f := resRule (ps b) (ks b)) hx
        have := parts.2.2 y hy
        unfold okRule at this
        simp only [Bool.and_eq_true] at this
        unfold law09_NamesTurned_b3
        rw [hb', names_Class_eq]
        simp only [R.ok_bind, resRule]
        rw [found_known this.1]
        simp
      rw [each_keep _ 0 (fun j x hx => l1 j x hx)]
      simp only [R.ok_bind, alt]
      rw [each_keep _ 0 (fun j x hx => l2 j x hx)]
      simp only [R.ok_bind, alt]
      rw [each_keep _ 0 (fun j x hx => l3 j x hx)]
      rfl
  · have ho' : ¬ once b := fun e => ho (h.once.1 e)
    rw [if_neg ho, if_neg ho']
    rfl
theorem turn_mod {n : Nat} (hn : 0 < n) {b : Int} (h0 : 0 ≤ b) (h1 : b ≤ 9223372036854775807) : ∃ k : Nat, Int.tmod (IntKind.wrap .i64 b) (n : Int) = (k : Int) ∧ k ≤ n := by
  rw [wrap64 (by omega) h1]
  obtain ⟨m, rfl⟩ : ∃ m : Nat, b = (m : Int) := ⟨b.toNat, by omega⟩
  exact ⟨m % n, (Int.ofNat_tmod m n).symm, Nat.le_of_lt (Nat.mod_lt _ hn)⟩
theorem turn_step {α β : Type} (l : List α) (c : Nat) {b : Int} (h0 : 0 ≤ b) (h1 : b ≤ 9223372036854775807) (hl : l.length * c ≤ LIM) (F : List α → R β) {v : R β} (hF : ∀ m : List α, m.Perm l → F m = v) :
    (if (l.length : Int) > 0 then (if (l.length : Int) ≠ 0 then if 0 ≤ (Int.tmod (IntKind.wrap .i64 b) (l.length : Int)) ∧ (Int.tmod (IntKind.wrap .i64 b) (l.length : Int)) ≤ (l.length : Int) then
      if 0 ≤ (Int.tmod (IntKind.wrap .i64 b) (l.length : Int)) ∧ (Int.tmod (IntKind.wrap .i64 b) (l.length : Int)) ≤ (l.length : Int) then
      if (l.drop (Int.toNat (Int.tmod (IntKind.wrap .i64 b) (l.length : Int)))).length * c ≤ LIM then
      if ((l.drop (Int.toNat (Int.tmod (IntKind.wrap .i64 b) (l.length : Int)))).length + (l.take (Int.toNat (Int.tmod (IntKind.wrap .i64 b) (l.length : Int)))).length) * c ≤ LIM then
      F ((l.drop (Int.toNat (Int.tmod (IntKind.wrap .i64 b) (l.length : Int)))) ++ (l.take (Int.toNat (Int.tmod (IntKind.wrap .i64 b) (l.length : Int))))) else .bad else .bad else .bad else .bad else .bad) else F l) = v := by
  by_cases hn : 0 < l.length
  · obtain ⟨k, hk, hkn⟩ := turn_mod hn h0 h1
    rw [hk]
    have e1 : (l.drop k).length * c ≤ LIM := Nat.le_trans (Nat.mul_le_mul_right _ (by rw [List.length_drop]; omega)) hl
    have e2 : ((l.drop k).length + (l.take k).length) * c ≤ LIM := Nat.le_trans (Nat.mul_le_mul_right _ (by rw [List.length_drop, List.length_take]; omega)) hl
    rw [if_pos (by omega), if_pos (by omega), if_pos ⟨by omega, by omega⟩, if_pos ⟨by omega, by omega⟩, Int.toNat_natCast, if_pos e1, if_pos e2]
    exact hF _ (rot_perm l k)
  · rw [if_neg (by omega)]
    exact hF l (List.Perm.refl _)
theorem law_NamesTurned : Law_NamesTurned := by
  intro a b _ hg hb
  have hs := small_of (Nat.le_trans (Nat.le_add_right _ _) hb)
  have hb2 : 0 ≤ b ∧ b ≤ 255 := by
    have : (Lit.int .u8 b).wf = true := hg
    simpa [Lit.wf, IntKind.min, IntKind.max, IntKind.signed, IntKind.bits] using this
  have room : ∀ n c : Nat, n ≤ 1048576 → c ≤ 256 → n * c ≤ LIM := fun n c h1 h2 => Nat.le_trans (Nat.mul_le_mul h1 h2) (by decide)
  unfold law09_NamesTurned
  rw [sane_true, R.ok_bind, if_pos rfl]
  obtain ⟨q, hf⟩ := few_some a
  rw [hf, R.ok_bind]
  cases q
  · rfl
  rw [if_pos rfl]
  refine turn_step a.Volumes 40 hb2.1 (by omega) (room _ _ hs.v (by decide)) (law09_NamesTurned_j3 a b true) fun V hV => ?_
  refine turn_step a.Airports 40 hb2.1 (by omega) (room _ _ hs.p (by decide)) (law09_NamesTurned_j2 a b true V) fun A hA => ?_
  refine turn_step a.Classes 40 hb2.1 (by omega) (room _ _ hs.k (by decide)) (law09_NamesTurned_j1 a true V A) fun C hC => ?_
  exact turned_j1 true hs ⟨hV, hA, hC, rfl, rfl, rfl, rfl, rfl⟩
end Go.Am
