/- Names: names without a definition are refused: the law. -/
import Derived.Test.YtjpafocobkhciaaNmP9
namespace Go.Am
open Go
set_option linter.unusedVariables false
set_option linter.unusedSimpArgs false
set_option maxRecDepth 100000

def Ok90 (c : Airspace) : Prop := Small 1048576 c ∧ resolve c = (emptyA, 90)
theorem missing_j1 (r : Bool) (l : List Airspace) (h : ∀ c ∈ l, Ok90 c) : law09_NamesMissing_j1 r l = .ok true := by
  unfold law09_NamesMissing_j1
  rw [each_keep l 0 fun j x hx => by
    have hx' := h x (List.mem_of_getElem? hx)
    simp only [law09_NamesMissing_b5, Nat.zero_add, idx_nat hx, R.ok_bind, names_Resolve_eq x hx'.1, hx'.2]
    rfl]
  rfl
theorem pick_one {α β : Type} (f : α → β) (l : List α) (b : Int) (h0 : 0 ≤ b) (h1 : b ≤ 9223372036854775807) (hl : 0 < l.length) : ∃ x ∈ l, idx (l.map f) (Int.tmod (IntKind.wrap .i64 b) ((l.map f).length : Int)) = .ok (f x) := by
  rw [wrap64 (by omega) h1, List.length_map]
  obtain ⟨m, rfl⟩ := Int.eq_ofNat_of_zero_le h0
  have hlt : m % l.length < l.length := Nat.mod_lt _ hl
  refine ⟨l[m % l.length], List.getElem_mem hlt, ?_⟩
  have e : Int.tmod (m : Int) (l.length : Int) = ((m % l.length : Nat) : Int) := by
    rw [Int.tmod_eq_emod_of_nonneg (by omega)]; rfl
  rw [e]
  exact idx_nat (by rw [List.getElem?_map, List.getElem?_eq_getElem hlt]; rfl)
theorem small_v {N : Nat} {a : Airspace} (h : Small N a) (i : Nat) (v : Volume) : Small N { a with Volumes := a.Volumes.set i v } :=
  ⟨by simpa using h.v, h.s, h.c, h.g, h.r, h.p, h.k, h.u, h.sn, h.cn, h.rn, h.pm⟩
theorem small_g {N : Nat} {a : Airspace} (h : Small N a) (i : Nat) (v : Segment) : Small N { a with Segments := a.Segments.set i v } :=
  ⟨h.v, h.s, h.c, by simpa using h.g, h.r, h.p, h.k, h.u, h.sn, h.cn, h.rn, h.pm⟩
theorem small_k {N : Nat} {a : Airspace} (h : Small N a) (i : Nat) (v : Class) : Small N { a with Classes := a.Classes.set i v } :=
  ⟨h.v, h.s, h.c, h.g, h.r, h.p, by simpa using h.k, h.u, h.sn, h.cn, h.rn, h.pm⟩
theorem small_s {N : Nat} {a : Airspace} (h : Small N a) (i : Nat) (v : Sector) (hv : v.Names.length ≤ N) : Small N { a with Sectors := a.Sectors.set i v } :=
  ⟨h.v, by simpa using h.s, h.c, h.g, h.r, h.p, h.k, h.u, fun x hx => by
    rcases List.mem_or_eq_of_mem_set hx with hx | rfl
    · exact h.sn x hx
    · exact hv, h.cn, h.rn, h.pm⟩

/-- What the law has when it begins to rename. -/
structure Miss (a : Airspace) (b : Int) (X : Str) : Prop where
  small : Small 1048576 a
  once : once a
  known : allKnown a = true
  b0 : 0 ≤ b
  b1 : b ≤ 9223372036854775807
  fresh : ∀ n, (n ∈ vs a ∨ n ∈ ss a ∨ n ∈ gs a ∨ n ∈ ks a) → n.length < X.length
  len : X.length ≤ 9000000000000000000
theorem Miss.new {a : Airspace} {b : Int} {X : Str} (h : Miss a b X) (t : Str) : X ++ t ∉ vs a ∧ X ++ t ∉ ss a ∧ X ++ t ∉ gs a ∧ X ++ t ∉ ks a := by
  refine ⟨fun hm => ?_, fun hm => ?_, fun hm => ?_, fun hm => ?_⟩
  · have := h.fresh _ (.inl hm); simp at this; omega
  · have := h.fresh _ (.inr (.inl hm)); simp at this; omega
  · have := h.fresh _ (.inr (.inr (.inl hm))); simp at this; omega
  · have := h.fresh _ (.inr (.inr (.inr hm))); simp at this; omega
theorem Miss.parts {a : Airspace} {b : Int} {X : Str} (h : Miss a b X) : (∀ s ∈ a.Sectors, okSector (vs a) s = true) ∧ (∀ s ∈ a.Configs, okConfig (ss a) s = true) ∧ (∀ s ∈ a.Routes, okRoute (gs a) (ps a) s = true) ∧ (∀ s ∈ a.Rules, okRule (ps a) (ks a) s = true) := by
  have hk := h.known
  simp only [allKnown, Bool.and_eq_true] at hk
  obtain ⟨⟨⟨⟨k1, k2⟩, k3⟩, k4⟩, k5⟩ := hk
  exact ⟨fun s hs => List.all_eq_true.1 k1 s hs, fun s hs => List.all_eq_true.1 k2 s hs, fun s hs => List.all_eq_true.1 k4 s hs, fun s hs => List.all_eq_true.1 k5 s hs⟩
theorem room {n c : Nat} (hn : n ≤ 1048576) (hc : c ≤ 256) : n * c ≤ LIM := Nat.le_trans (Nat.mul_le_mul hn hc) (by decide)

theorem missing_j2 {a : Airspace} {b : Int} {X : Str} (h : Miss a b X) (r : Bool) (l : List Airspace) (hl : ∀ c ∈ l, Ok90 c) (hn : l.length ≤ 3) : law09_NamesMissing_j2 a b r (resolved a, 0) X l = .ok true := by
  unfold law09_NamesMissing_j2
  split
  · rename_i hpos
    have hr : (resolved a).Rules = a.Rules.map (resRule (ps a) (ks a)) := rfl
    simp only [hr] at hpos ⊢
    have hp : 0 < a.Rules.length := by simp at hpos; omega
    obtain ⟨s, hs, hi⟩ := pick_one (resRule (ps a) (ks a)) a.Rules b h.b0 h.b1 hp
    rw [if_pos (room h.small.k (by decide)), if_pos (by omega), hi, R.ok_bind]
    have hok := h.parts.2.2.2 s hs
    simp only [okRule, Bool.and_eq_true] at hok
    obtain ⟨i, v, h1, h2, h3, h4⟩ := num_ok (l := a.Classes) (g := (·.Name)) hok.1
    have e1 : (resRule (ps a) (ks a) s).Class = (i : Int) := h1
    have hX := h.len
    rw [e1, if_pos (by simp; omega), if_pos (by simp; omega), idx_nat h3, R.ok_bind, if_pos (by simp only [List.length_cons, List.length_nil]; exact Nat.le_trans (Nat.mul_le_mul_right _ (show l.length + 1 ≤ 4 by omega)) (by decide))]
    refine missing_j1 r _ fun c hc => ?_
    rcases List.mem_append.1 hc with hc | hc
    · exact hl c hc
    · obtain rfl := List.mem_singleton.1 hc
      exact ⟨small_k h.small _ _, miss_class h.once h3 (h.new _).2.2.2 hs h4⟩
  · exact missing_j1 r l hl
end Go.Am
