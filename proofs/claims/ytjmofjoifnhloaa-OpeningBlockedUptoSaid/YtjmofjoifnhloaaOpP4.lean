/- Chapter 11, plain: Passable, both ways; comparing; the examples. -/
import Derived.Test.YtjmofjoifnhloaaOpP3
import Derived.Test.YtjmofjoifnhloaaDcM
namespace Go.Am
open Go
set_option linter.unusedVariables false
set_option linter.unusedSimpArgs false
set_option maxRecDepth 100000

/-- The volumes of the segments that have minutes. -/
def volsGo (a : Airspace) : List Segment → Nat → Option (List Int)
  | [], _ => some []
  | s :: ss, k => match mins a (k : Int) with
    | none => none
    | some l => (volsGo a ss (k + 1)).map fun r => if (l.length : Int) > 0 then s.Volume :: r else r
def passL (nv : Nat) (vs : List Int) : List Int := ((List.range nv).filter fun i => vs.contains ((i : Nat) : Int)).map fun i => ((i : Nat) : Int)
def pass (a : Airspace) : Option (List Int) := (volsGo a a.Segments 0).map (passL a.Volumes.length)

/-! ### the keys of a map -/
section
variable {V : Type}
theorem keys_mput (m : List (Int × V)) (k : Int) (v : V) : (mput m k v).map (·.1) = if k ∈ m.map (·.1) then m.map (·.1) else m.map (·.1) ++ [k] := by
  induction m with
  | nil => simp [mput]
  | cons p m ih =>
    rw [mput]
    by_cases h : p.1 = k
    · rw [if_pos (by simpa using h)]
      subst h; simp
    · rw [if_neg (by simpa using h), List.map_cons, ih]
      have : ¬ k = p.1 := fun e => h e.symm
      by_cases hm : k ∈ m.map (·.1)
      · rw [if_pos hm, if_pos (by simp only [List.map_cons, List.mem_cons]; exact .inr hm)]; rfl
      · rw [if_neg hm, if_neg (by simp only [List.map_cons, List.mem_cons, not_or]; exact ⟨this, hm⟩)]; rfl
theorem keys_fold (v : V) : ∀ (vs : List Int) (m : List (Int × V)), (m.map (·.1)).Nodup → ((vs.foldl (fun m x => mput m x v) m).map (·.1)).Nodup ∧ ∀ x, x ∈ (vs.foldl (fun m x => mput m x v) m).map (·.1) ↔ x ∈ m.map (·.1) ∨ x ∈ vs
  | [], m, h => ⟨h, fun x => by simp⟩
  | y :: vs, m, h => by
    rw [List.foldl_cons]
    have h1 : ((mput m y v).map (·.1)).Nodup := by
      rw [keys_mput]
      split
      · exact h
      · rename_i hy
        exact List.nodup_append.2 ⟨h, by simp, fun a ha b hb => by simp at hb; subst hb; exact fun e => hy (e ▸ ha)⟩
    obtain ⟨k1, k2⟩ := keys_fold v vs (mput m y v) h1
    refine ⟨k1, fun x => ?_⟩
    rw [k2 x, keys_mput]
    split
    · rename_i hy
      simp only [List.mem_cons]
      constructor
      · rintro (h | h)
        · exact .inl h
        · exact .inr (.inr h)
      · rintro (h | rfl | h)
        · exact .inl h
        · exact .inl hy
        · exact .inr h
    · rw [List.mem_append, List.mem_singleton, List.mem_cons, or_assoc]
end
theorem mem_passL {nv : Nat} {vs : List Int} {x : Int} : x ∈ passL nv vs ↔ x ∈ vs ∧ 0 ≤ x ∧ x < (nv : Int) := by
  unfold passL
  simp only [List.mem_map, List.mem_filter, List.mem_range, List.contains_iff_mem]
  constructor
  · rintro ⟨i, ⟨h1, h2⟩, rfl⟩; exact ⟨h2, by omega, by omega⟩
  · rintro ⟨h1, h2, h3⟩; exact ⟨x.toNat, ⟨by omega, by rwa [Int.toNat_of_nonneg h2]⟩, Int.toNat_of_nonneg h2⟩
theorem passL_sorted (nv : Nat) (vs : List Int) : (passL nv vs).Pairwise (· < ·) := by
  unfold passL
  refine List.pairwise_map.2 ?_
  refine (List.Pairwise.filter _ List.pairwise_lt_range).imp fun h => ?_
  omega
theorem sorted_pass {vs : List Int} {nv : Nat} (hnv : nv ≤ 1048576) (hv : ∀ x ∈ vs, 0 ≤ x ∧ x < (nv : Int)) : sortedKeys (vs.foldl (fun m x => mput m x true) []) = .ok (passL nv vs) := by
  obtain ⟨h1, h2⟩ := keys_fold true vs [] (by simp)
  have hlt := passL_sorted nv vs
  have hnd : (passL nv vs).Nodup := hlt.imp fun h => Int.ne_of_lt h
  have hperm : ((vs.foldl (fun m x => mput m x true) []).map (·.1)).Perm (passL nv vs) := by
    refine (List.perm_ext_iff_of_nodup h1 hnd).2 fun x => ?_
    rw [h2 x, mem_passL]
    constructor
    · rintro (h | h)
      · simp at h
      · exact ⟨h, hv x h⟩
    · rintro ⟨h, _⟩; exact .inr h
  have hlen : (vs.foldl (fun m x => mput m x true) []).length ≤ nv := by
    have := hperm.length_eq
    rw [List.length_map] at this
    rw [this]
    unfold passL
    rw [List.length_map]
    exact Nat.le_trans (List.length_filter_le _ _) (by simp)
  unfold sortedKeys
  rw [if_pos ⟨by omega, List.all_eq_true.2 fun p hp => by
    have : p.1 ∈ passL nv vs := hperm.mem_iff.1 (List.mem_map.2 ⟨p, hp, rfl⟩)
    obtain ⟨_, q1, q2⟩ := mem_passL.1 this
    simp only [Lit.wf, Bool.and_eq_true, decide_eq_true_eq]
    have e1 : IntKind.min .i64 = -9223372036854775808 := by decide
    have e2 : IntKind.max .i64 = 9223372036854775807 := by decide
    rw [e1, e2]; omega⟩]
  congr 1
  rw [mergeSort_of_perm_i hperm]
  exact List.mergeSort_of_pairwise (hlt.imp fun h => by simpa using Int.le_of_lt h)

/-! ### the loops -/
theorem mins_vol {a : Airspace} {k : Nat} {s : Segment} {l : List Span} (hs : a.Segments[k]? = some s) (h : mins a (k : Int) = some l) : 0 ≤ s.Volume ∧ s.Volume < (a.Volumes.length : Int) := by
  unfold mins at h
  cases hp : segOf a (k : Int) with
  | none => rw [hp] at h; cases h
  | some p =>
    obtain ⟨h0, h1, h2, h3⟩ := segOf_some hp
    rw [Int.toNat_natCast, hs] at h1
    cases h1
    have := (List.getElem?_eq_some_iff.1 h3).1
    exact ⟨h2, by omega⟩
theorem op_pass_go (a : Airspace) : ∀ (ss : List Segment) (k : Nat) (m : List (Int × Bool)), eachS (fun j a1 => fun m => opening_Passable_b1 a j a1 m) k ss m = match volsGo a ss k with | some vs => .ok (vs.foldl (fun m x => mput m x true) m) | none => .pan unk
  | [], k, m => rfl
  | s :: ss, k, m => by
    rw [eachS_cons']
    unfold volsGo
    have e : opening_Passable_b1 a k s m = match mins a (k : Int) with | some l => .ok (if (l.length : Int) > 0 then mput m s.Volume true else m) | none => .pan unk := by
      unfold opening_Passable_b1
      rw [op_minutes]
      cases mins a (k : Int) with
      | none => rfl
      | some l => simp only [R.ok_bind]; split <;> rfl
    rw [e]
    cases mins a (k : Int) with
    | none => rfl
    | some l =>
      simp only [R.ok_bind]
      rw [op_pass_go a ss (k + 1)]
      cases volsGo a ss (k + 1) with
      | none => rfl
      | some vs => simp only [Option.map_some]; split <;> rfl
theorem vols_in (a : Airspace) : ∀ (ss : List Segment) (k : Nat) (vs : List Int), (∀ j s, ss[j]? = some s → a.Segments[k + j]? = some s) → volsGo a ss k = some vs → (∀ x ∈ vs, 0 ≤ x ∧ x < (a.Volumes.length : Int)) ∧
    (∀ j s l, ss[j]? = some s → mins a ((k + j : Nat) : Int) = some l → (l.length : Int) > 0 → s.Volume ∈ vs)
  | [], k, vs, _, h => by cases h; exact ⟨fun x hx => (by cases hx), fun j s l h => by simp at h⟩
  | s :: ss, k, vs, hss, h => by
    unfold volsGo at h
    split at h
    · cases h
    · rename_i l hl
      cases hr : volsGo a ss (k + 1) with
      | none => rw [hr] at h; cases h
      | some r =>
        rw [hr] at h
        simp only [Option.map_some, Option.some.injEq] at h
        obtain ⟨i1, i2⟩ := vols_in a ss (k + 1) r (fun j s h => by have := hss (j + 1) s (by simpa using h); rwa [show k + 1 + j = k + (j + 1) by omega]) hr
        have hs0 := hss 0 s rfl
        rw [Nat.add_zero] at hs0
        have hv := mins_vol hs0 hl
        refine ⟨fun x hx => ?_, fun j s' l' hj hl' hpos => ?_⟩
        · subst h
          split at hx
          · rcases List.mem_cons.1 hx with rfl | hx
            · exact hv
            · exact i1 x hx
          · exact i1 x hx
        · subst h
          cases j with
          | zero =>
            have : s = s' := by simpa using hj
            subst this
            rw [Nat.add_zero, hl] at hl'
            cases hl'
            rw [if_pos hpos]; exact List.mem_cons_self ..
          | succ j =>
            have := i2 j s' l' (by simpa using hj) (by rwa [show k + 1 + j = k + (j + 1) by omega]) hpos
            split
            · exact List.mem_cons_of_mem _ this
            · exact this
theorem op_Passable (a : Airspace) (hs : Small a) : opening_Passable a = .ok (answer (pass a)) := by
  unfold opening_Passable opening_Passable_m pass
  rw [op_pass_go]
  cases hv : volsGo a a.Segments 0 with
  | none => exact catch_unk _ _
  | some vs =>
    have := (vols_in a a.Segments 0 vs (fun j s h => by simpa using h) hv).1
    simp only [R.ok_bind, maps_Keys_34, slices_Sorted_33, sorted_pass hs.vol this]
    rfl
theorem ref_pass_go (a : Airspace) : ∀ (ss : List Segment) (k : Nat) (t : List Bool), (∀ j s, ss[j]? = some s → a.Segments[k + j]? = some s) → t.length = a.Volumes.length →
    each (fun j a1 => fun vis => ref11_Passable_b1 a j a1 vis) k ss t = .ok (match volsGo a ss k with | some vs => .inl (vs.foldl (fun t x => t.set x.toNat true) t) | none => .inr ([], 1))
  | [], k, t, _, _ => rfl
  | s :: ss, k, t, hss, ht => by
    rw [each_cons]
    unfold volsGo
    have hs0 := hss 0 s rfl
    rw [Nat.add_zero] at hs0
    have e : ref11_Passable_b1 a k s t = match mins a (k : Int) with | some l => .ok (.inl (if (l.length : Int) > 0 then t.set s.Volume.toNat true else t)) | none => .ok (.inr ([], 1)) := by
      unfold ref11_Passable_b1
      rw [ref_Minutes]
      cases hl : mins a (k : Int) with
      | none => rfl
      | some l =>
        obtain ⟨v0, v1⟩ := mins_vol hs0 hl
        show (if ((0 : Int) != 0) = true then R.ok (Sum.inr ([], 0)) else (if (l.length : Int) > 0 then (idx t s.Volume).bind (fun a2 => R.ok (Sum.inl (t.set s.Volume.toNat true))) else R.ok (Sum.inl t))) = _
        rw [if_neg (by simp)]
        show _ = R.ok (Sum.inl (if (l.length : Int) > 0 then _ else _))
        by_cases h : (l.length : Int) > 0
        · rw [if_pos h, if_pos h]
          obtain ⟨y, hy⟩ := get_some (l := t) v0 (by rw [ht]; exact v1)
          rw [idx_some v0 hy]; rfl
        · rw [if_neg h, if_neg h]
    rw [e]
    cases hl : mins a (k : Int) with
    | none => rfl
    | some l =>
      simp only [R.ok_bind]
      rw [ref_pass_go a ss (k + 1) _ (fun j s h => by have := hss (j + 1) s (by simpa using h); rwa [show k + 1 + j = k + (j + 1) by omega]) (by split <;> simp [ht])]
      cases volsGo a ss (k + 1) with
      | none => rfl
      | some vs => simp only [Option.map_some]; split <;> rfl
theorem set_fold : ∀ (vs : List Int) (t : List Bool) (n : Nat), t.length = n → (∀ x ∈ vs, 0 ≤ x ∧ x < (n : Int)) → (vs.foldl (fun (t : List Bool) (x : Int) => t.set x.toNat true) t).length = n ∧ ∀ i, i < n → (vs.foldl (fun (t : List Bool) (x : Int) => t.set x.toNat true) t).getD i false = (t.getD i false || vs.contains (i : Int))
  | [], t, n, ht, _ => ⟨ht, fun i hi => by simp⟩
  | x :: vs, t, n, ht, hv => by
    rw [List.foldl_cons]
    have hx := hv x (List.mem_cons_self ..)
    obtain ⟨k1, k2⟩ := set_fold vs (t.set x.toNat true) n (by simpa using ht) (fun y hy => hv y (List.mem_cons_of_mem _ hy))
    refine ⟨k1, fun i hi => ?_⟩
    rw [k2 i hi, getD_set' _ _ _ _ (by omega)]
    by_cases h : x.toNat = i
    · have hxi : x = (i : Int) := by omega
      subst hxi
      simp
    · rw [if_neg h]
      have : ((i : Int) == x) = false := by simp; omega
      rw [List.contains_cons, this, Bool.false_or]
theorem ref_pass_list (t : List Bool) (hn : t.length ≤ 1048576) : ∀ (n k : Nat) (l : List Int), k + n = t.length → l.length ≤ k → loop (un3 fun i1 vis1 l => ref11_Passable_b2 i1 vis1 l) ((k : Int), t, l) = .ok (l ++ ((List.range' k n).filter fun i => t.getD i false).map fun i => ((i : Nat) : Int))
  | 0, k, l, hk, hl => by
    rw [loop_eq]
    have e : (un3 fun i1 vis1 l => ref11_Passable_b2 i1 vis1 l) ((k : Int), t, l) = .ok (.inr l) := by
      show ref11_Passable_b2 _ _ _ = _
      unfold ref11_Passable_b2
      rw [if_neg (by omega)]
    rw [e]; simp
  | n + 1, k, l, hk, hl => by
    rw [loop_eq]
    have hlt : k < t.length := by omega
    have e : (un3 fun i1 vis1 l => ref11_Passable_b2 i1 vis1 l) ((k : Int), t, l) = .ok (.inl (((k + 1 : Nat) : Int), t, if t.getD k false then l ++ [(k : Int)] else l)) := by
      show ref11_Passable_b2 _ _ _ = _
      unfold ref11_Passable_b2
      rw [if_pos (by omega), idx_get hlt, R.ok_bind, wrap64 (by omega) (by omega)]
      have : t.getD k false = t[k] := by rw [List.getD_eq_getElem?_getD, List.getElem?_eq_getElem hlt]; rfl
      rw [this]
      cases t[k]
      · simp
      · simp only [if_true]; rw [if_pos (by simp [LIM]; omega)]; simp
    rw [e]
    simp only [R.ok_bind]
    rw [ref_pass_list t hn n (k + 1) _ (by omega) (len_ite hl), List.range'_succ, List.filter_cons]
    cases h : t.getD k false <;> simp
theorem ref_Passable (a : Airspace) (hs : Small a) : ref11_Passable a = .ok (answer (pass a)) := by
  unfold ref11_Passable pass
  rw [if_pos ⟨by omega, Int.le_refl _, by have := hs.vol; simp [LIM]; omega⟩, Int.toNat_natCast, ref_pass_go a a.Segments 0 _ (fun j s h => by simpa using h) (by simp)]
  cases hv : volsGo a a.Segments 0 with
  | none => rfl
  | some vs =>
    have hin := (vols_in a a.Segments 0 vs (fun j s h => by simpa using h) hv).1
    obtain ⟨k1, k2⟩ := set_fold vs (List.replicate a.Volumes.length false) a.Volumes.length (by simp) hin
    have := ref_pass_list (vs.foldl (fun (t : List Bool) (x : Int) => t.set x.toNat true) (List.replicate a.Volumes.length false)) (by have := hs.vol; omega) a.Volumes.length 0 [] (by omega) (by simp)
    show R.bind (loop (un3 fun i1 vis1 l => ref11_Passable_b2 i1 vis1 l) (((0 : Nat) : Int), _, [])) _ = _
    rw [this]
    simp only [R.ok_bind, List.nil_append, Option.map_some, answer, ref11_Passable_j1, passL]
    rw [← List.range_eq_range']
    congr 3
    refine List.filter_congr fun i hi => ?_
    rw [k2 i (List.mem_range.1 hi), rep_get', Bool.false_or]

/-! ### comparing -/
theorem same_spans (l : List Span) : ref11_SameSpans l l = .ok true := by
  unfold ref11_SameSpans
  rw [if_neg (by simp), each_all l 0 (fun j a h => by
    unfold ref11_SameSpans_b1
    rw [Nat.zero_add, idx_nat h, R.ok_bind, if_pos (by simp)])]
  rfl
theorem same_ints (l : List Int) : ref11_SameInts l l = .ok true := by
  unfold ref11_SameInts
  rw [if_neg (by simp), each_all l 0 (fun j a h => by
    unfold ref11_SameInts_b1
    rw [Nat.zero_add, idx_nat h, R.ok_bind, if_neg (by simp)])]
  rfl
theorem same_legs (l : List Leg) : ref11_SameLegs l l = .ok true := by
  unfold ref11_SameLegs
  rw [if_neg (by simp), each_all l 0 (fun j a h => by
    unfold ref11_SameLegs_b1
    rw [Nat.zero_add, idx_nat h, R.ok_bind, if_neg (by simp), if_neg (by simp), if_neg (by simp), same_spans]
    rfl)]
  rfl

/-! ### the examples -/
def smp : Airspace := { Volumes := [{ Name := [], Closed := [{ From := 150, To := 160 }] }, { Name := [], Closed := [{ From := 0, To := 1440 }] }], Sectors := [], Configs := [], Segments := [{ Name := [], In := [], Volume := 0, Length := 30, Open := [{ From := 100, To := 200 }] }, { Name := [], In := [], Volume := 1, Length := 40, Open := [] }], Routes := [{ Name := [], A := [], B := [], From := 0, To := 0, Names := [], Segments := [0] }, { Name := [], A := [], B := [], From := 0, To := 0, Names := [], Segments := [0, 1] }, { Name := [], A := [], B := [], From := 0, To := 0, Names := [], Segments := [] }], Airports := [], Classes := [], Rules := [] }
def none0 : Airspace := { Volumes := [], Sectors := [], Configs := [], Segments := [], Routes := [], Airports := [], Classes := [], Rules := [] }
theorem small_smp : Small smp := ⟨by decide, by decide, by decide, by decide⟩
theorem small_none : Small none0 := ⟨by decide, by decide, by decide, fun r hr => by cases hr⟩
theorem min1 : minus [{ From := 100, To := 200 }] [{ From := 150, To := 160 }] = [{ From := 100, To := 150 }, { From := 160, To := 200 }] := by decide +kernel
theorem min2 : minus [{ From := 0, To := 1440 }] [{ From := 0, To := 1440 }] = [] := by decide +kernel
theorem m0 : mins smp 0 = some [{ From := 100, To := 150 }, { From := 160, To := 200 }] := by
  show some (minus _ _) = _
  rw [show opn _ = [{ From := 100, To := 200 }] from rfl]
  exact congrArg some min1
theorem m1 : mins smp 1 = some [] := by
  show some (minus _ _) = _
  rw [show opn _ = [{ From := 0, To := 1440 }] from rfl]
  exact congrArg some min2
def leg0 : Leg := { Segment := 0, Volume := 0, Length := 30, Minutes := [{ From := 100, To := 150 }, { From := 160, To := 200 }] }
def leg1 : Leg := { Segment := 1, Volume := 1, Length := 40, Minutes := [] }
theorem g0 : legOf smp 0 = some leg0 := by
  show some ({ Segment := 0, Volume := 0, Length := 30, Minutes := minus _ _ } : Leg) = _
  rw [show opn _ = [{ From := 100, To := 200 }] from rfl, show minus _ _ = _ from min1]; rfl
theorem g1 : legOf smp 1 = some leg1 := by
  show some ({ Segment := 1, Volume := 1, Length := 40, Minutes := minus _ _ } : Leg) = _
  rw [show opn _ = [{ From := 0, To := 1440 }] from rfl, show minus _ _ = _ from min2]; rfl
theorem l0 : legsOf smp 0 = some [leg0] := by
  show omap (legOf smp) [0] = _
  simp [omap, g0]
theorem l1 : legsOf smp 1 = some [leg0, leg1] := by
  show omap (legOf smp) [0, 1] = _
  simp [omap, g0, g1]
theorem l2 : legsOf smp 2 = some [] := rfl
theorem p0 : pass smp = some [0] := by
  unfold pass
  have : volsGo smp smp.Segments 0 = some [0] := by
    show volsGo smp [_, _] 0 = _
    simp only [volsGo, show ((0 : Nat) : Int) = 0 from rfl, show ((0 + 1 : Nat) : Int) = 1 from rfl, m0, m1]
    rfl
  rw [this]; decide
theorem bl0 : blk smp = some [1] := by
  unfold blk
  show blkGo smp [_, _, _] 0 [] = _
  simp only [blkGo, show ((0 : Nat) : Int) = 0 from rfl, show ((0 + 1 : Nat) : Int) = 1 from rfl, show ((0 + 1 + 1 : Nat) : Int) = 2 from rfl, l0, l1, l2]
  rfl
theorem sane_ok : law11_sane = .ok true := by
  unfold law11_sane
  have hsmp : law11_sample = .ok smp := rfl
  rw [hsmp]
  simp only [R.ok_bind]
  rw [show ({ Volumes := [], Sectors := [], Configs := [], Segments := [], Routes := [], Airports := [], Classes := [], Rules := [] } : Airspace) = none0 from rfl]
  simp only [op_Minutes, op_Legs _ _ small_smp, op_Passable _ small_smp, op_Passable _ small_none, op_Blocked _ small_smp, op_Blocked _ small_none, R.ok_bind, m0, l1, l2, p0, bl0]
  decide +kernel
end Go.Am
