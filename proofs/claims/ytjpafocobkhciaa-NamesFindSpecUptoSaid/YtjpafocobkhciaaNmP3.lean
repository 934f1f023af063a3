/- Names: the reference's Resolve computes it; what is compared with itself is the same; the law of Resolve. -/
import Derived.Test.YtjpafocobkhciaaNmP2
namespace Go.Am
open Go
set_option linter.unusedVariables false
set_option linter.unusedSimpArgs false
set_option maxRecDepth 100000

theorem fill {α : Type} {b : α → List Str → R (List Str)} {g : α → Str} (hb : ∀ a s, b a s = if (s.length + 1) * 16 ≤ LIM then .ok (s ++ [g a]) else .bad) (l : List α) (hl : l.length * 16 ≤ LIM) :
    eachS (fun _ a => fun out => b a out) 0 l [] = .ok (l.map g) := by
  rw [eachS_app (g := g) (c := 16) (fun j a s => hb a s) l 0 [] (by simpa using hl)]
  simp
theorem volumes_eq (a : Airspace) (h : a.Volumes.length * 16 ≤ LIM) : ref09_volumes a = .ok (vs a) := by
  unfold ref09_volumes; rw [fill (g := (·.Name)) (fun a s => by simp [ref09_volumes_b1]) _ h]; rfl
theorem sectors_eq (a : Airspace) (h : a.Sectors.length * 16 ≤ LIM) : ref09_sectors a = .ok (ss a) := by
  unfold ref09_sectors; rw [fill (g := (·.Name)) (fun a s => by simp [ref09_sectors_b1]) _ h]; rfl
theorem configs_eq (a : Airspace) (h : a.Configs.length * 16 ≤ LIM) : ref09_configs a = .ok (cs a) := by
  unfold ref09_configs; rw [fill (g := (·.Name)) (fun a s => by simp [ref09_configs_b1]) _ h]; rfl
theorem segments_eq (a : Airspace) (h : a.Segments.length * 16 ≤ LIM) : ref09_segments a = .ok (gs a) := by
  unfold ref09_segments; rw [fill (g := (·.Name)) (fun a s => by simp [ref09_segments_b1]) _ h]; rfl
theorem routes_eq (a : Airspace) (h : a.Routes.length * 16 ≤ LIM) : ref09_routes a = .ok (rs a) := by
  unfold ref09_routes; rw [fill (g := (·.Name)) (fun a s => by simp [ref09_routes_b1]) _ h]; rfl
theorem airports_eq (a : Airspace) (h : a.Airports.length * 16 ≤ LIM) : ref09_airports a = .ok (ps a) := by
  unfold ref09_airports; rw [fill (g := (·.Name)) (fun a s => by simp [ref09_airports_b1]) _ h]; rfl
theorem classes_eq (a : Airspace) (h : a.Classes.length * 16 ≤ LIM) : ref09_classes a = .ok (ks a) := by
  unfold ref09_classes; rw [fill (g := (·.Name)) (fun a s => by simp [ref09_classes_b1]) _ h]; rfl
theorem modes_eq (a : Airport) (h : a.Modes.length * 16 ≤ LIM) : ref09_modes a = .ok (a.Modes.map (·.Name)) := by
  unfold ref09_modes; rw [fill (g := (·.Name)) (fun a s => by simp [ref09_modes_b1]) _ h]; rfl

theorem twice_eq (l : List Str) : ref09_twice l = .ok (!decide l.Nodup) := by
  classical
  unfold ref09_twice
  have hstep : ∀ (m : List Str) (k : Nat), (∀ (j : Nat) a, m[j]? = some a → l[k + j]? = some a) →
      each (fun j a => fun _ => ref09_twice_b1 l j a) k m () = .ok (if ∀ (j : Nat) a, m[j]? = some a → pos l a = some (k + j) then .inl () else .inr true) := by
    intro m
    induction m with
    | nil => intro k _; simp
    | cons a m ih =>
      intro k hk
      have h0 := hk 0 a rfl
      have hmem : a ∈ l := List.mem_of_getElem? h0
      have hb : ref09_twice_b1 l k a = if (posI l a != (k : Int)) then .ok (.inr true) else .ok (.inl ()) := by simp only [ref09_twice_b1, find_eq, R.ok_bind]
      rw [each_cons]
      show (ref09_twice_b1 l k a).bind _ = _
      rw [hb]
      unfold posI
      cases hp : pos l a with
      | none => exact absurd hmem (pos_none.1 hp)
      | some i =>
        by_cases hi : i = k
        · subst hi
          simp only [bne_self_eq_false, Bool.false_eq_true, if_false, R.ok_bind]
          rw [ih (i + 1) fun j x hx => by have := hk (j + 1) x (by simpa using hx); rwa [Nat.add_comm j 1, ← Nat.add_assoc] at this]
          congr 1
          have : (∀ (j : Nat) x, m[j]? = some x → pos l x = some (i + 1 + j)) ↔ ∀ (j : Nat) x, (a :: m)[j]? = some x → pos l x = some (i + j) := by
            constructor
            · intro h j x hx
              cases j with
              | zero => simp at hx; subst hx; exact hp
              | succ j => have := h j x (by simpa using hx); rw [this]; congr 1; omega
            · intro h j x hx
              have := h (j + 1) x (by simpa using hx); rw [this]; congr 1; omega
          simp only [this]
        · have : ¬ ∀ (j : Nat) x, (a :: m)[j]? = some x → pos l x = some (k + j) := fun h => by
            have := h 0 a rfl
            rw [hp] at this
            exact hi (by simpa using this)
          rw [if_neg this, if_pos (by simpa using fun e : (i : Int) = (k : Int) => hi (by omega))]
          rfl
  rw [hstep l 0 (by simp)]
  have := twice_iff l
  by_cases hn : l.Nodup
  · rw [if_pos (by simpa using this.1 hn)]; simp [hn]
  · rw [if_neg (fun h => hn (this.2 (by simpa using h)))]; simp [hn]

theorem Twice_eq (a : Airspace) (hs : Small 1048576 a) : ref09_Twice a = .ok (!decide (once a)) := by
  have hL : ∀ n : Nat, n ≤ 1048576 → n * 16 ≤ LIM := fun n hn => Nat.le_trans (Nat.mul_le_mul_right _ hn) (by decide)
  unfold ref09_Twice
  simp only [volumes_eq a (hL _ hs.v), sectors_eq a (hL _ hs.s), configs_eq a (hL _ hs.c), segments_eq a (hL _ hs.g), routes_eq a (hL _ hs.r), airports_eq a (hL _ hs.p), classes_eq a (hL _ hs.k), twice_eq, R.ok_bind]
  rw [each_any (p := fun x : Airport => !decide (x.Modes.map (·.Name)).Nodup) true a.Airports 0 fun j x hx => by simp [ref09_Twice_b1, modes_eq x (hL _ (hs.pm x hx)), twice_eq]]
  by_cases h1 : (vs a).Nodup
  case neg => simp [h1, once]
  by_cases h2 : (ss a).Nodup
  case neg => simp [h1, h2, once]
  by_cases h3 : (cs a).Nodup
  case neg => simp [h1, h2, h3, once]
  by_cases h4 : (gs a).Nodup
  case neg => simp [h1, h2, h3, h4, once]
  by_cases h5 : (rs a).Nodup
  case neg => simp [h1, h2, h3, h4, h5, once]
  by_cases h6 : (ps a).Nodup
  case neg => simp [h1, h2, h3, h4, h5, h6, once]
  by_cases h7 : (ks a).Nodup
  case neg => simp [h1, h2, h3, h4, h5, h6, h7, once]
  simp only [h1, h2, h3, h4, h5, h6, h7, once, decide_true, Bool.not_true, Bool.false_eq_true, if_false, R.ok_bind, true_and]
  by_cases h8 : ∀ p ∈ a.Airports, (p.Modes.map (·.Name)).Nodup
  · have : a.Airports.any (fun x => !decide (x.Modes.map (·.Name)).Nodup) = false := by
      rw [List.any_eq_false]; intro x hx; simp [h8 x hx]
    rw [this]; simp; exact h8
  · have : a.Airports.any (fun x => !decide (x.Modes.map (·.Name)).Nodup) = true := by
      apply Classical.byContradiction
      intro hn
      apply h8
      intro p hp
      rw [Bool.not_eq_true, List.any_eq_false] at hn
      simpa using hn p hp
    rw [this]; simp [h8]

theorem wrapS {j n : Nat} (h : j < n) (hn : n ≤ 1048576) : IntKind.wrap .i64 ((j : Int) + 1) = ((j + 1 : Nat) : Int) := by
  rw [wrap64 (by omega) (by omega)]; simp
theorem rstep_sector (vs : List Str) (l : List Sector) (hl : l.length ≤ 1048576) (hn : ∀ x ∈ l, x.Names.length * 8 ≤ LIM) (q : Bool) :
    loop (un3 fun x x1 l => ref09_Resolve_b1 vs x x1 l) (q, 0, l) = .ok (q && l.all (okSector vs), l.map (resSector vs)) := by
  refine loop_over (b := un3 fun x x1 l => ref09_Resolve_b1 vs x x1 l) (fun q r => by simp [ref09_Resolve_b1]) l [] q fun q j s x hx ⟨y, hy, e⟩ hlen => ?_
  have hj : j < s.length := (List.getElem?_eq_some_iff.1 hx).1
  subst e
  show ref09_Resolve_b1 vs q (j : Int) s = _
  simp only [ref09_Resolve_b1, idx_nat hx, R.ok_bind, numbers_eq vs x.Names (hn x hy), wrapS hj (by simp at hlen; omega), Int.toNat_natCast]
  rw [if_pos (by omega)]
  rfl
theorem rstep_config (vs : List Str) (l : List Config) (hl : l.length ≤ 1048576) (hn : ∀ x ∈ l, x.Names.length * 8 ≤ LIM) (q : Bool) :
    loop (un3 fun x x1 l => ref09_Resolve_b2 vs x x1 l) (q, 0, l) = .ok (q && l.all (okConfig vs), l.map (resConfig vs)) := by
  refine loop_over (b := un3 fun x x1 l => ref09_Resolve_b2 vs x x1 l) (fun q r => by simp [ref09_Resolve_b2]) l [] q fun q j s x hx ⟨y, hy, e⟩ hlen => ?_
  have hj : j < s.length := (List.getElem?_eq_some_iff.1 hx).1
  subst e
  show ref09_Resolve_b2 vs q (j : Int) s = _
  simp only [ref09_Resolve_b2, idx_nat hx, R.ok_bind, numbers_eq vs x.Names (hn x hy), wrapS hj (by simp at hlen; omega), Int.toNat_natCast]
  rw [if_pos (by omega)]
  rfl
theorem rstep_segment (vs : List Str) (l : List Segment) (hl : l.length ≤ 1048576) (q : Bool) :
    loop (un3 fun x x1 l => ref09_Resolve_b3 vs x x1 l) (q, 0, l) = .ok (q && l.all (okSegment vs), l.map (resSegment vs)) := by
  refine loop_over (b := un3 fun x x1 l => ref09_Resolve_b3 vs x x1 l) (fun q r => by simp [ref09_Resolve_b3]) l [] q fun q j s x hx ⟨y, hy, e⟩ hlen => ?_
  have hj : j < s.length := (List.getElem?_eq_some_iff.1 hx).1
  subst e
  show ref09_Resolve_b3 vs q (j : Int) s = _
  simp only [ref09_Resolve_b3, idx_nat hx, R.ok_bind, numbers_eq vs [x.In] (by simp [LIM]), List.map_cons, idx_0, wrapS hj (by simp at hlen; omega), Int.toNat_natCast]
  rw [if_pos (by omega)]
  simp [okSegment, resSegment]
theorem rstep_route (gs ps : List Str) (l : List Route) (hl : l.length ≤ 1048576) (hn : ∀ x ∈ l, x.Names.length * 8 ≤ LIM) (q : Bool) :
    loop (un3 fun x x1 l => ref09_Resolve_b4 gs ps x x1 l) (q, 0, l) = .ok (q && l.all (okRoute gs ps), l.map (resRoute gs ps)) := by
  refine loop_over (b := un3 fun x x1 l => ref09_Resolve_b4 gs ps x x1 l) (fun q r => by simp [ref09_Resolve_b4]) l [] q fun q j s x hx ⟨y, hy, e⟩ hlen => ?_
  have hj : j < s.length := (List.getElem?_eq_some_iff.1 hx).1
  subst e
  have e1 : ∀ (s : List Route) (y : Route), j < s.length → idx (s.set j y) (j : Int) = .ok y := fun s y h => idx_nat (by simp [h])
  show ref09_Resolve_b4 gs ps q (j : Int) s = _
  simp only [ref09_Resolve_b4, idx_nat hx, R.ok_bind, numbers_eq ps [x.A, x.B] (by simp [LIM]), List.map_cons, idx_0, idx_1, wrapS hj (by simp at hlen; omega), Int.toNat_natCast, List.set_set, e1 _ _ hj, numbers_eq gs x.Names (hn x hy)]
  rw [if_pos (by omega)]
  simp [okRoute, resRoute, Bool.and_assoc]
theorem rstep_rule (ps cs : List Str) (l : List Rule) (hl : l.length ≤ 1048576) (q : Bool) :
    loop (un3 fun x x1 l => ref09_Resolve_b5 ps cs x x1 l) (q, 0, l) = .ok (q && l.all (okRule ps cs), l.map (resRule ps cs)) := by
  refine loop_over (b := un3 fun x x1 l => ref09_Resolve_b5 ps cs x x1 l) (fun q r => by simp [ref09_Resolve_b5]) l [] q fun q j s x hx ⟨y, hy, e⟩ hlen => ?_
  have hj : j < s.length := (List.getElem?_eq_some_iff.1 hx).1
  subst e
  have e1 : ∀ (s : List Rule) (y : Rule), j < s.length → idx (s.set j y) (j : Int) = .ok y := fun s y h => idx_nat (by simp [h])
  show ref09_Resolve_b5 ps cs q (j : Int) s = _
  simp only [ref09_Resolve_b5, idx_nat hx, R.ok_bind, numbers_eq cs [x.C] (by simp [LIM]), List.map_cons, idx_0, wrapS hj (by simp at hlen; omega), Int.toNat_natCast, List.set_set, e1 _ _ hj, numbers_eq ps [x.A] (by simp [LIM])]
  rw [if_pos (by omega)]
  by_cases hk : x.Kind = 1
  · simp [okRule, resRule, hk, Bool.and_assoc]
  · have hk' : (x.Kind == 1) = false := by simpa using hk
    simp [okRule, resRule, hk']
theorem ref09_Resolve_eq (a : Airspace) (hs : Small 1048576 a) : ref09_Resolve a = .ok (resolve a) := by
  have hL : ∀ n c : Nat, n ≤ 1048576 → c ≤ 128 → n * c ≤ LIM := fun n c hn hc => Nat.le_trans (Nat.mul_le_mul hn hc) (by decide)
  unfold ref09_Resolve resolve
  rw [Twice_eq a hs]
  by_cases h1 : once a
  case neg => simp [h1, emptyA]
  simp only [h1, R.ok_bind, decide_true, Bool.not_true, Bool.false_eq_true, if_false, if_true, volumes_eq a (hL _ _ hs.v (by decide)), sectors_eq a (hL _ _ hs.s (by decide)), segments_eq a (hL _ _ hs.g (by decide)), airports_eq a (hL _ _ hs.p (by decide)), classes_eq a (hL _ _ hs.k (by decide)),
    hL _ _ hs.s (show 80 ≤ 128 by decide), hL _ _ hs.c (show 64 ≤ 128 by decide), hL _ _ hs.g (show 72 ≤ 128 by decide), hL _ _ hs.r (show 112 ≤ 128 by decide), hL _ _ hs.u (show 80 ≤ 128 by decide),
    rstep_sector _ _ hs.s (fun x hx => hL _ _ (hs.sn x hx) (by decide)), un2, ref09_Resolve_j5, rstep_config _ _ hs.c (fun x hx => hL _ _ (hs.cn x hx) (by decide)), ref09_Resolve_j4, rstep_segment _ _ hs.g, ref09_Resolve_j3,
    rstep_route _ _ _ hs.r (fun x hx => hL _ _ (hs.rn x hx) (by decide)), ref09_Resolve_j2, rstep_rule _ _ _ hs.u, ref09_Resolve_j1, Bool.true_and]
  show (if allKnown a then _ else _) = _
  cases allKnown a <;> rfl

/-! ### compared with itself -/
theorem sameInts_self (l : List Int) : ref08_SameInts l l = .ok true := by
  unfold ref08_SameInts
  rw [if_neg (by simp), each_all l 0 fun j x hx => by simp [ref08_SameInts_b1, idx_nat hx]]
  rfl
theorem sameNames_self (l : List Str) : ref08_SameNames l l = .ok true := by
  unfold ref08_SameNames
  rw [if_neg (by simp), each_all l 0 fun j x hx => by simp [ref08_SameNames_b1, idx_nat hx]]
  rfl
theorem sameSpans_self (l : List Span) : ref08_SameSpans l l = .ok true := by
  unfold ref08_SameSpans
  rw [if_neg (by simp), each_all l 0 fun j x hx => by simp [ref08_SameSpans_b1, idx_nat hx]]
  rfl
theorem same_self (a : Airspace) : ref08_Same a a = .ok true := by
  unfold ref08_Same
  rw [if_neg (by simp)]
  rw [each_all a.Volumes 0 fun j x hx => by simp [ref08_Same_b1, idx_nat hx, sameSpans_self, ref08_Same_j1]]
  simp only [R.ok_bind]
  rw [alt_inl, each_all a.Sectors 0 fun j x hx => by simp [ref08_Same_b2, idx_nat hx, sameNames_self, sameInts_self]]
  simp only [R.ok_bind]
  rw [alt_inl, each_all a.Configs 0 fun j x hx => by simp [ref08_Same_b3, idx_nat hx, sameNames_self, sameInts_self]]
  simp only [R.ok_bind]
  rw [alt_inl, each_all a.Segments 0 fun j x hx => by simp [ref08_Same_b4, idx_nat hx, sameSpans_self]]
  simp only [R.ok_bind]
  rw [alt_inl, each_all a.Routes 0 fun j x hx => by simp [ref08_Same_b5, idx_nat hx, sameNames_self, sameInts_self]]
  simp only [R.ok_bind]
  rw [alt_inl, each_all a.Airports 0 fun j x hx => by
    simp only [ref08_Same_b7, Nat.zero_add, idx_nat hx, R.ok_bind]
    rw [if_neg (by simp), each_all x.Modes 0 fun i y hy => by simp [ref08_Same_b6, idx_nat hy]]
    rfl]
  simp only [R.ok_bind]
  rw [alt_inl, each_all a.Classes 0 fun j x hx => by simp [ref08_Same_b8, idx_nat hx]]
  simp only [R.ok_bind]
  rw [alt_inl, each_all a.Rules 0 fun j x hx => by simp [ref08_Same_b9, idx_nat hx]]
  rfl
theorem few_some (a : Airspace) : ∃ b, ref09_Few a = .ok b := by
  unfold ref09_Few
  split
  · exact ⟨_, rfl⟩
  · obtain ⟨n1, h1⟩ := eachS_some (b := fun _ a1 => fun n => ref09_Few_b1 a1 n) (fun _ a n => ⟨_, rfl⟩) a.Sectors 0 _
    rw [h1, R.ok_bind]
    obtain ⟨n2, h2⟩ := eachS_some (b := fun _ a1 => fun n => ref09_Few_b2 a1 n) (fun _ a n => ⟨_, rfl⟩) a.Configs 0 n1
    rw [h2, R.ok_bind]
    obtain ⟨n3, h3⟩ := eachS_some (b := fun _ a1 => fun n => ref09_Few_b3 a1 n) (fun _ a n => ⟨_, rfl⟩) a.Routes 0 n2
    rw [h3, R.ok_bind]
    obtain ⟨n4, h4⟩ := eachS_some (b := fun _ a1 => fun n => ref09_Few_b4 a1 n) (fun _ a n => ⟨_, rfl⟩) a.Airports 0 n3
    rw [h4]
    exact ⟨_, rfl⟩
theorem sane_true : law09_sane = .ok true := by decide +kernel
theorem law_NamesResolveSpec : Law_NamesResolveSpec := by
  intro a _ hb
  have hs := small_of hb
  unfold law09_NamesResolveSpec
  rw [sane_true]
  obtain ⟨b, hf⟩ := few_some a
  rw [hf, names_Resolve_eq a hs, ref09_Resolve_eq a hs]
  cases b
  · rfl
  · simp [same_self]
end Go.Am
