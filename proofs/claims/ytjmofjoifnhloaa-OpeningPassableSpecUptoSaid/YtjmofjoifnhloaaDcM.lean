/- A map's keys, sorted: contracts of the library, read abstractly. -/
import Derived.Test.YtjmofjoifnhloaaDcH
import Derived.Shelf.SlIterI.Nil
namespace Go.Am
open Go Go.Maps Go.RowKit
set_option linter.unusedSimpArgs false
set_option linter.unusedVariables false
set_option linter.unusedSectionVars false

/-- maps.Keys, collected and sorted. -/
def sortedKeys {V : Type} (m : List (Int × V)) : R (List Int) :=
  if m.length * 8 ≤ 140737488355328 ∧ (m.all fun p => (Lit.int .i64 p.1).wf) = true then .ok ((m.map (·.1)).mergeSort fun x y => decide (x ≤ y)) else .bad
section
variable {P : Program} [GW P]
/-- maps.Keys: an iterator over a new cell that holds the map. -/
theorem keys_calls {kf it t : Nat} {h : AHeap} {o g : Nat} (hb : HasBody P kf)
    (hk : ∀ mb W, Calls P kf #[.map mb] W fun e w' => e = .returned (.func (.func it) #[] #[.pointer (some ⟨W.heap.size, 0, none⟩)]) ∧ w' = W.alloc (.cells #[.map mb] t)) :
    ACalls P kf [.map o g] h (fun r h' => r = .ret (.func (.func it) [] [.cp0 [.map o g]]) ∧ h' = h) := by
  refine ⟨hb, fun B mu w cargs s ha => ?_⟩
  obtain ⟨c, rfl, hc⟩ := lrv_one ha
  cases hc with
  | map _ _ l hl hlc =>
    refine (hk (some l.b) w).mono ?_
    rintro e w' ⟨rfl, rfl⟩
    obtain ⟨s', e'⟩ := s.junk (.cells #[.map (some l.b)] t)
    refine ⟨_, h, mu, ⟨rfl, rfl⟩, s', e', ?_⟩
    refine .func (.func it) [] _ [] [.pointer (some ⟨w.heap.size, 0, none⟩)] rfl rfl (fun i hi => by simp at hi) (fun i hi => ?_)
    have : i = 0 := by simpa using hi
    subst this
    refine .cp0 [.map o g] w.heap.size (fun _ => .map (some l.b)) (fun j hj => ?_) (fun j hj => ?_) (fun hm => ?_) (by rw [alloc_size]; omega)
    · have : j = 0 := by simpa using hj
      subst this
      unfold World.cell?
      rw [heap_push_eq]; rfl
    · have : j = 0 := by simpa using hj
      subst this
      exact .map o g l hl hlc
    · have := Mut.lt s hm; omega
theorem keys_lits {k : TypeId} (hk : P.underlying k = some (.int .i64)) {V : Type} {m : List (Int × V)} {eV : V → AV} {h : AHeap} {mu : Mu} {w : World} {ens : Array MapEntry} (hl : (mE (fun x : Int => AV.int .i64 x) eV m).length = ens.size)
    (hr : ∀ i, i < (mE (fun x : Int => AV.int .i64 x) eV m).length → RV h mu w ((mE (fun x : Int => AV.int .i64 x) eV m).getD i (.und, .und)).1 (ens.getD i default).key) :
    ens.toList.map (·.key) = m.map fun p => Value.int .i64 p.1 := by
  have hlen : ens.size = m.length := by rw [← hl]; simp [mE]
  apply List.ext_getElem?
  intro i
  simp only [List.getElem?_map, Array.getElem?_toList]
  by_cases hi : i < m.length
  · have h1 := hr i (by simpa [mE] using hi)
    have e1 : ((mE (fun x : Int => AV.int .i64 x) eV m).getD i (.und, .und)).1 = .int .i64 (m[i]).1 := by simp [mE, List.getD, hi]
    rw [e1] at h1
    have h2 := rv_int h1
    have e2 : ens.getD i default = ens[i]'(by omega) := by simp [Array.getD_eq_getD_getElem?, show i < ens.size by omega]
    rw [e2] at h2
    rw [Array.getElem?_eq_getElem (by omega), List.getElem?_eq_getElem hi]
    simp [h2]
  · rw [Array.getElem?_eq_none (by omega), List.getElem?_eq_none (by omega)]; rfl
/-- slices.Sorted of it. -/
theorem sorted_calls {sf it kt : Nat} {V : Type} {m : List (Int × V)} {eV : V → AV} {h0 : AHeap} {o g : Nat} (hI0 : Ids h0 [o] 1) (hb : HasBody P sf) (hkt : P.underlying kt = some (.int .i64))
    (hs : ∀ (Bm b nn : Nat) (D0 : DataW Unit) (R : Value → Option (DataW Unit × List MemPlace)) (w : World), Bm < w.heap.size → w.cell? ⟨Bm, 0, none⟩ = some (.map (some b)) → w.ownsMap P kt R b nn D0 → Maps.size D0 ≤ maxLen → Maps.size D0 * 8 ≤ 140737488355328 →
      Calls P sf #[.func (.func it) #[] #[.pointer (some ⟨Bm, 0, none⟩)]] w fun e w' => ∃ (v : Value) (ss : List Int), e = .returned v ∧ ss.Perm (intKeys D0) ∧
        w'.ownsRow w.heap.size kt 1 v ss.length ((ss.mergeSort (fun x y => decide (x ≤ y))).map encZ) ∧ (v = .slice none 0 0 ↔ ss = []) ∧ Below w.heap.size w w') :
    sortedKeys m ≠ .bad → ACalls P sf [.func (.func it) [] [.cp0 [.map o g]]] (hp h0 [o] [some (.mp g (mE (fun x : Int => AV.int .i64 x) eV m))])
      (AnsG (fun a v h' => v = .sl 1 (List.map (rI .i64) a) ∧ h' = hp h0 [o] [some (.mp g (mE (fun x : Int => AV.int .i64 x) eV m))]) h0 (sortedKeys m)) := by
  intro hne
  unfold sortedKeys at hne ⊢
  split at hne
  case isFalse => exact absurd rfl hne
  rename_i hc
  rw [if_pos hc]
  obtain ⟨hlim, hwf⟩ := hc
  refine ⟨hb, fun B mu w cargs s ha => ?_⟩
  obtain ⟨c, rfl, hc⟩ := lrv_one ha
  obtain ⟨f2, c2, rfl, hf2, hc2⟩ := func_inv hc
  have hf2' : f2 = [] := List.length_eq_zero_iff.1 (by have := hf2.1; simpa using this.symm)
  subst hf2'
  obtain ⟨c3, rfl⟩ : ∃ c3, c2 = [c3] := by
    match c2, hc2.1 with
    | [c3], _ => exact ⟨c3, rfl⟩
  have hp3 := hc2.2 0 (by simp)
  simp only [List.getD_cons_zero] at hp3
  cases hp3 with
  | cp0 _ Bm vs h1 h2 h3 h4 =>
    have q1 := h1 0 (by simp)
    have q2 := h2 0 (by simp)
    simp only [List.getD_cons_zero] at q2
    obtain ⟨l, k1, k2, ens, clock, k3, k4, k5⟩ := s.maps o g _ (hI0.at (xs := [some _]) rfl (j := 0) rfl)
    generalize vs 0 = c0 at q1 q2
    · cases q2 with
      | map _ _ l' hl' _ =>
        rw [k1] at hl'; cases hl'
        have hkeys := keys_lits (P := P) hkt k4 (fun i hi => (k5 i hi).1)
        have hlen : ens.size = m.length := by rw [← k4]; simp [mE]
        have hkeyOf : ∀ x ∈ ens.toList, ∃ p ∈ m, x.key = .int .i64 p.1 ∧ keyOf P kt x.key = some (.int .i64 p.1) := by
          intro x hx
          have : x.key ∈ ens.toList.map (·.key) := List.mem_map.2 ⟨x, hx, rfl⟩
          rw [hkeys] at this
          obtain ⟨p, hp', hpe⟩ := List.mem_map.1 this
          refine ⟨p, hp', hpe.symm, ?_⟩
          rw [← hpe]
          have := List.all_eq_true.1 hwf p hp'
          simp [keyOf, hkt, mapKey, this]
        let R : Value → Option (DataW Unit × List MemPlace) := fun _ => some (.nil, [])
        have hrd : ∀ x ∈ ens.toList, ∃ p ∈ m, x.key = .int .i64 p.1 ∧ WideElems.rd P kt R x = some (.int .i64 p.1, .nil) := by
          intro x hx
          obtain ⟨p, h1', h2', h3'⟩ := hkeyOf x hx
          exact ⟨p, h1', h2', by simp [WideElems.rd, h3', R]⟩
        have hown : w.ownsMap P kt R l.b ens.size (.map ((ens.toList.map (WideElems.rg P kt R)).foldr DataW.insert [])) :=
          ⟨ens, clock, k3.1, ⟨Nat.le_trans (show ens.size ≤ 140737488355328 by omega) (by decide), k3.2, fun x hx => by obtain ⟨p, _, _, h⟩ := hrd x hx; exact ⟨_, h⟩⟩, Nat.le_refl _, rfl⟩
        have hsz : Maps.size (.map ((ens.toList.map (WideElems.rg P kt R)).foldr DataW.insert [])) = m.length := by
          simp [Maps.size, length_sorted, hlen]
        refine (hs Bm l.b _ _ R w h4 q1 hown (by rw [hsz]; exact Nat.le_trans (show m.length ≤ 140737488355328 by omega) (by decide)) (by rw [hsz]; exact hlim)).mono ?_
        rintro e w' ⟨v, ss, rfl, hperm, hrow, hnil, hbel⟩
        have hki : (intKeys (DataW.map ((ens.toList.map (WideElems.rg P kt R)).foldr DataW.insert []))).Perm (m.map (·.1)) := by
          have e1 : (ens.toList.map (WideElems.rg P kt R)).map (fun p => intOf p.1) = m.map (·.1) := by
            have e2 : (ens.toList.map (WideElems.rg P kt R)).map (fun p => intOf p.1) = (ens.toList.map (·.key)).map fun c => (match c with | .int _ n => n | _ => 0) := by
              rw [List.map_map, List.map_map]
              refine List.map_congr_left fun x hx => ?_
              obtain ⟨p, _, hk', hr'⟩ := hrd x hx
              simp [WideElems.rg_of hr', intOf, hk']
            rw [e2, hkeys, List.map_map]
            rfl
          rw [← e1]
          exact (WideShapes.sorted_perm _).map _
        have hsort : ss.mergeSort (fun x y => decide (x ≤ y)) = (m.map (·.1)).mergeSort fun x y => decide (x ≤ y) := mergeSort_of_perm_i (hperm.trans hki)
        obtain ⟨s', e'⟩ := Below.ext s hbel
        have hssl : ss.length = m.length := by rw [(hperm.trans hki).length_eq, List.length_map]
        refine ⟨.ret (.sl 1 (List.map (rI .i64) ((m.map (·.1)).mergeSort fun x y => decide (x ≤ y)))), _, mu, ⟨_, rfl, rfl, rfl⟩, s', e', ?_⟩
        show Rv w' mu _ _ v
        rw [← hsort]
        have hlen2 : (ss.mergeSort fun x y => decide (x ≤ y)).length = ss.length := List.length_mergeSort _
        rcases hrow.2 with ⟨rfl, hz⟩ | ⟨gb, cap, cur, rfl, hbase, hgb, r1, r2, r3, r4⟩
        · have hss : ss = [] := List.eq_nil_of_length_eq_zero hz
          subst hss
          simpa using Rv.sl0 (w := w') (mu := mu) (M := Mut _ mu) 1 none 0
        · have hcell : ∀ i (hi : i < ss.length), w'.cell? ⟨gb, 0 + i * 1 + 0, none⟩ = some (encZ ((ss.mergeSort fun x y => decide (x ≤ y))[i]'(by omega))) := by
            intro i hi
            unfold World.cell?
            rw [hgb]
            have h5 : (cur.toList.take (ss.length * 1))[i]? = some (encZ ((ss.mergeSort fun x y => decide (x ≤ y))[i]'(by omega))) := by
              rw [r4, List.getElem?_map, List.getElem?_eq_getElem (by omega)]; rfl
            rw [List.getElem?_take, if_pos (by omega)] at h5
            simpa using h5
          have := Rv.sl (w := w') (mu := mu) (M := Mut (hp h0 [o] [some (.mp g (mE (fun x : Int => AV.int .i64 x) eV m))]) mu) 1 (List.map (rI .i64) (ss.mergeSort fun x y => decide (x ≤ y))) gb 0 cap (fun i _ => encZ ((ss.mergeSort fun x y => decide (x ≤ y)).getD i 0)) (by simp [hlen2]; exact r1) (by simp [hlen2, LIM]; omega)
            (fun i j hi hj => by
              have hj0 : j = 0 := by omega
              have hi' : i < ss.length := by simpa [hlen2] using hi
              subst hj0
              rw [hcell i hi']
              simp [List.getD, List.getElem?_eq_getElem (show i < (ss.mergeSort fun x y => decide (x ≤ y)).length by omega)])
            (fun i j hi hj => by
              have hj0 : j = 0 := by omega
              have hi' : i < (ss.mergeSort fun x y => decide (x ≤ y)).length := by simpa using hi
              subst hj0
              have e3 : cell (List.map (rI .i64) (ss.mergeSort fun x y => decide (x ≤ y))) i 0 = .int .i64 ((ss.mergeSort fun x y => decide (x ≤ y)).getD i 0) := by simp [cell, rI, List.getD, List.getElem?_eq_getElem hi']
              rw [e3]; exact .int _ _)
            (fun r hr => by obtain ⟨x, _, rfl⟩ := List.mem_map.1 hr; exact ok_I x)
            (fun hm => by have := Mut.lt s hm; omega)
            (by
              rcases Nat.lt_or_ge gb w'.heap.size with hh | hh
              · exact hh
              · rw [Array.getElem?_eq_none hh] at hgb; cases hgb)
          simpa [hlen2] using this
end
end Go.Am
