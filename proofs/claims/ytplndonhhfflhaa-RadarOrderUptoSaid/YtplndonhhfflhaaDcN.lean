/- Library functions that write a slice of integers in place: slices.Sort, slices.Compact, read abstractly. -/
import Derived.Test.YtplndonhhfflhaaDcY
import Derived.Shelf.SortM.Plain
import Derived.Shelf.SortM.SortNone
import Derived.Shelf.Slices.CompactI
namespace Go.Am
open Go
set_option linter.unusedSimpArgs false
set_option linter.unusedVariables false
set_option linter.unusedSectionVars false

theorem bin_shr {P : Program} {t : TypeId} {k k' : IntKind} {a b c : Int} (hb : decide (0 ≤ b) = true) (hc : 2 ^ (min b.toNat k.bits) = c) : aBin P .shr t (.int k a) (.int k' b) = some (.int k (a.fdiv c)) := by
  have hb' : 0 ≤ b := by simpa using hb
  simp only [aBin, if_pos hb', hc]

def sortI (l : List Int) : List Int := l.mergeSort fun x y => decide (x ≤ y)
def slicesSort (l : List Int) : R Unit := if l.length ≤ LIM then .ok () else .bad
def slicesCompact (l : List Int) : R Unit := if l.length ≤ LIM then .ok () else .bad
/-- slices.Insert; 'b': an element's bytes. -/
def slicesInsert {α : Type} (b : Nat) (L : List α) (i : Int) (V : List α) : R (List α) :=
  if 0 ≤ i ∧ i ≤ (L.length : Int) ∧ 0 < V.length ∧ (L.length + V.length) * b ≤ LIM then .ok (L.take i.toNat ++ V ++ L.drop i.toNat) else .bad
theorem ansG_mono {α : Type} {S S' : α → AV → AHeap → Prop} {h0 : AHeap} {m : R α} {r : AR} {h' : AHeap} (hs : ∀ a v h, m = .ok a → S a v h → S' a v h) (h : AnsG S h0 m r h') : AnsG S' h0 m r h' := by
  unfold AnsG at h ⊢
  cases m with
  | ok a => obtain ⟨v, h1, h2⟩ := h; exact ⟨v, h1, hs _ _ _ rfl h2⟩
  | pan v => exact h
  | bad => exact h
theorem sortI_length (l : List Int) : (sortI l).length = l.length := List.length_mergeSort _
theorem OwnV.sort {v : AV} {o g : Nat} {L : List Int} (h : OwnV v o g L.length) : OwnV v o g (sortI L).length := by rw [sortI_length]; exact h
section
variable {P : Program} [GW P] {B : Base P} {h : AHeap} {mu : Mu} {w : World}
/-- A row of integers of one's own: its cells. -/
theorem holds_ints (s : Sim B mu h w) {o g : Nat} {L : List Int} (hx : h o = some (.rows g 1 (L.map (rI .i64)))) {l : Loc} (hl : mu o g = some l) : Sort.Holds (Value.int .i64) w l.b l.base L.toArray ∧ l.b < w.heap.size := by
  obtain ⟨l', cells, e, f, k1, k2, k3, k4, k5, k6, k7, k8, k9⟩ := s.obj hx
  rw [hl] at k1; cases k1
  have hsz : l.base + L.length ≤ l.size := by simpa using k4
  refine ⟨fun j hj => ?_, (s.muOk _ _ _ hl).2.1⟩
  have hj' : j < L.length := by simpa using hj
  obtain ⟨x, hx1, hx2⟩ := k9 j 0 (by simpa using hj') (by omega)
  have e3 : cell (L.map (rI .i64)) j 0 = .int .i64 (L[j]) := by simp [cell, rI, List.getD, List.getElem?_eq_getElem hj']
  rw [e3] at hx2
  have := rv_int hx2
  subst this
  constructor
  · unfold World.cell?
    rw [k6]
    have : cells[l.base + j]? = some (.int .i64 L[j]) := by simpa using hx1
    simp [this, hj']
  · unfold World.frozen?
    rw [k6]
    have := k8 (l.base + j) (by omega)
    cases hq : (decide (f.1 ≤ l.base + j) && decide (l.base + j < f.2)) with
    | false => exact hq
    | true =>
      simp only [Bool.and_eq_true, decide_eq_true_eq] at hq
      exact absurd hq this

/-- .. and written anew. -/
theorem put_ints (s : Sim B mu h w) {o g : Nat} {L L2 : List Int} (hx : h o = some (.rows g 1 (L.map (rI .i64)))) {l : Loc} (hl : mu o g = some l) {M : List Int} (hM : M.length = L.length) (h2 : ∀ i (hi : i < L2.length), M[i]? = some L2[i]) {w' : World}
    (hw : ∃ n os, w' = Sort.grow (Sort.putRow (Value.int .i64) (Sort.ahead w n) l.b l.base M.toArray) os) :
    Sim B mu (upd h o (some (.rows g 1 (L2.map (rI .i64))))) w' ∧ EXT h mu w (upd h o (some (.rows g 1 (L2.map (rI .i64))))) mu w' := by
  obtain ⟨n, os, rfl⟩ := hw
  obtain ⟨l', cells, e, f, k1, k2, k3, k4, k5, k6, k7, k8, k9⟩ := s.obj hx
  rw [hl] at k1; cases k1
  have hsz : l.base + L.length ≤ l.size := by simpa using k4
  have hl2 : L2.length ≤ M.length := by
    rcases Nat.lt_or_ge M.length L2.length with hh | hh
    · have := h2 M.length hh
      rw [List.getElem?_eq_none (Nat.le_refl _)] at this; cases this
    · exact hh
  have hb : l.b < w.heap.size := (s.muOk _ _ _ hl).2.1
  have hput := Sim.put (w' := Sort.putRow (Value.int .i64) (Sort.ahead w n) l.b l.base M.toArray) (rs' := L2.map (rI .i64)) (l' := l) (g' := g) (cells' := Sort.putCells (Value.int .i64) l.base M.toArray cells) (e := e) (f := f) s hx hl rfl rfl rfl
    (by simp [Sort.putRow, Sort.mapBlock, Sort.ahead])
    (fun b hbne => by
      simp only [Sort.putRow, Sort.mapBlock, Sort.ahead, Array.getElem?_modify]
      rw [if_neg (fun hh => hbne hh.symm)])
    (by
      simp only [Sort.putRow, Sort.mapBlock, Sort.ahead, Array.getElem?_modify, if_true, k6, Option.map_some]
      rfl)
    (by simp [Sort.putCells, k7]) k8 (.inl ⟨rfl, rfl⟩) rfl rfl k2
    (by rw [k3]; simp; omega)
    (by
      intro r hr
      rw [k3]
      obtain ⟨x, _, rfl⟩ := List.mem_map.1 hr
      exact ok_I x)
    (by
      intro i j hi hj
      rw [k3] at hj
      have hj0 : j = 0 := by omega
      subst hj0
      have hi' : i < L2.length := by simpa using hi
      have e3 : cell (L2.map (rI .i64)) i 0 = .int .i64 (L2[i]) := by simp [cell, rI, List.getD, List.getElem?_eq_getElem hi']
      refine ⟨.int .i64 L2[i], ?_, by rw [e3]; exact .int _ _⟩
      have hM1 := h2 i hi'
      have hc : l.base + i < cells.size := by rw [k7]; omega
      rw [k3]
      have e4 : (M.toArray)[l.base + i * 1 + 0 - l.base]! = L2[i] := by
        rw [show l.base + i * 1 + 0 - l.base = i by omega]
        simp [hM1]
      unfold Sort.putCells
      rw [Array.getElem?_mapIdx, Array.getElem?_eq_getElem (by omega)]
      simp only [Option.map_some]
      rw [if_pos ⟨by omega, by simp; omega⟩, e4])
  rw [k3] at hput
  have e1 : upd2 mu o g l = mu := by
    funext o1 g1
    unfold upd2
    split
    · rename_i hh; obtain ⟨rfl, rfl⟩ := hh; exact hl.symm
    · rfl
  rw [e1] at hput
  obtain ⟨q1, q2⟩ := Below.ext (w' := Sort.grow (Sort.putRow (Value.int .i64) (Sort.ahead w n) l.b l.base M.toArray) os) hput.1 ⟨rfl, rfl, rfl, by simp, fun i hi => Sort.heap_grow_old _ _ hi⟩
  exact ⟨q1, hput.2.trans q2⟩

theorem own_arg {v : AV} {o g n : Nat} (hv : OwnV v o g n) {c : Value} (hr : RV h mu w v c) : (∃ a, v = .emp ∧ n = 0 ∧ c = .slice a 0 0) ∨ ∃ l cap, v = .ref o g 0 n ∧ mu o g = some l ∧ n ≤ LIM ∧ n ≤ cap ∧ l.base + cap * l.st ≤ l.size ∧ c = .slice (some ⟨l.b, l.base, none⟩) n cap := by
  rcases hv with ⟨rfl, rfl⟩ | rfl
  · cases hr with
    | emp a => exact .inl ⟨a, rfl, rfl, rfl⟩
  · cases hr with
    | ref _ _ _ _ cap l hl hc hcap hlim hsz =>
      refine .inr ⟨l, cap, rfl, hl, hlim, hcap, by simpa using hsz, by simp⟩

/-- slices.Sort -/
theorem sort_calls {sf : Nat} {L : List Int} {v : AV} {h0 : AHeap} {o g : Nat} (hI0 : Ids h0 [o] 1) (hb : HasBody P sf) (hv : OwnV v o g L.length)
    (hs : ∀ (blk off cap : Nat) (zs : List Int) (w : World), Sort.Holds (Value.int .i64) w blk off zs.toArray → blk < w.heap.size → zs.length < 4611686018427387904 →
      Calls P sf #[.slice (some ⟨blk, off, none⟩) zs.length cap] w fun e w' => e = .returned (.tuple #[]) ∧ ∃ n os, w' = Sort.grow (Sort.putRow (Value.int .i64) (Sort.ahead w n) blk off (zs.mergeSort fun x y => decide (x ≤ y)).toArray) os)
    (hn : ∀ (p : Option Addr) (cap : Nat) (w : World), Calls P sf #[.slice p 0 cap] w fun e w' => e = .returned (.tuple #[]) ∧ w' = w) :
    slicesSort L ≠ .bad → ACalls P sf [v] (hp h0 [o] [ownO v g 1 (L.map (rI .i64))]) (AnsG (fun _ v' h' => v' = .tup [] ∧ h' = hp h0 [o] [ownO v g 1 ((sortI L).map (rI .i64))]) h0 (slicesSort L)) := by
  intro hne
  unfold slicesSort at hne ⊢
  split at hne
  case isFalse => exact absurd rfl hne
  rename_i hlim
  rw [if_pos hlim]
  refine ⟨hb, fun B mu w cargs s ha => ?_⟩
  obtain ⟨c, rfl, hc⟩ := lrv_one ha
  rcases own_arg hv hc with ⟨a, rfl, hn0, rfl⟩ | ⟨l, cap, rfl, hl, _, hcap, hsz, rfl⟩
  · have hL : L = [] := List.eq_nil_of_length_eq_zero hn0
    subst hL
    refine (hn a 0 w).mono ?_
    rintro e w' ⟨rfl, rfl⟩
    exact ⟨.ret (.tup []), _, mu, ⟨_, rfl, rfl, rfl⟩, s, Ext.refl _ _ _, .tup _ _ rfl fun i hi => by simp at hi⟩
  · have hx : hp h0 [o] [ownO (.ref o g 0 L.length) g 1 (L.map (rI .i64))] o = some (.rows g 1 (L.map (rI .i64))) := hI0.at (xs := [_]) rfl (j := 0) rfl
    obtain ⟨hH, hblk⟩ := holds_ints s hx hl
    refine (hs l.b l.base cap L w hH hblk (by simp only [LIM] at hlim; omega)).mono ?_
    rintro e w' ⟨rfl, n, os, rfl⟩
    obtain ⟨q1, q2⟩ := put_ints s hx hl (L2 := sortI L) (M := L.mergeSort fun x y => decide (x ≤ y)) (List.length_mergeSort _) (fun i hi => List.getElem?_eq_getElem hi) ⟨n, os, rfl⟩
    have e5 : upd (hp h0 [o] [ownO (.ref o g 0 L.length) g 1 (L.map (rI .i64))]) o (some (.rows g 1 ((sortI L).map (rI .i64)))) = hp h0 [o] [some (.rows g 1 ((sortI L).map (rI .i64)))] := hI0.set rfl (j := 0) rfl
    rw [e5] at q1 q2
    exact ⟨.ret (.tup []), _, mu, ⟨_, rfl, rfl, rfl⟩, q1, q2, .tup _ _ rfl fun i hi => by simp at hi⟩

theorem compact_le (l : List Int) : (Lib.compact l).length ≤ l.length := by
  unfold Lib.compact Lib.compactUpTo
  rw [List.length_map]
  exact Nat.le_trans (List.length_filter_le _ _) (by simp)
def compactI (l : List Int) : List Int := Lib.compact l
/-- What slices.Compact hands back. -/
def compV (v : AV) (o g : Nat) (l : List Int) : AV := if l = [] then v else .ref o g 0 (compactI l).length
theorem OwnV.comp {v : AV} {o g : Nat} {L : List Int} (h : OwnV v o g L.length) : OwnV (compV v o g L) o g (compactI L).length := by
  unfold compV
  split
  · rename_i hL; subst hL; exact h
  · exact .inr rfl
theorem ownO_comp {v : AV} {o g st : Nat} {L : List Int} {rs : List (List AV)} (hL : L ≠ []) : ownO (compV v o g L) g st rs = some (.rows g st rs) := by
  unfold compV; rw [if_neg hL]; rfl
/-- slices.Compact -/
theorem compact_calls {sf : Nat} {L : List Int} {v : AV} {h0 : AHeap} {o g : Nat} (hI0 : Ids h0 [o] 1) (hb : HasBody P sf) (hv : OwnV v o g L.length)
    (hs : ∀ (blk off cap : Nat) (zs : List Int) (w : World), Sort.Holds (Value.int .i64) w blk off zs.toArray → zs.length ≤ 9223372036854775807 → zs.length ≤ cap →
      Calls P sf #[.slice (some ⟨blk, off, none⟩) zs.length cap] w fun e w' => e = .returned (.slice (some ⟨blk, off, none⟩) (Lib.compact zs).length cap) ∧ ∃ q, w' = Sort.putRow (Value.int .i64) (Sort.ahead w q) blk off (Lib.compact zs ++ List.replicate (zs.length - (Lib.compact zs).length) 0).toArray)
    (hn : ∀ (a : Option Addr) (cap : Nat) (w : World), Calls P sf #[.slice a 0 cap] w fun e w' => e = .returned (.slice a 0 cap) ∧ w' = w) :
    slicesCompact L ≠ .bad → ACalls P sf [v] (hp h0 [o] [ownO v g 1 (L.map (rI .i64))]) (AnsG (fun _ v' h' => v' = compV v o g L ∧ h' = hp h0 [o] [ownO (compV v o g L) g 1 ((compactI L).map (rI .i64))]) h0 (slicesCompact L)) := by
  intro hne
  unfold slicesCompact at hne ⊢
  split at hne
  case isFalse => exact absurd rfl hne
  rename_i hlim
  rw [if_pos hlim]
  refine ⟨hb, fun B mu w cargs s ha => ?_⟩
  obtain ⟨c, rfl, hc⟩ := lrv_one ha
  by_cases hL : L = []
  · subst hL
    rcases own_arg hv hc with ⟨a, rfl, hn0, rfl⟩ | ⟨l, cap, rfl, hl, _, hcap, hsz, rfl⟩
    · refine (hn a 0 w).mono ?_
      rintro e w' ⟨rfl, rfl⟩
      exact ⟨.ret .emp, _, mu, ⟨_, rfl, rfl, rfl⟩, s, Ext.refl _ _ _, .emp _⟩
    · refine (hn (some ⟨l.b, l.base, none⟩) cap w).mono ?_
      rintro e w' ⟨rfl, rfl⟩
      exact ⟨.ret (.ref o g 0 0), _, mu, ⟨_, rfl, rfl, rfl⟩, s, Ext.refl _ _ _, hc⟩
  · have hpos : 0 < L.length := List.length_pos_iff.2 hL
    have hvr := hv.isRef hpos
    subst hvr
    rcases own_arg hv hc with ⟨a, h1, h2, h3⟩ | ⟨l, cap, _, hl, _, hcap, hsz, rfl⟩
    · cases h1
    · have hx : hp h0 [o] [ownO (.ref o g 0 L.length) g 1 (L.map (rI .i64))] o = some (.rows g 1 (L.map (rI .i64))) := hI0.at (xs := [_]) rfl (j := 0) rfl
      obtain ⟨hH, hblk⟩ := holds_ints s hx hl
      have hcl : (Lib.compact L).length ≤ L.length := compact_le L
      refine (hs l.b l.base cap L w hH (by simp only [LIM] at hlim; omega) hcap).mono ?_
      rintro e w' ⟨rfl, n, rfl⟩
      obtain ⟨q1, q2⟩ := put_ints s hx hl (L2 := compactI L) (M := Lib.compact L ++ List.replicate (L.length - (Lib.compact L).length) 0) (by simp; omega) (fun i hi => by have hi' : i < (Lib.compact L).length := hi; rw [List.getElem?_append_left hi']; exact List.getElem?_eq_getElem hi') ⟨n, #[], by rw [Sort.grow_empty]⟩
      have e5 : upd (hp h0 [o] [ownO (.ref o g 0 L.length) g 1 (L.map (rI .i64))]) o (some (.rows g 1 ((compactI L).map (rI .i64)))) = hp h0 [o] [some (.rows g 1 ((compactI L).map (rI .i64)))] := hI0.set rfl (j := 0) rfl
      rw [e5] at q1 q2
      rw [ownO_comp hL]
      refine ⟨.ret (compV (.ref o g 0 L.length) o g L), _, mu, ⟨_, rfl, rfl, rfl⟩, q1, q2, ?_⟩
      unfold compV
      rw [if_neg hL]
      have hst : l.st = 1 := by
        obtain ⟨l', cells, e, f, k1, k2, k3, _⟩ := s.obj hx
        rw [hl] at k1; cases k1; exact k3
      obtain ⟨l', cells, e, f, k1, k2, k3, _⟩ := s.obj hx
      rw [hl] at k1; cases k1
      have := Rv.ref (w := Sort.putRow (Value.int .i64) (Sort.ahead w n) l.b l.base (Lib.compact L ++ List.replicate (L.length - (Lib.compact L).length) 0).toArray) (M := Mut (hp h0 [o] [some (.rows g 1 ((compactI L).map (rI .i64)))]) mu) o g 0 (compactI L).length cap l hl k2 (show (Lib.compact L).length ≤ cap by omega) (show (Lib.compact L).length ≤ LIM by omega) (by simpa using hsz)
      rw [Nat.zero_mul, Nat.add_zero] at this
      exact this
/-- The cells of a live object. -/
theorem own_cells (s : Sim B mu h w) {o g st : Nat} {rs : List (List AV)} (hx : h o = some (.rows g st rs)) {l : Loc} (hl : mu o g = some l) : ∃ (cs : List Value) (cells : Array Value) (e : TypeId) (f : Nat × Nat),
    w.heap[l.b]? = some (.cells cells e f) ∧ cells.size = l.size ∧ Unfrozen f l.size ∧ l.cells = true ∧ l.st = st ∧ l.base + rs.length * st ≤ l.size ∧ l.b < w.heap.size ∧ (∀ r ∈ rs, RowOk st r) ∧
    cs.length = rs.length * st ∧ (∀ j v, cs[j]? = some v → w.cell? ⟨l.b, l.base + j, none⟩ = some v) ∧ (∀ i j, i < rs.length → j < st → RV h mu w (cell rs i j) (cs.getD (i * st + j) undef)) ∧ (∀ v ∈ cs, v.oneCell' = true) := by
  obtain ⟨l', cells, e, f, k1, k2, k3, k4, k5, k6, k7, k8, k9⟩ := s.obj hx
  rw [hl] at k1; cases k1
  have hlen : ((cells.toList.drop l.base).take (rs.length * st)).length = rs.length * st := by
    rw [List.length_take, List.length_drop, show cells.toList.length = cells.size from Array.length_toList]; omega
  have hget : ∀ j, j < rs.length * st → ((cells.toList.drop l.base).take (rs.length * st))[j]? = cells[l.base + j]? := fun j hj => by
    rw [List.getElem?_take, if_pos hj, List.getElem?_drop, Array.getElem?_toList]
  have hrv : ∀ i j, i < rs.length → j < st → RV h mu w (cell rs i j) (((cells.toList.drop l.base).take (rs.length * st)).getD (i * st + j) undef) := fun i j hi hj => by
    obtain ⟨c, c1, c2⟩ := k9 i j hi hj
    have := idx_in (st := st) hi hj
    rw [getD_of (x := c) (by rw [hget _ this, ← Nat.add_assoc]; exact c1)]
    exact c2
  refine ⟨(cells.toList.drop l.base).take (rs.length * st), cells, e, f, k6, k7, k8, k2, k3, k4, (s.muOk _ _ _ hl).2.1, k5, hlen, fun j v hj => ?_, hrv, fun u hu => ?_⟩
  · have hj' : j < rs.length * st := by
      rw [← hlen]
      rcases Nat.lt_or_ge j ((cells.toList.drop l.base).take (rs.length * st)).length with hh | hh
      · exact hh
      · rw [List.getElem?_eq_none hh] at hj; cases hj
    rw [hget j hj'] at hj
    unfold World.cell?
    rw [k6]
    simpa using hj
  · obtain ⟨q, hq, rfl⟩ := List.mem_iff_getElem.1 hu
    rw [hlen] at hq
    obtain ⟨d1, d2, d3⟩ := divmod_row hq
    have hr := hrv _ _ d1 d2
    rw [d3, getD_of (List.getElem?_eq_getElem (by rw [hlen]; exact hq))] at hr
    refine hr.one ?_
    have hrow := k5 _ (List.getElem_mem d1)
    have hcell : cell rs (q / st) (q % st) = (rs[q / st])[q % st]'(by rw [hrow.1]; exact d2) := by
      simp [cell, List.getD, d1, hrow.1, d2]
    rw [hcell]
    exact hrow.2 _ (List.getElem_mem _)
/-- What 'cs' holds, row by row. -/
def RowsAt (h : AHeap) (mu : Mu) (w : World) (st : Nat) (rs : List (List AV)) (cs : List Value) : Prop := cs.length = rs.length * st ∧ ∀ i j, i < rs.length → j < st → RV h mu w (cell rs i j) (cs.getD (i * st + j) undef)
theorem getD_app_l {a b : List Value} {i : Nat} (h : i < a.length) : (a ++ b).getD i undef = a.getD i undef := by simp [List.getD, List.getElem?_append_left h]
theorem getD_app_r {a b : List Value} {i : Nat} (h : a.length ≤ i) : (a ++ b).getD i undef = b.getD (i - a.length) undef := by simp [List.getD, List.getElem?_append_right h]
theorem RowsAt.app {st : Nat} {rs rs' : List (List AV)} {cs cs' : List Value} (h1 : RowsAt h mu w st rs cs) (h2 : RowsAt h mu w st rs' cs') : RowsAt h mu w st (rs ++ rs') (cs ++ cs') := by
  refine ⟨by rw [List.length_append, List.length_append, h1.1, h2.1, Nat.add_mul], fun i j hi hj => ?_⟩
  rw [cell_append]
  split
  · rename_i hl
    have := idx_in (st := st) hl hj
    rw [getD_app_l (by rw [h1.1]; exact this)]
    exact h1.2 i j hl hj
  · rename_i hl
    have hle : rs.length * st ≤ i * st := Nat.mul_le_mul_right _ (by omega)
    rw [getD_app_r (by rw [h1.1]; omega), h1.1]
    have e : i * st + j - rs.length * st = (i - rs.length) * st + j := by
      have : i * st = rs.length * st + (i - rs.length) * st := by rw [← Nat.add_mul]; congr 1; omega
      omega
    rw [e]
    exact h2.2 _ _ (by rw [List.length_append] at hi; omega) hj
theorem cell_take {rs : List (List AV)} {n i j : Nat} (h : i < n) : cell (rs.take n) i j = cell rs i j := by
  unfold cell; simp [List.getD, List.getElem?_take, h]
theorem cell_drop {rs : List (List AV)} {n i j : Nat} : cell (rs.drop n) i j = cell rs (n + i) j := by
  unfold cell; simp [List.getD, List.getElem?_drop]
theorem RowsAt.take {st n : Nat} {rs : List (List AV)} {cs : List Value} (h1 : RowsAt h mu w st rs cs) (hn : n ≤ rs.length) : RowsAt h mu w st (rs.take n) (cs.take (n * st)) := by
  have hm : n * st ≤ rs.length * st := Nat.mul_le_mul_right _ hn
  refine ⟨by rw [List.length_take, List.length_take, h1.1, Nat.min_eq_left hm, Nat.min_eq_left hn], fun i j hi hj => ?_⟩
  rw [List.length_take] at hi
  have := idx_in (st := st) (show i < n by omega) hj
  rw [cell_take (by omega)]
  have e : (cs.take (n * st)).getD (i * st + j) undef = cs.getD (i * st + j) undef := by simp [List.getD, List.getElem?_take, this]
  rw [e]
  exact h1.2 i j (by omega) hj
theorem RowsAt.drop {st n : Nat} {rs : List (List AV)} {cs : List Value} (h1 : RowsAt h mu w st rs cs) (hn : n ≤ rs.length) : RowsAt h mu w st (rs.drop n) (cs.drop (n * st)) := by
  refine ⟨by rw [List.length_drop, List.length_drop, h1.1, Nat.sub_mul], fun i j hi hj => ?_⟩
  rw [List.length_drop] at hi
  rw [cell_drop]
  have e : (cs.drop (n * st)).getD (i * st + j) undef = cs.getD ((n + i) * st + j) undef := by
    simp only [List.getD, List.getElem?_drop]
    rw [show n * st + (i * st + j) = (n + i) * st + j by rw [Nat.add_mul]; omega]
  rw [e]
  exact h1.2 (n + i) j (by omega) hj
/-- The content of a block that nobody will write. -/
theorem sl_of_cells {h' : AHeap} {mu' : Mu} {w' : World} {st : Nat} {rs : List (List AV)} {cs : List Value} (hR : RowsAt h' mu' w' st rs cs) (hr : ∀ r ∈ rs, RowOk st r) {b off cap : Nat} (hcap : rs.length ≤ cap) (hlim : rs.length ≤ LIM)
    (hc : ∀ j v, cs[j]? = some v → w'.cell? ⟨b, off + j, none⟩ = some v) (hb : b < w'.heap.size) (hm : ¬ Mut h' mu' b) : RV h' mu' w' (.sl st rs) (.slice (some ⟨b, off, none⟩) rs.length cap) := by
  refine .sl st rs b off cap (fun i j => cs.getD (i * st + j) undef) hcap hlim (fun i j hi hj => ?_) (fun i j hi hj => hR.2 i j hi hj) hr hm hb
  have := idx_in (st := st) hi hj
  rw [Nat.add_assoc]
  exact hc _ _ (by rw [List.getD_eq_getElem?_getD, List.getElem?_eq_getElem (by rw [hR.1]; exact this)]; rfl)
theorem ins_fin {h1 h2 : AHeap} {w' : World} {k : Nat} {rs : List (List AV)} {cs : List Value} (s' : Sim B mu h1 w') (e : EXT h mu w h1 mu w') (hsub : Sub h2 h1) (hR : RowsAt h mu w k rs cs) (hr : ∀ r ∈ rs, RowOk k r) {b off cap : Nat} (hcap : rs.length ≤ cap) (hlim : rs.length ≤ LIM)
    (hc : ∀ j v, cs[j]? = some v → w'.cell? ⟨b, off + j, none⟩ = some v) (hb : b < w'.heap.size) (hm : ¬ Mut h2 mu b) : Sim B mu h2 w' ∧ EXT h mu w h2 mu w' ∧ RV h2 mu w' (.sl k rs) (.slice (some ⟨b, off, none⟩) rs.length cap) := by
  have e2 : EXT h mu w h2 mu w' := e.trans (EXT.subG hsub.g)
  exact ⟨s'.sub hsub, e2, sl_of_cells ⟨hR.1, fun i j hi hj => (hR.2 i j hi hj).ext e2⟩ hr hcap hlim hc hb hm⟩
theorem not_mut_of (s : Sim B mu h w) {h2 : AHeap} (hsub : Sub h2 h) {o g st : Nat} {rs : List (List AV)} (hx : h o = some (.rows g st rs)) {l : Loc} (hl : mu o g = some l) (h2o : h2 o = none) : ¬ Mut h2 mu l.b := by
  rintro ⟨o', x', l', q1, q2, q3⟩
  have := s.inj o' o _ _ l' l (hsub _ _ q1) hx q2 hl q3
  subst this
  rw [h2o] at q1; cases q1
/-- A block of one's own is written by the machine. -/
theorem put_raw (s : Sim B mu h w) {o g st : Nat} {rs : List (List AV)} (hx : h o = some (.rows g st rs)) {l : Loc} (hl : mu o g = some l) (hlc : l.cells = true) (hls : l.st = st) (hbase : l.base ≤ l.size) {w' : World} {cells' : Array Value} {e : TypeId} {f : Nat × Nat}
    (h1 : w'.os = w.os) (h2 : w'.tape = w.tape) (h3 : w'.output = w.output) (h4 : w'.heap.size = w.heap.size) (h5 : ∀ b, b ≠ l.b → w'.heap[b]? = w.heap[b]?) (h6 : w'.heap[l.b]? = some (.cells cells' e f)) (h7 : cells'.size = l.size) (h8 : Unfrozen f l.size) :
    Sim B mu (upd h o (some (.rows g st []))) w' ∧ EXT h mu w (upd h o (some (.rows g st []))) mu w' := by
  have := Sim.put (rs' := []) (l' := l) (g' := g) s hx hl h1 h2 h3 h4 h5 h6 h7 h8 (.inl ⟨rfl, rfl⟩) rfl rfl hlc (by simpa using hbase) (fun r hr => by cases hr) (fun i j hi hj => by simp at hi)
  have e1 : upd2 mu o g l = mu := by
    funext o1 g1
    unfold upd2
    split
    · rename_i hh; obtain ⟨rfl, rfl⟩ := hh; exact hl.symm
    · rfl
  rw [e1, hls] at this
  exact this
theorem shape_of {b : Nat} {cells : Array Value} {e : TypeId} {f : Nat × Nat} (hq : w.heap[b]? = some (.cells cells e f)) : w.shape? b = some (e, cells.size) := by
  unfold World.shape?; rw [hq]
theorem thaw_of {b n : Nat} {cells : Array Value} {e : TypeId} {f : Nat × Nat} (hq : w.heap[b]? = some (.cells cells e f)) (hu : Unfrozen f n) {i : Nat} (hi : i ≤ n) : w.frozen? ⟨b, i, none⟩ = false := by
  unfold World.frozen?
  rw [hq]
  have := hu i hi
  cases hd : (decide (f.1 ≤ i) && decide (i < f.2)) with
  | false => exact hd
  | true =>
    simp only [Bool.and_eq_true, decide_eq_true_eq] at hd
    exact absurd hd this
theorem cell_is {b i : Nat} {cells : Array Value} {e : TypeId} {f : Nat × Nat} (hq : w.heap[b]? = some (.cells cells e f)) (hi : i < cells.size) : (w.cell? ⟨b, i, none⟩).isSome = true := by
  unfold World.cell?; rw [hq]; simp [hi]
theorem cell_eq {b i : Nat} {cells : Array Value} {e : TypeId} {f : Nat × Nat} (hq : w.heap[b]? = some (.cells cells e f)) : w.cell? ⟨b, i, none⟩ = cells[i]? := by
  unfold World.cell?; rw [hq]; simp

theorem lrv_three {a b c : AV} {cargs : Array Value} (k : LRv h mu w [a, b, c] cargs.toList) : ∃ x y z, cargs = #[x, y, z] ∧ RV h mu w a x ∧ RV h mu w b y ∧ RV h mu w c z := by
  obtain ⟨l⟩ := cargs
  match l, k.1 with
  | [x, y, z], _ => exact ⟨x, y, z, rfl, by simpa using k.2 0 (by simp), by simpa using k.2 1 (by simp), by simpa using k.2 2 (by simp)⟩
theorem at_alloc (x : Array Value) {et : TypeId} : ((w.drew.alloc (.cells x et)).heap)[w.heap.size]? = some (.cells x et (0, 0)) := heap_push_eq (w := w.drew)
theorem heap_push_lt' {x : Obj} {i : Nat} (hi : i < w.heap.size) : (w.alloc x).heap[i]? = w.heap[i]? := heap_push_lt hi
theorem below_alloc (x : Obj) : RowKit.Below w.heap.size w (w.drew.alloc x) := ⟨rfl, rfl, rfl, by show w.heap.size ≤ (w.drew.alloc x).heap.size; rw [alloc_size]; exact Nat.le_succ _, fun i hi => heap_push_lt' (w := w.drew) hi⟩
theorem mid_get {cs vs : List Value} {q : Nat} (hq : q ≤ cs.length) {A : Nat → Option Value} (h1 : ∀ j, j < q → ∀ v, cs[j]? = some v → A j = some v) (h2 : ∀ j v, vs[j]? = some v → A (q + j) = some v) (h3 : ∀ j v, cs[q + j]? = some v → A (q + vs.length + j) = some v) :
    ∀ j v, (cs.take q ++ vs ++ cs.drop q)[j]? = some v → A j = some v := by
  intro j v hj
  have ht : (cs.take q).length = q := by rw [List.length_take]; omega
  by_cases a1 : j < q
  · rw [List.append_assoc, List.getElem?_append_left (by rw [ht]; exact a1), List.getElem?_take, if_pos a1] at hj
    exact h1 j a1 v hj
  · by_cases a2 : j < q + vs.length
    · rw [List.getElem?_append_left (by rw [List.length_append, ht]; exact a2), List.getElem?_append_right (by rw [ht]; omega), ht] at hj
      have := h2 _ v hj
      rwa [show q + (j - q) = j by omega] at this
    · rw [List.getElem?_append_right (by rw [List.length_append, ht]; omega), List.length_append, ht, List.getElem?_drop] at hj
      have := h3 _ v hj
      rwa [show q + vs.length + (j - (q + vs.length)) = j by omega] at this
/-- slices.Insert at elements of 'k' cells; the four 'w..' are the walks. -/
theorem insert_calls {sf k by' et : Nat} {zz : Array Value} {α : Type} {e : α → List AV} (hok : ∀ x, RowOk k (e x)) (hk : 0 < k) (hby : k ≤ by') {L V : List α} {i : Int} {v v2 : AV} {h0 : AHeap} {o o1 g g2 : Nat} (hI0 : Ids h0 [o, o1] 2) (hb : HasBody P sf) (hv : OwnV v o g L.length) (hv2 : OwnV v2 o1 g2 V.length)
    (wShift : ∀ (b off n c i vb voff m vc : Nat) (cs vs : List Value) (w : World), i < n → 0 < m → n + m ≤ c → n + m ≤ 9223372036854775807 → vb ≠ b → cs.length = n * k → vs.length = m * k →
      (∀ j v, cs[j]? = some v → w.cell? ⟨b, off + j, none⟩ = some v) → (∀ j, j < (n + m) * k → (w.cell? ⟨b, off + j, none⟩).isSome = true) → (∀ j, j < (n + m) * k → w.frozen? ⟨b, off + j, none⟩ = false) →
      (∀ j v, vs[j]? = some v → w.cell? ⟨vb, voff + j, none⟩ = some v) → (∀ v ∈ cs, v.oneCell' = true) → (∀ v ∈ vs, v.oneCell' = true) →
      ∀ (tA tB : TypeId) (kA kB : Nat), w.shape? vb = some (tA, kA) → w.shape? b = some (tB, kB) → kB ≠ 0 → w.frozen? ⟨vb, voff, none⟩ = false → w.frozen? ⟨vb, kA, none⟩ = false →
      Calls P sf #[.slice (some ⟨b, off, none⟩) n c, .int .i64 i, .slice (some ⟨vb, voff, none⟩) m vc] w fun e w' =>
        e = .returned (.slice (some ⟨b, off, none⟩) (n + m) c) ∧ w' = (w.drew.setCells b (off + (i + m) * k) (cs.drop (i * k))).setCells b (off + i * k) vs)
    (wGrow : ∀ (b off n c i vb voff m vc : Nat) (cs vs : List Value) (w : World), i < n → 0 < m → n ≤ c → c < n + m → (n + m) * by' ≤ 140737488355328 → cs.length = n * k → vs.length = m * k →
      (∀ j v, cs[j]? = some v → w.cell? ⟨b, off + j, none⟩ = some v) → (∀ j v, vs[j]? = some v → w.cell? ⟨vb, voff + j, none⟩ = some v) → (∀ v ∈ cs, v.oneCell' = true) → (∀ v ∈ vs, v.oneCell' = true) →
      Calls P sf #[.slice (some ⟨b, off, none⟩) n c, .int .i64 i, .slice (some ⟨vb, voff, none⟩) m vc] w fun e w' =>
        e = .returned (.slice (some ⟨w.heap.size, 0, none⟩) (n + m) (grownCap w (n + m) c et)) ∧
        w' = (((w.alloc (.cells ((cs.take (i * k)).toArray ++ Builtin.zeroCells zz (n + m - i) ++ Builtin.zeroCells zz (grownCap w (n + m) c et - (n + m))) et)).drew.setCells w.heap.size (i * k) vs).drew).setCells w.heap.size ((i + m) * k) (cs.drop (i * k)))
    (wRoom : ∀ (b off n c vb voff m vc : Nat) (vs : List Value) (w : World), 0 < m → n + m ≤ c → n + m ≤ 9223372036854775807 → vs.length = m * k → (∀ j, j < m * k → (w.cell? ⟨b, off + n * k + j, none⟩).isSome = true) → (∀ j, j < m * k → w.frozen? ⟨b, off + n * k + j, none⟩ = false) →
      (∀ j v, vs[j]? = some v → w.cell? ⟨vb, voff + j, none⟩ = some v) → (∀ v ∈ vs, v.oneCell' = true) →
      Calls P sf #[.slice (some ⟨b, off, none⟩) n c, .int .i64 n, .slice (some ⟨vb, voff, none⟩) m vc] w fun e w' => e = .returned (.slice (some ⟨b, off, none⟩) (n + m) c) ∧ w' = w.setCells b (off + n * k) vs)
    (wEnd : ∀ (base : Option Addr) (n c vb voff m vc : Nat) (cs vs : List Value) (w : World), 0 < m → n ≤ c → c < n + m → (n + m) * by' ≤ 140737488355328 → cs.length = n * k → vs.length = m * k → (base = none → n = 0) →
      (∀ a, base = some a → ∀ j v, cs[j]? = some v → w.cell? (a.add j) = some v) → (∀ j v, vs[j]? = some v → w.cell? ⟨vb, voff + j, none⟩ = some v) → (∀ v ∈ vs, v.oneCell' = true) →
      Calls P sf #[.slice base n c, .int .i64 n, .slice (some ⟨vb, voff, none⟩) m vc] w fun e w' =>
        e = .returned (.slice (some ⟨w.heap.size, 0, none⟩) (n + m) (grownCap w (n + m) c et)) ∧ w' = w.drew.alloc (.cells (cs.toArray ++ vs.toArray ++ Builtin.zeroCells zz (grownCap w (n + m) c et - (n + m))) et))
    (hzz : zz.size = k) :
    slicesInsert by' L i V ≠ .bad → ACalls P sf [v, .int .i64 i, v2] (hp h0 [o, o1] [ownO v g k (L.map e), ownO v2 g2 k (V.map e)])
      (AnsG (fun a_ v' h' => v' = .sl k (a_.map e) ∧ h' = hp h0 [o, o1] [none, none]) h0 (slicesInsert by' L i V)) := by
  intro hne
  unfold slicesInsert at hne ⊢
  split at hne
  case isFalse => exact absurd rfl hne
  rename_i hc
  rw [if_pos hc]
  obtain ⟨hi0, hiL, hV, hlim⟩ := hc
  obtain ⟨p, rfl⟩ : ∃ p : Nat, i = (p : Int) := ⟨i.toNat, by omega⟩
  have hpL : p ≤ L.length := by omega
  rw [Int.toNat_natCast]
  have hv2r := hv2.isRef hV
  subst hv2r
  have hlim' : (L.length + V.length) * by' ≤ 140737488355328 := hlim
  have hnm : L.length + V.length ≤ LIM := Nat.le_trans (Nat.le_mul_of_pos_right _ (by omega)) hlim
  have hokL : ∀ (X : List α), ∀ r ∈ X.map e, RowOk k r := fun X r hr => by obtain ⟨x, _, rfl⟩ := List.mem_map.1 hr; exact hok x
  refine ⟨hb, fun B mu w cargs s ha => ?_⟩
  obtain ⟨c0, c1, c2, rfl, hc0, hc1, hc2⟩ := lrv_three ha
  have := rv_int hc1
  subst this
  generalize hH : hp h0 [o, o1] [ownO v g k (L.map e), ownO (.ref o1 g2 0 V.length) g2 k (V.map e)] = H at s hc0 hc2 ha
  have hx2 : H o1 = some (.rows g2 k (V.map e)) := by rw [← hH]; exact hI0.at (xs := [_, _]) rfl (j := 1) rfl
  rcases own_arg hv2 hc2 with ⟨a, h1, _, _⟩ | ⟨l2, cap2, _, hl2, _, hcap2, hsz2, rfl⟩
  · cases h1
  obtain ⟨vs, cells2, e2, f2, z1, z2, z3, z4, z5, z6, z7, z8, vlen, vcell, vrv, vone⟩ := own_cells s hx2 hl2
  rw [List.length_map] at vlen z6
  have hsub : Sub (hp h0 [o, o1] [none, none]) H := by rw [← hH]; exact Drops.sub (.drop (.drop .nil)) hI0.len
  have hRV : RowsAt H mu w k (V.map e) vs := ⟨by rw [List.length_map]; exact vlen, vrv⟩
  have hnone : hp h0 [o, o1] [none, none] o = none := hI0.at (xs := [none, none]) rfl (j := 0) rfl
  have hlenR : ((L.take p ++ V ++ L.drop p).map e).length = L.length + V.length := by simp; omega
  have hmapR : (L.take p ++ V ++ L.drop p).map e = (L.map e).take p ++ V.map e ++ (L.map e).drop p := by simp [List.map_take, List.map_drop]
  -- a new block
  have hnew : ∀ (w' : World) (cap : Nat) (csN : List Value) (cells' : Array Value) (te : TypeId) (fe : Nat × Nat), RowsAt H mu w k ((L.take p ++ V ++ L.drop p).map e) csN → RowKit.Below w.heap.size w w' → L.length + V.length ≤ cap → w'.heap[w.heap.size]? = some (.cells cells' te fe) → (∀ (j : Nat) (v : Value), csN[j]? = some v → cells'[j]? = some v) →
      ∃ r h' mu', AnsG (fun (a_ : List α) v' h' => v' = .sl k (a_.map e) ∧ h' = hp h0 [o, o1] [none, none]) h0 (.ok (L.take p ++ V ++ L.drop p)) r h' ∧ Sim B mu' h' w' ∧ EXT H mu w h' mu' w' ∧ ERv h' mu' w' r (.returned (.slice (some ⟨w.heap.size, 0, none⟩) (L.length + V.length) cap)) := by
    intro w' cap csN cells' te fe hR hbel hcap hq hcells
    obtain ⟨s', e'⟩ := Below.ext s hbel
    have hN : w.heap.size < w'.heap.size := by
      rcases Nat.lt_or_ge w.heap.size w'.heap.size with hh | hh
      · exact hh
      · rw [Array.getElem?_eq_none hh] at hq; cases hq
    obtain ⟨t1, t2, t3⟩ := ins_fin s' e' hsub hR (hokL _) (b := w.heap.size) (off := 0) (cap := cap) (by rw [hlenR]; exact hcap) (by rw [hlenR]; exact hnm) (fun j v hj => by rw [cell_eq hq, Nat.zero_add]; exact hcells j v hj) hN (fun hm => by have := Mut.lt s (Mut.sub hsub _ hm); omega)
    rw [hlenR] at t3
    exact ⟨.ret (.sl k ((L.take p ++ V ++ L.drop p).map e)), _, mu, ⟨_, rfl, rfl, rfl⟩, t1, t2, t3⟩
  rcases own_arg hv hc0 with ⟨a, rfl, hn0, rfl⟩ | ⟨l, cap, rfl, hl, _, hcap, hsz, rfl⟩
  · have hL : L = [] := List.eq_nil_of_length_eq_zero hn0
    subst hL
    have hp0 : p = 0 := by simpa using hpL
    subst hp0
    refine (wEnd a 0 0 l2.b l2.base V.length cap2 [] vs w hV (Nat.le_refl _) (by omega) (by simpa using hlim') (by simp) vlen (fun _ => rfl) (fun a _ j v hj => by simp at hj) vcell vone).mono ?_
    rintro ee w' ⟨rfl, rfl⟩
    have hge := grownCap_ge w (0 + V.length) 0 et
    have := hnew (w.drew.alloc (.cells (([] : List Value).toArray ++ vs.toArray ++ Builtin.zeroCells zz (grownCap w (0 + V.length) 0 et - (0 + V.length))) et)) (grownCap w (0 + V.length) 0 et) vs _ et (0, 0) (by simpa using hRV) (below_alloc _) (by simpa using hge) (at_alloc _) (fun j v hj => by
      have hlt : j < vs.length := by
        rcases Nat.lt_or_ge j vs.length with hh | hh
        · exact hh
        · rw [List.getElem?_eq_none hh] at hj; cases hj
      rw [Array.getElem?_append_left (by simpa using hlt)]
      simpa using hj)
    simpa using this
  · have hx : H o = some (.rows g k (L.map e)) := by rw [← hH]; exact hI0.at (xs := [_, _]) rfl (j := 0) rfl
    obtain ⟨cs, cells, ee, f, y1, y2, y3, y4, y5, y6, y7, y8, clen, ccell, crv, cone⟩ := own_cells s hx hl
    rw [List.length_map] at clen y6
    have hRL : RowsAt H mu w k (L.map e) cs := ⟨by rw [List.length_map]; exact clen, crv⟩
    have hne2 : l2.b ≠ l.b := fun hh => by
      have h1 := s.inj o1 o _ _ l2 l hx2 hx hl2 hl hh
      have h2 := hI0.nodup
      rw [h1] at h2
      simp at h2
    have hRR : RowsAt H mu w k ((L.take p ++ V ++ L.drop p).map e) (cs.take (p * k) ++ vs ++ cs.drop (p * k)) := by
      rw [hmapR]
      exact (RowsAt.app (RowsAt.app (hRL.take (by rw [List.length_map]; exact hpL)) hRV) (hRL.drop (by rw [List.length_map]; exact hpL)))
    have hpk : p * k ≤ cs.length := by rw [clen]; exact Nat.mul_le_mul_right _ hpL
    rw [y5] at hsz
    have hadd : (L.length + V.length) * k = L.length * k + V.length * k := Nat.add_mul _ _ _
    have hpmk : (p + V.length) * k = p * k + V.length * k := Nat.add_mul _ _ _
    -- in place
    have hold : ∀ (w' : World) (cells' : Array Value), w'.os = w.os → w'.tape = w.tape → w'.output = w.output → w'.heap.size = w.heap.size → (∀ b, b ≠ l.b → w'.heap[b]? = w.heap[b]?) → w'.heap[l.b]? = some (.cells cells' ee f) → cells'.size = l.size → L.length + V.length ≤ cap →
        (∀ (j : Nat) (v : Value), (cs.take (p * k) ++ vs ++ cs.drop (p * k))[j]? = some v → cells'[l.base + j]? = some v) →
        ∃ r h' mu', AnsG (fun (a_ : List α) v' h' => v' = .sl k (a_.map e) ∧ h' = hp h0 [o, o1] [none, none]) h0 (.ok (L.take p ++ V ++ L.drop p)) r h' ∧ Sim B mu' h' w' ∧ EXT H mu w h' mu' w' ∧ ERv h' mu' w' r (.returned (.slice (some ⟨l.b, l.base, none⟩) (L.length + V.length) cap)) := by
      intro w' cells' u1 u2 u3 u4 u5 u6 u7 hroom hcells
      obtain ⟨s', e'⟩ := put_raw s hx hl y4 y5 (by omega) u1 u2 u3 u4 u5 u6 u7 y3
      have hsub' : Sub (hp h0 [o, o1] [none, none]) (upd H o (some (.rows g k []))) := by
        intro q x hq
        unfold upd
        split
        · rename_i hh; subst hh; rw [hnone] at hq; cases hq
        · exact hsub q x hq
      obtain ⟨t1, t2, t3⟩ := ins_fin s' e' hsub' hRR (hokL _) (b := l.b) (off := l.base) (cap := cap) (by rw [hlenR]; exact hroom) (by rw [hlenR]; exact hnm) (fun j v hj => by rw [cell_eq u6]; exact hcells j v hj) (by rw [u4]; exact y7) (not_mut_of s hsub hx hl hnone)
      rw [hlenR] at t3
      exact ⟨.ret (.sl k ((L.take p ++ V ++ L.drop p).map e)), _, mu, ⟨_, rfl, rfl, rfl⟩, t1, t2, t3⟩
    by_cases hpn : p < L.length
    · by_cases hroom : L.length + V.length ≤ cap
      · have hck : (L.length + V.length) * k ≤ cap * k := Nat.mul_le_mul_right _ hroom
        have hm1 : p * k + 1 ≤ L.length * k := by have := Nat.mul_le_mul_right k (show p + 1 ≤ L.length by omega); rw [Nat.add_mul] at this; omega
        refine (wShift l.b l.base L.length cap p l2.b l2.base V.length cap2 cs vs w hpn hV hroom (by simp only [LIM] at hnm; omega) hne2 clen vlen ccell (fun j hj => cell_is y1 (by rw [y2]; omega)) (fun j hj => thaw_of y1 y3 (by omega)) vcell cone vone e2 ee cells2.size cells.size (shape_of z1) (shape_of y1) (by rw [y2]; omega) (thaw_of z1 z3 (by omega)) (thaw_of z1 z3 (by rw [z2]; exact Nat.le_refl _))).mono ?_
        rintro en w' ⟨rfl, rfl⟩
        have hdl : (cs.drop (p * k)).length = L.length * k - p * k := by rw [List.length_drop, clen]
        obtain ⟨ca, q1, q2, q3, q4, q5, q6, q7, q8, q9⟩ := setCells_heap l.b (cs.drop (p * k)) (l.base + (p + V.length) * k) w.drew cells ee f y1 (by rw [y2, hdl]; omega)
        obtain ⟨cb, r1, r2, r3, r4, r5, r6, r7, r8, r9⟩ := setCells_heap l.b vs (l.base + p * k) _ ca ee f q1 (by rw [q2, y2, vlen]; omega)
        refine hold _ cb (r7.trans q7) (r8.trans q8) (r9.trans q9) (r6.trans q6) (fun b hb => (r5 b hb).trans (q5 b hb)) r1 (by rw [r2, q2, y2]) hroom ?_
        refine mid_get hpk (fun j hj v hjv => ?_) (fun j v hjv => ?_) (fun j v hjv => ?_)
        · rw [r4 _ (.inl (by omega)), q4 _ (.inl (by omega)), ← cell_eq y1]
          exact ccell j v hjv
        · have hlt := lt_of_get hjv
          rw [← Nat.add_assoc, r3 j hlt]; exact hjv
        · have hlt := lt_of_get hjv
          rw [r4 _ (.inr (by omega)), show l.base + (p * k + vs.length + j) = l.base + (p + V.length) * k + j by omega, q3 j (by rw [hdl]; omega), List.getElem?_drop]
          exact hjv
      · have hroom' : cap < L.length + V.length := by omega
        have hm1 : p * k + 1 ≤ L.length * k := by have := Nat.mul_le_mul_right k (show p + 1 ≤ L.length by omega); rw [Nat.add_mul] at this; omega
        refine (wGrow l.b l.base L.length cap p l2.b l2.base V.length cap2 cs vs w hpn hV hcap hroom' hlim' clen vlen ccell vcell cone vone).mono ?_
        rintro en w' ⟨rfl, rfl⟩
        have hge := grownCap_ge w (L.length + V.length) cap et
        have hdl : (cs.drop (p * k)).length = L.length * k - p * k := by rw [List.length_drop, clen]
        have htl : (cs.take (p * k)).length = p * k := by rw [List.length_take]; omega
        have hpm : (L.length + V.length - p) * k = L.length * k + V.length * k - p * k := by rw [Nat.sub_mul, hadd]
        generalize hROW : (cs.take (p * k)).toArray ++ Builtin.zeroCells zz (L.length + V.length - p) ++ Builtin.zeroCells zz (grownCap w (L.length + V.length) cap et - (L.length + V.length)) = ROW
        have hRs : (L.length + V.length) * k ≤ ROW.size := by
          rw [← hROW]
          simp only [Array.size_append, size_zc, List.size_toArray, htl, hzz]
          omega
        have hRg : ∀ j v, j < p * k → cs[j]? = some v → ROW[j]? = some v := fun j v hj hjv => by
          rw [← hROW, Array.append_assoc, Array.getElem?_append_left (by rw [List.size_toArray, htl]; exact hj)]
          simp [List.getElem?_take, hj, hjv]
        obtain ⟨ca, q1, q2, q3, q4, q5, q6, q7, q8, q9⟩ := setCells_heap w.heap.size vs (p * k) (w.alloc (.cells ROW et)).drew ROW et (0, 0) (at_alloc (w := w) _) (by rw [vlen]; omega)
        obtain ⟨cb, r1, r2, r3, r4, r5, r6, r7, r8, r9⟩ := setCells_heap w.heap.size (cs.drop (p * k)) ((p + V.length) * k) ((w.alloc (.cells ROW et)).drew.setCells w.heap.size (p * k) vs).drew ca et (0, 0) q1 (by rw [q2, hdl]; omega)
        refine hnew _ _ (cs.take (p * k) ++ vs ++ cs.drop (p * k)) cb et (0, 0) hRR ⟨r7.trans q7, r8.trans q8, r9.trans q9, ?_, fun i hi => ?_⟩ hge r1 ?_
        · rw [r6]
          show w.heap.size ≤ ((w.alloc (.cells ROW et)).drew.setCells w.heap.size (p * k) vs).heap.size
          rw [q6]
          show w.heap.size ≤ (w.alloc (.cells ROW et)).heap.size
          rw [alloc_size]; omega
        · rw [r5 i (by omega)]
          show ((w.alloc (.cells ROW et)).drew.setCells w.heap.size (p * k) vs).heap[i]? = _
          rw [q5 i (by omega)]
          exact heap_push_lt' hi
        · refine mid_get hpk (fun j hj v hjv => ?_) (fun j v hjv => ?_) (fun j v hjv => ?_)
          · rw [r4 _ (.inl (by omega)), q4 _ (.inl (by omega))]
            exact hRg j v hj hjv
          · have hlt := lt_of_get hjv
            rw [r4 _ (.inl (by omega)), q3 j hlt]; exact hjv
          · have hlt := lt_of_get hjv
            rw [show p * k + vs.length + j = (p + V.length) * k + j by omega, r3 j (by rw [hdl]; omega), List.getElem?_drop]
            exact hjv
    · have hpe : p = L.length := by omega
      subst hpe
      have htk : cs.take (L.length * k) = cs := List.take_of_length_le (by omega)
      have hdk : cs.drop (L.length * k) = [] := List.drop_eq_nil_of_le (by omega)
      by_cases hroom : L.length + V.length ≤ cap
      · have hck : (L.length + V.length) * k ≤ cap * k := Nat.mul_le_mul_right _ hroom
        refine (wRoom l.b l.base L.length cap l2.b l2.base V.length cap2 vs w hV hroom (by simp only [LIM] at hnm; omega) vlen (fun j hj => cell_is y1 (by rw [y2]; omega)) (fun j hj => thaw_of y1 y3 (by omega)) vcell vone).mono ?_
        rintro en w' ⟨rfl, rfl⟩
        obtain ⟨cb, r1, r2, r3, r4, r5, r6, r7, r8, r9⟩ := setCells_heap l.b vs (l.base + L.length * k) w cells ee f y1 (by rw [y2, vlen]; omega)
        refine hold _ cb r7 r8 r9 r6 r5 r1 (by rw [r2, y2]) hroom ?_
        refine mid_get hpk (fun j hj v hjv => ?_) (fun j v hjv => ?_) (fun j v hjv => ?_)
        · rw [r4 _ (.inl (by omega)), ← cell_eq y1]
          exact ccell j v hjv
        · have hlt := lt_of_get hjv
          rw [← Nat.add_assoc, r3 j hlt]; exact hjv
        · have hlt := lt_of_get hjv; omega
      · have hroom' : cap < L.length + V.length := by omega
        refine (wEnd (some ⟨l.b, l.base, none⟩) L.length cap l2.b l2.base V.length cap2 cs vs w hV hcap hroom' hlim' clen vlen (fun h => by cases h) (fun a ha j v hj => by cases ha; rw [add_mk]; exact ccell j v hj) vcell vone).mono ?_
        rintro en w' ⟨rfl, rfl⟩
        have hge := grownCap_ge w (L.length + V.length) cap et
        refine hnew _ _ (cs.take (L.length * k) ++ vs ++ cs.drop (L.length * k)) _ et (0, 0) hRR (below_alloc _) hge (at_alloc _) ?_
        rw [htk, hdk, List.append_nil]
        intro j v hj
        have hlt := lt_of_get hj
        rw [Array.getElem?_append_left (by simpa using hlt)]
        simpa using hj
end
end Go.Am
