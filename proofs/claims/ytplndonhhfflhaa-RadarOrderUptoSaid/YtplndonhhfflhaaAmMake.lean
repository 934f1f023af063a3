/- The operations that write or make memory: the laws. -/
import Derived.Test.YtplndonhhfflhaaAmBin
namespace Go.Am
open Go
set_option linter.unusedSimpArgs false
set_option linter.unusedVariables false
set_option linter.unusedSectionVars false

def putCells (row : List AV) (c : Nat) (cs : List AV) : List AV := row.take c ++ (cs ++ row.drop (c + cs.length))
theorem putCells_length {row : List AV} {c : Nat} {cs : List AV} (h : c + cs.length ≤ row.length) : (putCells row c cs).length = row.length := by
  simp [putCells]; omega
theorem putCells_getD {row : List AV} {c : Nat} {cs : List AV} (h : c + cs.length ≤ row.length) (j : Nat) :
    (putCells row c cs).getD j .und = if c ≤ j ∧ j < c + cs.length then cs.getD (j - c) .und else row.getD j .und := by
  unfold putCells
  simp only [List.getD]
  split
  · rename_i hj
    rw [List.getElem?_append_right (by simp; omega), List.getElem?_append_left (by simp; omega)]
    simp only [List.length_take]
    rw [show j - min c row.length = j - c by omega]
  · rename_i hj
    by_cases h1 : j < c
    · rw [List.getElem?_append_left (by simp; omega), List.getElem?_take, if_pos h1]
    · rw [List.getElem?_append_right (by simp; omega), List.getElem?_append_right (by simp; omega)]
      simp only [List.length_take, List.getElem?_drop]
      rw [show c + cs.length + (j - min c row.length - cs.length) = j by omega]
theorem putCells_mem {row : List AV} {c : Nat} {cs : List AV} {v : AV} (h : v ∈ putCells row c cs) : v ∈ row ∨ v ∈ cs := by
  simp only [putCells, List.mem_append] at h
  rcases h with h | h | h
  · exact .inl (List.mem_of_mem_take h)
  · exact .inr h
  · exact .inl (List.mem_of_mem_drop h)

theorem cell_set {rs : List (List AV)} {r : Nat} {row : List AV} (hr : r < rs.length) (i j : Nat) : cell (rs.set r row) i j = if i = r then row.getD j .und else cell rs i j := by
  unfold cell
  by_cases h : i = r
  · subst h; simp [List.getD, hr]
  · simp [List.getD, List.getElem?_set_ne (Ne.symm h), h]
theorem rowOk_set {rs : List (List AV)} {r st : Nat} {row : List AV} (h : ∀ x ∈ rs, RowOk st x) (h1 : RowOk st row) : ∀ x ∈ rs.set r row, RowOk st x := by
  intro x hx
  rcases List.mem_or_eq_of_mem_set hx with hx | rfl
  · exact h x hx
  · exact h1

def aStore (P : Program) (h : AHeap) (t : TypeId) (a v : AV) : Option AHeap :=
  match ti P t with
  | none => none
  | some T => match a with
    | .ptr o g r c => match h o with
      | some (.rows g' st rs) =>
        if g' = g ∧ r < rs.length ∧ v.ok = true ∧ v.cells.length = T.size ∧ c + T.size ≤ st ∧ v.cells.all AV.flat = true then some (upd h o (some (.rows g st (rs.set r (putCells (rs.getD r []) c v.cells))))) else none
      | _ => none
    | _ => none

section
variable {P : Program} [GW P] {B : Base P} {h : AHeap} {mu : Mu} {w : World}

theorem rs_row {rs : List (List AV)} {r st : Nat} (hr : r < rs.length) (h : ∀ x ∈ rs, RowOk st x) : RowOk st (rs.getD r []) := by
  have : rs.getD r [] = rs[r] := by simp [List.getD, hr]
  rw [this]; exact h _ (List.getElem_mem hr)

theorem idx_far {i r st j c n : Nat} (hne : i ≠ r) (hj : j < st) (hc : c + n ≤ st) : i * st + j < r * st + c ∨ r * st + c + n ≤ i * st + j := by
  rcases Nat.lt_or_gt_of_ne hne with h | h
  · left
    have : (i + 1) * st ≤ r * st := Nat.mul_le_mul_right _ h
    rw [Nat.add_mul] at this
    omega
  · right
    have : (r + 1) * st ≤ i * st := Nat.mul_le_mul_right _ h
    rw [Nat.add_mul] at this
    omega
theorem idx_in {r st j n : Nat} (hr : r < n) (hj : j < st) : r * st + j < n * st := by
  have : (r + 1) * st ≤ n * st := Nat.mul_le_mul_right _ hr
  rw [Nat.add_mul] at this
  omega

/-- What a live object of cells is in the world. -/
theorem Sim.obj {o g st : Nat} {rs : List (List AV)} (s : Sim B mu h w) (hx : h o = some (.rows g st rs)) : ∃ l cells e f, mu o g = some l ∧ l.cells = true ∧ l.st = st ∧ l.base + rs.length * st ≤ l.size ∧ (∀ r ∈ rs, RowOk st r) ∧
    w.heap[l.b]? = some (.cells cells e f) ∧ cells.size = l.size ∧ Unfrozen f l.size ∧ ∀ i j, i < rs.length → j < st → ∃ c, cells[l.base + i * st + j]? = some c ∧ RV h mu w (cell rs i j) c := by
  obtain ⟨l, h1, h2, h3, h4, h5, h6⟩ := s.rows _ _ _ _ hx
  obtain ⟨_, _, k⟩ := s.muOk _ _ _ h1
  obtain ⟨cells, e, f, k1, k2, k3⟩ := k h2
  refine ⟨l, cells, e, f, h1, h2, h3, h4, h5, k1, k2, k3, fun i j hi hj => ?_⟩
  obtain ⟨c, hc1, hc2⟩ := h6 i j hi hj
  refine ⟨c, ?_, hc2⟩
  unfold World.cell? at hc1
  rw [k1] at hc1
  simpa using hc1

theorem store_sound (s : Sim B mu h w) {t : TypeId} {a v : AV} {ca cv : Value} {h' : AHeap} (ha : RV h mu w a ca) (hv : RV h mu w v cv) (hx : aStore P h t a v = some h') :
    ∃ w', (Instr.storeAt t ca cv).run P w = .ok () w' ∧ Sim B mu h' w' ∧ EXT h mu w h' mu w' := by
  unfold aStore at hx
  split at hx
  · cases hx
  rename_i T hT
  split at hx
  · rename_i o g r c
    split at hx
    · rename_i g' st rs hh
      split at hx
      · rename_i hc
        obtain ⟨rfl, hr, hok, hlen, hfit, hflat⟩ := hc
        cases hx
        cases ha with
        | ptr _ _ _ _ l hl hcl =>
          obtain ⟨l', cells, e, f, k1, k2, k3, k4, k5, k6, k7, k8, k9⟩ := s.obj hh
          rw [hl] at k1; cases k1
          subst k3
          obtain ⟨z1, z2⟩ := cells_rv hv hok
          have hn : cv.cells.toList.length = T.size := by rw [← hlen, z1]; simp
          have hin : ∀ j, j < T.size → l.base + r * l.st + c + j < l.size := fun j hj => by
            have := idx_in (r := r) (st := l.st) (j := c + j) hr (by omega)
            omega
          have hrow := rs_row hr k5
          have hone : ∀ u ∈ cv.cells.toList, u.oneCell' = true := by
            intro u hu
            obtain ⟨i, hi, rfl⟩ := List.mem_iff_getElem.1 hu
            have hi' : i < v.cells.length := by rw [z1]; simpa using hi
            have := z2 i hi'
            rw [getD_of (List.getElem?_eq_getElem hi)] at this
            refine this.one ?_
            rw [getD_of (List.getElem?_eq_getElem hi')]
            exact List.all_eq_true.1 hflat _ (List.getElem_mem hi')
          have hrun := run_storeCells_cells (P := P) l.b (l.base + r * l.st + c) cv.cells.toList 0 w
            (fun j hj => by
              rw [Nat.add_zero]
              unfold World.cell?
              rw [k6]
              simp [k7, hin j (by omega)])
            (fun j hj => by
              rw [Nat.add_zero]
              unfold World.frozen?
              rw [k6]
              have := k8 _ (Nat.le_of_lt (hin j (by omega)))
              cases hq : (decide (f.1 ≤ l.base + r * l.st + c + j) && decide (l.base + r * l.st + c + j < f.2)) with
              | false => exact hq
              | true =>
                simp only [Bool.and_eq_true, decide_eq_true_eq] at hq
                exact absurd hq this) hone
          obtain ⟨cells', q1, q2, q3, q4, q5, q6, q7, q8, q9⟩ := setCells_heap l.b cv.cells.toList (l.base + r * l.st + c) w cells e f k6 (by
            rw [hn, k7]
            have := idx_in (r := r) (st := l.st) (j := 0) hr
            have := Nat.mul_le_mul_right l.st (show r + 1 ≤ rs.length from hr)
            rw [Nat.add_mul] at this
            omega)
          refine ⟨w.setCells l.b (l.base + r * l.st + c) cv.cells.toList, ?_, ?_⟩
          · have hsz : cv.cells.size = T.size := by simpa using hn
            simp only [Instr.storeAt, Instr.sureAddr, Sem.run_bind, Sem.run_pure, Result.andThen_ok, storeVar, ti_size hT, hsz, ne_eq, not_true_eq_false, if_false]
            simpa using hrun
          · have hput := Sim.put (rs' := rs.set r (putCells (rs.getD r []) c v.cells)) (l' := l) (g' := g') s hh hl q7 q8 q9 q6 q5 q1 (by rw [q2, k7]) k8 (.inl ⟨rfl, rfl⟩) rfl rfl hcl
              (by simpa using k4)
              (by
                refine rowOk_set k5 ⟨?_, ?_⟩
                · rw [putCells_length (by rw [hrow.1]; omega)]; exact hrow.1
                · intro x hx
                  rcases putCells_mem hx with hx | hx
                  · exact hrow.2 x hx
                  · exact List.all_eq_true.1 hflat _ hx)
              (by
                intro i j hi hj
                rw [List.length_set] at hi
                rw [cell_set hr]
                by_cases hir : i = r
                · subst hir
                  rw [if_pos rfl, putCells_getD (by rw [hrow.1]; omega)]
                  split
                  · rename_i hjc
                    have e1 : l.base + i * l.st + j = l.base + i * l.st + c + (j - c) := by omega
                    rw [e1]
                    have := q3 (j - c) (by omega)
                    rw [this]
                    have hjn : j - c < cv.cells.toList.length := by omega
                    refine ⟨cv.cells.toList[j - c], List.getElem?_eq_getElem hjn, ?_⟩
                    have := z2 (j - c) (by omega)
                    rwa [getD_of (d := undef) (List.getElem?_eq_getElem hjn)] at this
                  · rename_i hjc
                    obtain ⟨x, hx1, hx2⟩ := k9 i j hi hj
                    refine ⟨x, ?_, hx2⟩
                    rw [q4 _ (by omega)]; exact hx1
                · rw [if_neg hir]
                  obtain ⟨x, hx1, hx2⟩ := k9 i j hi hj
                  refine ⟨x, ?_, hx2⟩
                  rw [q4 _ (by
                    have := idx_far (c := c) (n := T.size) hir hj (by omega)
                    omega)]; exact hx1)
            rw [upd2_self hl] at hput
            exact hput
      · cases hx
    · cases hx
  · cases hx

/-- A new object: under whatever name, in whatever generation. -/
def aNew (h : AHeap) (st : Nat) (rs : List (List AV)) (K : Nat → Nat → AHeap → Prop) : Prop := ∃ o, h o = none ∧ ∀ g, K o g (upd h o (some (.rows g st rs)))

theorem new_sound (s : Sim B mu h w) {st base : Nat} {rs : List (List AV)} {cells : Array Value} {e : TypeId} {K : Nat → Nat → AHeap → Prop} (hK : aNew h st rs K)
    (hb : base + rs.length * st ≤ cells.size) (hr : ∀ r ∈ rs, RowOk st r)
    (hc : ∀ i j, i < rs.length → j < st → ∃ c, cells[base + i * st + j]? = some c ∧ RV h mu w (cell rs i j) c) :
    ∃ o g mu', mu' o g = some ⟨w.heap.size, base, st, cells.size, true⟩ ∧ K o g (upd h o (some (.rows g st rs))) ∧ Sim B mu' (upd h o (some (.rows g st rs))) (w.alloc (.cells cells e)) ∧
      EXT h mu w (upd h o (some (.rows g st rs))) mu' (w.alloc (.cells cells e)) := by
  obtain ⟨N, hN, hK⟩ := hK
  obtain ⟨g, hg⟩ := s.fresh N
  have := Sim.push (e := e) s hg hb hr hc
  exact ⟨N, g, _, by simp [upd2], hK g, this.1, this.2⟩

/-- A variable: one row. -/
theorem newVar_sound (s : Sim B mu h w) {cs : List AV} {c : Value} {e : TypeId} {K : Nat → Nat → AHeap → Prop} (hK : aNew h cs.length [cs] K) (hl : cs.length = c.cells.size) (hcs : ∀ i, i < cs.length → RV h mu w (cs.getD i .und) (c.cells.toList.getD i undef))
    (hflat : cs.all AV.flat = true) :
    ∃ o g mu' h' w', (newVar e c).run P w = .ok ⟨w.heap.size, 0, none⟩ w' ∧ RV h' mu' w' (.ptr o g 0 0) (.pointer (some ⟨w.heap.size, 0, none⟩)) ∧ K o g h' ∧ Sim B mu' h' w' ∧ EXT h mu w h' mu' w' := by
  obtain ⟨o, g, mu', h1, h2, h3, h4⟩ := new_sound (base := 0) (cells := c.cells) (e := e) s hK (by simp [hl]) (by
      intro r hr
      simp only [List.mem_singleton] at hr
      subst hr
      exact ⟨rfl, fun v hv => List.all_eq_true.1 hflat v hv⟩) (by
      intro i j hi hj
      have : i = 0 := by simpa using hi
      subst this
      have hj' : j < c.cells.toList.length := by simpa [← hl] using hj
      refine ⟨c.cells.toList[j], by simp only [Nat.zero_mul, Nat.zero_add]; rw [← Array.getElem?_toList]; exact List.getElem?_eq_getElem hj', ?_⟩
      have := hcs j hj
      rwa [getD_of (d := undef) (List.getElem?_eq_getElem hj')] at this)
  refine ⟨o, g, mu', _, _, rfl, ?_, h2, h3, h4⟩
  have := Rv.ptr (w := w.alloc (.cells c.cells e)) (M := Mut (upd h o (some (.rows g cs.length [cs]))) mu') o g 0 0 _ h1 rfl
  simpa using this
end
end Go.Am
