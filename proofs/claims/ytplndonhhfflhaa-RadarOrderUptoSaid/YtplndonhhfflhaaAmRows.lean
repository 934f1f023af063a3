/- Slices that the call makes: literals, make, append, the bytes of a string. -/
import Derived.Test.YtplndonhhfflhaaAmMake
namespace Go.Am
open Go
set_option linter.unusedSimpArgs false
set_option linter.unusedVariables false
set_option linter.unusedSectionVars false

/-- What an append takes: rows. -/
def srcRows (P : Program) (h : AHeap) (size : Nat) (u8 : Bool) (x : AV) : Option (List (List AV)) :=
  match x with
  | .sl st rows => if st = size then some rows else none
  | .emp => some []
  | .ref o g off len => match h o with
    | some (.rows g' st rs) => if g' = g ∧ st = size ∧ off + len ≤ rs.length then some ((rs.drop off).take len) else none
    | _ => none
  | .str s => if u8 ∧ size = 1 then some (s.map fun b => [.int .u8 (b.toNat : Int)]) else none
  | _ => none

section
variable {P : Program} [GW P] {B : Base P} {h : AHeap} {mu : Mu} {w : World}

theorem divmod_row {size k n : Nat} (h : k < n * size) : k / size < n ∧ k % size < size ∧ k / size * size + k % size = k := by
  have hs : 0 < size := by
    rcases Nat.eq_zero_or_pos size with rfl | h'
    · simp at h
    · exact h'
  exact ⟨Nat.div_lt_of_lt_mul (by rwa [Nat.mul_comm]), Nat.mod_lt _ hs, by rw [Nat.mul_comm]; exact Nat.div_add_mod k size⟩
theorem row_divmod {size i j : Nat} (hj : j < size) : (i * size + j) / size = i ∧ (i * size + j) % size = j := by
  constructor
  · rw [Nat.mul_comm, Nat.mul_add_div (by omega), Nat.div_eq_of_lt hj, Nat.add_zero]
  · rw [Nat.mul_comm, Nat.mul_add_mod, Nat.mod_eq_of_lt hj]

theorem src_sound (s : Sim B mu h w) {size : Nat} {u8 : Bool} {x : AV} {c : Value} {rows : List (List AV)} (hv : RV h mu w x c) (hx : srcRows P h size u8 x = some rows) :
    (∀ w', (Builtin.lenOf c).run P w' = .ok rows.length w') ∧ ∃ news : List Value, news.length = rows.length * size ∧ (∀ w', w'.heap = w.heap → (Builtin.firstCells size rows.length c).run P w' = .ok news.toArray w') ∧
      (∀ r ∈ rows, RowOk size r) ∧ ∀ i j, i < rows.length → j < size → RV h mu w (cell rows i j) (news.getD (i * size + j) undef) := by
  have fromCells : ∀ (n b off cap : Nat) (f : Nat → Value), (∀ k, k < n * size → w.cell? ⟨b, off + k, none⟩ = some (f k)) → ∀ w', w'.heap = w.heap →
      (Builtin.firstCells size n (.slice (some ⟨b, off, none⟩) n cap)).run P w' = .ok ((List.range (n * size)).map f).toArray w' := by
    intro n b off cap f hf w' hw'
    have := run_firstCells_some (P := P) w' size n ⟨b, off, none⟩ n cap ((List.range (n * size)).map f) (by simp) (by
      intro j v hj
      have hj' : j < n * size := by
        rcases Nat.lt_or_ge j (n * size) with h' | h'
        · exact h'
        · rw [List.getElem?_eq_none (by simpa using h')] at hj; cases hj
      rw [List.getElem?_map, List.getElem?_range hj'] at hj
      simp at hj; subst hj
      rw [add_mk, cell?_of_heap (w := w) (a := ⟨b, off + j, none⟩) (by rw [hw'])]
      exact hf j hj')
    exact this
  unfold srcRows at hx
  split at hx
  · rename_i st rws
    split at hx
    · rename_i hst
      subst hst
      cases hx
      cases hv with
      | sl0 _ a cap =>
        refine ⟨fun w' => by simp [Builtin.lenOf], [], by simp, fun w' _ => ?_, fun r hr => by simp at hr, fun i j hi => by simp at hi⟩
        cases a <;> simp [Builtin.firstCells, loadCells, loadCellsFrom]
      | sl _ _ b off cap vs hcap hlim g1 g2 hr g3 g4 =>
        refine ⟨fun w' => by simp [Builtin.lenOf], (List.range (rows.length * st)).map (fun k => vs (k / st) (k % st)), by simp, fromCells _ _ _ _ _ ?_, hr, fun i j hi hj => ?_⟩
        · intro k hk
          obtain ⟨h1, h2, h3⟩ := divmod_row hk
          have := g1 _ _ h1 h2
          rwa [Nat.add_assoc, h3] at this
        · have hk := idx_in (st := st) hi hj
          obtain ⟨e1, e2⟩ := row_divmod (i := i) hj
          rw [getD_of (x := vs i j) (by rw [List.getElem?_map, List.getElem?_range hk]; simp [e1, e2])]
          exact g2 i j hi hj
    · cases hx
  · cases hx
    cases hv with
    | emp a =>
      refine ⟨fun w' => by simp [Builtin.lenOf], [], by simp, fun w' _ => ?_, fun r hr => by simp at hr, fun i j hi => by simp at hi⟩
      cases a <;> simp [Builtin.firstCells, loadCells, loadCellsFrom]
  · rename_i o g off len
    split at hx
    · rename_i g' st rs hh
      split at hx
      · rename_i hc
        obtain ⟨rfl, rfl, hle⟩ := hc
        cases hx
        cases hv with
        | ref _ _ _ _ cap l hl hcl hcap hlim hsz =>
          obtain ⟨l', k1, k2, k3, k4, k5, k6⟩ := s.rows _ _ _ _ hh
          rw [hl] at k1; cases k1
          subst k3
          have hlen : ((rs.drop off).take len).length = len := by simp; omega
          have hcr : ∀ i j, i < len → cell ((rs.drop off).take len) i j = cell rs (off + i) j := by
            intro i j hi
            simp [cell, List.getD, List.getElem?_take, hi, List.getElem?_drop]
          have hex : ∃ f : Nat → Nat → Value, ∀ i j, i < len → j < l.st → w.cell? ⟨l.b, l.base + (off + i) * l.st + j, none⟩ = some (f i j) ∧ RV h mu w (cell rs (off + i) j) (f i j) := by
            refine ⟨fun i j => (w.cell? ⟨l.b, l.base + (off + i) * l.st + j, none⟩).getD undef, fun i j hi hj => ?_⟩
            obtain ⟨x, hx1, hx2⟩ := k6 (off + i) j (by omega) hj
            simp only [hx1, Option.getD_some]
            exact ⟨trivial, hx2⟩
          obtain ⟨f, hf⟩ := hex
          rw [hlen]
          refine ⟨fun w' => by simp [Builtin.lenOf], (List.range (len * l.st)).map (fun k => f (k / l.st) (k % l.st)), by simp, fromCells _ _ _ _ _ ?_, ?_, fun i j hi hj => ?_⟩
          · intro k hk
            obtain ⟨h1, h2, h3⟩ := divmod_row hk
            have := (hf _ _ h1 h2).1
            rw [Nat.add_mul] at this
            rw [← this]
            congr 2
            omega
          · intro r hr
            exact k5 r (List.mem_of_mem_drop (List.mem_of_mem_take hr))
          · have hk := idx_in (st := l.st) hi hj
            obtain ⟨e1, e2⟩ := row_divmod (i := i) hj
            rw [getD_of (x := f i j) (by rw [List.getElem?_map, List.getElem?_range hk]; simp [e1, e2]), hcr i j hi]
            exact (hf i j hi hj).2
      · cases hx
    · cases hx
  · rename_i str
    split at hx
    · rename_i hc
      obtain ⟨_, rfl⟩ := hc
      cases hx
      cases hv with
      | str _ =>
        have hn : (str.map fun b => [AV.int .u8 (b.toNat : Int)]).length = str.length := by simp
        rw [hn]
        refine ⟨fun w' => by simp [Builtin.lenOf, bytes_size], str.map (fun b => Value.int .u8 (b.toNat : Int)), by simp, fun w' _ => ?_, ?_, fun i j hi hj => ?_⟩
        · simp only [Builtin.firstCells, Sem.run_pure]
          congr 1
          have : (⟨str.toArray⟩ : ByteArray).extract 0 str.length = ⟨str.toArray⟩ := by rw [Lib.extract_eq]; simp
          rw [this]
          simp
        · intro r hr
          simp only [List.mem_map] at hr
          obtain ⟨b, _, rfl⟩ := hr
          exact ⟨rfl, fun v hv => by simp at hv; subst hv; rfl⟩
        · have : j = 0 := by omega
          subst this
          rw [Nat.mul_one, Nat.add_zero, getD_of (x := Value.int .u8 ((str[i].toNat : Nat) : Int)) (by simp [hi])]
          have : cell (str.map fun b => [AV.int .u8 (b.toNat : Int)]) i 0 = .int .u8 ((str[i].toNat : Nat) : Int) := by simp [cell, List.getD, hi]
          rw [this]
          exact .int _ _
    · cases hx
  · cases hx
end
end Go.Am
