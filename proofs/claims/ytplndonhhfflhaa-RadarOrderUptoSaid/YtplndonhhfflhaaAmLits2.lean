import Derived.Test.YtplndonhhfflhaaAmLits
namespace Go.Am
open Go
set_option linter.unusedSimpArgs false
set_option linter.unusedVariables false
set_option linter.unusedSectionVars false

section
variable {P : Program} [GW P] {B : Base P} {h : AHeap} {mu : Mu} {w : World} {M : Nat → Prop}

/-- The rows of an array in a block. -/
def RowsRv (w : World) (mu : Mu) (M : Nat → Prop) (size : Nat) (rows : List (List AV)) (arr : Array Value) : Prop :=
  arr.size = rows.length * size ∧ (∀ r ∈ rows, RowOk size r) ∧ ∀ i j, i < rows.length → j < size → ∃ c, arr[i * size + j]? = some c ∧ Rv w mu M (cell rows i j) c

theorem zeros_rows {T : TI} {z : Value} {i : TypeInfo} (h : avList z.cells.toList = some T.z) (hl : T.z.length = T.size) (hf : T.z.all AV.flat = true) (n : Nat) :
    RowsRv w mu M T.size (List.replicate n T.z) ((Array.range (n * T.size)).map (z.cells[· % z.cells.size]!)) := by
  obtain ⟨h1, h2⟩ := avList_rv (w := w) (mu := mu) (M := M) h
  refine ⟨by simp, fun r hr => ?_, fun i j hi hj => ?_⟩
  · rw [List.eq_of_mem_replicate hr]
    exact ⟨hl, fun v hv => List.all_eq_true.1 hf v hv⟩
  · rw [List.length_replicate] at hi
    have hk := idx_in (st := T.size) hi hj
    obtain ⟨e1, e2⟩ := row_divmod (i := i) hj
    have hs : z.cells.size = T.size := by rw [← hl, h1]; simp
    have hj' : j < z.cells.toList.length := by simp [hs]; exact hj
    refine ⟨z.cells.toList[j], ?_, ?_⟩
    · rw [Array.getElem?_map]
      simp only [Array.getElem?_range, hk, if_true, Option.map_some, hs, e2]
      simp at hj'
      simp [hj']
    · have := h2 j (by omega)
      rw [getD_of (d := undef) (List.getElem?_eq_getElem hj')] at this
      have hc : cell (List.replicate n T.z) i j = T.z.getD j .und := by simp [cell, List.getD, hi]
      rw [hc]; exact this

theorem fillRows_sound {size : Nat} : ∀ (parts : List (Nat × AV)) (cparts : List (Nat × Value)) (rows : List (List AV)) (arr : Array Value) {rows' : List (List AV)},
    parts.length = cparts.length → (∀ k, k < parts.length → (parts.getD k (0, .und)).1 = (cparts.getD k (0, undef)).1 ∧ Rv w mu M (parts.getD k (0, .und)).2 (cparts.getD k (0, undef)).2) →
    RowsRv w mu M size rows arr → fillRows size rows parts = some rows' → ∃ arr', Instr.fill (fun i => some (i * size, size)) arr cparts = some arr' ∧ RowsRv w mu M size rows' arr' ∧ rows'.length = rows.length
  | [], cparts, rows, arr, rows', hl, hp, ha, hf => by
    have : cparts = [] := List.eq_nil_of_length_eq_zero hl.symm
    subst this
    simp [fillRows] at hf; subst hf
    exact ⟨arr, rfl, ha, rfl⟩
  | (i, v) :: rest, cparts, rows, arr, rows', hl, hp, ha, hf => by
    cases cparts with
    | nil => simp at hl
    | cons q crest =>
      obtain ⟨ci, cv⟩ := q
      obtain ⟨e1, e2⟩ := hp 0 (by simp)
      simp only [List.getD_cons_zero] at e1 e2
      subst e1
      unfold fillRows at hf
      split at hf
      · rename_i hc
        obtain ⟨hok, hlen, hi, hflat⟩ := hc
        obtain ⟨z1, z2⟩ := cells_rv e2 hok
        have hsz : cv.cells.size = size := by omega
        obtain ⟨a1, a2, a3⟩ := ha
        obtain ⟨f1, f2⟩ := zip_fold cv.cells.toList 0 (i * size) arr
        have hfold : cv.cells.zipIdx.foldl (fun cs (p : Value × Nat) => cs.setIfInBounds (i * size + p.2) p.1) arr = (cv.cells.toList.zipIdx 0).foldl (fun cs (p : Value × Nat) => cs.setIfInBounds (i * size + p.2) p.1) arr := by
          rw [← Array.foldl_toList, Array.toList_zipIdx]
        have ha' : RowsRv w mu M size (rows.set i v.cells) (cv.cells.zipIdx.foldl (fun cs (p : Value × Nat) => cs.setIfInBounds (i * size + p.2) p.1) arr) := by
          refine ⟨by rw [hfold, f1, a1]; simp, rowOk_set a2 ⟨hlen, fun x hx => List.all_eq_true.1 hflat x hx⟩, fun r j hr hj => ?_⟩
          rw [List.length_set] at hr
          have hk := idx_in (st := size) hr hj
          rw [cell_set hi, hfold, f2]
          simp only [Nat.add_zero, Array.length_toList]
          by_cases hri : r = i
          · subst hri
            rw [if_pos rfl, if_pos (by omega)]
            have hkk : r * size + j - r * size < cv.cells.toList.length := by simp; omega
            refine ⟨cv.cells.toList[r * size + j - r * size], List.getElem?_eq_getElem hkk, ?_⟩
            have := z2 (r * size + j - r * size) (by omega)
            rw [getD_of (d := undef) (List.getElem?_eq_getElem hkk)] at this
            simp only [show r * size + j - r * size = j by omega] at this ⊢
            exact this
          · rw [if_neg hri, if_neg (by have := idx_far (c := 0) (n := size) hri hj (by omega); omega)]
            exact a3 r j hr hj
        obtain ⟨arr', g1, g2, g3⟩ := fillRows_sound rest crest _ _ (by simpa using hl) (fun k hk => by simpa using hp (k + 1) (by simp; omega)) ha' hf
        refine ⟨arr', ?_, g2, by rw [g3]; simp⟩
        simp only [Instr.fill]
        rw [if_neg]
        · exact g1
        · have := Nat.mul_le_mul_right size (show i + 1 ≤ rows.length from hi)
          rw [Nat.add_mul] at this
          simp [hsz]; omega
      · cases hf

theorem RV.newRef {h' : AHeap} {mu' : Mu} {w' : World} {o g b st size n cap : Nat} (hm : mu' o g = some ⟨b, 0, st, size, true⟩) (hn : n ≤ cap) (hlim : n ≤ LIM) (hs : cap * st ≤ size) : RV h' mu' w' (.ref o g 0 n) (.slice (some ⟨b, 0, none⟩) n cap) := by
  have := Rv.ref (w := w') (M := Mut h' mu') o g 0 n cap _ hm rfl hn hlim (by simpa using hs)
  simpa using this

theorem map_range0 (f : Nat → Value) : (Array.range 0).map f = #[] := by
  apply Array.ext'
  simp
theorem buildSlice_sound (s : Sim B mu h w) {t : TypeId} {len : Nat} {parts : List (Nat × AV)} {cparts : List (Nat × Value)} {K : AV → AHeap → Prop} (hl : parts.length = cparts.length)
    (hp : ∀ k, k < parts.length → (parts.getD k (0, .und)).1 = (cparts.getD k (0, undef)).1 ∧ RV h mu w (parts.getD k (0, .und)).2 (cparts.getD k (0, undef)).2) (hK : aBuildSlice P h t len parts K) :
    ∃ v c h' mu' w', (Instr.buildSlice t len cparts.toArray).run P w = .ok c w' ∧ RV h' mu' w' v c ∧ K v h' ∧ Sim B mu' h' w' ∧ EXT h mu w h' mu' w' := by
  unfold aBuildSlice at hK
  split at hK
  · rename_i T hT
    split at hK
    · rename_i e hk
      obtain ⟨dS, hdS, hkS⟩ := ti_und hT
      have := of_sl (hk ▸ hkS); subst this
      split at hK
      · rename_i E hE
        obtain ⟨d, i, z, e1, e2, e3, e4, e5, e6, e7, e8, _⟩ := ti_spec hE
        split at hK
        · rename_i h0
          subst h0
          obtain ⟨rfl, hK⟩ := hK
          have : cparts = [] := List.eq_nil_of_length_eq_zero hl.symm
          subst this
          have hj := s.junk (.cells #[] e)
          have hrun : (Instr.buildSlice t 0 ([] : List (Nat × Value)).toArray).run P w = .ok (.slice (some ⟨w.heap.size, 0, none⟩) 0 0) (w.alloc (.cells #[] e)) := by
            simp [Instr.buildSlice, run_underlying hdS, sizeOf, typeInfo, zeroValue, e2, newRow, Instr.fill]
            rw [map_range0]
          rcases hK with hK | hK
          · exact ⟨.emp, .slice (some ⟨w.heap.size, 0, none⟩) 0 0, h, mu, w.alloc (.cells #[] e), hrun, .emp _, hK, hj.1, hj.2⟩
          · exact ⟨.sl E.size [], .slice (some ⟨w.heap.size, 0, none⟩) 0 0, h, mu, w.alloc (.cells #[] e), hrun, .sl0 _ _ _, hK, hj.1, hj.2⟩
        · rename_i h0
          obtain ⟨hsz, hlim, hfl, hK⟩ := hK
          split at hK
          · rename_i rows hrows
            obtain ⟨arr, f1, ⟨r1, r2, r3⟩, f3⟩ := fillRows_sound parts cparts _ _ hl hp (zeros_rows (i := i) e4 e5 hfl len) hrows
            rw [List.length_replicate] at f3
            have hrun : (Instr.buildSlice t len cparts.toArray).run P w = .ok (.slice (some ⟨w.heap.size, 0, none⟩) len len) (w.alloc (.cells arr e)) := by
              rw [e7] at f1 hlim hsz
              exact run_buildSlice w t e len cparts.toArray arr i z hdS e2 e3 (by omega) (by
                intro hq
                rcases Nat.mul_eq_zero.1 hq with hq | hq <;> omega) (by simpa using f1)
            have hLIM : len ≤ LIM := by have := Nat.le_mul_of_pos_right len hsz; unfold LIM; omega
            obtain ⟨rows', hsim, hK⟩ := hK
            rcases hK with hK | hK
            · have hj := s.junk (.cells arr e)
              have hlen' : rows'.length = len := hsim.len.trans f3
              refine ⟨.sl E.size rows', .slice (some ⟨w.heap.size, 0, none⟩) len len, h, mu, w.alloc (.cells arr e), hrun, ?_, hK, hj.1, hj.2⟩
              have key : ∃ vs : Nat → Nat → Value, ∀ i j, i < rows'.length → j < E.size → (w.alloc (.cells arr e)).cell? ⟨w.heap.size, 0 + i * E.size + j, none⟩ = some (vs i j) ∧ RV h mu (w.alloc (.cells arr e)) (cell rows' i j) (vs i j) := by
                refine ⟨fun i j => ((w.alloc (.cells arr e)).cell? ⟨w.heap.size, 0 + i * E.size + j, none⟩).getD undef, fun i j hi hj' => ?_⟩
                obtain ⟨c, hc1, hc2⟩ := r3 i j (by rw [f3, ← hlen']; exact hi) hj'
                have hx : (w.alloc (.cells arr e)).cell? ⟨w.heap.size, 0 + i * E.size + j, none⟩ = some c := by
                  unfold World.cell?
                  rw [heap_push_eq, Nat.zero_add]; simpa using hc1
                have hg : ((w.alloc (.cells arr e)).cell? ⟨w.heap.size, 0 + i * E.size + j, none⟩).getD undef = c := by rw [hx]; rfl
                refine ⟨by show _ = some (((w.alloc (.cells arr e)).cell? ⟨w.heap.size, 0 + i * E.size + j, none⟩).getD undef); rw [hg]; exact hx, ?_⟩
                show RV h mu _ _ (((w.alloc (.cells arr e)).cell? ⟨w.heap.size, 0 + i * E.size + j, none⟩).getD undef)
                rw [hg]
                exact (hsim.cells i j (by rw [f3, ← hlen']; exact hi) hj').rv (hc2.ext hj.2)
              obtain ⟨vs, hvs⟩ := key
              have := Rv.sl (w := w.alloc (.cells arr e)) (mu := mu) (M := Mut h mu) E.size rows' w.heap.size 0 len vs (by omega) (by omega) (fun i j hi hj => (hvs i j hi hj).1) (fun i j hi hj => (hvs i j hi hj).2) hsim.ok (fun hm => by have := Mut.lt s hm; omega) (by rw [alloc_size]; omega)
              rw [hlen'] at this
              exact this
            obtain ⟨o, g, mu', m1, m2, m3, m4⟩ := new_sound (base := 0) (cells := arr) (e := e) s hK (by rw [r1, hsim.len]; omega) hsim.ok (by
              intro i j hi hj
              rw [Nat.zero_add]
              rw [hsim.len] at hi
              obtain ⟨c, k1, k2⟩ := r3 i j hi hj
              exact ⟨c, k1, (hsim.cells i j hi hj).rv k2⟩)
            refine ⟨_, .slice (some ⟨w.heap.size, 0, none⟩) len len, _, mu', w.alloc (.cells arr e), hrun, RV.newRef m1 (Nat.le_refl _) hLIM (by rw [r1, f3]; exact Nat.le_refl _), m2, m3, m4⟩
          · exact hK.elim
      · exact hK.elim
    · exact hK.elim
  · exact hK.elim

theorem wrap64_nat {n : Int} (h0 : 0 ≤ n) (h : n ≤ 140737488355328) : IntKind.i64.wrap n = n := by
  simp [IntKind.wrap, IntKind.bits, IntKind.signed]
  omega

theorem make_sound (s : Sim B mu h w) {t : TypeId} {len cap : AV} {cl cc : Value} {K : AV → AHeap → Prop} (h1 : RV h mu w len cl) (h2 : RV h mu w cap cc) (hK : aMake P h t len cap K) :
    ∃ v c h' mu' w', (Instr.makeSlice t cl cc).run P w = .ok c w' ∧ RV h' mu' w' v c ∧ K v h' ∧ Sim B mu' h' w' ∧ EXT h mu w h' mu' w' := by
  unfold aMake at hK
  split at hK
  · rename_i T hT
    split at hK
    · rename_i e k n k' c hk
      obtain ⟨dS, hdS, hkS⟩ := ti_und hT
      have := of_sl (hk ▸ hkS); subst this
      cases h1; cases h2
      split at hK
      · rename_i E hE
        obtain ⟨d, i, z, e1, e2, e3, e4, e5, e6, e7, e8, _⟩ := ti_spec hE
        obtain ⟨hsz, hby, hfl, h0, hnc, hlim, hK⟩ := hK
        obtain ⟨r1, r2, r3⟩ := zeros_rows (w := w) (mu := mu) (M := Mut h mu) (i := i) e4 e5 hfl c.toNat
        obtain ⟨o, g, mu', m1, m2, m3, m4⟩ := new_sound (base := 0) (cells := (Array.range (c.toNat * E.size)).map (z.cells[· % z.cells.size]!)) (e := e) s hK (by
            rw [r1]; simp only [List.length_replicate, Nat.zero_add]
            exact Nat.mul_le_mul_right _ (by omega)) (by
            intro r hr
            rw [List.eq_of_mem_replicate hr]
            exact ⟨e5, fun v hv => List.all_eq_true.1 hfl v hv⟩) (by
            intro i j hi hj
            rw [List.length_replicate] at hi
            rw [Nat.zero_add]
            obtain ⟨x, hx1, hx2⟩ := r3 i j (by simp; omega) hj
            refine ⟨x, hx1, ?_⟩
            rw [show cell (List.replicate n.toNat E.z) i j = cell (List.replicate c.toNat E.z) i j by
              simp [cell, List.getD, hi, show i < c.toNat by omega]]
            exact hx2)
        refine ⟨_, .slice (some ⟨w.heap.size, 0, none⟩) n.toNat c.toNat, _, mu', w.alloc (.cells ((Array.range (c.toNat * E.size)).map (z.cells[· % z.cells.size]!)) e), ?_, RV.newRef m1 (by omega) (by have := Nat.le_mul_of_pos_right c.toNat hby; omega) (by rw [r1]; simp), m2, m3, m4⟩
        have hcc : (c.toNat : Int) = c := Int.toNat_of_nonneg (by omega)
        have hle : c.toNat ≤ c.toNat * E.bytes := Nat.le_mul_of_pos_right _ hby
        have hlim' : c.toNat * E.bytes ≤ 140737488355328 := hlim
        have wc : IntKind.i64.wrap c = c := wrap64_nat (by omega) (by omega)
        have wn : IntKind.i64.wrap n = n := wrap64_nat (by omega) (by omega)
        have hbytes : ¬ (281474976710656 < (i.bytes : Int) * c) := by
          rw [← e8, ← hcc, Int.mul_comm, ← Int.natCast_mul]
          omega
        have hbytes2 : ¬ (281474976710656 < (i.bytes : Int) * n) := by
          have : (i.bytes : Int) * n ≤ (i.bytes : Int) * c := Int.mul_le_mul_of_nonneg_left hnc (by omega)
          omega
        by_cases hz : c.toNat * E.size = 0
        · have hc0 : c.toNat = 0 := by
            rcases Nat.mul_eq_zero.1 hz with hz | hz <;> omega
          have hc0' : c = 0 := by omega
          have hn0' : n = 0 := by omega
          subst hc0'; subst hn0'
          simp only [hz, map_range0]
          simp [Instr.makeSlice, run_underlying hdS, asInt, asIntOf, sizeOf, typeInfo, zeroValue, e2, newRow, IntKind.wrap, IntKind.bits, IntKind.signed, map_range0]
        · rw [e7] at hz ⊢
          simp [Instr.makeSlice, run_underlying hdS, asInt, asIntOf, sizeOf, typeInfo, zeroValue, e2, e3, newRow, wc, wn, hbytes, hbytes2, h0, hnc, hz, show ¬ c < 0 by omega, show ¬ n < 0 by omega, show ¬ c < n by omega]
      · exact hK.elim
    · exact hK.elim
  · exact hK.elim

theorem assert_sound {x r : AV} {c : Value} {xT asserted : TypeId} {ok : Bool} (hv : RV h mu w x c) (hx : aAssert P x asserted ok = some r) : ∃ y, (Instr.typeAssert c xT asserted ok).run P w = .ok y w ∧ RV h mu w r y := by
  unfold aAssert at hx
  split at hx
  · cases hx
  rename_i T hT
  obtain ⟨d, i, z, e1, e2, e3, e4, e5, e6, e7, e8, e9, e10⟩ := ti_spec hT
  have hzr : Rv w mu (Mut h mu) (if T.k.agg then .agg T.z else T.z.getD 0 .und) z := by
    have hz := zero_arr (w := w) (mu := mu) (M := Mut h mu) e4
    split
    · rename_i ha
      rw [e10 ha]; exact arr_agg hz
    · rename_i ha
      have h1 := e9 (by simpa using ha)
      have hc : z.cells = #[z] := by cases z <;> simp [Value.oneCell'] at h1 <;> rfl
      have hl : T.z.length = 1 := by rw [hz.1, hc]; rfl
      obtain ⟨y, hy1, hy2⟩ := hz.2 0 (by omega)
      rw [hc] at hy1
      simp at hy1; subst hy1
      exact hy2
  have hzero : (zeroValue asserted).run P w = .ok z w := by simp [zeroValue, typeInfo, e2, e3]
  have hno : ∀ ms, d ≠ .interface ms := by
    intro ms hq; subst hq
    rename_i hh
    split at hx
    · cases hx
    · rename_i hne
      exact hne (by rw [e6]; rfl)
  have tup2 : ∀ {a : AV} {b : Value} {q : Bool}, Rv w mu (Mut h mu) a b → Rv w mu (Mut h mu) (.tup [a, .bool q]) (.tuple #[b, .bool q]) := by
    intro a b q hab
    refine .tup [a, .bool q] [b, .bool q] rfl (fun i hi => ?_)
    match i, hi with
    | 0, _ => exact hab
    | 1, _ => exact .bool q
  split at hx
  · cases hx
  split at hx
  · rename_i t v
    cases hv with
    | iface _ _ cv hcv =>
      split at hx
      · rename_i ht
        cases hx
        cases ok
        · refine ⟨cv, ?_, hcv⟩
          cases d <;> first | exact absurd rfl (hno _) | simp [Instr.typeAssert, run_underlying e1, ht]
        · refine ⟨.tuple #[cv, .bool true], ?_, tup2 hcv⟩
          cases d <;> first | exact absurd rfl (hno _) | simp [Instr.typeAssert, run_underlying e1, ht]
      · rename_i ht
        split at hx
        · rename_i hok
          cases hx
          subst hok
          refine ⟨.tuple #[z, .bool false], ?_, tup2 hzr⟩
          cases d <;> first | exact absurd rfl (hno _) | simp [Instr.typeAssert, run_underlying e1, ht, hzero]
        · cases hx
  · split at hx
    · rename_i hok
      cases hx
      subst hok
      cases hv
      refine ⟨.tuple #[z, .bool false], ?_, tup2 hzr⟩
      cases d <;> first | exact absurd rfl (hno _) | simp [Instr.typeAssert, run_underlying e1, hzero]
    · cases hx
  · cases hx
end
end Go.Am
