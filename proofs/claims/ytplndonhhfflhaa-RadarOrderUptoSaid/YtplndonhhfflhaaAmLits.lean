/- Literals of structs, arrays and slices; make; strings to bytes and back; type assertions. -/
import Derived.Test.YtplndonhhfflhaaAmAppend
namespace Go.Am
open Go
set_option linter.unusedSimpArgs false
set_option linter.unusedVariables false
set_option linter.unusedSectionVars false

def aPlaces (P : Program) : List (Nat × TypeId) → Option (List (Nat × Nat))
  | [] => some []
  | (off, t) :: r => match ti P t, aPlaces P r with
    | some T, some l => some ((off, T.size) :: l)
    | _, _ => none
def fillA (place : Nat → Option (Nat × Nat)) : List AV → List (Nat × AV) → Option (List AV)
  | cells, [] => some cells
  | cells, (i, v) :: rest => match place i with
    | none => none
    | some (off, size) => if v.ok = true ∧ v.cells.length = size ∧ off + size ≤ cells.length then fillA place (putCells cells off v.cells) rest else none
def aBuild (P : Program) (t : TypeId) (parts : List (Nat × AV)) : Option AV :=
  match ti P t with
  | none => none
  | some T => match T.k with
    | .st fs => match aPlaces P fs with
      | some pl => (fillA (pl[·]?) T.z parts).map .agg
      | none => none
    | .arr _ e => match ti P e with
      | some E => (fillA (fun i => some (i * E.size, E.size)) T.z parts).map .agg
      | none => none
    | _ => none
def fillRows (size : Nat) : List (List AV) → List (Nat × AV) → Option (List (List AV))
  | rows, [] => some rows
  | rows, (i, v) :: rest => if v.ok = true ∧ v.cells.length = size ∧ i < rows.length ∧ v.cells.all AV.flat = true then fillRows size (rows.set i v.cells) rest else none
/-- The same cells; an empty slice may be told as content. -/
inductive CellSim : AV → AV → Prop
  | same (v : AV) : CellSim v v
  | emp (st : Nat) : CellSim .emp (.sl st [])
theorem CellSim.rv {w : World} {mu : Mu} {M : Nat → Prop} {a b : AV} {c : Value} (k : CellSim a b) (h : Rv w mu M a c) : Rv w mu M b c := by
  cases k with
  | same => exact h
  | emp st => cases h with | emp a => exact .sl0 st a 0
/-- The same value; empty slices in it may be told as content. -/
inductive ValSim : AV → AV → Prop
  | cell {a b : AV} (h : CellSim a b) : ValSim a b
  | agg {l l' : List AV} (hl : l.length = l'.length) (h : ∀ i, i < l.length → CellSim (l.getD i .und) (l'.getD i .und)) : ValSim (.agg l) (.agg l')
theorem ValSim.rv {w : World} {mu : Mu} {M : Nat → Prop} {a b : AV} {c : Value} (k : ValSim a b) (h : Rv w mu M a c) : Rv w mu M b c := by
  cases k with
  | cell k => exact k.rv h
  | agg hl k =>
    cases h with
    | agg cs vs h1 h2 => exact .agg _ vs (hl ▸ h1) fun i hi => (k i (hl ▸ hi)).rv (h2 i (hl ▸ hi))
structure RowsSim (st : Nat) (rows rows' : List (List AV)) : Prop where
  len : rows'.length = rows.length
  ok : ∀ r ∈ rows', RowOk st r
  cells : ∀ i j, i < rows.length → j < st → CellSim (cell rows i j) (cell rows' i j)
def aBuildSlice (P : Program) (h : AHeap) (t : TypeId) (len : Nat) (parts : List (Nat × AV)) (K : AV → AHeap → Prop) : Prop :=
  match ti P t with
  | some T => match T.k with
    | .sl e => match ti P e with
      | some E => if len = 0 then parts = [] ∧ (K .emp h ∨ K (.sl E.size []) h) else 0 < E.size ∧ len * E.size ≤ 2 ^ 24 ∧ E.z.all AV.flat = true ∧ match fillRows E.size (List.replicate len E.z) parts with
        | some rows => ∃ rows', RowsSim E.size rows rows' ∧ (K (.sl E.size rows') h ∨ aNew h E.size rows' (fun o g h' => K (.ref o g 0 len) h'))
        | none => False
      | none => False
    | _ => False
  | none => False
def aMake (P : Program) (h : AHeap) (t : TypeId) (len cap : AV) (K : AV → AHeap → Prop) : Prop :=
  match ti P t with
  | some T => match T.k, len, cap with
    | .sl e, .int _ n, .int _ c => match ti P e with
      | some E => 0 < E.size ∧ 0 < E.bytes ∧ E.z.all AV.flat = true ∧ 0 ≤ n ∧ n ≤ c ∧ c.toNat * E.bytes ≤ LIM ∧ aNew h E.size (List.replicate n.toNat E.z) (fun o g h' => K (.ref o g 0 n.toNat) h')
      | none => False
    | _, _, _ => False
  | none => False
def aStrBytes (P : Program) (h : AHeap) (src dst : TypeId) (x : AV) (K : AV → AHeap → Prop) : Prop :=
  match ti P src, ti P dst with
  | some S, some D => match S.k, D.k, x with
    | .str, .sl e, .str s => match ti P e with
      | some E => E.k = .int .u8 ∧ aNew h 1 (s.map fun b => [.int .u8 (b.toNat : Int)]) (fun o g h' => K (.ref o g 0 s.length) h')
      | none => False
    | _, _, _ => False
  | _, _ => False
def byteRows : List (List AV) → Option (List UInt8)
  | [] => some []
  | [.int .u8 n] :: r => (byteRows r).map (UInt8.ofNat n.toNat :: ·)
  | _ => none
def aBytesStr (P : Program) (h : AHeap) (src dst : TypeId) (x : AV) : Option AV :=
  match ti P src, ti P dst with
  | some S, some D => match S.k, D.k with
    | .sl e, .str => match ti P e with
      | some E => if E.k = .int .u8 then (match srcRows P h 1 false x with
        | some rows => (byteRows rows).map .str
        | none => none) else none
      | none => none
    | _, _ => none
  | _, _ => none
def aAssert (P : Program) (x : AV) (asserted : TypeId) (ok : Bool) : Option AV :=
  match ti P asserted with
  | none => none
  | some T => if T.k = .ifc then none else match x with
    | .iface t v => if t = asserted then some (if ok then .tup [v, .bool true] else v) else if ok then some (.tup [(if T.k.agg then .agg T.z else T.z.getD 0 .und), .bool false]) else none
    | .nili => if ok then some (.tup [(if T.k.agg then .agg T.z else T.z.getD 0 .und), .bool false]) else none
    | _ => none

section
variable {P : Program} [GW P] {B : Base P} {h : AHeap} {mu : Mu} {w : World} {M : Nat → Prop}

theorem zip_fold : ∀ (l : List Value) (m off : Nat) (arr : Array Value), ((l.zipIdx m).foldl (fun cs (p : Value × Nat) => cs.setIfInBounds (off + p.2) p.1) arr).size = arr.size ∧
    ∀ k, ((l.zipIdx m).foldl (fun cs (p : Value × Nat) => cs.setIfInBounds (off + p.2) p.1) arr)[k]? = if off + m ≤ k ∧ k < off + m + l.length ∧ k < arr.size then l[k - (off + m)]? else arr[k]?
  | [], m, off, arr => ⟨rfl, fun k => by simp; omega⟩
  | v :: r, m, off, arr => by
    obtain ⟨h1, h2⟩ := zip_fold r (m + 1) off (arr.setIfInBounds (off + m) v)
    simp only [List.zipIdx_cons, List.foldl_cons]
    refine ⟨by rw [h1]; simp, fun k => ?_⟩
    rw [h2 k]
    simp only [Array.size_setIfInBounds, List.length_cons]
    by_cases hk : k = off + m
    · subst hk
      rw [if_neg (by omega)]
      by_cases hs : off + m < arr.size
      · rw [if_pos ⟨by omega, by omega, hs⟩]; simp [hs]
      · rw [if_neg (by omega), Array.getElem?_eq_none (by simp; omega), Array.getElem?_eq_none (by omega)]
    · by_cases hc : off + (m + 1) ≤ k ∧ k < off + (m + 1) + r.length ∧ k < arr.size
      · rw [if_pos hc, if_pos (by omega)]
        rw [show k - (off + m) = (k - (off + (m + 1))) + 1 by omega]; simp
      · rw [if_neg hc, if_neg (by omega), Array.getElem?_setIfInBounds_ne (by omega)]

/-- The cells of an array, one by one. -/
def ArrRv (w : World) (mu : Mu) (M : Nat → Prop) (cs : List AV) (arr : Array Value) : Prop := cs.length = arr.size ∧ ∀ i, i < cs.length → ∃ c, arr[i]? = some c ∧ Rv w mu M (cs.getD i .und) c

theorem fill_sound {place : Nat → Option (Nat × Nat)} : ∀ (parts : List (Nat × AV)) (cparts : List (Nat × Value)) (cs : List AV) (arr : Array Value) {cs' : List AV},
    parts.length = cparts.length → (∀ k, k < parts.length → (parts.getD k (0, .und)).1 = (cparts.getD k (0, undef)).1 ∧ Rv w mu M (parts.getD k (0, .und)).2 (cparts.getD k (0, undef)).2) →
    ArrRv w mu M cs arr → fillA place cs parts = some cs' → ∃ arr', Instr.fill place arr cparts = some arr' ∧ ArrRv w mu M cs' arr'
  | [], cparts, cs, arr, cs', hl, hp, ha, hf => by
    have : cparts = [] := List.eq_nil_of_length_eq_zero hl.symm
    subst this
    simp [fillA] at hf; subst hf
    exact ⟨arr, rfl, ha⟩
  | (i, v) :: rest, cparts, cs, arr, cs', hl, hp, ha, hf => by
    cases cparts with
    | nil => simp at hl
    | cons q crest =>
      obtain ⟨ci, cv⟩ := q
      obtain ⟨e1, e2⟩ := hp 0 (by simp)
      simp only [List.getD_cons_zero] at e1 e2
      subst e1
      unfold fillA at hf
      split at hf
      · cases hf
      rename_i off size hpl
      split at hf
      · rename_i hc
        obtain ⟨hok, hlen, hle⟩ := hc
        obtain ⟨z1, z2⟩ := cells_rv e2 hok
        have hsz : cv.cells.size = size := by omega
        obtain ⟨f1, f2⟩ := zip_fold cv.cells.toList 0 off arr
        have hfold : cv.cells.zipIdx.foldl (fun cs (p : Value × Nat) => cs.setIfInBounds (off + p.2) p.1) arr = (cv.cells.toList.zipIdx 0).foldl (fun cs (p : Value × Nat) => cs.setIfInBounds (off + p.2) p.1) arr := by
          rw [← Array.foldl_toList, Array.toList_zipIdx]
        have ha' : ArrRv w mu M (putCells cs off v.cells) (cv.cells.zipIdx.foldl (fun cs (p : Value × Nat) => cs.setIfInBounds (off + p.2) p.1) arr) := by
          refine ⟨?_, fun k hk => ?_⟩
          · rw [putCells_length (by omega), hfold, f1]; exact ha.1
          · rw [putCells_length (by omega)] at hk
            rw [hfold, f2 k, putCells_getD (by omega)]
            simp only [Nat.add_zero, Array.length_toList]
            by_cases hin : off ≤ k ∧ k < off + v.cells.length
            · rw [if_pos hin, if_pos (by have := ha.1; omega)]
              have hkk : k - off < cv.cells.toList.length := by simp; omega
              refine ⟨cv.cells.toList[k - off], List.getElem?_eq_getElem hkk, ?_⟩
              have := z2 (k - off) (by omega)
              rwa [getD_of (d := undef) (List.getElem?_eq_getElem hkk)] at this
            · rw [if_neg hin, if_neg (by omega)]
              exact ha.2 k hk
        obtain ⟨arr', g1, g2⟩ := fill_sound rest crest _ _ (by simpa using hl) (fun k hk => by simpa using hp (k + 1) (by simp; omega)) ha' hf
        refine ⟨arr', ?_, g2⟩
        simp only [Instr.fill, hpl]
        rw [if_neg]
        · exact g1
        · have := ha.1
          simp [hsz]; omega
      · cases hf

theorem places_mapM : ∀ (fs : List Field) {pl : List (Nat × Nat)}, aPlaces P (fs.map fun f => (f.offset, f.type)) = some pl → fs.mapM (fun f => (P.info? f.type).map fun i => (f.offset, i.size)) = some pl
  | [], pl, h => by simp [aPlaces] at h; subst h; rfl
  | f :: r, pl, h => by
    simp only [List.map_cons, aPlaces] at h
    split at h
    · rename_i T l hT hl
      cases h
      obtain ⟨d, i, z, h1, h2, h3, h4, h5, h6, h7, h8, _⟩ := ti_spec hT
      rw [List.mapM_cons, h2, places_mapM r hl, h7]
      rfl
    · cases h

theorem zero_arr {T : TI} {z : Value} (h : avList z.cells.toList = some T.z) : ArrRv w mu M T.z z.cells := by
  obtain ⟨h1, h2⟩ := avList_rv (w := w) (mu := mu) (M := M) h
  refine ⟨by simpa using h1, fun i hi => ?_⟩
  have hi' : i < z.cells.toList.length := by rw [← h1]; exact hi
  refine ⟨z.cells.toList[i], by rw [← Array.getElem?_toList]; exact List.getElem?_eq_getElem hi', ?_⟩
  have := h2 i hi
  rwa [getD_of (d := undef) (List.getElem?_eq_getElem hi')] at this

theorem arr_agg {cs : List AV} {arr : Array Value} (h : ArrRv w mu M cs arr) : Rv w mu M (.agg cs) (.agg arr) := by
  have := Rv.agg (w := w) (mu := mu) (M := M) cs arr.toList (by simpa using h.1) (fun i hi => by
    obtain ⟨c, h1, h2⟩ := h.2 i hi
    rw [← Array.getElem?_toList] at h1
    rw [getD_of h1]; exact h2)
  simpa using this

theorem build_sound {t : TypeId} {parts : List (Nat × AV)} {cparts : List (Nat × Value)} {x : AV} (hl : parts.length = cparts.length)
    (hp : ∀ k, k < parts.length → (parts.getD k (0, .und)).1 = (cparts.getD k (0, undef)).1 ∧ RV h mu w (parts.getD k (0, .und)).2 (cparts.getD k (0, undef)).2) (hx : aBuild P t parts = some x) :
    ∃ y, (Instr.build t cparts.toArray).run P w = .ok y w ∧ RV h mu w x y := by
  unfold aBuild at hx
  split at hx
  · cases hx
  rename_i T hT
  obtain ⟨d, i, z, h1, h2, h3, h4, h5, h6, h7, h8, h9, h10⟩ := ti_spec hT
  split at hx
  · rename_i fs hk
    obtain ⟨a, rfl, rfl⟩ := of_st (hk ▸ h6)
    split at hx
    · rename_i pl hpl
      cases hf : fillA (pl[·]?) T.z parts with
      | none => simp [hf] at hx
      | some cs =>
        simp [hf] at hx; subst hx
        obtain ⟨arr, g1, g2⟩ := fill_sound parts cparts T.z z.cells hl hp (zero_arr h4) hf
        refine ⟨.agg arr, run_build w t cparts.toArray arr ?_, arr_agg g2⟩
        simp only [Program.built, h1, h2, h3, places_mapM a.toList hpl]
        simpa using g1
    · cases hx
  · rename_i n e hk
    have := of_arr (hk ▸ h6); subst this
    split at hx
    · rename_i E hE
      cases hf : fillA (fun i => some (i * E.size, E.size)) T.z parts with
      | none => simp [hf] at hx
      | some cs =>
        simp [hf] at hx; subst hx
        obtain ⟨arr, g1, g2⟩ := fill_sound parts cparts T.z z.cells hl hp (zero_arr h4) hf
        obtain ⟨d', i', z', k1, k2, k3, k4, k5, k6, k7, _⟩ := ti_spec hE
        refine ⟨.agg arr, run_build w t cparts.toArray arr ?_, arr_agg g2⟩
        simp only [Program.built, h1, h2, h3, k2]
        rw [k7] at g1
        simpa using g1
    · cases hx
  · cases hx
end
end Go.Am
