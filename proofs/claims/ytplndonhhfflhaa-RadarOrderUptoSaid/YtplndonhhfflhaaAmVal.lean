/- Constants, types in short, and the operations that only read. -/
import Derived.Test.YtplndonhhfflhaaAmMem
import Derived.Great.BuildSlice
namespace Go.Am
open Go
set_option linter.unusedSimpArgs false
set_option linter.unusedVariables false
set_option linter.unusedSectionVars false

def avAtom : Value → Option AV
  | .bool b => some (.bool b)
  | .int k n => some (.int k n)
  | .string s => some (.str s.data.toList)
  | .pointer none => some .nilp
  | .pointer (some a) => some (.gptr a)
  | .slice none 0 0 => some .emp
  | .map none => some .mnil
  | .nilFunc => some .nilf
  | .nilIface => some .nili
  | .func fn ⟨[]⟩ ⟨[]⟩ => some (.func fn [] [])
  | _ => none
def avList : List Value → Option (List AV)
  | [] => some []
  | v :: r => match avAtom v, avList r with
    | some x, some l => some (x :: l)
    | _, _ => none
def avOf : Value → AV
  | .agg ⟨cs⟩ => match avList cs with | some l => .agg l | none => .raw (.agg ⟨cs⟩)
  | .tuple ⟨cs⟩ => match avList cs with | some l => .tup l | none => .raw (.tuple ⟨cs⟩)
  | .iface t v => match avAtom v with | some x => .iface t x | none => .raw (.iface t v)
  | v => (avAtom v).getD (.raw v)

section
variable {w : World} {mu : Mu} {M : Nat → Prop}
theorem avAtom_rv {v : Value} {x : AV} (h : avAtom v = some x) : Rv w mu M x v := by
  unfold avAtom at h
  split at h <;> cases h
  · exact .bool _
  · exact .int _ _
  · rename_i s
    have := Rv.str (w := w) (mu := mu) (M := M) s.data.toList
    rwa [Lib.mk_data] at this
  · exact .nilp
  · exact .gptr _
  · exact .emp _
  · exact .mnil
  · exact .nilf
  · exact .nili
  · exact .func _ [] [] [] [] rfl rfl (fun i hi => by simp at hi) (fun i hi => by simp at hi)
theorem avAtom_ok {v : Value} {x : AV} (h : avAtom v = some x) : x.flat = true ∧ v.oneCell' = true := by
  unfold avAtom at h
  split at h <;> cases h <;> exact ⟨rfl, rfl⟩
theorem avList_rv : ∀ {vs : List Value} {l : List AV}, avList vs = some l → l.length = vs.length ∧ ∀ i, i < l.length → Rv w mu M (l.getD i .und) (vs.getD i undef)
  | [], l, h => by cases h; exact ⟨rfl, fun i hi => by simp at hi⟩
  | v :: r, l, h => by
    unfold avList at h
    split at h
    · rename_i x l' hx hl
      cases h
      obtain ⟨h1, h2⟩ := avList_rv hl
      refine ⟨by simp [h1], fun i hi => ?_⟩
      cases i with
      | zero => simpa using avAtom_rv hx
      | succ i => simpa using h2 i (by simpa using hi)
    · cases h
theorem avOf_rv (v : Value) : Rv w mu M (avOf v) v := by
  unfold avOf
  split
  · split
    · rename_i h
      obtain ⟨h1, h2⟩ := avList_rv (w := w) (mu := mu) (M := M) h
      exact .agg _ _ h1 h2
    · exact .raw _
  · split
    · rename_i h
      obtain ⟨h1, h2⟩ := avList_rv (w := w) (mu := mu) (M := M) h
      exact .tup _ _ h1 h2
    · exact .raw _
  · split
    · rename_i h; exact .iface _ _ _ (avAtom_rv h)
    · exact .raw _
  · cases h : avAtom v with
    | none => simpa [h] using Rv.raw v
    | some x => simpa [h] using avAtom_rv h

theorem getD_of {α : Type} {l : List α} {i : Nat} {d x : α} (h : l[i]? = some x) : l.getD i d = x := by simp [List.getD, h]
theorem Rv.und : Rv w mu M .und undef := .tup [] [] rfl (fun i hi => by simp at hi)

/-- The cells of a value and of what it reads as. -/
theorem cells_rv {v : AV} {c : Value} (h : Rv w mu M v c) (hok : v.ok = true) : v.cells.length = c.cells.size ∧ ∀ i, i < v.cells.length → Rv w mu M (v.cells.getD i .und) (c.cells.toList.getD i undef) := by
  have one : ∀ {v : AV} {c : Value}, v.cells = [v] → c.cells = #[c] → Rv w mu M v c → v.cells.length = c.cells.size ∧ ∀ i, i < v.cells.length → Rv w mu M (v.cells.getD i .und) (c.cells.toList.getD i undef) := by
    intro v c h1 h2 h
    rw [h1, h2]
    refine ⟨rfl, fun i hi => ?_⟩
    have : i = 0 := by simpa using hi
    subst this
    simpa using h
  cases h with
  | agg cs vs hl h1 => exact ⟨by simpa [AV.cells, Value.cells] using hl, by simpa [AV.cells, Value.cells] using h1⟩
  | raw v => simp [AV.ok] at hok
  | any v => simp [AV.ok] at hok
  | _ => exact one rfl rfl (by constructor <;> assumption)
end

inductive TK where
  | bool
  | int (k : IntKind)
  | str
  | ptr (e : TypeId)
  | sl (e : TypeId)
  | arr (n : Nat) (e : TypeId)
  | map (k e : TypeId)
  | st (fs : List (Nat × TypeId))
  | ifc
  | fn
  | oth
  deriving DecidableEq
def TK.of : TypeDesc → TK
  | .bool => .bool
  | .int k => .int k
  | .string => .str
  | .pointer e => .ptr e
  | .slice e => .sl e
  | .array n e => .arr n e
  | .map k e => .map k e
  | .struct fs => .st (fs.toList.map fun f => (f.offset, f.type))
  | .interface _ => .ifc
  | .func _ _ _ => .fn
  | _ => .oth
def TK.agg : TK → Bool
  | .arr _ _ => true
  | .st _ => true
  | _ => false
structure TI where
  k : TK
  size : Nat
  bytes : Nat
  z : List AV
def isAggV : Value → Bool
  | .agg _ => true
  | _ => false
theorem isAggV_spec {v : Value} (h : isAggV v = true) : v = .agg v.cells := by cases v <;> simp [isAggV] at h; rfl
/-- A type in short: what it is, its cells, its bytes, its zero cells. -/
def ti (P : Program) (t : TypeId) : Option TI :=
  match P.underlying t, P.info? t with
  | some d, some i =>
    match i.zero with
    | some z => match avList z.cells.toList with
      | some l => if l.length == i.size && (((TK.of d).agg && isAggV z) || (!(TK.of d).agg && z.oneCell')) then some ⟨TK.of d, i.size, i.bytes, l⟩ else none
      | none => none
    | none => none
  | _, _ => none
theorem ti_spec {P : Program} [GW P] {t : TypeId} {T : TI} (h : ti P t = some T) : ∃ d i z, P.underlying t = some d ∧ P.info? t = some i ∧ i.zero = some z ∧ avList z.cells.toList = some T.z ∧ T.z.length = T.size ∧
    T.k = TK.of d ∧ T.size = i.size ∧ T.bytes = i.bytes ∧ (T.k.agg = false → z.oneCell' = true) ∧ (T.k.agg = true → z = .agg z.cells) := by
  unfold ti at h
  split at h
  · rename_i d i hd hi
    split at h
    · rename_i z hz
      split at h
      · rename_i l hl
        split at h
        · rename_i hc
          cases h
          simp only [Bool.and_eq_true, Bool.or_eq_true, beq_iff_eq, Bool.not_eq_true'] at hc
          obtain ⟨hc1, hc2⟩ := hc
          refine ⟨d, i, z, hd, hi, hz, hl, hc1, rfl, rfl, rfl, fun ha => ?_, fun ha => ?_⟩
          · rcases hc2 with hc2 | hc2
            · exact absurd hc2.1 (by rw [ha]; simp)
            · exact hc2.2
          · rcases hc2 with hc2 | hc2
            · exact isAggV_spec hc2.2
            · exact absurd hc2.1 (by rw [ha]; simp)
        · cases h
      · cases h
    · cases h
  · cases h

section
variable {P : Program} [GW P] {t : TypeId} {T : TI}
theorem ti_size (h : ti P t = some T) (w : World) : (sizeOf t).run P w = .ok T.size w := by
  obtain ⟨d, i, z, h1, h2, h3, h4, h5, h6, h7, h8, _⟩ := ti_spec h
  simp [sizeOf, typeInfo, h2, h7]
theorem ti_agg (h : ti P t = some T) (w : World) : (isAgg t).run P w = .ok T.k.agg w := by
  obtain ⟨d, i, z, h1, h2, h3, h4, h5, h6, h7, h8, _⟩ := ti_spec h
  rw [h6]
  simp only [isAgg, Sem.run_bind, run_underlying h1, Result.andThen_ok]
  cases d <;> simp [TK.of, TK.agg]
theorem ti_zero (h : ti P t = some T) : ∃ z, (∀ w, (zeroValue t).run P w = .ok z w) ∧ avList z.cells.toList = some T.z ∧ (T.k.agg = false → z.oneCell' = true) ∧ (T.k.agg = true → z = .agg z.cells) ∧ T.z.length = T.size := by
  obtain ⟨d, i, z, h1, h2, h3, h4, h5, h6, h7, h8, h9, h10⟩ := ti_spec h
  exact ⟨z, fun w => by simp [zeroValue, typeInfo, h2, h3], h4, h9, h10, h5⟩
theorem ti_und (h : ti P t = some T) : ∃ d, P.underlying t = some d ∧ T.k = TK.of d := by
  obtain ⟨d, i, z, h1, h2, h3, h4, h5, h6, h7, h8, _⟩ := ti_spec h
  exact ⟨d, h1, h6⟩
theorem of_sl {d : TypeDesc} {e : TypeId} (h : TK.sl e = TK.of d) : d = .slice e := by cases d <;> simp [TK.of] at h; rw [h]
theorem of_arr {d : TypeDesc} {n : Nat} {e : TypeId} (h : TK.arr n e = TK.of d) : d = .array n e := by cases d <;> simp [TK.of] at h; rw [h.1, h.2]
theorem of_st {d : TypeDesc} {fs : List (Nat × TypeId)} (h : TK.st fs = TK.of d) : ∃ a, d = .struct a ∧ fs = a.toList.map fun f => (f.offset, f.type) := by cases d <;> simp [TK.of] at h; exact ⟨_, rfl, h⟩
theorem of_map {d : TypeDesc} {n : TypeId} {e : TypeId} (h : TK.map n e = TK.of d) : d = .map n e := by cases d <;> simp [TK.of] at h; rw [h.1, h.2]
theorem of_int {d : TypeDesc} {k : IntKind} (h : TK.int k = TK.of d) : d = .int k := by cases d <;> simp [TK.of] at h; rw [h]
theorem of_bool {d : TypeDesc} (h : TK.bool = TK.of d) : d = .bool := by cases d <;> simp [TK.of] at h; rfl
theorem of_str {d : TypeDesc} (h : TK.str = TK.of d) : d = .string := by cases d <;> simp [TK.of] at h; rfl
end

def rdAt (row : List AV) (c n : Nat) (agg : Bool) : Option AV :=
  if agg then (if c + n ≤ row.length then some (.agg ((row.drop c).take n)) else none)
  else (if c < row.length then some (row.getD c .und) else none)

section
variable {P : Program} [GW P] {w : World} {mu : Mu} {M : Nat → Prop}
theorem load_row {row : List AV} {b off c : Nat} {t : TypeId} {T : TI} {v : AV} (hrow : ∀ j, j < row.length → ∃ x, w.cell? ⟨b, off + j, none⟩ = some x ∧ Rv w mu M (row.getD j .und) x)
    (hT : ti P t = some T) (h : rdAt row c T.size T.k.agg = some v) : ∃ x, (loadVar t ⟨b, off + c, none⟩).run P w = .ok x w ∧ Rv w mu M v x := by
  unfold rdAt at h
  split at h
  · rename_i hagg
    split at h
    · rename_i hle
      cases h
      have hex : ∃ f : Nat → Value, ∀ j, j < T.size → w.cell? ⟨b, off + c + j, none⟩ = some (f j) ∧ Rv w mu M (row.getD (c + j) .und) (f j) := by
        refine ⟨fun j => ((w.cell? ⟨b, off + c + j, none⟩)).getD undef, fun j hj => ?_⟩
        obtain ⟨x, hx1, hx2⟩ := hrow (c + j) (by omega)
        rw [← Nat.add_assoc] at hx1
        simp only [hx1, Option.getD_some]
        exact ⟨trivial, hx2⟩
      obtain ⟨f, hf⟩ := hex
      refine ⟨.agg ((List.range T.size).map f).toArray, ?_, ?_⟩
      · simp only [loadVar, Sem.run_bind, ti_agg hT, Result.andThen_ok, hagg, if_true, ti_size hT, Sem.run_pure]
        rw [run_loadCells w ⟨b, off + c, none⟩ T.size f (fun j hj => by rw [add_mk]; exact (hf j hj).1)]
        rfl
      · refine .agg _ _ (by simp; omega) (fun i hi => ?_)
        have hi' : i < T.size := by simp at hi; omega
        have := (hf i hi').2
        rw [show (List.map f (List.range T.size)).getD i undef = f i by simp [List.getD, hi']]
        rw [show ((row.drop c).take T.size).getD i .und = row.getD (c + i) .und by simp [List.getD, List.getElem?_take, hi', List.getElem?_drop]]
        exact this
    · cases h
  · rename_i hagg
    split at h
    · rename_i hlt
      cases h
      obtain ⟨x, hx1, hx2⟩ := hrow c hlt
      refine ⟨x, ?_, hx2⟩
      simp [loadVar, ti_agg hT, hagg, hx1]
    · cases h

/-- A part of a struct or an array by value. -/
theorem part_rv {cs : List AV} {vs : List Value} {t : TypeId} {T : TI} {off : Nat} {v : AV} (hl : cs.length = vs.length) (hcs : ∀ i, i < cs.length → Rv w mu M (cs.getD i .und) (vs.getD i undef))
    (hT : ti P t = some T) (h : rdAt cs off T.size T.k.agg = some v) : ∃ x, (part t vs.toArray off).run P w = .ok x w ∧ Rv w mu M v x := by
  unfold rdAt at h
  split at h
  · rename_i hagg
    split at h
    · rename_i hle
      cases h
      refine ⟨.agg (vs.toArray.extract off (off + T.size)), ?_, ?_⟩
      · simp [part, ti_agg hT, hagg, ti_size hT]
      · have e : vs.toArray.extract off (off + T.size) = ((vs.drop off).take T.size).toArray := by
          apply Array.ext'
          simp [Array.toList_extract, List.extract_eq_take_drop]
        rw [e]
        refine .agg _ _ (by simp; omega) (fun i hi => ?_)
        have hi' : i < T.size := by simp at hi; omega
        rw [show ((cs.drop off).take T.size).getD i .und = cs.getD (off + i) .und by simp [List.getD, List.getElem?_take, hi', List.getElem?_drop]]
        rw [show ((vs.drop off).take T.size).getD i undef = vs.getD (off + i) undef by simp [List.getD, List.getElem?_take, hi', List.getElem?_drop]]
        exact hcs _ (by omega)
    · cases h
  · rename_i hagg
    split at h
    · rename_i hlt
      cases h
      refine ⟨vs.getD off undef, ?_, hcs _ hlt⟩
      obtain ⟨x, hx⟩ : ∃ x, vs[off]? = some x := ⟨_, List.getElem?_eq_getElem (show off < vs.length by omega)⟩
      rw [getD_of hx]
      simp [part, ti_agg hT, hagg, hx]
    · cases h
end
end Go.Am
