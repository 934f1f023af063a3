/- Arrays, whole: rows, parts at an index that is not known ahead. -/
import Derived.Test.YtplndonhhfflhaaDcK
namespace Go.Am
open Go
set_option linter.unusedSimpArgs false
set_option linter.unusedVariables false
set_option linter.unusedSectionVars false

def rV {α : Type} {n : Nat} (e : α → List AV) (v : Vector α n) : List AV := v.toList.flatMap e
def vget {α : Type} {n : Nat} (v : Vector α n) (i : Nat) (z : α) : α := v.toList.getD i z
def vset {α : Type} {n : Nat} (v : Vector α n) (i : Nat) (x : α) : Vector α n := v.setIfInBounds i x
def vrep {α : Type} (n : Nat) (x : α) : Vector α n := Vector.replicate n x
section
variable {α : Type} {n : Nat} {e : α → List AV} {E : α → AV} {v : Vector α n} {i : Nat}
theorem flatMap_len {s : Nat} (he : ∀ x, (e x).length = s) : ∀ l : List α, (l.flatMap e).length = l.length * s
  | [] => by simp
  | a :: l => by simp [he a, flatMap_len he l, Nat.add_mul, Nat.add_comm]
theorem ok_V {s m : Nat} (he : ∀ x, RowOk s (e x)) (hm : n * s = m) (v : Vector α n) : RowOk m (rV e v) := by
  refine ⟨by rw [rV, flatMap_len fun x => (he x).1]; simpa using hm, fun a ha => ?_⟩
  obtain ⟨x, _, hx⟩ := List.mem_flatMap.1 ha
  exact (he x).2 a hx
theorem RowOk.all {s : Nat} {r : List AV} (h : RowOk s r) : r.all AV.flat = true := List.all_eq_true.2 h.2
theorem rV_map (he : ∀ x, e x = [E x]) : rV e v = v.toList.map E := by
  rw [rV]
  induction v.toList with
  | nil => rfl
  | cons a l ih => simp [he, ih]
theorem rV_rep (he : ∀ x, e x = [E x]) (x : α) : rV e (vrep n x) = List.replicate n (E x) := by rw [rV_map he]; simp [vrep]
theorem rd_V (he : ∀ x, e x = [E x]) (hi : i < n) (z : α) : rdAt (rV e v) i 1 false = some (E (vget v i z)) := by
  have hl : i < v.toList.length := by simpa using hi
  rw [rV_map he]
  simp only [rdAt, Bool.false_eq_true, if_false, List.length_map, hl, if_true, vget]
  congr 1
  simp [List.getD, List.getElem?_eq_getElem hl]
theorem put_V (he : ∀ x, e x = [E x]) (hi : i < n) (x : α) : putC (rV e v) i [E x] = rV e (vset v i x) := by
  have hl : i < v.toList.length := by simpa using hi
  rw [rV_map he, rV_map he, putC_eq _ _ _ (by simp; omega)]
  have : (vset v i x).toList = v.toList.set i x := by simp [vset]
  rw [this]
  simp only [putCells]
  clear this
  generalize v.toList = l at hl
  clear hi
  induction l generalizing i with
  | nil => simp at hl
  | cons a l ih =>
    cases i with
    | zero => simp
    | succ i => simpa using ih (i := i) (by simpa using hl)
end
section
variable {P : Program} [GW P] {h : AHeap} {t et : TypeId} {a b : Nat} {z : List AV} {E : TI} {k : IntKind}
theorem ixa_arrv {m o g i : Nat} (hT : ti P t = some ⟨.arr m et, a, b, z⟩) (hE : ti P et = some E) (h1 : E.size = 1) (hi : i < m) : aIndexAddr P h t (.ptr o g 0 0) (.int k (i : Int)) = some (.ptr o g 0 i) := by
  simp only [aIndexAddr, hT, hE, h1]
  rw [if_pos ⟨Int.natCast_nonneg _, by omega⟩]
  simp
theorem ixa_arrvi {m o g : Nat} {i : Int} (hT : ti P t = some ⟨.arr m et, a, b, z⟩) (hE : ti P et = some E) (h1 : E.size = 1) (hi : 0 ≤ i ∧ i < (m : Int)) : aIndexAddr P h t (.ptr o g 0 0) (.int k i) = some (.ptr o g 0 i.toNat) := by
  simp only [aIndexAddr, hT, hE, h1]
  rw [if_pos ⟨hi.1, by omega⟩]
  simp
theorem ixa_arrw {m i : Nat} {row : List AV} (hT : ti P t = some ⟨.arr m et, a, b, z⟩) (hE : ti P et = some E) (h1 : E.size = 1) (hi : i < m) : aIndexAddr P h t (.cp row 0) (.int k (i : Int)) = some (.cp row i) := by
  simp only [aIndexAddr, hT, hE, h1]
  rw [if_pos ⟨Int.natCast_nonneg _, by omega⟩]
  simp
theorem ixa_arrwi {m : Nat} {row : List AV} {i : Int} (hT : ti P t = some ⟨.arr m et, a, b, z⟩) (hE : ti P et = some E) (h1 : E.size = 1) (hi : 0 ≤ i ∧ i < (m : Int)) : aIndexAddr P h t (.cp row 0) (.int k i) = some (.cp row i.toNat) := by
  simp only [aIndexAddr, hT, hE, h1]
  rw [if_pos ⟨hi.1, by omega⟩]
  simp
theorem toNat_lt {i : Int} {m : Nat} (h : 0 ≤ i ∧ i < (m : Int)) : i.toNat < m := by omega
end
section
variable {P : Program} [GW P] {f : FuncId} {n : Nat} {d : FK} {β : Type} {Q : Spec β} {m : R β} {ds : List AD} {u : AU} {k : List Item} {l : List (Nat × AV)} {all r : List Oper} {ty : TypeId} {pos : String} {after : Array Edge} {h0 : AHeap} {ids : List Nat} {xs : List (Option AO)} {N : Nat}
theorem st_arr {α : Type} {q g st j i : Nat} {e : α → List AV} {E : α → AV} {v : Vector α q} {x : α} {t : TypeId} {T : TI} (he : ∀ x, e x = [E x]) (hI : Ids h0 ids N) (hl : xs.length = N) (hjn : Nat.blt j N = true) (hj : xs[j]? = some (some (.rows g st [rV e v]))) (hT : ti P t = some T) (hs : T.size = 1) (hq : q = st) (hi : i < q)
    (hc : (E x).cells = [E x]) (hok : (E x).ok = true) (hfl : (E x).flat = true) :
    aStore P (hp h0 ids xs) t (.ptr (ix ids j) g 0 i) (E x) = some (hp h0 ids (xs.set j (some (.rows g st [rV e (vset v i x)])))) := by
  have hrl : (rV e v).length = st := by rw [rV, flatMap_len (s := 1) fun x => by rw [he]; rfl]; simpa using hq
  rw [st_ptr (rr := 0) (row := rV e v) hI hl hjn hj rfl hT hok (by rw [hc, hs]; rfl) (by rw [hs]; simp; omega) hrl (by rw [hc]; simpa using hfl), hc, put_V he hi]
  rfl
theorem eff_allocV {e : TypeId} {T : TI} {j st : Nat} {row : List AV} {fr : Nat → AV} {K : AV → AHeap → Prop} (hI : Ids h0 ids N) (hl : xs.length = N) (hjn : Nat.blt j N = true) (hj : xs[j]? = some none) (hT : ti P e = some T) (hz : T.z = row) (hr : RowOk st row)
    (hk : ∀ g, K (.ptr (ix ids j) g 0 0) (hp h0 ids (xs.set j (some (.rows g st [row]))))) : aop P fr (hp h0 ids xs) (.alloc e) K := by
  subst hz
  refine eff_alloc hI hl hjn hj hT hr.all fun g => ?_
  rw [hr.1]; exact hk g
theorem wo_allocV {t : Nat} {e : TypeId} {T : TI} {j st : Nat} {row : List AV} (hI : Ids h0 ids N) (hl : xs.length = N) (hjn : Nat.blt j N = true) (hj : xs[j]? = some none) (ht : Nat.blt t n = true) (hT : ti P e = some T) (hz : T.z = row) (hr : RowOk st row)
    (hk : ∀ g, WO P f n d Q k all m r (frA ((t, .ptr (ix ids j) g 0 0) :: l)) ds (hp h0 ids (xs.set j (some (.rows g st [row])))) u) :
    WO P f n d Q k all m (⟨some t, .alloc e, ty, pos, after, none⟩ :: r) (frA l) ds (hp h0 ids xs) u := by
  subst hz
  refine wo_alloc hI hl hjn hj ht hT hr.all fun g => ?_
  rw [hr.1]; exact hk g
end
theorem lf_refl {h h2 : AHeap} : ∀ l : List AV, LF h h2 l l
  | [] => .nil
  | a :: l => .cons (.same a) (lf_refl l)
/-- What panics is no answer. -/
def R.np {α : Type} : R α → R α
  | .pan _ => .bad
  | m => m
theorem R.np_ne {α : Type} (m : R α) (v : PV) : m.np ≠ .pan v := by cases m <;> simp [R.np]
@[simp] theorem R.np_ok {α : Type} (a : α) : (R.ok a).np = .ok a := rfl
end Go.Am
