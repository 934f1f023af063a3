/- Own slices inside an element of another, until they become content. -/
import Derived.Test.YtplndonhhfflhaaDcH
namespace Go.Am
open Go
set_option linter.unusedSimpArgs false
set_option linter.unusedVariables false
set_option linter.unusedSectionVars false

section
variable {P : Program} [GW P] {h0 : AHeap} {ids : List Nat} {xs : List (Option AO)} {N : Nat} {α : Type} {e : α → List AV} {L : List α} {v : AV} {g st j : Nat}
/-- A store into an element, of whatever value. -/
theorem st_ownR {t : TypeId} {T : TI} {i c o : Nat} {x : α} {w : AV} (row : List AV) (hI : Ids h0 ids N) (hl : xs.length = N) (hjn : Nat.blt j N = true) (hv : OwnV v o g L.length) (hj : xs[j]? = some (ownO v g st (L.map e))) (hx : L[i]? = some x)
    (hT : ti P t = some T) (hok : w.ok = true) (hlen : w.cells.length = T.size) (hc : Nat.ble (c + T.size) st = true) (hrl : (e x).length = st) (hfl : w.cells.all AV.flat = true) (hy : putC (e x) c w.cells = row) :
    aStore P (hp h0 ids xs) t (.ptr (ix ids j) g i c) w = some (hp h0 ids (xs.set j (ownO v g st ((L.map e).set i row)))) := by
  have hlt := lt_of_get hx
  have := hv.isRef (by omega)
  subst this
  simp only [ownO] at hj ⊢
  rw [st_ptr hI hl hjn hj (by simp [hx] : (L.map e)[i]? = some (e x)) hT hok hlen hc hrl hfl, hy]
theorem st_ownRO {t : TypeId} {T : TI} {i c o o2 g2 n2 : Nat} {x : α} {w : AV} (row : List AV) (hw : OwnV w o2 g2 n2) (hI : Ids h0 ids N) (hl : xs.length = N) (hjn : Nat.blt j N = true) (hv : OwnV v o g L.length) (hj : xs[j]? = some (ownO v g st (L.map e))) (hx : L[i]? = some x)
    (hT : ti P t = some T) (hlen : Nat.beq 1 T.size = true) (hc : Nat.ble (c + T.size) st = true) (hrl : (e x).length = st) (hy : putC (e x) c [w] = row) :
    aStore P (hp h0 ids xs) t (.ptr (ix ids j) g i c) w = some (hp h0 ids (xs.set j (ownO v g st ((L.map e).set i row)))) :=
  st_ownR row hI hl hjn hv hj hx hT hw.ok (by rw [hw.cells]; exact Nat.eq_of_beq_eq_true hlen) hc hrl (by rw [hw.cells]; simp [hw.flat]) (by rw [hw.cells]; exact hy)
end

/-- As HL, and an element's row made content. -/
inductive HM (h h2 : AHeap) : List (Option AO) → List (Option AO) → Prop
  | nil : HM h h2 [] []
  | keep {x : Option AO} {xs ys : List (Option AO)} (r : HM h h2 xs ys) : HM h h2 (x :: xs) (x :: ys)
  | drop {x : Option AO} {xs ys : List (Option AO)} (r : HM h h2 xs ys) : HM h h2 (x :: xs) (none :: ys)
  | own {α : Type} {e : α → List AV} {L : List α} {v : AV} {g st i : Nat} {y : α} {row : List AV} {xs ys : List (Option AO)} (hr : ∀ x, RowOk st (e x)) (hz : LF h h2 row (e y)) (r : HM h h2 xs ys) :
      HM h h2 (ownO v g st ((L.map e).set i row) :: xs) (ownO v g st ((L.set i y).map e) :: ys)
theorem HM.get {h h2 : AHeap} {xs ys : List (Option AO)} (k : HM h h2 xs ys) : xs.length = ys.length ∧ ∀ (j : Nat) (y : AO), ys[j]? = some (some y) → ∃ x, xs[j]? = some (some x) ∧ AFz h h2 x y := by
  induction k with
  | nil => exact ⟨rfl, fun j y e => by simp at e⟩
  | keep r ih =>
    refine ⟨by simp [ih.1], fun j y e => ?_⟩
    cases j with
    | zero => simp only [List.getElem?_cons_zero, Option.some.injEq] at e; subst e; exact ⟨y, by simp, .same _⟩
    | succ j => simpa using ih.2 j y (by simpa using e)
  | drop r ih =>
    refine ⟨by simp [ih.1], fun j y e => ?_⟩
    cases j with
    | zero => simp at e
    | succ j => simpa using ih.2 j y (by simpa using e)
  | @own α e L v g st i y row xs ys hr hz r ih =>
    refine ⟨by simp [ih.1], fun j z hz' => ?_⟩
    cases j with
    | succ j => simpa using ih.2 j z (by simpa using hz')
    | zero =>
      simp only [List.getElem?_cons_zero, Option.some.injEq] at hz' ⊢
      have key : AFz h h2 (.rows g st ((L.map e).set i row)) (.rows g st ((L.set i y).map e)) := by
        refine .rows g st _ _ (by simp) (fun q hq => ?_) fun a b ha hb => ?_
        · obtain ⟨w, _, rfl⟩ := List.mem_map.1 hq
          exact hr w
        · rw [List.map_set]
          by_cases hia : i = a
          · subst hia
            have hlt : i < (L.map e).length := by simpa using ha
            simp only [cell]
            have e1 : ((L.map e).set i row).getD i [] = row := by rw [List.getD_eq_getElem?_getD, List.getElem?_set_self hlt]; rfl
            have e2 : ((L.map e).set i (e y)).getD i [] = e y := by rw [List.getD_eq_getElem?_getD, List.getElem?_set_self hlt]; rfl
            rw [e1, e2]
            exact hz.all.2 b (by rw [hz.all.1, (hr y).1]; exact hb)
          · simp only [cell]
            have e1 : ((L.map e).set i row).getD a [] = (L.map e).getD a [] := by simp [List.getD, List.getElem?_set_ne hia]
            have e2 : ((L.map e).set i (e y)).getD a [] = (L.map e).getD a [] := by simp [List.getD, List.getElem?_set_ne hia]
            rw [e1, e2]
            exact .same _
      unfold ownO at hz' ⊢
      split at hz'
      · cases hz'
      · rename_i hv
        cases hz'
        exact ⟨_, rfl, key⟩
theorem HM.hfz {h0 : AHeap} {ids : List Nat} {N : Nat} {xs ys : List (Option AO)} (hI : Ids h0 ids N) (hl : xs.length = N) (k : HM (hp h0 ids xs) (hp h0 ids ys) xs ys) : HFz (hp h0 ids xs) (hp h0 ids ys) := by
  intro o y e
  obtain ⟨k1, k2⟩ := k.get
  by_cases ho : o ∈ ids
  · obtain ⟨j, hj, rfl⟩ := List.mem_iff_getElem.1 ho
    have ej : ids[j] = ix ids j := by simp [ix, List.getD, hj]
    rw [ej] at e ⊢
    have hjl : j < ys.length := by rw [← k1, hl, ← hI.len]; exact hj
    have hy := hI.at (xs := ys) (j := j) (x := ys[j]) (by rw [← k1, hl]) (List.getElem?_eq_getElem hjl)
    rw [hy] at e
    obtain ⟨x, hx, hz⟩ := k2 j y (by rw [List.getElem?_eq_getElem hjl, e])
    exact ⟨x, hI.at hl hx, hz⟩
  · rw [hp_out ho] at e
    exact ⟨y, by rw [hp_out ho]; exact e, .same _⟩
section
variable {P : Program} [GW P] {f : FuncId} {n : Nat} {d : FK} {β : Type} {Q : Spec β} {m : R β} {ds : List AD} {u : AU} {k : List Item} {l : List (Nat × AV)} {all : List Oper}
variable {h0 : AHeap} {ids : List Nat} {xs : List (Option AO)} {N : Nat}
theorem wr_fm {todo : List Item} (ys : List (Option AO)) (l' : List (Nat × AV)) (hI : Ids h0 ids N) (hl : xs.length = N) (hx : HM (hp h0 ids xs) (hp h0 ids ys) xs ys) (hf : FrFz (hp h0 ids xs) (hp h0 ids ys) l l')
    (hr : WR P f n d Q m todo (frA l') ds (hp h0 ids ys) u) : WR P f n d Q m todo (frA l) ds (hp h0 ids xs) u := fun hb => run_fz (hx.hfz hI hl) hf.get (hr hb)
end
end Go.Am
