/- More steps: literals of slices, append of lists, make, results. -/
import Derived.Test.YtplndonhhfflhaaDcF
namespace Go.Am
open Go
set_option linter.unusedSimpArgs false
set_option linter.unusedVariables false
set_option linter.unusedSectionVars false

section
variable {P : Program} [GW P] {h : AHeap} {fr : Nat → AV}
theorem ares_nil : aRes P h fr [] = some [] := rfl
theorem ares_tmp {t : Nat} {r : List ResultVar} {vs : List AV} (hr : aRes P h fr r = some vs) : aRes P h fr (.tmp t :: r) = some (fr t :: vs) := by simp only [aRes, hr, Option.map_some]
theorem ares_cell {a : Nat} {t : TypeId} {r : List ResultVar} {v : AV} {vs : List AV} (hv : aLoad P h t (fr a) = some v) (hr : aRes P h fr r = some vs) : aRes P h fr (.cell a t :: r) = some (v :: vs) := by simp only [aRes, hr, hv]
theorem src_sl {α : Type} {e : α → List AV} {L : List α} {st n : Nat} {b : Bool} (hs : st = n) : srcRows P h n b (.sl st (L.map e)) = some (L.map e) := by simp only [srcRows, if_pos hs]
theorem src_emp {α : Type} {e : α → List AV} {n : Nat} {b : Bool} : srcRows P h n b .emp = some (([] : List α).map e) := rfl
theorem src_own {α : Type} {e : α → List AV} {L : List α} {st n o g : Nat} {b : Bool} {v : AV} (hv : OwnV v o g L.length) (ho : h o = ownO v g st (L.map e)) (hs : st = n) : srcRows P h n b v = some (L.map e) := by
  rcases hv with ⟨rfl, hn⟩ | rfl
  · have : L = [] := List.length_eq_zero_iff.1 hn
    subst this; rfl
  · simp only [ownO] at ho
    simp only [srcRows, ho]
    rw [if_pos ⟨trivial, hs, by simp⟩, List.drop_zero, List.take_of_length_le (by simp)]
end

section
variable {P : Program} [GW P] {f : FuncId} {n : Nat} {d : FK} {β : Type} {Q : Spec β} {m : R β} {ds : List AD} {u : AU} {k : List Item} {l : List (Nat × AV)}
variable {all r : List Oper} {ty : TypeId} {pos : String} {after : Array Edge}
variable {h0 : AHeap} {ids : List Nat} {xs : List (Option AO)} {N : Nat}
theorem wo_dropO {ops : List Oper} {fr : Nat → AV} (ys : List (Option AO)) (hI : Ids h0 ids N) (hl : xs.length = N) (hx : Drops xs ys) (hr : WO P f n d Q k all m ops fr ds (hp h0 ids ys) u) :
    WO P f n d Q k all m ops fr ds (hp h0 ids xs) u := fun hb i hi => run_sub (hx.sub (hI.len.trans hl.symm)) (hr hb i hi)
theorem wo_meet {ops : List Oper} {fr : Nat → AV} {h : AHeap} (i : Nat) (l' : List (Nat × AV)) (hk : WO P f n d Q k all m (ops.drop i) (frA l') ds h u) (hx : WO P f n d Q k all m (ops.drop i) (frA l') ds h u → WO P f n d Q k all m ops fr ds h u) : WO P f n d Q k all m ops fr ds h u := hx hk
section
variable {α : Type} {e : α → List AV} {L L2 : List α} {v : AV} {g st j : Nat}
theorem eff_append {sT xT et : TypeId} {a1 b1 a2 b2 : Nat} {z1 z2 : List AV} {E : TI} {s x : Operand} {K2 : TK} {fr : Nat → AV} {K : AV → AHeap → Prop} (hI : Ids h0 ids N) (hl : xs.length = N) (hjn : Nat.blt j N = true)
    (hs : ev fr s = v) (hv : OwnV v (ix ids j) g L.length) (hj : xs[j]? = some (ownO v g st (L.map e)))
    (hxv : srcRows P (hp h0 ids xs) E.size (decide (E.k = .int .u8)) (ev fr x) = some (L2.map e))
    (hS : ti P sT = some ⟨.sl et, a1, b1, z1⟩) (hX : ti P xT = some ⟨K2, a2, b2, z2⟩) (hK2 : K2.many = true) (hE : ti P et = some E) (hst : st = E.size) (hsz : Nat.blt 0 E.size = true) (hby : Nat.blt 0 E.bytes = true) (hlim : (L.length + L2.length) * E.bytes ≤ LIM)
    (hk : ∀ v' g', OwnV v' (ix ids j) g' (L ++ L2).length → K v' (hp h0 ids (xs.set j (ownO v' g' st ((L ++ L2).map e))))) :
    aop P fr (hp h0 ids xs) (.call ⟨.builtin .append, ⟨[s, x]⟩, ⟨[sT, xT]⟩⟩) K := by
  have hsz' : 0 < E.size := by simpa using hsz
  have hby' : 0 < E.bytes := by simpa using hby
  simp only [aop, aBuiltin, evs, List.map, aAppend, hS, hX, hE, hs, hxv, hK2, hsz', hby', true_and, List.length_map]
  rcases hv with ⟨rfl, hn⟩ | rfl
  · have : L = [] := List.length_eq_zero_iff.1 hn
    subst this
    by_cases h2 : L2.length = 0
    · have : L2 = [] := List.length_eq_zero_iff.1 h2
      subst this
      simp only [List.length_nil, if_true]
      have := hk .emp g (.inl ⟨rfl, rfl⟩)
      have e1 : xs.set j (ownO .emp g st (([] ++ [] : List α).map e)) = xs := by
        apply List.ext_getElem?
        intro i
        rw [List.getElem?_set]
        split
        · rename_i hq; subst hq
          split
          · exact hj.symm
          · rename_i hq; rw [List.getElem?_eq_none (by omega)]
        · rfl
      rw [e1] at this
      exact this
    · rw [if_neg h2]
      refine ⟨by simpa using hlim, new_intro (ix ids j) (hI.at hl hj) fun g' => ?_⟩
      rw [hI.set hl hjn]
      have := hk (.ref (ix ids j) g' 0 L2.length) g' (.inr (by simp))
      simp only [ownO, List.nil_append] at this
      rw [← hst]
      exact this
  · have ha := hI.at hl hj
    simp only [ownO] at ha
    simp only [ha]
    refine ⟨trivial, hst, by simp, hlim, fun g' => ?_⟩
    rw [hI.set hl hjn]
    have := hk (.ref (ix ids j) g' 0 (L.length + L2.length)) g' (.inr (by simp))
    simp only [ownO, List.map_append] at this
    have e1 : (List.drop 0 (List.map e L)).take L.length = List.map e L := by rw [List.drop_zero, List.take_of_length_le (by simp)]
    rw [e1]
    exact this
theorem wo_append {t : Nat} {sT xT et : TypeId} {a1 b1 a2 b2 : Nat} {z1 z2 : List AV} {E : TI} {s x : Operand} {K2 : TK} (hI : Ids h0 ids N) (hl : xs.length = N) (hjn : Nat.blt j N = true) (ht : Nat.blt t n = true)
    (hs : ev (frA l) s = v) (hv : OwnV v (ix ids j) g L.length) (hj : xs[j]? = some (ownO v g st (L.map e)))
    (hxv : srcRows P (hp h0 ids xs) E.size (decide (E.k = .int .u8)) (ev (frA l) x) = some (L2.map e))
    (hS : ti P sT = some ⟨.sl et, a1, b1, z1⟩) (hX : ti P xT = some ⟨K2, a2, b2, z2⟩) (hK2 : K2.many = true) (hE : ti P et = some E) (hst : st = E.size) (hsz : Nat.blt 0 E.size = true) (hby : Nat.blt 0 E.bytes = true) (hlim : (L.length + L2.length) * E.bytes ≤ LIM)
    (hk : ∀ v' g', OwnV v' (ix ids j) g' (L ++ L2).length → WO P f n d Q k all m r (frA ((t, v') :: l)) ds (hp h0 ids (xs.set j (ownO v' g' st ((L ++ L2).map e)))) u) :
    WO P f n d Q k all m (⟨some t, .call ⟨.builtin .append, ⟨[s, x]⟩, ⟨[sT, xT]⟩⟩, ty, pos, after, none⟩ :: r) (frA l) ds (hp h0 ids xs) u :=
  wo_op ht (fun _ _ => rfl) fun K hK => eff_append hI hl hjn hs hv hj hxv hS hX hK2 hE hst hsz hby hlim fun v' g' hv' => hK _ _ (hk v' g' hv')
theorem eff_bs0 {fr : Nat → AV} {K : AV → AHeap → Prop} {sT et : TypeId} {a1 b1 : Nat} {z1 : List AV} {E : TI} {h : AHeap} (hS : ti P sT = some ⟨.sl et, a1, b1, z1⟩) (hE : ti P et = some E)
    (hk : K .emp h) :
    aop P fr h (.buildSlice sT 0 ⟨[]⟩) K := by
  simp only [aop, aBuildSlice, hS, hE]
  rw [if_pos trivial]
  exact ⟨rfl, .inl hk⟩
theorem eff_bs0C {α : Type} {e : α → List AV} {fr : Nat → AV} {K : AV → AHeap → Prop} {sT et : TypeId} {a1 b1 st : Nat} {z1 : List AV} {E : TI} {h : AHeap} (hS : ti P sT = some ⟨.sl et, a1, b1, z1⟩) (hE : ti P et = some E) (hst : st = E.size) (hk : K (.sl st (([] : List α).map e)) h) :
    aop P fr h (.buildSlice sT 0 ⟨[]⟩) K := by
  simp only [aop, aBuildSlice, hS, hE]
  rw [if_pos trivial]
  subst hst
  exact ⟨rfl, .inr hk⟩
inductive RowSim : List AV → List AV → Prop
  | nil : RowSim [] []
  | cons {a b : AV} {l l' : List AV} (h : CellSim a b) (r : RowSim l l') : RowSim (a :: l) (b :: l')
inductive RowsSimL : List (List AV) → List (List AV) → Prop
  | nil : RowsSimL [] []
  | cons {a b : List AV} {l l' : List (List AV)} (h : RowSim a b) (r : RowsSimL l l') : RowsSimL (a :: l) (b :: l')
theorem RowSim.refl : ∀ l : List AV, RowSim l l
  | [] => .nil
  | a :: l => .cons (.same a) (RowSim.refl l)
theorem RowSim.get {l l' : List AV} (h : RowSim l l') : ∀ j, j < l.length → CellSim (l.getD j .und) (l'.getD j .und) := by
  induction h with
  | nil => intro j hj; simp at hj
  | cons h r ih =>
    intro j hj
    cases j with
    | zero => exact h
    | succ j => simpa using ih j (by simpa using hj)
theorem RowsSimL.sim {α : Type} {e : α → List AV} {L : List α} {st : Nat} {rows : List (List AV)} (h : RowsSimL rows (L.map e)) (hr : ∀ x, RowOk st (e x)) (hl : ∀ r ∈ rows, r.length = st) : RowsSim st rows (L.map e) := by
  have key : ∀ {rows rows' : List (List AV)}, RowsSimL rows rows' → rows'.length = rows.length ∧ ∀ i, i < rows.length → RowSim (rows.getD i []) (rows'.getD i []) := by
    intro rows rows' h
    induction h with
    | nil => exact ⟨rfl, fun i hi => by simp at hi⟩
    | cons h r ih =>
      refine ⟨by simp [ih.1], fun i hi => ?_⟩
      cases i with
      | zero => exact h
      | succ i => simpa using ih.2 i (by simpa using hi)
  obtain ⟨k1, k2⟩ := key h
  refine ⟨k1, fun r hr' => by obtain ⟨x, _, rfl⟩ := List.mem_map.1 hr'; exact hr x, fun i j hi hj => (k2 i hi).get j ?_⟩
  rw [hl _ (by rw [show rows.getD i [] = rows[i] by simp [List.getD, hi]]; exact List.getElem_mem hi)]
  exact hj
theorem eff_bsC {α : Type} {e : α → List AV} {L : List α} {st : Nat} {fr : Nat → AV} {K : AV → AHeap → Prop} {sT et : TypeId} {a1 b1 c : Nat} {z1 : List AV} {E : TI} {ps : List (Nat × Operand)} {h : AHeap} {rows : List (List AV)} (hS : ti P sT = some ⟨.sl et, a1, b1, z1⟩) (hE : ti P et = some E)
    (hc : Nat.beq c 0 = false) (hsz : Nat.blt 0 E.size = true) (hlim : Nat.ble (c * E.size) 16777216 = true) (hz : E.z.all AV.flat = true) (hf : fillRows E.size (List.replicate c E.z) (evp fr ps) = some rows) (hsim : RowsSimL rows (L.map e)) (hr : ∀ x, RowOk st (e x)) (hrl : rows.all (fun r => Nat.beq r.length st) = true) (hst : st = E.size)
    (hk : K (.sl st (L.map e)) h) : aop P fr h (.buildSlice sT c ⟨ps⟩) K := by
  have hc' : c ≠ 0 := fun q => by rw [q] at hc; cases hc
  have hsz' : 0 < E.size := by simpa using hsz
  have hlim' : c * E.size ≤ 2 ^ 24 := by simpa using hlim
  simp only [aop, aBuildSlice, hS, hE]
  rw [if_neg hc']
  refine ⟨hsz', hlim', hz, ?_⟩
  rw [hf]
  exact ⟨L.map e, hst ▸ hsim.sim hr fun r hr' => by simpa using List.all_eq_true.1 hrl r hr', .inl (hst ▸ hk)⟩
theorem wo_bs0C {α : Type} {e : α → List AV} {t : Nat} {sT et : TypeId} {a1 b1 st : Nat} {z1 : List AV} {E : TI} {h : AHeap} (ht : Nat.blt t n = true) (hS : ti P sT = some ⟨.sl et, a1, b1, z1⟩) (hE : ti P et = some E) (hst : st = E.size)
    (hk : WO P f n d Q k all m r (frA ((t, .sl st (([] : List α).map e)) :: l)) ds h u) : WO P f n d Q k all m (⟨some t, .buildSlice sT 0 ⟨[]⟩, ty, pos, after, none⟩ :: r) (frA l) ds h u :=
  wo_op ht (fun _ _ => rfl) fun K hK => eff_bs0C hS hE hst (hK _ _ hk)
theorem wo_bsC {α : Type} {e : α → List AV} {L : List α} {st t : Nat} {sT et : TypeId} {a1 b1 c : Nat} {z1 : List AV} {E : TI} {ps : List (Nat × Operand)} {h : AHeap} {rows : List (List AV)} (ht : Nat.blt t n = true) (hS : ti P sT = some ⟨.sl et, a1, b1, z1⟩) (hE : ti P et = some E)
    (hc : Nat.beq c 0 = false) (hsz : Nat.blt 0 E.size = true) (hlim : Nat.ble (c * E.size) 16777216 = true) (hz : E.z.all AV.flat = true) (hf : fillRows E.size (List.replicate c E.z) (evp (frA l) ps) = some rows) (hsim : RowsSimL rows (L.map e)) (hr : ∀ x, RowOk st (e x)) (hrl : rows.all (fun r => Nat.beq r.length st) = true) (hst : st = E.size)
    (hk : WO P f n d Q k all m r (frA ((t, .sl st (L.map e)) :: l)) ds h u) : WO P f n d Q k all m (⟨some t, .buildSlice sT c ⟨ps⟩, ty, pos, after, none⟩ :: r) (frA l) ds h u :=
  wo_op ht (fun _ _ => rfl) fun K hK => eff_bsC hS hE hc hsz hlim hz hf hsim hr hrl hst (hK _ _ hk)
theorem wo_bs0 {t : Nat} {sT et : TypeId} {a1 b1 : Nat} {z1 : List AV} {E : TI} {h : AHeap} (ht : Nat.blt t n = true) (hS : ti P sT = some ⟨.sl et, a1, b1, z1⟩) (hE : ti P et = some E)
    (hk : WO P f n d Q k all m r (frA ((t, .emp) :: l)) ds h u) : WO P f n d Q k all m (⟨some t, .buildSlice sT 0 ⟨[]⟩, ty, pos, after, none⟩ :: r) (frA l) ds h u :=
  wo_op ht (fun _ _ => rfl) fun K hK => eff_bs0 hS hE (hK _ _ hk)
theorem eff_bs {fr : Nat → AV} {K : AV → AHeap → Prop} {sT et : TypeId} {a1 b1 c : Nat} {z1 : List AV} {E : TI} {ps : List (Nat × Operand)} (hI : Ids h0 ids N) (hl : xs.length = N) (hjn : Nat.blt j N = true) (hj : xs[j]? = some none) (hS : ti P sT = some ⟨.sl et, a1, b1, z1⟩) (hE : ti P et = some E)
    (hc : Nat.beq c 0 = false) (hsz : Nat.blt 0 E.size = true) (hlim : Nat.ble (c * E.size) 16777216 = true) (hz : E.z.all AV.flat = true) {rows : List (List AV)} (hf : fillRows E.size (List.replicate c E.z) (evp fr ps) = some rows) (hsim : RowsSimL rows (L.map e)) (hr : ∀ x, RowOk st (e x)) (hrl : rows.all (fun r => Nat.beq r.length st) = true) (hL : L.length = c) (hst : st = E.size)
    (hk : ∀ v' g', OwnV v' (ix ids j) g' L.length → K v' (hp h0 ids (xs.set j (ownO v' g' st (L.map e))))) :
    aop P fr (hp h0 ids xs) (.buildSlice sT c ⟨ps⟩) K := by
  have hc' : c ≠ 0 := fun q => by rw [q] at hc; cases hc
  have hsz' : 0 < E.size := by simpa using hsz
  have hlim' : c * E.size ≤ 2 ^ 24 := by simpa using hlim
  simp only [aop, aBuildSlice, hS, hE]
  rw [if_neg hc']
  refine ⟨hsz', hlim', hz, ?_⟩
  rw [hf]
  refine ⟨L.map e, hst ▸ hsim.sim hr fun r hr' => by simpa using List.all_eq_true.1 hrl r hr', .inr ?_⟩
  refine new_intro (ix ids j) (hI.at hl hj) fun g' => ?_
  rw [hI.set hl hjn]
  have := hk (.ref (ix ids j) g' 0 c) g' (.inr (by rw [hL]))
  simp only [ownO] at this
  rw [← hst]
  exact this
theorem wo_bs {t : Nat} {sT et : TypeId} {a1 b1 c : Nat} {z1 : List AV} {E : TI} {ps : List (Nat × Operand)} (hI : Ids h0 ids N) (hl : xs.length = N) (hjn : Nat.blt j N = true) (hj : xs[j]? = some none) (ht : Nat.blt t n = true) (hS : ti P sT = some ⟨.sl et, a1, b1, z1⟩) (hE : ti P et = some E)
    (hc : Nat.beq c 0 = false) (hsz : Nat.blt 0 E.size = true) (hlim : Nat.ble (c * E.size) 16777216 = true) (hz : E.z.all AV.flat = true) {rows : List (List AV)} (hf : fillRows E.size (List.replicate c E.z) (evp (frA l) ps) = some rows) (hsim : RowsSimL rows (L.map e)) (hr : ∀ x, RowOk st (e x)) (hrl : rows.all (fun r => Nat.beq r.length st) = true) (hL : L.length = c) (hst : st = E.size)
    (hk : ∀ v' g', OwnV v' (ix ids j) g' L.length → WO P f n d Q k all m r (frA ((t, v') :: l)) ds (hp h0 ids (xs.set j (ownO v' g' st (L.map e)))) u) :
    WO P f n d Q k all m (⟨some t, .buildSlice sT c ⟨ps⟩, ty, pos, after, none⟩ :: r) (frA l) ds (hp h0 ids xs) u :=
  wo_op ht (fun _ _ => rfl) fun K hK => eff_bs hI hl hjn hj hS hE hc hsz hlim hz hf hsim hr hrl hL hst fun v' g' hv' => hK _ _ (hk v' g' hv')
theorem eff_make {fr : Nat → AV} {K : AV → AHeap → Prop} {sT et : TypeId} {a1 b1 : Nat} {z1 : List AV} {E : TI} {ln cp : Operand} {i c : Int} {ki kc : IntKind} {y : α} (hI : Ids h0 ids N) (hl : xs.length = N) (hjn : Nat.blt j N = true) (hj : xs[j]? = some none) (hS : ti P sT = some ⟨.sl et, a1, b1, z1⟩) (hE : ti P et = some E)
    (h1 : ev fr ln = .int ki i) (h2 : ev fr cp = .int kc c) (hi : 0 ≤ i) (hic : i ≤ c) (hlim : c.toNat * E.bytes ≤ LIM) (hsz : Nat.blt 0 E.size = true) (hby : Nat.blt 0 E.bytes = true) (hz : E.z.all AV.flat = true) (hy : E.z = e y) (hst : st = E.size)
    (hk : ∀ v' g', OwnV v' (ix ids j) g' (List.replicate i.toNat y).length → K v' (hp h0 ids (xs.set j (ownO v' g' st ((List.replicate i.toNat y).map e))))) :
    aop P fr (hp h0 ids xs) (.makeSlice sT ln cp) K := by
  have hsz' : 0 < E.size := by simpa using hsz
  have hby' : 0 < E.bytes := by simpa using hby
  simp only [aop, aMake, hS, hE, h1, h2]
  refine ⟨hsz', hby', hz, hi, hic, hlim, new_intro (ix ids j) (hI.at hl hj) fun g' => ?_⟩
  rw [hI.set hl hjn]
  have := hk (.ref (ix ids j) g' 0 i.toNat) g' (.inr (by simp))
  simp only [ownO, List.map_replicate] at this
  rw [hy, ← hst]
  exact this
theorem wo_make {t : Nat} {sT et : TypeId} {a1 b1 : Nat} {z1 : List AV} {E : TI} {ln cp : Operand} {i c : Int} {ki kc : IntKind} {y : α} (hI : Ids h0 ids N) (hl : xs.length = N) (hjn : Nat.blt j N = true) (hj : xs[j]? = some none) (ht : Nat.blt t n = true) (hS : ti P sT = some ⟨.sl et, a1, b1, z1⟩) (hE : ti P et = some E)
    (h1 : ev (frA l) ln = .int ki i) (h2 : ev (frA l) cp = .int kc c) (hi : 0 ≤ i) (hic : i ≤ c) (hlim : c.toNat * E.bytes ≤ LIM) (hsz : Nat.blt 0 E.size = true) (hby : Nat.blt 0 E.bytes = true) (hz : E.z.all AV.flat = true) (hy : E.z = e y) (hst : st = E.size)
    (hk : ∀ v' g', OwnV v' (ix ids j) g' (List.replicate i.toNat y).length → WO P f n d Q k all m r (frA ((t, v') :: l)) ds (hp h0 ids (xs.set j (ownO v' g' st ((List.replicate i.toNat y).map e)))) u) :
    WO P f n d Q k all m (⟨some t, .makeSlice sT ln cp, ty, pos, after, none⟩ :: r) (frA l) ds (hp h0 ids xs) u :=
  wo_op ht (fun _ _ => rfl) fun K hK => eff_make hI hl hjn hj hS hE h1 h2 hi hic hlim hsz hby hz hy hst fun v' g' hv' => hK _ _ (hk v' g' hv')
end
end

/-! ### Regions whose order is open -/
section
variable {P : Program} [GW P] {f : FuncId} {n : Nat} {d : FK} {β γ : Type} {Q : Spec β} {m : R β} {fr : Nat → AV} {ds : List AD} {h : AHeap} {u : AU} {k : List Item} {l : List (Nat × AV)} {F : γ → R β}
def WP (P : Program) [GW P] (f : FuncId) (n : Nat) (d : FK) (Q : Spec β) (k : List Item) (all : List Oper) (pre : List (List Nat)) (m : R β) (plan : Plan) (pend : Pend) (fr : Nat → AV) (ds : List AD) (h : AHeap) (u : AU) : Prop :=
  Q.V m → ∀ (K : KT) (U : AV → KT), Going P f n d k (Q.Q m) K U → aPlan P n d all pre K U plan pend fr ds h u
theorem wr_draw {id : Nat} {ops : List Oper} (hm : P.follows .mixedOrders = true) (pre : List (List Nat)) (plan : Plan) (hp : planOk ops pre plan = true) (hx : WP P f n d Q k ops pre m plan [] fr ds h u) :
    WR P f n d Q m (.code (.region id ⟨ops⟩ true) :: k) fr ds h u := fun hb => run_any hm pre plan hp fun K U hK => hx hb K U hK
/-- Effects in whichever order: the model is the same. -/
theorem wr_drawT {id : Nat} {ops : List Oper} (hm : P.follows .mixedOrders = true) (T : DT) (hT : T.ok ops [] = true) (hx : T.each fun pre plan => WP P f n d Q k ops pre m plan [] fr ds h u) :
    WR P f n d Q m (.code (.region id ⟨ops⟩ true) :: k) fr ds h u := fun hb => run_anyT hm T hT fun K U hK => T.mono (fun pre plan hw => hw hb K U hK) hx
theorem dt_leaf {p : List (List Nat) → Plan → Prop} {pre : List (List Nat)} {plan : Plan} (h : p pre plan) : DT.each p (.leaf pre plan) := h
theorem dt_node {p : List (List Nat) → Plan → Prop} {i j : Nat} {A B : DT} (h1 : A.each p) (h2 : B.each p) : DT.each p (.node i j A B) := ⟨h1, h2⟩
section
variable {all : List Oper} {pre : List (List Nat)} {plan : Plan} {pend : Pend} {ty : TypeId} {pos : String} {after : Array Edge} {i : Nat}
theorem wp_nil (hr : WR P f n d Q m k fr ds h u) : WP P f n d Q k all pre m [] pend fr ds h u := fun hb K U hK => hK.run _ _ _ _ (hr hb)
theorem wp_val {t : Nat} {op : Op} (v : AV) (ho : all[i]? = some ⟨some t, op, ty, pos, after, none⟩) (ht : Nat.blt t n = true) (hv : aPure P (frA l) h op = some v) (hk : WP P f n d Q k all pre m plan ((i, frA l, v) :: pend) (frA ((t, v) :: l)) ds h u) :
    WP P f n d Q k all pre m ((false, i) :: plan) pend (frA l) ds h u := by
  intro hb K U hK
  simp only [aPlan, ho]
  refine ⟨by simpa [dstOk] using ht, ?_⟩
  have e : aF P all (frA l) h ⟨some t, op, ty, pos, after, none⟩ = some v := by simp only [aF, aWanted, hv]
  rw [e]
  simp only [putD_frA]
  exact hk hb K U hK
theorem wp_eq {m' : R β} (e : m = m') (hr : WP P f n d Q k all pre m' plan pend fr ds h u) : WP P f n d Q k all pre m plan pend fr ds h u := e ▸ hr
theorem op_idx {α : Type} {L : List α} {ii : Int} {rest : α → R γ} (hk : ∀ a, 0 ≤ ii → L[ii.toNat]? = some a → WP P f n d Q k all pre ((rest a).bind F) plan pend fr ds h u) : WP P f n d Q k all pre (((idx L ii).bind rest).bind F) plan pend fr ds h u := by
  refine wp_eq (R.bind_assoc _ _ _) fun hb => ?_
  unfold idx at hb ⊢
  by_cases h0 : 0 ≤ ii
  · rw [if_pos h0] at hb ⊢
    cases hq : L[ii.toNat]? with
    | none => rw [hq] at hb; exact absurd hb Q.bad
    | some a => rw [hq] at hb; exact hk a h0 hq hb
  · rw [if_neg h0] at hb; exact absurd hb Q.bad
theorem op_need {p : Prop} [Decidable p] {rest : R γ} (hk : p → WP P f n d Q k all pre (rest.bind F) plan pend fr ds h u) : WP P f n d Q k all pre ((if p then rest else .bad).bind F) plan pend fr ds h u := by
  intro hb
  by_cases hp : p
  · rw [if_pos hp] at hb ⊢; exact hk hp hb
  · rw [if_neg hp] at hb; exact absurd hb Q.bad
end
end
section
variable {P : Program} [GW P] {t : TypeId}
theorem bin_quo {k k' : IntKind} {a b : Int} (hk : k = k') (hb : b ≠ 0) : aBin P .quo t (.int k a) (.int k' b) = some (.int k (k.wrap (a.tdiv b))) := by simp only [aBin, if_pos (And.intro hk hb)]
theorem bin_rem {k k' : IntKind} {a b : Int} (hk : k = k') (hb : b ≠ 0) : aBin P .rem t (.int k a) (.int k' b) = some (.int k (a.tmod b)) := by simp only [aBin, if_pos (And.intro hk hb)]
theorem bin_cat {a b : List UInt8} (hl : a.length + b.length ≤ 9223372036854775807) : aBin P .add t (.str a) (.str b) = some (.str (a ++ b)) := by simp only [aBin, if_pos hl]
theorem bin_beq {a b : Bool} {s by' : Nat} {z : List AV} (hT : ti P t = some ⟨.bool, s, by', z⟩) : aBin P .eql t (.bool a) (.bool b) = some (.bool (a == b)) := by simp only [aBin, aEq0, hT, Option.map_some]
theorem bin_bne {a b : Bool} {s by' : Nat} {z : List AV} (hT : ti P t = some ⟨.bool, s, by', z⟩) : aBin P .neq t (.bool a) (.bool b) = some (.bool (!(a == b))) := by simp only [aBin, aEq0, hT, Option.map_some]
theorem bin_ifn {v : AV} {s by' t' : Nat} {z : List AV} (hT : ti P t = some ⟨.ifc, s, by', z⟩) : aBin P .eql t (.iface t' v) .nili = some (.bool false) := by simp only [aBin, aEq0, hT, Option.map_some]
theorem bin_ifnn {v : AV} {s by' t' : Nat} {z : List AV} (hT : ti P t = some ⟨.ifc, s, by', z⟩) : aBin P .neq t (.iface t' v) .nili = some (.bool true) := by simp only [aBin, aEq0, hT, Option.map_some]; rfl
end
theorem ixa_ownn {α : Type} {P : Program} [GW P] {h0 : AHeap} {ids : List Nat} {xs : List (Option AO)} {N j g st : Nat} {e : α → List AV} {L : List α} {v : AV} {t et : TypeId} {a b : Nat} {z : List AV} {E : TI} {ki : IntKind} {i : Nat} {x : α} (hI : Ids h0 ids N) (hl : xs.length = N) (hv : OwnV v (ix ids j) g L.length) (hj : xs[j]? = some (ownO v g st (L.map e)))
    (hT : ti P t = some ⟨.sl et, a, b, z⟩) (hE : ti P et = some E) (hs : st = E.size) (hx : L[i]? = some x) : aIndexAddr P (hp h0 ids xs) t v (.int ki (i : Int)) = some (.ptr (ix ids j) g i 0) := by
  have := ixa_own (ki := ki) (i := (i : Int)) (x := x) hI hl hv hj hT hE hs (by omega) (by simpa using hx)
  simpa using this
end Go.Am
