/- append, slice literals, make: abstractly, and their laws. -/
import Derived.Test.YtplndonhhfflhaaAmRows
namespace Go.Am
open Go
set_option linter.unusedSimpArgs false
set_option linter.unusedVariables false
set_option linter.unusedSectionVars false

def TK.many : TK → Bool
  | .sl _ => true
  | .str => true
  | _ => false
def aAppend (P : Program) (h : AHeap) (sT xT : TypeId) (s x : AV) (K : AV → AHeap → Prop) : Prop :=
  match ti P sT, ti P xT with
  | some S, some X => match S.k with
    | .sl e => match ti P e with
      | some E => X.k.many = true ∧ 0 < E.size ∧ 0 < E.bytes ∧ match srcRows P h E.size (decide (E.k = .int .u8)) x with
        | some src => match s with
          | .emp => if src.length = 0 then K .emp h else src.length * E.bytes ≤ LIM ∧ aNew h E.size src (fun o g h' => K (.ref o g 0 src.length) h')
          | .ref o g off len => match h o with
            | some (.rows g' st rs) => g' = g ∧ st = E.size ∧ off + len ≤ rs.length ∧ (len + src.length) * E.bytes ≤ LIM ∧ ∀ g2, K (.ref o g2 0 (len + src.length)) (upd h o (some (.rows g2 st ((rs.drop off).take len ++ src))))
            | _ => False
          | _ => False
        | none => False
      | none => False
    | _ => False
  | _, _ => False

section
variable {P : Program} [GW P] {B : Base P} {h : AHeap} {mu : Mu} {w : World}

theorem many_desc {xT : TypeId} {X : TI} (hX : ti P xT = some X) (hm : X.k.many = true) : ∃ d, P.underlying xT = some d ∧ ((∃ e, d = .slice e) ∨ d = .string) := by
  obtain ⟨d, h1, h2⟩ := ti_und hX
  refine ⟨d, h1, ?_⟩
  rw [h2] at hm
  cases d <;> simp [TK.of, TK.many] at hm
  · exact .inr rfl
  · exact .inl ⟨_, rfl⟩

theorem run_app_fits {sT xT ty e : TypeId} {dX : TypeDesc} {i : TypeInfo} {base : Option Addr} {sLen sCap n : Nat} {c : Value} {news : List Value} (hS : P.underlying sT = some (.slice e)) (hdX : P.underlying xT = some dX) (hX : (∃ e, dX = .slice e) ∨ dX = .string)
    (hi : P.info? e = some i) (hlen : ∀ w', (Builtin.lenOf c).run P w' = .ok n w') (hnew : (Builtin.firstCells i.size n c).run P w = .ok news.toArray w) (hroom : sLen + n ≤ sCap) :
    (Builtin.append_ #[sT, xT] ty #[.slice base sLen sCap, c]).run P w =
      ((match base with | some a => storeCells (a.add (sLen * i.size)) news | none => pure ()) >>= fun _ => (pure (.slice base (sLen + n) sCap) : Sem Value)).run P w := by
  rcases hX with ⟨e2, rfl⟩ | rfl
  · cases base <;> simp [Builtin.append_, run_underlying hS, run_underlying hdX, sizeOf, typeInfo, hi, hlen, hnew, hroom]
  · cases base <;> simp [Builtin.append_, run_underlying hS, run_underlying hdX, sizeOf, typeInfo, hi, hlen, hnew, hroom]

theorem run_app_grows {sT xT ty e : TypeId} {dX : TypeDesc} {i : TypeInfo} {z : Value} {base : Option Addr} {sLen sCap n : Nat} {c : Value} {olds news : List Value} (hS : P.underlying sT = some (.slice e)) (hdX : P.underlying xT = some dX) (hX : (∃ e, dX = .slice e) ∨ dX = .string)
    (hi : P.info? e = some i) (hz : i.zero = some z) (hlen : ∀ w', (Builtin.lenOf c).run P w' = .ok n w') (hnew : ∀ w', w'.heap = w.heap → (Builtin.firstCells i.size n c).run P w' = .ok news.toArray w')
    (hold : ∀ w', w'.heap = w.heap → (Builtin.firstCells i.size sLen (.slice base sLen sCap)).run P w' = .ok olds.toArray w') (hg : sCap < sLen + n) (hb : (sLen + n) * i.bytes ≤ 140737488355328) (hb0 : 0 < i.bytes) :
    (Builtin.append_ #[sT, xT] ty #[.slice base sLen sCap, c]).run P w =
      .ok (.slice (some ⟨w.heap.size, 0, none⟩) (sLen + n) (grownCap w (sLen + n) sCap e))
        (w.drew.alloc (.cells (olds.toArray ++ news.toArray ++ Builtin.zeroCells z.cells (grownCap w (sLen + n) sCap e - (sLen + n))) e)) := by
  have hn : ¬ (sLen + n ≤ sCap) := by omega
  have hle : sLen + n ≤ (sLen + n) * i.bytes := Nat.le_mul_of_pos_right _ hb0
  have h63' : ¬ (9223372036854775807 < ((sLen : Int) + (n : Int))) := by omega
  have h48 := growslice_fits hg hb
  have h48' : ¬ (281474976710656 < Builtin.nextslicecap (sLen + n) sCap * i.bytes) := by omega
  have hf := hnew w.drew rfl
  have hfo := hold w.drew rfl
  rcases hX with ⟨e2, rfl⟩ | rfl
  · simp [Builtin.append_, run_underlying hS, run_underlying hdX, sizeOf, typeInfo, zeroValue, hi, hz, hlen, hn, h63', h48', Question.forced, hf, hfo, newRow, grownCap]
    congr 2
    apply Array.ext'
    simp [List.append_assoc]
  · simp [Builtin.append_, run_underlying hS, run_underlying hdX, sizeOf, typeInfo, zeroValue, hi, hz, hlen, hn, h63', h48', Question.forced, hf, hfo, newRow, grownCap]
    congr 2
    apply Array.ext'
    simp [List.append_assoc]

theorem cell_append {a b : List (List AV)} (i j : Nat) : cell (a ++ b) i j = if i < a.length then cell a i j else cell b (i - a.length) j := by
  unfold cell
  split
  · rename_i hi; simp [List.getD, List.getElem?_append_left hi]
  · rename_i hi; simp [List.getD, List.getElem?_append_right (Nat.le_of_not_lt hi)]

theorem size_zc (z : Array Value) (n : Nat) : (Builtin.zeroCells z n).size = n * z.size := by simp [Builtin.zeroCells]

theorem append_sound (s : Sim B mu h w) {sT xT ty : TypeId} {sv x : AV} {cs cx : Value} {K : AV → AHeap → Prop} (hs : RV h mu w sv cs) (hx : RV h mu w x cx) (hK : aAppend P h sT xT sv x K) :
    ∃ v c h' mu' w', (Builtin.append_ #[sT, xT] ty #[cs, cx]).run P w = .ok c w' ∧ RV h' mu' w' v c ∧ K v h' ∧ Sim B mu' h' w' ∧ EXT h mu w h' mu' w' := by
  unfold aAppend at hK
  split at hK
  · rename_i S X hS hX
    split at hK
    · rename_i e hk
      split at hK
      · rename_i E hE
        obtain ⟨hm, hsz, hby, hK⟩ := hK
        obtain ⟨dX, hdX, hX'⟩ := many_desc hX hm
        obtain ⟨dS, hdS, hkS⟩ := ti_und hS
        have := of_sl (hk ▸ hkS); subst this
        obtain ⟨dE, iE, z, e1, e2, e3, e4, e5, e6, e7, e8, e9, e10⟩ := ti_spec hE
        obtain ⟨zl, _⟩ := avList_rv (w := w) (mu := mu) (M := Mut h mu) e4
        have hzs : z.cells.size = iE.size := by rw [← e7, ← e5, zl]; simp
        split at hK
        · rename_i src hsrc
          obtain ⟨hlen, news, n1, n2, n3, n4⟩ := src_sound (P := P) s hx hsrc
          rw [e7] at hsz n1 n2 n3 n4
          rw [e8] at hby
          split at hK
          · cases hs with
            | emp a =>
              split at hK
              · rename_i h0
                have hnil : src = [] := List.eq_nil_of_length_eq_zero h0
                have hnn : news = [] := List.eq_nil_of_length_eq_zero (by rw [n1, h0]; simp)
                refine ⟨.emp, .slice a 0 0, h, mu, w, ?_, .emp _, hK, s, Ext.refl _ _ _⟩
                rw [run_app_fits hdS hdX hX' e2 hlen (n2 w rfl) (by omega), h0, hnn]
                cases a <;> simp [storeCells]
              · rename_i h0
                obtain ⟨hlim, hnew⟩ := hK
                rw [e8] at hlim
                rw [e7] at hnew
                have hfo : ∀ w', w'.heap = w.heap → (Builtin.firstCells iE.size 0 (.slice a 0 0)).run P w' = .ok (([] : List Value)).toArray w' := by
                  intro w' _; cases a <;> simp [Builtin.firstCells, loadCells, loadCellsFrom]
                have hrun := run_app_grows (P := P) (ty := ty) (w := w) hdS hdX hX' e2 e3 hlen n2 hfo (by omega) (by simpa [LIM] using hlim) hby
                have hd := s.drew
                obtain ⟨o, g, mu', m1, m2, m3, m4⟩ := new_sound (base := 0) (e := e) (cells := (([] : List Value).toArray ++ news.toArray ++ Builtin.zeroCells z.cells (grownCap w (0 + src.length) 0 e - (0 + src.length)))) hd.1 hnew
                  (by simp [n1]) n3
                  (by
                    intro i j hi hj
                    have hk := idx_in (st := iE.size) hi hj
                    refine ⟨news.getD (i * iE.size + j) undef, ?_, (n4 i j hi hj).ext hd.2⟩
                    have hk' : i * iE.size + j < news.length := by rw [n1]; exact hk
                    obtain ⟨y, hy⟩ : ∃ y, news[i * iE.size + j]? = some y := ⟨_, List.getElem?_eq_getElem hk'⟩
                    rw [getD_of hy, Nat.zero_add]
                    simp only [List.append_toArray, List.nil_append]
                    rw [Array.getElem?_append_left (by simpa using hk')]
                    simpa using hy)
                refine ⟨_, _, _, mu', _, hrun, ?_, m2, m3, hd.2.trans m4⟩
                have hcap : src.length ≤ grownCap w (0 + src.length) 0 e := by have := grownCap_ge w (0 + src.length) 0 e; omega
                have := Rv.ref (w := w.drew.alloc (.cells (([] : List Value).toArray ++ news.toArray ++ Builtin.zeroCells z.cells (grownCap w (0 + src.length) 0 e - (0 + src.length))) e)) (M := Mut (upd h o (some (.rows g iE.size src))) mu') o g 0 src.length (grownCap w (0 + src.length) 0 e) _ m1 rfl hcap (Nat.le_trans (Nat.le_mul_of_pos_right _ hby) hlim) (by
                  simp only [Array.size_append, List.size_toArray, List.length_nil, size_zc, hzs, n1, Nat.zero_add] at hcap ⊢
                  rw [← Nat.add_mul]
                  exact Nat.le_of_eq (by congr 1; omega))
                simpa using this
          · rename_i o g off len
            split at hK
            · rename_i g' st rs hh
              obtain ⟨rfl, rfl, hle, hlim, hK⟩ := hK
              rw [e8] at hlim
              cases hs with
              | ref _ _ _ _ cap l hl hcl hcap hcl0 hcsz =>
                obtain ⟨l', cells, e', f, k1, k2, k3, k4, k5, k6, k7, k8, k9⟩ := s.obj hh
                rw [hl] at k1; cases k1
                rw [e7] at k3 k4 k5 k9
                have hrl : ((rs.drop off).take len).length = len := by simp; omega
                have hcr : ∀ i j, i < len → cell ((rs.drop off).take len) i j = cell rs (off + i) j := by
                  intro i j hi
                  simp [cell, List.getD, List.getElem?_take, hi, List.getElem?_drop]
                have hok : ∀ r ∈ (rs.drop off).take len ++ src, RowOk iE.size r := by
                  intro r hr
                  rcases List.mem_append.1 hr with hr | hr
                  · exact k5 r (List.mem_of_mem_drop (List.mem_of_mem_take hr))
                  · exact n3 r hr
                obtain ⟨g2, hg2⟩ := s.fresh o
                by_cases hroom : len + src.length ≤ cap
                · -- in place
                  have hone : ∀ u ∈ news, u.oneCell' = true := by
                    intro u hu
                    obtain ⟨k, hk, rfl⟩ := List.mem_iff_getElem.1 hu
                    rw [n1] at hk
                    obtain ⟨d1, d2, d3⟩ := divmod_row hk
                    have hr := n4 _ _ d1 d2
                    rw [d3, getD_of (List.getElem?_eq_getElem (by rw [n1]; exact hk))] at hr
                    refine hr.one ?_
                    have hrow := n3 _ (List.getElem_mem d1)
                    have hcell : cell src (k / iE.size) (k % iE.size) = (src[k / iE.size])[k % iE.size]'(by rw [hrow.1]; exact d2) := by
                      simp [cell, List.getD, d1, hrow.1, d2]
                    rw [hcell]
                    exact hrow.2 _ (List.getElem_mem _)
                  have hbound : l.base + off * iE.size + len * iE.size + news.length ≤ l.size := by
                    rw [n1]
                    rw [k3] at hcsz
                    have := Nat.mul_le_mul_right iE.size (show off + (len + src.length) ≤ off + cap by omega)
                    rw [Nat.add_mul, Nat.add_mul, ← Nat.add_assoc] at this
                    omega
                  have hrunS := run_storeCells_cells (P := P) l.b (l.base + off * iE.size + len * iE.size) news 0 w
                    (fun j hj => by
                      rw [Nat.add_zero]
                      unfold World.cell?
                      rw [k6]
                      simp [k7, show l.base + off * iE.size + len * iE.size + j < l.size by omega])
                    (fun j hj => by
                      rw [Nat.add_zero]
                      unfold World.frozen?
                      rw [k6]
                      have := k8 (l.base + off * iE.size + len * iE.size + j) (by omega)
                      cases hq : (decide (f.1 ≤ l.base + off * iE.size + len * iE.size + j) && decide (l.base + off * iE.size + len * iE.size + j < f.2)) with
                      | false => exact hq
                      | true =>
                        simp only [Bool.and_eq_true, decide_eq_true_eq] at hq
                        exact absurd hq this) hone
                  obtain ⟨cells', q1, q2, q3, q4, q5, q6, q7, q8, q9⟩ := setCells_heap l.b news (l.base + off * iE.size + len * iE.size) w cells e' f k6 (by rw [k7]; exact hbound)
                  have hput := Sim.put (rs' := (rs.drop off).take len ++ src) (l' := ⟨l.b, l.base + off * iE.size, iE.size, l.size, true⟩) (g' := g2) s hh hl q7 q8 q9 q6 q5 q1 (by rw [q2, k7]) k8 (.inr hg2) rfl rfl rfl
                    (by
                      simp only [List.length_append, hrl]
                      rw [Nat.add_mul]
                      rw [n1] at hbound
                      omega)
                    hok
                    (by
                      intro i j hi hj
                      simp only [List.length_append, hrl] at hi hj ⊢
                      rw [cell_append, hrl]
                      split
                      · rename_i hil
                        rw [hcr i j hil]
                        obtain ⟨y, hy1, hy2⟩ := k9 (off + i) j (by omega) hj
                        refine ⟨y, ?_, hy2⟩
                        have := idx_in (st := iE.size) hil hj
                        rw [q4 _ (by omega), ← hy1]
                        congr 1
                        rw [Nat.add_mul]
                        omega
                      · rename_i hil
                        have hi2 : i - len < src.length := by omega
                        have hk := idx_in (st := iE.size) hi2 hj
                        refine ⟨news.getD ((i - len) * iE.size + j) undef, ?_, n4 _ _ hi2 hj⟩
                        have hk' : (i - len) * iE.size + j < news.length := by rw [n1]; exact hk
                        obtain ⟨y, hy⟩ : ∃ y, news[(i - len) * iE.size + j]? = some y := ⟨_, List.getElem?_eq_getElem hk'⟩
                        rw [getD_of hy, ← hy, ← q3 _ hk']
                        congr 1
                        have : i * iE.size = len * iE.size + (i - len) * iE.size := by rw [← Nat.add_mul]; congr 1; omega
                        omega)
                  have hKg := hK g2
                  rw [e7] at hKg
                  refine ⟨_, .slice (some ⟨l.b, l.base + off * l.st, none⟩) (len + src.length) cap, _, _, w.setCells l.b (l.base + off * iE.size + len * iE.size) news, ?_, ?_, hKg, hput.1, hput.2⟩
                  · rw [run_app_fits hdS hdX hX' e2 hlen (n2 w rfl) hroom]
                    simp only [Sem.run_bind, add_mk, k3, hrunS, Nat.add_zero, Result.andThen_ok, Sem.run_pure]
                  · have := Rv.ref (w := w.setCells l.b (l.base + off * iE.size + len * iE.size) news) (mu := upd2 mu o g2 ⟨l.b, l.base + off * iE.size, iE.size, l.size, true⟩)
                      (M := Mut (upd h o (some (.rows g2 iE.size ((rs.drop off).take len ++ src)))) (upd2 mu o g2 ⟨l.b, l.base + off * iE.size, iE.size, l.size, true⟩)) o g2 0 (len + src.length) cap ⟨l.b, l.base + off * iE.size, iE.size, l.size, true⟩ (by simp [upd2]) rfl hroom (Nat.le_trans (Nat.le_mul_of_pos_right _ hby) hlim) (by
                        simp only
                        rw [k3, Nat.add_mul] at hcsz
                        rw [Nat.zero_add]
                        omega)
                    rw [k3]
                    simpa using this
                · -- a new block
                  have holds : ∃ olds : List Value, olds.length = len * iE.size ∧ (∀ w', w'.heap = w.heap → (Builtin.firstCells iE.size len (.slice (some ⟨l.b, l.base + off * l.st, none⟩) len cap)).run P w' = .ok olds.toArray w') ∧
                      ∀ i j, i < len → j < iE.size → RV h mu w (cell rs (off + i) j) (olds.getD (i * iE.size + j) undef) := by
                    have hsrc' : srcRows P h iE.size false (.ref o g' off len) = some ((rs.drop off).take len) := by
                      unfold srcRows
                      simp only [hh, e7, true_and, hle, if_true]
                    obtain ⟨_, olds, o1, o2, o3, o4⟩ := src_sound (P := P) s (Rv.ref (w := w) (M := Mut h mu) o g' off len cap l hl hcl hcap hcl0 hcsz) hsrc'
                    rw [hrl] at o1 o2 o4
                    refine ⟨olds, o1, o2, fun i j hi hj => ?_⟩
                    rw [← hcr i j hi]
                    exact o4 i j hi hj
                  obtain ⟨olds, o1, o2, o4⟩ := holds
                  have hrun := run_app_grows (P := P) (ty := ty) (w := w) hdS hdX hX' e2 e3 hlen n2 o2 (by omega) (by simpa [LIM] using hlim) hby
                  have hd := s.drew
                  have hpush := Sim.push (o := o) (g := g2) (st := iE.size) (base := 0) (rs := (rs.drop off).take len ++ src) (e := e)
                    (cells := olds.toArray ++ news.toArray ++ Builtin.zeroCells z.cells (grownCap w (len + src.length) cap e - (len + src.length))) hd.1 hg2
                    (by
                      simp only [List.length_append, hrl, Array.size_append, List.size_toArray, o1, n1]
                      rw [Nat.add_mul]
                      omega) hok
                    (by
                      intro i j hi hj
                      simp only [List.length_append, hrl] at hi
                      rw [cell_append, hrl, Nat.zero_add]
                      split
                      · rename_i hil
                        rw [hcr i j hil]
                        have hk := idx_in (st := iE.size) hil hj
                        refine ⟨olds.getD (i * iE.size + j) undef, ?_, (o4 i j hil hj).ext hd.2⟩
                        have hk' : i * iE.size + j < olds.length := by rw [o1]; exact hk
                        obtain ⟨y, hy⟩ : ∃ y, olds[i * iE.size + j]? = some y := ⟨_, List.getElem?_eq_getElem hk'⟩
                        rw [getD_of hy, Array.getElem?_append_left (by simp; omega), Array.getElem?_append_left (by simpa using hk')]
                        simpa using hy
                      · rename_i hil
                        have hi2 : i - len < src.length := by omega
                        have hk := idx_in (st := iE.size) hi2 hj
                        refine ⟨news.getD ((i - len) * iE.size + j) undef, ?_, (n4 _ _ hi2 hj).ext hd.2⟩
                        have hk' : (i - len) * iE.size + j < news.length := by rw [n1]; exact hk
                        obtain ⟨y, hy⟩ : ∃ y, news[(i - len) * iE.size + j]? = some y := ⟨_, List.getElem?_eq_getElem hk'⟩
                        have : i * iE.size = len * iE.size + (i - len) * iE.size := by rw [← Nat.add_mul]; congr 1; omega
                        rw [getD_of hy, Array.getElem?_append_left (by simp; omega), Array.getElem?_append_right (by simp; omega)]
                        simp only [List.size_toArray, List.getElem?_toArray, o1]
                        rw [← hy]
                        congr 1
                        omega)
                  have hKg := hK g2
                  rw [e7] at hKg
                  refine ⟨_, _, _, _, _, hrun, ?_, hKg, hpush.1, hd.2.trans hpush.2⟩
                  have hcap2 : len + src.length ≤ grownCap w (len + src.length) cap e := grownCap_ge w _ _ e
                  have := Rv.ref (w := w.drew.alloc (.cells (olds.toArray ++ news.toArray ++ Builtin.zeroCells z.cells (grownCap w (len + src.length) cap e - (len + src.length))) e))
                    (mu := upd2 mu o g2 ⟨w.drew.heap.size, 0, iE.size, (olds.toArray ++ news.toArray ++ Builtin.zeroCells z.cells (grownCap w (len + src.length) cap e - (len + src.length))).size, true⟩)
                    (M := Mut (upd h o (some (.rows g2 iE.size ((rs.drop off).take len ++ src)))) (upd2 mu o g2 ⟨w.drew.heap.size, 0, iE.size, (olds.toArray ++ news.toArray ++ Builtin.zeroCells z.cells (grownCap w (len + src.length) cap e - (len + src.length))).size, true⟩))
                    o g2 0 (len + src.length) (grownCap w (len + src.length) cap e) _ (by simp [upd2]; rfl) rfl hcap2 (Nat.le_trans (Nat.le_mul_of_pos_right _ hby) hlim) (by
                      simp only [Array.size_append, List.size_toArray, size_zc, hzs, n1, o1, Nat.zero_add]
                      rw [← Nat.add_mul, ← Nat.add_mul]
                      exact Nat.le_of_eq (by congr 1; omega))
                  simpa using this
            · exact hK.elim
          · exact hK.elim
        · exact hK.elim
      · exact hK.elim
    · exact hK.elim
  · exact hK.elim
end
end Go.Am
