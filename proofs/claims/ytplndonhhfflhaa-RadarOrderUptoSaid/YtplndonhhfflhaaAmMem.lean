/- Steps of memory: writing into an object's block, drawing, reading rows. -/
import Derived.Test.YtplndonhhfflhaaAmBase
namespace Go.Am
open Go

theorem upd2_self {mu : Mu} {o g : Nat} {l : Loc} (h : mu o g = some l) : upd2 mu o g l = mu := by
  funext o' g'
  unfold upd2
  split
  · rename_i hh; rw [hh.1, hh.2, h]
  · rfl

theorem Sim.fresh {P : Program} [GW P] {B : Base P} {mu : Mu} {h : AHeap} {w : World} (s : Sim B mu h w) (o : Nat) : ∃ g, mu o g = none :=
  let ⟨N, hN⟩ := s.fin; ⟨N, hN o N (Nat.le_refl _)⟩

/-- Only the heap of a world matters. -/
theorem Sim.same_heap {P : Program} [GW P] {B : Base P} {mu : Mu} {h : AHeap} {w w' : World} (s : Sim B mu h w) (hh : w'.heap = w.heap) (h1 : w'.os = w.os) (h2 : w'.tape = w.tape) (h3 : w'.output = w.output) :
    Sim B mu h w' ∧ EXT h mu w h mu w' := by
  have ext : EXT h mu w h mu w' := ⟨h1, h2, h3, by rw [hh]; exact Nat.le_refl _, fun b _ hb => ⟨by rw [hh], hb⟩, fun _ _ _ h => h⟩
  have hcell : ∀ a, w'.cell? a = w.cell? a := fun a => by unfold World.cell?; rw [hh]
  refine ⟨⟨by rw [hh]; exact s.base, fun o g l hl => by rw [hh]; exact s.muOk o g l hl, s.fin, s.finh, ?_, ?_, s.inj, s.globE ext, fun o g x hx => let ⟨l, h1, h2, h3⟩ := s.blks o g x hx; ⟨l, h1, h2, by rw [hh]; exact h3⟩⟩, ext⟩
  · intro o g st rs hx
    obtain ⟨l, h1, h2, h3, h4, h5, h6⟩ := s.rows o g st rs hx
    exact ⟨l, h1, h2, h3, h4, h5, fun i j hi hj => let ⟨c, hc, hr⟩ := h6 i j hi hj; ⟨c, by rw [hcell]; exact hc, hr.ext ext⟩⟩
  · intro o g es hx
    obtain ⟨l, h1, h2, ens, clock, h3, h4, h5⟩ := s.maps o g es hx
    exact ⟨l, h1, h2, ens, clock, by rw [hh]; exact h3, h4, fun i hi => ⟨(h5 i hi).1.ext ext, (h5 i hi).2.ext ext⟩⟩
theorem Sim.drew {P : Program} [GW P] {B : Base P} {mu : Mu} {h : AHeap} {w : World} (s : Sim B mu h w) : Sim B mu h w.drew ∧ EXT h mu w h mu w.drew :=
  s.same_heap rfl rfl rfl rfl

/-- An object's block is written; it may get a new generation (and another beginning in its block). -/
theorem Sim.put {P : Program} [GW P] {B : Base P} {mu : Mu} {h : AHeap} {w w' : World} (s : Sim B mu h w) {o g st : Nat} {rs rs' : List (List AV)} {l l' : Loc} {cells' : Array Value} {e : TypeId} {f : Nat × Nat} {g' : Nat}
    (hx : h o = some (.rows g st rs)) (hl : mu o g = some l)
    (hos : w'.os = w.os) (htape : w'.tape = w.tape) (hout : w'.output = w.output) (hsize : w'.heap.size = w.heap.size)
    (hother : ∀ b, b ≠ l.b → w'.heap[b]? = w.heap[b]?) (hblk : w'.heap[l.b]? = some (.cells cells' e f)) (hcs : cells'.size = l.size) (hunf : Unfrozen f l.size)
    (hg' : (g' = g ∧ l' = l) ∨ mu o g' = none) (hb' : l'.b = l.b) (hs' : l'.size = l.size) (hc' : l'.cells = true)
    (hfit : l'.base + rs'.length * l'.st ≤ l.size) (hr' : ∀ r ∈ rs', RowOk l'.st r)
    (hc : ∀ i j, i < rs'.length → j < l'.st → ∃ c, cells'[l'.base + i * l'.st + j]? = some c ∧ RV h mu w (cell rs' i j) c) :
    Sim B (upd2 mu o g' l') (upd h o (some (.rows g' l'.st rs'))) w' ∧ EXT h mu w (upd h o (some (.rows g' l'.st rs'))) (upd2 mu o g' l') w' := by
  have hmu : ∀ o1 g1 l1, mu o1 g1 = some l1 → upd2 mu o g' l' o1 g1 = some l1 := by
    intro o1 g1 l1 h1
    unfold upd2
    split
    · rename_i hh
      obtain ⟨rfl, rfl⟩ := hh
      rcases hg' with ⟨rfl, rfl⟩ | hn
      · rw [hl] at h1; exact h1
      · rw [hn] at h1; cases h1
    · exact h1
  have hinv : ∀ o1 g1 l1, upd2 mu o g' l' o1 g1 = some l1 → (o1 = o ∧ g1 = g' ∧ l1 = l') ∨ mu o1 g1 = some l1 := by
    intro o1 g1 l1 h1
    unfold upd2 at h1
    split at h1
    · rename_i hh; cases h1; exact .inl ⟨hh.1, hh.2, rfl⟩
    · exact .inr h1
  have hlive : ∀ o1 x, upd h o (some (.rows g' l'.st rs')) o1 = some x → (o1 = o ∧ x = .rows g' l'.st rs') ∨ (o1 ≠ o ∧ h o1 = some x) := by
    intro o1 x h1
    unfold upd at h1
    split at h1
    · cases h1; exact .inl ⟨‹_›, rfl⟩
    · exact .inr ⟨‹_›, h1⟩
  have hMl : Mut h mu l.b := ⟨o, _, l, hx, hl, rfl⟩
  have hM : ∀ b, ¬ Mut h mu b → ¬ Mut (upd h o (some (.rows g' l'.st rs'))) (upd2 mu o g' l') b := by
    rintro b hn ⟨o1, x, l1, h1, h2, rfl⟩
    rcases hinv _ _ _ h2 with ⟨_, _, rfl⟩ | h2'
    · rw [hb'] at hn; exact hn hMl
    · rcases hlive _ _ h1 with ⟨rfl, rfl⟩ | ⟨_, h1'⟩
      · simp only [AO.gen] at h2'
        rcases hg' with ⟨rfl, rfl⟩ | hn'
        · exact hn ⟨_, _, _, hx, h2', rfl⟩
        · rw [hn'] at h2'; cases h2'
      · exact hn ⟨_, _, _, h1', h2', rfl⟩
  have ext : EXT h mu w (upd h o (some (.rows g' l'.st rs'))) (upd2 mu o g' l') w' :=
    ⟨hos, htape, hout, by rw [hsize]; exact Nat.le_refl _, fun b _ hb => ⟨hother b (fun e => hb (e ▸ hMl)), hM b hb⟩, hmu⟩
  have hnb : ∀ {o1 x l1}, o1 ≠ o → h o1 = some x → mu o1 x.gen = some l1 → l1.b ≠ l.b := fun hne h1 h2 hb => hne (s.inj _ _ _ _ _ _ h1 hx h2 hl hb)
  refine ⟨⟨by rw [hsize]; exact s.base, ?_, ?_, ?_, ?_, ?_, ?_, s.globE ext, fun o1 g1 x h1 => by
    rcases hlive _ _ h1 with ⟨rfl, h1'⟩ | ⟨hne, h1'⟩
    · cases h1'
    · obtain ⟨l1, k1, k2, k3⟩ := s.blks _ _ _ h1'
      exact ⟨l1, hmu _ _ _ k1, k2, by rw [hother _ (hnb hne h1' k1)]; exact k3⟩⟩, ext⟩
  · have key : ∀ o1 g1 l1, mu o1 g1 = some l1 → B.n ≤ l1.b ∧ l1.b < w'.heap.size ∧ (l1.cells = true → ∃ cells e f, w'.heap[l1.b]? = some (.cells cells e f) ∧ cells.size = l1.size ∧ Unfrozen f l1.size) := by
      intro o1 g1 l1 h1
      obtain ⟨k1, k2, k3⟩ := s.muOk _ _ _ h1
      refine ⟨k1, by rw [hsize]; exact k2, fun hcc => ?_⟩
      by_cases hbb : l1.b = l.b
      · obtain ⟨c1, e1, f1, q1, q2, q3⟩ := k3 hcc
        obtain ⟨_, _, k3'⟩ := s.muOk _ _ _ hl
        have hlc : l.cells = true := by
          obtain ⟨l0, z1, z2, _⟩ := s.rows _ _ _ _ hx
          rw [hl] at z1; cases z1; exact z2
        obtain ⟨c2, e2, f2, q1', q2', q3'⟩ := k3' hlc
        rw [hbb, q1'] at q1; cases q1
        have hss : l1.size = l.size := by rw [← q2, ← q2']
        rw [hbb]
        exact ⟨cells', e, f, hblk, by rw [hss]; exact hcs, by rw [hss]; exact hunf⟩
      · rw [hother _ hbb]; exact k3 hcc
    intro o1 g1 l1 h1
    rcases hinv _ _ _ h1 with ⟨_, _, rfl⟩ | h1'
    · obtain ⟨k1, k2, _⟩ := s.muOk _ _ _ hl
      exact ⟨by rw [hb']; exact k1, by rw [hb', hsize]; exact k2, fun _ => ⟨cells', e, f, by rw [hb']; exact hblk, by rw [hs']; exact hcs, by rw [hs']; exact hunf⟩⟩
    · exact key _ _ _ h1'
  · obtain ⟨N, hN⟩ := s.fin
    refine ⟨max N (g' + 1), fun o1 g1 hle => ?_⟩
    unfold upd2
    rw [if_neg (by omega)]
    exact hN _ _ (by omega)
  · obtain ⟨N, hN⟩ := s.finh
    refine ⟨max N (o + 1), fun o' hle => ?_⟩
    unfold upd
    rw [if_neg (by omega)]
    exact hN _ (by omega)
  · intro o1 g1 st1 rs1 h1
    rcases hlive _ _ h1 with ⟨rfl, h1'⟩ | ⟨hne, h1'⟩
    · cases h1'
      refine ⟨l', by simp [upd2], hc', rfl, by rw [hs']; exact hfit, hr', fun i j hi hj => ?_⟩
      obtain ⟨c, hc1, hc2⟩ := hc i j hi hj
      refine ⟨c, ?_, hc2.ext ext⟩
      unfold World.cell?
      rw [hb', hblk]; simpa using hc1
    · obtain ⟨l1, k1, k2, k3, k4, k5, k6⟩ := s.rows _ _ _ _ h1'
      refine ⟨l1, hmu _ _ _ k1, k2, k3, k4, k5, fun i j hi hj => ?_⟩
      obtain ⟨c, hc1, hc2⟩ := k6 i j hi hj
      refine ⟨c, ?_, hc2.ext ext⟩
      rw [cell?_of_heap (w := w) (w' := w') (a := ⟨l1.b, l1.base + i * st1 + j, none⟩) (hother _ (hnb hne h1' k1))]; exact hc1
  · intro o1 g1 es h1
    rcases hlive _ _ h1 with ⟨rfl, h1'⟩ | ⟨hne, h1'⟩
    · cases h1'
    · obtain ⟨l1, k1, k2, ens, clock, k3, k4, k5⟩ := s.maps _ _ _ h1'
      exact ⟨l1, hmu _ _ _ k1, k2, ens, clock, by rw [hother _ (hnb hne h1' k1)]; exact k3, k4, fun i hi => ⟨(k5 i hi).1.ext ext, (k5 i hi).2.ext ext⟩⟩
  · intro o1 o2 x1 x2 l1 l2 h1 h2 q1 q2 hbb
    have side : ∀ {o1 x1 l1}, upd h o (some (.rows g' l'.st rs')) o1 = some x1 → upd2 mu o g' l' o1 x1.gen = some l1 → (o1 = o ∧ l1.b = l.b) ∨ (o1 ≠ o ∧ h o1 = some x1 ∧ mu o1 x1.gen = some l1) := by
      intro o1 x1 l1 h1 q1
      rcases hlive _ _ h1 with ⟨rfl, rfl⟩ | ⟨hne, h1'⟩
      · refine .inl ⟨rfl, ?_⟩
        simp only [AO.gen, upd2, and_self, if_true, Option.some.injEq] at q1
        rw [← q1, hb']
      · rcases hinv _ _ _ q1 with ⟨e1, _, _⟩ | q1'
        · exact absurd e1 hne
        · exact .inr ⟨hne, h1', q1'⟩
    rcases side h1 q1 with ⟨rfl, e1⟩ | ⟨n1, a1, b1⟩ <;> rcases side h2 q2 with ⟨rfl, e2⟩ | ⟨n2, a2, b2⟩
    · rfl
    · exact absurd (by rw [← hbb, e1]) (hnb n2 a2 b2)
    · exact absurd (by rw [hbb, e2]) (hnb n1 a1 b1)
    · exact s.inj _ _ _ _ _ _ a1 a2 b1 b2 hbb

theorem Rv.one {w : World} {mu : Mu} {M : Nat → Prop} {v : AV} {c : Value} (h : Rv w mu M v c) (hf : v.flat = true) : c.oneCell' = true := by
  cases h <;> first | rfl | (simp [AV.flat] at hf)

theorem add_mk (b o n : Nat) : (⟨b, o, none⟩ : Addr).add n = ⟨b, o + n, none⟩ := by unfold Addr.add; split <;> simp_all

/-- What has been stored by 'setCells', read as a block. -/
theorem setCells_heap (b : Nat) : ∀ (vs : List Value) (o : Nat) (w : World) (cells : Array Value) (e : TypeId) (f : Nat × Nat), w.heap[b]? = some (.cells cells e f) → o + vs.length ≤ cells.size →
    ∃ cells', (w.setCells b o vs).heap[b]? = some (.cells cells' e f) ∧ cells'.size = cells.size ∧ (∀ j, j < vs.length → cells'[o + j]? = vs[j]?) ∧ (∀ k, (k < o ∨ o + vs.length ≤ k) → cells'[k]? = cells[k]?) ∧
      (∀ k, k ≠ b → (w.setCells b o vs).heap[k]? = w.heap[k]?) ∧ (w.setCells b o vs).heap.size = w.heap.size ∧ (w.setCells b o vs).os = w.os ∧ (w.setCells b o vs).tape = w.tape ∧ (w.setCells b o vs).output = w.output
  | [], o, w, cells, e, f, h, _ => ⟨cells, h, rfl, fun _ h => by simp at h, fun _ _ => rfl, fun _ _ => rfl, rfl, rfl, rfl, rfl⟩
  | v :: r, o, w, cells, e, f, h, hle => by
    have h1 : (w.setCell ⟨b, o, none⟩ v).heap[b]? = some (.cells (cells.setIfInBounds o v) e f) := by
      simp [World.setCell, Array.getElem?_modify, h]
    simp only [List.length_cons] at hle
    obtain ⟨cells', k1, k2, k3, k4, k5, k6, k7, k8, k9⟩ := setCells_heap b r (o + 1) (w.setCell ⟨b, o, none⟩ v) _ e f h1 (by simp; omega)
    refine ⟨cells', k1, by simpa using k2, ?_, ?_, ?_, by rw [World.setCells, k6]; simp, k7, k8, k9⟩
    · intro j hj
      cases j with
      | zero => rw [Nat.add_zero, k4 o (Or.inl (by omega))]; simp [show o < cells.size by omega]
      | succ j => rw [show o + (j + 1) = o + 1 + j by omega, k3 j (by simpa using hj)]; simp
    · intro k hk
      simp only [List.length_cons] at hk
      rw [k4 k (by omega), Array.getElem?_setIfInBounds_ne (by omega)]
    · intro k hk
      rw [World.setCells, k5 k hk]
      exact Go.RowKit.Below.heap_setCell _ _ _ _ hk
/-- What only adds memory turns nothing. -/
theorem Below.ext {P : Program} [GW P] {h : AHeap} {mu : Mu} {w w' : World} {B : Base P} (s : Sim B mu h w) (k : Go.RowKit.Below w.heap.size w w') : Sim B mu h w' ∧ EXT h mu w h mu w' := by
  have ext : EXT h mu w h mu w' := ⟨k.os, k.tape, k.output, k.size, fun b hb hm => ⟨k.block b hb, hm⟩, fun _ _ _ h => h⟩
  refine ⟨⟨Nat.le_trans s.base k.size, fun o g l hl => ?_, s.fin, s.finh, fun o g st rs hx => ?_, fun o g es hx => ?_, s.inj, s.globE ext, fun o g x hx => let ⟨l, h1, h2, h3⟩ := s.blks o g x hx; ⟨l, h1, h2, by rw [k.block _ (s.muOk _ _ _ h1).2.1]; exact h3⟩⟩, ext⟩
  · obtain ⟨h1, h2, h3⟩ := s.muOk _ _ _ hl
    exact ⟨h1, Nat.lt_of_lt_of_le h2 k.size, fun hcc => by rw [k.block _ h2]; exact h3 hcc⟩
  · obtain ⟨l, h1, h2, h3, h4, h5, h6⟩ := s.rows _ _ _ _ hx
    refine ⟨l, h1, h2, h3, h4, h5, fun i j hi hj => ?_⟩
    obtain ⟨c, hc1, hc2⟩ := h6 i j hi hj
    refine ⟨c, ?_, hc2.ext ext⟩
    rw [cell?_of_heap (w := w) (w' := w') (a := ⟨l.b, l.base + i * st + j, none⟩) (k.block _ (s.muOk _ _ _ h1).2.1)]; exact hc1
  · obtain ⟨l, h1, h2, ens, clock, h3, h4, h5⟩ := s.maps _ _ _ hx
    exact ⟨l, h1, h2, ens, clock, by rw [k.block _ (s.muOk _ _ _ h1).2.1]; exact h3, h4, fun i hi => ⟨(h5 i hi).1.ext ext, (h5 i hi).2.ext ext⟩⟩
end Go.Am
