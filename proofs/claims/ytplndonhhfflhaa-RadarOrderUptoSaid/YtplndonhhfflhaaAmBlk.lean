/- Blocks of other kinds as objects: a new one, and another content. -/
import Derived.Test.YtplndonhhfflhaaAmMaps
namespace Go.Am
open Go
set_option linter.unusedSimpArgs false
set_option linter.unusedVariables false
set_option linter.unusedSectionVars false
section
variable {P : Program} [GW P] {B : Base P} {mu : Mu} {h : AHeap} {w : World}

theorem Sim.pushB (s : Sim B mu h w) {o g : Nat} (x : Obj) (ho : h o = none) (hg : mu o g = none) :
    Sim B (upd2 mu o g ⟨w.heap.size, 0, 0, 0, false⟩) (upd h o (some (.blk g x))) (w.alloc x) ∧ EXT h mu w (upd h o (some (.blk g x))) (upd2 mu o g ⟨w.heap.size, 0, 0, 0, false⟩) (w.alloc x) := by
  have hmu : ∀ o' g' l, mu o' g' = some l → upd2 mu o g ⟨w.heap.size, 0, 0, 0, false⟩ o' g' = some l := by
    intro o' g' l hl
    unfold upd2
    rw [if_neg]
    · exact hl
    · rintro ⟨rfl, rfl⟩; rw [hg] at hl; cases hl
  have hinv : ∀ o' g' l, upd2 mu o g ⟨w.heap.size, 0, 0, 0, false⟩ o' g' = some l → (o' = o ∧ g' = g ∧ l = ⟨w.heap.size, 0, 0, 0, false⟩) ∨ mu o' g' = some l := by
    intro o' g' l hl
    unfold upd2 at hl
    split at hl
    · rename_i hh; cases hl; exact .inl ⟨hh.1, hh.2, rfl⟩
    · exact .inr hl
  have hlive : ∀ o' y, upd h o (some (.blk g x)) o' = some y → (o' = o ∧ y = .blk g x) ∨ (o' ≠ o ∧ h o' = some y) := by
    intro o' y hx
    unfold upd at hx
    split at hx
    · cases hx; exact .inl ⟨‹_›, rfl⟩
    · exact .inr ⟨‹_›, hx⟩
  have hlt : ∀ {o' g' l}, mu o' g' = some l → l.b < w.heap.size := fun hl => (s.muOk _ _ _ hl).2.1
  have hM : ∀ b, b < w.heap.size → ¬ Mut h mu b → ¬ Mut (upd h o (some (.blk g x))) (upd2 mu o g ⟨w.heap.size, 0, 0, 0, false⟩) b := by
    rintro b hb hn ⟨o', y, l, hx, hl, rfl⟩
    rcases hinv _ _ _ hl with ⟨_, _, rfl⟩ | hl'
    · simp at hb
    · rcases hlive _ _ hx with ⟨rfl, rfl⟩ | ⟨_, hx'⟩
      · simp only [AO.gen] at hl'; rw [hg] at hl'; cases hl'
      · exact hn ⟨o', y, l, hx', hl', rfl⟩
  have ext : EXT h mu w (upd h o (some (.blk g x))) (upd2 mu o g ⟨w.heap.size, 0, 0, 0, false⟩) (w.alloc x) :=
    ⟨rfl, rfl, rfl, by rw [alloc_size]; omega, fun b hb hn => ⟨heap_push_lt hb, hM b hb hn⟩, hmu⟩
  refine ⟨⟨?_, ?_, ?_, ?_, ?_, ?_, ?_, s.globE ext, ?_⟩, ext⟩
  · rw [alloc_size]; exact Nat.le_succ_of_le s.base
  · intro o' g' l hl
    rcases hinv _ _ _ hl with ⟨_, _, rfl⟩ | hl'
    · exact ⟨s.base, by rw [alloc_size]; simp, fun hh => by simp at hh⟩
    · obtain ⟨h1, h2, h3⟩ := s.muOk _ _ _ hl'
      refine ⟨h1, by rw [alloc_size]; omega, fun hcc => ?_⟩
      rw [heap_push_lt h2]; exact h3 hcc
  · obtain ⟨N, hN⟩ := s.fin
    refine ⟨max N (g + 1), fun o' g' hle => ?_⟩
    unfold upd2
    rw [if_neg (by omega)]
    exact hN _ _ (by omega)
  · obtain ⟨N, hN⟩ := s.finh
    refine ⟨max N (o + 1), fun o' hle => ?_⟩
    unfold upd
    rw [if_neg (by omega)]
    exact hN _ (by omega)
  · intro o' g' st' rs' hx
    rcases hlive _ _ hx with ⟨rfl, hx'⟩ | ⟨hne, hx'⟩
    · cases hx'
    · obtain ⟨l, h1, h2, h3, h4, h5, h6⟩ := s.rows _ _ _ _ hx'
      refine ⟨l, hmu _ _ _ h1, h2, h3, h4, h5, fun i j hi hj => ?_⟩
      obtain ⟨c, hc1, hc2⟩ := h6 i j hi hj
      refine ⟨c, ?_, hc2.ext ext⟩
      rw [cell?_of_heap (w := w) (a := ⟨l.b, l.base + i * st' + j, none⟩) (heap_push_lt (hlt h1))]; exact hc1
  · intro o' g' es hx
    rcases hlive _ _ hx with ⟨rfl, hx'⟩ | ⟨hne, hx'⟩
    · cases hx'
    · obtain ⟨l, h1, h2, ens, clock, h3, h4, h5⟩ := s.maps _ _ _ hx'
      exact ⟨l, hmu _ _ _ h1, h2, ens, clock, by rw [heap_push_lt (hlt h1)]; exact h3, h4, fun i hi => ⟨(h5 i hi).1.ext ext, (h5 i hi).2.ext ext⟩⟩
  · intro o1 o2 x1 x2 l1 l2 hx1 hx2 hl1 hl2 hbb
    have side : ∀ {o1 x1 l1}, upd h o (some (.blk g x)) o1 = some x1 → upd2 mu o g ⟨w.heap.size, 0, 0, 0, false⟩ o1 x1.gen = some l1 → (o1 = o ∧ l1.b = w.heap.size) ∨ (o1 ≠ o ∧ h o1 = some x1 ∧ mu o1 x1.gen = some l1) := by
      intro o1 x1 l1 h1 q1
      rcases hlive _ _ h1 with ⟨rfl, rfl⟩ | ⟨hne, h1'⟩
      · rcases hinv _ _ _ q1 with ⟨_, _, rfl⟩ | q1'
        · exact .inl ⟨rfl, rfl⟩
        · simp only [AO.gen] at q1'; rw [hg] at q1'; cases q1'
      · rcases hinv _ _ _ q1 with ⟨e1, _, _⟩ | q1'
        · exact absurd e1 hne
        · exact .inr ⟨hne, h1', q1'⟩
    rcases side hx1 hl1 with ⟨e1, b1⟩ | ⟨n1, a1, c1⟩ <;> rcases side hx2 hl2 with ⟨e2, b2⟩ | ⟨n2, a2, c2⟩
    · rw [e1, e2]
    · have := hlt c2; omega
    · have := hlt c1; omega
    · exact s.inj _ _ _ _ _ _ a1 a2 c1 c2 hbb
  · intro o' g' y hx
    rcases hlive _ _ hx with ⟨rfl, hx'⟩ | ⟨hne, hx'⟩
    · cases hx'
      exact ⟨⟨w.heap.size, 0, 0, 0, false⟩, by simp [upd2], rfl, heap_push_eq⟩
    · obtain ⟨l, h1, h2, h3⟩ := s.blks _ _ _ hx'
      exact ⟨l, hmu _ _ _ h1, h2, by rw [heap_push_lt (hlt h1)]; exact h3⟩

theorem Sim.setB (s : Sim B mu h w) {o g : Nat} {x x' : Obj} {l : Loc} (hx : h o = some (.blk g x)) (hl : mu o g = some l) (hnc : ∀ c e f, x ≠ .cells c e f) :
    Sim B mu (upd h o (some (.blk g x'))) { w with heap := w.heap.setIfInBounds l.b x' } ∧ EXT h mu w (upd h o (some (.blk g x'))) mu { w with heap := w.heap.setIfInBounds l.b x' } := by
  obtain ⟨l0, hl0, hlc, hb0⟩ := s.blks _ _ _ hx
  rw [hl] at hl0; cases hl0
  have hlt0 := (s.muOk _ _ _ hl).2.1
  generalize hw : ({ w with heap := w.heap.setIfInBounds l.b x' } : World) = w'
  have hblk : w'.heap[l.b]? = some x' := by rw [← hw]; simp [hlt0]
  have hother : ∀ b, b ≠ l.b → w'.heap[b]? = w.heap[b]? := fun b hne => by rw [← hw]; exact Array.getElem?_setIfInBounds_ne (Ne.symm hne)
  have hsize : w'.heap.size = w.heap.size := by rw [← hw]; simp
  have hlive : ∀ o1 y, upd h o (some (.blk g x')) o1 = some y → (o1 = o ∧ y = .blk g x') ∨ (o1 ≠ o ∧ h o1 = some y) := by
    intro o1 y h1
    unfold upd at h1
    split at h1
    · cases h1; exact .inl ⟨‹_›, rfl⟩
    · exact .inr ⟨‹_›, h1⟩
  have hMl : Mut h mu l.b := ⟨o, _, l, hx, hl, rfl⟩
  have hM : ∀ b, ¬ Mut h mu b → ¬ Mut (upd h o (some (.blk g x'))) mu b := by
    rintro b hn ⟨o1, y, l1, h1, h2, rfl⟩
    rcases hlive _ _ h1 with ⟨rfl, rfl⟩ | ⟨_, h1'⟩
    · exact hn ⟨_, _, _, hx, h2, rfl⟩
    · exact hn ⟨_, _, _, h1', h2, rfl⟩
  have ext : EXT h mu w (upd h o (some (.blk g x'))) mu w' :=
    ⟨by rw [← hw], by rw [← hw], by rw [← hw], by rw [hsize]; exact Nat.le_refl _, fun b _ hb => ⟨hother b (fun e => hb (e ▸ hMl)), hM b hb⟩, fun _ _ _ h => h⟩
  have hnb : ∀ {o1 y l1}, o1 ≠ o → h o1 = some y → mu o1 y.gen = some l1 → l1.b ≠ l.b := fun hne h1 h2 hb => hne (s.inj _ _ _ _ _ _ h1 hx h2 hl hb)
  refine ⟨⟨by rw [hsize]; exact s.base, ?_, s.fin, ?_, ?_, ?_, ?_, s.globE ext, ?_⟩, ext⟩
  · intro o1 g1 l1 h1
    obtain ⟨k1, k2, k3⟩ := s.muOk _ _ _ h1
    refine ⟨k1, by rw [hsize]; exact k2, fun hcc => ?_⟩
    have hbb : l1.b ≠ l.b := by
      intro hbb
      obtain ⟨c1, e1, f1, q1, _⟩ := k3 hcc
      rw [hbb, hb0] at q1
      exact hnc _ _ _ (Option.some.inj q1)
    rw [hother _ hbb]; exact k3 hcc
  · obtain ⟨N, hN⟩ := s.finh
    refine ⟨max N (o + 1), fun o' hle => ?_⟩
    unfold upd
    rw [if_neg (by omega)]
    exact hN _ (by omega)
  · intro o1 g1 st1 rs1 h1
    rcases hlive _ _ h1 with ⟨rfl, h1'⟩ | ⟨hne, h1'⟩
    · cases h1'
    · obtain ⟨l1, k1, k2, k3, k4, k5, k6⟩ := s.rows _ _ _ _ h1'
      refine ⟨l1, k1, k2, k3, k4, k5, fun i j hi hj => ?_⟩
      obtain ⟨c, hc1, hc2⟩ := k6 i j hi hj
      refine ⟨c, ?_, hc2.ext ext⟩
      rw [cell?_of_heap (w := w) (w' := w') (a := ⟨l1.b, l1.base + i * st1 + j, none⟩) (hother _ (hnb hne h1' k1))]; exact hc1
  · intro o1 g1 es1 h1
    rcases hlive _ _ h1 with ⟨rfl, h1'⟩ | ⟨hne, h1'⟩
    · cases h1'
    · obtain ⟨l1, k1, k2, ens1, clock1, k3, k4, k5⟩ := s.maps _ _ _ h1'
      exact ⟨l1, k1, k2, ens1, clock1, by rw [hother _ (hnb hne h1' k1)]; exact k3, k4, fun i hi => ⟨(k5 i hi).1.ext ext, (k5 i hi).2.ext ext⟩⟩
  · intro o1 o2 x1 x2 l1 l2 h1 h2 q1 q2 hbb
    rcases hlive _ _ h1 with ⟨rfl, rfl⟩ | ⟨n1, a1⟩ <;> rcases hlive _ _ h2 with ⟨rfl, rfl⟩ | ⟨n2, a2⟩
    · rfl
    · simp only [AO.gen] at q1; rw [hl] at q1; cases q1; exact absurd hbb.symm (hnb n2 a2 q2)
    · simp only [AO.gen] at q2; rw [hl] at q2; cases q2; exact absurd hbb (hnb n1 a1 q1)
    · exact s.inj _ _ _ _ _ _ a1 a2 q1 q2 hbb
  · intro o1 g1 y h1
    rcases hlive _ _ h1 with ⟨rfl, h1'⟩ | ⟨hne, h1'⟩
    · cases h1'
      exact ⟨l, hl, hlc, hblk⟩
    · obtain ⟨l1, k1, k2, k3⟩ := s.blks _ _ _ h1'
      exact ⟨l1, k1, k2, by rw [hother _ (hnb hne h1' k1)]; exact k3⟩
end
end Go.Am
