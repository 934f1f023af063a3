/- Objects that nobody will write again become content. -/
import Derived.Test.YtplndonhhfflhaaAmDraw
namespace Go.Am
open Go
set_option linter.unusedSimpArgs false
set_option linter.unusedVariables false
set_option linter.unusedSectionVars false

/-- 'v', when the objects that 'h' has and 'h2' hasn't are read for good. -/
inductive Fz (h h2 : AHeap) : AV → AV → Prop
  | same (v : AV) : Fz h h2 v v
  | ref (o g off len st : Nat) (rs rows : List (List AV)) (h1 : h o = some (.rows g st rs)) (h2' : h2 o = none) (hlen : rows.length = len) (hfit : off + len ≤ rs.length) (hr : ∀ r ∈ rows, RowOk st r)
      (hc : ∀ i j, i < len → j < st → Fz h h2 (cell rs (off + i) j) (cell rows i j)) : Fz h h2 (.ref o g off len) (.sl st rows)
  | ptr (o g r c st : Nat) (rs : List (List AV)) (row : List AV) (h1 : h o = some (.rows g st rs)) (h2' : h2 o = none) (hlt : r < rs.length) (hlen : row.length = st)
      (hc : ∀ j, j < st → Fz h h2 (cell rs r j) (row.getD j .und)) : Fz h h2 (.ptr o g r c) (.cp row c)
  | agg (cs vs : List AV) (hl : cs.length = vs.length) (hc : ∀ i, i < cs.length → Fz h h2 (cs.getD i .und) (vs.getD i .und)) : Fz h h2 (.agg cs) (.agg vs)
  | tup (cs vs : List AV) (hl : cs.length = vs.length) (hc : ∀ i, i < cs.length → Fz h h2 (cs.getD i .und) (vs.getD i .und)) : Fz h h2 (.tup cs) (.tup vs)
  | iface (t : TypeId) (v v' : AV) (hc : Fz h h2 v v') : Fz h h2 (.iface t v) (.iface t v')
  | cp (row row' : List AV) (c : Nat) (hl : row.length = row'.length) (hc : ∀ i, i < row.length → Fz h h2 (row.getD i .und) (row'.getD i .und)) : Fz h h2 (.cp row c) (.cp row' c)
  | sl (st : Nat) (rs rs' : List (List AV)) (hl : rs.length = rs'.length) (hr : ∀ r ∈ rs', RowOk st r) (hc : ∀ i j, i < rs.length → j < st → Fz h h2 (cell rs i j) (cell rs' i j)) : Fz h h2 (.sl st rs) (.sl st rs')
  | sl0 (st st' : Nat) : Fz h h2 (.sl st []) (.sl st' [])
  | emp (st : Nat) : Fz h h2 .emp (.sl st [])
  | any (v : AV) : Fz h h2 v .any
  | func (fn : Fn) (f c f' c' : List AV) (hl : f.length = f'.length) (hl2 : c.length = c'.length) (hf : ∀ i, i < f.length → Fz h h2 (f.getD i .und) (f'.getD i .und)) (hc : ∀ i, i < c.length → Fz h h2 (c.getD i .und) (c'.getD i .und)) : Fz h h2 (.func fn f c) (.func fn f' c')

/-- Objects may be forgotten, or hold others of their generation. -/
def SubG (h' h : AHeap) : Prop := ∀ o x, h' o = some x → ∃ y, h o = some y ∧ y.gen = x.gen
theorem Sub.g {h' h : AHeap} (hs : Sub h' h) : SubG h' h := fun o x e => ⟨x, hs o x e, rfl⟩
theorem Mut.subG {h h' : AHeap} {mu : Mu} (hs : SubG h' h) (b : Nat) (hm : Mut h' mu b) : Mut h mu b := by
  obtain ⟨o, x, l, h1, h2, h3⟩ := hm
  obtain ⟨y, k1, k2⟩ := hs o x h1
  exact ⟨o, y, l, k1, by rw [k2]; exact h2, h3⟩
theorem EXT.subG {h h' : AHeap} {mu : Mu} {w : World} (hs : SubG h' h) : EXT h mu w h' mu w :=
  ⟨rfl, rfl, rfl, Nat.le_refl _, fun b _ hb => ⟨rfl, fun hm => hb (Mut.subG hs b hm)⟩, fun _ _ _ h => h⟩
section
variable {P : Program} [GW P] {B : Base P} {h h2 : AHeap} {mu : Mu} {w : World}

theorem freeze_soundG (s : Sim B mu h w) (hs : SubG h2 h) {v v' : AV} (hz : Fz h h2 v v') : ∀ {c : Value}, RV h mu w v c → RV h2 mu w v' c := by
  have hdead : ∀ {o x l}, h o = some x → h2 o = none → mu o x.gen = some l → ¬ Mut h2 mu l.b := by
    rintro o x l h1 h2' hl ⟨o', x', l', q1, q2, q3⟩
    obtain ⟨y, k1, k2⟩ := hs _ _ q1
    have := s.inj o' o y x l' l k1 h1 (by rw [k2]; exact q2) hl q3
    subst this
    rw [h2'] at q1; cases q1
  induction hz with
  | same v => exact fun hv => hv.less (Mut.subG hs)
  | ref o g off len st rs rows h1 h2' hlen hfit hr hc ih =>
    intro c hv
    cases hv with
    | ref _ _ _ _ cap l hl hcl hcap hlim hsz =>
      obtain ⟨l', cells, e, f, k1, k2, k3, k4, k5, k6, k7, k8, k9⟩ := s.obj h1
      rw [hl] at k1; cases k1
      subst k3
      subst hlen
      have key : ∃ vs : Nat → Nat → Value, ∀ i j, i < rows.length → j < l.st → w.cell? ⟨l.b, l.base + off * l.st + i * l.st + j, none⟩ = some (vs i j) ∧ RV h2 mu w (cell rows i j) (vs i j) := by
        refine ⟨fun i j => (w.cell? ⟨l.b, l.base + off * l.st + i * l.st + j, none⟩).getD undef, fun i j hi hj => ?_⟩
        obtain ⟨x, hx1, hx2⟩ := k9 (off + i) j (by omega) hj
        have e1 : l.base + (off + i) * l.st + j = l.base + off * l.st + i * l.st + j := by rw [Nat.add_mul]; omega
        rw [e1] at hx1
        have hx : w.cell? ⟨l.b, l.base + off * l.st + i * l.st + j, none⟩ = some x := by
          unfold World.cell?; rw [k6]; simpa using hx1
        refine ⟨?_, ?_⟩
        · simp [hx]
        · simp only [hx, Option.getD_some]; exact ih i j hi hj hx2
      obtain ⟨vs, hvs⟩ := key
      exact .sl l.st rows l.b (l.base + off * l.st) cap vs hcap hlim (fun i j hi hj => (hvs i j hi hj).1) (fun i j hi hj => (hvs i j hi hj).2) hr (hdead h1 h2' hl) ((s.muOk _ _ _ hl).2.1)
  | ptr o g r c st rs row h1 h2' hlt hlen hc ih =>
    intro cv hv
    cases hv with
    | ptr _ _ _ _ l hl hcl =>
      obtain ⟨l', cells, e, f, k1, k2, k3, k4, k5, k6, k7, k8, k9⟩ := s.obj h1
      rw [hl] at k1; cases k1
      subst k3
      have key : ∃ vs : Nat → Value, ∀ j, j < l.st → w.cell? ⟨l.b, l.base + r * l.st + j, none⟩ = some (vs j) ∧ RV h2 mu w (row.getD j .und) (vs j) := by
        refine ⟨fun j => (w.cell? ⟨l.b, l.base + r * l.st + j, none⟩).getD undef, fun j hj => ?_⟩
        obtain ⟨x, hx1, hx2⟩ := k9 r j hlt hj
        have hx : w.cell? ⟨l.b, l.base + r * l.st + j, none⟩ = some x := by
          unfold World.cell?; rw [k6]; simpa using hx1
        refine ⟨?_, ?_⟩
        · simp [hx]
        · simp only [hx, Option.getD_some]; exact ih j hj hx2
      obtain ⟨vs, hvs⟩ := key
      exact .cp row c l.b (l.base + r * l.st) vs (fun j hj => (hvs j (hlen ▸ hj)).1) (fun j hj => (hvs j (hlen ▸ hj)).2) (hdead h1 h2' hl) ((s.muOk _ _ _ hl).2.1)
  | agg cs vs hl hc ih =>
    intro c hv
    cases hv with
    | agg _ cv hl' hcs => exact .agg vs cv (hl ▸ hl') (fun i hi => ih i (hl ▸ hi) (hcs i (hl ▸ hi)))
  | tup cs vs hl hc ih =>
    intro c hv
    cases hv with
    | tup _ cv hl' hcs => exact .tup vs cv (hl ▸ hl') (fun i hi => ih i (hl ▸ hi) (hcs i (hl ▸ hi)))
  | iface t v v' hc ih =>
    intro c hv
    cases hv with
    | iface _ _ c' hc' => exact .iface t v' c' (ih hc')
  | cp row row' c hl hc ih =>
    intro cv hv
    cases hv with
    | cp _ _ b off vs q1 q2 q3 q4 =>
      exact .cp row' c b off vs (fun j hj => q1 j (hl ▸ hj)) (fun j hj => ih j (hl ▸ hj) (q2 j (hl ▸ hj))) (fun hm => q3 (Mut.subG hs _ hm)) q4
  | sl st rs rs' hl hr hc ih =>
    intro cv hv
    cases hv with
    | sl0 _ a cap =>
      have : rs' = [] := by cases rs' <;> simp_all
      subst this
      exact .sl0 st a cap
    | sl _ _ b off cap vs hcap hlim q1 q2 qr q3 q4 =>
      rw [hl] at hcap hlim ⊢
      exact .sl st rs' b off cap vs hcap hlim (fun i j hi hj => q1 i j (hl ▸ hi) hj) (fun i j hi hj => ih i j (hl ▸ hi) hj (q2 i j (hl ▸ hi) hj)) hr (fun hm => q3 (Mut.subG hs _ hm)) q4
  | sl0 st st' =>
    intro cv hv
    cases hv with
    | sl0 _ a cap => exact .sl0 st' a cap
    | sl _ _ b off cap vs hcap hlim q1 q2 qr q3 q4 => exact .sl0 st' _ cap
  | emp st =>
    intro cv hv
    cases hv with
    | emp a => exact .sl0 st a 0
  | any v => intro cv hv; exact .any cv
  | func fn f c f' c' hl hl2 hf hc ihf ihc =>
    intro cv hv
    cases hv with
    | func _ _ _ f2 c2 q1 q2 q3 q4 => exact .func fn f' c' f2 c2 (hl ▸ q1) (hl2 ▸ q2) (fun i hi => ihf i (hl ▸ hi) (q3 i (hl ▸ hi))) (fun i hi => ihc i (hl2 ▸ hi) (q4 i (hl2 ▸ hi)))
theorem freeze_sound (s : Sim B mu h w) (hs : Sub h2 h) {v v' : AV} (hz : Fz h h2 v v') : ∀ {c : Value}, RV h mu w v c → RV h2 mu w v' c := freeze_soundG s hs.g hz
end

section
variable {P : Program} [GW P] {f : FuncId} {n : Nat} {d : FK} {fr : Nat → AV} {ds : List AD} {h h2 : AHeap} {u : AU} {Q : QT} {k : List Item}
theorem ERv.freeze {B : Base P} {mu : Mu} {w : World} (s : Sim B mu h w) (hs : Sub h2 h) {v v' : AV} {e : Ending} (hz : Fz h h2 v v') (k : ERv h mu w (.ret v) e) : ERv h2 mu w (.ret v') e := by
  cases e with
  | returned c => exact freeze_sound s hs hz k
  | panicked _ => exact k.elim
  | outgrown => exact k.elim

/-- Returning, with what is returned made content. -/
theorem unw_retF {fn : Func} {vs : List AV} {v' : AV} (hf : P.funcs[f]? = some fn) (hx : aRes P h fr fn.results.toList = some vs) (hs : Sub h2 h) (hz : Fz h h2 (packRes vs) v') (hu : d = false) (hq : Q (.ret v') h2 u) : Unw P f n d .ret fr [] h u Q := by
  intro B mu w a cs todo mode p hm
  obtain ⟨c, h1, h2'⟩ := results_sound p.sim p.fr hx
  have hd : a.defers = [] := p.ds
  have hmode := hm.ret_inv
  refine ⟨.returned c, w, cs, _, .ret v', h2, mu, u, hq, Steps.refl P _, rfl, rfl, (by subst hu; exact ⟨hmode, hd, fn, hf, h1⟩), freeze_sound p.sim hs hz h2', p.sim.sub hs, (EXT.sub hs).g, ?_⟩
  subst hu
  rfl
/-- In the middle of a frame: whatever it still holds, read so. -/
theorem run_freeze {todo : List Item} {fr' : Nat → AV} (hs : Sub h2 h) (hz : ∀ t, Fz h h2 (fr t) (fr' t)) (hds : ds = ds) (hd : d = d) (hr : Run P f n d todo fr' ds h2 u Q) : Run P f n d todo fr ds h u Q := by
  intro B mu w a cs p
  exact (hr B mu w a cs ⟨p.size, fun t => freeze_sound p.sim hs (hz t) (p.fr t), p.ds.ext (EXT.sub hs), p.sim.sub hs, p.cs.ext (EXT.sub hs), p.rnd, p.fb⟩).ext (EXT.sub hs)

theorem Fz.int (k : IntKind) (n : Int) : Fz h h2 (.int k n) (.int k n) := .same _

/-- A contract whose answer is made content. -/
theorem ACalls.freeze {args : List AV} {Q Q' : AR → AHeap → Prop} (hc : ACalls P f args h Q) (hq : ∀ r h', Q r h' → ∃ h2 v v', r = .ret v ∧ Sub h2 h' ∧ Fz h' h2 v v' ∧ Q' (.ret v') h2) : ACalls P f args h Q' := by
  refine ⟨hc.1, fun B mu w cargs s ha => ?_⟩
  refine (hc.2 B mu w cargs s ha).mono ?_
  rintro e w' ⟨r, h', mu', q1, q2, q3, q4⟩
  obtain ⟨h2, v, v', rfl, hs, hz, hQ⟩ := hq r h' q1
  exact ⟨.ret v', h2, mu', hQ, q2.sub hs, q3.trans (EXT.sub hs), q4.freeze q2 hs hz⟩
end
end Go.Am
