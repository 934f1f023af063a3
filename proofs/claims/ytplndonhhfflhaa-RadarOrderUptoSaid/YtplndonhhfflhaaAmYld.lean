/- Range over functions: the round of a loop, the loop itself, the mark among the deferred calls. -/
import Derived.Test.YtplndonhhfflhaaAmBlk
import Derived.Test.YtplndonhhfflhaaAmFreeze
import Derived.RangeFuncIn
import Derived.RangeFuncLeaves
namespace Go.Am
open Go
set_option linter.unusedSimpArgs false
set_option linter.unusedVariables false
set_option linter.unusedSectionVars false
section
variable {P : Program} [GW P] {f : FuncId} {n : Nat} {d : FK} {fr : Nat → AV} {ds : List AD} {h : AHeap} {u : AU} {Q : QT} {k : List Item}

theorem run_beginRound {l o g : Nat} {r : Loop} (hd : d.ro = some (l, o, g)) (ho : h o = some (.blk g (.loop r))) (hs : r.state = .ready) (hr : Run P f n d k fr ds (upd h o (some (.blk g (.loop { r with state := .busy })))) u Q) :
    Run P f n d (.beginRound :: k) fr ds h u Q := by
  intro B mu w a cs p
  obtain ⟨loc, hl, rfl⟩ := p.rnd _ _ _ hd
  obtain ⟨l0, hl0, _, hb⟩ := p.sim.blks _ _ _ ho
  rw [hl] at hl0; cases hl0
  have hrun : (Instr.beginRound loc.b).run P w = .ok () { w with heap := w.heap.setIfInBounds loc.b (.loop { r with state := .busy }) } := by
    simp [Instr.beginRound, Instr.getLoop, getObj, setObj, Sem.run, Sem.run_bind, hb, hs]
  obtain ⟨s', e'⟩ := p.sim.setB (x' := .loop { r with state := .busy }) ho hl (fun _ _ _ hh => by cases hh)
  exact .ext e' (.head (stepR_beginRound (by simp [b0, hd]) hrun) (hr B mu _ a cs (p.ext e' s')))

/-- The frame of a round: the loop's own values, and what is handed over. -/
def frPut (fr : Nat → AV) : List Nat → List AV → Nat → AV
  | p :: ps, v :: vs => frPut (upd fr p v) ps vs
  | _, _ => fr
theorem frPut_ok {mu : Mu} {w : World} : ∀ (ps : List Nat) (args : List AV) (cargs : List Value) (fr : Nat → AV) (tmps : Array Value), tmps.size = n → (∀ p ∈ ps, p < n) → (∀ t, RV h mu w (fr t) (tmps.getD t undef)) → LRv h mu w args cargs →
    (∀ t, RV h mu w (frPut fr ps args t) (((ps.zip cargs).foldl (fun tmps x => tmps.setIfInBounds x.1 x.2) tmps).getD t undef)) ∧ ((ps.zip cargs).foldl (fun tmps x => tmps.setIfInBounds x.1 x.2) tmps).size = n
  | [], _, _, fr, tmps, hs, _, hf, _ => ⟨by simpa [frPut] using hf, by simpa using hs⟩
  | p :: ps, [], [], fr, tmps, hs, _, hf, _ => ⟨by simpa [frPut] using hf, by simpa using hs⟩
  | p :: ps, [], c :: cs, fr, tmps, hs, _, hf, ha => by have := ha.1; simp at this
  | p :: ps, v :: vs, [], fr, tmps, hs, _, hf, ha => by have := ha.1; simp at this
  | p :: ps, v :: vs, c :: cs, fr, tmps, hs, hp, hf, ha => by
    have hv : RV h mu w v c := by simpa using ha.2 0 (by simp)
    have hp0 := hp p (List.mem_cons_self ..)
    refine frPut_ok ps vs cs (upd fr p v) (tmps.setIfInBounds p c) (by simpa using hs) (fun q hq => hp q (List.mem_cons_of_mem _ hq)) (fun t => ?_) ⟨by have := ha.1; simpa using this, fun i hi => by simpa using ha.2 (i + 1) (by simpa using hi)⟩
    unfold upd
    by_cases ht : t = p
    · subst ht
      rw [if_pos rfl]
      simp [hs, hp0]; exact hv
    · rw [if_neg ht]
      have := hf t
      simpa [Array.getD_eq_getD_getElem?, Array.getElem?_setIfInBounds_ne (Ne.symm ht)] using this

/-- A round, from its body's run. -/
theorem yield_intro {y : YF} {o g : Nat} {r : Loop} {args : List AV} {K E : AV → AHeap → Prop} (ho : h o = some (.blk g (.loop r))) (hrd : r.state = .ready) (hpe : r.pending = none) (hfn : r.fn = f) (hsz : r.tmps.size = n) (hps : ∀ p ∈ r.params.toList, p < n)
    (hy : ∀ {mu : Mu} {w : World} {l : Nat}, y.F w mu (Mut h mu) l → ∀ t, RV h mu w (fr t) (r.tmps.getD t undef)) (hla : args.length = r.params.size)
    (hrun : ∀ l, Run P f n ⟨false, some (l, o, g)⟩ [.code r.assign, .beginRound, .code r.body] (frPut fr r.params.toList args) [] h .ret (fun res h' _ => match res with
      | .ret _ => h' o = some (.blk g (.loop { r with state := .busy })) ∧ K (.bool true) (upd h' o (some (.blk g (.loop r))))
      | .panic v => E v h')) : aYield P y o g args h K E := by
  intro B mu w loc cargs s hl hyF ha
  obtain ⟨l0, hl0, _, hb⟩ := s.blks _ _ _ ho
  rw [hl] at hl0; cases hl0
  have hcs : cargs.size = r.params.size := by have := ha.1; simp at this; omega
  refine ⟨r, hb, hcs, fun c cs => ?_⟩
  have hz : (r.params.zip cargs).foldl (fun tmps (t, a) => tmps.setIfInBounds t a) r.tmps = (r.params.toList.zip cargs.toList).foldl (fun tmps x => tmps.setIfInBounds x.1 x.2) r.tmps := by
    rw [← Array.foldl_toList, Array.toList_zip]
  obtain ⟨q1, q2⟩ := frPut_ok (n := n) r.params.toList args cargs.toList fr r.tmps hsz hps (hy hyF) ha
  rw [← hz] at q1 q2
  generalize (r.params.zip cargs).foldl (fun tmps (t, a) => tmps.setIfInBounds t a) r.tmps = tmps at q1 q2
  subst hfn
  obtain ⟨e, w', cs', frm, res, h', mu', u', a1, a2, a3, a4, a5, a6, a7, a8, a9⟩ := hrun loc.b ⟨B.n, w.heap.size⟩ mu w { tmps := tmps, defers := [] } (c :: cs) ⟨q2, q1, rfl, s.rebase rfl, trivial, (fun l' o' g' hh => by cases hh; exact ⟨loc, hl, rfl⟩), s.base, Nat.le_refl _⟩
  have a9' : cs' = c :: cs := a9
  subst a9'
  replace a7 : Sim B mu' h' w' := a7.rebase rfl
  replace a8 := a8.ext
  have hfr : (b0 r.fn ⟨false, some (loc.b, o, g)⟩).atR { tmps := tmps, defers := [] } [.code r.assign, .beginRound, .code r.body] = Frame.round loc.b r.fn tmps r.assign r.body .normal := by
    simp [Frame.round, Frame.atR, b0, KD]
  rw [hfr] at a2
  cases e with
  | outgrown => cases res <;> exact a6.elim
  | returned v =>
    cases res with
    | panic _ => exact a6.elim
    | ret v' =>
      obtain ⟨g1, g2, g3, g4⟩ := (a5 : frm.roundOf = some loc.b ∧ frm.mode = .run ∧ frm.todo = [] ∧ frm.defers = [])
      obtain ⟨k1, k2⟩ := a1
      have hl' := a8.mu _ _ _ hl
      obtain ⟨l1, hl1, _, hb1⟩ := a7.blks _ _ _ k1
      rw [hl'] at hl1; cases hl1
      have hend : (Instr.endRound loc.b none).run P w' = .ok (.bool true) { w' with heap := w'.heap.setIfInBounds loc.b (.loop r) } := by
        have : ({ r with state := .ready, pending := none } : Loop) = r := by
          cases r; simp_all
        simp [Instr.endRound, Instr.getLoop, getObj, setObj, Sem.run, Sem.run_bind, hb1]
        rw [← this]
      obtain ⟨s', e'⟩ := a7.setB (x' := .loop r) k1 hl' (fun _ _ _ hh => by cases hh)
      have hfe : frm = frm.atR { tmps := frm.tmps, defers := [] } [] := by
        cases frm; simp_all [Frame.atR]
      refine ⟨.returned (.bool true), _, .ret (.bool true), _, mu', k2, s', a8.trans e', .bool true, ?_⟩
      refine Steps.trans a2 (.one ?_)
      rw [hfe]
      exact stepR_round_end (b := frm) g1 (by rw [a4]; rfl) hend
  | panicked chain =>
    cases res with
    | ret _ => exact a6.elim
    | panic v =>
      exact ⟨.panicked chain, w', .panic v, h', mu', a1, a7, a8, a6, Steps.trans a2 (.one (step_leave_panicked a5))⟩

/-- The block of a loop's deferred calls is emptied: it is no object. -/
theorem Sim.take {B : Base P} {mu : Mu} {w : World} {b : Nat} {x : Option (List Deferred)} (s : Sim B mu h w) (hb : w.heap[b]? = some (.deferred x)) (hm : ¬ Mut h mu b) (hn : B.n ≤ b) {n0 : Nat} (hn0 : n0 ≤ b) :
    Sim B mu h { w with heap := w.heap.setIfInBounds b (.deferred none) } ∧ EXTG n0 h mu w h mu { w with heap := w.heap.setIfInBounds b (.deferred none) } := by
  have hlt : b < w.heap.size := by
    rcases Nat.lt_or_ge b w.heap.size with hh | hh
    · exact hh
    · rw [Array.getElem?_eq_none hh] at hb; cases hb
  have hne : ∀ k, k ≠ b → (w.heap.setIfInBounds b (.deferred none))[k]? = w.heap[k]? := fun k hk => Array.getElem?_setIfInBounds_ne (Ne.symm hk)
  have hself : (w.heap.setIfInBounds b (.deferred none))[b]? = some (.deferred none) := by simp [hlt]
  have ext : EXTG n0 h mu w h mu { w with heap := w.heap.setIfInBounds b (.deferred none) } :=
    ⟨rfl, rfl, rfl, by simp, fun k hk hkm => ⟨by
      by_cases hq : k = b
      · subst hq; exact .inr ⟨hn0, _, _, hb, hself⟩
      · exact .inl (hne k hq), hkm⟩, fun _ _ _ h => h⟩
  have hcell : ∀ a : Addr, ({ w with heap := w.heap.setIfInBounds b (.deferred none) } : World).cell? a = w.cell? a := fun a => by
    by_cases hq : a.block = b
    · unfold World.cell?
      show (match (w.heap.setIfInBounds b (.deferred none))[a.block]? with | some (.cells cells _ _) => _ | _ => _) = _
      rw [hq, hself, hb]
    · exact cell?_of_heap (hne _ hq)
  have hnb : ∀ {o x l}, h o = some x → mu o x.gen = some l → l.b ≠ b := fun h1 h2 hq => hm ⟨_, _, _, h1, h2, hq⟩
  refine ⟨⟨by simpa using s.base, fun o g l hl => ?_, s.fin, s.finh, fun o g st rs hx => ?_, fun o g es hx => ?_, s.inj, GW.step s.glob fun k hk => hne k (by omega), fun o g x hx => ?_⟩, ext⟩
  · obtain ⟨h1, h2, h3⟩ := s.muOk o g l hl
    refine ⟨h1, by simpa using h2, fun hc => ?_⟩
    obtain ⟨cells, e, f, k1, k2, k3⟩ := h3 hc
    have : l.b ≠ b := fun hq => by rw [hq, hb] at k1; cases k1
    exact ⟨cells, e, f, (hne _ this).trans k1, k2, k3⟩
  · obtain ⟨l, h1, h2, h3, h4, h5, h6⟩ := s.rows o g st rs hx
    refine ⟨l, h1, h2, h3, h4, h5, fun i j hi hj => ?_⟩
    obtain ⟨c, hc1, hc2⟩ := h6 i j hi hj
    exact ⟨c, (hcell _).trans hc1, hc2.extG ext⟩
  · obtain ⟨l, h1, h2, ens, clock, h3, h4, h5⟩ := s.maps o g es hx
    exact ⟨l, h1, h2, ens, clock, ⟨(hne _ (hnb hx h1)).trans h3.1, h3.2⟩, h4, fun i hi => ⟨(h5 i hi).1.extG ext, (h5 i hi).2.extG ext⟩⟩
  · obtain ⟨l, h1, h2, h3⟩ := s.blks o g x hx
    exact ⟨l, h1, h2, (hne _ (hnb hx h1)).trans h3⟩
theorem LRv.extG {n : Nat} {h h' : AHeap} {mu mu' : Mu} {w w' : World} (e : EXTG n h mu w h' mu' w') {l : List AV} {cs : List Value} (k : LRv h mu w l cs) : LRv h' mu' w' l cs := ⟨k.1, fun i hi => (k.2 i hi).extG e⟩
theorem URv.extG {n : Nat} {h h' : AHeap} {mu mu' : Mu} {w w' : World} (e : EXTG n h mu w h' mu' w') {u : AU} {m : FrameMode} (k : URv h mu w u m) : URv h' mu' w' u m := by
  unfold URv at k ⊢
  split at k
  · trivial
  · exact ⟨k.1, k.2.1, k.2.2.extG e⟩
  · exact k.elim
/-- The marks of loops among the deferred calls: they are only taken. -/
theorem unw_star {m : AU} (hr : Unw P f n d m fr ds h u Q) (hds : ds.all (fun d => !d.isStar) = true := by rfl) : Unw P f n d m fr (AD.star :: ds) h u Q := by
  intro B mu w a cs todo mode p hm
  have hp := p.ds
  unfold DsRv at hp
  obtain ⟨c1, c2, hq, ⟨bs, hnd, hbs, hall⟩, hrest⟩ := hp
  have hmr : mode ≠ .run := by intro hh; subst hh; cases m <;> simp [URv] at hm
  -- what is kept of the deferred calls behind
  have keep : ∀ {mu : Mu} {w w' : World} {n0 fb : Nat} (e : EXTG n0 h mu w h mu w') (ds : List AD) (cs : List Deferred), ds.all (fun d => !d.isStar) = true → DsRv h mu w fb ds cs → DsRv h mu w' fb ds cs := by
    intro mu w w' n0 fb e ds
    induction ds with
    | nil => intro cs _ hh; exact hh
    | cons d ds ih =>
      intro cs hal hh
      simp only [List.all_cons, Bool.and_eq_true, Bool.not_eq_true'] at hal
      unfold DsRv at hh ⊢
      rw [hal.1] at hh ⊢
      obtain ⟨c, c2, h1, ⟨cap, h2, h2'⟩, h3⟩ := hh
      exact ⟨c, c2, h1, ⟨cap, h2, h2'.extG e⟩, ih c2 hal.2 h3⟩
  have key : ∀ (bs : List Nat) (w : World) (c1 : List Deferred) (a : Act), Pre n d fr ds h u B mu w { a with defers := c2 } cs → URv h mu w m mode → a.defers = c1 ++ c2 → bs.Nodup → c1.map (·.target) = bs.map (fun b => .collected b) →
      (∀ b ∈ bs, b < w.heap.size ∧ ¬ Mut h mu b ∧ B.fb ≤ b ∧ w.heap[b]? = some (.deferred (some []))) → Post P f d B h mu w cs Q (lone { (b0 f d).atR a todo with mode := mode } cs w) := by
    intro bs
    induction bs with
    | nil =>
      intro w c1 a p hm hq _ hbs _
      have : c1 = [] := by simpa using hbs
      subst this
      have ha : ({ a with defers := c2 } : Act) = a := by cases a; simp at hq; subst hq; rfl
      rw [ha] at p
      exact hr B mu w a cs todo mode p hm
    | cons b bs ih =>
      intro w c1 a p hm hq hnd hbs hall
      match c1, hbs with
      | dc :: c1, hbs =>
        simp only [List.map_cons, List.cons.injEq] at hbs
        obtain ⟨k1, k2, k3, k4⟩ := hall b (List.mem_cons_self ..)
        obtain ⟨s', e'⟩ := p.sim.take k4 k2 (Nat.le_trans p.fb.1 k3) k3
        have hk : (Instr.takeDeferred b).run P w = .ok [] { w with heap := w.heap.setIfInBounds b (.deferred none) } := by
          simp [Instr.takeDeferred, getObj, setObj, Sem.run, Sem.run_bind, k4]
        have h1 := step_collected (P := P) (fr := { (b0 f d).atR a todo with mode := mode }) (cs := cs) (w := w) hmr (d := dc) (ds := c1 ++ c2) (by simpa [Frame.atR] using hq) hbs.1 hk
        have p' : Pre n d fr ds h u B mu { w with heap := w.heap.setIfInBounds b (.deferred none) } { a with defers := c2 } cs :=
          ⟨p.size, fun t => (p.fr t).extG e', keep e' ds c2 hds p.ds, s', by
            obtain ⟨q, ro⟩ := d
            cases q with
            | false => trivial
            | true => obtain ⟨c, r, h1, h2⟩ := p.cs; exact ⟨c, r, h1, h2.extG e'⟩, p.rnd, p.fb.1, by simpa using p.fb.2⟩
        have hnd' := List.nodup_cons.1 hnd
        exact .extG e' (.head h1 (ih _ c1 { a with defers := c1 ++ c2 } p' (hm.extG e') rfl hnd'.2 hbs.2 (fun b' hb' => by
          obtain ⟨q1, q2, q3, q4⟩ := hall b' (List.mem_cons_of_mem _ hb')
          refine ⟨by simpa using q1, q2, q3, ?_⟩
          have hne : b' ≠ b := fun hq => hnd'.1 (hq ▸ hb')
          exact (Array.getElem?_setIfInBounds_ne (Ne.symm hne)).trans q4)))
  exact key bs w c1 a ⟨p.size, p.fr, hrest, p.sim, p.cs, p.rnd, p.fb⟩ hm hq hnd hbs hall
/-- At any time there may be no marks. -/
theorem run_star {todo : List Item} (hr : Run P f n d todo fr (AD.star :: ds) h u Q) : Run P f n d todo fr ds h u Q := fun B mu w a cs p =>
  hr B mu w a cs ⟨p.size, p.fr, ⟨[], a.defers, rfl, ⟨[], List.nodup_nil, rfl, fun b hb => by cases hb⟩, p.ds⟩, p.sim, p.cs, p.rnd, p.fb⟩

/-- What the loop's record is. -/
structure LpOk (f n : Nat) (params : Array Tmp) (assign body : Code) (r : Loop) : Prop where
  ready : r.state = .ready
  pend : r.pending = none
  fn : r.fn = f
  size : r.tmps.size = n
  params : r.params = params
  assign : r.assign = assign
  body : r.body = body
/-- A range over a function: the function is called with the loop's yield. 'oD', 'oL': names for the block of the deferred calls and the loop's record. -/
theorem run_rangeFunc {x : Operand} {params : Array Tmp} {assign body : Code} {gf : FuncId} {cap : List AV} (oL : Nat) (hro : d.ro = none) (hx : ev fr x = .func (.func gf) [] cap) (hoL : h oL = none)
    (hgo : ∀ (gL : Nat) (y : YF) (r : Loop), LpOk f n params assign body r → (∀ {mu : Mu} {w : World} {M : Nat → Prop} {l : Nat}, y.F w mu M l → ∀ t, Rv w mu M (fr t) (r.tmps.getD t undef)) →
      ACalls P gf ([.yld y oL gL] ++ cap) (upd h oL (some (.blk gL (.loop r)))) (fun res h' => match res with
        | .ret _ => (∃ r' : Loop, h' oL = some (.blk gL (.loop r')) ∧ r'.state ≠ .busy ∧ r'.pending = none) ∧ Run P f n d k fr (AD.star :: ds) (upd h' oL none) u Q
        | .panic v => Unw P f n d (.pan v false) fr (AD.star :: ds) (upd h' oL none) u Q)) :
    Run P f n d (.code (.rangeFunc x params assign body) :: k) fr (AD.star :: ds) h u Q := by
  intro B mu w a cs p
  obtain ⟨s1, e1⟩ := p.sim.junk (.deferred (some []))
  obtain ⟨gL, hgL⟩ := s1.fresh oL
  generalize hr : ({ state := .ready, pending := none, fn := f, tmps := a.tmps, params := params, assign := assign, body := body, defers := w.heap.size } : Loop) = r
  obtain ⟨s2, e2⟩ := s1.pushB (.loop r) hoL hgL
  have e12 := e1.trans e2
  have hsz1 : (w.alloc (.deferred (some []))).heap.size = w.heap.size + 1 := alloc_size ..
  have hent : (Instr.enterLoop (b0 f d).fn a.tmps params assign body (b0 f d).roundOf).run P w = .ok (w.heap.size + 1, [{ target := .collected w.heap.size, args := #[] }]) ((w.alloc (.deferred (some []))).alloc (.loop r)) := by
    have hro' : (b0 f d).roundOf = none := by simp [b0, hro]
    rw [hro', ← hr, ← hsz1]
    rfl
  have p2 := p.ext e12 s2
  -- what the loop knows
  let y : YF := ⟨fun w mu M l => ∀ t, Rv w mu M (fr t) (a.tmps.getD t undef), fun e hh t => (hh t).extG e⟩
  have hcall := hgo gL y r (by subst hr; exact ⟨rfl, rfl, rfl, p.size, rfl, rfl, rfl⟩) (fun hh t => by subst hr; exact hh t)
  obtain ⟨hb, hcall⟩ := hcall
  have hxv := ev_sound p2.fr x
  rw [hx] at hxv
  obtain ⟨f2, c2, hfv, hf2, hc2⟩ := func_inv hxv
  have hf2' : f2 = [] := by have := hf2.1; simp at this; exact List.length_eq_zero_iff.1 this.symm
  subst hf2'
  have hinv : ((resolve a.eval (rangeCall x (w.heap.size + 1)) 0) >>= fun d => invoke d.target d.args).run P ((w.alloc (.deferred (some []))).alloc (.loop r)) = .ok (.enter gf (#[] ++ #[Value.func (.yield (w.heap.size + 1)) #[] #[]] ++ c2.toArray)) ((w.alloc (.deferred (some []))).alloc (.loop r)) := by
    have := resolve_val (P := P) (ρ := a.eval) (x := x) (args := #[.const (.func (.yield (w.heap.size + 1)) #[] #[])]) (ts := #[]) (ty := 0) (w := (w.alloc (.deferred (some []))).alloc (.loop r)) hfv hb
    simpa [rangeCall, Act.eval] using this
  have hres : ∃ dd, (resolve a.eval (rangeCall x (w.heap.size + 1)) 0).run P ((w.alloc (.deferred (some []))).alloc (.loop r)) = .ok dd ((w.alloc (.deferred (some []))).alloc (.loop r)) ∧ (invoke dd.target dd.args).run P ((w.alloc (.deferred (some []))).alloc (.loop r)) = .ok (.enter gf (#[] ++ #[Value.func (.yield (w.heap.size + 1)) #[] #[]] ++ c2.toArray)) ((w.alloc (.deferred (some []))).alloc (.loop r)) := by
    rw [Sem.run_bind] at hinv
    have hrr : ∃ dd, (resolve a.eval (rangeCall x (w.heap.size + 1)) 0).run P ((w.alloc (.deferred (some []))).alloc (.loop r)) = .ok dd ((w.alloc (.deferred (some []))).alloc (.loop r)) := by
      simp [rangeCall, resolve, hfv, Deferred.ofValue]
    obtain ⟨dd, hdd⟩ := hrr
    refine ⟨dd, hdd, ?_⟩
    rw [hdd] at hinv
    simpa using hinv
  obtain ⟨dd, hd1, hd2⟩ := hres
  have henter := stepR_rangeFunc (P := P) (b := b0 f d) (a := a) (k := k) (cs := cs) (w := w) hent hd1 hd2
  have hlL : upd2 mu oL gL ⟨(w.alloc (.deferred (some []))).heap.size, 0, 0, 0, false⟩ oL gL = some ⟨(w.alloc (.deferred (some []))).heap.size, 0, 0, 0, false⟩ := by
    simp [upd2]
  have hargs : LRv (upd h oL (some (.blk gL (.loop r)))) (upd2 mu oL gL ⟨(w.alloc (.deferred (some []))).heap.size, 0, 0, 0, false⟩) ((w.alloc (.deferred (some []))).alloc (.loop r)) ([.yld y oL gL] ++ cap) (#[] ++ #[Value.func (.yield (w.heap.size + 1)) #[] #[]] ++ c2.toArray).toList := by
    simp only [Array.toList_append, List.nil_append]
    refine LRv.append ⟨rfl, fun i hi => ?_⟩ hc2
    have : i = 0 := by simpa using hi
    subst this
    have hv := Rv.yld (w := (w.alloc (.deferred (some []))).alloc (.loop r)) (M := Mut (upd h oL (some (.blk gL (.loop r)))) (upd2 mu oL gL ⟨(w.alloc (.deferred (some []))).heap.size, 0, 0, 0, false⟩)) y oL gL _ hlL (fun t => p2.fr t)
    show Rv _ _ _ (.yld y oL gL) (.func (.yield (w.heap.size + 1)) #[] #[])
    rw [← hsz1]
    exact hv
  obtain ⟨e, w', frm, ⟨res, h', mu', hQ, hs', hext, hE⟩, hcomes, hfn, hleave⟩ := hcall B _ _ _ s2 hargs ((b0 f d).atR { a with defers := [{ target := .collected w.heap.size, args := #[] }] ++ a.defers } (.inRangeFunc (w.heap.size + 1) :: k) :: cs)
  have p3 := p2.ext hext hs'
  have hsubL : Sub (upd h' oL none) h' := fun o' y' hh => by
    unfold upd at hh
    split at hh
    · cases hh
    · exact hh
  have hmark : DsRv h' mu' w' B.fb (AD.star :: ds) ([{ target := .collected w.heap.size, args := #[] }] ++ a.defers) := by
    have hp0 := p.ds
    unfold DsRv at hp0 ⊢
    obtain ⟨c1, c2, hq, ⟨bs, k1, k2, k3⟩, hrest⟩ := hp0
    have E := e12.trans hext
    have hD : (w.alloc (.deferred (some []))).heap[w.heap.size]? = some (.deferred (some [])) := heap_push_eq
    have hD2 : ((w.alloc (.deferred (some []))).alloc (.loop r)).heap[w.heap.size]? = some (.deferred (some [])) := by rw [heap_push_lt (by rw [hsz1]; omega)]; exact hD
    have hDm : ¬ Mut (upd h oL (some (.blk gL (.loop r)))) (upd2 mu oL gL ⟨(w.alloc (.deferred (some []))).heap.size, 0, 0, 0, false⟩) w.heap.size := by
      rintro ⟨o1, x1, l1, q1, q2, q3⟩
      by_cases ho1 : o1 = oL
      · subst ho1
        rw [upd_same] at q1; cases q1
        rw [show (AO.blk gL (.loop r)).gen = gL from rfl, hlL] at q2; cases q2
        simp only at q3; rw [hsz1] at q3; omega
      · rw [upd_ne _ _ _ ho1] at q1
        have : mu o1 x1.gen = some l1 := by
          have : upd2 mu oL gL ⟨(w.alloc (.deferred (some []))).heap.size, 0, 0, 0, false⟩ o1 x1.gen = mu o1 x1.gen := by simp [upd2, ho1]
          rw [← this]; exact q2
        have := (p.sim.muOk _ _ _ this).2.1
        omega
    have hsz2 : ((w.alloc (.deferred (some []))).alloc (.loop r)).heap.size = w.heap.size + 2 := by rw [alloc_size, hsz1]
    obtain ⟨j1, j2⟩ := hext.same w.heap.size (by rw [hsz2]; omega) hDm
    refine ⟨{ target := .collected w.heap.size, args := #[] } :: c1, c2, by rw [hq]; rfl, ⟨w.heap.size :: bs, List.nodup_cons.2 ⟨fun hm => by have := (k3 _ hm).1; omega, k1⟩, by simp [k2], fun b hb => ?_⟩, hrest.ext E⟩
    rcases List.mem_cons.1 hb with rfl | hb
    · exact ⟨Nat.lt_of_lt_of_le (by rw [hsz2]; omega) hext.size, j2, p.fb.2, j1.trans hD2⟩
    · obtain ⟨q1, q2, q3, q4⟩ := k3 b hb
      obtain ⟨s1, s2⟩ := E.same b q1 q2
      exact ⟨Nat.lt_of_lt_of_le q1 E.size, s2, q3, s1.trans q4⟩
  have p4 : Pre n d fr (AD.star :: ds) h' u B mu' w' { a with defers := [{ target := .collected w.heap.size, args := #[] }] ++ a.defers } cs := ⟨p3.size, p3.fr, hmark, hs', p3.cs, p3.rnd, p3.fb⟩
  cases e with
  | outgrown => cases res <;> exact hE.elim
  | returned c =>
    cases res with
    | panic v => exact hE.elim
    | ret v =>
      obtain ⟨⟨r', hr', hst, hpd⟩, hrun⟩ := hQ
      have hfin := step_leave_returned hleave (c := (b0 f d).atR { a with defers := [{ target := .collected w.heap.size, args := #[] }] ++ a.defers } (.inRangeFunc (w.heap.size + 1) :: k)) (cs := cs)
      rw [finish_atR_inRangeFunc] at hfin
      have hlL' := hext.mu _ _ _ hlL
      rw [hsz1] at hlL'
      obtain ⟨l1, hl1, _, hb1⟩ := hs'.blks _ _ _ hr'
      rw [hlL'] at hl1; cases hl1
      have hend : (Instr.endLoop (w.heap.size + 1)).run P w' = .ok none { w' with heap := w'.heap.setIfInBounds (w.heap.size + 1) (.loop { r' with state := .exhausted }) } := by
        have hnb : (r'.state == .busy) = false := by
          cases hq : r'.state with
          | busy => exact absurd hq hst
          | ready => rfl
          | done => rfl
          | exhausted => rfl
        simp [Instr.endLoop, Instr.getLoop, getObj, setObj, Sem.run, Sem.run_bind, hb1, hnb, hst, hpd]
      obtain ⟨s5, e5⟩ := hs'.setB (x' := .loop { r' with state := .exhausted }) hr' hlL' (fun _ _ _ hh => by cases hh)
      have hsub5 : Sub (upd h' oL none) (upd h' oL (some (.blk gL (.loop { r' with state := .exhausted })))) := fun o' y' hh => by
        unfold upd at hh ⊢
        split at hh
        · cases hh
        · rename_i hq; rw [if_neg hq]; exact hh
      have p5 := (p4.ext e5 s5).ext (EXT.sub hsub5) (s5.sub hsub5)
      exact .ext (e12.trans hext) (.ext e5 (.ext (EXT.sub hsub5) (.steps (.head henter (Steps.trans hcomes (.head hfin (.one (stepR_endRangeFunc hend))))) (hrun B mu' _ _ cs p5))))
  | panicked chain =>
    cases res with
    | ret v => exact hE.elim
    | panic v =>
      have hfin := step_leave_panicked hleave (c := (b0 f d).atR { a with defers := [{ target := .collected w.heap.size, args := #[] }] ++ a.defers } (.inRangeFunc (w.heap.size + 1) :: k)) (cs := cs)
      obtain ⟨x', hx', x1, x2, x3⟩ := hE.panic_inv
      cases hx'
      rw [Frame.raise_atR] at hfin
      have p5 := p4.ext (EXT.sub hsubL) (hs'.sub hsubL)
      have hu5 : URv (upd h' oL none) mu' w' (.pan v false) (.panicking [x']) := ⟨x1, x2, x3.ext (EXT.sub hsubL)⟩
      exact .ext (e12.trans hext) (.ext (EXT.sub hsubL) (.steps (.head henter (Steps.trans hcomes (.one hfin))) (hQ B mu' w' _ cs _ _ p5 hu5)))
end
end Go.Am
