/- Regions, calls, entering a function. -/
import Derived.Test.YtplndonhhfflhaaAmRun
namespace Go.Am
open Go
set_option linter.unusedSimpArgs false
set_option linter.unusedVariables false
set_option linter.unusedSectionVars false

section
variable {P : Program} [GW P] {b : Frame} {a : Act} {k : List Item} {cs : List Frame} {w w' : World} {ops : Array Oper} {i : Nat} {rest : List Nat} {o : Oper}

theorem fin_at (ho : ops[i]? = some o) (v : Value) : (b.atR a (.inRegion ops (i :: rest) :: k)).finish v = b.atR (a.put o.dst v) (.inRegion ops rest :: k) := by
  rw [Frame.finish_atR, ho]; rfl
theorem step_val (ho : ops[i]? = some o) (hw : Region.wanted o (yielded ops a.tmps) = true) {v : Value} (hr : (o.semAt b.roundOf a.eval).run P w = .ok (.value v) w') :
    step P (lone (b.atR a (.inRegion ops (i :: rest) :: k)) cs w) = .next (lone (b.atR (a.put o.dst v) (.inRegion ops rest :: k)) cs w') := by
  refine step_lone_go ?_
  rw [stepGR_op ho hw, ← fin_at ho]
  simp [stepG.apply, hr]
theorem step_skipped (ho : ops[i]? = some o) (hw : Region.wanted o (yielded ops a.tmps) = true) (hr : (o.semAt b.roundOf a.eval).run P w = .ok .skip w') :
    step P (lone (b.atR a (.inRegion ops (i :: rest) :: k)) cs w) = .next (lone (b.atR (a.put o.dst undef) (.inRegion ops rest :: k)) cs w') := by
  refine step_lone_go ?_
  rw [stepGR_op ho hw, ← fin_at ho]
  simp [stepG.apply, hr]
theorem step_deferOp (ho : ops[i]? = some o) (hw : Region.wanted o (yielded ops a.tmps) = true) {d : Deferred} (hr : (o.semAt b.roundOf a.eval).run P w = .ok (.defer d) w') :
    step P (lone (b.atR a (.inRegion ops (i :: rest) :: k)) cs w) = .next (lone (b.atR ({ a with defers := d :: a.defers }.put o.dst undef) (.inRegion ops rest :: k)) cs w') := by
  refine step_lone_go ?_
  have : ({ b.atR a (.inRegion ops (i :: rest) :: k) with defers := d :: a.defers } : Frame).finish undef = b.atR ({ a with defers := d :: a.defers }.put o.dst undef) (.inRegion ops rest :: k) := by
    have := Frame.finish_atR b { a with defers := d :: a.defers } ops i rest k undef
    rw [ho] at this; exact this
  rw [stepGR_op ho hw]; simp only [stepG.apply, Sem.runT_eq, hr, GStep.bare_after]
  exact congrArg (fun fr => GStep.go { frame := fr, callers := cs, status := .running, dying := none } w') this
theorem step_enterOp (ho : ops[i]? = some o) (hw : Region.wanted o (yielded ops a.tmps) = true) {g : FuncId} {args : Array Value} (hr : (o.semAt b.roundOf a.eval).run P w = .ok (.enter g args) w') :
    step P (lone (b.atR a (.inRegion ops (i :: rest) :: k)) cs w) = .next (lone (Frame.enter P g args .normal) (b.atR a (.inRegion ops (i :: rest) :: k) :: cs) w') := by
  refine step_lone_go ?_
  rw [stepGR_op ho hw]
  simp [stepG.apply, hr, Frame.atR]
theorem step_roundOp (ho : ops[i]? = some o) (hw : Region.wanted o (yielded ops a.tmps) = true) {l : Nat} {f : FuncId} {tmps : Array Value} {assign body : Code} (hr : (o.semAt b.roundOf a.eval).run P w = .ok (.round l f tmps assign body) w') :
    step P (lone (b.atR a (.inRegion ops (i :: rest) :: k)) cs w) = .next (lone (Frame.round l f tmps assign body .normal) (b.atR a (.inRegion ops (i :: rest) :: k) :: cs) w') := by
  refine step_lone_go ?_
  rw [stepGR_op ho hw]
  simp [stepG.apply, hr, Frame.atR]
theorem step_panicOp (ho : ops[i]? = some o) (hw : Region.wanted o (yielded ops a.tmps) = true) {v : Value} (hr : (o.semAt b.roundOf a.eval).run P w = .halt (.panic v) w') :
    step P (lone (b.atR a (.inRegion ops (i :: rest) :: k)) cs w) = .next (lone { b.atR a (.inRegion ops (i :: rest) :: k) with mode := .panicking [{ v, recovered := false }] } cs w') := by
  refine step_lone_go ?_
  rw [stepGR_op ho hw, ← Frame.raise_atR]
  simp [stepG.apply, hr]
theorem step_recoverOp (ho : ops[i]? = some o) (hw : Region.wanted o (yielded ops a.tmps) = true) (hb : b.kind = .deferred) (hro : b.roundOf = none) (hr : (execOp a.eval o).run P w = .ok .recover w') :
    step P (lone (b.atR a (.inRegion ops (i :: rest) :: k)) cs w) = .next (match recoverD cs with
      | some (v, cs') => lone (b.atR (a.put o.dst v) (.inRegion ops rest :: k)) cs' w'
      | none => lone (b.atR (a.put o.dst .nilIface) (.inRegion ops rest :: k)) cs w') := by
  have hk : (b.atR a (.inRegion ops (i :: rest) :: k)).kind = .deferred := hb
  have htr := tryRecover_deferred hk cs
  cases hq : recoverD cs with
  | none =>
    rw [hq] at htr
    refine step_lone_go ?_
    rw [stepGR_op ho hw, hro, Oper.semAt_none, ← fin_at ho]
    simp only [Frame.atR, hro] at htr ⊢
    simp [stepG.apply, hr, htr, hro]
  | some x =>
    obtain ⟨v, cs'⟩ := x
    rw [hq] at htr
    refine step_lone_go ?_
    rw [stepGR_op ho hw, hro, Oper.semAt_none, ← fin_at ho]
    simp only [Frame.atR, hro] at htr ⊢
    simp [stepG.apply, hr, htr, hro]
end

def aWanted (all : List Oper) (fr : Nat → AV) (o : Oper) : Option Bool :=
  match o.guard with
  | none => some true
  | some (j, want) => match (all[j]?).bind (·.dst) with
    | none => some false
    | some t => match fr t with
      | .bool b => some (b == want)
      | .tup _ => some false
      | _ => none
def aCall (P : Program) [GW P] (g : FuncId) (args : List AV) (h : AHeap) (K E : AV → AHeap → Prop) : Prop :=
  ACalls P g args h fun r h' => match r with
    | .ret v => K v h'
    | .panic v => E v h'
/-- What a call of a loop's 'yield' does: the round is run, and the caller goes on, or a panic goes into it. -/
def aYield (P : Program) [GW P] (y : YF) (o g : Nat) (args : List AV) (h : AHeap) (K E : AV → AHeap → Prop) : Prop :=
  ∀ (B : Base P) mu w (loc : Loc) (cargs : Array Value), Sim B mu h w → mu o g = some loc → y.F w mu (Mut h mu) loc.b → LRv h mu w args cargs.toList →
    ∃ r, w.heap[loc.b]? = some (.loop r) ∧ cargs.size = r.params.size ∧ ∀ (c : Frame) (cs : List Frame), ∃ e w' res h' mu', (match res with | .ret v => K v h' | .panic v => E v h') ∧ Sim B mu' h' w' ∧ EXT h mu w h' mu' w' ∧ ERv h' mu' w' res e ∧
      match e with
      | .returned v => Steps P (lone (Frame.round loc.b r.fn ((r.params.zip cargs).foldl (fun tmps (t, a) => tmps.setIfInBounds t a) r.tmps) r.assign r.body .normal) (c :: cs) w) (lone (c.finish v) cs w')
      | .panicked chain => Steps P (lone (Frame.round loc.b r.fn ((r.params.zip cargs).foldl (fun tmps (t, a) => tmps.setIfInBounds t a) r.tmps) r.assign r.body .normal) (c :: cs) w) (lone (c.raise chain) cs w')
      | .outgrown => False
/-- Where a region goes on, and where a panic out of it goes: as predicates, so that a walk need not look at what follows. -/
abbrev KT := (Nat → AV) → List AD → AHeap → AU → Prop
def aOne (P : Program) [GW P] (d : FK) (U : AV → KT) (fr : Nat → AV) (ds : List AD) (h : AHeap) (u : AU) (op : Op) (K : AV → List AD → AHeap → AU → Prop) : Prop :=
  match op with
  | .call ⟨.value x, args, _⟩ => match ev fr x with
    | .func (.func g) first cap => aCall P g (first ++ evs fr args.toList ++ cap) h (fun v h' => K v ds h' u) (fun v h' => U v fr ds h' u)
    | .yld y o g => aYield P y o g (evs fr args.toList) h (fun v h' => K v ds h' u) (fun v h' => U v fr ds h' u)
    | _ => False
  | .call ⟨.builtin .recover, _, _⟩ => match u with
    | .pan v false => d = (true : Bool) ∧ K v ds h (.pan v true)
    | .ret => d = (true : Bool) ∧ K .nili ds h .ret
    | _ => False
  | .defer ⟨.value x, args, _⟩ => match ev fr x with
    | .func (.func g) first cap => d.ro = none ∧ AD.isStar ⟨g, first ++ evs fr args.toList ++ cap⟩ = false ∧ K .und (⟨g, first ++ evs fr args.toList ++ cap⟩ :: ds) h u
    | _ => False
  | .panic x => match ev fr x with
    | .iface t v => U (.iface t v) fr ds h u
    | _ => False
  | op => aop P fr h op (fun v h' => K v ds h' u)
def aOps (P : Program) [GW P] (n : Nat) (d : FK) (all : List Oper) (K : KT) (U : AV → KT) : List Oper → (Nat → AV) → List AD → AHeap → AU → Prop
  | [], fr, ds, h, u => K fr ds h u
  | o :: r, fr, ds, h, u => dstOk n o.dst = true ∧ match aWanted all fr o with
    | none => False
    | some false => aOps P n d all K U r (putD fr o.dst .und) ds h u
    | some true => aOne P d U fr ds h u o.op (fun v ds' h' u' => aOps P n d all K U r (putD fr o.dst v) ds' h' u')

section
variable {P : Program} [GW P] {f : FuncId} {n : Nat} {d : FK} {fr : Nat → AV} {ds : List AD} {h : AHeap} {u : AU} {Q : QT} {k : List Item}

theorem wanted_sound {B : Base P} {mu : Mu} {w : World} {a : Act} {ops : Array Oper} {o : Oper} {b : Bool} (hf : FrOk h mu w fr a) (hx : aWanted ops.toList fr o = some b) : Region.wanted o (yielded ops a.tmps) = b := by
  unfold aWanted at hx
  unfold Region.wanted
  split at hx
  · rename_i hg; cases hx; rw [hg]
  · rename_i j want hg
    rw [hg]
    simp only
    unfold yielded
    rw [Array.getElem?_toList] at hx
    split at hx
    · rename_i hq
      cases hx
      rw [hq]; rfl
    · rename_i t hq
      rw [hq]
      have ht := hf t
      simp only [Option.bind_some]
      cases hc : a.tmps[t]? with
      | none =>
        have he : a.tmps.getD t undef = undef := by simp [hc]
        rw [he] at ht
        split at hx
        · rename_i b' hb; rw [hb] at ht; cases ht
        · cases hx; rfl
        · cases hx
      | some c =>
        have he : a.tmps.getD t undef = c := by simp [hc]
        rw [he] at ht
        split at hx
        · rename_i b' hb
          rw [hb] at ht; cases ht
          cases hx
          simp
        · rename_i l hb
          rw [hb] at ht; cases ht
          cases hx; rfl
        · cases hx

theorem resolve_yld {ρ : Operand → Value} {x : Operand} {args ts : Array _} {ty : TypeId} {l : Nat} {r : Loop} {w : World} (hx : ρ x = .func (.yield l) #[] #[]) (hb : w.heap[l]? = some (.loop r)) (hs : args.size = r.params.size) :
    ((resolve ρ ⟨.value x, args, ts⟩ ty) >>= fun d => invoke d.target d.args).run P w = .ok (.round l r.fn ((r.params.zip (args.map ρ)).foldl (fun tmps (t, a) => tmps.setIfInBounds t a) r.tmps) r.assign r.body) w := by
  simp [resolve, hx, Deferred.ofValue, invoke, Instr.yield, Instr.getLoop, getObj, Sem.run, hb, hs]
theorem resolve_val {ρ : Operand → Value} {x : Operand} {args ts : Array _} {ty : TypeId} {g : FuncId} {f1 c1 : Array Value} {w : World} (hx : ρ x = .func (.func g) f1 c1) (hb : HasBody P g) :
    ((resolve ρ ⟨.value x, args, ts⟩ ty) >>= fun d => invoke d.target d.args).run P w = .ok (.enter g (f1 ++ args.map ρ ++ c1)) w := by
  obtain ⟨gf, gc, h1, h2, h3⟩ := hb
  simp [resolve, hx, Deferred.ofValue, invoke, callFunc, h1, h2, h3]

theorem LRv.append {mu : Mu} {w : World} {l1 l2 : List AV} {c1 c2 : List Value} (h1 : LRv h mu w l1 c1) (h2 : LRv h mu w l2 c2) : LRv h mu w (l1 ++ l2) (c1 ++ c2) := by
  refine ⟨by simp [h1.1, h2.1], fun i hi => ?_⟩
  by_cases hlt : i < l1.length
  · have := h1.2 i hlt
    rw [show (l1 ++ l2).getD i .und = l1.getD i .und by simp [List.getD, List.getElem?_append_left hlt], show (c1 ++ c2).getD i undef = c1.getD i undef by simp [List.getD, List.getElem?_append_left (h1.1 ▸ hlt)]]
    exact this
  · have hi2 : i - l1.length < l2.length := by simp at hi; omega
    have := h2.2 _ hi2
    rw [show (l1 ++ l2).getD i .und = l2.getD (i - l1.length) .und by simp [List.getD, List.getElem?_append_right (Nat.le_of_not_lt hlt)],
      show (c1 ++ c2).getD i undef = c2.getD (i - l1.length) undef by rw [h1.1] at hlt ⊢; simp [List.getD, List.getElem?_append_right (Nat.le_of_not_lt hlt)]]
    exact this

theorem func_inv {mu : Mu} {w : World} {fn : Fn} {f1 c1 : List AV} {c : Value} (hv : RV h mu w (.func fn f1 c1) c) : ∃ f2 c2 : List Value, c = .func fn f2.toArray c2.toArray ∧ LRv h mu w f1 f2 ∧ LRv h mu w c1 c2 := by
  cases hv with
  | func _ _ _ f2 c2 hf hc h1 h2 => exact ⟨f2, c2, rfl, ⟨hf, h1⟩, ⟨hc, h2⟩⟩

/-- One operation of a region. -/
theorem one_sound {ops : Array Oper} {i : Nat} {o : Oper} {rest' : List Nat} {fr : Nat → AV} {ds : List AD} {h : AHeap} {u : AU} (ho : ops[i]? = some o) (hdst : dstOk n o.dst = true) (hwt : aWanted ops.toList fr o = some true)
    (hx : aOne P d (fun v fr ds h u => Unw P f n d (.pan v false) fr ds h u Q) fr ds h u o.op (fun v ds' h' u' => Run P f n d (.inRegion ops rest' :: k) (putD fr o.dst v) ds' h' u' Q)) : Run P f n d (.inRegion ops (i :: rest') :: k) fr ds h u Q := by
  intro B mu w a cs p
  have hw := wanted_sound (B := B) p.fr hwt
  have valued : ∀ {K : AV → AHeap → Prop}, aop P fr h o.op K → (∀ v h', K v h' → Run P f n d (.inRegion ops rest' :: k) (putD fr o.dst v) ds h' u Q) → Post P f d B h mu w cs Q (lone ((b0 f d).atR a (.inRegion ops (i :: rest') :: k)) cs w) := by
    intro K hK hn
    obtain ⟨nx, w', x, h', mu', r1, r2, r3, r4, r5⟩ := aop_sound p.sim p.fr hK
    have p2 := p.ext r5 r4
    rw [← Oper.semAt_eq (b0 f d).roundOf a.eval o (fun c hc => by rw [hc] at hK; exact hK.elim)] at r1
    rcases r2 with ⟨c, rfl, hc⟩ | ⟨rfl, rfl⟩
    · exact .ext r5 (.head (step_val ho hw r1) (hn x h' r3 B mu' w' _ cs (p2.put hdst hc)))
    · exact .ext r5 (.head (step_skipped ho hw r1) (hn _ h' r3 B mu' w' _ cs (p2.put hdst Rv.und)))
  obtain ⟨dst, op, ty, pos, after, guard⟩ := o
  simp only at hx hdst valued
  unfold aOne at hx
  split at hx
  · rename_i x args ts
    split at hx
    · rename_i g first cap hev
      obtain ⟨hb, hcall⟩ := hx
      have hxv := ev_sound p.fr x
      rw [hev] at hxv
      obtain ⟨f2, c2, hfv, hf2, hc2⟩ := func_inv hxv
      have hrun : (execOp a.eval ⟨dst, .call ⟨.value x, args, ts⟩, ty, pos, after, guard⟩).run P w = .ok (.enter g (f2.toArray ++ args.map a.eval ++ c2.toArray)) w := resolve_val hfv hb
      have hargs : LRv h mu w (first ++ evs fr args.toList ++ cap) (f2.toArray ++ args.map a.eval ++ c2.toArray).toList := by
        simp only [Array.toList_append, Array.toList_map]
        exact (hf2.append (evs_sound p.fr args.toList)).append hc2
      have hen := step_enterOp (b := b0 f d) (rest := rest') (k := k) (cs := cs) ho hw (by rw [Oper.semAt_eq _ _ _ (fun c hc => by simp at hc)]; exact hrun)
      obtain ⟨e, w', frm, ⟨res, h', mu', hQ, hs', hext, hE⟩, hcomes, hfn, hleave⟩ := hcall B mu w _ p.sim hargs ((b0 f d).atR a (.inRegion ops (i :: rest') :: k) :: cs)
      have p2 := p.ext hext hs'
      cases e with
      | outgrown => cases res <;> exact hE.elim
      | returned c =>
        cases res with
        | panic v => exact hE.elim
        | ret v =>
          have hfin := step_leave_returned hleave (c := (b0 f d).atR a (.inRegion ops (i :: rest') :: k)) (cs := cs)
          rw [fin_at ho] at hfin
          exact .ext hext (.steps (.head hen (Steps.trans hcomes (.one hfin))) (hQ B mu' w' _ cs (p2.put hdst hE)))
      | panicked chain =>
        cases res with
        | ret v => exact hE.elim
        | panic v =>
          have hfin := step_leave_panicked hleave (c := (b0 f d).atR a (.inRegion ops (i :: rest') :: k)) (cs := cs)
          obtain ⟨x', hx', x1, x2, x3⟩ := hE.panic_inv
          cases hx'
          exact .ext hext (.steps (.head hen (Steps.trans hcomes (.one hfin))) (hQ B mu' w' a cs _ _ p2 ⟨x1, x2, x3⟩))
    · rename_i y oo gg hev
      have hxv := ev_sound p.fr x
      rw [hev] at hxv
      generalize hcx : a.eval x = cx at hxv
      cases hxv with
      | yld _ _ _ loc hl hy =>
        have hargs : LRv h mu w (evs fr args.toList) (args.map a.eval).toList := by
          simp only [Array.toList_map]
          exact evs_sound p.fr args.toList
        obtain ⟨r, hb, hsz, hgo⟩ := hx B mu w loc _ p.sim hl hy hargs
        have hrun : (execOp a.eval ⟨dst, .call ⟨.value x, args, ts⟩, ty, pos, after, guard⟩).run P w = _ := resolve_yld (args := args) (ts := ts) (ty := ty) hcx hb (by simpa using hsz)
        have hen := step_roundOp (b := b0 f d) (rest := rest') (k := k) (cs := cs) ho hw (by rw [Oper.semAt_eq _ _ _ (fun c hc => by simp at hc)]; exact hrun)
        obtain ⟨e, w', res, h', mu', hQ, hs', hext, hE, hst⟩ := hgo ((b0 f d).atR a (.inRegion ops (i :: rest') :: k)) cs
        have p2 := p.ext hext hs'
        cases e with
        | outgrown => exact hst.elim
        | returned c =>
          cases res with
          | panic v => exact hE.elim
          | ret v =>
            simp only at hst
            rw [fin_at ho] at hst
            exact .ext hext (.steps (.head hen hst) (hQ B mu' w' _ cs (p2.put hdst hE)))
        | panicked chain =>
          cases res with
          | ret v => exact hE.elim
          | panic v =>
            obtain ⟨x', hx', x1, x2, x3⟩ := hE.panic_inv
            cases hx'
            simp only at hst
            rw [Frame.raise_atR] at hst
            exact .ext hext (.steps (.head hen hst) (hQ B mu' w' a cs _ _ p2 ⟨x1, x2, x3⟩))
    · exact hx.elim
  · rename_i args ts
    split at hx
    · rename_i v
      obtain ⟨hd, hx⟩ := hx
      have hcs : CsOk true h mu w (.pan v false) cs := hd ▸ p.cs
      obtain ⟨c, rr, rfl, hU⟩ := hcs
      obtain ⟨en, hm, e1, e2, e3⟩ := hU.pan_inv
      obtain ⟨en1, en2, en3⟩ := en
      simp only at e1 e2 e3
      subst e1; subst e2
      have hrun : (execOp a.eval ⟨dst, .call ⟨.builtin .recover, args, ts⟩, ty, pos, after, guard⟩).run P w = .ok .recover w := by simp [execOp, resolve, invoke, builtin]
      have hst := step_recoverOp (b := b0 f d) (rest := rest') (k := k) (cs := c :: rr) ho hw (by simp [b0, KD, hd]) (by simp [b0, hd]) hrun
      have hrec : recoverD (c :: rr) = some (en1, { c with mode := .panicking [{ v := en1, recovered := true }] } :: rr) := by simp [recoverD, hm]
      rw [hrec] at hst
      refine .head hst (Post.mode (m := .panicking [{ v := en1, recovered := true }]) hd ?_)
      have p2 : Pre n d fr ds h (.pan v true) B mu w a ({ c with mode := .panicking [{ v := en1, recovered := true }] } :: rr) := ⟨p.size, p.fr, p.ds, p.sim, by
        subst hd; exact ⟨_, _, rfl, ⟨rfl, rfl, e3⟩⟩, p.rnd, p.fb⟩
      exact hx B mu w _ _ (p2.put hdst e3)
    · obtain ⟨hd, hx⟩ := hx
      have hcs : CsOk true h mu w .ret cs := hd ▸ p.cs
      obtain ⟨c, rr, rfl, hU⟩ := hcs
      have hm := hU.ret_inv
      have hrun : (execOp a.eval ⟨dst, .call ⟨.builtin .recover, args, ts⟩, ty, pos, after, guard⟩).run P w = .ok .recover w := by simp [execOp, resolve, invoke, builtin]
      have hst := step_recoverOp (b := b0 f d) (rest := rest') (k := k) (cs := c :: rr) ho hw (by simp [b0, KD, hd]) (by simp [b0, hd]) hrun
      have hrec : recoverD (c :: rr) = none := by simp [recoverD, hm]
      rw [hrec] at hst
      exact .head hst (hx B mu w _ _ (p.put hdst .nili))
    · exact hx.elim
  · rename_i x args ts
    split at hx
    · rename_i g first cap hev
      have hxv := ev_sound p.fr x
      rw [hev] at hxv
      obtain ⟨f2, c2, hfv, hf2, hc2⟩ := func_inv hxv
      have hrun : (execOp a.eval ⟨dst, .defer ⟨.value x, args, ts⟩, ty, pos, after, guard⟩).run P w = .ok (.defer { target := .fn (.func g) c2.toArray, args := f2.toArray ++ args.map a.eval }) w := by
        simp [execOp, resolve, hfv, Deferred.ofValue]
      obtain ⟨hro, hnc, hx⟩ := hx
      have hst := step_deferOp (b := b0 f d) (rest := rest') (k := k) (cs := cs) ho hw (by rw [show (b0 f d).roundOf = none by simp [b0, hro]]; exact hrun)
      have p2 : Pre n d fr (⟨g, first ++ evs fr args.toList ++ cap⟩ :: ds) h u B mu w { a with defers := { target := .fn (.func g) c2.toArray, args := f2.toArray ++ args.map a.eval } :: a.defers } cs :=
        ⟨p.size, p.fr, by
          unfold DsRv
          rw [hnc]
          refine ⟨_, _, rfl, ⟨c2.toArray, rfl, ?_⟩, p.ds⟩
          simp only [Array.toList_append, Array.toList_map]
          exact (hf2.append (evs_sound p.fr args.toList)).append hc2, p.sim, p.cs, p.rnd, p.fb⟩
      exact .head hst (hx B mu w _ cs (p2.put hdst Rv.und))
    · exact hx.elim
  · rename_i x
    split at hx
    · rename_i t v hev
      have hxv := ev_sound p.fr x
      rw [hev] at hxv
      cases hq : a.eval x <;> rw [hq] at hxv <;> cases hxv
      rename_i cv hcv
      have hrun : (execOp a.eval ⟨dst, .panic x, ty, pos, after, guard⟩).run P w = .halt (.panic (.iface t cv)) w := by simp [execOp, hq, Instr.panic]
      exact .head (step_panicOp ho hw (by rw [Oper.semAt_eq _ _ _ (fun c hc => by simp at hc)]; exact hrun)) (hx B mu w a cs _ _ p ⟨rfl, rfl, .iface _ _ _ hcv⟩)
    · exact hx.elim
  · exact valued hx fun v h' hv => hv

theorem skip_sound {ops : Array Oper} {i : Nat} {o : Oper} {rest' : List Nat} {fr : Nat → AV} {ds : List AD} {h : AHeap} {u : AU} (ho : ops[i]? = some o) (hdst : dstOk n o.dst = true) (hwt : aWanted ops.toList fr o = some false)
    (hx : Run P f n d (.inRegion ops rest' :: k) (putD fr o.dst .und) ds h u Q) : Run P f n d (.inRegion ops (i :: rest') :: k) fr ds h u Q := by
  intro B mu w a cs p
  have hw := wanted_sound (B := B) p.fr hwt
  have hs := stepR_op_skip (P := P) (b := b0 f d) (a := a) (k := k) (cs := cs) (w := w) (ops := ops) (i := i) (rest := rest') (by simp [ho]; simpa using hw)
  simp only [ho, Option.bind_some] at hs
  exact .head hs (hx B mu w _ cs (p.put hdst Rv.und))

theorem aCall_mono {g : FuncId} {args : List AV} {K K' E E' : AV → AHeap → Prop} (hK : ∀ v h', K v h' → K' v h') (hE : ∀ v h', E v h' → E' v h') (hx : aCall P g args h K E) : aCall P g args h K' E' :=
  ⟨hx.1, fun B mu w cargs s ha => (hx.2 B mu w cargs s ha).mono fun e w' ⟨r, h', mu', a1, a2⟩ => ⟨r, h', mu', by cases r <;> first | exact hK _ _ a1 | exact hE _ _ a1, a2⟩⟩
theorem aYield_mono {y : YF} {o g : Nat} {args : List AV} {K K' E E' : AV → AHeap → Prop} (hK : ∀ v h', K v h' → K' v h') (hE : ∀ v h', E v h' → E' v h') (hx : aYield P y o g args h K E) : aYield P y o g args h K' E' :=
  fun B mu w loc cargs s hl hy ha =>
    let ⟨r, a1, a2, a3⟩ := hx B mu w loc cargs s hl hy ha
    ⟨r, a1, a2, fun c cs => let ⟨e, w', res, h', mu', b1, b2⟩ := a3 c cs; ⟨e, w', res, h', mu', by cases res <;> first | exact hK _ _ b1 | exact hE _ _ b1, b2⟩⟩
theorem aOne_mono {U U' : AV → KT} {op : Op} {K K' : AV → List AD → AHeap → AU → Prop} (hK : ∀ v ds h u, K v ds h u → K' v ds h u) (hU : ∀ v h, U v fr ds h u → U' v fr ds h u) (hx : aOne P d U fr ds h u op K) : aOne P d U' fr ds h u op K' := by
  unfold aOne at hx ⊢
  split at hx
  · split at hx
    · exact aCall_mono (fun _ _ hk => hK _ _ _ _ hk) (fun _ _ hk => hU _ _ hk) hx
    · exact aYield_mono (fun _ _ hk => hK _ _ _ _ hk) (fun _ _ hk => hU _ _ hk) hx
    · exact hx.elim
  · split at hx
    · exact ⟨hx.1, hK _ _ _ _ hx.2⟩
    · exact ⟨hx.1, hK _ _ _ _ hx.2⟩
    · exact hx.elim
  · split at hx
    · exact ⟨hx.1, hx.2.1, hK _ _ _ _ hx.2.2⟩
    · exact hx.elim
  · split at hx
    · exact hU _ _ hx
    · exact hx.elim
  · exact aop_mono (fun _ _ hk => hK _ _ _ _ hk) hx

theorem ops_sound {ops : Array Oper} : ∀ (l : List Oper) (i : Nat) {fr : Nat → AV} {ds : List AD} {h : AHeap} {u : AU}, (∀ j, ops[i + j]? = l[j]?) → aOps P n d ops.toList (fun fr ds h u => Run P f n d k fr ds h u Q) (fun v fr ds h u => Unw P f n d (.pan v false) fr ds h u Q) l fr ds h u → Run P f n d (.inRegion ops (List.range' i l.length) :: k) fr ds h u Q
  | [], i, fr, ds, h, u, hl, hx => fun B mu w a cs p => .head stepR_region_end (hx B mu w a cs p)
  | o :: r, i, fr, ds, h, u, hl, hx => by
    have ho : ops[i]? = some o := by simpa using hl 0
    have hl' : ∀ j, ops[i + 1 + j]? = r[j]? := fun j => by have := hl (j + 1); rw [show i + (j + 1) = i + 1 + j by omega] at this; simpa using this
    simp only [List.length_cons, List.range'_succ]
    simp only [aOps] at hx
    obtain ⟨hdst, hx⟩ := hx
    split at hx
    · exact hx.elim
    · rename_i hwt
      exact skip_sound ho hdst hwt (ops_sound r (i + 1) hl' hx)
    · rename_i hwt
      exact one_sound ho hdst hwt (aOne_mono (fun v ds' h' u' hk => ops_sound r (i + 1) hl' hk) (fun _ _ hk => hk) hx)

/-- A region whose order is the text's. -/
theorem run_region {id : Nat} {ops : Array Oper} (hx : aOps P n d ops.toList (fun fr ds h u => Run P f n d k fr ds h u Q) (fun v fr ds h u => Unw P f n d (.pan v false) fr ds h u Q) ops.toList fr ds h u) : Run P f n d (.code (.region id ops false) :: k) fr ds h u Q := by
  refine run_step (fun _ _ _ => stepR_region) ?_
  have := ops_sound (ops := ops) ops.toList 0 (fun j => by simp) hx
  rwa [Array.length_toList, ← List.range_eq_range'] at this
/-- The same, what follows behind names. -/
theorem run_reg {id : Nat} {l : List Oper} (hx : ∀ (K : KT) (U : AV → KT), (∀ fr ds h u, Run P f n d k fr ds h u Q → K fr ds h u) → (∀ v fr ds h u, Unw P f n d (.pan v false) fr ds h u Q → U v fr ds h u) → aOps P n d l K U l fr ds h u) :
    Run P f n d (.code (.region id ⟨l⟩ false) :: k) fr ds h u Q :=
  run_region (hx _ _ (fun _ _ _ _ h => h) (fun _ _ _ _ _ h => h))

/-- The frame as a function is entered. -/
def fr0 (args : List AV) : Nat → AV := fun t => args.getD t .und
theorem fr0_ok {mu : Mu} {w : World} {args : List AV} {cargs : Array Value} (ha : LRv h mu w args cargs.toList) (m : Nat) (defers : List Deferred) : FrOk h mu w (fr0 args) { tmps := cargs ++ Array.replicate m undef, defers } := by
  intro t
  by_cases ht : t < args.length
  · have := ha.2 t ht
    have hlt : t < cargs.size := by rw [ha.1] at ht; simpa using ht
    rw [show (cargs ++ Array.replicate m undef).getD t undef = cargs.toList.getD t undef by simp [List.getD, Array.getElem?_append_left hlt]]
    exact this
  · have hge : cargs.size ≤ t := by rw [ha.1] at ht; simpa using ht
    have e1 : fr0 args t = .und := by simp [fr0, List.getD, List.getElem?_eq_none (Nat.le_of_not_lt ht)]
    have e2 : (cargs ++ Array.replicate m undef).getD t undef = undef := by
      simp only [Array.getD_eq_getD_getElem?, Array.getElem?_append_right hge]
      by_cases h2 : t - cargs.size < m
      · simp [h2]
      · rw [Array.getElem?_eq_none (by simp; omega)]; rfl
    rw [e1, e2]; exact Rv.und
theorem calls_intro {fn : Func} {c : Code} {args : List AV} {Q : AR → AHeap → Prop} (hf : P.funcs[f]? = some fn) (hb : fn.body = some c) (hn : fn.name ≠ "runtime.NumGoroutine") (hnt : fn.ntmps = n) (hl : args.length ≤ n)
    (hr : Run P f n false [.code c] (fr0 args) [] h .ret (fun r h' _ => Q r h')) : ACalls P f args h Q := by
  subst hnt
  refine ⟨⟨fn, c, hf, hb, hn⟩, fun B mu w cargs s ha cs => ?_⟩
  have henter : Frame.enter P f cargs .normal = (b0 f false).atR { tmps := cargs ++ Array.replicate (fn.ntmps - cargs.size) undef, defers := [] } [.code c] := by
    simp [Frame.enter, Frame.atR, hf, hb, b0, KD]
  have hsz : cargs.size = args.length := by rw [ha.1]; simp
  obtain ⟨e, w', cs', frm, r, h', mu', u', a1, a2, a3, a4, a5, a6, a7, a8, a9⟩ := hr ⟨B.n, w.heap.size⟩ mu w { tmps := cargs ++ Array.replicate (fn.ntmps - cargs.size) undef, defers := [] } cs
    ⟨by simp; omega, fr0_ok ha _ _, rfl, s.rebase rfl, trivial, (fun _ _ _ hh => by cases hh), s.base, Nat.le_refl _⟩
  have a9' : cs' = cs := a9
  subst a9'
  replace a5 : frm.going P w' e := by cases e <;> exact a5
  refine ⟨e, w', frm, ⟨r, h', mu', a1, a7.rebase rfl, a8.ext, a6⟩, ?_, a3, ?_⟩
  · rw [henter]
    cases e with
    | outgrown => cases r <;> exact a6.elim
    | returned v => exact a2
    | panicked v => exact a2
  · cases e with
    | outgrown => trivial
    | returned v => exact ⟨a5.1, a5.2.1, a4, a5.2.2⟩
    | panicked v => exact a5
theorem defer_intro {fn : Func} {c : Code} {args : List AV} {m : AU} {Q : QT} (hf : P.funcs[f]? = some fn) (hb : fn.body = some c) (hn : fn.name ≠ "runtime.NumGoroutine") (hnt : fn.ntmps = n) (hl : args.length ≤ n)
    (hr : Run P f n true [.code c] (fr0 args) [] h m Q) : ADefer P f args m h Q := by
  subst hnt
  refine ⟨⟨fn, c, hf, hb, hn⟩, fun B mu w cargs mode s ha hu cf cs hcm => ?_⟩
  have henter : Frame.enter P f cargs .deferred = (b0 f true).atR { tmps := cargs ++ Array.replicate (fn.ntmps - cargs.size) undef, defers := [] } [.code c] := by
    simp [Frame.enter, Frame.atR, hf, hb, b0, KD]
  have hsz : cargs.size = args.length := by rw [ha.1]; simp
  obtain ⟨e, w', cs', frm, r, h', mu', u', a1, a2, a3, a4, a5, a6, a7, a8, a9⟩ := hr ⟨B.n, w.heap.size⟩ mu w { tmps := cargs ++ Array.replicate (fn.ntmps - cargs.size) undef, defers := [] } (cf :: cs)
    ⟨by simp; omega, fr0_ok ha _ _, rfl, s.rebase rfl, ⟨cf, cs, rfl, hcm ▸ hu⟩, (fun _ _ _ hh => by cases hh), s.base, Nat.le_refl _⟩
  obtain ⟨c1, r1, m1, e1, rfl, e3⟩ := a9
  cases e1
  replace a5 : frm.going P w' e := by cases e <;> exact a5
  refine ⟨e, m1, w', frm, ⟨r, h', mu', u', a1, a7.rebase rfl, a8.ext, a6, e3⟩, ?_, a4, a5⟩
  rw [henter]
  cases e with
  | outgrown => cases r <;> exact a6.elim
  | returned v => exact a2
  | panicked v => exact a2

theorem one_ne_zero' : ((1 : Nat) = 0) = False := by simp
theorem zero_ne_one' : ((0 : Nat) = 1) = False := by simp
theorem run_test {c : Operand} {x y : Code} {b : Bool} (hc : ev fr c = .bool b) (ht : b = true → Run P f n d (.code x :: k) fr ds h u Q) (hf : b = false → Run P f n d (.code y :: k) fr ds h u Q) : Run P f n d (.code (.cond c x y) :: k) fr ds h u Q := by
  refine run_cond hc ?_
  cases b
  · exact hf rfl
  · exact ht rfl
theorem ACalls.mono {g : FuncId} {args : List AV} {Q Q' : AR → AHeap → Prop} (hc : ACalls P g args h Q) (hq : ∀ r h', Q r h' → Q' r h') : ACalls P g args h Q' :=
  ⟨hc.1, fun B mu w cargs s ha => (hc.2 B mu w cargs s ha).mono fun e w' ⟨r, h', mu', a1, a2⟩ => ⟨r, h', mu', hq _ _ a1, a2⟩⟩
theorem ADefer.mono {g : FuncId} {args : List AV} {m : AU} {Q Q' : QT} (hc : ADefer P g args m h Q) (hq : ∀ r h' u, Q r h' u → Q' r h' u) : ADefer P g args m h Q' :=
  ⟨hc.1, fun B mu w cargs mode s ha hu => (hc.2 B mu w cargs mode s ha hu).mono fun e u' w' ⟨r, h', mu', m', a1, a2⟩ => ⟨r, h', mu', m', hq _ _ _ a1, a2⟩⟩
/-- What is known of a call's result holds with fewer objects. -/
theorem ACalls.drop {g : FuncId} {args : List AV} {Q Q' : AR → AHeap → Prop} (hc : ACalls P g args h Q) (hq : ∀ r h', Q r h' → ∃ h2, Sub h2 h' ∧ Q' r h2) : ACalls P g args h Q' :=
  ⟨hc.1, fun B mu w cargs s ha => (hc.2 B mu w cargs s ha).mono fun e w' ⟨r, h', mu', a1, a2, a3, a4⟩ => by
    obtain ⟨h2, hs, hq'⟩ := hq _ _ a1
    refine ⟨r, h2, mu', hq', a2.sub hs, a3.trans (EXT.sub hs), ?_⟩
    cases r <;> cases e <;> first | exact a4.elim | exact a4.less (Mut.sub hs) | (obtain ⟨x, hx, x1, x2, x3⟩ := a4.panic_inv; cases hx; exact ⟨x1, x2, x3.less (Mut.sub hs)⟩)⟩
end
end Go.Am
