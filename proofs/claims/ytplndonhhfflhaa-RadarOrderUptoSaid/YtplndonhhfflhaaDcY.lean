/- Range over functions: the rules. -/
import Derived.Test.YtplndonhhfflhaaDcV
import Derived.Test.YtplndonhhfflhaaAmYld
namespace Go.Am
open Go
set_option linter.unusedSimpArgs false
set_option linter.unusedVariables false
set_option linter.unusedSectionVars false

/-! ### Iterators: functions that call a yield -/
/-- The states pass; what stands is told by 'St'. -/
def AnsY {σ : Type} (St : σ → AHeap → Prop) (m : R σ) : AR → AHeap → Prop := fun r h' => match m with
  | .ok s => (∃ v, r = .ret v) ∧ St s h'
  | .pan v => r = .panic v.av ∧ ∃ s, St s h'
  | .bad => False
def AnsYQ {σ : Type} (St : σ → AHeap → Prop) : Spec σ := ⟨fun m => m ≠ .bad, fun h => h rfl, fun m r h' _ => AnsY St m r h'⟩
section
variable {P : Program} [GW P] {f : FuncId} {n : Nat} {d : FK} {σ β γ : Type} {Q : Spec β} {ds : List AD} {h : AHeap} {u : AU} {k : List Item} {l : List (Nat × AV)} {St : σ → AHeap → Prop} {m : R σ}
theorem cy_intro {fn : Func} {c : Code} {args : List AV} (hf : P.funcs[f]? = some fn) (hb : fn.body = some c) (hn : fn.name ≠ "runtime.NumGoroutine") (hnt : fn.ntmps = n) (hl : Nat.ble args.length n = true)
    (hr : WR P f n false (AnsYQ St) m [.code c] (frA (frOf 0 args)) [] h .ret) (hm : m ≠ .bad) : ACalls P f args h (AnsY St m) := by
  refine calls_intro hf hb hn hnt (by simpa using hl) ?_
  refine run_le (fun t => ?_) (hr hm)
  rcases frOf_fr0 args 0 t with h | ⟨_, h⟩
  · exact .inl h
  · exact .inr h
theorem wr_retY {fn : Func} {s : σ} {vs : List AV} {fr : Nat → AV} (hf : P.funcs[f]? = some fn) (hr : aRes P h fr fn.results.toList = some vs) (hs : St s h) : WR P f n false (AnsYQ St) (.ok s) (.code .ret :: k) fr [] h u := fun _ =>
  run_ret (unw_ret hf hr ⟨⟨_, rfl⟩, hs⟩)
theorem wr_endY {fn : Func} {s : σ} {vs : List AV} {fr : Nat → AV} (hf : P.funcs[f]? = some fn) (hr : aRes P h fr fn.results.toList = some vs) (hs : St s h) : WR P f n false (AnsYQ St) (.ok s) [] fr [] h u := fun _ =>
  run_end (unw_ret hf hr ⟨⟨_, rfl⟩, hs⟩)
theorem wu_panY {fn : Func} {v : PV} {fr : Nat → AV} {s : σ} (hf : P.funcs[f]? = some fn) (hs : St s h) : WU P f n false (AnsYQ St) (.pan v) (.pan v.av false) fr [] h u := fun _ =>
  unw_pan hf ⟨rfl, s, hs⟩

/-- What the yield of a loop does with the states: the body's round; it does not panic. -/
def YOk (P : Program) [GW P] (y : YF) (o g : Nat) (A : List AV) (St : σ → AHeap → Prop) (b : σ → R σ) : Prop :=
  ∀ s h, St s h → ∀ s', b s = .ok s' → aYield P y o g A h (fun v h' => v = .bool true ∧ St s' h') (fun _ _ => False)
section
variable {all r : List Oper} {ty : TypeId} {pos : String} {after : Array Edge} {F : γ → R β}
theorem of_yield {t : Nat} {x : Operand} {as : List Operand} {ts : Array TypeId} {y : YF} {o g : Nat} {A : List AV} {b : σ → R σ} {s : σ} {rest : σ → R γ} (ht : Nat.blt t n = true) (hx : ev (frA l) x = .yld y o g) (ha : evs (frA l) as = A) (hs : St s h)
    (hy : YOk P y o g A St b) (hnp : ∀ v, b s ≠ .pan v) (hk : ∀ s', b s = .ok s' → ∀ h', St s' h' → WO P f n d Q k all ((rest s').bind F) r (frA ((t, .bool true) :: l)) ds h' u) :
    WO P f n d Q k all (((b s).bind rest).bind F) (⟨some t, .call ⟨.value x, ⟨as⟩, ts⟩, ty, pos, after, none⟩ :: r) (frA l) ds h u := by
  refine wo_eq (R.bind_assoc _ _ _) (wo_one (by simpa [dstOk] using ht) rfl fun hb K U hK hU => ?_)
  simp only [aOne, hx]
  rw [ha]
  cases hm : b s with
  | bad => rw [hm] at hb; exact absurd hb Q.bad
  | pan v => exact absurd hm (hnp v)
  | ok s' =>
    have hk' := hk s' hm
    rw [hm] at hK
    refine aYield_mono (fun v h' hv => ?_) (fun _ _ hf => hf.elim) (hy s h hs s' hm)
    obtain ⟨rfl, hs'⟩ := hv
    exact hK _ _ _ _ (by rw [putD_frA]; exact hk' h' hs')
theorem wp_yield {i : Nat} {pre : List (List Nat)} {plan : Plan} {pend : Pend} {t : Nat} {x : Operand} {as : List Operand} {ts : Array TypeId} {y : YF} {o g : Nat} {A : List AV} {b : σ → R σ} {s : σ} {rest : σ → R γ} (ho : all[i]? = some ⟨some t, .call ⟨.value x, ⟨as⟩, ts⟩, ty, pos, after, none⟩) (ht : Nat.blt t n = true) (hx : ev (frA l) x = .yld y o g) (ha : evs (frA l) as = A) (hs : St s h)
    (hy : YOk P y o g A St b) (hnp : ∀ v, b s ≠ .pan v) (hpd : ∀ h', pendOk P all pre i h' pend) (hk : ∀ s', b s = .ok s' → ∀ h', St s' h' → WP P f n d Q k all pre ((rest s').bind F) plan pend (frA ((t, .bool true) :: l)) ds h' u) :
    WP P f n d Q k all pre (((b s).bind rest).bind F) ((true, i) :: plan) pend (frA l) ds h u := by
  refine wp_eq (R.bind_assoc _ _ _) (wp_one ho (by simpa [dstOk] using ht) rfl fun hb K U hK hU => ?_)
  simp only [aOne, hx]
  rw [ha]
  cases hm : b s with
  | bad => rw [hm] at hb; exact absurd hb Q.bad
  | pan v => exact absurd hm (hnp v)
  | ok s' =>
    have hk' := hk s' hm
    rw [hm] at hK
    refine aYield_mono (fun v h' hv => ?_) (fun _ _ hf => hf.elim) (hy s h hs s' hm)
    obtain ⟨rfl, hs'⟩ := hv
    exact hK _ _ _ _ (hpd h') (by rw [putD_frA]; exact hk' h' hs')
end

/-! ### The round of a loop -/
/-- A round answers with a state: nothing is said of others. -/
def AnsB {σ : Type} (o g : Nat) (r : Loop) (St : σ → AHeap → Prop) : Spec σ := ⟨fun m => ∃ s : σ, m = .ok s, (fun h => by obtain ⟨s, h⟩ := h; cases h), fun m a h' _ => ∃ s : σ, m = .ok s ∧ (∃ v, a = .ret v) ∧ h' o = some (.blk g (.loop { r with state := .busy })) ∧ St s (upd h' o (some (.blk g (.loop r))))⟩
theorem wr_endB {lo : Nat × Nat × Nat} {o g : Nat} {r : Loop} {s : σ} {fr : Nat → AV} (ho : h o = some (.blk g (.loop { r with state := .busy }))) (hs : St s (upd h o (some (.blk g (.loop r))))) :
    WR P f n ⟨false, some lo⟩ (AnsB o g r St) (.ok s) [] fr [] h u := by
  intro hV B mu w a cs p
  have hd : a.defers = [] := p.ds
  refine ⟨.returned undef, w, cs, _, .ret .any, h, mu, u, ⟨s, rfl, ⟨_, rfl⟩, ho, hs⟩, Steps.refl P _, rfl, rfl, ?_, .any _, p.sim, (Ext.refl _ _ _).g, .refl p.cs⟩
  exact ⟨rfl, rfl, rfl, hd⟩
theorem wu_B {lo : Nat × Nat × Nat} {o g : Nat} {r : Loop} {v : PV} {m : AU} {fr : Nat → AV} : WU P f n ⟨false, some lo⟩ (AnsB o g r St) (.pan v) m fr ds h u := fun hV => by obtain ⟨s, h⟩ := hV; cases h
theorem wr_beginRound {lr o g : Nat} {r : Loop} {Q : Spec σ} {fr : Nat → AV} (ho : h o = some (.blk g (.loop r))) (hs : r.state = .ready) (hr : WR P f n ⟨false, some (lr, o, g)⟩ Q m k fr ds (upd h o (some (.blk g (.loop { r with state := .busy })))) u) :
    WR P f n ⟨false, some (lr, o, g)⟩ Q m (.beginRound :: k) fr ds h u := fun hb => run_beginRound rfl ho hs (hr hb)
/-- The loop's yield, from the round's own proof. -/
theorem yok_intro {y : YF} {o g : Nat} {r : Loop} {params : Array Tmp} {assign body : Code} {A : List AV} {b : σ → R σ} (hlp : LpOk f n params assign body r) (hps : params.toList.all (fun p => Nat.blt p n) = true) (hla : A.length = params.size)
    (hy : ∀ {mu : Mu} {w : World} {M : Nat → Prop} {lo : Nat}, y.F w mu M lo → ∀ t, Rv w mu M (frA l t) (r.tmps.getD t undef)) (hat : ∀ s h, St s h → h o = some (.blk g (.loop r)))
    (hr : ∀ (lo : Nat) (s : σ) (h : AHeap), St s h → WR P f n ⟨false, some (lo, o, g)⟩ (AnsB o g r St) (b s) [.code assign, .beginRound, .code body] (frPut (frA l) params.toList A) [] h .ret) : YOk P y o g A St b := by
  intro s h hs s' hb
  obtain ⟨h1, h2, h3, h4, rfl, rfl, rfl⟩ := hlp
  refine yield_intro (f := f) (n := n) (fr := frA l) (hat s h hs) h1 h2 h3 h4 (fun p hp => by have := List.all_eq_true.1 hps p hp; simpa using this) (fun hF t => hy hF t) hla fun lo => ?_
  refine run_mono (hr lo s h hs ⟨s', hb⟩) fun a h' u' hq => ?_
  obtain ⟨s2, e, ⟨v, rfl⟩, hb1, hs2⟩ := hq
  rw [hb] at e; cases e
  exact ⟨hb1, rfl, hs2⟩
theorem frPut_frA : ∀ (ps : List Nat) (A : List AV) (l : List (Nat × AV)), frPut (frA l) ps A = frA ((ps.zip A).reverse ++ l)
  | [], _, l => rfl
  | p :: ps, [], l => rfl
  | p :: ps, v :: A, l => by
    rw [frPut]
    have : upd (frA l) p v = frA ((p, v) :: l) := putD_frA l p v
    rw [this, frPut_frA ps A]
    simp

section
variable {h0 : AHeap} {ids : List Nat} {xs : List (Option AO)} {N : Nat} {F : γ → R β}
theorem wr_np {lo : Nat × Nat × Nat} {o g : Nat} {r : Loop} {m : R σ} {todo : List Item} {fr : Nat → AV} (hr : WR P f n ⟨false, some lo⟩ (AnsB o g r St) m todo fr ds h u) : WR P f n ⟨false, some lo⟩ (AnsB o g r St) m.np todo fr ds h u := by
  intro hV
  cases m with
  | ok s => exact hr hV
  | pan v => obtain ⟨s, h⟩ := hV; cases h
  | bad => obtain ⟨s, h⟩ := hV; cases h
theorem wr_frl {Q : Spec β} {m : R β} {todo : List Item} {fr : Nat → AV} (l' : List (Nat × AV)) (e : fr = frA l') (hr : WR P f n d Q m todo (frA l') ds h u) : WR P f n d Q m todo fr ds h u := e ▸ hr
theorem wr_beginRoundH {Q : Spec β} {m : R β} {lr jL g : Nat} {r : Loop} {fr : Nat → AV} (hI : Ids h0 ids N) (hl : xs.length = N) (hj : Nat.blt jL N = true) (hx : xs[jL]? = some (some (.blk g (.loop r)))) (hs : r.state = .ready)
    (hr : WR P f n ⟨false, some (lr, ix ids jL, g)⟩ Q m k fr ds (hp h0 ids (xs.set jL (some (.blk g (.loop { r with state := .busy }))))) u) : WR P f n ⟨false, some (lr, ix ids jL, g)⟩ Q m (.beginRound :: k) fr ds (hp h0 ids xs) u := fun hb =>
  run_beginRound rfl (hI.at hl hx) hs (by rw [hI.set hl hj]; exact hr hb)
theorem wr_endBH {lo : Nat × Nat × Nat} {jL g : Nat} {r : Loop} {s : σ} {fr : Nat → AV} (hI : Ids h0 ids N) (hl : xs.length = N) (hj : Nat.blt jL N = true) (hx : xs[jL]? = some (some (.blk g (.loop { r with state := .busy })))) (hs : St s (hp h0 ids (xs.set jL (some (.blk g (.loop r)))))) :
    WR P f n ⟨false, some lo⟩ (AnsB (ix ids jL) g r St) (.ok s) [] fr [] (hp h0 ids xs) u := wr_endB (hI.at hl hx) (by rw [hI.set hl hj]; exact hs)
theorem wr_upd {Q : Spec β} {m : R β} {todo : List Item} {fr : Nat → AV} {j : Nat} {y : Option AO} (ys : List (Option AO)) (hI : Ids h0 ids N) (hl : xs.length = N) (hj : Nat.blt j N = true) (e : xs.set j y = ys) (hr : WR P f n d Q m todo fr ds (hp h0 ids ys) u) : WR P f n d Q m todo fr ds (upd (hp h0 ids xs) (ix ids j) y) u := by
  rw [hI.set hl hj, e]; exact hr
theorem wu_upd {Q : Spec β} {m : R β} {a : AU} {fr : Nat → AV} {j : Nat} {y : Option AO} (ys : List (Option AO)) (hI : Ids h0 ids N) (hl : xs.length = N) (hj : Nat.blt j N = true) (e : xs.set j y = ys) (hr : WU P f n d Q m a fr ds (hp h0 ids ys) u) : WU P f n d Q m a fr ds (upd (hp h0 ids xs) (ix ids j) y) u := by
  rw [hI.set hl hj, e]; exact hr
end

/-! ### The loop -/
theorem wr_rangeFunc {x : Operand} {params : Array Tmp} {assign body : Code} {gf : FuncId} {cap : List AV} {m : R σ} {rest : σ → R β} {h0 : AHeap} {ids : List Nat} {xs : List (Option AO)} {N : Nat} (jL : Nat) (St : Nat → Loop → σ → AHeap → Prop)
    (hro : d.ro = none) (hx : ev (frA l) x = .func (.func gf) [] cap) (hI : Ids h0 ids N) (hl : xs.length = N) (hjL : Nat.blt jL N = true) (hxL : xs[jL]? = some none)
    (hgo : ∀ (gL : Nat) (y : YF) (r : Loop), LpOk f n params assign body r → (∀ {mu : Mu} {w : World} {M : Nat → Prop} {lo : Nat}, y.F w mu M lo → ∀ t, Rv w mu M (frA l t) (r.tmps.getD t undef)) →
      (m ≠ .bad → ACalls P gf ([.yld y (ix ids jL) gL] ++ cap) (hp h0 ids (xs.set jL (some (.blk gL (.loop r))))) (AnsY (St gL r) m)) ∧
      (∀ s h', St gL r s h' → h' (ix ids jL) = some (.blk gL (.loop r))) ∧
      (∀ s, m = .ok s → ∀ h', St gL r s h' → WR P f n d Q (rest s) k (frA l) (AD.star :: ds) (upd h' (ix ids jL) none) u) ∧
      (∀ v, m = .pan v → ∀ s h', St gL r s h' → WU P f n d Q (.pan v) (.pan v.av false) (frA l) (AD.star :: ds) (upd h' (ix ids jL) none) u)) :
    WR P f n d Q (m.bind rest) (.code (.rangeFunc x params assign body) :: k) (frA l) (AD.star :: ds) (hp h0 ids xs) u := by
  intro hV
  refine run_rangeFunc (ix ids jL) hro hx (hI.at hl hxL) fun gL y r hlp hyF => ?_
  obtain ⟨c1, c2, c3, c4⟩ := hgo gL y r hlp hyF
  rw [hI.set hl hjL]
  have hmb : m ≠ .bad := fun e => by rw [e] at hV; exact Q.bad hV
  refine (c1 hmb).mono fun res h' hq => ?_
  cases hm : m with
  | bad => exact absurd hm hmb
  | ok s =>
    rw [hm] at hq
    obtain ⟨⟨v, rfl⟩, hs⟩ := hq
    refine ⟨⟨r, c2 s h' hs, by rw [hlp.ready]; exact fun e => (by cases e), hlp.pend⟩, c3 s hm h' hs ?_⟩
    rw [hm] at hV; exact hV
  | pan v =>
    rw [hm] at hq
    obtain ⟨rfl, s, hs⟩ := hq
    refine c4 v hm s h' hs ?_
    rw [hm] at hV; exact hV
/-- The loop, as the walk wants it. 'A': what the yield is given; 'b': a round. -/
theorem wf_rangeFunc {x : Operand} {params : Array Tmp} {assign body : Code} {gf : FuncId} {cap : List AV} {m : R σ} {rest : σ → R γ} {F : γ → R β} {h0 : AHeap} {ids : List Nat} {xs : List (Option AO)} {N : Nat} (jL : Nat) (St : Nat → Loop → σ → AHeap → Prop)
    (hro : d.ro = none) (hx : ev (frA l) x = .func (.func gf) [] cap) (hI : Ids h0 ids N) (hl : xs.length = N) (hjL : Nat.blt jL N = true) (hxL : xs[jL]? = some none)
    (hgo : ∀ (gL : Nat) (y : YF) (r : Loop), LpOk f n params assign body r → (∀ {mu : Mu} {w : World} {M : Nat → Prop} {lo : Nat}, y.F w mu M lo → ∀ t, Rv w mu M (frA l t) (r.tmps.getD t undef)) →
      (m ≠ .bad → ACalls P gf ([.yld y (ix ids jL) gL] ++ cap) (hp h0 ids (xs.set jL (some (.blk gL (.loop r))))) (AnsY (St gL r) m)) ∧
      (∀ s h', St gL r s h' → h' (ix ids jL) = some (.blk gL (.loop r))) ∧
      (∀ s, m = .ok s → ∀ h', St gL r s h' → WR P f n d Q ((rest s).bind F) k (frA l) (AD.star :: ds) (upd h' (ix ids jL) none) u) ∧
      (∀ v, m = .pan v → ∀ s h', St gL r s h' → WU P f n d Q (.pan v) (.pan v.av false) (frA l) (AD.star :: ds) (upd h' (ix ids jL) none) u)) :
    WR P f n d Q ((m.bind rest).bind F) (.code (.rangeFunc x params assign body) :: k) (frA l) (AD.star :: ds) (hp h0 ids xs) u := by
  rw [R.bind_assoc]
  exact wr_rangeFunc jL St hro hx hI hl hjL hxL hgo
/-- Leaving with marks of loops. -/
theorem wu_star {m : R β} {a : AU} {fr : Nat → AV} (hr : WU P f n d Q m a fr ds h u) (hds : ds.all (fun d => !d.isStar) = true := by rfl) : WU P f n d Q m a fr (AD.star :: ds) h u := fun hV => unw_star (hr hV) hds
theorem wr_star {m : R β} {fr : Nat → AV} (hr : WR P f n d Q m k fr (AD.star :: ds) h u) : WR P f n d Q m k fr ds h u := fun hV => run_star (hr hV)
/-- Returning: the deferred calls first. -/
theorem wr_retU {m : R β} {fr : Nat → AV} (hr : WU P f n d Q m .ret fr ds h u) (hro : d.ro = none := by rfl) : WR P f n d Q m (.code .ret :: k) fr ds h u := fun hV => run_ret (hr hV) hro
theorem wo_star {all : List Oper} {ops : List Oper} {m : R β} {fr : Nat → AV} (hr : WO P f n d Q k all m ops fr (AD.star :: ds) h u) : WO P f n d Q k all m ops fr ds h u := fun hV i hi => run_star (hr hV i hi)
theorem wr_endU {m : R β} {fr : Nat → AV} (hr : WU P f n d Q m .ret fr ds h u) (hro : d.ro = none := by rfl) : WR P f n d Q m [] fr ds h u := fun hV => run_end (hr hV) hro
end
section
variable {P : Program} [GW P] {f : FuncId} {n : Nat} {α : Type} {u : AU} {l : List (Nat × AV)} {h0 : AHeap} {ids : List Nat} {xs : List (Option AO)} {N K : Nat} {e : α → AV}
theorem wu_ret {fn : Func} {a : α} {vs : List AV} (hf : P.funcs[f]? = some fn) (hI : Ids h0 ids N) (hr : aRes P (hp h0 ids xs) (frA l) fn.results.toList = some vs) (hz : Fz (hp h0 ids xs) h0 (packRes vs) (e a)) :
    WU P f n false (AnsQ e h0) (.ok a) .ret (frA l) [] (hp h0 ids xs) u := fun _ => unw_retF hf hr (hI.sub xs) hz rfl ⟨rfl, rfl⟩
theorem wu_retC {hdl : PV → R α} {fn : Func} {a : α} {vs A : List AV} {g : FuncId} (hf : P.funcs[f]? = some fn) (hI : Ids h0 ids N) (hc : ADefer P g A .ret (hp h0 ids xs) (DAns (fun _ : Unit => hp h0 ids xs) .ret (.ok ())))
    (hr : aRes P (hp h0 ids xs) (frA l) fn.results.toList = some vs) (hz : Fz (hp h0 ids xs) h0 (packRes vs) (e a)) (hnc : AD.isStar ⟨g, A⟩ = false := by rfl) :
    WU P f n false (SpecC e h0 hdl) (.ok a) .ret (frA l) [⟨g, A⟩] (hp h0 ids xs) .ret := fun _ =>
  unw_defer (hc.mono fun r h' u hq => by
    obtain ⟨_, _, rfl, rfl, rfl⟩ := hq
    exact unw_retF hf hr (hI.sub xs) hz rfl ⟨rfl, rfl⟩) hnc
theorem wu_retC0 {hdl : PV → R α} {fn : Func} {a : α} {vs : List AV} (hf : P.funcs[f]? = some fn) (hI : Ids h0 ids N) (hr : aRes P (hp h0 ids xs) (frA l) fn.results.toList = some vs) (hz : Fz (hp h0 ids xs) h0 (packRes vs) (e a)) :
    WU P f n false (SpecC e h0 hdl) (.ok a) .ret (frA l) [] (hp h0 ids xs) u := fun _ => unw_retF hf hr (hI.sub xs) hz rfl ⟨rfl, rfl⟩
theorem wu_retG {S : α → AV → AHeap → Prop} {fn : Func} {a : α} {vs : List AV} {v : AV} (ys : List (Option AO)) (hf : P.funcs[f]? = some fn) (hI : Ids h0 ids (K + N)) (hl : xs.length = K + N) (hr : aRes P (hp h0 ids xs) (frA l) fn.results.toList = some vs)
    (hy : ys.length = K) (hx : HL (hp h0 ids xs) (hp h0 ids (ys ++ List.replicate N none)) xs (ys ++ List.replicate N none)) (hz : Fz (hp h0 ids xs) (hp h0 ids (ys ++ List.replicate N none)) (packRes vs) v) (hS : S a v (hp h0 (tkf ids K 0) ys)) :
    WU P f n false (AnsGQ S h0) (.ok a) .ret (frA l) [] (hp h0 ids xs) u := fun _ => by
  refine unw_retZ hf hr (hx.hfz hI hl) hz rfl ⟨v, rfl, ?_⟩
  rw [hp_head hI hy]; exact hS
end
end Go.Am
