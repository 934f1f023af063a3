/- Calls by contracts, entering and leaving a function. -/
import Derived.Test.YtplndonhhfflhaaDcOps
namespace Go.Am
open Go
set_option linter.unusedSimpArgs false
set_option linter.unusedVariables false
set_option linter.unusedSectionVars false

def AnsR {α : Type} (e : α → AV) (h : AHeap) (m : R α) : AR → AHeap → Prop := fun r h' => h' = h ∧ match m with
  | .ok a => r = .ret (e a)
  | .pan v => r = .panic v.av
  | .bad => False
def AnsQ {α : Type} (e : α → AV) (h : AHeap) : Spec α := ⟨fun m => m ≠ .bad, fun h => h rfl, fun m r h' _ => AnsR e h m r h'⟩
/-- A function that only answers. -/
def CP {α : Type} (P : Program) [GW P] (g : FuncId) (args : List AV) (m : R α) (e : α → AV) : Prop := ∀ h, m ≠ .bad → ACalls P g args h (AnsR e h m)

def frOf : Nat → List AV → List (Nat × AV)
  | _, [] => []
  | i, a :: l => (i, a) :: frOf (i + 1) l
theorem frOf_fr0 : ∀ (args : List AV) (i t : Nat), frA (frOf i args) t = .any ∨ (i ≤ t ∧ frA (frOf i args) t = args.getD (t - i) .und)
  | [], i, t => .inl rfl
  | a :: l, i, t => by
    simp only [frOf, frA]
    cases hq : Nat.beq t i with
    | true =>
      have := Nat.eq_of_beq_eq_true hq
      subst this
      exact .inr ⟨Nat.le_refl _, by simp⟩
    | false =>
      have hne : t ≠ i := fun q => by subst q; simp at hq
      rcases frOf_fr0 l (i + 1) t with h | ⟨h1, h2⟩
      · exact .inl h
      · refine .inr ⟨by omega, ?_⟩
        simp only [cond_false]
        rw [h2]
        have : t - i = (t - (i + 1)) + 1 := by omega
        rw [this, List.getD_cons_succ]

section
variable {P : Program} [GW P] {f : FuncId} {n : Nat} {α : Type} {m : R α} {e : α → AV}
theorem cp_intro {fn : Func} {c : Code} {args : List AV} (N : Nat) (hf : P.funcs[f]? = some fn) (hb : fn.body = some c) (hn : fn.name ≠ "runtime.NumGoroutine") (hnt : fn.ntmps = n) (hl : Nat.ble args.length n = true)
    (hr : ∀ (h0 : AHeap) (ids : List Nat), Ids h0 ids N → WR P f n false (AnsQ e h0) m [.code c] (frA (frOf 0 args)) [] (hp h0 ids (List.replicate N none)) .ret) : CP P f args m e := by
  intro h hb'
  refine calls_intro hf hb hn hnt (by simpa using hl) ?_
  refine run_ids N [] fun os h1 h2 h3 h4 => ?_
  have := hr h os ⟨h2, h3, h1⟩ hb'
  rw [hp_nones h3] at this
  refine run_le (fun t => ?_) this
  rcases frOf_fr0 args 0 t with h | ⟨_, h⟩
  · exact .inl h
  · exact .inr h

section
variable {h0 : AHeap} {ids : List Nat} {xs : List (Option AO)} {N : Nat} {l : List (Nat × AV)} {k : List Item} {u : AU}
theorem wr_ret {fn : Func} {a : α} {vs : List AV} (hf : P.funcs[f]? = some fn) (hI : Ids h0 ids N) (hr : aRes P (hp h0 ids xs) (frA l) fn.results.toList = some vs) (hz : Fz (hp h0 ids xs) h0 (packRes vs) (e a)) :
    WR P f n false (AnsQ e h0) (.ok a) (.code .ret :: k) (frA l) [] (hp h0 ids xs) u := fun _ =>
  run_ret (unw_retF hf hr (hI.sub xs) hz rfl ⟨rfl, rfl⟩)
theorem wr_end {fn : Func} {a : α} {vs : List AV} (hf : P.funcs[f]? = some fn) (hI : Ids h0 ids N) (hr : aRes P (hp h0 ids xs) (frA l) fn.results.toList = some vs) (hz : Fz (hp h0 ids xs) h0 (packRes vs) (e a)) :
    WR P f n false (AnsQ e h0) (.ok a) [] (frA l) [] (hp h0 ids xs) u := fun _ =>
  run_end (unw_retF hf hr (hI.sub xs) hz rfl ⟨rfl, rfl⟩)
theorem wu_pan {fn : Func} {v : PV} {fr : Nat → AV} (hf : P.funcs[f]? = some fn) (hI : Ids h0 ids N) : WU P f n false (AnsQ e h0) (.pan v) (.pan v.av false) fr [] (hp h0 ids xs) u := fun _ =>
  unw_panF hf (hI.sub xs) (.same _) ⟨rfl, rfl⟩
end
end

/-! ### Lending -/
def hE : AHeap := fun _ => none
theorem sub_hE (h : AHeap) : Sub hE h := fun o x hx => by cases hx
/-- No part of it lies in memory. -/
inductive Free : AV → Prop
  | bool (b : Bool) : Free (.bool b)
  | int (k : IntKind) (n : Int) : Free (.int k n)
  | str (s : List UInt8) : Free (.str s)
  | tup (vs : List AV) (h : ∀ i, i < vs.length → Free (vs.getD i .und)) : Free (.tup vs)
  | agg (vs : List AV) (h : ∀ i, i < vs.length → Free (vs.getD i .und)) : Free (.agg vs)
theorem Free.rv {w : World} {mu mu' : Mu} {M M' : Nat → Prop} {v : AV} (hv : Free v) : ∀ {c : Value}, Rv w mu M v c → Rv w mu' M' v c := by
  induction hv with
  | bool b => intro c h; cases h; exact .bool b
  | int k n => intro c h; cases h; exact .int k n
  | str s => intro c h; cases h; exact .str s
  | tup vs h ih => intro c hc; cases hc with | tup _ cs hl hp => exact .tup vs cs hl fun i hi => ih i hi (hp i hi)
  | agg vs h ih => intro c hc; cases hc with | agg _ cs hl hp => exact .agg vs cs hl fun i hi => ih i hi (hp i hi)
theorem Free.tup2 {a b : AV} (ha : Free a) (hb : Free b) : Free (.tup [a, b]) := .tup _ fun i hi => by
  match i, hi with
  | 0, _ => exact ha
  | 1, _ => exact hb
theorem Free.tup3 {a b c : AV} (ha : Free a) (hb : Free b) (hc : Free c) : Free (.tup [a, b, c]) := .tup _ fun i hi => by
  match i, hi with
  | 0, _ => exact ha
  | 1, _ => exact hb
  | 2, _ => exact hc
theorem Free.tup0 : Free (.tup []) := .tup _ fun i hi => by simp at hi

theorem Sc.free (x : Sc) : Free x.av := by
  cases x with
  | int k n => exact .int k n
  | str s => exact .str s
  | bool b => exact .bool b
  | unit => exact .agg [] fun i hi => by simp at hi
  | two k1 k2 a b =>
    refine .agg _ fun i hi => ?_
    match i, hi with
    | 0, _ => exact .int k1 a
    | 1, _ => exact .int k2 b
theorem Sim.back {P : Program} [GW P] {B : Base P} {mu mu' : Mu} {h : AHeap} {w w' : World} (s : Sim B mu h w) (s' : Sim B mu' hE w') (e : EXT hE mu w hE mu' w') : Sim B mu' h w' ∧ EXT h mu w h mu' w' := by
  have hn : ∀ m b, ¬ Mut hE m b := by rintro m b ⟨o, x, l, hx, _⟩; cases hx
  have hold : ∀ b, b < w.heap.size → w'.heap[b]? = w.heap[b]? := fun b hb => (e.same b hb (hn _ _)).1
  have live : ∀ {o x}, h o = some x → ∃ l, mu o x.gen = some l := by
    intro o x hx
    cases x with
    | rows g st rs => obtain ⟨l, h1, _⟩ := s.rows _ _ _ _ hx; exact ⟨l, h1⟩
    | mp g es => obtain ⟨l, h1, _⟩ := s.maps _ _ _ hx; exact ⟨l, h1⟩
    | blk g x => obtain ⟨l, h1, _⟩ := s.blks _ _ _ hx; exact ⟨l, h1⟩
  have hmut : ∀ b, Mut h mu' b → Mut h mu b := by
    rintro b ⟨o, x, l, hx, hl, rfl⟩
    obtain ⟨l', hl'⟩ := live hx
    have := e.mu _ _ _ hl'
    rw [hl] at this; cases this
    exact ⟨o, x, l, hx, hl', rfl⟩
  have ext : EXT h mu w h mu' w' := ⟨e.os, e.tape, e.output, e.size, fun b hb hm => ⟨hold b hb, fun hm' => hm (hmut b hm')⟩, e.mu⟩
  refine ⟨⟨s'.base, s'.muOk, s'.fin, s.finh, ?_, ?_, ?_, s.globE ext, fun o g x hx => let ⟨l, h1, h2, h3⟩ := s.blks _ _ _ hx; ⟨l, e.mu _ _ _ h1, h2, by rw [hold _ (s.muOk _ _ _ h1).2.1]; exact h3⟩⟩, ext⟩
  · intro o g st rs hx
    obtain ⟨l, h1, h2, h3, h4, h5, h6⟩ := s.rows _ _ _ _ hx
    refine ⟨l, e.mu _ _ _ h1, h2, h3, h4, h5, fun i j hi hj => ?_⟩
    obtain ⟨c, hc1, hc2⟩ := h6 i j hi hj
    refine ⟨c, ?_, hc2.ext ext⟩
    rw [cell?_of_heap (w := w) (w' := w') (a := ⟨l.b, l.base + i * st + j, none⟩) (hold _ (s.muOk _ _ _ h1).2.1)]; exact hc1
  · intro o g es hx
    obtain ⟨l, h1, h2, ens, clock, h3, h4, h5⟩ := s.maps _ _ _ hx
    exact ⟨l, e.mu _ _ _ h1, h2, ens, clock, by rw [hold _ (s.muOk _ _ _ h1).2.1]; exact h3, h4, fun i hi => ⟨(h5 i hi).1.ext ext, (h5 i hi).2.ext ext⟩⟩
  · intro o o' x x' l l' hx hx' hl hl' hb
    obtain ⟨m, hm⟩ := live hx
    obtain ⟨m', hm'⟩ := live hx'
    have e1 := e.mu _ _ _ hm
    have e2 := e.mu _ _ _ hm'
    rw [hl] at e1; cases e1
    rw [hl'] at e2; cases e2
    exact s.inj _ _ _ _ _ _ hx hx' hm hm' hb

/-- What is handed over is lent: the callee reads it as content. -/
def LFz (h : AHeap) : List AV → List AV → Prop
  | [], [] => True
  | a :: l, a' :: l' => Fz h hE a a' ∧ LFz h l l'
  | _, _ => False
theorem LFz.len {h : AHeap} : ∀ {l l' : List AV}, LFz h l l' → l.length = l'.length ∧ ∀ i, i < l.length → Fz h hE (l.getD i .und) (l'.getD i .und)
  | [], [], _ => ⟨rfl, fun i hi => by simp at hi⟩
  | a :: l, a' :: l', hx => by
    obtain ⟨h1, h2⟩ := LFz.len hx.2
    refine ⟨by simp [h1], fun i hi => ?_⟩
    cases i with
    | zero => exact hx.1
    | succ i => simpa using h2 i (by simpa using hi)
theorem CP.lend {α : Type} {P : Program} [GW P] {g : FuncId} {args args' : List AV} {m : R α} {e : α → AV} {h : AHeap} (hc : CP P g args' m e) (hz : LFz h args args') (hfree : ∀ a, m = .ok a → Free (e a)) (hb : m ≠ .bad) :
    ACalls P g args h (AnsR e h m) := by
  obtain ⟨hbody, hcall⟩ := hc hE hb
  refine ⟨hbody, fun B mu w cargs s ha => ?_⟩
  obtain ⟨hlen, hfz⟩ := hz.len
  have ha' : LRv hE mu w args' cargs.toList := ⟨hlen ▸ ha.1, fun i hi => freeze_sound s (sub_hE h) (hfz i (hlen ▸ hi)) (ha.2 i (hlen ▸ hi))⟩
  refine (hcall B mu w cargs (s.sub (sub_hE h)) ha').mono ?_
  rintro en w' ⟨r, h', mu', ⟨rfl, hr⟩, hs', hext, hE'⟩
  obtain ⟨k1, k2⟩ := s.back hs' hext
  refine ⟨r, h, mu', ⟨rfl, hr⟩, k1, k2, ?_⟩
  cases hm : m with
  | bad => exact absurd hm hb
  | ok a =>
    rw [hm] at hr
    subst hr
    cases en with
    | returned c => exact (hfree a hm).rv hE'
    | panicked _ => exact hE'.elim
    | outgrown => exact hE'.elim
  | pan v =>
    rw [hm] at hr
    subst hr
    obtain ⟨x, rfl, x1, x2, x3⟩ := hE'.panic_inv
    refine ⟨x1, x2, ?_⟩
    obtain ⟨xv, xr, xg⟩ := x
    simp only [PV.av] at x3
    cases x3 with
    | iface _ _ c hc => exact .iface _ _ c (v.x.free.rv hc)

section
variable {P : Program} [GW P] {f : FuncId} {n : Nat} {d : FK} {β : Type} {Q : Spec β} {ds : List AD} {h : AHeap} {u : AU} {k : List Item} {l : List (Nat × AV)}
variable {all r : List Oper} {ty : TypeId} {pos : String} {after : Array Edge}
/-- A call. -/
theorem wo_call {α : Type} {t : Nat} {x : Operand} {as : List Operand} {ts : Array TypeId} {g : FuncId} {fst cap A : List AV} {gd : Option (Nat × Bool)} {mg : R α} {e : α → AV} {rest : α → R β} (ht : Nat.blt t n = true) (hw : aWanted all (frA l) ⟨some t, .call ⟨.value x, ⟨as⟩, ts⟩, ty, pos, after, gd⟩ = some true) (hx : ev (frA l) x = .func (.func g) fst cap)
    (ha : fst ++ evs (frA l) as ++ cap = A) (hc : mg ≠ .bad → ACalls P g A h (AnsR e h mg)) (hp : ∀ v, mg = .pan v → WU P f n d Q (.pan v) (.pan v.av false) (frA l) ds h u) (hk : ∀ a, mg = .ok a → WO P f n d Q k all (rest a) r (frA ((t, e a) :: l)) ds h u) :
    WO P f n d Q k all (mg.bind rest) (⟨some t, .call ⟨.value x, ⟨as⟩, ts⟩, ty, pos, after, gd⟩ :: r) (frA l) ds h u := by
  refine wo_one (by simpa [dstOk] using ht) hw fun hb K U hK hU => ?_
  simp only [aOne, hx]
  rw [ha]
  have hmb : mg ≠ .bad := fun q => by rw [q] at hb; exact Q.bad hb
  refine (hc hmb).mono fun r' h' hr => ?_
  obtain ⟨rfl, hr⟩ := hr
  cases hm : mg with
  | bad => exact absurd hm hmb
  | ok a =>
    rw [hm] at hr hb hK
    subst hr
    exact hK _ _ _ _ (by rw [putD_frA]; exact hk a hm)
  | pan v =>
    rw [hm] at hr hb hU
    subst hr
    exact hU _ _ _ _ _ (hp v hm hb)
theorem wo_call0 {α : Type} {x : Operand} {as : List Operand} {ts : Array TypeId} {g : FuncId} {fst cap A : List AV} {mg : R α} {e : α → AV} {rest : α → R β} (hx : ev (frA l) x = .func (.func g) fst cap)
    (ha : fst ++ evs (frA l) as ++ cap = A) (hc : mg ≠ .bad → ACalls P g A h (AnsR e h mg)) (hp : ∀ v, mg = .pan v → WU P f n d Q (.pan v) (.pan v.av false) (frA l) ds h u) (hk : ∀ a, mg = .ok a → WO P f n d Q k all (rest a) r (frA l) ds h u) :
    WO P f n d Q k all (mg.bind rest) (⟨none, .call ⟨.value x, ⟨as⟩, ts⟩, ty, pos, after, none⟩ :: r) (frA l) ds h u := by
  refine wo_one rfl rfl fun hb K U hK hU => ?_
  simp only [aOne, hx]
  rw [ha]
  have hmb : mg ≠ .bad := fun q => by rw [q] at hb; exact Q.bad hb
  refine (hc hmb).mono fun r' h' hr => ?_
  obtain ⟨rfl, hr⟩ := hr
  cases hm : mg with
  | bad => exact absurd hm hmb
  | ok a =>
    rw [hm] at hr hb hK
    subst hr
    exact hK _ _ _ _ (hk a hm)
  | pan v =>
    rw [hm] at hr hb hU
    subst hr
    exact hU _ _ _ _ _ (hp v hm hb)
theorem wo_panic {dst : Option Tmp} {x : Operand} {v : PV} (hd : dstOk n dst = true) (hx : ev (frA l) x = v.av) (hp : WU P f n d Q (.pan v) (.pan v.av false) (frA l) ds h u) :
    WO P f n d Q k all (.pan v) (⟨dst, .panic x, ty, pos, after, none⟩ :: r) (frA l) ds h u := by
  refine wo_one hd rfl fun hb K U hK hU => ?_
  simp only [aOne, hx, PV.av]
  exact hU _ _ _ _ _ (hp hb)
/-- What is never longer than memory. -/
theorem wr_lim {α : Type} {m : R β} {todo : List Item} {fr : Nat → AV} {st t : Nat} {e : α → List AV} {L : List α} (hv : fr t = .sl st (L.map e)) (hk : L.length ≤ LIM → WR P f n d Q m todo fr ds h u) : WR P f n d Q m todo fr ds h u := fun hb =>
  run_wf t fun hw => hk (by rw [hv] at hw; simpa using hw.lim) hb
theorem wr_limo {m : R β} {todo : List Item} {fr : Nat → AV} {v : AV} {o g t i : Nat} (hv : fr t = v) (ho : OwnV v o g i) (hk : i ≤ LIM → WR P f n d Q m todo fr ds h u) : WR P f n d Q m todo fr ds h u := fun hb =>
  run_wf t fun hw => hk (by
    rw [hv] at hw
    rcases ho with ⟨_, rfl⟩ | rfl
    · exact Nat.zero_le _
    · exact hw.ref) hb
end
end Go.Am
