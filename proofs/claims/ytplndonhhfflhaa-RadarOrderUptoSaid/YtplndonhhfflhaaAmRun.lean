/- Frames: what is left to do, returns, panics, deferred calls; calls by contract. -/
import Derived.Test.YtplndonhhfflhaaAmOp
import Derived.Recover
import Derived.AtR
namespace Go.Am
open Go
set_option linter.unusedSimpArgs false
set_option linter.unusedVariables false
set_option linter.unusedSectionVars false

/-- A deferred call: the function and all of its arguments; or any number of marks of loops over functions. -/
structure AD where
  k : FuncId
  args : List AV
def AD.star : AD := ⟨0, [.any, .any]⟩
def AD.isStar (d : AD) : Bool := match d.args with
  | [.any, .any] => true
  | _ => false
/-- What a frame does when it isn't running: it returns, or a panic goes through it. -/
inductive AU where
  | ret
  | pan (v : AV) (recovered : Bool)
inductive AR where
  | ret (v : AV)
  | panic (v : AV)

section
variable (h : AHeap) (mu : Mu) (w : World)
def DRv (d : AD) (c : Deferred) : Prop := ∃ cap, c.target = .fn (.func d.k) cap ∧ LRv h mu w d.args (c.args ++ cap).toList
/-- Marks of loops whose blocks lie from 'fb' on and still stand. -/
def Marks (fb : Nat) (cs : List Deferred) : Prop := ∃ bs : List Nat, bs.Nodup ∧ cs.map (·.target) = bs.map (fun b => .collected b) ∧ ∀ b ∈ bs, b < w.heap.size ∧ ¬ Mut h mu b ∧ fb ≤ b ∧ w.heap[b]? = some (.deferred (some []))
def DsRv (fb : Nat) : List AD → List Deferred → Prop
  | [], cs => cs = []
  | d :: ds, cs => match d.isStar with
    | true => ∃ c1 c2, cs = c1 ++ c2 ∧ Marks h mu w fb c1 ∧ DsRv fb ds c2
    | false => ∃ c c2, cs = c :: c2 ∧ DRv h mu w d c ∧ DsRv fb ds c2
def URv : AU → FrameMode → Prop
  | .ret, .returning => True
  | .pan v r, .panicking [e] => e.recovered = r ∧ e.goexit = false ∧ RV h mu w v e.v
  | _, _ => False
def ERv : AR → Ending → Prop
  | .ret v, .returned c => RV h mu w v c
  | .panic v, .panicked [e] => e.recovered = false ∧ e.goexit = false ∧ RV h mu w v e.v
  | _, _ => False
end

section
variable {h h' : AHeap} {mu mu' : Mu} {w w' : World}
theorem LRv.ext (e : EXT h mu w h' mu' w') {l : List AV} {cs : List Value} (k : LRv h mu w l cs) : LRv h' mu' w' l cs := ⟨k.1, fun i hi => (k.2 i hi).ext e⟩
theorem DRv.ext (e : EXT h mu w h' mu' w') {d : AD} {c : Deferred} (k : DRv h mu w d c) : DRv h' mu' w' d c := by
  obtain ⟨cap, h1, h2⟩ := k; exact ⟨cap, h1, h2.ext e⟩
theorem Marks.ext (e : EXT h mu w h' mu' w') {fb : Nat} {cs : List Deferred} (k : Marks h mu w fb cs) : Marks h' mu' w' fb cs := by
  obtain ⟨bs, h1, h2, h3⟩ := k
  refine ⟨bs, h1, h2, fun b hb => ?_⟩
  obtain ⟨q1, q2, q3, q4⟩ := h3 b hb
  obtain ⟨s1, s2⟩ := e.same b q1 q2
  exact ⟨Nat.lt_of_lt_of_le q1 e.size, s2, q3, s1.trans q4⟩
theorem DsRv.ext (e : EXT h mu w h' mu' w') {fb : Nat} : ∀ {ds : List AD} {cs : List Deferred}, DsRv h mu w fb ds cs → DsRv h' mu' w' fb ds cs
  | [], cs, k => k
  | d :: ds, cs, k => by
    unfold DsRv at k ⊢
    cases hs : d.isStar <;> rw [hs] at k
    · obtain ⟨c, c2, h1, h2, h3⟩ := k; exact ⟨c, c2, h1, h2.ext e, DsRv.ext e h3⟩
    · obtain ⟨c1, c2, h1, h2, h3⟩ := k; exact ⟨c1, c2, h1, h2.ext e, DsRv.ext e h3⟩
theorem URv.ext (e : EXT h mu w h' mu' w') {u : AU} {m : FrameMode} (k : URv h mu w u m) : URv h' mu' w' u m := by
  unfold URv at k ⊢
  split at k
  · trivial
  · exact ⟨k.1, k.2.1, k.2.2.ext e⟩
  · exact k.elim
end

theorem URv.pan_inv {h : AHeap} {mu : Mu} {w : World} {v : AV} {r : Bool} {m : FrameMode} (k : URv h mu w (.pan v r) m) : ∃ e, m = .panicking [e] ∧ e.recovered = r ∧ e.goexit = false ∧ RV h mu w v e.v := by
  cases m with
  | run => exact k.elim
  | returning => exact k.elim
  | panicking c =>
    match c, k with
    | [e], k => exact ⟨e, rfl, k⟩
    | [], k => exact k.elim
    | _ :: _ :: _, k => exact k.elim
theorem URv.ret_inv {h : AHeap} {mu : Mu} {w : World} {m : FrameMode} (k : URv h mu w .ret m) : m = .returning := by
  cases m with
  | run => exact k.elim
  | returning => rfl
  | panicking c => exact k.elim
theorem ERv.panic_inv {h : AHeap} {mu : Mu} {w : World} {v : AV} {e : Ending} (k : ERv h mu w (.panic v) e) : ∃ x, e = .panicked [x] ∧ x.recovered = false ∧ x.goexit = false ∧ RV h mu w v x.v := by
  cases e with
  | returned _ => exact k.elim
  | outgrown => exact k.elim
  | panicked c =>
    match c, k with
    | [e], k => exact ⟨e, rfl, k⟩
    | [], k => exact k.elim
    | _ :: _ :: _, k => exact k.elim

/-- What a frame is: deferred or not; the round of a loop over a function, or none. -/
structure FK where
  dfr : Bool
  ro : Option (Nat × Nat × Nat)
instance : Coe Bool FK := ⟨fun b => ⟨b, none⟩⟩
def KD (d : FK) : CallKind := if d.dfr then .deferred else .normal
def b0 (f : FuncId) (d : FK) : Frame := { (default : Frame) with fn := f, kind := KD d, roundOf := d.ro.map (·.1) }
def CsOk (d : FK) (h : AHeap) (mu : Mu) (w : World) (u : AU) (cs : List Frame) : Prop :=
  match d.dfr with
  | true => ∃ c r, cs = c :: r ∧ URv h mu w u c.mode
  | false => True
def CsTo (d : FK) (h : AHeap) (mu : Mu) (w : World) (u : AU) (cs cs' : List Frame) : Prop :=
  match d.dfr with
  | true => ∃ c r m, cs = c :: r ∧ cs' = { c with mode := m } :: r ∧ URv h mu w u m
  | false => cs' = cs

structure Pre {P : Program} [GW P] (n : Nat) (d : FK) (fr : Nat → AV) (ds : List AD) (h : AHeap) (u : AU) (B : Base P) (mu : Mu) (w : World) (a : Act) (cs : List Frame) : Prop where
  size : a.tmps.size = n
  fr : FrOk h mu w fr a
  ds : DsRv h mu w B.fb ds a.defers
  sim : Sim B mu h w
  cs : CsOk d h mu w u cs
  rnd : ∀ l o g, d.ro = some (l, o, g) → ∃ loc, mu o g = some loc ∧ loc.b = l
  fb : B.n ≤ B.fb ∧ B.fb ≤ w.heap.size

/-- The frame is about to end so. -/
def Gone (P : Program) (d : FK) (frm : Frame) (w : World) : Ending → Prop
  | .returned v => match d.ro with
    | none => frm.going P w (.returned v)
    | some (l, _) => frm.roundOf = some l ∧ frm.mode = .run ∧ frm.todo = [] ∧ frm.defers = []
  | e => frm.going P w e
abbrev QT := AR → AHeap → AU → Prop
def Post (P : Program) [GW P] (f : FuncId) (d : FK) (B : Base P) (h : AHeap) (mu : Mu) (w : World) (cs : List Frame) (Q : QT) (m : Machine) : Prop :=
  ∃ e w' cs' frm r h' mu' u', Q r h' u' ∧ Steps P m (lone frm cs' w') ∧ frm.fn = f ∧ frm.kind = KD d ∧ Gone P d frm w' e ∧ ERv h' mu' w' r e ∧ Sim B mu' h' w' ∧ EXTG B.fb h mu w h' mu' w' ∧ CsTo d h' mu' w' u' cs cs'

def Run (P : Program) [GW P] (f : FuncId) (n : Nat) (d : FK) (todo : List Item) (fr : Nat → AV) (ds : List AD) (h : AHeap) (u : AU) (Q : QT) : Prop :=
  ∀ (B : Base P) mu w a cs, Pre n d fr ds h u B mu w a cs → Post P f d B h mu w cs Q (lone ((b0 f d).atR a todo) cs w)
/-- The frame returns, or a panic goes through it; deferred calls are still to be made. -/
def Unw (P : Program) [GW P] (f : FuncId) (n : Nat) (d : FK) (m : AU) (fr : Nat → AV) (ds : List AD) (h : AHeap) (u : AU) (Q : QT) : Prop :=
  ∀ (B : Base P) mu w a cs todo mode, Pre n d fr ds h u B mu w a cs → URv h mu w m mode → Post P f d B h mu w cs Q (lone { (b0 f d).atR a todo with mode := mode } cs w)

def HasBody (P : Program) [GW P] (g : FuncId) : Prop := ∃ gf gc, P.funcs[g]? = some gf ∧ gf.body = some gc ∧ gf.name ≠ "runtime.NumGoroutine"
/-- A function's contract, called as such. -/
def ACalls (P : Program) [GW P] (f : FuncId) (args : List AV) (h : AHeap) (Q : AR → AHeap → Prop) : Prop :=
  HasBody P f ∧ ∀ (B : Base P) mu w (cargs : Array Value), Sim B mu h w → LRv h mu w args cargs.toList → Calls P f cargs w fun e w' => ∃ r h' mu', Q r h' ∧ Sim B mu' h' w' ∧ EXT h mu w h' mu' w' ∧ ERv h' mu' w' r e
/-- A function's contract, called by a frame that leaves in mode 'm'. -/
def ADefer (P : Program) [GW P] (f : FuncId) (args : List AV) (m : AU) (h : AHeap) (Q : QT) : Prop :=
  HasBody P f ∧ ∀ (B : Base P) mu w (cargs : Array Value) mode, Sim B mu h w → LRv h mu w args cargs.toList → URv h mu w m mode →
    CallsD P f cargs mode w fun e mode' w' => ∃ r h' mu' m', Q r h' m' ∧ Sim B mu' h' w' ∧ EXT h mu w h' mu' w' ∧ ERv h' mu' w' r e ∧ URv h' mu' w' m' mode'

section
variable {P : Program} [GW P] {f : FuncId} {n : Nat} {d : FK} {fr : Nat → AV} {ds : List AD} {h : AHeap} {u : AU} {Q : QT} {k : List Item}

theorem Post.head {B : Base P} {mu : Mu} {w : World} {cs : List Frame} {m m1 : Machine} (hs : step P m = .next m1) (hp : Post P f d B h mu w cs Q m1) : Post P f d B h mu w cs Q m :=
  let ⟨e, w', cs', frm, r, h', mu', u', h1, h2, h3⟩ := hp
  ⟨e, w', cs', frm, r, h', mu', u', h1, .head hs h2, h3⟩
theorem Post.steps {B : Base P} {mu : Mu} {w : World} {cs : List Frame} {m m1 : Machine} (hs : Steps P m m1) (hp : Post P f d B h mu w cs Q m1) : Post P f d B h mu w cs Q m :=
  let ⟨e, w', cs', frm, r, h', mu', u', h1, h2, h3⟩ := hp
  ⟨e, w', cs', frm, r, h', mu', u', h1, hs.trans h2, h3⟩
theorem Post.ext {B : Base P} {mu mu1 : Mu} {w w1 : World} {h1 : AHeap} {cs : List Frame} {m : Machine} (he : EXT h mu w h1 mu1 w1) (hp : Post P f d B h1 mu1 w1 cs Q m) : Post P f d B h mu w cs Q m :=
  let ⟨e, w', cs', frm, r, h', mu', u', a1, a2, a3, a4, a5, a6, a7, a8, a9⟩ := hp
  ⟨e, w', cs', frm, r, h', mu', u', a1, a2, a3, a4, a5, a6, a7, he.g.trans a8, a9⟩
theorem Post.extG {B : Base P} {mu mu1 : Mu} {w w1 : World} {h1 : AHeap} {cs : List Frame} {m : Machine} (he : EXTG B.fb h mu w h1 mu1 w1) (hp : Post P f d B h1 mu1 w1 cs Q m) : Post P f d B h mu w cs Q m :=
  let ⟨e, w', cs', frm, r, h', mu', u', a1, a2, a3, a4, a5, a6, a7, a8, a9⟩ := hp
  ⟨e, w', cs', frm, r, h', mu', u', a1, a2, a3, a4, a5, a6, a7, he.trans a8, a9⟩
/-- A caller's frame whose mode has been turned: for deferred frames. -/
theorem Post.mode {B : Base P} {mu : Mu} {w : World} {c : Frame} {r : List Frame} {m : FrameMode} {mm : Machine} (hd : d = true) (hp : Post P f d B h mu w ({ c with mode := m } :: r) Q mm) : Post P f d B h mu w (c :: r) Q mm := by
  subst hd
  obtain ⟨e, w', cs', frm, rr, h', mu', u', a1, a2, a3, a4, a5, a6, a7, a8, a9⟩ := hp
  obtain ⟨c1, r1, m1, e1, e2, e3⟩ := a9
  cases e1
  exact ⟨e, w', cs', frm, rr, h', mu', u', a1, a2, a3, a4, a5, a6, a7, a8, ⟨c, r, m1, rfl, e2, e3⟩⟩

theorem CsOk.ext {h' : AHeap} {mu mu' : Mu} {w w' : World} {cs : List Frame} (e : EXT h mu w h' mu' w') (k : CsOk d h mu w u cs) : CsOk d h' mu' w' u cs := by
  obtain ⟨q, ro⟩ := d
  cases q with
  | false => trivial
  | true => obtain ⟨c, r, h1, h2⟩ := k; exact ⟨c, r, h1, h2.ext e⟩
theorem Pre.ext {B : Base P} {mu mu' : Mu} {w w' : World} {a : Act} {cs : List Frame} {h' : AHeap} (p : Pre n d fr ds h u B mu w a cs) (e : EXT h mu w h' mu' w') (s : Sim B mu' h' w') : Pre n d fr ds h' u B mu' w' a cs :=
  ⟨p.size, fun t => (p.fr t).ext e, p.ds.ext e, s, p.cs.ext e, fun l o g hr => let ⟨loc, h1, h2⟩ := p.rnd l o g hr; ⟨loc, e.mu _ _ _ h1, h2⟩, p.fb.1, Nat.le_trans p.fb.2 e.size⟩

def putD (fr : Nat → AV) (dst : Option Tmp) (v : AV) : Nat → AV :=
  match dst with
  | some t => upd fr t v
  | none => fr
def dstOk (n : Nat) (dst : Option Tmp) : Bool :=
  match dst with
  | some t => decide (t < n)
  | none => true
theorem Pre.put {B : Base P} {mu : Mu} {w : World} {a : Act} {cs : List Frame} (p : Pre n d fr ds h u B mu w a cs) {dst : Option Tmp} (hd : dstOk n dst = true) {v : AV} {c : Value} (hv : RV h mu w v c) : Pre n d (putD fr dst v) ds h u B mu w (a.put dst c) cs := by
  cases dst with
  | none => exact p
  | some t =>
    have ht : t < n := by simpa [dstOk] using hd
    refine ⟨by simp [Act.put, p.size], fun i => ?_, p.ds, p.sim, p.cs, p.rnd, p.fb⟩
    simp only [putD, upd, Act.put]
    by_cases hi : i = t
    · subst hi
      simp [p.size, ht]
      exact hv
    · rw [if_neg hi]
      have := p.fr i
      simpa [Array.getD_eq_getD_getElem?, Array.getElem?_setIfInBounds_ne (Ne.symm hi)] using this

/-! ### The text's own structure -/
theorem run_step {todo todo' : List Item} (hs : ∀ a cs w, step P (lone ((b0 f d).atR a todo) cs w) = .next (lone ((b0 f d).atR a todo') cs w)) (hr : Run P f n d todo' fr ds h u Q) : Run P f n d todo fr ds h u Q :=
  fun B mu w a cs p => .head (hs a cs w) (hr B mu w a cs p)
theorem run_skip (hr : Run P f n d k fr ds h u Q) : Run P f n d (.code .skip :: k) fr ds h u Q := run_step (fun _ _ _ => stepR_skip) hr
theorem run_seq {x y : Code} (hr : Run P f n d (.code x :: .code y :: k) fr ds h u Q) : Run P f n d (.code (.seq x y) :: k) fr ds h u Q := run_step (fun _ _ _ => stepR_seq) hr
theorem run_block {id : Nat} {c : Code} (hr : Run P f n d (.code c :: .inBlock id :: k) fr ds h u Q) : Run P f n d (.code (.block id c) :: k) fr ds h u Q := run_step (fun _ _ _ => stepR_block) hr
theorem run_inBlock {id : Nat} (hr : Run P f n d k fr ds h u Q) : Run P f n d (.inBlock id :: k) fr ds h u Q := run_step (fun _ _ _ => stepR_inBlock) hr
theorem run_loop {c : Code} (hr : Run P f n d (.inLoop c :: k) fr ds h u Q) : Run P f n d (.code (.loop c) :: k) fr ds h u Q := by
  intro B mu w a cs p
  obtain ⟨e, w', cs', frm, r, h', mu', u', a1, a2, a3, a4, a5⟩ := hr B mu w a cs p
  obtain ⟨m, hm⟩ := a2
  cases m with
  | zero =>
    simp [runN] at hm
    exfalso
    have h5 := a5.1
    have hE := a5.2.1
    have : frm = (b0 f d).atR a (.inLoop c :: k) := by
      have := congrArg (fun m : Machine => m.gs[0]?.map (·.frame)) hm
      simpa [lone] using this.symm
    subst this
    cases e with
    | outgrown => cases r <;> exact hE.elim
    | returned v =>
      simp only [Gone] at h5
      split at h5
      · exact absurd h5.1 (by simp [Frame.atR])
      · exact absurd h5.2.2.1 (by simp [Frame.atR])
    | panicked c => exact absurd h5.1 (by simp [Frame.atR])
  | succ m =>
    simp only [runN, stepR_inLoop] at hm
    refine ⟨e, w', cs', frm, r, h', mu', u', a1, .head stepR_loop ⟨m, hm⟩, a3, a4, a5⟩
theorem run_again {c : Code} (hr : Run P f n d (.code c :: .inLoop c :: k) fr ds h u Q) : Run P f n d (.inLoop c :: k) fr ds h u Q := run_step (fun _ _ _ => stepR_inLoop) hr
theorem run_exit {id : Nat} {k' : List Item} (he : exitTo id k = some k') (hr : Run P f n d k' fr ds h u Q) : Run P f n d (.code (.exit id) :: k) fr ds h u Q := run_step (fun _ _ _ => stepR_exit he) hr
theorem run_cond {c : Operand} {x y : Code} {b : Bool} (hc : ev fr c = .bool b) (hr : Run P f n d (.code (if b then x else y) :: k) fr ds h u Q) : Run P f n d (.code (.cond c x y) :: k) fr ds h u Q := by
  intro B mu w a cs p
  have := ev_sound p.fr c
  rw [hc] at this
  cases hq : a.eval c <;> rw [hq] at this <;> cases this
  exact .head (stepR_cond hq) (hr B mu w a cs p)
/-- A loop by an invariant and a measure. -/
theorem run_inv {c : Code} (I : (Nat → AV) → AHeap → Prop) (ms : (Nat → AV) → AHeap → Nat) (h0 : I fr h)
    (round : ∀ fr h, I fr h → (∀ fr' h', I fr' h' → ms fr' h' < ms fr h → Run P f n d (.inLoop c :: k) fr' ds h' u Q) → Run P f n d (.code c :: .inLoop c :: k) fr ds h u Q) : Run P f n d (.inLoop c :: k) fr ds h u Q := by
  have key : ∀ m fr h, ms fr h = m → I fr h → Run P f n d (.inLoop c :: k) fr ds h u Q := by
    intro m
    induction m using Nat.strongRecOn with
    | _ m ih =>
      intro fr h hm hI
      refine run_again (round fr h hI fun fr' h' hI' hlt => ?_)
      exact ih (ms fr' h') (hm ▸ hlt) fr' h' rfl hI'
  exact key _ fr h rfl h0
/-- What is known may be forgotten. -/
theorem run_mono {todo : List Item} {Q' : QT} (hr : Run P f n d todo fr ds h u Q) (hq : ∀ r h u, Q r h u → Q' r h u) : Run P f n d todo fr ds h u Q' := fun B mu w a cs p =>
  let ⟨e, w', cs', frm, r, h', mu', u', a1, a2⟩ := hr B mu w a cs p
  ⟨e, w', cs', frm, r, h', mu', u', hq _ _ _ a1, a2⟩
/-- Objects may be forgotten. -/
theorem run_sub {todo : List Item} {h' : AHeap} (hs : Sub h' h) (hr : Run P f n d todo fr ds h' u Q) : Run P f n d todo fr ds h u Q := fun B mu w a cs p =>
  (hr B mu w a cs (p.ext (EXT.sub hs) (p.sim.sub hs))).ext (EXT.sub hs)

/-! ### Leaving -/
def aRes (P : Program) [GW P] (h : AHeap) (fr : Nat → AV) : List ResultVar → Option (List AV)
  | [] => some []
  | .tmp t :: r => (aRes P h fr r).map (fr t :: ·)
  | .cell a t :: r => match aLoad P h t (fr a), aRes P h fr r with
    | some v, some l => some (v :: l)
    | _, _ => none
def packRes : List AV → AV
  | [v] => v
  | l => .tup l

def resOne (a : Act) : ResultVar → Sem Value
  | .tmp t => pure (a.tmps.getD t undef)
  | .cell ad t => do loadVar t (← asAddr (a.tmps.getD ad undef))
theorem res_sound {B : Base P} {mu : Mu} {w : World} (s : Sim B mu h w) {a : Act} (hf : FrOk h mu w fr a) : ∀ (l : List ResultVar) {vs : List AV}, aRes P h fr l = some vs →
    ∃ cs : List Value, (l.mapM (resOne a)).run P w = .ok cs w ∧ LRv h mu w vs cs
  | [], vs, hx => by simp [aRes] at hx; subst hx; exact ⟨[], rfl, rfl, fun i hi => by simp at hi⟩
  | .tmp t :: r, vs, hx => by
    cases hq : aRes P h fr r with
    | none => simp [aRes, hq] at hx
    | some l =>
      simp [aRes, hq] at hx; subst hx
      obtain ⟨cs, h1, h2, h3⟩ := res_sound s hf r hq
      refine ⟨a.tmps.getD t undef :: cs, ?_, by simp [h2], fun i hi => ?_⟩
      · simp only [List.mapM_cons, resOne, Sem.run_bind, Sem.run_pure, Result.andThen_ok, h1]
      · cases i with
        | zero => simpa using hf t
        | succ i => simpa using h3 i (by simpa using hi)
  | .cell ad t :: r, vs, hx => by
    simp only [aRes] at hx
    split at hx
    · rename_i v l hv hl
      cases hx
      obtain ⟨cs, h1, h2, h3⟩ := res_sound s hf r hl
      obtain ⟨y, y1, y2⟩ := load_sound (P := P) s (hf ad) hv
      refine ⟨y :: cs, ?_, by simp [h2], fun i hi => ?_⟩
      · have hy : (resOne a (.cell ad t)).run P w = .ok y w := by
          show (do loadVar t (← asAddr (a.tmps.getD ad undef)) : Sem Value).run P w = _
          generalize a.tmps.getD ad undef = c at y1 ⊢
          cases c with
          | pointer o =>
            cases o with
            | none => simp [Instr.loadAt, Instr.sureAddr] at y1
            | some o => simpa [Instr.loadAt, Instr.sureAddr, asAddr] using y1
          | _ => simp [Instr.loadAt, Instr.sureAddr] at y1
        simp only [List.mapM_cons, Sem.run_bind, hy, Sem.run_pure, Result.andThen_ok, h1]
      · cases i with
        | zero => simpa using y2
        | succ i => simpa using h3 i (by simpa using hi)
    · cases hx

theorem results_eq (fn : Func) (a : Act) : results fn a.tmps = (do let vs ← fn.results.mapM (resOne a); pure (if h : vs.size = 1 then vs[0] else .tuple vs)) := by
  unfold results
  congr 1

theorem results_sound {B : Base P} {mu : Mu} {w : World} (s : Sim B mu h w) {a : Act} (hf : FrOk h mu w fr a) {fn : Func} {vs : List AV} (hx : aRes P h fr fn.results.toList = some vs) :
    ∃ c, (results fn a.tmps).run P w = .ok c w ∧ RV h mu w (packRes vs) c := by
  obtain ⟨cs, h1, h2, h3⟩ := res_sound s hf fn.results.toList hx
  have hm : (fn.results.mapM (resOne a)).run P w = .ok cs.toArray w := by
    rw [Array.mapM_eq_mapM_toList]
    simp [h1]
  refine ⟨if h : cs.toArray.size = 1 then cs.toArray[0] else .tuple cs.toArray, ?_, ?_⟩
  · rw [results_eq]
    simp only [Sem.run_bind, hm, Result.andThen_ok, Sem.run_pure]
  · match vs, cs, h2, h3 with
    | [], [], _, _ => simpa [packRes] using Rv.tup (w := w) (mu := mu) (M := Mut h mu) [] [] rfl (fun i hi => by simp at hi)
    | [v], [c], _, h3 => simpa [packRes] using h3 0 (by simp)
    | v :: v' :: vs, c :: c' :: cs, h2, h3 =>
      have := Rv.tup (w := w) (mu := mu) (M := Mut h mu) _ _ h2 h3
      simpa [packRes] using this

theorem run_ret (hu : Unw P f n d .ret fr ds h u Q) (hro : d.ro = none := by rfl) : Run P f n d (.code .ret :: k) fr ds h u Q := fun B mu w a cs p =>
  .head (stepR_ret (by simp [b0, hro])) (hu B mu w a cs _ _ p trivial)
theorem run_end (hu : Unw P f n d .ret fr ds h u Q) (hro : d.ro = none := by rfl) : Run P f n d [] fr ds h u Q := fun B mu w a cs p =>
  .head (stepR_end (by simp [b0, hro])) (hu B mu w a cs _ _ p trivial)
theorem CsTo.refl {mu : Mu} {w : World} {cs : List Frame} (hc : CsOk d h mu w u cs) : CsTo d h mu w u cs cs := by
  obtain ⟨q, ro⟩ := d
  cases q with
  | false => rfl
  | true => obtain ⟨c, r, h1, h2⟩ := hc; exact ⟨c, r, c.mode, h1, h1, h2⟩
theorem unw_ret {fn : Func} {vs : List AV} (hf : P.funcs[f]? = some fn) (hx : aRes P h fr fn.results.toList = some vs) (hq : Q (.ret (packRes vs)) h u) (hro : d.ro = none := by rfl) : Unw P f n d .ret fr [] h u Q := by
  intro B mu w a cs todo mode p hm
  obtain ⟨c, h1, h2⟩ := results_sound p.sim p.fr hx
  have hd : a.defers = [] := p.ds
  have hmode := hm.ret_inv
  exact ⟨.returned c, w, cs, _, .ret (packRes vs), h, mu, u, hq, Steps.refl P _, rfl, rfl, (by simp only [Gone, hro]; exact ⟨hmode, hd, fn, hf, h1⟩), h2, p.sim, (Ext.refl _ _ _).g, .refl p.cs⟩
theorem unw_pan {fn : Func} {v : AV} (hf : P.funcs[f]? = some fn) (hq : Q (.panic v) h u) : Unw P f n d (.pan v false) fr [] h u Q := by
  intro B mu w a cs todo mode p hm
  have hd : a.defers = [] := p.ds
  obtain ⟨e, rfl, e1, e2, e3⟩ := hm.pan_inv
  exact ⟨.panicked [e], w, cs, _, .panic v, h, mu, u, hq, Steps.refl P _, rfl, rfl, ⟨rfl, hd, fn, hf⟩, ⟨e1, e2, e3⟩, p.sim, (Ext.refl _ _ _).g, .refl p.cs⟩

def settleA : AU → AU
  | .pan _ true => .ret
  | m => m
/-- The next deferred call. -/
theorem unw_defer {m : AU} {g : FuncId} {args : List AV} 
    (hc : ADefer P g args m h fun r h' m' => match r, m' with
      | .ret _, m' => Unw P f n d (settleA m') fr ds h' u Q
      | .panic v, .ret => Unw P f n d (.pan v false) fr ds h' u Q
      | .panic _, .pan _ _ => False) (hn : AD.isStar ⟨g, args⟩ = false := by rfl) : Unw P f n d m fr (⟨g, args⟩ :: ds) h u Q := by
  intro B mu w a cs todo mode p hm
  obtain ⟨⟨gf, gc, hg, hgb, hgn⟩, hc⟩ := hc
  have hds := p.ds
  unfold DsRv at hds
  rw [hn] at hds
  obtain ⟨dc, dcs, hq, hdr, hrest⟩ := hds
  · obtain ⟨cap, ht, hargs⟩ := hdr
    have hinv : (invoke dc.target dc.args).run P w = .ok (.enter g (dc.args ++ cap)) w := by
      rw [ht]
      simp [invoke, callFunc, hg, hgb, hgn]
    have hmr : mode ≠ .run := by intro hh; subst hh; cases m <;> simp [URv] at hm
    have hcd := hc B mu w (dc.args ++ cap) mode p.sim hargs hm
    obtain ⟨e, mode', w', frX, ⟨r, h', mu', m', hQ, hs', hext, hE, hU⟩, hcomes, hkX, hgo⟩ := hcd { (b0 f d).atR a todo with mode := mode, defers := dcs } cs rfl
    have h1 : step P (lone { (b0 f d).atR a todo with mode := mode } cs w) = .next (lone (Frame.enter P g (dc.args ++ cap) .deferred) ({ (b0 f d).atR a todo with mode := mode, defers := dcs } :: cs) w) :=
      step_defer (fr := { (b0 f d).atR a todo with mode := mode }) (d := dc) (ds := dcs) hmr hq ht hinv
    have p' : Pre n d fr ds h u B mu w { a with defers := dcs } cs := ⟨p.size, p.fr, hrest, p.sim, p.cs, p.rnd, p.fb⟩
    have p2 := p'.ext hext hs'
    cases e with
    | outgrown => cases r <;> exact hE.elim
    | returned c =>
      cases r with
      | panic v => exact hE.elim
      | ret v =>
        have h2 := step_going_returned (c := { { (b0 f d).atR a todo with mode := mode, defers := dcs } with mode := mode' }) (cs := cs) hkX hgo
        have hset : URv h' mu' w' (settleA m') (settle mode') := by
          cases m' with
          | ret => rw [hU.ret_inv]; trivial
          | pan v r =>
            obtain ⟨e', rfl, e1, e2, e3⟩ := hU.pan_inv
            obtain ⟨ev, er, eg⟩ := e'
            simp only at e1 e2 e3
            subst e1; subst e2
            cases er
            · exact ⟨rfl, rfl, e3⟩
            · simp [settleA, settle, URv]
        have hfin := hQ B mu' w' { a with defers := dcs } cs todo (settle mode') p2 hset
        exact .ext hext (.steps (.head h1 (Steps.trans hcomes (.one h2))) hfin)
    | panicked chain =>
      cases r with
      | ret v => exact hE.elim
      | panic v =>
        have h2 := step_going_panicked (c := { { (b0 f d).atR a todo with mode := mode, defers := dcs } with mode := mode' }) (cs := cs) hgo
        cases m' with
        | pan _ _ => exact hQ.elim
        | ret =>
          have hm' := hU.ret_inv
          subst hm'
          have hset : URv h' mu' w' (.pan v false) (raised .returning chain) := by
            obtain ⟨x, hx, x1, x2, x3⟩ := hE.panic_inv
            cases hx
            exact ⟨x1, x2, x3⟩
          have hfin := hQ B mu' w' { a with defers := dcs } cs todo _ p2 hset
          exact .ext hext (.steps (.head h1 (Steps.trans hcomes (.one h2))) hfin)
end
end Go.Am
