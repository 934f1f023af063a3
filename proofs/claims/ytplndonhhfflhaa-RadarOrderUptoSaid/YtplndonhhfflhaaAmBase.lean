/- The abstract memory: values, objects, the relation to the machine's worlds, and how it is carried over steps. -/
import Derived.WalkKit
import Derived.MapKept
import Derived.Lib.Strings
namespace Go.Am
open Go

structure Loc where
  b : Nat
  base : Nat
  st : Nat
  size : Nat
  cells : Bool

abbrev Mu := Nat → Nat → Option Loc
structure Ext (w : World) (mu : Mu) (M : Nat → Prop) (w' : World) (mu' : Mu) (M' : Nat → Prop) : Prop where
  os : w'.os = w.os
  tape : w'.tape = w.tape
  output : w'.output = w.output
  size : w.heap.size ≤ w'.heap.size
  same : ∀ b, b < w.heap.size → ¬ M b → w'.heap[b]? = w.heap[b]? ∧ ¬ M' b
  mu : ∀ o g l, mu o g = some l → mu' o g = some l

/-- The same, but blocks from 'n' on that hold the deferred calls of loops may have been emptied. -/
structure ExtG (n : Nat) (w : World) (mu : Mu) (M : Nat → Prop) (w' : World) (mu' : Mu) (M' : Nat → Prop) : Prop where
  os : w'.os = w.os
  tape : w'.tape = w.tape
  output : w'.output = w.output
  size : w.heap.size ≤ w'.heap.size
  same : ∀ b, b < w.heap.size → ¬ M b → (w'.heap[b]? = w.heap[b]? ∨ (n ≤ b ∧ ∃ x y, w.heap[b]? = some (.deferred x) ∧ w'.heap[b]? = some (.deferred y))) ∧ ¬ M' b
  mu : ∀ o g l, mu o g = some l → mu' o g = some l
theorem Ext.g {n : Nat} {w : World} {mu : Mu} {M : Nat → Prop} {w' : World} {mu' : Mu} {M' : Nat → Prop} (e : Ext w mu M w' mu' M') : ExtG n w mu M w' mu' M' :=
  ⟨e.os, e.tape, e.output, e.size, fun b hb hm => ⟨.inl (e.same b hb hm).1, (e.same b hb hm).2⟩, e.mu⟩
theorem ExtG.ext {w : World} {mu : Mu} {M : Nat → Prop} {w' : World} {mu' : Mu} {M' : Nat → Prop} (e : ExtG w.heap.size w mu M w' mu' M') : Ext w mu M w' mu' M' :=
  ⟨e.os, e.tape, e.output, e.size, fun b hb hm => by
    obtain ⟨h1, h2⟩ := e.same b hb hm
    rcases h1 with h1 | ⟨h1, _⟩
    · exact ⟨h1, h2⟩
    · omega, e.mu⟩

/-- What is known of the block of a loop over a function, as long as it stands. -/
structure YF where
  F : World → Mu → (Nat → Prop) → Nat → Prop
  mono : ∀ {n : Nat} {w : World} {mu : Mu} {M : Nat → Prop} {w' : World} {mu' : Mu} {M' : Nat → Prop} {l : Nat}, ExtG n w mu M w' mu' M' → F w mu M l → F w' mu' M' l

inductive AV where
  | bool (b : Bool)
  | int (k : IntKind) (n : Int)
  | str (s : List UInt8)
  | nilp
  | ptr (o g r c : Nat)
  | gptr (a : Addr)
  | cp (row : List AV) (c : Nat)
  /-- the same, at the beginning of its block -/
  | cp0 (row : List AV)
  | emp
  | sl (st : Nat) (rows : List (List AV))
  | ref (o g off len : Nat)
  | mnil
  | map (o g : Nat)
  | func (fn : Fn) (first captured : List AV)
  | nilf
  | iface (t : TypeId) (v : AV)
  | nili
  | agg (cs : List AV)
  | tup (vs : List AV)
  | it (o g : Nat)
  | raw (v : Value)
  | any
  | yld (y : YF) (o g : Nat)
  deriving Inhabited

abbrev AV.und : AV := .tup []
/-- Is it the value of one cell? -/
def AV.flat : AV → Bool
  | .agg _ => false
  | .tup _ => false
  | .raw _ => false
  | .any => false
  | _ => true
def AV.ok : AV → Bool
  | .raw _ => false
  | .any => false
  | _ => true
/-- The cells of a value. -/
def AV.cells : AV → List AV
  | .agg cs => cs
  | v => [v]

/-- Slices that exist are no longer. -/
def LIM : Nat := 140737488355328

inductive AO where
  | rows (g st : Nat) (rs : List (List AV))
  | mp (g : Nat) (es : List (AV × AV))
  /-- a block of another kind, as it stands -/
  | blk (g : Nat) (x : Obj)
def AO.gen : AO → Nat
  | .rows g _ _ => g
  | .mp g _ => g
  | .blk g _ => g

abbrev AHeap := Nat → Option AO

def upd {α : Type} (f : Nat → α) (a : Nat) (v : α) : Nat → α := fun b => if b = a then v else f b
theorem upd_same {α : Type} (f : Nat → α) (a : Nat) (v : α) : upd f a v a = v := by simp [upd]
theorem upd_ne {α : Type} (f : Nat → α) (a : Nat) (v : α) {b : Nat} (h : b ≠ a) : upd f a v b = f b := by simp [upd, h]
theorem upd_app {α : Type} (f : Nat → α) (a : Nat) (v : α) (b : Nat) : upd f a v b = if b = a then v else f b := rfl
def upd2 (mu : Mu) (o g : Nat) (l : Loc) : Mu := fun o' g' => if o' = o ∧ g' = g then some l else mu o' g'

def cell (rs : List (List AV)) (i j : Nat) : AV := (rs.getD i []).getD j .und

/-- A row of an array: so many cells, each a single one. -/
def RowOk (st : Nat) (r : List AV) : Prop := r.length = st ∧ ∀ v ∈ r, v.flat = true

section
variable (w : World) (mu : Mu) (M : Nat → Prop)
/-- An abstract value reads as a value of the machine. 'M': the blocks that may still be written. -/
inductive Rv : AV → Value → Prop
  | bool (b : Bool) : Rv (.bool b) (.bool b)
  | int (k : IntKind) (n : Int) : Rv (.int k n) (.int k n)
  | str (s : List UInt8) : Rv (.str s) (.string ⟨s.toArray⟩)
  | nilp : Rv .nilp (.pointer none)
  | ptr (o g r c : Nat) (l : Loc) (h : mu o g = some l) (hc : l.cells = true) : Rv (.ptr o g r c) (.pointer (some ⟨l.b, l.base + r * l.st + c, none⟩))
  | gptr (a : Addr) : Rv (.gptr a) (.pointer (some a))
  | cp (row : List AV) (c b off : Nat) (vs : Nat → Value) (h1 : ∀ j, j < row.length → w.cell? ⟨b, off + j, none⟩ = some (vs j))
      (h2 : ∀ j, j < row.length → Rv (row.getD j .und) (vs j)) (h3 : ¬ M b) (h4 : b < w.heap.size) : Rv (.cp row c) (.pointer (some ⟨b, off + c, none⟩))
  | cp0 (row : List AV) (b : Nat) (vs : Nat → Value) (h1 : ∀ j, j < row.length → w.cell? ⟨b, j, none⟩ = some (vs j))
      (h2 : ∀ j, j < row.length → Rv (row.getD j .und) (vs j)) (h3 : ¬ M b) (h4 : b < w.heap.size) : Rv (.cp0 row) (.pointer (some ⟨b, 0, none⟩))
  | emp (a : Option Addr) : Rv .emp (.slice a 0 0)
  | sl0 (st : Nat) (a : Option Addr) (cap : Nat) : Rv (.sl st []) (.slice a 0 cap)
  | sl (st : Nat) (rows : List (List AV)) (b off cap : Nat) (vs : Nat → Nat → Value) (hcap : rows.length ≤ cap) (hlim : rows.length ≤ LIM)
      (h1 : ∀ i j, i < rows.length → j < st → w.cell? ⟨b, off + i * st + j, none⟩ = some (vs i j))
      (h2 : ∀ i j, i < rows.length → j < st → Rv (cell rows i j) (vs i j)) (hr : ∀ r ∈ rows, RowOk st r) (h3 : ¬ M b) (h4 : b < w.heap.size) :
      Rv (.sl st rows) (.slice (some ⟨b, off, none⟩) rows.length cap)
  | ref (o g off len cap : Nat) (l : Loc) (h : mu o g = some l) (hc : l.cells = true) (hcap : len ≤ cap) (hlim : len ≤ LIM) (hsz : l.base + (off + cap) * l.st ≤ l.size) :
      Rv (.ref o g off len) (.slice (some ⟨l.b, l.base + off * l.st, none⟩) len cap)
  | mnil : Rv .mnil (.map none)
  | map (o g : Nat) (l : Loc) (h : mu o g = some l) (hc : l.cells = false) : Rv (.map o g) (.map (some l.b))
  | func (fn : Fn) (f1 c1 : List AV) (f2 c2 : List Value) (hf : f1.length = f2.length) (hc : c1.length = c2.length)
      (h1 : ∀ i, i < f1.length → Rv (f1.getD i .und) (f2.getD i undef)) (h2 : ∀ i, i < c1.length → Rv (c1.getD i .und) (c2.getD i undef)) :
      Rv (.func fn f1 c1) (.func fn f2.toArray c2.toArray)
  | nilf : Rv .nilf .nilFunc
  | iface (t : TypeId) (v : AV) (c : Value) (h : Rv v c) : Rv (.iface t v) (.iface t c)
  | nili : Rv .nili .nilIface
  | agg (cs : List AV) (vs : List Value) (hl : cs.length = vs.length) (h : ∀ i, i < cs.length → Rv (cs.getD i .und) (vs.getD i undef)) : Rv (.agg cs) (.agg vs.toArray)
  | tup (cs : List AV) (vs : List Value) (hl : cs.length = vs.length) (h : ∀ i, i < cs.length → Rv (cs.getD i .und) (vs.getD i undef)) : Rv (.tup cs) (.tuple vs.toArray)
  | it (o g : Nat) (l : Loc) (h : mu o g = some l) (hc : l.cells = false) : Rv (.it o g) (.pointer (some ⟨l.b, 0, none⟩))
  | raw (v : Value) : Rv (.raw v) v
  | any (v : Value) : Rv .any v
  | yld (y : YF) (o g : Nat) (l : Loc) (h : mu o g = some l) (hy : y.F w mu M l.b) : Rv (.yld y o g) (.func (.yield l.b) #[] #[])
end

/-- The blocks that live objects lie in. -/
def Mut (h : AHeap) (mu : Mu) (b : Nat) : Prop := ∃ o x l, h o = some x ∧ mu o x.gen = some l ∧ l.b = b

theorem Ext.refl (w : World) (mu : Mu) (M : Nat → Prop) : Ext w mu M w mu M := ⟨rfl, rfl, rfl, Nat.le_refl _, fun _ _ h => ⟨rfl, h⟩, fun _ _ _ h => h⟩
theorem Ext.trans {w1 w2 w3 : World} {m1 m2 m3 : Mu} {M1 M2 M3 : Nat → Prop} (h : Ext w1 m1 M1 w2 m2 M2) (k : Ext w2 m2 M2 w3 m3 M3) : Ext w1 m1 M1 w3 m3 M3 :=
  ⟨k.os.trans h.os, k.tape.trans h.tape, k.output.trans h.output, Nat.le_trans h.size k.size,
   fun b hb hm => by
     have h1 := h.same b hb hm
     have h2 := k.same b (Nat.lt_of_lt_of_le hb h.size) h1.2
     exact ⟨h2.1.trans h1.1, h2.2⟩,
   fun o g l hl => k.mu o g l (h.mu o g l hl)⟩

theorem cell?_of_heap {w w' : World} {a : Addr} (h : w'.heap[a.block]? = w.heap[a.block]?) : w'.cell? a = w.cell? a := by
  unfold World.cell?; rw [h]

theorem ExtG.cell {n : Nat} {w w' : World} {mu mu' : Mu} {M M' : Nat → Prop} (e : ExtG n w mu M w' mu' M') {b o : Nat} {v : Value} (h4 : b < w.heap.size) (h3 : ¬ M b) (h : w.cell? ⟨b, o, none⟩ = some v) : w'.cell? ⟨b, o, none⟩ = some v := by
  rcases (e.same b h4 h3).1 with hs | ⟨_, x, y, hx, _⟩
  · rw [cell?_of_heap (w := w) (w' := w') (a := ⟨b, o, none⟩) hs]; exact h
  · unfold World.cell? at h; rw [hx] at h; cases h
theorem Rv.extG {n : Nat} {w w' : World} {mu mu' : Mu} {M M' : Nat → Prop} (e : ExtG n w mu M w' mu' M') {v : AV} {c : Value} (h : Rv w mu M v c) : Rv w' mu' M' v c := by
  induction h with
  | bool b => exact .bool b
  | int k n => exact .int k n
  | str s => exact .str s
  | nilp => exact .nilp
  | ptr o g r c l h hc => exact .ptr o g r c l (e.mu _ _ _ h) hc
  | gptr a => exact .gptr a
  | cp row c b off vs h1 h2 h3 h4 ih =>
    have hs := e.same b h4 h3
    exact .cp row c b off vs (fun j hj => e.cell h4 h3 (h1 j hj)) ih hs.2 (Nat.lt_of_lt_of_le h4 e.size)
  | cp0 row b vs h1 h2 h3 h4 ih =>
    have hs := e.same b h4 h3
    exact .cp0 row b vs (fun j hj => e.cell h4 h3 (h1 j hj)) ih hs.2 (Nat.lt_of_lt_of_le h4 e.size)
  | emp a => exact .emp a
  | sl0 st a cap => exact .sl0 st a cap
  | sl st rows b off cap vs hcap hlim h1 h2 hr h3 h4 ih =>
    have hs := e.same b h4 h3
    exact .sl st rows b off cap vs hcap hlim (fun i j hi hj => e.cell h4 h3 (h1 i j hi hj)) ih hr hs.2 (Nat.lt_of_lt_of_le h4 e.size)
  | ref o g off len cap l h hc hcap hlim hsz => exact .ref o g off len cap l (e.mu _ _ _ h) hc hcap hlim hsz
  | mnil => exact .mnil
  | map o g l h hc => exact .map o g l (e.mu _ _ _ h) hc
  | func fn f1 c1 f2 c2 hf hc h1 h2 ih1 ih2 => exact .func fn f1 c1 f2 c2 hf hc ih1 ih2
  | nilf => exact .nilf
  | iface t v c h ih => exact .iface t v c ih
  | nili => exact .nili
  | agg cs vs hl h ih => exact .agg cs vs hl ih
  | tup cs vs hl h ih => exact .tup cs vs hl ih
  | it o g l h hc => exact .it o g l (e.mu _ _ _ h) hc
  | raw v => exact .raw v
  | any v => exact .any v
  | yld y o g l h hy => exact .yld y o g l (e.mu _ _ _ h) (y.mono e hy)

theorem Rv.ext {w w' : World} {mu mu' : Mu} {M M' : Nat → Prop} (e : Ext w mu M w' mu' M') {v : AV} {c : Value} (h : Rv w mu M v c) : Rv w' mu' M' v c := h.extG (n := 0) e.g

/-- Fewer blocks may be written: what read, reads. -/
theorem Rv.less {w : World} {mu : Mu} {M M' : Nat → Prop} (hM : ∀ b, M' b → M b) {v : AV} {c : Value} (h : Rv w mu M v c) : Rv w mu M' v c :=
  Rv.ext (w := w) (w' := w) (mu := mu) (mu' := mu) (M := M) ⟨rfl, rfl, rfl, Nat.le_refl _, fun b _ hb => ⟨rfl, fun h => hb (hM b h)⟩, fun _ _ _ h => h⟩ h

def Unfrozen (f : Nat × Nat) (n : Nat) : Prop := ∀ i, i ≤ n → ¬ (f.1 ≤ i ∧ i < f.2)

/-- What holds of the program's own variables, which lie in the first 'n' blocks. -/
class GW (P : Program) where
  n : Nat
  G : World → Prop
  keep : ∀ {w w' : World}, (∀ b, b < n → w'.heap[b]? = w.heap[b]?) → G w → G w'
structure Base (P : Program) where
  n : Nat
  /-- where the blocks of the frame that runs begin -/
  fb : Nat := n
/-- The abstract heap stands in the world. 'B': all of its blocks lie from there on. -/
structure Sim {P : Program} [GW P] (B : Base P) (mu : Mu) (h : AHeap) (w : World) : Prop where
  base : B.n ≤ w.heap.size
  muOk : ∀ o g l, mu o g = some l → B.n ≤ l.b ∧ l.b < w.heap.size ∧
    (l.cells = true → ∃ cells e f, w.heap[l.b]? = some (.cells cells e f) ∧ cells.size = l.size ∧ Unfrozen f l.size)
  fin : ∃ N, ∀ o g, N ≤ g → mu o g = none
  finh : ∃ N, ∀ o, N ≤ o → h o = none
  rows : ∀ o g st rs, h o = some (.rows g st rs) → ∃ l, mu o g = some l ∧ l.cells = true ∧ l.st = st ∧ l.base + rs.length * st ≤ l.size ∧ (∀ r ∈ rs, RowOk st r) ∧
    ∀ i j, i < rs.length → j < st → ∃ c, w.cell? ⟨l.b, l.base + i * st + j, none⟩ = some c ∧ Rv w mu (Mut h mu) (cell rs i j) c
  maps : ∀ o g es, h o = some (.mp g es) → ∃ l, mu o g = some l ∧ l.cells = false ∧ ∃ ens clock, (w.heap[l.b]? = some (.map ens clock) ∧ MapKept.Stamped ens clock) ∧ es.length = ens.size ∧
    ∀ i, i < es.length → Rv w mu (Mut h mu) (es.getD i (.und, .und)).1 (ens.getD i default).key ∧ Rv w mu (Mut h mu) (es.getD i (.und, .und)).2 (ens.getD i default).val
  inj : ∀ o o' x x' l l', h o = some x → h o' = some x' → mu o x.gen = some l → mu o' x'.gen = some l' → l.b = l'.b → o = o'
  glob : GW.n P ≤ B.n ∧ GW.G P w
  blks : ∀ o g x, h o = some (.blk g x) → ∃ l, mu o g = some l ∧ l.cells = false ∧ w.heap[l.b]? = some x
theorem GW.step {P : Program} [GW P] {n : Nat} {w w' : World} (k : GW.n P ≤ n ∧ GW.G P w) (e : ∀ b, b < n → w'.heap[b]? = w.heap[b]?) : GW.n P ≤ n ∧ GW.G P w' := ⟨k.1, GW.keep (fun b hb => e b (Nat.lt_of_lt_of_le hb k.1)) k.2⟩

theorem Sim.rebase {P : Program} [GW P] {B B' : Base P} {mu : Mu} {h : AHeap} {w : World} (s : Sim B mu h w) (e : B'.n = B.n) : Sim B' mu h w :=
  ⟨e ▸ s.base, fun o g l hl => e ▸ s.muOk o g l hl, s.fin, s.finh, s.rows, s.maps, s.inj, e ▸ s.glob, s.blks⟩
abbrev EXTG (n : Nat) (h : AHeap) (mu : Mu) (w : World) (h' : AHeap) (mu' : Mu) (w' : World) : Prop := ExtG n w mu (Mut h mu) w' mu' (Mut h' mu')
abbrev EXT (h : AHeap) (mu : Mu) (w : World) (h' : AHeap) (mu' : Mu) (w' : World) : Prop := Ext w mu (Mut h mu) w' mu' (Mut h' mu')
abbrev RV (h : AHeap) (mu : Mu) (w : World) (v : AV) (c : Value) : Prop := Rv w mu (Mut h mu) v c

theorem ExtG.trans {n : Nat} {w1 w2 w3 : World} {m1 m2 m3 : Mu} {M1 M2 M3 : Nat → Prop} (h : ExtG n w1 m1 M1 w2 m2 M2) (k : ExtG n w2 m2 M2 w3 m3 M3) : ExtG n w1 m1 M1 w3 m3 M3 :=
  ⟨k.os.trans h.os, k.tape.trans h.tape, k.output.trans h.output, Nat.le_trans h.size k.size,
   fun b hb hm => by
     obtain ⟨h1, h1'⟩ := h.same b hb hm
     obtain ⟨h2, h2'⟩ := k.same b (Nat.lt_of_lt_of_le hb h.size) h1'
     refine ⟨?_, h2'⟩
     rcases h1 with h1 | ⟨hn, x, y, hx, hy⟩ <;> rcases h2 with h2 | ⟨hn2, x2, y2, hx2, hy2⟩
     · exact .inl (h2.trans h1)
     · exact .inr ⟨hn2, x2, y2, h1 ▸ hx2, hy2⟩
     · exact .inr ⟨hn, x, y, hx, h2.trans hy⟩
     · exact .inr ⟨hn, x, y2, hx, hy2⟩,
   fun o g l hl => k.mu o g l (h.mu o g l hl)⟩

/-- Objects may be forgotten. -/
def Sub (h' h : AHeap) : Prop := ∀ o x, h' o = some x → h o = some x
theorem Sub.refl (h : AHeap) : Sub h h := fun _ _ e => e
theorem Mut.sub {h h' : AHeap} {mu : Mu} (hs : Sub h' h) (b : Nat) (hm : Mut h' mu b) : Mut h mu b :=
  let ⟨o, x, l, h1, h2, h3⟩ := hm; ⟨o, x, l, hs o x h1, h2, h3⟩
theorem Sim.sub {P : Program} [GW P] {B : Base P} {mu : Mu} {h h' : AHeap} {w : World} (s : Sim B mu h w) (hs : Sub h' h) : Sim B mu h' w :=
  ⟨s.base, s.muOk, s.fin,
   let ⟨N, hN⟩ := s.finh; ⟨N, fun o ho => by
     cases hq : h' o with
     | none => rfl
     | some x => have := hs o x hq; rw [hN o ho] at this; cases this⟩,
   fun o g st rs e => by
     obtain ⟨l, h1, h2, h3, h4, h5, h6⟩ := s.rows o g st rs (hs _ _ e)
     exact ⟨l, h1, h2, h3, h4, h5, fun i j hi hj => let ⟨c, hc, hr⟩ := h6 i j hi hj; ⟨c, hc, hr.less (Mut.sub hs)⟩⟩,
   fun o g es e => by
     obtain ⟨l, h1, h2, ens, clock, h3, h4, h5⟩ := s.maps o g es (hs _ _ e)
     exact ⟨l, h1, h2, ens, clock, h3, h4, fun i hi => ⟨(h5 i hi).1.less (Mut.sub hs), (h5 i hi).2.less (Mut.sub hs)⟩⟩,
   fun o o' x x' l l' e e' h1 h2 hb => s.inj o o' x x' l l' (hs _ _ e) (hs _ _ e') h1 h2 hb, s.glob, fun o g x e => s.blks o g x (hs _ _ e)⟩
theorem EXT.sub {h h' : AHeap} {mu : Mu} {w : World} (hs : Sub h' h) : EXT h mu w h' mu w :=
  ⟨rfl, rfl, rfl, Nat.le_refl _, fun b _ hb => ⟨rfl, fun hm => hb (Mut.sub hs b hm)⟩, fun _ _ _ h => h⟩

/-- What lies below B is no block of an object. -/
theorem Sim.not_mut {P : Program} [GW P] {B : Base P} {mu : Mu} {h : AHeap} {w : World} (s : Sim B mu h w) {b : Nat} (hb : b < B.n) : ¬ Mut h mu b := by
  rintro ⟨o, x, l, _, hl, rfl⟩
  have := (s.muOk _ _ _ hl).1
  omega
theorem Sim.globE {P : Program} [GW P] {B : Base P} {mu mu' : Mu} {h h' : AHeap} {w w' : World} (s : Sim B mu h w) (e : EXT h mu w h' mu' w') : GW.n P ≤ B.n ∧ GW.G P w' :=
  GW.step s.glob fun b hb => (e.same b (Nat.lt_of_lt_of_le hb s.base) (s.not_mut hb)).1
theorem Mut.lt {P : Program} [GW P] {B : Base P} {mu : Mu} {h : AHeap} {w : World} (s : Sim B mu h w) {b : Nat} (hm : Mut h mu b) : b < w.heap.size := by
  obtain ⟨o, x, l, _, hl, rfl⟩ := hm
  exact (s.muOk _ _ _ hl).2.1

/-- THE STEP THAT ADDS A BLOCK, or gives an object a new generation in a new block. -/
theorem heap_push_lt {w : World} {x : Obj} {b : Nat} (h : b < w.heap.size) : (w.alloc x).heap[b]? = w.heap[b]? := Go.RowKit.Below.heap_alloc w x b h
theorem heap_push_eq {w : World} {x : Obj} : (w.alloc x).heap[w.heap.size]? = some x := by
  show (w.heap.push x)[w.heap.size]? = _
  simp
theorem alloc_size {w : World} {x : Obj} : (w.alloc x).heap.size = w.heap.size + 1 := by
  show (w.heap.push x).size = _
  simp

/-- A new object (or a new generation of one, whatever the elder one held), in a new block. -/
theorem Sim.pushF {P : Program} [GW P] {B : Base P} {mu : Mu} {h : AHeap} {w : World} (s : Sim B mu h w) {o g st base : Nat} {rs : List (List AV)} {cells : Array Value} {e : TypeId} {f : Nat × Nat} (hf : Unfrozen f cells.size)
    (hg : mu o g = none) (hb : base + rs.length * st ≤ cells.size) (hr : ∀ r ∈ rs, RowOk st r)
    (hc : ∀ i j, i < rs.length → j < st → ∃ c, cells[base + i * st + j]? = some c ∧ RV h mu w (cell rs i j) c) :
    Sim B (upd2 mu o g ⟨w.heap.size, base, st, cells.size, true⟩) (upd h o (some (.rows g st rs))) (w.alloc (.cells cells e f)) ∧
    EXT h mu w (upd h o (some (.rows g st rs))) (upd2 mu o g ⟨w.heap.size, base, st, cells.size, true⟩) (w.alloc (.cells cells e f)) := by
  have hmu : ∀ o' g' l, mu o' g' = some l → upd2 mu o g ⟨w.heap.size, base, st, cells.size, true⟩ o' g' = some l := by
    intro o' g' l hl
    unfold upd2
    rw [if_neg]
    · exact hl
    · rintro ⟨rfl, rfl⟩; rw [hg] at hl; cases hl
  have hinv : ∀ o' g' l, upd2 mu o g ⟨w.heap.size, base, st, cells.size, true⟩ o' g' = some l → (o' = o ∧ g' = g ∧ l = ⟨w.heap.size, base, st, cells.size, true⟩) ∨ mu o' g' = some l := by
    intro o' g' l hl
    unfold upd2 at hl
    split at hl
    · rename_i hh; cases hl; exact .inl ⟨hh.1, hh.2, rfl⟩
    · exact .inr hl
  have hlive : ∀ o' x, upd h o (some (.rows g st rs)) o' = some x → (o' = o ∧ x = .rows g st rs) ∨ (o' ≠ o ∧ h o' = some x) := by
    intro o' x hx
    unfold upd at hx
    split at hx
    · cases hx; exact .inl ⟨‹_›, rfl⟩
    · exact .inr ⟨‹_›, hx⟩
  have hlt : ∀ {o' g' l}, mu o' g' = some l → l.b < w.heap.size := fun hl => (s.muOk _ _ _ hl).2.1
  have hM : ∀ b, b < w.heap.size → ¬ Mut h mu b → ¬ Mut (upd h o (some (.rows g st rs))) (upd2 mu o g ⟨w.heap.size, base, st, cells.size, true⟩) b := by
    rintro b hb hn ⟨o', x, l, hx, hl, rfl⟩
    rcases hinv _ _ _ hl with ⟨_, _, rfl⟩ | hl'
    · simp at hb
    · rcases hlive _ _ hx with ⟨rfl, rfl⟩ | ⟨_, hx'⟩
      · simp only [AO.gen] at hl'; rw [hg] at hl'; cases hl'
      · exact hn ⟨o', x, l, hx', hl', rfl⟩
  have ext : EXT h mu w (upd h o (some (.rows g st rs))) (upd2 mu o g ⟨w.heap.size, base, st, cells.size, true⟩) (w.alloc (.cells cells e f)) :=
    ⟨rfl, rfl, rfl, by rw [alloc_size]; omega, fun b hb hn => ⟨heap_push_lt hb, hM b hb hn⟩, hmu⟩
  refine ⟨⟨?_, ?_, ?_, ?_, ?_, ?_, ?_, s.globE ext, fun o' g' x hx => by
    rcases hlive _ _ hx with ⟨rfl, hx'⟩ | ⟨hne, hx'⟩
    · cases hx'
    · obtain ⟨l, h1, h2, h3⟩ := s.blks _ _ _ hx'
      exact ⟨l, hmu _ _ _ h1, h2, by rw [heap_push_lt (hlt h1)]; exact h3⟩⟩, ext⟩
  · rw [alloc_size]; exact Nat.le_succ_of_le s.base
  · intro o' g' l hl
    rcases hinv _ _ _ hl with ⟨_, _, rfl⟩ | hl'
    · refine ⟨s.base, by rw [alloc_size]; simp, fun _ => ⟨cells, e, f, heap_push_eq, rfl, hf⟩⟩
    · obtain ⟨h1, h2, h3⟩ := s.muOk _ _ _ hl'
      refine ⟨h1, by rw [alloc_size]; omega, fun hcc => ?_⟩
      rw [heap_push_lt h2]; exact h3 hcc
  · obtain ⟨N, hN⟩ := s.fin
    refine ⟨max N (g + 1), fun o' g' hle => ?_⟩
    unfold upd2
    rw [if_neg (by omega)]
    exact hN _ _ (by omega)
  · obtain ⟨N, hN⟩ := s.finh
    refine ⟨max N (o + 1), fun o' hle => ?_⟩
    unfold upd
    rw [if_neg (by omega)]
    exact hN _ (by omega)
  · intro o' g' st' rs' hx
    rcases hlive _ _ hx with ⟨rfl, hx'⟩ | ⟨hne, hx'⟩
    · cases hx'
      refine ⟨⟨w.heap.size, base, st, cells.size, true⟩, by simp [upd2], rfl, rfl, hb, hr, fun i j hi hj => ?_⟩
      obtain ⟨c, hc1, hc2⟩ := hc i j hi hj
      refine ⟨c, ?_, hc2.ext ext⟩
      unfold World.cell?
      rw [heap_push_eq]; simpa using hc1
    · obtain ⟨l, h1, h2, h3, h4, h5, h6⟩ := s.rows _ _ _ _ hx'
      refine ⟨l, hmu _ _ _ h1, h2, h3, h4, h5, fun i j hi hj => ?_⟩
      obtain ⟨c, hc1, hc2⟩ := h6 i j hi hj
      refine ⟨c, ?_, hc2.ext ext⟩
      rw [cell?_of_heap (w := w) (a := ⟨l.b, l.base + i * st' + j, none⟩) (heap_push_lt (hlt h1))]; exact hc1
  · intro o' g' es hx
    rcases hlive _ _ hx with ⟨rfl, hx'⟩ | ⟨hne, hx'⟩
    · cases hx'
    · obtain ⟨l, h1, h2, ens, clock, h3, h4, h5⟩ := s.maps _ _ _ hx'
      exact ⟨l, hmu _ _ _ h1, h2, ens, clock, by rw [heap_push_lt (hlt h1)]; exact h3, h4, fun i hi => ⟨(h5 i hi).1.ext ext, (h5 i hi).2.ext ext⟩⟩
  · intro o1 o2 x1 x2 l1 l2 hx1 hx2 hl1 hl2 hbb
    rcases hlive _ _ hx1 with ⟨rfl, rfl⟩ | ⟨hne1, hx1'⟩ <;> rcases hlive _ _ hx2 with ⟨rfl, rfl⟩ | ⟨hne2, hx2'⟩
    · rfl
    · rcases hinv _ _ _ hl1 with ⟨_, _, rfl⟩ | hl1'
      · rcases hinv _ _ _ hl2 with ⟨e2, _, _⟩ | hl2'
        · exact e2.symm
        · have := hlt hl2'; simp at hbb; omega
      · simp only [AO.gen] at hl1'; rw [hg] at hl1'; cases hl1'
    · rcases hinv _ _ _ hl2 with ⟨_, _, rfl⟩ | hl2'
      · rcases hinv _ _ _ hl1 with ⟨e2, _, _⟩ | hl1'
        · exact e2
        · have := hlt hl1'; simp at hbb; omega
      · simp only [AO.gen] at hl2'; rw [hg] at hl2'; cases hl2'
    · rcases hinv _ _ _ hl1 with ⟨e1, _, _⟩ | hl1'
      · exact absurd e1 hne1
      · rcases hinv _ _ _ hl2 with ⟨e2, _, _⟩ | hl2'
        · exact absurd e2 hne2
        · exact s.inj _ _ _ _ _ _ hx1' hx2' hl1' hl2' hbb
theorem Sim.push {P : Program} [GW P] {B : Base P} {mu : Mu} {h : AHeap} {w : World} (s : Sim B mu h w) {o g st base : Nat} {rs : List (List AV)} {cells : Array Value} {e : TypeId}
    (hg : mu o g = none) (hb : base + rs.length * st ≤ cells.size) (hr : ∀ r ∈ rs, RowOk st r)
    (hc : ∀ i j, i < rs.length → j < st → ∃ c, cells[base + i * st + j]? = some c ∧ RV h mu w (cell rs i j) c) :
    Sim B (upd2 mu o g ⟨w.heap.size, base, st, cells.size, true⟩) (upd h o (some (.rows g st rs))) (w.alloc (.cells cells e)) ∧
    EXT h mu w (upd h o (some (.rows g st rs))) (upd2 mu o g ⟨w.heap.size, base, st, cells.size, true⟩) (w.alloc (.cells cells e)) :=
  Sim.pushF (f := (0, 0)) s (fun i _ hh => by simp at hh) hg hb hr hc
/-- A block that no object needs. -/
theorem Sim.junk {P : Program} [GW P] {B : Base P} {mu : Mu} {h : AHeap} {w : World} (s : Sim B mu h w) (x : Obj) : Sim B mu h (w.alloc x) ∧ EXT h mu w h mu (w.alloc x) := by
  have ext : EXT h mu w h mu (w.alloc x) := ⟨rfl, rfl, rfl, by rw [alloc_size]; omega, fun b hb hn => ⟨heap_push_lt hb, hn⟩, fun _ _ _ h => h⟩
  have hlt : ∀ {o' g' l}, mu o' g' = some l → l.b < w.heap.size := fun hl => (s.muOk _ _ _ hl).2.1
  refine ⟨⟨by rw [alloc_size]; exact Nat.le_succ_of_le s.base, fun o g l hl => ?_, s.fin, s.finh, fun o g st rs hx => ?_, fun o g es hx => ?_, s.inj, s.globE ext, fun o g x hx => let ⟨l, h1, h2, h3⟩ := s.blks _ _ _ hx; ⟨l, h1, h2, by rw [heap_push_lt (hlt h1)]; exact h3⟩⟩, ext⟩
  · obtain ⟨h1, h2, h3⟩ := s.muOk _ _ _ hl
    refine ⟨h1, by rw [alloc_size]; omega, fun hcc => ?_⟩
    rw [heap_push_lt h2]; exact h3 hcc
  · obtain ⟨l, h1, h2, h3, h4, h5, h6⟩ := s.rows _ _ _ _ hx
    refine ⟨l, h1, h2, h3, h4, h5, fun i j hi hj => ?_⟩
    obtain ⟨c, hc1, hc2⟩ := h6 i j hi hj
    refine ⟨c, ?_, hc2.ext ext⟩
    rw [cell?_of_heap (w := w) (a := ⟨l.b, l.base + i * st + j, none⟩) (heap_push_lt (hlt h1))]; exact hc1
  · obtain ⟨l, h1, h2, ens, clock, h3, h4, h5⟩ := s.maps _ _ _ hx
    exact ⟨l, h1, h2, ens, clock, by rw [heap_push_lt (hlt h1)]; exact h3, h4, fun i hi => ⟨(h5 i hi).1.ext ext, (h5 i hi).2.ext ext⟩⟩
end Go.Am
