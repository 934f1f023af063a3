/- One operation that calls no function: abstractly, and its law. -/
import Derived.Test.YtplndonhhfflhaaAmMaps
import Derived.Lib.ConvBytes
import Derived.Lib.AtoiErrMem
namespace Go.Am
open Go
set_option linter.unusedSimpArgs false
set_option linter.unusedVariables false
set_option linter.unusedSectionVars false

def ev (fr : Nat → AV) : Operand → AV
  | .tmp t => fr t
  | .const v => avOf v
  | .global g => .gptr ⟨g, 0, none⟩
  | .func f => .func (.func f) [] []
def evs (fr : Nat → AV) (l : List Operand) : List AV := l.map (ev fr)
def evp (fr : Nat → AV) (l : List (Nat × Operand)) : List (Nat × AV) := l.map fun p => (p.1, ev fr p.2)

def kOpt (x : Option AV) (h : AHeap) (K : AV → AHeap → Prop) : Prop :=
  match x with
  | some v => K v h
  | none => False
def aCheck : AV → Option AV
  | .ptr o g r c => some (.ptr o g r c)
  | .cp r c => some (.cp r c)
  | .gptr a => some (.gptr a)
  | .func (.func k) f c => some (.func (.func k) f c)
  | .iface t v => some (.iface t v)
  | .map o g => some (.map o g)
  | _ => none
def aBuiltin (P : Program) (h : AHeap) (b : Builtin) (ts : List TypeId) (args : List AV) (K : AV → AHeap → Prop) : Prop :=
  match b, ts, args with
  | .len, [t], [v] => kOpt (aLen P h t v) h K
  | .append, [s, t], [v, x] => aAppend P h s t v x K
  | .min, _, l => kOpt (aMin false l) h K
  | .max, _, l => kOpt (aMin true l) h K
  | _, _, _ => False
def isNilOp : Operand → Bool
  | .const (.slice none 0 0) => true
  | _ => false
/-- Comparing; an empty slice may be nil or not. -/
def aCmp (P : Program) (o : BinOp) (t : TypeId) (y : Operand) (vx vy : AV) (h : AHeap) (K : AV → AHeap → Prop) : Prop :=
  if isNilOp y = true then match ti P t with
    | some T => match T.k, o, vx with
      | .sl _, .eql, .emp => ∀ b, K (.bool b) h
      | .sl _, .eql, .sl _ rows => ∀ b, (rows ≠ [] → b = false) → K (.bool b) h
      | .sl _, .eql, .ref _ _ _ _ => K (.bool false) h
      | .sl _, .neq, .emp => ∀ b, K (.bool b) h
      | .sl _, .neq, .sl _ rows => ∀ b, (rows ≠ [] → b = true) → K (.bool b) h
      | .sl _, .neq, .ref _ _ _ _ => K (.bool true) h
      | _, _, _ => False
    | none => False
  else kOpt (aBin P o t vx vy) h K
/-- Conversions; bytes of a string are new memory, which is read alone. -/
def aConvK (P : Program) (h : AHeap) (s d : TypeId) (v : AV) (K : AV → AHeap → Prop) : Prop :=
  match ti P s, ti P d, v with
  | some S, some D, .str l => match S.k, D.k with
    | .str, .sl e => match ti P e with
      | some E => E.k = .int .u8 ∧ l.length ≤ LIM ∧ K (.sl 1 (l.map fun b => [.int .u8 b.toNat])) h
      | none => False
    | _, _ => kOpt (aConv P h s d v) h K
  | _, _, _ => kOpt (aConv P h s d v) h K
def aop (P : Program) (fr : Nat → AV) (h : AHeap) (op : Op) (K : AV → AHeap → Prop) : Prop :=
  match op with
  | .move x => K (ev fr x) h
  | .assign x => K (ev fr x) h
  | .pick c a b => match ev fr c with
    | .bool t => K (if t then ev fr a else ev fr b) h
    | _ => False
  | .alloc e => match ti P e with
    | some T => T.z.all AV.flat = true ∧ aNew h T.z.length [T.z] (fun o g h' => K (.ptr o g 0 0) h')
    | none => False
  | .box e x => (ev fr x).ok = true ∧ (ev fr x).cells.all AV.flat = true ∧ aNew h (ev fr x).cells.length [(ev fr x).cells] (fun o g h' => K (.ptr o g 0 0) h')
  | .build t ps => kOpt (aBuild P t (evp fr ps.toList)) h K
  | .buildSlice t n ps => aBuildSlice P h t n (evp fr ps.toList) K
  | .load t a => kOpt (aLoad P h t (ev fr a)) h K
  | .store t a x => ∃ v, ValSim (ev fr x) v ∧ match aStore P h t (ev fr a) v with
    | some h' => K .und h'
    | none => False
  | .nilCheck x => kOpt (aCheck (ev fr x)) h K
  | .binOp o t x y _ => guardOk P o t x y (ev fr x) (ev fr y) = true ∧ aCmp P o t y (ev fr x) (ev fr y) h K
  | .unOp o _ x => kOpt (aUn o (ev fr x)) h K
  | .convert s d x => aConvK P h s d (ev fr x) K
  | .makeInterface t x => match ti P t with
    | some T => T.k ≠ .ifc ∧ K (.iface t (ev fr x)) h
    | none => False
  | .makeFunc fn f c => K (.func fn (evs fr f.toList) (evs fr c.toList)) h
  | .makeSlice t l c => aMake P h t (ev fr l) (ev fr c) K
  | .slice t x lo hi mx => kOpt (aSlice P h t (ev fr x) (lo.map (ev fr)) (hi.map (ev fr)) (mx.map (ev fr))) h K
  | .fieldAddr s x f => kOpt (aFieldAddr P s (ev fr x) f) h K
  | .field t x f => kOpt (aField P t (ev fr x) f) h K
  | .indexAddr t x i => kOpt (aIndexAddr P h t (ev fr x) (ev fr i)) h K
  | .index t x i => kOpt (aIndex P t (ev fr x) (ev fr i)) h K
  | .typeAssert x _ t ok => kOpt (aAssert P (ev fr x) t ok) h K
  | .extract x i => kOpt (aExtract (ev fr x) i) h K
  | .lookup t x i ok => kOpt (aLookup P h t (ev fr x) (ev fr i) ok) h K
  | .makeMap t r => (match r with
    | none => True
    | some x => match ti P t, ev fr x with
      | some T, .int _ _ => (match T.k with | .map _ _ => True | _ => False)
      | _, _ => False) ∧ aNewMap h K
  | .mapUpdate t m k x => match aMapUpdate P h t (ev fr m) (ev fr k) (ev fr x) with
    | some h' => K .und h'
    | none => False
  | .call ⟨.builtin b, args, ts⟩ => aBuiltin P h b ts.toList (evs fr args.toList) K
  | _ => False

section
variable {P : Program} [GW P] {B : Base P} {h : AHeap} {mu : Mu} {w : World}

def FrOk (h : AHeap) (mu : Mu) (w : World) (fr : Nat → AV) (a : Act) : Prop := ∀ t, RV h mu w (fr t) (a.tmps.getD t undef)
theorem ev_sound {fr : Nat → AV} {a : Act} (hf : FrOk h mu w fr a) (x : Operand) : RV h mu w (ev fr x) (a.eval x) := by
  cases x with
  | tmp t => exact hf t
  | const v => exact avOf_rv v
  | global g => exact .gptr _
  | func f => exact .func _ [] [] [] [] rfl rfl (fun i hi => by simp at hi) (fun i hi => by simp at hi)

def LRv (h : AHeap) (mu : Mu) (w : World) (l : List AV) (cs : List Value) : Prop := l.length = cs.length ∧ ∀ i, i < l.length → RV h mu w (l.getD i .und) (cs.getD i undef)
theorem evs_sound {fr : Nat → AV} {a : Act} (hf : FrOk h mu w fr a) (l : List Operand) : LRv h mu w (evs fr l) (l.map a.eval) := by
  refine ⟨by simp [evs], fun i hi => ?_⟩
  have hi' : i < l.length := by simpa [evs] using hi
  rw [getD_of (x := ev fr l[i]) (by simp [evs, hi']), getD_of (x := a.eval l[i]) (by simp [hi'])]
  exact ev_sound hf _
theorem evp_sound {fr : Nat → AV} {a : Act} (hf : FrOk h mu w fr a) (l : List (Nat × Operand)) : (evp fr l).length = (l.map fun p => (p.1, a.eval p.2)).length ∧
    ∀ k, k < (evp fr l).length → ((evp fr l).getD k (0, .und)).1 = ((l.map fun p => (p.1, a.eval p.2)).getD k (0, undef)).1 ∧ RV h mu w ((evp fr l).getD k (0, .und)).2 ((l.map fun p => (p.1, a.eval p.2)).getD k (0, undef)).2 := by
  refine ⟨by simp [evp], fun i hi => ?_⟩
  have hi' : i < l.length := by simpa [evp] using hi
  rw [getD_of (x := (l[i].1, ev fr l[i].2)) (by simp [evp, hi']), getD_of (x := (l[i].1, a.eval l[i].2)) (by simp [hi'])]
  exact ⟨rfl, ev_sound hf _⟩
theorem opt_sound {fr : Nat → AV} {a : Act} (hf : FrOk h mu w fr a) (x : Option Operand) : OptRV h mu w (x.map (ev fr)) (x.map a.eval) := by
  cases x with
  | none => exact .inl ⟨rfl, rfl⟩
  | some x => exact .inr ⟨_, _, rfl, rfl, ev_sound hf x⟩

def OpDone (P : Program) [GW P] (B : Base P) (h : AHeap) (mu : Mu) (w : World) (s : Sem Next) (K : AV → AHeap → Prop) : Prop :=
  ∃ nx w' x h' mu', s.run P w = .ok nx w' ∧ ((∃ c, nx = .value c ∧ RV h' mu' w' x c) ∨ (nx = .skip ∧ x = .und)) ∧ K x h' ∧ Sim B mu' h' w' ∧ EXT h mu w h' mu' w'

theorem done_of (s : Sim B mu h w) {r : Sem Value} {x : Option AV} {K : AV → AHeap → Prop} (hK : kOpt x h K) (hr : ∀ v, x = some v → ∃ c, r.run P w = .ok c w ∧ RV h mu w v c) :
    OpDone P B h mu w (do pure (.value (← r))) K := by
  cases x with
  | none => exact hK.elim
  | some v =>
    obtain ⟨c, h1, h2⟩ := hr v rfl
    exact ⟨.value c, w, v, h, mu, by simp [h1], .inl ⟨c, rfl, h2⟩, hK, s, Ext.refl _ _ _⟩
theorem done_new {r : Sem Value} {K : AV → AHeap → Prop} (hr : ∃ v c h' mu' w', r.run P w = .ok c w' ∧ RV h' mu' w' v c ∧ K v h' ∧ Sim B mu' h' w' ∧ EXT h mu w h' mu' w') :
    OpDone P B h mu w (do pure (.value (← r))) K := by
  obtain ⟨v, c, h', mu', w', h1, h2, h3, h4, h5⟩ := hr
  exact ⟨.value c, w', v, h', mu', by simp [h1], .inl ⟨c, rfl, h2⟩, h3, h4, h5⟩

theorem check_sound {x : Operand} {v : AV} {a : Act} {dst : Option Tmp} {ty : TypeId} {pos : String} {after : Array Edge} {guard : Option (Nat × Bool)} {y : AV} (hv : RV h mu w v (a.eval x)) (hx : aCheck v = some y) :
    v = y ∧ (execOp a.eval ⟨dst, .nilCheck x, ty, pos, after, guard⟩).run P w = .ok (.value (a.eval x)) w := by
  generalize hc : a.eval x = c at *
  unfold aCheck at hx
  split at hx <;> first | (cases hx; cases hv; exact ⟨rfl, by simp [execOp, hc]⟩) | cases hx

theorem ifc_desc {t : TypeId} {T : TI} (hT : ti P t = some T) (hk : T.k ≠ .ifc) : ∃ d, P.underlying t = some d ∧ ∀ ms, d ≠ .interface ms := by
  obtain ⟨d, h1, h2⟩ := ti_und hT
  exact ⟨d, h1, fun ms hq => hk (by rw [h2, hq]; rfl)⟩

theorem iface_sound {t : TypeId} {T : TI} {c : Value} (hT : ti P t = some T) (hk : T.k ≠ .ifc) : (Instr.makeInterface t c).run P w = .ok (.iface t c) w := by
  obtain ⟨d, h1, h2⟩ := ifc_desc hT hk
  cases d <;> first | exact absurd rfl (h2 _) | simp [Instr.makeInterface, run_underlying h1]

theorem nil_bin {t e : TypeId} (hd : P.underlying t = some (.slice e)) {a : Option Addr} {l c : Nat} :
    (binOp .eql t (.slice a l c) (.slice none 0 0)).run P w = .ok (.bool a.isNone) w ∧ (binOp .neq t (.slice a l c) (.slice none 0 0)).run P w = .ok (.bool (!a.isNone)) w := by
  have key : ∀ n, (Op.equalIn (n + 1) t (.slice a l c) (.slice none 0 0)).run P w = .ok a.isNone w := by
    intro n
    cases a <;> simp [Op.equalIn, run_underlying hd]
  have hq := key 9999
  constructor <;> simp [binOp, Op.equal, Op.maxDepth, hq]
theorem cmp_sound {op : BinOp} {t : TypeId} {y : Operand} {vx vy : AV} {cx cy : Value} {K : AV → AHeap → Prop} (hx : RV h mu w vx cx) (hy : RV h mu w vy cy) (hn : isNilOp y = true → cy = .slice none 0 0) (hK : aCmp P op t y vx vy h K) :
    ∃ c v, (binOp op t cx cy).run P w = .ok c w ∧ RV h mu w v c ∧ K v h := by
  unfold aCmp at hK
  split at hK
  · rename_i hnil
    obtain rfl := hn hnil
    split at hK
    · rename_i T hT
      obtain ⟨d, hd, hk'⟩ := ti_und hT
      split at hK
      · rename_i e hk
        have := of_sl (hk ▸ hk'); subst this
        cases hx
        exact ⟨_, _, (nil_bin hd).1, .bool _, hK _⟩
      · rename_i e _ _ hk
        have := of_sl (hk ▸ hk'); subst this
        cases hx
        · exact ⟨_, _, (nil_bin hd).1, .bool _, hK _ (fun h => absurd rfl h)⟩
        · exact ⟨_, _, (nil_bin hd).1, .bool _, hK _ (fun _ => rfl)⟩
      · rename_i e _ _ _ _ hk
        have := of_sl (hk ▸ hk'); subst this
        cases hx
        exact ⟨_, _, (nil_bin hd).1, .bool _, hK⟩
      · rename_i e hk
        have := of_sl (hk ▸ hk'); subst this
        cases hx
        exact ⟨_, _, (nil_bin hd).2, .bool _, hK _⟩
      · rename_i e _ _ hk
        have := of_sl (hk ▸ hk'); subst this
        cases hx
        · exact ⟨_, _, (nil_bin hd).2, .bool _, hK _ (fun h => absurd rfl h)⟩
        · exact ⟨_, _, (nil_bin hd).2, .bool _, hK _ (fun _ => rfl)⟩
      · rename_i e _ _ _ _ hk
        have := of_sl (hk ▸ hk'); subst this
        cases hx
        exact ⟨_, _, (nil_bin hd).2, .bool _, hK⟩
      · exact hK.elim
    · exact hK.elim
  · cases hq : aBin P op t vx vy with
    | none => rw [hq] at hK; exact hK.elim
    | some v =>
      rw [hq] at hK
      obtain ⟨c, c1, c2⟩ := bin_sound (P := P) hx hy hq
      exact ⟨c, v, c1, c2, hK⟩

theorem convK_sound (s : Sim B mu h w) {src dst : TypeId} {v : AV} {c : Value} {K : AV → AHeap → Prop} (hv : RV h mu w v c) (hK : aConvK P h src dst v K) : OpDone P B h mu w (do pure (.value (← convert src dst c))) K := by
  unfold aConvK at hK
  split at hK
  · rename_i S D l hS hD
    split at hK
    · rename_i e q1 q2
      split at hK
      · rename_i E hE
        obtain ⟨k1, k2, k3⟩ := hK
        obtain ⟨d1, hd1, hk1⟩ := ti_und hS
        obtain ⟨d2, hd2, hk2⟩ := ti_und hD
        obtain ⟨d3, hd3, hk3⟩ := ti_und hE
        have := of_str (q1 ▸ hk1); subst this
        have := of_sl (q2 ▸ hk2); subst this
        have := of_int (k1 ▸ hk3); subst this
        cases hv
        have hr := Lib.run_convert_string_bytes (P := P) w src dst e ⟨l.toArray⟩ hd1 hd2 hd3
        have hbel := Lib.bytesWorld_below w e ⟨l.toArray⟩
        obtain ⟨s', ext⟩ := Below.ext s hbel
        refine done_new ⟨.sl 1 (l.map fun b => [.int .u8 b.toNat]), _, h, mu, _, hr, ?_, k3, s', ext⟩
        have hsz : (⟨l.toArray⟩ : ByteArray).size = l.length := by show l.toArray.size = _; simp
        have := Rv.sl (w := Lib.bytesWorld w e ⟨l.toArray⟩) (mu := mu) (M := Mut h mu) 1 (l.map fun b => [AV.int .u8 b.toNat]) w.heap.size 0 (grownCap w (ByteArray.size ⟨l.toArray⟩) 0 e) (fun i _ => .int .u8 (l.getD i 0).toNat)
          (by rw [List.length_map]; have := grownCap_ge w (ByteArray.size ⟨l.toArray⟩) 0 e; omega) (by simpa using k2) (fun i j hi hj => by
            have hj0 : j = 0 := by omega
            subst hj0
            have := Lib.bytesWorld_cell w e ⟨l.toArray⟩ i (by rw [hsz]; simpa using hi)
            simpa using this) (fun i j hi hj => by
            have hj0 : j = 0 := by omega
            subst hj0
            have hi' : i < l.length := by simpa using hi
            have e1 : cell (l.map fun b => [AV.int .u8 b.toNat]) i 0 = .int .u8 (l.getD i 0).toNat := by simp [cell, List.getD, hi']
            rw [e1]; exact .int _ _) (fun r hr => by
            obtain ⟨b, _, rfl⟩ := List.mem_map.1 hr
            exact ⟨rfl, fun v hv => by rw [List.mem_singleton.1 hv]; rfl⟩) (fun hm => by have := Mut.lt s hm; omega) (by rw [Lib.bytesWorld_size]; omega)
        rw [List.length_map] at this
        rw [hsz] at this ⊢
        exact this
      · exact hK.elim
    · exact done_of s hK fun v hv' => conv_sound s hv hv'
  · exact done_of s hK fun v hv' => conv_sound s hv hv'
theorem aop_sound (s : Sim B mu h w) {fr : Nat → AV} {a : Act} (hf : FrOk h mu w fr a) {o : Oper} {K : AV → AHeap → Prop} (hK : aop P fr h o.op K) : OpDone P B h mu w (execOp a.eval o) K := by
  have E := fun x => ev_sound hf x
  obtain ⟨dst, op, ty, pos, after, guard⟩ := o
  simp only at hK
  unfold aop at hK
  split at hK
  · exact ⟨.value _, w, _, h, mu, rfl, .inl ⟨_, rfl, E _⟩, hK, s, Ext.refl _ _ _⟩
  · exact ⟨.value _, w, _, h, mu, rfl, .inl ⟨_, rfl, E _⟩, hK, s, Ext.refl _ _ _⟩
  · rename_i c x y
    split at hK
    · rename_i t ht
      have hc := E c
      rw [ht] at hc
      cases hq : a.eval c <;> rw [hq] at hc <;> cases hc
      refine ⟨.value (if t then a.eval x else a.eval y), w, _, h, mu, ?_, .inl ⟨_, rfl, ?_⟩, hK, s, Ext.refl _ _ _⟩
      · simp only [execOp, hq, asBool]; simp
      · cases t
        · exact E y
        · exact E x
    · exact hK.elim
  · rename_i e
    split at hK
    · rename_i T hT
      obtain ⟨hfl, hK⟩ := hK
      obtain ⟨z, hz, hzl, _⟩ := ti_zero hT
      obtain ⟨z1, z2⟩ := avList_rv (w := w) (mu := mu) (M := Mut h mu) hzl
      obtain ⟨o, g, mu', h', w', r1, r2, r3, r4, r5⟩ := newVar_sound (P := P) (c := z) (e := e) s hK (by simpa using z1) z2 hfl
      refine done_new ⟨_, _, _, _, _, ?_, r2, r3, r4, r5⟩
      simp [Instr.alloc, hz, r1]
    · exact hK.elim
  · rename_i e x
    obtain ⟨hok, hfl, hK⟩ := hK
    obtain ⟨z1, z2⟩ := cells_rv (E x) hok
    obtain ⟨o, g, mu', h', w', r1, r2, r3, r4, r5⟩ := newVar_sound (P := P) (c := a.eval x) (e := e) s hK z1 z2 hfl
    refine done_new ⟨_, _, _, _, _, ?_, r2, r3, r4, r5⟩
    simp [Instr.box, r1]
  · rename_i t ps
    obtain ⟨ps⟩ := ps
    obtain ⟨p1, p2⟩ := evp_sound hf ps
    refine done_of s hK fun v hv => ?_
    have := build_sound (P := P) p1 p2 hv
    simpa using this
  · rename_i t n ps
    obtain ⟨ps⟩ := ps
    obtain ⟨p1, p2⟩ := evp_sound hf ps
    have := buildSlice_sound (P := P) s p1 p2 hK
    refine done_new ?_
    simpa using this
  · exact done_of s hK fun v hv => load_sound s (E _) hv
  · rename_i t x y
    obtain ⟨v, hv, hK⟩ := hK
    split at hK
    · rename_i h' hh
      obtain ⟨w', r1, r2, r3⟩ := store_sound s (E x) (hv.rv (E y)) hh
      exact ⟨.skip, w', .und, h', mu, by simp [execOp, r1], .inr ⟨rfl, rfl⟩, hK, r2, r3⟩
    · exact hK.elim
  · rename_i x
    cases hq : aCheck (ev fr x) with
    | none => rw [hq] at hK; exact hK.elim
    | some v =>
      rw [hq] at hK
      obtain ⟨e1, e2⟩ := check_sound (P := P) (dst := dst) (ty := ty) (pos := pos) (after := after) (guard := guard) (E x) hq
      exact ⟨.value (a.eval x), w, v, h, mu, e2, .inl ⟨_, rfl, e1 ▸ E x⟩, hK, s, Ext.refl _ _ _⟩
  · rename_i op t x y yt
    obtain ⟨hg, hK⟩ := hK
    obtain ⟨c, v, c1, c2, c3⟩ := cmp_sound (P := P) (E x) (E y) (by
      intro hy
      unfold isNilOp at hy
      split at hy
      · rfl
      · cases hy) hK
    exact done_new ⟨v, c, h, mu, w, by simp [guard_sound (E x) (E y) hg, c1], c2, c3, s, Ext.refl _ _ _⟩
  · exact done_of s hK fun v hv => un_sound (E _) hv
  · exact convK_sound s (E _) hK
  · rename_i t x
    split at hK
    · rename_i T hT
      obtain ⟨hk, hK⟩ := hK
      exact ⟨.value (.iface t (a.eval x)), w, _, h, mu, by simp [execOp, iface_sound hT hk], .inl ⟨_, rfl, .iface _ _ _ (E x)⟩, hK, s, Ext.refl _ _ _⟩
    · exact hK.elim
  · rename_i fn f c
    obtain ⟨f⟩ := f
    obtain ⟨c⟩ := c
    obtain ⟨f1, f2⟩ := evs_sound hf f
    obtain ⟨c1, c2⟩ := evs_sound hf c
    refine ⟨.value (.func fn (f.map a.eval).toArray (c.map a.eval).toArray), w, _, h, mu, by simp [execOp, Instr.makeFunc], .inl ⟨_, rfl, ?_⟩, hK, s, Ext.refl _ _ _⟩
    have := Rv.func (w := w) (mu := mu) (M := Mut h mu) fn _ _ _ _ f1 c1 f2 c2
    simpa using this
  · exact done_new (make_sound s (E _) (E _) hK)
  · exact done_of s hK fun v hv => slice_sound s (E _) (opt_sound hf _) (opt_sound hf _) (opt_sound hf _) hv
  · exact done_of s hK fun v hv => fieldAddr_sound (E _) hv
  · exact done_of s hK fun v hv => field_sound (E _) hv
  · exact done_of s hK fun v hv => indexAddr_sound s (E _) (E _) hv
  · exact done_of s hK fun v hv => index_sound (E _) (E _) hv
  · exact done_of s hK fun v hv => assert_sound (E _) hv
  · exact done_of s hK fun v hv => extract_sound (E _) hv
  · exact done_of s hK fun v hv => lookup_sound s (E _) (E _) hv
  · rename_i t r
    obtain ⟨hr, hK⟩ := hK
    have hn := newMap_sound (P := P) s hK
    cases r with
    | none => exact done_new hn
    | some x =>
      refine done_new ?_
      simp only at hr
      split at hr
      · rename_i T kx n hT hx
        have hxv := E x
        rw [hx] at hxv
        cases hq : a.eval x <;> rw [hq] at hxv <;> cases hxv
        split at hr
        · rename_i kt et hTk
          obtain ⟨d, hd, hdk⟩ := ti_und hT
          rw [hTk] at hdk
          obtain rfl := of_map hdk
          obtain ⟨v, c, h', mu', w', r1, r2⟩ := hn
          refine ⟨v, c, h', mu', w', ?_, r2⟩
          simpa [Instr.makeMap, run_underlying hd, asInt, asIntOf, hq] using r1
        · exact hr.elim
      · exact hr.elim
  · rename_i t m k x
    split at hK
    · rename_i h' hh
      obtain ⟨w', r1, r2, r3⟩ := mapUpdate_sound s (E m) (E k) (E x) hh
      exact ⟨.skip, w', .und, h', mu, by simp [execOp, r1], .inr ⟨rfl, rfl⟩, hK, r2, r3⟩
    · exact hK.elim
  · rename_i b args ts
    have hargs := evs_sound hf args.toList
    have hres : ∀ (r : Sem Value), (resolve a.eval ⟨.builtin b, args, ts⟩ ty >>= fun d => invoke d.target d.args) = (do pure (.value (← r))) → OpDone P B h mu w (do pure (.value (← r))) K →
        OpDone P B h mu w (execOp a.eval ⟨dst, .call ⟨.builtin b, args, ts⟩, ty, pos, after, guard⟩) K := by
      intro r e hd
      have : execOp a.eval ⟨dst, .call ⟨.builtin b, args, ts⟩, ty, pos, after, guard⟩ = (do pure (.value (← r))) := e
      rw [this]; exact hd
    obtain ⟨ts⟩ := ts
    obtain ⟨args⟩ := args
    unfold aBuiltin at hK
    split at hK
    · rename_i t v h1 h2
      match args, h2 with
      | [x], h2 =>
        obtain rfl : ts = [t] := h1
        obtain rfl : ev fr x = v := by simpa [evs] using h2
        exact hres (Builtin.len_ #[t] ty #[a.eval x]) (by simp [resolve, invoke, builtin]) (done_of s hK fun v hv => len_sound s (E _) hv)
    · rename_i t t' v v' h1 h2
      match args, h2 with
      | [x, y], h2 =>
        obtain rfl : ts = [t, t'] := h1
        simp only [evs, List.map_cons, List.map_nil, List.cons.injEq, and_true] at h2
        obtain ⟨rfl, rfl⟩ := h2
        exact hres (Builtin.append_ #[t, t'] ty #[a.eval x, a.eval y]) (by simp [resolve, invoke, builtin]) (done_new (append_sound s (E _) (E _) hK))
    · exact hres (Builtin.min_ ⟨ts⟩ ty (args.map a.eval).toArray) (by simp [resolve, invoke, builtin]) (done_of s hK fun v hv => by
        have := min_sound (P := P) (isMax := false) hargs.1 hargs.2 hv ⟨ts⟩ ty
        simpa using this)
    · exact hres (Builtin.max_ ⟨ts⟩ ty (args.map a.eval).toArray) (by simp [resolve, invoke, builtin]) (done_of s hK fun v hv => by
        have := min_sound (P := P) (isMax := true) hargs.1 hargs.2 hv ⟨ts⟩ ty
        simpa using this)
    · exact hK.elim
  · exact hK.elim
end

section
variable {P : Program} [GW P] {h : AHeap} {K K' : AV → AHeap → Prop}
theorem kOpt_mono {x : Option AV} (hm : ∀ v h', K v h' → K' v h') (hx : kOpt x h K) : kOpt x h K' := by
  cases x with
  | none => exact hx
  | some v => exact hm _ _ hx
theorem aNew_mono {st : Nat} {rs : List (List AV)} {K K' : Nat → Nat → AHeap → Prop} (hm : ∀ o g h', K o g h' → K' o g h') (hx : aNew h st rs K) : aNew h st rs K' := hx.imp fun o hk => ⟨hk.1, fun g => hm _ _ _ (hk.2 g)⟩
theorem aAppend_mono {sT xT : TypeId} {s x : AV} (hm : ∀ v h', K v h' → K' v h') (hx : aAppend P h sT xT s x K) : aAppend P h sT xT s x K' := by
  unfold aAppend at hx ⊢
  split at hx
  · split at hx
    · split at hx
      · rename_i hE
        obtain ⟨h1, h2, h3, hx⟩ := hx
        refine ⟨h1, h2, h3, ?_⟩
        split at hx
        · split at hx
          · split at hx
            · rename_i h0; rw [if_pos h0]; exact hm _ _ hx
            · rename_i h0; rw [if_neg h0]; exact ⟨hx.1, aNew_mono (fun _ _ _ hk => hm _ _ hk) hx.2⟩
          · split at hx
            · exact ⟨hx.1, hx.2.1, hx.2.2.1, hx.2.2.2.1, fun g2 => hm _ _ (hx.2.2.2.2 g2)⟩
            · exact hx.elim
          · exact hx.elim
        · exact hx.elim
      · exact hx.elim
    · exact hx.elim
  · exact hx.elim
theorem aBuildSlice_mono {t : TypeId} {n : Nat} {ps : List (Nat × AV)} (hm : ∀ v h', K v h' → K' v h') (hx : aBuildSlice P h t n ps K) : aBuildSlice P h t n ps K' := by
  unfold aBuildSlice at hx ⊢
  split at hx
  · split at hx
    · split at hx
      · split at hx
        · rename_i h0; rw [if_pos h0]; exact ⟨hx.1, hx.2.imp (hm _ _) (hm _ _)⟩
        · rename_i h0
          rw [if_neg h0]
          obtain ⟨h1, h2, h3, hx⟩ := hx
          refine ⟨h1, h2, h3, ?_⟩
          split at hx
          · obtain ⟨r, h1, hx⟩ := hx
            exact ⟨r, h1, hx.imp (hm _ _) (fun hx => aNew_mono (fun _ _ _ hk => hm _ _ hk) hx)⟩
          · exact hx.elim
      · exact hx.elim
    · exact hx.elim
  · exact hx.elim
theorem aMake_mono {t : TypeId} {l c : AV} (hm : ∀ v h', K v h' → K' v h') (hx : aMake P h t l c K) : aMake P h t l c K' := by
  unfold aMake at hx ⊢
  split at hx
  · split at hx
    · split at hx
      · obtain ⟨h1, h2, h3, h4, h5, h6, hx⟩ := hx
        exact ⟨h1, h2, h3, h4, h5, h6, aNew_mono (fun _ _ _ hk => hm _ _ hk) hx⟩
      · exact hx.elim
    · exact hx.elim
  · exact hx.elim
theorem aBuiltin_mono {b : Builtin} {ts : List TypeId} {args : List AV} (hm : ∀ v h', K v h' → K' v h') (hx : aBuiltin P h b ts args K) : aBuiltin P h b ts args K' := by
  unfold aBuiltin at hx ⊢
  split at hx
  · exact kOpt_mono hm hx
  · exact aAppend_mono hm hx
  · exact kOpt_mono hm hx
  · exact kOpt_mono hm hx
  · exact hx.elim
theorem aCmp_mono {o : BinOp} {t : TypeId} {y : Operand} {vx vy : AV} (hm : ∀ v h', K v h' → K' v h') (hx : aCmp P o t y vx vy h K) : aCmp P o t y vx vy h K' := by
  unfold aCmp at hx ⊢
  split at hx
  · rename_i hn
    rw [if_pos hn]
    split at hx
    · split at hx
      · exact fun b => hm _ _ (hx b)
      · exact fun b hb => hm _ _ (hx b hb)
      · exact hm _ _ hx
      · exact fun b => hm _ _ (hx b)
      · exact fun b hb => hm _ _ (hx b hb)
      · exact hm _ _ hx
      · exact hx.elim
    · exact hx.elim
  · rename_i hn
    rw [if_neg hn]
    exact kOpt_mono hm hx
theorem aop_mono {fr : Nat → AV} {op : Op} (hm : ∀ v h', K v h' → K' v h') (hx : aop P fr h op K) : aop P fr h op K' := by
  cases op with
  | pick c a b => simp only [aop] at hx ⊢; split at hx <;> first | exact hm _ _ hx | exact hx.elim
  | alloc e =>
    simp only [aop] at hx ⊢
    split at hx
    · exact ⟨hx.1, aNew_mono (fun _ _ _ hk => hm _ _ hk) hx.2⟩
    · exact hx.elim
  | box e x => exact ⟨hx.1, hx.2.1, aNew_mono (fun _ _ _ hk => hm _ _ hk) hx.2.2⟩
  | buildSlice t n ps => exact aBuildSlice_mono hm hx
  | store t a x =>
    simp only [aop] at hx ⊢
    obtain ⟨v, hv, hx⟩ := hx
    refine ⟨v, hv, ?_⟩
    split at hx
    · exact hm _ _ hx
    · exact hx.elim
  | binOp o t x y _ => exact ⟨hx.1, aCmp_mono hm hx.2⟩
  | makeInterface t x =>
    simp only [aop] at hx ⊢
    split at hx
    · exact ⟨hx.1, hm _ _ hx.2⟩
    · exact hx.elim
  | makeSlice t l c => exact aMake_mono hm hx
  | convert s d x =>
    simp only [aop, aConvK] at hx ⊢
    split at hx
    · split at hx
      · split at hx
        · exact ⟨hx.1, hx.2.1, hm _ _ hx.2.2⟩
        · exact hx.elim
      · exact kOpt_mono hm hx
    · exact kOpt_mono hm hx
  | makeMap t r => exact ⟨hx.1, hx.2.imp fun o hk => ⟨hk.1, fun g => hm _ _ (hk.2 g)⟩⟩
  | mapUpdate t m k x => simp only [aop] at hx ⊢; split at hx <;> first | exact hm _ _ hx | exact hx.elim
  | call c =>
    obtain ⟨cal, args, ts⟩ := c
    cases cal with
    | builtin b => exact aBuiltin_mono hm hx
    | value f => exact hx
    | invoke r m => exact hx
  | _ => first | exact hm _ _ hx | exact kOpt_mono hm hx | exact hx
end
end Go.Am
