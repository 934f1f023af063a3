/- What every value that exists fulfils; calls with contracts that leave the memory as it was. -/
import Derived.Test.YtplndonhhfflhaaAmFreeze
import Derived.Test.YtplndonhhfflhaaAmPlan
namespace Go.Am
open Go
set_option linter.unusedSectionVars false
set_option linter.unusedSimpArgs false
set_option linter.unusedVariables false
set_option linter.unusedSectionVars false

/-- It is some value's description. -/
def Wf (v : AV) : Prop := ∃ w mu M c, Rv w mu M v c
theorem RV.wf {h : AHeap} {mu : Mu} {w : World} {v : AV} {c : Value} (k : RV h mu w v c) : Wf v := ⟨w, mu, Mut h mu, c, k⟩
theorem Wf.lim {st : Nat} {rows : List (List AV)} (k : Wf (.sl st rows)) : rows.length ≤ LIM := by
  obtain ⟨w, mu, M, c, k⟩ := k
  cases k with
  | sl0 => simp
  | sl _ _ b off cap vs hcap hlim => exact hlim
theorem Wf.cell {st : Nat} {rows : List (List AV)} (k : Wf (.sl st rows)) {i j : Nat} (hi : i < rows.length) (hj : j < st) : Wf (cell rows i j) := by
  obtain ⟨w, mu, M, c, k⟩ := k
  cases k with
  | sl0 => simp at hi
  | sl _ _ b off cap vs hcap hlim h1 h2 => exact ⟨w, mu, M, _, h2 i j hi hj⟩
theorem Wf.row {st : Nat} {rows : List (List AV)} (k : Wf (.sl st rows)) {r : List AV} (hr : r ∈ rows) : RowOk st r := by
  obtain ⟨w, mu, M, c, k⟩ := k
  cases k with
  | sl0 => cases hr
  | sl _ _ b off cap vs hcap hlim h1 h2 hrr => exact hrr r hr
theorem Wf.agg {cs : List AV} (k : Wf (.agg cs)) {i : Nat} (hi : i < cs.length) : Wf (cs.getD i .und) := by
  obtain ⟨w, mu, M, c, k⟩ := k
  cases k with
  | agg _ vs hl h => exact ⟨w, mu, M, _, h i hi⟩
theorem Wf.tup {cs : List AV} (k : Wf (.tup cs)) {i : Nat} (hi : i < cs.length) : Wf (cs.getD i .und) := by
  obtain ⟨w, mu, M, c, k⟩ := k
  cases k with
  | tup _ vs hl h => exact ⟨w, mu, M, _, h i hi⟩
theorem Wf.cp {row : List AV} {c : Nat} (k : Wf (.cp row c)) {i : Nat} (hi : i < row.length) : Wf (row.getD i .und) := by
  obtain ⟨w, mu, M, c, k⟩ := k
  cases k with
  | cp _ _ b off vs h1 h2 => exact ⟨w, mu, M, _, h2 i hi⟩
theorem Wf.ref {o g off len : Nat} (k : Wf (.ref o g off len)) : len ≤ LIM := by
  obtain ⟨w, mu, M, c, k⟩ := k
  cases k with
  | ref _ _ _ _ cap l h hc hcap hlim => exact hlim
theorem Wf.func {fn : Fn} {f c : List AV} (k : Wf (.func fn f c)) : (∀ i, i < f.length → Wf (f.getD i .und)) ∧ ∀ i, i < c.length → Wf (c.getD i .und) := by
  obtain ⟨w, mu, M, c, k⟩ := k
  cases k with
  | func _ _ _ f2 c2 hf hc h1 h2 => exact ⟨fun i hi => ⟨w, mu, M, _, h1 i hi⟩, fun i hi => ⟨w, mu, M, _, h2 i hi⟩⟩
theorem lim_small {n : Nat} (k : n ≤ LIM) : n ≤ 140737488355328 := k

section
variable {P : Program} [GW P] {f : FuncId} {n : Nat} {d : FK} {fr : Nat → AV} {ds : List AD} {h h2 : AHeap} {u : AU} {Q : QT} {k : List Item}
theorem run_wf {todo : List Item} (t : Nat) (hr : Wf (fr t) → Run P f n d todo fr ds h u Q) : Run P f n d todo fr ds h u Q :=
  fun B mu w a cs p => hr (p.fr t).wf B mu w a cs p
/-- What an own object holds, is so too. -/
theorem run_wfO {todo : List Item} {o g st : Nat} {rs : List (List AV)} (ho : h o = some (.rows g st rs)) (hr : (∀ r ∈ rs, RowOk st r) → (∀ i j, i < rs.length → j < st → Wf (cell rs i j)) → Run P f n d todo fr ds h u Q) : Run P f n d todo fr ds h u Q := by
  intro B mu w a cs p
  obtain ⟨l, h1, h2, h3, h4, h5, h6⟩ := p.sim.rows _ _ _ _ ho
  exact hr h5 (fun i j hi hj => let ⟨c, _, hc⟩ := h6 i j hi hj; RV.wf hc) B mu w a cs p
theorem calls_wf {args : List AV} {Q : AR → AHeap → Prop} (hb : HasBody P f) (hr : (∀ v ∈ args, Wf v) → ACalls P f args h Q) : ACalls P f args h Q := by
  refine ⟨hb, fun B mu w cargs s ha => (hr fun v hv => ?_).2 B mu w cargs s ha⟩
  obtain ⟨i, hi, rfl⟩ := List.mem_iff_getElem.1 hv
  have := ha.2 i hi
  rw [getD_of (List.getElem?_eq_getElem hi)] at this
  exact this.wf

/-- The call answers 'r' and leaves the memory as it was. -/
def ans (r : AR) (h : AHeap) : AR → AHeap → Prop := fun r' h' => r' = r ∧ h' = h
theorem call_ret {g : FuncId} {args : List AV} {v : AV} {K E : AV → AHeap → Prop} (hc : ACalls P g args h (ans (.ret v) h)) (hk : K v h) : aCall P g args h K E :=
  hc.mono fun r h' hq => by obtain ⟨rfl, rfl⟩ := hq; exact hk
theorem call_pan {g : FuncId} {args : List AV} {v : AV} {K E : AV → AHeap → Prop} (hc : ACalls P g args h (ans (.panic v) h)) (hk : E v h) : aCall P g args h K E :=
  hc.mono fun r h' hq => by obtain ⟨rfl, rfl⟩ := hq; exact hk
theorem call_any {g : FuncId} {args : List AV} {r : AR} {K E : AV → AHeap → Prop} (hc : ACalls P g args h (ans r h)) (hk : ∀ v, r = .ret v → K v h) (he : ∀ v, r = .panic v → E v h) : aCall P g args h K E :=
  hc.mono fun r' h' hq => by
    obtain ⟨rfl, rfl⟩ := hq
    cases r' with
    | ret v => exact hk v rfl
    | panic v => exact he v rfl
end
end Go.Am
namespace Go.Am
open Go
set_option linter.unusedSectionVars false
theorem upd_none {α : Type} {h : Nat → Option α} {o p : Nat} {x : α} : upd h o (some x) p = none ↔ p ≠ o ∧ o ≠ p ∧ h p = none := by
  unfold upd
  split
  · rename_i hq; simp [hq]
  · rename_i hq; exact ⟨fun k => ⟨hq, fun e => hq e.symm, k⟩, fun k => k.2.2⟩
theorem upd_upd {α : Type} (h : Nat → α) (o : Nat) (x y : α) : upd (upd h o x) o y = upd h o y := by
  funext p
  unfold upd
  split <;> rfl
theorem upd_comm {α : Type} (h : Nat → α) {o p : Nat} (x y : α) (hne : o ≠ p) : upd (upd h o x) p y = upd (upd h p y) o x := by
  funext q
  unfold upd
  split
  · rename_i hq; subst hq; rw [if_neg (fun e => hne e.symm)]
  · rfl
theorem sub_new {h : AHeap} {o : Nat} {x : Option AO} (ho : h o = none) : Sub h (upd h o x) := fun p y hp => by
  unfold upd
  rw [if_neg]
  · exact hp
  · rintro rfl; rw [ho] at hp; cases hp
theorem Sub.over {h h' : AHeap} {o : Nat} {x : Option AO} (hs : Sub h h') (ho : h o = none) : Sub h (upd h' o x) := fun p y hp => by
  unfold upd
  rw [if_neg]
  · exact hs p y hp
  · rintro rfl; rw [ho] at hp; cases hp
theorem Sub.upd {h h' : AHeap} (hs : Sub h h') (o : Nat) (x : Option AO) : Sub (upd h o x) (upd h' o x) := fun p y hp => by
  unfold Go.Am.upd at hp ⊢
  split
  · rename_i hq; rwa [if_pos hq] at hp
  · rename_i hq; rw [if_neg hq] at hp; exact hs p y hp
/-- An own object is written again, what else was made is dropped. -/
theorem Sub.again {h h' : AHeap} {o : Nat} {x : Option AO} (hs : Sub (Go.Am.upd h o x) h') (y : Option AO) : Sub (Go.Am.upd h o y) (Go.Am.upd h' o y) := fun p z hp => by
  unfold Go.Am.upd at hp ⊢
  split
  · rename_i hq; rwa [if_pos hq] at hp
  · rename_i hq
    rw [if_neg hq] at hp
    exact hs p z (by unfold Go.Am.upd; rwa [if_neg hq])
theorem Sub.trans {h1 h2 h3 : AHeap} (a : Sub h1 h2) (b : Sub h2 h3) : Sub h1 h3 := fun p x hp => b p x (a p x hp)
theorem new_intro {h : AHeap} {st : Nat} {rs : List (List AV)} {K : Nat → Nat → AHeap → Prop} (o : Nat) (ho : h o = none) (hk : ∀ g, K o g (upd h o (some (.rows g st rs)))) : aNew h st rs K := ⟨o, ho, hk⟩
theorem newMap_intro {h : AHeap} {K : AV → AHeap → Prop} (o : Nat) (ho : h o = none) (hk : ∀ g, K (.map o g) (upd h o (some (.mp g [])))) : aNewMap h K := ⟨o, ho, hk⟩

/-- Where a region goes on. -/
structure Going (P : Program) [GW P] (f : FuncId) (n : Nat) (d : FK) (k : List Item) (Q : QT) (K : KT) (U : AV → KT) : Prop where
  run : ∀ fr ds h u, Run P f n d k fr ds h u Q → K fr ds h u
  unw : ∀ v fr ds h u, Unw P f n d (.pan v false) fr ds h u Q → U v fr ds h u
section
variable {P : Program} [GW P] {f : FuncId} {n : Nat} {d : FK} {fr : Nat → AV} {ds : List AD} {h : AHeap} {u : AU} {Q : QT} {k : List Item}
theorem run_go {id : Nat} {l : List Oper} (hx : ∀ (K : KT) (U : AV → KT), Going P f n d k Q K U → aOps P n d l K U l fr ds h u) :
    Run P f n d (.code (.region id ⟨l⟩ false) :: k) fr ds h u Q := run_reg fun K U hK hU => hx K U ⟨hK, hU⟩
theorem run_any {id : Nat} {l : List Oper} (hm : P.follows .mixedOrders = true) (pre : List (List Nat)) (plan : Plan) (hp : planOk l pre plan = true)
    (hx : ∀ (K : KT) (U : AV → KT), Going P f n d k Q K U → aPlan P n d l pre K U plan [] fr ds h u) :
    Run P f n d (.code (.region id ⟨l⟩ true) :: k) fr ds h u Q := run_draw hm pre plan hp fun K U hK hU => hx K U ⟨hK, hU⟩
theorem run_anyT {id : Nat} {l : List Oper} (hm : P.follows .mixedOrders = true) (T : DT) (hT : T.ok l [] = true)
    (hx : ∀ (K : KT) (U : AV → KT), Going P f n d k Q K U → T.each fun pre plan => aPlan P n d l pre K U plan [] fr ds h u) :
    Run P f n d (.code (.region id ⟨l⟩ true) :: k) fr ds h u Q := run_drawT hm T hT fun K U hK hU => hx K U ⟨hK, hU⟩
end
theorem wrap_nat {n : Int} (h0 : 0 ≤ n) (h : n < 9223372036854775808) : IntKind.i64.wrap n = n := by
  simp [IntKind.wrap, IntKind.bits, IntKind.signed]
  omega
theorem wrap_int {n : Int} (h0 : -9223372036854775808 ≤ n) (h : n < 9223372036854775808) : IntKind.i64.wrap n = n := by
  simp [IntKind.wrap, IntKind.bits, IntKind.signed]
  omega
theorem wrap_succ {n : Nat} (h : n ≤ LIM) : IntKind.i64.wrap ((n : Int) + 1) = ((n + 1 : Nat) : Int) := by
  rw [wrap_nat] <;> simp [LIM] at * <;> omega
end Go.Am
namespace Go.Am
open Go
set_option linter.unusedSectionVars false
/-- A slice of one's own, alone in the memory over what was there. -/
def Own (h0 h : AHeap) (v : AV) (st : Nat) (rows : List (List AV)) : Prop :=
  (v = .emp ∧ rows = [] ∧ h = h0) ∨ ∃ o g, h0 o = none ∧ v = .ref o g 0 rows.length ∧ h = upd h0 o (some (.rows g st rows))
theorem Own.sub {h0 h : AHeap} {v : AV} {st : Nat} {rows : List (List AV)} (k : Own h0 h v st rows) : Sub h0 h := by
  rcases k with ⟨_, _, rfl⟩ | ⟨o, g, ho, _, rfl⟩
  · exact Sub.refl _
  · exact sub_new ho
theorem Own.fz {h0 h : AHeap} {v : AV} {st : Nat} {rows : List (List AV)} (k : Own h0 h v st rows) (hr : ∀ r ∈ rows, RowOk st r) : Fz h h0 v (.sl st rows) := by
  rcases k with ⟨rfl, rfl, _⟩ | ⟨o, g, ho, rfl, rfl⟩
  · exact .emp st
  · exact .ref o g 0 rows.length st rows rows (by simp [upd]) ho rfl (by simp) hr (fun i j _ _ => by rw [Nat.zero_add]; exact .same _)
/-- One element more: what 'append' has made, over temporary things. -/
theorem Own.first {h0 : AHeap} {o g st : Nat} {rows : List (List AV)} (ho : h0 o = none) : Own h0 (upd h0 o (some (.rows g st rows))) (.ref o g 0 rows.length) st rows := .inr ⟨o, g, ho, rfl, rfl⟩
def toN : AV → Nat
  | .int _ n => n.toNat
  | _ => 0
end Go.Am
namespace Go.Am
open Go
set_option linter.unusedSectionVars false
section
variable {P : Program} [GW P] {f : FuncId} {n : Nat} {d : FK} {fr : Nat → AV} {ds : List AD} {h : AHeap} {u : AU}
@[congr] theorem kOpt_cg {x x' : Option AV} {K : AV → AHeap → Prop} (hx : x = x') : kOpt x h K = kOpt x' h K := by rw [hx]
@[congr] theorem aCmp_cg {o : BinOp} {t : TypeId} {y : Operand} {vx vx' vy vy' : AV} {K : AV → AHeap → Prop} (hx : vx = vx') (hy : vy = vy') : aCmp P o t y vx vy h K = aCmp P o t y vx' vy' h K := by rw [hx, hy]
@[congr] theorem aOne_cg {U : AV → KT} {op : Op} {K : AV → List AD → AHeap → AU → Prop} : aOne P d U fr ds h u op K = aOne P d U fr ds h u op K := rfl
@[congr] theorem aop_cg {op : Op} {K : AV → AHeap → Prop} : aop P fr h op K = aop P fr h op K := rfl
@[congr] theorem aOps_cg {all : List Oper} {K : KT} {U : AV → KT} {l : List Oper} : aOps P n d all K U l fr ds h u = aOps P n d all K U l fr ds h u := rfl
@[congr] theorem aPlan_cg {all : List Oper} {pre : List (List Nat)} {K : KT} {U : AV → KT} {pl : Plan} {pend : Pend} : aPlan P n d all pre K U pl pend fr ds h u = aPlan P n d all pre K U pl pend fr ds h u := rfl
@[congr] theorem aCall_cg {g : FuncId} {args args' : List AV} {K E : AV → AHeap → Prop} (ha : args = args') : aCall P g args h K E = aCall P g args' h K E := by rw [ha]
@[congr] theorem aBuiltin_cg {b : Builtin} {ts : List TypeId} {args : List AV} {K : AV → AHeap → Prop} : aBuiltin P h b ts args K = aBuiltin P h b ts args K := rfl
@[congr] theorem aAppend_cg {sT xT : TypeId} {s s' x x' : AV} {K : AV → AHeap → Prop} (hs : s = s') (hx : x = x') : aAppend P h sT xT s x K = aAppend P h sT xT s' x' K := by rw [hs, hx]
@[congr] theorem aBuildSlice_cg {t : TypeId} {k : Nat} {ps ps' : List (Nat × AV)} {K : AV → AHeap → Prop} (hp : ps = ps') : aBuildSlice P h t k ps K = aBuildSlice P h t k ps' K := by rw [hp]
@[congr] theorem aMake_cg {t : TypeId} {l l' c c' : AV} {K : AV → AHeap → Prop} (hl : l = l') (hc : c = c') : aMake P h t l c K = aMake P h t l' c' K := by rw [hl, hc]
@[congr] theorem aNew_cg {st : Nat} {rs rs' : List (List AV)} {K : Nat → Nat → AHeap → Prop} (hr : rs = rs') : aNew h st rs K = aNew h st rs' K := by rw [hr]
@[congr] theorem aNewMap_cg {K : AV → AHeap → Prop} : aNewMap h K = aNewMap h K := rfl
end
end Go.Am
namespace Go.Am
open Go
set_option linter.unusedSectionVars false
section
variable {P : Program} [GW P] {f : FuncId} {n : Nat} {fr : Nat → AV} {h h2 : AHeap} {u : AU} {Q : QT}
theorem unw_panF {fn : Func} {v v' : AV} (hf : P.funcs[f]? = some fn) (hs : Sub h2 h) (hz : Fz h h2 v v') (hq : Q (.panic v') h2 u) : Unw P f n false (.pan v false) fr [] h u Q := by
  intro B mu w a cs todo mode p hm
  have hd : a.defers = [] := p.ds
  obtain ⟨e, rfl, e1, e2, e3⟩ := hm.pan_inv
  exact ⟨.panicked [e], w, cs, _, .panic v', h2, mu, u, hq, Steps.refl P _, rfl, rfl, ⟨rfl, hd, fn, hf⟩, ⟨e1, e2, freeze_sound p.sim hs hz e3⟩, p.sim.sub hs, (EXT.sub hs).g, rfl⟩
end
end Go.Am
namespace Go.Am
open Go
set_option linter.unusedSectionVars false
section
variable {P : Program} [GW P] {f : FuncId} {n : Nat} {fr : Nat → AV} {h : AHeap} {u : AU} {Q : QT}
/-- A variable that won't be written again is content. -/
theorem run_box {todo : List Item} {o g st : Nat} {row : List AV} (t : Nat) (ho : h o = none) (ht : fr t = .ptr o g 0 0) (hst : row.length = st) (hr : Run P f n false todo (upd fr t (.cp row 0)) [] h u Q) :
    Run P f n false todo fr [] (upd h o (some (.rows g st [row]))) u Q := by
  refine run_freeze (sub_new ho) (fun s => ?_) rfl rfl hr
  by_cases hs : s = t
  · subst hs
    rw [ht, upd_same]
    exact .ptr o g 0 0 st [row] row (by simp [upd]) ho (by simp) hst (fun j _ => .same _)
  · rw [upd_ne _ _ _ hs]; exact .same _
end
end Go.Am
namespace Go.Am
open Go
set_option linter.unusedSectionVars false
/-- One field after the other. -/
def andO : Option Bool → Option Bool → Option Bool
  | some true, y => y
  | some false, _ => some false
  | none, _ => none
theorem andO_some (a b : Bool) : andO (some a) (some b) = some (a && b) := by cases a <;> rfl
theorem eqF_nil (P : Program) [GW P] (rec : TypeId → AV → AV → Option Bool) (xs ys : List AV) : aEqFields P rec xs ys [] = some true := rfl
theorem eqF_cons (P : Program) [GW P] (rec : TypeId → AV → AV → Option Bool) (xs ys : List AV) (off : Nat) (ft : TypeId) (r : List (Nat × TypeId)) :
    aEqFields P rec xs ys ((off, ft) :: r) = match ti P ft with
      | none => none
      | some F => match rdAt xs off F.size F.k.agg, rdAt ys off F.size F.k.agg with
        | some a, some b => andO (rec ft a b) (aEqFields P rec xs ys r)
        | _, _ => none := by
  rw [aEqFields]
  cases ti P ft with
  | none => rfl
  | some F =>
    simp only
    cases rdAt xs off F.size F.k.agg <;> cases rdAt ys off F.size F.k.agg <;> try rfl
    rename_i a b
    simp only
    cases rec ft a b with
    | none => rfl
    | some c => cases c <;> rfl
end Go.Am
namespace Go.Am
open Go
set_option linter.unusedSectionVars false
/-- The rest of a region: one operation at a time. -/
def aGo (P : Program) [GW P] (n : Nat) (d : FK) (all : List Oper) (K : KT) (U : AV → KT) (l : List Oper) (fr : Nat → AV) (ds : List AD) (h : AHeap) (u : AU) : Prop := aOps P n d all K U l fr ds h u
section
variable {P : Program} [GW P] {n : Nat} {d : FK} {all : List Oper} {K : KT} {U : AV → KT} {o : Oper} {l : List Oper} {fr : Nat → AV} {ds : List AD} {h : AHeap} {u : AU}
theorem go_on (hx : aOps P n d all K U l fr ds h u) : aGo P n d all K U l fr ds h u := hx
theorem aOps_nil : aOps P n d all K U [] fr ds h u = K fr ds h u := rfl
theorem aOps_cons : aOps P n d all K U (o :: l) fr ds h u = (dstOk n o.dst = true ∧ match aWanted all fr o with
    | none => False
    | some false => aGo P n d all K U l (putD fr o.dst .und) ds h u
    | some true => aOne P d U fr ds h u o.op (fun v ds' h' u' => aGo P n d all K U l (putD fr o.dst v) ds' h' u')) := rfl
end
end Go.Am
