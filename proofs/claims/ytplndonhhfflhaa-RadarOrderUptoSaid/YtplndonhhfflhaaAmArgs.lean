/- Arguments, as the statements read them, are content: what is read of a typed value gives a Lean value, whose cells stand in the world. -/
import Derived.Test.YtplndonhhfflhaaDcDefer
import Derived.WalkKit
import Derived.ProofKit
import Derived.OpenShut
import Derived.JoinedCond
import Derived.WideKeyArgs
namespace Go.Am
open Go Go.ChangeShapes Go.WideShapes Go.RowKit
set_option linter.unusedVariables false
set_option linter.unusedSectionVars false
set_option linter.unusedSimpArgs false

abbrev mu0 : Mu := fun _ _ => none
abbrev M0 : Nat → Prop := fun _ => False
def LR (w : World) (l : List AV) (cs : List Value) : Prop := l.length = cs.length ∧ ∀ i, i < l.length → Rv w mu0 M0 (l.getD i .und) (cs.getD i undef)

structure Bulk {H : Type} (bk : DataW H → Nat) (bks : List (DataW H) → Nat) : Prop where
  one : ∀ d, 1 ≤ bk d
  str : ∀ l, bk (.lit (.string l)) = l.length + 1
  sl : ∀ e s, bks e + 1 ≤ bk (.slice e s)
  agg : ∀ l, bk (.agg l) = bks l + 1
  nil : bks [] = 0
  cons : ∀ d l, bks (d :: l) = bk d + bks l

/-- A Lean type as content: its cells, what holds of it, how large it is. -/
structure Ty (τ : Type) where
  e : τ → List AV
  good : τ → Prop
  bulk : τ → Nat

section
variable {P : Program} [GW P]
def Opens {τ : Type} (P : Program) [GW P] (t : TypeId) (T : Ty τ) : Prop :=
  ∀ {H : Type} (enc : TypeId × Value → H) (w : World) (sp : Nat → Bool) (held : Bool) (fuel : Nat) (cs : List Value) (x : DataW H × List MemPlace) (bk : DataW H → Nat) (bks : List (DataW H) → Nat),
    Bulk bk bks → DataW.trod enc P w 0 sp held fuel t cs = some x → bk x.1 ≤ LIM → ∃ a : τ, LR w (T.e a) cs ∧ T.good a ∧ T.bulk a ≤ bk x.1

theorem LR.nil {w : World} : LR w [] [] := ⟨rfl, fun _ h => absurd h (Nat.not_lt_zero _)⟩
theorem LR.one {w : World} {a : AV} {c : Value} (h : Rv w mu0 M0 a c) : LR w [a] [c] := ⟨rfl, fun i hi => by
  have : i = 0 := by simpa using hi
  subst this; exact h⟩
theorem LR.cons {w : World} {a : AV} {c : Value} {l : List AV} {cs : List Value} (h : Rv w mu0 M0 a c) (k : LR w l cs) : LR w (a :: l) (c :: cs) := ⟨by simp [k.1], fun i hi => by
  cases i with
  | zero => exact h
  | succ i => simpa using k.2 i (by simpa using hi)⟩
theorem LR.append {w : World} : ∀ {l : List AV} {cs : List Value} {l' : List AV} {cs' : List Value}, LR w l cs → LR w l' cs' → LR w (l ++ l') (cs ++ cs')
  | [], [], _, _, _, h => h
  | [], _ :: _, _, _, h, _ => by simp [LR] at h
  | _ :: _, [], _, _, h, _ => by simp [LR] at h
  | a :: l, c :: cs, l', cs', h, h' => by
    refine LR.cons (by simpa using h.2 0 (by simp)) (LR.append (l := l) (cs := cs) ⟨by simpa using h.1, fun i hi => by simpa using h.2 (i + 1) (by simpa using hi)⟩ h')

def tInt (k : IntKind) : Ty Int := ⟨fun n => [.int k n], fun n => (Lit.int k n).wf = true, fun _ => 1⟩
def tBool : Ty Bool := ⟨fun b => [.bool b], fun _ => True, fun _ => 1⟩
def tStr : Ty (List UInt8) := ⟨fun s => [.str s], fun _ => True, fun s => s.length + 1⟩
def tSl {τ : Type} (st : Nat) (T : Ty τ) : Ty (List τ) := ⟨fun l => [.sl st (l.map T.e)], fun l => ∀ a ∈ l, T.good a, fun l => (l.map T.bulk).sum + 1⟩
def tUnit : Ty Unit := ⟨fun _ => [], fun _ => True, fun _ => 0⟩
def tPair {α β : Type} (A : Ty α) (B : Ty β) : Ty (α × β) := ⟨fun p => A.e p.1 ++ B.e p.2, fun p => A.good p.1 ∧ B.good p.2, fun p => A.bulk p.1 + B.bulk p.2⟩

theorem opens_int {t : TypeId} {k : IntKind} (ht : P.underlying t = some (.int k)) : Opens P t (tInt k) := by
  intro H enc w sp held fuel cs x bk bks B h hl
  obtain ⟨n, rfl, rfl, hw⟩ := DataW.trod_int ht h
  exact ⟨n, LR.one (.int k n), hw, B.one _⟩
theorem opens_bool {t : TypeId} (ht : P.underlying t = some .bool) : Opens P t tBool := by
  intro H enc w sp held fuel cs x bk bks B h hl
  obtain ⟨n, rfl, rfl⟩ := DataW.trod_bool ht h
  exact ⟨n, LR.one (.bool n), trivial, B.one _⟩
theorem opens_str {t : TypeId} (ht : P.underlying t = some .string) : Opens P t tStr := by
  intro H enc w sp held fuel cs x bk bks B h hl
  obtain ⟨s, rfl, rfl, hs⟩ := DataW.trod_string ht h
  refine ⟨s.data.toList, LR.one ?_, trivial, by rw [B.str]; exact Nat.le_refl _⟩
  have : s = ⟨s.data.toList.toArray⟩ := by cases s; simp
  exact this ▸ Rv.str s.data.toList
theorem pick_list {α : Type} {Q : Nat → α → Prop} : ∀ (n : Nat), (∀ i, i < n → ∃ a, Q i a) → ∃ l : List α, l.length = n ∧ ∀ i a, l[i]? = some a → Q i a
  | 0, _ => ⟨[], rfl, fun i a h => by simp at h⟩
  | n + 1, h => by
    obtain ⟨l, hl, hq⟩ := pick_list n fun i hi => h i (Nat.lt_succ_of_lt hi)
    obtain ⟨a, ha⟩ := h n (Nat.lt_succ_self n)
    refine ⟨l ++ [a], by simp [hl], fun i b hb => ?_⟩
    by_cases hi : i < n
    · rw [List.getElem?_append_left (by omega)] at hb; exact hq i b hb
    · have hlt := (List.getElem?_eq_some_iff.1 hb).1
      have : i = n := by simp [hl] at hlt; omega
      subst this
      rw [List.getElem?_append_right (by omega), hl] at hb
      simp at hb; subst hb; exact ha
theorem bulk_mem {H : Type} {bk : DataW H → Nat} {bks : List (DataW H) → Nat} (B : Bulk bk bks) {d : DataW H} : ∀ {l : List (DataW H)}, d ∈ l → bk d ≤ bks l
  | [], h => by simp at h
  | x :: l, h => by
    rw [B.cons]
    rcases List.mem_cons.1 h with rfl | h
    · omega
    · have := bulk_mem B h; omega
theorem bulk_len {H : Type} {bk : DataW H → Nat} {bks : List (DataW H) → Nat} (B : Bulk bk bks) : ∀ (l : List (DataW H)), l.length ≤ bks l
  | [] => by simp
  | x :: l => by
    rw [B.cons]
    have h1 := B.one x
    have h2 := bulk_len B l
    simp; omega
theorem bulk_sum {H τ : Type} {bk : DataW H → Nat} {bks : List (DataW H) → Nat} (B : Bulk bk bks) {f : τ → Nat} : ∀ (l : List τ) (ds : List (DataW H)), l.length = ds.length → (∀ (i : Nat) a d, l[i]? = some a → ds[i]? = some d → f a ≤ bk d) → (l.map f).sum ≤ bks ds
  | [], [], _, _ => by simp
  | [], _ :: _, h, _ => by simp at h
  | _ :: _, [], h, _ => by simp at h
  | a :: l, d :: ds, h, hq => by
    rw [B.cons]
    have h1 := hq 0 a d (by simp) (by simp)
    have h2 := bulk_sum B l ds (by simpa using h) fun i a' d' ha hd => hq (i + 1) a' d' (by simpa using ha) (by simpa using hd)
    simp only [List.map_cons, List.sum_cons]
    omega
theorem opens_sl {τ : Type} {t e : TypeId} {st : Nat} {T : Ty τ} (ht : P.underlying t = some (.slice e)) (hst : P.cellsOf e = st) (hpos : 0 < st) (hok : ∀ a, RowOk st (T.e a)) (h : Opens P e T) : Opens P t (tSl st T) := by
  intro H enc w sp held fuel cs x bk bks B hx hl
  rcases DataW.trod_slice ht hx with ⟨rfl, rfl⟩ | ⟨a, len, cap, elems, rest, n, _, rfl, rfl, _, hcap, _, hlen, hel, _⟩
  · exact ⟨[], LR.one (.sl0 st none 0), fun _ h => absurd h (List.not_mem_nil), by simpa [tSl] using B.one _⟩
  · rw [hst] at hel
    have hb := B.sl (elems.map (·.1)) (rest.map (·.1))
    have hlenb : len ≤ LIM := by
      have := bulk_len B (elems.map (·.1))
      simp only [List.length_map] at this
      simp only at hl
      omega
    have key : ∀ i, i < len → ∃ a1 : τ, ∃ cs1 y, w.cells? 0 (a.add (i * st)) st = some cs1 ∧ elems[i]? = some y ∧ LR w (T.e a1) cs1 ∧ T.good a1 ∧ T.bulk a1 ≤ bk y.1 := by
      intro i hi
      have hE := hel i hi
      have hi' : i < elems.length := by omega
      rw [List.getElem?_eq_getElem hi', Option.bind_eq_some_iff] at hE
      obtain ⟨cs1, hc1, hy1⟩ := hE
      have hbi : bk (elems[i]).1 ≤ bks (elems.map (·.1)) := bulk_mem B (List.mem_map.2 ⟨_, List.getElem_mem hi', rfl⟩)
      obtain ⟨a1, h1, h2, h3⟩ := h enc w sp held n cs1 _ bk bks B hy1 (by simp only at hl; omega)
      exact ⟨a1, cs1, _, hc1, List.getElem?_eq_getElem hi', h1, h2, h3⟩
    obtain ⟨l, hll, hq⟩ := pick_list len key
    refine ⟨l, LR.one ?_, fun a1 hm => ?_, ?_⟩
    · by_cases h0 : len = 0
      · subst h0
        have : l = [] := List.length_eq_zero_iff.1 hll
        subst this
        exact .sl0 st (some a) cap
      · have hsp : a.spot = none := by
          obtain ⟨a1, cs1, y, hc1, _⟩ := key 0 (by omega)
          obtain ⟨_, hcl, hc⟩ := World.cells?_some hc1
          have h00 := hc 0 hpos
          simp only [Nat.zero_mul, Addr.add, if_true] at h00
          rw [List.getElem?_eq_getElem (by omega)] at h00
          unfold World.cell? at h00
          split at h00
          · split at h00
            · cases h00
            · rename_i hh; simpa using hh
          · cases h00
        have hlt : a.block < w.heap.size := by
          obtain ⟨a1, cs1, y, hc1, _⟩ := key 0 (by omega)
          have := World.cells?_block hc1 hpos
          simpa [Addr.add] using this
        have hadd : ∀ i j, (a.add (i * st)).add j = ⟨a.block, a.off + i * st + j, none⟩ := by
          intro i j
          obtain ⟨b, off, s⟩ := a
          simp only at hsp
          subst hsp
          unfold Addr.add
          split <;> split <;> simp_all
        have hcell : ∀ i j, i < l.length → j < st → ∃ a1 v, l[i]? = some a1 ∧ w.cell? ⟨a.block, a.off + i * st + j, none⟩ = some v ∧ Rv w mu0 M0 ((T.e a1).getD j .und) v := by
          intro i j hi hj
          obtain ⟨cs1, y, hc1, _, h1, _, _⟩ := hq i _ (List.getElem?_eq_getElem hi)
          obtain ⟨_, hcl, hc⟩ := World.cells?_some hc1
          have := hc j hj
          rw [hadd, List.getElem?_eq_getElem (by omega)] at this
          refine ⟨_, _, List.getElem?_eq_getElem hi, this, ?_⟩
          have hr := h1.2 j (by rw [h1.1]; omega)
          rwa [List.getD_eq_getElem?_getD, List.getD_eq_getElem?_getD, List.getElem?_eq_getElem (l := cs1) (by omega), Option.getD_some, ← List.getD_eq_getElem?_getD] at hr
        have := Rv.sl (w := w) (mu := mu0) (M := M0) st (l.map T.e) a.block a.off cap (fun i j => (w.cell? ⟨a.block, a.off + i * st + j, none⟩).getD undef) (by simpa [hll] using hcap) (by simpa [hll] using hlenb)
          (fun i j hi hj => by
            obtain ⟨_, v, _, hv, _⟩ := hcell i j (by simpa using hi) hj
            rw [hv]; rfl)
          (fun i j hi hj => by
            obtain ⟨a1, v, ha1, hv, hr⟩ := hcell i j (by simpa using hi) hj
            rw [hv]
            simp only [cell, List.getD_eq_getElem?_getD, List.getElem?_map, ha1, Option.map_some, Option.getD_some] at hr ⊢
            exact hr)
          (fun r hr => by obtain ⟨a1, _, rfl⟩ := List.mem_map.1 hr; exact hok a1) (fun h => h) hlt
        rw [show (l.map T.e).length = len by simp [hll]] at this
        have e : a = ⟨a.block, a.off, none⟩ := by cases a; simp only at hsp; subst hsp; rfl
        rw [e]
        exact this
    · obtain ⟨i, hi, rfl⟩ := List.mem_iff_getElem.1 hm
      obtain ⟨_, _, _, _, _, hg, _⟩ := hq i _ (List.getElem?_eq_getElem hi)
      exact hg
    · have := bulk_sum B (f := T.bulk) l (elems.map (·.1)) (by simp [hll, hlen]) fun i a1 d ha hd => by
        obtain ⟨cs1, y, _, hy, _, _, hb1⟩ := hq i a1 ha
        rw [List.getElem?_map, hy] at hd
        simp only [Option.map_some, Option.some.injEq] at hd
        subst hd
        exact hb1
      show (l.map T.bulk).sum + 1 ≤ _
      simp only
      omega

def FOpens {τ : Type} (P : Program) [GW P] (off : Nat) (fs : List Field) (T : Ty τ) (tot : Nat) : Prop :=
  ∀ {H : Type} (enc : TypeId × Value → H) (w : World) (sp : Nat → Bool) (held : Bool) (n : Nat) (cs : List Value) (xs : List (DataW H × List MemPlace)) (bk : DataW H → Nat) (bks : List (DataW H) → Nat), Bulk bk bks →
    xs.length = fs.length → (∀ (i : Nat) (f : Field), fs[i]? = some f → DataW.trod enc P w 0 sp held n f.type ((cs.drop f.offset).take (P.cellsOf f.type)) = xs[i]?) → cs.length = tot → bks (xs.map (·.1)) ≤ LIM →
    ∃ a : τ, LR w (T.e a) (cs.drop off) ∧ T.good a ∧ T.bulk a ≤ bks (xs.map (·.1))
theorem fo_nil {off tot : Nat} (h : off = tot) : FOpens P off [] tUnit tot := by
  intro H enc w sp held n cs xs bk bks B hl hx hc hb
  subst h
  refine ⟨(), ?_, trivial, Nat.zero_le _⟩
  rw [List.drop_of_length_le (by omega)]
  exact LR.nil
theorem fo_cons {τ σ : Type} {off tot c : Nat} {f : Field} {fs : List Field} {T : Ty τ} {S : Ty σ} {t : TypeId} (hf : f.offset = off) (ht : f.type = t) (hc : P.cellsOf t = c) (hle : Nat.ble (off + c) tot = true) (h : Opens P t T) (k : FOpens P (off + c) fs S tot) :
    FOpens P off (f :: fs) (tPair T S) tot := by
  intro H enc w sp held n cs xs bk bks B hl hx hcs hb
  subst ht
  cases xs with
  | nil => simp at hl
  | cons x xs =>
    have hle : off + c ≤ tot := by simpa using hle
    have h0 := hx 0 f rfl
    rw [hf, hc] at h0
    simp only [List.map_cons, B.cons] at hb
    obtain ⟨a, h1, h2, h3⟩ := h enc w sp held n _ x bk bks B h0 (by omega)
    obtain ⟨b, k1, k2, k3⟩ := k enc w sp held n cs xs bk bks B (by simpa using hl) (fun i g hg => by simpa using hx (i + 1) g (by simpa using hg)) hcs (by omega)
    refine ⟨(a, b), ?_, ⟨h2, k2⟩, by simp only [List.map_cons, B.cons, tPair]; omega⟩
    have e : cs.drop off = (cs.drop off).take c ++ cs.drop (off + c) := by
      rw [← List.drop_drop, List.take_append_drop]
    rw [e]
    exact LR.append h1 k1
theorem opens_st {τ σ : Type} {t : TypeId} {fs : Array Field} {T : Ty τ} {tot : Nat} {S : Ty σ} (ht : P.underlying t = some (.struct fs)) (hc : P.cellsOf t = tot) (k : FOpens P 0 fs.toList T tot) (mk : τ → σ)
    (he : ∀ p, S.e (mk p) = T.e p) (hg : ∀ p, T.good p → S.good (mk p)) (hb : ∀ p, S.bulk (mk p) ≤ T.bulk p + 1) : Opens P t S := by
  intro H enc w sp held fuel cs x bk bks B h hl
  obtain ⟨xs, n, rfl, rfl, h1, h2, h3⟩ := DataW.trod_struct ht h
  simp only [B.agg] at hl
  obtain ⟨a, k1, k2, k3⟩ := k enc w sp held n cs xs bk bks B (by simpa using h2) (fun i f hf => h3 i f (by simpa using hf)) (by omega) (by omega)
  refine ⟨mk a, ?_, hg _ k2, ?_⟩
  · rw [he]; simpa using k1
  · have := hb a; simp only [B.agg]; omega
end

/-! ### A law that answers true -/
theorem Grew {w w' : World} {mu' : Mu} {M' : Nat → Prop} (h : Ext w mu0 M0 w' mu' M') : w.keptBut w' (fun _ => False) ∧ (∀ b, b < w.heap.size → w'.heap[b]? = w.heap[b]?) := by
  refine ⟨⟨h.os, h.output, fun i hi => ?_⟩, fun b hb => (h.same b hb (fun h => h)).1⟩
  rw [(h.same i hi (fun h => h)).1]
  cases w.heap[i]? with
  | none => trivial
  | some o => cases o <;> simp
theorem sim0 {P : Program} [GW P] (w : World) (hg : GW.n P ≤ w.heap.size ∧ GW.G P w) : Sim (P := P) ⟨w.heap.size, w.heap.size⟩ mu0 (fun _ => none) w :=
  ⟨Nat.le_refl _, fun _ _ _ h => (by cases h), ⟨0, fun _ _ _ => rfl⟩, ⟨0, fun _ _ => rfl⟩, fun _ _ _ _ h => (by cases h), fun _ _ _ h => (by cases h), fun _ _ _ _ _ _ h => (by cases h), hg, fun _ _ _ h => (by cases h)⟩
theorem law_calls {P : Program} [GW P] {f : FuncId} {A : List AV} {m : R Bool} {args : Array Value} {w : World} (hc : CP P f A m (fun b => AV.bool b)) (hg : GW.n P ≤ w.heap.size ∧ GW.G P w) (hm : m = .ok true) (ha : LR w A args.toList) :
    Calls P f args w fun e w' => e = .returned (.bool true) ∧ w.keptBut w' (fun _ => False) ∧ (∀ b, b < w.heap.size → w'.heap[b]? = w.heap[b]?) := by
  subst hm
  have h := (hc (fun _ => none) (by simp)).2 ⟨w.heap.size, w.heap.size⟩ mu0 w args (sim0 w hg) ⟨ha.1, fun i hi => (ha.2 i hi).less (fun b hb => by obtain ⟨_, _, _, h, _⟩ := hb; cases h)⟩
  refine h.mono fun e w' ⟨r, h', mu', a1, a2, a3, a4⟩ => ?_
  obtain ⟨_, hr⟩ := a1
  simp only at hr
  subst hr
  refine ⟨?_, Grew (mu' := mu') (M' := Mut h' mu') ⟨a3.os, a3.tape, a3.output, a3.size, fun b hb _ => a3.same b hb (fun hm => by obtain ⟨_, _, _, h, _⟩ := hm; cases h), a3.mu⟩⟩
  cases e with
  | returned v =>
    have a4' : Rv w' mu' (Mut h' mu') (.bool true) v := a4
    cases a4'
    rfl
  | panicked v => exact a4.elim
  | outgrown => exact a4.elim
theorem rv_agg {w : World} {l : List AV} {c : Array Value} (h : LR w l (Value.agg c).cells.toList) : Rv w mu0 M0 (.agg l) (.agg c) := by
  have h' : LR w l c.toList := h
  have := Rv.agg (w := w) (mu := mu0) (M := M0) l c.toList h'.1 h'.2
  simpa using this
theorem okWide_cell {P : Program} [GW P] {W : World} {r : Reach} {b : Nat} {t : TypeId} {v : Value} {d : TypeDesc} (ht : P.underlying t = some d) (h1 : ∀ fs, d ≠ .struct fs) (h2 : ∀ n e, d ≠ .array n e) (h : Value.okWide P W r b t v) : ∀ cs, v ≠ .agg cs := by
  intro cs e
  subst e
  unfold Value.okWide at h
  rw [ht] at h
  split at h
  · rename_i fs he; exact h1 fs (Option.some.inj he)
  · rename_i n x he; exact h2 n x (Option.some.inj he)
  · unfold Cell.okWide at h
    revert h
    cases d <;> simp_all [Cell.ok]
theorem rv_cell {w : World} {a : AV} {v : Value} (h : LR w [a] v.cells.toList) (hv : ∀ cs, v ≠ .agg cs) : Rv w mu0 M0 a v := by
  have e : v.cells = #[v] := by cases v <;> first | rfl | exact absurd rfl (hv _)
  rw [e] at h
  exact h.2 0 (by simp)

theorem args_stay {H : Type} {enc : TypeId × Value → H} {P : Program} [GW P] (hl : laidOutB P = true) {W W' : World} {sp' : Nat → Bool} : ∀ {ts : List TypeId} {vs : List Value} {ds : List (DataW H)} {ps : List MemPlace},
    (∀ t ∈ ts, P.readableRec t = true ∧ t < P.types.size) → DataW.TrodAll enc P W 0 (fun _ => true) true ts vs ds ps → (∀ p ∈ ps, W.sameAt W' p) → (∀ p ∈ ps, sp' p.block = true) → DataW.TrodAll enc P W' 0 sp' true ts vs ds ps
  | [], [], [], _, _, h, _, _ => h
  | [], _ :: _, _, _, _, h, _, _ => h.elim
  | [], [], _ :: _, _, _, h, _, _ => h.elim
  | _ :: _, [], _, _, _, h, _, _ => h.elim
  | _ :: _, _ :: _, [], _, _, h, _, _ => h.elim
  | t :: ts, v :: vs, d :: ds, ps, hr, h, hs, hp => by
    obtain ⟨p, q, h1, h2, rfl⟩ := h
    refine ⟨p, q, ?_, args_stay hl (fun t ht => hr t (List.mem_cons_of_mem _ ht)) h2 (fun x hx => hs x (List.mem_append_right _ hx)) (fun x hx => hp x (List.mem_append_right _ hx)), rfl⟩
    obtain ⟨a, b⟩ := hr t (List.mem_cons_self ..)
    exact Go.WideElems.Trod_stays hl a b h1 (fun x hx => hs x (List.mem_append_left _ hx)) (fun x hx => hp x (List.mem_append_left _ hx))

/-- The law's row, from the call. -/
theorem law_post {H : Type} {enc : TypeId × Value → H} {P : Program} [GW P] {f : FuncId} {fn : Func} {s : ChangeSpec} {W : World} {args : Array Value} {ds gs : List (DataW H)} {before : List MemPlace} {tb : TypeId}
    (hW : DataW.Whole enc P fn.params.toList s.vars false W args.toList ds gs before)
    (hl : laidOutB P = true) (hr : ∀ t ∈ fn.params.toList, P.readableRec t = true ∧ t < P.types.size) (hvs : s.vars = []) (hrt : fn.resultTypes = #[tb]) (htb : P.underlying tb = some .bool)
    (hsp : ∀ ds : List (DataW H), ds.length = fn.params.size → s.fn H ds = { results := [.lit (.bool true)], args := ds })
    (hc : Calls P f args W fun e w' => e = .returned (.bool true) ∧ W.keptBut w' (fun _ => False) ∧ (∀ b, b < W.heap.size → w'.heap[b]? = W.heap[b]?)) :
    Calls P f args W fun e W' => ∃ v, e = .returned v ∧ s.post enc P fn false true false false W args v W' := by
  refine hc.mono fun e W' ⟨he, hk, hs⟩ => ?_
  subst he
  refine ⟨_, rfl, ?_⟩
  have hold : ∀ p ∈ before, (fun b => decide (b < W.heap.size)) p.block = true := fun p hp => by simpa using hW.lt p hp
  obtain ⟨pa, pv, hA, hV, rfl, hz, hn⟩ := id hW
  rw [hvs] at hV
  cases gs with
  | cons g gs => exact hV.elim
  | nil =>
  have hV' : pv = [] := hV
  subst hV'
  have hlen : ds.length = fn.params.size := by
    have : ∀ {ts : List TypeId} {vs : List Value} {ds : List (DataW H)} {ps : List MemPlace}, DataW.TrodAll enc P W 0 (fun _ => true) true ts vs ds ps → ds.length = ts.length := by
      intro ts
      induction ts with
      | nil => intro vs ds ps h; cases vs <;> cases ds <;> first | rfl | exact h.elim
      | cons t ts ih =>
        intro vs ds ps h
        cases vs with
        | nil => exact h.elim
        | cons v vs =>
          cases ds with
          | nil => exact h.elim
          | cons d ds => obtain ⟨_, _, _, h2, _⟩ := h; simp [ih h2]
    simpa using this hA
  have hfn : s.fn H (ds ++ []) = { results := [.lit (.bool true)], args := ds } := by rw [List.append_nil]; exact hsp ds hlen
  have hsame : ∀ p ∈ pa ++ [], W.sameAt W' p := fun p hp => by
    have hb := hs p.block (hW.lt p hp)
    cases p with
    | cell b off => exact cell?_of_heap (a := ⟨b, off, none⟩) hb
    | map b => exact hb
  have hres : ∀ (b : Nat) (sp : Nat → Bool) (hd : Bool), DataW.TrodAll enc P W' b sp hd fn.resultTypes.toList ((Value.bool true).resultList fn.resultTypes.size) (s.fn H (ds ++ [])).results [] := by
    intro b sp hd
    rw [hfn, hrt]
    exact trodAll_cons_mk (shut_bool htb _) trodAll_mk0
  have hargs : ∀ sp : Nat → Bool, (∀ p ∈ pa ++ [], sp p.block = true) → DataW.TrodAll enc P W' 0 sp true fn.params.toList args.toList (s.fn H (ds ++ [])).args pa := by
    intro sp hsp'
    rw [hfn]
    exact args_stay hl hr hA (fun p hp => hsame p (by simpa using hp)) (fun p hp => hsp' p (by simpa using hp))
  have hvars : ∀ sp : Nat → Bool, (∀ p ∈ pa ++ [], sp p.block = true) → DataW.TrodVars enc P W' sp s.vars (s.fn H (ds ++ [])).vars [] := by
    intro sp _
    rw [hfn, hvs]
    rfl
  refine ⟨ds, [], pa ++ [], [], pa, [], hW, hres _ _ _, hargs _ hold, hvars _ hold, World.keptBut_mono (fun p hp => hp.elim) hk, fun _ => ?_⟩
  refine ⟨ok_one hrt rfl (okWide_bool_mk htb _), _, _, ([] ++ pa) ++ [], ⟨[] ++ pa, [], trodAll_append (hargs _ (fun _ _ => rfl)) (hres _ _ _), hvars _ (fun _ _ => rfl), rfl, ?_, ?_⟩, ?_⟩
  · intro b off hp
    have hb := hs b (hW.lt (.cell b off) (by simpa using hp))
    have := hz b off (by simpa using hp)
    unfold World.frozen? at this ⊢
    rw [hb]; exact this
  · intro ha; cases ha
  · intro p hp _
    simpa using hp
end Go.Am
