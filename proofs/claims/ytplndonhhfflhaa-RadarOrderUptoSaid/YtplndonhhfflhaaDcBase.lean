/- Models of functions: results, loops; frames and heaps written out; the judgements that tie a model to the machine. -/
import Derived.Test.YtplndonhhfflhaaAmWf
namespace Go.Am
open Go
set_option linter.unusedSimpArgs false
set_option linter.unusedVariables false
set_option linter.unusedSectionVars false

/-- What a panic carries. -/
inductive Sc where
  | int (k : IntKind) (n : Int)
  | str (s : List UInt8)
  | bool (b : Bool)
  | unit
  /-- a struct of two integers -/
  | two (k1 k2 : IntKind) (a b : Int)
  deriving DecidableEq
def Sc.av : Sc → AV
  | .int k n => .int k n
  | .str s => .str s
  | .bool b => .bool b
  | .unit => .agg []
  | .two k1 k2 a b => .agg [.int k1 a, .int k2 b]
structure PV where
  t : TypeId
  x : Sc
  deriving DecidableEq
def PV.av (v : PV) : AV := .iface v.t v.x.av
/-- What a call does: it answers, it panics; or nothing is said of it. -/
inductive R (α : Type) where
  | ok (a : α)
  | pan (v : PV)
  | bad
  deriving DecidableEq
namespace R
def bind {α β : Type} : R α → (α → R β) → R β
  | ok a, f => f a
  | pan v, _ => pan v
  | bad, _ => bad
@[simp] theorem ok_bind {α β : Type} (a : α) (f : α → R β) : (ok a).bind f = f a := rfl
@[simp] theorem pan_bind {α β : Type} (v : PV) (f : α → R β) : (pan v : R α).bind f = pan v := rfl
@[simp] theorem bad_bind {α β : Type} (f : α → R β) : (bad : R α).bind f = bad := rfl
theorem bind_assoc {α β γ : Type} (m : R α) (f : α → R β) (g : β → R γ) : (m.bind f).bind g = m.bind fun a => (f a).bind g := by cases m <;> rfl
@[simp] theorem bind_ok {α : Type} (m : R α) : m.bind ok = m := by cases m <;> rfl
/-- What panics is handled. -/
def catch' {α : Type} : R α → (PV → R α) → R α
  | ok a, _ => ok a
  | pan v, f => f v
  | bad, _ => bad
@[simp] theorem ok_catch {α : Type} (a : α) (f : PV → R α) : (ok a).catch' f = ok a := rfl
@[simp] theorem pan_catch {α : Type} (v : PV) (f : PV → R α) : (pan v).catch' f = f v := rfl
@[simp] theorem bad_catch {α : Type} (f : PV → R α) : (bad : R α).catch' f = bad := rfl
end R

section
variable {σ ε : Type}
/-- So many rounds at the most. -/
def iter (body : σ → R (σ ⊕ ε)) : Nat → σ → R ε
  | 0, _ => .bad
  | n + 1, s => (body s).bind fun
    | .inl s' => iter body n s'
    | .inr e => .ok e
theorem iter_mono (body : σ → R (σ ⊕ ε)) : ∀ (n : Nat) (s : σ), iter body n s ≠ .bad → iter body (n + 1) s = iter body n s
  | 0, s, h => absurd rfl h
  | n + 1, s, h => by
    rw [iter]
    rw [iter] at h ⊢
    cases hb : body s with
    | bad => rfl
    | pan v => rfl
    | ok x =>
      rw [hb] at h
      cases x with
      | inr e => rfl
      | inl s' => exact iter_mono body n s' h
theorem iter_le (body : σ → R (σ ⊕ ε)) {n m : Nat} {s : σ} (hnm : n ≤ m) (h : iter body n s ≠ .bad) : iter body m s = iter body n s := by
  induction m with
  | zero => have : n = 0 := by omega
            subst this; rfl
  | succ m ih =>
    by_cases hq : n = m + 1
    · subst hq; rfl
    · have e := ih (by omega)
      rw [iter_mono body m s (by rw [e]; exact h), e]
open Classical in
/-- A loop: what it answers after so many rounds as it takes. -/
noncomputable def loop (body : σ → R (σ ⊕ ε)) (s : σ) : R ε := if h : ∃ n, iter body n s ≠ .bad then iter body (Classical.choose h) s else .bad
theorem loop_iter {body : σ → R (σ ⊕ ε)} {n : Nat} {s : σ} (h : iter body n s ≠ .bad) : loop body s = iter body n s := by
  have hex : ∃ n, iter body n s ≠ .bad := ⟨n, h⟩
  unfold loop
  rw [dif_pos hex]
  have hc := Classical.choose_spec hex
  rcases Nat.le_total n (Classical.choose hex) with hle | hle
  · exact iter_le body hle h
  · exact (iter_le body hle hc).symm
theorem loop_bad {body : σ → R (σ ⊕ ε)} {s : σ} (h : loop body s ≠ .bad) : ∃ n, loop body s = iter body n s := by
  by_cases hex : ∃ n, iter body n s ≠ .bad
  · obtain ⟨n, hn⟩ := hex; exact ⟨n, loop_iter hn⟩
  · exfalso; apply h; unfold loop; rw [dif_neg hex]
theorem loop_eq (body : σ → R (σ ⊕ ε)) (s : σ) : loop body s = (body s).bind fun
    | .inl s' => loop body s'
    | .inr e => .ok e := by
  cases hb : body s with
  | pan v =>
    have : iter body 1 s = .pan v := by rw [iter, hb]; rfl
    rw [loop_iter (n := 1) (by rw [this]; simp), this]; rfl
  | bad =>
    by_cases h : loop body s = .bad
    · rw [h]; rfl
    · obtain ⟨n, hn⟩ := loop_bad h
      cases n with
      | zero => rw [hn] at h; exact absurd rfl h
      | succ n => rw [hn, iter, hb]; rfl
  | ok x =>
    cases x with
    | inr e =>
      have : iter body 1 s = .ok e := by rw [iter, hb]; rfl
      rw [loop_iter (n := 1) (by rw [this]; simp), this]; rfl
    | inl s' =>
      simp only [R.ok_bind]
      by_cases h' : loop body s' = .bad
      · rw [h']
        by_cases h : loop body s = .bad
        · exact h
        · exfalso
          obtain ⟨n, hn⟩ := loop_bad h
          cases n with
          | zero => rw [hn] at h; exact absurd rfl h
          | succ n =>
            have e : iter body (n + 1) s = iter body n s' := by rw [iter, hb]; rfl
            rw [hn, e] at h
            rw [loop_iter h] at h'
            exact h h'
      · obtain ⟨n, hn⟩ := loop_bad h'
        have e : iter body (n + 1) s = iter body n s' := by rw [iter, hb]; rfl
        rw [hn] at h'
        rw [hn, ← e, loop_iter (n := n + 1) (by rw [e]; exact h')]
end

section
variable {α σ ε : Type}
/-- A loop over a list; it may be left early. -/
def each (body : Nat → α → σ → R (σ ⊕ ε)) : Nat → List α → σ → R (σ ⊕ ε)
  | _, [], s => .ok (.inl s)
  | k, a :: l, s => (body k a s).bind fun
    | .inl s' => each body (k + 1) l s'
    | .inr e => .ok (.inr e)
@[simp] theorem each_nil (body : Nat → α → σ → R (σ ⊕ ε)) (k : Nat) (s : σ) : each body k [] s = .ok (.inl s) := rfl
theorem each_cons (body : Nat → α → σ → R (σ ⊕ ε)) (k : Nat) (a : α) (l : List α) (s : σ) : each body k (a :: l) s = (body k a s).bind fun
    | .inl s' => each body (k + 1) l s'
    | .inr e => .ok (.inr e) := rfl
end
def idx {α : Type} (l : List α) (n : Int) : R α := if 0 ≤ n then (match l[n.toNat]? with | some a => .ok a | none => .bad) else .bad

/-! ### Frames -/
def frA : List (Nat × AV) → Nat → AV
  | [], _ => .any
  | p :: l, t => bif Nat.beq t p.1 then p.2 else frA l t
theorem putD_frA (l : List (Nat × AV)) (t : Nat) (v : AV) : putD (frA l) (some t) v = frA ((t, v) :: l) := by
  funext s
  simp only [putD, upd, frA]
  by_cases h : s = t
  · subst h; simp
  · have : Nat.beq s t = false := by
      cases hq : Nat.beq s t with
      | false => rfl
      | true => exact absurd (Nat.eq_of_beq_eq_true hq) h
    rw [if_neg h, this]; rfl

/-! ### Heaps -/
def hp (h0 : AHeap) : List Nat → List (Option AO) → AHeap
  | o :: os, x :: xs => upd (hp h0 os xs) o x
  | _, _ => h0
structure Ids (h0 : AHeap) (ids : List Nat) (n : Nat) : Prop where
  nodup : ids.Nodup
  fresh : ∀ o ∈ ids, h0 o = none
  len : ids.length = n
abbrev ix (ids : List Nat) (j : Nat) : Nat := ids.getD j 0

section
variable {h0 : AHeap} {n : Nat}
theorem hp_out : ∀ {ids : List Nat} {xs : List (Option AO)} {o : Nat}, o ∉ ids → hp h0 ids xs o = h0 o
  | [], _, o, _ => by cases ‹List (Option AO)› <;> rfl
  | a :: ids, [], o, _ => rfl
  | a :: ids, x :: xs, o, h => by
    simp only [List.mem_cons, not_or] at h
    simp only [hp]
    rw [upd_ne _ _ _ h.1]
    exact hp_out h.2
theorem hp_at : ∀ {ids : List Nat} {xs : List (Option AO)} {j : Nat} {x : Option AO}, ids.Nodup → ids.length = xs.length → xs[j]? = some x → hp h0 ids xs (ix ids j) = x
  | [], [], j, x, _, _, h => by simp at h
  | a :: ids, y :: xs, 0, x, _, _, h => by
    have : y = x := by simpa using h
    subst this
    simp [hp, ix, upd_same]
  | a :: ids, y :: xs, j + 1, x, hn, hl, h => by
    have hn' := List.nodup_cons.1 hn
    have hl' : ids.length = xs.length := by simpa using hl
    have h' : xs[j]? = some x := by simpa using h
    have hj : j < ids.length := by
      rw [hl']
      rcases Nat.lt_or_ge j xs.length with hh | hh
      · exact hh
      · rw [List.getElem?_eq_none hh] at h'; cases h'
    have hm : ix ids j ∈ ids := by
      simp only [ix, List.getD, List.getElem?_eq_getElem hj, Option.getD_some]
      exact List.getElem_mem hj
    have e : ix (a :: ids) (j + 1) = ix ids j := by simp [ix]
    rw [e]
    simp only [hp]
    have hne : ix ids j ≠ a := fun q => hn'.1 (by rw [← q]; exact hm)
    rw [upd_ne _ _ _ hne]
    exact hp_at hn'.2 hl' h'
theorem hp_set : ∀ {ids : List Nat} {xs : List (Option AO)} {j : Nat} {x : Option AO}, ids.Nodup → ids.length = xs.length → j < xs.length → upd (hp h0 ids xs) (ix ids j) x = hp h0 ids (xs.set j x)
  | [], [], j, x, _, _, h => by simp at h
  | a :: ids, y :: xs, 0, x, _, _, h => by
    simp only [hp, ix, List.getD_cons_zero, List.set_cons_zero, upd_upd]
  | a :: ids, y :: xs, j + 1, x, hn, hl, h => by
    have hn' := List.nodup_cons.1 hn
    have hl' : ids.length = xs.length := by simpa using hl
    have h' : j < xs.length := by simpa using h
    have hm : ix ids j ∈ ids := by
      simp only [ix, List.getD, List.getElem?_eq_getElem (hl' ▸ h' : j < ids.length), Option.getD_some]
      exact List.getElem_mem _
    have e : ix (a :: ids) (j + 1) = ix ids j := by simp [ix]
    rw [e]
    simp only [hp, List.set_cons_succ]
    have hne : a ≠ ix ids j := fun q => hn'.1 (by rw [q]; exact hm)
    rw [upd_comm _ _ _ hne, hp_set hn'.2 hl' h']
theorem Ids.at {ids : List Nat} (hI : Ids h0 ids n) {xs : List (Option AO)} {j : Nat} {x : Option AO} (hl : xs.length = n) (hx : xs[j]? = some x) : hp h0 ids xs (ix ids j) = x := hp_at hI.nodup (hI.len.trans hl.symm) hx
theorem Ids.set {ids : List Nat} (hI : Ids h0 ids n) {xs : List (Option AO)} {j : Nat} {x : Option AO} (hl : xs.length = n) (hj : Nat.blt j n = true) : upd (hp h0 ids xs) (ix ids j) x = hp h0 ids (xs.set j x) :=
  hp_set hI.nodup (hI.len.trans hl.symm) (by rw [hl]; simpa using hj)
theorem Ids.sub {ids : List Nat} (hI : Ids h0 ids n) (xs : List (Option AO)) : Sub h0 (hp h0 ids xs) := by
  intro o x hx
  have : o ∉ ids := fun hm => by rw [hI.fresh o hm] at hx; cases hx
  rw [hp_out this]; exact hx
theorem Ids.out {ids : List Nat} (hI : Ids h0 ids n) {j : Nat} (hj : Nat.blt j n = true) : h0 (ix ids j) = none := by
  have hj' : j < ids.length := by rw [hI.len]; simpa using hj
  refine hI.fresh _ ?_
  simp only [ix, List.getD, List.getElem?_eq_getElem hj', Option.getD_some]
  exact List.getElem_mem _
theorem hp_nones : ∀ {ids : List Nat} {k : Nat}, (∀ o ∈ ids, h0 o = none) → hp h0 ids (List.replicate k none) = h0
  | [], k, _ => by cases k <;> rfl
  | a :: ids, 0, _ => rfl
  | a :: ids, k + 1, h => by
    simp only [List.replicate_succ, hp]
    rw [hp_nones (fun o ho => h o (List.mem_cons_of_mem _ ho))]
    funext o
    unfold upd
    split
    · rename_i hq; subst hq; exact (h _ (List.mem_cons_self ..)).symm
    · rfl
end
theorem hp_append {h0 : AHeap} : ∀ {a b : List Nat} {xs ys : List (Option AO)}, a.length = xs.length → hp h0 (a ++ b) (xs ++ ys) = hp (hp h0 b ys) a xs
  | [], b, [], ys, _ => by cases b <;> cases ys <;> rfl
  | o :: a, b, x :: xs, ys, h => by
    simp only [List.cons_append, hp]
    rw [hp_append (by simpa using h)]
/-- Fewer objects. -/
theorem hp_sub {h0 : AHeap} : ∀ {ids : List Nat} {xs ys : List (Option AO)}, ids.length = xs.length → ids.length = ys.length → ids.Nodup → (∀ o ∈ ids, h0 o = none) → (∀ j : Nat, ys[j]? = xs[j]? ∨ ys[j]? = some none) → Sub (hp h0 ids ys) (hp h0 ids xs)
  | [], [], [], _, _, _, _, _ => Sub.refl _
  | a :: ids, x :: xs, y :: ys, h1, h2, hn, hf, h => by
    have ih := hp_sub (h0 := h0) (ids := ids) (xs := xs) (ys := ys) (by simpa using h1) (by simpa using h2) (List.nodup_cons.1 hn).2 (fun o ho => hf o (List.mem_cons_of_mem _ ho)) (fun j => by simpa using h (j + 1))
    intro o z hz
    simp only [hp] at hz ⊢
    unfold upd at hz ⊢
    split
    · rename_i hq
      rw [if_pos hq] at hz
      rcases h 0 with h' | h' <;> simp at h'
      · rw [← h']; exact hz
      · subst h'; cases hz
    · rename_i hq
      rw [if_neg hq] at hz
      exact ih o z hz

section
variable {P : Program} [GW P] {f : FuncId} {n : Nat} {d : FK} {fr : Nat → AV} {ds : List AD} {h : AHeap} {u : AU} {Q : QT} {k : List Item}
/-- Names for what will be made. -/
theorem run_ids {todo : List Item} (c : Nat) (avoid : List Nat) (hr : ∀ os : List Nat, os.length = c → os.Nodup → (∀ o ∈ os, h o = none) → (∀ o ∈ os, o ∉ avoid) → Run P f n d todo fr ds h u Q) : Run P f n d todo fr ds h u Q := by
  intro B mu w a cs p
  obtain ⟨N, hN⟩ := p.sim.finh
  have key : ∃ M, N ≤ M ∧ ∀ o ∈ avoid, o < M := by
    clear hr
    induction avoid with
    | nil => exact ⟨N, Nat.le_refl _, fun o ho => by cases ho⟩
    | cons a l ih =>
      obtain ⟨M, h1, h2⟩ := ih
      exact ⟨max M (a + 1), by omega, fun o ho => by
        rcases List.mem_cons.1 ho with rfl | ho
        · omega
        · have := h2 o ho; omega⟩
  obtain ⟨M, h1, h2⟩ := key
  exact hr ((List.range c).map (M + ·)) (by simp) (by
    refine List.Pairwise.map _ (fun a b hab => ?_) List.nodup_range
    simpa using hab) (fun o ho => by
      obtain ⟨i, _, rfl⟩ := List.mem_map.1 ho
      exact hN _ (by omega)) (fun o ho hm => by
      obtain ⟨i, _, rfl⟩ := List.mem_map.1 ho
      have := h2 _ hm
      omega) B mu w a cs p
end
/-! ### The cells of values -/
abbrev Str := List UInt8
def rI (k : IntKind) (n : Int) : List AV := [.int k n]
def rB (b : Bool) : List AV := [.bool b]
def rS (s : Str) : List AV := [.str s]
def rL {α : Type} (st : Nat) (e : α → List AV) (l : List α) : List AV := [.sl st (l.map e)]
def rA {α : Type} (e : α → List AV) (l : List α) : List AV := l.flatMap e
theorem rowOk_of {n : Nat} {r : List AV} (h1 : r.length = n) (h2 : r.all AV.flat = true) : RowOk n r := ⟨h1, fun v hv => List.all_eq_true.1 h2 v hv⟩
theorem ok_I {k : IntKind} (n : Int) : RowOk 1 (rI k n) := rowOk_of rfl rfl
theorem ok_B (b : Bool) : RowOk 1 (rB b) := rowOk_of rfl rfl
theorem ok_S (s : Str) : RowOk 1 (rS s) := rowOk_of rfl rfl
theorem ok_L {α : Type} {st : Nat} {e : α → List AV} (l : List α) : RowOk 1 (rL st e l) := rowOk_of rfl rfl
theorem inc_ok {j n : Nat} (h : j < n) (hn : n ≤ LIM) : AV.int .i64 (IntKind.i64.wrap ((j : Int) + 1)) = .int .i64 ((j + 1 : Nat) : Int) := by rw [wrap_succ (by omega)]
theorem range_get {n j a : Nat} (h : (List.range n)[j]? = some a) : j < n ∧ a = j := by
  rcases Nat.lt_or_ge j n with hh | hh
  · simp [hh] at h; exact ⟨hh, h.symm⟩
  · rw [List.getElem?_eq_none (by simpa using hh)] at h; cases h
end Go.Am
