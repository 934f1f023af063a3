/- Plain laws of the models' own words: loops that fill a list, that look for something, that number names; maps. -/
import Derived.Test.YtplndonhhfflhaaAmArgs
namespace Go.Am
open Go
set_option linter.unusedVariables false
set_option linter.unusedSectionVars false
set_option linter.unusedSimpArgs false

theorem eachS_nil' {α σ : Type} (b : Nat → α → σ → R σ) (k : Nat) (s : σ) : eachS b k [] s = .ok s := rfl
theorem eachS_cons' {α σ : Type} (b : Nat → α → σ → R σ) (k : Nat) (a : α) (l : List α) (s : σ) : eachS b k (a :: l) s = (b k a s).bind fun s' => eachS b (k + 1) l s' := by
  rw [eachS]
theorem wrap64 {n : Int} (h1 : -9223372036854775808 ≤ n) (h2 : n ≤ 9223372036854775807) : IntKind.wrap .i64 n = n := by
  simp [IntKind.wrap, IntKind.bits, IntKind.signed]
  omega

/-! ### sizes -/
theorem tSl_len {τ : Type} {st : Nat} {T : Ty τ} (h : ∀ a, 1 ≤ T.bulk a) (l : List τ) : l.length + 1 ≤ (tSl st T).bulk l := by
  show l.length + 1 ≤ (l.map T.bulk).sum + 1
  induction l with
  | nil => simp
  | cons a l ih =>
    have := h a
    simp only [List.length_cons, List.map_cons, List.sum_cons] at ih ⊢
    omega
theorem tSl_mem {τ : Type} {st : Nat} {T : Ty τ} {l : List τ} {a : τ} (h : a ∈ l) : T.bulk a + 1 ≤ (tSl st T).bulk l := by
  show T.bulk a + 1 ≤ (l.map T.bulk).sum + 1
  induction l with
  | nil => cases h
  | cons b l ih =>
    simp only [List.map_cons, List.sum_cons]
    rcases List.mem_cons.1 h with rfl | h
    · omega
    · have := ih h; omega
theorem tStr_one (s : List UInt8) : 1 ≤ tStr.bulk s := Nat.le_add_left _ _
theorem tInt_one {k : IntKind} (n : Int) : 1 ≤ (tInt k).bulk n := Nat.le_refl _

/-! ### maps -/
section
variable {K V : Type} [DecidableEq K]
@[simp] theorem mget_nil (k : K) : mget ([] : List (K × V)) k = none := rfl
theorem mget_cons (p : K × V) (m : List (K × V)) (k : K) : mget (p :: m) k = if p.1 = k then some p.2 else mget m k := by
  unfold mget
  rw [List.find?_cons]
  by_cases h : p.1 = k
  · simp [h]
  · rw [if_neg h, show (p.1 == k) = false by simpa using h]
theorem mget_mput (m : List (K × V)) (k k' : K) (v : V) : mget (mput m k v) k' = if k = k' then some v else mget m k' := by
  induction m with
  | nil => rw [mput, mget_cons]
  | cons p m ih =>
    rw [mput]
    by_cases h : p.1 = k
    · rw [if_pos (by simpa using h), mget_cons, mget_cons]
      subst h
      by_cases h' : p.1 = k' <;> simp [h']
    · rw [if_neg (by simpa using h), mget_cons, mget_cons, ih]
      by_cases h' : p.1 = k'
      · subst h'
        rw [if_pos rfl, if_neg (fun e => h e.symm), if_pos rfl]
      · rw [if_neg h', if_neg h']
end

/-! ### lists that are filled -/
theorem eachS_app {α β : Type} {b : Nat → α → List β → R (List β)} {g : α → β} {c : Nat} (hb : ∀ j a s, b j a s = if (s.length + 1) * c ≤ LIM then .ok (s ++ [g a]) else .bad) :
    ∀ (l : List α) (k : Nat) (s : List β), (s.length + l.length) * c ≤ LIM → eachS b k l s = .ok (s ++ l.map g)
  | [], k, s, _ => by simp [eachS_nil']
  | a :: l, k, s, h => by
    have h1 : (s.length + 1) * c ≤ LIM := Nat.le_trans (Nat.mul_le_mul_right _ (by simp)) h
    rw [eachS_cons', hb, if_pos h1, R.ok_bind, eachS_app hb l (k + 1) (s ++ [g a]) (by simpa [Nat.add_assoc, Nat.add_comm 1] using h)]
    simp
/-- a loop whose rounds all answer -/
theorem eachS_some {α σ : Type} {b : Nat → α → σ → R σ} (hb : ∀ j a s, ∃ s', b j a s = .ok s') : ∀ (l : List α) (k : Nat) (s : σ), ∃ s', eachS b k l s = .ok s'
  | [], k, s => ⟨s, rfl⟩
  | a :: l, k, s => by
    obtain ⟨s', h⟩ := hb k a s
    rw [eachS_cons', h, R.ok_bind]
    exact eachS_some hb l (k + 1) s'

/-- what each element gives, in order; the first that panics ends it -/
def rmap {α β : Type} (F : α → R β) : List α → R (List β)
  | [] => .ok []
  | a :: l => (F a).bind fun b => (rmap F l).bind fun bs => .ok (b :: bs)
theorem rmap_ok {α β : Type} {F : α → R β} {G : α → β} {p : α → Bool} {v : PV} : ∀ (l : List α), (∀ a ∈ l, F a = if p a then .ok (G a) else .pan v) → rmap F l = if l.all p then .ok (l.map G) else .pan v
  | [], _ => by simp [rmap]
  | a :: l, h => by
    rw [rmap, h a (List.mem_cons_self ..), rmap_ok l (fun b hb => h b (List.mem_cons_of_mem _ hb))]
    cases hp : p a <;> cases hq : l.all p <;> simp [hp, hq]

/-- a loop that puts each element's answer behind the list -/
theorem eachS_appR {α β : Type} {b : Nat → α → List β → R (List β)} {F : α → R β} {c : Nat} (hb : ∀ j a s, b j a s = (F a).bind fun y => if (s.length + 1) * c ≤ LIM then .ok (s ++ [y]) else .bad) :
    ∀ (l : List α) (k : Nat) (s : List β), (s.length + l.length) * c ≤ LIM → eachS b k l s = (rmap F l).bind fun r => .ok (s ++ r)
  | [], k, s, _ => by simp [eachS_nil', rmap]
  | a :: l, k, s, h => by
    have h1 : (s.length + 1) * c ≤ LIM := Nat.le_trans (Nat.mul_le_mul_right _ (by simp)) h
    rw [eachS_cons', hb, rmap]
    cases F a with
    | bad => rfl
    | pan v => rfl
    | ok y =>
      simp only [R.ok_bind]
      rw [if_pos h1, R.ok_bind, eachS_appR hb l (k + 1) (s ++ [y]) (by simpa [Nat.add_assoc, Nat.add_comm 1] using h)]
      cases rmap F l <;> simp
/-- the same with a flag -/
theorem eachS_flag {α β : Type} {b : Nat → α → Bool × List β → R (Bool × List β)} {g : α → β} {p : α → Bool} {c : Nat} (hb : ∀ j a q s, b j a (q, s) = if (s.length + 1) * c ≤ LIM then .ok (q && p a, s ++ [g a]) else .bad) :
    ∀ (l : List α) (k : Nat) (q : Bool) (s : List β), (s.length + l.length) * c ≤ LIM → eachS b k l (q, s) = .ok (q && l.all p, s ++ l.map g)
  | [], k, q, s, _ => by simp [eachS_nil']
  | a :: l, k, q, s, h => by
    have h1 : (s.length + 1) * c ≤ LIM := Nat.le_trans (Nat.mul_le_mul_right _ (by simp)) h
    rw [eachS_cons', hb, if_pos h1, R.ok_bind, eachS_flag hb l (k + 1) (q && p a) (s ++ [g a]) (by simpa [Nat.add_assoc, Nat.add_comm 1] using h)]
    simp [Bool.and_assoc]

theorem idx_nat {α : Type} {l : List α} {j : Nat} {a : α} (h : l[j]? = some a) : idx l (j : Int) = .ok a := by
  unfold idx
  rw [if_pos (by omega)]
  simp [h]
theorem idx_0 {α : Type} (a : α) (l : List α) : idx (a :: l) 0 = .ok a := idx_nat (j := 0) rfl
theorem idx_1 {α : Type} (a b : α) (l : List α) : idx (a :: b :: l) 1 = .ok b := idx_nat (j := 1) rfl

/-- a loop that writes over each element in its place -/
theorem eachS_over {α β : Type} {b : Nat → α → List β → R (List β)} {F : β → R β} (hb : ∀ j a s x, s[j]? = some x → b j a s = (F x).bind fun y => .ok (s.set j y)) :
    ∀ (l : List α) (r : List β) (pre : List β), l.length = r.length → eachS b pre.length l (pre ++ r) = (rmap F r).bind fun r' => .ok (pre ++ r')
  | [], [], pre, _ => by simp [eachS_nil', rmap]
  | [], _ :: _, _, h => by simp at h
  | _ :: _, [], _, h => by simp at h
  | a :: l, x :: r, pre, h => by
    rw [eachS_cons', hb _ a _ x (by simp), rmap]
    cases hF : F x with
    | bad => rfl
    | pan v => rfl
    | ok y =>
      simp only [R.ok_bind]
      have e : (pre ++ x :: r).set pre.length y = (pre ++ [y]) ++ r := by simp
      rw [e]
      have := eachS_over hb l r (pre ++ [y]) (by simpa using h)
      rw [List.length_append, List.length_singleton] at this
      rw [this]
      cases rmap F r <;> simp
theorem eachS_over0 {α β : Type} {b : Nat → α → List β → R (List β)} {F : β → R β} (hb : ∀ j a s x, s[j]? = some x → b j a s = (F x).bind fun y => .ok (s.set j y)) (l : List α) (r : List β) (h : l.length = r.length) :
    eachS b 0 l r = rmap F r := by
  have := eachS_over hb l r [] h
  simpa using this

/-- the same, as a loop of its own counter, with a flag -/
theorem loop_over {β : Type} {b : Bool × Int × List β → R ((Bool × Int × List β) ⊕ (Bool × List β))} {G : β → β} {p : β → Bool}
    (hend : ∀ q (r : List β), b (q, (r.length : Int), r) = .ok (.inr (q, r))) :
    ∀ (r : List β) (pre : List β) (q : Bool),
    (hb : ∀ (q : Bool) (j : Nat) (s : List β) (x : β), s[j]? = some x → (∃ y ∈ r, x = y) → s.length = pre.length + r.length → b (q, (j : Int), s) = .ok (.inl (q && p x, ((j + 1 : Nat) : Int), s.set j (G x)))) →
    loop b (q, (pre.length : Int), pre ++ r) = .ok (q && r.all p, pre ++ r.map G)
  | [], pre, q, hb => by
    rw [loop_eq, show pre ++ ([] : List β) = pre by simp, hend]
    simp
  | x :: r, pre, q, hb => by
    rw [loop_eq, hb q pre.length _ x (by simp) ⟨x, by simp, rfl⟩ (by simp)]
    simp only [R.ok_bind]
    have e : (pre ++ x :: r).set pre.length (G x) = (pre ++ [G x]) ++ r := by simp
    have e2 : ((pre.length + 1 : Nat) : Int) = ((pre ++ [G x]).length : Int) := by simp
    rw [e, e2, loop_over hend r (pre ++ [G x]) (q && p x) (fun q j s y h1 ⟨z, hz, hyz⟩ h3 => hb q j s y h1 ⟨z, List.mem_cons_of_mem _ hz, hyz⟩ (by simp at h3 ⊢; omega))]
    simp [Bool.and_assoc]

/-! ### the place of a name -/
abbrev Str' := List UInt8
/-- the first place -/
def pos (l : List Str') (x : Str') : Option Nat := l.findIdx? (· == x)
theorem pos_nil (x : Str') : pos [] x = none := rfl
theorem pos_cons (a : Str') (l : List Str') (x : Str') : pos (a :: l) x = if a = x then some 0 else (pos l x).map (· + 1) := by
  unfold pos
  rw [List.findIdx?_cons]
  by_cases h : a = x <;> simp [h]
theorem pos_none {l : List Str'} {x : Str'} : pos l x = none ↔ x ∉ l := by
  unfold pos
  rw [List.findIdx?_eq_none_iff]
  constructor
  · intro h hx; have := h x hx; simp at this
  · intro h y hy; simp; intro e; exact h (e ▸ hy)
theorem pos_some_mem {l : List Str'} {x : Str'} {i : Nat} (h : pos l x = some i) : x ∈ l := by
  apply Classical.byContradiction
  intro hx
  rw [pos_none.2 hx] at h
  cases h
theorem pos_lt {l : List Str'} {x : Str'} {i : Nat} (h : pos l x = some i) : i < l.length := by
  induction l generalizing i with
  | nil => cases h
  | cons a l ih =>
    rw [pos_cons] at h
    split at h
    · cases h; simp
    · cases hp : pos l x with
      | none => rw [hp] at h; cases h
      | some j => rw [hp] at h; cases h; have := ih hp; simpa using this
theorem pos_get {l : List Str'} {x : Str'} {i : Nat} (h : pos l x = some i) : l[i]? = some x := by
  induction l generalizing i with
  | nil => cases h
  | cons a l ih =>
    rw [pos_cons] at h
    split at h
    · cases h; simp_all
    · cases hp : pos l x with
      | none => rw [hp] at h; cases h
      | some j => rw [hp] at h; cases h; simpa using ih hp
/-- as Go says it: -1 where it is not -/
def posI (l : List Str') (x : Str') : Int := match pos l x with | some i => (i : Int) | none => -1

/-- A loop that looks for a name. -/
theorem each_find {α : Type} {b : Nat → α → Unit → R (Unit ⊕ Int)} {g : α → Str'} {x : Str'} (hb : ∀ j a, b j a () = if g a = x then .ok (.inr (j : Int)) else .ok (.inl ())) :
    ∀ (l : List α) (k : Nat), each b k l () = .ok (match pos (l.map g) x with | some i => .inr ((k + i : Nat) : Int) | none => .inl ())
  | [], k => rfl
  | a :: l, k => by
    rw [each_cons, hb, List.map_cons, pos_cons]
    by_cases h : g a = x
    · simp [h]
    · simp only [h, if_false, R.ok_bind]
      rw [each_find hb l (k + 1)]
      cases pos (l.map g) x with
      | none => rfl
      | some i => simp [Nat.add_assoc, Nat.add_comm 1]
/-- A loop that asks each element. -/
theorem each_all {α : Type} {b : Nat → α → Unit → R (Unit ⊕ Bool)} : ∀ (l : List α) (k : Nat), (∀ (j : Nat) a, l[j]? = some a → b (k + j) a () = .ok (.inl ())) → each b k l () = .ok (.inl ())
  | [], k, _ => rfl
  | a :: l, k, hb => by
    rw [each_cons, show b k a () = .ok (.inl ()) from hb 0 a rfl]
    simp only [R.ok_bind]
    exact each_all l (k + 1) fun j x h => by have := hb (j + 1) x (by simpa using h); rwa [Nat.add_comm j 1, ← Nat.add_assoc] at this
theorem each_keep {α σ ε : Type} {b : Nat → α → σ → R (σ ⊕ ε)} {s : σ} : ∀ (l : List α) (k : Nat), (∀ (j : Nat) a, l[j]? = some a → b (k + j) a s = .ok (.inl s)) → each b k l s = .ok (.inl s)
  | [], k, _ => rfl
  | a :: l, k, hb => by
    rw [each_cons, show b k a s = .ok (.inl s) from hb 0 a rfl]
    simp only [R.ok_bind]
    exact each_keep l (k + 1) fun j x h => by have := hb (j + 1) x (by simpa using h); rwa [Nat.add_comm j 1, ← Nat.add_assoc] at this
/-- A loop that looks for one that tells. -/
theorem each_any {α : Type} {b : Nat → α → Unit → R (Unit ⊕ Bool)} {p : α → Bool} (v : Bool) : ∀ (l : List α) (k : Nat), (∀ j, ∀ a ∈ l, b j a () = if p a then .ok (.inr v) else .ok (.inl ())) → each b k l () = .ok (if l.any p then .inr v else .inl ())
  | [], k, _ => rfl
  | a :: l, k, hb => by
    rw [each_cons, hb k a (List.mem_cons_self ..)]
    cases hp : p a with
    | true => simp [hp]
    | false =>
      simp only [Bool.false_eq_true, if_false, R.ok_bind]
      rw [each_any v l (k + 1) fun j x hx => hb j x (List.mem_cons_of_mem _ hx)]
      simp [hp]

/-! ### numbering -/
/-- A loop that gives each name its number; a second one is refused. -/
theorem eachS_number {α : Type} {b : Nat → α → List (Str' × Int) → R (List (Str' × Int))} {g : α → Str'} {v : PV} (hb : ∀ j a m, b j a m = if (mget m (g a)).isSome then .pan v else .ok (mput m (g a) (j : Int))) :
    ∀ (l : List α) (k : Nat) (m : List (Str' × Int)),
      ((l.map g).Nodup ∧ (∀ x ∈ l.map g, mget m x = none) ∧ ∃ M, eachS b k l m = .ok M ∧ ∀ x, mget M x = match pos (l.map g) x with | some i => some ((k + i : Nat) : Int) | none => mget m x) ∨
      (¬ ((l.map g).Nodup ∧ (∀ x ∈ l.map g, mget m x = none)) ∧ eachS b k l m = .pan v)
  | [], k, m => .inl ⟨List.nodup_nil, fun x h => by simp at h, m, rfl, fun x => rfl⟩
  | a :: l, k, m => by
    rw [eachS_cons', hb]
    cases hm : mget m (g a) with
    | some w =>
      refine .inr ⟨fun ⟨_, h⟩ => ?_, by simp⟩
      have := h (g a) (by simp)
      rw [hm] at this; cases this
    | none =>
      simp only [Option.isSome_none, Bool.false_eq_true, if_false, R.ok_bind]
      rcases eachS_number hb l (k + 1) (mput m (g a) (k : Int)) with ⟨h1, h2, M, h3, h4⟩ | ⟨h1, h2⟩
      · have hna : g a ∉ l.map g := fun hx => by
          have := h2 _ hx
          rw [mget_mput, if_pos rfl] at this; cases this
        refine .inl ⟨by rw [List.map_cons, List.nodup_cons]; exact ⟨hna, h1⟩, fun x hx => ?_, M, h3, fun x => ?_⟩
        · rw [List.map_cons, List.mem_cons] at hx
          rcases hx with rfl | hx
          · exact hm
          · have := h2 x hx
            rw [mget_mput] at this
            split at this
            · cases this
            · exact this
        · rw [h4 x, List.map_cons, pos_cons]
          by_cases hx : g a = x
          · subst hx
            rw [pos_none.2 hna, if_pos rfl, mget_mput, if_pos rfl]
            rfl
          · rw [if_neg hx]
            cases hp : pos (l.map g) x with
            | none => simp only [Option.map_none]; rw [mget_mput, if_neg hx]
            | some i => simp [Nat.add_assoc, Nat.add_comm 1]
      · refine .inr ⟨fun ⟨h3, h4⟩ => h1 ?_, h2⟩
        rw [List.map_cons, List.nodup_cons] at h3
        refine ⟨h3.2, fun x hx => ?_⟩
        rw [mget_mput, if_neg (fun e : g a = x => h3.1 (e ▸ hx))]
        exact h4 x (by rw [List.map_cons]; exact List.mem_cons_of_mem _ hx)
theorem eachS_number0 {α : Type} {b : Nat → α → List (Str' × Int) → R (List (Str' × Int))} {g : α → Str'} {v : PV} (hb : ∀ j a m, b j a m = if (mget m (g a)).isSome then .pan v else .ok (mput m (g a) (j : Int))) (l : List α) :
    ((l.map g).Nodup ∧ ∃ M, eachS b 0 l [] = .ok M ∧ ∀ x, mget M x = (pos (l.map g) x).map fun i => (i : Int)) ∨ (¬ (l.map g).Nodup ∧ eachS b 0 l [] = .pan v) := by
  rcases eachS_number hb l 0 [] with ⟨h1, _, M, h3, h4⟩ | ⟨h1, h2⟩
  · refine .inl ⟨h1, M, h3, fun x => ?_⟩
    rw [h4]
    cases pos (l.map g) x <;> simp
  · exact .inr ⟨fun h => h1 ⟨h, fun x _ => rfl⟩, h2⟩
/-- The same test, by looking for each name from the start. -/
theorem twice_iff : ∀ (l : List Str'), (l.Nodup ↔ ∀ (j : Nat) a, l[j]? = some a → pos l a = some j) := by
  intro l
  induction l with
  | nil => simp
  | cons a l ih =>
    rw [List.nodup_cons, ih]
    constructor
    · rintro ⟨ha, h⟩ j x hx
      rw [pos_cons]
      cases j with
      | zero => simp at hx; rw [if_pos hx]
      | succ j =>
        have hx' : l[j]? = some x := by simpa using hx
        have : a ≠ x := fun e => ha (e ▸ List.mem_of_getElem? hx')
        rw [if_neg this, h j x hx']; rfl
    · intro h
      refine ⟨fun hm => ?_, fun j x hx => ?_⟩
      · obtain ⟨i, hi, e⟩ := List.mem_iff_getElem.1 hm
        have := h (i + 1) a (by simp [List.getElem?_eq_getElem hi, e])
        rw [pos_cons, if_pos rfl] at this
        cases this
      · have := h (j + 1) x (by simpa using hx)
        rw [pos_cons] at this
        split at this
        · cases this
        · cases hp : pos l x with
          | none => rw [hp] at this; cases this
          | some i => rw [hp] at this; simp at this; rw [this]
end Go.Am
