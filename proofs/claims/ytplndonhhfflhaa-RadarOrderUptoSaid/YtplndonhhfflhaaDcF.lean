/- The model's steps under what follows them. -/
import Derived.Test.YtplndonhhfflhaaDcCall
namespace Go.Am
open Go
set_option linter.unusedSimpArgs false
set_option linter.unusedVariables false
set_option linter.unusedSectionVars false

/-- A loop over a list that is never left early. -/
def eachS {α σ : Type} (body : Nat → α → σ → R σ) : Nat → List α → σ → R σ
  | _, [], s => .ok s
  | k, a :: l, s => (body k a s).bind fun s' => eachS body (k + 1) l s'
@[simp] theorem eachS_nil {α σ : Type} (body : Nat → α → σ → R σ) (k : Nat) (s : σ) : eachS body k [] s = .ok s := rfl
theorem eachS_cons {α σ : Type} (body : Nat → α → σ → R σ) (k : Nat) (a : α) (l : List α) (s : σ) : eachS body k (a :: l) s = (body k a s).bind fun s' => eachS body (k + 1) l s' := rfl

section
variable {P : Program} [GW P] {f : FuncId} {n : Nat} {d : FK} {β γ : Type} {Q : Spec β} {fr : Nat → AV} {ds : List AD} {h : AHeap} {u : AU} {k : List Item} {l : List (Nat × AV)} {F : γ → R β}
theorem wr_in {m : R β} {todo : List Item} (hr : WR P f n d Q (m.bind R.ok) todo fr ds h u) : WR P f n d Q m todo fr ds h u := by rwa [R.bind_ok] at hr
theorem wr_mod {m m' : R γ} {todo : List Item} (e : m = m') (hr : WR P f n d Q (m'.bind F) todo fr ds h u) : WR P f n d Q (m.bind F) todo fr ds h u := e ▸ hr
theorem wf_ite {c : Operand} {x y : Code} {p : Prop} [Decidable p] {A B : R γ} (hc : ev fr c = .bool (decide p)) (ht : p → WR P f n d Q (A.bind F) (.code x :: k) fr ds h u) (hf : ¬ p → WR P f n d Q (B.bind F) (.code y :: k) fr ds h u) : WR P f n d Q ((if p then A else B).bind F) (.code (.cond c x y) :: k) fr ds h u := by
  have e : (if p then A else B).bind F = if p then A.bind F else B.bind F := by split <;> rfl
  rw [e]; exact wr_ite hc ht hf
theorem wf_iteb {c : Operand} {x y : Code} {b : Bool} {A B : R γ} (hc : ev fr c = .bool b) (ht : b = true → WR P f n d Q (A.bind F) (.code x :: k) fr ds h u) (hf : b = false → WR P f n d Q (B.bind F) (.code y :: k) fr ds h u) : WR P f n d Q ((if b then A else B).bind F) (.code (.cond c x y) :: k) fr ds h u := by
  have e : (if b then A else B).bind F = if b then A.bind F else B.bind F := by split <;> rfl
  rw [e]; exact wr_iteb hc ht hf
theorem wf_join {π : Type} (rest : π → R γ) (St : π → (Nat → AV) → AHeap → Prop) {m : R γ} {i : Item} (hk : ∀ p fr h, St p fr h → WR P f n d Q ((rest p).bind F) k fr ds h u)
    (hx : (∀ p fr h, St p fr h → WR P f n d Q ((rest p).bind F) k fr ds h u) → WR P f n d Q (m.bind F) (i :: k) fr ds h u) : WR P f n d Q (m.bind F) (i :: k) fr ds h u := hx hk
theorem wf_loop {σ ε : Type} {c : Code} (body : σ → R (σ ⊕ ε)) (rest : ε → R γ) (St : σ → (Nat → AV) → AHeap → Prop) (s0 : σ) (hs : St s0 fr h)
    (round : ∀ W : σ → R ε, (∀ s fr h, St s fr h → WR P f n d Q (((W s).bind rest).bind F) (.inLoop c :: k) fr ds h u) → ∀ s fr h, St s fr h →
      WR P f n d Q ((body s).bind fun x => match x with | .inl s' => ((W s').bind rest).bind F | .inr e => (rest e).bind F) (.code c :: .inLoop c :: k) fr ds h u) :
    WR P f n d Q (((loop body s0).bind rest).bind F) (.code (.loop c) :: k) fr ds h u := by
  refine wr_eq (R.bind_assoc _ _ _) (wr_loop body (fun x => (rest x).bind F) St s0 hs fun W hW s fr h hs => ?_)
  have := round W (fun s fr h hs => wr_eq (R.bind_assoc _ _ _) (hW s fr h hs)) s fr h hs
  refine wr_eq ?_ this
  congr 1
  funext x
  cases x with
  | inl s' => exact (R.bind_assoc _ _ _).symm
  | inr e => rfl
theorem wf_each {α σ ε : Type} {c : Code} (L : List α) (body : Nat → α → σ → R (σ ⊕ ε)) (rest : σ ⊕ ε → R γ) (St : Nat → σ → (Nat → AV) → AHeap → Prop) (s0 : σ) (hs : St 0 s0 fr h)
    (round : ∀ (j : Nat) (a : α), L[j]? = some a → ∀ W : σ → R (σ ⊕ ε), (∀ s fr h, St (j + 1) s fr h → WR P f n d Q (((W s).bind rest).bind F) (.inLoop c :: k) fr ds h u) → ∀ s fr h, St j s fr h →
      WR P f n d Q ((body j a s).bind fun x => match x with | .inl s' => ((W s').bind rest).bind F | .inr e => (rest (.inr e)).bind F) (.code c :: .inLoop c :: k) fr ds h u)
    (fin : ∀ s fr h, St L.length s fr h → WR P f n d Q ((rest (.inl s)).bind F) (.code c :: .inLoop c :: k) fr ds h u) :
    WR P f n d Q (((each body 0 L s0).bind rest).bind F) (.code (.loop c) :: k) fr ds h u := by
  refine wr_eq (R.bind_assoc _ _ _) (wr_each L body (fun x => (rest x).bind F) St s0 hs (fun j a ha W hW s fr h hs => ?_) fin)
  have := round j a ha W (fun s fr h hs => wr_eq (R.bind_assoc _ _ _) (hW s fr h hs)) s fr h hs
  refine wr_eq ?_ this
  congr 1
  funext x
  cases x with
  | inl s' => exact (R.bind_assoc _ _ _).symm
  | inr e => rfl
theorem each_S {α σ : Type} (body : Nat → α → σ → R σ) : ∀ (L : List α) (j : Nat) (s : σ), (each (ε := Empty) (fun j a s => (body j a s).bind fun s' => .ok (.inl s')) j L s).bind (fun | .inl s => .ok s | .inr e => nomatch e) = eachS body j L s
  | [], j, s => rfl
  | a :: l, j, s => by
    rw [each_cons, eachS_cons]
    cases body j a s with
    | ok s' => exact each_S body l (j + 1) s'
    | pan v => rfl
    | bad => rfl
theorem wf_eachS {α σ : Type} {c : Code} (L : List α) (body : Nat → α → σ → R σ) (rest : σ → R γ) (St : Nat → σ → (Nat → AV) → AHeap → Prop) (s0 : σ) (hs : St 0 s0 fr h)
    (round : ∀ (j : Nat) (a : α), L[j]? = some a → ∀ W : σ → R σ, (∀ s fr h, St (j + 1) s fr h → WR P f n d Q (((W s).bind rest).bind F) (.inLoop c :: k) fr ds h u) → ∀ s fr h, St j s fr h →
      WR P f n d Q ((body j a s).bind fun s' => ((W s').bind rest).bind F) (.code c :: .inLoop c :: k) fr ds h u)
    (fin : ∀ s fr h, St L.length s fr h → WR P f n d Q ((rest s).bind F) (.code c :: .inLoop c :: k) fr ds h u) :
    WR P f n d Q (((eachS body 0 L s0).bind rest).bind F) (.code (.loop c) :: k) fr ds h u := by
  rw [← each_S]
  rw [R.bind_assoc (each _ _ _ _)]
  refine wf_each (ε := Empty) L _ _ St s0 hs (fun j a ha W hW s fr h hs => ?_) (fun s fr h hs => fin s fr h hs)
  have := round j a ha (fun s => (W s).bind fun | .inl s => .ok s | .inr e => nomatch e) (fun s fr h hs => by rw [R.bind_assoc (W s)]; exact hW s fr h hs) s fr h hs
  refine wr_eq ?_ this
  rw [R.bind_assoc]
  congr 1
  funext s'
  simp only [R.ok_bind]
  cases W s' with
  | ok x =>
    cases x with
    | inl s => rfl
    | inr e => exact nomatch e
  | pan v => rfl
  | bad => rfl

section
variable {all r : List Oper} {ty : TypeId} {pos : String} {after : Array Edge}
theorem of_idx {α : Type} {L : List α} {i : Int} {rest : α → R γ} {ops : List Oper} (hk : ∀ a, 0 ≤ i → L[i.toNat]? = some a → WO P f n d Q k all ((rest a).bind F) ops fr ds h u) : WO P f n d Q k all (((idx L i).bind rest).bind F) ops fr ds h u :=
  wo_eq (R.bind_assoc _ _ _) (wo_idx hk)
theorem of_need {p : Prop} [Decidable p] {rest : R γ} {ops : List Oper} (hk : p → WO P f n d Q k all (rest.bind F) ops fr ds h u) : WO P f n d Q k all ((if p then rest else .bad).bind F) ops fr ds h u := by
  have e : (if p then rest else .bad).bind F = if p then rest.bind F else .bad := by split <;> rfl
  rw [e]; exact wo_need hk
theorem of_iteb {b : Bool} {A B : R γ} {ops : List Oper} (ht : b = true → WO P f n d Q k all (A.bind F) ops fr ds h u) (hf : b = false → WO P f n d Q k all (B.bind F) ops fr ds h u) : WO P f n d Q k all ((if b then A else B).bind F) ops fr ds h u := by
  have e : (if b then A else B).bind F = if b then A.bind F else B.bind F := by split <;> rfl
  rw [e]; exact wo_iteb ht hf
theorem of_assoc {δ : Type} {m : R δ} {g : δ → R γ} {ops : List Oper} (hk : WO P f n d Q k all (m.bind fun a => (g a).bind F) ops fr ds h u) : WO P f n d Q k all ((m.bind g).bind F) ops fr ds h u := wo_eq (R.bind_assoc _ _ _) hk
theorem of_call {α : Type} {t : Nat} {x : Operand} {as : List Operand} {ts : Array TypeId} {g : FuncId} {fst cap : List AV} {gd : Option (Nat × Bool)} (A : List AV) {mg : R α} {e : α → AV} {rest : α → R γ} (ht : Nat.blt t n = true) (hw : aWanted all (frA l) ⟨some t, .call ⟨.value x, ⟨as⟩, ts⟩, ty, pos, after, gd⟩ = some true) (hx : ev (frA l) x = .func (.func g) fst cap)
    (ha : fst ++ evs (frA l) as ++ cap = A) (hc : mg ≠ .bad → ACalls P g A h (AnsR e h mg)) (hp : ∀ v, mg = .pan v → WU P f n d Q (.pan v) (.pan v.av false) (frA l) ds h u) (hk : ∀ a, mg = .ok a → WO P f n d Q k all ((rest a).bind F) r (frA ((t, e a) :: l)) ds h u) :
    WO P f n d Q k all ((mg.bind rest).bind F) (⟨some t, .call ⟨.value x, ⟨as⟩, ts⟩, ty, pos, after, gd⟩ :: r) (frA l) ds h u :=
  wo_eq (R.bind_assoc _ _ _) (wo_call ht hw hx ha hc hp hk)
theorem of_call0 {α : Type} {x : Operand} {as : List Operand} {ts : Array TypeId} {g : FuncId} {fst cap : List AV} (A : List AV) {mg : R α} {e : α → AV} {rest : α → R γ} (hx : ev (frA l) x = .func (.func g) fst cap)
    (ha : fst ++ evs (frA l) as ++ cap = A) (hc : mg ≠ .bad → ACalls P g A h (AnsR e h mg)) (hp : ∀ v, mg = .pan v → WU P f n d Q (.pan v) (.pan v.av false) (frA l) ds h u) (hk : ∀ a, mg = .ok a → WO P f n d Q k all ((rest a).bind F) r (frA l) ds h u) :
    WO P f n d Q k all ((mg.bind rest).bind F) (⟨none, .call ⟨.value x, ⟨as⟩, ts⟩, ty, pos, after, none⟩ :: r) (frA l) ds h u :=
  wo_eq (R.bind_assoc _ _ _) (wo_call0 hx ha hc hp hk)
end
end
end Go.Am
namespace Go.Am
open Go
/-! ### Tuples taken apart, ways out of loops -/
section
variable {α β γ δ ε ζ η θ τ : Type} {κ : Sort _}
@[reducible] def un2 (f : α → β → κ) : α × β → κ | (a, b) => f a b
@[reducible] def un3 (f : α → β → γ → κ) : α × β × γ → κ | (a, b, c) => f a b c
@[reducible] def un4 (f : α → β → γ → δ → κ) : α × β × γ × δ → κ | (a, b, c, d) => f a b c d
@[reducible] def un5 (f : α → β → γ → δ → ε → κ) : α × β × γ × δ × ε → κ | (a, b, c, d, e) => f a b c d e
@[reducible] def un6 (f : α → β → γ → δ → ε → ζ → κ) : α × β × γ × δ × ε × ζ → κ | (a, b, c, d, e, g) => f a b c d e g
@[reducible] def un7 (f : α → β → γ → δ → ε → ζ → η → κ) : α × β × γ × δ × ε × ζ × η → κ | (a, b, c, d, e, g, h) => f a b c d e g h
@[reducible] def un8 (f : α → β → γ → δ → ε → ζ → η → θ → κ) : α × β × γ × δ × ε × ζ × η × θ → κ | (a, b, c, d, e, g, h, i) => f a b c d e g h i
@[simp] theorem un2_mk (f : α → β → κ) (a : α) (b : β) : un2 f (a, b) = f a b := rfl
@[simp] theorem un3_mk (f : α → β → γ → κ) (a : α) (b : β) (c : γ) : un3 f (a, b, c) = f a b c := rfl
@[simp] theorem un4_mk (f : α → β → γ → δ → κ) (a : α) (b : β) (c : γ) (d : δ) : un4 f (a, b, c, d) = f a b c d := rfl
@[simp] theorem un5_mk (f : α → β → γ → δ → ε → κ) (a : α) (b : β) (c : γ) (d : δ) (e : ε) : un5 f (a, b, c, d, e) = f a b c d e := rfl
@[simp] theorem un6_mk (f : α → β → γ → δ → ε → ζ → κ) (a : α) (b : β) (c : γ) (d : δ) (e : ε) (g : ζ) : un6 f (a, b, c, d, e, g) = f a b c d e g := rfl
@[simp] theorem un7_mk (f : α → β → γ → δ → ε → ζ → η → κ) (a : α) (b : β) (c : γ) (d : δ) (e : ε) (g : ζ) (h : η) : un7 f (a, b, c, d, e, g, h) = f a b c d e g h := rfl
@[simp] theorem un8_mk (f : α → β → γ → δ → ε → ζ → η → θ → κ) (a : α) (b : β) (c : γ) (d : δ) (e : ε) (g : ζ) (h : η) (i : θ) : un8 f (a, b, c, d, e, g, h, i) = f a b c d e g h i := rfl
/-- Ways out. -/
@[reducible] def alt (f : α → κ) (g : β → κ) : α ⊕ β → κ | .inl a => f a | .inr b => g b
@[simp] theorem alt_inl (f : α → κ) (g : β → κ) (a : α) : alt f g (.inl a) = f a := rfl
@[simp] theorem alt_inr (f : α → κ) (g : β → κ) (b : β) : alt f g (.inr b) = g b := rfl
end
def afterL {σ ε γ β : Type} (W : σ → R ε) (rest : ε → R γ) (F : γ → R β) : σ ⊕ ε → R β
  | .inl s' => ((W s').bind rest).bind F
  | .inr e => (rest e).bind F
def afterE {σ ε γ β : Type} (W : σ → R (σ ⊕ ε)) (rest : σ ⊕ ε → R γ) (F : γ → R β) : σ ⊕ ε → R β
  | .inl s' => ((W s').bind rest).bind F
  | .inr e => (rest (.inr e)).bind F
def afterS {σ γ β : Type} (W : σ → R σ) (rest : σ → R γ) (F : γ → R β) : σ → R β
  | s' => ((W s').bind rest).bind F
/-- what follows one value -/
def after1 {α γ β : Type} (rest : α → R γ) (F : γ → R β) : α → R β
  | a => (rest a).bind F
section
variable {P : Program} [GW P] {f : FuncId} {n : Nat} {d : FK} {β γ : Type} {Q : Spec β} {fr : Nat → AV} {ds : List AD} {h : AHeap} {u : AU} {k : List Item} {l : List (Nat × AV)} {F : γ → R β}
theorem wb_loop {σ ε : Type} {W : σ → R ε} {rest : ε → R γ} {todo : List Item} {s : σ} (hr : WR P f n d Q (((W s).bind rest).bind F) todo fr ds h u) : WR P f n d Q ((R.ok (.inl s)).bind (afterL W rest F)) todo fr ds h u := hr
theorem wx_loop {σ ε : Type} {W : σ → R ε} {rest : ε → R γ} {todo : List Item} {e : ε} (hr : WR P f n d Q ((rest e).bind F) todo fr ds h u) : WR P f n d Q ((R.ok (.inr e)).bind (afterL W rest F)) todo fr ds h u := hr
theorem wb_each {σ ε : Type} {W : σ → R (σ ⊕ ε)} {rest : σ ⊕ ε → R γ} {todo : List Item} {s : σ} (hr : WR P f n d Q (((W s).bind rest).bind F) todo fr ds h u) : WR P f n d Q ((R.ok (.inl s)).bind (afterE W rest F)) todo fr ds h u := hr
theorem wx_each {σ ε : Type} {W : σ → R (σ ⊕ ε)} {rest : σ ⊕ ε → R γ} {todo : List Item} {e : ε} (hr : WR P f n d Q ((rest (.inr e)).bind F) todo fr ds h u) : WR P f n d Q ((R.ok (.inr e)).bind (afterE W rest F)) todo fr ds h u := hr
theorem wb_S {σ : Type} {W : σ → R σ} {rest : σ → R γ} {todo : List Item} {s : σ} (hr : WR P f n d Q (((W s).bind rest).bind F) todo fr ds h u) : WR P f n d Q ((R.ok s).bind (afterS W rest F)) todo fr ds h u := hr
theorem w_altl {α' β' : Type} {f1 : α' → R γ} {g1 : β' → R γ} {todo : List Item} {a : α'} (hr : WR P f n d Q ((f1 a).bind F) todo fr ds h u) : WR P f n d Q ((alt f1 g1 (.inl a)).bind F) todo fr ds h u := hr
theorem w_altr {α' β' : Type} {f1 : α' → R γ} {g1 : β' → R γ} {todo : List Item} {b : β'} (hr : WR P f n d Q ((g1 b).bind F) todo fr ds h u) : WR P f n d Q ((alt f1 g1 (.inr b)).bind F) todo fr ds h u := hr
theorem wf_loop' {σ ε : Type} {c : Code} (body : σ → R (σ ⊕ ε)) (rest : ε → R γ) (St : σ → (Nat → AV) → AHeap → Prop) (s0 : σ) (hs : St s0 fr h)
    (round : ∀ W : σ → R ε, (∀ s fr h, St s fr h → WR P f n d Q (((W s).bind rest).bind F) (.inLoop c :: k) fr ds h u) → ∀ s fr h, St s fr h →
      WR P f n d Q ((body s).bind (afterL W rest F)) (.code c :: .inLoop c :: k) fr ds h u) :
    WR P f n d Q (((loop body s0).bind rest).bind F) (.code (.loop c) :: k) fr ds h u :=
  wf_loop body rest St s0 hs fun W hW s fr h hs => by
    refine wr_eq ?_ (round W hW s fr h hs)
    congr 1
theorem wf_each' {α σ ε : Type} {c : Code} (L : List α) (body : Nat → α → σ → R (σ ⊕ ε)) (rest : σ ⊕ ε → R γ) (St : Nat → σ → (Nat → AV) → AHeap → Prop) (s0 : σ) (hs : St 0 s0 fr h)
    (round : ∀ (j : Nat) (a : α), L[j]? = some a → ∀ W : σ → R (σ ⊕ ε), (∀ s fr h, St (j + 1) s fr h → WR P f n d Q (((W s).bind rest).bind F) (.inLoop c :: k) fr ds h u) → ∀ s fr h, St j s fr h →
      WR P f n d Q ((body j a s).bind (afterE W rest F)) (.code c :: .inLoop c :: k) fr ds h u)
    (fin : ∀ s fr h, St L.length s fr h → WR P f n d Q ((rest (.inl s)).bind F) (.code c :: .inLoop c :: k) fr ds h u) :
    WR P f n d Q (((each body 0 L s0).bind rest).bind F) (.code (.loop c) :: k) fr ds h u :=
  wf_each L body rest St s0 hs (fun j a ha W hW s fr h hs => by
    refine wr_eq ?_ (round j a ha W hW s fr h hs)
    congr 1) fin
theorem wf_eachS' {α σ : Type} {c : Code} (L : List α) (body : Nat → α → σ → R σ) (rest : σ → R γ) (St : Nat → σ → (Nat → AV) → AHeap → Prop) (s0 : σ) (hs : St 0 s0 fr h)
    (round : ∀ (j : Nat) (a : α), L[j]? = some a → ∀ W : σ → R σ, (∀ s fr h, St (j + 1) s fr h → WR P f n d Q (((W s).bind rest).bind F) (.inLoop c :: k) fr ds h u) → ∀ s fr h, St j s fr h →
      WR P f n d Q ((body j a s).bind (afterS W rest F)) (.code c :: .inLoop c :: k) fr ds h u)
    (fin : ∀ s fr h, St L.length s fr h → WR P f n d Q ((rest s).bind F) (.code c :: .inLoop c :: k) fr ds h u) :
    WR P f n d Q (((eachS body 0 L s0).bind rest).bind F) (.code (.loop c) :: k) fr ds h u := wf_eachS L body rest St s0 hs round fin
theorem wf_iten {c : Operand} {x y : Code} {p : Prop} [Decidable p] {A B : R γ} (hc : ev fr c = .bool (!decide p)) (ht : p → WR P f n d Q (A.bind F) (.code y :: k) fr ds h u) (hf : ¬ p → WR P f n d Q (B.bind F) (.code x :: k) fr ds h u) : WR P f n d Q ((if p then A else B).bind F) (.code (.cond c x y) :: k) fr ds h u := by
  intro hb
  by_cases hp : p
  · rw [if_pos hp] at hb ⊢
    exact run_cond (b := false) (by rw [hc]; simp [hp]) (ht hp hb)
  · rw [if_neg hp] at hb ⊢
    exact run_cond (b := true) (by rw [hc]; simp [hp]) (hf hp hb)
theorem wf_itebn {c : Operand} {x y : Code} {b : Bool} {A B : R γ} (hc : ev fr c = .bool (!b)) (ht : b = true → WR P f n d Q (A.bind F) (.code y :: k) fr ds h u) (hf : b = false → WR P f n d Q (B.bind F) (.code x :: k) fr ds h u) : WR P f n d Q ((if b then A else B).bind F) (.code (.cond c x y) :: k) fr ds h u := by
  intro hb
  cases hq : b with
  | true => simp only [hq, if_true] at hb ⊢; exact run_cond (b := false) (by rw [hc, hq]; rfl) (ht hq hb)
  | false => simp only [hq, Bool.false_eq_true, if_false] at hb ⊢; exact run_cond (b := true) (by rw [hc, hq]; rfl) (hf hq hb)
section
variable {all r : List Oper} {ty : TypeId} {pos : String} {after : Array Edge}
theorem wo_join {π : Type} {m : R γ} {ops : List Oper} (i : Nat) (rest : π → R γ) (St : π → (Nat → AV) → AHeap → Prop) (hk : ∀ p fr h, St p fr h → WO P f n d Q k all ((rest p).bind F) (ops.drop i) fr ds h u)
    (hx : (∀ p fr h, St p fr h → WO P f n d Q k all ((rest p).bind F) (ops.drop i) fr ds h u) → WO P f n d Q k all (m.bind F) ops fr ds h u) : WO P f n d Q k all (m.bind F) ops fr ds h u := hx hk
theorem wo_cases {m : R β} {ops : List Oper} (b : Bool) (ht : b = true → WO P f n d Q k all m ops fr ds h u) (hf : b = false → WO P f n d Q k all m ops fr ds h u) : WO P f n d Q k all m ops fr ds h u := by
  cases hq : b with
  | true => exact ht hq
  | false => exact hf hq
theorem of_if1 {α : Type} {b : Bool} {A B : R α} {rest : α → R γ} {ops : List Oper} (ht : b = true → WO P f n d Q k all (A.bind (after1 rest F)) ops fr ds h u) (hf : b = false → WO P f n d Q k all (B.bind (after1 rest F)) ops fr ds h u) : WO P f n d Q k all (((if b then A else B).bind rest).bind F) ops fr ds h u := by
  have e : ∀ X : R α, (X.bind rest).bind F = X.bind (after1 rest F) := fun X => R.bind_assoc _ _ _
  rw [e]
  exact of_iteb ht hf
theorem wo_back1 {α : Type} {rest : α → R γ} {ops : List Oper} {a : α} (hr : WO P f n d Q k all ((rest a).bind F) ops fr ds h u) : WO P f n d Q k all ((R.ok a).bind (after1 rest F)) ops fr ds h u := hr
end
end
theorem and_t {a b : Bool} (h : a = true) : AV.bool b = .bool (a && b) := by rw [h]; rfl
theorem and_f {a b : Bool} (h : a = false) : AV.bool false = .bool (a && b) := by rw [h]; rfl
theorem or_t {a b : Bool} (h : a = true) : AV.bool true = .bool (a || b) := by rw [h]; rfl
theorem or_f {a b : Bool} (h : a = false) : AV.bool b = .bool (a || b) := by rw [h]; rfl
section
variable {P : Program} [GW P] {f : FuncId} {n : Nat} {d : FK} {β : Type} {Q : Spec β} {m : R β} {fr : Nat → AV} {ds : List AD} {h : AHeap} {u : AU} {k : List Item} {l : List (Nat × AV)}
theorem wr_condT {c : Operand} {x y : Code} {p : Prop} [Decidable p] (hc : ev fr c = .bool (decide p)) (hp : p) (hr : WR P f n d Q m (.code x :: k) fr ds h u) : WR P f n d Q m (.code (.cond c x y) :: k) fr ds h u := fun hb => run_cond (b := true) (by rw [hc]; simp [hp]) (hr hb)
theorem wr_condF {c : Operand} {x y : Code} {p : Prop} [Decidable p] (hc : ev fr c = .bool (decide p)) (hp : ¬ p) (hr : WR P f n d Q m (.code y :: k) fr ds h u) : WR P f n d Q m (.code (.cond c x y) :: k) fr ds h u := fun hb => run_cond (b := false) (by rw [hc]; simp [hp]) (hr hb)
end
/-- Componentwise. -/
inductive LF (h h2 : AHeap) : List AV → List AV → Prop
  | nil : LF h h2 [] []
  | cons {a b : AV} {l l' : List AV} (hx : Fz h h2 a b) (hr : LF h h2 l l') : LF h h2 (a :: l) (b :: l')
theorem LF.all {h h2 : AHeap} {l l' : List AV} (hx : LF h h2 l l') : l.length = l'.length ∧ ∀ i, i < l.length → Fz h h2 (l.getD i .und) (l'.getD i .und) := by
  induction hx with
  | nil => exact ⟨rfl, fun i hi => by simp at hi⟩
  | cons hx hr ih =>
    refine ⟨by simp [ih.1], fun i hi => ?_⟩
    cases i with
    | zero => exact hx
    | succ i => simpa using ih.2 i (by simpa using hi)
theorem Fz.tupL {h h2 : AHeap} {l l' : List AV} (hx : LF h h2 l l') : Fz h h2 (.tup l) (.tup l') := .tup l l' hx.all.1 hx.all.2
theorem Fz.aggL {h h2 : AHeap} {l l' : List AV} (hx : LF h h2 l l') : Fz h h2 (.agg l) (.agg l') := .agg l l' hx.all.1 hx.all.2
theorem LF.lfz {h : AHeap} {l l' : List AV} (hx : LF h hE l l') : LFz h l l' := by
  induction hx with
  | nil => trivial
  | cons hx hr ih => exact ⟨hx, ih⟩
end Go.Am
