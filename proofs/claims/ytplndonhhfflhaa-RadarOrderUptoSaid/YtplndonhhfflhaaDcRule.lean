/- The judgements: a frame, a region, a way out, each beside what is left of the model. -/
import Derived.Test.YtplndonhhfflhaaDcBase
namespace Go.Am
open Go
set_option linter.unusedSimpArgs false
set_option linter.unusedVariables false
set_option linter.unusedSectionVars false

/-- What a model promises of the machine: of which outcomes, and what. -/
structure Spec (β : Type) where
  V : R β → Prop
  bad : ¬ V .bad
  Q : R β → QT
section
variable {β : Type}
def WR (P : Program) [GW P] (f : FuncId) (n : Nat) (d : FK) (Q : Spec β) (m : R β) (todo : List Item) (fr : Nat → AV) (ds : List AD) (h : AHeap) (u : AU) : Prop := Q.V m → Run P f n d todo fr ds h u (Q.Q m)
def WU (P : Program) [GW P] (f : FuncId) (n : Nat) (d : FK) (Q : Spec β) (m : R β) (a : AU) (fr : Nat → AV) (ds : List AD) (h : AHeap) (u : AU) : Prop := Q.V m → Unw P f n d a fr ds h u (Q.Q m)
def WO (P : Program) [GW P] (f : FuncId) (n : Nat) (d : FK) (Q : Spec β) (k : List Item) (all : List Oper) (m : R β) (ops : List Oper) (fr : Nat → AV) (ds : List AD) (h : AHeap) (u : AU) : Prop :=
  Q.V m → ∀ i, (∀ j, all[i + j]? = ops[j]?) → Run P f n d (.inRegion ⟨all⟩ (List.range' i ops.length) :: k) fr ds h u (Q.Q m)
end

section
variable {P : Program} [GW P] {f : FuncId} {n : Nat} {d : FK} {β : Type} {Q : Spec β} {m : R β} {fr : Nat → AV} {ds : List AD} {h : AHeap} {u : AU} {k : List Item} {l : List (Nat × AV)}

theorem wr_bad {todo : List Item} : WR P f n d Q .bad todo fr ds h u := fun hb => absurd hb Q.bad
theorem wr_skip (hr : WR P f n d Q m k fr ds h u) : WR P f n d Q m (.code .skip :: k) fr ds h u := fun hb => run_skip (hr hb)
theorem wr_seq {x y : Code} (hr : WR P f n d Q m (.code x :: .code y :: k) fr ds h u) : WR P f n d Q m (.code (.seq x y) :: k) fr ds h u := fun hb => run_seq (hr hb)
theorem wr_block {id : Nat} {c : Code} (hr : WR P f n d Q m (.code c :: .inBlock id :: k) fr ds h u) : WR P f n d Q m (.code (.block id c) :: k) fr ds h u := fun hb => run_block (hr hb)
theorem wr_inBlock {id : Nat} (hr : WR P f n d Q m k fr ds h u) : WR P f n d Q m (.inBlock id :: k) fr ds h u := fun hb => run_inBlock (hr hb)
theorem wr_exit {id : Nat} {k' : List Item} (he : exitTo id k = some k') (hr : WR P f n d Q m k' fr ds h u) : WR P f n d Q m (.code (.exit id) :: k) fr ds h u := fun hb => run_exit he (hr hb)
theorem wr_cond {c : Operand} {x y : Code} (b : Bool) (hc : ev fr c = .bool b) (hr : WR P f n d Q m (.code (match b with | true => x | false => y) :: k) fr ds h u) : WR P f n d Q m (.code (.cond c x y) :: k) fr ds h u := fun hb => run_cond hc (by cases b <;> exact hr hb)
theorem wr_ite {c : Operand} {x y : Code} {p : Prop} [Decidable p] {A B : R β} (hc : ev fr c = .bool (decide p)) (ht : p → WR P f n d Q A (.code x :: k) fr ds h u) (hf : ¬ p → WR P f n d Q B (.code y :: k) fr ds h u) : WR P f n d Q (if p then A else B) (.code (.cond c x y) :: k) fr ds h u := by
  intro hb
  refine run_cond hc ?_
  by_cases hp : p
  · simp only [hp, decide_true, if_true] at hb ⊢; exact ht hp hb
  · simp only [hp, decide_false, Bool.false_eq_true, if_false] at hb ⊢; exact hf hp hb
theorem wr_iteb {c : Operand} {x y : Code} {b : Bool} {A B : R β} (hc : ev fr c = .bool b) (ht : b = true → WR P f n d Q A (.code x :: k) fr ds h u) (hf : b = false → WR P f n d Q B (.code y :: k) fr ds h u) : WR P f n d Q (if b then A else B) (.code (.cond c x y) :: k) fr ds h u := by
  intro hb
  refine run_cond hc ?_
  cases hq : b with
  | true => simp only [hq, if_true] at hb ⊢; exact ht hq hb
  | false => simp only [hq, Bool.false_eq_true, if_false] at hb ⊢; exact hf hq hb
/-- Where ways meet. -/
theorem wr_join {π : Type} (rest : π → R β) (St : π → (Nat → AV) → AHeap → Prop) {i : Item} (hk : ∀ p fr h, St p fr h → WR P f n d Q (rest p) k fr ds h u)
    (hx : (∀ p fr h, St p fr h → WR P f n d Q (rest p) k fr ds h u) → WR P f n d Q m (i :: k) fr ds h u) : WR P f n d Q m (i :: k) fr ds h u := hx hk
theorem wr_eq {m' : R β} {todo : List Item} (e : m = m') (hr : WR P f n d Q m' todo fr ds h u) : WR P f n d Q m todo fr ds h u := e ▸ hr

/-! ### Loops -/
theorem wr_loop {σ ε : Type} {c : Code} (body : σ → R (σ ⊕ ε)) (rest : ε → R β) (St : σ → (Nat → AV) → AHeap → Prop) (s0 : σ) (hs : St s0 fr h)
    (round : ∀ W : σ → R ε, (∀ s fr h, St s fr h → WR P f n d Q ((W s).bind rest) (.inLoop c :: k) fr ds h u) → ∀ s fr h, St s fr h →
      WR P f n d Q ((body s).bind fun x => match x with | .inl s' => (W s').bind rest | .inr e => rest e) (.code c :: .inLoop c :: k) fr ds h u) :
    WR P f n d Q ((loop body s0).bind rest) (.code (.loop c) :: k) fr ds h u := by
  have key : ∀ n' s fr h, St s fr h → WR P f n d Q ((iter body n' s).bind rest) (.inLoop c :: k) fr ds h u := by
    intro n'
    induction n' with
    | zero => intro s fr h _ hb; exact absurd hb Q.bad
    | succ n' ih =>
      intro s fr h hs hb
      refine run_again ?_
      have e : (iter body (n' + 1) s).bind rest = (body s).bind fun x => match x with | .inl s' => (iter body n' s').bind rest | .inr e => rest e := by
        rw [iter, R.bind_assoc]
        congr 1
        funext x
        cases x <;> rfl
      have := round (iter body n') ih s fr h hs
      rw [← e] at this
      exact this hb
  intro hb
  by_cases hl : loop body s0 = .bad
  · rw [hl] at hb; exact absurd hb Q.bad
  · obtain ⟨n', hn⟩ := loop_bad hl
    rw [hn] at hb ⊢
    exact run_loop (key n' s0 fr h hs hb)
theorem wr_each {α σ ε : Type} {c : Code} (L : List α) (body : Nat → α → σ → R (σ ⊕ ε)) (rest : σ ⊕ ε → R β) (St : Nat → σ → (Nat → AV) → AHeap → Prop) (s0 : σ) (hs : St 0 s0 fr h)
    (round : ∀ (j : Nat) (a : α), L[j]? = some a → ∀ W : σ → R (σ ⊕ ε), (∀ s fr h, St (j + 1) s fr h → WR P f n d Q ((W s).bind rest) (.inLoop c :: k) fr ds h u) → ∀ s fr h, St j s fr h →
      WR P f n d Q ((body j a s).bind fun x => match x with | .inl s' => (W s').bind rest | .inr e => rest (.inr e)) (.code c :: .inLoop c :: k) fr ds h u)
    (fin : ∀ s fr h, St L.length s fr h → WR P f n d Q (rest (.inl s)) (.code c :: .inLoop c :: k) fr ds h u) :
    WR P f n d Q ((each body 0 L s0).bind rest) (.code (.loop c) :: k) fr ds h u := by
  have key : ∀ (l : List α) (j : Nat), j ≤ L.length → L.drop j = l → ∀ s fr h, St j s fr h → WR P f n d Q ((each body j l s).bind rest) (.inLoop c :: k) fr ds h u := by
    intro l
    induction l with
    | nil =>
      intro j hj hl s fr h hs hb
      have : j = L.length := by
        have := List.drop_eq_nil_iff.1 hl; omega
      subst this
      exact run_again (fin s fr h hs hb)
    | cons a l ih =>
      intro j hj hl s fr h hs hb
      have hlt : j < L.length := by
        rcases Nat.lt_or_ge j L.length with hh | hh
        · exact hh
        · rw [List.drop_eq_nil_of_le hh] at hl; cases hl
      have ha : L[j]? = some a := by
        have := List.getElem?_drop (xs := L) (i := j) (j := 0)
        rw [hl] at this; simpa using this.symm
      have hl' : L.drop (j + 1) = l := by
        have := congrArg List.tail hl
        simpa using this
      refine run_again ?_
      have e : (each body j (a :: l) s).bind rest = (body j a s).bind fun x => match x with | .inl s' => (each body (j + 1) l s').bind rest | .inr e => rest (.inr e) := by
        rw [each_cons, R.bind_assoc]
        congr 1
        funext x
        cases x <;> rfl
      have := round j a ha (fun s' => each body (j + 1) l s') (ih (j + 1) hlt hl') s fr h hs
      rw [← e] at this
      exact this hb
  intro hb
  exact run_loop (key L 0 (Nat.zero_le _) rfl s0 fr h hs hb)

/-! ### Regions -/
theorem wr_region {id : Nat} {ops : List Oper} (hx : WO P f n d Q k ops m ops fr ds h u) : WR P f n d Q m (.code (.region id ⟨ops⟩ false) :: k) fr ds h u := fun hb => by
  refine run_step (fun _ _ _ => stepR_region) ?_
  have := hx hb 0 (fun j => by simp)
  rwa [← List.range_eq_range'] at this
section
variable {all r : List Oper} {ty : TypeId} {pos : String} {after : Array Edge}
theorem wo_nil (hr : WR P f n d Q m k fr ds h u) : WO P f n d Q k all m [] fr ds h u := fun hb i hi B mu w a cs p => .head stepR_region_end (hr hb B mu w a cs p)
/-- One operation. -/
theorem wo_one {o : Oper} (hd : dstOk n o.dst = true) (hw : aWanted all fr o = some true)
    (hx : Q.V m → ∀ (K : AV → List AD → AHeap → AU → Prop) (U : AV → KT), (∀ v ds' h' u', WO P f n d Q k all m r (putD fr o.dst v) ds' h' u' → K v ds' h' u') → (∀ v fr ds h u, Unw P f n d (.pan v false) fr ds h u (Q.Q m) → U v fr ds h u) → aOne P d U fr ds h u o.op K) :
    WO P f n d Q k all m (o :: r) fr ds h u := by
  intro hb i hi
  have ho : (⟨all⟩ : Array Oper)[i]? = some o := by simpa using hi 0
  have hi' : ∀ j, all[i + 1 + j]? = r[j]? := fun j => by have := hi (j + 1); rw [show i + (j + 1) = i + 1 + j by omega] at this; simpa using this
  simp only [List.length_cons, List.range'_succ]
  exact one_sound ho hd hw (hx hb _ _ (fun v ds' h' u' hk => hk hb (i + 1) hi') (fun _ _ _ _ _ hu => hu))
theorem wo_skip {o : Oper} (hd : dstOk n o.dst = true) (hw : aWanted all fr o = some false) (hk : WO P f n d Q k all m r (putD fr o.dst .und) ds h u) : WO P f n d Q k all m (o :: r) fr ds h u := by
  intro hb i hi
  have ho : (⟨all⟩ : Array Oper)[i]? = some o := by simpa using hi 0
  have hi' : ∀ j, all[i + 1 + j]? = r[j]? := fun j => by have := hi (j + 1); rw [show i + (j + 1) = i + 1 + j by omega] at this; simpa using this
  simp only [List.length_cons, List.range'_succ]
  exact skip_sound ho hd hw (hk hb (i + 1) hi')
theorem one_aop {t : List AD} {op : Op} {v : AV} {U : AV → KT} {K : AV → List AD → AHeap → AU → Prop} (hv : aPure P fr h op = some v) (hK : K v ds h u) : aOne P d U fr ds h u op K := by
  have e : aOne P d U fr ds h u op K = aop P fr h op (fun v h' => K v ds h' u) := by
    unfold aOne
    split
    · simp [aPure] at hv
    · simp [aPure] at hv
    · simp [aPure] at hv
    · simp [aPure] at hv
    · rfl
  rw [e]
  exact aPure_aop hv hK
theorem wanted_of {j tj : Nat} {want b : Bool} {op : Op} {dst : Option Tmp} (hj : (all[j]?).bind (·.dst) = some tj) (hg : fr tj = .bool b) : aWanted all fr ⟨dst, op, ty, pos, after, some (j, want)⟩ = some (b == want) := by
  unfold aWanted
  simp only [hj, hg]
theorem wanted_yes {j tj : Nat} {want : Bool} {op : Op} {dst : Option Tmp} (hj : (all[j]?).bind (·.dst) = some tj) (hg : fr tj = .bool want) : aWanted all fr ⟨dst, op, ty, pos, after, some (j, want)⟩ = some true := by
  rw [wanted_of hj hg]; simp
theorem wo_val {t : Nat} {op : Op} (v : AV) (ht : Nat.blt t n = true) (hv : aPure P (frA l) h op = some v) (hk : WO P f n d Q k all m r (frA ((t, v) :: l)) ds h u) :
    WO P f n d Q k all m (⟨some t, op, ty, pos, after, none⟩ :: r) (frA l) ds h u :=
  wo_one (by simpa [dstOk] using ht) rfl fun hb K U hK hU => one_aop (t := ds) hv (hK _ _ _ _ (by rw [putD_frA]; exact hk))
/-- A guarded operation that is wanted. -/
theorem wo_valg {t j tj : Nat} {want : Bool} {op : Op} (v : AV) (hj : (all[j]?).bind (·.dst) = some tj) (hg : frA l tj = .bool want) (ht : Nat.blt t n = true) (hv : aPure P (frA l) h op = some v) (hk : WO P f n d Q k all m r (frA ((t, v) :: l)) ds h u) :
    WO P f n d Q k all m (⟨some t, op, ty, pos, after, some (j, want)⟩ :: r) (frA l) ds h u :=
  wo_one (by simpa [dstOk] using ht) (by rw [wanted_of hj hg]; simp) fun hb K U hK hU => one_aop (t := ds) hv (hK _ _ _ _ (by rw [putD_frA]; exact hk))
/-- A guarded operation that is not wanted. -/
theorem wo_not {t j tj : Nat} {want b : Bool} {op : Op} (hj : (all[j]?).bind (·.dst) = some tj) (hg : frA l tj = .bool b) (hne : (b == want) = false) (ht : Nat.blt t n = true) (hk : WO P f n d Q k all m r (frA ((t, .und) :: l)) ds h u) :
    WO P f n d Q k all m (⟨some t, op, ty, pos, after, some (j, want)⟩ :: r) (frA l) ds h u :=
  wo_skip (by simpa [dstOk] using ht) (by rw [wanted_of hj hg, hne]) (by rw [putD_frA]; exact hk)
theorem wo_notn {j tj : Nat} {want b : Bool} {op : Op} (hj : (all[j]?).bind (·.dst) = some tj) (hg : frA l tj = .bool b) (hne : (b == want) = false) (hk : WO P f n d Q k all m r (frA l) ds h u) :
    WO P f n d Q k all m (⟨none, op, ty, pos, after, some (j, want)⟩ :: r) (frA l) ds h u :=
  wo_skip rfl (by rw [wanted_of hj hg, hne]) hk
/-- Not wanted: its guard was not wanted either. -/
theorem wo_notu {t j tj : Nat} {want : Bool} {op : Op} (hj : (all[j]?).bind (·.dst) = some tj) (hg : frA l tj = .und) (ht : Nat.blt t n = true) (hk : WO P f n d Q k all m r (frA ((t, .und) :: l)) ds h u) :
    WO P f n d Q k all m (⟨some t, op, ty, pos, after, some (j, want)⟩ :: r) (frA l) ds h u :=
  wo_skip (by simpa [dstOk] using ht) (by unfold aWanted; simp only [hj, hg]) (by rw [putD_frA]; exact hk)

/-! ### The model's own steps -/
theorem wo_idx {α : Type} {L : List α} {i : Int} {rest : α → R β} {ops : List Oper} (hk : ∀ a, 0 ≤ i → L[i.toNat]? = some a → WO P f n d Q k all (rest a) ops fr ds h u) : WO P f n d Q k all ((idx L i).bind rest) ops fr ds h u := by
  intro hb
  unfold idx at hb ⊢
  by_cases h0 : 0 ≤ i
  · rw [if_pos h0] at hb ⊢
    cases hq : L[i.toNat]? with
    | none => rw [hq] at hb; exact absurd hb Q.bad
    | some a => rw [hq] at hb; exact hk a h0 hq hb
  · rw [if_neg h0] at hb; exact absurd hb Q.bad
/-- What must hold. -/
theorem wo_need {p : Prop} [Decidable p] {rest : R β} {ops : List Oper} (hk : p → WO P f n d Q k all rest ops fr ds h u) : WO P f n d Q k all (if p then rest else .bad) ops fr ds h u := by
  intro hb
  by_cases hp : p
  · rw [if_pos hp] at hb ⊢; exact hk hp hb
  · rw [if_neg hp] at hb; exact absurd hb Q.bad
theorem wo_eq {m' : R β} {ops : List Oper} (e : m = m') (hr : WO P f n d Q k all m' ops fr ds h u) : WO P f n d Q k all m ops fr ds h u := e ▸ hr
theorem wo_iteb {b : Bool} {A B : R β} {ops : List Oper} (ht : b = true → WO P f n d Q k all A ops fr ds h u) (hf : b = false → WO P f n d Q k all B ops fr ds h u) : WO P f n d Q k all (if b then A else B) ops fr ds h u := by
  intro hb
  cases hq : b with
  | true => simp only [hq, if_true] at hb ⊢; exact ht hq hb
  | false => simp only [hq, Bool.false_eq_true, if_false] at hb ⊢; exact hf hq hb
theorem wo_ite {p : Prop} [Decidable p] {A B : R β} {ops : List Oper} (ht : p → WO P f n d Q k all A ops fr ds h u) (hf : ¬ p → WO P f n d Q k all B ops fr ds h u) : WO P f n d Q k all (if p then A else B) ops fr ds h u := by
  intro hb
  by_cases hp : p
  · rw [if_pos hp] at hb ⊢; exact ht hp hb
  · rw [if_neg hp] at hb ⊢; exact hf hp hb

/-! ### Frames made shorter -/
theorem frA_le {l l' : List (Nat × AV)} (hx : ∀ p ∈ l', frA l p.1 = p.2) (t : Nat) : frA l' t = .any ∨ frA l' t = frA l t := by
  induction l' with
  | nil => exact .inl rfl
  | cons p l' ih =>
    have hp := hx p (List.mem_cons_self ..)
    simp only [frA]
    cases hq : Nat.beq t p.1 with
    | true =>
      have := Nat.eq_of_beq_eq_true hq
      subst this
      exact .inr hp.symm
    | false => exact ih fun q hq => hx q (List.mem_cons_of_mem _ hq)
theorem run_le {todo : List Item} {fr' : Nat → AV} {Q' : QT} (hx : ∀ t, fr' t = .any ∨ fr' t = fr t) (hr : Run P f n d todo fr' ds h u Q') : Run P f n d todo fr ds h u Q' := by
  intro B mu w a cs p
  refine hr B mu w a cs ⟨p.size, fun t => ?_, p.ds, p.sim, p.cs, p.rnd, p.fb⟩
  rcases hx t with e | e
  · rw [e]; exact .any _
  · rw [e]; exact p.fr t
theorem wo_fr {ops : List Oper} (l' : List (Nat × AV)) (hx : ∀ p ∈ l', frA l p.1 = p.2) (hr : WO P f n d Q k all m ops (frA l') ds h u) : WO P f n d Q k all m ops (frA l) ds h u := fun hb i hi => run_le (frA_le hx) (hr hb i hi)
theorem wr_fr {todo : List Item} (l' : List (Nat × AV)) (hx : ∀ p ∈ l', frA l p.1 = p.2) (hr : WR P f n d Q m todo (frA l') ds h u) : WR P f n d Q m todo (frA l) ds h u := fun hb => run_le (frA_le hx) (hr hb)
/-- the slots that are told -/
inductive FrIs (l : List (Nat × AV)) : List (Nat × AV) → Prop
  | nil : FrIs l []
  | cons {t : Nat} {v : AV} {r : List (Nat × AV)} (hx : frA l t = v) (hr : FrIs l r) : FrIs l ((t, v) :: r)
theorem FrIs.get {l l' : List (Nat × AV)} (h : FrIs l l') : ∀ p ∈ l', frA l p.1 = p.2 := by
  induction h with
  | nil => intro p hp; cases hp
  | cons hx hr ih =>
    intro p hp
    rcases List.mem_cons.1 hp with rfl | hp
    · exact hx
    · exact ih p hp
theorem wr_is {todo : List Item} (l' : List (Nat × AV)) (hx : FrIs l l') (hr : WR P f n d Q m todo (frA l') ds h u) : WR P f n d Q m todo (frA l) ds h u := wr_fr l' hx.get hr
theorem wo_is {ops : List Oper} (l' : List (Nat × AV)) (hx : FrIs l l') (hr : WO P f n d Q k all m ops (frA l') ds h u) : WO P f n d Q k all m ops (frA l) ds h u := wo_fr l' hx.get hr
/-- The same, with parts made content. -/
inductive FrFz (h h2 : AHeap) (l : List (Nat × AV)) : List (Nat × AV) → Prop
  | nil : FrFz h h2 l []
  | cons {t : Nat} {v : AV} {r : List (Nat × AV)} (hx : Fz h h2 (frA l t) v) (hr : FrFz h h2 l r) : FrFz h h2 l ((t, v) :: r)
theorem FrFz.get {h h2 : AHeap} {l l' : List (Nat × AV)} (hf : FrFz h h2 l l') (t : Nat) : Fz h h2 (frA l t) (frA l' t) := by
  induction hf with
  | nil => exact .any _
  | @cons s v r hx hr ih =>
    simp only [frA]
    cases hq : Nat.beq t s with
    | true =>
      have := Nat.eq_of_beq_eq_true hq
      subst this
      exact hx
    | false => exact ih
theorem wr_frz {todo : List Item} {h2 : AHeap} (l' : List (Nat × AV)) (hs : Sub h2 h) (hx : FrFz h h2 l l') (hds : ds = ds) (hd : d = d) (hr : WR P f n d Q m todo (frA l') ds h2 u) : WR P f n d Q m todo (frA l) ds h u := fun hb => run_freeze hs hx.get hds hd (hr hb)
theorem wo_frz {ops : List Oper} {h2 : AHeap} (l' : List (Nat × AV)) (hs : Sub h2 h) (hx : FrFz h h2 l l') (hds : ds = ds) (hd : d = d) (hr : WO P f n d Q k all m ops (frA l') ds h2 u) : WO P f n d Q k all m ops (frA l) ds h u := fun hb i hi => run_freeze hs hx.get hds hd (hr hb i hi)
/-- Objects that are no longer needed. -/
inductive Drops : List (Option AO) → List (Option AO) → Prop
  | nil : Drops [] []
  | keep {x : Option AO} {xs ys : List (Option AO)} (h : Drops xs ys) : Drops (x :: xs) (x :: ys)
  | drop {x : Option AO} {xs ys : List (Option AO)} (h : Drops xs ys) : Drops (x :: xs) (none :: ys)
theorem Drops.sub {h0 : AHeap} : ∀ {ids : List Nat} {xs ys : List (Option AO)}, Drops xs ys → ids.length = xs.length → Sub (hp h0 ids ys) (hp h0 ids xs)
  | [], _, _, .nil, _ => Sub.refl _
  | a :: ids, _, _, .keep hd, hl => Sub.upd (Drops.sub hd (by simpa using hl)) a _
  | a :: ids, _, _, @Drops.drop x xs ys hd, hl => fun o z hz => by
    simp only [hp, upd] at hz ⊢
    split
    · rename_i hq; rw [if_pos hq] at hz; cases hz
    · rename_i hq; rw [if_neg hq] at hz; exact Drops.sub hd (by simpa using hl) o z hz
theorem wr_hp {todo : List Item} {fr : Nat → AV} {h0 : AHeap} {ids : List Nat} {xs : List (Option AO)} (ys : List (Option AO)) (e : xs = ys) (hr : WR P f n d Q m todo fr ds (hp h0 ids ys) u) : WR P f n d Q m todo fr ds (hp h0 ids xs) u := e ▸ hr
theorem wr_drop {todo : List Item} {fr : Nat → AV} {h0 : AHeap} {ids : List Nat} {N : Nat} {xs : List (Option AO)} (ys : List (Option AO)) (hI : Ids h0 ids N) (hl : xs.length = N) (hx : Drops xs ys) (hr : WR P f n d Q m todo fr ds (hp h0 ids ys) u) :
    WR P f n d Q m todo fr ds (hp h0 ids xs) u := fun hb => run_sub (hx.sub (hI.len.trans hl.symm)) (hr hb)
end
end
end Go.Am
