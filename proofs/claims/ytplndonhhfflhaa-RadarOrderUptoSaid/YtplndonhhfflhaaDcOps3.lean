/- Arguments made content, slices handed out, more about draws. -/
import Derived.Test.YtplndonhhfflhaaDcOps2
namespace Go.Am
open Go
set_option linter.unusedSimpArgs false
set_option linter.unusedVariables false
set_option linter.unusedSectionVars false

theorem ACalls.weak {P : Program} [GW P] {g : FuncId} {args args' : List AV} {h : AHeap} {Q : AR → AHeap → Prop} (hz : LF h h args args') (hc : ACalls P g args' h Q) : ACalls P g args h Q := by
  refine ⟨hc.1, fun B mu w cargs s ha => hc.2 B mu w cargs s ⟨hz.all.1 ▸ ha.1, fun i hi => ?_⟩⟩
  have hi' : i < args.length := by rw [hz.all.1]; exact hi
  exact freeze_sound s (Sub.refl _) (hz.all.2 i hi') (ha.2 i hi')
def AV.isAgg : AV → Bool
  | .agg _ => true
  | _ => false
theorem guard_agg {P : Program} [GW P] {o : BinOp} {t : TypeId} {x y : Operand} {a b : AV} (ha : a.isAgg = true) (hb : b.isAgg = true) (he : eqOk P t = true) : guardOk P o t x y a b = true := by
  cases a <;> simp [AV.isAgg] at ha
  cases b <;> simp [AV.isAgg] at hb
  cases o <;> simp [guardOk, he]

/-- The answer is a slice that nobody else has. -/
def AnsO {α : Type} (st : Nat) (e : α → List AV) (h : AHeap) (o : Nat) (m : R (List α)) : AR → AHeap → Prop := fun r h' => match m with
  | .ok a => ∃ v g, r = .ret v ∧ OwnV v o g a.length ∧ h' = upd h o (ownO v g st (a.map e))
  | .pan v => r = .panic v.av ∧ h' = h
  | .bad => False
def CPO {α : Type} (P : Program) [GW P] (g : FuncId) (args : List AV) (m : R (List α)) (st : Nat) (e : α → List AV) : Prop := ∀ h o, h o = none → m ≠ .bad → ACalls P g args h (AnsO st e h o m)

section
variable {P : Program} [GW P] {f : FuncId} {n : Nat} {d : FK} {β γ : Type} {Q : Spec β} {ds : List AD} {u : AU} {k : List Item} {l : List (Nat × AV)} {F : γ → R β}
variable {all r : List Oper} {ty : TypeId} {pos : String} {after : Array Edge} {h0 : AHeap} {ids : List Nat} {xs : List (Option AO)} {N : Nat}
theorem of_callO {α : Type} {t j st : Nat} {x : Operand} {as : List Operand} {ts : Array TypeId} {g : FuncId} {fst cap : List AV} (A : List AV) {mg : R (List α)} {e : α → List AV} {rest : List α → R γ} (hI : Ids h0 ids N) (hl : xs.length = N) (hjn : Nat.blt j N = true) (hj : xs[j]? = some none)
    (ht : Nat.blt t n = true) (hx : ev (frA l) x = .func (.func g) fst cap) (ha : fst ++ evs (frA l) as ++ cap = A) (hc : mg ≠ .bad → ACalls P g A (hp h0 ids xs) (AnsO st e (hp h0 ids xs) (ix ids j) mg))
    (hp' : ∀ v, mg = .pan v → WU P f n d Q (.pan v) (.pan v.av false) (frA l) ds (hp h0 ids xs) u)
    (hk : ∀ a, mg = .ok a → ∀ v g', OwnV v (ix ids j) g' a.length → WO P f n d Q k all ((rest a).bind F) r (frA ((t, v) :: l)) ds (hp h0 ids (xs.set j (ownO v g' st (a.map e)))) u) :
    WO P f n d Q k all ((mg.bind rest).bind F) (⟨some t, .call ⟨.value x, ⟨as⟩, ts⟩, ty, pos, after, none⟩ :: r) (frA l) ds (hp h0 ids xs) u := by
  refine wo_eq (R.bind_assoc _ _ _) (wo_one (by simpa [dstOk] using ht) rfl fun hb K U hK hU => ?_)
  simp only [aOne, hx]
  rw [ha]
  have hmb : mg ≠ .bad := fun q => by rw [q] at hb; exact Q.bad hb
  refine (hc hmb).mono fun r' h' hr => ?_
  cases hm : mg with
  | bad => exact absurd hm hmb
  | ok a =>
    rw [hm] at hr hb hK
    obtain ⟨v, g', rfl, hv, rfl⟩ := hr
    rw [hI.set hl hjn]
    exact hK _ _ _ _ (by rw [putD_frA]; exact hk a hm v g' hv)
  | pan v =>
    rw [hm] at hr hb hU
    obtain ⟨rfl, rfl⟩ := hr
    exact hU _ _ _ _ _ (hp' v hm hb)
end

/-! ### Draws with effects -/
section
variable {P : Program} [GW P] {f : FuncId} {n : Nat} {d : FK} {β γ : Type} {Q : Spec β} {m : R β} {fr : Nat → AV} {ds : List AD} {h : AHeap} {u : AU} {k : List Item} {l : List (Nat × AV)} {F : γ → R β}
variable {all : List Oper} {pre : List (List Nat)} {plan : Plan} {pend : Pend} {ty : TypeId} {pos : String} {after : Array Edge} {i : Nat}
theorem pend_nil : pendOk P all pre i h [] := trivial
theorem pend_yes {j : Nat} {v : AV} (hc : cl pre i j = true) (hr : pendOk P all pre i h pend) : pendOk P all pre i h ((j, fr, v) :: pend) := ⟨by rw [if_pos hc]; trivial, hr⟩
theorem pend_no {j t : Nat} {v : AV} {op : Op} (ho : all[j]? = some ⟨some t, op, ty, pos, after, none⟩) (hv : aPure P fr h op = some v) (hr : pendOk P all pre i h pend) : pendOk P all pre i h ((j, fr, v) :: pend) := by
  refine ⟨?_, hr⟩
  split
  · trivial
  · rw [ho]; simp only [aF, aWanted, hv]
theorem wp_one {o : Oper} (ho : all[i]? = some o) (hd : dstOk n o.dst = true) (hw : aWanted all fr o = some true)
    (hx : Q.V m → ∀ (K : AV → List AD → AHeap → AU → Prop) (U : AV → KT), (∀ v ds' h' u', pendOk P all pre i h' pend → WP P f n d Q k all pre m plan pend (putD fr o.dst v) ds' h' u' → K v ds' h' u') →
      (∀ v fr ds h u, (∀ fr', (∀ t, (all.any fun o => o.dst == some t) = false → fr' t = fr t) → Unw P f n d (.pan v false) fr' ds h u (Q.Q m)) → U v fr ds h u) → aOne P d U fr ds h u o.op K) : WP P f n d Q k all pre m ((true, i) :: plan) pend fr ds h u := by
  intro hb K U hK
  simp only [aPlan, ho]
  refine ⟨hd, ?_⟩
  rw [hw]
  exact hx hb _ _ (fun v ds' h' u' hp hk => ⟨hp, hk hb K U hK⟩) (fun v fr ds h u hu fr' hf => hK.unw _ _ _ _ _ (hu fr' fun t ht => hf t fun o ho hq => by
    have := List.any_eq_false.1 ht o ho
    simp [hq] at this))
theorem wp_op {t : Nat} {op : Op} (ho : all[i]? = some ⟨some t, op, ty, pos, after, none⟩) (ht : Nat.blt t n = true) (h1 : ∀ (K : AV → List AD → AHeap → AU → Prop) (U : AV → KT), aOne P d U (frA l) ds h u op K = aop P (frA l) h op (fun v h' => K v ds h' u))
    (hx : ∀ K : AV → AHeap → Prop, (∀ v h', pendOk P all pre i h' pend → WP P f n d Q k all pre m plan pend (frA ((t, v) :: l)) ds h' u → K v h') → aop P (frA l) h op K) :
    WP P f n d Q k all pre m ((true, i) :: plan) pend (frA l) ds h u :=
  wp_one ho (by simpa [dstOk] using ht) rfl fun hb K U hK hU => by
    rw [h1]
    exact hx _ fun v h' hp hw => hK _ _ _ _ hp (by rw [putD_frA]; exact hw)
theorem wp_op0 {op : Op} (ho : all[i]? = some ⟨none, op, ty, pos, after, none⟩) (h1 : ∀ (K : AV → List AD → AHeap → AU → Prop) (U : AV → KT), aOne P d U (frA l) ds h u op K = aop P (frA l) h op (fun v h' => K v ds h' u))
    (hx : ∀ K : AV → AHeap → Prop, (∀ v h', pendOk P all pre i h' pend → WP P f n d Q k all pre m plan pend (frA l) ds h' u → K v h') → aop P (frA l) h op K) :
    WP P f n d Q k all pre m ((true, i) :: plan) pend (frA l) ds h u :=
  wp_one ho rfl rfl fun hb K U hK hU => by
    rw [h1]
    exact hx _ fun v h' hp hw => hK _ _ _ _ hp hw
theorem wp_call {α : Type} {t : Nat} {x : Operand} {as : List Operand} {ts : Array TypeId} {g : FuncId} {fst cap : List AV} {gd : Option (Nat × Bool)} (A : List AV) {mg : R α} {e : α → AV} {rest : α → R γ} (ho : all[i]? = some ⟨some t, .call ⟨.value x, ⟨as⟩, ts⟩, ty, pos, after, gd⟩) (hw : aWanted all (frA l) ⟨some t, .call ⟨.value x, ⟨as⟩, ts⟩, ty, pos, after, gd⟩ = some true) (ht : Nat.blt t n = true) (hx : ev (frA l) x = .func (.func g) fst cap)
    (ha : fst ++ evs (frA l) as ++ cap = A) (hc : mg ≠ .bad → ACalls P g A h (AnsR e h mg)) (hp : ∀ v, mg = .pan v → ∀ fr, (∀ t, (all.any fun o => o.dst == some t) = false → fr t = frA l t) → WU P f n d Q (.pan v) (.pan v.av false) fr ds h u) (hpd : pendOk P all pre i h pend) (hk : ∀ a, mg = .ok a → WP P f n d Q k all pre ((rest a).bind F) plan pend (frA ((t, e a) :: l)) ds h u) :
    WP P f n d Q k all pre ((mg.bind rest).bind F) ((true, i) :: plan) pend (frA l) ds h u := by
  refine wp_eq (R.bind_assoc _ _ _) (wp_one ho (by simpa [dstOk] using ht) hw fun hb K U hK hU => ?_)
  simp only [aOne, hx]
  rw [ha]
  have hmb : mg ≠ .bad := fun q => by rw [q] at hb; exact Q.bad hb
  refine (hc hmb).mono fun r' h' hr => ?_
  obtain ⟨rfl, hr⟩ := hr
  cases hm : mg with
  | bad => exact absurd hm hmb
  | ok a =>
    rw [hm] at hr hb hK
    subst hr
    exact hK _ _ _ _ hpd (by rw [putD_frA]; exact hk a hm)
  | pan v =>
    rw [hm] at hr hb hU
    subst hr
    exact hU _ _ _ _ _ (fun fr' hf => hp v hm fr' hf hb)
theorem wp_callO {α : Type} {h0 : AHeap} {ids : List Nat} {xs : List (Option AO)} {N t j st : Nat} {x : Operand} {as : List Operand} {ts : Array TypeId} {g : FuncId} {fst cap : List AV} (A : List AV) {mg : R (List α)} {e : α → List AV} {rest : List α → R γ} (ho : all[i]? = some ⟨some t, .call ⟨.value x, ⟨as⟩, ts⟩, ty, pos, after, none⟩)
    (hI : Ids h0 ids N) (hl : xs.length = N) (hjn : Nat.blt j N = true) (hj : xs[j]? = some none)
    (ht : Nat.blt t n = true) (hx : ev (frA l) x = .func (.func g) fst cap) (ha : fst ++ evs (frA l) as ++ cap = A) (hc : mg ≠ .bad → ACalls P g A (hp h0 ids xs) (AnsO st e (hp h0 ids xs) (ix ids j) mg))
    (hp' : ∀ v, mg = .pan v → ∀ fr, (∀ t, (all.any fun o => o.dst == some t) = false → fr t = frA l t) → WU P f n d Q (.pan v) (.pan v.av false) fr ds (hp h0 ids xs) u)
    (hk : ∀ a, mg = .ok a → ∀ v g', OwnV v (ix ids j) g' a.length → pendOk P all pre i (hp h0 ids (xs.set j (ownO v g' st (a.map e)))) pend ∧ WP P f n d Q k all pre ((rest a).bind F) plan pend (frA ((t, v) :: l)) ds (hp h0 ids (xs.set j (ownO v g' st (a.map e)))) u) :
    WP P f n d Q k all pre ((mg.bind rest).bind F) ((true, i) :: plan) pend (frA l) ds (hp h0 ids xs) u := by
  refine wp_eq (R.bind_assoc _ _ _) (wp_one ho (by simpa [dstOk] using ht) rfl fun hb K U hK hU => ?_)
  simp only [aOne, hx]
  rw [ha]
  have hmb : mg ≠ .bad := fun q => by rw [q] at hb; exact Q.bad hb
  refine (hc hmb).mono fun r' h' hr => ?_
  cases hm : mg with
  | bad => exact absurd hm hmb
  | ok a =>
    rw [hm] at hr hb hK
    obtain ⟨v, g', rfl, hv, rfl⟩ := hr
    rw [hI.set hl hjn]
    obtain ⟨k1, k2⟩ := hk a hm v g' hv
    exact hK _ _ _ _ k1 (by rw [putD_frA]; exact k2)
  | pan v =>
    rw [hm] at hr hb hU
    obtain ⟨rfl, rfl⟩ := hr
    exact hU _ _ _ _ _ (fun fr' hf => hp' v hm fr' hf hb)
theorem wp_valg {t j tj : Nat} {want : Bool} {op : Op} (v : AV) (ho : all[i]? = some ⟨some t, op, ty, pos, after, some (j, want)⟩) (hj : (all[j]?).bind (·.dst) = some tj) (hg : frA l tj = .bool want) (ht : Nat.blt t n = true) (hv : aPure P (frA l) h op = some v)
    (hk : WP P f n d Q k all pre m plan ((i, frA l, v) :: pend) (frA ((t, v) :: l)) ds h u) : WP P f n d Q k all pre m ((false, i) :: plan) pend (frA l) ds h u := by
  intro hb K U hK
  simp only [aPlan, ho]
  refine ⟨by simpa [dstOk] using ht, ?_⟩
  have e : aF P all (frA l) h ⟨some t, op, ty, pos, after, some (j, want)⟩ = some v := by simp only [aF, wanted_of hj hg, beq_self_eq_true, hv]
  rw [e]
  simp only [putD_frA]
  exact hk hb K U hK
theorem wp_not {t j tj : Nat} {want b : Bool} {op : Op} (ho : all[i]? = some ⟨some t, op, ty, pos, after, some (j, want)⟩) (hj : (all[j]?).bind (·.dst) = some tj) (hg : frA l tj = .bool b) (hne : (b == want) = false) (ht : Nat.blt t n = true)
    (hk : WP P f n d Q k all pre m plan ((i, frA l, .und) :: pend) (frA ((t, .und) :: l)) ds h u) : WP P f n d Q k all pre m ((false, i) :: plan) pend (frA l) ds h u := by
  intro hb K U hK
  simp only [aPlan, ho]
  refine ⟨by simpa [dstOk] using ht, ?_⟩
  have e : aF P all (frA l) h ⟨some t, op, ty, pos, after, some (j, want)⟩ = some .und := by simp only [aF, wanted_of hj hg, hne]
  rw [e]
  simp only [putD_frA]
  exact hk hb K U hK
theorem wp_skipE {o : Oper} (ho : all[i]? = some o) (hd : dstOk n o.dst = true) (hw : aWanted all fr o = some false) (hk : WP P f n d Q k all pre m plan pend (putD fr o.dst .und) ds h u) : WP P f n d Q k all pre m ((true, i) :: plan) pend fr ds h u := by
  intro hb K U hK
  simp only [aPlan, ho]
  refine ⟨hd, ?_⟩
  rw [hw]
  exact hk hb K U hK
theorem wp_notE {t j tj : Nat} {want b : Bool} {op : Op} (ho : all[i]? = some ⟨some t, op, ty, pos, after, some (j, want)⟩) (hj : (all[j]?).bind (·.dst) = some tj) (hg : frA l tj = .bool b) (hne : (b == want) = false) (ht : Nat.blt t n = true)
    (hk : WP P f n d Q k all pre m plan pend (frA ((t, .und) :: l)) ds h u) : WP P f n d Q k all pre m ((true, i) :: plan) pend (frA l) ds h u :=
  wp_skipE ho (by simpa [dstOk] using ht) (by rw [wanted_of hj hg, hne]) (by rw [putD_frA]; exact hk)
theorem wp_notu {t j tj : Nat} {want : Bool} {op : Op} (ho : all[i]? = some ⟨some t, op, ty, pos, after, some (j, want)⟩) (hj : (all[j]?).bind (·.dst) = some tj) (hg : frA l tj = .und) (ht : Nat.blt t n = true)
    (hk : WP P f n d Q k all pre m plan ((i, frA l, .und) :: pend) (frA ((t, .und) :: l)) ds h u) : WP P f n d Q k all pre m ((false, i) :: plan) pend (frA l) ds h u := by
  intro hb K U hK
  simp only [aPlan, ho]
  refine ⟨by simpa [dstOk] using ht, ?_⟩
  have e : aF P all (frA l) h ⟨some t, op, ty, pos, after, some (j, want)⟩ = some .und := by
    simp only [aF, aWanted, hj, hg]
  rw [e]
  simp only [putD_frA]
  exact hk hb K U hK
theorem wp_notuE {t j tj : Nat} {want : Bool} {op : Op} (ho : all[i]? = some ⟨some t, op, ty, pos, after, some (j, want)⟩) (hj : (all[j]?).bind (·.dst) = some tj) (hg : frA l tj = .und) (ht : Nat.blt t n = true)
    (hk : WP P f n d Q k all pre m plan pend (frA ((t, .und) :: l)) ds h u) : WP P f n d Q k all pre m ((true, i) :: plan) pend (frA l) ds h u :=
  wp_skipE ho (by simpa [dstOk] using ht) (by unfold aWanted; simp only [hj, hg]) (by rw [putD_frA]; exact hk)
theorem op_iteb {b : Bool} {A B : R γ} (ht : b = true → WP P f n d Q k all pre (A.bind F) plan pend fr ds h u) (hf : b = false → WP P f n d Q k all pre (B.bind F) plan pend fr ds h u) : WP P f n d Q k all pre ((if b then A else B).bind F) plan pend fr ds h u := by
  intro hb
  cases hq : b with
  | true => simp only [hq, if_true] at hb ⊢; exact ht hq hb
  | false => simp only [hq, Bool.false_eq_true, if_false] at hb ⊢; exact hf hq hb
theorem wp_cases {b : Bool} (ht : b = true → WP P f n d Q k all pre m plan pend fr ds h u) (hf : b = false → WP P f n d Q k all pre m plan pend fr ds h u) : WP P f n d Q k all pre m plan pend fr ds h u := by
  cases hq : b with
  | true => exact ht hq
  | false => exact hf hq
end

/-! ### A slice handed out -/
section
variable {P : Program} [GW P] {f : FuncId} {n : Nat} {α : Type} {m : R (List α)} {e : α → List AV} {st : Nat}
def AnsOQ {α : Type} (st : Nat) (e : α → List AV) (h : AHeap) (o : Nat) : Spec (List α) := ⟨fun m => m ≠ .bad, fun h => h rfl, fun m r h' _ => AnsO st e h o m r h'⟩
theorem cpo_intro {fn : Func} {c : Code} {args : List AV} (N : Nat) (hf : P.funcs[f]? = some fn) (hb : fn.body = some c) (hn : fn.name ≠ "runtime.NumGoroutine") (hnt : fn.ntmps = n) (hl : Nat.ble args.length n = true)
    (hr : ∀ (h0 : AHeap) (ids : List Nat), Ids h0 ids (N + 1) → WR P f n false (AnsOQ st e h0 (ix ids 0)) m [.code c] (frA (frOf 0 args)) [] (hp h0 ids (List.replicate (N + 1) none)) .ret) : CPO P f args m st e := by
  intro h o ho hb'
  refine calls_intro hf hb hn hnt (by simpa using hl) ?_
  refine run_ids N [o] fun os h1 h2 h3 h4 => ?_
  have hI : Ids h (o :: os) (N + 1) := ⟨List.nodup_cons.2 ⟨fun hm => h4 _ hm (List.mem_singleton.2 rfl), h2⟩, fun p hp => by
    rcases List.mem_cons.1 hp with rfl | hp
    · exact ho
    · exact h3 p hp, by simp [h1]⟩
  have := hr h (o :: os) hI hb'
  rw [hp_nones hI.fresh] at this
  refine run_le (fun t => ?_) this
  rcases frOf_fr0 args 0 t with h | ⟨_, h⟩
  · exact .inl h
  · exact .inr h
section
variable {h0 : AHeap} {ids : List Nat} {x : Option AO} {xs ys : List (Option AO)} {N : Nat} {l : List (Nat × AV)} {k : List Item} {u : AU}
theorem hp_nones' {h0 : AHeap} : ∀ {ids : List Nat} {xs : List (Option AO)}, (∀ o ∈ ids, h0 o = none) → (∀ y ∈ xs, y = none) → hp h0 ids xs = h0
  | [], xs, _, _ => by cases xs <;> rfl
  | a :: ids, [], _, _ => rfl
  | a :: ids, y :: xs, h, hy => by
    have := hy y (List.mem_cons_self ..)
    subst this
    simp only [hp]
    rw [hp_nones' (fun o ho => h o (List.mem_cons_of_mem _ ho)) (fun z hz => hy z (List.mem_cons_of_mem _ hz))]
    funext o
    unfold upd
    split
    · rename_i hq; subst hq; exact (h _ (List.mem_cons_self ..)).symm
    · rfl
theorem wu_retO {fn : Func} {a : List α} {v : AV} {g : Nat} (hf : P.funcs[f]? = some fn) (hI : Ids h0 ids N) (hl : (x :: xs).length = N) (hr : aRes P (hp h0 ids (x :: xs)) (frA l) fn.results.toList = some [v]) (hv : OwnV v (ix ids 0) g a.length) (hx : x = ownO v g st (a.map e)) :
    WU P f n false (AnsOQ st e h0 (ix ids 0)) (.ok a) .ret (frA l) [] (hp h0 ids (x :: xs)) u := fun _ => by
  have hlen : ids.length = xs.length + 1 := by rw [hI.len, ← hl]; rfl
  obtain ⟨o, os, rfl⟩ : ∃ o os, ids = o :: os := by
    cases ids with
    | nil => simp at hlen
    | cons o os => exact ⟨o, os, rfl⟩
  have e1 : hp h0 (o :: os) (x :: List.replicate xs.length none) = upd h0 o x := by
    simp only [hp]
    rw [hp_nones fun p hp => hI.fresh p (List.mem_cons_of_mem _ hp)]
  have hs : Sub (upd h0 o x) (hp h0 (o :: os) (x :: xs)) := by
    rw [← e1]
    refine hp_sub (by simpa using hlen) (by simpa using hlen) hI.nodup hI.fresh fun j => ?_
    cases j with
    | zero => exact .inl rfl
    | succ j =>
      simp only [List.getElem?_cons_succ]
      by_cases hj : j < xs.length
      · right; simp [hj]
      · left; rw [List.getElem?_eq_none (by simpa using hj), List.getElem?_eq_none (by simpa using hj)]
  refine unw_retF hf hr hs (.same _) rfl ?_
  exact ⟨v, g, rfl, hv, by rw [hx]; rfl⟩
theorem wr_retO {fn : Func} {a : List α} {v : AV} {g : Nat} (hf : P.funcs[f]? = some fn) (hI : Ids h0 ids N) (hl : (x :: xs).length = N) (hr : aRes P (hp h0 ids (x :: xs)) (frA l) fn.results.toList = some [v]) (hv : OwnV v (ix ids 0) g a.length) (hx : x = ownO v g st (a.map e)) :
    WR P f n false (AnsOQ st e h0 (ix ids 0)) (.ok a) (.code .ret :: k) (frA l) [] (hp h0 ids (x :: xs)) u := fun hV => run_ret (wu_retO hf hI hl hr hv hx hV)
theorem wu_panO {fn : Func} {v : PV} {fr : Nat → AV} {xs : List (Option AO)} {o : Nat} (hf : P.funcs[f]? = some fn) (hI : Ids h0 ids N) : WU P f n false (AnsOQ st e h0 o) (.pan v) (.pan v.av false) fr [] (hp h0 ids xs) u := fun _ =>
  unw_panF hf (hI.sub xs) (.same _) ⟨rfl, rfl⟩
end
theorem CPO.cp {args : List AV} (hc : CPO P f args m st e) (hr : ∀ x, RowOk st (e x)) : CP P f args m (fun a => .sl st (a.map e)) := by
  intro h hb
  have hbody : HasBody P f := by
    have := hc hE 0 rfl hb
    exact this.1
  refine ⟨hbody, fun B mu w cargs s ha => ?_⟩
  obtain ⟨o, ho⟩ : ∃ o, h o = none := by
    obtain ⟨N, hN⟩ := s.finh
    exact ⟨N, hN N (Nat.le_refl _)⟩
  have := (hc h o ho hb).drop (Q' := fun r h' => AnsR (fun a => AV.sl st (a.map e)) h m r h' ∨ AnsO st e h o m r h') (fun r h' hq => ⟨h', Sub.refl _, .inr hq⟩)
  refine ((hc h o ho hb).2 B mu w cargs s ha).mono ?_
  rintro en w' ⟨r, h', mu', hq, hs, hext, hE'⟩
  cases hm : m with
  | bad => exact absurd hm hb
  | pan v =>
    rw [hm] at hq
    obtain ⟨rfl, rfl⟩ := hq
    exact ⟨_, h', mu', ⟨rfl, rfl⟩, hs, hext, hE'⟩
  | ok a =>
    rw [hm] at hq
    obtain ⟨v, g, rfl, hv, rfl⟩ := hq
    have hsub : Sub h (upd h o (ownO v g st (a.map e))) := sub_new ho
    have hfz : Fz (upd h o (ownO v g st (a.map e))) h v (.sl st (a.map e)) := own_fz hv (by simp [upd]) ho hr
    refine ⟨.ret (.sl st (a.map e)), h, mu', ⟨rfl, rfl⟩, hs.sub hsub, hext.trans (EXT.sub hsub), ?_⟩
    cases en with
    | returned c => exact freeze_sound hs hsub hfz hE'
    | panicked _ => exact hE'.elim
    | outgrown => exact hE'.elim
end
/-- Comparing with nil. -/
theorem wo_nilc {P : Program} [GW P] {f : FuncId} {n : Nat} {d : FK} {β : Type} {Q : Spec β} {m : R β} {ds : List AD} {h : AHeap} {u : AU} {k : List Item} {l : List (Nat × AV)} {all r : List Oper} {ty ty2 : TypeId} {pos : String} {after : Array Edge} {t : Nat} {x : Operand} {T et : TypeId} {a b st : Nat} {z : List AV} {α : Type} {e : α → List AV} {L : List α}
    (ht : Nat.blt t n = true) (hT : ti P T = some ⟨.sl et, a, b, z⟩) (hx : ev (frA l) x = .sl st (L.map e)) (hk : ∀ c, (c = true → L = []) → WO P f n d Q k all m r (frA ((t, .bool c) :: l)) ds h u) :
    WO P f n d Q k all m (⟨some t, .binOp .eql T x (.const (.slice none 0 0)) ty2, ty, pos, after, none⟩ :: r) (frA l) ds h u :=
  wo_op ht (fun _ _ => rfl) fun K hK => by
    simp only [aop]
    refine ⟨by rw [hx]; rfl, ?_⟩
    simp only [aCmp, isNilOp, if_true, hT, hx]
    intro c hc
    refine hK _ _ (hk c fun hct => ?_)
    subst hct
    cases L with
    | nil => rfl
    | cons y L => exact absurd (hc (by simp)) (by simp)

/-! ### Maps -/
def mE {K V : Type} (eK : K → AV) (eV : V → AV) (m : List (K × V)) : List (AV × AV) := m.map fun p => (eK p.1, eV p.2)
/-- Keys that are compared by their values. -/
structure KeyE (T : TK) {K : Type} [DecidableEq K] (eK : K → AV) : Prop where
  ok : ∀ k, keyOk T (eK k) = true
  eq : ∀ a b, aKeyEq T (eK a) (eK b) = some (decide (a = b))
theorem keyE_int {k : IntKind} : KeyE (.int k) (fun n : Int => AV.int k n) := ⟨fun n => by simp [keyOk], fun a b => by simp only [aKeyEq, if_true]; congr 1⟩
theorem keyE_str : KeyE .str (fun s : Str => AV.str s) := ⟨fun n => rfl, fun a b => by simp only [aKeyEq]; by_cases h : a = b <;> simp [h]⟩
section
variable {K V : Type} [DecidableEq K] {T : TK} {eK : K → AV} {eV : V → AV}
theorem find_mE (hk : KeyE T eK) (k : K) : ∀ (m : List (K × V)) (i : Nat), ∃ r, aFind T (eK k) (mE eK eV m) i = some r ∧
    ((r = none ∧ mget m k = none ∧ ∀ w, mE eK eV m ++ [(eK k, eV w)] = mE eK eV (mput m k w)) ∨ ∃ j v, r = some (i + j, eV v) ∧ mget m k = some v ∧ ∀ w, (mE eK eV m).set j (eK k, eV w) = mE eK eV (mput m k w))
  | [], i => ⟨none, rfl, .inl ⟨rfl, rfl, fun w => rfl⟩⟩
  | (a, v) :: m, i => by
    have e1 : aFind T (eK k) (mE eK eV ((a, v) :: m)) i = if k = a then some (some (i, eV v)) else aFind T (eK k) (mE eK eV m) (i + 1) := by
      simp only [mE, List.map_cons, aFind, hk.eq]
      by_cases h : k = a <;> simp [h]
    rw [e1]
    by_cases h : k = a
    · subst h
      refine ⟨some (i, eV v), by rw [if_pos rfl], .inr ⟨0, v, rfl, by simp [mget], fun w => ?_⟩⟩
      simp [mE, mput]
    · rw [if_neg h]
      obtain ⟨r, h1, h2⟩ := find_mE hk k m (i + 1)
      have hne : (a == k) = false := by simpa using fun q => h q.symm
      refine ⟨r, h1, ?_⟩
      rcases h2 with ⟨rfl, h3, h4⟩ | ⟨j, w, rfl, h3, h5⟩
      · refine .inl ⟨rfl, ?_, fun w => ?_⟩
        · simp only [mget, List.find?_cons, hne] at h3 ⊢; exact h3
        · have := h4 w
          simp only [mE, List.map_cons, List.cons_append, mput, hne, Bool.false_eq_true, if_false] at this ⊢
          rw [this]
      · refine .inr ⟨j + 1, w, by rw [Nat.add_assoc, Nat.add_comm 1 j], ?_, fun x => ?_⟩
        · simp only [mget, List.find?_cons, hne] at h3 ⊢; exact h3
        · have := h5 x
          simp only [mE, List.map_cons, List.set_cons_succ, mput, hne, Bool.false_eq_true, if_false] at this ⊢
          rw [this]
theorem look_map {P : Program} [GW P] {h : AHeap} {t kt et : TypeId} {a b : Nat} {z : List AV} {KT ET : TI} {v : AV} {m : List (K × V)} {k : K} {zv : V} (hm : aMapOf h v = some (mE eK eV m)) (hT : ti P t = some ⟨.map kt et, a, b, z⟩) (hK : ti P kt = some KT) (hE : ti P et = some ET) (hk : KeyE KT.k eK) (hz : rdAt ET.z 0 ET.size ET.k.agg = some (eV zv)) :
    aLookup P h t v (eK k) false = some (eV ((mget m k).getD zv)) ∧ aLookup P h t v (eK k) true = some (.tup [eV ((mget m k).getD zv), .bool (mget m k).isSome]) := by
  obtain ⟨r, h1, h2⟩ := find_mE (eV := eV) hk k m 0
  simp only [aLookup, hT, hK, hE, hm, hk.ok, if_true, h1]
  rcases h2 with ⟨rfl, h3, _⟩ | ⟨j, w, rfl, h3, _⟩
  · simp [hz, h3]
  · simp [h3]
theorem upd_map {P : Program} [GW P] {h : AHeap} {t kt et : TypeId} {a b o g : Nat} {z : List AV} {KT : TI} {m : List (K × V)} {k : K} {w : V} (ho : h o = some (.mp g (mE eK eV m))) (hT : ti P t = some ⟨.map kt et, a, b, z⟩) (hK : ti P kt = some KT) (hk : KeyE KT.k eK) :
    aMapUpdate P h t (.map o g) (eK k) (eV w) = some (upd h o (some (.mp g (mE eK eV (mput m k w))))) := by
  obtain ⟨r, h1, h2⟩ := find_mE (eV := eV) hk k m 0
  simp only [aMapUpdate, hT, hK, ho, hk.ok, and_self, if_true, h1]
  rcases h2 with ⟨rfl, _, h3⟩ | ⟨j, w', rfl, _, h3⟩
  · simp only [h3]
  · simp only [Nat.zero_add, h3]
end
theorem len_map {K V : Type} {eK : K → AV} {eV : V → AV} {P : Program} [GW P] {h : AHeap} {t kt et : TypeId} {a b : Nat} {z : List AV} {o g : Nat} {m : List (K × V)} (ho : h o = some (.mp g (mE eK eV m))) (hT : ti P t = some ⟨.map kt et, a, b, z⟩) : aLen P h t (.map o g) = some (.int .i64 (m.length : Int)) := by
  simp only [aLen, hT, ho, if_true, mE, List.length_map]
theorem mapOf_at {K V : Type} {eK : K → AV} {eV : V → AV} {h : AHeap} {o g : Nat} {m : List (K × V)} (ho : h o = some (.mp g (mE eK eV m))) : aMapOf h (.map o g) = some (mE eK eV m) := by simp only [aMapOf, ho, if_true]
theorem Ids.for' {h0 : AHeap} {ids : List Nat} {N : Nat} (hI : Ids h0 ids N) {xs : List (Option AO)} {o : Nat} {x : AO} (ho : h0 o = some x) : hp h0 ids xs o = some x := by
  have : o ∉ ids := fun hm => by rw [hI.fresh o hm] at ho; cases ho
  rw [hp_out this]; exact ho
section
variable {P : Program} [GW P] {f : FuncId} {n : Nat} {d : FK} {β γ : Type} {Q : Spec β} {m : R β} {ds : List AD} {h : AHeap} {u : AU} {k : List Item} {l : List (Nat × AV)} {F : γ → R β}
variable {all r : List Oper} {ty : TypeId} {pos : String} {after : Array Edge} {h0 : AHeap} {ids : List Nat} {xs : List (Option AO)} {N j : Nat}
theorem eff_makeMap {fr : Nat → AV} {t : TypeId} {K : AV → AHeap → Prop} (hI : Ids h0 ids N) (hl : xs.length = N) (hjn : Nat.blt j N = true) (hj : xs[j]? = some none) (hk : ∀ g, K (.map (ix ids j) g) (hp h0 ids (xs.set j (some (.mp g []))))) : aop P fr (hp h0 ids xs) (.makeMap t none) K := by
  simp only [aop, true_and]
  refine newMap_intro (ix ids j) (hI.at hl hj) fun g => ?_
  rw [hI.set hl hjn]
  exact hk g
theorem wo_makeMap {t : Nat} {mt : TypeId} (hI : Ids h0 ids N) (hl : xs.length = N) (hjn : Nat.blt j N = true) (hj : xs[j]? = some none) (ht : Nat.blt t n = true)
    (hk : ∀ g, WO P f n d Q k all m r (frA ((t, .map (ix ids j) g) :: l)) ds (hp h0 ids (xs.set j (some (.mp g [])))) u) : WO P f n d Q k all m (⟨some t, .makeMap mt none, ty, pos, after, none⟩ :: r) (frA l) ds (hp h0 ids xs) u :=
  wo_op ht (fun _ _ => rfl) fun K hK => eff_makeMap hI hl hjn hj fun g => hK _ _ (hk g)
theorem eff_mapUpdate {K' V' : Type} [DecidableEq K'] {eK : K' → AV} {eV : V' → AV} {fr : Nat → AV} {t kt et : TypeId} {a b g : Nat} {z : List AV} {KT : TI} {M : List (K' × V')} {ky : K'} {w : V'} {xm xk xv : Operand} {K : AV → AHeap → Prop} (hI : Ids h0 ids N) (hl : xs.length = N) (hjn : Nat.blt j N = true)
    (hj : xs[j]? = some (some (.mp g (mE eK eV M)))) (h1 : ev fr xm = .map (ix ids j) g) (h2 : ev fr xk = eK ky) (h3 : ev fr xv = eV w) (hT : ti P t = some ⟨.map kt et, a, b, z⟩) (hK : ti P kt = some KT) (hk : KeyE KT.k eK)
    (hk' : K .und (hp h0 ids (xs.set j (some (.mp g (mE eK eV (mput M ky w))))))) : aop P fr (hp h0 ids xs) (.mapUpdate t xm xk xv) K := by
  simp only [aop, h1, h2, h3, upd_map (hI.at hl hj) hT hK hk, hI.set hl hjn]
  exact hk'
theorem wo_mapUpdate {K' V' : Type} [DecidableEq K'] {eK : K' → AV} {eV : V' → AV} {t kt et : TypeId} {a b g : Nat} {z : List AV} {KT : TI} {M : List (K' × V')} {ky : K'} {w : V'} {xm xk xv : Operand} (hI : Ids h0 ids N) (hl : xs.length = N) (hjn : Nat.blt j N = true)
    (hj : xs[j]? = some (some (.mp g (mE eK eV M)))) (h1 : ev (frA l) xm = .map (ix ids j) g) (h2 : ev (frA l) xk = eK ky) (h3 : ev (frA l) xv = eV w) (hT : ti P t = some ⟨.map kt et, a, b, z⟩) (hK : ti P kt = some KT) (hk : KeyE KT.k eK)
    (hk' : WO P f n d Q k all m r (frA l) ds (hp h0 ids (xs.set j (some (.mp g (mE eK eV (mput M ky w)))))) u) : WO P f n d Q k all m (⟨none, .mapUpdate t xm xk xv, ty, pos, after, none⟩ :: r) (frA l) ds (hp h0 ids xs) u :=
  wo_op0 (fun _ _ => rfl) fun K hK' => eff_mapUpdate hI hl hjn hj h1 h2 h3 hT hK hk (hK' _ _ hk')
end

/-- A map handed out. -/
def AnsM {K V : Type} (eK : K → AV) (eV : V → AV) (h : AHeap) (o : Nat) (m : R (List (K × V))) : AR → AHeap → Prop := fun r h' => match m with
  | .ok a => ∃ g, r = .ret (.map o g) ∧ h' = upd h o (some (.mp g (mE eK eV a)))
  | .pan v => r = .panic v.av ∧ h' = h
  | .bad => False
def AnsMQ {K V : Type} (eK : K → AV) (eV : V → AV) (h : AHeap) (o : Nat) : Spec (List (K × V)) := ⟨fun m => m ≠ .bad, fun h => h rfl, fun m r h' _ => AnsM eK eV h o m r h'⟩
def CPM {K V : Type} (P : Program) [GW P] (g : FuncId) (args : List AV) (m : R (List (K × V))) (eK : K → AV) (eV : V → AV) : Prop := ∀ h o, h o = none → m ≠ .bad → ACalls P g args h (AnsM eK eV h o m)
section
variable {P : Program} [GW P] {f : FuncId} {n : Nat} {K V : Type} {m : R (List (K × V))} {eK : K → AV} {eV : V → AV}
theorem cpm_intro {fn : Func} {c : Code} {args : List AV} (N : Nat) (hf : P.funcs[f]? = some fn) (hb : fn.body = some c) (hn : fn.name ≠ "runtime.NumGoroutine") (hnt : fn.ntmps = n) (hl : Nat.ble args.length n = true)
    (hr : ∀ (h0 : AHeap) (ids : List Nat), Ids h0 ids (N + 1) → WR P f n false (AnsMQ eK eV h0 (ix ids 0)) m [.code c] (frA (frOf 0 args)) [] (hp h0 ids (List.replicate (N + 1) none)) .ret) : CPM P f args m eK eV := by
  intro h o ho hb'
  refine calls_intro hf hb hn hnt (by simpa using hl) ?_
  refine run_ids N [o] fun os h1 h2 h3 h4 => ?_
  have hI : Ids h (o :: os) (N + 1) := ⟨List.nodup_cons.2 ⟨fun hm => h4 _ hm (List.mem_singleton.2 rfl), h2⟩, fun p hp => by
    rcases List.mem_cons.1 hp with rfl | hp
    · exact ho
    · exact h3 p hp, by simp [h1]⟩
  have := hr h (o :: os) hI hb'
  rw [hp_nones hI.fresh] at this
  refine run_le (fun t => ?_) this
  rcases frOf_fr0 args 0 t with h | ⟨_, h⟩
  · exact .inl h
  · exact .inr h
theorem hp_first {h0 : AHeap} {ids : List Nat} {N : Nat} {x : Option AO} {xs : List (Option AO)} (hI : Ids h0 ids N) (hl : (x :: xs).length = N) : Sub (upd h0 (ix ids 0) x) (hp h0 ids (x :: xs)) := by
  have hlen : ids.length = xs.length + 1 := by rw [hI.len, ← hl]; rfl
  obtain ⟨o, os, rfl⟩ : ∃ o os, ids = o :: os := by
    cases ids with
    | nil => simp at hlen
    | cons o os => exact ⟨o, os, rfl⟩
  have e1 : hp h0 (o :: os) (x :: List.replicate xs.length none) = upd h0 o x := by
    simp only [hp]
    rw [hp_nones fun p hp => hI.fresh p (List.mem_cons_of_mem _ hp)]
  show Sub (upd h0 o x) _
  rw [← e1]
  refine hp_sub (by simpa using hlen) (by simpa using hlen) hI.nodup hI.fresh fun j => ?_
  cases j with
  | zero => exact .inl rfl
  | succ j =>
    simp only [List.getElem?_cons_succ]
    by_cases hj : j < xs.length
    · right; simp [hj]
    · left; rw [List.getElem?_eq_none (by simpa using hj), List.getElem?_eq_none (by simpa using hj)]
theorem wr_retM {fn : Func} {h0 : AHeap} {ids : List Nat} {N g : Nat} {x : Option AO} {xs : List (Option AO)} {l : List (Nat × AV)} {k : List Item} {u : AU} {a : List (K × V)} (hf : P.funcs[f]? = some fn) (hI : Ids h0 ids N) (hl : (x :: xs).length = N)
    (hr : aRes P (hp h0 ids (x :: xs)) (frA l) fn.results.toList = some [.map (ix ids 0) g]) (hx : x = some (.mp g (mE eK eV a))) : WR P f n false (AnsMQ eK eV h0 (ix ids 0)) (.ok a) (.code .ret :: k) (frA l) [] (hp h0 ids (x :: xs)) u := fun _ => by
  refine run_ret (unw_retF hf hr (hp_first hI hl) (.same _) rfl ?_)
  exact ⟨g, rfl, by rw [hx]⟩
theorem wu_panM {fn : Func} {h0 : AHeap} {ids : List Nat} {N o : Nat} {v : PV} {fr : Nat → AV} {xs : List (Option AO)} {u : AU} (hf : P.funcs[f]? = some fn) (hI : Ids h0 ids N) : WU P f n false (AnsMQ eK eV h0 o) (.pan v) (.pan v.av false) fr [] (hp h0 ids xs) u := fun _ =>
  unw_panF hf (hI.sub xs) (.same _) ⟨rfl, rfl⟩
end
theorem of_callM {P : Program} [GW P] {f : FuncId} {n : Nat} {d : FK} {β γ : Type} {Q : Spec β} {ds : List AD} {u : AU} {k : List Item} {l : List (Nat × AV)} {F : γ → R β} {all r : List Oper} {ty : TypeId} {pos : String} {after : Array Edge} {h0 : AHeap} {ids : List Nat} {xs : List (Option AO)} {N : Nat}
    {K V : Type} {t j : Nat} {x : Operand} {as : List Operand} {ts : Array TypeId} {g : FuncId} {fst cap : List AV} (A : List AV) {mg : R (List (K × V))} {eK : K → AV} {eV : V → AV} {rest : List (K × V) → R γ} (hI : Ids h0 ids N) (hl : xs.length = N) (hjn : Nat.blt j N = true) (hj : xs[j]? = some none)
    (ht : Nat.blt t n = true) (hx : ev (frA l) x = .func (.func g) fst cap) (ha : fst ++ evs (frA l) as ++ cap = A) (hc : mg ≠ .bad → ACalls P g A (hp h0 ids xs) (AnsM eK eV (hp h0 ids xs) (ix ids j) mg))
    (hp' : ∀ v, mg = .pan v → WU P f n d Q (.pan v) (.pan v.av false) (frA l) ds (hp h0 ids xs) u)
    (hk : ∀ a, mg = .ok a → ∀ g', WO P f n d Q k all ((rest a).bind F) r (frA ((t, .map (ix ids j) g') :: l)) ds (hp h0 ids (xs.set j (some (.mp g' (mE eK eV a))))) u) :
    WO P f n d Q k all ((mg.bind rest).bind F) (⟨some t, .call ⟨.value x, ⟨as⟩, ts⟩, ty, pos, after, none⟩ :: r) (frA l) ds (hp h0 ids xs) u := by
  refine wo_eq (R.bind_assoc _ _ _) (wo_one (by simpa [dstOk] using ht) rfl fun hb K U hK hU => ?_)
  simp only [aOne, hx]
  rw [ha]
  have hmb : mg ≠ .bad := fun q => by rw [q] at hb; exact Q.bad hb
  refine (hc hmb).mono fun r' h' hr => ?_
  cases hm : mg with
  | bad => exact absurd hm hmb
  | ok a =>
    rw [hm] at hr hb hK
    obtain ⟨g', rfl, rfl⟩ := hr
    rw [hI.set hl hjn]
    exact hK _ _ _ _ (by rw [putD_frA]; exact hk a hm g')
  | pan v =>
    rw [hm] at hr hb hU
    obtain ⟨rfl, rfl⟩ := hr
    exact hU _ _ _ _ _ (hp' v hm hb)
/-- Entering, beside a memory that is told. -/
theorem cph_intro {P : Program} [GW P] {f : FuncId} {n : Nat} {α : Type} {m : R α} {e : α → AV} {fn : Func} {c : Code} {args : List AV} {h : AHeap} (N : Nat) (hf : P.funcs[f]? = some fn) (hb : fn.body = some c) (hn : fn.name ≠ "runtime.NumGoroutine") (hnt : fn.ntmps = n) (hl : Nat.ble args.length n = true)
    (hr : ∀ (ids : List Nat), Ids h ids N → WR P f n false (AnsQ e h) m [.code c] (frA (frOf 0 args)) [] (hp h ids (List.replicate N none)) .ret) : m ≠ .bad → ACalls P f args h (AnsR e h m) := by
  intro hb'
  refine calls_intro hf hb hn hnt (by simpa using hl) ?_
  refine run_ids N [] fun os h1 h2 h3 h4 => ?_
  have := hr os ⟨h2, h3, h1⟩ hb'
  rw [hp_nones h3] at this
  refine run_le (fun t => ?_) this
  rcases frOf_fr0 args 0 t with h | ⟨_, h⟩
  · exact .inl h
  · exact .inr h

theorem Fz.funcL {h h2 : AHeap} {fn : Fn} {f c f' c' : List AV} (hf : LF h h2 f f') (hc : LF h h2 c c') : Fz h h2 (.func fn f c) (.func fn f' c') := .func fn f c f' c' hf.all.1 hc.all.1 hf.all.2 hc.all.2
theorem Fz.ptrL {h h2 : AHeap} {o g st c : Nat} {row row' : List AV} (ho : h o = some (.rows g st [row])) (h2o : h2 o = none) (hl : row'.length = st) (hx : LF h h2 row row') : Fz h h2 (.ptr o g 0 c) (.cp row' c) :=
  .ptr o g 0 c st [row] row' ho h2o (by simp) hl (fun j hj => by
    have := hx.all.2 j (by rw [hx.all.1, hl]; exact hj)
    simpa [cell] using this)

theorem OwnV.flat {v : AV} {o g n : Nat} (h : OwnV v o g n) : v.flat = true := by rcases h with ⟨rfl, _⟩ | rfl <;> rfl
theorem OwnV.ok {v : AV} {o g n : Nat} (h : OwnV v o g n) : v.ok = true := by rcases h with ⟨rfl, _⟩ | rfl <;> rfl
theorem OwnV.cells {v : AV} {o g n : Nat} (h : OwnV v o g n) : v.cells = [v] := by rcases h with ⟨rfl, _⟩ | rfl <;> rfl
theorem st_ptrO {P : Program} [GW P] {h0 : AHeap} {ids : List Nat} {xs : List (Option AO)} {N : Nat} {t : TypeId} {T : TI} {g st rr c j o g' n' : Nat} {rs : List (List AV)} {row : List AV} {v : AV} (hv : OwnV v o g' n') (hI : Ids h0 ids N) (hl : xs.length = N) (hjn : Nat.blt j N = true) (hj : xs[j]? = some (some (.rows g st rs))) (hr : rs[rr]? = some row) (hT : ti P t = some T)
    (hlen : Nat.beq 1 T.size = true) (hc : Nat.ble (c + T.size) st = true) (hrl : row.length = st) :
    aStore P (hp h0 ids xs) t (.ptr (ix ids j) g rr c) v = some (hp h0 ids (xs.set j (some (.rows g st (rs.set rr (putC row c [v])))))) := by
  have := st_ptr (P := P) (v := v) hI hl hjn hj hr hT hv.ok (by rw [hv.cells]; exact Nat.eq_of_beq_eq_true hlen) hc hrl (by rw [hv.cells]; simp [hv.flat])
  rw [hv.cells] at this
  exact this

theorem flat_nil : ([] : List AV).all AV.flat = true := rfl
theorem flat_cons {a : AV} {l : List AV} (h : a.flat = true) (hl : l.all AV.flat = true) : (a :: l).all AV.flat = true := by simp [h, hl]
end Go.Am
