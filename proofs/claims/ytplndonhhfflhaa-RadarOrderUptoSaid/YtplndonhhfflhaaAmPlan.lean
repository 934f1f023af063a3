/- Regions whose order is open: the plan, its check, and why one evaluation serves every order. -/
import Derived.Test.YtplndonhhfflhaaAmDraw
namespace Go.Am
open Go
set_option linter.unusedSimpArgs false
set_option linter.unusedVariables false
set_option linter.unusedSectionVars false

theorem aOne_congr {P : Program} [GW P] {d : FK} {U U' : AV → KT} {fr fr' : Nat → AV} {ds : List AD} {h : AHeap} {u : AU} {op : Op} {K : AV → List AD → AHeap → AU → Prop} (hc : ∀ x ∈ op.operands, ev fr x = ev fr' x)
    (hU : ∀ v h', U v fr ds h' u → U' v fr' ds h' u) (hx : aOne P d U fr ds h u op K) : aOne P d U' fr' ds h u op K := by
  unfold aOne at hx ⊢
  split at hx
  · rename_i x args ts
    have h0 := hc x (by simp [Op.operands, Call.operands])
    have h1 : evs fr args.toList = evs fr' args.toList := evs_congr fun y hy => hc y (by simp only [Op.operands, Call.operands]; simp at hy ⊢; exact .inr hy)
    rw [h0] at hx
    split at hx
    · rw [h1] at hx
      exact aCall_mono (fun _ _ hk => hk) (fun _ _ hk => hU _ _ hk) hx
    · rw [h1] at hx
      exact aYield_mono (fun _ _ hk => hk) (fun _ _ hk => hU _ _ hk) hx
    · exact hx.elim
  · exact hx
  · rename_i x args ts
    have h0 := hc x (by simp [Op.operands, Call.operands])
    have h1 : evs fr args.toList = evs fr' args.toList := evs_congr fun y hy => hc y (by simp only [Op.operands, Call.operands]; simp at hy ⊢; exact .inr hy)
    rw [h0] at hx
    split at hx
    · rw [h1] at hx; exact hx
    · exact hx.elim
  · rename_i x
    have h0 := hc x (by simp [Op.operands])
    rw [h0] at hx
    split at hx
    · exact hU _ _ hx
    · exact hx.elim
  · rw [aop_congr hc] at hx; exact hx
theorem aPure_congr {P : Program} [GW P] {fr fr' : Nat → AV} {h : AHeap} {op : Op} (hc : ∀ x ∈ op.operands, ev fr x = ev fr' x) : aPure P fr h op = aPure P fr' h op := by
  cases op with
  | build t ps =>
    have : evp fr ps.toList = evp fr' ps.toList := evp_congr fun p hp => hc p.2 (by simp only [Op.operands]; simp; exact ⟨p.1, by simpa using hp⟩)
    simp only [aPure, this]
  | makeFunc fn f c =>
    have h1 : evs fr f.toList = evs fr' f.toList := evs_congr fun x hx => hc x (by simp only [Op.operands]; simp at hx ⊢; exact .inl hx)
    have h2 : evs fr c.toList = evs fr' c.toList := evs_congr fun x hx => hc x (by simp only [Op.operands]; simp at hx ⊢; exact .inr hx)
    simp only [aPure, h1, h2]
  | slice t x lo hi mx =>
    simp only [Op.operands] at hc
    have h0 := hc x (by simp)
    have h1 : lo.map (ev fr) = lo.map (ev fr') := opt_congr fun y hy => hc y (by simp [hy]; cases hy; simp)
    have h2 : hi.map (ev fr) = hi.map (ev fr') := opt_congr fun y hy => hc y (by simp [hy]; cases hy; simp)
    have h3 : mx.map (ev fr) = mx.map (ev fr') := opt_congr fun y hy => hc y (by simp [hy]; cases hy; simp)
    simp only [aPure, h0, h1, h2, h3]
  | call c =>
    obtain ⟨cal, args, ts⟩ := c
    cases cal with
    | builtin b =>
      have : evs fr args.toList = evs fr' args.toList := evs_congr fun x hx => hc x (by simp only [Op.operands, Call.operands]; simpa using hx)
      simp only [aPure, this]
    | value f => rfl
    | invoke r m => rfl
  | _ => first
      | rfl
      | (simp [Op.operands] at hc; simp only [aPure, hc])
theorem wanted_congr {all : List Oper} {fr fr' : Nat → AV} {o : Oper} (hc : ∀ t ∈ looks all o, fr t = fr' t) : aWanted all fr o = aWanted all fr' o := by
  unfold aWanted
  split
  · rfl
  · rename_i j want hg
    cases hq : (all[j]?).bind (·.dst) with
    | none => rfl
    | some t =>
      have : fr t = fr' t := hc t (by simp [looks, hg, hq])
      simp only [this]
theorem looks_op {all : List Oper} {fr fr' : Nat → AV} {o : Oper} (hc : ∀ t ∈ looks all o, fr t = fr' t) : ∀ x ∈ o.op.operands, ev fr x = ev fr' x := ev_congr fun t ht => hc t (by simp [looks, ht])
theorem aF_congr {P : Program} [GW P] {all : List Oper} {fr fr' : Nat → AV} {h : AHeap} {o : Oper} (hc : ∀ t ∈ looks all o, fr t = fr' t) : aF P all fr h o = aF P all fr' h o := by
  unfold aF
  rw [wanted_congr hc, aPure_congr (looks_op hc)]

/-! ### The plan -/
abbrev Plan := List (Bool × Nat)
def cl (pre : List (List Nat)) (i j : Nat) : Bool := (pre.getD i []).contains j
def direct (all : List Oper) (i j : Nat) : Bool := match all[i]? with
  | some o => o.after.toList.any fun e => Region.binds .any e && e.on == j
  | none => false
def ordOk (pre : List (List Nat)) : Plan → Plan → Bool
  | _, [] => true
  | done, (s, i) :: r => (pre.getD i []).all (fun j => done.any fun p => p.2 == j) && (done.all fun p => !p.1 || cl pre i p.2) && !(done.any fun p => p.2 == i) && ordOk pre (done ++ [(s, i)]) r
/-- 'ext': pairs whose order is settled otherwise. -/
def planOkX (ext : List (Nat × Nat)) (all : List Oper) (pre : List (List Nat)) (plan : Plan) : Bool :=
  ((List.range all.length).all fun i => plan.any fun p => p.2 == i) && (plan.all fun p => decide (p.2 < all.length)) && ordOk pre [] plan &&
  ((List.range all.length).all fun i => match all[i]? with
    | none => true
    | some o => (o.after.toList.all fun e => !Region.binds .any e || cl pre i e.on) && ((pre.getD i []).all fun j => (ext.any fun p => p.1 == i && (p.2 == j || cl pre p.2 j)) || (o.after.toList.any fun e => Region.binds .any e && (e.on == j || cl pre e.on j))) &&
      ((List.range all.length).all fun j => i == j || match all[j]? with
        | none => true
        | some oj => match oj.dst with
          | none => true
          | some t => o.dst != some t && (!(looks all o).contains t || cl pre i j || cl pre j i)))

def planOk (all : List Oper) (pre : List (List Nat)) (plan : Plan) : Bool := planOkX [] all pre plan

structure PlanOk (ext : List (Nat × Nat)) (all : List Oper) (pre : List (List Nat)) (plan : Plan) : Prop where
  cover : ∀ i, i < all.length → ∃ s, (s, i) ∈ plan
  bound : ∀ s i, (s, i) ∈ plan → i < all.length
  ord : ordOk pre [] plan = true
  edges : ∀ (i : Nat) (o : Oper), all[i]? = some o → ∀ e ∈ o.after, Region.binds .any e = true → cl pre i e.on = true
  back : ∀ (i : Nat) (o : Oper), all[i]? = some o → ∀ j, cl pre i j = true → (∃ m, (i, m) ∈ ext ∧ (m = j ∨ cl pre m j = true)) ∨ ∃ e ∈ o.after, Region.binds .any e = true ∧ (e.on = j ∨ cl pre e.on j = true)
  dsts : ∀ (i j : Nat) (oi oj : Oper) t, i ≠ j → all[i]? = some oi → all[j]? = some oj → oj.dst = some t → oi.dst ≠ some t
  reads : ∀ (i j : Nat) (oi oj : Oper) t, i ≠ j → all[i]? = some oi → all[j]? = some oj → oj.dst = some t → t ∈ looks all oi → cl pre i j = true ∨ cl pre j i = true

theorem planOk_spec {ext : List (Nat × Nat)} {all : List Oper} {pre : List (List Nat)} {plan : Plan} (h : planOkX ext all pre plan = true) : PlanOk ext all pre plan := by
  simp only [planOkX, Bool.and_eq_true] at h
  obtain ⟨⟨⟨h1, h2⟩, h3⟩, h4⟩ := h
  have lt_of : ∀ {i : Nat} {o : Oper}, all[i]? = some o → i < all.length := fun h => by
    rcases Nat.lt_or_ge _ all.length with h' | h'
    · exact h'
    · rw [List.getElem?_eq_none h'] at h; cases h
  have at4 : ∀ {i : Nat} {o : Oper}, all[i]? = some o → _ := fun {i o} hi => by
    have := List.all_eq_true.1 h4 i (List.mem_range.2 (lt_of hi))
    rw [hi] at this
    simp only [Bool.and_eq_true] at this
    exact this
  refine ⟨fun i hi => ?_, fun s i hi => ?_, h3, fun i o hi e he hb => ?_, fun i o hi j hj => ?_, fun i j oi oj t hne hi hj hd => ?_, fun i j oi oj t hne hi hj hd ht => ?_⟩
  · have := List.all_eq_true.1 h1 i (List.mem_range.2 hi)
    obtain ⟨p, hp, hq⟩ := List.any_eq_true.1 this
    obtain ⟨s, k⟩ := p
    simp at hq; subst hq
    exact ⟨s, hp⟩
  · have := List.all_eq_true.1 h2 _ hi
    simpa using this
  · have := List.all_eq_true.1 (at4 hi).1.1 e (by simpa using he)
    simpa [hb] using this
  · have hj' : j ∈ pre.getD i [] := by simpa [cl] using hj
    have := List.all_eq_true.1 (at4 hi).1.2 j hj'
    rcases Bool.or_eq_true _ _ ▸ this with this | this
    · obtain ⟨⟨a, m⟩, hm, hq⟩ := List.any_eq_true.1 this
      simp only [Bool.and_eq_true, Bool.or_eq_true, beq_iff_eq] at hq
      obtain ⟨rfl, hq⟩ := hq
      exact .inl ⟨m, hm, hq⟩
    · obtain ⟨e, he, hq⟩ := List.any_eq_true.1 this
      simp only [Bool.and_eq_true, Bool.or_eq_true, beq_iff_eq] at hq
      exact .inr ⟨e, by simpa using he, hq.1, hq.2⟩
  · have := List.all_eq_true.1 (at4 hi).2 j (List.mem_range.2 (lt_of hj))
    rw [hj] at this
    simp only [hd, Bool.or_eq_true, beq_iff_eq, hne, false_or, Bool.and_eq_true, bne_iff_ne, ne_eq] at this
    exact this.1
  · have := List.all_eq_true.1 (at4 hi).2 j (List.mem_range.2 (lt_of hj))
    rw [hj] at this
    simp only [hd, Bool.or_eq_true, beq_iff_eq, hne, false_or, Bool.and_eq_true, bne_iff_ne, ne_eq, Bool.not_eq_true'] at this
    rcases this.2 with (h' | h') | h'
    · have : t ∉ looks all oi := by simpa using h'
      exact absurd ht this
    · exact .inl h'
    · exact .inr h'

abbrev Pend := List (Nat × (Nat → AV) × AV)
def pendOk (P : Program) [GW P] (all : List Oper) (pre : List (List Nat)) (i : Nat) (h : AHeap) : Pend → Prop
  | [] => True
  | (j, fr, v) :: r => (if cl pre i j = true then True else match all[j]? with
      | some o => aF P all fr h o = some v
      | none => False) ∧ pendOk P all pre i h r
def aPlan (P : Program) [GW P] (n : Nat) (d : FK) (all : List Oper) (pre : List (List Nat)) (K : KT) (U : AV → KT) : Plan → Pend → KT
  | [], _, fr, ds, h, u => K fr ds h u
  | (false, i) :: r, pend, fr, ds, h, u => match all[i]? with
    | none => False
    | some o => dstOk n o.dst = true ∧ match aF P all fr h o with
      | none => False
      | some v => aPlan P n d all pre K U r ((i, fr, v) :: pend) (putD fr o.dst v) ds h u
  | (true, i) :: r, pend, fr, ds, h, u => match all[i]? with
    | none => False
    | some o => dstOk n o.dst = true ∧ match aWanted all fr o with
      | none => False
      | some false => aPlan P n d all pre K U r pend (putD fr o.dst .und) ds h u
      | some true => aOne P d (fun v fr ds h u => ∀ fr', (∀ t, (∀ o ∈ all, o.dst ≠ some t) → fr' t = fr t) → U v fr' ds h u) fr ds h u o.op
          (fun v ds' h' u' => pendOk P all pre i h' pend ∧ aPlan P n d all pre K U r pend (putD fr o.dst v) ds' h' u')

theorem pendOk_mem {P : Program} [GW P] {all : List Oper} {pre : List (List Nat)} {i : Nat} {h : AHeap} : ∀ {pend : Pend}, pendOk P all pre i h pend → ∀ {j fr v o}, (j, fr, v) ∈ pend → cl pre i j = false → all[j]? = some o → aF P all fr h o = some v
  | [], _, j, fr, v, o, hm, _, _ => by cases hm
  | (j', fr', v') :: r, hp, j, fr, v, o, hm, hc, ho => by
    obtain ⟨h1, h2⟩ := hp
    cases hm with
    | head =>
      rw [hc, ho] at h1
      simpa using h1
    | tail _ hm => exact pendOk_mem h2 hm hc ho

structure Good (P : Program) [GW P] (n : Nat) (all : List Oper) (pre : List (List Nat)) (h : AHeap) (done : Plan) (pend : Pend) (L : Nat → Bool) (frc fra : Nat → AV) : Prop where
  sub : ∀ i, L i = true → ∃ s, (s, i) ∈ done
  sdone : ∀ i, (true, i) ∈ done → L i = true
  closed : ∀ i j, L i = true → cl pre i j = true → L j = true
  frame : ∀ t, (∃ s j o, (s, j) ∈ done ∧ L j = false ∧ all[j]? = some o ∧ o.dst = some t) ∨ fra t = frc t
  pends : ∀ j, (false, j) ∈ done → L j = false → ∃ frj v o, (j, frj, v) ∈ pend ∧ all[j]? = some o ∧ aF P all frj h o = some v ∧ dstOk n o.dst = true ∧ (∀ t, o.dst = some t → frc t = v) ∧
    ∀ t ∈ looks all o, (∃ s m om, (s, m) ∈ done ∧ L m = false ∧ all[m]? = some om ∧ om.dst = some t ∧ cl pre j m = true ∧ frj t = frc t) ∨ (frj t = fra t ∧ ∀ (m : Nat) (om : Oper), all[m]? = some om → om.dst = some t → cl pre j m = true → L m = true)

theorem ordOk_cons {pre : List (List Nat)} {done : Plan} {s : Bool} {i : Nat} {r : Plan} (h : ordOk pre done ((s, i) :: r) = true) : (∀ j, cl pre i j = true → ∃ s', (s', j) ∈ done) ∧ (∀ m, (true, m) ∈ done → cl pre i m = true) ∧ (∀ s', (s', i) ∉ done) ∧ ordOk pre (done ++ [(s, i)]) r = true := by
  simp only [ordOk, Bool.and_eq_true] at h
  obtain ⟨⟨⟨h1, h2⟩, h3⟩, h4⟩ := h
  refine ⟨fun j hj => ?_, fun m hm => ?_, fun s' hs => ?_, h4⟩
  · have := List.all_eq_true.1 h1 j (by simpa [cl] using hj)
    obtain ⟨p, hp, hq⟩ := List.any_eq_true.1 this
    obtain ⟨s', k⟩ := p
    simp at hq; subst hq
    exact ⟨s', hp⟩
  · have := List.all_eq_true.1 h2 _ hm
    simpa using this
  · have : (done.any fun p => p.2 == i) = true := List.any_eq_true.2 ⟨_, hs, by simp⟩
    rw [this] at h3; cases h3

theorem ordBefore' {pre : List (List Nat)} : ∀ (xs d0 ys : Plan), ordOk pre d0 (xs ++ ys) = true → ∀ {s : Bool} {m j : Nat}, (s, m) ∈ xs → cl pre m j = true → ∃ s', (s', j) ∈ d0 ++ xs
  | [], d0, ys, _, s, m, j, hm, _ => by cases hm
  | (s0, i) :: xs, d0, ys, ho, s, m, j, hm, hc => by
    obtain ⟨o1, _, _, o4⟩ := ordOk_cons ho
    rcases List.mem_cons.1 hm with hm | hm
    · cases hm
      obtain ⟨s', hs'⟩ := o1 j hc
      exact ⟨s', by simp [hs']⟩
    · obtain ⟨s', hs'⟩ := ordBefore' xs (d0 ++ [(s0, i)]) ys o4 hm hc
      exact ⟨s', by simpa using hs'⟩
theorem ordBefore {pre : List (List Nat)} {done rest plan : Plan} (he : done ++ rest = plan) (ho : ordOk pre [] plan = true) {s : Bool} {m j : Nat} (hm : (s, m) ∈ done) (hc : cl pre m j = true) : ∃ s', (s', j) ∈ done := by
  have := ordBefore' done [] rest (by rw [he]; exact ho) hm hc
  simpa using this
theorem ordOk_tail {pre : List (List Nat)} : ∀ (xs d0 ys : Plan), ordOk pre d0 (xs ++ ys) = true → ordOk pre (d0 ++ xs) ys = true
  | [], d0, ys, h => by simpa using h
  | x :: xs, d0, ys, h => by
    obtain ⟨_, _, _, o4⟩ := ordOk_cons (s := x.1) (i := x.2) h
    have := ordOk_tail xs _ ys o4
    simpa using this

section
variable {P : Program} [GW P] {n : Nat} {d : FK} {all : List Oper} {pre : List (List Nat)} {K : KT} {U : AV → KT} {ds : List AD} {h : AHeap} {u : AU} {L : Nat → Bool} {fra : Nat → AV} {plan : Plan}

/-- Take in all that can be read by now. -/
theorem advance {ext : List (Nat × Nat)} (hp : PlanOk ext all pre plan) : ∀ (rest done : Plan) (pend : Pend) (frc : Nat → AV), done ++ rest = plan → ordOk pre done rest = true → Good P n all pre h done pend L frc fra → (∀ i, (∃ s, (s, i) ∈ rest) → L i = false) →
    aPlan P n d all pre K U rest pend frc ds h u →
    ∃ done' rest' pend' frc', done' ++ rest' = plan ∧ ordOk pre done' rest' = true ∧ Good P n all pre h done' pend' L frc' fra ∧ (∀ i, (∃ s, (s, i) ∈ rest') → L i = false) ∧ aPlan P n d all pre K U rest' pend' frc' ds h u ∧ (rest' = [] ∨ ∃ i r, rest' = (true, i) :: r)
  | [], done, pend, frc, he, ho, hg, hL, hx => ⟨done, [], pend, frc, he, ho, hg, hL, hx, .inl rfl⟩
  | (true, i) :: r, done, pend, frc, he, ho, hg, hL, hx => ⟨done, (true, i) :: r, pend, frc, he, ho, hg, hL, hx, .inr ⟨i, r, rfl⟩⟩
  | (false, i) :: r, done, pend, frc, he, ho, hg, hL, hx => by
    obtain ⟨o1, o2, o3, o4⟩ := ordOk_cons ho
    simp only [aPlan] at hx
    split at hx
    · exact hx.elim
    · rename_i o hoi
      obtain ⟨hdst, hx⟩ := hx
      split at hx
      · exact hx.elim
      · rename_i v hv
        have hLi : L i = false := hL i ⟨false, List.mem_cons_self ..⟩
        have hne : ∀ {s m}, (s, m) ∈ done → m ≠ i := fun hm hmi => o3 _ (hmi ▸ hm)
        have hput : ∀ t, o.dst ≠ some t → putD frc o.dst v t = frc t := by
          intro t ht
          cases hd : o.dst with
          | none => rfl
          | some t' => rw [hd] at ht; simp only [putD, upd]; rw [if_neg (fun hh => ht (by rw [hh]))]
        have hputs : ∀ t, o.dst = some t → putD frc o.dst v t = v := by intro t ht; simp [ht, putD, upd]
        refine advance hp r (done ++ [(false, i)]) ((i, frc, v) :: pend) _ (by rw [← he]; simp) o4 ⟨?_, ?_, hg.closed, ?_, ?_⟩ (fun j hj => hL j (let ⟨s, hs⟩ := hj; ⟨s, List.mem_cons_of_mem _ hs⟩)) hx
        · intro j hj; obtain ⟨s, hs⟩ := hg.sub j hj; exact ⟨s, by simp [hs]⟩
        · intro j hj
          simp only [List.mem_append, List.mem_singleton, Prod.mk.injEq, Bool.true_eq_false, false_and, or_false] at hj
          exact hg.sdone j hj
        · intro t
          by_cases ht : o.dst = some t
          · exact .inl ⟨false, i, o, by simp, hLi, hoi, ht⟩
          · rcases hg.frame t with ⟨s, j, oj, j1, j2, j3, j4⟩ | hf
            · exact .inl ⟨s, j, oj, by simp [j1], j2, j3, j4⟩
            · right; rw [hput t ht]; exact hf
        · intro j hj hLj
          simp only [List.mem_append, List.mem_singleton, Prod.mk.injEq, true_and] at hj
          rcases hj with hj | rfl
          · obtain ⟨frj, v', oj, j1, j2, j3, j4, j5, j6⟩ := hg.pends j hj hLj
            refine ⟨frj, v', oj, List.mem_cons_of_mem _ j1, j2, j3, j4, fun t ht => ?_, fun t ht => ?_⟩
            · rw [hput t (hp.dsts i j o oj t (Ne.symm (hne hj)) hoi j2 ht)]; exact j5 t ht
            · rcases j6 t ht with ⟨s, m, om, m1, m2, m3, m4, m5, m6⟩ | hf
              · exact .inl ⟨s, m, om, by simp [m1], m2, m3, m4, m5, by rw [hput t (hp.dsts i m o om t (Ne.symm (hne m1)) hoi m3 m4)]; exact m6⟩
              · exact .inr hf
          · refine ⟨frc, v, o, List.mem_cons_self .., hoi, hv, hdst, hputs, fun t ht => ?_⟩
            by_cases hm : ∃ s m om, (s, m) ∈ done ∧ L m = false ∧ all[m]? = some om ∧ om.dst = some t ∧ cl pre j m = true
            · obtain ⟨s, m, om, m1, m2, m3, m4, m5⟩ := hm
              exact .inl ⟨s, m, om, by simp [m1], m2, m3, m4, m5, by rw [hput t (hp.dsts j m o om t (Ne.symm (hne m1)) hoi m3 m4)]⟩
            · right
              refine ⟨?_, fun m om m3 m4 m5 => ?_⟩
              · rcases hg.frame t with ⟨s, m, om, m1, m2, m3, m4⟩ | hf
                · exfalso
                  rcases hp.reads j m o om t (Ne.symm (hne m1)) hoi m3 m4 ht with hc | hc
                  · exact hm ⟨s, m, om, m1, m2, m3, m4, hc⟩
                  · obtain ⟨s', hs'⟩ := ordBefore (pre := pre) he hp.ord m1 hc
                    exact o3 s' hs'
                · exact hf.symm
              · cases hq : L m with
                | true => rfl
                | false =>
                  obtain ⟨s', hs'⟩ := o1 m m5
                  exact absurd ⟨s', m, om, hs', hq, m3, m4, m5⟩ hm
end
theorem ordDisj {pre : List (List Nat)} : ∀ {rest done : Plan}, ordOk pre done rest = true → ∀ {s i}, (s, i) ∈ rest → ∀ s', (s', i) ∉ done
  | [], _, _, s, i, hm, _ => by cases hm
  | (s0, i0) :: r, done, ho, s, i, hm, s' => by
    obtain ⟨_, _, o3, o4⟩ := ordOk_cons ho
    rcases List.mem_cons.1 hm with hm | hm
    · cases hm; exact o3 s'
    · exact fun hd => ordDisj o4 hm s' (by simp [hd])
theorem ordLater {pre : List (List Nat)} : ∀ {r done : Plan} {i0 : Nat}, ordOk pre done r = true → (true, i0) ∈ done → ∀ {s i}, (s, i) ∈ r → cl pre i i0 = true
  | [], _, _, _, _, s, i, hm => by cases hm
  | (s0, i1) :: r, done, i0, ho, hd, s, i, hm => by
    obtain ⟨_, o2, _, o4⟩ := ordOk_cons ho
    rcases List.mem_cons.1 hm with hm | hm
    · cases hm; exact o2 i0 hd
    · exact ordLater o4 (by simp [hd]) hm

/-- What has been listed, as a predicate. -/
def Lof (listed : Array Bool) : Nat → Bool := fun i => listed.getD i false
def left (listed : Array Bool) : Nat := (listed.toList.filter fun b => !b).length

theorem left_list : ∀ {l : List Bool} {i : Nat}, l[i]? = some false → ((l.set i true).filter fun b => !b).length + 1 = (l.filter fun b => !b).length
  | [], i, h => by simp at h
  | b :: l, 0, h => by simp at h; subst h; simp
  | b :: l, i + 1, h => by
    have := left_list (l := l) (i := i) (by simpa using h)
    cases b
    · simp at this ⊢; omega
    · simp at this ⊢; omega
theorem left_set {listed : Array Bool} {i : Nat} (hi : i < listed.size) (h : listed.getD i true = false) : left (listed.setIfInBounds i true) + 1 = left listed := by
  unfold left
  rw [Array.toList_setIfInBounds]
  refine left_list ?_
  simp [hi] at h
  rw [Array.getElem?_toList, Array.getElem?_eq_getElem hi, h]
theorem Lof_none (m : Nat) (i : Nat) : Lof (Array.replicate m false) i = false := by
  unfold Lof
  by_cases hlt : i < m
  · simp [hlt]
  · simp [hlt]
theorem left_zero {listed : Array Bool} (h : left listed = 0) {i : Nat} (hi : i < listed.size) : listed.getD i false = true := by
  unfold left at h
  have h0 := List.eq_nil_of_length_eq_zero h
  have := List.filter_eq_nil_iff.1 h0 (listed[i]) (by simp)
  simp [hi]
  simpa using this

section
variable {P : Program} [GW P] {f n : Nat} {d : FK} {ops : Array Oper} {pre : List (List Nat)} {Q : QT} {k : List Item} {plan : Plan}

/-- Whenever 'i' comes, 'j' has come. -/
def Bef (l : List Nat) (j i : Nat) : Prop := ∀ xs ys, l = xs ++ i :: ys → j ∈ xs
theorem bef_or (l : List Nat) {i j : Nat} (hij : i ≠ j) : Bef l j i ∨ Bef l i j := by
  by_cases h : Bef l j i
  · exact .inl h
  · right
    have h' : ∃ xs ys, l = xs ++ i :: ys ∧ j ∉ xs := by
      apply Classical.byContradiction
      intro hn
      exact h fun xs ys e => Classical.byContradiction fun hj => hn ⟨xs, ys, e, hj⟩
    obtain ⟨xs, ys, e, hj⟩ := h'
    intro xs' ys' e'
    rw [e] at e'
    rcases List.append_eq_append_iff.1 e' with ⟨as, h1, h2⟩ | ⟨bs, h1, h2⟩
    · cases as with
      | nil => simp at h2; exact absurd h2.1 hij
      | cons a as => simp at h2; rw [h1, h2.1]; simp
    · cases bs with
      | nil => simp at h2; exact absurd h2.1.symm hij
      | cons b bs => simp at h2; rw [h1, h2.1] at hj; simp at hj
theorem bef_next {i0 : Nat} {tl : List Nat} {i j : Nat} (h : Bef (i0 :: tl) j i) (hj : i0 ≠ j) : Bef tl j i := by
  intro xs ys e
  have := h (i0 :: xs) ys (by rw [e]; rfl)
  rcases List.mem_cons.1 this with h | h
  · exact absurd h.symm hj
  · exact h
theorem any_sound {ext : List (Nat × Nat)} (hp : PlanOk ext ops.toList pre plan) : ∀ (fuel : Nat) (t : Nat) (listed : Array Bool) (done rest : Plan) (pend : Pend) (frc fra : Nat → AV) (ds : List AD) (h : AHeap) (u : AU),
    (∀ i j, (i, j) ∈ ext → Lof listed j = true ∨ Bef (Region.linearise.go .any ops fuel t listed []) j i) → left listed = fuel → listed.size = ops.size → done ++ rest = plan → ordOk pre done rest = true → Good P n ops.toList pre h done pend (Lof listed) frc fra → (∀ i, (∃ s, (s, i) ∈ rest) → Lof listed i = false) → (rest = [] ∨ ∃ i r, rest = (true, i) :: r) →
    aPlan P n d ops.toList pre (fun fr ds h u => Run P f n d k fr ds h u Q) (fun v fr ds h u => Unw P f n d (.pan v false) fr ds h u Q) rest pend frc ds h u →
    Run P f n d (.inRegion ops (Region.linearise.go .any ops fuel t listed []) :: k) fra ds h u Q := by
  intro fuel
  induction fuel with
  | zero =>
    intro t listed done rest pend frc fra ds h u hext hcnt hsz he ho hg hL hshape hx
    have hall : ∀ i, i < ops.size → Lof listed i = true := fun i hi => left_zero hcnt (by rw [hsz]; exact hi)
    have hrest : rest = [] := by
      rcases hshape with h0 | ⟨i, r, rfl⟩
      · exact h0
      · have := hL i ⟨true, List.mem_cons_self ..⟩
        rw [hall i (by have := hp.bound true i (by rw [← he]; simp); simpa using this)] at this
        cases this
    subst hrest
    have hfr : fra = frc := by
      funext t
      rcases hg.frame t with ⟨s, j, o, j1, j2, _⟩ | hf
      · rw [hall j (by have := hp.bound s j (by rw [← he]; simp [j1]); simpa using this)] at j2; cases j2
      · exact hf
    subst hfr
    simp only [Region.linearise.go, List.reverse_nil]
    exact run_step (fun _ _ _ => stepR_region_end) hx
  | succ fuel ih =>
    intro t listed done rest pend frc fra ds h u hext hcnt hsz he ho hg hL hshape hx
    have hgo : Region.linearise.go .any ops (fuel + 1) t listed [] = match (Region.ready .any ops listed)[t % (Region.ready .any ops listed).length]? with
        | some i => Region.linearise.go .any ops fuel (t / (Region.ready .any ops listed).length) (listed.setIfInBounds i true) [i]
        | none => [] := by
      simp only [Region.linearise.go, List.reverse_nil]; rfl
    have ready_spec : ∀ {i}, i ∈ Region.ready .any ops listed → i < ops.size ∧ listed.getD i true = false ∧ ∃ o, ops[i]? = some o ∧ ∀ e ∈ o.after, Region.binds .any e = true → listed.getD e.on false = true := by
      intro i hi
      simp only [Region.ready, List.mem_filter, List.mem_range, Bool.and_eq_true, Bool.not_eq_true'] at hi
      obtain ⟨h1, h2, h3⟩ := hi
      obtain ⟨o, ho⟩ : ∃ o, ops[i]? = some o := ⟨_, Array.getElem?_eq_getElem h1⟩
      rw [ho] at h3
      simp only [Option.map_some, Option.getD_some, Array.all_eq_true] at h3
      refine ⟨h1, h2, o, ho, fun e he hb => ?_⟩
      obtain ⟨m, hm, rfl⟩ := Array.mem_iff_getElem.1 he
      have := h3 m hm
      simpa [hb] using this
    -- something is ready
    have hex : ∃ i, i ∈ Region.ready .any ops listed := by
      -- the first of the plan that has not been listed
      have hun : ∃ i, i < ops.size ∧ listed.getD i true = false := by
        unfold left at hcnt
        have hne : (listed.toList.filter fun b => !b) ≠ [] := by intro h0; rw [h0] at hcnt; simp at hcnt
        obtain ⟨b, hb⟩ := List.exists_mem_of_ne_nil _ hne
        obtain ⟨hb1, hb2⟩ := List.mem_filter.1 hb
        obtain ⟨i, hi, rfl⟩ := List.mem_iff_getElem.1 hb1
        have hi' : i < listed.size := by simpa using hi
        refine ⟨i, by rw [← hsz]; exact hi', ?_⟩
        simp at hb2
        simp [hi', hb2]
      obtain ⟨i0, hi0, hl0⟩ := hun
      obtain ⟨s0, hs0⟩ := hp.cover i0 (by simpa using hi0)
      have key : ∀ (ys xs : Plan), xs ++ ys = plan → (∀ p ∈ xs, Lof listed p.2 = true) → (∃ p ∈ ys, Lof listed p.2 = false) → ∃ xs' s i ys', xs' ++ (s, i) :: ys' = plan ∧ (∀ p ∈ xs', Lof listed p.2 = true) ∧ Lof listed i = false := by
        intro ys
        induction ys with
        | nil => rintro xs _ _ ⟨p, hp, _⟩; cases hp
        | cons y ys ihy =>
          intro xs hxy hxs hys
          cases hy : Lof listed y.2 with
          | false => exact ⟨xs, y.1, y.2, ys, hxy, hxs, hy⟩
          | true =>
            refine ihy (xs ++ [y]) (by rw [← hxy]; simp) (fun p hp => ?_) ?_
            · rcases List.mem_append.1 hp with hp | hp
              · exact hxs p hp
              · simp at hp; subst hp; exact hy
            · obtain ⟨p, hp, hpf⟩ := hys
              rcases List.mem_cons.1 hp with rfl | hp
              · rw [hy] at hpf; cases hpf
              · exact ⟨p, hp, hpf⟩
      have hLi0 : Lof listed i0 = false := by
        have : i0 < listed.size := by rw [hsz]; exact hi0
        simp [Lof, this] at hl0 ⊢; exact hl0
      obtain ⟨xs', s, i, ys', hx1, hx2, hx3⟩ := key plan [] rfl (fun p hp => by cases hp) ⟨(s0, i0), hs0, hLi0⟩
      have hio := ordOk_tail xs' [] ((s, i) :: ys') (by rw [hx1]; exact hp.ord)
      obtain ⟨o1, _, _, _⟩ := ordOk_cons hio
      have hib : i < ops.size := by have := hp.bound s i (by rw [← hx1]; simp); simpa using this
      refine ⟨i, ?_⟩
      simp only [Region.ready, List.mem_filter, List.mem_range, Bool.and_eq_true, Bool.not_eq_true']
      obtain ⟨o, ho⟩ : ∃ o, ops[i]? = some o := ⟨_, Array.getElem?_eq_getElem hib⟩
      refine ⟨hib, ?_, ?_⟩
      · have : i < listed.size := by rw [hsz]; exact hib
        simp [Lof, this] at hx3 ⊢; exact hx3
      · rw [ho]
        simp only [Option.map_some, Option.getD_some, Array.all_eq_true]
        intro m hm
        cases hb : Region.binds .any o.after[m] with
        | false => simp
        | true =>
          simp only [Bool.not_true, Bool.false_or]
          have hc := hp.edges i o (by rw [Array.getElem?_toList]; exact ho) o.after[m] (Array.getElem_mem hm) hb
          obtain ⟨s', hs'⟩ := o1 _ hc
          have := hx2 (s', o.after[m].on) (by simpa using hs')
          exact this
    rw [hgo]
    cases hi : (Region.ready .any ops listed)[t % (Region.ready .any ops listed).length]? with
    | none =>
      exfalso
      obtain ⟨i, hi'⟩ := hex
      cases hr : Region.ready .any ops listed with
      | nil => rw [hr] at hi'; cases hi'
      | cons x xs =>
        rw [hr] at hi
        have hlt : t % (x :: xs).length < (x :: xs).length := Nat.mod_lt _ (by simp)
        rw [List.getElem?_eq_getElem hlt] at hi
        cases hi
    | some i =>
      have hlist : Region.linearise.go .any ops (fuel + 1) t listed [] = i :: Region.linearise.go .any ops fuel (t / (Region.ready .any ops listed).length) (listed.setIfInBounds i true) [] := by
        rw [hgo, hi]
        simp only
        rw [linearise_go_acc]
        simp only [List.reverse_singleton, List.singleton_append]
      rw [hlist] at hext
      simp only
      rw [linearise_go_acc]
      simp only [List.reverse_singleton, List.singleton_append]
      obtain ⟨hib, hun, o, hoi, hpred⟩ := ready_spec (List.mem_of_getElem? hi)
      have hoi' : ops.toList[i]? = some o := by rw [Array.getElem?_toList]; exact hoi
      have hibl : i < listed.size := by rw [hsz]; exact hib
      have hLi : Lof listed i = false := by simp [Lof, hibl] at hun ⊢; exact hun
      have hcnt' : left (listed.setIfInBounds i true) = fuel := by have := left_set hibl hun; omega
      have hsz' : (listed.setIfInBounds i true).size = ops.size := by simp [hsz]
      have hL' : ∀ j, Lof (listed.setIfInBounds i true) j = if j = i then true else Lof listed j := by
        intro j
        unfold Lof
        by_cases hj : j = i
        · subst hj; simp [hibl]
        · rw [if_neg hj]; simp [Array.getElem?_setIfInBounds_ne (Ne.symm hj)]
      -- all that must precede i is listed
      have hpre : ∀ j, cl pre i j = true → Lof listed j = true := by
        intro j hj
        rcases hp.back i o hoi' j hj with ⟨m, hx', hq⟩ | ⟨e, he, hb, hq⟩
        · have hm : Lof listed m = true := by
            rcases hext i m hx' with h1 | h1
            · exact h1
            · exact absurd (h1 [] _ rfl) (by simp)
          rcases hq with rfl | hq
          · exact hm
          · exact hg.closed _ _ hm hq
        have hon : Lof listed e.on = true := hpred e he hb
        rcases hq with rfl | hq
        · exact hon
        · exact hg.closed _ _ hon hq
      have hext' : ∀ i' j', (i', j') ∈ ext → Lof (listed.setIfInBounds i true) j' = true ∨ Bef (Region.linearise.go .any ops fuel (t / (Region.ready .any ops listed).length) (listed.setIfInBounds i true) []) j' i' := by
        intro i' j' hm
        by_cases hj : i = j'
        · subst hj; left; rw [hL' i, if_pos rfl]
        · rcases hext i' j' hm with h1 | h1
          · left; rw [hL' j']; split
            · rfl
            · exact h1
          · exact .inr (bef_next h1 hj)
      obtain ⟨s, hs⟩ := hp.cover i (by simpa using hib)
      rw [← he] at hs
      rcases List.mem_append.1 hs with hs | hs
      · -- it can be read by now
        have hsf : s = false := by
          cases s with
          | false => rfl
          | true => have := hg.sdone i hs; rw [hLi] at this; cases this
        subst hsf
        obtain ⟨frj, v, oj, j1, j2, j3, j4, j5, j6⟩ := hg.pends i hs hLi
        rw [hoi'] at j2; cases j2
        have hag : ∀ t ∈ looks ops.toList o, frj t = fra t := by
          intro t ht
          rcases j6 t ht with ⟨s', m, om, m1, m2, m3, m4, m5, m6⟩ | hf
          · rw [hpre m m5] at m2; cases m2
          · exact hf.1
        have hv : aF P ops.toList fra h o = some v := by rw [← aF_congr hag]; exact j3
        have hput : ∀ t, o.dst ≠ some t → putD fra o.dst v t = fra t := by
          intro t ht
          cases hd : o.dst with
          | none => rfl
          | some t' => rw [hd] at ht; simp only [putD, upd]; rw [if_neg (fun hh => ht (by rw [hh]))]
        have hputs : ∀ t, o.dst = some t → putD fra o.dst v t = v := by intro t ht; simp [ht, putD, upd]
        have hnext := ih (t / (Region.ready .any ops listed).length) (listed.setIfInBounds i true) done rest pend frc (putD fra o.dst v) ds h u hext' hcnt' hsz' he ho ⟨?_, ?_, ?_, ?_, ?_⟩ ?_ hshape hx
        · unfold aF at hv
          split at hv
          · rename_i hw
            refine one_sound hoi j4 hw ?_
            have : aop P fra h o.op (fun v' h' => v' = v ∧ h' = h) := aPure_aop hv ⟨rfl, rfl⟩
            have hone : ∀ (K : AV → List AD → AHeap → AU → Prop), K v ds h u → aOne P d (fun v fr ds h u => Unw P f n d (.pan v false) fr ds h u Q) fra ds h u o.op K := by
              intro K hK
              have hop : aop P fra h o.op (fun v' h' => K v' ds h' u) := aop_mono (fun v' h' hh => by rw [hh.1, hh.2]; exact hK) this
              unfold aOne
              split
              · rename_i hq; rw [hq] at hop; exact hop.elim
              · rename_i hq; rw [hq] at hop; simp [aop, aBuiltin] at hop
              · rename_i hq; rw [hq] at hop; exact hop.elim
              · rename_i hq; rw [hq] at hop; exact hop.elim
              · exact hop
            exact hone _ hnext
          · rename_i hw
            cases hv
            exact skip_sound hoi j4 hw hnext
          · cases hv
        · intro j hj
          rw [hL' j] at hj
          by_cases hji : j = i
          · subst hji; exact ⟨false, hs⟩
          · rw [if_neg hji] at hj; exact hg.sub j hj
        · intro j hj; rw [hL' j]; split
          · rfl
          · exact hg.sdone j hj
        · intro a b ha hab
          rw [hL' a] at ha; rw [hL' b]
          by_cases hb : b = i
          · rw [if_pos hb]
          · rw [if_neg hb]
            by_cases hai : a = i
            · subst hai; exact hpre b hab
            · rw [if_neg hai] at ha; exact hg.closed a b ha hab
        · intro t
          by_cases ht : o.dst = some t
          · right; rw [hputs t ht, j5 t ht]
          · rw [hput t ht]
            rcases hg.frame t with ⟨s', m, om, m1, m2, m3, m4⟩ | hf
            · by_cases hmi : m = i
              · subst hmi; rw [hoi'] at m3; cases m3; exact absurd m4 ht
              · exact .inl ⟨s', m, om, m1, by rw [hL' m, if_neg hmi]; exact m2, m3, m4⟩
            · exact .inr hf
        · intro j hj hLj
          rw [hL' j] at hLj
          by_cases hji : j = i
          · rw [if_pos hji] at hLj; cases hLj
          · rw [if_neg hji] at hLj
            obtain ⟨frj', v', oj', q1, q2, q3, q4, q5, q6⟩ := hg.pends j hj hLj
            refine ⟨frj', v', oj', q1, q2, q3, q4, q5, fun t ht => ?_⟩
            by_cases htd : o.dst = some t
            · right
              rw [hputs t htd]
              rcases q6 t ht with ⟨s', m, om, m1, m2, m3, m4, m5, m6⟩ | hf
              · have hmi : m = i := by
                  by_cases hmi : m = i
                  · exact hmi
                  · exact absurd m4 (hp.dsts m i om o t hmi m3 hoi' htd)
                subst hmi
                refine ⟨by rw [m6]; exact j5 t htd, fun m' om' m3' m4' m5' => ?_⟩
                have hmm : m' = m := by
                  by_cases hmi : m' = m
                  · exact hmi
                  · exact absurd m4' (hp.dsts m' m om' o t hmi m3' hoi' htd)
                subst hmm
                rw [hL' m', if_pos rfl]
              · exfalso
                rcases hp.reads j i oj' o t hji q2 hoi' htd ht with hc | hc
                · have := hf.2 i o hoi' htd hc
                  rw [hLi] at this; cases this
                · rw [hpre j hc] at hLj; cases hLj
            · rcases q6 t ht with ⟨s', m, om, m1, m2, m3, m4, m5, m6⟩ | hf
              · by_cases hmi : m = i
                · subst hmi; rw [hoi'] at m3; cases m3; exact absurd m4 htd
                · exact .inl ⟨s', m, om, m1, by rw [hL' m, if_neg hmi]; exact m2, m3, m4, m5, m6⟩
              · right
                rw [hput t htd]
                exact ⟨hf.1, fun m om m3 m4 m5 => by rw [hL' m]; split <;> first | rfl | exact hf.2 m om m3 m4 m5⟩
        · intro j hj
          rw [hL' j]
          by_cases hji : j = i
          · subst hji
            obtain ⟨s', hs'⟩ := hj
            exact absurd hs (ordDisj ho hs' false)
          · rw [if_neg hji]; exact hL j hj
      · -- it is the next that is done
        obtain ⟨r, rfl, rfl⟩ : ∃ r, s = true ∧ rest = (true, i) :: r := by
          rcases hshape with rfl | ⟨i0, r, rfl⟩
          · cases hs
          · rcases List.mem_cons.1 hs with hq | hq
            · cases hq; exact ⟨r, rfl, rfl⟩
            · exfalso
              obtain ⟨_, _, _, o4⟩ := ordOk_cons ho
              have hc := ordLater (i0 := i0) o4 (by simp) hq
              have := hL i0 ⟨true, List.mem_cons_self ..⟩
              rw [hpre i0 hc] at this; cases this
        obtain ⟨o1, o2, o3, o4⟩ := ordOk_cons ho
        have hag : ∀ t ∈ looks ops.toList o, frc t = fra t := by
          intro t ht
          rcases hg.frame t with ⟨s', m, om, m1, m2, m3, m4⟩ | hf
          · exfalso
            have hmi : m ≠ i := fun hh => o3 s' (hh ▸ m1)
            rcases hp.reads i m o om t (Ne.symm hmi) hoi' m3 m4 ht with hc | hc
            · rw [hpre m hc] at m2; cases m2
            · obtain ⟨s2, hs2⟩ := ordBefore he hp.ord m1 hc
              exact o3 s2 hs2
          · exact hf.symm
        simp only [aPlan, hoi'] at hx
        obtain ⟨hdst, hx⟩ := hx
        have after : ∀ (v : AV) (ds' : List AD) (h' : AHeap) (u' : AU), (∀ {j frj v' oj}, (j, frj, v') ∈ pend → cl pre i j = false → ops.toList[j]? = some oj → aF P ops.toList frj h oj = some v' → aF P ops.toList frj h' oj = some v') →
            aPlan P n d ops.toList pre (fun fr ds h u => Run P f n d k fr ds h u Q) (fun v fr ds h u => Unw P f n d (.pan v false) fr ds h u Q) r pend (putD frc o.dst v) ds' h' u' →
            Run P f n d (.inRegion ops (Region.linearise.go .any ops fuel (t / (Region.ready .any ops listed).length) (listed.setIfInBounds i true) []) :: k) (putD fra o.dst v) ds' h' u' Q := by
          intro v ds' h' u' hstab hplan
          have hput : ∀ (fr : Nat → AV) t, o.dst ≠ some t → putD fr o.dst v t = fr t := by
            intro fr t ht
            cases hd : o.dst with
            | none => rfl
            | some t' => rw [hd] at ht; simp only [putD, upd]; rw [if_neg (fun hh => ht (by rw [hh]))]
          have hputs : ∀ (fr : Nat → AV) t, o.dst = some t → putD fr o.dst v t = v := by intro fr t ht; simp [ht, putD, upd]
          have hg' : Good P n ops.toList pre h' (done ++ [(true, i)]) pend (Lof (listed.setIfInBounds i true)) (putD frc o.dst v) (putD fra o.dst v) := by
            refine ⟨fun j hj => ?_, fun j hj => ?_, fun a b ha hab => ?_, fun t => ?_, fun j hj hLj => ?_⟩
            · rw [hL' j] at hj
              by_cases hji : j = i
              · subst hji; exact ⟨true, by simp⟩
              · rw [if_neg hji] at hj; obtain ⟨s', hs'⟩ := hg.sub j hj; exact ⟨s', by simp [hs']⟩
            · rw [hL' j]
              split
              · rfl
              · rename_i hji
                simp only [List.mem_append, List.mem_singleton, Prod.mk.injEq, true_and] at hj
                rcases hj with hj | hj
                · exact hg.sdone j hj
                · exact absurd hj hji
            · rw [hL' a] at ha; rw [hL' b]
              by_cases hb : b = i
              · rw [if_pos hb]
              · rw [if_neg hb]
                by_cases hai : a = i
                · subst hai; exact hpre b hab
                · rw [if_neg hai] at ha; exact hg.closed a b ha hab
            · by_cases ht : o.dst = some t
              · right; rw [hputs _ t ht, hputs _ t ht]
              · rw [hput _ t ht, hput _ t ht]
                rcases hg.frame t with ⟨s', m, om, m1, m2, m3, m4⟩ | hf
                · have hmi : m ≠ i := fun hh => o3 s' (hh ▸ m1)
                  exact .inl ⟨s', m, om, by simp [m1], by rw [hL' m, if_neg hmi]; exact m2, m3, m4⟩
                · exact .inr hf
            · rw [hL' j] at hLj
              by_cases hji : j = i
              · rw [if_pos hji] at hLj; cases hLj
              · rw [if_neg hji] at hLj
                simp only [List.mem_append, List.mem_singleton, Prod.mk.injEq, Bool.false_eq_true, false_and, or_false] at hj
                obtain ⟨frj', v', oj', q1, q2, q3, q4, q5, q6⟩ := hg.pends j hj hLj
                have hncl : cl pre i j = false := by
                  cases hq : cl pre i j with
                  | false => rfl
                  | true => rw [hpre j hq] at hLj; cases hLj
                refine ⟨frj', v', oj', q1, q2, hstab q1 hncl q2 q3, q4, fun t ht => ?_, fun t ht => ?_⟩
                · rw [hput _ t (hp.dsts i j o oj' t (Ne.symm hji) hoi' q2 ht)]; exact q5 t ht
                · rcases q6 t ht with ⟨s', m, om, m1, m2, m3, m4, m5, m6⟩ | hf
                  · have hmi : m ≠ i := fun hh => o3 s' (hh ▸ m1)
                    exact .inl ⟨s', m, om, by simp [m1], by rw [hL' m, if_neg hmi]; exact m2, m3, m4, m5, by rw [hput _ t (hp.dsts i m o om t (Ne.symm hmi) hoi' m3 m4)]; exact m6⟩
                  · right
                    have htd : o.dst ≠ some t := by
                      intro htd
                      rcases hp.reads j i oj' o t hji q2 hoi' htd ht with hc | hc
                      · have := hf.2 i o hoi' htd hc
                        rw [hLi] at this; cases this
                      · rw [hncl] at hc; cases hc
                    rw [hput _ t htd]
                    exact ⟨hf.1, fun m om m3 m4 m5 => by rw [hL' m]; split <;> first | rfl | exact hf.2 m om m3 m4 m5⟩
          have hLr : ∀ j, (∃ s, (s, j) ∈ r) → Lof (listed.setIfInBounds i true) j = false := by
            rintro j ⟨s', hs'⟩
            rw [hL' j]
            have hji : j ≠ i := by
              intro hh; subst hh
              exact ordDisj o4 hs' true (by simp)
            rw [if_neg hji]
            exact hL j ⟨s', List.mem_cons_of_mem _ hs'⟩
          obtain ⟨done', rest', pend', frc', e1, e2, e3, e4, e5, e6⟩ := advance hp r (done ++ [(true, i)]) pend _ (by rw [← he]; simp) o4 hg' hLr hplan
          exact ih _ _ done' rest' pend' frc' _ ds' h' u' hext' hcnt' hsz' e1 e2 e3 e4 e6 e5
        split at hx
        · exact hx.elim
        · rename_i hw
          rw [wanted_congr hag] at hw
          exact skip_sound hoi hdst hw (after .und ds h u (fun _ _ _ hq => hq) hx)
        · rename_i hw
          rw [wanted_congr hag] at hw
          refine one_sound hoi hdst hw ?_
          refine aOne_congr (looks_op hag) (fun v h' hU => ?_) (aOne_mono (fun v ds' h' u' hk => after v ds' h' u' (fun hm hc hoj _ => pendOk_mem hk.1 hm hc hoj) hk.2) (fun _ _ hu => hu) hx)
          exact hU fra fun t ht => by
            rcases hg.frame t with ⟨s', m, om, m1, m2, m3, m4⟩ | hf
            · exact absurd m4 (ht om (List.mem_of_getElem? m3))
            · exact hf

theorem run_drawX {id : Nat} {l : List Oper} {fr : Nat → AV} {ds : List AD} {h : AHeap} {u : AU} (hm : P.follows .mixedOrders = true)
    (hc : ∀ sch : List Nat, ∃ ext pre plan, planOkX ext l pre plan = true ∧ (∀ i j, (i, j) ∈ ext → Bef sch j i) ∧ aPlan P n d l pre (fun fr ds h u => Run P f n d k fr ds h u Q) (fun v fr ds h u => Unw P f n d (.pan v false) fr ds h u Q) plan [] fr ds h u) :
    Run P f n d (.code (.region id ⟨l⟩ true) :: k) fr ds h u Q := by
  intro B mu w a cs p
  have hst := stepR_region_draw (P := P) (b := b0 f d) (a := a) (k := k) (cs := cs) (w := w) (ops := ⟨l⟩) (id := id)
  simp only [Region.schedule, hm, Bool.true_or, if_true] at hst
  have hd := p.sim.drew
  obtain ⟨ext, pre, plan, hok, hbef, hx'⟩ := hc (Region.linearise.go .any ⟨l⟩ l.length (w.tape w.drawn (.order (b0 f d).fn id)) (Array.replicate l.length false) [])
  have hP := planOk_spec hok
  have hinit : Good P n l pre h [] [] (Lof (Array.replicate l.length false)) fr fr :=
    ⟨fun i hi => (by rw [Lof_none] at hi; cases hi), fun i hi => (by cases hi), fun i j hi => (by rw [Lof_none] at hi; cases hi), fun t => .inr rfl, fun j hj => (by cases hj)⟩
  obtain ⟨done', rest', pend', frc', e1, e2, e3, e4, e5, e6⟩ := advance (P := P) (n := n) (d := d) hP plan [] [] fr rfl hP.ord hinit (fun i _ => Lof_none _ i) hx'
  have := any_sound (ops := ⟨l⟩) hP l.length (w.tape w.drawn (.order (b0 f d).fn id)) (Array.replicate l.length false) done' rest' pend' frc' fr ds h u (fun i j hm => .inr (hbef i j hm)) (by simp [left]) (by simp) e1 e2 e3 e4 e6 e5
  exact .head hst (.ext hd.2 (this B mu w.drew a cs (p.ext hd.2 hd.1)))
theorem run_draw {id : Nat} {l : List Oper} {fr : Nat → AV} {ds : List AD} {h : AHeap} {u : AU} (hm : P.follows .mixedOrders = true) (pre : List (List Nat)) (plan : Plan) (hp : planOk l pre plan = true)
    (hx : ∀ (K : KT) (U : AV → KT), (∀ fr ds h u, Run P f n d k fr ds h u Q → K fr ds h u) → (∀ v fr ds h u, Unw P f n d (.pan v false) fr ds h u Q → U v fr ds h u) → aPlan P n d l pre K U plan [] fr ds h u) :
    Run P f n d (.code (.region id ⟨l⟩ true) :: k) fr ds h u Q :=
  run_drawX hm fun sch => ⟨[], pre, plan, hp, fun _ _ hm => absurd hm List.not_mem_nil, hx _ _ (fun _ _ _ _ h => h) (fun _ _ _ _ _ h => h)⟩
/-- Effects whose order is open: one plan for each order. -/
inductive DT where
  | leaf (pre : List (List Nat)) (plan : Plan)
  | node (i j : Nat) (A B : DT)
def DT.ok (all : List Oper) : List (Nat × Nat) → DT → Bool
  | ext, .leaf pre plan => planOkX ext all pre plan
  | ext, .node i j A B => !Nat.beq i j && A.ok all ((i, j) :: ext) && B.ok all ((j, i) :: ext)
def DT.each (p : List (List Nat) → Plan → Prop) : DT → Prop
  | .leaf pre plan => p pre plan
  | .node _ _ A B => A.each p ∧ B.each p
theorem DT.mono {p q : List (List Nat) → Plan → Prop} (hpq : ∀ pre plan, p pre plan → q pre plan) : ∀ T : DT, T.each p → T.each q
  | .leaf pre plan, h => hpq _ _ h
  | .node _ _ A B, h => ⟨A.mono hpq h.1, B.mono hpq h.2⟩
theorem DT.pick {all : List Oper} {p : List (List Nat) → Plan → Prop} (sch : List Nat) : ∀ (T : DT) (ext : List (Nat × Nat)), T.ok all ext = true → (∀ i j, (i, j) ∈ ext → Bef sch j i) → T.each p → ∃ ext pre plan, planOkX ext all pre plan = true ∧ (∀ i j, (i, j) ∈ ext → Bef sch j i) ∧ p pre plan
  | .leaf pre plan, ext, h, hb, hx => ⟨ext, pre, plan, h, hb, hx⟩
  | .node i j A B, ext, h, hb, hx => by
    simp only [DT.ok, Bool.and_eq_true, Bool.not_eq_true'] at h
    obtain ⟨⟨h1, h2⟩, h3⟩ := h
    have hne : i ≠ j := fun e => by subst e; simp at h1
    rcases bef_or sch hne with hq | hq
    · exact DT.pick sch A _ h2 (fun a b hm => by
        rcases List.mem_cons.1 hm with hm | hm
        · cases hm; exact hq
        · exact hb a b hm) hx.1
    · exact DT.pick sch B _ h3 (fun a b hm => by
        rcases List.mem_cons.1 hm with hm | hm
        · cases hm; exact hq
        · exact hb a b hm) hx.2
theorem run_drawT {id : Nat} {l : List Oper} {fr : Nat → AV} {ds : List AD} {h : AHeap} {u : AU} (hm : P.follows .mixedOrders = true) (T : DT) (hT : T.ok l [] = true)
    (hx : ∀ (K : KT) (U : AV → KT), (∀ fr ds h u, Run P f n d k fr ds h u Q → K fr ds h u) → (∀ v fr ds h u, Unw P f n d (.pan v false) fr ds h u Q → U v fr ds h u) → T.each fun pre plan => aPlan P n d l pre K U plan [] fr ds h u) :
    Run P f n d (.code (.region id ⟨l⟩ true) :: k) fr ds h u Q :=
  run_drawX hm fun sch => T.pick sch [] hT (fun _ _ hm => absurd hm List.not_mem_nil) (hx _ _ (fun _ _ _ _ h => h) (fun _ _ _ _ _ h => h))
end
end Go.Am
