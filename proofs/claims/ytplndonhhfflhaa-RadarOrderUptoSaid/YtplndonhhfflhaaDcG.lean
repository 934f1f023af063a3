/- Calls that are lent objects, and that hand out new ones; parts of objects made content. -/
import Derived.Test.YtplndonhhfflhaaDcDefer
namespace Go.Am
open Go
set_option linter.unusedSimpArgs false
set_option linter.unusedVariables false
set_option linter.unusedSectionVars false

/-! ### Objects whose parts become content -/
inductive AFz (h h2 : AHeap) : AO → AO → Prop
  | same (x : AO) : AFz h h2 x x
  | rows (g st : Nat) (rs rs' : List (List AV)) (hl : rs.length = rs'.length) (hr : ∀ r ∈ rs', RowOk st r) (hc : ∀ i j, i < rs.length → j < st → Fz h h2 (cell rs i j) (cell rs' i j)) : AFz h h2 (.rows g st rs) (.rows g st rs')
def HFz (h h2 : AHeap) : Prop := ∀ o y, h2 o = some y → ∃ x, h o = some x ∧ AFz h h2 x y
theorem AFz.gen {h h2 : AHeap} {x y : AO} (k : AFz h h2 x y) : x.gen = y.gen := by cases k <;> rfl
theorem HFz.subG {h h2 : AHeap} (k : HFz h h2) : SubG h2 h := fun o y e => let ⟨x, h1, h2⟩ := k o y e; ⟨x, h1, h2.gen⟩
theorem Sim.fz {P : Program} [GW P] {B : Base P} {mu : Mu} {h h2 : AHeap} {w : World} (s : Sim B mu h w) (k : HFz h h2) : Sim B mu h2 w := by
  refine ⟨s.base, s.muOk, s.fin, ?_, ?_, ?_, ?_, s.glob, fun o g x e => by
    obtain ⟨y, h1, hx⟩ := k o _ e
    cases hx with
    | same _ => exact s.blks o g x h1⟩
  · obtain ⟨N, hN⟩ := s.finh
    refine ⟨N, fun o ho => ?_⟩
    cases hq : h2 o with
    | none => rfl
    | some y => obtain ⟨x, h1, _⟩ := k o y hq; rw [hN o ho] at h1; cases h1
  · intro o g st rs e
    obtain ⟨x, h1, hx⟩ := k o _ e
    cases hx with
    | same _ =>
      obtain ⟨l, k1, k2, k3, k4, k5, k6⟩ := s.rows o g st rs h1
      exact ⟨l, k1, k2, k3, k4, k5, fun i j hi hj => let ⟨c, c1, c2⟩ := k6 i j hi hj; ⟨c, c1, freeze_soundG s k.subG (.same _) c2⟩⟩
    | rows _ _ rs0 _ hl hr hc =>
      obtain ⟨l, k1, k2, k3, k4, k5, k6⟩ := s.rows o g st rs0 h1
      exact ⟨l, k1, k2, k3, by rw [← hl]; exact k4, hr, fun i j hi hj => let ⟨c, c1, c2⟩ := k6 i j (hl ▸ hi) hj; ⟨c, c1, freeze_soundG s k.subG (hc i j (hl ▸ hi) hj) c2⟩⟩
  · intro o g es e
    obtain ⟨x, h1, hx⟩ := k o _ e
    cases hx with
    | same _ =>
      obtain ⟨l, k1, k2, ens, clock, k3, k4, k5⟩ := s.maps o g es h1
      exact ⟨l, k1, k2, ens, clock, k3, k4, fun i hi => ⟨freeze_soundG s k.subG (.same _) (k5 i hi).1, freeze_soundG s k.subG (.same _) (k5 i hi).2⟩⟩
  · intro o o' x x' l l' e e' h1 h2 hb
    obtain ⟨y, k1, k2⟩ := k _ _ e
    obtain ⟨y', k1', k2'⟩ := k _ _ e'
    exact s.inj o o' y y' l l' k1 k1' (by rw [k2.gen]; exact h1) (by rw [k2'.gen]; exact h2) hb
section
variable {P : Program} [GW P] {f : FuncId} {n : Nat} {d : FK} {fr : Nat → AV} {ds : List AD} {h h2 : AHeap} {u : AU} {Q : QT} {k : List Item}
theorem run_fz {todo : List Item} {fr' : Nat → AV} (hs : HFz h h2) (hz : ∀ t, Fz h h2 (fr t) (fr' t)) (hr : Run P f n d todo fr' ds h2 u Q) : Run P f n d todo fr ds h u Q := by
  intro B mu w a cs p
  exact (hr B mu w a cs ⟨p.size, fun t => freeze_soundG p.sim hs.subG (hz t) (p.fr t), p.ds.ext (EXT.subG hs.subG), p.sim.fz hs, p.cs.ext (EXT.subG hs.subG), p.rnd, p.fb⟩).ext (EXT.subG hs.subG)
theorem unw_retZ {fn : Func} {vs : List AV} {v' : AV} (hf : P.funcs[f]? = some fn) (hx : aRes P h fr fn.results.toList = some vs) (hs : HFz h h2) (hz : Fz h h2 (packRes vs) v') (hu : d = false) (hq : Q (.ret v') h2 u) : Unw P f n d .ret fr [] h u Q := by
  intro B mu w a cs todo mode p hm
  obtain ⟨c, h1, h2'⟩ := results_sound p.sim p.fr hx
  have hd : a.defers = [] := p.ds
  have hmode := hm.ret_inv
  refine ⟨.returned c, w, cs, _, .ret v', h2, mu, u, hq, Steps.refl P _, rfl, rfl, (by subst hu; exact ⟨hmode, hd, fn, hf, h1⟩), freeze_soundG p.sim hs.subG hz h2', p.sim.fz hs, (EXT.subG hs.subG).g, ?_⟩
  subst hu
  rfl
end
/-- The objects written out: kept, dropped, with parts made content. -/
inductive HL (h h2 : AHeap) : List (Option AO) → List (Option AO) → Prop
  | nil : HL h h2 [] []
  | keep {x : Option AO} {xs ys : List (Option AO)} (r : HL h h2 xs ys) : HL h h2 (x :: xs) (x :: ys)
  | drop {x : Option AO} {xs ys : List (Option AO)} (r : HL h h2 xs ys) : HL h h2 (x :: xs) (none :: ys)
  | fz {g st : Nat} {row row' : List AV} {xs ys : List (Option AO)} (hz : LF h h2 row row') (hl : row'.length = st) (hf : row'.all AV.flat = true) (r : HL h h2 xs ys) : HL h h2 (some (.rows g st [row]) :: xs) (some (.rows g st [row']) :: ys)
theorem HL.get {h h2 : AHeap} {xs ys : List (Option AO)} (k : HL h h2 xs ys) : xs.length = ys.length ∧ ∀ (j : Nat) (y : AO), ys[j]? = some (some y) → ∃ x, xs[j]? = some (some x) ∧ AFz h h2 x y := by
  induction k with
  | nil => exact ⟨rfl, fun j y e => by simp at e⟩
  | keep r ih =>
    refine ⟨by simp [ih.1], fun j y e => ?_⟩
    cases j with
    | zero => simp only [List.getElem?_cons_zero, Option.some.injEq] at e; subst e; exact ⟨y, by simp, .same _⟩
    | succ j => simpa using ih.2 j y (by simpa using e)
  | drop r ih =>
    refine ⟨by simp [ih.1], fun j y e => ?_⟩
    cases j with
    | zero => simp at e
    | succ j => simpa using ih.2 j y (by simpa using e)
  | @fz g st row row' xs ys hz hl hf r ih =>
    refine ⟨by simp [ih.1], fun j y e => ?_⟩
    cases j with
    | zero =>
      simp only [List.getElem?_cons_zero, Option.some.injEq] at e
      subst e
      refine ⟨.rows g st [row], by simp only [List.getElem?_cons_zero], .rows g st [row] [row'] rfl ?_ ?_⟩
      · intro r hr
        rw [List.mem_singleton.1 hr]
        exact ⟨hl, fun v hv => List.all_eq_true.1 hf v hv⟩
      · intro i j hi hj
        have : i = 0 := by simpa using hi
        subst this
        have := hz.all.2 j (by rw [hz.all.1, hl]; exact hj)
        simpa [cell] using this
    | succ j => simpa using ih.2 j y (by simpa using e)
theorem HL.hfz {h0 : AHeap} {ids : List Nat} {N : Nat} {xs ys : List (Option AO)} (hI : Ids h0 ids N) (hl : xs.length = N) (k : HL (hp h0 ids xs) (hp h0 ids ys) xs ys) : HFz (hp h0 ids xs) (hp h0 ids ys) := by
  intro o y e
  obtain ⟨k1, k2⟩ := k.get
  by_cases ho : o ∈ ids
  · obtain ⟨j, hj, rfl⟩ := List.mem_iff_getElem.1 ho
    have ej : ids[j] = ix ids j := by simp [ix, List.getD, hj]
    rw [ej] at e ⊢
    have hjl : j < ys.length := by rw [← k1, hl, ← hI.len]; exact hj
    have hy := hI.at (xs := ys) (j := j) (x := ys[j]) (by rw [← k1, hl]) (List.getElem?_eq_getElem hjl)
    rw [hy] at e
    obtain ⟨x, hx, hz⟩ := k2 j y (by rw [List.getElem?_eq_getElem hjl, e])
    exact ⟨x, hI.at hl hx, hz⟩
  · rw [hp_out ho] at e
    exact ⟨y, by rw [hp_out ho]; exact e, .same _⟩
section
variable {P : Program} [GW P] {f : FuncId} {n : Nat} {d : FK} {β : Type} {Q : Spec β} {m : R β} {ds : List AD} {u : AU} {k : List Item} {l : List (Nat × AV)} {all : List Oper}
variable {h0 : AHeap} {ids : List Nat} {xs : List (Option AO)} {N : Nat}
theorem wr_fz {todo : List Item} (ys : List (Option AO)) (l' : List (Nat × AV)) (hI : Ids h0 ids N) (hl : xs.length = N) (hx : HL (hp h0 ids xs) (hp h0 ids ys) xs ys) (hf : FrFz (hp h0 ids xs) (hp h0 ids ys) l l')
    (hr : WR P f n d Q m todo (frA l') ds (hp h0 ids ys) u) : WR P f n d Q m todo (frA l) ds (hp h0 ids xs) u := fun hb => run_fz (hx.hfz hI hl) hf.get (hr hb)
theorem wo_fz {ops : List Oper} (ys : List (Option AO)) (l' : List (Nat × AV)) (hI : Ids h0 ids N) (hl : xs.length = N) (hx : HL (hp h0 ids xs) (hp h0 ids ys) xs ys) (hf : FrFz (hp h0 ids xs) (hp h0 ids ys) l l')
    (hr : WO P f n d Q k all m ops (frA l') ds (hp h0 ids ys) u) : WO P f n d Q k all m ops (frA l) ds (hp h0 ids xs) u := fun hb i hi => run_fz (hx.hfz hI hl) hf.get (hr hb i hi)
end

/-! ### Objects picked out -/
def clr : List Nat → List (Option AO) → List (Option AO)
  | [], xs => xs
  | j :: js, xs => clr js (xs.set j none)
def putl : List Nat → List (Option AO) → List (Option AO) → List (Option AO)
  | j :: js, y :: ys, xs => (putl js ys (xs.set j none)).set j y
  | _, _, xs => xs
def pki (ids : List Nat) : List Nat → List Nat
  | [] => []
  | j :: js => ix ids j :: pki ids js
def jsOk (N : Nat) : List Nat → Bool
  | [] => true
  | j :: js => Nat.blt j N && !js.contains j && jsOk N js
theorem clr_len : ∀ (js : List Nat) (xs : List (Option AO)), (clr js xs).length = xs.length
  | [], _ => rfl
  | j :: js, xs => by rw [clr, clr_len js]; simp
theorem putl_len : ∀ (js : List Nat) (ys xs : List (Option AO)), (putl js ys xs).length = xs.length
  | [], _, _ => by simp [putl]
  | _ :: _, [], _ => by simp [putl]
  | j :: js, y :: ys, xs => by rw [putl, List.length_set, putl_len js]; simp
theorem clr_none : ∀ (js : List Nat) (xs : List (Option AO)) (i : Nat), xs[i]? = some none → (clr js xs)[i]? = some none
  | [], _, _, h => h
  | j :: js, xs, i, h => clr_none js _ i (by
    rw [List.getElem?_set]
    split
    · rename_i hq; subst hq
      rw [if_pos]
      rcases Nat.lt_or_ge j xs.length with hh | hh
      · exact hh
      · rw [List.getElem?_eq_none hh] at h; cases h
    · exact h)
theorem clr_at : ∀ (js : List Nat) (xs : List (Option AO)) (i : Nat), i ∈ js → i < xs.length → (clr js xs)[i]? = some none
  | j :: js, xs, i, hm, hi => by
    rcases List.mem_cons.1 hm with rfl | hm
    · exact clr_none js _ i (by simp [hi])
    · exact clr_at js _ i hm (by simpa using hi)
section
variable {h0 : AHeap} {ids : List Nat} {N : Nat}
theorem hp_put (hI : Ids h0 ids N) : ∀ {js : List Nat} {ys xs : List (Option AO)}, xs.length = N → js.length = ys.length → jsOk N js = true → hp (hp h0 ids (clr js xs)) (pki ids js) ys = hp h0 ids (putl js ys xs)
  | [], [], xs, _, _, _ => rfl
  | j :: js, y :: ys, xs, hl, hj, hk => by
    simp only [jsOk, Bool.and_eq_true] at hk
    simp only [pki, hp, clr, putl]
    rw [hp_put hI (js := js) (ys := ys) (xs := xs.set j none) (by simpa using hl) (by simpa using hj) hk.2]
    rw [hI.set (by rw [putl_len]; simpa using hl) hk.1.1]
theorem Ids.sub' (hI : Ids h0 ids N) {js : List Nat} {xs : List (Option AO)} (hl : xs.length = N) (hk : jsOk N js = true) : Ids (hp h0 ids (clr js xs)) (pki ids js) js.length := by
  have hlt : ∀ {js : List Nat}, jsOk N js = true → ∀ j ∈ js, j < N := by
    intro js
    induction js with
    | nil => intro _ j hj; cases hj
    | cons i js ih =>
      intro hk j hj
      simp only [jsOk, Bool.and_eq_true] at hk
      rcases List.mem_cons.1 hj with rfl | hj
      · simpa using hk.1.1
      · exact ih hk.2 j hj
  have hmem : ∀ {js : List Nat} {o : Nat}, o ∈ pki ids js → ∃ j ∈ js, o = ix ids j := by
    intro js
    induction js with
    | nil => intro o ho; cases ho
    | cons i js ih =>
      intro o ho
      rcases List.mem_cons.1 ho with rfl | ho
      · exact ⟨i, List.mem_cons_self .., rfl⟩
      · obtain ⟨j, h1, h2⟩ := ih ho; exact ⟨j, List.mem_cons_of_mem _ h1, h2⟩
  have hinj : ∀ {i j : Nat}, i < N → j < N → ix ids i = ix ids j → i = j := by
    intro i j hi hj e
    rw [← hI.len] at hi hj
    simp only [ix, List.getD, List.getElem?_eq_getElem hi, List.getElem?_eq_getElem hj, Option.getD_some] at e
    rcases Nat.lt_trichotomy i j with hh | hh | hh
    · exact absurd e (List.pairwise_iff_getElem.1 hI.nodup i j hi hj hh)
    · exact hh
    · exact absurd e.symm (List.pairwise_iff_getElem.1 hI.nodup j i hj hi hh)
  refine ⟨?_, ?_, ?_⟩
  · have key : ∀ {js : List Nat}, jsOk N js = true → (pki ids js).Nodup := by
      intro js
      induction js with
      | nil => intro _; exact List.nodup_nil
      | cons i js ih =>
        intro hk
        have hk' := hk
        simp only [jsOk, Bool.and_eq_true] at hk
        refine List.nodup_cons.2 ⟨fun hm => ?_, ih hk.2⟩
        obtain ⟨j, h1, h2⟩ := hmem hm
        have := hinj (by simpa using hk.1.1) (hlt hk.2 j h1) h2
        subst this
        have := hk.1.2
        simp [h1] at this
    exact key hk
  · intro o ho
    obtain ⟨j, h1, rfl⟩ := hmem ho
    exact hI.at (by rw [clr_len]; exact hl) (clr_at js xs j h1 (by rw [hl]; exact hlt hk j h1))
  · clear hk
    induction js with
    | nil => rfl
    | cons i js ih => simp only [pki, List.length_cons]; rw [ih]
theorem Ids.sub2 (hI : Ids h0 ids N) {js : List Nat} {xs cl : List (Option AO)} (hl : xs.length = N) (hk : jsOk N js = true) (e : clr js xs = cl) : Ids (hp h0 ids cl) (pki ids js) js.length := e ▸ hI.sub' hl hk
end

/-! ### What a call leaves -/
def AnsG {α : Type} (S : α → AV → AHeap → Prop) (h0 : AHeap) (m : R α) : AR → AHeap → Prop := fun r h' => match m with
  | .ok a => ∃ v, r = .ret v ∧ S a v h'
  | .pan v => r = .panic v.av ∧ h' = h0
  | .bad => False
def AnsGQ {α : Type} (S : α → AV → AHeap → Prop) (h0 : AHeap) : Spec α := ⟨fun m => m ≠ .bad, fun h => h rfl, fun m r h' _ => AnsG S h0 m r h'⟩
def tkf (ids : List Nat) : Nat → Nat → List Nat
  | 0, _ => []
  | k + 1, j => ix ids j :: tkf ids k (j + 1)
theorem tkf_take : ∀ (ids : List Nat) (k j : Nat), j + k ≤ ids.length → (ids.drop j).take k = tkf ids k j
  | ids, 0, j, _ => by simp [tkf]
  | ids, k + 1, j, h => by
    have hj : j < ids.length := by omega
    rw [List.drop_eq_getElem_cons hj, List.take_succ_cons, tkf, tkf_take ids k (j + 1) (by omega)]
    simp [ix, List.getD, hj]
section
variable {P : Program} [GW P] {f : FuncId} {n : Nat} {α : Type} {m : R α} {S : α → AV → AHeap → Prop} {h0 : AHeap}
theorem cpg_intro {fn : Func} {c : Code} {args : List AV} {os0 : List Nat} {K : Nat} {xs : List (Option AO)} (N : Nat) (hf : P.funcs[f]? = some fn) (hb : fn.body = some c) (hn : fn.name ≠ "runtime.NumGoroutine") (hnt : fn.ntmps = n) (hl : Nat.ble args.length n = true)
    (hI0 : Ids h0 os0 K) (hx : xs.length = K)
    (hr : ∀ ids, (∀ j, Nat.blt j K = true → ix ids j = ix os0 j) → Ids h0 ids (K + N) → WR P f n false (AnsGQ S h0) m [.code c] (frA (frOf 0 args)) [] (hp h0 ids (xs ++ List.replicate N none)) .ret) :
    m ≠ .bad → ACalls P f args (hp h0 os0 xs) (AnsG S h0 m) := by
  intro hb'
  refine calls_intro hf hb hn hnt (by simpa using hl) ?_
  refine run_ids N os0 fun os h1 h2 h3 h4 => ?_
  have hout : ∀ o ∈ os, o ∉ os0 := fun o ho => h4 o ho
  have hI : Ids h0 (os0 ++ os) (K + N) := by
    refine ⟨List.nodup_append.2 ⟨hI0.nodup, h2, fun a ha b hb hq => hout b hb (hq ▸ ha)⟩, fun o ho => ?_, by simp [hI0.len, h1]⟩
    rcases List.mem_append.1 ho with ho | ho
    · exact hI0.fresh o ho
    · have := h3 o ho
      rwa [hp_out (hout o ho)] at this
  have e : hp h0 (os0 ++ os) (xs ++ List.replicate N none) = hp h0 os0 xs := by
    rw [hp_append (by rw [hI0.len, hx]), hp_nones fun o ho => hI.fresh o (List.mem_append_right _ ho)]
  have := hr (os0 ++ os) (fun j hj => by
    have hj' : j < os0.length := by rw [hI0.len]; simpa using hj
    simp [ix, List.getD, List.getElem?_append_left hj']) hI hb'
  rw [e] at this
  refine run_le (fun t => ?_) this
  rcases frOf_fr0 args 0 t with h | ⟨_, h⟩
  · exact .inl h
  · exact .inr h
section
variable {ids : List Nat} {xs : List (Option AO)} {K N : Nat} {l : List (Nat × AV)} {k : List Item} {u : AU}
theorem hp_head (hI : Ids h0 ids (K + N)) {ys : List (Option AO)} (hy : ys.length = K) : hp h0 ids (ys ++ List.replicate N none) = hp h0 (tkf ids K 0) ys := by
  have e := tkf_take ids K 0 (by rw [hI.len]; omega)
  rw [List.drop_zero] at e
  rw [← e]
  have e2 : ids = ids.take K ++ ids.drop K := (List.take_append_drop K ids).symm
  conv => lhs; rw [e2]
  rw [hp_append (by rw [List.length_take, hI.len, hy]; omega), hp_nones fun o ho => hI.fresh o (List.mem_of_mem_drop ho)]
theorem wr_retG {fn : Func} {a : α} {vs : List AV} {v : AV} (ys : List (Option AO)) (hf : P.funcs[f]? = some fn) (hI : Ids h0 ids (K + N)) (hl : xs.length = K + N) (hr : aRes P (hp h0 ids xs) (frA l) fn.results.toList = some vs)
    (hy : ys.length = K) (hx : HL (hp h0 ids xs) (hp h0 ids (ys ++ List.replicate N none)) xs (ys ++ List.replicate N none)) (hz : Fz (hp h0 ids xs) (hp h0 ids (ys ++ List.replicate N none)) (packRes vs) v) (hS : S a v (hp h0 (tkf ids K 0) ys)) :
    WR P f n false (AnsGQ S h0) (.ok a) (.code .ret :: k) (frA l) [] (hp h0 ids xs) u := fun _ => by
  refine run_ret (unw_retZ hf hr (hx.hfz hI hl) hz rfl ⟨v, rfl, ?_⟩)
  rw [hp_head hI hy]; exact hS
theorem wr_endG {fn : Func} {a : α} {vs : List AV} {v : AV} (ys : List (Option AO)) (hf : P.funcs[f]? = some fn) (hI : Ids h0 ids (K + N)) (hl : xs.length = K + N) (hr : aRes P (hp h0 ids xs) (frA l) fn.results.toList = some vs)
    (hy : ys.length = K) (hx : HL (hp h0 ids xs) (hp h0 ids (ys ++ List.replicate N none)) xs (ys ++ List.replicate N none)) (hz : Fz (hp h0 ids xs) (hp h0 ids (ys ++ List.replicate N none)) (packRes vs) v) (hS : S a v (hp h0 (tkf ids K 0) ys)) :
    WR P f n false (AnsGQ S h0) (.ok a) [] (frA l) [] (hp h0 ids xs) u := fun _ => by
  refine run_end (unw_retZ hf hr (hx.hfz hI hl) hz rfl ⟨v, rfl, ?_⟩)
  rw [hp_head hI hy]; exact hS
theorem wu_panG {fn : Func} {v : PV} {fr : Nat → AV} (hf : P.funcs[f]? = some fn) (hI : Ids h0 ids (K + N)) : WU P f n false (AnsGQ S h0) (.pan v) (.pan v.av false) fr [] (hp h0 ids xs) u := fun _ =>
  unw_panF hf (hI.sub xs) (.same _) ⟨rfl, rfl⟩
end
end
section
variable {P : Program} [GW P] {f : FuncId} {n : Nat} {d : FK} {β γ : Type} {Q : Spec β} {m : R β} {ds : List AD} {u : AU} {k : List Item} {l : List (Nat × AV)} {F : γ → R β}
variable {all r : List Oper} {ty : TypeId} {pos : String} {after : Array Edge} {h0 : AHeap} {ids : List Nat} {xs : List (Option AO)} {N : Nat}
theorem wo_putH {ops : List Oper} {fr : Nat → AV} (js : List Nat) {xs zs : List (Option AO)} (ys : List (Option AO)) (hI : Ids h0 ids N) (hl : xs.length = N) (hk : jsOk N js = true) (hz : js.length = zs.length) (e : putl js zs xs = ys) (hr : WO P f n d Q k all m ops fr ds (hp h0 ids ys) u) :
    WO P f n d Q k all m ops fr ds (hp (hp h0 ids (clr js xs)) (pki ids js) zs) u := by
  subst e
  rw [hp_put hI hl hz hk]; exact hr
theorem of_callG {α : Type} {dst : Option Tmp} {x : Operand} {as : List Operand} {ts : Array TypeId} {g : FuncId} {fst cap A : List AV} {gd : Option (Nat × Bool)} {mg : R α} {S : α → AV → AHeap → Prop} {rest : α → R γ} {zs : List (Option AO)} (js : List Nat) (hI : Ids h0 ids N) (hl : xs.length = N) (hk : jsOk N js = true)
    (hc : mg ≠ .bad → ACalls P g A (hp (hp h0 ids (clr js xs)) (pki ids js) zs) (AnsG S (hp h0 ids (clr js xs)) mg)) (hz : js.length = zs.length) (e2 : putl js zs xs = xs)
    (ht : dstOk n dst = true) (hw : aWanted all (frA l) ⟨dst, .call ⟨.value x, ⟨as⟩, ts⟩, ty, pos, after, gd⟩ = some true) (hx : ev (frA l) x = .func (.func g) fst cap) (ha : fst ++ evs (frA l) as ++ cap = A)
    (hp' : ∀ v, mg = .pan v → WU P f n d Q (.pan v) (.pan v.av false) (frA l) ds (hp h0 ids (clr js xs)) u)
    (hk : ∀ a, mg = .ok a → ∀ v h', S a v h' → WO P f n d Q k all ((rest a).bind F) r (putD (frA l) dst v) ds h' u) :
    WO P f n d Q k all ((mg.bind rest).bind F) (⟨dst, .call ⟨.value x, ⟨as⟩, ts⟩, ty, pos, after, gd⟩ :: r) (frA l) ds (hp h0 ids xs) u := by
  rw [hp_put hI hl hz ‹jsOk N js = true›, e2] at hc
  refine wo_eq (R.bind_assoc _ _ _) (wo_one ht hw fun hb K U hK hU => ?_)
  simp only [aOne, hx]
  rw [ha]
  have hmb : mg ≠ .bad := fun q => by rw [q] at hb; exact Q.bad hb
  refine (hc hmb).mono fun r' h' hr => ?_
  cases hm : mg with
  | bad => exact absurd hm hmb
  | ok a =>
    rw [hm] at hr hb hK
    obtain ⟨v, rfl, hS⟩ := hr
    exact hK _ _ _ _ (hk a hm v h' hS)
  | pan v =>
    rw [hm] at hr hb hU
    obtain ⟨rfl, rfl⟩ := hr
    exact hU _ _ _ _ _ (hp' v hm hb)
theorem wo_put1 {ops : List Oper} {t : Nat} {v : AV} {h : AHeap} (hr : WO P f n d Q k all m ops (frA ((t, v) :: l)) ds h u) : WO P f n d Q k all m ops (putD (frA l) (some t) v) ds h u := by rw [putD_frA]; exact hr
theorem wp_callG {α : Type} {pre : List (List Nat)} {plan : Plan} {pend : Pend} {i : Nat} {dst : Option Tmp} {x : Operand} {as : List Operand} {ts : Array TypeId} {g : FuncId} {fst cap A : List AV} {gd : Option (Nat × Bool)} {mg : R α} {S : α → AV → AHeap → Prop} {rest : α → R γ} {zs : List (Option AO)} (js : List Nat) (hI : Ids h0 ids N) (hl : xs.length = N) (hk : jsOk N js = true)
    (hc : mg ≠ .bad → ACalls P g A (hp (hp h0 ids (clr js xs)) (pki ids js) zs) (AnsG S (hp h0 ids (clr js xs)) mg)) (hz : js.length = zs.length) (e2 : putl js zs xs = xs) (ho : all[i]? = some ⟨dst, .call ⟨.value x, ⟨as⟩, ts⟩, ty, pos, after, gd⟩)
    (ht : dstOk n dst = true) (hw : aWanted all (frA l) ⟨dst, .call ⟨.value x, ⟨as⟩, ts⟩, ty, pos, after, gd⟩ = some true) (hx : ev (frA l) x = .func (.func g) fst cap) (ha : fst ++ evs (frA l) as ++ cap = A)
    (hp' : ∀ v, mg = .pan v → ∀ fr, (∀ t, (all.any fun o => o.dst == some t) = false → fr t = frA l t) → WU P f n d Q (.pan v) (.pan v.av false) fr ds (hp h0 ids (clr js xs)) u)
    (hk : ∀ a, mg = .ok a → ∀ v h', S a v h' → pendOk P all pre i h' pend ∧ WP P f n d Q k all pre ((rest a).bind F) plan pend (putD (frA l) dst v) ds h' u) :
    WP P f n d Q k all pre ((mg.bind rest).bind F) ((true, i) :: plan) pend (frA l) ds (hp h0 ids xs) u := by
  rw [hp_put hI hl hz ‹jsOk N js = true›, e2] at hc
  refine wp_eq (R.bind_assoc _ _ _) (wp_one ho ht hw fun hb K U hK hU => ?_)
  simp only [aOne, hx]
  rw [ha]
  have hmb : mg ≠ .bad := fun q => by rw [q] at hb; exact Q.bad hb
  refine (hc hmb).mono fun r' h' hr => ?_
  cases hm : mg with
  | bad => exact absurd hm hmb
  | ok a =>
    rw [hm] at hr hb hK
    obtain ⟨v, rfl, hS⟩ := hr
    obtain ⟨k1, k2⟩ := hk a hm v h' hS
    exact hK _ _ _ _ k1 k2
  | pan v =>
    rw [hm] at hr hb hU
    obtain ⟨rfl, rfl⟩ := hr
    exact hU _ _ _ _ _ (fun fr' hf => hp' v hm fr' hf hb)
theorem wp_putH {pre : List (List Nat)} {plan : Plan} {pend : Pend} {i : Nat} {fr : Nat → AV} (js : List Nat) {xs zs : List (Option AO)} (ys : List (Option AO)) (hI : Ids h0 ids N) (hl : xs.length = N) (hk : jsOk N js = true) (hz : js.length = zs.length) (e : putl js zs xs = ys)
    (hr : pendOk P all pre i (hp h0 ids ys) pend ∧ WP P f n d Q k all pre m plan pend fr ds (hp h0 ids ys) u) :
    pendOk P all pre i (hp (hp h0 ids (clr js xs)) (pki ids js) zs) pend ∧ WP P f n d Q k all pre m plan pend fr ds (hp (hp h0 ids (clr js xs)) (pki ids js) zs) u := by
  subst e
  rw [hp_put hI hl hz hk]; exact hr
theorem wp_put1 {pre : List (List Nat)} {plan : Plan} {pend : Pend} {t : Nat} {v : AV} {h : AHeap} (hr : WP P f n d Q k all pre m plan pend (frA ((t, v) :: l)) ds h u) : WP P f n d Q k all pre m plan pend (putD (frA l) (some t) v) ds h u := by rw [putD_frA]; exact hr
end
/-- Returning ahead of the deferred call. -/
theorem wr_retC0 {P : Program} [GW P] {f : FuncId} {n : Nat} {α : Type} {e : α → AV} {hdl : PV → R α} {h0 : AHeap} {ids : List Nat} {N : Nat} {xs : List (Option AO)} {l : List (Nat × AV)} {k : List Item} {u : AU} {fn : Func} {a : α} {vs : List AV} (hf : P.funcs[f]? = some fn) (hI : Ids h0 ids N)
    (hr : aRes P (hp h0 ids xs) (frA l) fn.results.toList = some vs) (hz : Fz (hp h0 ids xs) h0 (packRes vs) (e a)) :
    WR P f n false (SpecC e h0 hdl) (.ok a) (.code .ret :: k) (frA l) [] (hp h0 ids xs) u := fun _ =>
  run_ret (unw_retF hf hr (hI.sub xs) hz rfl ⟨rfl, rfl⟩)
end Go.Am
