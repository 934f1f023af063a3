/- Deferred calls that recover. -/
import Derived.Test.YtplndonhhfflhaaDcOps3
namespace Go.Am
open Go
set_option linter.unusedSimpArgs false
set_option linter.unusedVariables false
set_option linter.unusedSectionVars false

section
variable {P : Program} [GW P] {f : FuncId} {n : Nat} {d : FK} {β : Type} {Q : Spec β} {m : R β} {ds : List AD} {h : AHeap} {u : AU} {k : List Item} {l : List (Nat × AV)}
variable {all r : List Oper} {ty : TypeId} {pos : String} {after : Array Edge}
theorem wo_defer {dst : Option Tmp} {x : Operand} {as : List Operand} {ts : Array TypeId} {g : FuncId} {fst cap A : List AV} (hdst : dst = none) (hx : ev (frA l) x = .func (.func g) fst cap) (ha : fst ++ evs (frA l) as ++ cap = A) (hk : WO P f n d Q k all m r (frA l) (⟨g, A⟩ :: ds) h u) (hro : d.ro = none := by rfl) (hnc : AD.isStar ⟨g, A⟩ = false := by rfl) :
    WO P f n d Q k all m (⟨dst, .defer ⟨.value x, ⟨as⟩, ts⟩, ty, pos, after, none⟩ :: r) (frA l) ds h u := by
  subst hdst
  refine wo_one rfl rfl fun hb K U hK hU => ?_
  simp only [aOne, hx]
  rw [ha]
  exact ⟨hro, hnc, hK _ _ _ _ hk⟩
theorem wo_recP {t : Nat} {as ts : Array _} {v : AV} (ht : Nat.blt t n = true) (hk : WO P f n true Q k all m r (frA ((t, v) :: l)) ds h (.pan v true)) : WO P f n true Q k all m (⟨some t, .call ⟨.builtin .recover, as, ts⟩, ty, pos, after, none⟩ :: r) (frA l) ds h (.pan v false) :=
  wo_one (by simpa [dstOk] using ht) rfl fun hb K U hK hU => ⟨rfl, hK _ _ _ _ (by rw [putD_frA]; exact hk)⟩
theorem wo_recR {t : Nat} {as ts : Array _} (ht : Nat.blt t n = true) (hk : WO P f n true Q k all m r (frA ((t, .nili) :: l)) ds h .ret) : WO P f n true Q k all m (⟨some t, .call ⟨.builtin .recover, as, ts⟩, ty, pos, after, none⟩ :: r) (frA l) ds h .ret :=
  wo_one (by simpa [dstOk] using ht) rfl fun hb K U hK hU => ⟨rfl, hK _ _ _ _ (by rw [putD_frA]; exact hk)⟩
end

/-- What a deferred call leaves. -/
def DSpec {γ : Type} (e : γ → AHeap) (u' : AU) : Spec γ := ⟨fun m => ∃ a, m = .ok a, fun h => (by obtain ⟨a, h⟩ := h; cases h), fun m r h' u => ∃ a, m = .ok a ∧ r = .ret (.tup []) ∧ h' = e a ∧ u = u'⟩
abbrev DAns {γ : Type} (e : γ → AHeap) (u' : AU) (m : R γ) : QT := fun r h' u => ∃ a, m = .ok a ∧ r = .ret (.tup []) ∧ h' = e a ∧ u = u'
section
variable {P : Program} [GW P] {f : FuncId} {n : Nat} {γ : Type} {m : R γ} {e : γ → AHeap} {u u' : AU} {h : AHeap} {l : List (Nat × AV)} {k : List Item}
theorem cd_intro {fn : Func} {c : Code} {args : List AV} (hf : P.funcs[f]? = some fn) (hb : fn.body = some c) (hn : fn.name ≠ "runtime.NumGoroutine") (hnt : fn.ntmps = n) (hl : Nat.ble args.length n = true)
    (hr : WR P f n true (DSpec e u') m [.code c] (frA (frOf 0 args)) [] h u) : (∃ a, m = .ok a) → ADefer P f args u h (DAns e u' m) := by
  intro hm
  refine defer_intro hf hb hn hnt (by simpa using hl) ?_
  refine run_le (fun t => ?_) (hr hm)
  rcases frOf_fr0 args 0 t with h | ⟨_, h⟩
  · exact .inl h
  · exact .inr h
theorem wr_endD {fn : Func} {a : γ} (hf : P.funcs[f]? = some fn) (hr : fn.results.toList = []) (hh : h = e a) (hu : u = u') : WR P f n true (DSpec e u') (.ok a) [] (frA l) [] h u := fun _ =>
  run_end (unw_ret hf (vs := []) (by rw [hr]; rfl) ⟨a, rfl, rfl, hh, hu⟩)
theorem wr_retD {fn : Func} {a : γ} (hf : P.funcs[f]? = some fn) (hr : fn.results.toList = []) (hh : h = e a) (hu : u = u') : WR P f n true (DSpec e u') (.ok a) (.code .ret :: k) (frA l) [] h u := fun _ =>
  run_ret (unw_ret hf (vs := []) (by rw [hr]; rfl) ⟨a, rfl, rfl, hh, hu⟩)
end

/-- With panics handled. -/
def SpecC {α : Type} (e : α → AV) (h : AHeap) (hdl : PV → R α) : Spec α := ⟨fun m => m.catch' hdl ≠ .bad, fun h => h rfl, fun m r h' _ => AnsR e h (m.catch' hdl) r h'⟩
section
variable {P : Program} [GW P] {f : FuncId} {n : Nat} {α : Type} {e : α → AV} {hdl : PV → R α} {h0 : AHeap} {ids : List Nat} {N : Nat} {xs : List (Option AO)} {l : List (Nat × AV)} {k : List Item}
theorem cpc_intro {fn : Func} {c : Code} {args : List AV} {m : R α} (N : Nat) (hf : P.funcs[f]? = some fn) (hb : fn.body = some c) (hn : fn.name ≠ "runtime.NumGoroutine") (hnt : fn.ntmps = n) (hl : Nat.ble args.length n = true)
    (hr : ∀ (h0 : AHeap) (ids : List Nat), Ids h0 ids N → WR P f n false (SpecC e h0 hdl) m [.code c] (frA (frOf 0 args)) [] (hp h0 ids (List.replicate N none)) .ret) : CP P f args (m.catch' hdl) e := by
  intro h hb'
  refine calls_intro hf hb hn hnt (by simpa using hl) ?_
  refine run_ids N [] fun os h1 h2 h3 h4 => ?_
  have := hr h os ⟨h2, h3, h1⟩ hb'
  rw [hp_nones h3] at this
  refine run_le (fun t => ?_) this
  rcases frOf_fr0 args 0 t with h | ⟨_, h⟩
  · exact .inl h
  · exact .inr h
theorem wr_retC {fn : Func} {a : α} {vs A : List AV} {g : FuncId} (hf : P.funcs[f]? = some fn) (hI : Ids h0 ids N) (hc : ADefer P g A .ret (hp h0 ids xs) (DAns (fun _ : Unit => hp h0 ids xs) .ret (.ok ())))
    (hr : aRes P (hp h0 ids xs) (frA l) fn.results.toList = some vs) (hz : Fz (hp h0 ids xs) h0 (packRes vs) (e a)) (hnc : AD.isStar ⟨g, A⟩ = false := by rfl) :
    WR P f n false (SpecC e h0 hdl) (.ok a) (.code .ret :: k) (frA l) [⟨g, A⟩] (hp h0 ids xs) .ret := fun _ =>
  run_ret (unw_defer (hc.mono fun r h' u hq => by
    obtain ⟨_, _, rfl, rfl, rfl⟩ := hq
    exact unw_retF hf hr (hI.sub xs) hz rfl ⟨rfl, rfl⟩) hnc)
theorem hp_take {h0 : AHeap} : ∀ (ids : List Nat) (xs : List (Option AO)) (c : Nat), ids.length = xs.length → (∀ o ∈ ids, h0 o = none) → ids.Nodup → Sub (hp h0 (ids.take c) (xs.take c)) (hp h0 ids xs)
  | [], [], c, _, _, _ => by simp [hp]; exact Sub.refl _
  | a :: ids, x :: xs, 0, hl, hf, hn => by
    simp only [List.take_zero, hp]
    intro o y hy
    have hne : o ∉ a :: ids := fun hm => by rw [hf o hm] at hy; cases hy
    simp only [List.mem_cons, not_or] at hne
    rw [upd_ne _ _ _ hne.1, hp_out hne.2]
    exact hy
  | a :: ids, x :: xs, c + 1, hl, hf, hn => by
    simp only [List.take_succ_cons, hp]
    exact Sub.upd (hp_take ids xs c (by simpa using hl) (fun o ho => hf o (List.mem_cons_of_mem _ ho)) (List.nodup_cons.1 hn).2) a x
theorem Ids.take {ids : List Nat} (hI : Ids h0 ids N) {c : Nat} (hc : Nat.ble c N = true) : Ids h0 (ids.take c) c :=
  ⟨hI.nodup.sublist (List.take_sublist _ _), fun o ho => hI.fresh o (List.mem_of_mem_take ho), by
    have : c ≤ N := by simpa using hc
    rw [List.length_take, hI.len]; omega⟩
theorem ix_take {ids : List Nat} {c j : Nat} (hj : Nat.blt j c = true) : ix (ids.take c) j = ix ids j := by
  have : j < c := by simpa using hj
  simp [ix, List.getD, List.getElem?_take, this]
/-- A panic that the deferred call handles. -/
theorem wu_catch {γ : Type} {Hc : R γ} {fin : γ → α} {fn : Func} {v : PV} {fr : Nat → AV} {A : List AV} {g : FuncId} {c : Nat} {ys : List (Option AO)} {cells : γ → List (Option AO)} {vs : γ → List AV} (hf : P.funcs[f]? = some fn) (hI : Ids h0 ids N) (hl : xs.length = N) (hc : Nat.ble c N = true) (hys : xs.take c = ys)
    (hh : hdl v = Hc.bind fun x => .ok (fin x)) (hd : (∃ x, Hc = .ok x) → ADefer P g A (.pan v.av false) (hp h0 (ids.take c) ys) (DAns (fun x => hp h0 (ids.take c) (cells x)) (.pan v.av true) Hc)) (hno : ∀ w, Hc ≠ .pan w)
    (hr : ∀ x, aRes P (hp h0 (ids.take c) (cells x)) fr fn.results.toList = some (vs x)) (hz : ∀ x, Fz (hp h0 (ids.take c) (cells x)) h0 (packRes (vs x)) (e (fin x))) (hnc : AD.isStar ⟨g, A⟩ = false := by rfl) :
    WU P f n false (SpecC e h0 hdl) (.pan v) (.pan v.av false) fr [⟨g, A⟩] (hp h0 ids xs) .ret := by
  intro hV
  have hV' : hdl v ≠ .bad := hV
  cases hq : Hc with
  | bad => rw [hh, hq] at hV'; exact absurd rfl hV'
  | pan w => exact absurd hq (hno w)
  | ok x =>
    have hsub : Sub (hp h0 (ids.take c) ys) (hp h0 ids xs) := by rw [← hys]; exact hp_take ids xs c (hI.len.trans hl.symm) hI.fresh hI.nodup
    have key : Unw P f n false (.pan v.av false) fr [⟨g, A⟩] (hp h0 (ids.take c) ys) .ret ((SpecC e h0 hdl).Q (.pan v)) := by
      refine unw_defer ((hd ⟨x, hq⟩).mono fun r h' u2 hx => ?_) hnc
      obtain ⟨y, hy, rfl, rfl, rfl⟩ := hx
      rw [hq] at hy
      cases hy
      refine unw_retF hf (hr x) ((hI.take hc).sub _) (hz x) rfl ?_
      show AnsR e h0 (hdl v) _ _
      rw [hh, hq]
      exact ⟨rfl, rfl⟩
    intro B mu w a cs todo mode p hm
    exact (key B mu w a cs todo mode (p.ext (EXT.sub hsub) (p.sim.sub hsub)) (hm.ext (EXT.sub hsub))).ext (EXT.sub hsub)
end
def catchI {α : Type} (t : TypeId) (k : IntKind) (F : Int → R α) (els : PV → R α) : PV → R α := fun v => if v.t = t then (match v.x with | .int k' n => if k' = k then F n else .bad | _ => .bad) else els v
def catchU {α : Type} (t : TypeId) (F : R α) (els : PV → R α) : PV → R α := fun v => if v.t = t then (match v.x with | .unit => F | _ => .bad) else els v
def catch2 {α : Type} (t : TypeId) (k1 k2 : IntKind) (F : Int → Int → R α) (els : PV → R α) : PV → R α := fun v => if v.t = t then (match v.x with | .two q1 q2 a b => if q1 = k1 ∧ q2 = k2 then F a b else .bad | _ => .bad) else els v
section
variable {P : Program} [GW P] {f : FuncId} {n : Nat} {d : FK} {α : Type} {e : α → AV} {hdl : PV → R α} {h0 h : AHeap} {fr : Nat → AV} {ds : List AD} {u : AU} {v : PV} {a a' : AU}
theorem wu_hI {t : TypeId} {k : IntKind} {F : Int → R α} {els : PV → R α} (hh : hdl = catchI t k F els) (h1 : ∀ n', v = ⟨t, .int k n'⟩ → WU P f n d (SpecC e h0 hdl) (.pan v) a fr ds h u) (h2 : v.t ≠ t → WU P f n d (SpecC e h0 hdl) (.pan v) a fr ds h u) :
    WU P f n d (SpecC e h0 hdl) (.pan v) a fr ds h u := by
  intro hV
  by_cases hv : v.t = t
  · obtain ⟨vt, vx⟩ := v
    simp only at hv
    subst hv
    have hV' : hdl ⟨vt, vx⟩ ≠ .bad := hV
    rw [hh] at hV'
    cases vx with
    | int k' n' =>
      by_cases hk : k' = k
      · subst hk; exact h1 n' rfl hV
      · simp [catchI, hk] at hV'
    | str s => simp [catchI] at hV'
    | bool b => simp [catchI] at hV'
    | unit => simp [catchI] at hV'
    | two k1 k2 a b => simp [catchI] at hV'
  · exact h2 hv hV
theorem wu_hU {t : TypeId} {F : R α} {els : PV → R α} (hh : hdl = catchU t F els) (h1 : v = ⟨t, .unit⟩ → WU P f n d (SpecC e h0 hdl) (.pan v) a fr ds h u) (h2 : v.t ≠ t → WU P f n d (SpecC e h0 hdl) (.pan v) a fr ds h u) :
    WU P f n d (SpecC e h0 hdl) (.pan v) a fr ds h u := by
  intro hV
  by_cases hv : v.t = t
  · obtain ⟨vt, vx⟩ := v
    simp only at hv
    subst hv
    have hV' : hdl ⟨vt, vx⟩ ≠ .bad := hV
    rw [hh] at hV'
    cases vx with
    | int k' n' => simp [catchU] at hV'
    | str s => simp [catchU] at hV'
    | bool b => simp [catchU] at hV'
    | unit => exact h1 rfl hV
    | two k1 k2 a b => simp [catchU] at hV'
  · exact h2 hv hV
theorem wu_h2 {t : TypeId} {k1 k2 : IntKind} {F : Int → Int → R α} {els : PV → R α} (hh : hdl = catch2 t k1 k2 F els) (h1 : ∀ a b, v = ⟨t, .two k1 k2 a b⟩ → WU P f n d (SpecC e h0 hdl) (.pan v) a' fr ds h u) (h2 : v.t ≠ t → WU P f n d (SpecC e h0 hdl) (.pan v) a' fr ds h u) :
    WU P f n d (SpecC e h0 hdl) (.pan v) a' fr ds h u := by
  intro hV
  by_cases hv : v.t = t
  · obtain ⟨vt, vx⟩ := v
    simp only at hv
    subst hv
    have hV' : hdl ⟨vt, vx⟩ ≠ .bad := hV
    rw [hh] at hV'
    cases vx with
    | int k' n' => simp [catch2] at hV'
    | str s => simp [catch2] at hV'
    | bool b => simp [catch2] at hV'
    | unit => simp [catch2] at hV'
    | two q1 q2 x y =>
      by_cases hk : q1 = k1 ∧ q2 = k2
      · obtain ⟨rfl, rfl⟩ := hk; exact h1 x y rfl hV
      · simp [catch2, hk] at hV'
  · exact h2 hv hV
theorem wu_hN (hh : hdl v = .bad) : WU P f n d (SpecC e h0 hdl) (.pan v) a fr ds h u := fun hV => absurd hh hV
end
theorem catchI_ne {α : Type} {t : TypeId} {k : IntKind} {F : Int → R α} {els : PV → R α} {v : PV} (h : v.t ≠ t) : catchI t k F els v = els v := by simp [catchI, h]
theorem catchU_ne {α : Type} {t : TypeId} {F : R α} {els : PV → R α} {v : PV} (h : v.t ≠ t) : catchU t F els v = els v := by simp [catchU, h]
theorem catch2_ne {α : Type} {t : TypeId} {k1 k2 : IntKind} {F : Int → Int → R α} {els : PV → R α} {v : PV} (h : v.t ≠ t) : catch2 t k1 k2 F els v = els v := by simp [catch2, h]
theorem catch2_eq {α : Type} {t : TypeId} {k1 k2 : IntKind} {F : Int → Int → R α} {els : PV → R α} {a b : Int} : catch2 t k1 k2 F els ⟨t, .two k1 k2 a b⟩ = F a b := by simp [catch2]
theorem catchI_eq {α : Type} {t : TypeId} {k : IntKind} {F : Int → R α} {els : PV → R α} {n : Int} : catchI t k F els ⟨t, .int k n⟩ = F n := by simp [catchI]
theorem catchU_eq {α : Type} {t : TypeId} {F : R α} {els : PV → R α} : catchU t F els ⟨t, .unit⟩ = F := by simp [catchU]
/-- A variable written as a whole. -/
theorem overC_all : ∀ (row cs : List AV), row.length = cs.length → overC row cs = cs
  | [], [], _ => rfl
  | a :: row, c :: cs, h => by simp [overC, overC_all row cs (by simpa using h)]
theorem st_ptrA {P : Program} [GW P] {h0 : AHeap} {ids : List Nat} {xs : List (Option AO)} {N : Nat} {t : TypeId} {T : TI} {g st j : Nat} {row : List AV} {v : AV} (hI : Ids h0 ids N) (hl : xs.length = N) (hjn : Nat.blt j N = true) (hj : xs[j]? = some (some (.rows g st [row]))) (hT : ti P t = some T)
    (hok : v.ok = true) (hlen : v.cells.length = T.size) (hc : Nat.beq T.size st = true) (hrl : row.length = st) (hfl : v.cells.all AV.flat = true) :
    aStore P (hp h0 ids xs) t (.ptr (ix ids j) g 0 0) v = some (hp h0 ids (xs.set j (some (.rows g st [v.cells])))) := by
  have hs := Nat.eq_of_beq_eq_true hc
  have := st_ptr (P := P) (rr := 0) (c := 0) (v := v) hI hl hjn hj rfl hT hok hlen (by rw [Nat.zero_add, hs]; simp) hrl hfl
  rw [this]
  have e : putC row 0 v.cells = v.cells := by
    have := overC_all row v.cells (by rw [hrl, hlen, hs])
    cases row <;> simpa [putC] using this
  rw [e]
  rfl
theorem ares_tmp' {P : Program} [GW P] {h : AHeap} {fr : Nat → AV} {t : Nat} {v : AV} {r : List ResultVar} {vs : List AV} (e : fr t = v) (hr : aRes P h fr r = some vs) : aRes P h fr (.tmp t :: r) = some (v :: vs) := by rw [← e]; exact ares_tmp hr
theorem ares_cell' {P : Program} [GW P] {h : AHeap} {fr : Nat → AV} {a : Nat} {t : TypeId} {r : List ResultVar} {v w : AV} {vs : List AV} (e : fr a = w) (hv : aLoad P h t w = some v) (hr : aRes P h fr r = some vs) : aRes P h fr (.cell a t :: r) = some (v :: vs) := ares_cell (by rw [e]; exact hv) hr
theorem ld_ptr' {P : Program} [GW P] {h0 : AHeap} {ids : List Nat} {xs : List (Option AO)} {n j : Nat} {o : Nat} {t : TypeId} {T : TI} {g st r c : Nat} {rs : List (List AV)} {row : List AV} {v : AV} (hI : Ids h0 ids n) (ho : ix ids j = o) (hl : xs.length = n) (hj : xs[j]? = some (some (.rows g st rs))) (hr : rs[r]? = some row) (hT : ti P t = some T) (hv : rdAt row c T.size T.k.agg = some v) :
    aLoad P (hp h0 ids xs) t (.ptr o g r c) = some v := by rw [← ho]; exact ld_ptr hI hl hj hr hT hv
theorem bin_nn {P : Program} [GW P] {t : TypeId} {s by' : Nat} {z : List AV} (hT : ti P t = some ⟨.ifc, s, by', z⟩) : aBin P .eql t .nili .nili = some (.bool true) := by simp only [aBin, aEq0, hT, Option.map_some]
theorem bin_nnn {P : Program} [GW P] {t : TypeId} {s by' : Nat} {z : List AV} (hT : ti P t = some ⟨.ifc, s, by', z⟩) : aBin P .neq t .nili .nili = some (.bool false) := by simp only [aBin, aEq0, hT, Option.map_some]; rfl
end Go.Am
