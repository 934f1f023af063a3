/- Arithmetic, comparison, equality: the laws. -/
import Derived.Test.YtplndonhhfflhaaAmOps
import Derived.Laws.StructEq
namespace Go.Am
open Go
set_option linter.unusedSimpArgs false
set_option linter.unusedVariables false
set_option linter.unusedSectionVars false

section
variable {P : Program} [GW P] {B : Base P} {h : AHeap} {mu : Mu} {w : World}

theorem bytes_beq (a b : List UInt8) : ((⟨a.toArray⟩ : ByteArray).toList == (⟨b.toArray⟩ : ByteArray).toList) = (a == b) := by
  rw [Lib.toList_data, Lib.toList_data]
theorem bytes_toList (a : List UInt8) : (⟨a.toArray⟩ : ByteArray).toList = a := by rw [Lib.toList_data]
theorem bytes_size (a : List UInt8) : (⟨a.toArray⟩ : ByteArray).size = a.length := by simp [Lib.size_eq]

theorem eq0_sound {t : TypeId} {x y : AV} {cx cy : Value} {b : Bool} (hx : RV h mu w x cx) (hy : RV h mu w y cy) (hb : aEq0 P t x y = some b) (n : Nat) : (Op.equalIn (n + 1) t cx cy).run P w = .ok b w := by
  unfold aEq0 at hb
  split at hb
  · cases hb
  rename_i T hT
  obtain ⟨d, hd, hk'⟩ := ti_und hT
  split at hb
  · rename_i a b hk
    have := of_bool (hk ▸ hk'); subst this
    cases hb; cases hx; cases hy
    simp [Op.equalIn, run_underlying hd]
  · rename_i k0 k a k' b hk
    have := of_int (hk ▸ hk'); subst this
    split at hb
    · rename_i hkk
      subst hkk
      cases hb; cases hx; cases hy
      simp [Op.equalIn, run_underlying hd]
    · cases hb
  · rename_i a b hk
    have := of_str (hk ▸ hk'); subst this
    cases hb; cases hx; cases hy
    rw [run_equalIn_string w n t _ _ hd, bytes_beq]
  · rename_i hk
    have : ∃ ms, d = .interface ms := by
      rw [hk] at hk'; cases d <;> simp [TK.of] at hk'; exact ⟨_, rfl⟩
    obtain ⟨ms, rfl⟩ := this
    cases hb; cases hx; cases hy
    simp [Op.equalIn, run_underlying hd]
  · rename_i hk
    have : ∃ ms, d = .interface ms := by
      rw [hk] at hk'; cases d <;> simp [TK.of] at hk'; exact ⟨_, rfl⟩
    obtain ⟨ms, rfl⟩ := this
    cases hb; cases hx; cases hy
    simp [Op.equalIn, run_underlying hd]
  · rename_i e hk
    have : ∃ e, d = .pointer e := by
      rw [hk] at hk'; cases d <;> simp [TK.of] at hk'; exact ⟨_, rfl⟩
    obtain ⟨e, rfl⟩ := this
    cases hb; cases hx; cases hy
    simp [Op.equalIn, run_underlying hd]
  · rename_i hk
    have : ∃ a b c, d = .func a b c := by
      rw [hk] at hk'; cases d <;> simp [TK.of] at hk'; exact ⟨_, _, _, rfl⟩
    obtain ⟨_, _, _, rfl⟩ := this
    cases hb; cases hx; cases hy
    simp [Op.equalIn, run_underlying hd]
  · rename_i hk
    have : ∃ a b c, d = .func a b c := by
      rw [hk] at hk'; cases d <;> simp [TK.of] at hk'; exact ⟨_, _, _, rfl⟩
    obtain ⟨_, _, _, rfl⟩ := this
    cases hb; cases hx; cases hy
    simp [Op.equalIn, run_underlying hd]
  · rename_i hk
    have : ∃ a b c, d = .func a b c := by
      rw [hk] at hk'; cases d <;> simp [TK.of] at hk'; exact ⟨_, _, _, rfl⟩
    obtain ⟨_, _, _, rfl⟩ := this
    cases hb; cases hx; cases hy
    simp [Op.equalIn, run_underlying hd]
  · rename_i hk
    have : ∃ ms, d = .interface ms := by
      rw [hk] at hk'; cases d <;> simp [TK.of] at hk'; exact ⟨_, rfl⟩
    obtain ⟨ms, rfl⟩ := this
    cases hb; cases hx; cases hy
    simp [Op.equalIn, run_underlying hd]
  · rename_i e hk
    have : ∃ e, d = .pointer e := by
      rw [hk] at hk'; cases d <;> simp [TK.of] at hk'; exact ⟨_, rfl⟩
    obtain ⟨e, rfl⟩ := this
    cases hb; cases hx; cases hy
    simp [Op.equalIn, run_underlying hd]
  · rename_i e hk
    have : ∃ e, d = .pointer e := by
      rw [hk] at hk'; cases d <;> simp [TK.of] at hk'; exact ⟨_, rfl⟩
    obtain ⟨e, rfl⟩ := this
    cases hb; cases hx; cases hy
    simp [Op.equalIn, run_underlying hd]
  · cases hb

theorem eqFields_sound {rec : TypeId → AV → AV → Option Bool} {n : Nat} (hrec : ∀ {t : TypeId} {x y : AV} {cx cy : Value} {b : Bool}, RV h mu w x cx → RV h mu w y cy → rec t x y = some b → (Op.equalIn n t cx cy).run P w = .ok b w)
    {xs ys : List AV} {cx cy : List Value} (lx : xs.length = cx.length) (ly : ys.length = cy.length) (hx : ∀ i, i < xs.length → RV h mu w (xs.getD i .und) (cx.getD i undef)) (hy : ∀ i, i < ys.length → RV h mu w (ys.getD i .und) (cy.getD i undef)) :
    ∀ (fs : List Field) {b : Bool}, (∀ f ∈ fs, f.name ≠ "_") → aEqFields P rec xs ys (fs.map fun f => (f.offset, f.type)) = some b → (Op.eqFields n cx.toArray cy.toArray fs).run P w = .ok b w
  | [], b, _, hb => by
    simp [aEqFields] at hb; subst hb; simp [Op.eqFields]
  | f :: r, b, hn, hb => by
    simp only [List.map_cons, aEqFields] at hb
    split at hb
    · cases hb
    rename_i F hF
    split at hb
    · rename_i a c ha hc
      obtain ⟨pa, qa, ra⟩ := part_rv lx hx hF ha
      obtain ⟨pc, qc, rc⟩ := part_rv ly hy hF hc
      split at hb
      · rename_i hr
        have h1 := hrec ra rc hr
        have h2 := eqFields_sound hrec lx ly hx hy r (fun g hg => hn g (List.mem_cons_of_mem _ hg)) hb
        simp [Op.eqFields, hn f (List.mem_cons_self ..), qa, qc, h1, h2]
      · rename_i hr
        have h1 := hrec ra rc hr
        cases hb
        simp [Op.eqFields, hn f (List.mem_cons_self ..), qa, qc, h1]
      · cases hb
    · cases hb

theorem eqS_sound : ∀ (d : Nat) {t : TypeId} {x y : AV} {cx cy : Value} {b : Bool} (n : Nat), RV h mu w x cx → RV h mu w y cy → aEqS P d t x y = some b → d ≤ n → (Op.equalIn n t cx cy).run P w = .ok b w
  | 0, t, x, y, cx, cy, b, n, hx, hy, hb, _ => by simp [aEqS] at hb
  | d + 1, t, x, y, cx, cy, b, n, hx, hy, hb, hle => by
    obtain ⟨m, rfl⟩ : ∃ m, n = m + 1 := ⟨n - 1, by omega⟩
    unfold aEqS at hb
    split at hb
    · cases hb
    rename_i T hT
    split at hb
    · rename_i fs xs ys hk
      split at hb
      · rename_i hok
        simp only [eqOk, Bool.and_eq_true, Bool.not_eq_true'] at hok
        obtain ⟨dd, hd, hk'⟩ := ti_und hT
        obtain ⟨a, rfl, rfl⟩ := of_st (hk ▸ hk')
        cases hx with
        | agg _ vx lx px =>
          cases hy with
          | agg _ vy ly py =>
            have hf : P.fieldsOf t = a := by simp [Program.fieldsOf, hd]
            rw [run_equalIn_struct w m t _ _ (by rw [hf]; exact hd) hok.1.1, hf]
            have hnames : ∀ f ∈ a.toList, f.name ≠ "_" := by
              have := hok.2
              rw [hd] at this
              simp only [Array.all_eq_true] at this
              intro f hf
              obtain ⟨i, hi, rfl⟩ := List.mem_iff_getElem.1 hf
              have := this i (by simpa using hi)
              simpa using this
            exact eqFields_sound (n := m) (fun h1 h2 h3 => eqS_sound d m h1 h2 h3 (by omega)) lx ly px py a.toList hnames hb
      · cases hb
    · exact eq0_sound hx hy hb m

theorem bytes_append (a b : List UInt8) : (⟨a.toArray⟩ : ByteArray) ++ (⟨b.toArray⟩ : ByteArray) = ⟨(a ++ b).toArray⟩ := by
  apply ByteArray.ext
  rw [ByteArray.data_append]
  simp

/-- nil interfaces: one of the operands must be the literal. -/
def guardOk (P : Program) (op : BinOp) (t : TypeId) (x y : Operand) (a b : AV) : Bool :=
  match op, a, b with
  | .eql, .nili, .nili => (match x with | .const _ => true | _ => false) || (match y with | .const _ => true | _ => false)
  | .neq, .nili, .nili => (match x with | .const _ => true | _ => false) || (match y with | .const _ => true | _ => false)
  | .eql, .agg _, .agg _ => eqOk P t
  | .neq, .agg _, .agg _ => eqOk P t
  | .eql, .raw _, _ => false
  | .neq, .raw _, _ => false
  | .eql, _, .raw _ => false
  | .neq, _, .raw _ => false
  | .eql, .any, _ => false
  | .neq, .any, _ => false
  | .eql, _, .any => false
  | .neq, _, .any => false
  | _, _, _ => true
theorem guard_sound {op : BinOp} {t : TypeId} {x y : Operand} {a b : AV} {ca cb : Value} (ha : RV h mu w a ca) (hb : RV h mu w b cb) (hg : guardOk P op t x y a b = true) : (eqGuard op t x y ca cb).run P w = .ok () w := by
  have agg : eqOk P t = true → ∀ c1 c2, (eqGuard op t x y (.agg c1) (.agg c2)).run P w = .ok () w := by
    intro hq c1 c2
    simp only [eqOk, Bool.and_eq_true, Bool.not_eq_true'] at hq
    exact run_eqGuard_agg w op t x y _ _ hq.1.2
  cases op <;> try (simp [eqGuard]; done)
  all_goals
    cases ha <;> cases hb <;> first
      | (simp [eqGuard]; done)
      | (simp [guardOk] at hg; done)
      | exact agg (by simpa [guardOk] using hg) _ _
      | (simp only [guardOk, Bool.or_eq_true] at hg
         simp only [eqGuard]
         rcases hg with hg | hg
         · cases x <;> simp at hg; simp
         · cases y <;> simp at hg; simp)

theorem eq0_bin {t : TypeId} {x y : AV} {cx cy : Value} {b : Bool} (hx : RV h mu w x cx) (hy : RV h mu w y cy) (hb : aEq0 P t x y = some b) (hni : ∀ k a k' b, x = .int k a → y = .int k' b → False) (hns : ∀ a b, x = .str a → y = .str b → False) :
    (binOp .eql t cx cy).run P w = .ok (.bool b) w ∧ (binOp .neq t cx cy).run P w = .ok (.bool (!b)) w := by
  have hq := eq0_sound hx hy hb 9999
  unfold aEq0 at hb
  split at hb
  · cases hb
  split at hb
  case h_2 => exact (hni _ _ _ _ rfl rfl).elim
  case h_3 => exact (hns _ _ rfl rfl).elim
  case h_13 => cases hb
  all_goals
    cases hx; cases hy
    simp [binOp, Op.equal, Op.maxDepth, hq]

theorem bin_sound {op : BinOp} {t : TypeId} {x y r : AV} {cx cy : Value} (hx : RV h mu w x cx) (hy : RV h mu w y cy) (hr : aBin P op t x y = some r) : ∃ z, (binOp op t cx cy).run P w = .ok z w ∧ RV h mu w r z := by
  unfold aBin at hr
  split at hr
  case h_24 xs ys =>
    cases hq : aEqS P 20 t (.agg xs) (.agg ys) with
    | none => simp [hq] at hr
    | some b =>
      simp [hq] at hr; subst hr
      have := eqS_sound 20 10000 hx hy hq (by omega)
      cases hx; cases hy
      exact ⟨.bool b, by rw [run_eql_struct, this]; rfl, .bool _⟩
  case h_25 xs ys =>
    cases hq : aEqS P 20 t (.agg xs) (.agg ys) with
    | none => simp [hq] at hr
    | some b =>
      simp [hq] at hr; subst hr
      have := eqS_sound 20 10000 hx hy hq (by omega)
      cases hx; cases hy
      exact ⟨.bool (!b), by rw [run_neq_struct, this]; rfl, .bool _⟩
  case h_26 h1 h2 h3 =>
    cases hq : aEq0 P t x y with
    | none => simp [hq] at hr
    | some b =>
      simp [hq] at hr; subst hr
      exact ⟨.bool b, (eq0_bin hx hy hq (fun k a k' b e1 e2 => h1 k a k' b e1 e2) (fun a b e1 e2 => h2 a b e1 e2)).1, .bool _⟩
  case h_27 h1 h2 h3 =>
    cases hq : aEq0 P t x y with
    | none => simp [hq] at hr
    | some b =>
      simp [hq] at hr; subst hr
      exact ⟨.bool (!b), (eq0_bin hx hy hq (fun k a k' b e1 e2 => h1 k a k' b e1 e2) (fun a b e1 e2 => h2 a b e1 e2)).2, .bool _⟩
  case h_28 => cases hr
  case h_23 a b =>
    split at hr
    · rename_i hc
      cases hr; cases hx; cases hy
      refine ⟨.string ⟨(a ++ b).toArray⟩, ?_, .str _⟩
      have : ¬ (((⟨a.toArray⟩ : ByteArray).size + (⟨b.toArray⟩ : ByteArray).size : Nat) : Int) > IntKind.i64.max := by
        rw [bytes_size, bytes_size]
        simp [IntKind.max, IntKind.bits, IntKind.signed]
        omega
      simp only [binOp, Op.stringOp, this, if_false, bytes_append, Sem.run_pure]
    · cases hr
  case h_17 a b => cases hr; cases hx; cases hy; exact ⟨_, rfl, by rw [bytes_beq]; exact .bool _⟩
  case h_18 a b => cases hr; cases hx; cases hy; exact ⟨_, rfl, by rw [bytes_beq]; exact .bool _⟩
  case h_19 a b => cases hr; cases hx; cases hy; exact ⟨_, rfl, by rw [bytes_toList, bytes_toList]; exact .bool _⟩
  case h_20 a b => cases hr; cases hx; cases hy; exact ⟨_, rfl, by rw [bytes_beq, bytes_toList, bytes_toList]; exact .bool _⟩
  case h_21 a b => cases hr; cases hx; cases hy; exact ⟨_, rfl, by rw [bytes_beq, bytes_toList, bytes_toList]; exact .bool _⟩
  case h_22 a b => cases hr; cases hx; cases hy; exact ⟨_, rfl, by rw [bytes_toList, bytes_toList]; exact .bool _⟩
  case h_4 | h_5 =>
    split at hr
    · rename_i hc
      obtain ⟨rfl, hc⟩ := hc
      cases hr; cases hx; cases hy
      exact ⟨_, by simp [binOp, Op.intDiv, hc], .int _ _⟩
    · cases hr
  case h_6 | h_7 =>
    split at hr
    · rename_i hc
      have hc' : ¬ _ < (0 : Int) := Int.not_lt.2 hc
      cases hr; cases hx; cases hy
      exact ⟨_, by simp [binOp, Op.shift, hc'], .int _ _⟩
    · cases hr
  all_goals
    split at hr
    · rename_i hc
      subst hc
      cases hr; cases hx; cases hy
      exact ⟨_, by simp [binOp, Op.intArith, Op.intBits, Op.intCmp]; rfl, by constructor⟩
    · cases hr

theorem minF_sound {isMax : Bool} {k : IntKind} : ∀ (l : List AV) (cs : List Value) (a : Int) {x : AV}, l.length = cs.length → (∀ i, i < l.length → RV h mu w (l.getD i .und) (cs.getD i undef)) → aMinF isMax k a l = some x →
    ∃ y, (cs.foldlM (if isMax then Builtin.max2 else Builtin.min2) (.int k a)).run P w = .ok y w ∧ RV h mu w x y
  | [], cs, a, x, hl, hv, hx => by
    have : cs = [] := List.eq_nil_of_length_eq_zero hl.symm
    subst this
    simp [aMinF] at hx; subst hx
    exact ⟨_, rfl, .int _ _⟩
  | v :: l, cs, a, x, hl, hv, hx => by
    cases cs with
    | nil => simp at hl
    | cons c cs =>
      have h0 := hv 0 (by simp)
      simp only [List.getD_cons_zero] at h0
      unfold aMinF at hx
      split at hx
      · rename_i heq; cases heq
      · rename_i k' b r heq
        cases heq
        split at hx
        · rename_i hk
          subst hk
          cases h0
          have ih := minF_sound l cs _ (by simpa using hl) (fun i hi => by simpa using hv (i + 1) (by simp; omega)) hx
          obtain ⟨y, hy1, hy2⟩ := ih
          refine ⟨y, ?_, hy2⟩
          cases isMax <;> simp [List.foldlM_cons, Builtin.max2, Builtin.min2] at hy1 ⊢ <;> exact hy1
        · cases hx
      · cases hx
theorem min_sound {isMax : Bool} {l : List AV} {cs : List Value} {x : AV} (hl : l.length = cs.length) (hv : ∀ i, i < l.length → RV h mu w (l.getD i .und) (cs.getD i undef)) (hx : aMin isMax l = some x) (ts : Array TypeId) (ty : TypeId) :
    ∃ y, (if isMax then Builtin.max_ ts ty cs.toArray else Builtin.min_ ts ty cs.toArray).run P w = .ok y w ∧ RV h mu w x y := by
  unfold aMin at hx
  split at hx
  · rename_i k a r
    cases cs with
    | nil => simp at hl
    | cons c cs =>
      have h0 := hv 0 (by simp)
      simp only [List.getD_cons_zero] at h0
      cases h0
      obtain ⟨y, hy1, hy2⟩ := minF_sound (P := P) r cs a (by simpa using hl) (fun i hi => by simpa using hv (i + 1) (by simp; omega)) hx
      refine ⟨y, ?_, hy2⟩
      cases isMax <;> simpa [Builtin.max_, Builtin.min_] using hy1
  · cases hx
end
end Go.Am
