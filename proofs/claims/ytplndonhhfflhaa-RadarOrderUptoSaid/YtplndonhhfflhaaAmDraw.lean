/- Regions whose order is open: one evaluation, in an order in which whatever can be read is read as soon as it can be, serves every order. -/
import Derived.Test.YtplndonhhfflhaaAmCall
import Derived.Orders
namespace Go.Am
open Go
set_option linter.unusedSimpArgs false
set_option linter.unusedVariables false
set_option linter.unusedSectionVars false

/-- The value of an operation that only reads. -/
def aPure (P : Program) [GW P] (fr : Nat → AV) (h : AHeap) (op : Op) : Option AV :=
  match op with
  | .move x => some (ev fr x)
  | .assign x => some (ev fr x)
  | .pick c a b => match ev fr c with
    | .bool t => some (if t then ev fr a else ev fr b)
    | _ => none
  | .build t ps => aBuild P t (evp fr ps.toList)
  | .load t a => aLoad P h t (ev fr a)
  | .nilCheck x => aCheck (ev fr x)
  | .binOp o t x y _ => if guardOk P o t x y (ev fr x) (ev fr y) = true ∧ isNilOp y = false then aBin P o t (ev fr x) (ev fr y) else none
  | .unOp o _ x => aUn o (ev fr x)
  | .convert s d x => aConv P h s d (ev fr x)
  | .makeInterface t x => match ti P t with
    | some T => if T.k = .ifc then none else some (.iface t (ev fr x))
    | none => none
  | .makeFunc fn f c => some (.func fn (evs fr f.toList) (evs fr c.toList))
  | .slice t x lo hi mx => aSlice P h t (ev fr x) (lo.map (ev fr)) (hi.map (ev fr)) (mx.map (ev fr))
  | .fieldAddr s x f => aFieldAddr P s (ev fr x) f
  | .field t x f => aField P t (ev fr x) f
  | .indexAddr t x i => aIndexAddr P h t (ev fr x) (ev fr i)
  | .index t x i => aIndex P t (ev fr x) (ev fr i)
  | .typeAssert x _ t ok => aAssert P (ev fr x) t ok
  | .extract x i => aExtract (ev fr x) i
  | .lookup t x i ok => aLookup P h t (ev fr x) (ev fr i) ok
  | .call ⟨.builtin b, args, ts⟩ => match b, ts.toList, evs fr args.toList with
    | .len, [t], [v] => aLen P h t v
    | .min, _, l => aMin false l
    | .max, _, l => aMin true l
    | _, _, _ => none
  | _ => none
def aF (P : Program) [GW P] (all : List Oper) (fr : Nat → AV) (h : AHeap) (o : Oper) : Option AV :=
  match aWanted all fr o with
  | some true => aPure P fr h o.op
  | some false => some .und
  | none => none

theorem aPure_aop {P : Program} [GW P] {fr : Nat → AV} {h : AHeap} {op : Op} {v : AV} {K : AV → AHeap → Prop} (hx : aPure P fr h op = some v) (hK : K v h) : aop P fr h op K := by
  unfold aPure at hx
  unfold aop
  split at hx <;> (try simp only)
  case h_3 =>
    split at hx
    · rename_i hb; cases hx; rw [hb]; exact hK
    · cases hx
  case h_7 =>
    split at hx
    · rename_i hg; exact ⟨hg.1, by simp only [aCmp, hg.2, Bool.false_eq_true, if_false, hx]; exact hK⟩
    · cases hx
  case h_9 =>
    unfold aConvK
    split
    · rename_i S D l hS hD hv
      split
      · rename_i e q1 q2
        rw [hv] at hx
        simp only [aConv, hS, hD, q1, q2] at hx
        cases hx
      · rw [hx]; exact hK
    · rw [hx]; exact hK
  case h_10 =>
    split at hx
    · rename_i hT
      split at hx
      · cases hx
      · rename_i hk; cases hx; rw [hT]; exact ⟨hk, hK⟩
    · cases hx
  case h_20 =>
    unfold aBuiltin
    split at hx
    · rename_i e1 e2; simp only [e1, e2, hx]; exact hK
    · simp only [hx]; exact hK
    · simp only [hx]; exact hK
    · cases hx
  all_goals first | (cases hx; exact hK) | (rw [hx]; exact hK) | cases hx

def opTmps (op : Op) : List Tmp := op.operands.toList.filterMap fun | .tmp t => some t | _ => none
def looks (all : List Oper) (o : Oper) : List Tmp :=
  opTmps o.op ++ (match o.guard with
    | some (g, _) => ((all[g]?).bind (·.dst)).toList
    | none => [])

theorem ev_congr {fr fr' : Nat → AV} {op : Op} (h : ∀ t ∈ opTmps op, fr t = fr' t) : ∀ x ∈ op.operands, ev fr x = ev fr' x := by
  intro x hx
  cases x with
  | tmp t => exact h t (List.mem_filterMap.2 ⟨.tmp t, by simpa using hx, rfl⟩)
  | const v => rfl
  | global g => rfl
  | func f => rfl
theorem evs_congr {fr fr' : Nat → AV} {l : List Operand} (h : ∀ x ∈ l, ev fr x = ev fr' x) : evs fr l = evs fr' l := List.map_congr_left h
theorem evp_congr {fr fr' : Nat → AV} {l : List (Nat × Operand)} (h : ∀ p ∈ l, ev fr p.2 = ev fr' p.2) : evp fr l = evp fr' l := List.map_congr_left fun p hp => by rw [h p hp]
theorem opt_congr {fr fr' : Nat → AV} {x : Option Operand} (h : ∀ y ∈ x, ev fr y = ev fr' y) : x.map (ev fr) = x.map (ev fr') := by
  cases x with
  | none => rfl
  | some y => simp [h y rfl]

theorem aop_congr {P : Program} [GW P] {fr fr' : Nat → AV} {h : AHeap} {op : Op} {K : AV → AHeap → Prop} (hc : ∀ x ∈ op.operands, ev fr x = ev fr' x) : aop P fr h op K = aop P fr' h op K := by
  cases op with
  | build t ps =>
    have : evp fr ps.toList = evp fr' ps.toList := evp_congr fun p hp => hc p.2 (by simp only [Op.operands]; simp; exact ⟨p.1, by simpa using hp⟩)
    simp only [aop, this]
  | buildSlice t n ps =>
    have : evp fr ps.toList = evp fr' ps.toList := evp_congr fun p hp => hc p.2 (by simp only [Op.operands]; simp; exact ⟨p.1, by simpa using hp⟩)
    simp only [aop, this]
  | makeFunc fn f c =>
    have h1 : evs fr f.toList = evs fr' f.toList := evs_congr fun x hx => hc x (by simp only [Op.operands]; simp at hx ⊢; exact .inl hx)
    have h2 : evs fr c.toList = evs fr' c.toList := evs_congr fun x hx => hc x (by simp only [Op.operands]; simp at hx ⊢; exact .inr hx)
    simp only [aop, h1, h2]
  | slice t x lo hi mx =>
    simp only [Op.operands] at hc
    have h0 := hc x (by simp)
    have h1 : lo.map (ev fr) = lo.map (ev fr') := opt_congr fun y hy => hc y (by simp [hy]; cases hy; simp)
    have h2 : hi.map (ev fr) = hi.map (ev fr') := opt_congr fun y hy => hc y (by simp [hy]; cases hy; simp)
    have h3 : mx.map (ev fr) = mx.map (ev fr') := opt_congr fun y hy => hc y (by simp [hy]; cases hy; simp)
    simp only [aop, h0, h1, h2, h3]
  | call c =>
    obtain ⟨cal, args, ts⟩ := c
    cases cal with
    | builtin b =>
      have : evs fr args.toList = evs fr' args.toList := evs_congr fun x hx => hc x (by simp only [Op.operands, Call.operands]; simpa using hx)
      simp only [aop, this]
    | value f => rfl
    | invoke r m => rfl
  | makeMap t r =>
    cases r with
    | none => rfl
    | some x =>
      have : ev fr x = ev fr' x := hc x (by simp [Op.operands])
      simp only [aop, this]
  | _ => first
      | rfl
      | (simp [Op.operands] at hc; simp only [aop, hc])
end Go.Am
