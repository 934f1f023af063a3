/- Slicing, arrays part by part, errors of which only 'nil or not' is told, contracts of the library. -/
import Derived.Test.YtplndonhhfflhaaDcG
namespace Go.Am
open Go
set_option linter.unusedSimpArgs false
set_option linter.unusedVariables false
set_option linter.unusedSectionVars false

/-- From one place to another. -/
def cut {α : Type} (l : List α) (a b : Int) : List α := (l.drop a.toNat).take (b.toNat - a.toNat)
section
variable {P : Program} {h : AHeap} {t et : TypeId} {a b st : Nat} {z : List AV} {E : TI} {s : List UInt8} {k k' : IntKind} {lo hi : Int} {α : Type} {e : α → List AV} {L : List α}
theorem bd_lo {n : Nat} (h1 : 0 ≤ lo) (h2 : lo ≤ (n : Int)) (d : Nat) : aBound (some (.int k lo)) d n = some lo.toNat := by simp only [aBound]; rw [if_pos ⟨h1, h2⟩]
theorem sl_str (hT : ti P t = some ⟨.str, a, b, z⟩) (hc : 0 ≤ lo ∧ lo ≤ hi ∧ hi ≤ (s.length : Int)) : aSlice P h t (.str s) (some (.int k lo)) (some (.int k' hi)) none = some (.str (cut s lo hi)) := by
  obtain ⟨h1, h2, h3⟩ := hc
  simp only [aSlice, hT]
  rw [bd_lo (by omega) h3]
  simp only
  rw [bd_lo h1 (by omega)]
  rfl
theorem sl_strA (hT : ti P t = some ⟨.str, a, b, z⟩) (hc : 0 ≤ lo ∧ lo ≤ (s.length : Int)) : aSlice P h t (.str s) (some (.int k lo)) none none = some (.str (s.drop lo.toNat)) := by
  simp only [aSlice, hT, aBound]
  rw [if_pos hc]
  simp only [Option.some.injEq, AV.str.injEq]
  rw [List.take_of_length_le (by simp)]
theorem sl_strB (hT : ti P t = some ⟨.str, a, b, z⟩) (hc : 0 ≤ hi ∧ hi ≤ (s.length : Int)) : aSlice P h t (.str s) none (some (.int k hi)) none = some (.str (s.take hi.toNat)) := by
  simp only [aSlice, hT]
  rw [bd_lo hc.1 hc.2]
  simp only [aBound, List.drop_zero, Nat.sub_zero]
theorem sl_str0 (hT : ti P t = some ⟨.str, a, b, z⟩) : aSlice P h t (.str s) none none none = some (.str s) := by
  simp only [aSlice, hT, aBound, List.drop_zero, Nat.sub_zero]
  rw [List.take_of_length_le (by simp)]
theorem sl_sl (hT : ti P t = some ⟨.sl et, a, b, z⟩) (hE : ti P et = some E) (hs : st = E.size) (hc : 0 ≤ lo ∧ lo ≤ hi ∧ hi ≤ (L.length : Int)) : aSlice P h t (.sl st (L.map e)) (some (.int k lo)) (some (.int k' hi)) none = some (.sl st ((cut L lo hi).map e)) := by
  obtain ⟨h1, h2, h3⟩ := hc
  simp only [aSlice, hT, hE]
  rw [if_pos hs, bd_lo (by omega) (by simpa using h3)]
  simp only
  rw [bd_lo h1 (by omega)]
  simp only [cut, List.map_take, List.map_drop]
theorem sl_slA (hT : ti P t = some ⟨.sl et, a, b, z⟩) (hE : ti P et = some E) (hs : st = E.size) (hc : 0 ≤ lo ∧ lo ≤ (L.length : Int)) : aSlice P h t (.sl st (L.map e)) (some (.int k lo)) none none = some (.sl st ((L.drop lo.toNat).map e)) := by
  simp only [aSlice, hT, hE, aBound]
  rw [if_pos hs]
  simp only [List.length_map]
  rw [if_pos hc]
  simp only [Option.some.injEq, AV.sl.injEq, true_and]
  rw [List.take_of_length_le (by simp), List.map_drop]
theorem sl_slB (hT : ti P t = some ⟨.sl et, a, b, z⟩) (hE : ti P et = some E) (hs : st = E.size) (hc : 0 ≤ hi ∧ hi ≤ (L.length : Int)) : aSlice P h t (.sl st (L.map e)) none (some (.int k hi)) none = some (.sl st ((L.take hi.toNat).map e)) := by
  simp only [aSlice, hT, hE]
  rw [if_pos hs, bd_lo hc.1 (by simpa using hc.2)]
  simp only [aBound, List.drop_zero, Nat.sub_zero, List.map_take]
theorem sl_sl0 (hT : ti P t = some ⟨.sl et, a, b, z⟩) (hE : ti P et = some E) (hs : st = E.size) : aSlice P h t (.sl st (L.map e)) none none none = some (.sl st (L.map e)) := by
  simp only [aSlice, hT, hE]
  rw [if_pos hs]
  simp only [aBound, List.drop_zero, Nat.sub_zero]
  rw [List.take_of_length_le (by simp)]
/-- One place of an array that lies in memory part by part. -/
theorem ixa_arrp {m o g r c : Nat} {i : Int} (j : Nat) (hT : ti P t = some ⟨.arr m et, a, b, z⟩) (hE : ti P et = some E) (hi : i = (j : Int)) (hj : Nat.blt j m = true) : aIndexAddr P h t (.ptr o g r c) (.int k i) = some (.ptr o g r (c + j * E.size)) := by
  subst hi
  have : j < m := by simpa using hj
  simp only [aIndexAddr, hT, hE]
  rw [if_pos ⟨by omega, by omega⟩, Int.toNat_natCast]
theorem ixa_arrc {m c : Nat} {row : List AV} {i : Int} (j : Nat) (hT : ti P t = some ⟨.arr m et, a, b, z⟩) (hE : ti P et = some E) (hi : i = (j : Int)) (hj : Nat.blt j m = true) : aIndexAddr P h t (.cp row c) (.int k i) = some (.cp row (c + j * E.size)) := by
  subst hi
  have : j < m := by simpa using hj
  simp only [aIndexAddr, hT, hE]
  rw [if_pos ⟨by omega, by omega⟩, Int.toNat_natCast]
end

section
variable {P : Program} [GW P] {f : FuncId} {n : Nat} {d : FK} {β γ : Type} {Q : Spec β} {fr : Nat → AV} {ds : List AD} {h : AHeap} {u : AU} {k : List Item} {F : γ → R β} {all : List Oper}
theorem of_itep {p : Prop} [Decidable p] {A B : R γ} {ops : List Oper} (ht : p → WO P f n d Q k all (A.bind F) ops fr ds h u) (hf : ¬ p → WO P f n d Q k all (B.bind F) ops fr ds h u) : WO P f n d Q k all ((if p then A else B).bind F) ops fr ds h u := by
  have e : (if p then A else B).bind F = if p then A.bind F else B.bind F := by split <;> rfl
  rw [e]; exact wo_ite ht hf
section
variable {r : List Oper} {l : List (Nat × AV)} {m : R β} {ty : TypeId} {pos : String} {after : Array Edge} {pre : List (List Nat)} {plan : Plan} {pend : Pend} {i : Nat}
theorem wo_opg {t j tj : Nat} {want : Bool} {op : Op} (hj : (all[j]?).bind (·.dst) = some tj) (hg : frA l tj = .bool want) (ht : Nat.blt t n = true) (ho : ∀ (K : AV → List AD → AHeap → AU → Prop) (U : AV → KT), aOne P d U (frA l) ds h u op K = aop P (frA l) h op (fun v h' => K v ds h' u))
    (hx : ∀ K : AV → AHeap → Prop, (∀ v h', WO P f n d Q k all m r (frA ((t, v) :: l)) ds h' u → K v h') → aop P (frA l) h op K) :
    WO P f n d Q k all m (⟨some t, op, ty, pos, after, some (j, want)⟩ :: r) (frA l) ds h u := by
  refine wo_one (by simpa [dstOk] using ht) (wanted_yes hj hg) fun hb K U hK hU => ?_
  rw [ho]
  exact hx _ fun v h' hw => hK _ _ _ _ (by rw [putD_frA]; exact hw)
theorem wo_op0g {j tj : Nat} {want : Bool} {op : Op} (hj : (all[j]?).bind (·.dst) = some tj) (hg : frA l tj = .bool want) (ho : ∀ (K : AV → List AD → AHeap → AU → Prop) (U : AV → KT), aOne P d U (frA l) ds h u op K = aop P (frA l) h op (fun v h' => K v ds h' u))
    (hx : ∀ K : AV → AHeap → Prop, (∀ v h', WO P f n d Q k all m r (frA l) ds h' u → K v h') → aop P (frA l) h op K) :
    WO P f n d Q k all m (⟨none, op, ty, pos, after, some (j, want)⟩ :: r) (frA l) ds h u := by
  refine wo_one rfl (wanted_yes hj hg) fun hb K U hK hU => ?_
  rw [ho]
  exact hx _ fun v h' hw => hK _ _ _ _ hw
theorem wp_opg {t j tj : Nat} {want : Bool} {op : Op} (ho : all[i]? = some ⟨some t, op, ty, pos, after, some (j, want)⟩) (hj : (all[j]?).bind (·.dst) = some tj) (hg : frA l tj = .bool want) (ht : Nat.blt t n = true) (h1 : ∀ (K : AV → List AD → AHeap → AU → Prop) (U : AV → KT), aOne P d U (frA l) ds h u op K = aop P (frA l) h op (fun v h' => K v ds h' u))
    (hx : ∀ K : AV → AHeap → Prop, (∀ v h', pendOk P all pre i h' pend → WP P f n d Q k all pre m plan pend (frA ((t, v) :: l)) ds h' u → K v h') → aop P (frA l) h op K) :
    WP P f n d Q k all pre m ((true, i) :: plan) pend (frA l) ds h u :=
  wp_one ho (by simpa [dstOk] using ht) (wanted_yes hj hg) fun hb K U hK hU => by
    rw [h1]
    exact hx _ fun v h' hp hw => hK _ _ _ _ hp (by rw [putD_frA]; exact hw)
theorem wp_op0g {j tj : Nat} {want : Bool} {op : Op} (ho : all[i]? = some ⟨none, op, ty, pos, after, some (j, want)⟩) (hj : (all[j]?).bind (·.dst) = some tj) (hg : frA l tj = .bool want) (h1 : ∀ (K : AV → List AD → AHeap → AU → Prop) (U : AV → KT), aOne P d U (frA l) ds h u op K = aop P (frA l) h op (fun v h' => K v ds h' u))
    (hx : ∀ K : AV → AHeap → Prop, (∀ v h', pendOk P all pre i h' pend → WP P f n d Q k all pre m plan pend (frA l) ds h' u → K v h') → aop P (frA l) h op K) :
    WP P f n d Q k all pre m ((true, i) :: plan) pend (frA l) ds h u :=
  wp_one ho rfl (wanted_yes hj hg) fun hb K U hK hU => by
    rw [h1]
    exact hx _ fun v h' hp hw => hK _ _ _ _ hp hw
end
theorem wr_need {p : Prop} [Decidable p] {A : R γ} {todo : List Item} (hk : p → WR P f n d Q (A.bind F) todo fr ds h u) : WR P f n d Q ((if p then A else .bad).bind F) todo fr ds h u := by
  intro hb
  by_cases hp : p
  · simp only [if_pos hp] at hb ⊢; exact hk hp hb
  · simp only [if_neg hp] at hb; exact absurd hb Q.bad
theorem of_bad {ops : List Oper} : WO P f n d Q k all ((R.bad : R γ).bind F) ops fr ds h u := fun hb => absurd hb Q.bad
theorem op_itep {pre : List (List Nat)} {plan : Plan} {pend : Pend} {p : Prop} [Decidable p] {A B : R γ} (ht : p → WP P f n d Q k all pre (A.bind F) plan pend fr ds h u) (hf : ¬ p → WP P f n d Q k all pre (B.bind F) plan pend fr ds h u) : WP P f n d Q k all pre ((if p then A else B).bind F) plan pend fr ds h u := by
  intro hb
  by_cases hp : p
  · simp only [if_pos hp] at hb ⊢; exact ht hp hb
  · simp only [if_neg hp] at hb ⊢; exact hf hp hb
theorem op_bad {pre : List (List Nat)} {plan : Plan} {pend : Pend} : WP P f n d Q k all pre ((R.bad : R γ).bind F) plan pend fr ds h u := fun hb => absurd hb Q.bad
end

/-! ### Bytes and strings -/
def strOf (l : List Int) : Str := l.map fun n => UInt8.ofNat n.toNat
def bytesL (s : Str) : List Int := s.map fun b => (b.toNat : Int)
theorem bytesOf_map : ∀ l : List Int, bytesOf (l.map (rI .u8)) = some (strOf l)
  | [] => rfl
  | n :: l => by
    have := bytesOf_map l
    simp only [List.map_cons, rI, bytesOf] at this ⊢
    rw [this]
    rfl
section
variable {P : Program} {h : AHeap} {s t e : TypeId} {a b c d st : Nat} {z1 z2 : List AV} {E : TI} {L : List Int}
theorem cv_bsl (hS : ti P s = some ⟨.sl e, a, b, z1⟩) (hT : ti P t = some ⟨.str, c, d, z2⟩) (hE : ti P e = some E) (hk : E.k = .int .u8) : aConv P h s t (.sl 1 (L.map (rI .u8))) = some (.str (strOf L)) := by
  simp only [aConv, hS, hT, hE]
  rw [if_pos ⟨hk, trivial⟩, bytesOf_map]; rfl
theorem cv_bemp (hS : ti P s = some ⟨.sl e, a, b, z1⟩) (hT : ti P t = some ⟨.str, c, d, z2⟩) (hE : ti P e = some E) (hk : E.k = .int .u8) : aConv P h s t .emp = some (.str []) := by
  simp only [aConv, hS, hT, hE]
  rw [if_pos hk]
theorem cv_bown {o g : Nat} {v : AV} (hS : ti P s = some ⟨.sl e, a, b, z1⟩) (hT : ti P t = some ⟨.str, c, d, z2⟩) (hE : ti P e = some E) (hk : E.k = .int .u8) (hv : OwnV v o g L.length) (ho : h o = ownO v g 1 (L.map (rI .u8))) : aConv P h s t v = some (.str (strOf L)) := by
  rcases hv with ⟨rfl, hn⟩ | rfl
  · have : L = [] := List.length_eq_zero_iff.1 hn
    subst this
    exact cv_bemp hS hT hE hk
  · simp only [ownO] at ho
    simp only [aConv, hS, hT, hE, ho]
    rw [if_pos ⟨hk, trivial, trivial, by simp⟩, List.drop_zero, List.take_of_length_le (by simp), bytesOf_map]; rfl
theorem eff_sb {P : Program} {fr : Nat → AV} {x : Operand} {K : AV → AHeap → Prop} {S : Str} {E : TI} (hS : ti P s = some ⟨.str, a, b, z1⟩) (hT : ti P t = some ⟨.sl e, c, d, z2⟩) (hE : ti P e = some E) (hk : E.k = .int .u8) (hx : ev fr x = .str S) (hl : S.length ≤ LIM) (hK : K (.sl 1 ((bytesL S).map (rI .u8))) h) : aop P fr h (.convert s t x) K := by
  simp only [aop, aConvK, hS, hT, hE, hx]
  refine ⟨hk, hl, ?_⟩
  have : (bytesL S).map (rI .u8) = S.map fun b => [AV.int .u8 b.toNat] := by simp [bytesL, rI, Function.comp_def]
  rw [this] at hK; exact hK
end
section
variable {P : Program} [GW P] {f : FuncId} {n : Nat} {d : FK} {β : Type} {Q : Spec β} {m : R β} {ds : List AD} {h : AHeap} {u : AU} {k : List Item} {l : List (Nat × AV)} {all r : List Oper} {ty : TypeId} {pos : String} {after : Array Edge}
theorem wo_sb {t : Nat} {s T e : TypeId} {a b c d' : Nat} {z1 z2 : List AV} {E : TI} {x : Operand} {S : Str} (ht : Nat.blt t n = true) (hS : ti P s = some ⟨.str, a, b, z1⟩) (hT : ti P T = some ⟨.sl e, c, d', z2⟩) (hE : ti P e = some E) (hk : E.k = .int .u8) (hx : ev (frA l) x = .str S) (hl : S.length ≤ LIM)
    (hK : WO P f n d Q k all m r (frA ((t, .sl 1 ((bytesL S).map (rI .u8))) :: l)) ds h u) : WO P f n d Q k all m (⟨some t, .convert s T x, ty, pos, after, none⟩ :: r) (frA l) ds h u :=
  wo_op ht (fun _ _ => rfl) fun K hK' => eff_sb hS hT hE hk hx hl (hK' _ _ hK)
end
/-! ### Contracts of the library -/
/-- An error: nil or not. -/
def IsErr (v : AV) (b : Bool) : Prop := match b with
  | false => v = .nili
  | true => ∃ t x, v = .iface t x
theorem bin_errn {P : Program} [GW P] {t : TypeId} {v : AV} {b : Bool} {s by' : Nat} {z : List AV} (hT : ti P t = some ⟨.ifc, s, by', z⟩) (hv : IsErr v b) : aBin P .neq t v .nili = some (.bool b) := by
  cases b with
  | false => obtain rfl : v = .nili := hv; exact bin_nnn hT
  | true => obtain ⟨t', x, rfl⟩ : ∃ t x, v = .iface t x := hv; exact bin_ifnn hT
theorem bin_err {P : Program} [GW P] {t : TypeId} {v : AV} {b : Bool} {s by' : Nat} {z : List AV} (hT : ti P t = some ⟨.ifc, s, by', z⟩) (hv : IsErr v b) : aBin P .eql t v .nili = some (.bool (!b)) := by
  cases b with
  | false => obtain rfl : v = .nili := hv; exact bin_nn hT
  | true => obtain ⟨t', x, rfl⟩ : ∃ t x, v = .iface t x := hv; exact bin_ifn hT
theorem guard_err {P : Program} {o : BinOp} {t : TypeId} {x : Operand} {c : Value} {v : AV} {b : Bool} (ho : o = .eql ∨ o = .neq) (hv : IsErr v b) : guardOk P o t x (.const c) v .nili = true := by
  cases b with
  | false => obtain rfl : v = .nili := hv; rcases ho with rfl | rfl <;> simp [guardOk]
  | true => obtain ⟨t', x, rfl⟩ : ∃ t x, v = .iface t x := hv; rcases ho with rfl | rfl <;> rfl

section
variable {P : Program} [GW P]
theorem HasBody.mk {g : FuncId} {gf : Func} {gc : Code} (h1 : P.funcs[g]? = some gf) (h2 : gf.body = some gc) (h3 : gf.name ≠ "runtime.NumGoroutine") : HasBody P g := ⟨gf, gc, h1, h2, h3⟩
/-- What a call of the library answers, and that it turns nothing that was there. -/
def LibRet (w : World) (v : AV) (mu : Mu) (h : AHeap) : Ending → World → Prop := fun e w' => Go.RowKit.Below w.heap.size w w' ∧ ∃ c, e = .returned c ∧ RV h mu w' v c
theorem cp_lib {α : Type} {g : FuncId} {A : List AV} {m : R α} {e : α → AV} (hb : HasBody P g) (hm : ∀ p, m ≠ .pan p)
    (hc : ∀ a, m = .ok a → ∀ (B : Base P) mu h w (cargs : Array Value), Sim B mu h w → LRv h mu w A cargs.toList → Calls P g cargs w (LibRet w (e a) mu h)) : CP P g A m e := by
  intro h hne
  refine ⟨hb, fun B mu w cargs s ha => ?_⟩
  cases hq : m with
  | bad => exact absurd hq hne
  | pan p => exact absurd hq (hm p)
  | ok a =>
    refine (hc a hq B mu h w cargs s ha).mono ?_
    rintro en w' ⟨k, c, rfl, hv⟩
    obtain ⟨k1, k2⟩ := Below.ext s k
    exact ⟨.ret (e a), h, mu, ⟨rfl, rfl⟩, k1, k2, hv⟩
/-- The same, with a part of the answer told by a fact alone. -/
theorem cg_lib {α : Type} {g : FuncId} {A : List AV} {m : R α} {S : α → AV → AHeap → Prop} {h : AHeap} (hb : HasBody P g) (hm : ∀ p, m ≠ .pan p)
    (hc : ∀ a, m = .ok a → ∀ (B : Base P) mu w (cargs : Array Value), Sim B mu h w → LRv h mu w A cargs.toList → Calls P g cargs w fun en w' => Go.RowKit.Below w.heap.size w w' ∧ ∃ v c, en = .returned c ∧ S a v h ∧ RV h mu w' v c) : m ≠ .bad → ACalls P g A h (AnsG S h m) := by
  intro hne
  refine ⟨hb, fun B mu w cargs s ha => ?_⟩
  cases hq : m with
  | bad => exact absurd hq hne
  | pan p => exact absurd hq (hm p)
  | ok a =>
    refine (hc a hq B mu w cargs s ha).mono ?_
    rintro en w' ⟨k, v, c, rfl, hS, hv⟩
    obtain ⟨k1, k2⟩ := Below.ext s k
    exact ⟨.ret v, h, mu, ⟨v, rfl, hS⟩, k1, k2, hv⟩
/-- Arguments one by one. -/
theorem lrv_one {h : AHeap} {mu : Mu} {w : World} {a : AV} {cargs : Array Value} (k : LRv h mu w [a] cargs.toList) : ∃ c, cargs = #[c] ∧ RV h mu w a c := by
  obtain ⟨l⟩ := cargs
  match l, k.1 with
  | [c], _ => exact ⟨c, rfl, by simpa using k.2 0 (by simp)⟩
theorem lrv_two {h : AHeap} {mu : Mu} {w : World} {a b : AV} {cargs : Array Value} (k : LRv h mu w [a, b] cargs.toList) : ∃ c d, cargs = #[c, d] ∧ RV h mu w a c ∧ RV h mu w b d := by
  obtain ⟨l⟩ := cargs
  match l, k.1 with
  | [c, d], _ => exact ⟨c, d, rfl, by simpa using k.2 0 (by simp), by simpa using k.2 1 (by simp)⟩
theorem rv_str {h : AHeap} {mu : Mu} {w : World} {s : List UInt8} {c : Value} (k : RV h mu w (.str s) c) : c = .string ⟨s.toArray⟩ := by cases k; rfl
theorem rv_int {h : AHeap} {mu : Mu} {w : World} {t : IntKind} {n : Int} {c : Value} (k : RV h mu w (.int t n) c) : c = .int t n := by cases k; rfl
theorem rv_sl0 {h : AHeap} {mu : Mu} {w : World} {st : Nat} {c : Value} (k : RV h mu w (.sl st []) c) : ∃ a cap, c = .slice a 0 cap := by
  cases k with
  | sl0 _ a cap => exact ⟨a, cap, rfl⟩
  | sl _ _ b off cap => exact ⟨_, cap, rfl⟩
/-- A list of strings that came in. -/
theorem rv_strs {h : AHeap} {mu : Mu} {w : World} {l : List Str} {c : Value} (k : RV h mu w (.sl 1 (l.map rS)) c) : l = [] ∨ ∃ bk o cap, c = .slice (some ⟨bk, o, none⟩) l.length cap ∧ bk < w.heap.size ∧ l.length ≤ LIM ∧ l.length ≤ cap ∧ ∀ j x, l[j]? = some x → w.cell? ⟨bk, o + j, none⟩ = some (.string ⟨x.toArray⟩) := by
  generalize hr : l.map rS = rows at k
  cases k with
  | sl0 _ a cap => exact .inl (List.map_eq_nil_iff.1 hr)
  | sl _ _ b off cap vs hcap hlim h1 h2 h5 h3 h4 =>
    subst hr
    refine .inr ⟨b, off, cap, by rw [List.length_map], h4, by simpa using hlim, by simpa using hcap, fun j x hx => ?_⟩
    have hj : j < l.length := lt_of_get hx
    have := h1 j 0 (by simpa using hj) (by omega)
    have h2' := h2 j 0 (by simpa using hj) (by omega)
    rw [Nat.mul_one, Nat.add_zero] at this
    rw [this]
    have e : cell (l.map rS) j 0 = .str x := by simp [cell, hx, rS]
    rw [e] at h2'
    rw [rv_str h2']
end
end Go.Am
