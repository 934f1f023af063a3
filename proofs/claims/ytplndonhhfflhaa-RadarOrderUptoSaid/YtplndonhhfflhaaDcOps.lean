/- The values of operations that only read; writing, making; slices of one's own. -/
import Derived.Test.YtplndonhhfflhaaDcRule
namespace Go.Am
open Go
set_option linter.unusedSimpArgs false
set_option linter.unusedVariables false
set_option linter.unusedSectionVars false

section
variable {P : Program} [GW P] {fr : Nat → AV} {h : AHeap} {v : AV}
theorem pv_move {x : Operand} : aPure P fr h (.move x) = some (ev fr x) := rfl
theorem pv_assign {x : Operand} : aPure P fr h (.assign x) = some (ev fr x) := rfl
theorem pv_pick {c a b : Operand} {t : Bool} (hc : ev fr c = .bool t) (hv : (if t then ev fr a else ev fr b) = v) : aPure P fr h (.pick c a b) = some v := by simp only [aPure, hc, hv]
theorem pv_build {t : TypeId} {ps : List (Nat × Operand)} (hv : aBuild P t (evp fr ps) = some v) : aPure P fr h (.build t ⟨ps⟩) = some v := hv
theorem pv_load {t : TypeId} {x : Operand} (hv : aLoad P h t (ev fr x) = some v) : aPure P fr h (.load t x) = some v := hv
theorem pv_nilCheck {x : Operand} (hv : aCheck (ev fr x) = some v) : aPure P fr h (.nilCheck x) = some v := hv
theorem pv_bin {o : BinOp} {t ty : TypeId} {x y : Operand} (hg : guardOk P o t x y (ev fr x) (ev fr y) = true) (hn : isNilOp y = false) (hv : aBin P o t (ev fr x) (ev fr y) = some v) : aPure P fr h (.binOp o t x y ty) = some v := by
  simp only [aPure, hg, hn, true_and, if_true]; exact hv
theorem pv_un {o : UnOp} {t : TypeId} {x : Operand} (hv : aUn o (ev fr x) = some v) : aPure P fr h (.unOp o t x) = some v := hv
theorem pv_conv {s t : TypeId} {x : Operand} (hv : aConv P h s t (ev fr x) = some v) : aPure P fr h (.convert s t x) = some v := hv
theorem pv_iface {t : TypeId} {x : Operand} {T : TI} (hT : ti P t = some T) (hk : T.k ≠ .ifc) : aPure P fr h (.makeInterface t x) = some (.iface t (ev fr x)) := by
  simp only [aPure, hT, if_neg hk]
theorem pv_func {fn : Fn} {a c : List Operand} : aPure P fr h (.makeFunc fn ⟨a⟩ ⟨c⟩) = some (.func fn (evs fr a) (evs fr c)) := rfl
theorem pv_slice {t : TypeId} {x : Operand} {lo hi mx : Option Operand} (hv : aSlice P h t (ev fr x) (lo.map (ev fr)) (hi.map (ev fr)) (mx.map (ev fr)) = some v) : aPure P fr h (.slice t x lo hi mx) = some v := hv
theorem pv_fa {s : TypeId} {x : Operand} {i : Nat} (hv : aFieldAddr P s (ev fr x) i = some v) : aPure P fr h (.fieldAddr s x i) = some v := hv
theorem pv_fd {s : TypeId} {x : Operand} {i : Nat} (hv : aField P s (ev fr x) i = some v) : aPure P fr h (.field s x i) = some v := hv
theorem pv_ixa {t : TypeId} {x i : Operand} (hv : aIndexAddr P h t (ev fr x) (ev fr i) = some v) : aPure P fr h (.indexAddr t x i) = some v := hv
theorem pv_ix {t : TypeId} {x i : Operand} (hv : aIndex P t (ev fr x) (ev fr i) = some v) : aPure P fr h (.index t x i) = some v := hv
theorem pv_as {x : Operand} {a t : TypeId} {ok : Bool} (hv : aAssert P (ev fr x) t ok = some v) : aPure P fr h (.typeAssert x a t ok) = some v := hv
theorem pv_ext {x : Operand} {i : Nat} (hv : aExtract (ev fr x) i = some v) : aPure P fr h (.extract x i) = some v := hv
theorem pv_look {t : TypeId} {x i : Operand} {ok : Bool} (hv : aLookup P h t (ev fr x) (ev fr i) ok = some v) : aPure P fr h (.lookup t x i ok) = some v := hv
theorem pv_len {t : TypeId} {x : Operand} (hv : aLen P h t (ev fr x) = some v) : aPure P fr h (.call ⟨.builtin .len, ⟨[x]⟩, ⟨[t]⟩⟩) = some v := hv
theorem pv_min {ts : Array TypeId} {l : List Operand} (hv : aMin false (evs fr l) = some v) : aPure P fr h (.call ⟨.builtin .min, ⟨l⟩, ts⟩) = some v := by
  simp only [aPure]
  exact hv
theorem pv_max {ts : Array TypeId} {l : List Operand} (hv : aMin true (evs fr l) = some v) : aPure P fr h (.call ⟨.builtin .max, ⟨l⟩, ts⟩) = some v := by
  simp only [aPure]
  exact hv

theorem ld_cp {t : TypeId} {T : TI} {row : List AV} {c : Nat} (hT : ti P t = some T) (hv : rdAt row c T.size T.k.agg = some v) : aLoad P h t (.cp row c) = some v := by simp only [aLoad, hT, hv]
section
variable {h0 : AHeap} {ids : List Nat} {xs : List (Option AO)} {n j : Nat}
theorem ld_ptr {t : TypeId} {T : TI} {g st r c : Nat} {rs : List (List AV)} {row : List AV} (hI : Ids h0 ids n) (hl : xs.length = n) (hj : xs[j]? = some (some (.rows g st rs))) (hr : rs[r]? = some row) (hT : ti P t = some T) (hv : rdAt row c T.size T.k.agg = some v) :
    aLoad P (hp h0 ids xs) t (.ptr (ix ids j) g r c) = some v := by
  have hlt : r < rs.length := by
    rcases Nat.lt_or_ge r rs.length with hh | hh
    · exact hh
    · rw [List.getElem?_eq_none hh] at hr; cases hr
  have e : rs.getD r [] = row := getD_of hr
  simp only [aLoad, hT, hI.at hl hj, hlt, e, and_self, if_true, hv]
end
section
variable {s ft : TypeId} {fs : List (Nat × TypeId)} {a b i off : Nat} {z : List AV} {F : TI}
theorem fa_ptr {o g r c : Nat} (hT : ti P s = some ⟨.st fs, a, b, z⟩) (hf : fs[i]? = some (off, ft)) (hF : ti P ft = some F) (h0 : Nat.beq F.size 0 = false) : aFieldAddr P s (.ptr o g r c) i = some (.ptr o g r (c + off)) := by
  have : F.size ≠ 0 := fun q => by rw [q] at h0; cases h0
  simp only [aFieldAddr, hT, hf, hF, if_neg this]
theorem fa_cp {row : List AV} {c : Nat} (hT : ti P s = some ⟨.st fs, a, b, z⟩) (hf : fs[i]? = some (off, ft)) (hF : ti P ft = some F) (h0 : Nat.beq F.size 0 = false) : aFieldAddr P s (.cp row c) i = some (.cp row (c + off)) := by
  have : F.size ≠ 0 := fun q => by rw [q] at h0; cases h0
  simp only [aFieldAddr, hT, hf, hF, if_neg this]
theorem fd_agg {cs : List AV} (hT : ti P s = some ⟨.st fs, a, b, z⟩) (hf : fs[i]? = some (off, ft)) (hF : ti P ft = some F) (hv : rdAt cs off F.size F.k.agg = some v) : aField P s (.agg cs) i = some v := by
  simp only [aField, hT, hf, hF, hv]
end

/-! ### Slices that came in -/
section
variable {α : Type} {e : α → List AV} {L : List α} {st : Nat} {t et : TypeId} {a b : Nat} {z : List AV} {E : TI} {k : IntKind} {x : α}
theorem getD_map {j : Nat} (hx : L[j]? = some x) : (L.map e).getD j [] = e x := by simp [List.getD, hx]
theorem lt_of_get {j : Nat} (hx : L[j]? = some x) : j < L.length := by
  rcases Nat.lt_or_ge j L.length with hh | hh
  · exact hh
  · rw [List.getElem?_eq_none hh] at hx; cases hx
theorem ixa_sl {i : Int} (hT : ti P t = some ⟨.sl et, a, b, z⟩) (hE : ti P et = some E) (hs : st = E.size) (h0 : 0 ≤ i) (hx : L[i.toNat]? = some x) : aIndexAddr P h t (.sl st (L.map e)) (.int k i) = some (.cp (e x) 0) := by
  have hlt := lt_of_get hx
  have h1 : i < ((L.map e).length : Int) := by rw [List.length_map]; omega
  simp only [aIndexAddr, hT, hE]
  rw [if_pos ⟨hs, h0, h1⟩, getD_map hx]
theorem ixa_nat {i : Nat} (hT : ti P t = some ⟨.sl et, a, b, z⟩) (hE : ti P et = some E) (hs : st = E.size) (hx : L[i]? = some x) : aIndexAddr P h t (.sl st (L.map e)) (.int k (i : Int)) = some (.cp (e x) 0) :=
  ixa_sl hT hE hs (by omega) (by simpa using hx)
theorem len_sl (hT : ti P t = some ⟨.sl et, a, b, z⟩) : aLen P h t (.sl st (L.map e)) = some (.int .i64 (L.length : Int)) := by simp only [aLen, hT, List.length_map]
end
theorem len_str {t : TypeId} {a b : Nat} {z : List AV} {s : List UInt8} (hT : ti P t = some ⟨.str, a, b, z⟩) : aLen P h t (.str s) = some (.int .i64 (s.length : Int)) := by simp only [aLen, hT]
theorem len_emp {t et : TypeId} {a b : Nat} {z : List AV} (hT : ti P t = some ⟨.sl et, a, b, z⟩) : aLen P h t .emp = some (.int .i64 0) := by simp only [aLen, hT]
theorem len_arr {t et : TypeId} {m a b : Nat} {z : List AV} (hT : ti P t = some ⟨.arr m et, a, b, z⟩) : aLen P h t v = some (.int .i64 m) := by simp only [aLen, hT]
theorem ix_str {t : TypeId} {a b : Nat} {z : List AV} {s : List UInt8} {k : IntKind} {i : Int} {c : UInt8} (hT : ti P t = some ⟨.str, a, b, z⟩) (h0 : 0 ≤ i) (hx : s[i.toNat]? = some c) : aIndex P t (.str s) (.int k i) = some (.int .u8 (c.toNat : Int)) := by
  have hlt := lt_of_get hx
  have e : s.getD i.toNat 0 = c := getD_of hx
  simp only [aIndex, hT]
  rw [if_pos ⟨h0, by omega⟩, e]
theorem ix_strn {t : TypeId} {a b : Nat} {z : List AV} {s : List UInt8} {k : IntKind} {i : Nat} {c : UInt8} (hT : ti P t = some ⟨.str, a, b, z⟩) (hx : s[i]? = some c) : aIndex P t (.str s) (.int k (i : Int)) = some (.int .u8 (c.toNat : Int)) :=
  ix_str hT (by omega) (by simpa using hx)
theorem cv_int {s t : TypeId} {k1 k2 k : IntKind} {a b c d : Nat} {z1 z2 : List AV} {i : Int} (hS : ti P s = some ⟨.int k1, a, b, z1⟩) (hT : ti P t = some ⟨.int k2, c, d, z2⟩) : aConv P h s t (.int k i) = some (.int k2 (k2.wrap i)) := by simp only [aConv, hS, hT]
theorem cv_str {s t : TypeId} {a b c d : Nat} {z1 z2 : List AV} {x : List UInt8} (hS : ti P s = some ⟨.str, a, b, z1⟩) (hT : ti P t = some ⟨.str, c, d, z2⟩) : aConv P h s t (.str x) = some (.str x) := by simp only [aConv, hS, hT]
theorem as_ok {t : TypeId} {T : TI} (hT : ti P t = some T) (hk : T.k ≠ .ifc) : aAssert P (.iface t v) t false = some v := by simp only [aAssert, hT, if_neg hk]; rfl
theorem as_ok2 {t : TypeId} {T : TI} (hT : ti P t = some T) (hk : T.k ≠ .ifc) : aAssert P (.iface t v) t true = some (.tup [v, .bool true]) := by simp only [aAssert, hT, if_neg hk]; rfl
theorem bd_st {t : TypeId} {fs : List (Nat × TypeId)} {a b : Nat} {z cs : List AV} {ps : List (Nat × AV)} {pl : List (Nat × Nat)} (hT : ti P t = some ⟨.st fs, a, b, z⟩) (hp : aPlaces P fs = some pl) (hv : fillA (fun i => pl[i]?) z ps = some cs) : aBuild P t ps = some (.agg cs) := by
  simp only [aBuild, hT, hp, hv, Option.map_some]
theorem bd_arr {t et : TypeId} {m a b : Nat} {z cs : List AV} {ps : List (Nat × AV)} {E : TI} (hT : ti P t = some ⟨.arr m et, a, b, z⟩) (hE : ti P et = some E) (hv : fillA (fun i => some (i * E.size, E.size)) z ps = some cs) : aBuild P t ps = some (.agg cs) := by
  simp only [aBuild, hT, hE, hv, Option.map_some]
end

/-! ### Maps -/
section
variable {K V : Type}
def mget [DecidableEq K] (m : List (K × V)) (k : K) : Option V := (m.find? fun p => p.1 == k).map (·.2)
def mput [DecidableEq K] : List (K × V) → K → V → List (K × V)
  | [], k, v => [(k, v)]
  | p :: m, k, v => if p.1 == k then (k, v) :: m else p :: mput m k v
end

/-- writing into a row, cell by cell -/
def overC : List AV → List AV → List AV
  | row, [] => row
  | [], _ => []
  | _ :: row, c :: cs => c :: overC row cs
def putC : List AV → Nat → List AV → List AV
  | row, 0, cs => overC row cs
  | [], _ + 1, _ => []
  | a :: row, c + 1, cs => a :: putC row c cs
theorem overC_eq : ∀ (row cs : List AV), cs.length ≤ row.length → overC row cs = cs ++ row.drop cs.length
  | row, [], _ => by cases row <;> simp [overC]
  | [], c :: cs, h => by simp at h
  | a :: row, c :: cs, h => by simp [overC, overC_eq row cs (by simpa using h)]
theorem putC_eq : ∀ (row : List AV) (c : Nat) (cs : List AV), c + cs.length ≤ row.length → putC row c cs = putCells row c cs
  | row, 0, cs, h => by
    have := overC_eq row cs (by simpa using h)
    cases row <;> simp [putC, putCells, this]
  | [], c + 1, cs, h => by simp at h
  | a :: row, c + 1, cs, h => by
    have := putC_eq row c cs (by simp only [List.length_cons] at h; omega)
    simp only [putC, this, putCells, List.take_succ_cons, List.cons_append]
    rw [show c + 1 + cs.length = (c + cs.length) + 1 by omega, List.drop_succ_cons]
/-! ### Steps that write -/
section
variable {P : Program} [GW P] {f : FuncId} {n : Nat} {d : FK} {β : Type} {Q : Spec β} {m : R β} {ds : List AD} {u : AU} {k : List Item} {l : List (Nat × AV)}
variable {all r : List Oper} {ty : TypeId} {pos : String} {after : Array Edge}
variable {h0 : AHeap} {ids : List Nat} {xs : List (Option AO)} {N : Nat}

/-- An operation with an effect on memory alone. -/
theorem wo_op {t : Nat} {op : Op} {h : AHeap} (ht : Nat.blt t n = true) (ho : ∀ (K : AV → List AD → AHeap → AU → Prop) (U : AV → KT), aOne P d U (frA l) ds h u op K = aop P (frA l) h op (fun v h' => K v ds h' u))
    (hx : ∀ K : AV → AHeap → Prop, (∀ v h', WO P f n d Q k all m r (frA ((t, v) :: l)) ds h' u → K v h') → aop P (frA l) h op K) :
    WO P f n d Q k all m (⟨some t, op, ty, pos, after, none⟩ :: r) (frA l) ds h u := by
  refine wo_one (by simpa [dstOk] using ht) rfl fun hb K U hK hU => ?_
  rw [ho]
  exact hx _ fun v h' hw => hK _ _ _ _ (by rw [putD_frA]; exact hw)
theorem wo_op0 {op : Op} {h : AHeap} (ho : ∀ (K : AV → List AD → AHeap → AU → Prop) (U : AV → KT), aOne P d U (frA l) ds h u op K = aop P (frA l) h op (fun v h' => K v ds h' u))
    (hx : ∀ K : AV → AHeap → Prop, (∀ v h', WO P f n d Q k all m r (frA l) ds h' u → K v h') → aop P (frA l) h op K) :
    WO P f n d Q k all m (⟨none, op, ty, pos, after, none⟩ :: r) (frA l) ds h u := by
  refine wo_one rfl rfl fun hb K U hK hU => ?_
  rw [ho]
  exact hx _ fun v h' hw => hK _ _ _ _ hw
theorem eff_store {t : TypeId} {a x : Operand} {h h' : AHeap} {fr : Nat → AV} {K : AV → AHeap → Prop} (hs : aStore P h t (ev fr a) (ev fr x) = some h') (hK : K .und h') : aop P fr h (.store t a x) K := by simp only [aop]; exact ⟨_, .cell (.same _), by rw [hs]; exact hK⟩
theorem wo_store {t : TypeId} {a x : Operand} {h h' : AHeap} (hs : aStore P h t (ev (frA l) a) (ev (frA l) x) = some h') (hk : WO P f n d Q k all m r (frA l) ds h' u) :
    WO P f n d Q k all m (⟨none, .store t a x, ty, pos, after, none⟩ :: r) (frA l) ds h u :=
  wo_op0 (fun _ _ => rfl) fun K hK => eff_store hs (hK _ _ hk)
theorem eff_storeS {t : TypeId} {a x : Operand} {v : AV} {h h' : AHeap} {fr : Nat → AV} {K : AV → AHeap → Prop} (hv : ValSim (ev fr x) v) (hs : aStore P h t (ev fr a) v = some h') (hK : K .und h') : aop P fr h (.store t a x) K := by simp only [aop]; exact ⟨_, hv, by rw [hs]; exact hK⟩
theorem wo_storeS {t : TypeId} {a x : Operand} {v : AV} {h h' : AHeap} (hv : ValSim (ev (frA l) x) v) (hs : aStore P h t (ev (frA l) a) v = some h') (hk : WO P f n d Q k all m r (frA l) ds h' u) :
    WO P f n d Q k all m (⟨none, .store t a x, ty, pos, after, none⟩ :: r) (frA l) ds h u :=
  wo_op0 (fun _ _ => rfl) fun K hK => eff_storeS hv hs (hK _ _ hk)
theorem st_ptr {t : TypeId} {T : TI} {g st rr c j : Nat} {rs : List (List AV)} {row : List AV} {v : AV} (hI : Ids h0 ids N) (hl : xs.length = N) (hjn : Nat.blt j N = true) (hj : xs[j]? = some (some (.rows g st rs))) (hr : rs[rr]? = some row) (hT : ti P t = some T)
    (hok : v.ok = true) (hlen : v.cells.length = T.size) (hc : Nat.ble (c + T.size) st = true) (hrl : row.length = st) (hfl : v.cells.all AV.flat = true) :
    aStore P (hp h0 ids xs) t (.ptr (ix ids j) g rr c) v = some (hp h0 ids (xs.set j (some (.rows g st (rs.set rr (putC row c v.cells)))))) := by
  have hlt : rr < rs.length := lt_of_get hr
  have e : rs.getD rr [] = row := getD_of hr
  have hc' : c + T.size ≤ st := by simpa using hc
  rw [putC_eq _ _ _ (by rw [hlen, hrl]; exact hc')]
  simp only [aStore, hT, hI.at hl hj, hlt, hok, hlen, hc', hfl, and_self, if_true, e, hI.set hl hjn]
theorem eff_alloc {e : TypeId} {T : TI} {j : Nat} {fr : Nat → AV} {K : AV → AHeap → Prop} (hI : Ids h0 ids N) (hl : xs.length = N) (hjn : Nat.blt j N = true) (hj : xs[j]? = some none) (hT : ti P e = some T) (hfl : T.z.all AV.flat = true)
    (hk : ∀ g, K (.ptr (ix ids j) g 0 0) (hp h0 ids (xs.set j (some (.rows g T.z.length [T.z]))))) : aop P fr (hp h0 ids xs) (.alloc e) K := by
  simp only [aop, hT]
  refine ⟨hfl, new_intro (ix ids j) (hI.at hl hj) fun g => ?_⟩
  rw [hI.set hl hjn]
  exact hk g
theorem eff_box {e : TypeId} {x : Operand} {v : AV} {j : Nat} {fr : Nat → AV} {K : AV → AHeap → Prop} (hI : Ids h0 ids N) (hl : xs.length = N) (hjn : Nat.blt j N = true) (hj : xs[j]? = some none) (hx : ev fr x = v) (hok : v.ok = true) (hfl : v.cells.all AV.flat = true)
    (hk : ∀ g, K (.ptr (ix ids j) g 0 0) (hp h0 ids (xs.set j (some (.rows g v.cells.length [v.cells]))))) : aop P fr (hp h0 ids xs) (.box e x) K := by
  simp only [aop, hx]
  refine ⟨hok, hfl, new_intro (ix ids j) (hI.at hl hj) fun g => ?_⟩
  rw [hI.set hl hjn]
  exact hk g
theorem wo_alloc {t : Nat} {e : TypeId} {T : TI} {j : Nat} (hI : Ids h0 ids N) (hl : xs.length = N) (hjn : Nat.blt j N = true) (hj : xs[j]? = some none) (ht : Nat.blt t n = true) (hT : ti P e = some T) (hfl : T.z.all AV.flat = true)
    (hk : ∀ g, WO P f n d Q k all m r (frA ((t, .ptr (ix ids j) g 0 0) :: l)) ds (hp h0 ids (xs.set j (some (.rows g T.z.length [T.z])))) u) :
    WO P f n d Q k all m (⟨some t, .alloc e, ty, pos, after, none⟩ :: r) (frA l) ds (hp h0 ids xs) u :=
  wo_op ht (fun _ _ => rfl) fun K hK => by
    simp only [aop, hT]
    refine ⟨hfl, new_intro (ix ids j) (hI.at hl hj) fun g => ?_⟩
    rw [hI.set hl hjn]
    exact hK _ _ (hk g)
theorem wo_box {t : Nat} {e : TypeId} {x : Operand} {v : AV} {j : Nat} (hI : Ids h0 ids N) (hl : xs.length = N) (hjn : Nat.blt j N = true) (hj : xs[j]? = some none) (ht : Nat.blt t n = true) (hx : ev (frA l) x = v) (hok : v.ok = true) (hfl : v.cells.all AV.flat = true)
    (hk : ∀ g, WO P f n d Q k all m r (frA ((t, .ptr (ix ids j) g 0 0) :: l)) ds (hp h0 ids (xs.set j (some (.rows g v.cells.length [v.cells])))) u) :
    WO P f n d Q k all m (⟨some t, .box e x, ty, pos, after, none⟩ :: r) (frA l) ds (hp h0 ids xs) u :=
  wo_op ht (fun _ _ => rfl) fun K hK => by
    simp only [aop, hx]
    refine ⟨hok, hfl, new_intro (ix ids j) (hI.at hl hj) fun g => ?_⟩
    rw [hI.set hl hjn]
    exact hK _ _ (hk g)

/-! ### Slices of one's own -/
def OwnV (v : AV) (o g n : Nat) : Prop := (v = .emp ∧ n = 0) ∨ v = .ref o g 0 n
def ownO (v : AV) (g st : Nat) (rows : List (List AV)) : Option AO := match v with
  | .emp => none
  | _ => some (.rows g st rows)
theorem OwnV.nil {o g : Nat} : OwnV .emp o g 0 := .inl ⟨rfl, rfl⟩
section
variable {α : Type} {e : α → List AV} {L : List α} {v : AV} {g st j : Nat}
theorem ownO_nil : ownO .emp g st (([] : List α).map e) = none := rfl
theorem OwnV.isRef {o n : Nat} (hv : OwnV v o g n) (hn : 0 < n) : v = .ref o g 0 n := by
  rcases hv with ⟨_, h⟩ | h
  · omega
  · exact h
theorem OwnV.len {t et : TypeId} {a b o n : Nat} {z : List AV} {h : AHeap} (hv : OwnV v o g n) (hT : ti P t = some ⟨.sl et, a, b, z⟩) : aLen P h t v = some (.int .i64 (n : Int)) := by
  rcases hv with ⟨rfl, rfl⟩ | rfl <;> simp only [aLen, hT]
  rfl
theorem ixa_own {t et : TypeId} {a b : Nat} {z : List AV} {E : TI} {ki : IntKind} {i : Int} {x : α} (hI : Ids h0 ids N) (hl : xs.length = N) (hv : OwnV v (ix ids j) g L.length) (hj : xs[j]? = some (ownO v g st (L.map e)))
    (hT : ti P t = some ⟨.sl et, a, b, z⟩) (hE : ti P et = some E) (hs : st = E.size) (hi : 0 ≤ i) (hx : L[i.toNat]? = some x) : aIndexAddr P (hp h0 ids xs) t v (.int ki i) = some (.ptr (ix ids j) g i.toNat 0) := by
  have hlt := lt_of_get hx
  have := hv.isRef (by omega)
  subst this
  have h1 : i < (L.length : Int) := by omega
  have ha := hI.at hl hj
  simp only [ownO] at ha
  simp only [aIndexAddr, hT, hE, ha]
  rw [if_pos ⟨trivial, hs, hi, h1⟩, Nat.zero_add]
theorem ld_own {t : TypeId} {T : TI} {i c o : Nat} {x : α} {w : AV} (hI : Ids h0 ids N) (hl : xs.length = N) (hv : OwnV v o g L.length) (hj : xs[j]? = some (ownO v g st (L.map e))) (hx : L[i]? = some x)
    (hT : ti P t = some T) (hw : rdAt (e x) c T.size T.k.agg = some w) : aLoad P (hp h0 ids xs) t (.ptr (ix ids j) g i c) = some w := by
  have hlt := lt_of_get hx
  have := hv.isRef (by omega)
  subst this
  simp only [ownO] at hj
  exact ld_ptr hI hl hj (by simp [hx]) hT hw
theorem st_own {t : TypeId} {T : TI} {i c o : Nat} {x y : α} {w : AV} (hI : Ids h0 ids N) (hl : xs.length = N) (hjn : Nat.blt j N = true) (hv : OwnV v o g L.length) (hj : xs[j]? = some (ownO v g st (L.map e))) (hx : L[i]? = some x)
    (hT : ti P t = some T) (hok : w.ok = true) (hlen : w.cells.length = T.size) (hc : Nat.ble (c + T.size) st = true) (hrl : (e x).length = st) (hfl : w.cells.all AV.flat = true) (hy : putC (e x) c w.cells = e y) :
    aStore P (hp h0 ids xs) t (.ptr (ix ids j) g i c) w = some (hp h0 ids (xs.set j (ownO v g st ((L.set i y).map e)))) := by
  have hlt := lt_of_get hx
  have := hv.isRef (by omega)
  subst this
  simp only [ownO] at hj ⊢
  rw [st_ptr hI hl hjn hj (by simp [hx] : (L.map e)[i]? = some (e x)) hT hok hlen hc hrl hfl, hy, List.map_set]
theorem OwnV.set {o i : Nat} {y : α} (hv : OwnV v o g L.length) : OwnV v o g (L.set i y).length := by rw [List.length_set]; exact hv
/-- It becomes content. -/
theorem own_fz {h h2 : AHeap} {o : Nat} (hv : OwnV v o g L.length) (ho : h o = ownO v g st (L.map e)) (h2o : h2 o = none) (hr : ∀ x, RowOk st (e x)) : Fz h h2 v (.sl st (L.map e)) := by
  rcases hv with ⟨rfl, hn⟩ | rfl
  · have : L = [] := List.length_eq_zero_iff.1 hn
    subst this
    exact .emp st
  · simp only [ownO] at ho
    refine .ref o g 0 L.length st (L.map e) (L.map e) ho h2o (by simp) (by simp) (by
      intro x hx
      obtain ⟨y, _, rfl⟩ := List.mem_map.1 hx
      exact hr y) (fun i jj _ _ => by rw [Nat.zero_add]; exact .same _)

/-- Another element at the end. -/
theorem wo_append1 {t : Nat} {sT xT et : TypeId} {a1 b1 : Nat} {z1 : List AV} {E : TI} {s x : Operand} {y : α} {xv : AV} {g2 j2 st2 : Nat} (hI : Ids h0 ids N) (hl : xs.length = N) (hjn : Nat.blt j N = true) (ht : Nat.blt t n = true)
    (hs : ev (frA l) s = v) (hv : OwnV v (ix ids j) g L.length) (hj : xs[j]? = some (ownO v g st (L.map e)))
    (hxv : srcRows P (hp h0 ids xs) E.size (decide (E.k = .int .u8)) (ev (frA l) x) = some [e y])
    (hS : ti P sT = some ⟨.sl et, a1, b1, z1⟩) (hX : ti P xT = some ⟨.sl et, a1, b1, z1⟩) (hE : ti P et = some E) (hst : st = E.size) (hsz : Nat.blt 0 E.size = true) (hby : Nat.blt 0 E.bytes = true) (hlim : (L.length + 1) * E.bytes ≤ LIM)
    (hk : ∀ v' g', OwnV v' (ix ids j) g' (L ++ [y]).length → WO P f n d Q k all m r (frA ((t, v') :: l)) ds (hp h0 ids (xs.set j (ownO v' g' st ((L ++ [y]).map e)))) u) :
    WO P f n d Q k all m (⟨some t, .call ⟨.builtin .append, ⟨[s, x]⟩, ⟨[sT, xT]⟩⟩, ty, pos, after, none⟩ :: r) (frA l) ds (hp h0 ids xs) u :=
  wo_op ht (fun _ _ => rfl) fun K hK => by
    have hsz' : 0 < E.size := by simpa using hsz
    have hby' : 0 < E.bytes := by simpa using hby
    simp only [aop, aBuiltin, evs, List.map, aAppend, hS, hX, hE, hs, hxv, TK.many, hsz', hby', true_and, List.length_cons, List.length_nil, Nat.zero_add]
    rcases hv with ⟨rfl, hn⟩ | rfl
    · have : L = [] := List.length_eq_zero_iff.1 hn
      subst this
      simp only [if_neg (by decide : ¬ (1 = 0))]
      refine ⟨by simpa using hlim, new_intro (ix ids j) (hI.at hl hj) fun g' => ?_⟩
      rw [hI.set hl hjn]
      have := hk (.ref (ix ids j) g' 0 1) g' (.inr rfl)
      simp only [ownO, List.nil_append, List.map_cons, List.map_nil] at this
      rw [← hst]
      exact hK _ _ this
    · have ha := hI.at hl hj
      simp only [ownO] at ha
      simp only [ha]
      refine ⟨trivial, hst, by simp, hlim, fun g' => ?_⟩
      rw [hI.set hl hjn]
      have := hk (.ref (ix ids j) g' 0 (L.length + 1)) g' (.inr (by simp))
      simp only [ownO, List.map_append, List.map_cons, List.map_nil] at this
      have e1 : (List.drop 0 (List.map e L)).take L.length = List.map e L := by rw [List.drop_zero, List.take_of_length_le (by simp)]
      rw [e1]
      exact hK _ _ this
end
end
end Go.Am
