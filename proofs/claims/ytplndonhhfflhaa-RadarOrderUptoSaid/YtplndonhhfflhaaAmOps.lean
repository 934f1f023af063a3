/- The operations that only read: abstractly, and their laws. -/
import Derived.Test.YtplndonhhfflhaaAmVal
import Derived.Laws.BytesString
namespace Go.Am
open Go
set_option linter.unusedSimpArgs false
set_option linter.unusedVariables false
set_option linter.unusedSectionVars false

def aLoad (P : Program) (h : AHeap) (t : TypeId) (v : AV) : Option AV :=
  match ti P t with
  | none => none
  | some T => match v with
    | .ptr o g r c => match h o with
      | some (.rows g' _ rs) => if g' = g ∧ r < rs.length then rdAt (rs.getD r []) c T.size T.k.agg else none
      | _ => none
    | .cp row c => rdAt row c T.size T.k.agg
    | _ => none
def aFieldAddr (P : Program) (s : TypeId) (v : AV) (f : Nat) : Option AV :=
  match ti P s with
  | none => none
  | some T => match T.k with
    | .st fs => match fs[f]? with
      | none => none
      | some (off, ft) => match ti P ft with
        | none => none
        | some F => if F.size = 0 then none else match v with
          | .ptr o g r c => some (.ptr o g r (c + off))
          | .cp row c => some (.cp row (c + off))
          | _ => none
    | _ => none
def aField (P : Program) (s : TypeId) (v : AV) (f : Nat) : Option AV :=
  match ti P s with
  | none => none
  | some T => match T.k with
    | .st fs => match fs[f]? with
      | none => none
      | some (off, ft) => match ti P ft with
        | none => none
        | some F => match v with
          | .agg cs => rdAt cs off F.size F.k.agg
          | _ => none
    | _ => none
def aIndexAddr (P : Program) (h : AHeap) (t : TypeId) (v i : AV) : Option AV :=
  match ti P t with
  | none => none
  | some T => match i with
    | .int _ n => match T.k with
      | .sl e => match ti P e with
        | none => none
        | some E => match v with
          | .sl st rows => if st = E.size ∧ 0 ≤ n ∧ n < rows.length then some (.cp (rows.getD n.toNat []) 0) else none
          | .ref o g off len => match h o with
            | some (.rows g' st _) => if g' = g ∧ st = E.size ∧ 0 ≤ n ∧ n < len then some (.ptr o g (off + n.toNat) 0) else none
            | _ => none
          | _ => none
      | .arr m e => match ti P e with
        | none => none
        | some E => if 0 ≤ n ∧ n < m then (match v with
          | .ptr o g r c => some (.ptr o g r (c + n.toNat * E.size))
          | .cp row c => some (.cp row (c + n.toNat * E.size))
          | _ => none) else none
      | _ => none
    | _ => none
def aIndex (P : Program) (t : TypeId) (v i : AV) : Option AV :=
  match ti P t with
  | none => none
  | some T => match i with
    | .int _ n => match T.k, v with
      | .str, .str s => if 0 ≤ n ∧ n < s.length then some (.int .u8 ((s.getD n.toNat 0).toNat : Int)) else none
      | .arr m e, .agg cs => match ti P e with
        | none => none
        | some E => if 0 ≤ n ∧ n < m then rdAt cs (n.toNat * E.size) E.size E.k.agg else none
      | _, _ => none
    | _ => none
def aBound (x : Option AV) (dflt y : Nat) : Option Nat :=
  match x with
  | none => some dflt
  | some (.int _ n) => if 0 ≤ n ∧ n ≤ y then some n.toNat else none
  | _ => none
/-- x[lo:hi:mx]: strings; content; objects' rows. A third index only where nothing is left. -/
def aSlice (P : Program) (h : AHeap) (t : TypeId) (v : AV) (lo hi mx : Option AV) : Option AV :=
  match ti P t with
  | none => none
  | some T => match T.k, v, mx with
    | .str, .str s, none => match aBound hi s.length s.length with
      | none => none
      | some b => match aBound lo 0 b with
        | none => none
        | some a => some (.str ((s.drop a).take (b - a)))
    | .sl e, .sl st rows, none => match ti P e with
      | none => none
      | some E => if st = E.size then (match aBound hi rows.length rows.length with
        | none => none
        | some b => match aBound lo 0 b with
          | none => none
          | some a => some (.sl st ((rows.drop a).take (b - a)))) else none
    | .sl e, .ref o g off len, none => match ti P e with
      | none => none
      | some E => match aBound hi len len with
        | none => none
        | some b => match aBound lo 0 b with
          | none => none
          | some a => if a = b then some (.sl E.size []) else match h o with
            | some (.rows g' st _) => if g' = g ∧ st = E.size then some (.ref o g (off + a) (b - a)) else none
            | _ => none
    | .sl e, .emp, none => match ti P e with
      | none => none
      | some _ => match aBound hi 0 0 with
        | none => none
        | some _ => match aBound lo 0 0 with
          | none => none
          | some _ => some .emp
    | .sl e, .sl st rows, some m => match ti P e, lo, hi, m with
      | some _, none, some (.int _ 0), .int _ 0 => some .emp
      | some _, some (.int _ 0), some (.int _ 0), .int _ 0 => some .emp
      | _, _, _, _ => none
    | .sl e, .ref o g off len, some m => match ti P e, lo, hi, m with
      | some _, none, some (.int _ 0), .int _ 0 => some .emp
      | some _, some (.int _ 0), some (.int _ 0), .int _ 0 => some .emp
      | _, _, _, _ => none
    | .sl e, .emp, some m => match ti P e, lo, hi, m with
      | some _, none, some (.int _ 0), .int _ 0 => some .emp
      | some _, some (.int _ 0), some (.int _ 0), .int _ 0 => some .emp
      | _, _, _, _ => none
    | _, _, _ => none
def aLen (P : Program) (h : AHeap) (t : TypeId) (v : AV) : Option AV :=
  match ti P t with
  | none => none
  | some T => match T.k, v with
    | .str, .str s => some (.int .i64 s.length)
    | .arr n _, _ => some (.int .i64 n)
    | .sl _, .sl _ rows => some (.int .i64 rows.length)
    | .sl _, .emp => some (.int .i64 0)
    | .sl _, .ref _ _ _ len => some (.int .i64 len)
    | .map _ _, .mnil => some (.int .i64 0)
    | .map _ _, .map o g => match h o with
      | some (.mp g' es) => if g' = g then some (.int .i64 es.length) else none
      | _ => none
    | _, _ => none
def aExtract (v : AV) (i : Nat) : Option AV :=
  match v with
  | .tup vs => if i < vs.length then some (vs.getD i .und) else none
  | _ => none
def aUn (op : UnOp) (v : AV) : Option AV :=
  match op, v with
  | .not, .bool b => some (.bool (!b))
  | .neg, .int k n => some (.int k (k.wrap (0 - n)))
  | _, _ => none
/-- Equality of simple values; structs field by field. -/
def aEqFields (P : Program) (rec : TypeId → AV → AV → Option Bool) (xs ys : List AV) : List (Nat × TypeId) → Option Bool
  | [] => some true
  | (off, ft) :: r => match ti P ft with
    | none => none
    | some F => match rdAt xs off F.size F.k.agg, rdAt ys off F.size F.k.agg with
      | some a, some b => match rec ft a b with
        | some true => aEqFields P rec xs ys r
        | some false => some false
        | none => none
      | _, _ => none
def TK.simple : TK → Bool
  | .bool => true
  | .int _ => true
  | .str => true
  | _ => false
def aEq0 (P : Program) (t : TypeId) (x y : AV) : Option Bool :=
  match ti P t with
  | none => none
  | some T => match T.k, x, y with
    | .bool, .bool a, .bool b => some (a == b)
    | .int _, .int k a, .int k' b => if k = k' then some (a == b) else none
    | .str, .str a, .str b => some (a == b)
    | .ifc, .nili, .iface _ _ => some false
    | .ifc, .iface _ _, .nili => some false
    | .ptr _, .nilp, .nilp => some true
    | .fn, .func _ _ _, .nilf => some false
    | .fn, .nilf, .func _ _ _ => some false
    | .fn, .nilf, .nilf => some true
    | .ifc, .nili, .nili => some true
    | .ptr _, .ptr _ _ _ _, .nilp => some false
    | .ptr _, .cp _ _, .nilp => some false
    | _, _, _ => none
/-- Can the type's values be compared without a guard? (closed facts, per type) -/
def eqOk (P : Program) (t : TypeId) : Bool := !P.stoodInHeld t && !P.eqGuardType P.depth t && (match P.underlying t with | some (.struct fs) => fs.all (fun f => f.name != "_") | _ => false)
def aEqS (P : Program) : Nat → TypeId → AV → AV → Option Bool
  | 0, _, _, _ => none
  | d + 1, t, x, y => match ti P t with
    | none => none
    | some T => match T.k, x, y with
      | .st fs, .agg xs, .agg ys => if eqOk P t then aEqFields P (aEqS P d) xs ys fs else none
      | _, _, _ => aEq0 P t x y
def aBin (P : Program) (op : BinOp) (t : TypeId) (x y : AV) : Option AV :=
  match op, x, y with
  | .add, .int k a, .int k' b => if k = k' then some (.int k (k.wrap (a + b))) else none
  | .sub, .int k a, .int k' b => if k = k' then some (.int k (k.wrap (a - b))) else none
  | .mul, .int k a, .int k' b => if k = k' then some (.int k (k.wrap (a * b))) else none
  | .quo, .int k a, .int k' b => if k = k' ∧ b ≠ 0 then some (.int k (k.wrap (a.tdiv b))) else none
  | .rem, .int k a, .int k' b => if k = k' ∧ b ≠ 0 then some (.int k (a.tmod b)) else none
  | .shl, .int k a, .int _ b => if 0 ≤ b then some (.int k (k.wrap (a * 2 ^ (min b.toNat k.bits)))) else none
  | .shr, .int k a, .int _ b => if 0 ≤ b then some (.int k (a.fdiv (2 ^ (min b.toNat k.bits)))) else none
  | .and, .int k a, .int k' b => if k = k' then some (.int k (k.wrap (BitVec.ofInt k.bits a &&& BitVec.ofInt k.bits b).toNat)) else none
  | .or, .int k a, .int k' b => if k = k' then some (.int k (k.wrap (BitVec.ofInt k.bits a ||| BitVec.ofInt k.bits b).toNat)) else none
  | .xor, .int k a, .int k' b => if k = k' then some (.int k (k.wrap (BitVec.ofInt k.bits a ^^^ BitVec.ofInt k.bits b).toNat)) else none
  | .lss, .int k a, .int k' b => if k = k' then some (.bool (decide (a < b))) else none
  | .leq, .int k a, .int k' b => if k = k' then some (.bool (decide (a ≤ b))) else none
  | .gtr, .int k a, .int k' b => if k = k' then some (.bool (decide (a > b))) else none
  | .geq, .int k a, .int k' b => if k = k' then some (.bool (decide (a ≥ b))) else none
  | .eql, .int k a, .int k' b => if k = k' then some (.bool (a == b)) else none
  | .neq, .int k a, .int k' b => if k = k' then some (.bool (a != b)) else none
  | .eql, .str a, .str b => some (.bool (a == b))
  | .neq, .str a, .str b => some (.bool (!(a == b)))
  | .lss, .str a, .str b => some (.bool (Op.bytesLess a b))
  | .leq, .str a, .str b => some (.bool (Op.bytesLess a b || a == b))
  | .gtr, .str a, .str b => some (.bool (!(Op.bytesLess a b || a == b)))
  | .geq, .str a, .str b => some (.bool (!(Op.bytesLess a b)))
  | .add, .str a, .str b => if a.length + b.length ≤ 9223372036854775807 then some (.str (a ++ b)) else none
  | .eql, .agg xs, .agg ys => (aEqS P 20 t (.agg xs) (.agg ys)).map .bool
  | .neq, .agg xs, .agg ys => (aEqS P 20 t (.agg xs) (.agg ys)).map fun b => .bool (!b)
  | .eql, x, y => (aEq0 P t x y).map .bool
  | .neq, x, y => (aEq0 P t x y).map fun b => .bool (!b)
  | _, _, _ => none
def bytesOf : List (List AV) → Option (List UInt8)
  | [] => some []
  | [.int .u8 n] :: r => (bytesOf r).map (UInt8.ofNat n.toNat :: ·)
  | _ :: _ => none
/-- Conversions that make no memory. -/
def aConv (P : Program) (h : AHeap) (src dst : TypeId) (x : AV) : Option AV :=
  match ti P src, ti P dst with
  | some S, some D => match S.k, D.k, x with
    | .int _, .int k, .int _ n => some (.int k (k.wrap n))
    | .str, .str, .str s => some (.str s)
    | .sl e, .str, .sl st rows => match ti P e with
      | some E => if E.k = .int .u8 ∧ st = 1 then (bytesOf rows).map .str else none
      | none => none
    | .sl e, .str, .emp => match ti P e with
      | some E => if E.k = .int .u8 then some (.str []) else none
      | none => none
    | .sl e, .str, .ref o g off len => match ti P e, h o with
      | some E, some (.rows g' st rs) => if E.k = .int .u8 ∧ st = 1 ∧ g' = g ∧ off + len ≤ rs.length then (bytesOf ((rs.drop off).take len)).map .str else none
      | _, _ => none
    | _, _, _ => none
  | _, _ => none
def aMinF (isMax : Bool) (k : IntKind) : Int → List AV → Option AV
  | a, [] => some (.int k a)
  | a, .int k' b :: r => if k' = k then aMinF isMax k (if isMax then (if b > a then b else a) else (if b < a then b else a)) r else none
  | _, _ => none
def aMin (isMax : Bool) : List AV → Option AV
  | .int k x :: r => aMinF isMax k x r
  | _ => none

section
variable {P : Program} [GW P] {B : Base P} {h : AHeap} {mu : Mu} {w : World}

theorem Sim.row {o g st r : Nat} {rs : List (List AV)} {l : Loc} (s : Sim B mu h w) (hx : h o = some (.rows g st rs)) (hl : mu o g = some l) (hr : r < rs.length) :
    ∀ j, j < (rs.getD r []).length → ∃ x, w.cell? ⟨l.b, l.base + r * l.st + j, none⟩ = some x ∧ RV h mu w ((rs.getD r []).getD j .und) x := by
  obtain ⟨l', h1, h2, h3, h4, h5, h6⟩ := s.rows _ _ _ _ hx
  rw [hl] at h1; cases h1
  intro j hj
  have hj' : j < st := by
    have := (h5 _ (List.getElem_mem hr)).1
    simp only [List.getD, List.getElem?_eq_getElem hr, Option.getD_some] at hj
    omega
  rw [h3]
  exact h6 r j hr hj'

theorem load_sound (s : Sim B mu h w) {t : TypeId} {v x : AV} {c : Value} (hv : RV h mu w v c) (hx : aLoad P h t v = some x) : ∃ y, (Instr.loadAt t c).run P w = .ok y w ∧ RV h mu w x y := by
  unfold aLoad at hx
  split at hx
  · cases hx
  rename_i T hT
  split at hx
  · rename_i o g r cc
    split at hx
    · rename_i g' st rs hh
      split at hx
      · rename_i hc
        obtain ⟨rfl, hr⟩ := hc
        cases hv with
        | ptr _ _ _ _ l hl hcl =>
          obtain ⟨y, hy1, hy2⟩ := load_row (b := l.b) (off := l.base + r * l.st) (s.row hh hl hr) hT hx
          exact ⟨y, by simpa [Instr.loadAt, Instr.sureAddr] using hy1, hy2⟩
      · cases hx
    · cases hx
  · rename_i row cc
    cases hv with
    | cp _ _ b off vs h1 h2 h3 h4 =>
      obtain ⟨y, hy1, hy2⟩ := load_row (b := b) (off := off) (fun j hj => ⟨vs j, h1 j hj, h2 j hj⟩) hT hx
      exact ⟨y, by simpa [Instr.loadAt, Instr.sureAddr] using hy1, hy2⟩
  · cases hx

theorem st_field {P : Program} [GW P] {s : TypeId} {T : TI} {fs : List (Nat × TypeId)} {f off : Nat} {ft : TypeId} (hT : ti P s = some T) (hk : T.k = .st fs) (hf : fs[f]? = some (off, ft)) :
    ∃ a fd, P.underlying s = some (.struct a) ∧ a[f]? = some fd ∧ fd.offset = off ∧ fd.type = ft := by
  obtain ⟨d, h1, h2⟩ := ti_und hT
  obtain ⟨a, rfl, rfl⟩ := of_st (hk ▸ h2)
  rw [List.getElem?_map] at hf
  cases hq : a.toList[f]? with
  | none => rw [hq] at hf; cases hf
  | some fd =>
    rw [hq] at hf
    simp only [Option.map_some, Option.some.injEq, Prod.mk.injEq] at hf
    exact ⟨a, fd, h1, by simpa using hq, hf.1, hf.2⟩

theorem fieldAddr_sound {t : TypeId} {v x : AV} {c : Value} {f : Nat} (hv : RV h mu w v c) (hx : aFieldAddr P t v f = some x) : ∃ y, (Instr.fieldAt t c f).run P w = .ok y w ∧ RV h mu w x y := by
  unfold aFieldAddr at hx
  split at hx
  · cases hx
  rename_i T hT
  split at hx
  · rename_i fs hk
    split at hx
    · cases hx
    rename_i off ft hf
    split at hx
    · cases hx
    rename_i F hF
    obtain ⟨a, fd, ha, hfd, rfl, rfl⟩ := st_field hT hk hf
    split at hx
    · cases hx
    rename_i hsz
    have run : ∀ b o, (Instr.fieldAt t (.pointer (some ⟨b, o, none⟩)) f).run P w = .ok (.pointer (some ⟨b, o + fd.offset, none⟩)) w := by
      intro b o
      simp [Instr.fieldAt, run_underlying ha, hfd, Instr.sureAddr, fieldPlace, ti_size hF, hsz, add_mk]
    split at hx
    · cases hx
      cases hv with
      | ptr _ _ _ _ l hl hcl =>
        refine ⟨_, run _ _, ?_⟩
        rw [Nat.add_assoc]
        exact .ptr _ _ _ _ l hl hcl
    · cases hx
      cases hv with
      | cp _ _ b off vs h1 h2 h3 h4 =>
        refine ⟨_, run _ _, ?_⟩
        rw [Nat.add_assoc]
        exact .cp _ _ b off vs h1 h2 h3 h4
    · cases hx
  · cases hx

theorem field_sound {t : TypeId} {v x : AV} {c : Value} {f : Nat} (hv : RV h mu w v c) (hx : aField P t v f = some x) : ∃ y, (Instr.field t c f).run P w = .ok y w ∧ RV h mu w x y := by
  unfold aField at hx
  split at hx
  · cases hx
  rename_i T hT
  split at hx
  · rename_i fs hk
    split at hx
    · cases hx
    rename_i off ft hf
    split at hx
    · cases hx
    rename_i F hF
    obtain ⟨a, fd, ha, hfd, rfl, rfl⟩ := st_field hT hk hf
    split at hx
    · cases hv with
      | agg cs vs hl h1 =>
        obtain ⟨y, hy1, hy2⟩ := part_rv hl h1 hF hx
        exact ⟨y, by simpa [Instr.field, run_underlying ha, hfd, asAgg] using hy1, hy2⟩
    · cases hx
  · cases hx

theorem indexAddr_sound (s : Sim B mu h w) {t : TypeId} {v i x : AV} {c ci : Value} (hv : RV h mu w v c) (hi : RV h mu w i ci) (hx : aIndexAddr P h t v i = some x) : ∃ y, (Instr.indexAt t c ci).run P w = .ok y w ∧ RV h mu w x y := by
  unfold aIndexAddr at hx
  split at hx
  · cases hx
  rename_i T hT
  split at hx
  · rename_i k n
    cases hi
    obtain ⟨d, hd, hk'⟩ := ti_und hT
    split at hx
    · rename_i e hk
      have := of_sl (hk ▸ hk'); subst this
      split at hx
      · cases hx
      rename_i E hE
      split at hx
      · rename_i st rows
        split at hx
        · rename_i hc
          obtain ⟨rfl, h0, h1⟩ := hc
          cases hx
          cases hv with
          | sl0 st a cap => simp at h1; omega
          | sl _ _ b off cap vs hcap hlim g1 g2 hr g3 g4 =>
            have hn : n.toNat < rows.length := by omega
            have hlen : (rows.getD n.toNat []).length = E.size := by
              simp only [List.getD, List.getElem?_eq_getElem hn, Option.getD_some]; exact (hr _ (List.getElem_mem hn)).1
            refine ⟨.pointer (some ⟨b, off + n.toNat * E.size, none⟩), ?_, ?_⟩
            · simp [Instr.indexAt, asIntOf, run_underlying hd, h0, h1, ti_size hE, add_mk]
            · have := Rv.cp (w := w) (mu := mu) (M := Mut h mu) (rows.getD n.toNat []) 0 b (off + n.toNat * E.size) (vs n.toNat)
                (fun j hj => g1 _ j hn (by omega)) (fun j hj => g2 _ j hn (by omega)) g3 g4
              simpa using this
        · cases hx
      · rename_i o g off len
        split at hx
        · rename_i g' st rs hh
          split at hx
          · rename_i hc
            obtain ⟨rfl, rfl, h0, h1⟩ := hc
            cases hx
            cases hv with
            | ref _ _ _ _ cap l hl hcl hcap hlim hsz =>
              obtain ⟨l', k1, k2, k3, _⟩ := s.rows _ _ _ _ hh
              rw [hl] at k1; cases k1
              refine ⟨.pointer (some ⟨l.b, l.base + off * l.st + n.toNat * E.size, none⟩), ?_, ?_⟩
              · simp [Instr.indexAt, asIntOf, run_underlying hd, h0, h1, ti_size hE, add_mk]
              · have := Rv.ptr (w := w) (M := Mut h mu) o g' (off + n.toNat) 0 l hl hcl
                rw [Nat.add_mul, ← Nat.add_assoc, k3] at this
                rw [k3]
                simpa using this
          · cases hx
        · cases hx
      · cases hx
    · rename_i m e hk
      have := of_arr (hk ▸ hk'); subst this
      split at hx
      · cases hx
      rename_i E hE
      split at hx
      · rename_i hc
        obtain ⟨h0, h1⟩ := hc
        have run : ∀ b o, (Instr.indexAt t (.pointer (some ⟨b, o, none⟩)) (.int k n)).run P w = .ok (.pointer (some ⟨b, o + n.toNat * E.size, none⟩)) w := by
          intro b o
          simp [Instr.indexAt, asIntOf, run_underlying hd, h0, h1, ti_size hE, add_mk, Instr.sureAddr]
        split at hx
        · cases hx
          cases hv with
          | ptr _ _ _ _ l hl hcl =>
            refine ⟨_, run _ _, ?_⟩
            rw [Nat.add_assoc]
            exact .ptr _ _ _ _ l hl hcl
        · cases hx
          cases hv with
          | cp _ _ b off vs h1 h2 h3 h4 =>
            refine ⟨_, run _ _, ?_⟩
            rw [Nat.add_assoc]
            exact .cp _ _ b off vs h1 h2 h3 h4
        · cases hx
      · cases hx
    · cases hx
  · cases hx

theorem index_sound {t : TypeId} {v i x : AV} {c ci : Value} (hv : RV h mu w v c) (hi : RV h mu w i ci) (hx : aIndex P t v i = some x) : ∃ y, (Instr.index t c ci).run P w = .ok y w ∧ RV h mu w x y := by
  unfold aIndex at hx
  split at hx
  · cases hx
  rename_i T hT
  split at hx
  · rename_i k n
    cases hi
    obtain ⟨d, hd, hk'⟩ := ti_und hT
    split at hx
    · rename_i s hk
      have := of_str (hk ▸ hk'); subst this
      split at hx
      · rename_i hc
        obtain ⟨h0, h1⟩ := hc
        cases hx
        cases hv with
        | str _ =>
          have hn : n.toNat < s.length := by omega
          refine ⟨.int .u8 ((s.getD n.toNat 0).toNat : Int), ?_, .int _ _⟩
          have hb : (⟨s.toArray⟩ : ByteArray)[n.toNat]? = some (s.getD n.toNat 0) := by
            rw [show (⟨s.toArray⟩ : ByteArray)[n.toNat]? = s.toArray[n.toNat]? from rfl]
            simp [List.getD, List.getElem?_eq_getElem hn]
          simp [Instr.index, asIntOf, run_underlying hd, h0, hb]
      · cases hx
    · rename_i m e cs hk
      have := of_arr (hk ▸ hk'); subst this
      split at hx
      · cases hx
      rename_i E hE
      split at hx
      · rename_i hc
        obtain ⟨h0, h1⟩ := hc
        cases hv with
        | agg _ vs hl g1 =>
          obtain ⟨y, hy1, hy2⟩ := part_rv hl g1 hE hx
          exact ⟨y, by simpa [Instr.index, asIntOf, run_underlying hd, h0, h1, ti_size hE] using hy1, hy2⟩
      · cases hx
    · cases hx
  · cases hx

theorem extract_sound {v x : AV} {c : Value} {i : Nat} (hv : RV h mu w v c) (hx : aExtract v i = some x) : ∃ y, (Instr.extract c i).run P w = .ok y w ∧ RV h mu w x y := by
  unfold aExtract at hx
  split at hx
  · split at hx
    · rename_i hi
      cases hx
      cases hv with
      | tup cs vs hl h1 =>
        refine ⟨vs.getD i undef, ?_, h1 i hi⟩
        obtain ⟨y, hy⟩ : ∃ y, vs[i]? = some y := ⟨_, List.getElem?_eq_getElem (by omega)⟩
        rw [getD_of hy]
        simp [Instr.extract, hy]
    · cases hx
  · cases hx

theorem un_sound {op : UnOp} {v x : AV} {c : Value} (hv : RV h mu w v c) (hx : aUn op v = some x) : ∃ y, (Op.unary op c).run P w = .ok y w ∧ RV h mu w x y := by
  unfold aUn at hx
  split at hx
  · cases hx; cases hv
    exact ⟨_, rfl, .bool _⟩
  · cases hx; cases hv
    exact ⟨_, rfl, .int _ _⟩
  · cases hx

theorem len_sound (s : Sim B mu h w) {t ty : TypeId} {v x : AV} {c : Value} (hv : RV h mu w v c) (hx : aLen P h t v = some x) : ∃ y, (Builtin.len_ #[t] ty #[c]).run P w = .ok y w ∧ RV h mu w x y := by
  unfold aLen at hx
  split at hx
  · cases hx
  rename_i T hT
  obtain ⟨d, hd, hk'⟩ := ti_und hT
  split at hx
  · rename_i s hk
    have := of_str (hk ▸ hk'); subst this
    cases hx; cases hv
    refine ⟨.int .i64 s.length, ?_, .int _ _⟩
    have : (⟨s.toArray⟩ : ByteArray).size = s.length := by simp [Lib.size_eq]
    simp [Builtin.len_, run_underlying hd, goInt, this]
  · rename_i n e hk
    have := of_arr (hk ▸ hk'); subst this
    cases hx
    exact ⟨.int .i64 n, by simp [Builtin.len_, run_underlying hd, goInt], .int _ _⟩
  · rename_i e st rows hk
    have := of_sl (hk ▸ hk'); subst this
    cases hx
    cases hv with
    | sl0 => exact ⟨.int .i64 0, by simp [Builtin.len_, run_underlying hd, goInt], .int _ _⟩
    | sl => exact ⟨_, by simp [Builtin.len_, run_underlying hd, goInt], .int _ _⟩
  · rename_i e hk
    have := of_sl (hk ▸ hk'); subst this
    cases hx; cases hv
    exact ⟨.int .i64 0, by simp [Builtin.len_, run_underlying hd, goInt], .int _ _⟩
  · rename_i e o g off len hk
    have := of_sl (hk ▸ hk'); subst this
    cases hx; cases hv
    exact ⟨.int .i64 len, by simp [Builtin.len_, run_underlying hd, goInt], .int _ _⟩
  · rename_i k e hk
    have := of_map (hk ▸ hk'); subst this
    cases hx; cases hv
    exact ⟨.int .i64 0, by simp [Builtin.len_, run_underlying hd, goInt], .int _ _⟩
  · rename_i k e o g hk
    have := of_map (hk ▸ hk'); subst this
    split at hx
    · rename_i g' es hh
      split at hx
      · rename_i hg
        subst hg
        cases hx
        cases hv with
        | map _ _ l hl hcl =>
          obtain ⟨l', k1, k2, ens, clock, k3, k4, _⟩ := s.maps _ _ _ hh
          rw [hl] at k1; cases k1
          refine ⟨.int .i64 es.length, ?_, .int _ _⟩
          simp [Builtin.len_, run_underlying hd, goInt, getObj, Sem.run, k3, k4]
      · cases hx
    · cases hx
  · cases hx

theorem bytesOf_spec : ∀ {rows : List (List AV)} {l : List UInt8}, bytesOf rows = some l → ∃ ns : List Int, rows = ns.map (fun n => [AV.int .u8 n]) ∧ l = ns.map fun n => UInt8.ofNat n.toNat
  | [], l, hx => by cases hx; exact ⟨[], rfl, rfl⟩
  | r :: rows, l, hx => by
    unfold bytesOf at hx
    split at hx
    · rename_i he; cases he
    · rename_i n r' he
      cases he
      cases hq : bytesOf rows with
      | none => rw [hq] at hx; cases hx
      | some l' =>
        rw [hq] at hx; cases hx
        obtain ⟨ns, rfl, rfl⟩ := bytesOf_spec hq
        exact ⟨n :: ns, rfl, rfl⟩
    · cases hx
theorem push_bytes : ∀ (ns : List Int) (s : ByteArray), ns.foldl (fun r n => r.push (UInt8.ofNat n.toNat)) s = ⟨(s.data.toList ++ ns.map fun n => UInt8.ofNat n.toNat).toArray⟩
  | [], s => by cases s; simp
  | n :: ns, s => by
    rw [List.foldl_cons, push_bytes ns]
    cases s
    simp [ByteArray.push]
theorem conv_bytes {src dst e : TypeId} {a : Option Addr} {l c : Nat} {ns : List Int} {d1 : TypeDesc} (hs : P.underlying src = some (.slice e)) (he : P.underlying e = some (.int .u8)) (hd : P.underlying dst = some .string)
    (hn : ns.length = l) (hc : ∀ b off, a = some ⟨b, off, none⟩ → ∀ j, j < l → w.cell? ⟨b, off + j, none⟩ = some (.int .u8 (ns.getD j 0))) (ha : l = 0 ∨ ∃ b off, a = some ⟨b, off, none⟩) :
    (convert src dst (.slice a l c)).run P w = .ok (.string ⟨(ns.map fun n => UInt8.ofNat n.toNat).toArray⟩) w := by
  rw [run_convert_bytes_string w src dst e a l c hs he hd]
  cases a with
  | none =>
    rcases ha with rfl | ⟨b, off, h⟩
    · have : ns = [] := List.length_eq_zero_iff.1 hn
      subst this
      simp [Conv.bytesToString]; rfl
    · cases h
  | some a =>
    have hl : (loadCells a l).run P w = .ok (ns.map (Value.int .u8)).toArray w := by
      rw [run_loadCells w a l (fun j => .int .u8 (ns.getD j 0)) (fun j hj => ?_)]
      · congr 1
        apply Array.ext'
        simp only [List.toList_toArray]
        apply List.ext_getElem?
        intro j
        simp only [List.getElem?_map]
        by_cases hj : j < l
        · have : j < ns.length := by omega
          simp [hj, this, List.getD]
        · have : ¬ j < ns.length := by omega
          rw [List.getElem?_eq_none (by simpa using hj), List.getElem?_eq_none (by omega)]; rfl
      · rcases ha with rfl | ⟨b, off, h⟩
        · omega
        · cases h
          rw [add_mk]; exact hc b off rfl j hj
    rw [run_bytesToString w a l c ns hl, push_bytes]
    rfl
theorem conv_sound (s : Sim B mu h w) {src dst : TypeId} {v x : AV} {c : Value} (hv : RV h mu w v c) (hx : aConv P h src dst v = some x) : ∃ y, (convert src dst c).run P w = .ok y w ∧ RV h mu w x y := by
  unfold aConv at hx
  split at hx
  · rename_i S D hS hD
    obtain ⟨d1, hd1, hk1⟩ := ti_und hS
    obtain ⟨d2, hd2, hk2⟩ := ti_und hD
    split at hx
    · rename_i k1 k2 k n q1 q2
      have := of_int (q1 ▸ hk1); subst this
      have := of_int (q2 ▸ hk2); subst this
      cases hx; cases hv
      exact ⟨_, by simp [convert, run_underlying hd1, run_underlying hd2, Conv.intToInt], .int _ _⟩
    · rename_i s q1 q2
      have := of_str (q1 ▸ hk1); subst this
      have := of_str (q2 ▸ hk2); subst this
      cases hx; cases hv
      exact ⟨_, by simp [convert, run_underlying hd1, run_underlying hd2], .str _⟩
    · rename_i e st rows q1 q2
      have := of_sl (q1 ▸ hk1); subst this
      have := of_str (q2 ▸ hk2); subst this
      split at hx
      · rename_i E hE
        split at hx
        · rename_i hc
          obtain ⟨hc1, rfl⟩ := hc
          obtain ⟨dE, hdE, hkE⟩ := ti_und hE
          have := of_int (hc1 ▸ hkE); subst this
          cases hq : bytesOf rows with
          | none => rw [hq] at hx; cases hx
          | some l =>
            rw [hq] at hx; cases hx
            obtain ⟨ns, rfl, rfl⟩ := bytesOf_spec hq
            generalize hg : ns.map (fun n => [AV.int .u8 n]) = rows at hv
            cases hv with
            | sl0 _ a cap =>
              have : ns = [] := by simpa using hg
              subst this
              exact ⟨_, conv_bytes (ns := []) (d1 := .bool) hd1 hdE hd2 rfl (fun _ _ _ j hj => by omega) (.inl rfl), .str _⟩
            | sl _ _ b off cap vs hcap hlim h1 h2 hr h3 h4 =>
              subst hg
              refine ⟨_, conv_bytes (ns := ns) (d1 := .bool) hd1 hdE hd2 (by simp) (fun b' off' e j hj => ?_) (.inr ⟨b, off, rfl⟩), .str _⟩
              cases e
              have hj' : j < ns.length := by simpa using hj
              have e1 := h1 j 0 (by simpa using hj') (by omega)
              have e2 := h2 j 0 (by simpa using hj') (by omega)
              rw [Nat.mul_one, Nat.add_zero] at e1
              rw [e1]
              have : cell (ns.map fun n => [AV.int .u8 n]) j 0 = .int .u8 ns[j] := by simp [cell, hj']
              rw [this] at e2
              cases hq2 : vs j 0 <;> rw [hq2] at e2 <;> cases e2
              simp [List.getD, hj']
        · cases hx
      · cases hx
    · rename_i e q1 q2
      have := of_sl (q1 ▸ hk1); subst this
      have := of_str (q2 ▸ hk2); subst this
      split at hx
      · rename_i E hE
        split at hx
        · rename_i hc1
          obtain ⟨dE, hdE, hkE⟩ := ti_und hE
          have := of_int (hc1 ▸ hkE); subst this
          cases hx
          cases hv
          exact ⟨_, conv_bytes (ns := []) (d1 := .bool) hd1 hdE hd2 rfl (fun _ _ _ j hj => by omega) (.inl rfl), .str _⟩
        · cases hx
      · cases hx
    · rename_i e o g off len q1 q2
      have := of_sl (q1 ▸ hk1); subst this
      have := of_str (q2 ▸ hk2); subst this
      split at hx
      · rename_i E g' st rs hE hh
        split at hx
        · rename_i hc
          obtain ⟨hc1, rfl, rfl, hle⟩ := hc
          obtain ⟨dE, hdE, hkE⟩ := ti_und hE
          have := of_int (hc1 ▸ hkE); subst this
          cases hq : bytesOf ((rs.drop off).take len) with
          | none => rw [hq] at hx; cases hx
          | some l =>
            rw [hq] at hx; cases hx
            obtain ⟨ns, hn, rfl⟩ := bytesOf_spec hq
            have hnl : ns.length = len := by
              have := congrArg List.length hn
              simp at this; omega
            cases hv with
            | ref _ _ _ _ cap l' hl hcl hcap hlim hsz =>
              obtain ⟨l2, k1, k2, k3, k4, k5, k6⟩ := s.rows _ _ _ _ hh
              rw [hl] at k1; cases k1
              refine ⟨_, conv_bytes (ns := ns) (d1 := .bool) hd1 hdE hd2 hnl (fun b' off' e j hj => ?_) (.inr ⟨_, _, rfl⟩), .str _⟩
              cases e
              obtain ⟨c, c1, c2⟩ := k6 (off + j) 0 (by omega) (by omega)
              rw [k3]
              have ea : l'.base + off * 1 + j = l'.base + (off + j) * 1 + 0 := by omega
              rw [ea, c1]
              have : cell rs (off + j) 0 = .int .u8 (ns.getD j 0) := by
                have hj' : j < ns.length := by omega
                have := congrArg (fun l => l[j]?) hn
                simp only [List.getElem?_take, hj, if_true, List.getElem?_drop, List.getElem?_map, List.getElem?_eq_getElem hj', Option.map_some] at this
                simp [cell, List.getD, this, hj']
              rw [this] at c2
              cases c2
              rfl
        · cases hx
      · cases hx
    · cases hx
  · cases hx

theorem bound_sound {x : Option AV} {c : Option Value} {dflt y n : Nat} {code : BoundsCode} (hc : (x = none ∧ c = none) ∨ ∃ a b, x = some a ∧ c = some b ∧ RV h mu w a b) (hx : aBound x dflt y = some n) (hy : dflt ≤ y) :
    n ≤ y ∧ ((x = none ∧ c = none ∧ n = dflt) ∨ ∃ b, c = some b ∧ (Instr.sliceBound b y code).run P w = .ok n w) := by
  rcases hc with ⟨rfl, rfl⟩ | ⟨a, b, rfl, rfl, hab⟩
  · simp [aBound] at hx
    subst hx
    exact ⟨hy, .inl ⟨rfl, rfl, rfl⟩⟩
  · unfold aBound at hx
    split at hx
    · rename_i hq; cases hq
    · rename_i k m hq
      cases hq
      split at hx
      · rename_i hm
        cases hx
        cases hab
        refine ⟨by omega, .inr ⟨_, rfl, ?_⟩⟩
        simp [Instr.sliceBound, asIntOf, hm]
      · cases hx
    · cases hx

def OptRV (h : AHeap) (mu : Mu) (w : World) (x : Option AV) (c : Option Value) : Prop := (x = none ∧ c = none) ∨ ∃ a b, x = some a ∧ c = some b ∧ RV h mu w a b

theorem slice_sound (s : Sim B mu h w) {t : TypeId} {v x : AV} {c : Value} {lo hi mx : Option AV} {clo chi cmx : Option Value} (hv : RV h mu w v c) (h1 : OptRV h mu w lo clo) (h2 : OptRV h mu w hi chi) (h3 : OptRV h mu w mx cmx)
    (hx : aSlice P h t v lo hi mx = some x) : ∃ y, (Instr.sliceAt t c clo chi cmx).run P w = .ok y w ∧ RV h mu w x y := by
  unfold aSlice at hx
  split at hx
  · cases hx
  rename_i T hT
  obtain ⟨d, hd, hk'⟩ := ti_und hT
  have zero : ∀ {a : Option Addr} {len cap : Nat} {e : TypeId} {E : TI} {m : AV} {lo hi : Option AV} {clo chi cmx : Option Value}, TypeDesc.slice e = d → ti P e = some E → OptRV h mu w lo clo → OptRV h mu w hi chi → OptRV h mu w (some m) cmx →
      (lo = none ∨ ∃ k, lo = some (.int k 0)) → (∃ k, hi = some (.int k 0)) → (∃ k, m = .int k 0) → ∃ y, (Instr.sliceAt t (.slice a len cap) clo chi cmx).run P w = .ok y w ∧ RV h mu w .emp y := by
    intro a len cap e E m lo hi clo chi cmx he hE h1 h2 h3 q1 q2 q3
    obtain ⟨k2, rfl⟩ := q2
    obtain ⟨k3, rfl⟩ := q3
    rcases h2 with ⟨hh, _⟩ | ⟨_, b2, hh, rfl, r2⟩
    · cases hh
    cases hh; cases r2
    rcases h3 with ⟨hh, _⟩ | ⟨_, b3, hh, rfl, r3⟩
    · cases hh
    cases hh; cases r3
    rcases q1 with rfl | ⟨k1, rfl⟩
    · rcases h1 with ⟨_, rfl⟩ | ⟨_, _, hh, _, _⟩
      · refine ⟨.slice a 0 0, ?_, .emp _⟩
        simp [Instr.sliceAt, run_underlying hd, ← he, Instr.slice, Instr.sliceBounds, Instr.sliceBound, asIntOf, ti_size hE]
      · cases hh
    · rcases h1 with ⟨hh, _⟩ | ⟨_, b1, hh, rfl, r1⟩
      · cases hh
      cases hh; cases r1
      refine ⟨.slice a 0 0, ?_, .emp _⟩
      simp [Instr.sliceAt, run_underlying hd, ← he, Instr.slice, Instr.sliceBounds, Instr.sliceBound, asIntOf, ti_size hE]
  split at hx
  · rename_i str hk
    have := of_str (hk ▸ hk'); subst this
    cases hv
    have hsz : (⟨str.toArray⟩ : ByteArray).size = str.length := by simp [Lib.size_eq]
    rcases h3 with ⟨_, rfl⟩ | ⟨_, _, hh, _, _⟩
    · split at hx
      · cases hx
      rename_i b hb
      split at hx
      · cases hx
      rename_i a ha
      cases hx
      obtain ⟨b1, b2⟩ := bound_sound (P := P) (code := .sliceAlen) h2 hb (Nat.le_refl _)
      obtain ⟨a1, a2⟩ := bound_sound (P := P) (code := .sliceB) h1 ha (Nat.zero_le _)
      refine ⟨.string ((⟨str.toArray⟩ : ByteArray).extract a b), ?_, ?_⟩
      · have hall : (⟨str.toArray⟩ : ByteArray).extract 0 str.length = ⟨str.toArray⟩ := by rw [Lib.extract_eq]; simp
        rcases b2 with ⟨_, rfl, rfl⟩ | ⟨cb, rfl, rb⟩ <;> rcases a2 with ⟨_, rfl, rfl⟩ | ⟨ca, rfl, ra⟩ <;>
          simp [Instr.sliceAt, run_underlying hd, Instr.slice, Instr.sliceBounds, hsz, hall, *]
      · have e : ((⟨str.toArray⟩ : ByteArray).extract a b) = ⟨((str.drop a).take (b - a)).toArray⟩ := by
          rw [Lib.extract_eq]
        rw [e]
        exact .str _
    · cases hh
  · rename_i e st rows hk
    have := of_sl (hk ▸ hk'); subst this
    split at hx
    · cases hx
    rename_i E hE
    split at hx
    · rename_i hst
      subst hst
      rcases h3 with ⟨_, rfl⟩ | ⟨_, _, hh, _, _⟩
      · split at hx
        · cases hx
        rename_i b hb
        split at hx
        · cases hx
        rename_i a ha
        cases hx
        obtain ⟨a1, a2⟩ := bound_sound (P := P) (code := .sliceB) h1 ha (Nat.zero_le _)
        cases hv with
        | sl0 _ ad cap =>
          have hb' : aBound hi 0 cap = some b ∧ b = 0 := by
            unfold aBound at hb ⊢
            split at hb
            · simp at hb; simp [hb]
            · split at hb
              · rename_i hq
                cases hb
                have : (0 : Int) ≤ _ ∧ _ ≤ ((([] : List (List AV)).length : Nat) : Int) := hq
                simp at this
                rw [if_pos (by omega)]
                exact ⟨rfl, by omega⟩
              · cases hb
            · cases hb
          obtain ⟨hb1, rfl⟩ := hb'
          obtain ⟨b1, b2⟩ := bound_sound (P := P) (code := .sliceAcap) h2 hb1 (Nat.zero_le _)
          have ha0 : a = 0 := by omega
          subst ha0
          have key : ∃ ad', (Instr.sliceAt t (.slice ad 0 cap) clo chi none).run P w = .ok (.slice ad' 0 cap) w := by
            rcases b2 with ⟨_, rfl, _⟩ | ⟨cb, rfl, rb⟩ <;> rcases a2 with ⟨_, rfl, _⟩ | ⟨ca, rfl, ra⟩ <;>
              simp [Instr.sliceAt, run_underlying hd, Instr.slice, Instr.sliceBounds, ti_size hE, *]
          obtain ⟨ad', key⟩ := key
          exact ⟨_, key, by simpa using Rv.sl0 _ _ _⟩
        | sl _ _ bb off cap vs hcap hlim g1 g2 hr g3 g4 =>
          have hb' : aBound hi rows.length cap = some b ∧ b ≤ rows.length := by
            unfold aBound at hb ⊢
            split at hb
            · simp at hb; simp [hb]
            · split at hb
              · rename_i hq
                cases hb
                rw [if_pos (by omega)]
                exact ⟨rfl, by omega⟩
              · cases hb
            · cases hb
          obtain ⟨hb1, hble⟩ := hb'
          obtain ⟨b1, b2⟩ := bound_sound (P := P) (code := .sliceAcap) h2 hb1 hcap
          by_cases hab : a = b
          · subst hab
            have key : ∃ ad' cap', (Instr.sliceAt t (.slice (some ⟨bb, off, none⟩) rows.length cap) clo chi none).run P w = .ok (.slice ad' 0 cap') w := by
              rcases b2 with ⟨_, rfl, q⟩ | ⟨cb, rfl, rb⟩ <;> rcases a2 with ⟨_, rfl, _⟩ | ⟨ca, rfl, ra⟩ <;>
                first | (subst q; simp [Instr.sliceAt, run_underlying hd, Instr.slice, Instr.sliceBounds, ti_size hE, *]) | simp [Instr.sliceAt, run_underlying hd, Instr.slice, Instr.sliceBounds, ti_size hE, *]
            obtain ⟨ad', cap', key⟩ := key
            exact ⟨_, key, by simpa using Rv.sl0 _ _ _⟩
          · have hlt : a < b := by omega
            refine ⟨.slice (some ⟨bb, off + a * E.size, none⟩) (b - a) (cap - a), ?_, ?_⟩
            · have hne : ¬ cap = a := by omega
              rcases b2 with ⟨_, rfl, q⟩ | ⟨cb, rfl, rb⟩ <;> rcases a2 with ⟨_, rfl, _⟩ | ⟨ca, rfl, ra⟩ <;>
                first | (subst q; simp [Instr.sliceAt, run_underlying hd, Instr.slice, Instr.sliceBounds, ti_size hE, add_mk, hne, *]) | simp [Instr.sliceAt, run_underlying hd, Instr.slice, Instr.sliceBounds, ti_size hE, add_mk, hne, *]
            · have hlen : ((rows.drop a).take (b - a)).length = b - a := by simp; omega
              have hcellr : ∀ i j, i < b - a → cell ((rows.drop a).take (b - a)) i j = cell rows (a + i) j := by
                intro i j hi
                simp [cell, List.getD, List.getElem?_take, hi, List.getElem?_drop]
              have := Rv.sl (w := w) (mu := mu) (M := Mut h mu) E.size ((rows.drop a).take (b - a)) bb (off + a * E.size) (cap - a) (fun i j => vs (a + i) j) (by omega) (by omega)
                (fun i j hi hj => by
                  rw [hlen] at hi
                  have := g1 (a + i) j (by omega) hj
                  rw [Nat.add_mul] at this
                  rw [← this]; congr 2; omega)
                (fun i j hi hj => by rw [hlen] at hi; rw [hcellr i j hi]; exact g2 (a + i) j (by omega) hj)
                (fun r hr' => hr r (List.mem_of_mem_drop (List.mem_of_mem_take hr'))) g3 g4
              rwa [hlen] at this
      · cases hh
    · cases hx
  · rename_i e o g off len hk
    have := of_sl (hk ▸ hk'); subst this
    split at hx
    · cases hx
    rename_i E hE
    rcases h3 with ⟨_, rfl⟩ | ⟨_, _, hh, _, _⟩
    · split at hx
      · cases hx
      rename_i b hb
      split at hx
      · cases hx
      rename_i a ha
      obtain ⟨a1, a2⟩ := bound_sound (P := P) (code := .sliceB) h1 ha (Nat.zero_le _)
      cases hv with
      | ref _ _ _ _ cap l hl hcl hcap hlim hsz =>
        have hb' : aBound hi len cap = some b ∧ b ≤ len := by
          unfold aBound at hb ⊢
          split at hb
          · simp at hb; simp [hb]
          · split at hb
            · rename_i hq
              cases hb
              rw [if_pos (by omega)]
              exact ⟨rfl, by omega⟩
            · cases hb
          · cases hb
        obtain ⟨hb1, hble⟩ := hb'
        obtain ⟨b1, b2⟩ := bound_sound (P := P) (code := .sliceAcap) h2 hb1 hcap
        split at hx
        · rename_i hab
          subst hab
          cases hx
          have key : ∃ ad' cap', (Instr.sliceAt t (.slice (some ⟨l.b, l.base + off * l.st, none⟩) len cap) clo chi none).run P w = .ok (.slice ad' 0 cap') w := by
            rcases b2 with ⟨_, rfl, q⟩ | ⟨cb, rfl, rb⟩ <;> rcases a2 with ⟨_, rfl, _⟩ | ⟨ca, rfl, ra⟩ <;>
              first | (subst q; simp [Instr.sliceAt, run_underlying hd, Instr.slice, Instr.sliceBounds, ti_size hE, *]) | simp [Instr.sliceAt, run_underlying hd, Instr.slice, Instr.sliceBounds, ti_size hE, *]
          obtain ⟨ad', cap', key⟩ := key
          exact ⟨_, key, .sl0 _ _ _⟩
        · rename_i hab
          split at hx
          · rename_i g' st rs hh
            split at hx
            · rename_i hc
              obtain ⟨rfl, rfl⟩ := hc
              cases hx
              obtain ⟨l', k1, k2, k3, _⟩ := s.rows _ _ _ _ hh
              rw [hl] at k1; cases k1
              refine ⟨.slice (some ⟨l.b, l.base + off * l.st + a * E.size, none⟩) (b - a) (cap - a), ?_, ?_⟩
              · have hne : ¬ cap = a := by omega
                rcases b2 with ⟨_, rfl, q⟩ | ⟨cb, rfl, rb⟩ <;> rcases a2 with ⟨_, rfl, _⟩ | ⟨ca, rfl, ra⟩ <;>
                  first | (subst q; simp [Instr.sliceAt, run_underlying hd, Instr.slice, Instr.sliceBounds, ti_size hE, add_mk, hne, *]) | simp [Instr.sliceAt, run_underlying hd, Instr.slice, Instr.sliceBounds, ti_size hE, add_mk, hne, *]
              · have := Rv.ref (w := w) (M := Mut h mu) o g' (off + a) (b - a) (cap - a) l hl hcl (by omega) (by omega) (by rw [show off + a + (cap - a) = off + cap by omega]; exact hsz)
                rw [Nat.add_mul, ← Nat.add_assoc, k3] at this
                rw [k3]; exact this
            · cases hx
          · cases hx
    · cases hh
  · rename_i e hk
    have := of_sl (hk ▸ hk'); subst this
    split at hx
    · cases hx
    rename_i E hE
    rcases h3 with ⟨_, rfl⟩ | ⟨_, _, hh, _, _⟩
    · split at hx
      · cases hx
      rename_i b hb
      split at hx
      · cases hx
      rename_i a ha
      cases hx
      cases hv with
      | emp ad =>
        obtain ⟨b1, b2⟩ := bound_sound (P := P) (code := .sliceAcap) h2 hb (Nat.zero_le _)
        obtain ⟨a1, a2⟩ := bound_sound (P := P) (code := .sliceB) h1 ha (Nat.zero_le _)
        have hb0 : b = 0 := by omega
        have ha0 : a = 0 := by omega
        subst hb0; subst ha0
        refine ⟨.slice ad 0 0, ?_, .emp _⟩
        rcases b2 with ⟨_, rfl, _⟩ | ⟨cb, rfl, rb⟩ <;> rcases a2 with ⟨_, rfl, _⟩ | ⟨ca, rfl, ra⟩ <;>
          simp [Instr.sliceAt, run_underlying hd, Instr.slice, Instr.sliceBounds, ti_size hE, *]
    · cases hh
  · rename_i e st rows m hk
    have := of_sl (hk ▸ hk'); subst this
    split at hx
    · rename_i E k1 k2 q1
      cases hx
      cases hv with
      | sl0 _ ad cap => exact zero rfl q1 h1 h2 h3 (.inl rfl) ⟨_, rfl⟩ ⟨_, rfl⟩
      | sl _ _ bb off cap vs hcap hlim g1 g2 hr g3 g4 => exact zero rfl q1 h1 h2 h3 (.inl rfl) ⟨_, rfl⟩ ⟨_, rfl⟩
    · rename_i E k0 k1 k2 q1
      cases hx
      cases hv with
      | sl0 _ ad cap => exact zero rfl q1 h1 h2 h3 (.inr ⟨_, rfl⟩) ⟨_, rfl⟩ ⟨_, rfl⟩
      | sl _ _ bb off cap vs hcap hlim g1 g2 hr g3 g4 => exact zero rfl q1 h1 h2 h3 (.inr ⟨_, rfl⟩) ⟨_, rfl⟩ ⟨_, rfl⟩
    · cases hx
  · rename_i e o g off len m hk
    have := of_sl (hk ▸ hk'); subst this
    split at hx
    · rename_i E k1 k2 q1
      cases hx
      cases hv with
      | ref _ _ _ _ cap l hl hcl hcap hlim hsz => exact zero rfl q1 h1 h2 h3 (.inl rfl) ⟨_, rfl⟩ ⟨_, rfl⟩
    · rename_i E k0 k1 k2 q1
      cases hx
      cases hv with
      | ref _ _ _ _ cap l hl hcl hcap hlim hsz => exact zero rfl q1 h1 h2 h3 (.inr ⟨_, rfl⟩) ⟨_, rfl⟩ ⟨_, rfl⟩
    · cases hx
  · rename_i e m hk
    have := of_sl (hk ▸ hk'); subst this
    split at hx
    · rename_i E k1 k2 q1
      cases hx
      cases hv with
      | emp ad => exact zero rfl q1 h1 h2 h3 (.inl rfl) ⟨_, rfl⟩ ⟨_, rfl⟩
    · rename_i E k0 k1 k2 q1
      cases hx
      cases hv with
      | emp ad => exact zero rfl q1 h1 h2 h3 (.inr ⟨_, rfl⟩) ⟨_, rfl⟩ ⟨_, rfl⟩
    · cases hx
  · cases hx
end
end Go.Am
