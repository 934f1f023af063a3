/- Maps with keys that are numbers, texts or booleans. -/
import Derived.Test.YtplndonhhfflhaaAmLits2
import Derived.MapKept
namespace Go.Am
open Go
set_option linter.unusedSimpArgs false
set_option linter.unusedVariables false
set_option linter.unusedSectionVars false

def aKeyEq : TK → AV → AV → Option Bool
  | .int _, .int k a, .int k' b => if k = k' then some (a == b) else none
  | .str, .str a, .str b => some (a == b)
  | .bool, .bool a, .bool b => some (a == b)
  | _, _, _ => none
def aFind (t : TK) (k : AV) : List (AV × AV) → Nat → Option (Option (Nat × AV))
  | [], _ => some none
  | e :: es, i => match aKeyEq t k e.1 with
    | some true => some (some (i, e.2))
    | some false => aFind t k es (i + 1)
    | none => none
def keyOk : TK → AV → Bool
  | .int k, .int k' _ => decide (k' = k)
  | .str, .str _ => true
  | .bool, .bool _ => true
  | _, _ => false
def aMapOf (h : AHeap) : AV → Option (List (AV × AV))
  | .mnil => some []
  | .map o g => match h o with
    | some (.mp g' es) => if g' = g then some es else none
    | _ => none
  | _ => none
def aLookup (P : Program) (h : AHeap) (t : TypeId) (m k : AV) (ok : Bool) : Option AV :=
  match ti P t with
  | some T => match T.k with
    | .map kt et => match ti P kt, ti P et, aMapOf h m with
      | some KT, some ET, some es =>
        if keyOk KT.k k = true then match aFind KT.k k es 0 with
          | some (some (_, v)) => some (if ok then .tup [v, .bool true] else v)
          | some none => match rdAt ET.z 0 ET.size ET.k.agg with
            | some v => some (if ok then .tup [v, .bool false] else v)
            | none => none
          | none => none
        else none
      | _, _, _ => none
    | _ => none
  | none => none
def aMapUpdate (P : Program) (h : AHeap) (t : TypeId) (m k v : AV) : Option AHeap :=
  match ti P t with
  | some T => match T.k with
    | .map kt _ => match ti P kt, m with
      | some KT, .map o g => match h o with
        | some (.mp g' es) => if g' = g ∧ keyOk KT.k k = true then match aFind KT.k k es 0 with
            | some (some (i, _)) => some (upd h o (some (.mp g (es.set i (k, v)))))
            | some none => some (upd h o (some (.mp g (es ++ [(k, v)]))))
            | none => none
          else none
        | _ => none
      | _, _ => none
    | _ => none
  | none => none
def aNewMap (h : AHeap) (K : AV → AHeap → Prop) : Prop := ∃ o, h o = none ∧ ∀ g, K (.map o g) (upd h o (some (.mp g [])))

section
variable {P : Program} [GW P] {B : Base P} {h : AHeap} {mu : Mu} {w : World}

theorem keyEq_sound {T : TK} {d : TypeDesc} (hd : T = TK.of d) {k e : AV} {ck ce : Value} {b : Bool} (hk : RV h mu w k ck) (he : RV h mu w e ce) (hx : aKeyEq T k e = some b) :
    Instr.sameNow d ck ce = some b ∧ (b = true → Instr.sameBits 10000 ce ck = true) ∧ (b = true ↔ ce = ck) := by
  unfold aKeyEq at hx
  split at hx
  · rename_i _ a a1 _ a2
    obtain rfl := of_int hd
    cases hk; cases he
    split at hx
    · rename_i hkk
      subst hkk
      cases hx
      refine ⟨by simp [Instr.sameNow], fun hb => ?_, ⟨fun e => by simp only [beq_iff_eq] at e; rw [e], fun e => by injection e with _ e; simp [e]⟩⟩
      simp only [beq_iff_eq] at hb
      subst hb
      simp [Instr.sameBits]
    · cases hx
  · rename_i a1 a2
    obtain rfl := of_str hd
    cases hk; cases he
    cases hx
    have hb : ((⟨a1.toArray⟩ : ByteArray) == (⟨a2.toArray⟩ : ByteArray)) = (a1 == a2) := by
      cases hq : (a1 == a2) with
      | true => rw [beq_iff_eq] at hq; subst hq; exact (MapKept.bytes_beq _ _).2 rfl
      | false =>
        cases hq2 : ((⟨a1.toArray⟩ : ByteArray) == (⟨a2.toArray⟩ : ByteArray)) with
        | false => rfl
        | true =>
          have := (MapKept.bytes_beq _ _).1 hq2
          injection this with this
          have : a1 = a2 := by simpa using this
          subst this; simp at hq
    refine ⟨by simp [Instr.sameNow, hb], fun h => ?_, ⟨fun e => by simp only [beq_iff_eq] at e; rw [e], fun e => by have h1 : a2.toArray = a1.toArray := congrArg ByteArray.data (Value.string.inj e); rw [show a2 = a1 by simpa using h1]; simp⟩⟩
    simp only [beq_iff_eq] at h
    subst h
    simp only [Instr.sameBits]
    exact (MapKept.bytes_beq _ _).2 rfl
  · rename_i a1 a2
    obtain rfl := of_bool hd
    cases hk; cases he
    cases hx
    refine ⟨by simp [Instr.sameNow], fun h => ?_, ⟨fun e => by simp only [beq_iff_eq] at e; rw [e], fun e => by injection e with e; simp [e]⟩⟩
    simp only [beq_iff_eq] at h
    subst h
    simp [Instr.sameBits]
  · cases hx

def EsRv (h : AHeap) (mu : Mu) (w : World) (es : List (AV × AV)) (ens : List MapEntry) : Prop := es.length = ens.length ∧ ∀ i, i < es.length → RV h mu w (es.getD i (.und, .und)).1 (ens.getD i default).key ∧ RV h mu w (es.getD i (.und, .und)).2 (ens.getD i default).val
theorem EsRv.cons {x : AV × AV} {es : List (AV × AV)} {ens : List MapEntry} (hh : EsRv h mu w (x :: es) ens) : ∃ y ys, ens = y :: ys ∧ RV h mu w x.1 y.key ∧ RV h mu w x.2 y.val ∧ EsRv h mu w es ys := by
  obtain ⟨h1, h2⟩ := hh
  cases ens with
  | nil => simp at h1
  | cons y ys =>
    have h0 := h2 0 (by simp)
    refine ⟨y, ys, rfl, by simpa using h0.1, by simpa using h0.2, by simpa using h1, fun i hi => ?_⟩
    have := h2 (i + 1) (by simpa using hi)
    simpa using this

theorem find_sound {T : TK} {d : TypeDesc} (hd : T = TK.of d) {k : AV} {ck : Value} (hk : RV h mu w k ck) : ∀ (es : List (AV × AV)) (ens : List MapEntry) (i : Nat) {r : Option (Nat × AV)}, EsRv h mu w es ens → aFind T k es i = some r →
    match r with
    | none => Instr.findNow d ck ens i = some none ∧ ∀ x ∈ ens, x.key ≠ ck
    | some (j, v) => ∃ e n, j = i + n ∧ ens[n]? = some e ∧ Instr.findNow d ck ens i = some (some (j, e.val)) ∧ RV h mu w v e.val ∧ n < es.length ∧ Instr.sameBits 10000 e.key ck = true ∧ e.key = ck
  | [], ens, i, r, hh, hx => by
    have : ens = [] := by have := hh.1; cases ens <;> simp_all
    subst this
    simp [aFind] at hx
    subst hx
    exact ⟨rfl, fun x hx => by cases hx⟩
  | x :: es, ens, i, r, hh, hx => by
    obtain ⟨y, ys, rfl, h1, h2, h3⟩ := hh.cons
    unfold aFind at hx
    cases hq : aKeyEq T k x.1 with
    | none => rw [hq] at hx; cases hx
    | some b =>
      rw [hq] at hx
      obtain ⟨k1, k2, k3⟩ := keyEq_sound hd hk h1 hq
      cases b with
      | true =>
        cases hx
        exact ⟨y, 0, rfl, rfl, by simp [Instr.findNow, k1], h2, by simp, k2 rfl, k3.1 rfl⟩
      | false =>
        have := find_sound hd hk es ys (i + 1) h3 hx
        cases r with
        | none =>
          simp only at this ⊢
          refine ⟨by simp [Instr.findNow, k1, this.1], fun x hx => ?_⟩
          rcases List.mem_cons.1 hx with rfl | hx
          · intro e; have := k3.2 e; cases this
          · exact this.2 x hx
        | some p =>
          obtain ⟨j, v⟩ := p
          obtain ⟨e, n, q1, q2, q3, q4, q5, q6, q7⟩ := this
          exact ⟨e, n + 1, by omega, by simpa using q2, by simp [Instr.findNow, k1, q3], q4, by simpa using q5, q6, q7⟩

theorem checkKey_sound {kt : TypeId} {KT : TI} (hT : ti P kt = some KT) {k : AV} {ck : Value} (hk : RV h mu w k ck) (ho : keyOk KT.k k = true) (e : Bool) : (Instr.checkKey e 10000 kt ck).run P w = .ok () w := by
  obtain ⟨d, hd, hdk⟩ := ti_und hT
  unfold keyOk at ho
  have : MapKept.IsKey d ck := by
    split at ho <;> (try cases ho)
    · rename_i hq; rw [hq] at hdk; obtain rfl := of_int hdk
      cases hk
      simpa [MapKept.IsKey] using ho
    · rename_i hq; rw [hq] at hdk; obtain rfl := of_str hdk
      cases hk
      simp [MapKept.IsKey]
    · rename_i hq; rw [hq] at hdk; obtain rfl := of_bool hdk
      cases hk
      simp [MapKept.IsKey]
  exact MapKept.run_checkKey hd this e 9999

theorem zero_sound {et : TypeId} {ET : TI} (hT : ti P et = some ET) {v : AV} (hx : rdAt ET.z 0 ET.size ET.k.agg = some v) : ∃ c, (zeroValue et).run P w = .ok c w ∧ RV h mu w v c := by
  obtain ⟨z, h1, h2, h3, h4, h5⟩ := ti_zero hT
  obtain ⟨a1, a2⟩ := avList_rv (w := w) (mu := mu) (M := Mut h mu) h2
  refine ⟨z, h1 w, ?_⟩
  unfold rdAt at hx
  cases hagg : ET.k.agg with
  | true =>
    rw [hagg] at hx
    simp only [if_true, Nat.zero_add] at hx
    split at hx
    · cases hx
      rw [h4 hagg]
      have : (ET.z.drop 0).take ET.size = ET.z := by simp [← h5]
      rw [this]
      have := Rv.agg (w := w) (mu := mu) (M := Mut h mu) ET.z z.cells.toList a1 a2
      simpa using this
    · cases hx
  | false =>
    rw [hagg] at hx
    simp only [Bool.false_eq_true, if_false] at hx
    split at hx
    · rename_i hlt
      cases hx
      have hone := h3 hagg
      have hc : z.cells.toList = [z] := by cases z <;> simp_all [Value.oneCell', Value.cells]
      have := a2 0 hlt
      rw [hc] at this
      simpa using this
    · cases hx

theorem getD_toList {es : Array MapEntry} (i : Nat) : es.toList.getD i default = es.getD i default := by simp [Array.getD_eq_getD_getElem?, List.getD]

theorem mapOf_sound (s : Sim B mu h w) {m : AV} {c : Value} {es : List (AV × AV)} (hm : RV h mu w m c) (hx : aMapOf h m = some es) :
    ∃ ens : Array MapEntry, ((c = .map none ∧ ens = #[]) ∨ ∃ r clock, c = .map (some r) ∧ w.heap[r]? = some (.map ens clock)) ∧ EsRv h mu w es ens.toList := by
  unfold aMapOf at hx
  split at hx
  · cases hx; cases hm
    exact ⟨#[], .inl ⟨rfl, rfl⟩, rfl, fun i hi => by simp at hi⟩
  · split at hx
    · rename_i hh
      split at hx
      · rename_i hg
        subst hg
        cases hx
        cases hm with
        | map _ _ l hl hc =>
          obtain ⟨l', k1, k2, ens, clock, k3, k4, k5⟩ := s.maps _ _ _ hh
          rw [hl] at k1; cases k1
          exact ⟨ens, .inr ⟨_, clock, rfl, k3.1⟩, by simpa using k4, fun i hi => by rw [getD_toList]; exact k5 i hi⟩
      · cases hx
    · cases hx
  · cases hx

theorem lookup_sound (s : Sim B mu h w) {t : TypeId} {m k v : AV} {cm ck : Value} {ok : Bool} (hm : RV h mu w m cm) (hk : RV h mu w k ck) (hx : aLookup P h t m k ok = some v) :
    ∃ c, (Instr.lookup t cm ck ok).run P w = .ok c w ∧ RV h mu w v c := by
  unfold aLookup at hx
  split at hx
  · rename_i T hT
    split at hx
    · rename_i kt et hTk
      split at hx
      · rename_i KT ET es hKT hET hes
        split at hx
        · rename_i hok
          obtain ⟨d, hd, hdk⟩ := ti_und hT
          rw [hTk] at hdk
          obtain rfl := of_map hdk
          obtain ⟨kd, hkd, hkdk⟩ := ti_und hKT
          obtain ⟨ens, r1, r2⟩ := mapOf_sound s hm hes
          have hck := fun e => checkKey_sound (P := P) hKT hk hok e
          have hpair : ∀ {x : AV} {c : Value} (b : Bool), RV h mu w x c → RV h mu w (if ok then .tup [x, .bool b] else x) (if ok then .tuple #[c, .bool b] else c) := by
            intro x c b hxc
            cases ok with
            | false => simpa using hxc
            | true =>
              have := Rv.tup (w := w) (mu := mu) (M := Mut h mu) [x, .bool b] [c, .bool b] rfl (fun i hi => by
                match i, hi with
                | 0, _ => simpa using hxc
                | 1, _ => simpa using Rv.bool b)
              simpa using this
          split at hx
          · rename_i j v' hf
            cases hx
            obtain ⟨e, n, q1, q2, q3, q4, q5, q6, q7⟩ := find_sound hkdk hk es ens.toList 0 r2 hf
            refine ⟨_, ?_, hpair true q4⟩
            unfold Instr.lookup
            simp only [Sem.run_bind, run_underlying hd, Result.andThen_ok]
            rcases r1 with ⟨rfl, rfl⟩ | ⟨r, clock, rfl, hr⟩
            · simp at q2
            · simp only [Sem.run_bind, MapKept.run_getObj_map hr, Result.andThen_ok, hck, MapKept.run_findKey hkd q3, Sem.run_pure]
          · rename_i hf
            have hfn := find_sound hkdk hk es ens.toList 0 r2 hf
            simp only at hfn
            replace hfn := hfn.1
            split at hx
            · rename_i z hz
              cases hx
              obtain ⟨c, c1, c2⟩ := zero_sound (w := w) (h := h) (mu := mu) hET hz
              refine ⟨_, ?_, hpair false c2⟩
              unfold Instr.lookup
              simp only [Sem.run_bind, run_underlying hd, Result.andThen_ok]
              rcases r1 with ⟨rfl, rfl⟩ | ⟨r, clock, rfl, hr⟩
              · simp only [Sem.run_bind, Result.andThen_ok, hck, MapKept.run_findKey hkd hfn, c1, Sem.run_pure]
              · simp only [Sem.run_bind, MapKept.run_getObj_map hr, Result.andThen_ok, hck, MapKept.run_findKey hkd hfn, c1, Sem.run_pure]
            · cases hx
          · cases hx
        · cases hx
      · cases hx
    · cases hx
  · cases hx

/-- A new map. -/
theorem newMap_sound (s : Sim B mu h w) {K : AV → AHeap → Prop} (hK : aNewMap h K) : ∃ v c h' mu' w', (do pure (.map (some (← newObj (.map #[] 0)))) : Sem Value).run P w = .ok c w' ∧ RV h' mu' w' v c ∧ K v h' ∧ Sim B mu' h' w' ∧ EXT h mu w h' mu' w' := by
  obtain ⟨o, ho, hK⟩ := hK
  obtain ⟨g, hg⟩ := s.fresh o
  refine ⟨.map o g, .map (some w.heap.size), upd h o (some (.mp g [])), upd2 mu o g ⟨w.heap.size, 0, 0, 0, false⟩, w.alloc (.map #[] 0), rfl, ?_, hK g, ?_⟩
  · exact .map o g ⟨w.heap.size, 0, 0, 0, false⟩ (by simp [upd2]) rfl
  have hmu : ∀ o' g' l, mu o' g' = some l → upd2 mu o g ⟨w.heap.size, 0, 0, 0, false⟩ o' g' = some l := by
    intro o' g' l hl
    unfold upd2
    rw [if_neg]
    · exact hl
    · rintro ⟨rfl, rfl⟩; rw [hg] at hl; cases hl
  have hinv : ∀ o' g' l, upd2 mu o g ⟨w.heap.size, 0, 0, 0, false⟩ o' g' = some l → (o' = o ∧ g' = g ∧ l = ⟨w.heap.size, 0, 0, 0, false⟩) ∨ mu o' g' = some l := by
    intro o' g' l hl
    unfold upd2 at hl
    split at hl
    · rename_i hh; cases hl; exact .inl ⟨hh.1, hh.2, rfl⟩
    · exact .inr hl
  have hlive : ∀ o' x, upd h o (some (.mp g [])) o' = some x → (o' = o ∧ x = .mp g []) ∨ (o' ≠ o ∧ h o' = some x) := by
    intro o' x hx
    unfold upd at hx
    split at hx
    · cases hx; exact .inl ⟨‹_›, rfl⟩
    · exact .inr ⟨‹_›, hx⟩
  have hlt : ∀ {o' g' l}, mu o' g' = some l → l.b < w.heap.size := fun hl => (s.muOk _ _ _ hl).2.1
  have hM : ∀ b, b < w.heap.size → ¬ Mut h mu b → ¬ Mut (upd h o (some (.mp g []))) (upd2 mu o g ⟨w.heap.size, 0, 0, 0, false⟩) b := by
    rintro b hb hn ⟨o', x, l, hx, hl, rfl⟩
    rcases hinv _ _ _ hl with ⟨_, _, rfl⟩ | hl'
    · simp at hb
    · rcases hlive _ _ hx with ⟨rfl, rfl⟩ | ⟨_, hx'⟩
      · simp only [AO.gen] at hl'; rw [hg] at hl'; cases hl'
      · exact hn ⟨o', x, l, hx', hl', rfl⟩
  have ext : EXT h mu w (upd h o (some (.mp g []))) (upd2 mu o g ⟨w.heap.size, 0, 0, 0, false⟩) (w.alloc (.map #[] 0)) :=
    ⟨rfl, rfl, rfl, by rw [alloc_size]; omega, fun b hb hn => ⟨heap_push_lt hb, hM b hb hn⟩, hmu⟩
  refine ⟨⟨?_, ?_, ?_, ?_, ?_, ?_, ?_, s.globE ext, fun o' g' x hx => by
    rcases hlive _ _ hx with ⟨rfl, hx'⟩ | ⟨hne, hx'⟩
    · cases hx'
    · obtain ⟨l, h1, h2, h3⟩ := s.blks _ _ _ hx'
      exact ⟨l, hmu _ _ _ h1, h2, by rw [heap_push_lt (hlt h1)]; exact h3⟩⟩, ext⟩
  · rw [alloc_size]; exact Nat.le_succ_of_le s.base
  · intro o' g' l hl
    rcases hinv _ _ _ hl with ⟨_, _, rfl⟩ | hl'
    · exact ⟨s.base, by rw [alloc_size]; simp, fun hh => by simp at hh⟩
    · obtain ⟨h1, h2, h3⟩ := s.muOk _ _ _ hl'
      refine ⟨h1, by rw [alloc_size]; omega, fun hcc => ?_⟩
      rw [heap_push_lt h2]; exact h3 hcc
  · obtain ⟨N, hN⟩ := s.fin
    refine ⟨max N (g + 1), fun o' g' hle => ?_⟩
    unfold upd2
    rw [if_neg (by omega)]
    exact hN _ _ (by omega)
  · obtain ⟨N, hN⟩ := s.finh
    refine ⟨max N (o + 1), fun o' hle => ?_⟩
    unfold upd
    rw [if_neg (by omega)]
    exact hN _ (by omega)
  · intro o' g' st' rs' hx
    rcases hlive _ _ hx with ⟨rfl, hx'⟩ | ⟨hne, hx'⟩
    · cases hx'
    · obtain ⟨l, h1, h2, h3, h4, h5, h6⟩ := s.rows _ _ _ _ hx'
      refine ⟨l, hmu _ _ _ h1, h2, h3, h4, h5, fun i j hi hj => ?_⟩
      obtain ⟨c, hc1, hc2⟩ := h6 i j hi hj
      refine ⟨c, ?_, hc2.ext ext⟩
      rw [cell?_of_heap (w := w) (a := ⟨l.b, l.base + i * st' + j, none⟩) (heap_push_lt (hlt h1))]; exact hc1
  · intro o' g' es hx
    rcases hlive _ _ hx with ⟨rfl, hx'⟩ | ⟨hne, hx'⟩
    · cases hx'
      exact ⟨⟨w.heap.size, 0, 0, 0, false⟩, by simp [upd2], rfl, #[], 0, ⟨heap_push_eq, MapKept.stamped_empty 0⟩, rfl, fun i hi => by simp at hi⟩
    · obtain ⟨l, h1, h2, ens, clock, h3, h4, h5⟩ := s.maps _ _ _ hx'
      exact ⟨l, hmu _ _ _ h1, h2, ens, clock, by rw [heap_push_lt (hlt h1)]; exact h3, h4, fun i hi => ⟨(h5 i hi).1.ext ext, (h5 i hi).2.ext ext⟩⟩
  · intro o1 o2 x1 x2 l1 l2 hx1 hx2 hl1 hl2 hbb
    rcases hlive _ _ hx1 with ⟨rfl, rfl⟩ | ⟨hne1, hx1'⟩ <;> rcases hlive _ _ hx2 with ⟨rfl, rfl⟩ | ⟨hne2, hx2'⟩
    · rfl
    · rcases hinv _ _ _ hl1 with ⟨_, _, rfl⟩ | hl1'
      · rcases hinv _ _ _ hl2 with ⟨e2, _, _⟩ | hl2'
        · exact e2.symm
        · have := hlt hl2'; simp at hbb; omega
      · simp only [AO.gen] at hl1'; rw [hg] at hl1'; cases hl1'
    · rcases hinv _ _ _ hl2 with ⟨_, _, rfl⟩ | hl2'
      · rcases hinv _ _ _ hl1 with ⟨e2, _, _⟩ | hl1'
        · exact e2
        · have := hlt hl1'; simp at hbb; omega
      · simp only [AO.gen] at hl2'; rw [hg] at hl2'; cases hl2'
    · rcases hinv _ _ _ hl1 with ⟨e1, _, _⟩ | hl1'
      · exact absurd e1 hne1
      · rcases hinv _ _ _ hl2 with ⟨e2, _, _⟩ | hl2'
        · exact absurd e2 hne2
        · exact s.inj _ _ _ _ _ _ hx1' hx2' hl1' hl2' hbb

/-- A map's block is written. -/
theorem Sim.putMap {w' : World} (s : Sim B mu h w) {o g : Nat} {es es' : List (AV × AV)} {l : Loc} {ens : Array MapEntry} {clock : Nat}
    (hx : h o = some (.mp g es)) (hl : mu o g = some l) (hlc : l.cells = false) (hb : ∃ x, w.heap[l.b]? = some x ∧ (∃ a c, x = .map a c)) (hw : w' = { w with heap := w.heap.setIfInBounds l.b (.map ens clock) }) (hst : MapKept.Stamped ens clock)
    (he : es'.length = ens.size) (hc : ∀ i, i < es'.length → RV h mu w (es'.getD i (.und, .und)).1 (ens.getD i default).key ∧ RV h mu w (es'.getD i (.und, .und)).2 (ens.getD i default).val) :
    Sim B mu (upd h o (some (.mp g es'))) w' ∧ EXT h mu w (upd h o (some (.mp g es'))) mu w' := by
  obtain ⟨x0, hb0, x1, x2, hx0⟩ := hb
  subst hx0
  have hset := MapKept.heap_set (o' := .map ens clock) hb0
  have hblk : w'.heap[l.b]? = some (.map ens clock) := by rw [hw]; exact hset.1
  have hother : ∀ b, b ≠ l.b → w'.heap[b]? = w.heap[b]? := fun b hne => by rw [hw]; exact hset.2 b hne
  have hsize : w'.heap.size = w.heap.size := by rw [hw]; simp
  have hlive : ∀ o1 x, upd h o (some (.mp g es')) o1 = some x → (o1 = o ∧ x = .mp g es') ∨ (o1 ≠ o ∧ h o1 = some x) := by
    intro o1 x h1
    unfold upd at h1
    split at h1
    · cases h1; exact .inl ⟨‹_›, rfl⟩
    · exact .inr ⟨‹_›, h1⟩
  have hMl : Mut h mu l.b := ⟨o, _, l, hx, hl, rfl⟩
  have hM : ∀ b, ¬ Mut h mu b → ¬ Mut (upd h o (some (.mp g es'))) mu b := by
    rintro b hn ⟨o1, x, l1, h1, h2, rfl⟩
    rcases hlive _ _ h1 with ⟨rfl, rfl⟩ | ⟨_, h1'⟩
    · exact hn ⟨_, _, _, hx, h2, rfl⟩
    · exact hn ⟨_, _, _, h1', h2, rfl⟩
  have ext : EXT h mu w (upd h o (some (.mp g es'))) mu w' :=
    ⟨by rw [hw], by rw [hw], by rw [hw], by rw [hsize]; exact Nat.le_refl _, fun b _ hb => ⟨hother b (fun e => hb (e ▸ hMl)), hM b hb⟩, fun _ _ _ h => h⟩
  have hnb : ∀ {o1 x l1}, o1 ≠ o → h o1 = some x → mu o1 x.gen = some l1 → l1.b ≠ l.b := fun hne h1 h2 hb => hne (s.inj _ _ _ _ _ _ h1 hx h2 hl hb)
  refine ⟨⟨by rw [hsize]; exact s.base, ?_, s.fin, ?_, ?_, ?_, ?_, s.globE ext, fun o1 g1 x h1 => by
    rcases hlive _ _ h1 with ⟨rfl, h1'⟩ | ⟨hne, h1'⟩
    · cases h1'
    · obtain ⟨l1, k1, k2, k3⟩ := s.blks _ _ _ h1'
      exact ⟨l1, k1, k2, by rw [hother _ (hnb hne h1' k1)]; exact k3⟩⟩, ext⟩
  · intro o1 g1 l1 h1
    obtain ⟨k1, k2, k3⟩ := s.muOk _ _ _ h1
    refine ⟨k1, by rw [hsize]; exact k2, fun hcc => ?_⟩
    have hbb : l1.b ≠ l.b := by
      intro hbb
      obtain ⟨c1, e1, f1, q1, _⟩ := k3 hcc
      rw [hbb, hb0] at q1; cases q1
    rw [hother _ hbb]; exact k3 hcc
  · obtain ⟨N, hN⟩ := s.finh
    refine ⟨max N (o + 1), fun o' hle => ?_⟩
    unfold upd
    rw [if_neg (by omega)]
    exact hN _ (by omega)
  · intro o1 g1 st1 rs1 h1
    rcases hlive _ _ h1 with ⟨rfl, h1'⟩ | ⟨hne, h1'⟩
    · cases h1'
    · obtain ⟨l1, k1, k2, k3, k4, k5, k6⟩ := s.rows _ _ _ _ h1'
      refine ⟨l1, k1, k2, k3, k4, k5, fun i j hi hj => ?_⟩
      obtain ⟨c, hc1, hc2⟩ := k6 i j hi hj
      refine ⟨c, ?_, hc2.ext ext⟩
      rw [cell?_of_heap (w := w) (w' := w') (a := ⟨l1.b, l1.base + i * st1 + j, none⟩) (hother _ (hnb hne h1' k1))]; exact hc1
  · intro o1 g1 es1 h1
    rcases hlive _ _ h1 with ⟨rfl, h1'⟩ | ⟨hne, h1'⟩
    · cases h1'
      exact ⟨l, hl, hlc, ens, clock, ⟨hblk, hst⟩, he, fun i hi => ⟨(hc i hi).1.ext ext, (hc i hi).2.ext ext⟩⟩
    · obtain ⟨l1, k1, k2, ens1, clock1, k3, k4, k5⟩ := s.maps _ _ _ h1'
      exact ⟨l1, k1, k2, ens1, clock1, by rw [hother _ (hnb hne h1' k1)]; exact k3, k4, fun i hi => ⟨(k5 i hi).1.ext ext, (k5 i hi).2.ext ext⟩⟩
  · intro o1 o2 x1 x2 l1 l2 h1 h2 q1 q2 hbb
    rcases hlive _ _ h1 with ⟨rfl, rfl⟩ | ⟨n1, a1⟩ <;> rcases hlive _ _ h2 with ⟨rfl, rfl⟩ | ⟨n2, a2⟩
    · rfl
    · simp only [AO.gen] at q1; rw [hl] at q1; cases q1; exact absurd hbb.symm (hnb n2 a2 q2)
    · simp only [AO.gen] at q2; rw [hl] at q2; cases q2; exact absurd hbb (hnb n1 a1 q1)
    · exact s.inj _ _ _ _ _ _ a1 a2 q1 q2 hbb

theorem mapUpdate_sound (s : Sim B mu h w) {t : TypeId} {m k v : AV} {cm ck cv : Value} {h' : AHeap} (hm : RV h mu w m cm) (hk : RV h mu w k ck) (hv : RV h mu w v cv) (hx : aMapUpdate P h t m k v = some h') :
    ∃ w', (Instr.mapUpdate t cm ck cv).run P w = .ok () w' ∧ Sim B mu h' w' ∧ EXT h mu w h' mu w' := by
  unfold aMapUpdate at hx
  split at hx
  · rename_i T hT
    split at hx
    · rename_i kt et hTk
      split at hx
      · rename_i KT o g hKT
        split at hx
        · rename_i g' es hh
          split at hx
          · rename_i hc
            obtain ⟨rfl, hok⟩ := hc
            obtain ⟨d, hd, hdk⟩ := ti_und hT
            rw [hTk] at hdk
            obtain rfl := of_map hdk
            obtain ⟨kd, hkd, hkdk⟩ := ti_und hKT
            have hck := checkKey_sound (P := P) hKT hk hok false
            cases hm with
            | map _ _ l hl hlc =>
              obtain ⟨l', k1, k2, ens, clock, k3, k4, k5⟩ := s.maps _ _ _ hh
              rw [hl] at k1; cases k1
              have r2 : EsRv h mu w es ens.toList := ⟨by simpa using k4, fun i hi => by rw [getD_toList]; exact k5 i hi⟩
              split at hx
              · rename_i j v' hf
                cases hx
                obtain ⟨e, n, q1, q2, q3, q4, q5, q6, q7⟩ := find_sound hkdk hk es ens.toList 0 r2 hf
                have hjn : j = n := by omega
                subst hjn
                have hn : ens[j]? = some e := by simpa using q2
                refine ⟨{ w with heap := w.heap.setIfInBounds l.b (.map (ens.modify j fun e => { e with key := ck, val := cv }) clock) }, ?_, ?_⟩
                · unfold Instr.mapUpdate
                  simp only [Sem.run_bind, run_underlying hd, Result.andThen_ok, MapKept.run_getObj_map k3.1, hck, MapKept.run_findKey hkd q3, hn, Option.map_some, Option.getD_some, Instr.keyThatStays, q6, if_true, Sem.run_pure, MapKept.run_setObj_map _ k3.1]
                · refine Sim.putMap s hh hl hlc ⟨_, k3.1, _, _, rfl⟩ rfl (MapKept.stamped_modify k3.2 _ _ (fun _ _ => rfl) (fun e' _ he' => by rw [hn] at he'; cases he'; exact q7.symm)) (by simp [k4]) (fun i hi => ?_)
                  have hi' : i < es.length := by simpa using hi
                  have hie : i < ens.size := by omega
                  by_cases hij : i = j
                  · subst hij
                    rw [show (es.set i (k, v)).getD i (.und, .und) = (k, v) by simp [List.getD, hi']]
                    rw [show (ens.modify i fun e => { e with key := ck, val := cv }).getD i default = { e with key := ck, val := cv } by simp [Array.getD_eq_getD_getElem?, Array.getElem?_modify, hn]]
                    exact ⟨hk, hv⟩
                  · rw [show (es.set j (k, v)).getD i (.und, .und) = es.getD i (.und, .und) by simp [List.getD, List.getElem?_set_ne (Ne.symm hij)]]
                    rw [show (ens.modify j fun e => { e with key := ck, val := cv }).getD i default = ens.getD i default by simp [Array.getD_eq_getD_getElem?, Array.getElem?_modify, Ne.symm hij]]
                    exact k5 i hi'
              · rename_i hf
                cases hx
                have hfn := find_sound hkdk hk es ens.toList 0 r2 hf
                simp only at hfn
                obtain ⟨hfn, hnk⟩ := hfn
                refine ⟨{ w with heap := w.heap.setIfInBounds l.b (.map (ens.push { key := ck, val := cv, born := clock }) (clock + 1)) }, ?_, ?_⟩
                · unfold Instr.mapUpdate
                  simp only [Sem.run_bind, run_underlying hd, Result.andThen_ok, MapKept.run_getObj_map k3.1, hck, MapKept.run_findKey hkd hfn, MapKept.run_setObj_map _ k3.1]
                · refine Sim.putMap s hh hl hlc ⟨_, k3.1, _, _, rfl⟩ rfl (MapKept.stamped_push k3.2 hnk) (by simp [k4]) (fun i hi => ?_)
                  have hi' : i < es.length + 1 := by simpa using hi
                  by_cases hij : i = es.length
                  · subst hij
                    rw [show (es ++ [(k, v)]).getD es.length (.und, .und) = (k, v) by simp [List.getD]]
                    rw [show (ens.push { key := ck, val := cv, born := clock }).getD es.length default = { key := ck, val := cv, born := clock } by simp [Array.getD_eq_getD_getElem?, k4]]
                    exact ⟨hk, hv⟩
                  · have hlt : i < es.length := by omega
                    rw [show (es ++ [(k, v)]).getD i (.und, .und) = es.getD i (.und, .und) by simp [List.getD, List.getElem?_append_left hlt]]
                    rw [show (ens.push { key := ck, val := cv, born := clock }).getD i default = ens.getD i default by simp [Array.getD_eq_getD_getElem?, Array.getElem?_push, show i ≠ ens.size by omega]]
                    exact k5 i hlt
              · cases hx
          · cases hx
        · cases hx
      · cases hx
    · cases hx
  · cases hx
end
end Go.Am
