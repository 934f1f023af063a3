/- lex: the chapter's lexer. -/
import Derived.Test.YtomgekeihfaohaaDoorLxP3
namespace Go.Am
open Go
set_option linter.unusedVariables false
set_option linter.unusedSimpArgs false
theorem index_tw (c : UInt8) : ∀ (l : Str), Lib.indexByte l c = if (l.takeWhile (· != c)).length = l.length then -1 else ((l.takeWhile (· != c)).length : Int)
  | [] => rfl
  | a :: l => by
    have ih := index_tw c l
    have hle := tw_le (· != c) l
    rw [Lib.indexByte, List.takeWhile_cons]
    by_cases h : a = c
    · subst h; simp
    · have h1 : (a != c) = true := bne_iff_ne.2 h
      have h2 : (a == c) = false := by simpa using h
      rw [ih, h1]
      simp only [h2, Bool.false_eq_true, if_false, if_true, List.length_cons, Nat.add_right_cancel_iff]
      by_cases hq : (l.takeWhile (· != c)).length = l.length
      · simp [hq]
      · simp only [hq, if_false]
        have : ¬ (((l.takeWhile (· != c)).length : Int) < 0) := by omega
        simp [this]
        try omega
theorem beq_dec {α : Type} [BEq α] [LawfulBEq α] [DecidableEq α] (a b : α) : (a == b) = decide (a = b) := by
  by_cases h : a = b <;> simp [h]
def oneSign : Str → Bool
  | [c] => isSign c
  | _ => false
def validTok (t : Token) : Bool := if t.Kind == 1 then nameOk t.Text && (t.N == 0) else if t.Kind == 2 then (t.Text == []) && decide (t.N ≥ 0) && decide (t.N ≤ 1099511627776) else if t.Kind == 3 then oneSign t.Text && (t.N == 0) else false
theorem len1 (s : Str) : ((s.length : Int) == 1) = (s.length == 1) := by
  rw [beq_dec, beq_dec, decide_eq_decide]; omega
theorem sign1 (s : Str) {f : Int → R Bool} (hf : ∀ c : UInt8, f (c.toNat : Int) = .ok (isSign c)) : (if ((s.length : Int) == 1) then (idx s 0).bind fun a => f (a.toNat : Int) else R.ok false) = .ok (oneSign s) := by
  rw [len1]
  match s with
  | [] => rfl
  | [c] => simp only [List.length_singleton, beq_self_eq_true, if_true, idx_0, R.ok_bind, hf]; rfl
  | c :: d :: w => simp [oneSign]
theorem valid_eq (t : Token) : lex_valid t = .ok (validTok t) := by
  unfold lex_valid validTok
  rw [show (fun a : UInt8 => (lex_class (a.toNat : Int)).bind fun r1 => R.ok (r1 == 4)) = fun a : UInt8 => (fun n : Int => (lex_class n).bind fun r1 => R.ok (r1 == 4)) (a.toNat : Int) from rfl,
    sign1 (f := fun n : Int => (lex_class n).bind fun r1 => R.ok (r1 == 4)) t.Text (fun c => by simp only [cls_eq, R.ok_bind, cls4])]
  simp only [name_eq, R.ok_bind]
  split
  · rfl
  · split
    · rfl
    · split <;> rfl
theorem rvalid_eq (t : Token) : ref07_Valid t = .ok (validTok t) := by
  unfold ref07_Valid validTok
  rw [show (fun a : UInt8 => (ref07_Sign (a.toNat : Int)).bind fun r1 => R.ok r1) = fun a : UInt8 => (fun n : Int => (ref07_Sign n).bind fun r1 => R.ok r1) (a.toNat : Int) from rfl,
    sign1 (f := fun n : Int => (ref07_Sign n).bind fun r1 => R.ok r1) t.Text (fun c => by simp only [sign_eq, R.ok_bind])]
  simp only [rname_eq, R.ok_bind]
  split
  · rfl
  · split
    · rfl
    · split <;> rfl
theorem add_eq (text : Str) (t : Token) (src : Str) (p : Nat) (l : List Token) (hl : (l.length + 1) * 40 ≤ LIM) :
    lex_scanner_add_2 text t src p l = if validTok t then .ok (l ++ [at' p t]) else .pan ⟨42, .int .i64 p⟩ := by
  unfold lex_scanner_add_2
  rw [valid_eq, R.ok_bind]
  simp only [List.length_singleton]
  rw [if_pos hl]
  rfl
theorem itoa_nat (n : Nat) : Lib.itoa (n : Int) = Lib.decDigits n := Lib.itoa_nonneg n
theorem tw_congr {α : Type} {p q : α → Bool} (h : ∀ a, p a = q a) (l : List α) : l.takeWhile p = l.takeWhile q := by rw [show p = q from funext h]
theorem run_cls {some : List Int} {q : UInt8 → Bool} (h : ∀ c, some.contains (cls c) = q c) {src : Str} {p : Nat} {l : List Token} (hp : p ≤ src.length) (hs : src.length ≤ 65536) :
    lex_scanner_run ({ fSrc := src, fAt := p, fL := l } : T48) some = .ok ((src.drop p).takeWhile q) := by rw [run_eq src p l some hp hs, tw_congr h]

def stepRes (p : Nat) (pre : List Token) (c : UInt8) (s : Str) : R ((Int × (List Token)) ⊕ (Int × (List Token))) :=
  if isSp c then .ok (.inl (((p + 1 + (s.takeWhile isSp).length : Nat) : Int), pre))
  else match tk c s with
    | none => .pan ⟨42, .int .i64 p⟩
    | some (o, k) => .ok (.inl (((p + 1 + k : Nat) : Int), pre ++ (o.map (at' p)).toList))
theorem cls_of {c : UInt8} {v : Int} (h : (cls c == v) = true) : cls c = v := eq_of_beq h
theorem prefix_eq (s : Str) : strings_HasPrefix s [47, 47] = .ok (decide (s.take 2 = [47, 47])) := by
  unfold strings_HasPrefix internal_stringslite_HasPrefix
  by_cases h : 2 ≤ s.length
  · have h1 : (s.length : Int) ≥ (([47, 47] : Str).length : Int) := by simp; omega
    simp only [h1, decide_true, if_true]
    rw [if_pos ⟨by simp, trivial⟩]
    simp only [R.ok_bind]
    rw [beq_dec]
    rfl
  · have h1 : ¬ ((s.length : Int) ≥ (([47, 47] : Str).length : Int)) := by simp; omega
    simp only [h1, decide_false, Bool.false_eq_true, if_false, R.ok_bind]
    rw [decide_eq_false]
    intro e
    have := congrArg List.length e
    simp at this
    omega
theorem lex_round (src : Str) (hs : src.length ≤ 65536) (p : Nat) (pre : List Token) (c : UInt8) (s : Str) (h : src.drop p = c :: s) (hl : pre.length ≤ p) :
    lex_Lex_b1 src (p : Int) pre = stepRes p pre c s := by
  have hlen := len_drop h
  have hat := at_drop h
  have hlim : (pre.length + 1) * 40 ≤ LIM := by simp only [LIM]; omega
  unfold lex_Lex_b1 stepRes
  rw [if_pos (by omega), idx_str hat]
  simp only [R.ok_bind, cls_eq]
  have wr : ∀ k : Nat, k ≤ s.length → IntKind.wrap .i64 ((p : Int) + ((k + 1 : Nat) : Int)) = ((p + 1 + k : Nat) : Int) := by
    intro k hk; rw [wrap64 (by omega) (by omega)]; omega
  cases hsp : isSp c
  · simp only [Bool.false_eq_true, if_false]
    unfold tk
    simp only [hsp, Bool.false_eq_true, if_false]
    cases hle : isLet c
    · simp only [Bool.false_eq_true, if_false]
      cases hfi : isFig c
      · simp only [Bool.false_eq_true, if_false]
        cases hsi : isSign c
        · have h1 : cls c ≠ 1 := fun e => by rw [← cls1, e] at hsp; cases hsp
          have h2 : cls c ≠ 2 := fun e => by rw [← cls2, e] at hle; cases hle
          have h3 : cls c ≠ 3 := fun e => by rw [← cls3, e] at hfi; cases hfi
          have h4 : cls c ≠ 4 := fun e => by rw [← cls4, e] at hsi; cases hsi
          rcases clsR c with e | e | e | e | e | e
          · rw [e]; rfl
          · exact absurd e h1
          · exact absurd e h2
          · exact absurd e h3
          · exact absurd e h4
          · rw [e]; rfl
        · have hc : cls c = 4 := cls_of (by rw [cls4, hsi])
          rw [hc]
          simp only [show ¬ ((4 : Int) = 0) by decide, show ¬ ((4 : Int) = 1) by decide, show ¬ ((4 : Int) = 2) by decide, show ¬ ((4 : Int) = 3) by decide, if_false, if_true]
          unfold lex_scanner_sign_2
          rw [if_pos ⟨by omega, by omega⟩]
          simp only [Int.toNat_natCast]
          rw [prefix_eq, R.ok_bind, h]
          have e2 : (decide ((c :: s).take 2 = [47, 47])) = decide (c = 47 ∧ s.head? = some 47) := by
            cases s with
            | nil => simp
            | cons d w => simp
          rw [e2]
          by_cases hcom : c = 47 ∧ s.head? = some 47
          · simp only [hcom, and_self, decide_true, if_true]
            obtain ⟨rfl, hhd⟩ := hcom
            rw [if_pos ⟨by omega, by omega⟩]
            unfold strings_IndexByte
            rw [show ((10 : Int).toNat.toUInt8) = 10 from rfl, index_tw, List.takeWhile_cons, show ((47 : UInt8) != 10) = true by decide, if_pos rfl]
            have hle := tw_le (· != 10) s
            simp only [List.length_cons, Nat.add_right_cancel_iff, R.ok_bind]
            by_cases hall : (s.takeWhile (· != 10)).length = s.length
            · rw [if_pos hall, if_neg (by omega)]
              simp only [R.ok_bind, hall]
              rw [hlen]; simp
            · rw [if_neg hall, if_pos (by omega), wr _ hle]
              simp
          · simp only [hcom, decide_false, Bool.false_eq_true, if_false]
            have hw1 : IntKind.wrap .i64 ((p : Int) + 1) = ((p + 1 : Nat) : Int) := by rw [wrap64 (by omega) (by omega)]; rfl
            rw [hw1, cut_one h, if_pos ⟨by omega, by omega, by omega⟩, add_eq _ _ _ _ _ hlim]
            have hv : validTok ({ Kind := 3, Text := [c], N := 0, At := 0 } : Token) = true := by
              show oneSign [c] && true = true
              simp [oneSign, hsi]
            rw [hv]
            simp only [if_true, R.ok_bind]
            have := wr 0 (Nat.zero_le _)
            simp only [List.length_singleton]
            rw [show ((1 : Nat) : Int) = ((0 + 1 : Nat) : Int) from rfl, this]
            rfl
      · have hc : cls c = 3 := cls_of (by rw [cls3, hfi])
        rw [hc]
        simp only [show ¬ ((3 : Int) = 0) by decide, show ¬ ((3 : Int) = 1) by decide, show ¬ ((3 : Int) = 2) by decide, if_false, if_true]
        unfold lex_scanner_number_2
        rw [run_cls (q := isFig) (fun c => by rw [← cls3]; simp only [List.contains_cons, List.contains_nil, Bool.or_false]) (by omega) hs, h, List.takeWhile_cons, hfi, if_pos rfl]
        have hall : (c :: s.takeWhile isFig).all isFig = true := by rw [List.all_cons, hfi, all_tw]; rfl
        have hle := tw_le isFig s
        simp only [R.ok_bind]
        unfold strconv_Atoi
        rw [if_pos (by simp only [List.length_cons]; omega), atoi_fig (by simp) hall]
        generalize hg : c :: s.takeWhile isFig = g
        have hg1 : g ≠ [] := by rw [← hg]; simp
        rw [hg] at hall
        have hgl : g.length = (s.takeWhile isFig).length + 1 := by rw [← hg]; rfl
        by_cases hbig : 9223372036854775808 ≤ val g
        · rw [if_pos hbig]
          have : numOk g = false := by unfold numOk; rw [decide_eq_false (by omega : ¬ val g ≤ 1099511627776), Bool.and_false]
          rw [this]
          rfl
        · rw [if_neg hbig]
          simp only [R.ok_bind, Bool.false_eq_true, if_false]
          unfold strconv_Itoa
          rw [if_pos ⟨by omega, by omega⟩, itoa_nat]
          simp only [R.ok_bind]
          have hdd := dd_spec (val g)
          by_cases hpl : plain g = true
          · rw [dd_val g hg1 hall hpl]
            simp only [beq_self_eq_true, Bool.not_true, Bool.false_eq_true, if_false]
            rw [add_eq _ _ _ _ _ hlim]
            have hv : validTok ({ Kind := 2, Text := [], N := (val g : Int), At := 0 } : Token) = numOk g := by
              unfold numOk; rw [hpl]
              simp only [validTok]
              rw [if_neg (by decide), if_pos (by decide), decide_eq_true (by omega : (val g : Int) ≥ 0), Bool.true_and]
              show (true && decide ((val g : Int) ≤ 1099511627776)) = _
              rw [Bool.true_and, decide_eq_decide]
              omega
            rw [hv]
            cases numOk g
            · rfl
            · simp only [if_true, R.ok_bind]
              rw [hgl, wr _ hle]
              rfl
          · have hne : (Lib.decDigits (val g) == g) = false := by
              rw [beq_eq_false_iff_ne]; intro e; rw [e] at hdd; exact hpl hdd.2.2.2.1
            rw [hne]
            have : numOk g = false := by unfold numOk; rw [Bool.eq_false_iff.2 hpl, Bool.false_and]
            rw [this]
            rfl
    · have hc : cls c = 2 := cls_of (by rw [cls2, hle])
      rw [hc]
      simp only [show ¬ ((2 : Int) = 0) by decide, show ¬ ((2 : Int) = 1) by decide, if_false, if_true]
      unfold lex_scanner_name_2
      rw [run_cls (q := isPart) (fun c => by rw [← clsP]; simp only [List.contains_cons, List.contains_nil, Bool.or_false, Bool.or_assoc]) (by omega) hs, h, List.takeWhile_cons, let_part hle, if_pos rfl]
      simp only [R.ok_bind]
      rw [add_eq _ _ _ _ _ hlim]
      have hv : validTok ({ Kind := 1, Text := c :: s.takeWhile isPart, N := 0, At := 0 } : Token) = decide ((s.takeWhile isPart).length + 1 ≤ 32) := by
        show (nameOk (c :: s.takeWhile isPart) && true) = _
        rw [Bool.and_true]
        exact name_run hle (all_tw _ _)
      rw [hv]
      have hle' := tw_le isPart s
      by_cases hn : (s.takeWhile isPart).length + 1 ≤ 32
      · simp only [hn, decide_true, if_true, R.ok_bind, List.length_cons]
        rw [wr _ hle']
        rfl
      · simp only [hn, decide_false, Bool.false_eq_true, if_false, R.pan_bind]
  · have hc : cls c = 1 := cls_of (by rw [cls1, hsp])
    rw [hc]
    simp only [show ¬ ((1 : Int) = 0) by decide, if_false, if_true]
    unfold lex_scanner_space_2
    rw [run_cls (q := isSp) (fun c => by rw [← cls1]; simp only [List.contains_cons, List.contains_nil, Bool.or_false]) (by omega) hs, h, List.takeWhile_cons, hsp, if_pos rfl]
    simp only [R.ok_bind, List.length_cons]
    rw [wr _ (tw_le isSp s)]
def lexRes (n : Nat) (pre : List Token) : Lx → R (Int × List Token)
  | .ok l => .ok ((n : Int), pre ++ l)
  | .wrong e => .pan ⟨42, .int .i64 (e : Int)⟩
theorem lex_loop (src : Str) (hs : src.length ≤ 65536) : ∀ (n p : Nat) (pre : List Token), src.length - p ≤ n → p ≤ src.length → pre.length ≤ p →
    loop (un2 fun fAt l => lex_Lex_b1 src fAt l) ((p : Int), pre) = lexRes src.length pre (lexP (src.drop p) p) := by
  have hend : ∀ (p : Nat) (pre : List Token), src.drop p = [] → p ≤ src.length → loop (un2 fun fAt l => lex_Lex_b1 src fAt l) ((p : Int), pre) = lexRes src.length pre (lexP (src.drop p) p) := by
    intro p pre e hp
    have : src.length ≤ p := by have := congrArg List.length e; rw [List.length_drop] at this; simp at this; omega
    rw [loop_eq, e, lexP_nil]
    simp only [un2]
    unfold lex_Lex_b1
    rw [if_neg (by omega)]
    simp only [R.ok_bind, lexRes, List.append_nil]
    rw [show p = src.length by omega]
  intro n
  induction n with
  | zero => intro p pre hn hp hl; exact hend p pre (List.drop_eq_nil_of_le (by omega)) hp
  | succ n ih =>
    intro p pre hn hp hl
    cases hd : src.drop p with
    | nil => rw [← hd]; exact hend p pre hd hp
    | cons c s =>
      rw [loop_eq]
      simp only [un2]
      rw [lex_round src hs p pre c s hd hl]
      have hlen := len_drop hd
      unfold stepRes
      cases hsp : isSp c
      · simp only [Bool.false_eq_true, if_false]
        rw [lexP_cons]
        cases ht : tk c s with
        | none => rfl
        | some x =>
          obtain ⟨o, k⟩ := x
          have hk : k ≤ s.length := tk_le ht
          have hol : (o.map (at' p)).toList.length ≤ 1 := by cases o <;> simp
          have := ih (p + 1 + k) (pre ++ (o.map (at' p)).toList) (by omega) (by omega) (by rw [List.length_append]; omega)
          simp only [R.ok_bind]
          rw [← drop_more hd k] at this
          refine this.trans ?_
          cases lexP (s.drop k) (p + 1 + k) <;> simp [lexRes, Lx.add]
      · simp only [if_true, R.ok_bind]
        have hle := tw_le isSp s
        have := ih (p + 1 + (s.takeWhile isSp).length) pre (by omega) (by omega) (by omega)
        rw [← drop_more hd] at this
        refine this.trans ?_
        congr 1
        have e := lexP_sps (c :: s.takeWhile isSp) (s.drop (s.takeWhile isSp).length) p (by rw [List.all_cons, hsp, all_tw]; rfl)
        rw [drop_tw, List.cons_append, List.takeWhile_append_dropWhile, List.length_cons] at e
        rw [e, drop_tw]
        congr 1
        omega
theorem lex_eq (s : Str) : lex_Lex s = .ok (lexOut s) := by
  unfold lex_Lex lex_Lex_m lexOut
  by_cases h : s.length ≤ 65536
  · rw [if_neg (by omega), if_pos h, show ((0 : Int), ([] : List Token)) = (((0 : Nat) : Int), []) from rfl, lex_loop s h s.length 0 [] (by omega) (by omega) (by simp)]
    simp only [List.drop_zero]
    cases lexP s 0 <;> rfl
  · rw [if_pos (by omega), if_neg h]
    rfl
end Go.Am
