/- Chapter 26, plain: Add. -/
import Derived.Test.YtplndonhhfflhaaRdP1
namespace Go.Am
open Go
set_option linter.unusedVariables false
set_option linter.unusedSimpArgs false
set_option maxRecDepth 100000

abbrev Srt (l : List Status) : Prop := l.Pairwise (fun a b => ltS a b = true)
def ins (l : List Status) (s : Status) : List Status := l.filter (fun x => ltS x s) ++ s :: l.filter (fun x => ltS s x)
def addS (many : Int) (l : List Status) (s : Status) : List Status × Int := if valid many l && valid many [s] then (ins l s, 0) else ([], 260)

theorem wrapU {n : Int} (h1 : 0 ≤ n) (h2 : n < 18446744073709551616) : IntKind.wrap .u64 n = n := by
  have : IntKind.wrap .u64 n = n % 18446744073709551616 := by
    unfold IntKind.wrap
    first | rfl | (simp [IntKind.bits, IntKind.signed]) | skip
  rw [this]; omega
/-- A sorted list at a status: what is ahead, and the rest. -/
theorem split_at {l : List Status} (h : Srt l) (s : Status) : ∃ A B, l = A ++ B ∧ (∀ x ∈ A, ltS x s = true) ∧ (∀ x ∈ B, ltS x s = false) := by
  induction l with
  | nil => exact ⟨[], [], rfl, (fun x hx => by cases hx), (fun x hx => by cases hx)⟩
  | cons a l ih =>
    unfold Srt at h
    rw [List.pairwise_cons] at h
    obtain ⟨A, B, e, h1, h2⟩ := ih h.2
    cases hc : ltS a s with
    | true => exact ⟨a :: A, B, by rw [e]; rfl, (fun x hx => by
        rcases List.mem_cons.1 hx with rfl | hx
        · exact hc
        · exact h1 x hx), h2⟩
    | false =>
      refine ⟨[], a :: l, rfl, (fun x hx => by cases hx), fun x hx => ?_⟩
      rcases List.mem_cons.1 hx with rfl | hx
      · exact hc
      · cases hq : ltS x s with
        | false => rfl
        | true => rw [ltS_trans (h.1 x hx) hq] at hc; cases hc
def dropEq (s : Status) : List Status → List Status
  | [] => []
  | b :: r => if ltS s b then b :: r else r
def hitEq (s : Status) : List Status → Bool
  | [] => false
  | b :: _ => !ltS s b
theorem ins_split {A B : List Status} {s : Status} (h : Srt (A ++ B)) (h1 : ∀ x ∈ A, ltS x s = true) (h2 : ∀ x ∈ B, ltS x s = false) :
    ins (A ++ B) s = A ++ s :: dropEq s B := by
  unfold ins
  rw [List.filter_append, List.filter_append, List.filter_eq_self.2 h1, List.filter_eq_nil_iff.2 (fun x hx => by rw [h2 x hx]; exact Bool.false_ne_true), List.append_nil,
    (List.filter_eq_nil_iff (l := A)).2 (fun x hx => by rw [ltS_asymm (h1 x hx)]; exact Bool.false_ne_true), List.nil_append]
  congr 2
  cases B with
  | nil => rfl
  | cons b r =>
    have hp : ∀ x ∈ r, ltS b x = true := by
      have := (List.pairwise_append.1 h).2.1
      rw [List.pairwise_cons] at this
      exact this.1
    cases hc : ltS s b with
    | true =>
      simp only [dropEq, hc, if_true]
      refine List.filter_eq_self.2 fun x hx => ?_
      rcases List.mem_cons.1 hx with rfl | hx
      · exact hc
      · exact ltS_trans hc (hp x hx)
    | false =>
      simp only [dropEq, Bool.false_eq_true, if_false, List.filter_cons, hc]
      refine List.filter_eq_self.2 fun x hx => ?_
      have h3 := h2 b List.mem_cons_self
      have h4 := hp x hx
      have h5 : ¬ ltS b s = true := by rw [h3]; exact Bool.false_ne_true
      have h6 : ¬ ltS s b = true := by rw [hc]; exact Bool.false_ne_true
      rw [ltS_iff] at *; omega

theorem bs_loop {A B : List Status} {s : Status} (h1 : ∀ x ∈ A, ltS x s = true) (h2 : ∀ x ∈ B, ltS x s = false) (hl : (A ++ B).length ≤ 1048576) : ∀ (n i j : Nat), j - i ≤ n → i ≤ A.length → A.length ≤ j → j ≤ (A ++ B).length →
    loop (un2 fun i j => slices_BinarySearchFunc_Status_order_b1 (A ++ B) s i j) ((i : Int), (j : Int)) = .ok (A.length : Int)
  | n, i, j, hn, hi, hj, hjl => by
    rw [loop_eq]
    show (slices_BinarySearchFunc_Status_order_b1 (A ++ B) s i j).bind _ = _
    rw [slices_BinarySearchFunc_Status_order_b1.eq_1 (A ++ B) s (i : Int) (j : Int)]
    by_cases hij : (i : Int) < (j : Int)
    · rw [if_pos hij]
      have e1 : IntKind.wrap .i64 (Int.fdiv (IntKind.wrap .u64 (IntKind.wrap .i64 ((i : Int) + (j : Int)))) 2) = (((i + j) / 2 : Nat) : Int) := by
        rw [wrap64 (n := (i : Int) + (j : Int)) (by omega) (by omega), wrapU (by omega) (by omega)]
        have : Int.fdiv ((i : Int) + (j : Int)) 2 = (((i + j) / 2 : Nat) : Int) := by
          rw [Int.fdiv_eq_ediv_of_nonneg _ (by omega)]; omega
        rw [this, wrap64 (by omega) (by omega)]
      rw [e1]
      have hm : (i + j) / 2 < (A ++ B).length := by omega
      obtain ⟨x, hx⟩ : ∃ x, (A ++ B)[(i + j) / 2]? = some x := ⟨_, List.getElem?_eq_getElem hm⟩
      rw [idx_nat hx]
      simp only [R.ok_bind, order_eq]
      cases n with
      | zero => omega
      | succ n =>
      by_cases hA : (i + j) / 2 < A.length
      · have hlt : ltS x s = true := h1 x (by rw [List.getElem?_append_left hA] at hx; exact List.mem_of_getElem? hx)
        have : cmpS x s < 0 := by unfold cmpS; rw [if_pos hlt]; omega
        rw [if_pos this]
        simp only [R.ok_bind]
        have e2 : IntKind.wrap .i64 ((((i + j) / 2 : Nat) : Int) + 1) = (((i + j) / 2 + 1 : Nat) : Int) := by rw [wrap64 (by omega) (by omega)]; omega
        rw [e2]
        exact bs_loop h1 h2 hl n ((i + j) / 2 + 1) j (by omega) (by omega) hj hjl
      · have hlt : ltS x s = false := h2 x (by rw [List.getElem?_append_right (by omega)] at hx; exact List.mem_of_getElem? hx)
        have : ¬ cmpS x s < 0 := by unfold cmpS; rw [hlt]; simp only [Bool.false_eq_true, if_false]; split <;> omega
        rw [if_neg this]
        simp only [R.ok_bind]
        exact bs_loop h1 h2 hl n i ((i + j) / 2) (by omega) hi (by omega) (by omega)
    · rw [if_neg hij]
      simp only [R.ok_bind]
      have : i = A.length := by omega
      subst this; rfl
theorem get_mid {A : List Status} {b : Status} {r : List Status} : (A ++ b :: r)[A.length]? = some b := by
  rw [List.getElem?_append_right (Nat.le_refl _)]; simp
theorem bs_eq {A B : List Status} {s : Status} (h1 : ∀ x ∈ A, ltS x s = true) (h2 : ∀ x ∈ B, ltS x s = false) (hl : (A ++ B).length ≤ 1048576) :
    slices_BinarySearchFunc_Status_order (A ++ B) s = .ok ((A.length : Int), hitEq s B) := by
  unfold slices_BinarySearchFunc_Status_order
  have := bs_loop h1 h2 hl (A ++ B).length 0 (A ++ B).length (by omega) (by omega) (by simp) (Nat.le_refl _)
  rw [show ((0 : Nat) : Int) = 0 from rfl] at this
  rw [this, R.ok_bind]
  unfold slices_BinarySearchFunc_Status_order_j1
  cases B with
  | nil =>
    have : decide ((A.length : Int) < (((A ++ []) : List Status).length : Int)) = false := by simp
    rw [this]; rfl
  | cons b r =>
    have : decide ((A.length : Int) < (((A ++ b :: r) : List Status).length : Int)) = true := by simp; omega
    rw [this, if_pos rfl, idx_nat (get_mid (A := A) (b := b) (r := r))]
    simp only [R.ok_bind, order_eq]
    have hb := h2 b List.mem_cons_self
    unfold cmpS
    simp only [hitEq]
    rw [hb]
    cases ltS s b <;> rfl
theorem chk1 {many : Int} {s : Status} : radar_Check many [s] = .ok (chk many [s]) ∧ ref26_Check many [s] = .ok (chk many [s]) := Check_eq many [s] (by simp)
theorem Add_eq (many : Int) (l : List Status) (s : Status) (hl : l.length ≤ 1048570) : radar_Add many l s = .ok (addS many l s) := by
  unfold radar_Add
  rw [(Check_eq many l (by omega)).1, R.ok_bind, chk_bne]
  unfold addS
  cases hv : valid many l with
  | false => unfold chk; rw [hv]; rfl
  | true =>
    simp only [Bool.not_true, Bool.false_eq_true, if_false, Bool.true_and]
    rw [chk1.1, R.ok_bind, chk_bne]
    cases hv1 : valid many [s] with
    | false => unfold chk; rw [hv1]; rfl
    | true =>
      simp only [Bool.not_true, Bool.false_eq_true, if_false, if_true]
      have hs : Srt l := (valid_iff.1 hv).2.2
      unfold slices_Clone_Status
      rw [if_pos (by simp only [LIM]; omega), R.ok_bind]
      obtain ⟨A, B, rfl, h1, h2⟩ := split_at hs s
      rw [bs_eq h1 h2 (by omega), R.ok_bind, ins_split hs h1 h2]
      cases B with
      | nil =>
        simp only [hitEq, dropEq, Bool.false_eq_true, if_false]
        unfold slices_Insert_25 slicesInsert
        rw [if_pos (by simp [LIM]; simp at hl; omega)]
        simp
      | cons b r =>
        cases hc : ltS s b with
        | true =>
          simp only [hitEq, dropEq, hc, Bool.not_true, Bool.false_eq_true, if_false, if_true]
          unfold slices_Insert_25 slicesInsert
          rw [if_pos (by simp [LIM]; simp at hl; omega)]
          simp
        | false =>
          simp only [hitEq, dropEq, hc, Bool.not_false, if_true, Bool.false_eq_true, if_false]
          rw [idx_nat (get_mid (A := A) (b := b) (r := r)), R.ok_bind]
          simp
theorem ref_loop {A B : List Status} {s : Status} (h1 : ∀ x ∈ A, ltS x s = true) (h2 : ∀ x ∈ B, ltS x s = false) (hl : (A ++ B).length ≤ 1048576) : ∀ (n m : Nat), m + n = A.length →
    loop (fun n => ref26_Add_b1 (A ++ B) s n) (m : Int) = .ok (A.length : Int)
  | n, m, hm => by
    rw [loop_eq]
    rw [ref26_Add_b1.eq_1 (A ++ B) s (m : Int)]
    unfold ref26_Add_j1
    simp only [List.length_append] at hl
    by_cases hlt : m < (A ++ B).length
    · have : decide ((m : Int) < ((A ++ B).length : Int)) = true := by simp at hlt ⊢; omega
      rw [this, if_pos rfl]
      obtain ⟨x, hx⟩ : ∃ x, (A ++ B)[m]? = some x := ⟨_, List.getElem?_eq_getElem hlt⟩
      rw [idx_nat hx]
      simp only [R.ok_bind, before_eq]
      cases n with
      | zero =>
        have : ltS x s = false := h2 x (by rw [List.getElem?_append_right (by omega)] at hx; exact List.mem_of_getElem? hx)
        rw [this]
        have : m = A.length := by omega
        subst this; rfl
      | succ n =>
        have : ltS x s = true := h1 x (by rw [List.getElem?_append_left (by omega)] at hx; exact List.mem_of_getElem? hx)
        rw [this]
        simp only [if_true, R.ok_bind]
        rw [wrap64 (by omega) (by omega)]
        exact ref_loop h1 h2 (by simpa using hl) n (m + 1) (by omega)
    · have : decide ((m : Int) < ((A ++ B).length : Int)) = false := by simp at hlt ⊢; omega
      rw [this]
      simp only [Bool.false_eq_true, if_false, R.ok_bind]
      have : m = A.length := by simp at hlt; omega
      subst this; rfl
theorem ref_Add_eq (many : Int) (l : List Status) (s : Status) (hl : l.length ≤ 1048570) : ref26_Add many l s = .ok (addS many l s) := by
  unfold ref26_Add
  rw [(Check_eq many l (by omega)).2, R.ok_bind, chk_bne]
  unfold addS
  cases hv : valid many l with
  | false => rfl
  | true =>
    simp only [Bool.not_true, Bool.false_eq_true, if_false, Bool.true_and]
    rw [chk1.2, R.ok_bind, chk_bne]
    cases hv1 : valid many [s] with
    | false => rfl
    | true =>
      simp only [Bool.not_true, R.ok_bind, Bool.false_eq_true, if_false, if_true]
      have hs : Srt l := (valid_iff.1 hv).2.2
      obtain ⟨A, B, rfl, h1, h2⟩ := split_at hs s
      have := ref_loop h1 h2 (by omega) A.length 0 (by omega)
      rw [show ((0 : Nat) : Int) = 0 from rfl] at this
      rw [this, R.ok_bind, ins_split hs h1 h2]
      unfold ref26_Add_j5 ref26_Add_j4 ref26_Add_j3 ref26_Add_j2
      simp only [List.length_append] at hl
      cases B with
      | nil =>
        have : decide ((A.length : Int) < (((A ++ []) : List Status).length : Int)) = false := by simp
        rw [this]
        simp [LIM, dropEq]
        rw [if_pos (by omega), if_pos (by omega), if_pos (by omega)]
      | cons b r =>
        have : decide ((A.length : Int) < (((A ++ b :: r) : List Status).length : Int)) = true := by simp; omega
        rw [this, if_pos rfl, idx_nat (get_mid (A := A) (b := b) (r := r))]
        simp only [R.ok_bind, before_eq]
        simp only [List.length_cons] at hl
        cases hc : ltS s b with
        | true =>
          simp [LIM, dropEq, hc]
          repeat rw [if_pos (by omega)]
        | false =>
          have e1 : IntKind.wrap .i64 ((A.length : Int) + 1) = ((A.length + 1 : Nat) : Int) := by rw [wrap64 (by omega) (by omega)]; omega
          rw [e1]
          simp only [Bool.not_false, if_true, Int.toNat_natCast]
          rw [if_pos (by simp; omega), if_pos (by simp; omega), if_pos (by simp [LIM]; omega), if_pos (by simp [LIM]; omega), if_pos (by simp [LIM]; omega)]
          simp [dropEq, hc]
/-- What is in it. -/
theorem mem_ins {l : List Status} {s x : Status} : x ∈ ins l s ↔ x = s ∨ (x ∈ l ∧ ¬ (x.Station = s.Station ∧ x.From = s.From)) := by
  unfold ins
  simp only [List.mem_append, List.mem_filter, List.mem_cons]
  constructor
  · rintro (⟨h1, h2⟩ | rfl | ⟨h1, h2⟩)
    · rw [ltS_iff] at h2; exact .inr ⟨h1, by omega⟩
    · exact .inl rfl
    · rw [ltS_iff] at h2; exact .inr ⟨h1, by omega⟩
  · rintro (rfl | ⟨h1, h2⟩)
    · exact .inr (.inl rfl)
    · by_cases hc : ltS x s = true
      · exact .inl ⟨h1, hc⟩
      · refine .inr (.inr ⟨h1, ?_⟩)
        rw [ltS_iff] at *; omega
theorem srt_ins {l : List Status} {s : Status} (h : Srt l) : Srt (ins l s) := by
  unfold ins Srt
  rw [List.pairwise_append]
  refine ⟨h.filter _, ?_, ?_⟩
  · rw [List.pairwise_cons]
    exact ⟨fun x hx => (List.mem_filter.1 hx).2, h.filter _⟩
  · intro a ha b hb
    have h1 := (List.mem_filter.1 ha).2
    rcases List.mem_cons.1 hb with rfl | hb
    · exact h1
    · exact ltS_trans h1 (List.mem_filter.1 hb).2
theorem valid_ins {many : Int} {l : List Status} {s : Status} (h : valid many l = true) (hs : valid many [s] = true) : valid many (ins l s) = true := by
  rw [valid_iff] at *
  refine ⟨h.1, fun x hx => ?_, srt_ins h.2.2⟩
  rcases mem_ins.1 hx with rfl | hx
  · exact hs.2.1 _ List.mem_cons_self
  · exact h.2.1 x hx.1
theorem len_ins (l : List Status) (s : Status) : (ins l s).length ≤ l.length + l.length + 1 := by
  unfold ins
  have h1 := List.length_filter_le (fun x => ltS x s) l
  have h2 := List.length_filter_le (fun x => ltS s x) l
  simp only [List.length_append, List.length_cons]; omega
end Go.Am
