/- Names: a definition that is renamed is missed. First part: lists. -/
import Derived.Test.YtjpafocobkhciaaNmP5
namespace Go.Am
open Go
set_option linter.unusedVariables false
set_option linter.unusedSimpArgs false
set_option maxRecDepth 100000

theorem nodup_set {l : List Str} {i : Nat} {N : Str} (h : l.Nodup) (hN : N ∉ l) : (l.set i N).Nodup := by
  induction l generalizing i with
  | nil => simp
  | cons a l ih =>
    rw [List.nodup_cons] at h
    simp only [List.mem_cons, not_or] at hN
    cases i with
    | zero => rw [List.set_cons_zero, List.nodup_cons]; exact ⟨hN.2, h.2⟩
    | succ i =>
      rw [List.set_cons_succ, List.nodup_cons]
      refine ⟨fun hm => ?_, ih h.2 hN.2⟩
      rcases List.mem_or_eq_of_mem_set hm with hm | e
      · exact h.1 hm
      · exact hN.1 e.symm
theorem gone_set {l : List Str} {i : Nat} {N x : Str} (h : l.Nodup) (hi : l[i]? = some x) (hN : N ≠ x) : x ∉ l.set i N := by
  induction l generalizing i with
  | nil => simp at hi
  | cons a l ih =>
    rw [List.nodup_cons] at h
    cases i with
    | zero =>
      simp only [List.getElem?_cons_zero, Option.some.injEq] at hi
      subst hi
      rw [List.set_cons_zero, List.mem_cons, not_or]
      exact ⟨fun e => hN e.symm, h.1⟩
    | succ i =>
      have hi' : l[i]? = some x := by simpa using hi
      rw [List.set_cons_succ, List.mem_cons, not_or]
      exact ⟨fun e => h.1 (e ▸ List.mem_of_getElem? hi'), ih h.2 hi'⟩
/-- The names together, each with a letter behind it. -/
def joined (l : List Str) (x : Str) : Str := l.foldl (fun x a => x ++ (a ++ [120])) x
theorem joined_len : ∀ (l : List Str) (x : Str), x.length + (l.map fun a => a.length + 1).sum = (joined l x).length
  | [], x => by simp [joined]
  | a :: l, x => by
    have := joined_len l (x ++ (a ++ [120]))
    simp only [joined, List.foldl_cons] at this ⊢
    rw [← this]
    simp only [List.map_cons, List.sum_cons, List.length_append, List.length_cons, List.length_nil]
    omega
theorem joined_lt {l : List Str} {a x : Str} (h : a ∈ l) : a.length + x.length < (joined l x).length := by
  rw [← joined_len]
  have : a.length + 1 ≤ (l.map fun a => a.length + 1).sum := by
    induction l with
    | nil => cases h
    | cons b l ih =>
      simp only [List.map_cons, List.sum_cons]
      rcases List.mem_cons.1 h with rfl | h
      · omega
      · have := ih h; omega
  omega
theorem joined_le (l : List Str) (x : Str) : x.length ≤ (joined l x).length := by rw [← joined_len]; omega
theorem eachS_joined {α : Type} {b : Nat → α → Str → R Str} {g : α → Str} (hb : ∀ j a x, b j a x = if (g a).length + [120].length ≤ 9223372036854775807 then (if x.length + (g a ++ [120]).length ≤ 9223372036854775807 then .ok (x ++ (g a ++ [120])) else .bad) else .bad) :
    ∀ (l : List α) (k : Nat) (x : Str), (joined (l.map g) x).length ≤ 9223372036854775807 → eachS b k l x = .ok (joined (l.map g) x)
  | [], k, x, _ => rfl
  | a :: l, k, x, h => by
    have h1 := joined_le (l.map g) (x ++ (g a ++ [120]))
    have h2 : joined ((a :: l).map g) x = joined (l.map g) (x ++ (g a ++ [120])) := rfl
    rw [h2] at h
    rw [eachS_cons', hb, if_pos (by simp at h1 ⊢; omega), if_pos (by simp at h1 ⊢; omega), R.ok_bind, eachS_joined hb l (k + 1) _ h, h2]
end Go.Am
