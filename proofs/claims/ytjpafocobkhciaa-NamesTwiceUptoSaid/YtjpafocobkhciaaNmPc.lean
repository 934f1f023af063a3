/- Names: what is compared with itself is the same; what all the laws ask first. -/
import Derived.Test.YtjpafocobkhciaaNmP1
namespace Go.Am
open Go
set_option linter.unusedVariables false
set_option linter.unusedSimpArgs false
set_option maxRecDepth 100000

/-! ### compared with itself -/
theorem sameInts_self (l : List Int) : ref08_SameInts l l = .ok true := by
  unfold ref08_SameInts
  rw [if_neg (by simp), each_all l 0 fun j x hx => by simp [ref08_SameInts_b1, idx_nat hx]]
  rfl
theorem sameNames_self (l : List Str) : ref08_SameNames l l = .ok true := by
  unfold ref08_SameNames
  rw [if_neg (by simp), each_all l 0 fun j x hx => by simp [ref08_SameNames_b1, idx_nat hx]]
  rfl
theorem sameSpans_self (l : List Span) : ref08_SameSpans l l = .ok true := by
  unfold ref08_SameSpans
  rw [if_neg (by simp), each_all l 0 fun j x hx => by simp [ref08_SameSpans_b1, idx_nat hx]]
  rfl
theorem same_self (a : Airspace) : ref08_Same a a = .ok true := by
  unfold ref08_Same
  rw [if_neg (by simp)]
  rw [each_all a.Volumes 0 fun j x hx => by simp [ref08_Same_b1, idx_nat hx, sameSpans_self, ref08_Same_j1]]
  simp only [R.ok_bind]
  rw [alt_inl, each_all a.Sectors 0 fun j x hx => by simp [ref08_Same_b2, idx_nat hx, sameNames_self, sameInts_self]]
  simp only [R.ok_bind]
  rw [alt_inl, each_all a.Configs 0 fun j x hx => by simp [ref08_Same_b3, idx_nat hx, sameNames_self, sameInts_self]]
  simp only [R.ok_bind]
  rw [alt_inl, each_all a.Segments 0 fun j x hx => by simp [ref08_Same_b4, idx_nat hx, sameSpans_self]]
  simp only [R.ok_bind]
  rw [alt_inl, each_all a.Routes 0 fun j x hx => by simp [ref08_Same_b5, idx_nat hx, sameNames_self, sameInts_self]]
  simp only [R.ok_bind]
  rw [alt_inl, each_all a.Airports 0 fun j x hx => by
    simp only [ref08_Same_b7, Nat.zero_add, idx_nat hx, R.ok_bind]
    rw [if_neg (by simp), each_all x.Modes 0 fun i y hy => by simp [ref08_Same_b6, idx_nat hy]]
    rfl]
  simp only [R.ok_bind]
  rw [alt_inl, each_all a.Classes 0 fun j x hx => by simp [ref08_Same_b8, idx_nat hx]]
  simp only [R.ok_bind]
  rw [alt_inl, each_all a.Rules 0 fun j x hx => by simp [ref08_Same_b9, idx_nat hx]]
  rfl
theorem few_some (a : Airspace) : ∃ b, ref09_Few a = .ok b := by
  unfold ref09_Few
  split
  · exact ⟨_, rfl⟩
  · obtain ⟨n1, h1⟩ := eachS_some (b := fun _ a1 => fun n => ref09_Few_b1 a1 n) (fun _ a n => ⟨_, rfl⟩) a.Sectors 0 _
    rw [h1, R.ok_bind]
    obtain ⟨n2, h2⟩ := eachS_some (b := fun _ a1 => fun n => ref09_Few_b2 a1 n) (fun _ a n => ⟨_, rfl⟩) a.Configs 0 n1
    rw [h2, R.ok_bind]
    obtain ⟨n3, h3⟩ := eachS_some (b := fun _ a1 => fun n => ref09_Few_b3 a1 n) (fun _ a n => ⟨_, rfl⟩) a.Routes 0 n2
    rw [h3, R.ok_bind]
    obtain ⟨n4, h4⟩ := eachS_some (b := fun _ a1 => fun n => ref09_Few_b4 a1 n) (fun _ a n => ⟨_, rfl⟩) a.Airports 0 n3
    rw [h4]
    exact ⟨_, rfl⟩
theorem sane_true : law09_sane = .ok true := by decide +kernel
end Go.Am
