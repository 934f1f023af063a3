/- Names: Volume, Airport and Class find what the reference finds. -/
import Derived.Test.YtjpafocobkhciaaNmP3
namespace Go.Am
open Go
set_option linter.unusedVariables false
set_option linter.unusedSimpArgs false
set_option maxRecDepth 100000

def foundIn (l : List Str) (x : Str) : Int × Bool := match pos l x with | some i => ((i : Int), true) | none => (0, false)
theorem found_eq (l : List Str) (x : Str) : ref09_found (posI l x) = .ok (foundIn l x) := by
  unfold ref09_found posI foundIn
  cases pos l x with
  | none => rfl
  | some i => simp only []; rw [if_neg (by omega)]
theorem names_Volume_eq (a : Airspace) (x : Str) : names_Volume a x = .ok (foundIn (vs a) x) := by
  unfold names_Volume names_find_Volume_volume slices_IndexFunc_Volume_c1_volume
  rw [each_find (g := (·.Name)) (x := x) (fun j a => by simp [slices_IndexFunc_Volume_c1_volume_b1, names_find_Volume_c1_volume, names_volume]) a.Volumes 0]
  unfold foundIn vs
  cases pos (a.Volumes.map (·.Name)) x with
  | none => rfl
  | some i => simp only [R.ok_bind, alt_inr]; rw [if_neg (by omega)]; simp
theorem names_Airport_eq (a : Airspace) (x : Str) : names_Airport a x = .ok (foundIn (ps a) x) := by
  unfold names_Airport names_find_Airport_airport slices_IndexFunc_Airport_c1_airport
  rw [each_find (g := (·.Name)) (x := x) (fun j a => by simp [slices_IndexFunc_Airport_c1_airport_b1, names_find_Airport_c1_airport, names_airport]) a.Airports 0]
  unfold foundIn ps
  cases pos (a.Airports.map (·.Name)) x with
  | none => rfl
  | some i => simp only [R.ok_bind, alt_inr]; rw [if_neg (by omega)]; simp
theorem names_Class_eq (a : Airspace) (x : Str) : names_Class a x = .ok (foundIn (ks a) x) := by
  unfold names_Class names_find_Class_class slices_IndexFunc_Class_c1_class
  rw [each_find (g := (·.Name)) (x := x) (fun j a => by simp [slices_IndexFunc_Class_c1_class_b1, names_find_Class_c1_class, names_class]) a.Classes 0]
  unfold foundIn ks
  cases pos (a.Classes.map (·.Name)) x with
  | none => rfl
  | some i => simp only [R.ok_bind, alt_inr]; rw [if_neg (by omega)]; simp
theorem law_NamesFindSpec : Law_NamesFindSpec := by
  intro a b _ _ hb
  have hs := small_of (Nat.le_trans (Nat.le_add_right _ _) hb)
  have hL : ∀ n : Nat, n ≤ 4000000 → n * 16 ≤ LIM := fun n hn => Nat.le_trans (Nat.mul_le_mul_right _ hn) (by decide)
  unfold law09_NamesFindSpec
  rw [sane_true]
  obtain ⟨q, hf⟩ := few_some a
  rw [R.ok_bind, if_pos rfl, hf, R.ok_bind]
  cases q
  · rfl
  rw [if_pos rfl, eachS_app (g := (·.Name)) (c := 16) (fun j a s => by simp [law09_NamesFindSpec_b1]) a.Volumes 0 [b] (hL _ (by have := hs.v; simp; omega)), R.ok_bind,
    eachS_app (g := (·.Name)) (c := 16) (fun j a s => by simp [law09_NamesFindSpec_b2]) a.Classes 0 _ (hL _ (by have := hs.v; have := hs.k; simp; omega)), R.ok_bind,
    eachS_app (g := (·.Name)) (c := 16) (fun j a s => by simp [law09_NamesFindSpec_b3]) a.Airports 0 _ (hL _ (by have := hs.v; have := hs.k; have := hs.p; simp; omega)), R.ok_bind,
    each_keep _ 0 fun j x hx => by
      simp only [law09_NamesFindSpec_b4, Nat.zero_add, idx_nat hx, R.ok_bind]
      simp [names_Volume_eq, names_Airport_eq, names_Class_eq, ref09_Volume, ref09_Airport, ref09_Class, volumes_eq a (hL _ (by have := hs.v; omega)), airports_eq a (hL _ (by have := hs.p; omega)), classes_eq a (hL _ (by have := hs.k; omega)), find_eq, found_eq]]
  rfl
end Go.Am
