/- Names: what Volume, Airport and Class find. -/
import Derived.Test.YtjpafocobkhciaaNmP1
namespace Go.Am
open Go
set_option linter.unusedVariables false
set_option linter.unusedSimpArgs false
set_option maxRecDepth 100000

def foundIn (l : List Str) (x : Str) : Int × Bool := match pos l x with | some i => ((i : Int), true) | none => (0, false)
theorem names_Volume_eq (a : Airspace) (x : Str) : names_Volume a x = .ok (foundIn (vs a) x) := by
  unfold names_Volume names_find_Volume_volume slices_IndexFunc_Volume_c1
  rw [each_find (g := (·.Name)) (x := x) (fun j a => by simp [slices_IndexFunc_Volume_c1_b1, names_find_Volume_c1, names_volume]) a.Volumes 0]
  unfold foundIn vs
  cases pos (a.Volumes.map (·.Name)) x with
  | none => rfl
  | some i => simp only [R.ok_bind, alt_inr]; rw [if_neg (by omega)]; simp
theorem names_Airport_eq (a : Airspace) (x : Str) : names_Airport a x = .ok (foundIn (ps a) x) := by
  unfold names_Airport names_find_Airport_airport slices_IndexFunc_Airport_c1
  rw [each_find (g := (·.Name)) (x := x) (fun j a => by simp [slices_IndexFunc_Airport_c1_b1, names_find_Airport_c1, names_airport]) a.Airports 0]
  unfold foundIn ps
  cases pos (a.Airports.map (·.Name)) x with
  | none => rfl
  | some i => simp only [R.ok_bind, alt_inr]; rw [if_neg (by omega)]; simp
theorem names_Class_eq (a : Airspace) (x : Str) : names_Class a x = .ok (foundIn (ks a) x) := by
  unfold names_Class names_find_Class_class slices_IndexFunc_Class_c1
  rw [each_find (g := (·.Name)) (x := x) (fun j a => by simp [slices_IndexFunc_Class_c1_b1, names_find_Class_c1, names_class]) a.Classes 0]
  unfold foundIn ks
  cases pos (a.Classes.map (·.Name)) x with
  | none => rfl
  | some i => simp only [R.ok_bind, alt_inr]; rw [if_neg (by omega)]; simp
end Go.Am
