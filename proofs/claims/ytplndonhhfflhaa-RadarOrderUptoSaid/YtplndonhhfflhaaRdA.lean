/- The arguments, read as content. Written by args.py. -/
import Derived.Test.YtplndonhhfflhaaRdW1
import Derived.Test.YtplndonhhfflhaaRdG
import Derived.Test.YtplndonhhfflhaaRows
import Derived.KernelRfl
namespace Go.Proofs.Ytplndonhhfflhaa.laws
open Go Go.Am Go.ChangeShapes Go.WideShapes Go.ChangeAt Go.RowKit
set_option maxRecDepth 100000
set_option linter.unusedVariables false
set_option linter.unusedSimpArgs false

theorem own : ownKnob Try.prog.godebug = none := by kernel_rfl
theorem laidOut : laidOutB Try.prog = true := by kernel_rfl
theorem rd3 : Try.prog.readableRec 3 = true ∧ 3 < Try.prog.types.size := by decide +kernel
theorem rd22 : Try.prog.readableRec 22 = true ∧ 22 < Try.prog.types.size := by decide +kernel
theorem rd24 : Try.prog.readableRec 24 = true ∧ 24 < Try.prog.types.size := by decide +kernel
theorem rd35 : Try.prog.readableRec 35 = true ∧ 35 < Try.prog.types.size := by decide +kernel
theorem rd38 : Try.prog.readableRec 38 = true ∧ 38 < Try.prog.types.size := by decide +kernel
theorem bulkLaws {H : Type} : Bulk (H := H) Rows.uptoBulk Rows.uptoBulkAll := ⟨fun d => by cases d with | lit l => cases l <;> simp [Rows.uptoBulk] | _ => simp [Rows.uptoBulk], fun l => by simp [Rows.uptoBulk], fun e s => by simp only [Rows.uptoBulk]; omega, fun l => by simp [Rows.uptoBulk], by simp [Rows.uptoBulkAll], fun d l => by simp [Rows.uptoBulkAll]⟩
theorem on3 : Opens Try.prog 3 (tInt .i64) := opens_int Try.underlying3
theorem on4 : Opens Try.prog 4 tBool := opens_bool Try.underlying4
theorem on24 : Opens Try.prog 24 tStatus := opens_st (T := (tPair (tInt .i64) (tPair (tInt .i64) (tPair tBool tUnit)))) (tot := 3) Try.underlying24 (by kernel_rfl) (fo_cons (c := 1) rfl rfl (by kernel_rfl) rfl on3 (fo_cons (c := 1) rfl rfl (by kernel_rfl) rfl on3 (fo_cons (c := 1) rfl rfl (by kernel_rfl) rfl on4 (fo_nil rfl)))) (fun p => ⟨p.1, p.2.1, p.2.2.1⟩) (fun _ => rfl) (fun _ h => h) (fun _ => Nat.le_refl _)
theorem on22 : Opens Try.prog 22 (tSl 3 tStatus) := opens_sl Try.underlying22 (by kernel_rfl) (by decide) (fun a => ok_Status a) on24
theorem on36 : Opens Try.prog 36 (tSl 1 (tInt .i64)) := opens_sl Try.underlying36 (by kernel_rfl) (by decide) (fun a => ok_I a) on3
theorem on38 : Opens Try.prog 38 tStation := opens_st (T := (tPair (tSl 1 (tInt .i64)) (tPair (tInt .i64) (tPair (tInt .i64) tUnit)))) (tot := 3) Try.underlying38 (by kernel_rfl) (fo_cons (c := 1) rfl rfl (by kernel_rfl) rfl on36 (fo_cons (c := 1) rfl rfl (by kernel_rfl) rfl on3 (fo_cons (c := 1) rfl rfl (by kernel_rfl) rfl on3 (fo_nil rfl)))) (fun p => ⟨p.1, p.2.1, p.2.2.1⟩) (fun _ => rfl) (fun _ h => h) (fun _ => Nat.le_refl _)
theorem on35 : Opens Try.prog 35 (tSl 3 tStation) := opens_sl Try.underlying35 (by kernel_rfl) (by decide) (fun a => ok_Station a) on38
end Go.Proofs.Ytplndonhhfflhaa.laws
