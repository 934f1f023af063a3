/- The arguments, read as content. Written by args.py. -/
import Derived.Test.YtomgekeihfaohaaDoorLxW2
import Derived.Test.YtomgekeihfaohaaDoorLxG
import Derived.Test.YtomgekeihfaohaaDoorRows
import Derived.KernelRfl
import Derived.Test.YtomgekeihfaohaaDoorAmCard
import Derived.Test.YtomgekeihfaohaaDoorCards
import Derived.Test.YtomgekeihfaohaaDoorTie
import Derived.SevenTiedAt
namespace Go.Proofs.YtomgekeihfaohaaDoor.laws
open Go Go.Am Go.ChangeShapes Go.WideShapes Go.ChangeAt Go.RowKit
set_option maxRecDepth 100000
set_option linter.unusedVariables false
set_option linter.unusedSimpArgs false

theorem own : ownKnob Tryd.prog.godebug = none := by kernel_rfl
theorem laidOut : laidOutB Tryd.prog = true := by kernel_rfl
theorem gw_laid {W : World} (h : laidMetH Tryd.prog [("math/bits.deBruijn32tab", Rows.laid_math_bits_deBruijn32tab), ("math/bits.deBruijn64tab", Rows.laid_math_bits_deBruijn64tab), ("internal/strconv.uint64pow10", Rows.laid_internal_strconv_uint64pow10), ("strconv.ErrRange", Rows.laid_strconv_ErrRange), ("strconv.ErrSyntax", Rows.laid_strconv_ErrSyntax)] W) : GW.n Tryd.prog ≤ W.heap.size ∧ GW.G Tryd.prog W := by
  rw [MakeChecks.laidMetH_plain _ _ _ (by kernel_rfl)] at h
  have hn := var_lt (g := 5) (by kernel_rfl) (Lib.laidMet.reads h (n := "math/bits.deBruijn64tab") (d := Rows.laid_math_bits_deBruijn64tab) (by repeat (first | exact List.mem_cons_self .. | apply List.mem_cons_of_mem)))
  exact ⟨hn, (var_iface (g := 1) (t := 61) (by kernel_rfl) (by kernel_rfl) Tryd.underlying61 (Lib.laidMet.reads h (n := "strconv.ErrRange") (d := Rows.laid_strconv_ErrRange) (by repeat (first | exact List.mem_cons_self .. | apply List.mem_cons_of_mem)))), (var_iface (g := 0) (t := 61) (by kernel_rfl) (by kernel_rfl) Tryd.underlying61 (Lib.laidMet.reads h (n := "strconv.ErrSyntax") (d := Rows.laid_strconv_ErrSyntax) (by repeat (first | exact List.mem_cons_self .. | apply List.mem_cons_of_mem)))), (var_tab (g := 3) (t := 100) (by kernel_rfl) (by kernel_rfl) Tryd.underlying100 Tryd.underlying83 (by kernel_rfl) (by kernel_rfl) (Lib.laidMet.reads h (n := "internal/strconv.uint64pow10") (d := Rows.laid_internal_strconv_uint64pow10) (by repeat (first | exact List.mem_cons_self .. | apply List.mem_cons_of_mem))))⟩
theorem rd9 : Tryd.prog.readableRec 9 = true ∧ 9 < Tryd.prog.types.size := by decide +kernel
theorem rd23 : Tryd.prog.readableRec 23 = true ∧ 23 < Tryd.prog.types.size := by decide +kernel
theorem rd39 : Tryd.prog.readableRec 39 = true ∧ 39 < Tryd.prog.types.size := by decide +kernel
theorem bulkLaws {H : Type} : Bulk (H := H) Rows.uptoBulk Rows.uptoBulkAll := ⟨fun d => by cases d with | lit l => cases l <;> simp [Rows.uptoBulk] | _ => simp [Rows.uptoBulk], fun l => by simp [Rows.uptoBulk], fun e s => by simp only [Rows.uptoBulk]; omega, fun l => by simp [Rows.uptoBulk], by simp [Rows.uptoBulkAll], fun d l => by simp [Rows.uptoBulkAll]⟩
theorem on9 : Opens Tryd.prog 9 tStr := opens_str Tryd.underlying9
theorem on3 : Opens Tryd.prog 3 (tInt .i64) := opens_int Tryd.underlying3
theorem on35 : Opens Tryd.prog 35 tToken := opens_st (T := (tPair (tInt .i64) (tPair tStr (tPair (tInt .i64) (tPair (tInt .i64) tUnit))))) (tot := 4) Tryd.underlying35 (by kernel_rfl) (fo_cons (c := 1) rfl rfl (by kernel_rfl) rfl on3 (fo_cons (c := 1) rfl rfl (by kernel_rfl) rfl on9 (fo_cons (c := 1) rfl rfl (by kernel_rfl) rfl on3 (fo_cons (c := 1) rfl rfl (by kernel_rfl) rfl on3 (fo_nil rfl))))) (fun p => ⟨p.1, p.2.1, p.2.2.1, p.2.2.2.1⟩) (fun _ => rfl) (fun _ h => h) (fun _ => Nat.le_refl _)
theorem on23 : Opens Tryd.prog 23 (tSl 4 tToken) := opens_sl Tryd.underlying23 (by kernel_rfl) (by decide) (fun a => ok_Token a) on35
theorem on5 : Opens Tryd.prog 5 (tInt .u8) := opens_int Tryd.underlying5
theorem on39 : Opens Tryd.prog 39 (tSl 1 (tInt .u8)) := opens_sl Tryd.underlying39 (by kernel_rfl) (by decide) (fun a => ok_I a) on5
end Go.Proofs.YtomgekeihfaohaaDoor.laws
