/- Types in short, and their data. Written by dc.py. -/
import Derived.Test.YtomgekeihfaohaaDoorProg
import Derived.Test.YtomgekeihfaohaaDoorDcH
import Derived.Test.YtomgekeihfaohaaDoorLxS
namespace Go.Am
open Go Go.Proofs
set_option linter.unusedVariables false
set_option linter.unusedSimpArgs false
theorem gw_var {w w' : World} {s : String} (hs : (Tryd.prog.globalNamed s).all (fun g => Nat.blt g 6) = true) (e : ∀ b, b < 6 → w'.heap[b]? = w.heap[b]?) : w'.var? Tryd.prog s = w.var? Tryd.prog s := by
  unfold World.var?
  cases hq : Tryd.prog.globalNamed s with
  | none => rfl
  | some g =>
    rw [hq] at hs
    simp only [Option.bind_some]
    rw [e g (by simpa using hs)]
def GWp (w : World) : Prop := ((∃ tp p, w.var? Tryd.prog "strconv.ErrRange" = some #[.iface tp p])) ∧ ((∃ tp p, w.var? Tryd.prog "strconv.ErrSyntax" = some #[.iface tp p])) ∧ (Lib.TabIs Tryd.prog w "internal/strconv.uint64pow10" .u64 Lib.pow10Tab)
theorem gw_keep {w w' : World} (e : ∀ b, b < 6 → w'.heap[b]? = w.heap[b]?) (k : GWp w) : GWp w' := ⟨(by obtain ⟨tp, p, h⟩ := k.1; exact ⟨tp, p, by rw [gw_var (by kernel_rfl) e]; exact h⟩), (by obtain ⟨tp, p, h⟩ := k.2.1; exact ⟨tp, p, by rw [gw_var (by kernel_rfl) e]; exact h⟩), (by rw [Lib.TabIs, gw_var (by kernel_rfl) e]; exact k.2.2)⟩
instance gwI : GW Tryd.prog := ⟨6, GWp, gw_keep⟩
theorem gw_ErrRange {w : World} (k : GWp w) : (∃ tp p, w.var? Tryd.prog "strconv.ErrRange" = some #[.iface tp p]) := k.1
theorem gw_ErrSyntax {w : World} (k : GWp w) : (∃ tp p, w.var? Tryd.prog "strconv.ErrSyntax" = some #[.iface tp p]) := k.2.1
theorem gw_pow10 {w : World} (k : GWp w) : Lib.TabIs Tryd.prog w "internal/strconv.uint64pow10" .u64 Lib.pow10Tab := k.2.2

theorem hmix : Tryd.prog.follows .mixedOrders = true := by kernel_rfl
theorem ti1 : ti Tryd.prog 1 = some ⟨.fn, 1, 8, [.nilf]⟩ := by kernel_rfl
theorem ti2 : ti Tryd.prog 2 = some ⟨.int .i64, 1, 8, [.int .i64 0]⟩ := by kernel_rfl
theorem ti3 : ti Tryd.prog 3 = some ⟨.int .i64, 1, 8, [.int .i64 0]⟩ := by kernel_rfl
theorem ti4 : ti Tryd.prog 4 = some ⟨.bool, 1, 1, [.bool false]⟩ := by kernel_rfl
theorem ti5 : ti Tryd.prog 5 = some ⟨.int .u8, 1, 1, [.int .u8 0]⟩ := by kernel_rfl
theorem ti6 : ti Tryd.prog 6 = some ⟨.int .u8, 1, 1, [.int .u8 0]⟩ := by kernel_rfl
theorem ti7 : ti Tryd.prog 7 = some ⟨.st [(0, 2), (1, 3), (2, 4), (3, 6)], 4, 24, [.int .i64 0, .int .i64 0, .bool false, .int .u8 0]⟩ := by kernel_rfl
theorem ti8 : ti Tryd.prog 8 = some ⟨.st [(0, 2), (1, 3), (2, 4), (3, 6)], 4, 24, [.int .i64 0, .int .i64 0, .bool false, .int .u8 0]⟩ := by kernel_rfl
theorem ti9 : ti Tryd.prog 9 = some ⟨.str, 1, 16, [.str []]⟩ := by kernel_rfl
theorem ti10 : ti Tryd.prog 10 = some ⟨.str, 1, 16, [.str []]⟩ := by kernel_rfl
theorem ti11 : ti Tryd.prog 11 = some ⟨.str, 1, 16, [.str []]⟩ := by kernel_rfl
theorem ti12 : ti Tryd.prog 12 = some ⟨.int .u64, 1, 8, [.int .u64 0]⟩ := by kernel_rfl
theorem ti13 : ti Tryd.prog 13 = some ⟨.st [(0, 9), (1, 12)], 2, 24, [.str [], .int .u64 0]⟩ := by kernel_rfl
theorem ti14 : ti Tryd.prog 14 = some ⟨.st [(0, 9), (1, 12)], 2, 24, [.str [], .int .u64 0]⟩ := by kernel_rfl
theorem ti15 : ti Tryd.prog 15 = some ⟨.ptr 113, 1, 8, [.nilp]⟩ := by kernel_rfl
theorem ti16 : ti Tryd.prog 16 = some ⟨.ptr 116, 1, 8, [.nilp]⟩ := by kernel_rfl
theorem ti17 : ti Tryd.prog 17 = some ⟨.ptr 124, 1, 8, [.nilp]⟩ := by kernel_rfl
theorem ti18 : ti Tryd.prog 18 = some ⟨.st [(0, 17)], 1, 8, [.nilp]⟩ := by kernel_rfl
theorem ti19 : ti Tryd.prog 19 = some ⟨.st [(0, 17)], 1, 8, [.nilp]⟩ := by kernel_rfl
theorem ti20 : ti Tryd.prog 20 = some ⟨.ifc, 1, 16, [.nili]⟩ := by kernel_rfl
theorem ti21 : ti Tryd.prog 21 = some ⟨.int .i32, 1, 4, [.int .i32 0]⟩ := by kernel_rfl
theorem ti22 : ti Tryd.prog 22 = some ⟨.fn, 1, 8, [.nilf]⟩ := by kernel_rfl
theorem ti23 : ti Tryd.prog 23 = some ⟨.sl 35, 1, 24, [.emp]⟩ := by kernel_rfl
theorem ti24 : ti Tryd.prog 24 = some ⟨.int .i64, 1, 8, [.int .i64 0]⟩ := by kernel_rfl
theorem ti26 : ti Tryd.prog 26 = some ⟨.fn, 1, 8, [.nilf]⟩ := by kernel_rfl
theorem ti27 : ti Tryd.prog 27 = some ⟨.fn, 1, 8, [.nilf]⟩ := by kernel_rfl
theorem ti28 : ti Tryd.prog 28 = some ⟨.fn, 1, 8, [.nilf]⟩ := by kernel_rfl
theorem ti29 : ti Tryd.prog 29 = some ⟨.fn, 1, 8, [.nilf]⟩ := by kernel_rfl
theorem ti31 : ti Tryd.prog 31 = some ⟨.fn, 1, 8, [.nilf]⟩ := by kernel_rfl
theorem ti32 : ti Tryd.prog 32 = some ⟨.fn, 1, 8, [.nilf]⟩ := by kernel_rfl
theorem ti33 : ti Tryd.prog 33 = some ⟨.fn, 1, 8, [.nilf]⟩ := by kernel_rfl
theorem ti34 : ti Tryd.prog 34 = some ⟨.st [(0, 3), (1, 9), (2, 3), (3, 3)], 4, 40, [.int .i64 0, .str [], .int .i64 0, .int .i64 0]⟩ := by kernel_rfl
theorem ti35 : ti Tryd.prog 35 = some ⟨.st [(0, 3), (1, 9), (2, 3), (3, 3)], 4, 40, [.int .i64 0, .str [], .int .i64 0, .int .i64 0]⟩ := by kernel_rfl
theorem ti36 : ti Tryd.prog 36 = some ⟨.fn, 1, 8, [.nilf]⟩ := by kernel_rfl
theorem ti37 : ti Tryd.prog 37 = some ⟨.fn, 1, 8, [.nilf]⟩ := by kernel_rfl
theorem ti38 : ti Tryd.prog 38 = some ⟨.fn, 1, 8, [.nilf]⟩ := by kernel_rfl
theorem ti39 : ti Tryd.prog 39 = some ⟨.sl 5, 1, 24, [.emp]⟩ := by kernel_rfl
theorem ti40 : ti Tryd.prog 40 = some ⟨.sl 9, 1, 24, [.emp]⟩ := by kernel_rfl
theorem ti41 : ti Tryd.prog 41 = some ⟨.fn, 1, 8, [.nilf]⟩ := by kernel_rfl
theorem ti42 : ti Tryd.prog 42 = some ⟨.int .i64, 1, 8, [.int .i64 0]⟩ := by kernel_rfl
theorem ti43 : ti Tryd.prog 43 = some ⟨.fn, 1, 8, [.nilf]⟩ := by kernel_rfl
theorem ti44 : ti Tryd.prog 44 = some ⟨.arr 6 43, 6, 48, [.nilf, .nilf, .nilf, .nilf, .nilf, .nilf]⟩ := by kernel_rfl
theorem ti45 : ti Tryd.prog 45 = some ⟨.st [(0, 44)], 6, 48, [.nilf, .nilf, .nilf, .nilf, .nilf, .nilf]⟩ := by kernel_rfl
theorem ti46 : ti Tryd.prog 46 = some ⟨.st [(0, 44)], 6, 48, [.nilf, .nilf, .nilf, .nilf, .nilf, .nilf]⟩ := by kernel_rfl
theorem ti47 : ti Tryd.prog 47 = some ⟨.ptr 49, 1, 8, [.nilp]⟩ := by kernel_rfl
theorem ti48 : ti Tryd.prog 48 = some ⟨.st [(0, 9), (1, 3), (2, 23)], 3, 48, [.str [], .int .i64 0, .emp]⟩ := by kernel_rfl
theorem ti49 : ti Tryd.prog 49 = some ⟨.st [(0, 9), (1, 3), (2, 23)], 3, 48, [.str [], .int .i64 0, .emp]⟩ := by kernel_rfl
theorem ti50 : ti Tryd.prog 50 = some ⟨.fn, 1, 8, [.nilf]⟩ := by kernel_rfl
theorem ti52 : ti Tryd.prog 52 = some ⟨.fn, 1, 8, [.nilf]⟩ := by kernel_rfl
theorem ti53 : ti Tryd.prog 53 = some ⟨.fn, 1, 8, [.nilf]⟩ := by kernel_rfl
theorem ti54 : ti Tryd.prog 54 = some ⟨.fn, 1, 8, [.nilf]⟩ := by kernel_rfl
theorem ti55 : ti Tryd.prog 55 = some ⟨.fn, 1, 8, [.nilf]⟩ := by kernel_rfl
theorem ti56 : ti Tryd.prog 56 = some ⟨.fn, 1, 8, [.nilf]⟩ := by kernel_rfl
theorem ti57 : ti Tryd.prog 57 = some ⟨.fn, 1, 8, [.nilf]⟩ := by kernel_rfl
theorem ti58 : ti Tryd.prog 58 = some ⟨.fn, 1, 8, [.nilf]⟩ := by kernel_rfl
theorem ti59 : ti Tryd.prog 59 = some ⟨.fn, 1, 8, [.nilf]⟩ := by kernel_rfl
theorem ti60 : ti Tryd.prog 60 = some ⟨.ifc, 1, 16, [.nili]⟩ := by kernel_rfl
theorem ti61 : ti Tryd.prog 61 = some ⟨.ifc, 1, 16, [.nili]⟩ := by kernel_rfl
theorem ti63 : ti Tryd.prog 63 = some ⟨.fn, 1, 8, [.nilf]⟩ := by kernel_rfl
theorem ti64 : ti Tryd.prog 64 = some ⟨.fn, 1, 8, [.nilf]⟩ := by kernel_rfl
theorem ti65 : ti Tryd.prog 65 = some ⟨.ptr 67, 1, 8, [.nilp]⟩ := by kernel_rfl
theorem ti66 : ti Tryd.prog 66 = some ⟨.st [(0, 65), (1, 39)], 2, 32, [.nilp, .emp]⟩ := by kernel_rfl
theorem ti67 : ti Tryd.prog 67 = some ⟨.st [(0, 65), (1, 39)], 2, 32, [.nilp, .emp]⟩ := by kernel_rfl
theorem ti68 : ti Tryd.prog 68 = some ⟨.fn, 1, 8, [.nilf]⟩ := by kernel_rfl
theorem ti69 : ti Tryd.prog 69 = some ⟨.fn, 1, 8, [.nilf]⟩ := by kernel_rfl
theorem ti70 : ti Tryd.prog 70 = some ⟨.sl 3, 1, 24, [.emp]⟩ := by kernel_rfl
theorem ti71 : ti Tryd.prog 71 = some ⟨.fn, 1, 8, [.nilf]⟩ := by kernel_rfl
theorem ti72 : ti Tryd.prog 72 = some ⟨.fn, 1, 8, [.nilf]⟩ := by kernel_rfl
theorem ti73 : ti Tryd.prog 73 = some ⟨.fn, 1, 8, [.nilf]⟩ := by kernel_rfl
theorem ti74 : ti Tryd.prog 74 = some ⟨.ptr 5, 1, 8, [.nilp]⟩ := by kernel_rfl
theorem ti75 : ti Tryd.prog 75 = some ⟨.fn, 1, 8, [.nilf]⟩ := by kernel_rfl
theorem ti76 : ti Tryd.prog 76 = some ⟨.int .i64, 1, 8, [.int .i64 0]⟩ := by kernel_rfl
theorem ti78 : ti Tryd.prog 78 = some ⟨.fn, 1, 8, [.nilf]⟩ := by kernel_rfl
theorem ti79 : ti Tryd.prog 79 = some ⟨.ptr 96, 1, 8, [.nilp]⟩ := by kernel_rfl
theorem ti80 : ti Tryd.prog 80 = some ⟨.fn, 1, 8, [.nilf]⟩ := by kernel_rfl
theorem ti81 : ti Tryd.prog 81 = some ⟨.fn, 1, 8, [.nilf]⟩ := by kernel_rfl
theorem ti82 : ti Tryd.prog 82 = some ⟨.arr 24 5, 24, 24, [.int .u8 0, .int .u8 0, .int .u8 0, .int .u8 0, .int .u8 0, .int .u8 0, .int .u8 0, .int .u8 0, .int .u8 0, .int .u8 0, .int .u8 0, .int .u8 0, .int .u8 0, .int .u8 0, .int .u8 0, .int .u8 0, .int .u8 0, .int .u8 0, .int .u8 0, .int .u8 0, .int .u8 0, .int .u8 0, .int .u8 0, .int .u8 0]⟩ := by kernel_rfl
theorem ti83 : ti Tryd.prog 83 = some ⟨.int .u64, 1, 8, [.int .u64 0]⟩ := by kernel_rfl
theorem ti84 : ti Tryd.prog 84 = some ⟨.fn, 1, 8, [.nilf]⟩ := by kernel_rfl
theorem ti85 : ti Tryd.prog 85 = some ⟨.fn, 1, 8, [.nilf]⟩ := by kernel_rfl
theorem ti87 : ti Tryd.prog 87 = some ⟨.fn, 1, 8, [.nilf]⟩ := by kernel_rfl
theorem ti89 : ti Tryd.prog 89 = some ⟨.fn, 1, 8, [.nilf]⟩ := by kernel_rfl
theorem ti90 : ti Tryd.prog 90 = some ⟨.fn, 1, 8, [.nilf]⟩ := by kernel_rfl
theorem ti92 : ti Tryd.prog 92 = some ⟨.fn, 1, 8, [.nilf]⟩ := by kernel_rfl
theorem ti93 : ti Tryd.prog 93 = some ⟨.int .u64, 1, 8, [.int .u64 0]⟩ := by kernel_rfl
theorem ti94 : ti Tryd.prog 94 = some ⟨.fn, 1, 8, [.nilf]⟩ := by kernel_rfl
theorem ti95 : ti Tryd.prog 95 = some ⟨.st [(0, 9), (1, 9), (2, 61)], 3, 48, [.str [], .str [], .nili]⟩ := by kernel_rfl
theorem ti96 : ti Tryd.prog 96 = some ⟨.st [(0, 9), (1, 9), (2, 61)], 3, 48, [.str [], .str [], .nili]⟩ := by kernel_rfl
theorem ti97 : ti Tryd.prog 97 = some ⟨.fn, 1, 8, [.nilf]⟩ := by kernel_rfl
theorem ti98 : ti Tryd.prog 98 = some ⟨.fn, 1, 8, [.nilf]⟩ := by kernel_rfl
theorem ti99 : ti Tryd.prog 99 = some ⟨.fn, 1, 8, [.nilf]⟩ := by kernel_rfl
theorem ti100 : ti Tryd.prog 100 = some ⟨.arr 20 83, 20, 160, [.int .u64 0, .int .u64 0, .int .u64 0, .int .u64 0, .int .u64 0, .int .u64 0, .int .u64 0, .int .u64 0, .int .u64 0, .int .u64 0, .int .u64 0, .int .u64 0, .int .u64 0, .int .u64 0, .int .u64 0, .int .u64 0, .int .u64 0, .int .u64 0, .int .u64 0, .int .u64 0]⟩ := by kernel_rfl
theorem ti101 : ti Tryd.prog 101 = some ⟨.int .u32, 1, 4, [.int .u32 0]⟩ := by kernel_rfl
theorem ti102 : ti Tryd.prog 102 = some ⟨.arr 65 5, 65, 65, [.int .u8 0, .int .u8 0, .int .u8 0, .int .u8 0, .int .u8 0, .int .u8 0, .int .u8 0, .int .u8 0, .int .u8 0, .int .u8 0, .int .u8 0, .int .u8 0, .int .u8 0, .int .u8 0, .int .u8 0, .int .u8 0, .int .u8 0, .int .u8 0, .int .u8 0, .int .u8 0, .int .u8 0, .int .u8 0, .int .u8 0, .int .u8 0, .int .u8 0, .int .u8 0, .int .u8 0, .int .u8 0, .int .u8 0, .int .u8 0, .int .u8 0, .int .u8 0, .int .u8 0, .int .u8 0, .int .u8 0, .int .u8 0, .int .u8 0, .int .u8 0, .int .u8 0, .int .u8 0, .int .u8 0, .int .u8 0, .int .u8 0, .int .u8 0, .int .u8 0, .int .u8 0, .int .u8 0, .int .u8 0, .int .u8 0, .int .u8 0, .int .u8 0, .int .u8 0, .int .u8 0, .int .u8 0, .int .u8 0, .int .u8 0, .int .u8 0, .int .u8 0, .int .u8 0, .int .u8 0, .int .u8 0, .int .u8 0, .int .u8 0, .int .u8 0, .int .u8 0]⟩ := by kernel_rfl
theorem ti103 : ti Tryd.prog 103 = some ⟨.fn, 1, 8, [.nilf]⟩ := by kernel_rfl
theorem ti104 : ti Tryd.prog 104 = some ⟨.fn, 1, 8, [.nilf]⟩ := by kernel_rfl
theorem ti105 : ti Tryd.prog 105 = some ⟨.fn, 1, 8, [.nilf]⟩ := by kernel_rfl
theorem ti106 : ti Tryd.prog 106 = some ⟨.ptr 108, 1, 8, [.nilp]⟩ := by kernel_rfl
theorem ti107 : ti Tryd.prog 107 = some ⟨.st [(0, 9)], 1, 16, [.str []]⟩ := by kernel_rfl
theorem ti108 : ti Tryd.prog 108 = some ⟨.st [(0, 9)], 1, 16, [.str []]⟩ := by kernel_rfl
theorem ti109 : ti Tryd.prog 109 = some ⟨.fn, 1, 8, [.nilf]⟩ := by kernel_rfl
theorem ti110 : ti Tryd.prog 110 = some ⟨.arr 32 5, 32, 32, [.int .u8 0, .int .u8 0, .int .u8 0, .int .u8 0, .int .u8 0, .int .u8 0, .int .u8 0, .int .u8 0, .int .u8 0, .int .u8 0, .int .u8 0, .int .u8 0, .int .u8 0, .int .u8 0, .int .u8 0, .int .u8 0, .int .u8 0, .int .u8 0, .int .u8 0, .int .u8 0, .int .u8 0, .int .u8 0, .int .u8 0, .int .u8 0, .int .u8 0, .int .u8 0, .int .u8 0, .int .u8 0, .int .u8 0, .int .u8 0, .int .u8 0, .int .u8 0]⟩ := by kernel_rfl
theorem ti111 : ti Tryd.prog 111 = some ⟨.arr 64 5, 64, 64, [.int .u8 0, .int .u8 0, .int .u8 0, .int .u8 0, .int .u8 0, .int .u8 0, .int .u8 0, .int .u8 0, .int .u8 0, .int .u8 0, .int .u8 0, .int .u8 0, .int .u8 0, .int .u8 0, .int .u8 0, .int .u8 0, .int .u8 0, .int .u8 0, .int .u8 0, .int .u8 0, .int .u8 0, .int .u8 0, .int .u8 0, .int .u8 0, .int .u8 0, .int .u8 0, .int .u8 0, .int .u8 0, .int .u8 0, .int .u8 0, .int .u8 0, .int .u8 0, .int .u8 0, .int .u8 0, .int .u8 0, .int .u8 0, .int .u8 0, .int .u8 0, .int .u8 0, .int .u8 0, .int .u8 0, .int .u8 0, .int .u8 0, .int .u8 0, .int .u8 0, .int .u8 0, .int .u8 0, .int .u8 0, .int .u8 0, .int .u8 0, .int .u8 0, .int .u8 0, .int .u8 0, .int .u8 0, .int .u8 0, .int .u8 0, .int .u8 0, .int .u8 0, .int .u8 0, .int .u8 0, .int .u8 0, .int .u8 0, .int .u8 0, .int .u8 0]⟩ := by kernel_rfl
theorem ti112 : ti Tryd.prog 112 = some ⟨.st [(0, 17), (1, 17), (2, 17), (3, 9)], 4, 40, [.nilp, .nilp, .nilp, .str []]⟩ := by kernel_rfl
theorem ti113 : ti Tryd.prog 113 = some ⟨.st [(0, 17), (1, 17), (2, 17), (3, 9)], 4, 40, [.nilp, .nilp, .nilp, .str []]⟩ := by kernel_rfl
theorem ti114 : ti Tryd.prog 114 = some ⟨.arr 0 16, 0, 0, []⟩ := by kernel_rfl
theorem ti115 : ti Tryd.prog 115 = some ⟨.st [(0, 114)], 0, 0, []⟩ := by kernel_rfl
theorem ti116 : ti Tryd.prog 116 = some ⟨.st [(0, 114)], 0, 0, []⟩ := by kernel_rfl
theorem ti117 : ti Tryd.prog 117 = some ⟨.fn, 1, 8, [.nilf]⟩ := by kernel_rfl
theorem ti118 : ti Tryd.prog 118 = some ⟨.int .u8, 1, 1, [.int .u8 0]⟩ := by kernel_rfl
theorem ti119 : ti Tryd.prog 119 = some ⟨.int .u8, 1, 1, [.int .u8 0]⟩ := by kernel_rfl
theorem ti120 : ti Tryd.prog 120 = some ⟨.fn, 1, 8, [.nilf]⟩ := by kernel_rfl
theorem ti121 : ti Tryd.prog 121 = some ⟨.int .i32, 1, 4, [.int .i32 0]⟩ := by kernel_rfl
theorem ti122 : ti Tryd.prog 122 = some ⟨.int .i32, 1, 4, [.int .i32 0]⟩ := by kernel_rfl
theorem ti123 : ti Tryd.prog 123 = some ⟨.st [(0, 12), (1, 12), (2, 101), (3, 118), (4, 5), (5, 5), (6, 119), (7, 120), (8, 74), (9, 121), (10, 122)], 11, 48, [.int .u64 0, .int .u64 0, .int .u32 0, .int .u8 0, .int .u8 0, .int .u8 0, .int .u8 0, .nilf, .nilp, .int .i32 0, .int .i32 0]⟩ := by kernel_rfl
theorem ti124 : ti Tryd.prog 124 = some ⟨.st [(0, 12), (1, 12), (2, 101), (3, 118), (4, 5), (5, 5), (6, 119), (7, 120), (8, 74), (9, 121), (10, 122)], 11, 48, [.int .u64 0, .int .u64 0, .int .u32 0, .int .u8 0, .int .u8 0, .int .u8 0, .int .u8 0, .nilf, .nilp, .int .i32 0, .int .i32 0]⟩ := by kernel_rfl
theorem pl35 : aPlaces Tryd.prog [(0, 3), (1, 9), (2, 3), (3, 3)] = some [(0, 1), (1, 1), (2, 1), (3, 1)] := by kernel_rfl
theorem pl49 : aPlaces Tryd.prog [(0, 9), (1, 3), (2, 23)] = some [(0, 1), (1, 1), (2, 1)] := by kernel_rfl

end Go.Am
