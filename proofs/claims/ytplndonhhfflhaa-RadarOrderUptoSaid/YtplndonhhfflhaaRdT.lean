/- Types in short, and their data. Written by dc.py. -/
import Derived.Test.YtplndonhhfflhaaProg
import Derived.Test.YtplndonhhfflhaaDcK
import Derived.Test.YtplndonhhfflhaaRdS
import Derived.Test.YtplndonhhfflhaaRdI
namespace Go.Am
open Go Go.Proofs
set_option linter.unusedVariables false
set_option linter.unusedSimpArgs false
instance gwI : GW Try.prog := ⟨0, fun _ => True, fun _ _ => trivial⟩
theorem hmix : Try.prog.follows .mixedOrders = true := by kernel_rfl
theorem ti1 : ti Try.prog 1 = some ⟨.fn, 1, 8, [.nilf]⟩ := by kernel_rfl
theorem ti2 : ti Try.prog 2 = some ⟨.int .i64, 1, 8, [.int .i64 0]⟩ := by kernel_rfl
theorem ti3 : ti Try.prog 3 = some ⟨.int .i64, 1, 8, [.int .i64 0]⟩ := by kernel_rfl
theorem ti4 : ti Try.prog 4 = some ⟨.bool, 1, 1, [.bool false]⟩ := by kernel_rfl
theorem ti5 : ti Try.prog 5 = some ⟨.int .u8, 1, 1, [.int .u8 0]⟩ := by kernel_rfl
theorem ti6 : ti Try.prog 6 = some ⟨.int .u8, 1, 1, [.int .u8 0]⟩ := by kernel_rfl
theorem ti7 : ti Try.prog 7 = some ⟨.st [(0, 2), (1, 3), (2, 4), (3, 6)], 4, 24, [.int .i64 0, .int .i64 0, .bool false, .int .u8 0]⟩ := by kernel_rfl
theorem ti8 : ti Try.prog 8 = some ⟨.st [(0, 2), (1, 3), (2, 4), (3, 6)], 4, 24, [.int .i64 0, .int .i64 0, .bool false, .int .u8 0]⟩ := by kernel_rfl
theorem ti9 : ti Try.prog 9 = some ⟨.str, 1, 16, [.str []]⟩ := by kernel_rfl
theorem ti10 : ti Try.prog 10 = some ⟨.str, 1, 16, [.str []]⟩ := by kernel_rfl
theorem ti11 : ti Try.prog 11 = some ⟨.str, 1, 16, [.str []]⟩ := by kernel_rfl
theorem ti12 : ti Try.prog 12 = some ⟨.int .u64, 1, 8, [.int .u64 0]⟩ := by kernel_rfl
theorem ti13 : ti Try.prog 13 = some ⟨.st [(0, 9), (1, 12)], 2, 24, [.str [], .int .u64 0]⟩ := by kernel_rfl
theorem ti14 : ti Try.prog 14 = some ⟨.st [(0, 9), (1, 12)], 2, 24, [.str [], .int .u64 0]⟩ := by kernel_rfl
theorem ti15 : ti Try.prog 15 = some ⟨.ptr 113, 1, 8, [.nilp]⟩ := by kernel_rfl
theorem ti16 : ti Try.prog 16 = some ⟨.ptr 116, 1, 8, [.nilp]⟩ := by kernel_rfl
theorem ti17 : ti Try.prog 17 = some ⟨.ptr 125, 1, 8, [.nilp]⟩ := by kernel_rfl
theorem ti18 : ti Try.prog 18 = some ⟨.st [(0, 17)], 1, 8, [.nilp]⟩ := by kernel_rfl
theorem ti19 : ti Try.prog 19 = some ⟨.st [(0, 17)], 1, 8, [.nilp]⟩ := by kernel_rfl
theorem ti20 : ti Try.prog 20 = some ⟨.ifc, 1, 16, [.nili]⟩ := by kernel_rfl
theorem ti21 : ti Try.prog 21 = some ⟨.int .i32, 1, 4, [.int .i32 0]⟩ := by kernel_rfl
theorem ti22 : ti Try.prog 22 = some ⟨.sl 24, 1, 24, [.emp]⟩ := by kernel_rfl
theorem ti23 : ti Try.prog 23 = some ⟨.st [(0, 3), (1, 3), (2, 4)], 3, 24, [.int .i64 0, .int .i64 0, .bool false]⟩ := by kernel_rfl
theorem ti24 : ti Try.prog 24 = some ⟨.st [(0, 3), (1, 3), (2, 4)], 3, 24, [.int .i64 0, .int .i64 0, .bool false]⟩ := by kernel_rfl
theorem ti25 : ti Try.prog 25 = some ⟨.fn, 1, 8, [.nilf]⟩ := by kernel_rfl
theorem ti26 : ti Try.prog 26 = some ⟨.fn, 1, 8, [.nilf]⟩ := by kernel_rfl
theorem ti27 : ti Try.prog 27 = some ⟨.int .i64, 1, 8, [.int .i64 0]⟩ := by kernel_rfl
theorem ti29 : ti Try.prog 29 = some ⟨.fn, 1, 8, [.nilf]⟩ := by kernel_rfl
theorem ti30 : ti Try.prog 30 = some ⟨.fn, 1, 8, [.nilf]⟩ := by kernel_rfl
theorem ti31 : ti Try.prog 31 = some ⟨.fn, 1, 8, [.nilf]⟩ := by kernel_rfl
theorem ti32 : ti Try.prog 32 = some ⟨.fn, 1, 8, [.nilf]⟩ := by kernel_rfl
theorem ti33 : ti Try.prog 33 = some ⟨.fn, 1, 8, [.nilf]⟩ := by kernel_rfl
theorem ti34 : ti Try.prog 34 = some ⟨.fn, 1, 8, [.nilf]⟩ := by kernel_rfl
theorem ti35 : ti Try.prog 35 = some ⟨.sl 38, 1, 24, [.emp]⟩ := by kernel_rfl
theorem ti36 : ti Try.prog 36 = some ⟨.sl 3, 1, 24, [.emp]⟩ := by kernel_rfl
theorem ti37 : ti Try.prog 37 = some ⟨.st [(0, 36), (1, 3), (2, 3)], 3, 40, [.emp, .int .i64 0, .int .i64 0]⟩ := by kernel_rfl
theorem ti38 : ti Try.prog 38 = some ⟨.st [(0, 36), (1, 3), (2, 3)], 3, 40, [.emp, .int .i64 0, .int .i64 0]⟩ := by kernel_rfl
theorem ti39 : ti Try.prog 39 = some ⟨.sl 4, 1, 24, [.emp]⟩ := by kernel_rfl
theorem ti41 : ti Try.prog 41 = some ⟨.fn, 1, 8, [.nilf]⟩ := by kernel_rfl
theorem ti42 : ti Try.prog 42 = some ⟨.fn, 1, 8, [.nilf]⟩ := by kernel_rfl
theorem ti43 : ti Try.prog 43 = some ⟨.fn, 1, 8, [.nilf]⟩ := by kernel_rfl
theorem ti44 : ti Try.prog 44 = some ⟨.fn, 1, 8, [.nilf]⟩ := by kernel_rfl
theorem ti45 : ti Try.prog 45 = some ⟨.fn, 1, 8, [.nilf]⟩ := by kernel_rfl
theorem ti46 : ti Try.prog 46 = some ⟨.sl 52, 1, 24, [.emp]⟩ := by kernel_rfl
theorem ti47 : ti Try.prog 47 = some ⟨.fn, 1, 8, [.nilf]⟩ := by kernel_rfl
theorem ti48 : ti Try.prog 48 = some ⟨.fn, 1, 8, [.nilf]⟩ := by kernel_rfl
theorem ti49 : ti Try.prog 49 = some ⟨.fn, 1, 8, [.nilf]⟩ := by kernel_rfl
theorem ti50 : ti Try.prog 50 = some ⟨.fn, 1, 8, [.nilf]⟩ := by kernel_rfl
theorem ti51 : ti Try.prog 51 = some ⟨.st [(0, 3), (1, 3)], 2, 16, [.int .i64 0, .int .i64 0]⟩ := by kernel_rfl
theorem ti52 : ti Try.prog 52 = some ⟨.st [(0, 3), (1, 3)], 2, 16, [.int .i64 0, .int .i64 0]⟩ := by kernel_rfl
theorem ti53 : ti Try.prog 53 = some ⟨.fn, 1, 8, [.nilf]⟩ := by kernel_rfl
theorem ti55 : ti Try.prog 55 = some ⟨.fn, 1, 8, [.nilf]⟩ := by kernel_rfl
theorem ti56 : ti Try.prog 56 = some ⟨.fn, 1, 8, [.nilf]⟩ := by kernel_rfl
theorem ti57 : ti Try.prog 57 = some ⟨.fn, 1, 8, [.nilf]⟩ := by kernel_rfl
theorem ti58 : ti Try.prog 58 = some ⟨.fn, 1, 8, [.nilf]⟩ := by kernel_rfl
theorem ti59 : ti Try.prog 59 = some ⟨.fn, 1, 8, [.nilf]⟩ := by kernel_rfl
theorem ti60 : ti Try.prog 60 = some ⟨.fn, 1, 8, [.nilf]⟩ := by kernel_rfl
theorem ti61 : ti Try.prog 61 = some ⟨.fn, 1, 8, [.nilf]⟩ := by kernel_rfl
theorem ti62 : ti Try.prog 62 = some ⟨.fn, 1, 8, [.nilf]⟩ := by kernel_rfl
theorem ti63 : ti Try.prog 63 = some ⟨.fn, 1, 8, [.nilf]⟩ := by kernel_rfl
theorem ti64 : ti Try.prog 64 = some ⟨.fn, 1, 8, [.nilf]⟩ := by kernel_rfl
theorem ti65 : ti Try.prog 65 = some ⟨.fn, 1, 8, [.nilf]⟩ := by kernel_rfl
theorem ti66 : ti Try.prog 66 = some ⟨.fn, 1, 8, [.nilf]⟩ := by kernel_rfl
theorem ti67 : ti Try.prog 67 = some ⟨.fn, 1, 8, [.nilf]⟩ := by kernel_rfl
theorem ti68 : ti Try.prog 68 = some ⟨.int .u64, 1, 8, [.int .u64 0]⟩ := by kernel_rfl
theorem ti69 : ti Try.prog 69 = some ⟨.fn, 1, 8, [.nilf]⟩ := by kernel_rfl
theorem ti70 : ti Try.prog 70 = some ⟨.fn, 1, 8, [.nilf]⟩ := by kernel_rfl
theorem ti71 : ti Try.prog 71 = some ⟨.st [(0, 3), (1, 3), (2, 4)], 3, 24, [.int .i64 0, .int .i64 0, .bool false]⟩ := by kernel_rfl
theorem ti72 : ti Try.prog 72 = some ⟨.fn, 1, 8, [.nilf]⟩ := by kernel_rfl
theorem ti73 : ti Try.prog 73 = some ⟨.fn, 1, 8, [.nilf]⟩ := by kernel_rfl
theorem ti74 : ti Try.prog 74 = some ⟨.st [(0, 3), (1, 3), (2, 3)], 3, 24, [.int .i64 0, .int .i64 0, .int .i64 0]⟩ := by kernel_rfl
theorem ti75 : ti Try.prog 75 = some ⟨.st [(0, 3), (1, 3), (2, 3)], 3, 24, [.int .i64 0, .int .i64 0, .int .i64 0]⟩ := by kernel_rfl
theorem ti76 : ti Try.prog 76 = some ⟨.fn, 1, 8, [.nilf]⟩ := by kernel_rfl
theorem ti77 : ti Try.prog 77 = some ⟨.fn, 1, 8, [.nilf]⟩ := by kernel_rfl
theorem ti78 : ti Try.prog 78 = some ⟨.fn, 1, 8, [.nilf]⟩ := by kernel_rfl
theorem ti79 : ti Try.prog 79 = some ⟨.fn, 1, 8, [.nilf]⟩ := by kernel_rfl
theorem ti80 : ti Try.prog 80 = some ⟨.fn, 1, 8, [.nilf]⟩ := by kernel_rfl
theorem ti81 : ti Try.prog 81 = some ⟨.fn, 1, 8, [.nilf]⟩ := by kernel_rfl
theorem ti82 : ti Try.prog 82 = some ⟨.fn, 1, 8, [.nilf]⟩ := by kernel_rfl
theorem ti83 : ti Try.prog 83 = some ⟨.sl 75, 1, 24, [.emp]⟩ := by kernel_rfl
theorem ti84 : ti Try.prog 84 = some ⟨.fn, 1, 8, [.nilf]⟩ := by kernel_rfl
theorem ti85 : ti Try.prog 85 = some ⟨.fn, 1, 8, [.nilf]⟩ := by kernel_rfl
theorem ti86 : ti Try.prog 86 = some ⟨.fn, 1, 8, [.nilf]⟩ := by kernel_rfl
theorem ti87 : ti Try.prog 87 = some ⟨.fn, 1, 8, [.nilf]⟩ := by kernel_rfl
theorem ti88 : ti Try.prog 88 = some ⟨.fn, 1, 8, [.nilf]⟩ := by kernel_rfl
theorem ti89 : ti Try.prog 89 = some ⟨.fn, 1, 8, [.nilf]⟩ := by kernel_rfl
theorem ti90 : ti Try.prog 90 = some ⟨.fn, 1, 8, [.nilf]⟩ := by kernel_rfl
theorem ti91 : ti Try.prog 91 = some ⟨.fn, 1, 8, [.nilf]⟩ := by kernel_rfl
theorem ti92 : ti Try.prog 92 = some ⟨.int .i64, 1, 8, [.int .i64 0]⟩ := by kernel_rfl
theorem ti94 : ti Try.prog 94 = some ⟨.fn, 1, 8, [.nilf]⟩ := by kernel_rfl
theorem ti95 : ti Try.prog 95 = some ⟨.fn, 1, 8, [.nilf]⟩ := by kernel_rfl
theorem ti96 : ti Try.prog 96 = some ⟨.fn, 1, 8, [.nilf]⟩ := by kernel_rfl
theorem ti97 : ti Try.prog 97 = some ⟨.fn, 1, 8, [.nilf]⟩ := by kernel_rfl
theorem ti98 : ti Try.prog 98 = some ⟨.fn, 1, 8, [.nilf]⟩ := by kernel_rfl
theorem ti99 : ti Try.prog 99 = some ⟨.int .u32, 1, 4, [.int .u32 0]⟩ := by kernel_rfl
theorem ti100 : ti Try.prog 100 = some ⟨.fn, 1, 8, [.nilf]⟩ := by kernel_rfl
theorem ti101 : ti Try.prog 101 = some ⟨.int .u64, 1, 8, [.int .u64 0]⟩ := by kernel_rfl
theorem ti102 : ti Try.prog 102 = some ⟨.int .u64, 1, 8, [.int .u64 0]⟩ := by kernel_rfl
theorem ti103 : ti Try.prog 103 = some ⟨.fn, 1, 8, [.nilf]⟩ := by kernel_rfl
theorem ti104 : ti Try.prog 104 = some ⟨.fn, 1, 8, [.nilf]⟩ := by kernel_rfl
theorem ti105 : ti Try.prog 105 = some ⟨.fn, 1, 8, [.nilf]⟩ := by kernel_rfl
theorem ti106 : ti Try.prog 106 = some ⟨.ptr 3, 1, 8, [.nilp]⟩ := by kernel_rfl
theorem ti107 : ti Try.prog 107 = some ⟨.fn, 1, 8, [.nilf]⟩ := by kernel_rfl
theorem ti108 : ti Try.prog 108 = some ⟨.ptr 102, 1, 8, [.nilp]⟩ := by kernel_rfl
theorem ti110 : ti Try.prog 110 = some ⟨.fn, 1, 8, [.nilf]⟩ := by kernel_rfl
theorem ti111 : ti Try.prog 111 = some ⟨.fn, 1, 8, [.nilf]⟩ := by kernel_rfl
theorem ti112 : ti Try.prog 112 = some ⟨.st [(0, 17), (1, 17), (2, 17), (3, 9)], 4, 40, [.nilp, .nilp, .nilp, .str []]⟩ := by kernel_rfl
theorem ti113 : ti Try.prog 113 = some ⟨.st [(0, 17), (1, 17), (2, 17), (3, 9)], 4, 40, [.nilp, .nilp, .nilp, .str []]⟩ := by kernel_rfl
theorem ti114 : ti Try.prog 114 = some ⟨.arr 0 16, 0, 0, []⟩ := by kernel_rfl
theorem ti115 : ti Try.prog 115 = some ⟨.st [(0, 114)], 0, 0, []⟩ := by kernel_rfl
theorem ti116 : ti Try.prog 116 = some ⟨.st [(0, 114)], 0, 0, []⟩ := by kernel_rfl
theorem ti117 : ti Try.prog 117 = some ⟨.fn, 1, 8, [.nilf]⟩ := by kernel_rfl
theorem ti118 : ti Try.prog 118 = some ⟨.int .u8, 1, 1, [.int .u8 0]⟩ := by kernel_rfl
theorem ti119 : ti Try.prog 119 = some ⟨.int .u8, 1, 1, [.int .u8 0]⟩ := by kernel_rfl
theorem ti120 : ti Try.prog 120 = some ⟨.fn, 1, 8, [.nilf]⟩ := by kernel_rfl
theorem ti121 : ti Try.prog 121 = some ⟨.ptr 5, 1, 8, [.nilp]⟩ := by kernel_rfl
theorem ti122 : ti Try.prog 122 = some ⟨.int .i32, 1, 4, [.int .i32 0]⟩ := by kernel_rfl
theorem ti123 : ti Try.prog 123 = some ⟨.int .i32, 1, 4, [.int .i32 0]⟩ := by kernel_rfl
theorem ti124 : ti Try.prog 124 = some ⟨.st [(0, 12), (1, 12), (2, 99), (3, 118), (4, 5), (5, 5), (6, 119), (7, 120), (8, 121), (9, 122), (10, 123)], 11, 48, [.int .u64 0, .int .u64 0, .int .u32 0, .int .u8 0, .int .u8 0, .int .u8 0, .int .u8 0, .nilf, .nilp, .int .i32 0, .int .i32 0]⟩ := by kernel_rfl
theorem ti125 : ti Try.prog 125 = some ⟨.st [(0, 12), (1, 12), (2, 99), (3, 118), (4, 5), (5, 5), (6, 119), (7, 120), (8, 121), (9, 122), (10, 123)], 11, 48, [.int .u64 0, .int .u64 0, .int .u32 0, .int .u8 0, .int .u8 0, .int .u8 0, .int .u8 0, .nilf, .nilp, .int .i32 0, .int .i32 0]⟩ := by kernel_rfl
theorem pl24 : aPlaces Try.prog [(0, 3), (1, 3), (2, 4)] = some [(0, 1), (1, 1), (2, 1)] := by kernel_rfl
theorem pl38 : aPlaces Try.prog [(0, 36), (1, 3), (2, 3)] = some [(0, 1), (1, 1), (2, 1)] := by kernel_rfl
theorem pl52 : aPlaces Try.prog [(0, 3), (1, 3)] = some [(0, 1), (1, 1)] := by kernel_rfl
theorem pl75 : aPlaces Try.prog [(0, 3), (1, 3), (2, 3)] = some [(0, 1), (1, 1), (2, 1)] := by kernel_rfl
theorem eqok24 {o : BinOp} {x y : Operand} {a b : AV} (ha : a.isAgg = true) (hb : b.isAgg = true) : guardOk Try.prog o 24 x y a b = true := guard_agg ha hb (by kernel_rfl)
theorem eqs24 {aStation : Int} {aFrom : Int} {aWorks : Bool} {bStation : Int} {bFrom : Int} {bWorks : Bool} : aBin Try.prog .eql 24 (AV.agg [(.int .i64 aStation), (.int .i64 aFrom), (.bool aWorks)]) (AV.agg [(.int .i64 bStation), (.int .i64 bFrom), (.bool bWorks)]) = some (.bool (((aStation == bStation) && ((aFrom == bFrom) && (aWorks == bWorks))))) := by
  have he24 : eqOk Try.prog 24 = true := by kernel_rfl
  simp only [aBin, aEqS, he24, if_true, List.drop_succ_cons, List.drop_zero, List.take_succ_cons, List.take_zero, List.take_nil, eqF_nil, eqF_cons, aEq0, rdAt, ti3, ti4, ti24, TK.agg, Nat.reduceAdd, Nat.reduceLT, Nat.reduceLeDiff, List.length_cons, List.length_nil, List.getD_cons_zero, List.getD_cons_succ, andO_some, Bool.and_true, Option.map_some, if_false, Bool.false_eq_true, reduceCtorEq, Nat.zero_add]
  try rfl
theorem neqs24 {aStation : Int} {aFrom : Int} {aWorks : Bool} {bStation : Int} {bFrom : Int} {bWorks : Bool} : aBin Try.prog .neq 24 (AV.agg [(.int .i64 aStation), (.int .i64 aFrom), (.bool aWorks)]) (AV.agg [(.int .i64 bStation), (.int .i64 bFrom), (.bool bWorks)]) = some (.bool (!((aStation == bStation) && ((aFrom == bFrom) && (aWorks == bWorks))))) := by
  have he24 : eqOk Try.prog 24 = true := by kernel_rfl
  simp only [aBin, aEqS, he24, if_true, List.drop_succ_cons, List.drop_zero, List.take_succ_cons, List.take_zero, List.take_nil, eqF_nil, eqF_cons, aEq0, rdAt, ti3, ti4, ti24, TK.agg, Nat.reduceAdd, Nat.reduceLT, Nat.reduceLeDiff, List.length_cons, List.length_nil, List.getD_cons_zero, List.getD_cons_succ, andO_some, Bool.and_true, Option.map_some, if_false, Bool.false_eq_true, reduceCtorEq, Nat.zero_add]
  try rfl
theorem eqok52 {o : BinOp} {x y : Operand} {a b : AV} (ha : a.isAgg = true) (hb : b.isAgg = true) : guardOk Try.prog o 52 x y a b = true := guard_agg ha hb (by kernel_rfl)
theorem eqs52 {aFrom : Int} {aTo : Int} {bFrom : Int} {bTo : Int} : aBin Try.prog .eql 52 (AV.agg [(.int .i64 aFrom), (.int .i64 aTo)]) (AV.agg [(.int .i64 bFrom), (.int .i64 bTo)]) = some (.bool (((aFrom == bFrom) && (aTo == bTo)))) := by
  have he52 : eqOk Try.prog 52 = true := by kernel_rfl
  simp only [aBin, aEqS, he52, if_true, List.drop_succ_cons, List.drop_zero, List.take_succ_cons, List.take_zero, List.take_nil, eqF_nil, eqF_cons, aEq0, rdAt, ti3, ti52, TK.agg, Nat.reduceAdd, Nat.reduceLT, Nat.reduceLeDiff, List.length_cons, List.length_nil, List.getD_cons_zero, List.getD_cons_succ, andO_some, Bool.and_true, Option.map_some, if_false, Bool.false_eq_true, reduceCtorEq, Nat.zero_add]
  try rfl
theorem neqs52 {aFrom : Int} {aTo : Int} {bFrom : Int} {bTo : Int} : aBin Try.prog .neq 52 (AV.agg [(.int .i64 aFrom), (.int .i64 aTo)]) (AV.agg [(.int .i64 bFrom), (.int .i64 bTo)]) = some (.bool (!((aFrom == bFrom) && (aTo == bTo)))) := by
  have he52 : eqOk Try.prog 52 = true := by kernel_rfl
  simp only [aBin, aEqS, he52, if_true, List.drop_succ_cons, List.drop_zero, List.take_succ_cons, List.take_zero, List.take_nil, eqF_nil, eqF_cons, aEq0, rdAt, ti3, ti52, TK.agg, Nat.reduceAdd, Nat.reduceLT, Nat.reduceLeDiff, List.length_cons, List.length_nil, List.getD_cons_zero, List.getD_cons_succ, andO_some, Bool.and_true, Option.map_some, if_false, Bool.false_eq_true, reduceCtorEq, Nat.zero_add]
  try rfl
end Go.Am
