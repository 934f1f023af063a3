/- Types in short, and their data. Written by dc.py. -/
import Derived.Test.YtjpafocobkhciaaProg
import Derived.Test.YtjpafocobkhciaaDcK
namespace Go.Am
open Go Go.Proofs
set_option linter.unusedVariables false
set_option linter.unusedSimpArgs false
instance gwI : GW Try.prog := ⟨0, fun _ => True, fun _ _ => trivial⟩
theorem hmix : Try.prog.follows .mixedOrders = true := by kernel_rfl
theorem ti1 : ti Try.prog 1 = some ⟨.fn, 1, 8, [.nilf]⟩ := by kernel_rfl
theorem ti2 : ti Try.prog 2 = some ⟨.int .i64, 1, 8, [.int .i64 0]⟩ := by kernel_rfl
theorem ti3 : ti Try.prog 3 = some ⟨.int .i64, 1, 8, [.int .i64 0]⟩ := by kernel_rfl
theorem ti4 : ti Try.prog 4 = some ⟨.bool, 1, 1, [.bool false]⟩ := by kernel_rfl
theorem ti5 : ti Try.prog 5 = some ⟨.int .u8, 1, 1, [.int .u8 0]⟩ := by kernel_rfl
theorem ti6 : ti Try.prog 6 = some ⟨.int .u8, 1, 1, [.int .u8 0]⟩ := by kernel_rfl
theorem ti7 : ti Try.prog 7 = some ⟨.st [(0, 2), (1, 3), (2, 4), (3, 6)], 4, 24, [.int .i64 0, .int .i64 0, .bool false, .int .u8 0]⟩ := by kernel_rfl
theorem ti8 : ti Try.prog 8 = some ⟨.st [(0, 2), (1, 3), (2, 4), (3, 6)], 4, 24, [.int .i64 0, .int .i64 0, .bool false, .int .u8 0]⟩ := by kernel_rfl
theorem ti9 : ti Try.prog 9 = some ⟨.str, 1, 16, [.str []]⟩ := by kernel_rfl
theorem ti10 : ti Try.prog 10 = some ⟨.str, 1, 16, [.str []]⟩ := by kernel_rfl
theorem ti11 : ti Try.prog 11 = some ⟨.str, 1, 16, [.str []]⟩ := by kernel_rfl
theorem ti12 : ti Try.prog 12 = some ⟨.int .u64, 1, 8, [.int .u64 0]⟩ := by kernel_rfl
theorem ti13 : ti Try.prog 13 = some ⟨.st [(0, 9), (1, 12)], 2, 24, [.str [], .int .u64 0]⟩ := by kernel_rfl
theorem ti14 : ti Try.prog 14 = some ⟨.st [(0, 9), (1, 12)], 2, 24, [.str [], .int .u64 0]⟩ := by kernel_rfl
theorem ti15 : ti Try.prog 15 = some ⟨.ptr 117, 1, 8, [.nilp]⟩ := by kernel_rfl
theorem ti16 : ti Try.prog 16 = some ⟨.ptr 120, 1, 8, [.nilp]⟩ := by kernel_rfl
theorem ti17 : ti Try.prog 17 = some ⟨.ptr 130, 1, 8, [.nilp]⟩ := by kernel_rfl
theorem ti18 : ti Try.prog 18 = some ⟨.st [(0, 17)], 1, 8, [.nilp]⟩ := by kernel_rfl
theorem ti19 : ti Try.prog 19 = some ⟨.st [(0, 17)], 1, 8, [.nilp]⟩ := by kernel_rfl
theorem ti20 : ti Try.prog 20 = some ⟨.ifc, 1, 16, [.nili]⟩ := by kernel_rfl
theorem ti21 : ti Try.prog 21 = some ⟨.int .i32, 1, 4, [.int .i32 0]⟩ := by kernel_rfl
theorem ti22 : ti Try.prog 22 = some ⟨.sl 41, 1, 24, [.emp]⟩ := by kernel_rfl
theorem ti23 : ti Try.prog 23 = some ⟨.sl 53, 1, 24, [.emp]⟩ := by kernel_rfl
theorem ti24 : ti Try.prog 24 = some ⟨.sl 55, 1, 24, [.emp]⟩ := by kernel_rfl
theorem ti25 : ti Try.prog 25 = some ⟨.sl 57, 1, 24, [.emp]⟩ := by kernel_rfl
theorem ti26 : ti Try.prog 26 = some ⟨.sl 59, 1, 24, [.emp]⟩ := by kernel_rfl
theorem ti27 : ti Try.prog 27 = some ⟨.sl 46, 1, 24, [.emp]⟩ := by kernel_rfl
theorem ti28 : ti Try.prog 28 = some ⟨.sl 43, 1, 24, [.emp]⟩ := by kernel_rfl
theorem ti29 : ti Try.prog 29 = some ⟨.sl 63, 1, 24, [.emp]⟩ := by kernel_rfl
theorem ti30 : ti Try.prog 30 = some ⟨.st [(0, 22), (1, 23), (2, 24), (3, 25), (4, 26), (5, 27), (6, 28), (7, 29)], 8, 192, [.emp, .emp, .emp, .emp, .emp, .emp, .emp, .emp]⟩ := by kernel_rfl
theorem ti31 : ti Try.prog 31 = some ⟨.st [(0, 22), (1, 23), (2, 24), (3, 25), (4, 26), (5, 27), (6, 28), (7, 29)], 8, 192, [.emp, .emp, .emp, .emp, .emp, .emp, .emp, .emp]⟩ := by kernel_rfl
theorem ti32 : ti Try.prog 32 = some ⟨.fn, 1, 8, [.nilf]⟩ := by kernel_rfl
theorem ti33 : ti Try.prog 33 = some ⟨.fn, 1, 8, [.nilf]⟩ := by kernel_rfl
theorem ti34 : ti Try.prog 34 = some ⟨.int .i64, 1, 8, [.int .i64 0]⟩ := by kernel_rfl
theorem ti36 : ti Try.prog 36 = some ⟨.fn, 1, 8, [.nilf]⟩ := by kernel_rfl
theorem ti37 : ti Try.prog 37 = some ⟨.fn, 1, 8, [.nilf]⟩ := by kernel_rfl
theorem ti38 : ti Try.prog 38 = some ⟨.sl 9, 1, 24, [.emp]⟩ := by kernel_rfl
theorem ti39 : ti Try.prog 39 = some ⟨.sl 61, 1, 24, [.emp]⟩ := by kernel_rfl
theorem ti40 : ti Try.prog 40 = some ⟨.st [(0, 9), (1, 39)], 2, 40, [.str [], .emp]⟩ := by kernel_rfl
theorem ti41 : ti Try.prog 41 = some ⟨.st [(0, 9), (1, 39)], 2, 40, [.str [], .emp]⟩ := by kernel_rfl
theorem ti42 : ti Try.prog 42 = some ⟨.st [(0, 9), (1, 3), (2, 3), (3, 3)], 4, 40, [.str [], .int .i64 0, .int .i64 0, .int .i64 0]⟩ := by kernel_rfl
theorem ti43 : ti Try.prog 43 = some ⟨.st [(0, 9), (1, 3), (2, 3), (3, 3)], 4, 40, [.str [], .int .i64 0, .int .i64 0, .int .i64 0]⟩ := by kernel_rfl
theorem ti44 : ti Try.prog 44 = some ⟨.sl 66, 1, 24, [.emp]⟩ := by kernel_rfl
theorem ti45 : ti Try.prog 45 = some ⟨.st [(0, 9), (1, 44)], 2, 40, [.str [], .emp]⟩ := by kernel_rfl
theorem ti46 : ti Try.prog 46 = some ⟨.st [(0, 9), (1, 44)], 2, 40, [.str [], .emp]⟩ := by kernel_rfl
theorem ti48 : ti Try.prog 48 = some ⟨.fn, 1, 8, [.nilf]⟩ := by kernel_rfl
theorem ti49 : ti Try.prog 49 = some ⟨.fn, 1, 8, [.nilf]⟩ := by kernel_rfl
theorem ti50 : ti Try.prog 50 = some ⟨.fn, 1, 8, [.nilf]⟩ := by kernel_rfl
theorem ti51 : ti Try.prog 51 = some ⟨.sl 3, 1, 24, [.emp]⟩ := by kernel_rfl
theorem ti52 : ti Try.prog 52 = some ⟨.st [(0, 9), (1, 38), (2, 51), (3, 3), (4, 3)], 5, 80, [.str [], .emp, .emp, .int .i64 0, .int .i64 0]⟩ := by kernel_rfl
theorem ti53 : ti Try.prog 53 = some ⟨.st [(0, 9), (1, 38), (2, 51), (3, 3), (4, 3)], 5, 80, [.str [], .emp, .emp, .int .i64 0, .int .i64 0]⟩ := by kernel_rfl
theorem ti54 : ti Try.prog 54 = some ⟨.st [(0, 9), (1, 38), (2, 51)], 3, 64, [.str [], .emp, .emp]⟩ := by kernel_rfl
theorem ti55 : ti Try.prog 55 = some ⟨.st [(0, 9), (1, 38), (2, 51)], 3, 64, [.str [], .emp, .emp]⟩ := by kernel_rfl
theorem ti56 : ti Try.prog 56 = some ⟨.st [(0, 9), (1, 9), (2, 3), (3, 3), (4, 39)], 5, 72, [.str [], .str [], .int .i64 0, .int .i64 0, .emp]⟩ := by kernel_rfl
theorem ti57 : ti Try.prog 57 = some ⟨.st [(0, 9), (1, 9), (2, 3), (3, 3), (4, 39)], 5, 72, [.str [], .str [], .int .i64 0, .int .i64 0, .emp]⟩ := by kernel_rfl
theorem ti58 : ti Try.prog 58 = some ⟨.st [(0, 9), (1, 9), (2, 9), (3, 3), (4, 3), (5, 38), (6, 51)], 7, 112, [.str [], .str [], .str [], .int .i64 0, .int .i64 0, .emp, .emp]⟩ := by kernel_rfl
theorem ti59 : ti Try.prog 59 = some ⟨.st [(0, 9), (1, 9), (2, 9), (3, 3), (4, 3), (5, 38), (6, 51)], 7, 112, [.str [], .str [], .str [], .int .i64 0, .int .i64 0, .emp, .emp]⟩ := by kernel_rfl
theorem ti60 : ti Try.prog 60 = some ⟨.st [(0, 3), (1, 3)], 2, 16, [.int .i64 0, .int .i64 0]⟩ := by kernel_rfl
theorem ti61 : ti Try.prog 61 = some ⟨.st [(0, 3), (1, 3)], 2, 16, [.int .i64 0, .int .i64 0]⟩ := by kernel_rfl
theorem ti62 : ti Try.prog 62 = some ⟨.st [(0, 3), (1, 9), (2, 9), (3, 3), (4, 3), (5, 3), (6, 61)], 8, 80, [.int .i64 0, .str [], .str [], .int .i64 0, .int .i64 0, .int .i64 0, .int .i64 0, .int .i64 0]⟩ := by kernel_rfl
theorem ti63 : ti Try.prog 63 = some ⟨.st [(0, 3), (1, 9), (2, 9), (3, 3), (4, 3), (5, 3), (6, 61)], 8, 80, [.int .i64 0, .str [], .str [], .int .i64 0, .int .i64 0, .int .i64 0, .int .i64 0, .int .i64 0]⟩ := by kernel_rfl
theorem ti64 : ti Try.prog 64 = some ⟨.sl 31, 1, 24, [.emp]⟩ := by kernel_rfl
theorem ti65 : ti Try.prog 65 = some ⟨.st [(0, 9), (1, 3)], 2, 24, [.str [], .int .i64 0]⟩ := by kernel_rfl
theorem ti66 : ti Try.prog 66 = some ⟨.st [(0, 9), (1, 3)], 2, 24, [.str [], .int .i64 0]⟩ := by kernel_rfl
theorem ti67 : ti Try.prog 67 = some ⟨.fn, 1, 8, [.nilf]⟩ := by kernel_rfl
theorem ti68 : ti Try.prog 68 = some ⟨.fn, 1, 8, [.nilf]⟩ := by kernel_rfl
theorem ti69 : ti Try.prog 69 = some ⟨.map 9 3, 1, 8, [.mnil]⟩ := by kernel_rfl
theorem ti70 : ti Try.prog 70 = some ⟨.map 9 3, 1, 8, [.mnil]⟩ := by kernel_rfl
theorem ti71 : ti Try.prog 71 = some ⟨.fn, 1, 8, [.nilf]⟩ := by kernel_rfl
theorem ti72 : ti Try.prog 72 = some ⟨.fn, 1, 8, [.nilf]⟩ := by kernel_rfl
theorem ti73 : ti Try.prog 73 = some ⟨.fn, 1, 8, [.nilf]⟩ := by kernel_rfl
theorem ti74 : ti Try.prog 74 = some ⟨.fn, 1, 8, [.nilf]⟩ := by kernel_rfl
theorem ti75 : ti Try.prog 75 = some ⟨.fn, 1, 8, [.nilf]⟩ := by kernel_rfl
theorem ti76 : ti Try.prog 76 = some ⟨.fn, 1, 8, [.nilf]⟩ := by kernel_rfl
theorem ti77 : ti Try.prog 77 = some ⟨.fn, 1, 8, [.nilf]⟩ := by kernel_rfl
theorem ti78 : ti Try.prog 78 = some ⟨.fn, 1, 8, [.nilf]⟩ := by kernel_rfl
theorem ti79 : ti Try.prog 79 = some ⟨.fn, 1, 8, [.nilf]⟩ := by kernel_rfl
theorem ti80 : ti Try.prog 80 = some ⟨.fn, 1, 8, [.nilf]⟩ := by kernel_rfl
theorem ti81 : ti Try.prog 81 = some ⟨.fn, 1, 8, [.nilf]⟩ := by kernel_rfl
theorem ti82 : ti Try.prog 82 = some ⟨.fn, 1, 8, [.nilf]⟩ := by kernel_rfl
theorem ti83 : ti Try.prog 83 = some ⟨.fn, 1, 8, [.nilf]⟩ := by kernel_rfl
theorem ti84 : ti Try.prog 84 = some ⟨.fn, 1, 8, [.nilf]⟩ := by kernel_rfl
theorem ti85 : ti Try.prog 85 = some ⟨.fn, 1, 8, [.nilf]⟩ := by kernel_rfl
theorem ti86 : ti Try.prog 86 = some ⟨.fn, 1, 8, [.nilf]⟩ := by kernel_rfl
theorem ti87 : ti Try.prog 87 = some ⟨.fn, 1, 8, [.nilf]⟩ := by kernel_rfl
theorem ti88 : ti Try.prog 88 = some ⟨.fn, 1, 8, [.nilf]⟩ := by kernel_rfl
theorem ti89 : ti Try.prog 89 = some ⟨.fn, 1, 8, [.nilf]⟩ := by kernel_rfl
theorem ti90 : ti Try.prog 90 = some ⟨.fn, 1, 8, [.nilf]⟩ := by kernel_rfl
theorem ti91 : ti Try.prog 91 = some ⟨.fn, 1, 8, [.nilf]⟩ := by kernel_rfl
theorem ti92 : ti Try.prog 92 = some ⟨.fn, 1, 8, [.nilf]⟩ := by kernel_rfl
theorem ti93 : ti Try.prog 93 = some ⟨.fn, 1, 8, [.nilf]⟩ := by kernel_rfl
theorem ti94 : ti Try.prog 94 = some ⟨.ptr 59, 1, 8, [.nilp]⟩ := by kernel_rfl
theorem ti95 : ti Try.prog 95 = some ⟨.ptr 63, 1, 8, [.nilp]⟩ := by kernel_rfl
theorem ti96 : ti Try.prog 96 = some ⟨.fn, 1, 8, [.nilf]⟩ := by kernel_rfl
theorem ti98 : ti Try.prog 98 = some ⟨.fn, 1, 8, [.nilf]⟩ := by kernel_rfl
theorem ti99 : ti Try.prog 99 = some ⟨.fn, 1, 8, [.nilf]⟩ := by kernel_rfl
theorem ti100 : ti Try.prog 100 = some ⟨.fn, 1, 8, [.nilf]⟩ := by kernel_rfl
theorem ti101 : ti Try.prog 101 = some ⟨.fn, 1, 8, [.nilf]⟩ := by kernel_rfl
theorem ti102 : ti Try.prog 102 = some ⟨.fn, 1, 8, [.nilf]⟩ := by kernel_rfl
theorem ti103 : ti Try.prog 103 = some ⟨.fn, 1, 8, [.nilf]⟩ := by kernel_rfl
theorem ti104 : ti Try.prog 104 = some ⟨.fn, 1, 8, [.nilf]⟩ := by kernel_rfl
theorem ti105 : ti Try.prog 105 = some ⟨.fn, 1, 8, [.nilf]⟩ := by kernel_rfl
theorem ti106 : ti Try.prog 106 = some ⟨.fn, 1, 8, [.nilf]⟩ := by kernel_rfl
theorem ti107 : ti Try.prog 107 = some ⟨.fn, 1, 8, [.nilf]⟩ := by kernel_rfl
theorem ti108 : ti Try.prog 108 = some ⟨.fn, 1, 8, [.nilf]⟩ := by kernel_rfl
theorem ti109 : ti Try.prog 109 = some ⟨.fn, 1, 8, [.nilf]⟩ := by kernel_rfl
theorem ti110 : ti Try.prog 110 = some ⟨.fn, 1, 8, [.nilf]⟩ := by kernel_rfl
theorem ti111 : ti Try.prog 111 = some ⟨.fn, 1, 8, [.nilf]⟩ := by kernel_rfl
theorem ti112 : ti Try.prog 112 = some ⟨.fn, 1, 8, [.nilf]⟩ := by kernel_rfl
theorem ti113 : ti Try.prog 113 = some ⟨.fn, 1, 8, [.nilf]⟩ := by kernel_rfl
theorem ti114 : ti Try.prog 114 = some ⟨.fn, 1, 8, [.nilf]⟩ := by kernel_rfl
theorem ti115 : ti Try.prog 115 = some ⟨.fn, 1, 8, [.nilf]⟩ := by kernel_rfl
theorem ti116 : ti Try.prog 116 = some ⟨.st [(0, 17), (1, 17), (2, 17), (3, 9)], 4, 40, [.nilp, .nilp, .nilp, .str []]⟩ := by kernel_rfl
theorem ti117 : ti Try.prog 117 = some ⟨.st [(0, 17), (1, 17), (2, 17), (3, 9)], 4, 40, [.nilp, .nilp, .nilp, .str []]⟩ := by kernel_rfl
theorem ti118 : ti Try.prog 118 = some ⟨.arr 0 16, 0, 0, []⟩ := by kernel_rfl
theorem ti119 : ti Try.prog 119 = some ⟨.st [(0, 118)], 0, 0, []⟩ := by kernel_rfl
theorem ti120 : ti Try.prog 120 = some ⟨.st [(0, 118)], 0, 0, []⟩ := by kernel_rfl
theorem ti121 : ti Try.prog 121 = some ⟨.fn, 1, 8, [.nilf]⟩ := by kernel_rfl
theorem ti122 : ti Try.prog 122 = some ⟨.int .u32, 1, 4, [.int .u32 0]⟩ := by kernel_rfl
theorem ti123 : ti Try.prog 123 = some ⟨.int .u8, 1, 1, [.int .u8 0]⟩ := by kernel_rfl
theorem ti124 : ti Try.prog 124 = some ⟨.int .u8, 1, 1, [.int .u8 0]⟩ := by kernel_rfl
theorem ti125 : ti Try.prog 125 = some ⟨.fn, 1, 8, [.nilf]⟩ := by kernel_rfl
theorem ti126 : ti Try.prog 126 = some ⟨.ptr 5, 1, 8, [.nilp]⟩ := by kernel_rfl
theorem ti127 : ti Try.prog 127 = some ⟨.int .i32, 1, 4, [.int .i32 0]⟩ := by kernel_rfl
theorem ti128 : ti Try.prog 128 = some ⟨.int .i32, 1, 4, [.int .i32 0]⟩ := by kernel_rfl
theorem ti129 : ti Try.prog 129 = some ⟨.st [(0, 12), (1, 12), (2, 122), (3, 123), (4, 5), (5, 5), (6, 124), (7, 125), (8, 126), (9, 127), (10, 128)], 11, 48, [.int .u64 0, .int .u64 0, .int .u32 0, .int .u8 0, .int .u8 0, .int .u8 0, .int .u8 0, .nilf, .nilp, .int .i32 0, .int .i32 0]⟩ := by kernel_rfl
theorem ti130 : ti Try.prog 130 = some ⟨.st [(0, 12), (1, 12), (2, 122), (3, 123), (4, 5), (5, 5), (6, 124), (7, 125), (8, 126), (9, 127), (10, 128)], 11, 48, [.int .u64 0, .int .u64 0, .int .u32 0, .int .u8 0, .int .u8 0, .int .u8 0, .int .u8 0, .nilf, .nilp, .int .i32 0, .int .i32 0]⟩ := by kernel_rfl
theorem pl31 : aPlaces Try.prog [(0, 22), (1, 23), (2, 24), (3, 25), (4, 26), (5, 27), (6, 28), (7, 29)] = some [(0, 1), (1, 1), (2, 1), (3, 1), (4, 1), (5, 1), (6, 1), (7, 1)] := by kernel_rfl
theorem pl41 : aPlaces Try.prog [(0, 9), (1, 39)] = some [(0, 1), (1, 1)] := by kernel_rfl
theorem pl43 : aPlaces Try.prog [(0, 9), (1, 3), (2, 3), (3, 3)] = some [(0, 1), (1, 1), (2, 1), (3, 1)] := by kernel_rfl
theorem pl46 : aPlaces Try.prog [(0, 9), (1, 44)] = some [(0, 1), (1, 1)] := by kernel_rfl
theorem pl53 : aPlaces Try.prog [(0, 9), (1, 38), (2, 51), (3, 3), (4, 3)] = some [(0, 1), (1, 1), (2, 1), (3, 1), (4, 1)] := by kernel_rfl
theorem pl55 : aPlaces Try.prog [(0, 9), (1, 38), (2, 51)] = some [(0, 1), (1, 1), (2, 1)] := by kernel_rfl
theorem pl57 : aPlaces Try.prog [(0, 9), (1, 9), (2, 3), (3, 3), (4, 39)] = some [(0, 1), (1, 1), (2, 1), (3, 1), (4, 1)] := by kernel_rfl
theorem pl59 : aPlaces Try.prog [(0, 9), (1, 9), (2, 9), (3, 3), (4, 3), (5, 38), (6, 51)] = some [(0, 1), (1, 1), (2, 1), (3, 1), (4, 1), (5, 1), (6, 1)] := by kernel_rfl
theorem pl63 : aPlaces Try.prog [(0, 3), (1, 9), (2, 9), (3, 3), (4, 3), (5, 3), (6, 61)] = some [(0, 1), (1, 1), (2, 1), (3, 1), (4, 1), (5, 1), (6, 2)] := by kernel_rfl
theorem pl66 : aPlaces Try.prog [(0, 9), (1, 3)] = some [(0, 1), (1, 1)] := by kernel_rfl
theorem eqok43 {o : BinOp} {x y : Operand} {a b : AV} (ha : a.isAgg = true) (hb : b.isAgg = true) : guardOk Try.prog o 43 x y a b = true := guard_agg ha hb (by kernel_rfl)
theorem eqs43 {aName : Str} {aSlow : Int} {aFast : Int} {aPlaces : Int} {bName : Str} {bSlow : Int} {bFast : Int} {bPlaces : Int} : aBin Try.prog .eql 43 (AV.agg [(.str aName), (.int .i64 aSlow), (.int .i64 aFast), (.int .i64 aPlaces)]) (AV.agg [(.str bName), (.int .i64 bSlow), (.int .i64 bFast), (.int .i64 bPlaces)]) = some (.bool (((aName == bName) && ((aSlow == bSlow) && ((aFast == bFast) && (aPlaces == bPlaces)))))) := by
  have he43 : eqOk Try.prog 43 = true := by kernel_rfl
  simp only [aBin, aEqS, he43, if_true, List.drop_succ_cons, List.drop_zero, List.take_succ_cons, List.take_zero, List.take_nil, eqF_nil, eqF_cons, aEq0, rdAt, ti3, ti9, ti43, TK.agg, Nat.reduceAdd, Nat.reduceLT, Nat.reduceLeDiff, List.length_cons, List.length_nil, List.getD_cons_zero, List.getD_cons_succ, andO_some, Bool.and_true, Option.map_some, if_false, Bool.false_eq_true, reduceCtorEq, Nat.zero_add]
  try rfl
theorem neqs43 {aName : Str} {aSlow : Int} {aFast : Int} {aPlaces : Int} {bName : Str} {bSlow : Int} {bFast : Int} {bPlaces : Int} : aBin Try.prog .neq 43 (AV.agg [(.str aName), (.int .i64 aSlow), (.int .i64 aFast), (.int .i64 aPlaces)]) (AV.agg [(.str bName), (.int .i64 bSlow), (.int .i64 bFast), (.int .i64 bPlaces)]) = some (.bool (!((aName == bName) && ((aSlow == bSlow) && ((aFast == bFast) && (aPlaces == bPlaces)))))) := by
  have he43 : eqOk Try.prog 43 = true := by kernel_rfl
  simp only [aBin, aEqS, he43, if_true, List.drop_succ_cons, List.drop_zero, List.take_succ_cons, List.take_zero, List.take_nil, eqF_nil, eqF_cons, aEq0, rdAt, ti3, ti9, ti43, TK.agg, Nat.reduceAdd, Nat.reduceLT, Nat.reduceLeDiff, List.length_cons, List.length_nil, List.getD_cons_zero, List.getD_cons_succ, andO_some, Bool.and_true, Option.map_some, if_false, Bool.false_eq_true, reduceCtorEq, Nat.zero_add]
  try rfl
theorem eqok61 {o : BinOp} {x y : Operand} {a b : AV} (ha : a.isAgg = true) (hb : b.isAgg = true) : guardOk Try.prog o 61 x y a b = true := guard_agg ha hb (by kernel_rfl)
theorem eqs61 {aFrom : Int} {aTo : Int} {bFrom : Int} {bTo : Int} : aBin Try.prog .eql 61 (AV.agg [(.int .i64 aFrom), (.int .i64 aTo)]) (AV.agg [(.int .i64 bFrom), (.int .i64 bTo)]) = some (.bool (((aFrom == bFrom) && (aTo == bTo)))) := by
  have he61 : eqOk Try.prog 61 = true := by kernel_rfl
  simp only [aBin, aEqS, he61, if_true, List.drop_succ_cons, List.drop_zero, List.take_succ_cons, List.take_zero, List.take_nil, eqF_nil, eqF_cons, aEq0, rdAt, ti3, ti61, TK.agg, Nat.reduceAdd, Nat.reduceLT, Nat.reduceLeDiff, List.length_cons, List.length_nil, List.getD_cons_zero, List.getD_cons_succ, andO_some, Bool.and_true, Option.map_some, if_false, Bool.false_eq_true, reduceCtorEq, Nat.zero_add]
  try rfl
theorem neqs61 {aFrom : Int} {aTo : Int} {bFrom : Int} {bTo : Int} : aBin Try.prog .neq 61 (AV.agg [(.int .i64 aFrom), (.int .i64 aTo)]) (AV.agg [(.int .i64 bFrom), (.int .i64 bTo)]) = some (.bool (!((aFrom == bFrom) && (aTo == bTo)))) := by
  have he61 : eqOk Try.prog 61 = true := by kernel_rfl
  simp only [aBin, aEqS, he61, if_true, List.drop_succ_cons, List.drop_zero, List.take_succ_cons, List.take_zero, List.take_nil, eqF_nil, eqF_cons, aEq0, rdAt, ti3, ti61, TK.agg, Nat.reduceAdd, Nat.reduceLT, Nat.reduceLeDiff, List.length_cons, List.length_nil, List.getD_cons_zero, List.getD_cons_succ, andO_some, Bool.and_true, Option.map_some, if_false, Bool.false_eq_true, reduceCtorEq, Nat.zero_add]
  try rfl
theorem eqok63 {o : BinOp} {x y : Operand} {a b : AV} (ha : a.isAgg = true) (hb : b.isAgg = true) : guardOk Try.prog o 63 x y a b = true := guard_agg ha hb (by kernel_rfl)
theorem eqs63 {aKind : Int} {aC : Str} {aA : Str} {aClass : Int} {aAirport : Int} {aN : Int} {aHours_From : Int} {aHours_To : Int} {bKind : Int} {bC : Str} {bA : Str} {bClass : Int} {bAirport : Int} {bN : Int} {bHours_From : Int} {bHours_To : Int} : aBin Try.prog .eql 63 (AV.agg [(.int .i64 aKind), (.str aC), (.str aA), (.int .i64 aClass), (.int .i64 aAirport), (.int .i64 aN), (.int .i64 aHours_From), (.int .i64 aHours_To)]) (AV.agg [(.int .i64 bKind), (.str bC), (.str bA), (.int .i64 bClass), (.int .i64 bAirport), (.int .i64 bN), (.int .i64 bHours_From), (.int .i64 bHours_To)]) = some (.bool (((aKind == bKind) && ((aC == bC) && ((aA == bA) && ((aClass == bClass) && ((aAirport == bAirport) && ((aN == bN) && ((aHours_From == bHours_From) && (aHours_To == bHours_To)))))))))) := by
  have he61 : eqOk Try.prog 61 = true := by kernel_rfl
  have he63 : eqOk Try.prog 63 = true := by kernel_rfl
  simp only [aBin, aEqS, he61, he63, if_true, List.drop_succ_cons, List.drop_zero, List.take_succ_cons, List.take_zero, List.take_nil, eqF_nil, eqF_cons, aEq0, rdAt, ti3, ti9, ti61, ti63, TK.agg, Nat.reduceAdd, Nat.reduceLT, Nat.reduceLeDiff, List.length_cons, List.length_nil, List.getD_cons_zero, List.getD_cons_succ, andO_some, Bool.and_true, Option.map_some, if_false, Bool.false_eq_true, reduceCtorEq, Nat.zero_add]
  try rfl
theorem neqs63 {aKind : Int} {aC : Str} {aA : Str} {aClass : Int} {aAirport : Int} {aN : Int} {aHours_From : Int} {aHours_To : Int} {bKind : Int} {bC : Str} {bA : Str} {bClass : Int} {bAirport : Int} {bN : Int} {bHours_From : Int} {bHours_To : Int} : aBin Try.prog .neq 63 (AV.agg [(.int .i64 aKind), (.str aC), (.str aA), (.int .i64 aClass), (.int .i64 aAirport), (.int .i64 aN), (.int .i64 aHours_From), (.int .i64 aHours_To)]) (AV.agg [(.int .i64 bKind), (.str bC), (.str bA), (.int .i64 bClass), (.int .i64 bAirport), (.int .i64 bN), (.int .i64 bHours_From), (.int .i64 bHours_To)]) = some (.bool (!((aKind == bKind) && ((aC == bC) && ((aA == bA) && ((aClass == bClass) && ((aAirport == bAirport) && ((aN == bN) && ((aHours_From == bHours_From) && (aHours_To == bHours_To)))))))))) := by
  have he61 : eqOk Try.prog 61 = true := by kernel_rfl
  have he63 : eqOk Try.prog 63 = true := by kernel_rfl
  simp only [aBin, aEqS, he61, he63, if_true, List.drop_succ_cons, List.drop_zero, List.take_succ_cons, List.take_zero, List.take_nil, eqF_nil, eqF_cons, aEq0, rdAt, ti3, ti9, ti61, ti63, TK.agg, Nat.reduceAdd, Nat.reduceLT, Nat.reduceLeDiff, List.length_cons, List.length_nil, List.getD_cons_zero, List.getD_cons_succ, andO_some, Bool.and_true, Option.map_some, if_false, Bool.false_eq_true, reduceCtorEq, Nat.zero_add]
  try rfl
theorem eqok66 {o : BinOp} {x y : Operand} {a b : AV} (ha : a.isAgg = true) (hb : b.isAgg = true) : guardOk Try.prog o 66 x y a b = true := guard_agg ha hb (by kernel_rfl)
theorem eqs66 {aName : Str} {aPlaces : Int} {bName : Str} {bPlaces : Int} : aBin Try.prog .eql 66 (AV.agg [(.str aName), (.int .i64 aPlaces)]) (AV.agg [(.str bName), (.int .i64 bPlaces)]) = some (.bool (((aName == bName) && (aPlaces == bPlaces)))) := by
  have he66 : eqOk Try.prog 66 = true := by kernel_rfl
  simp only [aBin, aEqS, he66, if_true, List.drop_succ_cons, List.drop_zero, List.take_succ_cons, List.take_zero, List.take_nil, eqF_nil, eqF_cons, aEq0, rdAt, ti3, ti9, ti66, TK.agg, Nat.reduceAdd, Nat.reduceLT, Nat.reduceLeDiff, List.length_cons, List.length_nil, List.getD_cons_zero, List.getD_cons_succ, andO_some, Bool.and_true, Option.map_some, if_false, Bool.false_eq_true, reduceCtorEq, Nat.zero_add]
  try rfl
theorem neqs66 {aName : Str} {aPlaces : Int} {bName : Str} {bPlaces : Int} : aBin Try.prog .neq 66 (AV.agg [(.str aName), (.int .i64 aPlaces)]) (AV.agg [(.str bName), (.int .i64 bPlaces)]) = some (.bool (!((aName == bName) && (aPlaces == bPlaces)))) := by
  have he66 : eqOk Try.prog 66 = true := by kernel_rfl
  simp only [aBin, aEqS, he66, if_true, List.drop_succ_cons, List.drop_zero, List.take_succ_cons, List.take_zero, List.take_nil, eqF_nil, eqF_cons, aEq0, rdAt, ti3, ti9, ti66, TK.agg, Nat.reduceAdd, Nat.reduceLT, Nat.reduceLeDiff, List.length_cons, List.length_nil, List.getD_cons_zero, List.getD_cons_succ, andO_some, Bool.and_true, Option.map_some, if_false, Bool.false_eq_true, reduceCtorEq, Nat.zero_add]
  try rfl
end Go.Am
