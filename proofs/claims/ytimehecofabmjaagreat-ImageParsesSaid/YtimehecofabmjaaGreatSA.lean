/- The ground on which laws of thronglaw26 are proved: contracts of functions and plain lemmas; no condition beyond the row's own. -/
import Derived.KernelRfl
import Derived.Test.YtimehecofabmjaaGreatProg
import Derived.Test.YtimehecofabmjaaGreatVB
set_option linter.unusedSimpArgs false
set_option linter.unusedVariables false
namespace Go.Proofs
open Go Go.V
set_option linter.unusedVariables false
def ti1 : V.TI := { ty := .func, size := 1, bytes := 8, zero := [.nilFunc], eq := false }
theorem ti1_ok : V.infoOf Tryz.prog 1 ti1.eq = some ti1 := by kernel_rfl
def ti2 : V.TI := { ty := .int .i64, size := 1, bytes := 8, zero := [.int .i64 0], eq := false }
theorem ti2_ok : V.infoOf Tryz.prog 2 ti2.eq = some ti2 := by kernel_rfl
def ti3 : V.TI := { ty := .int .i64, size := 1, bytes := 8, zero := [.int .i64 0], eq := false }
theorem ti3_ok : V.infoOf Tryz.prog 3 ti3.eq = some ti3 := by kernel_rfl
def ti4 : V.TI := { ty := .bool, size := 1, bytes := 1, zero := [.bool false], eq := false }
theorem ti4_ok : V.infoOf Tryz.prog 4 ti4.eq = some ti4 := by kernel_rfl
def ti5 : V.TI := { ty := .int .u8, size := 1, bytes := 1, zero := [.int .u8 0], eq := false }
theorem ti5_ok : V.infoOf Tryz.prog 5 ti5.eq = some ti5 := by kernel_rfl
def ti6 : V.TI := { ty := .int .u8, size := 1, bytes := 1, zero := [.int .u8 0], eq := false }
theorem ti6_ok : V.infoOf Tryz.prog 6 ti6.eq = some ti6 := by kernel_rfl
def ti7 : V.TI := { ty := .struct [(0, 2), (1, 3), (2, 4), (3, 6)], size := 4, bytes := 24, zero := [.int .i64 0, .int .i64 0, .bool false, .int .u8 0], eq := true }
theorem ti7_ok : V.infoOf Tryz.prog 7 ti7.eq = some ti7 := by kernel_rfl
def ti8 : V.TI := { ty := .struct [(0, 2), (1, 3), (2, 4), (3, 6)], size := 4, bytes := 24, zero := [.int .i64 0, .int .i64 0, .bool false, .int .u8 0], eq := true }
theorem ti8_ok : V.infoOf Tryz.prog 8 ti8.eq = some ti8 := by kernel_rfl
def ti9 : V.TI := { ty := .str, size := 1, bytes := 16, zero := [.string ⟨#[]⟩], eq := false }
theorem ti9_ok : V.infoOf Tryz.prog 9 ti9.eq = some ti9 := by kernel_rfl
def ti10 : V.TI := { ty := .str, size := 1, bytes := 16, zero := [.string ⟨#[]⟩], eq := false }
theorem ti10_ok : V.infoOf Tryz.prog 10 ti10.eq = some ti10 := by kernel_rfl
def ti11 : V.TI := { ty := .str, size := 1, bytes := 16, zero := [.string ⟨#[]⟩], eq := false }
theorem ti11_ok : V.infoOf Tryz.prog 11 ti11.eq = some ti11 := by kernel_rfl
def ti12 : V.TI := { ty := .int .u64, size := 1, bytes := 8, zero := [.int .u64 0], eq := false }
theorem ti12_ok : V.infoOf Tryz.prog 12 ti12.eq = some ti12 := by kernel_rfl
def ti13 : V.TI := { ty := .struct [(0, 9), (1, 12)], size := 2, bytes := 24, zero := [.string ⟨#[]⟩, .int .u64 0], eq := false }
theorem ti13_ok : V.infoOf Tryz.prog 13 ti13.eq = some ti13 := by kernel_rfl
def ti14 : V.TI := { ty := .struct [(0, 9), (1, 12)], size := 2, bytes := 24, zero := [.string ⟨#[]⟩, .int .u64 0], eq := false }
theorem ti14_ok : V.infoOf Tryz.prog 14 ti14.eq = some ti14 := by kernel_rfl
def ti15 : V.TI := { ty := .ptr 228, size := 1, bytes := 8, zero := [.pointer none], eq := false }
theorem ti15_ok : V.infoOf Tryz.prog 15 ti15.eq = some ti15 := by kernel_rfl
def ti16 : V.TI := { ty := .ptr 231, size := 1, bytes := 8, zero := [.pointer none], eq := false }
theorem ti16_ok : V.infoOf Tryz.prog 16 ti16.eq = some ti16 := by kernel_rfl
def ti17 : V.TI := { ty := .ptr 240, size := 1, bytes := 8, zero := [.pointer none], eq := false }
theorem ti17_ok : V.infoOf Tryz.prog 17 ti17.eq = some ti17 := by kernel_rfl
def ti18 : V.TI := { ty := .struct [(0, 17)], size := 1, bytes := 8, zero := [.pointer none], eq := false }
theorem ti18_ok : V.infoOf Tryz.prog 18 ti18.eq = some ti18 := by kernel_rfl
def ti19 : V.TI := { ty := .struct [(0, 17)], size := 1, bytes := 8, zero := [.pointer none], eq := false }
theorem ti19_ok : V.infoOf Tryz.prog 19 ti19.eq = some ti19 := by kernel_rfl
def ti21 : V.TI := { ty := .int .i32, size := 1, bytes := 4, zero := [.int .i32 0], eq := false }
theorem ti21_ok : V.infoOf Tryz.prog 21 ti21.eq = some ti21 := by kernel_rfl
def ti22 : V.TI := { ty := .slice 32, size := 1, bytes := 24, zero := [.slice none 0 0], eq := false }
theorem ti22_ok : V.infoOf Tryz.prog 22 ti22.eq = some ti22 := by kernel_rfl
def ti23 : V.TI := { ty := .func, size := 1, bytes := 8, zero := [.nilFunc], eq := false }
theorem ti23_ok : V.infoOf Tryz.prog 23 ti23.eq = some ti23 := by kernel_rfl
def ti24 : V.TI := { ty := .slice 5, size := 1, bytes := 24, zero := [.slice none 0 0], eq := false }
theorem ti24_ok : V.infoOf Tryz.prog 24 ti24.eq = some ti24 := by kernel_rfl
def ti25 : V.TI := { ty := .struct [(0, 3), (1, 3), (2, 24)], size := 3, bytes := 40, zero := [.int .i64 0, .int .i64 0, .slice none 0 0], eq := true }
theorem ti25_ok : V.infoOf Tryz.prog 25 ti25.eq = some ti25 := by kernel_rfl
def ti26 : V.TI := { ty := .struct [(0, 3), (1, 3), (2, 24)], size := 3, bytes := 40, zero := [.int .i64 0, .int .i64 0, .slice none 0 0], eq := true }
theorem ti26_ok : V.infoOf Tryz.prog 26 ti26.eq = some ti26 := by kernel_rfl
def ti27 : V.TI := { ty := .slice 66, size := 1, bytes := 24, zero := [.slice none 0 0], eq := false }
theorem ti27_ok : V.infoOf Tryz.prog 27 ti27.eq = some ti27 := by kernel_rfl
def ti28 : V.TI := { ty := .slice 70, size := 1, bytes := 24, zero := [.slice none 0 0], eq := false }
theorem ti28_ok : V.infoOf Tryz.prog 28 ti28.eq = some ti28 := by kernel_rfl
def ti29 : V.TI := { ty := .struct [(0, 3), (1, 3), (2, 3), (3, 26), (6, 27), (7, 28)], size := 8, bytes := 112, zero := [.int .i64 0, .int .i64 0, .int .i64 0, .int .i64 0, .int .i64 0, .slice none 0 0, .slice none 0 0, .slice none 0 0], eq := true }
theorem ti29_ok : V.infoOf Tryz.prog 29 ti29.eq = some ti29 := by kernel_rfl
def ti30 : V.TI := { ty := .struct [(0, 3), (1, 3), (2, 3), (3, 26), (6, 27), (7, 28)], size := 8, bytes := 112, zero := [.int .i64 0, .int .i64 0, .int .i64 0, .int .i64 0, .int .i64 0, .slice none 0 0, .slice none 0 0, .slice none 0 0], eq := true }
theorem ti30_ok : V.infoOf Tryz.prog 30 ti30.eq = some ti30 := by kernel_rfl
def ti31 : V.TI := { ty := .struct [(0, 30), (8, 24)], size := 9, bytes := 136, zero := [.int .i64 0, .int .i64 0, .int .i64 0, .int .i64 0, .int .i64 0, .slice none 0 0, .slice none 0 0, .slice none 0 0, .slice none 0 0], eq := true }
theorem ti31_ok : V.infoOf Tryz.prog 31 ti31.eq = some ti31 := by kernel_rfl
def ti32 : V.TI := { ty := .struct [(0, 30), (8, 24)], size := 9, bytes := 136, zero := [.int .i64 0, .int .i64 0, .int .i64 0, .int .i64 0, .int .i64 0, .slice none 0 0, .slice none 0 0, .slice none 0 0, .slice none 0 0], eq := true }
theorem ti32_ok : V.infoOf Tryz.prog 32 ti32.eq = some ti32 := by kernel_rfl
def ti33 : V.TI := { ty := .func, size := 1, bytes := 8, zero := [.nilFunc], eq := false }
theorem ti33_ok : V.infoOf Tryz.prog 33 ti33.eq = some ti33 := by kernel_rfl
def ti34 : V.TI := { ty := .int .i64, size := 1, bytes := 8, zero := [.int .i64 0], eq := false }
theorem ti34_ok : V.infoOf Tryz.prog 34 ti34.eq = some ti34 := by kernel_rfl
def ti36 : V.TI := { ty := .func, size := 1, bytes := 8, zero := [.nilFunc], eq := false }
theorem ti36_ok : V.infoOf Tryz.prog 36 ti36.eq = some ti36 := by kernel_rfl
def ti38 : V.TI := { ty := .func, size := 1, bytes := 8, zero := [.nilFunc], eq := false }
theorem ti38_ok : V.infoOf Tryz.prog 38 ti38.eq = some ti38 := by kernel_rfl
def ti39 : V.TI := { ty := .func, size := 1, bytes := 8, zero := [.nilFunc], eq := false }
theorem ti39_ok : V.infoOf Tryz.prog 39 ti39.eq = some ti39 := by kernel_rfl
def ti40 : V.TI := { ty := .func, size := 1, bytes := 8, zero := [.nilFunc], eq := false }
theorem ti40_ok : V.infoOf Tryz.prog 40 ti40.eq = some ti40 := by kernel_rfl
def ti41 : V.TI := { ty := .func, size := 1, bytes := 8, zero := [.nilFunc], eq := false }
theorem ti41_ok : V.infoOf Tryz.prog 41 ti41.eq = some ti41 := by kernel_rfl
def ti42 : V.TI := { ty := .func, size := 1, bytes := 8, zero := [.nilFunc], eq := false }
theorem ti42_ok : V.infoOf Tryz.prog 42 ti42.eq = some ti42 := by kernel_rfl
def ti43 : V.TI := { ty := .func, size := 1, bytes := 8, zero := [.nilFunc], eq := false }
theorem ti43_ok : V.infoOf Tryz.prog 43 ti43.eq = some ti43 := by kernel_rfl
def ti44 : V.TI := { ty := .func, size := 1, bytes := 8, zero := [.nilFunc], eq := false }
theorem ti44_ok : V.infoOf Tryz.prog 44 ti44.eq = some ti44 := by kernel_rfl
def ti46 : V.TI := { ty := .func, size := 1, bytes := 8, zero := [.nilFunc], eq := false }
theorem ti46_ok : V.infoOf Tryz.prog 46 ti46.eq = some ti46 := by kernel_rfl
def ti47 : V.TI := { ty := .func, size := 1, bytes := 8, zero := [.nilFunc], eq := false }
theorem ti47_ok : V.infoOf Tryz.prog 47 ti47.eq = some ti47 := by kernel_rfl
def ti48 : V.TI := { ty := .int .u64, size := 1, bytes := 8, zero := [.int .u64 0], eq := false }
theorem ti48_ok : V.infoOf Tryz.prog 48 ti48.eq = some ti48 := by kernel_rfl
def ti50 : V.TI := { ty := .func, size := 1, bytes := 8, zero := [.nilFunc], eq := false }
theorem ti50_ok : V.infoOf Tryz.prog 50 ti50.eq = some ti50 := by kernel_rfl
def ti51 : V.TI := { ty := .func, size := 1, bytes := 8, zero := [.nilFunc], eq := false }
theorem ti51_ok : V.infoOf Tryz.prog 51 ti51.eq = some ti51 := by kernel_rfl
def ti52 : V.TI := { ty := .func, size := 1, bytes := 8, zero := [.nilFunc], eq := false }
theorem ti52_ok : V.infoOf Tryz.prog 52 ti52.eq = some ti52 := by kernel_rfl
def ti53 : V.TI := { ty := .func, size := 1, bytes := 8, zero := [.nilFunc], eq := false }
theorem ti53_ok : V.infoOf Tryz.prog 53 ti53.eq = some ti53 := by kernel_rfl
def ti54 : V.TI := { ty := .ptr 56, size := 1, bytes := 8, zero := [.pointer none], eq := false }
theorem ti54_ok : V.infoOf Tryz.prog 54 ti54.eq = some ti54 := by kernel_rfl
def ti55 : V.TI := { ty := .struct [(0, 24), (1, 34)], size := 2, bytes := 32, zero := [.slice none 0 0, .int .i64 0], eq := true }
theorem ti55_ok : V.infoOf Tryz.prog 55 ti55.eq = some ti55 := by kernel_rfl
def ti56 : V.TI := { ty := .struct [(0, 24), (1, 34)], size := 2, bytes := 32, zero := [.slice none 0 0, .int .i64 0], eq := true }
theorem ti56_ok : V.infoOf Tryz.prog 56 ti56.eq = some ti56 := by kernel_rfl
def ti57 : V.TI := { ty := .func, size := 1, bytes := 8, zero := [.nilFunc], eq := false }
theorem ti57_ok : V.infoOf Tryz.prog 57 ti57.eq = some ti57 := by kernel_rfl
def ti58 : V.TI := { ty := .func, size := 1, bytes := 8, zero := [.nilFunc], eq := false }
theorem ti58_ok : V.infoOf Tryz.prog 58 ti58.eq = some ti58 := by kernel_rfl
def ti59 : V.TI := { ty := .ptr 3, size := 1, bytes := 8, zero := [.pointer none], eq := false }
theorem ti59_ok : V.infoOf Tryz.prog 59 ti59.eq = some ti59 := by kernel_rfl
def ti60 : V.TI := { ty := .func, size := 1, bytes := 8, zero := [.nilFunc], eq := false }
theorem ti60_ok : V.infoOf Tryz.prog 60 ti60.eq = some ti60 := by kernel_rfl
def ti62 : V.TI := { ty := .func, size := 1, bytes := 8, zero := [.nilFunc], eq := false }
theorem ti62_ok : V.infoOf Tryz.prog 62 ti62.eq = some ti62 := by kernel_rfl
def ti63 : V.TI := { ty := .func, size := 1, bytes := 8, zero := [.nilFunc], eq := false }
theorem ti63_ok : V.infoOf Tryz.prog 63 ti63.eq = some ti63 := by kernel_rfl
def ti64 : V.TI := { ty := .func, size := 1, bytes := 8, zero := [.nilFunc], eq := false }
theorem ti64_ok : V.infoOf Tryz.prog 64 ti64.eq = some ti64 := by kernel_rfl
def ti65 : V.TI := { ty := .struct [(0, 3), (1, 3), (2, 3), (3, 3), (4, 3), (5, 3)], size := 6, bytes := 48, zero := [.int .i64 0, .int .i64 0, .int .i64 0, .int .i64 0, .int .i64 0, .int .i64 0], eq := true }
theorem ti65_ok : V.infoOf Tryz.prog 65 ti65.eq = some ti65 := by kernel_rfl
def ti66 : V.TI := { ty := .struct [(0, 3), (1, 3), (2, 3), (3, 3), (4, 3), (5, 3)], size := 6, bytes := 48, zero := [.int .i64 0, .int .i64 0, .int .i64 0, .int .i64 0, .int .i64 0, .int .i64 0], eq := true }
theorem ti66_ok : V.infoOf Tryz.prog 66 ti66.eq = some ti66 := by kernel_rfl
def ti67 : V.TI := { ty := .struct [(0, 2), (1, 2)], size := 2, bytes := 16, zero := [.int .i64 0, .int .i64 0], eq := true }
theorem ti67_ok : V.infoOf Tryz.prog 67 ti67.eq = some ti67 := by kernel_rfl
def ti68 : V.TI := { ty := .struct [(0, 2), (1, 2)], size := 2, bytes := 16, zero := [.int .i64 0, .int .i64 0], eq := true }
theorem ti68_ok : V.infoOf Tryz.prog 68 ti68.eq = some ti68 := by kernel_rfl
def ti69 : V.TI := { ty := .struct [(0, 3), (1, 3), (2, 3), (3, 68), (5, 3), (6, 3), (7, 3), (8, 3), (9, 3)], size := 10, bytes := 80, zero := [.int .i64 0, .int .i64 0, .int .i64 0, .int .i64 0, .int .i64 0, .int .i64 0, .int .i64 0, .int .i64 0, .int .i64 0, .int .i64 0], eq := true }
theorem ti69_ok : V.infoOf Tryz.prog 69 ti69.eq = some ti69 := by kernel_rfl
def ti70 : V.TI := { ty := .struct [(0, 3), (1, 3), (2, 3), (3, 68), (5, 3), (6, 3), (7, 3), (8, 3), (9, 3)], size := 10, bytes := 80, zero := [.int .i64 0, .int .i64 0, .int .i64 0, .int .i64 0, .int .i64 0, .int .i64 0, .int .i64 0, .int .i64 0, .int .i64 0, .int .i64 0], eq := true }
theorem ti70_ok : V.infoOf Tryz.prog 70 ti70.eq = some ti70 := by kernel_rfl
def ti71 : V.TI := { ty := .func, size := 1, bytes := 8, zero := [.nilFunc], eq := false }
theorem ti71_ok : V.infoOf Tryz.prog 71 ti71.eq = some ti71 := by kernel_rfl
def ti72 : V.TI := { ty := .func, size := 1, bytes := 8, zero := [.nilFunc], eq := false }
theorem ti72_ok : V.infoOf Tryz.prog 72 ti72.eq = some ti72 := by kernel_rfl
def ti73 : V.TI := { ty := .func, size := 1, bytes := 8, zero := [.nilFunc], eq := false }
theorem ti73_ok : V.infoOf Tryz.prog 73 ti73.eq = some ti73 := by kernel_rfl
def ti74 : V.TI := { ty := .func, size := 1, bytes := 8, zero := [.nilFunc], eq := false }
theorem ti74_ok : V.infoOf Tryz.prog 74 ti74.eq = some ti74 := by kernel_rfl
def ti75 : V.TI := { ty := .ptr 77, size := 1, bytes := 8, zero := [.pointer none], eq := false }
theorem ti75_ok : V.infoOf Tryz.prog 75 ti75.eq = some ti75 := by kernel_rfl
def ti76 : V.TI := { ty := .struct [(0, 24), (1, 3), (2, 3)], size := 3, bytes := 40, zero := [.slice none 0 0, .int .i64 0, .int .i64 0], eq := true }
theorem ti76_ok : V.infoOf Tryz.prog 76 ti76.eq = some ti76 := by kernel_rfl
def ti77 : V.TI := { ty := .struct [(0, 24), (1, 3), (2, 3)], size := 3, bytes := 40, zero := [.slice none 0 0, .int .i64 0, .int .i64 0], eq := true }
theorem ti77_ok : V.infoOf Tryz.prog 77 ti77.eq = some ti77 := by kernel_rfl
def ti78 : V.TI := { ty := .func, size := 1, bytes := 8, zero := [.nilFunc], eq := false }
theorem ti78_ok : V.infoOf Tryz.prog 78 ti78.eq = some ti78 := by kernel_rfl
def ti79 : V.TI := { ty := .func, size := 1, bytes := 8, zero := [.nilFunc], eq := false }
theorem ti79_ok : V.infoOf Tryz.prog 79 ti79.eq = some ti79 := by kernel_rfl
def ti80 : V.TI := { ty := .func, size := 1, bytes := 8, zero := [.nilFunc], eq := false }
theorem ti80_ok : V.infoOf Tryz.prog 80 ti80.eq = some ti80 := by kernel_rfl
def ti81 : V.TI := { ty := .func, size := 1, bytes := 8, zero := [.nilFunc], eq := false }
theorem ti81_ok : V.infoOf Tryz.prog 81 ti81.eq = some ti81 := by kernel_rfl
def ti82 : V.TI := { ty := .func, size := 1, bytes := 8, zero := [.nilFunc], eq := false }
theorem ti82_ok : V.infoOf Tryz.prog 82 ti82.eq = some ti82 := by kernel_rfl
def ti83 : V.TI := { ty := .func, size := 1, bytes := 8, zero := [.nilFunc], eq := false }
theorem ti83_ok : V.infoOf Tryz.prog 83 ti83.eq = some ti83 := by kernel_rfl
def ti84 : V.TI := { ty := .func, size := 1, bytes := 8, zero := [.nilFunc], eq := false }
theorem ti84_ok : V.infoOf Tryz.prog 84 ti84.eq = some ti84 := by kernel_rfl
def ti85 : V.TI := { ty := .func, size := 1, bytes := 8, zero := [.nilFunc], eq := false }
theorem ti85_ok : V.infoOf Tryz.prog 85 ti85.eq = some ti85 := by kernel_rfl
def ti86 : V.TI := { ty := .func, size := 1, bytes := 8, zero := [.nilFunc], eq := false }
theorem ti86_ok : V.infoOf Tryz.prog 86 ti86.eq = some ti86 := by kernel_rfl
def ti87 : V.TI := { ty := .func, size := 1, bytes := 8, zero := [.nilFunc], eq := false }
theorem ti87_ok : V.infoOf Tryz.prog 87 ti87.eq = some ti87 := by kernel_rfl
def ti88 : V.TI := { ty := .func, size := 1, bytes := 8, zero := [.nilFunc], eq := false }
theorem ti88_ok : V.infoOf Tryz.prog 88 ti88.eq = some ti88 := by kernel_rfl
def ti89 : V.TI := { ty := .func, size := 1, bytes := 8, zero := [.nilFunc], eq := false }
theorem ti89_ok : V.infoOf Tryz.prog 89 ti89.eq = some ti89 := by kernel_rfl
def ti90 : V.TI := { ty := .func, size := 1, bytes := 8, zero := [.nilFunc], eq := false }
theorem ti90_ok : V.infoOf Tryz.prog 90 ti90.eq = some ti90 := by kernel_rfl
def ti91 : V.TI := { ty := .func, size := 1, bytes := 8, zero := [.nilFunc], eq := false }
theorem ti91_ok : V.infoOf Tryz.prog 91 ti91.eq = some ti91 := by kernel_rfl
def ti92 : V.TI := { ty := .struct [(0, 2), (1, 2), (2, 3), (3, 3), (4, 3)], size := 5, bytes := 40, zero := [.int .i64 0, .int .i64 0, .int .i64 0, .int .i64 0, .int .i64 0], eq := true }
theorem ti92_ok : V.infoOf Tryz.prog 92 ti92.eq = some ti92 := by kernel_rfl
def ti93 : V.TI := { ty := .struct [(0, 2), (1, 2), (2, 3), (3, 3), (4, 3)], size := 5, bytes := 40, zero := [.int .i64 0, .int .i64 0, .int .i64 0, .int .i64 0, .int .i64 0], eq := true }
theorem ti93_ok : V.infoOf Tryz.prog 93 ti93.eq = some ti93 := by kernel_rfl
def ti94 : V.TI := { ty := .func, size := 1, bytes := 8, zero := [.nilFunc], eq := false }
theorem ti94_ok : V.infoOf Tryz.prog 94 ti94.eq = some ti94 := by kernel_rfl
def ti95 : V.TI := { ty := .slice 3, size := 1, bytes := 24, zero := [.slice none 0 0], eq := false }
theorem ti95_ok : V.infoOf Tryz.prog 95 ti95.eq = some ti95 := by kernel_rfl
def ti96 : V.TI := { ty := .func, size := 1, bytes := 8, zero := [.nilFunc], eq := false }
theorem ti96_ok : V.infoOf Tryz.prog 96 ti96.eq = some ti96 := by kernel_rfl
def ti97 : V.TI := { ty := .func, size := 1, bytes := 8, zero := [.nilFunc], eq := false }
theorem ti97_ok : V.infoOf Tryz.prog 97 ti97.eq = some ti97 := by kernel_rfl
def ti98 : V.TI := { ty := .func, size := 1, bytes := 8, zero := [.nilFunc], eq := false }
theorem ti98_ok : V.infoOf Tryz.prog 98 ti98.eq = some ti98 := by kernel_rfl
def ti99 : V.TI := { ty := .slice 59, size := 1, bytes := 24, zero := [.slice none 0 0], eq := false }
theorem ti99_ok : V.infoOf Tryz.prog 99 ti99.eq = some ti99 := by kernel_rfl
def ti101 : V.TI := { ty := .func, size := 1, bytes := 8, zero := [.nilFunc], eq := false }
theorem ti101_ok : V.infoOf Tryz.prog 101 ti101.eq = some ti101 := by kernel_rfl
def ti102 : V.TI := { ty := .func, size := 1, bytes := 8, zero := [.nilFunc], eq := false }
theorem ti102_ok : V.infoOf Tryz.prog 102 ti102.eq = some ti102 := by kernel_rfl
def ti103 : V.TI := { ty := .func, size := 1, bytes := 8, zero := [.nilFunc], eq := false }
theorem ti103_ok : V.infoOf Tryz.prog 103 ti103.eq = some ti103 := by kernel_rfl
def ti105 : V.TI := { ty := .func, size := 1, bytes := 8, zero := [.nilFunc], eq := false }
theorem ti105_ok : V.infoOf Tryz.prog 105 ti105.eq = some ti105 := by kernel_rfl
def ti106 : V.TI := { ty := .int .u64, size := 1, bytes := 8, zero := [.int .u64 0], eq := false }
theorem ti106_ok : V.infoOf Tryz.prog 106 ti106.eq = some ti106 := by kernel_rfl
def ti107 : V.TI := { ty := .map 3 4, size := 1, bytes := 8, zero := [.map none], eq := false }
theorem ti107_ok : V.infoOf Tryz.prog 107 ti107.eq = some ti107 := by kernel_rfl
def ti108 : V.TI := { ty := .func, size := 1, bytes := 8, zero := [.nilFunc], eq := false }
theorem ti108_ok : V.infoOf Tryz.prog 108 ti108.eq = some ti108 := by kernel_rfl
def ti109 : V.TI := { ty := .ptr 142, size := 1, bytes := 8, zero := [.pointer none], eq := false }
theorem ti109_ok : V.infoOf Tryz.prog 109 ti109.eq = some ti109 := by kernel_rfl
def ti110 : V.TI := { ty := .func, size := 1, bytes := 8, zero := [.nilFunc], eq := false }
theorem ti110_ok : V.infoOf Tryz.prog 110 ti110.eq = some ti110 := by kernel_rfl
def ti111 : V.TI := { ty := .func, size := 1, bytes := 8, zero := [.nilFunc], eq := false }
theorem ti111_ok : V.infoOf Tryz.prog 111 ti111.eq = some ti111 := by kernel_rfl
def ti113 : V.TI := { ty := .func, size := 1, bytes := 8, zero := [.nilFunc], eq := false }
theorem ti113_ok : V.infoOf Tryz.prog 113 ti113.eq = some ti113 := by kernel_rfl
def ti115 : V.TI := { ty := .func, size := 1, bytes := 8, zero := [.nilFunc], eq := false }
theorem ti115_ok : V.infoOf Tryz.prog 115 ti115.eq = some ti115 := by kernel_rfl
def ti117 : V.TI := { ty := .func, size := 1, bytes := 8, zero := [.nilFunc], eq := false }
theorem ti117_ok : V.infoOf Tryz.prog 117 ti117.eq = some ti117 := by kernel_rfl
def ti118 : V.TI := { ty := .func, size := 1, bytes := 8, zero := [.nilFunc], eq := false }
theorem ti118_ok : V.infoOf Tryz.prog 118 ti118.eq = some ti118 := by kernel_rfl
def ti119 : V.TI := { ty := .func, size := 1, bytes := 8, zero := [.nilFunc], eq := false }
theorem ti119_ok : V.infoOf Tryz.prog 119 ti119.eq = some ti119 := by kernel_rfl
def ti120 : V.TI := { ty := .func, size := 1, bytes := 8, zero := [.nilFunc], eq := false }
theorem ti120_ok : V.infoOf Tryz.prog 120 ti120.eq = some ti120 := by kernel_rfl
def ti121 : V.TI := { ty := .func, size := 1, bytes := 8, zero := [.nilFunc], eq := false }
theorem ti121_ok : V.infoOf Tryz.prog 121 ti121.eq = some ti121 := by kernel_rfl
def ti122 : V.TI := { ty := .slice 2, size := 1, bytes := 24, zero := [.slice none 0 0], eq := false }
theorem ti122_ok : V.infoOf Tryz.prog 122 ti122.eq = some ti122 := by kernel_rfl
def ti123 : V.TI := { ty := .func, size := 1, bytes := 8, zero := [.nilFunc], eq := false }
theorem ti123_ok : V.infoOf Tryz.prog 123 ti123.eq = some ti123 := by kernel_rfl
def ti124 : V.TI := { ty := .func, size := 1, bytes := 8, zero := [.nilFunc], eq := false }
theorem ti124_ok : V.infoOf Tryz.prog 124 ti124.eq = some ti124 := by kernel_rfl
def ti126 : V.TI := { ty := .func, size := 1, bytes := 8, zero := [.nilFunc], eq := false }
theorem ti126_ok : V.infoOf Tryz.prog 126 ti126.eq = some ti126 := by kernel_rfl
def ti127 : V.TI := { ty := .func, size := 1, bytes := 8, zero := [.nilFunc], eq := false }
theorem ti127_ok : V.infoOf Tryz.prog 127 ti127.eq = some ti127 := by kernel_rfl
def ti128 : V.TI := { ty := .func, size := 1, bytes := 8, zero := [.nilFunc], eq := false }
theorem ti128_ok : V.infoOf Tryz.prog 128 ti128.eq = some ti128 := by kernel_rfl
def ti129 : V.TI := { ty := .func, size := 1, bytes := 8, zero := [.nilFunc], eq := false }
theorem ti129_ok : V.infoOf Tryz.prog 129 ti129.eq = some ti129 := by kernel_rfl
def ti130 : V.TI := { ty := .func, size := 1, bytes := 8, zero := [.nilFunc], eq := false }
theorem ti130_ok : V.infoOf Tryz.prog 130 ti130.eq = some ti130 := by kernel_rfl
def ti131 : V.TI := { ty := .func, size := 1, bytes := 8, zero := [.nilFunc], eq := false }
theorem ti131_ok : V.infoOf Tryz.prog 131 ti131.eq = some ti131 := by kernel_rfl
def ti132 : V.TI := { ty := .func, size := 1, bytes := 8, zero := [.nilFunc], eq := false }
theorem ti132_ok : V.infoOf Tryz.prog 132 ti132.eq = some ti132 := by kernel_rfl
def ti133 : V.TI := { ty := .func, size := 1, bytes := 8, zero := [.nilFunc], eq := false }
theorem ti133_ok : V.infoOf Tryz.prog 133 ti133.eq = some ti133 := by kernel_rfl
def ti134 : V.TI := { ty := .func, size := 1, bytes := 8, zero := [.nilFunc], eq := false }
theorem ti134_ok : V.infoOf Tryz.prog 134 ti134.eq = some ti134 := by kernel_rfl
def ti135 : V.TI := { ty := .func, size := 1, bytes := 8, zero := [.nilFunc], eq := false }
theorem ti135_ok : V.infoOf Tryz.prog 135 ti135.eq = some ti135 := by kernel_rfl
def ti136 : V.TI := { ty := .func, size := 1, bytes := 8, zero := [.nilFunc], eq := false }
theorem ti136_ok : V.infoOf Tryz.prog 136 ti136.eq = some ti136 := by kernel_rfl
def ti137 : V.TI := { ty := .ptr 162, size := 1, bytes := 8, zero := [.pointer none], eq := false }
theorem ti137_ok : V.infoOf Tryz.prog 137 ti137.eq = some ti137 := by kernel_rfl
def ti138 : V.TI := { ty := .func, size := 1, bytes := 8, zero := [.nilFunc], eq := false }
theorem ti138_ok : V.infoOf Tryz.prog 138 ti138.eq = some ti138 := by kernel_rfl
def ti139 : V.TI := { ty := .slice 4, size := 1, bytes := 24, zero := [.slice none 0 0], eq := false }
theorem ti139_ok : V.infoOf Tryz.prog 139 ti139.eq = some ti139 := by kernel_rfl
def ti140 : V.TI := { ty := .array 3 139, size := 3, bytes := 72, zero := [.slice none 0 0, .slice none 0 0, .slice none 0 0], eq := false }
theorem ti140_ok : V.infoOf Tryz.prog 140 ti140.eq = some ti140 := by kernel_rfl
def ti141 : V.TI := { ty := .struct [(0, 30), (8, 140), (11, 137)], size := 12, bytes := 192, zero := [.int .i64 0, .int .i64 0, .int .i64 0, .int .i64 0, .int .i64 0, .slice none 0 0, .slice none 0 0, .slice none 0 0, .slice none 0 0, .slice none 0 0, .slice none 0 0, .pointer none], eq := true }
theorem ti141_ok : V.infoOf Tryz.prog 141 ti141.eq = some ti141 := by kernel_rfl
def ti142 : V.TI := { ty := .struct [(0, 30), (8, 140), (11, 137)], size := 12, bytes := 192, zero := [.int .i64 0, .int .i64 0, .int .i64 0, .int .i64 0, .int .i64 0, .slice none 0 0, .slice none 0 0, .slice none 0 0, .slice none 0 0, .slice none 0 0, .slice none 0 0, .pointer none], eq := true }
theorem ti142_ok : V.infoOf Tryz.prog 142 ti142.eq = some ti142 := by kernel_rfl
def ti143 : V.TI := { ty := .func, size := 1, bytes := 8, zero := [.nilFunc], eq := false }
theorem ti143_ok : V.infoOf Tryz.prog 143 ti143.eq = some ti143 := by kernel_rfl
def ti144 : V.TI := { ty := .func, size := 1, bytes := 8, zero := [.nilFunc], eq := false }
theorem ti144_ok : V.infoOf Tryz.prog 144 ti144.eq = some ti144 := by kernel_rfl
def ti145 : V.TI := { ty := .func, size := 1, bytes := 8, zero := [.nilFunc], eq := false }
theorem ti145_ok : V.infoOf Tryz.prog 145 ti145.eq = some ti145 := by kernel_rfl
def ti146 : V.TI := { ty := .func, size := 1, bytes := 8, zero := [.nilFunc], eq := false }
theorem ti146_ok : V.infoOf Tryz.prog 146 ti146.eq = some ti146 := by kernel_rfl
def ti147 : V.TI := { ty := .map 3 3, size := 1, bytes := 8, zero := [.map none], eq := false }
theorem ti147_ok : V.infoOf Tryz.prog 147 ti147.eq = some ti147 := by kernel_rfl
def ti149 : V.TI := { ty := .func, size := 1, bytes := 8, zero := [.nilFunc], eq := false }
theorem ti149_ok : V.infoOf Tryz.prog 149 ti149.eq = some ti149 := by kernel_rfl
def ti150 : V.TI := { ty := .func, size := 1, bytes := 8, zero := [.nilFunc], eq := false }
theorem ti150_ok : V.infoOf Tryz.prog 150 ti150.eq = some ti150 := by kernel_rfl
def ti151 : V.TI := { ty := .func, size := 1, bytes := 8, zero := [.nilFunc], eq := false }
theorem ti151_ok : V.infoOf Tryz.prog 151 ti151.eq = some ti151 := by kernel_rfl
def ti152 : V.TI := { ty := .func, size := 1, bytes := 8, zero := [.nilFunc], eq := false }
theorem ti152_ok : V.infoOf Tryz.prog 152 ti152.eq = some ti152 := by kernel_rfl
def ti153 : V.TI := { ty := .func, size := 1, bytes := 8, zero := [.nilFunc], eq := false }
theorem ti153_ok : V.infoOf Tryz.prog 153 ti153.eq = some ti153 := by kernel_rfl
def ti154 : V.TI := { ty := .func, size := 1, bytes := 8, zero := [.nilFunc], eq := false }
theorem ti154_ok : V.infoOf Tryz.prog 154 ti154.eq = some ti154 := by kernel_rfl
def ti155 : V.TI := { ty := .func, size := 1, bytes := 8, zero := [.nilFunc], eq := false }
theorem ti155_ok : V.infoOf Tryz.prog 155 ti155.eq = some ti155 := by kernel_rfl
def ti156 : V.TI := { ty := .func, size := 1, bytes := 8, zero := [.nilFunc], eq := false }
theorem ti156_ok : V.infoOf Tryz.prog 156 ti156.eq = some ti156 := by kernel_rfl
def ti157 : V.TI := { ty := .func, size := 1, bytes := 8, zero := [.nilFunc], eq := false }
theorem ti157_ok : V.infoOf Tryz.prog 157 ti157.eq = some ti157 := by kernel_rfl
def ti158 : V.TI := { ty := .func, size := 1, bytes := 8, zero := [.nilFunc], eq := false }
theorem ti158_ok : V.infoOf Tryz.prog 158 ti158.eq = some ti158 := by kernel_rfl
def ti159 : V.TI := { ty := .map 3 68, size := 1, bytes := 8, zero := [.map none], eq := false }
theorem ti159_ok : V.infoOf Tryz.prog 159 ti159.eq = some ti159 := by kernel_rfl
def ti160 : V.TI := { ty := .map 164 95, size := 1, bytes := 8, zero := [.map none], eq := false }
theorem ti160_ok : V.infoOf Tryz.prog 160 ti160.eq = some ti160 := by kernel_rfl
def ti161 : V.TI := { ty := .struct [(0, 159), (1, 160)], size := 2, bytes := 16, zero := [.map none, .map none], eq := true }
theorem ti161_ok : V.infoOf Tryz.prog 161 ti161.eq = some ti161 := by kernel_rfl
def ti162 : V.TI := { ty := .struct [(0, 159), (1, 160)], size := 2, bytes := 16, zero := [.map none, .map none], eq := true }
theorem ti162_ok : V.infoOf Tryz.prog 162 ti162.eq = some ti162 := by kernel_rfl
def ti163 : V.TI := { ty := .struct [(0, 2), (1, 2)], size := 2, bytes := 16, zero := [.int .i64 0, .int .i64 0], eq := true }
theorem ti163_ok : V.infoOf Tryz.prog 163 ti163.eq = some ti163 := by kernel_rfl
def ti164 : V.TI := { ty := .struct [(0, 2), (1, 2)], size := 2, bytes := 16, zero := [.int .i64 0, .int .i64 0], eq := true }
theorem ti164_ok : V.infoOf Tryz.prog 164 ti164.eq = some ti164 := by kernel_rfl
def ti165 : V.TI := { ty := .func, size := 1, bytes := 8, zero := [.nilFunc], eq := false }
theorem ti165_ok : V.infoOf Tryz.prog 165 ti165.eq = some ti165 := by kernel_rfl
def ti166 : V.TI := { ty := .func, size := 1, bytes := 8, zero := [.nilFunc], eq := false }
theorem ti166_ok : V.infoOf Tryz.prog 166 ti166.eq = some ti166 := by kernel_rfl
def ti167 : V.TI := { ty := .func, size := 1, bytes := 8, zero := [.nilFunc], eq := false }
theorem ti167_ok : V.infoOf Tryz.prog 167 ti167.eq = some ti167 := by kernel_rfl
def ti168 : V.TI := { ty := .func, size := 1, bytes := 8, zero := [.nilFunc], eq := false }
theorem ti168_ok : V.infoOf Tryz.prog 168 ti168.eq = some ti168 := by kernel_rfl
def ti169 : V.TI := { ty := .func, size := 1, bytes := 8, zero := [.nilFunc], eq := false }
theorem ti169_ok : V.infoOf Tryz.prog 169 ti169.eq = some ti169 := by kernel_rfl
def ti170 : V.TI := { ty := .func, size := 1, bytes := 8, zero := [.nilFunc], eq := false }
theorem ti170_ok : V.infoOf Tryz.prog 170 ti170.eq = some ti170 := by kernel_rfl
def ti171 : V.TI := { ty := .func, size := 1, bytes := 8, zero := [.nilFunc], eq := false }
theorem ti171_ok : V.infoOf Tryz.prog 171 ti171.eq = some ti171 := by kernel_rfl
def ti172 : V.TI := { ty := .func, size := 1, bytes := 8, zero := [.nilFunc], eq := false }
theorem ti172_ok : V.infoOf Tryz.prog 172 ti172.eq = some ti172 := by kernel_rfl
def ti173 : V.TI := { ty := .func, size := 1, bytes := 8, zero := [.nilFunc], eq := false }
theorem ti173_ok : V.infoOf Tryz.prog 173 ti173.eq = some ti173 := by kernel_rfl
def ti174 : V.TI := { ty := .func, size := 1, bytes := 8, zero := [.nilFunc], eq := false }
theorem ti174_ok : V.infoOf Tryz.prog 174 ti174.eq = some ti174 := by kernel_rfl
def ti175 : V.TI := { ty := .func, size := 1, bytes := 8, zero := [.nilFunc], eq := false }
theorem ti175_ok : V.infoOf Tryz.prog 175 ti175.eq = some ti175 := by kernel_rfl
def ti176 : V.TI := { ty := .func, size := 1, bytes := 8, zero := [.nilFunc], eq := false }
theorem ti176_ok : V.infoOf Tryz.prog 176 ti176.eq = some ti176 := by kernel_rfl
def ti177 : V.TI := { ty := .func, size := 1, bytes := 8, zero := [.nilFunc], eq := false }
theorem ti177_ok : V.infoOf Tryz.prog 177 ti177.eq = some ti177 := by kernel_rfl
def ti178 : V.TI := { ty := .struct [(0, 48), (1, 48)], size := 2, bytes := 16, zero := [.int .u64 0, .int .u64 0], eq := true }
theorem ti178_ok : V.infoOf Tryz.prog 178 ti178.eq = some ti178 := by kernel_rfl
def ti179 : V.TI := { ty := .struct [(0, 48), (1, 48)], size := 2, bytes := 16, zero := [.int .u64 0, .int .u64 0], eq := true }
theorem ti179_ok : V.infoOf Tryz.prog 179 ti179.eq = some ti179 := by kernel_rfl
def ti180 : V.TI := { ty := .func, size := 1, bytes := 8, zero := [.nilFunc], eq := false }
theorem ti180_ok : V.infoOf Tryz.prog 180 ti180.eq = some ti180 := by kernel_rfl
def ti181 : V.TI := { ty := .func, size := 1, bytes := 8, zero := [.nilFunc], eq := false }
theorem ti181_ok : V.infoOf Tryz.prog 181 ti181.eq = some ti181 := by kernel_rfl
def ti182 : V.TI := { ty := .func, size := 1, bytes := 8, zero := [.nilFunc], eq := false }
theorem ti182_ok : V.infoOf Tryz.prog 182 ti182.eq = some ti182 := by kernel_rfl
def ti183 : V.TI := { ty := .func, size := 1, bytes := 8, zero := [.nilFunc], eq := false }
theorem ti183_ok : V.infoOf Tryz.prog 183 ti183.eq = some ti183 := by kernel_rfl
def ti185 : V.TI := { ty := .func, size := 1, bytes := 8, zero := [.nilFunc], eq := false }
theorem ti185_ok : V.infoOf Tryz.prog 185 ti185.eq = some ti185 := by kernel_rfl
def ti186 : V.TI := { ty := .func, size := 1, bytes := 8, zero := [.nilFunc], eq := false }
theorem ti186_ok : V.infoOf Tryz.prog 186 ti186.eq = some ti186 := by kernel_rfl
def ti187 : V.TI := { ty := .func, size := 1, bytes := 8, zero := [.nilFunc], eq := false }
theorem ti187_ok : V.infoOf Tryz.prog 187 ti187.eq = some ti187 := by kernel_rfl
def ti188 : V.TI := { ty := .func, size := 1, bytes := 8, zero := [.nilFunc], eq := false }
theorem ti188_ok : V.infoOf Tryz.prog 188 ti188.eq = some ti188 := by kernel_rfl
def ti189 : V.TI := { ty := .func, size := 1, bytes := 8, zero := [.nilFunc], eq := false }
theorem ti189_ok : V.infoOf Tryz.prog 189 ti189.eq = some ti189 := by kernel_rfl
def ti190 : V.TI := { ty := .func, size := 1, bytes := 8, zero := [.nilFunc], eq := false }
theorem ti190_ok : V.infoOf Tryz.prog 190 ti190.eq = some ti190 := by kernel_rfl
def ti191 : V.TI := { ty := .func, size := 1, bytes := 8, zero := [.nilFunc], eq := false }
theorem ti191_ok : V.infoOf Tryz.prog 191 ti191.eq = some ti191 := by kernel_rfl
def ti192 : V.TI := { ty := .struct [(0, 48), (1, 48)], size := 2, bytes := 16, zero := [.int .u64 0, .int .u64 0], eq := true }
theorem ti192_ok : V.infoOf Tryz.prog 192 ti192.eq = some ti192 := by kernel_rfl
def ti193 : V.TI := { ty := .func, size := 1, bytes := 8, zero := [.nilFunc], eq := false }
theorem ti193_ok : V.infoOf Tryz.prog 193 ti193.eq = some ti193 := by kernel_rfl
def ti194 : V.TI := { ty := .func, size := 1, bytes := 8, zero := [.nilFunc], eq := false }
theorem ti194_ok : V.infoOf Tryz.prog 194 ti194.eq = some ti194 := by kernel_rfl
def ti195 : V.TI := { ty := .func, size := 1, bytes := 8, zero := [.nilFunc], eq := false }
theorem ti195_ok : V.infoOf Tryz.prog 195 ti195.eq = some ti195 := by kernel_rfl
def ti196 : V.TI := { ty := .array 6 3, size := 6, bytes := 48, zero := [.int .i64 0, .int .i64 0, .int .i64 0, .int .i64 0, .int .i64 0, .int .i64 0], eq := false }
theorem ti196_ok : V.infoOf Tryz.prog 196 ti196.eq = some ti196 := by kernel_rfl
def ti197 : V.TI := { ty := .array 3 196, size := 18, bytes := 144, zero := [.int .i64 0, .int .i64 0, .int .i64 0, .int .i64 0, .int .i64 0, .int .i64 0, .int .i64 0, .int .i64 0, .int .i64 0, .int .i64 0, .int .i64 0, .int .i64 0, .int .i64 0, .int .i64 0, .int .i64 0, .int .i64 0, .int .i64 0, .int .i64 0], eq := false }
theorem ti197_ok : V.infoOf Tryz.prog 197 ti197.eq = some ti197 := by kernel_rfl
def ti198 : V.TI := { ty := .func, size := 1, bytes := 8, zero := [.nilFunc], eq := false }
theorem ti198_ok : V.infoOf Tryz.prog 198 ti198.eq = some ti198 := by kernel_rfl
def ti199 : V.TI := { ty := .func, size := 1, bytes := 8, zero := [.nilFunc], eq := false }
theorem ti199_ok : V.infoOf Tryz.prog 199 ti199.eq = some ti199 := by kernel_rfl
def ti200 : V.TI := { ty := .func, size := 1, bytes := 8, zero := [.nilFunc], eq := false }
theorem ti200_ok : V.infoOf Tryz.prog 200 ti200.eq = some ti200 := by kernel_rfl
def ti201 : V.TI := { ty := .func, size := 1, bytes := 8, zero := [.nilFunc], eq := false }
theorem ti201_ok : V.infoOf Tryz.prog 201 ti201.eq = some ti201 := by kernel_rfl
def ti202 : V.TI := { ty := .func, size := 1, bytes := 8, zero := [.nilFunc], eq := false }
theorem ti202_ok : V.infoOf Tryz.prog 202 ti202.eq = some ti202 := by kernel_rfl
def ti204 : V.TI := { ty := .func, size := 1, bytes := 8, zero := [.nilFunc], eq := false }
theorem ti204_ok : V.infoOf Tryz.prog 204 ti204.eq = some ti204 := by kernel_rfl
def ti205 : V.TI := { ty := .func, size := 1, bytes := 8, zero := [.nilFunc], eq := false }
theorem ti205_ok : V.infoOf Tryz.prog 205 ti205.eq = some ti205 := by kernel_rfl
def ti207 : V.TI := { ty := .func, size := 1, bytes := 8, zero := [.nilFunc], eq := false }
theorem ti207_ok : V.infoOf Tryz.prog 207 ti207.eq = some ti207 := by kernel_rfl
def ti208 : V.TI := { ty := .func, size := 1, bytes := 8, zero := [.nilFunc], eq := false }
theorem ti208_ok : V.infoOf Tryz.prog 208 ti208.eq = some ti208 := by kernel_rfl
def ti209 : V.TI := { ty := .int .i64, size := 1, bytes := 8, zero := [.int .i64 0], eq := false }
theorem ti209_ok : V.infoOf Tryz.prog 209 ti209.eq = some ti209 := by kernel_rfl
def ti211 : V.TI := { ty := .func, size := 1, bytes := 8, zero := [.nilFunc], eq := false }
theorem ti211_ok : V.infoOf Tryz.prog 211 ti211.eq = some ti211 := by kernel_rfl
def ti212 : V.TI := { ty := .func, size := 1, bytes := 8, zero := [.nilFunc], eq := false }
theorem ti212_ok : V.infoOf Tryz.prog 212 ti212.eq = some ti212 := by kernel_rfl
def ti213 : V.TI := { ty := .func, size := 1, bytes := 8, zero := [.nilFunc], eq := false }
theorem ti213_ok : V.infoOf Tryz.prog 213 ti213.eq = some ti213 := by kernel_rfl
def ti214 : V.TI := { ty := .func, size := 1, bytes := 8, zero := [.nilFunc], eq := false }
theorem ti214_ok : V.infoOf Tryz.prog 214 ti214.eq = some ti214 := by kernel_rfl
def ti215 : V.TI := { ty := .func, size := 1, bytes := 8, zero := [.nilFunc], eq := false }
theorem ti215_ok : V.infoOf Tryz.prog 215 ti215.eq = some ti215 := by kernel_rfl
def ti216 : V.TI := { ty := .int .u32, size := 1, bytes := 4, zero := [.int .u32 0], eq := false }
theorem ti216_ok : V.infoOf Tryz.prog 216 ti216.eq = some ti216 := by kernel_rfl
def ti217 : V.TI := { ty := .func, size := 1, bytes := 8, zero := [.nilFunc], eq := false }
theorem ti217_ok : V.infoOf Tryz.prog 217 ti217.eq = some ti217 := by kernel_rfl
def ti218 : V.TI := { ty := .func, size := 1, bytes := 8, zero := [.nilFunc], eq := false }
theorem ti218_ok : V.infoOf Tryz.prog 218 ti218.eq = some ti218 := by kernel_rfl
def ti219 : V.TI := { ty := .int .u64, size := 1, bytes := 8, zero := [.int .u64 0], eq := false }
theorem ti219_ok : V.infoOf Tryz.prog 219 ti219.eq = some ti219 := by kernel_rfl
def ti220 : V.TI := { ty := .func, size := 1, bytes := 8, zero := [.nilFunc], eq := false }
theorem ti220_ok : V.infoOf Tryz.prog 220 ti220.eq = some ti220 := by kernel_rfl
def ti221 : V.TI := { ty := .func, size := 1, bytes := 8, zero := [.nilFunc], eq := false }
theorem ti221_ok : V.infoOf Tryz.prog 221 ti221.eq = some ti221 := by kernel_rfl
def ti222 : V.TI := { ty := .func, size := 1, bytes := 8, zero := [.nilFunc], eq := false }
theorem ti222_ok : V.infoOf Tryz.prog 222 ti222.eq = some ti222 := by kernel_rfl
def ti223 : V.TI := { ty := .ptr 219, size := 1, bytes := 8, zero := [.pointer none], eq := false }
theorem ti223_ok : V.infoOf Tryz.prog 223 ti223.eq = some ti223 := by kernel_rfl
def ti225 : V.TI := { ty := .func, size := 1, bytes := 8, zero := [.nilFunc], eq := false }
theorem ti225_ok : V.infoOf Tryz.prog 225 ti225.eq = some ti225 := by kernel_rfl
def ti226 : V.TI := { ty := .func, size := 1, bytes := 8, zero := [.nilFunc], eq := false }
theorem ti226_ok : V.infoOf Tryz.prog 226 ti226.eq = some ti226 := by kernel_rfl
def ti227 : V.TI := { ty := .struct [(0, 17), (1, 17), (2, 17), (3, 9)], size := 4, bytes := 40, zero := [.pointer none, .pointer none, .pointer none, .string ⟨#[]⟩], eq := false }
theorem ti227_ok : V.infoOf Tryz.prog 227 ti227.eq = some ti227 := by kernel_rfl
def ti228 : V.TI := { ty := .struct [(0, 17), (1, 17), (2, 17), (3, 9)], size := 4, bytes := 40, zero := [.pointer none, .pointer none, .pointer none, .string ⟨#[]⟩], eq := false }
theorem ti228_ok : V.infoOf Tryz.prog 228 ti228.eq = some ti228 := by kernel_rfl
def ti232 : V.TI := { ty := .func, size := 1, bytes := 8, zero := [.nilFunc], eq := false }
theorem ti232_ok : V.infoOf Tryz.prog 232 ti232.eq = some ti232 := by kernel_rfl
def ti233 : V.TI := { ty := .int .u8, size := 1, bytes := 1, zero := [.int .u8 0], eq := false }
theorem ti233_ok : V.infoOf Tryz.prog 233 ti233.eq = some ti233 := by kernel_rfl
def ti234 : V.TI := { ty := .int .u8, size := 1, bytes := 1, zero := [.int .u8 0], eq := false }
theorem ti234_ok : V.infoOf Tryz.prog 234 ti234.eq = some ti234 := by kernel_rfl
def ti235 : V.TI := { ty := .func, size := 1, bytes := 8, zero := [.nilFunc], eq := false }
theorem ti235_ok : V.infoOf Tryz.prog 235 ti235.eq = some ti235 := by kernel_rfl
def ti236 : V.TI := { ty := .ptr 5, size := 1, bytes := 8, zero := [.pointer none], eq := false }
theorem ti236_ok : V.infoOf Tryz.prog 236 ti236.eq = some ti236 := by kernel_rfl
def ti237 : V.TI := { ty := .int .i32, size := 1, bytes := 4, zero := [.int .i32 0], eq := false }
theorem ti237_ok : V.infoOf Tryz.prog 237 ti237.eq = some ti237 := by kernel_rfl
def ti238 : V.TI := { ty := .int .i32, size := 1, bytes := 4, zero := [.int .i32 0], eq := false }
theorem ti238_ok : V.infoOf Tryz.prog 238 ti238.eq = some ti238 := by kernel_rfl
def ti239 : V.TI := { ty := .struct [(0, 12), (1, 12), (2, 216), (3, 233), (4, 5), (5, 5), (6, 234), (7, 235), (8, 236), (9, 237), (10, 238)], size := 11, bytes := 48, zero := [.int .u64 0, .int .u64 0, .int .u32 0, .int .u8 0, .int .u8 0, .int .u8 0, .int .u8 0, .nilFunc, .pointer none, .int .i32 0, .int .i32 0], eq := false }
theorem ti239_ok : V.infoOf Tryz.prog 239 ti239.eq = some ti239 := by kernel_rfl
def ti240 : V.TI := { ty := .struct [(0, 12), (1, 12), (2, 216), (3, 233), (4, 5), (5, 5), (6, 234), (7, 235), (8, 236), (9, 237), (10, 238)], size := 11, bytes := 48, zero := [.int .u64 0, .int .u64 0, .int .u32 0, .int .u8 0, .int .u8 0, .int .u8 0, .int .u8 0, .nilFunc, .pointer none, .int .i32 0, .int .i32 0], eq := false }
theorem ti240_ok : V.infoOf Tryz.prog 240 ti240.eq = some ti240 := by kernel_rfl
def ti241 : V.TI := { ty := .func, size := 1, bytes := 8, zero := [.nilFunc], eq := false }
theorem ti241_ok : V.infoOf Tryz.prog 241 ti241.eq = some ti241 := by kernel_rfl
def ti242 : V.TI := { ty := .func, size := 1, bytes := 8, zero := [.nilFunc], eq := false }
theorem ti242_ok : V.infoOf Tryz.prog 242 ti242.eq = some ti242 := by kernel_rfl
def ti243 : V.TI := { ty := .other, size := 1, bytes := 8, zero := [.pointer none], eq := false }
theorem ti243_ok : V.infoOf Tryz.prog 243 ti243.eq = some ti243 := by kernel_rfl
def infoTree : V.Tr := (.node 123 (.node 62 (.node 29 (.node 14 (.node 7 (.node 4 (.node 2 (.node 1 .nil ti1 .nil) ti2 (.node 3 .nil ti3 .nil)) ti4 (.node 6 (.node 5 .nil ti5 .nil) ti6 .nil)) ti7 (.node 11 (.node 9 (.node 8 .nil ti8 .nil) ti9 (.node 10 .nil ti10 .nil)) ti11 (.node 13 (.node 12 .nil ti12 .nil) ti13 .nil))) ti14 (.node 22 (.node 18 (.node 16 (.node 15 .nil ti15 .nil) ti16 (.node 17 .nil ti17 .nil)) ti18 (.node 21 (.node 19 .nil ti19 .nil) ti21 .nil)) ti22 (.node 26 (.node 24 (.node 23 .nil ti23 .nil) ti24 (.node 25 .nil ti25 .nil)) ti26 (.node 28 (.node 27 .nil ti27 .nil) ti28 .nil)))) ti29 (.node 46 (.node 38 (.node 33 (.node 31 (.node 30 .nil ti30 .nil) ti31 (.node 32 .nil ti32 .nil)) ti33 (.node 36 (.node 34 .nil ti34 .nil) ti36 .nil)) ti38 (.node 42 (.node 40 (.node 39 .nil ti39 .nil) ti40 (.node 41 .nil ti41 .nil)) ti42 (.node 44 (.node 43 .nil ti43 .nil) ti44 .nil))) ti46 (.node 54 (.node 51 (.node 48 (.node 47 .nil ti47 .nil) ti48 (.node 50 .nil ti50 .nil)) ti51 (.node 53 (.node 52 .nil ti52 .nil) ti53 .nil)) ti54 (.node 58 (.node 56 (.node 55 .nil ti55 .nil) ti56 (.node 57 .nil ti57 .nil)) ti58 (.node 60 (.node 59 .nil ti59 .nil) ti60 .nil))))) ti62 (.node 90 (.node 76 (.node 69 (.node 66 (.node 64 (.node 63 .nil ti63 .nil) ti64 (.node 65 .nil ti65 .nil)) ti66 (.node 68 (.node 67 .nil ti67 .nil) ti68 .nil)) ti69 (.node 73 (.node 71 (.node 70 .nil ti70 .nil) ti71 (.node 72 .nil ti72 .nil)) ti73 (.node 75 (.node 74 .nil ti74 .nil) ti75 .nil))) ti76 (.node 83 (.node 80 (.node 78 (.node 77 .nil ti77 .nil) ti78 (.node 79 .nil ti79 .nil)) ti80 (.node 82 (.node 81 .nil ti81 .nil) ti82 .nil)) ti83 (.node 87 (.node 85 (.node 84 .nil ti84 .nil) ti85 (.node 86 .nil ti86 .nil)) ti87 (.node 89 (.node 88 .nil ti88 .nil) ti89 .nil)))) ti90 (.node 106 (.node 97 (.node 94 (.node 92 (.node 91 .nil ti91 .nil) ti92 (.node 93 .nil ti93 .nil)) ti94 (.node 96 (.node 95 .nil ti95 .nil) ti96 .nil)) ti97 (.node 102 (.node 99 (.node 98 .nil ti98 .nil) ti99 (.node 101 .nil ti101 .nil)) ti102 (.node 105 (.node 103 .nil ti103 .nil) ti105 .nil))) ti106 (.node 115 (.node 110 (.node 108 (.node 107 .nil ti107 .nil) ti108 (.node 109 .nil ti109 .nil)) ti110 (.node 113 (.node 111 .nil ti111 .nil) ti113 .nil)) ti115 (.node 120 (.node 118 (.node 117 .nil ti117 .nil) ti118 (.node 119 .nil ti119 .nil)) ti120 (.node 122 (.node 121 .nil ti121 .nil) ti122 .nil)))))) ti123 (.node 181 (.node 153 (.node 138 (.node 131 (.node 128 (.node 126 (.node 124 .nil ti124 .nil) ti126 (.node 127 .nil ti127 .nil)) ti128 (.node 130 (.node 129 .nil ti129 .nil) ti130 .nil)) ti131 (.node 135 (.node 133 (.node 132 .nil ti132 .nil) ti133 (.node 134 .nil ti134 .nil)) ti135 (.node 137 (.node 136 .nil ti136 .nil) ti137 .nil))) ti138 (.node 145 (.node 142 (.node 140 (.node 139 .nil ti139 .nil) ti140 (.node 141 .nil ti141 .nil)) ti142 (.node 144 (.node 143 .nil ti143 .nil) ti144 .nil)) ti145 (.node 150 (.node 147 (.node 146 .nil ti146 .nil) ti147 (.node 149 .nil ti149 .nil)) ti150 (.node 152 (.node 151 .nil ti151 .nil) ti152 .nil)))) ti153 (.node 167 (.node 160 (.node 157 (.node 155 (.node 154 .nil ti154 .nil) ti155 (.node 156 .nil ti156 .nil)) ti157 (.node 159 (.node 158 .nil ti158 .nil) ti159 .nil)) ti160 (.node 164 (.node 162 (.node 161 .nil ti161 .nil) ti162 (.node 163 .nil ti163 .nil)) ti164 (.node 166 (.node 165 .nil ti165 .nil) ti166 .nil))) ti167 (.node 174 (.node 171 (.node 169 (.node 168 .nil ti168 .nil) ti169 (.node 170 .nil ti170 .nil)) ti171 (.node 173 (.node 172 .nil ti172 .nil) ti173 .nil)) ti174 (.node 178 (.node 176 (.node 175 .nil ti175 .nil) ti176 (.node 177 .nil ti177 .nil)) ti178 (.node 180 (.node 179 .nil ti179 .nil) ti180 .nil))))) ti181 (.node 213 (.node 196 (.node 189 (.node 186 (.node 183 (.node 182 .nil ti182 .nil) ti183 (.node 185 .nil ti185 .nil)) ti186 (.node 188 (.node 187 .nil ti187 .nil) ti188 .nil)) ti189 (.node 193 (.node 191 (.node 190 .nil ti190 .nil) ti191 (.node 192 .nil ti192 .nil)) ti193 (.node 195 (.node 194 .nil ti194 .nil) ti195 .nil))) ti196 (.node 204 (.node 200 (.node 198 (.node 197 .nil ti197 .nil) ti198 (.node 199 .nil ti199 .nil)) ti200 (.node 202 (.node 201 .nil ti201 .nil) ti202 .nil)) ti204 (.node 209 (.node 207 (.node 205 .nil ti205 .nil) ti207 (.node 208 .nil ti208 .nil)) ti209 (.node 212 (.node 211 .nil ti211 .nil) ti212 .nil)))) ti213 (.node 228 (.node 220 (.node 217 (.node 215 (.node 214 .nil ti214 .nil) ti215 (.node 216 .nil ti216 .nil)) ti217 (.node 219 (.node 218 .nil ti218 .nil) ti219 .nil)) ti220 (.node 225 (.node 222 (.node 221 .nil ti221 .nil) ti222 (.node 223 .nil ti223 .nil)) ti225 (.node 227 (.node 226 .nil ti226 .nil) ti227 .nil))) ti228 (.node 238 (.node 235 (.node 233 (.node 232 .nil ti232 .nil) ti233 (.node 234 .nil ti234 .nil)) ti235 (.node 237 (.node 236 .nil ti236 .nil) ti237 .nil)) ti238 (.node 241 (.node 240 (.node 239 .nil ti239 .nil) ti240 .nil) ti241 (.node 243 (.node 242 .nil ti242 .nil) ti243 .nil)))))))
theorem infoTree_ok : infoTree.all Tryz.prog := ⟨ti123_ok, ⟨ti62_ok, ⟨ti29_ok, ⟨ti14_ok, ⟨ti7_ok, ⟨ti4_ok, ⟨ti2_ok, ⟨ti1_ok, trivial, trivial⟩, ⟨ti3_ok, trivial, trivial⟩⟩, ⟨ti6_ok, ⟨ti5_ok, trivial, trivial⟩, trivial⟩⟩, ⟨ti11_ok, ⟨ti9_ok, ⟨ti8_ok, trivial, trivial⟩, ⟨ti10_ok, trivial, trivial⟩⟩, ⟨ti13_ok, ⟨ti12_ok, trivial, trivial⟩, trivial⟩⟩⟩, ⟨ti22_ok, ⟨ti18_ok, ⟨ti16_ok, ⟨ti15_ok, trivial, trivial⟩, ⟨ti17_ok, trivial, trivial⟩⟩, ⟨ti21_ok, ⟨ti19_ok, trivial, trivial⟩, trivial⟩⟩, ⟨ti26_ok, ⟨ti24_ok, ⟨ti23_ok, trivial, trivial⟩, ⟨ti25_ok, trivial, trivial⟩⟩, ⟨ti28_ok, ⟨ti27_ok, trivial, trivial⟩, trivial⟩⟩⟩⟩, ⟨ti46_ok, ⟨ti38_ok, ⟨ti33_ok, ⟨ti31_ok, ⟨ti30_ok, trivial, trivial⟩, ⟨ti32_ok, trivial, trivial⟩⟩, ⟨ti36_ok, ⟨ti34_ok, trivial, trivial⟩, trivial⟩⟩, ⟨ti42_ok, ⟨ti40_ok, ⟨ti39_ok, trivial, trivial⟩, ⟨ti41_ok, trivial, trivial⟩⟩, ⟨ti44_ok, ⟨ti43_ok, trivial, trivial⟩, trivial⟩⟩⟩, ⟨ti54_ok, ⟨ti51_ok, ⟨ti48_ok, ⟨ti47_ok, trivial, trivial⟩, ⟨ti50_ok, trivial, trivial⟩⟩, ⟨ti53_ok, ⟨ti52_ok, trivial, trivial⟩, trivial⟩⟩, ⟨ti58_ok, ⟨ti56_ok, ⟨ti55_ok, trivial, trivial⟩, ⟨ti57_ok, trivial, trivial⟩⟩, ⟨ti60_ok, ⟨ti59_ok, trivial, trivial⟩, trivial⟩⟩⟩⟩⟩, ⟨ti90_ok, ⟨ti76_ok, ⟨ti69_ok, ⟨ti66_ok, ⟨ti64_ok, ⟨ti63_ok, trivial, trivial⟩, ⟨ti65_ok, trivial, trivial⟩⟩, ⟨ti68_ok, ⟨ti67_ok, trivial, trivial⟩, trivial⟩⟩, ⟨ti73_ok, ⟨ti71_ok, ⟨ti70_ok, trivial, trivial⟩, ⟨ti72_ok, trivial, trivial⟩⟩, ⟨ti75_ok, ⟨ti74_ok, trivial, trivial⟩, trivial⟩⟩⟩, ⟨ti83_ok, ⟨ti80_ok, ⟨ti78_ok, ⟨ti77_ok, trivial, trivial⟩, ⟨ti79_ok, trivial, trivial⟩⟩, ⟨ti82_ok, ⟨ti81_ok, trivial, trivial⟩, trivial⟩⟩, ⟨ti87_ok, ⟨ti85_ok, ⟨ti84_ok, trivial, trivial⟩, ⟨ti86_ok, trivial, trivial⟩⟩, ⟨ti89_ok, ⟨ti88_ok, trivial, trivial⟩, trivial⟩⟩⟩⟩, ⟨ti106_ok, ⟨ti97_ok, ⟨ti94_ok, ⟨ti92_ok, ⟨ti91_ok, trivial, trivial⟩, ⟨ti93_ok, trivial, trivial⟩⟩, ⟨ti96_ok, ⟨ti95_ok, trivial, trivial⟩, trivial⟩⟩, ⟨ti102_ok, ⟨ti99_ok, ⟨ti98_ok, trivial, trivial⟩, ⟨ti101_ok, trivial, trivial⟩⟩, ⟨ti105_ok, ⟨ti103_ok, trivial, trivial⟩, trivial⟩⟩⟩, ⟨ti115_ok, ⟨ti110_ok, ⟨ti108_ok, ⟨ti107_ok, trivial, trivial⟩, ⟨ti109_ok, trivial, trivial⟩⟩, ⟨ti113_ok, ⟨ti111_ok, trivial, trivial⟩, trivial⟩⟩, ⟨ti120_ok, ⟨ti118_ok, ⟨ti117_ok, trivial, trivial⟩, ⟨ti119_ok, trivial, trivial⟩⟩, ⟨ti122_ok, ⟨ti121_ok, trivial, trivial⟩, trivial⟩⟩⟩⟩⟩⟩, ⟨ti181_ok, ⟨ti153_ok, ⟨ti138_ok, ⟨ti131_ok, ⟨ti128_ok, ⟨ti126_ok, ⟨ti124_ok, trivial, trivial⟩, ⟨ti127_ok, trivial, trivial⟩⟩, ⟨ti130_ok, ⟨ti129_ok, trivial, trivial⟩, trivial⟩⟩, ⟨ti135_ok, ⟨ti133_ok, ⟨ti132_ok, trivial, trivial⟩, ⟨ti134_ok, trivial, trivial⟩⟩, ⟨ti137_ok, ⟨ti136_ok, trivial, trivial⟩, trivial⟩⟩⟩, ⟨ti145_ok, ⟨ti142_ok, ⟨ti140_ok, ⟨ti139_ok, trivial, trivial⟩, ⟨ti141_ok, trivial, trivial⟩⟩, ⟨ti144_ok, ⟨ti143_ok, trivial, trivial⟩, trivial⟩⟩, ⟨ti150_ok, ⟨ti147_ok, ⟨ti146_ok, trivial, trivial⟩, ⟨ti149_ok, trivial, trivial⟩⟩, ⟨ti152_ok, ⟨ti151_ok, trivial, trivial⟩, trivial⟩⟩⟩⟩, ⟨ti167_ok, ⟨ti160_ok, ⟨ti157_ok, ⟨ti155_ok, ⟨ti154_ok, trivial, trivial⟩, ⟨ti156_ok, trivial, trivial⟩⟩, ⟨ti159_ok, ⟨ti158_ok, trivial, trivial⟩, trivial⟩⟩, ⟨ti164_ok, ⟨ti162_ok, ⟨ti161_ok, trivial, trivial⟩, ⟨ti163_ok, trivial, trivial⟩⟩, ⟨ti166_ok, ⟨ti165_ok, trivial, trivial⟩, trivial⟩⟩⟩, ⟨ti174_ok, ⟨ti171_ok, ⟨ti169_ok, ⟨ti168_ok, trivial, trivial⟩, ⟨ti170_ok, trivial, trivial⟩⟩, ⟨ti173_ok, ⟨ti172_ok, trivial, trivial⟩, trivial⟩⟩, ⟨ti178_ok, ⟨ti176_ok, ⟨ti175_ok, trivial, trivial⟩, ⟨ti177_ok, trivial, trivial⟩⟩, ⟨ti180_ok, ⟨ti179_ok, trivial, trivial⟩, trivial⟩⟩⟩⟩⟩, ⟨ti213_ok, ⟨ti196_ok, ⟨ti189_ok, ⟨ti186_ok, ⟨ti183_ok, ⟨ti182_ok, trivial, trivial⟩, ⟨ti185_ok, trivial, trivial⟩⟩, ⟨ti188_ok, ⟨ti187_ok, trivial, trivial⟩, trivial⟩⟩, ⟨ti193_ok, ⟨ti191_ok, ⟨ti190_ok, trivial, trivial⟩, ⟨ti192_ok, trivial, trivial⟩⟩, ⟨ti195_ok, ⟨ti194_ok, trivial, trivial⟩, trivial⟩⟩⟩, ⟨ti204_ok, ⟨ti200_ok, ⟨ti198_ok, ⟨ti197_ok, trivial, trivial⟩, ⟨ti199_ok, trivial, trivial⟩⟩, ⟨ti202_ok, ⟨ti201_ok, trivial, trivial⟩, trivial⟩⟩, ⟨ti209_ok, ⟨ti207_ok, ⟨ti205_ok, trivial, trivial⟩, ⟨ti208_ok, trivial, trivial⟩⟩, ⟨ti212_ok, ⟨ti211_ok, trivial, trivial⟩, trivial⟩⟩⟩⟩, ⟨ti228_ok, ⟨ti220_ok, ⟨ti217_ok, ⟨ti215_ok, ⟨ti214_ok, trivial, trivial⟩, ⟨ti216_ok, trivial, trivial⟩⟩, ⟨ti219_ok, ⟨ti218_ok, trivial, trivial⟩, trivial⟩⟩, ⟨ti225_ok, ⟨ti222_ok, ⟨ti221_ok, trivial, trivial⟩, ⟨ti223_ok, trivial, trivial⟩⟩, ⟨ti227_ok, ⟨ti226_ok, trivial, trivial⟩, trivial⟩⟩⟩, ⟨ti238_ok, ⟨ti235_ok, ⟨ti233_ok, ⟨ti232_ok, trivial, trivial⟩, ⟨ti234_ok, trivial, trivial⟩⟩, ⟨ti237_ok, ⟨ti236_ok, trivial, trivial⟩, trivial⟩⟩, ⟨ti241_ok, ⟨ti240_ok, ⟨ti239_ok, trivial, trivial⟩, trivial⟩, ⟨ti243_ok, ⟨ti242_ok, trivial, trivial⟩, trivial⟩⟩⟩⟩⟩⟩⟩
end Go.Proofs
