/- The ground on which laws of thronglaw16 are proved: contracts of functions and plain lemmas; no condition beyond the row's own. -/
import Derived.KernelRfl
import Derived.Test.YtlhjkalolohipaaProg
import Derived.Test.YtlhjkalolohipaaVB
namespace Go.Proofs
open Go Go.V
set_option linter.unusedVariables false
def ti1 : V.TI := { ty := .func, size := 1, bytes := 8, zero := [.nilFunc], eq := false }
theorem ti1_ok : V.infoOf Try.prog 1 ti1.eq = some ti1 := by kernel_rfl
def ti2 : V.TI := { ty := .int .i64, size := 1, bytes := 8, zero := [.int .i64 0], eq := false }
theorem ti2_ok : V.infoOf Try.prog 2 ti2.eq = some ti2 := by kernel_rfl
def ti3 : V.TI := { ty := .int .i64, size := 1, bytes := 8, zero := [.int .i64 0], eq := false }
theorem ti3_ok : V.infoOf Try.prog 3 ti3.eq = some ti3 := by kernel_rfl
def ti4 : V.TI := { ty := .bool, size := 1, bytes := 1, zero := [.bool false], eq := false }
theorem ti4_ok : V.infoOf Try.prog 4 ti4.eq = some ti4 := by kernel_rfl
def ti5 : V.TI := { ty := .int .u8, size := 1, bytes := 1, zero := [.int .u8 0], eq := false }
theorem ti5_ok : V.infoOf Try.prog 5 ti5.eq = some ti5 := by kernel_rfl
def ti6 : V.TI := { ty := .int .u8, size := 1, bytes := 1, zero := [.int .u8 0], eq := false }
theorem ti6_ok : V.infoOf Try.prog 6 ti6.eq = some ti6 := by kernel_rfl
def ti7 : V.TI := { ty := .struct [(0, 2), (1, 3), (2, 4), (3, 6)], size := 4, bytes := 24, zero := [.int .i64 0, .int .i64 0, .bool false, .int .u8 0], eq := true }
theorem ti7_ok : V.infoOf Try.prog 7 ti7.eq = some ti7 := by kernel_rfl
def ti8 : V.TI := { ty := .struct [(0, 2), (1, 3), (2, 4), (3, 6)], size := 4, bytes := 24, zero := [.int .i64 0, .int .i64 0, .bool false, .int .u8 0], eq := true }
theorem ti8_ok : V.infoOf Try.prog 8 ti8.eq = some ti8 := by kernel_rfl
def ti9 : V.TI := { ty := .str, size := 1, bytes := 16, zero := [.string ⟨#[]⟩], eq := false }
theorem ti9_ok : V.infoOf Try.prog 9 ti9.eq = some ti9 := by kernel_rfl
def ti10 : V.TI := { ty := .str, size := 1, bytes := 16, zero := [.string ⟨#[]⟩], eq := false }
theorem ti10_ok : V.infoOf Try.prog 10 ti10.eq = some ti10 := by kernel_rfl
def ti11 : V.TI := { ty := .str, size := 1, bytes := 16, zero := [.string ⟨#[]⟩], eq := false }
theorem ti11_ok : V.infoOf Try.prog 11 ti11.eq = some ti11 := by kernel_rfl
def ti12 : V.TI := { ty := .int .u64, size := 1, bytes := 8, zero := [.int .u64 0], eq := false }
theorem ti12_ok : V.infoOf Try.prog 12 ti12.eq = some ti12 := by kernel_rfl
def ti13 : V.TI := { ty := .struct [(0, 9), (1, 12)], size := 2, bytes := 24, zero := [.string ⟨#[]⟩, .int .u64 0], eq := false }
theorem ti13_ok : V.infoOf Try.prog 13 ti13.eq = some ti13 := by kernel_rfl
def ti14 : V.TI := { ty := .struct [(0, 9), (1, 12)], size := 2, bytes := 24, zero := [.string ⟨#[]⟩, .int .u64 0], eq := false }
theorem ti14_ok : V.infoOf Try.prog 14 ti14.eq = some ti14 := by kernel_rfl
def ti15 : V.TI := { ty := .ptr 108, size := 1, bytes := 8, zero := [.pointer none], eq := false }
theorem ti15_ok : V.infoOf Try.prog 15 ti15.eq = some ti15 := by kernel_rfl
def ti16 : V.TI := { ty := .ptr 111, size := 1, bytes := 8, zero := [.pointer none], eq := false }
theorem ti16_ok : V.infoOf Try.prog 16 ti16.eq = some ti16 := by kernel_rfl
def ti17 : V.TI := { ty := .ptr 119, size := 1, bytes := 8, zero := [.pointer none], eq := false }
theorem ti17_ok : V.infoOf Try.prog 17 ti17.eq = some ti17 := by kernel_rfl
def ti18 : V.TI := { ty := .struct [(0, 17)], size := 1, bytes := 8, zero := [.pointer none], eq := false }
theorem ti18_ok : V.infoOf Try.prog 18 ti18.eq = some ti18 := by kernel_rfl
def ti19 : V.TI := { ty := .struct [(0, 17)], size := 1, bytes := 8, zero := [.pointer none], eq := false }
theorem ti19_ok : V.infoOf Try.prog 19 ti19.eq = some ti19 := by kernel_rfl
def ti21 : V.TI := { ty := .int .i32, size := 1, bytes := 4, zero := [.int .i32 0], eq := false }
theorem ti21_ok : V.infoOf Try.prog 21 ti21.eq = some ti21 := by kernel_rfl
def ti22 : V.TI := { ty := .slice 38, size := 1, bytes := 24, zero := [.slice none 0 0], eq := false }
theorem ti22_ok : V.infoOf Try.prog 22 ti22.eq = some ti22 := by kernel_rfl
def ti23 : V.TI := { ty := .ptr 48, size := 1, bytes := 8, zero := [.pointer none], eq := false }
theorem ti23_ok : V.infoOf Try.prog 23 ti23.eq = some ti23 := by kernel_rfl
def ti24 : V.TI := { ty := .func, size := 1, bytes := 8, zero := [.nilFunc], eq := false }
theorem ti24_ok : V.infoOf Try.prog 24 ti24.eq = some ti24 := by kernel_rfl
def ti25 : V.TI := { ty := .func, size := 1, bytes := 8, zero := [.nilFunc], eq := false }
theorem ti25_ok : V.infoOf Try.prog 25 ti25.eq = some ti25 := by kernel_rfl
def ti26 : V.TI := { ty := .struct [(0, 2), (1, 2)], size := 2, bytes := 16, zero := [.int .i64 0, .int .i64 0], eq := true }
theorem ti26_ok : V.infoOf Try.prog 26 ti26.eq = some ti26 := by kernel_rfl
def ti27 : V.TI := { ty := .struct [(0, 2), (1, 2)], size := 2, bytes := 16, zero := [.int .i64 0, .int .i64 0], eq := true }
theorem ti27_ok : V.infoOf Try.prog 27 ti27.eq = some ti27 := by kernel_rfl
def ti28 : V.TI := { ty := .slice 3, size := 1, bytes := 24, zero := [.slice none 0 0], eq := false }
theorem ti28_ok : V.infoOf Try.prog 28 ti28.eq = some ti28 := by kernel_rfl
def ti29 : V.TI := { ty := .func, size := 1, bytes := 8, zero := [.nilFunc], eq := false }
theorem ti29_ok : V.infoOf Try.prog 29 ti29.eq = some ti29 := by kernel_rfl
def ti30 : V.TI := { ty := .func, size := 1, bytes := 8, zero := [.nilFunc], eq := false }
theorem ti30_ok : V.infoOf Try.prog 30 ti30.eq = some ti30 := by kernel_rfl
def ti31 : V.TI := { ty := .func, size := 1, bytes := 8, zero := [.nilFunc], eq := false }
theorem ti31_ok : V.infoOf Try.prog 31 ti31.eq = some ti31 := by kernel_rfl
def ti32 : V.TI := { ty := .func, size := 1, bytes := 8, zero := [.nilFunc], eq := false }
theorem ti32_ok : V.infoOf Try.prog 32 ti32.eq = some ti32 := by kernel_rfl
def ti33 : V.TI := { ty := .ptr 36, size := 1, bytes := 8, zero := [.pointer none], eq := false }
theorem ti33_ok : V.infoOf Try.prog 33 ti33.eq = some ti33 := by kernel_rfl
def ti34 : V.TI := { ty := .slice 27, size := 1, bytes := 24, zero := [.slice none 0 0], eq := false }
theorem ti34_ok : V.infoOf Try.prog 34 ti34.eq = some ti34 := by kernel_rfl
def ti35 : V.TI := { ty := .struct [(0, 28), (1, 34)], size := 2, bytes := 48, zero := [.slice none 0 0, .slice none 0 0], eq := true }
theorem ti35_ok : V.infoOf Try.prog 35 ti35.eq = some ti35 := by kernel_rfl
def ti36 : V.TI := { ty := .struct [(0, 28), (1, 34)], size := 2, bytes := 48, zero := [.slice none 0 0, .slice none 0 0], eq := true }
theorem ti36_ok : V.infoOf Try.prog 36 ti36.eq = some ti36 := by kernel_rfl
def ti37 : V.TI := { ty := .struct [(0, 3), (1, 3), (2, 27), (4, 2)], size := 5, bytes := 40, zero := [.int .i64 0, .int .i64 0, .int .i64 0, .int .i64 0, .int .i64 0], eq := true }
theorem ti37_ok : V.infoOf Try.prog 37 ti37.eq = some ti37 := by kernel_rfl
def ti38 : V.TI := { ty := .struct [(0, 3), (1, 3), (2, 27), (4, 2)], size := 5, bytes := 40, zero := [.int .i64 0, .int .i64 0, .int .i64 0, .int .i64 0, .int .i64 0], eq := true }
theorem ti38_ok : V.infoOf Try.prog 38 ti38.eq = some ti38 := by kernel_rfl
def ti39 : V.TI := { ty := .func, size := 1, bytes := 8, zero := [.nilFunc], eq := false }
theorem ti39_ok : V.infoOf Try.prog 39 ti39.eq = some ti39 := by kernel_rfl
def ti40 : V.TI := { ty := .func, size := 1, bytes := 8, zero := [.nilFunc], eq := false }
theorem ti40_ok : V.infoOf Try.prog 40 ti40.eq = some ti40 := by kernel_rfl
def ti42 : V.TI := { ty := .func, size := 1, bytes := 8, zero := [.nilFunc], eq := false }
theorem ti42_ok : V.infoOf Try.prog 42 ti42.eq = some ti42 := by kernel_rfl
def ti43 : V.TI := { ty := .func, size := 1, bytes := 8, zero := [.nilFunc], eq := false }
theorem ti43_ok : V.infoOf Try.prog 43 ti43.eq = some ti43 := by kernel_rfl
def ti44 : V.TI := { ty := .func, size := 1, bytes := 8, zero := [.nilFunc], eq := false }
theorem ti44_ok : V.infoOf Try.prog 44 ti44.eq = some ti44 := by kernel_rfl
def ti45 : V.TI := { ty := .map 3 27, size := 1, bytes := 8, zero := [.map none], eq := false }
theorem ti45_ok : V.infoOf Try.prog 45 ti45.eq = some ti45 := by kernel_rfl
def ti46 : V.TI := { ty := .map 50 28, size := 1, bytes := 8, zero := [.map none], eq := false }
theorem ti46_ok : V.infoOf Try.prog 46 ti46.eq = some ti46 := by kernel_rfl
def ti47 : V.TI := { ty := .struct [(0, 45), (1, 46)], size := 2, bytes := 16, zero := [.map none, .map none], eq := true }
theorem ti47_ok : V.infoOf Try.prog 47 ti47.eq = some ti47 := by kernel_rfl
def ti48 : V.TI := { ty := .struct [(0, 45), (1, 46)], size := 2, bytes := 16, zero := [.map none, .map none], eq := true }
theorem ti48_ok : V.infoOf Try.prog 48 ti48.eq = some ti48 := by kernel_rfl
def ti49 : V.TI := { ty := .struct [(0, 2), (1, 2)], size := 2, bytes := 16, zero := [.int .i64 0, .int .i64 0], eq := true }
theorem ti49_ok : V.infoOf Try.prog 49 ti49.eq = some ti49 := by kernel_rfl
def ti50 : V.TI := { ty := .struct [(0, 2), (1, 2)], size := 2, bytes := 16, zero := [.int .i64 0, .int .i64 0], eq := true }
theorem ti50_ok : V.infoOf Try.prog 50 ti50.eq = some ti50 := by kernel_rfl
def ti51 : V.TI := { ty := .func, size := 1, bytes := 8, zero := [.nilFunc], eq := false }
theorem ti51_ok : V.infoOf Try.prog 51 ti51.eq = some ti51 := by kernel_rfl
def ti53 : V.TI := { ty := .func, size := 1, bytes := 8, zero := [.nilFunc], eq := false }
theorem ti53_ok : V.infoOf Try.prog 53 ti53.eq = some ti53 := by kernel_rfl
def ti54 : V.TI := { ty := .func, size := 1, bytes := 8, zero := [.nilFunc], eq := false }
theorem ti54_ok : V.infoOf Try.prog 54 ti54.eq = some ti54 := by kernel_rfl
def ti55 : V.TI := { ty := .func, size := 1, bytes := 8, zero := [.nilFunc], eq := false }
theorem ti55_ok : V.infoOf Try.prog 55 ti55.eq = some ti55 := by kernel_rfl
def ti56 : V.TI := { ty := .func, size := 1, bytes := 8, zero := [.nilFunc], eq := false }
theorem ti56_ok : V.infoOf Try.prog 56 ti56.eq = some ti56 := by kernel_rfl
def ti57 : V.TI := { ty := .func, size := 1, bytes := 8, zero := [.nilFunc], eq := false }
theorem ti57_ok : V.infoOf Try.prog 57 ti57.eq = some ti57 := by kernel_rfl
def ti58 : V.TI := { ty := .int .u64, size := 1, bytes := 8, zero := [.int .u64 0], eq := false }
theorem ti58_ok : V.infoOf Try.prog 58 ti58.eq = some ti58 := by kernel_rfl
def ti59 : V.TI := { ty := .func, size := 1, bytes := 8, zero := [.nilFunc], eq := false }
theorem ti59_ok : V.infoOf Try.prog 59 ti59.eq = some ti59 := by kernel_rfl
def ti60 : V.TI := { ty := .func, size := 1, bytes := 8, zero := [.nilFunc], eq := false }
theorem ti60_ok : V.infoOf Try.prog 60 ti60.eq = some ti60 := by kernel_rfl
def ti61 : V.TI := { ty := .func, size := 1, bytes := 8, zero := [.nilFunc], eq := false }
theorem ti61_ok : V.infoOf Try.prog 61 ti61.eq = some ti61 := by kernel_rfl
def ti62 : V.TI := { ty := .func, size := 1, bytes := 8, zero := [.nilFunc], eq := false }
theorem ti62_ok : V.infoOf Try.prog 62 ti62.eq = some ti62 := by kernel_rfl
def ti63 : V.TI := { ty := .func, size := 1, bytes := 8, zero := [.nilFunc], eq := false }
theorem ti63_ok : V.infoOf Try.prog 63 ti63.eq = some ti63 := by kernel_rfl
def ti64 : V.TI := { ty := .func, size := 1, bytes := 8, zero := [.nilFunc], eq := false }
theorem ti64_ok : V.infoOf Try.prog 64 ti64.eq = some ti64 := by kernel_rfl
def ti65 : V.TI := { ty := .func, size := 1, bytes := 8, zero := [.nilFunc], eq := false }
theorem ti65_ok : V.infoOf Try.prog 65 ti65.eq = some ti65 := by kernel_rfl
def ti66 : V.TI := { ty := .int .u64, size := 1, bytes := 8, zero := [.int .u64 0], eq := false }
theorem ti66_ok : V.infoOf Try.prog 66 ti66.eq = some ti66 := by kernel_rfl
def ti67 : V.TI := { ty := .struct [(0, 66), (1, 66)], size := 2, bytes := 16, zero := [.int .u64 0, .int .u64 0], eq := true }
theorem ti67_ok : V.infoOf Try.prog 67 ti67.eq = some ti67 := by kernel_rfl
def ti68 : V.TI := { ty := .struct [(0, 66), (1, 66)], size := 2, bytes := 16, zero := [.int .u64 0, .int .u64 0], eq := true }
theorem ti68_ok : V.infoOf Try.prog 68 ti68.eq = some ti68 := by kernel_rfl
def ti69 : V.TI := { ty := .func, size := 1, bytes := 8, zero := [.nilFunc], eq := false }
theorem ti69_ok : V.infoOf Try.prog 69 ti69.eq = some ti69 := by kernel_rfl
def ti70 : V.TI := { ty := .func, size := 1, bytes := 8, zero := [.nilFunc], eq := false }
theorem ti70_ok : V.infoOf Try.prog 70 ti70.eq = some ti70 := by kernel_rfl
def ti71 : V.TI := { ty := .func, size := 1, bytes := 8, zero := [.nilFunc], eq := false }
theorem ti71_ok : V.infoOf Try.prog 71 ti71.eq = some ti71 := by kernel_rfl
def ti72 : V.TI := { ty := .func, size := 1, bytes := 8, zero := [.nilFunc], eq := false }
theorem ti72_ok : V.infoOf Try.prog 72 ti72.eq = some ti72 := by kernel_rfl
def ti73 : V.TI := { ty := .func, size := 1, bytes := 8, zero := [.nilFunc], eq := false }
theorem ti73_ok : V.infoOf Try.prog 73 ti73.eq = some ti73 := by kernel_rfl
def ti74 : V.TI := { ty := .func, size := 1, bytes := 8, zero := [.nilFunc], eq := false }
theorem ti74_ok : V.infoOf Try.prog 74 ti74.eq = some ti74 := by kernel_rfl
def ti75 : V.TI := { ty := .func, size := 1, bytes := 8, zero := [.nilFunc], eq := false }
theorem ti75_ok : V.infoOf Try.prog 75 ti75.eq = some ti75 := by kernel_rfl
def ti76 : V.TI := { ty := .struct [(0, 66), (1, 66)], size := 2, bytes := 16, zero := [.int .u64 0, .int .u64 0], eq := true }
theorem ti76_ok : V.infoOf Try.prog 76 ti76.eq = some ti76 := by kernel_rfl
def ti77 : V.TI := { ty := .func, size := 1, bytes := 8, zero := [.nilFunc], eq := false }
theorem ti77_ok : V.infoOf Try.prog 77 ti77.eq = some ti77 := by kernel_rfl
def ti78 : V.TI := { ty := .func, size := 1, bytes := 8, zero := [.nilFunc], eq := false }
theorem ti78_ok : V.infoOf Try.prog 78 ti78.eq = some ti78 := by kernel_rfl
def ti80 : V.TI := { ty := .func, size := 1, bytes := 8, zero := [.nilFunc], eq := false }
theorem ti80_ok : V.infoOf Try.prog 80 ti80.eq = some ti80 := by kernel_rfl
def ti81 : V.TI := { ty := .func, size := 1, bytes := 8, zero := [.nilFunc], eq := false }
theorem ti81_ok : V.infoOf Try.prog 81 ti81.eq = some ti81 := by kernel_rfl
def ti83 : V.TI := { ty := .func, size := 1, bytes := 8, zero := [.nilFunc], eq := false }
theorem ti83_ok : V.infoOf Try.prog 83 ti83.eq = some ti83 := by kernel_rfl
def ti84 : V.TI := { ty := .func, size := 1, bytes := 8, zero := [.nilFunc], eq := false }
theorem ti84_ok : V.infoOf Try.prog 84 ti84.eq = some ti84 := by kernel_rfl
def ti85 : V.TI := { ty := .int .i64, size := 1, bytes := 8, zero := [.int .i64 0], eq := false }
theorem ti85_ok : V.infoOf Try.prog 85 ti85.eq = some ti85 := by kernel_rfl
def ti87 : V.TI := { ty := .func, size := 1, bytes := 8, zero := [.nilFunc], eq := false }
theorem ti87_ok : V.infoOf Try.prog 87 ti87.eq = some ti87 := by kernel_rfl
def ti88 : V.TI := { ty := .func, size := 1, bytes := 8, zero := [.nilFunc], eq := false }
theorem ti88_ok : V.infoOf Try.prog 88 ti88.eq = some ti88 := by kernel_rfl
def ti89 : V.TI := { ty := .func, size := 1, bytes := 8, zero := [.nilFunc], eq := false }
theorem ti89_ok : V.infoOf Try.prog 89 ti89.eq = some ti89 := by kernel_rfl
def ti90 : V.TI := { ty := .func, size := 1, bytes := 8, zero := [.nilFunc], eq := false }
theorem ti90_ok : V.infoOf Try.prog 90 ti90.eq = some ti90 := by kernel_rfl
def ti91 : V.TI := { ty := .func, size := 1, bytes := 8, zero := [.nilFunc], eq := false }
theorem ti91_ok : V.infoOf Try.prog 91 ti91.eq = some ti91 := by kernel_rfl
def ti92 : V.TI := { ty := .int .u32, size := 1, bytes := 4, zero := [.int .u32 0], eq := false }
theorem ti92_ok : V.infoOf Try.prog 92 ti92.eq = some ti92 := by kernel_rfl
def ti93 : V.TI := { ty := .func, size := 1, bytes := 8, zero := [.nilFunc], eq := false }
theorem ti93_ok : V.infoOf Try.prog 93 ti93.eq = some ti93 := by kernel_rfl
def ti94 : V.TI := { ty := .func, size := 1, bytes := 8, zero := [.nilFunc], eq := false }
theorem ti94_ok : V.infoOf Try.prog 94 ti94.eq = some ti94 := by kernel_rfl
def ti95 : V.TI := { ty := .func, size := 1, bytes := 8, zero := [.nilFunc], eq := false }
theorem ti95_ok : V.infoOf Try.prog 95 ti95.eq = some ti95 := by kernel_rfl
def ti96 : V.TI := { ty := .func, size := 1, bytes := 8, zero := [.nilFunc], eq := false }
theorem ti96_ok : V.infoOf Try.prog 96 ti96.eq = some ti96 := by kernel_rfl
def ti97 : V.TI := { ty := .int .u64, size := 1, bytes := 8, zero := [.int .u64 0], eq := false }
theorem ti97_ok : V.infoOf Try.prog 97 ti97.eq = some ti97 := by kernel_rfl
def ti98 : V.TI := { ty := .func, size := 1, bytes := 8, zero := [.nilFunc], eq := false }
theorem ti98_ok : V.infoOf Try.prog 98 ti98.eq = some ti98 := by kernel_rfl
def ti99 : V.TI := { ty := .func, size := 1, bytes := 8, zero := [.nilFunc], eq := false }
theorem ti99_ok : V.infoOf Try.prog 99 ti99.eq = some ti99 := by kernel_rfl
def ti100 : V.TI := { ty := .func, size := 1, bytes := 8, zero := [.nilFunc], eq := false }
theorem ti100_ok : V.infoOf Try.prog 100 ti100.eq = some ti100 := by kernel_rfl
def ti101 : V.TI := { ty := .ptr 3, size := 1, bytes := 8, zero := [.pointer none], eq := false }
theorem ti101_ok : V.infoOf Try.prog 101 ti101.eq = some ti101 := by kernel_rfl
def ti102 : V.TI := { ty := .func, size := 1, bytes := 8, zero := [.nilFunc], eq := false }
theorem ti102_ok : V.infoOf Try.prog 102 ti102.eq = some ti102 := by kernel_rfl
def ti103 : V.TI := { ty := .ptr 97, size := 1, bytes := 8, zero := [.pointer none], eq := false }
theorem ti103_ok : V.infoOf Try.prog 103 ti103.eq = some ti103 := by kernel_rfl
def ti105 : V.TI := { ty := .func, size := 1, bytes := 8, zero := [.nilFunc], eq := false }
theorem ti105_ok : V.infoOf Try.prog 105 ti105.eq = some ti105 := by kernel_rfl
def ti106 : V.TI := { ty := .func, size := 1, bytes := 8, zero := [.nilFunc], eq := false }
theorem ti106_ok : V.infoOf Try.prog 106 ti106.eq = some ti106 := by kernel_rfl
def ti107 : V.TI := { ty := .struct [(0, 17), (1, 17), (2, 17), (3, 9)], size := 4, bytes := 40, zero := [.pointer none, .pointer none, .pointer none, .string ⟨#[]⟩], eq := false }
theorem ti107_ok : V.infoOf Try.prog 107 ti107.eq = some ti107 := by kernel_rfl
def ti108 : V.TI := { ty := .struct [(0, 17), (1, 17), (2, 17), (3, 9)], size := 4, bytes := 40, zero := [.pointer none, .pointer none, .pointer none, .string ⟨#[]⟩], eq := false }
theorem ti108_ok : V.infoOf Try.prog 108 ti108.eq = some ti108 := by kernel_rfl
def ti112 : V.TI := { ty := .int .u8, size := 1, bytes := 1, zero := [.int .u8 0], eq := false }
theorem ti112_ok : V.infoOf Try.prog 112 ti112.eq = some ti112 := by kernel_rfl
def ti113 : V.TI := { ty := .int .u8, size := 1, bytes := 1, zero := [.int .u8 0], eq := false }
theorem ti113_ok : V.infoOf Try.prog 113 ti113.eq = some ti113 := by kernel_rfl
def ti114 : V.TI := { ty := .func, size := 1, bytes := 8, zero := [.nilFunc], eq := false }
theorem ti114_ok : V.infoOf Try.prog 114 ti114.eq = some ti114 := by kernel_rfl
def ti115 : V.TI := { ty := .ptr 5, size := 1, bytes := 8, zero := [.pointer none], eq := false }
theorem ti115_ok : V.infoOf Try.prog 115 ti115.eq = some ti115 := by kernel_rfl
def ti116 : V.TI := { ty := .int .i32, size := 1, bytes := 4, zero := [.int .i32 0], eq := false }
theorem ti116_ok : V.infoOf Try.prog 116 ti116.eq = some ti116 := by kernel_rfl
def ti117 : V.TI := { ty := .int .i32, size := 1, bytes := 4, zero := [.int .i32 0], eq := false }
theorem ti117_ok : V.infoOf Try.prog 117 ti117.eq = some ti117 := by kernel_rfl
def ti118 : V.TI := { ty := .struct [(0, 12), (1, 12), (2, 92), (3, 112), (4, 5), (5, 5), (6, 113), (7, 114), (8, 115), (9, 116), (10, 117)], size := 11, bytes := 48, zero := [.int .u64 0, .int .u64 0, .int .u32 0, .int .u8 0, .int .u8 0, .int .u8 0, .int .u8 0, .nilFunc, .pointer none, .int .i32 0, .int .i32 0], eq := false }
theorem ti118_ok : V.infoOf Try.prog 118 ti118.eq = some ti118 := by kernel_rfl
def ti119 : V.TI := { ty := .struct [(0, 12), (1, 12), (2, 92), (3, 112), (4, 5), (5, 5), (6, 113), (7, 114), (8, 115), (9, 116), (10, 117)], size := 11, bytes := 48, zero := [.int .u64 0, .int .u64 0, .int .u32 0, .int .u8 0, .int .u8 0, .int .u8 0, .int .u8 0, .nilFunc, .pointer none, .int .i32 0, .int .i32 0], eq := false }
theorem ti119_ok : V.infoOf Try.prog 119 ti119.eq = some ti119 := by kernel_rfl
def ti120 : V.TI := { ty := .func, size := 1, bytes := 8, zero := [.nilFunc], eq := false }
theorem ti120_ok : V.infoOf Try.prog 120 ti120.eq = some ti120 := by kernel_rfl
def ti121 : V.TI := { ty := .other, size := 1, bytes := 8, zero := [.pointer none], eq := false }
theorem ti121_ok : V.infoOf Try.prog 121 ti121.eq = some ti121 := by kernel_rfl
def infoTree : V.Tr := (.node 59 (.node 29 (.node 14 (.node 7 (.node 4 (.node 2 (.node 1 .nil ti1 .nil) ti2 (.node 3 .nil ti3 .nil)) ti4 (.node 6 (.node 5 .nil ti5 .nil) ti6 .nil)) ti7 (.node 11 (.node 9 (.node 8 .nil ti8 .nil) ti9 (.node 10 .nil ti10 .nil)) ti11 (.node 13 (.node 12 .nil ti12 .nil) ti13 .nil))) ti14 (.node 22 (.node 18 (.node 16 (.node 15 .nil ti15 .nil) ti16 (.node 17 .nil ti17 .nil)) ti18 (.node 21 (.node 19 .nil ti19 .nil) ti21 .nil)) ti22 (.node 26 (.node 24 (.node 23 .nil ti23 .nil) ti24 (.node 25 .nil ti25 .nil)) ti26 (.node 28 (.node 27 .nil ti27 .nil) ti28 .nil)))) ti29 (.node 44 (.node 36 (.node 33 (.node 31 (.node 30 .nil ti30 .nil) ti31 (.node 32 .nil ti32 .nil)) ti33 (.node 35 (.node 34 .nil ti34 .nil) ti35 .nil)) ti36 (.node 40 (.node 38 (.node 37 .nil ti37 .nil) ti38 (.node 39 .nil ti39 .nil)) ti40 (.node 43 (.node 42 .nil ti42 .nil) ti43 .nil))) ti44 (.node 51 (.node 48 (.node 46 (.node 45 .nil ti45 .nil) ti46 (.node 47 .nil ti47 .nil)) ti48 (.node 50 (.node 49 .nil ti49 .nil) ti50 .nil)) ti51 (.node 56 (.node 54 (.node 53 .nil ti53 .nil) ti54 (.node 55 .nil ti55 .nil)) ti56 (.node 58 (.node 57 .nil ti57 .nil) ti58 .nil))))) ti59 (.node 90 (.node 73 (.node 66 (.node 63 (.node 61 (.node 60 .nil ti60 .nil) ti61 (.node 62 .nil ti62 .nil)) ti63 (.node 65 (.node 64 .nil ti64 .nil) ti65 .nil)) ti66 (.node 70 (.node 68 (.node 67 .nil ti67 .nil) ti68 (.node 69 .nil ti69 .nil)) ti70 (.node 72 (.node 71 .nil ti71 .nil) ti72 .nil))) ti73 (.node 81 (.node 77 (.node 75 (.node 74 .nil ti74 .nil) ti75 (.node 76 .nil ti76 .nil)) ti77 (.node 80 (.node 78 .nil ti78 .nil) ti80 .nil)) ti81 (.node 87 (.node 84 (.node 83 .nil ti83 .nil) ti84 (.node 85 .nil ti85 .nil)) ti87 (.node 89 (.node 88 .nil ti88 .nil) ti89 .nil)))) ti90 (.node 105 (.node 97 (.node 94 (.node 92 (.node 91 .nil ti91 .nil) ti92 (.node 93 .nil ti93 .nil)) ti94 (.node 96 (.node 95 .nil ti95 .nil) ti96 .nil)) ti97 (.node 101 (.node 99 (.node 98 .nil ti98 .nil) ti99 (.node 100 .nil ti100 .nil)) ti101 (.node 103 (.node 102 .nil ti102 .nil) ti103 .nil))) ti105 (.node 115 (.node 112 (.node 107 (.node 106 .nil ti106 .nil) ti107 (.node 108 .nil ti108 .nil)) ti112 (.node 114 (.node 113 .nil ti113 .nil) ti114 .nil)) ti115 (.node 119 (.node 117 (.node 116 .nil ti116 .nil) ti117 (.node 118 .nil ti118 .nil)) ti119 (.node 121 (.node 120 .nil ti120 .nil) ti121 .nil))))))
theorem infoTree_ok : infoTree.all Try.prog := ⟨ti59_ok, ⟨ti29_ok, ⟨ti14_ok, ⟨ti7_ok, ⟨ti4_ok, ⟨ti2_ok, ⟨ti1_ok, trivial, trivial⟩, ⟨ti3_ok, trivial, trivial⟩⟩, ⟨ti6_ok, ⟨ti5_ok, trivial, trivial⟩, trivial⟩⟩, ⟨ti11_ok, ⟨ti9_ok, ⟨ti8_ok, trivial, trivial⟩, ⟨ti10_ok, trivial, trivial⟩⟩, ⟨ti13_ok, ⟨ti12_ok, trivial, trivial⟩, trivial⟩⟩⟩, ⟨ti22_ok, ⟨ti18_ok, ⟨ti16_ok, ⟨ti15_ok, trivial, trivial⟩, ⟨ti17_ok, trivial, trivial⟩⟩, ⟨ti21_ok, ⟨ti19_ok, trivial, trivial⟩, trivial⟩⟩, ⟨ti26_ok, ⟨ti24_ok, ⟨ti23_ok, trivial, trivial⟩, ⟨ti25_ok, trivial, trivial⟩⟩, ⟨ti28_ok, ⟨ti27_ok, trivial, trivial⟩, trivial⟩⟩⟩⟩, ⟨ti44_ok, ⟨ti36_ok, ⟨ti33_ok, ⟨ti31_ok, ⟨ti30_ok, trivial, trivial⟩, ⟨ti32_ok, trivial, trivial⟩⟩, ⟨ti35_ok, ⟨ti34_ok, trivial, trivial⟩, trivial⟩⟩, ⟨ti40_ok, ⟨ti38_ok, ⟨ti37_ok, trivial, trivial⟩, ⟨ti39_ok, trivial, trivial⟩⟩, ⟨ti43_ok, ⟨ti42_ok, trivial, trivial⟩, trivial⟩⟩⟩, ⟨ti51_ok, ⟨ti48_ok, ⟨ti46_ok, ⟨ti45_ok, trivial, trivial⟩, ⟨ti47_ok, trivial, trivial⟩⟩, ⟨ti50_ok, ⟨ti49_ok, trivial, trivial⟩, trivial⟩⟩, ⟨ti56_ok, ⟨ti54_ok, ⟨ti53_ok, trivial, trivial⟩, ⟨ti55_ok, trivial, trivial⟩⟩, ⟨ti58_ok, ⟨ti57_ok, trivial, trivial⟩, trivial⟩⟩⟩⟩⟩, ⟨ti90_ok, ⟨ti73_ok, ⟨ti66_ok, ⟨ti63_ok, ⟨ti61_ok, ⟨ti60_ok, trivial, trivial⟩, ⟨ti62_ok, trivial, trivial⟩⟩, ⟨ti65_ok, ⟨ti64_ok, trivial, trivial⟩, trivial⟩⟩, ⟨ti70_ok, ⟨ti68_ok, ⟨ti67_ok, trivial, trivial⟩, ⟨ti69_ok, trivial, trivial⟩⟩, ⟨ti72_ok, ⟨ti71_ok, trivial, trivial⟩, trivial⟩⟩⟩, ⟨ti81_ok, ⟨ti77_ok, ⟨ti75_ok, ⟨ti74_ok, trivial, trivial⟩, ⟨ti76_ok, trivial, trivial⟩⟩, ⟨ti80_ok, ⟨ti78_ok, trivial, trivial⟩, trivial⟩⟩, ⟨ti87_ok, ⟨ti84_ok, ⟨ti83_ok, trivial, trivial⟩, ⟨ti85_ok, trivial, trivial⟩⟩, ⟨ti89_ok, ⟨ti88_ok, trivial, trivial⟩, trivial⟩⟩⟩⟩, ⟨ti105_ok, ⟨ti97_ok, ⟨ti94_ok, ⟨ti92_ok, ⟨ti91_ok, trivial, trivial⟩, ⟨ti93_ok, trivial, trivial⟩⟩, ⟨ti96_ok, ⟨ti95_ok, trivial, trivial⟩, trivial⟩⟩, ⟨ti101_ok, ⟨ti99_ok, ⟨ti98_ok, trivial, trivial⟩, ⟨ti100_ok, trivial, trivial⟩⟩, ⟨ti103_ok, ⟨ti102_ok, trivial, trivial⟩, trivial⟩⟩⟩, ⟨ti115_ok, ⟨ti112_ok, ⟨ti107_ok, ⟨ti106_ok, trivial, trivial⟩, ⟨ti108_ok, trivial, trivial⟩⟩, ⟨ti114_ok, ⟨ti113_ok, trivial, trivial⟩, trivial⟩⟩, ⟨ti119_ok, ⟨ti117_ok, ⟨ti116_ok, trivial, trivial⟩, ⟨ti118_ok, trivial, trivial⟩⟩, ⟨ti121_ok, ⟨ti120_ok, trivial, trivial⟩, trivial⟩⟩⟩⟩⟩⟩
end Go.Proofs
