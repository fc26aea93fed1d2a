/- The ground on which laws of thronglaw24 are proved: contracts of functions and plain lemmas; no condition beyond the row's own. -/
import Derived.KernelRfl
import Derived.Test.YtbemejeejgpkaaaGreatProg
import Derived.Test.YtbemejeejgpkaaaGreatVB
set_option linter.unusedSimpArgs false
set_option linter.unusedVariables false
namespace Go.Proofs
open Go Go.V
def ti1 : V.TI := { ty := .func, size := 1, bytes := 8, zero := [.nilFunc], eq := false }
theorem yh1 : V.infoOf Tryz.prog 1 ti1.eq = some ti1 := by kernel_rfl
def ti2 : V.TI := { ty := .int .i64, size := 1, bytes := 8, zero := [.int .i64 0], eq := false }
theorem yh0 : V.infoOf Tryz.prog 2 ti2.eq = some ti2 := by kernel_rfl
def ti3 : V.TI := { ty := .int .i64, size := 1, bytes := 8, zero := [.int .i64 0], eq := false }
theorem yhz : V.infoOf Tryz.prog 3 ti3.eq = some ti3 := by kernel_rfl
def ti4 : V.TI := { ty := .bool, size := 1, bytes := 1, zero := [.bool false], eq := false }
theorem yhy : V.infoOf Tryz.prog 4 ti4.eq = some ti4 := by kernel_rfl
def ti5 : V.TI := { ty := .int .u8, size := 1, bytes := 1, zero := [.int .u8 0], eq := false }
theorem yhx : V.infoOf Tryz.prog 5 ti5.eq = some ti5 := by kernel_rfl
def ti6 : V.TI := { ty := .int .u8, size := 1, bytes := 1, zero := [.int .u8 0], eq := false }
theorem yhw : V.infoOf Tryz.prog 6 ti6.eq = some ti6 := by kernel_rfl
def ti7 : V.TI := { ty := .struct [(0, 2), (1, 3), (2, 4), (3, 6)], size := 4, bytes := 24, zero := [.int .i64 0, .int .i64 0, .bool false, .int .u8 0], eq := true }
theorem yhv : V.infoOf Tryz.prog 7 ti7.eq = some ti7 := by kernel_rfl
def ti8 : V.TI := { ty := .struct [(0, 2), (1, 3), (2, 4), (3, 6)], size := 4, bytes := 24, zero := [.int .i64 0, .int .i64 0, .bool false, .int .u8 0], eq := true }
theorem yhu : V.infoOf Tryz.prog 8 ti8.eq = some ti8 := by kernel_rfl
def ti9 : V.TI := { ty := .str, size := 1, bytes := 16, zero := [.string ⟨#[]⟩], eq := false }
theorem yht : V.infoOf Tryz.prog 9 ti9.eq = some ti9 := by kernel_rfl
def ti10 : V.TI := { ty := .str, size := 1, bytes := 16, zero := [.string ⟨#[]⟩], eq := false }
theorem yfm : V.infoOf Tryz.prog 10 ti10.eq = some ti10 := by kernel_rfl
def ti11 : V.TI := { ty := .str, size := 1, bytes := 16, zero := [.string ⟨#[]⟩], eq := false }
theorem yfl : V.infoOf Tryz.prog 11 ti11.eq = some ti11 := by kernel_rfl
def ti12 : V.TI := { ty := .int .u64, size := 1, bytes := 8, zero := [.int .u64 0], eq := false }
theorem yfk : V.infoOf Tryz.prog 12 ti12.eq = some ti12 := by kernel_rfl
def ti13 : V.TI := { ty := .struct [(0, 9), (1, 12)], size := 2, bytes := 24, zero := [.string ⟨#[]⟩, .int .u64 0], eq := false }
theorem yfj : V.infoOf Tryz.prog 13 ti13.eq = some ti13 := by kernel_rfl
def ti14 : V.TI := { ty := .struct [(0, 9), (1, 12)], size := 2, bytes := 24, zero := [.string ⟨#[]⟩, .int .u64 0], eq := false }
theorem yfi : V.infoOf Tryz.prog 14 ti14.eq = some ti14 := by kernel_rfl
def ti15 : V.TI := { ty := .ptr 276, size := 1, bytes := 8, zero := [.pointer none], eq := false }
theorem yfh : V.infoOf Tryz.prog 15 ti15.eq = some ti15 := by kernel_rfl
def ti16 : V.TI := { ty := .ptr 279, size := 1, bytes := 8, zero := [.pointer none], eq := false }
theorem yfg : V.infoOf Tryz.prog 16 ti16.eq = some ti16 := by kernel_rfl
def ti17 : V.TI := { ty := .ptr 288, size := 1, bytes := 8, zero := [.pointer none], eq := false }
theorem yff : V.infoOf Tryz.prog 17 ti17.eq = some ti17 := by kernel_rfl
def ti18 : V.TI := { ty := .struct [(0, 17)], size := 1, bytes := 8, zero := [.pointer none], eq := false }
theorem yfe : V.infoOf Tryz.prog 18 ti18.eq = some ti18 := by kernel_rfl
def ti19 : V.TI := { ty := .struct [(0, 17)], size := 1, bytes := 8, zero := [.pointer none], eq := false }
theorem yfd : V.infoOf Tryz.prog 19 ti19.eq = some ti19 := by kernel_rfl
def ti20 : V.TI := { ty := .other, size := 1, bytes := 16, zero := [.nilIface], eq := false }
theorem yfc : V.infoOf Tryz.prog 20 ti20.eq = some ti20 := by kernel_rfl
def ti21 : V.TI := { ty := .int .i32, size := 1, bytes := 4, zero := [.int .i32 0], eq := false }
theorem yfb : V.infoOf Tryz.prog 21 ti21.eq = some ti21 := by kernel_rfl
def ti22 : V.TI := { ty := .slice 5, size := 1, bytes := 24, zero := [.slice none 0 0], eq := false }
theorem yfa : V.infoOf Tryz.prog 22 ti22.eq = some ti22 := by kernel_rfl
def ti23 : V.TI := { ty := .struct [(0, 3), (1, 3), (2, 22)], size := 3, bytes := 40, zero := [.int .i64 0, .int .i64 0, .slice none 0 0], eq := true }
theorem ye9 : V.infoOf Tryz.prog 23 ti23.eq = some ti23 := by kernel_rfl
def ti24 : V.TI := { ty := .struct [(0, 3), (1, 3), (2, 22)], size := 3, bytes := 40, zero := [.int .i64 0, .int .i64 0, .slice none 0 0], eq := true }
theorem ye8 : V.infoOf Tryz.prog 24 ti24.eq = some ti24 := by kernel_rfl
def ti25 : V.TI := { ty := .slice 145, size := 1, bytes := 24, zero := [.slice none 0 0], eq := false }
theorem ye7 : V.infoOf Tryz.prog 25 ti25.eq = some ti25 := by kernel_rfl
def ti26 : V.TI := { ty := .slice 51, size := 1, bytes := 24, zero := [.slice none 0 0], eq := false }
theorem ye6 : V.infoOf Tryz.prog 26 ti26.eq = some ti26 := by kernel_rfl
def ti27 : V.TI := { ty := .struct [(0, 3), (1, 3), (2, 3), (3, 24), (6, 25), (7, 26)], size := 8, bytes := 112, zero := [.int .i64 0, .int .i64 0, .int .i64 0, .int .i64 0, .int .i64 0, .slice none 0 0, .slice none 0 0, .slice none 0 0], eq := true }
theorem ye5 : V.infoOf Tryz.prog 27 ti27.eq = some ti27 := by kernel_rfl
def ti28 : V.TI := { ty := .struct [(0, 3), (1, 3), (2, 3), (3, 24), (6, 25), (7, 26)], size := 8, bytes := 112, zero := [.int .i64 0, .int .i64 0, .int .i64 0, .int .i64 0, .int .i64 0, .slice none 0 0, .slice none 0 0, .slice none 0 0], eq := true }
theorem ye4 : V.infoOf Tryz.prog 28 ti28.eq = some ti28 := by kernel_rfl
def ti29 : V.TI := { ty := .slice 3, size := 1, bytes := 24, zero := [.slice none 0 0], eq := false }
theorem ye3 : V.infoOf Tryz.prog 29 ti29.eq = some ti29 := by kernel_rfl
def ti30 : V.TI := { ty := .slice 49, size := 1, bytes := 24, zero := [.slice none 0 0], eq := false }
theorem ye2 : V.infoOf Tryz.prog 30 ti30.eq = some ti30 := by kernel_rfl
def ti31 : V.TI := { ty := .struct [(0, 28), (8, 29), (9, 30)], size := 10, bytes := 160, zero := [.int .i64 0, .int .i64 0, .int .i64 0, .int .i64 0, .int .i64 0, .slice none 0 0, .slice none 0 0, .slice none 0 0, .slice none 0 0, .slice none 0 0], eq := true }
theorem ye1 : V.infoOf Tryz.prog 31 ti31.eq = some ti31 := by kernel_rfl
def ti32 : V.TI := { ty := .struct [(0, 28), (8, 29), (9, 30)], size := 10, bytes := 160, zero := [.int .i64 0, .int .i64 0, .int .i64 0, .int .i64 0, .int .i64 0, .slice none 0 0, .slice none 0 0, .slice none 0 0, .slice none 0 0, .slice none 0 0], eq := true }
theorem ye0 : V.infoOf Tryz.prog 32 ti32.eq = some ti32 := by kernel_rfl
def ti33 : V.TI := { ty := .func, size := 1, bytes := 8, zero := [.nilFunc], eq := false }
theorem yez : V.infoOf Tryz.prog 33 ti33.eq = some ti33 := by kernel_rfl
def ti34 : V.TI := { ty := .func, size := 1, bytes := 8, zero := [.nilFunc], eq := false }
theorem yey : V.infoOf Tryz.prog 34 ti34.eq = some ti34 := by kernel_rfl
def ti35 : V.TI := { ty := .func, size := 1, bytes := 8, zero := [.nilFunc], eq := false }
theorem yex : V.infoOf Tryz.prog 35 ti35.eq = some ti35 := by kernel_rfl
def ti36 : V.TI := { ty := .int .i64, size := 1, bytes := 8, zero := [.int .i64 0], eq := false }
theorem yew : V.infoOf Tryz.prog 36 ti36.eq = some ti36 := by kernel_rfl
def ti38 : V.TI := { ty := .func, size := 1, bytes := 8, zero := [.nilFunc], eq := false }
theorem yev : V.infoOf Tryz.prog 38 ti38.eq = some ti38 := by kernel_rfl
def ti39 : V.TI := { ty := .func, size := 1, bytes := 8, zero := [.nilFunc], eq := false }
theorem yeu : V.infoOf Tryz.prog 39 ti39.eq = some ti39 := by kernel_rfl
def ti40 : V.TI := { ty := .func, size := 1, bytes := 8, zero := [.nilFunc], eq := false }
theorem yer : V.infoOf Tryz.prog 40 ti40.eq = some ti40 := by kernel_rfl
def ti41 : V.TI := { ty := .func, size := 1, bytes := 8, zero := [.nilFunc], eq := false }
theorem yeq : V.infoOf Tryz.prog 41 ti41.eq = some ti41 := by kernel_rfl
def ti42 : V.TI := { ty := .ptr 45, size := 1, bytes := 8, zero := [.pointer none], eq := false }
theorem yep : V.infoOf Tryz.prog 42 ti42.eq = some ti42 := by kernel_rfl
def ti43 : V.TI := { ty := .slice 29, size := 1, bytes := 24, zero := [.slice none 0 0], eq := false }
theorem yeo : V.infoOf Tryz.prog 43 ti43.eq = some ti43 := by kernel_rfl
def ti44 : V.TI := { ty := .struct [(0, 29), (1, 29), (2, 29), (3, 43)], size := 4, bytes := 96, zero := [.slice none 0 0, .slice none 0 0, .slice none 0 0, .slice none 0 0], eq := true }
theorem yen : V.infoOf Tryz.prog 44 ti44.eq = some ti44 := by kernel_rfl
def ti45 : V.TI := { ty := .struct [(0, 29), (1, 29), (2, 29), (3, 43)], size := 4, bytes := 96, zero := [.slice none 0 0, .slice none 0 0, .slice none 0 0, .slice none 0 0], eq := true }
theorem yem : V.infoOf Tryz.prog 45 ti45.eq = some ti45 := by kernel_rfl
def ti46 : V.TI := { ty := .func, size := 1, bytes := 8, zero := [.nilFunc], eq := false }
theorem yel : V.infoOf Tryz.prog 46 ti46.eq = some ti46 := by kernel_rfl
def ti47 : V.TI := { ty := .func, size := 1, bytes := 8, zero := [.nilFunc], eq := false }
theorem yek : V.infoOf Tryz.prog 47 ti47.eq = some ti47 := by kernel_rfl
def ti48 : V.TI := { ty := .struct [(0, 2), (1, 2)], size := 2, bytes := 16, zero := [.int .i64 0, .int .i64 0], eq := true }
theorem yej : V.infoOf Tryz.prog 48 ti48.eq = some ti48 := by kernel_rfl
def ti49 : V.TI := { ty := .struct [(0, 2), (1, 2)], size := 2, bytes := 16, zero := [.int .i64 0, .int .i64 0], eq := true }
theorem yei : V.infoOf Tryz.prog 49 ti49.eq = some ti49 := by kernel_rfl
def ti50 : V.TI := { ty := .struct [(0, 3), (1, 3), (2, 3), (3, 49), (5, 3), (6, 3), (7, 3), (8, 3), (9, 3)], size := 10, bytes := 80, zero := [.int .i64 0, .int .i64 0, .int .i64 0, .int .i64 0, .int .i64 0, .int .i64 0, .int .i64 0, .int .i64 0, .int .i64 0, .int .i64 0], eq := true }
theorem yeh : V.infoOf Tryz.prog 50 ti50.eq = some ti50 := by kernel_rfl
def ti51 : V.TI := { ty := .struct [(0, 3), (1, 3), (2, 3), (3, 49), (5, 3), (6, 3), (7, 3), (8, 3), (9, 3)], size := 10, bytes := 80, zero := [.int .i64 0, .int .i64 0, .int .i64 0, .int .i64 0, .int .i64 0, .int .i64 0, .int .i64 0, .int .i64 0, .int .i64 0, .int .i64 0], eq := true }
theorem yeg : V.infoOf Tryz.prog 51 ti51.eq = some ti51 := by kernel_rfl
def ti52 : V.TI := { ty := .func, size := 1, bytes := 8, zero := [.nilFunc], eq := false }
theorem yef : V.infoOf Tryz.prog 52 ti52.eq = some ti52 := by kernel_rfl
def ti53 : V.TI := { ty := .func, size := 1, bytes := 8, zero := [.nilFunc], eq := false }
theorem yee : V.infoOf Tryz.prog 53 ti53.eq = some ti53 := by kernel_rfl
def ti54 : V.TI := { ty := .struct [(0, 2), (1, 2), (2, 3), (3, 3), (4, 3)], size := 5, bytes := 40, zero := [.int .i64 0, .int .i64 0, .int .i64 0, .int .i64 0, .int .i64 0], eq := true }
theorem yed : V.infoOf Tryz.prog 54 ti54.eq = some ti54 := by kernel_rfl
def ti55 : V.TI := { ty := .struct [(0, 2), (1, 2), (2, 3), (3, 3), (4, 3)], size := 5, bytes := 40, zero := [.int .i64 0, .int .i64 0, .int .i64 0, .int .i64 0, .int .i64 0], eq := true }
theorem yec : V.infoOf Tryz.prog 55 ti55.eq = some ti55 := by kernel_rfl
def ti56 : V.TI := { ty := .func, size := 1, bytes := 8, zero := [.nilFunc], eq := false }
theorem yeb : V.infoOf Tryz.prog 56 ti56.eq = some ti56 := by kernel_rfl
def ti57 : V.TI := { ty := .func, size := 1, bytes := 8, zero := [.nilFunc], eq := false }
theorem yea : V.infoOf Tryz.prog 57 ti57.eq = some ti57 := by kernel_rfl
def ti58 : V.TI := { ty := .func, size := 1, bytes := 8, zero := [.nilFunc], eq := false }
theorem yd9 : V.infoOf Tryz.prog 58 ti58.eq = some ti58 := by kernel_rfl
def ti59 : V.TI := { ty := .func, size := 1, bytes := 8, zero := [.nilFunc], eq := false }
theorem yd8 : V.infoOf Tryz.prog 59 ti59.eq = some ti59 := by kernel_rfl
def ti60 : V.TI := { ty := .slice 4, size := 1, bytes := 24, zero := [.slice none 0 0], eq := false }
theorem yd7 : V.infoOf Tryz.prog 60 ti60.eq = some ti60 := by kernel_rfl
def ti61 : V.TI := { ty := .func, size := 1, bytes := 8, zero := [.nilFunc], eq := false }
theorem yd6 : V.infoOf Tryz.prog 61 ti61.eq = some ti61 := by kernel_rfl
def ti62 : V.TI := { ty := .func, size := 1, bytes := 8, zero := [.nilFunc], eq := false }
theorem yd5 : V.infoOf Tryz.prog 62 ti62.eq = some ti62 := by kernel_rfl
def ti64 : V.TI := { ty := .func, size := 1, bytes := 8, zero := [.nilFunc], eq := false }
theorem yd4 : V.infoOf Tryz.prog 64 ti64.eq = some ti64 := by kernel_rfl
def ti66 : V.TI := { ty := .func, size := 1, bytes := 8, zero := [.nilFunc], eq := false }
theorem yd3 : V.infoOf Tryz.prog 66 ti66.eq = some ti66 := by kernel_rfl
def ti67 : V.TI := { ty := .func, size := 1, bytes := 8, zero := [.nilFunc], eq := false }
theorem yd2 : V.infoOf Tryz.prog 67 ti67.eq = some ti67 := by kernel_rfl
def ti68 : V.TI := { ty := .func, size := 1, bytes := 8, zero := [.nilFunc], eq := false }
theorem yd1 : V.infoOf Tryz.prog 68 ti68.eq = some ti68 := by kernel_rfl
def ti69 : V.TI := { ty := .ptr 135, size := 1, bytes := 8, zero := [.pointer none], eq := false }
theorem yd0 : V.infoOf Tryz.prog 69 ti69.eq = some ti69 := by kernel_rfl
def ti71 : V.TI := { ty := .func, size := 1, bytes := 8, zero := [.nilFunc], eq := false }
theorem ydz : V.infoOf Tryz.prog 71 ti71.eq = some ti71 := by kernel_rfl
def ti72 : V.TI := { ty := .func, size := 1, bytes := 8, zero := [.nilFunc], eq := false }
theorem ydy : V.infoOf Tryz.prog 72 ti72.eq = some ti72 := by kernel_rfl
def ti73 : V.TI := { ty := .slice 79, size := 1, bytes := 24, zero := [.slice none 0 0], eq := false }
theorem ydx : V.infoOf Tryz.prog 73 ti73.eq = some ti73 := by kernel_rfl
def ti74 : V.TI := { ty := .struct [(0, 28), (8, 73)], size := 9, bytes := 136, zero := [.int .i64 0, .int .i64 0, .int .i64 0, .int .i64 0, .int .i64 0, .slice none 0 0, .slice none 0 0, .slice none 0 0, .slice none 0 0], eq := true }
theorem ydw : V.infoOf Tryz.prog 74 ti74.eq = some ti74 := by kernel_rfl
def ti75 : V.TI := { ty := .struct [(0, 28), (8, 73)], size := 9, bytes := 136, zero := [.int .i64 0, .int .i64 0, .int .i64 0, .int .i64 0, .int .i64 0, .slice none 0 0, .slice none 0 0, .slice none 0 0, .slice none 0 0], eq := true }
theorem ydv : V.infoOf Tryz.prog 75 ti75.eq = some ti75 := by kernel_rfl
def ti76 : V.TI := { ty := .func, size := 1, bytes := 8, zero := [.nilFunc], eq := false }
theorem ydu : V.infoOf Tryz.prog 76 ti76.eq = some ti76 := by kernel_rfl
def ti77 : V.TI := { ty := .func, size := 1, bytes := 8, zero := [.nilFunc], eq := false }
theorem ydt : V.infoOf Tryz.prog 77 ti77.eq = some ti77 := by kernel_rfl
def ti78 : V.TI := { ty := .struct [(0, 3), (1, 3), (2, 3), (3, 3), (4, 29), (5, 3), (6, 3), (7, 3), (8, 49)], size := 10, bytes := 96, zero := [.int .i64 0, .int .i64 0, .int .i64 0, .int .i64 0, .slice none 0 0, .int .i64 0, .int .i64 0, .int .i64 0, .int .i64 0, .int .i64 0], eq := true }
theorem yds : V.infoOf Tryz.prog 78 ti78.eq = some ti78 := by kernel_rfl
def ti79 : V.TI := { ty := .struct [(0, 3), (1, 3), (2, 3), (3, 3), (4, 29), (5, 3), (6, 3), (7, 3), (8, 49)], size := 10, bytes := 96, zero := [.int .i64 0, .int .i64 0, .int .i64 0, .int .i64 0, .slice none 0 0, .int .i64 0, .int .i64 0, .int .i64 0, .int .i64 0, .int .i64 0], eq := true }
theorem ydr : V.infoOf Tryz.prog 79 ti79.eq = some ti79 := by kernel_rfl
def ti80 : V.TI := { ty := .func, size := 1, bytes := 8, zero := [.nilFunc], eq := false }
theorem ydq : V.infoOf Tryz.prog 80 ti80.eq = some ti80 := by kernel_rfl
def ti81 : V.TI := { ty := .func, size := 1, bytes := 8, zero := [.nilFunc], eq := false }
theorem ydp : V.infoOf Tryz.prog 81 ti81.eq = some ti81 := by kernel_rfl
def ti82 : V.TI := { ty := .func, size := 1, bytes := 8, zero := [.nilFunc], eq := false }
theorem ydo : V.infoOf Tryz.prog 82 ti82.eq = some ti82 := by kernel_rfl
def ti83 : V.TI := { ty := .ptr 91, size := 1, bytes := 8, zero := [.pointer none], eq := false }
theorem ydn : V.infoOf Tryz.prog 83 ti83.eq = some ti83 := by kernel_rfl
def ti85 : V.TI := { ty := .func, size := 1, bytes := 8, zero := [.nilFunc], eq := false }
theorem ydm : V.infoOf Tryz.prog 85 ti85.eq = some ti85 := by kernel_rfl
def ti86 : V.TI := { ty := .func, size := 1, bytes := 8, zero := [.nilFunc], eq := false }
theorem ydl : V.infoOf Tryz.prog 86 ti86.eq = some ti86 := by kernel_rfl
def ti87 : V.TI := { ty := .ptr 95, size := 1, bytes := 8, zero := [.pointer none], eq := false }
theorem ydk : V.infoOf Tryz.prog 87 ti87.eq = some ti87 := by kernel_rfl
def ti88 : V.TI := { ty := .other, size := 1, bytes := 16, zero := [.nilIface], eq := false }
theorem ydj : V.infoOf Tryz.prog 88 ti88.eq = some ti88 := by kernel_rfl
def ti89 : V.TI := { ty := .other, size := 1, bytes := 16, zero := [.nilIface], eq := false }
theorem ydi : V.infoOf Tryz.prog 89 ti89.eq = some ti89 := by kernel_rfl
def ti90 : V.TI := { ty := .struct [(0, 87), (1, 89)], size := 2, bytes := 24, zero := [.pointer none, .nilIface], eq := false }
theorem ydh : V.infoOf Tryz.prog 90 ti90.eq = some ti90 := by kernel_rfl
def ti91 : V.TI := { ty := .struct [(0, 87), (1, 89)], size := 2, bytes := 24, zero := [.pointer none, .nilIface], eq := false }
theorem ydg : V.infoOf Tryz.prog 91 ti91.eq = some ti91 := by kernel_rfl
def ti92 : V.TI := { ty := .array 3 60, size := 3, bytes := 72, zero := [.slice none 0 0, .slice none 0 0, .slice none 0 0], eq := false }
theorem ydf : V.infoOf Tryz.prog 92 ti92.eq = some ti92 := by kernel_rfl
def ti93 : V.TI := { ty := .ptr 212, size := 1, bytes := 8, zero := [.pointer none], eq := false }
theorem yde : V.infoOf Tryz.prog 93 ti93.eq = some ti93 := by kernel_rfl
def ti94 : V.TI := { ty := .struct [(0, 28), (8, 92), (11, 93)], size := 12, bytes := 192, zero := [.int .i64 0, .int .i64 0, .int .i64 0, .int .i64 0, .int .i64 0, .slice none 0 0, .slice none 0 0, .slice none 0 0, .slice none 0 0, .slice none 0 0, .slice none 0 0, .pointer none], eq := true }
theorem ydd : V.infoOf Tryz.prog 94 ti94.eq = some ti94 := by kernel_rfl
def ti95 : V.TI := { ty := .struct [(0, 28), (8, 92), (11, 93)], size := 12, bytes := 192, zero := [.int .i64 0, .int .i64 0, .int .i64 0, .int .i64 0, .int .i64 0, .slice none 0 0, .slice none 0 0, .slice none 0 0, .slice none 0 0, .slice none 0 0, .slice none 0 0, .pointer none], eq := true }
theorem ydc : V.infoOf Tryz.prog 95 ti95.eq = some ti95 := by kernel_rfl
def ti96 : V.TI := { ty := .func, size := 1, bytes := 8, zero := [.nilFunc], eq := false }
theorem ydb : V.infoOf Tryz.prog 96 ti96.eq = some ti96 := by kernel_rfl
def ti97 : V.TI := { ty := .func, size := 1, bytes := 8, zero := [.nilFunc], eq := false }
theorem yda : V.infoOf Tryz.prog 97 ti97.eq = some ti97 := by kernel_rfl
def ti98 : V.TI := { ty := .func, size := 1, bytes := 8, zero := [.nilFunc], eq := false }
theorem yc9 : V.infoOf Tryz.prog 98 ti98.eq = some ti98 := by kernel_rfl
def ti99 : V.TI := { ty := .ptr 51, size := 1, bytes := 8, zero := [.pointer none], eq := false }
theorem yc8 : V.infoOf Tryz.prog 99 ti99.eq = some ti99 := by kernel_rfl
def ti100 : V.TI := { ty := .func, size := 1, bytes := 8, zero := [.nilFunc], eq := false }
theorem zzj : V.infoOf Tryz.prog 100 ti100.eq = some ti100 := by kernel_rfl
def ti101 : V.TI := { ty := .func, size := 1, bytes := 8, zero := [.nilFunc], eq := false }
theorem zzi : V.infoOf Tryz.prog 101 ti101.eq = some ti101 := by kernel_rfl
def ti102 : V.TI := { ty := .func, size := 1, bytes := 8, zero := [.nilFunc], eq := false }
theorem zzh : V.infoOf Tryz.prog 102 ti102.eq = some ti102 := by kernel_rfl
def ti103 : V.TI := { ty := .func, size := 1, bytes := 8, zero := [.nilFunc], eq := false }
theorem zzg : V.infoOf Tryz.prog 103 ti103.eq = some ti103 := by kernel_rfl
def ti104 : V.TI := { ty := .func, size := 1, bytes := 8, zero := [.nilFunc], eq := false }
theorem zzf : V.infoOf Tryz.prog 104 ti104.eq = some ti104 := by kernel_rfl
def ti105 : V.TI := { ty := .func, size := 1, bytes := 8, zero := [.nilFunc], eq := false }
theorem zze : V.infoOf Tryz.prog 105 ti105.eq = some ti105 := by kernel_rfl
def ti106 : V.TI := { ty := .func, size := 1, bytes := 8, zero := [.nilFunc], eq := false }
theorem zzd : V.infoOf Tryz.prog 106 ti106.eq = some ti106 := by kernel_rfl
def ti107 : V.TI := { ty := .func, size := 1, bytes := 8, zero := [.nilFunc], eq := false }
theorem zzc : V.infoOf Tryz.prog 107 ti107.eq = some ti107 := by kernel_rfl
def ti108 : V.TI := { ty := .int .u64, size := 1, bytes := 8, zero := [.int .u64 0], eq := false }
theorem zzb : V.infoOf Tryz.prog 108 ti108.eq = some ti108 := by kernel_rfl
def ti109 : V.TI := { ty := .func, size := 1, bytes := 8, zero := [.nilFunc], eq := false }
theorem zza : V.infoOf Tryz.prog 109 ti109.eq = some ti109 := by kernel_rfl
def ti110 : V.TI := { ty := .struct [(0, 108), (1, 108)], size := 2, bytes := 16, zero := [.int .u64 0, .int .u64 0], eq := true }
theorem zy9 : V.infoOf Tryz.prog 110 ti110.eq = some ti110 := by kernel_rfl
def ti111 : V.TI := { ty := .struct [(0, 108), (1, 108)], size := 2, bytes := 16, zero := [.int .u64 0, .int .u64 0], eq := true }
theorem zy8 : V.infoOf Tryz.prog 111 ti111.eq = some ti111 := by kernel_rfl
def ti112 : V.TI := { ty := .func, size := 1, bytes := 8, zero := [.nilFunc], eq := false }
theorem zy7 : V.infoOf Tryz.prog 112 ti112.eq = some ti112 := by kernel_rfl
def ti113 : V.TI := { ty := .func, size := 1, bytes := 8, zero := [.nilFunc], eq := false }
theorem zy6 : V.infoOf Tryz.prog 113 ti113.eq = some ti113 := by kernel_rfl
def ti115 : V.TI := { ty := .func, size := 1, bytes := 8, zero := [.nilFunc], eq := false }
theorem zy5 : V.infoOf Tryz.prog 115 ti115.eq = some ti115 := by kernel_rfl
def ti116 : V.TI := { ty := .int .u64, size := 1, bytes := 8, zero := [.int .u64 0], eq := false }
theorem zy4 : V.infoOf Tryz.prog 116 ti116.eq = some ti116 := by kernel_rfl
def ti117 : V.TI := { ty := .func, size := 1, bytes := 8, zero := [.nilFunc], eq := false }
theorem zy3 : V.infoOf Tryz.prog 117 ti117.eq = some ti117 := by kernel_rfl
def ti118 : V.TI := { ty := .func, size := 1, bytes := 8, zero := [.nilFunc], eq := false }
theorem zy2 : V.infoOf Tryz.prog 118 ti118.eq = some ti118 := by kernel_rfl
def ti119 : V.TI := { ty := .func, size := 1, bytes := 8, zero := [.nilFunc], eq := false }
theorem zy1 : V.infoOf Tryz.prog 119 ti119.eq = some ti119 := by kernel_rfl
def ti120 : V.TI := { ty := .func, size := 1, bytes := 8, zero := [.nilFunc], eq := false }
theorem zy0 : V.infoOf Tryz.prog 120 ti120.eq = some ti120 := by kernel_rfl
def ti121 : V.TI := { ty := .func, size := 1, bytes := 8, zero := [.nilFunc], eq := false }
theorem zyz : V.infoOf Tryz.prog 121 ti121.eq = some ti121 := by kernel_rfl
def ti122 : V.TI := { ty := .func, size := 1, bytes := 8, zero := [.nilFunc], eq := false }
theorem zyy : V.infoOf Tryz.prog 122 ti122.eq = some ti122 := by kernel_rfl
def ti123 : V.TI := { ty := .func, size := 1, bytes := 8, zero := [.nilFunc], eq := false }
theorem zyx : V.infoOf Tryz.prog 123 ti123.eq = some ti123 := by kernel_rfl
def ti124 : V.TI := { ty := .ptr 168, size := 1, bytes := 8, zero := [.pointer none], eq := false }
theorem zyw : V.infoOf Tryz.prog 124 ti124.eq = some ti124 := by kernel_rfl
def ti126 : V.TI := { ty := .func, size := 1, bytes := 8, zero := [.nilFunc], eq := false }
theorem zyv : V.infoOf Tryz.prog 126 ti126.eq = some ti126 := by kernel_rfl
def ti127 : V.TI := { ty := .struct [], size := 0, bytes := 0, zero := [], eq := true }
theorem zyu : V.infoOf Tryz.prog 127 ti127.eq = some ti127 := by kernel_rfl
def ti128 : V.TI := { ty := .struct [], size := 0, bytes := 0, zero := [], eq := true }
theorem zyt : V.infoOf Tryz.prog 128 ti128.eq = some ti128 := by kernel_rfl
def ti129 : V.TI := { ty := .struct [], size := 0, bytes := 0, zero := [], eq := true }
theorem zys : V.infoOf Tryz.prog 129 ti129.eq = some ti129 := by kernel_rfl
def ti130 : V.TI := { ty := .struct [(0, 128), (0, 129), (0, 2)], size := 1, bytes := 8, zero := [.int .i64 0], eq := false }
theorem zyr : V.infoOf Tryz.prog 130 ti130.eq = some ti130 := by kernel_rfl
def ti131 : V.TI := { ty := .struct [(0, 128), (0, 129), (0, 2)], size := 1, bytes := 8, zero := [.int .i64 0], eq := false }
theorem zyq : V.infoOf Tryz.prog 131 ti131.eq = some ti131 := by kernel_rfl
def ti132 : V.TI := { ty := .map 3 290, size := 1, bytes := 8, zero := [.map none], eq := false }
theorem zyp : V.infoOf Tryz.prog 132 ti132.eq = some ti132 := by kernel_rfl
def ti133 : V.TI := { ty := .map 3 305, size := 1, bytes := 8, zero := [.map none], eq := false }
theorem zyo : V.infoOf Tryz.prog 133 ti133.eq = some ti133 := by kernel_rfl
def ti134 : V.TI := { ty := .struct [(0, 124), (1, 131), (2, 4), (3, 24), (6, 25), (7, 132), (8, 133), (9, 3)], size := 10, bytes := 112, zero := [.pointer none, .int .i64 0, .bool false, .int .i64 0, .int .i64 0, .slice none 0 0, .slice none 0 0, .map none, .map none, .int .i64 0], eq := true }
theorem zyn : V.infoOf Tryz.prog 134 ti134.eq = some ti134 := by kernel_rfl
def ti135 : V.TI := { ty := .struct [(0, 124), (1, 131), (2, 4), (3, 24), (6, 25), (7, 132), (8, 133), (9, 3)], size := 10, bytes := 112, zero := [.pointer none, .int .i64 0, .bool false, .int .i64 0, .int .i64 0, .slice none 0 0, .slice none 0 0, .map none, .map none, .int .i64 0], eq := true }
theorem zym : V.infoOf Tryz.prog 135 ti135.eq = some ti135 := by kernel_rfl
def ti136 : V.TI := { ty := .func, size := 1, bytes := 8, zero := [.nilFunc], eq := false }
theorem zyl : V.infoOf Tryz.prog 136 ti136.eq = some ti136 := by kernel_rfl
def ti137 : V.TI := { ty := .func, size := 1, bytes := 8, zero := [.nilFunc], eq := false }
theorem zyk : V.infoOf Tryz.prog 137 ti137.eq = some ti137 := by kernel_rfl
def ti138 : V.TI := { ty := .func, size := 1, bytes := 8, zero := [.nilFunc], eq := false }
theorem zyj : V.infoOf Tryz.prog 138 ti138.eq = some ti138 := by kernel_rfl
def ti139 : V.TI := { ty := .func, size := 1, bytes := 8, zero := [.nilFunc], eq := false }
theorem zyi : V.infoOf Tryz.prog 139 ti139.eq = some ti139 := by kernel_rfl
def ti140 : V.TI := { ty := .ptr 28, size := 1, bytes := 8, zero := [.pointer none], eq := false }
theorem zyh : V.infoOf Tryz.prog 140 ti140.eq = some ti140 := by kernel_rfl
def ti141 : V.TI := { ty := .func, size := 1, bytes := 8, zero := [.nilFunc], eq := false }
theorem zyg : V.infoOf Tryz.prog 141 ti141.eq = some ti141 := by kernel_rfl
def ti142 : V.TI := { ty := .func, size := 1, bytes := 8, zero := [.nilFunc], eq := false }
theorem zyf : V.infoOf Tryz.prog 142 ti142.eq = some ti142 := by kernel_rfl
def ti143 : V.TI := { ty := .func, size := 1, bytes := 8, zero := [.nilFunc], eq := false }
theorem zye : V.infoOf Tryz.prog 143 ti143.eq = some ti143 := by kernel_rfl
def ti144 : V.TI := { ty := .struct [(0, 3), (1, 3), (2, 3), (3, 3), (4, 3), (5, 3)], size := 6, bytes := 48, zero := [.int .i64 0, .int .i64 0, .int .i64 0, .int .i64 0, .int .i64 0, .int .i64 0], eq := true }
theorem zyd : V.infoOf Tryz.prog 144 ti144.eq = some ti144 := by kernel_rfl
def ti145 : V.TI := { ty := .struct [(0, 3), (1, 3), (2, 3), (3, 3), (4, 3), (5, 3)], size := 6, bytes := 48, zero := [.int .i64 0, .int .i64 0, .int .i64 0, .int .i64 0, .int .i64 0, .int .i64 0], eq := true }
theorem zyc : V.infoOf Tryz.prog 145 ti145.eq = some ti145 := by kernel_rfl
def ti146 : V.TI := { ty := .func, size := 1, bytes := 8, zero := [.nilFunc], eq := false }
theorem zyb : V.infoOf Tryz.prog 146 ti146.eq = some ti146 := by kernel_rfl
def ti147 : V.TI := { ty := .struct [], size := 0, bytes := 0, zero := [], eq := true }
theorem zya : V.infoOf Tryz.prog 147 ti147.eq = some ti147 := by kernel_rfl
def ti149 : V.TI := { ty := .func, size := 1, bytes := 8, zero := [.nilFunc], eq := false }
theorem zx9 : V.infoOf Tryz.prog 149 ti149.eq = some ti149 := by kernel_rfl
def ti150 : V.TI := { ty := .func, size := 1, bytes := 8, zero := [.nilFunc], eq := false }
theorem zx8 : V.infoOf Tryz.prog 150 ti150.eq = some ti150 := by kernel_rfl
def ti151 : V.TI := { ty := .func, size := 1, bytes := 8, zero := [.nilFunc], eq := false }
theorem zx7 : V.infoOf Tryz.prog 151 ti151.eq = some ti151 := by kernel_rfl
def ti152 : V.TI := { ty := .func, size := 1, bytes := 8, zero := [.nilFunc], eq := false }
theorem zx6 : V.infoOf Tryz.prog 152 ti152.eq = some ti152 := by kernel_rfl
def ti153 : V.TI := { ty := .array 8 3, size := 8, bytes := 64, zero := [.int .i64 0, .int .i64 0, .int .i64 0, .int .i64 0, .int .i64 0, .int .i64 0, .int .i64 0, .int .i64 0], eq := false }
theorem zx5 : V.infoOf Tryz.prog 153 ti153.eq = some ti153 := by kernel_rfl
def ti154 : V.TI := { ty := .func, size := 1, bytes := 8, zero := [.nilFunc], eq := false }
theorem zx4 : V.infoOf Tryz.prog 154 ti154.eq = some ti154 := by kernel_rfl
def ti155 : V.TI := { ty := .func, size := 1, bytes := 8, zero := [.nilFunc], eq := false }
theorem zx3 : V.infoOf Tryz.prog 155 ti155.eq = some ti155 := by kernel_rfl
def ti156 : V.TI := { ty := .func, size := 1, bytes := 8, zero := [.nilFunc], eq := false }
theorem zx2 : V.infoOf Tryz.prog 156 ti156.eq = some ti156 := by kernel_rfl
def ti157 : V.TI := { ty := .func, size := 1, bytes := 8, zero := [.nilFunc], eq := false }
theorem zx1 : V.infoOf Tryz.prog 157 ti157.eq = some ti157 := by kernel_rfl
def ti158 : V.TI := { ty := .func, size := 1, bytes := 8, zero := [.nilFunc], eq := false }
theorem zx0 : V.infoOf Tryz.prog 158 ti158.eq = some ti158 := by kernel_rfl
def ti159 : V.TI := { ty := .func, size := 1, bytes := 8, zero := [.nilFunc], eq := false }
theorem zxz : V.infoOf Tryz.prog 159 ti159.eq = some ti159 := by kernel_rfl
def ti160 : V.TI := { ty := .func, size := 1, bytes := 8, zero := [.nilFunc], eq := false }
theorem zxy : V.infoOf Tryz.prog 160 ti160.eq = some ti160 := by kernel_rfl
def ti161 : V.TI := { ty := .func, size := 1, bytes := 8, zero := [.nilFunc], eq := false }
theorem zxx : V.infoOf Tryz.prog 161 ti161.eq = some ti161 := by kernel_rfl
def ti162 : V.TI := { ty := .func, size := 1, bytes := 8, zero := [.nilFunc], eq := false }
theorem zxw : V.infoOf Tryz.prog 162 ti162.eq = some ti162 := by kernel_rfl
def ti163 : V.TI := { ty := .func, size := 1, bytes := 8, zero := [.nilFunc], eq := false }
theorem zxv : V.infoOf Tryz.prog 163 ti163.eq = some ti163 := by kernel_rfl
def ti164 : V.TI := { ty := .func, size := 1, bytes := 8, zero := [.nilFunc], eq := false }
theorem zxu : V.infoOf Tryz.prog 164 ti164.eq = some ti164 := by kernel_rfl
def ti165 : V.TI := { ty := .func, size := 1, bytes := 8, zero := [.nilFunc], eq := false }
theorem zxt : V.infoOf Tryz.prog 165 ti165.eq = some ti165 := by kernel_rfl
def ti166 : V.TI := { ty := .map 3 3, size := 1, bytes := 8, zero := [.map none], eq := false }
theorem zxs : V.infoOf Tryz.prog 166 ti166.eq = some ti166 := by kernel_rfl
def ti167 : V.TI := { ty := .struct [(0, 3), (1, 166), (2, 29), (3, 131), (4, 131)], size := 5, bytes := 56, zero := [.int .i64 0, .map none, .slice none 0 0, .int .i64 0, .int .i64 0], eq := true }
theorem zxr : V.infoOf Tryz.prog 167 ti167.eq = some ti167 := by kernel_rfl
def ti168 : V.TI := { ty := .struct [(0, 3), (1, 166), (2, 29), (3, 131), (4, 131)], size := 5, bytes := 56, zero := [.int .i64 0, .map none, .slice none 0 0, .int .i64 0, .int .i64 0], eq := true }
theorem zxq : V.infoOf Tryz.prog 168 ti168.eq = some ti168 := by kernel_rfl
def ti169 : V.TI := { ty := .map 3 4, size := 1, bytes := 8, zero := [.map none], eq := false }
theorem zxp : V.infoOf Tryz.prog 169 ti169.eq = some ti169 := by kernel_rfl
def ti170 : V.TI := { ty := .func, size := 1, bytes := 8, zero := [.nilFunc], eq := false }
theorem zxo : V.infoOf Tryz.prog 170 ti170.eq = some ti170 := by kernel_rfl
def ti171 : V.TI := { ty := .func, size := 1, bytes := 8, zero := [.nilFunc], eq := false }
theorem zxn : V.infoOf Tryz.prog 171 ti171.eq = some ti171 := by kernel_rfl
def ti172 : V.TI := { ty := .func, size := 1, bytes := 8, zero := [.nilFunc], eq := false }
theorem zxm : V.infoOf Tryz.prog 172 ti172.eq = some ti172 := by kernel_rfl
def ti173 : V.TI := { ty := .func, size := 1, bytes := 8, zero := [.nilFunc], eq := false }
theorem zxl : V.infoOf Tryz.prog 173 ti173.eq = some ti173 := by kernel_rfl
def ti174 : V.TI := { ty := .func, size := 1, bytes := 8, zero := [.nilFunc], eq := false }
theorem zxk : V.infoOf Tryz.prog 174 ti174.eq = some ti174 := by kernel_rfl
def ti175 : V.TI := { ty := .func, size := 1, bytes := 8, zero := [.nilFunc], eq := false }
theorem zxj : V.infoOf Tryz.prog 175 ti175.eq = some ti175 := by kernel_rfl
def ti176 : V.TI := { ty := .func, size := 1, bytes := 8, zero := [.nilFunc], eq := false }
theorem zxi : V.infoOf Tryz.prog 176 ti176.eq = some ti176 := by kernel_rfl
def ti178 : V.TI := { ty := .func, size := 1, bytes := 8, zero := [.nilFunc], eq := false }
theorem zxh : V.infoOf Tryz.prog 178 ti178.eq = some ti178 := by kernel_rfl
def ti179 : V.TI := { ty := .func, size := 1, bytes := 8, zero := [.nilFunc], eq := false }
theorem zxg : V.infoOf Tryz.prog 179 ti179.eq = some ti179 := by kernel_rfl
def ti180 : V.TI := { ty := .func, size := 1, bytes := 8, zero := [.nilFunc], eq := false }
theorem zxf : V.infoOf Tryz.prog 180 ti180.eq = some ti180 := by kernel_rfl
def ti182 : V.TI := { ty := .func, size := 1, bytes := 8, zero := [.nilFunc], eq := false }
theorem zxe : V.infoOf Tryz.prog 182 ti182.eq = some ti182 := by kernel_rfl
def ti183 : V.TI := { ty := .func, size := 1, bytes := 8, zero := [.nilFunc], eq := false }
theorem zxd : V.infoOf Tryz.prog 183 ti183.eq = some ti183 := by kernel_rfl
def ti184 : V.TI := { ty := .func, size := 1, bytes := 8, zero := [.nilFunc], eq := false }
theorem zxc : V.infoOf Tryz.prog 184 ti184.eq = some ti184 := by kernel_rfl
def ti185 : V.TI := { ty := .func, size := 1, bytes := 8, zero := [.nilFunc], eq := false }
theorem zxb : V.infoOf Tryz.prog 185 ti185.eq = some ti185 := by kernel_rfl
def ti186 : V.TI := { ty := .func, size := 1, bytes := 8, zero := [.nilFunc], eq := false }
theorem zxa : V.infoOf Tryz.prog 186 ti186.eq = some ti186 := by kernel_rfl
def ti187 : V.TI := { ty := .func, size := 1, bytes := 8, zero := [.nilFunc], eq := false }
theorem zw9 : V.infoOf Tryz.prog 187 ti187.eq = some ti187 := by kernel_rfl
def ti188 : V.TI := { ty := .func, size := 1, bytes := 8, zero := [.nilFunc], eq := false }
theorem zw8 : V.infoOf Tryz.prog 188 ti188.eq = some ti188 := by kernel_rfl
def ti189 : V.TI := { ty := .func, size := 1, bytes := 8, zero := [.nilFunc], eq := false }
theorem zw7 : V.infoOf Tryz.prog 189 ti189.eq = some ti189 := by kernel_rfl
def ti190 : V.TI := { ty := .func, size := 1, bytes := 8, zero := [.nilFunc], eq := false }
theorem zw6 : V.infoOf Tryz.prog 190 ti190.eq = some ti190 := by kernel_rfl
def ti191 : V.TI := { ty := .func, size := 1, bytes := 8, zero := [.nilFunc], eq := false }
theorem zw5 : V.infoOf Tryz.prog 191 ti191.eq = some ti191 := by kernel_rfl
def ti193 : V.TI := { ty := .func, size := 1, bytes := 8, zero := [.nilFunc], eq := false }
theorem zw4 : V.infoOf Tryz.prog 193 ti193.eq = some ti193 := by kernel_rfl
def ti194 : V.TI := { ty := .func, size := 1, bytes := 8, zero := [.nilFunc], eq := false }
theorem zw3 : V.infoOf Tryz.prog 194 ti194.eq = some ti194 := by kernel_rfl
def ti195 : V.TI := { ty := .func, size := 1, bytes := 8, zero := [.nilFunc], eq := false }
theorem zw2 : V.infoOf Tryz.prog 195 ti195.eq = some ti195 := by kernel_rfl
def ti196 : V.TI := { ty := .func, size := 1, bytes := 8, zero := [.nilFunc], eq := false }
theorem zw1 : V.infoOf Tryz.prog 196 ti196.eq = some ti196 := by kernel_rfl
def ti197 : V.TI := { ty := .func, size := 1, bytes := 8, zero := [.nilFunc], eq := false }
theorem zw0 : V.infoOf Tryz.prog 197 ti197.eq = some ti197 := by kernel_rfl
def ti198 : V.TI := { ty := .func, size := 1, bytes := 8, zero := [.nilFunc], eq := false }
theorem zwz : V.infoOf Tryz.prog 198 ti198.eq = some ti198 := by kernel_rfl
def ti199 : V.TI := { ty := .func, size := 1, bytes := 8, zero := [.nilFunc], eq := false }
theorem zwy : V.infoOf Tryz.prog 199 ti199.eq = some ti199 := by kernel_rfl
def ti200 : V.TI := { ty := .func, size := 1, bytes := 8, zero := [.nilFunc], eq := false }
theorem zwx : V.infoOf Tryz.prog 200 ti200.eq = some ti200 := by kernel_rfl
def ti201 : V.TI := { ty := .func, size := 1, bytes := 8, zero := [.nilFunc], eq := false }
theorem zww : V.infoOf Tryz.prog 201 ti201.eq = some ti201 := by kernel_rfl
def ti202 : V.TI := { ty := .func, size := 1, bytes := 8, zero := [.nilFunc], eq := false }
theorem zwv : V.infoOf Tryz.prog 202 ti202.eq = some ti202 := by kernel_rfl
def ti203 : V.TI := { ty := .func, size := 1, bytes := 8, zero := [.nilFunc], eq := false }
theorem zwu : V.infoOf Tryz.prog 203 ti203.eq = some ti203 := by kernel_rfl
def ti204 : V.TI := { ty := .func, size := 1, bytes := 8, zero := [.nilFunc], eq := false }
theorem zwt : V.infoOf Tryz.prog 204 ti204.eq = some ti204 := by kernel_rfl
def ti205 : V.TI := { ty := .func, size := 1, bytes := 8, zero := [.nilFunc], eq := false }
theorem zws : V.infoOf Tryz.prog 205 ti205.eq = some ti205 := by kernel_rfl
def ti206 : V.TI := { ty := .func, size := 1, bytes := 8, zero := [.nilFunc], eq := false }
theorem zwr : V.infoOf Tryz.prog 206 ti206.eq = some ti206 := by kernel_rfl
def ti207 : V.TI := { ty := .func, size := 1, bytes := 8, zero := [.nilFunc], eq := false }
theorem zwq : V.infoOf Tryz.prog 207 ti207.eq = some ti207 := by kernel_rfl
def ti208 : V.TI := { ty := .func, size := 1, bytes := 8, zero := [.nilFunc], eq := false }
theorem zwp : V.infoOf Tryz.prog 208 ti208.eq = some ti208 := by kernel_rfl
def ti209 : V.TI := { ty := .map 3 49, size := 1, bytes := 8, zero := [.map none], eq := false }
theorem zwo : V.infoOf Tryz.prog 209 ti209.eq = some ti209 := by kernel_rfl
def ti210 : V.TI := { ty := .map 214 29, size := 1, bytes := 8, zero := [.map none], eq := false }
theorem zwn : V.infoOf Tryz.prog 210 ti210.eq = some ti210 := by kernel_rfl
def ti211 : V.TI := { ty := .struct [(0, 209), (1, 210)], size := 2, bytes := 16, zero := [.map none, .map none], eq := true }
theorem zwm : V.infoOf Tryz.prog 211 ti211.eq = some ti211 := by kernel_rfl
def ti212 : V.TI := { ty := .struct [(0, 209), (1, 210)], size := 2, bytes := 16, zero := [.map none, .map none], eq := true }
theorem zwl : V.infoOf Tryz.prog 212 ti212.eq = some ti212 := by kernel_rfl
def ti213 : V.TI := { ty := .struct [(0, 2), (1, 2)], size := 2, bytes := 16, zero := [.int .i64 0, .int .i64 0], eq := true }
theorem zwk : V.infoOf Tryz.prog 213 ti213.eq = some ti213 := by kernel_rfl
def ti214 : V.TI := { ty := .struct [(0, 2), (1, 2)], size := 2, bytes := 16, zero := [.int .i64 0, .int .i64 0], eq := true }
theorem zwj : V.infoOf Tryz.prog 214 ti214.eq = some ti214 := by kernel_rfl
def ti215 : V.TI := { ty := .func, size := 1, bytes := 8, zero := [.nilFunc], eq := false }
theorem zwi : V.infoOf Tryz.prog 215 ti215.eq = some ti215 := by kernel_rfl
def ti216 : V.TI := { ty := .func, size := 1, bytes := 8, zero := [.nilFunc], eq := false }
theorem zwh : V.infoOf Tryz.prog 216 ti216.eq = some ti216 := by kernel_rfl
def ti217 : V.TI := { ty := .func, size := 1, bytes := 8, zero := [.nilFunc], eq := false }
theorem zwg : V.infoOf Tryz.prog 217 ti217.eq = some ti217 := by kernel_rfl
def ti218 : V.TI := { ty := .func, size := 1, bytes := 8, zero := [.nilFunc], eq := false }
theorem zwf : V.infoOf Tryz.prog 218 ti218.eq = some ti218 := by kernel_rfl
def ti219 : V.TI := { ty := .struct [(0, 24), (3, 3), (4, 60)], size := 5, bytes := 72, zero := [.int .i64 0, .int .i64 0, .slice none 0 0, .int .i64 0, .slice none 0 0], eq := true }
theorem zwe : V.infoOf Tryz.prog 219 ti219.eq = some ti219 := by kernel_rfl
def ti220 : V.TI := { ty := .struct [(0, 24), (3, 3), (4, 60)], size := 5, bytes := 72, zero := [.int .i64 0, .int .i64 0, .slice none 0 0, .int .i64 0, .slice none 0 0], eq := true }
theorem zwd : V.infoOf Tryz.prog 220 ti220.eq = some ti220 := by kernel_rfl
def ti221 : V.TI := { ty := .ptr 220, size := 1, bytes := 8, zero := [.pointer none], eq := false }
theorem zwc : V.infoOf Tryz.prog 221 ti221.eq = some ti221 := by kernel_rfl
def ti222 : V.TI := { ty := .func, size := 1, bytes := 8, zero := [.nilFunc], eq := false }
theorem zwb : V.infoOf Tryz.prog 222 ti222.eq = some ti222 := by kernel_rfl
def ti223 : V.TI := { ty := .func, size := 1, bytes := 8, zero := [.nilFunc], eq := false }
theorem zwa : V.infoOf Tryz.prog 223 ti223.eq = some ti223 := by kernel_rfl
def ti224 : V.TI := { ty := .func, size := 1, bytes := 8, zero := [.nilFunc], eq := false }
theorem zv9 : V.infoOf Tryz.prog 224 ti224.eq = some ti224 := by kernel_rfl
def ti225 : V.TI := { ty := .array 6 3, size := 6, bytes := 48, zero := [.int .i64 0, .int .i64 0, .int .i64 0, .int .i64 0, .int .i64 0, .int .i64 0], eq := false }
theorem zv8 : V.infoOf Tryz.prog 225 ti225.eq = some ti225 := by kernel_rfl
def ti226 : V.TI := { ty := .array 3 225, size := 18, bytes := 144, zero := [.int .i64 0, .int .i64 0, .int .i64 0, .int .i64 0, .int .i64 0, .int .i64 0, .int .i64 0, .int .i64 0, .int .i64 0, .int .i64 0, .int .i64 0, .int .i64 0, .int .i64 0, .int .i64 0, .int .i64 0, .int .i64 0, .int .i64 0, .int .i64 0], eq := false }
theorem zv7 : V.infoOf Tryz.prog 226 ti226.eq = some ti226 := by kernel_rfl
def ti228 : V.TI := { ty := .func, size := 1, bytes := 8, zero := [.nilFunc], eq := false }
theorem zv6 : V.infoOf Tryz.prog 228 ti228.eq = some ti228 := by kernel_rfl
def ti229 : V.TI := { ty := .func, size := 1, bytes := 8, zero := [.nilFunc], eq := false }
theorem zv5 : V.infoOf Tryz.prog 229 ti229.eq = some ti229 := by kernel_rfl
def ti230 : V.TI := { ty := .func, size := 1, bytes := 8, zero := [.nilFunc], eq := false }
theorem zv4 : V.infoOf Tryz.prog 230 ti230.eq = some ti230 := by kernel_rfl
def ti231 : V.TI := { ty := .func, size := 1, bytes := 8, zero := [.nilFunc], eq := false }
theorem zv3 : V.infoOf Tryz.prog 231 ti231.eq = some ti231 := by kernel_rfl
def ti232 : V.TI := { ty := .func, size := 1, bytes := 8, zero := [.nilFunc], eq := false }
theorem zv2 : V.infoOf Tryz.prog 232 ti232.eq = some ti232 := by kernel_rfl
def ti233 : V.TI := { ty := .func, size := 1, bytes := 8, zero := [.nilFunc], eq := false }
theorem zv1 : V.infoOf Tryz.prog 233 ti233.eq = some ti233 := by kernel_rfl
def ti234 : V.TI := { ty := .func, size := 1, bytes := 8, zero := [.nilFunc], eq := false }
theorem zv0 : V.infoOf Tryz.prog 234 ti234.eq = some ti234 := by kernel_rfl
def ti235 : V.TI := { ty := .struct [(0, 108), (1, 108)], size := 2, bytes := 16, zero := [.int .u64 0, .int .u64 0], eq := true }
theorem zvz : V.infoOf Tryz.prog 235 ti235.eq = some ti235 := by kernel_rfl
def ti236 : V.TI := { ty := .func, size := 1, bytes := 8, zero := [.nilFunc], eq := false }
theorem zvy : V.infoOf Tryz.prog 236 ti236.eq = some ti236 := by kernel_rfl
def ti237 : V.TI := { ty := .func, size := 1, bytes := 8, zero := [.nilFunc], eq := false }
theorem zvx : V.infoOf Tryz.prog 237 ti237.eq = some ti237 := by kernel_rfl
def ti238 : V.TI := { ty := .func, size := 1, bytes := 8, zero := [.nilFunc], eq := false }
theorem zvw : V.infoOf Tryz.prog 238 ti238.eq = some ti238 := by kernel_rfl
def ti239 : V.TI := { ty := .func, size := 1, bytes := 8, zero := [.nilFunc], eq := false }
theorem zvv : V.infoOf Tryz.prog 239 ti239.eq = some ti239 := by kernel_rfl
def ti240 : V.TI := { ty := .func, size := 1, bytes := 8, zero := [.nilFunc], eq := false }
theorem zvu : V.infoOf Tryz.prog 240 ti240.eq = some ti240 := by kernel_rfl
def ti242 : V.TI := { ty := .func, size := 1, bytes := 8, zero := [.nilFunc], eq := false }
theorem zvt : V.infoOf Tryz.prog 242 ti242.eq = some ti242 := by kernel_rfl
def ti243 : V.TI := { ty := .func, size := 1, bytes := 8, zero := [.nilFunc], eq := false }
theorem zvs : V.infoOf Tryz.prog 243 ti243.eq = some ti243 := by kernel_rfl
def ti244 : V.TI := { ty := .array 2 3, size := 2, bytes := 16, zero := [.int .i64 0, .int .i64 0], eq := false }
theorem zvr : V.infoOf Tryz.prog 244 ti244.eq = some ti244 := by kernel_rfl
def ti245 : V.TI := { ty := .array 8 244, size := 16, bytes := 128, zero := [.int .i64 0, .int .i64 0, .int .i64 0, .int .i64 0, .int .i64 0, .int .i64 0, .int .i64 0, .int .i64 0, .int .i64 0, .int .i64 0, .int .i64 0, .int .i64 0, .int .i64 0, .int .i64 0, .int .i64 0, .int .i64 0], eq := false }
theorem zvq : V.infoOf Tryz.prog 245 ti245.eq = some ti245 := by kernel_rfl
def ti246 : V.TI := { ty := .func, size := 1, bytes := 8, zero := [.nilFunc], eq := false }
theorem zvp : V.infoOf Tryz.prog 246 ti246.eq = some ti246 := by kernel_rfl
def ti247 : V.TI := { ty := .func, size := 1, bytes := 8, zero := [.nilFunc], eq := false }
theorem zvo : V.infoOf Tryz.prog 247 ti247.eq = some ti247 := by kernel_rfl
def ti248 : V.TI := { ty := .func, size := 1, bytes := 8, zero := [.nilFunc], eq := false }
theorem zvn : V.infoOf Tryz.prog 248 ti248.eq = some ti248 := by kernel_rfl
def ti249 : V.TI := { ty := .func, size := 1, bytes := 8, zero := [.nilFunc], eq := false }
theorem zvm : V.infoOf Tryz.prog 249 ti249.eq = some ti249 := by kernel_rfl
def ti250 : V.TI := { ty := .func, size := 1, bytes := 8, zero := [.nilFunc], eq := false }
theorem zvl : V.infoOf Tryz.prog 250 ti250.eq = some ti250 := by kernel_rfl
def ti251 : V.TI := { ty := .func, size := 1, bytes := 8, zero := [.nilFunc], eq := false }
theorem zvk : V.infoOf Tryz.prog 251 ti251.eq = some ti251 := by kernel_rfl
def ti252 : V.TI := { ty := .func, size := 1, bytes := 8, zero := [.nilFunc], eq := false }
theorem zvj : V.infoOf Tryz.prog 252 ti252.eq = some ti252 := by kernel_rfl
def ti253 : V.TI := { ty := .other, size := 1, bytes := 16, zero := [.nilIface], eq := false }
theorem zvi : V.infoOf Tryz.prog 253 ti253.eq = some ti253 := by kernel_rfl
def ti254 : V.TI := { ty := .other, size := 1, bytes := 16, zero := [.nilIface], eq := false }
theorem zvh : V.infoOf Tryz.prog 254 ti254.eq = some ti254 := by kernel_rfl
def ti255 : V.TI := { ty := .func, size := 1, bytes := 8, zero := [.nilFunc], eq := false }
theorem zvg : V.infoOf Tryz.prog 255 ti255.eq = some ti255 := by kernel_rfl
def ti256 : V.TI := { ty := .func, size := 1, bytes := 8, zero := [.nilFunc], eq := false }
theorem zvf : V.infoOf Tryz.prog 256 ti256.eq = some ti256 := by kernel_rfl
def ti257 : V.TI := { ty := .func, size := 1, bytes := 8, zero := [.nilFunc], eq := false }
theorem zve : V.infoOf Tryz.prog 257 ti257.eq = some ti257 := by kernel_rfl
def ti258 : V.TI := { ty := .int .i64, size := 1, bytes := 8, zero := [.int .i64 0], eq := false }
theorem zvd : V.infoOf Tryz.prog 258 ti258.eq = some ti258 := by kernel_rfl
def ti260 : V.TI := { ty := .func, size := 1, bytes := 8, zero := [.nilFunc], eq := false }
theorem zvc : V.infoOf Tryz.prog 260 ti260.eq = some ti260 := by kernel_rfl
def ti261 : V.TI := { ty := .func, size := 1, bytes := 8, zero := [.nilFunc], eq := false }
theorem zvb : V.infoOf Tryz.prog 261 ti261.eq = some ti261 := by kernel_rfl
def ti262 : V.TI := { ty := .func, size := 1, bytes := 8, zero := [.nilFunc], eq := false }
theorem zva : V.infoOf Tryz.prog 262 ti262.eq = some ti262 := by kernel_rfl
def ti263 : V.TI := { ty := .func, size := 1, bytes := 8, zero := [.nilFunc], eq := false }
theorem zu9 : V.infoOf Tryz.prog 263 ti263.eq = some ti263 := by kernel_rfl
def ti264 : V.TI := { ty := .int .u32, size := 1, bytes := 4, zero := [.int .u32 0], eq := false }
theorem zu8 : V.infoOf Tryz.prog 264 ti264.eq = some ti264 := by kernel_rfl
def ti265 : V.TI := { ty := .int .u64, size := 1, bytes := 8, zero := [.int .u64 0], eq := false }
theorem zu7 : V.infoOf Tryz.prog 265 ti265.eq = some ti265 := by kernel_rfl
def ti266 : V.TI := { ty := .func, size := 1, bytes := 8, zero := [.nilFunc], eq := false }
theorem zu6 : V.infoOf Tryz.prog 266 ti266.eq = some ti266 := by kernel_rfl
def ti267 : V.TI := { ty := .func, size := 1, bytes := 8, zero := [.nilFunc], eq := false }
theorem zu5 : V.infoOf Tryz.prog 267 ti267.eq = some ti267 := by kernel_rfl
def ti268 : V.TI := { ty := .func, size := 1, bytes := 8, zero := [.nilFunc], eq := false }
theorem zu4 : V.infoOf Tryz.prog 268 ti268.eq = some ti268 := by kernel_rfl
def ti269 : V.TI := { ty := .ptr 3, size := 1, bytes := 8, zero := [.pointer none], eq := false }
theorem zu3 : V.infoOf Tryz.prog 269 ti269.eq = some ti269 := by kernel_rfl
def ti270 : V.TI := { ty := .func, size := 1, bytes := 8, zero := [.nilFunc], eq := false }
theorem zu2 : V.infoOf Tryz.prog 270 ti270.eq = some ti270 := by kernel_rfl
def ti271 : V.TI := { ty := .ptr 265, size := 1, bytes := 8, zero := [.pointer none], eq := false }
theorem zu1 : V.infoOf Tryz.prog 271 ti271.eq = some ti271 := by kernel_rfl
def ti273 : V.TI := { ty := .func, size := 1, bytes := 8, zero := [.nilFunc], eq := false }
theorem zu0 : V.infoOf Tryz.prog 273 ti273.eq = some ti273 := by kernel_rfl
def ti274 : V.TI := { ty := .func, size := 1, bytes := 8, zero := [.nilFunc], eq := false }
theorem zuz : V.infoOf Tryz.prog 274 ti274.eq = some ti274 := by kernel_rfl
def ti275 : V.TI := { ty := .struct [(0, 17), (1, 17), (2, 17), (3, 9)], size := 4, bytes := 40, zero := [.pointer none, .pointer none, .pointer none, .string ⟨#[]⟩], eq := false }
theorem zuy : V.infoOf Tryz.prog 275 ti275.eq = some ti275 := by kernel_rfl
def ti276 : V.TI := { ty := .struct [(0, 17), (1, 17), (2, 17), (3, 9)], size := 4, bytes := 40, zero := [.pointer none, .pointer none, .pointer none, .string ⟨#[]⟩], eq := false }
theorem zux : V.infoOf Tryz.prog 276 ti276.eq = some ti276 := by kernel_rfl
def ti277 : V.TI := { ty := .array 0 16, size := 0, bytes := 0, zero := [], eq := false }
theorem zuw : V.infoOf Tryz.prog 277 ti277.eq = some ti277 := by kernel_rfl
def ti278 : V.TI := { ty := .struct [(0, 277)], size := 0, bytes := 0, zero := [], eq := false }
theorem zuv : V.infoOf Tryz.prog 278 ti278.eq = some ti278 := by kernel_rfl
def ti279 : V.TI := { ty := .struct [(0, 277)], size := 0, bytes := 0, zero := [], eq := false }
theorem zuu : V.infoOf Tryz.prog 279 ti279.eq = some ti279 := by kernel_rfl
def ti280 : V.TI := { ty := .func, size := 1, bytes := 8, zero := [.nilFunc], eq := false }
theorem zut : V.infoOf Tryz.prog 280 ti280.eq = some ti280 := by kernel_rfl
def ti281 : V.TI := { ty := .int .u8, size := 1, bytes := 1, zero := [.int .u8 0], eq := false }
theorem zus : V.infoOf Tryz.prog 281 ti281.eq = some ti281 := by kernel_rfl
def ti282 : V.TI := { ty := .int .u8, size := 1, bytes := 1, zero := [.int .u8 0], eq := false }
theorem zur : V.infoOf Tryz.prog 282 ti282.eq = some ti282 := by kernel_rfl
def ti283 : V.TI := { ty := .func, size := 1, bytes := 8, zero := [.nilFunc], eq := false }
theorem zuq : V.infoOf Tryz.prog 283 ti283.eq = some ti283 := by kernel_rfl
def ti284 : V.TI := { ty := .ptr 5, size := 1, bytes := 8, zero := [.pointer none], eq := false }
theorem zup : V.infoOf Tryz.prog 284 ti284.eq = some ti284 := by kernel_rfl
def ti285 : V.TI := { ty := .int .i32, size := 1, bytes := 4, zero := [.int .i32 0], eq := false }
theorem zuo : V.infoOf Tryz.prog 285 ti285.eq = some ti285 := by kernel_rfl
def ti286 : V.TI := { ty := .int .i32, size := 1, bytes := 4, zero := [.int .i32 0], eq := false }
theorem zun : V.infoOf Tryz.prog 286 ti286.eq = some ti286 := by kernel_rfl
def ti287 : V.TI := { ty := .struct [(0, 12), (1, 12), (2, 264), (3, 281), (4, 5), (5, 5), (6, 282), (7, 283), (8, 284), (9, 285), (10, 286)], size := 11, bytes := 48, zero := [.int .u64 0, .int .u64 0, .int .u32 0, .int .u8 0, .int .u8 0, .int .u8 0, .int .u8 0, .nilFunc, .pointer none, .int .i32 0, .int .i32 0], eq := false }
theorem zum : V.infoOf Tryz.prog 287 ti287.eq = some ti287 := by kernel_rfl
def ti288 : V.TI := { ty := .struct [(0, 12), (1, 12), (2, 264), (3, 281), (4, 5), (5, 5), (6, 282), (7, 283), (8, 284), (9, 285), (10, 286)], size := 11, bytes := 48, zero := [.int .u64 0, .int .u64 0, .int .u32 0, .int .u8 0, .int .u8 0, .int .u8 0, .int .u8 0, .nilFunc, .pointer none, .int .i32 0, .int .i32 0], eq := false }
theorem zul : V.infoOf Tryz.prog 288 ti288.eq = some ti288 := by kernel_rfl
def ti289 : V.TI := { ty := .func, size := 1, bytes := 8, zero := [.nilFunc], eq := false }
theorem zuk : V.infoOf Tryz.prog 289 ti289.eq = some ti289 := by kernel_rfl
def ti290 : V.TI := { ty := .ptr 301, size := 1, bytes := 8, zero := [.pointer none], eq := false }
theorem zuj : V.infoOf Tryz.prog 290 ti290.eq = some ti290 := by kernel_rfl
def ti291 : V.TI := { ty := .struct [], size := 0, bytes := 0, zero := [], eq := true }
theorem zui : V.infoOf Tryz.prog 291 ti291.eq = some ti291 := by kernel_rfl
def ti292 : V.TI := { ty := .struct [(0, 128), (0, 264)], size := 1, bytes := 4, zero := [.int .u32 0], eq := false }
theorem zuh : V.infoOf Tryz.prog 292 ti292.eq = some ti292 := by kernel_rfl
def ti293 : V.TI := { ty := .struct [(0, 128), (0, 264)], size := 1, bytes := 4, zero := [.int .u32 0], eq := false }
theorem zug : V.infoOf Tryz.prog 293 ti293.eq = some ti293 := by kernel_rfl
def ti294 : V.TI := { ty := .struct [(0, 21), (1, 264)], size := 2, bytes := 8, zero := [.int .i32 0, .int .u32 0], eq := true }
theorem zuf : V.infoOf Tryz.prog 294 ti294.eq = some ti294 := by kernel_rfl
def ti295 : V.TI := { ty := .struct [(0, 21), (1, 264)], size := 2, bytes := 8, zero := [.int .i32 0, .int .u32 0], eq := true }
theorem zue : V.infoOf Tryz.prog 295 ti295.eq = some ti295 := by kernel_rfl
def ti296 : V.TI := { ty := .struct [(0, 291), (0, 295)], size := 2, bytes := 8, zero := [.int .i32 0, .int .u32 0], eq := false }
theorem zud : V.infoOf Tryz.prog 296 ti296.eq = some ti296 := by kernel_rfl
def ti297 : V.TI := { ty := .struct [(0, 291), (0, 295)], size := 2, bytes := 8, zero := [.int .i32 0, .int .u32 0], eq := false }
theorem zuc : V.infoOf Tryz.prog 297 ti297.eq = some ti297 := by kernel_rfl
def ti298 : V.TI := { ty := .struct [(0, 291), (0, 293), (1, 297)], size := 3, bytes := 12, zero := [.int .u32 0, .int .i32 0, .int .u32 0], eq := false }
theorem zub : V.infoOf Tryz.prog 298 ti298.eq = some ti298 := by kernel_rfl
def ti299 : V.TI := { ty := .struct [(0, 291), (0, 293), (1, 297)], size := 3, bytes := 12, zero := [.int .u32 0, .int .i32 0, .int .u32 0], eq := false }
theorem zua : V.infoOf Tryz.prog 299 ti299.eq = some ti299 := by kernel_rfl
def ti300 : V.TI := { ty := .struct [(0, 299), (3, 221)], size := 4, bytes := 24, zero := [.int .u32 0, .int .i32 0, .int .u32 0, .pointer none], eq := true }
theorem zt9 : V.infoOf Tryz.prog 300 ti300.eq = some ti300 := by kernel_rfl
def ti301 : V.TI := { ty := .struct [(0, 299), (3, 221)], size := 4, bytes := 24, zero := [.int .u32 0, .int .i32 0, .int .u32 0, .pointer none], eq := true }
theorem zt8 : V.infoOf Tryz.prog 301 ti301.eq = some ti301 := by kernel_rfl
def ti302 : V.TI := { ty := .func, size := 1, bytes := 8, zero := [.nilFunc], eq := false }
theorem zt7 : V.infoOf Tryz.prog 302 ti302.eq = some ti302 := by kernel_rfl
def ti303 : V.TI := { ty := .func, size := 1, bytes := 8, zero := [.nilFunc], eq := false }
theorem zt6 : V.infoOf Tryz.prog 303 ti303.eq = some ti303 := by kernel_rfl
def ti304 : V.TI := { ty := .func, size := 1, bytes := 8, zero := [.nilFunc], eq := false }
theorem zt5 : V.infoOf Tryz.prog 304 ti304.eq = some ti304 := by kernel_rfl
def ti305 : V.TI := { ty := .ptr 307, size := 1, bytes := 8, zero := [.pointer none], eq := false }
theorem zt4 : V.infoOf Tryz.prog 305 ti305.eq = some ti305 := by kernel_rfl
def ti306 : V.TI := { ty := .struct [(0, 299), (3, 29)], size := 4, bytes := 40, zero := [.int .u32 0, .int .i32 0, .int .u32 0, .slice none 0 0], eq := true }
theorem zt3 : V.infoOf Tryz.prog 306 ti306.eq = some ti306 := by kernel_rfl
def ti307 : V.TI := { ty := .struct [(0, 299), (3, 29)], size := 4, bytes := 40, zero := [.int .u32 0, .int .i32 0, .int .u32 0, .slice none 0 0], eq := true }
theorem zt2 : V.infoOf Tryz.prog 307 ti307.eq = some ti307 := by kernel_rfl
def ti308 : V.TI := { ty := .func, size := 1, bytes := 8, zero := [.nilFunc], eq := false }
theorem zt1 : V.infoOf Tryz.prog 308 ti308.eq = some ti308 := by kernel_rfl
def ti309 : V.TI := { ty := .ptr 299, size := 1, bytes := 8, zero := [.pointer none], eq := false }
theorem zt0 : V.infoOf Tryz.prog 309 ti309.eq = some ti309 := by kernel_rfl
def ti310 : V.TI := { ty := .func, size := 1, bytes := 8, zero := [.nilFunc], eq := false }
theorem ztz : V.infoOf Tryz.prog 310 ti310.eq = some ti310 := by kernel_rfl
def ti311 : V.TI := { ty := .func, size := 1, bytes := 8, zero := [.nilFunc], eq := false }
theorem zty : V.infoOf Tryz.prog 311 ti311.eq = some ti311 := by kernel_rfl
def ti312 : V.TI := { ty := .func, size := 1, bytes := 8, zero := [.nilFunc], eq := false }
theorem ztx : V.infoOf Tryz.prog 312 ti312.eq = some ti312 := by kernel_rfl
def ti313 : V.TI := { ty := .func, size := 1, bytes := 8, zero := [.nilFunc], eq := false }
theorem ztw : V.infoOf Tryz.prog 313 ti313.eq = some ti313 := by kernel_rfl
def ti314 : V.TI := { ty := .ptr 131, size := 1, bytes := 8, zero := [.pointer none], eq := false }
theorem ztv : V.infoOf Tryz.prog 314 ti314.eq = some ti314 := by kernel_rfl
def ti315 : V.TI := { ty := .func, size := 1, bytes := 8, zero := [.nilFunc], eq := false }
theorem ztu : V.infoOf Tryz.prog 315 ti315.eq = some ti315 := by kernel_rfl
def ti316 : V.TI := { ty := .ptr 2, size := 1, bytes := 8, zero := [.pointer none], eq := false }
theorem ztt : V.infoOf Tryz.prog 316 ti316.eq = some ti316 := by kernel_rfl
def ti317 : V.TI := { ty := .func, size := 1, bytes := 8, zero := [.nilFunc], eq := false }
theorem zts : V.infoOf Tryz.prog 317 ti317.eq = some ti317 := by kernel_rfl
def ti318 : V.TI := { ty := .func, size := 1, bytes := 8, zero := [.nilFunc], eq := false }
theorem ztr : V.infoOf Tryz.prog 318 ti318.eq = some ti318 := by kernel_rfl
def ti319 : V.TI := { ty := .func, size := 1, bytes := 8, zero := [.nilFunc], eq := false }
theorem ztq : V.infoOf Tryz.prog 319 ti319.eq = some ti319 := by kernel_rfl
def ti320 : V.TI := { ty := .ptr 293, size := 1, bytes := 8, zero := [.pointer none], eq := false }
theorem ztp : V.infoOf Tryz.prog 320 ti320.eq = some ti320 := by kernel_rfl
def ti321 : V.TI := { ty := .func, size := 1, bytes := 8, zero := [.nilFunc], eq := false }
theorem zto : V.infoOf Tryz.prog 321 ti321.eq = some ti321 := by kernel_rfl
def ti322 : V.TI := { ty := .ptr 264, size := 1, bytes := 8, zero := [.pointer none], eq := false }
theorem ztn : V.infoOf Tryz.prog 322 ti322.eq = some ti322 := by kernel_rfl
def ti323 : V.TI := { ty := .func, size := 1, bytes := 8, zero := [.nilFunc], eq := false }
theorem ztm : V.infoOf Tryz.prog 323 ti323.eq = some ti323 := by kernel_rfl
def ti324 : V.TI := { ty := .func, size := 1, bytes := 8, zero := [.nilFunc], eq := false }
theorem ztl : V.infoOf Tryz.prog 324 ti324.eq = some ti324 := by kernel_rfl
def ti325 : V.TI := { ty := .ptr 339, size := 1, bytes := 8, zero := [.pointer none], eq := false }
theorem ztk : V.infoOf Tryz.prog 325 ti325.eq = some ti325 := by kernel_rfl
def ti326 : V.TI := { ty := .func, size := 1, bytes := 8, zero := [.nilFunc], eq := false }
theorem ztj : V.infoOf Tryz.prog 326 ti326.eq = some ti326 := by kernel_rfl
def ti328 : V.TI := { ty := .func, size := 1, bytes := 8, zero := [.nilFunc], eq := false }
theorem zti : V.infoOf Tryz.prog 328 ti328.eq = some ti328 := by kernel_rfl
def ti330 : V.TI := { ty := .func, size := 1, bytes := 8, zero := [.nilFunc], eq := false }
theorem zth : V.infoOf Tryz.prog 330 ti330.eq = some ti330 := by kernel_rfl
def ti331 : V.TI := { ty := .func, size := 1, bytes := 8, zero := [.nilFunc], eq := false }
theorem ztg : V.infoOf Tryz.prog 331 ti331.eq = some ti331 := by kernel_rfl
def ti332 : V.TI := { ty := .ptr 297, size := 1, bytes := 8, zero := [.pointer none], eq := false }
theorem ztf : V.infoOf Tryz.prog 332 ti332.eq = some ti332 := by kernel_rfl
def ti333 : V.TI := { ty := .func, size := 1, bytes := 8, zero := [.nilFunc], eq := false }
theorem zte : V.infoOf Tryz.prog 333 ti333.eq = some ti333 := by kernel_rfl
def ti334 : V.TI := { ty := .func, size := 1, bytes := 8, zero := [.nilFunc], eq := false }
theorem ztd : V.infoOf Tryz.prog 334 ti334.eq = some ti334 := by kernel_rfl
def ti335 : V.TI := { ty := .func, size := 1, bytes := 8, zero := [.nilFunc], eq := false }
theorem ztc : V.infoOf Tryz.prog 335 ti335.eq = some ti335 := by kernel_rfl
def ti336 : V.TI := { ty := .slice 244, size := 1, bytes := 24, zero := [.slice none 0 0], eq := false }
theorem ztb : V.infoOf Tryz.prog 336 ti336.eq = some ti336 := by kernel_rfl
def ti337 : V.TI := { ty := .slice 341, size := 1, bytes := 24, zero := [.slice none 0 0], eq := false }
theorem zta : V.infoOf Tryz.prog 337 ti337.eq = some ti337 := by kernel_rfl
def ti338 : V.TI := { ty := .struct [(0, 337)], size := 1, bytes := 24, zero := [.slice none 0 0], eq := true }
theorem zs9 : V.infoOf Tryz.prog 338 ti338.eq = some ti338 := by kernel_rfl
def ti339 : V.TI := { ty := .struct [(0, 337)], size := 1, bytes := 24, zero := [.slice none 0 0], eq := true }
theorem zs8 : V.infoOf Tryz.prog 339 ti339.eq = some ti339 := by kernel_rfl
def ti340 : V.TI := { ty := .struct [(0, 3), (1, 3)], size := 2, bytes := 16, zero := [.int .i64 0, .int .i64 0], eq := true }
theorem zs7 : V.infoOf Tryz.prog 340 ti340.eq = some ti340 := by kernel_rfl
def ti341 : V.TI := { ty := .struct [(0, 3), (1, 3)], size := 2, bytes := 16, zero := [.int .i64 0, .int .i64 0], eq := true }
theorem zs6 : V.infoOf Tryz.prog 341 ti341.eq = some ti341 := by kernel_rfl
def ti342 : V.TI := { ty := .func, size := 1, bytes := 8, zero := [.nilFunc], eq := false }
theorem zs5 : V.infoOf Tryz.prog 342 ti342.eq = some ti342 := by kernel_rfl
def ti344 : V.TI := { ty := .func, size := 1, bytes := 8, zero := [.nilFunc], eq := false }
theorem zs4 : V.infoOf Tryz.prog 344 ti344.eq = some ti344 := by kernel_rfl
def ti345 : V.TI := { ty := .ptr 295, size := 1, bytes := 8, zero := [.pointer none], eq := false }
theorem zs3 : V.infoOf Tryz.prog 345 ti345.eq = some ti345 := by kernel_rfl
def ti346 : V.TI := { ty := .func, size := 1, bytes := 8, zero := [.nilFunc], eq := false }
theorem zs2 : V.infoOf Tryz.prog 346 ti346.eq = some ti346 := by kernel_rfl
def ti347 : V.TI := { ty := .ptr 21, size := 1, bytes := 8, zero := [.pointer none], eq := false }
theorem zs1 : V.infoOf Tryz.prog 347 ti347.eq = some ti347 := by kernel_rfl
def ti348 : V.TI := { ty := .func, size := 1, bytes := 8, zero := [.nilFunc], eq := false }
theorem zs0 : V.infoOf Tryz.prog 348 ti348.eq = some ti348 := by kernel_rfl
def ti349 : V.TI := { ty := .other, size := 1, bytes := 8, zero := [.pointer none], eq := false }
theorem zsy : V.infoOf Tryz.prog 349 ti349.eq = some ti349 := by kernel_rfl
def ti350 : V.TI := { ty := .func, size := 1, bytes := 8, zero := [.nilFunc], eq := false }
theorem zsx : V.infoOf Tryz.prog 350 ti350.eq = some ti350 := by kernel_rfl
def ti351 : V.TI := { ty := .func, size := 1, bytes := 8, zero := [.nilFunc], eq := false }
theorem zsw : V.infoOf Tryz.prog 351 ti351.eq = some ti351 := by kernel_rfl
def ti352 : V.TI := { ty := .func, size := 1, bytes := 8, zero := [.nilFunc], eq := false }
theorem zsv : V.infoOf Tryz.prog 352 ti352.eq = some ti352 := by kernel_rfl
def ti353 : V.TI := { ty := .func, size := 1, bytes := 8, zero := [.nilFunc], eq := false }
theorem zsu : V.infoOf Tryz.prog 353 ti353.eq = some ti353 := by kernel_rfl
def infoTree : V.Tr := (.node 176 (.node 89 (.node 43 (.node 21 (.node 11 (.node 6 (.node 3 (.node 2 (.node 1 .nil ti1 .nil) ti2 .nil) ti3 (.node 5 (.node 4 .nil ti4 .nil) ti5 .nil)) ti6 (.node 9 (.node 8 (.node 7 .nil ti7 .nil) ti8 .nil) ti9 (.node 10 .nil ti10 .nil))) ti11 (.node 16 (.node 14 (.node 13 (.node 12 .nil ti12 .nil) ti13 .nil) ti14 (.node 15 .nil ti15 .nil)) ti16 (.node 19 (.node 18 (.node 17 .nil ti17 .nil) ti18 .nil) ti19 (.node 20 .nil ti20 .nil)))) ti21 (.node 32 (.node 27 (.node 24 (.node 23 (.node 22 .nil ti22 .nil) ti23 .nil) ti24 (.node 26 (.node 25 .nil ti25 .nil) ti26 .nil)) ti27 (.node 30 (.node 29 (.node 28 .nil ti28 .nil) ti29 .nil) ti30 (.node 31 .nil ti31 .nil))) ti32 (.node 38 (.node 35 (.node 34 (.node 33 .nil ti33 .nil) ti34 .nil) ti35 (.node 36 .nil ti36 .nil)) ti38 (.node 41 (.node 40 (.node 39 .nil ti39 .nil) ti40 .nil) ti41 (.node 42 .nil ti42 .nil))))) ti43 (.node 66 (.node 54 (.node 49 (.node 46 (.node 45 (.node 44 .nil ti44 .nil) ti45 .nil) ti46 (.node 48 (.node 47 .nil ti47 .nil) ti48 .nil)) ti49 (.node 52 (.node 51 (.node 50 .nil ti50 .nil) ti51 .nil) ti52 (.node 53 .nil ti53 .nil))) ti54 (.node 59 (.node 57 (.node 56 (.node 55 .nil ti55 .nil) ti56 .nil) ti57 (.node 58 .nil ti58 .nil)) ti59 (.node 62 (.node 61 (.node 60 .nil ti60 .nil) ti61 .nil) ti62 (.node 64 .nil ti64 .nil)))) ti66 (.node 78 (.node 73 (.node 69 (.node 68 (.node 67 .nil ti67 .nil) ti68 .nil) ti69 (.node 72 (.node 71 .nil ti71 .nil) ti72 .nil)) ti73 (.node 76 (.node 75 (.node 74 .nil ti74 .nil) ti75 .nil) ti76 (.node 77 .nil ti77 .nil))) ti78 (.node 83 (.node 81 (.node 80 (.node 79 .nil ti79 .nil) ti80 .nil) ti81 (.node 82 .nil ti82 .nil)) ti83 (.node 87 (.node 86 (.node 85 .nil ti85 .nil) ti86 .nil) ti87 (.node 88 .nil ti88 .nil)))))) ti89 (.node 133 (.node 110 (.node 100 (.node 95 (.node 92 (.node 91 (.node 90 .nil ti90 .nil) ti91 .nil) ti92 (.node 94 (.node 93 .nil ti93 .nil) ti94 .nil)) ti95 (.node 98 (.node 97 (.node 96 .nil ti96 .nil) ti97 .nil) ti98 (.node 99 .nil ti99 .nil))) ti100 (.node 105 (.node 103 (.node 102 (.node 101 .nil ti101 .nil) ti102 .nil) ti103 (.node 104 .nil ti104 .nil)) ti105 (.node 108 (.node 107 (.node 106 .nil ti106 .nil) ti107 .nil) ti108 (.node 109 .nil ti109 .nil)))) ti110 (.node 122 (.node 117 (.node 113 (.node 112 (.node 111 .nil ti111 .nil) ti112 .nil) ti113 (.node 116 (.node 115 .nil ti115 .nil) ti116 .nil)) ti117 (.node 120 (.node 119 (.node 118 .nil ti118 .nil) ti119 .nil) ti120 (.node 121 .nil ti121 .nil))) ti122 (.node 128 (.node 126 (.node 124 (.node 123 .nil ti123 .nil) ti124 .nil) ti126 (.node 127 .nil ti127 .nil)) ti128 (.node 131 (.node 130 (.node 129 .nil ti129 .nil) ti130 .nil) ti131 (.node 132 .nil ti132 .nil))))) ti133 (.node 155 (.node 144 (.node 139 (.node 136 (.node 135 (.node 134 .nil ti134 .nil) ti135 .nil) ti136 (.node 138 (.node 137 .nil ti137 .nil) ti138 .nil)) ti139 (.node 142 (.node 141 (.node 140 .nil ti140 .nil) ti141 .nil) ti142 (.node 143 .nil ti143 .nil))) ti144 (.node 150 (.node 147 (.node 146 (.node 145 .nil ti145 .nil) ti146 .nil) ti147 (.node 149 .nil ti149 .nil)) ti150 (.node 153 (.node 152 (.node 151 .nil ti151 .nil) ti152 .nil) ti153 (.node 154 .nil ti154 .nil)))) ti155 (.node 166 (.node 161 (.node 158 (.node 157 (.node 156 .nil ti156 .nil) ti157 .nil) ti158 (.node 160 (.node 159 .nil ti159 .nil) ti160 .nil)) ti161 (.node 164 (.node 163 (.node 162 .nil ti162 .nil) ti163 .nil) ti164 (.node 165 .nil ti165 .nil))) ti166 (.node 171 (.node 169 (.node 168 (.node 167 .nil ti167 .nil) ti168 .nil) ti169 (.node 170 .nil ti170 .nil)) ti171 (.node 174 (.node 173 (.node 172 .nil ti172 .nil) ti173 .nil) ti174 (.node 175 .nil ti175 .nil))))))) ti176 (.node 266 (.node 221 (.node 200 (.node 189 (.node 184 (.node 180 (.node 179 (.node 178 .nil ti178 .nil) ti179 .nil) ti180 (.node 183 (.node 182 .nil ti182 .nil) ti183 .nil)) ti184 (.node 187 (.node 186 (.node 185 .nil ti185 .nil) ti186 .nil) ti187 (.node 188 .nil ti188 .nil))) ti189 (.node 195 (.node 193 (.node 191 (.node 190 .nil ti190 .nil) ti191 .nil) ti193 (.node 194 .nil ti194 .nil)) ti195 (.node 198 (.node 197 (.node 196 .nil ti196 .nil) ti197 .nil) ti198 (.node 199 .nil ti199 .nil)))) ti200 (.node 211 (.node 206 (.node 203 (.node 202 (.node 201 .nil ti201 .nil) ti202 .nil) ti203 (.node 205 (.node 204 .nil ti204 .nil) ti205 .nil)) ti206 (.node 209 (.node 208 (.node 207 .nil ti207 .nil) ti208 .nil) ti209 (.node 210 .nil ti210 .nil))) ti211 (.node 216 (.node 214 (.node 213 (.node 212 .nil ti212 .nil) ti213 .nil) ti214 (.node 215 .nil ti215 .nil)) ti216 (.node 219 (.node 218 (.node 217 .nil ti217 .nil) ti218 .nil) ti219 (.node 220 .nil ti220 .nil))))) ti221 (.node 244 (.node 233 (.node 228 (.node 224 (.node 223 (.node 222 .nil ti222 .nil) ti223 .nil) ti224 (.node 226 (.node 225 .nil ti225 .nil) ti226 .nil)) ti228 (.node 231 (.node 230 (.node 229 .nil ti229 .nil) ti230 .nil) ti231 (.node 232 .nil ti232 .nil))) ti233 (.node 238 (.node 236 (.node 235 (.node 234 .nil ti234 .nil) ti235 .nil) ti236 (.node 237 .nil ti237 .nil)) ti238 (.node 242 (.node 240 (.node 239 .nil ti239 .nil) ti240 .nil) ti242 (.node 243 .nil ti243 .nil)))) ti244 (.node 255 (.node 250 (.node 247 (.node 246 (.node 245 .nil ti245 .nil) ti246 .nil) ti247 (.node 249 (.node 248 .nil ti248 .nil) ti249 .nil)) ti250 (.node 253 (.node 252 (.node 251 .nil ti251 .nil) ti252 .nil) ti253 (.node 254 .nil ti254 .nil))) ti255 (.node 261 (.node 258 (.node 257 (.node 256 .nil ti256 .nil) ti257 .nil) ti258 (.node 260 .nil ti260 .nil)) ti261 (.node 264 (.node 263 (.node 262 .nil ti262 .nil) ti263 .nil) ti264 (.node 265 .nil ti265 .nil)))))) ti266 (.node 309 (.node 288 (.node 278 (.node 273 (.node 269 (.node 268 (.node 267 .nil ti267 .nil) ti268 .nil) ti269 (.node 271 (.node 270 .nil ti270 .nil) ti271 .nil)) ti273 (.node 276 (.node 275 (.node 274 .nil ti274 .nil) ti275 .nil) ti276 (.node 277 .nil ti277 .nil))) ti278 (.node 283 (.node 281 (.node 280 (.node 279 .nil ti279 .nil) ti280 .nil) ti281 (.node 282 .nil ti282 .nil)) ti283 (.node 286 (.node 285 (.node 284 .nil ti284 .nil) ti285 .nil) ti286 (.node 287 .nil ti287 .nil)))) ti288 (.node 299 (.node 294 (.node 291 (.node 290 (.node 289 .nil ti289 .nil) ti290 .nil) ti291 (.node 293 (.node 292 .nil ti292 .nil) ti293 .nil)) ti294 (.node 297 (.node 296 (.node 295 .nil ti295 .nil) ti296 .nil) ti297 (.node 298 .nil ti298 .nil))) ti299 (.node 304 (.node 302 (.node 301 (.node 300 .nil ti300 .nil) ti301 .nil) ti302 (.node 303 .nil ti303 .nil)) ti304 (.node 307 (.node 306 (.node 305 .nil ti305 .nil) ti306 .nil) ti307 (.node 308 .nil ti308 .nil))))) ti309 (.node 332 (.node 320 (.node 315 (.node 312 (.node 311 (.node 310 .nil ti310 .nil) ti311 .nil) ti312 (.node 314 (.node 313 .nil ti313 .nil) ti314 .nil)) ti315 (.node 318 (.node 317 (.node 316 .nil ti316 .nil) ti317 .nil) ti318 (.node 319 .nil ti319 .nil))) ti320 (.node 325 (.node 323 (.node 322 (.node 321 .nil ti321 .nil) ti322 .nil) ti323 (.node 324 .nil ti324 .nil)) ti325 (.node 330 (.node 328 (.node 326 .nil ti326 .nil) ti328 .nil) ti330 (.node 331 .nil ti331 .nil)))) ti332 (.node 344 (.node 338 (.node 335 (.node 334 (.node 333 .nil ti333 .nil) ti334 .nil) ti335 (.node 337 (.node 336 .nil ti336 .nil) ti337 .nil)) ti338 (.node 341 (.node 340 (.node 339 .nil ti339 .nil) ti340 .nil) ti341 (.node 342 .nil ti342 .nil))) ti344 (.node 349 (.node 347 (.node 346 (.node 345 .nil ti345 .nil) ti346 .nil) ti347 (.node 348 .nil ti348 .nil)) ti349 (.node 352 (.node 351 (.node 350 .nil ti350 .nil) ti351 .nil) ti352 (.node 353 .nil ti353 .nil))))))))
theorem zkn : infoTree.all Tryz.prog := ⟨zxi, ⟨ydi, ⟨yeo, ⟨yfb, ⟨yfl, ⟨yhw, ⟨yhz, ⟨yh0, ⟨yh1, trivial, trivial⟩, trivial⟩, ⟨yhx, ⟨yhy, trivial, trivial⟩, trivial⟩⟩, ⟨yht, ⟨yhu, ⟨yhv, trivial, trivial⟩, trivial⟩, ⟨yfm, trivial, trivial⟩⟩⟩, ⟨yfg, ⟨yfi, ⟨yfj, ⟨yfk, trivial, trivial⟩, trivial⟩, ⟨yfh, trivial, trivial⟩⟩, ⟨yfd, ⟨yfe, ⟨yff, trivial, trivial⟩, trivial⟩, ⟨yfc, trivial, trivial⟩⟩⟩⟩, ⟨ye0, ⟨ye5, ⟨ye8, ⟨ye9, ⟨yfa, trivial, trivial⟩, trivial⟩, ⟨ye6, ⟨ye7, trivial, trivial⟩, trivial⟩⟩, ⟨ye2, ⟨ye3, ⟨ye4, trivial, trivial⟩, trivial⟩, ⟨ye1, trivial, trivial⟩⟩⟩, ⟨yev, ⟨yex, ⟨yey, ⟨yez, trivial, trivial⟩, trivial⟩, ⟨yew, trivial, trivial⟩⟩, ⟨yeq, ⟨yer, ⟨yeu, trivial, trivial⟩, trivial⟩, ⟨yep, trivial, trivial⟩⟩⟩⟩⟩, ⟨yd3, ⟨yed, ⟨yei, ⟨yel, ⟨yem, ⟨yen, trivial, trivial⟩, trivial⟩, ⟨yej, ⟨yek, trivial, trivial⟩, trivial⟩⟩, ⟨yef, ⟨yeg, ⟨yeh, trivial, trivial⟩, trivial⟩, ⟨yee, trivial, trivial⟩⟩⟩, ⟨yd8, ⟨yea, ⟨yeb, ⟨yec, trivial, trivial⟩, trivial⟩, ⟨yd9, trivial, trivial⟩⟩, ⟨yd5, ⟨yd6, ⟨yd7, trivial, trivial⟩, trivial⟩, ⟨yd4, trivial, trivial⟩⟩⟩⟩, ⟨yds, ⟨ydx, ⟨yd0, ⟨yd1, ⟨yd2, trivial, trivial⟩, trivial⟩, ⟨ydy, ⟨ydz, trivial, trivial⟩, trivial⟩⟩, ⟨ydu, ⟨ydv, ⟨ydw, trivial, trivial⟩, trivial⟩, ⟨ydt, trivial, trivial⟩⟩⟩, ⟨ydn, ⟨ydp, ⟨ydq, ⟨ydr, trivial, trivial⟩, trivial⟩, ⟨ydo, trivial, trivial⟩⟩, ⟨ydk, ⟨ydl, ⟨ydm, trivial, trivial⟩, trivial⟩, ⟨ydj, trivial, trivial⟩⟩⟩⟩⟩⟩, ⟨zyo, ⟨zy9, ⟨zzj, ⟨ydc, ⟨ydf, ⟨ydg, ⟨ydh, trivial, trivial⟩, trivial⟩, ⟨ydd, ⟨yde, trivial, trivial⟩, trivial⟩⟩, ⟨yc9, ⟨yda, ⟨ydb, trivial, trivial⟩, trivial⟩, ⟨yc8, trivial, trivial⟩⟩⟩, ⟨zze, ⟨zzg, ⟨zzh, ⟨zzi, trivial, trivial⟩, trivial⟩, ⟨zzf, trivial, trivial⟩⟩, ⟨zzb, ⟨zzc, ⟨zzd, trivial, trivial⟩, trivial⟩, ⟨zza, trivial, trivial⟩⟩⟩⟩, ⟨zyy, ⟨zy3, ⟨zy6, ⟨zy7, ⟨zy8, trivial, trivial⟩, trivial⟩, ⟨zy4, ⟨zy5, trivial, trivial⟩, trivial⟩⟩, ⟨zy0, ⟨zy1, ⟨zy2, trivial, trivial⟩, trivial⟩, ⟨zyz, trivial, trivial⟩⟩⟩, ⟨zyt, ⟨zyv, ⟨zyw, ⟨zyx, trivial, trivial⟩, trivial⟩, ⟨zyu, trivial, trivial⟩⟩, ⟨zyq, ⟨zyr, ⟨zys, trivial, trivial⟩, trivial⟩, ⟨zyp, trivial, trivial⟩⟩⟩⟩⟩, ⟨zx3, ⟨zyd, ⟨zyi, ⟨zyl, ⟨zym, ⟨zyn, trivial, trivial⟩, trivial⟩, ⟨zyj, ⟨zyk, trivial, trivial⟩, trivial⟩⟩, ⟨zyf, ⟨zyg, ⟨zyh, trivial, trivial⟩, trivial⟩, ⟨zye, trivial, trivial⟩⟩⟩, ⟨zx8, ⟨zya, ⟨zyb, ⟨zyc, trivial, trivial⟩, trivial⟩, ⟨zx9, trivial, trivial⟩⟩, ⟨zx5, ⟨zx6, ⟨zx7, trivial, trivial⟩, trivial⟩, ⟨zx4, trivial, trivial⟩⟩⟩⟩, ⟨zxs, ⟨zxx, ⟨zx0, ⟨zx1, ⟨zx2, trivial, trivial⟩, trivial⟩, ⟨zxy, ⟨zxz, trivial, trivial⟩, trivial⟩⟩, ⟨zxu, ⟨zxv, ⟨zxw, trivial, trivial⟩, trivial⟩, ⟨zxt, trivial, trivial⟩⟩⟩, ⟨zxn, ⟨zxp, ⟨zxq, ⟨zxr, trivial, trivial⟩, trivial⟩, ⟨zxo, trivial, trivial⟩⟩, ⟨zxk, ⟨zxl, ⟨zxm, trivial, trivial⟩, trivial⟩, ⟨zxj, trivial, trivial⟩⟩⟩⟩⟩⟩⟩, ⟨zu6, ⟨zwc, ⟨zwx, ⟨zw7, ⟨zxc, ⟨zxf, ⟨zxg, ⟨zxh, trivial, trivial⟩, trivial⟩, ⟨zxd, ⟨zxe, trivial, trivial⟩, trivial⟩⟩, ⟨zw9, ⟨zxa, ⟨zxb, trivial, trivial⟩, trivial⟩, ⟨zw8, trivial, trivial⟩⟩⟩, ⟨zw2, ⟨zw4, ⟨zw5, ⟨zw6, trivial, trivial⟩, trivial⟩, ⟨zw3, trivial, trivial⟩⟩, ⟨zwz, ⟨zw0, ⟨zw1, trivial, trivial⟩, trivial⟩, ⟨zwy, trivial, trivial⟩⟩⟩⟩, ⟨zwm, ⟨zwr, ⟨zwu, ⟨zwv, ⟨zww, trivial, trivial⟩, trivial⟩, ⟨zws, ⟨zwt, trivial, trivial⟩, trivial⟩⟩, ⟨zwo, ⟨zwp, ⟨zwq, trivial, trivial⟩, trivial⟩, ⟨zwn, trivial, trivial⟩⟩⟩, ⟨zwh, ⟨zwj, ⟨zwk, ⟨zwl, trivial, trivial⟩, trivial⟩, ⟨zwi, trivial, trivial⟩⟩, ⟨zwe, ⟨zwf, ⟨zwg, trivial, trivial⟩, trivial⟩, ⟨zwd, trivial, trivial⟩⟩⟩⟩⟩, ⟨zvr, ⟨zv1, ⟨zv6, ⟨zv9, ⟨zwa, ⟨zwb, trivial, trivial⟩, trivial⟩, ⟨zv7, ⟨zv8, trivial, trivial⟩, trivial⟩⟩, ⟨zv3, ⟨zv4, ⟨zv5, trivial, trivial⟩, trivial⟩, ⟨zv2, trivial, trivial⟩⟩⟩, ⟨zvw, ⟨zvy, ⟨zvz, ⟨zv0, trivial, trivial⟩, trivial⟩, ⟨zvx, trivial, trivial⟩⟩, ⟨zvt, ⟨zvu, ⟨zvv, trivial, trivial⟩, trivial⟩, ⟨zvs, trivial, trivial⟩⟩⟩⟩, ⟨zvg, ⟨zvl, ⟨zvo, ⟨zvp, ⟨zvq, trivial, trivial⟩, trivial⟩, ⟨zvm, ⟨zvn, trivial, trivial⟩, trivial⟩⟩, ⟨zvi, ⟨zvj, ⟨zvk, trivial, trivial⟩, trivial⟩, ⟨zvh, trivial, trivial⟩⟩⟩, ⟨zvb, ⟨zvd, ⟨zve, ⟨zvf, trivial, trivial⟩, trivial⟩, ⟨zvc, trivial, trivial⟩⟩, ⟨zu8, ⟨zu9, ⟨zva, trivial, trivial⟩, trivial⟩, ⟨zu7, trivial, trivial⟩⟩⟩⟩⟩⟩, ⟨zt0, ⟨zul, ⟨zuv, ⟨zu0, ⟨zu3, ⟨zu4, ⟨zu5, trivial, trivial⟩, trivial⟩, ⟨zu1, ⟨zu2, trivial, trivial⟩, trivial⟩⟩, ⟨zux, ⟨zuy, ⟨zuz, trivial, trivial⟩, trivial⟩, ⟨zuw, trivial, trivial⟩⟩⟩, ⟨zuq, ⟨zus, ⟨zut, ⟨zuu, trivial, trivial⟩, trivial⟩, ⟨zur, trivial, trivial⟩⟩, ⟨zun, ⟨zuo, ⟨zup, trivial, trivial⟩, trivial⟩, ⟨zum, trivial, trivial⟩⟩⟩⟩, ⟨zua, ⟨zuf, ⟨zui, ⟨zuj, ⟨zuk, trivial, trivial⟩, trivial⟩, ⟨zug, ⟨zuh, trivial, trivial⟩, trivial⟩⟩, ⟨zuc, ⟨zud, ⟨zue, trivial, trivial⟩, trivial⟩, ⟨zub, trivial, trivial⟩⟩⟩, ⟨zt5, ⟨zt7, ⟨zt8, ⟨zt9, trivial, trivial⟩, trivial⟩, ⟨zt6, trivial, trivial⟩⟩, ⟨zt2, ⟨zt3, ⟨zt4, trivial, trivial⟩, trivial⟩, ⟨zt1, trivial, trivial⟩⟩⟩⟩⟩, ⟨ztf, ⟨ztp, ⟨ztu, ⟨ztx, ⟨zty, ⟨ztz, trivial, trivial⟩, trivial⟩, ⟨ztv, ⟨ztw, trivial, trivial⟩, trivial⟩⟩, ⟨ztr, ⟨zts, ⟨ztt, trivial, trivial⟩, trivial⟩, ⟨ztq, trivial, trivial⟩⟩⟩, ⟨ztk, ⟨ztm, ⟨ztn, ⟨zto, trivial, trivial⟩, trivial⟩, ⟨ztl, trivial, trivial⟩⟩, ⟨zth, ⟨zti, ⟨ztj, trivial, trivial⟩, trivial⟩, ⟨ztg, trivial, trivial⟩⟩⟩⟩, ⟨zs4, ⟨zs9, ⟨ztc, ⟨ztd, ⟨zte, trivial, trivial⟩, trivial⟩, ⟨zta, ⟨ztb, trivial, trivial⟩, trivial⟩⟩, ⟨zs6, ⟨zs7, ⟨zs8, trivial, trivial⟩, trivial⟩, ⟨zs5, trivial, trivial⟩⟩⟩, ⟨zsy, ⟨zs1, ⟨zs2, ⟨zs3, trivial, trivial⟩, trivial⟩, ⟨zs0, trivial, trivial⟩⟩, ⟨zsv, ⟨zsw, ⟨zsx, trivial, trivial⟩, trivial⟩, ⟨zsu, trivial, trivial⟩⟩⟩⟩⟩⟩⟩⟩
end Go.Proofs
