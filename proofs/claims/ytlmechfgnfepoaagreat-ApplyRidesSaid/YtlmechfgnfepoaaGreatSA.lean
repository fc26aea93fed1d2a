/- The ground on which laws of thronglaw23 are proved: contracts of functions and plain lemmas; no condition beyond the row's own. -/
import Derived.KernelRfl
import Derived.Test.YtlmechfgnfepoaaGreatProg
import Derived.Test.YtlmechfgnfepoaaGreatVB
set_option linter.unusedSimpArgs false
set_option linter.unusedVariables false
namespace Go.Proofs
open Go Go.V
def ti1 : V.TI := { ty := .func, size := 1, bytes := 8, zero := [.nilFunc], eq := false }
theorem yda : V.infoOf Tryz.prog 1 ti1.eq = some ti1 := by kernel_rfl
def ti2 : V.TI := { ty := .int .i64, size := 1, bytes := 8, zero := [.int .i64 0], eq := false }
theorem yc9 : V.infoOf Tryz.prog 2 ti2.eq = some ti2 := by kernel_rfl
def ti3 : V.TI := { ty := .int .i64, size := 1, bytes := 8, zero := [.int .i64 0], eq := false }
theorem yc8 : V.infoOf Tryz.prog 3 ti3.eq = some ti3 := by kernel_rfl
def ti4 : V.TI := { ty := .bool, size := 1, bytes := 1, zero := [.bool false], eq := false }
theorem yc7 : V.infoOf Tryz.prog 4 ti4.eq = some ti4 := by kernel_rfl
def ti5 : V.TI := { ty := .int .u8, size := 1, bytes := 1, zero := [.int .u8 0], eq := false }
theorem yc6 : V.infoOf Tryz.prog 5 ti5.eq = some ti5 := by kernel_rfl
def ti6 : V.TI := { ty := .int .u8, size := 1, bytes := 1, zero := [.int .u8 0], eq := false }
theorem yc5 : V.infoOf Tryz.prog 6 ti6.eq = some ti6 := by kernel_rfl
def ti7 : V.TI := { ty := .struct [(0, 2), (1, 3), (2, 4), (3, 6)], size := 4, bytes := 24, zero := [.int .i64 0, .int .i64 0, .bool false, .int .u8 0], eq := true }
theorem yc4 : V.infoOf Tryz.prog 7 ti7.eq = some ti7 := by kernel_rfl
def ti8 : V.TI := { ty := .struct [(0, 2), (1, 3), (2, 4), (3, 6)], size := 4, bytes := 24, zero := [.int .i64 0, .int .i64 0, .bool false, .int .u8 0], eq := true }
theorem yc3 : V.infoOf Tryz.prog 8 ti8.eq = some ti8 := by kernel_rfl
def ti9 : V.TI := { ty := .str, size := 1, bytes := 16, zero := [.string ⟨#[]⟩], eq := false }
theorem yc2 : V.infoOf Tryz.prog 9 ti9.eq = some ti9 := by kernel_rfl
def ti10 : V.TI := { ty := .str, size := 1, bytes := 16, zero := [.string ⟨#[]⟩], eq := false }
theorem ybu : V.infoOf Tryz.prog 10 ti10.eq = some ti10 := by kernel_rfl
def ti11 : V.TI := { ty := .str, size := 1, bytes := 16, zero := [.string ⟨#[]⟩], eq := false }
theorem ybt : V.infoOf Tryz.prog 11 ti11.eq = some ti11 := by kernel_rfl
def ti12 : V.TI := { ty := .int .u64, size := 1, bytes := 8, zero := [.int .u64 0], eq := false }
theorem ybs : V.infoOf Tryz.prog 12 ti12.eq = some ti12 := by kernel_rfl
def ti13 : V.TI := { ty := .struct [(0, 9), (1, 12)], size := 2, bytes := 24, zero := [.string ⟨#[]⟩, .int .u64 0], eq := false }
theorem ybr : V.infoOf Tryz.prog 13 ti13.eq = some ti13 := by kernel_rfl
def ti14 : V.TI := { ty := .struct [(0, 9), (1, 12)], size := 2, bytes := 24, zero := [.string ⟨#[]⟩, .int .u64 0], eq := false }
theorem ybq : V.infoOf Tryz.prog 14 ti14.eq = some ti14 := by kernel_rfl
def ti15 : V.TI := { ty := .ptr 254, size := 1, bytes := 8, zero := [.pointer none], eq := false }
theorem ybp : V.infoOf Tryz.prog 15 ti15.eq = some ti15 := by kernel_rfl
def ti16 : V.TI := { ty := .ptr 257, size := 1, bytes := 8, zero := [.pointer none], eq := false }
theorem ybo : V.infoOf Tryz.prog 16 ti16.eq = some ti16 := by kernel_rfl
def ti17 : V.TI := { ty := .ptr 266, size := 1, bytes := 8, zero := [.pointer none], eq := false }
theorem ybn : V.infoOf Tryz.prog 17 ti17.eq = some ti17 := by kernel_rfl
def ti18 : V.TI := { ty := .struct [(0, 17)], size := 1, bytes := 8, zero := [.pointer none], eq := false }
theorem ybm : V.infoOf Tryz.prog 18 ti18.eq = some ti18 := by kernel_rfl
def ti19 : V.TI := { ty := .struct [(0, 17)], size := 1, bytes := 8, zero := [.pointer none], eq := false }
theorem ybl : V.infoOf Tryz.prog 19 ti19.eq = some ti19 := by kernel_rfl
def ti21 : V.TI := { ty := .int .i32, size := 1, bytes := 4, zero := [.int .i32 0], eq := false }
theorem ybk : V.infoOf Tryz.prog 21 ti21.eq = some ti21 := by kernel_rfl
def ti22 : V.TI := { ty := .slice 5, size := 1, bytes := 24, zero := [.slice none 0 0], eq := false }
theorem ybj : V.infoOf Tryz.prog 22 ti22.eq = some ti22 := by kernel_rfl
def ti23 : V.TI := { ty := .struct [(0, 3), (1, 3), (2, 22)], size := 3, bytes := 40, zero := [.int .i64 0, .int .i64 0, .slice none 0 0], eq := true }
theorem ybi : V.infoOf Tryz.prog 23 ti23.eq = some ti23 := by kernel_rfl
def ti24 : V.TI := { ty := .struct [(0, 3), (1, 3), (2, 22)], size := 3, bytes := 40, zero := [.int .i64 0, .int .i64 0, .slice none 0 0], eq := true }
theorem ybh : V.infoOf Tryz.prog 24 ti24.eq = some ti24 := by kernel_rfl
def ti25 : V.TI := { ty := .slice 59, size := 1, bytes := 24, zero := [.slice none 0 0], eq := false }
theorem ybg : V.infoOf Tryz.prog 25 ti25.eq = some ti25 := by kernel_rfl
def ti26 : V.TI := { ty := .slice 50, size := 1, bytes := 24, zero := [.slice none 0 0], eq := false }
theorem ybf : V.infoOf Tryz.prog 26 ti26.eq = some ti26 := by kernel_rfl
def ti27 : V.TI := { ty := .struct [(0, 3), (1, 3), (2, 3), (3, 24), (6, 25), (7, 26)], size := 8, bytes := 112, zero := [.int .i64 0, .int .i64 0, .int .i64 0, .int .i64 0, .int .i64 0, .slice none 0 0, .slice none 0 0, .slice none 0 0], eq := true }
theorem ybe : V.infoOf Tryz.prog 27 ti27.eq = some ti27 := by kernel_rfl
def ti28 : V.TI := { ty := .struct [(0, 3), (1, 3), (2, 3), (3, 24), (6, 25), (7, 26)], size := 8, bytes := 112, zero := [.int .i64 0, .int .i64 0, .int .i64 0, .int .i64 0, .int .i64 0, .slice none 0 0, .slice none 0 0, .slice none 0 0], eq := true }
theorem ybd : V.infoOf Tryz.prog 28 ti28.eq = some ti28 := by kernel_rfl
def ti29 : V.TI := { ty := .slice 40, size := 1, bytes := 24, zero := [.slice none 0 0], eq := false }
theorem ybc : V.infoOf Tryz.prog 29 ti29.eq = some ti29 := by kernel_rfl
def ti30 : V.TI := { ty := .struct [(0, 28), (8, 29)], size := 9, bytes := 136, zero := [.int .i64 0, .int .i64 0, .int .i64 0, .int .i64 0, .int .i64 0, .slice none 0 0, .slice none 0 0, .slice none 0 0, .slice none 0 0], eq := true }
theorem ybb : V.infoOf Tryz.prog 30 ti30.eq = some ti30 := by kernel_rfl
def ti31 : V.TI := { ty := .struct [(0, 28), (8, 29)], size := 9, bytes := 136, zero := [.int .i64 0, .int .i64 0, .int .i64 0, .int .i64 0, .int .i64 0, .slice none 0 0, .slice none 0 0, .slice none 0 0, .slice none 0 0], eq := true }
theorem yba : V.infoOf Tryz.prog 31 ti31.eq = some ti31 := by kernel_rfl
def ti32 : V.TI := { ty := .func, size := 1, bytes := 8, zero := [.nilFunc], eq := false }
theorem ya9 : V.infoOf Tryz.prog 32 ti32.eq = some ti32 := by kernel_rfl
def ti33 : V.TI := { ty := .func, size := 1, bytes := 8, zero := [.nilFunc], eq := false }
theorem ya8 : V.infoOf Tryz.prog 33 ti33.eq = some ti33 := by kernel_rfl
def ti35 : V.TI := { ty := .func, size := 1, bytes := 8, zero := [.nilFunc], eq := false }
theorem ya7 : V.infoOf Tryz.prog 35 ti35.eq = some ti35 := by kernel_rfl
def ti36 : V.TI := { ty := .slice 3, size := 1, bytes := 24, zero := [.slice none 0 0], eq := false }
theorem ya6 : V.infoOf Tryz.prog 36 ti36.eq = some ti36 := by kernel_rfl
def ti37 : V.TI := { ty := .struct [(0, 2), (1, 2)], size := 2, bytes := 16, zero := [.int .i64 0, .int .i64 0], eq := true }
theorem ya5 : V.infoOf Tryz.prog 37 ti37.eq = some ti37 := by kernel_rfl
def ti38 : V.TI := { ty := .struct [(0, 2), (1, 2)], size := 2, bytes := 16, zero := [.int .i64 0, .int .i64 0], eq := true }
theorem ya4 : V.infoOf Tryz.prog 38 ti38.eq = some ti38 := by kernel_rfl
def ti39 : V.TI := { ty := .struct [(0, 3), (1, 3), (2, 3), (3, 3), (4, 36), (5, 3), (6, 3), (7, 3), (8, 38)], size := 10, bytes := 96, zero := [.int .i64 0, .int .i64 0, .int .i64 0, .int .i64 0, .slice none 0 0, .int .i64 0, .int .i64 0, .int .i64 0, .int .i64 0, .int .i64 0], eq := true }
theorem ya3 : V.infoOf Tryz.prog 39 ti39.eq = some ti39 := by kernel_rfl
def ti40 : V.TI := { ty := .struct [(0, 3), (1, 3), (2, 3), (3, 3), (4, 36), (5, 3), (6, 3), (7, 3), (8, 38)], size := 10, bytes := 96, zero := [.int .i64 0, .int .i64 0, .int .i64 0, .int .i64 0, .slice none 0 0, .int .i64 0, .int .i64 0, .int .i64 0, .int .i64 0, .int .i64 0], eq := true }
theorem ya2 : V.infoOf Tryz.prog 40 ti40.eq = some ti40 := by kernel_rfl
def ti41 : V.TI := { ty := .func, size := 1, bytes := 8, zero := [.nilFunc], eq := false }
theorem ya1 : V.infoOf Tryz.prog 41 ti41.eq = some ti41 := by kernel_rfl
def ti42 : V.TI := { ty := .func, size := 1, bytes := 8, zero := [.nilFunc], eq := false }
theorem ya0 : V.infoOf Tryz.prog 42 ti42.eq = some ti42 := by kernel_rfl
def ti43 : V.TI := { ty := .func, size := 1, bytes := 8, zero := [.nilFunc], eq := false }
theorem yaz : V.infoOf Tryz.prog 43 ti43.eq = some ti43 := by kernel_rfl
def ti44 : V.TI := { ty := .int .i64, size := 1, bytes := 8, zero := [.int .i64 0], eq := false }
theorem yay : V.infoOf Tryz.prog 44 ti44.eq = some ti44 := by kernel_rfl
def ti46 : V.TI := { ty := .func, size := 1, bytes := 8, zero := [.nilFunc], eq := false }
theorem yax : V.infoOf Tryz.prog 46 ti46.eq = some ti46 := by kernel_rfl
def ti47 : V.TI := { ty := .func, size := 1, bytes := 8, zero := [.nilFunc], eq := false }
theorem yaw : V.infoOf Tryz.prog 47 ti47.eq = some ti47 := by kernel_rfl
def ti48 : V.TI := { ty := .func, size := 1, bytes := 8, zero := [.nilFunc], eq := false }
theorem yav : V.infoOf Tryz.prog 48 ti48.eq = some ti48 := by kernel_rfl
def ti49 : V.TI := { ty := .struct [(0, 3), (1, 3), (2, 3), (3, 38), (5, 3), (6, 3), (7, 3), (8, 3), (9, 3)], size := 10, bytes := 80, zero := [.int .i64 0, .int .i64 0, .int .i64 0, .int .i64 0, .int .i64 0, .int .i64 0, .int .i64 0, .int .i64 0, .int .i64 0, .int .i64 0], eq := true }
theorem yau : V.infoOf Tryz.prog 49 ti49.eq = some ti49 := by kernel_rfl
def ti50 : V.TI := { ty := .struct [(0, 3), (1, 3), (2, 3), (3, 38), (5, 3), (6, 3), (7, 3), (8, 3), (9, 3)], size := 10, bytes := 80, zero := [.int .i64 0, .int .i64 0, .int .i64 0, .int .i64 0, .int .i64 0, .int .i64 0, .int .i64 0, .int .i64 0, .int .i64 0, .int .i64 0], eq := true }
theorem yat : V.infoOf Tryz.prog 50 ti50.eq = some ti50 := by kernel_rfl
def ti51 : V.TI := { ty := .struct [(0, 28), (8, 4)], size := 9, bytes := 120, zero := [.int .i64 0, .int .i64 0, .int .i64 0, .int .i64 0, .int .i64 0, .slice none 0 0, .slice none 0 0, .slice none 0 0, .bool false], eq := true }
theorem yas : V.infoOf Tryz.prog 51 ti51.eq = some ti51 := by kernel_rfl
def ti52 : V.TI := { ty := .struct [(0, 28), (8, 4)], size := 9, bytes := 120, zero := [.int .i64 0, .int .i64 0, .int .i64 0, .int .i64 0, .int .i64 0, .slice none 0 0, .slice none 0 0, .slice none 0 0, .bool false], eq := true }
theorem yar : V.infoOf Tryz.prog 52 ti52.eq = some ti52 := by kernel_rfl
def ti53 : V.TI := { ty := .func, size := 1, bytes := 8, zero := [.nilFunc], eq := false }
theorem yaq : V.infoOf Tryz.prog 53 ti53.eq = some ti53 := by kernel_rfl
def ti54 : V.TI := { ty := .func, size := 1, bytes := 8, zero := [.nilFunc], eq := false }
theorem yap : V.infoOf Tryz.prog 54 ti54.eq = some ti54 := by kernel_rfl
def ti55 : V.TI := { ty := .struct [(0, 2), (1, 2), (2, 3), (3, 3), (4, 3)], size := 5, bytes := 40, zero := [.int .i64 0, .int .i64 0, .int .i64 0, .int .i64 0, .int .i64 0], eq := true }
theorem yao : V.infoOf Tryz.prog 55 ti55.eq = some ti55 := by kernel_rfl
def ti56 : V.TI := { ty := .struct [(0, 2), (1, 2), (2, 3), (3, 3), (4, 3)], size := 5, bytes := 40, zero := [.int .i64 0, .int .i64 0, .int .i64 0, .int .i64 0, .int .i64 0], eq := true }
theorem yan : V.infoOf Tryz.prog 56 ti56.eq = some ti56 := by kernel_rfl
def ti57 : V.TI := { ty := .func, size := 1, bytes := 8, zero := [.nilFunc], eq := false }
theorem yam : V.infoOf Tryz.prog 57 ti57.eq = some ti57 := by kernel_rfl
def ti58 : V.TI := { ty := .struct [(0, 3), (1, 3), (2, 3), (3, 3), (4, 3), (5, 3)], size := 6, bytes := 48, zero := [.int .i64 0, .int .i64 0, .int .i64 0, .int .i64 0, .int .i64 0, .int .i64 0], eq := true }
theorem yal : V.infoOf Tryz.prog 58 ti58.eq = some ti58 := by kernel_rfl
def ti59 : V.TI := { ty := .struct [(0, 3), (1, 3), (2, 3), (3, 3), (4, 3), (5, 3)], size := 6, bytes := 48, zero := [.int .i64 0, .int .i64 0, .int .i64 0, .int .i64 0, .int .i64 0, .int .i64 0], eq := true }
theorem yak : V.infoOf Tryz.prog 59 ti59.eq = some ti59 := by kernel_rfl
def ti60 : V.TI := { ty := .func, size := 1, bytes := 8, zero := [.nilFunc], eq := false }
theorem yaj : V.infoOf Tryz.prog 60 ti60.eq = some ti60 := by kernel_rfl
def ti61 : V.TI := { ty := .func, size := 1, bytes := 8, zero := [.nilFunc], eq := false }
theorem yai : V.infoOf Tryz.prog 61 ti61.eq = some ti61 := by kernel_rfl
def ti62 : V.TI := { ty := .func, size := 1, bytes := 8, zero := [.nilFunc], eq := false }
theorem yah : V.infoOf Tryz.prog 62 ti62.eq = some ti62 := by kernel_rfl
def ti63 : V.TI := { ty := .func, size := 1, bytes := 8, zero := [.nilFunc], eq := false }
theorem yag : V.infoOf Tryz.prog 63 ti63.eq = some ti63 := by kernel_rfl
def ti64 : V.TI := { ty := .func, size := 1, bytes := 8, zero := [.nilFunc], eq := false }
theorem yaf : V.infoOf Tryz.prog 64 ti64.eq = some ti64 := by kernel_rfl
def ti65 : V.TI := { ty := .func, size := 1, bytes := 8, zero := [.nilFunc], eq := false }
theorem yae : V.infoOf Tryz.prog 65 ti65.eq = some ti65 := by kernel_rfl
def ti67 : V.TI := { ty := .func, size := 1, bytes := 8, zero := [.nilFunc], eq := false }
theorem yad : V.infoOf Tryz.prog 67 ti67.eq = some ti67 := by kernel_rfl
def ti68 : V.TI := { ty := .func, size := 1, bytes := 8, zero := [.nilFunc], eq := false }
theorem yac : V.infoOf Tryz.prog 68 ti68.eq = some ti68 := by kernel_rfl
def ti69 : V.TI := { ty := .func, size := 1, bytes := 8, zero := [.nilFunc], eq := false }
theorem yab : V.infoOf Tryz.prog 69 ti69.eq = some ti69 := by kernel_rfl
def ti70 : V.TI := { ty := .func, size := 1, bytes := 8, zero := [.nilFunc], eq := false }
theorem yaa : V.infoOf Tryz.prog 70 ti70.eq = some ti70 := by kernel_rfl
def ti71 : V.TI := { ty := .func, size := 1, bytes := 8, zero := [.nilFunc], eq := false }
theorem zz9 : V.infoOf Tryz.prog 71 ti71.eq = some ti71 := by kernel_rfl
def ti72 : V.TI := { ty := .func, size := 1, bytes := 8, zero := [.nilFunc], eq := false }
theorem zz8 : V.infoOf Tryz.prog 72 ti72.eq = some ti72 := by kernel_rfl
def ti73 : V.TI := { ty := .func, size := 1, bytes := 8, zero := [.nilFunc], eq := false }
theorem zz7 : V.infoOf Tryz.prog 73 ti73.eq = some ti73 := by kernel_rfl
def ti74 : V.TI := { ty := .func, size := 1, bytes := 8, zero := [.nilFunc], eq := false }
theorem zz6 : V.infoOf Tryz.prog 74 ti74.eq = some ti74 := by kernel_rfl
def ti75 : V.TI := { ty := .func, size := 1, bytes := 8, zero := [.nilFunc], eq := false }
theorem zz5 : V.infoOf Tryz.prog 75 ti75.eq = some ti75 := by kernel_rfl
def ti76 : V.TI := { ty := .func, size := 1, bytes := 8, zero := [.nilFunc], eq := false }
theorem zz4 : V.infoOf Tryz.prog 76 ti76.eq = some ti76 := by kernel_rfl
def ti77 : V.TI := { ty := .ptr 52, size := 1, bytes := 8, zero := [.pointer none], eq := false }
theorem zz3 : V.infoOf Tryz.prog 77 ti77.eq = some ti77 := by kernel_rfl
def ti79 : V.TI := { ty := .func, size := 1, bytes := 8, zero := [.nilFunc], eq := false }
theorem zz2 : V.infoOf Tryz.prog 79 ti79.eq = some ti79 := by kernel_rfl
def ti80 : V.TI := { ty := .func, size := 1, bytes := 8, zero := [.nilFunc], eq := false }
theorem zz1 : V.infoOf Tryz.prog 80 ti80.eq = some ti80 := by kernel_rfl
def ti81 : V.TI := { ty := .func, size := 1, bytes := 8, zero := [.nilFunc], eq := false }
theorem zz0 : V.infoOf Tryz.prog 81 ti81.eq = some ti81 := by kernel_rfl
def ti82 : V.TI := { ty := .func, size := 1, bytes := 8, zero := [.nilFunc], eq := false }
theorem zzz : V.infoOf Tryz.prog 82 ti82.eq = some ti82 := by kernel_rfl
def ti83 : V.TI := { ty := .func, size := 1, bytes := 8, zero := [.nilFunc], eq := false }
theorem zzy : V.infoOf Tryz.prog 83 ti83.eq = some ti83 := by kernel_rfl
def ti84 : V.TI := { ty := .func, size := 1, bytes := 8, zero := [.nilFunc], eq := false }
theorem zzx : V.infoOf Tryz.prog 84 ti84.eq = some ti84 := by kernel_rfl
def ti85 : V.TI := { ty := .ptr 28, size := 1, bytes := 8, zero := [.pointer none], eq := false }
theorem zzw : V.infoOf Tryz.prog 85 ti85.eq = some ti85 := by kernel_rfl
def ti86 : V.TI := { ty := .func, size := 1, bytes := 8, zero := [.nilFunc], eq := false }
theorem zzv : V.infoOf Tryz.prog 86 ti86.eq = some ti86 := by kernel_rfl
def ti87 : V.TI := { ty := .ptr 50, size := 1, bytes := 8, zero := [.pointer none], eq := false }
theorem zzu : V.infoOf Tryz.prog 87 ti87.eq = some ti87 := by kernel_rfl
def ti88 : V.TI := { ty := .func, size := 1, bytes := 8, zero := [.nilFunc], eq := false }
theorem zzt : V.infoOf Tryz.prog 88 ti88.eq = some ti88 := by kernel_rfl
def ti89 : V.TI := { ty := .func, size := 1, bytes := 8, zero := [.nilFunc], eq := false }
theorem zzs : V.infoOf Tryz.prog 89 ti89.eq = some ti89 := by kernel_rfl
def ti90 : V.TI := { ty := .func, size := 1, bytes := 8, zero := [.nilFunc], eq := false }
theorem zzr : V.infoOf Tryz.prog 90 ti90.eq = some ti90 := by kernel_rfl
def ti91 : V.TI := { ty := .func, size := 1, bytes := 8, zero := [.nilFunc], eq := false }
theorem zzq : V.infoOf Tryz.prog 91 ti91.eq = some ti91 := by kernel_rfl
def ti92 : V.TI := { ty := .func, size := 1, bytes := 8, zero := [.nilFunc], eq := false }
theorem zzp : V.infoOf Tryz.prog 92 ti92.eq = some ti92 := by kernel_rfl
def ti93 : V.TI := { ty := .func, size := 1, bytes := 8, zero := [.nilFunc], eq := false }
theorem zzo : V.infoOf Tryz.prog 93 ti93.eq = some ti93 := by kernel_rfl
def ti94 : V.TI := { ty := .func, size := 1, bytes := 8, zero := [.nilFunc], eq := false }
theorem zzn : V.infoOf Tryz.prog 94 ti94.eq = some ti94 := by kernel_rfl
def ti95 : V.TI := { ty := .func, size := 1, bytes := 8, zero := [.nilFunc], eq := false }
theorem zzm : V.infoOf Tryz.prog 95 ti95.eq = some ti95 := by kernel_rfl
def ti96 : V.TI := { ty := .func, size := 1, bytes := 8, zero := [.nilFunc], eq := false }
theorem zzl : V.infoOf Tryz.prog 96 ti96.eq = some ti96 := by kernel_rfl
def ti97 : V.TI := { ty := .func, size := 1, bytes := 8, zero := [.nilFunc], eq := false }
theorem zzk : V.infoOf Tryz.prog 97 ti97.eq = some ti97 := by kernel_rfl
def ti98 : V.TI := { ty := .map 3 4, size := 1, bytes := 8, zero := [.map none], eq := false }
theorem zzj : V.infoOf Tryz.prog 98 ti98.eq = some ti98 := by kernel_rfl
def ti99 : V.TI := { ty := .func, size := 1, bytes := 8, zero := [.nilFunc], eq := false }
theorem zzi : V.infoOf Tryz.prog 99 ti99.eq = some ti99 := by kernel_rfl
def ti100 : V.TI := { ty := .ptr 112, size := 1, bytes := 8, zero := [.pointer none], eq := false }
theorem zvx : V.infoOf Tryz.prog 100 ti100.eq = some ti100 := by kernel_rfl
def ti101 : V.TI := { ty := .func, size := 1, bytes := 8, zero := [.nilFunc], eq := false }
theorem zvw : V.infoOf Tryz.prog 101 ti101.eq = some ti101 := by kernel_rfl
def ti102 : V.TI := { ty := .func, size := 1, bytes := 8, zero := [.nilFunc], eq := false }
theorem zvv : V.infoOf Tryz.prog 102 ti102.eq = some ti102 := by kernel_rfl
def ti103 : V.TI := { ty := .func, size := 1, bytes := 8, zero := [.nilFunc], eq := false }
theorem zvu : V.infoOf Tryz.prog 103 ti103.eq = some ti103 := by kernel_rfl
def ti104 : V.TI := { ty := .ptr 106, size := 1, bytes := 8, zero := [.pointer none], eq := false }
theorem zvt : V.infoOf Tryz.prog 104 ti104.eq = some ti104 := by kernel_rfl
def ti105 : V.TI := { ty := .struct [(0, 100), (1, 40), (11, 103)], size := 12, bytes := 112, zero := [.pointer none, .int .i64 0, .int .i64 0, .int .i64 0, .int .i64 0, .slice none 0 0, .int .i64 0, .int .i64 0, .int .i64 0, .int .i64 0, .int .i64 0, .nilFunc], eq := true }
theorem zvs : V.infoOf Tryz.prog 105 ti105.eq = some ti105 := by kernel_rfl
def ti106 : V.TI := { ty := .struct [(0, 100), (1, 40), (11, 103)], size := 12, bytes := 112, zero := [.pointer none, .int .i64 0, .int .i64 0, .int .i64 0, .int .i64 0, .slice none 0 0, .int .i64 0, .int .i64 0, .int .i64 0, .int .i64 0, .int .i64 0, .nilFunc], eq := true }
theorem zvr : V.infoOf Tryz.prog 106 ti106.eq = some ti106 := by kernel_rfl
def ti107 : V.TI := { ty := .func, size := 1, bytes := 8, zero := [.nilFunc], eq := false }
theorem zvq : V.infoOf Tryz.prog 107 ti107.eq = some ti107 := by kernel_rfl
def ti108 : V.TI := { ty := .slice 4, size := 1, bytes := 24, zero := [.slice none 0 0], eq := false }
theorem zvp : V.infoOf Tryz.prog 108 ti108.eq = some ti108 := by kernel_rfl
def ti109 : V.TI := { ty := .array 3 108, size := 3, bytes := 72, zero := [.slice none 0 0, .slice none 0 0, .slice none 0 0], eq := false }
theorem zvo : V.infoOf Tryz.prog 109 ti109.eq = some ti109 := by kernel_rfl
def ti110 : V.TI := { ty := .ptr 167, size := 1, bytes := 8, zero := [.pointer none], eq := false }
theorem zvn : V.infoOf Tryz.prog 110 ti110.eq = some ti110 := by kernel_rfl
def ti111 : V.TI := { ty := .struct [(0, 28), (8, 109), (11, 110)], size := 12, bytes := 192, zero := [.int .i64 0, .int .i64 0, .int .i64 0, .int .i64 0, .int .i64 0, .slice none 0 0, .slice none 0 0, .slice none 0 0, .slice none 0 0, .slice none 0 0, .slice none 0 0, .pointer none], eq := true }
theorem zvm : V.infoOf Tryz.prog 111 ti111.eq = some ti111 := by kernel_rfl
def ti112 : V.TI := { ty := .struct [(0, 28), (8, 109), (11, 110)], size := 12, bytes := 192, zero := [.int .i64 0, .int .i64 0, .int .i64 0, .int .i64 0, .int .i64 0, .slice none 0 0, .slice none 0 0, .slice none 0 0, .slice none 0 0, .slice none 0 0, .slice none 0 0, .pointer none], eq := true }
theorem zvl : V.infoOf Tryz.prog 112 ti112.eq = some ti112 := by kernel_rfl
def ti113 : V.TI := { ty := .ptr 116, size := 1, bytes := 8, zero := [.pointer none], eq := false }
theorem zvk : V.infoOf Tryz.prog 113 ti113.eq = some ti113 := by kernel_rfl
def ti114 : V.TI := { ty := .func, size := 1, bytes := 8, zero := [.nilFunc], eq := false }
theorem zvj : V.infoOf Tryz.prog 114 ti114.eq = some ti114 := by kernel_rfl
def ti115 : V.TI := { ty := .struct [(0, 24), (3, 3), (4, 108)], size := 5, bytes := 72, zero := [.int .i64 0, .int .i64 0, .slice none 0 0, .int .i64 0, .slice none 0 0], eq := true }
theorem zvi : V.infoOf Tryz.prog 115 ti115.eq = some ti115 := by kernel_rfl
def ti116 : V.TI := { ty := .struct [(0, 24), (3, 3), (4, 108)], size := 5, bytes := 72, zero := [.int .i64 0, .int .i64 0, .slice none 0 0, .int .i64 0, .slice none 0 0], eq := true }
theorem zvh : V.infoOf Tryz.prog 116 ti116.eq = some ti116 := by kernel_rfl
def ti117 : V.TI := { ty := .func, size := 1, bytes := 8, zero := [.nilFunc], eq := false }
theorem zvg : V.infoOf Tryz.prog 117 ti117.eq = some ti117 := by kernel_rfl
def ti118 : V.TI := { ty := .func, size := 1, bytes := 8, zero := [.nilFunc], eq := false }
theorem zvf : V.infoOf Tryz.prog 118 ti118.eq = some ti118 := by kernel_rfl
def ti119 : V.TI := { ty := .func, size := 1, bytes := 8, zero := [.nilFunc], eq := false }
theorem zve : V.infoOf Tryz.prog 119 ti119.eq = some ti119 := by kernel_rfl
def ti120 : V.TI := { ty := .func, size := 1, bytes := 8, zero := [.nilFunc], eq := false }
theorem zvd : V.infoOf Tryz.prog 120 ti120.eq = some ti120 := by kernel_rfl
def ti122 : V.TI := { ty := .func, size := 1, bytes := 8, zero := [.nilFunc], eq := false }
theorem zvc : V.infoOf Tryz.prog 122 ti122.eq = some ti122 := by kernel_rfl
def ti123 : V.TI := { ty := .func, size := 1, bytes := 8, zero := [.nilFunc], eq := false }
theorem zvb : V.infoOf Tryz.prog 123 ti123.eq = some ti123 := by kernel_rfl
def ti124 : V.TI := { ty := .func, size := 1, bytes := 8, zero := [.nilFunc], eq := false }
theorem zva : V.infoOf Tryz.prog 124 ti124.eq = some ti124 := by kernel_rfl
def ti126 : V.TI := { ty := .func, size := 1, bytes := 8, zero := [.nilFunc], eq := false }
theorem zu9 : V.infoOf Tryz.prog 126 ti126.eq = some ti126 := by kernel_rfl
def ti127 : V.TI := { ty := .func, size := 1, bytes := 8, zero := [.nilFunc], eq := false }
theorem zu8 : V.infoOf Tryz.prog 127 ti127.eq = some ti127 := by kernel_rfl
def ti128 : V.TI := { ty := .func, size := 1, bytes := 8, zero := [.nilFunc], eq := false }
theorem zu7 : V.infoOf Tryz.prog 128 ti128.eq = some ti128 := by kernel_rfl
def ti129 : V.TI := { ty := .func, size := 1, bytes := 8, zero := [.nilFunc], eq := false }
theorem zu6 : V.infoOf Tryz.prog 129 ti129.eq = some ti129 := by kernel_rfl
def ti130 : V.TI := { ty := .func, size := 1, bytes := 8, zero := [.nilFunc], eq := false }
theorem zu5 : V.infoOf Tryz.prog 130 ti130.eq = some ti130 := by kernel_rfl
def ti131 : V.TI := { ty := .func, size := 1, bytes := 8, zero := [.nilFunc], eq := false }
theorem zu4 : V.infoOf Tryz.prog 131 ti131.eq = some ti131 := by kernel_rfl
def ti132 : V.TI := { ty := .func, size := 1, bytes := 8, zero := [.nilFunc], eq := false }
theorem zu3 : V.infoOf Tryz.prog 132 ti132.eq = some ti132 := by kernel_rfl
def ti133 : V.TI := { ty := .func, size := 1, bytes := 8, zero := [.nilFunc], eq := false }
theorem zu2 : V.infoOf Tryz.prog 133 ti133.eq = some ti133 := by kernel_rfl
def ti134 : V.TI := { ty := .func, size := 1, bytes := 8, zero := [.nilFunc], eq := false }
theorem zu1 : V.infoOf Tryz.prog 134 ti134.eq = some ti134 := by kernel_rfl
def ti135 : V.TI := { ty := .func, size := 1, bytes := 8, zero := [.nilFunc], eq := false }
theorem zu0 : V.infoOf Tryz.prog 135 ti135.eq = some ti135 := by kernel_rfl
def ti136 : V.TI := { ty := .func, size := 1, bytes := 8, zero := [.nilFunc], eq := false }
theorem zuz : V.infoOf Tryz.prog 136 ti136.eq = some ti136 := by kernel_rfl
def ti137 : V.TI := { ty := .func, size := 1, bytes := 8, zero := [.nilFunc], eq := false }
theorem zuy : V.infoOf Tryz.prog 137 ti137.eq = some ti137 := by kernel_rfl
def ti138 : V.TI := { ty := .func, size := 1, bytes := 8, zero := [.nilFunc], eq := false }
theorem zux : V.infoOf Tryz.prog 138 ti138.eq = some ti138 := by kernel_rfl
def ti139 : V.TI := { ty := .func, size := 1, bytes := 8, zero := [.nilFunc], eq := false }
theorem zuw : V.infoOf Tryz.prog 139 ti139.eq = some ti139 := by kernel_rfl
def ti140 : V.TI := { ty := .func, size := 1, bytes := 8, zero := [.nilFunc], eq := false }
theorem zuv : V.infoOf Tryz.prog 140 ti140.eq = some ti140 := by kernel_rfl
def ti141 : V.TI := { ty := .map 3 3, size := 1, bytes := 8, zero := [.map none], eq := false }
theorem zuu : V.infoOf Tryz.prog 141 ti141.eq = some ti141 := by kernel_rfl
def ti143 : V.TI := { ty := .func, size := 1, bytes := 8, zero := [.nilFunc], eq := false }
theorem zut : V.infoOf Tryz.prog 143 ti143.eq = some ti143 := by kernel_rfl
def ti145 : V.TI := { ty := .func, size := 1, bytes := 8, zero := [.nilFunc], eq := false }
theorem zus : V.infoOf Tryz.prog 145 ti145.eq = some ti145 := by kernel_rfl
def ti146 : V.TI := { ty := .func, size := 1, bytes := 8, zero := [.nilFunc], eq := false }
theorem zur : V.infoOf Tryz.prog 146 ti146.eq = some ti146 := by kernel_rfl
def ti147 : V.TI := { ty := .func, size := 1, bytes := 8, zero := [.nilFunc], eq := false }
theorem zuq : V.infoOf Tryz.prog 147 ti147.eq = some ti147 := by kernel_rfl
def ti148 : V.TI := { ty := .func, size := 1, bytes := 8, zero := [.nilFunc], eq := false }
theorem zup : V.infoOf Tryz.prog 148 ti148.eq = some ti148 := by kernel_rfl
def ti149 : V.TI := { ty := .func, size := 1, bytes := 8, zero := [.nilFunc], eq := false }
theorem zuo : V.infoOf Tryz.prog 149 ti149.eq = some ti149 := by kernel_rfl
def ti150 : V.TI := { ty := .func, size := 1, bytes := 8, zero := [.nilFunc], eq := false }
theorem zun : V.infoOf Tryz.prog 150 ti150.eq = some ti150 := by kernel_rfl
def ti151 : V.TI := { ty := .func, size := 1, bytes := 8, zero := [.nilFunc], eq := false }
theorem zum : V.infoOf Tryz.prog 151 ti151.eq = some ti151 := by kernel_rfl
def ti152 : V.TI := { ty := .func, size := 1, bytes := 8, zero := [.nilFunc], eq := false }
theorem zul : V.infoOf Tryz.prog 152 ti152.eq = some ti152 := by kernel_rfl
def ti153 : V.TI := { ty := .func, size := 1, bytes := 8, zero := [.nilFunc], eq := false }
theorem zuk : V.infoOf Tryz.prog 153 ti153.eq = some ti153 := by kernel_rfl
def ti154 : V.TI := { ty := .func, size := 1, bytes := 8, zero := [.nilFunc], eq := false }
theorem zuj : V.infoOf Tryz.prog 154 ti154.eq = some ti154 := by kernel_rfl
def ti155 : V.TI := { ty := .func, size := 1, bytes := 8, zero := [.nilFunc], eq := false }
theorem zui : V.infoOf Tryz.prog 155 ti155.eq = some ti155 := by kernel_rfl
def ti156 : V.TI := { ty := .int .u64, size := 1, bytes := 8, zero := [.int .u64 0], eq := false }
theorem zuh : V.infoOf Tryz.prog 156 ti156.eq = some ti156 := by kernel_rfl
def ti157 : V.TI := { ty := .struct [(0, 156), (1, 156)], size := 2, bytes := 16, zero := [.int .u64 0, .int .u64 0], eq := true }
theorem zug : V.infoOf Tryz.prog 157 ti157.eq = some ti157 := by kernel_rfl
def ti158 : V.TI := { ty := .struct [(0, 156), (1, 156)], size := 2, bytes := 16, zero := [.int .u64 0, .int .u64 0], eq := true }
theorem zuf : V.infoOf Tryz.prog 158 ti158.eq = some ti158 := by kernel_rfl
def ti159 : V.TI := { ty := .func, size := 1, bytes := 8, zero := [.nilFunc], eq := false }
theorem zue : V.infoOf Tryz.prog 159 ti159.eq = some ti159 := by kernel_rfl
def ti160 : V.TI := { ty := .func, size := 1, bytes := 8, zero := [.nilFunc], eq := false }
theorem zud : V.infoOf Tryz.prog 160 ti160.eq = some ti160 := by kernel_rfl
def ti161 : V.TI := { ty := .func, size := 1, bytes := 8, zero := [.nilFunc], eq := false }
theorem zuc : V.infoOf Tryz.prog 161 ti161.eq = some ti161 := by kernel_rfl
def ti162 : V.TI := { ty := .func, size := 1, bytes := 8, zero := [.nilFunc], eq := false }
theorem zub : V.infoOf Tryz.prog 162 ti162.eq = some ti162 := by kernel_rfl
def ti163 : V.TI := { ty := .func, size := 1, bytes := 8, zero := [.nilFunc], eq := false }
theorem zua : V.infoOf Tryz.prog 163 ti163.eq = some ti163 := by kernel_rfl
def ti164 : V.TI := { ty := .map 3 38, size := 1, bytes := 8, zero := [.map none], eq := false }
theorem zt9 : V.infoOf Tryz.prog 164 ti164.eq = some ti164 := by kernel_rfl
def ti165 : V.TI := { ty := .map 169 36, size := 1, bytes := 8, zero := [.map none], eq := false }
theorem zt8 : V.infoOf Tryz.prog 165 ti165.eq = some ti165 := by kernel_rfl
def ti166 : V.TI := { ty := .struct [(0, 164), (1, 165)], size := 2, bytes := 16, zero := [.map none, .map none], eq := true }
theorem zt7 : V.infoOf Tryz.prog 166 ti166.eq = some ti166 := by kernel_rfl
def ti167 : V.TI := { ty := .struct [(0, 164), (1, 165)], size := 2, bytes := 16, zero := [.map none, .map none], eq := true }
theorem zt6 : V.infoOf Tryz.prog 167 ti167.eq = some ti167 := by kernel_rfl
def ti168 : V.TI := { ty := .struct [(0, 2), (1, 2)], size := 2, bytes := 16, zero := [.int .i64 0, .int .i64 0], eq := true }
theorem zt5 : V.infoOf Tryz.prog 168 ti168.eq = some ti168 := by kernel_rfl
def ti169 : V.TI := { ty := .struct [(0, 2), (1, 2)], size := 2, bytes := 16, zero := [.int .i64 0, .int .i64 0], eq := true }
theorem zt4 : V.infoOf Tryz.prog 169 ti169.eq = some ti169 := by kernel_rfl
def ti170 : V.TI := { ty := .func, size := 1, bytes := 8, zero := [.nilFunc], eq := false }
theorem zt3 : V.infoOf Tryz.prog 170 ti170.eq = some ti170 := by kernel_rfl
def ti171 : V.TI := { ty := .func, size := 1, bytes := 8, zero := [.nilFunc], eq := false }
theorem zt2 : V.infoOf Tryz.prog 171 ti171.eq = some ti171 := by kernel_rfl
def ti172 : V.TI := { ty := .func, size := 1, bytes := 8, zero := [.nilFunc], eq := false }
theorem zt1 : V.infoOf Tryz.prog 172 ti172.eq = some ti172 := by kernel_rfl
def ti173 : V.TI := { ty := .func, size := 1, bytes := 8, zero := [.nilFunc], eq := false }
theorem zt0 : V.infoOf Tryz.prog 173 ti173.eq = some ti173 := by kernel_rfl
def ti174 : V.TI := { ty := .func, size := 1, bytes := 8, zero := [.nilFunc], eq := false }
theorem ztz : V.infoOf Tryz.prog 174 ti174.eq = some ti174 := by kernel_rfl
def ti175 : V.TI := { ty := .func, size := 1, bytes := 8, zero := [.nilFunc], eq := false }
theorem zty : V.infoOf Tryz.prog 175 ti175.eq = some ti175 := by kernel_rfl
def ti176 : V.TI := { ty := .func, size := 1, bytes := 8, zero := [.nilFunc], eq := false }
theorem ztx : V.infoOf Tryz.prog 176 ti176.eq = some ti176 := by kernel_rfl
def ti177 : V.TI := { ty := .func, size := 1, bytes := 8, zero := [.nilFunc], eq := false }
theorem ztw : V.infoOf Tryz.prog 177 ti177.eq = some ti177 := by kernel_rfl
def ti178 : V.TI := { ty := .func, size := 1, bytes := 8, zero := [.nilFunc], eq := false }
theorem ztv : V.infoOf Tryz.prog 178 ti178.eq = some ti178 := by kernel_rfl
def ti180 : V.TI := { ty := .func, size := 1, bytes := 8, zero := [.nilFunc], eq := false }
theorem ztu : V.infoOf Tryz.prog 180 ti180.eq = some ti180 := by kernel_rfl
def ti181 : V.TI := { ty := .map 3 36, size := 1, bytes := 8, zero := [.map none], eq := false }
theorem ztt : V.infoOf Tryz.prog 181 ti181.eq = some ti181 := by kernel_rfl
def ti183 : V.TI := { ty := .func, size := 1, bytes := 8, zero := [.nilFunc], eq := false }
theorem zts : V.infoOf Tryz.prog 183 ti183.eq = some ti183 := by kernel_rfl
def ti184 : V.TI := { ty := .func, size := 1, bytes := 8, zero := [.nilFunc], eq := false }
theorem ztr : V.infoOf Tryz.prog 184 ti184.eq = some ti184 := by kernel_rfl
def ti186 : V.TI := { ty := .func, size := 1, bytes := 8, zero := [.nilFunc], eq := false }
theorem ztq : V.infoOf Tryz.prog 186 ti186.eq = some ti186 := by kernel_rfl
def ti187 : V.TI := { ty := .func, size := 1, bytes := 8, zero := [.nilFunc], eq := false }
theorem ztp : V.infoOf Tryz.prog 187 ti187.eq = some ti187 := by kernel_rfl
def ti189 : V.TI := { ty := .func, size := 1, bytes := 8, zero := [.nilFunc], eq := false }
theorem zto : V.infoOf Tryz.prog 189 ti189.eq = some ti189 := by kernel_rfl
def ti190 : V.TI := { ty := .func, size := 1, bytes := 8, zero := [.nilFunc], eq := false }
theorem ztn : V.infoOf Tryz.prog 190 ti190.eq = some ti190 := by kernel_rfl
def ti191 : V.TI := { ty := .func, size := 1, bytes := 8, zero := [.nilFunc], eq := false }
theorem ztm : V.infoOf Tryz.prog 191 ti191.eq = some ti191 := by kernel_rfl
def ti192 : V.TI := { ty := .func, size := 1, bytes := 8, zero := [.nilFunc], eq := false }
theorem ztl : V.infoOf Tryz.prog 192 ti192.eq = some ti192 := by kernel_rfl
def ti193 : V.TI := { ty := .func, size := 1, bytes := 8, zero := [.nilFunc], eq := false }
theorem ztk : V.infoOf Tryz.prog 193 ti193.eq = some ti193 := by kernel_rfl
def ti194 : V.TI := { ty := .array 2 3, size := 2, bytes := 16, zero := [.int .i64 0, .int .i64 0], eq := false }
theorem ztj : V.infoOf Tryz.prog 194 ti194.eq = some ti194 := by kernel_rfl
def ti195 : V.TI := { ty := .slice 194, size := 1, bytes := 24, zero := [.slice none 0 0], eq := false }
theorem zti : V.infoOf Tryz.prog 195 ti195.eq = some ti195 := by kernel_rfl
def ti196 : V.TI := { ty := .func, size := 1, bytes := 8, zero := [.nilFunc], eq := false }
theorem zth : V.infoOf Tryz.prog 196 ti196.eq = some ti196 := by kernel_rfl
def ti197 : V.TI := { ty := .func, size := 1, bytes := 8, zero := [.nilFunc], eq := false }
theorem ztg : V.infoOf Tryz.prog 197 ti197.eq = some ti197 := by kernel_rfl
def ti198 : V.TI := { ty := .array 6 3, size := 6, bytes := 48, zero := [.int .i64 0, .int .i64 0, .int .i64 0, .int .i64 0, .int .i64 0, .int .i64 0], eq := false }
theorem ztf : V.infoOf Tryz.prog 198 ti198.eq = some ti198 := by kernel_rfl
def ti199 : V.TI := { ty := .array 3 198, size := 18, bytes := 144, zero := [.int .i64 0, .int .i64 0, .int .i64 0, .int .i64 0, .int .i64 0, .int .i64 0, .int .i64 0, .int .i64 0, .int .i64 0, .int .i64 0, .int .i64 0, .int .i64 0, .int .i64 0, .int .i64 0, .int .i64 0, .int .i64 0, .int .i64 0, .int .i64 0], eq := false }
theorem zte : V.infoOf Tryz.prog 199 ti199.eq = some ti199 := by kernel_rfl
def ti200 : V.TI := { ty := .func, size := 1, bytes := 8, zero := [.nilFunc], eq := false }
theorem ztd : V.infoOf Tryz.prog 200 ti200.eq = some ti200 := by kernel_rfl
def ti201 : V.TI := { ty := .func, size := 1, bytes := 8, zero := [.nilFunc], eq := false }
theorem ztc : V.infoOf Tryz.prog 201 ti201.eq = some ti201 := by kernel_rfl
def ti202 : V.TI := { ty := .int .u64, size := 1, bytes := 8, zero := [.int .u64 0], eq := false }
theorem ztb : V.infoOf Tryz.prog 202 ti202.eq = some ti202 := by kernel_rfl
def ti203 : V.TI := { ty := .func, size := 1, bytes := 8, zero := [.nilFunc], eq := false }
theorem zta : V.infoOf Tryz.prog 203 ti203.eq = some ti203 := by kernel_rfl
def ti205 : V.TI := { ty := .func, size := 1, bytes := 8, zero := [.nilFunc], eq := false }
theorem zs9 : V.infoOf Tryz.prog 205 ti205.eq = some ti205 := by kernel_rfl
def ti206 : V.TI := { ty := .func, size := 1, bytes := 8, zero := [.nilFunc], eq := false }
theorem zs8 : V.infoOf Tryz.prog 206 ti206.eq = some ti206 := by kernel_rfl
def ti207 : V.TI := { ty := .func, size := 1, bytes := 8, zero := [.nilFunc], eq := false }
theorem zs7 : V.infoOf Tryz.prog 207 ti207.eq = some ti207 := by kernel_rfl
def ti208 : V.TI := { ty := .func, size := 1, bytes := 8, zero := [.nilFunc], eq := false }
theorem zs6 : V.infoOf Tryz.prog 208 ti208.eq = some ti208 := by kernel_rfl
def ti209 : V.TI := { ty := .struct [(0, 156), (1, 156)], size := 2, bytes := 16, zero := [.int .u64 0, .int .u64 0], eq := true }
theorem zs5 : V.infoOf Tryz.prog 209 ti209.eq = some ti209 := by kernel_rfl
def ti210 : V.TI := { ty := .func, size := 1, bytes := 8, zero := [.nilFunc], eq := false }
theorem zs4 : V.infoOf Tryz.prog 210 ti210.eq = some ti210 := by kernel_rfl
def ti211 : V.TI := { ty := .func, size := 1, bytes := 8, zero := [.nilFunc], eq := false }
theorem zs3 : V.infoOf Tryz.prog 211 ti211.eq = some ti211 := by kernel_rfl
def ti212 : V.TI := { ty := .func, size := 1, bytes := 8, zero := [.nilFunc], eq := false }
theorem zs2 : V.infoOf Tryz.prog 212 ti212.eq = some ti212 := by kernel_rfl
def ti213 : V.TI := { ty := .func, size := 1, bytes := 8, zero := [.nilFunc], eq := false }
theorem zs1 : V.infoOf Tryz.prog 213 ti213.eq = some ti213 := by kernel_rfl
def ti214 : V.TI := { ty := .func, size := 1, bytes := 8, zero := [.nilFunc], eq := false }
theorem zs0 : V.infoOf Tryz.prog 214 ti214.eq = some ti214 := by kernel_rfl
def ti215 : V.TI := { ty := .func, size := 1, bytes := 8, zero := [.nilFunc], eq := false }
theorem zsy : V.infoOf Tryz.prog 215 ti215.eq = some ti215 := by kernel_rfl
def ti216 : V.TI := { ty := .func, size := 1, bytes := 8, zero := [.nilFunc], eq := false }
theorem zsx : V.infoOf Tryz.prog 216 ti216.eq = some ti216 := by kernel_rfl
def ti217 : V.TI := { ty := .func, size := 1, bytes := 8, zero := [.nilFunc], eq := false }
theorem zsw : V.infoOf Tryz.prog 217 ti217.eq = some ti217 := by kernel_rfl
def ti218 : V.TI := { ty := .func, size := 1, bytes := 8, zero := [.nilFunc], eq := false }
theorem zsv : V.infoOf Tryz.prog 218 ti218.eq = some ti218 := by kernel_rfl
def ti219 : V.TI := { ty := .func, size := 1, bytes := 8, zero := [.nilFunc], eq := false }
theorem zsu : V.infoOf Tryz.prog 219 ti219.eq = some ti219 := by kernel_rfl
def ti220 : V.TI := { ty := .func, size := 1, bytes := 8, zero := [.nilFunc], eq := false }
theorem zst : V.infoOf Tryz.prog 220 ti220.eq = some ti220 := by kernel_rfl
def ti221 : V.TI := { ty := .func, size := 1, bytes := 8, zero := [.nilFunc], eq := false }
theorem zss : V.infoOf Tryz.prog 221 ti221.eq = some ti221 := by kernel_rfl
def ti223 : V.TI := { ty := .func, size := 1, bytes := 8, zero := [.nilFunc], eq := false }
theorem zsr : V.infoOf Tryz.prog 223 ti223.eq = some ti223 := by kernel_rfl
def ti224 : V.TI := { ty := .func, size := 1, bytes := 8, zero := [.nilFunc], eq := false }
theorem zsq : V.infoOf Tryz.prog 224 ti224.eq = some ti224 := by kernel_rfl
def ti226 : V.TI := { ty := .func, size := 1, bytes := 8, zero := [.nilFunc], eq := false }
theorem zsp : V.infoOf Tryz.prog 226 ti226.eq = some ti226 := by kernel_rfl
def ti227 : V.TI := { ty := .func, size := 1, bytes := 8, zero := [.nilFunc], eq := false }
theorem zso : V.infoOf Tryz.prog 227 ti227.eq = some ti227 := by kernel_rfl
def ti228 : V.TI := { ty := .func, size := 1, bytes := 8, zero := [.nilFunc], eq := false }
theorem zsn : V.infoOf Tryz.prog 228 ti228.eq = some ti228 := by kernel_rfl
def ti229 : V.TI := { ty := .func, size := 1, bytes := 8, zero := [.nilFunc], eq := false }
theorem zsm : V.infoOf Tryz.prog 229 ti229.eq = some ti229 := by kernel_rfl
def ti230 : V.TI := { ty := .func, size := 1, bytes := 8, zero := [.nilFunc], eq := false }
theorem zsl : V.infoOf Tryz.prog 230 ti230.eq = some ti230 := by kernel_rfl
def ti231 : V.TI := { ty := .func, size := 1, bytes := 8, zero := [.nilFunc], eq := false }
theorem zsk : V.infoOf Tryz.prog 231 ti231.eq = some ti231 := by kernel_rfl
def ti232 : V.TI := { ty := .array 8 3, size := 8, bytes := 64, zero := [.int .i64 0, .int .i64 0, .int .i64 0, .int .i64 0, .int .i64 0, .int .i64 0, .int .i64 0, .int .i64 0], eq := false }
theorem zsj : V.infoOf Tryz.prog 232 ti232.eq = some ti232 := by kernel_rfl
def ti233 : V.TI := { ty := .func, size := 1, bytes := 8, zero := [.nilFunc], eq := false }
theorem zsi : V.infoOf Tryz.prog 233 ti233.eq = some ti233 := by kernel_rfl
def ti234 : V.TI := { ty := .int .i64, size := 1, bytes := 8, zero := [.int .i64 0], eq := false }
theorem zsh : V.infoOf Tryz.prog 234 ti234.eq = some ti234 := by kernel_rfl
def ti236 : V.TI := { ty := .func, size := 1, bytes := 8, zero := [.nilFunc], eq := false }
theorem zsg : V.infoOf Tryz.prog 236 ti236.eq = some ti236 := by kernel_rfl
def ti237 : V.TI := { ty := .func, size := 1, bytes := 8, zero := [.nilFunc], eq := false }
theorem zsf : V.infoOf Tryz.prog 237 ti237.eq = some ti237 := by kernel_rfl
def ti238 : V.TI := { ty := .func, size := 1, bytes := 8, zero := [.nilFunc], eq := false }
theorem zse : V.infoOf Tryz.prog 238 ti238.eq = some ti238 := by kernel_rfl
def ti239 : V.TI := { ty := .func, size := 1, bytes := 8, zero := [.nilFunc], eq := false }
theorem zsd : V.infoOf Tryz.prog 239 ti239.eq = some ti239 := by kernel_rfl
def ti240 : V.TI := { ty := .int .u32, size := 1, bytes := 4, zero := [.int .u32 0], eq := false }
theorem zsc : V.infoOf Tryz.prog 240 ti240.eq = some ti240 := by kernel_rfl
def ti241 : V.TI := { ty := .func, size := 1, bytes := 8, zero := [.nilFunc], eq := false }
theorem zsb : V.infoOf Tryz.prog 241 ti241.eq = some ti241 := by kernel_rfl
def ti242 : V.TI := { ty := .func, size := 1, bytes := 8, zero := [.nilFunc], eq := false }
theorem zsa : V.infoOf Tryz.prog 242 ti242.eq = some ti242 := by kernel_rfl
def ti243 : V.TI := { ty := .int .u64, size := 1, bytes := 8, zero := [.int .u64 0], eq := false }
theorem zr9 : V.infoOf Tryz.prog 243 ti243.eq = some ti243 := by kernel_rfl
def ti244 : V.TI := { ty := .func, size := 1, bytes := 8, zero := [.nilFunc], eq := false }
theorem zr8 : V.infoOf Tryz.prog 244 ti244.eq = some ti244 := by kernel_rfl
def ti245 : V.TI := { ty := .func, size := 1, bytes := 8, zero := [.nilFunc], eq := false }
theorem zr7 : V.infoOf Tryz.prog 245 ti245.eq = some ti245 := by kernel_rfl
def ti246 : V.TI := { ty := .func, size := 1, bytes := 8, zero := [.nilFunc], eq := false }
theorem zr6 : V.infoOf Tryz.prog 246 ti246.eq = some ti246 := by kernel_rfl
def ti247 : V.TI := { ty := .ptr 3, size := 1, bytes := 8, zero := [.pointer none], eq := false }
theorem zr5 : V.infoOf Tryz.prog 247 ti247.eq = some ti247 := by kernel_rfl
def ti248 : V.TI := { ty := .func, size := 1, bytes := 8, zero := [.nilFunc], eq := false }
theorem zr4 : V.infoOf Tryz.prog 248 ti248.eq = some ti248 := by kernel_rfl
def ti249 : V.TI := { ty := .ptr 243, size := 1, bytes := 8, zero := [.pointer none], eq := false }
theorem zr3 : V.infoOf Tryz.prog 249 ti249.eq = some ti249 := by kernel_rfl
def ti251 : V.TI := { ty := .func, size := 1, bytes := 8, zero := [.nilFunc], eq := false }
theorem zr2 : V.infoOf Tryz.prog 251 ti251.eq = some ti251 := by kernel_rfl
def ti252 : V.TI := { ty := .func, size := 1, bytes := 8, zero := [.nilFunc], eq := false }
theorem zr1 : V.infoOf Tryz.prog 252 ti252.eq = some ti252 := by kernel_rfl
def ti253 : V.TI := { ty := .struct [(0, 17), (1, 17), (2, 17), (3, 9)], size := 4, bytes := 40, zero := [.pointer none, .pointer none, .pointer none, .string ⟨#[]⟩], eq := false }
theorem zr0 : V.infoOf Tryz.prog 253 ti253.eq = some ti253 := by kernel_rfl
def ti254 : V.TI := { ty := .struct [(0, 17), (1, 17), (2, 17), (3, 9)], size := 4, bytes := 40, zero := [.pointer none, .pointer none, .pointer none, .string ⟨#[]⟩], eq := false }
theorem zrz : V.infoOf Tryz.prog 254 ti254.eq = some ti254 := by kernel_rfl
def ti258 : V.TI := { ty := .func, size := 1, bytes := 8, zero := [.nilFunc], eq := false }
theorem zry : V.infoOf Tryz.prog 258 ti258.eq = some ti258 := by kernel_rfl
def ti259 : V.TI := { ty := .int .u8, size := 1, bytes := 1, zero := [.int .u8 0], eq := false }
theorem zrx : V.infoOf Tryz.prog 259 ti259.eq = some ti259 := by kernel_rfl
def ti260 : V.TI := { ty := .int .u8, size := 1, bytes := 1, zero := [.int .u8 0], eq := false }
theorem zrw : V.infoOf Tryz.prog 260 ti260.eq = some ti260 := by kernel_rfl
def ti261 : V.TI := { ty := .func, size := 1, bytes := 8, zero := [.nilFunc], eq := false }
theorem zrv : V.infoOf Tryz.prog 261 ti261.eq = some ti261 := by kernel_rfl
def ti262 : V.TI := { ty := .ptr 5, size := 1, bytes := 8, zero := [.pointer none], eq := false }
theorem zru : V.infoOf Tryz.prog 262 ti262.eq = some ti262 := by kernel_rfl
def ti263 : V.TI := { ty := .int .i32, size := 1, bytes := 4, zero := [.int .i32 0], eq := false }
theorem zrt : V.infoOf Tryz.prog 263 ti263.eq = some ti263 := by kernel_rfl
def ti264 : V.TI := { ty := .int .i32, size := 1, bytes := 4, zero := [.int .i32 0], eq := false }
theorem zrs : V.infoOf Tryz.prog 264 ti264.eq = some ti264 := by kernel_rfl
def ti265 : V.TI := { ty := .struct [(0, 12), (1, 12), (2, 240), (3, 259), (4, 5), (5, 5), (6, 260), (7, 261), (8, 262), (9, 263), (10, 264)], size := 11, bytes := 48, zero := [.int .u64 0, .int .u64 0, .int .u32 0, .int .u8 0, .int .u8 0, .int .u8 0, .int .u8 0, .nilFunc, .pointer none, .int .i32 0, .int .i32 0], eq := false }
theorem zrr : V.infoOf Tryz.prog 265 ti265.eq = some ti265 := by kernel_rfl
def ti266 : V.TI := { ty := .struct [(0, 12), (1, 12), (2, 240), (3, 259), (4, 5), (5, 5), (6, 260), (7, 261), (8, 262), (9, 263), (10, 264)], size := 11, bytes := 48, zero := [.int .u64 0, .int .u64 0, .int .u32 0, .int .u8 0, .int .u8 0, .int .u8 0, .int .u8 0, .nilFunc, .pointer none, .int .i32 0, .int .i32 0], eq := false }
theorem zrq : V.infoOf Tryz.prog 266 ti266.eq = some ti266 := by kernel_rfl
def ti267 : V.TI := { ty := .func, size := 1, bytes := 8, zero := [.nilFunc], eq := false }
theorem zrp : V.infoOf Tryz.prog 267 ti267.eq = some ti267 := by kernel_rfl
def ti268 : V.TI := { ty := .other, size := 1, bytes := 8, zero := [.pointer none], eq := false }
theorem zro : V.infoOf Tryz.prog 268 ti268.eq = some ti268 := by kernel_rfl
def infoTree : V.Tr := (.node 131 (.node 65 (.node 32 (.node 16 (.node 8 (.node 4 (.node 2 (.node 1 .nil ti1 .nil) ti2 (.node 3 .nil ti3 .nil)) ti4 (.node 6 (.node 5 .nil ti5 .nil) ti6 (.node 7 .nil ti7 .nil))) ti8 (.node 12 (.node 10 (.node 9 .nil ti9 .nil) ti10 (.node 11 .nil ti11 .nil)) ti12 (.node 14 (.node 13 .nil ti13 .nil) ti14 (.node 15 .nil ti15 .nil)))) ti16 (.node 25 (.node 21 (.node 18 (.node 17 .nil ti17 .nil) ti18 (.node 19 .nil ti19 .nil)) ti21 (.node 23 (.node 22 .nil ti22 .nil) ti23 (.node 24 .nil ti24 .nil))) ti25 (.node 29 (.node 27 (.node 26 .nil ti26 .nil) ti27 (.node 28 .nil ti28 .nil)) ti29 (.node 31 (.node 30 .nil ti30 .nil) ti31 .nil)))) ti32 (.node 50 (.node 41 (.node 37 (.node 35 (.node 33 .nil ti33 .nil) ti35 (.node 36 .nil ti36 .nil)) ti37 (.node 39 (.node 38 .nil ti38 .nil) ti39 (.node 40 .nil ti40 .nil))) ti41 (.node 46 (.node 43 (.node 42 .nil ti42 .nil) ti43 (.node 44 .nil ti44 .nil)) ti46 (.node 48 (.node 47 .nil ti47 .nil) ti48 (.node 49 .nil ti49 .nil)))) ti50 (.node 58 (.node 54 (.node 52 (.node 51 .nil ti51 .nil) ti52 (.node 53 .nil ti53 .nil)) ti54 (.node 56 (.node 55 .nil ti55 .nil) ti56 (.node 57 .nil ti57 .nil))) ti58 (.node 62 (.node 60 (.node 59 .nil ti59 .nil) ti60 (.node 61 .nil ti61 .nil)) ti62 (.node 64 (.node 63 .nil ti63 .nil) ti64 .nil))))) ti65 (.node 98 (.node 83 (.node 74 (.node 70 (.node 68 (.node 67 .nil ti67 .nil) ti68 (.node 69 .nil ti69 .nil)) ti70 (.node 72 (.node 71 .nil ti71 .nil) ti72 (.node 73 .nil ti73 .nil))) ti74 (.node 79 (.node 76 (.node 75 .nil ti75 .nil) ti76 (.node 77 .nil ti77 .nil)) ti79 (.node 81 (.node 80 .nil ti80 .nil) ti81 (.node 82 .nil ti82 .nil)))) ti83 (.node 91 (.node 87 (.node 85 (.node 84 .nil ti84 .nil) ti85 (.node 86 .nil ti86 .nil)) ti87 (.node 89 (.node 88 .nil ti88 .nil) ti89 (.node 90 .nil ti90 .nil))) ti91 (.node 95 (.node 93 (.node 92 .nil ti92 .nil) ti93 (.node 94 .nil ti94 .nil)) ti95 (.node 97 (.node 96 .nil ti96 .nil) ti97 .nil)))) ti98 (.node 114 (.node 106 (.node 102 (.node 100 (.node 99 .nil ti99 .nil) ti100 (.node 101 .nil ti101 .nil)) ti102 (.node 104 (.node 103 .nil ti103 .nil) ti104 (.node 105 .nil ti105 .nil))) ti106 (.node 110 (.node 108 (.node 107 .nil ti107 .nil) ti108 (.node 109 .nil ti109 .nil)) ti110 (.node 112 (.node 111 .nil ti111 .nil) ti112 (.node 113 .nil ti113 .nil)))) ti114 (.node 123 (.node 118 (.node 116 (.node 115 .nil ti115 .nil) ti116 (.node 117 .nil ti117 .nil)) ti118 (.node 120 (.node 119 .nil ti119 .nil) ti120 (.node 122 .nil ti122 .nil))) ti123 (.node 128 (.node 126 (.node 124 .nil ti124 .nil) ti126 (.node 127 .nil ti127 .nil)) ti128 (.node 130 (.node 129 .nil ti129 .nil) ti130 .nil)))))) ti131 (.node 199 (.node 164 (.node 149 (.node 139 (.node 135 (.node 133 (.node 132 .nil ti132 .nil) ti133 (.node 134 .nil ti134 .nil)) ti135 (.node 137 (.node 136 .nil ti136 .nil) ti137 (.node 138 .nil ti138 .nil))) ti139 (.node 145 (.node 141 (.node 140 .nil ti140 .nil) ti141 (.node 143 .nil ti143 .nil)) ti145 (.node 147 (.node 146 .nil ti146 .nil) ti147 (.node 148 .nil ti148 .nil)))) ti149 (.node 157 (.node 153 (.node 151 (.node 150 .nil ti150 .nil) ti151 (.node 152 .nil ti152 .nil)) ti153 (.node 155 (.node 154 .nil ti154 .nil) ti155 (.node 156 .nil ti156 .nil))) ti157 (.node 161 (.node 159 (.node 158 .nil ti158 .nil) ti159 (.node 160 .nil ti160 .nil)) ti161 (.node 163 (.node 162 .nil ti162 .nil) ti163 .nil)))) ti164 (.node 181 (.node 172 (.node 168 (.node 166 (.node 165 .nil ti165 .nil) ti166 (.node 167 .nil ti167 .nil)) ti168 (.node 170 (.node 169 .nil ti169 .nil) ti170 (.node 171 .nil ti171 .nil))) ti172 (.node 176 (.node 174 (.node 173 .nil ti173 .nil) ti174 (.node 175 .nil ti175 .nil)) ti176 (.node 178 (.node 177 .nil ti177 .nil) ti178 (.node 180 .nil ti180 .nil)))) ti181 (.node 192 (.node 187 (.node 184 (.node 183 .nil ti183 .nil) ti184 (.node 186 .nil ti186 .nil)) ti187 (.node 190 (.node 189 .nil ti189 .nil) ti190 (.node 191 .nil ti191 .nil))) ti192 (.node 196 (.node 194 (.node 193 .nil ti193 .nil) ti194 (.node 195 .nil ti195 .nil)) ti196 (.node 198 (.node 197 .nil ti197 .nil) ti198 .nil))))) ti199 (.node 233 (.node 216 (.node 208 (.node 203 (.node 201 (.node 200 .nil ti200 .nil) ti201 (.node 202 .nil ti202 .nil)) ti203 (.node 206 (.node 205 .nil ti205 .nil) ti206 (.node 207 .nil ti207 .nil))) ti208 (.node 212 (.node 210 (.node 209 .nil ti209 .nil) ti210 (.node 211 .nil ti211 .nil)) ti212 (.node 214 (.node 213 .nil ti213 .nil) ti214 (.node 215 .nil ti215 .nil)))) ti216 (.node 226 (.node 220 (.node 218 (.node 217 .nil ti217 .nil) ti218 (.node 219 .nil ti219 .nil)) ti220 (.node 223 (.node 221 .nil ti221 .nil) ti223 (.node 224 .nil ti224 .nil))) ti226 (.node 230 (.node 228 (.node 227 .nil ti227 .nil) ti228 (.node 229 .nil ti229 .nil)) ti230 (.node 232 (.node 231 .nil ti231 .nil) ti232 .nil)))) ti233 (.node 251 (.node 242 (.node 238 (.node 236 (.node 234 .nil ti234 .nil) ti236 (.node 237 .nil ti237 .nil)) ti238 (.node 240 (.node 239 .nil ti239 .nil) ti240 (.node 241 .nil ti241 .nil))) ti242 (.node 246 (.node 244 (.node 243 .nil ti243 .nil) ti244 (.node 245 .nil ti245 .nil)) ti246 (.node 248 (.node 247 .nil ti247 .nil) ti248 (.node 249 .nil ti249 .nil)))) ti251 (.node 262 (.node 258 (.node 253 (.node 252 .nil ti252 .nil) ti253 (.node 254 .nil ti254 .nil)) ti258 (.node 260 (.node 259 .nil ti259 .nil) ti260 (.node 261 .nil ti261 .nil))) ti262 (.node 266 (.node 264 (.node 263 .nil ti263 .nil) ti264 (.node 265 .nil ti265 .nil)) ti266 (.node 268 (.node 267 .nil ti267 .nil) ti268 .nil)))))))
theorem zj4 : infoTree.all Tryz.prog := ⟨zu4, ⟨yae, ⟨ya9, ⟨ybo, ⟨yc3, ⟨yc7, ⟨yc9, ⟨yda, trivial, trivial⟩, ⟨yc8, trivial, trivial⟩⟩, ⟨yc5, ⟨yc6, trivial, trivial⟩, ⟨yc4, trivial, trivial⟩⟩⟩, ⟨ybs, ⟨ybu, ⟨yc2, trivial, trivial⟩, ⟨ybt, trivial, trivial⟩⟩, ⟨ybq, ⟨ybr, trivial, trivial⟩, ⟨ybp, trivial, trivial⟩⟩⟩⟩, ⟨ybg, ⟨ybk, ⟨ybm, ⟨ybn, trivial, trivial⟩, ⟨ybl, trivial, trivial⟩⟩, ⟨ybi, ⟨ybj, trivial, trivial⟩, ⟨ybh, trivial, trivial⟩⟩⟩, ⟨ybc, ⟨ybe, ⟨ybf, trivial, trivial⟩, ⟨ybd, trivial, trivial⟩⟩, ⟨yba, ⟨ybb, trivial, trivial⟩, trivial⟩⟩⟩⟩, ⟨yat, ⟨ya1, ⟨ya5, ⟨ya7, ⟨ya8, trivial, trivial⟩, ⟨ya6, trivial, trivial⟩⟩, ⟨ya3, ⟨ya4, trivial, trivial⟩, ⟨ya2, trivial, trivial⟩⟩⟩, ⟨yax, ⟨yaz, ⟨ya0, trivial, trivial⟩, ⟨yay, trivial, trivial⟩⟩, ⟨yav, ⟨yaw, trivial, trivial⟩, ⟨yau, trivial, trivial⟩⟩⟩⟩, ⟨yal, ⟨yap, ⟨yar, ⟨yas, trivial, trivial⟩, ⟨yaq, trivial, trivial⟩⟩, ⟨yan, ⟨yao, trivial, trivial⟩, ⟨yam, trivial, trivial⟩⟩⟩, ⟨yah, ⟨yaj, ⟨yak, trivial, trivial⟩, ⟨yai, trivial, trivial⟩⟩, ⟨yaf, ⟨yag, trivial, trivial⟩, trivial⟩⟩⟩⟩⟩, ⟨zzj, ⟨zzy, ⟨zz6, ⟨yaa, ⟨yac, ⟨yad, trivial, trivial⟩, ⟨yab, trivial, trivial⟩⟩, ⟨zz8, ⟨zz9, trivial, trivial⟩, ⟨zz7, trivial, trivial⟩⟩⟩, ⟨zz2, ⟨zz4, ⟨zz5, trivial, trivial⟩, ⟨zz3, trivial, trivial⟩⟩, ⟨zz0, ⟨zz1, trivial, trivial⟩, ⟨zzz, trivial, trivial⟩⟩⟩⟩, ⟨zzq, ⟨zzu, ⟨zzw, ⟨zzx, trivial, trivial⟩, ⟨zzv, trivial, trivial⟩⟩, ⟨zzs, ⟨zzt, trivial, trivial⟩, ⟨zzr, trivial, trivial⟩⟩⟩, ⟨zzm, ⟨zzo, ⟨zzp, trivial, trivial⟩, ⟨zzn, trivial, trivial⟩⟩, ⟨zzk, ⟨zzl, trivial, trivial⟩, trivial⟩⟩⟩⟩, ⟨zvj, ⟨zvr, ⟨zvv, ⟨zvx, ⟨zzi, trivial, trivial⟩, ⟨zvw, trivial, trivial⟩⟩, ⟨zvt, ⟨zvu, trivial, trivial⟩, ⟨zvs, trivial, trivial⟩⟩⟩, ⟨zvn, ⟨zvp, ⟨zvq, trivial, trivial⟩, ⟨zvo, trivial, trivial⟩⟩, ⟨zvl, ⟨zvm, trivial, trivial⟩, ⟨zvk, trivial, trivial⟩⟩⟩⟩, ⟨zvb, ⟨zvf, ⟨zvh, ⟨zvi, trivial, trivial⟩, ⟨zvg, trivial, trivial⟩⟩, ⟨zvd, ⟨zve, trivial, trivial⟩, ⟨zvc, trivial, trivial⟩⟩⟩, ⟨zu7, ⟨zu9, ⟨zva, trivial, trivial⟩, ⟨zu8, trivial, trivial⟩⟩, ⟨zu5, ⟨zu6, trivial, trivial⟩, trivial⟩⟩⟩⟩⟩⟩, ⟨zte, ⟨zt9, ⟨zuo, ⟨zuw, ⟨zu0, ⟨zu2, ⟨zu3, trivial, trivial⟩, ⟨zu1, trivial, trivial⟩⟩, ⟨zuy, ⟨zuz, trivial, trivial⟩, ⟨zux, trivial, trivial⟩⟩⟩, ⟨zus, ⟨zuu, ⟨zuv, trivial, trivial⟩, ⟨zut, trivial, trivial⟩⟩, ⟨zuq, ⟨zur, trivial, trivial⟩, ⟨zup, trivial, trivial⟩⟩⟩⟩, ⟨zug, ⟨zuk, ⟨zum, ⟨zun, trivial, trivial⟩, ⟨zul, trivial, trivial⟩⟩, ⟨zui, ⟨zuj, trivial, trivial⟩, ⟨zuh, trivial, trivial⟩⟩⟩, ⟨zuc, ⟨zue, ⟨zuf, trivial, trivial⟩, ⟨zud, trivial, trivial⟩⟩, ⟨zua, ⟨zub, trivial, trivial⟩, trivial⟩⟩⟩⟩, ⟨ztt, ⟨zt1, ⟨zt5, ⟨zt7, ⟨zt8, trivial, trivial⟩, ⟨zt6, trivial, trivial⟩⟩, ⟨zt3, ⟨zt4, trivial, trivial⟩, ⟨zt2, trivial, trivial⟩⟩⟩, ⟨ztx, ⟨ztz, ⟨zt0, trivial, trivial⟩, ⟨zty, trivial, trivial⟩⟩, ⟨ztv, ⟨ztw, trivial, trivial⟩, ⟨ztu, trivial, trivial⟩⟩⟩⟩, ⟨ztl, ⟨ztp, ⟨ztr, ⟨zts, trivial, trivial⟩, ⟨ztq, trivial, trivial⟩⟩, ⟨ztn, ⟨zto, trivial, trivial⟩, ⟨ztm, trivial, trivial⟩⟩⟩, ⟨zth, ⟨ztj, ⟨ztk, trivial, trivial⟩, ⟨zti, trivial, trivial⟩⟩, ⟨ztf, ⟨ztg, trivial, trivial⟩, trivial⟩⟩⟩⟩⟩, ⟨zsi, ⟨zsx, ⟨zs6, ⟨zta, ⟨ztc, ⟨ztd, trivial, trivial⟩, ⟨ztb, trivial, trivial⟩⟩, ⟨zs8, ⟨zs9, trivial, trivial⟩, ⟨zs7, trivial, trivial⟩⟩⟩, ⟨zs2, ⟨zs4, ⟨zs5, trivial, trivial⟩, ⟨zs3, trivial, trivial⟩⟩, ⟨zs0, ⟨zs1, trivial, trivial⟩, ⟨zsy, trivial, trivial⟩⟩⟩⟩, ⟨zsp, ⟨zst, ⟨zsv, ⟨zsw, trivial, trivial⟩, ⟨zsu, trivial, trivial⟩⟩, ⟨zsr, ⟨zss, trivial, trivial⟩, ⟨zsq, trivial, trivial⟩⟩⟩, ⟨zsl, ⟨zsn, ⟨zso, trivial, trivial⟩, ⟨zsm, trivial, trivial⟩⟩, ⟨zsj, ⟨zsk, trivial, trivial⟩, trivial⟩⟩⟩⟩, ⟨zr2, ⟨zsa, ⟨zse, ⟨zsg, ⟨zsh, trivial, trivial⟩, ⟨zsf, trivial, trivial⟩⟩, ⟨zsc, ⟨zsd, trivial, trivial⟩, ⟨zsb, trivial, trivial⟩⟩⟩, ⟨zr6, ⟨zr8, ⟨zr9, trivial, trivial⟩, ⟨zr7, trivial, trivial⟩⟩, ⟨zr4, ⟨zr5, trivial, trivial⟩, ⟨zr3, trivial, trivial⟩⟩⟩⟩, ⟨zru, ⟨zry, ⟨zr0, ⟨zr1, trivial, trivial⟩, ⟨zrz, trivial, trivial⟩⟩, ⟨zrw, ⟨zrx, trivial, trivial⟩, ⟨zrv, trivial, trivial⟩⟩⟩, ⟨zrq, ⟨zrs, ⟨zrt, trivial, trivial⟩, ⟨zrr, trivial, trivial⟩⟩, ⟨zro, ⟨zrp, trivial, trivial⟩, trivial⟩⟩⟩⟩⟩⟩⟩
end Go.Proofs
