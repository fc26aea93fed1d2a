/- The ground on which laws of thronglaw24 are proved: contracts of functions and plain lemmas; no condition beyond the row's own. -/
import Derived.KernelRfl
import Derived.Test.YtbemejeejgpkaaaGreatProg
import Derived.Test.YtbemejeejgpkaaaGreatVB
set_option linter.unusedSimpArgs false
set_option linter.unusedVariables false
namespace Go.Proofs
open Go Go.V
noncomputable abbrev Tw (n : Nat) (t : V.TI) : Option V.TI := V.infoOf Tryz.prog n t.eq
def ti1 : V.TI := ⟨.func, 1, 8, [.nilFunc], false⟩
theorem yo6 : Tw 1 ti1 = some ti1 := by kernel_rfl
def ti2 : V.TI := ⟨.int .i64, 1, 8, [.int .i64 0], false⟩
theorem yo5 : Tw 2 ti2 = some ti2 := by kernel_rfl
def ti3 : V.TI := ⟨.int .i64, 1, 8, [.int .i64 0], false⟩
theorem yo4 : Tw 3 ti3 = some ti3 := by kernel_rfl
def ti4 : V.TI := ⟨.bool, 1, 1, [.bool false], false⟩
theorem yo3 : Tw 4 ti4 = some ti4 := by kernel_rfl
def ti5 : V.TI := ⟨.int .u8, 1, 1, [.int .u8 0], false⟩
theorem yo2 : Tw 5 ti5 = some ti5 := by kernel_rfl
def ti6 : V.TI := ⟨.int .u8, 1, 1, [.int .u8 0], false⟩
theorem yo1 : Tw 6 ti6 = some ti6 := by kernel_rfl
def ti7 : V.TI := ⟨.struct [(0, 2), (1, 3), (2, 4), (3, 6)], 4, 24, [.int .i64 0, .int .i64 0, .bool false, .int .u8 0], true⟩
theorem yo0 : Tw 7 ti7 = some ti7 := by kernel_rfl
def ti8 : V.TI := ⟨.struct [(0, 2), (1, 3), (2, 4), (3, 6)], 4, 24, [.int .i64 0, .int .i64 0, .bool false, .int .u8 0], true⟩
theorem yoz : Tw 8 ti8 = some ti8 := by kernel_rfl
def ti9 : V.TI := ⟨.str, 1, 16, [.string ⟨#[]⟩], false⟩
theorem yoy : Tw 9 ti9 = some ti9 := by kernel_rfl
def ti10 : V.TI := ⟨.str, 1, 16, [.string ⟨#[]⟩], false⟩
theorem ymo : Tw 10 ti10 = some ti10 := by kernel_rfl
def ti11 : V.TI := ⟨.str, 1, 16, [.string ⟨#[]⟩], false⟩
theorem ymn : Tw 11 ti11 = some ti11 := by kernel_rfl
def ti12 : V.TI := ⟨.int .u64, 1, 8, [.int .u64 0], false⟩
theorem ymm : Tw 12 ti12 = some ti12 := by kernel_rfl
def ti13 : V.TI := ⟨.struct [(0, 9), (1, 12)], 2, 24, [.string ⟨#[]⟩, .int .u64 0], false⟩
theorem yml : Tw 13 ti13 = some ti13 := by kernel_rfl
def ti14 : V.TI := ⟨.struct [(0, 9), (1, 12)], 2, 24, [.string ⟨#[]⟩, .int .u64 0], false⟩
theorem ymk : Tw 14 ti14 = some ti14 := by kernel_rfl
def ti15 : V.TI := ⟨.ptr 276, 1, 8, [.pointer none], false⟩
theorem ymj : Tw 15 ti15 = some ti15 := by kernel_rfl
def ti16 : V.TI := ⟨.ptr 279, 1, 8, [.pointer none], false⟩
theorem ymi : Tw 16 ti16 = some ti16 := by kernel_rfl
def ti17 : V.TI := ⟨.ptr 288, 1, 8, [.pointer none], false⟩
theorem ymh : Tw 17 ti17 = some ti17 := by kernel_rfl
def ti18 : V.TI := ⟨.struct [(0, 17)], 1, 8, [.pointer none], false⟩
theorem ymg : Tw 18 ti18 = some ti18 := by kernel_rfl
def ti19 : V.TI := ⟨.struct [(0, 17)], 1, 8, [.pointer none], false⟩
theorem ymf : Tw 19 ti19 = some ti19 := by kernel_rfl
def ti20 : V.TI := ⟨.other, 1, 16, [.nilIface], false⟩
theorem yme : Tw 20 ti20 = some ti20 := by kernel_rfl
def ti21 : V.TI := ⟨.int .i32, 1, 4, [.int .i32 0], false⟩
theorem ymd : Tw 21 ti21 = some ti21 := by kernel_rfl
def ti22 : V.TI := ⟨.slice 5, 1, 24, [.slice none 0 0], false⟩
theorem ymc : Tw 22 ti22 = some ti22 := by kernel_rfl
def ti23 : V.TI := ⟨.struct [(0, 3), (1, 3), (2, 22)], 3, 40, [.int .i64 0, .int .i64 0, .slice none 0 0], true⟩
theorem ymb : Tw 23 ti23 = some ti23 := by kernel_rfl
def ti24 : V.TI := ⟨.struct [(0, 3), (1, 3), (2, 22)], 3, 40, [.int .i64 0, .int .i64 0, .slice none 0 0], true⟩
theorem yma : Tw 24 ti24 = some ti24 := by kernel_rfl
def ti25 : V.TI := ⟨.slice 145, 1, 24, [.slice none 0 0], false⟩
theorem yl9 : Tw 25 ti25 = some ti25 := by kernel_rfl
def ti26 : V.TI := ⟨.slice 51, 1, 24, [.slice none 0 0], false⟩
theorem yl8 : Tw 26 ti26 = some ti26 := by kernel_rfl
def ti27 : V.TI := ⟨.struct [(0, 3), (1, 3), (2, 3), (3, 24), (6, 25), (7, 26)], 8, 112, [.int .i64 0, .int .i64 0, .int .i64 0, .int .i64 0, .int .i64 0, .slice none 0 0, .slice none 0 0, .slice none 0 0], true⟩
theorem yl7 : Tw 27 ti27 = some ti27 := by kernel_rfl
def ti28 : V.TI := ⟨.struct [(0, 3), (1, 3), (2, 3), (3, 24), (6, 25), (7, 26)], 8, 112, [.int .i64 0, .int .i64 0, .int .i64 0, .int .i64 0, .int .i64 0, .slice none 0 0, .slice none 0 0, .slice none 0 0], true⟩
theorem yl6 : Tw 28 ti28 = some ti28 := by kernel_rfl
def ti29 : V.TI := ⟨.slice 3, 1, 24, [.slice none 0 0], false⟩
theorem yl5 : Tw 29 ti29 = some ti29 := by kernel_rfl
def ti30 : V.TI := ⟨.slice 49, 1, 24, [.slice none 0 0], false⟩
theorem yl4 : Tw 30 ti30 = some ti30 := by kernel_rfl
def ti31 : V.TI := ⟨.struct [(0, 28), (8, 29), (9, 30)], 10, 160, [.int .i64 0, .int .i64 0, .int .i64 0, .int .i64 0, .int .i64 0, .slice none 0 0, .slice none 0 0, .slice none 0 0, .slice none 0 0, .slice none 0 0], true⟩
theorem yl3 : Tw 31 ti31 = some ti31 := by kernel_rfl
def ti32 : V.TI := ⟨.struct [(0, 28), (8, 29), (9, 30)], 10, 160, [.int .i64 0, .int .i64 0, .int .i64 0, .int .i64 0, .int .i64 0, .slice none 0 0, .slice none 0 0, .slice none 0 0, .slice none 0 0, .slice none 0 0], true⟩
theorem yl2 : Tw 32 ti32 = some ti32 := by kernel_rfl
def ti33 : V.TI := ⟨.func, 1, 8, [.nilFunc], false⟩
theorem yl1 : Tw 33 ti33 = some ti33 := by kernel_rfl
def ti34 : V.TI := ⟨.func, 1, 8, [.nilFunc], false⟩
theorem yl0 : Tw 34 ti34 = some ti34 := by kernel_rfl
def ti35 : V.TI := ⟨.func, 1, 8, [.nilFunc], false⟩
theorem ylz : Tw 35 ti35 = some ti35 := by kernel_rfl
def ti36 : V.TI := ⟨.int .i64, 1, 8, [.int .i64 0], false⟩
theorem yly : Tw 36 ti36 = some ti36 := by kernel_rfl
def ti38 : V.TI := ⟨.func, 1, 8, [.nilFunc], false⟩
theorem ylx : Tw 38 ti38 = some ti38 := by kernel_rfl
def ti39 : V.TI := ⟨.func, 1, 8, [.nilFunc], false⟩
theorem ylw : Tw 39 ti39 = some ti39 := by kernel_rfl
def ti40 : V.TI := ⟨.func, 1, 8, [.nilFunc], false⟩
theorem ylv : Tw 40 ti40 = some ti40 := by kernel_rfl
def ti41 : V.TI := ⟨.func, 1, 8, [.nilFunc], false⟩
theorem ylu : Tw 41 ti41 = some ti41 := by kernel_rfl
def ti42 : V.TI := ⟨.ptr 45, 1, 8, [.pointer none], false⟩
theorem ylt : Tw 42 ti42 = some ti42 := by kernel_rfl
def ti43 : V.TI := ⟨.slice 29, 1, 24, [.slice none 0 0], false⟩
theorem yls : Tw 43 ti43 = some ti43 := by kernel_rfl
def ti44 : V.TI := ⟨.struct [(0, 29), (1, 29), (2, 29), (3, 43)], 4, 96, [.slice none 0 0, .slice none 0 0, .slice none 0 0, .slice none 0 0], true⟩
theorem ylr : Tw 44 ti44 = some ti44 := by kernel_rfl
def ti45 : V.TI := ⟨.struct [(0, 29), (1, 29), (2, 29), (3, 43)], 4, 96, [.slice none 0 0, .slice none 0 0, .slice none 0 0, .slice none 0 0], true⟩
theorem ylq : Tw 45 ti45 = some ti45 := by kernel_rfl
def ti46 : V.TI := ⟨.func, 1, 8, [.nilFunc], false⟩
theorem ylp : Tw 46 ti46 = some ti46 := by kernel_rfl
def ti47 : V.TI := ⟨.func, 1, 8, [.nilFunc], false⟩
theorem ylo : Tw 47 ti47 = some ti47 := by kernel_rfl
def ti48 : V.TI := ⟨.struct [(0, 2), (1, 2)], 2, 16, [.int .i64 0, .int .i64 0], true⟩
theorem yln : Tw 48 ti48 = some ti48 := by kernel_rfl
def ti49 : V.TI := ⟨.struct [(0, 2), (1, 2)], 2, 16, [.int .i64 0, .int .i64 0], true⟩
theorem ylm : Tw 49 ti49 = some ti49 := by kernel_rfl
def ti50 : V.TI := ⟨.struct [(0, 3), (1, 3), (2, 3), (3, 49), (5, 3), (6, 3), (7, 3), (8, 3), (9, 3)], 10, 80, [.int .i64 0, .int .i64 0, .int .i64 0, .int .i64 0, .int .i64 0, .int .i64 0, .int .i64 0, .int .i64 0, .int .i64 0, .int .i64 0], true⟩
theorem yll : Tw 50 ti50 = some ti50 := by kernel_rfl
def ti51 : V.TI := ⟨.struct [(0, 3), (1, 3), (2, 3), (3, 49), (5, 3), (6, 3), (7, 3), (8, 3), (9, 3)], 10, 80, [.int .i64 0, .int .i64 0, .int .i64 0, .int .i64 0, .int .i64 0, .int .i64 0, .int .i64 0, .int .i64 0, .int .i64 0, .int .i64 0], true⟩
theorem ylk : Tw 51 ti51 = some ti51 := by kernel_rfl
def ti52 : V.TI := ⟨.func, 1, 8, [.nilFunc], false⟩
theorem ylj : Tw 52 ti52 = some ti52 := by kernel_rfl
def ti53 : V.TI := ⟨.func, 1, 8, [.nilFunc], false⟩
theorem yli : Tw 53 ti53 = some ti53 := by kernel_rfl
def ti54 : V.TI := ⟨.struct [(0, 2), (1, 2), (2, 3), (3, 3), (4, 3)], 5, 40, [.int .i64 0, .int .i64 0, .int .i64 0, .int .i64 0, .int .i64 0], true⟩
theorem ylh : Tw 54 ti54 = some ti54 := by kernel_rfl
def ti55 : V.TI := ⟨.struct [(0, 2), (1, 2), (2, 3), (3, 3), (4, 3)], 5, 40, [.int .i64 0, .int .i64 0, .int .i64 0, .int .i64 0, .int .i64 0], true⟩
theorem ylg : Tw 55 ti55 = some ti55 := by kernel_rfl
def ti56 : V.TI := ⟨.func, 1, 8, [.nilFunc], false⟩
theorem ylf : Tw 56 ti56 = some ti56 := by kernel_rfl
def ti57 : V.TI := ⟨.func, 1, 8, [.nilFunc], false⟩
theorem yle : Tw 57 ti57 = some ti57 := by kernel_rfl
def ti58 : V.TI := ⟨.func, 1, 8, [.nilFunc], false⟩
theorem yld : Tw 58 ti58 = some ti58 := by kernel_rfl
def ti59 : V.TI := ⟨.func, 1, 8, [.nilFunc], false⟩
theorem ylc : Tw 59 ti59 = some ti59 := by kernel_rfl
def ti60 : V.TI := ⟨.slice 4, 1, 24, [.slice none 0 0], false⟩
theorem ylb : Tw 60 ti60 = some ti60 := by kernel_rfl
def ti61 : V.TI := ⟨.func, 1, 8, [.nilFunc], false⟩
theorem yla : Tw 61 ti61 = some ti61 := by kernel_rfl
def ti62 : V.TI := ⟨.func, 1, 8, [.nilFunc], false⟩
theorem yk9 : Tw 62 ti62 = some ti62 := by kernel_rfl
def ti64 : V.TI := ⟨.func, 1, 8, [.nilFunc], false⟩
theorem yk8 : Tw 64 ti64 = some ti64 := by kernel_rfl
def ti66 : V.TI := ⟨.func, 1, 8, [.nilFunc], false⟩
theorem yk7 : Tw 66 ti66 = some ti66 := by kernel_rfl
def ti67 : V.TI := ⟨.func, 1, 8, [.nilFunc], false⟩
theorem yk6 : Tw 67 ti67 = some ti67 := by kernel_rfl
def ti68 : V.TI := ⟨.func, 1, 8, [.nilFunc], false⟩
theorem yk5 : Tw 68 ti68 = some ti68 := by kernel_rfl
def ti69 : V.TI := ⟨.ptr 135, 1, 8, [.pointer none], false⟩
theorem yk4 : Tw 69 ti69 = some ti69 := by kernel_rfl
def ti71 : V.TI := ⟨.func, 1, 8, [.nilFunc], false⟩
theorem yk3 : Tw 71 ti71 = some ti71 := by kernel_rfl
def ti72 : V.TI := ⟨.func, 1, 8, [.nilFunc], false⟩
theorem yk2 : Tw 72 ti72 = some ti72 := by kernel_rfl
def ti73 : V.TI := ⟨.slice 79, 1, 24, [.slice none 0 0], false⟩
theorem yk1 : Tw 73 ti73 = some ti73 := by kernel_rfl
def ti74 : V.TI := ⟨.struct [(0, 28), (8, 73)], 9, 136, [.int .i64 0, .int .i64 0, .int .i64 0, .int .i64 0, .int .i64 0, .slice none 0 0, .slice none 0 0, .slice none 0 0, .slice none 0 0], true⟩
theorem yk0 : Tw 74 ti74 = some ti74 := by kernel_rfl
def ti75 : V.TI := ⟨.struct [(0, 28), (8, 73)], 9, 136, [.int .i64 0, .int .i64 0, .int .i64 0, .int .i64 0, .int .i64 0, .slice none 0 0, .slice none 0 0, .slice none 0 0, .slice none 0 0], true⟩
theorem ykz : Tw 75 ti75 = some ti75 := by kernel_rfl
def ti76 : V.TI := ⟨.func, 1, 8, [.nilFunc], false⟩
theorem yky : Tw 76 ti76 = some ti76 := by kernel_rfl
def ti77 : V.TI := ⟨.func, 1, 8, [.nilFunc], false⟩
theorem ykx : Tw 77 ti77 = some ti77 := by kernel_rfl
def ti78 : V.TI := ⟨.struct [(0, 3), (1, 3), (2, 3), (3, 3), (4, 29), (5, 3), (6, 3), (7, 3), (8, 49)], 10, 96, [.int .i64 0, .int .i64 0, .int .i64 0, .int .i64 0, .slice none 0 0, .int .i64 0, .int .i64 0, .int .i64 0, .int .i64 0, .int .i64 0], true⟩
theorem ykw : Tw 78 ti78 = some ti78 := by kernel_rfl
def ti79 : V.TI := ⟨.struct [(0, 3), (1, 3), (2, 3), (3, 3), (4, 29), (5, 3), (6, 3), (7, 3), (8, 49)], 10, 96, [.int .i64 0, .int .i64 0, .int .i64 0, .int .i64 0, .slice none 0 0, .int .i64 0, .int .i64 0, .int .i64 0, .int .i64 0, .int .i64 0], true⟩
theorem ykv : Tw 79 ti79 = some ti79 := by kernel_rfl
def ti80 : V.TI := ⟨.func, 1, 8, [.nilFunc], false⟩
theorem yku : Tw 80 ti80 = some ti80 := by kernel_rfl
def ti81 : V.TI := ⟨.func, 1, 8, [.nilFunc], false⟩
theorem ykt : Tw 81 ti81 = some ti81 := by kernel_rfl
def ti82 : V.TI := ⟨.func, 1, 8, [.nilFunc], false⟩
theorem yks : Tw 82 ti82 = some ti82 := by kernel_rfl
def ti83 : V.TI := ⟨.ptr 91, 1, 8, [.pointer none], false⟩
theorem ykr : Tw 83 ti83 = some ti83 := by kernel_rfl
def ti85 : V.TI := ⟨.func, 1, 8, [.nilFunc], false⟩
theorem ykq : Tw 85 ti85 = some ti85 := by kernel_rfl
def ti86 : V.TI := ⟨.func, 1, 8, [.nilFunc], false⟩
theorem ykp : Tw 86 ti86 = some ti86 := by kernel_rfl
def ti87 : V.TI := ⟨.ptr 95, 1, 8, [.pointer none], false⟩
theorem yko : Tw 87 ti87 = some ti87 := by kernel_rfl
def ti88 : V.TI := ⟨.other, 1, 16, [.nilIface], false⟩
theorem ykn : Tw 88 ti88 = some ti88 := by kernel_rfl
def ti89 : V.TI := ⟨.other, 1, 16, [.nilIface], false⟩
theorem ykm : Tw 89 ti89 = some ti89 := by kernel_rfl
def ti90 : V.TI := ⟨.struct [(0, 87), (1, 89)], 2, 24, [.pointer none, .nilIface], false⟩
theorem ykl : Tw 90 ti90 = some ti90 := by kernel_rfl
def ti91 : V.TI := ⟨.struct [(0, 87), (1, 89)], 2, 24, [.pointer none, .nilIface], false⟩
theorem ykk : Tw 91 ti91 = some ti91 := by kernel_rfl
def ti92 : V.TI := ⟨.array 3 60, 3, 72, [.slice none 0 0, .slice none 0 0, .slice none 0 0], false⟩
theorem ykj : Tw 92 ti92 = some ti92 := by kernel_rfl
def ti93 : V.TI := ⟨.ptr 212, 1, 8, [.pointer none], false⟩
theorem yki : Tw 93 ti93 = some ti93 := by kernel_rfl
def ti94 : V.TI := ⟨.struct [(0, 28), (8, 92), (11, 93)], 12, 192, [.int .i64 0, .int .i64 0, .int .i64 0, .int .i64 0, .int .i64 0, .slice none 0 0, .slice none 0 0, .slice none 0 0, .slice none 0 0, .slice none 0 0, .slice none 0 0, .pointer none], true⟩
theorem ykh : Tw 94 ti94 = some ti94 := by kernel_rfl
def ti95 : V.TI := ⟨.struct [(0, 28), (8, 92), (11, 93)], 12, 192, [.int .i64 0, .int .i64 0, .int .i64 0, .int .i64 0, .int .i64 0, .slice none 0 0, .slice none 0 0, .slice none 0 0, .slice none 0 0, .slice none 0 0, .slice none 0 0, .pointer none], true⟩
theorem ykg : Tw 95 ti95 = some ti95 := by kernel_rfl
def ti96 : V.TI := ⟨.func, 1, 8, [.nilFunc], false⟩
theorem ykf : Tw 96 ti96 = some ti96 := by kernel_rfl
def ti97 : V.TI := ⟨.func, 1, 8, [.nilFunc], false⟩
theorem yke : Tw 97 ti97 = some ti97 := by kernel_rfl
def ti98 : V.TI := ⟨.func, 1, 8, [.nilFunc], false⟩
theorem ykd : Tw 98 ti98 = some ti98 := by kernel_rfl
def ti99 : V.TI := ⟨.ptr 51, 1, 8, [.pointer none], false⟩
theorem ykc : Tw 99 ti99 = some ti99 := by kernel_rfl
def ti100 : V.TI := ⟨.func, 1, 8, [.nilFunc], false⟩
theorem yfo : Tw 100 ti100 = some ti100 := by kernel_rfl
def ti101 : V.TI := ⟨.func, 1, 8, [.nilFunc], false⟩
theorem yfn : Tw 101 ti101 = some ti101 := by kernel_rfl
def ti102 : V.TI := ⟨.func, 1, 8, [.nilFunc], false⟩
theorem yfm : Tw 102 ti102 = some ti102 := by kernel_rfl
def ti103 : V.TI := ⟨.func, 1, 8, [.nilFunc], false⟩
theorem yfl : Tw 103 ti103 = some ti103 := by kernel_rfl
def ti104 : V.TI := ⟨.func, 1, 8, [.nilFunc], false⟩
theorem yfk : Tw 104 ti104 = some ti104 := by kernel_rfl
def ti105 : V.TI := ⟨.func, 1, 8, [.nilFunc], false⟩
theorem yfj : Tw 105 ti105 = some ti105 := by kernel_rfl
def ti106 : V.TI := ⟨.func, 1, 8, [.nilFunc], false⟩
theorem yfi : Tw 106 ti106 = some ti106 := by kernel_rfl
def ti107 : V.TI := ⟨.func, 1, 8, [.nilFunc], false⟩
theorem yfh : Tw 107 ti107 = some ti107 := by kernel_rfl
def ti108 : V.TI := ⟨.int .u64, 1, 8, [.int .u64 0], false⟩
theorem yfg : Tw 108 ti108 = some ti108 := by kernel_rfl
def ti109 : V.TI := ⟨.func, 1, 8, [.nilFunc], false⟩
theorem yff : Tw 109 ti109 = some ti109 := by kernel_rfl
def ti110 : V.TI := ⟨.struct [(0, 108), (1, 108)], 2, 16, [.int .u64 0, .int .u64 0], true⟩
theorem yfe : Tw 110 ti110 = some ti110 := by kernel_rfl
def ti111 : V.TI := ⟨.struct [(0, 108), (1, 108)], 2, 16, [.int .u64 0, .int .u64 0], true⟩
theorem yfd : Tw 111 ti111 = some ti111 := by kernel_rfl
def ti112 : V.TI := ⟨.func, 1, 8, [.nilFunc], false⟩
theorem yfc : Tw 112 ti112 = some ti112 := by kernel_rfl
def ti113 : V.TI := ⟨.func, 1, 8, [.nilFunc], false⟩
theorem yfb : Tw 113 ti113 = some ti113 := by kernel_rfl
def ti115 : V.TI := ⟨.func, 1, 8, [.nilFunc], false⟩
theorem yfa : Tw 115 ti115 = some ti115 := by kernel_rfl
def ti116 : V.TI := ⟨.int .u64, 1, 8, [.int .u64 0], false⟩
theorem ye9 : Tw 116 ti116 = some ti116 := by kernel_rfl
def ti117 : V.TI := ⟨.func, 1, 8, [.nilFunc], false⟩
theorem ye8 : Tw 117 ti117 = some ti117 := by kernel_rfl
def ti118 : V.TI := ⟨.func, 1, 8, [.nilFunc], false⟩
theorem ye7 : Tw 118 ti118 = some ti118 := by kernel_rfl
def ti119 : V.TI := ⟨.func, 1, 8, [.nilFunc], false⟩
theorem ye6 : Tw 119 ti119 = some ti119 := by kernel_rfl
def ti120 : V.TI := ⟨.func, 1, 8, [.nilFunc], false⟩
theorem ye5 : Tw 120 ti120 = some ti120 := by kernel_rfl
def ti121 : V.TI := ⟨.func, 1, 8, [.nilFunc], false⟩
theorem ye4 : Tw 121 ti121 = some ti121 := by kernel_rfl
def ti122 : V.TI := ⟨.func, 1, 8, [.nilFunc], false⟩
theorem ye3 : Tw 122 ti122 = some ti122 := by kernel_rfl
def ti123 : V.TI := ⟨.func, 1, 8, [.nilFunc], false⟩
theorem ye2 : Tw 123 ti123 = some ti123 := by kernel_rfl
def ti124 : V.TI := ⟨.ptr 168, 1, 8, [.pointer none], false⟩
theorem ye1 : Tw 124 ti124 = some ti124 := by kernel_rfl
def ti126 : V.TI := ⟨.func, 1, 8, [.nilFunc], false⟩
theorem ye0 : Tw 126 ti126 = some ti126 := by kernel_rfl
def ti127 : V.TI := ⟨.struct [], 0, 0, [], true⟩
theorem yez : Tw 127 ti127 = some ti127 := by kernel_rfl
def ti128 : V.TI := ⟨.struct [], 0, 0, [], true⟩
theorem yey : Tw 128 ti128 = some ti128 := by kernel_rfl
def ti129 : V.TI := ⟨.struct [], 0, 0, [], true⟩
theorem yex : Tw 129 ti129 = some ti129 := by kernel_rfl
def ti130 : V.TI := ⟨.struct [(0, 128), (0, 129), (0, 2)], 1, 8, [.int .i64 0], false⟩
theorem yew : Tw 130 ti130 = some ti130 := by kernel_rfl
def ti131 : V.TI := ⟨.struct [(0, 128), (0, 129), (0, 2)], 1, 8, [.int .i64 0], false⟩
theorem yev : Tw 131 ti131 = some ti131 := by kernel_rfl
def ti132 : V.TI := ⟨.map 3 290, 1, 8, [.map none], false⟩
theorem yeu : Tw 132 ti132 = some ti132 := by kernel_rfl
def ti133 : V.TI := ⟨.map 3 305, 1, 8, [.map none], false⟩
theorem yer : Tw 133 ti133 = some ti133 := by kernel_rfl
def ti134 : V.TI := ⟨.struct [(0, 124), (1, 131), (2, 4), (3, 24), (6, 25), (7, 132), (8, 133), (9, 3)], 10, 112, [.pointer none, .int .i64 0, .bool false, .int .i64 0, .int .i64 0, .slice none 0 0, .slice none 0 0, .map none, .map none, .int .i64 0], true⟩
theorem yeq : Tw 134 ti134 = some ti134 := by kernel_rfl
def ti135 : V.TI := ⟨.struct [(0, 124), (1, 131), (2, 4), (3, 24), (6, 25), (7, 132), (8, 133), (9, 3)], 10, 112, [.pointer none, .int .i64 0, .bool false, .int .i64 0, .int .i64 0, .slice none 0 0, .slice none 0 0, .map none, .map none, .int .i64 0], true⟩
theorem yep : Tw 135 ti135 = some ti135 := by kernel_rfl
def ti136 : V.TI := ⟨.func, 1, 8, [.nilFunc], false⟩
theorem yeo : Tw 136 ti136 = some ti136 := by kernel_rfl
def ti137 : V.TI := ⟨.func, 1, 8, [.nilFunc], false⟩
theorem yen : Tw 137 ti137 = some ti137 := by kernel_rfl
def ti138 : V.TI := ⟨.func, 1, 8, [.nilFunc], false⟩
theorem yem : Tw 138 ti138 = some ti138 := by kernel_rfl
def ti139 : V.TI := ⟨.func, 1, 8, [.nilFunc], false⟩
theorem yel : Tw 139 ti139 = some ti139 := by kernel_rfl
def ti140 : V.TI := ⟨.ptr 28, 1, 8, [.pointer none], false⟩
theorem yek : Tw 140 ti140 = some ti140 := by kernel_rfl
def ti141 : V.TI := ⟨.func, 1, 8, [.nilFunc], false⟩
theorem yej : Tw 141 ti141 = some ti141 := by kernel_rfl
def ti142 : V.TI := ⟨.func, 1, 8, [.nilFunc], false⟩
theorem yei : Tw 142 ti142 = some ti142 := by kernel_rfl
def ti143 : V.TI := ⟨.func, 1, 8, [.nilFunc], false⟩
theorem yeh : Tw 143 ti143 = some ti143 := by kernel_rfl
def ti144 : V.TI := ⟨.struct [(0, 3), (1, 3), (2, 3), (3, 3), (4, 3), (5, 3)], 6, 48, [.int .i64 0, .int .i64 0, .int .i64 0, .int .i64 0, .int .i64 0, .int .i64 0], true⟩
theorem yeg : Tw 144 ti144 = some ti144 := by kernel_rfl
def ti145 : V.TI := ⟨.struct [(0, 3), (1, 3), (2, 3), (3, 3), (4, 3), (5, 3)], 6, 48, [.int .i64 0, .int .i64 0, .int .i64 0, .int .i64 0, .int .i64 0, .int .i64 0], true⟩
theorem yef : Tw 145 ti145 = some ti145 := by kernel_rfl
def ti146 : V.TI := ⟨.func, 1, 8, [.nilFunc], false⟩
theorem yee : Tw 146 ti146 = some ti146 := by kernel_rfl
def ti147 : V.TI := ⟨.struct [], 0, 0, [], true⟩
theorem yed : Tw 147 ti147 = some ti147 := by kernel_rfl
def ti149 : V.TI := ⟨.func, 1, 8, [.nilFunc], false⟩
theorem yec : Tw 149 ti149 = some ti149 := by kernel_rfl
def ti150 : V.TI := ⟨.func, 1, 8, [.nilFunc], false⟩
theorem yeb : Tw 150 ti150 = some ti150 := by kernel_rfl
def ti151 : V.TI := ⟨.func, 1, 8, [.nilFunc], false⟩
theorem yea : Tw 151 ti151 = some ti151 := by kernel_rfl
def ti152 : V.TI := ⟨.func, 1, 8, [.nilFunc], false⟩
theorem yd9 : Tw 152 ti152 = some ti152 := by kernel_rfl
def ti153 : V.TI := ⟨.array 8 3, 8, 64, [.int .i64 0, .int .i64 0, .int .i64 0, .int .i64 0, .int .i64 0, .int .i64 0, .int .i64 0, .int .i64 0], false⟩
theorem yd8 : Tw 153 ti153 = some ti153 := by kernel_rfl
def ti154 : V.TI := ⟨.func, 1, 8, [.nilFunc], false⟩
theorem yd7 : Tw 154 ti154 = some ti154 := by kernel_rfl
def ti155 : V.TI := ⟨.func, 1, 8, [.nilFunc], false⟩
theorem yd6 : Tw 155 ti155 = some ti155 := by kernel_rfl
def ti156 : V.TI := ⟨.func, 1, 8, [.nilFunc], false⟩
theorem yd5 : Tw 156 ti156 = some ti156 := by kernel_rfl
def ti157 : V.TI := ⟨.func, 1, 8, [.nilFunc], false⟩
theorem yd4 : Tw 157 ti157 = some ti157 := by kernel_rfl
def ti158 : V.TI := ⟨.func, 1, 8, [.nilFunc], false⟩
theorem yd3 : Tw 158 ti158 = some ti158 := by kernel_rfl
def ti159 : V.TI := ⟨.func, 1, 8, [.nilFunc], false⟩
theorem yd2 : Tw 159 ti159 = some ti159 := by kernel_rfl
def ti160 : V.TI := ⟨.func, 1, 8, [.nilFunc], false⟩
theorem yd1 : Tw 160 ti160 = some ti160 := by kernel_rfl
def ti161 : V.TI := ⟨.func, 1, 8, [.nilFunc], false⟩
theorem yd0 : Tw 161 ti161 = some ti161 := by kernel_rfl
def ti162 : V.TI := ⟨.func, 1, 8, [.nilFunc], false⟩
theorem ydz : Tw 162 ti162 = some ti162 := by kernel_rfl
def ti163 : V.TI := ⟨.func, 1, 8, [.nilFunc], false⟩
theorem ydy : Tw 163 ti163 = some ti163 := by kernel_rfl
def ti164 : V.TI := ⟨.func, 1, 8, [.nilFunc], false⟩
theorem ydx : Tw 164 ti164 = some ti164 := by kernel_rfl
def ti165 : V.TI := ⟨.func, 1, 8, [.nilFunc], false⟩
theorem ydw : Tw 165 ti165 = some ti165 := by kernel_rfl
def ti166 : V.TI := ⟨.map 3 3, 1, 8, [.map none], false⟩
theorem ydv : Tw 166 ti166 = some ti166 := by kernel_rfl
def ti167 : V.TI := ⟨.struct [(0, 3), (1, 166), (2, 29), (3, 131), (4, 131)], 5, 56, [.int .i64 0, .map none, .slice none 0 0, .int .i64 0, .int .i64 0], true⟩
theorem ydu : Tw 167 ti167 = some ti167 := by kernel_rfl
def ti168 : V.TI := ⟨.struct [(0, 3), (1, 166), (2, 29), (3, 131), (4, 131)], 5, 56, [.int .i64 0, .map none, .slice none 0 0, .int .i64 0, .int .i64 0], true⟩
theorem ydt : Tw 168 ti168 = some ti168 := by kernel_rfl
def ti169 : V.TI := ⟨.map 3 4, 1, 8, [.map none], false⟩
theorem yds : Tw 169 ti169 = some ti169 := by kernel_rfl
def ti170 : V.TI := ⟨.func, 1, 8, [.nilFunc], false⟩
theorem ydr : Tw 170 ti170 = some ti170 := by kernel_rfl
def ti171 : V.TI := ⟨.func, 1, 8, [.nilFunc], false⟩
theorem ydq : Tw 171 ti171 = some ti171 := by kernel_rfl
def ti172 : V.TI := ⟨.func, 1, 8, [.nilFunc], false⟩
theorem ydp : Tw 172 ti172 = some ti172 := by kernel_rfl
def ti173 : V.TI := ⟨.func, 1, 8, [.nilFunc], false⟩
theorem ydo : Tw 173 ti173 = some ti173 := by kernel_rfl
def ti174 : V.TI := ⟨.func, 1, 8, [.nilFunc], false⟩
theorem ydn : Tw 174 ti174 = some ti174 := by kernel_rfl
def ti175 : V.TI := ⟨.func, 1, 8, [.nilFunc], false⟩
theorem ydm : Tw 175 ti175 = some ti175 := by kernel_rfl
def ti176 : V.TI := ⟨.func, 1, 8, [.nilFunc], false⟩
theorem ydl : Tw 176 ti176 = some ti176 := by kernel_rfl
def ti178 : V.TI := ⟨.func, 1, 8, [.nilFunc], false⟩
theorem ydk : Tw 178 ti178 = some ti178 := by kernel_rfl
def ti179 : V.TI := ⟨.func, 1, 8, [.nilFunc], false⟩
theorem ydj : Tw 179 ti179 = some ti179 := by kernel_rfl
def ti180 : V.TI := ⟨.func, 1, 8, [.nilFunc], false⟩
theorem ydi : Tw 180 ti180 = some ti180 := by kernel_rfl
def ti182 : V.TI := ⟨.func, 1, 8, [.nilFunc], false⟩
theorem ydh : Tw 182 ti182 = some ti182 := by kernel_rfl
def ti183 : V.TI := ⟨.func, 1, 8, [.nilFunc], false⟩
theorem ydg : Tw 183 ti183 = some ti183 := by kernel_rfl
def ti184 : V.TI := ⟨.func, 1, 8, [.nilFunc], false⟩
theorem ydf : Tw 184 ti184 = some ti184 := by kernel_rfl
def ti185 : V.TI := ⟨.func, 1, 8, [.nilFunc], false⟩
theorem yde : Tw 185 ti185 = some ti185 := by kernel_rfl
def ti186 : V.TI := ⟨.func, 1, 8, [.nilFunc], false⟩
theorem ydd : Tw 186 ti186 = some ti186 := by kernel_rfl
def ti187 : V.TI := ⟨.func, 1, 8, [.nilFunc], false⟩
theorem ydc : Tw 187 ti187 = some ti187 := by kernel_rfl
def ti188 : V.TI := ⟨.func, 1, 8, [.nilFunc], false⟩
theorem ydb : Tw 188 ti188 = some ti188 := by kernel_rfl
def ti189 : V.TI := ⟨.func, 1, 8, [.nilFunc], false⟩
theorem yda : Tw 189 ti189 = some ti189 := by kernel_rfl
def ti190 : V.TI := ⟨.func, 1, 8, [.nilFunc], false⟩
theorem yc9 : Tw 190 ti190 = some ti190 := by kernel_rfl
def ti191 : V.TI := ⟨.func, 1, 8, [.nilFunc], false⟩
theorem yc8 : Tw 191 ti191 = some ti191 := by kernel_rfl
def ti193 : V.TI := ⟨.func, 1, 8, [.nilFunc], false⟩
theorem yc7 : Tw 193 ti193 = some ti193 := by kernel_rfl
def ti194 : V.TI := ⟨.func, 1, 8, [.nilFunc], false⟩
theorem yc6 : Tw 194 ti194 = some ti194 := by kernel_rfl
def ti195 : V.TI := ⟨.func, 1, 8, [.nilFunc], false⟩
theorem yc5 : Tw 195 ti195 = some ti195 := by kernel_rfl
def ti196 : V.TI := ⟨.func, 1, 8, [.nilFunc], false⟩
theorem yc4 : Tw 196 ti196 = some ti196 := by kernel_rfl
def ti197 : V.TI := ⟨.func, 1, 8, [.nilFunc], false⟩
theorem yc3 : Tw 197 ti197 = some ti197 := by kernel_rfl
def ti198 : V.TI := ⟨.func, 1, 8, [.nilFunc], false⟩
theorem yc2 : Tw 198 ti198 = some ti198 := by kernel_rfl
def ti199 : V.TI := ⟨.func, 1, 8, [.nilFunc], false⟩
theorem yc1 : Tw 199 ti199 = some ti199 := by kernel_rfl
def ti200 : V.TI := ⟨.func, 1, 8, [.nilFunc], false⟩
theorem yc0 : Tw 200 ti200 = some ti200 := by kernel_rfl
def ti201 : V.TI := ⟨.func, 1, 8, [.nilFunc], false⟩
theorem ycz : Tw 201 ti201 = some ti201 := by kernel_rfl
def ti202 : V.TI := ⟨.func, 1, 8, [.nilFunc], false⟩
theorem ycy : Tw 202 ti202 = some ti202 := by kernel_rfl
def ti203 : V.TI := ⟨.func, 1, 8, [.nilFunc], false⟩
theorem ycx : Tw 203 ti203 = some ti203 := by kernel_rfl
def ti204 : V.TI := ⟨.func, 1, 8, [.nilFunc], false⟩
theorem ycw : Tw 204 ti204 = some ti204 := by kernel_rfl
def ti205 : V.TI := ⟨.func, 1, 8, [.nilFunc], false⟩
theorem ycv : Tw 205 ti205 = some ti205 := by kernel_rfl
def ti206 : V.TI := ⟨.func, 1, 8, [.nilFunc], false⟩
theorem ycu : Tw 206 ti206 = some ti206 := by kernel_rfl
def ti207 : V.TI := ⟨.func, 1, 8, [.nilFunc], false⟩
theorem yct : Tw 207 ti207 = some ti207 := by kernel_rfl
def ti208 : V.TI := ⟨.func, 1, 8, [.nilFunc], false⟩
theorem ycs : Tw 208 ti208 = some ti208 := by kernel_rfl
def ti209 : V.TI := ⟨.map 3 49, 1, 8, [.map none], false⟩
theorem ycr : Tw 209 ti209 = some ti209 := by kernel_rfl
def ti210 : V.TI := ⟨.map 214 29, 1, 8, [.map none], false⟩
theorem ycq : Tw 210 ti210 = some ti210 := by kernel_rfl
def ti211 : V.TI := ⟨.struct [(0, 209), (1, 210)], 2, 16, [.map none, .map none], true⟩
theorem ycp : Tw 211 ti211 = some ti211 := by kernel_rfl
def ti212 : V.TI := ⟨.struct [(0, 209), (1, 210)], 2, 16, [.map none, .map none], true⟩
theorem yco : Tw 212 ti212 = some ti212 := by kernel_rfl
def ti213 : V.TI := ⟨.struct [(0, 2), (1, 2)], 2, 16, [.int .i64 0, .int .i64 0], true⟩
theorem ycn : Tw 213 ti213 = some ti213 := by kernel_rfl
def ti214 : V.TI := ⟨.struct [(0, 2), (1, 2)], 2, 16, [.int .i64 0, .int .i64 0], true⟩
theorem ycm : Tw 214 ti214 = some ti214 := by kernel_rfl
def ti215 : V.TI := ⟨.func, 1, 8, [.nilFunc], false⟩
theorem ycl : Tw 215 ti215 = some ti215 := by kernel_rfl
def ti216 : V.TI := ⟨.func, 1, 8, [.nilFunc], false⟩
theorem yck : Tw 216 ti216 = some ti216 := by kernel_rfl
def ti217 : V.TI := ⟨.func, 1, 8, [.nilFunc], false⟩
theorem ycj : Tw 217 ti217 = some ti217 := by kernel_rfl
def ti218 : V.TI := ⟨.func, 1, 8, [.nilFunc], false⟩
theorem yci : Tw 218 ti218 = some ti218 := by kernel_rfl
def ti219 : V.TI := ⟨.struct [(0, 24), (3, 3), (4, 60)], 5, 72, [.int .i64 0, .int .i64 0, .slice none 0 0, .int .i64 0, .slice none 0 0], true⟩
theorem ych : Tw 219 ti219 = some ti219 := by kernel_rfl
def ti220 : V.TI := ⟨.struct [(0, 24), (3, 3), (4, 60)], 5, 72, [.int .i64 0, .int .i64 0, .slice none 0 0, .int .i64 0, .slice none 0 0], true⟩
theorem ycg : Tw 220 ti220 = some ti220 := by kernel_rfl
def ti221 : V.TI := ⟨.ptr 220, 1, 8, [.pointer none], false⟩
theorem ycf : Tw 221 ti221 = some ti221 := by kernel_rfl
def ti222 : V.TI := ⟨.func, 1, 8, [.nilFunc], false⟩
theorem yce : Tw 222 ti222 = some ti222 := by kernel_rfl
def ti223 : V.TI := ⟨.func, 1, 8, [.nilFunc], false⟩
theorem ycd : Tw 223 ti223 = some ti223 := by kernel_rfl
def ti224 : V.TI := ⟨.func, 1, 8, [.nilFunc], false⟩
theorem ycc : Tw 224 ti224 = some ti224 := by kernel_rfl
def ti225 : V.TI := ⟨.array 6 3, 6, 48, [.int .i64 0, .int .i64 0, .int .i64 0, .int .i64 0, .int .i64 0, .int .i64 0], false⟩
theorem ycb : Tw 225 ti225 = some ti225 := by kernel_rfl
def ti226 : V.TI := ⟨.array 3 225, 18, 144, [.int .i64 0, .int .i64 0, .int .i64 0, .int .i64 0, .int .i64 0, .int .i64 0, .int .i64 0, .int .i64 0, .int .i64 0, .int .i64 0, .int .i64 0, .int .i64 0, .int .i64 0, .int .i64 0, .int .i64 0, .int .i64 0, .int .i64 0, .int .i64 0], false⟩
theorem yca : Tw 226 ti226 = some ti226 := by kernel_rfl
def ti228 : V.TI := ⟨.func, 1, 8, [.nilFunc], false⟩
theorem yb9 : Tw 228 ti228 = some ti228 := by kernel_rfl
def ti229 : V.TI := ⟨.func, 1, 8, [.nilFunc], false⟩
theorem yb8 : Tw 229 ti229 = some ti229 := by kernel_rfl
def ti230 : V.TI := ⟨.func, 1, 8, [.nilFunc], false⟩
theorem yb7 : Tw 230 ti230 = some ti230 := by kernel_rfl
def ti231 : V.TI := ⟨.func, 1, 8, [.nilFunc], false⟩
theorem yb6 : Tw 231 ti231 = some ti231 := by kernel_rfl
def ti232 : V.TI := ⟨.func, 1, 8, [.nilFunc], false⟩
theorem yb5 : Tw 232 ti232 = some ti232 := by kernel_rfl
def ti233 : V.TI := ⟨.func, 1, 8, [.nilFunc], false⟩
theorem yb4 : Tw 233 ti233 = some ti233 := by kernel_rfl
def ti234 : V.TI := ⟨.func, 1, 8, [.nilFunc], false⟩
theorem yb3 : Tw 234 ti234 = some ti234 := by kernel_rfl
def ti235 : V.TI := ⟨.struct [(0, 108), (1, 108)], 2, 16, [.int .u64 0, .int .u64 0], true⟩
theorem yb2 : Tw 235 ti235 = some ti235 := by kernel_rfl
def ti236 : V.TI := ⟨.func, 1, 8, [.nilFunc], false⟩
theorem yb1 : Tw 236 ti236 = some ti236 := by kernel_rfl
def ti237 : V.TI := ⟨.func, 1, 8, [.nilFunc], false⟩
theorem yb0 : Tw 237 ti237 = some ti237 := by kernel_rfl
def ti238 : V.TI := ⟨.func, 1, 8, [.nilFunc], false⟩
theorem ybz : Tw 238 ti238 = some ti238 := by kernel_rfl
def ti239 : V.TI := ⟨.func, 1, 8, [.nilFunc], false⟩
theorem yby : Tw 239 ti239 = some ti239 := by kernel_rfl
def ti240 : V.TI := ⟨.func, 1, 8, [.nilFunc], false⟩
theorem ybx : Tw 240 ti240 = some ti240 := by kernel_rfl
def ti242 : V.TI := ⟨.func, 1, 8, [.nilFunc], false⟩
theorem ybw : Tw 242 ti242 = some ti242 := by kernel_rfl
def ti243 : V.TI := ⟨.func, 1, 8, [.nilFunc], false⟩
theorem ybv : Tw 243 ti243 = some ti243 := by kernel_rfl
def ti244 : V.TI := ⟨.array 2 3, 2, 16, [.int .i64 0, .int .i64 0], false⟩
theorem ybu : Tw 244 ti244 = some ti244 := by kernel_rfl
def ti245 : V.TI := ⟨.array 8 244, 16, 128, [.int .i64 0, .int .i64 0, .int .i64 0, .int .i64 0, .int .i64 0, .int .i64 0, .int .i64 0, .int .i64 0, .int .i64 0, .int .i64 0, .int .i64 0, .int .i64 0, .int .i64 0, .int .i64 0, .int .i64 0, .int .i64 0], false⟩
theorem ybt : Tw 245 ti245 = some ti245 := by kernel_rfl
def ti246 : V.TI := ⟨.func, 1, 8, [.nilFunc], false⟩
theorem ybs : Tw 246 ti246 = some ti246 := by kernel_rfl
def ti247 : V.TI := ⟨.func, 1, 8, [.nilFunc], false⟩
theorem ybr : Tw 247 ti247 = some ti247 := by kernel_rfl
def ti248 : V.TI := ⟨.func, 1, 8, [.nilFunc], false⟩
theorem ybq : Tw 248 ti248 = some ti248 := by kernel_rfl
def ti249 : V.TI := ⟨.func, 1, 8, [.nilFunc], false⟩
theorem ybp : Tw 249 ti249 = some ti249 := by kernel_rfl
def ti250 : V.TI := ⟨.func, 1, 8, [.nilFunc], false⟩
theorem ybo : Tw 250 ti250 = some ti250 := by kernel_rfl
def ti251 : V.TI := ⟨.func, 1, 8, [.nilFunc], false⟩
theorem ybn : Tw 251 ti251 = some ti251 := by kernel_rfl
def ti252 : V.TI := ⟨.func, 1, 8, [.nilFunc], false⟩
theorem ybm : Tw 252 ti252 = some ti252 := by kernel_rfl
def ti253 : V.TI := ⟨.other, 1, 16, [.nilIface], false⟩
theorem ybl : Tw 253 ti253 = some ti253 := by kernel_rfl
def ti254 : V.TI := ⟨.other, 1, 16, [.nilIface], false⟩
theorem ybk : Tw 254 ti254 = some ti254 := by kernel_rfl
def ti255 : V.TI := ⟨.func, 1, 8, [.nilFunc], false⟩
theorem ybj : Tw 255 ti255 = some ti255 := by kernel_rfl
def ti256 : V.TI := ⟨.func, 1, 8, [.nilFunc], false⟩
theorem ybi : Tw 256 ti256 = some ti256 := by kernel_rfl
def ti257 : V.TI := ⟨.func, 1, 8, [.nilFunc], false⟩
theorem ybh : Tw 257 ti257 = some ti257 := by kernel_rfl
def ti258 : V.TI := ⟨.int .i64, 1, 8, [.int .i64 0], false⟩
theorem ybg : Tw 258 ti258 = some ti258 := by kernel_rfl
def ti260 : V.TI := ⟨.func, 1, 8, [.nilFunc], false⟩
theorem ybf : Tw 260 ti260 = some ti260 := by kernel_rfl
def ti261 : V.TI := ⟨.func, 1, 8, [.nilFunc], false⟩
theorem ybe : Tw 261 ti261 = some ti261 := by kernel_rfl
def ti262 : V.TI := ⟨.func, 1, 8, [.nilFunc], false⟩
theorem ybd : Tw 262 ti262 = some ti262 := by kernel_rfl
def ti263 : V.TI := ⟨.func, 1, 8, [.nilFunc], false⟩
theorem ybc : Tw 263 ti263 = some ti263 := by kernel_rfl
def ti264 : V.TI := ⟨.int .u32, 1, 4, [.int .u32 0], false⟩
theorem ybb : Tw 264 ti264 = some ti264 := by kernel_rfl
def ti265 : V.TI := ⟨.int .u64, 1, 8, [.int .u64 0], false⟩
theorem yba : Tw 265 ti265 = some ti265 := by kernel_rfl
def ti266 : V.TI := ⟨.func, 1, 8, [.nilFunc], false⟩
theorem ya9 : Tw 266 ti266 = some ti266 := by kernel_rfl
def ti267 : V.TI := ⟨.func, 1, 8, [.nilFunc], false⟩
theorem ya8 : Tw 267 ti267 = some ti267 := by kernel_rfl
def ti268 : V.TI := ⟨.func, 1, 8, [.nilFunc], false⟩
theorem ya7 : Tw 268 ti268 = some ti268 := by kernel_rfl
def ti269 : V.TI := ⟨.ptr 3, 1, 8, [.pointer none], false⟩
theorem ya6 : Tw 269 ti269 = some ti269 := by kernel_rfl
def ti270 : V.TI := ⟨.func, 1, 8, [.nilFunc], false⟩
theorem ya5 : Tw 270 ti270 = some ti270 := by kernel_rfl
def ti271 : V.TI := ⟨.ptr 265, 1, 8, [.pointer none], false⟩
theorem ya4 : Tw 271 ti271 = some ti271 := by kernel_rfl
def ti273 : V.TI := ⟨.func, 1, 8, [.nilFunc], false⟩
theorem ya3 : Tw 273 ti273 = some ti273 := by kernel_rfl
def ti274 : V.TI := ⟨.func, 1, 8, [.nilFunc], false⟩
theorem ya2 : Tw 274 ti274 = some ti274 := by kernel_rfl
def ti275 : V.TI := ⟨.struct [(0, 17), (1, 17), (2, 17), (3, 9)], 4, 40, [.pointer none, .pointer none, .pointer none, .string ⟨#[]⟩], false⟩
theorem ya1 : Tw 275 ti275 = some ti275 := by kernel_rfl
def ti276 : V.TI := ⟨.struct [(0, 17), (1, 17), (2, 17), (3, 9)], 4, 40, [.pointer none, .pointer none, .pointer none, .string ⟨#[]⟩], false⟩
theorem ya0 : Tw 276 ti276 = some ti276 := by kernel_rfl
def ti277 : V.TI := ⟨.array 0 16, 0, 0, [], false⟩
theorem yaz : Tw 277 ti277 = some ti277 := by kernel_rfl
def ti278 : V.TI := ⟨.struct [(0, 277)], 0, 0, [], false⟩
theorem yay : Tw 278 ti278 = some ti278 := by kernel_rfl
def ti279 : V.TI := ⟨.struct [(0, 277)], 0, 0, [], false⟩
theorem yax : Tw 279 ti279 = some ti279 := by kernel_rfl
def ti280 : V.TI := ⟨.func, 1, 8, [.nilFunc], false⟩
theorem yaw : Tw 280 ti280 = some ti280 := by kernel_rfl
def ti281 : V.TI := ⟨.int .u8, 1, 1, [.int .u8 0], false⟩
theorem yav : Tw 281 ti281 = some ti281 := by kernel_rfl
def ti282 : V.TI := ⟨.int .u8, 1, 1, [.int .u8 0], false⟩
theorem yau : Tw 282 ti282 = some ti282 := by kernel_rfl
def ti283 : V.TI := ⟨.func, 1, 8, [.nilFunc], false⟩
theorem yat : Tw 283 ti283 = some ti283 := by kernel_rfl
def ti284 : V.TI := ⟨.ptr 5, 1, 8, [.pointer none], false⟩
theorem yas : Tw 284 ti284 = some ti284 := by kernel_rfl
def ti285 : V.TI := ⟨.int .i32, 1, 4, [.int .i32 0], false⟩
theorem yar : Tw 285 ti285 = some ti285 := by kernel_rfl
def ti286 : V.TI := ⟨.int .i32, 1, 4, [.int .i32 0], false⟩
theorem yaq : Tw 286 ti286 = some ti286 := by kernel_rfl
def ti287 : V.TI := ⟨.struct [(0, 12), (1, 12), (2, 264), (3, 281), (4, 5), (5, 5), (6, 282), (7, 283), (8, 284), (9, 285), (10, 286)], 11, 48, [.int .u64 0, .int .u64 0, .int .u32 0, .int .u8 0, .int .u8 0, .int .u8 0, .int .u8 0, .nilFunc, .pointer none, .int .i32 0, .int .i32 0], false⟩
theorem yap : Tw 287 ti287 = some ti287 := by kernel_rfl
def ti288 : V.TI := ⟨.struct [(0, 12), (1, 12), (2, 264), (3, 281), (4, 5), (5, 5), (6, 282), (7, 283), (8, 284), (9, 285), (10, 286)], 11, 48, [.int .u64 0, .int .u64 0, .int .u32 0, .int .u8 0, .int .u8 0, .int .u8 0, .int .u8 0, .nilFunc, .pointer none, .int .i32 0, .int .i32 0], false⟩
theorem yao : Tw 288 ti288 = some ti288 := by kernel_rfl
def ti289 : V.TI := ⟨.func, 1, 8, [.nilFunc], false⟩
theorem yan : Tw 289 ti289 = some ti289 := by kernel_rfl
def ti290 : V.TI := ⟨.ptr 301, 1, 8, [.pointer none], false⟩
theorem yam : Tw 290 ti290 = some ti290 := by kernel_rfl
def ti291 : V.TI := ⟨.struct [], 0, 0, [], true⟩
theorem yal : Tw 291 ti291 = some ti291 := by kernel_rfl
def ti292 : V.TI := ⟨.struct [(0, 128), (0, 264)], 1, 4, [.int .u32 0], false⟩
theorem yak : Tw 292 ti292 = some ti292 := by kernel_rfl
def ti293 : V.TI := ⟨.struct [(0, 128), (0, 264)], 1, 4, [.int .u32 0], false⟩
theorem yaj : Tw 293 ti293 = some ti293 := by kernel_rfl
def ti294 : V.TI := ⟨.struct [(0, 21), (1, 264)], 2, 8, [.int .i32 0, .int .u32 0], true⟩
theorem yai : Tw 294 ti294 = some ti294 := by kernel_rfl
def ti295 : V.TI := ⟨.struct [(0, 21), (1, 264)], 2, 8, [.int .i32 0, .int .u32 0], true⟩
theorem yah : Tw 295 ti295 = some ti295 := by kernel_rfl
def ti296 : V.TI := ⟨.struct [(0, 291), (0, 295)], 2, 8, [.int .i32 0, .int .u32 0], false⟩
theorem yag : Tw 296 ti296 = some ti296 := by kernel_rfl
def ti297 : V.TI := ⟨.struct [(0, 291), (0, 295)], 2, 8, [.int .i32 0, .int .u32 0], false⟩
theorem yaf : Tw 297 ti297 = some ti297 := by kernel_rfl
def ti298 : V.TI := ⟨.struct [(0, 291), (0, 293), (1, 297)], 3, 12, [.int .u32 0, .int .i32 0, .int .u32 0], false⟩
theorem yae : Tw 298 ti298 = some ti298 := by kernel_rfl
def ti299 : V.TI := ⟨.struct [(0, 291), (0, 293), (1, 297)], 3, 12, [.int .u32 0, .int .i32 0, .int .u32 0], false⟩
theorem yad : Tw 299 ti299 = some ti299 := by kernel_rfl
def ti300 : V.TI := ⟨.struct [(0, 299), (3, 221)], 4, 24, [.int .u32 0, .int .i32 0, .int .u32 0, .pointer none], true⟩
theorem yac : Tw 300 ti300 = some ti300 := by kernel_rfl
def ti301 : V.TI := ⟨.struct [(0, 299), (3, 221)], 4, 24, [.int .u32 0, .int .i32 0, .int .u32 0, .pointer none], true⟩
theorem yab : Tw 301 ti301 = some ti301 := by kernel_rfl
def ti302 : V.TI := ⟨.func, 1, 8, [.nilFunc], false⟩
theorem yaa : Tw 302 ti302 = some ti302 := by kernel_rfl
def ti303 : V.TI := ⟨.func, 1, 8, [.nilFunc], false⟩
theorem zz9 : Tw 303 ti303 = some ti303 := by kernel_rfl
def ti304 : V.TI := ⟨.func, 1, 8, [.nilFunc], false⟩
theorem zz8 : Tw 304 ti304 = some ti304 := by kernel_rfl
def ti305 : V.TI := ⟨.ptr 307, 1, 8, [.pointer none], false⟩
theorem zz7 : Tw 305 ti305 = some ti305 := by kernel_rfl
def ti306 : V.TI := ⟨.struct [(0, 299), (3, 29)], 4, 40, [.int .u32 0, .int .i32 0, .int .u32 0, .slice none 0 0], true⟩
theorem zz6 : Tw 306 ti306 = some ti306 := by kernel_rfl
def ti307 : V.TI := ⟨.struct [(0, 299), (3, 29)], 4, 40, [.int .u32 0, .int .i32 0, .int .u32 0, .slice none 0 0], true⟩
theorem zz5 : Tw 307 ti307 = some ti307 := by kernel_rfl
def ti308 : V.TI := ⟨.func, 1, 8, [.nilFunc], false⟩
theorem zz4 : Tw 308 ti308 = some ti308 := by kernel_rfl
def ti309 : V.TI := ⟨.ptr 299, 1, 8, [.pointer none], false⟩
theorem zz3 : Tw 309 ti309 = some ti309 := by kernel_rfl
def ti310 : V.TI := ⟨.func, 1, 8, [.nilFunc], false⟩
theorem zz2 : Tw 310 ti310 = some ti310 := by kernel_rfl
def ti311 : V.TI := ⟨.func, 1, 8, [.nilFunc], false⟩
theorem zz1 : Tw 311 ti311 = some ti311 := by kernel_rfl
def ti312 : V.TI := ⟨.func, 1, 8, [.nilFunc], false⟩
theorem zz0 : Tw 312 ti312 = some ti312 := by kernel_rfl
def ti313 : V.TI := ⟨.func, 1, 8, [.nilFunc], false⟩
theorem zzz : Tw 313 ti313 = some ti313 := by kernel_rfl
def ti314 : V.TI := ⟨.ptr 131, 1, 8, [.pointer none], false⟩
theorem zzy : Tw 314 ti314 = some ti314 := by kernel_rfl
def ti315 : V.TI := ⟨.func, 1, 8, [.nilFunc], false⟩
theorem zzx : Tw 315 ti315 = some ti315 := by kernel_rfl
def ti316 : V.TI := ⟨.ptr 2, 1, 8, [.pointer none], false⟩
theorem zzw : Tw 316 ti316 = some ti316 := by kernel_rfl
def ti317 : V.TI := ⟨.func, 1, 8, [.nilFunc], false⟩
theorem zzv : Tw 317 ti317 = some ti317 := by kernel_rfl
def ti318 : V.TI := ⟨.func, 1, 8, [.nilFunc], false⟩
theorem zzu : Tw 318 ti318 = some ti318 := by kernel_rfl
def ti319 : V.TI := ⟨.func, 1, 8, [.nilFunc], false⟩
theorem zzt : Tw 319 ti319 = some ti319 := by kernel_rfl
def ti320 : V.TI := ⟨.ptr 293, 1, 8, [.pointer none], false⟩
theorem zzs : Tw 320 ti320 = some ti320 := by kernel_rfl
def ti321 : V.TI := ⟨.func, 1, 8, [.nilFunc], false⟩
theorem zzr : Tw 321 ti321 = some ti321 := by kernel_rfl
def ti322 : V.TI := ⟨.ptr 264, 1, 8, [.pointer none], false⟩
theorem zzq : Tw 322 ti322 = some ti322 := by kernel_rfl
def ti323 : V.TI := ⟨.func, 1, 8, [.nilFunc], false⟩
theorem zzp : Tw 323 ti323 = some ti323 := by kernel_rfl
def ti324 : V.TI := ⟨.func, 1, 8, [.nilFunc], false⟩
theorem zzo : Tw 324 ti324 = some ti324 := by kernel_rfl
def ti325 : V.TI := ⟨.ptr 339, 1, 8, [.pointer none], false⟩
theorem zzn : Tw 325 ti325 = some ti325 := by kernel_rfl
def ti326 : V.TI := ⟨.func, 1, 8, [.nilFunc], false⟩
theorem zzm : Tw 326 ti326 = some ti326 := by kernel_rfl
def ti328 : V.TI := ⟨.func, 1, 8, [.nilFunc], false⟩
theorem zzl : Tw 328 ti328 = some ti328 := by kernel_rfl
def ti330 : V.TI := ⟨.func, 1, 8, [.nilFunc], false⟩
theorem zzk : Tw 330 ti330 = some ti330 := by kernel_rfl
def ti331 : V.TI := ⟨.func, 1, 8, [.nilFunc], false⟩
theorem zzj : Tw 331 ti331 = some ti331 := by kernel_rfl
def ti332 : V.TI := ⟨.ptr 297, 1, 8, [.pointer none], false⟩
theorem zzi : Tw 332 ti332 = some ti332 := by kernel_rfl
def ti333 : V.TI := ⟨.func, 1, 8, [.nilFunc], false⟩
theorem zzh : Tw 333 ti333 = some ti333 := by kernel_rfl
def ti334 : V.TI := ⟨.func, 1, 8, [.nilFunc], false⟩
theorem zzg : Tw 334 ti334 = some ti334 := by kernel_rfl
def ti335 : V.TI := ⟨.func, 1, 8, [.nilFunc], false⟩
theorem zzf : Tw 335 ti335 = some ti335 := by kernel_rfl
def ti336 : V.TI := ⟨.slice 244, 1, 24, [.slice none 0 0], false⟩
theorem zze : Tw 336 ti336 = some ti336 := by kernel_rfl
def ti337 : V.TI := ⟨.slice 341, 1, 24, [.slice none 0 0], false⟩
theorem zzd : Tw 337 ti337 = some ti337 := by kernel_rfl
def ti338 : V.TI := ⟨.struct [(0, 337)], 1, 24, [.slice none 0 0], true⟩
theorem zzc : Tw 338 ti338 = some ti338 := by kernel_rfl
def ti339 : V.TI := ⟨.struct [(0, 337)], 1, 24, [.slice none 0 0], true⟩
theorem zzb : Tw 339 ti339 = some ti339 := by kernel_rfl
def ti340 : V.TI := ⟨.struct [(0, 3), (1, 3)], 2, 16, [.int .i64 0, .int .i64 0], true⟩
theorem zza : Tw 340 ti340 = some ti340 := by kernel_rfl
def ti341 : V.TI := ⟨.struct [(0, 3), (1, 3)], 2, 16, [.int .i64 0, .int .i64 0], true⟩
theorem zy9 : Tw 341 ti341 = some ti341 := by kernel_rfl
def ti342 : V.TI := ⟨.func, 1, 8, [.nilFunc], false⟩
theorem zy8 : Tw 342 ti342 = some ti342 := by kernel_rfl
def ti344 : V.TI := ⟨.func, 1, 8, [.nilFunc], false⟩
theorem zy7 : Tw 344 ti344 = some ti344 := by kernel_rfl
def ti345 : V.TI := ⟨.ptr 295, 1, 8, [.pointer none], false⟩
theorem zy6 : Tw 345 ti345 = some ti345 := by kernel_rfl
def ti346 : V.TI := ⟨.func, 1, 8, [.nilFunc], false⟩
theorem zy5 : Tw 346 ti346 = some ti346 := by kernel_rfl
def ti347 : V.TI := ⟨.ptr 21, 1, 8, [.pointer none], false⟩
theorem zy4 : Tw 347 ti347 = some ti347 := by kernel_rfl
def ti348 : V.TI := ⟨.func, 1, 8, [.nilFunc], false⟩
theorem zy3 : Tw 348 ti348 = some ti348 := by kernel_rfl
def ti349 : V.TI := ⟨.other, 1, 8, [.pointer none], false⟩
theorem zy2 : Tw 349 ti349 = some ti349 := by kernel_rfl
def ti350 : V.TI := ⟨.func, 1, 8, [.nilFunc], false⟩
theorem zy1 : Tw 350 ti350 = some ti350 := by kernel_rfl
def ti351 : V.TI := ⟨.func, 1, 8, [.nilFunc], false⟩
theorem zy0 : Tw 351 ti351 = some ti351 := by kernel_rfl
def ti352 : V.TI := ⟨.func, 1, 8, [.nilFunc], false⟩
theorem zyz : Tw 352 ti352 = some ti352 := by kernel_rfl
def ti353 : V.TI := ⟨.func, 1, 8, [.nilFunc], false⟩
theorem zyy : Tw 353 ti353 = some ti353 := by kernel_rfl
def infoTree : V.Tr := (.node 176 (.node 89 (.node 43 (.node 21 (.node 11 (.node 6 (.node 3 (.node 2 (.node 1 .nil ti1 .nil) ti2 .nil) ti3 (.node 5 (.node 4 .nil ti4 .nil) ti5 .nil)) ti6 (.node 9 (.node 8 (.node 7 .nil ti7 .nil) ti8 .nil) ti9 (.node 10 .nil ti10 .nil))) ti11 (.node 16 (.node 14 (.node 13 (.node 12 .nil ti12 .nil) ti13 .nil) ti14 (.node 15 .nil ti15 .nil)) ti16 (.node 19 (.node 18 (.node 17 .nil ti17 .nil) ti18 .nil) ti19 (.node 20 .nil ti20 .nil)))) ti21 (.node 32 (.node 27 (.node 24 (.node 23 (.node 22 .nil ti22 .nil) ti23 .nil) ti24 (.node 26 (.node 25 .nil ti25 .nil) ti26 .nil)) ti27 (.node 30 (.node 29 (.node 28 .nil ti28 .nil) ti29 .nil) ti30 (.node 31 .nil ti31 .nil))) ti32 (.node 38 (.node 35 (.node 34 (.node 33 .nil ti33 .nil) ti34 .nil) ti35 (.node 36 .nil ti36 .nil)) ti38 (.node 41 (.node 40 (.node 39 .nil ti39 .nil) ti40 .nil) ti41 (.node 42 .nil ti42 .nil))))) ti43 (.node 66 (.node 54 (.node 49 (.node 46 (.node 45 (.node 44 .nil ti44 .nil) ti45 .nil) ti46 (.node 48 (.node 47 .nil ti47 .nil) ti48 .nil)) ti49 (.node 52 (.node 51 (.node 50 .nil ti50 .nil) ti51 .nil) ti52 (.node 53 .nil ti53 .nil))) ti54 (.node 59 (.node 57 (.node 56 (.node 55 .nil ti55 .nil) ti56 .nil) ti57 (.node 58 .nil ti58 .nil)) ti59 (.node 62 (.node 61 (.node 60 .nil ti60 .nil) ti61 .nil) ti62 (.node 64 .nil ti64 .nil)))) ti66 (.node 78 (.node 73 (.node 69 (.node 68 (.node 67 .nil ti67 .nil) ti68 .nil) ti69 (.node 72 (.node 71 .nil ti71 .nil) ti72 .nil)) ti73 (.node 76 (.node 75 (.node 74 .nil ti74 .nil) ti75 .nil) ti76 (.node 77 .nil ti77 .nil))) ti78 (.node 83 (.node 81 (.node 80 (.node 79 .nil ti79 .nil) ti80 .nil) ti81 (.node 82 .nil ti82 .nil)) ti83 (.node 87 (.node 86 (.node 85 .nil ti85 .nil) ti86 .nil) ti87 (.node 88 .nil ti88 .nil)))))) ti89 (.node 133 (.node 110 (.node 100 (.node 95 (.node 92 (.node 91 (.node 90 .nil ti90 .nil) ti91 .nil) ti92 (.node 94 (.node 93 .nil ti93 .nil) ti94 .nil)) ti95 (.node 98 (.node 97 (.node 96 .nil ti96 .nil) ti97 .nil) ti98 (.node 99 .nil ti99 .nil))) ti100 (.node 105 (.node 103 (.node 102 (.node 101 .nil ti101 .nil) ti102 .nil) ti103 (.node 104 .nil ti104 .nil)) ti105 (.node 108 (.node 107 (.node 106 .nil ti106 .nil) ti107 .nil) ti108 (.node 109 .nil ti109 .nil)))) ti110 (.node 122 (.node 117 (.node 113 (.node 112 (.node 111 .nil ti111 .nil) ti112 .nil) ti113 (.node 116 (.node 115 .nil ti115 .nil) ti116 .nil)) ti117 (.node 120 (.node 119 (.node 118 .nil ti118 .nil) ti119 .nil) ti120 (.node 121 .nil ti121 .nil))) ti122 (.node 128 (.node 126 (.node 124 (.node 123 .nil ti123 .nil) ti124 .nil) ti126 (.node 127 .nil ti127 .nil)) ti128 (.node 131 (.node 130 (.node 129 .nil ti129 .nil) ti130 .nil) ti131 (.node 132 .nil ti132 .nil))))) ti133 (.node 155 (.node 144 (.node 139 (.node 136 (.node 135 (.node 134 .nil ti134 .nil) ti135 .nil) ti136 (.node 138 (.node 137 .nil ti137 .nil) ti138 .nil)) ti139 (.node 142 (.node 141 (.node 140 .nil ti140 .nil) ti141 .nil) ti142 (.node 143 .nil ti143 .nil))) ti144 (.node 150 (.node 147 (.node 146 (.node 145 .nil ti145 .nil) ti146 .nil) ti147 (.node 149 .nil ti149 .nil)) ti150 (.node 153 (.node 152 (.node 151 .nil ti151 .nil) ti152 .nil) ti153 (.node 154 .nil ti154 .nil)))) ti155 (.node 166 (.node 161 (.node 158 (.node 157 (.node 156 .nil ti156 .nil) ti157 .nil) ti158 (.node 160 (.node 159 .nil ti159 .nil) ti160 .nil)) ti161 (.node 164 (.node 163 (.node 162 .nil ti162 .nil) ti163 .nil) ti164 (.node 165 .nil ti165 .nil))) ti166 (.node 171 (.node 169 (.node 168 (.node 167 .nil ti167 .nil) ti168 .nil) ti169 (.node 170 .nil ti170 .nil)) ti171 (.node 174 (.node 173 (.node 172 .nil ti172 .nil) ti173 .nil) ti174 (.node 175 .nil ti175 .nil))))))) ti176 (.node 266 (.node 221 (.node 200 (.node 189 (.node 184 (.node 180 (.node 179 (.node 178 .nil ti178 .nil) ti179 .nil) ti180 (.node 183 (.node 182 .nil ti182 .nil) ti183 .nil)) ti184 (.node 187 (.node 186 (.node 185 .nil ti185 .nil) ti186 .nil) ti187 (.node 188 .nil ti188 .nil))) ti189 (.node 195 (.node 193 (.node 191 (.node 190 .nil ti190 .nil) ti191 .nil) ti193 (.node 194 .nil ti194 .nil)) ti195 (.node 198 (.node 197 (.node 196 .nil ti196 .nil) ti197 .nil) ti198 (.node 199 .nil ti199 .nil)))) ti200 (.node 211 (.node 206 (.node 203 (.node 202 (.node 201 .nil ti201 .nil) ti202 .nil) ti203 (.node 205 (.node 204 .nil ti204 .nil) ti205 .nil)) ti206 (.node 209 (.node 208 (.node 207 .nil ti207 .nil) ti208 .nil) ti209 (.node 210 .nil ti210 .nil))) ti211 (.node 216 (.node 214 (.node 213 (.node 212 .nil ti212 .nil) ti213 .nil) ti214 (.node 215 .nil ti215 .nil)) ti216 (.node 219 (.node 218 (.node 217 .nil ti217 .nil) ti218 .nil) ti219 (.node 220 .nil ti220 .nil))))) ti221 (.node 244 (.node 233 (.node 228 (.node 224 (.node 223 (.node 222 .nil ti222 .nil) ti223 .nil) ti224 (.node 226 (.node 225 .nil ti225 .nil) ti226 .nil)) ti228 (.node 231 (.node 230 (.node 229 .nil ti229 .nil) ti230 .nil) ti231 (.node 232 .nil ti232 .nil))) ti233 (.node 238 (.node 236 (.node 235 (.node 234 .nil ti234 .nil) ti235 .nil) ti236 (.node 237 .nil ti237 .nil)) ti238 (.node 242 (.node 240 (.node 239 .nil ti239 .nil) ti240 .nil) ti242 (.node 243 .nil ti243 .nil)))) ti244 (.node 255 (.node 250 (.node 247 (.node 246 (.node 245 .nil ti245 .nil) ti246 .nil) ti247 (.node 249 (.node 248 .nil ti248 .nil) ti249 .nil)) ti250 (.node 253 (.node 252 (.node 251 .nil ti251 .nil) ti252 .nil) ti253 (.node 254 .nil ti254 .nil))) ti255 (.node 261 (.node 258 (.node 257 (.node 256 .nil ti256 .nil) ti257 .nil) ti258 (.node 260 .nil ti260 .nil)) ti261 (.node 264 (.node 263 (.node 262 .nil ti262 .nil) ti263 .nil) ti264 (.node 265 .nil ti265 .nil)))))) ti266 (.node 309 (.node 288 (.node 278 (.node 273 (.node 269 (.node 268 (.node 267 .nil ti267 .nil) ti268 .nil) ti269 (.node 271 (.node 270 .nil ti270 .nil) ti271 .nil)) ti273 (.node 276 (.node 275 (.node 274 .nil ti274 .nil) ti275 .nil) ti276 (.node 277 .nil ti277 .nil))) ti278 (.node 283 (.node 281 (.node 280 (.node 279 .nil ti279 .nil) ti280 .nil) ti281 (.node 282 .nil ti282 .nil)) ti283 (.node 286 (.node 285 (.node 284 .nil ti284 .nil) ti285 .nil) ti286 (.node 287 .nil ti287 .nil)))) ti288 (.node 299 (.node 294 (.node 291 (.node 290 (.node 289 .nil ti289 .nil) ti290 .nil) ti291 (.node 293 (.node 292 .nil ti292 .nil) ti293 .nil)) ti294 (.node 297 (.node 296 (.node 295 .nil ti295 .nil) ti296 .nil) ti297 (.node 298 .nil ti298 .nil))) ti299 (.node 304 (.node 302 (.node 301 (.node 300 .nil ti300 .nil) ti301 .nil) ti302 (.node 303 .nil ti303 .nil)) ti304 (.node 307 (.node 306 (.node 305 .nil ti305 .nil) ti306 .nil) ti307 (.node 308 .nil ti308 .nil))))) ti309 (.node 332 (.node 320 (.node 315 (.node 312 (.node 311 (.node 310 .nil ti310 .nil) ti311 .nil) ti312 (.node 314 (.node 313 .nil ti313 .nil) ti314 .nil)) ti315 (.node 318 (.node 317 (.node 316 .nil ti316 .nil) ti317 .nil) ti318 (.node 319 .nil ti319 .nil))) ti320 (.node 325 (.node 323 (.node 322 (.node 321 .nil ti321 .nil) ti322 .nil) ti323 (.node 324 .nil ti324 .nil)) ti325 (.node 330 (.node 328 (.node 326 .nil ti326 .nil) ti328 .nil) ti330 (.node 331 .nil ti331 .nil)))) ti332 (.node 344 (.node 338 (.node 335 (.node 334 (.node 333 .nil ti333 .nil) ti334 .nil) ti335 (.node 337 (.node 336 .nil ti336 .nil) ti337 .nil)) ti338 (.node 341 (.node 340 (.node 339 .nil ti339 .nil) ti340 .nil) ti341 (.node 342 .nil ti342 .nil))) ti344 (.node 349 (.node 347 (.node 346 (.node 345 .nil ti345 .nil) ti346 .nil) ti347 (.node 348 .nil ti348 .nil)) ti349 (.node 352 (.node 351 (.node 350 .nil ti350 .nil) ti351 .nil) ti352 (.node 353 .nil ti353 .nil))))))))
theorem zot : infoTree.all Tryz.prog := ⟨ydl, ⟨ykm, ⟨yls, ⟨ymd, ⟨ymn, ⟨yo1, ⟨yo4, ⟨yo5, ⟨yo6, Tv, Tv⟩, Tv⟩, ⟨yo2, ⟨yo3, Tv, Tv⟩, Tv⟩⟩, ⟨yoy, ⟨yoz, ⟨yo0, Tv, Tv⟩, Tv⟩, ⟨ymo, Tv, Tv⟩⟩⟩, ⟨ymi, ⟨ymk, ⟨yml, ⟨ymm, Tv, Tv⟩, Tv⟩, ⟨ymj, Tv, Tv⟩⟩, ⟨ymf, ⟨ymg, ⟨ymh, Tv, Tv⟩, Tv⟩, ⟨yme, Tv, Tv⟩⟩⟩⟩, ⟨yl2, ⟨yl7, ⟨yma, ⟨ymb, ⟨ymc, Tv, Tv⟩, Tv⟩, ⟨yl8, ⟨yl9, Tv, Tv⟩, Tv⟩⟩, ⟨yl4, ⟨yl5, ⟨yl6, Tv, Tv⟩, Tv⟩, ⟨yl3, Tv, Tv⟩⟩⟩, ⟨ylx, ⟨ylz, ⟨yl0, ⟨yl1, Tv, Tv⟩, Tv⟩, ⟨yly, Tv, Tv⟩⟩, ⟨ylu, ⟨ylv, ⟨ylw, Tv, Tv⟩, Tv⟩, ⟨ylt, Tv, Tv⟩⟩⟩⟩⟩, ⟨yk7, ⟨ylh, ⟨ylm, ⟨ylp, ⟨ylq, ⟨ylr, Tv, Tv⟩, Tv⟩, ⟨yln, ⟨ylo, Tv, Tv⟩, Tv⟩⟩, ⟨ylj, ⟨ylk, ⟨yll, Tv, Tv⟩, Tv⟩, ⟨yli, Tv, Tv⟩⟩⟩, ⟨ylc, ⟨yle, ⟨ylf, ⟨ylg, Tv, Tv⟩, Tv⟩, ⟨yld, Tv, Tv⟩⟩, ⟨yk9, ⟨yla, ⟨ylb, Tv, Tv⟩, Tv⟩, ⟨yk8, Tv, Tv⟩⟩⟩⟩, ⟨ykw, ⟨yk1, ⟨yk4, ⟨yk5, ⟨yk6, Tv, Tv⟩, Tv⟩, ⟨yk2, ⟨yk3, Tv, Tv⟩, Tv⟩⟩, ⟨yky, ⟨ykz, ⟨yk0, Tv, Tv⟩, Tv⟩, ⟨ykx, Tv, Tv⟩⟩⟩, ⟨ykr, ⟨ykt, ⟨yku, ⟨ykv, Tv, Tv⟩, Tv⟩, ⟨yks, Tv, Tv⟩⟩, ⟨yko, ⟨ykp, ⟨ykq, Tv, Tv⟩, Tv⟩, ⟨ykn, Tv, Tv⟩⟩⟩⟩⟩⟩, ⟨yer, ⟨yfe, ⟨yfo, ⟨ykg, ⟨ykj, ⟨ykk, ⟨ykl, Tv, Tv⟩, Tv⟩, ⟨ykh, ⟨yki, Tv, Tv⟩, Tv⟩⟩, ⟨ykd, ⟨yke, ⟨ykf, Tv, Tv⟩, Tv⟩, ⟨ykc, Tv, Tv⟩⟩⟩, ⟨yfj, ⟨yfl, ⟨yfm, ⟨yfn, Tv, Tv⟩, Tv⟩, ⟨yfk, Tv, Tv⟩⟩, ⟨yfg, ⟨yfh, ⟨yfi, Tv, Tv⟩, Tv⟩, ⟨yff, Tv, Tv⟩⟩⟩⟩, ⟨ye3, ⟨ye8, ⟨yfb, ⟨yfc, ⟨yfd, Tv, Tv⟩, Tv⟩, ⟨ye9, ⟨yfa, Tv, Tv⟩, Tv⟩⟩, ⟨ye5, ⟨ye6, ⟨ye7, Tv, Tv⟩, Tv⟩, ⟨ye4, Tv, Tv⟩⟩⟩, ⟨yey, ⟨ye0, ⟨ye1, ⟨ye2, Tv, Tv⟩, Tv⟩, ⟨yez, Tv, Tv⟩⟩, ⟨yev, ⟨yew, ⟨yex, Tv, Tv⟩, Tv⟩, ⟨yeu, Tv, Tv⟩⟩⟩⟩⟩, ⟨yd6, ⟨yeg, ⟨yel, ⟨yeo, ⟨yep, ⟨yeq, Tv, Tv⟩, Tv⟩, ⟨yem, ⟨yen, Tv, Tv⟩, Tv⟩⟩, ⟨yei, ⟨yej, ⟨yek, Tv, Tv⟩, Tv⟩, ⟨yeh, Tv, Tv⟩⟩⟩, ⟨yeb, ⟨yed, ⟨yee, ⟨yef, Tv, Tv⟩, Tv⟩, ⟨yec, Tv, Tv⟩⟩, ⟨yd8, ⟨yd9, ⟨yea, Tv, Tv⟩, Tv⟩, ⟨yd7, Tv, Tv⟩⟩⟩⟩, ⟨ydv, ⟨yd0, ⟨yd3, ⟨yd4, ⟨yd5, Tv, Tv⟩, Tv⟩, ⟨yd1, ⟨yd2, Tv, Tv⟩, Tv⟩⟩, ⟨ydx, ⟨ydy, ⟨ydz, Tv, Tv⟩, Tv⟩, ⟨ydw, Tv, Tv⟩⟩⟩, ⟨ydq, ⟨yds, ⟨ydt, ⟨ydu, Tv, Tv⟩, Tv⟩, ⟨ydr, Tv, Tv⟩⟩, ⟨ydn, ⟨ydo, ⟨ydp, Tv, Tv⟩, Tv⟩, ⟨ydm, Tv, Tv⟩⟩⟩⟩⟩⟩⟩, ⟨ya9, ⟨ycf, ⟨yc0, ⟨yda, ⟨ydf, ⟨ydi, ⟨ydj, ⟨ydk, Tv, Tv⟩, Tv⟩, ⟨ydg, ⟨ydh, Tv, Tv⟩, Tv⟩⟩, ⟨ydc, ⟨ydd, ⟨yde, Tv, Tv⟩, Tv⟩, ⟨ydb, Tv, Tv⟩⟩⟩, ⟨yc5, ⟨yc7, ⟨yc8, ⟨yc9, Tv, Tv⟩, Tv⟩, ⟨yc6, Tv, Tv⟩⟩, ⟨yc2, ⟨yc3, ⟨yc4, Tv, Tv⟩, Tv⟩, ⟨yc1, Tv, Tv⟩⟩⟩⟩, ⟨ycp, ⟨ycu, ⟨ycx, ⟨ycy, ⟨ycz, Tv, Tv⟩, Tv⟩, ⟨ycv, ⟨ycw, Tv, Tv⟩, Tv⟩⟩, ⟨ycr, ⟨ycs, ⟨yct, Tv, Tv⟩, Tv⟩, ⟨ycq, Tv, Tv⟩⟩⟩, ⟨yck, ⟨ycm, ⟨ycn, ⟨yco, Tv, Tv⟩, Tv⟩, ⟨ycl, Tv, Tv⟩⟩, ⟨ych, ⟨yci, ⟨ycj, Tv, Tv⟩, Tv⟩, ⟨ycg, Tv, Tv⟩⟩⟩⟩⟩, ⟨ybu, ⟨yb4, ⟨yb9, ⟨ycc, ⟨ycd, ⟨yce, Tv, Tv⟩, Tv⟩, ⟨yca, ⟨ycb, Tv, Tv⟩, Tv⟩⟩, ⟨yb6, ⟨yb7, ⟨yb8, Tv, Tv⟩, Tv⟩, ⟨yb5, Tv, Tv⟩⟩⟩, ⟨ybz, ⟨yb1, ⟨yb2, ⟨yb3, Tv, Tv⟩, Tv⟩, ⟨yb0, Tv, Tv⟩⟩, ⟨ybw, ⟨ybx, ⟨yby, Tv, Tv⟩, Tv⟩, ⟨ybv, Tv, Tv⟩⟩⟩⟩, ⟨ybj, ⟨ybo, ⟨ybr, ⟨ybs, ⟨ybt, Tv, Tv⟩, Tv⟩, ⟨ybp, ⟨ybq, Tv, Tv⟩, Tv⟩⟩, ⟨ybl, ⟨ybm, ⟨ybn, Tv, Tv⟩, Tv⟩, ⟨ybk, Tv, Tv⟩⟩⟩, ⟨ybe, ⟨ybg, ⟨ybh, ⟨ybi, Tv, Tv⟩, Tv⟩, ⟨ybf, Tv, Tv⟩⟩, ⟨ybb, ⟨ybc, ⟨ybd, Tv, Tv⟩, Tv⟩, ⟨yba, Tv, Tv⟩⟩⟩⟩⟩⟩, ⟨zz3, ⟨yao, ⟨yay, ⟨ya3, ⟨ya6, ⟨ya7, ⟨ya8, Tv, Tv⟩, Tv⟩, ⟨ya4, ⟨ya5, Tv, Tv⟩, Tv⟩⟩, ⟨ya0, ⟨ya1, ⟨ya2, Tv, Tv⟩, Tv⟩, ⟨yaz, Tv, Tv⟩⟩⟩, ⟨yat, ⟨yav, ⟨yaw, ⟨yax, Tv, Tv⟩, Tv⟩, ⟨yau, Tv, Tv⟩⟩, ⟨yaq, ⟨yar, ⟨yas, Tv, Tv⟩, Tv⟩, ⟨yap, Tv, Tv⟩⟩⟩⟩, ⟨yad, ⟨yai, ⟨yal, ⟨yam, ⟨yan, Tv, Tv⟩, Tv⟩, ⟨yaj, ⟨yak, Tv, Tv⟩, Tv⟩⟩, ⟨yaf, ⟨yag, ⟨yah, Tv, Tv⟩, Tv⟩, ⟨yae, Tv, Tv⟩⟩⟩, ⟨zz8, ⟨yaa, ⟨yab, ⟨yac, Tv, Tv⟩, Tv⟩, ⟨zz9, Tv, Tv⟩⟩, ⟨zz5, ⟨zz6, ⟨zz7, Tv, Tv⟩, Tv⟩, ⟨zz4, Tv, Tv⟩⟩⟩⟩⟩, ⟨zzi, ⟨zzs, ⟨zzx, ⟨zz0, ⟨zz1, ⟨zz2, Tv, Tv⟩, Tv⟩, ⟨zzy, ⟨zzz, Tv, Tv⟩, Tv⟩⟩, ⟨zzu, ⟨zzv, ⟨zzw, Tv, Tv⟩, Tv⟩, ⟨zzt, Tv, Tv⟩⟩⟩, ⟨zzn, ⟨zzp, ⟨zzq, ⟨zzr, Tv, Tv⟩, Tv⟩, ⟨zzo, Tv, Tv⟩⟩, ⟨zzk, ⟨zzl, ⟨zzm, Tv, Tv⟩, Tv⟩, ⟨zzj, Tv, Tv⟩⟩⟩⟩, ⟨zy7, ⟨zzc, ⟨zzf, ⟨zzg, ⟨zzh, Tv, Tv⟩, Tv⟩, ⟨zzd, ⟨zze, Tv, Tv⟩, Tv⟩⟩, ⟨zy9, ⟨zza, ⟨zzb, Tv, Tv⟩, Tv⟩, ⟨zy8, Tv, Tv⟩⟩⟩, ⟨zy2, ⟨zy4, ⟨zy5, ⟨zy6, Tv, Tv⟩, Tv⟩, ⟨zy3, Tv, Tv⟩⟩, ⟨zyz, ⟨zy0, ⟨zy1, Tv, Tv⟩, Tv⟩, ⟨zyy, Tv, Tv⟩⟩⟩⟩⟩⟩⟩⟩
end Go.Proofs
