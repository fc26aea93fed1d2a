/- The ground on which laws of thronglaw31 are proved: contracts of functions and plain lemmas; no condition beyond the row's own. -/
import Derived.KernelRfl
import Derived.Test.YtlidamnkhidljaaGreatProg
import Derived.Test.YtlidamnkhidljaaGreatKC
set_option linter.unusedSimpArgs false
set_option linter.unusedVariables false
namespace Go.Proofs
open Go Go.V
noncomputable abbrev Tw (n : Nat) (t : V.TI) : Option V.TI := V.infoOf Tryz.prog n t.eq
def ti1 : V.TI := ⟨.func, 1, 8, [.nilFunc], false⟩
theorem ztg : Tw 1 ti1 = some ti1 := by kernel_rfl
def ti2 : V.TI := ⟨.int .i64, 1, 8, [.int .i64 0], false⟩
theorem ztf : Tw 2 ti2 = some ti2 := by kernel_rfl
def ti3 : V.TI := ⟨.int .i64, 1, 8, [.int .i64 0], false⟩
theorem zte : Tw 3 ti3 = some ti3 := by kernel_rfl
def ti4 : V.TI := ⟨.bool, 1, 1, [.bool false], false⟩
theorem ztd : Tw 4 ti4 = some ti4 := by kernel_rfl
def ti5 : V.TI := ⟨.int .u8, 1, 1, [.int .u8 0], false⟩
theorem ztc : Tw 5 ti5 = some ti5 := by kernel_rfl
def ti6 : V.TI := ⟨.int .u8, 1, 1, [.int .u8 0], false⟩
theorem ztb : Tw 6 ti6 = some ti6 := by kernel_rfl
def ti7 : V.TI := ⟨.struct [(0, 2), (1, 3), (2, 4), (3, 6)], 4, 24, [.int .i64 0, .int .i64 0, .bool false, .int .u8 0], true⟩
theorem zta : Tw 7 ti7 = some ti7 := by kernel_rfl
def ti8 : V.TI := ⟨.struct [(0, 2), (1, 3), (2, 4), (3, 6)], 4, 24, [.int .i64 0, .int .i64 0, .bool false, .int .u8 0], true⟩
theorem zs9 : Tw 8 ti8 = some ti8 := by kernel_rfl
def ti9 : V.TI := ⟨.str, 1, 16, [.string ⟨#[]⟩], false⟩
theorem zs8 : Tw 9 ti9 = some ti9 := by kernel_rfl
def ti10 : V.TI := ⟨.str, 1, 16, [.string ⟨#[]⟩], false⟩
theorem zrt : Tw 10 ti10 = some ti10 := by kernel_rfl
def ti11 : V.TI := ⟨.str, 1, 16, [.string ⟨#[]⟩], false⟩
theorem zrs : Tw 11 ti11 = some ti11 := by kernel_rfl
def ti12 : V.TI := ⟨.int .u64, 1, 8, [.int .u64 0], false⟩
theorem zrr : Tw 12 ti12 = some ti12 := by kernel_rfl
def ti13 : V.TI := ⟨.struct [(0, 9), (1, 12)], 2, 24, [.string ⟨#[]⟩, .int .u64 0], false⟩
theorem zrq : Tw 13 ti13 = some ti13 := by kernel_rfl
def ti14 : V.TI := ⟨.struct [(0, 9), (1, 12)], 2, 24, [.string ⟨#[]⟩, .int .u64 0], false⟩
theorem zrp : Tw 14 ti14 = some ti14 := by kernel_rfl
def ti15 : V.TI := ⟨.ptr 187, 1, 8, [.pointer none], false⟩
theorem zro : Tw 15 ti15 = some ti15 := by kernel_rfl
def ti16 : V.TI := ⟨.ptr 190, 1, 8, [.pointer none], false⟩
theorem zrn : Tw 16 ti16 = some ti16 := by kernel_rfl
def ti17 : V.TI := ⟨.ptr 199, 1, 8, [.pointer none], false⟩
theorem zrm : Tw 17 ti17 = some ti17 := by kernel_rfl
def ti18 : V.TI := ⟨.struct [(0, 17)], 1, 8, [.pointer none], false⟩
theorem zrl : Tw 18 ti18 = some ti18 := by kernel_rfl
def ti19 : V.TI := ⟨.struct [(0, 17)], 1, 8, [.pointer none], false⟩
theorem zrk : Tw 19 ti19 = some ti19 := by kernel_rfl
def ti20 : V.TI := ⟨.other, 1, 16, [.nilIface], false⟩
theorem zrj : Tw 20 ti20 = some ti20 := by kernel_rfl
def ti21 : V.TI := ⟨.int .i32, 1, 4, [.int .i32 0], false⟩
theorem zri : Tw 21 ti21 = some ti21 := by kernel_rfl
def ti22 : V.TI := ⟨.slice 30, 1, 24, [.slice none 0 0], false⟩
theorem zrh : Tw 22 ti22 = some ti22 := by kernel_rfl
def ti23 : V.TI := ⟨.func, 1, 8, [.nilFunc], false⟩
theorem zrg : Tw 23 ti23 = some ti23 := by kernel_rfl
def ti24 : V.TI := ⟨.slice 5, 1, 24, [.slice none 0 0], false⟩
theorem zrf : Tw 24 ti24 = some ti24 := by kernel_rfl
def ti25 : V.TI := ⟨.struct [(0, 3), (1, 3), (2, 24)], 3, 40, [.int .i64 0, .int .i64 0, .slice none 0 0], true⟩
theorem zre : Tw 25 ti25 = some ti25 := by kernel_rfl
def ti26 : V.TI := ⟨.struct [(0, 3), (1, 3), (2, 24)], 3, 40, [.int .i64 0, .int .i64 0, .slice none 0 0], true⟩
theorem zrd : Tw 26 ti26 = some ti26 := by kernel_rfl
def ti27 : V.TI := ⟨.slice 50, 1, 24, [.slice none 0 0], false⟩
theorem zrc : Tw 27 ti27 = some ti27 := by kernel_rfl
def ti28 : V.TI := ⟨.slice 47, 1, 24, [.slice none 0 0], false⟩
theorem zrb : Tw 28 ti28 = some ti28 := by kernel_rfl
def ti29 : V.TI := ⟨.struct [(0, 3), (1, 3), (2, 3), (3, 26), (6, 27), (7, 28)], 8, 112, [.int .i64 0, .int .i64 0, .int .i64 0, .int .i64 0, .int .i64 0, .slice none 0 0, .slice none 0 0, .slice none 0 0], true⟩
theorem zra : Tw 29 ti29 = some ti29 := by kernel_rfl
def ti30 : V.TI := ⟨.struct [(0, 3), (1, 3), (2, 3), (3, 26), (6, 27), (7, 28)], 8, 112, [.int .i64 0, .int .i64 0, .int .i64 0, .int .i64 0, .int .i64 0, .slice none 0 0, .slice none 0 0, .slice none 0 0], true⟩
theorem zq9 : Tw 30 ti30 = some ti30 := by kernel_rfl
def ti31 : V.TI := ⟨.slice 9, 1, 24, [.slice none 0 0], false⟩
theorem zq8 : Tw 31 ti31 = some ti31 := by kernel_rfl
def ti32 : V.TI := ⟨.func, 1, 8, [.nilFunc], false⟩
theorem zq7 : Tw 32 ti32 = some ti32 := by kernel_rfl
def ti33 : V.TI := ⟨.func, 1, 8, [.nilFunc], false⟩
theorem zq6 : Tw 33 ti33 = some ti33 := by kernel_rfl
def ti34 : V.TI := ⟨.int .i64, 1, 8, [.int .i64 0], false⟩
theorem zq5 : Tw 34 ti34 = some ti34 := by kernel_rfl
def ti36 : V.TI := ⟨.func, 1, 8, [.nilFunc], false⟩
theorem zq4 : Tw 36 ti36 = some ti36 := by kernel_rfl
def ti37 : V.TI := ⟨.func, 1, 8, [.nilFunc], false⟩
theorem zq3 : Tw 37 ti37 = some ti37 := by kernel_rfl
def ti38 : V.TI := ⟨.func, 1, 8, [.nilFunc], false⟩
theorem zq2 : Tw 38 ti38 = some ti38 := by kernel_rfl
def ti39 : V.TI := ⟨.func, 1, 8, [.nilFunc], false⟩
theorem zq1 : Tw 39 ti39 = some ti39 := by kernel_rfl
def ti40 : V.TI := ⟨.func, 1, 8, [.nilFunc], false⟩
theorem zq0 : Tw 40 ti40 = some ti40 := by kernel_rfl
def ti41 : V.TI := ⟨.func, 1, 8, [.nilFunc], false⟩
theorem zqz : Tw 41 ti41 = some ti41 := by kernel_rfl
def ti42 : V.TI := ⟨.slice 3, 1, 24, [.slice none 0 0], false⟩
theorem zqy : Tw 42 ti42 = some ti42 := by kernel_rfl
def ti43 : V.TI := ⟨.func, 1, 8, [.nilFunc], false⟩
theorem zqx : Tw 43 ti43 = some ti43 := by kernel_rfl
def ti44 : V.TI := ⟨.struct [(0, 2), (1, 2)], 2, 16, [.int .i64 0, .int .i64 0], true⟩
theorem zqw : Tw 44 ti44 = some ti44 := by kernel_rfl
def ti45 : V.TI := ⟨.struct [(0, 2), (1, 2)], 2, 16, [.int .i64 0, .int .i64 0], true⟩
theorem zqv : Tw 45 ti45 = some ti45 := by kernel_rfl
def ti46 : V.TI := ⟨.struct [(0, 3), (1, 3), (2, 3), (3, 45), (5, 3), (6, 3), (7, 3), (8, 3), (9, 3)], 10, 80, [.int .i64 0, .int .i64 0, .int .i64 0, .int .i64 0, .int .i64 0, .int .i64 0, .int .i64 0, .int .i64 0, .int .i64 0, .int .i64 0], true⟩
theorem zqu : Tw 46 ti46 = some ti46 := by kernel_rfl
def ti47 : V.TI := ⟨.struct [(0, 3), (1, 3), (2, 3), (3, 45), (5, 3), (6, 3), (7, 3), (8, 3), (9, 3)], 10, 80, [.int .i64 0, .int .i64 0, .int .i64 0, .int .i64 0, .int .i64 0, .int .i64 0, .int .i64 0, .int .i64 0, .int .i64 0, .int .i64 0], true⟩
theorem zqt : Tw 47 ti47 = some ti47 := by kernel_rfl
def ti48 : V.TI := ⟨.func, 1, 8, [.nilFunc], false⟩
theorem zqs : Tw 48 ti48 = some ti48 := by kernel_rfl
def ti49 : V.TI := ⟨.struct [(0, 3), (1, 3), (2, 3), (3, 3), (4, 3), (5, 3)], 6, 48, [.int .i64 0, .int .i64 0, .int .i64 0, .int .i64 0, .int .i64 0, .int .i64 0], true⟩
theorem zqr : Tw 49 ti49 = some ti49 := by kernel_rfl
def ti50 : V.TI := ⟨.struct [(0, 3), (1, 3), (2, 3), (3, 3), (4, 3), (5, 3)], 6, 48, [.int .i64 0, .int .i64 0, .int .i64 0, .int .i64 0, .int .i64 0, .int .i64 0], true⟩
theorem zqq : Tw 50 ti50 = some ti50 := by kernel_rfl
def ti51 : V.TI := ⟨.func, 1, 8, [.nilFunc], false⟩
theorem zqp : Tw 51 ti51 = some ti51 := by kernel_rfl
def ti52 : V.TI := ⟨.func, 1, 8, [.nilFunc], false⟩
theorem zqo : Tw 52 ti52 = some ti52 := by kernel_rfl
def ti53 : V.TI := ⟨.func, 1, 8, [.nilFunc], false⟩
theorem zqn : Tw 53 ti53 = some ti53 := by kernel_rfl
def ti54 : V.TI := ⟨.func, 1, 8, [.nilFunc], false⟩
theorem zqm : Tw 54 ti54 = some ti54 := by kernel_rfl
def ti55 : V.TI := ⟨.struct [(0, 2), (1, 2), (2, 3), (3, 3), (4, 3)], 5, 40, [.int .i64 0, .int .i64 0, .int .i64 0, .int .i64 0, .int .i64 0], true⟩
theorem zql : Tw 55 ti55 = some ti55 := by kernel_rfl
def ti56 : V.TI := ⟨.struct [(0, 2), (1, 2), (2, 3), (3, 3), (4, 3)], 5, 40, [.int .i64 0, .int .i64 0, .int .i64 0, .int .i64 0, .int .i64 0], true⟩
theorem zqk : Tw 56 ti56 = some ti56 := by kernel_rfl
def ti57 : V.TI := ⟨.func, 1, 8, [.nilFunc], false⟩
theorem zqj : Tw 57 ti57 = some ti57 := by kernel_rfl
def ti58 : V.TI := ⟨.func, 1, 8, [.nilFunc], false⟩
theorem zqi : Tw 58 ti58 = some ti58 := by kernel_rfl
def ti59 : V.TI := ⟨.slice 4, 1, 24, [.slice none 0 0], false⟩
theorem zqh : Tw 59 ti59 = some ti59 := by kernel_rfl
def ti60 : V.TI := ⟨.func, 1, 8, [.nilFunc], false⟩
theorem zqg : Tw 60 ti60 = some ti60 := by kernel_rfl
def ti61 : V.TI := ⟨.func, 1, 8, [.nilFunc], false⟩
theorem zqf : Tw 61 ti61 = some ti61 := by kernel_rfl
def ti62 : V.TI := ⟨.func, 1, 8, [.nilFunc], false⟩
theorem zqe : Tw 62 ti62 = some ti62 := by kernel_rfl
def ti63 : V.TI := ⟨.func, 1, 8, [.nilFunc], false⟩
theorem zqd : Tw 63 ti63 = some ti63 := by kernel_rfl
def ti64 : V.TI := ⟨.func, 1, 8, [.nilFunc], false⟩
theorem zqc : Tw 64 ti64 = some ti64 := by kernel_rfl
def ti65 : V.TI := ⟨.func, 1, 8, [.nilFunc], false⟩
theorem zqb : Tw 65 ti65 = some ti65 := by kernel_rfl
def ti66 : V.TI := ⟨.func, 1, 8, [.nilFunc], false⟩
theorem zqa : Tw 66 ti66 = some ti66 := by kernel_rfl
def ti67 : V.TI := ⟨.func, 1, 8, [.nilFunc], false⟩
theorem zp9 : Tw 67 ti67 = some ti67 := by kernel_rfl
def ti68 : V.TI := ⟨.func, 1, 8, [.nilFunc], false⟩
theorem zp8 : Tw 68 ti68 = some ti68 := by kernel_rfl
def ti69 : V.TI := ⟨.func, 1, 8, [.nilFunc], false⟩
theorem zp7 : Tw 69 ti69 = some ti69 := by kernel_rfl
def ti70 : V.TI := ⟨.func, 1, 8, [.nilFunc], false⟩
theorem zp6 : Tw 70 ti70 = some ti70 := by kernel_rfl
def ti71 : V.TI := ⟨.func, 1, 8, [.nilFunc], false⟩
theorem zp5 : Tw 71 ti71 = some ti71 := by kernel_rfl
def ti72 : V.TI := ⟨.func, 1, 8, [.nilFunc], false⟩
theorem zp4 : Tw 72 ti72 = some ti72 := by kernel_rfl
def ti73 : V.TI := ⟨.func, 1, 8, [.nilFunc], false⟩
theorem zp3 : Tw 73 ti73 = some ti73 := by kernel_rfl
def ti74 : V.TI := ⟨.func, 1, 8, [.nilFunc], false⟩
theorem zp2 : Tw 74 ti74 = some ti74 := by kernel_rfl
def ti76 : V.TI := ⟨.func, 1, 8, [.nilFunc], false⟩
theorem zp1 : Tw 76 ti76 = some ti76 := by kernel_rfl
def ti77 : V.TI := ⟨.func, 1, 8, [.nilFunc], false⟩
theorem zp0 : Tw 77 ti77 = some ti77 := by kernel_rfl
def ti78 : V.TI := ⟨.func, 1, 8, [.nilFunc], false⟩
theorem zpz : Tw 78 ti78 = some ti78 := by kernel_rfl
def ti79 : V.TI := ⟨.func, 1, 8, [.nilFunc], false⟩
theorem zpy : Tw 79 ti79 = some ti79 := by kernel_rfl
def ti80 : V.TI := ⟨.func, 1, 8, [.nilFunc], false⟩
theorem zpx : Tw 80 ti80 = some ti80 := by kernel_rfl
def ti81 : V.TI := ⟨.map 3 4, 1, 8, [.map none], false⟩
theorem zpw : Tw 81 ti81 = some ti81 := by kernel_rfl
def ti82 : V.TI := ⟨.func, 1, 8, [.nilFunc], false⟩
theorem zpv : Tw 82 ti82 = some ti82 := by kernel_rfl
def ti83 : V.TI := ⟨.ptr 104, 1, 8, [.pointer none], false⟩
theorem zpu : Tw 83 ti83 = some ti83 := by kernel_rfl
def ti84 : V.TI := ⟨.func, 1, 8, [.nilFunc], false⟩
theorem zpt : Tw 84 ti84 = some ti84 := by kernel_rfl
def ti85 : V.TI := ⟨.func, 1, 8, [.nilFunc], false⟩
theorem zps : Tw 85 ti85 = some ti85 := by kernel_rfl
def ti86 : V.TI := ⟨.func, 1, 8, [.nilFunc], false⟩
theorem zpr : Tw 86 ti86 = some ti86 := by kernel_rfl
def ti87 : V.TI := ⟨.func, 1, 8, [.nilFunc], false⟩
theorem zpq : Tw 87 ti87 = some ti87 := by kernel_rfl
def ti88 : V.TI := ⟨.func, 1, 8, [.nilFunc], false⟩
theorem zpp : Tw 88 ti88 = some ti88 := by kernel_rfl
def ti89 : V.TI := ⟨.func, 1, 8, [.nilFunc], false⟩
theorem zpo : Tw 89 ti89 = some ti89 := by kernel_rfl
def ti90 : V.TI := ⟨.func, 1, 8, [.nilFunc], false⟩
theorem zpn : Tw 90 ti90 = some ti90 := by kernel_rfl
def ti91 : V.TI := ⟨.func, 1, 8, [.nilFunc], false⟩
theorem zpm : Tw 91 ti91 = some ti91 := by kernel_rfl
def ti92 : V.TI := ⟨.func, 1, 8, [.nilFunc], false⟩
theorem zpl : Tw 92 ti92 = some ti92 := by kernel_rfl
def ti93 : V.TI := ⟨.func, 1, 8, [.nilFunc], false⟩
theorem zpk : Tw 93 ti93 = some ti93 := by kernel_rfl
def ti94 : V.TI := ⟨.func, 1, 8, [.nilFunc], false⟩
theorem zpj : Tw 94 ti94 = some ti94 := by kernel_rfl
def ti95 : V.TI := ⟨.func, 1, 8, [.nilFunc], false⟩
theorem zpi : Tw 95 ti95 = some ti95 := by kernel_rfl
def ti96 : V.TI := ⟨.func, 1, 8, [.nilFunc], false⟩
theorem zph : Tw 96 ti96 = some ti96 := by kernel_rfl
def ti97 : V.TI := ⟨.func, 1, 8, [.nilFunc], false⟩
theorem zpg : Tw 97 ti97 = some ti97 := by kernel_rfl
def ti98 : V.TI := ⟨.func, 1, 8, [.nilFunc], false⟩
theorem zpf : Tw 98 ti98 = some ti98 := by kernel_rfl
def ti99 : V.TI := ⟨.func, 1, 8, [.nilFunc], false⟩
theorem zpe : Tw 99 ti99 = some ti99 := by kernel_rfl
def ti100 : V.TI := ⟨.ptr 128, 1, 8, [.pointer none], false⟩
theorem znr : Tw 100 ti100 = some ti100 := by kernel_rfl
def ti101 : V.TI := ⟨.func, 1, 8, [.nilFunc], false⟩
theorem znq : Tw 101 ti101 = some ti101 := by kernel_rfl
def ti102 : V.TI := ⟨.array 3 59, 3, 72, [.slice none 0 0, .slice none 0 0, .slice none 0 0], false⟩
theorem znp : Tw 102 ti102 = some ti102 := by kernel_rfl
def ti103 : V.TI := ⟨.struct [(0, 30), (8, 102), (11, 100)], 12, 192, [.int .i64 0, .int .i64 0, .int .i64 0, .int .i64 0, .int .i64 0, .slice none 0 0, .slice none 0 0, .slice none 0 0, .slice none 0 0, .slice none 0 0, .slice none 0 0, .pointer none], true⟩
theorem zno : Tw 103 ti103 = some ti103 := by kernel_rfl
def ti104 : V.TI := ⟨.struct [(0, 30), (8, 102), (11, 100)], 12, 192, [.int .i64 0, .int .i64 0, .int .i64 0, .int .i64 0, .int .i64 0, .slice none 0 0, .slice none 0 0, .slice none 0 0, .slice none 0 0, .slice none 0 0, .slice none 0 0, .pointer none], true⟩
theorem znn : Tw 104 ti104 = some ti104 := by kernel_rfl
def ti105 : V.TI := ⟨.func, 1, 8, [.nilFunc], false⟩
theorem znm : Tw 105 ti105 = some ti105 := by kernel_rfl
def ti106 : V.TI := ⟨.func, 1, 8, [.nilFunc], false⟩
theorem znl : Tw 106 ti106 = some ti106 := by kernel_rfl
def ti107 : V.TI := ⟨.func, 1, 8, [.nilFunc], false⟩
theorem znk : Tw 107 ti107 = some ti107 := by kernel_rfl
def ti108 : V.TI := ⟨.func, 1, 8, [.nilFunc], false⟩
theorem znj : Tw 108 ti108 = some ti108 := by kernel_rfl
def ti109 : V.TI := ⟨.map 3 3, 1, 8, [.map none], false⟩
theorem zni : Tw 109 ti109 = some ti109 := by kernel_rfl
def ti111 : V.TI := ⟨.func, 1, 8, [.nilFunc], false⟩
theorem znh : Tw 111 ti111 = some ti111 := by kernel_rfl
def ti112 : V.TI := ⟨.func, 1, 8, [.nilFunc], false⟩
theorem zng : Tw 112 ti112 = some ti112 := by kernel_rfl
def ti113 : V.TI := ⟨.func, 1, 8, [.nilFunc], false⟩
theorem znf : Tw 113 ti113 = some ti113 := by kernel_rfl
def ti114 : V.TI := ⟨.func, 1, 8, [.nilFunc], false⟩
theorem zne : Tw 114 ti114 = some ti114 := by kernel_rfl
def ti115 : V.TI := ⟨.func, 1, 8, [.nilFunc], false⟩
theorem znd : Tw 115 ti115 = some ti115 := by kernel_rfl
def ti116 : V.TI := ⟨.func, 1, 8, [.nilFunc], false⟩
theorem znc : Tw 116 ti116 = some ti116 := by kernel_rfl
def ti117 : V.TI := ⟨.int .u64, 1, 8, [.int .u64 0], false⟩
theorem znb : Tw 117 ti117 = some ti117 := by kernel_rfl
def ti118 : V.TI := ⟨.struct [(0, 117), (1, 117)], 2, 16, [.int .u64 0, .int .u64 0], true⟩
theorem zna : Tw 118 ti118 = some ti118 := by kernel_rfl
def ti119 : V.TI := ⟨.struct [(0, 117), (1, 117)], 2, 16, [.int .u64 0, .int .u64 0], true⟩
theorem zm9 : Tw 119 ti119 = some ti119 := by kernel_rfl
def ti120 : V.TI := ⟨.func, 1, 8, [.nilFunc], false⟩
theorem zm8 : Tw 120 ti120 = some ti120 := by kernel_rfl
def ti121 : V.TI := ⟨.func, 1, 8, [.nilFunc], false⟩
theorem zm7 : Tw 121 ti121 = some ti121 := by kernel_rfl
def ti122 : V.TI := ⟨.func, 1, 8, [.nilFunc], false⟩
theorem zm6 : Tw 122 ti122 = some ti122 := by kernel_rfl
def ti123 : V.TI := ⟨.func, 1, 8, [.nilFunc], false⟩
theorem zm5 : Tw 123 ti123 = some ti123 := by kernel_rfl
def ti124 : V.TI := ⟨.func, 1, 8, [.nilFunc], false⟩
theorem zm4 : Tw 124 ti124 = some ti124 := by kernel_rfl
def ti125 : V.TI := ⟨.map 3 45, 1, 8, [.map none], false⟩
theorem zm3 : Tw 125 ti125 = some ti125 := by kernel_rfl
def ti126 : V.TI := ⟨.map 130 42, 1, 8, [.map none], false⟩
theorem zm2 : Tw 126 ti126 = some ti126 := by kernel_rfl
def ti127 : V.TI := ⟨.struct [(0, 125), (1, 126)], 2, 16, [.map none, .map none], true⟩
theorem zm1 : Tw 127 ti127 = some ti127 := by kernel_rfl
def ti128 : V.TI := ⟨.struct [(0, 125), (1, 126)], 2, 16, [.map none, .map none], true⟩
theorem zm0 : Tw 128 ti128 = some ti128 := by kernel_rfl
def ti129 : V.TI := ⟨.struct [(0, 2), (1, 2)], 2, 16, [.int .i64 0, .int .i64 0], true⟩
theorem zmz : Tw 129 ti129 = some ti129 := by kernel_rfl
def ti130 : V.TI := ⟨.struct [(0, 2), (1, 2)], 2, 16, [.int .i64 0, .int .i64 0], true⟩
theorem zmy : Tw 130 ti130 = some ti130 := by kernel_rfl
def ti131 : V.TI := ⟨.func, 1, 8, [.nilFunc], false⟩
theorem zmx : Tw 131 ti131 = some ti131 := by kernel_rfl
def ti132 : V.TI := ⟨.func, 1, 8, [.nilFunc], false⟩
theorem zmw : Tw 132 ti132 = some ti132 := by kernel_rfl
def ti133 : V.TI := ⟨.func, 1, 8, [.nilFunc], false⟩
theorem zmv : Tw 133 ti133 = some ti133 := by kernel_rfl
def ti134 : V.TI := ⟨.func, 1, 8, [.nilFunc], false⟩
theorem zmu : Tw 134 ti134 = some ti134 := by kernel_rfl
def ti135 : V.TI := ⟨.func, 1, 8, [.nilFunc], false⟩
theorem zmt : Tw 135 ti135 = some ti135 := by kernel_rfl
def ti136 : V.TI := ⟨.func, 1, 8, [.nilFunc], false⟩
theorem zms : Tw 136 ti136 = some ti136 := by kernel_rfl
def ti137 : V.TI := ⟨.func, 1, 8, [.nilFunc], false⟩
theorem zmr : Tw 137 ti137 = some ti137 := by kernel_rfl
def ti138 : V.TI := ⟨.func, 1, 8, [.nilFunc], false⟩
theorem zmq : Tw 138 ti138 = some ti138 := by kernel_rfl
def ti139 : V.TI := ⟨.array 6 3, 6, 48, [.int .i64 0, .int .i64 0, .int .i64 0, .int .i64 0, .int .i64 0, .int .i64 0], false⟩
theorem zmp : Tw 139 ti139 = some ti139 := by kernel_rfl
def ti140 : V.TI := ⟨.array 3 139, 18, 144, [.int .i64 0, .int .i64 0, .int .i64 0, .int .i64 0, .int .i64 0, .int .i64 0, .int .i64 0, .int .i64 0, .int .i64 0, .int .i64 0, .int .i64 0, .int .i64 0, .int .i64 0, .int .i64 0, .int .i64 0, .int .i64 0, .int .i64 0, .int .i64 0], false⟩
theorem zmo : Tw 140 ti140 = some ti140 := by kernel_rfl
def ti141 : V.TI := ⟨.func, 1, 8, [.nilFunc], false⟩
theorem zmn : Tw 141 ti141 = some ti141 := by kernel_rfl
def ti142 : V.TI := ⟨.func, 1, 8, [.nilFunc], false⟩
theorem zmm : Tw 142 ti142 = some ti142 := by kernel_rfl
def ti143 : V.TI := ⟨.func, 1, 8, [.nilFunc], false⟩
theorem zml : Tw 143 ti143 = some ti143 := by kernel_rfl
def ti144 : V.TI := ⟨.int .u64, 1, 8, [.int .u64 0], false⟩
theorem zmk : Tw 144 ti144 = some ti144 := by kernel_rfl
def ti145 : V.TI := ⟨.func, 1, 8, [.nilFunc], false⟩
theorem zmj : Tw 145 ti145 = some ti145 := by kernel_rfl
def ti147 : V.TI := ⟨.func, 1, 8, [.nilFunc], false⟩
theorem zmi : Tw 147 ti147 = some ti147 := by kernel_rfl
def ti148 : V.TI := ⟨.func, 1, 8, [.nilFunc], false⟩
theorem zmh : Tw 148 ti148 = some ti148 := by kernel_rfl
def ti149 : V.TI := ⟨.func, 1, 8, [.nilFunc], false⟩
theorem zmg : Tw 149 ti149 = some ti149 := by kernel_rfl
def ti150 : V.TI := ⟨.func, 1, 8, [.nilFunc], false⟩
theorem zmf : Tw 150 ti150 = some ti150 := by kernel_rfl
def ti151 : V.TI := ⟨.func, 1, 8, [.nilFunc], false⟩
theorem zme : Tw 151 ti151 = some ti151 := by kernel_rfl
def ti152 : V.TI := ⟨.func, 1, 8, [.nilFunc], false⟩
theorem zmd : Tw 152 ti152 = some ti152 := by kernel_rfl
def ti153 : V.TI := ⟨.struct [(0, 117), (1, 117)], 2, 16, [.int .u64 0, .int .u64 0], true⟩
theorem zmc : Tw 153 ti153 = some ti153 := by kernel_rfl
def ti154 : V.TI := ⟨.func, 1, 8, [.nilFunc], false⟩
theorem zmb : Tw 154 ti154 = some ti154 := by kernel_rfl
def ti155 : V.TI := ⟨.func, 1, 8, [.nilFunc], false⟩
theorem zma : Tw 155 ti155 = some ti155 := by kernel_rfl
def ti156 : V.TI := ⟨.func, 1, 8, [.nilFunc], false⟩
theorem zl9 : Tw 156 ti156 = some ti156 := by kernel_rfl
def ti157 : V.TI := ⟨.func, 1, 8, [.nilFunc], false⟩
theorem zl8 : Tw 157 ti157 = some ti157 := by kernel_rfl
def ti158 : V.TI := ⟨.func, 1, 8, [.nilFunc], false⟩
theorem zl7 : Tw 158 ti158 = some ti158 := by kernel_rfl
def ti159 : V.TI := ⟨.func, 1, 8, [.nilFunc], false⟩
theorem zl6 : Tw 159 ti159 = some ti159 := by kernel_rfl
def ti161 : V.TI := ⟨.func, 1, 8, [.nilFunc], false⟩
theorem zl5 : Tw 161 ti161 = some ti161 := by kernel_rfl
def ti162 : V.TI := ⟨.func, 1, 8, [.nilFunc], false⟩
theorem zl4 : Tw 162 ti162 = some ti162 := by kernel_rfl
def ti164 : V.TI := ⟨.func, 1, 8, [.nilFunc], false⟩
theorem zl3 : Tw 164 ti164 = some ti164 := by kernel_rfl
def ti165 : V.TI := ⟨.func, 1, 8, [.nilFunc], false⟩
theorem zl2 : Tw 165 ti165 = some ti165 := by kernel_rfl
def ti166 : V.TI := ⟨.int .i64, 1, 8, [.int .i64 0], false⟩
theorem zl1 : Tw 166 ti166 = some ti166 := by kernel_rfl
def ti168 : V.TI := ⟨.func, 1, 8, [.nilFunc], false⟩
theorem zl0 : Tw 168 ti168 = some ti168 := by kernel_rfl
def ti169 : V.TI := ⟨.func, 1, 8, [.nilFunc], false⟩
theorem zlz : Tw 169 ti169 = some ti169 := by kernel_rfl
def ti170 : V.TI := ⟨.func, 1, 8, [.nilFunc], false⟩
theorem zly : Tw 170 ti170 = some ti170 := by kernel_rfl
def ti171 : V.TI := ⟨.func, 1, 8, [.nilFunc], false⟩
theorem zlx : Tw 171 ti171 = some ti171 := by kernel_rfl
def ti172 : V.TI := ⟨.func, 1, 8, [.nilFunc], false⟩
theorem zlw : Tw 172 ti172 = some ti172 := by kernel_rfl
def ti173 : V.TI := ⟨.int .u32, 1, 4, [.int .u32 0], false⟩
theorem zlv : Tw 173 ti173 = some ti173 := by kernel_rfl
def ti174 : V.TI := ⟨.func, 1, 8, [.nilFunc], false⟩
theorem zlu : Tw 174 ti174 = some ti174 := by kernel_rfl
def ti175 : V.TI := ⟨.func, 1, 8, [.nilFunc], false⟩
theorem zlt : Tw 175 ti175 = some ti175 := by kernel_rfl
def ti176 : V.TI := ⟨.int .u64, 1, 8, [.int .u64 0], false⟩
theorem zls : Tw 176 ti176 = some ti176 := by kernel_rfl
def ti177 : V.TI := ⟨.func, 1, 8, [.nilFunc], false⟩
theorem zlr : Tw 177 ti177 = some ti177 := by kernel_rfl
def ti178 : V.TI := ⟨.func, 1, 8, [.nilFunc], false⟩
theorem zlq : Tw 178 ti178 = some ti178 := by kernel_rfl
def ti179 : V.TI := ⟨.func, 1, 8, [.nilFunc], false⟩
theorem zlp : Tw 179 ti179 = some ti179 := by kernel_rfl
def ti180 : V.TI := ⟨.ptr 3, 1, 8, [.pointer none], false⟩
theorem zlo : Tw 180 ti180 = some ti180 := by kernel_rfl
def ti181 : V.TI := ⟨.func, 1, 8, [.nilFunc], false⟩
theorem zln : Tw 181 ti181 = some ti181 := by kernel_rfl
def ti182 : V.TI := ⟨.ptr 176, 1, 8, [.pointer none], false⟩
theorem zlm : Tw 182 ti182 = some ti182 := by kernel_rfl
def ti184 : V.TI := ⟨.func, 1, 8, [.nilFunc], false⟩
theorem zll : Tw 184 ti184 = some ti184 := by kernel_rfl
def ti185 : V.TI := ⟨.func, 1, 8, [.nilFunc], false⟩
theorem zlk : Tw 185 ti185 = some ti185 := by kernel_rfl
def ti186 : V.TI := ⟨.struct [(0, 17), (1, 17), (2, 17), (3, 9)], 4, 40, [.pointer none, .pointer none, .pointer none, .string ⟨#[]⟩], false⟩
theorem zlj : Tw 186 ti186 = some ti186 := by kernel_rfl
def ti187 : V.TI := ⟨.struct [(0, 17), (1, 17), (2, 17), (3, 9)], 4, 40, [.pointer none, .pointer none, .pointer none, .string ⟨#[]⟩], false⟩
theorem zli : Tw 187 ti187 = some ti187 := by kernel_rfl
def ti188 : V.TI := ⟨.array 0 16, 0, 0, [], false⟩
theorem zlh : Tw 188 ti188 = some ti188 := by kernel_rfl
def ti189 : V.TI := ⟨.struct [(0, 188)], 0, 0, [], false⟩
theorem zlg : Tw 189 ti189 = some ti189 := by kernel_rfl
def ti190 : V.TI := ⟨.struct [(0, 188)], 0, 0, [], false⟩
theorem zlf : Tw 190 ti190 = some ti190 := by kernel_rfl
def ti191 : V.TI := ⟨.func, 1, 8, [.nilFunc], false⟩
theorem zle : Tw 191 ti191 = some ti191 := by kernel_rfl
def ti192 : V.TI := ⟨.int .u8, 1, 1, [.int .u8 0], false⟩
theorem zld : Tw 192 ti192 = some ti192 := by kernel_rfl
def ti193 : V.TI := ⟨.int .u8, 1, 1, [.int .u8 0], false⟩
theorem zlc : Tw 193 ti193 = some ti193 := by kernel_rfl
def ti194 : V.TI := ⟨.func, 1, 8, [.nilFunc], false⟩
theorem zlb : Tw 194 ti194 = some ti194 := by kernel_rfl
def ti195 : V.TI := ⟨.ptr 5, 1, 8, [.pointer none], false⟩
theorem zla : Tw 195 ti195 = some ti195 := by kernel_rfl
def ti196 : V.TI := ⟨.int .i32, 1, 4, [.int .i32 0], false⟩
theorem zk9 : Tw 196 ti196 = some ti196 := by kernel_rfl
def ti197 : V.TI := ⟨.int .i32, 1, 4, [.int .i32 0], false⟩
theorem zk8 : Tw 197 ti197 = some ti197 := by kernel_rfl
def ti198 : V.TI := ⟨.struct [(0, 12), (1, 12), (2, 173), (3, 192), (4, 5), (5, 5), (6, 193), (7, 194), (8, 195), (9, 196), (10, 197)], 11, 48, [.int .u64 0, .int .u64 0, .int .u32 0, .int .u8 0, .int .u8 0, .int .u8 0, .int .u8 0, .nilFunc, .pointer none, .int .i32 0, .int .i32 0], false⟩
theorem zk7 : Tw 198 ti198 = some ti198 := by kernel_rfl
def ti199 : V.TI := ⟨.struct [(0, 12), (1, 12), (2, 173), (3, 192), (4, 5), (5, 5), (6, 193), (7, 194), (8, 195), (9, 196), (10, 197)], 11, 48, [.int .u64 0, .int .u64 0, .int .u32 0, .int .u8 0, .int .u8 0, .int .u8 0, .int .u8 0, .nilFunc, .pointer none, .int .i32 0, .int .i32 0], false⟩
theorem zk6 : Tw 199 ti199 = some ti199 := by kernel_rfl
def ti200 : V.TI := ⟨.func, 1, 8, [.nilFunc], false⟩
theorem zk5 : Tw 200 ti200 = some ti200 := by kernel_rfl
def ti201 : V.TI := ⟨.func, 1, 8, [.nilFunc], false⟩
theorem zk4 : Tw 201 ti201 = some ti201 := by kernel_rfl
def ti202 : V.TI := ⟨.other, 1, 8, [.pointer none], false⟩
theorem zk3 : Tw 202 ti202 = some ti202 := by kernel_rfl
def infoTree : V.Tr := (.node 100 (.node 50 (.node 25 (.node 13 (.node 7 (.node 4 (.node 2 (.node 1 .nil ti1 .nil) ti2 (.node 3 .nil ti3 .nil)) ti4 (.node 6 (.node 5 .nil ti5 .nil) ti6 .nil)) ti7 (.node 10 (.node 9 (.node 8 .nil ti8 .nil) ti9 .nil) ti10 (.node 12 (.node 11 .nil ti11 .nil) ti12 .nil))) ti13 (.node 19 (.node 16 (.node 15 (.node 14 .nil ti14 .nil) ti15 .nil) ti16 (.node 18 (.node 17 .nil ti17 .nil) ti18 .nil)) ti19 (.node 22 (.node 21 (.node 20 .nil ti20 .nil) ti21 .nil) ti22 (.node 24 (.node 23 .nil ti23 .nil) ti24 .nil)))) ti25 (.node 38 (.node 31 (.node 28 (.node 27 (.node 26 .nil ti26 .nil) ti27 .nil) ti28 (.node 30 (.node 29 .nil ti29 .nil) ti30 .nil)) ti31 (.node 34 (.node 33 (.node 32 .nil ti32 .nil) ti33 .nil) ti34 (.node 37 (.node 36 .nil ti36 .nil) ti37 .nil))) ti38 (.node 44 (.node 41 (.node 40 (.node 39 .nil ti39 .nil) ti40 .nil) ti41 (.node 43 (.node 42 .nil ti42 .nil) ti43 .nil)) ti44 (.node 47 (.node 46 (.node 45 .nil ti45 .nil) ti46 .nil) ti47 (.node 49 (.node 48 .nil ti48 .nil) ti49 .nil))))) ti50 (.node 76 (.node 63 (.node 57 (.node 54 (.node 52 (.node 51 .nil ti51 .nil) ti52 (.node 53 .nil ti53 .nil)) ti54 (.node 56 (.node 55 .nil ti55 .nil) ti56 .nil)) ti57 (.node 60 (.node 59 (.node 58 .nil ti58 .nil) ti59 .nil) ti60 (.node 62 (.node 61 .nil ti61 .nil) ti62 .nil))) ti63 (.node 69 (.node 66 (.node 65 (.node 64 .nil ti64 .nil) ti65 .nil) ti66 (.node 68 (.node 67 .nil ti67 .nil) ti68 .nil)) ti69 (.node 72 (.node 71 (.node 70 .nil ti70 .nil) ti71 .nil) ti72 (.node 74 (.node 73 .nil ti73 .nil) ti74 .nil)))) ti76 (.node 88 (.node 82 (.node 79 (.node 78 (.node 77 .nil ti77 .nil) ti78 .nil) ti79 (.node 81 (.node 80 .nil ti80 .nil) ti81 .nil)) ti82 (.node 85 (.node 84 (.node 83 .nil ti83 .nil) ti84 .nil) ti85 (.node 87 (.node 86 .nil ti86 .nil) ti87 .nil))) ti88 (.node 94 (.node 91 (.node 90 (.node 89 .nil ti89 .nil) ti90 .nil) ti91 (.node 93 (.node 92 .nil ti92 .nil) ti93 .nil)) ti94 (.node 97 (.node 96 (.node 95 .nil ti95 .nil) ti96 .nil) ti97 (.node 99 (.node 98 .nil ti98 .nil) ti99 .nil)))))) ti100 (.node 151 (.node 126 (.node 114 (.node 107 (.node 104 (.node 102 (.node 101 .nil ti101 .nil) ti102 (.node 103 .nil ti103 .nil)) ti104 (.node 106 (.node 105 .nil ti105 .nil) ti106 .nil)) ti107 (.node 111 (.node 109 (.node 108 .nil ti108 .nil) ti109 .nil) ti111 (.node 113 (.node 112 .nil ti112 .nil) ti113 .nil))) ti114 (.node 120 (.node 117 (.node 116 (.node 115 .nil ti115 .nil) ti116 .nil) ti117 (.node 119 (.node 118 .nil ti118 .nil) ti119 .nil)) ti120 (.node 123 (.node 122 (.node 121 .nil ti121 .nil) ti122 .nil) ti123 (.node 125 (.node 124 .nil ti124 .nil) ti125 .nil)))) ti126 (.node 138 (.node 132 (.node 129 (.node 128 (.node 127 .nil ti127 .nil) ti128 .nil) ti129 (.node 131 (.node 130 .nil ti130 .nil) ti131 .nil)) ti132 (.node 135 (.node 134 (.node 133 .nil ti133 .nil) ti134 .nil) ti135 (.node 137 (.node 136 .nil ti136 .nil) ti137 .nil))) ti138 (.node 144 (.node 141 (.node 140 (.node 139 .nil ti139 .nil) ti140 .nil) ti141 (.node 143 (.node 142 .nil ti142 .nil) ti143 .nil)) ti144 (.node 148 (.node 147 (.node 145 .nil ti145 .nil) ti147 .nil) ti148 (.node 150 (.node 149 .nil ti149 .nil) ti150 .nil))))) ti151 (.node 178 (.node 165 (.node 157 (.node 154 (.node 153 (.node 152 .nil ti152 .nil) ti153 .nil) ti154 (.node 156 (.node 155 .nil ti155 .nil) ti156 .nil)) ti157 (.node 161 (.node 159 (.node 158 .nil ti158 .nil) ti159 .nil) ti161 (.node 164 (.node 162 .nil ti162 .nil) ti164 .nil))) ti165 (.node 172 (.node 169 (.node 168 (.node 166 .nil ti166 .nil) ti168 .nil) ti169 (.node 171 (.node 170 .nil ti170 .nil) ti171 .nil)) ti172 (.node 175 (.node 174 (.node 173 .nil ti173 .nil) ti174 .nil) ti175 (.node 177 (.node 176 .nil ti176 .nil) ti177 .nil)))) ti178 (.node 191 (.node 185 (.node 181 (.node 180 (.node 179 .nil ti179 .nil) ti180 .nil) ti181 (.node 184 (.node 182 .nil ti182 .nil) ti184 .nil)) ti185 (.node 188 (.node 187 (.node 186 .nil ti186 .nil) ti187 .nil) ti188 (.node 190 (.node 189 .nil ti189 .nil) ti190 .nil))) ti191 (.node 197 (.node 194 (.node 193 (.node 192 .nil ti192 .nil) ti193 .nil) ti194 (.node 196 (.node 195 .nil ti195 .nil) ti196 .nil)) ti197 (.node 200 (.node 199 (.node 198 .nil ti198 .nil) ti199 .nil) ti200 (.node 202 (.node 201 .nil ti201 .nil) ti202 .nil)))))))
theorem zfl : infoTree.all Tryz.prog := ⟨znr, ⟨zqq, ⟨zre, ⟨zrq, ⟨zta, ⟨ztd, ⟨ztf, ⟨ztg, Tv, Tv⟩, ⟨zte, Tv, Tv⟩⟩, ⟨ztb, ⟨ztc, Tv, Tv⟩, Tv⟩⟩, ⟨zrt, ⟨zs8, ⟨zs9, Tv, Tv⟩, Tv⟩, ⟨zrr, ⟨zrs, Tv, Tv⟩, Tv⟩⟩⟩, ⟨zrk, ⟨zrn, ⟨zro, ⟨zrp, Tv, Tv⟩, Tv⟩, ⟨zrl, ⟨zrm, Tv, Tv⟩, Tv⟩⟩, ⟨zrh, ⟨zri, ⟨zrj, Tv, Tv⟩, Tv⟩, ⟨zrf, ⟨zrg, Tv, Tv⟩, Tv⟩⟩⟩⟩, ⟨zq2, ⟨zq8, ⟨zrb, ⟨zrc, ⟨zrd, Tv, Tv⟩, Tv⟩, ⟨zq9, ⟨zra, Tv, Tv⟩, Tv⟩⟩, ⟨zq5, ⟨zq6, ⟨zq7, Tv, Tv⟩, Tv⟩, ⟨zq3, ⟨zq4, Tv, Tv⟩, Tv⟩⟩⟩, ⟨zqw, ⟨zqz, ⟨zq0, ⟨zq1, Tv, Tv⟩, Tv⟩, ⟨zqx, ⟨zqy, Tv, Tv⟩, Tv⟩⟩, ⟨zqt, ⟨zqu, ⟨zqv, Tv, Tv⟩, Tv⟩, ⟨zqr, ⟨zqs, Tv, Tv⟩, Tv⟩⟩⟩⟩⟩, ⟨zp1, ⟨zqd, ⟨zqj, ⟨zqm, ⟨zqo, ⟨zqp, Tv, Tv⟩, ⟨zqn, Tv, Tv⟩⟩, ⟨zqk, ⟨zql, Tv, Tv⟩, Tv⟩⟩, ⟨zqg, ⟨zqh, ⟨zqi, Tv, Tv⟩, Tv⟩, ⟨zqe, ⟨zqf, Tv, Tv⟩, Tv⟩⟩⟩, ⟨zp7, ⟨zqa, ⟨zqb, ⟨zqc, Tv, Tv⟩, Tv⟩, ⟨zp8, ⟨zp9, Tv, Tv⟩, Tv⟩⟩, ⟨zp4, ⟨zp5, ⟨zp6, Tv, Tv⟩, Tv⟩, ⟨zp2, ⟨zp3, Tv, Tv⟩, Tv⟩⟩⟩⟩, ⟨zpp, ⟨zpv, ⟨zpy, ⟨zpz, ⟨zp0, Tv, Tv⟩, Tv⟩, ⟨zpw, ⟨zpx, Tv, Tv⟩, Tv⟩⟩, ⟨zps, ⟨zpt, ⟨zpu, Tv, Tv⟩, Tv⟩, ⟨zpq, ⟨zpr, Tv, Tv⟩, Tv⟩⟩⟩, ⟨zpj, ⟨zpm, ⟨zpn, ⟨zpo, Tv, Tv⟩, Tv⟩, ⟨zpk, ⟨zpl, Tv, Tv⟩, Tv⟩⟩, ⟨zpg, ⟨zph, ⟨zpi, Tv, Tv⟩, Tv⟩, ⟨zpe, ⟨zpf, Tv, Tv⟩, Tv⟩⟩⟩⟩⟩⟩, ⟨zme, ⟨zm2, ⟨zne, ⟨znk, ⟨znn, ⟨znp, ⟨znq, Tv, Tv⟩, ⟨zno, Tv, Tv⟩⟩, ⟨znl, ⟨znm, Tv, Tv⟩, Tv⟩⟩, ⟨znh, ⟨zni, ⟨znj, Tv, Tv⟩, Tv⟩, ⟨znf, ⟨zng, Tv, Tv⟩, Tv⟩⟩⟩, ⟨zm8, ⟨znb, ⟨znc, ⟨znd, Tv, Tv⟩, Tv⟩, ⟨zm9, ⟨zna, Tv, Tv⟩, Tv⟩⟩, ⟨zm5, ⟨zm6, ⟨zm7, Tv, Tv⟩, Tv⟩, ⟨zm3, ⟨zm4, Tv, Tv⟩, Tv⟩⟩⟩⟩, ⟨zmq, ⟨zmw, ⟨zmz, ⟨zm0, ⟨zm1, Tv, Tv⟩, Tv⟩, ⟨zmx, ⟨zmy, Tv, Tv⟩, Tv⟩⟩, ⟨zmt, ⟨zmu, ⟨zmv, Tv, Tv⟩, Tv⟩, ⟨zmr, ⟨zms, Tv, Tv⟩, Tv⟩⟩⟩, ⟨zmk, ⟨zmn, ⟨zmo, ⟨zmp, Tv, Tv⟩, Tv⟩, ⟨zml, ⟨zmm, Tv, Tv⟩, Tv⟩⟩, ⟨zmh, ⟨zmi, ⟨zmj, Tv, Tv⟩, Tv⟩, ⟨zmf, ⟨zmg, Tv, Tv⟩, Tv⟩⟩⟩⟩⟩, ⟨zlq, ⟨zl2, ⟨zl8, ⟨zmb, ⟨zmc, ⟨zmd, Tv, Tv⟩, Tv⟩, ⟨zl9, ⟨zma, Tv, Tv⟩, Tv⟩⟩, ⟨zl5, ⟨zl6, ⟨zl7, Tv, Tv⟩, Tv⟩, ⟨zl3, ⟨zl4, Tv, Tv⟩, Tv⟩⟩⟩, ⟨zlw, ⟨zlz, ⟨zl0, ⟨zl1, Tv, Tv⟩, Tv⟩, ⟨zlx, ⟨zly, Tv, Tv⟩, Tv⟩⟩, ⟨zlt, ⟨zlu, ⟨zlv, Tv, Tv⟩, Tv⟩, ⟨zlr, ⟨zls, Tv, Tv⟩, Tv⟩⟩⟩⟩, ⟨zle, ⟨zlk, ⟨zln, ⟨zlo, ⟨zlp, Tv, Tv⟩, Tv⟩, ⟨zll, ⟨zlm, Tv, Tv⟩, Tv⟩⟩, ⟨zlh, ⟨zli, ⟨zlj, Tv, Tv⟩, Tv⟩, ⟨zlf, ⟨zlg, Tv, Tv⟩, Tv⟩⟩⟩, ⟨zk8, ⟨zlb, ⟨zlc, ⟨zld, Tv, Tv⟩, Tv⟩, ⟨zk9, ⟨zla, Tv, Tv⟩, Tv⟩⟩, ⟨zk5, ⟨zk6, ⟨zk7, Tv, Tv⟩, Tv⟩, ⟨zk3, ⟨zk4, Tv, Tv⟩, Tv⟩⟩⟩⟩⟩⟩⟩
end Go.Proofs
