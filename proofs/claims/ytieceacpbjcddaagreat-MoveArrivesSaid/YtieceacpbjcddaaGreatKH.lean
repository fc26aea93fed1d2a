/- Ground of laws of thronglaw24: contracts and plain lemmas; no condition beyond the row's own. -/
import Derived.KernelRfl
import Derived.Test.YtieceacpbjcddaaGreatProg
import Derived.Test.YtieceacpbjcddaaGreatKC
set_option linter.unusedSimpArgs false
set_option linter.unusedVariables false
set_option linter.defProp false
namespace Go.Proofs
open Go Go.V
noncomputable abbrev Tw (n : Nat) (t : V.TI) : Option V.TI := V.infoOf Tryz.prog n t.eq
def ti1 : V.TI := ⟨.func, 1, 8, [.nilFunc], false⟩
theorem zg9 : Tw 1 ti1 = some ti1 := by kernel_rfl
def ti2 : V.TI := ⟨.int .i64, 1, 8, [.int .i64 0], false⟩
theorem zeb : Tw 2 ti2 = some ti2 := by kernel_rfl
def ti3 : V.TI := ⟨.int .i64, 1, 8, [.int .i64 0], false⟩
theorem zbi : Tw 3 ti3 = some ti3 := by kernel_rfl
def ti4 : V.TI := ⟨.bool, 1, 1, [.bool false], false⟩
theorem sl : Tw 4 ti4 = some ti4 := by kernel_rfl
def ti5 : V.TI := ⟨.int .u8, 1, 1, [.int .u8 0], false⟩
theorem rf : Tw 5 ti5 = some ti5 := by kernel_rfl
def ti6 : V.TI := ⟨.int .u8, 1, 1, [.int .u8 0], false⟩
theorem p5 : Tw 6 ti6 = some ti6 := by kernel_rfl
def ti7 : V.TI := ⟨.struct [(0, 2), (1, 3), (2, 4), (3, 6)], 4, 24, [.int .i64 0, .int .i64 0, .bool false, .int .u8 0], true⟩
theorem pn : Tw 7 ti7 = some ti7 := by kernel_rfl
def ti8 : V.TI := ⟨.struct [(0, 2), (1, 3), (2, 4), (3, 6)], 4, 24, [.int .i64 0, .int .i64 0, .bool false, .int .u8 0], true⟩
theorem pc : Tw 8 ti8 = some ti8 := by kernel_rfl
def ti9 : V.TI := ⟨.str, 1, 16, [.string ⟨#[]⟩], false⟩
theorem oz : Tw 9 ti9 = some ti9 := by kernel_rfl
def ti10 : V.TI := ⟨.str, 1, 16, [.string ⟨#[]⟩], false⟩
theorem zjs : Tw 10 ti10 = some ti10 := by kernel_rfl
def ti11 : V.TI := ⟨.str, 1, 16, [.string ⟨#[]⟩], false⟩
theorem zjj : Tw 11 ti11 = some ti11 := by kernel_rfl
def ti12 : V.TI := ⟨.int .u64, 1, 8, [.int .u64 0], false⟩
theorem zja : Tw 12 ti12 = some ti12 := by kernel_rfl
def ti13 : V.TI := ⟨.struct [(0, 9), (1, 12)], 2, 24, [.string ⟨#[]⟩, .int .u64 0], false⟩
theorem zi0 : Tw 13 ti13 = some ti13 := by kernel_rfl
def ti14 : V.TI := ⟨.struct [(0, 9), (1, 12)], 2, 24, [.string ⟨#[]⟩, .int .u64 0], false⟩
theorem ziq : Tw 14 ti14 = some ti14 := by kernel_rfl
def ti15 : V.TI := ⟨.ptr 481, 1, 8, [.pointer none], false⟩
theorem zie : Tw 15 ti15 = some ti15 := by kernel_rfl
def ti16 : V.TI := ⟨.ptr 484, 1, 8, [.pointer none], false⟩
theorem zh5 : Tw 16 ti16 = some ti16 := by kernel_rfl
def ti17 : V.TI := ⟨.ptr 493, 1, 8, [.pointer none], false⟩
theorem zhu : Tw 17 ti17 = some ti17 := by kernel_rfl
def ti18 : V.TI := ⟨.struct [(0, 17)], 1, 8, [.pointer none], false⟩
theorem zhk : Tw 18 ti18 = some ti18 := by kernel_rfl
def ti19 : V.TI := ⟨.struct [(0, 17)], 1, 8, [.pointer none], false⟩
theorem zha : Tw 19 ti19 = some ti19 := by kernel_rfl
def ti20 : V.TI := ⟨.other, 1, 16, [.nilIface], false⟩
theorem zgy : Tw 20 ti20 = some ti20 := by kernel_rfl
def ti21 : V.TI := ⟨.int .i32, 1, 4, [.int .i32 0], false⟩
theorem zgn : Tw 21 ti21 = some ti21 := by kernel_rfl
def ti22 : V.TI := ⟨.slice 5, 1, 24, [.slice none 0 0], false⟩
theorem zgc : Tw 22 ti22 = some ti22 := by kernel_rfl
def ti23 : V.TI := ⟨.struct [(0, 3), (1, 3), (2, 22)], 3, 40, [.int .i64 0, .int .i64 0, .slice none 0 0], true⟩
theorem zf2 : Tw 23 ti23 = some ti23 := by kernel_rfl
def ti24 : V.TI := ⟨.struct [(0, 3), (1, 3), (2, 22)], 3, 40, [.int .i64 0, .int .i64 0, .slice none 0 0], true⟩
theorem zfr : Tw 24 ti24 = some ti24 := by kernel_rfl
def ti25 : V.TI := ⟨.slice 151, 1, 24, [.slice none 0 0], false⟩
theorem zfg : Tw 25 ti25 = some ti25 := by kernel_rfl
def ti26 : V.TI := ⟨.slice 38, 1, 24, [.slice none 0 0], false⟩
theorem ze5 : Tw 26 ti26 = some ti26 := by kernel_rfl
def ti27 : V.TI := ⟨.struct [(0, 3), (1, 3), (2, 3), (3, 24), (6, 25), (7, 26)], 8, 112, [.int .i64 0, .int .i64 0, .int .i64 0, .int .i64 0, .int .i64 0, .slice none 0 0, .slice none 0 0, .slice none 0 0], true⟩
theorem zeu : Tw 27 ti27 = some ti27 := by kernel_rfl
def ti28 : V.TI := ⟨.struct [(0, 3), (1, 3), (2, 3), (3, 24), (6, 25), (7, 26)], 8, 112, [.int .i64 0, .int .i64 0, .int .i64 0, .int .i64 0, .int .i64 0, .slice none 0 0, .slice none 0 0, .slice none 0 0], true⟩
theorem zel : Tw 28 ti28 = some ti28 := by kernel_rfl
def ti29 : V.TI := ⟨.slice 3, 1, 24, [.slice none 0 0], false⟩
theorem zec : Tw 29 ti29 = some ti29 := by kernel_rfl
def ti30 : V.TI := ⟨.slice 36, 1, 24, [.slice none 0 0], false⟩
theorem zd0 : Tw 30 ti30 = some ti30 := by kernel_rfl
def ti31 : V.TI := ⟨.struct [(0, 28), (8, 29), (9, 30)], 10, 160, [.int .i64 0, .int .i64 0, .int .i64 0, .int .i64 0, .int .i64 0, .slice none 0 0, .slice none 0 0, .slice none 0 0, .slice none 0 0, .slice none 0 0], true⟩
theorem zdp : Tw 31 ti31 = some ti31 := by kernel_rfl
def ti32 : V.TI := ⟨.struct [(0, 28), (8, 29), (9, 30)], 10, 160, [.int .i64 0, .int .i64 0, .int .i64 0, .int .i64 0, .int .i64 0, .slice none 0 0, .slice none 0 0, .slice none 0 0, .slice none 0 0, .slice none 0 0], true⟩
theorem zde : Tw 32 ti32 = some ti32 := by kernel_rfl
def ti33 : V.TI := ⟨.func, 1, 8, [.nilFunc], false⟩
theorem zc4 : Tw 33 ti33 = some ti33 := by kernel_rfl
def ti34 : V.TI := ⟨.func, 1, 8, [.nilFunc], false⟩
theorem zcv : Tw 34 ti34 = some ti34 := by kernel_rfl
def ti35 : V.TI := ⟨.struct [(0, 2), (1, 2)], 2, 16, [.int .i64 0, .int .i64 0], true⟩
theorem zcl : Tw 35 ti35 = some ti35 := by kernel_rfl
def ti36 : V.TI := ⟨.struct [(0, 2), (1, 2)], 2, 16, [.int .i64 0, .int .i64 0], true⟩
theorem zcc : Tw 36 ti36 = some ti36 := by kernel_rfl
def ti37 : V.TI := ⟨.struct [(0, 3), (1, 3), (2, 3), (3, 36), (5, 3), (6, 3), (7, 3), (8, 3), (9, 3)], 10, 80, [.int .i64 0, .int .i64 0, .int .i64 0, .int .i64 0, .int .i64 0, .int .i64 0, .int .i64 0, .int .i64 0, .int .i64 0, .int .i64 0], true⟩
theorem zb3 : Tw 37 ti37 = some ti37 := by kernel_rfl
def ti38 : V.TI := ⟨.struct [(0, 3), (1, 3), (2, 3), (3, 36), (5, 3), (6, 3), (7, 3), (8, 3), (9, 3)], 10, 80, [.int .i64 0, .int .i64 0, .int .i64 0, .int .i64 0, .int .i64 0, .int .i64 0, .int .i64 0, .int .i64 0, .int .i64 0, .int .i64 0], true⟩
theorem zbt : Tw 38 ti38 = some ti38 := by kernel_rfl
def ti39 : V.TI := ⟨.func, 1, 8, [.nilFunc], false⟩
theorem zbj : Tw 39 ti39 = some ti39 := by kernel_rfl
def ti40 : V.TI := ⟨.func, 1, 8, [.nilFunc], false⟩
theorem zba : Tw 40 ti40 = some ti40 := by kernel_rfl
def ti41 : V.TI := ⟨.struct [(0, 2), (1, 2), (2, 3), (3, 3), (4, 3)], 5, 40, [.int .i64 0, .int .i64 0, .int .i64 0, .int .i64 0, .int .i64 0], true⟩
theorem zaz : Tw 41 ti41 = some ti41 := by kernel_rfl
def ti42 : V.TI := ⟨.struct [(0, 2), (1, 2), (2, 3), (3, 3), (4, 3)], 5, 40, [.int .i64 0, .int .i64 0, .int .i64 0, .int .i64 0, .int .i64 0], true⟩
theorem zap : Tw 42 ti42 = some ti42 := by kernel_rfl
def ti43 : V.TI := ⟨.func, 1, 8, [.nilFunc], false⟩
theorem zad : Tw 43 ti43 = some ti43 := by kernel_rfl
def ti44 : V.TI := ⟨.func, 1, 8, [.nilFunc], false⟩
theorem uw : Tw 44 ti44 = some ti44 := by kernel_rfl
def ti45 : V.TI := ⟨.func, 1, 8, [.nilFunc], false⟩
theorem ui : Tw 45 ti45 = some ti45 := by kernel_rfl
def ti46 : V.TI := ⟨.int .i64, 1, 8, [.int .i64 0], false⟩
theorem tw : Tw 46 ti46 = some ti46 := by kernel_rfl
def ti48 : V.TI := ⟨.func, 1, 8, [.nilFunc], false⟩
theorem s6 : Tw 48 ti48 = some ti48 := by kernel_rfl
def ti49 : V.TI := ⟨.func, 1, 8, [.nilFunc], false⟩
theorem sm : Tw 49 ti49 = some ti49 := by kernel_rfl
def ti50 : V.TI := ⟨.slice 4, 1, 24, [.slice none 0 0], false⟩
theorem r8 : Tw 50 ti50 = some ti50 := by kernel_rfl
def ti51 : V.TI := ⟨.func, 1, 8, [.nilFunc], false⟩
theorem ro : Tw 51 ti51 = some ti51 := by kernel_rfl
def ti52 : V.TI := ⟨.func, 1, 8, [.nilFunc], false⟩
theorem rn : Tw 52 ti52 = some ti52 := by kernel_rfl
def ti53 : V.TI := ⟨.func, 1, 8, [.nilFunc], false⟩
theorem rm : Tw 53 ti53 = some ti53 := by kernel_rfl
def ti54 : V.TI := ⟨.slice 60, 1, 24, [.slice none 0 0], false⟩
theorem rl : Tw 54 ti54 = some ti54 := by kernel_rfl
def ti55 : V.TI := ⟨.func, 1, 8, [.nilFunc], false⟩
theorem rk : Tw 55 ti55 = some ti55 := by kernel_rfl
def ti56 : V.TI := ⟨.slice 72, 1, 24, [.slice none 0 0], false⟩
theorem rj : Tw 56 ti56 = some ti56 := by kernel_rfl
def ti57 : V.TI := ⟨.struct [(0, 3), (1, 24), (4, 56)], 5, 72, [.int .i64 0, .int .i64 0, .int .i64 0, .slice none 0 0, .slice none 0 0], true⟩
theorem ri : Tw 57 ti57 = some ti57 := by kernel_rfl
def ti58 : V.TI := ⟨.struct [(0, 3), (1, 24), (4, 56)], 5, 72, [.int .i64 0, .int .i64 0, .int .i64 0, .slice none 0 0, .slice none 0 0], true⟩
theorem rh : Tw 58 ti58 = some ti58 := by kernel_rfl
def ti59 : V.TI := ⟨.struct [(0, 58), (5, 22)], 6, 96, [.int .i64 0, .int .i64 0, .int .i64 0, .slice none 0 0, .slice none 0 0, .slice none 0 0], true⟩
theorem rg : Tw 59 ti59 = some ti59 := by kernel_rfl
def ti60 : V.TI := ⟨.struct [(0, 58), (5, 22)], 6, 96, [.int .i64 0, .int .i64 0, .int .i64 0, .slice none 0 0, .slice none 0 0, .slice none 0 0], true⟩
theorem rd : Tw 60 ti60 = some ti60 := by kernel_rfl
def ti61 : V.TI := ⟨.slice 69, 1, 24, [.slice none 0 0], false⟩
theorem rc : Tw 61 ti61 = some ti61 := by kernel_rfl
def ti63 : V.TI := ⟨.func, 1, 8, [.nilFunc], false⟩
theorem rb : Tw 63 ti63 = some ti63 := by kernel_rfl
def ti64 : V.TI := ⟨.func, 1, 8, [.nilFunc], false⟩
theorem ra : Tw 64 ti64 = some ti64 := by kernel_rfl
def ti66 : V.TI := ⟨.func, 1, 8, [.nilFunc], false⟩
theorem p9 : Tw 66 ti66 = some ti66 := by kernel_rfl
def ti67 : V.TI := ⟨.func, 1, 8, [.nilFunc], false⟩
theorem p8 : Tw 67 ti67 = some ti67 := by kernel_rfl
def ti68 : V.TI := ⟨.func, 1, 8, [.nilFunc], false⟩
theorem p7 : Tw 68 ti68 = some ti68 := by kernel_rfl
def ti69 : V.TI := ⟨.int .u64, 1, 8, [.int .u64 0], false⟩
theorem p6 : Tw 69 ti69 = some ti69 := by kernel_rfl
def ti70 : V.TI := ⟨.slice 122, 1, 24, [.slice none 0 0], false⟩
theorem pz : Tw 70 ti70 = some ti70 := by kernel_rfl
def ti71 : V.TI := ⟨.struct [(0, 3), (1, 70), (2, 69)], 3, 40, [.int .i64 0, .slice none 0 0, .int .u64 0], true⟩
theorem py : Tw 71 ti71 = some ti71 := by kernel_rfl
def ti72 : V.TI := ⟨.struct [(0, 3), (1, 70), (2, 69)], 3, 40, [.int .i64 0, .slice none 0 0, .int .u64 0], true⟩
theorem px : Tw 72 ti72 = some ti72 := by kernel_rfl
def ti73 : V.TI := ⟨.func, 1, 8, [.nilFunc], false⟩
theorem pw : Tw 73 ti73 = some ti73 := by kernel_rfl
def ti74 : V.TI := ⟨.func, 1, 8, [.nilFunc], false⟩
theorem pu : Tw 74 ti74 = some ti74 := by kernel_rfl
def ti75 : V.TI := ⟨.slice 85, 1, 24, [.slice none 0 0], false⟩
theorem pt : Tw 75 ti75 = some ti75 := by kernel_rfl
def ti76 : V.TI := ⟨.struct [(0, 24), (3, 3), (4, 3), (5, 3), (6, 75)], 7, 88, [.int .i64 0, .int .i64 0, .slice none 0 0, .int .i64 0, .int .i64 0, .int .i64 0, .slice none 0 0], true⟩
theorem pr : Tw 76 ti76 = some ti76 := by kernel_rfl
def ti77 : V.TI := ⟨.struct [(0, 24), (3, 3), (4, 3), (5, 3), (6, 75)], 7, 88, [.int .i64 0, .int .i64 0, .slice none 0 0, .int .i64 0, .int .i64 0, .int .i64 0, .slice none 0 0], true⟩
theorem pq : Tw 77 ti77 = some ti77 := by kernel_rfl
def ti78 : V.TI := ⟨.slice 61, 1, 24, [.slice none 0 0], false⟩
theorem pp : Tw 78 ti78 = some ti78 := by kernel_rfl
def ti79 : V.TI := ⟨.slice 28, 1, 24, [.slice none 0 0], false⟩
theorem po : Tw 79 ti79 = some ti79 := by kernel_rfl
def ti80 : V.TI := ⟨.struct [(0, 29), (1, 78), (2, 79), (3, 50), (4, 56)], 5, 120, [.slice none 0 0, .slice none 0 0, .slice none 0 0, .slice none 0 0, .slice none 0 0], true⟩
theorem pm : Tw 80 ti80 = some ti80 := by kernel_rfl
def ti81 : V.TI := ⟨.struct [(0, 29), (1, 78), (2, 79), (3, 50), (4, 56)], 5, 120, [.slice none 0 0, .slice none 0 0, .slice none 0 0, .slice none 0 0, .slice none 0 0], true⟩
theorem pk : Tw 81 ti81 = some ti81 := by kernel_rfl
def ti83 : V.TI := ⟨.func, 1, 8, [.nilFunc], false⟩
theorem pj : Tw 83 ti83 = some ti83 := by kernel_rfl
def ti84 : V.TI := ⟨.struct [(0, 3), (1, 3), (2, 3), (3, 3), (4, 70)], 5, 56, [.int .i64 0, .int .i64 0, .int .i64 0, .int .i64 0, .slice none 0 0], true⟩
theorem pi : Tw 84 ti84 = some ti84 := by kernel_rfl
def ti85 : V.TI := ⟨.struct [(0, 3), (1, 3), (2, 3), (3, 3), (4, 70)], 5, 56, [.int .i64 0, .int .i64 0, .int .i64 0, .int .i64 0, .slice none 0 0], true⟩
theorem ph : Tw 85 ti85 = some ti85 := by kernel_rfl
def ti86 : V.TI := ⟨.func, 1, 8, [.nilFunc], false⟩
theorem pg : Tw 86 ti86 = some ti86 := by kernel_rfl
def ti87 : V.TI := ⟨.func, 1, 8, [.nilFunc], false⟩
theorem pf : Tw 87 ti87 = some ti87 := by kernel_rfl
def ti88 : V.TI := ⟨.func, 1, 8, [.nilFunc], false⟩
theorem pe : Tw 88 ti88 = some ti88 := by kernel_rfl
def ti89 : V.TI := ⟨.func, 1, 8, [.nilFunc], false⟩
theorem pd : Tw 89 ti89 = some ti89 := by kernel_rfl
def ti90 : V.TI := ⟨.int .u64, 1, 8, [.int .u64 0], false⟩
theorem pb : Tw 90 ti90 = some ti90 := by kernel_rfl
def ti91 : V.TI := ⟨.func, 1, 8, [.nilFunc], false⟩
theorem o9 : Tw 91 ti91 = some ti91 := by kernel_rfl
def ti92 : V.TI := ⟨.func, 1, 8, [.nilFunc], false⟩
theorem o8 : Tw 92 ti92 = some ti92 := by kernel_rfl
def ti93 : V.TI := ⟨.func, 1, 8, [.nilFunc], false⟩
theorem o7 : Tw 93 ti93 = some ti93 := by kernel_rfl
def ti95 : V.TI := ⟨.func, 1, 8, [.nilFunc], false⟩
theorem o6 : Tw 95 ti95 = some ti95 := by kernel_rfl
def ti96 : V.TI := ⟨.func, 1, 8, [.nilFunc], false⟩
theorem o5 : Tw 96 ti96 = some ti96 := by kernel_rfl
def ti97 : V.TI := ⟨.ptr 105, 1, 8, [.pointer none], false⟩
theorem o4 : Tw 97 ti97 = some ti97 := by kernel_rfl
def ti99 : V.TI := ⟨.func, 1, 8, [.nilFunc], false⟩
theorem o3 : Tw 99 ti99 = some ti99 := by kernel_rfl
def ti100 : V.TI := ⟨.func, 1, 8, [.nilFunc], false⟩
theorem zj2 : Tw 100 ti100 = some ti100 := by kernel_rfl
def ti101 : V.TI := ⟨.ptr 109, 1, 8, [.pointer none], false⟩
theorem zj1 : Tw 101 ti101 = some ti101 := by kernel_rfl
def ti102 : V.TI := ⟨.other, 1, 16, [.nilIface], false⟩
theorem zj0 : Tw 102 ti102 = some ti102 := by kernel_rfl
def ti103 : V.TI := ⟨.other, 1, 16, [.nilIface], false⟩
theorem zjz : Tw 103 ti103 = some ti103 := by kernel_rfl
def ti104 : V.TI := ⟨.struct [(0, 101), (1, 103)], 2, 24, [.pointer none, .nilIface], false⟩
theorem zjy : Tw 104 ti104 = some ti104 := by kernel_rfl
def ti105 : V.TI := ⟨.struct [(0, 101), (1, 103)], 2, 24, [.pointer none, .nilIface], false⟩
theorem zjx : Tw 105 ti105 = some ti105 := by kernel_rfl
def ti106 : V.TI := ⟨.array 3 50, 3, 72, [.slice none 0 0, .slice none 0 0, .slice none 0 0], false⟩
theorem zjw : Tw 106 ti106 = some ti106 := by kernel_rfl
def ti107 : V.TI := ⟨.ptr 323, 1, 8, [.pointer none], false⟩
theorem zjv : Tw 107 ti107 = some ti107 := by kernel_rfl
def ti108 : V.TI := ⟨.struct [(0, 28), (8, 106), (11, 107)], 12, 192, [.int .i64 0, .int .i64 0, .int .i64 0, .int .i64 0, .int .i64 0, .slice none 0 0, .slice none 0 0, .slice none 0 0, .slice none 0 0, .slice none 0 0, .slice none 0 0, .pointer none], true⟩
theorem zju : Tw 108 ti108 = some ti108 := by kernel_rfl
def ti109 : V.TI := ⟨.struct [(0, 28), (8, 106), (11, 107)], 12, 192, [.int .i64 0, .int .i64 0, .int .i64 0, .int .i64 0, .int .i64 0, .slice none 0 0, .slice none 0 0, .slice none 0 0, .slice none 0 0, .slice none 0 0, .slice none 0 0, .pointer none], true⟩
theorem zjt : Tw 109 ti109 = some ti109 := by kernel_rfl
def ti110 : V.TI := ⟨.func, 1, 8, [.nilFunc], false⟩
theorem zjr : Tw 110 ti110 = some ti110 := by kernel_rfl
def ti111 : V.TI := ⟨.func, 1, 8, [.nilFunc], false⟩
theorem zjq : Tw 111 ti111 = some ti111 := by kernel_rfl
def ti112 : V.TI := ⟨.ptr 170, 1, 8, [.pointer none], false⟩
theorem zjp : Tw 112 ti112 = some ti112 := by kernel_rfl
def ti114 : V.TI := ⟨.func, 1, 8, [.nilFunc], false⟩
theorem zjo : Tw 114 ti114 = some ti114 := by kernel_rfl
def ti115 : V.TI := ⟨.slice 46, 1, 24, [.slice none 0 0], false⟩
theorem zjn : Tw 115 ti115 = some ti115 := by kernel_rfl
def ti117 : V.TI := ⟨.func, 1, 8, [.nilFunc], false⟩
theorem zjm : Tw 117 ti117 = some ti117 := by kernel_rfl
def ti118 : V.TI := ⟨.func, 1, 8, [.nilFunc], false⟩
theorem zjl : Tw 118 ti118 = some ti118 := by kernel_rfl
def ti119 : V.TI := ⟨.func, 1, 8, [.nilFunc], false⟩
theorem zjk : Tw 119 ti119 = some ti119 := by kernel_rfl
def ti120 : V.TI := ⟨.func, 1, 8, [.nilFunc], false⟩
theorem zji : Tw 120 ti120 = some ti120 := by kernel_rfl
def ti121 : V.TI := ⟨.struct [(0, 3), (1, 3), (2, 3), (3, 3), (4, 29), (5, 3), (6, 3), (7, 3), (8, 36)], 10, 96, [.int .i64 0, .int .i64 0, .int .i64 0, .int .i64 0, .slice none 0 0, .int .i64 0, .int .i64 0, .int .i64 0, .int .i64 0, .int .i64 0], true⟩
theorem zjh : Tw 121 ti121 = some ti121 := by kernel_rfl
def ti122 : V.TI := ⟨.struct [(0, 3), (1, 3), (2, 3), (3, 3), (4, 29), (5, 3), (6, 3), (7, 3), (8, 36)], 10, 96, [.int .i64 0, .int .i64 0, .int .i64 0, .int .i64 0, .slice none 0 0, .int .i64 0, .int .i64 0, .int .i64 0, .int .i64 0, .int .i64 0], true⟩
theorem zjg : Tw 122 ti122 = some ti122 := by kernel_rfl
def ti123 : V.TI := ⟨.func, 1, 8, [.nilFunc], false⟩
theorem zjf : Tw 123 ti123 = some ti123 := by kernel_rfl
def ti124 : V.TI := ⟨.func, 1, 8, [.nilFunc], false⟩
theorem zje : Tw 124 ti124 = some ti124 := by kernel_rfl
def ti126 : V.TI := ⟨.func, 1, 8, [.nilFunc], false⟩
theorem zjd : Tw 126 ti126 = some ti126 := by kernel_rfl
def ti127 : V.TI := ⟨.func, 1, 8, [.nilFunc], false⟩
theorem zjc : Tw 127 ti127 = some ti127 := by kernel_rfl
def ti129 : V.TI := ⟨.func, 1, 8, [.nilFunc], false⟩
theorem zjb : Tw 129 ti129 = some ti129 := by kernel_rfl
def ti131 : V.TI := ⟨.func, 1, 8, [.nilFunc], false⟩
theorem zi9 : Tw 131 ti131 = some ti131 := by kernel_rfl
def ti132 : V.TI := ⟨.func, 1, 8, [.nilFunc], false⟩
theorem zi8 : Tw 132 ti132 = some ti132 := by kernel_rfl
def ti133 : V.TI := ⟨.ptr 137, 1, 8, [.pointer none], false⟩
theorem zi7 : Tw 133 ti133 = some ti133 := by kernel_rfl
def ti134 : V.TI := ⟨.slice 143, 1, 24, [.slice none 0 0], false⟩
theorem zi6 : Tw 134 ti134 = some ti134 := by kernel_rfl
def ti135 : V.TI := ⟨.slice 303, 1, 24, [.slice none 0 0], false⟩
theorem zi5 : Tw 135 ti135 = some ti135 := by kernel_rfl
def ti136 : V.TI := ⟨.struct [(0, 134), (1, 135), (2, 81)], 7, 168, [.slice none 0 0, .slice none 0 0, .slice none 0 0, .slice none 0 0, .slice none 0 0, .slice none 0 0, .slice none 0 0], true⟩
theorem zi4 : Tw 136 ti136 = some ti136 := by kernel_rfl
def ti137 : V.TI := ⟨.struct [(0, 134), (1, 135), (2, 81)], 7, 168, [.slice none 0 0, .slice none 0 0, .slice none 0 0, .slice none 0 0, .slice none 0 0, .slice none 0 0, .slice none 0 0], true⟩
theorem zi3 : Tw 137 ti137 = some ti137 := by kernel_rfl
def ti138 : V.TI := ⟨.slice 301, 1, 24, [.slice none 0 0], false⟩
theorem zi2 : Tw 138 ti138 = some ti138 := by kernel_rfl
def ti139 : V.TI := ⟨.struct [(0, 3), (1, 3), (2, 3), (3, 3), (4, 3), (5, 138), (6, 138), (7, 29), (8, 29), (9, 61), (10, 4)], 11, 168, [.int .i64 0, .int .i64 0, .int .i64 0, .int .i64 0, .int .i64 0, .slice none 0 0, .slice none 0 0, .slice none 0 0, .slice none 0 0, .slice none 0 0, .bool false], true⟩
theorem zi1 : Tw 139 ti139 = some ti139 := by kernel_rfl
def ti140 : V.TI := ⟨.struct [(0, 3), (1, 3), (2, 3), (3, 3), (4, 3), (5, 138), (6, 138), (7, 29), (8, 29), (9, 61), (10, 4)], 11, 168, [.int .i64 0, .int .i64 0, .int .i64 0, .int .i64 0, .int .i64 0, .slice none 0 0, .slice none 0 0, .slice none 0 0, .slice none 0 0, .slice none 0 0, .bool false], true⟩
theorem ziz : Tw 140 ti140 = some ti140 := by kernel_rfl
def ti142 : V.TI := ⟨.func, 1, 8, [.nilFunc], false⟩
theorem ziy : Tw 142 ti142 = some ti142 := by kernel_rfl
def ti143 : V.TI := ⟨.ptr 145, 1, 8, [.pointer none], false⟩
theorem zix : Tw 143 ti143 = some ti143 := by kernel_rfl
def ti144 : V.TI := ⟨.struct [(0, 140), (11, 112)], 12, 176, [.int .i64 0, .int .i64 0, .int .i64 0, .int .i64 0, .int .i64 0, .slice none 0 0, .slice none 0 0, .slice none 0 0, .slice none 0 0, .slice none 0 0, .bool false, .pointer none], true⟩
theorem ziw : Tw 144 ti144 = some ti144 := by kernel_rfl
def ti145 : V.TI := ⟨.struct [(0, 140), (11, 112)], 12, 176, [.int .i64 0, .int .i64 0, .int .i64 0, .int .i64 0, .int .i64 0, .slice none 0 0, .slice none 0 0, .slice none 0 0, .slice none 0 0, .slice none 0 0, .bool false, .pointer none], true⟩
theorem ziv : Tw 145 ti145 = some ti145 := by kernel_rfl
def ti146 : V.TI := ⟨.func, 1, 8, [.nilFunc], false⟩
theorem ziu : Tw 146 ti146 = some ti146 := by kernel_rfl
def ti147 : V.TI := ⟨.func, 1, 8, [.nilFunc], false⟩
theorem zit : Tw 147 ti147 = some ti147 := by kernel_rfl
def ti148 : V.TI := ⟨.func, 1, 8, [.nilFunc], false⟩
theorem zis : Tw 148 ti148 = some ti148 := by kernel_rfl
def ti149 : V.TI := ⟨.func, 1, 8, [.nilFunc], false⟩
theorem zir : Tw 149 ti149 = some ti149 := by kernel_rfl
def ti150 : V.TI := ⟨.struct [(0, 3), (1, 3), (2, 3), (3, 3), (4, 3), (5, 3)], 6, 48, [.int .i64 0, .int .i64 0, .int .i64 0, .int .i64 0, .int .i64 0, .int .i64 0], true⟩
theorem zip : Tw 150 ti150 = some ti150 := by kernel_rfl
def ti151 : V.TI := ⟨.struct [(0, 3), (1, 3), (2, 3), (3, 3), (4, 3), (5, 3)], 6, 48, [.int .i64 0, .int .i64 0, .int .i64 0, .int .i64 0, .int .i64 0, .int .i64 0], true⟩
theorem zio : Tw 151 ti151 = some ti151 := by kernel_rfl
def ti152 : V.TI := ⟨.func, 1, 8, [.nilFunc], false⟩
theorem zin : Tw 152 ti152 = some ti152 := by kernel_rfl
def ti153 : V.TI := ⟨.func, 1, 8, [.nilFunc], false⟩
theorem zim : Tw 153 ti153 = some ti153 := by kernel_rfl
def ti154 : V.TI := ⟨.func, 1, 8, [.nilFunc], false⟩
theorem zil : Tw 154 ti154 = some ti154 := by kernel_rfl
def ti155 : V.TI := ⟨.func, 1, 8, [.nilFunc], false⟩
theorem zik : Tw 155 ti155 = some ti155 := by kernel_rfl
def ti156 : V.TI := ⟨.func, 1, 8, [.nilFunc], false⟩
theorem zij : Tw 156 ti156 = some ti156 := by kernel_rfl
def ti157 : V.TI := ⟨.func, 1, 8, [.nilFunc], false⟩
theorem zii : Tw 157 ti157 = some ti157 := by kernel_rfl
def ti158 : V.TI := ⟨.func, 1, 8, [.nilFunc], false⟩
theorem zih : Tw 158 ti158 = some ti158 := by kernel_rfl
def ti159 : V.TI := ⟨.struct [], 0, 0, [], true⟩
theorem zif : Tw 159 ti159 = some ti159 := by kernel_rfl
def ti160 : V.TI := ⟨.struct [], 0, 0, [], true⟩
theorem zid : Tw 160 ti160 = some ti160 := by kernel_rfl
def ti162 : V.TI := ⟨.func, 1, 8, [.nilFunc], false⟩
theorem zic : Tw 162 ti162 = some ti162 := by kernel_rfl
def ti163 : V.TI := ⟨.func, 1, 8, [.nilFunc], false⟩
theorem zib : Tw 163 ti163 = some ti163 := by kernel_rfl
def ti164 : V.TI := ⟨.func, 1, 8, [.nilFunc], false⟩
theorem zia : Tw 164 ti164 = some ti164 := by kernel_rfl
def ti165 : V.TI := ⟨.func, 1, 8, [.nilFunc], false⟩
theorem zh9 : Tw 165 ti165 = some ti165 := by kernel_rfl
def ti166 : V.TI := ⟨.ptr 242, 1, 8, [.pointer none], false⟩
theorem zh8 : Tw 166 ti166 = some ti166 := by kernel_rfl
def ti168 : V.TI := ⟨.func, 1, 8, [.nilFunc], false⟩
theorem zh7 : Tw 168 ti168 = some ti168 := by kernel_rfl
def ti169 : V.TI := ⟨.struct [(0, 28), (8, 166)], 9, 120, [.int .i64 0, .int .i64 0, .int .i64 0, .int .i64 0, .int .i64 0, .slice none 0 0, .slice none 0 0, .slice none 0 0, .pointer none], true⟩
theorem zh6 : Tw 169 ti169 = some ti169 := by kernel_rfl
def ti170 : V.TI := ⟨.struct [(0, 28), (8, 166)], 9, 120, [.int .i64 0, .int .i64 0, .int .i64 0, .int .i64 0, .int .i64 0, .slice none 0 0, .slice none 0 0, .slice none 0 0, .pointer none], true⟩
theorem zh4 : Tw 170 ti170 = some ti170 := by kernel_rfl
def ti171 : V.TI := ⟨.func, 1, 8, [.nilFunc], false⟩
theorem zh3 : Tw 171 ti171 = some ti171 := by kernel_rfl
def ti172 : V.TI := ⟨.func, 1, 8, [.nilFunc], false⟩
theorem zh2 : Tw 172 ti172 = some ti172 := by kernel_rfl
def ti173 : V.TI := ⟨.func, 1, 8, [.nilFunc], false⟩
theorem zh1 : Tw 173 ti173 = some ti173 := by kernel_rfl
def ti174 : V.TI := ⟨.func, 1, 8, [.nilFunc], false⟩
theorem zh0 : Tw 174 ti174 = some ti174 := by kernel_rfl
def ti175 : V.TI := ⟨.func, 1, 8, [.nilFunc], false⟩
theorem zhz : Tw 175 ti175 = some ti175 := by kernel_rfl
def ti176 : V.TI := ⟨.func, 1, 8, [.nilFunc], false⟩
theorem zhy : Tw 176 ti176 = some ti176 := by kernel_rfl
def ti177 : V.TI := ⟨.func, 1, 8, [.nilFunc], false⟩
theorem zhx : Tw 177 ti177 = some ti177 := by kernel_rfl
def ti178 : V.TI := ⟨.func, 1, 8, [.nilFunc], false⟩
theorem zhw : Tw 178 ti178 = some ti178 := by kernel_rfl
def ti179 : V.TI := ⟨.func, 1, 8, [.nilFunc], false⟩
theorem zhv : Tw 179 ti179 = some ti179 := by kernel_rfl
def ti181 : V.TI := ⟨.func, 1, 8, [.nilFunc], false⟩
theorem zht : Tw 181 ti181 = some ti181 := by kernel_rfl
def ti182 : V.TI := ⟨.func, 1, 8, [.nilFunc], false⟩
theorem zhs : Tw 182 ti182 = some ti182 := by kernel_rfl
def ti183 : V.TI := ⟨.func, 1, 8, [.nilFunc], false⟩
theorem zhr : Tw 183 ti183 = some ti183 := by kernel_rfl
def ti184 : V.TI := ⟨.func, 1, 8, [.nilFunc], false⟩
theorem zhq : Tw 184 ti184 = some ti184 := by kernel_rfl
def ti185 : V.TI := ⟨.func, 1, 8, [.nilFunc], false⟩
theorem zhp : Tw 185 ti185 = some ti185 := by kernel_rfl
def ti186 : V.TI := ⟨.func, 1, 8, [.nilFunc], false⟩
theorem zho : Tw 186 ti186 = some ti186 := by kernel_rfl
def ti187 : V.TI := ⟨.func, 1, 8, [.nilFunc], false⟩
theorem zhn : Tw 187 ti187 = some ti187 := by kernel_rfl
def ti188 : V.TI := ⟨.ptr 193, 1, 8, [.pointer none], false⟩
theorem zhm : Tw 188 ti188 = some ti188 := by kernel_rfl
def ti189 : V.TI := ⟨.ptr 191, 1, 8, [.pointer none], false⟩
theorem zhl : Tw 189 ti189 = some ti189 := by kernel_rfl
def ti190 : V.TI := ⟨.struct [(0, 22), (1, 46)], 2, 32, [.slice none 0 0, .int .i64 0], true⟩
theorem zhj : Tw 190 ti190 = some ti190 := by kernel_rfl
def ti191 : V.TI := ⟨.struct [(0, 22), (1, 46)], 2, 32, [.slice none 0 0, .int .i64 0], true⟩
theorem zhi : Tw 191 ti191 = some ti191 := by kernel_rfl
def ti192 : V.TI := ⟨.struct [(0, 189), (1, 3), (2, 69)], 3, 24, [.pointer none, .int .i64 0, .int .u64 0], true⟩
theorem zhh : Tw 192 ti192 = some ti192 := by kernel_rfl
def ti193 : V.TI := ⟨.struct [(0, 189), (1, 3), (2, 69)], 3, 24, [.pointer none, .int .i64 0, .int .u64 0], true⟩
theorem zhg : Tw 193 ti193 = some ti193 := by kernel_rfl
def ti194 : V.TI := ⟨.func, 1, 8, [.nilFunc], false⟩
theorem zhf : Tw 194 ti194 = some ti194 := by kernel_rfl
def ti195 : V.TI := ⟨.func, 1, 8, [.nilFunc], false⟩
theorem zhe : Tw 195 ti195 = some ti195 := by kernel_rfl
def ti197 : V.TI := ⟨.func, 1, 8, [.nilFunc], false⟩
theorem zhd : Tw 197 ti197 = some ti197 := by kernel_rfl
def ti198 : V.TI := ⟨.func, 1, 8, [.nilFunc], false⟩
theorem zhc : Tw 198 ti198 = some ti198 := by kernel_rfl
def ti199 : V.TI := ⟨.func, 1, 8, [.nilFunc], false⟩
theorem zhb : Tw 199 ti199 = some ti199 := by kernel_rfl
def ti200 : V.TI := ⟨.func, 1, 8, [.nilFunc], false⟩
theorem zg8 : Tw 200 ti200 = some ti200 := by kernel_rfl
def ti201 : V.TI := ⟨.func, 1, 8, [.nilFunc], false⟩
theorem zg7 : Tw 201 ti201 = some ti201 := by kernel_rfl
def ti202 : V.TI := ⟨.func, 1, 8, [.nilFunc], false⟩
theorem zg6 : Tw 202 ti202 = some ti202 := by kernel_rfl
def ti203 : V.TI := ⟨.func, 1, 8, [.nilFunc], false⟩
theorem zg5 : Tw 203 ti203 = some ti203 := by kernel_rfl
def ti204 : V.TI := ⟨.func, 1, 8, [.nilFunc], false⟩
theorem zg4 : Tw 204 ti204 = some ti204 := by kernel_rfl
def ti205 : V.TI := ⟨.func, 1, 8, [.nilFunc], false⟩
theorem zg3 : Tw 205 ti205 = some ti205 := by kernel_rfl
def ti206 : V.TI := ⟨.func, 1, 8, [.nilFunc], false⟩
theorem zg2 : Tw 206 ti206 = some ti206 := by kernel_rfl
def ti207 : V.TI := ⟨.func, 1, 8, [.nilFunc], false⟩
theorem zg1 : Tw 207 ti207 = some ti207 := by kernel_rfl
def ti208 : V.TI := ⟨.func, 1, 8, [.nilFunc], false⟩
theorem zg0 : Tw 208 ti208 = some ti208 := by kernel_rfl
def ti209 : V.TI := ⟨.func, 1, 8, [.nilFunc], false⟩
theorem zgz : Tw 209 ti209 = some ti209 := by kernel_rfl
def ti210 : V.TI := ⟨.func, 1, 8, [.nilFunc], false⟩
theorem zgx : Tw 210 ti210 = some ti210 := by kernel_rfl
def ti211 : V.TI := ⟨.func, 1, 8, [.nilFunc], false⟩
theorem zgw : Tw 211 ti211 = some ti211 := by kernel_rfl
def ti212 : V.TI := ⟨.func, 1, 8, [.nilFunc], false⟩
theorem zgv : Tw 212 ti212 = some ti212 := by kernel_rfl
def ti213 : V.TI := ⟨.array 8 3, 8, 64, [.int .i64 0, .int .i64 0, .int .i64 0, .int .i64 0, .int .i64 0, .int .i64 0, .int .i64 0, .int .i64 0], false⟩
theorem zgu : Tw 213 ti213 = some ti213 := by kernel_rfl
def ti214 : V.TI := ⟨.func, 1, 8, [.nilFunc], false⟩
theorem zgt : Tw 214 ti214 = some ti214 := by kernel_rfl
def ti215 : V.TI := ⟨.map 3 4, 1, 8, [.map none], false⟩
theorem zgs : Tw 215 ti215 = some ti215 := by kernel_rfl
def ti216 : V.TI := ⟨.func, 1, 8, [.nilFunc], false⟩
theorem zgr : Tw 216 ti216 = some ti216 := by kernel_rfl
def ti217 : V.TI := ⟨.func, 1, 8, [.nilFunc], false⟩
theorem zgq : Tw 217 ti217 = some ti217 := by kernel_rfl
def ti218 : V.TI := ⟨.func, 1, 8, [.nilFunc], false⟩
theorem zgp : Tw 218 ti218 = some ti218 := by kernel_rfl
def ti219 : V.TI := ⟨.func, 1, 8, [.nilFunc], false⟩
theorem zgo : Tw 219 ti219 = some ti219 := by kernel_rfl
def ti220 : V.TI := ⟨.func, 1, 8, [.nilFunc], false⟩
theorem zgm : Tw 220 ti220 = some ti220 := by kernel_rfl
def ti221 : V.TI := ⟨.func, 1, 8, [.nilFunc], false⟩
theorem zgl : Tw 221 ti221 = some ti221 := by kernel_rfl
def ti222 : V.TI := ⟨.func, 1, 8, [.nilFunc], false⟩
theorem zgk : Tw 222 ti222 = some ti222 := by kernel_rfl
def ti223 : V.TI := ⟨.func, 1, 8, [.nilFunc], false⟩
theorem zgj : Tw 223 ti223 = some ti223 := by kernel_rfl
def ti224 : V.TI := ⟨.func, 1, 8, [.nilFunc], false⟩
theorem zgi : Tw 224 ti224 = some ti224 := by kernel_rfl
def ti225 : V.TI := ⟨.func, 1, 8, [.nilFunc], false⟩
theorem zgh : Tw 225 ti225 = some ti225 := by kernel_rfl
def ti226 : V.TI := ⟨.func, 1, 8, [.nilFunc], false⟩
theorem zgg : Tw 226 ti226 = some ti226 := by kernel_rfl
def ti227 : V.TI := ⟨.func, 1, 8, [.nilFunc], false⟩
theorem zgf : Tw 227 ti227 = some ti227 := by kernel_rfl
def ti228 : V.TI := ⟨.func, 1, 8, [.nilFunc], false⟩
theorem zge : Tw 228 ti228 = some ti228 := by kernel_rfl
def ti229 : V.TI := ⟨.func, 1, 8, [.nilFunc], false⟩
theorem zgd : Tw 229 ti229 = some ti229 := by kernel_rfl
def ti230 : V.TI := ⟨.func, 1, 8, [.nilFunc], false⟩
theorem zgb : Tw 230 ti230 = some ti230 := by kernel_rfl
def ti231 : V.TI := ⟨.func, 1, 8, [.nilFunc], false⟩
theorem zga : Tw 231 ti231 = some ti231 := by kernel_rfl
def ti232 : V.TI := ⟨.ptr 342, 1, 8, [.pointer none], false⟩
theorem zf9 : Tw 232 ti232 = some ti232 := by kernel_rfl
def ti234 : V.TI := ⟨.func, 1, 8, [.nilFunc], false⟩
theorem zf8 : Tw 234 ti234 = some ti234 := by kernel_rfl
def ti235 : V.TI := ⟨.struct [], 0, 0, [], true⟩
theorem zf7 : Tw 235 ti235 = some ti235 := by kernel_rfl
def ti236 : V.TI := ⟨.struct [], 0, 0, [], true⟩
theorem zf6 : Tw 236 ti236 = some ti236 := by kernel_rfl
def ti237 : V.TI := ⟨.struct [(0, 235), (0, 236), (0, 2)], 1, 8, [.int .i64 0], false⟩
theorem zf5 : Tw 237 ti237 = some ti237 := by kernel_rfl
def ti238 : V.TI := ⟨.struct [(0, 235), (0, 236), (0, 2)], 1, 8, [.int .i64 0], false⟩
theorem zf4 : Tw 238 ti238 = some ti238 := by kernel_rfl
def ti239 : V.TI := ⟨.map 3 250, 1, 8, [.map none], false⟩
theorem zf3 : Tw 239 ti239 = some ti239 := by kernel_rfl
def ti240 : V.TI := ⟨.map 3 510, 1, 8, [.map none], false⟩
theorem zf1 : Tw 240 ti240 = some ti240 := by kernel_rfl
def ti241 : V.TI := ⟨.struct [(0, 232), (1, 238), (2, 4), (3, 24), (6, 25), (7, 239), (8, 240), (9, 3)], 10, 112, [.pointer none, .int .i64 0, .bool false, .int .i64 0, .int .i64 0, .slice none 0 0, .slice none 0 0, .map none, .map none, .int .i64 0], true⟩
theorem zf0 : Tw 241 ti241 = some ti241 := by kernel_rfl
def ti242 : V.TI := ⟨.struct [(0, 232), (1, 238), (2, 4), (3, 24), (6, 25), (7, 239), (8, 240), (9, 3)], 10, 112, [.pointer none, .int .i64 0, .bool false, .int .i64 0, .int .i64 0, .slice none 0 0, .slice none 0 0, .map none, .map none, .int .i64 0], true⟩
theorem zfz : Tw 242 ti242 = some ti242 := by kernel_rfl
def ti243 : V.TI := ⟨.func, 1, 8, [.nilFunc], false⟩
theorem zfy : Tw 243 ti243 = some ti243 := by kernel_rfl
def ti244 : V.TI := ⟨.ptr 246, 1, 8, [.pointer none], false⟩
theorem zfx : Tw 244 ti244 = some ti244 := by kernel_rfl
def ti245 : V.TI := ⟨.struct [(0, 101), (1, 122), (11, 243)], 12, 112, [.pointer none, .int .i64 0, .int .i64 0, .int .i64 0, .int .i64 0, .slice none 0 0, .int .i64 0, .int .i64 0, .int .i64 0, .int .i64 0, .int .i64 0, .nilFunc], true⟩
theorem zfw : Tw 245 ti245 = some ti245 := by kernel_rfl
def ti246 : V.TI := ⟨.struct [(0, 101), (1, 122), (11, 243)], 12, 112, [.pointer none, .int .i64 0, .int .i64 0, .int .i64 0, .int .i64 0, .slice none 0 0, .int .i64 0, .int .i64 0, .int .i64 0, .int .i64 0, .int .i64 0, .nilFunc], true⟩
theorem zfv : Tw 246 ti246 = some ti246 := by kernel_rfl
def ti247 : V.TI := ⟨.func, 1, 8, [.nilFunc], false⟩
theorem zfu : Tw 247 ti247 = some ti247 := by kernel_rfl
def ti248 : V.TI := ⟨.ptr 334, 1, 8, [.pointer none], false⟩
theorem zft : Tw 248 ti248 = some ti248 := by kernel_rfl
def ti249 : V.TI := ⟨.func, 1, 8, [.nilFunc], false⟩
theorem zfs : Tw 249 ti249 = some ti249 := by kernel_rfl
def ti250 : V.TI := ⟨.ptr 262, 1, 8, [.pointer none], false⟩
theorem zfq : Tw 250 ti250 = some ti250 := by kernel_rfl
def ti251 : V.TI := ⟨.struct [], 0, 0, [], true⟩
theorem zfp : Tw 251 ti251 = some ti251 := by kernel_rfl
def ti252 : V.TI := ⟨.int .u32, 1, 4, [.int .u32 0], false⟩
theorem zfo : Tw 252 ti252 = some ti252 := by kernel_rfl
def ti253 : V.TI := ⟨.struct [(0, 235), (0, 252)], 1, 4, [.int .u32 0], false⟩
theorem zfn : Tw 253 ti253 = some ti253 := by kernel_rfl
def ti254 : V.TI := ⟨.struct [(0, 235), (0, 252)], 1, 4, [.int .u32 0], false⟩
theorem zfm : Tw 254 ti254 = some ti254 := by kernel_rfl
def ti255 : V.TI := ⟨.struct [(0, 21), (1, 252)], 2, 8, [.int .i32 0, .int .u32 0], true⟩
theorem zfl : Tw 255 ti255 = some ti255 := by kernel_rfl
def ti256 : V.TI := ⟨.struct [(0, 21), (1, 252)], 2, 8, [.int .i32 0, .int .u32 0], true⟩
theorem zfk : Tw 256 ti256 = some ti256 := by kernel_rfl
def ti257 : V.TI := ⟨.struct [(0, 251), (0, 256)], 2, 8, [.int .i32 0, .int .u32 0], false⟩
theorem zfj : Tw 257 ti257 = some ti257 := by kernel_rfl
def ti258 : V.TI := ⟨.struct [(0, 251), (0, 256)], 2, 8, [.int .i32 0, .int .u32 0], false⟩
theorem zfi : Tw 258 ti258 = some ti258 := by kernel_rfl
def ti259 : V.TI := ⟨.struct [(0, 251), (0, 254), (1, 258)], 3, 12, [.int .u32 0, .int .i32 0, .int .u32 0], false⟩
theorem zfh : Tw 259 ti259 = some ti259 := by kernel_rfl
def ti260 : V.TI := ⟨.struct [(0, 251), (0, 254), (1, 258)], 3, 12, [.int .u32 0, .int .i32 0, .int .u32 0], false⟩
theorem zff : Tw 260 ti260 = some ti260 := by kernel_rfl
def ti261 : V.TI := ⟨.struct [(0, 260), (3, 248)], 4, 24, [.int .u32 0, .int .i32 0, .int .u32 0, .pointer none], true⟩
theorem zfe : Tw 261 ti261 = some ti261 := by kernel_rfl
def ti262 : V.TI := ⟨.struct [(0, 260), (3, 248)], 4, 24, [.int .u32 0, .int .i32 0, .int .u32 0, .pointer none], true⟩
theorem zfd : Tw 262 ti262 = some ti262 := by kernel_rfl
def ti263 : V.TI := ⟨.func, 1, 8, [.nilFunc], false⟩
theorem zfc : Tw 263 ti263 = some ti263 := by kernel_rfl
def ti264 : V.TI := ⟨.func, 1, 8, [.nilFunc], false⟩
theorem zfb : Tw 264 ti264 = some ti264 := by kernel_rfl
def ti265 : V.TI := ⟨.slice 2, 1, 24, [.slice none 0 0], false⟩
theorem zfa : Tw 265 ti265 = some ti265 := by kernel_rfl
def ti266 : V.TI := ⟨.func, 1, 8, [.nilFunc], false⟩
theorem ze9 : Tw 266 ti266 = some ti266 := by kernel_rfl
def ti267 : V.TI := ⟨.func, 1, 8, [.nilFunc], false⟩
theorem ze8 : Tw 267 ti267 = some ti267 := by kernel_rfl
def ti268 : V.TI := ⟨.func, 1, 8, [.nilFunc], false⟩
theorem ze7 : Tw 268 ti268 = some ti268 := by kernel_rfl
def ti269 : V.TI := ⟨.ptr 28, 1, 8, [.pointer none], false⟩
theorem ze6 : Tw 269 ti269 = some ti269 := by kernel_rfl
def ti270 : V.TI := ⟨.func, 1, 8, [.nilFunc], false⟩
theorem ze4 : Tw 270 ti270 = some ti270 := by kernel_rfl
def ti271 : V.TI := ⟨.ptr 38, 1, 8, [.pointer none], false⟩
theorem ze3 : Tw 271 ti271 = some ti271 := by kernel_rfl
def ti272 : V.TI := ⟨.ptr 275, 1, 8, [.pointer none], false⟩
theorem ze2 : Tw 272 ti272 = some ti272 := by kernel_rfl
def ti273 : V.TI := ⟨.slice 29, 1, 24, [.slice none 0 0], false⟩
theorem ze1 : Tw 273 ti273 = some ti273 := by kernel_rfl
def ti274 : V.TI := ⟨.struct [(0, 29), (1, 29), (2, 29), (3, 273)], 4, 96, [.slice none 0 0, .slice none 0 0, .slice none 0 0, .slice none 0 0], true⟩
theorem ze0 : Tw 274 ti274 = some ti274 := by kernel_rfl
def ti275 : V.TI := ⟨.struct [(0, 29), (1, 29), (2, 29), (3, 273)], 4, 96, [.slice none 0 0, .slice none 0 0, .slice none 0 0, .slice none 0 0], true⟩
theorem zez : Tw 275 ti275 = some ti275 := by kernel_rfl
def ti276 : V.TI := ⟨.func, 1, 8, [.nilFunc], false⟩
theorem zey : Tw 276 ti276 = some ti276 := by kernel_rfl
def ti277 : V.TI := ⟨.func, 1, 8, [.nilFunc], false⟩
theorem zex : Tw 277 ti277 = some ti277 := by kernel_rfl
def ti278 : V.TI := ⟨.func, 1, 8, [.nilFunc], false⟩
theorem zew : Tw 278 ti278 = some ti278 := by kernel_rfl
def ti279 : V.TI := ⟨.func, 1, 8, [.nilFunc], false⟩
theorem zev : Tw 279 ti279 = some ti279 := by kernel_rfl
def ti280 : V.TI := ⟨.func, 1, 8, [.nilFunc], false⟩
theorem zet : Tw 280 ti280 = some ti280 := by kernel_rfl
def ti281 : V.TI := ⟨.func, 1, 8, [.nilFunc], false⟩
theorem zes : Tw 281 ti281 = some ti281 := by kernel_rfl
def ti283 : V.TI := ⟨.func, 1, 8, [.nilFunc], false⟩
theorem zer : Tw 283 ti283 = some ti283 := by kernel_rfl
def ti284 : V.TI := ⟨.func, 1, 8, [.nilFunc], false⟩
theorem zeq : Tw 284 ti284 = some ti284 := by kernel_rfl
def ti286 : V.TI := ⟨.func, 1, 8, [.nilFunc], false⟩
theorem zep : Tw 286 ti286 = some ti286 := by kernel_rfl
def ti287 : V.TI := ⟨.func, 1, 8, [.nilFunc], false⟩
theorem zeo : Tw 287 ti287 = some ti287 := by kernel_rfl
def ti288 : V.TI := ⟨.func, 1, 8, [.nilFunc], false⟩
theorem zen : Tw 288 ti288 = some ti288 := by kernel_rfl
def ti289 : V.TI := ⟨.func, 1, 8, [.nilFunc], false⟩
theorem zem : Tw 289 ti289 = some ti289 := by kernel_rfl
def ti290 : V.TI := ⟨.func, 1, 8, [.nilFunc], false⟩
theorem zek : Tw 290 ti290 = some ti290 := by kernel_rfl
def ti291 : V.TI := ⟨.func, 1, 8, [.nilFunc], false⟩
theorem zej : Tw 291 ti291 = some ti291 := by kernel_rfl
def ti293 : V.TI := ⟨.func, 1, 8, [.nilFunc], false⟩
theorem zei : Tw 293 ti293 = some ti293 := by kernel_rfl
def ti294 : V.TI := ⟨.func, 1, 8, [.nilFunc], false⟩
theorem zeh : Tw 294 ti294 = some ti294 := by kernel_rfl
def ti295 : V.TI := ⟨.func, 1, 8, [.nilFunc], false⟩
theorem zeg : Tw 295 ti295 = some ti295 := by kernel_rfl
def ti296 : V.TI := ⟨.func, 1, 8, [.nilFunc], false⟩
theorem zef : Tw 296 ti296 = some ti296 := by kernel_rfl
def ti297 : V.TI := ⟨.func, 1, 8, [.nilFunc], false⟩
theorem zee : Tw 297 ti297 = some ti297 := by kernel_rfl
def ti299 : V.TI := ⟨.func, 1, 8, [.nilFunc], false⟩
theorem zed : Tw 299 ti299 = some ti299 := by kernel_rfl
def ti300 : V.TI := ⟨.struct [(0, 3), (1, 3), (2, 70)], 3, 40, [.int .i64 0, .int .i64 0, .slice none 0 0], true⟩
theorem zea : Tw 300 ti300 = some ti300 := by kernel_rfl
def ti301 : V.TI := ⟨.struct [(0, 3), (1, 3), (2, 70)], 3, 40, [.int .i64 0, .int .i64 0, .slice none 0 0], true⟩
theorem zd9 : Tw 301 ti301 = some ti301 := by kernel_rfl
def ti302 : V.TI := ⟨.struct [(0, 3), (1, 3), (2, 301), (5, 3), (6, 69), (7, 3)], 8, 80, [.int .i64 0, .int .i64 0, .int .i64 0, .int .i64 0, .slice none 0 0, .int .i64 0, .int .u64 0, .int .i64 0], true⟩
theorem zd8 : Tw 302 ti302 = some ti302 := by kernel_rfl
def ti303 : V.TI := ⟨.struct [(0, 3), (1, 3), (2, 301), (5, 3), (6, 69), (7, 3)], 8, 80, [.int .i64 0, .int .i64 0, .int .i64 0, .int .i64 0, .slice none 0 0, .int .i64 0, .int .u64 0, .int .i64 0], true⟩
theorem zd7 : Tw 303 ti303 = some ti303 := by kernel_rfl
def ti304 : V.TI := ⟨.func, 1, 8, [.nilFunc], false⟩
theorem zd6 : Tw 304 ti304 = some ti304 := by kernel_rfl
def ti305 : V.TI := ⟨.func, 1, 8, [.nilFunc], false⟩
theorem zd5 : Tw 305 ti305 = some ti305 := by kernel_rfl
def ti306 : V.TI := ⟨.func, 1, 8, [.nilFunc], false⟩
theorem zd4 : Tw 306 ti306 = some ti306 := by kernel_rfl
def ti307 : V.TI := ⟨.func, 1, 8, [.nilFunc], false⟩
theorem zd3 : Tw 307 ti307 = some ti307 := by kernel_rfl
def ti308 : V.TI := ⟨.func, 1, 8, [.nilFunc], false⟩
theorem zd2 : Tw 308 ti308 = some ti308 := by kernel_rfl
def ti309 : V.TI := ⟨.func, 1, 8, [.nilFunc], false⟩
theorem zd1 : Tw 309 ti309 = some ti309 := by kernel_rfl
def ti310 : V.TI := ⟨.struct [(0, 69), (1, 69)], 2, 16, [.int .u64 0, .int .u64 0], true⟩
theorem zdz : Tw 310 ti310 = some ti310 := by kernel_rfl
def ti311 : V.TI := ⟨.struct [(0, 69), (1, 69)], 2, 16, [.int .u64 0, .int .u64 0], true⟩
theorem zdy : Tw 311 ti311 = some ti311 := by kernel_rfl
def ti312 : V.TI := ⟨.func, 1, 8, [.nilFunc], false⟩
theorem zdx : Tw 312 ti312 = some ti312 := by kernel_rfl
def ti313 : V.TI := ⟨.func, 1, 8, [.nilFunc], false⟩
theorem zdw : Tw 313 ti313 = some ti313 := by kernel_rfl
def ti314 : V.TI := ⟨.array 6 3, 6, 48, [.int .i64 0, .int .i64 0, .int .i64 0, .int .i64 0, .int .i64 0, .int .i64 0], false⟩
theorem zdv : Tw 314 ti314 = some ti314 := by kernel_rfl
def ti315 : V.TI := ⟨.array 3 314, 18, 144, [.int .i64 0, .int .i64 0, .int .i64 0, .int .i64 0, .int .i64 0, .int .i64 0, .int .i64 0, .int .i64 0, .int .i64 0, .int .i64 0, .int .i64 0, .int .i64 0, .int .i64 0, .int .i64 0, .int .i64 0, .int .i64 0, .int .i64 0, .int .i64 0], false⟩
theorem zdu : Tw 315 ti315 = some ti315 := by kernel_rfl
def ti316 : V.TI := ⟨.func, 1, 8, [.nilFunc], false⟩
theorem zdt : Tw 316 ti316 = some ti316 := by kernel_rfl
def ti317 : V.TI := ⟨.func, 1, 8, [.nilFunc], false⟩
theorem zds : Tw 317 ti317 = some ti317 := by kernel_rfl
def ti318 : V.TI := ⟨.func, 1, 8, [.nilFunc], false⟩
theorem zdr : Tw 318 ti318 = some ti318 := by kernel_rfl
def ti319 : V.TI := ⟨.map 3 3, 1, 8, [.map none], false⟩
theorem zdq : Tw 319 ti319 = some ti319 := by kernel_rfl
def ti320 : V.TI := ⟨.map 3 36, 1, 8, [.map none], false⟩
theorem zdo : Tw 320 ti320 = some ti320 := by kernel_rfl
def ti321 : V.TI := ⟨.map 325 29, 1, 8, [.map none], false⟩
theorem zdn : Tw 321 ti321 = some ti321 := by kernel_rfl
def ti322 : V.TI := ⟨.struct [(0, 320), (1, 321)], 2, 16, [.map none, .map none], true⟩
theorem zdm : Tw 322 ti322 = some ti322 := by kernel_rfl
def ti323 : V.TI := ⟨.struct [(0, 320), (1, 321)], 2, 16, [.map none, .map none], true⟩
theorem zdl : Tw 323 ti323 = some ti323 := by kernel_rfl
def ti324 : V.TI := ⟨.struct [(0, 2), (1, 2)], 2, 16, [.int .i64 0, .int .i64 0], true⟩
theorem zdk : Tw 324 ti324 = some ti324 := by kernel_rfl
def ti325 : V.TI := ⟨.struct [(0, 2), (1, 2)], 2, 16, [.int .i64 0, .int .i64 0], true⟩
theorem zdj : Tw 325 ti325 = some ti325 := by kernel_rfl
def ti326 : V.TI := ⟨.func, 1, 8, [.nilFunc], false⟩
theorem zdi : Tw 326 ti326 = some ti326 := by kernel_rfl
def ti327 : V.TI := ⟨.func, 1, 8, [.nilFunc], false⟩
theorem zdh : Tw 327 ti327 = some ti327 := by kernel_rfl
def ti328 : V.TI := ⟨.func, 1, 8, [.nilFunc], false⟩
theorem zdg : Tw 328 ti328 = some ti328 := by kernel_rfl
def ti329 : V.TI := ⟨.func, 1, 8, [.nilFunc], false⟩
theorem zdf : Tw 329 ti329 = some ti329 := by kernel_rfl
def ti330 : V.TI := ⟨.func, 1, 8, [.nilFunc], false⟩
theorem zdd : Tw 330 ti330 = some ti330 := by kernel_rfl
def ti331 : V.TI := ⟨.func, 1, 8, [.nilFunc], false⟩
theorem zdc : Tw 331 ti331 = some ti331 := by kernel_rfl
def ti332 : V.TI := ⟨.func, 1, 8, [.nilFunc], false⟩
theorem zdb : Tw 332 ti332 = some ti332 := by kernel_rfl
def ti333 : V.TI := ⟨.struct [(0, 24), (3, 3), (4, 50)], 5, 72, [.int .i64 0, .int .i64 0, .slice none 0 0, .int .i64 0, .slice none 0 0], true⟩
theorem zda : Tw 333 ti333 = some ti333 := by kernel_rfl
def ti334 : V.TI := ⟨.struct [(0, 24), (3, 3), (4, 50)], 5, 72, [.int .i64 0, .int .i64 0, .slice none 0 0, .int .i64 0, .slice none 0 0], true⟩
theorem zc9 : Tw 334 ti334 = some ti334 := by kernel_rfl
def ti335 : V.TI := ⟨.func, 1, 8, [.nilFunc], false⟩
theorem zc8 : Tw 335 ti335 = some ti335 := by kernel_rfl
def ti336 : V.TI := ⟨.func, 1, 8, [.nilFunc], false⟩
theorem zc7 : Tw 336 ti336 = some ti336 := by kernel_rfl
def ti338 : V.TI := ⟨.func, 1, 8, [.nilFunc], false⟩
theorem zc6 : Tw 338 ti338 = some ti338 := by kernel_rfl
def ti339 : V.TI := ⟨.func, 1, 8, [.nilFunc], false⟩
theorem zc5 : Tw 339 ti339 = some ti339 := by kernel_rfl
def ti340 : V.TI := ⟨.func, 1, 8, [.nilFunc], false⟩
theorem zc3 : Tw 340 ti340 = some ti340 := by kernel_rfl
def ti341 : V.TI := ⟨.struct [(0, 3), (1, 319), (2, 29), (3, 238), (4, 238)], 5, 56, [.int .i64 0, .map none, .slice none 0 0, .int .i64 0, .int .i64 0], true⟩
theorem zc2 : Tw 341 ti341 = some ti341 := by kernel_rfl
def ti342 : V.TI := ⟨.struct [(0, 3), (1, 319), (2, 29), (3, 238), (4, 238)], 5, 56, [.int .i64 0, .map none, .slice none 0 0, .int .i64 0, .int .i64 0], true⟩
theorem zc1 : Tw 342 ti342 = some ti342 := by kernel_rfl
def ti343 : V.TI := ⟨.ptr 260, 1, 8, [.pointer none], false⟩
theorem zc0 : Tw 343 ti343 = some ti343 := by kernel_rfl
def ti344 : V.TI := ⟨.func, 1, 8, [.nilFunc], false⟩
theorem zcz : Tw 344 ti344 = some ti344 := by kernel_rfl
def ti345 : V.TI := ⟨.func, 1, 8, [.nilFunc], false⟩
theorem zcy : Tw 345 ti345 = some ti345 := by kernel_rfl
def ti347 : V.TI := ⟨.func, 1, 8, [.nilFunc], false⟩
theorem zcx : Tw 347 ti347 = some ti347 := by kernel_rfl
def ti349 : V.TI := ⟨.func, 1, 8, [.nilFunc], false⟩
theorem zcw : Tw 349 ti349 = some ti349 := by kernel_rfl
def ti350 : V.TI := ⟨.func, 1, 8, [.nilFunc], false⟩
theorem zcu : Tw 350 ti350 = some ti350 := by kernel_rfl
def ti351 : V.TI := ⟨.func, 1, 8, [.nilFunc], false⟩
theorem zct : Tw 351 ti351 = some ti351 := by kernel_rfl
def ti352 : V.TI := ⟨.func, 1, 8, [.nilFunc], false⟩
theorem zcs : Tw 352 ti352 = some ti352 := by kernel_rfl
def ti353 : V.TI := ⟨.func, 1, 8, [.nilFunc], false⟩
theorem zcr : Tw 353 ti353 = some ti353 := by kernel_rfl
def ti354 : V.TI := ⟨.func, 1, 8, [.nilFunc], false⟩
theorem zcq : Tw 354 ti354 = some ti354 := by kernel_rfl
def ti355 : V.TI := ⟨.func, 1, 8, [.nilFunc], false⟩
theorem zcp : Tw 355 ti355 = some ti355 := by kernel_rfl
def ti356 : V.TI := ⟨.func, 1, 8, [.nilFunc], false⟩
theorem zco : Tw 356 ti356 = some ti356 := by kernel_rfl
def ti357 : V.TI := ⟨.func, 1, 8, [.nilFunc], false⟩
theorem zcn : Tw 357 ti357 = some ti357 := by kernel_rfl
def ti358 : V.TI := ⟨.func, 1, 8, [.nilFunc], false⟩
theorem zcm : Tw 358 ti358 = some ti358 := by kernel_rfl
def ti360 : V.TI := ⟨.func, 1, 8, [.nilFunc], false⟩
theorem zck : Tw 360 ti360 = some ti360 := by kernel_rfl
def ti362 : V.TI := ⟨.func, 1, 8, [.nilFunc], false⟩
theorem zcj : Tw 362 ti362 = some ti362 := by kernel_rfl
def ti363 : V.TI := ⟨.func, 1, 8, [.nilFunc], false⟩
theorem zci : Tw 363 ti363 = some ti363 := by kernel_rfl
def ti364 : V.TI := ⟨.func, 1, 8, [.nilFunc], false⟩
theorem zch : Tw 364 ti364 = some ti364 := by kernel_rfl
def ti365 : V.TI := ⟨.func, 1, 8, [.nilFunc], false⟩
theorem zcg : Tw 365 ti365 = some ti365 := by kernel_rfl
def ti366 : V.TI := ⟨.func, 1, 8, [.nilFunc], false⟩
theorem zcf : Tw 366 ti366 = some ti366 := by kernel_rfl
def ti368 : V.TI := ⟨.func, 1, 8, [.nilFunc], false⟩
theorem zce : Tw 368 ti368 = some ti368 := by kernel_rfl
def ti369 : V.TI := ⟨.func, 1, 8, [.nilFunc], false⟩
theorem zcd : Tw 369 ti369 = some ti369 := by kernel_rfl
def ti370 : V.TI := ⟨.func, 1, 8, [.nilFunc], false⟩
theorem zcb : Tw 370 ti370 = some ti370 := by kernel_rfl
def ti372 : V.TI := ⟨.func, 1, 8, [.nilFunc], false⟩
theorem zca : Tw 372 ti372 = some ti372 := by kernel_rfl
def ti373 : V.TI := ⟨.func, 1, 8, [.nilFunc], false⟩
theorem zb9 : Tw 373 ti373 = some ti373 := by kernel_rfl
def ti374 : V.TI := ⟨.func, 1, 8, [.nilFunc], false⟩
theorem zb8 : Tw 374 ti374 = some ti374 := by kernel_rfl
def ti375 : V.TI := ⟨.func, 1, 8, [.nilFunc], false⟩
theorem zb7 : Tw 375 ti375 = some ti375 := by kernel_rfl
def ti376 : V.TI := ⟨.func, 1, 8, [.nilFunc], false⟩
theorem zb6 : Tw 376 ti376 = some ti376 := by kernel_rfl
def ti377 : V.TI := ⟨.func, 1, 8, [.nilFunc], false⟩
theorem zb5 : Tw 377 ti377 = some ti377 := by kernel_rfl
def ti378 : V.TI := ⟨.func, 1, 8, [.nilFunc], false⟩
theorem zb4 : Tw 378 ti378 = some ti378 := by kernel_rfl
def ti380 : V.TI := ⟨.func, 1, 8, [.nilFunc], false⟩
theorem zb2 : Tw 380 ti380 = some ti380 := by kernel_rfl
def ti381 : V.TI := ⟨.func, 1, 8, [.nilFunc], false⟩
theorem zb1 : Tw 381 ti381 = some ti381 := by kernel_rfl
def ti382 : V.TI := ⟨.func, 1, 8, [.nilFunc], false⟩
theorem zb0 : Tw 382 ti382 = some ti382 := by kernel_rfl
def ti383 : V.TI := ⟨.struct [(0, 69), (1, 69)], 2, 16, [.int .u64 0, .int .u64 0], true⟩
theorem zbz : Tw 383 ti383 = some ti383 := by kernel_rfl
def ti384 : V.TI := ⟨.func, 1, 8, [.nilFunc], false⟩
theorem zby : Tw 384 ti384 = some ti384 := by kernel_rfl
def ti385 : V.TI := ⟨.func, 1, 8, [.nilFunc], false⟩
theorem zbx : Tw 385 ti385 = some ti385 := by kernel_rfl
def ti386 : V.TI := ⟨.func, 1, 8, [.nilFunc], false⟩
theorem zbw : Tw 386 ti386 = some ti386 := by kernel_rfl
def ti387 : V.TI := ⟨.func, 1, 8, [.nilFunc], false⟩
theorem zbv : Tw 387 ti387 = some ti387 := by kernel_rfl
def ti389 : V.TI := ⟨.func, 1, 8, [.nilFunc], false⟩
theorem zbu : Tw 389 ti389 = some ti389 := by kernel_rfl
def ti390 : V.TI := ⟨.func, 1, 8, [.nilFunc], false⟩
theorem zbs : Tw 390 ti390 = some ti390 := by kernel_rfl
def ti391 : V.TI := ⟨.array 2 3, 2, 16, [.int .i64 0, .int .i64 0], false⟩
theorem zbr : Tw 391 ti391 = some ti391 := by kernel_rfl
def ti392 : V.TI := ⟨.array 8 391, 16, 128, [.int .i64 0, .int .i64 0, .int .i64 0, .int .i64 0, .int .i64 0, .int .i64 0, .int .i64 0, .int .i64 0, .int .i64 0, .int .i64 0, .int .i64 0, .int .i64 0, .int .i64 0, .int .i64 0, .int .i64 0, .int .i64 0], false⟩
theorem zbq : Tw 392 ti392 = some ti392 := by kernel_rfl
def ti393 : V.TI := ⟨.func, 1, 8, [.nilFunc], false⟩
theorem zbp : Tw 393 ti393 = some ti393 := by kernel_rfl
def ti394 : V.TI := ⟨.func, 1, 8, [.nilFunc], false⟩
theorem zbo : Tw 394 ti394 = some ti394 := by kernel_rfl
def ti395 : V.TI := ⟨.func, 1, 8, [.nilFunc], false⟩
theorem zbn : Tw 395 ti395 = some ti395 := by kernel_rfl
def ti396 : V.TI := ⟨.func, 1, 8, [.nilFunc], false⟩
theorem zbm : Tw 396 ti396 = some ti396 := by kernel_rfl
def ti398 : V.TI := ⟨.func, 1, 8, [.nilFunc], false⟩
theorem zbl : Tw 398 ti398 = some ti398 := by kernel_rfl
def ti399 : V.TI := ⟨.map 3 29, 1, 8, [.map none], false⟩
theorem zbk : Tw 399 ti399 = some ti399 := by kernel_rfl
def ti401 : V.TI := ⟨.func, 1, 8, [.nilFunc], false⟩
theorem zbh : Tw 401 ti401 = some ti401 := by kernel_rfl
def ti403 : V.TI := ⟨.func, 1, 8, [.nilFunc], false⟩
theorem zbg : Tw 403 ti403 = some ti403 := by kernel_rfl
def ti404 : V.TI := ⟨.func, 1, 8, [.nilFunc], false⟩
theorem zbf : Tw 404 ti404 = some ti404 := by kernel_rfl
def ti406 : V.TI := ⟨.func, 1, 8, [.nilFunc], false⟩
theorem zbe : Tw 406 ti406 = some ti406 := by kernel_rfl
def ti407 : V.TI := ⟨.func, 1, 8, [.nilFunc], false⟩
theorem zbd : Tw 407 ti407 = some ti407 := by kernel_rfl
def ti408 : V.TI := ⟨.func, 1, 8, [.nilFunc], false⟩
theorem zbc : Tw 408 ti408 = some ti408 := by kernel_rfl
def ti409 : V.TI := ⟨.func, 1, 8, [.nilFunc], false⟩
theorem zbb : Tw 409 ti409 = some ti409 := by kernel_rfl
def ti410 : V.TI := ⟨.func, 1, 8, [.nilFunc], false⟩
theorem za9 : Tw 410 ti410 = some ti410 := by kernel_rfl
def ti411 : V.TI := ⟨.ptr 254, 1, 8, [.pointer none], false⟩
theorem za8 : Tw 411 ti411 = some ti411 := by kernel_rfl
def ti412 : V.TI := ⟨.func, 1, 8, [.nilFunc], false⟩
theorem za7 : Tw 412 ti412 = some ti412 := by kernel_rfl
def ti413 : V.TI := ⟨.ptr 252, 1, 8, [.pointer none], false⟩
theorem za6 : Tw 413 ti413 = some ti413 := by kernel_rfl
def ti414 : V.TI := ⟨.func, 1, 8, [.nilFunc], false⟩
theorem za5 : Tw 414 ti414 = some ti414 := by kernel_rfl
def ti415 : V.TI := ⟨.func, 1, 8, [.nilFunc], false⟩
theorem za4 : Tw 415 ti415 = some ti415 := by kernel_rfl
def ti416 : V.TI := ⟨.func, 1, 8, [.nilFunc], false⟩
theorem za3 : Tw 416 ti416 = some ti416 := by kernel_rfl
def ti417 : V.TI := ⟨.func, 1, 8, [.nilFunc], false⟩
theorem za2 : Tw 417 ti417 = some ti417 := by kernel_rfl
def ti418 : V.TI := ⟨.func, 1, 8, [.nilFunc], false⟩
theorem za1 : Tw 418 ti418 = some ti418 := by kernel_rfl
def ti419 : V.TI := ⟨.func, 1, 8, [.nilFunc], false⟩
theorem za0 : Tw 419 ti419 = some ti419 := by kernel_rfl
def ti421 : V.TI := ⟨.func, 1, 8, [.nilFunc], false⟩
theorem zay : Tw 421 ti421 = some ti421 := by kernel_rfl
def ti422 : V.TI := ⟨.func, 1, 8, [.nilFunc], false⟩
theorem zax : Tw 422 ti422 = some ti422 := by kernel_rfl
def ti423 : V.TI := ⟨.func, 1, 8, [.nilFunc], false⟩
theorem zaw : Tw 423 ti423 = some ti423 := by kernel_rfl
def ti424 : V.TI := ⟨.func, 1, 8, [.nilFunc], false⟩
theorem zav : Tw 424 ti424 = some ti424 := by kernel_rfl
def ti425 : V.TI := ⟨.ptr 140, 1, 8, [.pointer none], false⟩
theorem zau : Tw 425 ti425 = some ti425 := by kernel_rfl
def ti426 : V.TI := ⟨.func, 1, 8, [.nilFunc], false⟩
theorem zat : Tw 426 ti426 = some ti426 := by kernel_rfl
def ti427 : V.TI := ⟨.func, 1, 8, [.nilFunc], false⟩
theorem zas : Tw 427 ti427 = some ti427 := by kernel_rfl
def ti428 : V.TI := ⟨.func, 1, 8, [.nilFunc], false⟩
theorem zar : Tw 428 ti428 = some ti428 := by kernel_rfl
def ti429 : V.TI := ⟨.func, 1, 8, [.nilFunc], false⟩
theorem zaq : Tw 429 ti429 = some ti429 := by kernel_rfl
def ti430 : V.TI := ⟨.func, 1, 8, [.nilFunc], false⟩
theorem zao : Tw 430 ti430 = some ti430 := by kernel_rfl
def ti431 : V.TI := ⟨.other, 1, 16, [.nilIface], false⟩
theorem zan : Tw 431 ti431 = some ti431 := by kernel_rfl
def ti432 : V.TI := ⟨.other, 1, 16, [.nilIface], false⟩
theorem zam : Tw 432 ti432 = some ti432 := by kernel_rfl
def ti433 : V.TI := ⟨.func, 1, 8, [.nilFunc], false⟩
theorem zal : Tw 433 ti433 = some ti433 := by kernel_rfl
def ti434 : V.TI := ⟨.func, 1, 8, [.nilFunc], false⟩
theorem zak : Tw 434 ti434 = some ti434 := by kernel_rfl
def ti435 : V.TI := ⟨.func, 1, 8, [.nilFunc], false⟩
theorem zaj : Tw 435 ti435 = some ti435 := by kernel_rfl
def ti436 : V.TI := ⟨.func, 1, 8, [.nilFunc], false⟩
theorem zai : Tw 436 ti436 = some ti436 := by kernel_rfl
def ti437 : V.TI := ⟨.ptr 258, 1, 8, [.pointer none], false⟩
theorem zah : Tw 437 ti437 = some ti437 := by kernel_rfl
def ti438 : V.TI := ⟨.func, 1, 8, [.nilFunc], false⟩
theorem zaf : Tw 438 ti438 = some ti438 := by kernel_rfl
def ti439 : V.TI := ⟨.func, 1, 8, [.nilFunc], false⟩
theorem zae : Tw 439 ti439 = some ti439 := by kernel_rfl
def ti440 : V.TI := ⟨.func, 1, 8, [.nilFunc], false⟩
theorem zac : Tw 440 ti440 = some ti440 := by kernel_rfl
def ti441 : V.TI := ⟨.slice 391, 1, 24, [.slice none 0 0], false⟩
theorem zab : Tw 441 ti441 = some ti441 := by kernel_rfl
def ti442 : V.TI := ⟨.func, 1, 8, [.nilFunc], false⟩
theorem zaa : Tw 442 ti442 = some ti442 := by kernel_rfl
def ti443 : V.TI := ⟨.func, 1, 8, [.nilFunc], false⟩
theorem u9 : Tw 443 ti443 = some ti443 := by kernel_rfl
def ti444 : V.TI := ⟨.func, 1, 8, [.nilFunc], false⟩
theorem u7 : Tw 444 ti444 = some ti444 := by kernel_rfl
def ti445 : V.TI := ⟨.func, 1, 8, [.nilFunc], false⟩
theorem u6 : Tw 445 ti445 = some ti445 := by kernel_rfl
def ti446 : V.TI := ⟨.func, 1, 8, [.nilFunc], false⟩
theorem u0 : Tw 446 ti446 = some ti446 := by kernel_rfl
def ti447 : V.TI := ⟨.func, 1, 8, [.nilFunc], false⟩
theorem uz : Tw 447 ti447 = some ti447 := by kernel_rfl
def ti448 : V.TI := ⟨.func, 1, 8, [.nilFunc], false⟩
theorem uy : Tw 448 ti448 = some ti448 := by kernel_rfl
def ti449 : V.TI := ⟨.func, 1, 8, [.nilFunc], false⟩
theorem ux : Tw 449 ti449 = some ti449 := by kernel_rfl
def ti450 : V.TI := ⟨.int .i64, 1, 8, [.int .i64 0], false⟩
theorem uu : Tw 450 ti450 = some ti450 := by kernel_rfl
def ti452 : V.TI := ⟨.func, 1, 8, [.nilFunc], false⟩
theorem ut : Tw 452 ti452 = some ti452 := by kernel_rfl
def ti453 : V.TI := ⟨.func, 1, 8, [.nilFunc], false⟩
theorem ur : Tw 453 ti453 = some ti453 := by kernel_rfl
def ti454 : V.TI := ⟨.func, 1, 8, [.nilFunc], false⟩
theorem uq : Tw 454 ti454 = some ti454 := by kernel_rfl
def ti455 : V.TI := ⟨.func, 1, 8, [.nilFunc], false⟩
theorem uo : Tw 455 ti455 = some ti455 := by kernel_rfl
def ti456 : V.TI := ⟨.func, 1, 8, [.nilFunc], false⟩
theorem um : Tw 456 ti456 = some ti456 := by kernel_rfl
def ti457 : V.TI := ⟨.func, 1, 8, [.nilFunc], false⟩
theorem ul : Tw 457 ti457 = some ti457 := by kernel_rfl
def ti458 : V.TI := ⟨.func, 1, 8, [.nilFunc], false⟩
theorem uk : Tw 458 ti458 = some ti458 := by kernel_rfl
def ti459 : V.TI := ⟨.func, 1, 8, [.nilFunc], false⟩
theorem uj : Tw 459 ti459 = some ti459 := by kernel_rfl
def ti460 : V.TI := ⟨.ptr 256, 1, 8, [.pointer none], false⟩
theorem uh : Tw 460 ti460 = some ti460 := by kernel_rfl
def ti461 : V.TI := ⟨.func, 1, 8, [.nilFunc], false⟩
theorem ug : Tw 461 ti461 = some ti461 := by kernel_rfl
def ti462 : V.TI := ⟨.ptr 21, 1, 8, [.pointer none], false⟩
theorem uf : Tw 462 ti462 = some ti462 := by kernel_rfl
def ti463 : V.TI := ⟨.func, 1, 8, [.nilFunc], false⟩
theorem ue : Tw 463 ti463 = some ti463 := by kernel_rfl
def ti464 : V.TI := ⟨.other, 1, 8, [.pointer none], false⟩
theorem ud : Tw 464 ti464 = some ti464 := by kernel_rfl
def ti465 : V.TI := ⟨.func, 1, 8, [.nilFunc], false⟩
theorem uc : Tw 465 ti465 = some ti465 := by kernel_rfl
def ti466 : V.TI := ⟨.func, 1, 8, [.nilFunc], false⟩
theorem t8 : Tw 466 ti466 = some ti466 := by kernel_rfl
def ti467 : V.TI := ⟨.int .u64, 1, 8, [.int .u64 0], false⟩
theorem t7 : Tw 467 ti467 = some ti467 := by kernel_rfl
def ti468 : V.TI := ⟨.func, 1, 8, [.nilFunc], false⟩
theorem t6 : Tw 468 ti468 = some ti468 := by kernel_rfl
def ti469 : V.TI := ⟨.func, 1, 8, [.nilFunc], false⟩
theorem tz : Tw 469 ti469 = some ti469 := by kernel_rfl
def ti470 : V.TI := ⟨.ptr 3, 1, 8, [.pointer none], false⟩
theorem tv : Tw 470 ti470 = some ti470 := by kernel_rfl
def ti471 : V.TI := ⟨.func, 1, 8, [.nilFunc], false⟩
theorem tu : Tw 471 ti471 = some ti471 := by kernel_rfl
def ti472 : V.TI := ⟨.func, 1, 8, [.nilFunc], false⟩
theorem tt : Tw 472 ti472 = some ti472 := by kernel_rfl
def ti473 : V.TI := ⟨.func, 1, 8, [.nilFunc], false⟩
theorem tq : Tw 473 ti473 = some ti473 := by kernel_rfl
def ti474 : V.TI := ⟨.func, 1, 8, [.nilFunc], false⟩
theorem tp : Tw 474 ti474 = some ti474 := by kernel_rfl
def ti475 : V.TI := ⟨.ptr 467, 1, 8, [.pointer none], false⟩
theorem tn : Tw 475 ti475 = some ti475 := by kernel_rfl
def ti477 : V.TI := ⟨.func, 1, 8, [.nilFunc], false⟩
theorem tj : Tw 477 ti477 = some ti477 := by kernel_rfl
def ti478 : V.TI := ⟨.func, 1, 8, [.nilFunc], false⟩
theorem ti : Tw 478 ti478 = some ti478 := by kernel_rfl
def ti479 : V.TI := ⟨.func, 1, 8, [.nilFunc], false⟩
theorem th : Tw 479 ti479 = some ti479 := by kernel_rfl
def ti480 : V.TI := ⟨.struct [(0, 17), (1, 17), (2, 17), (3, 9)], 4, 40, [.pointer none, .pointer none, .pointer none, .string ⟨#[]⟩], false⟩
theorem tg : Tw 480 ti480 = some ti480 := by kernel_rfl
def ti481 : V.TI := ⟨.struct [(0, 17), (1, 17), (2, 17), (3, 9)], 4, 40, [.pointer none, .pointer none, .pointer none, .string ⟨#[]⟩], false⟩
theorem tf : Tw 481 ti481 = some ti481 := by kernel_rfl
def ti482 : V.TI := ⟨.array 0 16, 0, 0, [], false⟩
theorem te : Tw 482 ti482 = some ti482 := by kernel_rfl
def ti483 : V.TI := ⟨.struct [(0, 482)], 0, 0, [], false⟩
theorem td : Tw 483 ti483 = some ti483 := by kernel_rfl
def ti484 : V.TI := ⟨.struct [(0, 482)], 0, 0, [], false⟩
theorem tc : Tw 484 ti484 = some ti484 := by kernel_rfl
def ti485 : V.TI := ⟨.func, 1, 8, [.nilFunc], false⟩
theorem tb : Tw 485 ti485 = some ti485 := by kernel_rfl
def ti486 : V.TI := ⟨.int .u8, 1, 1, [.int .u8 0], false⟩
theorem ta : Tw 486 ti486 = some ti486 := by kernel_rfl
def ti487 : V.TI := ⟨.int .u8, 1, 1, [.int .u8 0], false⟩
theorem s9 : Tw 487 ti487 = some ti487 := by kernel_rfl
def ti488 : V.TI := ⟨.func, 1, 8, [.nilFunc], false⟩
theorem s8 : Tw 488 ti488 = some ti488 := by kernel_rfl
def ti489 : V.TI := ⟨.ptr 5, 1, 8, [.pointer none], false⟩
theorem s7 : Tw 489 ti489 = some ti489 := by kernel_rfl
def ti490 : V.TI := ⟨.int .i32, 1, 4, [.int .i32 0], false⟩
theorem s5 : Tw 490 ti490 = some ti490 := by kernel_rfl
def ti491 : V.TI := ⟨.int .i32, 1, 4, [.int .i32 0], false⟩
theorem s4 : Tw 491 ti491 = some ti491 := by kernel_rfl
def ti492 : V.TI := ⟨.struct [(0, 12), (1, 12), (2, 252), (3, 486), (4, 5), (5, 5), (6, 487), (7, 488), (8, 489), (9, 490), (10, 491)], 11, 48, [.int .u64 0, .int .u64 0, .int .u32 0, .int .u8 0, .int .u8 0, .int .u8 0, .int .u8 0, .nilFunc, .pointer none, .int .i32 0, .int .i32 0], false⟩
theorem sy : Tw 492 ti492 = some ti492 := by kernel_rfl
def ti493 : V.TI := ⟨.struct [(0, 12), (1, 12), (2, 252), (3, 486), (4, 5), (5, 5), (6, 487), (7, 488), (8, 489), (9, 490), (10, 491)], 11, 48, [.int .u64 0, .int .u64 0, .int .u32 0, .int .u8 0, .int .u8 0, .int .u8 0, .int .u8 0, .nilFunc, .pointer none, .int .i32 0, .int .i32 0], false⟩
theorem sx : Tw 493 ti493 = some ti493 := by kernel_rfl
def ti494 : V.TI := ⟨.func, 1, 8, [.nilFunc], false⟩
theorem sw : Tw 494 ti494 = some ti494 := by kernel_rfl
def ti495 : V.TI := ⟨.func, 1, 8, [.nilFunc], false⟩
theorem su : Tw 495 ti495 = some ti495 := by kernel_rfl
def ti496 : V.TI := ⟨.func, 1, 8, [.nilFunc], false⟩
theorem ss : Tw 496 ti496 = some ti496 := by kernel_rfl
def ti497 : V.TI := ⟨.ptr 505, 1, 8, [.pointer none], false⟩
theorem sr : Tw 497 ti497 = some ti497 := by kernel_rfl
def ti498 : V.TI := ⟨.func, 1, 8, [.nilFunc], false⟩
theorem sq : Tw 498 ti498 = some ti498 := by kernel_rfl
def ti499 : V.TI := ⟨.func, 1, 8, [.nilFunc], false⟩
theorem sn : Tw 499 ti499 = some ti499 := by kernel_rfl
def ti501 : V.TI := ⟨.func, 1, 8, [.nilFunc], false⟩
theorem sk : Tw 501 ti501 = some ti501 := by kernel_rfl
def ti502 : V.TI := ⟨.func, 1, 8, [.nilFunc], false⟩
theorem sj : Tw 502 ti502 = some ti502 := by kernel_rfl
def ti503 : V.TI := ⟨.slice 507, 1, 24, [.slice none 0 0], false⟩
theorem si : Tw 503 ti503 = some ti503 := by kernel_rfl
def ti504 : V.TI := ⟨.struct [(0, 503)], 1, 24, [.slice none 0 0], true⟩
theorem sh : Tw 504 ti504 = some ti504 := by kernel_rfl
def ti505 : V.TI := ⟨.struct [(0, 503)], 1, 24, [.slice none 0 0], true⟩
theorem sg : Tw 505 ti505 = some ti505 := by kernel_rfl
def ti506 : V.TI := ⟨.struct [(0, 3), (1, 3)], 2, 16, [.int .i64 0, .int .i64 0], true⟩
theorem sf : Tw 506 ti506 = some ti506 := by kernel_rfl
def ti507 : V.TI := ⟨.struct [(0, 3), (1, 3)], 2, 16, [.int .i64 0, .int .i64 0], true⟩
theorem se : Tw 507 ti507 = some ti507 := by kernel_rfl
def ti508 : V.TI := ⟨.func, 1, 8, [.nilFunc], false⟩
theorem sc : Tw 508 ti508 = some ti508 := by kernel_rfl
def ti509 : V.TI := ⟨.func, 1, 8, [.nilFunc], false⟩
theorem r9 : Tw 509 ti509 = some ti509 := by kernel_rfl
def ti510 : V.TI := ⟨.ptr 512, 1, 8, [.pointer none], false⟩
theorem r7 : Tw 510 ti510 = some ti510 := by kernel_rfl
def ti511 : V.TI := ⟨.struct [(0, 260), (3, 29)], 4, 40, [.int .u32 0, .int .i32 0, .int .u32 0, .slice none 0 0], true⟩
theorem rz : Tw 511 ti511 = some ti511 := by kernel_rfl
def ti512 : V.TI := ⟨.struct [(0, 260), (3, 29)], 4, 40, [.int .u32 0, .int .i32 0, .int .u32 0, .slice none 0 0], true⟩
theorem ry : Tw 512 ti512 = some ti512 := by kernel_rfl
def ti513 : V.TI := ⟨.func, 1, 8, [.nilFunc], false⟩
theorem rx : Tw 513 ti513 = some ti513 := by kernel_rfl
def ti514 : V.TI := ⟨.func, 1, 8, [.nilFunc], false⟩
theorem rv : Tw 514 ti514 = some ti514 := by kernel_rfl
def ti515 : V.TI := ⟨.func, 1, 8, [.nilFunc], false⟩
theorem ru : Tw 515 ti515 = some ti515 := by kernel_rfl
def ti516 : V.TI := ⟨.func, 1, 8, [.nilFunc], false⟩
theorem rt : Tw 516 ti516 = some ti516 := by kernel_rfl
def ti517 : V.TI := ⟨.ptr 238, 1, 8, [.pointer none], false⟩
theorem rr : Tw 517 ti517 = some ti517 := by kernel_rfl
def ti518 : V.TI := ⟨.func, 1, 8, [.nilFunc], false⟩
theorem rq : Tw 518 ti518 = some ti518 := by kernel_rfl
def ti519 : V.TI := ⟨.ptr 2, 1, 8, [.pointer none], false⟩
theorem rp : Tw 519 ti519 = some ti519 := by kernel_rfl
def infoTree : V.Tr := (.node 258 (.node 132 (.node 63 (.node 31 (.node 16 (.node 8 (.node 4 (.node 2 (.node 1 .nil ti1 .nil) ti2 (.node 3 .nil ti3 .nil)) ti4 (.node 6 (.node 5 .nil ti5 .nil) ti6 (.node 7 .nil ti7 .nil))) ti8 (.node 12 (.node 10 (.node 9 .nil ti9 .nil) ti10 (.node 11 .nil ti11 .nil)) ti12 (.node 14 (.node 13 .nil ti13 .nil) ti14 (.node 15 .nil ti15 .nil)))) ti16 (.node 24 (.node 20 (.node 18 (.node 17 .nil ti17 .nil) ti18 (.node 19 .nil ti19 .nil)) ti20 (.node 22 (.node 21 .nil ti21 .nil) ti22 (.node 23 .nil ti23 .nil))) ti24 (.node 28 (.node 26 (.node 25 .nil ti25 .nil) ti26 (.node 27 .nil ti27 .nil)) ti28 (.node 30 (.node 29 .nil ti29 .nil) ti30 .nil)))) ti31 (.node 46 (.node 39 (.node 35 (.node 33 (.node 32 .nil ti32 .nil) ti33 (.node 34 .nil ti34 .nil)) ti35 (.node 37 (.node 36 .nil ti36 .nil) ti37 (.node 38 .nil ti38 .nil))) ti39 (.node 43 (.node 41 (.node 40 .nil ti40 .nil) ti41 (.node 42 .nil ti42 .nil)) ti43 (.node 45 (.node 44 .nil ti44 .nil) ti45 .nil))) ti46 (.node 55 (.node 51 (.node 49 (.node 48 .nil ti48 .nil) ti49 (.node 50 .nil ti50 .nil)) ti51 (.node 53 (.node 52 .nil ti52 .nil) ti53 (.node 54 .nil ti54 .nil))) ti55 (.node 59 (.node 57 (.node 56 .nil ti56 .nil) ti57 (.node 58 .nil ti58 .nil)) ti59 (.node 61 (.node 60 .nil ti60 .nil) ti61 .nil))))) ti63 (.node 96 (.node 79 (.node 72 (.node 68 (.node 66 (.node 64 .nil ti64 .nil) ti66 (.node 67 .nil ti67 .nil)) ti68 (.node 70 (.node 69 .nil ti69 .nil) ti70 (.node 71 .nil ti71 .nil))) ti72 (.node 76 (.node 74 (.node 73 .nil ti73 .nil) ti74 (.node 75 .nil ti75 .nil)) ti76 (.node 78 (.node 77 .nil ti77 .nil) ti78 .nil))) ti79 (.node 88 (.node 84 (.node 81 (.node 80 .nil ti80 .nil) ti81 (.node 83 .nil ti83 .nil)) ti84 (.node 86 (.node 85 .nil ti85 .nil) ti86 (.node 87 .nil ti87 .nil))) ti88 (.node 92 (.node 90 (.node 89 .nil ti89 .nil) ti90 (.node 91 .nil ti91 .nil)) ti92 (.node 95 (.node 93 .nil ti93 .nil) ti95 .nil)))) ti96 (.node 112 (.node 105 (.node 101 (.node 99 (.node 97 .nil ti97 .nil) ti99 (.node 100 .nil ti100 .nil)) ti101 (.node 103 (.node 102 .nil ti102 .nil) ti103 (.node 104 .nil ti104 .nil))) ti105 (.node 109 (.node 107 (.node 106 .nil ti106 .nil) ti107 (.node 108 .nil ti108 .nil)) ti109 (.node 111 (.node 110 .nil ti110 .nil) ti111 .nil))) ti112 (.node 122 (.node 118 (.node 115 (.node 114 .nil ti114 .nil) ti115 (.node 117 .nil ti117 .nil)) ti118 (.node 120 (.node 119 .nil ti119 .nil) ti120 (.node 121 .nil ti121 .nil))) ti122 (.node 127 (.node 124 (.node 123 .nil ti123 .nil) ti124 (.node 126 .nil ti126 .nil)) ti127 (.node 131 (.node 129 .nil ti129 .nil) ti131 .nil)))))) ti132 (.node 197 (.node 164 (.node 148 (.node 140 (.node 136 (.node 134 (.node 133 .nil ti133 .nil) ti134 (.node 135 .nil ti135 .nil)) ti136 (.node 138 (.node 137 .nil ti137 .nil) ti138 (.node 139 .nil ti139 .nil))) ti140 (.node 145 (.node 143 (.node 142 .nil ti142 .nil) ti143 (.node 144 .nil ti144 .nil)) ti145 (.node 147 (.node 146 .nil ti146 .nil) ti147 .nil))) ti148 (.node 156 (.node 152 (.node 150 (.node 149 .nil ti149 .nil) ti150 (.node 151 .nil ti151 .nil)) ti152 (.node 154 (.node 153 .nil ti153 .nil) ti154 (.node 155 .nil ti155 .nil))) ti156 (.node 160 (.node 158 (.node 157 .nil ti157 .nil) ti158 (.node 159 .nil ti159 .nil)) ti160 (.node 163 (.node 162 .nil ti162 .nil) ti163 .nil)))) ti164 (.node 181 (.node 173 (.node 169 (.node 166 (.node 165 .nil ti165 .nil) ti166 (.node 168 .nil ti168 .nil)) ti169 (.node 171 (.node 170 .nil ti170 .nil) ti171 (.node 172 .nil ti172 .nil))) ti173 (.node 177 (.node 175 (.node 174 .nil ti174 .nil) ti175 (.node 176 .nil ti176 .nil)) ti177 (.node 179 (.node 178 .nil ti178 .nil) ti179 .nil))) ti181 (.node 189 (.node 185 (.node 183 (.node 182 .nil ti182 .nil) ti183 (.node 184 .nil ti184 .nil)) ti185 (.node 187 (.node 186 .nil ti186 .nil) ti187 (.node 188 .nil ti188 .nil))) ti189 (.node 193 (.node 191 (.node 190 .nil ti190 .nil) ti191 (.node 192 .nil ti192 .nil)) ti193 (.node 195 (.node 194 .nil ti194 .nil) ti195 .nil))))) ti197 (.node 227 (.node 212 (.node 205 (.node 201 (.node 199 (.node 198 .nil ti198 .nil) ti199 (.node 200 .nil ti200 .nil)) ti201 (.node 203 (.node 202 .nil ti202 .nil) ti203 (.node 204 .nil ti204 .nil))) ti205 (.node 209 (.node 207 (.node 206 .nil ti206 .nil) ti207 (.node 208 .nil ti208 .nil)) ti209 (.node 211 (.node 210 .nil ti210 .nil) ti211 .nil))) ti212 (.node 220 (.node 216 (.node 214 (.node 213 .nil ti213 .nil) ti214 (.node 215 .nil ti215 .nil)) ti216 (.node 218 (.node 217 .nil ti217 .nil) ti218 (.node 219 .nil ti219 .nil))) ti220 (.node 224 (.node 222 (.node 221 .nil ti221 .nil) ti222 (.node 223 .nil ti223 .nil)) ti224 (.node 226 (.node 225 .nil ti225 .nil) ti226 .nil)))) ti227 (.node 243 (.node 236 (.node 231 (.node 229 (.node 228 .nil ti228 .nil) ti229 (.node 230 .nil ti230 .nil)) ti231 (.node 234 (.node 232 .nil ti232 .nil) ti234 (.node 235 .nil ti235 .nil))) ti236 (.node 240 (.node 238 (.node 237 .nil ti237 .nil) ti238 (.node 239 .nil ti239 .nil)) ti240 (.node 242 (.node 241 .nil ti241 .nil) ti242 .nil))) ti243 (.node 251 (.node 247 (.node 245 (.node 244 .nil ti244 .nil) ti245 (.node 246 .nil ti246 .nil)) ti247 (.node 249 (.node 248 .nil ti248 .nil) ti249 (.node 250 .nil ti250 .nil))) ti251 (.node 255 (.node 253 (.node 252 .nil ti252 .nil) ti253 (.node 254 .nil ti254 .nil)) ti255 (.node 257 (.node 256 .nil ti256 .nil) ti257 .nil))))))) ti258 (.node 392 (.node 323 (.node 291 (.node 274 (.node 266 (.node 262 (.node 260 (.node 259 .nil ti259 .nil) ti260 (.node 261 .nil ti261 .nil)) ti262 (.node 264 (.node 263 .nil ti263 .nil) ti264 (.node 265 .nil ti265 .nil))) ti266 (.node 270 (.node 268 (.node 267 .nil ti267 .nil) ti268 (.node 269 .nil ti269 .nil)) ti270 (.node 272 (.node 271 .nil ti271 .nil) ti272 (.node 273 .nil ti273 .nil)))) ti274 (.node 283 (.node 278 (.node 276 (.node 275 .nil ti275 .nil) ti276 (.node 277 .nil ti277 .nil)) ti278 (.node 280 (.node 279 .nil ti279 .nil) ti280 (.node 281 .nil ti281 .nil))) ti283 (.node 288 (.node 286 (.node 284 .nil ti284 .nil) ti286 (.node 287 .nil ti287 .nil)) ti288 (.node 290 (.node 289 .nil ti289 .nil) ti290 .nil)))) ti291 (.node 308 (.node 301 (.node 296 (.node 294 (.node 293 .nil ti293 .nil) ti294 (.node 295 .nil ti295 .nil)) ti296 (.node 299 (.node 297 .nil ti297 .nil) ti299 (.node 300 .nil ti300 .nil))) ti301 (.node 305 (.node 303 (.node 302 .nil ti302 .nil) ti303 (.node 304 .nil ti304 .nil)) ti305 (.node 307 (.node 306 .nil ti306 .nil) ti307 .nil))) ti308 (.node 316 (.node 312 (.node 310 (.node 309 .nil ti309 .nil) ti310 (.node 311 .nil ti311 .nil)) ti312 (.node 314 (.node 313 .nil ti313 .nil) ti314 (.node 315 .nil ti315 .nil))) ti316 (.node 320 (.node 318 (.node 317 .nil ti317 .nil) ti318 (.node 319 .nil ti319 .nil)) ti320 (.node 322 (.node 321 .nil ti321 .nil) ti322 .nil))))) ti323 (.node 356 (.node 339 (.node 331 (.node 327 (.node 325 (.node 324 .nil ti324 .nil) ti325 (.node 326 .nil ti326 .nil)) ti327 (.node 329 (.node 328 .nil ti328 .nil) ti329 (.node 330 .nil ti330 .nil))) ti331 (.node 335 (.node 333 (.node 332 .nil ti332 .nil) ti333 (.node 334 .nil ti334 .nil)) ti335 (.node 338 (.node 336 .nil ti336 .nil) ti338 .nil))) ti339 (.node 349 (.node 343 (.node 341 (.node 340 .nil ti340 .nil) ti341 (.node 342 .nil ti342 .nil)) ti343 (.node 345 (.node 344 .nil ti344 .nil) ti345 (.node 347 .nil ti347 .nil))) ti349 (.node 353 (.node 351 (.node 350 .nil ti350 .nil) ti351 (.node 352 .nil ti352 .nil)) ti353 (.node 355 (.node 354 .nil ti354 .nil) ti355 .nil)))) ti356 (.node 375 (.node 366 (.node 362 (.node 358 (.node 357 .nil ti357 .nil) ti358 (.node 360 .nil ti360 .nil)) ti362 (.node 364 (.node 363 .nil ti363 .nil) ti364 (.node 365 .nil ti365 .nil))) ti366 (.node 372 (.node 369 (.node 368 .nil ti368 .nil) ti369 (.node 370 .nil ti370 .nil)) ti372 (.node 374 (.node 373 .nil ti373 .nil) ti374 .nil))) ti375 (.node 384 (.node 380 (.node 377 (.node 376 .nil ti376 .nil) ti377 (.node 378 .nil ti378 .nil)) ti380 (.node 382 (.node 381 .nil ti381 .nil) ti382 (.node 383 .nil ti383 .nil))) ti384 (.node 389 (.node 386 (.node 385 .nil ti385 .nil) ti386 (.node 387 .nil ti387 .nil)) ti389 (.node 391 (.node 390 .nil ti390 .nil) ti391 .nil)))))) ti392 (.node 458 (.node 427 (.node 411 (.node 403 (.node 396 (.node 394 (.node 393 .nil ti393 .nil) ti394 (.node 395 .nil ti395 .nil)) ti396 (.node 399 (.node 398 .nil ti398 .nil) ti399 (.node 401 .nil ti401 .nil))) ti403 (.node 408 (.node 406 (.node 404 .nil ti404 .nil) ti406 (.node 407 .nil ti407 .nil)) ti408 (.node 410 (.node 409 .nil ti409 .nil) ti410 .nil))) ti411 (.node 419 (.node 415 (.node 413 (.node 412 .nil ti412 .nil) ti413 (.node 414 .nil ti414 .nil)) ti415 (.node 417 (.node 416 .nil ti416 .nil) ti417 (.node 418 .nil ti418 .nil))) ti419 (.node 424 (.node 422 (.node 421 .nil ti421 .nil) ti422 (.node 423 .nil ti423 .nil)) ti424 (.node 426 (.node 425 .nil ti425 .nil) ti426 .nil)))) ti427 (.node 442 (.node 435 (.node 431 (.node 429 (.node 428 .nil ti428 .nil) ti429 (.node 430 .nil ti430 .nil)) ti431 (.node 433 (.node 432 .nil ti432 .nil) ti433 (.node 434 .nil ti434 .nil))) ti435 (.node 439 (.node 437 (.node 436 .nil ti436 .nil) ti437 (.node 438 .nil ti438 .nil)) ti439 (.node 441 (.node 440 .nil ti440 .nil) ti441 .nil))) ti442 (.node 450 (.node 446 (.node 444 (.node 443 .nil ti443 .nil) ti444 (.node 445 .nil ti445 .nil)) ti446 (.node 448 (.node 447 .nil ti447 .nil) ti448 (.node 449 .nil ti449 .nil))) ti450 (.node 455 (.node 453 (.node 452 .nil ti452 .nil) ti453 (.node 454 .nil ti454 .nil)) ti455 (.node 457 (.node 456 .nil ti456 .nil) ti457 .nil))))) ti458 (.node 489 (.node 473 (.node 466 (.node 462 (.node 460 (.node 459 .nil ti459 .nil) ti460 (.node 461 .nil ti461 .nil)) ti462 (.node 464 (.node 463 .nil ti463 .nil) ti464 (.node 465 .nil ti465 .nil))) ti466 (.node 470 (.node 468 (.node 467 .nil ti467 .nil) ti468 (.node 469 .nil ti469 .nil)) ti470 (.node 472 (.node 471 .nil ti471 .nil) ti472 .nil))) ti473 (.node 482 (.node 478 (.node 475 (.node 474 .nil ti474 .nil) ti475 (.node 477 .nil ti477 .nil)) ti478 (.node 480 (.node 479 .nil ti479 .nil) ti480 (.node 481 .nil ti481 .nil))) ti482 (.node 486 (.node 484 (.node 483 .nil ti483 .nil) ti484 (.node 485 .nil ti485 .nil)) ti486 (.node 488 (.node 487 .nil ti487 .nil) ti488 .nil)))) ti489 (.node 505 (.node 497 (.node 493 (.node 491 (.node 490 .nil ti490 .nil) ti491 (.node 492 .nil ti492 .nil)) ti493 (.node 495 (.node 494 .nil ti494 .nil) ti495 (.node 496 .nil ti496 .nil))) ti497 (.node 502 (.node 499 (.node 498 .nil ti498 .nil) ti499 (.node 501 .nil ti501 .nil)) ti502 (.node 504 (.node 503 .nil ti503 .nil) ti504 .nil))) ti505 (.node 513 (.node 509 (.node 507 (.node 506 .nil ti506 .nil) ti507 (.node 508 .nil ti508 .nil)) ti509 (.node 511 (.node 510 .nil ti510 .nil) ti511 (.node 512 .nil ti512 .nil))) ti513 (.node 517 (.node 515 (.node 514 .nil ti514 .nil) ti515 (.node 516 .nil ti516 .nil)) ti517 (.node 519 (.node 518 .nil ti518 .nil) ti519 .nil))))))))
theorem zr5 : infoTree.all Tryz.prog := ⟨zfi, ⟨zi8, ⟨rb, ⟨zdp, ⟨zh5, ⟨pc, ⟨sl, ⟨zeb, ⟨zg9, Tv, Tv⟩, ⟨zbi, Tv, Tv⟩⟩, ⟨p5, ⟨rf, Tv, Tv⟩, ⟨pn, Tv, Tv⟩⟩⟩, ⟨zja, ⟨zjs, ⟨oz, Tv, Tv⟩, ⟨zjj, Tv, Tv⟩⟩, ⟨ziq, ⟨zi0, Tv, Tv⟩, ⟨zie, Tv, Tv⟩⟩⟩⟩, ⟨zfr, ⟨zgy, ⟨zhk, ⟨zhu, Tv, Tv⟩, ⟨zha, Tv, Tv⟩⟩, ⟨zgc, ⟨zgn, Tv, Tv⟩, ⟨zf2, Tv, Tv⟩⟩⟩, ⟨zel, ⟨ze5, ⟨zfg, Tv, Tv⟩, ⟨zeu, Tv, Tv⟩⟩, ⟨zd0, ⟨zec, Tv, Tv⟩, Tv⟩⟩⟩⟩, ⟨tw, ⟨zbj, ⟨zcl, ⟨zc4, ⟨zde, Tv, Tv⟩, ⟨zcv, Tv, Tv⟩⟩, ⟨zb3, ⟨zcc, Tv, Tv⟩, ⟨zbt, Tv, Tv⟩⟩⟩, ⟨zad, ⟨zaz, ⟨zba, Tv, Tv⟩, ⟨zap, Tv, Tv⟩⟩, ⟨ui, ⟨uw, Tv, Tv⟩, Tv⟩⟩⟩, ⟨rk, ⟨ro, ⟨sm, ⟨s6, Tv, Tv⟩, ⟨r8, Tv, Tv⟩⟩, ⟨rm, ⟨rn, Tv, Tv⟩, ⟨rl, Tv, Tv⟩⟩⟩, ⟨rg, ⟨ri, ⟨rj, Tv, Tv⟩, ⟨rh, Tv, Tv⟩⟩, ⟨rc, ⟨rd, Tv, Tv⟩, Tv⟩⟩⟩⟩⟩, ⟨o5, ⟨po, ⟨px, ⟨p7, ⟨p9, ⟨ra, Tv, Tv⟩, ⟨p8, Tv, Tv⟩⟩, ⟨pz, ⟨p6, Tv, Tv⟩, ⟨py, Tv, Tv⟩⟩⟩, ⟨pr, ⟨pu, ⟨pw, Tv, Tv⟩, ⟨pt, Tv, Tv⟩⟩, ⟨pp, ⟨pq, Tv, Tv⟩, Tv⟩⟩⟩, ⟨pe, ⟨pi, ⟨pk, ⟨pm, Tv, Tv⟩, ⟨pj, Tv, Tv⟩⟩, ⟨pg, ⟨ph, Tv, Tv⟩, ⟨pf, Tv, Tv⟩⟩⟩, ⟨o8, ⟨pb, ⟨pd, Tv, Tv⟩, ⟨o9, Tv, Tv⟩⟩, ⟨o6, ⟨o7, Tv, Tv⟩, Tv⟩⟩⟩⟩, ⟨zjp, ⟨zjx, ⟨zj1, ⟨o3, ⟨o4, Tv, Tv⟩, ⟨zj2, Tv, Tv⟩⟩, ⟨zjz, ⟨zj0, Tv, Tv⟩, ⟨zjy, Tv, Tv⟩⟩⟩, ⟨zjt, ⟨zjv, ⟨zjw, Tv, Tv⟩, ⟨zju, Tv, Tv⟩⟩, ⟨zjq, ⟨zjr, Tv, Tv⟩, Tv⟩⟩⟩, ⟨zjg, ⟨zjl, ⟨zjn, ⟨zjo, Tv, Tv⟩, ⟨zjm, Tv, Tv⟩⟩, ⟨zji, ⟨zjk, Tv, Tv⟩, ⟨zjh, Tv, Tv⟩⟩⟩, ⟨zjc, ⟨zje, ⟨zjf, Tv, Tv⟩, ⟨zjd, Tv, Tv⟩⟩, ⟨zi9, ⟨zjb, Tv, Tv⟩, Tv⟩⟩⟩⟩⟩⟩, ⟨zhd, ⟨zia, ⟨zis, ⟨ziz, ⟨zi4, ⟨zi6, ⟨zi7, Tv, Tv⟩, ⟨zi5, Tv, Tv⟩⟩, ⟨zi2, ⟨zi3, Tv, Tv⟩, ⟨zi1, Tv, Tv⟩⟩⟩, ⟨ziv, ⟨zix, ⟨ziy, Tv, Tv⟩, ⟨ziw, Tv, Tv⟩⟩, ⟨zit, ⟨ziu, Tv, Tv⟩, Tv⟩⟩⟩, ⟨zij, ⟨zin, ⟨zip, ⟨zir, Tv, Tv⟩, ⟨zio, Tv, Tv⟩⟩, ⟨zil, ⟨zim, Tv, Tv⟩, ⟨zik, Tv, Tv⟩⟩⟩, ⟨zid, ⟨zih, ⟨zii, Tv, Tv⟩, ⟨zif, Tv, Tv⟩⟩, ⟨zib, ⟨zic, Tv, Tv⟩, Tv⟩⟩⟩⟩, ⟨zht, ⟨zh1, ⟨zh6, ⟨zh8, ⟨zh9, Tv, Tv⟩, ⟨zh7, Tv, Tv⟩⟩, ⟨zh3, ⟨zh4, Tv, Tv⟩, ⟨zh2, Tv, Tv⟩⟩⟩, ⟨zhx, ⟨zhz, ⟨zh0, Tv, Tv⟩, ⟨zhy, Tv, Tv⟩⟩, ⟨zhv, ⟨zhw, Tv, Tv⟩, Tv⟩⟩⟩, ⟨zhl, ⟨zhp, ⟨zhr, ⟨zhs, Tv, Tv⟩, ⟨zhq, Tv, Tv⟩⟩, ⟨zhn, ⟨zho, Tv, Tv⟩, ⟨zhm, Tv, Tv⟩⟩⟩, ⟨zhg, ⟨zhi, ⟨zhj, Tv, Tv⟩, ⟨zhh, Tv, Tv⟩⟩, ⟨zhe, ⟨zhf, Tv, Tv⟩, Tv⟩⟩⟩⟩⟩, ⟨zgf, ⟨zgv, ⟨zg3, ⟨zg7, ⟨zhb, ⟨zhc, Tv, Tv⟩, ⟨zg8, Tv, Tv⟩⟩, ⟨zg5, ⟨zg6, Tv, Tv⟩, ⟨zg4, Tv, Tv⟩⟩⟩, ⟨zgz, ⟨zg1, ⟨zg2, Tv, Tv⟩, ⟨zg0, Tv, Tv⟩⟩, ⟨zgw, ⟨zgx, Tv, Tv⟩, Tv⟩⟩⟩, ⟨zgm, ⟨zgr, ⟨zgt, ⟨zgu, Tv, Tv⟩, ⟨zgs, Tv, Tv⟩⟩, ⟨zgp, ⟨zgq, Tv, Tv⟩, ⟨zgo, Tv, Tv⟩⟩⟩, ⟨zgi, ⟨zgk, ⟨zgl, Tv, Tv⟩, ⟨zgj, Tv, Tv⟩⟩, ⟨zgg, ⟨zgh, Tv, Tv⟩, Tv⟩⟩⟩⟩, ⟨zfy, ⟨zf6, ⟨zga, ⟨zgd, ⟨zge, Tv, Tv⟩, ⟨zgb, Tv, Tv⟩⟩, ⟨zf8, ⟨zf9, Tv, Tv⟩, ⟨zf7, Tv, Tv⟩⟩⟩, ⟨zf1, ⟨zf4, ⟨zf5, Tv, Tv⟩, ⟨zf3, Tv, Tv⟩⟩, ⟨zfz, ⟨zf0, Tv, Tv⟩, Tv⟩⟩⟩, ⟨zfp, ⟨zfu, ⟨zfw, ⟨zfx, Tv, Tv⟩, ⟨zfv, Tv, Tv⟩⟩, ⟨zfs, ⟨zft, Tv, Tv⟩, ⟨zfq, Tv, Tv⟩⟩⟩, ⟨zfl, ⟨zfn, ⟨zfo, Tv, Tv⟩, ⟨zfm, Tv, Tv⟩⟩, ⟨zfj, ⟨zfk, Tv, Tv⟩, Tv⟩⟩⟩⟩⟩⟩⟩, ⟨zbq, ⟨zdl, ⟨zej, ⟨ze0, ⟨ze9, ⟨zfd, ⟨zff, ⟨zfh, Tv, Tv⟩, ⟨zfe, Tv, Tv⟩⟩, ⟨zfb, ⟨zfc, Tv, Tv⟩, ⟨zfa, Tv, Tv⟩⟩⟩, ⟨ze4, ⟨ze7, ⟨ze8, Tv, Tv⟩, ⟨ze6, Tv, Tv⟩⟩, ⟨ze2, ⟨ze3, Tv, Tv⟩, ⟨ze1, Tv, Tv⟩⟩⟩⟩, ⟨zer, ⟨zew, ⟨zey, ⟨zez, Tv, Tv⟩, ⟨zex, Tv, Tv⟩⟩, ⟨zet, ⟨zev, Tv, Tv⟩, ⟨zes, Tv, Tv⟩⟩⟩, ⟨zen, ⟨zep, ⟨zeq, Tv, Tv⟩, ⟨zeo, Tv, Tv⟩⟩, ⟨zek, ⟨zem, Tv, Tv⟩, Tv⟩⟩⟩⟩, ⟨zd2, ⟨zd9, ⟨zef, ⟨zeh, ⟨zei, Tv, Tv⟩, ⟨zeg, Tv, Tv⟩⟩, ⟨zed, ⟨zee, Tv, Tv⟩, ⟨zea, Tv, Tv⟩⟩⟩, ⟨zd5, ⟨zd7, ⟨zd8, Tv, Tv⟩, ⟨zd6, Tv, Tv⟩⟩, ⟨zd3, ⟨zd4, Tv, Tv⟩, Tv⟩⟩⟩, ⟨zdt, ⟨zdx, ⟨zdz, ⟨zd1, Tv, Tv⟩, ⟨zdy, Tv, Tv⟩⟩, ⟨zdv, ⟨zdw, Tv, Tv⟩, ⟨zdu, Tv, Tv⟩⟩⟩, ⟨zdo, ⟨zdr, ⟨zds, Tv, Tv⟩, ⟨zdq, Tv, Tv⟩⟩, ⟨zdm, ⟨zdn, Tv, Tv⟩, Tv⟩⟩⟩⟩⟩, ⟨zco, ⟨zc5, ⟨zdc, ⟨zdh, ⟨zdj, ⟨zdk, Tv, Tv⟩, ⟨zdi, Tv, Tv⟩⟩, ⟨zdf, ⟨zdg, Tv, Tv⟩, ⟨zdd, Tv, Tv⟩⟩⟩, ⟨zc8, ⟨zda, ⟨zdb, Tv, Tv⟩, ⟨zc9, Tv, Tv⟩⟩, ⟨zc6, ⟨zc7, Tv, Tv⟩, Tv⟩⟩⟩, ⟨zcw, ⟨zc0, ⟨zc2, ⟨zc3, Tv, Tv⟩, ⟨zc1, Tv, Tv⟩⟩, ⟨zcy, ⟨zcz, Tv, Tv⟩, ⟨zcx, Tv, Tv⟩⟩⟩, ⟨zcr, ⟨zct, ⟨zcu, Tv, Tv⟩, ⟨zcs, Tv, Tv⟩⟩, ⟨zcp, ⟨zcq, Tv, Tv⟩, Tv⟩⟩⟩⟩, ⟨zb7, ⟨zcf, ⟨zcj, ⟨zcm, ⟨zcn, Tv, Tv⟩, ⟨zck, Tv, Tv⟩⟩, ⟨zch, ⟨zci, Tv, Tv⟩, ⟨zcg, Tv, Tv⟩⟩⟩, ⟨zca, ⟨zcd, ⟨zce, Tv, Tv⟩, ⟨zcb, Tv, Tv⟩⟩, ⟨zb8, ⟨zb9, Tv, Tv⟩, Tv⟩⟩⟩, ⟨zby, ⟨zb2, ⟨zb5, ⟨zb6, Tv, Tv⟩, ⟨zb4, Tv, Tv⟩⟩, ⟨zb0, ⟨zb1, Tv, Tv⟩, ⟨zbz, Tv, Tv⟩⟩⟩, ⟨zbu, ⟨zbw, ⟨zbx, Tv, Tv⟩, ⟨zbv, Tv, Tv⟩⟩, ⟨zbr, ⟨zbs, Tv, Tv⟩, Tv⟩⟩⟩⟩⟩⟩, ⟨uk, ⟨zas, ⟨za8, ⟨zbg, ⟨zbm, ⟨zbo, ⟨zbp, Tv, Tv⟩, ⟨zbn, Tv, Tv⟩⟩, ⟨zbk, ⟨zbl, Tv, Tv⟩, ⟨zbh, Tv, Tv⟩⟩⟩, ⟨zbc, ⟨zbe, ⟨zbf, Tv, Tv⟩, ⟨zbd, Tv, Tv⟩⟩, ⟨za9, ⟨zbb, Tv, Tv⟩, Tv⟩⟩⟩, ⟨za0, ⟨za4, ⟨za6, ⟨za7, Tv, Tv⟩, ⟨za5, Tv, Tv⟩⟩, ⟨za2, ⟨za3, Tv, Tv⟩, ⟨za1, Tv, Tv⟩⟩⟩, ⟨zav, ⟨zax, ⟨zay, Tv, Tv⟩, ⟨zaw, Tv, Tv⟩⟩, ⟨zat, ⟨zau, Tv, Tv⟩, Tv⟩⟩⟩⟩, ⟨zaa, ⟨zaj, ⟨zan, ⟨zaq, ⟨zar, Tv, Tv⟩, ⟨zao, Tv, Tv⟩⟩, ⟨zal, ⟨zam, Tv, Tv⟩, ⟨zak, Tv, Tv⟩⟩⟩, ⟨zae, ⟨zah, ⟨zai, Tv, Tv⟩, ⟨zaf, Tv, Tv⟩⟩, ⟨zab, ⟨zac, Tv, Tv⟩, Tv⟩⟩⟩, ⟨uu, ⟨u0, ⟨u7, ⟨u9, Tv, Tv⟩, ⟨u6, Tv, Tv⟩⟩, ⟨uy, ⟨uz, Tv, Tv⟩, ⟨ux, Tv, Tv⟩⟩⟩, ⟨uo, ⟨ur, ⟨ut, Tv, Tv⟩, ⟨uq, Tv, Tv⟩⟩, ⟨ul, ⟨um, Tv, Tv⟩, Tv⟩⟩⟩⟩⟩, ⟨s7, ⟨tq, ⟨t8, ⟨uf, ⟨uh, ⟨uj, Tv, Tv⟩, ⟨ug, Tv, Tv⟩⟩, ⟨ud, ⟨ue, Tv, Tv⟩, ⟨uc, Tv, Tv⟩⟩⟩, ⟨tv, ⟨t6, ⟨t7, Tv, Tv⟩, ⟨tz, Tv, Tv⟩⟩, ⟨tt, ⟨tu, Tv, Tv⟩, Tv⟩⟩⟩, ⟨te, ⟨ti, ⟨tn, ⟨tp, Tv, Tv⟩, ⟨tj, Tv, Tv⟩⟩, ⟨tg, ⟨th, Tv, Tv⟩, ⟨tf, Tv, Tv⟩⟩⟩, ⟨ta, ⟨tc, ⟨td, Tv, Tv⟩, ⟨tb, Tv, Tv⟩⟩, ⟨s8, ⟨s9, Tv, Tv⟩, Tv⟩⟩⟩⟩, ⟨sg, ⟨sr, ⟨sx, ⟨s4, ⟨s5, Tv, Tv⟩, ⟨sy, Tv, Tv⟩⟩, ⟨su, ⟨sw, Tv, Tv⟩, ⟨ss, Tv, Tv⟩⟩⟩, ⟨sj, ⟨sn, ⟨sq, Tv, Tv⟩, ⟨sk, Tv, Tv⟩⟩, ⟨sh, ⟨si, Tv, Tv⟩, Tv⟩⟩⟩, ⟨rx, ⟨r9, ⟨se, ⟨sf, Tv, Tv⟩, ⟨sc, Tv, Tv⟩⟩, ⟨rz, ⟨r7, Tv, Tv⟩, ⟨ry, Tv, Tv⟩⟩⟩, ⟨rr, ⟨ru, ⟨rv, Tv, Tv⟩, ⟨rt, Tv, Tv⟩⟩, ⟨rp, ⟨rq, Tv, Tv⟩, Tv⟩⟩⟩⟩⟩⟩⟩⟩
end Go.Proofs
