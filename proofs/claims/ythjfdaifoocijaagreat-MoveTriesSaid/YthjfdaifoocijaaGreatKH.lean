/- Ground of laws of thronglaw24: contracts and plain lemmas; no condition beyond the row's own. -/
import Derived.KernelRfl
import Derived.Test.YthjfdaifoocijaaGreatProg
import Derived.Test.YthjfdaifoocijaaGreatKC
set_option linter.unusedSimpArgs false
set_option linter.unusedVariables false
namespace Go.Proofs
open Go Go.V
noncomputable abbrev Tw (n : Nat) (t : V.TI) : Option V.TI := V.infoOf Tryz.prog n t.eq
def ti1 : V.TI := ⟨.func, 1, 8, [.nilFunc], false⟩
theorem zev : Tw 1 ti1 = some ti1 := by kernel_rfl
def ti2 : V.TI := ⟨.int .i64, 1, 8, [.int .i64 0], false⟩
theorem zbx : Tw 2 ti2 = some ti2 := by kernel_rfl
def ti3 : V.TI := ⟨.int .i64, 1, 8, [.int .i64 0], false⟩
theorem td : Tw 3 ti3 = some ti3 := by kernel_rfl
def ti4 : V.TI := ⟨.bool, 1, 1, [.bool false], false⟩
theorem om : Tw 4 ti4 = some ti4 := by kernel_rfl
def ti5 : V.TI := ⟨.int .u8, 1, 1, [.int .u8 0], false⟩
theorem n9 : Tw 5 ti5 = some ti5 := by kernel_rfl
def ti6 : V.TI := ⟨.int .u8, 1, 1, [.int .u8 0], false⟩
theorem nn : Tw 6 ti6 = some ti6 := by kernel_rfl
def ti7 : V.TI := ⟨.struct [(0, 2), (1, 3), (2, 4), (3, 6)], 4, 24, [.int .i64 0, .int .i64 0, .bool false, .int .u8 0], true⟩
theorem na : Tw 7 ti7 = some ti7 := by kernel_rfl
def ti8 : V.TI := ⟨.struct [(0, 2), (1, 3), (2, 4), (3, 6)], 4, 24, [.int .i64 0, .int .i64 0, .bool false, .int .u8 0], true⟩
theorem mr : Tw 8 ti8 = some ti8 := by kernel_rfl
def ti9 : V.TI := ⟨.str, 1, 16, [.string ⟨#[]⟩], false⟩
theorem mg : Tw 9 ti9 = some ti9 := by kernel_rfl
def ti10 : V.TI := ⟨.str, 1, 16, [.string ⟨#[]⟩], false⟩
theorem zhj : Tw 10 ti10 = some ti10 := by kernel_rfl
def ti11 : V.TI := ⟨.str, 1, 16, [.string ⟨#[]⟩], false⟩
theorem zg8 : Tw 11 ti11 = some ti11 := by kernel_rfl
def ti12 : V.TI := ⟨.int .u64, 1, 8, [.int .u64 0], false⟩
theorem zgy : Tw 12 ti12 = some ti12 := by kernel_rfl
def ti13 : V.TI := ⟨.struct [(0, 9), (1, 12)], 2, 24, [.string ⟨#[]⟩, .int .u64 0], false⟩
theorem zgo : Tw 13 ti13 = some ti13 := by kernel_rfl
def ti14 : V.TI := ⟨.struct [(0, 9), (1, 12)], 2, 24, [.string ⟨#[]⟩, .int .u64 0], false⟩
theorem zgd : Tw 14 ti14 = some ti14 := by kernel_rfl
def ti15 : V.TI := ⟨.ptr 454, 1, 8, [.pointer none], false⟩
theorem zf3 : Tw 15 ti15 = some ti15 := by kernel_rfl
def ti16 : V.TI := ⟨.ptr 457, 1, 8, [.pointer none], false⟩
theorem zfs : Tw 16 ti16 = some ti16 := by kernel_rfl
def ti17 : V.TI := ⟨.ptr 466, 1, 8, [.pointer none], false⟩
theorem zfh : Tw 17 ti17 = some ti17 := by kernel_rfl
def ti18 : V.TI := ⟨.struct [(0, 17)], 1, 8, [.pointer none], false⟩
theorem ze7 : Tw 18 ti18 = some ti18 := by kernel_rfl
def ti19 : V.TI := ⟨.struct [(0, 17)], 1, 8, [.pointer none], false⟩
theorem zew : Tw 19 ti19 = some ti19 := by kernel_rfl
def ti20 : V.TI := ⟨.other, 1, 16, [.nilIface], false⟩
theorem zek : Tw 20 ti20 = some ti20 := by kernel_rfl
def ti21 : V.TI := ⟨.int .i32, 1, 4, [.int .i32 0], false⟩
theorem zd9 : Tw 21 ti21 = some ti21 := by kernel_rfl
def ti22 : V.TI := ⟨.slice 5, 1, 24, [.slice none 0 0], false⟩
theorem zdy : Tw 22 ti22 = some ti22 := by kernel_rfl
def ti23 : V.TI := ⟨.struct [(0, 3), (1, 3), (2, 22)], 3, 40, [.int .i64 0, .int .i64 0, .slice none 0 0], true⟩
theorem zdn : Tw 23 ti23 = some ti23 := by kernel_rfl
def ti24 : V.TI := ⟨.struct [(0, 3), (1, 3), (2, 22)], 3, 40, [.int .i64 0, .int .i64 0, .slice none 0 0], true⟩
theorem zdd : Tw 24 ti24 = some ti24 := by kernel_rfl
def ti25 : V.TI := ⟨.slice 164, 1, 24, [.slice none 0 0], false⟩
theorem zc3 : Tw 25 ti25 = some ti25 := by kernel_rfl
def ti26 : V.TI := ⟨.slice 37, 1, 24, [.slice none 0 0], false⟩
theorem zct : Tw 26 ti26 = some ti26 := by kernel_rfl
def ti27 : V.TI := ⟨.struct [(0, 3), (1, 3), (2, 3), (3, 24), (6, 25), (7, 26)], 8, 112, [.int .i64 0, .int .i64 0, .int .i64 0, .int .i64 0, .int .i64 0, .slice none 0 0, .slice none 0 0, .slice none 0 0], true⟩
theorem zck : Tw 27 ti27 = some ti27 := by kernel_rfl
def ti28 : V.TI := ⟨.struct [(0, 3), (1, 3), (2, 3), (3, 24), (6, 25), (7, 26)], 8, 112, [.int .i64 0, .int .i64 0, .int .i64 0, .int .i64 0, .int .i64 0, .slice none 0 0, .slice none 0 0, .slice none 0 0], true⟩
theorem zb9 : Tw 28 ti28 = some ti28 := by kernel_rfl
def ti29 : V.TI := ⟨.slice 3, 1, 24, [.slice none 0 0], false⟩
theorem zby : Tw 29 ti29 = some ti29 := by kernel_rfl
def ti30 : V.TI := ⟨.slice 34, 1, 24, [.slice none 0 0], false⟩
theorem zbn : Tw 30 ti30 = some ti30 := by kernel_rfl
def ti31 : V.TI := ⟨.struct [(0, 28), (8, 29), (9, 29), (10, 30)], 11, 184, [.int .i64 0, .int .i64 0, .int .i64 0, .int .i64 0, .int .i64 0, .slice none 0 0, .slice none 0 0, .slice none 0 0, .slice none 0 0, .slice none 0 0, .slice none 0 0], true⟩
theorem zbf : Tw 31 ti31 = some ti31 := by kernel_rfl
def ti32 : V.TI := ⟨.struct [(0, 28), (8, 29), (9, 29), (10, 30)], 11, 184, [.int .i64 0, .int .i64 0, .int .i64 0, .int .i64 0, .int .i64 0, .slice none 0 0, .slice none 0 0, .slice none 0 0, .slice none 0 0, .slice none 0 0, .slice none 0 0], true⟩
theorem za5 : Tw 32 ti32 = some ti32 := by kernel_rfl
def ti33 : V.TI := ⟨.struct [(0, 2), (1, 2)], 2, 16, [.int .i64 0, .int .i64 0], true⟩
theorem zaw : Tw 33 ti33 = some ti33 := by kernel_rfl
def ti34 : V.TI := ⟨.struct [(0, 2), (1, 2)], 2, 16, [.int .i64 0, .int .i64 0], true⟩
theorem zan : Tw 34 ti34 = some ti34 := by kernel_rfl
def ti35 : V.TI := ⟨.func, 1, 8, [.nilFunc], false⟩
theorem zab : Tw 35 ti35 = some ti35 := by kernel_rfl
def ti36 : V.TI := ⟨.struct [(0, 3), (1, 3), (2, 3), (3, 34), (5, 3), (6, 3), (7, 3), (8, 3), (9, 3)], 10, 80, [.int .i64 0, .int .i64 0, .int .i64 0, .int .i64 0, .int .i64 0, .int .i64 0, .int .i64 0, .int .i64 0, .int .i64 0, .int .i64 0], true⟩
theorem ut : Tw 36 ti36 = some ti36 := by kernel_rfl
def ti37 : V.TI := ⟨.struct [(0, 3), (1, 3), (2, 3), (3, 34), (5, 3), (6, 3), (7, 3), (8, 3), (9, 3)], 10, 80, [.int .i64 0, .int .i64 0, .int .i64 0, .int .i64 0, .int .i64 0, .int .i64 0, .int .i64 0, .int .i64 0, .int .i64 0, .int .i64 0], true⟩
theorem ug : Tw 37 ti37 = some ti37 := by kernel_rfl
def ti38 : V.TI := ⟨.func, 1, 8, [.nilFunc], false⟩
theorem tv : Tw 38 ti38 = some ti38 := by kernel_rfl
def ti39 : V.TI := ⟨.int .i64, 1, 8, [.int .i64 0], false⟩
theorem te : Tw 39 ti39 = some ti39 := by kernel_rfl
def ti40 : V.TI := ⟨.func, 1, 8, [.nilFunc], false⟩
theorem sx : Tw 40 ti40 = some ti40 := by kernel_rfl
def ti42 : V.TI := ⟨.func, 1, 8, [.nilFunc], false⟩
theorem r8 : Tw 42 ti42 = some ti42 := by kernel_rfl
def ti43 : V.TI := ⟨.struct [(0, 2), (1, 2), (2, 3), (3, 3), (4, 3)], 5, 40, [.int .i64 0, .int .i64 0, .int .i64 0, .int .i64 0, .int .i64 0], true⟩
theorem rp : Tw 43 ti43 = some ti43 := by kernel_rfl
def ti44 : V.TI := ⟨.struct [(0, 2), (1, 2), (2, 3), (3, 3), (4, 3)], 5, 40, [.int .i64 0, .int .i64 0, .int .i64 0, .int .i64 0, .int .i64 0], true⟩
theorem rd : Tw 44 ti44 = some ti44 := by kernel_rfl
def ti45 : V.TI := ⟨.func, 1, 8, [.nilFunc], false⟩
theorem p3 : Tw 45 ti45 = some ti45 := by kernel_rfl
def ti46 : V.TI := ⟨.func, 1, 8, [.nilFunc], false⟩
theorem pn : Tw 46 ti46 = some ti46 := by kernel_rfl
def ti47 : V.TI := ⟨.func, 1, 8, [.nilFunc], false⟩
theorem pb : Tw 47 ti47 = some ti47 := by kernel_rfl
def ti48 : V.TI := ⟨.func, 1, 8, [.nilFunc], false⟩
theorem ov : Tw 48 ti48 = some ti48 := by kernel_rfl
def ti49 : V.TI := ⟨.func, 1, 8, [.nilFunc], false⟩
theorem oo : Tw 49 ti49 = some ti49 := by kernel_rfl
def ti50 : V.TI := ⟨.func, 1, 8, [.nilFunc], false⟩
theorem ol : Tw 50 ti50 = some ti50 := by kernel_rfl
def ti51 : V.TI := ⟨.struct [(0, 28), (8, 29), (9, 30)], 10, 160, [.int .i64 0, .int .i64 0, .int .i64 0, .int .i64 0, .int .i64 0, .slice none 0 0, .slice none 0 0, .slice none 0 0, .slice none 0 0, .slice none 0 0], true⟩
theorem oj : Tw 51 ti51 = some ti51 := by kernel_rfl
def ti52 : V.TI := ⟨.struct [(0, 28), (8, 29), (9, 30)], 10, 160, [.int .i64 0, .int .i64 0, .int .i64 0, .int .i64 0, .int .i64 0, .slice none 0 0, .slice none 0 0, .slice none 0 0, .slice none 0 0, .slice none 0 0], true⟩
theorem oi : Tw 52 ti52 = some ti52 := by kernel_rfl
def ti53 : V.TI := ⟨.func, 1, 8, [.nilFunc], false⟩
theorem oh : Tw 53 ti53 = some ti53 := by kernel_rfl
def ti54 : V.TI := ⟨.func, 1, 8, [.nilFunc], false⟩
theorem og : Tw 54 ti54 = some ti54 := by kernel_rfl
def ti56 : V.TI := ⟨.func, 1, 8, [.nilFunc], false⟩
theorem oe : Tw 56 ti56 = some ti56 := by kernel_rfl
def ti57 : V.TI := ⟨.func, 1, 8, [.nilFunc], false⟩
theorem od : Tw 57 ti57 = some ti57 := by kernel_rfl
def ti59 : V.TI := ⟨.func, 1, 8, [.nilFunc], false⟩
theorem oc : Tw 59 ti59 = some ti59 := by kernel_rfl
def ti60 : V.TI := ⟨.func, 1, 8, [.nilFunc], false⟩
theorem n8 : Tw 60 ti60 = some ti60 := by kernel_rfl
def ti61 : V.TI := ⟨.slice 139, 1, 24, [.slice none 0 0], false⟩
theorem n7 : Tw 61 ti61 = some ti61 := by kernel_rfl
def ti62 : V.TI := ⟨.struct [(0, 28), (8, 61)], 9, 136, [.int .i64 0, .int .i64 0, .int .i64 0, .int .i64 0, .int .i64 0, .slice none 0 0, .slice none 0 0, .slice none 0 0, .slice none 0 0], true⟩
theorem n0 : Tw 62 ti62 = some ti62 := by kernel_rfl
def ti63 : V.TI := ⟨.struct [(0, 28), (8, 61)], 9, 136, [.int .i64 0, .int .i64 0, .int .i64 0, .int .i64 0, .int .i64 0, .slice none 0 0, .slice none 0 0, .slice none 0 0, .slice none 0 0], true⟩
theorem nz : Tw 63 ti63 = some ti63 := by kernel_rfl
def ti64 : V.TI := ⟨.struct [(0, 63), (9, 3), (10, 3)], 11, 152, [.int .i64 0, .int .i64 0, .int .i64 0, .int .i64 0, .int .i64 0, .slice none 0 0, .slice none 0 0, .slice none 0 0, .slice none 0 0, .int .i64 0, .int .i64 0], true⟩
theorem ny : Tw 64 ti64 = some ti64 := by kernel_rfl
def ti65 : V.TI := ⟨.struct [(0, 63), (9, 3), (10, 3)], 11, 152, [.int .i64 0, .int .i64 0, .int .i64 0, .int .i64 0, .int .i64 0, .slice none 0 0, .slice none 0 0, .slice none 0 0, .slice none 0 0, .int .i64 0, .int .i64 0], true⟩
theorem nw : Tw 65 ti65 = some ti65 := by kernel_rfl
def ti66 : V.TI := ⟨.func, 1, 8, [.nilFunc], false⟩
theorem nu : Tw 66 ti66 = some ti66 := by kernel_rfl
def ti67 : V.TI := ⟨.ptr 135, 1, 8, [.pointer none], false⟩
theorem nt : Tw 67 ti67 = some ti67 := by kernel_rfl
def ti69 : V.TI := ⟨.func, 1, 8, [.nilFunc], false⟩
theorem nr : Tw 69 ti69 = some ti69 := by kernel_rfl
def ti70 : V.TI := ⟨.func, 1, 8, [.nilFunc], false⟩
theorem nl : Tw 70 ti70 = some ti70 := by kernel_rfl
def ti71 : V.TI := ⟨.slice 61, 1, 24, [.slice none 0 0], false⟩
theorem nk : Tw 71 ti71 = some ti71 := by kernel_rfl
def ti72 : V.TI := ⟨.func, 1, 8, [.nilFunc], false⟩
theorem nj : Tw 72 ti72 = some ti72 := by kernel_rfl
def ti73 : V.TI := ⟨.func, 1, 8, [.nilFunc], false⟩
theorem ni : Tw 73 ti73 = some ti73 := by kernel_rfl
def ti74 : V.TI := ⟨.slice 39, 1, 24, [.slice none 0 0], false⟩
theorem nh : Tw 74 ti74 = some ti74 := by kernel_rfl
def ti76 : V.TI := ⟨.func, 1, 8, [.nilFunc], false⟩
theorem ng : Tw 76 ti76 = some ti76 := by kernel_rfl
def ti78 : V.TI := ⟨.func, 1, 8, [.nilFunc], false⟩
theorem nf : Tw 78 ti78 = some ti78 := by kernel_rfl
def ti79 : V.TI := ⟨.func, 1, 8, [.nilFunc], false⟩
theorem nc : Tw 79 ti79 = some ti79 := by kernel_rfl
def ti80 : V.TI := ⟨.func, 1, 8, [.nilFunc], false⟩
theorem m9 : Tw 80 ti80 = some ti80 := by kernel_rfl
def ti81 : V.TI := ⟨.func, 1, 8, [.nilFunc], false⟩
theorem m8 : Tw 81 ti81 = some ti81 := by kernel_rfl
def ti82 : V.TI := ⟨.func, 1, 8, [.nilFunc], false⟩
theorem m7 : Tw 82 ti82 = some ti82 := by kernel_rfl
def ti83 : V.TI := ⟨.slice 95, 1, 24, [.slice none 0 0], false⟩
theorem m6 : Tw 83 ti83 = some ti83 := by kernel_rfl
def ti84 : V.TI := ⟨.struct [(0, 24), (3, 3), (4, 3), (5, 3), (6, 83)], 7, 88, [.int .i64 0, .int .i64 0, .slice none 0 0, .int .i64 0, .int .i64 0, .int .i64 0, .slice none 0 0], true⟩
theorem m4 : Tw 84 ti84 = some ti84 := by kernel_rfl
def ti85 : V.TI := ⟨.struct [(0, 24), (3, 3), (4, 3), (5, 3), (6, 83)], 7, 88, [.int .i64 0, .int .i64 0, .slice none 0 0, .int .i64 0, .int .i64 0, .int .i64 0, .slice none 0 0], true⟩
theorem m3 : Tw 85 ti85 = some ti85 := by kernel_rfl
def ti86 : V.TI := ⟨.slice 152, 1, 24, [.slice none 0 0], false⟩
theorem mz : Tw 86 ti86 = some ti86 := by kernel_rfl
def ti87 : V.TI := ⟨.slice 28, 1, 24, [.slice none 0 0], false⟩
theorem my : Tw 87 ti87 = some ti87 := by kernel_rfl
def ti88 : V.TI := ⟨.slice 4, 1, 24, [.slice none 0 0], false⟩
theorem mw : Tw 88 ti88 = some ti88 := by kernel_rfl
def ti89 : V.TI := ⟨.slice 352, 1, 24, [.slice none 0 0], false⟩
theorem mv : Tw 89 ti89 = some ti89 := by kernel_rfl
def ti90 : V.TI := ⟨.struct [(0, 29), (1, 86), (2, 87), (3, 88), (4, 89)], 5, 120, [.slice none 0 0, .slice none 0 0, .slice none 0 0, .slice none 0 0, .slice none 0 0], true⟩
theorem mq : Tw 90 ti90 = some ti90 := by kernel_rfl
def ti91 : V.TI := ⟨.struct [(0, 29), (1, 86), (2, 87), (3, 88), (4, 89)], 5, 120, [.slice none 0 0, .slice none 0 0, .slice none 0 0, .slice none 0 0, .slice none 0 0], true⟩
theorem mp : Tw 91 ti91 = some ti91 := by kernel_rfl
def ti93 : V.TI := ⟨.func, 1, 8, [.nilFunc], false⟩
theorem mo : Tw 93 ti93 = some ti93 := by kernel_rfl
def ti94 : V.TI := ⟨.struct [(0, 3), (1, 3), (2, 3), (3, 3), (4, 61)], 5, 56, [.int .i64 0, .int .i64 0, .int .i64 0, .int .i64 0, .slice none 0 0], true⟩
theorem mn : Tw 94 ti94 = some ti94 := by kernel_rfl
def ti95 : V.TI := ⟨.struct [(0, 3), (1, 3), (2, 3), (3, 3), (4, 61)], 5, 56, [.int .i64 0, .int .i64 0, .int .i64 0, .int .i64 0, .slice none 0 0], true⟩
theorem mm : Tw 95 ti95 = some ti95 := by kernel_rfl
def ti96 : V.TI := ⟨.func, 1, 8, [.nilFunc], false⟩
theorem ml : Tw 96 ti96 = some ti96 := by kernel_rfl
def ti97 : V.TI := ⟨.func, 1, 8, [.nilFunc], false⟩
theorem mj : Tw 97 ti97 = some ti97 := by kernel_rfl
def ti99 : V.TI := ⟨.func, 1, 8, [.nilFunc], false⟩
theorem mh : Tw 99 ti99 = some ti99 := by kernel_rfl
def ti100 : V.TI := ⟨.func, 1, 8, [.nilFunc], false⟩
theorem zhr : Tw 100 ti100 = some ti100 := by kernel_rfl
def ti102 : V.TI := ⟨.func, 1, 8, [.nilFunc], false⟩
theorem zhq : Tw 102 ti102 = some ti102 := by kernel_rfl
def ti103 : V.TI := ⟨.func, 1, 8, [.nilFunc], false⟩
theorem zhp : Tw 103 ti103 = some ti103 := by kernel_rfl
def ti104 : V.TI := ⟨.func, 1, 8, [.nilFunc], false⟩
theorem zho : Tw 104 ti104 = some ti104 := by kernel_rfl
def ti105 : V.TI := ⟨.func, 1, 8, [.nilFunc], false⟩
theorem zhn : Tw 105 ti105 = some ti105 := by kernel_rfl
def ti106 : V.TI := ⟨.func, 1, 8, [.nilFunc], false⟩
theorem zhm : Tw 106 ti106 = some ti106 := by kernel_rfl
def ti107 : V.TI := ⟨.ptr 115, 1, 8, [.pointer none], false⟩
theorem zhl : Tw 107 ti107 = some ti107 := by kernel_rfl
def ti109 : V.TI := ⟨.func, 1, 8, [.nilFunc], false⟩
theorem zhk : Tw 109 ti109 = some ti109 := by kernel_rfl
def ti110 : V.TI := ⟨.func, 1, 8, [.nilFunc], false⟩
theorem zhi : Tw 110 ti110 = some ti110 := by kernel_rfl
def ti111 : V.TI := ⟨.ptr 119, 1, 8, [.pointer none], false⟩
theorem zhh : Tw 111 ti111 = some ti111 := by kernel_rfl
def ti112 : V.TI := ⟨.other, 1, 16, [.nilIface], false⟩
theorem zhg : Tw 112 ti112 = some ti112 := by kernel_rfl
def ti113 : V.TI := ⟨.other, 1, 16, [.nilIface], false⟩
theorem zhf : Tw 113 ti113 = some ti113 := by kernel_rfl
def ti114 : V.TI := ⟨.struct [(0, 111), (1, 113)], 2, 24, [.pointer none, .nilIface], false⟩
theorem zhe : Tw 114 ti114 = some ti114 := by kernel_rfl
def ti115 : V.TI := ⟨.struct [(0, 111), (1, 113)], 2, 24, [.pointer none, .nilIface], false⟩
theorem zhd : Tw 115 ti115 = some ti115 := by kernel_rfl
def ti116 : V.TI := ⟨.array 3 88, 3, 72, [.slice none 0 0, .slice none 0 0, .slice none 0 0], false⟩
theorem zhc : Tw 116 ti116 = some ti116 := by kernel_rfl
def ti117 : V.TI := ⟨.ptr 292, 1, 8, [.pointer none], false⟩
theorem zhb : Tw 117 ti117 = some ti117 := by kernel_rfl
def ti118 : V.TI := ⟨.struct [(0, 28), (8, 116), (11, 117)], 12, 192, [.int .i64 0, .int .i64 0, .int .i64 0, .int .i64 0, .int .i64 0, .slice none 0 0, .slice none 0 0, .slice none 0 0, .slice none 0 0, .slice none 0 0, .slice none 0 0, .pointer none], true⟩
theorem zha : Tw 118 ti118 = some ti118 := by kernel_rfl
def ti119 : V.TI := ⟨.struct [(0, 28), (8, 116), (11, 117)], 12, 192, [.int .i64 0, .int .i64 0, .int .i64 0, .int .i64 0, .int .i64 0, .slice none 0 0, .slice none 0 0, .slice none 0 0, .slice none 0 0, .slice none 0 0, .slice none 0 0, .pointer none], true⟩
theorem zg9 : Tw 119 ti119 = some ti119 := by kernel_rfl
def ti120 : V.TI := ⟨.func, 1, 8, [.nilFunc], false⟩
theorem zg7 : Tw 120 ti120 = some ti120 := by kernel_rfl
def ti121 : V.TI := ⟨.func, 1, 8, [.nilFunc], false⟩
theorem zg6 : Tw 121 ti121 = some ti121 := by kernel_rfl
def ti122 : V.TI := ⟨.func, 1, 8, [.nilFunc], false⟩
theorem zg5 : Tw 122 ti122 = some ti122 := by kernel_rfl
def ti123 : V.TI := ⟨.func, 1, 8, [.nilFunc], false⟩
theorem zg4 : Tw 123 ti123 = some ti123 := by kernel_rfl
def ti124 : V.TI := ⟨.func, 1, 8, [.nilFunc], false⟩
theorem zg3 : Tw 124 ti124 = some ti124 := by kernel_rfl
def ti125 : V.TI := ⟨.func, 1, 8, [.nilFunc], false⟩
theorem zg2 : Tw 125 ti125 = some ti125 := by kernel_rfl
def ti126 : V.TI := ⟨.func, 1, 8, [.nilFunc], false⟩
theorem zg1 : Tw 126 ti126 = some ti126 := by kernel_rfl
def ti127 : V.TI := ⟨.func, 1, 8, [.nilFunc], false⟩
theorem zg0 : Tw 127 ti127 = some ti127 := by kernel_rfl
def ti129 : V.TI := ⟨.func, 1, 8, [.nilFunc], false⟩
theorem zgz : Tw 129 ti129 = some ti129 := by kernel_rfl
def ti130 : V.TI := ⟨.func, 1, 8, [.nilFunc], false⟩
theorem zgx : Tw 130 ti130 = some ti130 := by kernel_rfl
def ti131 : V.TI := ⟨.ptr 192, 1, 8, [.pointer none], false⟩
theorem zgw : Tw 131 ti131 = some ti131 := by kernel_rfl
def ti133 : V.TI := ⟨.func, 1, 8, [.nilFunc], false⟩
theorem zgv : Tw 133 ti133 = some ti133 := by kernel_rfl
def ti134 : V.TI := ⟨.struct [(0, 28), (8, 131)], 9, 120, [.int .i64 0, .int .i64 0, .int .i64 0, .int .i64 0, .int .i64 0, .slice none 0 0, .slice none 0 0, .slice none 0 0, .pointer none], true⟩
theorem zgu : Tw 134 ti134 = some ti134 := by kernel_rfl
def ti135 : V.TI := ⟨.struct [(0, 28), (8, 131)], 9, 120, [.int .i64 0, .int .i64 0, .int .i64 0, .int .i64 0, .int .i64 0, .slice none 0 0, .slice none 0 0, .slice none 0 0, .pointer none], true⟩
theorem zgt : Tw 135 ti135 = some ti135 := by kernel_rfl
def ti136 : V.TI := ⟨.func, 1, 8, [.nilFunc], false⟩
theorem zgs : Tw 136 ti136 = some ti136 := by kernel_rfl
def ti137 : V.TI := ⟨.func, 1, 8, [.nilFunc], false⟩
theorem zgr : Tw 137 ti137 = some ti137 := by kernel_rfl
def ti138 : V.TI := ⟨.struct [(0, 3), (1, 3), (2, 3), (3, 3), (4, 29), (5, 3), (6, 3), (7, 3), (8, 34)], 10, 96, [.int .i64 0, .int .i64 0, .int .i64 0, .int .i64 0, .slice none 0 0, .int .i64 0, .int .i64 0, .int .i64 0, .int .i64 0, .int .i64 0], true⟩
theorem zgq : Tw 138 ti138 = some ti138 := by kernel_rfl
def ti139 : V.TI := ⟨.struct [(0, 3), (1, 3), (2, 3), (3, 3), (4, 29), (5, 3), (6, 3), (7, 3), (8, 34)], 10, 96, [.int .i64 0, .int .i64 0, .int .i64 0, .int .i64 0, .slice none 0 0, .int .i64 0, .int .i64 0, .int .i64 0, .int .i64 0, .int .i64 0], true⟩
theorem zgp : Tw 139 ti139 = some ti139 := by kernel_rfl
def ti140 : V.TI := ⟨.func, 1, 8, [.nilFunc], false⟩
theorem zgn : Tw 140 ti140 = some ti140 := by kernel_rfl
def ti141 : V.TI := ⟨.func, 1, 8, [.nilFunc], false⟩
theorem zgm : Tw 141 ti141 = some ti141 := by kernel_rfl
def ti142 : V.TI := ⟨.func, 1, 8, [.nilFunc], false⟩
theorem zgl : Tw 142 ti142 = some ti142 := by kernel_rfl
def ti143 : V.TI := ⟨.func, 1, 8, [.nilFunc], false⟩
theorem zgk : Tw 143 ti143 = some ti143 := by kernel_rfl
def ti144 : V.TI := ⟨.func, 1, 8, [.nilFunc], false⟩
theorem zgj : Tw 144 ti144 = some ti144 := by kernel_rfl
def ti145 : V.TI := ⟨.func, 1, 8, [.nilFunc], false⟩
theorem zgi : Tw 145 ti145 = some ti145 := by kernel_rfl
def ti146 : V.TI := ⟨.ptr 150, 1, 8, [.pointer none], false⟩
theorem zgh : Tw 146 ti146 = some ti146 := by kernel_rfl
def ti147 : V.TI := ⟨.slice 157, 1, 24, [.slice none 0 0], false⟩
theorem zgg : Tw 147 ti147 = some ti147 := by kernel_rfl
def ti148 : V.TI := ⟨.slice 284, 1, 24, [.slice none 0 0], false⟩
theorem zgf : Tw 148 ti148 = some ti148 := by kernel_rfl
def ti149 : V.TI := ⟨.struct [(0, 147), (1, 148), (2, 91)], 7, 168, [.slice none 0 0, .slice none 0 0, .slice none 0 0, .slice none 0 0, .slice none 0 0, .slice none 0 0, .slice none 0 0], true⟩
theorem zge : Tw 149 ti149 = some ti149 := by kernel_rfl
def ti150 : V.TI := ⟨.struct [(0, 147), (1, 148), (2, 91)], 7, 168, [.slice none 0 0, .slice none 0 0, .slice none 0 0, .slice none 0 0, .slice none 0 0, .slice none 0 0, .slice none 0 0], true⟩
theorem zgc : Tw 150 ti150 = some ti150 := by kernel_rfl
def ti151 : V.TI := ⟨.slice 281, 1, 24, [.slice none 0 0], false⟩
theorem zgb : Tw 151 ti151 = some ti151 := by kernel_rfl
def ti152 : V.TI := ⟨.slice 282, 1, 24, [.slice none 0 0], false⟩
theorem zga : Tw 152 ti152 = some ti152 := by kernel_rfl
def ti153 : V.TI := ⟨.struct [(0, 3), (1, 3), (2, 3), (3, 3), (4, 3), (5, 151), (6, 151), (7, 29), (8, 29), (9, 152), (10, 4)], 11, 168, [.int .i64 0, .int .i64 0, .int .i64 0, .int .i64 0, .int .i64 0, .slice none 0 0, .slice none 0 0, .slice none 0 0, .slice none 0 0, .slice none 0 0, .bool false], true⟩
theorem zf9 : Tw 153 ti153 = some ti153 := by kernel_rfl
def ti154 : V.TI := ⟨.struct [(0, 3), (1, 3), (2, 3), (3, 3), (4, 3), (5, 151), (6, 151), (7, 29), (8, 29), (9, 152), (10, 4)], 11, 168, [.int .i64 0, .int .i64 0, .int .i64 0, .int .i64 0, .int .i64 0, .slice none 0 0, .slice none 0 0, .slice none 0 0, .slice none 0 0, .slice none 0 0, .bool false], true⟩
theorem zf8 : Tw 154 ti154 = some ti154 := by kernel_rfl
def ti156 : V.TI := ⟨.func, 1, 8, [.nilFunc], false⟩
theorem zf7 : Tw 156 ti156 = some ti156 := by kernel_rfl
def ti157 : V.TI := ⟨.ptr 159, 1, 8, [.pointer none], false⟩
theorem zf6 : Tw 157 ti157 = some ti157 := by kernel_rfl
def ti158 : V.TI := ⟨.struct [(0, 154), (11, 67)], 12, 176, [.int .i64 0, .int .i64 0, .int .i64 0, .int .i64 0, .int .i64 0, .slice none 0 0, .slice none 0 0, .slice none 0 0, .slice none 0 0, .slice none 0 0, .bool false, .pointer none], true⟩
theorem zf5 : Tw 158 ti158 = some ti158 := by kernel_rfl
def ti159 : V.TI := ⟨.struct [(0, 154), (11, 67)], 12, 176, [.int .i64 0, .int .i64 0, .int .i64 0, .int .i64 0, .int .i64 0, .slice none 0 0, .slice none 0 0, .slice none 0 0, .slice none 0 0, .slice none 0 0, .bool false, .pointer none], true⟩
theorem zf4 : Tw 159 ti159 = some ti159 := by kernel_rfl
def ti160 : V.TI := ⟨.func, 1, 8, [.nilFunc], false⟩
theorem zf2 : Tw 160 ti160 = some ti160 := by kernel_rfl
def ti161 : V.TI := ⟨.func, 1, 8, [.nilFunc], false⟩
theorem zf1 : Tw 161 ti161 = some ti161 := by kernel_rfl
def ti162 : V.TI := ⟨.map 3 4, 1, 8, [.map none], false⟩
theorem zf0 : Tw 162 ti162 = some ti162 := by kernel_rfl
def ti163 : V.TI := ⟨.struct [(0, 3), (1, 3), (2, 3), (3, 3), (4, 3), (5, 3)], 6, 48, [.int .i64 0, .int .i64 0, .int .i64 0, .int .i64 0, .int .i64 0, .int .i64 0], true⟩
theorem zfz : Tw 163 ti163 = some ti163 := by kernel_rfl
def ti164 : V.TI := ⟨.struct [(0, 3), (1, 3), (2, 3), (3, 3), (4, 3), (5, 3)], 6, 48, [.int .i64 0, .int .i64 0, .int .i64 0, .int .i64 0, .int .i64 0, .int .i64 0], true⟩
theorem zfy : Tw 164 ti164 = some ti164 := by kernel_rfl
def ti165 : V.TI := ⟨.func, 1, 8, [.nilFunc], false⟩
theorem zfx : Tw 165 ti165 = some ti165 := by kernel_rfl
def ti166 : V.TI := ⟨.func, 1, 8, [.nilFunc], false⟩
theorem zfw : Tw 166 ti166 = some ti166 := by kernel_rfl
def ti167 : V.TI := ⟨.func, 1, 8, [.nilFunc], false⟩
theorem zfv : Tw 167 ti167 = some ti167 := by kernel_rfl
def ti168 : V.TI := ⟨.func, 1, 8, [.nilFunc], false⟩
theorem zfu : Tw 168 ti168 = some ti168 := by kernel_rfl
def ti169 : V.TI := ⟨.func, 1, 8, [.nilFunc], false⟩
theorem zft : Tw 169 ti169 = some ti169 := by kernel_rfl
def ti170 : V.TI := ⟨.func, 1, 8, [.nilFunc], false⟩
theorem zfr : Tw 170 ti170 = some ti170 := by kernel_rfl
def ti171 : V.TI := ⟨.func, 1, 8, [.nilFunc], false⟩
theorem zfq : Tw 171 ti171 = some ti171 := by kernel_rfl
def ti172 : V.TI := ⟨.func, 1, 8, [.nilFunc], false⟩
theorem zfp : Tw 172 ti172 = some ti172 := by kernel_rfl
def ti173 : V.TI := ⟨.func, 1, 8, [.nilFunc], false⟩
theorem zfo : Tw 173 ti173 = some ti173 := by kernel_rfl
def ti174 : V.TI := ⟨.func, 1, 8, [.nilFunc], false⟩
theorem zfn : Tw 174 ti174 = some ti174 := by kernel_rfl
def ti175 : V.TI := ⟨.func, 1, 8, [.nilFunc], false⟩
theorem zfm : Tw 175 ti175 = some ti175 := by kernel_rfl
def ti176 : V.TI := ⟨.struct [], 0, 0, [], true⟩
theorem zfl : Tw 176 ti176 = some ti176 := by kernel_rfl
def ti177 : V.TI := ⟨.struct [], 0, 0, [], true⟩
theorem zfk : Tw 177 ti177 = some ti177 := by kernel_rfl
def ti178 : V.TI := ⟨.func, 1, 8, [.nilFunc], false⟩
theorem zfj : Tw 178 ti178 = some ti178 := by kernel_rfl
def ti179 : V.TI := ⟨.func, 1, 8, [.nilFunc], false⟩
theorem zfi : Tw 179 ti179 = some ti179 := by kernel_rfl
def ti180 : V.TI := ⟨.func, 1, 8, [.nilFunc], false⟩
theorem zfg : Tw 180 ti180 = some ti180 := by kernel_rfl
def ti181 : V.TI := ⟨.func, 1, 8, [.nilFunc], false⟩
theorem zff : Tw 181 ti181 = some ti181 := by kernel_rfl
def ti182 : V.TI := ⟨.ptr 245, 1, 8, [.pointer none], false⟩
theorem zfe : Tw 182 ti182 = some ti182 := by kernel_rfl
def ti184 : V.TI := ⟨.func, 1, 8, [.nilFunc], false⟩
theorem zfd : Tw 184 ti184 = some ti184 := by kernel_rfl
def ti185 : V.TI := ⟨.struct [], 0, 0, [], true⟩
theorem zfc : Tw 185 ti185 = some ti185 := by kernel_rfl
def ti186 : V.TI := ⟨.struct [], 0, 0, [], true⟩
theorem zfb : Tw 186 ti186 = some ti186 := by kernel_rfl
def ti187 : V.TI := ⟨.struct [(0, 185), (0, 186), (0, 2)], 1, 8, [.int .i64 0], false⟩
theorem zfa : Tw 187 ti187 = some ti187 := by kernel_rfl
def ti188 : V.TI := ⟨.struct [(0, 185), (0, 186), (0, 2)], 1, 8, [.int .i64 0], false⟩
theorem ze9 : Tw 188 ti188 = some ti188 := by kernel_rfl
def ti189 : V.TI := ⟨.map 3 203, 1, 8, [.map none], false⟩
theorem ze8 : Tw 189 ti189 = some ti189 := by kernel_rfl
def ti190 : V.TI := ⟨.map 3 469, 1, 8, [.map none], false⟩
theorem ze6 : Tw 190 ti190 = some ti190 := by kernel_rfl
def ti191 : V.TI := ⟨.struct [(0, 182), (1, 188), (2, 4), (3, 24), (6, 25), (7, 189), (8, 190), (9, 3)], 10, 112, [.pointer none, .int .i64 0, .bool false, .int .i64 0, .int .i64 0, .slice none 0 0, .slice none 0 0, .map none, .map none, .int .i64 0], true⟩
theorem ze5 : Tw 191 ti191 = some ti191 := by kernel_rfl
def ti192 : V.TI := ⟨.struct [(0, 182), (1, 188), (2, 4), (3, 24), (6, 25), (7, 189), (8, 190), (9, 3)], 10, 112, [.pointer none, .int .i64 0, .bool false, .int .i64 0, .int .i64 0, .slice none 0 0, .slice none 0 0, .map none, .map none, .int .i64 0], true⟩
theorem ze4 : Tw 192 ti192 = some ti192 := by kernel_rfl
def ti193 : V.TI := ⟨.int .u64, 1, 8, [.int .u64 0], false⟩
theorem ze3 : Tw 193 ti193 = some ti193 := by kernel_rfl
def ti194 : V.TI := ⟨.func, 1, 8, [.nilFunc], false⟩
theorem ze2 : Tw 194 ti194 = some ti194 := by kernel_rfl
def ti195 : V.TI := ⟨.func, 1, 8, [.nilFunc], false⟩
theorem ze1 : Tw 195 ti195 = some ti195 := by kernel_rfl
def ti196 : V.TI := ⟨.func, 1, 8, [.nilFunc], false⟩
theorem ze0 : Tw 196 ti196 = some ti196 := by kernel_rfl
def ti197 : V.TI := ⟨.ptr 199, 1, 8, [.pointer none], false⟩
theorem zez : Tw 197 ti197 = some ti197 := by kernel_rfl
def ti198 : V.TI := ⟨.struct [(0, 111), (1, 139), (11, 195)], 12, 112, [.pointer none, .int .i64 0, .int .i64 0, .int .i64 0, .int .i64 0, .slice none 0 0, .int .i64 0, .int .i64 0, .int .i64 0, .int .i64 0, .int .i64 0, .nilFunc], true⟩
theorem zey : Tw 198 ti198 = some ti198 := by kernel_rfl
def ti199 : V.TI := ⟨.struct [(0, 111), (1, 139), (11, 195)], 12, 112, [.pointer none, .int .i64 0, .int .i64 0, .int .i64 0, .int .i64 0, .slice none 0 0, .int .i64 0, .int .i64 0, .int .i64 0, .int .i64 0, .int .i64 0, .nilFunc], true⟩
theorem zex : Tw 199 ti199 = some ti199 := by kernel_rfl
def ti200 : V.TI := ⟨.func, 1, 8, [.nilFunc], false⟩
theorem zeu : Tw 200 ti200 = some ti200 := by kernel_rfl
def ti201 : V.TI := ⟨.ptr 253, 1, 8, [.pointer none], false⟩
theorem zet : Tw 201 ti201 = some ti201 := by kernel_rfl
def ti202 : V.TI := ⟨.func, 1, 8, [.nilFunc], false⟩
theorem zes : Tw 202 ti202 = some ti202 := by kernel_rfl
def ti203 : V.TI := ⟨.ptr 215, 1, 8, [.pointer none], false⟩
theorem zer : Tw 203 ti203 = some ti203 := by kernel_rfl
def ti204 : V.TI := ⟨.struct [], 0, 0, [], true⟩
theorem zeq : Tw 204 ti204 = some ti204 := by kernel_rfl
def ti205 : V.TI := ⟨.int .u32, 1, 4, [.int .u32 0], false⟩
theorem zep : Tw 205 ti205 = some ti205 := by kernel_rfl
def ti206 : V.TI := ⟨.struct [(0, 185), (0, 205)], 1, 4, [.int .u32 0], false⟩
theorem zeo : Tw 206 ti206 = some ti206 := by kernel_rfl
def ti207 : V.TI := ⟨.struct [(0, 185), (0, 205)], 1, 4, [.int .u32 0], false⟩
theorem zen : Tw 207 ti207 = some ti207 := by kernel_rfl
def ti208 : V.TI := ⟨.struct [(0, 21), (1, 205)], 2, 8, [.int .i32 0, .int .u32 0], true⟩
theorem zem : Tw 208 ti208 = some ti208 := by kernel_rfl
def ti209 : V.TI := ⟨.struct [(0, 21), (1, 205)], 2, 8, [.int .i32 0, .int .u32 0], true⟩
theorem zel : Tw 209 ti209 = some ti209 := by kernel_rfl
def ti210 : V.TI := ⟨.struct [(0, 204), (0, 209)], 2, 8, [.int .i32 0, .int .u32 0], false⟩
theorem zej : Tw 210 ti210 = some ti210 := by kernel_rfl
def ti211 : V.TI := ⟨.struct [(0, 204), (0, 209)], 2, 8, [.int .i32 0, .int .u32 0], false⟩
theorem zei : Tw 211 ti211 = some ti211 := by kernel_rfl
def ti212 : V.TI := ⟨.struct [(0, 204), (0, 207), (1, 211)], 3, 12, [.int .u32 0, .int .i32 0, .int .u32 0], false⟩
theorem zeh : Tw 212 ti212 = some ti212 := by kernel_rfl
def ti213 : V.TI := ⟨.struct [(0, 204), (0, 207), (1, 211)], 3, 12, [.int .u32 0, .int .i32 0, .int .u32 0], false⟩
theorem zeg : Tw 213 ti213 = some ti213 := by kernel_rfl
def ti214 : V.TI := ⟨.struct [(0, 213), (3, 201)], 4, 24, [.int .u32 0, .int .i32 0, .int .u32 0, .pointer none], true⟩
theorem zef : Tw 214 ti214 = some ti214 := by kernel_rfl
def ti215 : V.TI := ⟨.struct [(0, 213), (3, 201)], 4, 24, [.int .u32 0, .int .i32 0, .int .u32 0, .pointer none], true⟩
theorem zee : Tw 215 ti215 = some ti215 := by kernel_rfl
def ti216 : V.TI := ⟨.func, 1, 8, [.nilFunc], false⟩
theorem zed : Tw 216 ti216 = some ti216 := by kernel_rfl
def ti217 : V.TI := ⟨.func, 1, 8, [.nilFunc], false⟩
theorem zec : Tw 217 ti217 = some ti217 := by kernel_rfl
def ti218 : V.TI := ⟨.ptr 28, 1, 8, [.pointer none], false⟩
theorem zeb : Tw 218 ti218 = some ti218 := by kernel_rfl
def ti219 : V.TI := ⟨.func, 1, 8, [.nilFunc], false⟩
theorem zea : Tw 219 ti219 = some ti219 := by kernel_rfl
def ti220 : V.TI := ⟨.ptr 37, 1, 8, [.pointer none], false⟩
theorem zd8 : Tw 220 ti220 = some ti220 := by kernel_rfl
def ti221 : V.TI := ⟨.ptr 224, 1, 8, [.pointer none], false⟩
theorem zd7 : Tw 221 ti221 = some ti221 := by kernel_rfl
def ti222 : V.TI := ⟨.slice 29, 1, 24, [.slice none 0 0], false⟩
theorem zd6 : Tw 222 ti222 = some ti222 := by kernel_rfl
def ti223 : V.TI := ⟨.struct [(0, 29), (1, 29), (2, 29), (3, 222)], 4, 96, [.slice none 0 0, .slice none 0 0, .slice none 0 0, .slice none 0 0], true⟩
theorem zd5 : Tw 223 ti223 = some ti223 := by kernel_rfl
def ti224 : V.TI := ⟨.struct [(0, 29), (1, 29), (2, 29), (3, 222)], 4, 96, [.slice none 0 0, .slice none 0 0, .slice none 0 0, .slice none 0 0], true⟩
theorem zd4 : Tw 224 ti224 = some ti224 := by kernel_rfl
def ti225 : V.TI := ⟨.func, 1, 8, [.nilFunc], false⟩
theorem zd3 : Tw 225 ti225 = some ti225 := by kernel_rfl
def ti226 : V.TI := ⟨.func, 1, 8, [.nilFunc], false⟩
theorem zd2 : Tw 226 ti226 = some ti226 := by kernel_rfl
def ti227 : V.TI := ⟨.func, 1, 8, [.nilFunc], false⟩
theorem zd1 : Tw 227 ti227 = some ti227 := by kernel_rfl
def ti228 : V.TI := ⟨.func, 1, 8, [.nilFunc], false⟩
theorem zd0 : Tw 228 ti228 = some ti228 := by kernel_rfl
def ti229 : V.TI := ⟨.func, 1, 8, [.nilFunc], false⟩
theorem zdz : Tw 229 ti229 = some ti229 := by kernel_rfl
def ti230 : V.TI := ⟨.func, 1, 8, [.nilFunc], false⟩
theorem zdx : Tw 230 ti230 = some ti230 := by kernel_rfl
def ti231 : V.TI := ⟨.func, 1, 8, [.nilFunc], false⟩
theorem zdw : Tw 231 ti231 = some ti231 := by kernel_rfl
def ti232 : V.TI := ⟨.func, 1, 8, [.nilFunc], false⟩
theorem zdv : Tw 232 ti232 = some ti232 := by kernel_rfl
def ti233 : V.TI := ⟨.func, 1, 8, [.nilFunc], false⟩
theorem zdu : Tw 233 ti233 = some ti233 := by kernel_rfl
def ti234 : V.TI := ⟨.func, 1, 8, [.nilFunc], false⟩
theorem zdt : Tw 234 ti234 = some ti234 := by kernel_rfl
def ti235 : V.TI := ⟨.func, 1, 8, [.nilFunc], false⟩
theorem zds : Tw 235 ti235 = some ti235 := by kernel_rfl
def ti236 : V.TI := ⟨.func, 1, 8, [.nilFunc], false⟩
theorem zdr : Tw 236 ti236 = some ti236 := by kernel_rfl
def ti237 : V.TI := ⟨.map 3 3, 1, 8, [.map none], false⟩
theorem zdq : Tw 237 ti237 = some ti237 := by kernel_rfl
def ti238 : V.TI := ⟨.func, 1, 8, [.nilFunc], false⟩
theorem zdp : Tw 238 ti238 = some ti238 := by kernel_rfl
def ti239 : V.TI := ⟨.func, 1, 8, [.nilFunc], false⟩
theorem zdo : Tw 239 ti239 = some ti239 := by kernel_rfl
def ti240 : V.TI := ⟨.func, 1, 8, [.nilFunc], false⟩
theorem zdm : Tw 240 ti240 = some ti240 := by kernel_rfl
def ti241 : V.TI := ⟨.func, 1, 8, [.nilFunc], false⟩
theorem zdl : Tw 241 ti241 = some ti241 := by kernel_rfl
def ti242 : V.TI := ⟨.func, 1, 8, [.nilFunc], false⟩
theorem zdk : Tw 242 ti242 = some ti242 := by kernel_rfl
def ti243 : V.TI := ⟨.func, 1, 8, [.nilFunc], false⟩
theorem zdj : Tw 243 ti243 = some ti243 := by kernel_rfl
def ti244 : V.TI := ⟨.struct [(0, 3), (1, 237), (2, 29), (3, 188), (4, 188)], 5, 56, [.int .i64 0, .map none, .slice none 0 0, .int .i64 0, .int .i64 0], true⟩
theorem zdi : Tw 244 ti244 = some ti244 := by kernel_rfl
def ti245 : V.TI := ⟨.struct [(0, 3), (1, 237), (2, 29), (3, 188), (4, 188)], 5, 56, [.int .i64 0, .map none, .slice none 0 0, .int .i64 0, .int .i64 0], true⟩
theorem zdh : Tw 245 ti245 = some ti245 := by kernel_rfl
def ti246 : V.TI := ⟨.func, 1, 8, [.nilFunc], false⟩
theorem zdg : Tw 246 ti246 = some ti246 := by kernel_rfl
def ti248 : V.TI := ⟨.func, 1, 8, [.nilFunc], false⟩
theorem zdf : Tw 248 ti248 = some ti248 := by kernel_rfl
def ti249 : V.TI := ⟨.func, 1, 8, [.nilFunc], false⟩
theorem zde : Tw 249 ti249 = some ti249 := by kernel_rfl
def ti250 : V.TI := ⟨.ptr 213, 1, 8, [.pointer none], false⟩
theorem zdc : Tw 250 ti250 = some ti250 := by kernel_rfl
def ti251 : V.TI := ⟨.func, 1, 8, [.nilFunc], false⟩
theorem zdb : Tw 251 ti251 = some ti251 := by kernel_rfl
def ti252 : V.TI := ⟨.struct [(0, 24), (3, 3), (4, 88)], 5, 72, [.int .i64 0, .int .i64 0, .slice none 0 0, .int .i64 0, .slice none 0 0], true⟩
theorem zda : Tw 252 ti252 = some ti252 := by kernel_rfl
def ti253 : V.TI := ⟨.struct [(0, 24), (3, 3), (4, 88)], 5, 72, [.int .i64 0, .int .i64 0, .slice none 0 0, .int .i64 0, .slice none 0 0], true⟩
theorem zc9 : Tw 253 ti253 = some ti253 := by kernel_rfl
def ti254 : V.TI := ⟨.func, 1, 8, [.nilFunc], false⟩
theorem zc8 : Tw 254 ti254 = some ti254 := by kernel_rfl
def ti255 : V.TI := ⟨.func, 1, 8, [.nilFunc], false⟩
theorem zc7 : Tw 255 ti255 = some ti255 := by kernel_rfl
def ti256 : V.TI := ⟨.func, 1, 8, [.nilFunc], false⟩
theorem zc6 : Tw 256 ti256 = some ti256 := by kernel_rfl
def ti257 : V.TI := ⟨.func, 1, 8, [.nilFunc], false⟩
theorem zc5 : Tw 257 ti257 = some ti257 := by kernel_rfl
def ti259 : V.TI := ⟨.func, 1, 8, [.nilFunc], false⟩
theorem zc4 : Tw 259 ti259 = some ti259 := by kernel_rfl
def ti260 : V.TI := ⟨.func, 1, 8, [.nilFunc], false⟩
theorem zc2 : Tw 260 ti260 = some ti260 := by kernel_rfl
def ti262 : V.TI := ⟨.func, 1, 8, [.nilFunc], false⟩
theorem zc1 : Tw 262 ti262 = some ti262 := by kernel_rfl
def ti263 : V.TI := ⟨.func, 1, 8, [.nilFunc], false⟩
theorem zc0 : Tw 263 ti263 = some ti263 := by kernel_rfl
def ti264 : V.TI := ⟨.func, 1, 8, [.nilFunc], false⟩
theorem zcz : Tw 264 ti264 = some ti264 := by kernel_rfl
def ti265 : V.TI := ⟨.func, 1, 8, [.nilFunc], false⟩
theorem zcy : Tw 265 ti265 = some ti265 := by kernel_rfl
def ti266 : V.TI := ⟨.func, 1, 8, [.nilFunc], false⟩
theorem zcx : Tw 266 ti266 = some ti266 := by kernel_rfl
def ti267 : V.TI := ⟨.func, 1, 8, [.nilFunc], false⟩
theorem zcw : Tw 267 ti267 = some ti267 := by kernel_rfl
def ti268 : V.TI := ⟨.func, 1, 8, [.nilFunc], false⟩
theorem zcv : Tw 268 ti268 = some ti268 := by kernel_rfl
def ti269 : V.TI := ⟨.func, 1, 8, [.nilFunc], false⟩
theorem zcu : Tw 269 ti269 = some ti269 := by kernel_rfl
def ti270 : V.TI := ⟨.func, 1, 8, [.nilFunc], false⟩
theorem zcs : Tw 270 ti270 = some ti270 := by kernel_rfl
def ti271 : V.TI := ⟨.func, 1, 8, [.nilFunc], false⟩
theorem zcr : Tw 271 ti271 = some ti271 := by kernel_rfl
def ti273 : V.TI := ⟨.func, 1, 8, [.nilFunc], false⟩
theorem zcq : Tw 273 ti273 = some ti273 := by kernel_rfl
def ti274 : V.TI := ⟨.func, 1, 8, [.nilFunc], false⟩
theorem zcp : Tw 274 ti274 = some ti274 := by kernel_rfl
def ti275 : V.TI := ⟨.func, 1, 8, [.nilFunc], false⟩
theorem zco : Tw 275 ti275 = some ti275 := by kernel_rfl
def ti276 : V.TI := ⟨.func, 1, 8, [.nilFunc], false⟩
theorem zcn : Tw 276 ti276 = some ti276 := by kernel_rfl
def ti277 : V.TI := ⟨.func, 1, 8, [.nilFunc], false⟩
theorem zcm : Tw 277 ti277 = some ti277 := by kernel_rfl
def ti279 : V.TI := ⟨.func, 1, 8, [.nilFunc], false⟩
theorem zcl : Tw 279 ti279 = some ti279 := by kernel_rfl
def ti280 : V.TI := ⟨.struct [(0, 3), (1, 3), (2, 61)], 3, 40, [.int .i64 0, .int .i64 0, .slice none 0 0], true⟩
theorem zcj : Tw 280 ti280 = some ti280 := by kernel_rfl
def ti281 : V.TI := ⟨.struct [(0, 3), (1, 3), (2, 61)], 3, 40, [.int .i64 0, .int .i64 0, .slice none 0 0], true⟩
theorem zci : Tw 281 ti281 = some ti281 := by kernel_rfl
def ti282 : V.TI := ⟨.int .u64, 1, 8, [.int .u64 0], false⟩
theorem zch : Tw 282 ti282 = some ti282 := by kernel_rfl
def ti283 : V.TI := ⟨.struct [(0, 3), (1, 3), (2, 281), (5, 3), (6, 282), (7, 3)], 8, 80, [.int .i64 0, .int .i64 0, .int .i64 0, .int .i64 0, .slice none 0 0, .int .i64 0, .int .u64 0, .int .i64 0], true⟩
theorem zcg : Tw 283 ti283 = some ti283 := by kernel_rfl
def ti284 : V.TI := ⟨.struct [(0, 3), (1, 3), (2, 281), (5, 3), (6, 282), (7, 3)], 8, 80, [.int .i64 0, .int .i64 0, .int .i64 0, .int .i64 0, .slice none 0 0, .int .i64 0, .int .u64 0, .int .i64 0], true⟩
theorem zcf : Tw 284 ti284 = some ti284 := by kernel_rfl
def ti285 : V.TI := ⟨.func, 1, 8, [.nilFunc], false⟩
theorem zce : Tw 285 ti285 = some ti285 := by kernel_rfl
def ti286 : V.TI := ⟨.func, 1, 8, [.nilFunc], false⟩
theorem zcd : Tw 286 ti286 = some ti286 := by kernel_rfl
def ti287 : V.TI := ⟨.func, 1, 8, [.nilFunc], false⟩
theorem zcc : Tw 287 ti287 = some ti287 := by kernel_rfl
def ti288 : V.TI := ⟨.func, 1, 8, [.nilFunc], false⟩
theorem zcb : Tw 288 ti288 = some ti288 := by kernel_rfl
def ti289 : V.TI := ⟨.map 3 34, 1, 8, [.map none], false⟩
theorem zca : Tw 289 ti289 = some ti289 := by kernel_rfl
def ti290 : V.TI := ⟨.map 294 29, 1, 8, [.map none], false⟩
theorem zb8 : Tw 290 ti290 = some ti290 := by kernel_rfl
def ti291 : V.TI := ⟨.struct [(0, 289), (1, 290)], 2, 16, [.map none, .map none], true⟩
theorem zb7 : Tw 291 ti291 = some ti291 := by kernel_rfl
def ti292 : V.TI := ⟨.struct [(0, 289), (1, 290)], 2, 16, [.map none, .map none], true⟩
theorem zb6 : Tw 292 ti292 = some ti292 := by kernel_rfl
def ti293 : V.TI := ⟨.struct [(0, 2), (1, 2)], 2, 16, [.int .i64 0, .int .i64 0], true⟩
theorem zb5 : Tw 293 ti293 = some ti293 := by kernel_rfl
def ti294 : V.TI := ⟨.struct [(0, 2), (1, 2)], 2, 16, [.int .i64 0, .int .i64 0], true⟩
theorem zb4 : Tw 294 ti294 = some ti294 := by kernel_rfl
def ti295 : V.TI := ⟨.func, 1, 8, [.nilFunc], false⟩
theorem zb3 : Tw 295 ti295 = some ti295 := by kernel_rfl
def ti296 : V.TI := ⟨.func, 1, 8, [.nilFunc], false⟩
theorem zb2 : Tw 296 ti296 = some ti296 := by kernel_rfl
def ti297 : V.TI := ⟨.func, 1, 8, [.nilFunc], false⟩
theorem zb1 : Tw 297 ti297 = some ti297 := by kernel_rfl
def ti298 : V.TI := ⟨.func, 1, 8, [.nilFunc], false⟩
theorem zb0 : Tw 298 ti298 = some ti298 := by kernel_rfl
def ti299 : V.TI := ⟨.func, 1, 8, [.nilFunc], false⟩
theorem zbz : Tw 299 ti299 = some ti299 := by kernel_rfl
def ti300 : V.TI := ⟨.func, 1, 8, [.nilFunc], false⟩
theorem zbw : Tw 300 ti300 = some ti300 := by kernel_rfl
def ti301 : V.TI := ⟨.func, 1, 8, [.nilFunc], false⟩
theorem zbv : Tw 301 ti301 = some ti301 := by kernel_rfl
def ti302 : V.TI := ⟨.func, 1, 8, [.nilFunc], false⟩
theorem zbu : Tw 302 ti302 = some ti302 := by kernel_rfl
def ti303 : V.TI := ⟨.struct [(0, 282), (1, 282)], 2, 16, [.int .u64 0, .int .u64 0], true⟩
theorem zbt : Tw 303 ti303 = some ti303 := by kernel_rfl
def ti304 : V.TI := ⟨.struct [(0, 282), (1, 282)], 2, 16, [.int .u64 0, .int .u64 0], true⟩
theorem zbs : Tw 304 ti304 = some ti304 := by kernel_rfl
def ti305 : V.TI := ⟨.func, 1, 8, [.nilFunc], false⟩
theorem zbr : Tw 305 ti305 = some ti305 := by kernel_rfl
def ti306 : V.TI := ⟨.func, 1, 8, [.nilFunc], false⟩
theorem zbq : Tw 306 ti306 = some ti306 := by kernel_rfl
def ti308 : V.TI := ⟨.func, 1, 8, [.nilFunc], false⟩
theorem zbp : Tw 308 ti308 = some ti308 := by kernel_rfl
def ti309 : V.TI := ⟨.func, 1, 8, [.nilFunc], false⟩
theorem zbo : Tw 309 ti309 = some ti309 := by kernel_rfl
def ti310 : V.TI := ⟨.func, 1, 8, [.nilFunc], false⟩
theorem zbm : Tw 310 ti310 = some ti310 := by kernel_rfl
def ti311 : V.TI := ⟨.func, 1, 8, [.nilFunc], false⟩
theorem zbl : Tw 311 ti311 = some ti311 := by kernel_rfl
def ti312 : V.TI := ⟨.func, 1, 8, [.nilFunc], false⟩
theorem zbk : Tw 312 ti312 = some ti312 := by kernel_rfl
def ti313 : V.TI := ⟨.func, 1, 8, [.nilFunc], false⟩
theorem zbj : Tw 313 ti313 = some ti313 := by kernel_rfl
def ti315 : V.TI := ⟨.func, 1, 8, [.nilFunc], false⟩
theorem zbi : Tw 315 ti315 = some ti315 := by kernel_rfl
def ti316 : V.TI := ⟨.map 3 29, 1, 8, [.map none], false⟩
theorem zbh : Tw 316 ti316 = some ti316 := by kernel_rfl
def ti318 : V.TI := ⟨.func, 1, 8, [.nilFunc], false⟩
theorem zbg : Tw 318 ti318 = some ti318 := by kernel_rfl
def ti320 : V.TI := ⟨.func, 1, 8, [.nilFunc], false⟩
theorem zbe : Tw 320 ti320 = some ti320 := by kernel_rfl
def ti321 : V.TI := ⟨.func, 1, 8, [.nilFunc], false⟩
theorem zbd : Tw 321 ti321 = some ti321 := by kernel_rfl
def ti323 : V.TI := ⟨.func, 1, 8, [.nilFunc], false⟩
theorem zbc : Tw 323 ti323 = some ti323 := by kernel_rfl
def ti324 : V.TI := ⟨.func, 1, 8, [.nilFunc], false⟩
theorem zbb : Tw 324 ti324 = some ti324 := by kernel_rfl
def ti325 : V.TI := ⟨.func, 1, 8, [.nilFunc], false⟩
theorem zba : Tw 325 ti325 = some ti325 := by kernel_rfl
def ti326 : V.TI := ⟨.ptr 207, 1, 8, [.pointer none], false⟩
theorem za9 : Tw 326 ti326 = some ti326 := by kernel_rfl
def ti327 : V.TI := ⟨.func, 1, 8, [.nilFunc], false⟩
theorem za8 : Tw 327 ti327 = some ti327 := by kernel_rfl
def ti328 : V.TI := ⟨.ptr 205, 1, 8, [.pointer none], false⟩
theorem za7 : Tw 328 ti328 = some ti328 := by kernel_rfl
def ti329 : V.TI := ⟨.func, 1, 8, [.nilFunc], false⟩
theorem za6 : Tw 329 ti329 = some ti329 := by kernel_rfl
def ti330 : V.TI := ⟨.func, 1, 8, [.nilFunc], false⟩
theorem za4 : Tw 330 ti330 = some ti330 := by kernel_rfl
def ti331 : V.TI := ⟨.func, 1, 8, [.nilFunc], false⟩
theorem za3 : Tw 331 ti331 = some ti331 := by kernel_rfl
def ti332 : V.TI := ⟨.func, 1, 8, [.nilFunc], false⟩
theorem za2 : Tw 332 ti332 = some ti332 := by kernel_rfl
def ti333 : V.TI := ⟨.func, 1, 8, [.nilFunc], false⟩
theorem za1 : Tw 333 ti333 = some ti333 := by kernel_rfl
def ti334 : V.TI := ⟨.array 8 3, 8, 64, [.int .i64 0, .int .i64 0, .int .i64 0, .int .i64 0, .int .i64 0, .int .i64 0, .int .i64 0, .int .i64 0], false⟩
theorem za0 : Tw 334 ti334 = some ti334 := by kernel_rfl
def ti335 : V.TI := ⟨.func, 1, 8, [.nilFunc], false⟩
theorem zaz : Tw 335 ti335 = some ti335 := by kernel_rfl
def ti337 : V.TI := ⟨.func, 1, 8, [.nilFunc], false⟩
theorem zay : Tw 337 ti337 = some ti337 := by kernel_rfl
def ti339 : V.TI := ⟨.func, 1, 8, [.nilFunc], false⟩
theorem zax : Tw 339 ti339 = some ti339 := by kernel_rfl
def ti340 : V.TI := ⟨.func, 1, 8, [.nilFunc], false⟩
theorem zav : Tw 340 ti340 = some ti340 := by kernel_rfl
def ti341 : V.TI := ⟨.func, 1, 8, [.nilFunc], false⟩
theorem zau : Tw 341 ti341 = some ti341 := by kernel_rfl
def ti342 : V.TI := ⟨.func, 1, 8, [.nilFunc], false⟩
theorem zat : Tw 342 ti342 = some ti342 := by kernel_rfl
def ti343 : V.TI := ⟨.func, 1, 8, [.nilFunc], false⟩
theorem zas : Tw 343 ti343 = some ti343 := by kernel_rfl
def ti345 : V.TI := ⟨.func, 1, 8, [.nilFunc], false⟩
theorem zar : Tw 345 ti345 = some ti345 := by kernel_rfl
def ti346 : V.TI := ⟨.func, 1, 8, [.nilFunc], false⟩
theorem zaq : Tw 346 ti346 = some ti346 := by kernel_rfl
def ti347 : V.TI := ⟨.func, 1, 8, [.nilFunc], false⟩
theorem zap : Tw 347 ti347 = some ti347 := by kernel_rfl
def ti349 : V.TI := ⟨.func, 1, 8, [.nilFunc], false⟩
theorem zao : Tw 349 ti349 = some ti349 := by kernel_rfl
def ti350 : V.TI := ⟨.func, 1, 8, [.nilFunc], false⟩
theorem zam : Tw 350 ti350 = some ti350 := by kernel_rfl
def ti351 : V.TI := ⟨.struct [(0, 3), (1, 61), (2, 282)], 3, 40, [.int .i64 0, .slice none 0 0, .int .u64 0], true⟩
theorem zal : Tw 351 ti351 = some ti351 := by kernel_rfl
def ti352 : V.TI := ⟨.struct [(0, 3), (1, 61), (2, 282)], 3, 40, [.int .i64 0, .slice none 0 0, .int .u64 0], true⟩
theorem zak : Tw 352 ti352 = some ti352 := by kernel_rfl
def ti353 : V.TI := ⟨.func, 1, 8, [.nilFunc], false⟩
theorem zaj : Tw 353 ti353 = some ti353 := by kernel_rfl
def ti354 : V.TI := ⟨.func, 1, 8, [.nilFunc], false⟩
theorem zai : Tw 354 ti354 = some ti354 := by kernel_rfl
def ti355 : V.TI := ⟨.func, 1, 8, [.nilFunc], false⟩
theorem zah : Tw 355 ti355 = some ti355 := by kernel_rfl
def ti356 : V.TI := ⟨.func, 1, 8, [.nilFunc], false⟩
theorem zaf : Tw 356 ti356 = some ti356 := by kernel_rfl
def ti357 : V.TI := ⟨.func, 1, 8, [.nilFunc], false⟩
theorem zae : Tw 357 ti357 = some ti357 := by kernel_rfl
def ti358 : V.TI := ⟨.struct [(0, 282), (1, 282)], 2, 16, [.int .u64 0, .int .u64 0], true⟩
theorem zad : Tw 358 ti358 = some ti358 := by kernel_rfl
def ti359 : V.TI := ⟨.func, 1, 8, [.nilFunc], false⟩
theorem zac : Tw 359 ti359 = some ti359 := by kernel_rfl
def ti360 : V.TI := ⟨.func, 1, 8, [.nilFunc], false⟩
theorem zaa : Tw 360 ti360 = some ti360 := by kernel_rfl
def ti361 : V.TI := ⟨.func, 1, 8, [.nilFunc], false⟩
theorem u9 : Tw 361 ti361 = some ti361 := by kernel_rfl
def ti362 : V.TI := ⟨.array 6 3, 6, 48, [.int .i64 0, .int .i64 0, .int .i64 0, .int .i64 0, .int .i64 0, .int .i64 0], false⟩
theorem u7 : Tw 362 ti362 = some ti362 := by kernel_rfl
def ti363 : V.TI := ⟨.array 3 362, 18, 144, [.int .i64 0, .int .i64 0, .int .i64 0, .int .i64 0, .int .i64 0, .int .i64 0, .int .i64 0, .int .i64 0, .int .i64 0, .int .i64 0, .int .i64 0, .int .i64 0, .int .i64 0, .int .i64 0, .int .i64 0, .int .i64 0, .int .i64 0, .int .i64 0], false⟩
theorem u6 : Tw 363 ti363 = some ti363 := by kernel_rfl
def ti364 : V.TI := ⟨.func, 1, 8, [.nilFunc], false⟩
theorem u0 : Tw 364 ti364 = some ti364 := by kernel_rfl
def ti365 : V.TI := ⟨.func, 1, 8, [.nilFunc], false⟩
theorem uz : Tw 365 ti365 = some ti365 := by kernel_rfl
def ti366 : V.TI := ⟨.func, 1, 8, [.nilFunc], false⟩
theorem uy : Tw 366 ti366 = some ti366 := by kernel_rfl
def ti367 : V.TI := ⟨.func, 1, 8, [.nilFunc], false⟩
theorem ux : Tw 367 ti367 = some ti367 := by kernel_rfl
def ti368 : V.TI := ⟨.func, 1, 8, [.nilFunc], false⟩
theorem uw : Tw 368 ti368 = some ti368 := by kernel_rfl
def ti369 : V.TI := ⟨.func, 1, 8, [.nilFunc], false⟩
theorem uu : Tw 369 ti369 = some ti369 := by kernel_rfl
def ti370 : V.TI := ⟨.func, 1, 8, [.nilFunc], false⟩
theorem ur : Tw 370 ti370 = some ti370 := by kernel_rfl
def ti371 : V.TI := ⟨.func, 1, 8, [.nilFunc], false⟩
theorem uq : Tw 371 ti371 = some ti371 := by kernel_rfl
def ti372 : V.TI := ⟨.ptr 211, 1, 8, [.pointer none], false⟩
theorem uo : Tw 372 ti372 = some ti372 := by kernel_rfl
def ti373 : V.TI := ⟨.func, 1, 8, [.nilFunc], false⟩
theorem um : Tw 373 ti373 = some ti373 := by kernel_rfl
def ti374 : V.TI := ⟨.func, 1, 8, [.nilFunc], false⟩
theorem ul : Tw 374 ti374 = some ti374 := by kernel_rfl
def ti375 : V.TI := ⟨.func, 1, 8, [.nilFunc], false⟩
theorem uk : Tw 375 ti375 = some ti375 := by kernel_rfl
def ti376 : V.TI := ⟨.array 2 3, 2, 16, [.int .i64 0, .int .i64 0], false⟩
theorem uj : Tw 376 ti376 = some ti376 := by kernel_rfl
def ti377 : V.TI := ⟨.slice 376, 1, 24, [.slice none 0 0], false⟩
theorem ui : Tw 377 ti377 = some ti377 := by kernel_rfl
def ti378 : V.TI := ⟨.func, 1, 8, [.nilFunc], false⟩
theorem uh : Tw 378 ti378 = some ti378 := by kernel_rfl
def ti380 : V.TI := ⟨.func, 1, 8, [.nilFunc], false⟩
theorem uf : Tw 380 ti380 = some ti380 := by kernel_rfl
def ti381 : V.TI := ⟨.func, 1, 8, [.nilFunc], false⟩
theorem ue : Tw 381 ti381 = some ti381 := by kernel_rfl
def ti382 : V.TI := ⟨.func, 1, 8, [.nilFunc], false⟩
theorem ud : Tw 382 ti382 = some ti382 := by kernel_rfl
def ti383 : V.TI := ⟨.func, 1, 8, [.nilFunc], false⟩
theorem uc : Tw 383 ti383 = some ti383 := by kernel_rfl
def ti384 : V.TI := ⟨.func, 1, 8, [.nilFunc], false⟩
theorem t8 : Tw 384 ti384 = some ti384 := by kernel_rfl
def ti385 : V.TI := ⟨.func, 1, 8, [.nilFunc], false⟩
theorem t7 : Tw 385 ti385 = some ti385 := by kernel_rfl
def ti386 : V.TI := ⟨.func, 1, 8, [.nilFunc], false⟩
theorem t6 : Tw 386 ti386 = some ti386 := by kernel_rfl
def ti387 : V.TI := ⟨.func, 1, 8, [.nilFunc], false⟩
theorem tz : Tw 387 ti387 = some ti387 := by kernel_rfl
def ti389 : V.TI := ⟨.func, 1, 8, [.nilFunc], false⟩
theorem tw : Tw 389 ti389 = some ti389 := by kernel_rfl
def ti390 : V.TI := ⟨.func, 1, 8, [.nilFunc], false⟩
theorem tu : Tw 390 ti390 = some ti390 := by kernel_rfl
def ti391 : V.TI := ⟨.func, 1, 8, [.nilFunc], false⟩
theorem tt : Tw 391 ti391 = some ti391 := by kernel_rfl
def ti392 : V.TI := ⟨.func, 1, 8, [.nilFunc], false⟩
theorem tq : Tw 392 ti392 = some ti392 := by kernel_rfl
def ti393 : V.TI := ⟨.func, 1, 8, [.nilFunc], false⟩
theorem tp : Tw 393 ti393 = some ti393 := by kernel_rfl
def ti394 : V.TI := ⟨.func, 1, 8, [.nilFunc], false⟩
theorem tn : Tw 394 ti394 = some ti394 := by kernel_rfl
def ti395 : V.TI := ⟨.func, 1, 8, [.nilFunc], false⟩
theorem tj : Tw 395 ti395 = some ti395 := by kernel_rfl
def ti396 : V.TI := ⟨.ptr 154, 1, 8, [.pointer none], false⟩
theorem ti : Tw 396 ti396 = some ti396 := by kernel_rfl
def ti397 : V.TI := ⟨.func, 1, 8, [.nilFunc], false⟩
theorem th : Tw 397 ti397 = some ti397 := by kernel_rfl
def ti398 : V.TI := ⟨.func, 1, 8, [.nilFunc], false⟩
theorem tg : Tw 398 ti398 = some ti398 := by kernel_rfl
def ti399 : V.TI := ⟨.func, 1, 8, [.nilFunc], false⟩
theorem tf : Tw 399 ti399 = some ti399 := by kernel_rfl
def ti400 : V.TI := ⟨.func, 1, 8, [.nilFunc], false⟩
theorem tc : Tw 400 ti400 = some ti400 := by kernel_rfl
def ti401 : V.TI := ⟨.func, 1, 8, [.nilFunc], false⟩
theorem tb : Tw 401 ti401 = some ti401 := by kernel_rfl
def ti402 : V.TI := ⟨.func, 1, 8, [.nilFunc], false⟩
theorem ta : Tw 402 ti402 = some ti402 := by kernel_rfl
def ti403 : V.TI := ⟨.func, 1, 8, [.nilFunc], false⟩
theorem s9 : Tw 403 ti403 = some ti403 := by kernel_rfl
def ti404 : V.TI := ⟨.func, 1, 8, [.nilFunc], false⟩
theorem s8 : Tw 404 ti404 = some ti404 := by kernel_rfl
def ti405 : V.TI := ⟨.array 8 376, 16, 128, [.int .i64 0, .int .i64 0, .int .i64 0, .int .i64 0, .int .i64 0, .int .i64 0, .int .i64 0, .int .i64 0, .int .i64 0, .int .i64 0, .int .i64 0, .int .i64 0, .int .i64 0, .int .i64 0, .int .i64 0, .int .i64 0], false⟩
theorem s7 : Tw 405 ti405 = some ti405 := by kernel_rfl
def ti406 : V.TI := ⟨.func, 1, 8, [.nilFunc], false⟩
theorem s6 : Tw 406 ti406 = some ti406 := by kernel_rfl
def ti407 : V.TI := ⟨.func, 1, 8, [.nilFunc], false⟩
theorem s5 : Tw 407 ti407 = some ti407 := by kernel_rfl
def ti408 : V.TI := ⟨.func, 1, 8, [.nilFunc], false⟩
theorem s4 : Tw 408 ti408 = some ti408 := by kernel_rfl
def ti409 : V.TI := ⟨.func, 1, 8, [.nilFunc], false⟩
theorem sy : Tw 409 ti409 = some ti409 := by kernel_rfl
def ti410 : V.TI := ⟨.func, 1, 8, [.nilFunc], false⟩
theorem sw : Tw 410 ti410 = some ti410 := by kernel_rfl
def ti411 : V.TI := ⟨.func, 1, 8, [.nilFunc], false⟩
theorem su : Tw 411 ti411 = some ti411 := by kernel_rfl
def ti412 : V.TI := ⟨.ptr 209, 1, 8, [.pointer none], false⟩
theorem ss : Tw 412 ti412 = some ti412 := by kernel_rfl
def ti413 : V.TI := ⟨.func, 1, 8, [.nilFunc], false⟩
theorem sr : Tw 413 ti413 = some ti413 := by kernel_rfl
def ti414 : V.TI := ⟨.ptr 21, 1, 8, [.pointer none], false⟩
theorem sq : Tw 414 ti414 = some ti414 := by kernel_rfl
def ti415 : V.TI := ⟨.func, 1, 8, [.nilFunc], false⟩
theorem sn : Tw 415 ti415 = some ti415 := by kernel_rfl
def ti416 : V.TI := ⟨.other, 1, 8, [.pointer none], false⟩
theorem sl : Tw 416 ti416 = some ti416 := by kernel_rfl
def ti417 : V.TI := ⟨.func, 1, 8, [.nilFunc], false⟩
theorem sk : Tw 417 ti417 = some ti417 := by kernel_rfl
def ti418 : V.TI := ⟨.func, 1, 8, [.nilFunc], false⟩
theorem sj : Tw 418 ti418 = some ti418 := by kernel_rfl
def ti419 : V.TI := ⟨.func, 1, 8, [.nilFunc], false⟩
theorem si : Tw 419 ti419 = some ti419 := by kernel_rfl
def ti420 : V.TI := ⟨.func, 1, 8, [.nilFunc], false⟩
theorem sh : Tw 420 ti420 = some ti420 := by kernel_rfl
def ti421 : V.TI := ⟨.func, 1, 8, [.nilFunc], false⟩
theorem sg : Tw 421 ti421 = some ti421 := by kernel_rfl
def ti422 : V.TI := ⟨.func, 1, 8, [.nilFunc], false⟩
theorem sf : Tw 422 ti422 = some ti422 := by kernel_rfl
def ti424 : V.TI := ⟨.func, 1, 8, [.nilFunc], false⟩
theorem se : Tw 424 ti424 = some ti424 := by kernel_rfl
def ti425 : V.TI := ⟨.func, 1, 8, [.nilFunc], false⟩
theorem sd : Tw 425 ti425 = some ti425 := by kernel_rfl
def ti426 : V.TI := ⟨.slice 2, 1, 24, [.slice none 0 0], false⟩
theorem sc : Tw 426 ti426 = some ti426 := by kernel_rfl
def ti427 : V.TI := ⟨.func, 1, 8, [.nilFunc], false⟩
theorem sb : Tw 427 ti427 = some ti427 := by kernel_rfl
def ti428 : V.TI := ⟨.func, 1, 8, [.nilFunc], false⟩
theorem sa : Tw 428 ti428 = some ti428 := by kernel_rfl
def ti429 : V.TI := ⟨.func, 1, 8, [.nilFunc], false⟩
theorem r9 : Tw 429 ti429 = some ti429 := by kernel_rfl
def ti430 : V.TI := ⟨.int .i64, 1, 8, [.int .i64 0], false⟩
theorem r7 : Tw 430 ti430 = some ti430 := by kernel_rfl
def ti432 : V.TI := ⟨.func, 1, 8, [.nilFunc], false⟩
theorem rz : Tw 432 ti432 = some ti432 := by kernel_rfl
def ti433 : V.TI := ⟨.func, 1, 8, [.nilFunc], false⟩
theorem ry : Tw 433 ti433 = some ti433 := by kernel_rfl
def ti434 : V.TI := ⟨.func, 1, 8, [.nilFunc], false⟩
theorem rx : Tw 434 ti434 = some ti434 := by kernel_rfl
def ti435 : V.TI := ⟨.func, 1, 8, [.nilFunc], false⟩
theorem rv : Tw 435 ti435 = some ti435 := by kernel_rfl
def ti436 : V.TI := ⟨.func, 1, 8, [.nilFunc], false⟩
theorem ru : Tw 436 ti436 = some ti436 := by kernel_rfl
def ti437 : V.TI := ⟨.other, 1, 16, [.nilIface], false⟩
theorem rt : Tw 437 ti437 = some ti437 := by kernel_rfl
def ti438 : V.TI := ⟨.other, 1, 16, [.nilIface], false⟩
theorem rr : Tw 438 ti438 = some ti438 := by kernel_rfl
def ti439 : V.TI := ⟨.func, 1, 8, [.nilFunc], false⟩
theorem rq : Tw 439 ti439 = some ti439 := by kernel_rfl
def ti440 : V.TI := ⟨.func, 1, 8, [.nilFunc], false⟩
theorem ro : Tw 440 ti440 = some ti440 := by kernel_rfl
def ti441 : V.TI := ⟨.func, 1, 8, [.nilFunc], false⟩
theorem rn : Tw 441 ti441 = some ti441 := by kernel_rfl
def ti442 : V.TI := ⟨.func, 1, 8, [.nilFunc], false⟩
theorem rm : Tw 442 ti442 = some ti442 := by kernel_rfl
def ti443 : V.TI := ⟨.int .u64, 1, 8, [.int .u64 0], false⟩
theorem rl : Tw 443 ti443 = some ti443 := by kernel_rfl
def ti444 : V.TI := ⟨.func, 1, 8, [.nilFunc], false⟩
theorem rk : Tw 444 ti444 = some ti444 := by kernel_rfl
def ti445 : V.TI := ⟨.func, 1, 8, [.nilFunc], false⟩
theorem rj : Tw 445 ti445 = some ti445 := by kernel_rfl
def ti446 : V.TI := ⟨.ptr 3, 1, 8, [.pointer none], false⟩
theorem ri : Tw 446 ti446 = some ti446 := by kernel_rfl
def ti447 : V.TI := ⟨.func, 1, 8, [.nilFunc], false⟩
theorem rh : Tw 447 ti447 = some ti447 := by kernel_rfl
def ti448 : V.TI := ⟨.func, 1, 8, [.nilFunc], false⟩
theorem rg : Tw 448 ti448 = some ti448 := by kernel_rfl
def ti449 : V.TI := ⟨.ptr 443, 1, 8, [.pointer none], false⟩
theorem rf : Tw 449 ti449 = some ti449 := by kernel_rfl
def ti451 : V.TI := ⟨.func, 1, 8, [.nilFunc], false⟩
theorem rc : Tw 451 ti451 = some ti451 := by kernel_rfl
def ti452 : V.TI := ⟨.func, 1, 8, [.nilFunc], false⟩
theorem rb : Tw 452 ti452 = some ti452 := by kernel_rfl
def ti453 : V.TI := ⟨.struct [(0, 17), (1, 17), (2, 17), (3, 9)], 4, 40, [.pointer none, .pointer none, .pointer none, .string ⟨#[]⟩], false⟩
theorem ra : Tw 453 ti453 = some ti453 := by kernel_rfl
def ti454 : V.TI := ⟨.struct [(0, 17), (1, 17), (2, 17), (3, 9)], 4, 40, [.pointer none, .pointer none, .pointer none, .string ⟨#[]⟩], false⟩
theorem p9 : Tw 454 ti454 = some ti454 := by kernel_rfl
def ti455 : V.TI := ⟨.array 0 16, 0, 0, [], false⟩
theorem p8 : Tw 455 ti455 = some ti455 := by kernel_rfl
def ti456 : V.TI := ⟨.struct [(0, 455)], 0, 0, [], false⟩
theorem p7 : Tw 456 ti456 = some ti456 := by kernel_rfl
def ti457 : V.TI := ⟨.struct [(0, 455)], 0, 0, [], false⟩
theorem p6 : Tw 457 ti457 = some ti457 := by kernel_rfl
def ti458 : V.TI := ⟨.func, 1, 8, [.nilFunc], false⟩
theorem p5 : Tw 458 ti458 = some ti458 := by kernel_rfl
def ti459 : V.TI := ⟨.int .u8, 1, 1, [.int .u8 0], false⟩
theorem p4 : Tw 459 ti459 = some ti459 := by kernel_rfl
def ti460 : V.TI := ⟨.int .u8, 1, 1, [.int .u8 0], false⟩
theorem pz : Tw 460 ti460 = some ti460 := by kernel_rfl
def ti461 : V.TI := ⟨.func, 1, 8, [.nilFunc], false⟩
theorem py : Tw 461 ti461 = some ti461 := by kernel_rfl
def ti462 : V.TI := ⟨.ptr 5, 1, 8, [.pointer none], false⟩
theorem px : Tw 462 ti462 = some ti462 := by kernel_rfl
def ti463 : V.TI := ⟨.int .i32, 1, 4, [.int .i32 0], false⟩
theorem pw : Tw 463 ti463 = some ti463 := by kernel_rfl
def ti464 : V.TI := ⟨.int .i32, 1, 4, [.int .i32 0], false⟩
theorem pu : Tw 464 ti464 = some ti464 := by kernel_rfl
def ti465 : V.TI := ⟨.struct [(0, 12), (1, 12), (2, 205), (3, 459), (4, 5), (5, 5), (6, 460), (7, 461), (8, 462), (9, 463), (10, 464)], 11, 48, [.int .u64 0, .int .u64 0, .int .u32 0, .int .u8 0, .int .u8 0, .int .u8 0, .int .u8 0, .nilFunc, .pointer none, .int .i32 0, .int .i32 0], false⟩
theorem pt : Tw 465 ti465 = some ti465 := by kernel_rfl
def ti466 : V.TI := ⟨.struct [(0, 12), (1, 12), (2, 205), (3, 459), (4, 5), (5, 5), (6, 460), (7, 461), (8, 462), (9, 463), (10, 464)], 11, 48, [.int .u64 0, .int .u64 0, .int .u32 0, .int .u8 0, .int .u8 0, .int .u8 0, .int .u8 0, .nilFunc, .pointer none, .int .i32 0, .int .i32 0], false⟩
theorem pr : Tw 466 ti466 = some ti466 := by kernel_rfl
def ti467 : V.TI := ⟨.func, 1, 8, [.nilFunc], false⟩
theorem pq : Tw 467 ti467 = some ti467 := by kernel_rfl
def ti468 : V.TI := ⟨.func, 1, 8, [.nilFunc], false⟩
theorem pp : Tw 468 ti468 = some ti468 := by kernel_rfl
def ti469 : V.TI := ⟨.ptr 471, 1, 8, [.pointer none], false⟩
theorem po : Tw 469 ti469 = some ti469 := by kernel_rfl
def ti470 : V.TI := ⟨.struct [(0, 213), (3, 29)], 4, 40, [.int .u32 0, .int .i32 0, .int .u32 0, .slice none 0 0], true⟩
theorem pm : Tw 470 ti470 = some ti470 := by kernel_rfl
def ti471 : V.TI := ⟨.struct [(0, 213), (3, 29)], 4, 40, [.int .u32 0, .int .i32 0, .int .u32 0, .slice none 0 0], true⟩
theorem pk : Tw 471 ti471 = some ti471 := by kernel_rfl
def ti472 : V.TI := ⟨.func, 1, 8, [.nilFunc], false⟩
theorem pj : Tw 472 ti472 = some ti472 := by kernel_rfl
def ti473 : V.TI := ⟨.func, 1, 8, [.nilFunc], false⟩
theorem pi : Tw 473 ti473 = some ti473 := by kernel_rfl
def ti474 : V.TI := ⟨.func, 1, 8, [.nilFunc], false⟩
theorem ph : Tw 474 ti474 = some ti474 := by kernel_rfl
def ti475 : V.TI := ⟨.func, 1, 8, [.nilFunc], false⟩
theorem pg : Tw 475 ti475 = some ti475 := by kernel_rfl
def ti476 : V.TI := ⟨.func, 1, 8, [.nilFunc], false⟩
theorem pf : Tw 476 ti476 = some ti476 := by kernel_rfl
def ti477 : V.TI := ⟨.ptr 188, 1, 8, [.pointer none], false⟩
theorem pe : Tw 477 ti477 = some ti477 := by kernel_rfl
def ti478 : V.TI := ⟨.func, 1, 8, [.nilFunc], false⟩
theorem pd : Tw 478 ti478 = some ti478 := by kernel_rfl
def ti479 : V.TI := ⟨.ptr 2, 1, 8, [.pointer none], false⟩
theorem pc : Tw 479 ti479 = some ti479 := by kernel_rfl
def ti480 : V.TI := ⟨.func, 1, 8, [.nilFunc], false⟩
theorem o9 : Tw 480 ti480 = some ti480 := by kernel_rfl
def ti481 : V.TI := ⟨.func, 1, 8, [.nilFunc], false⟩
theorem o8 : Tw 481 ti481 = some ti481 := by kernel_rfl
def ti482 : V.TI := ⟨.ptr 489, 1, 8, [.pointer none], false⟩
theorem o7 : Tw 482 ti482 = some ti482 := by kernel_rfl
def ti483 : V.TI := ⟨.func, 1, 8, [.nilFunc], false⟩
theorem o6 : Tw 483 ti483 = some ti483 := by kernel_rfl
def ti485 : V.TI := ⟨.func, 1, 8, [.nilFunc], false⟩
theorem o5 : Tw 485 ti485 = some ti485 := by kernel_rfl
def ti486 : V.TI := ⟨.func, 1, 8, [.nilFunc], false⟩
theorem o4 : Tw 486 ti486 = some ti486 := by kernel_rfl
def ti487 : V.TI := ⟨.slice 491, 1, 24, [.slice none 0 0], false⟩
theorem o3 : Tw 487 ti487 = some ti487 := by kernel_rfl
def ti488 : V.TI := ⟨.struct [(0, 487)], 1, 24, [.slice none 0 0], true⟩
theorem oz : Tw 488 ti488 = some ti488 := by kernel_rfl
def ti489 : V.TI := ⟨.struct [(0, 487)], 1, 24, [.slice none 0 0], true⟩
theorem ow : Tw 489 ti489 = some ti489 := by kernel_rfl
def ti490 : V.TI := ⟨.struct [(0, 3), (1, 3)], 2, 16, [.int .i64 0, .int .i64 0], true⟩
theorem ou : Tw 490 ti490 = some ti490 := by kernel_rfl
def ti491 : V.TI := ⟨.struct [(0, 3), (1, 3)], 2, 16, [.int .i64 0, .int .i64 0], true⟩
theorem ot : Tw 491 ti491 = some ti491 := by kernel_rfl
def ti492 : V.TI := ⟨.func, 1, 8, [.nilFunc], false⟩
theorem oq : Tw 492 ti492 = some ti492 := by kernel_rfl
def infoTree : V.Tr := (.node 244 (.node 125 (.node 61 (.node 29 (.node 15 (.node 8 (.node 4 (.node 2 (.node 1 .nil ti1 .nil) ti2 (.node 3 .nil ti3 .nil)) ti4 (.node 6 (.node 5 .nil ti5 .nil) ti6 (.node 7 .nil ti7 .nil))) ti8 (.node 12 (.node 10 (.node 9 .nil ti9 .nil) ti10 (.node 11 .nil ti11 .nil)) ti12 (.node 14 (.node 13 .nil ti13 .nil) ti14 .nil))) ti15 (.node 22 (.node 19 (.node 17 (.node 16 .nil ti16 .nil) ti17 (.node 18 .nil ti18 .nil)) ti19 (.node 21 (.node 20 .nil ti20 .nil) ti21 .nil)) ti22 (.node 26 (.node 24 (.node 23 .nil ti23 .nil) ti24 (.node 25 .nil ti25 .nil)) ti26 (.node 28 (.node 27 .nil ti27 .nil) ti28 .nil)))) ti29 (.node 45 (.node 37 (.node 33 (.node 31 (.node 30 .nil ti30 .nil) ti31 (.node 32 .nil ti32 .nil)) ti33 (.node 35 (.node 34 .nil ti34 .nil) ti35 (.node 36 .nil ti36 .nil))) ti37 (.node 42 (.node 39 (.node 38 .nil ti38 .nil) ti39 (.node 40 .nil ti40 .nil)) ti42 (.node 44 (.node 43 .nil ti43 .nil) ti44 .nil))) ti45 (.node 52 (.node 49 (.node 47 (.node 46 .nil ti46 .nil) ti47 (.node 48 .nil ti48 .nil)) ti49 (.node 51 (.node 50 .nil ti50 .nil) ti51 .nil)) ti52 (.node 57 (.node 54 (.node 53 .nil ti53 .nil) ti54 (.node 56 .nil ti56 .nil)) ti57 (.node 60 (.node 59 .nil ti59 .nil) ti60 .nil))))) ti61 (.node 94 (.node 79 (.node 70 (.node 65 (.node 63 (.node 62 .nil ti62 .nil) ti63 (.node 64 .nil ti64 .nil)) ti65 (.node 67 (.node 66 .nil ti66 .nil) ti67 (.node 69 .nil ti69 .nil))) ti70 (.node 74 (.node 72 (.node 71 .nil ti71 .nil) ti72 (.node 73 .nil ti73 .nil)) ti74 (.node 78 (.node 76 .nil ti76 .nil) ti78 .nil))) ti79 (.node 86 (.node 83 (.node 81 (.node 80 .nil ti80 .nil) ti81 (.node 82 .nil ti82 .nil)) ti83 (.node 85 (.node 84 .nil ti84 .nil) ti85 .nil)) ti86 (.node 90 (.node 88 (.node 87 .nil ti87 .nil) ti88 (.node 89 .nil ti89 .nil)) ti90 (.node 93 (.node 91 .nil ti91 .nil) ti93 .nil)))) ti94 (.node 111 (.node 103 (.node 99 (.node 96 (.node 95 .nil ti95 .nil) ti96 (.node 97 .nil ti97 .nil)) ti99 (.node 102 (.node 100 .nil ti100 .nil) ti102 .nil)) ti103 (.node 107 (.node 105 (.node 104 .nil ti104 .nil) ti105 (.node 106 .nil ti106 .nil)) ti107 (.node 110 (.node 109 .nil ti109 .nil) ti110 .nil))) ti111 (.node 118 (.node 115 (.node 113 (.node 112 .nil ti112 .nil) ti113 (.node 114 .nil ti114 .nil)) ti115 (.node 117 (.node 116 .nil ti116 .nil) ti117 .nil)) ti118 (.node 122 (.node 120 (.node 119 .nil ti119 .nil) ti120 (.node 121 .nil ti121 .nil)) ti122 (.node 124 (.node 123 .nil ti123 .nil) ti124 .nil)))))) ti125 (.node 187 (.node 157 (.node 142 (.node 135 (.node 130 (.node 127 (.node 126 .nil ti126 .nil) ti127 (.node 129 .nil ti129 .nil)) ti130 (.node 133 (.node 131 .nil ti131 .nil) ti133 (.node 134 .nil ti134 .nil))) ti135 (.node 139 (.node 137 (.node 136 .nil ti136 .nil) ti137 (.node 138 .nil ti138 .nil)) ti139 (.node 141 (.node 140 .nil ti140 .nil) ti141 .nil))) ti142 (.node 149 (.node 146 (.node 144 (.node 143 .nil ti143 .nil) ti144 (.node 145 .nil ti145 .nil)) ti146 (.node 148 (.node 147 .nil ti147 .nil) ti148 .nil)) ti149 (.node 153 (.node 151 (.node 150 .nil ti150 .nil) ti151 (.node 152 .nil ti152 .nil)) ti153 (.node 156 (.node 154 .nil ti154 .nil) ti156 .nil)))) ti157 (.node 172 (.node 165 (.node 161 (.node 159 (.node 158 .nil ti158 .nil) ti159 (.node 160 .nil ti160 .nil)) ti161 (.node 163 (.node 162 .nil ti162 .nil) ti163 (.node 164 .nil ti164 .nil))) ti165 (.node 169 (.node 167 (.node 166 .nil ti166 .nil) ti167 (.node 168 .nil ti168 .nil)) ti169 (.node 171 (.node 170 .nil ti170 .nil) ti171 .nil))) ti172 (.node 179 (.node 176 (.node 174 (.node 173 .nil ti173 .nil) ti174 (.node 175 .nil ti175 .nil)) ti176 (.node 178 (.node 177 .nil ti177 .nil) ti178 .nil)) ti179 (.node 184 (.node 181 (.node 180 .nil ti180 .nil) ti181 (.node 182 .nil ti182 .nil)) ti184 (.node 186 (.node 185 .nil ti185 .nil) ti186 .nil))))) ti187 (.node 216 (.node 202 (.node 195 (.node 191 (.node 189 (.node 188 .nil ti188 .nil) ti189 (.node 190 .nil ti190 .nil)) ti191 (.node 193 (.node 192 .nil ti192 .nil) ti193 (.node 194 .nil ti194 .nil))) ti195 (.node 199 (.node 197 (.node 196 .nil ti196 .nil) ti197 (.node 198 .nil ti198 .nil)) ti199 (.node 201 (.node 200 .nil ti200 .nil) ti201 .nil))) ti202 (.node 209 (.node 206 (.node 204 (.node 203 .nil ti203 .nil) ti204 (.node 205 .nil ti205 .nil)) ti206 (.node 208 (.node 207 .nil ti207 .nil) ti208 .nil)) ti209 (.node 213 (.node 211 (.node 210 .nil ti210 .nil) ti211 (.node 212 .nil ti212 .nil)) ti213 (.node 215 (.node 214 .nil ti214 .nil) ti215 .nil)))) ti216 (.node 230 (.node 223 (.node 220 (.node 218 (.node 217 .nil ti217 .nil) ti218 (.node 219 .nil ti219 .nil)) ti220 (.node 222 (.node 221 .nil ti221 .nil) ti222 .nil)) ti223 (.node 227 (.node 225 (.node 224 .nil ti224 .nil) ti225 (.node 226 .nil ti226 .nil)) ti227 (.node 229 (.node 228 .nil ti228 .nil) ti229 .nil))) ti230 (.node 237 (.node 234 (.node 232 (.node 231 .nil ti231 .nil) ti232 (.node 233 .nil ti233 .nil)) ti234 (.node 236 (.node 235 .nil ti235 .nil) ti236 .nil)) ti237 (.node 241 (.node 239 (.node 238 .nil ti238 .nil) ti239 (.node 240 .nil ti240 .nil)) ti241 (.node 243 (.node 242 .nil ti242 .nil) ti243 .nil))))))) ti244 (.node 373 (.node 308 (.node 277 (.node 262 (.node 253 (.node 249 (.node 246 (.node 245 .nil ti245 .nil) ti246 (.node 248 .nil ti248 .nil)) ti249 (.node 251 (.node 250 .nil ti250 .nil) ti251 (.node 252 .nil ti252 .nil))) ti253 (.node 257 (.node 255 (.node 254 .nil ti254 .nil) ti255 (.node 256 .nil ti256 .nil)) ti257 (.node 260 (.node 259 .nil ti259 .nil) ti260 .nil))) ti262 (.node 269 (.node 266 (.node 264 (.node 263 .nil ti263 .nil) ti264 (.node 265 .nil ti265 .nil)) ti266 (.node 268 (.node 267 .nil ti267 .nil) ti268 .nil)) ti269 (.node 274 (.node 271 (.node 270 .nil ti270 .nil) ti271 (.node 273 .nil ti273 .nil)) ti274 (.node 276 (.node 275 .nil ti275 .nil) ti276 .nil)))) ti277 (.node 293 (.node 286 (.node 282 (.node 280 (.node 279 .nil ti279 .nil) ti280 (.node 281 .nil ti281 .nil)) ti282 (.node 284 (.node 283 .nil ti283 .nil) ti284 (.node 285 .nil ti285 .nil))) ti286 (.node 290 (.node 288 (.node 287 .nil ti287 .nil) ti288 (.node 289 .nil ti289 .nil)) ti290 (.node 292 (.node 291 .nil ti291 .nil) ti292 .nil))) ti293 (.node 300 (.node 297 (.node 295 (.node 294 .nil ti294 .nil) ti295 (.node 296 .nil ti296 .nil)) ti297 (.node 299 (.node 298 .nil ti298 .nil) ti299 .nil)) ti300 (.node 304 (.node 302 (.node 301 .nil ti301 .nil) ti302 (.node 303 .nil ti303 .nil)) ti304 (.node 306 (.node 305 .nil ti305 .nil) ti306 .nil))))) ti308 (.node 343 (.node 327 (.node 318 (.node 312 (.node 310 (.node 309 .nil ti309 .nil) ti310 (.node 311 .nil ti311 .nil)) ti312 (.node 315 (.node 313 .nil ti313 .nil) ti315 (.node 316 .nil ti316 .nil))) ti318 (.node 324 (.node 321 (.node 320 .nil ti320 .nil) ti321 (.node 323 .nil ti323 .nil)) ti324 (.node 326 (.node 325 .nil ti325 .nil) ti326 .nil))) ti327 (.node 334 (.node 331 (.node 329 (.node 328 .nil ti328 .nil) ti329 (.node 330 .nil ti330 .nil)) ti331 (.node 333 (.node 332 .nil ti332 .nil) ti333 .nil)) ti334 (.node 340 (.node 337 (.node 335 .nil ti335 .nil) ti337 (.node 339 .nil ti339 .nil)) ti340 (.node 342 (.node 341 .nil ti341 .nil) ti342 .nil)))) ti343 (.node 359 (.node 352 (.node 349 (.node 346 (.node 345 .nil ti345 .nil) ti346 (.node 347 .nil ti347 .nil)) ti349 (.node 351 (.node 350 .nil ti350 .nil) ti351 .nil)) ti352 (.node 356 (.node 354 (.node 353 .nil ti353 .nil) ti354 (.node 355 .nil ti355 .nil)) ti356 (.node 358 (.node 357 .nil ti357 .nil) ti358 .nil))) ti359 (.node 366 (.node 363 (.node 361 (.node 360 .nil ti360 .nil) ti361 (.node 362 .nil ti362 .nil)) ti363 (.node 365 (.node 364 .nil ti364 .nil) ti365 .nil)) ti366 (.node 370 (.node 368 (.node 367 .nil ti367 .nil) ti368 (.node 369 .nil ti369 .nil)) ti370 (.node 372 (.node 371 .nil ti371 .nil) ti372 .nil)))))) ti373 (.node 434 (.node 404 (.node 390 (.node 382 (.node 377 (.node 375 (.node 374 .nil ti374 .nil) ti375 (.node 376 .nil ti376 .nil)) ti377 (.node 380 (.node 378 .nil ti378 .nil) ti380 (.node 381 .nil ti381 .nil))) ti382 (.node 386 (.node 384 (.node 383 .nil ti383 .nil) ti384 (.node 385 .nil ti385 .nil)) ti386 (.node 389 (.node 387 .nil ti387 .nil) ti389 .nil))) ti390 (.node 397 (.node 394 (.node 392 (.node 391 .nil ti391 .nil) ti392 (.node 393 .nil ti393 .nil)) ti394 (.node 396 (.node 395 .nil ti395 .nil) ti396 .nil)) ti397 (.node 401 (.node 399 (.node 398 .nil ti398 .nil) ti399 (.node 400 .nil ti400 .nil)) ti401 (.node 403 (.node 402 .nil ti402 .nil) ti403 .nil)))) ti404 (.node 418 (.node 411 (.node 408 (.node 406 (.node 405 .nil ti405 .nil) ti406 (.node 407 .nil ti407 .nil)) ti408 (.node 410 (.node 409 .nil ti409 .nil) ti410 .nil)) ti411 (.node 415 (.node 413 (.node 412 .nil ti412 .nil) ti413 (.node 414 .nil ti414 .nil)) ti415 (.node 417 (.node 416 .nil ti416 .nil) ti417 .nil))) ti418 (.node 426 (.node 422 (.node 420 (.node 419 .nil ti419 .nil) ti420 (.node 421 .nil ti421 .nil)) ti422 (.node 425 (.node 424 .nil ti424 .nil) ti425 .nil)) ti426 (.node 430 (.node 428 (.node 427 .nil ti427 .nil) ti428 (.node 429 .nil ti429 .nil)) ti430 (.node 433 (.node 432 .nil ti432 .nil) ti433 .nil))))) ti434 (.node 464 (.node 449 (.node 442 (.node 438 (.node 436 (.node 435 .nil ti435 .nil) ti436 (.node 437 .nil ti437 .nil)) ti438 (.node 440 (.node 439 .nil ti439 .nil) ti440 (.node 441 .nil ti441 .nil))) ti442 (.node 446 (.node 444 (.node 443 .nil ti443 .nil) ti444 (.node 445 .nil ti445 .nil)) ti446 (.node 448 (.node 447 .nil ti447 .nil) ti448 .nil))) ti449 (.node 457 (.node 454 (.node 452 (.node 451 .nil ti451 .nil) ti452 (.node 453 .nil ti453 .nil)) ti454 (.node 456 (.node 455 .nil ti455 .nil) ti456 .nil)) ti457 (.node 461 (.node 459 (.node 458 .nil ti458 .nil) ti459 (.node 460 .nil ti460 .nil)) ti461 (.node 463 (.node 462 .nil ti462 .nil) ti463 .nil)))) ti464 (.node 478 (.node 471 (.node 468 (.node 466 (.node 465 .nil ti465 .nil) ti466 (.node 467 .nil ti467 .nil)) ti468 (.node 470 (.node 469 .nil ti469 .nil) ti470 .nil)) ti471 (.node 475 (.node 473 (.node 472 .nil ti472 .nil) ti473 (.node 474 .nil ti474 .nil)) ti475 (.node 477 (.node 476 .nil ti476 .nil) ti477 .nil))) ti478 (.node 486 (.node 482 (.node 480 (.node 479 .nil ti479 .nil) ti480 (.node 481 .nil ti481 .nil)) ti482 (.node 485 (.node 483 .nil ti483 .nil) ti485 .nil)) ti486 (.node 490 (.node 488 (.node 487 .nil ti487 .nil) ti488 (.node 489 .nil ti489 .nil)) ti490 (.node 492 (.node 491 .nil ti491 .nil) ti492 .nil))))))))
theorem zpk : infoTree.all Tryz.prog := ⟨zdi, ⟨zg2, ⟨n7, ⟨zby, ⟨zf3, ⟨mr, ⟨om, ⟨zbx, ⟨zev, Tv, Tv⟩, ⟨td, Tv, Tv⟩⟩, ⟨nn, ⟨n9, Tv, Tv⟩, ⟨na, Tv, Tv⟩⟩⟩, ⟨zgy, ⟨zhj, ⟨mg, Tv, Tv⟩, ⟨zg8, Tv, Tv⟩⟩, ⟨zgd, ⟨zgo, Tv, Tv⟩, Tv⟩⟩⟩, ⟨zdy, ⟨zew, ⟨zfh, ⟨zfs, Tv, Tv⟩, ⟨ze7, Tv, Tv⟩⟩, ⟨zd9, ⟨zek, Tv, Tv⟩, Tv⟩⟩, ⟨zct, ⟨zdd, ⟨zdn, Tv, Tv⟩, ⟨zc3, Tv, Tv⟩⟩, ⟨zb9, ⟨zck, Tv, Tv⟩, Tv⟩⟩⟩⟩, ⟨p3, ⟨ug, ⟨zaw, ⟨zbf, ⟨zbn, Tv, Tv⟩, ⟨za5, Tv, Tv⟩⟩, ⟨zab, ⟨zan, Tv, Tv⟩, ⟨ut, Tv, Tv⟩⟩⟩, ⟨r8, ⟨te, ⟨tv, Tv, Tv⟩, ⟨sx, Tv, Tv⟩⟩, ⟨rd, ⟨rp, Tv, Tv⟩, Tv⟩⟩⟩, ⟨oi, ⟨oo, ⟨pb, ⟨pn, Tv, Tv⟩, ⟨ov, Tv, Tv⟩⟩, ⟨oj, ⟨ol, Tv, Tv⟩, Tv⟩⟩, ⟨od, ⟨og, ⟨oh, Tv, Tv⟩, ⟨oe, Tv, Tv⟩⟩, ⟨n8, ⟨oc, Tv, Tv⟩, Tv⟩⟩⟩⟩⟩, ⟨mn, ⟨nc, ⟨nl, ⟨nw, ⟨nz, ⟨n0, Tv, Tv⟩, ⟨ny, Tv, Tv⟩⟩, ⟨nt, ⟨nu, Tv, Tv⟩, ⟨nr, Tv, Tv⟩⟩⟩, ⟨nh, ⟨nj, ⟨nk, Tv, Tv⟩, ⟨ni, Tv, Tv⟩⟩, ⟨nf, ⟨ng, Tv, Tv⟩, Tv⟩⟩⟩, ⟨mz, ⟨m6, ⟨m8, ⟨m9, Tv, Tv⟩, ⟨m7, Tv, Tv⟩⟩, ⟨m3, ⟨m4, Tv, Tv⟩, Tv⟩⟩, ⟨mq, ⟨mw, ⟨my, Tv, Tv⟩, ⟨mv, Tv, Tv⟩⟩, ⟨mo, ⟨mp, Tv, Tv⟩, Tv⟩⟩⟩⟩, ⟨zhh, ⟨zhp, ⟨mh, ⟨ml, ⟨mm, Tv, Tv⟩, ⟨mj, Tv, Tv⟩⟩, ⟨zhq, ⟨zhr, Tv, Tv⟩, Tv⟩⟩, ⟨zhl, ⟨zhn, ⟨zho, Tv, Tv⟩, ⟨zhm, Tv, Tv⟩⟩, ⟨zhi, ⟨zhk, Tv, Tv⟩, Tv⟩⟩⟩, ⟨zha, ⟨zhd, ⟨zhf, ⟨zhg, Tv, Tv⟩, ⟨zhe, Tv, Tv⟩⟩, ⟨zhb, ⟨zhc, Tv, Tv⟩, Tv⟩⟩, ⟨zg5, ⟨zg7, ⟨zg9, Tv, Tv⟩, ⟨zg6, Tv, Tv⟩⟩, ⟨zg3, ⟨zg4, Tv, Tv⟩, Tv⟩⟩⟩⟩⟩⟩, ⟨zfa, ⟨zf6, ⟨zgl, ⟨zgt, ⟨zgx, ⟨zg0, ⟨zg1, Tv, Tv⟩, ⟨zgz, Tv, Tv⟩⟩, ⟨zgv, ⟨zgw, Tv, Tv⟩, ⟨zgu, Tv, Tv⟩⟩⟩, ⟨zgp, ⟨zgr, ⟨zgs, Tv, Tv⟩, ⟨zgq, Tv, Tv⟩⟩, ⟨zgm, ⟨zgn, Tv, Tv⟩, Tv⟩⟩⟩, ⟨zge, ⟨zgh, ⟨zgj, ⟨zgk, Tv, Tv⟩, ⟨zgi, Tv, Tv⟩⟩, ⟨zgf, ⟨zgg, Tv, Tv⟩, Tv⟩⟩, ⟨zf9, ⟨zgb, ⟨zgc, Tv, Tv⟩, ⟨zga, Tv, Tv⟩⟩, ⟨zf7, ⟨zf8, Tv, Tv⟩, Tv⟩⟩⟩⟩, ⟨zfp, ⟨zfx, ⟨zf1, ⟨zf4, ⟨zf5, Tv, Tv⟩, ⟨zf2, Tv, Tv⟩⟩, ⟨zfz, ⟨zf0, Tv, Tv⟩, ⟨zfy, Tv, Tv⟩⟩⟩, ⟨zft, ⟨zfv, ⟨zfw, Tv, Tv⟩, ⟨zfu, Tv, Tv⟩⟩, ⟨zfq, ⟨zfr, Tv, Tv⟩, Tv⟩⟩⟩, ⟨zfi, ⟨zfl, ⟨zfn, ⟨zfo, Tv, Tv⟩, ⟨zfm, Tv, Tv⟩⟩, ⟨zfj, ⟨zfk, Tv, Tv⟩, Tv⟩⟩, ⟨zfd, ⟨zff, ⟨zfg, Tv, Tv⟩, ⟨zfe, Tv, Tv⟩⟩, ⟨zfb, ⟨zfc, Tv, Tv⟩, Tv⟩⟩⟩⟩⟩, ⟨zed, ⟨zes, ⟨ze1, ⟨ze5, ⟨ze8, ⟨ze9, Tv, Tv⟩, ⟨ze6, Tv, Tv⟩⟩, ⟨ze3, ⟨ze4, Tv, Tv⟩, ⟨ze2, Tv, Tv⟩⟩⟩, ⟨zex, ⟨zez, ⟨ze0, Tv, Tv⟩, ⟨zey, Tv, Tv⟩⟩, ⟨zet, ⟨zeu, Tv, Tv⟩, Tv⟩⟩⟩, ⟨zel, ⟨zeo, ⟨zeq, ⟨zer, Tv, Tv⟩, ⟨zep, Tv, Tv⟩⟩, ⟨zem, ⟨zen, Tv, Tv⟩, Tv⟩⟩, ⟨zeg, ⟨zei, ⟨zej, Tv, Tv⟩, ⟨zeh, Tv, Tv⟩⟩, ⟨zee, ⟨zef, Tv, Tv⟩, Tv⟩⟩⟩⟩, ⟨zdx, ⟨zd5, ⟨zd8, ⟨zeb, ⟨zec, Tv, Tv⟩, ⟨zea, Tv, Tv⟩⟩, ⟨zd6, ⟨zd7, Tv, Tv⟩, Tv⟩⟩, ⟨zd1, ⟨zd3, ⟨zd4, Tv, Tv⟩, ⟨zd2, Tv, Tv⟩⟩, ⟨zdz, ⟨zd0, Tv, Tv⟩, Tv⟩⟩⟩, ⟨zdq, ⟨zdt, ⟨zdv, ⟨zdw, Tv, Tv⟩, ⟨zdu, Tv, Tv⟩⟩, ⟨zdr, ⟨zds, Tv, Tv⟩, Tv⟩⟩, ⟨zdl, ⟨zdo, ⟨zdp, Tv, Tv⟩, ⟨zdm, Tv, Tv⟩⟩, ⟨zdj, ⟨zdk, Tv, Tv⟩, Tv⟩⟩⟩⟩⟩⟩⟩, ⟨um, ⟨zbp, ⟨zcm, ⟨zc1, ⟨zc9, ⟨zde, ⟨zdg, ⟨zdh, Tv, Tv⟩, ⟨zdf, Tv, Tv⟩⟩, ⟨zdb, ⟨zdc, Tv, Tv⟩, ⟨zda, Tv, Tv⟩⟩⟩, ⟨zc5, ⟨zc7, ⟨zc8, Tv, Tv⟩, ⟨zc6, Tv, Tv⟩⟩, ⟨zc2, ⟨zc4, Tv, Tv⟩, Tv⟩⟩⟩, ⟨zcu, ⟨zcx, ⟨zcz, ⟨zc0, Tv, Tv⟩, ⟨zcy, Tv, Tv⟩⟩, ⟨zcv, ⟨zcw, Tv, Tv⟩, Tv⟩⟩, ⟨zcp, ⟨zcr, ⟨zcs, Tv, Tv⟩, ⟨zcq, Tv, Tv⟩⟩, ⟨zcn, ⟨zco, Tv, Tv⟩, Tv⟩⟩⟩⟩, ⟨zb5, ⟨zcd, ⟨zch, ⟨zcj, ⟨zcl, Tv, Tv⟩, ⟨zci, Tv, Tv⟩⟩, ⟨zcf, ⟨zcg, Tv, Tv⟩, ⟨zce, Tv, Tv⟩⟩⟩, ⟨zb8, ⟨zcb, ⟨zcc, Tv, Tv⟩, ⟨zca, Tv, Tv⟩⟩, ⟨zb6, ⟨zb7, Tv, Tv⟩, Tv⟩⟩⟩, ⟨zbw, ⟨zb1, ⟨zb3, ⟨zb4, Tv, Tv⟩, ⟨zb2, Tv, Tv⟩⟩, ⟨zbz, ⟨zb0, Tv, Tv⟩, Tv⟩⟩, ⟨zbs, ⟨zbu, ⟨zbv, Tv, Tv⟩, ⟨zbt, Tv, Tv⟩⟩, ⟨zbq, ⟨zbr, Tv, Tv⟩, Tv⟩⟩⟩⟩⟩, ⟨zas, ⟨za8, ⟨zbg, ⟨zbk, ⟨zbm, ⟨zbo, Tv, Tv⟩, ⟨zbl, Tv, Tv⟩⟩, ⟨zbi, ⟨zbj, Tv, Tv⟩, ⟨zbh, Tv, Tv⟩⟩⟩, ⟨zbb, ⟨zbd, ⟨zbe, Tv, Tv⟩, ⟨zbc, Tv, Tv⟩⟩, ⟨za9, ⟨zba, Tv, Tv⟩, Tv⟩⟩⟩, ⟨za0, ⟨za3, ⟨za6, ⟨za7, Tv, Tv⟩, ⟨za4, Tv, Tv⟩⟩, ⟨za1, ⟨za2, Tv, Tv⟩, Tv⟩⟩, ⟨zav, ⟨zay, ⟨zaz, Tv, Tv⟩, ⟨zax, Tv, Tv⟩⟩, ⟨zat, ⟨zau, Tv, Tv⟩, Tv⟩⟩⟩⟩, ⟨zac, ⟨zak, ⟨zao, ⟨zaq, ⟨zar, Tv, Tv⟩, ⟨zap, Tv, Tv⟩⟩, ⟨zal, ⟨zam, Tv, Tv⟩, Tv⟩⟩, ⟨zaf, ⟨zai, ⟨zaj, Tv, Tv⟩, ⟨zah, Tv, Tv⟩⟩, ⟨zad, ⟨zae, Tv, Tv⟩, Tv⟩⟩⟩, ⟨uy, ⟨u6, ⟨u9, ⟨zaa, Tv, Tv⟩, ⟨u7, Tv, Tv⟩⟩, ⟨uz, ⟨u0, Tv, Tv⟩, Tv⟩⟩, ⟨ur, ⟨uw, ⟨ux, Tv, Tv⟩, ⟨uu, Tv, Tv⟩⟩, ⟨uo, ⟨uq, Tv, Tv⟩, Tv⟩⟩⟩⟩⟩⟩, ⟨rx, ⟨s8, ⟨tu, ⟨ud, ⟨ui, ⟨uk, ⟨ul, Tv, Tv⟩, ⟨uj, Tv, Tv⟩⟩, ⟨uf, ⟨uh, Tv, Tv⟩, ⟨ue, Tv, Tv⟩⟩⟩, ⟨t6, ⟨t8, ⟨uc, Tv, Tv⟩, ⟨t7, Tv, Tv⟩⟩, ⟨tw, ⟨tz, Tv, Tv⟩, Tv⟩⟩⟩, ⟨th, ⟨tn, ⟨tq, ⟨tt, Tv, Tv⟩, ⟨tp, Tv, Tv⟩⟩, ⟨ti, ⟨tj, Tv, Tv⟩, Tv⟩⟩, ⟨tb, ⟨tf, ⟨tg, Tv, Tv⟩, ⟨tc, Tv, Tv⟩⟩, ⟨s9, ⟨ta, Tv, Tv⟩, Tv⟩⟩⟩⟩, ⟨sj, ⟨su, ⟨s4, ⟨s6, ⟨s7, Tv, Tv⟩, ⟨s5, Tv, Tv⟩⟩, ⟨sw, ⟨sy, Tv, Tv⟩, Tv⟩⟩, ⟨sn, ⟨sr, ⟨ss, Tv, Tv⟩, ⟨sq, Tv, Tv⟩⟩, ⟨sk, ⟨sl, Tv, Tv⟩, Tv⟩⟩⟩, ⟨sc, ⟨sf, ⟨sh, ⟨si, Tv, Tv⟩, ⟨sg, Tv, Tv⟩⟩, ⟨sd, ⟨se, Tv, Tv⟩, Tv⟩⟩, ⟨r7, ⟨sa, ⟨sb, Tv, Tv⟩, ⟨r9, Tv, Tv⟩⟩, ⟨ry, ⟨rz, Tv, Tv⟩, Tv⟩⟩⟩⟩⟩, ⟨pu, ⟨rf, ⟨rm, ⟨rr, ⟨ru, ⟨rv, Tv, Tv⟩, ⟨rt, Tv, Tv⟩⟩, ⟨ro, ⟨rq, Tv, Tv⟩, ⟨rn, Tv, Tv⟩⟩⟩, ⟨ri, ⟨rk, ⟨rl, Tv, Tv⟩, ⟨rj, Tv, Tv⟩⟩, ⟨rg, ⟨rh, Tv, Tv⟩, Tv⟩⟩⟩, ⟨p6, ⟨p9, ⟨rb, ⟨rc, Tv, Tv⟩, ⟨ra, Tv, Tv⟩⟩, ⟨p7, ⟨p8, Tv, Tv⟩, Tv⟩⟩, ⟨py, ⟨p4, ⟨p5, Tv, Tv⟩, ⟨pz, Tv, Tv⟩⟩, ⟨pw, ⟨px, Tv, Tv⟩, Tv⟩⟩⟩⟩, ⟨pd, ⟨pk, ⟨pp, ⟨pr, ⟨pt, Tv, Tv⟩, ⟨pq, Tv, Tv⟩⟩, ⟨pm, ⟨po, Tv, Tv⟩, Tv⟩⟩, ⟨pg, ⟨pi, ⟨pj, Tv, Tv⟩, ⟨ph, Tv, Tv⟩⟩, ⟨pe, ⟨pf, Tv, Tv⟩, Tv⟩⟩⟩, ⟨o4, ⟨o7, ⟨o9, ⟨pc, Tv, Tv⟩, ⟨o8, Tv, Tv⟩⟩, ⟨o5, ⟨o6, Tv, Tv⟩, Tv⟩⟩, ⟨ou, ⟨oz, ⟨o3, Tv, Tv⟩, ⟨ow, Tv, Tv⟩⟩, ⟨oq, ⟨ot, Tv, Tv⟩, Tv⟩⟩⟩⟩⟩⟩⟩⟩
end Go.Proofs
