/- The ground on which laws of thronglaw24 are proved: contracts of functions and plain lemmas; no condition beyond the row's own. -/
import Derived.Test.YtbemejeejgpkaaaGreatVC
import Derived.Test.YtbemejeejgpkaaaGreatVD
import Derived.Test.YtbemejeejgpkaaaGreatSA
import Derived.Test.YtbemejeejgpkaaaGreatVG
import Derived.Test.YtbemejeejgpkaaaGreatVE
import Derived.Test.YtbemejeejgpkaaaGreatSB
set_option linter.unusedSimpArgs false
set_option linter.unusedVariables false
namespace Go.Proofs
open Go Go.V
def ykn : V.Sched := (sv [0, 1, 2, 3, 4, 5, 6] (.e 7 [] (sv [8] .done) .stop))
def ykm : V.Sched := (sv [0, 1, 2, 3, 4, 5, 6, 7, 8, 9] (.e 10 [2] (sv [11, 12] (.e 13 [0, 1, 2, 3, 4, 5, 6, 7, 8, 9, 11, 12] (.e 14 [] .done .stop) .stop)) (.e 13 [0, 1, 2, 3, 4, 5, 6, 7, 8, 9] (.e 10 [2] (sv [11, 12] (.e 14 [] .done .stop)) .stop) .stop)))
def ykl : V.Sched := (sv [0, 1, 2, 3, 4, 5, 6, 7, 8, 9, 10, 11, 12, 13, 14] (.e 15 [0, 1, 2, 3, 4, 5, 6, 7, 8, 9, 10, 11, 12, 13, 14] (.e 16 [] .done .stop) .stop))
def yh8 : V.Sched := (sv [0, 1, 2, 3, 4, 5] (.e 6 [1] (sv [7, 8, 9] (.e 10 [0, 1, 2, 3, 4, 5, 7, 8, 9] (.e 11 [] .done .stop) .stop)) (.e 10 [0, 1, 2, 3, 4, 5] (.e 6 [1] (sv [7, 8, 9] (.e 11 [] .done .stop)) .stop) .stop)))
def yh7 : V.Sched := (sv [0, 1, 2, 3, 4, 5, 6, 7, 8, 9, 10, 11, 12, 13, 14, 15, 16, 17, 18] (.e 19 [0, 1, 2, 3, 4, 5, 6, 7, 8, 9, 10, 11, 12, 13, 14, 15, 16, 17, 18] (.e 20 [] .done .stop) .stop))
def ycl : V.Sched := (sv [0, 1, 2, 3, 4, 5, 6] (.e 7 [1, 4] (sv [8, 9, 10, 11, 12, 13, 14, 15, 16] (.e 17 [] .done .stop)) .stop))
def zm4 : V.Sched := (sv [0, 1, 2, 3, 4, 5, 6, 7, 8, 9, 10, 11, 12, 13, 14, 15, 16, 17, 18, 19, 20, 21, 22, 23, 24] (.e 25 [] (sv [26, 27, 28, 29, 30, 31, 32, 35, 36, 37, 38, 39, 40] (.e 33 [36, 40] (sv [34] (.e 41 [34] (sv [42, 43, 44, 45, 46, 47, 48, 49, 50, 51, 52, 53, 54, 55, 56, 57, 58, 59, 60] .done) .stop)) .stop)) .stop))
def yip : V.Sched := (sv [0, 1, 2, 3, 5, 6, 7, 8] (.e 4 [6, 8] (.e 9 [] (sv [10] (.e 11 [] .done .stop)) .stop) .stop))
def yio : V.Sched := (sv [0, 1, 2, 3, 4, 5, 6, 7, 8, 9, 10, 11, 12] (.e 13 [] .done .stop))
def yin : V.Sched := (sv [0, 1, 2, 3, 4, 5] (.e 6 [2, 5] (.e 7 [] (.e 8 [] .done .stop) .stop) .stop))
def yim : V.Sched := (sv [0, 1, 2, 3, 4, 5, 6, 7, 8] .done)
def yil : V.Sched := (sv [0, 1, 2, 3, 4, 5, 6, 7, 8] .done)
def yik : V.Sched := (sv [0, 1, 2, 3, 4, 5, 6, 7, 8, 9, 10, 11, 12, 13, 14, 15, 16, 17, 18, 19] .done)
def yb8 : V.Sched := (sv [0, 1, 2, 3, 4, 5, 6, 7, 8, 9, 10, 11, 12, 13, 14, 15, 16, 17, 18, 19, 20, 21, 22, 23, 24, 25, 26, 27, 28, 29, 30, 31, 32, 33, 34, 35, 36, 37, 38, 39, 40, 41, 42, 43, 44, 45, 46, 47, 48, 49, 50] (.e 51 [] (sv [52, 53, 54, 55, 56, 57, 58, 59, 60, 61, 62, 63] (.e 64 [] (sv [65, 66, 67, 68, 69, 70, 71, 72, 73, 74, 75, 76, 77, 78, 79, 80, 81, 82, 83, 84, 85, 86, 87] .done) .stop)) .stop))
def yb7 : V.Sched := (sv [0, 1, 2, 3, 4, 5, 6, 7, 8] .done)
def yij : V.Sched := (sv [0, 1, 2, 3, 4, 5, 6, 7, 8, 9, 10, 11, 12, 13, 14, 15, 16] (.e 17 [10, 12, 14] (sv [18] (.e 19 [] (sv [20, 21] .done) .stop)) .stop))
def yii : V.Sched := (sv [0, 1, 4, 5] (.e 2 [5] (.e 3 [5] (.e 6 [] (.e 7 [] (.e 8 [] (.e 9 [] .done .stop) .stop) .stop) .stop) .stop) .stop))
def yih : V.Sched := (sv [0, 1, 2, 3, 4, 5, 6, 7, 8, 9, 10] (.e 11 [0, 1, 2, 3, 4, 5, 6, 7, 8, 9, 10] (.e 12 [] .done .stop) .stop))
def yig : V.Sched := (sv [0, 1, 2, 3, 4, 5, 6, 7, 8] (.e 9 [] .done .stop))
def yb6 : V.Sched := (sv [0, 1, 2, 3, 4] (.e 5 [] .done .stop))
def yb5 : V.Sched := (sv [0, 1] (.e 2 [] (sv [3, 4, 5, 6, 7] (.e 8 [] (sv [9, 10, 11, 12, 13, 14, 15, 16, 17, 18, 19, 20, 21, 22, 23, 24, 25] .done) .stop)) .stop))
def yif : V.Sched := (sv [0, 1, 3, 4, 6, 7] (.e 2 [4, 7] (sv [9] (.e 5 [7] (.e 8 [] (.e 10 [] (sv [11] (.e 12 [] (sv [13] (.e 14 [] .done .stop)) .stop)) .stop) .stop) .stop)) .stop))
def zrc : V.Sched := (sv [0] (.e 1 [0] (sv [2] (.e 3 [] (.e 4 [] .done .stop) .stop)) .stop))
def zrb : V.Sched := (sv [0, 1, 2, 3, 4, 5, 6, 7] (.e 8 [] .done .stop))
def yie : V.Sched := (sv [0, 1, 2, 3, 4, 5, 6, 7, 8, 11] (.e 9 [] (sv [10] .done) .stop))
def yid : V.Sched := (sv [0, 1, 2, 3, 4, 5, 6, 11, 12] (.e 7 [0, 2, 4, 12] (sv [8, 9, 10] (.e 13 [0] (.e 14 [] (.e 15 [] .done .stop) .stop) .stop)) .stop))
def yic : V.Sched := (sv [0, 1, 2, 3, 4, 5] (.e 6 [1] (.e 7 [] .done .stop) .stop))
def yib : V.Sched := (sv [0, 1, 2, 3, 4] (.e 5 [1] (sv [6] .done) .stop))
def yb4 : V.Sched := (sv [0, 1, 2, 3, 4] (.e 5 [] .done .stop))
def yb3 : V.Sched := (sv [0, 1, 2, 3, 4, 5, 6, 8, 9] (.e 7 [1, 3, 9] (.e 10 [1, 3] (sv [11] (.e 12 [1] (.e 13 [] (sv [14] .done) .stop) .stop)) .stop) .stop))
def yb2 : V.Sched := (sv [0, 1, 2, 3, 4] (.e 5 [] .done .stop))
def yia : V.Sched := (sv [0, 1, 2, 3, 4, 5, 6, 7, 8] .done)
def yh9 : V.Sched := (sv [0, 1, 2, 3] (.e 4 [] (sv [5, 6, 7, 8, 9, 10, 11] (.e 12 [] (sv [13, 14, 15, 16, 17, 18, 19, 20] (.e 21 [] (sv [22, 23] .done) .stop)) .stop)) .stop))
def yb1 : V.Sched := (sv [0, 1, 2, 3, 4, 5, 6, 7] (.e 8 [] .done .stop))
def ydj : V.Sched := (sv [0, 1, 3, 4] (.e 2 [4] (.e 5 [] (sv [6] (.e 7 [] .done .stop)) .stop) .stop))
def ydi : V.Sched := (sv [0, 1, 2, 3, 5, 6, 7, 8] (.e 4 [6, 8] (.e 9 [] (sv [10] (.e 11 [] .done .stop)) .stop) .stop))
def zm8 : V.Sched := (sv [0, 1, 2, 3, 4, 5, 6, 7, 9, 10, 11] (.e 8 [4, 9, 11] (.e 12 [] (sv [13] .done) .stop) .stop))
def zm7 : V.Sched := (sv [0, 1, 2, 3, 4, 5, 6, 7, 8, 9, 10, 11] (.e 12 [5, 7, 9] (sv [13] (.e 14 [] (sv [15, 16] .done) .stop)) .stop))
def ydh : V.Sched := (sv [0, 1, 2, 3, 4, 5, 6] (.e 7 [] (sv [8, 9, 10] (.e 11 [] (.e 12 [] .done .stop) .stop)) .stop))
def ydg : V.Sched := (sv [0, 1, 2, 3, 4, 5, 6, 7] (.e 8 [] .done .stop))
def ydf : V.Sched := (sv [0, 1, 2, 3, 4, 5, 6, 7] (.e 8 [] .done .stop))
def yde : V.Sched := (sv [0, 1, 2, 3, 4, 5] (.e 6 [] .done .stop))
def zrf : V.Sched := (sv [0, 1, 2, 3, 4, 5, 6, 7, 8, 9, 10, 11, 12, 13, 15, 16] (.e 14 [16] (.e 17 [13] (sv [18, 19, 20] .done) .stop) (.e 17 [13] (sv [18] (.e 14 [16] (sv [19, 20] .done) .stop)) .stop)))
def ydd : V.Sched := (sv [0, 1, 2, 3, 4, 5, 6, 7] (.e 8 [6] (.e 9 [] .done .stop) .stop))
def ydc : V.Sched := (sv [0, 1, 2, 3, 4, 5, 6, 7, 8, 9] (.e 10 [7] (.e 11 [] .done .stop) .stop))
def ydb : V.Sched := (sv [0, 1, 2, 3, 4, 6, 7, 8, 9, 10] (.e 5 [7] (.e 11 [] (.e 12 [] (.e 13 [] .done .stop) .stop) .stop) .stop))
def yda : V.Sched := (sv [0, 1, 2, 3, 4, 6] (.e 5 [] (.e 7 [] (sv [8, 9, 10] (.e 11 [] (.e 12 [] .done .stop) .stop)) .stop) .stop))
def yc9 : V.Sched := (sv [0, 1, 2, 3, 4, 5, 6, 7, 8, 9, 11, 12] (.e 10 [3, 4] (.e 13 [3, 4, 8, 9] (.e 14 [3, 4] (.e 15 [] .done .stop) .stop) .stop) (.e 13 [3, 4, 8, 9] (.e 10 [3, 4] (.e 14 [3, 4] (.e 15 [] .done .stop) .stop) .stop) .stop)))
def zm6 : V.Sched := (sv [0, 1, 2, 3, 4, 5] (.e 6 [] .done .stop))
def zm5 : V.Sched := (sv [0, 1, 2, 3, 4, 5, 6, 9] (.e 7 [] (sv [8] .done) .stop))
def yc8 : V.Sched := (sv [0, 1, 2, 3, 5, 6, 7, 8] (.e 4 [6] (.e 9 [] (sv [10] (.e 11 [] .done .stop)) .stop) .stop))
def yc7 : V.Sched := (sv [0, 1, 2, 3, 4, 5, 6, 7, 8, 9, 10, 11, 12] (.e 13 [] .done .stop))
def yc6 : V.Sched := (sv [0, 1, 2, 3, 4] (.e 5 [] .done .stop))
def yc5 : V.Sched := (sv [0, 1, 2, 3, 4, 5, 6, 7, 8, 9] (.e 10 [3, 7] (.e 11 [0, 1, 2, 3, 4, 5, 6, 7, 8, 9] (.e 12 [0, 1, 2, 3, 4, 5, 6, 7, 8, 9] (.e 13 [] (.e 14 [] .done .stop) .stop) .stop) (.e 12 [0, 1, 2, 3, 4, 5, 6, 7, 8, 9] (.e 11 [0, 1, 2, 3, 4, 5, 6, 7, 8, 9] (.e 13 [] (.e 14 [] .done .stop) .stop) .stop) .stop)) (.e 11 [0, 1, 2, 3, 4, 5, 6, 7, 8, 9] (.e 10 [3, 7] (.e 12 [0, 1, 2, 3, 4, 5, 6, 7, 8, 9] (.e 13 [] (.e 14 [] .done .stop) .stop) .stop) (.e 12 [0, 1, 2, 3, 4, 5, 6, 7, 8, 9] (.e 10 [3, 7] (.e 13 [] (.e 14 [] .done .stop) .stop) .stop) .stop)) (.e 12 [0, 1, 2, 3, 4, 5, 6, 7, 8, 9] (.e 10 [3, 7] (.e 11 [0, 1, 2, 3, 4, 5, 6, 7, 8, 9] (.e 13 [] (.e 14 [] .done .stop) .stop) .stop) (.e 11 [0, 1, 2, 3, 4, 5, 6, 7, 8, 9] (.e 10 [3, 7] (.e 13 [] (.e 14 [] .done .stop) .stop) .stop) .stop)) .stop))))
def yc4 : V.Sched := (sv [0, 1, 2, 3, 4, 5, 6, 7, 8] (.e 9 [5] (sv [10, 11, 12, 13, 14, 15, 16, 17, 18, 19, 20, 21, 22, 23, 24, 25, 26, 27, 28, 29, 30, 31, 36, 37] (.e 32 [37] (sv [33, 34, 35, 38, 39, 40, 41] .done) .stop)) .stop))
def yc3 : V.Sched := (sv [0, 1, 2, 3, 4, 5, 6, 7] (.e 8 [] (sv [9, 10] (.e 11 [] .done .stop)) .stop))
def yc2 : V.Sched := (sv [0, 1, 2, 3, 4, 5, 6, 7, 8, 9] (.e 10 [3, 7] (.e 11 [0, 1, 2, 3, 4, 5, 6, 7, 8, 9] (.e 12 [0, 1, 2, 3, 4, 5, 6, 7, 8, 9] (.e 13 [] (.e 14 [] .done .stop) .stop) .stop) (.e 12 [0, 1, 2, 3, 4, 5, 6, 7, 8, 9] (.e 11 [0, 1, 2, 3, 4, 5, 6, 7, 8, 9] (.e 13 [] (.e 14 [] .done .stop) .stop) .stop) .stop)) (.e 11 [0, 1, 2, 3, 4, 5, 6, 7, 8, 9] (.e 10 [3, 7] (.e 12 [0, 1, 2, 3, 4, 5, 6, 7, 8, 9] (.e 13 [] (.e 14 [] .done .stop) .stop) .stop) (.e 12 [0, 1, 2, 3, 4, 5, 6, 7, 8, 9] (.e 10 [3, 7] (.e 13 [] (.e 14 [] .done .stop) .stop) .stop) .stop)) (.e 12 [0, 1, 2, 3, 4, 5, 6, 7, 8, 9] (.e 10 [3, 7] (.e 11 [0, 1, 2, 3, 4, 5, 6, 7, 8, 9] (.e 13 [] (.e 14 [] .done .stop) .stop) .stop) (.e 11 [0, 1, 2, 3, 4, 5, 6, 7, 8, 9] (.e 10 [3, 7] (.e 13 [] (.e 14 [] .done .stop) .stop) .stop) .stop)) .stop))))
def yc1 : V.Sched := (sv [0, 1, 2, 3] (.e 4 [1] (sv [5] .done) .stop))
def yc0 : V.Sched := (sv [0, 1, 2, 3, 4, 5, 6, 7, 8, 9, 10, 11, 12, 13, 14, 15, 16, 17, 18, 19, 20, 22] (.e 21 [] (sv [23, 24] (.e 25 [] .done .stop)) .stop))
def ycz : V.Sched := (sv [0, 1, 2, 3, 4, 5, 6, 7, 8, 9, 10, 11] .done)
def ycy : V.Sched := (sv [0, 1, 2, 3, 4, 5, 6, 7, 8, 9, 10, 11, 12] .done)
def ycx : V.Sched := (sv [0, 1, 2, 3, 4, 5, 6, 7, 8, 9, 10, 11, 12] .done)
def ycw : V.Sched := (sv [0, 1, 2, 3, 4, 5] (.e 6 [4] (.e 7 [] .done .stop) .stop))
def wt : V.Sched := (sv [0, 1, 2, 3, 4, 5, 6, 7, 8, 9, 10, 11, 12, 14, 15] (.e 13 [] (sv [16] (.e 17 [] .done .stop)) .stop))
def ycv : V.Sched := (sv [0, 1, 2, 4] (.e 3 [0, 1] (.e 5 [0, 1] (sv [6] (.e 7 [] (sv [8] (.e 9 [] .done .stop)) .stop)) .stop) .stop))
def ycu : V.Sched := (sv [0, 1, 2, 3, 4] (.e 5 [] (.e 6 [] .done .stop) .stop))
def yct : V.Sched := (sv [0, 1, 2, 3, 4] (.e 5 [] .done .stop))
def zre : V.Sched := (sv [0, 1, 2, 3, 4, 5] (.e 6 [] .done .stop))
def ycs : V.Sched := (sv [0, 1, 3, 4] (.e 2 [4] (.e 5 [] (sv [6] (.e 7 [] .done .stop)) .stop) .stop))
def ycr : V.Sched := (sv [0, 1, 2, 4, 5, 6] (.e 3 [5, 6] (.e 7 [] (sv [8] (.e 9 [] (.e 10 [0, 1, 2, 4, 5, 6, 8] (.e 11 [] .done .stop) .stop) (.e 10 [0, 1, 2, 4, 5, 6, 8] (.e 9 [] (.e 11 [] .done .stop) .stop) .stop))) (.e 10 [0, 1, 2, 4, 5, 6] (.e 7 [] (sv [8] (.e 9 [] (.e 11 [] .done .stop) .stop)) .stop) .stop)) (.e 10 [0, 1, 2, 4, 5, 6] (.e 3 [5, 6] (.e 7 [] (sv [8] (.e 9 [] (.e 11 [] .done .stop) .stop)) .stop) .stop) .stop)))
def ycq : V.Sched := (sv [0, 1, 2, 4, 5, 6] (.e 3 [5, 6] (.e 7 [] (sv [8] (.e 9 [] (.e 10 [0, 1, 2, 4, 5, 6, 8] (.e 11 [] .done .stop) .stop) (.e 10 [0, 1, 2, 4, 5, 6, 8] (.e 9 [] (.e 11 [] .done .stop) .stop) .stop))) (.e 10 [0, 1, 2, 4, 5, 6] (.e 7 [] (sv [8] (.e 9 [] (.e 11 [] .done .stop) .stop)) .stop) .stop)) (.e 10 [0, 1, 2, 4, 5, 6] (.e 3 [5, 6] (.e 7 [] (sv [8] (.e 9 [] (.e 11 [] .done .stop) .stop)) .stop) .stop) .stop)))
def ycp : V.Sched := (sv [0, 1, 2, 3, 5, 6, 7, 8] (.e 4 [6, 8] (.e 9 [] (sv [10] (.e 11 [] .done .stop)) .stop) .stop))
def yco : V.Sched := (sv [0, 1, 2, 3, 4, 5, 6, 7] (.e 8 [6] (.e 9 [] .done .stop) .stop))
def ycn : V.Sched := (sv [0, 1, 2, 3, 4, 5, 6, 7, 8, 9] (.e 10 [7] (.e 11 [] .done .stop) .stop))
def ycm : V.Sched := (sv [0, 1, 2, 3, 4, 5, 6, 7, 8, 9, 10, 11] .done)
def yck : V.Sched := (sv [0, 1, 2, 3, 4, 5, 7] (.e 6 [0, 7] (.e 8 [] .done .stop) .stop))
def ycj : V.Sched := (sv [0, 1] (.e 2 [0] (.e 3 [] (sv [4] .done) .stop) .stop))
def yci : V.Sched := (sv [0, 1, 2, 3, 4, 5] (.e 6 [] (.e 7 [] .done .stop) .stop))
def ych : V.Sched := (sv [0, 1, 2, 3, 4, 5] (.e 6 [0] (sv [7] (.e 8 [] (.e 9 [] .done .stop) .stop)) .stop))
def ycg : V.Sched := (sv [0, 1, 2, 3, 4, 5, 6] (.e 7 [] (sv [8] (.e 9 [] .done .stop)) .stop))
def ycf : V.Sched := (sv [0, 1, 2, 3, 4, 5, 6, 7, 8, 9, 10, 11, 13, 14, 15, 16, 17, 18, 19, 20, 21, 22, 23, 24] (.e 12 [16, 21, 24] (.e 25 [] (sv [26] (.e 27 [] .done .stop)) .stop) .stop))
def yce : V.Sched := (sv [0, 1, 2, 3, 4, 5, 6, 7, 8, 9, 10, 11, 12, 13, 14, 15, 16, 17, 18, 19, 20, 21, 22, 23, 24, 25, 26, 27, 28, 29, 30, 31, 32, 33, 34, 35, 36, 37, 38] (.e 39 [] (sv [40, 41, 42, 43, 44, 45, 46] (.e 47 [] (sv [48, 49] .done) .stop)) .stop))
def ycd : V.Sched := (sv [0, 1, 2, 3, 4, 5, 6, 7, 8, 9, 10, 11, 12, 13] (.e 14 [] (sv [15] .done) .stop))
def ycc : V.Sched := (sv [0, 1, 2, 3, 4, 5, 6, 7, 8, 9, 10, 11, 12, 13, 14, 15, 16, 17, 18, 19, 20, 21, 22, 23, 24] (.e 25 [] (sv [26] (.e 27 [] .done .stop)) .stop))
def ycb : V.Sched := (sv [0, 1, 2, 3, 4, 5, 6, 7, 8, 9, 10, 11] (.e 12 [] .done .stop))
def zrd : V.Sched := (sv [0, 1, 2, 3, 4, 5, 6, 7, 8, 9, 10, 11, 12, 13, 14, 15, 16, 17, 18, 19] (.e 20 [] (sv [21] .done) .stop))
def zd9 : V.Sched := (sv [0, 1, 2, 3, 4, 5, 6, 7, 8, 9, 10, 11, 12, 13] (.e 14 [] (sv [15] .done) .stop))
def zd8 : V.Sched := (sv [0, 1, 2, 3, 4, 5, 6, 7, 8, 9, 10, 11, 12, 13, 14, 15, 16, 17, 18, 19, 20, 21, 22, 23, 24] (.e 25 [] (sv [26] (.e 27 [] .done .stop)) .stop))
def zbc : V.Sched := (sv [0, 1, 2, 3] (.e 4 [3] (.e 5 [] (.e 6 [] .done .stop) .stop) .stop))
def yca : V.Sched := (sv [0, 1, 2, 3, 4, 5] (.e 6 [] (.e 7 [] .done .stop) .stop))
def yb9 : V.Sched := (sv [0, 1, 2, 3, 4, 5, 6, 7] (.e 8 [6] (.e 9 [] .done .stop) .stop))
end Go.Proofs
namespace Go.Proofs
open Go Go.V
theorem zc : zv Tryz.prog infoTree.get := Tr.ok _ zl0
def cfg (n : Nat) (G : List Nat := []) (W : List Nat := []) : Cfg := { n := n, I := infoTree.get, G := G, W := W }
end Go.Proofs
namespace Go.Proofs
open Go Go.V
set_option maxRecDepth 20000 in
theorem zjt (n : Int) (st : Store) (R : AV → Store → Prop) (h : ∀ z : Bool, (z = true ↔ wd n) → R (bool z) st) : ACalls Tryz.prog 169 [int n] st R := by
 refine ACalls.of_body (c := cfg 9) zc Tryz.func169 (by rfl) (by rfl) (by rfl) (by rfl) ?_
 repeat' (first | refine bcd (fun _ => ?_) (fun _ => ?_) | refine zd (fun _ => ?_) (fun _ => ?_) | refine in64 (by omega) ?_ | fail)
 all_goals
  refine ret (h _ ?_)
  unfold wd
  simp only [decide_eq_true_eq, decide_eq_false_iff_not, Bool.false_eq_true, false_iff, true_iff, beq_iff_eq, bne_iff_ne, beq_eq_false_iff_ne, ne_eq, reduceCtorEq] at *
  omega
set_option maxRecDepth 20000 in
theorem zi4 (n : Int) (st : Store) (R : AV → Store → Prop) (h : ∀ z : Bool, (z = true ↔ 1 ≤ n ∧ n ≤ 128) → R (bool z) st) : ACalls Tryz.prog 193 [int n] st R := by
 refine ACalls.of_body (c := cfg 9) zc Tryz.func193 (by rfl) (by rfl) (by rfl) (by rfl) ?_
 repeat' (first | refine bcd (fun _ => ?_) (fun _ => ?_) | refine zd (fun _ => ?_) (fun _ => ?_) | refine in64 (by omega) ?_ | fail)
 all_goals
  refine ret (h _ ?_)
  simp only [decide_eq_true_eq, decide_eq_false_iff_not, Bool.false_eq_true, false_iff, true_iff, beq_iff_eq, bne_iff_ne, beq_eq_false_iff_ne, ne_eq, reduceCtorEq] at *
  omega
set_option maxRecDepth 20000 in
theorem zsa (n hi : Int) (st : Store) (R : AV → Store → Prop) (h : ∀ z : Bool, (z = true ↔ 0 ≤ n ∧ n ≤ hi) → R (bool z) st) : ACalls Tryz.prog 94 [int n, int hi] st R := by
 refine ACalls.of_body (c := cfg 12) zc Tryz.func94 (by rfl) (by rfl) (by rfl) (by rfl) ?_
 repeat' (first | refine bcd (fun _ => ?_) (fun _ => ?_) | refine zd (fun _ => ?_) (fun _ => ?_) | refine in64 (by omega) ?_ | fail)
 all_goals
  refine ret (h _ ?_)
  simp only [decide_eq_true_eq, decide_eq_false_iff_not, Bool.false_eq_true, false_iff, true_iff, beq_iff_eq, bne_iff_ne, beq_eq_false_iff_ne, ne_eq, reduceCtorEq] at *
  omega
set_option maxRecDepth 20000 in
theorem zo1 (p : Vc) (st : Store) (R : AV → Store → Prop) (h : ∀ z : Bool, (z = true ↔ qd p.1 p.2) → R (bool z) st) : ACalls Tryz.prog 220 [.agg (vecC p)] st R := by
 refine ACalls.of_body (c := cfg 21) zc Tryz.func220 (by rfl) (by rfl) (by rfl) (by rfl) ?_
 repeat' (first | refine bcd (fun _ => ?_) (fun _ => ?_) | refine zd (fun _ => ?_) (fun _ => ?_) | refine in64 (by omega) ?_ | fail)
 all_goals
  refine ret (h _ ?_)
  unfold qd
  simp only [decide_eq_true_eq, decide_eq_false_iff_not, Bool.false_eq_true, false_iff, true_iff, beq_iff_eq, bne_iff_ne, beq_eq_false_iff_ne, ne_eq, reduceCtorEq] at *
  omega
set_option maxRecDepth 20000 in
theorem zp5 (b : Bld) (st : Store) (R : AV → Store → Prop) (h : ∀ z : Bool, (z = true ↔ bldP b) → R (bool z) st) : ACalls Tryz.prog 196 [.agg (bldC b)] st R := by
 refine ACalls.of_body (c := cfg 41) zc Tryz.func196 (by rfl) (by rfl) (by rfl) (by rfl) ?_
 repeat' (first | refine bcd (fun _ => ?_) (fun _ => ?_) | refine zd (fun _ => ?_) (fun _ => ?_) | refine in64 (by omega) ?_ | fail)
 all_goals
  refine ret (h _ ?_)
  unfold bldP
  simp only [decide_eq_true_eq, decide_eq_false_iff_not, Bool.false_eq_true, false_iff, true_iff, beq_iff_eq, bne_iff_ne, beq_eq_false_iff_ne, ne_eq, reduceCtorEq] at *
  omega
set_option maxRecDepth 20000 in
theorem zof (b : Bld) (st : Store) (R : AV → Store → Prop) (h : ∀ z : Bool, (z = true ↔ bldP b) → R (bool z) st) : ACalls Tryz.prog 152 [.agg (bldC b)] st R := by
 refine ACalls.of_body (c := cfg 41) zc Tryz.func152 (by rfl) (by rfl) (by rfl) (by rfl) ?_
 repeat' (first | refine bcd (fun _ => ?_) (fun _ => ?_) | refine zd (fun _ => ?_) (fun _ => ?_) | refine in64 (by omega) ?_ | fail)
 all_goals
  refine ret (h _ ?_)
  unfold bldP
  simp only [decide_eq_true_eq, decide_eq_false_iff_not, Bool.false_eq_true, false_iff, true_iff, beq_iff_eq, bne_iff_ne, beq_eq_false_iff_ne, ne_eq, reduceCtorEq] at *
  omega
set_option maxRecDepth 20000 in
theorem yeq (g : Gnd) (b : Bld) (hg : gndP g) (hb : bldP b) (st : Store) (R : AV → Store → Prop) (h : ∀ z : Bool, (z = true ↔ onP g b) → R (bool z) st) : ACalls Tryz.prog 197 [.agg (gndC g), .agg (bldC b)] st R := by
 obtain ⟨h1, h2, _, _⟩ := hg; obtain ⟨_, _, h3, h4⟩ := hb
 refine ACalls.of_body (c := cfg 33) zc Tryz.func197 (by rfl) (by rfl) (by rfl) (by rfl) ?_
 repeat' (first | refine bcd (fun _ => ?_) (fun _ => ?_) | refine zd (fun _ => ?_) (fun _ => ?_) | refine in64 (by omega) ?_ | fail)
 all_goals
  refine ret (h _ ?_)
  unfold onP
  simp only [decide_eq_true_eq, decide_eq_false_iff_not, Bool.false_eq_true, false_iff, true_iff, beq_iff_eq, bne_iff_ne, beq_eq_false_iff_ne, ne_eq, reduceCtorEq] at *
  omega
set_option maxRecDepth 20000 in
theorem ydp (g : Gnd) (b : Bld) (hg : gndP g) (hb : bldP b) (st : Store) (R : AV → Store → Prop) (h : ∀ z : Bool, (z = true ↔ onP g b) → R (bool z) st) : ACalls Tryz.prog 153 [.agg (gndC g), .agg (bldC b)] st R := by
 obtain ⟨h1, h2, _, _⟩ := hg; obtain ⟨_, _, h3, h4⟩ := hb
 refine ACalls.of_body (c := cfg 47) zc Tryz.func153 (by rfl) (by rfl) (by rfl) (by rfl) ?_
 repeat' (first | refine bcd (fun _ => ?_) (fun _ => ?_) | refine zd (fun _ => ?_) (fun _ => ?_) | refine in64 (by omega) ?_ | fail)
 all_goals
  refine ret (h _ ?_)
  unfold onP
  simp only [decide_eq_true_eq, decide_eq_false_iff_not, Bool.false_eq_true, false_iff, true_iff, beq_iff_eq, bne_iff_ne, beq_eq_false_iff_ne, ne_eq, reduceCtorEq] at *
  omega
set_option maxRecDepth 20000 in
theorem yi7 (g : Gnd) (t : Int) (hg : gndP g) (st : Store) (R : AV → Store → Prop) (h : ∀ z : Bool, (z = true ↔ 0 ≤ t ∧ t < g.W * g.H) → R (bool z) st) : ACalls Tryz.prog 201 [.agg (gndC g), int t] st R := by
 have hm := zt hg
 refine ACalls.of_body (c := cfg 16) zc Tryz.func201 (by rfl) (by rfl) (by rfl) (by rfl) ?_
 repeat' (first | refine bcd (fun _ => ?_) (fun _ => ?_) | refine zd (fun _ => ?_) (fun _ => ?_) | refine in64 (by omega) ?_ | fail)
 all_goals
  refine ret (h _ ?_)
  simp only [decide_eq_true_eq, decide_eq_false_iff_not, Bool.false_eq_true, false_iff, true_iff, beq_iff_eq, bne_iff_ne, beq_eq_false_iff_ne, ne_eq, reduceCtorEq] at *
  omega
set_option maxRecDepth 20000 in
theorem zf0 (g : Gnd) (t : Int) (hg : gndP g) (st : Store) (R : AV → Store → Prop) (h : ∀ z : Bool, (z = true ↔ 0 ≤ t ∧ t < g.W * g.H) → R (bool z) st) : ACalls Tryz.prog 96 [.agg (gndC g), int t] st R := by
 have hm := zt hg
 refine ACalls.of_body (c := cfg 16) zc Tryz.func96 (by rfl) (by rfl) (by rfl) (by rfl) ?_
 repeat' (first | refine bcd (fun _ => ?_) (fun _ => ?_) | refine zd (fun _ => ?_) (fun _ => ?_) | refine in64 (by omega) ?_ | fail)
 all_goals
  refine ret (h _ ?_)
  simp only [decide_eq_true_eq, decide_eq_false_iff_not, Bool.false_eq_true, false_iff, true_iff, beq_iff_eq, bne_iff_ne, beq_eq_false_iff_ne, ne_eq, reduceCtorEq] at *
  omega
set_option maxRecDepth 20000 in
theorem zg1 (g : Gnd) (t : Int) (hg : gndP g) (st : Store) (R : AV → Store → Prop) (h : ∀ z : Bool, (z = true ↔ vw g t) → R (bool z) st) : ACalls Tryz.prog 170 [.agg (gndC g), int t] st R := by
 refine ACalls.of_body (c := cfg 12) zc Tryz.func170 (by rfl) (by rfl) (by rfl) (by rfl) ?_
 repeat' (first | refine bcd (fun _ => ?_) (fun _ => ?_) | refine zd (fun _ => ?_) (fun _ => ?_) | refine in64 (by omega) ?_ | (refine yi7 _ _ hg _ _ ?_; rintro (_ | _) hz)| fail)
 all_goals
  refine ret (h _ ?_)
  unfold vw
  simp only [decide_eq_true_eq, decide_eq_false_iff_not, Bool.false_eq_true, false_iff, true_iff, beq_iff_eq, bne_iff_ne, beq_eq_false_iff_ne, ne_eq, reduceCtorEq] at *
  omega
set_option maxRecDepth 20000 in
theorem zpj (g : Gnd) (l : List Bld) (st : Store) (R : AV → Store → Prop) (h : ∀ z : Bool, (z = true ↔ g.T.length > 700 ∨ l.length > 30) → R (bool z) st) : ACalls Tryz.prog 84 [.agg (gndC g), lst 6 bldC l] st R := by
 refine ACalls.of_body (c := cfg 14) zc Tryz.func84 (by rfl) (by rfl) (by rfl) (by rfl) ?_
 repeat' (first | refine bcd (fun _ => ?_) (fun _ => ?_) | refine zd (fun _ => ?_) (fun _ => ?_) | refine in64 (by omega) ?_ | fail)
 all_goals
  refine ret (h _ ?_)
  simp only [decide_eq_true_eq, decide_eq_false_iff_not, Bool.false_eq_true, false_iff, true_iff, beq_iff_eq, bne_iff_ne, beq_eq_false_iff_ne, ne_eq, reduceCtorEq, zi] at *
  omega
set_option maxRecDepth 20000 in
theorem zer (w : Wld) (st : Store) (R : AV → Store → Prop) (h : ∀ z : Bool, (z = true ↔ zj1 w) → R (bool z) st) : ACalls Tryz.prog 39 [.agg (wldC w)] st R := by
 refine ACalls.of_body (c := cfg 14) zc Tryz.func39 (by rfl) (by rfl) (by rfl) (by rfl) ?_
 repeat' (first | refine bcd (fun _ => ?_) (fun _ => ?_) | refine zd (fun _ => ?_) (fun _ => ?_) | refine in64 (by omega) ?_ | (refine zpj w.G w.B _ _ ?_; rintro (_ | _) hz)| fail)
 all_goals
  refine ret (h _ ?_)
  unfold zj1
  simp only [decide_eq_true_eq, decide_eq_false_iff_not, Bool.false_eq_true, false_iff, true_iff, beq_iff_eq, bne_iff_ne, beq_eq_false_iff_ne, ne_eq, reduceCtorEq, zi] at *
  omega
set_option maxRecDepth 20000 in
theorem zqb (w : Wld) (u : Unt) (hg : gndP w.G) (st : Store) (R : AV → Store → Prop) (h : ∀ z : Bool, (z = true ↔ untP w u) → R (bool z) st) : ACalls Tryz.prog 114 [.agg (wldC w), .agg (untC u)] st R := by
 refine ACalls.of_body (c := cfg 90) zc Tryz.func114 (by rfl) (by rfl) (by rfl) (by rfl) ?_
 repeat' (first | refine bcd (fun _ => ?_) (fun _ => ?_) | refine zd (fun _ => ?_) (fun _ => ?_) | refine in64 (by omega) ?_ | (refine zjt u.kind _ _ ?_; rintro (_ | _) hz)| (refine zg1 w.G u.goal hg _ _ ?_; rintro (_ | _) hz)| (refine zg1 w.G u.next hg _ _ ?_; rintro (_ | _) hz)| fail)
 all_goals
  refine ret (h _ ?_)
  simp only [decide_eq_true_eq, decide_eq_false_iff_not, Bool.false_eq_true, false_iff, true_iff, beq_iff_eq, bne_iff_ne, beq_eq_false_iff_ne, ne_eq, reduceCtorEq, untP, wd, vw] at *
  first | omega | (clear h; rcases Decidable.em (u.state = 1) with e1 | e1 <;> rcases Decidable.em (u.goal = -1) with e2 | e2 <;> simp [bne, beqD, e1, e2] at * <;> omega)
end Go.Proofs
namespace Go.Proofs
open Go Go.V
theorem zk9 {t : UInt8} (h : t.toNat ≤ 5) : t = 0 ∨ t = 1 ∨ t = 2 ∨ t = 3 ∨ t = 4 ∨ t = 5 := by
 have : t.toNat = (0 : UInt8).toNat ∨ t.toNat = (1 : UInt8).toNat ∨ t.toNat = (2 : UInt8).toNat ∨ t.toNat = (3 : UInt8).toNat ∨ t.toNat = (4 : UInt8).toNat ∨ t.toNat = (5 : UInt8).toNat := by
  show t.toNat = 0 ∨ t.toNat = 1 ∨ t.toNat = 2 ∨ t.toNat = 3 ∨ t.toNat = 4 ∨ t.toNat = 5
  omega
 simpa only [UInt8.toNat_inj] using this
theorem z7 (k : Int) (st : Store) (R : AV → Store → Prop) (h : R (.agg (zen k)) st) : ACalls Tryz.prog 137 [int k] st R := by
 refine ACalls.of_body (c := cfg 14) zc Tryz.func137 (by rfl) (by rfl) (by rfl) (by rfl) ?_
 unfold zen kRad j7 kCls q9 ku at h
 refine bceq (fun h1 => ?_) (fun h1 => ?_)
 ·simp only [h1] at h
  exact ret h
 refine bceq (fun h2 => ?_) (fun h2 => ?_)
 ·simp only [h2] at h
  exact ret h
 refine bceq (fun h3 => ?_) (fun h3 => ?_)
 ·simp only [h3] at h
  exact ret h
 simp only [h1, h2, h3, if_false] at h
 exact ret h
theorem znl (k : Int) (st : Store) (R : AV → Store → Prop) (h : wd k → R (.tup [.agg (zen k), bool true]) st) (h' : ¬ wd k → R (.tup [.agg [int 0, int 0, int 0, int 0, int 0], bool false]) st) : ACalls Tryz.prog 61 [int k] st R := by
 refine ACalls.of_body (c := cfg 18) zc Tryz.func61 (by rfl) (by rfl) (by rfl) (by rfl) ?_
 unfold zen kRad j7 kCls q9 ku wd at h
 refine bceq (fun h1 => ?_) (fun h1 => ?_)
 ·simp only [h1] at h
  exact ret (h (by decide))
 refine bceq (fun h2 => ?_) (fun h2 => ?_)
 ·simp only [h2] at h
  exact ret (h (by decide))
 refine bceq (fun h3 => ?_) (fun h3 => ?_)
 ·simp only [h3] at h
  exact ret (h (by decide))
 refine bceq (fun h4 => ?_) (fun h4 => ?_)
 ·simp only [h4] at h
  exact ret (h (by decide))
 exact ret (h' (by unfold wd; omega))
theorem ww (k : Int) (hk : wd k) (st : Store) (R : AV → Store → Prop) (h : R (.agg (zen k)) st) : ACalls Tryz.prog 23 [int k] st R := by
 refine ACalls.of_body (c := cfg 11) zc Tryz.func23 (by rfl) (by rfl) (by rfl) (by rfl) ?_
 refine znl k _ _ (fun _ => ret h) (fun h1 => absurd hk h1)
theorem zb8 (c : Int) (t : UInt8) (ht : t.toNat ≤ 5) (st : Store) (R : AV → Store → Prop) (h : R (int (zaf c t.toNat)) st) : ACalls Tryz.prog 222 [int c, u8 t] st R := by
 refine ACalls.of_body (c := cfg 17) zc Tryz.func222 (by rfl) (by rfl) (by rfl) (by rfl) ?_
 unfold zaf at h
 have hn := zk9 ht
 refine bceq (fun h1 => ?_) (fun h1 => ?_)
 ·rw [if_pos h1] at h
  rcases hn with rfl | rfl | rfl | rfl | rfl | rfl <;> exact ⟨_, rfl, by decide, optR (ret h)⟩
 refine bceq (fun h2 => ?_) (fun h2 => ?_)
 ·rw [if_neg h1, if_pos h2] at h
  rcases hn with rfl | rfl | rfl | rfl | rfl | rfl <;> exact ⟨_, rfl, by decide, optR (ret h)⟩
 rw [if_neg h1, if_neg h2] at h
 rcases hn with rfl | rfl | rfl | rfl | rfl | rfl <;> exact ⟨_, rfl, by decide, optR (ret h)⟩
theorem zt5 (c : Int) (hc : c = 0 ∨ c = 1 ∨ c = 2) (t : UInt8) (ht : t.toNat ≤ 5) (st : Store) (R : AV → Store → Prop) (h : R (int (zaf c t.toNat)) st) : ACalls Tryz.prog 157 [int c, u8 t] st R := by
 refine ACalls.of_body (c := cfg 15) zc Tryz.func157 (by rfl) (by rfl) (by rfl) (by rfl) ?_
 unfold zaf at h
 have hn := zk9 ht
 rcases hc with rfl | rfl | rfl <;> rcases hn with rfl | rfl | rfl | rfl | rfl | rfl <;> exact ⟨_, rfl, by decide, _, rfl, by decide, optR (ret h)⟩
end Go.Proofs
namespace Go.Proofs
open Go Go.V
theorem js (n : Int) (st : Store) (R : AV → Store → Prop) (h : R (int (nrm n)) st) : ACalls Tryz.prog 159 [int n] st R := by
 refine ACalls.of_body (c := cfg 5) zc Tryz.func159 (by rfl) (by rfl) (by rfl) (by rfl) ?_
 rw [← ykv] at h
 exact ret h
theorem ydv (n : Int) (hn : zz n) (st : Store) (R : AV → Store → Prop) (h : R (int (-nrm n)) st) : ACalls Tryz.prog 212 [int n] st R := by
 refine ACalls.of_body (c := cfg 6) zc Tryz.func212 (by rfl) (by rfl) (by rfl) (by rfl) ?_
 refine js n _ _ ?_
 have := kl hn
 refine ⟨⟨by omega, by omega⟩, ?_⟩
 rw [show -nrm n = 0 - nrm n by omega] at h
 exact ret h
theorem ki (a b : Int) (ha : zz a) (hb : zz b) (st : Store) (R : AV → Store → Prop) (h : R (int (fadd a b)) st) : ACalls Tryz.prog 160 [int a, int b] st R := by
 refine ACalls.of_body (c := cfg 30) zc Tryz.func160 (by rfl) (by rfl) (by rfl) (by rfl) ?_
 refine js a _ _ ?_
 refine js b _ _ ?_
 have h1 := kl ha
 have h2 := kl hb
 unfold fadd at h
 generalize nrm a = x at *
 generalize nrm b = y at *
 have k1 : x + y > 9223372036854775807 → R (int 9223372036854775807) st := fun hh => by rw [show xo (x + y) = 9223372036854775807 by unfold xo; simp [hh]] at h; exact h
 have k2 : x + y < -9223372036854775807 → R (int (-9223372036854775807)) st := fun hh => by rw [show xo (x + y) = -9223372036854775807 by unfold xo; rw [if_neg (by omega), if_pos hh]] at h; exact h
 have k3 : ¬ x + y > 9223372036854775807 → ¬ x + y < -9223372036854775807 → zz (x + y) ∧ R (int (x + y)) st := fun hh hh' => ⟨⟨by omega, by omega⟩, by rw [show xo (x + y) = x + y by unfold xo; rw [if_neg hh, if_neg hh']] at h; exact h⟩
 have fin : ¬ x + y > 9223372036854775807 → ¬ x + y < -9223372036854775807 → zz (x + y) ∧ ∃ r st', AV.le (int (x + y)) r ∧ st.Has st' ∧ R r st' := fun hh hh' => ⟨(k3 hh hh').1, ret (k3 hh hh').2⟩
 have e : Int.negSucc 9223372036854775806 = -9223372036854775807 := rfl
 refine bcd (fun c1 => ?_) (fun c1 => ?_)
 ·refine ⟨⟨by omega, by omega⟩, ?_⟩
  refine bcd (fun c2 => ?_) (fun c2 => ?_)
  ·exact ret (k1 (by omega))
  ·refine bcd (fun c3 => ?_) (fun c3 => ?_)
   ·omega
   ·exact fin (by omega) (by omega)
 ·refine bcd (fun c3 => ?_) (fun c3 => ?_)
  ·refine ⟨⟨by omega, by omega⟩, ?_⟩
   refine bcd (fun c4 => ?_) (fun c4 => ?_)
   ·exact ret (k2 (by omega))
   ·exact fin (by omega) (by omega)
  ·exact fin (by omega) (by omega)
theorem j3 (a b : Int) (ha : zz a) (hb : zz b) (st : Store) (R : AV → Store → Prop) (h : R (int (fsub a b)) st) : ACalls Tryz.prog 183 [int a, int b] st R := by
 refine ACalls.of_body (c := cfg 9) zc Tryz.func183 (by rfl) (by rfl) (by rfl) (by rfl) ?_
 refine ydv b hb _ _ ?_
 have h2 := kl hb
 exact ki a (-nrm b) ha ⟨by omega, by omega⟩ _ _ (ret h)
theorem zid (n : Int) (hn : zz n) (st : Store) (R : AV → Store → Prop) (h : R (.tup [u64 (asz n), bool (decide (nrm n < 0))]) st) : ACalls Tryz.prog 214 [int n] st R := by
 refine ACalls.of_body (c := cfg 13) zc Tryz.func214 (by rfl) (by rfl) (by rfl) (by rfl) ?_
 refine js n _ _ ?_
 have h1 := kl hn
 unfold asz at h
 generalize nrm n = x at *
 refine bcd (fun c1 => ?_) (fun c1 => ?_)
 ·refine ⟨⟨by omega, by omega⟩, ?_⟩
  rw [if_pos c1, show decide (x < 0) = true by simp [c1]] at h
  rw [← qj (v := -x) (by omega) (by omega), show -x = 0 - x by omega] at h
  exact ret h
 ·rw [if_neg c1, show decide (x < 0) = false by simp [c1]] at h
  rw [← qj (v := x) (by omega) (by omega)] at h
  exact ret h
set_option maxHeartbeats 1000000 in
theorem zcd (x y : Int) (hx : 0 ≤ x) (hx2 : x < 18446744073709551616) (hy : 0 ≤ y) (hy2 : y < 18446744073709551616) (st : Store) (R : AV → Store → Prop) (h : R (.tup (jb (x * y))) st) :
  ACalls Tryz.prog 215 [u64 x, u64 y] st R := by
 refine ACalls.of_body (c := cfg 51) zc Tryz.func215 (by rfl) (by rfl) (by rfl) (by rfl) ?_
 refine ⟨by decide, ?_⟩
 refine ⟨by decide, ?_⟩
 refine ⟨by decide, ?_⟩
 refine ⟨by decide, ?_⟩
 refine ⟨by decide, ?_⟩
 refine ret ((congrArg (fun l => R (.tup l) st) ?_).mpr h)
 obtain ⟨p00, p10, p01, p11, e1, e2, e3, e4, e5, b⟩ := zdy x y hx hx2 hy hy2
 simp only [ylj, zqa hx, zqa hy, vq, ← e1, ← e2, ← e3, ← e4]
 rw [zqa (Int.emod_nonneg _ (by decide))]
 unfold jb u64
 refine congr (congrArg _ ?_) rfl
 refine congrArg (fun n => AV.s (.int .u64 n)) ?_
 omega
set_option maxHeartbeats 1000000 in
theorem zb1 (x y : Int) (hx : 0 ≤ x) (hx2 : x < 18446744073709551616) (hy : 0 ≤ y) (hy2 : y < 18446744073709551616) (st : Store) (R : AV → Store → Prop) (h : R (.agg (jb (x * y))) st) :
  ACalls Tryz.prog 100 [u64 x, u64 y] st R := by
 refine ACalls.of_body (c := cfg 46) zc Tryz.func100 (by rfl) (by rfl) (by rfl) (by rfl) ?_
 refine ⟨by decide, ?_⟩
 refine ⟨by decide, ?_⟩
 refine ⟨by decide, ?_⟩
 refine ⟨by decide, ?_⟩
 refine ⟨by decide, ?_⟩
 refine ⟨by decide, ?_⟩
 refine ⟨by decide, ?_⟩
 refine ⟨by decide, ?_⟩
 refine ret ((congrArg (fun l => R (.agg l) st) ?_).mpr h)
 obtain ⟨p00, p10, p01, p11, e1, e2, e3, e4, e5, b⟩ := zdy x y hx hx2 hy hy2
 simp only [yln, yk8, zqa hx, zqa hy, vq, ← e1, ← e2, ← e3, ← e4]
 simp only [zqa (Int.emod_nonneg _ (show (18446744073709551616 : Int) ≠ 0 by decide))]
 rw [or32 (Int.emod_nonneg _ (by decide)) (Int.emod_nonneg _ (by decide)) (by omega)]
 refine zg5 ?_ ?_
 ·omega
 ·omega
theorem kf (x : Int) (hx : 0 ≤ x) (hx2 : x < 18446744073709551616) (st : Store) (R : AV → Store → Prop) (h : R (.agg (jb (x * x))) st) : ACalls Tryz.prog 211 [u64 x] st R := by
 refine ACalls.of_body (c := cfg 14) zc Tryz.func211 (by rfl) (by rfl) (by rfl) (by rfl) ?_
 exact zcd x x hx hx2 hx hx2 _ _ (ret h)
theorem zgz (a b : Int) (ha : 0 ≤ a) (hb : 0 ≤ b) (st : Store) (R : AV → Store → Prop) (h : R (bool (decide (a < b))) st) : ACalls Tryz.prog 210 [.agg (jb a), .agg (jb b)] st R := by
 refine ACalls.of_body (c := cfg 24) zc Tryz.func210 (by rfl) (by rfl) (by rfl) (by rfl) ?_
 refine bcd (fun c1 => ?_) (fun c1 => ?_)
 ·exact ret (isT h (by simp; omega))
 ·refine bceq (fun c2 => ?_) (fun c2 => ?_)
  ·refine ret ?_
   have : decide (a < b) = decide (a % 18446744073709551616 < b % 18446744073709551616) := by
    rw [Bool.eq_iff_iff]; simp; omega
   rw [this] at h; exact h
  ·exact ret (isF h (by simp; omega))
theorem zss (a b : Int) (ha : 0 ≤ a) (hb : 0 ≤ b) (st : Store) (R : AV → Store → Prop) (h : R (bool (decide (a < b))) st) : ACalls Tryz.prog 99 [.agg (jb a), .agg (jb b)] st R := by
 refine ACalls.of_body (c := cfg 24) zc Tryz.func99 (by rfl) (by rfl) (by rfl) (by rfl) ?_
 refine bcd (fun c1 => ?_) (fun c1 => ?_)
 ·exact ret (isT h (by simp; omega))
 ·refine bceq (fun c2 => ?_) (fun c2 => ?_)
  ·refine ret ?_
   have : decide (a < b) = decide (a % 18446744073709551616 < b % 18446744073709551616) := by
    rw [Bool.eq_iff_iff]; simp; omega
   rw [this] at h; exact h
  ·exact ret (isF h (by simp; omega))
theorem wv (n : Int) (st : Store) (R : AV → Store → Prop) (h : R (int (nrm n)) st) : ACalls Tryz.prog 65 [int n] st R := by
 refine ACalls.of_body (c := cfg 6) zc Tryz.func65 (by rfl) (by rfl) (by rfl) (by rfl) ?_
 refine bcd (fun c1 => ?_) (fun c1 => ?_)
 ·rw [show nrm n = -9223372036854775807 by unfold nrm; rw [if_pos c1]] at h; exact ret h
 ·rw [show nrm n = n by unfold nrm; rw [if_neg c1]] at h; exact ret h
theorem zrk (n : Int) (hn : zz n) (st : Store) (R : AV → Store → Prop) (h : R (int (-nrm n)) st) : ACalls Tryz.prog 104 [int n] st R := by
 refine ACalls.of_body (c := cfg 6) zc Tryz.func104 (by rfl) (by rfl) (by rfl) (by rfl) ?_
 refine wv n _ _ ?_
 have := kl hn
 refine ⟨⟨by omega, by omega⟩, ?_⟩
 rw [show -nrm n = 0 - nrm n by omega] at h
 exact ret h
theorem zrs (a b : Int) (ha : zz a) (hb : zz b) (st : Store) (R : AV → Store → Prop) (h : R (int (fadd a b)) st) : ACalls Tryz.prog 103 [int a, int b] st R := by
 refine ACalls.of_body (c := cfg 28) zc Tryz.func103 (by rfl) (by rfl) (by rfl) (by rfl) ?_
 refine wv a _ _ ?_
 refine wv b _ _ ?_
 have h1 := kl ha
 have h2 := kl hb
 unfold fadd at h
 generalize nrm a = x at *
 generalize nrm b = y at *
 have k1 : x + y > 9223372036854775807 → R (int 9223372036854775807) st := fun hh => by rw [show xo (x + y) = 9223372036854775807 by unfold xo; simp [hh]] at h; exact h
 have k2 : x + y < -9223372036854775807 → R (int (-9223372036854775807)) st := fun hh => by rw [show xo (x + y) = -9223372036854775807 by unfold xo; rw [if_neg (by omega), if_pos hh]] at h; exact h
 have k3 : ¬ x + y > 9223372036854775807 → ¬ x + y < -9223372036854775807 → zz (x + y) ∧ R (int (x + y)) st := fun hh hh' => ⟨⟨by omega, by omega⟩, by rw [show xo (x + y) = x + y by unfold xo; rw [if_neg hh, if_neg hh']] at h; exact h⟩
 have fin : ¬ x + y > 9223372036854775807 → ¬ x + y < -9223372036854775807 → zz (x + y) ∧ ∃ r st', AV.le (int (x + y)) r ∧ st.Has st' ∧ R r st' := fun hh hh' => ⟨(k3 hh hh').1, ret (k3 hh hh').2⟩
 refine bcd (fun c1 => ?_) (fun c1 => ?_)
 ·refine ⟨⟨by omega, by omega⟩, ?_⟩
  refine bcd (fun c2 => ?_) (fun c2 => ?_)
  ·exact ret (k1 (by omega))
  ·refine bcd (fun c3 => ?_) (fun c3 => ?_)
   ·omega
   ·exact fin (by omega) (by omega)
 ·refine bcd (fun c3 => ?_) (fun c3 => ?_)
  ·refine ⟨⟨by omega, by omega⟩, ?_⟩
   refine bcd (fun c4 => ?_) (fun c4 => ?_)
   ·exact ret (k2 (by omega))
   ·exact fin (by omega) (by omega)
  ·exact fin (by omega) (by omega)
theorem zi6 (a b : Int) (ha : zz a) (hb : zz b) (st : Store) (R : AV → Store → Prop) (h : R (int (fsub a b)) st) : ACalls Tryz.prog 60 [int a, int b] st R := by
 refine ACalls.of_body (c := cfg 9) zc Tryz.func60 (by rfl) (by rfl) (by rfl) (by rfl) ?_
 refine zrk b hb _ _ ?_
 have h2 := kl hb
 exact zrs a (-nrm b) ha ⟨by omega, by omega⟩ _ _ (ret h)
theorem zf7 (n : Int) (hn : -9223372036854775807 ≤ n ∧ n ≤ 9223372036854775807) (st : Store) (R : AV → Store → Prop) (h : R (u64 (asz n)) st) : ACalls Tryz.prog 101 [int n] st R := by
 refine ACalls.of_body (c := cfg 10) zc Tryz.func101 (by rfl) (by rfl) (by rfl) (by rfl) ?_
 unfold asz at h
 rw [qe (by omega)] at h
 refine bcd (fun c1 => ?_) (fun c1 => ?_)
 ·refine ⟨⟨by omega, by omega⟩, ?_⟩
  rw [if_pos c1, ← qj (v := -n) (by omega) (by omega), show -n = 0 - n by omega] at h
  exact ret h
 ·rw [if_neg c1, ← qj (v := n) (by omega) (by omega)] at h
  exact ret h
theorem zok (a b : Int) (ha : 0 ≤ a) (hb : 0 ≤ b) (hab : a + b < 340282366920938463463374607431768211456) (st : Store) (R : AV → Store → Prop) (h : R (.agg (jb (a + b))) st) : ACalls Tryz.prog 102 [.agg (jb a), .agg (jb b)] st R := by
 refine ACalls.of_body (c := cfg 27) zc Tryz.func102 (by rfl) (by rfl) (by rfl) (by rfl) ?_
 refine bcd (fun c1 => ?_) (fun c1 => ?_)
 ·refine ret ((congrArg (fun l => R (.agg l) st) ?_).mpr h)
  simp only [vq] at c1 ⊢
  refine zg5 ?_ ?_
  ·omega
  ·omega
 ·refine ret ((congrArg (fun l => R (.agg l) st) ?_).mpr h)
  simp only [vq] at c1 ⊢
  refine zg5 ?_ ?_
  ·omega
  ·omega
end Go.Proofs
namespace Go.Proofs
open Go Go.V
theorem zg3 (x y c : Int) (hx : 0 ≤ x) (hy : 0 ≤ y) (hc : 0 ≤ c) (hc1 : c ≤ 1) (st : Store) (R : AV → Store → Prop) (h : R (.tup [u64 ((x + y + c) % 18446744073709551616), u64 ((x + y + c) / 18446744073709551616)]) st) :
  ACalls Tryz.prog 242 [u64 x, u64 y, u64 c] st R := by
 obtain ⟨a, rfl⟩ := Int.eq_ofNat_of_zero_le hx
 obtain ⟨b, rfl⟩ := Int.eq_ofNat_of_zero_le hy
 obtain ⟨d, rfl⟩ := Int.eq_ofNat_of_zero_le hc
 exact zuq Tryz.laysNm725 a b d (by omega) h
theorem zn4 (a b : Int) (ha : 0 ≤ a) (hb : 0 ≤ b) (hab : a + b < 340282366920938463463374607431768211456) (st : Store) (R : AV → Store → Prop) (h : R (.agg (jb (a + b))) st) : ACalls Tryz.prog 228 [.agg (jb a), .agg (jb b)] st R := by
 refine ACalls.of_body (c := cfg 29) zc Tryz.func228 (by rfl) (by rfl) (by rfl) (by rfl) ?_
 refine zg3 (a % 18446744073709551616) (b % 18446744073709551616) 0 (by omega) (by omega) (by omega) (by omega) _ _ ?_
 refine zg3 (a / 18446744073709551616) (b / 18446744073709551616) ((a % 18446744073709551616 + b % 18446744073709551616 + 0) / 18446744073709551616) (by omega) (by omega) (by omega) (by omega) _ _ ?_
 refine ret ((congrArg (fun l => R (.agg l) st) ?_).mpr h)
 refine zg5 ?_ ?_
 ·omega
 ·omega
theorem zq1 {v : Vc} (h : v.ok) : 0 ≤ asz v.1 * asz v.1 ∧ 0 ≤ asz v.2 * asz v.2 ∧ asz v.1 * asz v.1 ≤ 85070591730234615847396907784232501249 ∧ asz v.2 * asz v.2 ≤ 85070591730234615847396907784232501249 := by
 obtain ⟨h1, h2⟩ := h
 have a1 := zkv h1
 have a2 := zkv h2
 have b : ∀ x : Int, 0 ≤ x → x ≤ 9223372036854775807 → 0 ≤ x * x ∧ x * x ≤ 85070591730234615847396907784232501249 := by
  intro x h3 h4
  refine ⟨Int.mul_nonneg h3 h3, ?_⟩
  have h5 : x * x ≤ 9223372036854775807 * 9223372036854775807 := Int.mul_le_mul h4 h4 h3 (by decide)
  exact h5
 have b1 := b _ a1.1 a1.2
 have b2 := b _ a2.1 a2.2
 exact ⟨b1.1, b2.1, b1.2, b2.2⟩
theorem zd1 (v : Vc) (hv : v.ok) (st : Store) (R : AV → Store → Prop) (h : R (.agg (jb (sqr v))) st) : ACalls Tryz.prog 209 [.agg (vecC v)] st R := by
 refine ACalls.of_body (c := cfg 24) zc Tryz.func209 (by rfl) (by rfl) (by rfl) (by rfl) ?_
 have a1 := zkv hv.1
 have a2 := zkv hv.2
 have b := zq1 hv
 refine zid v.1 hv.1 _ _ ?_
 refine zid v.2 hv.2 _ _ ?_
 refine kf (asz v.1) (by omega) (by omega) _ _ ?_
 refine kf (asz v.2) (by omega) (by omega) _ _ ?_
 exact zn4 _ _ (by omega) (by omega) (by omega) _ _ (ret h)
theorem zdt (a b : Vc) (ha : a.ok) (hb : b.ok) (st : Store) (R : AV → Store → Prop) (h : R (.agg (vecC (vsub a b))) st) : ACalls Tryz.prog 182 [.agg (vecC a), .agg (vecC b)] st R := by
 refine ACalls.of_body (c := cfg 16) zc Tryz.func182 (by rfl) (by rfl) (by rfl) (by rfl) ?_
 refine ADraw.of_sched zc (by rfl) (by rfl) ycp (by rfl) ?_
 refine ⟨j3 a.1 b.1 ha.1 hb.1 _ _ ⟨(by repeat (first | exact trivial | refine ⟨rfl, ?_⟩ | refine ⟨optR (optR (optR (za _ (zb _ _ _) rfl))), ?_⟩)), ?_⟩, trivial⟩
 refine ⟨j3 a.2 b.2 ha.2 hb.2 _ _ ⟨(by repeat (first | exact trivial | refine ⟨rfl, ?_⟩ | refine ⟨optR (optR (optR (za _ (zb _ _ _) rfl))), ?_⟩)), ?_⟩, trivial⟩
 refine ⟨⟨(by repeat (first | exact trivial | refine ⟨rfl, ?_⟩ | refine ⟨optR (optR (optR (za _ (zb _ _ _) rfl))), ?_⟩)), ?_⟩, trivial⟩
 exact ret h
theorem zdu (a b : Vc) : (vsub a b).ok := ⟨wi _ _, wi _ _⟩
theorem wo (a b : Vc) (r : Int) (ha : a.ok) (hb : b.ok) (hr : r ≤ 9223372036854775807) (st : Store) (R : AV → Store → Prop) (h : R (bool (near a b r)) st) : ACalls Tryz.prog 181 [.agg (vecC a), .agg (vecC b), int r] st R := by
 refine ACalls.of_body (c := cfg 17) zc Tryz.func181 (by rfl) (by rfl) (by rfl) (by rfl) ?_
 unfold near at h
 refine bcd (fun c1 => ?_) (fun c1 => ?_)
 ·exact ret (isF h (by simp; omega))
 ·have hb2 := zq1 (zdu a b)
  refine zdt a b ha hb _ _ ?_
  refine zd1 _ (zdu a b) _ _ ?_
  refine ((congrArg (fun n => ACalls Tryz.prog 211 [.s (.int .u64 n)] st _) (qj (v := r) (by omega) (by omega))).mpr ?_)
  refine kf r (by omega) (by omega) _ _ ?_
  refine zgz _ _ ?_ (Int.mul_nonneg (by omega) (by omega)) _ _ (ret ?_)
  ·unfold sqr; omega
  ·have : decide (0 < r ∧ sqr (vsub a b) < r * r) = decide (sqr (vsub a b) < r * r) := by
    rw [Bool.eq_iff_iff]; simp; omega
   rw [this] at h; exact h
theorem zoi (a b : Vc) (ha : a.ok) (hb : b.ok) (st : Store) (R : AV → Store → Prop) (h : R (.agg (vecC (vsub a b))) st) : ACalls Tryz.prog 22 [.agg (vecC a), .agg (vecC b)] st R := by
 refine ACalls.of_body (c := cfg 16) zc Tryz.func22 (by rfl) (by rfl) (by rfl) (by rfl) ?_
 refine ADraw.of_sched zc (by rfl) (by rfl) yip (by rfl) ?_
 refine ⟨zi6 a.1 b.1 ha.1 hb.1 _ _ ⟨(by repeat (first | exact trivial | refine ⟨rfl, ?_⟩ | refine ⟨optR (optR (optR (za _ (zb _ _ _) rfl))), ?_⟩)), ?_⟩, trivial⟩
 refine ⟨zi6 a.2 b.2 ha.2 hb.2 _ _ ⟨(by repeat (first | exact trivial | refine ⟨rfl, ?_⟩ | refine ⟨optR (optR (optR (za _ (zb _ _ _) rfl))), ?_⟩)), ?_⟩, trivial⟩
 refine ⟨⟨(by repeat (first | exact trivial | refine ⟨rfl, ?_⟩ | refine ⟨optR (optR (optR (za _ (zb _ _ _) rfl))), ?_⟩)), ?_⟩, trivial⟩
 exact ret h
theorem zuf (n : Int) : asz (nrm n) = asz n := by unfold asz; rw [yi0]
theorem zhh (v : Vc) (hv : v.ok) (st : Store) (R : AV → Store → Prop) (h : R (.agg (jb (sqr v))) st) : ACalls Tryz.prog 59 [.agg (vecC v)] st R := by
 refine ACalls.of_body (c := cfg 20) zc Tryz.func59 (by rfl) (by rfl) (by rfl) (by rfl) ?_
 have a1 := zkv hv.1
 have a2 := zkv hv.2
 have b := zq1 hv
 refine ADraw.of_sched zc (by rfl) (by rfl) yii (by rfl) ?_
 refine ⟨wv v.1 _ _ ⟨(by repeat (first | exact trivial | refine ⟨rfl, ?_⟩ | refine ⟨optR (optR (optR (za _ (zb _ _ _) rfl))), ?_⟩)), ?_⟩, trivial⟩
 refine ⟨zf7 (nrm v.1) (kl hv.1) _ _ ⟨(by repeat (first | exact trivial | refine ⟨rfl, ?_⟩ | refine ⟨optR (optR (optR (za _ (zb _ _ _) rfl))), ?_⟩)), ?_⟩, trivial⟩
 refine ⟨wv v.2 _ _ ⟨(by repeat (first | exact trivial | refine ⟨rfl, ?_⟩ | refine ⟨optR (optR (optR (za _ (zb _ _ _) rfl))), ?_⟩)), ?_⟩, trivial⟩
 refine ⟨zf7 (nrm v.2) (kl hv.2) _ _ ⟨(by repeat (first | exact trivial | refine ⟨rfl, ?_⟩ | refine ⟨optR (optR (optR (za _ (zb _ _ _) rfl))), ?_⟩)), ?_⟩, trivial⟩
 rw [zuf, zuf]
 refine ⟨⟨(by repeat (first | exact trivial | refine ⟨rfl, ?_⟩ | refine ⟨optR (optR (optR (za _ (zb _ _ _) rfl))), ?_⟩)), ?_⟩, trivial⟩
 refine ⟨⟨(by repeat (first | exact trivial | refine ⟨rfl, ?_⟩ | refine ⟨optR (optR (optR (za _ (zb _ _ _) rfl))), ?_⟩)), ?_⟩, trivial⟩
 refine zb1 (asz v.1) (asz v.1) (by omega) (by omega) (by omega) (by omega) _ _ ?_
 refine zb1 (asz v.2) (asz v.2) (by omega) (by omega) (by omega) (by omega) _ _ ?_
 exact zok _ _ (by omega) (by omega) (by omega) _ _ (ret h)
theorem zi5 (a b : Vc) (r : Int) (ha : a.ok) (hb : b.ok) (hr : zz r) (st : Store) (R : AV → Store → Prop) (h : R (bool (near a b r)) st) : ACalls Tryz.prog 149 [.agg (vecC a), .agg (vecC b), int r] st R := by
 refine ACalls.of_body (c := cfg 21) zc Tryz.func149 (by rfl) (by rfl) (by rfl) (by rfl) ?_
 have hn := kl hr
 unfold near at h
 have hb2 := zq1 (zdu a b)
 refine wv r _ _ ?_
 refine bcd (fun c1 => ?_) (fun c1 => ?_)
 ·refine ret (isF h ?_)
  have : r < 0 := by unfold nrm at c1; split at c1 <;> omega
  simp; omega
 ·have hr0 : nrm r = r := by unfold nrm at c1 ⊢; split <;> omega
  rw [hr0] at c1 hn
  refine zoi a b ha hb _ _ ?_
  refine zhh _ (zdu a b) _ _ ?_
  refine ((congrArg (fun n => ACalls Tryz.prog 100 [.s (.int .u64 n), .s (.int .u64 n)] st _) (show IntKind.u64.wrap (nrm r) = r by rw [hr0]; exact qj (v := r) (by omega) (by omega))).mpr ?_)
  refine zb1 r r (by omega) (by omega) (by omega) (by omega) _ _ ?_
  refine zss _ _ ?_ (Int.mul_nonneg (by omega) (by omega)) _ _ (ret ?_)
  ·unfold sqr; omega
  ·have : decide (0 < r ∧ sqr (vsub a b) < r * r) = decide (sqr (vsub a b) < r * r) := by
    rw [Bool.eq_iff_iff]; simp
    intro h1
    by_cases h0 : r = 0
    ·subst h0
     unfold sqr at h1; omega
    ·omega
   rw [this] at h; exact h
end Go.Proofs
namespace Go.Proofs
open Go Go.V
theorem zs9 (g : Gnd) (hg : gndP g) (t : Nat) (ht : (t : Int) < g.W * g.H) (p : Vc) (hp : qd p.1 p.2) (r : Int) (hr : 0 < r ∧ r ≤ 262144) (st : Store) (R : AV → Store → Prop) (h : R (bool (decide (hitP g t p r))) st) :
  ACalls Tryz.prog 189 [.agg (gndC g), int t, .agg (vecC p), int r] st R := by
 have hb := zai hg ht
 have hn := ydw hg ht hp hr.1
 have hx := txty hg ht
 have hq := trem (t := t) hg.1.1
 have hq2 := tquo (t := t) hg.1.1
 have hg1 := hg.1
 have hg2 := hg.2.1
 have hp' := hp
 unfold qd at hp'
 refine ACalls.of_body (c := cfg 41) zc Tryz.func189 (by rfl) (by rfl) (by rfl) (by rfl) ?_
 refine ADraw.of_sched zc (by rfl) (by rfl) ycn (by rfl) ?_
 refine ⟨by omega, ?_⟩
 have q1 : zz ((t : Int).tmod g.W * 65536) := by rw [hq]; unfold zz; omega
 have q2 : zz ((t : Int).tdiv g.W) := by rw [hq2]; unfold zz; omega
 have q3 : zz ((t : Int).tdiv g.W * 65536) := by rw [hq2]; unfold zz; omega
 refine ⟨q1, ?_⟩
 refine ⟨by omega, ?_⟩
 refine ⟨q2, ?_⟩
 refine ⟨q3, ?_⟩
 refine ⟨⟨(by repeat (first | exact trivial | refine ⟨rfl, ?_⟩ | refine ⟨optR (optR (optR (za _ (zb _ _ _) rfl))), ?_⟩)), ?_⟩, trivial⟩
 refine ⟨⟨trivial, ?_⟩, trivial⟩
 have e1 : (t : Int).tmod g.W * 65536 = tx g t := by rw [hq]; rfl
 have e2 : (t : Int).tdiv g.W * 65536 = ty g t := by rw [hq2]; rfl
 rw [e1, e2]
 refine in64 (by omega) ?_
 refine in64 (by omega) ?_
 have c1 := zdp (x := p.1) hx.1
 have c2 := zdp (x := p.2) hx.2
 refine wo p (zan p.1 (tx g t), zan p.2 (ty g t)) r ⟨⟨by omega, by omega⟩, ⟨by omega, by omega⟩⟩ ⟨⟨by dsimp only; omega, by dsimp only; omega⟩, ⟨by dsimp only; omega, by dsimp only; omega⟩⟩ (by omega) _ _ (ret ?_)
 rw [hn]
 exact h
theorem zne (x lo : Int) (hx : -1099511627776 ≤ x ∧ x ≤ 1099511627776) (hlo : 0 ≤ lo ∧ lo ≤ 8323072) (st : Store) (R : AV → Store → Prop) (h : R (int (off x lo)) st) : ACalls Tryz.prog 175 [int x, int lo, int (lo + 65536)] st R := by
 refine ACalls.of_body (c := cfg 19) zc Tryz.func175 (by rfl) (by rfl) (by rfl) (by rfl) ?_
 unfold off at h
 refine bcd (fun c1 => ?_) (fun c1 => ?_)
 ·refine in64 (by omega) ?_
  rw [if_pos c1] at h
  exact ret h
 rw [if_neg c1] at h
 refine bcd (fun c2 => ?_) (fun c2 => ?_)
 ·refine in64 (by omega) ?_
  rw [if_pos c2] at h
  exact ret h
 rw [if_neg c2] at h
 exact ret h
theorem zo7 (g : Gnd) (hg : gndP g) (t : Nat) (ht : (t : Int) < g.W * g.H) (p : Vc) (hp : qd p.1 p.2) (r : Int) (hr : 0 < r ∧ r ≤ 262144) (st : Store) (R : AV → Store → Prop) (h : R (bool (decide (hitP g t p r))) st) :
  ACalls Tryz.prog 128 [.agg (gndC g), int t, .agg (vecC p), int r] st R := by
 have hb := zai hg ht
 have hx := txty hg ht
 have hq := trem (t := t) hg.1.1
 have hq2 := tquo (t := t) hg.1.1
 have hg1 := hg.1
 have hg2 := hg.2.1
 have hp' := hp
 unfold qd at hp'
 have o1 := yku hx.1 hp'.1
 have o2 := yku hx.2 hp'.2
 have hm := zso o1.1 o2.1 hr.1
 refine ACalls.of_body (c := cfg 56) zc Tryz.func128 (by rfl) (by rfl) (by rfl) (by rfl) ?_
 refine ADraw.of_sched zc (by rfl) (by rfl) ydc (by rfl) ?_
 refine ⟨by omega, ?_⟩
 have q1 : zz ((t : Int).tmod g.W * 65536) := by rw [hq]; unfold zz; omega
 have q2 : zz ((t : Int).tdiv g.W) := by rw [hq2]; unfold zz; omega
 have q3 : zz ((t : Int).tdiv g.W * 65536) := by rw [hq2]; unfold zz; omega
 refine ⟨q1, ?_⟩
 refine ⟨by omega, ?_⟩
 refine ⟨q2, ?_⟩
 refine ⟨q3, ?_⟩
 refine ⟨⟨(by repeat (first | exact trivial | refine ⟨rfl, ?_⟩ | refine ⟨optR (optR (optR (za _ (zb _ _ _) rfl))), ?_⟩)), ?_⟩, trivial⟩
 refine ⟨⟨trivial, ?_⟩, trivial⟩
 have e1 : (t : Int).tmod g.W * 65536 = tx g t := by rw [hq]; rfl
 have e2 : (t : Int).tdiv g.W * 65536 = ty g t := by rw [hq2]; rfl
 rw [e1, e2]
 refine ADraw.of_sched zc (by rfl) (by rfl) ydb (by rfl) ?_
 refine in64 (by omega) ?_
 refine in64 (by omega) ?_
 refine ⟨zne p.1 (tx g t) hp'.1 hx.1 _ _ ⟨(by repeat (first | exact trivial | refine ⟨rfl, ?_⟩ | refine ⟨optR (optR (optR (za _ (zb _ _ _) rfl))), ?_⟩)), ?_⟩, trivial⟩
 refine ⟨zne p.2 (ty g t) hp'.2 hx.2 _ _ ⟨trivial, ?_⟩, trivial⟩
 refine ⟨⟨trivial, ?_⟩, trivial⟩
 refine ⟨⟨trivial, ?_⟩, trivial⟩
 unfold hitP at h
 have no : ¬ (off p.1 (tx g t) < r ∧ off p.2 (ty g t) < r ∧ off p.1 (tx g t) * off p.1 (tx g t) + off p.2 (ty g t) * off p.2 (ty g t) < r * r) → R (bool false) st := fun hh => isF h (decide_eq_false fun k => hh (hm.2 k))
 refine bcd (fun c1 => ?_) (fun c1 => ret (no fun k => c1 k.1))
 refine bcd (fun c2 => ?_) (fun c2 => ret (no fun k => c2 k.2.1))
 have s1 := yh5 (a := off p.1 (tx g t)) (by omega)
 have s2 := yh5 (a := off p.2 (ty g t)) (by omega)
 have s3 := yh5 (a := r) (by omega)
 refine in64 (by omega) ?_
 refine in64 (by omega) ?_
 refine in64 (by omega) ?_
 refine in64 (by omega) ?_
 exact ret h
set_option maxRecDepth 20000 in
theorem zpy (p : Vc) (r : Int) (st : Store) (R : AV → Store → Prop) (h : ∀ z : Bool, (z = true ↔ (0 ≤ r ∧ r ≤ 262144) ∧ qd p.1 p.2) → R (bool z) st) : ACalls Tryz.prog 188 [.agg (vecC p), int r] st R := by
 refine ACalls.of_body (c := cfg 15) zc Tryz.func188 (by rfl) (by rfl) (by rfl) (by rfl) ?_
 repeat' (first | refine bcd (fun _ => ?_) (fun _ => ?_) | refine zd (fun _ => ?_) (fun _ => ?_) | refine in64 (by omega) ?_ | (refine zo1 p _ _ ?_; rintro (_ | _) hz)| fail)
 all_goals
  refine ret (h _ ?_)
  simp only [decide_eq_true_eq, decide_eq_false_iff_not, Bool.false_eq_true, false_iff, true_iff, beq_iff_eq, bne_iff_ne, beq_eq_false_iff_ne, ne_eq, reduceCtorEq, qd] at *
  omega
theorem zf8 (r : Int) (hr : 0 < r ∧ r ≤ 262144) (st : Store) (R : AV → Store → Prop) (h : R (int r) st) : ACalls Tryz.prog 191 [int r] st R := by
 refine ACalls.of_body (c := cfg 6) zc Tryz.func191 (by rfl) (by rfl) (by rfl) (by rfl) ?_
 have e : min2 (max2 r 0) 262144 = r := by rw [min2_eq, zcf]; omega
 rw [← e] at h
 exact ret h
theorem zg2 (p : Vc) (r : Int) (q : Vc) (s : Int) (hp : p.ok) (hq : q.ok) (hr : 0 < r ∧ r ≤ 262144) (hs : 0 < s ∧ s ≤ 262144) (st : Store) (R : AV → Store → Prop) (h : R (bool (jy p r q s)) st) :
  ACalls Tryz.prog 163 [.agg (vecC p), int r, .agg (vecC q), int s] st R := by
 refine ACalls.of_body (c := cfg 18) zc Tryz.func163 (by rfl) (by rfl) (by rfl) (by rfl) ?_
 refine ADraw.of_sched zc (by rfl) (by rfl) ycv (by rfl) ?_
 refine ⟨zf8 r hr _ _ ⟨(by repeat (first | exact trivial | refine ⟨rfl, ?_⟩ | refine ⟨optR (optR (optR (za _ (zb _ _ _) rfl))), ?_⟩)), ?_⟩, trivial⟩
 refine ⟨zf8 s hs _ _ ⟨(by repeat (first | exact trivial | refine ⟨rfl, ?_⟩ | refine ⟨optR (optR (optR (za _ (zb _ _ _) rfl))), ?_⟩)), ?_⟩, trivial⟩
 refine in64 (by omega) ?_
 refine ⟨wo p q (r + s) hp hq (by omega) _ _ ⟨trivial, ?_⟩, trivial⟩
 exact ⟨⟨trivial, ret h⟩, trivial⟩
theorem zlm (p : Vc) (r : Int) (q : Vc) (s : Int) (hp : p.ok) (hq : q.ok) (hr : 0 < r ∧ r ≤ 262144) (hs : 0 < s ∧ s ≤ 262144) (st : Store) (R : AV → Store → Prop) (h : R (bool (jy p r q s)) st) :
  ACalls Tryz.prog 98 [.agg (vecC p), int r, .agg (vecC q), int s] st R := by
 have e1 : max2 0 (min2 r 262144) = r := by rw [min2_eq, zcf]; omega
 have e2 : max2 0 (min2 s 262144) = s := by rw [min2_eq, zcf]; omega
 unfold jy at h
 rw [← e1, ← e2] at h
 refine ACalls.of_body (c := cfg 20) zc Tryz.func98 (by rfl) (by rfl) (by rfl) (by rfl) ?_
 refine in64 (by rw [e1, e2]; omega) ?_
 exact zi5 p q _ hp hq (by rw [e1, e2]; exact ⟨by omega, by omega⟩) _ _ (ret h)
end Go.Proofs
namespace Go.Proofs
open Go Go.V
theorem zhn (l : List UInt8) (hl : l.length ≤ 1000000000000) (hne : 0 < l.length) (st : Store) (R : AV → Store → Prop) (h : ∀ m : UInt8, m ∈ l → (∀ t ∈ l, t.toNat ≤ m.toNat) → R (u8 m) st) : ACalls Tryz.prog 194 [byts l] st R := by
 refine ACalls.of_body (c := cfg 25) zc Tryz.func194 (by rfl) (by rfl) (by rfl) (by rfl) ?_
 refine zd (fun h1 => ?_) (fun h1 => ?_)
 ·rw [zi] at h1
  simp at h1
  omega
 refine ⟨0, rfl, za _ (zg hne) ?_⟩
 refine AWp.loop (σ := Nat × UInt8) ⟨fun s => [(0, .av (byts l)), (3, .av (u8 s.2)), (4, .av (int (s.1 : Nat)))], fun _ => [],
  fun s st' => (1 ≤ s.1 ∧ s.1 ≤ l.length) ∧ st' = st ∧ s.2 ∈ l ∧ ∀ t ∈ l.take s.1, t.toNat ≤ s.2.toNat, fun s => l.length - s.1⟩ zc ?_ ?_
 ·refine ⟨(1, l[0]), trivial, ⟨⟨Nat.le_refl _, hne⟩, rfl, List.getElem_mem hne, fun t ht => ?_⟩, ⟨lr_ _, lr_ _, lr_ _, trivial⟩, trivial⟩
  have : l.take 1 = [l[0]] := by
   cases l with
   | nil => simp at hne
   | cons a l => rfl
  rw [this] at ht
  simp at ht
  rw [ht]
  exact Nat.le_refl _
 ·rintro ⟨i, m⟩ st' ⟨⟨hi1, hi⟩, rfl, hm, hall⟩
  simp only at hi1 hi hm hall
  refine zd (fun h1 => ?_) (fun h1 => ?_)
  ·have hlt : i < l.length := xh h1
   refine ⟨i, rfl, za _ (zg hlt) ?_⟩
   refine ⟨⟨by omega, by omega⟩, ?_⟩
   have hmax : max2 (m.toNat : Int) (l[i].toNat : Int) = ((if l[i].toNat > m.toNat then l[i] else m : UInt8).toNat : Int) := by
    unfold max2
    by_cases hg : l[i].toNat > m.toNat
    ·rw [if_pos hg, decide_eq_true (by omega)]; rfl
    ·rw [if_neg hg, decide_eq_false (by omega)]; rfl
   refine ⟨(i + 1, if l[i].toNat > m.toNat then l[i] else m), ?_, ⟨⟨by omega, hlt⟩, rfl, ?_, fun t ht => ?_⟩, ⟨lr_ _, ?_, lr_ _, trivial⟩, trivial⟩
   ·show l.length - (i + 1) < l.length - i
    omega
   ·show (if l[i].toNat > m.toNat then l[i] else m) ∈ l
    split
    ·exact List.getElem_mem hlt
    ·exact hm
   ·show t.toNat ≤ (if l[i].toNat > m.toNat then l[i] else m : UInt8).toNat
    rw [List.take_succ_eq_append_getElem hlt] at ht
    rcases List.mem_append.1 ht with ht | ht
    ·have := hall t ht
     split <;> omega
    ·simp at ht
     subst ht
     split <;> omega
   ·show LV.le (.av (.s (.int .u8 (max2 (m.toNat : Int) (l[i].toNat : Int))))) _
    rw [hmax]
    exact lr_ _
  ·have hge : i = l.length := j9 h1 hi
   subst hge
   rw [List.take_length] at hall
   exact ⟨_, st', ar_ _, Store.Has.refl st', h m hm hall⟩
theorem zfk (g : Gnd) (hg : g.fits) (st : Store) (R : AV → Store → Prop) (h : ∀ b : Bool, (b = true ↔ gndP g) → R (bool b) st) : ACalls Tryz.prog 165 [.agg (gndC g)] st R := by
 refine ACalls.of_body (c := cfg 28) zc Tryz.func165 (by rfl) (by rfl) (by rfl) (by rfl) ?_
 refine zi4 g.W _ _ (fun b hb => ?_)
 cases b with
 | false =>
  refine ⟨_, st, ar_ _, Store.Has.refl st, h _ ?_⟩
  simp only [Bool.false_eq_true, false_iff] at hb ⊢
  exact fun hp => hb hp.1
 | true =>
  refine zi4 g.H _ _ (fun b2 hb2 => ?_)
  cases b2 with
  | false =>
   refine ⟨_, st, ar_ _, Store.Has.refl st, h _ ?_⟩
   simp only [Bool.false_eq_true, false_iff] at hb2 ⊢
   exact fun hp => hb2 hp.2.1
  | true =>
   have hm := zm3 (hb.1 rfl) (hb2.1 rfl)
   refine ⟨⟨by omega, by omega⟩, ?_⟩
   refine zd (fun h1 => ⟨_, st, ar_ _, Store.Has.refl st, h _ ?_⟩) (fun h1 => ?_)
   ·rw [zi] at h1
    simp only [Bool.false_eq_true, false_iff]
    intro hp
    have := hp.2.2.1
    simp [this] at h1
   ·rw [zi] at h1
    have h1 : (g.T.length : Int) = g.W * g.H := by simpa using h1
    refine zhn g.T hg (by omega) _ _ (fun m hm1 hm2 => ?_)
    refine ⟨_, st, ar_ _, Store.Has.refl st, h _ ?_⟩
    rw [decide_eq_true_iff]
    constructor
    ·intro h2
     refine ⟨hb.1 rfl, hb2.1 rfl, h1, fun t ht => ?_⟩
     have := hm2 t ht
     omega
    ·intro hp
     have := hp.2.2.2 m hm1
     omega
theorem zj0 (g : Gnd) (hg : g.fits) (st : Store) (R : AV → Store → Prop) (h : ∀ b : Bool, (b = true ↔ gndP g) → R (bool b) st) : ACalls Tryz.prog 150 [.agg (gndC g)] st R := by
 refine ACalls.of_body (c := cfg 46) zc Tryz.func150 (by rfl) (by rfl) (by rfl) (by rfl) ?_
 have no : ¬ gndP g → R (bool false) st := fun hn => h false (by simpa using hn)
 refine zd (fun h1 => ⟨_, st, ar_ _, Store.Has.refl st, no ?_⟩) (fun h1 => ?_)
 ·intro hp; have := hp.1; simp at h1; omega
 refine zd (fun h2 => ⟨_, st, ar_ _, Store.Has.refl st, no ?_⟩) (fun h2 => ?_)
 ·intro hp; have := hp.1; simp at h2; omega
 refine zd (fun h3 => ⟨_, st, ar_ _, Store.Has.refl st, no ?_⟩) (fun h3 => ?_)
 ·intro hp; have := hp.2.1; simp at h3; omega
 refine zd (fun h4 => ⟨_, st, ar_ _, Store.Has.refl st, no ?_⟩) (fun h4 => ?_)
 ·intro hp; have := hp.2.1; simp at h4; omega
 have hW : 1 ≤ g.W ∧ g.W ≤ 128 := by simp at h1 h2; omega
 have hH : 1 ≤ g.H ∧ g.H ≤ 128 := by simp at h3 h4; omega
 have hm := zm3 hW hH
 refine ⟨⟨by omega, by omega⟩, ?_⟩
 refine zd (fun h5 => ⟨_, st, ar_ _, Store.Has.refl st, no ?_⟩) (fun h5 => ?_)
 ·rw [zi] at h5
  intro hp
  have := hp.2.2.1
  simp [this] at h5
 rw [zi] at h5
 have h5 : (g.T.length : Int) = g.W * g.H := by simpa using h5
 refine AWp.loop (σ := Nat) ⟨fun i => [(1, .bx 1 0), (3, .av (int (i : Nat)))], fun _ => [(1, gndC g)],
  fun i st' => i ≤ g.T.length ∧ st' = st ∧ ∀ t ∈ g.T.take i, t.toNat ≤ 5, fun i => g.T.length - i⟩ zc ?_ ?_
 ·exact ⟨0, trivial, ⟨Nat.zero_le _, rfl, fun t ht => by simp at ht⟩, ⟨lr_ _, lr_ _, trivial⟩, (by repeat (first | exact trivial | refine ⟨rfl, ?_⟩ | refine ⟨optR (optR (optR (za _ (zb _ _ _) rfl))), ?_⟩))⟩
 ·rintro i st' ⟨hi, rfl, hall⟩
  refine zd (fun h6 => ?_) (fun h6 => ?_)
  ·have hlt : i < g.T.length := xh h6
   refine ⟨i, rfl, za _ (zg hlt) ?_⟩
   refine zd (fun h7 => ⟨_, st', ar_ _, Store.Has.refl st', no ?_⟩) (fun h7 => ?_)
   ·intro hp
    have := hp.2.2.2 _ (List.getElem_mem hlt)
    simp at h7
    omega
   ·refine ⟨⟨by omega, by omega⟩, ?_⟩
    refine ⟨i + 1, ?_, ⟨hlt, rfl, fun t ht => ?_⟩, ⟨lr_ _, lr_ _, trivial⟩, (by repeat (first | exact trivial | refine ⟨rfl, ?_⟩ | refine ⟨optR (optR (optR (za _ (zb _ _ _) rfl))), ?_⟩))⟩
    ·show g.T.length - (i + 1) < g.T.length - i
     omega
    ·rw [List.take_succ_eq_append_getElem hlt] at ht
     rcases List.mem_append.1 ht with ht | ht
     ·exact hall t ht
     ·simp at ht
      subst ht
      simp at h7
      omega
  ·have hge : i = g.T.length := j9 h6 hi
   subst hge
   rw [List.take_length] at hall
   exact ⟨_, st', ar_ _, Store.Has.refl st', h true (by simpa using ⟨hW, hH, h5, hall⟩)⟩
end Go.Proofs
