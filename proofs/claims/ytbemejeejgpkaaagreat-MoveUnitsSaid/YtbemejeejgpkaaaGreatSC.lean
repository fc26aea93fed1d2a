/- The ground on which laws of thronglaw24 are proved: contracts of functions and plain lemmas; no condition beyond the row's own. -/
import Derived.Test.YtbemejeejgpkaaaGreatVC
import Derived.Test.YtbemejeejgpkaaaGreatVD
import Derived.Test.YtbemejeejgpkaaaGreatSA
import Derived.Test.YtbemejeejgpkaaaGreatVG
import Derived.Test.YtbemejeejgpkaaaGreatVE
import Derived.Test.YtbemejeejgpkaaaGreatSB
set_option linter.unusedSimpArgs false
set_option linter.unusedVariables false
namespace Go.Proofs
open Go Go.V
def ypc : V.Sched := (sv [0, 1, 2, 3, 4, 5] (.e 6 [] (.e 7 [] .done .stop) .stop))
def ypb : V.Sched := (sv [0, 1, 2, 3, 4, 5] (.e 6 [] (sv [7, 8, 9] (.e 10 [0, 1, 2, 3, 4, 5, 7, 8, 9] (.e 11 [] (.e 12 [] .done .stop) .stop) .stop)) (.e 10 [0, 1, 2, 3, 4, 5] (.e 6 [] (sv [7, 8, 9] (.e 11 [] (.e 12 [] .done .stop) .stop)) .stop) .stop)))
def yni : V.Sched := (sv [0, 1, 2, 3, 4, 5, 6] (.e 7 [0, 1, 2, 3, 4, 5] (.e 8 [] (.e 9 [0, 1, 2, 3, 4, 5, 6] (.e 10 [] .done .stop) .stop) (.e 9 [0, 1, 2, 3, 4, 5, 6] (.e 8 [] (.e 10 [] .done .stop) .stop) .stop)) (.e 9 [0, 1, 2, 3, 4, 5, 6] (.e 7 [0, 1, 2, 3, 4, 5] (.e 8 [] (.e 10 [] .done .stop) .stop) .stop) .stop)))
def ynn : V.Sched := (sv [0, 1, 3, 4, 5] (.e 2 [4] (.e 6 [] (.e 7 [0, 1, 3, 4, 5] (.e 8 [] .done .stop) .stop) (.e 7 [0, 1, 3, 4, 5] (.e 6 [] (.e 8 [] .done .stop) .stop) .stop)) (.e 7 [0, 1, 3, 4, 5] (.e 2 [4] (.e 6 [] (.e 8 [] .done .stop) .stop) .stop) .stop)))
def ygr : V.Sched := (sv [0, 1, 2, 3, 4, 5, 6, 7, 8] (.e 9 [3] (sv [10] .done) .stop))
def ygq : V.Sched := (sv [0, 1, 2, 3, 4] (.e 5 [] (.e 6 [] .done .stop) .stop))
def ygp : V.Sched := (sv [0, 1, 2, 3, 4, 5, 6, 7, 8, 9, 10, 11, 12, 13, 14] (.e 15 [9] (sv [16, 17, 18, 19, 20, 21, 22, 23, 24, 25, 27, 28, 29, 30] (.e 26 [30] (sv [31, 32, 33, 34, 35, 36, 37, 38, 39, 40, 41, 42, 43, 44, 46, 47, 48, 49] (.e 45 [49] (.e 50 [] (sv [51, 52, 53] .done) .stop) .stop)) .stop)) .stop))
def ygo : V.Sched := (sv [0, 1, 2, 3, 4, 5] (.e 6 [3] (sv [7] .done) .stop))
def ygn : V.Sched := (sv [0, 1, 2, 3, 4, 5, 6, 7, 8, 9, 11] (.e 10 [] (sv [12, 13] (.e 14 [] .done .stop)) .stop))
def ygm : V.Sched := (sv [0, 1, 2, 3, 4, 5, 6, 7, 8, 9, 10, 12, 13] (.e 11 [0, 5, 13] (.e 14 [0] (.e 15 [] (sv [16, 17, 18] (.e 19 [0, 1, 2, 3, 4, 5, 6, 7, 8, 9, 10, 12, 13, 16, 17, 18] (.e 20 [] (.e 21 [] .done .stop) .stop) .stop)) (.e 19 [0, 1, 2, 3, 4, 5, 6, 7, 8, 9, 10, 12, 13] (.e 15 [] (sv [16, 17, 18] (.e 20 [] (.e 21 [] .done .stop) .stop)) .stop) .stop)) (.e 19 [0, 1, 2, 3, 4, 5, 6, 7, 8, 9, 10, 12, 13] (.e 14 [0] (.e 15 [] (sv [16, 17, 18] (.e 20 [] (.e 21 [] .done .stop) .stop)) .stop) .stop) .stop)) (.e 19 [0, 1, 2, 3, 4, 5, 6, 7, 8, 9, 10, 12, 13] (.e 11 [0, 5, 13] (.e 14 [0] (.e 15 [] (sv [16, 17, 18] (.e 20 [] (.e 21 [] .done .stop) .stop)) .stop) .stop) .stop) .stop)))
def ygk : V.Sched := (sv [0, 1, 2, 3, 4, 5, 6] (.e 7 [1, 4] (sv [8, 9, 10, 11, 12, 13, 14, 15, 16] (.e 17 [] .done .stop)) .stop))
def zp5 : V.Sched := (sv [0, 1, 2, 3, 4, 5, 6, 7, 8, 9, 10, 11, 12, 13, 14, 15, 16, 17, 18, 19, 20, 21, 22, 23, 24] (.e 25 [] (sv [26, 27, 28, 29, 30, 31, 32, 35, 36, 37, 38, 39, 40] (.e 33 [36, 40] (sv [34] (.e 41 [34] (sv [42, 43, 44, 45, 46, 47, 48, 49, 50, 51, 52, 53, 54, 55, 56, 57, 58, 59, 60] .done) .stop)) .stop)) .stop))
def ynm : V.Sched := (sv [0, 1, 2, 3, 5, 6, 7, 8] (.e 4 [6, 8] (.e 9 [] (sv [10] (.e 11 [] .done .stop)) .stop) .stop))
def ynl : V.Sched := (sv [0, 1, 2, 3, 4, 5, 6, 7, 8, 9, 10, 11, 12] (.e 13 [] .done .stop))
def ynk : V.Sched := (sv [0, 1, 3, 4] (.e 2 [4] (.e 5 [] (sv [6] (.e 7 [] .done .stop)) .stop) .stop))
def ynj : V.Sched := (sv [0, 1, 2, 3, 4, 5, 6, 7, 8, 9, 10] (.e 11 [0, 1, 2, 3, 4, 5, 6, 7, 8, 9, 10] (.e 12 [] .done .stop) .stop))
def ynh : V.Sched := (sv [0, 1, 2, 3, 4, 5] (.e 6 [2, 5] (.e 7 [] (.e 8 [] .done .stop) .stop) .stop))
def yng : V.Sched := (sv [0, 1, 2, 3, 4, 5, 6, 7, 8] .done)
def ynf : V.Sched := (sv [0, 1, 2, 3, 4, 5, 6, 7, 8] .done)
def yne : V.Sched := (sv [0, 1, 3, 4] (.e 2 [4] (.e 5 [] (sv [6] (.e 7 [] .done .stop)) .stop) .stop))
def zuq : V.Sched := (sv [0, 1, 2, 3, 5, 6, 7, 8] (.e 4 [6] (.e 9 [] (sv [10] (.e 11 [] .done .stop)) .stop) .stop))
def ynd : V.Sched := (sv [0, 1, 2, 3, 4, 5, 10, 11, 12] (.e 6 [0, 2, 11] (sv [7, 8, 9] (.e 13 [0] (.e 14 [] (.e 15 [] .done .stop) .stop) .stop)) .stop))
def ync : V.Sched := (sv [0, 1, 2, 3, 4, 5, 6, 7, 8, 9, 10, 11, 12, 13, 14, 15] (.e 16 [10, 14] (.e 17 [] .done .stop) .stop))
def ynb : V.Sched := (sv [0, 1, 2, 3, 4, 5, 6, 7, 8, 10, 11, 12, 13, 14, 15, 17, 18, 19, 20, 21, 22] (.e 9 [13, 20] (.e 16 [20] (.e 23 [] (sv [24, 25] (.e 26 [] (sv [27, 28] (.e 29 [] (sv [30, 31] (.e 32 [] .done .stop)) .stop)) .stop)) .stop) .stop) .stop))
def yna : V.Sched := (sv [0, 1, 2, 3, 4, 5, 6, 7, 8, 9, 10, 11, 12, 13, 14, 15, 16, 17, 18, 19] .done)
def yf7 : V.Sched := (sv [0, 1, 2, 3, 4, 5, 6, 7, 8, 9, 10, 11, 12, 13, 14, 15, 16, 17, 18, 19, 20, 21, 22, 23, 24, 25, 26, 27, 28, 29, 30, 31, 32, 33, 34, 35, 36, 37, 38, 39, 40, 41, 42, 43, 44, 45, 46, 47, 48, 49, 50] (.e 51 [] (sv [52, 53, 54, 55, 56, 57, 58, 59, 60, 61, 62, 63] (.e 64 [] (sv [65, 66, 67, 68, 69, 70, 71, 72, 73, 74, 75, 76, 77, 78, 79, 80, 81, 82, 83, 84, 85, 86, 87] .done) .stop)) .stop))
def yf6 : V.Sched := (sv [0, 1, 2, 3, 4, 5, 6, 7, 8] .done)
def ym9 : V.Sched := (sv [0, 1, 2, 3, 4, 5, 6, 7, 8, 9, 10, 11, 12, 13, 14, 15, 16] (.e 17 [10, 12, 14] (sv [18] (.e 19 [] (sv [20, 21] .done) .stop)) .stop))
def ym8 : V.Sched := (sv [0, 1, 2] (.e 3 [0] (.e 4 [] .done .stop) .stop))
def ym7 : V.Sched := (sv [0, 1, 4, 5] (.e 2 [5] (.e 3 [5] (.e 6 [] (.e 7 [] (.e 8 [] (.e 9 [] .done .stop) .stop) .stop) .stop) .stop) .stop))
def yf5 : V.Sched := (sv [0, 1, 2, 3, 4, 5, 6, 7, 8, 9, 10, 11, 12, 13, 14, 15, 16, 17] .done)
def ym6 : V.Sched := (sv [0, 1, 2, 3, 4, 5, 6, 7, 8, 9, 10] (.e 11 [0, 1, 2, 3, 4, 5, 6, 7, 8, 9, 10] (.e 12 [] .done .stop) .stop))
def ym5 : V.Sched := (sv [0, 1, 2, 3, 4, 5, 6, 7, 8] (.e 9 [] .done .stop))
def yf4 : V.Sched := (sv [0, 1, 2, 3, 4] (.e 5 [] .done .stop))
def ym4 : V.Sched := (sv [0, 1, 2, 3, 5, 6, 7, 8] (.e 4 [6, 8] (.e 9 [] (sv [10] (.e 11 [] .done .stop)) .stop) .stop))
def yf3 : V.Sched := (sv [0, 1] (.e 2 [] (sv [3, 4, 5, 6, 7] (.e 8 [] (sv [9, 10, 11, 12, 13, 14, 15, 16, 17, 18, 19, 20, 21, 22, 23, 24, 25] .done) .stop)) .stop))
def ym3 : V.Sched := (sv [0, 1, 3, 4, 6, 7] (.e 2 [4, 7] (sv [9] (.e 5 [7] (.e 8 [] (.e 10 [] (sv [11] (.e 12 [] (sv [13] (.e 14 [] .done .stop)) .stop)) .stop) .stop) .stop)) .stop))
def zup : V.Sched := (sv [0] (.e 1 [0] (sv [2] (.e 3 [] (.e 4 [] .done .stop) .stop)) .stop))
def zuo : V.Sched := (sv [0, 1, 2, 3, 4, 5, 6, 7] (.e 8 [] .done .stop))
def ym2 : V.Sched := (sv [0, 1, 2, 3, 4, 5, 6, 7, 8, 11] (.e 9 [] (sv [10] .done) .stop))
def ym1 : V.Sched := (sv [0, 1, 2, 3, 4, 5, 6, 11, 12] (.e 7 [0, 2, 4, 12] (sv [8, 9, 10] (.e 13 [0] (.e 14 [] (.e 15 [] .done .stop) .stop) .stop)) .stop))
def ym0 : V.Sched := (sv [0, 1, 2, 3, 4, 5] (.e 6 [1] (.e 7 [] .done .stop) .stop))
def ymz : V.Sched := (sv [0, 1, 2, 3, 4] (.e 5 [1] (sv [6] .done) .stop))
def yf2 : V.Sched := (sv [0, 1, 2, 3, 4] (.e 5 [] .done .stop))
def yf1 : V.Sched := (sv [0, 1, 2, 3, 4, 5, 6, 8, 9] (.e 7 [1, 3, 9] (.e 10 [1, 3] (sv [11] (.e 12 [1] (.e 13 [] (sv [14] .done) .stop) .stop)) .stop) .stop))
def yf0 : V.Sched := (sv [0, 1, 2, 3, 4] (.e 5 [] .done .stop))
def ymy : V.Sched := (sv [0, 1, 2, 3, 4, 5, 6, 7, 8] .done)
def ymx : V.Sched := (sv [0, 1, 2, 3, 4, 5] (.e 6 [] (sv [7] .done) .stop))
def ymw : V.Sched := (sv [0, 1, 2, 3, 4] (.e 5 [] (.e 6 [0, 1, 2, 3, 4] (.e 7 [] .done .stop) .stop) (.e 6 [0, 1, 2, 3, 4] (.e 5 [] (.e 7 [] .done .stop) .stop) .stop)))
def zjs : V.Sched := (sv [0, 1, 2, 3, 4] (.e 5 [0] (.e 6 [] (.e 7 [] .done .stop) .stop) .stop))
def yfz : V.Sched := (sv [0, 1, 2, 3, 4, 5, 6, 7, 8, 9, 10, 11, 12, 13, 14, 15, 16, 17, 18, 19, 20, 21, 22, 23, 24, 25, 26, 27] .done)
def ymv : V.Sched := (sv [0, 1, 2, 3] (.e 4 [] (sv [5, 6, 7, 8, 9, 10, 11] (.e 12 [] (sv [13, 14, 15, 16, 17, 18, 19, 20] (.e 21 [] (sv [22, 23] .done) .stop)) .stop)) .stop))
def yfy : V.Sched := (sv [0, 1, 2, 3, 4, 5, 6, 7] (.e 8 [] .done .stop))
def yhp : V.Sched := (sv [0, 1, 2, 3, 4, 5, 7, 8, 9, 10, 11, 12] (.e 6 [9, 12] (.e 13 [] (sv [14] (.e 15 [] .done .stop)) .stop) .stop))
def yho : V.Sched := (sv [0, 1, 3, 4] (.e 2 [4] (.e 5 [] (sv [6] (.e 7 [] .done .stop)) .stop) .stop))
def yhn : V.Sched := (sv [0, 1, 2, 3, 5, 6, 7, 8] (.e 4 [6, 8] (.e 9 [] (sv [10] (.e 11 [] .done .stop)) .stop) .stop))
def zp9 : V.Sched := (sv [0, 1, 2, 3, 4, 5, 6, 7, 9, 10, 11] (.e 8 [4, 9, 11] (.e 12 [] (sv [13] .done) .stop) .stop))
def zp8 : V.Sched := (sv [0, 1, 2, 3, 4, 5, 6, 7, 8, 9, 10, 11] (.e 12 [5, 7, 9] (sv [13] (.e 14 [] (sv [15, 16] .done) .stop)) .stop))
def yhm : V.Sched := (sv [0, 1, 2, 3, 4, 5, 6] (.e 7 [] (sv [8, 9, 10] (.e 11 [] (.e 12 [] .done .stop) .stop)) .stop))
def yhl : V.Sched := (sv [0, 1, 2, 3, 4, 5, 6, 7] (.e 8 [] .done .stop))
def yhk : V.Sched := (sv [0, 1, 2, 3, 4, 5, 6, 7] (.e 8 [] .done .stop))
def yhj : V.Sched := (sv [0, 1, 2, 3, 4, 5] (.e 6 [] .done .stop))
def zut : V.Sched := (sv [0, 1, 2, 3, 4, 5, 6, 7, 8, 9, 10, 11, 12, 13, 15, 16] (.e 14 [16] (.e 17 [13] (sv [18, 19, 20] .done) .stop) (.e 17 [13] (sv [18] (.e 14 [16] (sv [19, 20] .done) .stop)) .stop)))
def yhi : V.Sched := (sv [0, 1, 2, 3, 4, 5, 6, 7] (.e 8 [6] (.e 9 [] .done .stop) .stop))
def yhh : V.Sched := (sv [0, 1, 2, 3, 4, 5, 6, 7, 8, 9] (.e 10 [7] (.e 11 [] .done .stop) .stop))
def yhg : V.Sched := (sv [0, 1, 2, 3, 4, 6, 7, 8, 9, 10] (.e 5 [7] (.e 11 [] (.e 12 [] (.e 13 [] .done .stop) .stop) .stop) .stop))
def yhf : V.Sched := (sv [0, 1, 2, 3, 4, 6] (.e 5 [] (.e 7 [] (sv [8, 9, 10] (.e 11 [] (.e 12 [] .done .stop) .stop)) .stop) .stop))
def yhe : V.Sched := (sv [0, 1, 2, 3, 4, 5, 6, 7, 8, 9, 11, 12] (.e 10 [3, 4] (.e 13 [3, 4, 8, 9] (.e 14 [3, 4] (.e 15 [] .done .stop) .stop) .stop) (.e 13 [3, 4, 8, 9] (.e 10 [3, 4] (.e 14 [3, 4] (.e 15 [] .done .stop) .stop) .stop) .stop)))
def zp7 : V.Sched := (sv [0, 1, 2, 3, 4, 5] (.e 6 [] .done .stop))
def zp6 : V.Sched := (sv [0, 1, 2, 3, 4, 5, 6, 9] (.e 7 [] (sv [8] .done) .stop))
def yhd : V.Sched := (sv [0, 1, 2, 3, 5, 6, 7, 8] (.e 4 [6] (.e 9 [] (sv [10] (.e 11 [] .done .stop)) .stop) .stop))
def yhc : V.Sched := (sv [0, 1, 2, 3, 4, 5, 6, 7, 8, 9, 10, 11, 12] (.e 13 [] .done .stop))
def yhb : V.Sched := (sv [0, 1, 2, 3, 4] (.e 5 [] .done .stop))
def yha : V.Sched := (sv [0, 1, 2, 3, 4, 5, 6, 7, 8, 9] (.e 10 [3, 7] (.e 11 [0, 1, 2, 3, 4, 5, 6, 7, 8, 9] (.e 12 [0, 1, 2, 3, 4, 5, 6, 7, 8, 9] (.e 13 [] (.e 14 [] .done .stop) .stop) .stop) (.e 12 [0, 1, 2, 3, 4, 5, 6, 7, 8, 9] (.e 11 [0, 1, 2, 3, 4, 5, 6, 7, 8, 9] (.e 13 [] (.e 14 [] .done .stop) .stop) .stop) .stop)) (.e 11 [0, 1, 2, 3, 4, 5, 6, 7, 8, 9] (.e 10 [3, 7] (.e 12 [0, 1, 2, 3, 4, 5, 6, 7, 8, 9] (.e 13 [] (.e 14 [] .done .stop) .stop) .stop) (.e 12 [0, 1, 2, 3, 4, 5, 6, 7, 8, 9] (.e 10 [3, 7] (.e 13 [] (.e 14 [] .done .stop) .stop) .stop) .stop)) (.e 12 [0, 1, 2, 3, 4, 5, 6, 7, 8, 9] (.e 10 [3, 7] (.e 11 [0, 1, 2, 3, 4, 5, 6, 7, 8, 9] (.e 13 [] (.e 14 [] .done .stop) .stop) .stop) (.e 11 [0, 1, 2, 3, 4, 5, 6, 7, 8, 9] (.e 10 [3, 7] (.e 13 [] (.e 14 [] .done .stop) .stop) .stop) .stop)) .stop))))
def yg9 : V.Sched := (sv [0, 1, 2, 3, 4, 5, 6, 7, 8] (.e 9 [5] (sv [10, 11, 12, 13, 14, 15, 16, 17, 18, 19, 20, 21, 22, 23, 24, 25, 26, 27, 28, 29, 30, 31, 36, 37] (.e 32 [37] (sv [33, 34, 35, 38, 39, 40, 41] .done) .stop)) .stop))
def yg8 : V.Sched := (sv [0, 1, 2, 3, 4, 5, 6, 7] (.e 8 [] (sv [9, 10] (.e 11 [] .done .stop)) .stop))
def yg7 : V.Sched := (sv [0, 1, 2, 3, 4, 5, 6, 7, 8, 9] (.e 10 [3, 7] (.e 11 [0, 1, 2, 3, 4, 5, 6, 7, 8, 9] (.e 12 [0, 1, 2, 3, 4, 5, 6, 7, 8, 9] (.e 13 [] (.e 14 [] .done .stop) .stop) .stop) (.e 12 [0, 1, 2, 3, 4, 5, 6, 7, 8, 9] (.e 11 [0, 1, 2, 3, 4, 5, 6, 7, 8, 9] (.e 13 [] (.e 14 [] .done .stop) .stop) .stop) .stop)) (.e 11 [0, 1, 2, 3, 4, 5, 6, 7, 8, 9] (.e 10 [3, 7] (.e 12 [0, 1, 2, 3, 4, 5, 6, 7, 8, 9] (.e 13 [] (.e 14 [] .done .stop) .stop) .stop) (.e 12 [0, 1, 2, 3, 4, 5, 6, 7, 8, 9] (.e 10 [3, 7] (.e 13 [] (.e 14 [] .done .stop) .stop) .stop) .stop)) (.e 12 [0, 1, 2, 3, 4, 5, 6, 7, 8, 9] (.e 10 [3, 7] (.e 11 [0, 1, 2, 3, 4, 5, 6, 7, 8, 9] (.e 13 [] (.e 14 [] .done .stop) .stop) .stop) (.e 11 [0, 1, 2, 3, 4, 5, 6, 7, 8, 9] (.e 10 [3, 7] (.e 13 [] (.e 14 [] .done .stop) .stop) .stop) .stop)) .stop))))
def yg6 : V.Sched := (sv [0, 1, 2, 3] (.e 4 [1] (sv [5] .done) .stop))
def yg5 : V.Sched := (sv [0, 1, 2, 3, 4, 5, 6, 7, 8, 9, 10, 11, 12, 13, 14, 15, 16, 17, 18, 19, 20, 22] (.e 21 [] (sv [23, 24] (.e 25 [] .done .stop)) .stop))
def yg4 : V.Sched := (sv [0, 1, 2, 3, 4, 5, 6, 7, 8, 9, 10, 11] .done)
def yg3 : V.Sched := (sv [0, 1, 2, 3, 4, 5, 6, 7, 8, 9, 10, 11, 12] .done)
def yg2 : V.Sched := (sv [0, 1, 2, 3, 4, 5, 6, 7, 8, 9, 10, 11, 12] .done)
def yg1 : V.Sched := (sv [0, 1, 2, 3, 4, 5] (.e 6 [4] (.e 7 [] .done .stop) .stop))
def zbq : V.Sched := (sv [0, 1, 2, 3, 4, 5, 6, 7, 8, 9, 10, 11, 12, 14, 15] (.e 13 [] (sv [16] (.e 17 [] .done .stop)) .stop))
def yg0 : V.Sched := (sv [0, 1, 2, 4] (.e 3 [0, 1] (.e 5 [0, 1] (sv [6] (.e 7 [] (sv [8] (.e 9 [] .done .stop)) .stop)) .stop) .stop))
def ygz : V.Sched := (sv [0, 1, 2, 3, 4] (.e 5 [] (.e 6 [] .done .stop) .stop))
def ygy : V.Sched := (sv [0, 1, 2, 3, 4] (.e 5 [] .done .stop))
def zus : V.Sched := (sv [0, 1, 2, 3, 4, 5] (.e 6 [] .done .stop))
def ygx : V.Sched := (sv [0, 1, 3, 4] (.e 2 [4] (.e 5 [] (sv [6] (.e 7 [] .done .stop)) .stop) .stop))
def ygw : V.Sched := (sv [0, 1, 2, 4, 5, 6] (.e 3 [5, 6] (.e 7 [] (sv [8] (.e 9 [] (.e 10 [0, 1, 2, 4, 5, 6, 8] (.e 11 [] .done .stop) .stop) (.e 10 [0, 1, 2, 4, 5, 6, 8] (.e 9 [] (.e 11 [] .done .stop) .stop) .stop))) (.e 10 [0, 1, 2, 4, 5, 6] (.e 7 [] (sv [8] (.e 9 [] (.e 11 [] .done .stop) .stop)) .stop) .stop)) (.e 10 [0, 1, 2, 4, 5, 6] (.e 3 [5, 6] (.e 7 [] (sv [8] (.e 9 [] (.e 11 [] .done .stop) .stop)) .stop) .stop) .stop)))
def ygv : V.Sched := (sv [0, 1, 2, 4, 5, 6] (.e 3 [5, 6] (.e 7 [] (sv [8] (.e 9 [] (.e 10 [0, 1, 2, 4, 5, 6, 8] (.e 11 [] .done .stop) .stop) (.e 10 [0, 1, 2, 4, 5, 6, 8] (.e 9 [] (.e 11 [] .done .stop) .stop) .stop))) (.e 10 [0, 1, 2, 4, 5, 6] (.e 7 [] (sv [8] (.e 9 [] (.e 11 [] .done .stop) .stop)) .stop) .stop)) (.e 10 [0, 1, 2, 4, 5, 6] (.e 3 [5, 6] (.e 7 [] (sv [8] (.e 9 [] (.e 11 [] .done .stop) .stop)) .stop) .stop) .stop)))
def ygu : V.Sched := (sv [0, 1, 2, 3, 5, 6, 7, 8] (.e 4 [6, 8] (.e 9 [] (sv [10] (.e 11 [] .done .stop)) .stop) .stop))
def ygt : V.Sched := (sv [0, 1, 2, 3, 4, 5, 6, 7] (.e 8 [6] (.e 9 [] .done .stop) .stop))
def ygs : V.Sched := (sv [0, 1, 2, 3, 4, 5, 6, 7, 8, 9] (.e 10 [7] (.e 11 [] .done .stop) .stop))
def ygl : V.Sched := (sv [0, 1, 2, 3, 4, 5, 6, 7, 8, 9, 10, 11] .done)
def ygj : V.Sched := (sv [0, 1, 2, 3, 4, 5, 7] (.e 6 [0, 7] (.e 8 [] .done .stop) .stop))
def ygi : V.Sched := (sv [0, 1] (.e 2 [0] (.e 3 [] (sv [4] .done) .stop) .stop))
def ygh : V.Sched := (sv [0, 1, 2, 3, 4, 5] (.e 6 [] (.e 7 [] .done .stop) .stop))
def ygg : V.Sched := (sv [0, 1, 2, 3, 4, 5] (.e 6 [0] (sv [7] (.e 8 [] (.e 9 [] .done .stop) .stop)) .stop))
def ygf : V.Sched := (sv [0, 1, 2, 3, 4, 5, 6] (.e 7 [] (sv [8] (.e 9 [] .done .stop)) .stop))
def yge : V.Sched := (sv [0, 1, 2, 3, 4, 5, 6, 7, 8, 9, 10, 11, 13, 14, 15, 16, 17, 18, 19, 20, 21, 22, 23, 24] (.e 12 [16, 21, 24] (.e 25 [] (sv [26] (.e 27 [] .done .stop)) .stop) .stop))
def ygd : V.Sched := (sv [0, 1, 2, 3, 4, 5, 6, 7, 8, 9, 10, 11, 12, 13, 14, 15, 16, 17, 18, 19, 20, 21, 22, 23, 24, 25, 26, 27, 28, 29, 30, 31, 32, 33, 34, 35, 36, 37, 38] (.e 39 [] (sv [40, 41, 42, 43, 44, 45, 46] (.e 47 [] (sv [48, 49] .done) .stop)) .stop))
def ygc : V.Sched := (sv [0, 1, 2, 3, 4, 5, 6, 7, 8, 9, 10, 11, 12, 13] (.e 14 [] (sv [15] .done) .stop))
def ygb : V.Sched := (sv [0, 1, 2, 3, 4, 5, 6, 7, 8, 9, 10, 11, 12, 13, 14, 15, 16, 17, 18, 19, 20, 21, 22, 23, 24] (.e 25 [] (sv [26] (.e 27 [] .done .stop)) .stop))
def yga : V.Sched := (sv [0, 1, 2, 3, 4, 5, 6, 7, 8, 9, 10, 11] (.e 12 [] .done .stop))
def zur : V.Sched := (sv [0, 1, 2, 3, 4, 5, 6, 7, 8, 9, 10, 11, 12, 13, 14, 15, 16, 17, 18, 19] (.e 20 [] (sv [21] .done) .stop))
def zf5 : V.Sched := (sv [0, 1, 2, 3, 4, 5, 6, 7, 8, 9, 10, 11, 12, 13] (.e 14 [] (sv [15] .done) .stop))
def zf4 : V.Sched := (sv [0, 1, 2, 3, 4, 5, 6, 7, 8, 9, 10, 11, 12, 13, 14, 15, 16, 17, 18, 19, 20, 21, 22, 23, 24] (.e 25 [] (sv [26] (.e 27 [] .done .stop)) .stop))
def zcv : V.Sched := (sv [0, 1, 2, 3] (.e 4 [3] (.e 5 [] (.e 6 [] .done .stop) .stop) .stop))
def yf9 : V.Sched := (sv [0, 1, 2, 3, 4, 5] (.e 6 [] (.e 7 [] .done .stop) .stop))
def yf8 : V.Sched := (sv [0, 1, 2, 3, 4, 5, 6, 7] (.e 8 [6] (.e 9 [] .done .stop) .stop))
end Go.Proofs
namespace Go.Proofs
open Go Go.V
set_option maxRecDepth 4000
theorem zc : zw Tryz.prog infoTree.get := Tr.ok _ zot
def cfg (n : Nat) (G : List Nat := []) (W : List Nat := []) : Cfg := { n := n, I := infoTree.get, G := G, W := W }
end Go.Proofs
namespace Go.Proofs
open Go Go.V
set_option maxRecDepth 4000
set_option maxRecDepth 20000 in
theorem zmg (n : Int) (st : Store) (R : AV -> Store -> Prop) (h : ∀ z : Bool, (z = true ↔ zat n) -> R (bool z) st) : ACalls Tryz.prog 169 [int n] st R := by
 refine ACalls.of_body (c := cfg 9) zc Tryz.func169 (by rfl) (by rfl) (by rfl) (by rfl) ?_
 repeat' (first | refine bcd (fun _ => ?_) (fun _ => ?_) | refine zd (fun _ => ?_) (fun _ => ?_) | refine in64 (by omega) ?_ | fail)
 all_goals
  refine ret (h _ ?_)
  unfold zat
  simp only [decide_eq_true_eq, decide_eq_false_iff_not, Bool.false_eq_true, false_iff, true_iff, beq_iff_eq, bne_iff_ne, beq_eq_false_iff_ne, ne_eq, reduceCtorEq] at *
  omega
set_option maxRecDepth 20000 in
theorem zlp (n : Int) (st : Store) (R : AV -> Store -> Prop) (h : ∀ z : Bool, (z = true ↔ 1 <= n /\ n <= 128) -> R (bool z) st) : ACalls Tryz.prog 193 [int n] st R := by
 refine ACalls.of_body (c := cfg 9) zc Tryz.func193 (by rfl) (by rfl) (by rfl) (by rfl) ?_
 repeat' (first | refine bcd (fun _ => ?_) (fun _ => ?_) | refine zd (fun _ => ?_) (fun _ => ?_) | refine in64 (by omega) ?_ | fail)
 all_goals
  refine ret (h _ ?_)
  simp only [decide_eq_true_eq, decide_eq_false_iff_not, Bool.false_eq_true, false_iff, true_iff, beq_iff_eq, bne_iff_ne, beq_eq_false_iff_ne, ne_eq, reduceCtorEq] at *
  omega
set_option maxRecDepth 20000 in
theorem zv0 (n hi : Int) (st : Store) (R : AV -> Store -> Prop) (h : ∀ z : Bool, (z = true ↔ 0 <= n /\ n <= hi) -> R (bool z) st) : ACalls Tryz.prog 94 [int n, int hi] st R := by
 refine ACalls.of_body (c := cfg 12) zc Tryz.func94 (by rfl) (by rfl) (by rfl) (by rfl) ?_
 repeat' (first | refine bcd (fun _ => ?_) (fun _ => ?_) | refine zd (fun _ => ?_) (fun _ => ?_) | refine in64 (by omega) ?_ | fail)
 all_goals
  refine ret (h _ ?_)
  simp only [decide_eq_true_eq, decide_eq_false_iff_not, Bool.false_eq_true, false_iff, true_iff, beq_iff_eq, bne_iff_ne, beq_eq_false_iff_ne, ne_eq, reduceCtorEq] at *
  omega
set_option maxRecDepth 20000 in
theorem zsc (p : Vc) (st : Store) (R : AV -> Store -> Prop) (h : ∀ z : Bool, (z = true ↔ qv p.1 p.2) -> R (bool z) st) : ACalls Tryz.prog 220 [.agg (vecC p)] st R := by
 refine ACalls.of_body (c := cfg 21) zc Tryz.func220 (by rfl) (by rfl) (by rfl) (by rfl) ?_
 repeat' (first | refine bcd (fun _ => ?_) (fun _ => ?_) | refine zd (fun _ => ?_) (fun _ => ?_) | refine in64 (by omega) ?_ | fail)
 all_goals
  refine ret (h _ ?_)
  unfold qv
  simp only [decide_eq_true_eq, decide_eq_false_iff_not, Bool.false_eq_true, false_iff, true_iff, beq_iff_eq, bne_iff_ne, beq_eq_false_iff_ne, ne_eq, reduceCtorEq] at *
  omega
set_option maxRecDepth 20000 in
theorem zth (b : Bld) (st : Store) (R : AV -> Store -> Prop) (h : ∀ z : Bool, (z = true ↔ bldP b) -> R (bool z) st) : ACalls Tryz.prog 196 [.agg (bldC b)] st R := by
 refine ACalls.of_body (c := cfg 41) zc Tryz.func196 (by rfl) (by rfl) (by rfl) (by rfl) ?_
 repeat' (first | refine bcd (fun _ => ?_) (fun _ => ?_) | refine zd (fun _ => ?_) (fun _ => ?_) | refine in64 (by omega) ?_ | fail)
 all_goals
  refine ret (h _ ?_)
  unfold bldP
  simp only [decide_eq_true_eq, decide_eq_false_iff_not, Bool.false_eq_true, false_iff, true_iff, beq_iff_eq, bne_iff_ne, beq_eq_false_iff_ne, ne_eq, reduceCtorEq] at *
  omega
set_option maxRecDepth 20000 in
theorem zrl (b : Bld) (st : Store) (R : AV -> Store -> Prop) (h : ∀ z : Bool, (z = true ↔ bldP b) -> R (bool z) st) : ACalls Tryz.prog 152 [.agg (bldC b)] st R := by
 refine ACalls.of_body (c := cfg 41) zc Tryz.func152 (by rfl) (by rfl) (by rfl) (by rfl) ?_
 repeat' (first | refine bcd (fun _ => ?_) (fun _ => ?_) | refine zd (fun _ => ?_) (fun _ => ?_) | refine in64 (by omega) ?_ | fail)
 all_goals
  refine ret (h _ ?_)
  unfold bldP
  simp only [decide_eq_true_eq, decide_eq_false_iff_not, Bool.false_eq_true, false_iff, true_iff, beq_iff_eq, bne_iff_ne, beq_eq_false_iff_ne, ne_eq, reduceCtorEq] at *
  omega
set_option maxRecDepth 20000 in
theorem yi7 (g : Gnd) (b : Bld) (hg : gndP g) (hb : bldP b) (st : Store) (R : AV -> Store -> Prop) (h : ∀ z : Bool, (z = true ↔ onP g b) -> R (bool z) st) : ACalls Tryz.prog 197 [.agg (gndC g), .agg (bldC b)] st R := by
 obtain ⟨h1, h2, _, _⟩ := hg; obtain ⟨_, _, h3, h4⟩ := hb
 refine ACalls.of_body (c := cfg 33) zc Tryz.func197 (by rfl) (by rfl) (by rfl) (by rfl) ?_
 repeat' (first | refine bcd (fun _ => ?_) (fun _ => ?_) | refine zd (fun _ => ?_) (fun _ => ?_) | refine in64 (by omega) ?_ | fail)
 all_goals
  refine ret (h _ ?_)
  unfold onP
  simp only [decide_eq_true_eq, decide_eq_false_iff_not, Bool.false_eq_true, false_iff, true_iff, beq_iff_eq, bne_iff_ne, beq_eq_false_iff_ne, ne_eq, reduceCtorEq] at *
  omega
set_option maxRecDepth 20000 in
theorem yhx (g : Gnd) (b : Bld) (hg : gndP g) (hb : bldP b) (st : Store) (R : AV -> Store -> Prop) (h : ∀ z : Bool, (z = true ↔ onP g b) -> R (bool z) st) : ACalls Tryz.prog 153 [.agg (gndC g), .agg (bldC b)] st R := by
 obtain ⟨h1, h2, _, _⟩ := hg; obtain ⟨_, _, h3, h4⟩ := hb
 refine ACalls.of_body (c := cfg 47) zc Tryz.func153 (by rfl) (by rfl) (by rfl) (by rfl) ?_
 repeat' (first | refine bcd (fun _ => ?_) (fun _ => ?_) | refine zd (fun _ => ?_) (fun _ => ?_) | refine in64 (by omega) ?_ | fail)
 all_goals
  refine ret (h _ ?_)
  unfold onP
  simp only [decide_eq_true_eq, decide_eq_false_iff_not, Bool.false_eq_true, false_iff, true_iff, beq_iff_eq, bne_iff_ne, beq_eq_false_iff_ne, ne_eq, reduceCtorEq] at *
  omega
set_option maxRecDepth 20000 in
theorem yn3 (g : Gnd) (t : Int) (hg : gndP g) (st : Store) (R : AV -> Store -> Prop) (h : ∀ z : Bool, (z = true ↔ 0 <= t /\ t < g.W * g.H) -> R (bool z) st) : ACalls Tryz.prog 201 [.agg (gndC g), int t] st R := by
 have hm := zr hg
 refine ACalls.of_body (c := cfg 16) zc Tryz.func201 (by rfl) (by rfl) (by rfl) (by rfl) ?_
 repeat' (first | refine bcd (fun _ => ?_) (fun _ => ?_) | refine zd (fun _ => ?_) (fun _ => ?_) | refine in64 (by omega) ?_ | fail)
 all_goals
  refine ret (h _ ?_)
  simp only [decide_eq_true_eq, decide_eq_false_iff_not, Bool.false_eq_true, false_iff, true_iff, beq_iff_eq, bne_iff_ne, beq_eq_false_iff_ne, ne_eq, reduceCtorEq] at *
  omega
set_option maxRecDepth 20000 in
theorem zh4 (g : Gnd) (t : Int) (hg : gndP g) (st : Store) (R : AV -> Store -> Prop) (h : ∀ z : Bool, (z = true ↔ 0 <= t /\ t < g.W * g.H) -> R (bool z) st) : ACalls Tryz.prog 96 [.agg (gndC g), int t] st R := by
 have hm := zr hg
 refine ACalls.of_body (c := cfg 16) zc Tryz.func96 (by rfl) (by rfl) (by rfl) (by rfl) ?_
 repeat' (first | refine bcd (fun _ => ?_) (fun _ => ?_) | refine zd (fun _ => ?_) (fun _ => ?_) | refine in64 (by omega) ?_ | fail)
 all_goals
  refine ret (h _ ?_)
  simp only [decide_eq_true_eq, decide_eq_false_iff_not, Bool.false_eq_true, false_iff, true_iff, beq_iff_eq, bne_iff_ne, beq_eq_false_iff_ne, ne_eq, reduceCtorEq] at *
  omega
set_option maxRecDepth 20000 in
theorem zi9 (g : Gnd) (t : Int) (hg : gndP g) (st : Store) (R : AV -> Store -> Prop) (h : ∀ z : Bool, (z = true ↔ wz g t) -> R (bool z) st) : ACalls Tryz.prog 170 [.agg (gndC g), int t] st R := by
 refine ACalls.of_body (c := cfg 12) zc Tryz.func170 (by rfl) (by rfl) (by rfl) (by rfl) ?_
 repeat' (first | refine bcd (fun _ => ?_) (fun _ => ?_) | refine zd (fun _ => ?_) (fun _ => ?_) | refine in64 (by omega) ?_ | (refine yn3 _ _ hg _ _ ?_; rintro (_ | _) hz)| fail)
 all_goals
  refine ret (h _ ?_)
  unfold wz
  simp only [decide_eq_true_eq, decide_eq_false_iff_not, Bool.false_eq_true, false_iff, true_iff, beq_iff_eq, bne_iff_ne, beq_eq_false_iff_ne, ne_eq, reduceCtorEq] at *
  omega
set_option maxRecDepth 20000 in
theorem zsw (g : Gnd) (l : List Bld) (st : Store) (R : AV -> Store -> Prop) (h : ∀ z : Bool, (z = true ↔ g.T.length > 700 \/ l.length > 30) -> R (bool z) st) : ACalls Tryz.prog 84 [.agg (gndC g), lst 6 bldC l] st R := by
 refine ACalls.of_body (c := cfg 14) zc Tryz.func84 (by rfl) (by rfl) (by rfl) (by rfl) ?_
 repeat' (first | refine bcd (fun _ => ?_) (fun _ => ?_) | refine zd (fun _ => ?_) (fun _ => ?_) | refine in64 (by omega) ?_ | fail)
 all_goals
  refine ret (h _ ?_)
  simp only [decide_eq_true_eq, decide_eq_false_iff_not, Bool.false_eq_true, false_iff, true_iff, beq_iff_eq, bne_iff_ne, beq_eq_false_iff_ne, ne_eq, reduceCtorEq, zi] at *
  omega
set_option maxRecDepth 20000 in
theorem zgs (w : Wld) (st : Store) (R : AV -> Store -> Prop) (h : ∀ z : Bool, (z = true ↔ zmq w) -> R (bool z) st) : ACalls Tryz.prog 39 [.agg (wldC w)] st R := by
 refine ACalls.of_body (c := cfg 14) zc Tryz.func39 (by rfl) (by rfl) (by rfl) (by rfl) ?_
 repeat' (first | refine bcd (fun _ => ?_) (fun _ => ?_) | refine zd (fun _ => ?_) (fun _ => ?_) | refine in64 (by omega) ?_ | (refine zsw w.G w.B _ _ ?_; rintro (_ | _) hz)| fail)
 all_goals
  refine ret (h _ ?_)
  unfold zmq
  simp only [decide_eq_true_eq, decide_eq_false_iff_not, Bool.false_eq_true, false_iff, true_iff, beq_iff_eq, bne_iff_ne, beq_eq_false_iff_ne, ne_eq, reduceCtorEq, zi] at *
  omega
set_option maxRecDepth 20000 in
theorem ztp (w : Wld) (u : Unt) (hg : gndP w.G) (st : Store) (R : AV -> Store -> Prop) (h : ∀ z : Bool, (z = true ↔ untP w u) -> R (bool z) st) : ACalls Tryz.prog 114 [.agg (wldC w), .agg (untC u)] st R := by
 refine ACalls.of_body (c := cfg 90) zc Tryz.func114 (by rfl) (by rfl) (by rfl) (by rfl) ?_
 repeat' (first | refine bcd (fun _ => ?_) (fun _ => ?_) | refine zd (fun _ => ?_) (fun _ => ?_) | refine in64 (by omega) ?_ | (refine zmg u.kind _ _ ?_; rintro (_ | _) hz)| (refine zi9 w.G u.goal hg _ _ ?_; rintro (_ | _) hz)| (refine zi9 w.G u.next hg _ _ ?_; rintro (_ | _) hz)| fail)
 all_goals
  refine ret (h _ ?_)
  simp only [decide_eq_true_eq, decide_eq_false_iff_not, Bool.false_eq_true, false_iff, true_iff, beq_iff_eq, bne_iff_ne, beq_eq_false_iff_ne, ne_eq, reduceCtorEq, untP, zat, wz] at *
  first | omega | (clear h; rcases Decidable.em (u.state = 1) with e1 | e1 <;> rcases Decidable.em (u.goal = -1) with e2 | e2 <;> simp [bne, beqD, e1, e2] at * <;> omega)
end Go.Proofs
namespace Go.Proofs
open Go Go.V
set_option maxRecDepth 4000
theorem zn0 {t : UInt8} (h : t.toNat <= 5) : t = 0 \/ t = 1 \/ t = 2 \/ t = 3 \/ t = 4 \/ t = 5 := by
 have : t.toNat = (0 : UInt8).toNat \/ t.toNat = (1 : UInt8).toNat \/ t.toNat = (2 : UInt8).toNat \/ t.toNat = (3 : UInt8).toNat \/ t.toNat = (4 : UInt8).toNat \/ t.toNat = (5 : UInt8).toNat := by
  show t.toNat = 0 \/ t.toNat = 1 \/ t.toNat = 2 \/ t.toNat = 3 \/ t.toNat = 4 \/ t.toNat = 5
  omega
 simpa only [UInt8.toNat_inj] using this
theorem ye (k : Int) (st : Store) (R : AV -> Store -> Prop) (h : R (.agg (zd4 k)) st) : ACalls Tryz.prog 137 [int k] st R := by
 refine ACalls.of_body (c := cfg 14) zc Tryz.func137 (by rfl) (by rfl) (by rfl) (by rfl) ?_
 unfold zd4 kRad yl kCls yy wv at h
 refine bceq (fun h1 => ?_) (fun h1 => ?_)
 ·simp only [h1] at h
  exact ret h
 refine bceq (fun h2 => ?_) (fun h2 => ?_)
 ·simp only [h2] at h
  exact ret h
 refine bceq (fun h3 => ?_) (fun h3 => ?_)
 ·simp only [h3] at h
  exact ret h
 simp only [h1, h2, h3, if_false] at h
 exact ret h
theorem zqp (k : Int) (st : Store) (R : AV -> Store -> Prop) (h : zat k -> R (.tup [.agg (zd4 k), bool true]) st) (h' : ¬ zat k -> R (.tup [.agg [int 0, int 0, int 0, int 0, int 0], bool false]) st) : ACalls Tryz.prog 61 [int k] st R := by
 refine ACalls.of_body (c := cfg 18) zc Tryz.func61 (by rfl) (by rfl) (by rfl) (by rfl) ?_
 unfold zd4 kRad yl kCls yy wv zat at h
 refine bceq (fun h1 => ?_) (fun h1 => ?_)
 ·simp only [h1] at h
  exact ret (h (by decide))
 refine bceq (fun h2 => ?_) (fun h2 => ?_)
 ·simp only [h2] at h
  exact ret (h (by decide))
 refine bceq (fun h3 => ?_) (fun h3 => ?_)
 ·simp only [h3] at h
  exact ret (h (by decide))
 refine bceq (fun h4 => ?_) (fun h4 => ?_)
 ·simp only [h4] at h
  exact ret (h (by decide))
 exact ret (h' (by unfold zat; omega))
theorem jm (k : Int) (hk : zat k) (st : Store) (R : AV -> Store -> Prop) (h : R (.agg (zd4 k)) st) : ACalls Tryz.prog 23 [int k] st R := by
 refine ACalls.of_body (c := cfg 11) zc Tryz.func23 (by rfl) (by rfl) (by rfl) (by rfl) ?_
 refine zqp k _ _ (fun _ => ret h) (fun h1 => absurd hk h1)
theorem zdv (c : Int) (t : UInt8) (ht : t.toNat <= 5) (st : Store) (R : AV -> Store -> Prop) (h : R (int (zar c t.toNat)) st) : ACalls Tryz.prog 222 [int c, u8 t] st R := by
 refine ACalls.of_body (c := cfg 17) zc Tryz.func222 (by rfl) (by rfl) (by rfl) (by rfl) ?_
 unfold zar at h
 have hn := zn0 ht
 refine bceq (fun h1 => ?_) (fun h1 => ?_)
 ·rw [if_pos h1] at h
  rcases hn with rfl | rfl | rfl | rfl | rfl | rfl <;> exact ⟨_, rfl, by decide, optR (ret h)⟩
 refine bceq (fun h2 => ?_) (fun h2 => ?_)
 ·rw [if_neg h1, if_pos h2] at h
  rcases hn with rfl | rfl | rfl | rfl | rfl | rfl <;> exact ⟨_, rfl, by decide, optR (ret h)⟩
 rw [if_neg h1, if_neg h2] at h
 rcases hn with rfl | rfl | rfl | rfl | rfl | rfl <;> exact ⟨_, rfl, by decide, optR (ret h)⟩
theorem zg2 (c : Int) (hc : c = 0 \/ c = 1 \/ c = 2) (t : UInt8) (ht : t.toNat <= 5) (st : Store) (R : AV -> Store -> Prop) (h : R (int (zar c t.toNat)) st) : ACalls Tryz.prog 157 [int c, u8 t] st R := by
 refine ACalls.of_body (c := cfg 15) zc Tryz.func157 (by rfl) (by rfl) (by rfl) (by rfl) ?_
 unfold zar at h
 have hn := zn0 ht
 rcases hc with rfl | rfl | rfl <;> rcases hn with rfl | rfl | rfl | rfl | rfl | rfl <;> exact ⟨_, rfl, by decide, _, rfl, by decide, optR (ret h)⟩
end Go.Proofs
namespace Go.Proofs
open Go Go.V
set_option maxRecDepth 4000
theorem k6 (n : Int) (st : Store) (R : AV -> Store -> Prop) (h : R (int (nrm n)) st) : ACalls Tryz.prog 159 [int n] st R := by
 refine ACalls.of_body (c := cfg 5) zc Tryz.func159 (by rfl) (by rfl) (by rfl) (by rfl) ?_
 rw [<- ypl] at h
 exact ret h
theorem yh8 (n : Int) (hn : yi n) (st : Store) (R : AV -> Store -> Prop) (h : R (int (-nrm n)) st) : ACalls Tryz.prog 212 [int n] st R := by
 refine ACalls.of_body (c := cfg 6) zc Tryz.func212 (by rfl) (by rfl) (by rfl) (by rfl) ?_
 refine k6 n _ _ ?_
 have := v7 hn
 refine ⟨⟨by omega, by omega⟩, ?_⟩
 rw [show -nrm n = 0 - nrm n by omega] at h
 exact ret h
theorem vx (a b : Int) (ha : yi a) (hb : yi b) (st : Store) (R : AV -> Store -> Prop) (h : R (int (fadd a b)) st) : ACalls Tryz.prog 160 [int a, int b] st R := by
 refine ACalls.of_body (c := cfg 30) zc Tryz.func160 (by rfl) (by rfl) (by rfl) (by rfl) ?_
 refine k6 a _ _ ?_
 refine k6 b _ _ ?_
 have h1 := v7 ha
 have h2 := v7 hb
 unfold fadd at h
 generalize nrm a = x at *
 generalize nrm b = y at *
 have k1 : x + y > 9223372036854775807 -> R (int 9223372036854775807) st := fun hh => by rw [show j2 (x + y) = 9223372036854775807 by unfold j2; simp [hh]] at h; exact h
 have k2 : x + y < -9223372036854775807 -> R (int (-9223372036854775807)) st := fun hh => by rw [show j2 (x + y) = -9223372036854775807 by unfold j2; rw [if_neg (by omega), if_pos hh]] at h; exact h
 have k3 : ¬ x + y > 9223372036854775807 -> ¬ x + y < -9223372036854775807 -> yi (x + y) /\ R (int (x + y)) st := fun hh hh' => ⟨⟨by omega, by omega⟩, by rw [show j2 (x + y) = x + y by unfold j2; rw [if_neg hh, if_neg hh']] at h; exact h⟩
 have fin : ¬ x + y > 9223372036854775807 -> ¬ x + y < -9223372036854775807 -> yi (x + y) /\ ∃ r st', AV.le (int (x + y)) r /\ st.Has st' /\ R r st' := fun hh hh' => ⟨(k3 hh hh').1, ret (k3 hh hh').2⟩
 have e : Int.negSucc 9223372036854775806 = -9223372036854775807 := rfl
 refine bcd (fun c1 => ?_) (fun c1 => ?_)
 ·refine ⟨⟨by omega, by omega⟩, ?_⟩
  refine bcd (fun c2 => ?_) (fun c2 => ?_)
  ·exact ret (k1 (by omega))
  ·refine bcd (fun c3 => ?_) (fun c3 => ?_)
   ·omega
   ·exact fin (by omega) (by omega)
 ·refine bcd (fun c3 => ?_) (fun c3 => ?_)
  ·refine ⟨⟨by omega, by omega⟩, ?_⟩
   refine bcd (fun c4 => ?_) (fun c4 => ?_)
   ·exact ret (k2 (by omega))
   ·exact fin (by omega) (by omega)
  ·exact fin (by omega) (by omega)
theorem vn (a b : Int) (ha : yi a) (hb : yi b) (st : Store) (R : AV -> Store -> Prop) (h : R (int (fsub a b)) st) : ACalls Tryz.prog 183 [int a, int b] st R := by
 refine ACalls.of_body (c := cfg 9) zc Tryz.func183 (by rfl) (by rfl) (by rfl) (by rfl) ?_
 refine yh8 b hb _ _ ?_
 have h2 := v7 hb
 exact vx a (-nrm b) ha ⟨by omega, by omega⟩ _ _ (ret h)
theorem zky (n : Int) (hn : yi n) (st : Store) (R : AV -> Store -> Prop) (h : R (.tup [u64 (asz n), bool (decide (nrm n < 0))]) st) : ACalls Tryz.prog 214 [int n] st R := by
 refine ACalls.of_body (c := cfg 13) zc Tryz.func214 (by rfl) (by rfl) (by rfl) (by rfl) ?_
 refine k6 n _ _ ?_
 have h1 := v7 hn
 unfold asz at h
 generalize nrm n = x at *
 refine bcd (fun c1 => ?_) (fun c1 => ?_)
 ·refine ⟨⟨by omega, by omega⟩, ?_⟩
  rw [if_pos c1, show decide (x < 0) = true by simp [c1]] at h
  rw [<- ya (v := -x) (by omega) (by omega), show -x = 0 - x by omega] at h
  exact ret h
 ·rw [if_neg c1, show decide (x < 0) = false by simp [c1]] at h
  rw [<- ya (v := x) (by omega) (by omega)] at h
  exact ret h
set_option maxHeartbeats 1000000 in
theorem zd0 (x y : Int) (hx : 0 <= x) (hx2 : x < 18446744073709551616) (hy : 0 <= y) (hy2 : y < 18446744073709551616) (st : Store) (R : AV -> Store -> Prop) (h : R (.tup (x6 (x * y))) st) :
  ACalls Tryz.prog 215 [u64 x, u64 y] st R := by
 refine ACalls.of_body (c := cfg 51) zc Tryz.func215 (by rfl) (by rfl) (by rfl) (by rfl) ?_
 refine ⟨by decide, ?_⟩
 refine ⟨by decide, ?_⟩
 refine ⟨by decide, ?_⟩
 refine ⟨by decide, ?_⟩
 refine ⟨by decide, ?_⟩
 refine ret ((congrArg (fun l => R (.tup l) st) ?_).mpr h)
 obtain ⟨p00, p10, p01, p11, e1, e2, e3, e4, e5, b⟩ := zfu x y hx hx2 hy hy2
 simp only [yqb, zto hx, zto hy, zaw, <- e1, <- e2, <- e3, <- e4]
 rw [zto (Int.emod_nonneg _ (by decide))]
 unfold x6 u64
 refine congr (congrArg _ ?_) rfl
 refine congrArg (fun n => AV.s (.int .u64 n)) ?_
 omega
set_option maxHeartbeats 1000000 in
theorem wi (x y : Int) (hx : 0 <= x) (hx2 : x < 18446744073709551616) (hy : 0 <= y) (hy2 : y < 18446744073709551616) (st : Store) (R : AV -> Store -> Prop) (h : R (.agg (x6 (x * y))) st) :
  ACalls Tryz.prog 100 [u64 x, u64 y] st R := by
 refine ACalls.of_body (c := cfg 46) zc Tryz.func100 (by rfl) (by rfl) (by rfl) (by rfl) ?_
 refine ⟨by decide, ?_⟩
 refine ⟨by decide, ?_⟩
 refine ⟨by decide, ?_⟩
 refine ⟨by decide, ?_⟩
 refine ⟨by decide, ?_⟩
 refine ⟨by decide, ?_⟩
 refine ⟨by decide, ?_⟩
 refine ⟨by decide, ?_⟩
 refine ret ((congrArg (fun l => R (.agg l) st) ?_).mpr h)
 obtain ⟨p00, p10, p01, p11, e1, e2, e3, e4, e5, b⟩ := zfu x y hx hx2 hy hy2
 simp only [yqf, ypx, zto hx, zto hy, zaw, <- e1, <- e2, <- e3, <- e4]
 simp only [zto (Int.emod_nonneg _ (show (18446744073709551616 : Int) ≠ 0 by decide))]
 rw [or32 (Int.emod_nonneg _ (by decide)) (Int.emod_nonneg _ (by decide)) (by omega)]
 refine zjc ?_ ?_
 ·omega
 ·omega
theorem vt (x : Int) (hx : 0 <= x) (hx2 : x < 18446744073709551616) (st : Store) (R : AV -> Store -> Prop) (h : R (.agg (x6 (x * x))) st) : ACalls Tryz.prog 211 [u64 x] st R := by
 refine ACalls.of_body (c := cfg 14) zc Tryz.func211 (by rfl) (by rfl) (by rfl) (by rfl) ?_
 exact zd0 x x hx hx2 hx hx2 _ _ (ret h)
theorem zi8 (a b : Int) (ha : 0 <= a) (hb : 0 <= b) (st : Store) (R : AV -> Store -> Prop) (h : R (bool (decide (a < b))) st) : ACalls Tryz.prog 210 [.agg (x6 a), .agg (x6 b)] st R := by
 refine ACalls.of_body (c := cfg 24) zc Tryz.func210 (by rfl) (by rfl) (by rfl) (by rfl) ?_
 refine bcd (fun c1 => ?_) (fun c1 => ?_)
 ·exact ret (isT h (by simp; omega))
 ·refine bceq (fun c2 => ?_) (fun c2 => ?_)
  ·refine ret ?_
   have : decide (a < b) = decide (a % 18446744073709551616 < b % 18446744073709551616) := by
    rw [Bool.eq_iff_iff]; simp; omega
   rw [this] at h; exact h
  ·exact ret (isF h (by simp; omega))
theorem zmd (a b : Int) (ha : 0 <= a) (hb : 0 <= b) (st : Store) (R : AV -> Store -> Prop) (h : R (bool (decide (a < b))) st) : ACalls Tryz.prog 99 [.agg (x6 a), .agg (x6 b)] st R := by
 refine ACalls.of_body (c := cfg 24) zc Tryz.func99 (by rfl) (by rfl) (by rfl) (by rfl) ?_
 refine bcd (fun c1 => ?_) (fun c1 => ?_)
 ·exact ret (isT h (by simp; omega))
 ·refine bceq (fun c2 => ?_) (fun c2 => ?_)
  ·refine ret ?_
   have : decide (a < b) = decide (a % 18446744073709551616 < b % 18446744073709551616) := by
    rw [Bool.eq_iff_iff]; simp; omega
   rw [this] at h; exact h
  ·exact ret (isF h (by simp; omega))
theorem jy (n : Int) (st : Store) (R : AV -> Store -> Prop) (h : R (int (nrm n)) st) : ACalls Tryz.prog 65 [int n] st R := by
 refine ACalls.of_body (c := cfg 6) zc Tryz.func65 (by rfl) (by rfl) (by rfl) (by rfl) ?_
 refine bcd (fun c1 => ?_) (fun c1 => ?_)
 ·rw [show nrm n = -9223372036854775807 by unfold nrm; rw [if_pos c1]] at h; exact ret h
 ·rw [show nrm n = n by unfold nrm; rw [if_neg c1]] at h; exact ret h
theorem zu3 (n : Int) (hn : yi n) (st : Store) (R : AV -> Store -> Prop) (h : R (int (-nrm n)) st) : ACalls Tryz.prog 104 [int n] st R := by
 refine ACalls.of_body (c := cfg 6) zc Tryz.func104 (by rfl) (by rfl) (by rfl) (by rfl) ?_
 refine jy n _ _ ?_
 have := v7 hn
 refine ⟨⟨by omega, by omega⟩, ?_⟩
 rw [show -nrm n = 0 - nrm n by omega] at h
 exact ret h
theorem zgh (a b : Int) (ha : yi a) (hb : yi b) (st : Store) (R : AV -> Store -> Prop) (h : R (int (fadd a b)) st) : ACalls Tryz.prog 103 [int a, int b] st R := by
 refine ACalls.of_body (c := cfg 28) zc Tryz.func103 (by rfl) (by rfl) (by rfl) (by rfl) ?_
 refine jy a _ _ ?_
 refine jy b _ _ ?_
 have h1 := v7 ha
 have h2 := v7 hb
 unfold fadd at h
 generalize nrm a = x at *
 generalize nrm b = y at *
 have k1 : x + y > 9223372036854775807 -> R (int 9223372036854775807) st := fun hh => by rw [show j2 (x + y) = 9223372036854775807 by unfold j2; simp [hh]] at h; exact h
 have k2 : x + y < -9223372036854775807 -> R (int (-9223372036854775807)) st := fun hh => by rw [show j2 (x + y) = -9223372036854775807 by unfold j2; rw [if_neg (by omega), if_pos hh]] at h; exact h
 have k3 : ¬ x + y > 9223372036854775807 -> ¬ x + y < -9223372036854775807 -> yi (x + y) /\ R (int (x + y)) st := fun hh hh' => ⟨⟨by omega, by omega⟩, by rw [show j2 (x + y) = x + y by unfold j2; rw [if_neg hh, if_neg hh']] at h; exact h⟩
 have fin : ¬ x + y > 9223372036854775807 -> ¬ x + y < -9223372036854775807 -> yi (x + y) /\ ∃ r st', AV.le (int (x + y)) r /\ st.Has st' /\ R r st' := fun hh hh' => ⟨(k3 hh hh').1, ret (k3 hh hh').2⟩
 refine bcd (fun c1 => ?_) (fun c1 => ?_)
 ·refine ⟨⟨by omega, by omega⟩, ?_⟩
  refine bcd (fun c2 => ?_) (fun c2 => ?_)
  ·exact ret (k1 (by omega))
  ·refine bcd (fun c3 => ?_) (fun c3 => ?_)
   ·omega
   ·exact fin (by omega) (by omega)
 ·refine bcd (fun c3 => ?_) (fun c3 => ?_)
  ·refine ⟨⟨by omega, by omega⟩, ?_⟩
   refine bcd (fun c4 => ?_) (fun c4 => ?_)
   ·exact ret (k2 (by omega))
   ·exact fin (by omega) (by omega)
  ·exact fin (by omega) (by omega)
theorem zlr (a b : Int) (ha : yi a) (hb : yi b) (st : Store) (R : AV -> Store -> Prop) (h : R (int (fsub a b)) st) : ACalls Tryz.prog 60 [int a, int b] st R := by
 refine ACalls.of_body (c := cfg 9) zc Tryz.func60 (by rfl) (by rfl) (by rfl) (by rfl) ?_
 refine zu3 b hb _ _ ?_
 have h2 := v7 hb
 exact zgh a (-nrm b) ha ⟨by omega, by omega⟩ _ _ (ret h)
theorem zdt (n : Int) (hn : -9223372036854775807 <= n /\ n <= 9223372036854775807) (st : Store) (R : AV -> Store -> Prop) (h : R (u64 (asz n)) st) : ACalls Tryz.prog 101 [int n] st R := by
 refine ACalls.of_body (c := cfg 10) zc Tryz.func101 (by rfl) (by rfl) (by rfl) (by rfl) ?_
 unfold asz at h
 rw [qx (by omega)] at h
 refine bcd (fun c1 => ?_) (fun c1 => ?_)
 ·refine ⟨⟨by omega, by omega⟩, ?_⟩
  rw [if_pos c1, <- ya (v := -n) (by omega) (by omega), show -n = 0 - n by omega] at h
  exact ret h
 ·rw [if_neg c1, <- ya (v := n) (by omega) (by omega)] at h
  exact ret h
theorem zrs (a b : Int) (ha : 0 <= a) (hb : 0 <= b) (hab : a + b < 340282366920938463463374607431768211456) (st : Store) (R : AV -> Store -> Prop) (h : R (.agg (x6 (a + b))) st) : ACalls Tryz.prog 102 [.agg (x6 a), .agg (x6 b)] st R := by
 refine ACalls.of_body (c := cfg 27) zc Tryz.func102 (by rfl) (by rfl) (by rfl) (by rfl) ?_
 refine bcd (fun c1 => ?_) (fun c1 => ?_)
 ·refine ret ((congrArg (fun l => R (.agg l) st) ?_).mpr h)
  simp only [zaw] at c1 ⊢
  refine zjc ?_ ?_
  ·omega
  ·omega
 ·refine ret ((congrArg (fun l => R (.agg l) st) ?_).mpr h)
  simp only [zaw] at c1 ⊢
  refine zjc ?_ ?_
  ·omega
  ·omega
end Go.Proofs
namespace Go.Proofs
open Go Go.V
set_option maxRecDepth 4000
theorem zjb (x y c : Int) (hx : 0 <= x) (hy : 0 <= y) (hc : 0 <= c) (hc1 : c <= 1) (st : Store) (R : AV -> Store -> Prop) (h : R (.tup [u64 ((x + y + c) % 18446744073709551616), u64 ((x + y + c) / 18446744073709551616)]) st) :
  ACalls Tryz.prog 242 [u64 x, u64 y, u64 c] st R := by
 obtain ⟨a, rfl⟩ := Int.eq_ofNat_of_zero_le hx
 obtain ⟨b, rfl⟩ := Int.eq_ofNat_of_zero_le hy
 obtain ⟨d, rfl⟩ := Int.eq_ofNat_of_zero_le hc
 exact zyi Tryz.laysNm725 a b d (by omega) h
theorem zq6 (a b : Int) (ha : 0 <= a) (hb : 0 <= b) (hab : a + b < 340282366920938463463374607431768211456) (st : Store) (R : AV -> Store -> Prop) (h : R (.agg (x6 (a + b))) st) : ACalls Tryz.prog 228 [.agg (x6 a), .agg (x6 b)] st R := by
 refine ACalls.of_body (c := cfg 29) zc Tryz.func228 (by rfl) (by rfl) (by rfl) (by rfl) ?_
 refine zjb (a % 18446744073709551616) (b % 18446744073709551616) 0 (by omega) (by omega) (by omega) (by omega) _ _ ?_
 refine zjb (a / 18446744073709551616) (b / 18446744073709551616) ((a % 18446744073709551616 + b % 18446744073709551616 + 0) / 18446744073709551616) (by omega) (by omega) (by omega) (by omega) _ _ ?_
 refine ret ((congrArg (fun l => R (.agg l) st) ?_).mpr h)
 refine zjc ?_ ?_
 ·omega
 ·omega
theorem zrj {v : Vc} (h : v.ok) : 0 <= asz v.1 * asz v.1 /\ 0 <= asz v.2 * asz v.2 /\ asz v.1 * asz v.1 <= 85070591730234615847396907784232501249 /\ asz v.2 * asz v.2 <= 85070591730234615847396907784232501249 := by
 obtain ⟨h1, h2⟩ := h
 have a1 := zni h1
 have a2 := zni h2
 have b : ∀ x : Int, 0 <= x -> x <= 9223372036854775807 -> 0 <= x * x /\ x * x <= 85070591730234615847396907784232501249 := by
  intro x h3 h4
  refine ⟨Int.mul_nonneg h3 h3, ?_⟩
  have h5 : x * x <= 9223372036854775807 * 9223372036854775807 := Int.mul_le_mul h4 h4 h3 (by decide)
  exact h5
 have b1 := b _ a1.1 a1.2
 have b2 := b _ a2.1 a2.2
 exact ⟨b1.1, b2.1, b1.2, b2.2⟩
theorem zfy (v : Vc) (hv : v.ok) (st : Store) (R : AV -> Store -> Prop) (h : R (.agg (x6 (sqr v))) st) : ACalls Tryz.prog 209 [.agg (vecC v)] st R := by
 refine ACalls.of_body (c := cfg 24) zc Tryz.func209 (by rfl) (by rfl) (by rfl) (by rfl) ?_
 have a1 := zni hv.1
 have a2 := zni hv.2
 have b := zrj hv
 refine zky v.1 hv.1 _ _ ?_
 refine zky v.2 hv.2 _ _ ?_
 refine vt (asz v.1) (by omega) (by omega) _ _ ?_
 refine vt (asz v.2) (by omega) (by omega) _ _ ?_
 exact zq6 _ _ (by omega) (by omega) (by omega) _ _ (ret h)
theorem zfm (a b : Vc) (ha : a.ok) (hb : b.ok) (st : Store) (R : AV -> Store -> Prop) (h : R (.agg (vecC (vsub a b))) st) : ACalls Tryz.prog 182 [.agg (vecC a), .agg (vecC b)] st R := by
 refine ACalls.of_body (c := cfg 16) zc Tryz.func182 (by rfl) (by rfl) (by rfl) (by rfl) ?_
 refine ADraw.of_sched zc (by rfl) (by rfl) ygu (by rfl) ?_
 refine ⟨vn a.1 b.1 ha.1 hb.1 _ _ ⟨(by repeat (first | exact Tv | refine ⟨rfl, ?_⟩ | refine ⟨optR (optR (optR (za _ (zb _ _ _) rfl))), ?_⟩)), ?_⟩, Tv⟩
 refine ⟨vn a.2 b.2 ha.2 hb.2 _ _ ⟨(by repeat (first | exact Tv | refine ⟨rfl, ?_⟩ | refine ⟨optR (optR (optR (za _ (zb _ _ _) rfl))), ?_⟩)), ?_⟩, Tv⟩
 refine ⟨⟨(by repeat (first | exact Tv | refine ⟨rfl, ?_⟩ | refine ⟨optR (optR (optR (za _ (zb _ _ _) rfl))), ?_⟩)), ?_⟩, Tv⟩
 exact ret h
theorem zdn (a b : Vc) : (vsub a b).ok := ⟨zbg _ _, zbg _ _⟩
theorem zbm (a b : Vc) (r : Int) (ha : a.ok) (hb : b.ok) (hr : r <= 9223372036854775807) (st : Store) (R : AV -> Store -> Prop) (h : R (bool (near a b r)) st) : ACalls Tryz.prog 181 [.agg (vecC a), .agg (vecC b), int r] st R := by
 refine ACalls.of_body (c := cfg 17) zc Tryz.func181 (by rfl) (by rfl) (by rfl) (by rfl) ?_
 unfold near at h
 refine bcd (fun c1 => ?_) (fun c1 => ?_)
 ·exact ret (isF h (by simp; omega))
 ·have hb2 := zrj (zdn a b)
  refine zfm a b ha hb _ _ ?_
  refine zfy _ (zdn a b) _ _ ?_
  refine ((congrArg (fun n => ACalls Tryz.prog 211 [.s (.int .u64 n)] st _) (ya (v := r) (by omega) (by omega))).mpr ?_)
  refine vt r (by omega) (by omega) _ _ ?_
  refine zi8 _ _ ?_ (Int.mul_nonneg (by omega) (by omega)) _ _ (ret ?_)
  ·unfold sqr; omega
  ·have : decide (0 < r /\ sqr (vsub a b) < r * r) = decide (sqr (vsub a b) < r * r) := by
    rw [Bool.eq_iff_iff]; simp; omega
   rw [this] at h; exact h
theorem zbr (a b : Vc) (ha : a.ok) (hb : b.ok) (st : Store) (R : AV -> Store -> Prop) (h : R (.agg (vecC (vsub a b))) st) : ACalls Tryz.prog 22 [.agg (vecC a), .agg (vecC b)] st R := by
 refine ACalls.of_body (c := cfg 16) zc Tryz.func22 (by rfl) (by rfl) (by rfl) (by rfl) ?_
 refine ADraw.of_sched zc (by rfl) (by rfl) ynm (by rfl) ?_
 refine ⟨zlr a.1 b.1 ha.1 hb.1 _ _ ⟨(by repeat (first | exact Tv | refine ⟨rfl, ?_⟩ | refine ⟨optR (optR (optR (za _ (zb _ _ _) rfl))), ?_⟩)), ?_⟩, Tv⟩
 refine ⟨zlr a.2 b.2 ha.2 hb.2 _ _ ⟨(by repeat (first | exact Tv | refine ⟨rfl, ?_⟩ | refine ⟨optR (optR (optR (za _ (zb _ _ _) rfl))), ?_⟩)), ?_⟩, Tv⟩
 refine ⟨⟨(by repeat (first | exact Tv | refine ⟨rfl, ?_⟩ | refine ⟨optR (optR (optR (za _ (zb _ _ _) rfl))), ?_⟩)), ?_⟩, Tv⟩
 exact ret h
theorem zx5 (n : Int) : asz (nrm n) = asz n := by unfold asz; rw [yny]
theorem zc0 (v : Vc) (hv : v.ok) (st : Store) (R : AV -> Store -> Prop) (h : R (.agg (x6 (sqr v))) st) : ACalls Tryz.prog 59 [.agg (vecC v)] st R := by
 refine ACalls.of_body (c := cfg 20) zc Tryz.func59 (by rfl) (by rfl) (by rfl) (by rfl) ?_
 have a1 := zni hv.1
 have a2 := zni hv.2
 have b := zrj hv
 refine ADraw.of_sched zc (by rfl) (by rfl) ym7 (by rfl) ?_
 refine ⟨jy v.1 _ _ ⟨(by repeat (first | exact Tv | refine ⟨rfl, ?_⟩ | refine ⟨optR (optR (optR (za _ (zb _ _ _) rfl))), ?_⟩)), ?_⟩, Tv⟩
 refine ⟨zdt (nrm v.1) (v7 hv.1) _ _ ⟨(by repeat (first | exact Tv | refine ⟨rfl, ?_⟩ | refine ⟨optR (optR (optR (za _ (zb _ _ _) rfl))), ?_⟩)), ?_⟩, Tv⟩
 refine ⟨jy v.2 _ _ ⟨(by repeat (first | exact Tv | refine ⟨rfl, ?_⟩ | refine ⟨optR (optR (optR (za _ (zb _ _ _) rfl))), ?_⟩)), ?_⟩, Tv⟩
 refine ⟨zdt (nrm v.2) (v7 hv.2) _ _ ⟨(by repeat (first | exact Tv | refine ⟨rfl, ?_⟩ | refine ⟨optR (optR (optR (za _ (zb _ _ _) rfl))), ?_⟩)), ?_⟩, Tv⟩
 rw [zx5, zx5]
 refine ⟨⟨(by repeat (first | exact Tv | refine ⟨rfl, ?_⟩ | refine ⟨optR (optR (optR (za _ (zb _ _ _) rfl))), ?_⟩)), ?_⟩, Tv⟩
 refine ⟨⟨(by repeat (first | exact Tv | refine ⟨rfl, ?_⟩ | refine ⟨optR (optR (optR (za _ (zb _ _ _) rfl))), ?_⟩)), ?_⟩, Tv⟩
 refine wi (asz v.1) (asz v.1) (by omega) (by omega) (by omega) (by omega) _ _ ?_
 refine wi (asz v.2) (asz v.2) (by omega) (by omega) (by omega) (by omega) _ _ ?_
 exact zrs _ _ (by omega) (by omega) (by omega) _ _ (ret h)
theorem zei (a b : Vc) (r : Int) (ha : a.ok) (hb : b.ok) (hr : yi r) (st : Store) (R : AV -> Store -> Prop) (h : R (bool (near a b r)) st) : ACalls Tryz.prog 149 [.agg (vecC a), .agg (vecC b), int r] st R := by
 refine ACalls.of_body (c := cfg 21) zc Tryz.func149 (by rfl) (by rfl) (by rfl) (by rfl) ?_
 have hn := v7 hr
 unfold near at h
 have hb2 := zrj (zdn a b)
 refine jy r _ _ ?_
 refine bcd (fun c1 => ?_) (fun c1 => ?_)
 ·refine ret (isF h ?_)
  have : r < 0 := by unfold nrm at c1; split at c1 <;> omega
  simp; omega
 ·have hr0 : nrm r = r := by unfold nrm at c1 ⊢; split <;> omega
  rw [hr0] at c1 hn
  refine zbr a b ha hb _ _ ?_
  refine zc0 _ (zdn a b) _ _ ?_
  refine ((congrArg (fun n => ACalls Tryz.prog 100 [.s (.int .u64 n), .s (.int .u64 n)] st _) (show IntKind.u64.wrap (nrm r) = r by rw [hr0]; exact ya (v := r) (by omega) (by omega))).mpr ?_)
  refine wi r r (by omega) (by omega) (by omega) (by omega) _ _ ?_
  refine zmd _ _ ?_ (Int.mul_nonneg (by omega) (by omega)) _ _ (ret ?_)
  ·unfold sqr; omega
  ·have : decide (0 < r /\ sqr (vsub a b) < r * r) = decide (sqr (vsub a b) < r * r) := by
    rw [Bool.eq_iff_iff]; simp
    intro h1
    by_cases h0 : r = 0
    ·subst h0
     unfold sqr at h1; omega
    ·omega
   rw [this] at h; exact h
end Go.Proofs
namespace Go.Proofs
open Go Go.V
set_option maxRecDepth 4000
theorem zwv (g : Gnd) (hg : gndP g) (t : Nat) (ht : (t : Int) < g.W * g.H) (p : Vc) (hp : qv p.1 p.2) (r : Int) (hr : 0 < r /\ r <= 262144) (st : Store) (R : AV -> Store -> Prop) (h : R (bool (decide (hitP g t p r))) st) :
  ACalls Tryz.prog 189 [.agg (gndC g), int t, .agg (vecC p), int r] st R := by
 have hb := za0 hg ht
 have hn := yh9 hg ht hp hr.1
 have hx := txty hg ht
 have hq := trem (t := t) hg.1.1
 have hq2 := tquo (t := t) hg.1.1
 have hg1 := hg.1
 have hg2 := hg.2.1
 have hp' := hp
 unfold qv at hp'
 refine ACalls.of_body (c := cfg 41) zc Tryz.func189 (by rfl) (by rfl) (by rfl) (by rfl) ?_
 refine ADraw.of_sched zc (by rfl) (by rfl) ygs (by rfl) ?_
 refine ⟨by omega, ?_⟩
 have q1 : yi ((t : Int).tmod g.W * 65536) := by rw [hq]; unfold yi; omega
 have q2 : yi ((t : Int).tdiv g.W) := by rw [hq2]; unfold yi; omega
 have q3 : yi ((t : Int).tdiv g.W * 65536) := by rw [hq2]; unfold yi; omega
 refine ⟨q1, ?_⟩
 refine ⟨by omega, ?_⟩
 refine ⟨q2, ?_⟩
 refine ⟨q3, ?_⟩
 refine ⟨⟨(by repeat (first | exact Tv | refine ⟨rfl, ?_⟩ | refine ⟨optR (optR (optR (za _ (zb _ _ _) rfl))), ?_⟩)), ?_⟩, Tv⟩
 refine ⟨⟨Tv, ?_⟩, Tv⟩
 have e1 : (t : Int).tmod g.W * 65536 = tx g t := by rw [hq]; rfl
 have e2 : (t : Int).tdiv g.W * 65536 = ty g t := by rw [hq2]; rfl
 rw [e1, e2]
 refine in64 (by omega) ?_
 refine in64 (by omega) ?_
 have c1 := zfh (x := p.1) hx.1
 have c2 := zfh (x := p.2) hx.2
 refine zbm p (zb9 p.1 (tx g t), zb9 p.2 (ty g t)) r ⟨⟨by omega, by omega⟩, ⟨by omega, by omega⟩⟩ ⟨⟨by dsimp only; omega, by dsimp only; omega⟩, ⟨by dsimp only; omega, by dsimp only; omega⟩⟩ (by omega) _ _ (ret ?_)
 rw [hn]
 exact h
theorem zqf (x lo : Int) (hx : -1099511627776 <= x /\ x <= 1099511627776) (hlo : 0 <= lo /\ lo <= 8323072) (st : Store) (R : AV -> Store -> Prop) (h : R (int (off x lo)) st) : ACalls Tryz.prog 175 [int x, int lo, int (lo + 65536)] st R := by
 refine ACalls.of_body (c := cfg 19) zc Tryz.func175 (by rfl) (by rfl) (by rfl) (by rfl) ?_
 unfold off at h
 refine bcd (fun c1 => ?_) (fun c1 => ?_)
 ·refine in64 (by omega) ?_
  rw [if_pos c1] at h
  exact ret h
 rw [if_neg c1] at h
 refine bcd (fun c2 => ?_) (fun c2 => ?_)
 ·refine in64 (by omega) ?_
  rw [if_pos c2] at h
  exact ret h
 rw [if_neg c2] at h
 exact ret h
theorem zsg (g : Gnd) (hg : gndP g) (t : Nat) (ht : (t : Int) < g.W * g.H) (p : Vc) (hp : qv p.1 p.2) (r : Int) (hr : 0 < r /\ r <= 262144) (st : Store) (R : AV -> Store -> Prop) (h : R (bool (decide (hitP g t p r))) st) :
  ACalls Tryz.prog 128 [.agg (gndC g), int t, .agg (vecC p), int r] st R := by
 have hb := za0 hg ht
 have hx := txty hg ht
 have hq := trem (t := t) hg.1.1
 have hq2 := tquo (t := t) hg.1.1
 have hg1 := hg.1
 have hg2 := hg.2.1
 have hp' := hp
 unfold qv at hp'
 have o1 := ypj hx.1 hp'.1
 have o2 := ypj hx.2 hp'.2
 have hm := zwc o1.1 o2.1 hr.1
 refine ACalls.of_body (c := cfg 56) zc Tryz.func128 (by rfl) (by rfl) (by rfl) (by rfl) ?_
 refine ADraw.of_sched zc (by rfl) (by rfl) yhh (by rfl) ?_
 refine ⟨by omega, ?_⟩
 have q1 : yi ((t : Int).tmod g.W * 65536) := by rw [hq]; unfold yi; omega
 have q2 : yi ((t : Int).tdiv g.W) := by rw [hq2]; unfold yi; omega
 have q3 : yi ((t : Int).tdiv g.W * 65536) := by rw [hq2]; unfold yi; omega
 refine ⟨q1, ?_⟩
 refine ⟨by omega, ?_⟩
 refine ⟨q2, ?_⟩
 refine ⟨q3, ?_⟩
 refine ⟨⟨(by repeat (first | exact Tv | refine ⟨rfl, ?_⟩ | refine ⟨optR (optR (optR (za _ (zb _ _ _) rfl))), ?_⟩)), ?_⟩, Tv⟩
 refine ⟨⟨Tv, ?_⟩, Tv⟩
 have e1 : (t : Int).tmod g.W * 65536 = tx g t := by rw [hq]; rfl
 have e2 : (t : Int).tdiv g.W * 65536 = ty g t := by rw [hq2]; rfl
 rw [e1, e2]
 refine ADraw.of_sched zc (by rfl) (by rfl) yhg (by rfl) ?_
 refine in64 (by omega) ?_
 refine in64 (by omega) ?_
 refine ⟨zqf p.1 (tx g t) hp'.1 hx.1 _ _ ⟨(by repeat (first | exact Tv | refine ⟨rfl, ?_⟩ | refine ⟨optR (optR (optR (za _ (zb _ _ _) rfl))), ?_⟩)), ?_⟩, Tv⟩
 refine ⟨zqf p.2 (ty g t) hp'.2 hx.2 _ _ ⟨Tv, ?_⟩, Tv⟩
 refine ⟨⟨Tv, ?_⟩, Tv⟩
 refine ⟨⟨Tv, ?_⟩, Tv⟩
 unfold hitP at h
 have no : ¬ (off p.1 (tx g t) < r /\ off p.2 (ty g t) < r /\ off p.1 (tx g t) * off p.1 (tx g t) + off p.2 (ty g t) * off p.2 (ty g t) < r * r) -> R (bool false) st := fun hh => isF h (decide_eq_false fun k => hh (hm.2 k))
 refine bcd (fun c1 => ?_) (fun c1 => ret (no fun k => c1 k.1))
 refine bcd (fun c2 => ?_) (fun c2 => ret (no fun k => c2 k.2.1))
 have s1 := ymq (a := off p.1 (tx g t)) (by omega)
 have s2 := ymq (a := off p.2 (ty g t)) (by omega)
 have s3 := ymq (a := r) (by omega)
 refine in64 (by omega) ?_
 refine in64 (by omega) ?_
 refine in64 (by omega) ?_
 refine in64 (by omega) ?_
 exact ret h
set_option maxRecDepth 20000 in
theorem ztb (p : Vc) (r : Int) (st : Store) (R : AV -> Store -> Prop) (h : ∀ z : Bool, (z = true ↔ (0 <= r /\ r <= 262144) /\ qv p.1 p.2) -> R (bool z) st) : ACalls Tryz.prog 188 [.agg (vecC p), int r] st R := by
 refine ACalls.of_body (c := cfg 15) zc Tryz.func188 (by rfl) (by rfl) (by rfl) (by rfl) ?_
 repeat' (first | refine bcd (fun _ => ?_) (fun _ => ?_) | refine zd (fun _ => ?_) (fun _ => ?_) | refine in64 (by omega) ?_ | (refine zsc p _ _ ?_; rintro (_ | _) hz)| fail)
 all_goals
  refine ret (h _ ?_)
  simp only [decide_eq_true_eq, decide_eq_false_iff_not, Bool.false_eq_true, false_iff, true_iff, beq_iff_eq, bne_iff_ne, beq_eq_false_iff_ne, ne_eq, reduceCtorEq, qv] at *
  omega
theorem zib (r : Int) (hr : 0 < r /\ r <= 262144) (st : Store) (R : AV -> Store -> Prop) (h : R (int r) st) : ACalls Tryz.prog 191 [int r] st R := by
 refine ACalls.of_body (c := cfg 6) zc Tryz.func191 (by rfl) (by rfl) (by rfl) (by rfl) ?_
 have e : min2 (max2 r 0) 262144 = r := by rw [min2_eq, zd2]; omega
 rw [<- e] at h
 exact ret h
theorem zja (p : Vc) (r : Int) (q : Vc) (s : Int) (hp : p.ok) (hq : q.ok) (hr : 0 < r /\ r <= 262144) (hs : 0 < s /\ s <= 262144) (st : Store) (R : AV -> Store -> Prop) (h : R (bool (vk p r q s)) st) :
  ACalls Tryz.prog 163 [.agg (vecC p), int r, .agg (vecC q), int s] st R := by
 refine ACalls.of_body (c := cfg 18) zc Tryz.func163 (by rfl) (by rfl) (by rfl) (by rfl) ?_
 refine ADraw.of_sched zc (by rfl) (by rfl) yg0 (by rfl) ?_
 refine ⟨zib r hr _ _ ⟨(by repeat (first | exact Tv | refine ⟨rfl, ?_⟩ | refine ⟨optR (optR (optR (za _ (zb _ _ _) rfl))), ?_⟩)), ?_⟩, Tv⟩
 refine ⟨zib s hs _ _ ⟨(by repeat (first | exact Tv | refine ⟨rfl, ?_⟩ | refine ⟨optR (optR (optR (za _ (zb _ _ _) rfl))), ?_⟩)), ?_⟩, Tv⟩
 refine in64 (by omega) ?_
 refine ⟨zbm p q (r + s) hp hq (by omega) _ _ ⟨Tv, ?_⟩, Tv⟩
 exact ⟨⟨Tv, ret h⟩, Tv⟩
theorem zod (p : Vc) (r : Int) (q : Vc) (s : Int) (hp : p.ok) (hq : q.ok) (hr : 0 < r /\ r <= 262144) (hs : 0 < s /\ s <= 262144) (st : Store) (R : AV -> Store -> Prop) (h : R (bool (vk p r q s)) st) :
  ACalls Tryz.prog 98 [.agg (vecC p), int r, .agg (vecC q), int s] st R := by
 have e1 : max2 0 (min2 r 262144) = r := by rw [min2_eq, zd2]; omega
 have e2 : max2 0 (min2 s 262144) = s := by rw [min2_eq, zd2]; omega
 unfold vk at h
 rw [<- e1, <- e2] at h
 refine ACalls.of_body (c := cfg 20) zc Tryz.func98 (by rfl) (by rfl) (by rfl) (by rfl) ?_
 refine in64 (by rw [e1, e2]; omega) ?_
 exact zei p q _ hp hq (by rw [e1, e2]; exact ⟨by omega, by omega⟩) _ _ (ret h)
end Go.Proofs
namespace Go.Proofs
open Go Go.V
set_option maxRecDepth 4000
theorem zj1 (l : List UInt8) (hl : l.length <= 1000000000000) (hne : 0 < l.length) (st : Store) (R : AV -> Store -> Prop) (h : ∀ m : UInt8, m ∈ l -> (∀ t ∈ l, t.toNat <= m.toNat) -> R (u8 m) st) : ACalls Tryz.prog 194 [byts l] st R := by
 refine ACalls.of_body (c := cfg 25) zc Tryz.func194 (by rfl) (by rfl) (by rfl) (by rfl) ?_
 refine zd (fun h1 => ?_) (fun h1 => ?_)
 ·rw [zi] at h1
  simp at h1
  omega
 refine ⟨0, rfl, za _ (zh hne) ?_⟩
 refine AWp.loop (σ := Nat × UInt8) ⟨fun s => [(0, .av (byts l)), (3, .av (u8 s.2)), (4, .av (int (s.1 : Nat)))], fun _ => [],
  fun s st' => (1 <= s.1 /\ s.1 <= l.length) /\ st' = st /\ s.2 ∈ l /\ ∀ t ∈ l.take s.1, t.toNat <= s.2.toNat, fun s => l.length - s.1⟩ zc ?_ ?_
 ·refine ⟨(1, l[0]), Tv, ⟨⟨Nat.le_refl _, hne⟩, rfl, List.getElem_mem hne, fun t ht => ?_⟩, ⟨Tq, Tq, Tq, Tv⟩, Tv⟩
  have : l.take 1 = [l[0]] := by
   cases l with
   | nil => simp at hne
   | cons a l => rfl
  rw [this] at ht
  simp at ht
  rw [ht]
  exact Nat.le_refl _
 ·rintro ⟨i, m⟩ st' ⟨⟨hi1, hi⟩, rfl, hm, hall⟩
  simp only at hi1 hi hm hall
  refine zd (fun h1 => ?_) (fun h1 => ?_)
  ·have hlt : i < l.length := qz h1
   refine ⟨i, rfl, za _ (zh hlt) ?_⟩
   refine ⟨⟨by omega, by omega⟩, ?_⟩
   have hmax : max2 (m.toNat : Int) (l[i].toNat : Int) = ((if l[i].toNat > m.toNat then l[i] else m : UInt8).toNat : Int) := by
    unfold max2
    by_cases hg : l[i].toNat > m.toNat
    ·rw [if_pos hg, decide_eq_true (by omega)]; rfl
    ·rw [if_neg hg, decide_eq_false (by omega)]; rfl
   refine ⟨(i + 1, if l[i].toNat > m.toNat then l[i] else m), ?_, ⟨⟨by omega, hlt⟩, rfl, ?_, fun t ht => ?_⟩, ⟨Tq, ?_, Tq, Tv⟩, Tv⟩
   ·show l.length - (i + 1) < l.length - i
    omega
   ·show (if l[i].toNat > m.toNat then l[i] else m) ∈ l
    split
    ·exact List.getElem_mem hlt
    ·exact hm
   ·show t.toNat <= (if l[i].toNat > m.toNat then l[i] else m : UInt8).toNat
    rw [List.take_succ_eq_append_getElem hlt] at ht
    rcases List.mem_append.1 ht with ht | ht
    ·have := hall t ht
     split <;> omega
    ·simp at ht
     subst ht
     split <;> omega
   ·show LV.le (.av (.s (.int .u8 (max2 (m.toNat : Int) (l[i].toNat : Int))))) _
    rw [hmax]
    exact Tq
  ·have hge : i = l.length := x3 h1 hi
   subst hge
   rw [List.take_length] at hall
   exact ⟨_, st', Tt, Store.Has.refl st', h m hm hall⟩
theorem zhl (g : Gnd) (hg : g.fits) (st : Store) (R : AV -> Store -> Prop) (h : ∀ b : Bool, (b = true ↔ gndP g) -> R (bool b) st) : ACalls Tryz.prog 165 [.agg (gndC g)] st R := by
 refine ACalls.of_body (c := cfg 28) zc Tryz.func165 (by rfl) (by rfl) (by rfl) (by rfl) ?_
 refine zlp g.W _ _ (fun b hb => ?_)
 cases b with
 | false =>
  refine ⟨_, st, Tt, Store.Has.refl st, h _ ?_⟩
  simp only [Bool.false_eq_true, false_iff] at hb ⊢
  exact fun hp => hb hp.1
 | true =>
  refine zlp g.H _ _ (fun b2 hb2 => ?_)
  cases b2 with
  | false =>
   refine ⟨_, st, Tt, Store.Has.refl st, h _ ?_⟩
   simp only [Bool.false_eq_true, false_iff] at hb2 ⊢
   exact fun hp => hb2 hp.2.1
  | true =>
   have hm := zp4 (hb.1 rfl) (hb2.1 rfl)
   refine ⟨⟨by omega, by omega⟩, ?_⟩
   refine zd (fun h1 => ⟨_, st, Tt, Store.Has.refl st, h _ ?_⟩) (fun h1 => ?_)
   ·rw [zi] at h1
    simp only [Bool.false_eq_true, false_iff]
    intro hp
    have := hp.2.2.1
    simp [this] at h1
   ·rw [zi] at h1
    have h1 : (g.T.length : Int) = g.W * g.H := by simpa using h1
    refine zj1 g.T hg (by omega) _ _ (fun m hm1 hm2 => ?_)
    refine ⟨_, st, Tt, Store.Has.refl st, h _ ?_⟩
    rw [decide_eq_true_iff]
    constructor
    ·intro h2
     refine ⟨hb.1 rfl, hb2.1 rfl, h1, fun t ht => ?_⟩
     have := hm2 t ht
     omega
    ·intro hp
     have := hp.2.2.2 m hm1
     omega
theorem zmp (g : Gnd) (hg : g.fits) (st : Store) (R : AV -> Store -> Prop) (h : ∀ b : Bool, (b = true ↔ gndP g) -> R (bool b) st) : ACalls Tryz.prog 150 [.agg (gndC g)] st R := by
 refine ACalls.of_body (c := cfg 46) zc Tryz.func150 (by rfl) (by rfl) (by rfl) (by rfl) ?_
 have no : ¬ gndP g -> R (bool false) st := fun hn => h false (by simpa using hn)
 refine zd (fun h1 => ⟨_, st, Tt, Store.Has.refl st, no ?_⟩) (fun h1 => ?_)
 ·intro hp; have := hp.1; simp at h1; omega
 refine zd (fun h2 => ⟨_, st, Tt, Store.Has.refl st, no ?_⟩) (fun h2 => ?_)
 ·intro hp; have := hp.1; simp at h2; omega
 refine zd (fun h3 => ⟨_, st, Tt, Store.Has.refl st, no ?_⟩) (fun h3 => ?_)
 ·intro hp; have := hp.2.1; simp at h3; omega
 refine zd (fun h4 => ⟨_, st, Tt, Store.Has.refl st, no ?_⟩) (fun h4 => ?_)
 ·intro hp; have := hp.2.1; simp at h4; omega
 have hW : 1 <= g.W /\ g.W <= 128 := by simp at h1 h2; omega
 have hH : 1 <= g.H /\ g.H <= 128 := by simp at h3 h4; omega
 have hm := zp4 hW hH
 refine ⟨⟨by omega, by omega⟩, ?_⟩
 refine zd (fun h5 => ⟨_, st, Tt, Store.Has.refl st, no ?_⟩) (fun h5 => ?_)
 ·rw [zi] at h5
  intro hp
  have := hp.2.2.1
  simp [this] at h5
 rw [zi] at h5
 have h5 : (g.T.length : Int) = g.W * g.H := by simpa using h5
 refine AWp.loop (σ := Nat) ⟨fun i => [(1, .bx 1 0), (3, .av (int (i : Nat)))], fun _ => [(1, gndC g)],
  fun i st' => i <= g.T.length /\ st' = st /\ ∀ t ∈ g.T.take i, t.toNat <= 5, fun i => g.T.length - i⟩ zc ?_ ?_
 ·exact ⟨0, Tv, ⟨Nat.zero_le _, rfl, fun t ht => by simp at ht⟩, ⟨Tq, Tq, Tv⟩, (by repeat (first | exact Tv | refine ⟨rfl, ?_⟩ | refine ⟨optR (optR (optR (za _ (zb _ _ _) rfl))), ?_⟩))⟩
 ·rintro i st' ⟨hi, rfl, hall⟩
  refine zd (fun h6 => ?_) (fun h6 => ?_)
  ·have hlt : i < g.T.length := qz h6
   refine ⟨i, rfl, za _ (zh hlt) ?_⟩
   refine zd (fun h7 => ⟨_, st', Tt, Store.Has.refl st', no ?_⟩) (fun h7 => ?_)
   ·intro hp
    have := hp.2.2.2 _ (List.getElem_mem hlt)
    simp at h7
    omega
   ·refine ⟨⟨by omega, by omega⟩, ?_⟩
    refine ⟨i + 1, ?_, ⟨hlt, rfl, fun t ht => ?_⟩, ⟨Tq, Tq, Tv⟩, (by repeat (first | exact Tv | refine ⟨rfl, ?_⟩ | refine ⟨optR (optR (optR (za _ (zb _ _ _) rfl))), ?_⟩))⟩
    ·show g.T.length - (i + 1) < g.T.length - i
     omega
    ·rw [List.take_succ_eq_append_getElem hlt] at ht
     rcases List.mem_append.1 ht with ht | ht
     ·exact hall t ht
     ·simp at ht
      subst ht
      simp at h7
      omega
  ·have hge : i = g.T.length := x3 h6 hi
   subst hge
   rw [List.take_length] at hall
   exact ⟨_, st', Tt, Store.Has.refl st', h true (by simpa using ⟨hW, hH, h5, hall⟩)⟩
end Go.Proofs
