/- The ground on which laws of thronglaw23 are proved: contracts of functions and plain lemmas; no condition beyond the row's own. -/
import Derived.Test.YtlmechfgnfepoaaGreatVC
import Derived.Test.YtlmechfgnfepoaaGreatVD
import Derived.Test.YtlmechfgnfepoaaGreatSA
import Derived.Test.YtlmechfgnfepoaaGreatVG
import Derived.Test.YtlmechfgnfepoaaGreatVE
import Derived.Test.YtlmechfgnfepoaaGreatSB
set_option linter.unusedSimpArgs false
set_option linter.unusedVariables false
namespace Go.Proofs
open Go Go.V
def yh8 : V.Sched := (sv [0, 1, 2, 3, 4, 5] (.e 6 [] (sv [7, 8, 9] (.e 10 [0, 1, 2, 3, 4, 5, 7, 8, 9] (.e 11 [] (.e 12 [] .done .stop) .stop) .stop)) (.e 10 [0, 1, 2, 3, 4, 5] (.e 6 [] (sv [7, 8, 9] (.e 11 [] (.e 12 [] .done .stop) .stop)) .stop) .stop)))
def zn6 : V.Sched := (sv [0, 1, 2, 3, 4, 5, 6, 7, 8, 9, 10, 11, 12, 13, 14, 15, 16, 17, 18, 19, 20, 21, 22, 23, 24] (.e 25 [] (sv [26, 27, 28, 29, 30, 31, 32, 35, 36, 37, 38, 39, 40] (.e 33 [36, 40] (sv [34] (.e 41 [34] (sv [42, 43, 44, 45, 46, 47, 48, 49, 50, 51, 52, 53, 54, 55, 56, 57, 58, 59, 60] .done) .stop)) .stop)) .stop))
def ygz : V.Sched := (sv [0, 1, 2, 3, 4, 5, 6, 7, 8, 9, 10, 11, 12] (.e 13 [] .done .stop))
def zz2 : V.Sched := (sv [0, 1, 2, 3, 4, 5, 6, 7] (.e 8 [1] (sv [9] (.e 10 [] .done .stop)) .stop))
def ygy : V.Sched := (sv [0, 1, 2, 3, 4, 5, 6, 7, 8, 9, 10, 11, 12, 13, 14, 15, 16, 17, 18, 19] .done)
def zz1 : V.Sched := (sv [0, 1, 2, 3, 4, 5, 6, 7, 8, 9, 10, 11, 12, 13, 14, 15, 16, 17, 18, 19, 20, 21, 22, 23, 24, 25, 26, 27, 28, 29, 30, 31, 32, 33, 34, 35, 36, 37, 38, 39, 40, 41, 42, 43, 44, 45, 46, 47, 48, 49, 50] (.e 51 [] (sv [52, 53, 54, 55, 56, 57, 58, 59, 60, 61, 62, 63] (.e 64 [] (sv [65, 66, 67, 68, 69, 70, 71, 72, 73, 74, 75, 76, 77, 78, 79, 80, 81, 82, 83, 84, 85, 86, 87] .done) .stop)) .stop))
def zz0 : V.Sched := (sv [0, 1, 2, 3, 4, 5, 6, 7, 8] .done)
def ygx : V.Sched := (sv [0, 1, 2, 3, 4, 5, 6, 7, 8, 9, 10, 11, 12, 13, 14, 15, 16] (.e 17 [10, 12, 14] (sv [18] (.e 19 [] (sv [20, 21] .done) .stop)) .stop))
def zzz : V.Sched := (sv [0, 1] (.e 2 [] (sv [3, 4, 5, 6, 7] (.e 8 [] (sv [9, 10, 11, 12, 13, 14, 15, 16, 17, 18, 19, 20, 21, 22, 23, 24, 25] .done) .stop)) .stop))
def ygw : V.Sched := (sv [0, 1, 3, 4, 6, 7] (.e 2 [4, 7] (sv [9] (.e 5 [7] (.e 8 [] (.e 10 [] (sv [11] (.e 12 [] (sv [13] (.e 14 [] .done .stop)) .stop)) .stop) .stop) .stop)) .stop))
def ygv : V.Sched := (sv [0, 3, 4] (.e 1 [3] (.e 2 [3] (sv [5] (.e 6 [] (.e 7 [] .done .stop) .stop)) .stop) .stop))
def ygu : V.Sched := (sv [0, 1, 2, 3, 4, 5] (.e 6 [0] (sv [7] (.e 8 [] (.e 9 [] .done .stop) .stop)) .stop))
def ygt : V.Sched := (sv [0, 1, 2, 3, 4, 5, 6, 7, 8] .done)
def zr0 : V.Sched := (sv [0, 1, 2, 3, 4] (.e 5 [3] (sv [6] (.e 7 [] .done .stop)) .stop))
def zrz : V.Sched := (sv [0, 1, 2, 3, 4] (.e 5 [3] (sv [6] (.e 7 [] .done .stop)) .stop))
def zn5 : V.Sched := (sv [0, 1, 2, 3, 4, 5, 6] (.e 7 [3, 5] (sv [8] (.e 9 [5] (sv [10] (.e 11 [] .done .stop)) .stop)) .stop))
def zn4 : V.Sched := (sv [0, 1, 2, 3, 4] (.e 5 [3] (sv [6] (.e 7 [] .done .stop)) .stop))
def zn3 : V.Sched := (sv [0, 1, 2, 3, 4] (.e 5 [3] (sv [6] (.e 7 [] .done .stop)) .stop))
def ygs : V.Sched := (sv [0, 1, 2, 3, 4, 5, 6] (.e 7 [] (sv [8] .done) .stop))
def ygr : V.Sched := (sv [0, 1, 2, 3, 4, 5, 6, 7, 8, 9, 10, 11, 12, 13, 14, 15, 16] (.e 17 [] (sv [18, 19] (.e 20 [] .done .stop)) .stop))
def ygq : V.Sched := (sv [0, 1, 2, 3, 4, 5] (.e 6 [] (sv [7] .done) .stop))
def ygp : V.Sched := (sv [0, 1, 2, 3] (.e 4 [] (.e 5 [] .done .stop) .stop))
def ygo : V.Sched := (sv [0, 1, 2, 3, 4, 5, 6, 7, 8, 9, 10, 11] (.e 12 [3] (sv [13] (.e 14 [] .done .stop)) .stop))
def zzy : V.Sched := (sv [0, 1, 2, 3, 4, 5, 6, 7, 8, 9, 10, 11, 12, 13, 14, 15, 16] (.e 17 [] (.e 18 [] .done .stop) .stop))
def ygn : V.Sched := (sv [0, 1, 2, 3, 4, 5, 6, 7] (.e 8 [] (.e 9 [] .done .stop) .stop))
def ygm : V.Sched := (sv [0, 1, 2, 3, 4, 5, 6, 7, 8, 9, 10, 11, 12, 13, 14, 15, 16, 17, 18, 19, 20] (.e 21 [0, 1, 2, 3, 4, 5, 6, 7, 8, 9, 10, 11, 12, 13, 14, 15, 16, 17, 18, 19, 20] (.e 22 [] .done .stop) .stop))
def ygl : V.Sched := (sv [0, 1, 2, 3, 4, 5] (.e 6 [] (sv [7, 8, 9] (.e 10 [] (.e 11 [] .done .stop) .stop)) .stop))
def zzx : V.Sched := (sv [0, 1, 2, 3, 4, 5, 6, 7, 8, 9] (.e 10 [4, 7] (sv [11] (.e 12 [] (sv [13] .done) .stop)) .stop))
def ygk : V.Sched := (sv [0, 1, 2, 3, 4, 5, 6, 7, 8, 9, 10] .done)
def ygj : V.Sched := (sv [0, 1, 2, 3, 4, 5, 6, 7, 8, 9, 10] .done)
def ygi : V.Sched := (sv [0, 1, 2, 3, 4, 5, 6] (.e 7 [] (sv [8, 9, 10, 11, 12] (.e 13 [] .done .stop)) .stop))
def ygh : V.Sched := (sv [0, 1, 2, 3] (.e 4 [] (.e 5 [] .done .stop) .stop))
def ygg : V.Sched := (sv [0, 1, 2, 3, 4, 5, 6, 7, 8] (.e 9 [3] (sv [10, 11] (.e 12 [0, 1, 2, 3, 4, 5, 6, 7, 8, 10, 11] (.e 13 [] .done .stop) .stop)) (.e 12 [0, 1, 2, 3, 4, 5, 6, 7, 8] (.e 9 [3] (sv [10, 11] (.e 13 [] .done .stop)) .stop) .stop)))
def ygf : V.Sched := (sv [0, 1, 2, 3, 4, 5, 6, 7, 8, 9] (.e 10 [] (.e 11 [] .done .stop) .stop))
def zzw : V.Sched := (sv [0, 1, 2, 3, 4, 5, 6, 7, 8, 9, 10, 11] (.e 12 [3] (sv [13, 14] (.e 15 [0, 1, 2, 3, 4, 5, 6, 7, 8, 9, 10, 11, 13, 14] (.e 16 [] .done .stop) .stop)) (.e 15 [0, 1, 2, 3, 4, 5, 6, 7, 8, 9, 10, 11] (.e 12 [3] (sv [13, 14] (.e 16 [] .done .stop)) .stop) .stop)))
def zzv : V.Sched := (sv [0, 1, 2, 3, 4, 7, 8, 9, 11, 12] (.e 5 [8, 9, 12] (sv [6, 10] (.e 13 [8, 9, 6] (sv [14, 15] .done) .stop)) .stop))
def zzu : V.Sched := (sv [0, 1, 2, 3, 4, 5, 6, 7, 8, 9, 10, 11] (.e 12 [3] (sv [13] (.e 14 [] .done .stop)) .stop))
def yge : V.Sched := (sv [0, 1, 2, 3] (.e 4 [] (.e 5 [] .done .stop) .stop))
def ygd : V.Sched := (sv [0, 1, 2, 3, 4, 5] (.e 6 [] (sv [7] .done) .stop))
def ygc : V.Sched := (sv [0, 1, 2, 3, 4, 5, 6, 7, 8] (.e 9 [3] (sv [10, 11] (.e 12 [0, 1, 2, 3, 4, 5, 6, 7, 8, 10, 11] (.e 13 [] .done .stop) .stop)) (.e 12 [0, 1, 2, 3, 4, 5, 6, 7, 8] (.e 9 [3] (sv [10, 11] (.e 13 [] .done .stop)) .stop) .stop)))
def ygb : V.Sched := (sv [0, 1, 2, 3, 4, 5, 7, 8] (.e 6 [8] (.e 9 [] .done .stop) .stop))
def yga : V.Sched := (sv [0, 1, 2, 3, 4] (.e 5 [] (.e 6 [] .done .stop) .stop))
def zzt : V.Sched := (sv [0, 1, 2, 3, 4, 5, 6, 7, 8, 9, 10] (.e 11 [3] (sv [12] (.e 13 [] .done .stop)) .stop))
def zzs : V.Sched := (sv [0, 1, 2, 3, 4, 5, 6, 7, 8, 9, 10, 11, 12, 13] (.e 14 [] (.e 15 [] .done .stop) .stop))
def zzr : V.Sched := (sv [0, 1, 2, 3, 4, 5, 6, 7, 8, 9, 10, 11, 12, 13, 14, 15, 16, 17, 18] (.e 19 [2, 6, 10] (.e 20 [] .done .stop) .stop))
def yf9 : V.Sched := (sv [0, 1, 2, 3, 4, 5, 6, 7, 8] .done)
def yf8 : V.Sched := (sv [0, 1, 2, 3, 4, 5, 6, 7, 8] .done)
def yf7 : V.Sched := (sv [0, 1, 2, 3, 4, 5, 6, 7, 8] .done)
def yf6 : V.Sched := (sv [0, 1, 2, 3] (.e 4 [] (sv [5, 6, 7, 8, 9, 10, 11] (.e 12 [] (sv [13, 14, 15, 16, 17, 18, 19, 20] (.e 21 [] (sv [22, 23] .done) .stop)) .stop)) .stop))
def zzq : V.Sched := (sv [0, 1, 2, 3, 4, 5, 6, 7] (.e 8 [] .done .stop))
def zry : V.Sched := (sv [0] (.e 1 [0] (sv [2] (.e 3 [] (.e 4 [] .done .stop) .stop)) .stop))
def zrx : V.Sched := (sv [0, 1, 2, 3, 4, 5, 6, 7] (.e 8 [] .done .stop))
def zrw : V.Sched := (sv [0, 1, 2, 3, 4, 5, 6, 7, 9, 10, 11] (.e 8 [4, 9, 11] (.e 12 [] (sv [13] .done) .stop) .stop))
def zrv : V.Sched := (sv [0, 1, 2, 3, 4, 5, 6, 7, 8, 9, 10, 11] (.e 12 [5, 7, 9] (sv [13] (.e 14 [] (sv [15, 16] .done) .stop)) .stop))
def zzp : V.Sched := (sv [0, 1, 2, 3, 4, 5, 6, 7, 8, 9, 10, 11, 12, 13, 15, 16] (.e 14 [16] (.e 17 [13] (sv [18, 19, 20] .done) .stop) (.e 17 [13] (sv [18] (.e 14 [16] (sv [19, 20] .done) .stop)) .stop)))
def yf5 : V.Sched := (sv [0, 1, 2, 3, 4, 5, 6, 7] (.e 8 [6] (.e 9 [] .done .stop) .stop))
def zzo : V.Sched := (sv [0, 1, 2, 3, 4, 5, 6, 7, 8, 9, 10, 11] (.e 12 [8] (.e 13 [] .done .stop) .stop))
def yf4 : V.Sched := (sv [0, 1, 2, 3, 4, 5, 6, 7, 8, 9, 10, 11, 12, 13] (.e 14 [] (sv [15] .done) .stop))
def zzn : V.Sched := (sv [0, 1, 2, 3, 4, 5, 6, 7, 8, 9, 10, 11, 12, 13] .done)
def zzm : V.Sched := (sv [0, 1, 2, 4, 5] (.e 3 [4] (.e 6 [] (.e 7 [] .done .stop) .stop) .stop))
def yf3 : V.Sched := (sv [0, 1, 2, 3, 4, 5, 6, 7] (.e 8 [6] (.e 9 [] .done .stop) .stop))
def yf2 : V.Sched := (sv [0, 1, 2, 3, 4, 5, 6, 7, 8, 9] (.e 10 [7] (.e 11 [] .done .stop) .stop))
def yf1 : V.Sched := (sv [0, 1, 2, 3, 4, 6, 7, 8, 9, 10] (.e 5 [7] (.e 11 [] (.e 12 [] (.e 13 [] .done .stop) .stop) .stop) .stop))
def yf0 : V.Sched := (sv [0, 1, 2, 3, 4, 5, 6, 7] (.e 8 [4] (sv [9, 10, 11] (.e 12 [] (sv [13, 14, 15] .done) .stop)) .stop))
def yfz : V.Sched := (sv [0, 1, 2, 3, 4, 5, 6, 7, 8, 9, 10, 11] .done)
def ybk : V.Sched := (sv [0, 1, 2, 3, 4, 6] (.e 5 [] (.e 7 [] (sv [8, 9, 10] (.e 11 [] (.e 12 [] .done .stop) .stop)) .stop) .stop))
def ybj : V.Sched := (sv [0, 1, 2, 3, 4, 5, 6, 7, 8, 9, 11, 12] (.e 10 [3, 4] (.e 13 [3, 4, 8, 9] (.e 14 [3, 4] (.e 15 [] .done .stop) .stop) .stop) (.e 13 [3, 4, 8, 9] (.e 10 [3, 4] (.e 14 [3, 4] (.e 15 [] .done .stop) .stop) .stop) .stop)))
def zn8 : V.Sched := (sv [0, 1, 2, 3, 4, 5] (.e 6 [] .done .stop))
def ybi : V.Sched := (sv [0, 1, 2, 3, 4, 5] (.e 6 [4] (.e 7 [] .done .stop) .stop))
def zav : V.Sched := (sv [0, 1, 2, 3, 4, 5, 6, 7, 8, 9, 10, 11, 12, 14, 15] (.e 13 [] (sv [16] (.e 17 [] .done .stop)) .stop))
def zn7 : V.Sched := (sv [0, 1, 2, 3, 4, 5, 6, 9] (.e 7 [] (sv [8] .done) .stop))
def ybh : V.Sched := (sv [0, 1, 2, 4] (.e 3 [0, 1] (.e 5 [0, 1] (sv [6] (.e 7 [] (sv [8] (.e 9 [] .done .stop)) .stop)) .stop) .stop))
def ybg : V.Sched := (sv [0, 1, 2, 3, 4] (.e 5 [3] (sv [6] (.e 7 [] .done .stop)) .stop))
def ybf : V.Sched := (sv [0, 1, 2, 3, 4] (.e 5 [3] (sv [6] (.e 7 [] .done .stop)) .stop))
def zr7 : V.Sched := (sv [0, 1, 2, 3, 4, 5, 6] (.e 7 [3, 5] (sv [8] (.e 9 [5] (sv [10] (.e 11 [] .done .stop)) .stop)) .stop))
def zr6 : V.Sched := (sv [0, 1, 2, 3, 4] (.e 5 [3] (sv [6] (.e 7 [] .done .stop)) .stop))
def zr5 : V.Sched := (sv [0, 1, 2, 3, 4] (.e 5 [3] (sv [6] (.e 7 [] .done .stop)) .stop))
def ybe : V.Sched := (sv [0, 1, 2, 3, 4, 5, 6, 7, 8, 9, 10, 11, 12, 13] (.e 14 [] (sv [15] (.e 16 [] .done .stop)) .stop))
def ybd : V.Sched := (sv [0, 1, 2, 3, 4, 5, 6, 7, 8, 9, 10, 11, 12, 13, 14, 15, 16, 17, 18, 19, 20, 21, 22, 23, 24, 25, 26, 27, 28, 29, 30, 31, 32, 33, 34, 35] (.e 36 [3, 7, 11] (sv [37] (.e 38 [3] (sv [39, 40, 41] (.e 42 [] .done .stop)) .stop)) .stop))
def ybc : V.Sched := (sv [0, 1, 2, 3, 4, 5, 6, 7, 8, 9, 10, 11, 12] (.e 13 [] (sv [14] .done) .stop))
def zr4 : V.Sched := (sv [0, 1, 2, 3, 4, 5, 6, 7, 8, 9, 10, 11, 12] (.e 13 [2] (.e 14 [] .done .stop) .stop))
def zjx : V.Sched := (sv [0, 1, 2, 3, 4] (.e 5 [] .done .stop))
def ybb : V.Sched := (sv [0, 1, 2, 3, 4] (.e 5 [3] (.e 6 [] .done .stop) .stop))
def yba : V.Sched := (sv [0, 1, 2, 3, 4, 5] (.e 6 [] (sv [7] (.e 8 [] .done .stop)) .stop))
def ya9 : V.Sched := (sv [0, 1, 2, 3, 4, 5, 6, 7, 8, 9, 10, 11, 12, 13, 14, 15, 16, 17, 18, 19, 20, 21, 22, 23, 24, 25, 26, 27, 28, 29, 30, 31, 32, 33, 34, 35, 36, 37, 38, 39] (.e 40 [0, 1, 2, 3, 4, 5, 6, 7, 8, 9, 10, 11, 12, 13, 14, 15, 16, 17, 18, 19, 20, 21, 22, 23, 24, 25, 26, 27, 28, 29, 30, 31, 32, 33, 34, 35, 36, 37, 38, 39] (.e 41 [] .done .stop) .stop))
def ya8 : V.Sched := (sv [0, 1, 2, 3, 4, 5, 6, 7, 8, 9] (.e 10 [] (sv [11, 12, 13] (.e 14 [] (.e 15 [] .done .stop) .stop)) .stop))
def ya7 : V.Sched := (sv [0, 1, 2, 3, 4, 5, 6, 7, 8, 9, 10, 11, 12, 13, 14, 15, 16, 17] (.e 18 [] .done .stop))
def ya6 : V.Sched := (sv [0, 1, 2, 3, 4, 5, 6, 7, 8, 9, 10, 11, 13, 14, 15] (.e 12 [0, 3] (.e 16 [0, 3] (sv [17, 18, 19] (.e 20 [] .done .stop)) .stop) .stop))
def ya5 : V.Sched := (sv [0, 1, 4, 5, 6, 7, 8, 9, 10, 11, 12, 13] (.e 2 [7, 11, 13] (sv [3] (.e 14 [] (sv [15, 16] (.e 17 [] .done .stop)) .stop)) .stop))
def zr3 : V.Sched := (sv [0, 1, 2, 3, 4] (.e 5 [] .done .stop))
def ya4 : V.Sched := (sv [0, 1, 2, 3, 4, 5, 6, 7, 8, 9, 10, 11, 12] (.e 13 [] (sv [14] (.e 15 [] .done .stop)) .stop))
def ya3 : V.Sched := (sv [0, 1, 2, 3, 4, 5, 6, 7, 8, 9, 10, 11, 12, 14, 15] (.e 13 [15] (.e 16 [] (.e 17 [] .done .stop) .stop) .stop))
def ya2 : V.Sched := (sv [0, 1, 2, 3, 4, 5, 6, 7, 8, 9, 12] (.e 10 [] (sv [11] .done) .stop))
def ya1 : V.Sched := (sv [0, 1, 2, 3, 4, 5, 6, 7, 8, 9] .done)
def ya0 : V.Sched := (sv [0, 1, 2, 3, 5, 6, 7, 8] (.e 4 [6, 8] (.e 9 [] (sv [10] (.e 11 [] .done .stop)) .stop) .stop))
def yaz : V.Sched := (sv [0, 1, 2, 3, 4, 5, 6, 7, 8, 9, 10, 11, 12] .done)
def yay : V.Sched := (sv [0, 1, 2, 3, 4, 5, 6, 7, 8, 9, 10, 11, 12] .done)
def yax : V.Sched := (sv [0, 1, 4, 5] (.e 2 [5] (.e 3 [5] (.e 6 [] (.e 7 [] (.e 8 [] (.e 9 [] .done .stop) .stop) .stop) .stop) .stop) .stop))
def yaw : V.Sched := (sv [0, 1, 2, 3, 4, 5, 6, 7, 8, 9, 10, 11] .done)
def yav : V.Sched := (sv [0, 1, 2, 3, 4] (.e 5 [] (.e 6 [] .done .stop) .stop))
def yau : V.Sched := (sv [0, 1, 2, 3, 4] (.e 5 [] .done .stop))
def zr2 : V.Sched := (sv [0, 1, 2, 3, 4, 5] (.e 6 [] .done .stop))
def yat : V.Sched := (sv [0, 1, 3, 4] (.e 2 [4] (.e 5 [] (sv [6] (.e 7 [] .done .stop)) .stop) .stop))
def yas : V.Sched := (sv [0, 1, 2, 3, 4, 5, 6, 7, 8, 9] (.e 10 [7] (.e 11 [] .done .stop) .stop))
def yar : V.Sched := (sv [0, 1, 2, 4, 5, 6] (.e 3 [5, 6] (.e 7 [] (sv [8] (.e 9 [] (.e 10 [0, 1, 2, 4, 5, 6, 8] (.e 11 [] .done .stop) .stop) (.e 10 [0, 1, 2, 4, 5, 6, 8] (.e 9 [] (.e 11 [] .done .stop) .stop) .stop))) (.e 10 [0, 1, 2, 4, 5, 6] (.e 7 [] (sv [8] (.e 9 [] (.e 11 [] .done .stop) .stop)) .stop) .stop)) (.e 10 [0, 1, 2, 4, 5, 6] (.e 3 [5, 6] (.e 7 [] (sv [8] (.e 9 [] (.e 11 [] .done .stop) .stop)) .stop) .stop) .stop)))
def yaq : V.Sched := (sv [0, 1, 2, 4, 5, 6] (.e 3 [5, 6] (.e 7 [] (sv [8] (.e 9 [] (.e 10 [0, 1, 2, 4, 5, 6, 8] (.e 11 [] .done .stop) .stop) (.e 10 [0, 1, 2, 4, 5, 6, 8] (.e 9 [] (.e 11 [] .done .stop) .stop) .stop))) (.e 10 [0, 1, 2, 4, 5, 6] (.e 7 [] (sv [8] (.e 9 [] (.e 11 [] .done .stop) .stop)) .stop) .stop)) (.e 10 [0, 1, 2, 4, 5, 6] (.e 3 [5, 6] (.e 7 [] (sv [8] (.e 9 [] (.e 11 [] .done .stop) .stop)) .stop) .stop) .stop)))
def yap : V.Sched := (sv [0, 1, 2, 3, 4, 5, 6, 7, 8, 9, 10, 11, 12, 13, 14, 15, 16, 17, 18, 19, 20, 21, 22, 23, 24, 25, 26, 27, 28, 29, 30, 31, 36, 37, 38, 39] (.e 32 [3, 7, 37] (sv [33, 34, 35] (.e 40 [] (.e 41 [] .done .stop) .stop)) .stop))
def yao : V.Sched := (sv [0, 1, 2, 3, 4, 5, 6] (.e 7 [] (sv [8, 9, 10] (.e 11 [] (.e 12 [] .done .stop) .stop)) .stop))
def yan : V.Sched := (sv [0, 1, 2, 3, 4, 5, 6, 7] (.e 8 [] .done .stop))
def yam : V.Sched := (sv [0, 1, 2, 3, 4, 5, 6, 7] (.e 8 [] .done .stop))
def yal : V.Sched := (sv [0, 1, 2, 3, 4, 5] (.e 6 [] .done .stop))
def zr1 : V.Sched := (sv [0, 2, 3, 4] (.e 1 [3] (.e 5 [] (.e 6 [] (.e 7 [] .done .stop) .stop) .stop) .stop))
def yak : V.Sched := (sv [0, 1, 2, 3, 4, 5, 6, 7, 8, 11] (.e 9 [] (sv [10] .done) .stop))
def yaj : V.Sched := (sv [0, 1, 2, 3, 4, 5, 6, 7, 8, 9, 10, 11, 12, 16] (.e 13 [3] (.e 14 [] (sv [15] .done) .stop) .stop))
def yai : V.Sched := (sv [0, 1, 2, 3, 4, 5, 6, 7, 8, 9, 10, 11, 12] (.e 13 [3, 7, 10] (sv [14] (.e 15 [] .done .stop)) .stop))
def yah : V.Sched := (sv [0, 1, 2, 3, 4, 5, 6, 7] (.e 8 [] .done .stop))
def yag : V.Sched := (sv [0, 1, 2, 3, 4, 5] (.e 6 [] (.e 7 [] .done .stop) .stop))
def yaf : V.Sched := (sv [0, 1, 2, 3, 4, 5, 6, 7, 8, 9, 10, 11, 12] (.e 13 [] .done .stop))
def yae : V.Sched := (sv [0, 1, 2, 3, 4, 5, 6, 7, 10] (.e 8 [] (sv [9] .done) .stop))
def yad : V.Sched := (sv [0, 1, 2, 3, 4, 5, 6, 7, 8] (.e 9 [] .done .stop))
def yac : V.Sched := (sv [0, 1] (.e 2 [0] (sv [3] (.e 4 [] .done .stop)) .stop))
def yab : V.Sched := (sv [0, 1, 2, 3, 4] (.e 5 [] .done .stop))
def yaa : V.Sched := (sv [0, 1, 2, 3, 4, 5, 6, 7] (.e 8 [6] (.e 9 [] .done .stop) .stop))
def zz9 : V.Sched := (sv [0, 1, 2] (.e 3 [0] (.e 4 [] .done .stop) .stop))
def zz8 : V.Sched := (sv [0, 1, 2, 3, 4, 5, 7] (.e 6 [0, 7] (.e 8 [] .done .stop) .stop))
def zz7 : V.Sched := (sv [0, 1, 2, 3, 5, 6, 7, 8] (.e 4 [6, 8] (.e 9 [] (sv [10] (.e 11 [] .done .stop)) .stop) .stop))
def zz6 : V.Sched := (sv [0, 1, 2, 3, 4, 5, 6, 7] (.e 8 [] .done .stop))
def zz5 : V.Sched := (sv [0, 1, 2, 3, 4, 5, 6, 7, 8, 9, 10, 11, 12, 13, 14, 15] (.e 16 [10, 14] (.e 17 [] .done .stop) .stop))
def zz4 : V.Sched := (sv [0, 1, 2, 3, 4, 5, 6, 7] (.e 8 [6] (.e 9 [] .done .stop) .stop))
def zz3 : V.Sched := (sv [0, 1] (.e 2 [0] (.e 3 [] (sv [4] .done) .stop) .stop))
end Go.Proofs
namespace Go.Proofs
open Go Go.V
theorem ze : ya Tryz.prog infoTree.get := Tr.ok _ zm2
def cfg (n : Nat) (G : List Nat := []) (W : List Nat := []) : Cfg := { n := n, I := infoTree.get, G := G, W := W }
end Go.Proofs
namespace Go.Proofs
open Go Go.V
set_option maxRecDepth 20000 in
theorem zkp (n : Int) (st : Store) (R : AV → Store → Prop) (h : ∀ z : Bool, (z = true ↔ k9 n) → R (bool z) st) : ACalls Tryz.prog 105 [int n] st R := by
 refine ACalls.of_body (c := cfg 9) ze Tryz.func105 (by rfl) (by rfl) (by rfl) (by rfl) ?_
 repeat' (first | refine bcd (fun _ => ?_) (fun _ => ?_) | refine zd (fun _ => ?_) (fun _ => ?_) | refine in64 (by omega) ?_ | fail)
 all_goals
  refine ret (h _ ?_)
  unfold k9
  simp only [decide_eq_true_eq, decide_eq_false_iff_not, Bool.false_eq_true, false_iff, true_iff, beq_iff_eq, bne_iff_ne, beq_eq_false_iff_ne, ne_eq, reduceCtorEq] at *
  omega
set_option maxRecDepth 20000 in
theorem zjv (n : Int) (st : Store) (R : AV → Store → Prop) (h : ∀ z : Bool, (z = true ↔ 1 ≤ n ∧ n ≤ 128) → R (bool z) st) : ACalls Tryz.prog 138 [int n] st R := by
 refine ACalls.of_body (c := cfg 9) ze Tryz.func138 (by rfl) (by rfl) (by rfl) (by rfl) ?_
 repeat' (first | refine bcd (fun _ => ?_) (fun _ => ?_) | refine zd (fun _ => ?_) (fun _ => ?_) | refine in64 (by omega) ?_ | fail)
 all_goals
  refine ret (h _ ?_)
  simp only [decide_eq_true_eq, decide_eq_false_iff_not, Bool.false_eq_true, false_iff, true_iff, beq_iff_eq, bne_iff_ne, beq_eq_false_iff_ne, ne_eq, reduceCtorEq] at *
  omega
set_option maxRecDepth 20000 in
theorem zsw (n hi : Int) (st : Store) (R : AV → Store → Prop) (h : ∀ z : Bool, (z = true ↔ 0 ≤ n ∧ n ≤ hi) → R (bool z) st) : ACalls Tryz.prog 65 [int n, int hi] st R := by
 refine ACalls.of_body (c := cfg 12) ze Tryz.func65 (by rfl) (by rfl) (by rfl) (by rfl) ?_
 repeat' (first | refine bcd (fun _ => ?_) (fun _ => ?_) | refine zd (fun _ => ?_) (fun _ => ?_) | refine in64 (by omega) ?_ | fail)
 all_goals
  refine ret (h _ ?_)
  simp only [decide_eq_true_eq, decide_eq_false_iff_not, Bool.false_eq_true, false_iff, true_iff, beq_iff_eq, bne_iff_ne, beq_eq_false_iff_ne, ne_eq, reduceCtorEq] at *
  omega
set_option maxRecDepth 20000 in
theorem zp6 (p : Vc) (st : Store) (R : AV → Store → Prop) (h : ∀ z : Bool, (z = true ↔ yl p.1 p.2) → R (bool z) st) : ACalls Tryz.prog 160 [.agg (vecC p)] st R := by
 refine ACalls.of_body (c := cfg 21) ze Tryz.func160 (by rfl) (by rfl) (by rfl) (by rfl) ?_
 repeat' (first | refine bcd (fun _ => ?_) (fun _ => ?_) | refine zd (fun _ => ?_) (fun _ => ?_) | refine in64 (by omega) ?_ | fail)
 all_goals
  refine ret (h _ ?_)
  unfold yl
  simp only [decide_eq_true_eq, decide_eq_false_iff_not, Bool.false_eq_true, false_iff, true_iff, beq_iff_eq, bne_iff_ne, beq_eq_false_iff_ne, ne_eq, reduceCtorEq] at *
  omega
set_option maxRecDepth 20000 in
theorem zhp (b : Bld) (st : Store) (R : AV → Store → Prop) (h : ∀ z : Bool, (z = true ↔ bldP b) → R (bool z) st) : ACalls Tryz.prog 141 [.agg (bldC b)] st R := by
 refine ACalls.of_body (c := cfg 41) ze Tryz.func141 (by rfl) (by rfl) (by rfl) (by rfl) ?_
 repeat' (first | refine bcd (fun _ => ?_) (fun _ => ?_) | refine zd (fun _ => ?_) (fun _ => ?_) | refine in64 (by omega) ?_ | fail)
 all_goals
  refine ret (h _ ?_)
  unfold bldP
  simp only [decide_eq_true_eq, decide_eq_false_iff_not, Bool.false_eq_true, false_iff, true_iff, beq_iff_eq, bne_iff_ne, beq_eq_false_iff_ne, ne_eq, reduceCtorEq] at *
  omega
set_option maxRecDepth 20000 in
theorem zgy (b : Bld) (st : Store) (R : AV → Store → Prop) (h : ∀ z : Bool, (z = true ↔ bldP b) → R (bool z) st) : ACalls Tryz.prog 95 [.agg (bldC b)] st R := by
 refine ACalls.of_body (c := cfg 41) ze Tryz.func95 (by rfl) (by rfl) (by rfl) (by rfl) ?_
 repeat' (first | refine bcd (fun _ => ?_) (fun _ => ?_) | refine zd (fun _ => ?_) (fun _ => ?_) | refine in64 (by omega) ?_ | fail)
 all_goals
  refine ret (h _ ?_)
  unfold bldP
  simp only [decide_eq_true_eq, decide_eq_false_iff_not, Bool.false_eq_true, false_iff, true_iff, beq_iff_eq, bne_iff_ne, beq_eq_false_iff_ne, ne_eq, reduceCtorEq] at *
  omega
set_option maxRecDepth 20000 in
theorem zoz (g : Gnd) (b : Bld) (hg : gndP g) (hb : bldP b) (st : Store) (R : AV → Store → Prop) (h : ∀ z : Bool, (z = true ↔ onP g b) → R (bool z) st) : ACalls Tryz.prog 142 [.agg (gndC g), .agg (bldC b)] st R := by
 obtain ⟨h1, h2, _, _⟩ := hg; obtain ⟨_, _, h3, h4⟩ := hb
 refine ACalls.of_body (c := cfg 33) ze Tryz.func142 (by rfl) (by rfl) (by rfl) (by rfl) ?_
 repeat' (first | refine bcd (fun _ => ?_) (fun _ => ?_) | refine zd (fun _ => ?_) (fun _ => ?_) | refine in64 (by omega) ?_ | fail)
 all_goals
  refine ret (h _ ?_)
  unfold onP
  simp only [decide_eq_true_eq, decide_eq_false_iff_not, Bool.false_eq_true, false_iff, true_iff, beq_iff_eq, bne_iff_ne, beq_eq_false_iff_ne, ne_eq, reduceCtorEq] at *
  omega
set_option maxRecDepth 20000 in
theorem zoa (g : Gnd) (b : Bld) (hg : gndP g) (hb : bldP b) (st : Store) (R : AV → Store → Prop) (h : ∀ z : Bool, (z = true ↔ onP g b) → R (bool z) st) : ACalls Tryz.prog 96 [.agg (gndC g), .agg (bldC b)] st R := by
 obtain ⟨h1, h2, _, _⟩ := hg; obtain ⟨_, _, h3, h4⟩ := hb
 refine ACalls.of_body (c := cfg 47) ze Tryz.func96 (by rfl) (by rfl) (by rfl) (by rfl) ?_
 repeat' (first | refine bcd (fun _ => ?_) (fun _ => ?_) | refine zd (fun _ => ?_) (fun _ => ?_) | refine in64 (by omega) ?_ | fail)
 all_goals
  refine ret (h _ ?_)
  unfold onP
  simp only [decide_eq_true_eq, decide_eq_false_iff_not, Bool.false_eq_true, false_iff, true_iff, beq_iff_eq, bne_iff_ne, beq_eq_false_iff_ne, ne_eq, reduceCtorEq] at *
  omega
set_option maxRecDepth 20000 in
theorem zik (g : Gnd) (t : Int) (hg : gndP g) (st : Store) (R : AV → Store → Prop) (h : ∀ z : Bool, (z = true ↔ 0 ≤ t ∧ t < g.W * g.H) → R (bool z) st) : ACalls Tryz.prog 146 [.agg (gndC g), int t] st R := by
 have hm := zt hg
 refine ACalls.of_body (c := cfg 16) ze Tryz.func146 (by rfl) (by rfl) (by rfl) (by rfl) ?_
 repeat' (first | refine bcd (fun _ => ?_) (fun _ => ?_) | refine zd (fun _ => ?_) (fun _ => ?_) | refine in64 (by omega) ?_ | fail)
 all_goals
  refine ret (h _ ?_)
  simp only [decide_eq_true_eq, decide_eq_false_iff_not, Bool.false_eq_true, false_iff, true_iff, beq_iff_eq, bne_iff_ne, beq_eq_false_iff_ne, ne_eq, reduceCtorEq] at *
  omega
set_option maxRecDepth 20000 in
theorem vq (g : Gnd) (t : Int) (hg : gndP g) (st : Store) (R : AV → Store → Prop) (h : ∀ z : Bool, (z = true ↔ 0 ≤ t ∧ t < g.W * g.H) → R (bool z) st) : ACalls Tryz.prog 67 [.agg (gndC g), int t] st R := by
 have hm := zt hg
 refine ACalls.of_body (c := cfg 16) ze Tryz.func67 (by rfl) (by rfl) (by rfl) (by rfl) ?_
 repeat' (first | refine bcd (fun _ => ?_) (fun _ => ?_) | refine zd (fun _ => ?_) (fun _ => ?_) | refine in64 (by omega) ?_ | fail)
 all_goals
  refine ret (h _ ?_)
  simp only [decide_eq_true_eq, decide_eq_false_iff_not, Bool.false_eq_true, false_iff, true_iff, beq_iff_eq, bne_iff_ne, beq_eq_false_iff_ne, ne_eq, reduceCtorEq] at *
  omega
set_option maxRecDepth 20000 in
theorem zhs (g : Gnd) (t : Int) (hg : gndP g) (st : Store) (R : AV → Store → Prop) (h : ∀ z : Bool, (z = true ↔ zew g t) → R (bool z) st) : ACalls Tryz.prog 106 [.agg (gndC g), int t] st R := by
 refine ACalls.of_body (c := cfg 12) ze Tryz.func106 (by rfl) (by rfl) (by rfl) (by rfl) ?_
 repeat' (first | refine bcd (fun _ => ?_) (fun _ => ?_) | refine zd (fun _ => ?_) (fun _ => ?_) | refine in64 (by omega) ?_ | (refine zik _ _ hg _ _ ?_; rintro (_ | _) hz)| fail)
 all_goals
  refine ret (h _ ?_)
  unfold zew
  simp only [decide_eq_true_eq, decide_eq_false_iff_not, Bool.false_eq_true, false_iff, true_iff, beq_iff_eq, bne_iff_ne, beq_eq_false_iff_ne, ne_eq, reduceCtorEq] at *
  omega
set_option maxRecDepth 20000 in
theorem zqm (g : Gnd) (l : List Bld) (st : Store) (R : AV → Store → Prop) (h : ∀ z : Bool, (z = true ↔ g.T.length > 700 ∨ l.length > 30) → R (bool z) st) : ACalls Tryz.prog 48 [.agg (gndC g), lst 6 bldC l] st R := by
 refine ACalls.of_body (c := cfg 14) ze Tryz.func48 (by rfl) (by rfl) (by rfl) (by rfl) ?_
 repeat' (first | refine bcd (fun _ => ?_) (fun _ => ?_) | refine zd (fun _ => ?_) (fun _ => ?_) | refine in64 (by omega) ?_ | fail)
 all_goals
  refine ret (h _ ?_)
  simp only [decide_eq_true_eq, decide_eq_false_iff_not, Bool.false_eq_true, false_iff, true_iff, beq_iff_eq, bne_iff_ne, beq_eq_false_iff_ne, ne_eq, reduceCtorEq, zf] at *
  omega
set_option maxRecDepth 20000 in
theorem zfr (w : Wld) (st : Store) (R : AV → Store → Prop) (h : ∀ z : Bool, (z = true ↔ zk0 w) → R (bool z) st) : ACalls Tryz.prog 28 [.agg (wldC w)] st R := by
 refine ACalls.of_body (c := cfg 14) ze Tryz.func28 (by rfl) (by rfl) (by rfl) (by rfl) ?_
 repeat' (first | refine bcd (fun _ => ?_) (fun _ => ?_) | refine zd (fun _ => ?_) (fun _ => ?_) | refine in64 (by omega) ?_ | (refine zqm w.G w.B _ _ ?_; rintro (_ | _) hz)| fail)
 all_goals
  refine ret (h _ ?_)
  unfold zk0
  simp only [decide_eq_true_eq, decide_eq_false_iff_not, Bool.false_eq_true, false_iff, true_iff, beq_iff_eq, bne_iff_ne, beq_eq_false_iff_ne, ne_eq, reduceCtorEq, zf] at *
  omega
set_option maxRecDepth 20000 in
theorem zq9 (w : Wld) (u : Unt) (hg : gndP w.G) (st : Store) (R : AV → Store → Prop) (h : ∀ z : Bool, (z = true ↔ untP w u) → R (bool z) st) : ACalls Tryz.prog 71 [.agg (wldC w), .agg (untC u)] st R := by
 refine ACalls.of_body (c := cfg 90) ze Tryz.func71 (by rfl) (by rfl) (by rfl) (by rfl) ?_
 repeat' (first | refine bcd (fun _ => ?_) (fun _ => ?_) | refine zd (fun _ => ?_) (fun _ => ?_) | refine in64 (by omega) ?_ | (refine zkp u.kind _ _ ?_; rintro (_ | _) hz)| (refine zhs w.G u.goal hg _ _ ?_; rintro (_ | _) hz)| (refine zhs w.G u.next hg _ _ ?_; rintro (_ | _) hz)| fail)
 all_goals
  refine ret (h _ ?_)
  simp only [decide_eq_true_eq, decide_eq_false_iff_not, Bool.false_eq_true, false_iff, true_iff, beq_iff_eq, bne_iff_ne, beq_eq_false_iff_ne, ne_eq, reduceCtorEq, untP, k9, zew] at *
  first | omega | (clear h; rcases Decidable.em (u.state = 1) with e1 | e1 <;> rcases Decidable.em (u.goal = -1) with e2 | e2 <;> simp [bne, beqD, e1, e2] at * <;> omega)
end Go.Proofs
namespace Go.Proofs
open Go Go.V
theorem zl7 {t : UInt8} (h : t.toNat ≤ 5) : t = 0 ∨ t = 1 ∨ t = 2 ∨ t = 3 ∨ t = 4 ∨ t = 5 := by
 have : t.toNat = (0 : UInt8).toNat ∨ t.toNat = (1 : UInt8).toNat ∨ t.toNat = (2 : UInt8).toNat ∨ t.toNat = (3 : UInt8).toNat ∨ t.toNat = (4 : UInt8).toNat ∨ t.toNat = (5 : UInt8).toNat := by
  show t.toNat = 0 ∨ t.toNat = 1 ∨ t.toNat = 2 ∨ t.toNat = 3 ∨ t.toNat = 4 ∨ t.toNat = 5
  omega
 simpa only [UInt8.toNat_inj] using this
theorem qr (k : Int) (st : Store) (R : AV → Store → Prop) (h : R (.agg (zkq k)) st) : ACalls Tryz.prog 109 [int k] st R := by
 refine ACalls.of_body (c := cfg 14) ze Tryz.func109 (by rfl) (by rfl) (by rfl) (by rfl) ?_
 unfold zkq kRad ztd kCls j9 va at h
 refine bceq (fun h1 => ?_) (fun h1 => ?_)
 ·simp only [h1] at h
  exact ret h
 refine bceq (fun h2 => ?_) (fun h2 => ?_)
 ·simp only [h2] at h
  exact ret h
 refine bceq (fun h3 => ?_) (fun h3 => ?_)
 ·simp only [h3] at h
  exact ret h
 simp only [h1, h2, h3, if_false] at h
 exact ret h
theorem zoo (k : Int) (st : Store) (R : AV → Store → Prop) (h : k9 k → R (.tup [.agg (zkq k), bool true]) st) (h' : ¬ k9 k → R (.tup [.agg [int 0, int 0, int 0, int 0, int 0], bool false]) st) : ACalls Tryz.prog 47 [int k] st R := by
 refine ACalls.of_body (c := cfg 18) ze Tryz.func47 (by rfl) (by rfl) (by rfl) (by rfl) ?_
 unfold zkq kRad ztd kCls j9 va k9 at h
 refine bceq (fun h1 => ?_) (fun h1 => ?_)
 ·simp only [h1] at h
  exact ret (h (by decide))
 refine bceq (fun h2 => ?_) (fun h2 => ?_)
 ·simp only [h2] at h
  exact ret (h (by decide))
 refine bceq (fun h3 => ?_) (fun h3 => ?_)
 ·simp only [h3] at h
  exact ret (h (by decide))
 refine bceq (fun h4 => ?_) (fun h4 => ?_)
 ·simp only [h4] at h
  exact ret (h (by decide))
 exact ret (h' (by unfold k9; omega))
theorem qn (k : Int) (hk : k9 k) (st : Store) (R : AV → Store → Prop) (h : R (.agg (zkq k)) st) : ACalls Tryz.prog 26 [int k] st R := by
 refine ACalls.of_body (c := cfg 11) ze Tryz.func26 (by rfl) (by rfl) (by rfl) (by rfl) ?_
 refine zoo k _ _ (fun _ => ret h) (fun h1 => absurd hk h1)
theorem zp5 (c : Int) (t : UInt8) (ht : t.toNat ≤ 5) (st : Store) (R : AV → Store → Prop) (h : R (int (zib c t.toNat)) st) : ACalls Tryz.prog 191 [int c, u8 t] st R := by
 refine ACalls.of_body (c := cfg 17) ze Tryz.func191 (by rfl) (by rfl) (by rfl) (by rfl) ?_
 unfold zib at h
 have hn := zl7 ht
 refine bceq (fun h1 => ?_) (fun h1 => ?_)
 ·rw [if_pos h1] at h
  rcases hn with rfl | rfl | rfl | rfl | rfl | rfl <;> exact ⟨_, rfl, by decide, optR (ret h)⟩
 refine bceq (fun h2 => ?_) (fun h2 => ?_)
 ·rw [if_neg h1, if_pos h2] at h
  rcases hn with rfl | rfl | rfl | rfl | rfl | rfl <;> exact ⟨_, rfl, by decide, optR (ret h)⟩
 rw [if_neg h1, if_neg h2] at h
 rcases hn with rfl | rfl | rfl | rfl | rfl | rfl <;> exact ⟨_, rfl, by decide, optR (ret h)⟩
theorem zuf (c : Int) (hc : c = 0 ∨ c = 1 ∨ c = 2) (t : UInt8) (ht : t.toNat ≤ 5) (st : Store) (R : AV → Store → Prop) (h : R (int (zib c t.toNat)) st) : ACalls Tryz.prog 133 [int c, u8 t] st R := by
 refine ACalls.of_body (c := cfg 15) ze Tryz.func133 (by rfl) (by rfl) (by rfl) (by rfl) ?_
 unfold zib at h
 have hn := zl7 ht
 rcases hc with rfl | rfl | rfl <;> rcases hn with rfl | rfl | rfl | rfl | rfl | rfl <;> exact ⟨_, rfl, by decide, _, rfl, by decide, optR (ret h)⟩
end Go.Proofs
namespace Go.Proofs
open Go Go.V
theorem w9 (n : Int) (st : Store) (R : AV → Store → Prop) (h : R (int (nrm n)) st) : ACalls Tryz.prog 213 [int n] st R := by
 refine ACalls.of_body (c := cfg 5) ze Tryz.func213 (by rfl) (by rfl) (by rfl) (by rfl) ?_
 rw [← yie] at h
 exact ret h
theorem ybv (n : Int) (hn : yn n) (st : Store) (R : AV → Store → Prop) (h : R (int (-nrm n)) st) : ACalls Tryz.prog 215 [int n] st R := by
 refine ACalls.of_body (c := cfg 6) ze Tryz.func215 (by rfl) (by rfl) (by rfl) (by rfl) ?_
 refine w9 n _ _ ?_
 have := v8 hn
 refine ⟨⟨by omega, by omega⟩, ?_⟩
 rw [show -nrm n = 0 - nrm n by omega] at h
 exact ret h
theorem za6 (a b : Int) (ha : yn a) (hb : yn b) (st : Store) (R : AV → Store → Prop) (h : R (int (fadd a b)) st) : ACalls Tryz.prog 194 [int a, int b] st R := by
 refine ACalls.of_body (c := cfg 30) ze Tryz.func194 (by rfl) (by rfl) (by rfl) (by rfl) ?_
 refine w9 a _ _ ?_
 refine w9 b _ _ ?_
 have h1 := v8 ha
 have h2 := v8 hb
 unfold fadd at h
 generalize nrm a = x at *
 generalize nrm b = y at *
 have k1 : x + y > 9223372036854775807 → R (int 9223372036854775807) st := fun hh => by rw [show vy (x + y) = 9223372036854775807 by unfold vy; simp [hh]] at h; exact h
 have k2 : x + y < -9223372036854775807 → R (int (-9223372036854775807)) st := fun hh => by rw [show vy (x + y) = -9223372036854775807 by unfold vy; rw [if_neg (by omega), if_pos hh]] at h; exact h
 have k3 : ¬ x + y > 9223372036854775807 → ¬ x + y < -9223372036854775807 → yn (x + y) ∧ R (int (x + y)) st := fun hh hh' => ⟨⟨by omega, by omega⟩, by rw [show vy (x + y) = x + y by unfold vy; rw [if_neg hh, if_neg hh']] at h; exact h⟩
 have fin : ¬ x + y > 9223372036854775807 → ¬ x + y < -9223372036854775807 → yn (x + y) ∧ ∃ r st', AV.le (int (x + y)) r ∧ st.Has st' ∧ R r st' := fun hh hh' => ⟨(k3 hh hh').1, ret (k3 hh hh').2⟩
 have e : Int.negSucc 9223372036854775806 = -9223372036854775807 := rfl
 refine bcd (fun c1 => ?_) (fun c1 => ?_)
 ·refine ⟨⟨by omega, by omega⟩, ?_⟩
  refine bcd (fun c2 => ?_) (fun c2 => ?_)
  ·exact ret (k1 (by omega))
  ·refine bcd (fun c3 => ?_) (fun c3 => ?_)
   ·omega
   ·exact fin (by omega) (by omega)
 ·refine bcd (fun c3 => ?_) (fun c3 => ?_)
  ·refine ⟨⟨by omega, by omega⟩, ?_⟩
   refine bcd (fun c4 => ?_) (fun c4 => ?_)
   ·exact ret (k2 (by omega))
   ·exact fin (by omega) (by omega)
  ·exact fin (by omega) (by omega)
theorem v6 (a b : Int) (ha : yn a) (hb : yn b) (st : Store) (R : AV → Store → Prop) (h : R (int (fsub a b)) st) : ACalls Tryz.prog 193 [int a, int b] st R := by
 refine ACalls.of_body (c := cfg 9) ze Tryz.func193 (by rfl) (by rfl) (by rfl) (by rfl) ?_
 refine ybv b hb _ _ ?_
 have h2 := v8 hb
 exact za6 a (-nrm b) ha ⟨by omega, by omega⟩ _ _ (ret h)
theorem zo2 (n : Int) (hn : yn n) (st : Store) (R : AV → Store → Prop) (h : R (.tup [u64 (asz n), bool (decide (nrm n < 0))]) st) : ACalls Tryz.prog 218 [int n] st R := by
 refine ACalls.of_body (c := cfg 13) ze Tryz.func218 (by rfl) (by rfl) (by rfl) (by rfl) ?_
 refine w9 n _ _ ?_
 have h1 := v8 hn
 unfold asz at h
 generalize nrm n = x at *
 refine bcd (fun c1 => ?_) (fun c1 => ?_)
 ·refine ⟨⟨by omega, by omega⟩, ?_⟩
  rw [if_pos c1, show decide (x < 0) = true by simp [c1]] at h
  rw [← qy (v := -x) (by omega) (by omega), show -x = 0 - x by omega] at h
  exact ret h
 ·rw [if_neg c1, show decide (x < 0) = false by simp [c1]] at h
  rw [← qy (v := x) (by omega) (by omega)] at h
  exact ret h
set_option maxHeartbeats 1000000 in
theorem zqb (x y : Int) (hx : 0 ≤ x) (hx2 : x < 18446744073709551616) (hy : 0 ≤ y) (hy2 : y < 18446744073709551616) (st : Store) (R : AV → Store → Prop) (h : R (.tup (vl (x * y))) st) :
  ACalls Tryz.prog 220 [u64 x, u64 y] st R := by
 refine ACalls.of_body (c := cfg 51) ze Tryz.func220 (by rfl) (by rfl) (by rfl) (by rfl) ?_
 refine ⟨by decide, ?_⟩
 refine ⟨by decide, ?_⟩
 refine ⟨by decide, ?_⟩
 refine ⟨by decide, ?_⟩
 refine ⟨by decide, ?_⟩
 refine ret ((congrArg (fun l => R (.tup l) st) ?_).mpr h)
 obtain ⟨p00, p10, p01, p11, e1, e2, e3, e4, e5, b⟩ := zeu x y hx hx2 hy hy2
 simp only [yi0, zq8 hx, zq8 hy, wx, ← e1, ← e2, ← e3, ← e4]
 rw [zq8 (Int.emod_nonneg _ (by decide))]
 unfold vl u64
 refine congr (congrArg _ ?_) rfl
 refine congrArg (fun n => AV.s (.int .u64 n)) ?_
 omega
set_option maxHeartbeats 1000000 in
theorem zas (x y : Int) (hx : 0 ≤ x) (hx2 : x < 18446744073709551616) (hy : 0 ≤ y) (hy2 : y < 18446744073709551616) (st : Store) (R : AV → Store → Prop) (h : R (.agg (vl (x * y))) st) :
  ACalls Tryz.prog 137 [u64 x, u64 y] st R := by
 refine ACalls.of_body (c := cfg 46) ze Tryz.func137 (by rfl) (by rfl) (by rfl) (by rfl) ?_
 refine ⟨by decide, ?_⟩
 refine ⟨by decide, ?_⟩
 refine ⟨by decide, ?_⟩
 refine ⟨by decide, ?_⟩
 refine ⟨by decide, ?_⟩
 refine ⟨by decide, ?_⟩
 refine ⟨by decide, ?_⟩
 refine ⟨by decide, ?_⟩
 refine ret ((congrArg (fun l => R (.agg l) st) ?_).mpr h)
 obtain ⟨p00, p10, p01, p11, e1, e2, e3, e4, e5, b⟩ := zeu x y hx hx2 hy hy2
 simp only [yi1, yiq, zq8 hx, zq8 hy, wx, ← e1, ← e2, ← e3, ← e4]
 simp only [zq8 (Int.emod_nonneg _ (show (18446744073709551616 : Int) ≠ 0 by decide))]
 rw [or32 (Int.emod_nonneg _ (by decide)) (Int.emod_nonneg _ (by decide)) (by omega)]
 refine zhx ?_ ?_
 ·omega
 ·omega
theorem vj (x : Int) (hx : 0 ≤ x) (hx2 : x < 18446744073709551616) (st : Store) (R : AV → Store → Prop) (h : R (.agg (vl (x * x))) st) : ACalls Tryz.prog 199 [u64 x] st R := by
 refine ACalls.of_body (c := cfg 14) ze Tryz.func199 (by rfl) (by rfl) (by rfl) (by rfl) ?_
 exact zqb x x hx hx2 hx hx2 _ _ (ret h)
theorem zhr (a b : Int) (ha : 0 ≤ a) (hb : 0 ≤ b) (st : Store) (R : AV → Store → Prop) (h : R (bool (decide (a < b))) st) : ACalls Tryz.prog 198 [.agg (vl a), .agg (vl b)] st R := by
 refine ACalls.of_body (c := cfg 24) ze Tryz.func198 (by rfl) (by rfl) (by rfl) (by rfl) ?_
 refine bcd (fun c1 => ?_) (fun c1 => ?_)
 ·exact ret (isT h (by simp; omega))
 ·refine bceq (fun c2 => ?_) (fun c2 => ?_)
  ·refine ret ?_
   have : decide (a < b) = decide (a % 18446744073709551616 < b % 18446744073709551616) := by
    rw [Bool.eq_iff_iff]; simp; omega
   rw [this] at h; exact h
  ·exact ret (isF h (by simp; omega))
theorem zkn (a b : Int) (ha : 0 ≤ a) (hb : 0 ≤ b) (st : Store) (R : AV → Store → Prop) (h : R (bool (decide (a < b))) st) : ACalls Tryz.prog 135 [.agg (vl a), .agg (vl b)] st R := by
 refine ACalls.of_body (c := cfg 24) ze Tryz.func135 (by rfl) (by rfl) (by rfl) (by rfl) ?_
 refine bcd (fun c1 => ?_) (fun c1 => ?_)
 ·exact ret (isT h (by simp; omega))
 ·refine bceq (fun c2 => ?_) (fun c2 => ?_)
  ·refine ret ?_
   have : decide (a < b) = decide (a % 18446744073709551616 < b % 18446744073709551616) := by
    rw [Bool.eq_iff_iff]; simp; omega
   rw [this] at h; exact h
  ·exact ret (isF h (by simp; omega))
theorem zay (n : Int) (st : Store) (R : AV → Store → Prop) (h : R (int (nrm n)) st) : ACalls Tryz.prog 134 [int n] st R := by
 refine ACalls.of_body (c := cfg 6) ze Tryz.func134 (by rfl) (by rfl) (by rfl) (by rfl) ?_
 refine bcd (fun c1 => ?_) (fun c1 => ?_)
 ·rw [show nrm n = -9223372036854775807 by unfold nrm; rw [if_pos c1]] at h; exact ret h
 ·rw [show nrm n = n by unfold nrm; rw [if_neg c1]] at h; exact ret h
theorem zsd (n : Int) (hn : yn n) (st : Store) (R : AV → Store → Prop) (h : R (int (-nrm n)) st) : ACalls Tryz.prog 211 [int n] st R := by
 refine ACalls.of_body (c := cfg 6) ze Tryz.func211 (by rfl) (by rfl) (by rfl) (by rfl) ?_
 refine zay n _ _ ?_
 have := v8 hn
 refine ⟨⟨by omega, by omega⟩, ?_⟩
 rw [show -nrm n = 0 - nrm n by omega] at h
 exact ret h
theorem zsn (a b : Int) (ha : yn a) (hb : yn b) (st : Store) (R : AV → Store → Prop) (h : R (int (fadd a b)) st) : ACalls Tryz.prog 210 [int a, int b] st R := by
 refine ACalls.of_body (c := cfg 28) ze Tryz.func210 (by rfl) (by rfl) (by rfl) (by rfl) ?_
 refine zay a _ _ ?_
 refine zay b _ _ ?_
 have h1 := v8 ha
 have h2 := v8 hb
 unfold fadd at h
 generalize nrm a = x at *
 generalize nrm b = y at *
 have k1 : x + y > 9223372036854775807 → R (int 9223372036854775807) st := fun hh => by rw [show vy (x + y) = 9223372036854775807 by unfold vy; simp [hh]] at h; exact h
 have k2 : x + y < -9223372036854775807 → R (int (-9223372036854775807)) st := fun hh => by rw [show vy (x + y) = -9223372036854775807 by unfold vy; rw [if_neg (by omega), if_pos hh]] at h; exact h
 have k3 : ¬ x + y > 9223372036854775807 → ¬ x + y < -9223372036854775807 → yn (x + y) ∧ R (int (x + y)) st := fun hh hh' => ⟨⟨by omega, by omega⟩, by rw [show vy (x + y) = x + y by unfold vy; rw [if_neg hh, if_neg hh']] at h; exact h⟩
 have fin : ¬ x + y > 9223372036854775807 → ¬ x + y < -9223372036854775807 → yn (x + y) ∧ ∃ r st', AV.le (int (x + y)) r ∧ st.Has st' ∧ R r st' := fun hh hh' => ⟨(k3 hh hh').1, ret (k3 hh hh').2⟩
 refine bcd (fun c1 => ?_) (fun c1 => ?_)
 ·refine ⟨⟨by omega, by omega⟩, ?_⟩
  refine bcd (fun c2 => ?_) (fun c2 => ?_)
  ·exact ret (k1 (by omega))
  ·refine bcd (fun c3 => ?_) (fun c3 => ?_)
   ·omega
   ·exact fin (by omega) (by omega)
 ·refine bcd (fun c3 => ?_) (fun c3 => ?_)
  ·refine ⟨⟨by omega, by omega⟩, ?_⟩
   refine bcd (fun c4 => ?_) (fun c4 => ?_)
   ·exact ret (k2 (by omega))
   ·exact fin (by omega) (by omega)
  ·exact fin (by omega) (by omega)
theorem zj0 (a b : Int) (ha : yn a) (hb : yn b) (st : Store) (R : AV → Store → Prop) (h : R (int (fsub a b)) st) : ACalls Tryz.prog 179 [int a, int b] st R := by
 refine ACalls.of_body (c := cfg 9) ze Tryz.func179 (by rfl) (by rfl) (by rfl) (by rfl) ?_
 refine zsd b hb _ _ ?_
 have h2 := v8 hb
 exact zsn a (-nrm b) ha ⟨by omega, by omega⟩ _ _ (ret h)
theorem zg1 (n : Int) (hn : -9223372036854775807 ≤ n ∧ n ≤ 9223372036854775807) (st : Store) (R : AV → Store → Prop) (h : R (u64 (asz n)) st) : ACalls Tryz.prog 180 [int n] st R := by
 refine ACalls.of_body (c := cfg 10) ze Tryz.func180 (by rfl) (by rfl) (by rfl) (by rfl) ?_
 unfold asz at h
 rw [kr (by omega)] at h
 refine bcd (fun c1 => ?_) (fun c1 => ?_)
 ·refine ⟨⟨by omega, by omega⟩, ?_⟩
  rw [if_pos c1, ← qy (v := -n) (by omega) (by omega), show -n = 0 - n by omega] at h
  exact ret h
 ·rw [if_neg c1, ← qy (v := n) (by omega) (by omega)] at h
  exact ret h
theorem zpj (a b : Int) (ha : 0 ≤ a) (hb : 0 ≤ b) (hab : a + b < 340282366920938463463374607431768211456) (st : Store) (R : AV → Store → Prop) (h : R (.agg (vl (a + b))) st) : ACalls Tryz.prog 181 [.agg (vl a), .agg (vl b)] st R := by
 refine ACalls.of_body (c := cfg 27) ze Tryz.func181 (by rfl) (by rfl) (by rfl) (by rfl) ?_
 refine bcd (fun c1 => ?_) (fun c1 => ?_)
 ·refine ret ((congrArg (fun l => R (.agg l) st) ?_).mpr h)
  simp only [wx] at c1 ⊢
  refine zhx ?_ ?_
  ·omega
  ·omega
 ·refine ret ((congrArg (fun l => R (.agg l) st) ?_).mpr h)
  simp only [wx] at c1 ⊢
  refine zhx ?_ ?_
  ·omega
  ·omega
end Go.Proofs
namespace Go.Proofs
open Go Go.V
theorem zhw (x y c : Int) (hx : 0 ≤ x) (hy : 0 ≤ y) (hc : 0 ≤ c) (hc1 : c ≤ 1) (st : Store) (R : AV → Store → Prop) (h : R (.tup [u64 ((x + y + c) % 18446744073709551616), u64 ((x + y + c) / 18446744073709551616)]) st) :
  ACalls Tryz.prog 238 [u64 x, u64 y, u64 c] st R := by
 obtain ⟨a, rfl⟩ := Int.eq_ofNat_of_zero_le hx
 obtain ⟨b, rfl⟩ := Int.eq_ofNat_of_zero_le hy
 obtain ⟨d, rfl⟩ := Int.eq_ofNat_of_zero_le hc
 exact zu2 Tryz.laysNm725 a b d (by omega) h
theorem zo5 (a b : Int) (ha : 0 ≤ a) (hb : 0 ≤ b) (hab : a + b < 340282366920938463463374607431768211456) (st : Store) (R : AV → Store → Prop) (h : R (.agg (vl (a + b))) st) : ACalls Tryz.prog 219 [.agg (vl a), .agg (vl b)] st R := by
 refine ACalls.of_body (c := cfg 29) ze Tryz.func219 (by rfl) (by rfl) (by rfl) (by rfl) ?_
 refine zhw (a % 18446744073709551616) (b % 18446744073709551616) 0 (by omega) (by omega) (by omega) (by omega) _ _ ?_
 refine zhw (a / 18446744073709551616) (b / 18446744073709551616) ((a % 18446744073709551616 + b % 18446744073709551616 + 0) / 18446744073709551616) (by omega) (by omega) (by omega) (by omega) _ _ ?_
 refine ret ((congrArg (fun l => R (.agg l) st) ?_).mpr h)
 refine zhx ?_ ?_
 ·omega
 ·omega
theorem zpc {v : Vc} (h : v.ok) : 0 ≤ asz v.1 * asz v.1 ∧ 0 ≤ asz v.2 * asz v.2 ∧ asz v.1 * asz v.1 ≤ 85070591730234615847396907784232501249 ∧ asz v.2 * asz v.2 ≤ 85070591730234615847396907784232501249 := by
 obtain ⟨h1, h2⟩ := h
 have a1 := zlt h1
 have a2 := zlt h2
 have b : ∀ x : Int, 0 ≤ x → x ≤ 9223372036854775807 → 0 ≤ x * x ∧ x * x ≤ 85070591730234615847396907784232501249 := by
  intro x h3 h4
  refine ⟨Int.mul_nonneg h3 h3, ?_⟩
  have h5 : x * x ≤ 9223372036854775807 * 9223372036854775807 := Int.mul_le_mul h4 h4 h3 (by decide)
  exact h5
 have b1 := b _ a1.1 a1.2
 have b2 := b _ a2.1 a2.2
 exact ⟨b1.1, b2.1, b1.2, b2.2⟩
theorem zey (v : Vc) (hv : v.ok) (st : Store) (R : AV → Store → Prop) (h : R (.agg (vl (sqr v))) st) : ACalls Tryz.prog 196 [.agg (vecC v)] st R := by
 refine ACalls.of_body (c := cfg 24) ze Tryz.func196 (by rfl) (by rfl) (by rfl) (by rfl) ?_
 have a1 := zlt hv.1
 have a2 := zlt hv.2
 have b := zpc hv
 refine zo2 v.1 hv.1 _ _ ?_
 refine zo2 v.2 hv.2 _ _ ?_
 refine vj (asz v.1) (by omega) (by omega) _ _ ?_
 refine vj (asz v.2) (by omega) (by omega) _ _ ?_
 exact zo5 _ _ (by omega) (by omega) (by omega) _ _ (ret h)
theorem zja (a b : Vc) (ha : a.ok) (hb : b.ok) (st : Store) (R : AV → Store → Prop) (h : R (.agg (vecC (vsub a b))) st) : ACalls Tryz.prog 197 [.agg (vecC a), .agg (vecC b)] st R := by
 refine ACalls.of_body (c := cfg 16) ze Tryz.func197 (by rfl) (by rfl) (by rfl) (by rfl) ?_
 refine ADraw.of_sched ze (by rfl) (by rfl) zz7 (by rfl) ?_
 refine ⟨v6 a.1 b.1 ha.1 hb.1 _ _ ⟨(by repeat (first | exact trivial | refine ⟨rfl, ?_⟩ | refine ⟨optR (optR (optR (za _ (zb _ _ _) rfl))), ?_⟩)), ?_⟩, trivial⟩
 refine ⟨v6 a.2 b.2 ha.2 hb.2 _ _ ⟨(by repeat (first | exact trivial | refine ⟨rfl, ?_⟩ | refine ⟨optR (optR (optR (za _ (zb _ _ _) rfl))), ?_⟩)), ?_⟩, trivial⟩
 refine ⟨⟨(by repeat (first | exact trivial | refine ⟨rfl, ?_⟩ | refine ⟨optR (optR (optR (za _ (zb _ _ _) rfl))), ?_⟩)), ?_⟩, trivial⟩
 exact ret h
theorem zcu (a b : Vc) : (vsub a b).ok := ⟨zah _ _, zah _ _⟩
theorem zct (a b : Vc) (r : Int) (ha : a.ok) (hb : b.ok) (hr : r ≤ 9223372036854775807) (st : Store) (R : AV → Store → Prop) (h : R (bool (near a b r)) st) : ACalls Tryz.prog 155 [.agg (vecC a), .agg (vecC b), int r] st R := by
 refine ACalls.of_body (c := cfg 17) ze Tryz.func155 (by rfl) (by rfl) (by rfl) (by rfl) ?_
 unfold near at h
 refine bcd (fun c1 => ?_) (fun c1 => ?_)
 ·exact ret (isF h (by simp; omega))
 ·have hb2 := zpc (zcu a b)
  refine zja a b ha hb _ _ ?_
  refine zey _ (zcu a b) _ _ ?_
  refine ((congrArg (fun n => ACalls Tryz.prog 199 [.s (.int .u64 n)] st _) (qy (v := r) (by omega) (by omega))).mpr ?_)
  refine vj r (by omega) (by omega) _ _ ?_
  refine zhr _ _ ?_ (Int.mul_nonneg (by omega) (by omega)) _ _ (ret ?_)
  ·unfold sqr; omega
  ·have : decide (0 < r ∧ sqr (vsub a b) < r * r) = decide (sqr (vsub a b) < r * r) := by
    rw [Bool.eq_iff_iff]; simp; omega
   rw [this] at h; exact h
theorem zg0 (a b : Vc) (ha : a.ok) (hb : b.ok) (st : Store) (R : AV → Store → Prop) (h : R (.agg (vecC (vsub a b))) st) : ACalls Tryz.prog 131 [.agg (vecC a), .agg (vecC b)] st R := by
 refine ACalls.of_body (c := cfg 16) ze Tryz.func131 (by rfl) (by rfl) (by rfl) (by rfl) ?_
 refine ADraw.of_sched ze (by rfl) (by rfl) ya0 (by rfl) ?_
 refine ⟨zj0 a.1 b.1 ha.1 hb.1 _ _ ⟨(by repeat (first | exact trivial | refine ⟨rfl, ?_⟩ | refine ⟨optR (optR (optR (za _ (zb _ _ _) rfl))), ?_⟩)), ?_⟩, trivial⟩
 refine ⟨zj0 a.2 b.2 ha.2 hb.2 _ _ ⟨(by repeat (first | exact trivial | refine ⟨rfl, ?_⟩ | refine ⟨optR (optR (optR (za _ (zb _ _ _) rfl))), ?_⟩)), ?_⟩, trivial⟩
 refine ⟨⟨(by repeat (first | exact trivial | refine ⟨rfl, ?_⟩ | refine ⟨optR (optR (optR (za _ (zb _ _ _) rfl))), ?_⟩)), ?_⟩, trivial⟩
 exact ret h
theorem zus (n : Int) : asz (nrm n) = asz n := by unfold asz; rw [yg6]
theorem zb6 (v : Vc) (hv : v.ok) (st : Store) (R : AV → Store → Prop) (h : R (.agg (vl (sqr v))) st) : ACalls Tryz.prog 136 [.agg (vecC v)] st R := by
 refine ACalls.of_body (c := cfg 20) ze Tryz.func136 (by rfl) (by rfl) (by rfl) (by rfl) ?_
 have a1 := zlt hv.1
 have a2 := zlt hv.2
 have b := zpc hv
 refine ADraw.of_sched ze (by rfl) (by rfl) yax (by rfl) ?_
 refine ⟨zay v.1 _ _ ⟨(by repeat (first | exact trivial | refine ⟨rfl, ?_⟩ | refine ⟨optR (optR (optR (za _ (zb _ _ _) rfl))), ?_⟩)), ?_⟩, trivial⟩
 refine ⟨zg1 (nrm v.1) (v8 hv.1) _ _ ⟨(by repeat (first | exact trivial | refine ⟨rfl, ?_⟩ | refine ⟨optR (optR (optR (za _ (zb _ _ _) rfl))), ?_⟩)), ?_⟩, trivial⟩
 refine ⟨zay v.2 _ _ ⟨(by repeat (first | exact trivial | refine ⟨rfl, ?_⟩ | refine ⟨optR (optR (optR (za _ (zb _ _ _) rfl))), ?_⟩)), ?_⟩, trivial⟩
 refine ⟨zg1 (nrm v.2) (v8 hv.2) _ _ ⟨(by repeat (first | exact trivial | refine ⟨rfl, ?_⟩ | refine ⟨optR (optR (optR (za _ (zb _ _ _) rfl))), ?_⟩)), ?_⟩, trivial⟩
 rw [zus, zus]
 refine ⟨⟨(by repeat (first | exact trivial | refine ⟨rfl, ?_⟩ | refine ⟨optR (optR (optR (za _ (zb _ _ _) rfl))), ?_⟩)), ?_⟩, trivial⟩
 refine ⟨⟨(by repeat (first | exact trivial | refine ⟨rfl, ?_⟩ | refine ⟨optR (optR (optR (za _ (zb _ _ _) rfl))), ?_⟩)), ?_⟩, trivial⟩
 refine zas (asz v.1) (asz v.1) (by omega) (by omega) (by omega) (by omega) _ _ ?_
 refine zas (asz v.2) (asz v.2) (by omega) (by omega) (by omega) (by omega) _ _ ?_
 exact zpj _ _ (by omega) (by omega) (by omega) _ _ (ret h)
theorem zjy (a b : Vc) (r : Int) (ha : a.ok) (hb : b.ok) (hr : yn r) (st : Store) (R : AV → Store → Prop) (h : R (bool (near a b r)) st) : ACalls Tryz.prog 100 [.agg (vecC a), .agg (vecC b), int r] st R := by
 refine ACalls.of_body (c := cfg 21) ze Tryz.func100 (by rfl) (by rfl) (by rfl) (by rfl) ?_
 have hn := v8 hr
 unfold near at h
 have hb2 := zpc (zcu a b)
 refine zay r _ _ ?_
 refine bcd (fun c1 => ?_) (fun c1 => ?_)
 ·refine ret (isF h ?_)
  have : r < 0 := by unfold nrm at c1; split at c1 <;> omega
  simp; omega
 ·have hr0 : nrm r = r := by unfold nrm at c1 ⊢; split <;> omega
  rw [hr0] at c1 hn
  refine zg0 a b ha hb _ _ ?_
  refine zb6 _ (zcu a b) _ _ ?_
  refine ((congrArg (fun n => ACalls Tryz.prog 137 [.s (.int .u64 n), .s (.int .u64 n)] st _) (show IntKind.u64.wrap (nrm r) = r by rw [hr0]; exact qy (v := r) (by omega) (by omega))).mpr ?_)
  refine zas r r (by omega) (by omega) (by omega) (by omega) _ _ ?_
  refine zkn _ _ ?_ (Int.mul_nonneg (by omega) (by omega)) _ _ (ret ?_)
  ·unfold sqr; omega
  ·have : decide (0 < r ∧ sqr (vsub a b) < r * r) = decide (sqr (vsub a b) < r * r) := by
    rw [Bool.eq_iff_iff]; simp
    intro h1
    by_cases h0 : r = 0
    ·subst h0
     unfold sqr at h1; omega
    ·omega
   rw [this] at h; exact h
end Go.Proofs
namespace Go.Proofs
open Go Go.V
theorem zto (g : Gnd) (hg : gndP g) (t : Nat) (ht : (t : Int) < g.W * g.H) (p : Vc) (hp : yl p.1 p.2) (r : Int) (hr : 0 < r ∧ r ≤ 262144) (st : Store) (R : AV → Store → Prop) (h : R (bool (decide (hitP g t p r))) st) :
  ACalls Tryz.prog 152 [.agg (gndC g), int t, .agg (vecC p), int r] st R := by
 have hb := vp hg ht
 have hn := ybw hg ht hp hr.1
 have hx := txty hg ht
 have hq := trem (t := t) hg.1.1
 have hq2 := tquo (t := t) hg.1.1
 have hg1 := hg.1
 have hg2 := hg.2.1
 have hp' := hp
 unfold yl at hp'
 refine ACalls.of_body (c := cfg 41) ze Tryz.func152 (by rfl) (by rfl) (by rfl) (by rfl) ?_
 refine ADraw.of_sched ze (by rfl) (by rfl) yas (by rfl) ?_
 refine ⟨by omega, ?_⟩
 have q1 : yn ((t : Int).tmod g.W * 65536) := by rw [hq]; unfold yn; omega
 have q2 : yn ((t : Int).tdiv g.W) := by rw [hq2]; unfold yn; omega
 have q3 : yn ((t : Int).tdiv g.W * 65536) := by rw [hq2]; unfold yn; omega
 refine ⟨q1, ?_⟩
 refine ⟨by omega, ?_⟩
 refine ⟨q2, ?_⟩
 refine ⟨q3, ?_⟩
 refine ⟨⟨(by repeat (first | exact trivial | refine ⟨rfl, ?_⟩ | refine ⟨optR (optR (optR (za _ (zb _ _ _) rfl))), ?_⟩)), ?_⟩, trivial⟩
 refine ⟨⟨trivial, ?_⟩, trivial⟩
 have e1 : (t : Int).tmod g.W * 65536 = tx g t := by rw [hq]; rfl
 have e2 : (t : Int).tdiv g.W * 65536 = ty g t := by rw [hq2]; rfl
 rw [e1, e2]
 refine in64 (by omega) ?_
 refine in64 (by omega) ?_
 have c1 := zeo (x := p.1) hx.1
 have c2 := zeo (x := p.2) hx.2
 refine zct p (zbe p.1 (tx g t), zbe p.2 (ty g t)) r ⟨⟨by omega, by omega⟩, ⟨by omega, by omega⟩⟩ ⟨⟨by dsimp only; omega, by dsimp only; omega⟩, ⟨by dsimp only; omega, by dsimp only; omega⟩⟩ (by omega) _ _ (ret ?_)
 rw [hn]
 exact h
theorem zoc (x lo : Int) (hx : -1099511627776 ≤ x ∧ x ≤ 1099511627776) (hlo : 0 ≤ lo ∧ lo ≤ 8323072) (st : Store) (R : AV → Store → Prop) (h : R (int (off x lo)) st) : ACalls Tryz.prog 129 [int x, int lo, int (lo + 65536)] st R := by
 refine ACalls.of_body (c := cfg 19) ze Tryz.func129 (by rfl) (by rfl) (by rfl) (by rfl) ?_
 unfold off at h
 refine bcd (fun c1 => ?_) (fun c1 => ?_)
 ·refine in64 (by omega) ?_
  rw [if_pos c1] at h
  exact ret h
 rw [if_neg c1] at h
 refine bcd (fun c2 => ?_) (fun c2 => ?_)
 ·refine in64 (by omega) ?_
  rw [if_pos c2] at h
  exact ret h
 rw [if_neg c2] at h
 exact ret h
theorem zha (g : Gnd) (hg : gndP g) (t : Nat) (ht : (t : Int) < g.W * g.H) (p : Vc) (hp : yl p.1 p.2) (r : Int) (hr : 0 < r ∧ r ≤ 262144) (st : Store) (R : AV → Store → Prop) (h : R (bool (decide (hitP g t p r))) st) :
  ACalls Tryz.prog 89 [.agg (gndC g), int t, .agg (vecC p), int r] st R := by
 have hb := vp hg ht
 have hx := txty hg ht
 have hq := trem (t := t) hg.1.1
 have hq2 := tquo (t := t) hg.1.1
 have hg1 := hg.1
 have hg2 := hg.2.1
 have hp' := hp
 unfold yl at hp'
 have o1 := yic hx.1 hp'.1
 have o2 := yic hx.2 hp'.2
 have hm := zs6 o1.1 o2.1 hr.1
 refine ACalls.of_body (c := cfg 56) ze Tryz.func89 (by rfl) (by rfl) (by rfl) (by rfl) ?_
 refine ADraw.of_sched ze (by rfl) (by rfl) yf2 (by rfl) ?_
 refine ⟨by omega, ?_⟩
 have q1 : yn ((t : Int).tmod g.W * 65536) := by rw [hq]; unfold yn; omega
 have q2 : yn ((t : Int).tdiv g.W) := by rw [hq2]; unfold yn; omega
 have q3 : yn ((t : Int).tdiv g.W * 65536) := by rw [hq2]; unfold yn; omega
 refine ⟨q1, ?_⟩
 refine ⟨by omega, ?_⟩
 refine ⟨q2, ?_⟩
 refine ⟨q3, ?_⟩
 refine ⟨⟨(by repeat (first | exact trivial | refine ⟨rfl, ?_⟩ | refine ⟨optR (optR (optR (za _ (zb _ _ _) rfl))), ?_⟩)), ?_⟩, trivial⟩
 refine ⟨⟨trivial, ?_⟩, trivial⟩
 have e1 : (t : Int).tmod g.W * 65536 = tx g t := by rw [hq]; rfl
 have e2 : (t : Int).tdiv g.W * 65536 = ty g t := by rw [hq2]; rfl
 rw [e1, e2]
 refine ADraw.of_sched ze (by rfl) (by rfl) yf1 (by rfl) ?_
 refine in64 (by omega) ?_
 refine in64 (by omega) ?_
 refine ⟨zoc p.1 (tx g t) hp'.1 hx.1 _ _ ⟨(by repeat (first | exact trivial | refine ⟨rfl, ?_⟩ | refine ⟨optR (optR (optR (za _ (zb _ _ _) rfl))), ?_⟩)), ?_⟩, trivial⟩
 refine ⟨zoc p.2 (ty g t) hp'.2 hx.2 _ _ ⟨trivial, ?_⟩, trivial⟩
 refine ⟨⟨trivial, ?_⟩, trivial⟩
 refine ⟨⟨trivial, ?_⟩, trivial⟩
 unfold hitP at h
 have no : ¬ (off p.1 (tx g t) < r ∧ off p.2 (ty g t) < r ∧ off p.1 (tx g t) * off p.1 (tx g t) + off p.2 (ty g t) * off p.2 (ty g t) < r * r) → R (bool false) st := fun hh => isF h (decide_eq_false fun k => hh (hm.2 k))
 refine bcd (fun c1 => ?_) (fun c1 => ret (no fun k => c1 k.1))
 refine bcd (fun c2 => ?_) (fun c2 => ret (no fun k => c2 k.2.1))
 have s1 := yfx (a := off p.1 (tx g t)) (by omega)
 have s2 := yfx (a := off p.2 (ty g t)) (by omega)
 have s3 := yfx (a := r) (by omega)
 refine in64 (by omega) ?_
 refine in64 (by omega) ?_
 refine in64 (by omega) ?_
 refine in64 (by omega) ?_
 exact ret h
set_option maxRecDepth 20000 in
theorem zqy (p : Vc) (r : Int) (st : Store) (R : AV → Store → Prop) (h : ∀ z : Bool, (z = true ↔ (0 ≤ r ∧ r ≤ 262144) ∧ yl p.1 p.2) → R (bool z) st) : ACalls Tryz.prog 151 [.agg (vecC p), int r] st R := by
 refine ACalls.of_body (c := cfg 15) ze Tryz.func151 (by rfl) (by rfl) (by rfl) (by rfl) ?_
 repeat' (first | refine bcd (fun _ => ?_) (fun _ => ?_) | refine zd (fun _ => ?_) (fun _ => ?_) | refine in64 (by omega) ?_ | (refine zp6 p _ _ ?_; rintro (_ | _) hz)| fail)
 all_goals
  refine ret (h _ ?_)
  simp only [decide_eq_true_eq, decide_eq_false_iff_not, Bool.false_eq_true, false_iff, true_iff, beq_iff_eq, bne_iff_ne, beq_eq_false_iff_ne, ne_eq, reduceCtorEq, yl] at *
  omega
theorem zg2 (r : Int) (hr : 0 < r ∧ r ≤ 262144) (st : Store) (R : AV → Store → Prop) (h : R (int r) st) : ACalls Tryz.prog 156 [int r] st R := by
 refine ACalls.of_body (c := cfg 6) ze Tryz.func156 (by rfl) (by rfl) (by rfl) (by rfl) ?_
 have e : min2 (max2 r 0) 262144 = r := by rw [min2_eq, max2_eq]; omega
 rw [← e] at h
 exact ret h
theorem zhv (p : Vc) (r : Int) (q : Vc) (s : Int) (hp : p.ok) (hq : q.ok) (hr : 0 < r ∧ r ≤ 262144) (hs : 0 < s ∧ s ≤ 262144) (st : Store) (R : AV → Store → Prop) (h : R (bool (wi p r q s)) st) :
  ACalls Tryz.prog 113 [.agg (vecC p), int r, .agg (vecC q), int s] st R := by
 refine ACalls.of_body (c := cfg 18) ze Tryz.func113 (by rfl) (by rfl) (by rfl) (by rfl) ?_
 refine ADraw.of_sched ze (by rfl) (by rfl) ybh (by rfl) ?_
 refine ⟨zg2 r hr _ _ ⟨(by repeat (first | exact trivial | refine ⟨rfl, ?_⟩ | refine ⟨optR (optR (optR (za _ (zb _ _ _) rfl))), ?_⟩)), ?_⟩, trivial⟩
 refine ⟨zg2 s hs _ _ ⟨(by repeat (first | exact trivial | refine ⟨rfl, ?_⟩ | refine ⟨optR (optR (optR (za _ (zb _ _ _) rfl))), ?_⟩)), ?_⟩, trivial⟩
 refine in64 (by omega) ?_
 refine ⟨zct p q (r + s) hp hq (by omega) _ _ ⟨trivial, ?_⟩, trivial⟩
 exact ⟨⟨trivial, ret h⟩, trivial⟩
theorem zms (p : Vc) (r : Int) (q : Vc) (s : Int) (hp : p.ok) (hq : q.ok) (hr : 0 < r ∧ r ≤ 262144) (hs : 0 < s ∧ s ≤ 262144) (st : Store) (R : AV → Store → Prop) (h : R (bool (wi p r q s)) st) :
  ACalls Tryz.prog 69 [.agg (vecC p), int r, .agg (vecC q), int s] st R := by
 have e1 : max2 0 (min2 r 262144) = r := by rw [min2_eq, max2_eq]; omega
 have e2 : max2 0 (min2 s 262144) = s := by rw [min2_eq, max2_eq]; omega
 unfold wi at h
 rw [← e1, ← e2] at h
 refine ACalls.of_body (c := cfg 20) ze Tryz.func69 (by rfl) (by rfl) (by rfl) (by rfl) ?_
 refine in64 (by rw [e1, e2]; omega) ?_
 exact zjy p q _ hp hq (by rw [e1, e2]; exact ⟨by omega, by omega⟩) _ _ (ret h)
end Go.Proofs
namespace Go.Proofs
open Go Go.V
theorem zif (l : List UInt8) (hl : l.length ≤ 1000000000000) (hne : 0 < l.length) (st : Store) (R : AV → Store → Prop) (h : ∀ m : UInt8, m ∈ l → (∀ t ∈ l, t.toNat ≤ m.toNat) → R (u8 m) st) : ACalls Tryz.prog 139 [byts l] st R := by
 refine ACalls.of_body (c := cfg 25) ze Tryz.func139 (by rfl) (by rfl) (by rfl) (by rfl) ?_
 refine zd (fun h1 => ?_) (fun h1 => ?_)
 ·rw [zf] at h1
  simp at h1
  omega
 refine ⟨0, rfl, za _ (zi hne) ?_⟩
 refine AWp.loop (σ := Nat × UInt8) ⟨fun s => [(0, .av (byts l)), (3, .av (u8 s.2)), (4, .av (int (s.1 : Nat)))], fun _ => [],
  fun s st' => (1 ≤ s.1 ∧ s.1 ≤ l.length) ∧ st' = st ∧ s.2 ∈ l ∧ ∀ t ∈ l.take s.1, t.toNat ≤ s.2.toNat, fun s => l.length - s.1⟩ ze ?_ ?_
 ·refine ⟨(1, l[0]), trivial, ⟨⟨Nat.le_refl _, hne⟩, rfl, List.getElem_mem hne, fun t ht => ?_⟩, ⟨lr_ _, lr_ _, lr_ _, trivial⟩, trivial⟩
  have : l.take 1 = [l[0]] := by
   cases l with
   | nil => simp at hne
   | cons a l => rfl
  rw [this] at ht
  simp at ht
  rw [ht]
  exact Nat.le_refl _
 ·rintro ⟨i, m⟩ st' ⟨⟨hi1, hi⟩, rfl, hm, hall⟩
  simp only at hi1 hi hm hall
  refine zd (fun h1 => ?_) (fun h1 => ?_)
  ·have hlt : i < l.length := yw h1
   refine ⟨i, rfl, za _ (zi hlt) ?_⟩
   refine ⟨⟨by omega, by omega⟩, ?_⟩
   have hmax : max2 (m.toNat : Int) (l[i].toNat : Int) = ((if l[i].toNat > m.toNat then l[i] else m : UInt8).toNat : Int) := by
    unfold max2
    by_cases hg : l[i].toNat > m.toNat
    ·rw [if_pos hg, decide_eq_true (by omega)]; rfl
    ·rw [if_neg hg, decide_eq_false (by omega)]; rfl
   refine ⟨(i + 1, if l[i].toNat > m.toNat then l[i] else m), ?_, ⟨⟨by omega, hlt⟩, rfl, ?_, fun t ht => ?_⟩, ⟨lr_ _, ?_, lr_ _, trivial⟩, trivial⟩
   ·show l.length - (i + 1) < l.length - i
    omega
   ·show (if l[i].toNat > m.toNat then l[i] else m) ∈ l
    split
    ·exact List.getElem_mem hlt
    ·exact hm
   ·show t.toNat ≤ (if l[i].toNat > m.toNat then l[i] else m : UInt8).toNat
    rw [List.take_succ_eq_append_getElem hlt] at ht
    rcases List.mem_append.1 ht with ht | ht
    ·have := hall t ht
     split <;> omega
    ·simp at ht
     subst ht
     split <;> omega
   ·show LV.le (.av (.s (.int .u8 (max2 (m.toNat : Int) (l[i].toNat : Int))))) _
    rw [hmax]
    exact lr_ _
  ·have hge : i = l.length := y9 h1 hi
   subst hge
   rw [List.take_length] at hall
   exact ⟨_, st', ar_ _, Store.Has.refl st', h m hm hall⟩
theorem zgf (g : Gnd) (hg : g.fits) (st : Store) (R : AV → Store → Prop) (h : ∀ b : Bool, (b = true ↔ gndP g) → R (bool b) st) : ACalls Tryz.prog 101 [.agg (gndC g)] st R := by
 refine ACalls.of_body (c := cfg 28) ze Tryz.func101 (by rfl) (by rfl) (by rfl) (by rfl) ?_
 refine zjv g.W _ _ (fun b hb => ?_)
 cases b with
 | false =>
  refine ⟨_, st, ar_ _, Store.Has.refl st, h _ ?_⟩
  simp only [Bool.false_eq_true, false_iff] at hb ⊢
  exact fun hp => hb hp.1
 | true =>
  refine zjv g.H _ _ (fun b2 hb2 => ?_)
  cases b2 with
  | false =>
   refine ⟨_, st, ar_ _, Store.Has.refl st, h _ ?_⟩
   simp only [Bool.false_eq_true, false_iff] at hb2 ⊢
   exact fun hp => hb2 hp.2.1
  | true =>
   have hm := zn1 (hb.1 rfl) (hb2.1 rfl)
   refine ⟨⟨by omega, by omega⟩, ?_⟩
   refine zd (fun h1 => ⟨_, st, ar_ _, Store.Has.refl st, h _ ?_⟩) (fun h1 => ?_)
   ·rw [zf] at h1
    simp only [Bool.false_eq_true, false_iff]
    intro hp
    have := hp.2.2.1
    simp [this] at h1
   ·rw [zf] at h1
    have h1 : (g.T.length : Int) = g.W * g.H := by simpa using h1
    refine zif g.T hg (by omega) _ _ (fun m hm1 hm2 => ?_)
    refine ⟨_, st, ar_ _, Store.Has.refl st, h _ ?_⟩
    rw [decide_eq_true_iff]
    constructor
    ·intro h2
     refine ⟨hb.1 rfl, hb2.1 rfl, h1, fun t ht => ?_⟩
     have := hm2 t ht
     omega
    ·intro hp
     have := hp.2.2.2 m hm1
     omega
theorem zkz (g : Gnd) (hg : g.fits) (st : Store) (R : AV → Store → Prop) (h : ∀ b : Bool, (b = true ↔ gndP g) → R (bool b) st) : ACalls Tryz.prog 93 [.agg (gndC g)] st R := by
 refine ACalls.of_body (c := cfg 46) ze Tryz.func93 (by rfl) (by rfl) (by rfl) (by rfl) ?_
 have no : ¬ gndP g → R (bool false) st := fun hn => h false (by simpa using hn)
 refine zd (fun h1 => ⟨_, st, ar_ _, Store.Has.refl st, no ?_⟩) (fun h1 => ?_)
 ·intro hp; have := hp.1; simp at h1; omega
 refine zd (fun h2 => ⟨_, st, ar_ _, Store.Has.refl st, no ?_⟩) (fun h2 => ?_)
 ·intro hp; have := hp.1; simp at h2; omega
 refine zd (fun h3 => ⟨_, st, ar_ _, Store.Has.refl st, no ?_⟩) (fun h3 => ?_)
 ·intro hp; have := hp.2.1; simp at h3; omega
 refine zd (fun h4 => ⟨_, st, ar_ _, Store.Has.refl st, no ?_⟩) (fun h4 => ?_)
 ·intro hp; have := hp.2.1; simp at h4; omega
 have hW : 1 ≤ g.W ∧ g.W ≤ 128 := by simp at h1 h2; omega
 have hH : 1 ≤ g.H ∧ g.H ≤ 128 := by simp at h3 h4; omega
 have hm := zn1 hW hH
 refine ⟨⟨by omega, by omega⟩, ?_⟩
 refine zd (fun h5 => ⟨_, st, ar_ _, Store.Has.refl st, no ?_⟩) (fun h5 => ?_)
 ·rw [zf] at h5
  intro hp
  have := hp.2.2.1
  simp [this] at h5
 rw [zf] at h5
 have h5 : (g.T.length : Int) = g.W * g.H := by simpa using h5
 refine AWp.loop (σ := Nat) ⟨fun i => [(1, .bx 1 0), (3, .av (int (i : Nat)))], fun _ => [(1, gndC g)],
  fun i st' => i ≤ g.T.length ∧ st' = st ∧ ∀ t ∈ g.T.take i, t.toNat ≤ 5, fun i => g.T.length - i⟩ ze ?_ ?_
 ·exact ⟨0, trivial, ⟨Nat.zero_le _, rfl, fun t ht => by simp at ht⟩, ⟨lr_ _, lr_ _, trivial⟩, (by repeat (first | exact trivial | refine ⟨rfl, ?_⟩ | refine ⟨optR (optR (optR (za _ (zb _ _ _) rfl))), ?_⟩))⟩
 ·rintro i st' ⟨hi, rfl, hall⟩
  refine zd (fun h6 => ?_) (fun h6 => ?_)
  ·have hlt : i < g.T.length := yw h6
   refine ⟨i, rfl, za _ (zi hlt) ?_⟩
   refine zd (fun h7 => ⟨_, st', ar_ _, Store.Has.refl st', no ?_⟩) (fun h7 => ?_)
   ·intro hp
    have := hp.2.2.2 _ (List.getElem_mem hlt)
    simp at h7
    omega
   ·refine ⟨⟨by omega, by omega⟩, ?_⟩
    refine ⟨i + 1, ?_, ⟨hlt, rfl, fun t ht => ?_⟩, ⟨lr_ _, lr_ _, trivial⟩, (by repeat (first | exact trivial | refine ⟨rfl, ?_⟩ | refine ⟨optR (optR (optR (za _ (zb _ _ _) rfl))), ?_⟩))⟩
    ·show g.T.length - (i + 1) < g.T.length - i
     omega
    ·rw [List.take_succ_eq_append_getElem hlt] at ht
     rcases List.mem_append.1 ht with ht | ht
     ·exact hall t ht
     ·simp at ht
      subst ht
      simp at h7
      omega
  ·have hge : i = g.T.length := y9 h6 hi
   subst hge
   rw [List.take_length] at hall
   exact ⟨_, st', ar_ _, Store.Has.refl st', h true (by simpa using ⟨hW, hH, h5, hall⟩)⟩
end Go.Proofs
