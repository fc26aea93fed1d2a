/- Ground of laws of thronglaw24: contracts and plain lemmas; no condition beyond the row's own. -/
import Derived.Test.YthjfdaifoocijaaGreatKH
import Derived.Test.YthjfdaifoocijaaGreatKG
set_option linter.unusedSimpArgs false
set_option linter.unusedVariables false
namespace Go.Proofs
open Go Go.V
def zi8 : V.Sched := (sv [0, 1, 2, 3, 4, 5, 6] (.e 7 [] (.e 8 [] .done .stop) .stop))
def zi7 : V.Sched := (sv [0, 1, 2, 3, 4, 5, 6, 7, 8, 9, 10] (.e 11 [] (sv [12, 13, 14, 15] (.e 16 [0, 1, 2, 3, 4, 5, 6, 7, 8, 9, 10, 12, 13, 14, 15] (.e 17 [] (.e 18 [] (.e 19 [] .done .stop) .stop) .stop) .stop)) (.e 16 [0, 1, 2, 3, 4, 5, 6, 7, 8, 9, 10] (.e 11 [] (sv [12, 13, 14, 15] (.e 17 [] (.e 18 [] (.e 19 [] .done .stop) .stop) .stop)) .stop) .stop)))
def Vi : V.Sched := (sv [0, 1, 2, 3, 4, 5, 6, 7, 8, 9, 10, 11] (.e 12 [] (sv [13, 14, 15] (.e 16 [0, 1, 2, 3, 4, 5, 6, 7, 8, 9, 10, 11, 13, 14, 15] (.e 17 [] (.e 18 [] .done .stop) .stop) .stop)) (.e 16 [0, 1, 2, 3, 4, 5, 6, 7, 8, 9, 10, 11] (.e 12 [] (sv [13, 14, 15] (.e 17 [] (.e 18 [] .done .stop) .stop)) .stop) .stop)))
def zi2 : V.Sched := (sv [0, 1, 2, 3, 4, 5, 6, 7, 8, 9, 10, 11, 12] (.e 13 [] .done .stop))
def Vj : V.Sched := (sv [0, 1, 2, 3, 4, 5, 6, 7, 8, 9, 10, 11, 12, 13, 14, 15, 16, 17, 18, 19, 20, 21, 22, 23, 24] (.e 25 [] (sv [26, 27, 28, 29, 30, 31, 32, 35, 36, 37, 38, 39, 40] (.e 33 [36, 40] (sv [34] (.e 41 [34] (sv [42, 43, 44, 45, 46, 47, 48, 49, 50, 51, 52, 53, 54, 55, 56, 57, 58, 59, 60] .done) .stop)) .stop)) .stop))
def zj4 : V.Sched := (sv [0, 1, 3, 4] (.e 2 [4] (.e 5 [] (sv [6] (.e 7 [] .done .stop)) .stop) .stop))
def zj3 : V.Sched := (sv [0, 1, 2, 3, 4, 5, 6, 7, 8, 9, 10] (.e 11 [0, 1, 2, 3, 4, 5, 6, 7, 8, 9, 10] (.e 12 [] .done .stop) .stop))
def zjr : V.Sched := (sv [0, 1, 2, 3, 4, 5, 6] (.e 7 [1, 4] (sv [8, 9, 10, 11, 12, 13, 14, 15, 16] (.e 17 [] .done .stop)) .stop))
def zjk : V.Sched := (sv [0, 1] (.e 2 [] (sv [3, 4, 5, 6, 7] (.e 8 [] (sv [9, 10, 11, 12, 13, 14, 15, 16, 17, 18, 19, 20, 21, 22, 23, 24, 25] .done) .stop)) .stop))
def zja : V.Sched := (sv [0, 1, 2, 3, 4, 5, 6, 7, 8, 9, 10, 11, 12, 13, 14, 15, 16, 17, 18, 19] .done)
def zjc : V.Sched := (sv [0, 1, 2, 3, 4, 5, 6, 7, 8, 9, 10, 11, 12, 13, 14, 15, 16, 17, 18, 19, 20, 21, 22, 23, 24, 25, 26, 27, 28, 29, 30, 31, 32, 33, 34, 35, 36, 37, 38, 39, 40, 41, 42, 43, 44, 45, 46, 47, 48, 49, 50] (.e 51 [] (sv [52, 53, 54, 55, 56, 57, 58, 59, 60, 61, 62, 63] (.e 64 [] (sv [65, 66, 67, 68, 69, 70, 71, 72, 73, 74, 75, 76, 77, 78, 79, 80, 81, 82, 83, 84, 85, 86, 87] .done) .stop)) .stop))
def zjb : V.Sched := (sv [0, 1, 2, 3, 4, 5, 6, 7, 8] .done)
def zi9 : V.Sched := (sv [0, 1, 2, 3, 4, 5, 6, 7, 8, 9, 10, 11, 12, 13, 14, 15, 16] (.e 17 [10, 12, 14] (sv [18] (.e 19 [] (sv [20, 21] .done) .stop)) .stop))
def Vh : V.Sched := (sv [0, 1, 2, 3, 4, 5] (.e 6 [2, 5] (.e 7 [] (.e 8 [] .done .stop) .stop) .stop))
def Vf : V.Sched := (sv [0, 1, 2, 3, 4, 5, 6, 7, 8, 9, 10] (.e 11 [0, 1, 2, 3, 4, 5, 6, 7, 8, 9, 10] (.e 12 [] .done .stop) .stop))
def Ve : V.Sched := (sv [0, 1, 2, 3, 4, 5, 6, 7, 8] (.e 9 [] .done .stop))
def Vg : V.Sched := (sv [0, 1, 2, 3, 4] (.e 5 [] .done .stop))
def zi6 : V.Sched := (sv [0, 1, 2, 3, 4, 5, 6, 7, 8] .done)
def zi5 : V.Sched := (sv [0, 1, 2, 3, 4, 5, 6, 7, 8] .done)
def zi4 : V.Sched := (sv [0, 1, 2, 3, 5, 6, 7, 8] (.e 4 [6, 8] (.e 9 [] (sv [10] (.e 11 [] .done .stop)) .stop) .stop))
def zi3 : V.Sched := (sv [0, 1, 3, 4, 6, 7] (.e 2 [4, 7] (sv [9] (.e 5 [7] (.e 8 [] (.e 10 [] (sv [11] (.e 12 [] (sv [13] (.e 14 [] .done .stop)) .stop)) .stop) .stop) .stop)) .stop))
def Nf : V.Sched := (sv [0] (.e 1 [0] (sv [2] (.e 3 [] (.e 4 [] .done .stop) .stop)) .stop))
def Nd : V.Sched := (sv [0, 1, 2, 3, 4, 5, 6, 7] (.e 8 [] .done .stop))
def Nc : V.Sched := (sv [0, 1, 2, 3, 4, 5, 6, 7, 9, 10, 11] (.e 8 [4, 9, 11] (.e 12 [] (sv [13] .done) .stop) .stop))
def Nb : V.Sched := (sv [0, 1, 2, 3, 4, 5, 6, 7, 8, 9, 10, 11] (.e 12 [5, 7, 9] (sv [13] (.e 14 [] (sv [15, 16] .done) .stop)) .stop))
def zi1 : V.Sched := (sv [0, 1, 2, 3, 4, 5, 6, 7, 8, 9, 10, 11, 12, 13, 15, 16] (.e 14 [16] (.e 17 [13] (sv [18, 19, 20] .done) .stop) (.e 17 [13] (sv [18] (.e 14 [16] (sv [19, 20] .done) .stop)) .stop)))
def ziz : V.Sched := (sv [0, 1, 2, 3] (.e 4 [] (sv [5, 6, 7, 8, 9, 10, 11] (.e 12 [] (sv [13, 14, 15, 16, 17, 18, 19, 20] (.e 21 [] (sv [22, 23] .done) .stop)) .stop)) .stop))
def zi0 : V.Sched := (sv [0, 1, 2, 3, 4, 5, 6, 7] (.e 8 [] .done .stop))
def ziy : V.Sched := (sv [0, 1, 3, 4] (.e 2 [4] (.e 5 [] (sv [6] (.e 7 [] .done .stop)) .stop) .stop))
def zix : V.Sched := (sv [0, 1, 2, 3, 5, 6, 7, 8] (.e 4 [6, 8] (.e 9 [] (sv [10] (.e 11 [] .done .stop)) .stop) .stop))
def Vd : V.Sched := (sv [0, 1, 2, 3, 4, 5, 6] (.e 7 [] (sv [8, 9, 10] (.e 11 [] (.e 12 [] .done .stop) .stop)) .stop))
def Vb : V.Sched := (sv [0, 1, 2, 3, 4, 5, 6, 7] (.e 8 [] .done .stop))
def Va : V.Sched := (sv [0, 1, 2, 3, 4, 5, 6, 7] (.e 8 [] .done .stop))
def S9 : V.Sched := (sv [0, 1, 2, 3, 4, 5] (.e 6 [] .done .stop))
def ziw : V.Sched := (sv [0, 1, 2, 3, 4, 5, 6, 7, 8] .done)
def zkv : V.Sched := (sv [0, 1, 2, 3, 4, 5] (.e 6 [0] (sv [7] (.e 8 [] (.e 9 [] .done .stop) .stop)) .stop))
def zku : V.Sched := (sv [0, 1, 2, 3, 4, 5, 6] (.e 7 [] (sv [8] (.e 9 [] .done .stop)) .stop))
def zkt : V.Sched := (sv [0, 1, 2, 3, 4, 6] (.e 5 [] (.e 7 [] (sv [8, 9, 10] (.e 11 [] (.e 12 [] .done .stop) .stop)) .stop) .stop))
def zks : V.Sched := (sv [0, 1, 2, 3, 4, 5, 6, 7, 8, 9, 11, 12] (.e 10 [3, 4] (.e 13 [3, 4, 8, 9] (.e 14 [3, 4] (.e 15 [] .done .stop) .stop) .stop) (.e 13 [3, 4, 8, 9] (.e 10 [3, 4] (.e 14 [3, 4] (.e 15 [] .done .stop) .stop) .stop) .stop)))
def Vk : V.Sched := (sv [0, 1, 2, 3, 4, 5] (.e 6 [] .done .stop))
def zkr : V.Sched := (sv [0, 1, 2, 3, 4, 5] (.e 6 [4] (.e 7 [] .done .stop) .stop))
def Ay : V.Sched := (sv [0, 1, 2, 3, 4, 5, 6, 7, 8, 9, 10, 11, 12, 14, 15] (.e 13 [] (sv [16] (.e 17 [] .done .stop)) .stop))
def Ni : V.Sched := (sv [0, 1, 2, 3, 4, 5, 6, 9] (.e 7 [] (sv [8] .done) .stop))
def zkq : V.Sched := (sv [0, 1, 2, 4] (.e 3 [0, 1] (.e 5 [0, 1] (sv [6] (.e 7 [] (sv [8] (.e 9 [] .done .stop)) .stop)) .stop) .stop))
def zkp : V.Sched := (sv [0, 1, 2, 3, 4, 5, 6, 7, 8, 9, 10, 11] .done)
def zko : V.Sched := (sv [0, 1, 2, 3, 4, 5, 6, 7, 8, 9] (.e 10 [7] (.e 11 [] .done .stop) .stop))
def zkn : V.Sched := (sv [0, 1, 2, 3, 4, 6, 7, 8, 9, 10] (.e 5 [7] (.e 11 [] (.e 12 [] (.e 13 [] .done .stop) .stop) .stop) .stop))
def zkl : V.Sched := (sv [0, 1, 2, 3, 4] (.e 5 [] (.e 6 [] .done .stop) .stop))
def zkk : V.Sched := (sv [0, 1, 2, 3, 4] (.e 5 [] .done .stop))
def zkm : V.Sched := (sv [0, 1, 2, 3, 4, 5] (.e 6 [] .done .stop))
def zkj : V.Sched := (sv [0, 1, 2, 3, 4, 5, 6, 7, 8, 11] (.e 9 [] (sv [10] .done) .stop))
def zki : V.Sched := (sv [0, 1, 2, 3, 4, 5, 6, 11, 12] (.e 7 [0, 2, 4, 12] (sv [8, 9, 10] (.e 13 [0] (.e 14 [] (.e 15 [] .done .stop) .stop) .stop)) .stop))
def zkh : V.Sched := (sv [0, 1, 2, 3, 4, 5] (.e 6 [1] (.e 7 [] .done .stop) .stop))
def zkd : V.Sched := (sv [0, 1, 2, 3, 4] (.e 5 [1] (sv [6] .done) .stop))
def zkg : V.Sched := (sv [0, 1, 2, 3, 4] (.e 5 [] .done .stop))
def zkf : V.Sched := (sv [0, 1, 2, 3, 4, 5, 6, 8, 9] (.e 7 [1, 3, 9] (.e 10 [1, 3] (sv [11] (.e 12 [1] (.e 13 [] (sv [14] .done) .stop) .stop)) .stop) .stop))
def zke : V.Sched := (sv [0, 1, 2, 3, 4] (.e 5 [] .done .stop))
def zkc : V.Sched := (sv [0, 1, 2, 3, 4, 5, 6, 7] (.e 8 [6] (.e 9 [] .done .stop) .stop))
def zkb : V.Sched := (sv [0, 1, 2, 3, 4, 5, 6, 7, 8, 9, 10, 11] .done)
def zka : V.Sched := (sv [0, 1, 3, 4] (.e 2 [4] (.e 5 [] (sv [6] (.e 7 [] .done .stop)) .stop) .stop))
def zj9 : V.Sched := (sv [0, 1, 2, 3, 4, 5, 6, 7, 8, 9] (.e 10 [7] (.e 11 [] .done .stop) .stop))
def zj8 : V.Sched := (sv [0, 1, 2, 4, 5, 6] (.e 3 [5, 6] (.e 7 [] (sv [8] (.e 9 [] (.e 10 [0, 1, 2, 4, 5, 6, 8] (.e 11 [] .done .stop) .stop) (.e 10 [0, 1, 2, 4, 5, 6, 8] (.e 9 [] (.e 11 [] .done .stop) .stop) .stop))) (.e 10 [0, 1, 2, 4, 5, 6] (.e 7 [] (sv [8] (.e 9 [] (.e 11 [] .done .stop) .stop)) .stop) .stop)) (.e 10 [0, 1, 2, 4, 5, 6] (.e 3 [5, 6] (.e 7 [] (sv [8] (.e 9 [] (.e 11 [] .done .stop) .stop)) .stop) .stop) .stop)))
def zj7 : V.Sched := (sv [0, 1, 2, 4, 5, 6] (.e 3 [5, 6] (.e 7 [] (sv [8] (.e 9 [] (.e 10 [0, 1, 2, 4, 5, 6, 8] (.e 11 [] .done .stop) .stop) (.e 10 [0, 1, 2, 4, 5, 6, 8] (.e 9 [] (.e 11 [] .done .stop) .stop) .stop))) (.e 10 [0, 1, 2, 4, 5, 6] (.e 7 [] (sv [8] (.e 9 [] (.e 11 [] .done .stop) .stop)) .stop) .stop)) (.e 10 [0, 1, 2, 4, 5, 6] (.e 3 [5, 6] (.e 7 [] (sv [8] (.e 9 [] (.e 11 [] .done .stop) .stop)) .stop) .stop) .stop)))
def zj6 : V.Sched := (sv [0, 1, 2, 3, 4, 5, 6, 7, 8, 9, 10, 11, 12] .done)
def zj5 : V.Sched := (sv [0, 1, 2, 3, 4, 5, 6, 7, 8, 9, 10, 11, 12] .done)
def zj2 : V.Sched := (sv [0, 1, 4, 5] (.e 2 [5] (.e 3 [5] (.e 6 [] (.e 7 [] (.e 8 [] (.e 9 [] .done .stop) .stop) .stop) .stop) .stop) .stop))
def zj1 : V.Sched := (sv [0, 1, 2, 3, 5, 6, 7, 8] (.e 4 [6, 8] (.e 9 [] (sv [10] (.e 11 [] .done .stop)) .stop) .stop))
def zj0 : V.Sched := (sv [0, 1, 2, 3, 5, 6, 7, 8] (.e 4 [6] (.e 9 [] (sv [10] (.e 11 [] .done .stop)) .stop) .stop))
def zjz : V.Sched := (sv [0, 1, 2, 3, 4, 5, 6, 7, 8, 9, 10, 11, 12] (.e 13 [] .done .stop))
def zjy : V.Sched := (sv [0, 1, 2, 3, 4] (.e 5 [] .done .stop))
def zjx : V.Sched := (sv [0, 1, 2, 3, 4, 5, 6, 7, 8, 9] (.e 10 [3, 7] (.e 11 [0, 1, 2, 3, 4, 5, 6, 7, 8, 9] (.e 12 [0, 1, 2, 3, 4, 5, 6, 7, 8, 9] (.e 13 [] (.e 14 [] .done .stop) .stop) .stop) (.e 12 [0, 1, 2, 3, 4, 5, 6, 7, 8, 9] (.e 11 [0, 1, 2, 3, 4, 5, 6, 7, 8, 9] (.e 13 [] (.e 14 [] .done .stop) .stop) .stop) .stop)) (.e 11 [0, 1, 2, 3, 4, 5, 6, 7, 8, 9] (.e 10 [3, 7] (.e 12 [0, 1, 2, 3, 4, 5, 6, 7, 8, 9] (.e 13 [] (.e 14 [] .done .stop) .stop) .stop) (.e 12 [0, 1, 2, 3, 4, 5, 6, 7, 8, 9] (.e 10 [3, 7] (.e 13 [] (.e 14 [] .done .stop) .stop) .stop) .stop)) (.e 12 [0, 1, 2, 3, 4, 5, 6, 7, 8, 9] (.e 10 [3, 7] (.e 11 [0, 1, 2, 3, 4, 5, 6, 7, 8, 9] (.e 13 [] (.e 14 [] .done .stop) .stop) .stop) (.e 11 [0, 1, 2, 3, 4, 5, 6, 7, 8, 9] (.e 10 [3, 7] (.e 13 [] (.e 14 [] .done .stop) .stop) .stop) .stop)) .stop))))
def zjw : V.Sched := (sv [0, 1, 2, 3, 4, 5, 6, 7, 8] (.e 9 [5] (sv [10, 11, 12, 13, 14, 15, 16, 17, 18, 19, 20, 21, 22, 23, 24, 25, 26, 27, 28, 29, 30, 31, 36, 37] (.e 32 [37] (sv [33, 34, 35, 38, 39, 40, 41] .done) .stop)) .stop))
def zjv : V.Sched := (sv [0, 1, 2, 3, 4, 5, 6, 7] (.e 8 [] (sv [9, 10] (.e 11 [] .done .stop)) .stop))
def zju : V.Sched := (sv [0, 1, 2, 3, 4, 5, 6, 7, 8, 9] (.e 10 [3, 7] (.e 11 [0, 1, 2, 3, 4, 5, 6, 7, 8, 9] (.e 12 [0, 1, 2, 3, 4, 5, 6, 7, 8, 9] (.e 13 [] (.e 14 [] .done .stop) .stop) .stop) (.e 12 [0, 1, 2, 3, 4, 5, 6, 7, 8, 9] (.e 11 [0, 1, 2, 3, 4, 5, 6, 7, 8, 9] (.e 13 [] (.e 14 [] .done .stop) .stop) .stop) .stop)) (.e 11 [0, 1, 2, 3, 4, 5, 6, 7, 8, 9] (.e 10 [3, 7] (.e 12 [0, 1, 2, 3, 4, 5, 6, 7, 8, 9] (.e 13 [] (.e 14 [] .done .stop) .stop) .stop) (.e 12 [0, 1, 2, 3, 4, 5, 6, 7, 8, 9] (.e 10 [3, 7] (.e 13 [] (.e 14 [] .done .stop) .stop) .stop) .stop)) (.e 12 [0, 1, 2, 3, 4, 5, 6, 7, 8, 9] (.e 10 [3, 7] (.e 11 [0, 1, 2, 3, 4, 5, 6, 7, 8, 9] (.e 13 [] (.e 14 [] .done .stop) .stop) .stop) (.e 11 [0, 1, 2, 3, 4, 5, 6, 7, 8, 9] (.e 10 [3, 7] (.e 13 [] (.e 14 [] .done .stop) .stop) .stop) .stop)) .stop))))
def zjt : V.Sched := (sv [0, 1, 2, 3] (.e 4 [1] (sv [5] .done) .stop))
def zjs : V.Sched := (sv [0, 1, 2, 3, 4, 5, 6, 7, 8, 9, 10, 11, 12, 13, 14, 15, 16, 17, 18, 19, 20, 22] (.e 21 [] (sv [23, 24] (.e 25 [] .done .stop)) .stop))
def zjq : V.Sched := (sv [0, 1, 2, 3, 4, 5, 7] (.e 6 [0, 7] (.e 8 [] .done .stop) .stop))
def zjp : V.Sched := (sv [0, 1, 2, 3, 5, 6, 7, 8] (.e 4 [6, 8] (.e 9 [] (sv [10] (.e 11 [] .done .stop)) .stop) .stop))
def zjo : V.Sched := (sv [0, 1, 2, 3, 4, 5, 6, 7] (.e 8 [6] (.e 9 [] .done .stop) .stop))
def zjn : V.Sched := (sv [0, 1, 2, 3, 4, 5, 6, 7] (.e 8 [6] (.e 9 [] .done .stop) .stop))
def zjm : V.Sched := (sv [0, 1] (.e 2 [0] (.e 3 [] (sv [4] .done) .stop) .stop))
def zjl : V.Sched := (sv [0, 1, 2, 3, 4, 5] (.e 6 [] (.e 7 [] .done .stop) .stop))
def zjj : V.Sched := (sv [0, 1, 2, 3, 4, 5, 6, 7, 8, 9, 10, 11, 13, 14, 15, 16, 17, 18, 19, 20, 21, 22, 23, 24] (.e 12 [16, 21, 24] (.e 25 [] (sv [26] (.e 27 [] .done .stop)) .stop) .stop))
def zji : V.Sched := (sv [0, 1, 2, 3, 4, 5, 6, 7, 8, 9, 10, 11, 12, 13, 14, 15, 16, 17, 18, 19, 20, 21, 22, 23, 24, 25, 26, 27, 28, 29, 30, 31, 32, 33, 34, 35, 36, 37, 38] (.e 39 [] (sv [40, 41, 42, 43, 44, 45, 46] (.e 47 [] (sv [48, 49] .done) .stop)) .stop))
def zjh : V.Sched := (sv [0, 1, 2, 3, 4, 5, 6, 7, 8, 9, 10, 11, 12, 13] (.e 14 [] (sv [15] .done) .stop))
def zjg : V.Sched := (sv [0, 1, 2, 3, 4, 5, 6, 7, 8, 9, 10, 11, 12, 13, 14, 15, 16, 17, 18, 19, 20, 21, 22, 23, 24] (.e 25 [] (sv [26] (.e 27 [] .done .stop)) .stop))
def zje : V.Sched := (sv [0, 1, 2, 3, 4, 5, 6, 7, 8, 9, 10, 11] (.e 12 [] .done .stop))
def zjf : V.Sched := (sv [0, 1, 2, 3, 4, 5, 6, 7, 8, 9, 10, 11, 12, 13, 14, 15, 16, 17, 18, 19] (.e 20 [] (sv [21] .done) .stop))
def Nh : V.Sched := (sv [0, 1, 2, 3, 4, 5, 6, 7, 8, 9, 10, 11, 12, 13] (.e 14 [] (sv [15] .done) .stop))
def Ng : V.Sched := (sv [0, 1, 2, 3, 4, 5, 6, 7, 8, 9, 10, 11, 12, 13, 14, 15, 16, 17, 18, 19, 20, 21, 22, 23, 24] (.e 25 [] (sv [26] (.e 27 [] .done .stop)) .stop))
def Iy : V.Sched := (sv [0, 1, 2, 3] (.e 4 [3] (.e 5 [] (.e 6 [] .done .stop) .stop) .stop))
def zjd : V.Sched := (sv [0, 1, 2, 3, 4, 5] (.e 6 [] (.e 7 [] .done .stop) .stop))
end Go.Proofs
namespace Go.Proofs
open Go Go.V
set_option maxRecDepth 4000
theorem zb : ye Tryz.prog infoTree.get := Tr.ok _ zpk
def cfg (n : Nat) (G : List Nat := []) (W : List Nat := []) : Cfg := { n := n, I := infoTree.get, G := G, W := W }
theorem ey {n : Int} (h : (Lit.int .i64 n).wf = true) : z6 n := by
 simp [Lit.wf, IntKind.min, IntKind.max, IntKind.signed, IntKind.bits] at h
 unfold z6
 omega
theorem bm : Codec Tryz.prog 2 Int qn z6 := (Codec.int Tryz.underlying2).weaken fun _ h => ey h
theorem xn : Codec Tryz.prog 3 Int qn z6 := (Codec.int Tryz.underlying3).weaken fun _ h => ey h
theorem ztq : Codec Tryz.prog 22 (List UInt8) (fun l => [Cr l]) (fun l => l.length <= 140737488355328) :=
 (Codec.slice Tryz.underlying22 (k := 1) (by kernel_rfl) (by decide) (of_decide_eq_true (by kernel_rfl)) (Codec.byte Tryz.underlying5)).weaken fun _ h => h.2
theorem zpe : Codec Tryz.prog 29 (List Int) (fun l => [Ch l]) (fun l => l.length <= 140737488355328 /\ ∀ n ∈ l, z6 n) :=
 (Codec.slice Tryz.underlying29 (k := 1) (by kernel_rfl) (by decide) (of_decide_eq_true (by kernel_rfl)) xn).weaken fun _ h => ⟨h.2, h.1⟩
theorem Rr : Codec Tryz.prog 34 Vc zk Vc.ok := by
 refine ⟨fun {H} enc w base held fuel cs x hx hw => ?_⟩
 have hu := Tryz.underlying34
 have hl : cs.length = 2 := (Fg hu hx).trans (by kernel_rfl)
 obtain ⟨a0, q0, h0⟩ := qb hu hx hw 0 0 1 rfl rfl (by kernel_rfl) bm
 obtain ⟨a1, q1, h1⟩ := qb hu hx hw 1 1 1 rfl rfl (by kernel_rfl) bm
 refine ⟨(a0, a1), ⟨q0, q1⟩, ?_⟩
 have := h0.cons rfl (h1.cons rfl (CellsOK.stop hl))
 rw [List.drop_zero] at this
 exact this
theorem ir : Codec Tryz.prog 30 (List Vc) (fun l => [lst 2 zk l]) (fun l => l.length <= 140737488355328 /\ ∀ v ∈ l, v.ok) :=
 (Codec.slice Tryz.underlying30 (k := 2) (by kernel_rfl) (by decide) (of_decide_eq_true (by kernel_rfl)) Rr).weaken fun _ h => ⟨h.2, h.1⟩
theorem zqu : Codec Tryz.prog 24 Gnd zt (fun g => g.T.length <= 140737488355328) := by
 refine ⟨fun {H} enc w base held fuel cs x hx hw => ?_⟩
 have hu := Tryz.underlying24
 have hl : cs.length = 3 := (Fg hu hx).trans (by kernel_rfl)
 obtain ⟨a0, q0, h0⟩ := qb hu hx hw 0 0 1 rfl rfl (by kernel_rfl) xn
 obtain ⟨a1, q1, h1⟩ := qb hu hx hw 1 1 1 rfl rfl (by kernel_rfl) xn
 obtain ⟨a2, q2, h2⟩ := qb hu hx hw 2 2 1 rfl rfl (by kernel_rfl) ztq
 refine ⟨⟨a0, a1, a2⟩, q2, ?_⟩
 have := h0.cons rfl (h1.cons rfl (h2.cons rfl (CellsOK.stop hl)))
 rw [List.drop_zero] at this
 exact this
theorem ztw : Codec Tryz.prog 164 Bld zp (fun _ => True) := by
 refine ⟨fun {H} enc w base held fuel cs x hx hw => ?_⟩
 have hu := Tryz.underlying164
 have hl : cs.length = 6 := (Fg hu hx).trans (by kernel_rfl)
 obtain ⟨a0, q0, h0⟩ := qb hu hx hw 0 0 1 rfl rfl (by kernel_rfl) xn
 obtain ⟨a1, q1, h1⟩ := qb hu hx hw 1 1 1 rfl rfl (by kernel_rfl) xn
 obtain ⟨a2, q2, h2⟩ := qb hu hx hw 2 2 1 rfl rfl (by kernel_rfl) xn
 obtain ⟨a3, q3, h3⟩ := qb hu hx hw 3 3 1 rfl rfl (by kernel_rfl) xn
 obtain ⟨a4, q4, h4⟩ := qb hu hx hw 4 4 1 rfl rfl (by kernel_rfl) xn
 obtain ⟨a5, q5, h5⟩ := qb hu hx hw 5 5 1 rfl rfl (by kernel_rfl) xn
 refine ⟨⟨a0, a1, a2, a3, a4, a5⟩, Tv, ?_⟩
 have := h0.cons rfl (h1.cons rfl (h2.cons rfl (h3.cons rfl (h4.cons rfl (h5.cons rfl (CellsOK.stop hl))))))
 rw [List.drop_zero] at this
 exact this
theorem ztv : Codec Tryz.prog 25 (List Bld) (fun l => [lst 6 zp l]) (fun l => l.length <= 140737488355328) :=
 (Codec.slice Tryz.underlying25 (k := 6) (by kernel_rfl) (by decide) (of_decide_eq_true (by kernel_rfl)) ztw).weaken fun _ h => h.2
theorem lb : Codec Tryz.prog 37 Unt ze (fun u => u.pos.ok) := by
 refine ⟨fun {H} enc w base held fuel cs x hx hw => ?_⟩
 have hu := Tryz.underlying37
 have hl : cs.length = 10 := (Fg hu hx).trans (by kernel_rfl)
 obtain ⟨a0, q0, h0⟩ := qb hu hx hw 0 0 1 rfl rfl (by kernel_rfl) xn
 obtain ⟨a1, q1, h1⟩ := qb hu hx hw 1 1 1 rfl rfl (by kernel_rfl) xn
 obtain ⟨a2, q2, h2⟩ := qb hu hx hw 2 2 1 rfl rfl (by kernel_rfl) xn
 obtain ⟨a3, q3, h3⟩ := qb hu hx hw 3 3 2 rfl rfl (by kernel_rfl) Rr
 obtain ⟨a4, q4, h4⟩ := qb hu hx hw 4 5 1 rfl rfl (by kernel_rfl) xn
 obtain ⟨a5, q5, h5⟩ := qb hu hx hw 5 6 1 rfl rfl (by kernel_rfl) xn
 obtain ⟨a6, q6, h6⟩ := qb hu hx hw 6 7 1 rfl rfl (by kernel_rfl) xn
 obtain ⟨a7, q7, h7⟩ := qb hu hx hw 7 8 1 rfl rfl (by kernel_rfl) xn
 obtain ⟨a8, q8, h8⟩ := qb hu hx hw 8 9 1 rfl rfl (by kernel_rfl) xn
 refine ⟨⟨a0, a1, a2, a3, a4, a5, a6, a7, a8⟩, q3, ?_⟩
 have := h0.cons rfl (h1.cons rfl (h2.cons rfl (h3.cons rfl (h4.cons rfl (h5.cons rfl (h6.cons rfl (h7.cons rfl (h8.cons rfl (CellsOK.stop hl)))))))))
 rw [List.drop_zero] at this
 exact this
theorem i9 : Codec Tryz.prog 26 (List Unt) (fun l => [lst 10 ze l]) (fun l => l.length <= 140737488355328 /\ ∀ u ∈ l, u.pos.ok) :=
 (Codec.slice Tryz.underlying26 (k := 10) (by kernel_rfl) (by decide) (of_decide_eq_true (by kernel_rfl)) lb).weaken fun _ h => ⟨h.2, h.1⟩
theorem gi : Codec Tryz.prog 28 Wld zr (fun w => ∀ u ∈ w.U, u.pos.ok) := by
 refine ⟨fun {H} enc w base held fuel cs x hx hw => ?_⟩
 have hu := Tryz.underlying28
 have hl : cs.length = 8 := (Fg hu hx).trans (by kernel_rfl)
 obtain ⟨a0, q0, h0⟩ := qb hu hx hw 0 0 1 rfl rfl (by kernel_rfl) xn
 obtain ⟨a1, q1, h1⟩ := qb hu hx hw 1 1 1 rfl rfl (by kernel_rfl) xn
 obtain ⟨a2, q2, h2⟩ := qb hu hx hw 2 2 1 rfl rfl (by kernel_rfl) xn
 obtain ⟨a3, q3, h3⟩ := qb hu hx hw 3 3 3 rfl rfl (by kernel_rfl) zqu
 obtain ⟨a4, q4, h4⟩ := qb hu hx hw 4 6 1 rfl rfl (by kernel_rfl) ztv
 obtain ⟨a5, q5, h5⟩ := qb hu hx hw 5 7 1 rfl rfl (by kernel_rfl) i9
 refine ⟨⟨a0, a1, a2, a3, a4, a5⟩, q5.2, ?_⟩
 have := h0.cons rfl (h1.cons rfl (h2.cons rfl (h3.cons rfl (h4.cons rfl (h5.cons rfl (CellsOK.stop hl))))))
 rw [List.drop_zero] at this
 exact this
theorem scr24_codec : Codec Tryz.prog 52 Scr24 G9 Scr24.good := by
 refine ⟨fun {H} enc w base held fuel cs x hx hw => ?_⟩
 have hu := Tryz.underlying52
 have hl : cs.length = 10 := (Fg hu hx).trans (by kernel_rfl)
 obtain ⟨a0, q0, h0⟩ := qb hu hx hw 0 0 8 rfl rfl (by kernel_rfl) gi
 obtain ⟨a1, q1, h1⟩ := qb hu hx hw 1 8 1 rfl rfl (by kernel_rfl) zpe
 obtain ⟨a2, q2, h2⟩ := qb hu hx hw 2 9 1 rfl rfl (by kernel_rfl) ir
 refine ⟨⟨a0, a1, a2⟩, ⟨q0, q1.2, q2.2⟩, ?_⟩
 have := h0.cons rfl (h1.cons rfl (h2.cons rfl (CellsOK.stop hl)))
 rw [List.drop_zero] at this
 exact this
end Go.Proofs
