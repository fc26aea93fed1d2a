/- Ground of laws of thronglaw24: contracts and plain lemmas; no condition beyond the row's own. -/
import Derived.Test.YtieceacpbjcddaaGreatKH
import Derived.Test.YtieceacpbjcddaaGreatKF
import Derived.Test.YtieceacpbjcddaaGreatKG
set_option linter.unusedSimpArgs false
set_option linter.unusedVariables false
set_option linter.defProp false
namespace Go.Proofs
open Go Go.V
def zlp : V.Sched := (sv [0, 1, 2, 3, 4, 5, 6, 7, 8, 9, 10] (.e 11 [2] (sv [12, 13] (.e 14 [0, 1, 2, 3, 4, 5, 6, 7, 8, 9, 10, 12, 13] (.e 15 [] .done .stop) .stop)) (.e 14 [0, 1, 2, 3, 4, 5, 6, 7, 8, 9, 10] (.e 11 [2] (sv [12, 13] (.e 15 [] .done .stop)) .stop) .stop)))
def zlo : V.Sched := (sv [0, 1, 2, 3, 4, 5, 6, 7, 8, 9, 10, 11, 12, 13] (.e 14 [] (.e 15 [] .done .stop) .stop))
def zlq : V.Sched := (sv [0, 1, 2, 3, 4, 5, 6, 7, 8, 9] (.e 10 [] .done .stop))
def Vu : V.Sched := (sv [0, 1, 2, 3, 4, 5, 6, 7, 8] (.e 9 [5] (sv [10, 11, 12] (.e 13 [] (sv [14] (.e 15 [] .done .stop)) .stop)) .stop))
def Vr : V.Sched := (sv [0, 1, 2, 3, 4, 5, 6, 7, 8, 9, 10, 11, 12, 13, 14, 15, 16, 17, 18, 19, 20, 21, 22, 23, 24] (.e 25 [] (sv [26, 27, 28, 29, 30, 31, 32, 35, 36, 37, 38, 39, 40] (.e 33 [36, 40] (sv [34] (.e 41 [34] (sv [42, 43, 44, 45, 46, 47, 48, 49, 50, 51, 52, 53, 54, 55, 56, 57, 58, 59, 60] .done) .stop)) .stop)) .stop))
def zm5 : V.Sched := (sv [0, 1, 2, 3, 4, 6, 7] (.e 5 [0] (.e 8 [] (.e 9 [] .done .stop) .stop) .stop))
def zmh : V.Sched := (sv [0, 1, 2, 3, 4, 5, 6, 7, 8, 9, 10, 11, 12] (.e 13 [] .done .stop))
def zmg : V.Sched := (sv [0, 1, 2, 3, 4, 5, 6] (.e 7 [1, 4] (sv [8, 9, 10, 11, 12, 13, 14, 15, 16] (.e 17 [] .done .stop)) .stop))
def zlu : V.Sched := (sv [0, 1, 2, 3, 4, 5, 6, 7, 8, 9, 10, 11, 12, 13, 14, 15, 16, 17, 18, 19] .done)
def zlw : V.Sched := (sv [0, 1, 2, 3, 4, 5, 6, 7, 8, 9, 10, 11, 12, 13, 14, 15, 16, 17, 18, 19, 20, 21, 22, 23, 24, 25, 26, 27, 28, 29, 30, 31, 32, 33, 34, 35, 36, 37, 38, 39, 40, 41, 42, 43, 44, 45, 46, 47, 48, 49, 50] (.e 51 [] (sv [52, 53, 54, 55, 56, 57, 58, 59, 60, 61, 62, 63] (.e 64 [] (sv [65, 66, 67, 68, 69, 70, 71, 72, 73, 74, 75, 76, 77, 78, 79, 80, 81, 82, 83, 84, 85, 86, 87] .done) .stop)) .stop))
def zlv : V.Sched := (sv [0, 1, 2, 3, 4, 5, 6, 7, 8] .done)
def zlt : V.Sched := (sv [0, 1, 2, 3, 4, 5, 6, 7, 8, 9, 10, 11, 12, 13, 14, 15, 16] (.e 17 [10, 12, 14] (sv [18] (.e 19 [] (sv [20, 21] .done) .stop)) .stop))
def zlr : V.Sched := (sv [0, 1, 2, 3, 4, 5, 6, 7, 8, 9, 10, 11, 12, 13, 14, 15, 16, 17] .done)
def zln : V.Sched := (sv [0, 1, 2, 3, 4, 5] (.e 6 [2, 5] (.e 7 [] (.e 8 [] .done .stop) .stop) .stop))
def zle : V.Sched := (sv [0, 1, 2, 3] (.e 4 [] (sv [5, 6, 7, 8, 9, 10, 11] (.e 12 [] (sv [13, 14, 15, 16, 17, 18, 19, 20] (.e 21 [] (sv [22, 23] .done) .stop)) .stop)) .stop))
def zlf : V.Sched := (sv [0, 1, 2, 3, 4, 5, 6, 7] (.e 8 [] .done .stop))
def zld : V.Sched := (sv [0, 1, 2, 3, 4, 5, 6, 7, 8, 9, 10, 11, 12, 13, 14, 15] (.e 16 [10, 14] (.e 17 [] .done .stop) .stop))
def zlc : V.Sched := (sv [0, 1, 2, 3, 4, 5, 7, 8, 9, 10, 11, 12] (.e 6 [9, 12] (.e 13 [] (sv [14] (.e 15 [] .done .stop)) .stop) .stop))
def zlb : V.Sched := (sv [0, 1] (.e 2 [] (sv [3, 4, 5, 6, 7] (.e 8 [] (sv [9, 10, 11, 12, 13, 14, 15, 16, 17, 18, 19, 20, 21, 22, 23, 24, 25] .done) .stop)) .stop))
def Vt : V.Sched := (sv [0] (.e 1 [0] (sv [2] (.e 3 [] (.e 4 [] .done .stop) .stop)) .stop))
def Vs : V.Sched := (sv [0, 1, 2, 3, 4, 5, 6, 7] (.e 8 [] .done .stop))
def zla : V.Sched := (sv [0, 1, 3, 4, 6, 7] (.e 2 [4, 7] (sv [9] (.e 5 [7] (.e 8 [] (.e 10 [] (sv [11] (.e 12 [] (sv [13] (.e 14 [] .done .stop)) .stop)) .stop) .stop) .stop)) .stop))
def zk9 : V.Sched := (sv [0, 1, 2, 3, 4, 5, 6, 7, 8, 11] (.e 9 [] (sv [10] .done) .stop))
def zk8 : V.Sched := (sv [0, 1, 2, 3, 4, 5, 6, 11, 12] (.e 7 [0, 2, 4, 12] (sv [8, 9, 10] (.e 13 [0] (.e 14 [] (.e 15 [] .done .stop) .stop) .stop)) .stop))
def zk7 : V.Sched := (sv [0, 1, 2, 3, 4, 5] (.e 6 [1] (.e 7 [] .done .stop) .stop))
def zk3 : V.Sched := (sv [0, 1, 2, 3, 4] (.e 5 [1] (sv [6] .done) .stop))
def zk6 : V.Sched := (sv [0, 1, 2, 3, 4] (.e 5 [] .done .stop))
def zk5 : V.Sched := (sv [0, 1, 2, 3, 4, 5, 6, 8, 9] (.e 7 [1, 3, 9] (.e 10 [1, 3] (sv [11] (.e 12 [1] (.e 13 [] (sv [14] .done) .stop) .stop)) .stop) .stop))
def zk4 : V.Sched := (sv [0, 1, 2, 3, 4] (.e 5 [] .done .stop))
def zm9 : V.Sched := (sv [0, 1, 2, 3, 4, 5, 6] (.e 7 [] (sv [8] (.e 9 [] .done .stop)) .stop))
def zm8 : V.Sched := (sv [0, 1, 2, 3, 4, 5, 6, 7, 8, 9, 10, 11] .done)
def zm7 : V.Sched := (sv [0, 1, 2, 3, 4, 5, 6, 7, 8, 9] (.e 10 [7] (.e 11 [] .done .stop) .stop))
def zm6 : V.Sched := (sv [0, 1, 2, 3, 4, 6, 7, 8, 9, 10] (.e 5 [7] (.e 11 [] (.e 12 [] (.e 13 [] .done .stop) .stop) .stop) .stop))
def Vy : V.Sched := (sv [0, 1, 2, 3, 4, 5, 6, 7, 9, 10, 11] (.e 8 [4, 9, 11] (.e 12 [] (sv [13] .done) .stop) .stop))
def Vx : V.Sched := (sv [0, 1, 2, 3, 4, 5, 6, 7, 8, 9, 10, 11] (.e 12 [5, 7, 9] (sv [13] (.e 14 [] (sv [15, 16] .done) .stop)) .stop))
def zm4 : V.Sched := (sv [0, 1, 2, 3, 4, 5, 6, 7, 8, 9, 10, 11, 12, 13, 15, 16] (.e 14 [16] (.e 17 [13] (sv [18, 19, 20] .done) .stop) (.e 17 [13] (sv [18] (.e 14 [16] (sv [19, 20] .done) .stop)) .stop)))
def zm3 : V.Sched := (sv [0, 1, 2, 3, 4, 6] (.e 5 [] (.e 7 [] (sv [8, 9, 10] (.e 11 [] (.e 12 [] .done .stop) .stop)) .stop) .stop))
def zm2 : V.Sched := (sv [0, 1, 2, 3, 4, 5, 6, 7, 8, 9, 11, 12] (.e 10 [3, 4] (.e 13 [3, 4, 8, 9] (.e 14 [3, 4] (.e 15 [] .done .stop) .stop) .stop) (.e 13 [3, 4, 8, 9] (.e 10 [3, 4] (.e 14 [3, 4] (.e 15 [] .done .stop) .stop) .stop) .stop)))
def Vw : V.Sched := (sv [0, 1, 2, 3, 4, 5] (.e 6 [] .done .stop))
def Vv : V.Sched := (sv [0, 1, 2, 3, 4, 5, 6, 9] (.e 7 [] (sv [8] .done) .stop))
def zm1 : V.Sched := (sv [0, 1, 2, 3, 5, 6, 7, 8] (.e 4 [6, 8] (.e 9 [] (sv [10] (.e 11 [] .done .stop)) .stop) .stop))
def zmz : V.Sched := (sv [0, 1, 2, 3, 4, 5, 6, 7, 8, 9, 10] (.e 11 [0, 1, 2, 3, 4, 5, 6, 7, 8, 9, 10] (.e 12 [] .done .stop) .stop))
def zmy : V.Sched := (sv [0, 1, 2, 3, 4, 5, 6, 7, 8] (.e 9 [] .done .stop))
def zm0 : V.Sched := (sv [0, 1, 2, 3, 4] (.e 5 [] .done .stop))
def zmx : V.Sched := (sv [0, 1, 2, 3, 5, 6, 7, 8] (.e 4 [6] (.e 9 [] (sv [10] (.e 11 [] .done .stop)) .stop) .stop))
def zmw : V.Sched := (sv [0, 1, 2, 3, 4, 5, 6, 7, 8, 9, 10, 11, 12] (.e 13 [] .done .stop))
def zmv : V.Sched := (sv [0, 1, 2, 3, 4] (.e 5 [] .done .stop))
def zmu : V.Sched := (sv [0, 1, 2, 3, 4, 5, 6, 7, 8, 9] (.e 10 [3, 7] (.e 11 [0, 1, 2, 3, 4, 5, 6, 7, 8, 9] (.e 12 [0, 1, 2, 3, 4, 5, 6, 7, 8, 9] (.e 13 [] (.e 14 [] .done .stop) .stop) .stop) (.e 12 [0, 1, 2, 3, 4, 5, 6, 7, 8, 9] (.e 11 [0, 1, 2, 3, 4, 5, 6, 7, 8, 9] (.e 13 [] (.e 14 [] .done .stop) .stop) .stop) .stop)) (.e 11 [0, 1, 2, 3, 4, 5, 6, 7, 8, 9] (.e 10 [3, 7] (.e 12 [0, 1, 2, 3, 4, 5, 6, 7, 8, 9] (.e 13 [] (.e 14 [] .done .stop) .stop) .stop) (.e 12 [0, 1, 2, 3, 4, 5, 6, 7, 8, 9] (.e 10 [3, 7] (.e 13 [] (.e 14 [] .done .stop) .stop) .stop) .stop)) (.e 12 [0, 1, 2, 3, 4, 5, 6, 7, 8, 9] (.e 10 [3, 7] (.e 11 [0, 1, 2, 3, 4, 5, 6, 7, 8, 9] (.e 13 [] (.e 14 [] .done .stop) .stop) .stop) (.e 11 [0, 1, 2, 3, 4, 5, 6, 7, 8, 9] (.e 10 [3, 7] (.e 13 [] (.e 14 [] .done .stop) .stop) .stop) .stop)) .stop))))
def zmt : V.Sched := (sv [0, 1, 2, 3, 4, 5, 6, 7, 8] (.e 9 [5] (sv [10, 11, 12, 13, 14, 15, 16, 17, 18, 19, 20, 21, 22, 23, 24, 25, 26, 27, 28, 29, 30, 31, 36, 37] (.e 32 [37] (sv [33, 34, 35, 38, 39, 40, 41] .done) .stop)) .stop))
def zms : V.Sched := (sv [0, 1, 2, 3, 4, 5, 6, 7] (.e 8 [] (sv [9, 10] (.e 11 [] .done .stop)) .stop))
def zmr : V.Sched := (sv [0, 1, 2, 3, 4, 5, 6, 7, 8, 9] (.e 10 [3, 7] (.e 11 [0, 1, 2, 3, 4, 5, 6, 7, 8, 9] (.e 12 [0, 1, 2, 3, 4, 5, 6, 7, 8, 9] (.e 13 [] (.e 14 [] .done .stop) .stop) .stop) (.e 12 [0, 1, 2, 3, 4, 5, 6, 7, 8, 9] (.e 11 [0, 1, 2, 3, 4, 5, 6, 7, 8, 9] (.e 13 [] (.e 14 [] .done .stop) .stop) .stop) .stop)) (.e 11 [0, 1, 2, 3, 4, 5, 6, 7, 8, 9] (.e 10 [3, 7] (.e 12 [0, 1, 2, 3, 4, 5, 6, 7, 8, 9] (.e 13 [] (.e 14 [] .done .stop) .stop) .stop) (.e 12 [0, 1, 2, 3, 4, 5, 6, 7, 8, 9] (.e 10 [3, 7] (.e 13 [] (.e 14 [] .done .stop) .stop) .stop) .stop)) (.e 12 [0, 1, 2, 3, 4, 5, 6, 7, 8, 9] (.e 10 [3, 7] (.e 11 [0, 1, 2, 3, 4, 5, 6, 7, 8, 9] (.e 13 [] (.e 14 [] .done .stop) .stop) .stop) (.e 11 [0, 1, 2, 3, 4, 5, 6, 7, 8, 9] (.e 10 [3, 7] (.e 13 [] (.e 14 [] .done .stop) .stop) .stop) .stop)) .stop))))
def zmq : V.Sched := (sv [0, 1, 2, 3] (.e 4 [1] (sv [5] .done) .stop))
def zmp : V.Sched := (sv [0, 1, 2, 3, 4, 5, 6, 7, 8, 9, 10, 11, 12, 13, 14, 15, 16, 17, 18, 19, 20, 22] (.e 21 [] (sv [23, 24] (.e 25 [] .done .stop)) .stop))
def zmo : V.Sched := (sv [0, 1, 2, 3, 4, 5, 6] (.e 7 [] (sv [8, 9, 10] (.e 11 [] (.e 12 [] .done .stop) .stop)) .stop))
def zmn : V.Sched := (sv [0, 1, 2, 3, 4, 5, 6, 7] (.e 8 [] .done .stop))
def zmm : V.Sched := (sv [0, 1, 2, 3, 4, 5, 6, 7] (.e 8 [] .done .stop))
def zml : V.Sched := (sv [0, 1, 2, 3, 4, 5] (.e 6 [] .done .stop))
def zmk : V.Sched := (sv [0, 1, 2, 3, 4, 5, 6, 7, 8, 9, 10, 11, 12] .done)
def zmj : V.Sched := (sv [0, 1, 2, 3, 4, 5, 6, 7, 8, 9, 10, 11, 12] .done)
def zmi : V.Sched := (sv [0, 1, 2, 3, 4, 5] (.e 6 [0] (sv [7] (.e 8 [] (.e 9 [] .done .stop) .stop)) .stop))
def zmf : V.Sched := (sv [0, 1, 2, 3, 4, 5, 6, 7] (.e 8 [6] (.e 9 [] .done .stop) .stop))
def zme : V.Sched := (sv [0, 1, 4, 5] (.e 2 [5] (.e 3 [5] (.e 6 [] (.e 7 [] (.e 8 [] (.e 9 [] .done .stop) .stop) .stop) .stop) .stop) .stop))
def zmd : V.Sched := (sv [0, 1, 2, 3, 5, 6, 7, 8] (.e 4 [6, 8] (.e 9 [] (sv [10] (.e 11 [] .done .stop)) .stop) .stop))
def zmc : V.Sched := (sv [0, 1, 2, 3, 4, 5] (.e 6 [4] (.e 7 [] .done .stop) .stop))
def Fz : V.Sched := (sv [0, 1, 2, 3, 4, 5, 6, 7, 8, 9, 10, 11, 12, 14, 15] (.e 13 [] (sv [16] (.e 17 [] .done .stop)) .stop))
def zmb : V.Sched := (sv [0, 1, 2, 4] (.e 3 [0, 1] (.e 5 [0, 1] (sv [6] (.e 7 [] (sv [8] (.e 9 [] .done .stop)) .stop)) .stop) .stop))
def zl9 : V.Sched := (sv [0, 1, 2, 3, 4] (.e 5 [] (.e 6 [] .done .stop) .stop))
def zl8 : V.Sched := (sv [0, 1, 2, 3, 4] (.e 5 [] .done .stop))
def zma : V.Sched := (sv [0, 1, 2, 3, 4, 5] (.e 6 [] .done .stop))
def zl7 : V.Sched := (sv [0, 1, 3, 4] (.e 2 [4] (.e 5 [] (sv [6] (.e 7 [] .done .stop)) .stop) .stop))
def zl6 : V.Sched := (sv [0, 1, 2, 4, 5, 6] (.e 3 [5, 6] (.e 7 [] (sv [8] (.e 9 [] (.e 10 [0, 1, 2, 4, 5, 6, 8] (.e 11 [] .done .stop) .stop) (.e 10 [0, 1, 2, 4, 5, 6, 8] (.e 9 [] (.e 11 [] .done .stop) .stop) .stop))) (.e 10 [0, 1, 2, 4, 5, 6] (.e 7 [] (sv [8] (.e 9 [] (.e 11 [] .done .stop) .stop)) .stop) .stop)) (.e 10 [0, 1, 2, 4, 5, 6] (.e 3 [5, 6] (.e 7 [] (sv [8] (.e 9 [] (.e 11 [] .done .stop) .stop)) .stop) .stop) .stop)))
def zl5 : V.Sched := (sv [0, 1, 2, 4, 5, 6] (.e 3 [5, 6] (.e 7 [] (sv [8] (.e 9 [] (.e 10 [0, 1, 2, 4, 5, 6, 8] (.e 11 [] .done .stop) .stop) (.e 10 [0, 1, 2, 4, 5, 6, 8] (.e 9 [] (.e 11 [] .done .stop) .stop) .stop))) (.e 10 [0, 1, 2, 4, 5, 6] (.e 7 [] (sv [8] (.e 9 [] (.e 11 [] .done .stop) .stop)) .stop) .stop)) (.e 10 [0, 1, 2, 4, 5, 6] (.e 3 [5, 6] (.e 7 [] (sv [8] (.e 9 [] (.e 11 [] .done .stop) .stop)) .stop) .stop) .stop)))
def zl4 : V.Sched := (sv [0, 1, 2, 3, 5, 6, 7, 8] (.e 4 [6, 8] (.e 9 [] (sv [10] (.e 11 [] .done .stop)) .stop) .stop))
def zl3 : V.Sched := (sv [0, 1, 3, 4] (.e 2 [4] (.e 5 [] (sv [6] (.e 7 [] .done .stop)) .stop) .stop))
def zl2 : V.Sched := (sv [0, 1, 2, 3, 4, 5, 6, 7] (.e 8 [6] (.e 9 [] .done .stop) .stop))
def zl1 : V.Sched := (sv [0, 1, 2, 3, 4, 5, 6, 7, 8, 9, 10, 11] .done)
def zl0 : V.Sched := (sv [0, 1, 2, 3, 4, 5, 6, 7, 8, 9] (.e 10 [7] (.e 11 [] .done .stop) .stop))
def zlz : V.Sched := (sv [0, 1, 2, 3, 4, 5, 7] (.e 6 [0, 7] (.e 8 [] .done .stop) .stop))
def zly : V.Sched := (sv [0, 1] (.e 2 [0] (.e 3 [] (sv [4] .done) .stop) .stop))
def zlx : V.Sched := (sv [0, 1, 2, 3, 4, 5] (.e 6 [] (.e 7 [] .done .stop) .stop))
def zls : V.Sched := (sv [0, 1, 2, 3, 4, 5, 6, 7] (.e 8 [6] (.e 9 [] .done .stop) .stop))
def zlm : V.Sched := (sv [0, 1, 2, 3, 4, 5, 6, 7, 8, 9, 10, 11, 13, 14, 15, 16, 17, 18, 19, 20, 21, 22, 23, 24] (.e 12 [16, 21, 24] (.e 25 [] (sv [26] (.e 27 [] .done .stop)) .stop) .stop))
def zll : V.Sched := (sv [0, 1, 2, 3, 4, 5, 6, 7, 8, 9, 10, 11, 12, 13, 14, 15, 16, 17, 18, 19, 20, 21, 22, 23, 24, 25, 26, 27, 28, 29, 30, 31, 32, 33, 34, 35, 36, 37, 38] (.e 39 [] (sv [40, 41, 42, 43, 44, 45, 46] (.e 47 [] (sv [48, 49] .done) .stop)) .stop))
def zlk : V.Sched := (sv [0, 1, 2, 3, 4, 5, 6, 7, 8, 9, 10, 11, 12, 13] (.e 14 [] (sv [15] .done) .stop))
def zlj : V.Sched := (sv [0, 1, 2, 3, 4, 5, 6, 7, 8, 9, 10, 11, 12, 13, 14, 15, 16, 17, 18, 19, 20, 21, 22, 23, 24] (.e 25 [] (sv [26] (.e 27 [] .done .stop)) .stop))
def zlh : V.Sched := (sv [0, 1, 2, 3, 4, 5, 6, 7, 8, 9, 10, 11] (.e 12 [] .done .stop))
def zli : V.Sched := (sv [0, 1, 2, 3, 4, 5, 6, 7, 8, 9, 10, 11, 12, 13, 14, 15, 16, 17, 18, 19] (.e 20 [] (sv [21] .done) .stop))
def Nv : V.Sched := (sv [0, 1, 2, 3, 4, 5, 6, 7, 8, 9, 10, 11, 12, 13] (.e 14 [] (sv [15] .done) .stop))
def Nu : V.Sched := (sv [0, 1, 2, 3, 4, 5, 6, 7, 8, 9, 10, 11, 12, 13, 14, 15, 16, 17, 18, 19, 20, 21, 22, 23, 24] (.e 25 [] (sv [26] (.e 27 [] .done .stop)) .stop))
def Kc : V.Sched := (sv [0, 1, 2, 3] (.e 4 [3] (.e 5 [] (.e 6 [] .done .stop) .stop) .stop))
def zlg : V.Sched := (sv [0, 1, 2, 3, 4, 5] (.e 6 [] (.e 7 [] .done .stop) .stop))
end Go.Proofs
namespace Go.Proofs
open Go Go.V
set_option maxRecDepth 4000
theorem zb : yk Tryz.prog infoTree.get := Tr.ok _ zr5
def cfg (n : Nat) (G : List Nat := []) (W : List Nat := []) : Cfg := { n := n, I := infoTree.get, G := G, W := W }
theorem gz {n : Int} (h : (Lit.int .i64 n).wf = true) : ye n := by
 simp [Lit.wf, IntKind.min, IntKind.max, IntKind.signed, IntKind.bits] at h
 unfold ye
 omega
theorem de : Codec Tryz.prog 2 Int yn ye := (Codec.int Tryz.underlying2).weaken fun _ h => gz h
theorem x7 : Codec Tryz.prog 3 Int yn ye := (Codec.int Tryz.underlying3).weaken fun _ h => gz h
theorem zwi : Codec Tryz.prog 22 (List UInt8) (fun l => [Db l]) (fun l => l.length <= 140737488355328) :=
 (Codec.slice Tryz.underlying22 (k := 1) (by kernel_rfl) (by decide) (of_decide_eq_true (by kernel_rfl)) (Codec.byte Tryz.underlying5)).weaken fun _ h => h.2
theorem zrz : Codec Tryz.prog 29 (List Int) (fun l => [wc l]) (fun l => l.length <= 140737488355328 /\ ∀ n ∈ l, ye n) :=
 (Codec.slice Tryz.underlying29 (k := 1) (by kernel_rfl) (by decide) (of_decide_eq_true (by kernel_rfl)) x7).weaken fun _ h => ⟨h.2, h.1⟩
theorem R5 : Codec Tryz.prog 36 Vc zy Vc.ok := by
 refine ⟨fun {H} enc w base held fuel cs x hx hw => ?_⟩
 have hu := Tryz.underlying36
 have hl : cs.length = 2 := (Ft hu hx).trans (by kernel_rfl)
 obtain ⟨a0, q0, h0⟩ := ql hu hx hw 0 0 1 rfl rfl (by kernel_rfl) de
 obtain ⟨a1, q1, h1⟩ := ql hu hx hw 1 1 1 rfl rfl (by kernel_rfl) de
 refine ⟨(a0, a1), ⟨q0, q1⟩, ?_⟩
 have := h0.cons rfl (h1.cons rfl (CellsOK.stop hl))
 rw [List.drop_zero] at this
 exact this
theorem mn : Codec Tryz.prog 30 (List Vc) (fun l => [lst 2 zy l]) (fun l => l.length <= 140737488355328 /\ ∀ v ∈ l, v.ok) :=
 (Codec.slice Tryz.underlying30 (k := 2) (by kernel_rfl) (by decide) (of_decide_eq_true (by kernel_rfl)) R5).weaken fun _ h => ⟨h.2, h.1⟩
theorem ztq : Codec Tryz.prog 24 Gnd zr (fun g => g.T.length <= 140737488355328) := by
 refine ⟨fun {H} enc w base held fuel cs x hx hw => ?_⟩
 have hu := Tryz.underlying24
 have hl : cs.length = 3 := (Ft hu hx).trans (by kernel_rfl)
 obtain ⟨a0, q0, h0⟩ := ql hu hx hw 0 0 1 rfl rfl (by kernel_rfl) x7
 obtain ⟨a1, q1, h1⟩ := ql hu hx hw 1 1 1 rfl rfl (by kernel_rfl) x7
 obtain ⟨a2, q2, h2⟩ := ql hu hx hw 2 2 1 rfl rfl (by kernel_rfl) zwi
 refine ⟨⟨a0, a1, a2⟩, q2, ?_⟩
 have := h0.cons rfl (h1.cons rfl (h2.cons rfl (CellsOK.stop hl)))
 rw [List.drop_zero] at this
 exact this
theorem zwp : Codec Tryz.prog 151 Bld zz (fun _ => True) := by
 refine ⟨fun {H} enc w base held fuel cs x hx hw => ?_⟩
 have hu := Tryz.underlying151
 have hl : cs.length = 6 := (Ft hu hx).trans (by kernel_rfl)
 obtain ⟨a0, q0, h0⟩ := ql hu hx hw 0 0 1 rfl rfl (by kernel_rfl) x7
 obtain ⟨a1, q1, h1⟩ := ql hu hx hw 1 1 1 rfl rfl (by kernel_rfl) x7
 obtain ⟨a2, q2, h2⟩ := ql hu hx hw 2 2 1 rfl rfl (by kernel_rfl) x7
 obtain ⟨a3, q3, h3⟩ := ql hu hx hw 3 3 1 rfl rfl (by kernel_rfl) x7
 obtain ⟨a4, q4, h4⟩ := ql hu hx hw 4 4 1 rfl rfl (by kernel_rfl) x7
 obtain ⟨a5, q5, h5⟩ := ql hu hx hw 5 5 1 rfl rfl (by kernel_rfl) x7
 refine ⟨⟨a0, a1, a2, a3, a4, a5⟩, Tv, ?_⟩
 have := h0.cons rfl (h1.cons rfl (h2.cons rfl (h3.cons rfl (h4.cons rfl (h5.cons rfl (CellsOK.stop hl))))))
 rw [List.drop_zero] at this
 exact this
theorem zwo : Codec Tryz.prog 25 (List Bld) (fun l => [lst 6 zz l]) (fun l => l.length <= 140737488355328) :=
 (Codec.slice Tryz.underlying25 (k := 6) (by kernel_rfl) (by decide) (of_decide_eq_true (by kernel_rfl)) zwp).weaken fun _ h => h.2
theorem m6 : Codec Tryz.prog 38 Unt zp (fun u => u.pos.ok) := by
 refine ⟨fun {H} enc w base held fuel cs x hx hw => ?_⟩
 have hu := Tryz.underlying38
 have hl : cs.length = 10 := (Ft hu hx).trans (by kernel_rfl)
 obtain ⟨a0, q0, h0⟩ := ql hu hx hw 0 0 1 rfl rfl (by kernel_rfl) x7
 obtain ⟨a1, q1, h1⟩ := ql hu hx hw 1 1 1 rfl rfl (by kernel_rfl) x7
 obtain ⟨a2, q2, h2⟩ := ql hu hx hw 2 2 1 rfl rfl (by kernel_rfl) x7
 obtain ⟨a3, q3, h3⟩ := ql hu hx hw 3 3 2 rfl rfl (by kernel_rfl) R5
 obtain ⟨a4, q4, h4⟩ := ql hu hx hw 4 5 1 rfl rfl (by kernel_rfl) x7
 obtain ⟨a5, q5, h5⟩ := ql hu hx hw 5 6 1 rfl rfl (by kernel_rfl) x7
 obtain ⟨a6, q6, h6⟩ := ql hu hx hw 6 7 1 rfl rfl (by kernel_rfl) x7
 obtain ⟨a7, q7, h7⟩ := ql hu hx hw 7 8 1 rfl rfl (by kernel_rfl) x7
 obtain ⟨a8, q8, h8⟩ := ql hu hx hw 8 9 1 rfl rfl (by kernel_rfl) x7
 refine ⟨⟨a0, a1, a2, a3, a4, a5, a6, a7, a8⟩, q3, ?_⟩
 have := h0.cons rfl (h1.cons rfl (h2.cons rfl (h3.cons rfl (h4.cons rfl (h5.cons rfl (h6.cons rfl (h7.cons rfl (h8.cons rfl (CellsOK.stop hl)))))))))
 rw [List.drop_zero] at this
 exact this
theorem m4 : Codec Tryz.prog 26 (List Unt) (fun l => [lst 10 zp l]) (fun l => l.length <= 140737488355328 /\ ∀ u ∈ l, u.pos.ok) :=
 (Codec.slice Tryz.underlying26 (k := 10) (by kernel_rfl) (by decide) (of_decide_eq_true (by kernel_rfl)) m6).weaken fun _ h => ⟨h.2, h.1⟩
theorem lh : Codec Tryz.prog 28 Wld yd (fun w => ∀ u ∈ w.U, u.pos.ok) := by
 refine ⟨fun {H} enc w base held fuel cs x hx hw => ?_⟩
 have hu := Tryz.underlying28
 have hl : cs.length = 8 := (Ft hu hx).trans (by kernel_rfl)
 obtain ⟨a0, q0, h0⟩ := ql hu hx hw 0 0 1 rfl rfl (by kernel_rfl) x7
 obtain ⟨a1, q1, h1⟩ := ql hu hx hw 1 1 1 rfl rfl (by kernel_rfl) x7
 obtain ⟨a2, q2, h2⟩ := ql hu hx hw 2 2 1 rfl rfl (by kernel_rfl) x7
 obtain ⟨a3, q3, h3⟩ := ql hu hx hw 3 3 3 rfl rfl (by kernel_rfl) ztq
 obtain ⟨a4, q4, h4⟩ := ql hu hx hw 4 6 1 rfl rfl (by kernel_rfl) zwo
 obtain ⟨a5, q5, h5⟩ := ql hu hx hw 5 7 1 rfl rfl (by kernel_rfl) m4
 refine ⟨⟨a0, a1, a2, a3, a4, a5⟩, q5.2, ?_⟩
 have := h0.cons rfl (h1.cons rfl (h2.cons rfl (h3.cons rfl (h4.cons rfl (h5.cons rfl (CellsOK.stop hl))))))
 rw [List.drop_zero] at this
 exact this
theorem scr24_codec : Codec Tryz.prog 32 Scr24 Kb Scr24.good := by
 refine ⟨fun {H} enc w base held fuel cs x hx hw => ?_⟩
 have hu := Tryz.underlying32
 have hl : cs.length = 10 := (Ft hu hx).trans (by kernel_rfl)
 obtain ⟨a0, q0, h0⟩ := ql hu hx hw 0 0 8 rfl rfl (by kernel_rfl) lh
 obtain ⟨a1, q1, h1⟩ := ql hu hx hw 1 8 1 rfl rfl (by kernel_rfl) zrz
 obtain ⟨a2, q2, h2⟩ := ql hu hx hw 2 9 1 rfl rfl (by kernel_rfl) mn
 refine ⟨⟨a0, a1, a2⟩, ⟨q0, q1.2, q2.2⟩, ?_⟩
 have := h0.cons rfl (h1.cons rfl (h2.cons rfl (CellsOK.stop hl)))
 rw [List.drop_zero] at this
 exact this
end Go.Proofs
