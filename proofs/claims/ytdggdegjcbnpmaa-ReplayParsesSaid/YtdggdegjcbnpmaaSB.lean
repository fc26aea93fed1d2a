/- The ground on which laws of thronglaw29 are proved: contracts of functions and plain lemmas; no condition beyond the row's own. -/
import Derived.Test.YtdggdegjcbnpmaaVC
import Derived.Test.YtdggdegjcbnpmaaVD
import Derived.Test.YtdggdegjcbnpmaaSA
namespace Go.Proofs
open Go Go.V
set_option linter.unusedVariables false
def sch3_12 : V.Sched := (sv [0, 1, 2, 3] (.e 4 [] (sv [5, 6, 7, 8, 9] (.e 10 [] (sv [11, 12, 13, 14, 15, 16, 17, 18, 19] (.e 20 [] (sv [21, 22] .done) .stop)) .stop)) .stop))
def sch5_9 : V.Sched := (sv [0] (.e 1 [] (sv [2, 3, 4, 5, 6, 7, 8, 9] (.e 10 [] (sv [11, 12] .done) .stop)) .stop))
def sch5_16 : V.Sched := (sv [0] (.e 1 [] (sv [2, 3, 4] (.e 5 [] (sv [6, 7, 8, 9, 10, 11, 12, 13, 14, 15, 16, 17, 18, 19, 20, 21] (.e 22 [] (sv [23, 24] .done) .stop)) .stop)) .stop))
def sch6_11 : V.Sched := (sv [0] (.e 1 [] (sv [2, 3, 4, 5, 6, 7, 8, 9, 10, 11, 12, 13, 14, 15, 16, 17, 18, 19, 20, 21, 22, 23] (.e 24 [] (sv [25, 26, 27, 28, 31, 32, 33, 34, 35, 36, 37, 38, 39] (.e 29 [32, 37, 38] (sv [30, 40, 41] .done) .stop)) .stop)) .stop))
def sch8_6 : V.Sched := (sv [0, 1, 2, 3, 4, 5, 6, 7, 8, 9, 10, 11, 12] (.e 13 [0, 1, 2, 3, 4, 5, 6, 7, 8, 9, 10, 11, 12] (.e 14 [] .done .stop) .stop))
def sch8_17 : V.Sched := (sv [0] (.e 1 [] (sv [2, 3, 4, 5, 6, 7, 8, 9, 10, 11, 12, 13, 14, 15, 16, 17, 18, 19, 20, 21] (.e 22 [] (sv [23, 24, 25, 26] (.e 27 [] (sv [28, 29, 30, 31, 32, 33, 34, 35, 36, 37, 38, 39, 40, 41, 42, 43] (.e 44 [] (sv [45, 46, 47, 48] (.e 49 [] (sv [50, 51] .done) .stop)) .stop)) .stop)) .stop)) .stop))
def sch10_13 : V.Sched := (sv [0, 1, 2, 4, 5, 6] (.e 3 [6] (.e 7 [] (sv [8] .done) .stop) .stop))
def sch10_27 : V.Sched := (sv [0, 2, 3, 4, 5, 6] (.e 1 [5, 6] (sv [7] .done) .stop))
def sch14_12 : V.Sched := (sv [0, 1, 2, 3, 4] (.e 5 [] (sv [6, 7, 8, 9, 10, 11, 12, 13, 14, 15, 16, 17, 18, 19, 20, 21, 22, 23, 24, 25, 26, 27, 28, 29, 30, 31, 32] (.e 33 [] (sv [34, 35, 36] .done) .stop)) .stop))
def sch16_1 : V.Sched := (sv [1, 2, 3, 5, 6] (.e 0 [2, 6] (.e 4 [6] (.e 7 [] (.e 8 [] .done .stop) .stop) .stop) .stop))
def sch17_6 : V.Sched := (sv [0, 1, 2, 3, 4, 5, 6, 7, 8] .done)
def sch21_13 : V.Sched := (sv [0, 1, 2, 3, 4, 5, 6, 7] (.e 8 [4, 7] (.e 9 [] .done .stop) .stop))
def sch21_14 : V.Sched := (sv [0, 1, 2, 3, 5, 6, 7, 8, 9, 10, 11, 12, 13, 14, 15, 16, 17] (.e 4 [3, 7, 11, 14, 15] (.e 18 [3] (sv [19, 20] (.e 21 [] (sv [22, 23] (.e 24 [] .done .stop)) .stop)) .stop) .stop))
def sch21_16 : V.Sched := (sv [0, 1, 2, 3, 4, 5, 6, 7] (.e 8 [] .done .stop))
def sch21_21 : V.Sched := (sv [0, 1, 2, 3, 4, 5, 6, 7] (.e 8 [4, 7] (.e 9 [] .done .stop) .stop))
def sch22_9 : V.Sched := (sv [0, 1, 2, 3, 4] (.e 5 [4] (.e 6 [] .done .stop) .stop))
def sch22_13 : V.Sched := (sv [0, 1, 2, 3, 4] (.e 5 [4] (.e 6 [] .done .stop) .stop))
def sch23_6 : V.Sched := (sv [0, 1, 2, 3, 4, 5, 6, 7] (.e 8 [] (sv [9] .done) .stop))
def sch25_3 : V.Sched := (sv [0, 1, 2, 3, 4, 6] (.e 5 [] (.e 7 [] (sv [8, 9, 10] (.e 11 [] (.e 12 [] .done .stop) .stop)) .stop) .stop))
def sch25_4 : V.Sched := (sv [0, 1, 2, 3, 4, 5, 6, 7, 8, 9, 11, 12, 13] (.e 10 [3, 4] (.e 14 [3, 4] (.e 15 [] .done .stop) .stop) .stop))
def sch25_5 : V.Sched := (sv [0, 1, 2, 3, 4, 5] (.e 6 [] .done .stop))
def sch26_4 : V.Sched := (sv [0, 1, 2, 4, 5, 6] (.e 3 [5, 6] (.e 7 [] (sv [8] (.e 9 [] (.e 10 [0, 1, 2, 4, 5, 6, 8] (.e 11 [] .done .stop) .stop) (.e 10 [0, 1, 2, 4, 5, 6, 8] (.e 9 [] (.e 11 [] .done .stop) .stop) .stop))) (.e 10 [0, 1, 2, 4, 5, 6] (.e 7 [] (sv [8] (.e 9 [] (.e 11 [] .done .stop) .stop)) .stop) .stop)) (.e 10 [0, 1, 2, 4, 5, 6] (.e 3 [5, 6] (.e 7 [] (sv [8] (.e 9 [] (.e 11 [] .done .stop) .stop)) .stop) .stop) .stop)))
def sch26_5 : V.Sched := (sv [0, 1, 2, 4, 5, 6] (.e 3 [5, 6] (.e 7 [] (sv [8] (.e 9 [] (.e 10 [0, 1, 2, 4, 5, 6, 8] (.e 11 [] .done .stop) .stop) (.e 10 [0, 1, 2, 4, 5, 6, 8] (.e 9 [] (.e 11 [] .done .stop) .stop) .stop))) (.e 10 [0, 1, 2, 4, 5, 6] (.e 7 [] (sv [8] (.e 9 [] (.e 11 [] .done .stop) .stop)) .stop) .stop)) (.e 10 [0, 1, 2, 4, 5, 6] (.e 3 [5, 6] (.e 7 [] (sv [8] (.e 9 [] (.e 11 [] .done .stop) .stop)) .stop) .stop) .stop)))
def sch30_5 : V.Sched := (sv [0, 1, 2, 3, 4] (.e 5 [] (.e 6 [] .done .stop) .stop))
def sch30_9 : V.Sched := (sv [0, 1, 2, 3, 4] (.e 5 [] .done .stop))
def sch30_10 : V.Sched := (sv [0, 1, 2, 3, 4, 5] (.e 6 [] .done .stop))
def sch31_4 : V.Sched := (sv [0, 1, 2, 3, 4, 5, 7, 8, 9, 10, 11, 12] (.e 6 [10] (.e 13 [] (.e 14 [] (.e 15 [] .done .stop) .stop) .stop) .stop))
def sch34_6 : V.Sched := (sv [0, 1, 2, 3, 4, 5, 6, 7, 8] .done)
def sch35_5 : V.Sched := (sv [0, 1, 2, 3, 4, 5, 6, 7, 8] (.e 9 [] .done .stop))
def sch37_5 : V.Sched := (sv [0, 1, 2, 3, 4, 5, 7, 8, 10, 11, 12, 13, 14, 15, 17, 18] (.e 6 [13, 17] (.e 9 [13, 17] (.e 16 [17] (.e 19 [] (.e 20 [] (.e 21 [] .done .stop) .stop) .stop) .stop) .stop) .stop))
def sch43_1 : V.Sched := (sv [2, 3, 5, 6, 8, 9] (.e 0 [3, 6, 9] (.e 1 [3, 6, 9] (.e 4 [6, 9] (.e 7 [9] (.e 10 [] (.e 11 [] .done .stop) .stop) .stop) .stop) .stop) .stop))
def sch50_6 : V.Sched := (sv [0, 1, 2, 3, 4] (.e 5 [3] (sv [6] (.e 7 [] .done .stop)) .stop))
def sch50_9 : V.Sched := (sv [0, 1, 2, 3, 4] (.e 5 [3] (sv [6] (.e 7 [] .done .stop)) .stop))
def sch50_15 : V.Sched := (sv [0, 1, 2, 3, 4, 5, 6] (.e 7 [3, 5] (sv [8] (.e 9 [5] (sv [10] (.e 11 [] .done .stop)) .stop)) .stop))
def sch50_21 : V.Sched := (sv [0, 1, 2, 3, 4] (.e 5 [3] (sv [6] (.e 7 [] .done .stop)) .stop))
def sch50_24 : V.Sched := (sv [0, 1, 2, 3, 4] (.e 5 [3] (sv [6] (.e 7 [] .done .stop)) .stop))
def sch54_1 : V.Sched := (sv [0, 1, 3, 4] (.e 2 [4] (.e 5 [] (.e 6 [] (.e 7 [] .done .stop) .stop) .stop) .stop))
def sch54_9 : V.Sched := (sv [0, 1, 2, 5, 6] (.e 3 [6] (.e 4 [6] (.e 7 [] (.e 8 [] (.e 9 [] .done .stop) .stop) .stop) .stop) .stop))
def sch54_19 : V.Sched := (sv [0, 1, 2, 5, 6] (.e 3 [6] (.e 4 [6] (.e 7 [] (.e 8 [] (.e 9 [] .done .stop) .stop) .stop) .stop) .stop))
def sch54_21 : V.Sched := (sv [0, 1, 2, 5, 6] (.e 3 [6] (.e 4 [6] (.e 7 [] (.e 8 [] (.e 9 [] .done .stop) .stop) .stop) .stop) .stop))
def sch61_12 : V.Sched := (sv [0, 2, 3, 4, 5, 6, 7, 8, 9, 10, 11] (.e 1 [4, 8, 9] (.e 12 [] (.e 13 [] (.e 14 [] .done .stop) .stop) .stop) .stop))
def sch61_15 : V.Sched := (sv [0, 1, 2, 3, 4] (.e 5 [4] (.e 6 [] .done .stop) .stop))
def sch63_8 : V.Sched := (sv [0, 1, 2, 3, 4, 5, 6, 7, 8, 9, 10, 11, 12, 13, 14, 15, 16, 17, 18, 19, 20, 21, 22] (.e 23 [3] (sv [24, 25] (.e 26 [] .done .stop)) .stop))
def sch63_16 : V.Sched := (sv [0, 1, 2, 3, 4, 5, 6, 7, 8, 9, 10, 11, 12, 13, 14, 15, 16, 17] (.e 18 [] (sv [19, 20] (.e 21 [] .done .stop)) .stop))
def sch64_1 : V.Sched := (sv [0, 1, 2, 3, 4, 5, 6, 7, 8, 9] .done)
def sch64_3 : V.Sched := (sv [0, 1, 2, 3, 4, 5, 6, 7, 8, 9, 10, 11] .done)
def sch65_3 : V.Sched := (sv [0, 1, 2, 3, 4, 5, 6, 7, 8] (.e 9 [] (sv [10, 11, 12, 13] (.e 14 [] (.e 15 [] (.e 16 [] .done .stop) .stop) .stop)) .stop))
def sch66_3 : V.Sched := (sv [0, 1, 2, 3, 4, 5, 6, 7, 8] (.e 9 [] (sv [10, 11, 12, 13] (.e 14 [] (.e 15 [] (.e 16 [] .done .stop) .stop) .stop)) .stop))
def sch67_8 : V.Sched := (sv [0, 1, 2, 3, 4, 5, 6, 7, 8] (.e 9 [] (sv [10, 11, 12, 13] (.e 14 [0, 1, 2, 3, 4, 5, 6, 7, 8, 10, 11, 12, 13] (.e 15 [] (.e 16 [] (.e 17 [] .done .stop) .stop) .stop) .stop)) (.e 14 [0, 1, 2, 3, 4, 5, 6, 7, 8] (.e 9 [] (sv [10, 11, 12, 13] (.e 15 [] (.e 16 [] (.e 17 [] .done .stop) .stop) .stop)) .stop) .stop)))
def sch67_9 : V.Sched := (sv [0, 1, 2, 3, 4, 5, 6, 7, 8, 9, 10, 11, 12, 13, 14, 15, 16, 17, 18] (.e 19 [] (sv [20, 21, 22, 23] .done) .stop))
def sch67_18 : V.Sched := (sv [0, 1, 2, 3, 4, 5, 6, 7, 8, 9] .done)
def sch67_20 : V.Sched := (sv [0, 1, 2, 3, 4, 5, 6, 7, 8, 9, 10, 11, 12, 13, 14, 15, 16, 17] (.e 18 [] .done .stop))
def sch69_1 : V.Sched := (sv [0, 1, 3, 4] (.e 2 [4] (.e 5 [] (sv [6] (.e 7 [] .done .stop)) .stop) .stop))
def sch71_11 : V.Sched := (sv [0, 1, 2, 3, 4, 5, 6, 7] (.e 8 [] .done .stop))
def sch71_15 : V.Sched := (sv [0, 1, 2, 3, 4, 5, 6, 7] (.e 8 [] .done .stop))
def sch72_0 : V.Sched := (sv [0, 1, 2, 3, 4, 5, 7] (.e 6 [0, 7] (.e 8 [] .done .stop) .stop))
def sch77_5 : V.Sched := (sv [0, 1, 2, 3, 4, 5] (.e 6 [] (.e 7 [] .done .stop) .stop))
def sch86_4 : V.Sched := (sv [0] (.e 1 [] (sv [2, 3, 4, 5, 6, 7, 8, 9, 10, 11, 12, 13, 14, 15, 16, 17, 18, 19] (.e 20 [] (sv [21, 22, 23] .done) .stop)) .stop))
def sch107_1 : V.Sched := (sv [0, 1, 2, 3, 5, 6, 7, 8] (.e 4 [6, 8] (.e 9 [] (sv [10] (.e 11 [] (sv [12] (.e 13 [] .done .stop)) .stop)) .stop) .stop))
def sch111_7 : V.Sched := (sv [0, 1, 2, 3, 4, 5, 6, 7, 8] .done)
def sch111_25 : V.Sched := (sv [0, 1, 2, 3, 4, 5, 6] (.e 7 [] (sv [8] (.e 9 [] .done .stop)) .stop))
def sch111_33 : V.Sched := (sv [0, 1, 2, 3, 4, 5, 6, 7, 8] .done)
def sch112_29 : V.Sched := (sv [0, 1, 2, 3, 4] (.e 5 [4] (.e 6 [4] (.e 7 [] .done .stop) .stop) .stop))
def sch112_30 : V.Sched := (sv [0, 1, 2, 3, 4] (.e 5 [4] (.e 6 [] (.e 7 [] .done .stop) .stop) .stop))
def sch113_1 : V.Sched := (sv [0, 1, 2, 3, 4, 5, 6, 7, 8] (.e 9 [] (.e 10 [] (.e 11 [] .done .stop) .stop) .stop))
def sch114_6 : V.Sched := (sv [0, 1, 2, 3, 4, 5, 6, 7] (.e 8 [] (sv [9] .done) .stop))
def sch121_1 : V.Sched := (sv [0, 1, 2, 3, 5, 6, 7, 8] (.e 4 [6, 8] (.e 9 [] (sv [10] (.e 11 [] .done .stop)) .stop) .stop))
def sch126_17 : V.Sched := (sv [0, 1, 2, 3, 4, 5, 6, 7, 8, 9, 10, 11] (.e 12 [] (sv [13, 14] .done) .stop))
def sch130_1 : V.Sched := (sv [0, 1, 4, 5] (.e 2 [5] (.e 3 [5] (.e 6 [] (.e 7 [] (.e 8 [] (.e 9 [] .done .stop) .stop) .stop) .stop) .stop) .stop))
def sch131_1 : V.Sched := (sv [0, 1, 2, 3, 5, 6, 7, 8] (.e 4 [6, 8] (.e 9 [] (sv [10] (.e 11 [] .done .stop)) .stop) .stop))
def sch137_4 : V.Sched := (sv [0, 1, 2, 3, 4, 5, 6, 7, 8, 9] .done)
def sch145_3 : V.Sched := (sv [0, 1, 2, 3, 4, 5, 6, 7, 8] (.e 9 [] (sv [10, 11, 12, 13] (.e 14 [] (.e 15 [] (.e 16 [] .done .stop) .stop) .stop)) .stop))
def sch152_4 : V.Sched := (sv [0, 1, 2, 3, 4, 5, 6, 7, 8, 9, 10, 11, 12] (.e 13 [] (sv [14] .done) .stop))
def sch152_6 : V.Sched := (sv [0, 1, 2, 3, 4, 5, 6, 7, 8, 9, 10, 11, 12, 13, 14] (.e 15 [] (sv [16] (.e 17 [] .done .stop)) .stop))
def sch153_10 : V.Sched := (sv [0, 1, 2, 3, 4, 5, 6, 7, 8, 9, 10, 11, 12, 13, 14, 15, 16] (.e 17 [] (sv [18] (.e 19 [] .done .stop)) .stop))
def sch154_10 : V.Sched := (sv [0, 1, 2, 3, 4, 5, 6, 7, 8, 9, 10, 11, 12, 13, 14, 15, 16] (.e 17 [] (sv [18] (.e 19 [] .done .stop)) .stop))
def sch156_3 : V.Sched := (sv [0, 1, 2, 3, 4, 5, 6, 7, 8, 9, 10, 11, 12] (.e 13 [] (sv [14] (.e 15 [] .done .stop)) .stop))
def sch157_5 : V.Sched := (sv [0, 1, 2, 3, 4, 5, 6, 7, 8, 9, 10, 11, 12] (.e 13 [] (sv [14, 15] .done) .stop))
def sch157_11 : V.Sched := (sv [0, 1, 2, 3, 4, 5, 6, 7, 8, 9, 10, 11, 12, 13, 14] (.e 15 [] (sv [16] (.e 17 [] .done .stop)) .stop))
def sch157_16 : V.Sched := (sv [0, 1, 2, 3, 4, 5, 6, 7, 8] (.e 9 [] (sv [10] .done) .stop))
def sch157_17 : V.Sched := (sv [0, 1, 2, 3, 4, 5, 6, 7, 8, 9, 10, 11, 12, 13, 14] (.e 15 [] (sv [16] (.e 17 [] .done .stop)) .stop))
def sch157_22 : V.Sched := (sv [0, 1, 2, 3, 4, 5, 6, 7, 8] (.e 9 [] (sv [10] .done) .stop))
def sch157_23 : V.Sched := (sv [0, 1, 2, 3, 4, 5, 6, 7, 8, 9, 10, 11, 12, 13, 14] (.e 15 [] (sv [16] (.e 17 [] .done .stop)) .stop))
def sch158_1 : V.Sched := (sv [0, 1, 2, 3, 4, 5, 6, 7, 8, 9, 10, 11, 12] (.e 13 [] (sv [14] (.e 15 [] .done .stop)) .stop))
def sch158_3 : V.Sched := (sv [0, 1, 2, 3, 4, 5, 6, 7, 8, 9, 10, 11] (.e 12 [] (sv [13, 14] .done) .stop))
def sch158_5 : V.Sched := (sv [0, 1, 2, 3, 4, 5, 6, 7, 8, 9, 10, 11] (.e 12 [] (sv [13] .done) .stop))
def sch158_8 : V.Sched := (sv [0, 1, 2, 3, 4, 5, 6, 7, 8, 9, 10, 11, 12] (.e 13 [] (sv [14] (.e 15 [] .done .stop)) .stop))
def sch159_1 : V.Sched := (sv [0, 1, 2, 3, 4, 5, 6, 7, 8, 9, 10, 11, 12] (.e 13 [] (sv [14] (.e 15 [] .done .stop)) .stop))
def sch159_3 : V.Sched := (sv [0, 1, 2, 3, 4, 5, 6, 7, 8, 9, 10, 11] (.e 12 [] (sv [13] .done) .stop))
def sch159_5 : V.Sched := (sv [0, 1, 2, 3, 4, 5, 6, 7, 8, 9, 10, 11] (.e 12 [] (sv [13, 14] .done) .stop))
def sch159_8 : V.Sched := (sv [0, 1, 2, 3, 4, 5, 6, 7, 8, 9, 10, 11, 12] (.e 13 [] (sv [14] (.e 15 [] .done .stop)) .stop))
def sch159_10 : V.Sched := (sv [0, 1, 2, 3, 4, 5, 6, 7, 8, 9, 10, 11, 12] (.e 13 [] (sv [14] (.e 15 [] .done .stop)) .stop))
def sch159_13 : V.Sched := (sv [0, 1, 2, 3, 4, 5, 6, 7, 8, 9, 10, 11] (.e 12 [] (sv [13] .done) .stop))
def sch159_15 : V.Sched := (sv [0, 1, 2, 3, 4, 5, 6, 7, 8, 9, 10, 11] (.e 12 [] (sv [13, 14] .done) .stop))
def sch159_18 : V.Sched := (sv [0, 1, 2, 3, 4, 5, 6, 7, 8, 9, 10, 11, 12] (.e 13 [] (sv [14] (.e 15 [] .done .stop)) .stop))
def sch159_21 : V.Sched := (sv [0, 1, 2, 3, 4, 5, 6, 7, 8, 9, 10, 11, 12] (.e 13 [] (sv [14] (.e 15 [] .done .stop)) .stop))
def sch166_4 : V.Sched := (sv [0, 1, 2, 3, 4] (.e 5 [3] (sv [6] (.e 7 [] .done .stop)) .stop))
def sch166_7 : V.Sched := (sv [0, 1, 2, 3, 4] (.e 5 [3] (sv [6] (.e 7 [] .done .stop)) .stop))
def sch166_13 : V.Sched := (sv [0, 1, 2, 3, 4, 5, 6] (.e 7 [3, 5] (sv [8] (.e 9 [5] (sv [10] (.e 11 [] .done .stop)) .stop)) .stop))
def sch166_19 : V.Sched := (sv [0, 1, 2, 3, 4] (.e 5 [3] (sv [6] (.e 7 [] .done .stop)) .stop))
def sch166_22 : V.Sched := (sv [0, 1, 2, 3, 4] (.e 5 [3] (sv [6] (.e 7 [] .done .stop)) .stop))
def sch170_3 : V.Sched := (sv [0, 1, 2, 3, 4, 5, 6, 7, 8, 9, 10, 11, 12] (.e 13 [] (sv [14] (.e 15 [] .done .stop)) .stop))
def sch172_3 : V.Sched := (sv [0, 1, 2, 3, 4, 5, 6, 7, 8, 9, 10, 11, 12, 13, 14, 15, 16, 17] (.e 18 [] (sv [19] .done) .stop))
def sch172_5 : V.Sched := (sv [0, 1, 2, 3, 4, 5, 6, 7, 8, 9, 10, 11] (.e 12 [] (sv [13] .done) .stop))
def sch172_6 : V.Sched := (sv [0, 1, 2, 3, 4, 5, 6, 7, 8, 9, 10, 11, 12, 13, 14, 15, 16, 17, 18, 19, 20] (.e 21 [] (sv [22] (.e 23 [] .done .stop)) .stop))
def sch174_1 : V.Sched := (sv [0, 1, 2, 3, 4, 5, 6, 7, 8] (.e 9 [] .done .stop))
def sch174_2 : V.Sched := (sv [0, 1, 2, 3, 4, 5, 6, 7, 8] (.e 9 [] .done .stop))
def sch174_3 : V.Sched := (sv [0, 1, 2, 3, 4, 5, 6, 7, 8] (.e 9 [] .done .stop))
def sch182_1 : V.Sched := (sv [0, 1, 2, 3, 4, 5, 6, 7] (.e 8 [] .done .stop))
end Go.Proofs
namespace Go.Proofs
open Go Go.V
set_option linter.unusedVariables false

theorem infoOK : InfoOK Try.prog infoTree.get := Tr.ok _ infoTree_ok
def cfg (n : Nat) (G : List Nat := []) (W : List Nat := []) : Cfg := { n := n, I := infoTree.get, G := G, W := W }
end Go.Proofs
namespace Go.Proofs
open Go Go.V
set_option linter.unusedVariables false

theorem startSum_spec (st : Store) (R : AV → Store → Prop) (h : R (u64 14695981039346656037) st) : ACalls Try.prog 46 [] st R := by
  refine ACalls.of_body (c := cfg 1) infoOK Try.func46 (by rfl) (by rfl) (by rfl) (by rfl) ?_
  exact ⟨_, st, AV.le_refl _, Store.Has.refl st, h⟩

theorem put_spec (n : Int) (st0 st : Store) (v : AV) (rows : List (List AV)) (ha : App 1 st0 v rows st) (hr : rows.length ≤ 100000000000000) (hn : n ≤ 9223372036854775807) (R : AV → Store → Prop)
    (h : ∀ v' st', App 1 st0 v' (rows ++ rowsB (putZ n)) st' → R v' st') : ACalls Try.prog 44 [v, int n] st R := by
  refine ACalls.of_body (c := cfg 20) infoOK Try.func44 (by rfl) (by rfl) (by rfl) (by rfl) ?_
  refine AWp.loop (σ := AV × Int × List (List AV)) ⟨fun s => [(0, .av s.1), (1, .av (int s.2.1))], fun _ => [], fun s st' => App 1 st0 s.1 s.2.2 st' ∧ s.2.2 ++ rowsB (putZ s.2.1) = rows ++ rowsB (putZ n), fun s => s.2.1.toNat⟩ infoOK ?_ ?_
  · exact ⟨(v, n, rows), trivial, ⟨ha, rfl⟩, ⟨LV.le_refl _, LV.le_refl _, trivial⟩, trivial⟩
  · rintro ⟨v, m, rs⟩ st ⟨ha, heq⟩
    simp only at ha heq
    have hrs : rs.length ≤ rows.length + 9 := by
      have h1 := congrArg List.length heq
      simp only [List.length_append, rws_len] at h1
      have := putZ_len hn
      omega
    refine bcase_intro (fun h1 => ?_) (fun h1 => ?_)
    · have h1 : 128 ≤ m := by simpa using h1
      refine ⟨by decide, ?_⟩
      refine appendK_app (ie := ti5) (rows' := [[.s (.int .u8 (bitsOf .or .u8 (IntKind.u8.wrap m) 128))]]) ha ?_ ?_ ⟨?_, ?_⟩ (fun v2 st2 ha2 => ?_)
      · rfl
      · rfl
      · simp [ti5]; omega
      · simp; omega
      · refine ⟨by decide, ?_⟩
        refine ⟨(v2, m.fdiv (2 ^ (min (7 : Int).toNat IntKind.i64.bits)), _), ?_, ⟨ha2, ?_⟩, ⟨LV.le_refl _, LV.le_refl _, trivial⟩, trivial⟩
        · show (m.fdiv (2 ^ (min (7 : Int).toNat IntKind.i64.bits))).toNat < m.toNat
          rw [shr7]
          omega
        · show (rs ++ _) ++ rowsB (putZ (m.fdiv (2 ^ (min (7 : Int).toNat IntKind.i64.bits)))) = _
          rw [shr7, or128, ← heq, putZ_big h1, List.append_assoc]
          rfl
    · have h1 : m < 128 := by simpa using h1
      refine ⟨by decide, ?_⟩
      refine appendK_app (ie := ti5) (rows' := [[.s (.int .u8 (IntKind.u8.wrap m))]]) ha ?_ ?_ ⟨?_, ?_⟩ (fun v2 st2 ha2 => ?_)
      · rfl
      · rfl
      · simp [ti5]; omega
      · simp; omega
      · refine ⟨_, st2, AV.le_refl _, Store.Has.refl st2, h _ _ ?_⟩
        rw [← heq, putZ_small h1]
        rw [lowB_wrap] at ha2
        exact ha2

/-- The same of bytes. -/
theorem putB (n : Int) {st0 st : Store} {v : AV} {bs : List UInt8} (ha : App 1 st0 v (rowsB bs) st) (hr : bs.length ≤ 100000000000000) (hn : n ≤ 9223372036854775807) {R : AV → Store → Prop}
    (h : ∀ v' st', App 1 st0 v' (rowsB (bs ++ putZ n)) st' → R v' st') : ACalls Try.prog 44 [v, int n] st R :=
  put_spec n st0 st v _ ha (by rw [rws_len]; exact hr) hn R fun v' st' h' => h v' st' (by rw [rws_app] at h'; exact h')

/-- An append of bytes. -/
theorem appB {n : Nat} {G W : List Nat} {st0 st : Store} {v : AV} {x : LV} {bs l : List UInt8} {K : AV → Store → Prop} (ha : App 1 st0 v (rowsB bs) st) (hx : srcRows 1 x = some (rowsB l)) (hr : bs.length + l.length ≤ 100000000000010)
    (h : ∀ v' st', App 1 st0 v' (rowsB (bs ++ l)) st' → K v' st') : appendK (cfg n G W) st 5 (.av v) x K := by
  refine appendK_app (ie := ti5) (rows' := rowsB l) ha ?_ hx ⟨?_, ?_⟩ (fun v2 st2 ha2 => ?_)
  · rfl
  · simp [rws_len, ti5]; omega
  · simp [rws_len]; omega
  · rw [rws_app] at ha2
    exact h _ _ ha2
end Go.Proofs
namespace Go.Proofs
open Go Go.V
set_option linter.unusedVariables false

theorem copyBytes_spec (l : List UInt8) (hl : l.length ≤ 1000000000000) (st : Store) (R : AV → Store → Prop) (h : R (lst 1 u8C l) st) : ACalls Try.prog 20 [lst 1 u8C l] st R := by
  refine ACalls.of_body (c := cfg 19) infoOK Try.func20 (by rfl) (by rfl) (by rfl) (by rfl) ?_
  refine AWp.loop (σ := Nat × AV) ⟨fun s => [(0, .av (lst 1 u8C l)), (3, .av s.2), (4, .av (int s.1))], fun _ => [], fun s st' => s.1 ≤ l.length ∧ App 1 st s.2 (rws u8C (l.take s.1)) st', fun s => l.length - s.1⟩ infoOK ?_ ?_
  · exact ⟨(0, _), trivial, ⟨Nat.zero_le _, App.start 1 st⟩, ⟨LV.le_refl _, LV.le_refl _, LV.le_refl _, trivial⟩, trivial⟩
  · rintro ⟨i, v⟩ st' ⟨hi, ha⟩
    simp only at hi
    refine bcase_intro (fun h1 => ?_) (fun h1 => ?_)
    · have hlt : i < l.length := lt_len h1
      refine ⟨i, rfl, optK_intro _ (rws_get hlt) ?_⟩
      refine ⟨by decide, ?_⟩
      refine appendK_app (ie := ti5) (rows' := [u8C l[i]]) ha ?_ ?_ ⟨?_, ?_⟩ (fun v2 st2 ha2 => ?_)
      · rfl
      · rfl
      · simp [rws_len, ti5]; omega
      · simp [rws_len]; omega
      · refine ⟨⟨by omega, by omega⟩, ?_⟩
        refine ⟨(i + 1, v2), ?_, ⟨hlt, ?_⟩, ⟨LV.le_refl _, LV.le_refl _, LV.le_refl _, trivial⟩, trivial⟩
        · show l.length - (i + 1) < l.length - i
          omega
        · rw [← rws_snoc hlt]; exact ha2
    · have hge : i = l.length := ge_len h1 hi
      subst hge
      refine ⟨_, st, AV.le_trans ha.le ?_, ha.has, h⟩
      rw [List.take_length]
      exact AV.le_refl _

theorem copyNumbers_spec (l : List Int) (hl : l.length ≤ 1000000000000) (st : Store) (R : AV → Store → Prop) (h : R (lst 1 intC l) st) : ACalls Try.prog 79 [lst 1 intC l] st R := by
  refine ACalls.of_body (c := cfg 19) infoOK Try.func79 (by rfl) (by rfl) (by rfl) (by rfl) ?_
  refine AWp.loop (σ := Nat × AV) ⟨fun s => [(0, .av (lst 1 intC l)), (3, .av s.2), (4, .av (int s.1))], fun _ => [], fun s st' => s.1 ≤ l.length ∧ App 1 st s.2 (rws intC (l.take s.1)) st', fun s => l.length - s.1⟩ infoOK ?_ ?_
  · exact ⟨(0, _), trivial, ⟨Nat.zero_le _, App.start 1 st⟩, ⟨LV.le_refl _, LV.le_refl _, LV.le_refl _, trivial⟩, trivial⟩
  · rintro ⟨i, v⟩ st' ⟨hi, ha⟩
    simp only at hi
    refine bcase_intro (fun h1 => ?_) (fun h1 => ?_)
    · have hlt : i < l.length := lt_len h1
      refine ⟨i, rfl, optK_intro _ (rws_get hlt) ?_⟩
      refine ⟨by decide, ?_⟩
      refine appendK_app (ie := ti3) (rows' := [intC l[i]]) ha ?_ ?_ ⟨?_, ?_⟩ (fun v2 st2 ha2 => ?_)
      · rfl
      · rfl
      · simp [rws_len, ti3]; omega
      · simp [rws_len]; omega
      · refine ⟨⟨by omega, by omega⟩, ?_⟩
        refine ⟨(i + 1, v2), ?_, ⟨hlt, ?_⟩, ⟨LV.le_refl _, LV.le_refl _, LV.le_refl _, trivial⟩, trivial⟩
        · show l.length - (i + 1) < l.length - i
          omega
        · rw [← rws_snoc hlt]; exact ha2
    · have hge : i = l.length := ge_len h1 hi
      subst hge
      refine ⟨_, st, AV.le_trans ha.le ?_, ha.has, h⟩
      rw [List.take_length]
      exact AV.le_refl _


theorem copyGround_spec (g : Gnd) (hg : g.fits) (st : Store) (R : AV → Store → Prop) (h : R (.agg (gndC g)) st) : ACalls Try.prog 39 [.agg (gndC g)] st R := by
  refine ACalls.of_body (c := cfg 10) infoOK Try.func39 (by rfl) (by rfl) (by rfl) (by rfl) ?_
  refine copyBytes_spec g.T hg _ _ ?_
  exact ⟨_, st, AV.le_refl _, Store.Has.refl st, h⟩

theorem copyCommand_spec (c : Cmd) (hc : c.fits) (st : Store) (R : AV → Store → Prop) (h : R (.agg (cmdC c)) st) : ACalls Try.prog 165 [.agg (cmdC c)] st R := by
  refine ACalls.of_body (c := cfg 10) infoOK Try.func165 (by rfl) (by rfl) (by rfl) (by rfl) ?_
  refine copyNumbers_spec c.U hc _ _ ?_
  exact ⟨_, st, AV.le_refl _, Store.Has.refl st, h⟩

theorem copyCommands_spec (l : List Cmd) (hl : l.length ≤ 1000000000000) (hf : ∀ x ∈ l, Cmd.fits x) (st : Store) (R : AV → Store → Prop) (h : R (lst 10 cmdC l) st) : ACalls Try.prog 133 [lst 10 cmdC l] st R := by
  refine ACalls.of_body (c := cfg 20) infoOK Try.func133 (by rfl) (by rfl) (by rfl) (by rfl) ?_
  refine AWp.loop (σ := Nat × AV) ⟨fun s => [(0, .av (lst 10 cmdC l)), (3, .av s.2), (4, .av (int s.1))], fun _ => [], fun s st' => s.1 ≤ l.length ∧ App 10 st s.2 (rws cmdC (l.take s.1)) st', fun s => l.length - s.1⟩ infoOK ?_ ?_
  · exact ⟨(0, _), trivial, ⟨Nat.zero_le _, App.start 10 st⟩, ⟨LV.le_refl _, LV.le_refl _, LV.le_refl _, trivial⟩, trivial⟩
  · rintro ⟨i, v⟩ st' ⟨hi, ha⟩
    simp only at hi
    refine bcase_intro (fun h1 => ?_) (fun h1 => ?_)
    · have hlt : i < l.length := lt_len h1
      refine ⟨i, rfl, optK_intro _ (rws_get hlt) ?_⟩
      refine copyCommand_spec l[i] (hf _ (List.getElem_mem hlt)) st' _ ?_
      refine ⟨by decide, ?_⟩
      refine appendK_app (ie := ti84) (rows' := [cmdC l[i]]) ha ?_ ?_ ⟨?_, ?_⟩ (fun v2 st2 ha2 => ?_)
      · rfl
      · rfl
      · simp [rws_len, ti84]; omega
      · simp [rws_len]; omega
      · refine ⟨⟨by omega, by omega⟩, ?_⟩
        refine ⟨(i + 1, v2), ?_, ⟨hlt, ?_⟩, ⟨LV.le_refl _, LV.le_refl _, LV.le_refl _, trivial⟩, trivial⟩
        · show l.length - (i + 1) < l.length - i
          omega
        · rw [← rws_snoc hlt]; exact ha2
    · have hge : i = l.length := ge_len h1 hi
      subst hge
      refine ⟨_, st, AV.le_trans ha.le ?_, ha.has, h⟩
      rw [List.take_length]
      exact AV.le_refl _


theorem copyFrame_spec (f : Frm) (hf : f.fits) (st : Store) (R : AV → Store → Prop) (h : R (.agg (frmC f)) st) : ACalls Try.prog 84 [.agg (frmC f)] st R := by
  refine ACalls.of_body (c := cfg 10) infoOK Try.func84 (by rfl) (by rfl) (by rfl) (by rfl) ?_
  refine copyCommands_spec f.C hf.1 hf.2 _ _ ?_
  exact ⟨_, st, AV.le_refl _, Store.Has.refl st, h⟩

theorem copyFrames_spec (l : List Frm) (hl : l.length ≤ 1000000000000) (hf : ∀ x ∈ l, Frm.fits x) (st : Store) (R : AV → Store → Prop) (h : R (lst 3 frmC l) st) : ACalls Try.prog 40 [lst 3 frmC l] st R := by
  refine ACalls.of_body (c := cfg 20) infoOK Try.func40 (by rfl) (by rfl) (by rfl) (by rfl) ?_
  refine AWp.loop (σ := Nat × AV) ⟨fun s => [(0, .av (lst 3 frmC l)), (3, .av s.2), (4, .av (int s.1))], fun _ => [], fun s st' => s.1 ≤ l.length ∧ App 3 st s.2 (rws frmC (l.take s.1)) st', fun s => l.length - s.1⟩ infoOK ?_ ?_
  · exact ⟨(0, _), trivial, ⟨Nat.zero_le _, App.start 3 st⟩, ⟨LV.le_refl _, LV.le_refl _, LV.le_refl _, trivial⟩, trivial⟩
  · rintro ⟨i, v⟩ st' ⟨hi, ha⟩
    simp only at hi
    refine bcase_intro (fun h1 => ?_) (fun h1 => ?_)
    · have hlt : i < l.length := lt_len h1
      refine ⟨i, rfl, optK_intro _ (rws_get hlt) ?_⟩
      refine copyFrame_spec l[i] (hf _ (List.getElem_mem hlt)) st' _ ?_
      refine ⟨by decide, ?_⟩
      refine appendK_app (ie := ti53) (rows' := [frmC l[i]]) ha ?_ ?_ ⟨?_, ?_⟩ (fun v2 st2 ha2 => ?_)
      · rfl
      · rfl
      · simp [rws_len, ti53]; omega
      · simp [rws_len]; omega
      · refine ⟨⟨by omega, by omega⟩, ?_⟩
        refine ⟨(i + 1, v2), ?_, ⟨hlt, ?_⟩, ⟨LV.le_refl _, LV.le_refl _, LV.le_refl _, trivial⟩, trivial⟩
        · show l.length - (i + 1) < l.length - i
          omega
        · rw [← rws_snoc hlt]; exact ha2
    · have hge : i = l.length := ge_len h1 hi
      subst hge
      refine ⟨_, st, AV.le_trans ha.le ?_, ha.has, h⟩
      rw [List.take_length]
      exact AV.le_refl _


theorem copyReplay_spec (r : Rep) (hr : r.fits) (st : Store) (R : AV → Store → Prop) (h : R (.agg (repC r)) st) : ACalls Try.prog 12 [.agg (repC r)] st R := by
  refine ACalls.of_body (c := cfg 14) infoOK Try.func12 (by rfl) (by rfl) (by rfl) (by rfl) ?_
  refine copyGround_spec r.G hr.1 _ _ ?_
  refine copyFrames_spec r.F hr.2.1 hr.2.2 _ _ ?_
  exact ⟨_, st, AV.le_refl _, Store.Has.refl st, h⟩

theorem eqBytes_spec (a b : List UInt8) (ha : a.length ≤ 1000000000000) (st : Store) (R : AV → Store → Prop) (h : R (bool (decide (a = b))) st) : ACalls Try.prog 17 [lst 1 u8C a, lst 1 u8C b] st R := by
  refine ACalls.of_body (c := cfg 26) infoOK Try.func17 (by rfl) (by rfl) (by rfl) (by rfl) ?_
  refine bcase_intro (fun h1 => ?_) (fun h1 => ?_)
  · have : a ≠ b := fun h2 => ne_len h1 (by rw [h2])
    rw [show decide (a = b) = false by simp [this]] at h
    exact ⟨_, st, AV.le_refl _, Store.Has.refl st, h⟩
  · have hl : a.length = b.length := eq_len h1
    refine AWp.loop (σ := Nat) ⟨fun i => [(0, .av (lst 1 u8C a)), (1, .av (lst 1 u8C b)), (5, .av (int i))], fun _ => [], fun i st' => i ≤ a.length ∧ a.take i = b.take i ∧ st' = st, fun i => a.length - i⟩ infoOK ?_ ?_
    · exact ⟨0, trivial, ⟨Nat.zero_le _, rfl, rfl⟩, ⟨LV.le_refl _, LV.le_refl _, LV.le_refl _, trivial⟩, trivial⟩
    · rintro i st' ⟨hi, heq, hst⟩
      refine bcase_intro (fun h2 => ?_) (fun h2 => ?_)
      · have hlt : i < a.length := lt_len h2
        have hltb : i < b.length := by omega
        refine ADraw.of_sched infoOK (by rfl) (by rfl) sch17_6 (by rfl) ?_
        refine ⟨i, rfl, optK_intro _ (rws_get hlt) ?_⟩
        refine ⟨i, rfl, optK_intro _ (rws_get hltb) ?_⟩
        refine bcase_intro (fun h3 => ?_) (fun h3 => ?_)
        · have hne : a[i] ≠ b[i] := by
            intro h4
            rw [h4] at h3
            simp at h3
          have : a ≠ b := by
            intro h4
            subst h4
            exact hne rfl
          rw [show decide (a = b) = false by simp [this]] at h
          subst hst
          exact ⟨_, st', AV.le_refl _, Store.Has.refl st', h⟩
        · refine ⟨⟨by omega, by omega⟩, ?_⟩
          refine ⟨i + 1, ?_, ⟨hlt, ?_, hst⟩, ⟨LV.le_refl _, LV.le_refl _, LV.le_refl _, trivial⟩, trivial⟩
          · show a.length - (i + 1) < a.length - i
            omega
          · rw [List.take_succ_eq_append_getElem hlt, List.take_succ_eq_append_getElem hltb, heq]
            have : a[i] = b[i] := UInt8.toNat_inj.1 (by have := h3; simp at this; omega)
            rw [this]
      · have hge : i = a.length := ge_len h2 hi
        subst hge hst
        have : a = b := by
          rw [List.take_length, hl, List.take_length] at heq
          exact heq
        rw [show decide (a = b) = true by simp [this]] at h
        exact ⟨_, st', AV.le_refl _, Store.Has.refl st', h⟩

theorem eqNumbers_spec (a b : List Int) (ha : a.length ≤ 1000000000000) (st : Store) (R : AV → Store → Prop) (h : R (bool (decide (a = b))) st) : ACalls Try.prog 34 [lst 1 intC a, lst 1 intC b] st R := by
  refine ACalls.of_body (c := cfg 26) infoOK Try.func34 (by rfl) (by rfl) (by rfl) (by rfl) ?_
  refine bcase_intro (fun h1 => ?_) (fun h1 => ?_)
  · have : a ≠ b := fun h2 => ne_len h1 (by rw [h2])
    rw [show decide (a = b) = false by simp [this]] at h
    exact ⟨_, st, AV.le_refl _, Store.Has.refl st, h⟩
  · have hl : a.length = b.length := eq_len h1
    refine AWp.loop (σ := Nat) ⟨fun i => [(0, .av (lst 1 intC a)), (1, .av (lst 1 intC b)), (5, .av (int i))], fun _ => [], fun i st' => i ≤ a.length ∧ a.take i = b.take i ∧ st' = st, fun i => a.length - i⟩ infoOK ?_ ?_
    · exact ⟨0, trivial, ⟨Nat.zero_le _, rfl, rfl⟩, ⟨LV.le_refl _, LV.le_refl _, LV.le_refl _, trivial⟩, trivial⟩
    · rintro i st' ⟨hi, heq, hst⟩
      refine bcase_intro (fun h2 => ?_) (fun h2 => ?_)
      · have hlt : i < a.length := lt_len h2
        have hltb : i < b.length := by omega
        refine ADraw.of_sched infoOK (by rfl) (by rfl) sch34_6 (by rfl) ?_
        refine ⟨i, rfl, optK_intro _ (rws_get hlt) ?_⟩
        refine ⟨i, rfl, optK_intro _ (rws_get hltb) ?_⟩
        refine bcase_intro (fun h3 => ?_) (fun h3 => ?_)
        · have hne : a[i] ≠ b[i] := by
            intro h4
            rw [h4] at h3
            simp at h3
          have : a ≠ b := by
            intro h4
            subst h4
            exact hne rfl
          rw [show decide (a = b) = false by simp [this]] at h
          subst hst
          exact ⟨_, st', AV.le_refl _, Store.Has.refl st', h⟩
        · refine ⟨⟨by omega, by omega⟩, ?_⟩
          refine ⟨i + 1, ?_, ⟨hlt, ?_, hst⟩, ⟨LV.le_refl _, LV.le_refl _, LV.le_refl _, trivial⟩, trivial⟩
          · show a.length - (i + 1) < a.length - i
            omega
          · rw [List.take_succ_eq_append_getElem hlt, List.take_succ_eq_append_getElem hltb, heq]
            have : a[i] = b[i] := by simpa using h3
            rw [this]
      · have hge : i = a.length := ge_len h2 hi
        subst hge hst
        have : a = b := by
          rw [List.take_length, hl, List.take_length] at heq
          exact heq
        rw [show decide (a = b) = true by simp [this]] at h
        exact ⟨_, st', AV.le_refl _, Store.Has.refl st', h⟩


set_option maxRecDepth 4000 in
theorem eqCommand_spec (a b : Cmd) (ha : a.fits) (st : Store) (R : AV → Store → Prop) (h : R (bool (decide (a = b))) st) : ACalls Try.prog 95 [.agg (cmdC a), .agg (cmdC b)] st R := by
  refine ACalls.of_body (c := cfg 66) infoOK Try.func95 (by rfl) (by rfl) (by rfl) (by rfl) ?_
  refine bcase_intro (fun h1 => ?_) (fun h1 => ⟨_, st, AV.le_refl _, Store.Has.refl st, isF h (decide_eq_false fun e => by subst e; simp at h1)⟩)
  refine bcase_intro (fun h2 => ?_) (fun h1 => ⟨_, st, AV.le_refl _, Store.Has.refl st, isF h (decide_eq_false fun e => by subst e; simp at h1)⟩)
  refine bcase_intro (fun h3 => ?_) (fun h1 => ⟨_, st, AV.le_refl _, Store.Has.refl st, isF h (decide_eq_false fun e => by subst e; simp at h1)⟩)
  refine bcase_intro (fun h4 => ?_) (fun h1 => ⟨_, st, AV.le_refl _, Store.Has.refl st, isF h (decide_eq_false fun e => by subst e; simp at h1)⟩)
  refine eqNumbers_spec a.U b.U ha _ _ ?_
  refine bcase_intro (fun h5 => ?_) (fun h1 => ⟨_, st, AV.le_refl _, Store.Has.refl st, isF h (decide_eq_false fun e => by subst e; simp at h1)⟩)
  refine bcase_intro (fun h6 => ?_) (fun h1 => ⟨_, st, AV.le_refl _, Store.Has.refl st, isF h (decide_eq_false fun e => by subst e; simp at h1)⟩)
  refine bcase_intro (fun h7 => ?_) (fun h1 => ⟨_, st, AV.le_refl _, Store.Has.refl st, isF h (decide_eq_false fun e => by subst e; simp at h1)⟩)
  refine bcase_intro (fun h8 => ?_) (fun h1 => ⟨_, st, AV.le_refl _, Store.Has.refl st, isF h (decide_eq_false fun e => by subst e; simp at h1)⟩)
  refine ⟨_, st, AV.le_refl _, Store.Has.refl st, ?_⟩
  have e : (a.X == b.X && (a.Y == b.Y && true)) = decide (a = b) := by
    rw [Bool.eq_iff_iff]
    simp only [beq_iff_eq, decide_eq_true_eq, Bool.and_eq_true, and_true] at *
    constructor
    · rintro ⟨h9, h10⟩
      cases a; cases b
      simp_all
    · rintro rfl
      exact ⟨rfl, rfl⟩
  rw [← e] at h
  exact h
end Go.Proofs
namespace Go.Proofs
open Go Go.V
set_option linter.unusedVariables false

theorem eqCommands_spec0 (a b : List Cmd) (ha : a.length ≤ 1000000000000) (hf : ∀ x ∈ a, Cmd.fits x) (st : Store) (R : AV → Store → Prop) (h : R (bool (decide (a = b))) st) : ACalls Try.prog 114 [lst 10 cmdC a, lst 10 cmdC b] st R := by
  refine ACalls.of_body (c := cfg 27) infoOK Try.func114 (by rfl) (by rfl) (by rfl) (by rfl) ?_
  refine bcase_intro (fun h1 => ?_) (fun h1 => ?_)
  · have : a ≠ b := fun h2 => ne_len h1 (by rw [h2])
    rw [show decide (a = b) = false by simp [this]] at h
    exact ⟨_, st, AV.le_refl _, Store.Has.refl st, h⟩
  · have hl : a.length = b.length := eq_len h1
    refine AWp.loop (σ := Nat) ⟨fun i => [(0, .av (lst 10 cmdC a)), (1, .av (lst 10 cmdC b)), (5, .av (int i))], fun _ => [], fun i st' => i ≤ a.length ∧ a.take i = b.take i ∧ st' = st, fun i => a.length - i⟩ infoOK ?_ ?_
    · exact ⟨0, trivial, ⟨Nat.zero_le _, rfl, rfl⟩, ⟨LV.le_refl _, LV.le_refl _, LV.le_refl _, trivial⟩, trivial⟩
    · rintro i st' ⟨hi, heq, hst⟩
      refine bcase_intro (fun h2 => ?_) (fun h2 => ?_)
      · have hlt : i < a.length := lt_len h2
        have hltb : i < b.length := by omega
        refine ADraw.of_sched infoOK (by rfl) (by rfl) sch114_6 (by rfl) ?_
        refine ⟨i, rfl, optK_intro _ (rws_get hlt) ?_⟩
        refine ⟨i, rfl, optK_intro _ (rws_get hltb) ?_⟩
        refine ⟨eqCommand_spec a[i] b[i] (hf _ (List.getElem_mem hlt)) st' _ ?_, trivial⟩
        refine ⟨trivial, ?_⟩
        refine bcase_intro (fun h3 => ?_) (fun h3 => ?_)
        · have hne : a[i] ≠ b[i] := by simpa using h3
          have : a ≠ b := by
            intro h4
            subst h4
            exact hne rfl
          rw [show decide (a = b) = false by simp [this]] at h
          subst hst
          exact ⟨_, st', AV.le_refl _, Store.Has.refl st', h⟩
        · refine ⟨⟨by omega, by omega⟩, ?_⟩
          refine ⟨i + 1, ?_, ⟨hlt, ?_, hst⟩, ⟨LV.le_refl _, LV.le_refl _, LV.le_refl _, trivial⟩, trivial⟩
          · show a.length - (i + 1) < a.length - i
            omega
          · rw [List.take_succ_eq_append_getElem hlt, List.take_succ_eq_append_getElem hltb, heq]
            have : a[i] = b[i] := by simpa using h3
            rw [this]
      · have hge : i = a.length := ge_len h2 hi
        subst hge hst
        have : a = b := by
          rw [List.take_length, hl, List.take_length] at heq
          exact heq
        rw [show decide (a = b) = true by simp [this]] at h
        exact ⟨_, st', AV.le_refl _, Store.Has.refl st', h⟩


theorem eqFrame_spec (a b : Frm) (ha : a.fits) (st : Store) (R : AV → Store → Prop) (h : R (bool (decide (a = b))) st) : ACalls Try.prog 68 [.agg (frmC a), .agg (frmC b)] st R := by
  refine ACalls.of_body (c := cfg 24) infoOK Try.func68 (by rfl) (by rfl) (by rfl) (by rfl) ?_
  refine bcase_intro (fun h1 => ?_) (fun h1 => ⟨_, st, AV.le_refl _, Store.Has.refl st, isF h (decide_eq_false fun e => by subst e; simp at h1)⟩)
  refine eqCommands_spec0 a.C b.C ha.1 ha.2 _ _ ?_
  refine bcase_intro (fun h2 => ?_) (fun h1 => ⟨_, st, AV.le_refl _, Store.Has.refl st, isF h (decide_eq_false fun e => by subst e; simp at h1)⟩)
  refine ⟨_, st, AV.le_refl _, Store.Has.refl st, ?_⟩
  have e : (a.hash == b.hash) = decide (a = b) := by
    rw [Bool.eq_iff_iff]
    simp only [beq_iff_eq, decide_eq_true_eq] at *
    constructor
    · intro h9
      cases a; cases b
      simp_all
    · rintro rfl
      rfl
  rw [← e] at h
  exact h

theorem eqFrames_spec (a b : List Frm) (ha : a.length ≤ 1000000000000) (hf : ∀ x ∈ a, Frm.fits x) (st : Store) (R : AV → Store → Prop) (h : R (bool (decide (a = b))) st) : ACalls Try.prog 23 [lst 3 frmC a, lst 3 frmC b] st R := by
  refine ACalls.of_body (c := cfg 27) infoOK Try.func23 (by rfl) (by rfl) (by rfl) (by rfl) ?_
  refine bcase_intro (fun h1 => ?_) (fun h1 => ?_)
  · have : a ≠ b := fun h2 => ne_len h1 (by rw [h2])
    rw [show decide (a = b) = false by simp [this]] at h
    exact ⟨_, st, AV.le_refl _, Store.Has.refl st, h⟩
  · have hl : a.length = b.length := eq_len h1
    refine AWp.loop (σ := Nat) ⟨fun i => [(0, .av (lst 3 frmC a)), (1, .av (lst 3 frmC b)), (5, .av (int i))], fun _ => [], fun i st' => i ≤ a.length ∧ a.take i = b.take i ∧ st' = st, fun i => a.length - i⟩ infoOK ?_ ?_
    · exact ⟨0, trivial, ⟨Nat.zero_le _, rfl, rfl⟩, ⟨LV.le_refl _, LV.le_refl _, LV.le_refl _, trivial⟩, trivial⟩
    · rintro i st' ⟨hi, heq, hst⟩
      refine bcase_intro (fun h2 => ?_) (fun h2 => ?_)
      · have hlt : i < a.length := lt_len h2
        have hltb : i < b.length := by omega
        refine ADraw.of_sched infoOK (by rfl) (by rfl) sch23_6 (by rfl) ?_
        refine ⟨i, rfl, optK_intro _ (rws_get hlt) ?_⟩
        refine ⟨i, rfl, optK_intro _ (rws_get hltb) ?_⟩
        refine ⟨eqFrame_spec a[i] b[i] (hf _ (List.getElem_mem hlt)) st' _ ?_, trivial⟩
        refine ⟨trivial, ?_⟩
        refine bcase_intro (fun h3 => ?_) (fun h3 => ?_)
        · have hne : a[i] ≠ b[i] := by simpa using h3
          have : a ≠ b := by
            intro h4
            subst h4
            exact hne rfl
          rw [show decide (a = b) = false by simp [this]] at h
          subst hst
          exact ⟨_, st', AV.le_refl _, Store.Has.refl st', h⟩
        · refine ⟨⟨by omega, by omega⟩, ?_⟩
          refine ⟨i + 1, ?_, ⟨hlt, ?_, hst⟩, ⟨LV.le_refl _, LV.le_refl _, LV.le_refl _, trivial⟩, trivial⟩
          · show a.length - (i + 1) < a.length - i
            omega
          · rw [List.take_succ_eq_append_getElem hlt, List.take_succ_eq_append_getElem hltb, heq]
            have : a[i] = b[i] := by simpa using h3
            rw [this]
      · have hge : i = a.length := ge_len h2 hi
        subst hge hst
        have : a = b := by
          rw [List.take_length, hl, List.take_length] at heq
          exact heq
        rw [show decide (a = b) = true by simp [this]] at h
        exact ⟨_, st', AV.le_refl _, Store.Has.refl st', h⟩


theorem eqGround_spec (a b : Gnd) (ha : a.fits) (st : Store) (R : AV → Store → Prop) (h : R (bool (decide (a = b))) st) : ACalls Try.prog 57 [.agg (gndC a), .agg (gndC b)] st R := by
  refine ACalls.of_body (c := cfg 24) infoOK Try.func57 (by rfl) (by rfl) (by rfl) (by rfl) ?_
  refine bcase_intro (fun h1 => ?_) (fun h1 => ⟨_, st, AV.le_refl _, Store.Has.refl st, isF h (decide_eq_false fun e => by subst e; simp at h1)⟩)
  refine bcase_intro (fun h2 => ?_) (fun h1 => ⟨_, st, AV.le_refl _, Store.Has.refl st, isF h (decide_eq_false fun e => by subst e; simp at h1)⟩)
  refine eqBytes_spec a.T b.T ha _ _ ?_
  refine ⟨_, st, AV.le_refl _, Store.Has.refl st, ?_⟩
  have e : decide (a.T = b.T) = decide (a = b) := by
    rw [Bool.eq_iff_iff]
    simp only [beq_iff_eq, decide_eq_true_eq] at *
    constructor
    · intro h9
      cases a; cases b
      simp_all
    · rintro rfl
      rfl
  rw [← e] at h
  exact h

theorem eqReplay_spec (a b : Rep) (ha : a.fits) (st : Store) (R : AV → Store → Prop) (h : R (bool (decide (a = b))) st) : ACalls Try.prog 18 [.agg (repC a), .agg (repC b)] st R := by
  refine ACalls.of_body (c := cfg 24) infoOK Try.func18 (by rfl) (by rfl) (by rfl) (by rfl) ?_
  refine bcase_intro (fun h1 => ?_) (fun h1 => ⟨_, st, AV.le_refl _, Store.Has.refl st, isF h (decide_eq_false fun e => by subst e; simp at h1)⟩)
  refine eqGround_spec a.G b.G ha.1 _ _ ?_
  refine bcase_intro (fun h2 => ?_) (fun h1 => ⟨_, st, AV.le_refl _, Store.Has.refl st, isF h (decide_eq_false fun e => by subst e; simp at h1)⟩)
  refine eqFrames_spec a.F b.F ha.2.1 ha.2.2 _ _ ?_
  refine ⟨_, st, AV.le_refl _, Store.Has.refl st, ?_⟩
  have e : decide (a.F = b.F) = decide (a = b) := by
    rw [Bool.eq_iff_iff]
    simp only [beq_iff_eq, decide_eq_true_eq] at *
    constructor
    · intro h9
      cases a; cases b
      simp_all
    · rintro rfl
      rfl
  rw [← e] at h
  exact h
end Go.Proofs
namespace Go.Proofs
open Go Go.V
set_option linter.unusedVariables false

theorem within_spec (n lo hi : Int) (st : Store) (R : AV → Store → Prop) (h : ∀ b : Bool, (b = true ↔ lo ≤ n ∧ n ≤ hi) → R (bool b) st) : ACalls Try.prog 167 [int n, int lo, int hi] st R := by
  refine ACalls.of_body (c := cfg 15) infoOK Try.func167 (by rfl) (by rfl) (by rfl) (by rfl) ?_
  refine bcase_intro (fun h1 => ?_) (fun h1 => ⟨_, st, AV.le_refl _, Store.Has.refl st, h _ ?_⟩)
  · refine ⟨_, st, AV.le_refl _, Store.Has.refl st, h _ ?_⟩
    simp at h1 ⊢; omega
  · simp at h1 ⊢; omega

theorem kindMay_spec (n : Int) (st : Store) (R : AV → Store → Prop) (h : ∀ b : Bool, (b = true ↔ 0 ≤ n ∧ n ≤ 3) → R (bool b) st) : ACalls Try.prog 179 [int n] st R := by
  refine ACalls.of_body (c := cfg 9) infoOK Try.func179 (by rfl) (by rfl) (by rfl) (by rfl) ?_
  refine bcase_intro (fun h1 => ?_) (fun h1 => ⟨_, st, AV.le_refl _, Store.Has.refl st, h _ ?_⟩)
  · refine ⟨_, st, AV.le_refl _, Store.Has.refl st, h _ ?_⟩
    simp at h1 ⊢; omega
  · simp at h1 ⊢; omega

theorem side_spec (n : Int) (st : Store) (R : AV → Store → Prop) (h : ∀ b : Bool, (b = true ↔ 1 ≤ n ∧ n ≤ 128) → R (bool b) st) : ACalls Try.prog 134 [int n] st R := by
  refine ACalls.of_body (c := cfg 9) infoOK Try.func134 (by rfl) (by rfl) (by rfl) (by rfl) ?_
  refine bcase_intro (fun h1 => ?_) (fun h1 => ⟨_, st, AV.le_refl _, Store.Has.refl st, h _ ?_⟩)
  · refine ⟨_, st, AV.le_refl _, Store.Has.refl st, h _ ?_⟩
    simp at h1 ⊢; omega
  · simp at h1 ⊢; omega

theorem num0_spec (n hi : Int) (st : Store) (R : AV → Store → Prop) (h : ∀ b : Bool, (b = true ↔ 0 ≤ n ∧ n ≤ hi) → R (bool b) st) : ACalls Try.prog 90 [int n, int hi] st R := by
  refine ACalls.of_body (c := cfg 12) infoOK Try.func90 (by rfl) (by rfl) (by rfl) (by rfl) ?_
  refine bcase_intro (fun h1 => ?_) (fun h1 => ⟨_, st, AV.le_refl _, Store.Has.refl st, h _ ?_⟩)
  · refine ⟨_, st, AV.le_refl _, Store.Has.refl st, h _ ?_⟩
    simp at h1 ⊢; omega
  · simp at h1 ⊢; omega

theorem tile_spec (n : Int) (st : Store) (R : AV → Store → Prop) (h : ∀ b : Bool, (b = true ↔ tileP n) → R (bool b) st) : ACalls Try.prog 93 [int n] st R := by
  refine ACalls.of_body (c := cfg 9) infoOK Try.func93 (by rfl) (by rfl) (by rfl) (by rfl) ?_
  refine bcase_intro (fun h1 => ?_) (fun h1 => ⟨_, st, AV.le_refl _, Store.Has.refl st, h _ ?_⟩)
  · refine ⟨_, st, AV.le_refl _, Store.Has.refl st, h _ ?_⟩
    unfold tileP
    simp at h1 ⊢; omega
  · unfold tileP
    simp at h1 ⊢; omega

theorem id_spec (n : Int) (st : Store) (R : AV → Store → Prop) (h : ∀ b : Bool, (b = true ↔ idP n) → R (bool b) st) : ACalls Try.prog 94 [int n] st R := by
  refine ACalls.of_body (c := cfg 9) infoOK Try.func94 (by rfl) (by rfl) (by rfl) (by rfl) ?_
  refine bcase_intro (fun h1 => ?_) (fun h1 => ⟨_, st, AV.le_refl _, Store.Has.refl st, h _ ?_⟩)
  · refine ⟨_, st, AV.le_refl _, Store.Has.refl st, h _ ?_⟩
    unfold idP
    simp at h1 ⊢; omega
  · unfold idP
    simp at h1 ⊢; omega

theorem place_spec (x y : Int) (st : Store) (R : AV → Store → Prop) (h : ∀ b : Bool, (b = true ↔ placeP x y) → R (bool b) st) : ACalls Try.prog 180 [.agg [int x, int y]] st R := by
  refine ACalls.of_body (c := cfg 21) infoOK Try.func180 (by rfl) (by rfl) (by rfl) (by rfl) ?_
  refine bcase_intro (fun h1 => ?_) (fun h1 => ⟨_, st, AV.le_refl _, Store.Has.refl st, h _ (by unfold placeP; simp at h1 ⊢; omega)⟩)
  refine bcase_intro (fun h2 => ?_) (fun h1 => ⟨_, st, AV.le_refl _, Store.Has.refl st, h _ (by unfold placeP; simp at h1 ⊢; omega)⟩)
  refine bcase_intro (fun h3 => ?_) (fun h1 => ⟨_, st, AV.le_refl _, Store.Has.refl st, h _ (by unfold placeP; simp at h1 ⊢; omega)⟩)
  refine ⟨_, st, AV.le_refl _, Store.Has.refl st, h _ ?_⟩
  unfold placeP
  simp at h1 h2 h3 ⊢; omega

theorem place17_spec (x y : Int) (st : Store) (R : AV → Store → Prop) (h : ∀ b : Bool, (b = true ↔ placeP x y) → R (bool b) st) : ACalls Try.prog 91 [.agg [int x, int y], int 0] st R := by
  refine ACalls.of_body (c := cfg 31) infoOK Try.func91 (by rfl) (by rfl) (by rfl) (by rfl) ?_
  refine bcase_intro (fun h1 => ?_) (fun h1 => ⟨_, st, AV.le_refl _, Store.Has.refl st, h _ (by unfold placeP; simp at h1 ⊢; omega)⟩)
  refine bcase_intro (fun h2 => ?_) (fun h1 => ⟨_, st, AV.le_refl _, Store.Has.refl st, h _ (by unfold placeP; simp at h1 ⊢; omega)⟩)
  refine bcase_intro (fun h3 => ?_) (fun h1 => ⟨_, st, AV.le_refl _, Store.Has.refl st, h _ (by unfold placeP; simp at h1 ⊢; omega)⟩)
  refine ⟨_, st, AV.le_refl _, Store.Has.refl st, h _ ?_⟩
  unfold placeP
  simp at h1 h2 h3 ⊢; omega

theorem isNaN_spec (x : Int) (st : Store) (R : AV → Store → Prop) (h : R (bool false) st) : ACalls Try.prog 147 [int x] st R := by
  refine ACalls.of_body (c := cfg 6) infoOK Try.func147 (by rfl) (by rfl) (by rfl) (by rfl) ?_
  refine ⟨_, st, AV.le_refl _, Store.Has.refl st, ?_⟩
  have e : (x != x) = false := by simp
  rw [← e] at h
  exact h

theorem compare_spec (x y : Int) (st : Store) (R : AV → Store → Prop) (h : R (int (cmpZ x y)) st) : ACalls Try.prog 143 [int x, int y] st R := by
  refine ACalls.of_body (c := cfg 20) infoOK Try.func143 (by rfl) (by rfl) (by rfl) (by rfl) ?_
  refine isNaN_spec _ _ _ ?_
  refine isNaN_spec _ _ _ ?_
  unfold cmpZ at h
  refine bcase_intro (fun h1 => ⟨_, st, AV.le_refl _, Store.Has.refl st, ?_⟩) (fun h1 => ?_)
  · rw [if_pos (by simpa using h1)] at h
    exact h
  · rw [if_neg (by simpa using h1)] at h
    refine bcase_intro (fun h2 => ⟨_, st, AV.le_refl _, Store.Has.refl st, ?_⟩) (fun h2 => ⟨_, st, AV.le_refl _, Store.Has.refl st, ?_⟩)
    · rw [if_pos (by simpa using h2)] at h
      exact h
    · rw [if_neg (by simpa using h2)] at h
      exact h

theorem or_spec (l : List Int) (hl : l.length ≤ 1000000) (st : Store) (R : AV → Store → Prop) (h : R (int (orZ l)) st) : ACalls Try.prog 142 [ints l] st R := by
  refine ACalls.of_body (c := cfg 18) infoOK Try.func142 (by rfl) (by rfl) (by rfl) (by rfl) ?_
  refine AWp.loop (σ := Nat) ⟨fun i => [(3, .av (int 0)), (6, .av (ints l)), (7, .av (int l.length)), (8, .av (int i))], fun _ => [], fun i st' => i ≤ l.length ∧ st' = st ∧ orZ (l.drop i) = orZ l, fun i => l.length - i⟩ infoOK ?_ ?_
  · refine ⟨0, trivial, ⟨Nat.zero_le _, rfl, rfl⟩, ⟨LV.le_refl _, LV.le_refl _, ?_, LV.le_refl _, trivial⟩, trivial⟩
    rw [← rws_len (f := intC) l]
    exact LV.le_refl _
  · rintro i st' ⟨hi, rfl, hor⟩
    refine bcase_intro (fun h1 => ?_) (fun h1 => ?_)
    · have hlt : i < l.length := by simpa using h1
      have hdrop : l.drop i = l[i] :: l.drop (i + 1) := by rw [List.drop_eq_getElem_cons hlt]
      refine ⟨i, rfl, optK_intro _ (rws_get hlt) ?_⟩
      refine bcase_intro (fun h2 => ⟨_, st', AV.le_refl _, Store.Has.refl st', ?_⟩) (fun h2 => ?_)
      · have h2 : l[i] ≠ 0 := by simpa using h2
        rw [← hor, hdrop] at h
        unfold orZ at h
        rw [List.find?_cons_of_pos (by simpa using h2)] at h
        exact h
      · have h2 : l[i] = 0 := by simpa using h2
        refine ⟨⟨by omega, by omega⟩, ?_⟩
        refine ⟨i + 1, ?_, ⟨hlt, rfl, ?_⟩, ⟨LV.le_refl _, LV.le_refl _, LV.le_refl _, LV.le_refl _, trivial⟩, trivial⟩
        · show l.length - (i + 1) < l.length - i
          omega
        · rw [← hor, hdrop]
          unfold orZ
          rw [List.find?_cons_of_neg (by simp [h2])]
    · have hge : i = l.length := by
        have : ¬ i < l.length := by simpa using h1
        omega
      subst hge
      refine ⟨_, st', AV.le_refl _, Store.Has.refl st', ?_⟩
      rw [← hor, List.drop_length] at h
      exact h
end Go.Proofs
namespace Go.Proofs
open Go Go.V
set_option linter.unusedVariables false

theorem units_spec (l : List Int) (hl : l.length ≤ 1000000000000) (st : Store) (R : AV → Store → Prop) (h : ∀ b : Bool, (b = true ↔ unitsP l) → R (bool b) st) : ACalls Try.prog 181 [ints l] st R := by
  refine ACalls.of_body (c := cfg 40) infoOK Try.func181 (by rfl) (by rfl) (by rfl) (by rfl) ?_
  refine AWp.loop (σ := Nat) ⟨fun i => [(0, .av (ints l)), (5, .av (ints l)), (6, .av (int l.length)), (7, .av (int i))], fun _ => [],
    fun i st' => i ≤ l.length ∧ st' = st ∧ ∀ j, j < i → (1 ≤ l.getD j 0 ∧ l.getD j 0 ≤ 1099511627776) ∧ (0 < j → l.getD (j - 1) 0 < l.getD j 0), fun i => l.length - i⟩ infoOK ?_ ?_
  · refine ⟨0, trivial, ⟨Nat.zero_le _, rfl, fun j hj => by omega⟩, ⟨LV.le_refl _, LV.le_refl _, ?_, LV.le_refl _, trivial⟩, trivial⟩
    rw [← rws_len (f := intC) l]
    exact LV.le_refl _
  · rintro i st' ⟨hi, rfl, hall⟩
    refine bcase_intro (fun h1 => ?_) (fun h1 => ?_)
    · have hlt : i < l.length := by simpa using h1
      have hget : l.getD i 0 = l[i] := by simp [hlt]
      refine ⟨i, rfl, optK_intro _ (rws_get hlt) ?_⟩
      have bad : ¬ ((1 ≤ l.getD i 0 ∧ l.getD i 0 ≤ 1099511627776) ∧ (0 < i → l.getD (i - 1) 0 < l.getD i 0)) → ∀ b : Bool, b = false → (b = true ↔ unitsP l) := by
        rintro hb _ rfl
        simp only [Bool.false_eq_true, false_iff]
        exact fun hu => hb (hu.2 i hlt)
      have go : ((1 ≤ l.getD i 0 ∧ l.getD i 0 ≤ 1099511627776) ∧ (0 < i → l.getD (i - 1) 0 < l.getD i 0)) → ∀ j, j < i + 1 → (1 ≤ l.getD j 0 ∧ l.getD j 0 ≤ 1099511627776) ∧ (0 < j → l.getD (j - 1) 0 < l.getD j 0) := by
        intro hb j hj
        by_cases hji : j = i
        · subst hji; exact hb
        · exact hall j (by omega)
      refine bcase_intro (fun h2 => ⟨_, st', AV.le_refl _, Store.Has.refl st', h _ (bad (by rw [hget]; simp at h2; omega) _ rfl)⟩) (fun h2 => ?_)
      refine bcase_intro (fun h3 => ⟨_, st', AV.le_refl _, Store.Has.refl st', h _ (bad (by rw [hget]; simp at h3; omega) _ rfl)⟩) (fun h3 => ?_)
      refine bcase_intro (fun h4 => ?_) (fun h4 => ?_)
      · have h4 : 0 < i := by simpa using h4
        have hget1 : l.getD (i - 1) 0 = l[i - 1] := by simp [show i - 1 < l.length by omega]
        refine ⟨⟨by omega, by omega⟩, ?_⟩
        refine ⟨i - 1, by omega, optK_intro _ (rws_get (show i - 1 < l.length by omega)) ?_⟩
        refine bcase_intro (fun h5 => ⟨_, st', AV.le_refl _, Store.Has.refl st', h _ (bad (by rw [hget, hget1]; simp at h5; omega) _ rfl)⟩) (fun h5 => ?_)
        refine ⟨⟨by omega, by omega⟩, ?_⟩
        refine ⟨i + 1, ?_, ⟨hlt, rfl, go (by rw [hget, hget1]; simp at h2 h3 h5; omega)⟩, ⟨LV.le_refl _, LV.le_refl _, LV.le_refl _, LV.le_refl _, trivial⟩, trivial⟩
        show l.length - (i + 1) < l.length - i
        omega
      · refine ⟨⟨by omega, by omega⟩, ?_⟩
        refine ⟨i + 1, ?_, ⟨hlt, rfl, go (by rw [hget]; simp at h2 h3 h4; omega)⟩, ⟨LV.le_refl _, LV.le_refl _, LV.le_refl _, LV.le_refl _, trivial⟩, trivial⟩
        show l.length - (i + 1) < l.length - i
        omega
    · have hge : i = l.length := by
        have : ¬ i < l.length := by simpa using h1
        omega
      subst hge
      refine bcase_intro (fun h2 => ⟨_, st', AV.le_refl _, Store.Has.refl st', h _ ?_⟩) (fun h2 => ⟨_, st', AV.le_refl _, Store.Has.refl st', h _ ?_⟩)
      · rw [rws_len] at h2 ⊢
        unfold unitsP
        simp only [decide_eq_true_eq] at h2 ⊢
        constructor
        · intro h3
          exact ⟨by omega, hall⟩
        · intro h3
          omega
      · rw [rws_len] at h2
        unfold unitsP
        simp only [decide_eq_false_iff_not] at h2
        simp only [Bool.false_eq_true, false_iff]
        intro h3
        omega

theorem rising_spec (l : List Int) (hl : l.length ≤ 1000000000000) (st : Store) (R : AV → Store → Prop) (h : ∀ b : Bool, (b = true ↔ ∀ j, j < l.length → 0 < j → l.getD (j - 1) 0 < l.getD j 0) → R (bool b) st) : ACalls Try.prog 137 [ints l] st R := by
  refine ACalls.of_body (c := cfg 20) infoOK Try.func137 (by rfl) (by rfl) (by rfl) (by rfl) ?_
  refine AWp.loop (σ := Nat) ⟨fun i => [(0, .av (ints l)), (3, .av (int (i : Nat)))], fun _ => [],
    fun i st' => 1 ≤ i ∧ (i ≤ l.length ∨ i = 1) ∧ st' = st ∧ ∀ j, j < i → 0 < j → l.getD (j - 1) 0 < l.getD j 0, fun i => l.length - i⟩ infoOK ?_ ?_
  · exact ⟨1, trivial, ⟨Nat.le_refl _, .inr rfl, rfl, fun j hj => by omega⟩, ⟨LV.le_refl _, LV.le_refl _, trivial⟩, trivial⟩
  · rintro i st' ⟨hi1, hi, rfl, hall⟩
    refine bcase_intro (fun h1 => ?_) (fun h1 => ?_)
    · have hlt : i < l.length := lt_len h1
      have hget : l.getD i 0 = l[i] := by simp [hlt]
      have hget1 : l.getD (i - 1) 0 = l[i - 1] := by simp [show i - 1 < l.length by omega]
      refine ADraw.of_sched infoOK (by rfl) (by rfl) sch137_4 (by rfl) ?_
      refine ⟨i, rfl, optK_intro _ (rws_get hlt) ?_⟩
      refine ⟨⟨by omega, by omega⟩, ?_⟩
      refine ⟨i - 1, by omega, optK_intro _ (rws_get (show i - 1 < l.length by omega)) ?_⟩
      refine bcase_intro (fun h2 => ⟨_, st', AV.le_refl _, Store.Has.refl st', h _ ?_⟩) (fun h2 => ?_)
      · simp only [Bool.false_eq_true, false_iff]
        intro h3
        have := h3 i hlt (by omega)
        rw [hget, hget1] at this
        simp at h2
        omega
      · refine ⟨⟨by omega, by omega⟩, ?_⟩
        refine ⟨i + 1, ?_, ⟨by omega, .inl hlt, rfl, fun j hj h0 => ?_⟩, ⟨LV.le_refl _, LV.le_refl _, trivial⟩, trivial⟩
        · show l.length - (i + 1) < l.length - i
          omega
        · by_cases hji : j = i
          · subst hji
            rw [hget, hget1]
            simp at h2
            omega
          · exact hall j (by omega) h0
    · have hge : ¬ i < l.length := by
        rw [rws_len] at h1
        simpa using h1
      refine ⟨_, st', AV.le_refl _, Store.Has.refl st', h _ ?_⟩
      simp only [true_iff]
      intro j hj h0
      exact hall j (by omega) h0

theorem between_spec (l : List Int) (lo hi : Int) (hl : l.length ≤ 1000000000000) (st : Store) (R : AV → Store → Prop) (h : ∀ b : Bool, (b = true ↔ ∀ j, j < l.length → lo ≤ l.getD j 0 ∧ l.getD j 0 ≤ hi) → R (bool b) st) : ACalls Try.prog 138 [ints l, int lo, int hi] st R := by
  refine ACalls.of_body (c := cfg 28) infoOK Try.func138 (by rfl) (by rfl) (by rfl) (by rfl) ?_
  refine AWp.loop (σ := Nat) ⟨fun i => [(0, .av (ints l)), (1, .av (int lo)), (2, .av (int hi)), (7, .av (int (i : Nat)))], fun _ => [],
    fun i st' => i ≤ l.length ∧ st' = st ∧ ∀ j, j < i → lo ≤ l.getD j 0 ∧ l.getD j 0 ≤ hi, fun i => l.length - i⟩ infoOK ?_ ?_
  · exact ⟨0, trivial, ⟨Nat.zero_le _, rfl, fun j hj => by omega⟩, ⟨LV.le_refl _, LV.le_refl _, LV.le_refl _, LV.le_refl _, trivial⟩, trivial⟩
  · rintro i st' ⟨hi1, rfl, hall⟩
    refine bcase_intro (fun h1 => ?_) (fun h1 => ?_)
    · have hlt : i < l.length := lt_len h1
      have hget : l.getD i 0 = l[i] := by simp [hlt]
      refine ⟨i, rfl, optK_intro _ (rws_get hlt) ?_⟩
      have bad : ¬ (lo ≤ l.getD i 0 ∧ l.getD i 0 ≤ hi) → ∀ b : Bool, b = false → (b = true ↔ ∀ j, j < l.length → lo ≤ l.getD j 0 ∧ l.getD j 0 ≤ hi) := by
        rintro hb _ rfl
        simp only [Bool.false_eq_true, false_iff]
        exact fun hu => hb (hu i hlt)
      refine bcase_intro (fun h2 => ⟨_, st', AV.le_refl _, Store.Has.refl st', h _ (bad (by rw [hget]; simp at h2; omega) _ rfl)⟩) (fun h2 => ?_)
      refine ⟨i, rfl, optK_intro _ (rws_get hlt) ?_⟩
      refine bcase_intro (fun h3 => ⟨_, st', AV.le_refl _, Store.Has.refl st', h _ (bad (by rw [hget]; simp at h3; omega) _ rfl)⟩) (fun h3 => ?_)
      refine ⟨⟨by omega, by omega⟩, ?_⟩
      refine ⟨i + 1, ?_, ⟨hlt, rfl, fun j hj => ?_⟩, ⟨LV.le_refl _, LV.le_refl _, LV.le_refl _, LV.le_refl _, trivial⟩, trivial⟩
      · show l.length - (i + 1) < l.length - i
        omega
      · by_cases hji : j = i
        · subst hji
          rw [hget]
          simp at h2 h3
          omega
        · exact hall j (by omega)
    · have hge : i = l.length := ge_len h1 hi1
      subst hge
      refine ⟨_, st', AV.le_refl _, Store.Has.refl st', h _ ?_⟩
      simp only [true_iff]
      exact hall

theorem ids_spec (l : List Int) (hl : l.length ≤ 1000000000000) (st : Store) (R : AV → Store → Prop) (h : ∀ b : Bool, (b = true ↔ unitsP l) → R (bool b) st) : ACalls Try.prog 92 [ints l] st R := by
  refine ACalls.of_body (c := cfg 19) infoOK Try.func92 (by rfl) (by rfl) (by rfl) (by rfl) ?_
  refine bcase_intro (fun h1 => ?_) (fun h1 => ⟨_, st, AV.le_refl _, Store.Has.refl st, h _ (by unfold unitsP; rw [rws_len] at h1; simp at h1 ⊢; omega)⟩)
  refine bcase_intro (fun h2 => ?_) (fun h2 => ⟨_, st, AV.le_refl _, Store.Has.refl st, h _ (by unfold unitsP; rw [rws_len] at h2; simp at h2 ⊢; omega)⟩)
  rw [rws_len] at h1 h2
  simp at h1 h2
  refine rising_spec l hl _ _ (fun b hb => ?_)
  refine bcase_intro (fun h3 => ?_) (fun h3 => ⟨_, st, AV.le_refl _, Store.Has.refl st, h _ ?_⟩)
  · refine between_spec l 1 1099511627776 hl _ _ (fun b2 hb2 => ?_)
    refine ⟨_, st, AV.le_refl _, Store.Has.refl st, h _ ?_⟩
    rw [hb2]
    unfold unitsP
    constructor
    · intro h4
      exact ⟨by omega, fun j hj => ⟨h4 j hj, hb.1 h3 j hj⟩⟩
    · intro h4 j hj
      exact (h4.2 j hj).1
  · simp only [Bool.false_eq_true, false_iff]
    intro h4
    have := hb.2 fun j hj h0 => (h4.2 j hj).2 h0
    rw [h3] at this
    cases this

theorem maxBytes_spec (l : List UInt8) (hl : l.length ≤ 1000000000000) (hne : 0 < l.length) (st : Store) (R : AV → Store → Prop) (h : ∀ m : UInt8, m ∈ l → (∀ t ∈ l, t.toNat ≤ m.toNat) → R (u8 m) st) : ACalls Try.prog 135 [byts l] st R := by
  refine ACalls.of_body (c := cfg 25) infoOK Try.func135 (by rfl) (by rfl) (by rfl) (by rfl) ?_
  refine bcase_intro (fun h1 => ?_) (fun h1 => ?_)
  · rw [rws_len] at h1
    simp at h1
    omega
  refine ⟨0, rfl, optK_intro _ (rws_get hne) ?_⟩
  refine AWp.loop (σ := Nat × UInt8) ⟨fun s => [(0, .av (byts l)), (3, .av (u8 s.2)), (4, .av (int (s.1 : Nat)))], fun _ => [],
    fun s st' => (1 ≤ s.1 ∧ s.1 ≤ l.length) ∧ st' = st ∧ s.2 ∈ l ∧ ∀ t ∈ l.take s.1, t.toNat ≤ s.2.toNat, fun s => l.length - s.1⟩ infoOK ?_ ?_
  · refine ⟨(1, l[0]), trivial, ⟨⟨Nat.le_refl _, hne⟩, rfl, List.getElem_mem hne, fun t ht => ?_⟩, ⟨LV.le_refl _, LV.le_refl _, LV.le_refl _, trivial⟩, trivial⟩
    have : l.take 1 = [l[0]] := by
      cases l with
      | nil => simp at hne
      | cons a l => rfl
    rw [this] at ht
    simp at ht
    rw [ht]
    exact Nat.le_refl _
  · rintro ⟨i, m⟩ st' ⟨⟨hi1, hi⟩, rfl, hm, hall⟩
    simp only at hi1 hi hm hall
    refine bcase_intro (fun h1 => ?_) (fun h1 => ?_)
    · have hlt : i < l.length := lt_len h1
      refine ⟨i, rfl, optK_intro _ (rws_get hlt) ?_⟩
      refine ⟨⟨by omega, by omega⟩, ?_⟩
      have hmax : max2 (m.toNat : Int) (l[i].toNat : Int) = ((if l[i].toNat > m.toNat then l[i] else m : UInt8).toNat : Int) := by
        unfold max2
        by_cases hg : l[i].toNat > m.toNat
        · rw [if_pos hg, decide_eq_true (by omega)]; rfl
        · rw [if_neg hg, decide_eq_false (by omega)]; rfl
      refine ⟨(i + 1, if l[i].toNat > m.toNat then l[i] else m), ?_, ⟨⟨by omega, hlt⟩, rfl, ?_, fun t ht => ?_⟩, ⟨LV.le_refl _, ?_, LV.le_refl _, trivial⟩, trivial⟩
      · show l.length - (i + 1) < l.length - i
        omega
      · show (if l[i].toNat > m.toNat then l[i] else m) ∈ l
        split
        · exact List.getElem_mem hlt
        · exact hm
      · show t.toNat ≤ (if l[i].toNat > m.toNat then l[i] else m : UInt8).toNat
        rw [List.take_succ_eq_append_getElem hlt] at ht
        rcases List.mem_append.1 ht with ht | ht
        · have := hall t ht
          split <;> omega
        · simp at ht
          subst ht
          split <;> omega
      · show LV.le (.av (.s (.int .u8 (max2 (m.toNat : Int) (l[i].toNat : Int))))) _
        rw [hmax]
        exact LV.le_refl _
    · have hge : i = l.length := ge_len h1 hi
      subst hge
      rw [List.take_length] at hall
      exact ⟨_, st', AV.le_refl _, Store.Has.refl st', h m hm hall⟩

theorem groundMay_spec (g : Gnd) (hg : g.fits) (st : Store) (R : AV → Store → Prop) (h : ∀ b : Bool, (b = true ↔ gndP g) → R (bool b) st) : ACalls Try.prog 85 [.agg (gndC g)] st R := by
  refine ACalls.of_body (c := cfg 28) infoOK Try.func85 (by rfl) (by rfl) (by rfl) (by rfl) ?_
  refine side_spec g.W _ _ (fun b hb => ?_)
  cases b with
  | false =>
    refine ⟨_, st, AV.le_refl _, Store.Has.refl st, h _ ?_⟩
    simp only [Bool.false_eq_true, false_iff] at hb ⊢
    exact fun hp => hb hp.1
  | true =>
    refine side_spec g.H _ _ (fun b2 hb2 => ?_)
    cases b2 with
    | false =>
      refine ⟨_, st, AV.le_refl _, Store.Has.refl st, h _ ?_⟩
      simp only [Bool.false_eq_true, false_iff] at hb2 ⊢
      exact fun hp => hb2 hp.2.1
    | true =>
      have hm := side_mul (hb.1 rfl) (hb2.1 rfl)
      refine ⟨⟨by omega, by omega⟩, ?_⟩
      refine bcase_intro (fun h1 => ⟨_, st, AV.le_refl _, Store.Has.refl st, h _ ?_⟩) (fun h1 => ?_)
      · rw [rws_len] at h1
        simp only [Bool.false_eq_true, false_iff]
        intro hp
        have := hp.2.2.1
        simp [this] at h1
      · rw [rws_len] at h1
        have h1 : (g.T.length : Int) = g.W * g.H := by simpa using h1
        refine maxBytes_spec g.T hg (by omega) _ _ (fun m hm1 hm2 => ?_)
        refine ⟨_, st, AV.le_refl _, Store.Has.refl st, h _ ?_⟩
        rw [decide_eq_true_iff]
        constructor
        · intro h2
          refine ⟨hb.1 rfl, hb2.1 rfl, h1, fun t ht => ?_⟩
          have := hm2 t ht
          omega
        · intro hp
          have := hp.2.2.2 m hm1
          omega

theorem ground5_spec (g : Gnd) (hg : g.fits) (st : Store) (R : AV → Store → Prop) (h : ∀ b : Bool, (b = true ↔ gndP g) → R (bool b) st) : ACalls Try.prog 49 [.agg (gndC g)] st R := by
  refine ACalls.of_body (c := cfg 46) infoOK Try.func49 (by rfl) (by rfl) (by rfl) (by rfl) ?_
  have no : ¬ gndP g → R (bool false) st := fun hn => h false (by simpa using hn)
  refine bcase_intro (fun h1 => ⟨_, st, AV.le_refl _, Store.Has.refl st, no ?_⟩) (fun h1 => ?_)
  · intro hp; have := hp.1; simp at h1; omega
  refine bcase_intro (fun h2 => ⟨_, st, AV.le_refl _, Store.Has.refl st, no ?_⟩) (fun h2 => ?_)
  · intro hp; have := hp.1; simp at h2; omega
  refine bcase_intro (fun h3 => ⟨_, st, AV.le_refl _, Store.Has.refl st, no ?_⟩) (fun h3 => ?_)
  · intro hp; have := hp.2.1; simp at h3; omega
  refine bcase_intro (fun h4 => ⟨_, st, AV.le_refl _, Store.Has.refl st, no ?_⟩) (fun h4 => ?_)
  · intro hp; have := hp.2.1; simp at h4; omega
  have hW : 1 ≤ g.W ∧ g.W ≤ 128 := by simp at h1 h2; omega
  have hH : 1 ≤ g.H ∧ g.H ≤ 128 := by simp at h3 h4; omega
  have hm := side_mul hW hH
  refine ⟨⟨by omega, by omega⟩, ?_⟩
  refine bcase_intro (fun h5 => ⟨_, st, AV.le_refl _, Store.Has.refl st, no ?_⟩) (fun h5 => ?_)
  · rw [rws_len] at h5
    intro hp
    have := hp.2.2.1
    simp [this] at h5
  rw [rws_len] at h5
  have h5 : (g.T.length : Int) = g.W * g.H := by simpa using h5
  refine AWp.loop (σ := Nat) ⟨fun i => [(1, .bx 1 0), (3, .av (int (i : Nat)))], fun _ => [(1, gndC g)],
    fun i st' => i ≤ g.T.length ∧ st' = st ∧ ∀ t ∈ g.T.take i, t.toNat ≤ 5, fun i => g.T.length - i⟩ infoOK ?_ ?_
  · exact ⟨0, trivial, ⟨Nat.zero_le _, rfl, fun t ht => by simp at ht⟩, ⟨LV.le_refl _, LV.le_refl _, trivial⟩, (by repeat (first | exact trivial | refine ⟨rfl, ?_⟩ | refine ⟨optR (optR (optR (optK_intro _ (setObj_self _ _ _) rfl))), ?_⟩))⟩
  · rintro i st' ⟨hi, rfl, hall⟩
    refine bcase_intro (fun h6 => ?_) (fun h6 => ?_)
    · have hlt : i < g.T.length := lt_len h6
      refine ⟨i, rfl, optK_intro _ (rws_get hlt) ?_⟩
      refine bcase_intro (fun h7 => ⟨_, st', AV.le_refl _, Store.Has.refl st', no ?_⟩) (fun h7 => ?_)
      · intro hp
        have := hp.2.2.2 _ (List.getElem_mem hlt)
        simp at h7
        omega
      · refine ⟨⟨by omega, by omega⟩, ?_⟩
        refine ⟨i + 1, ?_, ⟨hlt, rfl, fun t ht => ?_⟩, ⟨LV.le_refl _, LV.le_refl _, trivial⟩, (by repeat (first | exact trivial | refine ⟨rfl, ?_⟩ | refine ⟨optR (optR (optR (optK_intro _ (setObj_self _ _ _) rfl))), ?_⟩))⟩
        · show g.T.length - (i + 1) < g.T.length - i
          omega
        · rw [List.take_succ_eq_append_getElem hlt] at ht
          rcases List.mem_append.1 ht with ht | ht
          · exact hall t ht
          · simp at ht
            subst ht
            simp at h7
            omega
    · have hge : i = g.T.length := ge_len h6 hi
      subst hge
      rw [List.take_length] at hall
      exact ⟨_, st', AV.le_refl _, Store.Has.refl st', h true (by simpa using ⟨hW, hH, h5, hall⟩)⟩
end Go.Proofs
namespace Go.Proofs
open Go Go.V
set_option linter.unusedVariables false

set_option maxHeartbeats 4000000 in
set_option maxRecDepth 20000 in
theorem only_spec (c : Cmd) (hc : c.fits) (st : Store) (R : AV → Store → Prop) (h : ∀ b : Bool, (b = true ↔ c.okP) → R (.tup [.agg (cmdC c.only), bool b]) st) : ACalls Try.prog 166 [.agg (cmdC c)] st R := by
  refine ACalls.of_body (c := cfg 119) infoOK Try.func166 (by rfl) (by rfl) (by rfl) (by rfl) ?_
  refine bcase_intro (fun k1 => ?_) (fun k1 => ?_)
  · have k1 : c.K = 1 := by simpa using k1
    have fin : ∀ b : Bool, (b = true ↔ _) → R (.tup [.agg (cmdC _), bool b]) st := fun b hb => h b (hb.trans (Cmd.ok1 k1).symm)
    rw [Cmd.only1 k1] at fin
    refine ADraw.of_sched infoOK (by rfl) (by rfl) sch166_4 (by rfl) ?_
    refine ⟨⟨(by repeat (first | exact trivial | refine ⟨rfl, ?_⟩ | refine ⟨optR (optR (optR (optK_intro _ (setObj_self _ _ _) rfl))), ?_⟩)), ?_⟩, trivial⟩
    refine ⟨⟨trivial, ?_⟩, trivial⟩
    refine kindMay_spec c.N _ _ (fun b0 hb0 => ?_)
    cases b0 with
    | false =>
      refine ⟨_, st, ?_, Store.Has.refl st, fin false (by simp only [Bool.false_eq_true, false_iff] at hb0 ⊢; simp [tileP, idP, hb0])⟩
      exact AV.le_tupL ⟨AV.le_aggL ⟨AV.le_refl _, AV.le_refl _, AV.le_refl _, AV.le_refl _, AV.le_nil 1, AV.le_refl _, AV.le_refl _, AV.le_refl _, AV.le_refl _, AV.le_refl _, trivial⟩, AV.le_refl _, trivial⟩
    | true =>
      refine place_spec c.X c.Y _ _ (fun b1 hb1 => ?_)
      refine ⟨_, st, ?_, Store.Has.refl st, fin b1 (by have q0 := hb0.1 rfl; rw [hb1]; simp [tileP, idP, q0])⟩
      exact AV.le_tupL ⟨AV.le_aggL ⟨AV.le_refl _, AV.le_refl _, AV.le_refl _, AV.le_refl _, AV.le_nil 1, AV.le_refl _, AV.le_refl _, AV.le_refl _, AV.le_refl _, AV.le_refl _, trivial⟩, AV.le_refl _, trivial⟩
  have k1 : c.K ≠ 1 := by simpa using k1
  refine bcase_intro (fun k2 => ?_) (fun k2 => ?_)
  · have k2 : c.K = 2 := by simpa using k2
    have fin : ∀ b : Bool, (b = true ↔ _) → R (.tup [.agg (cmdC _), bool b]) st := fun b hb => h b (hb.trans (Cmd.ok2 k2).symm)
    rw [Cmd.only2 k2] at fin
    refine ADraw.of_sched infoOK (by rfl) (by rfl) sch166_7 (by rfl) ?_
    refine ⟨⟨(by repeat (first | exact trivial | refine ⟨rfl, ?_⟩ | refine ⟨optR (optR (optR (optK_intro _ (setObj_self _ _ _) rfl))), ?_⟩)), ?_⟩, trivial⟩
    refine ⟨⟨trivial, ?_⟩, trivial⟩
    refine units_spec c.U hc _ _ (fun b0 hb0 => ?_)
    cases b0 with
    | false =>
      refine ⟨_, st, ?_, Store.Has.refl st, fin false (by simp only [Bool.false_eq_true, false_iff] at hb0 ⊢; simp [tileP, idP, hb0])⟩
      exact AV.le_tupL ⟨AV.le_aggL ⟨AV.le_refl _, AV.le_refl _, AV.le_refl _, AV.le_refl _, AV.le_refl _, AV.le_refl _, AV.le_refl _, AV.le_refl _, AV.le_refl _, AV.le_refl _, trivial⟩, AV.le_refl _, trivial⟩
    | true =>
      refine within_spec c.T 0 16383 _ _ (fun b1 hb1 => ?_)
      refine ⟨_, st, ?_, Store.Has.refl st, fin b1 (by have q0 := hb0.1 rfl; rw [hb1]; simp [tileP, idP, q0])⟩
      exact AV.le_tupL ⟨AV.le_aggL ⟨AV.le_refl _, AV.le_refl _, AV.le_refl _, AV.le_refl _, AV.le_refl _, AV.le_refl _, AV.le_refl _, AV.le_refl _, AV.le_refl _, AV.le_refl _, trivial⟩, AV.le_refl _, trivial⟩
  have k2 : c.K ≠ 2 := by simpa using k2
  refine bcase_intro (fun k3 => ?_) (fun k3 => ?_)
  · have k3 : c.K = 3 := by simpa using k3
    have fin : ∀ b : Bool, (b = true ↔ _) → R (.tup [.agg (cmdC _), bool b]) st := fun b hb => h b (hb.trans (Cmd.ok3 k3).symm)
    rw [Cmd.only3 k3] at fin
    refine units_spec c.U hc _ _ (fun b0 hb0 => ?_)
    refine ⟨_, st, ?_, Store.Has.refl st, fin b0 (hb0)⟩
    exact AV.le_tupL ⟨AV.le_aggL ⟨AV.le_refl _, AV.le_refl _, AV.le_refl _, AV.le_refl _, AV.le_refl _, AV.le_refl _, AV.le_refl _, AV.le_refl _, AV.le_refl _, AV.le_refl _, trivial⟩, AV.le_refl _, trivial⟩
  have k3 : c.K ≠ 3 := by simpa using k3
  refine bcase_intro (fun k4 => ?_) (fun k4 => ?_)
  · have k4 : c.K = 4 := by simpa using k4
    have fin : ∀ b : Bool, (b = true ↔ _) → R (.tup [.agg (cmdC _), bool b]) st := fun b hb => h b (hb.trans (Cmd.ok4 k4).symm)
    rw [Cmd.only4 k4] at fin
    refine ADraw.of_sched infoOK (by rfl) (by rfl) sch166_13 (by rfl) ?_
    refine ⟨⟨(by repeat (first | exact trivial | refine ⟨rfl, ?_⟩ | refine ⟨optR (optR (optR (optK_intro _ (setObj_self _ _ _) rfl))), ?_⟩)), ?_⟩, trivial⟩
    refine ⟨⟨(by repeat (first | exact trivial | refine ⟨rfl, ?_⟩ | refine ⟨optR (optR (optR (optK_intro _ (setObj_self _ _ _) rfl))), ?_⟩)), ?_⟩, trivial⟩
    refine ⟨⟨trivial, ?_⟩, trivial⟩
    refine within_spec c.T 0 16383 _ _ (fun b0 hb0 => ?_)
    cases b0 with
    | false =>
      refine ⟨_, st, ?_, Store.Has.refl st, fin false (by simp only [Bool.false_eq_true, false_iff] at hb0 ⊢; simp [tileP, idP, hb0])⟩
      exact AV.le_tupL ⟨AV.le_aggL ⟨AV.le_refl _, AV.le_refl _, AV.le_refl _, AV.le_refl _, AV.le_nil 1, AV.le_refl _, AV.le_refl _, AV.le_refl _, AV.le_refl _, AV.le_refl _, trivial⟩, AV.le_refl _, trivial⟩
    | true =>
      refine within_spec c.W 1 4 _ _ (fun b1 hb1 => ?_)
      cases b1 with
      | false =>
        refine ⟨_, st, ?_, Store.Has.refl st, fin false (by simp only [Bool.false_eq_true, false_iff] at hb1 ⊢; simp [tileP, idP, hb1])⟩
        exact AV.le_tupL ⟨AV.le_aggL ⟨AV.le_refl _, AV.le_refl _, AV.le_refl _, AV.le_refl _, AV.le_nil 1, AV.le_refl _, AV.le_refl _, AV.le_refl _, AV.le_refl _, AV.le_refl _, trivial⟩, AV.le_refl _, trivial⟩
      | true =>
        refine within_spec c.H 1 4 _ _ (fun b2 hb2 => ?_)
        refine ⟨_, st, ?_, Store.Has.refl st, fin b2 (by have q0 := hb0.1 rfl; have q1 := hb1.1 rfl; rw [hb2]; simp [tileP, idP, q0, q1])⟩
        exact AV.le_tupL ⟨AV.le_aggL ⟨AV.le_refl _, AV.le_refl _, AV.le_refl _, AV.le_refl _, AV.le_nil 1, AV.le_refl _, AV.le_refl _, AV.le_refl _, AV.le_refl _, AV.le_refl _, trivial⟩, AV.le_refl _, trivial⟩
  have k4 : c.K ≠ 4 := by simpa using k4
  refine bcase_intro (fun k5 => ?_) (fun k5 => ?_)
  · have k5 : c.K = 5 := by simpa using k5
    have fin : ∀ b : Bool, (b = true ↔ _) → R (.tup [.agg (cmdC _), bool b]) st := fun b hb => h b (hb.trans (Cmd.ok5 k5).symm)
    rw [Cmd.only5 k5] at fin
    refine within_spec c.N 1 1099511627776 _ _ (fun b0 hb0 => ?_)
    refine ⟨_, st, ?_, Store.Has.refl st, fin b0 (hb0)⟩
    exact AV.le_tupL ⟨AV.le_aggL ⟨AV.le_refl _, AV.le_refl _, AV.le_refl _, AV.le_refl _, AV.le_nil 1, AV.le_refl _, AV.le_refl _, AV.le_refl _, AV.le_refl _, AV.le_refl _, trivial⟩, AV.le_refl _, trivial⟩
  have k5 : c.K ≠ 5 := by simpa using k5
  refine bcase_intro (fun k6 => ?_) (fun k6 => ?_)
  · have k6 : c.K = 6 := by simpa using k6
    have fin : ∀ b : Bool, (b = true ↔ _) → R (.tup [.agg (cmdC _), bool b]) st := fun b hb => h b (hb.trans (Cmd.ok6 k6).symm)
    rw [Cmd.only6 k6] at fin
    refine ADraw.of_sched infoOK (by rfl) (by rfl) sch166_19 (by rfl) ?_
    refine ⟨⟨(by repeat (first | exact trivial | refine ⟨rfl, ?_⟩ | refine ⟨optR (optR (optR (optK_intro _ (setObj_self _ _ _) rfl))), ?_⟩)), ?_⟩, trivial⟩
    refine ⟨⟨trivial, ?_⟩, trivial⟩
    refine units_spec c.U hc _ _ (fun b0 hb0 => ?_)
    cases b0 with
    | false =>
      refine ⟨_, st, ?_, Store.Has.refl st, fin false (by simp only [Bool.false_eq_true, false_iff] at hb0 ⊢; simp [tileP, idP, hb0])⟩
      exact AV.le_tupL ⟨AV.le_aggL ⟨AV.le_refl _, AV.le_refl _, AV.le_refl _, AV.le_refl _, AV.le_refl _, AV.le_refl _, AV.le_refl _, AV.le_refl _, AV.le_refl _, AV.le_refl _, trivial⟩, AV.le_refl _, trivial⟩
    | true =>
      refine within_spec c.N 1 1099511627776 _ _ (fun b1 hb1 => ?_)
      refine ⟨_, st, ?_, Store.Has.refl st, fin b1 (by have q0 := hb0.1 rfl; rw [hb1]; simp [tileP, idP, q0])⟩
      exact AV.le_tupL ⟨AV.le_aggL ⟨AV.le_refl _, AV.le_refl _, AV.le_refl _, AV.le_refl _, AV.le_refl _, AV.le_refl _, AV.le_refl _, AV.le_refl _, AV.le_refl _, AV.le_refl _, trivial⟩, AV.le_refl _, trivial⟩
  have k6 : c.K ≠ 6 := by simpa using k6
  refine bcase_intro (fun k7 => ?_) (fun k7 => ?_)
  · have k7 : c.K = 7 := by simpa using k7
    have fin : ∀ b : Bool, (b = true ↔ _) → R (.tup [.agg (cmdC _), bool b]) st := fun b hb => h b (hb.trans (Cmd.ok7 k7).symm)
    rw [Cmd.only7 k7] at fin
    refine ADraw.of_sched infoOK (by rfl) (by rfl) sch166_22 (by rfl) ?_
    refine ⟨⟨(by repeat (first | exact trivial | refine ⟨rfl, ?_⟩ | refine ⟨optR (optR (optR (optK_intro _ (setObj_self _ _ _) rfl))), ?_⟩)), ?_⟩, trivial⟩
    refine ⟨⟨trivial, ?_⟩, trivial⟩
    refine within_spec c.N 1 1099511627776 _ _ (fun b0 hb0 => ?_)
    cases b0 with
    | false =>
      refine ⟨_, st, ?_, Store.Has.refl st, fin false (by simp only [Bool.false_eq_true, false_iff] at hb0 ⊢; simp [tileP, idP, hb0])⟩
      exact AV.le_tupL ⟨AV.le_aggL ⟨AV.le_refl _, AV.le_refl _, AV.le_refl _, AV.le_refl _, AV.le_nil 1, AV.le_refl _, AV.le_refl _, AV.le_refl _, AV.le_refl _, AV.le_refl _, trivial⟩, AV.le_refl _, trivial⟩
    | true =>
      refine within_spec c.T 0 16383 _ _ (fun b1 hb1 => ?_)
      refine ⟨_, st, ?_, Store.Has.refl st, fin b1 (by have q0 := hb0.1 rfl; rw [hb1]; simp [tileP, idP, q0])⟩
      exact AV.le_tupL ⟨AV.le_aggL ⟨AV.le_refl _, AV.le_refl _, AV.le_refl _, AV.le_refl _, AV.le_nil 1, AV.le_refl _, AV.le_refl _, AV.le_refl _, AV.le_refl _, AV.le_refl _, trivial⟩, AV.le_refl _, trivial⟩
  have k7 : c.K ≠ 7 := by simpa using k7
  have fin : R (.tup [.agg (cmdC c.only), bool false]) st := h false (by simpa using Cmd.ok0 k1 k2 k3 k4 k5 k6 k7)
  rw [Cmd.only0 k1 k2 k3 k4 k5 k6 k7] at fin
  refine ⟨_, st, ?_, Store.Has.refl st, fin⟩
  exact AV.le_tupL ⟨AV.le_aggL ⟨AV.le_refl _, AV.le_refl _, AV.le_refl _, AV.le_refl _, AV.le_nil 1, AV.le_refl _, AV.le_refl _, AV.le_refl _, AV.le_refl _, AV.le_refl _, trivial⟩, AV.le_refl _, trivial⟩

end Go.Proofs
namespace Go.Proofs
open Go Go.V
set_option linter.unusedVariables false

theorem only_fits {c : Cmd} (hc : c.fits) : c.only.fits := by
  unfold Cmd.fits at *
  unfold Cmd.only
  repeat' split
  all_goals first | exact hc | simp

set_option maxHeartbeats 4000000 in
set_option maxRecDepth 20000 in
theorem command21_spec (c : Cmd) (hc : c.fits) (st : Store) (R : AV → Store → Prop) (h : ∀ b : Bool, (b = true ↔ cmdP c) → R (bool b) st) : ACalls Try.prog 50 [.agg (cmdC c)] st R := by
  refine ACalls.of_awp (c := cfg 168) infoOK Try.func50 (by rfl) (by rfl) (by rfl) (by rfl) ?_
  have no : ¬ cmdP c → R (bool false) st := fun hn => h false (by simpa using hn)
  have fit : ∀ {o}, c.only = o → c.only.fits := fun _ => only_fits hc
  refine AWp.seq (AWp.of_vc infoOK ?_)
  refine AWp.seq (AWp.of_vc infoOK ?_)
  refine AWp.meet (σ := Bool) ⟨fun b => [(1, .bx 1 0), (3, .bx 3 0), (4, .av (bool b))], fun _ => [(1, cmdC c), (3, [int c.P, int c.S, int c.K, int 0, nil, int 0, int 0, int 0, int 0, int 0])],
    fun b st' => st' = st ∧ (b = true ↔ (1 ≤ c.P ∧ c.P ≤ 8) ∧ (0 ≤ c.S ∧ c.S ≤ 1099511627776))⟩ infoOK ?_ ?_
  · refine bcase_intro (fun h1 => ?_) (fun h1 => ⟨_, ⟨rfl, ?_⟩, ⟨LV.le_refl _, LV.le_refl _, LV.le_refl _, trivial⟩, (by repeat (first | exact trivial | refine ⟨rfl, ?_⟩ | refine ⟨optR (optR (optR (optK_intro _ (setObj_self _ _ _) rfl))), ?_⟩))⟩)
    · refine bcase_intro (fun h2 => ?_) (fun h2 => ⟨_, ⟨rfl, ?_⟩, ⟨LV.le_refl _, LV.le_refl _, LV.le_refl _, trivial⟩, (by repeat (first | exact trivial | refine ⟨rfl, ?_⟩ | refine ⟨optR (optR (optR (optK_intro _ (setObj_self _ _ _) rfl))), ?_⟩))⟩)
      · refine num0_spec c.S 1099511627776 _ _ (fun b hb => ⟨_, ⟨rfl, ?_⟩, ⟨LV.le_refl _, LV.le_refl _, LV.le_refl _, trivial⟩, (by repeat (first | exact trivial | refine ⟨rfl, ?_⟩ | refine ⟨optR (optR (optR (optK_intro _ (setObj_self _ _ _) rfl))), ?_⟩))⟩)
        rw [hb]
        simp at h1 h2
        omega
      · simp at h2 ⊢; omega
    · simp at h1 ⊢; omega
  rintro b st' ⟨rfl, hb⟩
  refine AWp.of_vc infoOK ?_
  cases b with
  | false =>
    have nb : ¬ cmdP c := fun hp => by
      have := hb.2 ⟨hp.2.1, hp.2.2.1⟩
      cases this
    have rf := no nb
    refine bcase_intro (fun k1 => ?_) (fun k1 => ?_)
    · refine ADraw.of_sched infoOK (by rfl) (by rfl) sch50_6 (by rfl) ?_
      refine ⟨⟨(by repeat (first | exact trivial | refine ⟨rfl, ?_⟩ | refine ⟨optR (optR (optR (optK_intro _ (setObj_self _ _ _) rfl))), ?_⟩)), ?_⟩, trivial⟩
      refine ⟨⟨trivial, ?_⟩, trivial⟩
      exact ⟨_, st', AV.le_refl _, Store.Has.refl st', rf⟩
    refine bcase_intro (fun k2 => ?_) (fun k2 => ?_)
    · refine ADraw.of_sched infoOK (by rfl) (by rfl) sch50_9 (by rfl) ?_
      refine ⟨⟨(by repeat (first | exact trivial | refine ⟨rfl, ?_⟩ | refine ⟨optR (optR (optR (optK_intro _ (setObj_self _ _ _) rfl))), ?_⟩)), ?_⟩, trivial⟩
      refine ⟨⟨trivial, ?_⟩, trivial⟩
      exact ⟨_, st', AV.le_refl _, Store.Has.refl st', rf⟩
    refine bcase_intro (fun k3 => ?_) (fun k3 => ?_)
    · exact ⟨_, st', AV.le_refl _, Store.Has.refl st', rf⟩
    refine bcase_intro (fun k4 => ?_) (fun k4 => ?_)
    · refine ADraw.of_sched infoOK (by rfl) (by rfl) sch50_15 (by rfl) ?_
      refine ⟨⟨(by repeat (first | exact trivial | refine ⟨rfl, ?_⟩ | refine ⟨optR (optR (optR (optK_intro _ (setObj_self _ _ _) rfl))), ?_⟩)), ?_⟩, trivial⟩
      refine ⟨⟨(by repeat (first | exact trivial | refine ⟨rfl, ?_⟩ | refine ⟨optR (optR (optR (optK_intro _ (setObj_self _ _ _) rfl))), ?_⟩)), ?_⟩, trivial⟩
      refine ⟨⟨trivial, ?_⟩, trivial⟩
      exact ⟨_, st', AV.le_refl _, Store.Has.refl st', rf⟩
    refine bcase_intro (fun k5 => ?_) (fun k5 => ?_)
    · exact ⟨_, st', AV.le_refl _, Store.Has.refl st', rf⟩
    refine bcase_intro (fun k6 => ?_) (fun k6 => ?_)
    · refine ADraw.of_sched infoOK (by rfl) (by rfl) sch50_21 (by rfl) ?_
      refine ⟨⟨(by repeat (first | exact trivial | refine ⟨rfl, ?_⟩ | refine ⟨optR (optR (optR (optK_intro _ (setObj_self _ _ _) rfl))), ?_⟩)), ?_⟩, trivial⟩
      refine ⟨⟨trivial, ?_⟩, trivial⟩
      exact ⟨_, st', AV.le_refl _, Store.Has.refl st', rf⟩
    refine bcase_intro (fun k7 => ?_) (fun k7 => ?_)
    · refine ADraw.of_sched infoOK (by rfl) (by rfl) sch50_24 (by rfl) ?_
      refine ⟨⟨(by repeat (first | exact trivial | refine ⟨rfl, ?_⟩ | refine ⟨optR (optR (optR (optK_intro _ (setObj_self _ _ _) rfl))), ?_⟩)), ?_⟩, trivial⟩
      refine ⟨⟨trivial, ?_⟩, trivial⟩
      exact ⟨_, st', AV.le_refl _, Store.Has.refl st', rf⟩
    exact ⟨_, st', AV.le_refl _, Store.Has.refl st', rf⟩

  | true =>
  obtain ⟨hP, hS⟩ := hb.1 rfl
  refine bcase_intro (fun k1 => ?_) (fun k1 => ?_)
  · have k1 : c.K = 1 := by simpa using k1
    have fin := fun b => h b
    refine ADraw.of_sched infoOK (by rfl) (by rfl) sch50_6 (by rfl) ?_
    refine ⟨⟨(by repeat (first | exact trivial | refine ⟨rfl, ?_⟩ | refine ⟨optR (optR (optR (optK_intro _ (setObj_self _ _ _) rfl))), ?_⟩)), ?_⟩, trivial⟩
    refine ⟨⟨trivial, ?_⟩, trivial⟩
    have ok := Cmd.ok1 k1
    have on := Cmd.only1 k1
    refine num0_spec c.N 3 _ _ (fun b0 hb0 => ?_)
    cases b0 with
    | false => exact ⟨_, st', AV.le_refl _, Store.Has.refl st', no (fun hp => by have := hb0.2 (ok.1 hp.1).1; cases this)⟩
    | true =>
      refine place17_spec c.X c.Y _ _ (fun b1 hb1 => ?_)
      cases b1 with
      | false => exact ⟨_, st', AV.le_refl _, Store.Has.refl st', no (fun hp => by have := hb1.2 (ok.1 hp.1).2; cases this)⟩
      | true =>
        have okp : c.okP := ok.2 ⟨hb0.1 rfl, hb1.1 rfl⟩
        have e2 := eqCommand_spec c.only c (fit on) st'
        rw [on] at e2
        refine ACalls.le ?_ (e2 _ ?_)
        · exact ⟨AV.le_aggL ⟨AV.le_refl _, AV.le_refl _, AV.le_refl _, AV.le_refl _, AV.le_nil 1, AV.le_refl _, AV.le_refl _, AV.le_refl _, AV.le_refl _, AV.le_refl _, trivial⟩, AV.le_refl _, trivial⟩
        rw [← on]
        refine ⟨_, st', AV.le_refl _, Store.Has.refl st', h _ ?_⟩
        rw [decide_eq_true_iff]
        exact ⟨fun e => ⟨okp, hP, hS, e⟩, fun hp => hp.2.2.2⟩
  have k1 : c.K ≠ 1 := by simpa using k1
  refine bcase_intro (fun k2 => ?_) (fun k2 => ?_)
  · have k2 : c.K = 2 := by simpa using k2
    have fin := fun b => h b
    refine ADraw.of_sched infoOK (by rfl) (by rfl) sch50_9 (by rfl) ?_
    refine ⟨⟨(by repeat (first | exact trivial | refine ⟨rfl, ?_⟩ | refine ⟨optR (optR (optR (optK_intro _ (setObj_self _ _ _) rfl))), ?_⟩)), ?_⟩, trivial⟩
    refine ⟨⟨trivial, ?_⟩, trivial⟩
    have ok := Cmd.ok2 k2
    have on := Cmd.only2 k2
    refine ids_spec c.U hc _ _ (fun b0 hb0 => ?_)
    cases b0 with
    | false => exact ⟨_, st', AV.le_refl _, Store.Has.refl st', no (fun hp => by have := hb0.2 (ok.1 hp.1).1; cases this)⟩
    | true =>
      refine tile_spec c.T _ _ (fun b1 hb1 => ?_)
      cases b1 with
      | false => exact ⟨_, st', AV.le_refl _, Store.Has.refl st', no (fun hp => by have := hb1.2 (ok.1 hp.1).2; cases this)⟩
      | true =>
        have okp : c.okP := ok.2 ⟨hb0.1 rfl, hb1.1 rfl⟩
        have e2 := eqCommand_spec c.only c (fit on) st'
        rw [on] at e2
        refine ACalls.le ?_ (e2 _ ?_)
        · exact ⟨AV.le_aggL ⟨AV.le_refl _, AV.le_refl _, AV.le_refl _, AV.le_refl _, AV.le_refl _, AV.le_refl _, AV.le_refl _, AV.le_refl _, AV.le_refl _, AV.le_refl _, trivial⟩, AV.le_refl _, trivial⟩
        rw [← on]
        refine ⟨_, st', AV.le_refl _, Store.Has.refl st', h _ ?_⟩
        rw [decide_eq_true_iff]
        exact ⟨fun e => ⟨okp, hP, hS, e⟩, fun hp => hp.2.2.2⟩
  have k2 : c.K ≠ 2 := by simpa using k2
  refine bcase_intro (fun k3 => ?_) (fun k3 => ?_)
  · have k3 : c.K = 3 := by simpa using k3
    have fin := fun b => h b
    have ok := Cmd.ok3 k3
    have on := Cmd.only3 k3
    refine ids_spec c.U hc _ _ (fun b0 hb0 => ?_)
    cases b0 with
    | false => exact ⟨_, st', AV.le_refl _, Store.Has.refl st', no (fun hp => by have := hb0.2 (ok.1 hp.1); cases this)⟩
    | true =>
      have okp : c.okP := ok.2 (hb0.1 rfl)
      have e2 := eqCommand_spec c.only c (fit on) st'
      rw [on] at e2
      refine ACalls.le ?_ (e2 _ ?_)
      · exact ⟨AV.le_aggL ⟨AV.le_refl _, AV.le_refl _, AV.le_refl _, AV.le_refl _, AV.le_refl _, AV.le_refl _, AV.le_refl _, AV.le_refl _, AV.le_refl _, AV.le_refl _, trivial⟩, AV.le_refl _, trivial⟩
      rw [← on]
      refine ⟨_, st', AV.le_refl _, Store.Has.refl st', h _ ?_⟩
      rw [decide_eq_true_iff]
      exact ⟨fun e => ⟨okp, hP, hS, e⟩, fun hp => hp.2.2.2⟩
  have k3 : c.K ≠ 3 := by simpa using k3
  refine bcase_intro (fun k4 => ?_) (fun k4 => ?_)
  · have k4 : c.K = 4 := by simpa using k4
    have fin := fun b => h b
    refine ADraw.of_sched infoOK (by rfl) (by rfl) sch50_15 (by rfl) ?_
    refine ⟨⟨(by repeat (first | exact trivial | refine ⟨rfl, ?_⟩ | refine ⟨optR (optR (optR (optK_intro _ (setObj_self _ _ _) rfl))), ?_⟩)), ?_⟩, trivial⟩
    refine ⟨⟨(by repeat (first | exact trivial | refine ⟨rfl, ?_⟩ | refine ⟨optR (optR (optR (optK_intro _ (setObj_self _ _ _) rfl))), ?_⟩)), ?_⟩, trivial⟩
    refine ⟨⟨trivial, ?_⟩, trivial⟩
    have ok := Cmd.ok4 k4
    have on := Cmd.only4 k4
    refine tile_spec c.T _ _ (fun b0 hb0 => ?_)
    cases b0 with
    | false => exact ⟨_, st', AV.le_refl _, Store.Has.refl st', no (fun hp => by have := hb0.2 (ok.1 hp.1).1; cases this)⟩
    | true =>
      refine bcase_intro (fun w1 => ?_) (fun w1 => ⟨_, st', AV.le_refl _, Store.Has.refl st', no (fun hp => by have := (ok.1 hp.1).2; simp at w1; omega)⟩)
      refine bcase_intro (fun w2 => ?_) (fun w2 => ⟨_, st', AV.le_refl _, Store.Has.refl st', no (fun hp => by have := (ok.1 hp.1).2; simp at w2; omega)⟩)
      refine bcase_intro (fun w3 => ?_) (fun w3 => ⟨_, st', AV.le_refl _, Store.Has.refl st', no (fun hp => by have := (ok.1 hp.1).2; simp at w3; omega)⟩)
      refine bcase_intro (fun w4 => ?_) (fun w4 => ⟨_, st', AV.le_refl _, Store.Has.refl st', no (fun hp => by have := (ok.1 hp.1).2; simp at w4; omega)⟩)
      have okp : c.okP := ok.2 ⟨hb0.1 rfl, by simp at w1 w2; omega, by simp at w3 w4; omega⟩
      have e2 := eqCommand_spec c.only c (fit on) st'
      rw [on] at e2
      refine ACalls.le ?_ (e2 _ ?_)
      · exact ⟨AV.le_aggL ⟨AV.le_refl _, AV.le_refl _, AV.le_refl _, AV.le_refl _, AV.le_nil 1, AV.le_refl _, AV.le_refl _, AV.le_refl _, AV.le_refl _, AV.le_refl _, trivial⟩, AV.le_refl _, trivial⟩
      rw [← on]
      refine ⟨_, st', AV.le_refl _, Store.Has.refl st', h _ ?_⟩
      rw [decide_eq_true_iff]
      exact ⟨fun e => ⟨okp, hP, hS, e⟩, fun hp => hp.2.2.2⟩
  have k4 : c.K ≠ 4 := by simpa using k4
  refine bcase_intro (fun k5 => ?_) (fun k5 => ?_)
  · have k5 : c.K = 5 := by simpa using k5
    have fin := fun b => h b
    have ok := Cmd.ok5 k5
    have on := Cmd.only5 k5
    refine id_spec c.N _ _ (fun b0 hb0 => ?_)
    cases b0 with
    | false => exact ⟨_, st', AV.le_refl _, Store.Has.refl st', no (fun hp => by have := hb0.2 (ok.1 hp.1); cases this)⟩
    | true =>
      have okp : c.okP := ok.2 (hb0.1 rfl)
      have e2 := eqCommand_spec c.only c (fit on) st'
      rw [on] at e2
      refine ACalls.le ?_ (e2 _ ?_)
      · exact ⟨AV.le_aggL ⟨AV.le_refl _, AV.le_refl _, AV.le_refl _, AV.le_refl _, AV.le_nil 1, AV.le_refl _, AV.le_refl _, AV.le_refl _, AV.le_refl _, AV.le_refl _, trivial⟩, AV.le_refl _, trivial⟩
      rw [← on]
      refine ⟨_, st', AV.le_refl _, Store.Has.refl st', h _ ?_⟩
      rw [decide_eq_true_iff]
      exact ⟨fun e => ⟨okp, hP, hS, e⟩, fun hp => hp.2.2.2⟩
  have k5 : c.K ≠ 5 := by simpa using k5
  refine bcase_intro (fun k6 => ?_) (fun k6 => ?_)
  · have k6 : c.K = 6 := by simpa using k6
    have fin := fun b => h b
    refine ADraw.of_sched infoOK (by rfl) (by rfl) sch50_21 (by rfl) ?_
    refine ⟨⟨(by repeat (first | exact trivial | refine ⟨rfl, ?_⟩ | refine ⟨optR (optR (optR (optK_intro _ (setObj_self _ _ _) rfl))), ?_⟩)), ?_⟩, trivial⟩
    refine ⟨⟨trivial, ?_⟩, trivial⟩
    have ok := Cmd.ok6 k6
    have on := Cmd.only6 k6
    refine ids_spec c.U hc _ _ (fun b0 hb0 => ?_)
    cases b0 with
    | false => exact ⟨_, st', AV.le_refl _, Store.Has.refl st', no (fun hp => by have := hb0.2 (ok.1 hp.1).1; cases this)⟩
    | true =>
      refine id_spec c.N _ _ (fun b1 hb1 => ?_)
      cases b1 with
      | false => exact ⟨_, st', AV.le_refl _, Store.Has.refl st', no (fun hp => by have := hb1.2 (ok.1 hp.1).2; cases this)⟩
      | true =>
        have okp : c.okP := ok.2 ⟨hb0.1 rfl, hb1.1 rfl⟩
        have e2 := eqCommand_spec c.only c (fit on) st'
        rw [on] at e2
        refine ACalls.le ?_ (e2 _ ?_)
        · exact ⟨AV.le_aggL ⟨AV.le_refl _, AV.le_refl _, AV.le_refl _, AV.le_refl _, AV.le_refl _, AV.le_refl _, AV.le_refl _, AV.le_refl _, AV.le_refl _, AV.le_refl _, trivial⟩, AV.le_refl _, trivial⟩
        rw [← on]
        refine ⟨_, st', AV.le_refl _, Store.Has.refl st', h _ ?_⟩
        rw [decide_eq_true_iff]
        exact ⟨fun e => ⟨okp, hP, hS, e⟩, fun hp => hp.2.2.2⟩
  have k6 : c.K ≠ 6 := by simpa using k6
  refine bcase_intro (fun k7 => ?_) (fun k7 => ?_)
  · have k7 : c.K = 7 := by simpa using k7
    have fin := fun b => h b
    refine ADraw.of_sched infoOK (by rfl) (by rfl) sch50_24 (by rfl) ?_
    refine ⟨⟨(by repeat (first | exact trivial | refine ⟨rfl, ?_⟩ | refine ⟨optR (optR (optR (optK_intro _ (setObj_self _ _ _) rfl))), ?_⟩)), ?_⟩, trivial⟩
    refine ⟨⟨trivial, ?_⟩, trivial⟩
    have ok := Cmd.ok7 k7
    have on := Cmd.only7 k7
    refine id_spec c.N _ _ (fun b0 hb0 => ?_)
    cases b0 with
    | false => exact ⟨_, st', AV.le_refl _, Store.Has.refl st', no (fun hp => by have := hb0.2 (ok.1 hp.1).1; cases this)⟩
    | true =>
      refine tile_spec c.T _ _ (fun b1 hb1 => ?_)
      cases b1 with
      | false => exact ⟨_, st', AV.le_refl _, Store.Has.refl st', no (fun hp => by have := hb1.2 (ok.1 hp.1).2; cases this)⟩
      | true =>
        have okp : c.okP := ok.2 ⟨hb0.1 rfl, hb1.1 rfl⟩
        have e2 := eqCommand_spec c.only c (fit on) st'
        rw [on] at e2
        refine ACalls.le ?_ (e2 _ ?_)
        · exact ⟨AV.le_aggL ⟨AV.le_refl _, AV.le_refl _, AV.le_refl _, AV.le_refl _, AV.le_nil 1, AV.le_refl _, AV.le_refl _, AV.le_refl _, AV.le_refl _, AV.le_refl _, trivial⟩, AV.le_refl _, trivial⟩
        rw [← on]
        refine ⟨_, st', AV.le_refl _, Store.Has.refl st', h _ ?_⟩
        rw [decide_eq_true_iff]
        exact ⟨fun e => ⟨okp, hP, hS, e⟩, fun hp => hp.2.2.2⟩
  have k7 : c.K ≠ 7 := by simpa using k7
  exact ⟨_, st', AV.le_refl _, Store.Has.refl st', no (fun hp => Cmd.ok0 k1 k2 k3 k4 k5 k6 k7 hp.1)⟩


set_option maxHeartbeats 4000000 in
set_option maxRecDepth 20000 in
theorem cmdMay_spec (c : Cmd) (hc : c.fits) (st : Store) (R : AV → Store → Prop) (h : ∀ b : Bool, (b = true ↔ cmdP c) → R (bool b) st) : ACalls Try.prog 136 [.agg (cmdC c)] st R := by
  refine ACalls.of_body (c := cfg 65) infoOK Try.func136 (by rfl) (by rfl) (by rfl) (by rfl) ?_
  refine only_spec c hc _ _ (fun b hb => ?_)
  have no : ¬ cmdP c → R (bool false) st := fun hn => h false (by simpa using hn)
  cases b with
  | false => exact ⟨_, st, AV.le_refl _, Store.Has.refl st, no (fun hp => by have := hb.2 hp.1; cases this)⟩
  | true =>
    refine within_spec c.P 1 8 _ _ (fun b1 hb1 => ?_)
    cases b1 with
    | false => exact ⟨_, st, AV.le_refl _, Store.Has.refl st, no (fun hp => by have := hb1.2 hp.2.1; cases this)⟩
    | true =>
      refine within_spec c.S 0 1099511627776 _ _ (fun b2 hb2 => ?_)
      cases b2 with
      | false => exact ⟨_, st, AV.le_refl _, Store.Has.refl st, no (fun hp => by have := hb2.2 hp.2.2.1; cases this)⟩
      | true =>
        have hP : c.only.P = c.P ∧ c.only.S = c.S ∧ c.only.K = c.K ∧ (c.only.U = c.U ∨ c.only.U = []) := by
          unfold Cmd.only
          repeat' split
          all_goals exact ⟨rfl, rfl, rfl, by simp⟩
        refine bcase_intro (fun w1 => ?_) (fun w1 => ⟨_, st, AV.le_refl _, Store.Has.refl st, no (fun hp => by rw [hp.2.2.2] at w1; simp at w1)⟩)
        refine bcase_intro (fun w2 => ?_) (fun w2 => ⟨_, st, AV.le_refl _, Store.Has.refl st, no (fun hp => by rw [hp.2.2.2] at w2; simp at w2)⟩)
        refine bcase_intro (fun w3 => ?_) (fun w3 => ⟨_, st, AV.le_refl _, Store.Has.refl st, no (fun hp => by rw [hp.2.2.2] at w3; simp at w3)⟩)
        refine bcase_intro (fun w4 => ?_) (fun w4 => ⟨_, st, AV.le_refl _, Store.Has.refl st, no (fun hp => by rw [hp.2.2.2] at w4; simp at w4)⟩)
        refine bcase_intro (fun w5 => ?_) (fun w5 => ⟨_, st, AV.le_refl _, Store.Has.refl st, no (fun hp => by rw [hp.2.2.2] at w5; simp at w5)⟩)
        refine ⟨_, st, AV.le_refl _, Store.Has.refl st, h _ ?_⟩
        rw [rws_len, rws_len]
        constructor
        · intro w6
          refine ⟨hb.1 rfl, hb1.1 rfl, hb2.1 rfl, ?_⟩
          have hU : c.only.U = c.U := by
            rcases hP.2.2.2 with e | e
            · exact e
            · rw [e] at w6
              simp at w6
              rw [e, eq_comm, ← List.length_eq_zero_iff]
              omega
          simp only [beq_iff_eq, Bool.and_eq_true, and_true] at w1 w2 w3 w4 w5
          exact Cmd.eq_of hP.1 hP.2.1 hP.2.2.1 w1 hU w3 w4 w5 w2.1 w2.2
        · intro hp
          rw [hp.2.2.2]
          simp
end Go.Proofs
namespace Go.Proofs
open Go Go.V
set_option linter.unusedVariables false

theorem behindZ (a b : Cmd) : orZ [cmpZ a.P b.P, cmpZ a.S b.S] > 0 ↔ afterP b a := by
  unfold orZ afterP
  by_cases h1 : a.P < b.P
  · have : cmpZ a.P b.P = -1 := by unfold cmpZ; rw [if_pos h1]
    rw [this]
    simp
    omega
  · by_cases h2 : a.P > b.P
    · have : cmpZ a.P b.P = 1 := by unfold cmpZ; rw [if_neg h1, if_pos h2]
      rw [this]
      simp
      omega
    · have : cmpZ a.P b.P = 0 := by unfold cmpZ; rw [if_neg h1, if_neg h2]
      rw [this]
      by_cases h3 : a.S < b.S
      · have : cmpZ a.S b.S = -1 := by unfold cmpZ; rw [if_pos h3]
        rw [this]
        simp
        omega
      · by_cases h4 : a.S > b.S
        · have : cmpZ a.S b.S = 1 := by unfold cmpZ; rw [if_neg h3, if_pos h4]
          rw [this]
          simp
          omega
        · have : cmpZ a.S b.S = 0 := by unfold cmpZ; rw [if_neg h3, if_neg h4]
          rw [this]
          simp
          omega

theorem behind_spec (a b : Cmd) (st : Store) (R : AV → Store → Prop) (h : ∀ x : Bool, (x = true ↔ afterP b a) → R (bool x) st) : ACalls Try.prog 107 [.agg (cmdC a), .agg (cmdC b)] st R := by
  refine ACalls.of_body (c := cfg 18) infoOK Try.func107 (by rfl) (by rfl) (by rfl) (by rfl) ?_
  refine ADraw.of_sched infoOK (by rfl) (by rfl) sch107_1 (by rfl) ?_
  refine ⟨compare_spec a.P b.P _ _ ?_, trivial⟩
  refine ⟨(by repeat (first | exact trivial | refine ⟨rfl, ?_⟩ | refine ⟨optR (optR (optR (optK_intro _ (setObj_self _ _ _) rfl))), ?_⟩)), ?_⟩
  refine ⟨compare_spec a.S b.S _ _ ?_, trivial⟩
  refine ⟨(by repeat (first | exact trivial | refine ⟨rfl, ?_⟩ | refine ⟨optR (optR (optR (optK_intro _ (setObj_self _ _ _) rfl))), ?_⟩)), ?_⟩
  refine ⟨by decide, ?_⟩
  refine ⟨or_spec [cmpZ a.P b.P, cmpZ a.S b.S] (by simp) _ _ ?_, trivial⟩
  refine ⟨(by repeat (first | exact trivial | refine ⟨rfl, ?_⟩ | refine ⟨optR (optR (optR (optK_intro _ (setObj_self _ _ _) rfl))), ?_⟩)), ?_⟩
  refine ⟨⟨trivial, ?_⟩, trivial⟩
  refine ⟨_, st, AV.le_refl _, Store.Has.refl st, h _ ?_⟩
  rw [decide_eq_true_iff]
  exact behindZ a b

theorem after_spec (a b : Cmd) (st : Store) (R : AV → Store → Prop) (h : ∀ x : Bool, (x = true ↔ afterP a b) → R (bool x) st) : ACalls Try.prog 51 [.agg (cmdC a), .agg (cmdC b)] st R := by
  refine ACalls.of_body (c := cfg 24) infoOK Try.func51 (by rfl) (by rfl) (by rfl) (by rfl) ?_
  refine bcase_intro (fun h1 => ⟨_, st, AV.le_refl _, Store.Has.refl st, h _ ?_⟩) (fun h1 => ?_)
  · unfold afterP; simp at h1 ⊢; omega
  refine bcase_intro (fun h2 => ?_) (fun h2 => ⟨_, st, AV.le_refl _, Store.Has.refl st, h _ ?_⟩)
  · refine ⟨_, st, AV.le_refl _, Store.Has.refl st, h _ ?_⟩
    unfold afterP; simp at h1 h2 ⊢; omega
  · unfold afterP; simp at h1 h2 ⊢; omega

def okTo (players : Int) (l : List Cmd) (i : Nat) : Prop := ∀ j, j < i → (h : j < l.length) → (cmdP l[j] ∧ l[j].P ≤ players) ∧ (0 < j → afterP (l[j - 1]'(by omega)) l[j])

theorem okTo_succ {players : Int} {l : List Cmd} {i : Nat} (h : okTo players l i) (hlt : i < l.length) (h1 : (cmdP l[i] ∧ l[i].P ≤ players) ∧ (0 < i → afterP (l[i - 1]'(by omega)) l[i])) : okTo players l (i + 1) := by
  intro j hj hl
  by_cases hji : j = i
  · subst hji; exact h1
  · exact h j (by omega) hl

set_option maxHeartbeats 1000000 in
theorem frameMay_spec (f : Frm) (players : Int) (hf : f.fits) (st : Store) (R : AV → Store → Prop) (h : ∀ x : Bool, (x = true ↔ frmP players f.C) → R (bool x) st) : ACalls Try.prog 86 [.agg (frmC f), int players] st R := by
  refine ACalls.of_body (c := cfg 44) infoOK Try.func86 (by rfl) (by rfl) (by rfl) (by rfl) ?_
  have no : ¬ frmP players f.C → R (bool false) st := fun hn => h false (by simpa using hn)
  refine AWp.loop (σ := Nat) ⟨fun i => [(1, .av (int players)), (2, .bx 2 0), (8, .av (lst 10 cmdC f.C)), (9, .av (int f.C.length)), (10, .av (int (i : Nat)))], fun _ => [(2, frmC f)],
    fun i st' => i ≤ f.C.length ∧ st' = st ∧ okTo players f.C i, fun i => f.C.length - i⟩ infoOK ?_ ?_
  · refine ⟨0, trivial, ⟨Nat.zero_le _, rfl, fun j hj => by omega⟩, ⟨LV.le_refl _, LV.le_refl _, LV.le_refl _, ?_, LV.le_refl _, trivial⟩, (by repeat (first | exact trivial | refine ⟨rfl, ?_⟩ | refine ⟨optR (optR (optR (optK_intro _ (setObj_self _ _ _) rfl))), ?_⟩))⟩
    rw [← rws_len (f := cmdC) f.C]
    exact LV.le_refl _
  · rintro i st' ⟨hi, rfl, hall⟩
    have hlen := hf.1
    refine bcase_intro (fun h1 => ?_) (fun h1 => ?_)
    · have hlt : i < f.C.length := by simpa using h1
      refine ⟨i, rfl, optK_intro _ (rws_get hlt) ?_⟩
      refine ADraw.of_sched infoOK (by rfl) (by rfl) sch86_4 (by rfl) ?_
      refine ⟨cmdMay_spec f.C[i] (hf.2 _ (List.getElem_mem hlt)) _ _ (fun b hb => ?_), trivial⟩
      refine ⟨trivial, ?_⟩
      cases b with
      | false =>
        refine ⟨⟨(by repeat (first | exact trivial | refine ⟨rfl, ?_⟩ | refine ⟨optR (optR (optR (optK_intro _ (setObj_self _ _ _) rfl))), ?_⟩)), ?_⟩, trivial⟩
        exact ⟨_, st', AV.le_refl _, Store.Has.refl st', no (fun hp => by have := hb.2 (hp.2 i hlt).1.1; cases this)⟩
      | true =>
        refine bcase_intro (fun h2 => ?_) (fun h2 => ?_)
        · refine ⟨⟨(by repeat (first | exact trivial | refine ⟨rfl, ?_⟩ | refine ⟨optR (optR (optR (optK_intro _ (setObj_self _ _ _) rfl))), ?_⟩)), ?_⟩, trivial⟩
          exact ⟨_, st', AV.le_refl _, Store.Has.refl st', no (fun hp => by have := (hp.2 i hlt).1.2; simp at h2; omega)⟩
        · refine bcase_intro (fun h3 => ?_) (fun h3 => ?_)
          · have h3 : 0 < i := by simpa using h3
            refine ⟨⟨by omega, by omega⟩, ?_⟩
            refine ⟨i - 1, by omega, optK_intro _ (rws_get (show i - 1 < f.C.length by omega)) ?_⟩
            refine ⟨behind_spec f.C[i] f.C[i - 1] _ _ (fun x hx => ?_), trivial⟩
            refine ⟨(by repeat (first | exact trivial | refine ⟨rfl, ?_⟩ | refine ⟨optR (optR (optR (optK_intro _ (setObj_self _ _ _) rfl))), ?_⟩)), ?_⟩
            cases x with
            | false => exact ⟨_, st', AV.le_refl _, Store.Has.refl st', no (fun hp => by have := hx.2 ((hp.2 i hlt).2 h3); cases this)⟩
            | true =>
              refine ⟨⟨by omega, by omega⟩, ?_⟩
              refine ⟨i + 1, ?_, ⟨hlt, rfl, okTo_succ hall hlt ⟨⟨hb.1 rfl, by simpa using h2⟩, fun _ => hx.1 rfl⟩⟩, ⟨LV.le_refl _, LV.le_refl _, LV.le_refl _, LV.le_refl _, LV.le_refl _, trivial⟩, (by repeat (first | exact trivial | refine ⟨rfl, ?_⟩ | refine ⟨optR (optR (optR (optK_intro _ (setObj_self _ _ _) rfl))), ?_⟩))⟩
              show f.C.length - (i + 1) < f.C.length - i
              omega
          · have h3 : ¬ 0 < i := by simpa using h3
            refine ⟨⟨(by repeat (first | exact trivial | refine ⟨rfl, ?_⟩ | refine ⟨optR (optR (optR (optK_intro _ (setObj_self _ _ _) rfl))), ?_⟩)), ?_⟩, trivial⟩
            refine ⟨⟨by omega, by omega⟩, ?_⟩
            refine ⟨i + 1, ?_, ⟨hlt, rfl, okTo_succ hall hlt ⟨⟨hb.1 rfl, by simpa using h2⟩, fun h4 => absurd h4 h3⟩⟩, ⟨LV.le_refl _, LV.le_refl _, LV.le_refl _, LV.le_refl _, LV.le_refl _, trivial⟩, (by repeat (first | exact trivial | refine ⟨rfl, ?_⟩ | refine ⟨optR (optR (optR (optK_intro _ (setObj_self _ _ _) rfl))), ?_⟩))⟩
            show f.C.length - (i + 1) < f.C.length - i
            omega
    · have hge : i = f.C.length := by
        have : ¬ i < f.C.length := by simpa using h1
        omega
      subst hge
      refine ⟨_, st', AV.le_refl _, Store.Has.refl st', h _ ?_⟩
      rw [rws_len, decide_eq_true_iff]
      unfold frmP
      constructor
      · intro h2
        exact ⟨by omega, fun j hj => hall j hj hj⟩
      · intro h2
        have := h2.1
        omega
end Go.Proofs
namespace Go.Proofs
open Go Go.V
set_option linter.unusedVariables false

def framesTo (r : Rep) (i : Nat) : Prop := ∀ j, j < i → (h : j < r.F.length) → r.F[j].turn = j ∧ frmP r.P r.F[j].C

theorem framesTo_succ {r : Rep} {i : Nat} (h : framesTo r i) (hlt : i < r.F.length) (h1 : r.F[i].turn = i ∧ frmP r.P r.F[i].C) : framesTo r (i + 1) := by
  intro j hj hl
  by_cases hji : j = i
  · subst hji; exact h1
  · exact h j (by omega) hl

set_option maxHeartbeats 1000000 in
theorem replayMay_spec (r : Rep) (hr : r.fits) (st : Store) (R : AV → Store → Prop) (h : ∀ x : Bool, (x = true ↔ repP r) → R (bool x) st) : ACalls Try.prog 41 [.agg (repC r)] st R := by
  refine ACalls.of_body (c := cfg 45) infoOK Try.func41 (by rfl) (by rfl) (by rfl) (by rfl) ?_
  have no : ¬ repP r → R (bool false) st := fun hn => h false (by simpa using hn)
  refine bcase_intro (fun h1 => ⟨_, st, AV.le_refl _, Store.Has.refl st, no (fun hp => by have := hp.1; simp at h1; omega)⟩) (fun h1 => ?_)
  refine bcase_intro (fun h2 => ⟨_, st, AV.le_refl _, Store.Has.refl st, no (fun hp => by have := hp.1; simp at h2; omega)⟩) (fun h2 => ?_)
  refine groundMay_spec r.G hr.1 _ _ (fun b hb => ?_)
  cases b with
  | false => exact ⟨_, st, AV.le_refl _, Store.Has.refl st, no (fun hp => by have := hb.2 hp.2.1; cases this)⟩
  | true =>
  refine bcase_intro (fun h3 => ⟨_, st, AV.le_refl _, Store.Has.refl st, no (fun hp => by have := hp.2.2.1; rw [rws_len] at h3; simp at h3; omega)⟩) (fun h3 => ?_)
  rw [rws_len] at h3
  refine AWp.loop (σ := Nat) ⟨fun i => [(1, .bx 1 0), (26, .av (lst 3 frmC r.F)), (27, .av (int r.F.length)), (28, .av (int (i : Nat)))], fun _ => [(1, repC r)],
    fun i st' => i ≤ r.F.length ∧ st' = st ∧ framesTo r i, fun i => r.F.length - i⟩ infoOK ?_ ?_
  · refine ⟨0, trivial, ⟨Nat.zero_le _, rfl, fun j hj => by omega⟩, ⟨LV.le_refl _, LV.le_refl _, ?_, LV.le_refl _, trivial⟩, (by repeat (first | exact trivial | refine ⟨rfl, ?_⟩ | refine ⟨optR (optR (optR (optK_intro _ (setObj_self _ _ _) rfl))), ?_⟩))⟩
    rw [← rws_len (f := frmC) r.F]
    exact LV.le_refl _
  · rintro i st' ⟨hi, rfl, hall⟩
    have hlen := hr.2.1
    refine bcase_intro (fun h4 => ?_) (fun h4 => ?_)
    · have hlt : i < r.F.length := by simpa using h4
      refine ⟨i, rfl, optK_intro _ (rws_get hlt) ?_⟩
      refine bcase_intro (fun h5 => ⟨_, st', AV.le_refl _, Store.Has.refl st', no (fun hp => by have := (hp.2.2.2 i hlt).1; simp [this] at h5)⟩) (fun h5 => ?_)
      refine frameMay_spec r.F[i] r.P (hr.2.2 _ (List.getElem_mem hlt)) _ _ (fun x hx => ?_)
      cases x with
      | false => exact ⟨_, st', AV.le_refl _, Store.Has.refl st', no (fun hp => by have := hx.2 (hp.2.2.2 i hlt).2; cases this)⟩
      | true =>
        refine ⟨⟨by omega, by omega⟩, ?_⟩
        refine ⟨i + 1, ?_, ⟨hlt, rfl, framesTo_succ hall hlt ⟨by simpa using h5, hx.1 rfl⟩⟩, ⟨LV.le_refl _, LV.le_refl _, LV.le_refl _, LV.le_refl _, trivial⟩, (by repeat (first | exact trivial | refine ⟨rfl, ?_⟩ | refine ⟨optR (optR (optR (optK_intro _ (setObj_self _ _ _) rfl))), ?_⟩))⟩
        show r.F.length - (i + 1) < r.F.length - i
        omega
    · have hge : i = r.F.length := by
        have : ¬ i < r.F.length := by simpa using h4
        omega
      subst hge
      refine ⟨_, st', AV.le_refl _, Store.Has.refl st', h true ?_⟩
      simp only [true_iff]
      exact ⟨by simp at h1 h2; omega, hb.1 rfl, by simp at h3; omega, fun j hj => hall j hj hj⟩

set_option maxHeartbeats 1000000 in
theorem replay26_spec (r : Rep) (hr : r.fits) (st : Store) (R : AV → Store → Prop) (h : ∀ x : Bool, (x = true ↔ repP r) → R (bool x) st) : ACalls Try.prog 14 [.agg (repC r)] st R := by
  refine ACalls.of_body (c := cfg 92) infoOK Try.func14 (by rfl) (by rfl) (by rfl) (by rfl) ?_
  have no : ¬ repP r → R (bool false) st := fun hn => h false (by simpa using hn)
  refine bcase_intro (fun h1 => ⟨_, st, AV.le_refl _, Store.Has.refl st, no (fun hp => by have := hp.1; simp at h1; omega)⟩) (fun h1 => ?_)
  refine bcase_intro (fun h2 => ⟨_, st, AV.le_refl _, Store.Has.refl st, no (fun hp => by have := hp.1; simp at h2; omega)⟩) (fun h2 => ?_)
  refine ground5_spec r.G hr.1 _ _ (fun b hb => ?_)
  cases b with
  | false => exact ⟨_, st, AV.le_refl _, Store.Has.refl st, no (fun hp => by have := hb.2 hp.2.1; cases this)⟩
  | true =>
  refine bcase_intro (fun h3 => ⟨_, st, AV.le_refl _, Store.Has.refl st, no (fun hp => by have := hp.2.2.1; rw [rws_len] at h3; simp at h3; omega)⟩) (fun h3 => ?_)
  rw [rws_len] at h3
  refine AWp.loop (σ := Nat) ⟨fun i => [(1, .bx 1 0), (3, .av (int (i : Nat)))], fun _ => [(1, repC r)],
    fun i st' => i ≤ r.F.length ∧ st' = st ∧ framesTo r i, fun i => r.F.length - i⟩ infoOK ?_ ?_
  · exact ⟨0, trivial, ⟨Nat.zero_le _, rfl, fun j hj => by omega⟩, ⟨LV.le_refl _, LV.le_refl _, trivial⟩, (by repeat (first | exact trivial | refine ⟨rfl, ?_⟩ | refine ⟨optR (optR (optR (optK_intro _ (setObj_self _ _ _) rfl))), ?_⟩))⟩
  · rintro i st' ⟨hi, rfl, hall⟩
    have hlen := hr.2.1
    refine bcase_intro (fun h4 => ?_) (fun h4 => ?_)
    · have hlt : i < r.F.length := lt_len h4
      have hfit := hr.2.2 _ (List.getElem_mem hlt)
      have hclen := hfit.1
      refine ⟨i, rfl, optK_intro _ (rws_get hlt) ?_⟩
      refine bcase_intro (fun h5 => ⟨_, st', AV.le_refl _, Store.Has.refl st', no (fun hp => by have := (hp.2.2.2 i hlt).1; simp [this] at h5)⟩) (fun h5 => ?_)
      refine bcase_intro (fun h6 => ⟨_, st', AV.le_refl _, Store.Has.refl st', no (fun hp => by have := (hp.2.2.2 i hlt).2.1; rw [rws_len] at h6; simp at h6; omega)⟩) (fun h6 => ?_)
      rw [rws_len] at h6
      refine AWp.loop (σ := Nat) ⟨fun k => [(1, .bx 1 0), (3, .av (int (i : Nat))), (4, .bx 4 0), (5, .av (int (k : Nat)))], fun _ => [(1, repC r), (4, frmC r.F[i])],
        fun k s2 => k ≤ r.F[i].C.length ∧ s2 = st' ∧ okTo r.P r.F[i].C k, fun k => r.F[i].C.length - k⟩ infoOK ?_ ?_
      · exact ⟨0, trivial, ⟨Nat.zero_le _, rfl, fun j hj => by omega⟩, ⟨LV.le_refl _, LV.le_refl _, LV.le_refl _, LV.le_refl _, trivial⟩, (by repeat (first | exact trivial | refine ⟨rfl, ?_⟩ | refine ⟨optR (optR (optR (optK_intro _ (setObj_self _ _ _) rfl))), ?_⟩))⟩
      · rintro k st' ⟨hk, rfl, hok⟩
        refine bcase_intro (fun h7 => ?_) (fun h7 => ?_)
        · have hklt : k < r.F[i].C.length := lt_len h7
          refine ADraw.of_sched infoOK (by rfl) (by rfl) sch14_12 (by rfl) ?_
          refine ⟨k, rfl, optK_intro _ (rws_get hklt) ?_⟩
          refine ⟨command21_spec r.F[i].C[k] (hfit.2 _ (List.getElem_mem hklt)) _ _ (fun b2 hb2 => ?_), trivial⟩
          refine ⟨(by repeat (first | exact trivial | refine ⟨rfl, ?_⟩ | refine ⟨optR (optR (optR (optK_intro _ (setObj_self _ _ _) rfl))), ?_⟩)), ?_⟩
          cases b2 with
          | false =>
            refine ⟨⟨(by repeat (first | exact trivial | refine ⟨rfl, ?_⟩ | refine ⟨optR (optR (optR (optK_intro _ (setObj_self _ _ _) rfl))), ?_⟩)), ?_⟩, trivial⟩
            exact ⟨_, st', AV.le_refl _, Store.Has.refl st', no (fun hp => by have := hb2.2 ((hp.2.2.2 i hlt).2.2 k hklt).1.1; cases this)⟩
          | true =>
            refine ⟨k, rfl, optK_intro _ (rws_get hklt) ?_⟩
            refine bcase_intro (fun h8 => ?_) (fun h8 => ?_)
            · refine ⟨⟨(by repeat (first | exact trivial | refine ⟨rfl, ?_⟩ | refine ⟨optR (optR (optR (optK_intro _ (setObj_self _ _ _) rfl))), ?_⟩)), ?_⟩, trivial⟩
              exact ⟨_, st', AV.le_refl _, Store.Has.refl st', no (fun hp => by have := ((hp.2.2.2 i hlt).2.2 k hklt).1.2; simp at h8; omega)⟩
            · refine bcase_intro (fun h9 => ?_) (fun h9 => ?_)
              · have h9 : 0 < k := by simpa using h9
                refine ⟨⟨by omega, by omega⟩, ?_⟩
                refine ⟨k - 1, by omega, optK_intro _ (rws_get (show k - 1 < r.F[i].C.length by omega)) ?_⟩
                refine ⟨k, rfl, optK_intro _ (rws_get hklt) ?_⟩
                refine ⟨after_spec r.F[i].C[k - 1] r.F[i].C[k] _ _ (fun x hx => ?_), trivial⟩
                refine ⟨(by repeat (first | exact trivial | refine ⟨rfl, ?_⟩ | refine ⟨optR (optR (optR (optK_intro _ (setObj_self _ _ _) rfl))), ?_⟩)), ?_⟩
                cases x with
                | false => exact ⟨_, st', AV.le_refl _, Store.Has.refl st', no (fun hp => by have := hx.2 (((hp.2.2.2 i hlt).2.2 k hklt).2 h9); cases this)⟩
                | true =>
                  refine ⟨⟨by omega, by omega⟩, ?_⟩
                  refine ⟨k + 1, ?_, ⟨hklt, rfl, okTo_succ hok hklt ⟨⟨hb2.1 rfl, by simpa using h8⟩, fun _ => hx.1 rfl⟩⟩, ⟨LV.le_refl _, LV.le_refl _, LV.le_refl _, LV.le_refl _, trivial⟩, (by repeat (first | exact trivial | refine ⟨rfl, ?_⟩ | refine ⟨optR (optR (optR (optK_intro _ (setObj_self _ _ _) rfl))), ?_⟩))⟩
                  show r.F[i].C.length - (k + 1) < r.F[i].C.length - k
                  omega
              · have h9 : ¬ 0 < k := by simpa using h9
                refine ⟨⟨(by repeat (first | exact trivial | refine ⟨rfl, ?_⟩ | refine ⟨optR (optR (optR (optK_intro _ (setObj_self _ _ _) rfl))), ?_⟩)), ?_⟩, trivial⟩
                refine ⟨⟨by omega, by omega⟩, ?_⟩
                refine ⟨k + 1, ?_, ⟨hklt, rfl, okTo_succ hok hklt ⟨⟨hb2.1 rfl, by simpa using h8⟩, fun h10 => absurd h10 h9⟩⟩, ⟨LV.le_refl _, LV.le_refl _, LV.le_refl _, LV.le_refl _, trivial⟩, (by repeat (first | exact trivial | refine ⟨rfl, ?_⟩ | refine ⟨optR (optR (optR (optK_intro _ (setObj_self _ _ _) rfl))), ?_⟩))⟩
                show r.F[i].C.length - (k + 1) < r.F[i].C.length - k
                omega
        · have hge : k = r.F[i].C.length := ge_len h7 hk
          subst hge
          refine ⟨⟨by omega, by omega⟩, ?_⟩
          refine ⟨i + 1, ?_, ⟨hlt, rfl, framesTo_succ hall hlt ⟨by simpa using h5, by simp at h6; omega, fun j hj => hok j hj hj⟩⟩, ⟨LV.le_refl _, LV.le_refl _, trivial⟩, (by repeat (first | exact trivial | refine ⟨rfl, ?_⟩ | refine ⟨optR (optR (optR (optK_intro _ (setObj_self _ _ _) rfl))), ?_⟩))⟩
          show r.F.length - (i + 1) < r.F.length - i
          omega
    · have hge : i = r.F.length := ge_len h4 hi
      subst hge
      refine ⟨_, st', AV.le_refl _, Store.Has.refl st', h true ?_⟩
      simp only [true_iff]
      exact ⟨by simp at h1 h2; omega, hb.1 rfl, by simp at h3; omega, fun j hj => hall j hj hj⟩
end Go.Proofs
