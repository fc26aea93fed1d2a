/- The ground on which laws of thronglaw24 are proved: contracts of functions and plain lemmas; no condition beyond the row's own. -/
import Derived.Test.YtbemejeejgpkaaaGreatKC
import Derived.Test.YtbemejeejgpkaaaGreatKG
import Derived.Test.YtbemejeejgpkaaaGreatKF
set_option linter.unusedSimpArgs false
set_option linter.unusedVariables false
namespace Go.Proofs
open Go Go.V
def yr4:V.Sched:=(sv [0,1,3,4,5] (.e 2 [4] (.e 6 [] (.e 7 [0,1,3,4,5] (.e 8 [] .done .stop) .stop) (.e 7 [0,1,3,4,5] (.e 6 [] (.e 8 [] .done .stop) .stop) .stop)) (.e 7 [0,1,3,4,5] (.e 2 [4] (.e 6 [] (.e 8 [] .done .stop) .stop) .stop) .stop)))
def yla:V.Sched:=(sv [0,1,2,3,4,5,6,7,8] (.e 9 [3] (sv [10] .done) .stop))
def yk9:V.Sched:=(sv [0,1,2,3,4] (.e 5 [] (.e 6 [] .done .stop) .stop))
def yk8:V.Sched:=(sv [0,1,2,3,4,5,6,7,8,9,10,11,12,13,14] (.e 15 [9] (sv [16,17,18,19,20,21,22,23,24,25,27,28,29,30] (.e 26 [30] (sv [31,32,33,34,35,36,37,38,39,40,41,42,43,44,46,47,48,49] (.e 45 [49] (.e 50 [] (sv [51,52,53] .done) .stop) .stop)) .stop)) .stop))
def yk7:V.Sched:=(sv [0,1,2,3,4,5] (.e 6 [3] (sv [7] .done) .stop))
def yk6:V.Sched:=(sv [0,1,2,3,4,5,6,7,8,9,11] (.e 10 [] (sv [12,13] (.e 14 [] .done .stop)) .stop))
def yk5:V.Sched:=(sv [0,1,2,3,4,5,6,7,8,9,10,12,13] (.e 11 [0,5,13] (.e 14 [0] (.e 15 [] (sv [16,17,18] (.e 19 [0,1,2,3,4,5,6,7,8,9,10,12,13,16,17,18] (.e 20 [] (.e 21 [] .done .stop) .stop) .stop)) (.e 19 [0,1,2,3,4,5,6,7,8,9,10,12,13] (.e 15 [] (sv [16,17,18] (.e 20 [] (.e 21 [] .done .stop) .stop)) .stop) .stop)) (.e 19 [0,1,2,3,4,5,6,7,8,9,10,12,13] (.e 14 [0] (.e 15 [] (sv [16,17,18] (.e 20 [] (.e 21 [] .done .stop) .stop)) .stop) .stop) .stop)) (.e 19 [0,1,2,3,4,5,6,7,8,9,10,12,13] (.e 11 [0,5,13] (.e 14 [0] (.e 15 [] (sv [16,17,18] (.e 20 [] (.e 21 [] .done .stop) .stop)) .stop) .stop) .stop) .stop)))
def yk3:V.Sched:=(sv [0,1,2,3,4,5,6] (.e 7 [1,4] (sv [8,9,10,11,12,13,14,15,16] (.e 17 [] .done .stop)) .stop))
def zth:V.Sched:=(sv [0,1,2,3,4,5,6,7,8,9,10,11,12,13,14,15,16,17,18,19,20,21,22,23,24] (.e 25 [] (sv [26,27,28,29,30,31,32,35,36,37,38,39,40] (.e 33 [36,40] (sv [34] (.e 41 [34] (sv [42,43,44,45,46,47,48,49,50,51,52,53,54,55,56,57,58,59,60] .done) .stop)) .stop)) .stop))
def yr3:V.Sched:=(sv [0,1,2,3,5,6,7,8] (.e 4 [6,8] (.e 9 [] (sv [10] (.e 11 [] .done .stop)) .stop) .stop))
def yr2:V.Sched:=(sv [0,1,2,3,4,5,6,7,8,9,10,11,12] (.e 13 [] .done .stop))
def yr1:V.Sched:=(sv [0,1,3,4] (.e 2 [4] (.e 5 [] (sv [6] (.e 7 [] .done .stop)) .stop) .stop))
def yr0:V.Sched:=(sv [0,1,2,3,4,5,6,7,8,9,10] (.e 11 [0,1,2,3,4,5,6,7,8,9,10] (.e 12 [] .done .stop) .stop))
def yrz:V.Sched:=(sv [0,1,2,3,4,5,6,7] (.e 8 [] (.e 9 [] .done .stop) .stop))
def yry:V.Sched:=(sv [0,1,2,3,4,5] (.e 6 [2,5] (.e 7 [] (.e 8 [] .done .stop) .stop) .stop))
def yrx:V.Sched:=(sv [0,1,2,3,4,5,6,7,8] .done)
def yrw:V.Sched:=(sv [0,1,2,3,4,5,6,7,8] .done)
def yrv:V.Sched:=(sv [0,1,3,4] (.e 2 [4] (.e 5 [] (sv [6] (.e 7 [] .done .stop)) .stop) .stop))
def zyz:V.Sched:=(sv [0,1,2,3,5,6,7,8] (.e 4 [6] (.e 9 [] (sv [10] (.e 11 [] .done .stop)) .stop) .stop))
def yru:V.Sched:=(sv [0,1,2,3,4,5,10,11,12] (.e 6 [0,2,11] (sv [7,8,9] (.e 13 [0] (.e 14 [] (.e 15 [] .done .stop) .stop) .stop)) .stop))
def yrt:V.Sched:=(sv [0,1,2,3,4,5,6,7,8,9,10,11,12,13,14,15] (.e 16 [10,14] (.e 17 [] .done .stop) .stop))
def yrs:V.Sched:=(sv [0,1,2,3,4,5,6,7,8,10,11,12,13,14,15,17,18,19,20,21,22] (.e 9 [13,20] (.e 16 [20] (.e 23 [] (sv [24,25] (.e 26 [] (sv [27,28] (.e 29 [] (sv [30,31] (.e 32 [] .done .stop)) .stop)) .stop)) .stop) .stop) .stop))
def yrr:V.Sched:=(sv [0,1,2,3,4,5,6,7,8,9,10,11,12,13,14,15,16,17,18,19] .done)
def ykj:V.Sched:=(sv [0,1,2,3,4,5,6,7,8,9,10,11,12,13,14,15,16,17,18,19,20,21,22,23,24,25,26,27,28,29,30,31,32,33,34,35,36,37,38,39,40,41,42,43,44,45,46,47,48,49,50] (.e 51 [] (sv [52,53,54,55,56,57,58,59,60,61,62,63] (.e 64 [] (sv [65,66,67,68,69,70,71,72,73,74,75,76,77,78,79,80,81,82,83,84,85,86,87] .done) .stop)) .stop))
def yki:V.Sched:=(sv [0,1,2,3,4,5,6,7,8] .done)
def yrq:V.Sched:=(sv [0,1,2,3,4,5,6,7,8,9,10,11,12,13,14,15,16] (.e 17 [10,12,14] (sv [18] (.e 19 [] (sv [20,21] .done) .stop)) .stop))
def yrp:V.Sched:=(sv [0,1,2] (.e 3 [0] (.e 4 [] .done .stop) .stop))
def yro:V.Sched:=(sv [0,1,4,5] (.e 2 [5] (.e 3 [5] (.e 6 [] (.e 7 [] (.e 8 [] (.e 9 [] .done .stop) .stop) .stop) .stop) .stop) .stop))
def ykh:V.Sched:=(sv [0,1,2,3,4,5,6,7,8,9,10,11,12,13,14,15,16,17] .done)
def yrn:V.Sched:=(sv [0,1,2,3,4,5,6,7,8,9,10] (.e 11 [0,1,2,3,4,5,6,7,8,9,10] (.e 12 [] .done .stop) .stop))
def yrm:V.Sched:=(sv [0,1,2,3,4,5,6,7,8] (.e 9 [] .done .stop))
def ykg:V.Sched:=(sv [0,1,2,3,4] (.e 5 [] .done .stop))
def yrl:V.Sched:=(sv [0,1,2,3,5,6,7,8] (.e 4 [6,8] (.e 9 [] (sv [10] (.e 11 [] .done .stop)) .stop) .stop))
def ykf:V.Sched:=(sv [0,1] (.e 2 [] (sv [3,4,5,6,7] (.e 8 [] (sv [9,10,11,12,13,14,15,16,17,18,19,20,21,22,23,24,25] .done) .stop)) .stop))
def yrk:V.Sched:=(sv [0,1,3,4,6,7] (.e 2 [4,7] (sv [9] (.e 5 [7] (.e 8 [] (.e 10 [] (sv [11] (.e 12 [] (sv [13] (.e 14 [] .done .stop)) .stop)) .stop) .stop) .stop)) .stop))
def zyy:V.Sched:=(sv [0] (.e 1 [0] (sv [2] (.e 3 [] (.e 4 [] .done .stop) .stop)) .stop))
def zyx:V.Sched:=(sv [0,1,2,3,4,5,6,7] (.e 8 [] .done .stop))
def yrj:V.Sched:=(sv [0,1,2,3,4,5,6,7,8,11] (.e 9 [] (sv [10] .done) .stop))
def yri:V.Sched:=(sv [0,1,2,3,4,5,6,11,12] (.e 7 [0,2,4,12] (sv [8,9,10] (.e 13 [0] (.e 14 [] (.e 15 [] .done .stop) .stop) .stop)) .stop))
def yrh:V.Sched:=(sv [0,1,2,3,4,5] (.e 6 [1] (.e 7 [] .done .stop) .stop))
def zyw:V.Sched:=(sv [0,1,2,3,4] (.e 5 [1] (sv [6] .done) .stop))
def ztf:V.Sched:=(sv [0,1,2,3,4] (.e 5 [] .done .stop))
def zte:V.Sched:=(sv [0,1,2,3,4,5,6,8,9] (.e 7 [1,3,9] (.e 10 [1,3] (sv [11] (.e 12 [1] (.e 13 [] (sv [14] .done) .stop) .stop)) .stop) .stop))
def ztd:V.Sched:=(sv [0,1,2,3,4] (.e 5 [] .done .stop))
def yrg:V.Sched:=(sv [0,1,2,3,4,5,6,7,8] .done)
def yrf:V.Sched:=(sv [0,1,2,3,4,5] (.e 6 [] (sv [7] .done) .stop))
def yre:V.Sched:=(sv [0,1,2,3,4] (.e 5 [] (.e 6 [0,1,2,3,4] (.e 7 [] .done .stop) .stop) (.e 6 [0,1,2,3,4] (.e 5 [] (.e 7 [] .done .stop) .stop) .stop)))
def zl4:V.Sched:=(sv [0,1,2,3,4] (.e 5 [0] (.e 6 [] (.e 7 [] .done .stop) .stop) .stop))
def yke:V.Sched:=(sv [0,1,2,3,4,5,6,7,8,9,10,11,12,13,14,15,16,17,18,19,20,21,22,23,24,25,26,27] .done)
def yrd:V.Sched:=(sv [0,1,2,3] (.e 4 [] (sv [5,6,7,8,9,10,11] (.e 12 [] (sv [13,14,15,16,17,18,19,20] (.e 21 [] (sv [22,23] .done) .stop)) .stop)) .stop))
def ykd:V.Sched:=(sv [0,1,2,3,4,5,6,7] (.e 8 [] .done .stop))
def yl2:V.Sched:=(sv [0,1,2,3,4,5,7,8,9,10,11,12] (.e 6 [9,12] (.e 13 [] (sv [14] (.e 15 [] .done .stop)) .stop) .stop))
def yl1:V.Sched:=(sv [0,1,3,4] (.e 2 [4] (.e 5 [] (sv [6] (.e 7 [] .done .stop)) .stop) .stop))
def yl0:V.Sched:=(sv [0,1,2,3,5,6,7,8] (.e 4 [6,8] (.e 9 [] (sv [10] (.e 11 [] .done .stop)) .stop) .stop))
def ztr:V.Sched:=(sv [0,1,2,3,4,5,6,7,9,10,11] (.e 8 [4,9,11] (.e 12 [] (sv [13] .done) .stop) .stop))
def ztq:V.Sched:=(sv [0,1,2,3,4,5,6,7,8,9,10,11] (.e 12 [5,7,9] (sv [13] (.e 14 [] (sv [15,16] .done) .stop)) .stop))
def ylz:V.Sched:=(sv [0,1,2,3,4,5,6] (.e 7 [] (sv [8,9,10] (.e 11 [] (.e 12 [] .done .stop) .stop)) .stop))
def yly:V.Sched:=(sv [0,1,2,3,4,5,6,7] (.e 8 [] .done .stop))
def ylx:V.Sched:=(sv [0,1,2,3,4,5,6,7] (.e 8 [] .done .stop))
def ylw:V.Sched:=(sv [0,1,2,3,4,5] (.e 6 [] .done .stop))
def zy2:V.Sched:=(sv [0,1,2,3,4,5,6,7,8,9,10,11,12,13,15,16] (.e 14 [16] (.e 17 [13] (sv [18,19,20] .done) .stop) (.e 17 [13] (sv [18] (.e 14 [16] (sv [19,20] .done) .stop)) .stop)))
def ylv:V.Sched:=(sv [0,1,2,3,4,5,6,7] (.e 8 [6] (.e 9 [] .done .stop) .stop))
def ylu:V.Sched:=(sv [0,1,2,3,4,5,6,7,8,9] (.e 10 [7] (.e 11 [] .done .stop) .stop))
def ylt:V.Sched:=(sv [0,1,2,3,4,6,7,8,9,10] (.e 5 [7] (.e 11 [] (.e 12 [] (.e 13 [] .done .stop) .stop) .stop) .stop))
def yls:V.Sched:=(sv [0,1,2,3,4,6] (.e 5 [] (.e 7 [] (sv [8,9,10] (.e 11 [] (.e 12 [] .done .stop) .stop)) .stop) .stop))
def ylr:V.Sched:=(sv [0,1,2,3,4,5,6,7,8,9,11,12] (.e 10 [3,4] (.e 13 [3,4,8,9] (.e 14 [3,4] (.e 15 [] .done .stop) .stop) .stop) (.e 13 [3,4,8,9] (.e 10 [3,4] (.e 14 [3,4] (.e 15 [] .done .stop) .stop) .stop) .stop)))
def ztp:V.Sched:=(sv [0,1,2,3,4,5] (.e 6 [] .done .stop))
def zto:V.Sched:=(sv [0,1,2,3,4,5,6,9] (.e 7 [] (sv [8] .done) .stop))
def ylq:V.Sched:=(sv [0,1,2,3,5,6,7,8] (.e 4 [6] (.e 9 [] (sv [10] (.e 11 [] .done .stop)) .stop) .stop))
def ylp:V.Sched:=(sv [0,1,2,3,4,5,6,7,8,9,10,11,12] (.e 13 [] .done .stop))
def ylo:V.Sched:=(sv [0,1,2,3,4] (.e 5 [] .done .stop))
def ztn:V.Sched:=(sv [0,1,2,3,4,5,6,7,8,9] (.e 10 [3,7] (.e 11 [0,1,2,3,4,5,6,7,8,9] (.e 12 [0,1,2,3,4,5,6,7,8,9] (.e 13 [] (.e 14 [] .done .stop) .stop) .stop) (.e 12 [0,1,2,3,4,5,6,7,8,9] (.e 11 [0,1,2,3,4,5,6,7,8,9] (.e 13 [] (.e 14 [] .done .stop) .stop) .stop) .stop)) (.e 11 [0,1,2,3,4,5,6,7,8,9] (.e 10 [3,7] (.e 12 [0,1,2,3,4,5,6,7,8,9] (.e 13 [] (.e 14 [] .done .stop) .stop) .stop) (.e 12 [0,1,2,3,4,5,6,7,8,9] (.e 10 [3,7] (.e 13 [] (.e 14 [] .done .stop) .stop) .stop) .stop)) (.e 12 [0,1,2,3,4,5,6,7,8,9] (.e 10 [3,7] (.e 11 [0,1,2,3,4,5,6,7,8,9] (.e 13 [] (.e 14 [] .done .stop) .stop) .stop) (.e 11 [0,1,2,3,4,5,6,7,8,9] (.e 10 [3,7] (.e 13 [] (.e 14 [] .done .stop) .stop) .stop) .stop)) .stop))))
def ztm:V.Sched:=(sv [0,1,2,3,4,5,6,7,8] (.e 9 [5] (sv [10,11,12,13,14,15,16,17,18,19,20,21,22,23,24,25,26,27,28,29,30,31,36,37] (.e 32 [37] (sv [33,34,35,38,39,40,41] .done) .stop)) .stop))
def ztl:V.Sched:=(sv [0,1,2,3,4,5,6,7] (.e 8 [] (sv [9,10] (.e 11 [] .done .stop)) .stop))
def ztk:V.Sched:=(sv [0,1,2,3,4,5,6,7,8,9] (.e 10 [3,7] (.e 11 [0,1,2,3,4,5,6,7,8,9] (.e 12 [0,1,2,3,4,5,6,7,8,9] (.e 13 [] (.e 14 [] .done .stop) .stop) .stop) (.e 12 [0,1,2,3,4,5,6,7,8,9] (.e 11 [0,1,2,3,4,5,6,7,8,9] (.e 13 [] (.e 14 [] .done .stop) .stop) .stop) .stop)) (.e 11 [0,1,2,3,4,5,6,7,8,9] (.e 10 [3,7] (.e 12 [0,1,2,3,4,5,6,7,8,9] (.e 13 [] (.e 14 [] .done .stop) .stop) .stop) (.e 12 [0,1,2,3,4,5,6,7,8,9] (.e 10 [3,7] (.e 13 [] (.e 14 [] .done .stop) .stop) .stop) .stop)) (.e 12 [0,1,2,3,4,5,6,7,8,9] (.e 10 [3,7] (.e 11 [0,1,2,3,4,5,6,7,8,9] (.e 13 [] (.e 14 [] .done .stop) .stop) .stop) (.e 11 [0,1,2,3,4,5,6,7,8,9] (.e 10 [3,7] (.e 13 [] (.e 14 [] .done .stop) .stop) .stop) .stop)) .stop))))
def ztj:V.Sched:=(sv [0,1,2,3] (.e 4 [1] (sv [5] .done) .stop))
def zti:V.Sched:=(sv [0,1,2,3,4,5,6,7,8,9,10,11,12,13,14,15,16,17,18,19,20,22] (.e 21 [] (sv [23,24] (.e 25 [] .done .stop)) .stop))
def yln:V.Sched:=(sv [0,1,2,3,4,5,6,7,8,9,10,11] .done)
def ylm:V.Sched:=(sv [0,1,2,3,4,5,6,7,8,9,10,11,12] .done)
def yll:V.Sched:=(sv [0,1,2,3,4,5,6,7,8,9,10,11,12] .done)
def ylk:V.Sched:=(sv [0,1,2,3,4,5] (.e 6 [4] (.e 7 [] .done .stop) .stop))
def zc4:V.Sched:=(sv [0,1,2,3,4,5,6,7,8,9,10,11,12,14,15] (.e 13 [] (sv [16] (.e 17 [] .done .stop)) .stop))
def ylj:V.Sched:=(sv [0,1,2,4] (.e 3 [0,1] (.e 5 [0,1] (sv [6] (.e 7 [] (sv [8] (.e 9 [] .done .stop)) .stop)) .stop) .stop))
def yli:V.Sched:=(sv [0,1,2,3,4] (.e 5 [] (.e 6 [] .done .stop) .stop))
def ylh:V.Sched:=(sv [0,1,2,3,4] (.e 5 [] .done .stop))
def zy1:V.Sched:=(sv [0,1,2,3,4,5] (.e 6 [] .done .stop))
def ylg:V.Sched:=(sv [0,1,3,4] (.e 2 [4] (.e 5 [] (sv [6] (.e 7 [] .done .stop)) .stop) .stop))
def ylf:V.Sched:=(sv [0,1,2,4,5,6] (.e 3 [5,6] (.e 7 [] (sv [8] (.e 9 [] (.e 10 [0,1,2,4,5,6,8] (.e 11 [] .done .stop) .stop) (.e 10 [0,1,2,4,5,6,8] (.e 9 [] (.e 11 [] .done .stop) .stop) .stop))) (.e 10 [0,1,2,4,5,6] (.e 7 [] (sv [8] (.e 9 [] (.e 11 [] .done .stop) .stop)) .stop) .stop)) (.e 10 [0,1,2,4,5,6] (.e 3 [5,6] (.e 7 [] (sv [8] (.e 9 [] (.e 11 [] .done .stop) .stop)) .stop) .stop) .stop)))
def yle:V.Sched:=(sv [0,1,2,4,5,6] (.e 3 [5,6] (.e 7 [] (sv [8] (.e 9 [] (.e 10 [0,1,2,4,5,6,8] (.e 11 [] .done .stop) .stop) (.e 10 [0,1,2,4,5,6,8] (.e 9 [] (.e 11 [] .done .stop) .stop) .stop))) (.e 10 [0,1,2,4,5,6] (.e 7 [] (sv [8] (.e 9 [] (.e 11 [] .done .stop) .stop)) .stop) .stop)) (.e 10 [0,1,2,4,5,6] (.e 3 [5,6] (.e 7 [] (sv [8] (.e 9 [] (.e 11 [] .done .stop) .stop)) .stop) .stop) .stop)))
def yld:V.Sched:=(sv [0,1,2,3,5,6,7,8] (.e 4 [6,8] (.e 9 [] (sv [10] (.e 11 [] .done .stop)) .stop) .stop))
def ylc:V.Sched:=(sv [0,1,2,3,4,5,6,7] (.e 8 [6] (.e 9 [] .done .stop) .stop))
def ylb:V.Sched:=(sv [0,1,2,3,4,5,6,7,8,9] (.e 10 [7] (.e 11 [] .done .stop) .stop))
def yk4:V.Sched:=(sv [0,1,2,3,4,5,6,7,8,9,10,11] .done)
def yk2:V.Sched:=(sv [0,1,2,3,4,5,7] (.e 6 [0,7] (.e 8 [] .done .stop) .stop))
def yk1:V.Sched:=(sv [0,1] (.e 2 [0] (.e 3 [] (sv [4] .done) .stop) .stop))
def yk0:V.Sched:=(sv [0,1,2,3,4,5] (.e 6 [] (.e 7 [] .done .stop) .stop))
def ykz:V.Sched:=(sv [0,1,2,3,4,5,6,7,8,9,10] (.e 11 [0] (sv [12,13] (.e 14 [] .done .stop)) .stop))
def yky:V.Sched:=(sv [0,1,2,3,4,5] (.e 6 [0] (sv [7] (.e 8 [] (.e 9 [] .done .stop) .stop)) .stop))
def ykx:V.Sched:=(sv [0,1,2,3,4,5,6,7,8,9,10,11] (.e 12 [] .done .stop))
def ykw:V.Sched:=(sv [0,1,2,3,4,5,6] (.e 7 [0] (.e 8 [] .done .stop) .stop))
def ykv:V.Sched:=(sv [0,1,2] (.e 3 [0] (sv [4,5] (.e 6 [] .done .stop)) .stop))
def ztg:V.Sched:=(sv [0,1,2,3,4,5,6,7,8,9,10,11,12,13,14,15,16,17,18,19,20,21,22,23,24,25,26,27,28,29] (.e 30 [] (sv [31,32,33,34,35,36,37,38,39] (.e 40 [] (sv [41] (.e 42 [] .done .stop)) .stop)) .stop))
def yku:V.Sched:=(sv [0,1,2,3,4,5,6] (.e 7 [] (sv [8] (.e 9 [] .done .stop)) .stop))
def ykt:V.Sched:=(sv [0,1,2,3,4,5,6,7,8,9,10,11,13,14,15,16,17,18,19,20,21,22,23,24] (.e 12 [16,21,24] (.e 25 [] (sv [26] (.e 27 [] .done .stop)) .stop) .stop))
def yks:V.Sched:=(sv [0,1,2,3,4,5,6,7,8,9,10,11,12,13,14,15,16,17,18,19,20,21,22,23,24,25,26,27,28,29,30,31,32,33,34,35,36,37,38] (.e 39 [] (sv [40,41,42,43,44,45,46] (.e 47 [] (sv [48,49] .done) .stop)) .stop))
def ykr:V.Sched:=(sv [0,1,2,3,4,5,6,7,8] .done)
def ykq:V.Sched:=(sv [0,1,2,3,4,5,6,7,8] .done)
def ykp:V.Sched:=(sv [0,1,2,3] (.e 4 [] (.e 5 [] .done .stop) .stop))
def yko:V.Sched:=(sv [0,1,2,3,4,5,6,7,8,9,10,11,12,13] (.e 14 [] (sv [15] .done) .stop))
def ykn:V.Sched:=(sv [0,1,2,3,4,5,6,7,8,9,10,11,12,13,14,15,16,17,18,19,20,21,22,23,24] (.e 25 [] (sv [26] (.e 27 [] .done .stop)) .stop))
def ykm:V.Sched:=(sv [0,1,2,3,4,5,6,7,8,9,10,11] (.e 12 [] .done .stop))
def zy0:V.Sched:=(sv [0,1,2,3,4,5,6,7,8,9,10,11,12,13,14,15,16,17,18,19] (.e 20 [] (sv [21] .done) .stop))
def zh5:V.Sched:=(sv [0,1,2,3,4,5,6,7,8,9,10,11,12,13] (.e 14 [] (sv [15] .done) .stop))
def zh4:V.Sched:=(sv [0,1,2,3,4,5,6,7,8,9,10,11,12,13,14,15,16,17,18,19,20,21,22,23,24] (.e 25 [] (sv [26] (.e 27 [] .done .stop)) .stop))
def zej:V.Sched:=(sv [0,1,2,3] (.e 4 [3] (.e 5 [] (.e 6 [] .done .stop) .stop) .stop))
def ykl:V.Sched:=(sv [0,1,2,3,4,5] (.e 6 [] (.e 7 [] .done .stop) .stop))
def ykk:V.Sched:=(sv [0,1,2,3,4,5,6,7] (.e 8 [6] (.e 9 [] .done .stop) .stop))
end Go.Proofs
namespace Go.Proofs
open Go Go.V
set_option maxRecDepth 4000
theorem zc:zx Tryz.prog infoTree.get:=Tr.ok _ zrt
def cfg(n:Nat)(G:List Nat:=[])(W:List Nat:=[]):Cfg:={n:=n,I:=infoTree.get,G:=G,W:=W}
theorem Qe{p:Prop}(h:p:=by repeat(first|exact Tv|refine⟨rfl,?_⟩|refine⟨optR (optR (optR (za _ (zb _ _ _) rfl))),?_⟩|refine⟨za (o:=Store.obj _ _) _ (by assumption) rfl,?_⟩|refine⟨⟨by decide,in64 (by assumption) rfl⟩,?_⟩)):p:=h
theorem zlg{n:Int}(h:(Lit.int .i64 n).wf=true):yq n:=by
 simp[Lit.wf,IntKind.min,IntKind.max,IntKind.signed,IntKind.bits]at h
 unfold yq
 omega
theorem zo7:Codec Tryz.prog 2 Int intC yq:=(Codec.int Tryz.underlying2).weaken fun _ h=>zlg h
theorem ym:Codec Tryz.prog 3 Int intC yq:=(Codec.int Tryz.underlying3).weaken fun _ h=>zlg h
theorem zsn:Codec Tryz.prog 22 (List UInt8) (fun l=>[byts l]) (fun l=>l.length<=140737488355328):=
 (Codec.slice Tryz.underlying22 (k:=1) (by kernel_rfl) (by decide) (of_decide_eq_true (by kernel_rfl)) (Codec.byte Tryz.underlying5)).weaken fun _ h=>h.2
theorem zwg:Codec Tryz.prog 29 (List Int) (fun l=>[ints l]) (fun l=>l.length<=140737488355328/\∀n∈l,yq n):=
 (Codec.slice Tryz.underlying29 (k:=1) (by kernel_rfl) (by decide) (of_decide_eq_true (by kernel_rfl)) ym).weaken fun _ h=>⟨h.2,h.1⟩
theorem znm:Codec Tryz.prog 49 Vc vecC Vc.ok:=by
 refine⟨fun{H} enc w base held fuel cs x hx hw=>?_⟩
 have hu:=Tryz.underlying49
 have hl:cs.length=2:=(wo hu hx).trans (by kernel_rfl)
 obtain⟨a0,q0,h0⟩:=zm hu hx hw 0 0 1 rfl rfl (by kernel_rfl) zo7
 obtain⟨a1,q1,h1⟩:=zm hu hx hw 1 1 1 rfl rfl (by kernel_rfl) zo7
 refine⟨(a0,a1),⟨q0,q1⟩,?_⟩
 have:=h0.cons rfl (h1.cons rfl (CellsOK.stop hl))
 rw[List.drop_zero]at this
 exact this
theorem zuz:Codec Tryz.prog 30 (List Vc) (fun l=>[lst 2 vecC l]) (fun l=>l.length<=140737488355328/\∀v∈l,v.ok):=
 (Codec.slice Tryz.underlying30 (k:=2) (by kernel_rfl) (by decide) (of_decide_eq_true (by kernel_rfl)) znm).weaken fun _ h=>⟨h.2,h.1⟩
theorem ybj:Codec Tryz.prog 24 Gnd gndC (fun g=>g.T.length<=140737488355328):=by
 refine⟨fun{H} enc w base held fuel cs x hx hw=>?_⟩
 have hu:=Tryz.underlying24
 have hl:cs.length=3:=(wo hu hx).trans (by kernel_rfl)
 obtain⟨a0,q0,h0⟩:=zm hu hx hw 0 0 1 rfl rfl (by kernel_rfl) ym
 obtain⟨a1,q1,h1⟩:=zm hu hx hw 1 1 1 rfl rfl (by kernel_rfl) ym
 obtain⟨a2,q2,h2⟩:=zm hu hx hw 2 2 1 rfl rfl (by kernel_rfl) zsn
 refine⟨⟨a0,a1,a2⟩,q2,?_⟩
 have:=h0.cons rfl (h1.cons rfl (h2.cons rfl (CellsOK.stop hl)))
 rw[List.drop_zero]at this
 exact this
theorem yce:Codec Tryz.prog 145 Bld bldC (fun _=>True):=by
 refine⟨fun{H} enc w base held fuel cs x hx hw=>?_⟩
 have hu:=Tryz.underlying145
 have hl:cs.length=6:=(wo hu hx).trans (by kernel_rfl)
 obtain⟨a0,q0,h0⟩:=zm hu hx hw 0 0 1 rfl rfl (by kernel_rfl) ym
 obtain⟨a1,q1,h1⟩:=zm hu hx hw 1 1 1 rfl rfl (by kernel_rfl) ym
 obtain⟨a2,q2,h2⟩:=zm hu hx hw 2 2 1 rfl rfl (by kernel_rfl) ym
 obtain⟨a3,q3,h3⟩:=zm hu hx hw 3 3 1 rfl rfl (by kernel_rfl) ym
 obtain⟨a4,q4,h4⟩:=zm hu hx hw 4 4 1 rfl rfl (by kernel_rfl) ym
 obtain⟨a5,q5,h5⟩:=zm hu hx hw 5 5 1 rfl rfl (by kernel_rfl) ym
 refine⟨⟨a0,a1,a2,a3,a4,a5⟩,Tv,?_⟩
 have:=h0.cons rfl (h1.cons rfl (h2.cons rfl (h3.cons rfl (h4.cons rfl (h5.cons rfl (CellsOK.stop hl))))))
 rw[List.drop_zero]at this
 exact this
theorem zxg:Codec Tryz.prog 25 (List Bld) (fun l=>[lst 6 bldC l]) (fun l=>l.length<=140737488355328):=
 (Codec.slice Tryz.underlying25 (k:=6) (by kernel_rfl) (by decide) (of_decide_eq_true (by kernel_rfl)) yce).weaken fun _ h=>h.2
theorem zx8:Codec Tryz.prog 51 Unt untC (fun u=>u.pos.ok):=by
 refine⟨fun{H} enc w base held fuel cs x hx hw=>?_⟩
 have hu:=Tryz.underlying51
 have hl:cs.length=10:=(wo hu hx).trans (by kernel_rfl)
 obtain⟨a0,q0,h0⟩:=zm hu hx hw 0 0 1 rfl rfl (by kernel_rfl) ym
 obtain⟨a1,q1,h1⟩:=zm hu hx hw 1 1 1 rfl rfl (by kernel_rfl) ym
 obtain⟨a2,q2,h2⟩:=zm hu hx hw 2 2 1 rfl rfl (by kernel_rfl) ym
 obtain⟨a3,q3,h3⟩:=zm hu hx hw 3 3 2 rfl rfl (by kernel_rfl) znm
 obtain⟨a4,q4,h4⟩:=zm hu hx hw 4 5 1 rfl rfl (by kernel_rfl) ym
 obtain⟨a5,q5,h5⟩:=zm hu hx hw 5 6 1 rfl rfl (by kernel_rfl) ym
 obtain⟨a6,q6,h6⟩:=zm hu hx hw 6 7 1 rfl rfl (by kernel_rfl) ym
 obtain⟨a7,q7,h7⟩:=zm hu hx hw 7 8 1 rfl rfl (by kernel_rfl) ym
 obtain⟨a8,q8,h8⟩:=zm hu hx hw 8 9 1 rfl rfl (by kernel_rfl) ym
 refine⟨⟨a0,a1,a2,a3,a4,a5,a6,a7,a8⟩,q3,?_⟩
 have:=h0.cons rfl (h1.cons rfl (h2.cons rfl (h3.cons rfl (h4.cons rfl (h5.cons rfl (h6.cons rfl (h7.cons rfl (h8.cons rfl (CellsOK.stop hl)))))))))
 rw[List.drop_zero]at this
 exact this
theorem zu2:Codec Tryz.prog 26 (List Unt) (fun l=>[lst 10 untC l]) (fun l=>l.length<=140737488355328/\∀u∈l,u.pos.ok):=
 (Codec.slice Tryz.underlying26 (k:=10) (by kernel_rfl) (by decide) (of_decide_eq_true (by kernel_rfl)) zx8).weaken fun _ h=>⟨h.2,h.1⟩
theorem zxz:Codec Tryz.prog 28 Wld wldC (fun w=>∀u∈w.U,u.pos.ok):=by
 refine⟨fun{H} enc w base held fuel cs x hx hw=>?_⟩
 have hu:=Tryz.underlying28
 have hl:cs.length=8:=(wo hu hx).trans (by kernel_rfl)
 obtain⟨a0,q0,h0⟩:=zm hu hx hw 0 0 1 rfl rfl (by kernel_rfl) ym
 obtain⟨a1,q1,h1⟩:=zm hu hx hw 1 1 1 rfl rfl (by kernel_rfl) ym
 obtain⟨a2,q2,h2⟩:=zm hu hx hw 2 2 1 rfl rfl (by kernel_rfl) ym
 obtain⟨a3,q3,h3⟩:=zm hu hx hw 3 3 3 rfl rfl (by kernel_rfl) ybj
 obtain⟨a4,q4,h4⟩:=zm hu hx hw 4 6 1 rfl rfl (by kernel_rfl) zxg
 obtain⟨a5,q5,h5⟩:=zm hu hx hw 5 7 1 rfl rfl (by kernel_rfl) zu2
 refine⟨⟨a0,a1,a2,a3,a4,a5⟩,q5.2,?_⟩
 have:=h0.cons rfl (h1.cons rfl (h2.cons rfl (h3.cons rfl (h4.cons rfl (h5.cons rfl (CellsOK.stop hl))))))
 rw[List.drop_zero]at this
 exact this
theorem scr24_codec:Codec Tryz.prog 32 Scr24 zn5 Scr24.good:=by
 refine⟨fun{H} enc w base held fuel cs x hx hw=>?_⟩
 have hu:=Tryz.underlying32
 have hl:cs.length=10:=(wo hu hx).trans (by kernel_rfl)
 obtain⟨a0,q0,h0⟩:=zm hu hx hw 0 0 8 rfl rfl (by kernel_rfl) zxz
 obtain⟨a1,q1,h1⟩:=zm hu hx hw 1 8 1 rfl rfl (by kernel_rfl) zwg
 obtain⟨a2,q2,h2⟩:=zm hu hx hw 2 9 1 rfl rfl (by kernel_rfl) zuz
 refine⟨⟨a0,a1,a2⟩,⟨q0,q1.2,q2.2⟩,?_⟩
 have:=h0.cons rfl (h1.cons rfl (h2.cons rfl (CellsOK.stop hl)))
 rw[List.drop_zero]at this
 exact this
end Go.Proofs
