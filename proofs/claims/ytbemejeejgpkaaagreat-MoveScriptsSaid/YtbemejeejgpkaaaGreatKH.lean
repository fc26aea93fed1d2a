/- Ground of laws of thronglaw24: contracts and plain lemmas; no condition beyond the row's own. -/
import Derived.Test.YtbemejeejgpkaaaGreatKG
import Derived.Test.YtbemejeejgpkaaaGreatKE
set_option linter.unusedSimpArgs false
set_option linter.unusedVariables false
namespace Go.Proofs
open Go Go.V
set_option maxRecDepth 20000
set_option maxHeartbeats 4000000
def Qbi(a n:Nat):List Nat:=List.range' a n
abbrev Qbj:=V.Sched.e
def zsk:V.Sched:=(sv [0,1,2,3,4,5] (Qbj 6 [] (sv [7,8,9] (Qbj 10 [] .done .stop)) .stop))
def zrd:V.Sched:=(sv [0,1,3,4,5] (Qbj 2 [4] (Qbj 6 [] (Qbj 7 [0,1,3,4,5] (Qbj 8 [] .done .stop) .stop) (Qbj 7 [0,1,3,4,5] (Qbj 6 [] (Qbj 8 [] .done .stop) .stop) .stop)) (Qbj 7 [0,1,3,4,5] (Qbj 2 [4] (Qbj 6 [] (Qbj 8 [] .done .stop) .stop) .stop) .stop)))
def zrj:V.Sched:=(sv (Qbi 0 9) (Qbj 9 [3] (sv [10] .done) .stop))
def zri:V.Sched:=(sv [0,1,2,3,4] (Qbj 5 [] (Qbj 6 [] .done .stop) .stop))
def zrh:V.Sched:=(sv (Qbi 0 15) (Qbj 15 [9] (sv [16,17,18,19,20,21,22,23,24,25,27,28,29,30] (Qbj 26 [30] (sv [31,32,33,34,35,36,37,38,39,40,41,42,43,44,46,47,48,49] (Qbj 45 [49] (Qbj 50 [] (sv [51,52,53] .done) .stop) .stop)) .stop)) .stop))
def zrg:V.Sched:=(sv [0,1,2,3,4,5] (Qbj 6 [3] (sv [7] .done) .stop))
def zrf:V.Sched:=(sv [0,1,2,3,4,5,6,7,8,9,11] (Qbj 10 [] (sv [12,13] (Qbj 14 [] .done .stop)) .stop))
def zre:V.Sched:=(sv [0,1,2,3,4,5,6,7,8,9,10,12,13] (Qbj 11 [0,5,13] (Qbj 14 [0] (Qbj 15 [] (sv [16,17,18] (Qbj 19 [0,1,2,3,4,5,6,7,8,9,10,12,13,16,17,18] (Qbj 20 [] (Qbj 21 [] .done .stop) .stop) .stop)) (Qbj 19 [0,1,2,3,4,5,6,7,8,9,10,12,13] (Qbj 15 [] (sv [16,17,18] (Qbj 20 [] (Qbj 21 [] .done .stop) .stop)) .stop) .stop)) (Qbj 19 [0,1,2,3,4,5,6,7,8,9,10,12,13] (Qbj 14 [0] (Qbj 15 [] (sv [16,17,18] (Qbj 20 [] (Qbj 21 [] .done .stop) .stop)) .stop) .stop) .stop)) (Qbj 19 [0,1,2,3,4,5,6,7,8,9,10,12,13] (Qbj 11 [0,5,13] (Qbj 14 [0] (Qbj 15 [] (sv [16,17,18] (Qbj 20 [] (Qbj 21 [] .done .stop) .stop)) .stop) .stop) .stop) .stop)))
def zrb:V.Sched:=(sv [0,1,2,3,4,5,6] (Qbj 7 [1,4] (sv (Qbi 8 9) (Qbj 17 [] .done .stop)) .stop))
def l4:V.Sched:=(sv (Qbi 0 25) (Qbj 25 [] (sv [26,27,28,29,30,31,32,35,36,37,38,39,40] (Qbj 33 [36,40] (sv [34] (Qbj 41 [34] (sv (Qbi 42 19) .done) .stop)) .stop)) .stop))
def zq7:V.Sched:=(sv [0,1,2,3,5,6,7,8] (Qbj 4 [6,8] (Qbj 9 [] (sv [10] (Qbj 11 [] .done .stop)) .stop) .stop))
def zqw:V.Sched:=(sv (Qbi 0 13) (Qbj 13 [] .done .stop))
def zqo:V.Sched:=(sv [0,1,3,4] (Qbj 2 [4] (Qbj 5 [] (sv [6] (Qbj 7 [] .done .stop)) .stop) .stop))
def zqn:V.Sched:=(sv (Qbi 0 11) (.e 11 (Qbi 0 11) (Qbj 12 [] .done .stop) .stop))
def zqm:V.Sched:=(sv [0,1,2,3,4,5,6,7] (Qbj 8 [] (Qbj 9 [] .done .stop) .stop))
def zql:V.Sched:=(sv [0,1,2,3,4,5,6,7] (Qbj 8 [1] (sv [9] (Qbj 10 [] .done .stop)) .stop))
def zqk:V.Sched:=(sv [0,1,2,3,4,5] (Qbj 6 [2,5] (Qbj 7 [] (Qbj 8 [] .done .stop) .stop) .stop))
def zqj:V.Sched:=(sv (Qbi 0 9) .done)
def zqi:V.Sched:=(sv (Qbi 0 9) .done)
def zqh:V.Sched:=(sv [0,1,3,4] (Qbj 2 [4] (Qbj 5 [] (sv [6] (Qbj 7 [] .done .stop)) .stop) .stop))
def ly:V.Sched:=(sv [0,1,2,3,5,6,7,8] (Qbj 4 [6] (Qbj 9 [] (sv [10] (Qbj 11 [] .done .stop)) .stop) .stop))
def zqg:V.Sched:=(sv [0,1,2,3,4,5,10,11,12] (Qbj 6 [0,2,11] (sv [7,8,9] (Qbj 13 [0] (Qbj 14 [] (Qbj 15 [] .done .stop) .stop) .stop)) .stop))
def zqf:V.Sched:=(sv (Qbi 0 16) (Qbj 16 [10,14] (Qbj 17 [] .done .stop) .stop))
def zqe:V.Sched:=(sv [0,1,2,3,4,5,6,7,8,10,11,12,13,14,15,17,18,19,20,21,22] (Qbj 9 [13,20] (Qbj 16 [20] (Qbj 23 [] (sv [24,25] (Qbj 26 [] (sv [27,28] (Qbj 29 [] (sv [30,31] (Qbj 32 [] .done .stop)) .stop)) .stop)) .stop) .stop) .stop))
def zqb:V.Sched:=(sv (Qbi 0 20) .done)
def zqd:V.Sched:=(sv (Qbi 0 51) (Qbj 51 [] (sv (Qbi 52 12) (Qbj 64 [] (sv (Qbi 65 23) .done) .stop)) .stop))
def zqc:V.Sched:=(sv (Qbi 0 9) .done)
def zqa:V.Sched:=(sv (Qbi 0 17) (Qbj 17 [10,12,14] (sv [18] (Qbj 19 [] (sv [20,21] .done) .stop)) .stop))
def zp9:V.Sched:=(sv [0,1,2] (Qbj 3 [0] (Qbj 4 [] .done .stop) .stop))
def zp8:V.Sched:=(sv [0,1,4,5] (Qbj 2 [5] (Qbj 3 [5] (Qbj 6 [] (Qbj 7 [] (Qbj 8 [] (Qbj 9 [] .done .stop) .stop) .stop) .stop) .stop) .stop))
def zp7:V.Sched:=(sv (Qbi 0 18) .done)
def zp5:V.Sched:=(sv (Qbi 0 11) (.e 11 (Qbi 0 11) (Qbj 12 [] .done .stop) .stop))
def zp4:V.Sched:=(sv (Qbi 0 9) (Qbj 9 [] .done .stop))
def zp6:V.Sched:=(sv [0,1,2,3,4] (Qbj 5 [] .done .stop))
def zp3:V.Sched:=(sv [0,1,2,3,5,6,7,8] (Qbj 4 [6,8] (Qbj 9 [] (sv [10] (Qbj 11 [] .done .stop)) .stop) .stop))
def zp2:V.Sched:=(sv [0,1] (Qbj 2 [] (sv [3,4,5,6,7] (Qbj 8 [] (sv (Qbi 9 17) .done) .stop)) .stop))
def zp1:V.Sched:=(sv [0,1,3,4,6,7] (Qbj 2 [4,7] (sv [9] (Qbj 5 [7] (Qbj 8 [] (Qbj 10 [] (sv [11] (Qbj 12 [] (sv [13] (Qbj 14 [] .done .stop)) .stop)) .stop) .stop) .stop)) .stop))
def lu:V.Sched:=(sv [0,1,2,3,4] (Qbj 5 [3] (sv [6] (Qbj 7 [] .done .stop)) .stop))
def ls:V.Sched:=(sv [0,1,2,3,4] (Qbj 5 [3] (sv [6] (Qbj 7 [] .done .stop)) .stop))
def lx:V.Sched:=(sv [0,1,2,3,4,5,6] (Qbj 7 [3,5] (sv [8] (Qbj 9 [5] (sv [10] (Qbj 11 [] .done .stop)) .stop)) .stop))
def lw:V.Sched:=(sv [0,1,2,3,4] (Qbj 5 [3] (sv [6] (Qbj 7 [] .done .stop)) .stop))
def lv:V.Sched:=(sv [0,1,2,3,4] (Qbj 5 [3] (sv [6] (Qbj 7 [] .done .stop)) .stop))
def zp0:V.Sched:=(sv [0,1,2,3,4,5,6] (Qbj 7 [] (sv [8] .done) .stop))
def zpz:V.Sched:=(sv (Qbi 0 17) (Qbj 17 [] (sv [18,19] (Qbj 20 [] .done .stop)) .stop))
def zpy:V.Sched:=(sv [0,1,2,3,4,5] (Qbj 6 [] (sv [7] .done) .stop))
def zpw:V.Sched:=(sv [0,1,2,3] (Qbj 4 [] (Qbj 5 [] .done .stop) .stop))
def zpv:V.Sched:=(sv (Qbi 0 12) (Qbj 12 [3] (sv [13] (Qbj 14 [] .done .stop)) .stop))
def zpx:V.Sched:=(sv (Qbi 0 17) (Qbj 17 [] (Qbj 18 [] .done .stop) .stop))
def zpu:V.Sched:=(sv [0,1,2,3,4,5,6,7] (Qbj 8 [] (Qbj 9 [] .done .stop) .stop))
def zps:V.Sched:=(sv (Qbi 0 21) (.e 21 (Qbi 0 21) (Qbj 22 [] .done .stop) .stop))
def zpr:V.Sched:=(sv [0,1,2,3,4,5] (Qbj 6 [] (sv [7,8,9] (Qbj 10 [] (Qbj 11 [] .done .stop) .stop)) .stop))
def zpt:V.Sched:=(sv (Qbi 0 10) (Qbj 10 [4,7] (sv [11] (Qbj 12 [] (sv [13] .done) .stop)) .stop))
def zpq:V.Sched:=(sv (Qbi 0 11) .done)
def zpp:V.Sched:=(sv (Qbi 0 11) .done)
def zpo:V.Sched:=(sv [0,1,2,3,4,5,6] (Qbj 7 [] (sv [8,9,10,11,12] (Qbj 13 [] .done .stop)) .stop))
def zpn:V.Sched:=(sv [0,1,2,3] (Qbj 4 [] (Qbj 5 [] .done .stop) .stop))
def zpj:V.Sched:=(sv (Qbi 0 9) (Qbj 9 [3] (sv [10,11] (Qbj 12 [0,1,2,3,4,5,6,7,8,10,11] (Qbj 13 [] .done .stop) .stop)) (.e 12 (Qbi 0 9) (Qbj 9 [3] (sv [10,11] (Qbj 13 [] .done .stop)) .stop) .stop)))
def zpi:V.Sched:=(sv (Qbi 0 10) (Qbj 10 [] (Qbj 11 [] .done .stop) .stop))
def zpm:V.Sched:=(sv (Qbi 0 12) (Qbj 12 [3] (sv [13,14] (Qbj 15 [0,1,2,3,4,5,6,7,8,9,10,11,13,14] (Qbj 16 [] .done .stop) .stop)) (.e 15 (Qbi 0 12) (Qbj 12 [3] (sv [13,14] (Qbj 16 [] .done .stop)) .stop) .stop)))
def zpl:V.Sched:=(sv [0,1,2,3,4,7,8,9,11,12] (Qbj 5 [8,9,12] (sv [6,10] (Qbj 13 [8,9,6] (sv [14,15] .done) .stop)) .stop))
def zpk:V.Sched:=(sv (Qbi 0 12) (Qbj 12 [3] (sv [13] (Qbj 14 [] .done .stop)) .stop))
def zph:V.Sched:=(sv [0,1,2,3] (Qbj 4 [] (Qbj 5 [] .done .stop) .stop))
def zpd:V.Sched:=(sv [0,1,2,3,4,5] (Qbj 6 [] (sv [7] .done) .stop))
def zpc:V.Sched:=(sv (Qbi 0 9) (Qbj 9 [3] (sv [10,11] (Qbj 12 [0,1,2,3,4,5,6,7,8,10,11] (Qbj 13 [] .done .stop) .stop)) (.e 12 (Qbi 0 9) (Qbj 9 [3] (sv [10,11] (Qbj 13 [] .done .stop)) .stop) .stop)))
def zpb:V.Sched:=(sv [0,1,2,3,4,5,7,8] (Qbj 6 [8] (Qbj 9 [] .done .stop) .stop))
def zpa:V.Sched:=(sv [0,1,2,3,4] (Qbj 5 [] (Qbj 6 [] .done .stop) .stop))
def zpg:V.Sched:=(sv (Qbi 0 11) (Qbj 11 [3] (sv [12] (Qbj 13 [] .done .stop)) .stop))
def zpf:V.Sched:=(sv (Qbi 0 14) (Qbj 14 [] (Qbj 15 [] .done .stop) .stop))
def zpe:V.Sched:=(sv (Qbi 0 19) (Qbj 19 [2,6,10] (Qbj 20 [] .done .stop) .stop))
def lr:V.Sched:=(sv [0] (Qbj 1 [0] (sv [2] (Qbj 3 [] (Qbj 4 [] .done .stop) .stop)) .stop))
def lp:V.Sched:=(sv [0,1,2,3,4,5,6,7] (Qbj 8 [] .done .stop))
def zo9:V.Sched:=(sv [0,1,2,3,4,5,6,7,8,11] (Qbj 9 [] (sv [10] .done) .stop))
def zo8:V.Sched:=(sv [0,1,2,3,4,5,6,11,12] (Qbj 7 [0,2,4,12] (sv [8,9,10] (Qbj 13 [0] (Qbj 14 [] (Qbj 15 [] .done .stop) .stop) .stop)) .stop))
def zo7:V.Sched:=(sv [0,1,2,3,4,5] (Qbj 6 [1] (Qbj 7 [] .done .stop) .stop))
def zo3:V.Sched:=(sv [0,1,2,3,4] (Qbj 5 [1] (sv [6] .done) .stop))
def zo6:V.Sched:=(sv [0,1,2,3,4] (Qbj 5 [] .done .stop))
def zo5:V.Sched:=(sv [0,1,2,3,4,5,6,8,9] (Qbj 7 [1,3,9] (Qbj 10 [1,3] (sv [11] (Qbj 12 [1] (Qbj 13 [] (sv [14] .done) .stop) .stop)) .stop) .stop))
def zo4:V.Sched:=(sv [0,1,2,3,4] (Qbj 5 [] .done .stop))
def zo2:V.Sched:=(sv (Qbi 0 9) .done)
def zo1:V.Sched:=(sv [0,1,2,3,4,5] (Qbj 6 [] (sv [7] .done) .stop))
def zo0:V.Sched:=(sv [0,1,2,3,4] (Qbj 5 [] (Qbj 6 [0,1,2,3,4] (Qbj 7 [] .done .stop) .stop) (Qbj 6 [0,1,2,3,4] (Qbj 5 [] (Qbj 7 [] .done .stop) .stop) .stop)))
def Vs:V.Sched:=(sv [0,1,2,3,4] (Qbj 5 [0] (Qbj 6 [] (Qbj 7 [] .done .stop) .stop) .stop))
def zoz:V.Sched:=(sv (Qbi 0 28) .done)
def zox:V.Sched:=(sv [0,1,2,3] (Qbj 4 [] (sv [5,6,7,8,9,10,11] (Qbj 12 [] (sv [13,14,15,16,17,18,19,20] (Qbj 21 [] (sv [22,23] .done) .stop)) .stop)) .stop))
def zoy:V.Sched:=(sv [0,1,2,3,4,5,6,7] (Qbj 8 [] .done .stop))
def zss:V.Sched:=(sv [0,1,2,3,4,5,7,8,9,10,11,12] (Qbj 6 [9,12] (Qbj 13 [] (sv [14] (Qbj 15 [] .done .stop)) .stop) .stop))
def zsr:V.Sched:=(sv [0,1,3,4] (Qbj 2 [4] (Qbj 5 [] (sv [6] (Qbj 7 [] .done .stop)) .stop) .stop))
def zsq:V.Sched:=(sv [0,1,2,3,5,6,7,8] (Qbj 4 [6,8] (Qbj 9 [] (sv [10] (Qbj 11 [] .done .stop)) .stop) .stop))
def l8:V.Sched:=(sv [0,1,2,3,4,5,6,7,9,10,11] (Qbj 8 [4,9,11] (Qbj 12 [] (sv [13] .done) .stop) .stop))
def l7:V.Sched:=(sv (Qbi 0 12) (Qbj 12 [5,7,9] (sv [13] (Qbj 14 [] (sv [15,16] .done) .stop)) .stop))
def zsp:V.Sched:=(sv [0,1,2,3,4,5,6] (Qbj 7 [] (sv [8,9,10] (Qbj 11 [] (Qbj 12 [] .done .stop) .stop)) .stop))
def zso:V.Sched:=(sv [0,1,2,3,4,5,6,7] (Qbj 8 [] .done .stop))
def zsn:V.Sched:=(sv [0,1,2,3,4,5,6,7] (Qbj 8 [] .done .stop))
def zsm:V.Sched:=(sv [0,1,2,3,4,5] (Qbj 6 [] .done .stop))
def zsl:V.Sched:=(sv [0,1,2,3,4,5,6,7,8,9,10,11,12,13,15,16] (Qbj 14 [16] (Qbj 17 [13] (sv [18,19,20] .done) .stop) (Qbj 17 [13] (sv [18] (Qbj 14 [16] (sv [19,20] .done) .stop)) .stop)))
def zsi:V.Sched:=(sv [0,1,2,3,4,5,6,7] (Qbj 8 [6] (Qbj 9 [] .done .stop) .stop))
def zsj:V.Sched:=(sv (Qbi 0 12) (Qbj 12 [8] (Qbj 13 [] .done .stop) .stop))
def zsf:V.Sched:=(sv (Qbi 0 14) (Qbj 14 [] (sv [15] .done) .stop))
def zsh:V.Sched:=(sv (Qbi 0 14) .done)
def zsg:V.Sched:=(sv [0,1,2,4,5] (Qbj 3 [4] (Qbj 6 [] (Qbj 7 [] .done .stop) .stop) .stop))
def zse:V.Sched:=(sv [0,1,2,3,4,5,6,7] (Qbj 8 [6] (Qbj 9 [] .done .stop) .stop))
def zsd:V.Sched:=(sv (Qbi 0 10) (Qbj 10 [7] (Qbj 11 [] .done .stop) .stop))
def zsc:V.Sched:=(sv [0,1,2,3,4,6,7,8,9,10] (Qbj 5 [7] (Qbj 11 [] (Qbj 12 [] (Qbj 13 [] .done .stop) .stop) .stop) .stop))
def zsb:V.Sched:=(sv [0,1,2,3,4,5,6,7] (Qbj 8 [4] (sv [9,10,11] (Qbj 12 [] (sv [13,14,15] .done) .stop)) .stop))
def zsa:V.Sched:=(sv [0,1,2,3,4,6] (Qbj 5 [] (Qbj 7 [] (sv [8,9,10] (Qbj 11 [] (Qbj 12 [] .done .stop) .stop)) .stop) .stop))
def zr9:V.Sched:=(sv [0,1,2,3,4,5,6,7,8,9,11,12] (Qbj 10 [3,4] (Qbj 13 [3,4,8,9] (Qbj 14 [3,4] (Qbj 15 [] .done .stop) .stop) .stop) (Qbj 13 [3,4,8,9] (Qbj 10 [3,4] (Qbj 14 [3,4] (Qbj 15 [] .done .stop) .stop) .stop) .stop)))
def l6:V.Sched:=(sv [0,1,2,3,4,5] (Qbj 6 [] .done .stop))
def l5:V.Sched:=(sv [0,1,2,3,4,5,6,9] (Qbj 7 [] (sv [8] .done) .stop))
def zr8:V.Sched:=(sv [0,1,2,3,5,6,7,8] (Qbj 4 [6] (Qbj 9 [] (sv [10] (Qbj 11 [] .done .stop)) .stop) .stop))
def zr7:V.Sched:=(sv (Qbi 0 13) (Qbj 13 [] .done .stop))
def zr6:V.Sched:=(sv [0,1,2,3,4] (Qbj 5 [] .done .stop))
def zr5:V.Sched:=(sv (Qbi 0 10) (Qbj 10 [3,7] (.e 11 (Qbi 0 10) (.e 12 (Qbi 0 10) (Qbj 13 [] (Qbj 14 [] .done .stop) .stop) .stop) (.e 12 (Qbi 0 10) (.e 11 (Qbi 0 10) (Qbj 13 [] (Qbj 14 [] .done .stop) .stop) .stop) .stop)) (.e 11 (Qbi 0 10) (Qbj 10 [3,7] (.e 12 (Qbi 0 10) (Qbj 13 [] (Qbj 14 [] .done .stop) .stop) .stop) (.e 12 (Qbi 0 10) (Qbj 10 [3,7] (Qbj 13 [] (Qbj 14 [] .done .stop) .stop) .stop) .stop)) (.e 12 (Qbi 0 10) (Qbj 10 [3,7] (.e 11 (Qbi 0 10) (Qbj 13 [] (Qbj 14 [] .done .stop) .stop) .stop) (.e 11 (Qbi 0 10) (Qbj 10 [3,7] (Qbj 13 [] (Qbj 14 [] .done .stop) .stop) .stop) .stop)) .stop))))
def zr4:V.Sched:=(sv (Qbi 0 9) (Qbj 9 [5] (sv [10,11,12,13,14,15,16,17,18,19,20,21,22,23,24,25,26,27,28,29,30,31,36,37] (Qbj 32 [37] (sv [33,34,35,38,39,40,41] .done) .stop)) .stop))
def zr3:V.Sched:=(sv [0,1,2,3,4,5,6,7] (Qbj 8 [] (sv [9,10] (Qbj 11 [] .done .stop)) .stop))
def zr2:V.Sched:=(sv (Qbi 0 10) (Qbj 10 [3,7] (.e 11 (Qbi 0 10) (.e 12 (Qbi 0 10) (Qbj 13 [] (Qbj 14 [] .done .stop) .stop) .stop) (.e 12 (Qbi 0 10) (.e 11 (Qbi 0 10) (Qbj 13 [] (Qbj 14 [] .done .stop) .stop) .stop) .stop)) (.e 11 (Qbi 0 10) (Qbj 10 [3,7] (.e 12 (Qbi 0 10) (Qbj 13 [] (Qbj 14 [] .done .stop) .stop) .stop) (.e 12 (Qbi 0 10) (Qbj 10 [3,7] (Qbj 13 [] (Qbj 14 [] .done .stop) .stop) .stop) .stop)) (.e 12 (Qbi 0 10) (Qbj 10 [3,7] (.e 11 (Qbi 0 10) (Qbj 13 [] (Qbj 14 [] .done .stop) .stop) .stop) (.e 11 (Qbi 0 10) (Qbj 10 [3,7] (Qbj 13 [] (Qbj 14 [] .done .stop) .stop) .stop) .stop)) .stop))))
def zr1:V.Sched:=(sv [0,1,2,3] (Qbj 4 [1] (sv [5] .done) .stop))
def zr0:V.Sched:=(sv [0,1,2,3,4,5,6,7,8,9,10,11,12,13,14,15,16,17,18,19,20,22] (Qbj 21 [] (sv [23,24] (Qbj 25 [] .done .stop)) .stop))
def zrz:V.Sched:=(sv (Qbi 0 12) .done)
def zry:V.Sched:=(sv (Qbi 0 13) .done)
def zrx:V.Sched:=(sv (Qbi 0 13) .done)
def zrw:V.Sched:=(sv [0,1,2,3,4,5] (Qbj 6 [4] (Qbj 7 [] .done .stop) .stop))
def Kw:V.Sched:=(sv [0,1,2,3,4,5,6,7,8,9,10,11,12,14,15] (Qbj 13 [] (sv [16] (Qbj 17 [] .done .stop)) .stop))
def zrv:V.Sched:=(sv [0,1,2,4] (Qbj 3 [0,1] (Qbj 5 [0,1] (sv [6] (Qbj 7 [] (sv [8] (Qbj 9 [] .done .stop)) .stop)) .stop) .stop))
def zrt:V.Sched:=(sv [0,1,2,3,4] (Qbj 5 [] (Qbj 6 [] .done .stop) .stop))
def zrs:V.Sched:=(sv [0,1,2,3,4] (Qbj 5 [] .done .stop))
def zru:V.Sched:=(sv [0,1,2,3,4,5] (Qbj 6 [] .done .stop))
def zrr:V.Sched:=(sv (Qbi 0 10) .done)
def zrq:V.Sched:=(sv (Qbi 0 9) .done)
def zrp:V.Sched:=(sv [0,1,3,4] (Qbj 2 [4] (Qbj 5 [] (sv [6] (Qbj 7 [] .done .stop)) .stop) .stop))
def zro:V.Sched:=(sv [0,1,2,4,5,6] (Qbj 3 [5,6] (Qbj 7 [] (sv [8] (Qbj 9 [] (Qbj 10 [0,1,2,4,5,6,8] (Qbj 11 [] .done .stop) .stop) (Qbj 10 [0,1,2,4,5,6,8] (Qbj 9 [] (Qbj 11 [] .done .stop) .stop) .stop))) (Qbj 10 [0,1,2,4,5,6] (Qbj 7 [] (sv [8] (Qbj 9 [] (Qbj 11 [] .done .stop) .stop)) .stop) .stop)) (Qbj 10 [0,1,2,4,5,6] (Qbj 3 [5,6] (Qbj 7 [] (sv [8] (Qbj 9 [] (Qbj 11 [] .done .stop) .stop)) .stop) .stop) .stop)))
def zrn:V.Sched:=(sv [0,1,2,4,5,6] (Qbj 3 [5,6] (Qbj 7 [] (sv [8] (Qbj 9 [] (Qbj 10 [0,1,2,4,5,6,8] (Qbj 11 [] .done .stop) .stop) (Qbj 10 [0,1,2,4,5,6,8] (Qbj 9 [] (Qbj 11 [] .done .stop) .stop) .stop))) (Qbj 10 [0,1,2,4,5,6] (Qbj 7 [] (sv [8] (Qbj 9 [] (Qbj 11 [] .done .stop) .stop)) .stop) .stop)) (Qbj 10 [0,1,2,4,5,6] (Qbj 3 [5,6] (Qbj 7 [] (sv [8] (Qbj 9 [] (Qbj 11 [] .done .stop) .stop)) .stop) .stop) .stop)))
def zrm:V.Sched:=(sv [0,1,2,3,5,6,7,8] (Qbj 4 [6,8] (Qbj 9 [] (sv [10] (Qbj 11 [] .done .stop)) .stop) .stop))
def zrl:V.Sched:=(sv [0,1,2,3,4,5,6,7] (Qbj 8 [6] (Qbj 9 [] .done .stop) .stop))
def zrk:V.Sched:=(sv (Qbi 0 10) (Qbj 10 [7] (Qbj 11 [] .done .stop) .stop))
def zrc:V.Sched:=(sv (Qbi 0 12) .done)
def zra:V.Sched:=(sv [0,1,2,3,4,5,7] (Qbj 6 [0,7] (Qbj 8 [] .done .stop) .stop))
def zq9:V.Sched:=(sv [0,1] (Qbj 2 [0] (Qbj 3 [] (sv [4] .done) .stop) .stop))
def zq8:V.Sched:=(sv [0,1,2,3,4,5] (Qbj 6 [] (Qbj 7 [] .done .stop) .stop))
def zq6:V.Sched:=(sv (Qbi 0 11) (Qbj 11 [0] (sv [12,13] (Qbj 14 [] .done .stop)) .stop))
def zq5:V.Sched:=(sv [0,1,2,3,4,5] (Qbj 6 [0] (sv [7] (Qbj 8 [] (Qbj 9 [] .done .stop) .stop)) .stop))
def zq4:V.Sched:=(sv (Qbi 0 12) (Qbj 12 [] .done .stop))
def zq3:V.Sched:=(sv [0,1,2,3,4,5,6] (Qbj 7 [0] (Qbj 8 [] .done .stop) .stop))
def zq2:V.Sched:=(sv [0,1,2] (Qbj 3 [0] (sv [4,5] (Qbj 6 [] .done .stop)) .stop))
def lz:V.Sched:=(sv (Qbi 0 30) (Qbj 30 [] (sv (Qbi 31 9) (Qbj 40 [] (sv [41] (Qbj 42 [] .done .stop)) .stop)) .stop))
def zq1:V.Sched:=(sv [0,1,2,3,4,5,6] (Qbj 7 [] (sv [8] (Qbj 9 [] .done .stop)) .stop))
def zq0:V.Sched:=(sv [0,1,2,3,4,5,6,7,8,9,10,11,13,14,15,16,17,18,19,20,21,22,23,24] (Qbj 12 [16,21,24] (Qbj 25 [] (sv [26] (Qbj 27 [] .done .stop)) .stop) .stop))
def zqz:V.Sched:=(sv (Qbi 0 39) (Qbj 39 [] (sv [40,41,42,43,44,45,46] (Qbj 47 [] (sv [48,49] .done) .stop)) .stop))
def zqy:V.Sched:=(sv (Qbi 0 9) .done)
def zqx:V.Sched:=(sv (Qbi 0 9) .done)
def zqv:V.Sched:=(sv [0,1,2,3] (Qbj 4 [] (Qbj 5 [] .done .stop) .stop))
def zqu:V.Sched:=(sv (Qbi 0 14) (Qbj 14 [] (sv [15] .done) .stop))
def zqt:V.Sched:=(sv (Qbi 0 25) (Qbj 25 [] (sv [26] (Qbj 27 [] .done .stop)) .stop))
def zqr:V.Sched:=(sv (Qbi 0 12) (Qbj 12 [] .done .stop))
def zqs:V.Sched:=(sv (Qbi 0 20) (Qbj 20 [] (sv [21] .done) .stop))
def Vu:V.Sched:=(sv (Qbi 0 14) (Qbj 14 [] (sv [15] .done) .stop))
def Vt:V.Sched:=(sv (Qbi 0 25) (Qbj 25 [] (sv [26] (Qbj 27 [] .done .stop)) .stop))
def O3:V.Sched:=(sv [0,1,2,3] (Qbj 4 [3] (Qbj 5 [] (Qbj 6 [] .done .stop) .stop) .stop))
def zqq:V.Sched:=(sv [0,1,2,3,4,5] (Qbj 6 [] (Qbj 7 [] .done .stop) .stop))
def zqp:V.Sched:=(sv [0,1,2,3,4,5,6,7] (Qbj 8 [6] (Qbj 9 [] .done .stop) .stop))
theorem zb:y9 Tryz.prog infoTree.get:=Tr.ok _ zzj
def cfg(n:Nat)(G:List Nat:=[])(W:List Nat:=[]):Cfg:={n:=n,I:=infoTree.get,G:=G,W:=W}
theorem Qbh{p:Prop}(h:p:=by repeat(first|exact Tv|refine⟨Tq,?_⟩)):p:=h
theorem Qbl{q:Prop}(h:q):(True/\q)/\True:=⟨⟨Tv,h⟩,Tv⟩
theorem Qbm{S:Store}{b:Nat}{x:AObj}{K:AObj->Prop}(k:K x)(h:S.obj b=some x:=by assumption):optK (Store.obj S b) K:=za _ h k
theorem Qbk{p q:Prop}(h:q)(c:p:=by repeat(first|exact Tv|refine⟨rfl,?_⟩|refine⟨optR (optR (optR (za _ (zd _ _ _) rfl))),?_⟩|refine⟨za (o:=Store.obj _ _) _ (by assumption) rfl,?_⟩|refine⟨⟨by decide,ze (by assumption) rfl⟩,?_⟩)):(p/\q)/\True:=⟨⟨c,h⟩,Tv⟩
theorem Qe{p:Prop}(h:p:=by repeat(first|exact Tv|refine⟨rfl,?_⟩|refine⟨optR (optR (optR (za _ (zd _ _ _) rfl))),?_⟩|refine⟨za (o:=Store.obj _ _) _ (by assumption) rfl,?_⟩|refine⟨⟨by decide,ze (by assumption) rfl⟩,?_⟩)):p:=h
abbrev Jb:=ACalls Tryz.prog
theorem zy1(n:Int)(st:Store)(R:Ja)(h:∀z:Bool,(z=true↔jv n)->R (bool z) st):Jb 169 [int n] st R:=by
 refine Qa (c:=cfg 9) zb Tryz.func169 ?_
 repeat' (first|refine bcd (λ_=>?_) (λ_=>?_)|refine zh (λ_=>?_) (λ_=>?_)|refine Qd ?_|fail)
 all_goals
  refine ret (h _ ?_)
  unfold jv
  simp only[decide_eq_true_eq,decide_eq_false_iff_not,Fah,false_iff,true_iff,beq_iff_eq,bne_iff_ne,beq_eq_false_iff_ne,ne_eq,reduceCtorEq]at*
  omega
theorem lg(n:Int)(st:Store)(R:Ja)(h:∀z:Bool,(z=true↔1<=n/\n<=128)->R (bool z) st):Jb 193 [int n] st R:=by
 refine Qa (c:=cfg 9) zb Tryz.func193 ?_
 repeat' (first|refine bcd (λ_=>?_) (λ_=>?_)|refine zh (λ_=>?_) (λ_=>?_)|refine Qd ?_|fail)
 all_goals
  refine ret (h _ ?_)
  simp only[decide_eq_true_eq,decide_eq_false_iff_not,Fah,false_iff,true_iff,beq_iff_eq,bne_iff_ne,beq_eq_false_iff_ne,ne_eq,reduceCtorEq]at*
  omega
theorem zw7(n hi:Int)(st:Store)(R:Ja)(h:∀z:Bool,(z=true↔0<=n/\n<=hi)->R (bool z) st):Jb 94 [int n,int hi] st R:=by
 refine Qa (c:=cfg 12) zb Tryz.func94 ?_
 repeat' (first|refine bcd (λ_=>?_) (λ_=>?_)|refine zh (λ_=>?_) (λ_=>?_)|refine Qd ?_|fail)
 all_goals
  refine ret (h _ ?_)
  simp only[decide_eq_true_eq,decide_eq_false_iff_not,Fah,false_iff,true_iff,beq_iff_eq,bne_iff_ne,beq_eq_false_iff_ne,ne_eq,reduceCtorEq]at*
  omega
theorem zwh(p:Vc)(st:Store)(R:Ja)(h:∀z:Bool,(z=true↔qw p.1 p.2)->R (bool z) st):Jb 220 [.agg (zo p)] st R:=by
 refine Qa (c:=cfg 21) zb Tryz.func220 ?_
 repeat' (first|refine bcd (λ_=>?_) (λ_=>?_)|refine zh (λ_=>?_) (λ_=>?_)|refine Qd ?_|fail)
 all_goals
  refine ret (h _ ?_)
  unfold qw
  simp only[decide_eq_true_eq,decide_eq_false_iff_not,Fah,false_iff,true_iff,beq_iff_eq,bne_iff_ne,beq_eq_false_iff_ne,ne_eq,reduceCtorEq]at*
  omega
theorem yey(b:Bld)(st:Store)(R:Ja)(h:∀z:Bool,(z=true↔yg b)->R (bool z) st):Jb 196 [.agg (zk b)] st R:=by
 refine Qa (c:=cfg 41) zb Tryz.func196 ?_
 repeat' (first|refine bcd (λ_=>?_) (λ_=>?_)|refine zh (λ_=>?_) (λ_=>?_)|refine Qd ?_|fail)
 all_goals
  refine ret (h _ ?_)
  unfold yg
  simp only[decide_eq_true_eq,decide_eq_false_iff_not,Fah,false_iff,true_iff,beq_iff_eq,bne_iff_ne,beq_eq_false_iff_ne,ne_eq,reduceCtorEq]at*
  omega
theorem lf(b:Bld)(st:Store)(R:Ja)(h:∀z:Bool,(z=true↔yg b)->R (bool z) st):Jb 152 [.agg (zk b)] st R:=by
 refine Qa (c:=cfg 41) zb Tryz.func152 ?_
 repeat' (first|refine bcd (λ_=>?_) (λ_=>?_)|refine zh (λ_=>?_) (λ_=>?_)|refine Qd ?_|fail)
 all_goals
  refine ret (h _ ?_)
  unfold yg
  simp only[decide_eq_true_eq,decide_eq_false_iff_not,Fah,false_iff,true_iff,beq_iff_eq,bne_iff_ne,beq_eq_false_iff_ne,ne_eq,reduceCtorEq]at*
  omega
theorem yen(g:Gnd)(b:Bld)(hg:zr g)(hb:yg b)(st:Store)(R:Ja)(h:∀z:Bool,(z=true↔onP g b)->R (bool z) st):Jb 197 [.agg (zp g),.agg (zk b)] st R:=by
 obtain⟨h1,h2,_,_⟩:=hg;obtain⟨_,_,h3,h4⟩:=hb
 refine Qa (c:=cfg 33) zb Tryz.func197 ?_
 repeat' (first|refine bcd (λ_=>?_) (λ_=>?_)|refine zh (λ_=>?_) (λ_=>?_)|refine Qd ?_|fail)
 all_goals
  refine ret (h _ ?_)
  unfold onP
  simp only[decide_eq_true_eq,decide_eq_false_iff_not,Fah,false_iff,true_iff,beq_iff_eq,bne_iff_ne,beq_eq_false_iff_ne,ne_eq,reduceCtorEq]at*
  omega
theorem mz(g:Gnd)(b:Bld)(hg:zr g)(hb:yg b)(st:Store)(R:Ja)(h:∀z:Bool,(z=true↔onP g b)->R (bool z) st):Jb 153 [.agg (zp g),.agg (zk b)] st R:=by
 obtain⟨h1,h2,_,_⟩:=hg;obtain⟨_,_,h3,h4⟩:=hb
 refine Qa (c:=cfg 47) zb Tryz.func153 ?_
 repeat' (first|refine bcd (λ_=>?_) (λ_=>?_)|refine zh (λ_=>?_) (λ_=>?_)|refine Qd ?_|fail)
 all_goals
  refine ret (h _ ?_)
  unfold onP
  simp only[decide_eq_true_eq,decide_eq_false_iff_not,Fah,false_iff,true_iff,beq_iff_eq,bne_iff_ne,beq_eq_false_iff_ne,ne_eq,reduceCtorEq]at*
  omega
theorem zy6(g:Gnd)(t:Int)(hg:zr g)(st:Store)(R:Ja)(h:∀z:Bool,(z=true↔0<=t/\t<g.W*g.H)->R (bool z) st):Jb 201 [.agg (zp g),int t] st R:=by
 have hm:=qe hg
 refine Qa (c:=cfg 16) zb Tryz.func201 ?_
 repeat' (first|refine bcd (λ_=>?_) (λ_=>?_)|refine zh (λ_=>?_) (λ_=>?_)|refine Qd ?_|fail)
 all_goals
  refine ret (h _ ?_)
  simp only[decide_eq_true_eq,decide_eq_false_iff_not,Fah,false_iff,true_iff,beq_iff_eq,bne_iff_ne,beq_eq_false_iff_ne,ne_eq,reduceCtorEq]at*
  omega
theorem Mb(g:Gnd)(t:Int)(hg:zr g)(st:Store)(R:Ja)(h:∀z:Bool,(z=true↔0<=t/\t<g.W*g.H)->R (bool z) st):Jb 96 [.agg (zp g),int t] st R:=by
 have hm:=qe hg
 refine Qa (c:=cfg 16) zb Tryz.func96 ?_
 repeat' (first|refine bcd (λ_=>?_) (λ_=>?_)|refine zh (λ_=>?_) (λ_=>?_)|refine Qd ?_|fail)
 all_goals
  refine ret (h _ ?_)
  simp only[decide_eq_true_eq,decide_eq_false_iff_not,Fah,false_iff,true_iff,beq_iff_eq,bne_iff_ne,beq_eq_false_iff_ne,ne_eq,reduceCtorEq]at*
  omega
theorem zbe(g:Gnd)(t:Int)(hg:zr g)(st:Store)(R:Ja)(h:∀z:Bool,(z=true↔wg g t)->R (bool z) st):Jb 170 [.agg (zp g),int t] st R:=by
 refine Qa (c:=cfg 12) zb Tryz.func170 ?_
 repeat' (first|refine bcd (λ_=>?_) (λ_=>?_)|refine zh (λ_=>?_) (λ_=>?_)|refine Qd ?_|(refine zy6 _ _ hg _ _ ?_;rintro(_|_) hz)|fail)
 all_goals
  refine ret (h _ ?_)
  unfold wg
  simp only[decide_eq_true_eq,decide_eq_false_iff_not,Fah,false_iff,true_iff,beq_iff_eq,bne_iff_ne,beq_eq_false_iff_ne,ne_eq,reduceCtorEq]at*
  omega
theorem yah(g:Gnd)(l:List Bld)(st:Store)(R:Ja)(h:∀z:Bool,(z=true↔g.T.length>700\/l.length>30)->R (bool z) st):Jb 84 [.agg (zp g),lst 6 zk l] st R:=by
 refine Qa (c:=cfg 14) zb Tryz.func84 ?_
 repeat' (first|refine bcd (λ_=>?_) (λ_=>?_)|refine zh (λ_=>?_) (λ_=>?_)|refine Qd ?_|fail)
 all_goals
  refine ret (h _ ?_)
  simp only[decide_eq_true_eq,decide_eq_false_iff_not,Fah,false_iff,true_iff,beq_iff_eq,bne_iff_ne,beq_eq_false_iff_ne,ne_eq,reduceCtorEq,zn]at*
  omega
theorem yai(w:Wld)(st:Store)(R:Ja)(h:∀z:Bool,(z=true↔Nk w)->R (bool z) st):Jb 39 [.agg (zt w)] st R:=by
 refine Qa (c:=cfg 14) zb Tryz.func39 ?_
 repeat' (first|refine bcd (λ_=>?_) (λ_=>?_)|refine zh (λ_=>?_) (λ_=>?_)|refine Qd ?_|(refine yah w.G w.B _ _ ?_;rintro(_|_) hz)|fail)
 all_goals
  refine ret (h _ ?_)
  unfold Nk
  simp only[decide_eq_true_eq,decide_eq_false_iff_not,Fah,false_iff,true_iff,beq_iff_eq,bne_iff_ne,beq_eq_false_iff_ne,ne_eq,reduceCtorEq,zn]at*
  omega
theorem yfy(w:Wld)(u:Unt)(hg:zr w.G)(st:Store)(R:Ja)(h:∀z:Bool,(z=true↔jq w u)->R (bool z) st):Jb 114 [.agg (zt w),.agg (zf u)] st R:=by
 refine Qa (c:=cfg 90) zb Tryz.func114 ?_
 repeat' (first|refine bcd (λ_=>?_) (λ_=>?_)|refine zh (λ_=>?_) (λ_=>?_)|refine Qd ?_|(refine zy1 u.kind _ _ ?_;rintro(_|_) hz)|(refine zbe w.G u.goal hg _ _ ?_;rintro(_|_) hz)|(refine zbe w.G u.next hg _ _ ?_;rintro(_|_) hz)|fail)
 all_goals
  refine ret (h _ ?_)
  simp only[decide_eq_true_eq,decide_eq_false_iff_not,Fah,false_iff,true_iff,beq_iff_eq,bne_iff_ne,beq_eq_false_iff_ne,ne_eq,reduceCtorEq,jq,jv,wg]at*
  first|omega|(clear h;rcases Decidable.em (u.state=1)with e1|e1<;>rcases Decidable.em (u.goal=-1)with e2|e2<;>simp[bne,zbc,e1,e2]at*<;>omega)
theorem zyk(l:List UInt8)(hl:l.length<=1000000000000)(hne:0<l.length)(st:Store)(R:Ja)(h:∀m:UInt8,m∈l->(∀t∈l,t.toNat<=m.toNat)->R (u8 m) st):Jb 194 [xu l] st R:=by
 refine Qa (c:=cfg 25) zb Tryz.func194 ?_
 refine zh (λh1=>?_) (λh1=>?_)
 ·rw[zn]at h1
  simp at h1
  omega
 refine⟨0,rfl,za _ (zm hne) ?_⟩
 refine AWp.loop (σ:=Nat×UInt8) ⟨λs=>[(0,.av (xu l)),(3,.av (u8 s.2)),(4,.av (int (s.1:Nat)))],λ_=>[],
  λs st'=>(1<=s.1/\s.1<=l.length)/\st'=st/\s.2∈l/\∀t∈l.take s.1,t.toNat<=s.2.toNat,λs=>l.length-s.1⟩ zb ?_ ?_
 ·refine⟨(1,l[0]),Tv,⟨⟨Faj _,hne⟩,rfl,Faa hne,λt ht=>?_⟩,Qbh,Tv⟩
  have:l.take 1=[l[0]]:=by
   cases l with
   |nil=>simp at hne
   |cons a l=>rfl
  rw[this]at ht
  simp at ht
  rw[ht]
  exact Faj _
 ·rintro⟨i,m⟩ st' ⟨⟨hi1,hi⟩,rfl,hm,hall⟩
  simp only at hi1 hi hm hall
  refine zh (λh1=>?_) (λh1=>?_)
  ·have hlt:i<l.length:=qq h1
   refine⟨i,rfl,za _ (zm hlt) ?_⟩
   refine⟨⟨by omega,by omega⟩,?_⟩
   have hmax:max2 (m.toNat:Int) (l[i].toNat:Int)=((if l[i].toNat>m.toNat then l[i]else m:UInt8).toNat:Int):=by
    unfold max2
    by_cases hg:l[i].toNat>m.toNat
    ·rw[if_pos hg,decide_eq_true (by omega)];rfl
    ·rw[if_neg hg,decide_eq_false (by omega)];rfl
   refine⟨(i+1,if l[i].toNat>m.toNat then l[i]else m),?_,⟨⟨by omega,hlt⟩,rfl,?_,λt ht=>?_⟩,⟨Tq,?_,Tq,Tv⟩,Tv⟩
   ·show l.length-(i+1)<l.length-i
    omega
   ·show(if l[i].toNat>m.toNat then l[i]else m)∈l
    split
    ·exact Faa hlt
    ·exact hm
   ·show t.toNat<=(if l[i].toNat>m.toNat then l[i]else m:UInt8).toNat
    rw[Fac hlt]at ht
    rcases Fan.1 ht with ht|ht
    ·have:=hall t ht
     split<;>omega
    ·simp at ht
     subst ht
     split<;>omega
   ·show LV.le (.av (.s (.int .u8 (max2 (m.toNat:Int) (l[i].toNat:Int))))) _
    rw[hmax]
    exact Tq
  ·have hge:i=l.length:=qv h1 hi
   subst hge
   rw[Fap]at hall
   exact⟨_,st',Tt,Store.Has.refl st',h m hm hall⟩
theorem zz8(g:Gnd)(hg:g.fits)(st:Store)(R:Ja)(h:∀b:Bool,(b=true↔zr g)->R (bool b) st):Jb 165 [.agg (zp g)] st R:=by
 refine Qa (c:=cfg 28) zb Tryz.func165 ?_
 refine lg g.W _ _ (λb hb=>?_)
 cases b with
 |false=>
  refine⟨_,st,Tt,Store.Has.refl st,h _ ?_⟩
  simp only[Fah,false_iff]at hb⊢
  exact λhp=>hb hp.1
 |true=>
  refine lg g.H _ _ (λb2 hb2=>?_)
  cases b2 with
  |false=>
   refine⟨_,st,Tt,Store.Has.refl st,h _ ?_⟩
   simp only[Fah,false_iff]at hb2⊢
   exact λhp=>hb2 hp.2.1
  |true=>
   have hm:=lh (hb.1 rfl) (hb2.1 rfl)
   refine⟨⟨by omega,by omega⟩,?_⟩
   refine zh (λh1=>⟨_,st,Tt,Store.Has.refl st,h _ ?_⟩) (λh1=>?_)
   ·rw[zn]at h1
    simp only[Fah,false_iff]
    intro hp
    have:=hp.2.2.1
    simp[this]at h1
   ·rw[zn]at h1
    have h1:(g.T.length:Int)=g.W*g.H:=by simpa using h1
    refine zyk g.T hg (by omega) _ _ (λm hm1 hm2=>?_)
    refine⟨_,st,Tt,Store.Has.refl st,h _ ?_⟩
    rw[decide_eq_true_iff]
    constructor
    ·intro h2
     refine⟨hb.1 rfl,hb2.1 rfl,h1,λt ht=>?_⟩
     have:=hm2 t ht
     omega
    ·intro hp
     have:=hp.2.2.2 m hm1
     omega
theorem zz9(g:Gnd)(hg:g.fits)(st:Store)(R:Ja)(h:∀b:Bool,(b=true↔zr g)->R (bool b) st):Jb 150 [.agg (zp g)] st R:=by
 refine Qa (c:=cfg 46) zb Tryz.func150 ?_
 have no:¬zr g->R (bool false) st:=λhn=>h false (by simpa using hn)
 refine zh (λh1=>⟨_,st,Tt,Store.Has.refl st,no ?_⟩) (λh1=>?_)
 ·intro hp;have:=hp.1;simp at h1;omega
 refine zh (λh2=>⟨_,st,Tt,Store.Has.refl st,no ?_⟩) (λh2=>?_)
 ·intro hp;have:=hp.1;simp at h2;omega
 refine zh (λh3=>⟨_,st,Tt,Store.Has.refl st,no ?_⟩) (λh3=>?_)
 ·intro hp;have:=hp.2.1;simp at h3;omega
 refine zh (λh4=>⟨_,st,Tt,Store.Has.refl st,no ?_⟩) (λh4=>?_)
 ·intro hp;have:=hp.2.1;simp at h4;omega
 have hW:1<=g.W/\g.W<=128:=by simp at h1 h2;omega
 have hH:1<=g.H/\g.H<=128:=by simp at h3 h4;omega
 have hm:=lh hW hH
 refine⟨⟨by omega,by omega⟩,?_⟩
 refine zh (λh5=>⟨_,st,Tt,Store.Has.refl st,no ?_⟩) (λh5=>?_)
 ·rw[zn]at h5
  intro hp
  have:=hp.2.2.1
  simp[this]at h5
 rw[zn]at h5
 have h5:(g.T.length:Int)=g.W*g.H:=by simpa using h5
 refine AWp.loop (σ:=Nat) ⟨λi=>[(1,.bx 1 0),(3,.av (int (i:Nat)))],λ_=>[(1,zp g)],
  λi st'=>i<=g.T.length/\st'=st/\∀t∈g.T.take i,t.toNat<=5,λi=>g.T.length-i⟩ zb ?_ ?_
 ·exact⟨0,Tv,⟨Fag _,rfl,λt ht=>by simp at ht⟩,⟨Tq,Tq,Tv⟩,Qe⟩
 ·rintro i st' ⟨hi,rfl,hall⟩
  refine zh (λh6=>?_) (λh6=>?_)
  ·have hlt:i<g.T.length:=qq h6
   refine⟨i,rfl,za _ (zm hlt) ?_⟩
   refine zh (λh7=>⟨_,st',Tt,Store.Has.refl st',no ?_⟩) (λh7=>?_)
   ·intro hp
    have:=hp.2.2.2 _ (Faa hlt)
    simp at h7
    omega
   ·refine⟨⟨by omega,by omega⟩,?_⟩
    refine⟨i+1,?_,⟨hlt,rfl,λt ht=>?_⟩,⟨Tq,Tq,Tv⟩,Qe⟩
    ·show g.T.length-(i+1)<g.T.length-i
     omega
    ·rw[Fac hlt]at ht
     rcases Fan.1 ht with ht|ht
     ·exact hall t ht
     ·simp at ht
      subst ht
      simp at h7
      omega
  ·have hge:i=g.T.length:=qv h6 hi
   subst hge
   rw[Fap]at hall
   exact⟨_,st',Tt,Store.Has.refl st',h true (by simpa using⟨hW,hH,h5,hall⟩)⟩
end Go.Proofs
