/- Ground of laws of thronglaw25: contracts and plain lemmas; no condition beyond the row's own. -/
import Derived.Test.YtdfpifbbcigelaaGreatKG
import Derived.Test.YtdfpifbbcigelaaGreatKE
set_option linter.unusedSimpArgs false
set_option linter.unusedVariables false
namespace Go.Proofs
open Go Go.V
set_option maxRecDepth 20000
set_option maxHeartbeats 4000000
def Qam(a n:Nat):List Nat:=List.range' a n
abbrev Qan:=V.Sched.e
def zvg:V.Sched:=(sv [0,1,4,7,8,9,10,11] (Qan 2 [4] (sv [3] (Qan 5 [] (sv [6,12] (Qan 13 [] (sv [14,15,16] (Qan 17 [] (Qan 18 [] .done .stop) .stop)) .stop)) .stop)) .stop))
def zuz:V.Sched:=(sv (Qam 0 13) (Qan 13 [] .done .stop))
def gq:V.Sched:=(sv (Qam 0 25) (Qan 25 [] (sv [26,27,28,29,30,31,32,35,36,37,38,39,40] (Qan 33 [36,40] (sv [34] (Qan 41 [34] (sv (Qam 42 19) .done) .stop)) .stop)) .stop))
def zsq:V.Sched:=(sv (Qam 0 10) (Qan 10 [] (sv [11,12,13] (Qan 14 [0,1,2,3,4,5,6,7,8,9,11,12,13] (Qan 15 [] (Qan 16 [] .done .stop) .stop) .stop)) (.e 14 (Qam 0 10) (Qan 10 [] (sv [11,12,13] (Qan 15 [] (Qan 16 [] .done .stop) .stop)) .stop) .stop)))
def zss:V.Sched:=(sv [0,1,2,3,4] (Qan 5 [1] (sv [6,7] (Qan 8 [] (Qan 9 [] .done .stop) .stop)) .stop))
def zsr:V.Sched:=(sv [0,1,2,3,4,6,7,8,9] (Qan 5 [9] (Qan 10 [] (sv [11,12] (Qan 13 [] .done .stop)) .stop) .stop))
def zsi:V.Sched:=(sv (Qam 0 9) .done)
def zsh:V.Sched:=(sv [0,1] (Qan 2 [] (sv [3,4,5,6,7] (Qan 8 [] (sv (Qam 9 17) .done) .stop)) .stop))
def zse:V.Sched:=(sv (Qam 0 20) .done)
def zsg:V.Sched:=(sv (Qam 0 51) (Qan 51 [] (sv (Qam 52 12) (Qan 64 [] (sv (Qam 65 23) .done) .stop)) .stop))
def zsf:V.Sched:=(sv (Qam 0 9) .done)
def zsd:V.Sched:=(sv (Qam 0 17) (Qan 17 [10,12,14] (sv [18] (Qan 19 [] (sv [20,21] .done) .stop)) .stop))
def zsb:V.Sched:=(sv (Qam 0 11) (.e 11 (Qam 0 11) (Qan 12 [] .done .stop) .stop))
def zsa:V.Sched:=(sv (Qam 0 9) (Qan 9 [] .done .stop))
def zsc:V.Sched:=(sv [0,1,2,3,4] (Qan 5 [] .done .stop))
def zr9:V.Sched:=(sv [0,1,3,4,6,7] (Qan 2 [4,7] (sv [9] (Qan 5 [7] (Qan 8 [] (Qan 10 [] (sv [11] (Qan 12 [] (sv [13] (Qan 14 [] .done .stop)) .stop)) .stop) .stop) .stop)) .stop))
def zr8:V.Sched:=(sv [0,3,4] (Qan 1 [3] (Qan 2 [3] (sv [5] (Qan 6 [] (Qan 7 [] .done .stop) .stop)) .stop) .stop))
def g8:V.Sched:=(sv [0] (Qan 1 [0] (sv [2] (Qan 3 [] (Qan 4 [] .done .stop) .stop)) .stop))
def gz:V.Sched:=(sv [0,1,2,3,4,5,6,7] (Qan 8 [] .done .stop))
def gy:V.Sched:=(sv [0,1,2,3,4,5,6,7,9,10,11] (Qan 8 [4,9,11] (Qan 12 [] (sv [13] .done) .stop) .stop))
def gw:V.Sched:=(sv (Qam 0 12) (Qan 12 [5,7,9] (sv [13] (Qan 14 [] (sv [15,16] .done) .stop)) .stop))
def zvf:V.Sched:=(sv [0,1,2,3,4,5,6,7,8,9,10,11,12,13,15,16] (Qan 14 [16] (Qan 17 [13] (sv [18,19,20] .done) .stop) (Qan 17 [13] (sv [18] (Qan 14 [16] (sv [19,20] .done) .stop)) .stop)))
def zvd:V.Sched:=(sv [0,1,2,3] (Qan 4 [] (sv [5,6,7,8,9,10,11] (Qan 12 [] (sv [13,14,15,16,17,18,19,20] (Qan 21 [] (sv [22,23] .done) .stop)) .stop)) .stop))
def zve:V.Sched:=(sv [0,1,2,3,4,5,6,7] (Qan 8 [] .done .stop))
def zvc:V.Sched:=(sv [0,1,2,3,4,5,6,7,8,11] (Qan 9 [] (sv [10] .done) .stop))
def zvb:V.Sched:=(sv [0,1,2,3,4,5,6,11,12] (Qan 7 [0,2,4,12] (sv [8,9,10] (Qan 13 [0] (Qan 14 [] (Qan 15 [] .done .stop) .stop) .stop)) .stop))
def zva:V.Sched:=(sv [0,1,2,3,4,5] (Qan 6 [1] (Qan 7 [] .done .stop) .stop))
def zu6:V.Sched:=(sv [0,1,2,3,4] (Qan 5 [1] (sv [6] .done) .stop))
def zu9:V.Sched:=(sv [0,1,2,3,4] (Qan 5 [] .done .stop))
def zu8:V.Sched:=(sv [0,1,2,3,4,5,6,8,9] (Qan 7 [1,3,9] (Qan 10 [1,3] (sv [11] (Qan 12 [1] (Qan 13 [] (sv [14] .done) .stop) .stop)) .stop) .stop))
def zu7:V.Sched:=(sv [0,1,2,3,4] (Qan 5 [] .done .stop))
def zu5:V.Sched:=(sv [0,1,3,4] (Qan 2 [4] (Qan 5 [] (sv [6] (Qan 7 [] .done .stop)) .stop) .stop))
def zu4:V.Sched:=(sv [0,1,2,3,5,6,7,8] (Qan 4 [6,8] (Qan 9 [] (sv [10] (Qan 11 [] .done .stop)) .stop) .stop))
def zu3:V.Sched:=(sv [0,1,2,3,4,5,6] (Qan 7 [] (sv [8,9,10] (Qan 11 [] (Qan 12 [] .done .stop) .stop)) .stop))
def zu2:V.Sched:=(sv [0,1,2,3,4,5,6,7] (Qan 8 [] .done .stop))
def zu1:V.Sched:=(sv [0,1,2,3,4,5,6,7] (Qan 8 [] .done .stop))
def zu0:V.Sched:=(sv [0,1,2,3,4,5] (Qan 6 [] .done .stop))
def zuy:V.Sched:=(sv (Qam 0 11) (Qan 11 [0] (sv [12,13] (Qan 14 [] .done .stop)) .stop))
def zux:V.Sched:=(sv [0,1,2,3,4,5] (Qan 6 [0] (sv [7] (Qan 8 [] (Qan 9 [] .done .stop) .stop)) .stop))
def zuw:V.Sched:=(sv [0,1,2,3,4,5,6] (Qan 7 [] (sv [8] (Qan 9 [] .done .stop)) .stop))
def zuv:V.Sched:=(sv [0,1,2,3,4,6] (Qan 5 [] (Qan 7 [] (sv [8,9,10] (Qan 11 [] (Qan 12 [] .done .stop) .stop)) .stop) .stop))
def zuu:V.Sched:=(sv [0,1,2,3,4,5,6,7,8,9,11,12] (Qan 10 [3,4] (Qan 13 [3,4,8,9] (Qan 14 [3,4] (Qan 15 [] .done .stop) .stop) .stop) (Qan 13 [3,4,8,9] (Qan 10 [3,4] (Qan 14 [3,4] (Qan 15 [] .done .stop) .stop) .stop) .stop)))
def gu:V.Sched:=(sv [0,1,2,3,4,5] (Qan 6 [] .done .stop))
def zut:V.Sched:=(sv [0,1,2,3,4,5] (Qan 6 [4] (Qan 7 [] .done .stop) .stop))
def Ip:V.Sched:=(sv [0,1,2,3,4,5,6,7,8,9,10,11,12,14,15] (Qan 13 [] (sv [16] (Qan 17 [] .done .stop)) .stop))
def gr:V.Sched:=(sv [0,1,2,3,4,5,6,9] (Qan 7 [] (sv [8] .done) .stop))
def zus:V.Sched:=(sv [0,1,2,4] (Qan 3 [0,1] (Qan 5 [0,1] (sv [6] (Qan 7 [] (sv [8] (Qan 9 [] .done .stop)) .stop)) .stop) .stop))
def zur:V.Sched:=(sv (Qam 0 12) .done)
def zuq:V.Sched:=(sv (Qam 0 10) (Qan 10 [7] (Qan 11 [] .done .stop) .stop))
def zup:V.Sched:=(sv [0,1,2,3,4,6,7,8,9,10] (Qan 5 [7] (Qan 11 [] (Qan 12 [] (Qan 13 [] .done .stop) .stop) .stop) .stop))
def zuo:V.Sched:=(sv [0,1,2,3,5,6,7,8] (Qan 4 [6] (Qan 9 [] (sv [10] (Qan 11 [] .done .stop)) .stop) .stop))
def zun:V.Sched:=(sv (Qam 0 13) (Qan 13 [] .done .stop))
def zum:V.Sched:=(sv [0,1,2,3,4] (Qan 5 [] .done .stop))
def zul:V.Sched:=(sv (Qam 0 10) (Qan 10 [3,7] (.e 11 (Qam 0 10) (.e 12 (Qam 0 10) (Qan 13 [] (Qan 14 [] .done .stop) .stop) .stop) (.e 12 (Qam 0 10) (.e 11 (Qam 0 10) (Qan 13 [] (Qan 14 [] .done .stop) .stop) .stop) .stop)) (.e 11 (Qam 0 10) (Qan 10 [3,7] (.e 12 (Qam 0 10) (Qan 13 [] (Qan 14 [] .done .stop) .stop) .stop) (.e 12 (Qam 0 10) (Qan 10 [3,7] (Qan 13 [] (Qan 14 [] .done .stop) .stop) .stop) .stop)) (.e 12 (Qam 0 10) (Qan 10 [3,7] (.e 11 (Qam 0 10) (Qan 13 [] (Qan 14 [] .done .stop) .stop) .stop) (.e 11 (Qam 0 10) (Qan 10 [3,7] (Qan 13 [] (Qan 14 [] .done .stop) .stop) .stop) .stop)) .stop))))
def zuk:V.Sched:=(sv (Qam 0 9) (Qan 9 [5] (sv [10,11,12,13,14,15,16,17,18,19,20,21,22,23,24,25,26,27,28,29,30,31,36,37] (Qan 32 [37] (sv [33,34,35,38,39,40,41] .done) .stop)) .stop))
def zuj:V.Sched:=(sv [0,1,2,3,4,5,6,7] (Qan 8 [] (sv [9,10] (Qan 11 [] .done .stop)) .stop))
def zui:V.Sched:=(sv (Qam 0 10) (Qan 10 [3,7] (.e 11 (Qam 0 10) (.e 12 (Qam 0 10) (Qan 13 [] (Qan 14 [] .done .stop) .stop) .stop) (.e 12 (Qam 0 10) (.e 11 (Qam 0 10) (Qan 13 [] (Qan 14 [] .done .stop) .stop) .stop) .stop)) (.e 11 (Qam 0 10) (Qan 10 [3,7] (.e 12 (Qam 0 10) (Qan 13 [] (Qan 14 [] .done .stop) .stop) .stop) (.e 12 (Qam 0 10) (Qan 10 [3,7] (Qan 13 [] (Qan 14 [] .done .stop) .stop) .stop) .stop)) (.e 12 (Qam 0 10) (Qan 10 [3,7] (.e 11 (Qam 0 10) (Qan 13 [] (Qan 14 [] .done .stop) .stop) .stop) (.e 11 (Qam 0 10) (Qan 10 [3,7] (Qan 13 [] (Qan 14 [] .done .stop) .stop) .stop) .stop)) .stop))))
def zuh:V.Sched:=(sv [0,1,2,3] (Qan 4 [1] (sv [5] .done) .stop))
def zug:V.Sched:=(sv [0,1,2,3,4,5,6,7,8,9,10,11,12,13,14,15,16,17,18,19,20,22] (Qan 21 [] (sv [23,24] (Qan 25 [] .done .stop)) .stop))
def zuf:V.Sched:=(sv (Qam 0 13) .done)
def zue:V.Sched:=(sv (Qam 0 13) .done)
def zuc:V.Sched:=(sv [0,1,2,3,4] (Qan 5 [] (Qan 6 [] .done .stop) .stop))
def zub:V.Sched:=(sv [0,1,2,3,4] (Qan 5 [] .done .stop))
def zud:V.Sched:=(sv [0,1,2,3,4,5] (Qan 6 [] .done .stop))
def zt7:V.Sched:=(sv [0,1,2,3,4] (Qan 5 [3] (sv [6] (Qan 7 [] .done .stop)) .stop))
def zt6:V.Sched:=(sv [0,1,2,3,4] (Qan 5 [3] (sv [6] (Qan 7 [] .done .stop)) .stop))
def zua:V.Sched:=(sv [0,1,2,3,4,5,6] (Qan 7 [3,5] (sv [8] (Qan 9 [5] (sv [10] (Qan 11 [] .done .stop)) .stop)) .stop))
def zt9:V.Sched:=(sv [0,1,2,3,4] (Qan 5 [3] (sv [6] (Qan 7 [] .done .stop)) .stop))
def zt8:V.Sched:=(sv [0,1,2,3,4] (Qan 5 [3] (sv [6] (Qan 7 [] .done .stop)) .stop))
def zt5:V.Sched:=(sv (Qam 0 14) (Qan 14 [] (sv [15] (Qan 16 [] .done .stop)) .stop))
def zt4:V.Sched:=(sv (Qam 0 36) (Qan 36 [3,7,11] (sv [37] (Qan 38 [3] (sv [39,40,41] (Qan 42 [] .done .stop)) .stop)) .stop))
def zt3:V.Sched:=(sv (Qam 0 13) (Qan 13 [] (sv [14] .done) .stop))
def zt2:V.Sched:=(sv (Qam 0 13) (Qan 13 [2] (Qan 14 [] .done .stop) .stop))
def gp:V.Sched:=(sv [0,1,2,3,4] (Qan 5 [] .done .stop))
def zt1:V.Sched:=(sv [0,1,2,3,4] (Qan 5 [3] (Qan 6 [] .done .stop) .stop))
def zt0:V.Sched:=(sv [0,1,2,3,4,5] (Qan 6 [] (sv [7] (Qan 8 [] .done .stop)) .stop))
def ztz:V.Sched:=(sv (Qam 0 40) (.e 40 (Qam 0 40) (Qan 41 [] .done .stop) .stop))
def zty:V.Sched:=(sv (Qam 0 10) (Qan 10 [] (sv [11,12,13] (Qan 14 [] (Qan 15 [] .done .stop) .stop)) .stop))
def ztx:V.Sched:=(sv (Qam 0 18) (Qan 18 [] .done .stop))
def ztw:V.Sched:=(sv [0,1,2,3,4,5,6,7,8,9,10,11,13,14,15] (Qan 12 [0,3] (Qan 16 [0,3] (sv [17,18,19] (Qan 20 [] .done .stop)) .stop) .stop))
def ztu:V.Sched:=(sv [0,1,4,5,6,7,8,9,10,11,12,13] (Qan 2 [7,11,13] (sv [3] (Qan 14 [] (sv [15,16] (Qan 17 [] .done .stop)) .stop)) .stop))
def ztv:V.Sched:=(sv [0,1,2,3,4] (Qan 5 [] .done .stop))
def ztt:V.Sched:=(sv (Qam 0 13) (Qan 13 [] (sv [14] (Qan 15 [] .done .stop)) .stop))
def zts:V.Sched:=(sv [0,1,2,3,4,5,6,7,8,9,10,11,12,14,15] (Qan 13 [15] (Qan 16 [] (Qan 17 [] .done .stop) .stop) .stop))
def ztr:V.Sched:=(sv [0,1,2,3,4,5,6,7,8,9,12] (Qan 10 [] (sv [11] .done) .stop))
def gn:V.Sched:=(sv (Qam 0 30) (Qan 30 [] (sv (Qam 31 9) (Qan 40 [] (sv [41] (Qan 42 [] .done .stop)) .stop)) .stop))
def ztq:V.Sched:=(sv [0,1,2,3,4,5,6,7] (Qan 8 [6] (Qan 9 [] .done .stop) .stop))
def ztp:V.Sched:=(sv (Qam 0 12) .done)
def zto:V.Sched:=(sv [0,1,3,4] (Qan 2 [4] (Qan 5 [] (sv [6] (Qan 7 [] .done .stop)) .stop) .stop))
def ztn:V.Sched:=(sv (Qam 0 10) (Qan 10 [7] (Qan 11 [] .done .stop) .stop))
def ztm:V.Sched:=(sv [0,1,2,4,5,6] (Qan 3 [5,6] (Qan 7 [] (sv [8] (Qan 9 [] (Qan 10 [0,1,2,4,5,6,8] (Qan 11 [] .done .stop) .stop) (Qan 10 [0,1,2,4,5,6,8] (Qan 9 [] (Qan 11 [] .done .stop) .stop) .stop))) (Qan 10 [0,1,2,4,5,6] (Qan 7 [] (sv [8] (Qan 9 [] (Qan 11 [] .done .stop) .stop)) .stop) .stop)) (Qan 10 [0,1,2,4,5,6] (Qan 3 [5,6] (Qan 7 [] (sv [8] (Qan 9 [] (Qan 11 [] .done .stop) .stop)) .stop) .stop) .stop)))
def ztl:V.Sched:=(sv [0,1,2,4,5,6] (Qan 3 [5,6] (Qan 7 [] (sv [8] (Qan 9 [] (Qan 10 [0,1,2,4,5,6,8] (Qan 11 [] .done .stop) .stop) (Qan 10 [0,1,2,4,5,6,8] (Qan 9 [] (Qan 11 [] .done .stop) .stop) .stop))) (Qan 10 [0,1,2,4,5,6] (Qan 7 [] (sv [8] (Qan 9 [] (Qan 11 [] .done .stop) .stop)) .stop) .stop)) (Qan 10 [0,1,2,4,5,6] (Qan 3 [5,6] (Qan 7 [] (sv [8] (Qan 9 [] (Qan 11 [] .done .stop) .stop)) .stop) .stop) .stop)))
def ztk:V.Sched:=(sv [0,1,4,5] (Qan 2 [5] (Qan 3 [5] (Qan 6 [] (Qan 7 [] (Qan 8 [] (Qan 9 [] .done .stop) .stop) .stop) .stop) .stop) .stop))
def ztj:V.Sched:=(sv [0,1,2,3,5,6,7,8] (Qan 4 [6,8] (Qan 9 [] (sv [10] (Qan 11 [] .done .stop)) .stop) .stop))
def zti:V.Sched:=(sv [0,1,2,3,5,6,7,8] (Qan 4 [6,8] (Qan 9 [] (sv [10] (Qan 11 [] .done .stop)) .stop) .stop))
def zth:V.Sched:=(sv [0,1,2,3,4,5,6,7] (Qan 8 [6] (Qan 9 [] .done .stop) .stop))
def ztg:V.Sched:=(sv [0,1,2,3,4,5,6,7,8,9,10,11,12,13,14,15,16,17,18,19,20,21,22,23,24,25,26,27,28,29,30,31,36,37,38,39] (Qan 32 [3,7,37] (sv [33,34,35] (Qan 40 [] (Qan 41 [] .done .stop) .stop)) .stop))
def ztf:V.Sched:=(sv [0,2,3,4] (Qan 1 [3] (Qan 5 [] (Qan 6 [] (Qan 7 [] .done .stop) .stop) .stop) .stop))
def zte:V.Sched:=(sv [0,1,2,3,4,5,6,7,8,11] (Qan 9 [] (sv [10] .done) .stop))
def ztd:V.Sched:=(sv [0,1,2,3,4,5,6,7,8,9,10,11,12,16] (Qan 13 [3] (Qan 14 [] (sv [15] .done) .stop) .stop))
def ztc:V.Sched:=(sv (Qam 0 13) (Qan 13 [3,7,10] (sv [14] (Qan 15 [] .done .stop)) .stop))
def ztb:V.Sched:=(sv [0,1,2,3,4,5,6,7] (Qan 8 [] .done .stop))
def zta:V.Sched:=(sv [0,1,2,3,4,5] (Qan 6 [] (Qan 7 [] .done .stop) .stop))
def zs9:V.Sched:=(sv [0,1,2,3,4,5,6,7,10] (Qan 8 [] (sv [9] .done) .stop))
def zs8:V.Sched:=(sv (Qam 0 9) (Qan 9 [] .done .stop))
def zs7:V.Sched:=(sv [0,1] (Qan 2 [0] (sv [3] (Qan 4 [] .done .stop)) .stop))
def zs6:V.Sched:=(sv [0,1,2,3,4] (Qan 5 [] .done .stop))
def zs5:V.Sched:=(sv (Qam 0 9) .done)
def zs4:V.Sched:=(sv (Qam 0 9) .done)
def zs3:V.Sched:=(sv [0,1,2,3] (Qan 4 [] (Qan 5 [] .done .stop) .stop))
def zs2:V.Sched:=(sv [0,1,2,3,4,5,7] (Qan 6 [0,7] (Qan 8 [] .done .stop) .stop))
def zs1:V.Sched:=(sv [0,1] (Qan 2 [0] (Qan 3 [] (sv [4] .done) .stop) .stop))
def zs0:V.Sched:=(sv [0,1,2,3,4,5] (Qan 6 [] (Qan 7 [] .done .stop) .stop))
def zsy:V.Sched:=(sv [0,1,2,3,4,5,6,7] (Qan 8 [] .done .stop))
def zsx:V.Sched:=(sv [0,1,2,3,4,5,6,7] (Qan 8 [6] (Qan 9 [] .done .stop) .stop))
def zsw:V.Sched:=(sv [0,1,2,3,4,5,6,7] (Qan 8 [6] (Qan 9 [] .done .stop) .stop))
def zsv:V.Sched:=(sv (Qam 0 12) (Qan 12 [] .done .stop))
def zsu:V.Sched:=(sv [0,1,2,3,4,5,6] (Qan 7 [0] (Qan 8 [] .done .stop) .stop))
def zst:V.Sched:=(sv [0,1,2] (Qan 3 [0] (sv [4,5] (Qan 6 [] .done .stop)) .stop))
def zsp:V.Sched:=(sv [0,1,2,3,4,5,6,7,8,9,10,11,13,14,15,16,17,18,19,20,21,22,23,24] (Qan 12 [16,21,24] (Qan 25 [] (sv [26] (Qan 27 [] .done .stop)) .stop) .stop))
def zso:V.Sched:=(sv (Qam 0 39) (Qan 39 [] (sv [40,41,42,43,44,45,46] (Qan 47 [] (sv [48,49] .done) .stop)) .stop))
def zsn:V.Sched:=(sv (Qam 0 14) (Qan 14 [] (sv [15] .done) .stop))
def zsm:V.Sched:=(sv (Qam 0 25) (Qan 25 [] (sv [26] (Qan 27 [] .done .stop)) .stop))
def zsk:V.Sched:=(sv (Qam 0 12) (Qan 12 [] .done .stop))
def zsl:V.Sched:=(sv (Qam 0 20) (Qan 20 [] (sv [21] .done) .stop))
def So:V.Sched:=(sv (Qam 0 14) (Qan 14 [] (sv [15] .done) .stop))
def Sn:V.Sched:=(sv (Qam 0 25) (Qan 25 [] (sv [26] (Qan 27 [] .done .stop)) .stop))
def Nn:V.Sched:=(sv [0,1,2,3] (Qan 4 [3] (Qan 5 [] (Qan 6 [] .done .stop) .stop) .stop))
def zsj:V.Sched:=(sv [0,1,2,3,4,5] (Qan 6 [] (Qan 7 [] .done .stop) .stop))
theorem zb:yp Tryz.prog infoTree.get:=Tr.ok _ yaq
def cfg(n:Nat)(G:List Nat:=[])(W:List Nat:=[]):Cfg:={n:=n,I:=infoTree.get,G:=G,W:=W}
theorem Qal{p:Prop}(h:p:=by repeat(first|exact Tv|refine⟨Tq,?_⟩)):p:=h
theorem Qap{q:Prop}(h:q):(True/\q)/\True:=⟨⟨Tv,h⟩,Tv⟩
theorem Qaq{S:Store}{b:Nat}{x:AObj}{K:AObj->Prop}(k:K x)(h:S.obj b=some x:=by assumption):optK (Store.obj S b) K:=za _ h k
theorem Qao{p q:Prop}(h:q)(c:p:=by repeat(first|exact Tv|refine⟨rfl,?_⟩|refine⟨optR (optR (optR (za _ (zd _ _ _) rfl))),?_⟩|refine⟨za (o:=Store.obj _ _) _ (by assumption) rfl,?_⟩|refine⟨⟨by decide,ze (by assumption) rfl⟩,?_⟩)):(p/\q)/\True:=⟨⟨c,h⟩,Tv⟩
theorem Qe{p:Prop}(h:p:=by repeat(first|exact Tv|refine⟨rfl,?_⟩|refine⟨optR (optR (optR (za _ (zd _ _ _) rfl))),?_⟩|refine⟨za (o:=Store.obj _ _) _ (by assumption) rfl,?_⟩|refine⟨⟨by decide,ze (by assumption) rfl⟩,?_⟩)):p:=h
abbrev Jb:=ACalls Tryz.prog
theorem zz8(n:Int)(st:Store)(R:Ja)(h:∀z:Bool,(z=true↔vy n)->R (bool z) st):Jb 191 [int n] st R:=by
 refine Qa (c:=cfg 9) zb Tryz.func191 ?_
 repeat' (first|refine bcd (λ_=>?_) (λ_=>?_)|refine zj (λ_=>?_) (λ_=>?_)|refine Qd ?_|fail)
 all_goals
  refine ret (h _ ?_)
  unfold vy
  simp only[decide_eq_true_eq,decide_eq_false_iff_not,Fad,false_iff,true_iff,beq_iff_eq,bne_iff_ne,beq_eq_false_iff_ne,ne_eq,reduceCtorEq]at*
  omega
theorem gg(n:Int)(st:Store)(R:Ja)(h:∀z:Bool,(z=true↔1<=n/\n<=128)->R (bool z) st):Jb 137 [int n] st R:=by
 refine Qa (c:=cfg 9) zb Tryz.func137 ?_
 repeat' (first|refine bcd (λ_=>?_) (λ_=>?_)|refine zj (λ_=>?_) (λ_=>?_)|refine Qd ?_|fail)
 all_goals
  refine ret (h _ ?_)
  simp only[decide_eq_true_eq,decide_eq_false_iff_not,Fad,false_iff,true_iff,beq_iff_eq,bne_iff_ne,beq_eq_false_iff_ne,ne_eq,reduceCtorEq]at*
  omega
theorem zyg(n hi:Int)(st:Store)(R:Ja)(h:∀z:Bool,(z=true↔0<=n/\n<=hi)->R (bool z) st):Jb 120 [int n,int hi] st R:=by
 refine Qa (c:=cfg 12) zb Tryz.func120 ?_
 repeat' (first|refine bcd (λ_=>?_) (λ_=>?_)|refine zj (λ_=>?_) (λ_=>?_)|refine Qd ?_|fail)
 all_goals
  refine ret (h _ ?_)
  simp only[decide_eq_true_eq,decide_eq_false_iff_not,Fad,false_iff,true_iff,beq_iff_eq,bne_iff_ne,beq_eq_false_iff_ne,ne_eq,reduceCtorEq]at*
  omega
theorem zxv(p:Vc)(st:Store)(R:Ja)(h:∀z:Bool,(z=true↔qm p.1 p.2)->R (bool z) st):Jb 309 [.agg (zy p)] st R:=by
 refine Qa (c:=cfg 21) zb Tryz.func309 ?_
 repeat' (first|refine bcd (λ_=>?_) (λ_=>?_)|refine zj (λ_=>?_) (λ_=>?_)|refine Qd ?_|fail)
 all_goals
  refine ret (h _ ?_)
  unfold qm
  simp only[decide_eq_true_eq,decide_eq_false_iff_not,Fad,false_iff,true_iff,beq_iff_eq,bne_iff_ne,beq_eq_false_iff_ne,ne_eq,reduceCtorEq]at*
  omega
theorem uf(b:Bld)(st:Store)(R:Ja)(h:∀z:Bool,(z=true↔yc b)->R (bool z) st):Jb 282 [.agg (zi b)] st R:=by
 refine Qa (c:=cfg 41) zb Tryz.func282 ?_
 repeat' (first|refine bcd (λ_=>?_) (λ_=>?_)|refine zj (λ_=>?_) (λ_=>?_)|refine Qd ?_|fail)
 all_goals
  refine ret (h _ ?_)
  unfold yc
  simp only[decide_eq_true_eq,decide_eq_false_iff_not,Fad,false_iff,true_iff,beq_iff_eq,bne_iff_ne,beq_eq_false_iff_ne,ne_eq,reduceCtorEq]at*
  omega
theorem zrx(b:Bld)(st:Store)(R:Ja)(h:∀z:Bool,(z=true↔yc b)->R (bool z) st):Jb 202 [.agg (zi b)] st R:=by
 refine Qa (c:=cfg 41) zb Tryz.func202 ?_
 repeat' (first|refine bcd (λ_=>?_) (λ_=>?_)|refine zj (λ_=>?_) (λ_=>?_)|refine Qd ?_|fail)
 all_goals
  refine ret (h _ ?_)
  unfold yc
  simp only[decide_eq_true_eq,decide_eq_false_iff_not,Fad,false_iff,true_iff,beq_iff_eq,bne_iff_ne,beq_eq_false_iff_ne,ne_eq,reduceCtorEq]at*
  omega
theorem tv(g:Gnd)(b:Bld)(hg:zn g)(hb:yc b)(st:Store)(R:Ja)(h:∀z:Bool,(z=true↔onP g b)->R (bool z) st):Jb 283 [.agg (zo g),.agg (zi b)] st R:=by
 obtain⟨h1,h2,_,_⟩:=hg;obtain⟨_,_,h3,h4⟩:=hb
 refine Qa (c:=cfg 33) zb Tryz.func283 ?_
 repeat' (first|refine bcd (λ_=>?_) (λ_=>?_)|refine zj (λ_=>?_) (λ_=>?_)|refine Qd ?_|fail)
 all_goals
  refine ret (h _ ?_)
  unfold onP
  simp only[decide_eq_true_eq,decide_eq_false_iff_not,Fad,false_iff,true_iff,beq_iff_eq,bne_iff_ne,beq_eq_false_iff_ne,ne_eq,reduceCtorEq]at*
  omega
theorem zwd(g:Gnd)(b:Bld)(hg:zn g)(hb:yc b)(st:Store)(R:Ja)(h:∀z:Bool,(z=true↔onP g b)->R (bool z) st):Jb 203 [.agg (zo g),.agg (zi b)] st R:=by
 obtain⟨h1,h2,_,_⟩:=hg;obtain⟨_,_,h3,h4⟩:=hb
 refine Qa (c:=cfg 47) zb Tryz.func203 ?_
 repeat' (first|refine bcd (λ_=>?_) (λ_=>?_)|refine zj (λ_=>?_) (λ_=>?_)|refine Qd ?_|fail)
 all_goals
  refine ret (h _ ?_)
  unfold onP
  simp only[decide_eq_true_eq,decide_eq_false_iff_not,Fad,false_iff,true_iff,beq_iff_eq,bne_iff_ne,beq_eq_false_iff_ne,ne_eq,reduceCtorEq]at*
  omega
theorem Oz(g:Gnd)(t:Int)(hg:zn g)(st:Store)(R:Ja)(h:∀z:Bool,(z=true↔0<=t/\t<g.W*g.H)->R (bool z) st):Jb 287 [.agg (zo g),int t] st R:=by
 have hm:=qi hg
 refine Qa (c:=cfg 16) zb Tryz.func287 ?_
 repeat' (first|refine bcd (λ_=>?_) (λ_=>?_)|refine zj (λ_=>?_) (λ_=>?_)|refine Qd ?_|fail)
 all_goals
  refine ret (h _ ?_)
  simp only[decide_eq_true_eq,decide_eq_false_iff_not,Fad,false_iff,true_iff,beq_iff_eq,bne_iff_ne,beq_eq_false_iff_ne,ne_eq,reduceCtorEq]at*
  omega
theorem et(g:Gnd)(t:Int)(hg:zn g)(st:Store)(R:Ja)(h:∀z:Bool,(z=true↔0<=t/\t<g.W*g.H)->R (bool z) st):Jb 122 [.agg (zo g),int t] st R:=by
 have hm:=qi hg
 refine Qa (c:=cfg 16) zb Tryz.func122 ?_
 repeat' (first|refine bcd (λ_=>?_) (λ_=>?_)|refine zj (λ_=>?_) (λ_=>?_)|refine Qd ?_|fail)
 all_goals
  refine ret (h _ ?_)
  simp only[decide_eq_true_eq,decide_eq_false_iff_not,Fad,false_iff,true_iff,beq_iff_eq,bne_iff_ne,beq_eq_false_iff_ne,ne_eq,reduceCtorEq]at*
  omega
theorem uj(g:Gnd)(t:Int)(hg:zn g)(st:Store)(R:Ja)(h:∀z:Bool,(z=true↔vg g t)->R (bool z) st):Jb 192 [.agg (zo g),int t] st R:=by
 refine Qa (c:=cfg 12) zb Tryz.func192 ?_
 repeat' (first|refine bcd (λ_=>?_) (λ_=>?_)|refine zj (λ_=>?_) (λ_=>?_)|refine Qd ?_|(refine Oz _ _ hg _ _ ?_;rintro(_|_) hz)|fail)
 all_goals
  refine ret (h _ ?_)
  unfold vg
  simp only[decide_eq_true_eq,decide_eq_false_iff_not,Fad,false_iff,true_iff,beq_iff_eq,bne_iff_ne,beq_eq_false_iff_ne,ne_eq,reduceCtorEq]at*
  omega
theorem ybj(g:Gnd)(l:List Bld)(st:Store)(R:Ja)(h:∀z:Bool,(z=true↔g.T.length>700\/l.length>30)->R (bool z) st):Jb 125 [.agg (zo g),lst 6 zi l] st R:=by
 refine Qa (c:=cfg 14) zb Tryz.func125 ?_
 repeat' (first|refine bcd (λ_=>?_) (λ_=>?_)|refine zj (λ_=>?_) (λ_=>?_)|refine Qd ?_|fail)
 all_goals
  refine ret (h _ ?_)
  simp only[decide_eq_true_eq,decide_eq_false_iff_not,Fad,false_iff,true_iff,beq_iff_eq,bne_iff_ne,beq_eq_false_iff_ne,ne_eq,reduceCtorEq,zm]at*
  omega
theorem ybk(w:Wld)(st:Store)(R:Ja)(h:∀z:Bool,(z=true↔Pe w)->R (bool z) st):Jb 72 [.agg (zw w)] st R:=by
 refine Qa (c:=cfg 14) zb Tryz.func72 ?_
 repeat' (first|refine bcd (λ_=>?_) (λ_=>?_)|refine zj (λ_=>?_) (λ_=>?_)|refine Qd ?_|(refine ybj w.G w.B _ _ ?_;rintro(_|_) hz)|fail)
 all_goals
  refine ret (h _ ?_)
  unfold Pe
  simp only[decide_eq_true_eq,decide_eq_false_iff_not,Fad,false_iff,true_iff,beq_iff_eq,bne_iff_ne,beq_eq_false_iff_ne,ne_eq,reduceCtorEq,zm]at*
  omega
theorem yg3(w:Wld)(u:Unt)(hg:zn w.G)(st:Store)(R:Ja)(h:∀z:Bool,(z=true↔xt w u)->R (bool z) st):Jb 113 [.agg (zw w),.agg (zk u)] st R:=by
 refine Qa (c:=cfg 90) zb Tryz.func113 ?_
 repeat' (first|refine bcd (λ_=>?_) (λ_=>?_)|refine zj (λ_=>?_) (λ_=>?_)|refine Qd ?_|(refine zz8 u.kind _ _ ?_;rintro(_|_) hz)|(refine uj w.G u.goal hg _ _ ?_;rintro(_|_) hz)|(refine uj w.G u.next hg _ _ ?_;rintro(_|_) hz)|fail)
 all_goals
  refine ret (h _ ?_)
  simp only[decide_eq_true_eq,decide_eq_false_iff_not,Fad,false_iff,true_iff,beq_iff_eq,bne_iff_ne,beq_eq_false_iff_ne,ne_eq,reduceCtorEq,xt,vy,vg]at*
  first|omega|(clear h;rcases Decidable.em (u.state=1)with e1|e1<;>rcases Decidable.em (u.goal=-1)with e2|e2<;>simp[bne,bm,e1,e2]at*<;>omega)
theorem zzp(l:List UInt8)(hl:l.length<=1000000000000)(hne:0<l.length)(st:Store)(R:Ja)(h:∀m:UInt8,m∈l->(∀t∈l,t.toNat<=m.toNat)->R (u8 m) st):Jb 138 [xc l] st R:=by
 refine Qa (c:=cfg 25) zb Tryz.func138 ?_
 refine zj (λh1=>?_) (λh1=>?_)
 ·rw[zm]at h1
  simp at h1
  omega
 refine⟨0,rfl,za _ (zr hne) ?_⟩
 refine AWp.loop (σ:=Nat×UInt8) ⟨λs=>[(0,.av (xc l)),(3,.av (u8 s.2)),(4,.av (int (s.1:Nat)))],λ_=>[],
  λs st'=>(1<=s.1/\s.1<=l.length)/\st'=st/\s.2∈l/\∀t∈l.take s.1,t.toNat<=s.2.toNat,λs=>l.length-s.1⟩ zb ?_ ?_
 ·refine⟨(1,l[0]),Tv,⟨⟨Fak _,hne⟩,rfl,Faa hne,λt ht=>?_⟩,Qal,Tv⟩
  have:l.take 1=[l[0]]:=by
   cases l with
   |nil=>simp at hne
   |cons a l=>rfl
  rw[this]at ht
  simp at ht
  rw[ht]
  exact Fak _
 ·rintro⟨i,m⟩ st' ⟨⟨hi1,hi⟩,rfl,hm,hall⟩
  simp only at hi1 hi hm hall
  refine zj (λh1=>?_) (λh1=>?_)
  ·have hlt:i<l.length:=wj h1
   refine⟨i,rfl,za _ (zr hlt) ?_⟩
   refine⟨⟨by omega,by omega⟩,?_⟩
   have hmax:max2 (m.toNat:Int) (l[i].toNat:Int)=((if l[i].toNat>m.toNat then l[i]else m:UInt8).toNat:Int):=by
    unfold max2
    by_cases hg:l[i].toNat>m.toNat
    ·rw[if_pos hg,decide_eq_true (by omega)];rfl
    ·rw[if_neg hg,decide_eq_false (by omega)];rfl
   refine⟨(i+1,if l[i].toNat>m.toNat then l[i]else m),?_,⟨⟨by omega,hlt⟩,rfl,?_,λt ht=>?_⟩,⟨Tq,?_,Tq,Tv⟩,Tv⟩
   ·show l.length-(i+1)<l.length-i
    omega
   ·show(if l[i].toNat>m.toNat then l[i]else m)∈l
    split
    ·exact Faa hlt
    ·exact hm
   ·show t.toNat<=(if l[i].toNat>m.toNat then l[i]else m:UInt8).toNat
    rw[Fae hlt]at ht
    rcases Fal.1 ht with ht|ht
    ·have:=hall t ht
     split<;>omega
    ·simp at ht
     subst ht
     split<;>omega
   ·show LV.le (.av (.s (.int .u8 (max2 (m.toNat:Int) (l[i].toNat:Int))))) _
    rw[hmax]
    exact Tq
  ·have hge:i=l.length:=Af h1 hi
   subst hge
   rw[Faz]at hall
   exact⟨_,st',Tt,Store.Has.refl st',h m hm hall⟩
theorem o5(g:Gnd)(hg:g.fits)(st:Store)(R:Ja)(h:∀b:Bool,(b=true↔zn g)->R (bool b) st):Jb 88 [.agg (zo g)] st R:=by
 refine Qa (c:=cfg 28) zb Tryz.func88 ?_
 refine gg g.W _ _ (λb hb=>?_)
 cases b with
 |false=>
  refine⟨_,st,Tt,Store.Has.refl st,h _ ?_⟩
  simp only[Fad,false_iff]at hb⊢
  exact λhp=>hb hp.1
 |true=>
  refine gg g.H _ _ (λb2 hb2=>?_)
  cases b2 with
  |false=>
   refine⟨_,st,Tt,Store.Has.refl st,h _ ?_⟩
   simp only[Fad,false_iff]at hb2⊢
   exact λhp=>hb2 hp.2.1
  |true=>
   have hm:=gi (hb.1 rfl) (hb2.1 rfl)
   refine⟨⟨by omega,by omega⟩,?_⟩
   refine zj (λh1=>⟨_,st,Tt,Store.Has.refl st,h _ ?_⟩) (λh1=>?_)
   ·rw[zm]at h1
    simp only[Fad,false_iff]
    intro hp
    have:=hp.2.2.1
    simp[this]at h1
   ·rw[zm]at h1
    have h1:(g.T.length:Int)=g.W*g.H:=by simpa using h1
    refine zzp g.T hg (by omega) _ _ (λm hm1 hm2=>?_)
    refine⟨_,st,Tt,Store.Has.refl st,h _ ?_⟩
    rw[decide_eq_true_iff]
    constructor
    ·intro h2
     refine⟨hb.1 rfl,hb2.1 rfl,h1,λt ht=>?_⟩
     have:=hm2 t ht
     omega
    ·intro hp
     have:=hp.2.2.2 m hm1
     omega
theorem ybi(g:Gnd)(hg:g.fits)(st:Store)(R:Ja)(h:∀b:Bool,(b=true↔zn g)->R (bool b) st):Jb 36 [.agg (zo g)] st R:=by
 refine Qa (c:=cfg 46) zb Tryz.func36 ?_
 have no:¬zn g->R (bool false) st:=λhn=>h false (by simpa using hn)
 refine zj (λh1=>⟨_,st,Tt,Store.Has.refl st,no ?_⟩) (λh1=>?_)
 ·intro hp;have:=hp.1;simp at h1;omega
 refine zj (λh2=>⟨_,st,Tt,Store.Has.refl st,no ?_⟩) (λh2=>?_)
 ·intro hp;have:=hp.1;simp at h2;omega
 refine zj (λh3=>⟨_,st,Tt,Store.Has.refl st,no ?_⟩) (λh3=>?_)
 ·intro hp;have:=hp.2.1;simp at h3;omega
 refine zj (λh4=>⟨_,st,Tt,Store.Has.refl st,no ?_⟩) (λh4=>?_)
 ·intro hp;have:=hp.2.1;simp at h4;omega
 have hW:1<=g.W/\g.W<=128:=by simp at h1 h2;omega
 have hH:1<=g.H/\g.H<=128:=by simp at h3 h4;omega
 have hm:=gi hW hH
 refine⟨⟨by omega,by omega⟩,?_⟩
 refine zj (λh5=>⟨_,st,Tt,Store.Has.refl st,no ?_⟩) (λh5=>?_)
 ·rw[zm]at h5
  intro hp
  have:=hp.2.2.1
  simp[this]at h5
 rw[zm]at h5
 have h5:(g.T.length:Int)=g.W*g.H:=by simpa using h5
 refine AWp.loop (σ:=Nat) ⟨λi=>[(1,.bx 1 0),(3,.av (int (i:Nat)))],λ_=>[(1,zo g)],
  λi st'=>i<=g.T.length/\st'=st/\∀t∈g.T.take i,t.toNat<=5,λi=>g.T.length-i⟩ zb ?_ ?_
 ·exact⟨0,Tv,⟨Faj _,rfl,λt ht=>by simp at ht⟩,⟨Tq,Tq,Tv⟩,Qe⟩
 ·rintro i st' ⟨hi,rfl,hall⟩
  refine zj (λh6=>?_) (λh6=>?_)
  ·have hlt:i<g.T.length:=wj h6
   refine⟨i,rfl,za _ (zr hlt) ?_⟩
   refine zj (λh7=>⟨_,st',Tt,Store.Has.refl st',no ?_⟩) (λh7=>?_)
   ·intro hp
    have:=hp.2.2.2 _ (Faa hlt)
    simp at h7
    omega
   ·refine⟨⟨by omega,by omega⟩,?_⟩
    refine⟨i+1,?_,⟨hlt,rfl,λt ht=>?_⟩,⟨Tq,Tq,Tv⟩,Qe⟩
    ·show g.T.length-(i+1)<g.T.length-i
     omega
    ·rw[Fae hlt]at ht
     rcases Fal.1 ht with ht|ht
     ·exact hall t ht
     ·simp at ht
      subst ht
      simp at h7
      omega
  ·have hge:i=g.T.length:=Af h6 hi
   subst hge
   rw[Faz]at hall
   exact⟨_,st',Tt,Store.Has.refl st',h true (by simpa using⟨hW,hH,h5,hall⟩)⟩
end Go.Proofs
