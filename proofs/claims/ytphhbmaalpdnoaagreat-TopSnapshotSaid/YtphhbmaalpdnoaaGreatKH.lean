/- Ground of laws of throngtop: contracts and plain lemmas; no condition beyond the row's own. -/
import Derived.Test.YtphhbmaalpdnoaaGreatKG
import Derived.Test.YtphhbmaalpdnoaaGreatKD
set_option linter.unusedSimpArgs false
set_option linter.unusedVariables false
set_option linter.defProp false
namespace Go.Proofs
open Go Go.V
set_option maxRecDepth 20000
set_option maxHeartbeats 4000000
def Qar(a n:Nat):List Nat:=List.range' a n
abbrev Qas:=V.Sched.e
def yam:V.Sched:=(sv [0,1,2] (Qas 3 [0] (sv [4] (Qas 5 [] (sv [6,7,8] (Qas 9 [] (Qas 10 [] .done .stop) .stop)) .stop)) .stop))
def uh:V.Sched:=(sv (Qar 0 25) (Qas 25 [] (sv [26,27,28,29,30,31,32,35,36,37,38,39,40] (Qas 33 [36,40] (sv [34] (Qas 41 [34] (sv (Qar 42 19) .done) .stop)) .stop)) .stop))
def yds:V.Sched:=(sv [0,1,2] (Qas 3 [1] (sv [4] (Qas 5 [] (sv [6] (Qas 7 [] .done .stop)) .stop)) .stop))
def ydr:V.Sched:=(sv [0,2,3,4,5,6,7,8,9,10,11] (Qas 1 [4,8,9] (Qas 12 [] (Qas 13 [] (Qas 14 [] .done .stop) .stop) .stop) .stop))
def ydq:V.Sched:=(sv [0,1,2,3,4] (Qas 5 [4] (Qas 6 [] .done .stop) .stop))
def ydj:V.Sched:=(sv (Qar 0 10) (Qas 10 [] (sv [11,12,13] (Qas 14 [0,1,2,3,4,5,6,7,8,9,11,12,13] (Qas 15 [] (Qas 16 [] .done .stop) .stop) .stop)) (.e 14 (Qar 0 10) (Qas 10 [] (sv [11,12,13] (Qas 15 [] (Qas 16 [] .done .stop) .stop)) .stop) .stop)))
def ydl:V.Sched:=(sv [0,1,2,3,4] (Qas 5 [1] (sv [6,7] (Qas 8 [] (Qas 9 [] .done .stop) .stop)) .stop))
def ydk:V.Sched:=(sv [0,1,2,3,4,6,7,8,9] (Qas 5 [9] (Qas 10 [] (sv [11,12] (Qas 13 [] .done .stop)) .stop) .stop))
def ydh:V.Sched:=(sv (Qar 0 9) .done)
def yau:V.Sched:=(sv [0,1,2,3,4,5,6,7] (Qas 8 [0,1,2,3,4] (sv [9] (Qas 10 [] (sv [11,12] (Qas 13 [] .done .stop)) .stop)) .stop))
def yat:V.Sched:=(sv (Qar 0 12) (Qas 12 [] (sv [13,14,15] (Qas 16 [] .done .stop)) .stop))
def yas:V.Sched:=(sv (Qar 0 10) (Qas 10 [5] (sv [11] (Qas 12 [] (sv [13,14,15] (Qas 16 [] .done .stop)) .stop)) .stop))
def yar:V.Sched:=(sv (Qar 0 12) (Qas 12 [] (sv [13,14,15] (Qas 16 [] .done .stop)) .stop))
def yag:V.Sched:=(sv (Qar 0 20) .done)
def yai:V.Sched:=(sv (Qar 0 51) (Qas 51 [] (sv (Qar 52 12) (Qas 64 [] (sv (Qar 65 23) .done) .stop)) .stop))
def yah:V.Sched:=(sv (Qar 0 9) .done)
def yaf:V.Sched:=(sv (Qar 0 17) (Qas 17 [10,12,14] (sv [18] (Qas 19 [] (sv [20,21] .done) .stop)) .stop))
def yae:V.Sched:=(sv [0,1] (Qas 2 [] (sv [3,4,5,6,7] (Qas 8 [] (sv (Qar 9 17) .done) .stop)) .stop))
def yad:V.Sched:=(sv [0,1,3,4,6,7] (Qas 2 [4,7] (sv [9] (Qas 5 [7] (Qas 8 [] (Qas 10 [] (sv [11] (Qas 12 [] (sv [13] (Qas 14 [] .done .stop)) .stop)) .stop) .stop) .stop)) .stop))
def zz9:V.Sched:=(sv [0,2,3,4,5,6,7,8,9,10,11] (Qas 1 [4,8,9] (Qas 12 [] (Qas 13 [] (Qas 14 [] .done .stop) .stop) .stop) .stop))
def zz8:V.Sched:=(sv [0,1,2,3,4] (Qas 5 [4] (Qas 6 [] .done .stop) .stop))
def zz7:V.Sched:=(sv [0,3,4] (Qas 1 [3] (Qas 2 [3] (sv [5] (Qas 6 [] (Qas 7 [] .done .stop) .stop)) .stop) .stop))
def zz6:V.Sched:=(sv (Qar 0 9) .done)
def zz5:V.Sched:=(sv (Qar 0 9) .done)
def zz4:V.Sched:=(sv [0,1,2,3,4,5] (Qas 6 [0] (sv [7] (Qas 8 [] (Qas 9 [] .done .stop) .stop)) .stop))
def zz3:V.Sched:=(sv [1] (Qas 0 [1] (Qas 2 [] (Qas 3 [] (Qas 4 [] .done .stop) .stop) .stop) .stop))
def zz2:V.Sched:=(sv (Qar 0 13) (Qas 13 [] .done .stop))
def zz1:V.Sched:=(sv [2,3,5,6,8,9] (Qas 0 [3,6,9] (Qas 1 [3,6,9] (Qas 4 [6,9] (Qas 7 [9] (Qas 10 [] (Qas 11 [] .done .stop) .stop) .stop) .stop) .stop) .stop))
def ydx:V.Sched:=(sv [0,1,2,3] (Qas 4 [] (sv [5,6,7,8,9,10,11] (Qas 12 [] (sv [13,14,15,16,17,18,19,20] (Qas 21 [] (sv [22,23] .done) .stop)) .stop)) .stop))
def ydy:V.Sched:=(sv [0,1,2,3,4,5,6,7] (Qas 8 [] .done .stop))
def ur:V.Sched:=(sv [0] (Qas 1 [0] (sv [2] (Qas 3 [] (Qas 4 [] .done .stop) .stop)) .stop))
def uq:V.Sched:=(sv [0,1,2,3,4,5,6,7] (Qas 8 [] .done .stop))
def uo:V.Sched:=(sv [0,1,2,3,4,5,6,7,9,10,11] (Qas 8 [4,9,11] (Qas 12 [] (sv [13] .done) .stop) .stop))
def um:V.Sched:=(sv (Qar 0 12) (Qas 12 [5,7,9] (sv [13] (Qas 14 [] (sv [15,16] .done) .stop)) .stop))
def ydw:V.Sched:=(sv [0,1,2,3,4,5,6,7,8,9,10,11,12,13,15,16] (Qas 14 [16] (Qas 17 [13] (sv [18,19,20] .done) .stop) (Qas 17 [13] (sv [18] (Qas 14 [16] (sv [19,20] .done) .stop)) .stop)))
def ydv:V.Sched:=(sv (Qar 0 11) (Qas 11 [0] (sv [12,13] (Qas 14 [] .done .stop)) .stop))
def ydu:V.Sched:=(sv (Qar 0 9) .done)
def ydt:V.Sched:=(sv [0,1,2,3,4,5,6,7] (Qas 8 [6] (Qas 9 [] .done .stop) .stop))
def ydo:V.Sched:=(sv (Qar 0 12) (Qas 12 [] .done .stop))
def ydp:V.Sched:=(sv (Qar 0 20) (Qas 20 [] (sv [21] .done) .stop))
def fg:V.Sched:=(sv (Qar 0 14) (Qas 14 [] (sv [15] .done) .stop))
def ff:V.Sched:=(sv (Qar 0 25) (Qas 25 [] (sv [26] (Qas 27 [] .done .stop)) .stop))
def Sl:V.Sched:=(sv [0,1,2,3] (Qas 4 [3] (Qas 5 [] (Qas 6 [] .done .stop) .stop) .stop))
def ydn:V.Sched:=(sv [0,1,2,3,4,5,6] (Qas 7 [] (sv [8] (Qas 9 [] .done .stop)) .stop))
def ydm:V.Sched:=(sv [0,1,3,4,5] (Qas 2 [4] (sv [6,7,8,9,11,12] (Qas 10 [12] (sv (Qar 13 16) .done) .stop)) .stop))
def ydi:V.Sched:=(sv (Qar 0 12) .done)
def ydg:V.Sched:=(sv (Qar 0 10) (Qas 10 [7] (Qas 11 [] .done .stop) .stop))
def ydf:V.Sched:=(sv [0,1,2,3,4,6,7,8,9,10] (Qas 5 [7] (Qas 11 [] (Qas 12 [] (Qas 13 [] .done .stop) .stop) .stop) .stop))
def yde:V.Sched:=(sv [0,1,2,3,4,6] (Qas 5 [] (Qas 7 [] (sv [8,9,10] (Qas 11 [] (Qas 12 [] .done .stop) .stop)) .stop) .stop))
def ydd:V.Sched:=(sv [0,1,2,3,4,5,6,7,8,9,11,12] (Qas 10 [3,4] (Qas 13 [3,4,8,9] (Qas 14 [3,4] (Qas 15 [] .done .stop) .stop) .stop) (Qas 13 [3,4,8,9] (Qas 10 [3,4] (Qas 14 [3,4] (Qas 15 [] .done .stop) .stop) .stop) .stop)))
def ul:V.Sched:=(sv [0,1,2,3,4,5] (Qas 6 [] .done .stop))
def ydc:V.Sched:=(sv [0,1,2,3,4,5] (Qas 6 [4] (Qas 7 [] .done .stop) .stop))
def Me:V.Sched:=(sv [0,1,2,3,4,5,6,7,8,9,10,11,12,14,15] (Qas 13 [] (sv [16] (Qas 17 [] .done .stop)) .stop))
def uk:V.Sched:=(sv [0,1,2,3,4,5,6,9] (Qas 7 [] (sv [8] .done) .stop))
def ydb:V.Sched:=(sv [0,1,2,4] (Qas 3 [0,1] (Qas 5 [0,1] (sv [6] (Qas 7 [] (sv [8] (Qas 9 [] .done .stop)) .stop)) .stop) .stop))
def yc7:V.Sched:=(sv [0,1,2,3,4] (Qas 5 [3] (sv [6] (Qas 7 [] .done .stop)) .stop))
def yc6:V.Sched:=(sv [0,1,2,3,4] (Qas 5 [3] (sv [6] (Qas 7 [] .done .stop)) .stop))
def yda:V.Sched:=(sv [0,1,2,3,4,5,6] (Qas 7 [3,5] (sv [8] (Qas 9 [5] (sv [10] (Qas 11 [] .done .stop)) .stop)) .stop))
def yc9:V.Sched:=(sv [0,1,2,3,4] (Qas 5 [3] (sv [6] (Qas 7 [] .done .stop)) .stop))
def yc8:V.Sched:=(sv [0,1,2,3,4] (Qas 5 [3] (sv [6] (Qas 7 [] .done .stop)) .stop))
def yc5:V.Sched:=(sv (Qar 0 14) (Qas 14 [] (sv [15] (Qas 16 [] .done .stop)) .stop))
def yc4:V.Sched:=(sv (Qar 0 36) (Qas 36 [3,7,11] (sv [37] (Qas 38 [3] (sv [39,40,41] (Qas 42 [] .done .stop)) .stop)) .stop))
def yc3:V.Sched:=(sv (Qar 0 13) (Qas 13 [] (sv [14] .done) .stop))
def yc2:V.Sched:=(sv (Qar 0 13) (Qas 13 [2] (Qas 14 [] .done .stop) .stop))
def uj:V.Sched:=(sv [0,1,2,3,4] (Qas 5 [] .done .stop))
def yc1:V.Sched:=(sv [0,1,2,3,4] (Qas 5 [3] (Qas 6 [] .done .stop) .stop))
def yc0:V.Sched:=(sv [0,1,2,3,4,5] (Qas 6 [] (sv [7] (Qas 8 [] .done .stop)) .stop))
def ycz:V.Sched:=(sv (Qar 0 40) (.e 40 (Qar 0 40) (Qas 41 [] .done .stop) .stop))
def ycy:V.Sched:=(sv (Qar 0 10) (Qas 10 [] (sv [11,12,13] (Qas 14 [] (Qas 15 [] .done .stop) .stop)) .stop))
def ycx:V.Sched:=(sv (Qar 0 18) (Qas 18 [] .done .stop))
def ycw:V.Sched:=(sv [0,1,2,3,4,5,6,7,8,9,10,11,13,14,15] (Qas 12 [0,3] (Qas 16 [0,3] (sv [17,18,19] (Qas 20 [] .done .stop)) .stop) .stop))
def ycu:V.Sched:=(sv [0,1,4,5,6,7,8,9,10,11,12,13] (Qas 2 [7,11,13] (sv [3] (Qas 14 [] (sv [15,16] (Qas 17 [] .done .stop)) .stop)) .stop))
def ycv:V.Sched:=(sv [0,1,2,3,4] (Qas 5 [] .done .stop))
def yct:V.Sched:=(sv (Qar 0 13) (Qas 13 [] (sv [14] (Qas 15 [] .done .stop)) .stop))
def ycs:V.Sched:=(sv [0,1,2,3,4,5,6,7,8,9,10,11,12,14,15] (Qas 13 [15] (Qas 16 [] (Qas 17 [] .done .stop) .stop) .stop))
def ycr:V.Sched:=(sv [0,1,2,3,4,5,6,7,8,9,12] (Qas 10 [] (sv [11] .done) .stop))
def ui:V.Sched:=(sv (Qar 0 30) (Qas 30 [] (sv (Qar 31 9) (Qas 40 [] (sv [41] (Qas 42 [] .done .stop)) .stop)) .stop))
def ycq:V.Sched:=(sv [0,1,2,3,4,5,6,7,8,11] (Qas 9 [] (sv [10] .done) .stop))
def ycp:V.Sched:=(sv [0,1,2,3,4,5,6,11,12] (Qas 7 [0,2,4,12] (sv [8,9,10] (Qas 13 [0] (Qas 14 [] (Qas 15 [] .done .stop) .stop) .stop)) .stop))
def yco:V.Sched:=(sv [0,1,2,3,4,5] (Qas 6 [1] (Qas 7 [] .done .stop) .stop))
def yck:V.Sched:=(sv [0,1,2,3,4] (Qas 5 [1] (sv [6] .done) .stop))
def ycn:V.Sched:=(sv [0,1,2,3,4] (Qas 5 [] .done .stop))
def ycm:V.Sched:=(sv [0,1,2,3,4,5,6,8,9] (Qas 7 [1,3,9] (Qas 10 [1,3] (sv [11] (Qas 12 [1] (Qas 13 [] (sv [14] .done) .stop) .stop)) .stop) .stop))
def ycl:V.Sched:=(sv [0,1,2,3,4] (Qas 5 [] .done .stop))
def ycj:V.Sched:=(sv [0,1,2,3,4,5,6,7] (Qas 8 [6] (Qas 9 [] .done .stop) .stop))
def yci:V.Sched:=(sv (Qar 0 14) (Qas 14 [] (sv [15] .done) .stop))
def ych:V.Sched:=(sv (Qar 0 25) (Qas 25 [] (sv [26] (Qas 27 [] .done .stop)) .stop))
def ycg:V.Sched:=(sv (Qar 0 16) (Qas 16 [] .done .stop))
def ycf:V.Sched:=(sv [0,1,2,3,4,5,6] (Qas 7 [1,2,4] (sv [8,9] .done) .stop))
def yce:V.Sched:=(sv [0] (Qas 1 [] (sv (Qar 2 11) (Qas 13 [] (sv [14,15,16] .done) .stop)) .stop))
def ycd:V.Sched:=(sv (Qar 0 24) .done)
def ycb:V.Sched:=(sv (Qar 0 15) (Qas 15 [] (sv [16,17,18] (Qas 19 [] .done .stop)) .stop))
def ycc:V.Sched:=(sv (Qar 0 16) (Qas 16 [4] (sv [17] (Qas 18 [] .done .stop)) .stop))
def yca:V.Sched:=(sv [0,1,2,3,4,5,6,7] (Qas 8 [6] (Qas 9 [] .done .stop) .stop))
def yb9:V.Sched:=(sv (Qar 0 13) .done)
def yb8:V.Sched:=(sv (Qar 0 13) .done)
def yb7:V.Sched:=(sv [0,1,4,5] (Qas 2 [5] (Qas 3 [5] (Qas 6 [] (Qas 7 [] (Qas 8 [] (Qas 9 [] .done .stop) .stop) .stop) .stop) .stop) .stop))
def yb6:V.Sched:=(sv [0,1,2,3,5,6,7,8] (Qas 4 [6,8] (Qas 9 [] (sv [10] (Qas 11 [] .done .stop)) .stop) .stop))
def yb5:V.Sched:=(sv (Qar 0 12) .done)
def yb3:V.Sched:=(sv [0,1,2,3,4] (Qas 5 [] (Qas 6 [] .done .stop) .stop))
def yb2:V.Sched:=(sv [0,1,2,3,4] (Qas 5 [] .done .stop))
def yb4:V.Sched:=(sv [0,1,2,3,4,5] (Qas 6 [] .done .stop))
def yb1:V.Sched:=(sv [0,1,3,4] (Qas 2 [4] (Qas 5 [] (sv [6] (Qas 7 [] .done .stop)) .stop) .stop))
def yb0:V.Sched:=(sv (Qar 0 10) (Qas 10 [7] (Qas 11 [] .done .stop) .stop))
def ybz:V.Sched:=(sv [0,1,2,4,5,6] (Qas 3 [5,6] (Qas 7 [] (sv [8] (Qas 9 [] (Qas 10 [0,1,2,4,5,6,8] (Qas 11 [] .done .stop) .stop) (Qas 10 [0,1,2,4,5,6,8] (Qas 9 [] (Qas 11 [] .done .stop) .stop) .stop))) (Qas 10 [0,1,2,4,5,6] (Qas 7 [] (sv [8] (Qas 9 [] (Qas 11 [] .done .stop) .stop)) .stop) .stop)) (Qas 10 [0,1,2,4,5,6] (Qas 3 [5,6] (Qas 7 [] (sv [8] (Qas 9 [] (Qas 11 [] .done .stop) .stop)) .stop) .stop) .stop)))
def yby:V.Sched:=(sv [0,1,2,4,5,6] (Qas 3 [5,6] (Qas 7 [] (sv [8] (Qas 9 [] (Qas 10 [0,1,2,4,5,6,8] (Qas 11 [] .done .stop) .stop) (Qas 10 [0,1,2,4,5,6,8] (Qas 9 [] (Qas 11 [] .done .stop) .stop) .stop))) (Qas 10 [0,1,2,4,5,6] (Qas 7 [] (sv [8] (Qas 9 [] (Qas 11 [] .done .stop) .stop)) .stop) .stop)) (Qas 10 [0,1,2,4,5,6] (Qas 3 [5,6] (Qas 7 [] (sv [8] (Qas 9 [] (Qas 11 [] .done .stop) .stop)) .stop) .stop) .stop)))
def ybx:V.Sched:=(sv [0,1,2,3,4,5,6,7,8,9,10,11,12,13,14,15,16,17,18,19,20,21,22,23,24,25,26,27,28,29,30,31,36,37,38,39] (Qas 32 [3,7,37] (sv [33,34,35] (Qas 40 [] (Qas 41 [] .done .stop) .stop)) .stop))
def ybw:V.Sched:=(sv [0,1,2,3,4,5,6] (Qas 7 [] (sv [8,9,10] (Qas 11 [] (Qas 12 [] .done .stop) .stop)) .stop))
def ybv:V.Sched:=(sv [0,1,2,3,4,5,6,7] (Qas 8 [] .done .stop))
def ybu:V.Sched:=(sv [0,1,2,3,4,5,6,7] (Qas 8 [] .done .stop))
def ybt:V.Sched:=(sv [0,1,2,3,4,5] (Qas 6 [] .done .stop))
def ybs:V.Sched:=(sv [0,2,3,4] (Qas 1 [3] (Qas 5 [] (Qas 6 [] (Qas 7 [] .done .stop) .stop) .stop) .stop))
def ybr:V.Sched:=(sv [0,1,2,3,4,5,6,7,8,11] (Qas 9 [] (sv [10] .done) .stop))
def ybq:V.Sched:=(sv [0,1,2,3,4,5,6,7,8,9,10,11,12,16] (Qas 13 [3] (Qas 14 [] (sv [15] .done) .stop) .stop))
def ybp:V.Sched:=(sv (Qar 0 13) (Qas 13 [3,7,10] (sv [14] (Qas 15 [] .done .stop)) .stop))
def ybo:V.Sched:=(sv [0,1,2,3,4,5,6,7] (Qas 8 [] .done .stop))
def ybn:V.Sched:=(sv [0,1,2,3,4,5] (Qas 6 [] (Qas 7 [] .done .stop) .stop))
def ybm:V.Sched:=(sv (Qar 0 13) (Qas 13 [] .done .stop))
def ybl:V.Sched:=(sv [0,1,2,3,4,5,6,7,10] (Qas 8 [] (sv [9] .done) .stop))
def ybk:V.Sched:=(sv (Qar 0 9) (Qas 9 [] .done .stop))
def ybj:V.Sched:=(sv [0,1] (Qas 2 [0] (sv [3] (Qas 4 [] .done .stop)) .stop))
def ybi:V.Sched:=(sv [0,1,2,3,4] (Qas 5 [] .done .stop))
def ybh:V.Sched:=(sv (Qar 0 9) .done)
def ybg:V.Sched:=(sv (Qar 0 9) .done)
def ybf:V.Sched:=(sv [0,1,2,3] (Qas 4 [] (Qas 5 [] .done .stop) .stop))
def ybe:V.Sched:=(sv [0,1,2,3,5,6,7,8] (Qas 4 [6,8] (Qas 9 [] (sv [10] (Qas 11 [] .done .stop)) .stop) .stop))
def ybc:V.Sched:=(sv (Qar 0 11) (.e 11 (Qar 0 11) (Qas 12 [] .done .stop) .stop))
def ybb:V.Sched:=(sv (Qar 0 9) (Qas 9 [] .done .stop))
def ybd:V.Sched:=(sv [0,1,2,3,4] (Qas 5 [] .done .stop))
def yba:V.Sched:=(sv [0,1,2,3,5,6,7,8] (Qas 4 [6] (Qas 9 [] (sv [10] (Qas 11 [] .done .stop)) .stop) .stop))
def ya9:V.Sched:=(sv [0,1,2,3,4] (Qas 5 [] .done .stop))
def ya8:V.Sched:=(sv (Qar 0 10) (Qas 10 [3,7] (.e 11 (Qar 0 10) (.e 12 (Qar 0 10) (Qas 13 [] (Qas 14 [] .done .stop) .stop) .stop) (.e 12 (Qar 0 10) (.e 11 (Qar 0 10) (Qas 13 [] (Qas 14 [] .done .stop) .stop) .stop) .stop)) (.e 11 (Qar 0 10) (Qas 10 [3,7] (.e 12 (Qar 0 10) (Qas 13 [] (Qas 14 [] .done .stop) .stop) .stop) (.e 12 (Qar 0 10) (Qas 10 [3,7] (Qas 13 [] (Qas 14 [] .done .stop) .stop) .stop) .stop)) (.e 12 (Qar 0 10) (Qas 10 [3,7] (.e 11 (Qar 0 10) (Qas 13 [] (Qas 14 [] .done .stop) .stop) .stop) (.e 11 (Qar 0 10) (Qas 10 [3,7] (Qas 13 [] (Qas 14 [] .done .stop) .stop) .stop) .stop)) .stop))))
def ya7:V.Sched:=(sv (Qar 0 9) (Qas 9 [5] (sv [10,11,12,13,14,15,16,17,18,19,20,21,22,23,24,25,26,27,28,29,30,31,36,37] (Qas 32 [37] (sv [33,34,35,38,39,40,41] .done) .stop)) .stop))
def ya6:V.Sched:=(sv [0,1,2,3,4,5,6,7] (Qas 8 [] (sv [9,10] (Qas 11 [] .done .stop)) .stop))
def ya5:V.Sched:=(sv (Qar 0 10) (Qas 10 [3,7] (.e 11 (Qar 0 10) (.e 12 (Qar 0 10) (Qas 13 [] (Qas 14 [] .done .stop) .stop) .stop) (.e 12 (Qar 0 10) (.e 11 (Qar 0 10) (Qas 13 [] (Qas 14 [] .done .stop) .stop) .stop) .stop)) (.e 11 (Qar 0 10) (Qas 10 [3,7] (.e 12 (Qar 0 10) (Qas 13 [] (Qas 14 [] .done .stop) .stop) .stop) (.e 12 (Qar 0 10) (Qas 10 [3,7] (Qas 13 [] (Qas 14 [] .done .stop) .stop) .stop) .stop)) (.e 12 (Qar 0 10) (Qas 10 [3,7] (.e 11 (Qar 0 10) (Qas 13 [] (Qas 14 [] .done .stop) .stop) .stop) (.e 11 (Qar 0 10) (Qas 10 [3,7] (Qas 13 [] (Qas 14 [] .done .stop) .stop) .stop) .stop)) .stop))))
def ya4:V.Sched:=(sv [0,1,2,3] (Qas 4 [1] (sv [5] .done) .stop))
def ya3:V.Sched:=(sv [0,1,2,3,4,5,6,7,8,9,10,11,12,13,14,15,16,17,18,19,20,22] (Qas 21 [] (sv [23,24] (Qas 25 [] .done .stop)) .stop))
def ya2:V.Sched:=(sv [0,1,2,3,4,5,6,7] (Qas 8 [6] (Qas 9 [] .done .stop) .stop))
def ya1:V.Sched:=(sv [0,1,2,3,4,5,6,7,8,9,10,11,13,14,15,16,17,18,19,20,21,22,23,24] (Qas 12 [16,21,24] (Qas 25 [] (sv [26] (Qas 27 [] .done .stop)) .stop) .stop))
def ya0:V.Sched:=(sv (Qar 0 39) (Qas 39 [] (sv [40,41,42,43,44,45,46] (Qas 47 [] (sv [48,49] .done) .stop)) .stop))
def yaz:V.Sched:=(sv [0,1,2,3,5,6,7,8] (Qas 4 [6,8] (Qas 9 [] (sv [10] (Qas 11 [] (Qas 12 [] .done .stop) .stop)) .stop) .stop))
def yay:V.Sched:=(sv [0] (Qas 1 [] (sv (Qar 2 22) .done) .stop))
def yax:V.Sched:=(sv [0,1,3,4] (Qas 2 [4] (sv [6] (Qas 5 [] (Qas 7 [] (sv [8] (Qas 9 [] .done .stop)) .stop) .stop)) .stop))
def yaw:V.Sched:=(sv [0,1,3,4,6,7] (Qas 2 [4,7] (sv [9] (Qas 5 [7] (Qas 8 [] (Qas 10 [] (sv [11] (Qas 12 [] (sv [13] (Qas 14 [] .done .stop)) .stop)) .stop) .stop) .stop)) .stop))
def yav:V.Sched:=(sv [0,1,2,3,4,5,7] (Qas 6 [0,7] (Qas 8 [] .done .stop) .stop))
def yaq:V.Sched:=(sv [0,1,2,3,5,6,7,8] (Qas 4 [6,8] (Qas 9 [] (sv [10] (Qas 11 [] .done .stop)) .stop) .stop))
def yap:V.Sched:=(sv [0,1,2,3,4,5,6,7] (Qas 8 [] .done .stop))
def yao:V.Sched:=(sv [0,1,3,4] (Qas 2 [4] (Qas 5 [] (sv [6] (Qas 7 [] .done .stop)) .stop) .stop))
def yan:V.Sched:=(sv [0,1,2,3,4,5] (Qas 6 [] (Qas 7 [] .done .stop) .stop))
def yal:V.Sched:=(sv [0,1,3,4] (Qas 2 [4] (sv [5,6,7,8,9,10] (Qas 11 [] .done .stop)) .stop))
def yak:V.Sched:=(sv [0,1] (Qas 2 [0] (Qas 3 [] (sv [4] .done) .stop) .stop))
def yaj:V.Sched:=(sv [0,1,2,3,4,5] (Qas 6 [] (Qas 7 [] .done .stop) .stop))
def yac:V.Sched:=(sv (Qar 0 12) (Qas 12 [] .done .stop))
def yab:V.Sched:=(sv [0,1,2,3,4,5,6] (Qas 7 [0] (Qas 8 [] .done .stop) .stop))
def yaa:V.Sched:=(sv [0,1,2] (Qas 3 [0] (sv [4,5] (Qas 6 [] .done .stop)) .stop))
theorem zb:y9 Tryz.prog infoTree.get:=Tr.ok _ ylh
def cfg(n:Nat)(G:List Nat:=[])(W:List Nat:=[]):Cfg:={n:=n,I:=infoTree.get,G:=G,W:=W}
theorem Qaq{p:Prop}(h:p:=by repeat(first|exact Tv|refine⟨Tq,?_⟩)):p:=h
theorem Qau{q:Prop}(h:q):(True/\q)/\True:=⟨⟨Tv,h⟩,Tv⟩
theorem Qav{S:Store}{b:Nat}{x:AObj}{K:AObj->Prop}(k:K x)(h:S.obj b=some x:=by assumption):optK (Store.obj S b) K:=za _ h k
theorem Qat{p q:Prop}(h:q)(c:p:=by repeat(first|exact Tv|refine⟨rfl,?_⟩|refine⟨optR (optR (optR (za _ (zd _ _ _) rfl))),?_⟩|refine⟨za (o:=Store.obj _ _) _ (by assumption) rfl,?_⟩|refine⟨⟨ψ,ze (by assumption) rfl⟩,?_⟩)):(p/\q)/\True:=⟨⟨c,h⟩,Tv⟩
theorem Qe{p:Prop}(h:p:=by repeat(first|exact Tv|refine⟨rfl,?_⟩|refine⟨optR (optR (optR (za _ (zd _ _ _) rfl))),?_⟩|refine⟨za (o:=Store.obj _ _) _ (by assumption) rfl,?_⟩|refine⟨⟨ψ,ze (by assumption) rfl⟩,?_⟩)):p:=h
abbrev Jb:=ACalls Tryz.prog
theorem ykq(n:Int)(st:Store)(R:Ja)(h:∀z:Bool,(z=true↔Av n)->R (bool z) st):Jb 181 [int n] st R:=by
 refine Qa (c:=cfg 9) zb Tryz.func181 ?_;repeat' (first|refine bcd (λ_=>?_) (λ_=>?_)|refine zk (λ_=>?_) (λ_=>?_)|refine Qd ?_|fail)
 all_goals
  refine ret (h _ ?_);unfold Av;simp only[decide_eq_true_eq,decide_eq_false_iff_not,Fah,false_iff,true_iff,beq_iff_eq,bne_iff_ne,beq_eq_false_iff_ne,ne_eq,reduceCtorEq]at*;omega
theorem t8(n:Int)(st:Store)(R:Ja)(h:∀z:Bool,(z=true↔1<=n/\n<=128)->R (bool z) st):Jb 129 [int n] st R:=by
 refine Qa (c:=cfg 9) zb Tryz.func129 ?_;repeat' (first|refine bcd (λ_=>?_) (λ_=>?_)|refine zk (λ_=>?_) (λ_=>?_)|refine Qd ?_|fail)
 all_goals
  refine ret (h _ ?_);simp only[decide_eq_true_eq,decide_eq_false_iff_not,Fah,false_iff,true_iff,beq_iff_eq,bne_iff_ne,beq_eq_false_iff_ne,ne_eq,reduceCtorEq]at*;omega
theorem yig(n hi:Int)(st:Store)(R:Ja)(h:∀z:Bool,(z=true↔0<=n/\n<=hi)->R (bool z) st):Jb 100 [int n,int hi] st R:=by
 refine Qa (c:=cfg 12) zb Tryz.func100 ?_;repeat' (first|refine bcd (λ_=>?_) (λ_=>?_)|refine zk (λ_=>?_) (λ_=>?_)|refine Qd ?_|fail)
 all_goals
  refine ret (h _ ?_);simp only[decide_eq_true_eq,decide_eq_false_iff_not,Fah,false_iff,true_iff,beq_iff_eq,bne_iff_ne,beq_eq_false_iff_ne,ne_eq,reduceCtorEq]at*;omega
theorem yhe(p:Vc)(st:Store)(R:Ja)(h:∀z:Bool,(z=true↔qt p.1 p.2)->R (bool z) st):Jb 282 [.agg (yd p)] st R:=by
 refine Qa (c:=cfg 21) zb Tryz.func282 ?_;repeat' (first|refine bcd (λ_=>?_) (λ_=>?_)|refine zk (λ_=>?_) (λ_=>?_)|refine Qd ?_|fail)
 all_goals
  refine ret (h _ ?_);unfold qt;simp only[decide_eq_true_eq,decide_eq_false_iff_not,Fah,false_iff,true_iff,beq_iff_eq,bne_iff_ne,beq_eq_false_iff_ne,ne_eq,reduceCtorEq]at*;omega
theorem zgd(b:Bld)(st:Store)(R:Ja)(h:∀z:Bool,(z=true↔yk b)->R (bool z) st):Jb 266 [.agg (zi b)] st R:=by
 refine Qa (c:=cfg 41) zb Tryz.func266 ?_;repeat' (first|refine bcd (λ_=>?_) (λ_=>?_)|refine zk (λ_=>?_) (λ_=>?_)|refine Qd ?_|fail)
 all_goals
  refine ret (h _ ?_);unfold yk;simp only[decide_eq_true_eq,decide_eq_false_iff_not,Fah,false_iff,true_iff,beq_iff_eq,bne_iff_ne,beq_eq_false_iff_ne,ne_eq,reduceCtorEq]at*;omega
theorem zzn(b:Bld)(st:Store)(R:Ja)(h:∀z:Bool,(z=true↔yk b)->R (bool z) st):Jb 170 [.agg (zi b)] st R:=by
 refine Qa (c:=cfg 41) zb Tryz.func170 ?_;repeat' (first|refine bcd (λ_=>?_) (λ_=>?_)|refine zk (λ_=>?_) (λ_=>?_)|refine Qd ?_|fail)
 all_goals
  refine ret (h _ ?_);unfold yk;simp only[decide_eq_true_eq,decide_eq_false_iff_not,Fah,false_iff,true_iff,beq_iff_eq,bne_iff_ne,beq_eq_false_iff_ne,ne_eq,reduceCtorEq]at*;omega
theorem zf4(g:Gnd)(b:Bld)(hg:zt g)(hb:yk b)(st:Store)(R:Ja)(h:∀z:Bool,(z=true↔onP g b)->R (bool z) st):Jb 267 [.agg (zu g),.agg (zi b)] st R:=by
 obtain⟨h1,h2,_,_⟩:=hg;obtain⟨_,_,h3,h4⟩:=hb;refine Qa (c:=cfg 33) zb Tryz.func267 ?_;repeat' (first|refine bcd (λ_=>?_) (λ_=>?_)|refine zk (λ_=>?_) (λ_=>?_)|refine Qd ?_|fail)
 all_goals
  refine ret (h _ ?_);unfold onP;simp only[decide_eq_true_eq,decide_eq_false_iff_not,Fah,false_iff,true_iff,beq_iff_eq,bne_iff_ne,beq_eq_false_iff_ne,ne_eq,reduceCtorEq]at*;omega
theorem ye3(g:Gnd)(b:Bld)(hg:zt g)(hb:yk b)(st:Store)(R:Ja)(h:∀z:Bool,(z=true↔onP g b)->R (bool z) st):Jb 171 [.agg (zu g),.agg (zi b)] st R:=by
 obtain⟨h1,h2,_,_⟩:=hg;obtain⟨_,_,h3,h4⟩:=hb;refine Qa (c:=cfg 47) zb Tryz.func171 ?_;repeat' (first|refine bcd (λ_=>?_) (λ_=>?_)|refine zk (λ_=>?_) (λ_=>?_)|refine Qd ?_|fail)
 all_goals
  refine ret (h _ ?_);unfold onP;simp only[decide_eq_true_eq,decide_eq_false_iff_not,Fah,false_iff,true_iff,beq_iff_eq,bne_iff_ne,beq_eq_false_iff_ne,ne_eq,reduceCtorEq]at*;omega
theorem Wc(g:Gnd)(t:Int)(hg:zt g)(st:Store)(R:Ja)(h:∀z:Bool,(z=true↔0<=t/\t<g.W*g.H)->R (bool z) st):Jb 72 [.agg (zu g),int t] st R:=by
 have hm:=qm hg;refine Qa (c:=cfg 16) zb Tryz.func72 ?_;repeat' (first|refine bcd (λ_=>?_) (λ_=>?_)|refine zk (λ_=>?_) (λ_=>?_)|refine Qd ?_|fail)
 all_goals
  refine ret (h _ ?_);simp only[decide_eq_true_eq,decide_eq_false_iff_not,Fah,false_iff,true_iff,beq_iff_eq,bne_iff_ne,beq_eq_false_iff_ne,ne_eq,reduceCtorEq]at*;omega
theorem sg(g:Gnd)(t:Int)(hg:zt g)(st:Store)(R:Ja)(h:∀z:Bool,(z=true↔0<=t/\t<g.W*g.H)->R (bool z) st):Jb 102 [.agg (zu g),int t] st R:=by
 have hm:=qm hg;refine Qa (c:=cfg 16) zb Tryz.func102 ?_;repeat' (first|refine bcd (λ_=>?_) (λ_=>?_)|refine zk (λ_=>?_) (λ_=>?_)|refine Qd ?_|fail)
 all_goals
  refine ret (h _ ?_);simp only[decide_eq_true_eq,decide_eq_false_iff_not,Fah,false_iff,true_iff,beq_iff_eq,bne_iff_ne,beq_eq_false_iff_ne,ne_eq,reduceCtorEq]at*;omega
theorem zgh(g:Gnd)(t:Int)(hg:zt g)(st:Store)(R:Ja)(h:∀z:Bool,(z=true↔wg g t)->R (bool z) st):Jb 182 [.agg (zu g),int t] st R:=by
 refine Qa (c:=cfg 12) zb Tryz.func182 ?_;repeat' (first|refine bcd (λ_=>?_) (λ_=>?_)|refine zk (λ_=>?_) (λ_=>?_)|refine Qd ?_|(refine Wc _ _ hg _ _ ?_;rintro(_|_) hz)|fail)
 all_goals
  refine ret (h _ ?_);unfold wg;simp only[decide_eq_true_eq,decide_eq_false_iff_not,Fah,false_iff,true_iff,beq_iff_eq,bne_iff_ne,beq_eq_false_iff_ne,ne_eq,reduceCtorEq]at*;omega
theorem yml(g:Gnd)(l:List Bld)(st:Store)(R:Ja)(h:∀z:Bool,(z=true↔g.T.length>700\/l.length>30)->R (bool z) st):Jb 99 [.agg (zu g),lst 6 zi l] st R:=by
 refine Qa (c:=cfg 14) zb Tryz.func99 ?_;repeat' (first|refine bcd (λ_=>?_) (λ_=>?_)|refine zk (λ_=>?_) (λ_=>?_)|refine Qd ?_|fail)
 all_goals
  refine ret (h _ ?_);simp only[decide_eq_true_eq,decide_eq_false_iff_not,Fah,false_iff,true_iff,beq_iff_eq,bne_iff_ne,beq_eq_false_iff_ne,ne_eq,reduceCtorEq,zj]at*;omega
theorem ymm(w:Wld)(st:Store)(R:Ja)(h:∀z:Bool,(z=true↔Po w)->R (bool z) st):Jb 41 [.agg (zo w)] st R:=by
 refine Qa (c:=cfg 14) zb Tryz.func41 ?_;repeat' (first|refine bcd (λ_=>?_) (λ_=>?_)|refine zk (λ_=>?_) (λ_=>?_)|refine Qd ?_|(refine yml w.G w.B _ _ ?_;rintro(_|_) hz)|fail)
 all_goals
  refine ret (h _ ?_);unfold Po;simp only[decide_eq_true_eq,decide_eq_false_iff_not,Fah,false_iff,true_iff,beq_iff_eq,bne_iff_ne,beq_eq_false_iff_ne,ne_eq,reduceCtorEq,zj]at*;omega
theorem ysw(w:Wld)(u:Unt)(hg:zt w.G)(st:Store)(R:Ja)(h:∀z:Bool,(z=true↔jx w u)->R (bool z) st):Jb 108 [.agg (zo w),.agg (zn u)] st R:=by
 refine Qa (c:=cfg 90) zb Tryz.func108 ?_;repeat' (first|refine bcd (λ_=>?_) (λ_=>?_)|refine zk (λ_=>?_) (λ_=>?_)|refine Qd ?_|(refine ykq u.kind _ _ ?_;rintro(_|_) hz)|(refine zgh w.G u.goal hg _ _ ?_;rintro(_|_) hz)|(refine zgh w.G u.next hg _ _ ?_;rintro(_|_) hz)|fail)
 all_goals
  refine ret (h _ ?_);simp only[decide_eq_true_eq,decide_eq_false_iff_not,Fah,false_iff,true_iff,beq_iff_eq,bne_iff_ne,beq_eq_false_iff_ne,ne_eq,reduceCtorEq,jx,Av,wg]at*;first|omega|(clear h;rcases Decidable.em (u.state=1)with e1|e1<;>rcases Decidable.em (u.goal=-1)with e2|e2<;>simp[bne,bv,e1,e2]at*<;>omega)
theorem yjz(l:List UInt8)(hl:l.length<=1000000000000)(hne:0<l.length)(st:Store)(R:Ja)(h:∀m:UInt8,m∈l->(∀t∈l,t.toNat<=m.toNat)->R (u8 m) st):Jb 130 [ya l] st R:=by
 refine Qa (c:=cfg 25) zb Tryz.func130 ?_;refine zk (λh1=>?_) (λh1=>?_)
 ·grind[zj]
 refine⟨0,rfl,za _ (zq hne) ?_⟩
 refine AWp.loop (σ:=Nat×UInt8) ⟨λs=>[(0,.av (ya l)),(3,.av (u8 s.2)),(4,.av (int (s.1:Nat)))],λ_=>[],
  λs st'=>(1<=s.1/\s.1<=l.length)/\st'=st/\s.2∈l/\∀t∈l.take s.1,t.toNat<=s.2.toNat,λs=>l.length-s.1⟩ zb ?_ ?_
 ·refine⟨(1,l[0]),Tv,⟨⟨Fak _,hne⟩,rfl,Faa hne,λt ht=>?_⟩,Qaq,Tv⟩;have:l.take 1=[l[0]]:=by
   cases l with
   |nil=>grind
   |cons a l=>rfl
  grind
 ·rintro⟨i,m⟩ st' ⟨⟨hi1,hi⟩,rfl,hm,hall⟩;simp only at hi1 hi hm hall;refine zk (λh1=>?_) (λh1=>?_)
  ·have hlt:i<l.length:=wo h1;refine⟨i,rfl,za _ (zq hlt) ?_⟩;refine⟨⟨θ,θ⟩,?_⟩;have hmax:max2 (m.toNat:Int) (l[i].toNat:Int)=((if l[i].toNat>m.toNat then l[i]else m:UInt8).toNat:Int):=by
    unfold max2;grind
   refine⟨(i+1,if l[i].toNat>m.toNat then l[i]else m),?_,⟨⟨θ,hlt⟩,rfl,?_,λt ht=>?_⟩,⟨Tq,?_,Tq,Tv⟩,Tv⟩
   ·grind
   ·grind
   ·grind[List.take_succ_eq_append_getElem]
   ·show LV.le (.av (.s (.int .u8 (max2 (m.toNat:Int) (l[i].toNat:Int))))) _;rw[hmax];exact Tq
  ·have hge:i=l.length:=Aw h1 hi;subst hge;rw[Fal]at hall;exact⟨_,st',Tt,Store.Has.refl st',h m hm hall⟩
theorem zdj(g:Gnd)(hg:g.fits)(st:Store)(R:Ja)(h:∀b:Bool,(b=true↔zt g)->R (bool b) st):Jb 68 [.agg (zu g)] st R:=by
 refine Qa (c:=cfg 28) zb Tryz.func68 ?_;refine t8 g.W _ _ (λb hb=>?_);cases b with
 |false=>
  refine⟨_,st,Tt,Store.Has.refl st,h _ ?_⟩;simp only[Fah,false_iff]at hb⊢;exact λhp=>hb hp.1
 |true=>
  refine t8 g.H _ _ (λb2 hb2=>?_);cases b2 with
  |false=>
   refine⟨_,st,Tt,Store.Has.refl st,h _ ?_⟩;simp only[Fah,false_iff]at hb2⊢;exact λhp=>hb2 hp.2.1
  |true=>
   have hm:=Kn (hb.1 rfl) (hb2.1 rfl);refine⟨⟨θ,θ⟩,?_⟩;refine zk (λh1=>⟨_,st,Tt,Store.Has.refl st,h _ ?_⟩) (λh1=>?_)
   ·rw[zj]at h1;simp only[Fah,false_iff];intro hp;have:=hp.2.2.1;grind
   ·rw[zj]at h1;have h1:(g.T.length:Int)=g.W*g.H:=by grind
    refine yjz g.T hg θ _ _ (λm hm1 hm2=>?_);refine⟨_,st,Tt,Store.Has.refl st,h _ ?_⟩;rw[decide_eq_true_iff];constructor
    ·intro h2;refine⟨hb.1 rfl,hb2.1 rfl,h1,λt ht=>?_⟩;grind
    ·intro hp;have:=hp.2.2.2 m hm1;omega
theorem ymk(g:Gnd)(hg:g.fits)(st:Store)(R:Ja)(h:∀b:Bool,(b=true↔zt g)->R (bool b) st):Jb 19 [.agg (zu g)] st R:=by
 refine Qa (c:=cfg 46) zb Tryz.func19 ?_;have no:¬zt g->R (bool false) st:=λhn=>h false (by simpa using hn);refine zk (λh1=>⟨_,st,Tt,Store.Has.refl st,no ?_⟩) (λh1=>?_)
 ·intro hp;have:=hp.1;grind
 refine zk (λh2=>⟨_,st,Tt,Store.Has.refl st,no ?_⟩) (λh2=>?_)
 ·intro hp;have:=hp.1;grind
 refine zk (λh3=>⟨_,st,Tt,Store.Has.refl st,no ?_⟩) (λh3=>?_)
 ·intro hp;have:=hp.2.1;grind
 refine zk (λh4=>⟨_,st,Tt,Store.Has.refl st,no ?_⟩) (λh4=>?_)
 ·intro hp;have:=hp.2.1;grind
 have hW:1<=g.W/\g.W<=128:=δ;have hH:1<=g.H/\g.H<=128:=δ;have hm:=Kn hW hH;refine⟨⟨θ,θ⟩,?_⟩;refine zk (λh5=>⟨_,st,Tt,Store.Has.refl st,no ?_⟩) (λh5=>?_)
 ·rw[zj]at h5;intro hp;have:=hp.2.2.1;grind
 rw[zj]at h5;have h5:(g.T.length:Int)=g.W*g.H:=δ
 refine AWp.loop (σ:=Nat) ⟨λi=>[(1,.bx 1 0),(3,.av (int (i:Nat)))],λ_=>[(1,zu g)],
  λi st'=>i<=g.T.length/\st'=st/\∀t∈g.T.take i,t.toNat<=5,λi=>g.T.length-i⟩ zb ?_ ?_
 ·exact⟨0,Tv,⟨Fae _,rfl,λt ht=>by simp at ht⟩,⟨Tq,Tq,Tv⟩,Qe⟩
 ·rintro i st' ⟨hi,rfl,hall⟩;refine zk (λh6=>?_) (λh6=>?_)
  ·have hlt:i<g.T.length:=wo h6;refine⟨i,rfl,za _ (zq hlt) ?_⟩;refine zk (λh7=>⟨_,st',Tt,Store.Has.refl st',no ?_⟩) (λh7=>?_)
   ·intro hp;have:=hp.2.2.2 _ (Faa hlt);grind
   ·refine⟨⟨θ,θ⟩,?_⟩;refine⟨i+1,?_,⟨hlt,rfl,λt ht=>?_⟩,⟨Tq,Tq,Tv⟩,Qe⟩
    ·grind
    grind[List.take_succ_eq_append_getElem]
  ·have hge:i=g.T.length:=Aw h6 hi;subst hge;rw[Fal]at hall;exact⟨_,st',Tt,Store.Has.refl st',h true (by simpa using⟨hW,hH,h5,hall⟩)⟩
end Go.Proofs
