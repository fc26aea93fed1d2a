/- Ground of laws of throngtop: contracts and plain lemmas; no condition beyond the row's own. -/
import Derived.Test.YtkahacegdhllcaaGreatKF
import Derived.Test.YtkahacegdhllcaaGreatKD
set_option linter.unusedSimpArgs false
set_option linter.unusedVariables false
set_option linter.defProp false
namespace Go.Proofs
open Go Go.V
set_option maxRecDepth 20000
set_option maxHeartbeats 4000000
def Qay(a n:Nat):List Nat:=List.range' a n
abbrev Qaz:=V.Sched.e
abbrev Zs:=V.Sched.stop
abbrev Zd:=V.Sched.done
abbrev Qs(i:Nat)(c:List Nat)(r:V.Sched):=V.Sched.e i c r .stop
abbrev Ql(i:Nat)(r:V.Sched):=V.Sched.e i [] r .stop
def yb8:=sv (Qay 0 9) (Qaz 9 [1,3,5,7] (Qaz 10 [] (sv [11,12,13] (Qs 14 [0,1,2,3,4,5,6,7,8,11,12,13] (Ql 15 (Ql 16 Zd)))) (Qs 14 (Qay 0 9) (Ql 10 (sv [11,12,13] (Ql 15 (Ql 16 Zd)))))) (Qs 14 (Qay 0 9) (Qs 9 [1,3,5,7] (Ql 10 (sv [11,12,13] (Ql 15 (Ql 16 Zd)))))))
def yb9:=sv [0] (Ql 1 (sv (Qay 2 16) (Ql 18 (sv [19,20,21] Zd))))
def ybs:=sv [0,1,2,3,4,5,6,7] (Qs 8 [0,1,2,3,4] (sv [9] (Ql 10 (sv [11,12] (Ql 13 Zd)))))
def ybr:=sv (Qay 0 12) (Ql 12 (sv [13,14,15] (Ql 16 Zd)))
def ybq:=sv (Qay 0 10) (Qs 10 [5] (sv [11] (Ql 12 (sv [13,14,15] (Ql 16 Zd)))))
def ybp:=sv (Qay 0 12) (Ql 12 (sv [13,14,15] (Ql 16 Zd)))
def yfe:=sv [0,1,2,3,4] (Ql 5 Zd)
def yff:=sv [0,1,2,3,4,6] (Qs 5 [0,6] (Qs 7 [0] (sv [8] (Ql 9 Zd))))
def yfa:=sv (Qay 0 9) Zd
def ycn:=sv (Qay 0 13) (Ql 13 Zd)
def yck:=sv [0,1] (Ql 2 (sv [3,4,5,6,7] (Ql 8 (sv (Qay 9 17) Zd))))
def yb7:=sv [2,3,5,6,8,9] (Qs 0 [3,6,9] (Qs 1 [3,6,9] (Qs 4 [6,9] (Qs 7 [9] (Ql 10 (Ql 11 Zd))))))
def yb1:=sv [0,1,2,3,4,5,6] (Ql 7 (sv [8] (Ql 9 Zd)))
def yb0:=sv [0,1,3,4,5] (Qs 2 [4] (sv [6,7,8,9,11,12] (Qs 10 [12] (sv (Qay 13 16) Zd))))
def ybz:=sv [0,1,3,4,6,7] (Qs 2 [4,7] (sv [9] (Qs 5 [7] (Ql 8 (Ql 10 (sv [11] (Ql 12 (sv [13] (Ql 14 Zd)))))))))
def yby:=sv (Qay 0 10) (Ql 10 Zd)
def ybx:=sv [0,1,2,3,4,5,6] (Ql 7 (sv [8,9] (Ql 10 Zd)))
def zdi:=sv [0] (Qs 1 [0] (sv [2] (Ql 3 (Ql 4 Zd))))
def zdh:=sv [0,1,2,3,4,5,6,7] (Ql 8 Zd)
def zdg:=sv [0,1,2,3,4,5,6,7,9,10,11] (Qs 8 [4,9,11] (Ql 12 (sv [13] Zd)))
def zdf:=sv (Qay 0 12) (Qs 12 [5,7,9] (sv [13] (Ql 14 (sv [15,16] Zd))))
def ybv:=sv [0,1,2,3,4,5,6,7,8,9,10,11,12,13,15,16] (Qaz 14 [16] (Qs 17 [13] (sv [18,19,20] Zd)) (Qs 17 [13] (sv [18] (Qs 14 [16] (sv [19,20] Zd)))))
def ybu:=sv [0,1,2,3,4,5] (Ql 6 Zd)
def ybo:=sv (Qay 0 16) (Ql 16 Zd)
def ybn:=sv [0,1,2,3,4,5,6] (Qs 7 [1,2,4] (sv [8,9] Zd))
def ybm:=sv [0] (Ql 1 (sv (Qay 2 11) (Ql 13 (sv [14,15,16] Zd))))
def ybl:=sv (Qay 0 24) Zd
def yfr:=sv [0,1,2] (Qs 3 [1] (sv [4] (Ql 5 (sv [6] (Ql 7 Zd)))))
def yfq:=sv (Qay 0 15) (Qs 15 [6,8,13] (sv [16] (Ql 17 Zd)))
def yfo:=sv (Qay 0 11) (Qs 11 (Qay 0 11) (Ql 12 Zd))
def yfp:=sv (Qay 0 10) (Qs 10 [4,8] (sv [11] (Ql 12 Zd)))
def yfn:=sv (Qay 0 15) (Ql 15 (sv [16,17,18] (Ql 19 Zd)))
def zdp:=sv (Qay 0 16) (Qs 16 [4] (sv [17] (Ql 18 Zd)))
def yfm:=sv [0,1,2,3,4,5] (Ql 6 (Ql 7 Zd))
def yfl:=sv (Qay 0 13) (Qaz 13 [] (sv [14,15,16] (Qs 17 [0,1,2,3,4,5,6,7,8,9,10,11,12,14,15,16] (Ql 18 (Ql 19 Zd)))) (Qs 17 (Qay 0 13) (Ql 13 (sv [14,15,16] (Ql 18 (Ql 19 Zd))))))
def yfk:=sv (Qay 0 12) (Ql 12 Zd)
def yfj:=sv [0,1,2,3,4,6] (Ql 5 (Ql 7 (sv [8,9,10] (Ql 11 (Ql 12 Zd)))))
def yfi:=sv [0,1,2,3,4,5,6,7,8,9,11,12] (Qaz 10 [3,4] (Qs 13 [3,4,8,9] (Qs 14 [3,4] (Ql 15 Zd))) (Qs 13 [3,4,8,9] (Qs 10 [3,4] (Qs 14 [3,4] (Ql 15 Zd)))))
def zdo:=sv [0,1,2,3,4,5] (Ql 6 Zd)
def yfh:=sv [0,1,2,3,4,5] (Qs 6 [4] (Ql 7 Zd))
def Nv:=sv [0,1,2,3,4,5,6,7,8,9,10,11,12,14,15] (Ql 13 (sv [16] (Ql 17 Zd)))
def zdn:=sv [0,1,2,3,4,5,6,9] (Ql 7 (sv [8] Zd))
def yfg:=sv [0,1,2,4] (Qs 3 [0,1] (Qs 5 [0,1] (sv [6] (Ql 7 (sv [8] (Ql 9 Zd))))))
def yfc:=sv [0,1,2,3,5,6,7,8] (Qs 4 [6,8] (Ql 9 (sv [10] (Ql 11 (Ql 12 Zd)))))
def yfb:=sv [0] (Ql 1 (sv (Qay 2 22) Zd))
def zdm:=sv [0,1,3,4] (Qs 2 [4] (sv [6] (Ql 5 (Ql 7 (sv [8] (Ql 9 Zd))))))
def zdl:=sv [0,1,3,4,6,7] (Qs 2 [4,7] (sv [9] (Qs 5 [7] (Ql 8 (Ql 10 (sv [11] (Ql 12 (sv [13] (Ql 14 Zd)))))))))
def ye9:=sv (Qay 0 10) (Ql 10 Zd)
def ye6:=sv (Qay 0 10) (Qaz 10 [] (sv [11,12,13] (Qs 14 [0,1,2,3,4,5,6,7,8,9,11,12,13] (Ql 15 (Ql 16 Zd)))) (Qs 14 (Qay 0 10) (Ql 10 (sv [11,12,13] (Ql 15 (Ql 16 Zd))))))
def ye8:=sv [0,1,2,3,4] (Qs 5 [1] (sv [6,7] (Ql 8 (Ql 9 Zd))))
def ye7:=sv [0,1,2,3,4,6,7,8,9] (Qs 5 [9] (Ql 10 (sv [11,12] (Ql 13 Zd))))
def ye5:=sv [1] (Qs 0 [1] (Ql 2 (Ql 3 (Ql 4 Zd))))
def ye4:=sv (Qay 0 12) Zd
def ye3:=sv (Qay 0 12) Zd
def ye1:=sv [0,1,2,3,4] (Ql 5 (Ql 6 Zd))
def ye0:=sv [0,1,2,3,4] (Ql 5 Zd)
def ye2:=sv [0,1,2,3,4,5] (Ql 6 Zd)
def yez:=sv [0,1,3,4] (Qs 2 [4] (Ql 5 (sv [6] (Ql 7 Zd))))
def yey:=sv (Qay 0 10) (Qs 10 [7] (Ql 11 Zd))
def yex:=sv [0,1,2,4,5,6] (Qaz 3 [5,6] (Qaz 7 [] (sv [8] (Qaz 9 [] (Qs 10 [0,1,2,4,5,6,8] (Ql 11 Zd)) (Qs 10 [0,1,2,4,5,6,8] (Ql 9 (Ql 11 Zd))))) (Qs 10 [0,1,2,4,5,6] (Ql 7 (sv [8] (Ql 9 (Ql 11 Zd)))))) (Qs 10 [0,1,2,4,5,6] (Qs 3 [5,6] (Ql 7 (sv [8] (Ql 9 (Ql 11 Zd)))))))
def yew:=sv [0,1,2,4,5,6] (Qaz 3 [5,6] (Qaz 7 [] (sv [8] (Qaz 9 [] (Qs 10 [0,1,2,4,5,6,8] (Ql 11 Zd)) (Qs 10 [0,1,2,4,5,6,8] (Ql 9 (Ql 11 Zd))))) (Qs 10 [0,1,2,4,5,6] (Ql 7 (sv [8] (Ql 9 (Ql 11 Zd)))))) (Qs 10 [0,1,2,4,5,6] (Qs 3 [5,6] (Ql 7 (sv [8] (Ql 9 (Ql 11 Zd)))))))
def yer:=sv [0,1,2,3,4,5] (Ql 6 (sv [7] Zd))
def yeq:=sv (Qay 0 11) (Ql 11 (sv [12,13] (Ql 14 (Ql 15 Zd))))
def yeo:=sv [0,1,2,3,4,5,6,7] (Ql 8 Zd)
def yen:=sv [0,1,2,3,4,5,6,7] (Ql 8 Zd)
def yem:=sv [0,1,3,4] (Qs 2 [4] (sv [5,6,7,8,9,10] (Ql 11 Zd)))
def yel:=sv [0,3,4] (Qs 1 [3] (Qs 2 [3] (sv [5] (Ql 6 (Ql 7 Zd)))))
def yek:=sv [0,1,2,3,4,5,7] (Qs 6 [0,7] (Ql 8 Zd))
def yej:=sv [0,1,2,3,5,6,7,8] (Qs 4 [6,8] (Ql 9 (sv [10] (Ql 11 Zd))))
def yef:=sv [0,1,2,3,4] (Qs 5 [3] (sv [6] (Ql 7 Zd)))
def yee:=sv [0,1,2,3,4] (Qs 5 [3] (sv [6] (Ql 7 Zd)))
def yei:=sv [0,1,2,3,4,5,6] (Qs 7 [3,5] (sv [8] (Qs 9 [5] (sv [10] (Ql 11 Zd)))))
def yeh:=sv [0,1,2,3,4] (Qs 5 [3] (sv [6] (Ql 7 Zd)))
def yeg:=sv [0,1,2,3,4] (Qs 5 [3] (sv [6] (Ql 7 Zd)))
def yed:=sv (Qay 0 11) (Qs 11 [0] (sv [12,13] (Ql 14 Zd)))
def yec:=sv [0,1,2,3,4,5] (Qs 6 [0] (sv [7] (Ql 8 (Ql 9 Zd))))
def yea:=sv (Qay 0 14) (Ql 14 (sv [15] (Ql 16 Zd)))
def yd9:=sv (Qay 0 36) (Qs 36 [3,7,11] (sv [37] (Qs 38 [3] (sv [39,40,41] (Ql 42 Zd)))))
def yd8:=sv (Qay 0 13) (Ql 13 (sv [14] Zd))
def yd7:=sv (Qay 0 13) (Qs 13 [2] (Ql 14 Zd))
def zdk:=sv [0,1,2,3,4] (Ql 5 Zd)
def yd6:=sv [0,1,2,3,4] (Qs 5 [3] (Ql 6 Zd))
def yd5:=sv [0,1,2,3,4,5] (Ql 6 (sv [7] (Ql 8 Zd)))
def yd4:=sv (Qay 0 40) (Qs 40 (Qay 0 40) (Ql 41 Zd))
def yd3:=sv (Qay 0 10) (Ql 10 (sv [11,12,13] (Ql 14 (Ql 15 Zd))))
def yd2:=sv (Qay 0 18) (Ql 18 Zd)
def yd1:=sv [0,1,2,3,4,5,6,7,8,9,10,11,13,14,15] (Qs 12 [0,3] (Qs 16 [0,3] (sv [17,18,19] (Ql 20 Zd))))
def ydz:=sv [0,1,4,5,6,7,8,9,10,11,12,13] (Qs 2 [7,11,13] (sv [3] (Ql 14 (sv [15,16] (Ql 17 Zd)))))
def yd0:=sv [0,1,2,3,4] (Ql 5 Zd)
def ydy:=sv (Qay 0 13) (Ql 13 (sv [14] (Ql 15 Zd)))
def ydx:=sv [0,1,2,3,4,5,6,7,8,9,10,11,12,14,15] (Qs 13 [15] (Ql 16 (Ql 17 Zd)))
def ydw:=sv [0,1,2,3,4,5,6,7,8,9,12] (Ql 10 (sv [11] Zd))
def zdj:=sv (Qay 0 30) (Ql 30 (sv (Qay 31 9) (Ql 40 (sv [41] (Ql 42 Zd)))))
def ydv:=sv [0,1,2,3,4,5,6,7,8,11] (Ql 9 (sv [10] Zd))
def ydu:=sv [0,1,2,3,4,5,6,11,12] (Qs 7 [0,2,4,12] (sv [8,9,10] (Qs 13 [0] (Ql 14 (Ql 15 Zd)))))
def ydt:=sv [0,1,2,3,4,5] (Qs 6 [1] (Ql 7 Zd))
def ydo:=sv [0,1,2,3,4] (Qs 5 [1] (sv [6] Zd))
def ydr:=sv [0,1,2,3,4] (Ql 5 Zd)
def ydq:=sv [0,1,2,3,4,5,6,8,9] (Qs 7 [1,3,9] (Qs 10 [1,3] (sv [11] (Qs 12 [1] (Ql 13 (sv [14] Zd))))))
def ydp:=sv [0,1,2,3,4] (Ql 5 Zd)
def ydn:=sv [0,1,2,3,4,5,6,7,8,9,10,11,12,13,14,15,16,17,18,19,20,21,22,23,24,25,26,27,28,29,30,31,36,37,38,39] (Qs 32 [3,7,37] (sv [33,34,35] (Ql 40 (Ql 41 Zd))))
def ydm:=sv [0,1,2,3,4,5,6] (Ql 7 (sv [8,9,10] (Ql 11 (Ql 12 Zd))))
def ydl:=sv [0,1,2,3,4,5,6,7] (Ql 8 Zd)
def ydk:=sv [0,1,2,3,4,5,6,7] (Ql 8 Zd)
def ydj:=sv [0,1,2,3,4,5] (Ql 6 Zd)
def ydi:=sv [0,2,3,4] (Qs 1 [3] (Ql 5 (Ql 6 (Ql 7 Zd))))
def ydh:=sv [0,1,2,3,4,5,6,7,8,11] (Ql 9 (sv [10] Zd))
def ydg:=sv [0,1,2,3,4,5,6,7,8,9,10,11,12,16] (Qs 13 [3] (Ql 14 (sv [15] Zd)))
def ydf:=sv (Qay 0 13) (Qs 13 [3,7,10] (sv [14] (Ql 15 Zd)))
def yde:=sv [0,1,2,3,4,5,6,7] (Ql 8 Zd)
def ydd:=sv [0,1,2,3,4,5] (Ql 6 (Ql 7 Zd))
def ydc:=sv (Qay 0 13) (Ql 13 Zd)
def ydb:=sv [0,1,2,3,4,5,6,7,10] (Ql 8 (sv [9] Zd))
def yda:=sv (Qay 0 9) (Ql 9 Zd)
def yc9:=sv [0,1] (Qs 2 [0] (sv [3] (Ql 4 Zd)))
def yc8:=sv [0,1,2,3,4] (Ql 5 Zd)
def yc7:=sv (Qay 0 9) Zd
def yc6:=sv (Qay 0 9) Zd
def yc5:=sv [0,1,2,3] (Ql 4 (Ql 5 Zd))
def yc4:=sv [0,1,2,3,5,6,7,8] (Qs 4 [6,8] (Ql 9 (sv [10] (Ql 11 Zd))))
def yc2:=sv (Qay 0 11) (Qs 11 (Qay 0 11) (Ql 12 Zd))
def yc1:=sv (Qay 0 9) (Ql 9 Zd)
def yc3:=sv [0,1,2,3,4] (Ql 5 Zd)
def yc0:=sv [0,1,2,3,5,6,7,8] (Qs 4 [6] (Ql 9 (sv [10] (Ql 11 Zd))))
def ycz:=sv [0,1,2,3,4] (Ql 5 Zd)
def ycy:=sv (Qay 0 10) (Qaz 10 [3,7] (.e 11 (Qay 0 10) (Qs 12 (Qay 0 10) (Ql 13 (Ql 14 Zd))) (Qs 12 (Qay 0 10) (Qs 11 (Qay 0 10) (Ql 13 (Ql 14 Zd))))) (.e 11 (Qay 0 10) (Qaz 10 [3,7] (Qs 12 (Qay 0 10) (Ql 13 (Ql 14 Zd))) (Qs 12 (Qay 0 10) (Qs 10 [3,7] (Ql 13 (Ql 14 Zd))))) (Qs 12 (Qay 0 10) (Qaz 10 [3,7] (Qs 11 (Qay 0 10) (Ql 13 (Ql 14 Zd))) (Qs 11 (Qay 0 10) (Qs 10 [3,7] (Ql 13 (Ql 14 Zd))))))))
def ycx:=sv (Qay 0 9) (Qs 9 [5] (sv [10,11,12,13,14,15,16,17,18,19,20,21,22,23,24,25,26,27,28,29,30,31,36,37] (Qs 32 [37] (sv [33,34,35,38,39,40,41] Zd))))
def ycw:=sv [0,1,2,3,4,5,6,7] (Ql 8 (sv [9,10] (Ql 11 Zd)))
def ycv:=sv (Qay 0 10) (Qaz 10 [3,7] (.e 11 (Qay 0 10) (Qs 12 (Qay 0 10) (Ql 13 (Ql 14 Zd))) (Qs 12 (Qay 0 10) (Qs 11 (Qay 0 10) (Ql 13 (Ql 14 Zd))))) (.e 11 (Qay 0 10) (Qaz 10 [3,7] (Qs 12 (Qay 0 10) (Ql 13 (Ql 14 Zd))) (Qs 12 (Qay 0 10) (Qs 10 [3,7] (Ql 13 (Ql 14 Zd))))) (Qs 12 (Qay 0 10) (Qaz 10 [3,7] (Qs 11 (Qay 0 10) (Ql 13 (Ql 14 Zd))) (Qs 11 (Qay 0 10) (Qs 10 [3,7] (Ql 13 (Ql 14 Zd))))))))
def ycu:=sv [0,1,2,3] (Qs 4 [1] (sv [5] Zd))
def yct:=sv [0,1,2,3,4,5,6,7,8,9,10,11,12,13,14,15,16,17,18,19,20,22] (Ql 21 (sv [23,24] (Ql 25 Zd)))
def ycs:=sv [0,1,2,3,4,5,6,7] (Ql 8 Zd)
def ycr:=sv [0,1,2,3,4,5,6,7] (Qs 8 [6] (Ql 9 Zd))
def ycq:=sv [0,1,3,4] (Qs 2 [4] (Ql 5 (sv [6] (Ql 7 Zd))))
def ycp:=sv [0,1,2,3,4,5,6,7] (Qs 8 [6] (Ql 9 Zd))
def yco:=sv [0,1,2,3,4,5,6,7] (Qs 8 [6] (Ql 9 Zd))
def ycm:=sv [0,1] (Qs 2 [0] (Ql 3 (sv [4] Zd)))
def ycl:=sv [0,1,2,3,4,5] (Ql 6 (Ql 7 Zd))
def ycj:=sv (Qay 0 12) (Ql 12 Zd)
def yci:=sv [0,1,2,3,4,5,6] (Qs 7 [0] (Ql 8 Zd))
def ych:=sv [0,1,2] (Qs 3 [0] (sv [4,5] (Ql 6 Zd)))
def ycg:=sv [0,1,2,3,4,5,6,7,8,9,10,11,13,14,15,16,17,18,19,20,21,22,23,24] (Qs 12 [16,21,24] (Ql 25 (sv [26] (Ql 27 Zd))))
def ycf:=sv (Qay 0 39) (Ql 39 (sv [40,41,42,43,44,45,46] (Ql 47 (sv [48,49] Zd))))
def yce:=sv (Qay 0 14) (Ql 14 (sv [15] Zd))
def ycd:=sv (Qay 0 25) (Ql 25 (sv [26] (Ql 27 Zd)))
def ycb:=sv (Qay 0 12) (Ql 12 Zd)
def ycc:=sv (Qay 0 20) (Ql 20 (sv [21] Zd))
def mo:=sv (Qay 0 14) (Ql 14 (sv [15] Zd))
def mn:=sv (Qay 0 25) (Ql 25 (sv [26] (Ql 27 Zd)))
def Wh:=sv [0,1,2,3] (Qs 4 [3] (Ql 5 (Ql 6 Zd)))
def yca:=sv [0,1,2,3,4,5] (Ql 6 (Ql 7 Zd))
def zb:qe Tryz.prog infoTree.get:=Tr.ok _ ymq
def cfg(n:Nat)(G:List Nat:=[])(W:List Nat:=[]):Cfg:={n:=n,I:=infoTree.get,G:=G,W:=W}
def Qy(n:Nat){g:FuncId}{fn:Func}{code:Code}{args:List AV}{st:Store}{R:Ja}(hf:Tryz.prog.funcs[g]?=some fn)(h:vc Tryz.prog (cfg n) code (my (cfg n) fn.results.toList R) (Cp args) st)(hb:fn.body=some code:=by rfl)(hm:(fn.name=="runtime.NumGoroutine")=false:=by rfl)(hn:fn.ntmps=n:=by rfl)(hl:Nat.ble args.length n=true:=by rfl):ACalls Tryz.prog g args st R:=Qa (c:=cfg n) zb hf h hb hm hn hl rfl rfl
def Qax{p:Prop}(h:p:=by repeat(first|exact Tv|refine⟨Tq,?_⟩)):p:=h
def Qbb{q:Prop}(h:q):(True/\q)/\True:=⟨⟨Tv,h⟩,Tv⟩
def Qbc{S:Store}{b:Nat}{x:AObj}{K:AObj->Prop}(k:K x)(h:S.obj b=some x:=by assumption):optK (Store.obj S b) K:=za _ h k
def Qba{p q:Prop}(h:q)(c:p:=by repeat(first|exact Tv|refine⟨rfl,?_⟩|refine⟨optR (optR (optR (za _ (zd _ _ _) rfl))),?_⟩|refine⟨za (o:=Store.obj _ _) _ (by assumption) rfl,?_⟩|refine⟨⟨ψ,ze (by assumption) rfl⟩,?_⟩)):(p/\q)/\True:=⟨⟨c,h⟩,Tv⟩
def Qe{p:Prop}(h:p:=by repeat(first|exact Tv|refine⟨rfl,?_⟩|refine⟨optR (optR (optR (za _ (zd _ _ _) rfl))),?_⟩|refine⟨za (o:=Store.obj _ _) _ (by assumption) rfl,?_⟩|refine⟨⟨ψ,ze (by assumption) rfl⟩,?_⟩)):p:=h
abbrev Jb:=ACalls Tryz.prog
def yly(n:Int)(st:Store)(R:Ja)(h:∀z:Bool,(z=true↔Gb n)->R (bool z) st):Jb 111 [int n] st R:=by
 refine Qy 9 Tryz.func111 ?_;repeat' (first|refine bcd (λ_=>?_) (λ_=>?_)|refine zk (λ_=>?_) (λ_=>?_)|refine Qd ?_|fail)
 all_goals
  refine ret (h _ ?_);unfold Gb;simp only[decide_eq_true_eq,decide_eq_false_iff_not,Fap,false_iff,true_iff,beq_iff_eq,bne_iff_ne,beq_eq_false_iff_ne,ne_eq,reduceCtorEq]at*;omega
def zc7(n:Int)(st:Store)(R:Ja)(h:∀z:Bool,(z=true↔1<=n/\n<=128)->R (bool z) st):Jb 79 [int n] st R:=by
 refine Qy 9 Tryz.func79 ?_;repeat' (first|refine bcd (λ_=>?_) (λ_=>?_)|refine zk (λ_=>?_) (λ_=>?_)|refine Qd ?_|fail)
 all_goals
  refine ret (h _ ?_);simp only[decide_eq_true_eq,decide_eq_false_iff_not,Fap,false_iff,true_iff,beq_iff_eq,bne_iff_ne,beq_eq_false_iff_ne,ne_eq,reduceCtorEq]at*;omega
def yin(p:Vc)(st:Store)(R:Ja)(h:∀z:Bool,(z=true↔jv p.1 p.2)->R (bool z) st):Jb 189 [.agg (yp p)] st R:=by
 refine Qy 21 Tryz.func189 ?_;repeat' (first|refine bcd (λ_=>?_) (λ_=>?_)|refine zk (λ_=>?_) (λ_=>?_)|refine Qd ?_|fail)
 all_goals
  refine ret (h _ ?_);unfold jv;simp only[decide_eq_true_eq,decide_eq_false_iff_not,Fap,false_iff,true_iff,beq_iff_eq,bne_iff_ne,beq_eq_false_iff_ne,ne_eq,reduceCtorEq]at*;omega
def zki(b:Bld)(st:Store)(R:Ja)(h:∀z:Bool,(z=true↔qh b)->R (bool z) st):Jb 141 [.agg (zl b)] st R:=by
 refine Qy 41 Tryz.func141 ?_;repeat' (first|refine bcd (λ_=>?_) (λ_=>?_)|refine zk (λ_=>?_) (λ_=>?_)|refine Qd ?_|fail)
 all_goals
  refine ret (h _ ?_);unfold qh;simp only[decide_eq_true_eq,decide_eq_false_iff_not,Fap,false_iff,true_iff,beq_iff_eq,bne_iff_ne,beq_eq_false_iff_ne,ne_eq,reduceCtorEq]at*;omega
def zkc(g:Gnd)(b:Bld)(hg:zv g)(hb:qh b)(st:Store)(R:Ja)(h:∀z:Bool,(z=true↔onP g b)->R (bool z) st):Jb 142 [.agg (zw g),.agg (zl b)] st R:=by
 have⟨h1,h2,_,_⟩:=hg;have⟨_,_,h3,h4⟩:=hb;refine Qy 33 Tryz.func142 ?_;repeat' (first|refine bcd (λ_=>?_) (λ_=>?_)|refine zk (λ_=>?_) (λ_=>?_)|refine Qd ?_|fail)
 all_goals
  refine ret (h _ ?_);unfold onP;simp only[decide_eq_true_eq,decide_eq_false_iff_not,Fap,false_iff,true_iff,beq_iff_eq,bne_iff_ne,beq_eq_false_iff_ne,ne_eq,reduceCtorEq]at*;omega
def ct(g:Gnd)(t:Int)(hg:zv g)(st:Store)(R:Ja)(h:∀z:Bool,(z=true↔0<=t/\t<g.W*g.H)->R (bool z) st):Jb 145 [.agg (zw g),int t] st R:=by
 have hm:=xj hg;refine Qy 16 Tryz.func145 ?_;repeat' (first|refine bcd (λ_=>?_) (λ_=>?_)|refine zk (λ_=>?_) (λ_=>?_)|refine Qd ?_|fail)
 all_goals
  refine ret (h _ ?_);simp only[decide_eq_true_eq,decide_eq_false_iff_not,Fap,false_iff,true_iff,beq_iff_eq,bne_iff_ne,beq_eq_false_iff_ne,ne_eq,reduceCtorEq]at*;omega
def zkn(g:Gnd)(t:Int)(hg:zv g)(st:Store)(R:Ja)(h:∀z:Bool,(z=true↔De g t)->R (bool z) st):Jb 112 [.agg (zw g),int t] st R:=by
 refine Qy 12 Tryz.func112 ?_;repeat' (first|refine bcd (λ_=>?_) (λ_=>?_)|refine zk (λ_=>?_) (λ_=>?_)|refine Qd ?_|(refine ct _ _ hg _ _ ?_;rintro(_|_) hz)|fail)
 all_goals
  refine ret (h _ ?_);unfold De;simp only[decide_eq_true_eq,decide_eq_false_iff_not,Fap,false_iff,true_iff,beq_iff_eq,bne_iff_ne,beq_eq_false_iff_ne,ne_eq,reduceCtorEq]at*;omega
def yuq(w:Wld)(u:Unt)(hg:zv w.G)(st:Store)(R:Ja)(h:∀z:Bool,(z=true↔vi w u)->R (bool z) st):Jb 72 [.agg (zr w),.agg (zm u)] st R:=by
 refine Qy 90 Tryz.func72 ?_;repeat' (first|refine bcd (λ_=>?_) (λ_=>?_)|refine zk (λ_=>?_) (λ_=>?_)|refine Qd ?_|(refine yly u.kind _ _ ?_;rintro(_|_) hz)|(refine zkn w.G u.goal hg _ _ ?_;rintro(_|_) hz)|(refine zkn w.G u.next hg _ _ ?_;rintro(_|_) hz)|fail)
 all_goals
  refine ret (h _ ?_);simp only[decide_eq_true_eq,decide_eq_false_iff_not,Fap,false_iff,true_iff,beq_iff_eq,bne_iff_ne,beq_eq_false_iff_ne,ne_eq,reduceCtorEq,vi,Gb,De]at*;first|omega|(clear h;rcases Decidable.em (u.state=1)with e1|e1<;>rcases Decidable.em (u.goal=-1)with e2|e2<;>simp[bne,zkk,e1,e2]at*<;>omega)
def yk9(l:List UInt8)(hl:l.length<=1000000000000)(hne:0<l.length)(st:Store)(R:Ja)(h:∀m:UInt8,m∈l->(∀t∈l,t.toNat<=m.toNat)->R (u8 m) st):Jb 80 [qa l] st R:=by
 refine Qy 25 Tryz.func80 ?_;refine zk (λh1=>?_) (λh1=>?_)
 ·grind[zi]
 refine⟨0,rfl,za _ (zp hne) ?_⟩
 refine AWp.loop (σ:=Nat×UInt8) ⟨λs=>[(0,.av (qa l)),(3,.av (u8 s.2)),(4,.av (int (s.1:Nat)))],λ_=>[],
  λs st'=>(1<=s.1/\s.1<=l.length)/\st'=st/\s.2∈l/\∀t∈l.take s.1,t.toNat<=s.2.toNat,λs=>l.length-s.1⟩ zb ?_ ?_
 ·refine⟨(1,l[0]),Tv,⟨⟨Fah _,hne⟩,rfl,Faa hne,λt ht=>?_⟩,Qax,Tv⟩;have:l.take 1=[l[0]]:=by
   cases l with
   |nil=>grind
   |cons a l=>rfl
  grind
 ·rintro⟨i,m⟩ st' ⟨⟨hi1,hi⟩,rfl,hm,hall⟩;simp only at hi1 hi hm hall;refine zk (λh1=>?_) (λh1=>?_)
  ·have hlt:i<l.length:=k9 h1;refine⟨i,rfl,za _ (zp hlt) ⟨⟨θ,θ⟩,?_⟩⟩;have hmax:max2 (m.toNat:Int) (l[i].toNat:Int)=((if l[i].toNat>m.toNat then l[i]else m:UInt8).toNat:Int):=by
    unfold max2;grind
   refine⟨(i+1,if l[i].toNat>m.toNat then l[i]else m),?_,⟨⟨θ,hlt⟩,rfl,?_,λt ht=>?_⟩,⟨Tq,?_,Tq,Tv⟩,Tv⟩
   ·grind
   ·grind
   ·grind[List.take_succ_eq_append_getElem]
   ·show LV.le (.av (.s (.int .u8 (max2 (m.toNat:Int) (l[i].toNat:Int))))) _;rw[hmax];exact Tq
  ·have hge:i=l.length:=Fg h1 hi;subst hge;rw[Faj]at hall;exact⟨_,st',Tt,Store.Has.refl st',h m hm hall⟩
def rz(g:Gnd)(hg:g.fits)(st:Store)(R:Ja)(h:∀b:Bool,(b=true↔zv g)->R (bool b) st):Jb 39 [.agg (zw g)] st R:=by
 refine Qy 28 Tryz.func39 ?_;refine zc7 g.W _ _ (λb hb=>?_);cases b with
 |false=>
  refine⟨_,st,Tt,Store.Has.refl st,h _ ?_⟩;simp only[Fap,false_iff]at hb⊢;exact λhp=>hb hp.1
 |true=>
  refine zc7 g.H _ _ (λb2 hb2=>?_);cases b2 with
  |false=>
   refine⟨_,st,Tt,Store.Has.refl st,h _ ?_⟩;simp only[Fap,false_iff]at hb2⊢;exact λhp=>hb2 hp.2.1
  |true=>
   have hm:=Np (hb.1 rfl) (hb2.1 rfl);refine⟨⟨θ,θ⟩,zk (λh1=>⟨_,st,Tt,Store.Has.refl st,h _ ?_⟩) (λh1=>?_)⟩
   ·rw[zi]at h1;simp only[Fap,false_iff];intro hp;have:=hp.2.2.1;grind
   ·rw[zi]at h1;have h1:(g.T.length:Int)=g.W*g.H:=by grind
    refine yk9 g.T hg θ _ _ (λm hm1 hm2=>⟨_,st,Tt,Store.Has.refl st,h _ ?_⟩);rw[decide_eq_true_iff];constructor
    ·intro h2;refine⟨hb.1 rfl,hb2.1 rfl,h1,λt ht=>?_⟩;grind
    ·intro hp;have:=hp.2.2.2 m hm1;omega
def zhn(g:Gnd)(hg:g.fits)(st:Store)(R:Ja)(h:∀b:Bool,(b=true↔zv g)->R (bool b) st):Jb 25 [.agg (zw g)] st R:=by
 refine Qy 46 Tryz.func25 ?_;have no:¬zv g->R (bool false) st:=λhn=>h false (by simpa using hn);refine zk (λh1=>⟨_,st,Tt,Store.Has.refl st,no ?_⟩) (λh1=>?_)
 ·intro hp;have:=hp.1;grind
 refine zk (λh2=>⟨_,st,Tt,Store.Has.refl st,no ?_⟩) (λh2=>?_)
 ·intro hp;have:=hp.1;grind
 refine zk (λh3=>⟨_,st,Tt,Store.Has.refl st,no ?_⟩) (λh3=>?_)
 ·intro hp;have:=hp.2.1;grind
 refine zk (λh4=>⟨_,st,Tt,Store.Has.refl st,no ?_⟩) (λh4=>?_)
 ·intro hp;have:=hp.2.1;grind
 have hW:1<=g.W/\g.W<=128:=δ;have hH:1<=g.H/\g.H<=128:=δ;have hm:=Np hW hH;refine⟨⟨θ,θ⟩,zk (λh5=>⟨_,st,Tt,Store.Has.refl st,no ?_⟩) (λh5=>?_)⟩
 ·rw[zi]at h5;intro hp;have:=hp.2.2.1;grind
 rw[zi]at h5;have h5:(g.T.length:Int)=g.W*g.H:=δ
 refine AWp.loop (σ:=Nat) ⟨λi=>[(1,.bx 1 0),(3,.av (int (i:Nat)))],λ_=>[(1,zw g)],
  λi st'=>i<=g.T.length/\st'=st/\∀t∈g.T.take i,t.toNat<=5,λi=>g.T.length-i⟩ zb ?_ ?_
 ·exact⟨0,Tv,⟨Fae _,rfl,λt ht=>by simp at ht⟩,⟨Tq,Tq,Tv⟩,Qe⟩
 ·rintro i st' ⟨hi,rfl,hall⟩;refine zk (λh6=>?_) (λh6=>?_)
  ·have hlt:i<g.T.length:=k9 h6;refine⟨i,rfl,za _ (zp hlt) (zk (λh7=>⟨_,st',Tt,Store.Has.refl st',no ?_⟩) (λh7=>?_))⟩
   ·intro hp;have:=hp.2.2.2 _ (Faa hlt);grind
   ·refine⟨⟨θ,θ⟩,⟨i+1,?_,⟨hlt,rfl,λt ht=>?_⟩,⟨Tq,Tq,Tv⟩,Qe⟩⟩
    ·grind
    grind[List.take_succ_eq_append_getElem]
  ·have hge:i=g.T.length:=Fg h6 hi;subst hge;rw[Faj]at hall;exact⟨_,st',Tt,Store.Has.refl st',h true (by simpa using⟨hW,hH,h5,hall⟩)⟩
end Go.Proofs
