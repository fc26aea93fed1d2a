/- Lemmas of thronglaw29; no conditions. -/
import Derived.Test.YtphhbmaalpdnoaaGreatKG
import Derived.Test.YtphhbmaalpdnoaaGreatKD
set_option linter.unusedSimpArgs false
set_option linter.unusedVariables false
set_option linter.defProp false
open List renaming length→Γ
open Option renaming some→Δ,none→Θ
namespace Go.Proofs
open Go Go.V
set_option maxRecDepth 20000
set_option maxHeartbeats 4000000
def Qbu(a n:Nat):List Nat:=List.range' a n
abbrev Qbv:=V.Sched.e
abbrev Zs:=V.Sched.stop
abbrev Zd:=V.Sched.done
abbrev Qs(i:Nat)(c:List Nat)(r:V.Sched):=V.Sched.e i c r .stop
abbrev Ql(i:Nat)(r:V.Sched):=V.Sched.e i [] r .stop
def ya9:=sv (Qbu 0 9) (Ql 9 Zd)
def zaj:=sv (Qbu 0 25) (Ql 25 (sv [26,27,28,29,30,31,32,35,36,37,38,39,40] (Qs 33 [36,40] (sv [34] (Qs 41 [34] (sv (Qbu 42 19) Zd))))))
def yfw:=sv (Qbu 0 10) (Qbv 10 [] (sv [11,12,13] (Qs 14 [0,1,2,3,4,5,6,7,8,9,11,12,13] (Ql 15 (Ql 16 Zd)))) (Qs 14 (Qbu 0 10) (Ql 10 (sv [11,12,13] (Ql 15 (Ql 16 Zd))))))
def yfy:=sv [0,1,2,3,4] (Qs 5 [1] (sv [6,7] (Ql 8 (Ql 9 Zd))))
def yfx:=sv [0,1,2,3,4,6,7,8,9] (Qs 5 [9] (Ql 10 (sv [11,12] (Ql 13 Zd))))
def ydr:=sv (Qbu 0 13) (Ql 13 Zd)
def yc4:=sv [0,1,2,3,4] (Ql 5 (sv (Qbu 6 27) (Ql 33 (sv [34,35,36] Zd))))
def ycn:=sv [0,1,2,3,4,5,6] (Ql 7 (sv [8,9,10,11] (Ql 12 Zd)))
def ycd:=sv (Qbu 0 9) Zd
def ybv:=sv [0,1,2,3,5,6,7,8,9,10,11,12,13,14,15,16,17] (Qs 4 [3,7,11,14,15] (Qs 18 [3] (sv [19,20] (Ql 21 (sv [22,23] (Ql 24 Zd))))))
def ybu:=sv [0,1,2,3,4,5,6,7] (Qs 8 [4,7] (Ql 9 Zd))
def ybl:=sv (Qbu 0 20) Zd
def ybn:=sv (Qbu 0 51) (Ql 51 (sv (Qbu 52 12) (Ql 64 (sv (Qbu 65 23) Zd))))
def ybm:=sv (Qbu 0 9) Zd
def ybh:=sv (Qbu 0 17) (Qs 17 [10,12,14] (sv [18] (Ql 19 (sv [20,21] Zd))))
def ybg:=sv [0,1] (Ql 2 (sv [3,4,5,6,7] (Ql 8 (sv (Qbu 9 17) Zd))))
def ybf:=sv [0,1,3,4,6,7] (Qs 2 [4,7] (sv [9] (Qs 5 [7] (Ql 8 (Ql 10 (sv [11] (Ql 12 (sv [13] (Ql 14 Zd)))))))))
def ybb:=sv [0,2,3,4,5,6,7,8,9,10,11] (Qs 1 [4,8,9] (Ql 12 (Ql 13 (Ql 14 Zd))))
def yba:=sv [0,1,2,3,4] (Qs 5 [4] (Ql 6 Zd))
def ya8:=sv [0,3,4] (Qs 1 [3] (Qs 2 [3] (sv [5] (Ql 6 (Ql 7 Zd)))))
def ya7:=sv [0,1,2,3,4,5] (Qs 6 [0] (sv [7] (Ql 8 (Ql 9 Zd))))
def ya6:=sv [1] (Qs 0 [1] (Ql 2 (Ql 3 (Ql 4 Zd))))
def zal:=sv [0,1,2,3,4] (Qs 5 [3] (sv [6] (Ql 7 Zd)))
def zak:=sv [0,1,2,3,4] (Qs 5 [3] (sv [6] (Ql 7 Zd)))
def zao:=sv [0,1,2,3,4,5,6] (Qs 7 [3,5] (sv [8] (Qs 9 [5] (sv [10] (Ql 11 Zd)))))
def zan:=sv [0,1,2,3,4] (Qs 5 [3] (sv [6] (Ql 7 Zd)))
def zam:=sv [0,1,2,3,4] (Qs 5 [3] (sv [6] (Ql 7 Zd)))
def ya5:=sv [0,1,2,3,4] (Qbv 5 [] (sv [6,7,8] (Qs 9 [0,1,2,3,4,6,7,8] (Ql 10 (Ql 11 Zd)))) (Qs 9 [0,1,2,3,4] (Ql 5 (sv [6,7,8] (Ql 10 (Ql 11 Zd))))))
def ya4:=sv [2,3,5,6,8,9] (Qs 0 [3,6,9] (Qs 1 [3,6,9] (Qs 4 [6,9] (Qs 7 [9] (Ql 10 (Ql 11 Zd))))))
def yf9:=sv [0,1,2,3] (Ql 4 (sv [5,6,7,8,9,10,11] (Ql 12 (sv [13,14,15,16,17,18,19,20] (Ql 21 (sv [22,23] Zd))))))
def yga:=sv [0,1,2,3,4,5,6,7] (Ql 8 Zd)
def zax:=sv [0] (Qs 1 [0] (sv [2] (Ql 3 (Ql 4 Zd))))
def zaw:=sv [0,1,2,3,4,5,6,7] (Ql 8 Zd)
def zav:=sv [0,1,2,3,4,5,6,7,9,10,11] (Qs 8 [4,9,11] (Ql 12 (sv [13] Zd)))
def zau:=sv (Qbu 0 12) (Qs 12 [5,7,9] (sv [13] (Ql 14 (sv [15,16] Zd))))
def yf8:=sv [0,1,2,3,4,5,6,7,8,9,10,11,12,13,15,16] (Qbv 14 [16] (Qs 17 [13] (sv [18,19,20] Zd)) (Qs 17 [13] (sv [18] (Qs 14 [16] (sv [19,20] Zd)))))
def yf7:=sv (Qbu 0 11) (Qs 11 [0] (sv [12,13] (Ql 14 Zd)))
def yf6:=sv (Qbu 0 9) Zd
def yf5:=sv [0,1,2,3,4,5,6,7] (Qs 8 [6] (Ql 9 Zd))
def yf3:=sv (Qbu 0 12) (Ql 12 Zd)
def yf4:=sv (Qbu 0 20) (Ql 20 (sv [21] Zd))
def gy:=sv (Qbu 0 14) (Ql 14 (sv [15] Zd))
def gw:=sv (Qbu 0 25) (Ql 25 (sv [26] (Ql 27 Zd)))
def Vv:=sv [0,1,2,3] (Qs 4 [3] (Ql 5 (Ql 6 Zd)))
def yf2:=sv [0] (Ql 1 (sv (Qbu 2 18) (Ql 20 (sv [21,22,23] Zd))))
def yf1:=sv [0,1,2,3,4,5,6,7] (Qs 8 [1] (sv [9] (Ql 10 Zd)))
def yf0:=sv [0,1,2,3,4,5,6,7] (Ql 8 (Ql 9 Zd))
def yfz:=sv [0,1,2,3,4,5,6] (Ql 7 (sv [8] (Ql 9 Zd)))
def yfv:=sv [0,1,2,3,5,6,7,8] (Qs 4 [6,8] (Ql 9 (sv [10] (Ql 11 (sv [12] (Ql 13 Zd))))))
def yfu:=sv (Qbu 0 12) Zd
def yft:=sv (Qbu 0 10) (Qs 10 [7] (Ql 11 Zd))
def yfs:=sv [0,1,2,3,4,6,7,8,9,10] (Qs 5 [7] (Ql 11 (Ql 12 (Ql 13 Zd))))
def yfr:=sv [0,1,2,3,4,6] (Ql 5 (Ql 7 (sv [8,9,10] (Ql 11 (Ql 12 Zd)))))
def yfq:=sv [0,1,2,3,4,5,6,7,8,9,11,12] (Qbv 10 [3,4] (Qs 13 [3,4,8,9] (Qs 14 [3,4] (Ql 15 Zd))) (Qs 13 [3,4,8,9] (Qs 10 [3,4] (Qs 14 [3,4] (Ql 15 Zd)))))
def zat:=sv [0,1,2,3,4,5] (Ql 6 Zd)
def yfp:=sv [0,1,2,3,4,5] (Qs 6 [4] (Ql 7 Zd))
def Nh:=sv [0,1,2,3,4,5,6,7,8,9,10,11,12,14,15] (Ql 13 (sv [16] (Ql 17 Zd)))
def zas:=sv [0,1,2,3,4,5,6,9] (Ql 7 (sv [8] Zd))
def yfo:=sv [0,1,2,4] (Qs 3 [0,1] (Qs 5 [0,1] (sv [6] (Ql 7 (sv [8] (Ql 9 Zd))))))
def yfk:=sv [0,1,2,3,4] (Qs 5 [3] (sv [6] (Ql 7 Zd)))
def yfj:=sv [0,1,2,3,4] (Qs 5 [3] (sv [6] (Ql 7 Zd)))
def yfn:=sv [0,1,2,3,4,5,6] (Qs 7 [3,5] (sv [8] (Qs 9 [5] (sv [10] (Ql 11 Zd)))))
def yfm:=sv [0,1,2,3,4] (Qs 5 [3] (sv [6] (Ql 7 Zd)))
def yfl:=sv [0,1,2,3,4] (Qs 5 [3] (sv [6] (Ql 7 Zd)))
def yfi:=sv (Qbu 0 14) (Ql 14 (sv [15] (Ql 16 Zd)))
def yfh:=sv (Qbu 0 36) (Qs 36 [3,7,11] (sv [37] (Qs 38 [3] (sv [39,40,41] (Ql 42 Zd)))))
def yfg:=sv (Qbu 0 13) (Ql 13 (sv [14] Zd))
def yff:=sv (Qbu 0 13) (Qs 13 [2] (Ql 14 Zd))
def zar:=sv [0,1,2,3,4] (Ql 5 Zd)
def yfe:=sv [0,1,2,3,4] (Qs 5 [3] (Ql 6 Zd))
def yfd:=sv [0,1,2,3,4,5] (Ql 6 (sv [7] (Ql 8 Zd)))
def yfc:=sv (Qbu 0 40) (Qs 40 (Qbu 0 40) (Ql 41 Zd))
def yfb:=sv (Qbu 0 10) (Ql 10 (sv [11,12,13] (Ql 14 (Ql 15 Zd))))
def yfa:=sv (Qbu 0 18) (Ql 18 Zd)
def ye9:=sv [0,1,2,3,4,5,6,7,8,9,10,11,13,14,15] (Qs 12 [0,3] (Qs 16 [0,3] (sv [17,18,19] (Ql 20 Zd))))
def ye7:=sv [0,1,4,5,6,7,8,9,10,11,12,13] (Qs 2 [7,11,13] (sv [3] (Ql 14 (sv [15,16] (Ql 17 Zd)))))
def ye8:=sv [0,1,2,3,4] (Ql 5 Zd)
def ye6:=sv (Qbu 0 13) (Ql 13 (sv [14] (Ql 15 Zd)))
def ye5:=sv [0,1,2,3,4,5,6,7,8,9,10,11,12,14,15] (Qs 13 [15] (Ql 16 (Ql 17 Zd)))
def ye4:=sv [0,1,2,3,4,5,6,7,8,9,12] (Ql 10 (sv [11] Zd))
def zaq:=sv (Qbu 0 30) (Ql 30 (sv (Qbu 31 9) (Ql 40 (sv [41] (Ql 42 Zd)))))
def ye3:=sv [0,1,2,3,4,5,6,7,8,11] (Ql 9 (sv [10] Zd))
def ye2:=sv [0,1,2,3,4,5,6,11,12] (Qs 7 [0,2,4,12] (sv [8,9,10] (Qs 13 [0] (Ql 14 (Ql 15 Zd)))))
def ye1:=sv [0,1,2,3,4,5] (Qs 6 [1] (Ql 7 Zd))
def yex:=sv [0,1,2,3,4] (Qs 5 [1] (sv [6] Zd))
def ye0:=sv [0,1,2,3,4] (Ql 5 Zd)
def yez:=sv [0,1,2,3,4,5,6,8,9] (Qs 7 [1,3,9] (Qs 10 [1,3] (sv [11] (Qs 12 [1] (Ql 13 (sv [14] Zd))))))
def yey:=sv [0,1,2,3,4] (Ql 5 Zd)
def yew:=sv [0,1,2,3,4,5,6,7] (Qs 8 [6] (Ql 9 Zd))
def yev:=sv (Qbu 0 14) (Ql 14 (sv [15] Zd))
def yeu:=sv (Qbu 0 25) (Ql 25 (sv [26] (Ql 27 Zd)))
def yer:=sv (Qbu 0 10) Zd
def yeq:=sv (Qbu 0 9) Zd
def yep:=sv [0,1,2,3,4,5,6] (Ql 7 (sv [8] Zd))
def yeo:=sv (Qbu 0 17) (Ql 17 (sv [18,19] (Ql 20 Zd)))
def yen:=sv [0,1,2,3,4,5] (Ql 6 (sv [7] Zd))
def yel:=sv [0,1,2,3] (Ql 4 (Ql 5 Zd))
def yek:=sv (Qbu 0 12) (Qs 12 [3] (sv [13] (Ql 14 Zd)))
def yem:=sv (Qbu 0 17) (Ql 17 (Ql 18 Zd))
def yej:=sv [0,1,2,3,4,5,6,7] (Ql 8 (Ql 9 Zd))
def yeh:=sv (Qbu 0 21) (Qs 21 (Qbu 0 21) (Ql 22 Zd))
def yeg:=sv [0,1,2,3,4,5] (Ql 6 (sv [7,8,9] (Ql 10 (Ql 11 Zd))))
def yei:=sv (Qbu 0 10) (Qs 10 [4,7] (sv [11] (Ql 12 (sv [13] Zd))))
def yef:=sv (Qbu 0 11) Zd
def yee:=sv (Qbu 0 11) Zd
def yed:=sv [0,1,2,3,4,5,6] (Ql 7 (sv [8,9,10,11,12] (Ql 13 Zd)))
def yec:=sv [0,1,2,3] (Ql 4 (Ql 5 Zd))
def yd8:=sv (Qbu 0 9) (Qbv 9 [3] (sv [10,11] (Qs 12 [0,1,2,3,4,5,6,7,8,10,11] (Ql 13 Zd))) (Qs 12 (Qbu 0 9) (Qs 9 [3] (sv [10,11] (Ql 13 Zd)))))
def yd7:=sv (Qbu 0 10) (Ql 10 (Ql 11 Zd))
def yeb:=sv (Qbu 0 12) (Qbv 12 [3] (sv [13,14] (Qs 15 [0,1,2,3,4,5,6,7,8,9,10,11,13,14] (Ql 16 Zd))) (Qs 15 (Qbu 0 12) (Qs 12 [3] (sv [13,14] (Ql 16 Zd)))))
def yea:=sv [0,1,2,3,4,7,8,9,11,12] (Qs 5 [8,9,12] (sv [6,10] (Qs 13 [8,9,6] (sv [14,15] Zd))))
def yd9:=sv (Qbu 0 12) (Qs 12 [3] (sv [13] (Ql 14 Zd)))
def yd6:=sv [0,1,2,3] (Ql 4 (Ql 5 Zd))
def yd2:=sv [0,1,2,3,4,5] (Ql 6 (sv [7] Zd))
def yd1:=sv (Qbu 0 9) (Qbv 9 [3] (sv [10,11] (Qs 12 [0,1,2,3,4,5,6,7,8,10,11] (Ql 13 Zd))) (Qs 12 (Qbu 0 9) (Qs 9 [3] (sv [10,11] (Ql 13 Zd)))))
def yd0:=sv [0,1,2,3,4,5,7,8] (Qs 6 [8] (Ql 9 Zd))
def ydz:=sv [0,1,2,3,4] (Ql 5 (Ql 6 Zd))
def yd5:=sv (Qbu 0 11) (Qs 11 [3] (sv [12] (Ql 13 Zd)))
def yd4:=sv (Qbu 0 14) (Ql 14 (Ql 15 Zd))
def yd3:=sv (Qbu 0 19) (Qs 19 [2,6,10] (Ql 20 Zd))
def yds:=sv [0,1,3,4,5] (Qbv 2 [4] (Qbv 6 [] (Qs 7 [0,1,3,4,5] (Ql 8 Zd)) (Qs 7 [0,1,3,4,5] (Ql 6 (Ql 8 Zd)))) (Qs 7 [0,1,3,4,5] (Qs 2 [4] (Ql 6 (Ql 8 Zd)))))
def ydy:=sv (Qbu 0 9) (Qs 9 [3] (sv [10] Zd))
def ydx:=sv [0,1,2,3,4] (Ql 5 (Ql 6 Zd))
def ydw:=sv (Qbu 0 15) (Qs 15 [9] (sv [16,17,18,19,20,21,22,23,24,25,27,28,29,30] (Qs 26 [30] (sv [31,32,33,34,35,36,37,38,39,40,41,42,43,44,46,47,48,49] (Qs 45 [49] (Ql 50 (sv [51,52,53] Zd)))))))
def ydv:=sv [0,1,2,3,4,5] (Qs 6 [3] (sv [7] Zd))
def ydu:=sv [0,1,2,3,4,5,6,7,8,9,11] (Ql 10 (sv [12,13] (Ql 14 Zd)))
def ydt:=sv [0,1,2,3,4,5,6,7,8,9,10,12,13] (Qbv 11 [0,5,13] (Qbv 14 [0] (Qbv 15 [] (sv [16,17,18] (Qs 19 [0,1,2,3,4,5,6,7,8,9,10,12,13,16,17,18] (Ql 20 (Ql 21 Zd)))) (Qs 19 [0,1,2,3,4,5,6,7,8,9,10,12,13] (Ql 15 (sv [16,17,18] (Ql 20 (Ql 21 Zd)))))) (Qs 19 [0,1,2,3,4,5,6,7,8,9,10,12,13] (Qs 14 [0] (Ql 15 (sv [16,17,18] (Ql 20 (Ql 21 Zd))))))) (Qs 19 [0,1,2,3,4,5,6,7,8,9,10,12,13] (Qs 11 [0,5,13] (Qs 14 [0] (Ql 15 (sv [16,17,18] (Ql 20 (Ql 21 Zd))))))))
def ydq:=sv [0,1,2,3,4,5,6,7] (Qs 8 [6] (Ql 9 Zd))
def ydp:=sv (Qbu 0 13) Zd
def ydo:=sv (Qbu 0 13) Zd
def ydn:=sv [0,1,4,5] (Qs 2 [5] (Qs 3 [5] (Ql 6 (Ql 7 (Ql 8 (Ql 9 Zd))))))
def ydm:=sv [0,1,2,3,5,6,7,8] (Qs 4 [6,8] (Ql 9 (sv [10] (Ql 11 Zd))))
def ydl:=sv (Qbu 0 12) Zd
def ydj:=sv [0,1,2,3,4] (Ql 5 (Ql 6 Zd))
def ydi:=sv [0,1,2,3,4] (Ql 5 Zd)
def ydk:=sv [0,1,2,3,4,5] (Ql 6 Zd)
def ydh:=sv [0,1,3,4] (Qs 2 [4] (Ql 5 (sv [6] (Ql 7 Zd))))
def ydg:=sv (Qbu 0 10) (Qs 10 [7] (Ql 11 Zd))
def ydf:=sv [0,1,2,4,5,6] (Qbv 3 [5,6] (Qbv 7 [] (sv [8] (Qbv 9 [] (Qs 10 [0,1,2,4,5,6,8] (Ql 11 Zd)) (Qs 10 [0,1,2,4,5,6,8] (Ql 9 (Ql 11 Zd))))) (Qs 10 [0,1,2,4,5,6] (Ql 7 (sv [8] (Ql 9 (Ql 11 Zd)))))) (Qs 10 [0,1,2,4,5,6] (Qs 3 [5,6] (Ql 7 (sv [8] (Ql 9 (Ql 11 Zd)))))))
def yde:=sv [0,1,2,4,5,6] (Qbv 3 [5,6] (Qbv 7 [] (sv [8] (Qbv 9 [] (Qs 10 [0,1,2,4,5,6,8] (Ql 11 Zd)) (Qs 10 [0,1,2,4,5,6,8] (Ql 9 (Ql 11 Zd))))) (Qs 10 [0,1,2,4,5,6] (Ql 7 (sv [8] (Ql 9 (Ql 11 Zd)))))) (Qs 10 [0,1,2,4,5,6] (Qs 3 [5,6] (Ql 7 (sv [8] (Ql 9 (Ql 11 Zd)))))))
def ydd:=sv [0,1,2,3,4,5,6,7,8,9,10,11,12,13,14,15,16,17,18,19,20,21,22,23,24,25,26,27,28,29,30,31,36,37,38,39] (Qs 32 [3,7,37] (sv [33,34,35] (Ql 40 (Ql 41 Zd))))
def ydc:=sv [0,1,2,3,4,5,6] (Ql 7 (sv [8,9,10] (Ql 11 (Ql 12 Zd))))
def ydb:=sv [0,1,2,3,4,5,6,7] (Ql 8 Zd)
def yda:=sv [0,1,2,3,4,5,6,7] (Ql 8 Zd)
def yc9:=sv [0,1,2,3,4,5] (Ql 6 Zd)
def yc8:=sv [0,2,3,4] (Qs 1 [3] (Ql 5 (Ql 6 (Ql 7 Zd))))
def yc7:=sv [0,1,2,3,4,5,6,7,8,11] (Ql 9 (sv [10] Zd))
def yc6:=sv [0,1,2,3,4,5,6,7,8,9,10,11,12,16] (Qs 13 [3] (Ql 14 (sv [15] Zd)))
def yc5:=sv (Qbu 0 13) (Qs 13 [3,7,10] (sv [14] (Ql 15 Zd)))
def yc3:=sv [0,1,2,3,4,5,6,7] (Ql 8 Zd)
def yc2:=sv [0,1,2,3,4,5] (Ql 6 (Ql 7 Zd))
def yc1:=sv (Qbu 0 13) (Ql 13 Zd)
def yc0:=sv [0,1,2,3,4,5,6,7,10] (Ql 8 (sv [9] Zd))
def ycz:=sv (Qbu 0 9) (Ql 9 Zd)
def ycy:=sv [0,1] (Qs 2 [0] (sv [3] (Ql 4 Zd)))
def ycx:=sv [0,1,2,3,4] (Ql 5 Zd)
def ycw:=sv (Qbu 0 9) Zd
def ycv:=sv (Qbu 0 9) Zd
def ycu:=sv [0,1,2,3] (Ql 4 (Ql 5 Zd))
def yct:=sv [0,1,2,3,5,6,7,8] (Qs 4 [6,8] (Ql 9 (sv [10] (Ql 11 Zd))))
def ycr:=sv (Qbu 0 11) (Qs 11 (Qbu 0 11) (Ql 12 Zd))
def ycq:=sv (Qbu 0 9) (Ql 9 Zd)
def ycs:=sv [0,1,2,3,4] (Ql 5 Zd)
def ycp:=sv [0,1,2,3,5,6,7,8] (Qs 4 [6] (Ql 9 (sv [10] (Ql 11 Zd))))
def yco:=sv [0,1,2,3,4] (Ql 5 Zd)
def ycm:=sv (Qbu 0 10) (Qbv 10 [3,7] (.e 11 (Qbu 0 10) (Qs 12 (Qbu 0 10) (Ql 13 (Ql 14 Zd))) (Qs 12 (Qbu 0 10) (Qs 11 (Qbu 0 10) (Ql 13 (Ql 14 Zd))))) (.e 11 (Qbu 0 10) (Qbv 10 [3,7] (Qs 12 (Qbu 0 10) (Ql 13 (Ql 14 Zd))) (Qs 12 (Qbu 0 10) (Qs 10 [3,7] (Ql 13 (Ql 14 Zd))))) (Qs 12 (Qbu 0 10) (Qbv 10 [3,7] (Qs 11 (Qbu 0 10) (Ql 13 (Ql 14 Zd))) (Qs 11 (Qbu 0 10) (Qs 10 [3,7] (Ql 13 (Ql 14 Zd))))))))
def ycl:=sv (Qbu 0 9) (Qs 9 [5] (sv [10,11,12,13,14,15,16,17,18,19,20,21,22,23,24,25,26,27,28,29,30,31,36,37] (Qs 32 [37] (sv [33,34,35,38,39,40,41] Zd))))
def yck:=sv [0,1,2,3,4,5,6,7] (Ql 8 (sv [9,10] (Ql 11 Zd)))
def ycj:=sv (Qbu 0 10) (Qbv 10 [3,7] (.e 11 (Qbu 0 10) (Qs 12 (Qbu 0 10) (Ql 13 (Ql 14 Zd))) (Qs 12 (Qbu 0 10) (Qs 11 (Qbu 0 10) (Ql 13 (Ql 14 Zd))))) (.e 11 (Qbu 0 10) (Qbv 10 [3,7] (Qs 12 (Qbu 0 10) (Ql 13 (Ql 14 Zd))) (Qs 12 (Qbu 0 10) (Qs 10 [3,7] (Ql 13 (Ql 14 Zd))))) (Qs 12 (Qbu 0 10) (Qbv 10 [3,7] (Qs 11 (Qbu 0 10) (Ql 13 (Ql 14 Zd))) (Qs 11 (Qbu 0 10) (Qs 10 [3,7] (Ql 13 (Ql 14 Zd))))))))
def yci:=sv [0,1,2,3] (Qs 4 [1] (sv [5] Zd))
def ych:=sv [0,1,2,3,4,5,6,7,8,9,10,11,12,13,14,15,16,17,18,19,20,22] (Ql 21 (sv [23,24] (Ql 25 Zd)))
def ycg:=sv [0,1,2,3,4,5,6,7] (Qs 8 [6] (Ql 9 Zd))
def ycf:=sv [0,1,2,3,4,5,6,7,8,9,10,11,13,14,15,16,17,18,19,20,21,22,23,24] (Qs 12 [16,21,24] (Ql 25 (sv [26] (Ql 27 Zd))))
def yce:=sv (Qbu 0 39) (Ql 39 (sv [40,41,42,43,44,45,46] (Ql 47 (sv [48,49] Zd))))
def ycb:=sv [0,1,2,3,4,5,6,7] (Qs 8 [6] (Ql 9 Zd))
def ycc:=sv (Qbu 0 12) (Qs 12 [8] (Ql 13 Zd))
def yb8:=sv (Qbu 0 14) (Ql 14 (sv [15] Zd))
def yca:=sv (Qbu 0 14) Zd
def yb9:=sv [0,1,2,4,5] (Qs 3 [4] (Ql 6 (Ql 7 Zd)))
def yb7:=sv [0,1,2,3,4,5,6,7] (Qs 8 [4] (sv [9,10,11] (Ql 12 (sv [13,14,15] Zd))))
def yb6:=sv [0,1,3,4] (Qs 2 [4] (Ql 5 (sv [6] (Ql 7 Zd))))
def zap:=sv [0,1,2,3,5,6,7,8] (Qs 4 [6] (Ql 9 (sv [10] (Ql 11 Zd))))
def yb5:=sv [0,1,2,3,4,5,10,11,12] (Qs 6 [0,2,11] (sv [7,8,9] (Qs 13 [0] (Ql 14 (Ql 15 Zd)))))
def yb4:=sv [0,1,3,4] (Qs 2 [4] (Ql 5 (sv [6] (Ql 7 Zd))))
def yb3:=sv (Qbu 0 11) (Qs 11 (Qbu 0 11) (Ql 12 Zd))
def yb2:=sv (Qbu 0 16) (Qs 16 [10,14] (Ql 17 Zd))
def yb1:=sv [0,1,2,3,4,5,6,7,8,10,11,12,13,14,15,17,18,19,20,21,22] (Qs 9 [13,20] (Qs 16 [20] (Ql 23 (sv [24,25] (Ql 26 (sv [27,28] (Ql 29 (sv [30,31] (Ql 32 Zd)))))))))
def yb0:=sv [0,1,2,3,4,5,7] (Qs 6 [0,7] (Ql 8 Zd))
def ybz:=sv [0,1,2,3,5,6,7,8] (Qs 4 [6,8] (Ql 9 (sv [10] (Ql 11 Zd))))
def yby:=sv [0,1,2,3,4,5,6,7] (Ql 8 Zd)
def ybx:=sv [0,1,3,4] (Qs 2 [4] (Ql 5 (sv [6] (Ql 7 Zd))))
def ybw:=sv [0,1,2,3,4,5] (Ql 6 (Ql 7 Zd))
def ybt:=sv [0,1,2,3,5,6,7,8] (Qs 4 [6,8] (Ql 9 (sv [10] (Ql 11 Zd))))
def ybs:=sv [0,1,2,3,4,5] (Ql 6 (sv [7] Zd))
def ybr:=sv [0,1,2,3,4] (Qbv 5 [] (Qs 6 [0,1,2,3,4] (Ql 7 Zd)) (Qs 6 [0,1,2,3,4] (Ql 5 (Ql 7 Zd))))
def gu:=sv [0,1,2,3,4] (Qs 5 [0] (Ql 6 (Ql 7 Zd)))
def ybq:=sv (Qbu 0 28) Zd
def ybp:=sv [0,1] (Qs 2 [0] (Ql 3 (sv [4] Zd)))
def ybo:=sv [0,1,2,3,4,5] (Ql 6 (Ql 7 Zd))
def ybk:=sv [0,1,2] (Qs 3 [0] (Ql 4 Zd))
def ybj:=sv (Qbu 0 18) Zd
def ybi:=sv [0,1,2,3,4,5,7,8,9,10,11,12] (Qs 6 [9,12] (Ql 13 (sv [14] (Ql 15 Zd))))
def ybe:=sv (Qbu 0 12) (Ql 12 Zd)
def ybd:=sv [0,1,2,3,4,5,6] (Qs 7 [0] (Ql 8 Zd))
def ybc:=sv [0,1,2] (Qs 3 [0] (sv [4,5] (Ql 6 Zd)))
def zb:qf Tryz.prog infoTree.get:=Tr.ok _ ynr
def cfg(n:Nat)(G:List Nat:=[])(W:List Nat:=[]):Cfg:={n:=n,I:=infoTree.get,G:=G,W:=W}
def Qy(n:Nat){g:FuncId}{fn:Func}{code:Code}{args:List AV}{st:Store}{R:Ja}(hf:Tryz.prog.funcs[g]?=Δ fn)(h:vc Tryz.prog (cfg n) code (ip (cfg n) fn.results.toList R) (Cj args) st)(hb:fn.body=Δ code:=by rfl)(hm:(fn.name=="runtime.NumGoroutine")=false:=by rfl)(hn:fn.ntmps=n:=by rfl)(hl:Nat.ble (Γ args) n=true:=by rfl):ACalls Tryz.prog g args st R:=Qa (c:=cfg n) zb hf h hb hm hn hl rfl rfl
def Qbt{p:Prop}(h:p:=by repeat(first|exact O|refine⟨Y,?_⟩)):p:=h
def Qbx{q:Prop}(h:q):(True/\q)/\True:=⟨⟨O,h⟩,O⟩
def Qby{S:Store}{b:Nat}{x:AObj}{K:AObj->Prop}(k:K x)(h:S.obj b=Δ x:=by assumption):optK (Store.obj S b) K:=J _ h k
def Qbw{p q:Prop}(h:q)(c:p:=by repeat(first|exact O|refine⟨rfl,?_⟩|refine⟨optR (optR (optR (J _ (zd _ _ _) rfl))),?_⟩|refine⟨J (o:=Store.obj _ _) _ (by assumption) rfl,?_⟩|refine⟨⟨ψ,ze (by assumption) rfl⟩,?_⟩)):(p/\q)/\True:=⟨⟨c,h⟩,O⟩
def Qe{p:Prop}(h:p:=by repeat(first|exact O|refine⟨rfl,?_⟩|refine⟨optR (optR (optR (J _ (zd _ _ _) rfl))),?_⟩|refine⟨J (o:=Store.obj _ _) _ (by assumption) rfl,?_⟩|refine⟨⟨ψ,ze (by assumption) rfl⟩,?_⟩)):p:=h
abbrev Jb:=ACalls Tryz.prog
end Go.Proofs
namespace Go.Proofs
open Go Go.V Tryz
set_option maxRecDepth 20000
set_option maxHeartbeats 4000000
def Qaa{p:Prop}(h:p:=by unfold qv;simp at h1⊢;omega):p:=h
def ysz(l:List Int)(hl:Γ l<=1000000000000)(st:Store)(R:Ja)(h:R (lst 1 zx l) st):Jb 253 [lst 1 zx l] st R:=by
 refine Qy 19 func253 ?_;refine AWp.loop (σ:=Nat×AV) ⟨λs=>[(0,.av (lst 1 zx l)),(3,.av s.2),(4,.av (int s.1))],λ_=>[],λs st'=>s.1<=Γ l/\App 1 st s.2 (rws zx (l.take s.1)) st',λs=>Γ l-s.1⟩ zb ?_ ?_
 .exact⟨(0,_),O,⟨Fae _,App.start 1 st⟩,⟨Y,Y,Y,O⟩,O⟩
 .rintro⟨i,v⟩ st' ⟨f,d⟩;refine zg (λe=>?_) (λe=>?_)
  .have a:i<Γ l:=ql e;refine⟨i,rfl,J _ (zm a) ?_⟩;refine⟨ψ,?_⟩;refine Af (ie:=ti2) (rows':=[zx l[i]]) d ?_ ?_ ⟨?_,?_⟩ (λv2 st2 c=>?_)
   .rfl
   .rfl
   .simp[zj,ti2];omega
   .simp[zj];omega
   .refine⟨⟨Z,Z⟩,?_⟩;refine⟨(i+1,v2),?_,⟨a,?_⟩,Qbt,O⟩
    .show Γ l-(i+1)<Γ l-i;omega
    .rw[<-Vw a];exact c
  .have b:i=Γ l:=qr e f;subst b;refine⟨_,st,AV.le_trans d.le ?_,d.has,h⟩;rw[Fal];exact Tt
def ys3(c:Cmd)(a:c.fits)(st:Store)(R:Ja)(h:R (.agg (yg c)) st):Jb 162 [.agg (yg c)] st R:=by refine Qy 10 func162 ?_;refine ysz c.U a _ _ ?_;exact⟨_,st,Tt,Store.Has.refl st,h⟩
def yq8(a b:List Int)(t:Γ a<=1000000000000)(st:Store)(R:Ja)(h:R (bool (decide (a=b))) st):Jb 227 [lst 1 zx a,lst 1 zx b] st R:=by
 refine Qy 26 func227 ?_;refine zg (λo=>?_) (λo=>?_)
 .have:a≠b:=λg=>zdc o (by rw[g]);rw[show decide (a=b)=false by simp[this]]at h;exact⟨_,st,Tt,Store.Has.refl st,h⟩
 .have hl:Γ a=Γ b:=cj o;refine AWp.loop (σ:=Nat) ⟨λi=>[(0,.av (lst 1 zx a)),(1,.av (lst 1 zx b)),(5,.av (int i))],λ_=>[],λi c=>i<=Γ a/\a.take i=b.take i/\c=st,λi=>Γ a-i⟩ zb ?_ ?_
  .exact⟨0,O,⟨Fae _,rfl,rfl⟩,Qbt,O⟩
  .rintro i c ⟨p,f,d⟩;refine zg (λg=>?_) (λg=>?_)
   .have e:i<Γ a:=ql g;have hltb:i<Γ b:=Z;refine Qc zb yeq ?_;refine⟨i,rfl,J _ (zm e) ?_⟩;refine⟨i,rfl,J _ (zm hltb) ?_⟩;refine zg (λj=>?_) (λj=>?_)
    .have k:a[i]≠b[i]:=by
      intro n;rw[n]at j;simp at j
     have:a≠b:=by intro n;subst n;exact k rfl
     rw[show decide (a=b)=false by simp[this]]at h;subst d;exact⟨_,c,Tt,Store.Has.refl c,h⟩
    .refine⟨⟨Z,Z⟩,?_⟩;refine⟨i+1,?_,⟨e,?_,d⟩,Qbt,O⟩
     .show Γ a-(i+1)<Γ a-i;omega
     .rw[Fab e,Fab hltb,f];have:a[i]=b[i]:=by simpa using j
      rw[this]
   .have l:i=Γ a:=qr g p;subst l d;have:a=b:=by
     rw[Fal,hl,Fal]at f;exact f
    rw[show decide (a=b)=true by simp[this]]at h;exact⟨_,c,Tt,Store.Has.refl c,h⟩
def Mi(a b:Cmd)(d:a.fits)(st:Store)(R:Ja)(h:R (bool (decide (a=b))) st):Jb 149 [.agg (yg a),.agg (yg b)] st R:=by
 refine Qy 66 func149 ?_;refine zg (λh1=>?_) (λh1=>⟨_,st,Tt,Store.Has.refl st,isF h (decide_eq_false λe=>θi)⟩);refine zg (λn=>?_) (λh1=>⟨_,st,Tt,Store.Has.refl st,isF h (decide_eq_false λe=>θi)⟩);refine zg (λl=>?_) (λh1=>⟨_,st,Tt,Store.Has.refl st,isF h (decide_eq_false λe=>θi)⟩);refine zg (λk=>?_) (λh1=>⟨_,st,Tt,Store.Has.refl st,isF h (decide_eq_false λe=>θi)⟩);refine yq8 a.U b.U d _ _ ?_;refine zg (λj=>?_) (λh1=>⟨_,st,Tt,Store.Has.refl st,isF h (decide_eq_false λe=>θi)⟩);refine zg (λi=>?_) (λh1=>⟨_,st,Tt,Store.Has.refl st,isF h (decide_eq_false λe=>θi)⟩);refine zg (λg=>?_) (λh1=>⟨_,st,Tt,Store.Has.refl st,isF h (decide_eq_false λe=>θi)⟩);refine zg (λf=>?_) (λh1=>⟨_,st,Tt,Store.Has.refl st,isF h (decide_eq_false λe=>θi)⟩);refine⟨_,st,Tt,Store.Has.refl st,?_⟩;have e:(a.X==b.X&&(a.Y==b.Y&&true))=decide (a=b):=by
  rw[Fbm];simp only[beq_iff_eq,decide_eq_true_eq,Fay,and_true]at*;constructor
  .cases a;cases b;simp_all
  .rintro rfl;exact⟨rfl,rfl⟩
 rw[<-e]at h;exact h
def G7(n c d:Int)(st:Store)(R:Ja)(h:∀b:Bool,(b=true↔c<=n/\n<=d)->R (bool b) st):Jb 193 [int n,int c,int d] st R:=by
 refine Qy 15 func193 ?_;refine zg (λa=>?_) (λa=>⟨_,st,Tt,Store.Has.refl st,h _ ?_⟩)
 .refine⟨_,st,Tt,Store.Has.refl st,h _ ?_⟩;simp at a⊢;omega
 .simp at a⊢;omega
def ym7(n:Int)(st:Store)(R:Ja)(h:∀b:Bool,(b=true↔0<=n/\n<=3)->R (bool b) st):Jb 181 [int n] st R:=by
 refine Qy 9 func181 ?_;refine zg (λa=>?_) (λa=>⟨_,st,Tt,Store.Has.refl st,h _ ?_⟩)
 .refine⟨_,st,Tt,Store.Has.refl st,h _ ?_⟩;simp at a⊢;omega
 .simp at a⊢;omega
def zc7(n c:Int)(st:Store)(R:Ja)(h:∀b:Bool,(b=true↔0<=n/\n<=c)->R (bool b) st):Jb 100 [int n,int c] st R:=by
 refine Qy 12 func100 ?_;refine zg (λa=>?_) (λa=>⟨_,st,Tt,Store.Has.refl st,h _ ?_⟩)
 .refine⟨_,st,Tt,Store.Has.refl st,h _ ?_⟩;simp at a⊢;omega
 .simp at a⊢;omega
def f0(n:Int)(st:Store)(R:Ja)(h:∀b:Bool,(b=true↔vh n)->R (bool b) st):Jb 147 [int n] st R:=by
 refine Qy 9 func147 ?_;refine zg (λa=>?_) (λa=>⟨_,st,Tt,Store.Has.refl st,h _ ?_⟩)
 .refine⟨_,st,Tt,Store.Has.refl st,h _ ?_⟩;unfold vh;simp at a⊢;omega
 .unfold vh;simp at a⊢;omega
def nk(n:Int)(st:Store)(R:Ja)(h:∀b:Bool,(b=true↔idP n)->R (bool b) st):Jb 148 [int n] st R:=by
 refine Qy 9 func148 ?_;refine zg (λa=>?_) (λa=>⟨_,st,Tt,Store.Has.refl st,h _ ?_⟩)
 .refine⟨_,st,Tt,Store.Has.refl st,h _ ?_⟩;unfold idP;simp at a⊢;omega
 .unfold idP;simp at a⊢;omega
def ykn(x y:Int)(st:Store)(R:Ja)(h:∀b:Bool,(b=true↔qv x y)->R (bool b) st):Jb 282 [.agg [int x,int y]] st R:=by refine Qy 21 func282 ?_;refine zg (λh1=>?_) (λh1=>⟨_,st,Tt,Store.Has.refl st,h _ Qaa⟩);refine zg (λc=>?_) (λh1=>⟨_,st,Tt,Store.Has.refl st,h _ Qaa⟩);refine zg (λa=>?_) (λh1=>⟨_,st,Tt,Store.Has.refl st,h _ Qaa⟩);refine⟨_,st,Tt,Store.Has.refl st,h _ ?_⟩;unfold qv;simp at h1 c a⊢;omega
def ykp(x y:Int)(st:Store)(R:Ja)(h:∀b:Bool,(b=true↔qv x y)->R (bool b) st):Jb 145 [.agg [int x,int y],int 0] st R:=by refine Qy 31 func145 ?_;refine zg (λh1=>?_) (λh1=>⟨_,st,Tt,Store.Has.refl st,h _ Qaa⟩);refine zg (λc=>?_) (λh1=>⟨_,st,Tt,Store.Has.refl st,h _ Qaa⟩);refine zg (λa=>?_) (λh1=>⟨_,st,Tt,Store.Has.refl st,h _ Qaa⟩);refine⟨_,st,Tt,Store.Has.refl st,h _ ?_⟩;unfold qv;simp at h1 c a⊢;omega
def fj(l:List Int)(hl:Γ l<=1000000000000)(st:Store)(R:Ja)(h:∀b:Bool,(b=true↔Cr l)->R (bool b) st):Jb 283 [yq l] st R:=by
 refine Qy 40 func283 ?_
 refine AWp.loop (σ:=Nat) ⟨λi=>[(0,.av (yq l)),(5,.av (yq l)),(6,.av (int (Γ l))),(7,.av (int i))],λ_=>[],
  λi a=>i<=Γ l/\a=st/\∀j,j<i->(1<=l.getD j 0/\l.getD j 0<=1099511627776)/\(0<j->l.getD (j-1) 0<l.getD j 0),λi=>Γ l-i⟩ zb ?_ ?_
 .refine⟨0,O,⟨Fae _,rfl,λj u=>Z⟩,⟨Y,Y,?_,Y,O⟩,O⟩;rw[<-zj (f:=zx) l];exact Y
 .rintro i a ⟨v,rfl,e⟩;refine zg (λh1=>?_) (λh1=>?_)
  .have c:i<Γ l:=by simpa using h1
   have hget:l.getD i 0=l[i]:=by simp[c]
   refine⟨i,rfl,J _ (zm c) ?_⟩;have bad:¬((1<=l.getD i 0/\l.getD i 0<=1099511627776)/\(0<i->l.getD (i-1) 0<l.getD i 0))->∀b:Bool,b=false->(b=true↔Cr l):=by rintro hb _ rfl;simp only[Fan,false_iff];exact λt=>hb (t.2 i c)
   have go:((1<=l.getD i 0/\l.getD i 0<=1099511627776)/\(0<i->l.getD (i-1) 0<l.getD i 0))->∀j,j<i+1->(1<=l.getD j 0/\l.getD j 0<=1099511627776)/\(0<j->l.getD (j-1) 0<l.getD j 0):=by
    intro hb j u;by_cases n:j=i
    .subst n;exact hb
    .exact e j Z
   refine zg (λd=>⟨_,a,Tt,Store.Has.refl a,h _ (bad (by rw[hget];simp at d;omega) _ rfl)⟩) (λd=>?_);refine zg (λg=>⟨_,a,Tt,Store.Has.refl a,h _ (bad (by rw[hget];simp at g;omega) _ rfl)⟩) (λg=>?_);refine zg (λk=>?_) (λk=>?_)
   .have k:0<i:=by simpa using k
    have hget1:l.getD (i-1) 0=l[i-1]:=by simp[show i-1<Γ l by omega]
    refine⟨⟨Z,Z⟩,?_⟩;refine⟨i-1,Z,J _ (zm Z) ?_⟩;refine zg (λp=>⟨_,a,Tt,Store.Has.refl a,h _ (bad (by rw[hget,hget1];simp at p;omega) _ rfl)⟩) (λp=>?_);refine⟨⟨Z,Z⟩,?_⟩;refine⟨i+1,?_,⟨c,rfl,go (by rw[hget,hget1];simp at d g p;omega)⟩,Qbt,O⟩;show Γ l-(i+1)<Γ l-i;omega
   .refine⟨⟨Z,Z⟩,?_⟩;refine⟨i+1,?_,⟨c,rfl,go (by rw[hget];simp at d g k;omega)⟩,Qbt,O⟩;show Γ l-(i+1)<Γ l-i;omega
  .have o:i=Γ l:=by
    have:¬i<Γ l:=θe;omega
   subst o;refine zg (λd=>⟨_,a,Tt,Store.Has.refl a,h _ ?_⟩) (λd=>⟨_,a,Tt,Store.Has.refl a,h _ ?_⟩)
   .rw[zj]at d⊢;unfold Cr;simp only[decide_eq_true_eq]at d⊢;constructor
    .intro g;exact⟨Z,e⟩
    .intro g;omega
   .rw[zj]at d;unfold Cr;simp only[decide_eq_false_iff_not]at d;simp only[Fan,false_iff];intro g;omega
def yht(l:List Int)(hl:Γ l<=1000000000000)(st:Store)(R:Ja)(h:∀b:Bool,(b=true↔∀j,j<Γ l->0<j->l.getD (j-1) 0<l.getD j 0)->R (bool b) st):Jb 225 [yq l] st R:=by
 refine Qy 20 func225 ?_
 refine AWp.loop (σ:=Nat) ⟨λi=>[(0,.av (yq l)),(3,.av (int (i)))],λ_=>[],
  λi a=>1<=i/\(i<=Γ l\/i=1)/\a=st/\∀j,j<i->0<j->l.getD (j-1) 0<l.getD j 0,λi=>Γ l-i⟩ zb ?_ ?_
 .exact⟨1,O,⟨Fai _,.inr rfl,rfl,λj n=>Z⟩,⟨Y,Y,O⟩,O⟩
 .rintro i a ⟨o,u,rfl,d⟩;refine zg (λe=>?_) (λe=>?_)
  .have c:i<Γ l:=ql e;have hget:l.getD i 0=l[i]:=by simp[c]
   have hget1:l.getD (i-1) 0=l[i-1]:=by simp[show i-1<Γ l by omega]
   refine Qc zb yer ?_;refine⟨i,rfl,J _ (zm c) ?_⟩;refine⟨⟨Z,Z⟩,?_⟩;refine⟨i-1,Z,J _ (zm Z) ?_⟩;refine zg (λg=>⟨_,a,Tt,Store.Has.refl a,h _ ?_⟩) (λg=>?_)
   .simp only[Fan,false_iff];intro t;have:=t i c Z;rw[hget]at this;simp at g;omega
   .refine⟨⟨Z,Z⟩,?_⟩;refine⟨i+1,?_,⟨Z,.inl c,rfl,λj n k=>?_⟩,⟨Y,Y,O⟩,O⟩
    .show Γ l-(i+1)<Γ l-i;omega
    .by_cases f:j=i
     .subst f;rw[hget];simp at g;omega
     .exact d j Z k
  .have p:¬i<Γ l:=by
    rw[zj]at e;simpa using e
   refine⟨_,a,Tt,Store.Has.refl a,h _ ?_⟩;simp only[true_iff];intro j n k;exact d j Z k
def yua(l:List Int)(e f:Int)(hl:Γ l<=1000000000000)(st:Store)(R:Ja)(h:∀b:Bool,(b=true↔∀j,j<Γ l->e<=l.getD j 0/\l.getD j 0<=f)->R (bool b) st):Jb 226 [yq l,int e,int f] st R:=by
 refine Qy 28 func226 ?_
 refine AWp.loop (σ:=Nat) ⟨λi=>[(0,.av (yq l)),(1,.av (int e)),(2,.av (int f)),(7,.av (int (i)))],λ_=>[],
  λi a=>i<=Γ l/\a=st/\∀j,j<i->e<=l.getD j 0/\l.getD j 0<=f,λi=>Γ l-i⟩ zb ?_ ?_
 .exact⟨0,O,⟨Fae _,rfl,λj v=>Z⟩,Qbt,O⟩
 .rintro i a ⟨k,rfl,d⟩;refine zg (λt=>?_) (λt=>?_)
  .have c:i<Γ l:=ql t;have hget:l.getD i 0=l[i]:=by simp[c]
   refine⟨i,rfl,J _ (zm c) ?_⟩;have bad:¬(e<=l.getD i 0/\l.getD i 0<=f)->∀b:Bool,b=false->(b=true↔∀j,j<Γ l->e<=l.getD j 0/\l.getD j 0<=f):=by rintro hb _ rfl;simp only[Fan,false_iff];exact λu=>hb (u i c)
   refine zg (λp=>⟨_,a,Tt,Store.Has.refl a,h _ (bad (by simp at p;omega) _ rfl)⟩) (λp=>?_);refine⟨i,rfl,J _ (zm c) ?_⟩;refine zg (λo=>⟨_,a,Tt,Store.Has.refl a,h _ (bad (by simp at o;omega) _ rfl)⟩) (λo=>?_);refine⟨⟨Z,Z⟩,?_⟩;refine⟨i+1,?_,⟨c,rfl,λj v=>?_⟩,Qbt,O⟩
   .show Γ l-(i+1)<Γ l-i;omega
   .by_cases g:j=i
    .subst g;simp at p o;omega
    .exact d j Z
  .have n:i=Γ l:=qr t k;subst n;refine⟨_,a,Tt,Store.Has.refl a,h _ ?_⟩;simp only[true_iff];exact d
def ni(l:List Int)(hl:Γ l<=1000000000000)(st:Store)(R:Ja)(h:∀b:Bool,(b=true↔Cr l)->R (bool b) st):Jb 146 [yq l] st R:=by
 refine Qy 19 func146 ?_;refine zg (λe=>?_) (λe=>⟨_,st,Tt,Store.Has.refl st,h _ (by unfold Cr;rw[zj]at e;simp at e⊢;omega)⟩);refine zg (λd=>?_) (λd=>⟨_,st,Tt,Store.Has.refl st,h _ (by unfold Cr;rw[zj]at d;simp at d⊢;omega)⟩);rw[zj]at e d;simp at e d;refine yht l hl _ _ (λb hb=>?_);refine zg (λg=>?_) (λg=>⟨_,st,Tt,Store.Has.refl st,h _ ?_⟩)
 .refine yua l 1 1099511627776 hl _ _ (λk f=>?_);refine⟨_,st,Tt,Store.Has.refl st,h _ ?_⟩;rw[f];constructor
  .intro c;exact⟨Z,λj a=>⟨c j a,hb.1 g j a⟩⟩
  .intro c j a;exact(c.2 j a).1
 .simp only[Fan,false_iff];intro c;have:=hb.2 λj a i=>(c.2 j a).2 i;rw[g]at this;cases this
def Qab{p:Prop}(h:p:=by simp only[Fan,false_iff]at hb0⊢;simp[vh,idP,hb0]):p:=h
def Qac{p:Prop}(h:p:=by have q0:=hb0.1 rfl;rw[hb1];simp[vh,idP,q0]):p:=h
def yk7(c:Cmd)(o:c.fits)(st:Store)(R:Ja)(h:∀b:Bool,(b=true↔c.okP)->R (.tup [.agg (yg c.only),bool b]) st):Jb 192 [.agg (yg c)] st R:=by
 refine Qy 119 func192 ?_;refine zg (λl=>?_) (λl=>?_)
 .have l:c.K=1:=by simpa using l
  have fin:∀b:Bool,(b=true↔_)->R (.tup [.agg (yg _),bool b]) st:=λb hb=>h b (hb.trans (Cmd.ok1 l).symm);rw[Cmd.only1 l]at fin;refine Qc zb yfk ?_;refine Qbw ?_;refine Qbx ?_;refine ym7 c.N _ _ (λd hb0=>?_);cases d with
  |false=>
   refine⟨_,st,?_,Store.Has.refl st,fin false Qab⟩;exact AV.le_tupL ⟨AV.le_aggL ⟨Tt,Tt,Tt,Tt,AV.le_nil 1,Tt,Tt,Tt,Tt,Tt,O⟩,Tt,O⟩
  |true=>
   refine ykn c.X c.Y _ _ (λn hb1=>?_);refine⟨_,st,?_,Store.Has.refl st,fin n Qac⟩;exact AV.le_tupL ⟨AV.le_aggL ⟨Tt,Tt,Tt,Tt,AV.le_nil 1,Tt,Tt,Tt,Tt,Tt,O⟩,Tt,O⟩
 have l:c.K≠1:=by simpa using l
 refine zg (λk=>?_) (λk=>?_)
 .have k:c.K=2:=by simpa using k
  have fin:∀b:Bool,(b=true↔_)->R (.tup [.agg (yg _),bool b]) st:=λb hb=>h b (hb.trans (Cmd.ok2 k).symm);rw[Cmd.only2 k]at fin;refine Qc zb yfj ?_;refine Qbw ?_;refine Qbx ?_;refine fj c.U o _ _ (λd hb0=>?_);cases d with
  |false=>
   refine⟨_,st,?_,Store.Has.refl st,fin false Qab⟩;exact AV.le_tupL ⟨AV.le_aggL ⟨Tt,Tt,Tt,Tt,Tt,Tt,Tt,Tt,Tt,Tt,O⟩,Tt,O⟩
  |true=>
   refine G7 c.T 0 16383 _ _ (λn hb1=>?_);refine⟨_,st,?_,Store.Has.refl st,fin n Qac⟩;exact AV.le_tupL ⟨AV.le_aggL ⟨Tt,Tt,Tt,Tt,Tt,Tt,Tt,Tt,Tt,Tt,O⟩,Tt,O⟩
 have k:c.K≠2:=by simpa using k
 refine zg (λj=>?_) (λj=>?_)
 .have j:c.K=3:=by simpa using j
  have fin:∀b:Bool,(b=true↔_)->R (.tup [.agg (yg _),bool b]) st:=λb hb=>h b (hb.trans (Cmd.ok3 j).symm);rw[Cmd.only3 j]at fin;refine fj c.U o _ _ (λd hb0=>?_);refine⟨_,st,?_,Store.Has.refl st,fin d (hb0)⟩;exact AV.le_tupL ⟨AV.le_aggL ⟨Tt,Tt,Tt,Tt,Tt,Tt,Tt,Tt,Tt,Tt,O⟩,Tt,O⟩
 have j:c.K≠3:=by simpa using j
 refine zg (λi=>?_) (λi=>?_)
 .have i:c.K=4:=by simpa using i
  have fin:∀b:Bool,(b=true↔_)->R (.tup [.agg (yg _),bool b]) st:=λb hb=>h b (hb.trans (Cmd.ok4 i).symm);rw[Cmd.only4 i]at fin;refine Qc zb yfn ?_;refine Qbw ?_;refine Qbw ?_;refine Qbx ?_;refine G7 c.T 0 16383 _ _ (λd hb0=>?_);cases d with
  |false=>
   refine⟨_,st,?_,Store.Has.refl st,fin false Qab⟩;exact AV.le_tupL ⟨AV.le_aggL ⟨Tt,Tt,Tt,Tt,AV.le_nil 1,Tt,Tt,Tt,Tt,Tt,O⟩,Tt,O⟩
  |true=>
   refine G7 c.W 1 4 _ _ (λn hb1=>?_);cases n with
   |false=>
    refine⟨_,st,?_,Store.Has.refl st,fin false (by simp only[Fan,false_iff]at hb1⊢;simp[vh,idP,hb1])⟩;exact AV.le_tupL ⟨AV.le_aggL ⟨Tt,Tt,Tt,Tt,AV.le_nil 1,Tt,Tt,Tt,Tt,Tt,O⟩,Tt,O⟩
   |true=>
    refine G7 c.H 1 4 _ _ (λu p=>?_);refine⟨_,st,?_,Store.Has.refl st,fin u (by have q0:=hb0.1 rfl;have t:=hb1.1 rfl;rw[p];simp[vh,idP,q0,t])⟩;exact AV.le_tupL ⟨AV.le_aggL ⟨Tt,Tt,Tt,Tt,AV.le_nil 1,Tt,Tt,Tt,Tt,Tt,O⟩,Tt,O⟩
 have i:c.K≠4:=by simpa using i
 refine zg (λg=>?_) (λg=>?_)
 .have g:c.K=5:=by simpa using g
  have fin:∀b:Bool,(b=true↔_)->R (.tup [.agg (yg _),bool b]) st:=λb hb=>h b (hb.trans (Cmd.ok5 g).symm);rw[Cmd.only5 g]at fin;refine G7 c.N 1 1099511627776 _ _ (λd hb0=>?_);refine⟨_,st,?_,Store.Has.refl st,fin d (hb0)⟩;exact AV.le_tupL ⟨AV.le_aggL ⟨Tt,Tt,Tt,Tt,AV.le_nil 1,Tt,Tt,Tt,Tt,Tt,O⟩,Tt,O⟩
 have g:c.K≠5:=by simpa using g
 refine zg (λf=>?_) (λf=>?_)
 .have f:c.K=6:=by simpa using f
  have fin:∀b:Bool,(b=true↔_)->R (.tup [.agg (yg _),bool b]) st:=λb hb=>h b (hb.trans (Cmd.ok6 f).symm);rw[Cmd.only6 f]at fin;refine Qc zb yfm ?_;refine Qbw ?_;refine Qbx ?_;refine fj c.U o _ _ (λd hb0=>?_);cases d with
  |false=>
   refine⟨_,st,?_,Store.Has.refl st,fin false Qab⟩;exact AV.le_tupL ⟨AV.le_aggL ⟨Tt,Tt,Tt,Tt,Tt,Tt,Tt,Tt,Tt,Tt,O⟩,Tt,O⟩
  |true=>
   refine G7 c.N 1 1099511627776 _ _ (λn hb1=>?_);refine⟨_,st,?_,Store.Has.refl st,fin n Qac⟩;exact AV.le_tupL ⟨AV.le_aggL ⟨Tt,Tt,Tt,Tt,Tt,Tt,Tt,Tt,Tt,Tt,O⟩,Tt,O⟩
 have f:c.K≠6:=by simpa using f
 refine zg (λe=>?_) (λe=>?_)
 .have e:c.K=7:=by simpa using e
  have fin:∀b:Bool,(b=true↔_)->R (.tup [.agg (yg _),bool b]) st:=λb hb=>h b (hb.trans (Cmd.ok7 e).symm);rw[Cmd.only7 e]at fin;refine Qc zb yfl ?_;refine Qbw ?_;refine Qbx ?_;refine G7 c.N 1 1099511627776 _ _ (λd hb0=>?_);cases d with
  |false=>
   refine⟨_,st,?_,Store.Has.refl st,fin false Qab⟩;exact AV.le_tupL ⟨AV.le_aggL ⟨Tt,Tt,Tt,Tt,AV.le_nil 1,Tt,Tt,Tt,Tt,Tt,O⟩,Tt,O⟩
  |true=>
   refine G7 c.T 0 16383 _ _ (λn hb1=>?_);refine⟨_,st,?_,Store.Has.refl st,fin n Qac⟩;exact AV.le_tupL ⟨AV.le_aggL ⟨Tt,Tt,Tt,Tt,AV.le_nil 1,Tt,Tt,Tt,Tt,Tt,O⟩,Tt,O⟩
 have e:c.K≠7:=by simpa using e
 have fin:R (.tup [.agg (yg c.only),bool false]) st:=h false (by simpa using Cmd.ok0 l k j i g f e);rw[Cmd.only0 l k j i g f e]at fin;refine⟨_,st,?_,Store.Has.refl st,fin⟩;exact AV.le_tupL ⟨AV.le_aggL ⟨Tt,Tt,Tt,Tt,AV.le_nil 1,Tt,Tt,Tt,Tt,Tt,O⟩,Tt,O⟩
def yk8{c:Cmd}(a:c.fits):c.only.fits:=by
 unfold Cmd.fits at*;unfold Cmd.only;repeat' split
 all_goals first|exact a|simp
def Iv(c:Cmd)(y:c.fits)(st:Store)(R:Ja)(h:∀b:Bool,(b=true↔jh c)->R (bool b) st):Jb 81 [.agg (yg c)] st R:=by
 refine Qb (c:=cfg 168) zb func81 ?_;have no:¬jh c->R (bool false) st:=λhn=>h false θ2;have fit:∀{o},c.only=o->c.only.fits:=λ_=>yk8 y;refine AWp.seq (AWp.of_vc zb ?_);refine AWp.seq (AWp.of_vc zb ?_)
 refine AWp.meet (σ:=Bool) ⟨λb=>[(1,.bx 1 0),(3,.bx 3 0),(4,.av (bool b))],λ_=>[(1,yg c),(3,[int c.P,int c.S,int c.K,int 0,nil,int 0,int 0,int 0,int 0,int 0])],
  λb d=>d=st/\(b=true↔(1<=c.P/\c.P<=8)/\(0<=c.S/\c.S<=1099511627776))⟩ zb ?_ ?_
 .refine zg (λG=>?_) (λG=>⟨_,⟨rfl,?_⟩,⟨Y,Y,Y,O⟩,Qe⟩)
  .refine zg (λE=>?_) (λE=>⟨_,⟨rfl,?_⟩,⟨Y,Y,Y,O⟩,Qe⟩)
   .refine zc7 c.S 1099511627776 _ _ (λb z=>⟨_,⟨rfl,?_⟩,⟨Y,Y,Y,O⟩,Qe⟩);rw[z];simp at G E;omega
   .simp at E⊢;omega
  .simp at G⊢;omega
 rintro b d ⟨rfl,z⟩;refine AWp.of_vc zb ?_;cases b with
 |false=>
  have nb:¬jh c:=λhp=>by have:=z.2 ⟨hp.2.1,hp.2.2.1⟩;cases this
  have rf:=no nb;refine zg (λt=>?_) (λt=>?_)
  .refine Qc zb zal ?_;refine Qbw ?_;refine Qbx ?_;exact⟨_,d,Tt,Store.Has.refl d,rf⟩
  refine zg (λp=>?_) (λp=>?_)
  .refine Qc zb zak ?_;refine Qbw ?_;refine Qbx ?_;exact⟨_,d,Tt,Store.Has.refl d,rf⟩
  refine zg (λn=>?_) (λn=>?_)
  .exact⟨_,d,Tt,Store.Has.refl d,rf⟩
  refine zg (λl=>?_) (λl=>?_)
  .refine Qc zb zao ?_;refine Qbw ?_;refine Qbw ?_;refine Qbx ?_;exact⟨_,d,Tt,Store.Has.refl d,rf⟩
  refine zg (λk=>?_) (λk=>?_)
  .exact⟨_,d,Tt,Store.Has.refl d,rf⟩
  refine zg (λj=>?_) (λj=>?_)
  .refine Qc zb zan ?_;refine Qbw ?_;refine Qbx ?_;exact⟨_,d,Tt,Store.Has.refl d,rf⟩
  refine zg (λi=>?_) (λi=>?_)
  .refine Qc zb zam ?_;refine Qbw ?_;refine Qbx ?_;exact⟨_,d,Tt,Store.Has.refl d,rf⟩
  exact⟨_,d,Tt,Store.Has.refl d,rf⟩
 |true=>
 obtain⟨v,u⟩:=z.1 rfl;refine zg (λt=>?_) (λt=>?_)
 .have t:c.K=1:=by simpa using t
  have fin:=λb=>h b;refine Qc zb zal ?_;refine Qbw ?_;refine Qbx ?_;have ok:=Cmd.ok1 t;have on:=Cmd.only1 t;refine zc7 c.N 3 _ _ (λg hb0=>?_);cases g with
  |false=>exact⟨_,d,Tt,Store.Has.refl d,no (λhp=>θ6)⟩
  |true=>
   refine ykp c.X c.Y _ _ (λw hb1=>?_);cases w with
   |false=>exact⟨_,d,Tt,Store.Has.refl d,no (λhp=>ψj)⟩
   |true=>
    have okp:c.okP:=ok.2 ⟨hb0.1 rfl,hb1.1 rfl⟩;have f:=Mi c.only c (fit on) d;rw[on]at f;refine ACalls.le ?_ (f _ ?_)
    .exact⟨AV.le_aggL ⟨Tt,Tt,Tt,Tt,AV.le_nil 1,Tt,Tt,Tt,Tt,Tt,O⟩,Tt,O⟩
    rw[<-on];refine⟨_,d,Tt,Store.Has.refl d,h _ ?_⟩;rw[decide_eq_true_iff];exact⟨λe=>⟨okp,v,u,e⟩,λhp=>hp.2.2.2⟩
 have t:c.K≠1:=by simpa using t
 refine zg (λp=>?_) (λp=>?_)
 .have p:c.K=2:=by simpa using p
  have fin:=λb=>h b;refine Qc zb zak ?_;refine Qbw ?_;refine Qbx ?_;have ok:=Cmd.ok2 p;have on:=Cmd.only2 p;refine ni c.U y _ _ (λg hb0=>?_);cases g with
  |false=>exact⟨_,d,Tt,Store.Has.refl d,no (λhp=>θ6)⟩
  |true=>
   refine f0 c.T _ _ (λw hb1=>?_);cases w with
   |false=>exact⟨_,d,Tt,Store.Has.refl d,no (λhp=>ψj)⟩
   |true=>
    have okp:c.okP:=ok.2 ⟨hb0.1 rfl,hb1.1 rfl⟩;have f:=Mi c.only c (fit on) d;rw[on]at f;refine ACalls.le ?_ (f _ ?_)
    .exact⟨AV.le_aggL ⟨Tt,Tt,Tt,Tt,Tt,Tt,Tt,Tt,Tt,Tt,O⟩,Tt,O⟩
    rw[<-on];refine⟨_,d,Tt,Store.Has.refl d,h _ ?_⟩;rw[decide_eq_true_iff];exact⟨λe=>⟨okp,v,u,e⟩,λhp=>hp.2.2.2⟩
 have p:c.K≠2:=by simpa using p
 refine zg (λn=>?_) (λn=>?_)
 .have n:c.K=3:=by simpa using n
  have fin:=λb=>h b;have ok:=Cmd.ok3 n;have on:=Cmd.only3 n;refine ni c.U y _ _ (λg hb0=>?_);cases g with
  |false=>exact⟨_,d,Tt,Store.Has.refl d,no (λhp=>by have:=hb0.2 (ok.1 hp.1);cases this)⟩
  |true=>
   have okp:c.okP:=ok.2 (hb0.1 rfl);have f:=Mi c.only c (fit on) d;rw[on]at f;refine ACalls.le ?_ (f _ ?_)
   .exact⟨AV.le_aggL ⟨Tt,Tt,Tt,Tt,Tt,Tt,Tt,Tt,Tt,Tt,O⟩,Tt,O⟩
   rw[<-on];refine⟨_,d,Tt,Store.Has.refl d,h _ ?_⟩;rw[decide_eq_true_iff];exact⟨λe=>⟨okp,v,u,e⟩,λhp=>hp.2.2.2⟩
 have n:c.K≠3:=by simpa using n
 refine zg (λl=>?_) (λl=>?_)
 .have l:c.K=4:=by simpa using l
  have fin:=λb=>h b;refine Qc zb zao ?_;refine Qbw ?_;refine Qbw ?_;refine Qbx ?_;have ok:=Cmd.ok4 l;have on:=Cmd.only4 l;refine f0 c.T _ _ (λg hb0=>?_);cases g with
  |false=>exact⟨_,d,Tt,Store.Has.refl d,no (λhp=>θ6)⟩
  |true=>
   refine zg (λD=>?_) (λD=>⟨_,d,Tt,Store.Has.refl d,no (λhp=>by have:=(ok.1 hp.1).2;simp at D;omega)⟩);refine zg (λC=>?_) (λC=>⟨_,d,Tt,Store.Has.refl d,no (λhp=>by have:=(ok.1 hp.1).2;simp at C;omega)⟩);refine zg (λB=>?_) (λB=>⟨_,d,Tt,Store.Has.refl d,no (λhp=>by have:=(ok.1 hp.1).2;simp at B;omega)⟩);refine zg (λA=>?_) (λA=>⟨_,d,Tt,Store.Has.refl d,no (λhp=>by have:=(ok.1 hp.1).2;simp at A;omega)⟩);have okp:c.okP:=ok.2 ⟨hb0.1 rfl,by simp at D C;omega,by simp at B A;omega⟩;have f:=Mi c.only c (fit on) d;rw[on]at f;refine ACalls.le ?_ (f _ ?_)
   .exact⟨AV.le_aggL ⟨Tt,Tt,Tt,Tt,AV.le_nil 1,Tt,Tt,Tt,Tt,Tt,O⟩,Tt,O⟩
   rw[<-on];refine⟨_,d,Tt,Store.Has.refl d,h _ ?_⟩;rw[decide_eq_true_iff];exact⟨λe=>⟨okp,v,u,e⟩,λhp=>hp.2.2.2⟩
 have l:c.K≠4:=by simpa using l
 refine zg (λk=>?_) (λk=>?_)
 .have k:c.K=5:=by simpa using k
  have fin:=λb=>h b;have ok:=Cmd.ok5 k;have on:=Cmd.only5 k;refine nk c.N _ _ (λg hb0=>?_);cases g with
  |false=>exact⟨_,d,Tt,Store.Has.refl d,no (λhp=>by have:=hb0.2 (ok.1 hp.1);cases this)⟩
  |true=>
   have okp:c.okP:=ok.2 (hb0.1 rfl);have f:=Mi c.only c (fit on) d;rw[on]at f;refine ACalls.le ?_ (f _ ?_)
   .exact⟨AV.le_aggL ⟨Tt,Tt,Tt,Tt,AV.le_nil 1,Tt,Tt,Tt,Tt,Tt,O⟩,Tt,O⟩
   rw[<-on];refine⟨_,d,Tt,Store.Has.refl d,h _ ?_⟩;rw[decide_eq_true_iff];exact⟨λe=>⟨okp,v,u,e⟩,λhp=>hp.2.2.2⟩
 have k:c.K≠5:=by simpa using k
 refine zg (λj=>?_) (λj=>?_)
 .have j:c.K=6:=by simpa using j
  have fin:=λb=>h b;refine Qc zb zan ?_;refine Qbw ?_;refine Qbx ?_;have ok:=Cmd.ok6 j;have on:=Cmd.only6 j;refine ni c.U y _ _ (λg hb0=>?_);cases g with
  |false=>exact⟨_,d,Tt,Store.Has.refl d,no (λhp=>θ6)⟩
  |true=>
   refine nk c.N _ _ (λw hb1=>?_);cases w with
   |false=>exact⟨_,d,Tt,Store.Has.refl d,no (λhp=>ψj)⟩
   |true=>
    have okp:c.okP:=ok.2 ⟨hb0.1 rfl,hb1.1 rfl⟩;have f:=Mi c.only c (fit on) d;rw[on]at f;refine ACalls.le ?_ (f _ ?_)
    .exact⟨AV.le_aggL ⟨Tt,Tt,Tt,Tt,Tt,Tt,Tt,Tt,Tt,Tt,O⟩,Tt,O⟩
    rw[<-on];refine⟨_,d,Tt,Store.Has.refl d,h _ ?_⟩;rw[decide_eq_true_iff];exact⟨λe=>⟨okp,v,u,e⟩,λhp=>hp.2.2.2⟩
 have j:c.K≠6:=by simpa using j
 refine zg (λi=>?_) (λi=>?_)
 .have i:c.K=7:=by simpa using i
  have fin:=λb=>h b;refine Qc zb zam ?_;refine Qbw ?_;refine Qbx ?_;have ok:=Cmd.ok7 i;have on:=Cmd.only7 i;refine nk c.N _ _ (λg hb0=>?_);cases g with
  |false=>exact⟨_,d,Tt,Store.Has.refl d,no (λhp=>θ6)⟩
  |true=>
   refine f0 c.T _ _ (λw hb1=>?_);cases w with
   |false=>exact⟨_,d,Tt,Store.Has.refl d,no (λhp=>ψj)⟩
   |true=>
    have okp:c.okP:=ok.2 ⟨hb0.1 rfl,hb1.1 rfl⟩;have f:=Mi c.only c (fit on) d;rw[on]at f;refine ACalls.le ?_ (f _ ?_)
    .exact⟨AV.le_aggL ⟨Tt,Tt,Tt,Tt,AV.le_nil 1,Tt,Tt,Tt,Tt,Tt,O⟩,Tt,O⟩
    rw[<-on];refine⟨_,d,Tt,Store.Has.refl d,h _ ?_⟩;rw[decide_eq_true_iff];exact⟨λe=>⟨okp,v,u,e⟩,λhp=>hp.2.2.2⟩
 have i:c.K≠7:=by simpa using i
 exact⟨_,d,Tt,Store.Has.refl d,no (λhp=>Cmd.ok0 t p n l k j i hp.1)⟩
def zgz(c:Cmd)(p:c.fits)(st:Store)(R:Ja)(h:∀b:Bool,(b=true↔jh c)->R (bool b) st):Jb 122 [.agg (yg c)] st R:=by
 refine Qy 65 func122 ?_;refine yk7 c p _ _ (λb hb=>?_);have no:¬jh c->R (bool false) st:=λhn=>h false θ2;cases b with
 |false=>exact⟨_,st,Tt,Store.Has.refl st,no (λa=>by have:=hb.2 a.1;cases this)⟩
 |true=>
  refine G7 c.P 1 8 _ _ (λv l=>?_);cases v with
  |false=>exact⟨_,st,Tt,Store.Has.refl st,no (λa=>by have:=l.2 a.2.1;cases this)⟩
  |true=>
   refine G7 c.S 0 1099511627776 _ _ (λu k=>?_);cases u with
   |false=>exact⟨_,st,Tt,Store.Has.refl st,no (λa=>by have:=k.2 a.2.2.1;cases this)⟩
   |true=>
    have n:c.only.P=c.P/\c.only.S=c.S/\c.only.K=c.K/\(c.only.U=c.U\/c.only.U=[]):=by
     unfold Cmd.only;repeat' split
     all_goals exact⟨rfl,rfl,rfl,φ⟩
    refine zg (λj=>?_) (λj=>⟨_,st,Tt,Store.Has.refl st,no (λa=>by rw[a.2.2.2]at j;simp at j)⟩);refine zg (λd=>?_) (λd=>⟨_,st,Tt,Store.Has.refl st,no (λa=>by rw[a.2.2.2]at d;simp at d)⟩);refine zg (λi=>?_) (λi=>⟨_,st,Tt,Store.Has.refl st,no (λa=>by rw[a.2.2.2]at i;simp at i)⟩);refine zg (λg=>?_) (λg=>⟨_,st,Tt,Store.Has.refl st,no (λa=>by rw[a.2.2.2]at g;simp at g)⟩);refine zg (λf=>?_) (λf=>⟨_,st,Tt,Store.Has.refl st,no (λa=>by rw[a.2.2.2]at f;simp at f)⟩);refine⟨_,st,Tt,Store.Has.refl st,h _ ?_⟩;rw[zj,zj];constructor
    .intro o;refine⟨hb.1 rfl,l.1 rfl,k.1 rfl,?_⟩;have t:c.only.U=c.U:=by
      rcases n.2.2.2 with e|e
      .exact e
      .rw[e]at o;simp at o;rw[e,eq_comm,<-List.length_eq_zero_iff];omega
     simp only[beq_iff_eq,Fay,and_true]at j d i g f;exact Cmd.eq_of n.1 n.2.1 n.2.2.1 j t i g f d.1 d.2
    .intro a;rw[a.2.2.2];simp
def ym8(n:Int)(st:Store)(R:Ja)(h:∀z:Bool,(z=true↔vd n)->R (bool z) st):Jb 181 [int n] st R:=by
 refine Qy 9 func181 ?_;repeat' (first|refine bcd (λ_=>?_) (λ_=>?_)|refine zg (λ_=>?_) (λ_=>?_)|refine Qd ?_|fail)
 all_goals
  refine ret (h _ ?_);unfold vd;simp only[decide_eq_true_eq,false_iff,reduceCtorEq]at*;omega
def zad(n:Int)(st:Store)(R:Ja)(h:∀z:Bool,(z=true↔1<=n/\n<=128)->R (bool z) st):Jb 129 [int n] st R:=by
 refine Qy 9 func129 ?_;repeat' (first|refine bcd (λ_=>?_) (λ_=>?_)|refine zg (λ_=>?_) (λ_=>?_)|refine Qd ?_|fail)
 all_goals
  refine ret (h _ ?_);simp only[decide_eq_true_eq,false_iff,reduceCtorEq]at*;omega
def ylf(n a:Int)(st:Store)(R:Ja)(h:∀z:Bool,(z=true↔0<=n/\n<=a)->R (bool z) st):Jb 100 [int n,int a] st R:=by
 refine Qy 12 func100 ?_;repeat' (first|refine bcd (λ_=>?_) (λ_=>?_)|refine zg (λ_=>?_) (λ_=>?_)|refine Qd ?_|fail)
 all_goals
  refine ret (h _ ?_);simp only[decide_eq_true_eq,false_iff,reduceCtorEq]at*;omega
def yko(p:Vc)(st:Store)(R:Ja)(h:∀z:Bool,(z=true↔qv p.1 p.2)->R (bool z) st):Jb 282 [.agg (zr p)] st R:=by
 refine Qy 21 func282 ?_;repeat' (first|refine bcd (λ_=>?_) (λ_=>?_)|refine zg (λ_=>?_) (λ_=>?_)|refine Qd ?_|fail)
 all_goals
  refine ret (h _ ?_);unfold qv;simp only[decide_eq_true_eq,false_iff,reduceCtorEq]at*;omega
def zhu(b:Bld)(st:Store)(R:Ja)(h:∀z:Bool,(z=true↔yh b)->R (bool z) st):Jb 266 [.agg (zk b)] st R:=by
 refine Qy 41 func266 ?_;repeat' (first|refine bcd (λ_=>?_) (λ_=>?_)|refine zg (λ_=>?_) (λ_=>?_)|refine Qd ?_|fail)
 all_goals
  refine ret (h _ ?_);unfold yh;simp only[decide_eq_true_eq,Fan,false_iff,true_iff,beq_iff_eq,bne_iff_ne,ne_eq,reduceCtorEq]at*;omega
def zac(b:Bld)(st:Store)(R:Ja)(h:∀z:Bool,(z=true↔yh b)->R (bool z) st):Jb 170 [.agg (zk b)] st R:=by
 refine Qy 41 func170 ?_;repeat' (first|refine bcd (λ_=>?_) (λ_=>?_)|refine zg (λ_=>?_) (λ_=>?_)|refine Qd ?_|fail)
 all_goals
  refine ret (h _ ?_);unfold yh;simp only[decide_eq_true_eq,Fan,false_iff,true_iff,beq_iff_eq,bne_iff_ne,ne_eq,reduceCtorEq]at*;omega
def zhn(g:Gnd)(b:Bld)(a:zt g)(hb:yh b)(st:Store)(R:Ja)(h:∀z:Bool,(z=true↔onP g b)->R (bool z) st):Jb 267 [.agg (zq g),.agg (zk b)] st R:=by
 obtain⟨f,e,_,_⟩:=a;obtain⟨_,_,d,c⟩:=hb;refine Qy 33 func267 ?_;repeat' (first|refine bcd (λ_=>?_) (λ_=>?_)|refine zg (λ_=>?_) (λ_=>?_)|refine Qd ?_|fail)
 all_goals
  refine ret (h _ ?_);unfold onP;simp only[decide_eq_true_eq,false_iff,reduceCtorEq]at*;omega
def zbm(g:Gnd)(b:Bld)(a:zt g)(hb:yh b)(st:Store)(R:Ja)(h:∀z:Bool,(z=true↔onP g b)->R (bool z) st):Jb 171 [.agg (zq g),.agg (zk b)] st R:=by
 obtain⟨f,e,_,_⟩:=a;obtain⟨_,_,d,c⟩:=hb;refine Qy 47 func171 ?_;repeat' (first|refine bcd (λ_=>?_) (λ_=>?_)|refine zg (λ_=>?_) (λ_=>?_)|refine Qd ?_|fail)
 all_goals
  refine ret (h _ ?_);unfold onP;simp only[decide_eq_true_eq,Fan,false_iff,true_iff,beq_iff_eq,bne_iff_ne,ne_eq,reduceCtorEq]at*;omega
def W4(g:Gnd)(t:Int)(a:zt g)(st:Store)(R:Ja)(h:∀z:Bool,(z=true↔0<=t/\t<g.W*g.H)->R (bool z) st):Jb 72 [.agg (zq g),int t] st R:=by
 have hm:=qg a;refine Qy 16 func72 ?_;repeat' (first|refine bcd (λ_=>?_) (λ_=>?_)|refine zg (λ_=>?_) (λ_=>?_)|refine Qd ?_|fail)
 all_goals
  refine ret (h _ ?_);simp only[decide_eq_true_eq,false_iff,reduceCtorEq]at*;omega
def Pe(g:Gnd)(t:Int)(a:zt g)(st:Store)(R:Ja)(h:∀z:Bool,(z=true↔0<=t/\t<g.W*g.H)->R (bool z) st):Jb 102 [.agg (zq g),int t] st R:=by
 have hm:=qg a;refine Qy 16 func102 ?_;repeat' (first|refine bcd (λ_=>?_) (λ_=>?_)|refine zg (λ_=>?_) (λ_=>?_)|refine Qd ?_|fail)
 all_goals
  refine ret (h _ ?_);simp only[decide_eq_true_eq,false_iff,reduceCtorEq]at*;omega
def zh0(g:Gnd)(t:Int)(a:zt g)(st:Store)(R:Ja)(h:∀z:Bool,(z=true↔Ak g t)->R (bool z) st):Jb 182 [.agg (zq g),int t] st R:=by
 refine Qy 12 func182 ?_;repeat' (first|refine bcd (λ_=>?_) (λ_=>?_)|refine zg (λ_=>?_) (λ_=>?_)|refine Qd ?_|(refine W4 _ _ a _ _ ?_;rintro(_|_) b)|fail)
 all_goals
  refine ret (h _ ?_);unfold Ak;simp only[false_iff,true_iff,reduceCtorEq]at*;omega
def yov(g:Gnd)(l:List Bld)(st:Store)(R:Ja)(h:∀z:Bool,(z=true↔Γ g.T>700\/Γ l>30)->R (bool z) st):Jb 99 [.agg (zq g),lst 6 zk l] st R:=by
 refine Qy 14 func99 ?_;repeat' (first|refine bcd (λ_=>?_) (λ_=>?_)|refine zg (λ_=>?_) (λ_=>?_)|refine Qd ?_|fail)
 all_goals
  refine ret (h _ ?_);simp only[decide_eq_true_eq,true_iff,zj]at*;omega
def yu9(w:Wld)(u:Unt)(b:zt w.G)(st:Store)(R:Ja)(h:∀z:Bool,(z=true↔k9 w u)->R (bool z) st):Jb 108 [.agg (zo w),.agg (zf u)] st R:=by
 refine Qy 90 func108 ?_;repeat' (first|refine bcd (λ_=>?_) (λ_=>?_)|refine zg (λ_=>?_) (λ_=>?_)|refine Qd ?_|(refine ym8 u.kind _ _ ?_;rintro(_|_) a)|(refine zh0 w.G u.goal b _ _ ?_;rintro(_|_) a)|(refine zh0 w.G u.next b _ _ ?_;rintro(_|_) a)|fail)
 all_goals
  refine ret (h _ ?_);simp only[decide_eq_true_eq,Fan,false_iff,true_iff,beq_iff_eq,bne_iff_ne,ne_eq,reduceCtorEq,k9,vd,Ak]at*;first|omega|(clear h;rcases Decidable.em (u.state=1)with d|d<;>rcases Decidable.em (u.goal=-1)with c|c<;>simp[bne,zhw,d,c]at*<;>omega)
def ymm(l:List UInt8)(hl:Γ l<=1000000000000)(c:0<Γ l)(st:Store)(R:Ja)(h:∀m:UInt8,m∈l->(∀t∈l,t.toNat<=m.toNat)->R (u8 m) st):Jb 130 [yn l] st R:=by
 refine Qy 25 func130 ?_;refine zg (λe=>?_) (λe=>?_)
 .grind[zj]
 refine⟨0,rfl,J _ (zm c) ?_⟩
 refine AWp.loop (σ:=Nat×UInt8) ⟨λs=>[(0,.av (yn l)),(3,.av (u8 s.2)),(4,.av (int (s.1:Nat)))],λ_=>[],
  λs b=>(1<=s.1/\s.1<=Γ l)/\b=st/\s.2∈l/\∀t∈l.take s.1,t.toNat<=s.2.toNat,λs=>Γ l-s.1⟩ zb ?_ ?_
 .refine⟨(1,l[0]),O,⟨⟨Fai _,c⟩,rfl,Faa c,λt k=>?_⟩,Qbt,O⟩;have:l.take 1=[l[0]]:=by
   cases l with
   |nil=>grind
   |cons a l=>rfl
  grind
 .rintro⟨i,m⟩ b ⟨⟨f,j⟩,rfl,hm,hall⟩;simp only at f j hm hall;refine zg (λe=>?_) (λe=>?_)
  .have d:i<Γ l:=ql e;refine⟨i,rfl,J _ (zm d) ?_⟩;refine⟨⟨Z,Z⟩,?_⟩;have hmax:max2 (m.toNat:Int) (l[i].toNat:Int)=((if l[i].toNat>m.toNat then l[i]else m:UInt8).toNat:Int):=by
    unfold max2;grind
   refine⟨(i+1,if l[i].toNat>m.toNat then l[i]else m),?_,⟨⟨Z,d⟩,rfl,?_,λt k=>?_⟩,⟨Y,?_,Y,O⟩,O⟩
   .grind
   .grind
   .grind[List.take_succ_eq_append_getElem]
   .show LV.le (.av (.s (.int .u8 (max2 (m.toNat:Int) (l[i].toNat:Int))))) _;rw[hmax];exact Y
  .have g:i=Γ l:=qr e j;subst g;rw[Fal]at hall;exact⟨_,b,Tt,Store.Has.refl b,h m hm hall⟩
def nt(g:Gnd)(i:g.fits)(st:Store)(R:Ja)(h:∀b:Bool,(b=true↔zt g)->R (bool b) st):Jb 68 [.agg (zq g)] st R:=by
 refine Qy 28 func68 ?_;refine zad g.W _ _ (λb hb=>?_);cases b with
 |false=>
  refine⟨_,st,Tt,Store.Has.refl st,h _ ?_⟩;simp only[Fan,false_iff]at hb⊢;exact λc=>hb c.1
 |true=>
  refine zad g.H _ _ (λj a=>?_);cases j with
  |false=>
   refine⟨_,st,Tt,Store.Has.refl st,h _ ?_⟩;simp only[Fan,false_iff]at a⊢;exact λc=>a c.2.1
  |true=>
   have hm:=Nb (hb.1 rfl) (a.1 rfl);refine⟨⟨Z,Z⟩,?_⟩;refine zg (λd=>⟨_,st,Tt,Store.Has.refl st,h _ ?_⟩) (λd=>?_)
   .rw[zj]at d;simp only[Fan,false_iff];intro c;have:=c.2.2.1;grind
   .rw[zj]at d;have d:(Γ g.T:Int)=g.W*g.H:=by grind
    refine ymm g.T i Z _ _ (λm e f=>?_);refine⟨_,st,Tt,Store.Has.refl st,h _ ?_⟩;rw[decide_eq_true_iff];constructor
    .intro l;refine⟨hb.1 rfl,a.1 rfl,d,λt k=>?_⟩;grind
    .intro c;have:=c.2.2.2 m e;omega
def ze1(g:Gnd)(A:g.fits)(st:Store)(R:Ja)(h:∀b:Bool,(b=true↔zt g)->R (bool b) st):Jb 19 [.agg (zq g)] st R:=by
 refine Qy 46 func19 ?_;have no:¬zt g->R (bool false) st:=λhn=>h false θ2;refine zg (λz=>⟨_,st,Tt,Store.Has.refl st,no ?_⟩) (λz=>?_)
 .intro c;have:=c.1;grind
 refine zg (λy=>⟨_,st,Tt,Store.Has.refl st,no ?_⟩) (λy=>?_)
 .intro c;have:=c.1;grind
 refine zg (λw=>⟨_,st,Tt,Store.Has.refl st,no ?_⟩) (λw=>?_)
 .intro c;have:=c.2.1;grind
 refine zg (λv=>⟨_,st,Tt,Store.Has.refl st,no ?_⟩) (λv=>?_)
 .intro c;have:=c.2.1;grind
 have n:1<=g.W/\g.W<=128:=δ;have o:1<=g.H/\g.H<=128:=δ;have hm:=Nb n o;refine⟨⟨Z,Z⟩,?_⟩;refine zg (λf=>⟨_,st,Tt,Store.Has.refl st,no ?_⟩) (λf=>?_)
 .rw[zj]at f;intro c;have:=c.2.2.1;grind
 rw[zj]at f;have f:(Γ g.T:Int)=g.W*g.H:=δ
 refine AWp.loop (σ:=Nat) ⟨λi=>[(1,.bx 1 0),(3,.av (int (i:Nat)))],λ_=>[(1,zq g)],
  λi a=>i<=Γ g.T/\a=st/\∀t∈g.T.take i,t.toNat<=5,λi=>Γ g.T-i⟩ zb ?_ ?_
 .exact⟨0,O,⟨Fae _,rfl,λt l=>by simp at l⟩,⟨Y,Y,O⟩,Qe⟩
 .rintro i a ⟨p,rfl,d⟩;refine zg (λk=>?_) (λk=>?_)
  .have e:i<Γ g.T:=ql k;refine⟨i,rfl,J _ (zm e) ?_⟩;refine zg (λu=>⟨_,a,Tt,Store.Has.refl a,no ?_⟩) (λu=>?_)
   .intro c;have:=c.2.2.2 _ (Faa e);grind
   .refine⟨⟨Z,Z⟩,?_⟩;refine⟨i+1,?_,⟨e,rfl,λt l=>?_⟩,⟨Y,Y,O⟩,Qe⟩
    .grind
    grind[List.take_succ_eq_append_getElem]
  .have j:i=Γ g.T:=qr k p;subst j;rw[Fal]at d;exact⟨_,a,Tt,Store.Has.refl a,h true (by simpa using⟨n,o,f,d⟩)⟩
end Go.Proofs
