/- Ground of laws of thronglaw25: contracts and plain lemmas; no condition beyond the row's own. -/
import Derived.Test.YthjfdaifoocijaaGreatKG
import Derived.Test.YthjfdaifoocijaaGreatKD
set_option linter.unusedSimpArgs false
set_option linter.unusedVariables false
set_option linter.defProp false
namespace Go.Proofs
open Go Go.V
set_option maxRecDepth 20000
set_option maxHeartbeats 4000000
def Qbo(a n:Nat):List Nat:=List.range' a n
abbrev Qbp:=V.Sched.e
abbrev Zs:=V.Sched.stop
abbrev Zd:=V.Sched.done
abbrev Qs(i:Nat)(c:List Nat)(r:V.Sched):=V.Sched.e i c r .stop
abbrev Ql(i:Nat)(r:V.Sched):=V.Sched.e i [] r .stop
def zvs:=sv [0,1,2,3,4] (Qbp 5 [] (sv [6,7,8,9] (Qs 10 [0,1,2,3,4,6,7,8,9] (Ql 11 (Ql 12 (Ql 13 Zd))))) (Qs 10 [0,1,2,3,4] (Ql 5 (sv [6,7,8,9] (Ql 11 (Ql 12 (Ql 13 Zd)))))))
def zvr:=sv [0,2] (Qs 1 [2] (Ql 3 (sv [4] (Ql 5 (sv [6] (Ql 7 Zd))))))
def zvl:=sv (Qbo 0 13) (Ql 13 Zd)
def p7:=sv (Qbo 0 25) (Ql 25 (sv [26,27,28,29,30,31,32,35,36,37,38,39,40] (Qs 33 [36,40] (sv [34] (Qs 41 [34] (sv (Qbo 42 19) Zd))))))
def zxq:=sv [0,1,3,4] (Qs 2 [4] (Ql 5 (sv [6] (Ql 7 Zd))))
def zxp:=sv (Qbo 0 11) (Qs 11 (Qbo 0 11) (Ql 12 Zd))
def zws:=sv (Qbo 0 18) (Qs 18 [15,16] (Ql 19 Zd))
def zwk:=sv (Qbo 0 10) (Qbp 10 [] (sv [11,12,13] (Qs 14 [0,1,2,3,4,5,6,7,8,9,11,12,13] (Ql 15 (Ql 16 Zd)))) (Qs 14 (Qbo 0 10) (Ql 10 (sv [11,12,13] (Ql 15 (Ql 16 Zd))))))
def zwm:=sv [0,1,2,3,4] (Qs 5 [1] (sv [6,7] (Ql 8 (Ql 9 Zd))))
def zwl:=sv [0,1,2,3,4,6,7,8,9] (Qs 5 [9] (Ql 10 (sv [11,12] (Ql 13 Zd))))
def zwj:=sv [0,1,2,3,4] (Qbp 5 [] (sv [6,7,8] (Qs 9 [0,1,2,3,4,6,7,8] (Ql 10 (Ql 11 Zd)))) (Qs 9 [0,1,2,3,4] (Ql 5 (sv [6,7,8] (Ql 10 (Ql 11 Zd))))))
def zwh:=sv (Qbo 0 9) Zd
def zwe:=sv [0,1,2,3,4,5,6,7] (Ql 8 (sv [9] Zd))
def zwd:=sv [0,1] (Ql 2 (sv [3,4,5,6,7] (Ql 8 (sv (Qbo 9 17) Zd))))
def zv0:=sv (Qbo 0 20) Zd
def zv2:=sv (Qbo 0 51) (Ql 51 (sv (Qbo 52 12) (Ql 64 (sv (Qbo 65 23) Zd))))
def zv1:=sv (Qbo 0 9) Zd
def zvz:=sv (Qbo 0 17) (Qs 17 [10,12,14] (sv [18] (Ql 19 (sv [20,21] Zd))))
def zvx:=sv (Qbo 0 11) (Qs 11 (Qbo 0 11) (Ql 12 Zd))
def zvw:=sv (Qbo 0 9) (Ql 9 Zd)
def zvy:=sv [0,1,2,3,4] (Ql 5 Zd)
def zvv:=sv (Qbo 0 9) Zd
def zvu:=sv (Qbo 0 9) Zd
def zvt:=sv [0,1,2,3,5,6,7,8] (Qs 4 [6,8] (Ql 9 (sv [10] (Ql 11 Zd))))
def zvq:=sv [0,1,3,4,6,7] (Qs 2 [4,7] (sv [9] (Qs 5 [7] (Ql 8 (Ql 10 (sv [11] (Ql 12 (sv [13] (Ql 14 Zd)))))))))
def zvp:=sv [0,3,4] (Qs 1 [3] (Qs 2 [3] (sv [5] (Ql 6 (Ql 7 Zd)))))
def zvo:=sv [0,1,2,3,4,5,6,7] (Qs 8 [1] (sv [9] (Ql 10 Zd)))
def zvn:=sv [0,1,2,3,4,5,6,7] (Ql 8 (Ql 9 Zd))
def zvm:=sv (Qbo 0 9) Zd
def pu:=sv [0] (Qs 1 [0] (sv [2] (Ql 3 (Ql 4 Zd))))
def pt:=sv [0,1,2,3,4,5,6,7] (Ql 8 Zd)
def pr:=sv [0,1,2,3,4,5,6,7,9,10,11] (Qs 8 [4,9,11] (Ql 12 (sv [13] Zd)))
def pq:=sv (Qbo 0 12) (Qs 12 [5,7,9] (sv [13] (Ql 14 (sv [15,16] Zd))))
def zvk:=sv [0,1,2,3,4,5,6,7,8,9,10,11,12,13,15,16] (Qbp 14 [16] (Qs 17 [13] (sv [18,19,20] Zd)) (Qs 17 [13] (sv [18] (Qs 14 [16] (sv [19,20] Zd)))))
def zvi:=sv [0,1,2,3] (Ql 4 (sv [5,6,7,8,9,10,11] (Ql 12 (sv [13,14,15,16,17,18,19,20] (Ql 21 (sv [22,23] Zd))))))
def zvj:=sv [0,1,2,3,4,5,6,7] (Ql 8 Zd)
def zvh:=sv [0,1,3,4] (Qs 2 [4] (Ql 5 (sv [6] (Ql 7 Zd))))
def zvg:=sv [0,1,2,3,5,6,7,8] (Qs 4 [6,8] (Ql 9 (sv [10] (Ql 11 Zd))))
def zvf:=sv [0,1,2,3,4,5,6] (Ql 7 (sv [8,9,10] (Ql 11 (Ql 12 Zd))))
def zve:=sv [0,1,2,3,4,5,6,7] (Ql 8 Zd)
def zvd:=sv [0,1,2,3,4,5,6,7] (Ql 8 Zd)
def zvc:=sv [0,1,2,3,4,5] (Ql 6 Zd)
def zvb:=sv (Qbo 0 9) Zd
def yaa:=sv (Qbo 0 11) (Qs 11 [0] (sv [12,13] (Ql 14 Zd)))
def zz9:=sv [0,1,2,3,4,5] (Qs 6 [0] (sv [7] (Ql 8 (Ql 9 Zd))))
def rb:=sv [0,1,2,3,4] (Qs 5 [3] (sv [6] (Ql 7 Zd)))
def ra:=sv [0,1,2,3,4] (Qs 5 [3] (sv [6] (Ql 7 Zd)))
def rh:=sv [0,1,2,3,4,5,6] (Qs 7 [3,5] (sv [8] (Qs 9 [5] (sv [10] (Ql 11 Zd)))))
def rd:=sv [0,1,2,3,4] (Qs 5 [3] (sv [6] (Ql 7 Zd)))
def rc:=sv [0,1,2,3,4] (Qs 5 [3] (sv [6] (Ql 7 Zd)))
def zz8:=sv [0,1,2,3,4,5,6] (Ql 7 (sv [8] Zd))
def zz7:=sv (Qbo 0 17) (Ql 17 (sv [18,19] (Ql 20 Zd)))
def zz6:=sv [0,1,2,3,4,5] (Ql 6 (sv [7] Zd))
def zz4:=sv [0,1,2,3] (Ql 4 (Ql 5 Zd))
def zz3:=sv (Qbo 0 12) (Qs 12 [3] (sv [13] (Ql 14 Zd)))
def zz5:=sv (Qbo 0 17) (Ql 17 (Ql 18 Zd))
def zz2:=sv [0,1,2,3,4,5,6,7] (Ql 8 (Ql 9 Zd))
def zz0:=sv (Qbo 0 21) (Qs 21 (Qbo 0 21) (Ql 22 Zd))
def zzz:=sv [0,1,2,3,4,5] (Ql 6 (sv [7,8,9] (Ql 10 (Ql 11 Zd))))
def zz1:=sv (Qbo 0 10) (Qs 10 [4,7] (sv [11] (Ql 12 (sv [13] Zd))))
def zzy:=sv (Qbo 0 11) Zd
def zzx:=sv (Qbo 0 11) Zd
def zzw:=sv [0,1,2,3,4,5,6] (Ql 7 (sv [8,9,10,11,12] (Ql 13 Zd)))
def zzv:=sv [0,1,2,3] (Ql 4 (Ql 5 Zd))
def zzr:=sv (Qbo 0 9) (Qbp 9 [3] (sv [10,11] (Qs 12 [0,1,2,3,4,5,6,7,8,10,11] (Ql 13 Zd))) (Qs 12 (Qbo 0 9) (Qs 9 [3] (sv [10,11] (Ql 13 Zd)))))
def zzq:=sv (Qbo 0 10) (Ql 10 (Ql 11 Zd))
def zzu:=sv (Qbo 0 12) (Qbp 12 [3] (sv [13,14] (Qs 15 [0,1,2,3,4,5,6,7,8,9,10,11,13,14] (Ql 16 Zd))) (Qs 15 (Qbo 0 12) (Qs 12 [3] (sv [13,14] (Ql 16 Zd)))))
def zzt:=sv [0,1,2,3,4,7,8,9,11,12] (Qs 5 [8,9,12] (sv [6,10] (Qs 13 [8,9,6] (sv [14,15] Zd))))
def zzs:=sv (Qbo 0 12) (Qs 12 [3] (sv [13] (Ql 14 Zd)))
def zzp:=sv [0,1,2,3] (Ql 4 (Ql 5 Zd))
def zzl:=sv [0,1,2,3,4,5] (Ql 6 (sv [7] Zd))
def zzk:=sv (Qbo 0 9) (Qbp 9 [3] (sv [10,11] (Qs 12 [0,1,2,3,4,5,6,7,8,10,11] (Ql 13 Zd))) (Qs 12 (Qbo 0 9) (Qs 9 [3] (sv [10,11] (Ql 13 Zd)))))
def zzj:=sv [0,1,2,3,4,5,7,8] (Qs 6 [8] (Ql 9 Zd))
def zzi:=sv [0,1,2,3,4] (Ql 5 (Ql 6 Zd))
def zzo:=sv (Qbo 0 11) (Qs 11 [3] (sv [12] (Ql 13 Zd)))
def zzn:=sv (Qbo 0 14) (Ql 14 (Ql 15 Zd))
def zzm:=sv (Qbo 0 19) (Qs 19 [2,6,10] (Ql 20 Zd))
def zzb:=sv [0,1,3,4,5] (Qbp 2 [4] (Qbp 6 [] (Qs 7 [0,1,3,4,5] (Ql 8 Zd)) (Qs 7 [0,1,3,4,5] (Ql 6 (Ql 8 Zd)))) (Qs 7 [0,1,3,4,5] (Qs 2 [4] (Ql 6 (Ql 8 Zd)))))
def zzh:=sv (Qbo 0 9) (Qs 9 [3] (sv [10] Zd))
def zzg:=sv [0,1,2,3,4] (Ql 5 (Ql 6 Zd))
def zzf:=sv (Qbo 0 15) (Qs 15 [9] (sv [16,17,18,19,20,21,22,23,24,25,27,28,29,30] (Qs 26 [30] (sv [31,32,33,34,35,36,37,38,39,40,41,42,43,44,46,47,48,49] (Qs 45 [49] (Ql 50 (sv [51,52,53] Zd)))))))
def zze:=sv [0,1,2,3,4,5] (Qs 6 [3] (sv [7] Zd))
def zzd:=sv [0,1,2,3,4,5,6,7,8,9,11] (Ql 10 (sv [12,13] (Ql 14 Zd)))
def zzc:=sv [0,1,2,3,4,5,6,7,8,9,10,12,13] (Qbp 11 [0,5,13] (Qbp 14 [0] (Qbp 15 [] (sv [16,17,18] (Qs 19 [0,1,2,3,4,5,6,7,8,9,10,12,13,16,17,18] (Ql 20 (Ql 21 Zd)))) (Qs 19 [0,1,2,3,4,5,6,7,8,9,10,12,13] (Ql 15 (sv [16,17,18] (Ql 20 (Ql 21 Zd)))))) (Qs 19 [0,1,2,3,4,5,6,7,8,9,10,12,13] (Qs 14 [0] (Ql 15 (sv [16,17,18] (Ql 20 (Ql 21 Zd))))))) (Qs 19 [0,1,2,3,4,5,6,7,8,9,10,12,13] (Qs 11 [0,5,13] (Qs 14 [0] (Ql 15 (sv [16,17,18] (Ql 20 (Ql 21 Zd))))))))
def zza:=sv [0,1,2,3,4,5,6] (Ql 7 (sv [8] (Ql 9 Zd)))
def zy9:=sv [0,1,2,3,4,6] (Ql 5 (Ql 7 (sv [8,9,10] (Ql 11 (Ql 12 Zd)))))
def zy8:=sv [0,1,2,3,4,5,6,7,8,9,11,12] (Qbp 10 [3,4] (Qs 13 [3,4,8,9] (Qs 14 [3,4] (Ql 15 Zd))) (Qs 13 [3,4,8,9] (Qs 10 [3,4] (Qs 14 [3,4] (Ql 15 Zd)))))
def p9:=sv [0,1,2,3,4,5] (Ql 6 Zd)
def zy7:=sv [0,1,2,3,4,5] (Qs 6 [4] (Ql 7 Zd))
def Md:=sv [0,1,2,3,4,5,6,7,8,9,10,11,12,14,15] (Ql 13 (sv [16] (Ql 17 Zd)))
def p8:=sv [0,1,2,3,4,5,6,9] (Ql 7 (sv [8] Zd))
def zy6:=sv [0,1,2,4] (Qs 3 [0,1] (Qs 5 [0,1] (sv [6] (Ql 7 (sv [8] (Ql 9 Zd))))))
def zy5:=sv (Qbo 0 12) Zd
def zy4:=sv (Qbo 0 10) (Qs 10 [7] (Ql 11 Zd))
def zy3:=sv [0,1,2,3,4,6,7,8,9,10] (Qs 5 [7] (Ql 11 (Ql 12 (Ql 13 Zd))))
def zy1:=sv [0,1,2,3,4] (Ql 5 (Ql 6 Zd))
def zy0:=sv [0,1,2,3,4] (Ql 5 Zd)
def zy2:=sv [0,1,2,3,4,5] (Ql 6 Zd)
def zyz:=sv [0,1,2,3,4,5,6,7,8,11] (Ql 9 (sv [10] Zd))
def zyy:=sv [0,1,2,3,4,5,6,11,12] (Qs 7 [0,2,4,12] (sv [8,9,10] (Qs 13 [0] (Ql 14 (Ql 15 Zd)))))
def zyx:=sv [0,1,2,3,4,5] (Qs 6 [1] (Ql 7 Zd))
def zyt:=sv [0,1,2,3,4] (Qs 5 [1] (sv [6] Zd))
def zyw:=sv [0,1,2,3,4] (Ql 5 Zd)
def zyv:=sv [0,1,2,3,4,5,6,8,9] (Qs 7 [1,3,9] (Qs 10 [1,3] (sv [11] (Qs 12 [1] (Ql 13 (sv [14] Zd))))))
def zyu:=sv [0,1,2,3,4] (Ql 5 Zd)
def zyp:=sv [0,1,2,3,4] (Qs 5 [3] (sv [6] (Ql 7 Zd)))
def zyo:=sv [0,1,2,3,4] (Qs 5 [3] (sv [6] (Ql 7 Zd)))
def zys:=sv [0,1,2,3,4,5,6] (Qs 7 [3,5] (sv [8] (Qs 9 [5] (sv [10] (Ql 11 Zd)))))
def zyr:=sv [0,1,2,3,4] (Qs 5 [3] (sv [6] (Ql 7 Zd)))
def zyq:=sv [0,1,2,3,4] (Qs 5 [3] (sv [6] (Ql 7 Zd)))
def zyn:=sv (Qbo 0 14) (Ql 14 (sv [15] (Ql 16 Zd)))
def zym:=sv (Qbo 0 36) (Qs 36 [3,7,11] (sv [37] (Qs 38 [3] (sv [39,40,41] (Ql 42 Zd)))))
def zyl:=sv (Qbo 0 13) (Ql 13 (sv [14] Zd))
def zyk:=sv (Qbo 0 13) (Qs 13 [2] (Ql 14 Zd))
def pz:=sv [0,1,2,3,4] (Ql 5 Zd)
def zyj:=sv [0,1,2,3,4] (Qs 5 [3] (Ql 6 Zd))
def zyi:=sv [0,1,2,3,4,5] (Ql 6 (sv [7] (Ql 8 Zd)))
def zyh:=sv (Qbo 0 40) (Qs 40 (Qbo 0 40) (Ql 41 Zd))
def zyg:=sv (Qbo 0 10) (Ql 10 (sv [11,12,13] (Ql 14 (Ql 15 Zd))))
def zyf:=sv (Qbo 0 18) (Ql 18 Zd)
def zye:=sv [0,1,2,3,4,5,6,7,8,9,10,11,13,14,15] (Qs 12 [0,3] (Qs 16 [0,3] (sv [17,18,19] (Ql 20 Zd))))
def zyc:=sv [0,1,4,5,6,7,8,9,10,11,12,13] (Qs 2 [7,11,13] (sv [3] (Ql 14 (sv [15,16] (Ql 17 Zd)))))
def zyd:=sv [0,1,2,3,4] (Ql 5 Zd)
def zyb:=sv (Qbo 0 13) (Ql 13 (sv [14] (Ql 15 Zd)))
def zya:=sv [0,1,2,3,4,5,6,7,8,9,10,11,12,14,15] (Qs 13 [15] (Ql 16 (Ql 17 Zd)))
def zx9:=sv [0,1,2,3,4,5,6,7,8,9,12] (Ql 10 (sv [11] Zd))
def py:=sv (Qbo 0 30) (Ql 30 (sv (Qbo 31 9) (Ql 40 (sv [41] (Ql 42 Zd)))))
def zx7:=sv [0,1,2,3,4,5,6,7] (Qs 8 [6] (Ql 9 Zd))
def zx8:=sv (Qbo 0 12) (Qs 12 [8] (Ql 13 Zd))
def zx4:=sv (Qbo 0 14) (Ql 14 (sv [15] Zd))
def zx6:=sv (Qbo 0 14) Zd
def zx5:=sv [0,1,2,4,5] (Qs 3 [4] (Ql 6 (Ql 7 Zd)))
def zx3:=sv [0,1,2,3,4,5,6,7] (Qs 8 [6] (Ql 9 Zd))
def zx2:=sv [0,1,2,3,4,5,6,7] (Qs 8 [4] (sv [9,10,11] (Ql 12 (sv [13,14,15] Zd))))
def zx1:=sv [0,1,3,4] (Qs 2 [4] (Ql 5 (sv [6] (Ql 7 Zd))))
def pw:=sv [0,1,2,3,5,6,7,8] (Qs 4 [6] (Ql 9 (sv [10] (Ql 11 Zd))))
def zx0:=sv [0,1,2,3,4,5,10,11,12] (Qs 6 [0,2,11] (sv [7,8,9] (Qs 13 [0] (Ql 14 (Ql 15 Zd)))))
def zxz:=sv (Qbo 0 16) (Qs 16 [10,14] (Ql 17 Zd))
def zxy:=sv [0,1,2,3,4,5,6,7,8,10,11,12,13,14,15,17,18,19,20,21,22] (Qs 9 [13,20] (Qs 16 [20] (Ql 23 (sv [24,25] (Ql 26 (sv [27,28] (Ql 29 (sv [30,31] (Ql 32 Zd)))))))))
def zxx:=sv (Qbo 0 12) Zd
def zxw:=sv [0,1,3,4] (Qs 2 [4] (Ql 5 (sv [6] (Ql 7 Zd))))
def zxv:=sv (Qbo 0 10) (Qs 10 [7] (Ql 11 Zd))
def zxu:=sv [0,1,2,4,5,6] (Qbp 3 [5,6] (Qbp 7 [] (sv [8] (Qbp 9 [] (Qs 10 [0,1,2,4,5,6,8] (Ql 11 Zd)) (Qs 10 [0,1,2,4,5,6,8] (Ql 9 (Ql 11 Zd))))) (Qs 10 [0,1,2,4,5,6] (Ql 7 (sv [8] (Ql 9 (Ql 11 Zd)))))) (Qs 10 [0,1,2,4,5,6] (Qs 3 [5,6] (Ql 7 (sv [8] (Ql 9 (Ql 11 Zd)))))))
def zxt:=sv [0,1,2,4,5,6] (Qbp 3 [5,6] (Qbp 7 [] (sv [8] (Qbp 9 [] (Qs 10 [0,1,2,4,5,6,8] (Ql 11 Zd)) (Qs 10 [0,1,2,4,5,6,8] (Ql 9 (Ql 11 Zd))))) (Qs 10 [0,1,2,4,5,6] (Ql 7 (sv [8] (Ql 9 (Ql 11 Zd)))))) (Qs 10 [0,1,2,4,5,6] (Qs 3 [5,6] (Ql 7 (sv [8] (Ql 9 (Ql 11 Zd)))))))
def zxs:=sv (Qbo 0 13) Zd
def zxr:=sv (Qbo 0 13) Zd
def zxo:=sv [0,1,4,5] (Qs 2 [5] (Qs 3 [5] (Ql 6 (Ql 7 (Ql 8 (Ql 9 Zd))))))
def zxn:=sv [0,1,2,3,5,6,7,8] (Qs 4 [6,8] (Ql 9 (sv [10] (Ql 11 Zd))))
def zxm:=sv [0,1,2,3,5,6,7,8] (Qs 4 [6] (Ql 9 (sv [10] (Ql 11 Zd))))
def zxl:=sv (Qbo 0 13) (Ql 13 Zd)
def zxk:=sv [0,1,2,3,4] (Ql 5 Zd)
def zxj:=sv (Qbo 0 10) (Qbp 10 [3,7] (.e 11 (Qbo 0 10) (Qs 12 (Qbo 0 10) (Ql 13 (Ql 14 Zd))) (Qs 12 (Qbo 0 10) (Qs 11 (Qbo 0 10) (Ql 13 (Ql 14 Zd))))) (.e 11 (Qbo 0 10) (Qbp 10 [3,7] (Qs 12 (Qbo 0 10) (Ql 13 (Ql 14 Zd))) (Qs 12 (Qbo 0 10) (Qs 10 [3,7] (Ql 13 (Ql 14 Zd))))) (Qs 12 (Qbo 0 10) (Qbp 10 [3,7] (Qs 11 (Qbo 0 10) (Ql 13 (Ql 14 Zd))) (Qs 11 (Qbo 0 10) (Qs 10 [3,7] (Ql 13 (Ql 14 Zd))))))))
def zxi:=sv (Qbo 0 9) (Qs 9 [5] (sv [10,11,12,13,14,15,16,17,18,19,20,21,22,23,24,25,26,27,28,29,30,31,36,37] (Qs 32 [37] (sv [33,34,35,38,39,40,41] Zd))))
def zxh:=sv [0,1,2,3,4,5,6,7] (Ql 8 (sv [9,10] (Ql 11 Zd)))
def zxg:=sv (Qbo 0 10) (Qbp 10 [3,7] (.e 11 (Qbo 0 10) (Qs 12 (Qbo 0 10) (Ql 13 (Ql 14 Zd))) (Qs 12 (Qbo 0 10) (Qs 11 (Qbo 0 10) (Ql 13 (Ql 14 Zd))))) (.e 11 (Qbo 0 10) (Qbp 10 [3,7] (Qs 12 (Qbo 0 10) (Ql 13 (Ql 14 Zd))) (Qs 12 (Qbo 0 10) (Qs 10 [3,7] (Ql 13 (Ql 14 Zd))))) (Qs 12 (Qbo 0 10) (Qbp 10 [3,7] (Qs 11 (Qbo 0 10) (Ql 13 (Ql 14 Zd))) (Qs 11 (Qbo 0 10) (Qs 10 [3,7] (Ql 13 (Ql 14 Zd))))))))
def zxf:=sv [0,1,2,3] (Qs 4 [1] (sv [5] Zd))
def zxe:=sv [0,1,2,3,4,5,6,7,8,9,10,11,12,13,14,15,16,17,18,19,20,22] (Ql 21 (sv [23,24] (Ql 25 Zd)))
def zxd:=sv [0,1,2,3,4,5,6,7,8,9,10,11,12,13,14,15,16,17,18,19,20,21,22,23,24,25,26,27,28,29,30,31,36,37,38,39] (Qs 32 [3,7,37] (sv [33,34,35] (Ql 40 (Ql 41 Zd))))
def zxc:=sv [0,2,3,4] (Qs 1 [3] (Ql 5 (Ql 6 (Ql 7 Zd))))
def zxb:=sv [0,1,2,3,4,5,6,7,8,11] (Ql 9 (sv [10] Zd))
def zxa:=sv [0,1,2,3,4,5,6,7,8,9,10,11,12,16] (Qs 13 [3] (Ql 14 (sv [15] Zd)))
def zw9:=sv (Qbo 0 13) (Qs 13 [3,7,10] (sv [14] (Ql 15 Zd)))
def zw8:=sv [0,1,2,3,4,5,6,7] (Ql 8 Zd)
def zw7:=sv [0,1,2,3,4,5] (Ql 6 (Ql 7 Zd))
def zw6:=sv [0,1,2,3,4,5,6,7,10] (Ql 8 (sv [9] Zd))
def zw5:=sv (Qbo 0 9) (Ql 9 Zd)
def zw4:=sv [0,1] (Qs 2 [0] (sv [3] (Ql 4 Zd)))
def zw3:=sv [0,1,2,3,4] (Ql 5 Zd)
def zw2:=sv (Qbo 0 9) Zd
def zw1:=sv (Qbo 0 9) Zd
def zw0:=sv [0,1,2,3] (Ql 4 (Ql 5 Zd))
def zwz:=sv (Qbo 0 10) Zd
def zwy:=sv [0,1,2,3,4,5] (Ql 6 (sv [7] Zd))
def zwx:=sv [0,1,2,3,4] (Qbp 5 [] (Qs 6 [0,1,2,3,4] (Ql 7 Zd)) (Qs 6 [0,1,2,3,4] (Ql 5 (Ql 7 Zd))))
def ci:=sv [0,1,2,3,4] (Qs 5 [0] (Ql 6 (Ql 7 Zd)))
def zww:=sv (Qbo 0 28) Zd
def zwv:=sv [0,1,2,3,4,5,7] (Qs 6 [0,7] (Ql 8 Zd))
def zwu:=sv [0,1,2,3,5,6,7,8] (Qs 4 [6,8] (Ql 9 (sv [10] (Ql 11 Zd))))
def zwt:=sv [0,1,2,3,4,5,6,7] (Qs 8 [6] (Ql 9 Zd))
def zwr:=sv [0,1,2,3,4,5,6,7] (Ql 8 Zd)
def zwq:=sv [0,1,2,3,4,5,6,7] (Qs 8 [6] (Ql 9 Zd))
def zwp:=sv [0,1,2] (Qs 3 [0] (Ql 4 Zd))
def zwo:=sv (Qbo 0 18) Zd
def zwn:=sv [0,1,2,3,4,5,7,8,9,10,11,12] (Qs 6 [9,12] (Ql 13 (sv [14] (Ql 15 Zd))))
def zwi:=sv [0,1] (Qs 2 [0] (Ql 3 (sv [4] Zd)))
def zwg:=sv [0,1,2,3,4,5] (Ql 6 (Ql 7 Zd))
def zwf:=sv [0,1,2,3,4,5,6,7] (Qs 8 [6] (Ql 9 Zd))
def zwc:=sv (Qbo 0 12) (Ql 12 Zd)
def zwb:=sv [0,1,2,3,4,5,6] (Qs 7 [0] (Ql 8 Zd))
def zwa:=sv [0,1,2] (Qs 3 [0] (sv [4,5] (Ql 6 Zd)))
def zv9:=sv [0,1,2,3,4,5,6,7,8,9,10,11,13,14,15,16,17,18,19,20,21,22,23,24] (Qs 12 [16,21,24] (Ql 25 (sv [26] (Ql 27 Zd))))
def zv8:=sv (Qbo 0 39) (Ql 39 (sv [40,41,42,43,44,45,46] (Ql 47 (sv [48,49] Zd))))
def zv7:=sv (Qbo 0 14) (Ql 14 (sv [15] Zd))
def zv6:=sv (Qbo 0 25) (Ql 25 (sv [26] (Ql 27 Zd)))
def zv4:=sv (Qbo 0 12) (Ql 12 Zd)
def zv5:=sv (Qbo 0 20) (Ql 20 (sv [21] Zd))
def cg:=sv (Qbo 0 14) (Ql 14 (sv [15] Zd))
def cf:=sv (Qbo 0 25) (Ql 25 (sv [26] (Ql 27 Zd)))
def Rp:=sv [0,1,2,3] (Qs 4 [3] (Ql 5 (Ql 6 Zd)))
def zv3:=sv [0,1,2,3,4,5] (Ql 6 (Ql 7 Zd))
def zb:qe Tryz.prog infoTree.get:=Tr.ok _ yg5
def cfg(n:Nat)(G:List Nat:=[])(W:List Nat:=[]):Cfg:={n:=n,I:=infoTree.get,G:=G,W:=W}
def Qy(n:Nat){g:FuncId}{fn:Func}{code:Code}{args:List AV}{st:Store}{R:Ja}(hf:Tryz.prog.funcs[g]?=some fn)(h:vc Tryz.prog (cfg n) code (cx (cfg n) fn.results.toList R) (Bo args) st)(hb:fn.body=some code:=by rfl)(hm:(fn.name=="runtime.NumGoroutine")=false:=by rfl)(hn:fn.ntmps=n:=by rfl)(hl:Nat.ble args.length n=true:=by rfl):ACalls Tryz.prog g args st R:=Qa (c:=cfg n) zb hf h hb hm hn hl rfl rfl
def Qbn{p:Prop}(h:p:=by repeat(first|exact Tv|refine⟨Tq,?_⟩)):p:=h
def Qbr{q:Prop}(h:q):(True/\q)/\True:=⟨⟨Tv,h⟩,Tv⟩
def zoo{S:Store}{b:Nat}{x:AObj}{K:AObj->Prop}(h:S.obj b=some x)(k:K x):optK (Store.obj S b) K:=za _ h k
def Qbs{S:Store}{b:Nat}{x:AObj}{K:AObj->Prop}(k:K x)(h:S.obj b=some x:=by assumption):optK (Store.obj S b) K:=za _ h k
def Qbq{p q:Prop}(h:q)(c:p:=by repeat(first|exact Tv|refine⟨rfl,?_⟩|refine⟨optR (optR (optR (za _ (zd _ _ _) rfl))),?_⟩|refine⟨za (o:=Store.obj _ _) _ (by assumption) rfl,?_⟩|refine⟨⟨ψ,ze (by assumption) rfl⟩,?_⟩)):(p/\q)/\True:=⟨⟨c,h⟩,Tv⟩
def Qe{p:Prop}(h:p:=by repeat(first|exact Tv|refine⟨rfl,?_⟩|refine⟨optR (optR (optR (za _ (zd _ _ _) rfl))),?_⟩|refine⟨za (o:=Store.obj _ _) _ (by assumption) rfl,?_⟩|refine⟨⟨ψ,ze (by assumption) rfl⟩,?_⟩)):p:=h
abbrev Jb:=ACalls Tryz.prog
def ygo(n:Int)(st:Store)(R:Ja)(h:∀z:Bool,(z=true↔kr n)->R (bool z) st):Jb 130 [int n] st R:=by
 refine Qy 9 Tryz.func130 ?_;repeat' (first|refine bcd (λ_=>?_) (λ_=>?_)|refine zh (λ_=>?_) (λ_=>?_)|refine Qd ?_|fail)
 all_goals
  refine ret (h _ ?_);unfold kr;simp at*;omega
def pk(n:Int)(st:Store)(R:Ja)(h:∀z:Bool,(z=true↔1<=n/\n<=128)->R (bool z) st):Jb 155 [int n] st R:=by
 refine Qy 9 Tryz.func155 ?_;repeat' (first|refine bcd (λ_=>?_) (λ_=>?_)|refine zh (λ_=>?_) (λ_=>?_)|refine Qd ?_|fail)
 all_goals
  refine ret (h _ ?_);simp at*;omega
def ye1(n hi:Int)(st:Store)(R:Ja)(h:∀z:Bool,(z=true↔0<=n/\n<=hi)->R (bool z) st):Jb 87 [int n,int hi] st R:=by
 refine Qy 12 Tryz.func87 ?_;repeat' (first|refine bcd (λ_=>?_) (λ_=>?_)|refine zh (λ_=>?_) (λ_=>?_)|refine Qd ?_|fail)
 all_goals
  refine ret (h _ ?_);simp at*;omega
def yd8(p:Vc)(st:Store)(R:Ja)(h:∀z:Bool,(z=true↔qs p.1 p.2)->R (bool z) st):Jb 235 [.agg (zu p)] st R:=by
 refine Qy 21 Tryz.func235 ?_;repeat' (first|refine bcd (λ_=>?_) (λ_=>?_)|refine zh (λ_=>?_) (λ_=>?_)|refine Qd ?_|fail)
 all_goals
  refine ret (h _ ?_);unfold qs;simp at*;omega
def zd6(b:Bld)(st:Store)(R:Ja)(h:∀z:Bool,(z=true↔yi b)->R (bool z) st):Jb 204 [.agg (zi b)] st R:=by
 refine Qy 41 Tryz.func204 ?_;repeat' (first|refine bcd (λ_=>?_) (λ_=>?_)|refine zh (λ_=>?_) (λ_=>?_)|refine Qd ?_|fail)
 all_goals
  refine ret (h _ ?_);unfold yi;simp at*;omega
def pj(b:Bld)(st:Store)(R:Ja)(h:∀z:Bool,(z=true↔yi b)->R (bool z) st):Jb 141 [.agg (zi b)] st R:=by
 refine Qy 41 Tryz.func141 ?_;repeat' (first|refine bcd (λ_=>?_) (λ_=>?_)|refine zh (λ_=>?_) (λ_=>?_)|refine Qd ?_|fail)
 all_goals
  refine ret (h _ ?_);unfold yi;simp at*;omega
def zdz(g:Gnd)(b:Bld)(hg:zw g)(hb:yi b)(st:Store)(R:Ja)(h:∀z:Bool,(z=true↔onP g b)->R (bool z) st):Jb 205 [.agg (zq g),.agg (zi b)] st R:=by
 obtain⟨h1,h2,_,_⟩:=hg;obtain⟨_,_,h3,h4⟩:=hb;refine Qy 33 Tryz.func205 ?_;repeat' (first|refine bcd (λ_=>?_) (λ_=>?_)|refine zh (λ_=>?_) (λ_=>?_)|refine Qd ?_|fail)
 all_goals
  refine ret (h _ ?_);unfold onP;simp at*;omega
def r9(g:Gnd)(b:Bld)(hg:zw g)(hb:yi b)(st:Store)(R:Ja)(h:∀z:Bool,(z=true↔onP g b)->R (bool z) st):Jb 142 [.agg (zq g),.agg (zi b)] st R:=by
 obtain⟨h1,h2,_,_⟩:=hg;obtain⟨_,_,h3,h4⟩:=hb;refine Qy 47 Tryz.func142 ?_;repeat' (first|refine bcd (λ_=>?_) (λ_=>?_)|refine zh (λ_=>?_) (λ_=>?_)|refine Qd ?_|fail)
 all_goals
  refine ret (h _ ?_);unfold onP;simp at*;omega
def Sp(g:Gnd)(t:Int)(hg:zw g)(st:Store)(R:Ja)(h:∀z:Bool,(z=true↔0<=t/\t<g.W*g.H)->R (bool z) st):Jb 209 [.agg (zq g),int t] st R:=by
 have hm:=qg hg;refine Qy 16 Tryz.func209 ?_;repeat' (first|refine bcd (λ_=>?_) (λ_=>?_)|refine zh (λ_=>?_) (λ_=>?_)|refine Qd ?_|fail)
 all_goals
  refine ret (h _ ?_);simp at*;omega
def Ns(g:Gnd)(t:Int)(hg:zw g)(st:Store)(R:Ja)(h:∀z:Bool,(z=true↔0<=t/\t<g.W*g.H)->R (bool z) st):Jb 89 [.agg (zq g),int t] st R:=by
 have hm:=qg hg;refine Qy 16 Tryz.func89 ?_;repeat' (first|refine bcd (λ_=>?_) (λ_=>?_)|refine zh (λ_=>?_) (λ_=>?_)|refine Qd ?_|fail)
 all_goals
  refine ret (h _ ?_);simp at*;omega
def zeb(g:Gnd)(t:Int)(hg:zw g)(st:Store)(R:Ja)(h:∀z:Bool,(z=true↔Aa g t)->R (bool z) st):Jb 131 [.agg (zq g),int t] st R:=by
 refine Qy 12 Tryz.func131 ?_;repeat' (first|refine bcd (λ_=>?_) (λ_=>?_)|refine zh (λ_=>?_) (λ_=>?_)|refine Qd ?_|(refine Sp _ _ hg _ _ ?_;rintro(_|_) hz)|fail)
 all_goals
  refine ret (h _ ?_);unfold Aa;simp at*;omega
def yh4(g:Gnd)(l:List Bld)(st:Store)(R:Ja)(h:∀z:Bool,(z=true↔g.T.length>700\/l.length>30)->R (bool z) st):Jb 92 [.agg (zq g),lst 6 zi l] st R:=by
 refine Qy 14 Tryz.func92 ?_;repeat' (first|refine bcd (λ_=>?_) (λ_=>?_)|refine zh (λ_=>?_) (λ_=>?_)|refine Qd ?_|fail)
 all_goals
  refine ret (h _ ?_);simp only[decide_eq_true_eq,decide_eq_false_iff_not,Fah,false_iff,true_iff,beq_iff_eq,bne_iff_ne,beq_eq_false_iff_ne,ne_eq,reduceCtorEq,zl]at*;omega
def yh5(w:Wld)(st:Store)(R:Ja)(h:∀z:Bool,(z=true↔O9 w)->R (bool z) st):Jb 50 [.agg (zp w)] st R:=by
 refine Qy 14 Tryz.func50 ?_;repeat' (first|refine bcd (λ_=>?_) (λ_=>?_)|refine zh (λ_=>?_) (λ_=>?_)|refine Qd ?_|(refine yh4 w.G w.B _ _ ?_;rintro(_|_) hz)|fail)
 all_goals
  refine ret (h _ ?_);unfold O9;simp only[decide_eq_true_eq,decide_eq_false_iff_not,Fah,false_iff,true_iff,beq_iff_eq,bne_iff_ne,beq_eq_false_iff_ne,ne_eq,reduceCtorEq,zl]at*;omega
def yob(w:Wld)(u:Unt)(hg:zw w.G)(st:Store)(R:Ja)(h:∀z:Bool,(z=true↔ko w u)->R (bool z) st):Jb 79 [.agg (zp w),.agg (zf u)] st R:=by
 refine Qy 90 Tryz.func79 ?_;repeat' (first|refine bcd (λ_=>?_) (λ_=>?_)|refine zh (λ_=>?_) (λ_=>?_)|refine Qd ?_|(refine ygo u.kind _ _ ?_;rintro(_|_) hz)|(refine zeb w.G u.goal hg _ _ ?_;rintro(_|_) hz)|(refine zeb w.G u.next hg _ _ ?_;rintro(_|_) hz)|fail)
 all_goals
  refine ret (h _ ?_);simp only[decide_eq_true_eq,decide_eq_false_iff_not,Fah,false_iff,true_iff,beq_iff_eq,bne_iff_ne,beq_eq_false_iff_ne,ne_eq,reduceCtorEq,ko,kr,Aa]at*;first|omega|(clear h;rcases Decidable.em (u.state=1)with e1|e1<;>rcases Decidable.em (u.goal=-1)with e2|e2<;>simp[bne,lf,e1,e2]at*<;>omega)
def yf8(l:List UInt8)(hl:l.length<=1000000000000)(hne:0<l.length)(st:Store)(R:Ja)(h:∀m:UInt8,m∈l->(∀t∈l,t.toNat<=m.toNat)->R (u8 m) st):Jb 156 [jt l] st R:=by
 refine Qy 25 Tryz.func156 ?_;refine zh (λh1=>?_) λh1=>?_
 ·grind[zl]
 refine⟨0,rfl,za _ (zn hne) ?_⟩
 refine AWp.loop (σ:=Nat×UInt8) ⟨λs=>[(0,.av (jt l)),(3,.av (u8 s.2)),(4,.av (int (s.1:Nat)))],λ_=>[],
  λs st'=>(1<=s.1/\s.1<=l.length)/\st'=st/\s.2∈l/\∀t∈l.take s.1,t.toNat<=s.2.toNat,λs=>l.length-s.1⟩ zb ?_ ?_
 ·refine⟨(1,l[0]),Tv,⟨⟨Fal _,hne⟩,rfl,Faa hne,λt ht=>?_⟩,Qbn,Tv⟩;have:l.take 1=[l[0]]:=by
   cases l with
   |nil=>grind
   |cons a l=>rfl
  grind
 ·rintro⟨i,m⟩ st' ⟨⟨hi1,hi⟩,rfl,hm,hall⟩;simp only at hi1 hi hm hall;refine zh (λh1=>?_) λh1=>?_
  ·have hlt:i<l.length:=qn h1;refine⟨i,rfl,za _ (zn hlt) ⟨⟨θ,θ⟩,?_⟩⟩;have hmax:max2 (m.toNat:Int) (l[i].toNat:Int)=((if l[i].toNat>m.toNat then l[i]else m:UInt8).toNat:Int):=by
    unfold max2;grind
   refine⟨(i+1,if l[i].toNat>m.toNat then l[i]else m),?_,⟨⟨θ,hlt⟩,rfl,?_,λt ht=>?_⟩,⟨Tq,?_,Tq,Tv⟩,Tv⟩
   ·grind
   ·grind
   ·grind[List.take_succ_eq_append_getElem]
   ·show LV.le (.av (.s (.int .u8 (max2 (m.toNat:Int) (l[i].toNat:Int))))) _;rw[hmax];exact Tq
  ·have hge:i=l.length:=qw h1 hi;subst hge;rw[Fak]at hall;exact⟨_,st',Tt,Store.Has.refl st',h m hm hall⟩
def zbn(g:Gnd)(hg:g.fits)(st:Store)(R:Ja)(h:∀b:Bool,(b=true↔zw g)->R (bool b) st):Jb 104 [.agg (zq g)] st R:=by
 refine Qy 28 Tryz.func104 ?_;refine pk g.W _ _ λb hb=>?_;cases b with
 |false=>
  refine⟨_,st,Tt,Store.Has.refl st,h _ ?_⟩;simp only[Fah,false_iff]at hb⊢;exact λhp=>hb hp.1
 |true=>
  refine pk g.H _ _ λb2 hb2=>?_;cases b2 with
  |false=>
   refine⟨_,st,Tt,Store.Has.refl st,h _ ?_⟩;simp only[Fah,false_iff]at hb2⊢;exact λhp=>hb2 hp.2.1
  |true=>
   have hm:=pm (hb.1 rfl) (hb2.1 rfl);refine⟨⟨θ,θ⟩,zh (λh1=>⟨_,st,Tt,Store.Has.refl st,h _ ?_⟩) λh1=>?_⟩
   ·rw[zl]at h1;simp only[Fah,false_iff];intro hp;have:=hp.2.2.1;grind
   ·rw[zl]at h1;have h1:(g.T.length:Int)=g.W*g.H:=by grind
    refine yf8 g.T hg θ _ _ λm hm1 hm2=>⟨_,st,Tt,Store.Has.refl st,h _ ?_⟩;rw[decide_eq_true_iff];constructor
    ·intro h2;refine⟨hb.1 rfl,hb2.1 rfl,h1,λt ht=>?_⟩;grind
    ·intro hp;have:=hp.2.2.2 m hm1;omega
def yhw(g:Gnd)(hg:g.fits)(st:Store)(R:Ja)(h:∀b:Bool,(b=true↔zw g)->R (bool b) st):Jb 38 [.agg (zq g)] st R:=by
 refine Qy 46 Tryz.func38 ?_;have no:¬zw g->R (bool false) st:=λhn=>h false (by simpa using hn);refine zh (λh1=>⟨_,st,Tt,Store.Has.refl st,no ?_⟩) λh1=>?_
 ·intro hp;have:=hp.1;grind
 refine zh (λh2=>⟨_,st,Tt,Store.Has.refl st,no ?_⟩) λh2=>?_
 ·intro hp;have:=hp.1;grind
 refine zh (λh3=>⟨_,st,Tt,Store.Has.refl st,no ?_⟩) λh3=>?_
 ·intro hp;have:=hp.2.1;grind
 refine zh (λh4=>⟨_,st,Tt,Store.Has.refl st,no ?_⟩) λh4=>?_
 ·intro hp;have:=hp.2.1;grind
 have hW:1<=g.W/\g.W<=128:=δ;have hH:1<=g.H/\g.H<=128:=δ;have hm:=pm hW hH;refine⟨⟨θ,θ⟩,zh (λh5=>⟨_,st,Tt,Store.Has.refl st,no ?_⟩) λh5=>?_⟩
 ·rw[zl]at h5;intro hp;have:=hp.2.2.1;grind
 rw[zl]at h5;have h5:(g.T.length:Int)=g.W*g.H:=δ
 refine AWp.loop (σ:=Nat) ⟨λi=>[(1,.bx 1 0),(3,.av (int (i:Nat)))],λ_=>[(1,zq g)],
  λi st'=>i<=g.T.length/\st'=st/\∀t∈g.T.take i,t.toNat<=5,λi=>g.T.length-i⟩ zb ?_ ?_
 ·exact⟨0,Tv,⟨Fad _,rfl,λt ht=>by simp at ht⟩,⟨Tq,Tq,Tv⟩,Qe⟩
 ·rintro i st' ⟨hi,rfl,hall⟩;refine zh (λh6=>?_) λh6=>?_
  ·have hlt:i<g.T.length:=qn h6;refine⟨i,rfl,za _ (zn hlt) (zh (λh7=>⟨_,st',Tt,Store.Has.refl st',no ?_⟩) λh7=>?_)⟩
   ·intro hp;have:=hp.2.2.2 _ (Faa hlt);grind
   ·refine⟨⟨θ,θ⟩,⟨i+1,?_,⟨hlt,rfl,λt ht=>?_⟩,⟨Tq,Tq,Tv⟩,Qe⟩⟩
    ·grind
    grind[List.take_succ_eq_append_getElem]
  ·have hge:i=g.T.length:=qw h6 hi;subst hge;rw[Fak]at hall;exact⟨_,st',Tt,Store.Has.refl st',h true (by simpa using⟨hW,hH,h5,hall⟩)⟩
end Go.Proofs
