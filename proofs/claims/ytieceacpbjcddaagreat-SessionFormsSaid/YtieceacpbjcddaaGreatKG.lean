/- Ground of laws of thronglaw30: contracts and plain lemmas; no condition beyond the row's own. -/
import Derived.Test.YtieceacpbjcddaaGreatKF
import Derived.Test.YtieceacpbjcddaaGreatKD
set_option linter.unusedSimpArgs false
set_option linter.unusedVariables false
set_option linter.defProp false
namespace Go.Proofs
open Go Go.V
set_option maxRecDepth 20000
set_option maxHeartbeats 4000000
def Qap(a n:Nat):List Nat:=List.range' a n
abbrev Qaq:=V.Sched.e
def zqt:V.Sched:=(sv [0] (Qaq 1 [0] (Qaq 2 [] (sv [3,4,5] (Qaq 6 [0,3,4,5] (Qaq 7 [] (Qaq 8 [] .done .stop) .stop) .stop)) (Qaq 6 [0] (Qaq 2 [] (sv [3,4,5] (Qaq 7 [] (Qaq 8 [] .done .stop) .stop)) .stop) .stop)) (Qaq 6 [0] (Qaq 1 [0] (Qaq 2 [] (sv [3,4,5] (Qaq 7 [] (Qaq 8 [] .done .stop) .stop)) .stop) .stop) .stop)))
def zrl:V.Sched:=(sv [0,1,2,3,4,5,6,7] (Qaq 8 [0,1,2,3,4] (sv [9] (Qaq 10 [] (sv [11,12] (Qaq 13 [] .done .stop)) .stop)) .stop))
def zrk:V.Sched:=(sv (Qap 0 12) (Qaq 12 [] (sv [13,14,15] (Qaq 16 [] .done .stop)) .stop))
def zrj:V.Sched:=(sv (Qap 0 10) (Qaq 10 [5] (sv [11] (Qaq 12 [] (sv [13,14,15] (Qaq 16 [] .done .stop)) .stop)) .stop))
def zri:V.Sched:=(sv (Qap 0 12) (Qaq 12 [] (sv [13,14,15] (Qaq 16 [] .done .stop)) .stop))
def zqv:V.Sched:=(sv (Qap 0 10) (Qaq 10 [] (sv [11,12,13] (Qaq 14 [0,1,2,3,4,5,6,7,8,9,11,12,13] (Qaq 15 [] (Qaq 16 [] .done .stop) .stop) .stop)) (.e 14 (Qap 0 10) (Qaq 10 [] (sv [11,12,13] (Qaq 15 [] (Qaq 16 [] .done .stop) .stop)) .stop) .stop)))
def zqx:V.Sched:=(sv [0,1,2,3,4] (Qaq 5 [1] (sv [6,7] (Qaq 8 [] (Qaq 9 [] .done .stop) .stop)) .stop))
def zqw:V.Sched:=(sv [0,1,2,3,4,6,7,8,9] (Qaq 5 [9] (Qaq 10 [] (sv [11,12] (Qaq 13 [] .done .stop)) .stop) .stop))
def zqu:V.Sched:=(sv [1] (Qaq 0 [1] (Qaq 2 [] (Qaq 3 [] (Qaq 4 [] .done .stop) .stop) .stop) .stop))
def gp:V.Sched:=(sv (Qap 0 13) (Qaq 13 [] .done .stop))
def zqs:V.Sched:=(sv (Qap 0 9) .done)
def zqr:V.Sched:=(sv [0,1] (Qaq 2 [] (sv [3,4,5,6,7] (Qaq 8 [] (sv (Qap 9 17) .done) .stop)) .stop))
def gn:V.Sched:=(sv [0] (Qaq 1 [0] (sv [2] (Qaq 3 [] (Qaq 4 [] .done .stop) .stop)) .stop))
def gm:V.Sched:=(sv [0,1,2,3,4,5,6,7] (Qaq 8 [] .done .stop))
def zqq:V.Sched:=(sv [0,1,3,4,6,7] (Qaq 2 [4,7] (sv [9] (Qaq 5 [7] (Qaq 8 [] (Qaq 10 [] (sv [11] (Qaq 12 [] (sv [13] (Qaq 14 [] .done .stop)) .stop)) .stop) .stop) .stop)) .stop))
def zqp:V.Sched:=(sv [0,1,2,3,4,5,6,7,8,11] (Qaq 9 [] (sv [10] .done) .stop))
def zqo:V.Sched:=(sv [0,1,2,3,4,5,6,11,12] (Qaq 7 [0,2,4,12] (sv [8,9,10] (Qaq 13 [0] (Qaq 14 [] (Qaq 15 [] .done .stop) .stop) .stop)) .stop))
def zqn:V.Sched:=(sv [0,1,2,3,4,5] (Qaq 6 [1] (Qaq 7 [] .done .stop) .stop))
def zqj:V.Sched:=(sv [0,1,2,3,4] (Qaq 5 [1] (sv [6] .done) .stop))
def zqm:V.Sched:=(sv [0,1,2,3,4] (Qaq 5 [] .done .stop))
def zql:V.Sched:=(sv [0,1,2,3,4,5,6,8,9] (Qaq 7 [1,3,9] (Qaq 10 [1,3] (sv [11] (Qaq 12 [1] (Qaq 13 [] (sv [14] .done) .stop) .stop)) .stop) .stop))
def zqk:V.Sched:=(sv [0,1,2,3,4] (Qaq 5 [] .done .stop))
def zs0:V.Sched:=(sv [2,3,5,6,8,9] (Qaq 0 [3,6,9] (Qaq 1 [3,6,9] (Qaq 4 [6,9] (Qaq 7 [9] (Qaq 10 [] (Qaq 11 [] .done .stop) .stop) .stop) .stop) .stop) .stop))
def zsy:V.Sched:=(sv [0,1,2,3,4,5,6] (Qaq 7 [] (sv [8] (Qaq 9 [] .done .stop)) .stop))
def zsx:V.Sched:=(sv [0,1,3,4,5] (Qaq 2 [4] (sv [6,7,8,9,11,12] (Qaq 10 [12] (sv (Qap 13 16) .done) .stop)) .stop))
def gz:V.Sched:=(sv [0,1,2,3,4,5,6,7,9,10,11] (Qaq 8 [4,9,11] (Qaq 12 [] (sv [13] .done) .stop) .stop))
def gy:V.Sched:=(sv (Qap 0 12) (Qaq 12 [5,7,9] (sv [13] (Qaq 14 [] (sv [15,16] .done) .stop)) .stop))
def zsw:V.Sched:=(sv [0,1,2,3,4,5,6,7,8,9,10,11,12,13,15,16] (Qaq 14 [16] (Qaq 17 [13] (sv [18,19,20] .done) .stop) (Qaq 17 [13] (sv [18] (Qaq 14 [16] (sv [19,20] .done) .stop)) .stop)))
def zsv:V.Sched:=(sv [0,1,2,3,4,6] (Qaq 5 [] (Qaq 7 [] (sv [8,9,10] (Qaq 11 [] (Qaq 12 [] .done .stop) .stop)) .stop) .stop))
def zsu:V.Sched:=(sv [0,1,2,3,4,5,6,7,8,9,11,12] (Qaq 10 [3,4] (Qaq 13 [3,4,8,9] (Qaq 14 [3,4] (Qaq 15 [] .done .stop) .stop) .stop) (Qaq 13 [3,4,8,9] (Qaq 10 [3,4] (Qaq 14 [3,4] (Qaq 15 [] .done .stop) .stop) .stop) .stop)))
def gw:V.Sched:=(sv [0,1,2,3,4,5] (Qaq 6 [] .done .stop))
def gu:V.Sched:=(sv [0,1,2,3,4,5,6,9] (Qaq 7 [] (sv [8] .done) .stop))
def zst:V.Sched:=(sv [0,1,2,3,5,6,7,8] (Qaq 4 [6,8] (Qaq 9 [] (sv [10] (Qaq 11 [] .done .stop)) .stop) .stop))
def zsr:V.Sched:=(sv (Qap 0 11) (.e 11 (Qap 0 11) (Qaq 12 [] .done .stop) .stop))
def zsq:V.Sched:=(sv (Qap 0 9) (Qaq 9 [] .done .stop))
def zss:V.Sched:=(sv [0,1,2,3,4] (Qaq 5 [] .done .stop))
def zsp:V.Sched:=(sv [0,1,2,3,5,6,7,8] (Qaq 4 [6] (Qaq 9 [] (sv [10] (Qaq 11 [] .done .stop)) .stop) .stop))
def zso:V.Sched:=(sv (Qap 0 13) (Qaq 13 [] .done .stop))
def zsn:V.Sched:=(sv [0,1,2,3,4] (Qaq 5 [] .done .stop))
def zsm:V.Sched:=(sv (Qap 0 10) (Qaq 10 [3,7] (.e 11 (Qap 0 10) (.e 12 (Qap 0 10) (Qaq 13 [] (Qaq 14 [] .done .stop) .stop) .stop) (.e 12 (Qap 0 10) (.e 11 (Qap 0 10) (Qaq 13 [] (Qaq 14 [] .done .stop) .stop) .stop) .stop)) (.e 11 (Qap 0 10) (Qaq 10 [3,7] (.e 12 (Qap 0 10) (Qaq 13 [] (Qaq 14 [] .done .stop) .stop) .stop) (.e 12 (Qap 0 10) (Qaq 10 [3,7] (Qaq 13 [] (Qaq 14 [] .done .stop) .stop) .stop) .stop)) (.e 12 (Qap 0 10) (Qaq 10 [3,7] (.e 11 (Qap 0 10) (Qaq 13 [] (Qaq 14 [] .done .stop) .stop) .stop) (.e 11 (Qap 0 10) (Qaq 10 [3,7] (Qaq 13 [] (Qaq 14 [] .done .stop) .stop) .stop) .stop)) .stop))))
def zsl:V.Sched:=(sv (Qap 0 9) (Qaq 9 [5] (sv [10,11,12,13,14,15,16,17,18,19,20,21,22,23,24,25,26,27,28,29,30,31,36,37] (Qaq 32 [37] (sv [33,34,35,38,39,40,41] .done) .stop)) .stop))
def zsk:V.Sched:=(sv [0,1,2,3,4,5,6,7] (Qaq 8 [] (sv [9,10] (Qaq 11 [] .done .stop)) .stop))
def zsj:V.Sched:=(sv (Qap 0 10) (Qaq 10 [3,7] (.e 11 (Qap 0 10) (.e 12 (Qap 0 10) (Qaq 13 [] (Qaq 14 [] .done .stop) .stop) .stop) (.e 12 (Qap 0 10) (.e 11 (Qap 0 10) (Qaq 13 [] (Qaq 14 [] .done .stop) .stop) .stop) .stop)) (.e 11 (Qap 0 10) (Qaq 10 [3,7] (.e 12 (Qap 0 10) (Qaq 13 [] (Qaq 14 [] .done .stop) .stop) .stop) (.e 12 (Qap 0 10) (Qaq 10 [3,7] (Qaq 13 [] (Qaq 14 [] .done .stop) .stop) .stop) .stop)) (.e 12 (Qap 0 10) (Qaq 10 [3,7] (.e 11 (Qap 0 10) (Qaq 13 [] (Qaq 14 [] .done .stop) .stop) .stop) (.e 11 (Qap 0 10) (Qaq 10 [3,7] (Qaq 13 [] (Qaq 14 [] .done .stop) .stop) .stop) .stop)) .stop))))
def zsi:V.Sched:=(sv [0,1,2,3] (Qaq 4 [1] (sv [5] .done) .stop))
def zsh:V.Sched:=(sv [0,1,2,3,4,5,6,7,8,9,10,11,12,13,14,15,16,17,18,19,20,22] (Qaq 21 [] (sv [23,24] (Qaq 25 [] .done .stop)) .stop))
def zsg:V.Sched:=(sv [0,1,2,3,4,5,6] (Qaq 7 [] (sv [8,9,10] (Qaq 11 [] (Qaq 12 [] .done .stop) .stop)) .stop))
def zsf:V.Sched:=(sv [0,1,2,3,4,5,6,7] (Qaq 8 [] .done .stop))
def zse:V.Sched:=(sv [0,1,2,3,4,5,6,7] (Qaq 8 [] .done .stop))
def zsd:V.Sched:=(sv [0,1,2,3,4,5] (Qaq 6 [] .done .stop))
def zsc:V.Sched:=(sv (Qap 0 11) (Qaq 11 [0] (sv [12,13] (Qaq 14 [] .done .stop)) .stop))
def zsb:V.Sched:=(sv [0,1,2,3,4,5] (Qaq 6 [0] (sv [7] (Qaq 8 [] (Qaq 9 [] .done .stop) .stop)) .stop))
def zsa:V.Sched:=(sv (Qap 0 16) (Qaq 16 [] .done .stop))
def zr9:V.Sched:=(sv [0,1,2,3,4,5,6] (Qaq 7 [1,2,4] (sv [8,9] .done) .stop))
def zr8:V.Sched:=(sv [0] (Qaq 1 [] (sv (Qap 2 11) (Qaq 13 [] (sv [14,15,16] .done) .stop)) .stop))
def zr7:V.Sched:=(sv (Qap 0 24) .done)
def zr6:V.Sched:=(sv (Qap 0 15) (Qaq 15 [] (sv [16,17,18] (Qaq 19 [] .done .stop)) .stop))
def gr:V.Sched:=(sv (Qap 0 16) (Qaq 16 [4] (sv [17] (Qaq 18 [] .done .stop)) .stop))
def zr5:V.Sched:=(sv [0,1,2,3,4,5] (Qaq 6 [4] (Qaq 7 [] .done .stop) .stop))
def H6:V.Sched:=(sv [0,1,2,3,4,5,6,7,8,9,10,11,12,14,15] (Qaq 13 [] (sv [16] (Qaq 17 [] .done .stop)) .stop))
def zr4:V.Sched:=(sv [0,1,2,4] (Qaq 3 [0,1] (Qaq 5 [0,1] (sv [6] (Qaq 7 [] (sv [8] (Qaq 9 [] .done .stop)) .stop)) .stop) .stop))
def zr2:V.Sched:=(sv [0,1,2,3,4] (Qaq 5 [] (Qaq 6 [] .done .stop) .stop))
def zr1:V.Sched:=(sv [0,1,2,3,4] (Qaq 5 [] .done .stop))
def zr3:V.Sched:=(sv [0,1,2,3,4,5] (Qaq 6 [] .done .stop))
def zr0:V.Sched:=(sv [0,1,3,4] (Qaq 2 [4] (Qaq 5 [] (sv [6] (Qaq 7 [] .done .stop)) .stop) .stop))
def zrz:V.Sched:=(sv [0,1,2,4,5,6] (Qaq 3 [5,6] (Qaq 7 [] (sv [8] (Qaq 9 [] (Qaq 10 [0,1,2,4,5,6,8] (Qaq 11 [] .done .stop) .stop) (Qaq 10 [0,1,2,4,5,6,8] (Qaq 9 [] (Qaq 11 [] .done .stop) .stop) .stop))) (Qaq 10 [0,1,2,4,5,6] (Qaq 7 [] (sv [8] (Qaq 9 [] (Qaq 11 [] .done .stop) .stop)) .stop) .stop)) (Qaq 10 [0,1,2,4,5,6] (Qaq 3 [5,6] (Qaq 7 [] (sv [8] (Qaq 9 [] (Qaq 11 [] .done .stop) .stop)) .stop) .stop) .stop)))
def zry:V.Sched:=(sv [0,1,2,4,5,6] (Qaq 3 [5,6] (Qaq 7 [] (sv [8] (Qaq 9 [] (Qaq 10 [0,1,2,4,5,6,8] (Qaq 11 [] .done .stop) .stop) (Qaq 10 [0,1,2,4,5,6,8] (Qaq 9 [] (Qaq 11 [] .done .stop) .stop) .stop))) (Qaq 10 [0,1,2,4,5,6] (Qaq 7 [] (sv [8] (Qaq 9 [] (Qaq 11 [] .done .stop) .stop)) .stop) .stop)) (Qaq 10 [0,1,2,4,5,6] (Qaq 3 [5,6] (Qaq 7 [] (sv [8] (Qaq 9 [] (Qaq 11 [] .done .stop) .stop)) .stop) .stop) .stop)))
def zrx:V.Sched:=(sv [0,1,2,3,5,6,7,8] (Qaq 4 [6,8] (Qaq 9 [] (sv [10] (Qaq 11 [] .done .stop)) .stop) .stop))
def zrw:V.Sched:=(sv [0,1,3,4] (Qaq 2 [4] (Qaq 5 [] (sv [6] (Qaq 7 [] .done .stop)) .stop) .stop))
def zrv:V.Sched:=(sv [0,1,2,3,4,5,6,7] (Qaq 8 [6] (Qaq 9 [] .done .stop) .stop))
def zrr:V.Sched:=(sv [0,1,2,3,4] (Qaq 5 [3] (sv [6] (Qaq 7 [] .done .stop)) .stop))
def zrq:V.Sched:=(sv [0,1,2,3,4] (Qaq 5 [3] (sv [6] (Qaq 7 [] .done .stop)) .stop))
def zru:V.Sched:=(sv [0,1,2,3,4,5,6] (Qaq 7 [3,5] (sv [8] (Qaq 9 [5] (sv [10] (Qaq 11 [] .done .stop)) .stop)) .stop))
def zrt:V.Sched:=(sv [0,1,2,3,4] (Qaq 5 [3] (sv [6] (Qaq 7 [] .done .stop)) .stop))
def zrs:V.Sched:=(sv [0,1,2,3,4] (Qaq 5 [3] (sv [6] (Qaq 7 [] .done .stop)) .stop))
def gq:V.Sched:=(sv (Qap 0 30) (Qaq 30 [] (sv (Qap 31 9) (Qaq 40 [] (sv [41] (Qaq 42 [] .done .stop)) .stop)) .stop))
def zrp:V.Sched:=(sv [0,1,2,3,5,6,7,8] (Qaq 4 [6,8] (Qaq 9 [] (sv [10] (Qaq 11 [] (Qaq 12 [] .done .stop) .stop)) .stop) .stop))
def zro:V.Sched:=(sv [0] (Qaq 1 [] (sv (Qap 2 22) .done) .stop))
def zrn:V.Sched:=(sv [0,1,3,4] (Qaq 2 [4] (sv [6] (Qaq 5 [] (Qaq 7 [] (sv [8] (Qaq 9 [] .done .stop)) .stop) .stop)) .stop))
def zrm:V.Sched:=(sv [0,1,3,4,6,7] (Qaq 2 [4,7] (sv [9] (Qaq 5 [7] (Qaq 8 [] (Qaq 10 [] (sv [11] (Qaq 12 [] (sv [13] (Qaq 14 [] .done .stop)) .stop)) .stop) .stop) .stop)) .stop))
def zrh:V.Sched:=(sv (Qap 0 12) .done)
def zrg:V.Sched:=(sv (Qap 0 10) (Qaq 10 [7] (Qaq 11 [] .done .stop) .stop))
def zrf:V.Sched:=(sv [0,1,2,3,4,5,7] (Qaq 6 [0,7] (Qaq 8 [] .done .stop) .stop))
def zre:V.Sched:=(sv [0,1] (Qaq 2 [0] (Qaq 3 [] (sv [4] .done) .stop) .stop))
def zrd:V.Sched:=(sv [0,1,2,3,4,5] (Qaq 6 [] (Qaq 7 [] .done .stop) .stop))
def zrc:V.Sched:=(sv (Qap 0 9) .done)
def zrb:V.Sched:=(sv (Qap 0 9) .done)
def zra:V.Sched:=(sv [0,1,2,3] (Qaq 4 [] (Qaq 5 [] .done .stop) .stop))
def zq9:V.Sched:=(sv [0,1,3,4] (Qaq 2 [4] (sv [5,6,7,8,9,10] (Qaq 11 [] .done .stop)) .stop))
def zq8:V.Sched:=(sv [0,1,2,3,4,5,6,7] (Qaq 8 [6] (Qaq 9 [] .done .stop) .stop))
def zq7:V.Sched:=(sv [0,1,2,3,4,5,6,7,8,9,10,11,13,14,15,16,17,18,19,20,21,22,23,24] (Qaq 12 [16,21,24] (Qaq 25 [] (sv [26] (Qaq 27 [] .done .stop)) .stop) .stop))
def zq6:V.Sched:=(sv (Qap 0 39) (Qaq 39 [] (sv [40,41,42,43,44,45,46] (Qaq 47 [] (sv [48,49] .done) .stop)) .stop))
def zq5:V.Sched:=(sv (Qap 0 14) (Qaq 14 [] (sv [15] .done) .stop))
def zq4:V.Sched:=(sv (Qap 0 25) (Qaq 25 [] (sv [26] (Qaq 27 [] .done .stop)) .stop))
def zq2:V.Sched:=(sv (Qap 0 12) (Qaq 12 [] .done .stop))
def zq3:V.Sched:=(sv (Qap 0 20) (Qaq 20 [] (sv [21] .done) .stop))
def Sj:V.Sched:=(sv (Qap 0 14) (Qaq 14 [] (sv [15] .done) .stop))
def Si:V.Sched:=(sv (Qap 0 25) (Qaq 25 [] (sv [26] (Qaq 27 [] .done .stop)) .stop))
def M9:V.Sched:=(sv [0,1,2,3] (Qaq 4 [3] (Qaq 5 [] (Qaq 6 [] .done .stop) .stop) .stop))
def zq1:V.Sched:=(sv [0,1,2,3,4,5] (Qaq 6 [] (Qaq 7 [] .done .stop) .stop))
def zq0:V.Sched:=(sv (Qap 0 12) (Qaq 12 [] .done .stop))
def zqz:V.Sched:=(sv [0,1,2,3,4,5,6] (Qaq 7 [0] (Qaq 8 [] .done .stop) .stop))
def zqy:V.Sched:=(sv [0,1,2] (Qaq 3 [0] (sv [4,5] (Qaq 6 [] .done .stop)) .stop))
theorem zb:yh Tryz.prog infoTree.get:=Tr.ok _ zye
def cfg(n:Nat)(G:List Nat:=[])(W:List Nat:=[]):Cfg:={n:=n,I:=infoTree.get,G:=G,W:=W}
theorem Qao{p:Prop}(h:p:=by repeat(first|exact Tv|refine⟨Tq,?_⟩)):p:=h
theorem Qas{q:Prop}(h:q):(True/\q)/\True:=⟨⟨Tv,h⟩,Tv⟩
theorem Qat{S:Store}{b:Nat}{x:AObj}{K:AObj->Prop}(k:K x)(h:S.obj b=some x:=by assumption):optK (Store.obj S b) K:=za _ h k
theorem Qar{p q:Prop}(h:q)(c:p:=by repeat(first|exact Tv|refine⟨rfl,?_⟩|refine⟨optR (optR (optR (za _ (zc _ _ _) rfl))),?_⟩|refine⟨za (o:=Store.obj _ _) _ (by assumption) rfl,?_⟩|refine⟨⟨by decide,ze (by assumption) rfl⟩,?_⟩)):(p/\q)/\True:=⟨⟨c,h⟩,Tv⟩
theorem Qe{p:Prop}(h:p:=by repeat(first|exact Tv|refine⟨rfl,?_⟩|refine⟨optR (optR (optR (za _ (zc _ _ _) rfl))),?_⟩|refine⟨za (o:=Store.obj _ _) _ (by assumption) rfl,?_⟩|refine⟨⟨by decide,ze (by assumption) rfl⟩,?_⟩)):p:=h
abbrev Jb:=ACalls Tryz.prog
theorem zxv(n:Int)(st:Store)(R:Ja)(h:∀z:Bool,(z=true↔Fu n)->R (bool z) st):Jb 216 [int n] st R:=by
 refine Qa (c:=cfg 9) zb Tryz.func216 ?_
 repeat' (first|refine bcd (λ_=>?_) (λ_=>?_)|refine zi (λ_=>?_) (λ_=>?_)|refine Qd ?_|fail)
 all_goals
  refine ret (h _ ?_)
  unfold Fu
  simp only[decide_eq_true_eq,decide_eq_false_iff_not,Fai,false_iff,true_iff,beq_iff_eq,bne_iff_ne,beq_eq_false_iff_ne,ne_eq,reduceCtorEq]at*
  omega
theorem gb(n:Int)(st:Store)(R:Ja)(h:∀z:Bool,(z=true↔1<=n/\n<=128)->R (bool z) st):Jb 153 [int n] st R:=by
 refine Qa (c:=cfg 9) zb Tryz.func153 ?_
 repeat' (first|refine bcd (λ_=>?_) (λ_=>?_)|refine zi (λ_=>?_) (λ_=>?_)|refine Qd ?_|fail)
 all_goals
  refine ret (h _ ?_)
  simp only[decide_eq_true_eq,decide_eq_false_iff_not,Fai,false_iff,true_iff,beq_iff_eq,bne_iff_ne,beq_eq_false_iff_ne,ne_eq,reduceCtorEq]at*
  omega
theorem zu2(p:Vc)(st:Store)(R:Ja)(h:∀z:Bool,(z=true↔jj p.1 p.2)->R (bool z) st):Jb 317 [.agg (z6 p)] st R:=by
 refine Qa (c:=cfg 21) zb Tryz.func317 ?_
 repeat' (first|refine bcd (λ_=>?_) (λ_=>?_)|refine zi (λ_=>?_) (λ_=>?_)|refine Qd ?_|fail)
 all_goals
  refine ret (h _ ?_)
  unfold jj
  simp only[decide_eq_true_eq,decide_eq_false_iff_not,Fai,false_iff,true_iff,beq_iff_eq,bne_iff_ne,beq_eq_false_iff_ne,ne_eq,reduceCtorEq]at*
  omega
theorem ydt(b:Bld)(st:Store)(R:Ja)(h:∀z:Bool,(z=true↔y9 b)->R (bool z) st):Jb 288 [.agg (zr b)] st R:=by
 refine Qa (c:=cfg 41) zb Tryz.func288 ?_
 repeat' (first|refine bcd (λ_=>?_) (λ_=>?_)|refine zi (λ_=>?_) (λ_=>?_)|refine Qd ?_|fail)
 all_goals
  refine ret (h _ ?_)
  unfold y9
  simp only[decide_eq_true_eq,decide_eq_false_iff_not,Fai,false_iff,true_iff,beq_iff_eq,bne_iff_ne,beq_eq_false_iff_ne,ne_eq,reduceCtorEq]at*
  omega
theorem ydj(g:Gnd)(b:Bld)(hg:zp g)(hb:y9 b)(st:Store)(R:Ja)(h:∀z:Bool,(z=true↔onP g b)->R (bool z) st):Jb 289 [.agg (zn g),.agg (zr b)] st R:=by
 obtain⟨h1,h2,_,_⟩:=hg;obtain⟨_,_,h3,h4⟩:=hb
 refine Qa (c:=cfg 33) zb Tryz.func289 ?_
 repeat' (first|refine bcd (λ_=>?_) (λ_=>?_)|refine zi (λ_=>?_) (λ_=>?_)|refine Qd ?_|fail)
 all_goals
  refine ret (h _ ?_)
  unfold onP
  simp only[decide_eq_true_eq,decide_eq_false_iff_not,Fai,false_iff,true_iff,beq_iff_eq,bne_iff_ne,beq_eq_false_iff_ne,ne_eq,reduceCtorEq]at*
  omega
theorem zx1(g:Gnd)(t:Int)(hg:zp g)(st:Store)(R:Ja)(h:∀z:Bool,(z=true↔0<=t/\t<g.W*g.H)->R (bool z) st):Jb 293 [.agg (zn g),int t] st R:=by
 have hm:=qr hg
 refine Qa (c:=cfg 16) zb Tryz.func293 ?_
 repeat' (first|refine bcd (λ_=>?_) (λ_=>?_)|refine zi (λ_=>?_) (λ_=>?_)|refine Qd ?_|fail)
 all_goals
  refine ret (h _ ?_)
  simp only[decide_eq_true_eq,decide_eq_false_iff_not,Fai,false_iff,true_iff,beq_iff_eq,bne_iff_ne,beq_eq_false_iff_ne,ne_eq,reduceCtorEq]at*
  omega
theorem s8(g:Gnd)(t:Int)(hg:zp g)(st:Store)(R:Ja)(h:∀z:Bool,(z=true↔wt g t)->R (bool z) st):Jb 217 [.agg (zn g),int t] st R:=by
 refine Qa (c:=cfg 12) zb Tryz.func217 ?_
 repeat' (first|refine bcd (λ_=>?_) (λ_=>?_)|refine zi (λ_=>?_) (λ_=>?_)|refine Qd ?_|(refine zx1 _ _ hg _ _ ?_;rintro(_|_) hz)|fail)
 all_goals
  refine ret (h _ ?_)
  unfold wt
  simp only[decide_eq_true_eq,decide_eq_false_iff_not,Fai,false_iff,true_iff,beq_iff_eq,bne_iff_ne,beq_eq_false_iff_ne,ne_eq,reduceCtorEq]at*
  omega
theorem yeq(w:Wld)(u:Unt)(hg:zp w.G)(st:Store)(R:Ja)(h:∀z:Bool,(z=true↔xw w u)->R (bool z) st):Jb 129 [.agg (zk w),.agg (zl u)] st R:=by
 refine Qa (c:=cfg 90) zb Tryz.func129 ?_
 repeat' (first|refine bcd (λ_=>?_) (λ_=>?_)|refine zi (λ_=>?_) (λ_=>?_)|refine Qd ?_|(refine zxv u.kind _ _ ?_;rintro(_|_) hz)|(refine s8 w.G u.goal hg _ _ ?_;rintro(_|_) hz)|(refine s8 w.G u.next hg _ _ ?_;rintro(_|_) hz)|fail)
 all_goals
  refine ret (h _ ?_)
  simp only[decide_eq_true_eq,decide_eq_false_iff_not,Fai,false_iff,true_iff,beq_iff_eq,bne_iff_ne,beq_eq_false_iff_ne,ne_eq,reduceCtorEq,xw,Fu,wt]at*
  first|omega|(clear h;rcases Decidable.em (u.state=1)with e1|e1<;>rcases Decidable.em (u.goal=-1)with e2|e2<;>simp[bne,ydy,e1,e2]at*<;>omega)
theorem zxg(l:List UInt8)(hl:l.length<=1000000000000)(hne:0<l.length)(st:Store)(R:Ja)(h:∀m:UInt8,m∈l->(∀t∈l,t.toNat<=m.toNat)->R (u8 m) st):Jb 154 [qc l] st R:=by
 refine Qa (c:=cfg 25) zb Tryz.func154 ?_
 refine zi (λh1=>?_) (λh1=>?_)
 ·grind[zh]
 refine⟨0,rfl,za _ (zw hne) ?_⟩
 refine AWp.loop (σ:=Nat×UInt8) ⟨λs=>[(0,.av (qc l)),(3,.av (u8 s.2)),(4,.av (int (s.1:Nat)))],λ_=>[],
  λs st'=>(1<=s.1/\s.1<=l.length)/\st'=st/\s.2∈l/\∀t∈l.take s.1,t.toNat<=s.2.toNat,λs=>l.length-s.1⟩ zb ?_ ?_
 ·refine⟨(1,l[0]),Tv,⟨⟨Fah _,hne⟩,rfl,Faa hne,λt ht=>?_⟩,Qao,Tv⟩
  have:l.take 1=[l[0]]:=by
   cases l with
   |nil=>grind
   |cons a l=>rfl
  grind
 ·rintro⟨i,m⟩ st' ⟨⟨hi1,hi⟩,rfl,hm,hall⟩
  simp only at hi1 hi hm hall
  refine zi (λh1=>?_) (λh1=>?_)
  ·have hlt:i<l.length:=Io h1
   refine⟨i,rfl,za _ (zw hlt) ?_⟩
   refine⟨⟨by omega,by omega⟩,?_⟩
   have hmax:max2 (m.toNat:Int) (l[i].toNat:Int)=((if l[i].toNat>m.toNat then l[i]else m:UInt8).toNat:Int):=by
    unfold max2
    grind
   refine⟨(i+1,if l[i].toNat>m.toNat then l[i]else m),?_,⟨⟨by omega,hlt⟩,rfl,?_,λt ht=>?_⟩,⟨Tq,?_,Tq,Tv⟩,Tv⟩
   ·grind
   ·grind
   ·grind[List.take_succ_eq_append_getElem]
   ·show LV.le (.av (.s (.int .u8 (max2 (m.toNat:Int) (l[i].toNat:Int))))) _
    rw[hmax]
    exact Tq
  ·have hge:i=l.length:=Lr h1 hi
   subst hge
   rw[Fap]at hall
   exact⟨_,st',Tt,Store.Has.refl st',h m hm hall⟩
theorem ot(g:Gnd)(hg:g.fits)(st:Store)(R:Ja)(h:∀b:Bool,(b=true↔zp g)->R (bool b) st):Jb 80 [.agg (zn g)] st R:=by
 refine Qa (c:=cfg 28) zb Tryz.func80 ?_
 refine gb g.W _ _ (λb hb=>?_)
 cases b with
 |false=>
  refine⟨_,st,Tt,Store.Has.refl st,h _ ?_⟩
  simp only[Fai,false_iff]at hb⊢
  exact λhp=>hb hp.1
 |true=>
  refine gb g.H _ _ (λb2 hb2=>?_)
  cases b2 with
  |false=>
   refine⟨_,st,Tt,Store.Has.refl st,h _ ?_⟩
   simp only[Fai,false_iff]at hb2⊢
   exact λhp=>hb2 hp.2.1
  |true=>
   have hm:=M7 (hb.1 rfl) (hb2.1 rfl)
   refine⟨⟨by omega,by omega⟩,?_⟩
   refine zi (λh1=>⟨_,st,Tt,Store.Has.refl st,h _ ?_⟩) (λh1=>?_)
   ·rw[zh]at h1
    simp only[Fai,false_iff]
    intro hp
    have:=hp.2.2.1
    grind
   ·rw[zh]at h1
    have h1:(g.T.length:Int)=g.W*g.H:=by grind
    refine zxg g.T hg (by omega) _ _ (λm hm1 hm2=>?_)
    refine⟨_,st,Tt,Store.Has.refl st,h _ ?_⟩
    rw[decide_eq_true_iff]
    constructor
    ·intro h2
     refine⟨hb.1 rfl,hb2.1 rfl,h1,λt ht=>?_⟩
     grind
    ·intro hp
     have:=hp.2.2.2 m hm1
     omega
theorem zy9(g:Gnd)(hg:g.fits)(st:Store)(R:Ja)(h:∀b:Bool,(b=true↔zp g)->R (bool b) st):Jb 29 [.agg (zn g)] st R:=by
 refine Qa (c:=cfg 46) zb Tryz.func29 ?_
 have no:¬zp g->R (bool false) st:=λhn=>h false (by simpa using hn)
 refine zi (λh1=>⟨_,st,Tt,Store.Has.refl st,no ?_⟩) (λh1=>?_)
 ·intro hp;have:=hp.1;grind
 refine zi (λh2=>⟨_,st,Tt,Store.Has.refl st,no ?_⟩) (λh2=>?_)
 ·intro hp;have:=hp.1;grind
 refine zi (λh3=>⟨_,st,Tt,Store.Has.refl st,no ?_⟩) (λh3=>?_)
 ·intro hp;have:=hp.2.1;grind
 refine zi (λh4=>⟨_,st,Tt,Store.Has.refl st,no ?_⟩) (λh4=>?_)
 ·intro hp;have:=hp.2.1;grind
 have hW:1<=g.W/\g.W<=128:=by grind
 have hH:1<=g.H/\g.H<=128:=by grind
 have hm:=M7 hW hH
 refine⟨⟨by omega,by omega⟩,?_⟩
 refine zi (λh5=>⟨_,st,Tt,Store.Has.refl st,no ?_⟩) (λh5=>?_)
 ·rw[zh]at h5
  intro hp
  have:=hp.2.2.1
  grind
 rw[zh]at h5
 have h5:(g.T.length:Int)=g.W*g.H:=by grind
 refine AWp.loop (σ:=Nat) ⟨λi=>[(1,.bx 1 0),(3,.av (int (i:Nat)))],λ_=>[(1,zn g)],
  λi st'=>i<=g.T.length/\st'=st/\∀t∈g.T.take i,t.toNat<=5,λi=>g.T.length-i⟩ zb ?_ ?_
 ·exact⟨0,Tv,⟨Faf _,rfl,λt ht=>by simp at ht⟩,⟨Tq,Tq,Tv⟩,Qe⟩
 ·rintro i st' ⟨hi,rfl,hall⟩
  refine zi (λh6=>?_) (λh6=>?_)
  ·have hlt:i<g.T.length:=Io h6
   refine⟨i,rfl,za _ (zw hlt) ?_⟩
   refine zi (λh7=>⟨_,st',Tt,Store.Has.refl st',no ?_⟩) (λh7=>?_)
   ·intro hp
    have:=hp.2.2.2 _ (Faa hlt)
    grind
   ·refine⟨⟨by omega,by omega⟩,?_⟩
    refine⟨i+1,?_,⟨hlt,rfl,λt ht=>?_⟩,⟨Tq,Tq,Tv⟩,Qe⟩
    ·grind
    grind[List.take_succ_eq_append_getElem]
  ·have hge:i=g.T.length:=Lr h6 hi
   subst hge
   rw[Fap]at hall
   exact⟨_,st',Tt,Store.Has.refl st',h true (by simpa using⟨hW,hH,h5,hall⟩)⟩
end Go.Proofs
