/- Ground of laws of thronglaw25: contracts and plain lemmas; no condition beyond the row's own. -/
import Derived.Test.YtdfpifbbcigelaaGreatKG
import Derived.Test.YtdfpifbbcigelaaGreatKE
set_option linter.unusedSimpArgs false
set_option linter.unusedVariables false
namespace Go.Proofs
open Go Go.V
set_option maxRecDepth 20000
set_option maxHeartbeats 4000000
def Qag(a n:Nat):List Nat:=List.range' a n
abbrev Qah:=V.Sched.e
def znk:V.Sched:=(sv (Qag 0 10) (Qah 10 [] (sv [11,12,13] (Qah 14 [0,1,2,3,4,5,6,7,8,9,11,12,13] (Qah 15 [] (Qah 16 [] .done .stop) .stop) .stop)) (.e 14 (Qag 0 10) (Qah 10 [] (sv [11,12,13] (Qah 15 [] (Qah 16 [] .done .stop) .stop)) .stop) .stop)))
def znm:V.Sched:=(sv [0,1,2,3,4] (Qah 5 [1] (sv [6,7] (Qah 8 [] (Qah 9 [] .done .stop) .stop)) .stop))
def znl:V.Sched:=(sv [0,1,2,3,4,6,7,8,9] (Qah 5 [9] (Qah 10 [] (sv [11,12] (Qah 13 [] .done .stop)) .stop) .stop))
def znc:V.Sched:=(sv [0,1] (Qah 2 [] (sv [3,4,5,6,7] (Qah 8 [] (sv (Qag 9 17) .done) .stop)) .stop))
def zna:V.Sched:=(sv (Qag 0 11) (.e 11 (Qag 0 11) (Qah 12 [] .done .stop) .stop))
def zm9:V.Sched:=(sv (Qag 0 9) (Qah 9 [] .done .stop))
def znb:V.Sched:=(sv [0,1,2,3,4] (Qah 5 [] .done .stop))
def zm8:V.Sched:=(sv (Qag 0 9) .done)
def zm7:V.Sched:=(sv (Qag 0 9) .done)
def zm6:V.Sched:=(sv [0,1,3,4,6,7] (Qah 2 [4,7] (sv [9] (Qah 5 [7] (Qah 8 [] (Qah 10 [] (sv [11] (Qah 12 [] (sv [13] (Qah 14 [] .done .stop)) .stop)) .stop) .stop) .stop)) .stop))
def bg:V.Sched:=(sv [0] (Qah 1 [0] (sv [2] (Qah 3 [] (Qah 4 [] .done .stop) .stop)) .stop))
def bf:V.Sched:=(sv [0,1,2,3,4,5,6,7] (Qah 8 [] .done .stop))
def bd:V.Sched:=(sv [0,1,2,3,4,5,6,7,9,10,11] (Qah 8 [4,9,11] (Qah 12 [] (sv [13] .done) .stop) .stop))
def bc:V.Sched:=(sv (Qag 0 12) (Qah 12 [5,7,9] (sv [13] (Qah 14 [] (sv [15,16] .done) .stop)) .stop))
def zo1:V.Sched:=(sv [0,1,2,3,4,5,6,7,8,9,10,11,12,13,15,16] (Qah 14 [16] (Qah 17 [13] (sv [18,19,20] .done) .stop) (Qah 17 [13] (sv [18] (Qah 14 [16] (sv [19,20] .done) .stop)) .stop)))
def zo0:V.Sched:=(sv [0,1,2,3,4,5,6,7,8,11] (Qah 9 [] (sv [10] .done) .stop))
def zoz:V.Sched:=(sv [0,1,2,3,4,5,6,11,12] (Qah 7 [0,2,4,12] (sv [8,9,10] (Qah 13 [0] (Qah 14 [] (Qah 15 [] .done .stop) .stop) .stop)) .stop))
def zoy:V.Sched:=(sv [0,1,2,3,4,5] (Qah 6 [1] (Qah 7 [] .done .stop) .stop))
def zou:V.Sched:=(sv [0,1,2,3,4] (Qah 5 [1] (sv [6] .done) .stop))
def zox:V.Sched:=(sv [0,1,2,3,4] (Qah 5 [] .done .stop))
def zow:V.Sched:=(sv [0,1,2,3,4,5,6,8,9] (Qah 7 [1,3,9] (Qah 10 [1,3] (sv [11] (Qah 12 [1] (Qah 13 [] (sv [14] .done) .stop) .stop)) .stop) .stop))
def zov:V.Sched:=(sv [0,1,2,3,4] (Qah 5 [] .done .stop))
def zot:V.Sched:=(sv [0,1,3,4] (Qah 2 [4] (Qah 5 [] (sv [6] (Qah 7 [] .done .stop)) .stop) .stop))
def zos:V.Sched:=(sv [0,1,2,3,5,6,7,8] (Qah 4 [6,8] (Qah 9 [] (sv [10] (Qah 11 [] .done .stop)) .stop) .stop))
def zor:V.Sched:=(sv [0,1,2,3,4,5,6] (Qah 7 [] (sv [8,9,10] (Qah 11 [] (Qah 12 [] .done .stop) .stop)) .stop))
def zoq:V.Sched:=(sv [0,1,2,3,4,5,6,7] (Qah 8 [] .done .stop))
def zop:V.Sched:=(sv [0,1,2,3,4,5,6,7] (Qah 8 [] .done .stop))
def zoo:V.Sched:=(sv [0,1,2,3,4,5] (Qah 6 [] .done .stop))
def zon:V.Sched:=(sv (Qag 0 9) .done)
def zom:V.Sched:=(sv (Qag 0 11) (Qah 11 [0] (sv [12,13] (Qah 14 [] .done .stop)) .stop))
def zol:V.Sched:=(sv [0,1,2,3,4,5] (Qah 6 [0] (sv [7] (Qah 8 [] (Qah 9 [] .done .stop) .stop)) .stop))
def zok:V.Sched:=(sv [0,1,2,3,4,5,6] (Qah 7 [] (sv [8] (Qah 9 [] .done .stop)) .stop))
def zoj:V.Sched:=(sv [0,1,2,3,4,6] (Qah 5 [] (Qah 7 [] (sv [8,9,10] (Qah 11 [] (Qah 12 [] .done .stop) .stop)) .stop) .stop))
def zoi:V.Sched:=(sv [0,1,2,3,4,5,6,7,8,9,11,12] (Qah 10 [3,4] (Qah 13 [3,4,8,9] (Qah 14 [3,4] (Qah 15 [] .done .stop) .stop) .stop) (Qah 13 [3,4,8,9] (Qah 10 [3,4] (Qah 14 [3,4] (Qah 15 [] .done .stop) .stop) .stop) .stop)))
def ba:V.Sched:=(sv [0,1,2,3,4,5] (Qah 6 [] .done .stop))
def zoh:V.Sched:=(sv [0,1,2,3,4,5] (Qah 6 [4] (Qah 7 [] .done .stop) .stop))
def Gy:V.Sched:=(sv [0,1,2,3,4,5,6,7,8,9,10,11,12,14,15] (Qah 13 [] (sv [16] (Qah 17 [] .done .stop)) .stop))
def W9:V.Sched:=(sv [0,1,2,3,4,5,6,9] (Qah 7 [] (sv [8] .done) .stop))
def zog:V.Sched:=(sv [0,1,2,4] (Qah 3 [0,1] (Qah 5 [0,1] (sv [6] (Qah 7 [] (sv [8] (Qah 9 [] .done .stop)) .stop)) .stop) .stop))
def zof:V.Sched:=(sv [0,1,2,3,5,6,7,8] (Qah 4 [6] (Qah 9 [] (sv [10] (Qah 11 [] .done .stop)) .stop) .stop))
def zoe:V.Sched:=(sv (Qag 0 13) (Qah 13 [] .done .stop))
def zod:V.Sched:=(sv [0,1,2,3,4] (Qah 5 [] .done .stop))
def zoc:V.Sched:=(sv (Qag 0 10) (Qah 10 [3,7] (.e 11 (Qag 0 10) (.e 12 (Qag 0 10) (Qah 13 [] (Qah 14 [] .done .stop) .stop) .stop) (.e 12 (Qag 0 10) (.e 11 (Qag 0 10) (Qah 13 [] (Qah 14 [] .done .stop) .stop) .stop) .stop)) (.e 11 (Qag 0 10) (Qah 10 [3,7] (.e 12 (Qag 0 10) (Qah 13 [] (Qah 14 [] .done .stop) .stop) .stop) (.e 12 (Qag 0 10) (Qah 10 [3,7] (Qah 13 [] (Qah 14 [] .done .stop) .stop) .stop) .stop)) (.e 12 (Qag 0 10) (Qah 10 [3,7] (.e 11 (Qag 0 10) (Qah 13 [] (Qah 14 [] .done .stop) .stop) .stop) (.e 11 (Qag 0 10) (Qah 10 [3,7] (Qah 13 [] (Qah 14 [] .done .stop) .stop) .stop) .stop)) .stop))))
def zob:V.Sched:=(sv (Qag 0 9) (Qah 9 [5] (sv [10,11,12,13,14,15,16,17,18,19,20,21,22,23,24,25,26,27,28,29,30,31,36,37] (Qah 32 [37] (sv [33,34,35,38,39,40,41] .done) .stop)) .stop))
def zoa:V.Sched:=(sv [0,1,2,3,4,5,6,7] (Qah 8 [] (sv [9,10] (Qah 11 [] .done .stop)) .stop))
def zn9:V.Sched:=(sv (Qag 0 10) (Qah 10 [3,7] (.e 11 (Qag 0 10) (.e 12 (Qag 0 10) (Qah 13 [] (Qah 14 [] .done .stop) .stop) .stop) (.e 12 (Qag 0 10) (.e 11 (Qag 0 10) (Qah 13 [] (Qah 14 [] .done .stop) .stop) .stop) .stop)) (.e 11 (Qag 0 10) (Qah 10 [3,7] (.e 12 (Qag 0 10) (Qah 13 [] (Qah 14 [] .done .stop) .stop) .stop) (.e 12 (Qag 0 10) (Qah 10 [3,7] (Qah 13 [] (Qah 14 [] .done .stop) .stop) .stop) .stop)) (.e 12 (Qag 0 10) (Qah 10 [3,7] (.e 11 (Qag 0 10) (Qah 13 [] (Qah 14 [] .done .stop) .stop) .stop) (.e 11 (Qag 0 10) (Qah 10 [3,7] (Qah 13 [] (Qah 14 [] .done .stop) .stop) .stop) .stop)) .stop))))
def zn8:V.Sched:=(sv [0,1,2,3] (Qah 4 [1] (sv [5] .done) .stop))
def zn7:V.Sched:=(sv [0,1,2,3,4,5,6,7,8,9,10,11,12,13,14,15,16,17,18,19,20,22] (Qah 21 [] (sv [23,24] (Qah 25 [] .done .stop)) .stop))
def zn5:V.Sched:=(sv [0,1,2,3,4] (Qah 5 [] (Qah 6 [] .done .stop) .stop))
def zn4:V.Sched:=(sv [0,1,2,3,4] (Qah 5 [] .done .stop))
def zn6:V.Sched:=(sv [0,1,2,3,4,5] (Qah 6 [] .done .stop))
def W8:V.Sched:=(sv (Qag 0 30) (Qah 30 [] (sv (Qag 31 9) (Qah 40 [] (sv [41] (Qah 42 [] .done .stop)) .stop)) .stop))
def zn3:V.Sched:=(sv (Qag 0 12) .done)
def zn2:V.Sched:=(sv [0,1,3,4] (Qah 2 [4] (Qah 5 [] (sv [6] (Qah 7 [] .done .stop)) .stop) .stop))
def zn1:V.Sched:=(sv (Qag 0 10) (Qah 10 [7] (Qah 11 [] .done .stop) .stop))
def zn0:V.Sched:=(sv [0,1,2,4,5,6] (Qah 3 [5,6] (Qah 7 [] (sv [8] (Qah 9 [] (Qah 10 [0,1,2,4,5,6,8] (Qah 11 [] .done .stop) .stop) (Qah 10 [0,1,2,4,5,6,8] (Qah 9 [] (Qah 11 [] .done .stop) .stop) .stop))) (Qah 10 [0,1,2,4,5,6] (Qah 7 [] (sv [8] (Qah 9 [] (Qah 11 [] .done .stop) .stop)) .stop) .stop)) (Qah 10 [0,1,2,4,5,6] (Qah 3 [5,6] (Qah 7 [] (sv [8] (Qah 9 [] (Qah 11 [] .done .stop) .stop)) .stop) .stop) .stop)))
def znz:V.Sched:=(sv [0,1,2,4,5,6] (Qah 3 [5,6] (Qah 7 [] (sv [8] (Qah 9 [] (Qah 10 [0,1,2,4,5,6,8] (Qah 11 [] .done .stop) .stop) (Qah 10 [0,1,2,4,5,6,8] (Qah 9 [] (Qah 11 [] .done .stop) .stop) .stop))) (Qah 10 [0,1,2,4,5,6] (Qah 7 [] (sv [8] (Qah 9 [] (Qah 11 [] .done .stop) .stop)) .stop) .stop)) (Qah 10 [0,1,2,4,5,6] (Qah 3 [5,6] (Qah 7 [] (sv [8] (Qah 9 [] (Qah 11 [] .done .stop) .stop)) .stop) .stop) .stop)))
def zny:V.Sched:=(sv [0,1,2,3,5,6,7,8] (Qah 4 [6,8] (Qah 9 [] (sv [10] (Qah 11 [] .done .stop)) .stop) .stop))
def znx:V.Sched:=(sv [0,1,2,3,4,5,6,7] (Qah 8 [6] (Qah 9 [] .done .stop) .stop))
def znw:V.Sched:=(sv (Qag 0 9) .done)
def znv:V.Sched:=(sv (Qag 0 9) .done)
def znu:V.Sched:=(sv [0,1,2,3] (Qah 4 [] (Qah 5 [] .done .stop) .stop))
def znt:V.Sched:=(sv [0,1,2,3,4,5,7] (Qah 6 [0,7] (Qah 8 [] .done .stop) .stop))
def zns:V.Sched:=(sv [0,1] (Qah 2 [0] (Qah 3 [] (sv [4] .done) .stop) .stop))
def znr:V.Sched:=(sv [0,1,2,3,4,5] (Qah 6 [] (Qah 7 [] .done .stop) .stop))
def znq:V.Sched:=(sv [0,1,2,3,4,5,6,7] (Qah 8 [6] (Qah 9 [] .done .stop) .stop))
def znp:V.Sched:=(sv (Qag 0 12) (Qah 12 [] .done .stop))
def zno:V.Sched:=(sv [0,1,2,3,4,5,6] (Qah 7 [0] (Qah 8 [] .done .stop) .stop))
def znn:V.Sched:=(sv [0,1,2] (Qah 3 [0] (sv [4,5] (Qah 6 [] .done .stop)) .stop))
def znj:V.Sched:=(sv [0,1,2,3,4,5,6,7,8,9,10,11,13,14,15,16,17,18,19,20,21,22,23,24] (Qah 12 [16,21,24] (Qah 25 [] (sv [26] (Qah 27 [] .done .stop)) .stop) .stop))
def zni:V.Sched:=(sv (Qag 0 39) (Qah 39 [] (sv [40,41,42,43,44,45,46] (Qah 47 [] (sv [48,49] .done) .stop)) .stop))
def znh:V.Sched:=(sv (Qag 0 14) (Qah 14 [] (sv [15] .done) .stop))
def zng:V.Sched:=(sv (Qag 0 25) (Qah 25 [] (sv [26] (Qah 27 [] .done .stop)) .stop))
def zne:V.Sched:=(sv (Qag 0 12) (Qah 12 [] .done .stop))
def znf:V.Sched:=(sv (Qag 0 20) (Qah 20 [] (sv [21] .done) .stop))
def Pb:V.Sched:=(sv (Qag 0 14) (Qah 14 [] (sv [15] .done) .stop))
def Pa:V.Sched:=(sv (Qag 0 25) (Qah 25 [] (sv [26] (Qah 27 [] .done .stop)) .stop))
def Ll:V.Sched:=(sv [0,1,2,3] (Qah 4 [3] (Qah 5 [] (Qah 6 [] .done .stop) .stop) .stop))
def znd:V.Sched:=(sv [0,1,2,3,4,5] (Qah 6 [] (Qah 7 [] .done .stop) .stop))
theorem zb:yf Tryz.prog infoTree.get:=Tr.ok _ zs9
def cfg(n:Nat)(G:List Nat:=[])(W:List Nat:=[]):Cfg:={n:=n,I:=infoTree.get,G:=G,W:=W}
theorem Qaf{p:Prop}(h:p:=by repeat(first|exact Tv|refine⟨Tq,?_⟩)):p:=h
theorem Qaj{q:Prop}(h:q):(True/\q)/\True:=⟨⟨Tv,h⟩,Tv⟩
theorem Qak{S:Store}{b:Nat}{x:AObj}{K:AObj->Prop}(k:K x)(h:S.obj b=some x:=by assumption):optK (Store.obj S b) K:=za _ h k
theorem Qai{p q:Prop}(h:q)(c:p:=by repeat(first|exact Tv|refine⟨rfl,?_⟩|refine⟨optR (optR (optR (za _ (zc _ _ _) rfl))),?_⟩|refine⟨za (o:=Store.obj _ _) _ (by assumption) rfl,?_⟩|refine⟨⟨by decide,zf (by assumption) rfl⟩,?_⟩)):(p/\q)/\True:=⟨⟨c,h⟩,Tv⟩
theorem Qe{p:Prop}(h:p:=by repeat(first|exact Tv|refine⟨rfl,?_⟩|refine⟨optR (optR (optR (za _ (zc _ _ _) rfl))),?_⟩|refine⟨za (o:=Store.obj _ _) _ (by assumption) rfl,?_⟩|refine⟨⟨by decide,zf (by assumption) rfl⟩,?_⟩)):p:=h
abbrev Jb:=ACalls Tryz.prog
theorem zss(n:Int)(st:Store)(R:Ja)(h:∀z:Bool,(z=true↔Fq n)->R (bool z) st):Jb 191 [int n] st R:=by
 refine Qa (c:=cfg 9) zb Tryz.func191 ?_
 repeat' (first|refine bcd (λ_=>?_) (λ_=>?_)|refine zk (λ_=>?_) (λ_=>?_)|refine Qd ?_|fail)
 all_goals
  refine ret (h _ ?_)
  unfold Fq
  simp only[decide_eq_true_eq,decide_eq_false_iff_not,Fag,false_iff,true_iff,beq_iff_eq,bne_iff_ne,beq_eq_false_iff_ne,ne_eq,reduceCtorEq]at*
  omega
theorem W0(n:Int)(st:Store)(R:Ja)(h:∀z:Bool,(z=true↔1<=n/\n<=128)->R (bool z) st):Jb 137 [int n] st R:=by
 refine Qa (c:=cfg 9) zb Tryz.func137 ?_
 repeat' (first|refine bcd (λ_=>?_) (λ_=>?_)|refine zk (λ_=>?_) (λ_=>?_)|refine Qd ?_|fail)
 all_goals
  refine ret (h _ ?_)
  simp only[decide_eq_true_eq,decide_eq_false_iff_not,Fag,false_iff,true_iff,beq_iff_eq,bne_iff_ne,beq_eq_false_iff_ne,ne_eq,reduceCtorEq]at*
  omega
theorem zqs(p:Vc)(st:Store)(R:Ja)(h:∀z:Bool,(z=true↔k7 p.1 p.2)->R (bool z) st):Jb 309 [.agg (zx p)] st R:=by
 refine Qa (c:=cfg 21) zb Tryz.func309 ?_
 repeat' (first|refine bcd (λ_=>?_) (λ_=>?_)|refine zk (λ_=>?_) (λ_=>?_)|refine Qd ?_|fail)
 all_goals
  refine ret (h _ ?_)
  unfold k7
  simp only[decide_eq_true_eq,decide_eq_false_iff_not,Fag,false_iff,true_iff,beq_iff_eq,bne_iff_ne,beq_eq_false_iff_ne,ne_eq,reduceCtorEq]at*
  omega
theorem zyl(b:Bld)(st:Store)(R:Ja)(h:∀z:Bool,(z=true↔yv b)->R (bool z) st):Jb 282 [.agg (zn b)] st R:=by
 refine Qa (c:=cfg 41) zb Tryz.func282 ?_
 repeat' (first|refine bcd (λ_=>?_) (λ_=>?_)|refine zk (λ_=>?_) (λ_=>?_)|refine Qd ?_|fail)
 all_goals
  refine ret (h _ ?_)
  unfold yv
  simp only[decide_eq_true_eq,decide_eq_false_iff_not,Fag,false_iff,true_iff,beq_iff_eq,bne_iff_ne,beq_eq_false_iff_ne,ne_eq,reduceCtorEq]at*
  omega
theorem zx9(g:Gnd)(b:Bld)(hg:zp g)(hb:yv b)(st:Store)(R:Ja)(h:∀z:Bool,(z=true↔onP g b)->R (bool z) st):Jb 283 [.agg (zo g),.agg (zn b)] st R:=by
 obtain⟨h1,h2,_,_⟩:=hg;obtain⟨_,_,h3,h4⟩:=hb
 refine Qa (c:=cfg 33) zb Tryz.func283 ?_
 repeat' (first|refine bcd (λ_=>?_) (λ_=>?_)|refine zk (λ_=>?_) (λ_=>?_)|refine Qd ?_|fail)
 all_goals
  refine ret (h _ ?_)
  unfold onP
  simp only[decide_eq_true_eq,decide_eq_false_iff_not,Fag,false_iff,true_iff,beq_iff_eq,bne_iff_ne,beq_eq_false_iff_ne,ne_eq,reduceCtorEq]at*
  omega
theorem zsx(g:Gnd)(t:Int)(hg:zp g)(st:Store)(R:Ja)(h:∀z:Bool,(z=true↔0<=t/\t<g.W*g.H)->R (bool z) st):Jb 287 [.agg (zo g),int t] st R:=by
 have hm:=qm hg
 refine Qa (c:=cfg 16) zb Tryz.func287 ?_
 repeat' (first|refine bcd (λ_=>?_) (λ_=>?_)|refine zk (λ_=>?_) (λ_=>?_)|refine Qd ?_|fail)
 all_goals
  refine ret (h _ ?_)
  simp only[decide_eq_true_eq,decide_eq_false_iff_not,Fag,false_iff,true_iff,beq_iff_eq,bne_iff_ne,beq_eq_false_iff_ne,ne_eq,reduceCtorEq]at*
  omega
theorem mf(g:Gnd)(t:Int)(hg:zp g)(st:Store)(R:Ja)(h:∀z:Bool,(z=true↔wc g t)->R (bool z) st):Jb 192 [.agg (zo g),int t] st R:=by
 refine Qa (c:=cfg 12) zb Tryz.func192 ?_
 repeat' (first|refine bcd (λ_=>?_) (λ_=>?_)|refine zk (λ_=>?_) (λ_=>?_)|refine Qd ?_|(refine zsx _ _ hg _ _ ?_;rintro(_|_) hz)|fail)
 all_goals
  refine ret (h _ ?_)
  unfold wc
  simp only[decide_eq_true_eq,decide_eq_false_iff_not,Fag,false_iff,true_iff,beq_iff_eq,bne_iff_ne,beq_eq_false_iff_ne,ne_eq,reduceCtorEq]at*
  omega
theorem ztz(g:Gnd)(l:List Bld)(st:Store)(R:Ja)(h:∀z:Bool,(z=true↔g.T.length>700\/l.length>30)->R (bool z) st):Jb 125 [.agg (zo g),lst 6 zn l] st R:=by
 refine Qa (c:=cfg 14) zb Tryz.func125 ?_
 repeat' (first|refine bcd (λ_=>?_) (λ_=>?_)|refine zk (λ_=>?_) (λ_=>?_)|refine Qd ?_|fail)
 all_goals
  refine ret (h _ ?_)
  simp only[decide_eq_true_eq,decide_eq_false_iff_not,Fag,false_iff,true_iff,beq_iff_eq,bne_iff_ne,beq_eq_false_iff_ne,ne_eq,reduceCtorEq,zr]at*
  omega
theorem zt0(w:Wld)(st:Store)(R:Ja)(h:∀z:Bool,(z=true↔Kc w)->R (bool z) st):Jb 72 [.agg (zu w)] st R:=by
 refine Qa (c:=cfg 14) zb Tryz.func72 ?_
 repeat' (first|refine bcd (λ_=>?_) (λ_=>?_)|refine zk (λ_=>?_) (λ_=>?_)|refine Qd ?_|(refine ztz w.G w.B _ _ ?_;rintro(_|_) hz)|fail)
 all_goals
  refine ret (h _ ?_)
  unfold Kc
  simp only[decide_eq_true_eq,decide_eq_false_iff_not,Fag,false_iff,true_iff,beq_iff_eq,bne_iff_ne,beq_eq_false_iff_ne,ne_eq,reduceCtorEq,zr]at*
  omega
theorem zzg(w:Wld)(u:Unt)(hg:zp w.G)(st:Store)(R:Ja)(h:∀z:Bool,(z=true↔xh w u)->R (bool z) st):Jb 113 [.agg (zu w),.agg (zj u)] st R:=by
 refine Qa (c:=cfg 90) zb Tryz.func113 ?_
 repeat' (first|refine bcd (λ_=>?_) (λ_=>?_)|refine zk (λ_=>?_) (λ_=>?_)|refine Qd ?_|(refine zss u.kind _ _ ?_;rintro(_|_) hz)|(refine mf w.G u.goal hg _ _ ?_;rintro(_|_) hz)|(refine mf w.G u.next hg _ _ ?_;rintro(_|_) hz)|fail)
 all_goals
  refine ret (h _ ?_)
  simp only[decide_eq_true_eq,decide_eq_false_iff_not,Fag,false_iff,true_iff,beq_iff_eq,bne_iff_ne,beq_eq_false_iff_ne,ne_eq,reduceCtorEq,xh,Fq,wc]at*
  first|omega|(clear h;rcases Decidable.em (u.state=1)with e1|e1<;>rcases Decidable.em (u.goal=-1)with e2|e2<;>simp[bne,zyq,e1,e2]at*<;>omega)
theorem zsh(l:List UInt8)(hl:l.length<=1000000000000)(hne:0<l.length)(st:Store)(R:Ja)(h:∀m:UInt8,m∈l->(∀t∈l,t.toNat<=m.toNat)->R (u8 m) st):Jb 138 [qk l] st R:=by
 refine Qa (c:=cfg 25) zb Tryz.func138 ?_
 refine zk (λh1=>?_) (λh1=>?_)
 ·rw[zr]at h1
  simp at h1
  omega
 refine⟨0,rfl,za _ (yd hne) ?_⟩
 refine AWp.loop (σ:=Nat×UInt8) ⟨λs=>[(0,.av (qk l)),(3,.av (u8 s.2)),(4,.av (int (s.1:Nat)))],λ_=>[],
  λs st'=>(1<=s.1/\s.1<=l.length)/\st'=st/\s.2∈l/\∀t∈l.take s.1,t.toNat<=s.2.toNat,λs=>l.length-s.1⟩ zb ?_ ?_
 ·refine⟨(1,l[0]),Tv,⟨⟨Fak _,hne⟩,rfl,Fab hne,λt ht=>?_⟩,Qaf,Tv⟩
  have:l.take 1=[l[0]]:=by
   cases l with
   |nil=>simp at hne
   |cons a l=>rfl
  rw[this]at ht
  simp at ht
  rw[ht]
  exact Fak _
 ·rintro⟨i,m⟩ st' ⟨⟨hi1,hi⟩,rfl,hm,hall⟩
  simp only at hi1 hi hm hall
  refine zk (λh1=>?_) (λh1=>?_)
  ·have hlt:i<l.length:=Av h1
   refine⟨i,rfl,za _ (yd hlt) ?_⟩
   refine⟨⟨by omega,by omega⟩,?_⟩
   have hmax:max2 (m.toNat:Int) (l[i].toNat:Int)=((if l[i].toNat>m.toNat then l[i]else m:UInt8).toNat:Int):=by
    unfold max2
    by_cases hg:l[i].toNat>m.toNat
    ·rw[if_pos hg,decide_eq_true (by omega)];rfl
    ·rw[if_neg hg,decide_eq_false (by omega)];rfl
   refine⟨(i+1,if l[i].toNat>m.toNat then l[i]else m),?_,⟨⟨by omega,hlt⟩,rfl,?_,λt ht=>?_⟩,⟨Tq,?_,Tq,Tv⟩,Tv⟩
   ·show l.length-(i+1)<l.length-i
    omega
   ·show(if l[i].toNat>m.toNat then l[i]else m)∈l
    split
    ·exact Fab hlt
    ·exact hm
   ·show t.toNat<=(if l[i].toNat>m.toNat then l[i]else m:UInt8).toNat
    rw[Fac hlt]at ht
    rcases Fai.1 ht with ht|ht
    ·have:=hall t ht
     split<;>omega
    ·simp at ht
     subst ht
     split<;>omega
   ·show LV.le (.av (.s (.int .u8 (max2 (m.toNat:Int) (l[i].toNat:Int))))) _
    rw[hmax]
    exact Tq
  ·have hge:i=l.length:=Bu h1 hi
   subst hge
   rw[Fax]at hall
   exact⟨_,st',Tt,Store.Has.refl st',h m hm hall⟩
theorem Rv(g:Gnd)(hg:g.fits)(st:Store)(R:Ja)(h:∀b:Bool,(b=true↔zp g)->R (bool b) st):Jb 88 [.agg (zo g)] st R:=by
 refine Qa (c:=cfg 28) zb Tryz.func88 ?_
 refine W0 g.W _ _ (λb hb=>?_)
 cases b with
 |false=>
  refine⟨_,st,Tt,Store.Has.refl st,h _ ?_⟩
  simp only[Fag,false_iff]at hb⊢
  exact λhp=>hb hp.1
 |true=>
  refine W0 g.H _ _ (λb2 hb2=>?_)
  cases b2 with
  |false=>
   refine⟨_,st,Tt,Store.Has.refl st,h _ ?_⟩
   simp only[Fag,false_iff]at hb2⊢
   exact λhp=>hb2 hp.2.1
  |true=>
   have hm:=W3 (hb.1 rfl) (hb2.1 rfl)
   refine⟨⟨by omega,by omega⟩,?_⟩
   refine zk (λh1=>⟨_,st,Tt,Store.Has.refl st,h _ ?_⟩) (λh1=>?_)
   ·rw[zr]at h1
    simp only[Fag,false_iff]
    intro hp
    have:=hp.2.2.1
    simp[this]at h1
   ·rw[zr]at h1
    have h1:(g.T.length:Int)=g.W*g.H:=by simpa using h1
    refine zsh g.T hg (by omega) _ _ (λm hm1 hm2=>?_)
    refine⟨_,st,Tt,Store.Has.refl st,h _ ?_⟩
    rw[decide_eq_true_iff]
    constructor
    ·intro h2
     refine⟨hb.1 rfl,hb2.1 rfl,h1,λt ht=>?_⟩
     have:=hm2 t ht
     omega
    ·intro hp
     have:=hp.2.2.2 m hm1
     omega
theorem zty(g:Gnd)(hg:g.fits)(st:Store)(R:Ja)(h:∀b:Bool,(b=true↔zp g)->R (bool b) st):Jb 36 [.agg (zo g)] st R:=by
 refine Qa (c:=cfg 46) zb Tryz.func36 ?_
 have no:¬zp g->R (bool false) st:=λhn=>h false (by simpa using hn)
 refine zk (λh1=>⟨_,st,Tt,Store.Has.refl st,no ?_⟩) (λh1=>?_)
 ·intro hp;have:=hp.1;simp at h1;omega
 refine zk (λh2=>⟨_,st,Tt,Store.Has.refl st,no ?_⟩) (λh2=>?_)
 ·intro hp;have:=hp.1;simp at h2;omega
 refine zk (λh3=>⟨_,st,Tt,Store.Has.refl st,no ?_⟩) (λh3=>?_)
 ·intro hp;have:=hp.2.1;simp at h3;omega
 refine zk (λh4=>⟨_,st,Tt,Store.Has.refl st,no ?_⟩) (λh4=>?_)
 ·intro hp;have:=hp.2.1;simp at h4;omega
 have hW:1<=g.W/\g.W<=128:=by simp at h1 h2;omega
 have hH:1<=g.H/\g.H<=128:=by simp at h3 h4;omega
 have hm:=W3 hW hH
 refine⟨⟨by omega,by omega⟩,?_⟩
 refine zk (λh5=>⟨_,st,Tt,Store.Has.refl st,no ?_⟩) (λh5=>?_)
 ·rw[zr]at h5
  intro hp
  have:=hp.2.2.1
  simp[this]at h5
 rw[zr]at h5
 have h5:(g.T.length:Int)=g.W*g.H:=by simpa using h5
 refine AWp.loop (σ:=Nat) ⟨λi=>[(1,.bx 1 0),(3,.av (int (i:Nat)))],λ_=>[(1,zo g)],
  λi st'=>i<=g.T.length/\st'=st/\∀t∈g.T.take i,t.toNat<=5,λi=>g.T.length-i⟩ zb ?_ ?_
 ·exact⟨0,Tv,⟨Faq _,rfl,λt ht=>by simp at ht⟩,⟨Tq,Tq,Tv⟩,Qe⟩
 ·rintro i st' ⟨hi,rfl,hall⟩
  refine zk (λh6=>?_) (λh6=>?_)
  ·have hlt:i<g.T.length:=Av h6
   refine⟨i,rfl,za _ (yd hlt) ?_⟩
   refine zk (λh7=>⟨_,st',Tt,Store.Has.refl st',no ?_⟩) (λh7=>?_)
   ·intro hp
    have:=hp.2.2.2 _ (Fab hlt)
    simp at h7
    omega
   ·refine⟨⟨by omega,by omega⟩,?_⟩
    refine⟨i+1,?_,⟨hlt,rfl,λt ht=>?_⟩,⟨Tq,Tq,Tv⟩,Qe⟩
    ·show g.T.length-(i+1)<g.T.length-i
     omega
    ·rw[Fac hlt]at ht
     rcases Fai.1 ht with ht|ht
     ·exact hall t ht
     ·simp at ht
      subst ht
      simp at h7
      omega
  ·have hge:i=g.T.length:=Bu h6 hi
   subst hge
   rw[Fax]at hall
   exact⟨_,st',Tt,Store.Has.refl st',h true (by simpa using⟨hW,hH,h5,hall⟩)⟩
end Go.Proofs
