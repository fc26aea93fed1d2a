/- Ground of laws of thronglaw25: contracts and plain lemmas; no condition beyond the row's own. -/
import Derived.Test.YtdfpifbbcigelaaGreatKK
import Derived.Test.YtdfpifbbcigelaaGreatKJ
import Derived.Test.YtdfpifbbcigelaaGreatKI
set_option linter.unusedSimpArgs false
set_option linter.unusedVariables false
namespace Go.Proofs
open Go Go.V
set_option maxRecDepth 20000
set_option maxHeartbeats 4000000
theorem Hi(n:Int)(st:Store)(R:Ja)(h:R (int (nrm n)) st):Jb 219 [int n] st R:=by
 refine Qa (c:=cfg 5) zb Tryz.func219 ?_
 rw[<-zyi]at h
 exact ret h
theorem zyr(n:Int)(hn:ya n)(st:Store)(R:Ja)(h:R (int (-nrm n)) st):Jb 369 [int n] st R:=by
 refine Qa (c:=cfg 6) zb Tryz.func369 ?_
 refine Hi n _ _ ?_
 have:=j2 hn
 refine⟨⟨by omega,by omega⟩,?_⟩
 rw[show -nrm n=0-nrm n by omega]at h
 exact ret h
theorem Gw(a b:Int)(ha:ya a)(hb:ya b)(st:Store)(R:Ja)(h:R (int (yy a b)) st):Jb 220 [int a,int b] st R:=by
 refine Qa (c:=cfg 30) zb Tryz.func220 ?_
 refine Hi a _ _ ?_
 refine Hi b _ _ ?_
 have h1:=j2 ha
 have h2:=j2 hb
 unfold yy at h
 generalize nrm a=x at*
 generalize nrm b=y at*
 have k1:x+y>9223372036854775807->R (int 9223372036854775807) st:=λhh=>by rw[show xo (x+y)=9223372036854775807 by unfold xo;simp[hh]]at h;exact h
 have k2:x+y< -9223372036854775807->R (int (-9223372036854775807)) st:=λhh=>by rw[show xo (x+y)=-9223372036854775807 by unfold xo;rw[if_neg (by omega),if_pos hh]]at h;exact h
 have k3:¬x+y>9223372036854775807->¬x+y< -9223372036854775807->ya (x+y)/\R (int (x+y)) st:=λhh hh'=>⟨⟨by omega,by omega⟩,by rw[show xo (x+y)=x+y by unfold xo;rw[if_neg hh,if_neg hh']]at h;exact h⟩
 have fin:¬x+y>9223372036854775807->¬x+y< -9223372036854775807->ya (x+y)/\∃r st',AV.le (int (x+y)) r/\st.Has st'/\R r st':=λhh hh'=>⟨(k3 hh hh').1,ret (k3 hh hh').2⟩
 have e:Int.negSucc 9223372036854775806=-9223372036854775807:=rfl
 refine bcd (λc1=>?_) (λc1=>?_)
 ·refine⟨⟨by omega,by omega⟩,?_⟩
  refine bcd (λc2=>?_) (λc2=>?_)
  ·exact ret (k1 (by omega))
  ·refine bcd (λc3=>?_) (λc3=>?_)
   ·omega
   ·exact fin (by omega) (by omega)
 ·refine bcd (λc3=>?_) (λc3=>?_)
  ·refine⟨⟨by omega,by omega⟩,?_⟩
   refine bcd (λc4=>?_) (λc4=>?_)
   ·exact ret (k2 (by omega))
   ·exact fin (by omega) (by omega)
  ·exact fin (by omega) (by omega)
theorem F7(a b:Int)(ha:ya a)(hb:ya b)(st:Store)(R:Ja)(h:R (int (yn a b)) st):Jb 303 [int a,int b] st R:=by
 refine Qa (c:=cfg 9) zb Tryz.func303 ?_
 refine zyr b hb _ _ ?_
 have h2:=j2 hb
 exact Gw a (-nrm b) ha ⟨by omega,by omega⟩ _ _ (ret h)
theorem cf(n:Int)(hn:ya n)(st:Store)(R:Ja)(h:R (.tup [u64 (asz n),bool (decide (nrm n<0))]) st):Jb 371 [int n] st R:=by
 refine Qa (c:=cfg 13) zb Tryz.func371 ?_
 refine Hi n _ _ ?_
 have h1:=j2 hn
 unfold asz at h
 generalize nrm n=x at*
 refine bcd (λc1=>?_) (λc1=>?_)
 ·refine⟨⟨by omega,by omega⟩,?_⟩
  rw[if_pos c1,show decide (x<0)=true by simp[c1]]at h
  rw[<-Bc (v:=-x) (by omega) (by omega),show -x=0-x by omega]at h
  exact ret h
 ·rw[if_neg c1,show decide (x<0)=false by simp[c1]]at h
  rw[<-Bc (v:=x) (by omega) (by omega)]at h
  exact ret h
theorem Vn(x y:Int)(hx:0<=x)(hx2:x<18446744073709551616)(hy:0<=y)(hy2:y<18446744073709551616)(st:Store)(R:Ja)(h:R (.tup (xz (x*y))) st):
  Jb 339 [u64 x,u64 y] st R:=by
 refine Qa (c:=cfg 51) zb Tryz.func339 ?_
 refine⟨by decide,?_⟩
 refine⟨by decide,?_⟩
 refine⟨by decide,?_⟩
 refine⟨by decide,?_⟩
 refine⟨by decide,?_⟩
 refine ret ((congrArg (λl=>R (.tup l) st) ?_).mpr h)
 obtain⟨p00,p10,p01,p11,e1,e2,e3,e4,e5,b⟩:=eo x y hx hx2 hy hy2
 simp only[zry,Kw hx,Kw hy,Ky,<-e1,<-e2,<-e3,<-e4]
 rw[Kw (Fc9 _ (by decide))]
 unfold xz u64
 refine congr (congrArg _ ?_) rfl
 refine congrArg (λn=>AV.s (.int .u64 n)) ?_
 omega
theorem R3(x y:Int)(hx:0<=x)(hx2:x<18446744073709551616)(hy:0<=y)(hy2:y<18446744073709551616)(st:Store)(R:Ja)(h:R (.agg (xz (x*y))) st):
  Jb 301 [u64 x,u64 y] st R:=by
 refine Qa (c:=cfg 46) zb Tryz.func301 ?_
 refine⟨by decide,?_⟩
 refine⟨by decide,?_⟩
 refine⟨by decide,?_⟩
 refine⟨by decide,?_⟩
 refine⟨by decide,?_⟩
 refine⟨by decide,?_⟩
 refine⟨by decide,?_⟩
 refine⟨by decide,?_⟩
 refine ret ((congrArg (λl=>R (.agg l) st) ?_).mpr h)
 obtain⟨p00,p10,p01,p11,e1,e2,e3,e4,e5,b⟩:=eo x y hx hx2 hy hy2
 simp only[zxr,yda,Kw hx,Kw hy,Ky,<-e1,<-e2,<-e3,<-e4]
 simp only[Kw (Fc9 _ (show(18446744073709551616:Int)≠0 by decide))]
 rw[zx8 (Fc9 _ (by decide)) (Fc9 _ (by decide)) (by omega)]
 refine Mx ?_ ?_
 ·omega
 ·omega
theorem Pg(x:Int)(hx:0<=x)(hx2:x<18446744073709551616)(st:Store)(R:Ja)(h:R (.agg (xz (x*x))) st):Jb 365 [u64 x] st R:=by
 refine Qa (c:=cfg 14) zb Tryz.func365 ?_
 exact Vn x x hx hx2 hx hx2 _ _ (ret h)
theorem uh(a b:Int)(ha:0<=a)(hb:0<=b)(st:Store)(R:Ja)(h:R (bool (decide (a<b))) st):Jb 364 [.agg (xz a),.agg (xz b)] st R:=by
 refine Qa (c:=cfg 24) zb Tryz.func364 ?_
 refine bcd (λc1=>?_) (λc1=>?_)
 ·exact ret (isT h (by simp;omega))
 ·refine z6 (λc2=>?_) (λc2=>?_)
  ·refine ret ?_
   have:decide (a<b)=decide (a%18446744073709551616<b%18446744073709551616):=by
    rw[Fbr];simp;omega
   rw[this]at h;exact h
  ·exact ret (isF h (by simp;omega))
theorem zzz(a b:Int)(ha:0<=a)(hb:0<=b)(st:Store)(R:Ja)(h:R (bool (decide (a<b))) st):Jb 298 [.agg (xz a),.agg (xz b)] st R:=by
 refine Qa (c:=cfg 24) zb Tryz.func298 ?_
 refine bcd (λc1=>?_) (λc1=>?_)
 ·exact ret (isT h (by simp;omega))
 ·refine z6 (λc2=>?_) (λc2=>?_)
  ·refine ret ?_
   have:decide (a<b)=decide (a%18446744073709551616<b%18446744073709551616):=by
    rw[Fbr];simp;omega
   rw[this]at h;exact h
  ·exact ret (isF h (by simp;omega))
theorem Ix(n:Int)(st:Store)(R:Ja)(h:R (int (nrm n)) st):Jb 81 [int n] st R:=by
 refine Qa (c:=cfg 6) zb Tryz.func81 ?_
 refine bcd (λc1=>?_) (λc1=>?_)
 ·rw[show nrm n=-9223372036854775807 by unfold nrm;rw[if_pos c1]]at h;exact ret h
 ·rw[show nrm n=n by unfold nrm;rw[if_neg c1]]at h;exact ret h
theorem zwe(n:Int)(hn:ya n)(st:Store)(R:Ja)(h:R (int (-nrm n)) st):Jb 408 [int n] st R:=by
 refine Qa (c:=cfg 6) zb Tryz.func408 ?_
 refine Ix n _ _ ?_
 have:=j2 hn
 refine⟨⟨by omega,by omega⟩,?_⟩
 rw[show -nrm n=0-nrm n by omega]at h
 exact ret h
theorem zw5(a b:Int)(ha:ya a)(hb:ya b)(st:Store)(R:Ja)(h:R (int (yy a b)) st):Jb 136 [int a,int b] st R:=by
 refine Qa (c:=cfg 28) zb Tryz.func136 ?_
 refine Ix a _ _ ?_
 refine Ix b _ _ ?_
 have h1:=j2 ha
 have h2:=j2 hb
 unfold yy at h
 generalize nrm a=x at*
 generalize nrm b=y at*
 have k1:x+y>9223372036854775807->R (int 9223372036854775807) st:=λhh=>by rw[show xo (x+y)=9223372036854775807 by unfold xo;simp[hh]]at h;exact h
 have k2:x+y< -9223372036854775807->R (int (-9223372036854775807)) st:=λhh=>by rw[show xo (x+y)=-9223372036854775807 by unfold xo;rw[if_neg (by omega),if_pos hh]]at h;exact h
 have k3:¬x+y>9223372036854775807->¬x+y< -9223372036854775807->ya (x+y)/\R (int (x+y)) st:=λhh hh'=>⟨⟨by omega,by omega⟩,by rw[show xo (x+y)=x+y by unfold xo;rw[if_neg hh,if_neg hh']]at h;exact h⟩
 have fin:¬x+y>9223372036854775807->¬x+y< -9223372036854775807->ya (x+y)/\∃r st',AV.le (int (x+y)) r/\st.Has st'/\R r st':=λhh hh'=>⟨(k3 hh hh').1,ret (k3 hh hh').2⟩
 refine bcd (λc1=>?_) (λc1=>?_)
 ·refine⟨⟨by omega,by omega⟩,?_⟩
  refine bcd (λc2=>?_) (λc2=>?_)
  ·exact ret (k1 (by omega))
  ·refine bcd (λc3=>?_) (λc3=>?_)
   ·omega
   ·exact fin (by omega) (by omega)
 ·refine bcd (λc3=>?_) (λc3=>?_)
  ·refine⟨⟨by omega,by omega⟩,?_⟩
   refine bcd (λc4=>?_) (λc4=>?_)
   ·exact ret (k2 (by omega))
   ·exact fin (by omega) (by omega)
  ·exact fin (by omega) (by omega)
theorem ic(a b:Int)(ha:ya a)(hb:ya b)(st:Store)(R:Ja)(h:R (int (yn a b)) st):Jb 368 [int a,int b] st R:=by
 refine Qa (c:=cfg 9) zb Tryz.func368 ?_
 refine zwe b hb _ _ ?_
 have h2:=j2 hb
 exact zw5 a (-nrm b) ha ⟨by omega,by omega⟩ _ _ (ret h)
theorem ig(n:Int)(hn:-9223372036854775807<=n/\n<=9223372036854775807)(st:Store)(R:Ja)(h:R (u64 (asz n)) st):Jb 366 [int n] st R:=by
 refine Qa (c:=cfg 10) zb Tryz.func366 ?_
 unfold asz at h
 rw[ji (by omega)]at h
 refine bcd (λc1=>?_) (λc1=>?_)
 ·refine⟨⟨by omega,by omega⟩,?_⟩
  rw[if_pos c1,<-Bc (v:=-n) (by omega) (by omega),show -n=0-n by omega]at h
  exact ret h
 ·rw[if_neg c1,<-Bc (v:=n) (by omega) (by omega)]at h
  exact ret h
theorem zvv(a b:Int)(ha:0<=a)(hb:0<=b)(hab:a+b<340282366920938463463374607431768211456)(st:Store)(R:Ja)(h:R (.agg (xz (a+b))) st):Jb 367 [.agg (xz a),.agg (xz b)] st R:=by
 refine Qa (c:=cfg 27) zb Tryz.func367 ?_
 refine bcd (λc1=>?_) (λc1=>?_)
 ·refine ret ((congrArg (λl=>R (.agg l) st) ?_).mpr h)
  simp only[Ky]at c1⊢
  refine Mx ?_ ?_
  ·omega
  ·omega
 ·refine ret ((congrArg (λl=>R (.agg l) st) ?_).mpr h)
  simp only[Ky]at c1⊢
  refine Mx ?_ ?_
  ·omega
  ·omega
theorem zae(x y c:Int)(hx:0<=x)(hy:0<=y)(hc:0<=c)(hc1:c<=1)(st:Store)(R:Ja)(h:R (.tup [u64 ((x+y+c)%18446744073709551616),u64 ((x+y+c)/18446744073709551616)]) st):
  Jb 440 [u64 x,u64 y,u64 c] st R:=by
 obtain⟨a,rfl⟩:=Fca hx
 obtain⟨b,rfl⟩:=Fca hy
 obtain⟨d,rfl⟩:=Fca hc
 exact yhc Tryz.laysNm725 a b d (by omega) h
theorem zap(a b:Int)(ha:0<=a)(hb:0<=b)(hab:a+b<340282366920938463463374607431768211456)(st:Store)(R:Ja)(h:R (.agg (xz (a+b))) st):Jb 407 [.agg (xz a),.agg (xz b)] st R:=by
 refine Qa (c:=cfg 29) zb Tryz.func407 ?_
 refine zae (a%18446744073709551616) (b%18446744073709551616) 0 (by omega) (by omega) (by omega) (by omega) _ _ ?_
 refine zae (a/18446744073709551616) (b/18446744073709551616) ((a%18446744073709551616+b%18446744073709551616+0)/18446744073709551616) (by omega) (by omega) (by omega) (by omega) _ _ ?_
 refine ret ((congrArg (λl=>R (.agg l) st) ?_).mpr h)
 refine Mx ?_ ?_
 ·omega
 ·omega
theorem K6{v:Vc}(h:v.ok):0<=asz v.1*asz v.1/\0<=asz v.2*asz v.2/\asz v.1*asz v.1<=85070591730234615847396907784232501249/\asz v.2*asz v.2<=85070591730234615847396907784232501249:=by
 obtain⟨h1,h2⟩:=h
 have a1:=Gr h1
 have a2:=Gr h2
 have b:∀x:Int,0<=x->x<=9223372036854775807->0<=x*x/\x*x<=85070591730234615847396907784232501249:=by
  intro x h3 h4
  refine⟨Fay h3 h3,?_⟩
  have h5:x*x<=9223372036854775807*9223372036854775807:=Fbk h4 h4 h3 (by decide)
  exact h5
 have b1:=b _ a1.1 a1.2
 have b2:=b _ a2.1 a2.2
 exact⟨b1.1,b2.1,b1.2,b2.2⟩
theorem ft(v:Vc)(hv:v.ok)(st:Store)(R:Ja)(h:R (.agg (xz (sqr v))) st):Jb 363 [.agg (zy v)] st R:=by
 refine Qa (c:=cfg 24) zb Tryz.func363 ?_
 have a1:=Gr hv.1
 have a2:=Gr hv.2
 have b:=K6 hv
 refine cf v.1 hv.1 _ _ ?_
 refine cf v.2 hv.2 _ _ ?_
 refine Pg (asz v.1) (by omega) (by omega) _ _ ?_
 refine Pg (asz v.2) (by omega) (by omega) _ _ ?_
 exact zap _ _ (by omega) (by omega) (by omega) _ _ (ret h)
theorem Mz(a b:Vc)(ha:a.ok)(hb:b.ok)(st:Store)(R:Ja)(h:R (.agg (zy (qq a b))) st):Jb 302 [.agg (zy a),.agg (zy b)] st R:=by
 refine Qa (c:=cfg 16) zb Tryz.func302 ?_
 refine Qc zb zti ?_
 refine⟨F7 a.1 b.1 ha.1 hb.1 _ _ ⟨Qe,?_⟩,Tv⟩
 refine⟨F7 a.2 b.2 ha.2 hb.2 _ _ ⟨Qe,?_⟩,Tv⟩
 refine Qao ?_
 exact ret h
theorem Ia(a b:Vc):(qq a b).ok:=⟨Gl _ _,Gl _ _⟩
theorem Mw(a b:Vc)(r:Int)(ha:a.ok)(hb:b.ok)(hr:r<=9223372036854775807)(st:Store)(R:Ja)(h:R (bool (near a b r)) st):Jb 295 [.agg (zy a),.agg (zy b),int r] st R:=by
 refine Qa (c:=cfg 17) zb Tryz.func295 ?_
 unfold near at h
 refine bcd (λc1=>?_) (λc1=>?_)
 ·exact ret (isF h (by simp;omega))
 ·have hb2:=K6 (Ia a b)
  refine Mz a b ha hb _ _ ?_
  refine ft _ (Ia a b) _ _ ?_
  refine((congrArg (λn=>Jb 365 [.s (.int .u64 n)] st _) (Bc (v:=r) (by omega) (by omega))).mpr ?_)
  refine Pg r (by omega) (by omega) _ _ ?_
  refine uh _ _ ?_ (Fay (by omega) (by omega)) _ _ (ret ?_)
  ·unfold sqr;omega
  ·have:decide (0<r/\sqr (qq a b)<r*r)=decide (sqr (qq a b)<r*r):=by
    rw[Fbr];simp;omega
   rw[this]at h;exact h
theorem zvm(a b:Vc)(ha:a.ok)(hb:b.ok)(st:Store)(R:Ja)(h:R (.agg (zy (qq a b))) st):Jb 300 [.agg (zy a),.agg (zy b)] st R:=by
 refine Qa (c:=cfg 16) zb Tryz.func300 ?_
 refine Qc zb ztj ?_
 refine⟨ic a.1 b.1 ha.1 hb.1 _ _ ⟨Qe,?_⟩,Tv⟩
 refine⟨ic a.2 b.2 ha.2 hb.2 _ _ ⟨Qe,?_⟩,Tv⟩
 refine Qao ?_
 exact ret h
theorem ul(n:Int):asz (nrm n)=asz n:=by unfold asz;rw[zyh]
theorem zvt(v:Vc)(hv:v.ok)(st:Store)(R:Ja)(h:R (.agg (xz (sqr v))) st):Jb 299 [.agg (zy v)] st R:=by
 refine Qa (c:=cfg 20) zb Tryz.func299 ?_
 have a1:=Gr hv.1
 have a2:=Gr hv.2
 have b:=K6 hv
 refine Qc zb ztk ?_
 refine⟨Ix v.1 _ _ ⟨Qe,?_⟩,Tv⟩
 refine⟨ig (nrm v.1) (j2 hv.1) _ _ ⟨Qe,?_⟩,Tv⟩
 refine⟨Ix v.2 _ _ ⟨Qe,?_⟩,Tv⟩
 refine⟨ig (nrm v.2) (j2 hv.2) _ _ ⟨Qe,?_⟩,Tv⟩
 rw[ul,ul]
 refine Qao ?_
 refine Qao ?_
 refine R3 (asz v.1) (asz v.1) (by omega) (by omega) (by omega) (by omega) _ _ ?_
 refine R3 (asz v.2) (asz v.2) (by omega) (by omega) (by omega) (by omega) _ _ ?_
 exact zvv _ _ (by omega) (by omega) (by omega) _ _ (ret h)
theorem zvl(a b:Vc)(r:Int)(ha:a.ok)(hb:b.ok)(hr:ya r)(st:Store)(R:Ja)(h:R (bool (near a b r)) st):Jb 207 [.agg (zy a),.agg (zy b),int r] st R:=by
 refine Qa (c:=cfg 21) zb Tryz.func207 ?_
 have hn:=j2 hr
 unfold near at h
 have hb2:=K6 (Ia a b)
 refine Ix r _ _ ?_
 refine bcd (λc1=>?_) (λc1=>?_)
 ·refine ret (isF h ?_)
  have:r<0:=by unfold nrm at c1;split at c1<;>omega
  simp;omega
 ·have hr0:nrm r=r:=by unfold nrm at c1⊢;split<;>omega
  rw[hr0]at c1 hn
  refine zvm a b ha hb _ _ ?_
  refine zvt _ (Ia a b) _ _ ?_
  refine((congrArg (λn=>Jb 301 [.s (.int .u64 n),.s (.int .u64 n)] st _) (show IntKind.u64.wrap (nrm r)=r by rw[hr0];exact Bc (v:=r) (by omega) (by omega))).mpr ?_)
  refine R3 r r (by omega) (by omega) (by omega) (by omega) _ _ ?_
  refine zzz _ _ ?_ (Fay (by omega) (by omega)) _ _ (ret ?_)
  ·unfold sqr;omega
  ·have:decide (0<r/\sqr (qq a b)<r*r)=decide (sqr (qq a b)<r*r):=by
    rw[Fbr];simp
    intro h1
    by_cases h0:r=0
    ·subst h0
     unfold sqr at h1;omega
    ·omega
   rw[this]at h;exact h
theorem ya8(g:Gnd)(hg:zn g)(t:Nat)(ht:(t:Int)<g.W*g.H)(p:Vc)(hp:qm p.1 p.2)(r:Int)(hr:0<r/\r<=262144)(st:Store)(R:Ja)(h:R (bool (decide (xm g t p r))) st):
  Jb 292 [.agg (zo g),int t,.agg (zy p),int r] st R:=by
 have hb:=Cm hg ht
 have hn:=zyu hg ht hp hr.1
 have hx:=Ie hg ht
 have hq:=Fx (t:=t) hg.1.1
 have hq2:=Fy (t:=t) hg.1.1
 have hg1:=hg.1
 have hg2:=hg.2.1
 have hp':=hp
 unfold qm at hp'
 refine Qa (c:=cfg 41) zb Tryz.func292 ?_
 refine Qc zb ztn ?_
 refine⟨by omega,?_⟩
 have q1:ya ((t:Int).tmod g.W*65536):=by rw[hq];unfold ya;omega
 have q2:ya ((t:Int).tdiv g.W):=by rw[hq2];unfold ya;omega
 have q3:ya ((t:Int).tdiv g.W*65536):=by rw[hq2];unfold ya;omega
 refine⟨q1,?_⟩
 refine⟨by omega,?_⟩
 refine⟨q2,?_⟩
 refine⟨q3,?_⟩
 refine Qao ?_
 refine Qap ?_
 have e1:(t:Int).tmod g.W*65536=tx g t:=by rw[hq];rfl
 have e2:(t:Int).tdiv g.W*65536=ty g t:=by rw[hq2];rfl
 rw[e1,e2]
 refine Qd ?_
 refine Qd ?_
 have c1:=P0 (x:=p.1) hx.1
 have c2:=P0 (x:=p.2) hx.2
 refine Mw p (Dy p.1 (tx g t),Dy p.2 (ty g t)) r ⟨⟨by omega,by omega⟩,⟨by omega,by omega⟩⟩ ⟨⟨by dsimp only;omega,by dsimp only;omega⟩,⟨by dsimp only;omega,by dsimp only;omega⟩⟩ (by omega) _ _ (ret ?_)
 rw[hn]
 exact h
theorem l6(x lo:Int)(hx:-1099511627776<=x/\x<=1099511627776)(hlo:0<=lo/\lo<=8323072)(st:Store)(R:Ja)(h:R (int (off x lo)) st):Jb 297 [int x,int lo,int (lo+65536)] st R:=by
 refine Qa (c:=cfg 19) zb Tryz.func297 ?_
 unfold off at h
 refine bcd (λc1=>?_) (λc1=>?_)
 ·refine Qd ?_
  rw[if_pos c1]at h
  exact ret h
 rw[if_neg c1]at h
 refine bcd (λc2=>?_) (λc2=>?_)
 ·refine Qd ?_
  rw[if_pos c2]at h
  exact ret h
 rw[if_neg c2]at h
 exact ret h
theorem zy7(g:Gnd)(hg:zn g)(t:Nat)(ht:(t:Int)<g.W*g.H)(p:Vc)(hp:qm p.1 p.2)(r:Int)(hr:0<r/\r<=262144)(st:Store)(R:Ja)(h:R (bool (decide (xm g t p r))) st):
  Jb 206 [.agg (zo g),int t,.agg (zy p),int r] st R:=by
 have hb:=Cm hg ht
 have hx:=Ie hg ht
 have hq:=Fx (t:=t) hg.1.1
 have hq2:=Fy (t:=t) hg.1.1
 have hg1:=hg.1
 have hg2:=hg.2.1
 have hp':=hp
 unfold qm at hp'
 have o1:=l7 hx.1 hp'.1
 have o2:=l7 hx.2 hp'.2
 have hm:=zy8 o1.1 o2.1 hr.1
 refine Qa (c:=cfg 56) zb Tryz.func206 ?_
 refine Qc zb zuq ?_
 refine⟨by omega,?_⟩
 have q1:ya ((t:Int).tmod g.W*65536):=by rw[hq];unfold ya;omega
 have q2:ya ((t:Int).tdiv g.W):=by rw[hq2];unfold ya;omega
 have q3:ya ((t:Int).tdiv g.W*65536):=by rw[hq2];unfold ya;omega
 refine⟨q1,?_⟩
 refine⟨by omega,?_⟩
 refine⟨q2,?_⟩
 refine⟨q3,?_⟩
 refine Qao ?_
 refine Qap ?_
 have e1:(t:Int).tmod g.W*65536=tx g t:=by rw[hq];rfl
 have e2:(t:Int).tdiv g.W*65536=ty g t:=by rw[hq2];rfl
 rw[e1,e2]
 refine Qc zb zup ?_
 refine Qd ?_
 refine Qd ?_
 refine⟨l6 p.1 (tx g t) hp'.1 hx.1 _ _ ⟨Qe,?_⟩,Tv⟩
 refine⟨l6 p.2 (ty g t) hp'.2 hx.2 _ _ ⟨Tv,?_⟩,Tv⟩
 refine Qap ?_
 refine Qap ?_
 unfold xm at h
 have no:¬(off p.1 (tx g t)<r/\off p.2 (ty g t)<r/\off p.1 (tx g t)*off p.1 (tx g t)+off p.2 (ty g t)*off p.2 (ty g t)<r*r)->R (bool false) st:=λhh=>isF h (decide_eq_false λk=>hh (hm.2 k))
 refine bcd (λc1=>?_) (λc1=>ret (no λk=>c1 k.1))
 refine bcd (λc2=>?_) (λc2=>ret (no λk=>c2 k.2.1))
 have s1:=Sf (a:=off p.1 (tx g t)) (by omega)
 have s2:=Sf (a:=off p.2 (ty g t)) (by omega)
 have s3:=Sf (a:=r) (by omega)
 refine Qd ?_
 refine Qd ?_
 refine Qd ?_
 refine Qd ?_
 exact ret h
theorem yeg(p:Vc)(r:Int)(st:Store)(R:Ja)(h:∀z:Bool,(z=true↔(0<=r/\r<=262144)/\qm p.1 p.2)->R (bool z) st):Jb 291 [.agg (zy p),int r] st R:=by
 refine Qa (c:=cfg 15) zb Tryz.func291 ?_
 repeat' (first|refine bcd (λ_=>?_) (λ_=>?_)|refine zj (λ_=>?_) (λ_=>?_)|refine Qd ?_|(refine zxv p _ _ ?_;rintro(_|_) hz)|fail)
 all_goals
  refine ret (h _ ?_)
  simp only[decide_eq_true_eq,decide_eq_false_iff_not,Fad,false_iff,true_iff,beq_iff_eq,bne_iff_ne,beq_eq_false_iff_ne,ne_eq,reduceCtorEq,qm]at*
  omega
theorem ii(r:Int)(hr:0<r/\r<=262144)(st:Store)(R:Ja)(h:R (int r) st):Jb 296 [int r] st R:=by
 refine Qa (c:=cfg 6) zb Tryz.func296 ?_
 have e:min2 (max2 r 0) 262144=r:=by rw[min2_eq,max2_eq];omega
 rw[<-e]at h
 exact ret h
theorem ux(p:Vc)(r:Int)(q:Vc)(s:Int)(hp:p.ok)(hq:q.ok)(hr:0<r/\r<=262144)(hs:0<s/\s<=262144)(st:Store)(R:Ja)(h:R (bool (jx p r q s)) st):
  Jb 199 [.agg (zy p),int r,.agg (zy q),int s] st R:=by
 refine Qa (c:=cfg 18) zb Tryz.func199 ?_
 refine Qc zb zus ?_
 refine⟨ii r hr _ _ ⟨Qe,?_⟩,Tv⟩
 refine⟨ii s hs _ _ ⟨Qe,?_⟩,Tv⟩
 refine Qd ?_
 refine⟨Mw p q (r+s) hp hq (by omega) _ _ ⟨Tv,?_⟩,Tv⟩
 exact⟨⟨Tv,ret h⟩,Tv⟩
theorem zw4(p:Vc)(r:Int)(q:Vc)(s:Int)(hp:p.ok)(hq:q.ok)(hr:0<r/\r<=262144)(hs:0<s/\s<=262144)(st:Store)(R:Ja)(h:R (bool (jx p r q s)) st):
  Jb 124 [.agg (zy p),int r,.agg (zy q),int s] st R:=by
 have e1:max2 0 (min2 r 262144)=r:=by rw[min2_eq,max2_eq];omega
 have e2:max2 0 (min2 s 262144)=s:=by rw[min2_eq,max2_eq];omega
 unfold jx at h
 rw[<-e1,<-e2]at h
 refine Qa (c:=cfg 20) zb Tryz.func124 ?_
 refine ze (by rw[e1,e2];omega) ?_
 exact zvl p q _ hp hq (by rw[e1,e2];exact⟨by omega,by omega⟩) _ _ (ret h)
theorem Qaa{p:Prop}(h:p:=by simp;omega):p:=h
theorem yfy(l:List Bld)(hl:l.length<=1000000000000)(st:Store)(R:Ja)(h:∀z:Bool,(z=true↔Ld l)->R (bool z) st):Jb 281 [lst 6 zi l] st R:=by
 refine Qa (c:=cfg 22) zb Tryz.func281 ?_
 refine AWp.loop (σ:=Nat) ⟨λi=>[(0,.av (lst 6 zi l)),(3,.av (int (i:Nat)))],λ_=>[],
  λi st'=>1<=i/\(i<=l.length\/i=1)/\st'=st/\∀j,(h:j<l.length)->j<i->0<j->(l[j-1]'(by omega)).id<l[j].id,λi=>l.length-i⟩ zb ?_ ?_
 ·exact⟨1,Tv,⟨Fak _,.inr rfl,rfl,λj _ hj=>by omega⟩,⟨Tq,Tq,Tv⟩,Tv⟩
 ·rintro i st' ⟨hi1,hi,rfl,hall⟩
  refine zj (λh1=>?_) (λh1=>?_)
  ·have hlt:i<l.length:=wj h1
   refine Qc zb ztp ?_
   refine Qd ?_
   refine⟨i-1,by omega,za _ (zr (show i-1<l.length by omega)) ?_⟩
   refine⟨i,rfl,za _ (zr hlt) ?_⟩
   refine bcd (λh2=>ret (h _ ?_)) (λh2=>?_)
   ·simp only[Fad,false_iff]
    intro h3
    have:=h3 i hlt (by omega)
    omega
   ·refine Qd ?_
    refine⟨i+1,?_,⟨by omega,.inl hlt,rfl,λj hj h0 h00=>?_⟩,⟨Tq,Tq,Tv⟩,Tv⟩
    ·show l.length-(i+1)<l.length-i
     omega
    ·by_cases hji:j=i
     ·subst hji
      omega
     ·exact hall j hj (by omega) h00
  ·have hge:¬i<l.length:=by
    rw[zm]at h1
    simpa using h1
   refine ret (h _ ?_)
   simp only[true_iff]
   exact λj hj h0=>hall j hj (by omega) h0
theorem zwp(l:List Bld)(hl:l.length<=1000000000000)(st:Store)(R:Ja)(h:∀z:Bool,(z=true↔Ld l)->R (bool z) st):Jb 201 [lst 6 zi l] st R:=by
 refine Qa (c:=cfg 22) zb Tryz.func201 ?_
 refine AWp.loop (σ:=Nat) ⟨λi=>[(0,.av (lst 6 zi l)),(3,.av (int (i:Nat)))],λ_=>[],
  λi st'=>1<=i/\(i<=l.length\/i=1)/\st'=st/\∀j,(h:j<l.length)->j<i->0<j->(l[j-1]'(by omega)).id<l[j].id,λi=>l.length-i⟩ zb ?_ ?_
 ·exact⟨1,Tv,⟨Fak _,.inr rfl,rfl,λj _ hj=>by omega⟩,⟨Tq,Tq,Tv⟩,Tv⟩
 ·rintro i st' ⟨hi1,hi,rfl,hall⟩
  refine zj (λh1=>?_) (λh1=>?_)
  ·have hlt:i<l.length:=wj h1
   refine Qc zb zur ?_
   refine⟨i,rfl,za _ (zr hlt) ?_⟩
   refine Qd ?_
   refine⟨i-1,by omega,za _ (zr (show i-1<l.length by omega)) ?_⟩
   refine bcd (λh2=>ret (h _ ?_)) (λh2=>?_)
   ·simp only[Fad,false_iff]
    intro h3
    have:=h3 i hlt (by omega)
    omega
   ·refine Qd ?_
    refine⟨i+1,?_,⟨by omega,.inl hlt,rfl,λj hj h0 h00=>?_⟩,⟨Tq,Tq,Tv⟩,Tv⟩
    ·show l.length-(i+1)<l.length-i
     omega
    ·by_cases hji:j=i
     ·subst hji
      omega
     ·exact hall j hj (by omega) h00
  ·have hge:¬i<l.length:=by
    rw[zm]at h1
    simpa using h1
   refine ret (h _ ?_)
   simp only[true_iff]
   exact λj hj h0=>hall j hj (by omega) h0
theorem zza(g:Gnd)(hg:zn g)(a b:Bld)(ha:yc a/\onP g a)(hb:yc b/\onP g b)(st:Store)(R:Ja)(h:∀z:Bool,(z=true↔xu a b)->R (bool z) st):Jb 205 [.agg (zi a),.agg (zi b)] st R:=by
 unfold yc onP at ha hb
 unfold xu at h
 unfold zn at hg
 refine Qa (c:=cfg 43) zb Tryz.func205 ?_
 refine Qd ?_
 refine bcd (λc1=>?_) (λc1=>ret (h _ Qaa))
 refine Qd ?_
 refine bcd (λc2=>?_) (λc2=>ret (h _ Qaa))
 refine Qd ?_
 refine bcd (λc3=>?_) (λc3=>ret (h _ Qaa))
 refine Qd ?_
 exact ret (h _ (by rw[decide_eq_true_iff];omega))
theorem ybc(g:Gnd)(hg:zn g)(b:Bld)(hb:yc b/\onP g b)(t:Nat)(ht:(t:Int)<g.W*g.H)(st:Store)(R:Ja)(h:∀z:Bool,(z=true↔jt g b t)->R (bool z) st):
  Jb 239 [.agg (zo g),.agg (zi b),int t] st R:=by
 have htb:=Cm hg ht
 have hq:=Fx (t:=t) hg.1.1
 have hq2:=Fy (t:=t) hg.1.1
 unfold yc onP at hb
 unfold jt at h
 have hg1:=hg.1
 have hg2:=hg.2.1
 refine Qa (c:=cfg 45) zb Tryz.func239 ?_
 refine Qc zb ztq ?_
 refine⟨by omega,?_⟩
 refine⟨by omega,?_⟩
 refine Qd ?_
 refine Qao ?_
 refine Qap ?_
 rw[<-hq,<-hq2]at h
 refine bcd (λc1=>?_) (λc1=>ret (h _ Qaa))
 refine Qd ?_
 refine bcd (λc2=>?_) (λc2=>ret (h _ Qaa))
 refine bcd (λc3=>?_) (λc3=>ret (h _ Qaa))
 refine Qd ?_
 exact ret (h _ (by rw[decide_eq_true_iff];omega))
theorem zwu(g:Gnd)(hg:zn g)(b:Bld)(hb:yc b/\onP g b)(st:Store)(R:Ja)(h:∀z:Bool,(z=true↔Az g b)->R (bool z) st):
  Jb 204 [.agg (zo g),.agg (zi b)] st R:=by
 have hm:=qi hg
 refine Qa (c:=cfg 35) zb Tryz.func204 ?_
 refine AWp.loop (σ:=Nat) ⟨λi=>[(2,.bx 2 0),(3,.bx 3 0),(5,.av (int (i:Nat)))],λ_=>[(2,zo g),(3,zi b)],
  λi st'=>i<=g.T.length/\st'=st/\∀t,t<i->jt g b t->(g.T.getD t 0).toNat<=1,λi=>g.T.length-i⟩ zb ?_ ?_
 ·exact⟨0,Tv,⟨Faj _,rfl,λt ht=>by omega⟩,Qal,⟨rfl,rfl,Tv⟩⟩
 rintro i st' ⟨hi,rfl,hall⟩
 refine Qd ?_
 refine bcd (λh1=>?_) (λh1=>?_)
 rotate_left
 ·refine ret (h _ ?_)
  simp only[true_iff]
  intro t ht
  exact hall t (by omega)
 have hlt:i<g.T.length:=by omega
 have hget:g.T.getD i 0=g.T[i]:=by simp[hlt]
 have next:(jt g b i->(g.T.getD i 0).toNat<=1)->∀t,t<i+1->jt g b t->(g.T.getD t 0).toNat<=1:=by
  intro hq t ht hh
  by_cases e:t=i
  ·subst e;exact hq hh
  ·exact hall t (by omega) hh
 refine ybc g hg b hb i (by omega) _ _ (λz hz=>?_)
 cases z with
 |false=>
  refine Qd ?_
  refine⟨i+1,?_,⟨by omega,rfl,next λhh=>by have:=hz.2 hh;cases this⟩,Qal,⟨rfl,rfl,Tv⟩⟩
  show g.T.length-(i+1)<g.T.length-i
  omega
 |true=>
  refine⟨i,rfl,za _ (zr hlt) ?_⟩
  have fin:(g.T[i].toNat<=1)->∃s:Nat,g.T.length-s<g.T.length-i/\(s<=g.T.length/\st'=st'/\∀t,t<s->jt g b t->(g.T.getD t 0).toNat<=1)/\s=i+1:=
   λhh=>⟨i+1,by omega,⟨by omega,rfl,next λ_=>by rw[hget];exact hh⟩,rfl⟩
  refine qr (λc1=>?_) (λc1=>?_)
  ·refine⟨i,rfl,za _ (zr hlt) ?_⟩
   refine qr (λc2=>?_) (λc2=>?_)
   ·refine ret (h _ ?_)
    simp only[Fad,false_iff]
    intro hf
    have:=hf i hlt (hz.1 rfl)
    rw[hget]at this
    omega
   ·obtain⟨s,f1,f2,rfl⟩:=fin (by omega)
    refine Qd ?_
    exact⟨i+1,f1,f2,Qal,⟨rfl,rfl,Tv⟩⟩
  ·obtain⟨s,f1,f2,rfl⟩:=fin (by omega)
   refine Qd ?_
   exact⟨i+1,f1,f2,Qal,⟨rfl,rfl,Tv⟩⟩
theorem Nb(g:Gnd)(hg:zn g)(b:Bld)(hb:yc b/\onP g b)(st:Store)(R:Ja)(h:R (qa (vp g.W b)) st):Jb 285 [.agg (zo g),.agg (zi b)] st R:=by
 have hb':=hb
 unfold yc onP at hb'
 have hg1:=hg.1
 have hg2:=hg.2.1
 refine Qa (c:=cfg 35) zb Tryz.func285 ?_
 refine AWp.loop (σ:=Nat×AV) ⟨λs=>[(2,.bx 2 0),(3,.bx 3 0),(4,.av s.2),(8,.av (int b.h)),(9,.av (int (s.1:Nat)))],λ_=>[(2,zo g),(3,zi b)],
  λs st'=>s.1<=b.h.toNat/\App 1 st s.2 (rws zz (Bd g.W b s.1)) st',λs=>b.h.toNat-s.1⟩ zb ?_ ?_
 ·exact⟨(0,_),Tv,⟨Faj _,App.start 1 st⟩,⟨Tq,Tq,Tq,Tq,Tq,Tv⟩,⟨rfl,rfl,Tv⟩⟩
 rintro⟨y,v⟩ st' ⟨hy,ha⟩
 dsimp only at hy ha⊢
 refine bcd (λh1=>?_) (λh1=>?_)
 rotate_left
 ·have:y=b.h.toNat:=by omega
  subst this
  exact⟨_,st,AV.le_trans ha.le (Tt),ha.has,h⟩
 refine AWp.loop (σ:=Nat×AV) ⟨λs=>[(2,.bx 2 0),(3,.bx 3 0),(4,.av s.2),(5,.av (int (y:Nat))),(8,.av (int b.h)),(9,.av (int (y:Nat))),(13,.av (int b.w)),(14,.av (int (s.1:Nat)))],λ_=>[(2,zo g),(3,zi b)],
  λs st'=>s.1<=b.w.toNat/\App 1 st s.2 (rws zz (Bd g.W b y++Al g.W b y s.1)) st',λs=>b.w.toNat-s.1⟩ zb ?_ ?_
 ·refine⟨(0,v),Tv,⟨Faj _,?_⟩,Qal,⟨rfl,rfl,Tv⟩⟩
  dsimp only
  rw[show Al g.W b y 0=[]from rfl,Fbp]
  exact ha
 rintro⟨x,v2⟩ st2 ⟨hx,ha2⟩
 dsimp only at hx ha2⊢
 refine bcd (λh2=>?_) (λh2=>?_)
 rotate_left
 ·have:x=b.w.toNat:=by omega
  subst this
  refine Qd ?_
  refine⟨(y+1,v2),?_,⟨by dsimp only;omega,?_⟩,Qal,⟨rfl,rfl,Tv⟩⟩
  ·show b.h.toNat-(y+1)<b.h.toNat-y
   omega
  ·dsimp only
   rw[R4]
   exact ha2
 obtain⟨q1,q2,_⟩:=G8 hg (x:=b.x+x) (y:=b.y+y) (by omega) (by omega)
 have hm:=qi hg
 have q3:0<=g.W*(b.y+(y:Int)):=Fay (by omega) (by omega)
 refine Qd ?_
 refine Qd ?_
 refine Qd ?_
 refine Qd ?_
 refine⟨by decide,?_⟩
 have hlen:(Bd g.W b y++Al g.W b y x).length<=16:=by
  rw[Fag,R5,ep]
  have:y*b.w.toNat<=3*4:=Fd6 (by omega) (by omega)
  omega
 refine Gt (ie:=ti2) (rows':=[zz (b.x+(x:Int)+g.W*(b.y+(y:Int)))]) ha2 ?_ ?_ ⟨?_,?_⟩ (λv3 st3 ha3=>?_)
 ·rfl
 ·rfl
 ·simp only[zm,Fa1,ti2];omega
 ·simp only[zm,Fa1];omega
 refine Qd ?_
 refine⟨(x+1,v3),?_,⟨by dsimp only;omega,?_⟩,Qal,⟨rfl,rfl,Tv⟩⟩
 ·show b.w.toNat-(x+1)<b.w.toNat-x
  omega
 ·dsimp only
  rw[zc5,<-Fas]
  unfold rws
  rw[Fbe]
  exact ha3
section
variable {st:Store} {v:AV}
theorem rp(n:Int)(hn:ya n)(st:Store)(R:Ja)(h:R (int (nrm n/131072)) st):Jb 354 [int n] st R:=by
 refine Qa (c:=cfg 15) zb Tryz.func354 ?_
 refine Hi n _ _ ?_
 have hb:=j2 hn
 generalize nrm n=x at*
 refine bcd (λc1=>?_) (λc1=>?_)
 ·refine⟨⟨by omega,by omega⟩,?_⟩
  refine⟨⟨by omega,by omega⟩,?_⟩
  refine⟨by decide,?_⟩
  have e:(0-x-1).tdiv 131072=(0-x-1)/131072:=Fba (by omega)
  rw[e]
  refine⟨⟨by omega,by omega⟩,?_⟩
  refine⟨⟨by omega,by omega⟩,?_⟩
  refine⟨⟨by omega,by omega⟩,?_⟩
  rw[show x/131072=0-((0-x-1)/131072+1) by omega]at h
  exact ret h
 ·refine⟨by decide,?_⟩
  have e:x.tdiv 131072=x/131072:=Fba (by omega)
  rw[e]
  exact⟨⟨by omega,by omega⟩,ret h⟩
theorem Dp(p:Vc)(hp:p.ok)(st:Store)(R:Ja)(h:R (.agg [int (zq p).1,int (zq p).2]) st):Jb 288 [.agg (zy p)] st R:=by
 refine Qa (c:=cfg 10) zb Tryz.func288 ?_
 refine Qc zb zto ?_
 refine⟨rp p.1 hp.1 _ _ ⟨Qe,?_⟩,Tv⟩
 refine⟨rp p.2 hp.2 _ _ ⟨Qe,?_⟩,Tv⟩
 refine Qao ?_
 exact ret h
theorem td(R:Ja)(h:∀a p,CellsOf a p []->R (.s (.pointer (some ⟨p,0,none⟩))) a):Jb 193 [] Store.empty R:=by
 refine Qa (c:=cfg 5 [4] []) zb Tryz.func193 ?_
 refine Fs rfl (λma hma=>?_)
 refine Fs rfl (λmi hmi=>?_)
 intro p hp
 have h1:mi≠ma:=λe=>by have:=hmi.1;rw[e,zd]at this;cases this
 have h2:p≠mi:=λe=>by have:=hp.1;rw[e,zd]at this;cases this
 have h3:p≠ma:=λe=>by have:=hp.1;rw[e,zg (Ne.symm h1),zd]at this;cases this
 refine ret (h _ _ ⟨ma,mi,[],0,[],[],0,⟨zd _ _ _,?_,?_,Ne.symm h1,(λg hg=>(by cases hg)),Fd7⟩,⟨Fd7,Fd7,(λg hg=>(by cases hg)),(λg hg=>(by cases hg)),(λg hg=>(by cases hg))⟩⟩)
 ·rw[zg (Ne.symm h3),zg (Ne.symm h1)];exact zd _ _ _
 ·rw[zg (Ne.symm h2)];exact zd _ _ _
theorem tp{ns:List Int}(hv:Ints st v ns)(x:Int)(hlen:ns.length<4611686018427387904)(hs:ns.Pairwise (·<=·))(R:Ja)
  (h:R (.tup [int (ns.countP (·<x):Nat),bool (ns.contains x)]) st):Jb 289 [v,int x] st R:=
 zr6 Tryz.laysNm225 Tryz.func289 rfl rfl hv x hlen hs h
theorem r9{b cap i j:Nat}{ns:List Int}{L:List AV}(ho:st.obj b=some (.cells (ns.map aI++L)))
  (hc1:ns.length<=cap) (hc2:cap<=9223372036854775807) (hij:i<=j) (hj:j<=ns.length) (R:Ja)
  (h:R (.s (.slice (some ⟨b,0,none⟩) (ns.take i++ns.drop j).length cap)) (st.sO b (.cells ((ns.take i++ns.drop j).map aI++(List.replicate (j-i) (aI 0)++L))))):
  Jb 308 [.s (.slice (some ⟨b,0,none⟩) ns.length cap),int i,int j] st R:=
 yei Tryz.laysNm223 Tryz.func308 rfl rfl ho hc1 hc2 hij hj h
theorem V6{ns:List Int}(hv:Ints st v ns){vb:Nat}(x:Int)(i:Nat)(hi:i<=ns.length)
  (hvb:st.obj vb=some (.cells [aI x])) (hne:∀b cap,v=.s (.slice (some ⟨b,0,none⟩) ns.length cap)->b≠vb) (hlen:(ns.length+1)*8<=140737488355328) (R:Ja)
  (h:∀b cap L,(Fresh st b\/∃c0,v=.s (.slice (some ⟨b,0,none⟩) ns.length c0))->(ns.take i++x::ns.drop i).length<=cap->cap<=(ns.take i++x::ns.drop i).length+L.length->cap<=9223372036854775807->
   R (.s (.slice (some ⟨b,0,none⟩) (ns.take i++x::ns.drop i).length cap)) (st.sO b (.cells ((ns.take i++x::ns.drop i).map aI++L)))):
  Jb 290 [v,int i,.s (.slice (some ⟨vb,0,none⟩) 1 1)] st R:=
 yan Tryz.laysNm221 Tryz.func290 rfl rfl hv x i hi hvb hne hlen h
theorem W3{l:List Ent}{G:List Grp}(h:Inv l G):∀g∈G,g.ns.length<=l.length:=by
 intro g hg
 have h1:=(h.s g hg).1
 have h2:g.ns.Nodup:=h1.imp λh e=>by omega
 have h3:g.ns ⊆ l.map (·.1):=λid hid=>by
  obtain⟨e,he,h4,_⟩:=(h.m1 g hg id).1 hid
  exact Fac.2 ⟨e,he,h4⟩
 have:=Fbu h2 h3
 simpa using this
theorem f7{ns:List Int}(h:ns.Pairwise (·<·)):ns.Pairwise (·<=·):=h.imp λh=>by omega
theorem tc{a:Store}{p:Nat}{l:List Ent}(hc:CellsOf a p l)(hl:l.length<=1000000000)(hok:∀e∈l,e.2.ok)(id:Int)(R:Ja)
  (h:∀a',CellsOf a' p (qb l id)->R (bool (l.find? (v8 id)).isSome) a'):Jb 221 [.s (.pointer (some ⟨p,0,none⟩)),int id] a R:=by
 obtain⟨ma,mi,bs1,c1,G,bs2,c2,ha,hi⟩:=hc
 refine Qa (c:=cfg 60) zb Tryz.func221 ?_
 refine za _ ha.hp ?_
 refine vo rfl (it:=ti363) (ie:=ti33) (ik:=ti2) rfl rfl rfl rfl ha.ha rfl (qA id) (λe he=>?_) ?_
 ·obtain⟨e,_,rfl⟩:=Fac.1 he
  rfl
 rw[pz]
 cases hf:l.find? (v8 id)with
 |none=>
  rw[hf]at h
  refine ret (h a ?_)
  rw[ydq hf]
  exact⟨ma,mi,bs1,c1,G,bs2,c2,ha,hi⟩
 |some e=>
  rw[hf]at h
  obtain⟨hem,heq⟩:=L6 hf
  have hid:e.1=id:=(by simpa [v8]using heq:id=e.1).symm
  refine Dp e.2 (hok e hem) _ _ ?_
  obtain⟨g,hg,hk⟩:=hi.m2 e hem
  have hfg:∃g',G.find? (Db (zq e.2))=some g':=by
   cases hx:G.find? (Db (zq e.2))with
   |some g'=>exact⟨g',rfl⟩
   |none=>exact absurd (atKey_iff.2 hk) (by simpa using Fcu.1 hx g hg)
  obtain⟨g',hfg⟩:=hfg
  have hg':=L6 hfg
  have:g'=g:=yab hi.n2 hg hg'.1 (by rw[hk];exact atKey_iff.1 hg'.2)
  subst this
  obtain⟨j,hj1,hj2⟩:=Wl hfg
  obtain⟨k1,k2,k3⟩:=ha.hg g' hg
  obtain⟨s1,s2⟩:=hi.s g' hg
  have hin:id∈g'.ns:=(hi.m1 g' hg id).2 ⟨e,hem,hid,hk.symm⟩
  obtain⟨d1,d2,d3⟩:=yej s1 hin
  have hlen:=W3 hi g' hg
  refine Qc zb zuc ?_
  refine za (o:=a.obj p) _ ha.hp ?_
  refine⟨vo rfl (it:=ti364) (ie:=ti29) (ik:=ti33) rfl rfl rfl rfl ha.hi rfl (qG (zq e.2).1 (zq e.2).2) (λe he=>?_) ⟨Qe,?_⟩,Tv⟩
  ·obtain⟨e,_,rfl⟩:=Fac.1 he
   rfl
  rw[L8,hfg]
  refine Qao ?_
  refine tp (.inr ⟨g'.b,g'.cap,g'.L,rfl,k1,k2⟩) id (by omega) (f7 s1) _ ?_
  refine⟨⟨by omega,by omega⟩,?_⟩
  refine r9 k1 k2.1 k2.2.2 (Nat.le_add_right _ 1) d1 _ ?_
  generalize hns:g'.ns.take (g'.ns.countP λx=>decide (x<id))++g'.ns.drop (g'.ns.countP (λx=>decide (x<id))+1)=ns' at*
  obtain⟨n1,n2,n3⟩:=ha.g_ne hg
  have mid:=ha.mid (.cells (ns'.map aI++(List.replicate (g'.ns.countP (λx=>decide (x<id))+1-g'.ns.countP (λx=>decide (x<id))) (aI 0)++g'.L))) n3 n1 n2
  rw[show g'.ns.countP (λx=>decide (x<id))+1-g'.ns.countP (λx=>decide (x<id))=1 by omega]at mid⊢
  have hnl:ns'.length+1=g'.ns.length:=by rw[<-hns];simp;omega
  obtain⟨v1,v2⟩:=yag hi hem hj2 hk d2 (by rw[hid];exact d3)
  obtain⟨i,hi1,hi2⟩:=Wl hf
  have her:(l.map vl).eraseIdx i=(qb l id).map vl:=by rw[Pr,ydg hi.n1 hi2,hid]
  refine z6 (λhz=>?_) (λhz=>?_)
  ·have hn0:ns'=[]:=Fa0 (by omega)
   refine Qc zb zub ?_
   refine za (o:=(a.sO g'.b _).obj p) _ mid.hp ?_
   refine⟨Rf rfl rfl rfl rfl (it:=ti364) (ik:=ti33) rfl rfl rfl mid.hi rfl (qG (zq e.2).1 (zq e.2).2) (λe he=>?_) ⟨Qe,?_⟩,Tv⟩
   ·obtain⟨e,_,rfl⟩:=Fac.1 he
    rfl
   have m1:=mid.setI (G':=G.eraseIdx j) (bs2.eraseIdx j) c2 (λg1 h1=>.inl ?_) (mid.nd.sublist ((List.eraseIdx_sublist ..).map _))
   rotate_left
   ·obtain⟨q1,q2⟩:=(Ot (f:=Grp.key) hi.n2 hj2).1 h1
    refine⟨q1,λe=>q2 ?_⟩
    obtain⟨i1,hi1⟩:=Fa2.1 q1
    have:=By (f:=λg:Grp=>g.b) ha.nd hi1 hj2 e
    subst this
    rw[hj2]at hi1
    cases hi1;rfl
   have e1:Ca (G.map vk) bs2 c2 (qG (zq e.2).1 (zq e.2).2)=.map ((G.eraseIdx j).map vk) (bs2.eraseIdx j) c2:=by
    unfold Ca
    rw[Pn,hj1]
    simp only[Pr]
   rw[e1]
   refine za _ m1.hp ?_
   refine Rf rfl rfl rfl rfl (it:=ti363) (ik:=ti2) rfl rfl rfl m1.ha rfl (qA id) (λe he=>?_) ?_
   ·obtain⟨e,_,rfl⟩:=Fac.1 he
    rfl
   have e2:Ca (l.map vl) bs1 c1 (qA id)=.map ((qb l id).map vl) (bs1.eraseIdx i) c1:=by
    unfold Ca
    rw[Po,hi1]
    simp only[her]
   rw[e2]
   have m2:=m1.setA (qb l id) (bs1.eraseIdx i) c1
   rw[hid]at v1
   exact ret (h _ ⟨ma,mi,_,_,_,_,_,m2,v1 hn0⟩)
  ·have hn0:ns'≠[]:=λe=>by rw[e]at hz;exact hz rfl
   refine Qc zb zud ?_
   refine za (o:=(a.sO g'.b _).obj p) _ mid.hp ?_
   refine⟨Ci (.inl rfl) rfl (it:=ti364) (ik:=ti33) rfl rfl rfl mid.hi rfl rfl (qG (zq e.2).1 (zq e.2).2) (λe he=>?_) (λe1 he hq=>?_) ⟨Qe,?_⟩,Tv⟩
   ·obtain⟨e,_,rfl⟩:=Fac.1 he
    rfl
   ·obtain⟨g1,_,rfl⟩:=Fac.1 he
    have:=(atKey_iff (k:=zq e.2) (g:=g1)).1 hq
    show AV.agg [int g1.x,int g1.y]=_
    rw[<-this];rfl
   let g2:Grp:=⟨g'.x,g'.y,ns',g'.b,g'.cap,List.replicate 1 (aI 0)++g'.L⟩
   have e1:j3 (G.map vk) bs2 c2 (qG (zq e.2).1 (zq e.2).2) (.agg [int (zq e.2).1,int (zq e.2).2]) (.s (.slice (some ⟨g'.b,0,none⟩) ns'.length g'.cap))=.map ((G.set j g2).map vk) bs2 c2:=by
    unfold j3
    rw[Pn,hj1,List.map_set]
    simp only
    congr 2
    show _=(AV.agg [int g'.x,int g'.y],_)
    rw[<-hk];rfl
   have m1:=mid.setI (G':=G.set j g2) bs2 c2 (λg1 h1=>?_) (by rw[Vt (λg:Grp=>g.b) (g':=g2) hj2 rfl];exact mid.nd)
   rotate_left
   ·rcases(Cr (f:=λg:Grp=>g.b) ha.nd hj2).1 h1 with rfl|⟨q1,q2⟩
    ·refine .inr ⟨zd _ _ _,⟨?_,?_,k2.2.2⟩,k3⟩
     ·show ns'.length<=g'.cap
      have:=k2.1;omega
     ·show g'.cap<=ns'.length+(List.replicate 1 (aI 0)++g'.L).length
      have:=k2.2.1
      simp;omega
    ·exact .inl ⟨q1,q2⟩
   rw[<-e1]at m1
   refine za _ m1.hp ?_
   refine Rf rfl rfl rfl rfl (it:=ti363) (ik:=ti2) rfl rfl rfl m1.ha rfl (qA id) (λe he=>?_) ?_
   ·obtain⟨e,_,rfl⟩:=Fac.1 he
    rfl
   have e2:Ca (l.map vl) bs1 c1 (qA id)=.map ((qb l id).map vl) (bs1.eraseIdx i) c1:=by
    unfold Ca
    rw[Po,hi1]
    simp only[her]
   rw[e2]
   have m2:=m1.setA (qb l id) (bs1.eraseIdx i) c1
   rw[hid]at v2
   exact ret (h _ ⟨ma,mi,_,_,_,_,_,m2,v2 hn0 g2 rfl rfl⟩)
end
theorem Mc{l:List Ent}{id:Int}:∀e∈qb l id,e.1≠id:=λe he=>(mem_dropId.1 he).2
theorem ydr(l:List Ent)(id:Int):(qb l id).length<=l.length:=Fbz _ _
theorem yfn{a:Store}{p:Nat}{l:List Ent}(hc:CellsOf a p l)(hl:l.length<=1000000000)(hok:∀e∈l,e.2.ok)(id:Int)(pos:Vc)(hpos:pos.ok)(R:Ja)
  (h:∀a',CellsOf a' p (qb l id++[(id,pos)])->R (.tup []) a'):Jb 194 [.s (.pointer (some ⟨p,0,none⟩)),int id,.agg (zy pos)] a R:=by
 refine Qa (c:=cfg 46 [38,1000038] []) zb Tryz.func194 ?_
 refine tc hc hl hok id _ (λa1 hc1=>?_)
 obtain⟨ma,mi,bs1,c1,G,bs2,c2,ha,hi⟩:=hc1
 refine Dp pos hpos _ _ ?_
 obtain⟨cur,ns,e1,e2,e3,e4,e5,e6⟩:=zxi (pos:=pos) ha hi Mc
 have hnl:ns.length<=1000000000:=by
  rcases e4 with rfl|⟨g,hg,rfl⟩
  ·simp
  ·have h1:=W3 hi g hg
   have h2:=ydr l id
   omega
 have hle:=yex id ns
 refine Qc zb zuv ?_
 refine za (o:=a1.obj p) _ ha.hp ?_
 refine⟨vo rfl (it:=ti364) (ie:=ti29) (ik:=ti33) rfl rfl rfl rfl ha.hi rfl (qG (zq pos).1 (zq pos).2) (λe he=>?_) ⟨Qe,?_⟩,Tv⟩
 ·obtain⟨e,_,rfl⟩:=Fac.1 he
  rfl
 rw[L8,show Bo ti29=.s (.slice none 0 0)from rfl,e1]
 refine⟨tp e2 id (by omega) (f7 e3) _ ⟨Qe,?_⟩,Tv⟩
 refine Qao ?_
 refine Qao ?_
 refine Qc zb zuu ?_
 refine za (o:=a1.obj p) _ ha.hp ?_
 refine za (o:=a1.obj p) _ ha.hp ?_
 refine⟨vo rfl (it:=ti364) (ie:=ti29) (ik:=ti33) rfl rfl rfl rfl ha.hi rfl (qG (zq pos).1 (zq pos).2) (λe he=>?_) ⟨?_,?_⟩,?_⟩
 ·obtain⟨e,_,rfl⟩:=Fac.1 he
  rfl
 ·repeat(first|exact Tv|refine⟨rfl,?_⟩|refine⟨za (o:=a1.obj p) _ ha.hp rfl,?_⟩)
 ·rw[L8,show Bo ti29=.s (.slice none 0 0)from rfl,e1]
  refine⟨⟨by decide,λvb hvb=>?_⟩,Tv⟩
  have hp1:=(ha.fresh (.cells [aI id]) hvb).hp
  refine⟨?_,?_⟩
  ·repeat(first|exact Tv|refine⟨rfl,?_⟩|refine⟨za (o:=(a1.sO vb (.cells [aI id])).obj p) _ hp1 rfl,?_⟩)
  refine⟨V6 (e2.fresh _ hvb) id _ hle (zd _ _ _) (λb cap hc he=>e5 b cap hc (he▸hvb.1)) (by omega) _ (λb cap L q1 q2 q3 q4=>?_),Tv⟩
  obtain⟨w1,w2,G',bs2',c2',w3,w4,w5⟩:=e6 vb _ b cap L hvb q1 q2 q3 q4
  refine⟨?_,?_⟩
  ·repeat(first|exact Tv|refine⟨rfl,?_⟩|refine⟨za (o:=Store.obj (Store.sO _ b _) p) _ w2 rfl,?_⟩)
  refine⟨Ci (.inl rfl) rfl (it:=ti364) (ik:=ti33) rfl rfl rfl w1 rfl rfl (qG (zq pos).1 (zq pos).2) (λe he=>?_) (λe1 he hq=>?_) ⟨Qe,?_⟩,Tv⟩
  ·obtain⟨e,_,rfl⟩:=Fac.1 he
   rfl
  ·obtain⟨g1,_,rfl⟩:=Fac.1 he
   have:=(atKey_iff (k:=zq pos) (g:=g1)).1 hq
   show AV.agg [int g1.x,int g1.y]=_
   rw[<-this];rfl
  rw[w3]
  refine Qc zb gu ?_
  refine za (o:=Store.obj (Store.sO _ mi _) p) _ w4.hp ?_
  refine⟨Ci (.inl rfl) rfl (it:=ti363) (ik:=ti2) rfl rfl rfl w4.ha rfl rfl (qA id) (λe he=>?_) (λe1 he hq=>?_) ⟨Qe,?_⟩,Tv⟩
  ·obtain⟨e,_,rfl⟩:=Fac.1 he
   rfl
  ·obtain⟨g1,hg1,rfl⟩:=Fac.1 he
   have:id=g1.1:=by simpa [qA,vl,int]using hq
   exact absurd this.symm (Mc g1 hg1)
  have e7:j3 ((qb l id).map vl) bs1 c1 (qA id) (int id) (.agg (zy pos))=.map ((qb l id++[(id,pos)]).map vl) (bs1++[c1]) (c1+1):=by
   unfold j3
   have:(qb l id).findIdx? (v8 id)=none:=by
    rw[Fbq]
    intro e he
    have:=Mc e he
    simp[v8]
    exact λh=>this h.symm
   rw[Po,this,Fbe]
   rfl
  have w6:=w4.setA (qb l id++[(id,pos)]) (bs1++[c1]) (c1+1)
  rw[<-e7]at w6
  exact ret (h _ ⟨ma,mi,_,_,G',_,_,w6,w5⟩)
 ·refine⟨⟨by decide,λvb hvb=>?_⟩,Tv⟩
  have ha1:=ha.fresh (.cells [aI id]) hvb
  have hp1:=ha1.hp
  refine⟨?_,?_⟩
  ·repeat(first|exact Tv|refine⟨rfl,?_⟩|refine⟨za (o:=(a1.sO vb (.cells [aI id])).obj p) _ hp1 rfl,?_⟩)
  refine⟨vo rfl (it:=ti364) (ie:=ti29) (ik:=ti33) rfl rfl rfl rfl ha1.hi rfl (qG (zq pos).1 (zq pos).2) (λe he=>?_) ⟨?_,?_⟩,Tv⟩
  ·obtain⟨e,_,rfl⟩:=Fac.1 he
   rfl
  ·repeat(first|exact Tv|refine⟨rfl,?_⟩|refine⟨za (o:=(a1.sO vb (.cells [aI id])).obj p) _ hp1 rfl,?_⟩)
  rw[L8,show Bo ti29=.s (.slice none 0 0)from rfl,e1]
  refine⟨V6 (e2.fresh _ hvb) id _ hle (zd _ _ _) (λb cap hc he=>e5 b cap hc (he▸hvb.1)) (by omega) _ (λb cap L q1 q2 q3 q4=>?_),Tv⟩
  obtain⟨w1,w2,G',bs2',c2',w3,w4,w5⟩:=e6 vb _ b cap L hvb q1 q2 q3 q4
  refine⟨?_,?_⟩
  ·repeat(first|exact Tv|refine⟨rfl,?_⟩|refine⟨za (o:=Store.obj (Store.sO _ b _) p) _ w2 rfl,?_⟩)
  refine⟨Ci (.inl rfl) rfl (it:=ti364) (ik:=ti33) rfl rfl rfl w1 rfl rfl (qG (zq pos).1 (zq pos).2) (λe he=>?_) (λe1 he hq=>?_) ⟨Qe,?_⟩,Tv⟩
  ·obtain⟨e,_,rfl⟩:=Fac.1 he
   rfl
  ·obtain⟨g1,_,rfl⟩:=Fac.1 he
   have:=(atKey_iff (k:=zq pos) (g:=g1)).1 hq
   show AV.agg [int g1.x,int g1.y]=_
   rw[<-this];rfl
  rw[w3]
  refine Qc zb gu ?_
  refine za (o:=Store.obj (Store.sO _ mi _) p) _ w4.hp ?_
  refine⟨Ci (.inl rfl) rfl (it:=ti363) (ik:=ti2) rfl rfl rfl w4.ha rfl rfl (qA id) (λe he=>?_) (λe1 he hq=>?_) ⟨Qe,?_⟩,Tv⟩
  ·obtain⟨e,_,rfl⟩:=Fac.1 he
   rfl
  ·obtain⟨g1,hg1,rfl⟩:=Fac.1 he
   have:id=g1.1:=by simpa [qA,vl,int]using hq
   exact absurd this.symm (Mc g1 hg1)
  have e7:j3 ((qb l id).map vl) bs1 c1 (qA id) (int id) (.agg (zy pos))=.map ((qb l id++[(id,pos)]).map vl) (bs1++[c1]) (c1+1):=by
   unfold j3
   have:(qb l id).findIdx? (v8 id)=none:=by
    rw[Fbq]
    intro e he
    have:=Mc e he
    simp[v8]
    exact λh=>this h.symm
   rw[Po,this,Fbe]
   rfl
  have w6:=w4.setA (qb l id++[(id,pos)]) (bs1++[c1]) (c1+1)
  rw[<-e7]at w6
  exact ret (h _ ⟨ma,mi,_,_,G',_,_,w6,w5⟩)
def ptr(b:Nat):AV:=.s (.pointer (some ⟨b,0,none⟩))
theorem ew{F N:Store}(hd:zh F N){p:Nat}{l:List Ent}(hc:CellsOf F p l){b3 b4 b5 b6:Nat}{q:Vc}{r:Int}{v:AV}{acc:List Int}(hN:NearAt N b3 b4 b5 b6 p q r v acc)(hq:q.ok)(hr:r<=9223372036854775807)
  {e:Ent} (he:l.find? (v8 e.1)=some e) (hok:e.2.ok) (hlen:acc.length<=1000000000000) (R:Ja)
  (h:∀N' v',zh F N'->NearAt N' b3 b4 b5 b6 p q r v' (if near q e.2 r then acc++[e.1]else acc)->R (.tup []) (F.un N')):
  Jb 361 [int e.1,ptr b4,ptr b3,ptr b5,ptr b6] (F.un N) R:=by
 obtain⟨ma,mi,bs1,c1,G,bs2,c2,ha,hi⟩:=hc
 refine Qa (c:=cfg 19) zb Tryz.func361 ?_
 refine Qc zb zs2 ?_
 refine za (o:=(F.un N).obj b4) _ (zf hN.h4) ?_
 refine za (o:=(F.un N).obj b3) _ (zf hN.h3) ?_
 refine za (o:=(F.un N).obj p) _ (z8 hd ha.hp) ?_
 refine za (o:=(F.un N).obj b5) _ (zf hN.h5) ?_
 refine⟨vo rfl (it:=ti363) (ie:=ti33) (ik:=ti2) rfl rfl rfl rfl (z8 hd ha.ha) rfl (qA e.1) (λe he=>?_) ⟨?_,?_⟩,Tv⟩
 ·obtain⟨e,_,rfl⟩:=Fac.1 he
  rfl
 ·repeat(first|exact Tv|refine⟨rfl,?_⟩|refine⟨za (o:=(F.un N).obj b4) _ (zf hN.h4) rfl,?_⟩|refine⟨za (o:=(F.un N).obj b5) _ (zf hN.h5) rfl,?_⟩)
 rw[pz,he]
 refine⟨Mw q e.2 r hq hok hr _ _ ⟨Tv,?_⟩,Tv⟩
 cases hn:near q e.2 r with
 |false=>
  rw[hn]at h
  exact ret (h N v hd hN)
 |true=>
  rw[hn]at h
  refine za (o:=(F.un N).obj b6) _ (zf hN.h6) ?_
  refine⟨by decide,?_⟩
  refine ygn (ie:=ti2) rfl rfl rfl hN.hv.un e.1 hlen (λb cap L q1 q2 q3 q4=>?_)
  have q1':Fresh N b\/∃c0,v=.s (.slice (some ⟨b,0,none⟩) acc.length c0):=q1.imp (λh=>(fresh_un h).2) id
  have hN':=hN.app q1' q2 q3 q4
  rw[zt]
  have hd1:zh F (N.sO b (.cells ((acc++[e.1]).map aI++L))):=by
   rcases q1 with q1|⟨c0,q1⟩
   ·exact disj_setR hd (fresh_un q1).1
   ·rcases hN.hv with⟨h1,_⟩|⟨b',_,_,h1,h2,_⟩
    ·rw[h1]at q1;cases q1
    ·rw[h1]at q1
     simp at q1
     exact Km hd (q1.1▸h2)
  have hd2:=Km (x:=.cells [.s (.slice (some ⟨b,0,none⟩) (acc++[e.1]).length cap)]) hd1 (b:=b6) (y:=.cells [v]) (by
   have hne:b6≠b:=by
    rcases q1' with q1|⟨c0,q1⟩
    ·exact Ne.symm (q1.ne_obj hN.h6)
    ·exact Ne.symm (hN.nv b _ _ q1).2.2.2
   rw[zg hne];exact hN.h6)
  have h6':(N.sO b (.cells ((acc++[e.1]).map aI++L))).obj b6=some (.cells [v]):=by
   have hne:b6≠b:=by
    rcases q1' with q1|⟨c0,q1⟩
    ·exact Ne.symm (q1.ne_obj hN.h6)
    ·exact Ne.symm (hN.nv b _ _ q1).2.2.2
   rw[zg hne];exact hN.h6
  refine qj (i:=ti29) (v:=.s (.slice (some ⟨b,0,none⟩) (acc++[e.1]).length cap)) (b:=b6) (o:=0) (l:=[v]) (st2:=F.un ((N.sO b (.cells ((acc++[e.1]).map aI++L))).sO b6 (.cells [.s (.slice (some ⟨b,0,none⟩) (acc++[e.1]).length cap)]))) rfl rfl rfl (zf h6') (Fak _) ?_ ?_
  ·rw[zt];rfl
  ·exact ret (h _ _ hd2 hN')
section
variable {F st:Store} {p b:Nat}
theorem Qab{p:Prop}(h:p:=by repeat(first|exact Tv|refine⟨rfl,?_⟩|refine⟨za (o:=(F.un N0).obj b4) _ (zf hN0.h4) rfl,?_⟩|refine⟨za (o:=(F.un N0).obj b5) _ (zf hN0.h5) rfl,?_⟩)):p:=h
theorem CellsOf.fresh{l:List Ent}(h:CellsOf F p l)(x:AObj)(hb:Fresh F b):CellsOf (F.sO b x) p l:=by
 obtain⟨ma,mi,bs1,c1,G,bs2,c2,ha,hi⟩:=h
 exact⟨ma,mi,bs1,c1,G,bs2,c2,ha.fresh x hb,hi⟩
theorem zrm{cap:Nat}{ns:List Int}{L:List AV}(ho:st.obj b=some (.cells (ns.map aI++L)))(hlen:ns.length<4611686018427387904)(R:Ja)
  (h:R (.tup []) (st.sO b (.cells ((ns.mergeSort λx y=>decide (x<=y)).map aI++L)))):Jb 362 [.s (.slice (some ⟨b,0,none⟩) ns.length cap)] st R:=
 zrp Tryz.lays189 Tryz.func362 rfl rfl ho hlen h
theorem zrn(R:Ja)(h:R (.tup []) st):Jb 362 [.s (.slice none 0 0)] st R:=
 zro Tryz.lays189 Tryz.func362 rfl rfl h
def F0(b3 b4 b5 b6:Nat):AV:=.clos 361 [ptr b4,ptr b3,ptr b5,ptr b6]
theorem yfo{l:List Ent}(hc:CellsOf F p l)(hl:l.length<=1000000000)(hok:∀e∈l,e.2.ok){q:Vc}(hq:q.ok){r:Int}(hr:ya r)(R:Ja)
  (h:∀F' N v ns,CellsOf F' p l->zh F' N->Ints N v ns->Mr l q r ns->R v (F'.un N)):Jb 294 [ptr p,.agg (zy q),int r] F R:=by
 refine Qb (c:=cfg 126 [3,4,5,6] []) zb Tryz.func294 ?_
 refine AWp.seq (AWp.of_vc zb ?_)
 intro b3 hb3 b4 hb4 b5 hb5 b6 hb6
 have n43:b4≠b3:=λe=>by have:=hb4.1;rw[e,zd]at this;cases this
 have n54:b5≠b4:=λe=>by have:=hb5.1;rw[e,zd]at this;cases this
 have n53:b5≠b3:=λe=>by have:=hb5.1;rw[e,zg (Ne.symm n43),zd]at this;cases this
 have n65:b6≠b5:=λe=>by have:=hb6.1;rw[e,zd]at this;cases this
 have n64:b6≠b4:=λe=>by have:=hb6.1;rw[e,zg (Ne.symm n54),zd]at this;cases this
 have n63:b6≠b3:=λe=>by have:=hb6.1;rw[e,zg (Ne.symm n53),zg (Ne.symm n43),zd]at this;cases this
 have est:(((F.sO b3 (.cells [ptr p])).sO b4 (.cells (zy q))).sO b5 (.cells [int r])).sO b6 (.cells [.s (.slice none 0 0)])=
   F.un ((((Store.empty.sO b3 (.cells [ptr p])).sO b4 (.cells (zy q))).sO b5 (.cells [int r])).sO b6 (.cells [.s (.slice none 0 0)])):=by
  rw[<-zt,<-zt,<-zt,<-zt,Dg]
 have f3:Fresh F b3:=hb3
 have f4:Fresh F b4:=by have:=hb4;rw[<-Dg F,zt]at this;exact(fresh_un this).1
 have f5:Fresh F b5:=by have:=hb5;rw[<-Dg F,zt,zt]at this;exact(fresh_un this).1
 have f6:Fresh F b6:=by have:=hb6;rw[<-Dg F,zt,zt,zt]at this;exact(fresh_un this).1
 have hN0:NearAt ((((Store.empty.sO b3 (.cells [ptr p])).sO b4 (.cells (zy q))).sO b5 (.cells [int r])).sO b6 (.cells [.s (.slice none 0 0)])) b3 b4 b5 b6 p q r (.s (.slice none 0 0)) []:=by
  refine⟨?_,?_,?_,zd _ _ _,.inl ⟨rfl,rfl⟩,Ne.symm n63,Ne.symm n64,Ne.symm n65,λb n cap e=>by cases e⟩
  ·rw[zg (Ne.symm n63),zg (Ne.symm n53),zg (Ne.symm n43)];exact zd _ _ _
  ·rw[zg (Ne.symm n64),zg (Ne.symm n54)];exact zd _ _ _
  ·rw[zg (Ne.symm n65)];exact zd _ _ _
 have hd0:zh F ((((Store.empty.sO b3 (.cells [ptr p])).sO b4 (.cells (zy q))).sO b5 (.cells [int r])).sO b6 (.cells [.s (.slice none 0 0)])):=
  disj_setR (disj_setR (disj_setR (disj_setR (yec F) f3) f4) f5) f6
 show AWp _ _ _ _ _ ((((F.sO b3 (.cells [ptr p])).sO b4 (.cells (zy q))).sO b5 (.cells [int r])).sO b6 (.cells [.s (.slice none 0 0)]))
 rw[est]
 generalize((((Store.empty.sO b3 (.cells [ptr p])).sO b4 (.cells (zy q))).sO b5 (.cells [int r])).sO b6 (.cells [.s (.slice none 0 0)]))=N0 at*
 clear est hb3 hb4 hb5 hb6
 refine AWp.seq (AWp.of_vc zb ?_)
 refine za (o:=(F.un N0).obj b5) _ (zf hN0.h5) ?_
 refine bcd (λc1=>?_) (λc1=>?_)
 ·refine Bs (i:=ti29) (v:=.s (.slice none 0 0)) (b:=b6) (o:=0) (l:=[.s (.slice none 0 0)]) rfl rfl rfl (zf hN0.h6) (Fak _) ?_
  refine za (o:=Store.obj (Store.sO _ b6 _) b6) _ (zd _ _ _) ?_
  refine ret ?_
  rw[zt]
  refine h F _ _ [] hc (Km hd0 hN0.h6) (.inl ⟨rfl,rfl⟩) ⟨List.Pairwise.nil,λid=>⟨(λh=>(by cases h)),λ⟨e,_,_,hn⟩=>?_⟩⟩
  unfold near at hn
  have:=(of_decide_eq_true hn).1
  omega
 refine AWp.seq (AWp.of_vc zb ?_)
 have hr0:0<r:=by omega
 have hr1:r<=9223372036854775807:=hr.2
 have sub_q1:=Gl q.1 r
 have sub_q2:=Gl q.2 r
 have add_q1:=Pq q.1 r
 have add_q2:=Pq q.2 r
 refine AWp.meet (σ:=Unit) ⟨λ_=>[(3,.av (ptr b3)),(4,.av (ptr b4)),(5,.av (ptr b5)),(6,.av (ptr b6)),(7,.av (F0 b3 b4 b5 b6)),(8,.bx 8 0)],λ_=>[(8,[int (zq (yn q.1 r,yn q.2 r)).1,int (zq (yn q.1 r,yn q.2 r)).2])],
  λ_ st'=>st'=F.un N0⟩ zb ?_ ?_
 ·refine Qc zb ztm ?_
  refine za (o:=(F.un N0).obj b4) _ (zf hN0.h4) ?_
  refine za (o:=(F.un N0).obj b5) _ (zf hN0.h5) ?_
  refine za (o:=(F.un N0).obj b4) _ (zf hN0.h4) ?_
  refine za (o:=(F.un N0).obj b5) _ (zf hN0.h5) ?_
  refine⟨F7 q.1 r hq.1 hr _ _ ⟨Qab,⟨F7 q.2 r hq.2 hr _ _ ⟨Qab,⟨Dp (yn q.1 r,yn q.2 r) ⟨sub_q1,sub_q2⟩ _ _ ⟨Qab,⟨⟨Qab,⟨⟨Qab,?_⟩,Tv⟩⟩,Tv⟩⟩,⟨⟨Qab,⟨Dp (yn q.1 r,yn q.2 r) ⟨sub_q1,sub_q2⟩ _ _ ⟨Qab,⟨⟨Qab,?_⟩,Tv⟩⟩,Tv⟩⟩,Tv⟩⟩⟩,⟨⟨Qab,⟨F7 q.2 r hq.2 hr _ _ ⟨Qab,⟨Dp (yn q.1 r,yn q.2 r) ⟨sub_q1,sub_q2⟩ _ _ ⟨Qab,⟨⟨Qab,?_⟩,Tv⟩⟩,Tv⟩⟩,Tv⟩⟩,Tv⟩⟩⟩,⟨⟨Qab,⟨F7 q.1 r hq.1 hr _ _ ⟨Qab,⟨F7 q.2 r hq.2 hr _ _ ⟨Qab,⟨Dp (yn q.1 r,yn q.2 r) ⟨sub_q1,sub_q2⟩ _ _ ⟨Qab,⟨⟨Qab,?_⟩,Tv⟩⟩,Tv⟩⟩,Tv⟩⟩,Tv⟩⟩,Tv⟩⟩
  all_goals exact⟨(),rfl,Qal,⟨rfl,Tv⟩⟩
 rintro _ _ rfl
 refine AWp.meet (σ:=Unit) ⟨λ_=>[(3,.av (ptr b3)),(6,.av (ptr b6)),(7,.av (F0 b3 b4 b5 b6)),(8,.bx 8 0),(9,.bx 9 0)],λ_=>[(8,[int (zq (yn q.1 r,yn q.2 r)).1,int (zq (yn q.1 r,yn q.2 r)).2]),(9,[int (zq (yy q.1 r,yy q.2 r)).1,int (zq (yy q.1 r,yy q.2 r)).2])],
  λ_ st'=>st'=F.un N0⟩ zb ?_ ?_
 ·refine Qc zb ztl ?_
  refine za (o:=(F.un N0).obj b4) _ (zf hN0.h4) ?_
  refine za (o:=(F.un N0).obj b5) _ (zf hN0.h5) ?_
  refine za (o:=(F.un N0).obj b4) _ (zf hN0.h4) ?_
  refine za (o:=(F.un N0).obj b5) _ (zf hN0.h5) ?_
  refine⟨Gw q.1 r hq.1 hr _ _ ⟨Qab,⟨Gw q.2 r hq.2 hr _ _ ⟨Qab,⟨Dp (yy q.1 r,yy q.2 r) ⟨add_q1,add_q2⟩ _ _ ⟨Qab,⟨⟨Qab,⟨⟨Qab,?_⟩,Tv⟩⟩,Tv⟩⟩,⟨⟨Qab,⟨Dp (yy q.1 r,yy q.2 r) ⟨add_q1,add_q2⟩ _ _ ⟨Qab,⟨⟨Qab,?_⟩,Tv⟩⟩,Tv⟩⟩,Tv⟩⟩⟩,⟨⟨Qab,⟨Gw q.2 r hq.2 hr _ _ ⟨Qab,⟨Dp (yy q.1 r,yy q.2 r) ⟨add_q1,add_q2⟩ _ _ ⟨Qab,⟨⟨Qab,?_⟩,Tv⟩⟩,Tv⟩⟩,Tv⟩⟩,Tv⟩⟩⟩,⟨⟨Qab,⟨Gw q.1 r hq.1 hr _ _ ⟨Qab,⟨Gw q.2 r hq.2 hr _ _ ⟨Qab,⟨Dp (yy q.1 r,yy q.2 r) ⟨add_q1,add_q2⟩ _ _ ⟨Qab,⟨⟨Qab,?_⟩,Tv⟩⟩,Tv⟩⟩,Tv⟩⟩,Tv⟩⟩,Tv⟩⟩
  all_goals exact⟨(),rfl,Qal,⟨rfl,rfl,Tv⟩⟩
 rintro _ _ rfl
 have hab:=zwy hq hr0 hr1
 have hA:=tg (p:=(yn q.1 r,yn q.2 r)) ⟨Gl _ _,Gl _ _⟩
 have hB:=tg (p:=(yy q.1 r,yy q.2 r)) ⟨Pq _ _,Pq _ _⟩
 have hrect:∀e∈l,near q e.2 r=true->_:=λe he hn=>zys hq (hok e he) hr0 hr1 hn
 generalize zq (yn q.1 r,yn q.2 r)=A0 at*
 generalize zq (yy q.1 r,yy q.2 r)=B0 at*
 obtain⟨ax,ay⟩:=A0
 obtain⟨bx,by'⟩:=B0
 dsimp only at hab hA hB hrect⊢
 refine AWp.meetA (σ:=Store×Store×AV×List Int) ⟨λ_=>[(6,.av (ptr b6))],λ_=>[],λs st'=>st'=s.1.un s.2.1/\zh s.1 s.2.1/\CellsOf s.1 p l/\NearAt s.2.1 b3 b4 b5 b6 p q r s.2.2.1 s.2.2.2/\NearIn l q r (λ_=>True) s.2.2.2⟩ ?_ ?_
 ·obtain⟨ma,mi,bs1,cl1,G,bs2,cl2,ha,hi⟩:=hc
  have hgl:(G.map vk).length<=l.length:=by rw[Faq];exact ybh hi
  have slots:∀b:Bool,LV.le (.av (bool b)) (.av (bool b)):=λb=>Tq
  refine AWp.seq (AWp.of_vc zb ?_)
  refine za (o:=(F.un N0).obj b3) _ (zf hN0.h3) ?_
  refine za (o:=(F.un N0).obj p) _ (z8 hd0 ha.hp) ?_
  refine za (o:=(F.un N0).obj mi) _ (z8 hd0 ha.hi) ?_
  refine⟨⟨by omega,by omega⟩,?_⟩
  refine AWp.meet (σ:=Bool) ⟨λb=>[(3,.av (ptr b3)),(6,.av (ptr b6)),(7,.av (F0 b3 b4 b5 b6)),(8,.bx 8 0),(9,.bx 9 0),(77,.av (bool b))],λ_=>[(8,[int ax,int ay]),(9,[int bx,int by'])],
   λb st'=>st'=F.un N0⟩ zb ?_ ?_
  ·refine⟨⟨by omega,by omega⟩,?_⟩
   refine bcd (λd1=>?_) (λd1=>?_)
   ·exact⟨true,rfl,Qal,⟨rfl,rfl,Tv⟩⟩
   refine⟨⟨by omega,by omega⟩,?_⟩
   refine bcd (λd2=>?_) (λd2=>?_)
   ·exact⟨true,rfl,Qal,⟨rfl,rfl,Tv⟩⟩
   have m1:(bx-ax+1)*(by'-ay+1)<=1000000002*1000000002:=Fbk (by omega) (by omega) (by omega) (by decide)
   have m0:0<=(bx-ax+1)*(by'-ay+1):=Fay (by omega) (by omega)
   refine⟨⟨by omega,by omega⟩,?_⟩
   refine⟨⟨by omega,by omega⟩,?_⟩
   refine⟨⟨by omega,by omega⟩,?_⟩
   refine⟨⟨by omega,by omega⟩,?_⟩
   refine⟨⟨by omega,by omega⟩,?_⟩
   exact⟨_,rfl,⟨Tq,Tq,Tq,Tq,Tq,Tq,Tv⟩,⟨rfl,rfl,Tv⟩⟩
  rintro b _ rfl
  refine AWp.of_vc zb ?_
  cases b with
  |true=>
   refine za (o:=(F.un N0).obj b3) _ (zf hN0.h3) ?_
   refine za (o:=(F.un N0).obj p) _ (z8 hd0 ha.hp) ?_
   refine yg4 (z8 hd0 ha.ha) (λhst=>?_)
   refine yg6 rfl (it:=ti363) rfl rfl (z8 hd0 ha.ha) (λbi hbi=>?_)
   have fbi:=fresh_un hbi
   have nbi:¬N0.has bi:=fresh_iff.1 fbi.2
   rw[G4 nbi]
   refine AWp.loop (σ:=List Nat×Store×AV×List Int) ⟨λ_=>[(6,.av (ptr b6)),(7,.av (F0 b3 b4 b5 b6)),(82,.av (ptr bi))],λ_=>[],
    λs st'=>st'=(F.sO bi (.iter ma cl1 s.1 cl1)).un s.2.1/\zh (F.sO bi (.iter ma cl1 s.1 cl1)) s.2.1/\NearAt s.2.1 b3 b4 b5 b6 p q r s.2.2.1 s.2.2.2/\s.1.Nodup/\(∀t∈s.1,t∈bs1)∧
     NearIn l q r (λe=>∃(i t:Nat),l[i]?=some e/\bs1[i]?=some t/\t∈s.1) s.2.2.2,λs=>bs1.length-s.1.length⟩ zb ?_ ?_
   ·exact⟨([],N0,_,[]),Tv,⟨rfl,W0 hd0 nbi,hN0,Fd7,(λt ht=>(by cases ht)),Fd7,λid=>⟨(λh=>(by cases h)),λ⟨e,_,_,_,i,t,_,_,h⟩=>(by cases h)⟩⟩,⟨Tq,Tq,Tq,Tv⟩,Tv⟩
   rintro⟨seen,N,v,acc⟩ st' ⟨rfl,hd,hN,hs1,hs2,hacc⟩
   dsimp only at hd hN hs1 hs2 hacc⊢
   have hF1:CellsAt (F.sO bi (.iter ma cl1 seen cl1)) p ma mi l bs1 cl1 G bs2 cl2:=ha.fresh _ fbi.1
   refine yg7 rfl (z8 hd (zd _ _ _)) (z8 hd hF1.ha) (λhall=>?_) (λi e t he ht hnt=>?_)
   ·refine⟨(F.sO bi (.iter ma cl1 seen cl1),N,v,acc),⟨rfl,hd,⟨ma,mi,_,_,_,_,_,hF1,hi⟩,hN,?_⟩,⟨Tq,Tv⟩,Tv⟩
    refine hacc.congr λe he _=>⟨λ_=>trivial,λ_=>?_⟩
    obtain⟨i,hi'⟩:=Fa2.1 he
    have hlt:i<bs1.length:=by
     have h1:=hst.len
     have h2:=(Faf.1 hi').1
     rw[Faq]at h1
     omega
    exact⟨i,bs1[i],hi',Fab hlt,hall _ (Faa hlt)⟩
   ·obtain⟨e0,he0,rfl⟩:∃e0,l[i]?=some e0/\vl e0=e:=by
     rw[Fap]at he
     cases hx:l[i]? with
     |none=>rw[hx]at he;cases he
     |some e0=>rw[hx]at he;simp at he;exact⟨e0,rfl,he⟩
    have hem:=Fau he0
    obtain⟨hd',nb⟩:=yeb (y:=.iter ma cl1 (seen++[t]) cl1) hd
    have hF2:CellsAt (F.sO bi (.iter ma cl1 (seen++[t]) cl1)) p ma mi l bs1 cl1 G bs2 cl2:=ha.fresh _ fbi.1
    rw[G4 nb,yq]
    refine yha rfl (z8 hd' (zd _ _ _)) (z8 hd' hF2.ha) he ht ?_
    refine ew hd' ⟨ma,mi,_,_,_,_,_,hF2,hi⟩ hN hq hr1 (pq hi.n1 hem) (hok _ hem) (by have:=hacc.len;omega) _ (λN' v' hdd hN'=>?_)
    refine⟨(seen++[t],N',v',_),?_,⟨rfl,hdd,hN',?_,?_,?_⟩,⟨Tq,Tq,Tq,Tv⟩,Tv⟩
    ·have h1:(seen++[t]).Nodup:=by
      rw[Fc8]
      exact⟨hs1,by simp,λa ha b hb=>by simp at hb;subst hb;exact λe=>hnt (e▸ha)⟩
     have h2:=Fbu (l₂:=bs1) h1 (λx hx=>by
      rcases Fal.1 hx with hx|hx
      ·exact hs2 x hx
      ·simp at hx;subst hx;exact Fau ht)
     rw[Fag]at h2
     show bs1.length-(seen++[t]).length<bs1.length-seen.length
     rw[Fag]
     simp at h2⊢
     omega
    ·show(seen++[t]).Nodup
     rw[Fc8]
     exact⟨hs1,by simp,λa ha b hb=>by simp at hb;subst hb;exact λe=>hnt (e▸ha)⟩
    ·intro x hx
     rcases Fal.1 hx with hx|hx
     ·exact hs2 x hx
     ·simp at hx;subst hx;exact Fau ht
    ·refine(hacc.step hi.n1 hem (λhh=>?_)).congr λe' he' _=>⟨λhh=>?_,λhh=>?_⟩
     ·obtain⟨i',t',h1,h2,h3⟩:=hh
      have:=By (f:=λe:Ent=>e.1) hi.n1 h1 he0 rfl
      subst this
      rw[ht]at h2
      cases h2
      exact hnt h3
     ·rcases hh with⟨i',t',h1,h2,h3⟩|rfl
      ·exact⟨i',t',h1,h2,List.mem_append_left _ h3⟩
      ·exact⟨i,t,he0,ht,by simp⟩
     ·obtain⟨i',t',h1,h2,h3⟩:=hh
      rcases Fal.1 h3 with h3|h3
      ·exact .inl ⟨i',t',h1,h2,h3⟩
      ·simp at h3
       subst h3
       right
       have hinc:=hst.inc
       have:i'=i:=by
        have hn:(bs1.map id).Nodup:=by
         rw[List.map_id]
         exact hinc.imp λh e=>by omega
        exact By (f:=id) hn h2 ht rfl
       subst this
       rw[he0]at h1
       cases h1;rfl
  |false=>
   refine AWp.loop (σ:=Int×Store×AV×List Int) ⟨λs=>[(3,.av (ptr b3)),(6,.av (ptr b6)),(7,.av (F0 b3 b4 b5 b6)),(8,.bx 8 0),(9,.bx 9 0),(12,.av (int s.1))],λ_=>[(8,[int ax,int ay]),(9,[int bx,int by'])],
    λs st'=>st'=F.un s.2.1/\zh F s.2.1/\NearAt s.2.1 b3 b4 b5 b6 p q r s.2.2.1 s.2.2.2/\(ax<=s.1/\s.1<=bx+1)/\NearIn l q r (λe=>(zq e.2).1<s.1) s.2.2.2,λs=>(bx+1-s.1).toNat⟩ zb ?_ ?_
   ·refine⟨(ax,N0,_,[]),Tv,⟨rfl,hd0,hN0,⟨Fcx _,by omega⟩,Fd7,λid=>⟨(λh=>(by cases h)),λ⟨e,he,_,hn,h⟩=>?_⟩⟩,⟨Tq,Tq,Tq,Tq,Tq,Tq,Tv⟩,⟨rfl,rfl,Tv⟩⟩
    have:=hrect e he hn
    dsimp only at h
    omega
   rintro⟨x,N,v,acc⟩ st' ⟨rfl,hd,hN,hx,hacc⟩
   dsimp only at hd hN hx hacc⊢
   refine bcd (λx1=>?_) (λx1=>?_)
   rotate_left
   ·refine⟨(F,N,v,acc),⟨rfl,hd,⟨ma,mi,_,_,_,_,_,ha,hi⟩,hN,?_⟩,⟨Tq,Tv⟩,Tv⟩
    refine hacc.congr λe he hn=>⟨λ_=>trivial,λ_=>?_⟩
    have:=hrect e he hn
    omega
   refine AWp.loop (σ:=Int×Store×AV×List Int) ⟨λs=>[(3,.av (ptr b3)),(6,.av (ptr b6)),(7,.av (F0 b3 b4 b5 b6)),(8,.bx 8 0),(9,.bx 9 0),(12,.av (int x)),(13,.av (int s.1))],λ_=>[(8,[int ax,int ay]),(9,[int bx,int by'])],
    λs st'=>st'=F.un s.2.1/\zh F s.2.1/\NearAt s.2.1 b3 b4 b5 b6 p q r s.2.2.1 s.2.2.2/\(ay<=s.1/\s.1<=by'+1)/\NearIn l q r (λe=>(zq e.2).1<x\/((zq e.2).1=x/\(zq e.2).2<s.1)) s.2.2.2,λs=>(by'+1-s.1).toNat⟩ zb ?_ ?_
   ·refine⟨(ay,N,v,acc),Tv,⟨rfl,hd,hN,⟨Fcx _,by omega⟩,hacc.congr λe he hn=>⟨.inl,λh=>h.elim id λh=>?_⟩⟩,Qal,⟨rfl,rfl,Tv⟩⟩
    have:=hrect e he hn
    dsimp only at h
    omega
   clear hN hacc hd
   rintro⟨y,N,v,acc⟩ st' ⟨rfl,hd,hN,hy,hacc⟩
   dsimp only at hd hN hy hacc⊢
   refine bcd (λy1=>?_) (λy1=>?_)
   rotate_left
   ·refine⟨⟨by omega,by omega⟩,?_⟩
    refine⟨(x+1,N,v,acc),?_,⟨rfl,hd,hN,by dsimp only;omega,hacc.congr λe he hn=>?_⟩,Qal,⟨rfl,rfl,Tv⟩⟩
    ·show(bx+1-(x+1)).toNat<(bx+1-x).toNat
     omega
    ·have:=hrect e he hn
     dsimp only
     omega
   refine za (o:=(F.un N).obj b3) _ (zf hN.h3) ?_
   refine za (o:=(F.un N).obj p) _ (z8 hd ha.hp) ?_
   refine vo rfl (it:=ti364) (ie:=ti29) (ik:=ti33) rfl rfl rfl rfl (z8 hd ha.hi) rfl (qG x y) (λe he=>?_) ?_
   ·obtain⟨e,_,rfl⟩:=Fac.1 he
    rfl
   rw[L8 G (x,y),show Bo ti29=.s (.slice none 0 0)from rfl]
   cases hf:G.find? (Db (x,y))with
   |none=>
    refine AWp.loop (σ:=Unit) ⟨λ_=>[(3,.av (ptr b3)),(6,.av (ptr b6)),(7,.av (F0 b3 b4 b5 b6)),(8,.bx 8 0),(9,.bx 9 0),(12,.av (int x)),(13,.av (int y)),(114,.av (int 0)),(115,.av (int 0))],λ_=>[(8,[int ax,int ay]),(9,[int bx,int by'])],
     λ_ st'=>st'=F.un N,λ_=>0⟩ zb ?_ ?_
    ·exact⟨(),Tv,rfl,Qal,⟨rfl,rfl,Tv⟩⟩
    rintro _ st' rfl
    ·refine⟨⟨by omega,by omega⟩,?_⟩
     refine⟨(y+1,N,v,acc),?_,⟨rfl,hd,hN,by dsimp only;omega,hacc.congr λe he hn=>?_⟩,Qal,⟨rfl,rfl,Tv⟩⟩
     ·show(by'+1-(y+1)).toNat<(by'+1-y).toNat
      omega
     ·have hne:zq e.2≠(x,y):=λhk=>by
       obtain⟨g,hg,hgk⟩:=hi.m2 e he
       exact Fcu.1 hf g hg (atKey_iff.2 (by rw[hgk,hk]))
      have:¬((zq e.2).1=x/\(zq e.2).2=y):=λ⟨h1,h2⟩=>hne (Prod.ext h1 h2)
      dsimp only
      omega
   |some g=>
    obtain⟨hg,hgk⟩:=L6 hf
    have hgk:=atKey_iff.1 hgk
    obtain⟨k1,k2,k3⟩:=ha.hg g hg
    have gs:=(hi.s g hg).1
    have gl:=W3 hi g hg
    refine AWp.loop (σ:=Nat×Store×AV×List Int) ⟨λs=>[(3,.av (ptr b3)),(6,.av (ptr b6)),(7,.av (F0 b3 b4 b5 b6)),(8,.bx 8 0),(9,.bx 9 0),(12,.av (int x)),(13,.av (int y)),(113,.av (.s (.slice (some ⟨g.b,0,none⟩) g.ns.length g.cap))),(114,.av (int g.ns.length)),(115,.av (int (s.1:Nat)))],
     λ_=>[(8,[int ax,int ay]),(9,[int bx,int by'])],
     λs st'=>st'=F.un s.2.1/\zh F s.2.1/\NearAt s.2.1 b3 b4 b5 b6 p q r s.2.2.1 s.2.2.2/\s.1<=g.ns.length/\NearIn l q r (λe=>((zq e.2).1<x\/((zq e.2).1=x/\(zq e.2).2<y))\/(zq e.2=(x,y)/\e.1∈g.ns.take s.1)) s.2.2.2,λs=>g.ns.length-s.1⟩ zb ?_ ?_
    ·exact⟨(0,N,v,acc),Tv,⟨rfl,hd,hN,Faj _,hacc.congr λe he hn=>⟨.inl,λh=>h.elim id λh=>(by cases h.2)⟩⟩,Qal,⟨rfl,rfl,Tv⟩⟩
    clear hN hacc hd
    rintro⟨idx,N,v,acc⟩ st' ⟨rfl,hd,hN,hidx,hacc⟩
    dsimp only at hd hN hidx hacc⊢
    refine bcd (λz1=>?_) (λz1=>?_)
    rotate_left
    ·have hie:idx=g.ns.length:=by omega
     subst hie
     refine⟨⟨by omega,by omega⟩,?_⟩
     refine⟨(y+1,N,v,acc),?_,⟨rfl,hd,hN,by dsimp only;omega,hacc.congr λe he hn=>?_⟩,Qal,⟨rfl,rfl,Tv⟩⟩
     ·show(by'+1-(y+1)).toNat<(by'+1-y).toNat
      omega
     ·rw[Faz]
      have h1:zq e.2=(x,y)↔((zq e.2).1=x/\(zq e.2).2=y):=⟨λh=>by rw[h];exact⟨rfl,rfl⟩,λ⟨h1,h2⟩=>Prod.ext h1 h2⟩
      have h2:zq e.2=(x,y)->e.1∈g.ns:=λh=>(hi.m1 g hg e.1).2 ⟨e,he,rfl,by rw[h,hgk]⟩
      dsimp only
      constructor
      ·rintro(h|⟨h,_⟩)
       ·omega
       ·have:=h1.1 h;omega
      ·intro h
       by_cases h3:zq e.2=(x,y)
       ·exact .inr ⟨h3,h2 h3⟩
       ·have h4:¬((zq e.2).1=x/\(zq e.2).2=y):=λhh=>h3 (h1.2 hh)
        left
        omega
    have hlt:idx<g.ns.length:=by omega
    have hidm:g.ns[idx]∈g.ns:=Faa hlt
    obtain⟨e,hem,heid,hek⟩:=(hi.m1 g hg g.ns[idx]).1 hidm
    refine⟨idx,rfl,hlt,?_⟩
    refine za (o:=(F.un N).obj g.b) _ (z8 hd k1) ?_
    refine za (o:=List.head? _) (int e.1) (by
     rw[Fci,show 0+idx*ti2.size=idx from by show 0+idx*1=idx;omega,Fam (by simpa using hlt),Fap,Fab hlt,heid];rfl) ?_
    refine ew hd ⟨ma,mi,_,_,_,_,_,ha,hi⟩ hN hq hr1 (pq hi.n1 hem) (hok _ hem) (by have:=hacc.len;omega) _ (λN' v' hdd hN'=>?_)
    refine⟨⟨by omega,by omega⟩,?_⟩
    refine⟨(idx+1,N',v',_),?_,⟨rfl,hdd,hN',hlt,?_⟩,⟨Tq,Tq,Tq,Tq,Tq,Tq,Tq,Tq,Tq,Tq,Tv⟩,⟨rfl,rfl,Tv⟩⟩
    ·show g.ns.length-(idx+1)<g.ns.length-idx
     omega
    ·have hkey:zq e.2=(x,y):=by rw[hek,hgk]
     have hnot:e.1∉g.ns.take idx:=by
      rw[heid]
      intro hh
      obtain⟨j,hj⟩:=Fa2.1 hh
      have hjlt:j<idx:=by
       have:=(Faf.1 hj).1
       simp at this;omega
      rw[Fb7 hjlt]at hj
      have h5:=Fcp.1 gs j idx (by omega) hlt hjlt
      rw[Fab (by omega)]at hj
      have hj':=Option.some.inj hj
      rw[hj']at h5
      exact absurd h5 (Int.lt_irrefl _)
     refine(hacc.step hi.n1 hem (λhh=>?_)).congr λe' he' _=>?_
     ·rcases hh with hh|⟨_,hh⟩
      ·rw[hkey]at hh;dsimp only at hh;omega
      ·exact hnot hh
     ·dsimp only
      rw[Fae hlt,Fal]
      constructor
      ·rintro((h|⟨h,h'⟩)|rfl)
       ·exact .inl h
       ·exact .inr ⟨h,.inl h'⟩
       ·exact .inr ⟨hkey,.inr (by simp[heid])⟩
      ·rintro(h|⟨h,h'|h'⟩)
       ·exact .inl (.inl h)
       ·exact .inl (.inr ⟨h,h'⟩)
       ·right
        have:e'.1=e.1:=by rw[heid];simpa using h'
        exact Lw hi.n1 hem he' this
 ·rintro⟨F',N,v,acc⟩ st' ⟨rfl,hd,hc',hN,hacc⟩
  dsimp only at hd hc' hN hacc⊢
  refine AWp.of_vc zb ?_
  refine za (o:=(F'.un N).obj b6) _ (zf hN.h6) ?_
  have hms:=zy6 hacc.1
  have hnear:Mr l q r (acc.mergeSort λx y=>decide (x<=y)):=⟨hms.1,λid=>by
   rw[hms.2,hacc.2 id]
   constructor
   ·rintro⟨e,h1,h2,h3,_⟩;exact⟨e,h1,h2,h3⟩
   ·rintro⟨e,h1,h2,h3⟩;exact⟨e,h1,h2,h3,Tv⟩⟩
  have hal:=hacc.len
  have hml:(acc.mergeSort λx y=>decide (x<=y)).length=acc.length:=List.length_mergeSort acc
  rcases Lt hN.hv with⟨rfl,rfl⟩|⟨b,cap,L,rfl,ho,h1,h2,h3⟩
  ·refine zrn _ ?_
   refine za (o:=(F'.un N).obj b6) _ (zf hN.h6) ?_
   refine Bs (i:=ti29) (v:=.s (.slice none 0 0)) (b:=b6) (o:=0) (l:=[.s (.slice none 0 0)]) rfl rfl rfl (zf hN.h6) (Fak _) ?_
   refine za (o:=Store.obj (Store.sO _ b6 _) b6) _ (zd _ _ _) ?_
   refine ret ?_
   rw[zt]
   exact h F' _ _ _ hc' (Km hd hN.h6) (.inl ⟨rfl,by simp⟩) hnear
  ·refine zrm (zf ho) (by omega) _ ?_
   have hb6:b6≠b:=Ne.symm (hN.nv b _ _ rfl).2.2.2
   have h6:((F'.un N).sO b (.cells ((acc.mergeSort λx y=>decide (x<=y)).map aI++L))).obj b6=some (.cells [.s (.slice (some ⟨b,0,none⟩) acc.length cap)]):=by rw[zg hb6];exact zf hN.h6
   refine za (o:=Store.obj (Store.sO _ b _) b6) _ h6 ?_
   refine Bs (i:=ti29) (v:=.s (.slice (some ⟨b,0,none⟩) acc.length cap)) (b:=b6) (o:=0) (l:=[.s (.slice (some ⟨b,0,none⟩) acc.length cap)]) rfl rfl rfl h6 (Fak _) ?_
   refine za (o:=Store.obj (Store.sO _ b6 _) b6) _ (zd _ _ _) ?_
   refine ret ?_
   rw[zt,zt]
   refine h F' _ _ _ hc' (Km (Km hd ho) (by rw[zg hb6];exact hN.h6)) (.inr ⟨b,cap,L,?_,?_,?_,?_,h3⟩) hnear
   ·rw[hml];rfl
   ·rw[zg (Ne.symm hb6)];exact zd _ _ _
   ·omega
   ·omega
end
theorem yak(l:List Int)(hl:l.length<=1000000000000)(fn:FuncId)(cap:List AV)(q:Int->Bool)(st:Store)(hf:∀x∈l,∀R:AV->Store->Prop,R (bool (q x)) st->Jb fn ([int x]++cap) st R)
  (R:Ja) (h:R (int (C0 (l.findIdx? q))) st):Jb 403 [lst 1 zz l,.clos fn cap] st R:=by
 refine Qa (c:=cfg 19) zb Tryz.func403 ?_
 refine AWp.loop (σ:=Nat) ⟨λi=>[(0,.av (lst 1 zz l)),(1,.av (.clos fn cap)),(7,.av (int (l.length:Nat))),(8,.av (int (i:Nat)))],λ_=>[],
  λi st'=>i<=l.length/\st'=st/\∀j,(hj:j<l.length)->j<i->q l[j]=false,λi=>l.length-i⟩ zb ?_ ?_
 ·refine⟨0,Tv,⟨Faj _,rfl,λj _ hj=>by omega⟩,⟨Tq,Tq,?_,Tq,Tv⟩,Tv⟩
  rw[<-zm (f:=zz) l]
  exact Tq
 rintro i st' ⟨hi,rfl,hall⟩
 refine bcd (λh1=>?_) (λh1=>?_)
 rotate_left
 ·have e:l.findIdx? q=none:=by
   rw[Fbq]
   intro x hx
   obtain⟨j,hj,rfl⟩:=Fai hx
   exact hall j hj (by omega)
  rw[e]at h
  exact ret h
 have hlt:i<l.length:=by omega
 refine⟨i,rfl,za _ (zr hlt) ?_⟩
 refine hf l[i] (Faa hlt) _ ?_
 refine zj (λh2=>?_) (λh2=>?_)
 ·have e:l.findIdx? q=some i:=by
   rw[Fbh]
   exact⟨hlt,h2,λj hj=>by rw[hall j (by omega) hj];decide⟩
  rw[e]at h
  exact ret h
 ·refine Qd ?_
  refine⟨i+1,?_,⟨by omega,rfl,λj hj hj2=>?_⟩,Qal,Tv⟩
  ·show l.length-(i+1)<l.length-i
   omega
  ·by_cases e:j=i
   ·subst e;exact h2
   ·exact hall j hj (by omega)
theorem yal(l:List Int)(hl:l.length<=1000000000000)(fn:FuncId)(cap:List AV)(q:Int->Bool)(st:Store)(hf:∀x∈l,∀R:AV->Store->Prop,R (bool (q x)) st->Jb fn ([int x]++cap) st R)
  (R:Ja) (h:R (bool (l.any q)) st):Jb 352 [lst 1 zz l,.clos fn cap] st R:=by
 refine Qa (c:=cfg 9) zb Tryz.func352 ?_
 refine yak l hl fn cap q st hf _ ?_
 have e:decide ((0:Int)<=C0 (l.findIdx? q))=l.any q:=by
  cases hx:l.findIdx? q with
  |none=>
   rw[Fbq]at hx
   rw[show decide ((0:Int)<=C0 none)=false from by decide]
   symm
   rw[Fdm]
   intro x hm
   rw[hx x hm];decide
  |some i=>
   rw[Fbh]at hx
   obtain⟨hi,h1,_⟩:=hx
   rw[show decide ((0:Int)<=C0 (some i))=true from by simp[C0]]
   symm
   rw[Fcl]
   exact⟨l[i],Faa hi,h1⟩
 rw[<-e]at h
 exact ret h
theorem tz(l:List Bld)(hl:l.length<=1000000000000)(fn:FuncId)(cap:List AV)(q:Bld->Bool)(st:Store)(hf:∀x∈l,∀R:AV->Store->Prop,R (bool (q x)) st->Jb fn ([.agg (zi x)]++cap) st R)
  (R:Ja) (h:R (int (C0 (l.findIdx? q))) st):Jb 286 [lst 6 zi l,.clos fn cap] st R:=by
 refine Qa (c:=cfg 19) zb Tryz.func286 ?_
 refine AWp.loop (σ:=Nat) ⟨λi=>[(0,.av (lst 6 zi l)),(1,.av (.clos fn cap)),(7,.av (int (l.length:Nat))),(8,.av (int (i:Nat)))],λ_=>[],
  λi st'=>i<=l.length/\st'=st/\∀j,(hj:j<l.length)->j<i->q l[j]=false,λi=>l.length-i⟩ zb ?_ ?_
 ·refine⟨0,Tv,⟨Faj _,rfl,λj _ hj=>by omega⟩,⟨Tq,Tq,?_,Tq,Tv⟩,Tv⟩
  rw[<-zm (f:=zi) l]
  exact Tq
 rintro i st' ⟨hi,rfl,hall⟩
 refine bcd (λh1=>?_) (λh1=>?_)
 rotate_left
 ·have e:l.findIdx? q=none:=by
   rw[Fbq]
   intro x hx
   obtain⟨j,hj,rfl⟩:=Fai hx
   exact hall j hj (by omega)
  rw[e]at h
  exact ret h
 have hlt:i<l.length:=by omega
 refine⟨i,rfl,za _ (zr hlt) ?_⟩
 refine hf l[i] (Faa hlt) _ ?_
 refine zj (λh2=>?_) (λh2=>?_)
 ·have e:l.findIdx? q=some i:=by
   rw[Fbh]
   exact⟨hlt,h2,λj hj=>by rw[hall j (by omega) hj];decide⟩
  rw[e]at h
  exact ret h
 ·refine Qd ?_
  refine⟨i+1,?_,⟨by omega,rfl,λj hj hj2=>?_⟩,Qal,Tv⟩
  ·show l.length-(i+1)<l.length-i
   omega
  ·by_cases e:j=i
   ·subst e;exact h2
   ·exact hall j hj (by omega)
theorem t8(l:List Bld)(hl:l.length<=1000000000000)(fn:FuncId)(cap:List AV)(q:Bld->Bool)(st:Store)(hf:∀x∈l,∀R:AV->Store->Prop,R (bool (q x)) st->Jb fn ([.agg (zi x)]++cap) st R)
  (R:Ja) (h:R (bool (l.any q)) st):Jb 189 [lst 6 zi l,.clos fn cap] st R:=by
 refine Qa (c:=cfg 9) zb Tryz.func189 ?_
 refine tz l hl fn cap q st hf _ ?_
 have e:decide ((0:Int)<=C0 (l.findIdx? q))=l.any q:=by
  cases hx:l.findIdx? q with
  |none=>
   rw[Fbq]at hx
   rw[show decide ((0:Int)<=C0 none)=false from by decide]
   symm
   rw[Fdm]
   intro x hm
   rw[hx x hm];decide
  |some i=>
   rw[Fbh]at hx
   obtain⟨hi,h1,_⟩:=hx
   rw[show decide ((0:Int)<=C0 (some i))=true from by simp[C0]]
   symm
   rw[Fcl]
   exact⟨l[i],Faa hi,h1⟩
 rw[<-e]at h
 exact ret h
theorem yc3(g:Gnd)(p:Nat)(t:Nat)(ht:t<g.T.length)(st:Store)(hp:st.obj p=some (.cells (zo g)))(R:Ja)(h:R (bool (decide ((g.T.getD t 0).toNat>1))) st):
  Jb 353 ([int (t:Nat)]++[ptr p]) st R:=by
 have hget:g.T.getD t 0=g.T[t]:=by simp[ht]
 rw[hget]at h
 refine Qa (c:=cfg 10) zb Tryz.func353 ?_
 refine za _ hp ?_
 refine⟨t,rfl,za _ (zr ht) ?_⟩
 refine ret ?_
 have e:decide ((1:Int)<(g.T[t].toNat:Int))=decide (g.T[t].toNat>1):=by
  rw[Fbr,decide_eq_true_iff,decide_eq_true_iff];omega
 rw[<-e]at h
 exact h
theorem ug(g:Gnd)(hg:zn g)(b:Bld)(hb:yc b/\onP g b)(st:Store)(R:Ja)(h:∀z:Bool,(z=true↔Az g b)->R (bool z) st):
  Jb 284 [.agg (zo g),.agg (zi b)] st R:=by
 have hm:=qi hg
 refine Qa (c:=cfg 11 [2] []) zb Tryz.func284 ?_
 intro p hp
 have ho:(st.sO p (.cells (zo g))).obj p=some (.cells (zo g)):=zd _ _ _
 refine za _ ho ?_
 refine Nb g hg b hb _ _ ?_
 have hl:(vp g.W b).length<=1000000000000:=by
  unfold vp
  rw[R5]
  have hb':=hb.1
  unfold yc at hb'
  have:b.h.toNat*b.w.toNat<=4*4:=Fd6 (by omega) (by omega)
  omega
 refine yal (vp g.W b) hl _ _ (λx=>decide ((g.T.getD x.toNat 0).toNat>1)) _ (λx hx R h=>?_) _ ?_
 ·obtain⟨n,rfl,hn,hh⟩:=(Fa hg hb.1 hb.2 x).1 hx
  exact yc3 g p n (by omega) _ ho R (by rw[Fa9]at h;exact h)
 refine Aq (Tt) (Fh hp.1) (h _ ?_)
 unfold Az
 rw[Fby,Fdm]
 constructor
 ·intro hh t ht hb2
  have:=hh (t:Int) ((Fa hg hb.1 hb.2 _).2 ⟨t,rfl,by omega,hb2⟩)
  rw[decide_eq_true_iff,Fa9]at this
  omega
 ·intro hh x hx
  obtain⟨n,rfl,hn,hb2⟩:=(Fa hg hb.1 hb.2 x).1 hx
  rw[decide_eq_true_iff,Fa9]
  have:=hh n (by omega) hb2
  omega
theorem Qac{p:Prop}(h:p:=by rw[yq,show 0+i*1=i by omega,hz,<-s1,Fp hlt _ s2]):p:=h
def blV(b n:Nat):AV:=.s (.slice (some ⟨b,0,none⟩) n n)
theorem yeo(g:Gnd)(hg:zn g)(l:List Bld)(hl:l.length<=1000000000000)(hb:∀b∈l,yc b/\onP g b)(st:Store)(R:Ja)
  (h:∀b,Fresh st b->R (blV b g.T.length) (st.sO b (.cells (bl g.T.length (qc g l))))):Jb 359 [.agg (zo g),lst 6 zi l] st R:=by
 have ha:=qi hg
 have hT:((rws u8C g.T).length:Int)=(g.T.length:Int):=by rw[zm]
 refine Qa (c:=cfg 34) zb Tryz.func359 ?_
 refine Gv rfl (it:=ti59) (ie:=ti4) rfl rfl rfl rfl rfl (n:=(rws u8C g.T).length) ?_ ?_ (λb hf=>?_)
 ·rw[zm];show 1*_<=_;omega
 ·rw[zm];omega
 rw[zm,Mn]
 refine AWp.loop (σ:=Nat) ⟨λi=>[(2,.bx 2 0),(5,.av (blV b g.T.length)),(14,.av (lst 6 zi l)),(15,.av (int (l.length:Nat))),(16,.av (int (i:Nat)))],λ_=>[(2,zo g)],
  λi st'=>i<=l.length/\st'=st.sO b (.cells (bl g.T.length (qc g (l.take i)))),λi=>l.length-i⟩ zb ?_ ?_
 ·refine⟨0,Tv,⟨Faj _,rfl⟩,⟨Tq,Tq,Tq,?_,Tq,Tv⟩,⟨rfl,Tv⟩⟩
  rw[<-zm (f:=zi) l]
  exact Tq
 rintro i st' ⟨hi,rfl⟩
 refine bcd (λh1=>?_) (λh1=>?_)
 rotate_left
 ·have:i=l.length:=by omega
  subst this
  rw[Faz]
  exact ret (h b hf)
 have hlt:i<l.length:=by omega
 have hbi:=hb l[i] (Faa hlt)
 refine⟨i,rfl,za _ (zr hlt) ?_⟩
 refine Nb g hg l[i] hbi _ _ ?_
 have hcov:=λ(t:Nat) (ht:t<g.T.length)=>sf hg hlt hbi ht
 have hmem:=Fa hg hbi.1 hbi.2
 have h0:=sd g l i (vp g.W l[i])
 have hts:=R6 g.W hbi.1
 generalize vp g.W l[i]=ts at*
 refine AWp.loop (σ:=Nat) ⟨λk=>[(2,.bx 2 0),(5,.av (blV b g.T.length)),(14,.av (lst 6 zi l)),(15,.av (int (l.length:Nat))),(16,.av (int (i:Nat))),(22,.av (qa ts)),(23,.av (int (ts.length:Nat))),(24,.av (int (k:Nat)))],λ_=>[(2,zo g)],
  λk st'=>k<=ts.length/\st'=st.sO b (.cells (bl g.T.length (jk g l i ts k))),λk=>ts.length-k⟩ zb ?_ ?_
 ·refine⟨0,Tv,⟨Faj _,?_⟩,⟨Tq,Tq,Tq,Tq,Tq,Tq,?_,Tq,Tv⟩,⟨rfl,Tv⟩⟩
  ·rw[show jk g l i ts 0=qc g (l.take i)from funext h0]
  ·rw[<-zm (f:=zz) ts]
   exact Tq
 rintro k st' ⟨hk,rfl⟩
 refine bcd (λh2=>?_) (λh2=>?_)
 rotate_left
 ·have:k=ts.length:=by omega
  subst this
  refine Qd ?_
  refine⟨i+1,?_,⟨by omega,?_⟩,Qal,⟨rfl,Tv⟩⟩
  ·show l.length-(i+1)<l.length-i
   omega
  ·have:bl g.T.length (jk g l i ts ts.length)=bl g.T.length (qc g (l.take (i+1))):=by
    unfold bl
    exact Fb0 λt ht=>by rw[hcov t (Fa4.1 ht)]
   rw[this]
 have hklt:k<ts.length:=by omega
 obtain⟨n,hn,hn2,hn3⟩:=(hmem ts[k]).1 (Faa hklt)
 have hnl:n<g.T.length:=by omega
 obtain⟨s1,s2⟩:=se (g:=g) (l:=l) (i:=i) hklt hn
 refine⟨k,rfl,za _ (zr hklt) ?_⟩
 refine⟨n,hn,hnl,?_⟩
 refine qj (i:=ti4) (v:=bool true) (b:=b) (o:=0+n*1) (l:=bl g.T.length (jk g l i ts k)) (st2:=st.sO b (.cells (bl g.T.length (jk g l i ts (k+1))))) rfl rfl rfl (zd _ _ _) (by rw[wy];omega) ?_ ?_
 ·rw[yq,show 0+n*1=n by omega,<-s1,Fp hnl _ s2]
 refine Qd ?_
 refine⟨k+1,?_,⟨by omega,rfl⟩,Qal,⟨rfl,Tv⟩⟩
 show ts.length-(k+1)<ts.length-k
 omega
theorem Ve(n:Nat)(f:Nat->Bool):(rws vd (blL n f)).flatten++[]=bl n f:=by rw[Fbp,yf6]
def opV(g:Gnd)(l:List Bld)(c:Int):AV:=lst 1 vd (blL g.T.length (yi g l c))
def q9(g:Gnd)(l:List Bld)(c:Int)(i t:Nat):Bool:=if t<i then yi g l c t else qc g l t
theorem Hz(g:Gnd)(hg:zn g)(l:List Bld)(hl:l.length<=1000000000000)(hb:∀b∈l,yc b/\onP g b)(c:Int)(st:Store)(R:Ja)(h:R (opV g l c) st):
  Jb 293 [.agg (zo g),lst 6 zi l,int c] st R:=by
 have ha:=qi hg
 refine Qb (c:=cfg 37) zb Tryz.func293 ?_
 refine AWp.seq (AWp.of_vc zb ?_)
 refine AWp.seq (AWp.of_vc zb ?_)
 refine yeo g hg l hl hb _ _ (λb hf=>?_)
 have step:∀i,i<g.T.length->q9 g l c (i+1) i=yi g l c i/\∀s,s≠i->q9 g l c (i+1) s=q9 g l c i s:=λi hi=>by
  unfold q9
  refine⟨if_pos (by omega),λs hs=>?_⟩
  by_cases h1:s<i
  ·rw[if_pos (by omega),if_pos h1]
  ·rw[if_neg (by omega),if_neg h1]
 refine AWp.meetA (σ:=Unit) ⟨λ_=>[(7,.av (blV b g.T.length))],λ_=>[],λ_ st'=>st'=st.sO b (.cells (bl g.T.length (yi g l c)))⟩ ?_ ?_
 ·refine AWp.of_vc zb ?_
  refine AWp.loop (σ:=Nat) ⟨λi=>[(2,.av (int c)),(3,.bx 3 0),(7,.av (blV b g.T.length)),(13,.av (blV b g.T.length)),(14,.av (int (g.T.length:Nat))),(15,.av (int (i:Nat)))],λ_=>[(3,zo g)],
   λi st'=>i<=g.T.length/\st'=st.sO b (.cells (bl g.T.length (q9 g l c i))),λi=>g.T.length-i⟩ zb ?_ ?_
  ·refine⟨0,Tv,⟨Faj _,?_⟩,Qal,⟨rfl,Tv⟩⟩
   rw[show q9 g l c 0=qc g l from funext λt=>if_neg (Fbf t)]
  rintro i st' ⟨hi,rfl⟩
  refine bcd (λh1=>?_) (λh1=>?_)
  rotate_left
  ·have:i=g.T.length:=by omega
   subst this
   refine⟨(),?_,⟨Tq,Tv⟩,Tv⟩
   have:bl g.T.length (q9 g l c g.T.length)=bl g.T.length (yi g l c):=by
    unfold bl q9
    exact Fb0 λt ht=>by rw[if_pos (Fa4.1 ht)]
   rw[this]
  have hlt:i<g.T.length:=by omega
  obtain⟨s1,s2⟩:=step i hlt
  have ho:(st.sO b (.cells (bl g.T.length (q9 g l c i)))).obj b=some (.cells (bl g.T.length (q9 g l c i))):=zd _ _ _
  have hmid:q9 g l c i i=qc g l i:=if_neg (Fet i)
  have hhead:((bl g.T.length (q9 g l c i)).drop (0+i*1)).head?=some (bool (qc g l i)):=by
   rw[Fci,show 0+i*1=i by omega,Fq hlt,hmid]
  refine⟨i,rfl,hlt,?_⟩
  refine za _ ho (za _ hhead ?_)
  have hti:g.T[i].toNat<=5:=hg.2.2.2 _ (Faa hlt)
  have hget:g.T.getD i 0=g.T[i]:=by simp[hlt]
  refine zj (λc1=>?_) (λc1=>?_)
  ·have c1:qc g l i=false:=by simpa using c1
   refine⟨i,rfl,za _ (zr hlt) ?_⟩
   refine S5 c g.T[i] hti _ _ ?_
   have hz:decide (0<wv c g.T[i].toNat)=yi g l c i:=by
    unfold yi
    rw[c1,hget];rfl
   refine⟨i,rfl,hlt,?_⟩
   refine qj (i:=ti4) (v:=bool (decide (0<wv c g.T[i].toNat))) (b:=b) (o:=0+i*1) (l:=_) (st2:=st.sO b (.cells (bl g.T.length (q9 g l c (i+1))))) rfl rfl rfl ho (by rw[wy];omega) Qac ?_
   refine Qd ?_
   refine⟨i+1,?_,⟨by omega,rfl⟩,Qal,⟨rfl,Tv⟩⟩
   show g.T.length-(i+1)<g.T.length-i
   omega
  ·have c1:qc g l i=true:=by simpa using c1
   have hz:false=yi g l c i:=by
    unfold yi
    rw[c1];rfl
   refine⟨i,rfl,hlt,?_⟩
   refine qj (i:=ti4) (v:=bool false) (b:=b) (o:=0+i*1) (l:=_) (st2:=st.sO b (.cells (bl g.T.length (q9 g l c (i+1))))) rfl rfl rfl ho (by rw[wy];omega) Qac ?_
   refine Qd ?_
   refine⟨i+1,?_,⟨by omega,rfl⟩,Qal,⟨rfl,Tv⟩⟩
   show g.T.length-(i+1)<g.T.length-i
   omega
 ·rintro _ _ rfl
  refine AWp.freeze (d:=7) (b:=b) (k:=1) (n:=g.T.length) (cap:=g.T.length) (rows:=rws vd (blL g.T.length (yi g l c))) (pad:=[]) rfl ?_ ?_ ?_ (Fak _) ?_ ?_ ?_
  ·rw[Ve];exact zd _ _ _
  ·exact hf.2
  ·rw[zm,Ba]
  ·intro row hr
   obtain⟨x,_,rfl⟩:=Fac.1 hr
   rfl
  ·intro row hr y hy
   obtain⟨x,_,rfl⟩:=Fac.1 hr
   simp[vd]at hy
   exact⟨_,hy,rfl⟩
  rw[Mg hf.1]
  refine AWp.of_vc zb ?_
  exact ret h
theorem yfu(g:Gnd)(hg:zn g)(l:List Bld)(hl:l.length<=1000000000000)(st:Store)(R:Ja)
  (h:∀z:Bool,(z=true↔Fo g l)->R (bool z) st):Jb 188 [.agg (zo g),lst 6 zi l] st R:=by
 have ha:=qi hg
 have hT:((rws u8C g.T).length:Int)=(g.T.length:Int):=by rw[zm]
 have hL:((rws zi l).length:Int)=(l.length:Int):=by rw[zm]
 have no:¬Fo g l->R (bool false) st:=λhn=>h false (by simp[hn])
 refine Qa (c:=cfg 60) zb Tryz.func188 ?_
 refine bcd (λc1=>ret (no λq=>by have:=q.1;omega)) (λc1=>?_)
 refine yfy l hl _ _ (λz hz=>?_)
 refine ym ?_
 refine zj (λc2=>?_) (λc2=>ret (no λq=>by have:=hz.2 q.2.1;rw[this]at c2;cases c2))
 have hr:=hz.1 c2
 refine Gv rfl (it:=ti59) (ie:=ti4) rfl rfl rfl rfl rfl (n:=(rws u8C g.T).length) ?_ ?_ (λb hf=>?_)
 ·rw[zm];show 1*_<=_;omega
 ·rw[zm];omega
 rw[zm (f:=u8C) g.T,Mn]
 have hhas:∀f:Nat->Bool,(st.sO b (.cells (bl g.T.length f))).Has st:=λf=>Fh hf.1
 refine AWp.loop (σ:=Nat) ⟨λi=>[(2,.bx 2 0),(5,.av (blV b g.T.length)),(22,.av (lst 6 zi l)),(23,.av (int (l.length:Nat))),(24,.av (int (i:Nat)))],λ_=>[(2,zo g)],
  λi st'=>i<=l.length/\st'=st.sO b (.cells (bl g.T.length (qc g (l.take i))))/\P3 g l i,λi=>l.length-i⟩ zb ?_ ?_
 ·refine⟨0,Tv,⟨Faj _,rfl,λj _ hj=>by omega⟩,⟨Tq,Tq,Tq,?_,Tq,Tv⟩,⟨rfl,Tv⟩⟩
  rw[<-zm (f:=zi) l]
  exact Tq
 rintro i st' ⟨hi,rfl,hup⟩
 refine bcd (λh1=>?_) (λh1=>?_)
 rotate_left
 ·have:i=l.length:=by omega
  subst this
  have hall:=tn hup
  exact Aq (Tt) (hhas _) (h true (by simp;exact⟨by omega,hr,hall.1,hall.2⟩))
 have hlt:i<l.length:=by omega
 have nof:¬Fo g l->∃r st',AV.le (bool false) r/\(st.sO b (.cells (bl g.T.length (qc g (l.take i))))).Has st'/\R r st':=λhn=>Aq (Tt) (hhas _) (no hn)
 refine⟨i,rfl,za _ (zr hlt) ?_⟩
 refine uf l[i] _ _ (λz1 hz1=>?_)
 refine ym ?_
 refine zj (λc3=>?_) (λc3=>nof λq=>by have:=hz1.2 (q.2.2.1 _ (Faa hlt)).1;rw[this]at c3;cases c3)
 have hb1:=hz1.1 c3
 refine tv g l[i] hg hb1 _ _ (λz2 hz2=>?_)
 refine ym ?_
 refine zj (λc4=>?_) (λc4=>nof λq=>by have:=hz2.2 (q.2.2.1 _ (Faa hlt)).2.1;rw[this]at c4;cases c4)
 have hb2:=hz2.1 c4
 refine ug g hg l[i] ⟨hb1,hb2⟩ _ _ (λz3 hz3=>?_)
 refine ym ?_
 refine zj (λc5=>?_) (λc5=>nof λq=>by have:=hz3.2 (q.2.2.1 _ (Faa hlt)).2.2;rw[this]at c5;cases c5)
 have hb3:=hz3.1 c5
 have hbi:yc l[i]/\onP g l[i]:=⟨hb1,hb2⟩
 refine Nb g hg l[i] hbi _ _ ?_
 have hcov:=λ(t:Nat) (ht:t<g.T.length)=>sf hg hlt hbi ht
 have hmem:=Fa hg hbi.1 hbi.2
 have h0:=sd g l i (vp g.W l[i])
 have hts:=R6 g.W hbi.1
 have hcm:=yep hg hlt hbi hup
 have hso:=zc3 hg hbi
 generalize vp g.W l[i]=ts at*
 refine AWp.loop (σ:=Nat) ⟨λk=>[(2,.bx 2 0),(5,.av (blV b g.T.length)),(22,.av (lst 6 zi l)),(23,.av (int (l.length:Nat))),(24,.av (int (i:Nat))),(45,.av (qa ts)),(46,.av (int (ts.length:Nat))),(47,.av (int (k:Nat)))],λ_=>[(2,zo g)],
  λk st'=>k<=ts.length/\st'=st.sO b (.cells (bl g.T.length (jk g l i ts k)))/\∀m,(hm:m<ts.length)->m<k->qc g (l.take i) ts[m].toNat=false,λk=>ts.length-k⟩ zb ?_ ?_
 ·refine⟨0,Tv,⟨Faj _,?_,λm _ hm=>by omega⟩,⟨Tq,Tq,Tq,Tq,Tq,Tq,?_,Tq,Tv⟩,⟨rfl,Tv⟩⟩
  ·rw[show jk g l i ts 0=qc g (l.take i)from funext h0]
  ·rw[<-zm (f:=zz) ts]
   exact Tq
 rintro k st' ⟨hk,rfl,hno⟩
 refine bcd (λh2=>?_) (λh2=>?_)
 rotate_left
 ·have:k=ts.length:=by omega
  subst this
  refine Qd ?_
  refine⟨i+1,?_,⟨by omega,?_,λj hj hji=>?_⟩,Qal,⟨rfl,Tv⟩⟩
  ·show l.length-(i+1)<l.length-i
   omega
  ·have:bl g.T.length (jk g l i ts ts.length)=bl g.T.length (qc g (l.take (i+1))):=by
    unfold bl
    exact Fb0 λt ht=>by rw[hcov t (Fa4.1 ht)]
   rw[this]
  ·by_cases e:j=i
   ·subst e
    refine⟨⟨hb1,hb2,hb3⟩,λm hm hmt=>?_⟩
    obtain⟨t,ht,hc⟩:=hcm.2 ⟨m,hm,hmt⟩
    obtain⟨q,hq,rfl⟩:=Fai ht
    rw[hno q hq hq]at hc
    cases hc
   ·exact hup j hj (by omega)
 have hklt:k<ts.length:=by omega
 obtain⟨n,hn,hn2,hn3⟩:=(hmem ts[k]).1 (Faa hklt)
 have hnl:n<g.T.length:=by omega
 obtain⟨s1,s2⟩:=se (g:=g) (l:=l) (i:=i) hklt hn
 have hnk:jk g l i ts k n=qc g (l.take i) n:=by
  unfold jk
  have:(ts.take k).contains (n:Int)=false:=by
   rw[<-hn]
   have:=zyj hso hklt
   simpa using this
  rw[this,Fev]
 refine⟨k,rfl,za _ (zr hklt) ?_⟩
 have ho:(st.sO b (.cells (bl g.T.length (jk g l i ts k)))).obj b=some (.cells (bl g.T.length (jk g l i ts k))):=zd _ _ _
 have hhead:((bl g.T.length (jk g l i ts k)).drop (0+n*1)).head?=some (V.bool (qc g (l.take i) n)):=by
  rw[Fci,show 0+n*1=n by omega,Fq hnl,hnk]
 refine⟨n,hn,hnl,?_⟩
 refine za _ ho (za _ hhead ?_)
 refine zj (λc6=>?_) (λc6=>?_)
 ·refine Aq (Tt) (hhas _) (no λq=>?_)
  obtain⟨m,hm,hmt⟩:=hcm.1 ⟨ts[k],Faa hklt,by rw[hn,Fa9];exact c6⟩
  exact q.2.2.2 i hlt m hm hmt
 refine⟨n,hn,hnl,?_⟩
 refine qj (i:=ti4) (v:=bool true) (b:=b) (o:=0+n*1) (l:=bl g.T.length (jk g l i ts k)) (st2:=st.sO b (.cells (bl g.T.length (jk g l i ts (k+1))))) rfl rfl rfl (zd _ _ _) (by rw[wy];omega) ?_ ?_
 ·rw[yq,show 0+n*1=n by omega,<-s1,Fp hnl _ s2]
 refine Qd ?_
 refine⟨k+1,?_,⟨by omega,rfl,λm hm hmk=>?_⟩,Qal,⟨rfl,Tv⟩⟩
 ·show ts.length-(k+1)<ts.length-k
  omega
 ·by_cases e:m=k
  ·subst e
   rw[hn,Fa9];exact c6
  ·exact hno m hm (by omega)
theorem zw3(g:Gnd)(hgf:g.fits)(l:List Bld)(hl:l.length<=1000000000000)(st:Store)(R:Ja)
  (h:∀z:Bool,(z=true↔zn g/\Fo g l)->R (bool z) st):Jb 121 [.agg (zo g),lst 6 zi l] st R:=by
 have hL:((rws zi l).length:Int)=(l.length:Int):=by rw[zm]
 have no:¬(zn g/\Fo g l)->R (bool false) st:=λhn=>h false (by simp only[Fad,false_iff];exact hn)
 refine Qa (c:=cfg 64) zb Tryz.func121 ?_
 refine ybi g hgf _ _ (λz hz=>?_)
 refine ym ?_
 refine zj (λc0=>?_) (λc0=>ret (no λq=>by have:=hz.2 q.1;rw[this]at c0;cases c0))
 have hg:=hz.1 c0
 refine bcd (λc1=>ret (no λq=>by have:=q.2.1;omega)) (λc1=>?_)
 refine zwp l hl _ _ (λz hz=>?_)
 refine ym ?_
 refine zj (λc2=>?_) (λc2=>ret (no λq=>by have:=hz.2 q.2.2.1;rw[this]at c2;cases c2))
 have hr:=hz.1 c2
 refine AWp.loop (σ:=Nat) ⟨λi=>[(1,.av (lst 6 zi l)),(2,.bx 2 0),(5,.av (int (i:Nat)))],λ_=>[(2,zo g)],
  λi st'=>i<=l.length/\st'=st/\P3 g l i,λi=>l.length-i⟩ zb ?_ ?_
 ·exact⟨0,Tv,⟨Faj _,rfl,λj _ hj=>by omega⟩,Qal,⟨rfl,Tv⟩⟩
 rintro i st' ⟨hi,rfl,hup⟩
 refine bcd (λh1=>?_) (λh1=>?_)
 rotate_left
 ·have:i=l.length:=by omega
  subst this
  have hall:=tn hup
  exact ret (h true (by simp only[true_iff];exact⟨hg,by omega,hr,hall.1,hall.2⟩))
 have hlt:i<l.length:=by omega
 refine Qc zb zvd ?_
 refine⟨i,rfl,za _ (zr hlt) ?_⟩
 have nof:¬(yc l[i]/\onP g l[i]/\Az g l[i])->R (bool false) st':=λhn=>no λq=>hn (q.2.2.2.1 _ (Faa hlt))
 refine⟨zrx l[i] _ _ (λz1 hz1=>⟨Tv,?_⟩),Tv⟩
 refine ym ?_
 refine zj (λc3=>?_) (λc3=>⟨⟨Tv,⟨⟨Tv,ret (nof λq=>by have:=hz1.2 q.1;rw[this]at c3;cases c3)⟩,Tv⟩⟩,Tv⟩)
 have hb1:=hz1.1 c3
 refine⟨i,rfl,za _ (zr hlt) ?_⟩
 refine⟨zwd g l[i] hg hb1 _ _ (λz2 hz2=>⟨Tv,?_⟩),Tv⟩
 refine ym ?_
 refine zj (λc4=>?_) (λc4=>⟨⟨Tv,ret (nof λq=>by have:=hz2.2 q.2.1;rw[this]at c4;cases c4)⟩,Tv⟩)
 have hb2:=hz2.1 c4
 refine⟨i,rfl,za _ (zr hlt) ?_⟩
 refine⟨zwu g hg l[i] ⟨hb1,hb2⟩ _ _ (λz3 hz3=>⟨Tv,?_⟩),Tv⟩
 refine ym ?_
 refine zj (λc5=>?_) (λc5=>ret (nof λq=>by have:=hz3.2 q.2.2;rw[this]at c5;cases c5))
 have hb3:=hz3.1 c5
 refine AWp.loop (σ:=Nat) ⟨λk=>[(1,.av (lst 6 zi l)),(2,.bx 2 0),(5,.av (int (i:Nat))),(6,.av (int (k:Nat)))],λ_=>[(2,zo g)],
  λk st2=>k<=i/\st2=st'/\∀m,(hm:m<k)->(hmi:m<i)->¬xu l[i] (l[m]'(by omega)),λk=>i-k⟩ zb ?_ ?_
 ·exact⟨0,Tv,⟨Faj _,rfl,λm hm=>by omega⟩,Qal,⟨rfl,Tv⟩⟩
 rintro k st2 ⟨hk,rfl,hno⟩
 refine bcd (λh2=>?_) (λh2=>?_)
 rotate_left
 ·refine Qd ?_
  refine⟨i+1,?_,⟨by omega,rfl,λj hj hji=>?_⟩,Qal,⟨rfl,Tv⟩⟩
  ·show l.length-(i+1)<l.length-i
   omega
  ·by_cases e:j=i
   ·subst e
    exact⟨⟨hb1,hb2,hb3⟩,λm hm=>hno m (by omega) hm⟩
   ·exact hup j hj (by omega)
 have hki:k<i:=by omega
 have hkl:k<l.length:=by omega
 have hbk:=(hup k hkl hki).1
 refine Qc zb zve ?_
 refine⟨i,rfl,za _ (zr hlt) ?_⟩
 refine⟨k,rfl,za _ (zr hkl) ?_⟩
 refine⟨zza g hg l[i] l[k] ⟨hb1,hb2⟩ ⟨hbk.1,hbk.2.1⟩ _ _ (λz4 hz4=>⟨Tv,?_⟩),Tv⟩
 refine zj (λc6=>ret (no λq=>q.2.2.2.2 i hlt k hki (hz4.1 c6))) (λc6=>?_)
 refine Qd ?_
 refine⟨k+1,?_,⟨by omega,rfl,λm hm hmi=>?_⟩,Qal,⟨rfl,Tv⟩⟩
 ·show i-(k+1)<i-k
  omega
 ·by_cases e:m=k
  ·subst e
   intro hm2
   have:=hz4.2 hm2
   rw[this]at c6;cases c6
  ·exact hno m (by omega) hmi
theorem zw1(g:Gnd)(hg:zn g)(l:List Bld)(hl:l.length<=1000000000000)(hb:∀b∈l,yc b/\onP g b)(st:Store)(R:Ja)
  (h:∀b,Fresh st b->R (blV b g.T.length) (st.sO b (.cells (bl g.T.length (qc g l))))):Jb 218 [.agg (zo g),lst 6 zi l] st R:=by
 have ha:=qi hg
 have hg1:=hg.1
 have hg2:=hg.2.1
 refine Qa (c:=cfg 70) zb Tryz.func218 ?_
 refine Qd ?_
 rw[<-ha.2.2]
 refine Gv rfl (it:=ti59) (ie:=ti4) rfl rfl rfl rfl rfl (n:=g.T.length) ?_ ?_ (λb hf=>?_)
 ·show 1*_<=_;omega
 ·omega
 rw[Mn]
 refine AWp.loop (σ:=Nat) ⟨λi=>[(1,.av (lst 6 zi l)),(2,.bx 2 0),(5,.av (blV b g.T.length)),(6,.av (int (i:Nat)))],λ_=>[(2,zo g)],
  λi st'=>i<=l.length/\st'=st.sO b (.cells (bl g.T.length (qc g (l.take i)))),λi=>l.length-i⟩ zb ?_ ?_
 ·exact⟨0,Tv,⟨Faj _,rfl⟩,Qal,⟨rfl,Tv⟩⟩
 rintro i st' ⟨hi,rfl⟩
 refine zj (λh1=>?_) (λh1=>?_)
 rotate_left
 ·have:i=l.length:=Af h1 hi
  subst this
  rw[Faz]
  exact ret (h b hf)
 have hlt:i<l.length:=wj h1
 have hbi:=hb l[i] (Faa hlt)
 have hbi':=hbi
 unfold yc onP at hbi'
 refine⟨i,rfl,za _ (zr hlt) ?_⟩
 refine AWp.loop (σ:=Nat) ⟨λk=>[(1,.av (lst 6 zi l)),(2,.bx 2 0),(5,.av (blV b g.T.length)),(6,.av (int (i:Nat))),(7,.av (int (l[i].y+(k:Nat))))],λ_=>[(2,zo g)],
  λk st'=>k<=l[i].h.toNat/\st'=st.sO b (.cells (bl g.T.length (Ah g l i l[i] k 0))),λk=>l[i].h.toNat-k⟩ zb ?_ ?_
 ·refine⟨0,Tv,⟨Faj _,?_⟩,⟨Tq,Tq,Tq,Tq,?_,Tv⟩,⟨rfl,Tv⟩⟩
  ·rw[yeq]
  ·rw[show l[i].y+((0:Nat):Int)=l[i].y by omega];exact Tq
 rintro k st' ⟨hk,rfl⟩
 refine Qc zb zuf ?_
 refine⟨i,rfl,za _ (zr hlt) ?_⟩
 refine⟨i,rfl,za _ (zr hlt) ?_⟩
 refine Qd ?_
 refine bcd (λh2=>?_) (λh2=>?_)
 rotate_left
 ·have:k=l[i].h.toNat:=by omega
  subst this
  refine Qd ?_
  refine⟨i+1,?_,⟨by omega,?_⟩,Qal,⟨rfl,Tv⟩⟩
  ·show l.length-(i+1)<l.length-i
   omega
  ·rw[yev hlt (by omega)]
 refine⟨i,rfl,za _ (zr hlt) ?_⟩
 refine AWp.loop (σ:=Nat) ⟨λm=>[(1,.av (lst 6 zi l)),(2,.bx 2 0),(5,.av (blV b g.T.length)),(6,.av (int (i:Nat))),(7,.av (int (l[i].y+(k:Nat)))),(8,.av (int (l[i].x+(m:Nat))))],λ_=>[(2,zo g)],
  λm st'=>m<=l[i].w.toNat/\st'=st.sO b (.cells (bl g.T.length (Ah g l i l[i] k m))),λm=>l[i].w.toNat-m⟩ zb ?_ ?_
 ·refine⟨0,Tv,⟨Faj _,rfl⟩,⟨Tq,Tq,Tq,Tq,Tq,?_,Tv⟩,⟨rfl,Tv⟩⟩
  rw[show l[i].x+((0:Nat):Int)=l[i].x by omega];exact Tq
 rintro m st' ⟨hm,rfl⟩
 refine Qc zb zue ?_
 refine⟨i,rfl,za _ (zr hlt) ?_⟩
 refine⟨i,rfl,za _ (zr hlt) ?_⟩
 refine Qd ?_
 refine bcd (λh3=>?_) (λh3=>?_)
 rotate_left
 ·have:m=l[i].w.toNat:=by omega
  subst this
  refine Qd ?_
  refine⟨k+1,?_,⟨by omega,?_⟩,⟨Tq,Tq,Tq,Tq,?_,Tv⟩,⟨rfl,Tv⟩⟩
  ·show l[i].h.toNat-(k+1)<l[i].h.toNat-k
   omega
  ·rw[yeu _ _ _ _ _ (by omega)]
  ·rw[show l[i].y+((k+1:Nat):Int)=l[i].y+(k:Int)+1 by omega];exact Tq
 obtain⟨q1,q2,_⟩:=G8 hg (x:=l[i].x+m) (y:=l[i].y+k) (by omega) (by omega)
 have q3:0<=g.W*(l[i].y+(k:Int)):=Fay (by omega) (by omega)
 obtain⟨s1,s2⟩:=yer hg (l:=l) (i:=i) hbi (k:=k) (m:=m) (by omega) (by omega) (n:=(l[i].x+(m:Int)+g.W*(l[i].y+(k:Int))).toNat) (by omega)
 refine Qd ?_
 refine Qd ?_
 refine⟨(l[i].x+(m:Int)+g.W*(l[i].y+(k:Int))).toNat,by omega,by omega,?_⟩
 refine qj (i:=ti4) (v:=V.bool true) (b:=b) (o:=0+(l[i].x+(m:Int)+g.W*(l[i].y+(k:Int))).toNat*1) (l:=bl g.T.length (Ah g l i l[i] k m)) (st2:=st.sO b (.cells (bl g.T.length (Ah g l i l[i] k (m+1))))) rfl rfl rfl (zd _ _ _) (by rw[wy];omega) ?_ ?_
 ·rw[yq,show∀n:Nat,0+n*1=n by omega,<-s1,Fp (by omega) _ s2]
 refine Qd ?_
 refine⟨m+1,?_,⟨by omega,rfl⟩,⟨Tq,Tq,Tq,Tq,Tq,?_,Tv⟩,⟨rfl,Tv⟩⟩
 ·show l[i].w.toNat-(m+1)<l[i].w.toNat-m
  omega
 ·rw[show l[i].x+((m+1:Nat):Int)=l[i].x+(m:Int)+1 by omega];exact Tq
theorem Qad{p:Prop}(h:p:=by rw[yq,show 0+i*1=i by omega,hz,<-s1,Fp hlt _ s2]):p:=h
theorem zy4(g:Gnd)(l:List Bld)(c:Int)(i:Nat):q9 g l c (i+1) i=yi g l c i/\∀s,s≠i->q9 g l c (i+1) s=q9 g l c i s:=by
 unfold q9
 refine⟨if_pos (by omega),λs hs=>?_⟩
 by_cases h1:s<i
 ·rw[if_pos (by omega),if_pos h1]
 ·rw[if_neg (by omega),if_neg h1]
theorem zv1(g:Gnd)(hg:zn g)(l:List Bld)(hl:l.length<=1000000000000)(hb:∀b∈l,yc b/\onP g b)(c:Int)(hc:c=0\/c=1\/c=2)(st:Store)(R:Ja)(h:R (opV g l c) st):
  Jb 131 [.agg (zo g),lst 6 zi l,int c] st R:=by
 have ha:=qi hg
 refine Qb (c:=cfg 37) zb Tryz.func131 ?_
 refine AWp.seq (AWp.of_vc zb ?_)
 refine AWp.seq (AWp.of_vc zb ?_)
 refine zw1 g hg l hl hb _ _ (λb hf=>?_)
 refine AWp.meetA (σ:=Unit) ⟨λ_=>[(7,.av (blV b g.T.length))],λ_=>[],λ_ st'=>st'=st.sO b (.cells (bl g.T.length (yi g l c)))⟩ ?_ ?_
 ·refine AWp.of_vc zb ?_
  refine AWp.loop (σ:=Nat) ⟨λi=>[(2,.av (int c)),(3,.bx 3 0),(7,.av (blV b g.T.length)),(8,.av (int (i:Nat)))],λ_=>[(3,zo g)],
   λi st'=>i<=g.T.length/\st'=st.sO b (.cells (bl g.T.length (q9 g l c i))),λi=>g.T.length-i⟩ zb ?_ ?_
  ·refine⟨0,Tv,⟨Faj _,?_⟩,Qal,⟨rfl,Tv⟩⟩
   rw[show q9 g l c 0=qc g l from funext λt=>if_neg (Fbf t)]
  rintro i st' ⟨hi,rfl⟩
  refine bcd (λh1=>?_) (λh1=>?_)
  rotate_left
  ·have:i=g.T.length:=by omega
   subst this
   refine⟨(),?_,⟨Tq,Tv⟩,Tv⟩
   have:bl g.T.length (q9 g l c g.T.length)=bl g.T.length (yi g l c):=by
    unfold bl q9
    exact Fb0 λt ht=>by rw[if_pos (Fa4.1 ht)]
   rw[this]
  have hlt:i<g.T.length:=by omega
  obtain⟨s1,s2⟩:=zy4 g l c i
  have ho:(st.sO b (.cells (bl g.T.length (q9 g l c i)))).obj b=some (.cells (bl g.T.length (q9 g l c i))):=zd _ _ _
  have hmid:q9 g l c i i=qc g l i:=if_neg (Fet i)
  have hhead:((bl g.T.length (q9 g l c i)).drop (0+i*1)).head?=some (V.bool (qc g l i)):=by
   rw[Fci,show 0+i*1=i by omega,Fq hlt,hmid]
  refine⟨i,rfl,hlt,?_⟩
  refine za _ ho (za _ hhead ?_)
  have hti:g.T[i].toNat<=5:=hg.2.2.2 _ (Faa hlt)
  have hget:g.T.getD i 0=g.T[i]:=by simp[hlt]
  refine zj (λc1=>?_) (λc1=>?_)
  ·have c1:qc g l i=false:=by simpa using c1
   refine⟨i,rfl,za _ (zr hlt) ?_⟩
   refine ye0 c hc g.T[i] hti _ _ ?_
   have hz:decide (0<wv c g.T[i].toNat)=yi g l c i:=by
    unfold yi
    rw[c1,hget];rfl
   refine⟨i,rfl,hlt,?_⟩
   refine qj (i:=ti4) (v:=V.bool (decide (0<wv c g.T[i].toNat))) (b:=b) (o:=0+i*1) (l:=_) (st2:=st.sO b (.cells (bl g.T.length (q9 g l c (i+1))))) rfl rfl rfl ho (by rw[wy];omega) Qad ?_
   refine Qd ?_
   refine⟨i+1,?_,⟨by omega,rfl⟩,Qal,⟨rfl,Tv⟩⟩
   show g.T.length-(i+1)<g.T.length-i
   omega
  ·have c1:qc g l i=true:=by simpa using c1
   have hz:false=yi g l c i:=by
    unfold yi
    rw[c1];rfl
   refine⟨i,rfl,hlt,?_⟩
   refine qj (i:=ti4) (v:=V.bool false) (b:=b) (o:=0+i*1) (l:=_) (st2:=st.sO b (.cells (bl g.T.length (q9 g l c (i+1))))) rfl rfl rfl ho (by rw[wy];omega) Qad ?_
   refine Qd ?_
   refine⟨i+1,?_,⟨by omega,rfl⟩,Qal,⟨rfl,Tv⟩⟩
   show g.T.length-(i+1)<g.T.length-i
   omega
 ·rintro _ _ rfl
  refine AWp.freeze (d:=7) (b:=b) (k:=1) (n:=g.T.length) (cap:=g.T.length) (rows:=rws vd (blL g.T.length (yi g l c))) (pad:=[]) rfl ?_ ?_ ?_ (Fak _) ?_ ?_ ?_
  ·rw[Ve];exact zd _ _ _
  ·exact hf.2
  ·rw[zm,Ba]
  ·intro row hr
   obtain⟨x,_,rfl⟩:=Fac.1 hr
   rfl
  ·intro row hr y hy
   obtain⟨x,_,rfl⟩:=Fac.1 hr
   simp[vd]at hy
   exact⟨_,hy,rfl⟩
  rw[Mg hf.1]
  refine AWp.of_vc zb ?_
  exact ret h
theorem zwt(g:Gnd)(hg:zn g)(l:List Bld)(hl:l.length<=1000000000000)(hb:∀b∈l,yc b/\onP g b)(c:Int)(hc:c=0\/c=1\/c=2)(p:Vc)(hp:qm p.1 p.2)(r:Int)(hr:0<r/\r<=262144)(st:Store)(R:Ja)
  (h:∀z:Bool,(z=true↔Ag g l c p r)->R (V.bool z) st):Jb 123 [.agg (zo g),lst 6 zi l,int c,.agg (zy p),int r] st R:=by
 have ha:=qi hg
 have hg1:=hg.1
 have hg2:=hg.2.1
 have hp':=hp
 unfold qm at hp'
 have no:¬Ag g l c p r->R (V.bool false) st:=λhn=>h false (by simp only[Fad,false_iff];exact hn)
 refine Qa (c:=cfg 65) zb Tryz.func123 ?_
 refine bcd (λc1=>ret (no λq=>by have:=q.1;omega)) (λc1=>?_)
 refine bcd (λc2=>ret (no λq=>by have:=q.1;omega)) (λc2=>?_)
 refine Qd ?_
 refine Qd ?_
 refine bcd (λc3=>ret (no λq=>by have:=q.1;omega)) (λc3=>?_)
 refine Qd ?_
 refine Qd ?_
 refine bcd (λc4=>ret (no λq=>by have:=q.1;omega)) (λc4=>?_)
 refine zv1 g hg l hl hb c hc _ _ ?_
 refine AWp.loop (σ:=Nat) ⟨λi=>[(4,.av (int r)),(5,.bx 5 0),(8,.bx 8 0),(11,.av (opV g l c)),(12,.av (int (i:Nat)))],λ_=>[(5,zo g),(8,zy p)],
  λi st'=>i<=g.T.length/\st'=st/\∀t,t<i->yi g l c t=false->¬xm g t p r,λi=>g.T.length-i⟩ zb ?_ ?_
 ·exact⟨0,Tv,⟨Faj _,rfl,λt ht=>by omega⟩,Qal,⟨rfl,rfl,Tv⟩⟩
 rintro i st' ⟨hi,rfl,hall⟩
 refine zj (λh1=>?_) (λh1=>?_)
 rotate_left
 ·have h1:=Af h1 (by rw[Ba];exact hi)
  rw[Ba]at h1
  subst h1
  exact ret (h true (by simp only[true_iff];exact⟨by omega,hall⟩))
 have hlt:=wj h1
 rw[Ba]at hlt
 refine⟨i,rfl,za _ (ud hlt) ?_⟩
 have next:(yi g l c i=false->¬xm g i p r)->∀t,t<i+1->yi g l c t=false->¬xm g t p r:=λhq t ht hh=>by
  by_cases e:t=i
  ·subst e;exact hq hh
  ·exact hall t (by omega) hh
 refine ym ?_
 refine zj (λc5=>?_) (λc5=>?_)
 ·refine Qd ?_
  refine⟨i+1,?_,⟨by omega,rfl,next λhh=>by rw[c5]at hh;cases hh⟩,Qal,⟨rfl,rfl,Tv⟩⟩
  show g.T.length-(i+1)<g.T.length-i
  omega
 refine zy7 g hg i (by omega) p hp r hr _ _ ?_
 refine bcd (λc6=>?_) (λc6=>?_)
 ·exact ret (no λq=>q.2 i hlt c5 c6)
 ·refine Qd ?_
  refine⟨i+1,?_,⟨by omega,rfl,next λ_=>c6⟩,Qal,⟨rfl,rfl,Tv⟩⟩
  show g.T.length-(i+1)<g.T.length-i
  omega
theorem oq(g:Gnd)(hg:zn g)(t:Nat)(ht:(t:Int)<g.W*g.H)(x:Int)(hx:x=(t:Int))(p:Vc)(hp:qm p.1 p.2)(r:Int)(hr:0<r/\r<=262144)(st:Store)(R:Ja)(h:R (V.bool (decide (xm g t p r))) st):
  Jb 292 [.agg (zo g),int x,.agg (zy p),int r] st R:=by
 subst hx
 exact ya8 g hg t ht p hp r hr st R h
theorem po(g:Gnd)(hg:zn g)(l:List Bld)(c:Int)(p:Vc)(hpo:p.ok)(r:Int)(hr:0<r/\r<=262144)(st:Store)(R:Ja)
  (h:∀z:Bool,(z=true↔Ag g l c p r)->R (V.bool z) st):Jb 196 [.agg (zo g),opV g l c,.agg (zy p),int r] st R:=by
 have ha:=qi hg
 have hg1:=hg.1
 have hg2:=hg.2.1
 have no:¬Ag g l c p r->R (V.bool false) st:=λhn=>h false (by simp only[Fad,false_iff];exact hn)
 refine Qa (c:=cfg 112) zb Tryz.func196 ?_
 refine Qc zb zut ?_
 refine Qd ?_
 refine Qd ?_
 refine Qao ?_
 refine Qap ?_
 refine yeg p r _ _ (λz hz=>?_)
 refine ym ?_
 refine zj (λc0=>?_) (λc0=>ret (no λq=>by
  have:=hz.2 ⟨⟨by omega,hr.2⟩,by unfold qm;have:=q.1;omega⟩
  rw[this]at c0;cases c0))
 have hp:=(hz.1 c0).2
 have hp':=hp
 unfold qm at hp'
 refine Qd ?_
 refine bcd (λc1=>ret (no λq=>by have:=q.1;omega)) (λc1=>?_)
 refine Qd ?_
 refine bcd (λc2=>ret (no λq=>by have:=q.1;omega)) (λc2=>?_)
 refine Qd ?_
 refine bcd (λc3=>ret (no λq=>by have:=q.1;omega)) (λc3=>?_)
 refine Qd ?_
 refine bcd (λc4=>ret (no λq=>by have:=q.1;omega)) (λc4=>?_)
 refine Qd ?_
 refine⟨by decide,?_⟩
 have hy0:(p.2-r).tdiv 65536=(p.2-r)/65536:=Fba (by omega)
 have hx0:(p.1-r).tdiv 65536=(p.1-r)/65536:=Fba (by omega)
 have hy1:(p.2+r).tdiv 65536=(p.2+r)/65536:=Fba (by omega)
 have hx1:(p.1+r).tdiv 65536=(p.1+r)/65536:=Fba (by omega)
 refine Qd ?_
 rw[hy0]
 refine AWp.loop (σ:=Nat) ⟨λk=>[(1,.av (opV g l c)),(3,.av (int r)),(4,.bx 4 0),(6,.bx 6 0),(11,.av (int ((p.2-r)/65536+(k:Nat))))],λ_=>[(4,zo g),(6,zy p)],
  λk st'=>st'=st/\((k:Int)<=g.H-(p.2-r)/65536\/k=0)/\Kp g l c p r ((p.2-r)/65536+(k:Nat)),λk=>(g.H-(p.2-r)/65536).toNat-k⟩ zb ?_ ?_
 ·refine⟨0,Tv,⟨rfl,.inr rfl,?_⟩,⟨Tq,Tq,Tq,Tq,?_,Tv⟩,⟨rfl,rfl,Tv⟩⟩
  ·rw[show(p.2-r)/65536+((0:Nat):Int)=(p.2-r)/65536 by omega]
   exact yfc hr.1 (by omega)
  ·rw[show(p.2-r)/65536+((0:Nat):Int)=(p.2-r)/65536 by omega];exact Tq
 rintro k st' ⟨rfl,hk,hup⟩
 refine Qd ?_
 refine⟨by decide,?_⟩
 refine Qd ?_
 rw[hy1]
 have done:(¬((p.2-r)/65536+(k:Int)<=(p.2+r)/65536)\/¬((p.2-r)/65536+(k:Int)<g.H))->R (V.bool true) st':=λhh=>
  h true (by simp only[true_iff];exact⟨by omega,yfd hg hr.1 (by omega) hh hup⟩)
 refine bcd (λc5=>?_) (λc5=>ret (done (.inl c5)))
 refine bcd (λc6=>?_) (λc6=>ret (done (.inr c6)))
 refine Qd ?_
 refine⟨by decide,?_⟩
 refine Qd ?_
 rw[hx0]
 have hyb:0<=(p.2-r)/65536:=by omega
 have hxb:0<=(p.1-r)/65536:=by omega
 refine AWp.loop (σ:=Nat) ⟨λm=>[(1,.av (opV g l c)),(3,.av (int r)),(4,.bx 4 0),(6,.bx 6 0),(11,.av (int ((p.2-r)/65536+(k:Nat)))),(12,.av (int ((p.1-r)/65536+(m:Nat))))],λ_=>[(4,zo g),(6,zy p)],
  λm st2=>st2=st'/\((m:Int)<=g.W-(p.1-r)/65536\/m=0)/\Mh g l c p r ((p.2-r)/65536+(k:Nat)) ((p.1-r)/65536+(m:Nat)),λm=>(g.W-(p.1-r)/65536).toNat-m⟩ zb ?_ ?_
 ·refine⟨0,Tv,⟨rfl,.inr rfl,?_⟩,⟨Tq,Tq,Tq,Tq,Tq,?_,Tv⟩,⟨rfl,rfl,Tv⟩⟩
  ·rw[show(p.1-r)/65536+((0:Nat):Int)=(p.1-r)/65536 by omega]
   exact yff hr.1 (by omega)
  ·rw[show(p.1-r)/65536+((0:Nat):Int)=(p.1-r)/65536 by omega];exact Tq
 rintro m st2 ⟨rfl,hm,hrow⟩
 refine Qd ?_
 refine⟨by decide,?_⟩
 refine Qd ?_
 rw[hx1]
 have done2:(¬((p.1-r)/65536+(m:Int)<=(p.1+r)/65536)\/¬((p.1-r)/65536+(m:Int)<g.W))->Kp g l c p r ((p.2-r)/65536+((k+1:Nat):Int)):=λhh=>by
  rw[bf]
  exact yfg hg hr.1 (by omega) hh hup hrow
 have mu:(g.H-(p.2-r)/65536).toNat-(k+1)<(g.H-(p.2-r)/65536).toNat-k:=my (Int.lt_sub_left_of_add_lt c6)
 have step2:LV.le (qz .i64 ((p.2-r)/65536+(k:Int)+1)) (.av (int ((p.2-r)/65536+((k+1:Nat):Int)))):=by
  rw[bf];exact Tq
 refine bcd (λc7=>?_) (λc7=>ze (by omega) ⟨k+1,mu,⟨rfl,.inl (O2 c6),done2 (.inl c7)⟩,⟨Tq,Tq,Tq,Tq,step2,Tv⟩,⟨rfl,rfl,Tv⟩⟩)
 refine bcd (λc8=>?_) (λc8=>ze (by omega) ⟨k+1,mu,⟨rfl,.inl (O2 c6),done2 (.inr c8)⟩,⟨Tq,Tq,Tq,Tq,step2,Tv⟩,⟨rfl,rfl,Tv⟩⟩)
 obtain⟨q1,q2,q3,q4⟩:=G8 hg (x:=(p.1-r)/65536+(m:Int)) (y:=(p.2-r)/65536+(k:Int)) (by omega) (by omega)
 have q5:0<=g.W*((p.2-r)/65536+(k:Int)):=Fay (by omega) (by omega)
 have hstep:=yfe (l:=l) (c:=c) (p:=p) (r:=r) hg (x:=(p.1-r)/65536+(m:Int)) (y:=(p.2-r)/65536+(k:Int)) (by omega) (by omega) hrow
 refine Qd ?_
 refine Qd ?_
 obtain⟨n,hn⟩:∃n:Nat,(n:Int)=(p.1-r)/65536+(m:Int)+g.W*((p.2-r)/65536+(k:Int)):=⟨_,Int.toNat_of_nonneg q1⟩
 rw[<-hn,Fa9]at hstep
 have hnl:n<g.T.length:=by omega
 have mu2:(g.W-(p.1-r)/65536).toNat-(m+1)<(g.W-(p.1-r)/65536).toNat-m:=my (Int.lt_sub_left_of_add_lt c8)
 have e2:(p.1-r)/65536+((m+1:Nat):Int)=(p.1-r)/65536+(m:Int)+1:=bf _ _
 have step3:LV.le (qz .i64 ((p.1-r)/65536+(m:Int)+1)) (.av (int ((p.1-r)/65536+((m+1:Nat):Int)))):=by
  rw[e2];exact Tq
 refine⟨n,hn.symm,za _ (ud hnl) ?_⟩
 refine ym ?_
 refine zj (λc9=>?_) (λc9=>?_)
 ·refine Qd ?_
  exact⟨m+1,mu2,⟨rfl,.inl (O2 c8),by rw[e2];exact hstep λhh=>by rw[c9]at hh;cases hh⟩,⟨Tq,Tq,Tq,Tq,Tq,step3,Tv⟩,⟨rfl,rfl,Tv⟩⟩
 refine oq g hg n (by omega) _ hn.symm p hp r hr _ _ ?_
 refine bcd (λc10=>?_) (λc10=>?_)
 ·exact ret (no λq=>q.2 n hnl c9 c10)
 ·refine Qd ?_
  exact⟨m+1,mu2,⟨rfl,.inl (O2 c8),by rw[e2];exact hstep λ_=>c10⟩,⟨Tq,Tq,Tq,Tq,Tq,step3,Tv⟩,⟨rfl,rfl,Tv⟩⟩
theorem n9(x:Int)(st:Store)(R:Ja)(h:R (V.bool false) st):Jb 200 [int x] st R:=by
 refine Qa (c:=cfg 6) zb Tryz.func200 ?_
 refine⟨_,st,Tt,Store.Has.refl st,?_⟩
 have e:(x != x)=false:=by simp
 rw[<-e]at h
 exact h
theorem sj(x y:Int)(st:Store)(R:Ja)(h:R (int (Fm x y)) st):Jb 119 [int x,int y] st R:=by
 refine Qa (c:=cfg 20) zb Tryz.func119 ?_
 refine n9 _ _ _ ?_
 refine n9 _ _ _ ?_
 unfold Fm at h
 refine zj (λh1=>⟨_,st,Tt,Store.Has.refl st,?_⟩) (λh1=>?_)
 ·rw[if_pos (by simpa using h1)]at h
  exact h
 ·rw[if_neg (by simpa using h1)]at h
  refine zj (λh2=>⟨_,st,Tt,Store.Has.refl st,?_⟩) (λh2=>⟨_,st,Tt,Store.Has.refl st,?_⟩)
  ·rw[if_pos (by simpa using h2)]at h
   exact h
  ·rw[if_neg (by simpa using h2)]at h
   exact h
theorem uk(u:Unt)(id:Int)(st:Store)(R:Ja)(h:R (int (Fm u.id id)) st):Jb 118 [.agg (zk u),int id] st R:=by
 refine Qa (c:=cfg 9) zb Tryz.func118 ?_
 exact sj u.id id _ _ (ret h)
def Ka(l:List Unt)(id:Int)(i:Nat):Prop:=i<=l.length/\(∀j,(h:j<l.length)->j<i->l[j].id<id)/\∀j,(h:j<l.length)->i<=j->id<=l[j].id
theorem yfw(l:List Unt)(hl:l.length<=1000000000000)(hr:yg l)(id:Int)(st:Store)(R:Ja)
  (h:∀i,Ka l id i->∀z:Bool,(z=true↔∃hi:i<l.length,l[i].id=id)->R (.tup [int (i:Nat),V.bool z]) st):Jb 117 [lst 10 zk l,int id,.clos 118 []] st R:=by
 refine Qa (c:=cfg 49) zb Tryz.func117 ?_
 refine AWp.loop (σ:=Nat×Nat) ⟨λs=>[(0,.av (lst 10 zk l)),(1,.av (int id)),(2,.av (.clos 118 [])),(8,.av (int (l.length:Nat))),(9,.av (int (s.1:Nat))),(10,.av (int (s.2:Nat)))],λ_=>[],
  λs st'=>st'=st/\s.1<=s.2/\s.2<=l.length/\(∀j,(h:j<l.length)->j<s.1->l[j].id<id)/\∀j,(h:j<l.length)->s.2<=j->id<=l[j].id,λs=>s.2-s.1⟩ zb ?_ ?_
 ·refine⟨(0,l.length),Tv,⟨rfl,Faj _,Fak _,λj _ hj=>by omega,λj hj hj2=>by omega⟩,⟨Tq,Tq,Tq,?_,Tq,?_,Tv⟩,Tv⟩
  ·rw[<-zm (f:=zk) l];exact Tq
  ·rw[<-zm (f:=zk) l];exact Tq
 rintro⟨i,j⟩ st' ⟨rfl,hij,hj,hlo,hhi⟩
 dsimp only at hij hj hlo hhi⊢
 refine bcd (λh1=>?_) (λh1=>?_)
 rotate_left
 ·have e:i=j:=by omega
  subst e
  have hat:Ka l id i:=⟨hj,hlo,hhi⟩
  refine bcd (λh2=>?_) (λh2=>?_)
  ·have hlt:i<l.length:=by omega
   refine⟨i,rfl,za _ (zr hlt) ?_⟩
   refine uk l[i] id _ _ ?_
   refine ret (h i hat _ ?_)
   have:=hhi i hlt (Fak _)
   unfold Fm
   rw[if_neg (by omega)]
   by_cases e:l[i].id=id
   ·rw[if_neg (by omega)];simp[hlt,e]
   ·rw[if_pos (by omega)];simp[e]
  ·exact ret (h i hat _ (by simp;omega))
 refine Qd ?_
 refine⟨by decide,?_⟩
 have hmid:(IntKind.u64.wrap ((i:Int)+(j:Int))).fdiv (2^(min (1:Int).toNat IntKind.u64.bits))=(((i+j)/2:Nat):Int):=by
  have e1:IntKind.u64.wrap ((i:Int)+(j:Int))=((i+j:Nat):Int):=by
   simp[IntKind.wrap,IntKind.bits,IntKind.signed];omega
  have e2:(2:Int)^(min (1:Int).toNat IntKind.u64.bits)=2:=rfl
  have e3:(((i+j:Nat):Int)).fdiv 2=(((i+j)/2:Nat):Int):=by
   rw[Fdo _ (by decide)];rfl
  rw[e1,e2,e3]
 have hk1:(i+j)/2<j:=by omega
 have hk2:i<=(i+j)/2:=by omega
 have hkl:(i+j)/2<l.length:=by omega
 have hmono:∀a b,(ha:a<l.length)->(hb:b<l.length)->a<=b->l[a].id<=l[b].id:=by
  intro a b ha hb hab
  induction b with
  |zero=>
   have:a=0:=by omega
   subst this;exact Fcx _
  |succ b ih=>
   by_cases e:a=b+1
   ·subst e;exact Fcx _
   ·have h2:=ih (by omega) (by omega)
    have h3:=hr (b+1) hb (by omega)
    simp only[Fdv]at h3
    omega
 refine⟨by rw[hmid];exact⟨by omega,by omega⟩,?_⟩
 refine⟨(i+j)/2,hmid,za _ (zr hkl) ?_⟩
 refine uk l[(i+j)/2] id _ _ ?_
 have hc:Fm l[(i+j)/2].id id<0↔l[(i+j)/2].id<id:=by
  unfold Fm;split
  ·omega
  ·split<;>omega
 refine bcd (λh2=>?_) (λh2=>?_)
 ·have h2:=hc.1 h2
  refine ze (by rw[hmid];omega) ?_
  refine⟨((i+j)/2+1,j),?_,⟨rfl,by dsimp only;omega,hj,λa ha ha2=>?_,hhi⟩,⟨Tq,Tq,Tq,Tq,?_,Tq,Tv⟩,Tv⟩
  ·show j-((i+j)/2+1)<j-i
   omega
  ·have:=hmono a ((i+j)/2) ha hkl (by dsimp only at ha2;omega)
   omega
  ·dsimp only
   exact(congrArg (λn:Int=>LV.le (qz .i64 (n+1)) (.av (int (((i+j)/2+1:Nat):Int)))) hmid).mpr (Tq)
 ·have h2:¬l[(i+j)/2].id<id:=λhh=>h2 (hc.2 hh)
  refine⟨(i,(i+j)/2),?_,⟨rfl,hk2,by dsimp only;omega,hlo,λa ha ha2=>?_⟩,⟨Tq,Tq,Tq,Tq,Tq,?_,Tv⟩,Tv⟩
  ·show(i+j)/2-i<j-i
   omega
  ·have:=hmono ((i+j)/2) a hkl ha (by dsimp only at ha2;omega)
   omega
  ·dsimp only
   exact(congrArg (λn:Int=>LV.le (qz .i64 n) (.av (int (((i+j)/2:Nat):Int)))) hmid).mpr (Tq)
theorem bp(l:List Unt)(hl:l.length<=1000000000000)(hr:yg l)(id:Int)(st:Store)(R:Ja)
  (h:∀i,Ka l id i->∀z:Bool,(z=true↔∃hi:i<l.length,l[i].id=id)->R (.tup [int (i:Nat),V.bool z]) st):Jb 65 [lst 10 zk l,int id] st R:=by
 refine Qa (c:=cfg 11) zb Tryz.func65 ?_
 exact yfw l hl hr id _ _ λi hi z hz=>ret (h i hi z hz)
section
variable {F S:Store} {p:Nat}
theorem yfr{l:List Ent}(hc:CellsOf F p l)(hd:zh F S)(hl:l.length<=1000000000)(hok:∀e∈l,e.2.ok)(id:Int)(R:Ja)
  (h:∀F',CellsOf F' p (qb l id)->zh F' S->R (V.bool (l.find? (v8 id)).isSome) (F'.un S)):Jb 221 [ptr p,int id] (F.un S) R:=
 ACalls.frame (R:=λr a'=>r=V.bool (l.find? (v8 id)).isSome/\CellsOf a' p (qb l id)) hd (tc hc hl hok id _ λa' ha'=>⟨rfl,ha'⟩) λr a' ⟨h1,h2⟩ hd'=>h1▸h a' h2 hd'
theorem bh{l:List Ent}(hc:CellsOf F p l)(hd:zh F S)(hl:l.length<=1000000000)(hok:∀e∈l,e.2.ok)(id:Int)(pos:Vc)(hpos:pos.ok)(R:Ja)
  (h:∀F',CellsOf F' p (qb l id++[(id,pos)])->zh F' S->R (.tup []) (F'.un S)):Jb 194 [ptr p,int id,.agg (zy pos)] (F.un S) R:=
 ACalls.frame (R:=λr a'=>r=.tup []/\CellsOf a' p (qb l id++[(id,pos)])) hd (yfn hc hl hok id pos hpos _ λa' ha'=>⟨rfl,ha'⟩) λr a' ⟨h1,h2⟩ hd'=>h1▸h a' h2 hd'
theorem tj{l:List Ent}(hc:CellsOf F p l)(hd:zh F S)(hl:l.length<=1000000000)(hok:∀e∈l,e.2.ok){q:Vc}(hq:q.ok){r:Int}(hr:ya r)(R:Ja)
  (h:∀F' N v ns,CellsOf F' p l->zh F' N->zh F' S->zh N S->Ints N v ns->Mr l q r ns->R v ((F'.un N).un S)):Jb 294 [ptr p,.agg (zy q),int r] (F.un S) R:=
 ACalls.frame (R:=λv a'=>∃F' N ns,a'=F'.un N/\CellsOf F' p l/\zh F' N/\Ints N v ns/\Mr l q r ns) hd (yfo hc hl hok hq hr _ λF' N v ns h1 h2 h3 h4=>⟨F',N,ns,rfl,h1,h2,h3,h4⟩)
  λv a' ⟨F',N,ns,h1,h2,h3,h4,h5⟩ hd'=>by subst h1;exact h F' N v ns h2 h3 (disj_un.1 hd').1 (disj_un.1 hd').2 h4 h5
end
end Go.Proofs
