/- Ground of laws of throngtop: contracts and plain lemmas; no condition beyond the row's own. -/
import Derived.Test.YtphhbmaalpdnoaaGreatKK
import Derived.Test.YtphhbmaalpdnoaaGreatKJ
import Derived.Test.YtphhbmaalpdnoaaGreatKI
set_option linter.unusedSimpArgs false
set_option linter.unusedVariables false
set_option linter.defProp false
namespace Go.Proofs
open Go Go.V
set_option maxRecDepth 20000
set_option maxHeartbeats 4000000
theorem K1(n:Int)(st:Store)(R:Ja)(h:R (int (nrm n)) st):Jb 419 [int n] st R:=by refine Qa (c:=cfg 5) zb Tryz.func419 ?_;rw[<-yii]at h;exact ret h
theorem yit(n:Int)(hn:yg n)(st:Store)(R:Ja)(h:R (int (-nrm n)) st):Jb 421 [int n] st R:=by refine Qa (c:=cfg 6) zb Tryz.func421 ?_;refine K1 n _ _ ?_;have:=Ac hn;refine⟨⟨θ,θ⟩,?_⟩;rw[show -nrm n=0-nrm n by omega]at h;exact ret h
theorem I8(a b:Int)(ha:yg a)(hb:yg b)(st:Store)(R:Ja)(h:R (int (qg a b)) st):Jb 367 [int a,int b] st R:=by
 refine Qa (c:=cfg 30) zb Tryz.func367 ?_;refine K1 a _ _ ?_;refine K1 b _ _ ?_;have h1:=Ac ha;have h2:=Ac hb;unfold qg at h;generalize nrm a=x at*;generalize nrm b=y at*;have k1:x+y>9223372036854775807->R (int 9223372036854775807) st:=λhh=>by grind[vd]
 have k2:x+y< -9223372036854775807->R (int (-9223372036854775807)) st:=λhh=>ψs;have k3:¬x+y>9223372036854775807->¬x+y< -9223372036854775807->yg (x+y)/\R (int (x+y)) st:=λhh hh'=>⟨⟨θ,θ⟩,by simp_all[vd]⟩
 have fin:¬x+y>9223372036854775807->¬x+y< -9223372036854775807->yg (x+y)/\∃r st',AV.le (int (x+y)) r/\st.Has st'/\R r st':=λhh hh'=>⟨(k3 hh hh').1,ret (k3 hh hh').2⟩
 have e:Int.negSucc 9223372036854775806=-9223372036854775807:=rfl;refine bcd (λc1=>?_) (λc1=>?_)
 ·refine⟨⟨θ,θ⟩,?_⟩;refine bcd (λc2=>?_) (λc2=>?_)
  ·exact ret (k1 θ)
  ·refine bcd (λc3=>?_) (λc3=>?_)
   ·omega
   ·exact fin θ θ
 ·refine bcd (λc3=>?_) (λc3=>?_)
  ·refine⟨⟨θ,θ⟩,?_⟩;refine bcd (λc4=>?_) (λc4=>?_)
   ·exact ret (k2 θ)
   ·exact fin θ θ
  ·exact fin θ θ
theorem H5(a b:Int)(ha:yg a)(hb:yg b)(st:Store)(R:Ja)(h:R (int (qa a b)) st):Jb 366 [int a,int b] st R:=by refine Qa (c:=cfg 9) zb Tryz.func366 ?_;refine yit b hb _ _ ?_;have h2:=Ac hb;exact I8 a (-nrm b) ha ⟨θ,θ⟩ _ _ (ret h)
theorem pm(n:Int)(hn:yg n)(st:Store)(R:Ja)(h:R (.tup [u64 (asz n),bool (decide (nrm n<0))]) st):Jb 423 [int n] st R:=by
 refine Qa (c:=cfg 13) zb Tryz.func423 ?_;refine K1 n _ _ ?_;have h1:=Ac hn;unfold asz at h;generalize nrm n=x at*;refine bcd (λc1=>?_) (λc1=>?_)
 ·refine⟨⟨θ,θ⟩,?_⟩;rw[if_pos c1,show decide (x<0)=true by simp[c1]]at h;rw[<-Cp (v:=-x) θ θ,show -x=0-x by omega]at h;exact ret h
 ·rw[if_neg c1,show decide (x<0)=false by simp[c1]]at h;rw[<-Cp (v:=x) θ θ]at h;exact ret h
theorem iq(x y:Int)(hx:0<=x)(hx2:x<18446744073709551616)(hy:0<=y)(hy2:y<18446744073709551616)(st:Store)(R:Ja)(h:R (.tup (j3 (x*y))) st):
  Jb 341 [u64 x,u64 y] st R:=by
 refine Qa (c:=cfg 51) zb Tryz.func341 ?_;refine⟨ψ,?_⟩;refine⟨ψ,?_⟩;refine⟨ψ,?_⟩;refine⟨ψ,?_⟩;refine⟨ψ,?_⟩;refine ret ((congrArg (λl=>R (.tup l) st) ?_).mpr h);obtain⟨p00,p10,p01,p11,e1,e2,e3,e4,e5,b⟩:=sd x y hx hx2 hy hy2;simp only[zzp,Ny hx,Ny hy,Ls,<-e1,<-e2,<-e3,<-e4];rw[Ny (Fcn _ ψ)];unfold j3 u64;refine congr (congrArg _ ?_) rfl;grind
theorem du(x y:Int)(hx:0<=x)(hx2:x<18446744073709551616)(hy:0<=y)(hy2:y<18446744073709551616)(st:Store)(R:Ja)(h:R (.agg (j3 (x*y))) st):
  Jb 264 [u64 x,u64 y] st R:=by
 refine Qa (c:=cfg 46) zb Tryz.func264 ?_;refine⟨ψ,?_⟩;refine⟨ψ,?_⟩;refine⟨ψ,?_⟩;refine⟨ψ,?_⟩;refine⟨ψ,?_⟩;refine⟨ψ,?_⟩;refine⟨ψ,?_⟩;refine⟨ψ,?_⟩;refine ret ((congrArg (λl=>R (.agg l) st) ?_).mpr h);obtain⟨p00,p10,p01,p11,e1,e2,e3,e4,e5,b⟩:=sd x y hx hx2 hy hy2;simp only[yg7,yon,Ny hx,Ny hy,Ls,<-e1,<-e2,<-e3,<-e4];simp only[Ny (Fcn _ (show(18446744073709551616:Int)≠0 by decide))];rw[yhw (Fcn _ ψ) (Fcn _ ψ) θ];refine Rv ?_ ?_
 ·omega
 ·omega
theorem Wu(x:Int)(hx:0<=x)(hx2:x<18446744073709551616)(st:Store)(R:Ja)(h:R (.agg (j3 (x*x))) st):Jb 372 [u64 x] st R:=by refine Qa (c:=cfg 14) zb Tryz.func372 ?_;exact iq x x hx hx2 hx hx2 _ _ (ret h)
theorem zgf(a b:Int)(ha:0<=a)(hb:0<=b)(st:Store)(R:Ja)(h:R (bool (decide (a<b))) st):Jb 371 [.agg (j3 a),.agg (j3 b)] st R:=by
 refine Qa (c:=cfg 24) zb Tryz.func371 ?_;refine bcd (λc1=>?_) (λc1=>?_)
 ·exact ret (isT h δ)
 ·refine zw (λc2=>?_) (λc2=>?_)
  ·refine ret ?_;have:decide (a<b)=decide (a%18446744073709551616<b%18446744073709551616):=by grind
   rw[this]at h;exact h
  ·exact ret (isF h δ)
theorem ykg(a b:Int)(ha:0<=a)(hb:0<=b)(st:Store)(R:Ja)(h:R (bool (decide (a<b))) st):Jb 261 [.agg (j3 a),.agg (j3 b)] st R:=by
 refine Qa (c:=cfg 24) zb Tryz.func261 ?_;refine bcd (λc1=>?_) (λc1=>?_)
 ·exact ret (isT h δ)
 ·refine zw (λc2=>?_) (λc2=>?_)
  ·refine ret ?_;have:decide (a<b)=decide (a%18446744073709551616<b%18446744073709551616):=by grind
   rw[this]at h;exact h
  ·exact ret (isF h δ)
theorem Mj(n:Int)(st:Store)(R:Ja)(h:R (int (nrm n)) st):Jb 260 [int n] st R:=by
 refine Qa (c:=cfg 6) zb Tryz.func260 ?_;refine bcd (λc1=>?_) (λc1=>?_)
 ·rw[show nrm n=-9223372036854775807 by unfold nrm;omega]at h;exact ret h
 ·rw[show nrm n=n by unfold nrm;omega]at h;exact ret h
theorem ye4(n:Int)(hn:yg n)(st:Store)(R:Ja)(h:R (int (-nrm n)) st):Jb 417 [int n] st R:=by refine Qa (c:=cfg 6) zb Tryz.func417 ?_;refine Mj n _ _ ?_;have:=Ac hn;refine⟨⟨θ,θ⟩,?_⟩;rw[show -nrm n=0-nrm n by omega]at h;exact ret h
theorem ygd(a b:Int)(ha:yg a)(hb:yg b)(st:Store)(R:Ja)(h:R (int (qg a b)) st):Jb 416 [int a,int b] st R:=by
 refine Qa (c:=cfg 28) zb Tryz.func416 ?_;refine Mj a _ _ ?_;refine Mj b _ _ ?_;have h1:=Ac ha;have h2:=Ac hb;unfold qg at h;generalize nrm a=x at*;generalize nrm b=y at*;have k1:x+y>9223372036854775807->R (int 9223372036854775807) st:=λhh=>by grind[vd]
 have k2:x+y< -9223372036854775807->R (int (-9223372036854775807)) st:=λhh=>ψs;have k3:¬x+y>9223372036854775807->¬x+y< -9223372036854775807->yg (x+y)/\R (int (x+y)) st:=λhh hh'=>⟨⟨θ,θ⟩,by simp_all[vd]⟩
 have fin:¬x+y>9223372036854775807->¬x+y< -9223372036854775807->yg (x+y)/\∃r st',AV.le (int (x+y)) r/\st.Has st'/\R r st':=λhh hh'=>⟨(k3 hh hh').1,ret (k3 hh hh').2⟩
 refine bcd (λc1=>?_) (λc1=>?_)
 ·refine⟨⟨θ,θ⟩,?_⟩;refine bcd (λc2=>?_) (λc2=>?_)
  ·exact ret (k1 θ)
  ·refine bcd (λc3=>?_) (λc3=>?_)
   ·omega
   ·exact fin θ θ
 ·refine bcd (λc3=>?_) (λc3=>?_)
  ·refine⟨⟨θ,θ⟩,?_⟩;refine bcd (λc4=>?_) (λc4=>?_)
   ·exact ret (k2 θ)
   ·exact fin θ θ
  ·exact fin θ θ
theorem ux(a b:Int)(ha:yg a)(hb:yg b)(st:Store)(R:Ja)(h:R (int (qa a b)) st):Jb 356 [int a,int b] st R:=by refine Qa (c:=cfg 9) zb Tryz.func356 ?_;refine ye4 b hb _ _ ?_;have h2:=Ac hb;exact ygd a (-nrm b) ha ⟨θ,θ⟩ _ _ (ret h)
theorem uy(n:Int)(hn:-9223372036854775807<=n/\n<=9223372036854775807)(st:Store)(R:Ja)(h:R (u64 (asz n)) st):Jb 354 [int n] st R:=by
 refine Qa (c:=cfg 10) zb Tryz.func354 ?_;unfold asz at h;rw[Fm θ]at h;refine bcd (λc1=>?_) (λc1=>?_)
 ·refine⟨⟨θ,θ⟩,?_⟩;rw[if_pos c1,<-Cp (v:=-n) θ θ,show -n=0-n by omega]at h;exact ret h
 ·rw[if_neg c1,<-Cp (v:=n) θ θ]at h;exact ret h
theorem yej(a b:Int)(ha:0<=a)(hb:0<=b)(hab:a+b<340282366920938463463374607431768211456)(st:Store)(R:Ja)(h:R (.agg (j3 (a+b))) st):Jb 355 [.agg (j3 a),.agg (j3 b)] st R:=by
 refine Qa (c:=cfg 27) zb Tryz.func355 ?_;refine bcd (λc1=>?_) (λc1=>?_)
 ·refine ret ((congrArg (λl=>R (.agg l) st) ?_).mpr h);simp only[Ls]at c1⊢;refine Rv ?_ ?_
  ·omega
  ·omega
 ·refine ret ((congrArg (λl=>R (.agg l) st) ?_).mpr h);simp only[Ls]at c1⊢;refine Rv ?_ ?_
  ·omega
  ·omega
theorem zg3(x y c:Int)(hx:0<=x)(hy:0<=y)(hc:0<=c)(hc1:c<=1)(st:Store)(R:Ja)(h:R (.tup [u64 ((x+y+c)%18446744073709551616),u64 ((x+y+c)/18446744073709551616)]) st):
  Jb 465 [u64 x,u64 y,u64 c] st R:=by
 obtain⟨a,rfl⟩:=Fbl hx;obtain⟨b,rfl⟩:=Fbl hy;obtain⟨d,rfl⟩:=Fbl hc;exact ys5 Tryz.laysNm725 a b d θ h
theorem zhh(a b:Int)(ha:0<=a)(hb:0<=b)(hab:a+b<340282366920938463463374607431768211456)(st:Store)(R:Ja)(h:R (.agg (j3 (a+b))) st):Jb 424 [.agg (j3 a),.agg (j3 b)] st R:=by
 refine Qa (c:=cfg 29) zb Tryz.func424 ?_;refine zg3 (a%18446744073709551616) (b%18446744073709551616) 0 θ θ θ θ _ _ ?_;refine zg3 (a/18446744073709551616) (b/18446744073709551616) ((a%18446744073709551616+b%18446744073709551616+0)/18446744073709551616) θ θ θ θ _ _ ?_;refine ret ((congrArg (λl=>R (.agg l) st) ?_).mpr h);refine Rv ?_ ?_
 ·omega
 ·omega
theorem Oi{v:Vc}(h:v.ok):0<=asz v.1*asz v.1/\0<=asz v.2*asz v.2/\asz v.1*asz v.1<=85070591730234615847396907784232501249/\asz v.2*asz v.2<=85070591730234615847396907784232501249:=by
 obtain⟨h1,h2⟩:=h;have a1:=I5 h1;have a2:=I5 h2;have b:∀x:Int,0<=x->x<=9223372036854775807->0<=x*x/\x*x<=85070591730234615847396907784232501249:=by intro x h3 h4;refine⟨Faw h3 h3,?_⟩;have h5:x*x<=9223372036854775807*9223372036854775807:=Fbc h4 h4 h3 ψ;exact h5
 grind
theorem te(v:Vc)(hv:v.ok)(st:Store)(R:Ja)(h:R (.agg (j3 (sqr v))) st):Jb 369 [.agg (yd v)] st R:=by refine Qa (c:=cfg 24) zb Tryz.func369 ?_;have a1:=I5 hv.1;have a2:=I5 hv.2;have b:=Oi hv;refine pm v.1 hv.1 _ _ ?_;refine pm v.2 hv.2 _ _ ?_;refine Wu (asz v.1) θ θ _ _ ?_;refine Wu (asz v.2) θ θ _ _ ?_;exact zhh _ _ θ θ θ _ _ (ret h)
theorem Rx(a b:Vc)(ha:a.ok)(hb:b.ok)(st:Store)(R:Ja)(h:R (.agg (yd (xc a b))) st):Jb 370 [.agg (yd a),.agg (yd b)] st R:=by refine Qa (c:=cfg 16) zb Tryz.func370 ?_;refine Qc zb yaq ?_;refine⟨H5 a.1 b.1 ha.1 hb.1 _ _ ⟨Qe,?_⟩,Tv⟩;refine⟨H5 a.2 b.2 ha.2 hb.2 _ _ ⟨Qe,?_⟩,Tv⟩;refine Qat ?_;exact ret h
theorem Lw(a b:Vc):(xc a b).ok:=⟨I1 _ _,I1 _ _⟩
theorem Ru(a b:Vc)(r:Int)(ha:a.ok)(hb:b.ok)(hr:r<=9223372036854775807)(st:Store)(R:Ja)(h:R (bool (near a b r)) st):Jb 278 [.agg (yd a),.agg (yd b),int r] st R:=by
 refine Qa (c:=cfg 17) zb Tryz.func278 ?_;unfold near at h;refine bcd (λc1=>?_) (λc1=>?_)
 ·exact ret (isF h δ)
 ·have hb2:=Oi (Lw a b);refine Rx a b ha hb _ _ ?_;refine te _ (Lw a b) _ _ ?_;refine((congrArg (λn=>Jb 372 [.s (.int .u64 n)] st _) (Cp (v:=r) θ θ)).mpr ?_);refine Wu r θ θ _ _ ?_;refine zgf _ _ ?_ (Faw θ θ) _ _ (ret ?_)
  ·unfold sqr;omega
  ·have:decide (0<r/\sqr (xc a b)<r*r)=decide (sqr (xc a b)<r*r):=by grind
   rw[this]at h;exact h
theorem yd9(a b:Vc)(ha:a.ok)(hb:b.ok)(st:Store)(R:Ja)(h:R (.agg (yd (xc a b))) st):Jb 263 [.agg (yd a),.agg (yd b)] st R:=by refine Qa (c:=cfg 16) zb Tryz.func263 ?_;refine Qc zb yb6 ?_;refine⟨ux a.1 b.1 ha.1 hb.1 _ _ ⟨Qe,?_⟩,Tv⟩;refine⟨ux a.2 b.2 ha.2 hb.2 _ _ ⟨Qe,?_⟩,Tv⟩;refine Qat ?_;exact ret h
theorem zgj(n:Int):asz (nrm n)=asz n:=by unfold asz;rw[yih]
theorem yeh(v:Vc)(hv:v.ok)(st:Store)(R:Ja)(h:R (.agg (j3 (sqr v))) st):Jb 262 [.agg (yd v)] st R:=by refine Qa (c:=cfg 20) zb Tryz.func262 ?_;have a1:=I5 hv.1;have a2:=I5 hv.2;have b:=Oi hv;refine Qc zb yb7 ?_;refine⟨Mj v.1 _ _ ⟨Qe,?_⟩,Tv⟩;refine⟨uy (nrm v.1) (Ac hv.1) _ _ ⟨Qe,?_⟩,Tv⟩;refine⟨Mj v.2 _ _ ⟨Qe,?_⟩,Tv⟩;refine⟨uy (nrm v.2) (Ac hv.2) _ _ ⟨Qe,?_⟩,Tv⟩;rw[zgj,zgj];refine Qat ?_;refine Qat ?_;refine du (asz v.1) (asz v.1) θ θ θ θ _ _ ?_;refine du (asz v.2) (asz v.2) θ θ θ θ _ _ ?_;exact yej _ _ θ θ θ _ _ (ret h)
theorem yd8(a b:Vc)(r:Int)(ha:a.ok)(hb:b.ok)(hr:yg r)(st:Store)(R:Ja)(h:R (bool (near a b r)) st):Jb 176 [.agg (yd a),.agg (yd b),int r] st R:=by
 refine Qa (c:=cfg 21) zb Tryz.func176 ?_;have hn:=Ac hr;unfold near at h;have hb2:=Oi (Lw a b);refine Mj r _ _ ?_;refine bcd (λc1=>?_) (λc1=>?_)
 ·refine ret (isF h ?_);grind[nrm]
 ·have hr0:nrm r=r:=by unfold nrm at c1⊢;omega
  rw[hr0]at c1 hn;refine yd9 a b ha hb _ _ ?_;refine yeh _ (Lw a b) _ _ ?_;refine((congrArg (λn=>Jb 264 [.s (.int .u64 n),.s (.int .u64 n)] st _) (show IntKind.u64.wrap (nrm r)=r by grind[Cp])).mpr ?_);refine du r r θ θ θ θ _ _ ?_;refine ykg _ _ ?_ (Faw θ θ) _ _ (ret ?_)
  ·unfold sqr;omega
  ·have:decide (0<r/\sqr (xc a b)<r*r)=decide (sqr (xc a b)<r*r):=by
    rw[Fbu];grind[sqr]
   rw[this]at h;exact h
theorem yl7(g:Gnd)(hg:zt g)(t:Nat)(ht:(t:Int)<g.W*g.H)(p:Vc)(hp:qt p.1 p.2)(r:Int)(hr:0<r/\r<=262144)(st:Store)(R:Ja)(h:R (bool (decide (jz g t p r))) st):
  Jb 276 [.agg (zu g),int t,.agg (yd p),int r] st R:=by
 have hb:=Gc hg ht;have hn:=yiw hg ht hp hr.1;have hx:=L5 hg ht;have hq:=Kg (t:=t) hg.1.1;have hq2:=Kh (t:=t) hg.1.1;have hg1:=hg.1;have hg2:=hg.2.1;have hp':=hp;unfold qt at hp';refine Qa (c:=cfg 41) zb Tryz.func276 ?_;refine Qc zb yb0 ?_;refine⟨θ,?_⟩;have q1:yg ((t:Int).tmod g.W*65536):=by rw[hq];unfold yg;omega
 have q2:yg ((t:Int).tdiv g.W):=ψb;have q3:yg ((t:Int).tdiv g.W*65536):=ψb;refine⟨q1,?_⟩;refine⟨θ,?_⟩;refine⟨q2,?_⟩;refine⟨q3,?_⟩;refine Qat ?_;refine Qau ?_;have e1:(t:Int).tmod g.W*65536=tx g t:=by rw[hq];rfl
 have e2:(t:Int).tdiv g.W*65536=ty g t:=by rw[hq2];rfl
 rw[e1,e2];refine Qd ?_;refine Qd ?_;have c1:=bo (x:=p.1) hx.1;have c2:=bo (x:=p.2) hx.2;refine Ru p (G5 p.1 (tx g t),G5 p.2 (ty g t)) r ⟨⟨θ,θ⟩,⟨θ,θ⟩⟩ ⟨⟨θ,θ⟩,⟨θ,θ⟩⟩ θ _ _ (ret ?_);rw[hn];exact h
theorem zbn(x lo:Int)(hx:-1099511627776<=x/\x<=1099511627776)(hlo:0<=lo/\lo<=8323072)(st:Store)(R:Ja)(h:R (int (off x lo)) st):Jb 259 [int x,int lo,int (lo+65536)] st R:=by
 refine Qa (c:=cfg 19) zb Tryz.func259 ?_;unfold off at h;refine bcd (λc1=>?_) (λc1=>?_)
 ·refine Qd ?_;rw[if_pos c1]at h;exact ret h
 rw[if_neg c1]at h;refine bcd (λc2=>?_) (λc2=>?_)
 ·refine Qd ?_;rw[if_pos c2]at h;exact ret h
 rw[if_neg c2]at h;exact ret h
theorem yjd(g:Gnd)(hg:zt g)(t:Nat)(ht:(t:Int)<g.W*g.H)(p:Vc)(hp:qt p.1 p.2)(r:Int)(hr:0<r/\r<=262144)(st:Store)(R:Ja)(h:R (bool (decide (jz g t p r))) st):
  Jb 175 [.agg (zu g),int t,.agg (yd p),int r] st R:=by
 have hb:=Gc hg ht;have hx:=L5 hg ht;have hq:=Kg (t:=t) hg.1.1;have hq2:=Kh (t:=t) hg.1.1;have hg1:=hg.1;have hg2:=hg.2.1;have hp':=hp;unfold qt at hp';have o1:=zbo hx.1 hp'.1;have o2:=zbo hx.2 hp'.2;have hm:=yje o1.1 o2.1 hr.1;refine Qa (c:=cfg 56) zb Tryz.func175 ?_;refine Qc zb ydg ?_;refine⟨θ,?_⟩;have q1:yg ((t:Int).tmod g.W*65536):=by rw[hq];unfold yg;omega
 have q2:yg ((t:Int).tdiv g.W):=ψb;have q3:yg ((t:Int).tdiv g.W*65536):=ψb;refine⟨q1,?_⟩;refine⟨θ,?_⟩;refine⟨q2,?_⟩;refine⟨q3,?_⟩;refine Qat ?_;refine Qau ?_;have e1:(t:Int).tmod g.W*65536=tx g t:=by rw[hq];rfl
 have e2:(t:Int).tdiv g.W*65536=ty g t:=by rw[hq2];rfl
 rw[e1,e2];refine Qc zb ydf ?_;refine Qd ?_;refine Qd ?_;refine⟨zbn p.1 (tx g t) hp'.1 hx.1 _ _ ⟨Qe,?_⟩,Tv⟩;refine⟨zbn p.2 (ty g t) hp'.2 hx.2 _ _ ⟨Tv,?_⟩,Tv⟩;refine Qau ?_;refine Qau ?_;unfold jz at h;have no:¬(off p.1 (tx g t)<r/\off p.2 (ty g t)<r/\off p.1 (tx g t)*off p.1 (tx g t)+off p.2 (ty g t)*off p.2 (ty g t)<r*r)->R (bool false) st:=λhh=>isF h (decide_eq_false λk=>hh (hm.2 k));refine bcd (λc1=>?_) (λc1=>ret (no λk=>c1 k.1));refine bcd (λc2=>?_) (λc2=>ret (no λk=>c2 k.2.1));have s1:=et (a:=off p.1 (tx g t)) θ;have s2:=et (a:=off p.2 (ty g t)) θ;have s3:=et (a:=r) θ;refine Qd ?_;refine Qd ?_;refine Qd ?_;refine Qd ?_;exact ret h
theorem yp0(p:Vc)(r:Int)(st:Store)(R:Ja)(h:∀z:Bool,(z=true↔(0<=r/\r<=262144)/\qt p.1 p.2)->R (bool z) st):Jb 275 [.agg (yd p),int r] st R:=by
 refine Qa (c:=cfg 15) zb Tryz.func275 ?_;repeat' (first|refine bcd (λ_=>?_) (λ_=>?_)|refine zk (λ_=>?_) (λ_=>?_)|refine Qd ?_|(refine yhe p _ _ ?_;rintro(_|_) hz)|fail)
 all_goals
  refine ret (h _ ?_);simp only[decide_eq_true_eq,decide_eq_false_iff_not,Fah,false_iff,true_iff,beq_iff_eq,bne_iff_ne,beq_eq_false_iff_ne,ne_eq,reduceCtorEq,qt]at*;omega
theorem zaa(r:Int)(hr:0<r/\r<=262144)(st:Store)(R:Ja)(h:R (int r) st):Jb 279 [int r] st R:=by
 refine Qa (c:=cfg 6) zb Tryz.func279 ?_;have e:min2 (max2 r 0) 262144=r:=by rw[min2_eq,max2_eq];omega
 rw[<-e]at h;exact ret h
theorem zgt(p:Vc)(r:Int)(q:Vc)(s:Int)(hp:p.ok)(hq:q.ok)(hr:0<r/\r<=262144)(hs:0<s/\s<=262144)(st:Store)(R:Ja)(h:R (bool (vf p r q s)) st):
  Jb 189 [.agg (yd p),int r,.agg (yd q),int s] st R:=by
 refine Qa (c:=cfg 18) zb Tryz.func189 ?_;refine Qc zb ydb ?_;refine⟨zaa r hr _ _ ⟨Qe,?_⟩,Tv⟩;refine⟨zaa s hs _ _ ⟨Qe,?_⟩,Tv⟩;refine Qd ?_;refine⟨Ru p q (r+s) hp hq θ _ _ ⟨Tv,?_⟩,Tv⟩;exact⟨⟨Tv,ret h⟩,Tv⟩
theorem yga(p:Vc)(r:Int)(q:Vc)(s:Int)(hp:p.ok)(hq:q.ok)(hr:0<r/\r<=262144)(hs:0<s/\s<=262144)(st:Store)(R:Ja)(h:R (bool (vf p r q s)) st):
  Jb 104 [.agg (yd p),int r,.agg (yd q),int s] st R:=by
 have e1:max2 0 (min2 r 262144)=r:=by rw[min2_eq,max2_eq];omega
 have e2:max2 0 (min2 s 262144)=s:=by rw[min2_eq,max2_eq];omega
 unfold vf at h;rw[<-e1,<-e2]at h;refine Qa (c:=cfg 20) zb Tryz.func104 ?_;refine ze (by rw[e1,e2];omega) ?_;exact yd8 p q _ hp hq (by rw[e1,e2];exact⟨θ,θ⟩) _ _ (ret h)
theorem Qaa{p:Prop}(h:p:=by grind):p:=h
theorem yro(l:List Bld)(hl:l.length<=1000000000000)(st:Store)(R:Ja)(h:∀z:Bool,(z=true↔Ow l)->R (bool z) st):Jb 265 [lst 6 zi l] st R:=by
 refine Qa (c:=cfg 22) zb Tryz.func265 ?_
 refine AWp.loop (σ:=Nat) ⟨λi=>[(0,.av (lst 6 zi l)),(3,.av (int (i:Nat)))],λ_=>[],
  λi st'=>1<=i/\(i<=l.length\/i=1)/\st'=st/\∀j,(h:j<l.length)->j<i->0<j->(l[j-1]'θ).id<l[j].id,λi=>l.length-i⟩ zb ?_ ?_
 ·exact⟨1,Tv,⟨Fak _,.inr rfl,rfl,λj _ hj=>θ⟩,⟨Tq,Tq,Tv⟩,Tv⟩
 ·rintro i st' ⟨hi1,hi,rfl,hall⟩;refine zk (λh1=>?_) (λh1=>?_)
  ·have hlt:i<l.length:=wo h1;refine Qc zb yb5 ?_;refine Qd ?_;refine⟨i-1,θ,za _ (zq (show i-1<l.length by omega)) ?_⟩;refine⟨i,rfl,za _ (zq hlt) ?_⟩;refine bcd (λh2=>ret (h _ ?_)) (λh2=>?_)
   ·simp only[Fah,false_iff];intro h3;have:=h3 i hlt θ;omega
   ·refine Qd ?_;refine⟨i+1,?_,⟨θ,.inl hlt,rfl,λj hj h0 h00=>?_⟩,⟨Tq,Tq,Tv⟩,Tv⟩
    ·show l.length-(i+1)<l.length-i;omega
    ·by_cases hji:j=i
     ·subst hji;omega
     ·exact hall j hj θ h00
  ·have hge:¬i<l.length:=by
    rw[zj]at h1;simpa using h1
   refine ret (h _ ?_);simp only[true_iff];exact λj hj h0=>hall j hj θ h0
theorem yfg(l:List Bld)(hl:l.length<=1000000000000)(st:Store)(R:Ja)(h:∀z:Bool,(z=true↔Ow l)->R (bool z) st):Jb 169 [lst 6 zi l] st R:=by
 refine Qa (c:=cfg 22) zb Tryz.func169 ?_
 refine AWp.loop (σ:=Nat) ⟨λi=>[(0,.av (lst 6 zi l)),(3,.av (int (i:Nat)))],λ_=>[],
  λi st'=>1<=i/\(i<=l.length\/i=1)/\st'=st/\∀j,(h:j<l.length)->j<i->0<j->(l[j-1]'θ).id<l[j].id,λi=>l.length-i⟩ zb ?_ ?_
 ·exact⟨1,Tv,⟨Fak _,.inr rfl,rfl,λj _ hj=>θ⟩,⟨Tq,Tq,Tv⟩,Tv⟩
 ·rintro i st' ⟨hi1,hi,rfl,hall⟩;refine zk (λh1=>?_) (λh1=>?_)
  ·have hlt:i<l.length:=wo h1;refine Qc zb ydi ?_;refine⟨i,rfl,za _ (zq hlt) ?_⟩;refine Qd ?_;refine⟨i-1,θ,za _ (zq (show i-1<l.length by omega)) ?_⟩;refine bcd (λh2=>ret (h _ ?_)) (λh2=>?_)
   ·simp only[Fah,false_iff];intro h3;have:=h3 i hlt θ;omega
   ·refine Qd ?_;refine⟨i+1,?_,⟨θ,.inl hlt,rfl,λj hj h0 h00=>?_⟩,⟨Tq,Tq,Tv⟩,Tv⟩
    ·show l.length-(i+1)<l.length-i;omega
    ·by_cases hji:j=i
     ·subst hji;omega
     ·exact hall j hj θ h00
  ·have hge:¬i<l.length:=by
    rw[zj]at h1;simpa using h1
   refine ret (h _ ?_);simp only[true_iff];exact λj hj h0=>hall j hj θ h0
theorem yjg(g:Gnd)(hg:zt g)(a b:Bld)(ha:yk a/\onP g a)(hb:yk b/\onP g b)(st:Store)(R:Ja)(h:∀z:Bool,(z=true↔vo a b)->R (bool z) st):Jb 173 [.agg (zi a),.agg (zi b)] st R:=by unfold yk onP at ha hb;unfold vo at h;unfold zt at hg;refine Qa (c:=cfg 43) zb Tryz.func173 ?_;refine Qd ?_;refine bcd (λc1=>?_) (λc1=>ret (h _ Qaa));refine Qd ?_;refine bcd (λc2=>?_) (λc2=>ret (h _ Qaa));refine Qd ?_;refine bcd (λc3=>?_) (λc3=>ret (h _ Qaa));refine Qd ?_;exact ret (h _ Qaa)
theorem ymc(g:Gnd)(hg:zt g)(b:Bld)(hb:yk b/\onP g b)(t:Nat)(ht:(t:Int)<g.W*g.H)(st:Store)(R:Ja)(h:∀z:Bool,(z=true↔wu g b t)->R (bool z) st):
  Jb 256 [.agg (zu g),.agg (zi b),int t] st R:=by
 have htb:=Gc hg ht;have hq:=Kg (t:=t) hg.1.1;have hq2:=Kh (t:=t) hg.1.1;unfold yk onP at hb;unfold wu at h;have hg1:=hg.1;have hg2:=hg.2.1;refine Qa (c:=cfg 45) zb Tryz.func256 ?_;refine Qc zb yca ?_;refine⟨θ,?_⟩;refine⟨θ,?_⟩;refine Qd ?_;refine Qat ?_;refine Qau ?_;rw[<-hq,<-hq2]at h;refine bcd (λc1=>?_) (λc1=>ret (h _ Qaa));refine Qd ?_;refine bcd (λc2=>?_) (λc2=>ret (h _ Qaa));refine bcd (λc3=>?_) (λc3=>ret (h _ Qaa));refine Qd ?_;exact ret (h _ Qaa)
theorem yfm(g:Gnd)(hg:zt g)(b:Bld)(hb:yk b/\onP g b)(st:Store)(R:Ja)(h:∀z:Bool,(z=true↔Fa g b)->R (bool z) st):
  Jb 172 [.agg (zu g),.agg (zi b)] st R:=by
 have hm:=qm hg;refine Qa (c:=cfg 35) zb Tryz.func172 ?_
 refine AWp.loop (σ:=Nat) ⟨λi=>[(2,.bx 2 0),(3,.bx 3 0),(5,.av (int (i:Nat)))],λ_=>[(2,zu g),(3,zi b)],
  λi st'=>i<=g.T.length/\st'=st/\∀t,t<i->wu g b t->(g.T.getD t 0).toNat<=1,λi=>g.T.length-i⟩ zb ?_ ?_
 ·exact⟨0,Tv,⟨Fae _,rfl,λt ht=>θ⟩,Qaq,⟨rfl,rfl,Tv⟩⟩
 rintro i st' ⟨hi,rfl,hall⟩;refine Qd ?_;refine bcd (λh1=>?_) (λh1=>?_);rotate_left
 ·refine ret (h _ ?_);simp only[true_iff];intro t ht;grind
 have hlt:i<g.T.length:=θ;have hget:g.T.getD i 0=g.T[i]:=by simp[hlt]
 have next:(wu g b i->(g.T.getD i 0).toNat<=1)->∀t,t<i+1->wu g b t->(g.T.getD t 0).toNat<=1:=δ
 refine ymc g hg b hb i θ _ _ (λz hz=>?_);cases z with
 |false=>
  refine Qd ?_;refine⟨i+1,?_,⟨θ,rfl,next λhh=>δ⟩,Qaq,⟨rfl,rfl,Tv⟩⟩;grind
 |true=>
  refine⟨i,rfl,za _ (zq hlt) ?_⟩
  have fin:(g.T[i].toNat<=1)->∃s:Nat,g.T.length-s<g.T.length-i/\(s<=g.T.length/\st'=st'/\∀t,t<s->wu g b t->(g.T.getD t 0).toNat<=1)/\s=i+1:=
   λhh=>⟨i+1,θ,⟨θ,rfl,next λ_=>δ⟩,rfl⟩
  refine qf (λc1=>?_) (λc1=>?_)
  ·refine⟨i,rfl,za _ (zq hlt) ?_⟩;refine qf (λc2=>?_) (λc2=>?_)
   ·refine ret (h _ ?_);simp only[Fah,false_iff];intro hf;have:=hf i hlt (hz.1 rfl);grind
   ·obtain⟨s,f1,f2,rfl⟩:=fin θ;refine Qd ?_;exact⟨i+1,f1,f2,Qaq,⟨rfl,rfl,Tv⟩⟩
  ·obtain⟨s,f1,f2,rfl⟩:=fin θ;refine Qd ?_;exact⟨i+1,f1,f2,Qaq,⟨rfl,rfl,Tv⟩⟩
theorem R6(g:Gnd)(hg:zt g)(b:Bld)(hb:yk b/\onP g b)(st:Store)(R:Ja)(h:R (yh (Am g.W b)) st):Jb 269 [.agg (zu g),.agg (zi b)] st R:=by
 have hb':=hb;unfold yk onP at hb';have hg1:=hg.1;have hg2:=hg.2.1;refine Qa (c:=cfg 35) zb Tryz.func269 ?_
 refine AWp.loop (σ:=Nat×AV) ⟨λs=>[(2,.bx 2 0),(3,.bx 3 0),(4,.av s.2),(8,.av (int b.h)),(9,.av (int (s.1:Nat)))],λ_=>[(2,zu g),(3,zi b)],
  λs st'=>s.1<=b.h.toNat/\App 1 st s.2 (rws zv (Da g.W b s.1)) st',λs=>b.h.toNat-s.1⟩ zb ?_ ?_
 ·exact⟨(0,_),Tv,⟨Fae _,App.start 1 st⟩,⟨Tq,Tq,Tq,Tq,Tq,Tv⟩,⟨rfl,rfl,Tv⟩⟩
 rintro⟨y,v⟩ st' ⟨hy,ha⟩;dsimp only at hy ha⊢;refine bcd (λh1=>?_) (λh1=>?_);rotate_left
 ·have:y=b.h.toNat:=θ;subst this;exact⟨_,st,AV.le_trans ha.le (Tt),ha.has,h⟩
 refine AWp.loop (σ:=Nat×AV) ⟨λs=>[(2,.bx 2 0),(3,.bx 3 0),(4,.av s.2),(5,.av (int (y:Nat))),(8,.av (int b.h)),(9,.av (int (y:Nat))),(13,.av (int b.w)),(14,.av (int (s.1:Nat)))],λ_=>[(2,zu g),(3,zi b)],
  λs st'=>s.1<=b.w.toNat/\App 1 st s.2 (rws zv (Da g.W b y++Cr g.W b y s.1)) st',λs=>b.w.toNat-s.1⟩ zb ?_ ?_
 ·refine⟨(0,v),Tv,⟨Fae _,?_⟩,Qaq,⟨rfl,rfl,Tv⟩⟩;simp_all[Cr]
 rintro⟨x,v2⟩ st2 ⟨hx,ha2⟩;dsimp only at hx ha2⊢;refine bcd (λh2=>?_) (λh2=>?_);rotate_left
 ·have:x=b.w.toNat:=θ;subst this;refine Qd ?_;refine⟨(y+1,v2),?_,⟨θ,?_⟩,Qaq,⟨rfl,rfl,Tv⟩⟩
  ·grind
  grind[dv]
 obtain⟨q1,q2,_⟩:=Kj hg (x:=b.x+x) (y:=b.y+y) θ θ;have hm:=qm hg;have q3:0<=g.W*(b.y+(y:Int)):=Faw θ θ;refine Qd ?_;refine Qd ?_;refine Qd ?_;refine Qd ?_;refine⟨ψ,?_⟩;have hlen:(Da g.W b y++Cr g.W b y x).length<=16:=by rw[Fad,dw,se];have:y*b.w.toNat<=3*4:=Fdr θ θ;omega
 refine Bj (ie:=ti2) (rows':=[zv (b.x+(x:Int)+g.W*(b.y+(y:Int)))]) ha2 ?_ ?_ ⟨?_,?_⟩ (λv3 st3 ha3=>?_)
 ·rfl
 ·rfl
 ·simp only[zj,Fas,ti2];omega
 ·grind[zj]
 refine Qd ?_;refine⟨(x+1,v3),?_,⟨θ,?_⟩,Qaq,⟨rfl,rfl,Tv⟩⟩
 ·grind
 ·dsimp only;rw[zjx,<-Fao];unfold rws;rw[Fax];exact ha3
section
variable {st:Store} {v:AV}
theorem zes(n:Int)(hn:yg n)(st:Store)(R:Ja)(h:R (int (nrm n/131072)) st):Jb 360 [int n] st R:=by
 refine Qa (c:=cfg 15) zb Tryz.func360 ?_;refine K1 n _ _ ?_;have hb:=Ac hn;generalize nrm n=x at*;refine bcd (λc1=>?_) (λc1=>?_)
 ·refine⟨⟨θ,θ⟩,?_⟩;refine⟨⟨θ,θ⟩,?_⟩;refine⟨ψ,?_⟩;have e:(0-x-1).tdiv 131072=(0-x-1)/131072:=Fa1 θ;rw[e];refine⟨⟨θ,θ⟩,?_⟩;refine⟨⟨θ,θ⟩,?_⟩;refine⟨⟨θ,θ⟩,?_⟩;rw[show x/131072=0-((0-x-1)/131072+1) by omega]at h;exact ret h
 ·refine⟨ψ,?_⟩;have e:x.tdiv 131072=x/131072:=Fa1 θ;rw[e];exact⟨⟨θ,θ⟩,ret h⟩
theorem Gm(p:Vc)(hp:p.ok)(st:Store)(R:Ja)(h:R (.agg [int (zy p).1,int (zy p).2]) st):Jb 272 [.agg (yd p)] st R:=by refine Qa (c:=cfg 10) zb Tryz.func272 ?_;refine Qc zb yb1 ?_;refine⟨zes p.1 hp.1 _ _ ⟨Qe,?_⟩,Tv⟩;refine⟨zes p.2 hp.2 _ _ ⟨Qe,?_⟩,Tv⟩;refine Qat ?_;exact ret h
theorem zfq(R:Ja)(h:∀a p,vg a p []->R (.s (.pointer (some ⟨p,0,none⟩))) a):Jb 183 [] Store.empty R:=by
 refine Qa (c:=cfg 5 [4] []) zb Tryz.func183 ?_;refine Hw rfl (λma hma=>?_);refine Hw rfl (λmi hmi=>?_);intro p hp;have h1:mi≠ma:=λe=>by have:=hmi.1;rw[e,zd]at this;cases this
 have h2:p≠mi:=λe=>by have:=hp.1;rw[e,zd]at this;cases this
 have h3:p≠ma:=λe=>by have:=hp.1;simp_all[zg,zd]
 refine ret (h _ _ ⟨ma,mi,[],0,[],[],0,⟨zd _ _ _,?_,?_,Ne.symm h1,(λg hg=>(by cases hg)),Fds⟩,⟨Fds,Fds,(λg hg=>(by cases hg)),(λg hg=>(by cases hg)),(λg hg=>(by cases hg))⟩⟩)
 ·simp_all[zg,Ne.symm,zd]
 simp_all[zg,Ne.symm,zd]
theorem zf1{ns:List Int}(hv:Ints st v ns)(x:Int)(hlen:ns.length<4611686018427387904)(hs:ns.Pairwise (·<=·))(R:Ja)
  (h:R (.tup [int (ns.countP (·<x):Nat),bool (ns.contains x)]) st):Jb 273 [v,int x] st R:=
 zzz Tryz.laysNm225 Tryz.func273 rfl rfl hv x hlen hs h
theorem ze0{b cap i j:Nat}{ns:List Int}{L:List AV}(ho:st.obj b=some (.cells (ns.map aI++L)))
  (hc1:ns.length<=cap) (hc2:cap<=9223372036854775807) (hij:i<=j) (hj:j<=ns.length) (R:Ja)
  (h:R (.s (.slice (some ⟨b,0,none⟩) (ns.take i++ns.drop j).length cap)) (st.sO b (.cells ((ns.take i++ns.drop j).map aI++(List.replicate (j-i) (aI 0)++L))))):
  Jb 359 [.s (.slice (some ⟨b,0,none⟩) ns.length cap),int i,int j] st R:=
 yp2 Tryz.laysNm223 Tryz.func359 rfl rfl ho hc1 hc2 hij hj h
theorem lp{ns:List Int}(hv:Ints st v ns){vb:Nat}(x:Int)(i:Nat)(hi:i<=ns.length)
  (hvb:st.obj vb=some (.cells [aI x])) (hne:∀b cap,v=.s (.slice (some ⟨b,0,none⟩) ns.length cap)->b≠vb) (hlen:(ns.length+1)*8<=140737488355328) (R:Ja)
  (h:∀b cap L,(Fresh st b\/∃c0,v=.s (.slice (some ⟨b,0,none⟩) ns.length c0))->(ns.take i++x::ns.drop i).length<=cap->cap<=(ns.take i++x::ns.drop i).length+L.length->cap<=9223372036854775807->
   R (.s (.slice (some ⟨b,0,none⟩) (ns.take i++x::ns.drop i).length cap)) (st.sO b (.cells ((ns.take i++x::ns.drop i).map aI++L)))):
  Jb 274 [v,int i,.s (.slice (some ⟨vb,0,none⟩) 1 1)] st R:=
 yld Tryz.laysNm221 Tryz.func274 rfl rfl hv x i hi hvb hne hlen h
theorem ni{l:List Ent}{G:List Grp}(h:Inv l G):∀g∈G,g.ns.length<=l.length:=by
 intro g hg;have h1:=(h.s g hg).1;have h2:g.ns.Nodup:=h1.imp λh e=>θ;have h3:g.ns ⊆ l.map (·.1):=λid hid=>by obtain⟨e,he,h4,_⟩:=(h.m1 g hg id).1 hid;grind
 have:=Fbp h2 h3;grind
theorem tj{ns:List Int}(h:ns.Pairwise (·<·)):ns.Pairwise (·<=·):=h.imp λh=>θ
theorem zfp{a:Store}{p:Nat}{l:List Ent}(hc:vg a p l)(hl:l.length<=1000000000)(hok:∀e∈l,e.2.ok)(id:Int)(R:Ja)
  (h:∀a',vg a' p (qn l id)->R (bool (l.find? (Ay id)).isSome) a'):Jb 271 [.s (.pointer (some ⟨p,0,none⟩)),int id] a R:=by
 obtain⟨ma,mi,bs1,c1,G,bs2,c2,ha,hi⟩:=hc;refine Qa (c:=cfg 60) zb Tryz.func271 ?_;refine za _ ha.hp ?_;refine Ak rfl (it:=ti385) (ie:=ti64) (ik:=ti2) rfl rfl rfl rfl ha.ha rfl (qA id) (λe he=>?_) ?_
 ·obtain⟨e,_,rfl⟩:=Fai.1 he;rfl
 rw[zd6];cases hf:l.find? (Ay id)with
 |none=>
  rw[hf]at h;refine ret (h a ?_);rw[ypb hf];exact⟨ma,mi,bs1,c1,G,bs2,c2,ha,hi⟩
 |some e=>
  rw[hf]at h;obtain⟨hem,heq⟩:=W0 hf;have hid:e.1=id:=(by simpa [Ay]using heq:id=e.1).symm;refine Gm e.2 (hok e hem) _ _ ?_;obtain⟨g,hg,hk⟩:=hi.m2 e hem;have hfg:∃g',G.find? (G7 (zy e.2))=some g':=by
   cases hx:G.find? (G7 (zy e.2))with
   |some g'=>simp
   |none=>grind[atKey_iff]
  obtain⟨g',hfg⟩:=hfg;have hg':=W0 hfg;have:g'=g:=ykt hi.n2 hg hg'.1 (by rw[hk];exact atKey_iff.1 hg'.2);subst this;obtain⟨j,hj1,hj2⟩:=mp hfg;obtain⟨k1,k2,k3⟩:=ha.hg g' hg;obtain⟨s1,s2⟩:=hi.s g' hg;have hin:id∈g'.ns:=(hi.m1 g' hg id).2 ⟨e,hem,hid,hk.symm⟩;obtain⟨d1,d2,d3⟩:=yp3 s1 hin;have hlen:=ni hi g' hg;refine Qc zb yb3 ?_;refine za (o:=a.obj p) _ ha.hp ?_;refine⟨Ak rfl (it:=ti386) (ie:=ti63) (ik:=ti64) rfl rfl rfl rfl ha.hi rfl (qG (zy e.2).1 (zy e.2).2) (λe he=>?_) ⟨Qe,?_⟩,Tv⟩
  ·obtain⟨e,_,rfl⟩:=Fai.1 he;rfl
  rw[Px,hfg];refine Qat ?_;refine zf1 (.inr ⟨g'.b,g'.cap,g'.L,rfl,k1,k2⟩) id θ (tj s1) _ ?_;refine⟨⟨θ,θ⟩,?_⟩;refine ze0 k1 k2.1 k2.2.2 (Nat.le_add_right _ 1) d1 _ ?_;generalize hns:g'.ns.take (g'.ns.countP λx=>decide (x<id))++g'.ns.drop (g'.ns.countP (λx=>decide (x<id))+1)=ns' at*;obtain⟨n1,n2,n3⟩:=ha.g_ne hg;have mid:=ha.mid (.cells (ns'.map aI++(List.replicate (g'.ns.countP (λx=>decide (x<id))+1-g'.ns.countP (λx=>decide (x<id))) (aI 0)++g'.L))) n3 n1 n2;rw[show g'.ns.countP (λx=>decide (x<id))+1-g'.ns.countP (λx=>decide (x<id))=1 by omega]at mid⊢;have hnl:ns'.length+1=g'.ns.length:=δ;obtain⟨v1,v2⟩:=yk2 hi hem hj2 hk d2 δ;obtain⟨i,hi1,hi2⟩:=mp hf;have her:(l.map Af).eraseIdx i=(qn l id).map Af:=by rw[W7,yov hi.n1 hi2,hid]
  refine zw (λhz=>?_) (λhz=>?_)
  ·have hn0:ns'=[]:=Far θ;refine Qc zb yb2 ?_;refine za (o:=(a.sO g'.b _).obj p) _ mid.hp ?_;refine⟨ci rfl rfl rfl rfl (it:=ti386) (ik:=ti64) rfl rfl rfl mid.hi rfl (qG (zy e.2).1 (zy e.2).2) (λe he=>?_) ⟨Qe,?_⟩,Tv⟩
   ·obtain⟨e,_,rfl⟩:=Fai.1 he;rfl
   have m1:=mid.setI (G':=G.eraseIdx j) (bs2.eraseIdx j) c2 (λg1 h1=>.inl ?_) (mid.nd.sublist ((List.eraseIdx_sublist ..).map _));rotate_left
   ·obtain⟨q1,q2⟩:=(V6 (f:=Grp.key) hi.n2 hj2).1 h1;refine⟨q1,λe=>q2 ?_⟩;obtain⟨i1,hi1⟩:=Fa4.1 q1;have:=Fp (f:=λg:Grp=>g.b) ha.nd hi1 hj2 e;grind
   have e1:D5 (G.map Ae) bs2 c2 (qG (zy e.2).1 (zy e.2).2)=.map ((G.eraseIdx j).map Ae) (bs2.eraseIdx j) c2:=by grind[D5,W3,W7]
   rw[e1];refine za _ m1.hp ?_;refine ci rfl rfl rfl rfl (it:=ti385) (ik:=ti2) rfl rfl rfl m1.ha rfl (qA id) (λe he=>?_) ?_
   ·obtain⟨e,_,rfl⟩:=Fai.1 he;rfl
   have e2:D5 (l.map Af) bs1 c1 (qA id)=.map ((qn l id).map Af) (bs1.eraseIdx i) c1:=by grind[D5,W4]
   rw[e2];have m2:=m1.setA (qn l id) (bs1.eraseIdx i) c1;rw[hid]at v1;exact ret (h _ ⟨ma,mi,_,_,_,_,_,m2,v1 hn0⟩)
  ·have hn0:ns'≠[]:=λe=>by grind
   refine Qc zb yb4 ?_;refine za (o:=(a.sO g'.b _).obj p) _ mid.hp ?_;refine⟨Fg (.inl rfl) rfl (it:=ti386) (ik:=ti64) rfl rfl rfl mid.hi rfl rfl (qG (zy e.2).1 (zy e.2).2) (λe he=>?_) (λe1 he hq=>?_) ⟨Qe,?_⟩,Tv⟩
   ·obtain⟨e,_,rfl⟩:=Fai.1 he;rfl
   ·obtain⟨g1,_,rfl⟩:=Fai.1 he;have:=(atKey_iff (k:=zy e.2) (g:=g1)).1 hq;show AV.agg [int g1.x,int g1.y]=_;rw[<-this];rfl
   let g2:Grp:=⟨g'.x,g'.y,ns',g'.b,g'.cap,List.replicate 1 (aI 0)++g'.L⟩
   have e1:vq (G.map Ae) bs2 c2 (qG (zy e.2).1 (zy e.2).2) (.agg [int (zy e.2).1,int (zy e.2).2]) (.s (.slice (some ⟨g'.b,0,none⟩) ns'.length g'.cap))=.map ((G.set j g2).map Ae) bs2 c2:=by
    unfold vq;rw[W3,hj1,Fc4];simp only
    congr 2
    show _=(AV.agg [int g'.x,int g'.y],_)
    rw[<-hk];rfl
   have m1:=mid.setI (G':=G.set j g2) bs2 c2 (λg1 h1=>?_) (by rw[map_set_same (λg:Grp=>g.b) (g':=g2) hj2 rfl];exact mid.nd);rotate_left
   ·rcases(Fq (f:=λg:Grp=>g.b) ha.nd hj2).1 h1 with rfl|⟨q1,q2⟩
    ·refine .inr ⟨zd _ _ _,⟨?_,?_,k2.2.2⟩,k3⟩
     ·show ns'.length<=g'.cap;have:=k2.1;omega
     ·show g'.cap<=ns'.length+(List.replicate 1 (aI 0)++g'.L).length;have:=k2.2.1;grind
    grind
   rw[<-e1]at m1;refine za _ m1.hp ?_;refine ci rfl rfl rfl rfl (it:=ti385) (ik:=ti2) rfl rfl rfl m1.ha rfl (qA id) (λe he=>?_) ?_
   ·obtain⟨e,_,rfl⟩:=Fai.1 he;rfl
   have e2:D5 (l.map Af) bs1 c1 (qA id)=.map ((qn l id).map Af) (bs1.eraseIdx i) c1:=by grind[D5,W4]
   rw[e2];have m2:=m1.setA (qn l id) (bs1.eraseIdx i) c1;rw[hid]at v2;exact ret (h _ ⟨ma,mi,_,_,_,_,_,m2,v2 hn0 g2 rfl rfl⟩)
end
theorem W9{l:List Ent}{id:Int}:∀e∈qn l id,e.1≠id:=λe he=>(mem_dropId.1 he).2
theorem ypc(l:List Ent)(id:Int):(qn l id).length<=l.length:=Fbh _ _
theorem yq7{a:Store}{p:Nat}{l:List Ent}(hc:vg a p l)(hl:l.length<=1000000000)(hok:∀e∈l,e.2.ok)(id:Int)(pos:Vc)(hpos:pos.ok)(R:Ja)
  (h:∀a',vg a' p (qn l id++[(id,pos)])->R (.tup []) a'):Jb 184 [.s (.pointer (some ⟨p,0,none⟩)),int id,.agg (yd pos)] a R:=by
 refine Qa (c:=cfg 46 [38,1000038] []) zb Tryz.func184 ?_;refine zfp hc hl hok id _ (λa1 hc1=>?_);obtain⟨ma,mi,bs1,c1,G,bs2,c2,ha,hi⟩:=hc1;refine Gm pos hpos _ _ ?_;obtain⟨cur,ns,e1,e2,e3,e4,e5,e6⟩:=ygr (pos:=pos) ha hi W9;have hnl:ns.length<=1000000000:=by
  rcases e4 with rfl|⟨g,hg,rfl⟩
  ·simp
  ·have h1:=ni hi g hg;have h2:=ypc l id;omega
 have hle:=yqg id ns;refine Qc zb yde ?_;refine za (o:=a1.obj p) _ ha.hp ?_;refine⟨Ak rfl (it:=ti386) (ie:=ti63) (ik:=ti64) rfl rfl rfl rfl ha.hi rfl (qG (zy pos).1 (zy pos).2) (λe he=>?_) ⟨Qe,?_⟩,Tv⟩
 ·obtain⟨e,_,rfl⟩:=Fai.1 he;rfl
 rw[Px,show Dq ti63=.s (.slice none 0 0)from rfl,e1];refine⟨zf1 e2 id θ (tj e3) _ ⟨Qe,?_⟩,Tv⟩;refine Qat ?_;refine Qat ?_;refine Qc zb ydd ?_;refine za (o:=a1.obj p) _ ha.hp ?_;refine za (o:=a1.obj p) _ ha.hp ?_;refine⟨Ak rfl (it:=ti386) (ie:=ti63) (ik:=ti64) rfl rfl rfl rfl ha.hi rfl (qG (zy pos).1 (zy pos).2) (λe he=>?_) ⟨?_,?_⟩,?_⟩
 ·obtain⟨e,_,rfl⟩:=Fai.1 he;rfl
 ·repeat(first|exact Tv|refine⟨rfl,?_⟩|refine⟨za (o:=a1.obj p) _ ha.hp rfl,?_⟩)
 ·rw[Px,show Dq ti63=.s (.slice none 0 0)from rfl,e1];refine⟨⟨ψ,λvb hvb=>?_⟩,Tv⟩;have hp1:=(ha.fresh (.cells [aI id]) hvb).hp;refine⟨?_,?_⟩
  ·repeat(first|exact Tv|refine⟨rfl,?_⟩|refine⟨za (o:=(a1.sO vb (.cells [aI id])).obj p) _ hp1 rfl,?_⟩)
  refine⟨lp (e2.fresh _ hvb) id _ hle (zd _ _ _) (λb cap hc he=>e5 b cap hc (he▸hvb.1)) θ _ (λb cap L q1 q2 q3 q4=>?_),Tv⟩;obtain⟨w1,w2,G',bs2',c2',w3,w4,w5⟩:=e6 vb _ b cap L hvb q1 q2 q3 q4;refine⟨?_,?_⟩
  ·repeat(first|exact Tv|refine⟨rfl,?_⟩|refine⟨za (o:=Store.obj (Store.sO _ b _) p) _ w2 rfl,?_⟩)
  refine⟨Fg (.inl rfl) rfl (it:=ti386) (ik:=ti64) rfl rfl rfl w1 rfl rfl (qG (zy pos).1 (zy pos).2) (λe he=>?_) (λe1 he hq=>?_) ⟨Qe,?_⟩,Tv⟩
  ·obtain⟨e,_,rfl⟩:=Fai.1 he;rfl
  ·obtain⟨g1,_,rfl⟩:=Fai.1 he;have:=(atKey_iff (k:=zy pos) (g:=g1)).1 hq;show AV.agg [int g1.x,int g1.y]=_;rw[<-this];rfl
  rw[w3];refine Qc zb ul ?_;refine za (o:=Store.obj (Store.sO _ mi _) p) _ w4.hp ?_;refine⟨Fg (.inl rfl) rfl (it:=ti385) (ik:=ti2) rfl rfl rfl w4.ha rfl rfl (qA id) (λe he=>?_) (λe1 he hq=>?_) ⟨Qe,?_⟩,Tv⟩
  ·obtain⟨e,_,rfl⟩:=Fai.1 he;rfl
  ·obtain⟨g1,hg1,rfl⟩:=Fai.1 he;grind[qA,Af,int]
  have e7:vq ((qn l id).map Af) bs1 c1 (qA id) (int id) (.agg (yd pos))=.map ((qn l id++[(id,pos)]).map Af) (bs1++[c1]) (c1+1):=by
   unfold vq;have:(qn l id).findIdx? (Ay id)=none:=by rw[Fb3];intro e he;grind[W9,Ay]
   rw[W4,this,Fax];rfl
  have w6:=w4.setA (qn l id++[(id,pos)]) (bs1++[c1]) (c1+1);rw[<-e7]at w6;exact ret (h _ ⟨ma,mi,_,_,G',_,_,w6,w5⟩)
 ·refine⟨⟨ψ,λvb hvb=>?_⟩,Tv⟩;have ha1:=ha.fresh (.cells [aI id]) hvb;have hp1:=ha1.hp;refine⟨?_,?_⟩
  ·repeat(first|exact Tv|refine⟨rfl,?_⟩|refine⟨za (o:=(a1.sO vb (.cells [aI id])).obj p) _ hp1 rfl,?_⟩)
  refine⟨Ak rfl (it:=ti386) (ie:=ti63) (ik:=ti64) rfl rfl rfl rfl ha1.hi rfl (qG (zy pos).1 (zy pos).2) (λe he=>?_) ⟨?_,?_⟩,Tv⟩
  ·obtain⟨e,_,rfl⟩:=Fai.1 he;rfl
  ·repeat(first|exact Tv|refine⟨rfl,?_⟩|refine⟨za (o:=(a1.sO vb (.cells [aI id])).obj p) _ hp1 rfl,?_⟩)
  rw[Px,show Dq ti63=.s (.slice none 0 0)from rfl,e1];refine⟨lp (e2.fresh _ hvb) id _ hle (zd _ _ _) (λb cap hc he=>e5 b cap hc (he▸hvb.1)) θ _ (λb cap L q1 q2 q3 q4=>?_),Tv⟩;obtain⟨w1,w2,G',bs2',c2',w3,w4,w5⟩:=e6 vb _ b cap L hvb q1 q2 q3 q4;refine⟨?_,?_⟩
  ·repeat(first|exact Tv|refine⟨rfl,?_⟩|refine⟨za (o:=Store.obj (Store.sO _ b _) p) _ w2 rfl,?_⟩)
  refine⟨Fg (.inl rfl) rfl (it:=ti386) (ik:=ti64) rfl rfl rfl w1 rfl rfl (qG (zy pos).1 (zy pos).2) (λe he=>?_) (λe1 he hq=>?_) ⟨Qe,?_⟩,Tv⟩
  ·obtain⟨e,_,rfl⟩:=Fai.1 he;rfl
  ·obtain⟨g1,_,rfl⟩:=Fai.1 he;have:=(atKey_iff (k:=zy pos) (g:=g1)).1 hq;show AV.agg [int g1.x,int g1.y]=_;rw[<-this];rfl
  rw[w3];refine Qc zb ul ?_;refine za (o:=Store.obj (Store.sO _ mi _) p) _ w4.hp ?_;refine⟨Fg (.inl rfl) rfl (it:=ti385) (ik:=ti2) rfl rfl rfl w4.ha rfl rfl (qA id) (λe he=>?_) (λe1 he hq=>?_) ⟨Qe,?_⟩,Tv⟩
  ·obtain⟨e,_,rfl⟩:=Fai.1 he;rfl
  ·obtain⟨g1,hg1,rfl⟩:=Fai.1 he;have:id=g1.1:=by simpa [qA,Af,int]using hq
   exact absurd this.symm (W9 g1 hg1)
  have e7:vq ((qn l id).map Af) bs1 c1 (qA id) (int id) (.agg (yd pos))=.map ((qn l id++[(id,pos)]).map Af) (bs1++[c1]) (c1+1):=by
   unfold vq;have:(qn l id).findIdx? (Ay id)=none:=by rw[Fb3];intro e he;have:=W9 e he;simp[Ay];exact λh=>this h.symm
   rw[W4,this,Fax];rfl
  have w6:=w4.setA (qn l id++[(id,pos)]) (bs1++[c1]) (c1+1);rw[<-e7]at w6;exact ret (h _ ⟨ma,mi,_,_,G',_,_,w6,w5⟩)
def ptr(b:Nat):AV:=.s (.pointer (some ⟨b,0,none⟩))
theorem sh{F N:Store}(hd:zh F N){p:Nat}{l:List Ent}(hc:vg F p l){b3 b4 b5 b6:Nat}{q:Vc}{r:Int}{v:AV}{acc:List Int}(hN:NearAt N b3 b4 b5 b6 p q r v acc)(hq:q.ok)(hr:r<=9223372036854775807)
  {e:Ent} (he:l.find? (Ay e.1)=some e) (hok:e.2.ok) (hlen:acc.length<=1000000000000) (R:Ja)
  (h:∀N' v',zh F N'->NearAt N' b3 b4 b5 b6 p q r v' (if near q e.2 r then acc++[e.1]else acc)->R (.tup []) (F.un N')):
  Jb 365 [int e.1,ptr b4,ptr b3,ptr b5,ptr b6] (F.un N) R:=by
 obtain⟨ma,mi,bs1,c1,G,bs2,c2,ha,hi⟩:=hc;refine Qa (c:=cfg 19) zb Tryz.func365 ?_;refine Qc zb yav ?_;refine za (o:=(F.un N).obj b4) _ (zf hN.h4) ?_;refine za (o:=(F.un N).obj b3) _ (zf hN.h3) ?_;refine za (o:=(F.un N).obj p) _ (yj hd ha.hp) ?_;refine za (o:=(F.un N).obj b5) _ (zf hN.h5) ?_;refine⟨Ak rfl (it:=ti385) (ie:=ti64) (ik:=ti2) rfl rfl rfl rfl (yj hd ha.ha) rfl (qA e.1) (λe he=>?_) ⟨?_,?_⟩,Tv⟩
 ·obtain⟨e,_,rfl⟩:=Fai.1 he;rfl
 ·repeat(first|exact Tv|refine⟨rfl,?_⟩|refine⟨za (o:=(F.un N).obj b4) _ (zf hN.h4) rfl,?_⟩|refine⟨za (o:=(F.un N).obj b5) _ (zf hN.h5) rfl,?_⟩)
 rw[zd6,he];refine⟨Ru q e.2 r hq hok hr _ _ ⟨Tv,?_⟩,Tv⟩;cases hn:near q e.2 r with
 |false=>
  rw[hn]at h;exact ret (h N v hd hN)
 |true=>
  rw[hn]at h;refine za (o:=(F.un N).obj b6) _ (zf hN.h6) ?_;refine⟨ψ,?_⟩;refine ysf (ie:=ti2) rfl rfl rfl hN.hv.un e.1 hlen (λb cap L q1 q2 q3 q4=>?_);have q1':Fresh N b\/∃c0,v=.s (.slice (some ⟨b,0,none⟩) acc.length c0):=q1.imp (λh=>(fresh_un h).2) id;have hN':=hN.app q1' q2 q3 q4;rw[zz];have hd1:zh F (N.sO b (.cells ((acc++[e.1]).map aI++L))):=by
   rcases q1 with q1|⟨c0,q1⟩
   ·exact disj_setR hd (fresh_un q1).1
   ·rcases hN.hv with⟨h1,_⟩|⟨b',_,_,h1,h2,_⟩
    ·grind
    grind[Ni]
  have hd2:=Ni (x:=.cells [.s (.slice (some ⟨b,0,none⟩) (acc++[e.1]).length cap)]) hd1 (b:=b6) (y:=.cells [v]) (by
   have hne:b6≠b:=by
    rcases q1' with q1|⟨c0,q1⟩
    ·exact Ne.symm (q1.ne_obj hN.h6)
    ·exact Ne.symm (hN.nv b _ _ q1).2.2.2
   rw[zg hne];exact hN.h6)
  have h6':(N.sO b (.cells ((acc++[e.1]).map aI++L))).obj b6=some (.cells [v]):=by
   have hne:b6≠b:=by
    rcases q1' with q1|⟨c0,q1⟩
    ·exact Ne.symm (q1.ne_obj hN.h6)
    ·exact Ne.symm (hN.nv b _ _ q1).2.2.2
   rw[zg hne];exact hN.h6
  refine qd (i:=ti63) (v:=.s (.slice (some ⟨b,0,none⟩) (acc++[e.1]).length cap)) (b:=b6) (o:=0) (l:=[v]) (st2:=F.un ((N.sO b (.cells ((acc++[e.1]).map aI++L))).sO b6 (.cells [.s (.slice (some ⟨b,0,none⟩) (acc++[e.1]).length cap)]))) rfl rfl rfl (zf h6') (Fak _) ?_ ?_
  ·rw[zz];rfl
  ·exact ret (h _ _ hd2 hN')
theorem Qab{p:Prop}(h:p:=by repeat(first|exact Tv|refine⟨rfl,?_⟩|refine⟨za (o:=(F.un N0).obj b4) _ (zf hN0.h4) rfl,?_⟩|refine⟨za (o:=(F.un N0).obj b5) _ (zf hN0.h5) rfl,?_⟩)):p:=h
theorem zzc{st:Store}{b cap:Nat}{ns:List Int}{L:List AV}(ho:st.obj b=some (.cells (ns.map aI++L)))(hlen:ns.length<4611686018427387904)(R:Ja)
  (h:R (.tup []) (st.sO b (.cells ((ns.mergeSort λx y=>decide (x<=y)).map aI++L)))):Jb 368 [.s (.slice (some ⟨b,0,none⟩) ns.length cap)] st R:=
 zzf Tryz.lays189 Tryz.func368 rfl rfl ho hlen h
theorem zzd{st:Store}(R:Ja)(h:R (.tup []) st):Jb 368 [.s (.slice none 0 0)] st R:=
 zze Tryz.lays189 Tryz.func368 rfl rfl h
def H1(b3 b4 b5 b6:Nat):AV:=.clos 365 [ptr b4,ptr b3,ptr b5,ptr b6]
theorem yq8{F:Store}{p:Nat}{l:List Ent}(hc:vg F p l)(hl:l.length<=1000000000)(hok:∀e∈l,e.2.ok){q:Vc}(hq:q.ok){r:Int}(hr:yg r)(R:Ja)
  (h:∀F' N v ns,vg F' p l->zh F' N->Ints N v ns->Rq l q r ns->R v (F'.un N)):Jb 277 [ptr p,.agg (yd q),int r] F R:=by
 refine Qb (c:=cfg 126 [3,4,5,6] []) zb Tryz.func277 ?_;refine AWp.seq (AWp.of_vc zb ?_);intro b3 hb3 b4 hb4 b5 hb5 b6 hb6;have n43:b4≠b3:=λe=>by have:=hb4.1;rw[e,zd]at this;cases this
 have n54:b5≠b4:=λe=>by have:=hb5.1;rw[e,zd]at this;cases this
 have n53:b5≠b3:=λe=>by have:=hb5.1;simp_all[zg,zd]
 have n65:b6≠b5:=λe=>by have:=hb6.1;rw[e,zd]at this;cases this
 have n64:b6≠b4:=λe=>by have:=hb6.1;simp_all[zg,zd]
 have n63:b6≠b3:=λe=>by have:=hb6.1;simp_all[zg,zd]
 have est:(((F.sO b3 (.cells [ptr p])).sO b4 (.cells (yd q))).sO b5 (.cells [int r])).sO b6 (.cells [.s (.slice none 0 0)])=
   F.un ((((Store.empty.sO b3 (.cells [ptr p])).sO b4 (.cells (yd q))).sO b5 (.cells [int r])).sO b6 (.cells [.s (.slice none 0 0)])):=by
  rw[<-zz,<-zz,<-zz,<-zz,Du]
 have f3:Fresh F b3:=hb3;have f4:Fresh F b4:=by have:=hb4;rw[<-Du F,zz]at this;exact(fresh_un this).1
 have f5:Fresh F b5:=by have:=hb5;rw[<-Du F,zz,zz]at this;exact(fresh_un this).1
 have f6:Fresh F b6:=by have:=hb6;rw[<-Du F,zz,zz,zz]at this;exact(fresh_un this).1
 have hN0:NearAt ((((Store.empty.sO b3 (.cells [ptr p])).sO b4 (.cells (yd q))).sO b5 (.cells [int r])).sO b6 (.cells [.s (.slice none 0 0)])) b3 b4 b5 b6 p q r (.s (.slice none 0 0)) []:=by
  refine⟨?_,?_,?_,zd _ _ _,.inl ⟨rfl,rfl⟩,Ne.symm n63,Ne.symm n64,Ne.symm n65,λb n cap e=>θb⟩
  ·rw[zg (Ne.symm n63),zg (Ne.symm n53),zg (Ne.symm n43)];exact zd _ _ _
  ·simp_all[zg,Ne.symm,zd]
  simp_all[zg,Ne.symm,zd]
 have hd0:zh F ((((Store.empty.sO b3 (.cells [ptr p])).sO b4 (.cells (yd q))).sO b5 (.cells [int r])).sO b6 (.cells [.s (.slice none 0 0)])):=
  disj_setR (disj_setR (disj_setR (disj_setR (ypw F) f3) f4) f5) f6
 show AWp _ _ _ _ _ ((((F.sO b3 (.cells [ptr p])).sO b4 (.cells (yd q))).sO b5 (.cells [int r])).sO b6 (.cells [.s (.slice none 0 0)]));rw[est];generalize((((Store.empty.sO b3 (.cells [ptr p])).sO b4 (.cells (yd q))).sO b5 (.cells [int r])).sO b6 (.cells [.s (.slice none 0 0)]))=N0 at*;clear est hb3 hb4 hb5 hb6;refine AWp.seq (AWp.of_vc zb ?_);refine za (o:=(F.un N0).obj b5) _ (zf hN0.h5) ?_;refine bcd (λc1=>?_) (λc1=>?_)
 ·refine j4 (i:=ti63) (v:=.s (.slice none 0 0)) (b:=b6) (o:=0) (l:=[.s (.slice none 0 0)]) rfl rfl rfl (zf hN0.h6) (Fak _) ?_;refine za (o:=Store.obj (Store.sO _ b6 _) b6) _ (zd _ _ _) ?_;refine ret ?_;rw[zz];refine h F _ _ [] hc (Ni hd0 hN0.h6) (.inl ⟨rfl,rfl⟩) ⟨List.Pairwise.nil,λid=>⟨(λh=>ω),λ⟨e,_,_,hn⟩=>?_⟩⟩;unfold near at hn;grind
 refine AWp.seq (AWp.of_vc zb ?_);have hr0:0<r:=θ;have hr1:r<=9223372036854775807:=hr.2;have sub_q1:=I1 q.1 r;have sub_q2:=I1 q.2 r;have add_q1:=W6 q.1 r;have add_q2:=W6 q.2 r
 refine AWp.meet (σ:=Unit) ⟨λ_=>[(3,.av (ptr b3)),(4,.av (ptr b4)),(5,.av (ptr b5)),(6,.av (ptr b6)),(7,.av (H1 b3 b4 b5 b6)),(8,.bx 8 0)],λ_=>[(8,[int (zy (qa q.1 r,qa q.2 r)).1,int (zy (qa q.1 r,qa q.2 r)).2])],
  λ_ st'=>st'=F.un N0⟩ zb ?_ ?_
 ·refine Qc zb ybz ?_;refine za (o:=(F.un N0).obj b4) _ (zf hN0.h4) ?_;refine za (o:=(F.un N0).obj b5) _ (zf hN0.h5) ?_;refine za (o:=(F.un N0).obj b4) _ (zf hN0.h4) ?_;refine za (o:=(F.un N0).obj b5) _ (zf hN0.h5) ?_;refine⟨H5 q.1 r hq.1 hr _ _ ⟨Qab,⟨H5 q.2 r hq.2 hr _ _ ⟨Qab,⟨Gm (qa q.1 r,qa q.2 r) ⟨sub_q1,sub_q2⟩ _ _ ⟨Qab,⟨⟨Qab,⟨⟨Qab,?_⟩,Tv⟩⟩,Tv⟩⟩,⟨⟨Qab,⟨Gm (qa q.1 r,qa q.2 r) ⟨sub_q1,sub_q2⟩ _ _ ⟨Qab,⟨⟨Qab,?_⟩,Tv⟩⟩,Tv⟩⟩,Tv⟩⟩⟩,⟨⟨Qab,⟨H5 q.2 r hq.2 hr _ _ ⟨Qab,⟨Gm (qa q.1 r,qa q.2 r) ⟨sub_q1,sub_q2⟩ _ _ ⟨Qab,⟨⟨Qab,?_⟩,Tv⟩⟩,Tv⟩⟩,Tv⟩⟩,Tv⟩⟩⟩,⟨⟨Qab,⟨H5 q.1 r hq.1 hr _ _ ⟨Qab,⟨H5 q.2 r hq.2 hr _ _ ⟨Qab,⟨Gm (qa q.1 r,qa q.2 r) ⟨sub_q1,sub_q2⟩ _ _ ⟨Qab,⟨⟨Qab,?_⟩,Tv⟩⟩,Tv⟩⟩,Tv⟩⟩,Tv⟩⟩,Tv⟩⟩;all_goals exact⟨(),rfl,Qaq,⟨rfl,Tv⟩⟩
 rintro _ _ rfl
 refine AWp.meet (σ:=Unit) ⟨λ_=>[(3,.av (ptr b3)),(6,.av (ptr b6)),(7,.av (H1 b3 b4 b5 b6)),(8,.bx 8 0),(9,.bx 9 0)],λ_=>[(8,[int (zy (qa q.1 r,qa q.2 r)).1,int (zy (qa q.1 r,qa q.2 r)).2]),(9,[int (zy (qg q.1 r,qg q.2 r)).1,int (zy (qg q.1 r,qg q.2 r)).2])],
  λ_ st'=>st'=F.un N0⟩ zb ?_ ?_
 ·refine Qc zb yby ?_;refine za (o:=(F.un N0).obj b4) _ (zf hN0.h4) ?_;refine za (o:=(F.un N0).obj b5) _ (zf hN0.h5) ?_;refine za (o:=(F.un N0).obj b4) _ (zf hN0.h4) ?_;refine za (o:=(F.un N0).obj b5) _ (zf hN0.h5) ?_;refine⟨I8 q.1 r hq.1 hr _ _ ⟨Qab,⟨I8 q.2 r hq.2 hr _ _ ⟨Qab,⟨Gm (qg q.1 r,qg q.2 r) ⟨add_q1,add_q2⟩ _ _ ⟨Qab,⟨⟨Qab,⟨⟨Qab,?_⟩,Tv⟩⟩,Tv⟩⟩,⟨⟨Qab,⟨Gm (qg q.1 r,qg q.2 r) ⟨add_q1,add_q2⟩ _ _ ⟨Qab,⟨⟨Qab,?_⟩,Tv⟩⟩,Tv⟩⟩,Tv⟩⟩⟩,⟨⟨Qab,⟨I8 q.2 r hq.2 hr _ _ ⟨Qab,⟨Gm (qg q.1 r,qg q.2 r) ⟨add_q1,add_q2⟩ _ _ ⟨Qab,⟨⟨Qab,?_⟩,Tv⟩⟩,Tv⟩⟩,Tv⟩⟩,Tv⟩⟩⟩,⟨⟨Qab,⟨I8 q.1 r hq.1 hr _ _ ⟨Qab,⟨I8 q.2 r hq.2 hr _ _ ⟨Qab,⟨Gm (qg q.1 r,qg q.2 r) ⟨add_q1,add_q2⟩ _ _ ⟨Qab,⟨⟨Qab,?_⟩,Tv⟩⟩,Tv⟩⟩,Tv⟩⟩,Tv⟩⟩,Tv⟩⟩;all_goals exact⟨(),rfl,Qaq,⟨rfl,rfl,Tv⟩⟩
 rintro _ _ rfl;have hab:=yfw hq hr0 hr1;have hA:=zft (p:=(qa q.1 r,qa q.2 r)) ⟨I1 _ _,I1 _ _⟩;have hB:=zft (p:=(qg q.1 r,qg q.2 r)) ⟨W6 _ _,W6 _ _⟩;have hrect:∀e∈l,near q e.2 r=true->_:=λe he hn=>yiu hq (hok e he) hr0 hr1 hn;generalize zy (qa q.1 r,qa q.2 r)=A0 at*;generalize zy (qg q.1 r,qg q.2 r)=B0 at*;obtain⟨ax,ay⟩:=A0;obtain⟨bx,by'⟩:=B0;dsimp only at hab hA hB hrect⊢;refine AWp.meetA (σ:=Store×Store×AV×List Int) ⟨λ_=>[(6,.av (ptr b6))],λ_=>[],λs st'=>st'=s.1.un s.2.1/\zh s.1 s.2.1/\vg s.1 p l/\NearAt s.2.1 b3 b4 b5 b6 p q r s.2.2.1 s.2.2.2/\NearIn l q r (λ_=>True) s.2.2.2⟩ ?_ ?_
 ·obtain⟨ma,mi,bs1,cl1,G,bs2,cl2,ha,hi⟩:=hc;have hgl:(G.map Ae).length<=l.length:=by rw[Fap];exact ymj hi
  have slots:∀b:Bool,LV.le (.av (bool b)) (.av (bool b)):=λb=>Tq;refine AWp.seq (AWp.of_vc zb ?_);refine za (o:=(F.un N0).obj b3) _ (zf hN0.h3) ?_;refine za (o:=(F.un N0).obj p) _ (yj hd0 ha.hp) ?_;refine za (o:=(F.un N0).obj mi) _ (yj hd0 ha.hi) ?_;refine⟨⟨θ,θ⟩,?_⟩
  refine AWp.meet (σ:=Bool) ⟨λb=>[(3,.av (ptr b3)),(6,.av (ptr b6)),(7,.av (H1 b3 b4 b5 b6)),(8,.bx 8 0),(9,.bx 9 0),(77,.av (bool b))],λ_=>[(8,[int ax,int ay]),(9,[int bx,int by'])],
   λb st'=>st'=F.un N0⟩ zb ?_ ?_
  ·refine⟨⟨θ,θ⟩,?_⟩;refine bcd (λd1=>?_) (λd1=>?_)
   ·exact⟨true,rfl,Qaq,⟨rfl,rfl,Tv⟩⟩
   refine⟨⟨θ,θ⟩,?_⟩;refine bcd (λd2=>?_) (λd2=>?_)
   ·exact⟨true,rfl,Qaq,⟨rfl,rfl,Tv⟩⟩
   have m1:(bx-ax+1)*(by'-ay+1)<=1000000002*1000000002:=Fbc θ θ θ ψ;have m0:0<=(bx-ax+1)*(by'-ay+1):=Faw θ θ;refine⟨⟨θ,θ⟩,?_⟩;refine⟨⟨θ,θ⟩,?_⟩;refine⟨⟨θ,θ⟩,?_⟩;refine⟨⟨θ,θ⟩,?_⟩;refine⟨⟨θ,θ⟩,?_⟩;exact⟨_,rfl,⟨Tq,Tq,Tq,Tq,Tq,Tq,Tv⟩,⟨rfl,rfl,Tv⟩⟩
  rintro b _ rfl;refine AWp.of_vc zb ?_;cases b with
  |true=>
   refine za (o:=(F.un N0).obj b3) _ (zf hN0.h3) ?_;refine za (o:=(F.un N0).obj p) _ (yj hd0 ha.hp) ?_;refine ysx (yj hd0 ha.ha) (λhst=>?_);refine ysz rfl (it:=ti385) rfl rfl (yj hd0 ha.ha) (λbi hbi=>?_);have fbi:=fresh_un hbi;have nbi:¬N0.has bi:=fresh_iff.1 fbi.2;rw[Gb nbi]
   refine AWp.loop (σ:=List Nat×Store×AV×List Int) ⟨λ_=>[(6,.av (ptr b6)),(7,.av (H1 b3 b4 b5 b6)),(82,.av (ptr bi))],λ_=>[],
    λs st'=>st'=(F.sO bi (.iter ma cl1 s.1 cl1)).un s.2.1/\zh (F.sO bi (.iter ma cl1 s.1 cl1)) s.2.1/\NearAt s.2.1 b3 b4 b5 b6 p q r s.2.2.1 s.2.2.2/\s.1.Nodup/\(∀t∈s.1,t∈bs1)∧
     NearIn l q r (λe=>∃(i t:Nat),l[i]?=some e/\bs1[i]?=some t/\t∈s.1) s.2.2.2,λs=>bs1.length-s.1.length⟩ zb ?_ ?_
   ·exact⟨([],N0,_,[]),Tv,⟨rfl,nh hd0 nbi,hN0,Fds,(λt ht=>(by cases ht)),Fds,λid=>⟨(λh=>ω),λ⟨e,_,_,_,i,t,_,_,h⟩=>ω⟩⟩,⟨Tq,Tq,Tq,Tv⟩,Tv⟩
   rintro⟨seen,N,v,acc⟩ st' ⟨rfl,hd,hN,hs1,hs2,hacc⟩;dsimp only at hd hN hs1 hs2 hacc⊢;have hF1:CellsAt (F.sO bi (.iter ma cl1 seen cl1)) p ma mi l bs1 cl1 G bs2 cl2:=ha.fresh _ fbi.1;refine ys0 rfl (yj hd (zd _ _ _)) (yj hd hF1.ha) (λhall=>?_) (λi e t he ht hnt=>?_)
   ·refine⟨(F.sO bi (.iter ma cl1 seen cl1),N,v,acc),⟨rfl,hd,⟨ma,mi,_,_,_,_,_,hF1,hi⟩,hN,?_⟩,⟨Tq,Tv⟩,Tv⟩;refine hacc.congr λe he _=>⟨λ_=>trivial,λ_=>?_⟩
    obtain⟨i,hi'⟩:=Fa4.1 he;have hlt:i<bs1.length:=by have h1:=hst.len;have h2:=(Fa2.1 hi').1;rw[Fap]at h1;omega
    exact⟨i,bs1[i],hi',Fac hlt,hall _ (Faa hlt)⟩
   ·obtain⟨e0,he0,rfl⟩:∃e0,l[i]?=some e0/\Af e0=e:=by
     rw[Faq]at he;cases hx:l[i]? with
     |none=>rw[hx]at he;cases he
     |some e0=>rw[hx]at he;simp at he;exact⟨e0,rfl,he⟩
    have hem:=Fba he0;obtain⟨hd',nb⟩:=ypv (y:=.iter ma cl1 (seen++[t]) cl1) hd;have hF2:CellsAt (F.sO bi (.iter ma cl1 (seen++[t]) cl1)) p ma mi l bs1 cl1 G bs2 cl2:=ha.fresh _ fbi.1;rw[Gb nb,ym];refine ys3 rfl (yj hd' (zd _ _ _)) (yj hd' hF2.ha) he ht ?_;refine sh hd' ⟨ma,mi,_,_,_,_,_,hF2,hi⟩ hN hq hr1 (zd3 hi.n1 hem) (hok _ hem) (by have:=hacc.len;omega) _ (λN' v' hdd hN'=>?_);refine⟨(seen++[t],N',v',_),?_,⟨rfl,hdd,hN',?_,?_,?_⟩,⟨Tq,Tq,Tq,Tv⟩,Tv⟩
    ·have h1:(seen++[t]).Nodup:=by
      rw[Fc8];exact⟨hs1,φ,λa ha b hb=>by simp at hb;subst hb;exact λe=>hnt (e▸ha)⟩
     have h2:=Fbp (l₂:=bs1) h1 (λx hx=>by
      rcases Fat.1 hx with hx|hx
      ·exact hs2 x hx
      ·simp at hx;subst hx;exact Fba ht)
     rw[Fad]at h2;show bs1.length-(seen++[t]).length<bs1.length-seen.length;rw[Fad];simp at h2⊢;omega
    ·show(seen++[t]).Nodup;rw[Fc8];exact⟨hs1,φ,λa ha b hb=>by simp at hb;subst hb;exact λe=>hnt (e▸ha)⟩
    ·intro x hx;rcases Fat.1 hx with hx|hx
     ·exact hs2 x hx
     ·simp at hx;subst hx;exact Fba ht
    ·refine(hacc.step hi.n1 hem (λhh=>?_)).congr λe' he' _=>⟨λhh=>?_,λhh=>?_⟩
     ·obtain⟨i',t',h1,h2,h3⟩:=hh;have:=Fp (f:=λe:Ent=>e.1) hi.n1 h1 he0 rfl;subst this;rw[ht]at h2;cases h2;exact hnt h3
     ·rcases hh with⟨i',t',h1,h2,h3⟩|rfl
      ·exact⟨i',t',h1,h2,List.mem_append_left _ h3⟩
      ·exact⟨i,t,he0,ht,φ⟩
     ·obtain⟨i',t',h1,h2,h3⟩:=hh;rcases Fat.1 h3 with h3|h3
      ·exact .inl ⟨i',t',h1,h2,h3⟩
      ·simp at h3;subst h3;right;have hinc:=hst.inc;have:i'=i:=by
        have hn:(bs1.map id).Nodup:=by rw[List.map_id];exact hinc.imp λh e=>θ
        exact Fp (f:=id) hn h2 ht rfl
       subst this;rw[he0]at h1;cases h1;rfl
  |false=>
   refine AWp.loop (σ:=Int×Store×AV×List Int) ⟨λs=>[(3,.av (ptr b3)),(6,.av (ptr b6)),(7,.av (H1 b3 b4 b5 b6)),(8,.bx 8 0),(9,.bx 9 0),(12,.av (int s.1))],λ_=>[(8,[int ax,int ay]),(9,[int bx,int by'])],
    λs st'=>st'=F.un s.2.1/\zh F s.2.1/\NearAt s.2.1 b3 b4 b5 b6 p q r s.2.2.1 s.2.2.2/\(ax<=s.1/\s.1<=bx+1)/\NearIn l q r (λe=>(zy e.2).1<s.1) s.2.2.2,λs=>(bx+1-s.1).toNat⟩ zb ?_ ?_
   ·refine⟨(ax,N0,_,[]),Tv,⟨rfl,hd0,hN0,⟨Fcj _,θ⟩,Fds,λid=>⟨(λh=>ω),λ⟨e,he,_,hn,h⟩=>?_⟩⟩,⟨Tq,Tq,Tq,Tq,Tq,Tq,Tv⟩,⟨rfl,rfl,Tv⟩⟩;have:=hrect e he hn;dsimp only at h;omega
   rintro⟨x,N,v,acc⟩ st' ⟨rfl,hd,hN,hx,hacc⟩;dsimp only at hd hN hx hacc⊢;refine bcd (λx1=>?_) (λx1=>?_);rotate_left
   ·refine⟨(F,N,v,acc),⟨rfl,hd,⟨ma,mi,_,_,_,_,_,ha,hi⟩,hN,?_⟩,⟨Tq,Tv⟩,Tv⟩;refine hacc.congr λe he hn=>⟨λ_=>trivial,λ_=>?_⟩
    have:=hrect e he hn;omega
   refine AWp.loop (σ:=Int×Store×AV×List Int) ⟨λs=>[(3,.av (ptr b3)),(6,.av (ptr b6)),(7,.av (H1 b3 b4 b5 b6)),(8,.bx 8 0),(9,.bx 9 0),(12,.av (int x)),(13,.av (int s.1))],λ_=>[(8,[int ax,int ay]),(9,[int bx,int by'])],
    λs st'=>st'=F.un s.2.1/\zh F s.2.1/\NearAt s.2.1 b3 b4 b5 b6 p q r s.2.2.1 s.2.2.2/\(ay<=s.1/\s.1<=by'+1)/\NearIn l q r (λe=>(zy e.2).1<x\/((zy e.2).1=x/\(zy e.2).2<s.1)) s.2.2.2,λs=>(by'+1-s.1).toNat⟩ zb ?_ ?_
   ·refine⟨(ay,N,v,acc),Tv,⟨rfl,hd,hN,⟨Fcj _,θ⟩,hacc.congr λe he hn=>⟨.inl,λh=>h.elim id λh=>?_⟩⟩,Qaq,⟨rfl,rfl,Tv⟩⟩;have:=hrect e he hn;dsimp only at h;omega
   clear hN hacc hd;rintro⟨y,N,v,acc⟩ st' ⟨rfl,hd,hN,hy,hacc⟩;dsimp only at hd hN hy hacc⊢;refine bcd (λy1=>?_) (λy1=>?_);rotate_left
   ·refine⟨⟨θ,θ⟩,?_⟩;refine⟨(x+1,N,v,acc),?_,⟨rfl,hd,hN,ζ,hacc.congr λe he hn=>?_⟩,Qaq,⟨rfl,rfl,Tv⟩⟩
    ·show(bx+1-(x+1)).toNat<(bx+1-x).toNat;omega
    ·have:=hrect e he hn;dsimp only;omega
   refine za (o:=(F.un N).obj b3) _ (zf hN.h3) ?_;refine za (o:=(F.un N).obj p) _ (yj hd ha.hp) ?_;refine Ak rfl (it:=ti386) (ie:=ti63) (ik:=ti64) rfl rfl rfl rfl (yj hd ha.hi) rfl (qG x y) (λe he=>?_) ?_
   ·obtain⟨e,_,rfl⟩:=Fai.1 he;rfl
   rw[Px G (x,y),show Dq ti63=.s (.slice none 0 0)from rfl];cases hf:G.find? (G7 (x,y))with
   |none=>
    refine AWp.loop (σ:=Unit) ⟨λ_=>[(3,.av (ptr b3)),(6,.av (ptr b6)),(7,.av (H1 b3 b4 b5 b6)),(8,.bx 8 0),(9,.bx 9 0),(12,.av (int x)),(13,.av (int y)),(114,.av (int 0)),(115,.av (int 0))],λ_=>[(8,[int ax,int ay]),(9,[int bx,int by'])],
     λ_ st'=>st'=F.un N,λ_=>0⟩ zb ?_ ?_
    ·exact⟨(),Tv,rfl,Qaq,⟨rfl,rfl,Tv⟩⟩
    rintro _ st' rfl
    ·refine⟨⟨θ,θ⟩,?_⟩;refine⟨(y+1,N,v,acc),?_,⟨rfl,hd,hN,ζ,hacc.congr λe he hn=>?_⟩,Qaq,⟨rfl,rfl,Tv⟩⟩
     ·show(by'+1-(y+1)).toNat<(by'+1-y).toNat;omega
     ·have hne:zy e.2≠(x,y):=λhk=>by
       obtain⟨g,hg,hgk⟩:=hi.m2 e he;exact List.find?_eq_none.1 hf g hg (atKey_iff.2 (by rw[hgk,hk]))
      have:¬((zy e.2).1=x/\(zy e.2).2=y):=λ⟨h1,h2⟩=>hne (Prod.ext h1 h2);dsimp only;omega
   |some g=>
    obtain⟨hg,hgk⟩:=W0 hf;have hgk:=atKey_iff.1 hgk;obtain⟨k1,k2,k3⟩:=ha.hg g hg;have gs:=(hi.s g hg).1;have gl:=ni hi g hg
    refine AWp.loop (σ:=Nat×Store×AV×List Int) ⟨λs=>[(3,.av (ptr b3)),(6,.av (ptr b6)),(7,.av (H1 b3 b4 b5 b6)),(8,.bx 8 0),(9,.bx 9 0),(12,.av (int x)),(13,.av (int y)),(113,.av (.s (.slice (some ⟨g.b,0,none⟩) g.ns.length g.cap))),(114,.av (int g.ns.length)),(115,.av (int (s.1:Nat)))],
     λ_=>[(8,[int ax,int ay]),(9,[int bx,int by'])],
     λs st'=>st'=F.un s.2.1/\zh F s.2.1/\NearAt s.2.1 b3 b4 b5 b6 p q r s.2.2.1 s.2.2.2/\s.1<=g.ns.length/\NearIn l q r (λe=>((zy e.2).1<x\/((zy e.2).1=x/\(zy e.2).2<y))\/(zy e.2=(x,y)/\e.1∈g.ns.take s.1)) s.2.2.2,λs=>g.ns.length-s.1⟩ zb ?_ ?_
    ·exact⟨(0,N,v,acc),Tv,⟨rfl,hd,hN,Fae _,hacc.congr λe he hn=>⟨.inl,λh=>h.elim id λh=>(by cases h.2)⟩⟩,Qaq,⟨rfl,rfl,Tv⟩⟩
    clear hN hacc hd;rintro⟨idx,N,v,acc⟩ st' ⟨rfl,hd,hN,hidx,hacc⟩;dsimp only at hd hN hidx hacc⊢;refine bcd (λz1=>?_) (λz1=>?_);rotate_left
    ·have hie:idx=g.ns.length:=θ;subst hie;refine⟨⟨θ,θ⟩,?_⟩;refine⟨(y+1,N,v,acc),?_,⟨rfl,hd,hN,ζ,hacc.congr λe he hn=>?_⟩,Qaq,⟨rfl,rfl,Tv⟩⟩
     ·show(by'+1-(y+1)).toNat<(by'+1-y).toNat;omega
     ·rw[Fal];have h1:zy e.2=(x,y)↔((zy e.2).1=x/\(zy e.2).2=y):=⟨λh=>by rw[h];exact⟨rfl,rfl⟩,λ⟨h1,h2⟩=>Prod.ext h1 h2⟩
      have h2:zy e.2=(x,y)->e.1∈g.ns:=λh=>(hi.m1 g hg e.1).2 ⟨e,he,rfl,by rw[h,hgk]⟩;dsimp only;constructor
      ·rintro(h|⟨h,_⟩)
       ·omega
       ·have:=h1.1 h;omega
      ·intro h;by_cases h3:zy e.2=(x,y)
       ·exact .inr ⟨h3,h2 h3⟩
       ·have h4:¬((zy e.2).1=x/\(zy e.2).2=y):=λhh=>h3 (h1.2 hh);left;omega
    have hlt:idx<g.ns.length:=θ;have hidm:g.ns[idx]∈g.ns:=Faa hlt;obtain⟨e,hem,heid,hek⟩:=(hi.m1 g hg g.ns[idx]).1 hidm;refine⟨idx,rfl,hlt,?_⟩;refine za (o:=(F.un N).obj g.b) _ (yj hd k1) ?_;refine za (o:=List.head? _) (int e.1) (by rw[Fcc,show 0+idx*ti2.size=idx from by show 0+idx*1=idx;omega,Fau (by simpa using hlt),Faq,Fac hlt,heid];rfl) ?_;refine sh hd ⟨ma,mi,_,_,_,_,_,ha,hi⟩ hN hq hr1 (zd3 hi.n1 hem) (hok _ hem) (by have:=hacc.len;omega) _ (λN' v' hdd hN'=>?_);refine⟨⟨θ,θ⟩,?_⟩;refine⟨(idx+1,N',v',_),?_,⟨rfl,hdd,hN',hlt,?_⟩,⟨Tq,Tq,Tq,Tq,Tq,Tq,Tq,Tq,Tq,Tq,Tv⟩,⟨rfl,rfl,Tv⟩⟩
    ·show g.ns.length-(idx+1)<g.ns.length-idx;omega
    ·have hkey:zy e.2=(x,y):=by rw[hek,hgk]
     have hnot:e.1∉g.ns.take idx:=by
      rw[heid];intro hh;obtain⟨j,hj⟩:=Fa4.1 hh;have hjlt:j<idx:=by have:=(Fa2.1 hj).1;simp at this;omega
      rw[Fb5 hjlt]at hj;have h5:=Fce.1 gs j idx θ hlt hjlt;rw[Fac θ]at hj;have hj':=Option.some.inj hj;rw[hj']at h5;exact absurd h5 (Int.lt_irrefl _)
     refine(hacc.step hi.n1 hem (λhh=>?_)).congr λe' he' _=>?_
     ·rcases hh with hh|⟨_,hh⟩
      ·rw[hkey]at hh;dsimp only at hh;omega
      ·exact hnot hh
     ·dsimp only;rw[Fab hlt,Fat];constructor
      ·rintro((h|⟨h,h'⟩)|rfl)
       ·exact .inl h
       ·exact .inr ⟨h,.inl h'⟩
       ·exact .inr ⟨hkey,.inr (by simp[heid])⟩
      ·rintro(h|⟨h,h'|h'⟩)
       ·exact .inl (.inl h)
       ·exact .inl (.inr ⟨h,h'⟩)
       ·right;have:e'.1=e.1:=by rw[heid];simpa using h'
        exact Pm hi.n1 hem he' this
 ·rintro⟨F',N,v,acc⟩ st' ⟨rfl,hd,hc',hN,hacc⟩;dsimp only at hd hc' hN hacc⊢;refine AWp.of_vc zb ?_;refine za (o:=(F'.un N).obj b6) _ (zf hN.h6) ?_;have hms:=yjb hacc.1;have hnear:Rq l q r (acc.mergeSort λx y=>decide (x<=y)):=⟨hms.1,λid=>by
   rw[hms.2,hacc.2 id];constructor
   ·rintro⟨e,h1,h2,h3,_⟩;exact⟨e,h1,h2,h3⟩
   ·rintro⟨e,h1,h2,h3⟩;exact⟨e,h1,h2,h3,Tv⟩⟩
  have hal:=hacc.len;have hml:(acc.mergeSort λx y=>decide (x<=y)).length=acc.length:=List.length_mergeSort acc;rcases Pg hN.hv with⟨rfl,rfl⟩|⟨b,cap,L,rfl,ho,h1,h2,h3⟩
  ·refine zzd _ ?_;refine za (o:=(F'.un N).obj b6) _ (zf hN.h6) ?_;refine j4 (i:=ti63) (v:=.s (.slice none 0 0)) (b:=b6) (o:=0) (l:=[.s (.slice none 0 0)]) rfl rfl rfl (zf hN.h6) (Fak _) ?_;refine za (o:=Store.obj (Store.sO _ b6 _) b6) _ (zd _ _ _) ?_;refine ret ?_;rw[zz];exact h F' _ _ _ hc' (Ni hd hN.h6) (.inl ⟨rfl,φ⟩) hnear
  ·refine zzc (zf ho) θ _ ?_;have hb6:b6≠b:=Ne.symm (hN.nv b _ _ rfl).2.2.2;have h6:((F'.un N).sO b (.cells ((acc.mergeSort λx y=>decide (x<=y)).map aI++L))).obj b6=some (.cells [.s (.slice (some ⟨b,0,none⟩) acc.length cap)]):=by rw[zg hb6];exact zf hN.h6
   refine za (o:=Store.obj (Store.sO _ b _) b6) _ h6 ?_;refine j4 (i:=ti63) (v:=.s (.slice (some ⟨b,0,none⟩) acc.length cap)) (b:=b6) (o:=0) (l:=[.s (.slice (some ⟨b,0,none⟩) acc.length cap)]) rfl rfl rfl h6 (Fak _) ?_;refine za (o:=Store.obj (Store.sO _ b6 _) b6) _ (zd _ _ _) ?_;refine ret ?_;rw[zz,zz];refine h F' _ _ _ hc' (Ni (Ni hd ho) (by rw[zg hb6];exact hN.h6)) (.inr ⟨b,cap,L,?_,?_,?_,?_,h3⟩) hnear
   ·rw[hml];rfl
   ·rw[zg (Ne.symm hb6)];exact zd _ _ _
   ·omega
   ·omega
theorem yla(l:List Int)(hl:l.length<=1000000000000)(fn:FuncId)(cap:List AV)(q:Int->Bool)(st:Store)(hf:∀x∈l,∀R:AV->Store->Prop,R (bool (q x)) st->Jb fn ([int x]++cap) st R)
  (R:Ja) (h:R (int (Fz (l.findIdx? q))) st):Jb 418 [lst 1 zv l,.clos fn cap] st R:=by
 refine Qa (c:=cfg 19) zb Tryz.func418 ?_
 refine AWp.loop (σ:=Nat) ⟨λi=>[(0,.av (lst 1 zv l)),(1,.av (.clos fn cap)),(7,.av (int (l.length:Nat))),(8,.av (int (i:Nat)))],λ_=>[],
  λi st'=>i<=l.length/\st'=st/\∀j,(hj:j<l.length)->j<i->q l[j]=false,λi=>l.length-i⟩ zb ?_ ?_
 ·refine⟨0,Tv,⟨Fae _,rfl,λj _ hj=>θ⟩,⟨Tq,Tq,?_,Tq,Tv⟩,Tv⟩;rw[<-zj (f:=zv) l];exact Tq
 rintro i st' ⟨hi,rfl,hall⟩;refine bcd (λh1=>?_) (λh1=>?_);rotate_left
 ·have e:l.findIdx? q=none:=by
   rw[Fb3];intro x hx;obtain⟨j,hj,rfl⟩:=Faj hx;exact hall j hj θ
  rw[e]at h;exact ret h
 have hlt:i<l.length:=θ;refine⟨i,rfl,za _ (zq hlt) ?_⟩;refine hf l[i] (Faa hlt) _ ?_;refine zk (λh2=>?_) (λh2=>?_)
 ·have e:l.findIdx? q=some i:=by
   rw[Fbb];exact⟨hlt,h2,λj hj=>by rw[hall j θ hj];decide⟩
  rw[e]at h;exact ret h
 ·refine Qd ?_;refine⟨i+1,?_,⟨θ,rfl,λj hj hj2=>?_⟩,Qaq,Tv⟩
  ·show l.length-(i+1)<l.length-i;omega
  ·by_cases e:j=i
   ·subst e;exact h2
   ·exact hall j hj θ
theorem ylb(l:List Int)(hl:l.length<=1000000000000)(fn:FuncId)(cap:List AV)(q:Int->Bool)(st:Store)(hf:∀x∈l,∀R:AV->Store->Prop,R (bool (q x)) st->Jb fn ([int x]++cap) st R)
  (R:Ja) (h:R (bool (l.any q)) st):Jb 357 [lst 1 zv l,.clos fn cap] st R:=by
 refine Qa (c:=cfg 9) zb Tryz.func357 ?_;refine yla l hl fn cap q st hf _ ?_;have e:decide ((0:Int)<=Fz (l.findIdx? q))=l.any q:=by
  cases hx:l.findIdx? q with
  |none=>
   rw[Fb3]at hx;rw[show decide ((0:Int)<=Fz none)=false from ψ];symm;rw[Fdq];intro x hm;rw[hx x hm];decide
  |some i=>
   rw[Fbb]at hx;obtain⟨hi,h1,_⟩:=hx;rw[show decide ((0:Int)<=Fz (some i))=true from by simp[Fz]];symm;rw[List.any_eq_true];exact⟨l[i],Faa hi,h1⟩
 rw[<-e]at h;exact ret h
theorem zf7(l:List Bld)(hl:l.length<=1000000000000)(fn:FuncId)(cap:List AV)(q:Bld->Bool)(st:Store)(hf:∀x∈l,∀R:AV->Store->Prop,R (bool (q x)) st->Jb fn ([.agg (zi x)]++cap) st R)
  (R:Ja) (h:R (int (Fz (l.findIdx? q))) st):Jb 270 [lst 6 zi l,.clos fn cap] st R:=by
 refine Qa (c:=cfg 19) zb Tryz.func270 ?_
 refine AWp.loop (σ:=Nat) ⟨λi=>[(0,.av (lst 6 zi l)),(1,.av (.clos fn cap)),(7,.av (int (l.length:Nat))),(8,.av (int (i:Nat)))],λ_=>[],
  λi st'=>i<=l.length/\st'=st/\∀j,(hj:j<l.length)->j<i->q l[j]=false,λi=>l.length-i⟩ zb ?_ ?_
 ·refine⟨0,Tv,⟨Fae _,rfl,λj _ hj=>θ⟩,⟨Tq,Tq,?_,Tq,Tv⟩,Tv⟩;rw[<-zj (f:=zi) l];exact Tq
 rintro i st' ⟨hi,rfl,hall⟩;refine bcd (λh1=>?_) (λh1=>?_);rotate_left
 ·have e:l.findIdx? q=none:=by
   rw[Fb3];intro x hx;obtain⟨j,hj,rfl⟩:=Faj hx;exact hall j hj θ
  rw[e]at h;exact ret h
 have hlt:i<l.length:=θ;refine⟨i,rfl,za _ (zq hlt) ?_⟩;refine hf l[i] (Faa hlt) _ ?_;refine zk (λh2=>?_) (λh2=>?_)
 ·have e:l.findIdx? q=some i:=by
   rw[Fbb];exact⟨hlt,h2,λj hj=>by rw[hall j θ hj];decide⟩
  rw[e]at h;exact ret h
 ·refine Qd ?_;refine⟨i+1,?_,⟨θ,rfl,λj hj hj2=>?_⟩,Qaq,Tv⟩
  ·show l.length-(i+1)<l.length-i;omega
  ·by_cases e:j=i
   ·subst e;exact h2
   ·exact hall j hj θ
theorem zf8(l:List Bld)(hl:l.length<=1000000000000)(fn:FuncId)(cap:List AV)(q:Bld->Bool)(st:Store)(hf:∀x∈l,∀R:AV->Store->Prop,R (bool (q x)) st->Jb fn ([.agg (zi x)]++cap) st R)
  (R:Ja) (h:R (bool (l.any q)) st):Jb 179 [lst 6 zi l,.clos fn cap] st R:=by
 refine Qa (c:=cfg 9) zb Tryz.func179 ?_;refine zf7 l hl fn cap q st hf _ ?_;have e:decide ((0:Int)<=Fz (l.findIdx? q))=l.any q:=by
  cases hx:l.findIdx? q with
  |none=>
   rw[Fb3]at hx;rw[show decide ((0:Int)<=Fz none)=false from ψ];symm;rw[Fdq];intro x hm;rw[hx x hm];decide
  |some i=>
   rw[Fbb]at hx;obtain⟨hi,h1,_⟩:=hx;rw[show decide ((0:Int)<=Fz (some i))=true from by simp[Fz]];symm;rw[List.any_eq_true];exact⟨l[i],Faa hi,h1⟩
 rw[<-e]at h;exact ret h
theorem yod(g:Gnd)(p:Nat)(t:Nat)(ht:t<g.T.length)(st:Store)(hp:st.obj p=some (.cells (zu g)))(R:Ja)(h:R (bool (decide ((g.T.getD t 0).toNat>1))) st):
  Jb 358 ([int (t:Nat)]++[ptr p]) st R:=by
 have hget:g.T.getD t 0=g.T[t]:=by simp[ht]
 rw[hget]at h;refine Qa (c:=cfg 10) zb Tryz.func358 ?_;refine za _ hp ?_;refine⟨t,rfl,za _ (zq ht) ?_⟩;refine ret ?_;have e:decide ((1:Int)<(g.T[t].toNat:Int))=decide (g.T[t].toNat>1):=δ;rw[<-e]at h;exact h
theorem zge(g:Gnd)(hg:zt g)(b:Bld)(hb:yk b/\onP g b)(st:Store)(R:Ja)(h:∀z:Bool,(z=true↔Fa g b)->R (bool z) st):
  Jb 268 [.agg (zu g),.agg (zi b)] st R:=by
 have hm:=qm hg;refine Qa (c:=cfg 11 [2] []) zb Tryz.func268 ?_;intro p hp;have ho:(st.sO p (.cells (zu g))).obj p=some (.cells (zu g)):=zd _ _ _;refine za _ ho ?_;refine R6 g hg b hb _ _ ?_;have hl:(Am g.W b).length<=1000000000000:=by unfold Am;rw[dw];have hb':=hb.1;unfold yk at hb';have:b.h.toNat*b.w.toNat<=4*4:=Fdr θ θ;omega
 refine ylb (Am g.W b) hl _ _ (λx=>decide ((g.T.getD x.toNat 0).toNat>1)) _ (λx hx R h=>?_) _ ?_
 ·obtain⟨n,rfl,hn,hh⟩:=(Hj hg hb.1 hb.2 x).1 hx;exact yod g p n θ _ ho R δ
 refine Cw (Tt) (C0 hp.1) (h _ ?_);unfold Fa;rw[Fb9,Fdq];constructor
 ·intro hh t ht hb2;have:=hh (t:Int) ((Hj hg hb.1 hb.2 _).2 ⟨t,rfl,θ,hb2⟩);grind
 ·intro hh x hx;obtain⟨n,rfl,hn,hb2⟩:=(Hj hg hb.1 hb.2 x).1 hx;grind
def blV(b n:Nat):AV:=.s (.slice (some ⟨b,0,none⟩) n n)
theorem yp9(g:Gnd)(hg:zt g)(l:List Bld)(hl:l.length<=1000000000000)(hb:∀b∈l,yk b/\onP g b)(st:Store)(R:Ja)
  (h:∀b,Fresh st b->R (blV b g.T.length) (st.sO b (.cells (bl g.T.length (qx g l))))):Jb 313 [.agg (zu g),lst 6 zi l] st R:=by
 have ha:=qm hg;have hT:((rws u8C g.T).length:Int)=(g.T.length:Int):=θc;refine Qa (c:=cfg 34) zb Tryz.func313 ?_;refine I7 rfl (it:=ti68) (ie:=ti4) rfl rfl rfl rfl rfl (n:=(rws u8C g.T).length) ?_ ?_ (λb hf=>?_)
 ·rw[zj];show 1*_<=_;omega
 ·omega
 rw[zj,Rk]
 refine AWp.loop (σ:=Nat) ⟨λi=>[(2,.bx 2 0),(5,.av (blV b g.T.length)),(14,.av (lst 6 zi l)),(15,.av (int (l.length:Nat))),(16,.av (int (i:Nat)))],λ_=>[(2,zu g)],
  λi st'=>i<=l.length/\st'=st.sO b (.cells (bl g.T.length (qx g (l.take i)))),λi=>l.length-i⟩ zb ?_ ?_
 ·refine⟨0,Tv,⟨Fae _,rfl⟩,⟨Tq,Tq,Tq,?_,Tq,Tv⟩,⟨rfl,Tv⟩⟩;rw[<-zj (f:=zi) l];exact Tq
 rintro i st' ⟨hi,rfl⟩;refine bcd (λh1=>?_) (λh1=>?_);rotate_left
 ·have:i=l.length:=θ;subst this;rw[Fal];exact ret (h b hf)
 have hlt:i<l.length:=θ;have hbi:=hb l[i] (Faa hlt);refine⟨i,rfl,za _ (zq hlt) ?_⟩;refine R6 g hg l[i] hbi _ _ ?_;have hcov:=λ(t:Nat) (ht:t<g.T.length)=>ze7 hg hlt hbi ht;have hmem:=Hj hg hbi.1 hbi.2;have h0:=ze5 g l i (Am g.W l[i]);have hts:=dz g.W hbi.1;generalize Am g.W l[i]=ts at*
 refine AWp.loop (σ:=Nat) ⟨λk=>[(2,.bx 2 0),(5,.av (blV b g.T.length)),(14,.av (lst 6 zi l)),(15,.av (int (l.length:Nat))),(16,.av (int (i:Nat))),(22,.av (yh ts)),(23,.av (int (ts.length:Nat))),(24,.av (int (k:Nat)))],λ_=>[(2,zu g)],
  λk st'=>k<=ts.length/\st'=st.sO b (.cells (bl g.T.length (vw g l i ts k))),λk=>ts.length-k⟩ zb ?_ ?_
 ·refine⟨0,Tv,⟨Fae _,?_⟩,⟨Tq,Tq,Tq,Tq,Tq,Tq,?_,Tq,Tv⟩,⟨rfl,Tv⟩⟩
  ·rw[show vw g l i ts 0=qx g (l.take i)from funext h0]
  ·rw[<-zj (f:=zv) ts];exact Tq
 rintro k st' ⟨hk,rfl⟩;refine bcd (λh2=>?_) (λh2=>?_);rotate_left
 ·have:k=ts.length:=θ;subst this;refine Qd ?_;refine⟨i+1,?_,⟨θ,?_⟩,Qaq,⟨rfl,Tv⟩⟩
  ·grind
  grind[bl,List.map_congr_left]
 have hklt:k<ts.length:=θ;obtain⟨n,hn,hn2,hn3⟩:=(hmem ts[k]).1 (Faa hklt);have hnl:n<g.T.length:=θ;obtain⟨s1,s2⟩:=ze6 (g:=g) (l:=l) (i:=i) hklt hn;refine⟨k,rfl,za _ (zq hklt) ?_⟩;refine⟨n,hn,hnl,?_⟩;refine qd (i:=ti4) (v:=bool true) (b:=b) (o:=0+n*1) (l:=bl g.T.length (vw g l i ts k)) (st2:=st.sO b (.cells (bl g.T.length (vw g l i ts (k+1))))) rfl rfl rfl (zd _ _ _) θd ?_ ?_
 ·grind[ym,Ht]
 refine Qd ?_;refine⟨k+1,?_,⟨θ,rfl⟩,Qaq,⟨rfl,Tv⟩⟩;grind
theorem gp(n:Nat)(f:Nat->Bool):(rws qv (blL n f)).flatten++[]=bl n f:=by rw[Fbn,yr0]
def opV(g:Gnd)(l:List Bld)(c:Int):AV:=lst 1 qv (blL g.T.length (yq g l c))
def je(g:Gnd)(l:List Bld)(c:Int)(i t:Nat):Bool:=if t<i then yq g l c t else qx g l t
theorem Lk(g:Gnd)(hg:zt g)(l:List Bld)(hl:l.length<=1000000000000)(hb:∀b∈l,yk b/\onP g b)(c:Int)(st:Store)(R:Ja)(h:R (opV g l c) st):
  Jb 207 [.agg (zu g),lst 6 zi l,int c] st R:=by
 have ha:=qm hg;refine Qb (c:=cfg 37) zb Tryz.func207 ?_;refine AWp.seq (AWp.of_vc zb ?_);refine AWp.seq (AWp.of_vc zb ?_);refine yp9 g hg l hl hb _ _ (λb hf=>?_);have step:∀i,i<g.T.length->je g l c (i+1) i=yq g l c i/\∀s,s≠i->je g l c (i+1) s=je g l c i s:=λi hi=>by unfold je;grind
 refine AWp.meetA (σ:=Unit) ⟨λ_=>[(7,.av (blV b g.T.length))],λ_=>[],λ_ st'=>st'=st.sO b (.cells (bl g.T.length (yq g l c)))⟩ ?_ ?_
 ·refine AWp.of_vc zb ?_
  refine AWp.loop (σ:=Nat) ⟨λi=>[(2,.av (int c)),(3,.bx 3 0),(7,.av (blV b g.T.length)),(13,.av (blV b g.T.length)),(14,.av (int (g.T.length:Nat))),(15,.av (int (i:Nat)))],λ_=>[(3,zu g)],
   λi st'=>i<=g.T.length/\st'=st.sO b (.cells (bl g.T.length (je g l c i))),λi=>g.T.length-i⟩ zb ?_ ?_
  ·refine⟨0,Tv,⟨Fae _,?_⟩,Qaq,⟨rfl,Tv⟩⟩;rfl
  rintro i st' ⟨hi,rfl⟩;refine bcd (λh1=>?_) (λh1=>?_);rotate_left
  ·have:i=g.T.length:=θ;subst this;refine⟨(),?_,⟨Tq,Tv⟩,Tv⟩;have:bl g.T.length (je g l c g.T.length)=bl g.T.length (yq g l c):=by simp_all[bl,je]
   rw[this]
  have hlt:i<g.T.length:=θ;obtain⟨s1,s2⟩:=step i hlt;have ho:(st.sO b (.cells (bl g.T.length (je g l c i)))).obj b=some (.cells (bl g.T.length (je g l c i))):=zd _ _ _;have hmid:je g l c i i=qx g l i:=if_neg (Nat.lt_irrefl i);have hhead:((bl g.T.length (je g l c i)).drop (0+i*1)).head?=some (bool (qx g l i)):=by grind[List.head?_drop,Hu]
  refine⟨i,rfl,hlt,?_⟩;refine za _ ho (za _ hhead ?_);have hti:g.T[i].toNat<=5:=hg.2.2.2 _ (Faa hlt);have hget:g.T.getD i 0=g.T[i]:=by simp[hlt]
  refine zk (λc1=>?_) (λc1=>?_)
  ·have c1:qx g l i=false:=by grind
   refine⟨i,rfl,za _ (zq hlt) ?_⟩;refine gg c g.T[i] hti _ _ ?_;have hz:decide (0<Bt c g.T[i].toNat)=yq g l c i:=by unfold yq;grind
   refine⟨i,rfl,hlt,?_⟩;refine qd (i:=ti4) (v:=bool (decide (0<Bt c g.T[i].toNat))) (b:=b) (o:=0+i*1) (l:=_) (st2:=st.sO b (.cells (bl g.T.length (je g l c (i+1))))) rfl rfl rfl ho θd (by grind[ym,Ht]) ?_;refine Qd ?_;refine⟨i+1,?_,⟨θ,rfl⟩,Qaq,⟨rfl,Tv⟩⟩;grind
  ·have c1:qx g l i=true:=by grind
   have hz:false=yq g l c i:=by unfold yq;grind
   refine⟨i,rfl,hlt,?_⟩;refine qd (i:=ti4) (v:=bool false) (b:=b) (o:=0+i*1) (l:=_) (st2:=st.sO b (.cells (bl g.T.length (je g l c (i+1))))) rfl rfl rfl ho θd (by grind[ym,Ht]) ?_;refine Qd ?_;refine⟨i+1,?_,⟨θ,rfl⟩,Qaq,⟨rfl,Tv⟩⟩;grind
 ·rintro _ _ rfl;refine AWp.freeze (d:=7) (b:=b) (k:=1) (n:=g.T.length) (cap:=g.T.length) (rows:=rws qv (blL g.T.length (yq g l c))) (pad:=[]) rfl ?_ ?_ ?_ (Fak _) ?_ ?_ ?_
  ·grind[gp,zd]
  ·exact hf.2
  ·rw[zj,C8]
  ·intro row hr;obtain⟨x,_,rfl⟩:=Fai.1 hr;rfl
  ·intro row hr y hy;obtain⟨x,_,rfl⟩:=Fai.1 hr;simp[qv]at hy;exact⟨_,hy,rfl⟩
  rw[bc hf.1];refine AWp.of_vc zb ?_;exact ret h
theorem yrk(g:Gnd)(hg:zt g)(l:List Bld)(hl:l.length<=1000000000000)(st:Store)(R:Ja)
  (h:∀z:Bool,(z=true↔Hs g l)->R (bool z) st):Jb 178 [.agg (zu g),lst 6 zi l] st R:=by
 have ha:=qm hg;have hT:((rws u8C g.T).length:Int)=(g.T.length:Int):=θc;have hL:((rws zi l).length:Int)=(l.length:Int):=θc;have no:¬Hs g l->R (bool false) st:=λhn=>h false (by simp[hn]);refine Qa (c:=cfg 60) zb Tryz.func178 ?_;refine bcd (λc1=>ret (no λq=>γ)) (λc1=>?_);refine yro l hl _ _ (λz hz=>?_);refine yi ?_;refine zk (λc2=>?_) (λc2=>ret (no λq=>by have:=hz.2 q.2.1;grind));have hr:=hz.1 c2;refine I7 rfl (it:=ti68) (ie:=ti4) rfl rfl rfl rfl rfl (n:=(rws u8C g.T).length) ?_ ?_ (λb hf=>?_)
 ·rw[zj];show 1*_<=_;omega
 ·omega
 rw[zj (f:=u8C) g.T,Rk];have hhas:∀f:Nat->Bool,(st.sO b (.cells (bl g.T.length f))).Has st:=λf=>C0 hf.1
 refine AWp.loop (σ:=Nat) ⟨λi=>[(2,.bx 2 0),(5,.av (blV b g.T.length)),(22,.av (lst 6 zi l)),(23,.av (int (l.length:Nat))),(24,.av (int (i:Nat)))],λ_=>[(2,zu g)],
  λi st'=>i<=l.length/\st'=st.sO b (.cells (bl g.T.length (qx g (l.take i))))/\bp g l i,λi=>l.length-i⟩ zb ?_ ?_
 ·refine⟨0,Tv,⟨Fae _,rfl,λj _ hj=>θ⟩,⟨Tq,Tq,Tq,?_,Tq,Tv⟩,⟨rfl,Tv⟩⟩;rw[<-zj (f:=zi) l];exact Tq
 rintro i st' ⟨hi,rfl,hup⟩;refine bcd (λh1=>?_) (λh1=>?_);rotate_left
 ·have:i=l.length:=θ;subst this;have hall:=zf0 hup;exact Cw (Tt) (hhas _) (h true (by simp;exact⟨θ,hr,hall.1,hall.2⟩))
 have hlt:i<l.length:=θ;have nof:¬Hs g l->∃r st',AV.le (bool false) r/\(st.sO b (.cells (bl g.T.length (qx g (l.take i))))).Has st'/\R r st':=λhn=>Cw (Tt) (hhas _) (no hn);refine⟨i,rfl,za _ (zq hlt) ?_⟩;refine zgd l[i] _ _ (λz1 hz1=>?_);refine yi ?_;refine zk (λc3=>?_) (λc3=>nof λq=>by have:=hz1.2 (q.2.2.1 _ (Faa hlt)).1;grind);have hb1:=hz1.1 c3;refine zf4 g l[i] hg hb1 _ _ (λz2 hz2=>?_);refine yi ?_;refine zk (λc4=>?_) (λc4=>nof λq=>by have:=hz2.2 (q.2.2.1 _ (Faa hlt)).2.1;grind);have hb2:=hz2.1 c4;refine zge g hg l[i] ⟨hb1,hb2⟩ _ _ (λz3 hz3=>?_);refine yi ?_;refine zk (λc5=>?_) (λc5=>nof λq=>by have:=hz3.2 (q.2.2.1 _ (Faa hlt)).2.2;grind);have hb3:=hz3.1 c5;have hbi:yk l[i]/\onP g l[i]:=⟨hb1,hb2⟩
 refine R6 g hg l[i] hbi _ _ ?_;have hcov:=λ(t:Nat) (ht:t<g.T.length)=>ze7 hg hlt hbi ht;have hmem:=Hj hg hbi.1 hbi.2;have h0:=ze5 g l i (Am g.W l[i]);have hts:=dz g.W hbi.1;have hcm:=yqa hg hlt hbi hup;have hso:=zjs hg hbi;generalize Am g.W l[i]=ts at*
 refine AWp.loop (σ:=Nat) ⟨λk=>[(2,.bx 2 0),(5,.av (blV b g.T.length)),(22,.av (lst 6 zi l)),(23,.av (int (l.length:Nat))),(24,.av (int (i:Nat))),(45,.av (yh ts)),(46,.av (int (ts.length:Nat))),(47,.av (int (k:Nat)))],λ_=>[(2,zu g)],
  λk st'=>k<=ts.length/\st'=st.sO b (.cells (bl g.T.length (vw g l i ts k)))/\∀m,(hm:m<ts.length)->m<k->qx g (l.take i) ts[m].toNat=false,λk=>ts.length-k⟩ zb ?_ ?_
 ·refine⟨0,Tv,⟨Fae _,?_,λm _ hm=>θ⟩,⟨Tq,Tq,Tq,Tq,Tq,Tq,?_,Tq,Tv⟩,⟨rfl,Tv⟩⟩
  ·rw[show vw g l i ts 0=qx g (l.take i)from funext h0]
  ·rw[<-zj (f:=zv) ts];exact Tq
 rintro k st' ⟨hk,rfl,hno⟩;refine bcd (λh2=>?_) (λh2=>?_);rotate_left
 ·have:k=ts.length:=θ;subst this;refine Qd ?_;refine⟨i+1,?_,⟨θ,?_,λj hj hji=>?_⟩,Qaq,⟨rfl,Tv⟩⟩
  ·grind
  ·grind[bl,List.map_congr_left]
  ·by_cases e:j=i
   ·subst e;refine⟨⟨hb1,hb2,hb3⟩,λm hm hmt=>?_⟩;obtain⟨t,ht,hc⟩:=hcm.2 ⟨m,hm,hmt⟩;obtain⟨q,hq,rfl⟩:=Faj ht;grind
   ·exact hup j hj θ
 have hklt:k<ts.length:=θ;obtain⟨n,hn,hn2,hn3⟩:=(hmem ts[k]).1 (Faa hklt);have hnl:n<g.T.length:=θ;obtain⟨s1,s2⟩:=ze6 (g:=g) (l:=l) (i:=i) hklt hn;have hnk:vw g l i ts k n=qx g (l.take i) n:=by
  unfold vw;have:(ts.take k).contains (n:Int)=false:=by grind[yik]
  grind
 refine⟨k,rfl,za _ (zq hklt) ?_⟩;have ho:(st.sO b (.cells (bl g.T.length (vw g l i ts k)))).obj b=some (.cells (bl g.T.length (vw g l i ts k))):=zd _ _ _;have hhead:((bl g.T.length (vw g l i ts k)).drop (0+n*1)).head?=some (V.bool (qx g (l.take i) n)):=by grind[List.head?_drop,Hu]
 refine⟨n,hn,hnl,?_⟩;refine za _ ho (za _ hhead ?_);refine zk (λc6=>?_) (λc6=>?_)
 ·refine Cw (Tt) (hhas _) (no λq=>?_);obtain⟨m,hm,hmt⟩:=hcm.1 ⟨ts[k],Faa hklt,δ⟩;exact q.2.2.2 i hlt m hm hmt
 refine⟨n,hn,hnl,?_⟩;refine qd (i:=ti4) (v:=bool true) (b:=b) (o:=0+n*1) (l:=bl g.T.length (vw g l i ts k)) (st2:=st.sO b (.cells (bl g.T.length (vw g l i ts (k+1))))) rfl rfl rfl (zd _ _ _) θd ?_ ?_
 ·grind[ym,Ht]
 refine Qd ?_;refine⟨k+1,?_,⟨θ,rfl,λm hm hmk=>?_⟩,Qaq,⟨rfl,Tv⟩⟩
 ·grind
 grind
theorem yf4(g:Gnd)(hgf:g.fits)(l:List Bld)(hl:l.length<=1000000000000)(st:Store)(R:Ja)
  (h:∀z:Bool,(z=true↔zt g/\Hs g l)->R (bool z) st):Jb 101 [.agg (zu g),lst 6 zi l] st R:=by
 have hL:((rws zi l).length:Int)=(l.length:Int):=θc;have no:¬(zt g/\Hs g l)->R (bool false) st:=λhn=>h false θ0;refine Qa (c:=cfg 64) zb Tryz.func101 ?_;refine ymk g hgf _ _ (λz hz=>?_);refine yi ?_;refine zk (λc0=>?_) (λc0=>ret (no λq=>by have:=hz.2 q.1;rw[this]at c0;cases c0));have hg:=hz.1 c0;refine bcd (λc1=>ret (no λq=>by have:=q.2.1;omega)) (λc1=>?_);refine yfg l hl _ _ (λz hz=>?_);refine yi ?_;refine zk (λc2=>?_) (λc2=>ret (no λq=>by have:=hz.2 q.2.2.1;rw[this]at c2;cases c2));have hr:=hz.1 c2
 refine AWp.loop (σ:=Nat) ⟨λi=>[(1,.av (lst 6 zi l)),(2,.bx 2 0),(5,.av (int (i:Nat)))],λ_=>[(2,zu g)],
  λi st'=>i<=l.length/\st'=st/\bp g l i,λi=>l.length-i⟩ zb ?_ ?_
 ·exact⟨0,Tv,⟨Fae _,rfl,λj _ hj=>θ⟩,Qaq,⟨rfl,Tv⟩⟩
 rintro i st' ⟨hi,rfl,hup⟩;refine bcd (λh1=>?_) (λh1=>?_);rotate_left
 ·have:i=l.length:=θ;subst this;have hall:=zf0 hup;exact ret (h true (by simp only[true_iff];exact⟨hg,θ,hr,hall.1,hall.2⟩))
 have hlt:i<l.length:=θ;refine Qc zb ydx ?_;refine⟨i,rfl,za _ (zq hlt) ?_⟩;have nof:¬(yk l[i]/\onP g l[i]/\Fa g l[i])->R (bool false) st':=λhn=>no λq=>hn (q.2.2.2.1 _ (Faa hlt));refine⟨zzn l[i] _ _ (λz1 hz1=>⟨Tv,?_⟩),Tv⟩;refine yi ?_;refine zk (λc3=>?_) (λc3=>⟨⟨Tv,⟨⟨Tv,ret (nof λq=>by have:=hz1.2 q.1;rw[this]at c3;cases c3)⟩,Tv⟩⟩,Tv⟩);have hb1:=hz1.1 c3;refine⟨i,rfl,za _ (zq hlt) ?_⟩;refine⟨ye3 g l[i] hg hb1 _ _ (λz2 hz2=>⟨Tv,?_⟩),Tv⟩;refine yi ?_;refine zk (λc4=>?_) (λc4=>⟨⟨Tv,ret (nof λq=>by have:=hz2.2 q.2.1;rw[this]at c4;cases c4)⟩,Tv⟩);have hb2:=hz2.1 c4;refine⟨i,rfl,za _ (zq hlt) ?_⟩;refine⟨yfm g hg l[i] ⟨hb1,hb2⟩ _ _ (λz3 hz3=>⟨Tv,?_⟩),Tv⟩;refine yi ?_;refine zk (λc5=>?_) (λc5=>ret (nof λq=>by have:=hz3.2 q.2.2;rw[this]at c5;cases c5));have hb3:=hz3.1 c5
 refine AWp.loop (σ:=Nat) ⟨λk=>[(1,.av (lst 6 zi l)),(2,.bx 2 0),(5,.av (int (i:Nat))),(6,.av (int (k:Nat)))],λ_=>[(2,zu g)],
  λk st2=>k<=i/\st2=st'/\∀m,(hm:m<k)->(hmi:m<i)->¬vo l[i] (l[m]'θ),λk=>i-k⟩ zb ?_ ?_
 ·exact⟨0,Tv,⟨Fae _,rfl,λm hm=>θ⟩,Qaq,⟨rfl,Tv⟩⟩
 rintro k st2 ⟨hk,rfl,hno⟩;refine bcd (λh2=>?_) (λh2=>?_);rotate_left
 ·refine Qd ?_;refine⟨i+1,?_,⟨θ,rfl,λj hj hji=>?_⟩,Qaq,⟨rfl,Tv⟩⟩
  ·show l.length-(i+1)<l.length-i;omega
  ·by_cases e:j=i
   ·subst e;exact⟨⟨hb1,hb2,hb3⟩,λm hm=>hno m θ hm⟩
   ·exact hup j hj θ
 have hki:k<i:=θ;have hkl:k<l.length:=θ;have hbk:=(hup k hkl hki).1;refine Qc zb ydy ?_;refine⟨i,rfl,za _ (zq hlt) ?_⟩;refine⟨k,rfl,za _ (zq hkl) ?_⟩;refine⟨yjg g hg l[i] l[k] ⟨hb1,hb2⟩ ⟨hbk.1,hbk.2.1⟩ _ _ (λz4 hz4=>⟨Tv,?_⟩),Tv⟩;refine zk (λc6=>ret (no λq=>q.2.2.2.2 i hlt k hki (hz4.1 c6))) (λc6=>?_);refine Qd ?_;refine⟨k+1,?_,⟨θ,rfl,λm hm hmi=>?_⟩,Qaq,⟨rfl,Tv⟩⟩
 ·show i-(k+1)<i-k;omega
 ·by_cases e:m=k
  ·subst e;intro hm2;have:=hz4.2 hm2;rw[this]at c6;cases c6
  ·exact hno m θ hmi
theorem yf2(g:Gnd)(hg:zt g)(l:List Bld)(hl:l.length<=1000000000000)(hb:∀b∈l,yk b/\onP g b)(st:Store)(R:Ja)
  (h:∀b,Fresh st b->R (blV b g.T.length) (st.sO b (.cells (bl g.T.length (qx g l))))):Jb 257 [.agg (zu g),lst 6 zi l] st R:=by
 have ha:=qm hg;have hg1:=hg.1;have hg2:=hg.2.1;refine Qa (c:=cfg 70) zb Tryz.func257 ?_;refine Qd ?_;rw[<-ha.2.2];refine I7 rfl (it:=ti68) (ie:=ti4) rfl rfl rfl rfl rfl (n:=g.T.length) ?_ ?_ (λb hf=>?_)
 ·show 1*_<=_;omega
 ·omega
 rw[Rk]
 refine AWp.loop (σ:=Nat) ⟨λi=>[(1,.av (lst 6 zi l)),(2,.bx 2 0),(5,.av (blV b g.T.length)),(6,.av (int (i:Nat)))],λ_=>[(2,zu g)],
  λi st'=>i<=l.length/\st'=st.sO b (.cells (bl g.T.length (qx g (l.take i)))),λi=>l.length-i⟩ zb ?_ ?_
 ·exact⟨0,Tv,⟨Fae _,rfl⟩,Qaq,⟨rfl,Tv⟩⟩
 rintro i st' ⟨hi,rfl⟩;refine zk (λh1=>?_) (λh1=>?_);rotate_left
 ·have:i=l.length:=Aw h1 hi;subst this;rw[Fal];exact ret (h b hf)
 have hlt:i<l.length:=wo h1;have hbi:=hb l[i] (Faa hlt);have hbi':=hbi;unfold yk onP at hbi';refine⟨i,rfl,za _ (zq hlt) ?_⟩
 refine AWp.loop (σ:=Nat) ⟨λk=>[(1,.av (lst 6 zi l)),(2,.bx 2 0),(5,.av (blV b g.T.length)),(6,.av (int (i:Nat))),(7,.av (int (l[i].y+(k:Nat))))],λ_=>[(2,zu g)],
  λk st'=>k<=l[i].h.toNat/\st'=st.sO b (.cells (bl g.T.length (Cn g l i l[i] k 0))),λk=>l[i].h.toNat-k⟩ zb ?_ ?_
 ·refine⟨0,Tv,⟨Fae _,?_⟩,⟨Tq,Tq,Tq,Tq,?_,Tv⟩,⟨rfl,Tv⟩⟩
  ·rw[yqb]
  ·rw[show l[i].y+((0:Nat):Int)=l[i].y by omega];exact Tq
 rintro k st' ⟨hk,rfl⟩;refine Qc zb yb9 ?_;refine⟨i,rfl,za _ (zq hlt) ?_⟩;refine⟨i,rfl,za _ (zq hlt) ?_⟩;refine Qd ?_;refine bcd (λh2=>?_) (λh2=>?_);rotate_left
 ·have:k=l[i].h.toNat:=θ;subst this;refine Qd ?_;refine⟨i+1,?_,⟨θ,?_⟩,Qaq,⟨rfl,Tv⟩⟩
  ·show l.length-(i+1)<l.length-i;omega
  ·rw[yqe hlt θ]
 refine⟨i,rfl,za _ (zq hlt) ?_⟩
 refine AWp.loop (σ:=Nat) ⟨λm=>[(1,.av (lst 6 zi l)),(2,.bx 2 0),(5,.av (blV b g.T.length)),(6,.av (int (i:Nat))),(7,.av (int (l[i].y+(k:Nat)))),(8,.av (int (l[i].x+(m:Nat))))],λ_=>[(2,zu g)],
  λm st'=>m<=l[i].w.toNat/\st'=st.sO b (.cells (bl g.T.length (Cn g l i l[i] k m))),λm=>l[i].w.toNat-m⟩ zb ?_ ?_
 ·refine⟨0,Tv,⟨Fae _,rfl⟩,⟨Tq,Tq,Tq,Tq,Tq,?_,Tv⟩,⟨rfl,Tv⟩⟩;rw[show l[i].x+((0:Nat):Int)=l[i].x by omega];exact Tq
 rintro m st' ⟨hm,rfl⟩;refine Qc zb yb8 ?_;refine⟨i,rfl,za _ (zq hlt) ?_⟩;refine⟨i,rfl,za _ (zq hlt) ?_⟩;refine Qd ?_;refine bcd (λh3=>?_) (λh3=>?_);rotate_left
 ·have:m=l[i].w.toNat:=θ;subst this;refine Qd ?_;refine⟨k+1,?_,⟨θ,?_⟩,⟨Tq,Tq,Tq,Tq,?_,Tv⟩,⟨rfl,Tv⟩⟩
  ·show l[i].h.toNat-(k+1)<l[i].h.toNat-k;omega
  ·rw[yqd _ _ _ _ _ θ]
  ·rw[show l[i].y+((k+1:Nat):Int)=l[i].y+(k:Int)+1 by omega];exact Tq
 obtain⟨q1,q2,_⟩:=Kj hg (x:=l[i].x+m) (y:=l[i].y+k) θ θ;have q3:0<=g.W*(l[i].y+(k:Int)):=Faw θ θ;obtain⟨s1,s2⟩:=yqc hg (l:=l) (i:=i) hbi (k:=k) (m:=m) θ θ (n:=(l[i].x+(m:Int)+g.W*(l[i].y+(k:Int))).toNat) θ;refine Qd ?_;refine Qd ?_;refine⟨(l[i].x+(m:Int)+g.W*(l[i].y+(k:Int))).toNat,θ,θ,?_⟩;refine qd (i:=ti4) (v:=V.bool true) (b:=b) (o:=0+(l[i].x+(m:Int)+g.W*(l[i].y+(k:Int))).toNat*1) (l:=bl g.T.length (Cn g l i l[i] k m)) (st2:=st.sO b (.cells (bl g.T.length (Cn g l i l[i] k (m+1))))) rfl rfl rfl (zd _ _ _) θd ?_ ?_
 ·rw[ym,show∀n:Nat,0+n*1=n by omega,<-s1,Ht θ _ s2]
 refine Qd ?_;refine⟨m+1,?_,⟨θ,rfl⟩,⟨Tq,Tq,Tq,Tq,Tq,?_,Tv⟩,⟨rfl,Tv⟩⟩
 ·show l[i].w.toNat-(m+1)<l[i].w.toNat-m;omega
 ·rw[show l[i].x+((m+1:Nat):Int)=l[i].x+(m:Int)+1 by omega];exact Tq
theorem Qac{p:Prop}(h:p:=by rw[ym,show 0+i*1=i by omega,hz,<-s1,Ht hlt _ s2]):p:=h
theorem yi9(g:Gnd)(l:List Bld)(c:Int)(i:Nat):je g l c (i+1) i=yq g l c i/\∀s,s≠i->je g l c (i+1) s=je g l c i s:=by
 unfold je;refine⟨if_pos θ,λs hs=>?_⟩;by_cases h1:s<i
 ·rw[if_pos θ,if_pos h1]
 ·rw[if_neg θ,if_neg h1]
theorem yep(g:Gnd)(hg:zt g)(l:List Bld)(hl:l.length<=1000000000000)(hb:∀b∈l,yk b/\onP g b)(c:Int)(hc:c=0\/c=1\/c=2)(st:Store)(R:Ja)(h:R (opV g l c) st):
  Jb 174 [.agg (zu g),lst 6 zi l,int c] st R:=by
 have ha:=qm hg;refine Qb (c:=cfg 37) zb Tryz.func174 ?_;refine AWp.seq (AWp.of_vc zb ?_);refine AWp.seq (AWp.of_vc zb ?_);refine yf2 g hg l hl hb _ _ (λb hf=>?_);refine AWp.meetA (σ:=Unit) ⟨λ_=>[(7,.av (blV b g.T.length))],λ_=>[],λ_ st'=>st'=st.sO b (.cells (bl g.T.length (yq g l c)))⟩ ?_ ?_
 ·refine AWp.of_vc zb ?_
  refine AWp.loop (σ:=Nat) ⟨λi=>[(2,.av (int c)),(3,.bx 3 0),(7,.av (blV b g.T.length)),(8,.av (int (i:Nat)))],λ_=>[(3,zu g)],
   λi st'=>i<=g.T.length/\st'=st.sO b (.cells (bl g.T.length (je g l c i))),λi=>g.T.length-i⟩ zb ?_ ?_
  ·refine⟨0,Tv,⟨Fae _,?_⟩,Qaq,⟨rfl,Tv⟩⟩;rw[show je g l c 0=qx g l from funext λt=>if_neg (Fa3 t)]
  rintro i st' ⟨hi,rfl⟩;refine bcd (λh1=>?_) (λh1=>?_);rotate_left
  ·have:i=g.T.length:=θ;subst this;refine⟨(),?_,⟨Tq,Tv⟩,Tv⟩;have:bl g.T.length (je g l c g.T.length)=bl g.T.length (yq g l c):=by
    unfold bl je;exact Fb0 λt ht=>by rw[if_pos (Fbe.1 ht)]
   rw[this]
  have hlt:i<g.T.length:=θ;obtain⟨s1,s2⟩:=yi9 g l c i;have ho:(st.sO b (.cells (bl g.T.length (je g l c i)))).obj b=some (.cells (bl g.T.length (je g l c i))):=zd _ _ _;have hmid:je g l c i i=qx g l i:=if_neg (Nat.lt_irrefl i);have hhead:((bl g.T.length (je g l c i)).drop (0+i*1)).head?=some (V.bool (qx g l i)):=by rw[Fcc,show 0+i*1=i by omega,Hu hlt,hmid]
  refine⟨i,rfl,hlt,?_⟩;refine za _ ho (za _ hhead ?_);have hti:g.T[i].toNat<=5:=hg.2.2.2 _ (Faa hlt);have hget:g.T.getD i 0=g.T[i]:=by simp[hlt]
  refine zk (λc1=>?_) (λc1=>?_)
  ·have c1:qx g l i=false:=by simpa using c1
   refine⟨i,rfl,za _ (zq hlt) ?_⟩;refine yqj c hc g.T[i] hti _ _ ?_;have hz:decide (0<Bt c g.T[i].toNat)=yq g l c i:=by unfold yq;rw[c1,hget];rfl
   refine⟨i,rfl,hlt,?_⟩;refine qd (i:=ti4) (v:=V.bool (decide (0<Bt c g.T[i].toNat))) (b:=b) (o:=0+i*1) (l:=_) (st2:=st.sO b (.cells (bl g.T.length (je g l c (i+1))))) rfl rfl rfl ho θd Qac ?_;refine Qd ?_;refine⟨i+1,?_,⟨θ,rfl⟩,Qaq,⟨rfl,Tv⟩⟩;show g.T.length-(i+1)<g.T.length-i;omega
  ·have c1:qx g l i=true:=by simpa using c1
   have hz:false=yq g l c i:=by unfold yq;rw[c1];rfl
   refine⟨i,rfl,hlt,?_⟩;refine qd (i:=ti4) (v:=V.bool false) (b:=b) (o:=0+i*1) (l:=_) (st2:=st.sO b (.cells (bl g.T.length (je g l c (i+1))))) rfl rfl rfl ho θd Qac ?_;refine Qd ?_;refine⟨i+1,?_,⟨θ,rfl⟩,Qaq,⟨rfl,Tv⟩⟩;show g.T.length-(i+1)<g.T.length-i;omega
 ·rintro _ _ rfl;refine AWp.freeze (d:=7) (b:=b) (k:=1) (n:=g.T.length) (cap:=g.T.length) (rows:=rws qv (blL g.T.length (yq g l c))) (pad:=[]) rfl ?_ ?_ ?_ (Fak _) ?_ ?_ ?_
  ·rw[gp];exact zd _ _ _
  ·exact hf.2
  ·rw[zj,C8]
  ·intro row hr;obtain⟨x,_,rfl⟩:=Fai.1 hr;rfl
  ·intro row hr y hy;obtain⟨x,_,rfl⟩:=Fai.1 hr;simp[qv]at hy;exact⟨_,hy,rfl⟩
  rw[bc hf.1];refine AWp.of_vc zb ?_;exact ret h
theorem yfl(g:Gnd)(hg:zt g)(l:List Bld)(hl:l.length<=1000000000000)(hb:∀b∈l,yk b/\onP g b)(c:Int)(hc:c=0\/c=1\/c=2)(p:Vc)(hp:qt p.1 p.2)(r:Int)(hr:0<r/\r<=262144)(st:Store)(R:Ja)
  (h:∀z:Bool,(z=true↔Cl g l c p r)->R (V.bool z) st):Jb 103 [.agg (zu g),lst 6 zi l,int c,.agg (yd p),int r] st R:=by
 have ha:=qm hg;have hg1:=hg.1;have hg2:=hg.2.1;have hp':=hp;unfold qt at hp';have no:¬Cl g l c p r->R (V.bool false) st:=λhn=>h false θ0;refine Qa (c:=cfg 65) zb Tryz.func103 ?_;refine bcd (λc1=>ret (no λq=>γ)) (λc1=>?_);refine bcd (λc2=>ret (no λq=>γ)) (λc2=>?_);refine Qd ?_;refine Qd ?_;refine bcd (λc3=>ret (no λq=>γ)) (λc3=>?_);refine Qd ?_;refine Qd ?_;refine bcd (λc4=>ret (no λq=>γ)) (λc4=>?_);refine yep g hg l hl hb c hc _ _ ?_
 refine AWp.loop (σ:=Nat) ⟨λi=>[(4,.av (int r)),(5,.bx 5 0),(8,.bx 8 0),(11,.av (opV g l c)),(12,.av (int (i:Nat)))],λ_=>[(5,zu g),(8,yd p)],
  λi st'=>i<=g.T.length/\st'=st/\∀t,t<i->yq g l c t=false->¬jz g t p r,λi=>g.T.length-i⟩ zb ?_ ?_
 ·exact⟨0,Tv,⟨Fae _,rfl,λt ht=>θ⟩,Qaq,⟨rfl,rfl,Tv⟩⟩
 rintro i st' ⟨hi,rfl,hall⟩;refine zk (λh1=>?_) (λh1=>?_);rotate_left
 ·have h1:=Aw h1 (by rw[C8];exact hi);rw[C8]at h1;subst h1;exact ret (h true (by simp only[true_iff];exact⟨θ,hall⟩))
 have hlt:=wo h1;rw[C8]at hlt;refine⟨i,rfl,za _ (zgb hlt) ?_⟩;have next:(yq g l c i=false->¬jz g i p r)->∀t,t<i+1->yq g l c t=false->¬jz g t p r:=λhq t ht hh=>by
  by_cases e:t=i
  ·subst e;exact hq hh
  ·exact hall t θ hh
 refine yi ?_;refine zk (λc5=>?_) (λc5=>?_)
 ·refine Qd ?_;refine⟨i+1,?_,⟨θ,rfl,next λhh=>by rw[c5]at hh;cases hh⟩,Qaq,⟨rfl,rfl,Tv⟩⟩;show g.T.length-(i+1)<g.T.length-i;omega
 refine yjd g hg i θ p hp r hr _ _ ?_;refine bcd (λc6=>?_) (λc6=>?_)
 ·exact ret (no λq=>q.2 i hlt c5 c6)
 ·refine Qd ?_;refine⟨i+1,?_,⟨θ,rfl,next λ_=>c6⟩,Qaq,⟨rfl,rfl,Tv⟩⟩;show g.T.length-(i+1)<g.T.length-i;omega
theorem zdc(g:Gnd)(hg:zt g)(t:Nat)(ht:(t:Int)<g.W*g.H)(x:Int)(hx:x=(t:Int))(p:Vc)(hp:qt p.1 p.2)(r:Int)(hr:0<r/\r<=262144)(st:Store)(R:Ja)(h:R (V.bool (decide (jz g t p r))) st):
  Jb 276 [.agg (zu g),int x,.agg (yd p),int r] st R:=by
 subst hx;exact yl7 g hg t ht p hp r hr st R h
theorem zd1(g:Gnd)(hg:zt g)(l:List Bld)(c:Int)(p:Vc)(hpo:p.ok)(r:Int)(hr:0<r/\r<=262144)(st:Store)(R:Ja)
  (h:∀z:Bool,(z=true↔Cl g l c p r)->R (V.bool z) st):Jb 186 [.agg (zu g),opV g l c,.agg (yd p),int r] st R:=by
 have ha:=qm hg;have hg1:=hg.1;have hg2:=hg.2.1;have no:¬Cl g l c p r->R (V.bool false) st:=λhn=>h false θ0;refine Qa (c:=cfg 112) zb Tryz.func186 ?_;refine Qc zb ydc ?_;refine Qd ?_;refine Qd ?_;refine Qat ?_;refine Qau ?_;refine yp0 p r _ _ (λz hz=>?_);refine yi ?_;refine zk (λc0=>?_) (λc0=>ret (no λq=>by have:=hz.2 ⟨⟨θ,hr.2⟩,by unfold qt;have:=q.1;omega⟩;rw[this]at c0;cases c0));have hp:=(hz.1 c0).2;have hp':=hp;unfold qt at hp';refine Qd ?_;refine bcd (λc1=>ret (no λq=>γ)) (λc1=>?_);refine Qd ?_;refine bcd (λc2=>ret (no λq=>γ)) (λc2=>?_);refine Qd ?_;refine bcd (λc3=>ret (no λq=>γ)) (λc3=>?_);refine Qd ?_;refine bcd (λc4=>ret (no λq=>γ)) (λc4=>?_);refine Qd ?_;refine⟨ψ,?_⟩;have hy0:(p.2-r).tdiv 65536=(p.2-r)/65536:=Fa1 θ;have hx0:(p.1-r).tdiv 65536=(p.1-r)/65536:=Fa1 θ;have hy1:(p.2+r).tdiv 65536=(p.2+r)/65536:=Fa1 θ;have hx1:(p.1+r).tdiv 65536=(p.1+r)/65536:=Fa1 θ;refine Qd ?_;rw[hy0]
 refine AWp.loop (σ:=Nat) ⟨λk=>[(1,.av (opV g l c)),(3,.av (int r)),(4,.bx 4 0),(6,.bx 6 0),(11,.av (int ((p.2-r)/65536+(k:Nat))))],λ_=>[(4,zu g),(6,yd p)],
  λk st'=>st'=st/\((k:Int)<=g.H-(p.2-r)/65536\/k=0)/\Nn g l c p r ((p.2-r)/65536+(k:Nat)),λk=>(g.H-(p.2-r)/65536).toNat-k⟩ zb ?_ ?_
 ·refine⟨0,Tv,⟨rfl,.inr rfl,?_⟩,⟨Tq,Tq,Tq,Tq,?_,Tv⟩,⟨rfl,rfl,Tv⟩⟩
  ·rw[show(p.2-r)/65536+((0:Nat):Int)=(p.2-r)/65536 by omega];exact yqw hr.1 θ
  ·rw[show(p.2-r)/65536+((0:Nat):Int)=(p.2-r)/65536 by omega];exact Tq
 rintro k st' ⟨rfl,hk,hup⟩;refine Qd ?_;refine⟨ψ,?_⟩;refine Qd ?_;rw[hy1]
 have done:(¬((p.2-r)/65536+(k:Int)<=(p.2+r)/65536)\/¬((p.2-r)/65536+(k:Int)<g.H))->R (V.bool true) st':=λhh=>
  h true (by simp only[true_iff];exact⟨θ,yqx hg hr.1 θ hh hup⟩)
 refine bcd (λc5=>?_) (λc5=>ret (done (.inl c5)));refine bcd (λc6=>?_) (λc6=>ret (done (.inr c6)));refine Qd ?_;refine⟨ψ,?_⟩;refine Qd ?_;rw[hx0];have hyb:0<=(p.2-r)/65536:=θ;have hxb:0<=(p.1-r)/65536:=θ
 refine AWp.loop (σ:=Nat) ⟨λm=>[(1,.av (opV g l c)),(3,.av (int r)),(4,.bx 4 0),(6,.bx 6 0),(11,.av (int ((p.2-r)/65536+(k:Nat)))),(12,.av (int ((p.1-r)/65536+(m:Nat))))],λ_=>[(4,zu g),(6,yd p)],
  λm st2=>st2=st'/\((m:Int)<=g.W-(p.1-r)/65536\/m=0)/\Re g l c p r ((p.2-r)/65536+(k:Nat)) ((p.1-r)/65536+(m:Nat)),λm=>(g.W-(p.1-r)/65536).toNat-m⟩ zb ?_ ?_
 ·refine⟨0,Tv,⟨rfl,.inr rfl,?_⟩,⟨Tq,Tq,Tq,Tq,Tq,?_,Tv⟩,⟨rfl,rfl,Tv⟩⟩
  ·rw[show(p.1-r)/65536+((0:Nat):Int)=(p.1-r)/65536 by omega];exact yqz hr.1 θ
  ·rw[show(p.1-r)/65536+((0:Nat):Int)=(p.1-r)/65536 by omega];exact Tq
 rintro m st2 ⟨rfl,hm,hrow⟩;refine Qd ?_;refine⟨ψ,?_⟩;refine Qd ?_;rw[hx1];have done2:(¬((p.1-r)/65536+(m:Int)<=(p.1+r)/65536)\/¬((p.1-r)/65536+(m:Int)<g.W))->Nn g l c p r ((p.2-r)/65536+((k+1:Nat):Int)):=λhh=>by rw[og];exact yq0 hg hr.1 θ hh hup hrow
 have mu:(g.H-(p.2-r)/65536).toNat-(k+1)<(g.H-(p.2-r)/65536).toNat-k:=zb7 (Int.lt_sub_left_of_add_lt c6);have step2:LV.le (xr .i64 ((p.2-r)/65536+(k:Int)+1)) (.av (int ((p.2-r)/65536+((k+1:Nat):Int)))):=by rw[og];exact Tq
 refine bcd (λc7=>?_) (λc7=>ze θ ⟨k+1,mu,⟨rfl,.inl (Wf c6),done2 (.inl c7)⟩,⟨Tq,Tq,Tq,Tq,step2,Tv⟩,⟨rfl,rfl,Tv⟩⟩);refine bcd (λc8=>?_) (λc8=>ze θ ⟨k+1,mu,⟨rfl,.inl (Wf c6),done2 (.inr c8)⟩,⟨Tq,Tq,Tq,Tq,step2,Tv⟩,⟨rfl,rfl,Tv⟩⟩);obtain⟨q1,q2,q3,q4⟩:=Kj hg (x:=(p.1-r)/65536+(m:Int)) (y:=(p.2-r)/65536+(k:Int)) θ θ;have q5:0<=g.W*((p.2-r)/65536+(k:Int)):=Faw θ θ;have hstep:=yqy (l:=l) (c:=c) (p:=p) (r:=r) hg (x:=(p.1-r)/65536+(m:Int)) (y:=(p.2-r)/65536+(k:Int)) θ θ hrow;refine Qd ?_;refine Qd ?_;obtain⟨n,hn⟩:∃n:Nat,(n:Int)=(p.1-r)/65536+(m:Int)+g.W*((p.2-r)/65536+(k:Int)):=⟨_,Int.toNat_of_nonneg q1⟩
 rw[<-hn,Fa8]at hstep;have hnl:n<g.T.length:=θ;have mu2:(g.W-(p.1-r)/65536).toNat-(m+1)<(g.W-(p.1-r)/65536).toNat-m:=zb7 (Int.lt_sub_left_of_add_lt c8);have e2:(p.1-r)/65536+((m+1:Nat):Int)=(p.1-r)/65536+(m:Int)+1:=og _ _;have step3:LV.le (xr .i64 ((p.1-r)/65536+(m:Int)+1)) (.av (int ((p.1-r)/65536+((m+1:Nat):Int)))):=by rw[e2];exact Tq
 refine⟨n,hn.symm,za _ (zgb hnl) ?_⟩;refine yi ?_;refine zk (λc9=>?_) (λc9=>?_)
 ·refine Qd ?_;exact⟨m+1,mu2,⟨rfl,.inl (Wf c8),by rw[e2];exact hstep λhh=>by rw[c9]at hh;cases hh⟩,⟨Tq,Tq,Tq,Tq,Tq,step3,Tv⟩,⟨rfl,rfl,Tv⟩⟩
 refine zdc g hg n θ _ hn.symm p hp r hr _ _ ?_;refine bcd (λc10=>?_) (λc10=>?_)
 ·exact ret (no λq=>q.2 n hnl c9 c10)
 ·refine Qd ?_;exact⟨m+1,mu2,⟨rfl,.inl (Wf c8),by rw[e2];exact hstep λ_=>c10⟩,⟨Tq,Tq,Tq,Tq,Tq,step3,Tv⟩,⟨rfl,rfl,Tv⟩⟩
theorem zcy(x:Int)(st:Store)(R:Ja)(h:R (V.bool false) st):Jb 317 [int x] st R:=by refine Qa (c:=cfg 6) zb Tryz.func317 ?_;refine⟨_,st,Tt,Store.Has.refl st,?_⟩;have e:(x != x)=false:=φ;rw[<-e]at h;exact h
theorem bg(x y:Int)(st:Store)(R:Ja)(h:R (int (Ah x y)) st):Jb 214 [int x,int y] st R:=by
 refine Qa (c:=cfg 20) zb Tryz.func214 ?_;refine zcy _ _ _ ?_;refine zcy _ _ _ ?_;unfold Ah at h;refine zk (λh1=>⟨_,st,Tt,Store.Has.refl st,?_⟩) (λh1=>?_)
 ·rw[if_pos θg]at h;exact h
 ·rw[if_neg θg]at h;refine zk (λh2=>⟨_,st,Tt,Store.Has.refl st,?_⟩) (λh2=>⟨_,st,Tt,Store.Has.refl st,?_⟩)
  ·rw[if_pos θn]at h;exact h
  ·rw[if_neg θn]at h;exact h
theorem zgi(u:Unt)(id:Int)(st:Store)(R:Ja)(h:R (int (Ah u.id id)) st):Jb 281 [.agg (zn u),int id] st R:=by refine Qa (c:=cfg 9) zb Tryz.func281 ?_;exact bg u.id id _ _ (ret h)
def Mx(l:List Unt)(id:Int)(i:Nat):Prop:=i<=l.length/\(∀j,(h:j<l.length)->j<i->l[j].id<id)/\∀j,(h:j<l.length)->i<=j->id<=l[j].id
theorem yrm(l:List Unt)(hl:l.length<=1000000000000)(hr:yl l)(id:Int)(st:Store)(R:Ja)
  (h:∀i,Mx l id i->∀z:Bool,(z=true↔∃hi:i<l.length,l[i].id=id)->R (.tup [int (i:Nat),V.bool z]) st):Jb 280 [lst 10 zn l,int id,.clos 281 []] st R:=by
 refine Qa (c:=cfg 49) zb Tryz.func280 ?_
 refine AWp.loop (σ:=Nat×Nat) ⟨λs=>[(0,.av (lst 10 zn l)),(1,.av (int id)),(2,.av (.clos 281 [])),(8,.av (int (l.length:Nat))),(9,.av (int (s.1:Nat))),(10,.av (int (s.2:Nat)))],λ_=>[],
  λs st'=>st'=st/\s.1<=s.2/\s.2<=l.length/\(∀j,(h:j<l.length)->j<s.1->l[j].id<id)/\∀j,(h:j<l.length)->s.2<=j->id<=l[j].id,λs=>s.2-s.1⟩ zb ?_ ?_
 ·refine⟨(0,l.length),Tv,⟨rfl,Fae _,Fak _,λj _ hj=>θ,λj hj hj2=>θ⟩,⟨Tq,Tq,Tq,?_,Tq,?_,Tv⟩,Tv⟩
  ·rw[<-zj (f:=zn) l];exact Tq
  ·rw[<-zj (f:=zn) l];exact Tq
 rintro⟨i,j⟩ st' ⟨rfl,hij,hj,hlo,hhi⟩;dsimp only at hij hj hlo hhi⊢;refine bcd (λh1=>?_) (λh1=>?_);rotate_left
 ·have e:i=j:=θ;subst e;have hat:Mx l id i:=⟨hj,hlo,hhi⟩
  refine bcd (λh2=>?_) (λh2=>?_)
  ·have hlt:i<l.length:=θ;refine⟨i,rfl,za _ (zq hlt) ?_⟩;refine zgi l[i] id _ _ ?_;refine ret (h i hat _ ?_);have:=hhi i hlt (Fak _);unfold Ah;rw[if_neg θ];by_cases e:l[i].id=id
   ·rw[if_neg θ];simp[hlt,e]
   ·rw[if_pos θ];simp[e]
  ·exact ret (h i hat _ χ)
 refine Qd ?_;refine⟨ψ,?_⟩;have hmid:(IntKind.u64.wrap ((i:Int)+(j:Int))).fdiv (2^(min (1:Int).toNat IntKind.u64.bits))=(((i+j)/2:Nat):Int):=by
  have e1:IntKind.u64.wrap ((i:Int)+(j:Int))=((i+j:Nat):Int):=by simp[IntKind.wrap,IntKind.bits,IntKind.signed];omega
  have e2:(2:Int)^(min (1:Int).toNat IntKind.u64.bits)=2:=rfl;have e3:(((i+j:Nat):Int)).fdiv 2=(((i+j)/2:Nat):Int):=by rw[Int.fdiv_eq_ediv_of_nonneg _ ψ];rfl
  rw[e1,e2,e3]
 have hk1:(i+j)/2<j:=θ;have hk2:i<=(i+j)/2:=θ;have hkl:(i+j)/2<l.length:=θ;have hmono:∀a b,(ha:a<l.length)->(hb:b<l.length)->a<=b->l[a].id<=l[b].id:=by
  intro a b ha hb hab;induction b with
  |zero=>
   have:a=0:=θ;subst this;exact Fcj _
  |succ b ih=>
   by_cases e:a=b+1
   ·subst e;exact Fcj _
   ·have h2:=ih θ θ;have h3:=hr (b+1) hb θ;simp only[Fd4]at h3;omega
 refine⟨by rw[hmid];exact⟨θ,θ⟩,?_⟩;refine⟨(i+j)/2,hmid,za _ (zq hkl) ?_⟩;refine zgi l[(i+j)/2] id _ _ ?_;have hc:Ah l[(i+j)/2].id id<0↔l[(i+j)/2].id<id:=by
  unfold Ah;split
  ·omega
  ·split<;>omega
 refine bcd (λh2=>?_) (λh2=>?_)
 ·have h2:=hc.1 h2;refine ze (by rw[hmid];omega) ?_;refine⟨((i+j)/2+1,j),?_,⟨rfl,ζ,hj,λa ha ha2=>?_,hhi⟩,⟨Tq,Tq,Tq,Tq,?_,Tq,Tv⟩,Tv⟩
  ·show j-((i+j)/2+1)<j-i;omega
  ·have:=hmono a ((i+j)/2) ha hkl (by dsimp only at ha2;omega);omega
  ·dsimp only;exact(congrArg (λn:Int=>LV.le (xr .i64 (n+1)) (.av (int (((i+j)/2+1:Nat):Int)))) hmid).mpr (Tq)
 ·have h2:¬l[(i+j)/2].id<id:=λhh=>h2 (hc.2 hh);refine⟨(i,(i+j)/2),?_,⟨rfl,hk2,ζ,hlo,λa ha ha2=>?_⟩,⟨Tq,Tq,Tq,Tq,Tq,?_,Tv⟩,Tv⟩
  ·show(i+j)/2-i<j-i;omega
  ·have:=hmono ((i+j)/2) a hkl ha (by dsimp only at ha2;omega);omega
  ·dsimp only;exact(congrArg (λn:Int=>LV.le (xr .i64 n) (.av (int (((i+j)/2:Nat):Int)))) hmid).mpr (Tq)
theorem oz(l:List Unt)(hl:l.length<=1000000000000)(hr:yl l)(id:Int)(st:Store)(R:Ja)
  (h:∀i,Mx l id i->∀z:Bool,(z=true↔∃hi:i<l.length,l[i].id=id)->R (.tup [int (i:Nat),V.bool z]) st):Jb 190 [lst 10 zn l,int id] st R:=by
 refine Qa (c:=cfg 11) zb Tryz.func190 ?_;exact yrm l hl hr id _ _ λi hi z hz=>ret (h i hi z hz)
section
variable {F S:Store} {p:Nat}
theorem yrb{l:List Ent}(hc:vg F p l)(hd:zh F S)(hl:l.length<=1000000000)(hok:∀e∈l,e.2.ok)(id:Int)(R:Ja)
  (h:∀F',vg F' p (qn l id)->zh F' S->R (V.bool (l.find? (Ay id)).isSome) (F'.un S)):Jb 271 [ptr p,int id] (F.un S) R:=
 ACalls.frame (R:=λr a'=>r=V.bool (l.find? (Ay id)).isSome/\vg a' p (qn l id)) hd (zfp hc hl hok id _ λa' ha'=>⟨rfl,ha'⟩) λr a' ⟨h1,h2⟩ hd'=>h1▸h a' h2 hd'
theorem oj{l:List Ent}(hc:vg F p l)(hd:zh F S)(hl:l.length<=1000000000)(hok:∀e∈l,e.2.ok)(id:Int)(pos:Vc)(hpos:pos.ok)(R:Ja)
  (h:∀F',vg F' p (qn l id++[(id,pos)])->zh F' S->R (.tup []) (F'.un S)):Jb 184 [ptr p,int id,.agg (yd pos)] (F.un S) R:=
 ACalls.frame (R:=λr a'=>r=.tup []/\vg a' p (qn l id++[(id,pos)])) hd (yq7 hc hl hok id pos hpos _ λa' ha'=>⟨rfl,ha'⟩) λr a' ⟨h1,h2⟩ hd'=>h1▸h a' h2 hd'
theorem zfx{l:List Ent}(hc:vg F p l)(hd:zh F S)(hl:l.length<=1000000000)(hok:∀e∈l,e.2.ok){q:Vc}(hq:q.ok){r:Int}(hr:yg r)(R:Ja)
  (h:∀F' N v ns,vg F' p l->zh F' N->zh F' S->zh N S->Ints N v ns->Rq l q r ns->R v ((F'.un N).un S)):Jb 277 [ptr p,.agg (yd q),int r] (F.un S) R:=
 ACalls.frame (R:=λv a'=>∃F' N ns,a'=F'.un N/\vg F' p l/\zh F' N/\Ints N v ns/\Rq l q r ns) hd (yq8 hc hl hok hq hr _ λF' N v ns h1 h2 h3 h4=>⟨F',N,ns,rfl,h1,h2,h3,h4⟩)
  λv a' ⟨F',N,ns,h1,h2,h3,h4,h5⟩ hd'=>by subst h1;exact h F' N v ns h2 h3 (disj_un.1 hd').1 (disj_un.1 hd').2 h4 h5
end
section
variable {s p:Nat} {w:Wld} {o0 o1 o2:AV}
def stC(w:Wld)(o0 o1 o2:AV)(p:Nat):List AV:=zo w++[o0,o1,o2,ptr p]
def stS(s:Nat)(w:Wld)(o0 o1 o2:AV)(p:Nat):Store:=Store.empty.sO s (.cells (stC w o0 o1 o2 p))
def Mo(w:Wld)(c:Int)(o:AV):Prop:=o=.s (.slice none 0 0)\/o=opV w.G w.B c
structure StandAt(F:Store)(s p:Nat)(w:Wld)(L:List Ent)(o0 o1 o2:AV):Prop where
 hc:vg F p L
 hd:zh F (stS s w o0 o1 o2 p)
 h0:Mo w 0 o0
 h1:Mo w 1 o1
 h2:Mo w 2 o2
theorem Hb(s:Nat)(w:Wld)(o0 o1 o2:AV)(p:Nat):(stS s w o0 o1 o2 p).obj s=some (.cells (stC w o0 o1 o2 p)):=zd _ _ _
theorem stS_has{i:Nat}:(stS s w o0 o1 o2 p).has i↔i=s:=by
 unfold Store.has stS;constructor
 ·rintro(h|h)
  ·apply Decidable.byContradiction;intro hn;rw[zg hn]at h;exact h rfl
  ·exact absurd rfl h
 ·rintro rfl;exact .inl (by rw[zd];simp)
theorem ng{F:Store}{q0 q1 q2:AV}(h:zh F (stS s w o0 o1 o2 p)):zh F (stS s w q0 q1 q2 p):=λi h1 h2=>h i h1 (stS_has.2 (stS_has.1 h2))
theorem Sy{l:List Unt}(hr:yl l){a b:Nat}(hab:a<b)(hb:b<l.length):(l[a]'θ).id<l[b].id:=by
 induction b with
 |zero=>omega
 |succ b ih=>
  have h3:=hr (b+1) hb θ;simp only[Fd4]at h3;by_cases e:a=b
  ·subst e;exact h3
  ·have:=ih θ θ;omega
theorem yh0(w:Wld)(hU:w.U.length<=1000000)(hn:∀u∈w.U,u.pos.ok)(R:Ja)
  (h:∀F s p L o0 o1 o2,StandAt F s p w L o0 o1 o2->L.length<=w.U.length->(yl w.U->∀e,e∈L↔∃u∈w.U,u.inn=0/\e=(u.id,u.pos))->R (ptr s) (F.un (stS s w o0 o1 o2 p))):Jb 109 [.agg (zo w)] Store.empty R:=by
 refine Qa (c:=cfg 31 [9] []) zb Tryz.func109 ?_;refine Qc zb ur ?_;refine⟨zfq _ (λF p hc=>⟨Qe,?_⟩),Tv⟩;refine⟨λs hs=>⟨Tv,?_⟩,Tv⟩;refine Qau ?_;have e0:F.sO s (.cells (stC w (.s (.slice none 0 0)) (.s (.slice none 0 0)) (.s (.slice none 0 0)) p))=F.un (stS s w (.s (.slice none 0 0)) (.s (.slice none 0 0)) (.s (.slice none 0 0)) p):=by exact zz F Store.empty s _
 have h0:StandAt F s p w [] (.s (.slice none 0 0)) (.s (.slice none 0 0)) (.s (.slice none 0 0)):=⟨hc,λi h1 h2=>by have:=stS_has.1 h2;subst this;exact(fresh_iff.1 hs) h1,.inl rfl,.inl rfl,.inl rfl⟩
 refine AWp.loop (σ:=Nat×Store×List Ent) ⟨λq=>[(3,.av (ptr s)),(11,.av (lst 10 zn w.U)),(12,.av (int (w.U.length:Nat))),(13,.av (int (q.1:Nat)))],λ_=>[],
  λq st'=>st'=q.2.1.un (stS s w (.s (.slice none 0 0)) (.s (.slice none 0 0)) (.s (.slice none 0 0)) p)/\StandAt q.2.1 s p w q.2.2 (.s (.slice none 0 0)) (.s (.slice none 0 0)) (.s (.slice none 0 0))/\q.1<=w.U.length/\q.2.2.length<=q.1/\(∀e∈q.2.2,e.2.ok)/\(yl w.U->∀e,e∈q.2.2↔∃u∈w.U.take q.1,u.inn=0/\e=(u.id,u.pos)),λq=>w.U.length-q.1⟩ zb ?_ ?_
 ·refine⟨(0,F,[]),Tv,⟨e0,h0,Fae _,Fak _,λe he=>(by cases he),λ_ e=>φ⟩,⟨Tq,Tq,?_,Tq,Tv⟩,Tv⟩;rw[<-zj (f:=zn) w.U];exact Tq
 rintro⟨i,F1,L⟩ st' ⟨rfl,hS,hi,hL,hok,hmem⟩;dsimp only at hS hi hL hok hmem⊢;refine bcd (λh1=>?_) (λh1=>?_);rotate_left
 ·have:i=w.U.length:=θ;subst this;rw[Fal]at hmem;exact ret (h F1 s p L _ _ _ hS hL hmem)
 have hlt:i<w.U.length:=θ;refine⟨i,rfl,za _ (zq hlt) ?_⟩;have hn2:=hn w.U[i] (Faa hlt);refine zw (λc1=>?_) (λc1=>?_)
 ·refine Qc zb uq ?_;refine za (o:=(F1.un (stS s w _ _ _ p)).obj s) _ (zf (Hb s w _ _ _ p)) ?_;refine⟨oj hS.hc hS.hd θ hok w.U[i].id w.U[i].pos hn2 _ (λF2 h2 h3=>⟨Tv,?_⟩),Tv⟩;have hlen:(qn L w.U[i].id++[(w.U[i].id,w.U[i].pos)]).length<=i+1:=by
   rw[Fad];have:(qn L w.U[i].id).length<=L.length:=Fbh _ _;simp only[Fas];omega
  refine Qd ?_;refine⟨(i+1,F2,_),?_,⟨rfl,⟨h2,h3,.inl rfl,.inl rfl,.inl rfl⟩,ζ,hlen,λe he=>?_,λhr e=>?_⟩,⟨Tq,Tq,Tq,Tq,Tv⟩,Tv⟩
  ·show w.U.length-(i+1)<w.U.length-i;omega
  ·rcases Fat.1 he with he|he
   ·exact hok e (mem_dropId.1 he).1
   ·simp at he;subst he;exact hn2
  ·dsimp only;rw[Fab hlt,Fat,mem_dropId,hmem hr e];constructor
   ·rintro(⟨⟨u,hu,h4⟩,_⟩|he)
    ·exact⟨u,Fat.2 (.inl hu),h4⟩
    ·simp at he;exact⟨w.U[i],Fat.2 (.inr φ),c1,he⟩
   ·rintro⟨u,hu,h4,h5⟩;rcases Fat.1 hu with hu|hu
    ·refine .inl ⟨⟨u,hu,h4,h5⟩,?_⟩;obtain⟨j,hj,rfl⟩:=Faj hu;rw[Fam]at hj;rw[Fdp]at h5;have:=Sy hr (a:=j) (b:=i) θ hlt;subst h5;show w.U[j].id≠w.U[i].id;omega
    ·simp at hu;subst hu;exact .inr (by simp[h5])
 ·refine Qd ?_;refine⟨(i+1,F1,L),?_,⟨rfl,hS,ζ,ζ,hok,λhr e=>?_⟩,Qaq,Tv⟩
  ·show w.U.length-(i+1)<w.U.length-i;omega
  ·dsimp only;rw[hmem hr e,Fab hlt];constructor
   ·rintro⟨u,hu,h3⟩;exact⟨u,Fat.2 (.inl hu),h3⟩
   ·rintro⟨u,hu,h3,h4⟩;rcases Fat.1 hu with hu|hu
    ·exact⟨u,hu,h3,h4⟩
    ·simp at hu;subst hu;exact absurd h3 c1
end
theorem D2{g:Gnd}(hg:zt g)(l:List Bld)(c:Int):∃x y,opV g l c=.lst 1 (x::y) none:=by
 have ha:=qm hg;unfold opV lst;cases h:rws qv (blL g.T.length (yq g l c))with
 |nil=>
  have:=zj (f:=qv) (blL g.T.length (yq g l c));rw[h,C8]at this;simp at this;omega
 |cons x y=>exact⟨x,y,rfl⟩
theorem No{v:AV}(h:∃x y,v=.lst 1 (x::y) none):cellsOf v=some [v]/\v.one=true:=by obtain⟨x,y,rfl⟩:=h;exact⟨rfl,rfl⟩
theorem zyw{F:Store}{s p:Nat}{w:Wld}{L:List Ent}{o0 o1 o2:AV}(hS:StandAt F s p w L o0 o1 o2)(hg:zt w.G)(hB:w.B.length<=1000000000000)(hb:∀b∈w.B,yk b/\onP w.G b)(c:Int)(hc:c=0\/c=1\/c=2)(R:Ja)
  (h:∀q0 q1 q2,StandAt F s p w L q0 q1 q2->R (opV w.G w.B c) (F.un (stS s w q0 q1 q2 p))):Jb 187 [ptr s,int c] (F.un (stS s w o0 o1 o2 p)) R:=by
 have ho:=zf (a:=F) (Hb s w o0 o1 o2 p);obtain⟨x0,y0,hne0⟩:=D2 hg w.B 0;obtain⟨x1,y1,hne1⟩:=D2 hg w.B 1;obtain⟨x2,y2,hne2⟩:=D2 hg w.B 2;rcases hc with rfl|rfl|rfl
 ·rcases hS.h0 with e|e
  ·subst e;refine Qa (c:=cfg 35) zb Tryz.func187 ?_;refine⟨0,rfl,ψ,?_⟩;refine za (o:=(F.un (stS s w _ _ _ p)).obj s) _ ho ?_;refine Qc zb Me ?_;refine za (o:=(F.un (stS s w _ _ _ p)).obj s) _ ho ?_;refine za (o:=(F.un (stS s w _ _ _ p)).obj s) _ ho ?_;refine⟨Lk w.G hg w.B hB hb 0 _ _ ⟨Tv,?_⟩,Tv⟩;refine⟨0,rfl,ψ,?_⟩;have ho2:=zf (a:=F) (Hb s w (opV w.G w.B 0) o1 o2 p);have hc2:=No (D2 hg w.B 0);refine⟨?_,Tv⟩;refine za _ rfl (xp rfl (xl (v:=opV w.G w.B 0) rfl rfl rfl rfl ?_));refine qd (i:=ti68) (v:=opV w.G w.B 0) (b:=s) (o:=0+8+0*ti68.size) (l:=stC w _ o1 o2 p) (st2:=F.un (stS s w (opV w.G w.B 0) o1 o2 p)) hc2.1 hc2.2 rfl ho (show 8+1<=12 by decide) ?_ ?_
   ·rw[zz];unfold stS;rw[ym];rfl
   refine⟨Tv,?_⟩;refine⟨0,rfl,ψ,?_⟩;refine za (o:=(F.un (stS s w _ _ _ p)).obj s) _ ho2 ?_;exact ret (h _ _ _ ⟨hS.hc,ng hS.hd,.inr rfl,hS.h1,hS.h2⟩)
  ·rw[hne0]at e;subst e;refine Qa (c:=cfg 35) zb Tryz.func187 ?_;refine⟨0,rfl,ψ,?_⟩;refine za (o:=(F.un (stS s w _ _ _ p)).obj s) _ ho ?_;refine λbb hbb=>?_;have hbf:bb=false:=by
    cases bb with
    |true=>cases hbb rfl
    |false=>rfl
   subst hbf;refine⟨0,rfl,ψ,?_⟩;refine za (o:=(F.un (stS s w _ _ _ p)).obj s) _ ho ?_;refine ret ?_;have:=h _ _ _ hS;rw[hne0]at this;exact this
 ·rcases hS.h1 with e|e
  ·subst e;refine Qa (c:=cfg 35) zb Tryz.func187 ?_;refine⟨1,rfl,ψ,?_⟩;refine za (o:=(F.un (stS s w _ _ _ p)).obj s) _ ho ?_;refine Qc zb Me ?_;refine za (o:=(F.un (stS s w _ _ _ p)).obj s) _ ho ?_;refine za (o:=(F.un (stS s w _ _ _ p)).obj s) _ ho ?_;refine⟨Lk w.G hg w.B hB hb 1 _ _ ⟨Tv,?_⟩,Tv⟩;refine⟨1,rfl,ψ,?_⟩;have ho2:=zf (a:=F) (Hb s w o0 (opV w.G w.B 1) o2 p);have hc2:=No (D2 hg w.B 1);refine⟨?_,Tv⟩;refine za _ rfl (xp rfl (xl (v:=opV w.G w.B 1) rfl rfl rfl rfl ?_));refine qd (i:=ti68) (v:=opV w.G w.B 1) (b:=s) (o:=0+8+1*ti68.size) (l:=stC w o0 _ o2 p) (st2:=F.un (stS s w o0 (opV w.G w.B 1) o2 p)) hc2.1 hc2.2 rfl ho (show 9+1<=12 by decide) ?_ ?_
   ·rw[zz];unfold stS;rw[ym];rfl
   refine⟨Tv,?_⟩;refine⟨1,rfl,ψ,?_⟩;refine za (o:=(F.un (stS s w _ _ _ p)).obj s) _ ho2 ?_;exact ret (h _ _ _ ⟨hS.hc,ng hS.hd,hS.h0,.inr rfl,hS.h2⟩)
  ·rw[hne1]at e;subst e;refine Qa (c:=cfg 35) zb Tryz.func187 ?_;refine⟨1,rfl,ψ,?_⟩;refine za (o:=(F.un (stS s w _ _ _ p)).obj s) _ ho ?_;refine λbb hbb=>?_;have hbf:bb=false:=by
    cases bb with
    |true=>cases hbb rfl
    |false=>rfl
   subst hbf;refine⟨1,rfl,ψ,?_⟩;refine za (o:=(F.un (stS s w _ _ _ p)).obj s) _ ho ?_;refine ret ?_;have:=h _ _ _ hS;rw[hne1]at this;exact this
 ·rcases hS.h2 with e|e
  ·subst e;refine Qa (c:=cfg 35) zb Tryz.func187 ?_;refine⟨2,rfl,ψ,?_⟩;refine za (o:=(F.un (stS s w _ _ _ p)).obj s) _ ho ?_;refine Qc zb Me ?_;refine za (o:=(F.un (stS s w _ _ _ p)).obj s) _ ho ?_;refine za (o:=(F.un (stS s w _ _ _ p)).obj s) _ ho ?_;refine⟨Lk w.G hg w.B hB hb 2 _ _ ⟨Tv,?_⟩,Tv⟩;refine⟨2,rfl,ψ,?_⟩;have ho2:=zf (a:=F) (Hb s w o0 o1 (opV w.G w.B 2) p);have hc2:=No (D2 hg w.B 2);refine⟨?_,Tv⟩;refine za _ rfl (xp rfl (xl (v:=opV w.G w.B 2) rfl rfl rfl rfl ?_));refine qd (i:=ti68) (v:=opV w.G w.B 2) (b:=s) (o:=0+8+2*ti68.size) (l:=stC w o0 o1 _ p) (st2:=F.un (stS s w o0 o1 (opV w.G w.B 2) p)) hc2.1 hc2.2 rfl ho (show 10+1<=12 by decide) ?_ ?_
   ·rw[zz];unfold stS;rw[ym];rfl
   refine⟨Tv,?_⟩;refine⟨2,rfl,ψ,?_⟩;refine za (o:=(F.un (stS s w _ _ _ p)).obj s) _ ho2 ?_;exact ret (h _ _ _ ⟨hS.hc,ng hS.hd,hS.h0,hS.h1,.inr rfl⟩)
  ·rw[hne2]at e;subst e;refine Qa (c:=cfg 35) zb Tryz.func187 ?_;refine⟨2,rfl,ψ,?_⟩;refine za (o:=(F.un (stS s w _ _ _ p)).obj s) _ ho ?_;refine λbb hbb=>?_;have hbf:bb=false:=by
    cases bb with
    |true=>cases hbb rfl
    |false=>rfl
   subst hbf;refine⟨2,rfl,ψ,?_⟩;refine za (o:=(F.un (stS s w _ _ _ p)).obj s) _ ho ?_;refine ret ?_;have:=h _ _ _ hS;rw[hne2]at this;exact this
end Go.Proofs
