/- Ground of laws of thronglaw25: contracts and plain lemmas; no condition beyond the row's own. -/
import Derived.Test.YthjfdaifoocijaaGreatKK
import Derived.Test.YthjfdaifoocijaaGreatKJ
import Derived.Test.YthjfdaifoocijaaGreatKI
import Derived.Test.YthjfdaifoocijaaGreatKE
set_option linter.unusedSimpArgs false
set_option linter.unusedVariables false
set_option linter.defProp false
namespace Go.Proofs
open Go Go.V
set_option maxRecDepth 20000
set_option maxHeartbeats 4000000
def Kz(n:Int)(st:Store)(R:Ja)(h:R (int (nrm n)) st):Jb 148 [int n] st R:=by refine Qy 5 Tryz.func148 ?_;rw[<-ye3]at h;exact ret h
def yfd(n:Int)(hn:ym n)(st:Store)(R:Ja)(h:R (int (-nrm n)) st):Jb 333 [int n] st R:=by refine Qy 6 Tryz.func333 ?_;refine Kz n _ _ ?_;have:=Ad hn;refine⟨⟨θ,θ⟩,?_⟩;rw[show -nrm n=0-nrm n by omega]at h;exact ret h
def Kd(a b:Int)(ha:ym a)(hb:ym b)(st:Store)(R:Ja)(h:R (int (qp a b)) st):Jb 149 [int a,int b] st R:=by
 refine Qy 30 Tryz.func149 ?_;refine Kz a _ _ (Kz b _ _ ?_);have h1:=Ad ha;have h2:=Ad hb;unfold qp at h;generalize nrm a=x at*;generalize nrm b=y at*;have k1:x+y>9223372036854775807->R (int 9223372036854775807) st:=λhh=>by grind[vp]
 have k2:x+y< -9223372036854775807->R (int (-9223372036854775807)) st:=λhh=>ψx;have k3:¬x+y>9223372036854775807->¬x+y< -9223372036854775807->ym (x+y)/\R (int (x+y)) st:=λhh hh'=>⟨⟨θ,θ⟩,by simp_all[vp]⟩
 have fin:¬x+y>9223372036854775807->¬x+y< -9223372036854775807->ym (x+y)/\∃r st',AV.le (int (x+y)) r/\st.Has st'/\R r st':=λhh hh'=>⟨(k3 hh hh').1,ret (k3 hh hh').2⟩
 have e:Int.negSucc 9223372036854775806=-9223372036854775807:=rfl;refine bcd (λc1=>?_) λc1=>?_
 ·refine⟨⟨θ,θ⟩,bcd (λc2=>?_) λc2=>?_⟩
  ·exact ret (k1 θ)
  ·refine bcd (λc3=>?_) λc3=>?_
   ·omega
   ·exact fin θ θ
 ·refine bcd (λc3=>?_) λc3=>?_
  ·refine⟨⟨θ,θ⟩,bcd (λc4=>?_) λc4=>?_⟩
   ·exact ret (k2 θ)
   ·exact fin θ θ
  ·exact fin θ θ
def H4(a b:Int)(ha:ym a)(hb:ym b)(st:Store)(R:Ja)(h:R (int (qf a b)) st):Jb 287 [int a,int b] st R:=by refine Qy 9 Tryz.func287 ?_;refine yfd b hb _ _ ?_;have h2:=Ad hb;exact Kd a (-nrm b) ha ⟨θ,θ⟩ _ _ (ret h)
def ls(n:Int)(hn:ym n)(st:Store)(R:Ja)(h:R (.tup [u64 (asz n),bool (decide (nrm n<0))]) st):Jb 336 [int n] st R:=by
 refine Qy 13 Tryz.func336 ?_;refine Kz n _ _ ?_;have h1:=Ad hn;unfold asz at h;generalize nrm n=x at*;refine bcd (λc1=>?_) λc1=>?_
 ·refine⟨⟨θ,θ⟩,?_⟩;rw[if_pos c1,show decide (x<0)=true by simp[c1]]at h;rw[<-j6 (v:=-x) θ θ,show -x=0-x by omega]at h;exact ret h
 ·rw[if_neg c1,show decide (x<0)=false by simp[c1]]at h;rw[<-j6 (v:=x) θ θ]at h;exact ret h
def ep(x y:Int)(hx:0<=x)(hx2:x<18446744073709551616)(hy:0<=y)(hy2:y<18446744073709551616)(st:Store)(R:Ja)(h:R (.tup (jc (x*y))) st):
  Jb 263 [u64 x,u64 y] st R:=by
 refine Qy 51 Tryz.func263 ?_;refine⟨ψ,⟨ψ,⟨ψ,⟨ψ,⟨ψ,ret ((congrArg (λl=>R (.tup l) st) ?_).mpr h)⟩⟩⟩⟩⟩;obtain⟨p00,p10,p01,p11,e1,e2,e3,e4,e5,b⟩:=ny x y hx hx2 hy hy2;simp only[zu3,Nj hx,Nj hy,Lp,<-e1,<-e2,<-e3,<-e4];rw[Nj (Fcf _ ψ)];unfold jc u64;refine congr (congrArg _ ?_) rfl;grind
def Nq(x y:Int)(hx:0<=x)(hx2:x<18446744073709551616)(hy:0<=y)(hy2:y<18446744073709551616)(st:Store)(R:Ja)(h:R (.agg (jc (x*y))) st):
  Jb 225 [u64 x,u64 y] st R:=by
 refine Qy 46 Tryz.func225 ?_;refine⟨ψ,⟨ψ,⟨ψ,⟨ψ,⟨ψ,⟨ψ,⟨ψ,⟨ψ,ret ((congrArg (λl=>R (.agg l) st) ?_).mpr h)⟩⟩⟩⟩⟩⟩⟩⟩;obtain⟨p00,p10,p01,p11,e1,e2,e3,e4,e5,b⟩:=ny x y hx hx2 hy hy2;simp only[yd1,yjv,Nj hx,Nj hy,Lp,<-e1,<-e2,<-e3,<-e4];simp only[Nj (Fcf _ (show(18446744073709551616:Int)≠0 by decide))];rw[yem (Fcf _ ψ) (Fcf _ ψ) θ];refine Px ?_ ?_
 ·omega
 ·omega
def Ve(x:Int)(hx:0<=x)(hx2:x<18446744073709551616)(st:Store)(R:Ja)(h:R (.agg (jc (x*x))) st):Jb 292 [u64 x] st R:=by refine Qy 14 Tryz.func292 ?_;exact ep x x hx hx2 hx hx2 _ _ (ret h)
def zd8(a b:Int)(ha:0<=a)(hb:0<=b)(st:Store)(R:Ja)(h:R (bool (decide (a<b))) st):Jb 291 [.agg (jc a),.agg (jc b)] st R:=by
 refine Qy 24 Tryz.func291 ?_;refine bcd (λc1=>?_) λc1=>?_
 ·exact ret (isT h δ)
 ·refine zt (λc2=>?_) λc2=>?_
  ·refine ret ?_;have:decide (a<b)=decide (a%18446744073709551616<b%18446744073709551616):=by grind
   rw[this]at h;exact h
  ·exact ret (isF h δ)
def zas(a b:Int)(ha:0<=a)(hb:0<=b)(st:Store)(R:Ja)(h:R (bool (decide (a<b))) st):Jb 222 [.agg (jc a),.agg (jc b)] st R:=by
 refine Qy 24 Tryz.func222 ?_;refine bcd (λc1=>?_) λc1=>?_
 ·exact ret (isT h δ)
 ·refine zt (λc2=>?_) λc2=>?_
  ·refine ret ?_;have:decide (a<b)=decide (a%18446744073709551616<b%18446744073709551616):=by grind
   rw[this]at h;exact h
  ·exact ret (isF h δ)
def F9(n:Int)(st:Store)(R:Ja)(h:R (int (nrm n)) st):Jb 56 [int n] st R:=by
 refine Qy 6 Tryz.func56 ?_;refine bcd (λc1=>?_) λc1=>?_
 ·rw[show nrm n=-9223372036854775807 by unfold nrm;omega]at h;exact ret h
 ·rw[show nrm n=n by unfold nrm;omega]at h;exact ret h
def ybl(n:Int)(hn:ym n)(st:Store)(R:Ja)(h:R (int (-nrm n)) st):Jb 338 [int n] st R:=by refine Qy 6 Tryz.func338 ?_;refine F9 n _ _ ?_;have:=Ad hn;refine⟨⟨θ,θ⟩,?_⟩;rw[show -nrm n=0-nrm n by omega]at h;exact ret h
def df(a b:Int)(ha:ym a)(hb:ym b)(st:Store)(R:Ja)(h:R (int (qp a b)) st):Jb 97 [int a,int b] st R:=by
 refine Qy 28 Tryz.func97 ?_;refine F9 a _ _ (F9 b _ _ ?_);have h1:=Ad ha;have h2:=Ad hb;unfold qp at h;generalize nrm a=x at*;generalize nrm b=y at*;have k1:x+y>9223372036854775807->R (int 9223372036854775807) st:=λhh=>by grind[vp]
 have k2:x+y< -9223372036854775807->R (int (-9223372036854775807)) st:=λhh=>ψx;have k3:¬x+y>9223372036854775807->¬x+y< -9223372036854775807->ym (x+y)/\R (int (x+y)) st:=λhh hh'=>⟨⟨θ,θ⟩,by simp_all[vp]⟩
 have fin:¬x+y>9223372036854775807->¬x+y< -9223372036854775807->ym (x+y)/\∃r st',AV.le (int (x+y)) r/\st.Has st'/\R r st':=λhh hh'=>⟨(k3 hh hh').1,ret (k3 hh hh').2⟩
 refine bcd (λc1=>?_) λc1=>?_
 ·refine⟨⟨θ,θ⟩,bcd (λc2=>?_) λc2=>?_⟩
  ·exact ret (k1 θ)
  ·refine bcd (λc3=>?_) λc3=>?_
   ·omega
   ·exact fin θ θ
 ·refine bcd (λc3=>?_) λc3=>?_
  ·refine⟨⟨θ,θ⟩,bcd (λc4=>?_) λc4=>?_⟩
   ·exact ret (k2 θ)
   ·exact fin θ θ
  ·exact fin θ θ
def rl(a b:Int)(ha:ym a)(hb:ym b)(st:Store)(R:Ja)(h:R (int (qf a b)) st):Jb 295 [int a,int b] st R:=by refine Qy 9 Tryz.func295 ?_;refine ybl b hb _ _ ?_;have h2:=Ad hb;exact df a (-nrm b) ha ⟨θ,θ⟩ _ _ (ret h)
def cn(n:Int)(hn:-9223372036854775807<=n/\n<=9223372036854775807)(st:Store)(R:Ja)(h:R (u64 (asz n)) st):Jb 293 [int n] st R:=by
 refine Qy 10 Tryz.func293 ?_;unfold asz at h;rw[Ff θ]at h;refine bcd (λc1=>?_) λc1=>?_
 ·refine⟨⟨θ,θ⟩,?_⟩;rw[if_pos c1,<-j6 (v:=-n) θ θ,show -n=0-n by omega]at h;exact ret h
 ·rw[if_neg c1,<-j6 (v:=n) θ θ]at h;exact ret h
def yay(a b:Int)(ha:0<=a)(hb:0<=b)(hab:a+b<340282366920938463463374607431768211456)(st:Store)(R:Ja)(h:R (.agg (jc (a+b))) st):Jb 294 [.agg (jc a),.agg (jc b)] st R:=by
 refine Qy 27 Tryz.func294 ?_;refine bcd (λc1=>?_) λc1=>?_
 ·refine ret ((congrArg (λl=>R (.agg l) st) ?_).mpr h);simp only[Lp]at c1⊢;refine Px ?_ ?_
  ·omega
  ·omega
 ·refine ret ((congrArg (λl=>R (.agg l) st) ?_).mpr h);simp only[Lp]at c1⊢;refine Px ?_ ?_
  ·omega
  ·omega
def zes(x y c:Int)(hx:0<=x)(hy:0<=y)(hc:0<=c)(hc1:c<=1)(st:Store)(R:Ja)(h:R (.tup [u64 ((x+y+c)%18446744073709551616),u64 ((x+y+c)/18446744073709551616)]) st):
  Jb 380 [u64 x,u64 y,u64 c] st R:=by
 obtain⟨a,rfl⟩:=Fbx hx;obtain⟨b,rfl⟩:=Fbx hy;obtain⟨d,rfl⟩:=Fbx hc;exact yol Tryz.laysNm725 a b d θ h
def ze3(a b:Int)(ha:0<=a)(hb:0<=b)(hab:a+b<340282366920938463463374607431768211456)(st:Store)(R:Ja)(h:R (.agg (jc (a+b))) st):Jb 337 [.agg (jc a),.agg (jc b)] st R:=by
 refine Qy 29 Tryz.func337 ?_;refine zes (a%18446744073709551616) (b%18446744073709551616) 0 θ θ θ θ _ _ (zes (a/18446744073709551616) (b/18446744073709551616) ((a%18446744073709551616+b%18446744073709551616+0)/18446744073709551616) θ θ θ θ _ _ (ret ((congrArg (λl=>R (.agg l) st) (Px ?_ ?_)).mpr h)))
 ·omega
 ·omega
def L8{v:Vc}(h:v.ok):0<=asz v.1*asz v.1/\0<=asz v.2*asz v.2/\asz v.1*asz v.1<=85070591730234615847396907784232501249/\asz v.2*asz v.2<=85070591730234615847396907784232501249:=by
 obtain⟨h1,h2⟩:=h;have a1:=Ka h1;have a2:=Ka h2;have b:∀x:Int,0<=x->x<=9223372036854775807->0<=x*x/\x*x<=85070591730234615847396907784232501249:=by intro x h3 h4;refine⟨Fav h3 h3,?_⟩;have h5:x*x<=9223372036854775807*9223372036854775807:=Fa9 h4 h4 h3 ψ;exact h5
 grind
def ou(v:Vc)(hv:v.ok)(st:Store)(R:Ja)(h:R (.agg (jc (sqr v))) st):Jb 289 [.agg (zu v)] st R:=by refine Qy 24 Tryz.func289 ?_;have a1:=Ka hv.1;have a2:=Ka hv.2;have b:=L8 hv;exact ls v.1 hv.1 _ _ (ls v.2 hv.2 _ _ (Ve (asz v.1) θ θ _ _ (Ve (asz v.2) θ θ _ _ (ze3 _ _ θ θ θ _ _ (ret h)))))
def Py(a b:Vc)(ha:a.ok)(hb:b.ok)(st:Store)(R:Ja)(h:R (.agg (zu (qy a b))) st):Jb 290 [.agg (zu a),.agg (zu b)] st R:=by refine Qy 16 Tryz.func290 ?_;refine Qc zb zwu ?_;exact⟨H4 a.1 b.1 ha.1 hb.1 _ _ ⟨Qe,⟨H4 a.2 b.2 ha.2 hb.2 _ _ ⟨Qe,Qbq (ret h)⟩,Tv⟩⟩,Tv⟩
def Hw(a b:Vc):(qy a b).ok:=⟨Iw _ _,Iw _ _⟩
def Pw(a b:Vc)(r:Int)(ha:a.ok)(hb:b.ok)(hr:r<=9223372036854775807)(st:Store)(R:Ja)(h:R (bool (near a b r)) st):Jb 217 [.agg (zu a),.agg (zu b),int r] st R:=by
 refine Qy 17 Tryz.func217 ?_;unfold near at h;refine bcd (λc1=>?_) λc1=>?_
 ·exact ret (isF h δ)
 ·have hb2:=L8 (Hw a b);refine Py a b ha hb _ _ (ou _ (Hw a b) _ _ ((congrArg (λn=>Jb 292 [.s (.int .u64 n)] st _) (j6 (v:=r) θ θ)).mpr (Ve r θ θ _ _ (zd8 _ _ ?_ (Fav θ θ) _ _ (ret ?_)))))
  ·unfold sqr;omega
  ·have:decide (0<r/\sqr (qy a b)<r*r)=decide (sqr (qy a b)<r*r):=by grind
   rw[this]at h;exact h
def Oa(a b:Vc)(ha:a.ok)(hb:b.ok)(st:Store)(R:Ja)(h:R (.agg (zu (qy a b))) st):Jb 224 [.agg (zu a),.agg (zu b)] st R:=by refine Qy 16 Tryz.func224 ?_;refine Qc zb zxn ?_;exact⟨rl a.1 b.1 ha.1 hb.1 _ _ ⟨Qe,⟨rl a.2 b.2 ha.2 hb.2 _ _ ⟨Qe,Qbq (ret h)⟩,Tv⟩⟩,Tv⟩
theorem zed(n:Int):asz (nrm n)=asz n:=by unfold asz;rw[ye2]
def rn(v:Vc)(hv:v.ok)(st:Store)(R:Ja)(h:R (.agg (jc (sqr v))) st):Jb 223 [.agg (zu v)] st R:=by refine Qy 20 Tryz.func223 ?_;have a1:=Ka hv.1;have a2:=Ka hv.2;have b:=L8 hv;refine Qc zb zxo ⟨F9 v.1 _ _ ⟨Qe,⟨cn (nrm v.1) (Ad hv.1) _ _ ⟨Qe,⟨F9 v.2 _ _ ⟨Qe,⟨cn (nrm v.2) (Ad hv.2) _ _ ⟨Qe,?_⟩,Tv⟩⟩,Tv⟩⟩,Tv⟩⟩,Tv⟩;rw[zed,zed];exact Qbq (Qbq (Nq (asz v.1) (asz v.1) θ θ θ θ _ _ (Nq (asz v.2) (asz v.2) θ θ θ θ _ _ (yay _ _ θ θ θ _ _ (ret h)))))
def ri(a b:Vc)(r:Int)(ha:a.ok)(hb:b.ok)(hr:ym r)(st:Store)(R:Ja)(h:R (bool (near a b r)) st):Jb 147 [.agg (zu a),.agg (zu b),int r] st R:=by
 refine Qy 21 Tryz.func147 ?_;have hn:=Ad hr;unfold near at h;have hb2:=L8 (Hw a b);refine F9 r _ _ (bcd (λc1=>?_) λc1=>?_)
 ·refine ret (isF h ?_);grind[nrm]
 ·have hr0:nrm r=r:=by unfold nrm at c1⊢;omega
  rw[hr0]at c1 hn;refine Oa a b ha hb _ _ (rn _ (Hw a b) _ _ ((congrArg (λn=>Jb 225 [.s (.int .u64 n),.s (.int .u64 n)] st _) (show IntKind.u64.wrap (nrm r)=r by grind[j6])).mpr (Nq r r θ θ θ θ _ _ (zas _ _ ?_ (Fav θ θ) _ _ (ret ?_)))))
  ·unfold sqr;omega
  ·have:decide (0<r/\sqr (qy a b)<r*r)=decide (sqr (qy a b)<r*r):=by
    rw[Fbq];grind[sqr]
   rw[this]at h;exact h
def yhm(g:Gnd)(hg:zw g)(t:Nat)(ht:(t:Int)<g.W*g.H)(p:Vc)(hp:qs p.1 p.2)(r:Int)(hr:0<r/\r<=262144)(st:Store)(R:Ja)(h:R (bool (decide (ja g t p r))) st):
  Jb 214 [.agg (zq g),int t,.agg (zu p),int r] st R:=by
 have hb:=Ck hg ht;have hn:=yfg hg ht hp hr.1;have hx:=Lw hg ht;have hq:=D6 (t:=t) hg.1.1;have hq2:=D7 (t:=t) hg.1.1;have hg1:=hg.1;have hg2:=hg.2.1;have hp':=hp;unfold qs at hp';refine Qy 41 Tryz.func214 ?_;refine Qc zb zxv ?_;refine⟨θ,?_⟩;have q1:ym ((t:Int).tmod g.W*65536):=by rw[hq];unfold ym;omega
 have q2:ym ((t:Int).tdiv g.W):=ψg;have q3:ym ((t:Int).tdiv g.W*65536):=ψg;refine⟨q1,⟨θ,⟨q2,⟨q3,Qbq (Qbr ?_)⟩⟩⟩⟩;have e1:(t:Int).tmod g.W*65536=tx g t:=by rw[hq];rfl
 have e2:(t:Int).tdiv g.W*65536=ty g t:=by rw[hq2];rfl
 rw[e1,e2];refine Qd (Qd ?_);have c1:=V6 (x:=p.1) hx.1;have c2:=V6 (x:=p.2) hx.2;refine Pw p (Gs p.1 (tx g t),Gs p.2 (ty g t)) r ⟨⟨θ,θ⟩,⟨θ,θ⟩⟩ ⟨⟨θ,θ⟩,⟨θ,θ⟩⟩ θ _ _ (ret ?_);rw[hn];exact h
def uf(x lo:Int)(hx:-1099511627776<=x/\x<=1099511627776)(hlo:0<=lo/\lo<=8323072)(st:Store)(R:Ja)(h:R (int (off x lo)) st):Jb 221 [int x,int lo,int (lo+65536)] st R:=by
 refine Qy 19 Tryz.func221 ?_;unfold off at h;refine bcd (λc1=>?_) λc1=>?_
 ·refine Qd ?_;rw[if_pos c1]at h;exact ret h
 rw[if_neg c1]at h;refine bcd (λc2=>?_) λc2=>?_
 ·refine Qd ?_;rw[if_pos c2]at h;exact ret h
 rw[if_neg c2]at h;exact ret h
def zaa(g:Gnd)(hg:zw g)(t:Nat)(ht:(t:Int)<g.W*g.H)(p:Vc)(hp:qs p.1 p.2)(r:Int)(hr:0<r/\r<=262144)(st:Store)(R:Ja)(h:R (bool (decide (ja g t p r))) st):
  Jb 146 [.agg (zq g),int t,.agg (zu p),int r] st R:=by
 have hb:=Ck hg ht;have hx:=Lw hg ht;have hq:=D6 (t:=t) hg.1.1;have hq2:=D7 (t:=t) hg.1.1;have hg1:=hg.1;have hg2:=hg.2.1;have hp':=hp;unfold qs at hp';have o1:=ug hx.1 hp'.1;have o2:=ug hx.2 hp'.2;have hm:=yft o1.1 o2.1 hr.1;refine Qy 56 Tryz.func146 ?_;refine Qc zb zy4 ?_;refine⟨θ,?_⟩;have q1:ym ((t:Int).tmod g.W*65536):=by rw[hq];unfold ym;omega
 have q2:ym ((t:Int).tdiv g.W):=ψg;have q3:ym ((t:Int).tdiv g.W*65536):=ψg;refine⟨q1,⟨θ,⟨q2,⟨q3,Qbq (Qbr ?_)⟩⟩⟩⟩;have e1:(t:Int).tmod g.W*65536=tx g t:=by rw[hq];rfl
 have e2:(t:Int).tdiv g.W*65536=ty g t:=by rw[hq2];rfl
 rw[e1,e2];refine Qc zb zy3 (Qd (Qd ⟨uf p.1 (tx g t) hp'.1 hx.1 _ _ ⟨Qe,⟨uf p.2 (ty g t) hp'.2 hx.2 _ _ ⟨Tv,Qbr (Qbr ?_)⟩,Tv⟩⟩,Tv⟩));unfold ja at h;have no:¬(off p.1 (tx g t)<r/\off p.2 (ty g t)<r/\off p.1 (tx g t)*off p.1 (tx g t)+off p.2 (ty g t)*off p.2 (ty g t)<r*r)->R (bool false) st:=λhh=>isF h (decide_eq_false λk=>hh (hm.2 k));refine bcd (λc1=>bcd (λc2=>?_) λc2=>ret (no λk=>c2 k.2.1)) λc1=>ret (no λk=>c1 k.1);have s1:=br (a:=off p.1 (tx g t)) θ;have s2:=br (a:=off p.2 (ty g t)) θ;have s3:=br (a:=r) θ;exact Qd (Qd (Qd (Qd (ret h))))
def ylb(p:Vc)(r:Int)(st:Store)(R:Ja)(h:∀z:Bool,(z=true↔(0<=r/\r<=262144)/\qs p.1 p.2)->R (bool z) st):Jb 213 [.agg (zu p),int r] st R:=by
 refine Qy 15 Tryz.func213 ?_;repeat' (first|refine bcd (λ_=>?_) (λ_=>?_)|refine zh (λ_=>?_) (λ_=>?_)|refine Qd ?_|(refine yd8 p _ _ ?_;rintro(_|_) hz)|fail)
 all_goals
  refine ret (h _ ?_);simp only[decide_eq_true_eq,decide_eq_false_iff_not,Fah,false_iff,true_iff,beq_iff_eq,bne_iff_ne,beq_eq_false_iff_ne,ne_eq,reduceCtorEq,qs]at*;omega
def rt(r:Int)(hr:0<r/\r<=262144)(st:Store)(R:Ja)(h:R (int r) st):Jb 218 [int r] st R:=by
 refine Qy 6 Tryz.func218 ?_;have e:min2 (max2 r 0) 262144=r:=by rw[min2_eq,max2_eq];omega
 rw[<-e]at h;exact ret h
def zek(p:Vc)(r:Int)(q:Vc)(s:Int)(hp:p.ok)(hq:q.ok)(hr:0<r/\r<=262144)(hs:0<s/\s<=262144)(st:Store)(R:Ja)(h:R (bool (vr p r q s)) st):
  Jb 138 [.agg (zu p),int r,.agg (zu q),int s] st R:=by
 refine Qy 18 Tryz.func138 ?_;refine Qc zb zy6 ?_;exact⟨rt r hr _ _ ⟨Qe,⟨rt s hs _ _ ⟨Qe,Qd ⟨Pw p q (r+s) hp hq θ _ _ ⟨Tv,⟨⟨Tv,ret h⟩,Tv⟩⟩,Tv⟩⟩,Tv⟩⟩,Tv⟩
def yc7(p:Vc)(r:Int)(q:Vc)(s:Int)(hp:p.ok)(hq:q.ok)(hr:0<r/\r<=262144)(hs:0<s/\s<=262144)(st:Store)(R:Ja)(h:R (bool (vr p r q s)) st):
  Jb 91 [.agg (zu p),int r,.agg (zu q),int s] st R:=by
 have e1:max2 0 (min2 r 262144)=r:=by rw[min2_eq,max2_eq];omega
 have e2:max2 0 (min2 s 262144)=s:=by rw[min2_eq,max2_eq];omega
 unfold vr at h;rw[<-e1,<-e2]at h;refine Qy 20 Tryz.func91 ?_;refine ze (by rw[e1,e2];omega) ?_;exact ri p q _ hp hq (by rw[e1,e2];exact⟨θ,θ⟩) _ _ (ret h)
def Qaa{p:Prop}(h:p:=by grind):p:=h
def ym3(l:List Bld)(hl:l.length<=1000000000000)(st:Store)(R:Ja)(h:∀z:Bool,(z=true↔Og l)->R (bool z) st):Jb 203 [lst 6 zi l] st R:=by
 refine Qy 22 Tryz.func203 ?_
 refine AWp.loop (σ:=Nat) ⟨λi=>[(0,.av (lst 6 zi l)),(3,.av (int (i:Nat)))],λ_=>[],
  λi st'=>1<=i/\(i<=l.length\/i=1)/\st'=st/\∀j,(h:j<l.length)->j<i->0<j->(l[j-1]'θ).id<l[j].id,λi=>l.length-i⟩ zb ?_ ?_
 ·exact⟨1,Tv,⟨Fal _,.inr rfl,rfl,λj _ hj=>θ⟩,⟨Tq,Tq,Tv⟩,Tv⟩
 ·rintro i st' ⟨hi1,hi,rfl,hall⟩;refine zh (λh1=>?_) λh1=>?_
  ·have hlt:i<l.length:=qn h1;refine Qc zb zxx (Qd ⟨i-1,θ,za _ (zn (show i-1<l.length by omega)) ⟨i,rfl,za _ (zn hlt) (bcd (λh2=>ret (h _ ?_)) λh2=>?_)⟩⟩)
   ·simp only[Fah,false_iff];intro h3;have:=h3 i hlt θ;omega
   ·refine Qd ⟨i+1,?_,⟨θ,.inl hlt,rfl,λj hj h0 h00=>?_⟩,⟨Tq,Tq,Tv⟩,Tv⟩
    ·show l.length-(i+1)<l.length-i;omega
    ·by_cases hji:j=i
     ·subst hji;omega
     ·exact hall j hj θ h00
  ·have hge:¬i<l.length:=by
    rw[zl]at h1;simpa using h1
   refine ret (h _ ?_);simp only[true_iff];exact λj hj h0=>hall j hj θ h0
def ybz(l:List Bld)(hl:l.length<=1000000000000)(st:Store)(R:Ja)(h:∀z:Bool,(z=true↔Og l)->R (bool z) st):Jb 140 [lst 6 zi l] st R:=by
 refine Qy 22 Tryz.func140 ?_
 refine AWp.loop (σ:=Nat) ⟨λi=>[(0,.av (lst 6 zi l)),(3,.av (int (i:Nat)))],λ_=>[],
  λi st'=>1<=i/\(i<=l.length\/i=1)/\st'=st/\∀j,(h:j<l.length)->j<i->0<j->(l[j-1]'θ).id<l[j].id,λi=>l.length-i⟩ zb ?_ ?_
 ·exact⟨1,Tv,⟨Fal _,.inr rfl,rfl,λj _ hj=>θ⟩,⟨Tq,Tq,Tv⟩,Tv⟩
 ·rintro i st' ⟨hi1,hi,rfl,hall⟩;refine zh (λh1=>?_) λh1=>?_
  ·have hlt:i<l.length:=qn h1;refine Qc zb zy5 ⟨i,rfl,za _ (zn hlt) (Qd ⟨i-1,θ,za _ (zn (show i-1<l.length by omega)) (bcd (λh2=>ret (h _ ?_)) λh2=>?_)⟩)⟩
   ·simp only[Fah,false_iff];intro h3;have:=h3 i hlt θ;omega
   ·refine Qd ⟨i+1,?_,⟨θ,.inl hlt,rfl,λj hj h0 h00=>?_⟩,⟨Tq,Tq,Tv⟩,Tv⟩
    ·show l.length-(i+1)<l.length-i;omega
    ·by_cases hji:j=i
     ·subst hji;omega
     ·exact hall j hj θ h00
  ·have hge:¬i<l.length:=by
    rw[zl]at h1;simpa using h1
   refine ret (h _ ?_);simp only[true_iff];exact λj hj h0=>hall j hj θ h0
def zab(g:Gnd)(hg:zw g)(a b:Bld)(ha:yi a/\onP g a)(hb:yi b/\onP g b)(st:Store)(R:Ja)(h:∀z:Bool,(z=true↔j9 a b)->R (bool z) st):Jb 144 [.agg (zi a),.agg (zi b)] st R:=by unfold yi onP at ha hb;unfold j9 at h;unfold zw at hg;refine Qy 43 Tryz.func144 ?_;refine Qd (bcd (λc1=>Qd (bcd (λc2=>Qd (bcd (λc3=>Qd ?_) λc3=>ret (h _ Qaa))) λc2=>ret (h _ Qaa))) λc1=>ret (h _ Qaa));exact ret (h _ Qaa)
def zbh(g:Gnd)(hg:zw g)(b:Bld)(hb:yi b/\onP g b)(t:Nat)(ht:(t:Int)<g.W*g.H)(st:Store)(R:Ja)(h:∀z:Bool,(z=true↔ku g b t)->R (bool z) st):
  Jb 177 [.agg (zq g),.agg (zi b),int t] st R:=by
 have htb:=Ck hg ht;have hq:=D6 (t:=t) hg.1.1;have hq2:=D7 (t:=t) hg.1.1;unfold yi onP at hb;unfold ku at h;have hg1:=hg.1;have hg2:=hg.2.1;refine Qy 45 Tryz.func177 ?_;refine Qc zb zx3 ?_;refine⟨θ,⟨θ,Qd (Qbq (Qbr ?_))⟩⟩;rw[<-hq,<-hq2]at h;exact bcd (λc1=>Qd (bcd (λc2=>bcd (λc3=>Qd (ret (h _ Qaa))) λc3=>ret (h _ Qaa)) λc2=>ret (h _ Qaa))) λc1=>ret (h _ Qaa)
def sb(g:Gnd)(hg:zw g)(b:Bld)(hb:yi b/\onP g b)(st:Store)(R:Ja)(h:∀z:Bool,(z=true↔C9 g b)->R (bool z) st):
  Jb 143 [.agg (zq g),.agg (zi b)] st R:=by
 have hm:=qg hg;refine Qy 35 Tryz.func143 ?_
 refine AWp.loop (σ:=Nat) ⟨λi=>[(2,.bx 2 0),(3,.bx 3 0),(5,.av (int (i:Nat)))],λ_=>[(2,zq g),(3,zi b)],
  λi st'=>i<=g.T.length/\st'=st/\∀t,t<i->ku g b t->(g.T.getD t 0).toNat<=1,λi=>g.T.length-i⟩ zb ?_ ?_
 ·exact⟨0,Tv,⟨Fad _,rfl,λt ht=>θ⟩,Qbn,⟨rfl,rfl,Tv⟩⟩
 rintro i st' ⟨hi,rfl,hall⟩;refine Qd (bcd (λh1=>?_) λh1=>?_);rotate_left
 ·refine ret (h _ ?_);simp only[true_iff];intro t ht;grind
 have hlt:i<g.T.length:=θ;have hget:g.T.getD i 0=g.T[i]:=by simp[hlt]
 have next:(ku g b i->(g.T.getD i 0).toNat<=1)->∀t,t<i+1->ku g b t->(g.T.getD t 0).toNat<=1:=δ
 refine zbh g hg b hb i θ _ _ λz hz=>?_;cases z with
 |false=>
  refine Qd ⟨i+1,?_,⟨θ,rfl,next λhh=>δ⟩,Qbn,⟨rfl,rfl,Tv⟩⟩;grind
 |true=>
  refine⟨i,rfl,za _ (zn hlt) ?_⟩
  have fin:(g.T[i].toNat<=1)->∃s:Nat,g.T.length-s<g.T.length-i/\(s<=g.T.length/\st'=st'/\∀t,t<s->ku g b t->(g.T.getD t 0).toNat<=1)/\s=i+1:=
   λhh=>⟨i+1,θ,⟨θ,rfl,next λ_=>δ⟩,rfl⟩
  refine qd (λc1=>?_) λc1=>?_
  ·refine⟨i,rfl,za _ (zn hlt) (qd (λc2=>?_) λc2=>?_)⟩
   ·refine ret (h _ ?_);simp only[Fah,false_iff];intro hf;have:=hf i hlt (hz.1 rfl);grind
   ·obtain⟨s,f1,f2,rfl⟩:=fin θ;exact Qd ⟨i+1,f1,f2,Qbn,⟨rfl,rfl,Tv⟩⟩
  ·obtain⟨s,f1,f2,rfl⟩:=fin θ;exact Qd ⟨i+1,f1,f2,Qbn,⟨rfl,rfl,Tv⟩⟩
def Rc(g:Gnd)(hg:zw g)(b:Bld)(hb:yi b/\onP g b)(st:Store)(R:Ja)(h:R (y9 (Ao g.W b)) st):Jb 207 [.agg (zq g),.agg (zi b)] st R:=by
 have hb':=hb;unfold yi onP at hb';have hg1:=hg.1;have hg2:=hg.2.1;refine Qy 35 Tryz.func207 ?_
 refine AWp.loop (σ:=Nat×AV) ⟨λs=>[(2,.bx 2 0),(3,.bx 3 0),(4,.av s.2),(8,.av (int b.h)),(9,.av (int (s.1:Nat)))],λ_=>[(2,zq g),(3,zi b)],
  λs st'=>s.1<=b.h.toNat/\App 1 st s.2 (rws zx (Cy g.W b s.1)) st',λs=>b.h.toNat-s.1⟩ zb ?_ ?_
 ·exact⟨(0,_),Tv,⟨Fad _,App.start 1 st⟩,⟨Tq,Tq,Tq,Tq,Tq,Tv⟩,⟨rfl,rfl,Tv⟩⟩
 rintro⟨y,v⟩ st' ⟨hy,ha⟩;dsimp only at hy ha⊢;refine bcd (λh1=>?_) λh1=>?_;rotate_left
 ·have:y=b.h.toNat:=θ;subst this;exact⟨_,st,AV.le_trans ha.le (Tt),ha.has,h⟩
 refine AWp.loop (σ:=Nat×AV) ⟨λs=>[(2,.bx 2 0),(3,.bx 3 0),(4,.av s.2),(5,.av (int (y:Nat))),(8,.av (int b.h)),(9,.av (int (y:Nat))),(13,.av (int b.w)),(14,.av (int (s.1:Nat)))],λ_=>[(2,zq g),(3,zi b)],
  λs st'=>s.1<=b.w.toNat/\App 1 st s.2 (rws zx (Cy g.W b y++Cl g.W b y s.1)) st',λs=>b.w.toNat-s.1⟩ zb ?_ ?_
 ·refine⟨(0,v),Tv,⟨Fad _,?_⟩,Qbn,⟨rfl,rfl,Tv⟩⟩;simp_all[Cl]
 rintro⟨x,v2⟩ st2 ⟨hx,ha2⟩;dsimp only at hx ha2⊢;refine bcd (λh2=>?_) λh2=>?_;rotate_left
 ·have:x=b.w.toNat:=θ;subst this;refine Qd ⟨(y+1,v2),?_,⟨θ,?_⟩,Qbn,⟨rfl,rfl,Tv⟩⟩
  ·grind
  grind[W9]
 obtain⟨q1,q2,_⟩:=Kp hg (x:=b.x+x) (y:=b.y+y) θ θ;have hm:=qg hg;have q3:0<=g.W*(b.y+(y:Int)):=Fav θ θ;refine Qd (Qd (Qd (Qd ⟨ψ,?_⟩)));have hlen:(Cy g.W b y++Cl g.W b y x).length<=16:=by rw[Fae,ba,nz];have:y*b.w.toNat<=3*4:=Fcw θ θ;omega
 refine Ba (ie:=ti2) (rows':=[zx (b.x+(x:Int)+g.W*(b.y+(y:Int)))]) ha2 ?_ ?_ ⟨?_,?_⟩ λv3 st3 ha3=>?_
 ·rfl
 ·rfl
 ·simp only[zl,Fao,ti2];omega
 ·grind[zl]
 refine Qd ⟨(x+1,v3),?_,⟨θ,?_⟩,Qbn,⟨rfl,rfl,Tv⟩⟩
 ·grind
 ·dsimp only;rw[zg8,<-Faw];unfold rws;rw[Fa8];exact ha3
section
variable {st:Store} {v:AV}
def zcw(n:Int)(hn:ym n)(st:Store)(R:Ja)(h:R (int (nrm n/131072)) st):Jb 279 [int n] st R:=by
 refine Qy 15 Tryz.func279 ?_;refine Kz n _ _ ?_;have hb:=Ad hn;generalize nrm n=x at*;refine bcd (λc1=>?_) λc1=>?_
 ·refine⟨⟨θ,θ⟩,⟨⟨θ,θ⟩,⟨ψ,?_⟩⟩⟩;have e:(0-x-1).tdiv 131072=(0-x-1)/131072:=Faz θ;rw[e];refine⟨⟨θ,θ⟩,⟨⟨θ,θ⟩,⟨⟨θ,θ⟩,?_⟩⟩⟩;rw[show x/131072=0-((0-x-1)/131072+1) by omega]at h;exact ret h
 ·refine⟨ψ,?_⟩;have e:x.tdiv 131072=x/131072:=Faz θ;rw[e];exact⟨⟨θ,θ⟩,ret h⟩
def Gg(p:Vc)(hp:p.ok)(st:Store)(R:Ja)(h:R (.agg [int (yc p).1,int (yc p).2]) st):Jb 210 [.agg (zu p)] st R:=by refine Qy 10 Tryz.func210 ?_;refine Qc zb zxw ?_;exact⟨zcw p.1 hp.1 _ _ ⟨Qe,⟨zcw p.2 hp.2 _ _ ⟨Qe,Qbq (ret h)⟩,Tv⟩⟩,Tv⟩
def zdo(R:Ja)(h:∀a p,vx a p []->R (.s (.pointer (some ⟨p,0,none⟩))) a):Jb 132 [] Store.empty R:=by
 refine Qa (c:=cfg 5 [4] []) zb Tryz.func132 ?_;refine Ht rfl λma hma=>?_;refine Ht rfl λmi hmi=>?_;intro p hp;have h1:mi≠ma:=λe=>by have:=hmi.1;rw[e,zd]at this;cases this
 have h2:p≠mi:=λe=>by have:=hp.1;rw[e,zd]at this;cases this
 have h3:p≠ma:=λe=>by have:=hp.1;simp_all[zj,zd]
 refine ret (h _ _ ⟨ma,mi,[],0,[],[],0,⟨zd _ _ _,?_,?_,Ne.symm h1,(λg hg=>(by cases hg)),Fdw⟩,⟨Fdw,Fdw,(λg hg=>(by cases hg)),(λg hg=>(by cases hg)),(λg hg=>(by cases hg))⟩⟩)
 ·simp_all[zj,Ne.symm,zd]
 simp_all[zj,Ne.symm,zd]
def zdw{ns:List Int}(hv:Ints st v ns)(x:Int)(hlen:ns.length<4611686018427387904)(hs:ns.Pairwise (·<=·))(R:Ja)
  (h:R (.tup [int (ns.countP (·<x):Nat),bool (ns.contains x)]) st):Jb 211 [v,int x] st R:=
 zu9 Tryz.laysNm225 Tryz.func211 rfl rfl hv x hlen hs h
def zc1{b cap i j:Nat}{ns:List Int}{L:List AV}(ho:st.obj b=some (.cells (ns.map aI++L)))
  (hc1:ns.length<=cap) (hc2:cap<=9223372036854775807) (hij:i<=j) (hj:j<=ns.length) (R:Ja)
  (h:R (.s (.slice (some ⟨b,0,none⟩) (ns.take i++ns.drop j).length cap)) (st.sO b (.cells ((ns.take i++ns.drop j).map aI++(List.replicate (j-i) (aI 0)++L))))):
  Jb 226 [.s (.slice (some ⟨b,0,none⟩) ns.length cap),int i,int j] st R:=
 yld Tryz.laysNm223 Tryz.func226 rfl rfl ho hc1 hc2 hij hj h
def fz{ns:List Int}(hv:Ints st v ns){vb:Nat}(x:Int)(i:Nat)(hi:i<=ns.length)
  (hvb:st.obj vb=some (.cells [aI x])) (hne:∀b cap,v=.s (.slice (some ⟨b,0,none⟩) ns.length cap)->b≠vb) (hlen:(ns.length+1)*8<=140737488355328) (R:Ja)
  (h:∀b cap L,(Fresh st b\/∃c0,v=.s (.slice (some ⟨b,0,none⟩) ns.length c0))->(ns.take i++x::ns.drop i).length<=cap->cap<=(ns.take i++x::ns.drop i).length+L.length->cap<=9223372036854775807->
   R (.s (.slice (some ⟨b,0,none⟩) (ns.take i++x::ns.drop i).length cap)) (st.sO b (.cells ((ns.take i++x::ns.drop i).map aI++L)))):
  Jb 212 [v,int i,.s (.slice (some ⟨vb,0,none⟩) 1 1)] st R:=
 yg2 Tryz.laysNm221 Tryz.func212 rfl rfl hv x i hi hvb hne hlen h
def ii{l:List Ent}{G:List Grp}(h:Inv l G):∀g∈G,g.ns.length<=l.length:=by
 intro g hg;have h1:=(h.s g hg).1;have h2:g.ns.Nodup:=h1.imp λh e=>θ;have h3:g.ns ⊆ l.map (·.1):=λid hid=>by obtain⟨e,he,h4,_⟩:=(h.m1 g hg id).1 hid;grind
 have:=Fbs h2 h3;grind
def o6{ns:List Int}(h:ns.Pairwise (·<·)):ns.Pairwise (·<=·):=h.imp λh=>θ
def zdn{a:Store}{p:Nat}{l:List Ent}(hc:vx a p l)(hl:l.length<=1000000000)(hok:∀e∈l,e.2.ok)(id:Int)(R:Ja)
  (h:∀a',vx a' p (qx l id)->R (bool (l.find? (Az id)).isSome) a'):Jb 150 [.s (.pointer (some ⟨p,0,none⟩)),int id] a R:=by
 obtain⟨ma,mi,bs1,c1,G,bs2,c2,ha,hi⟩:=hc;refine Qy 60 Tryz.func150 ?_;refine za _ ha.hp (Ak rfl (it:=ti289) (ie:=ti33) (ik:=ti2) rfl rfl rfl rfl ha.ha rfl (qA id) (λe he=>?_) ?_)
 ·obtain⟨e,_,rfl⟩:=Fag.1 he;rfl
 rw[zb8];cases hf:l.find? (Az id)with
 |none=>
  rw[hf]at h;refine ret (h a ?_);rw[ykj hf];exact⟨ma,mi,bs1,c1,G,bs2,c2,ha,hi⟩
 |some e=>
  rw[hf]at h;obtain⟨hem,heq⟩:=Vl hf;have hid:e.1=id:=(by simpa [Az]using heq:id=e.1).symm;refine Gg e.2 (hok e hem) _ _ ?_;obtain⟨g,hg,hk⟩:=hi.m2 e hem;have hfg:∃g',G.find? (Gt (yc e.2))=some g':=by
   cases hx:G.find? (Gt (yc e.2))with
   |some g'=>simp
   |none=>grind[atKey_iff]
  obtain⟨g',hfg⟩:=hfg;have hg':=Vl hfg;have:g'=g:=ygr hi.n2 hg hg'.1 (by rw[hk];exact atKey_iff.1 hg'.2);subst this;obtain⟨j,hj1,hj2⟩:=gm hfg;obtain⟨k1,k2,k3⟩:=ha.hg g' hg;obtain⟨s1,s2⟩:=hi.s g' hg;have hin:id∈g'.ns:=(hi.m1 g' hg id).2 ⟨e,hem,hid,hk.symm⟩;obtain⟨d1,d2,d3⟩:=yle s1 hin;have hlen:=ii hi g' hg;refine Qc zb zy1 (zoo ha.hp ⟨Ak rfl (it:=ti290) (ie:=ti29) (ik:=ti33) rfl rfl rfl rfl ha.hi rfl (qG (yc e.2).1 (yc e.2).2) (λe he=>?_) ⟨Qe,?_⟩,Tv⟩)
  ·obtain⟨e,_,rfl⟩:=Fag.1 he;rfl
  rw[Pd,hfg];refine Qbq (zdw (.inr ⟨g'.b,g'.cap,g'.L,rfl,k1,k2⟩) id θ (o6 s1) _ ⟨⟨θ,θ⟩,zc1 k1 k2.1 k2.2.2 (Nat.le_add_right _ 1) d1 _ ?_⟩);generalize hns:g'.ns.take (g'.ns.countP λx=>decide (x<id))++g'.ns.drop (g'.ns.countP (λx=>decide (x<id))+1)=ns' at*;obtain⟨n1,n2,n3⟩:=ha.g_ne hg;have mid:=ha.mid (.cells (ns'.map aI++(List.replicate (g'.ns.countP (λx=>decide (x<id))+1-g'.ns.countP λx=>decide (x<id)) (aI 0)++g'.L))) n3 n1 n2;rw[show g'.ns.countP (λx=>decide (x<id))+1-g'.ns.countP (λx=>decide (x<id))=1 by omega]at mid⊢;have hnl:ns'.length+1=g'.ns.length:=δ;obtain⟨v1,v2⟩:=ygw hi hem hj2 hk d2 δ;obtain⟨i,hi1,hi2⟩:=gm hf;have her:(l.map Aj).eraseIdx i=(qx l id).map Aj:=by rw[Vq,yj3 hi.n1 hi2,hid]
  refine zt (λhz=>?_) λhz=>?_
  ·have hn0:ns'=[]:=Fa4 θ;refine Qc zb zy0 (zoo mid.hp ⟨Wj rfl rfl rfl rfl (it:=ti290) (ik:=ti33) rfl rfl rfl mid.hi rfl (qG (yc e.2).1 (yc e.2).2) (λe he=>?_) ⟨Qe,?_⟩,Tv⟩)
   ·obtain⟨e,_,rfl⟩:=Fag.1 he;rfl
   have m1:=mid.setI (G':=G.eraseIdx j) (bs2.eraseIdx j) c2 (λg1 h1=>.inl ?_) (mid.nd.sublist ((List.eraseIdx_sublist ..).map _));rotate_left
   ·obtain⟨q1,q2⟩:=(Sk (f:=Grp.key) hi.n2 hj2).1 h1;refine⟨q1,λe=>q2 ?_⟩;obtain⟨i1,hi1⟩:=Fa6.1 q1;have:=Fg (f:=λg:Grp=>g.b) ha.nd hi1 hj2 e;grind
   have e1:Du (G.map Ai) bs2 c2 (qG (yc e.2).1 (yc e.2).2)=.map ((G.eraseIdx j).map Ai) (bs2.eraseIdx j) c2:=by grind[Du,Vm,Vq]
   rw[e1];refine za _ m1.hp (Wj rfl rfl rfl rfl (it:=ti289) (ik:=ti2) rfl rfl rfl m1.ha rfl (qA id) (λe he=>?_) ?_)
   ·obtain⟨e,_,rfl⟩:=Fag.1 he;rfl
   have e2:Du (l.map Aj) bs1 c1 (qA id)=.map ((qx l id).map Aj) (bs1.eraseIdx i) c1:=by grind[Du,Vn]
   rw[e2];have m2:=m1.setA (qx l id) (bs1.eraseIdx i) c1;rw[hid]at v1;exact ret (h _ ⟨ma,mi,_,_,_,_,_,m2,v1 hn0⟩)
  ·have hn0:ns'≠[]:=λe=>by grind
   refine Qc zb zy2 (zoo mid.hp ⟨D3 (.inl rfl) rfl (it:=ti290) (ik:=ti33) rfl rfl rfl mid.hi rfl rfl (qG (yc e.2).1 (yc e.2).2) (λe he=>?_) (λe1 he hq=>?_) ⟨Qe,?_⟩,Tv⟩)
   ·obtain⟨e,_,rfl⟩:=Fag.1 he;rfl
   ·obtain⟨g1,_,rfl⟩:=Fag.1 he;have:=(atKey_iff (k:=yc e.2) (g:=g1)).1 hq;show AV.agg [int g1.x,int g1.y]=_;rw[<-this];rfl
   let g2:Grp:=⟨g'.x,g'.y,ns',g'.b,g'.cap,List.replicate 1 (aI 0)++g'.L⟩
   have e1:wg (G.map Ai) bs2 c2 (qG (yc e.2).1 (yc e.2).2) (.agg [int (yc e.2).1,int (yc e.2).2]) (.s (.slice (some ⟨g'.b,0,none⟩) ns'.length g'.cap))=.map ((G.set j g2).map Ai) bs2 c2:=by
    unfold wg;rw[Vm,hj1,List.map_set];simp only
    congr 2
    show _=(AV.agg [int g'.x,int g'.y],_)
    rw[<-hk];rfl
   have m1:=mid.setI (G':=G.set j g2) bs2 c2 (λg1 h1=>?_) (by rw[fa (λg:Grp=>g.b) (g':=g2) hj2 rfl];exact mid.nd);rotate_left
   ·rcases(Fh (f:=λg:Grp=>g.b) ha.nd hj2).1 h1 with rfl|⟨q1,q2⟩
    ·refine .inr ⟨zd _ _ _,⟨?_,?_,k2.2.2⟩,k3⟩
     ·show ns'.length<=g'.cap;have:=k2.1;omega
     ·show g'.cap<=ns'.length+(List.replicate 1 (aI 0)++g'.L).length;have:=k2.2.1;grind
    grind
   rw[<-e1]at m1;refine za _ m1.hp (Wj rfl rfl rfl rfl (it:=ti289) (ik:=ti2) rfl rfl rfl m1.ha rfl (qA id) (λe he=>?_) ?_)
   ·obtain⟨e,_,rfl⟩:=Fag.1 he;rfl
   have e2:Du (l.map Aj) bs1 c1 (qA id)=.map ((qx l id).map Aj) (bs1.eraseIdx i) c1:=by grind[Du,Vn]
   rw[e2];have m2:=m1.setA (qx l id) (bs1.eraseIdx i) c1;rw[hid]at v2;exact ret (h _ ⟨ma,mi,_,_,_,_,_,m2,v2 hn0 g2 rfl rfl⟩)
end
theorem Vr{l:List Ent}{id:Int}:∀e∈qx l id,e.1≠id:=λe he=>(mem_dropId.1 he).2
def ykk(l:List Ent)(id:Int):(qx l id).length<=l.length:=Fbk _ _
def yms{a:Store}{p:Nat}{l:List Ent}(hc:vx a p l)(hl:l.length<=1000000000)(hok:∀e∈l,e.2.ok)(id:Int)(pos:Vc)(hpos:pos.ok)(R:Ja)
  (h:∀a',vx a' p (qx l id++[(id,pos)])->R (.tup []) a'):Jb 133 [.s (.pointer (some ⟨p,0,none⟩)),int id,.agg (zu pos)] a R:=by
 refine Qa (c:=cfg 46 [38,1000038] []) zb Tryz.func133 ?_;refine zdn hc hl hok id _ λa1 hc1=>?_;obtain⟨ma,mi,bs1,c1,G,bs2,c2,ha,hi⟩:=hc1;refine Gg pos hpos _ _ ?_;obtain⟨cur,ns,e1,e2,e3,e4,e5,e6⟩:=ydt (pos:=pos) ha hi Vr;have hnl:ns.length<=1000000000:=by
  rcases e4 with rfl|⟨g,hg,rfl⟩
  ·simp
  ·have h1:=ii hi g hg;have h2:=ykk l id;omega
 have hle:=ylq id ns;refine Qc zb zy9 (zoo ha.hp ⟨Ak rfl (it:=ti290) (ie:=ti29) (ik:=ti33) rfl rfl rfl rfl ha.hi rfl (qG (yc pos).1 (yc pos).2) (λe he=>?_) ⟨Qe,?_⟩,Tv⟩)
 ·obtain⟨e,_,rfl⟩:=Fag.1 he;rfl
 rw[Pd,show Dg ti29=.s (.slice none 0 0)from rfl,e1];refine⟨zdw e2 id θ (o6 e3) _ ⟨Qe,Qbq (Qbq (Qc zb zy8 (zoo ha.hp (zoo ha.hp ⟨Ak rfl (it:=ti290) (ie:=ti29) (ik:=ti33) rfl rfl rfl rfl ha.hi rfl (qG (yc pos).1 (yc pos).2) (λe he=>?_) ⟨?_,?_⟩,?_⟩))))⟩,Tv⟩
 ·obtain⟨e,_,rfl⟩:=Fag.1 he;rfl
 ·repeat(first|exact Tv|refine⟨rfl,?_⟩|refine⟨zoo ha.hp rfl,?_⟩)
 ·rw[Pd,show Dg ti29=.s (.slice none 0 0)from rfl,e1];refine⟨⟨ψ,λvb hvb=>?_⟩,Tv⟩;have hp1:=(ha.fresh (.cells [aI id]) hvb).hp;refine⟨?_,?_⟩
  ·repeat(first|exact Tv|refine⟨rfl,?_⟩|refine⟨zoo hp1 rfl,?_⟩)
  refine⟨fz (e2.fresh _ hvb) id _ hle (zd _ _ _) (λb cap hc he=>e5 b cap hc (he▸hvb.1)) θ _ λb cap L q1 q2 q3 q4=>?_,Tv⟩;obtain⟨w1,w2,G',bs2',c2',w3,w4,w5⟩:=e6 vb _ b cap L hvb q1 q2 q3 q4;refine⟨?_,?_⟩
  ·repeat(first|exact Tv|refine⟨rfl,?_⟩|refine⟨zoo w2 rfl,?_⟩)
  refine⟨D3 (.inl rfl) rfl (it:=ti290) (ik:=ti33) rfl rfl rfl w1 rfl rfl (qG (yc pos).1 (yc pos).2) (λe he=>?_) (λe1 he hq=>?_) ⟨Qe,?_⟩,Tv⟩
  ·obtain⟨e,_,rfl⟩:=Fag.1 he;rfl
  ·obtain⟨g1,_,rfl⟩:=Fag.1 he;have:=(atKey_iff (k:=yc pos) (g:=g1)).1 hq;show AV.agg [int g1.x,int g1.y]=_;rw[<-this];rfl
  rw[w3];refine Qc zb p9 (zoo w4.hp ⟨D3 (.inl rfl) rfl (it:=ti289) (ik:=ti2) rfl rfl rfl w4.ha rfl rfl (qA id) (λe he=>?_) (λe1 he hq=>?_) ⟨Qe,?_⟩,Tv⟩)
  ·obtain⟨e,_,rfl⟩:=Fag.1 he;rfl
  ·obtain⟨g1,hg1,rfl⟩:=Fag.1 he;grind[qA,Aj,int]
  have e7:wg ((qx l id).map Aj) bs1 c1 (qA id) (int id) (.agg (zu pos))=.map ((qx l id++[(id,pos)]).map Aj) (bs1++[c1]) (c1+1):=by
   unfold wg;have:(qx l id).findIdx? (Az id)=none:=by rw[Fbn];intro e he;grind[Vr,Az]
   rw[Vn,this,Fa8];rfl
  have w6:=w4.setA (qx l id++[(id,pos)]) (bs1++[c1]) (c1+1);rw[<-e7]at w6;exact ret (h _ ⟨ma,mi,_,_,G',_,_,w6,w5⟩)
 ·refine⟨⟨ψ,λvb hvb=>?_⟩,Tv⟩;have ha1:=ha.fresh (.cells [aI id]) hvb;have hp1:=ha1.hp;refine⟨?_,?_⟩
  ·repeat(first|exact Tv|refine⟨rfl,?_⟩|refine⟨zoo hp1 rfl,?_⟩)
  refine⟨Ak rfl (it:=ti290) (ie:=ti29) (ik:=ti33) rfl rfl rfl rfl ha1.hi rfl (qG (yc pos).1 (yc pos).2) (λe he=>?_) ⟨?_,?_⟩,Tv⟩
  ·obtain⟨e,_,rfl⟩:=Fag.1 he;rfl
  ·repeat(first|exact Tv|refine⟨rfl,?_⟩|refine⟨zoo hp1 rfl,?_⟩)
  rw[Pd,show Dg ti29=.s (.slice none 0 0)from rfl,e1];refine⟨fz (e2.fresh _ hvb) id _ hle (zd _ _ _) (λb cap hc he=>e5 b cap hc (he▸hvb.1)) θ _ λb cap L q1 q2 q3 q4=>?_,Tv⟩;obtain⟨w1,w2,G',bs2',c2',w3,w4,w5⟩:=e6 vb _ b cap L hvb q1 q2 q3 q4;refine⟨?_,?_⟩
  ·repeat(first|exact Tv|refine⟨rfl,?_⟩|refine⟨zoo w2 rfl,?_⟩)
  refine⟨D3 (.inl rfl) rfl (it:=ti290) (ik:=ti33) rfl rfl rfl w1 rfl rfl (qG (yc pos).1 (yc pos).2) (λe he=>?_) (λe1 he hq=>?_) ⟨Qe,?_⟩,Tv⟩
  ·obtain⟨e,_,rfl⟩:=Fag.1 he;rfl
  ·obtain⟨g1,_,rfl⟩:=Fag.1 he;have:=(atKey_iff (k:=yc pos) (g:=g1)).1 hq;show AV.agg [int g1.x,int g1.y]=_;rw[<-this];rfl
  rw[w3];refine Qc zb p9 (zoo w4.hp ⟨D3 (.inl rfl) rfl (it:=ti289) (ik:=ti2) rfl rfl rfl w4.ha rfl rfl (qA id) (λe he=>?_) (λe1 he hq=>?_) ⟨Qe,?_⟩,Tv⟩)
  ·obtain⟨e,_,rfl⟩:=Fag.1 he;rfl
  ·obtain⟨g1,hg1,rfl⟩:=Fag.1 he;have:id=g1.1:=by simpa [qA,Aj,int]using hq
   exact absurd this.symm (Vr g1 hg1)
  have e7:wg ((qx l id).map Aj) bs1 c1 (qA id) (int id) (.agg (zu pos))=.map ((qx l id++[(id,pos)]).map Aj) (bs1++[c1]) (c1+1):=by
   unfold wg;have:(qx l id).findIdx? (Az id)=none:=by rw[Fbn];intro e he;have:=Vr e he;simp[Az];exact λh=>this h.symm
   rw[Vn,this,Fa8];rfl
  have w6:=w4.setA (qx l id++[(id,pos)]) (bs1++[c1]) (c1+1);rw[<-e7]at w6;exact ret (h _ ⟨ma,mi,_,_,G',_,_,w6,w5⟩)
def ptr(b:Nat):AV:=.s (.pointer (some ⟨b,0,none⟩))
def n7{F N:Store}(hd:zk F N){p:Nat}{l:List Ent}(hc:vx F p l){b3 b4 b5 b6:Nat}{q:Vc}{r:Int}{v:AV}{acc:List Int}(hN:NearAt N b3 b4 b5 b6 p q r v acc)(hq:q.ok)(hr:r<=9223372036854775807)
  {e:Ent} (he:l.find? (Az e.1)=some e) (hok:e.2.ok) (hlen:acc.length<=1000000000000) (R:Ja)
  (h:∀N' v',zk F N'->NearAt N' b3 b4 b5 b6 p q r v' (if near q e.2 r then acc++[e.1]else acc)->R (.tup []) (F.un N')):
  Jb 286 [int e.1,ptr b4,ptr b3,ptr b5,ptr b6] (F.un N) R:=by
 obtain⟨ma,mi,bs1,c1,G,bs2,c2,ha,hi⟩:=hc;refine Qy 19 Tryz.func286 ?_;refine Qc zb zwv ?_;refine zoo (zg hN.h4) (zoo (zg hN.h3) (zoo (yg hd ha.hp) (zoo (zg hN.h5) ?_)));refine⟨Ak rfl (it:=ti289) (ie:=ti33) (ik:=ti2) rfl rfl rfl rfl (yg hd ha.ha) rfl (qA e.1) (λe he=>?_) ⟨?_,?_⟩,Tv⟩
 ·obtain⟨e,_,rfl⟩:=Fag.1 he;rfl
 ·repeat(first|exact Tv|refine⟨rfl,?_⟩|refine⟨zoo (zg hN.h4) rfl,?_⟩|refine⟨zoo (zg hN.h5) rfl,?_⟩)
 rw[zb8,he];refine⟨Pw q e.2 r hq hok hr _ _ ⟨Tv,?_⟩,Tv⟩;cases hn:near q e.2 r with
 |false=>
  rw[hn]at h;exact ret (h N v hd hN)
 |true=>
  rw[hn]at h;refine zoo (zg hN.h6) ⟨ψ,Wg (ie:=ti2) rfl rfl rfl hN.hv.un e.1 hlen λb cap L q1 q2 q3 q4=>?_⟩;have q1':Fresh N b\/∃c0,v=.s (.slice (some ⟨b,0,none⟩) acc.length c0):=q1.imp (λh=>(fresh_un h).2) id;have hN':=hN.app q1' q2 q3 q4;rw[yd];have hd1:zk F (N.sO b (.cells ((acc++[e.1]).map aI++L))):=by
   rcases q1 with q1|⟨c0,q1⟩
   ·exact disj_setR hd (fresh_un q1).1
   ·rcases hN.hv with⟨h1,_⟩|⟨b',_,_,h1,h2,_⟩
    ·grind
    grind[M6]
  have hd2:=M6 (x:=.cells [.s (.slice (some ⟨b,0,none⟩) (acc++[e.1]).length cap)]) hd1 (b:=b6) (y:=.cells [v]) (by
   have hne:b6≠b:=by
    rcases q1' with q1|⟨c0,q1⟩
    ·exact Ne.symm (q1.ne_obj hN.h6)
    ·exact Ne.symm (hN.nv b _ _ q1).2.2.2
   rw[zj hne];exact hN.h6)
  have h6':(N.sO b (.cells ((acc++[e.1]).map aI++L))).obj b6=some (.cells [v]):=by
   have hne:b6≠b:=by
    rcases q1' with q1|⟨c0,q1⟩
    ·exact Ne.symm (q1.ne_obj hN.h6)
    ·exact Ne.symm (hN.nv b _ _ q1).2.2.2
   rw[zj hne];exact hN.h6
  refine yu (i:=ti29) (v:=.s (.slice (some ⟨b,0,none⟩) (acc++[e.1]).length cap)) (b:=b6) (o:=0) (l:=[v]) (st2:=F.un ((N.sO b (.cells ((acc++[e.1]).map aI++L))).sO b6 (.cells [.s (.slice (some ⟨b,0,none⟩) (acc++[e.1]).length cap)]))) rfl rfl rfl (zg h6') (Fal _) ?_ ?_
  ·rw[yd];rfl
  ·exact ret (h _ _ hd2 hN')
def Qab{p:Prop}(h:p:=by repeat(first|exact Tv|refine⟨rfl,?_⟩|refine⟨zoo (zg hN0.h4) rfl,?_⟩|refine⟨zoo (zg hN0.h5) rfl,?_⟩)):p:=h
def zus{st:Store}{b cap:Nat}{ns:List Int}{L:List AV}(ho:st.obj b=some (.cells (ns.map aI++L)))(hlen:ns.length<4611686018427387904)(R:Ja)
  (h:R (.tup []) (st.sO b (.cells ((ns.mergeSort λx y=>decide (x<=y)).map aI++L)))):Jb 288 [.s (.slice (some ⟨b,0,none⟩) ns.length cap)] st R:=
 zuv Tryz.lays189 Tryz.func288 rfl rfl ho hlen h
def zut{st:Store}(R:Ja)(h:R (.tup []) st):Jb 288 [.s (.slice none 0 0)] st R:=
 zuu Tryz.lays189 Tryz.func288 rfl rfl h
def H0(b3 b4 b5 b6:Nat):AV:=.clos 286 [ptr b4,ptr b3,ptr b5,ptr b6]
def ymt{F:Store}{p:Nat}{l:List Ent}(hc:vx F p l)(hl:l.length<=1000000000)(hok:∀e∈l,e.2.ok){q:Vc}(hq:q.ok){r:Int}(hr:ym r)(R:Ja)
  (h:∀F' N v ns,vx F' p l->zk F' N->Ints N v ns->Ps l q r ns->R v (F'.un N)):Jb 216 [ptr p,.agg (zu q),int r] F R:=by
 refine Qb (c:=cfg 126 [3,4,5,6] []) zb Tryz.func216 (AWp.seq (AWp.of_vc zb ?_));intro b3 hb3 b4 hb4 b5 hb5 b6 hb6;have n43:b4≠b3:=λe=>by have:=hb4.1;rw[e,zd]at this;cases this
 have n54:b5≠b4:=λe=>by have:=hb5.1;rw[e,zd]at this;cases this
 have n53:b5≠b3:=λe=>by have:=hb5.1;simp_all[zj,zd]
 have n65:b6≠b5:=λe=>by have:=hb6.1;rw[e,zd]at this;cases this
 have n64:b6≠b4:=λe=>by have:=hb6.1;simp_all[zj,zd]
 have n63:b6≠b3:=λe=>by have:=hb6.1;simp_all[zj,zd]
 have est:(((F.sO b3 (.cells [ptr p])).sO b4 (.cells (zu q))).sO b5 (.cells [int r])).sO b6 (.cells [.s (.slice none 0 0)])=
   F.un ((((Store.empty.sO b3 (.cells [ptr p])).sO b4 (.cells (zu q))).sO b5 (.cells [int r])).sO b6 (.cells [.s (.slice none 0 0)])):=by
  rw[<-yd,<-yd,<-yd,<-yd,Bc]
 have f3:Fresh F b3:=hb3;have f4:Fresh F b4:=by have:=hb4;rw[<-Bc F,yd]at this;exact(fresh_un this).1
 have f5:Fresh F b5:=by have:=hb5;rw[<-Bc F,yd,yd]at this;exact(fresh_un this).1
 have f6:Fresh F b6:=by have:=hb6;rw[<-Bc F,yd,yd,yd]at this;exact(fresh_un this).1
 have hN0:NearAt ((((Store.empty.sO b3 (.cells [ptr p])).sO b4 (.cells (zu q))).sO b5 (.cells [int r])).sO b6 (.cells [.s (.slice none 0 0)])) b3 b4 b5 b6 p q r (.s (.slice none 0 0)) []:=by
  refine⟨?_,?_,?_,zd _ _ _,.inl ⟨rfl,rfl⟩,Ne.symm n63,Ne.symm n64,Ne.symm n65,λb n cap e=>by cases e⟩
  ·rw[zj (Ne.symm n63),zj (Ne.symm n53),zj (Ne.symm n43)];exact zd _ _ _
  ·simp_all[zj,Ne.symm,zd]
  simp_all[zj,Ne.symm,zd]
 have hd0:zk F ((((Store.empty.sO b3 (.cells [ptr p])).sO b4 (.cells (zu q))).sO b5 (.cells [int r])).sO b6 (.cells [.s (.slice none 0 0)])):=
  disj_setR (disj_setR (disj_setR (disj_setR (yk5 F) f3) f4) f5) f6
 show AWp _ _ _ _ _ ((((F.sO b3 (.cells [ptr p])).sO b4 (.cells (zu q))).sO b5 (.cells [int r])).sO b6 (.cells [.s (.slice none 0 0)]));rw[est];generalize((((Store.empty.sO b3 (.cells [ptr p])).sO b4 (.cells (zu q))).sO b5 (.cells [int r])).sO b6 (.cells [.s (.slice none 0 0)]))=N0 at*;clear est hb3 hb4 hb5 hb6;refine AWp.seq (AWp.of_vc zb (zoo (zg hN0.h5) (bcd (λc1=>?_) λc1=>?_)))
 ·refine xo (i:=ti29) (v:=.s (.slice none 0 0)) (b:=b6) (o:=0) (l:=[.s (.slice none 0 0)]) rfl rfl rfl (zg hN0.h6) (Fal _) (zoo (zd _ _ _) (ret ?_));rw[yd];refine h F _ _ [] hc (M6 hd0 hN0.h6) (.inl ⟨rfl,rfl⟩) ⟨List.Pairwise.nil,λid=>⟨(λh=>ω),λ⟨e,_,_,hn⟩=>?_⟩⟩;unfold near at hn;grind
 refine AWp.seq (AWp.of_vc zb ?_);have hr0:0<r:=θ;have hr1:r<=9223372036854775807:=hr.2;have sub_q1:=Iw q.1 r;have sub_q2:=Iw q.2 r;have add_q1:=Vp q.1 r;have add_q2:=Vp q.2 r
 refine AWp.meet (σ:=Unit) ⟨λ_=>[(3,.av (ptr b3)),(4,.av (ptr b4)),(5,.av (ptr b5)),(6,.av (ptr b6)),(7,.av (H0 b3 b4 b5 b6)),(8,.bx 8 0)],λ_=>[(8,[int (yc (qf q.1 r,qf q.2 r)).1,int (yc (qf q.1 r,qf q.2 r)).2])],
  λ_ st'=>st'=F.un N0⟩ zb ?_ ?_
 ·refine Qc zb zxu (zoo (zg hN0.h4) (zoo (zg hN0.h5) (zoo (zg hN0.h4) (zoo (zg hN0.h5) ⟨H4 q.1 r hq.1 hr _ _ ⟨Qab,⟨H4 q.2 r hq.2 hr _ _ ⟨Qab,⟨Gg (qf q.1 r,qf q.2 r) ⟨sub_q1,sub_q2⟩ _ _ ⟨Qab,⟨⟨Qab,⟨⟨Qab,?_⟩,Tv⟩⟩,Tv⟩⟩,⟨⟨Qab,⟨Gg (qf q.1 r,qf q.2 r) ⟨sub_q1,sub_q2⟩ _ _ ⟨Qab,⟨⟨Qab,?_⟩,Tv⟩⟩,Tv⟩⟩,Tv⟩⟩⟩,⟨⟨Qab,⟨H4 q.2 r hq.2 hr _ _ ⟨Qab,⟨Gg (qf q.1 r,qf q.2 r) ⟨sub_q1,sub_q2⟩ _ _ ⟨Qab,⟨⟨Qab,?_⟩,Tv⟩⟩,Tv⟩⟩,Tv⟩⟩,Tv⟩⟩⟩,⟨⟨Qab,⟨H4 q.1 r hq.1 hr _ _ ⟨Qab,⟨H4 q.2 r hq.2 hr _ _ ⟨Qab,⟨Gg (qf q.1 r,qf q.2 r) ⟨sub_q1,sub_q2⟩ _ _ ⟨Qab,⟨⟨Qab,?_⟩,Tv⟩⟩,Tv⟩⟩,Tv⟩⟩,Tv⟩⟩,Tv⟩⟩))));all_goals exact⟨(),rfl,Qbn,⟨rfl,Tv⟩⟩
 rintro _ _ rfl
 refine AWp.meet (σ:=Unit) ⟨λ_=>[(3,.av (ptr b3)),(6,.av (ptr b6)),(7,.av (H0 b3 b4 b5 b6)),(8,.bx 8 0),(9,.bx 9 0)],λ_=>[(8,[int (yc (qf q.1 r,qf q.2 r)).1,int (yc (qf q.1 r,qf q.2 r)).2]),(9,[int (yc (qp q.1 r,qp q.2 r)).1,int (yc (qp q.1 r,qp q.2 r)).2])],
  λ_ st'=>st'=F.un N0⟩ zb ?_ ?_
 ·refine Qc zb zxt (zoo (zg hN0.h4) (zoo (zg hN0.h5) (zoo (zg hN0.h4) (zoo (zg hN0.h5) ⟨Kd q.1 r hq.1 hr _ _ ⟨Qab,⟨Kd q.2 r hq.2 hr _ _ ⟨Qab,⟨Gg (qp q.1 r,qp q.2 r) ⟨add_q1,add_q2⟩ _ _ ⟨Qab,⟨⟨Qab,⟨⟨Qab,?_⟩,Tv⟩⟩,Tv⟩⟩,⟨⟨Qab,⟨Gg (qp q.1 r,qp q.2 r) ⟨add_q1,add_q2⟩ _ _ ⟨Qab,⟨⟨Qab,?_⟩,Tv⟩⟩,Tv⟩⟩,Tv⟩⟩⟩,⟨⟨Qab,⟨Kd q.2 r hq.2 hr _ _ ⟨Qab,⟨Gg (qp q.1 r,qp q.2 r) ⟨add_q1,add_q2⟩ _ _ ⟨Qab,⟨⟨Qab,?_⟩,Tv⟩⟩,Tv⟩⟩,Tv⟩⟩,Tv⟩⟩⟩,⟨⟨Qab,⟨Kd q.1 r hq.1 hr _ _ ⟨Qab,⟨Kd q.2 r hq.2 hr _ _ ⟨Qab,⟨Gg (qp q.1 r,qp q.2 r) ⟨add_q1,add_q2⟩ _ _ ⟨Qab,⟨⟨Qab,?_⟩,Tv⟩⟩,Tv⟩⟩,Tv⟩⟩,Tv⟩⟩,Tv⟩⟩))));all_goals exact⟨(),rfl,Qbn,⟨rfl,rfl,Tv⟩⟩
 rintro _ _ rfl;have hab:=yci hq hr0 hr1;have hA:=zdr (p:=(qf q.1 r,qf q.2 r)) ⟨Iw _ _,Iw _ _⟩;have hB:=zdr (p:=(qp q.1 r,qp q.2 r)) ⟨Vp _ _,Vp _ _⟩;have hrect:∀e∈l,near q e.2 r=true->_:=λe he hn=>yfe hq (hok e he) hr0 hr1 hn;generalize yc (qf q.1 r,qf q.2 r)=A0 at*;generalize yc (qp q.1 r,qp q.2 r)=B0 at*;obtain⟨ax,ay⟩:=A0;obtain⟨bx,by'⟩:=B0;dsimp only at hab hA hB hrect⊢;refine AWp.meetA (σ:=Store×Store×AV×List Int) ⟨λ_=>[(6,.av (ptr b6))],λ_=>[],λs st'=>st'=s.1.un s.2.1/\zk s.1 s.2.1/\vx s.1 p l/\NearAt s.2.1 b3 b4 b5 b6 p q r s.2.2.1 s.2.2.2/\NearIn l q r (λ_=>True) s.2.2.2⟩ ?_ ?_
 ·obtain⟨ma,mi,bs1,cl1,G,bs2,cl2,ha,hi⟩:=hc;have hgl:(G.map Ai).length<=l.length:=by rw[Fas];exact yhv hi
  have slots:∀b:Bool,LV.le (.av (bool b)) (.av (bool b)):=λb=>Tq;refine AWp.seq (AWp.of_vc zb (zoo (zg hN0.h3) (zoo (yg hd0 ha.hp) (zoo (yg hd0 ha.hi) ⟨⟨θ,θ⟩,?_⟩))))
  refine AWp.meet (σ:=Bool) ⟨λb=>[(3,.av (ptr b3)),(6,.av (ptr b6)),(7,.av (H0 b3 b4 b5 b6)),(8,.bx 8 0),(9,.bx 9 0),(77,.av (bool b))],λ_=>[(8,[int ax,int ay]),(9,[int bx,int by'])],
   λb st'=>st'=F.un N0⟩ zb ?_ ?_
  ·refine⟨⟨θ,θ⟩,bcd (λd1=>?_) λd1=>?_⟩
   ·exact⟨true,rfl,Qbn,⟨rfl,rfl,Tv⟩⟩
   refine⟨⟨θ,θ⟩,bcd (λd2=>?_) λd2=>?_⟩
   ·exact⟨true,rfl,Qbn,⟨rfl,rfl,Tv⟩⟩
   have m1:(bx-ax+1)*(by'-ay+1)<=1000000002*1000000002:=Fa9 θ θ θ ψ;have m0:0<=(bx-ax+1)*(by'-ay+1):=Fav θ θ;exact⟨⟨θ,θ⟩,⟨⟨θ,θ⟩,⟨⟨θ,θ⟩,⟨⟨θ,θ⟩,⟨⟨θ,θ⟩,⟨_,rfl,⟨Tq,Tq,Tq,Tq,Tq,Tq,Tv⟩,⟨rfl,rfl,Tv⟩⟩⟩⟩⟩⟩⟩
  rintro b _ rfl;refine AWp.of_vc zb ?_;cases b with
  |true=>
   refine zoo (zg hN0.h3) (zoo (yg hd0 ha.hp) (yoc (yg hd0 ha.ha) λhst=>yoe rfl (it:=ti289) rfl rfl (yg hd0 ha.ha) λbi hbi=>?_));have fbi:=fresh_un hbi;have nbi:¬N0.has bi:=fresh_iff.1 fbi.2;rw[Al nbi]
   refine AWp.loop (σ:=List Nat×Store×AV×List Int) ⟨λ_=>[(6,.av (ptr b6)),(7,.av (H0 b3 b4 b5 b6)),(82,.av (ptr bi))],λ_=>[],
    λs st'=>st'=(F.sO bi (.iter ma cl1 s.1 cl1)).un s.2.1/\zk (F.sO bi (.iter ma cl1 s.1 cl1)) s.2.1/\NearAt s.2.1 b3 b4 b5 b6 p q r s.2.2.1 s.2.2.2/\s.1.Nodup/\(∀t∈s.1,t∈bs1)∧
     NearIn l q r (λe=>∃(i t:Nat),l[i]?=some e/\bs1[i]?=some t/\t∈s.1) s.2.2.2,λs=>bs1.length-s.1.length⟩ zb ?_ ?_
   ·exact⟨([],N0,_,[]),Tv,⟨rfl,Bq hd0 nbi,hN0,Fdw,(λt ht=>(by cases ht)),Fdw,λid=>⟨(λh=>ω),λ⟨e,_,_,_,i,t,_,_,h⟩=>ω⟩⟩,⟨Tq,Tq,Tq,Tv⟩,Tv⟩
   rintro⟨seen,N,v,acc⟩ st' ⟨rfl,hd,hN,hs1,hs2,hacc⟩;dsimp only at hd hN hs1 hs2 hacc⊢;have hF1:CellsAt (F.sO bi (.iter ma cl1 seen cl1)) p ma mi l bs1 cl1 G bs2 cl2:=ha.fresh _ fbi.1;refine yof rfl (yg hd (zd _ _ _)) (yg hd hF1.ha) (λhall=>?_) λi e t he ht hnt=>?_
   ·refine⟨(F.sO bi (.iter ma cl1 seen cl1),N,v,acc),⟨rfl,hd,⟨ma,mi,_,_,_,_,_,hF1,hi⟩,hN,?_⟩,⟨Tq,Tv⟩,Tv⟩;refine hacc.congr λe he _=>⟨λ_=>trivial,λ_=>?_⟩
    obtain⟨i,hi'⟩:=Fa6.1 he;have hlt:i<bs1.length:=by have h1:=hst.len;have h2:=(Fax.1 hi').1;rw[Fas]at h1;omega
    exact⟨i,bs1[i],hi',Fac hlt,hall _ (Faa hlt)⟩
   ·obtain⟨e0,he0,rfl⟩:∃e0,l[i]?=some e0/\Aj e0=e:=by
     rw[Far]at he;cases hx:l[i]? with
     |none=>rw[hx]at he;cases he
     |some e0=>rw[hx]at he;simp at he;exact⟨e0,rfl,he⟩
    have hem:=Fa3 he0;obtain⟨hd',nb⟩:=yk4 (y:=.iter ma cl1 (seen++[t]) cl1) hd;have hF2:CellsAt (F.sO bi (.iter ma cl1 (seen++[t]) cl1)) p ma mi l bs1 cl1 G bs2 cl2:=ha.fresh _ fbi.1;rw[Al nb,yy];refine yoi rfl (yg hd' (zd _ _ _)) (yg hd' hF2.ha) he ht (n7 hd' ⟨ma,mi,_,_,_,_,_,hF2,hi⟩ hN hq hr1 (zb2 hi.n1 hem) (hok _ hem) (by have:=hacc.len;omega) _ λN' v' hdd hN'=>⟨(seen++[t],N',v',_),?_,⟨rfl,hdd,hN',?_,?_,?_⟩,⟨Tq,Tq,Tq,Tv⟩,Tv⟩)
    ·have h1:(seen++[t]).Nodup:=by
      rw[Fdf];exact⟨hs1,φ,λa ha b hb=>by simp at hb;subst hb;exact λe=>hnt (e▸ha)⟩
     have h2:=Fbs (l₂:=bs1) h1 (λx hx=>by
      rcases Fat.1 hx with hx|hx
      ·exact hs2 x hx
      ·simp at hx;subst hx;exact Fa3 ht)
     rw[Fae]at h2;show bs1.length-(seen++[t]).length<bs1.length-seen.length;rw[Fae];simp at h2⊢;omega
    ·show(seen++[t]).Nodup;rw[Fdf];exact⟨hs1,φ,λa ha b hb=>by simp at hb;subst hb;exact λe=>hnt (e▸ha)⟩
    ·intro x hx;rcases Fat.1 hx with hx|hx
     ·exact hs2 x hx
     ·simp at hx;subst hx;exact Fa3 ht
    ·refine(hacc.step hi.n1 hem λhh=>?_).congr λe' he' _=>⟨λhh=>?_,λhh=>?_⟩
     ·obtain⟨i',t',h1,h2,h3⟩:=hh;have:=Fg (f:=λe:Ent=>e.1) hi.n1 h1 he0 rfl;subst this;rw[ht]at h2;cases h2;exact hnt h3
     ·rcases hh with⟨i',t',h1,h2,h3⟩|rfl
      ·exact⟨i',t',h1,h2,Fdi _ h3⟩
      ·exact⟨i,t,he0,ht,φ⟩
     ·obtain⟨i',t',h1,h2,h3⟩:=hh;rcases Fat.1 h3 with h3|h3
      ·exact .inl ⟨i',t',h1,h2,h3⟩
      ·simp at h3;subst h3;right;have hinc:=hst.inc;have:i'=i:=by
        have hn:(bs1.map id).Nodup:=by rw[List.map_id];exact hinc.imp λh e=>θ
        exact Fg (f:=id) hn h2 ht rfl
       subst this;rw[he0]at h1;cases h1;rfl
  |false=>
   refine AWp.loop (σ:=Int×Store×AV×List Int) ⟨λs=>[(3,.av (ptr b3)),(6,.av (ptr b6)),(7,.av (H0 b3 b4 b5 b6)),(8,.bx 8 0),(9,.bx 9 0),(12,.av (int s.1))],λ_=>[(8,[int ax,int ay]),(9,[int bx,int by'])],
    λs st'=>st'=F.un s.2.1/\zk F s.2.1/\NearAt s.2.1 b3 b4 b5 b6 p q r s.2.2.1 s.2.2.2/\(ax<=s.1/\s.1<=bx+1)/\NearIn l q r (λe=>(yc e.2).1<s.1) s.2.2.2,λs=>(bx+1-s.1).toNat⟩ zb ?_ ?_
   ·refine⟨(ax,N0,_,[]),Tv,⟨rfl,hd0,hN0,⟨Fcu _,θ⟩,Fdw,λid=>⟨(λh=>ω),λ⟨e,he,_,hn,h⟩=>?_⟩⟩,⟨Tq,Tq,Tq,Tq,Tq,Tq,Tv⟩,⟨rfl,rfl,Tv⟩⟩;have:=hrect e he hn;dsimp only at h;omega
   rintro⟨x,N,v,acc⟩ st' ⟨rfl,hd,hN,hx,hacc⟩;dsimp only at hd hN hx hacc⊢;refine bcd (λx1=>?_) λx1=>?_;rotate_left
   ·refine⟨(F,N,v,acc),⟨rfl,hd,⟨ma,mi,_,_,_,_,_,ha,hi⟩,hN,?_⟩,⟨Tq,Tv⟩,Tv⟩;refine hacc.congr λe he hn=>⟨λ_=>trivial,λ_=>?_⟩
    have:=hrect e he hn;omega
   refine AWp.loop (σ:=Int×Store×AV×List Int) ⟨λs=>[(3,.av (ptr b3)),(6,.av (ptr b6)),(7,.av (H0 b3 b4 b5 b6)),(8,.bx 8 0),(9,.bx 9 0),(12,.av (int x)),(13,.av (int s.1))],λ_=>[(8,[int ax,int ay]),(9,[int bx,int by'])],
    λs st'=>st'=F.un s.2.1/\zk F s.2.1/\NearAt s.2.1 b3 b4 b5 b6 p q r s.2.2.1 s.2.2.2/\(ay<=s.1/\s.1<=by'+1)/\NearIn l q r (λe=>(yc e.2).1<x\/((yc e.2).1=x/\(yc e.2).2<s.1)) s.2.2.2,λs=>(by'+1-s.1).toNat⟩ zb ?_ ?_
   ·refine⟨(ay,N,v,acc),Tv,⟨rfl,hd,hN,⟨Fcu _,θ⟩,hacc.congr λe he hn=>⟨.inl,λh=>h.elim id λh=>?_⟩⟩,Qbn,⟨rfl,rfl,Tv⟩⟩;have:=hrect e he hn;dsimp only at h;omega
   clear hN hacc hd;rintro⟨y,N,v,acc⟩ st' ⟨rfl,hd,hN,hy,hacc⟩;dsimp only at hd hN hy hacc⊢;refine bcd (λy1=>?_) λy1=>?_;rotate_left
   ·refine⟨⟨θ,θ⟩,⟨(x+1,N,v,acc),?_,⟨rfl,hd,hN,ζ,hacc.congr λe he hn=>?_⟩,Qbn,⟨rfl,rfl,Tv⟩⟩⟩
    ·show(bx+1-(x+1)).toNat<(bx+1-x).toNat;omega
    ·have:=hrect e he hn;dsimp only;omega
   refine zoo (zg hN.h3) (zoo (yg hd ha.hp) (Ak rfl (it:=ti290) (ie:=ti29) (ik:=ti33) rfl rfl rfl rfl (yg hd ha.hi) rfl (qG x y) (λe he=>?_) ?_))
   ·obtain⟨e,_,rfl⟩:=Fag.1 he;rfl
   rw[Pd G (x,y),show Dg ti29=.s (.slice none 0 0)from rfl];cases hf:G.find? (Gt (x,y))with
   |none=>
    refine AWp.loop (σ:=Unit) ⟨λ_=>[(3,.av (ptr b3)),(6,.av (ptr b6)),(7,.av (H0 b3 b4 b5 b6)),(8,.bx 8 0),(9,.bx 9 0),(12,.av (int x)),(13,.av (int y)),(114,.av (int 0)),(115,.av (int 0))],λ_=>[(8,[int ax,int ay]),(9,[int bx,int by'])],
     λ_ st'=>st'=F.un N,λ_=>0⟩ zb ?_ ?_
    ·exact⟨(),Tv,rfl,Qbn,⟨rfl,rfl,Tv⟩⟩
    rintro _ st' rfl
    ·refine⟨⟨θ,θ⟩,⟨(y+1,N,v,acc),?_,⟨rfl,hd,hN,ζ,hacc.congr λe he hn=>?_⟩,Qbn,⟨rfl,rfl,Tv⟩⟩⟩
     ·show(by'+1-(y+1)).toNat<(by'+1-y).toNat;omega
     ·have hne:yc e.2≠(x,y):=λhk=>by
       obtain⟨g,hg,hgk⟩:=hi.m2 e he;exact List.find?_eq_none.1 hf g hg (atKey_iff.2 (by rw[hgk,hk]))
      have:¬((yc e.2).1=x/\(yc e.2).2=y):=λ⟨h1,h2⟩=>hne (Prod.ext h1 h2);dsimp only;omega
   |some g=>
    obtain⟨hg,hgk⟩:=Vl hf;have hgk:=atKey_iff.1 hgk;obtain⟨k1,k2,k3⟩:=ha.hg g hg;have gs:=(hi.s g hg).1;have gl:=ii hi g hg
    refine AWp.loop (σ:=Nat×Store×AV×List Int) ⟨λs=>[(3,.av (ptr b3)),(6,.av (ptr b6)),(7,.av (H0 b3 b4 b5 b6)),(8,.bx 8 0),(9,.bx 9 0),(12,.av (int x)),(13,.av (int y)),(113,.av (.s (.slice (some ⟨g.b,0,none⟩) g.ns.length g.cap))),(114,.av (int g.ns.length)),(115,.av (int (s.1:Nat)))],
     λ_=>[(8,[int ax,int ay]),(9,[int bx,int by'])],
     λs st'=>st'=F.un s.2.1/\zk F s.2.1/\NearAt s.2.1 b3 b4 b5 b6 p q r s.2.2.1 s.2.2.2/\s.1<=g.ns.length/\NearIn l q r (λe=>((yc e.2).1<x\/((yc e.2).1=x/\(yc e.2).2<y))\/(yc e.2=(x,y)/\e.1∈g.ns.take s.1)) s.2.2.2,λs=>g.ns.length-s.1⟩ zb ?_ ?_
    ·exact⟨(0,N,v,acc),Tv,⟨rfl,hd,hN,Fad _,hacc.congr λe he hn=>⟨.inl,λh=>h.elim id λh=>(by cases h.2)⟩⟩,Qbn,⟨rfl,rfl,Tv⟩⟩
    clear hN hacc hd;rintro⟨idx,N,v,acc⟩ st' ⟨rfl,hd,hN,hidx,hacc⟩;dsimp only at hd hN hidx hacc⊢;refine bcd (λz1=>?_) λz1=>?_;rotate_left
    ·have hie:idx=g.ns.length:=θ;subst hie;refine⟨⟨θ,θ⟩,⟨(y+1,N,v,acc),?_,⟨rfl,hd,hN,ζ,hacc.congr λe he hn=>?_⟩,Qbn,⟨rfl,rfl,Tv⟩⟩⟩
     ·show(by'+1-(y+1)).toNat<(by'+1-y).toNat;omega
     ·rw[Fak];have h1:yc e.2=(x,y)↔((yc e.2).1=x/\(yc e.2).2=y):=⟨λh=>by rw[h];exact⟨rfl,rfl⟩,λ⟨h1,h2⟩=>Prod.ext h1 h2⟩
      have h2:yc e.2=(x,y)->e.1∈g.ns:=λh=>(hi.m1 g hg e.1).2 ⟨e,he,rfl,by rw[h,hgk]⟩;dsimp only;constructor
      ·rintro(h|⟨h,_⟩)
       ·omega
       ·have:=h1.1 h;omega
      ·intro h;by_cases h3:yc e.2=(x,y)
       ·exact .inr ⟨h3,h2 h3⟩
       ·have h4:¬((yc e.2).1=x/\(yc e.2).2=y):=λhh=>h3 (h1.2 hh);left;omega
    have hlt:idx<g.ns.length:=θ;have hidm:g.ns[idx]∈g.ns:=Faa hlt;obtain⟨e,hem,heid,hek⟩:=(hi.m1 g hg g.ns[idx]).1 hidm;refine⟨idx,rfl,hlt,zoo (yg hd k1) ?_⟩;refine za (o:=List.head? _) (int e.1) (by rw[Fbv,show 0+idx*ti2.size=idx from by show 0+idx*1=idx;omega,Fap (by simpa using hlt),Far,Fac hlt,heid];rfl) ?_;refine n7 hd ⟨ma,mi,_,_,_,_,_,ha,hi⟩ hN hq hr1 (zb2 hi.n1 hem) (hok _ hem) (by have:=hacc.len;omega) _ λN' v' hdd hN'=>⟨⟨θ,θ⟩,⟨(idx+1,N',v',_),?_,⟨rfl,hdd,hN',hlt,?_⟩,⟨Tq,Tq,Tq,Tq,Tq,Tq,Tq,Tq,Tq,Tq,Tv⟩,⟨rfl,rfl,Tv⟩⟩⟩
    ·show g.ns.length-(idx+1)<g.ns.length-idx;omega
    ·have hkey:yc e.2=(x,y):=by rw[hek,hgk]
     have hnot:e.1∉g.ns.take idx:=by
      rw[heid];intro hh;obtain⟨j,hj⟩:=Fa6.1 hh;have hjlt:j<idx:=by have:=(Fax.1 hj).1;simp at this;omega
      rw[Fb1 hjlt]at hj;have h5:=Fcn.1 gs j idx θ hlt hjlt;rw[Fac θ]at hj;have hj':=Option.some.inj hj;rw[hj']at h5;exact absurd h5 (Int.lt_irrefl _)
     refine(hacc.step hi.n1 hem λhh=>?_).congr λe' he' _=>?_
     ·rcases hh with hh|⟨_,hh⟩
      ·rw[hkey]at hh;dsimp only at hh;omega
      ·exact hnot hh
     ·dsimp only;rw[Fab hlt,Fat];constructor
      ·rintro((h|⟨h,h'⟩)|rfl)
       ·exact .inl h
       ·exact .inr ⟨h,.inl h'⟩
       ·exact .inr ⟨hkey,.inr (by simp[heid])⟩
      ·rintro(h|⟨h,h'|h'⟩)
       ·exact .inl (.inl h)
       ·exact .inl (.inr ⟨h,h'⟩)
       ·right;have:e'.1=e.1:=by rw[heid];simpa using h'
        exact O8 hi.n1 hem he' this
 ·rintro⟨F',N,v,acc⟩ st' ⟨rfl,hd,hc',hN,hacc⟩;dsimp only at hd hc' hN hacc⊢;refine AWp.of_vc zb (zoo (zg hN.h6) ?_);have hms:=yfr hacc.1;have hnear:Ps l q r (acc.mergeSort λx y=>decide (x<=y)):=⟨hms.1,λid=>by
   rw[hms.2,hacc.2 id];constructor
   ·rintro⟨e,h1,h2,h3,_⟩;exact⟨e,h1,h2,h3⟩
   ·rintro⟨e,h1,h2,h3⟩;exact⟨e,h1,h2,h3,Tv⟩⟩
  have hal:=hacc.len;have hml:(acc.mergeSort λx y=>decide (x<=y)).length=acc.length:=List.length_mergeSort acc;rcases O3 hN.hv with⟨rfl,rfl⟩|⟨b,cap,L,rfl,ho,h1,h2,h3⟩
  ·refine zut _ (zoo (zg hN.h6) (xo (i:=ti29) (v:=.s (.slice none 0 0)) (b:=b6) (o:=0) (l:=[.s (.slice none 0 0)]) rfl rfl rfl (zg hN.h6) (Fal _) (zoo (zd _ _ _) (ret ?_))));rw[yd];exact h F' _ _ _ hc' (M6 hd hN.h6) (.inl ⟨rfl,φ⟩) hnear
  ·refine zus (zg ho) θ _ ?_;have hb6:b6≠b:=Ne.symm (hN.nv b _ _ rfl).2.2.2;have h6:((F'.un N).sO b (.cells ((acc.mergeSort λx y=>decide (x<=y)).map aI++L))).obj b6=some (.cells [.s (.slice (some ⟨b,0,none⟩) acc.length cap)]):=by rw[zj hb6];exact zg hN.h6
   refine zoo h6 (xo (i:=ti29) (v:=.s (.slice (some ⟨b,0,none⟩) acc.length cap)) (b:=b6) (o:=0) (l:=[.s (.slice (some ⟨b,0,none⟩) acc.length cap)]) rfl rfl rfl h6 (Fal _) (zoo (zd _ _ _) (ret ?_)));rw[yd,yd];refine h F' _ _ _ hc' (M6 (M6 hd ho) (by rw[zj hb6];exact hN.h6)) (.inr ⟨b,cap,L,?_,?_,?_,?_,h3⟩) hnear
   ·rw[hml];rfl
   ·rw[zj (Ne.symm hb6)];exact zd _ _ _
   ·omega
   ·omega
def ygz(l:List Int)(hl:l.length<=1000000000000)(fn:FuncId)(cap:List AV)(q:Int->Bool)(st:Store)(hf:∀x∈l,∀R:AV->Store->Prop,R (bool (q x)) st->Jb fn ([int x]++cap) st R)
  (R:Ja) (h:R (int (Bz (l.findIdx? q))) st):Jb 331 [lst 1 zx l,.clos fn cap] st R:=by
 refine Qy 19 Tryz.func331 ?_
 refine AWp.loop (σ:=Nat) ⟨λi=>[(0,.av (lst 1 zx l)),(1,.av (.clos fn cap)),(7,.av (int (l.length:Nat))),(8,.av (int (i:Nat)))],λ_=>[],
  λi st'=>i<=l.length/\st'=st/\∀j,(hj:j<l.length)->j<i->q l[j]=false,λi=>l.length-i⟩ zb ?_ ?_
 ·refine⟨0,Tv,⟨Fad _,rfl,λj _ hj=>θ⟩,⟨Tq,Tq,?_,Tq,Tv⟩,Tv⟩;rw[<-zl (f:=zx) l];exact Tq
 rintro i st' ⟨hi,rfl,hall⟩;refine bcd (λh1=>?_) λh1=>?_;rotate_left
 ·have e:l.findIdx? q=none:=by
   rw[Fbn];intro x hx;obtain⟨j,hj,rfl⟩:=Fai hx;exact hall j hj θ
  rw[e]at h;exact ret h
 have hlt:i<l.length:=θ;refine⟨i,rfl,za _ (zn hlt) (hf l[i] (Faa hlt) _ (zh (λh2=>?_) λh2=>?_))⟩
 ·have e:l.findIdx? q=some i:=by
   rw[Fa5];exact⟨hlt,h2,λj hj=>by rw[hall j θ hj];decide⟩
  rw[e]at h;exact ret h
 ·refine Qd ⟨i+1,?_,⟨θ,rfl,λj hj hj2=>?_⟩,Qbn,Tv⟩
  ·show l.length-(i+1)<l.length-i;omega
  ·by_cases e:j=i
   ·subst e;exact h2
   ·exact hall j hj θ
def yg0(l:List Int)(hl:l.length<=1000000000000)(fn:FuncId)(cap:List AV)(q:Int->Bool)(st:Store)(hf:∀x∈l,∀R:AV->Store->Prop,R (bool (q x)) st->Jb fn ([int x]++cap) st R)
  (R:Ja) (h:R (bool (l.any q)) st):Jb 277 [lst 1 zx l,.clos fn cap] st R:=by
 refine Qy 9 Tryz.func277 ?_;refine ygz l hl fn cap q st hf _ ?_;have e:decide ((0:Int)<=Bz (l.findIdx? q))=l.any q:=by
  cases hx:l.findIdx? q with
  |none=>
   rw[Fbn]at hx;rw[show decide ((0:Int)<=Bz none)=false from ψ];symm;rw[Fdg];intro x hm;rw[hx x hm];decide
  |some i=>
   rw[Fa5]at hx;obtain⟨hi,h1,_⟩:=hx;rw[show decide ((0:Int)<=Bz (some i))=true from by simp[Bz]];symm;rw[Fdn];exact⟨l[i],Faa hi,h1⟩
 rw[<-e]at h;exact ret h
def zd1(l:List Bld)(hl:l.length<=1000000000000)(fn:FuncId)(cap:List AV)(q:Bld->Bool)(st:Store)(hf:∀x∈l,∀R:AV->Store->Prop,R (bool (q x)) st->Jb fn ([.agg (zi x)]++cap) st R)
  (R:Ja) (h:R (int (Bz (l.findIdx? q))) st):Jb 208 [lst 6 zi l,.clos fn cap] st R:=by
 refine Qy 19 Tryz.func208 ?_
 refine AWp.loop (σ:=Nat) ⟨λi=>[(0,.av (lst 6 zi l)),(1,.av (.clos fn cap)),(7,.av (int (l.length:Nat))),(8,.av (int (i:Nat)))],λ_=>[],
  λi st'=>i<=l.length/\st'=st/\∀j,(hj:j<l.length)->j<i->q l[j]=false,λi=>l.length-i⟩ zb ?_ ?_
 ·refine⟨0,Tv,⟨Fad _,rfl,λj _ hj=>θ⟩,⟨Tq,Tq,?_,Tq,Tv⟩,Tv⟩;rw[<-zl (f:=zi) l];exact Tq
 rintro i st' ⟨hi,rfl,hall⟩;refine bcd (λh1=>?_) λh1=>?_;rotate_left
 ·have e:l.findIdx? q=none:=by
   rw[Fbn];intro x hx;obtain⟨j,hj,rfl⟩:=Fai hx;exact hall j hj θ
  rw[e]at h;exact ret h
 have hlt:i<l.length:=θ;refine⟨i,rfl,za _ (zn hlt) (hf l[i] (Faa hlt) _ (zh (λh2=>?_) λh2=>?_))⟩
 ·have e:l.findIdx? q=some i:=by
   rw[Fa5];exact⟨hlt,h2,λj hj=>by rw[hall j θ hj];decide⟩
  rw[e]at h;exact ret h
 ·refine Qd ⟨i+1,?_,⟨θ,rfl,λj hj hj2=>?_⟩,Qbn,Tv⟩
  ·show l.length-(i+1)<l.length-i;omega
  ·by_cases e:j=i
   ·subst e;exact h2
   ·exact hall j hj θ
def zd2(l:List Bld)(hl:l.length<=1000000000000)(fn:FuncId)(cap:List AV)(q:Bld->Bool)(st:Store)(hf:∀x∈l,∀R:AV->Store->Prop,R (bool (q x)) st->Jb fn ([.agg (zi x)]++cap) st R)
  (R:Ja) (h:R (bool (l.any q)) st):Jb 128 [lst 6 zi l,.clos fn cap] st R:=by
 refine Qy 9 Tryz.func128 ?_;refine zd1 l hl fn cap q st hf _ ?_;have e:decide ((0:Int)<=Bz (l.findIdx? q))=l.any q:=by
  cases hx:l.findIdx? q with
  |none=>
   rw[Fbn]at hx;rw[show decide ((0:Int)<=Bz none)=false from ψ];symm;rw[Fdg];intro x hm;rw[hx x hm];decide
  |some i=>
   rw[Fa5]at hx;obtain⟨hi,h1,_⟩:=hx;rw[show decide ((0:Int)<=Bz (some i))=true from by simp[Bz]];symm;rw[Fdn];exact⟨l[i],Faa hi,h1⟩
 rw[<-e]at h;exact ret h
def yjn(g:Gnd)(p:Nat)(t:Nat)(ht:t<g.T.length)(st:Store)(hp:st.obj p=some (.cells (zq g)))(R:Ja)(h:R (bool (decide ((g.T.getD t 0).toNat>1))) st):
  Jb 278 ([int (t:Nat)]++[ptr p]) st R:=by
 have hget:g.T.getD t 0=g.T[t]:=by simp[ht]
 rw[hget]at h;refine Qy 10 Tryz.func278 ?_;refine za _ hp ?_;refine⟨t,rfl,za _ (zn ht) (ret ?_)⟩;have e:decide ((1:Int)<(g.T[t].toNat:Int))=decide (g.T[t].toNat>1):=δ;rw[<-e]at h;exact h
def zd7(g:Gnd)(hg:zw g)(b:Bld)(hb:yi b/\onP g b)(st:Store)(R:Ja)(h:∀z:Bool,(z=true↔C9 g b)->R (bool z) st):
  Jb 206 [.agg (zq g),.agg (zi b)] st R:=by
 have hm:=qg hg;refine Qa (c:=cfg 11 [2] []) zb Tryz.func206 ?_;intro p hp;have ho:(st.sO p (.cells (zq g))).obj p=some (.cells (zq g)):=zd _ _ _;refine za _ ho (Rc g hg b hb _ _ ?_);have hl:(Ao g.W b).length<=1000000000000:=by unfold Ao;rw[ba];have hb':=hb.1;unfold yi at hb';have:b.h.toNat*b.w.toNat<=4*4:=Fcw θ θ;omega
 refine yg0 (Ao g.W b) hl _ _ (λx=>decide ((g.T.getD x.toNat 0).toNat>1)) _ (λx hx R h=>?_) _ ?_
 ·obtain⟨n,rfl,hn,hh⟩:=(Hc hg hb.1 hb.2 x).1 hx;exact yjn g p n θ _ ho R δ
 refine vh (Tt) (Hl hp.1) (h _ ?_);unfold C9;rw[Fb5,Fdg];constructor
 ·intro hh t ht hb2;have:=hh (t:Int) ((Hc hg hb.1 hb.2 _).2 ⟨t,rfl,θ,hb2⟩);grind
 ·intro hh x hx;obtain⟨n,rfl,hn,hb2⟩:=(Hc hg hb.1 hb.2 x).1 hx;grind
def blV(b n:Nat):AV:=.s (.slice (some ⟨b,0,none⟩) n n)
def ylj(g:Gnd)(hg:zw g)(l:List Bld)(hl:l.length<=1000000000000)(hb:∀b∈l,yi b/\onP g b)(st:Store)(R:Ja)
  (h:∀b,Fresh st b->R (blV b g.T.length) (st.sO b (.cells (bl g.T.length (xj g l))))):Jb 284 [.agg (zq g),lst 6 zi l] st R:=by
 have ha:=qg hg;have hT:((rws u8C g.T).length:Int)=(g.T.length:Int):=by rw[zl]
 refine Qy 34 Tryz.func284 ?_;refine De rfl (it:=ti88) (ie:=ti4) rfl rfl rfl rfl rfl (n:=(rws u8C g.T).length) ?_ ?_ λb hf=>?_
 ·rw[zl];show 1*_<=_;omega
 ·omega
 rw[zl,I8]
 refine AWp.loop (σ:=Nat) ⟨λi=>[(2,.bx 2 0),(5,.av (blV b g.T.length)),(14,.av (lst 6 zi l)),(15,.av (int (l.length:Nat))),(16,.av (int (i:Nat)))],λ_=>[(2,zq g)],
  λi st'=>i<=l.length/\st'=st.sO b (.cells (bl g.T.length (xj g (l.take i)))),λi=>l.length-i⟩ zb ?_ ?_
 ·refine⟨0,Tv,⟨Fad _,rfl⟩,⟨Tq,Tq,Tq,?_,Tq,Tv⟩,⟨rfl,Tv⟩⟩;rw[<-zl (f:=zi) l];exact Tq
 rintro i st' ⟨hi,rfl⟩;refine bcd (λh1=>?_) λh1=>?_;rotate_left
 ·have:i=l.length:=θ;subst this;rw[Fak];exact ret (h b hf)
 have hlt:i<l.length:=θ;have hbi:=hb l[i] (Faa hlt);refine⟨i,rfl,za _ (zn hlt) (Rc g hg l[i] hbi _ _ ?_)⟩;have hcov:=λ(t:Nat) (ht:t<g.T.length)=>zc7 hg hlt hbi ht;have hmem:=Hc hg hbi.1 hbi.2;have h0:=zc5 g l i (Ao g.W l[i]);have hts:=bc g.W hbi.1;generalize Ao g.W l[i]=ts at*
 refine AWp.loop (σ:=Nat) ⟨λk=>[(2,.bx 2 0),(5,.av (blV b g.T.length)),(14,.av (lst 6 zi l)),(15,.av (int (l.length:Nat))),(16,.av (int (i:Nat))),(22,.av (y9 ts)),(23,.av (int (ts.length:Nat))),(24,.av (int (k:Nat)))],λ_=>[(2,zq g)],
  λk st'=>k<=ts.length/\st'=st.sO b (.cells (bl g.T.length (wi g l i ts k))),λk=>ts.length-k⟩ zb ?_ ?_
 ·refine⟨0,Tv,⟨Fad _,?_⟩,⟨Tq,Tq,Tq,Tq,Tq,Tq,?_,Tq,Tv⟩,⟨rfl,Tv⟩⟩
  ·rw[show wi g l i ts 0=xj g (l.take i)from funext h0]
  ·rw[<-zl (f:=zx) ts];exact Tq
 rintro k st' ⟨hk,rfl⟩;refine bcd (λh2=>?_) λh2=>?_;rotate_left
 ·have:k=ts.length:=θ;subst this;refine Qd ⟨i+1,?_,⟨θ,?_⟩,Qbn,⟨rfl,Tv⟩⟩
  ·grind
  grind[bl,List.map_congr_left]
 have hklt:k<ts.length:=θ;obtain⟨n,hn,hn2,hn3⟩:=(hmem ts[k]).1 (Faa hklt);have hnl:n<g.T.length:=θ;obtain⟨s1,s2⟩:=zc6 (g:=g) (l:=l) (i:=i) hklt hn;refine⟨k,rfl,za _ (zn hklt) ⟨n,hn,hnl,yu (i:=ti4) (v:=bool true) (b:=b) (o:=0+n*1) (l:=bl g.T.length (wi g l i ts k)) (st2:=st.sO b (.cells (bl g.T.length (wi g l i ts (k+1))))) rfl rfl rfl (zd _ _ _) θd ?_ ?_⟩⟩
 ·grind[yy,Fx]
 refine Qd ⟨k+1,?_,⟨θ,rfl⟩,Qbn,⟨rfl,Tv⟩⟩;grind
theorem Ot(n:Nat)(f:Nat->Bool):(rws ji (blL n f)).flatten++[]=bl n f:=by rw[Fbl,ynb]
def opV(g:Gnd)(l:List Bld)(c:Int):AV:=lst 1 ji (blL g.T.length (yp g l c))
def j1(g:Gnd)(l:List Bld)(c:Int)(i t:Nat):Bool:=if t<i then yp g l c t else xj g l t
def Li(g:Gnd)(hg:zw g)(l:List Bld)(hl:l.length<=1000000000000)(hb:∀b∈l,yi b/\onP g b)(c:Int)(st:Store)(R:Ja)(h:R (opV g l c) st):
  Jb 215 [.agg (zq g),lst 6 zi l,int c] st R:=by
 have ha:=qg hg;refine Qb (c:=cfg 37) zb Tryz.func215 (AWp.seq (AWp.of_vc zb ?_));refine AWp.seq (AWp.of_vc zb (ylj g hg l hl hb _ _ λb hf=>?_));have step:∀i,i<g.T.length->j1 g l c (i+1) i=yp g l c i/\∀s,s≠i->j1 g l c (i+1) s=j1 g l c i s:=λi hi=>by unfold j1;grind
 refine AWp.meetA (σ:=Unit) ⟨λ_=>[(7,.av (blV b g.T.length))],λ_=>[],λ_ st'=>st'=st.sO b (.cells (bl g.T.length (yp g l c)))⟩ ?_ ?_
 ·refine AWp.of_vc zb ?_
  refine AWp.loop (σ:=Nat) ⟨λi=>[(2,.av (int c)),(3,.bx 3 0),(7,.av (blV b g.T.length)),(13,.av (blV b g.T.length)),(14,.av (int (g.T.length:Nat))),(15,.av (int (i:Nat)))],λ_=>[(3,zq g)],
   λi st'=>i<=g.T.length/\st'=st.sO b (.cells (bl g.T.length (j1 g l c i))),λi=>g.T.length-i⟩ zb ?_ ?_
  ·refine⟨0,Tv,⟨Fad _,?_⟩,Qbn,⟨rfl,Tv⟩⟩;rfl
  rintro i st' ⟨hi,rfl⟩;refine bcd (λh1=>?_) λh1=>?_;rotate_left
  ·have:i=g.T.length:=θ;subst this;refine⟨(),?_,⟨Tq,Tv⟩,Tv⟩;have:bl g.T.length (j1 g l c g.T.length)=bl g.T.length (yp g l c):=by simp_all[bl,j1]
   rw[this]
  have hlt:i<g.T.length:=θ;obtain⟨s1,s2⟩:=step i hlt;have ho:(st.sO b (.cells (bl g.T.length (j1 g l c i)))).obj b=some (.cells (bl g.T.length (j1 g l c i))):=zd _ _ _;have hmid:j1 g l c i i=xj g l i:=if_neg (Fdp i);have hhead:((bl g.T.length (j1 g l c i)).drop (0+i*1)).head?=some (bool (xj g l i)):=by grind[List.head?_drop,Hs]
  refine⟨i,rfl,hlt,za _ ho (za _ hhead ?_)⟩;have hti:g.T[i].toNat<=5:=hg.2.2.2 _ (Faa hlt);have hget:g.T.getD i 0=g.T[i]:=by simp[hlt]
  refine zh (λc1=>?_) λc1=>?_
  ·have c1:xj g l i=false:=by grind
   refine⟨i,rfl,za _ (zn hlt) (dq c g.T[i] hti _ _ ?_)⟩;have hz:decide (0<At c g.T[i].toNat)=yp g l c i:=by unfold yp;grind
   refine⟨i,rfl,hlt,yu (i:=ti4) (v:=bool (decide (0<At c g.T[i].toNat))) (b:=b) (o:=0+i*1) (l:=_) (st2:=st.sO b (.cells (bl g.T.length (j1 g l c (i+1))))) rfl rfl rfl ho θd (by grind[yy,Fx]) (Qd ⟨i+1,?_,⟨θ,rfl⟩,Qbn,⟨rfl,Tv⟩⟩)⟩;grind
  ·have c1:xj g l i=true:=by grind
   have hz:false=yp g l c i:=by unfold yp;grind
   refine⟨i,rfl,hlt,yu (i:=ti4) (v:=bool false) (b:=b) (o:=0+i*1) (l:=_) (st2:=st.sO b (.cells (bl g.T.length (j1 g l c (i+1))))) rfl rfl rfl ho θd (by grind[yy,Fx]) (Qd ⟨i+1,?_,⟨θ,rfl⟩,Qbn,⟨rfl,Tv⟩⟩)⟩;grind
 ·rintro _ _ rfl;refine AWp.freeze (d:=7) (b:=b) (k:=1) (n:=g.T.length) (cap:=g.T.length) (rows:=rws ji (blL g.T.length (yp g l c))) (pad:=[]) rfl ?_ ?_ ?_ (Fal _) ?_ ?_ ?_
  ·grind[Ot,zd]
  ·exact hf.2
  ·rw[zl,xx]
  ·intro row hr;obtain⟨x,_,rfl⟩:=Fag.1 hr;rfl
  ·intro row hr y hy;obtain⟨x,_,rfl⟩:=Fag.1 hr;simp[ji]at hy;exact⟨_,hy,rfl⟩
  rw[Lh hf.1];exact AWp.of_vc zb (ret h)
def ymz(g:Gnd)(hg:zw g)(l:List Bld)(hl:l.length<=1000000000000)(st:Store)(R:Ja)
  (h:∀z:Bool,(z=true↔Hr g l)->R (bool z) st):Jb 127 [.agg (zq g),lst 6 zi l] st R:=by
 have ha:=qg hg;have hT:((rws u8C g.T).length:Int)=(g.T.length:Int):=by rw[zl]
 have hL:((rws zi l).length:Int)=(l.length:Int):=by rw[zl]
 have no:¬Hr g l->R (bool false) st:=λhn=>h false (by simp[hn]);refine Qy 60 Tryz.func127 ?_;refine bcd (λc1=>ret (no λq=>θc)) λc1=>ym3 l hl _ _ λz hz=>ye ?_;refine zh (λc2=>?_) (λc2=>ret (no λq=>by have:=hz.2 q.2.1;grind));have hr:=hz.1 c2;refine De rfl (it:=ti88) (ie:=ti4) rfl rfl rfl rfl rfl (n:=(rws u8C g.T).length) ?_ ?_ λb hf=>?_
 ·rw[zl];show 1*_<=_;omega
 ·omega
 rw[zl (f:=u8C) g.T,I8];have hhas:∀f:Nat->Bool,(st.sO b (.cells (bl g.T.length f))).Has st:=λf=>Hl hf.1
 refine AWp.loop (σ:=Nat) ⟨λi=>[(2,.bx 2 0),(5,.av (blV b g.T.length)),(22,.av (lst 6 zi l)),(23,.av (int (l.length:Nat))),(24,.av (int (i:Nat)))],λ_=>[(2,zq g)],
  λi st'=>i<=l.length/\st'=st.sO b (.cells (bl g.T.length (xj g (l.take i))))/\V7 g l i,λi=>l.length-i⟩ zb ?_ ?_
 ·refine⟨0,Tv,⟨Fad _,rfl,λj _ hj=>θ⟩,⟨Tq,Tq,Tq,?_,Tq,Tv⟩,⟨rfl,Tv⟩⟩;rw[<-zl (f:=zi) l];exact Tq
 rintro i st' ⟨hi,rfl,hup⟩;refine bcd (λh1=>?_) λh1=>?_;rotate_left
 ·have:i=l.length:=θ;subst this;have hall:=zdv hup;exact vh (Tt) (hhas _) (h true (by simp;exact⟨θ,hr,hall.1,hall.2⟩))
 have hlt:i<l.length:=θ;have nof:¬Hr g l->∃r st',AV.le (bool false) r/\(st.sO b (.cells (bl g.T.length (xj g (l.take i))))).Has st'/\R r st':=λhn=>vh (Tt) (hhas _) (no hn);refine⟨i,rfl,za _ (zn hlt) (zd6 l[i] _ _ (λz1 hz1=>ye (zh (λc3=>?_) (λc3=>nof λq=>by have:=hz1.2 (q.2.2.1 _ (Faa hlt)).1;grind))))⟩;have hb1:=hz1.1 c3;refine zdz g l[i] hg hb1 _ _ (λz2 hz2=>ye (zh (λc4=>?_) (λc4=>nof λq=>by have:=hz2.2 (q.2.2.1 _ (Faa hlt)).2.1;grind)));have hb2:=hz2.1 c4;refine zd7 g hg l[i] ⟨hb1,hb2⟩ _ _ (λz3 hz3=>ye (zh (λc5=>?_) (λc5=>nof λq=>by have:=hz3.2 (q.2.2.1 _ (Faa hlt)).2.2;grind)));have hb3:=hz3.1 c5;have hbi:yi l[i]/\onP g l[i]:=⟨hb1,hb2⟩
 refine Rc g hg l[i] hbi _ _ ?_;have hcov:=λ(t:Nat) (ht:t<g.T.length)=>zc7 hg hlt hbi ht;have hmem:=Hc hg hbi.1 hbi.2;have h0:=zc5 g l i (Ao g.W l[i]);have hts:=bc g.W hbi.1;have hcm:=ylk hg hlt hbi hup;have hso:=zg6 hg hbi;generalize Ao g.W l[i]=ts at*
 refine AWp.loop (σ:=Nat) ⟨λk=>[(2,.bx 2 0),(5,.av (blV b g.T.length)),(22,.av (lst 6 zi l)),(23,.av (int (l.length:Nat))),(24,.av (int (i:Nat))),(45,.av (y9 ts)),(46,.av (int (ts.length:Nat))),(47,.av (int (k:Nat)))],λ_=>[(2,zq g)],
  λk st'=>k<=ts.length/\st'=st.sO b (.cells (bl g.T.length (wi g l i ts k)))/\∀m,(hm:m<ts.length)->m<k->xj g (l.take i) ts[m].toNat=false,λk=>ts.length-k⟩ zb ?_ ?_
 ·refine⟨0,Tv,⟨Fad _,?_,λm _ hm=>θ⟩,⟨Tq,Tq,Tq,Tq,Tq,Tq,?_,Tq,Tv⟩,⟨rfl,Tv⟩⟩
  ·rw[show wi g l i ts 0=xj g (l.take i)from funext h0]
  ·rw[<-zl (f:=zx) ts];exact Tq
 rintro k st' ⟨hk,rfl,hno⟩;refine bcd (λh2=>?_) λh2=>?_;rotate_left
 ·have:k=ts.length:=θ;subst this;refine Qd ⟨i+1,?_,⟨θ,?_,λj hj hji=>?_⟩,Qbn,⟨rfl,Tv⟩⟩
  ·grind
  ·grind[bl,List.map_congr_left]
  ·by_cases e:j=i
   ·subst e;refine⟨⟨hb1,hb2,hb3⟩,λm hm hmt=>?_⟩;obtain⟨t,ht,hc⟩:=hcm.2 ⟨m,hm,hmt⟩;obtain⟨q,hq,rfl⟩:=Fai ht;grind
   ·exact hup j hj θ
 have hklt:k<ts.length:=θ;obtain⟨n,hn,hn2,hn3⟩:=(hmem ts[k]).1 (Faa hklt);have hnl:n<g.T.length:=θ;obtain⟨s1,s2⟩:=zc6 (g:=g) (l:=l) (i:=i) hklt hn;have hnk:wi g l i ts k n=xj g (l.take i) n:=by
  unfold wi;have:(ts.take k).contains (n:Int)=false:=by grind[ye4]
  grind
 refine⟨k,rfl,za _ (zn hklt) ?_⟩;have ho:(st.sO b (.cells (bl g.T.length (wi g l i ts k)))).obj b=some (.cells (bl g.T.length (wi g l i ts k))):=zd _ _ _;have hhead:((bl g.T.length (wi g l i ts k)).drop (0+n*1)).head?=some (V.bool (xj g (l.take i) n)):=by grind[List.head?_drop,Hs]
 refine⟨n,hn,hnl,za _ ho (za _ hhead (zh (λc6=>?_) λc6=>?_))⟩
 ·refine vh (Tt) (hhas _) (no λq=>?_);obtain⟨m,hm,hmt⟩:=hcm.1 ⟨ts[k],Faa hklt,δ⟩;exact q.2.2.2 i hlt m hm hmt
 refine⟨n,hn,hnl,yu (i:=ti4) (v:=bool true) (b:=b) (o:=0+n*1) (l:=bl g.T.length (wi g l i ts k)) (st2:=st.sO b (.cells (bl g.T.length (wi g l i ts (k+1))))) rfl rfl rfl (zd _ _ _) θd ?_ ?_⟩
 ·grind[yy,Fx]
 refine Qd ⟨k+1,?_,⟨θ,rfl,λm hm hmk=>?_⟩,Qbn,⟨rfl,Tv⟩⟩
 ·grind
 grind
def ycu(g:Gnd)(hgf:g.fits)(l:List Bld)(hl:l.length<=1000000000000)(st:Store)(R:Ja)
  (h:∀z:Bool,(z=true↔zw g/\Hr g l)->R (bool z) st):Jb 88 [.agg (zq g),lst 6 zi l] st R:=by
 have hL:((rws zi l).length:Int)=(l.length:Int):=by rw[zl]
 have no:¬(zw g/\Hr g l)->R (bool false) st:=λhn=>h false θ0;refine Qy 64 Tryz.func88 ?_;refine yhw g hgf _ _ λz hz=>ye ?_;refine zh (λc0=>?_) (λc0=>ret (no λq=>by have:=hz.2 q.1;rw[this]at c0;cases c0));have hg:=hz.1 c0;refine bcd (λc1=>ret (no λq=>by have:=q.2.1;omega)) (λc1=>ybz l hl _ _ (λz hz=>ye (zh (λc2=>?_) (λc2=>ret (no λq=>by have:=hz.2 q.2.2.1;rw[this]at c2;cases c2)))));have hr:=hz.1 c2
 refine AWp.loop (σ:=Nat) ⟨λi=>[(1,.av (lst 6 zi l)),(2,.bx 2 0),(5,.av (int (i:Nat)))],λ_=>[(2,zq g)],
  λi st'=>i<=l.length/\st'=st/\V7 g l i,λi=>l.length-i⟩ zb ?_ ?_
 ·exact⟨0,Tv,⟨Fad _,rfl,λj _ hj=>θ⟩,Qbn,⟨rfl,Tv⟩⟩
 rintro i st' ⟨hi,rfl,hup⟩;refine bcd (λh1=>?_) λh1=>?_;rotate_left
 ·have:i=l.length:=θ;subst this;have hall:=zdv hup;exact ret (h true (by simp only[true_iff];exact⟨hg,θ,hr,hall.1,hall.2⟩))
 have hlt:i<l.length:=θ;refine Qc zb zvi ⟨i,rfl,za _ (zn hlt) ?_⟩;have nof:¬(yi l[i]/\onP g l[i]/\C9 g l[i])->R (bool false) st':=λhn=>no λq=>hn (q.2.2.2.1 _ (Faa hlt));refine⟨pj l[i] _ _ (λz1 hz1=>⟨Tv,ye (zh (λc3=>?_) (λc3=>⟨⟨Tv,⟨⟨Tv,ret (nof λq=>by have:=hz1.2 q.1;rw[this]at c3;cases c3)⟩,Tv⟩⟩,Tv⟩))⟩),Tv⟩;have hb1:=hz1.1 c3;refine⟨i,rfl,za _ (zn hlt) ⟨r9 g l[i] hg hb1 _ _ (λz2 hz2=>⟨Tv,ye (zh (λc4=>?_) (λc4=>⟨⟨Tv,ret (nof λq=>by have:=hz2.2 q.2.1;rw[this]at c4;cases c4)⟩,Tv⟩))⟩),Tv⟩⟩;have hb2:=hz2.1 c4;refine⟨i,rfl,za _ (zn hlt) ⟨sb g hg l[i] ⟨hb1,hb2⟩ _ _ (λz3 hz3=>⟨Tv,ye (zh (λc5=>?_) (λc5=>ret (nof λq=>by have:=hz3.2 q.2.2;rw[this]at c5;cases c5)))⟩),Tv⟩⟩;have hb3:=hz3.1 c5
 refine AWp.loop (σ:=Nat) ⟨λk=>[(1,.av (lst 6 zi l)),(2,.bx 2 0),(5,.av (int (i:Nat))),(6,.av (int (k:Nat)))],λ_=>[(2,zq g)],
  λk st2=>k<=i/\st2=st'/\∀m,(hm:m<k)->(hmi:m<i)->¬j9 l[i] (l[m]'θ),λk=>i-k⟩ zb ?_ ?_
 ·exact⟨0,Tv,⟨Fad _,rfl,λm hm=>θ⟩,Qbn,⟨rfl,Tv⟩⟩
 rintro k st2 ⟨hk,rfl,hno⟩;refine bcd (λh2=>?_) λh2=>?_;rotate_left
 ·refine Qd ⟨i+1,?_,⟨θ,rfl,λj hj hji=>?_⟩,Qbn,⟨rfl,Tv⟩⟩
  ·show l.length-(i+1)<l.length-i;omega
  ·by_cases e:j=i
   ·subst e;exact⟨⟨hb1,hb2,hb3⟩,λm hm=>hno m θ hm⟩
   ·exact hup j hj θ
 have hki:k<i:=θ;have hkl:k<l.length:=θ;have hbk:=(hup k hkl hki).1;refine Qc zb zvj ⟨i,rfl,za _ (zn hlt) ⟨k,rfl,za _ (zn hkl) ⟨zab g hg l[i] l[k] ⟨hb1,hb2⟩ ⟨hbk.1,hbk.2.1⟩ _ _ λz4 hz4=>⟨Tv,zh (λc6=>ret (no λq=>q.2.2.2.2 i hlt k hki (hz4.1 c6))) λc6=>Qd ⟨k+1,?_,⟨θ,rfl,λm hm hmi=>?_⟩,Qbn,⟨rfl,Tv⟩⟩⟩,Tv⟩⟩⟩
 ·show i-(k+1)<i-k;omega
 ·by_cases e:m=k
  ·subst e;intro hm2;have:=hz4.2 hm2;rw[this]at c6;cases c6
  ·exact hno m θ hmi
def ycr(g:Gnd)(hg:zw g)(l:List Bld)(hl:l.length<=1000000000000)(hb:∀b∈l,yi b/\onP g b)(st:Store)(R:Ja)
  (h:∀b,Fresh st b->R (blV b g.T.length) (st.sO b (.cells (bl g.T.length (xj g l))))):Jb 219 [.agg (zq g),lst 6 zi l] st R:=by
 have ha:=qg hg;have hg1:=hg.1;have hg2:=hg.2.1;refine Qy 70 Tryz.func219 ?_;refine Qd ?_;rw[<-ha.2.2];refine De rfl (it:=ti88) (ie:=ti4) rfl rfl rfl rfl rfl (n:=g.T.length) ?_ ?_ λb hf=>?_
 ·show 1*_<=_;omega
 ·omega
 rw[I8]
 refine AWp.loop (σ:=Nat) ⟨λi=>[(1,.av (lst 6 zi l)),(2,.bx 2 0),(5,.av (blV b g.T.length)),(6,.av (int (i:Nat)))],λ_=>[(2,zq g)],
  λi st'=>i<=l.length/\st'=st.sO b (.cells (bl g.T.length (xj g (l.take i)))),λi=>l.length-i⟩ zb ?_ ?_
 ·exact⟨0,Tv,⟨Fad _,rfl⟩,Qbn,⟨rfl,Tv⟩⟩
 rintro i st' ⟨hi,rfl⟩;refine zh (λh1=>?_) λh1=>?_;rotate_left
 ·have:i=l.length:=qw h1 hi;subst this;rw[Fak];exact ret (h b hf)
 have hlt:i<l.length:=qn h1;have hbi:=hb l[i] (Faa hlt);have hbi':=hbi;unfold yi onP at hbi';refine⟨i,rfl,za _ (zn hlt) ?_⟩
 refine AWp.loop (σ:=Nat) ⟨λk=>[(1,.av (lst 6 zi l)),(2,.bx 2 0),(5,.av (blV b g.T.length)),(6,.av (int (i:Nat))),(7,.av (int (l[i].y+(k:Nat))))],λ_=>[(2,zq g)],
  λk st'=>k<=l[i].h.toNat/\st'=st.sO b (.cells (bl g.T.length (Cd g l i l[i] k 0))),λk=>l[i].h.toNat-k⟩ zb ?_ ?_
 ·refine⟨0,Tv,⟨Fad _,?_⟩,⟨Tq,Tq,Tq,Tq,?_,Tv⟩,⟨rfl,Tv⟩⟩
  ·rw[yll]
  ·rw[show l[i].y+((0:Nat):Int)=l[i].y by omega];exact Tq
 rintro k st' ⟨hk,rfl⟩;refine Qc zb zxs ⟨i,rfl,za _ (zn hlt) ⟨i,rfl,za _ (zn hlt) (Qd (bcd (λh2=>?_) λh2=>?_))⟩⟩;rotate_left
 ·have:k=l[i].h.toNat:=θ;subst this;refine Qd ⟨i+1,?_,⟨θ,?_⟩,Qbn,⟨rfl,Tv⟩⟩
  ·show l.length-(i+1)<l.length-i;omega
  ·rw[ylo hlt θ]
 refine⟨i,rfl,za _ (zn hlt) ?_⟩
 refine AWp.loop (σ:=Nat) ⟨λm=>[(1,.av (lst 6 zi l)),(2,.bx 2 0),(5,.av (blV b g.T.length)),(6,.av (int (i:Nat))),(7,.av (int (l[i].y+(k:Nat)))),(8,.av (int (l[i].x+(m:Nat))))],λ_=>[(2,zq g)],
  λm st'=>m<=l[i].w.toNat/\st'=st.sO b (.cells (bl g.T.length (Cd g l i l[i] k m))),λm=>l[i].w.toNat-m⟩ zb ?_ ?_
 ·refine⟨0,Tv,⟨Fad _,rfl⟩,⟨Tq,Tq,Tq,Tq,Tq,?_,Tv⟩,⟨rfl,Tv⟩⟩;rw[show l[i].x+((0:Nat):Int)=l[i].x by omega];exact Tq
 rintro m st' ⟨hm,rfl⟩;refine Qc zb zxr ⟨i,rfl,za _ (zn hlt) ⟨i,rfl,za _ (zn hlt) (Qd (bcd (λh3=>?_) λh3=>?_))⟩⟩;rotate_left
 ·have:m=l[i].w.toNat:=θ;subst this;refine Qd ⟨k+1,?_,⟨θ,?_⟩,⟨Tq,Tq,Tq,Tq,?_,Tv⟩,⟨rfl,Tv⟩⟩
  ·show l[i].h.toNat-(k+1)<l[i].h.toNat-k;omega
  ·rw[yln _ _ _ _ _ θ]
  ·rw[show l[i].y+((k+1:Nat):Int)=l[i].y+(k:Int)+1 by omega];exact Tq
 obtain⟨q1,q2,_⟩:=Kp hg (x:=l[i].x+m) (y:=l[i].y+k) θ θ;have q3:0<=g.W*(l[i].y+(k:Int)):=Fav θ θ;obtain⟨s1,s2⟩:=ylm hg (l:=l) (i:=i) hbi (k:=k) (m:=m) θ θ (n:=(l[i].x+(m:Int)+g.W*(l[i].y+(k:Int))).toNat) θ;refine Qd (Qd ⟨(l[i].x+(m:Int)+g.W*(l[i].y+(k:Int))).toNat,θ,θ,yu (i:=ti4) (v:=V.bool true) (b:=b) (o:=0+(l[i].x+(m:Int)+g.W*(l[i].y+(k:Int))).toNat*1) (l:=bl g.T.length (Cd g l i l[i] k m)) (st2:=st.sO b (.cells (bl g.T.length (Cd g l i l[i] k (m+1))))) rfl rfl rfl (zd _ _ _) θd ?_ ?_⟩)
 ·rw[yy,show∀n:Nat,0+n*1=n by omega,<-s1,Fx θ _ s2]
 refine Qd ⟨m+1,?_,⟨θ,rfl⟩,⟨Tq,Tq,Tq,Tq,Tq,?_,Tv⟩,⟨rfl,Tv⟩⟩
 ·show l[i].w.toNat-(m+1)<l[i].w.toNat-m;omega
 ·rw[show l[i].x+((m+1:Nat):Int)=l[i].x+(m:Int)+1 by omega];exact Tq
def Qac{p:Prop}(h:p:=by rw[yy,show 0+i*1=i by omega,hz,<-s1,Fx hlt _ s2]):p:=h
def yfp(g:Gnd)(l:List Bld)(c:Int)(i:Nat):j1 g l c (i+1) i=yp g l c i/\∀s,s≠i->j1 g l c (i+1) s=j1 g l c i s:=by
 unfold j1;refine⟨if_pos θ,λs hs=>?_⟩;by_cases h1:s<i
 ·rw[if_pos θ,if_pos h1]
 ·rw[if_neg θ,if_neg h1]
def rv(g:Gnd)(hg:zw g)(l:List Bld)(hl:l.length<=1000000000000)(hb:∀b∈l,yi b/\onP g b)(c:Int)(hc:c=0\/c=1\/c=2)(st:Store)(R:Ja)(h:R (opV g l c) st):
  Jb 145 [.agg (zq g),lst 6 zi l,int c] st R:=by
 have ha:=qg hg;refine Qb (c:=cfg 37) zb Tryz.func145 (AWp.seq (AWp.of_vc zb ?_));refine AWp.seq (AWp.of_vc zb (ycr g hg l hl hb _ _ λb hf=>?_));refine AWp.meetA (σ:=Unit) ⟨λ_=>[(7,.av (blV b g.T.length))],λ_=>[],λ_ st'=>st'=st.sO b (.cells (bl g.T.length (yp g l c)))⟩ ?_ ?_
 ·refine AWp.of_vc zb ?_
  refine AWp.loop (σ:=Nat) ⟨λi=>[(2,.av (int c)),(3,.bx 3 0),(7,.av (blV b g.T.length)),(8,.av (int (i:Nat)))],λ_=>[(3,zq g)],
   λi st'=>i<=g.T.length/\st'=st.sO b (.cells (bl g.T.length (j1 g l c i))),λi=>g.T.length-i⟩ zb ?_ ?_
  ·refine⟨0,Tv,⟨Fad _,?_⟩,Qbn,⟨rfl,Tv⟩⟩;rw[show j1 g l c 0=xj g l from funext λt=>if_neg (Fau t)]
  rintro i st' ⟨hi,rfl⟩;refine bcd (λh1=>?_) λh1=>?_;rotate_left
  ·have:i=g.T.length:=θ;subst this;refine⟨(),?_,⟨Tq,Tv⟩,Tv⟩;have:bl g.T.length (j1 g l c g.T.length)=bl g.T.length (yp g l c):=by
    unfold bl j1;exact Fby λt ht=>by rw[if_pos (Fbd.1 ht)]
   rw[this]
  have hlt:i<g.T.length:=θ;obtain⟨s1,s2⟩:=yfp g l c i;have ho:(st.sO b (.cells (bl g.T.length (j1 g l c i)))).obj b=some (.cells (bl g.T.length (j1 g l c i))):=zd _ _ _;have hmid:j1 g l c i i=xj g l i:=if_neg (Fdp i);have hhead:((bl g.T.length (j1 g l c i)).drop (0+i*1)).head?=some (V.bool (xj g l i)):=by rw[Fbv,show 0+i*1=i by omega,Hs hlt,hmid]
  refine⟨i,rfl,hlt,za _ ho (za _ hhead ?_)⟩;have hti:g.T[i].toNat<=5:=hg.2.2.2 _ (Faa hlt);have hget:g.T.getD i 0=g.T[i]:=by simp[hlt]
  refine zh (λc1=>?_) λc1=>?_
  ·have c1:xj g l i=false:=by simpa using c1
   refine⟨i,rfl,za _ (zn hlt) (im c hc g.T[i] hti _ _ ?_)⟩;have hz:decide (0<At c g.T[i].toNat)=yp g l c i:=by unfold yp;rw[c1,hget];rfl
   refine⟨i,rfl,hlt,yu (i:=ti4) (v:=V.bool (decide (0<At c g.T[i].toNat))) (b:=b) (o:=0+i*1) (l:=_) (st2:=st.sO b (.cells (bl g.T.length (j1 g l c (i+1))))) rfl rfl rfl ho θd Qac (Qd ⟨i+1,?_,⟨θ,rfl⟩,Qbn,⟨rfl,Tv⟩⟩)⟩;show g.T.length-(i+1)<g.T.length-i;omega
  ·have c1:xj g l i=true:=by simpa using c1
   have hz:false=yp g l c i:=by unfold yp;rw[c1];rfl
   refine⟨i,rfl,hlt,yu (i:=ti4) (v:=V.bool false) (b:=b) (o:=0+i*1) (l:=_) (st2:=st.sO b (.cells (bl g.T.length (j1 g l c (i+1))))) rfl rfl rfl ho θd Qac (Qd ⟨i+1,?_,⟨θ,rfl⟩,Qbn,⟨rfl,Tv⟩⟩)⟩;show g.T.length-(i+1)<g.T.length-i;omega
 ·rintro _ _ rfl;refine AWp.freeze (d:=7) (b:=b) (k:=1) (n:=g.T.length) (cap:=g.T.length) (rows:=rws ji (blL g.T.length (yp g l c))) (pad:=[]) rfl ?_ ?_ ?_ (Fal _) ?_ ?_ ?_
  ·rw[Ot];exact zd _ _ _
  ·exact hf.2
  ·rw[zl,xx]
  ·intro row hr;obtain⟨x,_,rfl⟩:=Fag.1 hr;rfl
  ·intro row hr y hy;obtain⟨x,_,rfl⟩:=Fag.1 hr;simp[ji]at hy;exact⟨_,hy,rfl⟩
  rw[Lh hf.1];exact AWp.of_vc zb (ret h)
def yb4(g:Gnd)(hg:zw g)(l:List Bld)(hl:l.length<=1000000000000)(hb:∀b∈l,yi b/\onP g b)(c:Int)(hc:c=0\/c=1\/c=2)(p:Vc)(hp:qs p.1 p.2)(r:Int)(hr:0<r/\r<=262144)(st:Store)(R:Ja)
  (h:∀z:Bool,(z=true↔Cc g l c p r)->R (V.bool z) st):Jb 90 [.agg (zq g),lst 6 zi l,int c,.agg (zu p),int r] st R:=by
 have ha:=qg hg;have hg1:=hg.1;have hg2:=hg.2.1;have hp':=hp;unfold qs at hp';have no:¬Cc g l c p r->R (V.bool false) st:=λhn=>h false θ0;refine Qy 65 Tryz.func90 ?_;refine bcd (λc1=>ret (no λq=>θc)) λc1=>bcd (λc2=>ret (no λq=>θc)) λc2=>?_;refine Qd ?_;refine Qd (bcd (λc3=>ret (no λq=>θc)) λc3=>?_);refine Qd ?_;refine Qd (bcd (λc4=>ret (no λq=>θc)) λc4=>rv g hg l hl hb c hc _ _ ?_)
 refine AWp.loop (σ:=Nat) ⟨λi=>[(4,.av (int r)),(5,.bx 5 0),(8,.bx 8 0),(11,.av (opV g l c)),(12,.av (int (i:Nat)))],λ_=>[(5,zq g),(8,zu p)],
  λi st'=>i<=g.T.length/\st'=st/\∀t,t<i->yp g l c t=false->¬ja g t p r,λi=>g.T.length-i⟩ zb ?_ ?_
 ·exact⟨0,Tv,⟨Fad _,rfl,λt ht=>θ⟩,Qbn,⟨rfl,rfl,Tv⟩⟩
 rintro i st' ⟨hi,rfl,hall⟩;refine zh (λh1=>?_) λh1=>?_;rotate_left
 ·have h1:=qw h1 (by rw[xx];exact hi);rw[xx]at h1;subst h1;exact ret (h true (by simp only[true_iff];exact⟨θ,hall⟩))
 have hlt:=qn h1;rw[xx]at hlt;refine⟨i,rfl,za _ (zd3 hlt) ?_⟩;have next:(yp g l c i=false->¬ja g i p r)->∀t,t<i+1->yp g l c t=false->¬ja g t p r:=λhq t ht hh=>by
  by_cases e:t=i
  ·subst e;exact hq hh
  ·exact hall t θ hh
 refine ye (zh (λc5=>?_) λc5=>?_)
 ·refine Qd ⟨i+1,?_,⟨θ,rfl,next λhh=>by rw[c5]at hh;cases hh⟩,Qbn,⟨rfl,rfl,Tv⟩⟩;show g.T.length-(i+1)<g.T.length-i;omega
 refine zaa g hg i θ p hp r hr _ _ (bcd (λc6=>?_) λc6=>?_)
 ·exact ret (no λq=>q.2 i hlt c5 c6)
 ·refine Qd ⟨i+1,?_,⟨θ,rfl,next λ_=>c6⟩,Qbn,⟨rfl,rfl,Tv⟩⟩;show g.T.length-(i+1)<g.T.length-i;omega
def zbf(g:Gnd)(hg:zw g)(t:Nat)(ht:(t:Int)<g.W*g.H)(x:Int)(hx:x=(t:Int))(p:Vc)(hp:qs p.1 p.2)(r:Int)(hr:0<r/\r<=262144)(st:Store)(R:Ja)(h:R (V.bool (decide (ja g t p r))) st):
  Jb 214 [.agg (zq g),int x,.agg (zu p),int r] st R:=by
 subst hx;exact yhm g hg t ht p hp r hr st R h
def zb0(g:Gnd)(hg:zw g)(l:List Bld)(c:Int)(p:Vc)(hpo:p.ok)(r:Int)(hr:0<r/\r<=262144)(st:Store)(R:Ja)
  (h:∀z:Bool,(z=true↔Cc g l c p r)->R (V.bool z) st):Jb 135 [.agg (zq g),opV g l c,.agg (zu p),int r] st R:=by
 have ha:=qg hg;have hg1:=hg.1;have hg2:=hg.2.1;have no:¬Cc g l c p r->R (V.bool false) st:=λhn=>h false θ0;refine Qy 112 Tryz.func135 ?_;refine Qc zb zy7 ?_;refine Qd ?_;refine Qd (Qbq (Qbr (ylb p r _ _ λz hz=>?_)));refine ye ?_;refine zh (λc0=>?_) (λc0=>ret (no λq=>by have:=hz.2 ⟨⟨θ,hr.2⟩,by unfold qs;have:=q.1;omega⟩;rw[this]at c0;cases c0));have hp:=(hz.1 c0).2;have hp':=hp;unfold qs at hp';refine Qd (bcd (λc1=>ret (no λq=>θc)) λc1=>Qd (bcd (λc2=>ret (no λq=>θc)) λc2=>Qd (bcd (λc3=>ret (no λq=>θc)) λc3=>Qd (bcd (λc4=>ret (no λq=>θc)) λc4=>Qd ⟨ψ,?_⟩))));have hy0:(p.2-r).tdiv 65536=(p.2-r)/65536:=Faz θ;have hx0:(p.1-r).tdiv 65536=(p.1-r)/65536:=Faz θ;have hy1:(p.2+r).tdiv 65536=(p.2+r)/65536:=Faz θ;have hx1:(p.1+r).tdiv 65536=(p.1+r)/65536:=Faz θ;refine Qd ?_;rw[hy0]
 refine AWp.loop (σ:=Nat) ⟨λk=>[(1,.av (opV g l c)),(3,.av (int r)),(4,.bx 4 0),(6,.bx 6 0),(11,.av (int ((p.2-r)/65536+(k:Nat))))],λ_=>[(4,zq g),(6,zu p)],
  λk st'=>st'=st/\((k:Int)<=g.H-(p.2-r)/65536\/k=0)/\Nb g l c p r ((p.2-r)/65536+(k:Nat)),λk=>(g.H-(p.2-r)/65536).toNat-k⟩ zb ?_ ?_
 ·refine⟨0,Tv,⟨rfl,.inr rfl,?_⟩,⟨Tq,Tq,Tq,Tq,?_,Tv⟩,⟨rfl,rfl,Tv⟩⟩
  ·rw[show(p.2-r)/65536+((0:Nat):Int)=(p.2-r)/65536 by omega];exact ymf hr.1 θ
  ·rw[show(p.2-r)/65536+((0:Nat):Int)=(p.2-r)/65536 by omega];exact Tq
 rintro k st' ⟨rfl,hk,hup⟩;refine Qd ⟨ψ,Qd ?_⟩;rw[hy1]
 have done:(¬((p.2-r)/65536+(k:Int)<=(p.2+r)/65536)\/¬((p.2-r)/65536+(k:Int)<g.H))->R (V.bool true) st':=λhh=>
  h true (by simp only[true_iff];exact⟨θ,ymg hg hr.1 θ hh hup⟩)
 refine bcd (λc5=>bcd (λc6=>Qd ⟨ψ,Qd ?_⟩) λc6=>ret (done (.inr c6))) λc5=>ret (done (.inl c5));rw[hx0];have hyb:0<=(p.2-r)/65536:=θ;have hxb:0<=(p.1-r)/65536:=θ
 refine AWp.loop (σ:=Nat) ⟨λm=>[(1,.av (opV g l c)),(3,.av (int r)),(4,.bx 4 0),(6,.bx 6 0),(11,.av (int ((p.2-r)/65536+(k:Nat)))),(12,.av (int ((p.1-r)/65536+(m:Nat))))],λ_=>[(4,zq g),(6,zu p)],
  λm st2=>st2=st'/\((m:Int)<=g.W-(p.1-r)/65536\/m=0)/\Ph g l c p r ((p.2-r)/65536+(k:Nat)) ((p.1-r)/65536+(m:Nat)),λm=>(g.W-(p.1-r)/65536).toNat-m⟩ zb ?_ ?_
 ·refine⟨0,Tv,⟨rfl,.inr rfl,?_⟩,⟨Tq,Tq,Tq,Tq,Tq,?_,Tv⟩,⟨rfl,rfl,Tv⟩⟩
  ·rw[show(p.1-r)/65536+((0:Nat):Int)=(p.1-r)/65536 by omega];exact ymi hr.1 θ
  ·rw[show(p.1-r)/65536+((0:Nat):Int)=(p.1-r)/65536 by omega];exact Tq
 rintro m st2 ⟨rfl,hm,hrow⟩;refine Qd ⟨ψ,Qd ?_⟩;rw[hx1];have done2:(¬((p.1-r)/65536+(m:Int)<=(p.1+r)/65536)\/¬((p.1-r)/65536+(m:Int)<g.W))->Nb g l c p r ((p.2-r)/65536+((k+1:Nat):Int)):=λhh=>by rw[i8];exact ymj hg hr.1 θ hh hup hrow
 have mu:(g.H-(p.2-r)/65536).toNat-(k+1)<(g.H-(p.2-r)/65536).toNat-k:=uz (Int.lt_sub_left_of_add_lt c6);have step2:LV.le (jm .i64 ((p.2-r)/65536+(k:Int)+1)) (.av (int ((p.2-r)/65536+((k+1:Nat):Int)))):=by rw[i8];exact Tq
 refine bcd (λc7=>bcd (λc8=>?_) λc8=>ze θ ⟨k+1,mu,⟨rfl,.inl (Sr c6),done2 (.inr c8)⟩,⟨Tq,Tq,Tq,Tq,step2,Tv⟩,⟨rfl,rfl,Tv⟩⟩) λc7=>ze θ ⟨k+1,mu,⟨rfl,.inl (Sr c6),done2 (.inl c7)⟩,⟨Tq,Tq,Tq,Tq,step2,Tv⟩,⟨rfl,rfl,Tv⟩⟩;obtain⟨q1,q2,q3,q4⟩:=Kp hg (x:=(p.1-r)/65536+(m:Int)) (y:=(p.2-r)/65536+(k:Int)) θ θ;have q5:0<=g.W*((p.2-r)/65536+(k:Int)):=Fav θ θ;have hstep:=ymh (l:=l) (c:=c) (p:=p) (r:=r) hg (x:=(p.1-r)/65536+(m:Int)) (y:=(p.2-r)/65536+(k:Int)) θ θ hrow;refine Qd (Qd ?_);obtain⟨n,hn⟩:∃n:Nat,(n:Int)=(p.1-r)/65536+(m:Int)+g.W*((p.2-r)/65536+(k:Int)):=⟨_,Int.toNat_of_nonneg q1⟩
 rw[<-hn,Fa0]at hstep;have hnl:n<g.T.length:=θ;have mu2:(g.W-(p.1-r)/65536).toNat-(m+1)<(g.W-(p.1-r)/65536).toNat-m:=uz (Int.lt_sub_left_of_add_lt c8);have e2:(p.1-r)/65536+((m+1:Nat):Int)=(p.1-r)/65536+(m:Int)+1:=i8 _ _;have step3:LV.le (jm .i64 ((p.1-r)/65536+(m:Int)+1)) (.av (int ((p.1-r)/65536+((m+1:Nat):Int)))):=by rw[e2];exact Tq
 refine⟨n,hn.symm,za _ (zd3 hnl) (ye (zh (λc9=>?_) λc9=>?_))⟩
 ·exact Qd ⟨m+1,mu2,⟨rfl,.inl (Sr c8),by rw[e2];exact hstep λhh=>by rw[c9]at hh;cases hh⟩,⟨Tq,Tq,Tq,Tq,Tq,step3,Tv⟩,⟨rfl,rfl,Tv⟩⟩
 refine zbf g hg n θ _ hn.symm p hp r hr _ _ (bcd (λc10=>?_) λc10=>?_)
 ·exact ret (no λq=>q.2 n hnl c9 c10)
 ·exact Qd ⟨m+1,mu2,⟨rfl,.inl (Sr c8),by rw[e2];exact hstep λ_=>c10⟩,⟨Tq,Tq,Tq,Tq,Tq,step3,Tv⟩,⟨rfl,rfl,Tv⟩⟩
def za1(x:Int)(st:Store)(R:Ja)(h:R (V.bool false) st):Jb 139 [int x] st R:=by refine Qy 6 Tryz.func139 ?_;refine⟨_,st,Tt,Store.Has.refl st,?_⟩;have e:(x != x)=false:=φ;rw[<-e]at h;exact h
def zdb(x y:Int)(st:Store)(R:Ja)(h:R (int (Hq x y)) st):Jb 85 [int x,int y] st R:=by
 refine Qy 20 Tryz.func85 ?_;refine za1 _ _ _ (za1 _ _ _ ?_);unfold Hq at h;refine zh (λh1=>⟨_,st,Tt,Store.Has.refl st,?_⟩) λh1=>?_
 ·rw[if_pos θz]at h;exact h
 ·rw[if_neg θz]at h;refine zh (λh2=>⟨_,st,Tt,Store.Has.refl st,?_⟩) λh2=>⟨_,st,Tt,Store.Has.refl st,?_⟩
  ·rw[if_pos (by simpa using h2)]at h;exact h
  ·rw[if_neg (by simpa using h2)]at h;exact h
def zec(u:Unt)(id:Int)(st:Store)(R:Ja)(h:R (int (Hq u.id id)) st):Jb 84 [.agg (zf u),int id] st R:=by refine Qy 9 Tryz.func84 ?_;exact zdb u.id id _ _ (ret h)
def Mq(l:List Unt)(id:Int)(i:Nat):Prop:=i<=l.length/\(∀j,(h:j<l.length)->j<i->l[j].id<id)/\∀j,(h:j<l.length)->i<=j->id<=l[j].id
def ym1(l:List Unt)(hl:l.length<=1000000000000)(hr:yr l)(id:Int)(st:Store)(R:Ja)
  (h:∀i,Mq l id i->∀z:Bool,(z=true↔∃hi:i<l.length,l[i].id=id)->R (.tup [int (i:Nat),V.bool z]) st):Jb 83 [lst 10 zf l,int id,.clos 84 []] st R:=by
 refine Qy 49 Tryz.func83 ?_
 refine AWp.loop (σ:=Nat×Nat) ⟨λs=>[(0,.av (lst 10 zf l)),(1,.av (int id)),(2,.av (.clos 84 [])),(8,.av (int (l.length:Nat))),(9,.av (int (s.1:Nat))),(10,.av (int (s.2:Nat)))],λ_=>[],
  λs st'=>st'=st/\s.1<=s.2/\s.2<=l.length/\(∀j,(h:j<l.length)->j<s.1->l[j].id<id)/\∀j,(h:j<l.length)->s.2<=j->id<=l[j].id,λs=>s.2-s.1⟩ zb ?_ ?_
 ·refine⟨(0,l.length),Tv,⟨rfl,Fad _,Fal _,λj _ hj=>θ,λj hj hj2=>θ⟩,⟨Tq,Tq,Tq,?_,Tq,?_,Tv⟩,Tv⟩
  ·rw[<-zl (f:=zf) l];exact Tq
  ·rw[<-zl (f:=zf) l];exact Tq
 rintro⟨i,j⟩ st' ⟨rfl,hij,hj,hlo,hhi⟩;dsimp only at hij hj hlo hhi⊢;refine bcd (λh1=>?_) λh1=>?_;rotate_left
 ·have e:i=j:=θ;subst e;have hat:Mq l id i:=⟨hj,hlo,hhi⟩
  refine bcd (λh2=>?_) λh2=>?_
  ·have hlt:i<l.length:=θ;refine⟨i,rfl,za _ (zn hlt) (zec l[i] id _ _ (ret (h i hat _ ?_)))⟩;have:=hhi i hlt (Fal _);unfold Hq;rw[if_neg θ];by_cases e:l[i].id=id
   ·rw[if_neg θ];simp[hlt,e]
   ·rw[if_pos θ];simp[e]
  ·exact ret (h i hat _ χ)
 refine Qd ⟨ψ,?_⟩;have hmid:(IntKind.u64.wrap ((i:Int)+(j:Int))).fdiv (2^(min (1:Int).toNat IntKind.u64.bits))=(((i+j)/2:Nat):Int):=by
  have e1:IntKind.u64.wrap ((i:Int)+(j:Int))=((i+j:Nat):Int):=by simp[IntKind.wrap,IntKind.bits,IntKind.signed];omega
  have e2:(2:Int)^(min (1:Int).toNat IntKind.u64.bits)=2:=rfl;have e3:(((i+j:Nat):Int)).fdiv 2=(((i+j)/2:Nat):Int):=by rw[Fcz _ ψ];rfl
  rw[e1,e2,e3]
 have hk1:(i+j)/2<j:=θ;have hk2:i<=(i+j)/2:=θ;have hkl:(i+j)/2<l.length:=θ;have hmono:∀a b,(ha:a<l.length)->(hb:b<l.length)->a<=b->l[a].id<=l[b].id:=by
  intro a b ha hb hab;induction b with
  |zero=>
   have:a=0:=θ;subst this;exact Fcu _
  |succ b ih=>
   by_cases e:a=b+1
   ·subst e;exact Fcu _
   ·have h2:=ih θ θ;have h3:=hr (b+1) hb θ;simp only[Fd9]at h3;omega
 refine⟨by rw[hmid];exact⟨θ,θ⟩,⟨(i+j)/2,hmid,za _ (zn hkl) (zec l[(i+j)/2] id _ _ ?_)⟩⟩;have hc:Hq l[(i+j)/2].id id<0↔l[(i+j)/2].id<id:=by
  unfold Hq;split
  ·omega
  ·split<;>omega
 refine bcd (λh2=>?_) λh2=>?_
 ·have h2:=hc.1 h2;refine ze (by rw[hmid];omega) ⟨((i+j)/2+1,j),?_,⟨rfl,ζ,hj,λa ha ha2=>?_,hhi⟩,⟨Tq,Tq,Tq,Tq,?_,Tq,Tv⟩,Tv⟩
  ·show j-((i+j)/2+1)<j-i;omega
  ·have:=hmono a ((i+j)/2) ha hkl (by dsimp only at ha2;omega);omega
  ·dsimp only;exact(congrArg (λn:Int=>LV.le (jm .i64 (n+1)) (.av (int (((i+j)/2+1:Nat):Int)))) hmid).mpr (Tq)
 ·have h2:¬l[(i+j)/2].id<id:=λhh=>h2 (hc.2 hh);refine⟨(i,(i+j)/2),?_,⟨rfl,hk2,ζ,hlo,λa ha ha2=>?_⟩,⟨Tq,Tq,Tq,Tq,Tq,?_,Tv⟩,Tv⟩
  ·show(i+j)/2-i<j-i;omega
  ·have:=hmono ((i+j)/2) a hkl ha (by dsimp only at ha2;omega);omega
  ·dsimp only;exact(congrArg (λn:Int=>LV.le (jm .i64 n) (.av (int (((i+j)/2:Nat):Int)))) hmid).mpr (Tq)
def lg(l:List Unt)(hl:l.length<=1000000000000)(hr:yr l)(id:Int)(st:Store)(R:Ja)
  (h:∀i,Mq l id i->∀z:Bool,(z=true↔∃hi:i<l.length,l[i].id=id)->R (.tup [int (i:Nat),V.bool z]) st):Jb 41 [lst 10 zf l,int id] st R:=by
 refine Qy 11 Tryz.func41 ?_;exact ym1 l hl hr id _ _ λi hi z hz=>ret (h i hi z hz)
section
variable {F S:Store} {p:Nat}
def ymw{l:List Ent}(hc:vx F p l)(hd:zk F S)(hl:l.length<=1000000000)(hok:∀e∈l,e.2.ok)(id:Int)(R:Ja)
  (h:∀F',vx F' p (qx l id)->zk F' S->R (V.bool (l.find? (Az id)).isSome) (F'.un S)):Jb 150 [ptr p,int id] (F.un S) R:=
 ACalls.frame (R:=λr a'=>r=V.bool (l.find? (Az id)).isSome/\vx a' p (qx l id)) hd (zdn hc hl hok id _ λa' ha'=>⟨rfl,ha'⟩) λr a' ⟨h1,h2⟩ hd'=>h1▸h a' h2 hd'
def i9{l:List Ent}(hc:vx F p l)(hd:zk F S)(hl:l.length<=1000000000)(hok:∀e∈l,e.2.ok)(id:Int)(pos:Vc)(hpos:pos.ok)(R:Ja)
  (h:∀F',vx F' p (qx l id++[(id,pos)])->zk F' S->R (.tup []) (F'.un S)):Jb 133 [ptr p,int id,.agg (zu pos)] (F.un S) R:=
 ACalls.frame (R:=λr a'=>r=.tup []/\vx a' p (qx l id++[(id,pos)])) hd (yms hc hl hok id pos hpos _ λa' ha'=>⟨rfl,ha'⟩) λr a' ⟨h1,h2⟩ hd'=>h1▸h a' h2 hd'
def zdu{l:List Ent}(hc:vx F p l)(hd:zk F S)(hl:l.length<=1000000000)(hok:∀e∈l,e.2.ok){q:Vc}(hq:q.ok){r:Int}(hr:ym r)(R:Ja)
  (h:∀F' N v ns,vx F' p l->zk F' N->zk F' S->zk N S->Ints N v ns->Ps l q r ns->R v ((F'.un N).un S)):Jb 216 [ptr p,.agg (zu q),int r] (F.un S) R:=
 ACalls.frame (R:=λv a'=>∃F' N ns,a'=F'.un N/\vx F' p l/\zk F' N/\Ints N v ns/\Ps l q r ns) hd (ymt hc hl hok hq hr _ λF' N v ns h1 h2 h3 h4=>⟨F',N,ns,rfl,h1,h2,h3,h4⟩)
  λv a' ⟨F',N,ns,h1,h2,h3,h4,h5⟩ hd'=>by subst h1;exact h F' N v ns h2 h3 (disj_un.1 hd').1 (disj_un.1 hd').2 h4 h5
end
section
variable {s p:Nat} {w:Wld} {o0 o1 o2:AV}
def stC(w:Wld)(o0 o1 o2:AV)(p:Nat):List AV:=zp w++[o0,o1,o2,ptr p]
def stS(s:Nat)(w:Wld)(o0 o1 o2:AV)(p:Nat):Store:=Store.empty.sO s (.cells (stC w o0 o1 o2 p))
def Mi(w:Wld)(c:Int)(o:AV):Prop:=o=.s (.slice none 0 0)\/o=opV w.G w.B c
structure StandAt(F:Store)(s p:Nat)(w:Wld)(L:List Ent)(o0 o1 o2:AV):Prop where
 hc:vx F p L
 hd:zk F (stS s w o0 o1 o2 p)
 h0:Mi w 0 o0
 h1:Mi w 1 o1
 h2:Mi w 2 o2
def Gy(s:Nat)(w:Wld)(o0 o1 o2:AV)(p:Nat):(stS s w o0 o1 o2 p).obj s=some (.cells (stC w o0 o1 o2 p)):=zd _ _ _
def stS_has{i:Nat}:(stS s w o0 o1 o2 p).has i↔i=s:=by
 unfold Store.has stS;constructor
 ·rintro(h|h)
  ·apply Decidable.byContradiction;intro hn;rw[zj hn]at h;exact h rfl
  ·exact absurd rfl h
 ·rintro rfl;exact .inl (by rw[zd];simp)
def ig{F:Store}{q0 q1 q2:AV}(h:zk F (stS s w o0 o1 o2 p)):zk F (stS s w q0 q1 q2 p):=λi h1 h2=>h i h1 (stS_has.2 (stS_has.1 h2))
def Rx{l:List Unt}(hr:yr l){a b:Nat}(hab:a<b)(hb:b<l.length):(l[a]'θ).id<l[b].id:=by
 induction b with
 |zero=>omega
 |succ b ih=>
  have h3:=hr (b+1) hb θ;simp only[Fd9]at h3;by_cases e:a=b
  ·subst e;exact h3
  ·have:=ih θ θ;omega
def yeo(w:Wld)(hU:w.U.length<=1000000)(hn:∀u∈w.U,u.pos.ok)(R:Ja)
  (h:∀F s p L o0 o1 o2,StandAt F s p w L o0 o1 o2->L.length<=w.U.length->(yr w.U->∀e,e∈L↔∃u∈w.U,u.inn=0/\e=(u.id,u.pos))->R (ptr s) (F.un (stS s w o0 o1 o2 p))):Jb 80 [.agg (zp w)] Store.empty R:=by
 refine Qa (c:=cfg 31 [9] []) zb Tryz.func80 ?_;refine Qc zb pu ?_;refine⟨zdo _ λF p hc=>⟨Qe,⟨λs hs=>⟨Tv,Qbr ?_⟩,Tv⟩⟩,Tv⟩;have e0:F.sO s (.cells (stC w (.s (.slice none 0 0)) (.s (.slice none 0 0)) (.s (.slice none 0 0)) p))=F.un (stS s w (.s (.slice none 0 0)) (.s (.slice none 0 0)) (.s (.slice none 0 0)) p):=by exact yd F Store.empty s _
 have h0:StandAt F s p w [] (.s (.slice none 0 0)) (.s (.slice none 0 0)) (.s (.slice none 0 0)):=⟨hc,λi h1 h2=>by have:=stS_has.1 h2;subst this;exact(fresh_iff.1 hs) h1,.inl rfl,.inl rfl,.inl rfl⟩
 refine AWp.loop (σ:=Nat×Store×List Ent) ⟨λq=>[(3,.av (ptr s)),(11,.av (lst 10 zf w.U)),(12,.av (int (w.U.length:Nat))),(13,.av (int (q.1:Nat)))],λ_=>[],
  λq st'=>st'=q.2.1.un (stS s w (.s (.slice none 0 0)) (.s (.slice none 0 0)) (.s (.slice none 0 0)) p)/\StandAt q.2.1 s p w q.2.2 (.s (.slice none 0 0)) (.s (.slice none 0 0)) (.s (.slice none 0 0))/\q.1<=w.U.length/\q.2.2.length<=q.1/\(∀e∈q.2.2,e.2.ok)/\(yr w.U->∀e,e∈q.2.2↔∃u∈w.U.take q.1,u.inn=0/\e=(u.id,u.pos)),λq=>w.U.length-q.1⟩ zb ?_ ?_
 ·refine⟨(0,F,[]),Tv,⟨e0,h0,Fad _,Fal _,λe he=>(by cases he),λ_ e=>φ⟩,⟨Tq,Tq,?_,Tq,Tv⟩,Tv⟩;rw[<-zl (f:=zf) w.U];exact Tq
 rintro⟨i,F1,L⟩ st' ⟨rfl,hS,hi,hL,hok,hmem⟩;dsimp only at hS hi hL hok hmem⊢;refine bcd (λh1=>?_) λh1=>?_;rotate_left
 ·have:i=w.U.length:=θ;subst this;rw[Fak]at hmem;exact ret (h F1 s p L _ _ _ hS hL hmem)
 have hlt:i<w.U.length:=θ;refine⟨i,rfl,za _ (zn hlt) ?_⟩;have hn2:=hn w.U[i] (Faa hlt);refine zt (λc1=>?_) λc1=>?_
 ·refine Qc zb pt (zoo (zg (Gy s w _ _ _ p)) ⟨i9 hS.hc hS.hd θ hok w.U[i].id w.U[i].pos hn2 _ λF2 h2 h3=>⟨Tv,?_⟩,Tv⟩);have hlen:(qx L w.U[i].id++[(w.U[i].id,w.U[i].pos)]).length<=i+1:=by
   rw[Fae];have:(qx L w.U[i].id).length<=L.length:=Fbk _ _;simp only[Fao];omega
  refine Qd ⟨(i+1,F2,_),?_,⟨rfl,⟨h2,h3,.inl rfl,.inl rfl,.inl rfl⟩,ζ,hlen,λe he=>?_,λhr e=>?_⟩,⟨Tq,Tq,Tq,Tq,Tv⟩,Tv⟩
  ·show w.U.length-(i+1)<w.U.length-i;omega
  ·rcases Fat.1 he with he|he
   ·exact hok e (mem_dropId.1 he).1
   ·simp at he;subst he;exact hn2
  ·dsimp only;rw[Fab hlt,Fat,mem_dropId,hmem hr e];constructor
   ·rintro(⟨⟨u,hu,h4⟩,_⟩|he)
    ·exact⟨u,Fat.2 (.inl hu),h4⟩
    ·simp at he;exact⟨w.U[i],Fat.2 (.inr φ),c1,he⟩
   ·rintro⟨u,hu,h4,h5⟩;rcases Fat.1 hu with hu|hu
    ·refine .inl ⟨⟨u,hu,h4,h5⟩,?_⟩;obtain⟨j,hj,rfl⟩:=Fai hu;rw[Fam]at hj;rw[Fdt]at h5;have:=Rx hr (a:=j) (b:=i) θ hlt;subst h5;show w.U[j].id≠w.U[i].id;omega
    ·simp at hu;subst hu;exact .inr (by simp[h5])
 ·refine Qd ⟨(i+1,F1,L),?_,⟨rfl,hS,ζ,ζ,hok,λhr e=>?_⟩,Qbn,Tv⟩
  ·show w.U.length-(i+1)<w.U.length-i;omega
  ·dsimp only;rw[hmem hr e,Fab hlt];constructor
   ·rintro⟨u,hu,h3⟩;exact⟨u,Fat.2 (.inl hu),h3⟩
   ·rintro⟨u,hu,h3,h4⟩;rcases Fat.1 hu with hu|hu
    ·exact⟨u,hu,h3,h4⟩
    ·simp at hu;subst hu;exact absurd h3 c1
end
def Dq{g:Gnd}(hg:zw g)(l:List Bld)(c:Int):∃x y,opV g l c=.lst 1 (x::y) none:=by
 have ha:=qg hg;unfold opV lst;cases h:rws ji (blL g.T.length (yp g l c))with
 |nil=>
  have:=zl (f:=ji) (blL g.T.length (yp g l c));rw[h,xx]at this;simp at this;omega
 |cons x y=>exact⟨x,y,rfl⟩
def Nd{v:AV}(h:∃x y,v=.lst 1 (x::y) none):cellsOf v=some [v]/\v.one=true:=by obtain⟨x,y,rfl⟩:=h;exact⟨rfl,rfl⟩
def zt4{F:Store}{s p:Nat}{w:Wld}{L:List Ent}{o0 o1 o2:AV}(hS:StandAt F s p w L o0 o1 o2)(hg:zw w.G)(hB:w.B.length<=1000000000000)(hb:∀b∈w.B,yi b/\onP w.G b)(c:Int)(hc:c=0\/c=1\/c=2)(R:Ja)
  (h:∀q0 q1 q2,StandAt F s p w L q0 q1 q2->R (opV w.G w.B c) (F.un (stS s w q0 q1 q2 p))):Jb 136 [ptr s,int c] (F.un (stS s w o0 o1 o2 p)) R:=by
 have ho:=zg (a:=F) (Gy s w o0 o1 o2 p);obtain⟨x0,y0,hne0⟩:=Dq hg w.B 0;obtain⟨x1,y1,hne1⟩:=Dq hg w.B 1;obtain⟨x2,y2,hne2⟩:=Dq hg w.B 2;rcases hc with rfl|rfl|rfl
 ·rcases hS.h0 with e|e
  ·subst e;refine Qy 35 Tryz.func136 ?_;refine⟨0,rfl,ψ,zoo ho (Qc zb Md (zoo ho (zoo ho ⟨Li w.G hg w.B hB hb 0 _ _ ⟨Tv,⟨0,rfl,ψ,?_⟩⟩,Tv⟩)))⟩;have ho2:=zg (a:=F) (Gy s w (opV w.G w.B 0) o1 o2 p);have hc2:=Nd (Dq hg w.B 0);refine⟨za _ rfl (j3 rfl (ju (v:=opV w.G w.B 0) rfl rfl rfl rfl (yu (i:=ti88) (v:=opV w.G w.B 0) (b:=s) (o:=0+8+0*ti88.size) (l:=stC w _ o1 o2 p) (st2:=F.un (stS s w (opV w.G w.B 0) o1 o2 p)) hc2.1 hc2.2 rfl ho (show 8+1<=12 by decide) ?_ ?_))),Tv⟩
   ·rw[yd];unfold stS;rw[yy];rfl
   exact⟨Tv,⟨0,rfl,ψ,zoo ho2 (ret (h _ _ _ ⟨hS.hc,ig hS.hd,.inr rfl,hS.h1,hS.h2⟩))⟩⟩
  ·rw[hne0]at e;subst e;refine Qy 35 Tryz.func136 ?_;refine⟨0,rfl,ψ,zoo ho λbb hbb=>?_⟩;have hbf:bb=false:=by
    cases bb with
    |true=>cases hbb rfl
    |false=>rfl
   subst hbf;refine⟨0,rfl,ψ,zoo ho (ret ?_)⟩;have:=h _ _ _ hS;rw[hne0]at this;exact this
 ·rcases hS.h1 with e|e
  ·subst e;refine Qy 35 Tryz.func136 ?_;refine⟨1,rfl,ψ,zoo ho (Qc zb Md (zoo ho (zoo ho ⟨Li w.G hg w.B hB hb 1 _ _ ⟨Tv,⟨1,rfl,ψ,?_⟩⟩,Tv⟩)))⟩;have ho2:=zg (a:=F) (Gy s w o0 (opV w.G w.B 1) o2 p);have hc2:=Nd (Dq hg w.B 1);refine⟨za _ rfl (j3 rfl (ju (v:=opV w.G w.B 1) rfl rfl rfl rfl (yu (i:=ti88) (v:=opV w.G w.B 1) (b:=s) (o:=0+8+1*ti88.size) (l:=stC w o0 _ o2 p) (st2:=F.un (stS s w o0 (opV w.G w.B 1) o2 p)) hc2.1 hc2.2 rfl ho (show 9+1<=12 by decide) ?_ ?_))),Tv⟩
   ·rw[yd];unfold stS;rw[yy];rfl
   exact⟨Tv,⟨1,rfl,ψ,zoo ho2 (ret (h _ _ _ ⟨hS.hc,ig hS.hd,hS.h0,.inr rfl,hS.h2⟩))⟩⟩
  ·rw[hne1]at e;subst e;refine Qy 35 Tryz.func136 ?_;refine⟨1,rfl,ψ,zoo ho λbb hbb=>?_⟩;have hbf:bb=false:=by
    cases bb with
    |true=>cases hbb rfl
    |false=>rfl
   subst hbf;refine⟨1,rfl,ψ,zoo ho (ret ?_)⟩;have:=h _ _ _ hS;rw[hne1]at this;exact this
 ·rcases hS.h2 with e|e
  ·subst e;refine Qy 35 Tryz.func136 ?_;refine⟨2,rfl,ψ,zoo ho (Qc zb Md (zoo ho (zoo ho ⟨Li w.G hg w.B hB hb 2 _ _ ⟨Tv,⟨2,rfl,ψ,?_⟩⟩,Tv⟩)))⟩;have ho2:=zg (a:=F) (Gy s w o0 o1 (opV w.G w.B 2) p);have hc2:=Nd (Dq hg w.B 2);refine⟨za _ rfl (j3 rfl (ju (v:=opV w.G w.B 2) rfl rfl rfl rfl (yu (i:=ti88) (v:=opV w.G w.B 2) (b:=s) (o:=0+8+2*ti88.size) (l:=stC w o0 o1 _ p) (st2:=F.un (stS s w o0 o1 (opV w.G w.B 2) p)) hc2.1 hc2.2 rfl ho (show 10+1<=12 by decide) ?_ ?_))),Tv⟩
   ·rw[yd];unfold stS;rw[yy];rfl
   exact⟨Tv,⟨2,rfl,ψ,zoo ho2 (ret (h _ _ _ ⟨hS.hc,ig hS.hd,hS.h0,hS.h1,.inr rfl⟩))⟩⟩
  ·rw[hne2]at e;subst e;refine Qy 35 Tryz.func136 ?_;refine⟨2,rfl,ψ,zoo ho λbb hbb=>?_⟩;have hbf:bb=false:=by
    cases bb with
    |true=>cases hbb rfl
    |false=>rfl
   subst hbf;refine⟨2,rfl,ψ,zoo ho (ret ?_)⟩;have:=h _ _ _ hS;rw[hne2]at this;exact this
section
variable {F:Store} {s p:Nat} {w:Wld} {o0 o1 o2:AV}
def zuw{L:List Ent}(hS:StandAt F s p w L o0 o1 o2)(hr:yr w.U)(hU:w.U.length<=1000000)(hn:∀u∈w.U,u.pos.ok)(hLl:L.length<=w.U.length)(hL:Dr w L)(q:Vc)(hq:q.ok)(r:Int)(hrr:0<r/\r<=262144)(R:Ja)
  (h:∀F' us,StandAt F' s p w L o0 o1 o2->K0 w q (r+81920) us->us.length<=1000000->R (lst 10 zf us) (F'.un (stS s w o0 o1 o2 p))):Jb 137 [ptr s,.agg (zu q),int r] (F.un (stS s w o0 o1 o2 p)) R:=by
 have ho:=zg (a:=F) (Gy s w o0 o1 o2 p);refine Qy 47 Tryz.func137 ?_;refine Qc zb p8 (zoo ho ?_);refine Qd ?_;refine⟨zdu hS.hc hS.hd θ (Kw hL hn) hq (r:=r+81920) ⟨θ,θ⟩ _ λF' N v ns g1 g2 g3 g4 g5 g6=>⟨Tv,?_⟩,Tv⟩;have hS':StandAt F' s p w L o0 o1 o2:=⟨g1,g3,hS.h0,hS.h1,hS.h2⟩
 have ho':((F'.un N).un (stS s w o0 o1 o2 p)).obj s=some (.cells (stC w o0 o1 o2 p)):=zg (Gy s w o0 o1 o2 p);have g4':zk (F'.un N) (stS s w o0 o1 o2 p):=disj_un.2 ⟨g3,g4⟩;have hv:∃oa cap,v=.s (.slice oa ns.length cap)/\∀i,i<ns.length->∃b J,oa=some ⟨b,0,none⟩/\((F'.un N).un (stS s w o0 o1 o2 p)).obj b=some (.cells (ns.map aI++J)):=by
  rcases O3 g5 with⟨rfl,rfl⟩|⟨b,cap,J,rfl,hob,_⟩
  ·exact⟨none,0,rfl,λi hi=>absurd hi (Fau i)⟩
  ·exact⟨_,cap,rfl,λi _=>⟨b,J,rfl,yg g4' (zg hob)⟩⟩
 obtain⟨oa,cap,rfl,hget⟩:=hv;have hnl:ns.length<=w.U.length:=by have:=Fbs (l₂:=L.map (·.1)) (g6.1.imp λh=>θ) (λid hid=>by obtain⟨e,he,h2,_⟩:=(g6.2 id).1 hid;exact Fag.2 ⟨e,he,h2⟩);rw[Fas]at this;omega
 have hfin:∀us:List Unt,us.map (·.id)=ns->(∀u∈us,u∈w.U/\u.inn=0)->R (lst 10 zf us) (F'.un (stS s w o0 o1 o2 p)):=λus e1 e2=>
  h F' us hS' (ul hr hL g6 e1 e2) (by have:=congrArg List.length e1;rw[Fas]at this;omega)
 have hback:=zbg (S:=stS s w o0 o1 o2 p) g2;generalize(F'.un N).un (stS s w o0 o1 o2 p)=st1 at*
 refine AWp.loop (σ:=Nat×AV×List Unt) ⟨λx=>[(0,.av (ptr s)),(6,.av x.2.1),(18,.av (.s (.slice oa ns.length cap))),(19,.av (int (ns.length:Nat))),(20,.av (int (x.1:Nat)))],λ_=>[],
  λx st'=>x.1<=ns.length/\App 10 st1 x.2.1 (rws zf x.2.2) st'/\x.2.2.map (·.id)=ns.take x.1/\∀u∈x.2.2,u∈w.U/\u.inn=0,λx=>ns.length-x.1⟩ zb ?_ ?_
 ·exact⟨(0,_,[]),Tv,⟨Fad _,App.start 10 st1,rfl,λu hu=>(by cases hu)⟩,⟨Tq,Tq,Tq,Tq,Tq,Tv⟩,Tv⟩
 rintro⟨i,v2,us⟩ st' ⟨hi,ha,hus,hin⟩;dsimp only at hi ha hus hin⊢;refine bcd (λh1=>?_) λh1=>?_;rotate_left
 ·have:i=ns.length:=θ;subst this;rw[Fak]at hus;exact⟨_,_,AV.le_trans ha.le (Tt),ha.has.trans hback,hfin us hus hin⟩
 have hlt:i<ns.length:=θ;obtain⟨b,J,rfl,hob⟩:=hget i hlt;have hob':st'.obj b=some (.cells (ns.map aI++J)):=by rw[ha.obj];exact hob
 have hos:st'.obj s=some (.cells (stC w o0 o1 o2 p)):=by rw[ha.obj];exact ho'
 refine⟨i,rfl,hlt,Qbs ?_⟩;refine za (o:=List.head? _) (int ns[i]) ψy ?_;refine Qbs (lg w.U θ hr ns[i] _ _ λk hk z hz=>?_);obtain⟨e,he,hid,_⟩:=(g6.2 ns[i]).1 (Faa hlt);obtain⟨u,hu,hu0,rfl⟩:=(hL e).1 he;have hfound:∃hk2:k<w.U.length,w.U[k].id=ns[i]:=by
  obtain⟨j,hj,rfl⟩:=Fai hu;have h5:j>=k:=Decidable.byContradiction λhn2=>by have:=hk.2.1 j hj θ;have h6:(w.U[j]).id=ns[i]:=hid;omega
  have h7:k<w.U.length:=θ;refine⟨h7,?_⟩;have h8:=hk.2.2 k h7 (Fal _);have h6:(w.U[j]).id=ns[i]:=hid;by_cases e:k=j
  ·subst e;exact h6
  ·have:=Gb hr (show k<j by omega) hj;omega
 obtain⟨hk2,hk3⟩:=hfound;refine Qbs ?_;refine⟨k,rfl,za _ (zn hk2) ⟨ψ,?_⟩⟩;have hul:us.length=i:=by have:=congrArg List.length hus;rw[Fas,Fam]at this;omega
 refine Ba (ie:=ti36) (rows':=[zf w.U[k]]) ha ?_ ?_ ⟨?_,?_⟩ λv3 st3 ha3=>?_
 ·rfl
 ·rfl
 ·simp only[zl,Fao,ti36];omega
 ·simp only[zl,Fao];omega
 refine Qd ?_;have huk:w.U[k]=u:=H9 hr (Faa hk2) hu (by rw[hk3];exact hid.symm);refine⟨(i+1,v3,us++[w.U[k]]),?_,⟨ζ,?_,?_,λu2 hu2=>?_⟩,Qbn,Tv⟩
 ·show ns.length-(i+1)<ns.length-i;omega
 ·dsimp only;unfold rws at ha3⊢;rw[Fa8];exact ha3
 ·dsimp only;rw[Fa8,hus,Fab hlt];simp[hk3]
 ·rcases Fat.1 hu2 with h9|h9
  ·exact hin u2 h9
  ·simp at h9;subst h9;rw[huk];exact⟨hu,hu0⟩
def zun{L:List Ent}(hS:StandAt F s p w L o0 o1 o2)(hg:zw w.G)(hB:w.B.length<=1000000000000)(hb:∀b∈w.B,yi b/\onP w.G b)(hr:yr w.U)(hU:w.U.length<=1000000)(hn:∀u∈w.U,u.pos.ok)(hLl:L.length<=w.U.length)(hL:Dr w L)
  (id k:Int) (q:Vc) (hq:q.ok) (R:Ja)
  (h:∀z F' q0 q1 q2,(z=true↔qh w id k q)->StandAt F' s p w L q0 q1 q2->R (V.bool z) (F'.un (stS s w q0 q1 q2 p))):Jb 81 [ptr s,int id,int k,.agg (zu q)] (F.un (stS s w o0 o1 o2 p)) R:=by
 have ho:=zg (a:=F) (Gy s w o0 o1 o2 p);have hk:=Bm k;have hc:=Gk k;refine Qy 56 Tryz.func81 ?_;refine kj k _ _ ?_;refine Qc zb pr (zoo ho ?_);refine⟨zt4 hS hg hB hb (yl k) hc _ λa0 a1 a2 hS1=>⟨?_,?_⟩,Tv⟩
 ·have ho1:=zg (a:=F) (Gy s w a0 a1 a2 p);repeat(first|exact Tv|refine⟨rfl,?_⟩|refine⟨zoo ho1 rfl,?_⟩)
 refine⟨zb0 w.G hg w.B (yl k) q hq (z6 k) ⟨hk.1,θ⟩ _ _ λz hz=>⟨Tv,ye (zh (λc1=>?_) λc1=>ret (h false _ _ _ _ ψz hS1))⟩,Tv⟩;have hfree:=hz.1 c1;refine zuw hS1 hr hU hn hLl hL q hq (z6 k) ⟨hk.1,θ⟩ _ λF' us hS2 hus hul=>?_;have hci:=zdi (id:=id) hfree hus;have no:¬qh w id k q->R (V.bool false) (F'.un (stS s w a0 a1 a2 p)):=λhh=>h false _ _ _ _ θ5 hS2
 refine AWp.loop (σ:=Nat) ⟨λi=>[(1,.av (int id)),(7,.bx 7 0),(9,.bx 9 0),(32,.av (lst 10 zf us)),(33,.av (int (us.length:Nat))),(34,.av (int (i:Nat)))],λ_=>[(7,zu q),(9,C7 k)],
  λi st'=>st'=F'.un (stS s w a0 a1 a2 p)/\i<=us.length/\∀j,(hj:j<us.length)->j<i->us[j].id≠id->vr q (z6 k) us[j].pos (z6 us[j].kind)=true,λi=>us.length-i⟩ zb ?_ ?_
 ·refine⟨0,Tv,⟨rfl,Fad _,λj _ hj=>θ⟩,⟨Tq,Tq,Tq,Tq,?_,Tq,Tv⟩,⟨rfl,rfl,Tv⟩⟩;rw[<-zl (f:=zf) us];exact Tq
 rintro i st' ⟨rfl,hi,hall⟩;refine bcd (λh1=>?_) λh1=>?_;rotate_left
 ·refine ret (h true _ _ _ _ ψ0 hS2)
 have hlt:i<us.length:=θ;have hui:=(hus us[i]).1 (Faa hlt);have next:(us[i].id≠id->vr q (z6 k) us[i].pos (z6 us[i].kind)=true)->∀j,(hj:j<us.length)->j<i+1->us[j].id≠id->vr q (z6 k) us[j].pos (z6 us[j].kind)=true:=λhh j hj hji=>by
  by_cases e:j=i
  ·subst e;exact hh
  ·exact hall j hj θ
 refine⟨i,rfl,za _ (zn hlt) (Qc zb pq (qd (λc2=>?_) λc2=>?_))⟩
 ·refine⟨kj us[i].kind _ _ ⟨Qe,?_⟩,Tv⟩;have hk2:=Bm us[i].kind;refine⟨zek q (z6 k) us[i].pos (z6 us[i].kind) hq (hn _ hui.1.1) ⟨hk.1,θ⟩ ⟨hk2.1,θ⟩ _ _ ⟨Tv,ye (zh (λc3=>?_) λc3=>?_)⟩,Tv⟩
  ·refine Qd ⟨i+1,?_,⟨rfl,θ,next λ_=>c3⟩,Qbn,⟨rfl,rfl,Tv⟩⟩;show us.length-(i+1)<us.length-i;omega
  ·refine ret (no λhh=>?_);have:=hci.1 hh us[i] (Faa hlt) c2;rw[this]at c3;cases c3
 ·refine Qbq (Qbr (Qd ⟨i+1,?_,⟨rfl,θ,next λhne=>absurd c2 hne⟩,Qbn,⟨rfl,rfl,Tv⟩⟩));show us.length-(i+1)<us.length-i;omega
end
end Go.Proofs
