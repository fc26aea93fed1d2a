/- The ground on which laws of thronglaw24 are proved: contracts of functions and plain lemmas; no condition beyond the row's own. -/
import Derived.Test.YtbemejeejgpkaaaGreatKD
import Derived.Test.YtbemejeejgpkaaaGreatKH
import Derived.Test.YtbemejeejgpkaaaGreatKM
import Derived.Test.YtbemejeejgpkaaaGreatKE
import Derived.Test.YtbemejeejgpkaaaGreatKL
import Derived.Test.YtbemejeejgpkaaaGreatKK
import Derived.Test.YtbemejeejgpkaaaGreatKJ
set_option linter.unusedSimpArgs false
set_option linter.unusedVariables false
namespace Go.Proofs
open Go Go.V
set_option maxRecDepth 4000
theorem zad(n:Int)(st:Store)(R:AV->Store->Prop)(h:R (int (nrm n)) st):ACalls Tryz.prog 159 [int n] st R:=by
 refine Qa (c:=cfg 5) zc Tryz.func159 ?_
 rw[<-yty]at h
 exact ret h
theorem ymn(n:Int)(hn:yq n)(st:Store)(R:AV->Store->Prop)(h:R (int (-nrm n)) st):ACalls Tryz.prog 212 [int n] st R:=by
 refine Qa (c:=cfg 6) zc Tryz.func212 ?_
 refine zad n _ _ ?_
 have:=za2 hn
 refine⟨⟨by omega,by omega⟩,?_⟩
 rw[show -nrm n=0-nrm n by omega]at h
 exact ret h
theorem zax(a b:Int)(ha:yq a)(hb:yq b)(st:Store)(R:AV->Store->Prop)(h:R (int (fadd a b)) st):ACalls Tryz.prog 160 [int a,int b] st R:=by
 refine Qa (c:=cfg 30) zc Tryz.func160 ?_
 refine zad a _ _ ?_
 refine zad b _ _ ?_
 have h1:=za2 ha
 have h2:=za2 hb
 unfold fadd at h
 generalize nrm a=x at*
 generalize nrm b=y at*
 have k1:x+y>9223372036854775807->R (int 9223372036854775807) st:=fun hh=>by rw[show vr (x+y)=9223372036854775807 by unfold vr;simp[hh]]at h;exact h
 have k2:x+y< -9223372036854775807->R (int (-9223372036854775807)) st:=fun hh=>by rw[show vr (x+y)=-9223372036854775807 by unfold vr;rw[if_neg (by omega),if_pos hh]]at h;exact h
 have k3:¬x+y>9223372036854775807->¬x+y< -9223372036854775807->yq (x+y)/\R (int (x+y)) st:=fun hh hh'=>⟨⟨by omega,by omega⟩,by rw[show vr (x+y)=x+y by unfold vr;rw[if_neg hh,if_neg hh']]at h;exact h⟩
 have fin:¬x+y>9223372036854775807->¬x+y< -9223372036854775807->yq (x+y)/\∃r st',AV.le (int (x+y)) r/\st.Has st'/\R r st':=fun hh hh'=>⟨(k3 hh hh').1,ret (k3 hh hh').2⟩
 have e:Int.negSucc 9223372036854775806=-9223372036854775807:=rfl
 refine bcd (fun c1=>?_) (fun c1=>?_)
 ·refine⟨⟨by omega,by omega⟩,?_⟩
  refine bcd (fun c2=>?_) (fun c2=>?_)
  ·exact ret (k1 (by omega))
  ·refine bcd (fun c3=>?_) (fun c3=>?_)
   ·omega
   ·exact fin (by omega) (by omega)
 ·refine bcd (fun c3=>?_) (fun c3=>?_)
  ·refine⟨⟨by omega,by omega⟩,?_⟩
   refine bcd (fun c4=>?_) (fun c4=>?_)
   ·exact ret (k2 (by omega))
   ·exact fin (by omega) (by omega)
  ·exact fin (by omega) (by omega)
theorem zar(a b:Int)(ha:yq a)(hb:yq b)(st:Store)(R:AV->Store->Prop)(h:R (int (fsub a b)) st):ACalls Tryz.prog 183 [int a,int b] st R:=by
 refine Qa (c:=cfg 9) zc Tryz.func183 ?_
 refine ymn b hb _ _ ?_
 have h2:=za2 hb
 exact zax a (-nrm b) ha ⟨by omega,by omega⟩ _ _ (ret h)
theorem zna(n:Int)(hn:yq n)(st:Store)(R:AV->Store->Prop)(h:R (.tup [u64 (asz n),bool (decide (nrm n<0))]) st):ACalls Tryz.prog 214 [int n] st R:=by
 refine Qa (c:=cfg 13) zc Tryz.func214 ?_
 refine zad n _ _ ?_
 have h1:=za2 hn
 unfold asz at h
 generalize nrm n=x at*
 refine bcd (fun c1=>?_) (fun c1=>?_)
 ·refine⟨⟨by omega,by omega⟩,?_⟩
  rw[if_pos c1,show decide (x<0)=true by simp[c1]]at h
  rw[<-ye (v:=-x) (by omega) (by omega),show -x=0-x by omega]at h
  exact ret h
 ·rw[if_neg c1,show decide (x<0)=false by simp[c1]]at h
  rw[<-ye (v:=x) (by omega) (by omega)]at h
  exact ret h
set_option maxHeartbeats 1000000 in
theorem zfv(x y:Int)(hx:0<=x)(hx2:x<18446744073709551616)(hy:0<=y)(hy2:y<18446744073709551616)(st:Store)(R:AV->Store->Prop)(h:R (.tup (j6 (x*y))) st):
  ACalls Tryz.prog 215 [u64 x,u64 y] st R:=by
 refine Qa (c:=cfg 51) zc Tryz.func215 ?_
 refine⟨by decide,?_⟩
 refine⟨by decide,?_⟩
 refine⟨by decide,?_⟩
 refine⟨by decide,?_⟩
 refine⟨by decide,?_⟩
 refine ret ((congrArg (fun l=>R (.tup l) st) ?_).mpr h)
 obtain⟨p00,p10,p01,p11,e1,e2,e3,e4,e5,b⟩:=zhu x y hx hx2 hy hy2
 simp only[yuq,zxp hx,zxp hy,za5,<-e1,<-e2,<-e3,<-e4]
 rw[zxp (Int.emod_nonneg _ (by decide))]
 unfold j6 u64
 refine congr (congrArg _ ?_) rfl
 refine congrArg (fun n=>AV.s (.int .u64 n)) ?_
 omega
set_option maxHeartbeats 1000000 in
theorem za8(x y:Int)(hx:0<=x)(hx2:x<18446744073709551616)(hy:0<=y)(hy2:y<18446744073709551616)(st:Store)(R:AV->Store->Prop)(h:R (.agg (j6 (x*y))) st):
  ACalls Tryz.prog 100 [u64 x,u64 y] st R:=by
 refine Qa (c:=cfg 46) zc Tryz.func100 ?_
 refine⟨by decide,?_⟩
 refine⟨by decide,?_⟩
 refine⟨by decide,?_⟩
 refine⟨by decide,?_⟩
 refine⟨by decide,?_⟩
 refine⟨by decide,?_⟩
 refine⟨by decide,?_⟩
 refine⟨by decide,?_⟩
 refine ret ((congrArg (fun l=>R (.agg l) st) ?_).mpr h)
 obtain⟨p00,p10,p01,p11,e1,e2,e3,e4,e5,b⟩:=zhu x y hx hx2 hy hy2
 simp only[yuu,yuc,zxp hx,zxp hy,za5,<-e1,<-e2,<-e3,<-e4]
 simp only[zxp (Int.emod_nonneg _ (show(18446744073709551616:Int)≠0 by decide))]
 rw[or32 (Int.emod_nonneg _ (by decide)) (Int.emod_nonneg _ (by decide)) (by omega)]
 refine zlp ?_ ?_
 ·omega
 ·omega
theorem zaw(x:Int)(hx:0<=x)(hx2:x<18446744073709551616)(st:Store)(R:AV->Store->Prop)(h:R (.agg (j6 (x*x))) st):ACalls Tryz.prog 211 [u64 x] st R:=by
 refine Qa (c:=cfg 14) zc Tryz.func211 ?_
 exact zfv x x hx hx2 hx hx2 _ _ (ret h)
theorem zli(a b:Int)(ha:0<=a)(hb:0<=b)(st:Store)(R:AV->Store->Prop)(h:R (bool (decide (a<b))) st):ACalls Tryz.prog 210 [.agg (j6 a),.agg (j6 b)] st R:=by
 refine Qa (c:=cfg 24) zc Tryz.func210 ?_
 refine bcd (fun c1=>?_) (fun c1=>?_)
 ·exact ret (isT h (by simp;omega))
 ·refine bceq (fun c2=>?_) (fun c2=>?_)
  ·refine ret ?_
   have:decide (a<b)=decide (a%18446744073709551616<b%18446744073709551616):=by
    rw[Bool.eq_iff_iff];simp;omega
   rw[this]at h;exact h
  ·exact ret (isF h (by simp;omega))
theorem zox(a b:Int)(ha:0<=a)(hb:0<=b)(st:Store)(R:AV->Store->Prop)(h:R (bool (decide (a<b))) st):ACalls Tryz.prog 99 [.agg (j6 a),.agg (j6 b)] st R:=by
 refine Qa (c:=cfg 24) zc Tryz.func99 ?_
 refine bcd (fun c1=>?_) (fun c1=>?_)
 ·exact ret (isT h (by simp;omega))
 ·refine bceq (fun c2=>?_) (fun c2=>?_)
  ·refine ret ?_
   have:decide (a<b)=decide (a%18446744073709551616<b%18446744073709551616):=by
    rw[Bool.eq_iff_iff];simp;omega
   rw[this]at h;exact h
  ·exact ret (isF h (by simp;omega))
theorem vn(n:Int)(st:Store)(R:AV->Store->Prop)(h:R (int (nrm n)) st):ACalls Tryz.prog 65 [int n] st R:=by
 refine Qa (c:=cfg 6) zc Tryz.func65 ?_
 refine bcd (fun c1=>?_) (fun c1=>?_)
 ·rw[show nrm n=-9223372036854775807 by unfold nrm;rw[if_pos c1]]at h;exact ret h
 ·rw[show nrm n=n by unfold nrm;rw[if_neg c1]]at h;exact ret h
theorem zzb(n:Int)(hn:yq n)(st:Store)(R:AV->Store->Prop)(h:R (int (-nrm n)) st):ACalls Tryz.prog 104 [int n] st R:=by
 refine Qa (c:=cfg 6) zc Tryz.func104 ?_
 refine vn n _ _ ?_
 have:=za2 hn
 refine⟨⟨by omega,by omega⟩,?_⟩
 rw[show -nrm n=0-nrm n by omega]at h
 exact ret h
theorem zii(a b:Int)(ha:yq a)(hb:yq b)(st:Store)(R:AV->Store->Prop)(h:R (int (fadd a b)) st):ACalls Tryz.prog 103 [int a,int b] st R:=by
 refine Qa (c:=cfg 28) zc Tryz.func103 ?_
 refine vn a _ _ ?_
 refine vn b _ _ ?_
 have h1:=za2 ha
 have h2:=za2 hb
 unfold fadd at h
 generalize nrm a=x at*
 generalize nrm b=y at*
 have k1:x+y>9223372036854775807->R (int 9223372036854775807) st:=fun hh=>by rw[show vr (x+y)=9223372036854775807 by unfold vr;simp[hh]]at h;exact h
 have k2:x+y< -9223372036854775807->R (int (-9223372036854775807)) st:=fun hh=>by rw[show vr (x+y)=-9223372036854775807 by unfold vr;rw[if_neg (by omega),if_pos hh]]at h;exact h
 have k3:¬x+y>9223372036854775807->¬x+y< -9223372036854775807->yq (x+y)/\R (int (x+y)) st:=fun hh hh'=>⟨⟨by omega,by omega⟩,by rw[show vr (x+y)=x+y by unfold vr;rw[if_neg hh,if_neg hh']]at h;exact h⟩
 have fin:¬x+y>9223372036854775807->¬x+y< -9223372036854775807->yq (x+y)/\∃r st',AV.le (int (x+y)) r/\st.Has st'/\R r st':=fun hh hh'=>⟨(k3 hh hh').1,ret (k3 hh hh').2⟩
 refine bcd (fun c1=>?_) (fun c1=>?_)
 ·refine⟨⟨by omega,by omega⟩,?_⟩
  refine bcd (fun c2=>?_) (fun c2=>?_)
  ·exact ret (k1 (by omega))
  ·refine bcd (fun c3=>?_) (fun c3=>?_)
   ·omega
   ·exact fin (by omega) (by omega)
 ·refine bcd (fun c3=>?_) (fun c3=>?_)
  ·refine⟨⟨by omega,by omega⟩,?_⟩
   refine bcd (fun c4=>?_) (fun c4=>?_)
   ·exact ret (k2 (by omega))
   ·exact fin (by omega) (by omega)
  ·exact fin (by omega) (by omega)
theorem zn6(a b:Int)(ha:yq a)(hb:yq b)(st:Store)(R:AV->Store->Prop)(h:R (int (fsub a b)) st):ACalls Tryz.prog 60 [int a,int b] st R:=by
 refine Qa (c:=cfg 9) zc Tryz.func60 ?_
 refine zzb b hb _ _ ?_
 have h2:=za2 hb
 exact zii a (-nrm b) ha ⟨by omega,by omega⟩ _ _ (ret h)
theorem zfn(n:Int)(hn:-9223372036854775807<=n/\n<=9223372036854775807)(st:Store)(R:AV->Store->Prop)(h:R (u64 (asz n)) st):ACalls Tryz.prog 101 [int n] st R:=by
 refine Qa (c:=cfg 10) zc Tryz.func101 ?_
 unfold asz at h
 rw[xz (by omega)]at h
 refine bcd (fun c1=>?_) (fun c1=>?_)
 ·refine⟨⟨by omega,by omega⟩,?_⟩
  rw[if_pos c1,<-ye (v:=-n) (by omega) (by omega),show -n=0-n by omega]at h
  exact ret h
 ·rw[if_neg c1,<-ye (v:=n) (by omega) (by omega)]at h
  exact ret h
theorem zvi(a b:Int)(ha:0<=a)(hb:0<=b)(hab:a+b<340282366920938463463374607431768211456)(st:Store)(R:AV->Store->Prop)(h:R (.agg (j6 (a+b))) st):ACalls Tryz.prog 102 [.agg (j6 a),.agg (j6 b)] st R:=by
 refine Qa (c:=cfg 27) zc Tryz.func102 ?_
 refine bcd (fun c1=>?_) (fun c1=>?_)
 ·refine ret ((congrArg (fun l=>R (.agg l) st) ?_).mpr h)
  simp only[za5]at c1⊢
  refine zlp ?_ ?_
  ·omega
  ·omega
 ·refine ret ((congrArg (fun l=>R (.agg l) st) ?_).mpr h)
  simp only[za5]at c1⊢
  refine zlp ?_ ?_
  ·omega
  ·omega
theorem zlm(x y c:Int)(hx:0<=x)(hy:0<=y)(hc:0<=c)(hc1:c<=1)(st:Store)(R:AV->Store->Prop)(h:R (.tup [u64 ((x+y+c)%18446744073709551616),u64 ((x+y+c)/18446744073709551616)]) st):
  ACalls Tryz.prog 242 [u64 x,u64 y,u64 c] st R:=by
 obtain⟨a,rfl⟩:=Int.eq_ofNat_of_zero_le hx
 obtain⟨b,rfl⟩:=Int.eq_ofNat_of_zero_le hy
 obtain⟨d,rfl⟩:=Int.eq_ofNat_of_zero_le hc
 exact ycz Tryz.laysNm725 a b d (by omega) h
theorem zus(a b:Int)(ha:0<=a)(hb:0<=b)(hab:a+b<340282366920938463463374607431768211456)(st:Store)(R:AV->Store->Prop)(h:R (.agg (j6 (a+b))) st):ACalls Tryz.prog 228 [.agg (j6 a),.agg (j6 b)] st R:=by
 refine Qa (c:=cfg 29) zc Tryz.func228 ?_
 refine zlm (a%18446744073709551616) (b%18446744073709551616) 0 (by omega) (by omega) (by omega) (by omega) _ _ ?_
 refine zlm (a/18446744073709551616) (b/18446744073709551616) ((a%18446744073709551616+b%18446744073709551616+0)/18446744073709551616) (by omega) (by omega) (by omega) (by omega) _ _ ?_
 refine ret ((congrArg (fun l=>R (.agg l) st) ?_).mpr h)
 refine zlp ?_ ?_
 ·omega
 ·omega
theorem zu6{v:Vc}(h:v.ok):0<=asz v.1*asz v.1/\0<=asz v.2*asz v.2/\asz v.1*asz v.1<=85070591730234615847396907784232501249/\asz v.2*asz v.2<=85070591730234615847396907784232501249:=by
 obtain⟨h1,h2⟩:=h
 have a1:=zqe h1
 have a2:=zqe h2
 have b:∀x:Int,0<=x->x<=9223372036854775807->0<=x*x/\x*x<=85070591730234615847396907784232501249:=by
  intro x h3 h4
  refine⟨Int.mul_nonneg h3 h3,?_⟩
  have h5:x*x<=9223372036854775807*9223372036854775807:=Int.mul_le_mul h4 h4 h3 (by decide)
  exact h5
 have b1:=b _ a1.1 a1.2
 have b2:=b _ a2.1 a2.2
 exact⟨b1.1,b2.1,b1.2,b2.2⟩
theorem zhy(v:Vc)(hv:v.ok)(st:Store)(R:AV->Store->Prop)(h:R (.agg (j6 (sqr v))) st):ACalls Tryz.prog 209 [.agg (vecC v)] st R:=by
 refine Qa (c:=cfg 24) zc Tryz.func209 ?_
 have a1:=zqe hv.1
 have a2:=zqe hv.2
 have b:=zu6 hv
 refine zna v.1 hv.1 _ _ ?_
 refine zna v.2 hv.2 _ _ ?_
 refine zaw (asz v.1) (by omega) (by omega) _ _ ?_
 refine zaw (asz v.2) (by omega) (by omega) _ _ ?_
 exact zus _ _ (by omega) (by omega) (by omega) _ _ (ret h)
theorem zhk(a b:Vc)(ha:a.ok)(hb:b.ok)(st:Store)(R:AV->Store->Prop)(h:R (.agg (vecC (vsub a b))) st):ACalls Tryz.prog 182 [.agg (vecC a),.agg (vecC b)] st R:=by
 refine Qa (c:=cfg 16) zc Tryz.func182 ?_
 refine Qc zc yld ?_
 refine⟨zar a.1 b.1 ha.1 hb.1 _ _ ⟨Qe,?_⟩,Tv⟩
 refine⟨zar a.2 b.2 ha.2 hb.2 _ _ ⟨Qe,?_⟩,Tv⟩
 refine⟨⟨Qe,?_⟩,Tv⟩
 exact ret h
theorem zfg(a b:Vc):(vsub a b).ok:=⟨zcv _ _,zcv _ _⟩
theorem zc0(a b:Vc)(r:Int)(ha:a.ok)(hb:b.ok)(hr:r<=9223372036854775807)(st:Store)(R:AV->Store->Prop)(h:R (bool (near a b r)) st):ACalls Tryz.prog 181 [.agg (vecC a),.agg (vecC b),int r] st R:=by
 refine Qa (c:=cfg 17) zc Tryz.func181 ?_
 unfold near at h
 refine bcd (fun c1=>?_) (fun c1=>?_)
 ·exact ret (isF h (by simp;omega))
 ·have hb2:=zu6 (zfg a b)
  refine zhk a b ha hb _ _ ?_
  refine zhy _ (zfg a b) _ _ ?_
  refine((congrArg (fun n=>ACalls Tryz.prog 211 [.s (.int .u64 n)] st _) (ye (v:=r) (by omega) (by omega))).mpr ?_)
  refine zaw r (by omega) (by omega) _ _ ?_
  refine zli _ _ ?_ (Int.mul_nonneg (by omega) (by omega)) _ _ (ret ?_)
  ·unfold sqr;omega
  ·have:decide (0<r/\sqr (vsub a b)<r*r)=decide (sqr (vsub a b)<r*r):=by
    rw[Bool.eq_iff_iff];simp;omega
   rw[this]at h;exact h
theorem zc5(a b:Vc)(ha:a.ok)(hb:b.ok)(st:Store)(R:AV->Store->Prop)(h:R (.agg (vecC (vsub a b))) st):ACalls Tryz.prog 22 [.agg (vecC a),.agg (vecC b)] st R:=by
 refine Qa (c:=cfg 16) zc Tryz.func22 ?_
 refine Qc zc yr3 ?_
 refine⟨zn6 a.1 b.1 ha.1 hb.1 _ _ ⟨Qe,?_⟩,Tv⟩
 refine⟨zn6 a.2 b.2 ha.2 hb.2 _ _ ⟨Qe,?_⟩,Tv⟩
 refine⟨⟨Qe,?_⟩,Tv⟩
 exact ret h
theorem ycl(n:Int):asz (nrm n)=asz n:=by unfold asz;rw[ysf]
theorem zeo(v:Vc)(hv:v.ok)(st:Store)(R:AV->Store->Prop)(h:R (.agg (j6 (sqr v))) st):ACalls Tryz.prog 59 [.agg (vecC v)] st R:=by
 refine Qa (c:=cfg 20) zc Tryz.func59 ?_
 have a1:=zqe hv.1
 have a2:=zqe hv.2
 have b:=zu6 hv
 refine Qc zc yro ?_
 refine⟨vn v.1 _ _ ⟨Qe,?_⟩,Tv⟩
 refine⟨zfn (nrm v.1) (za2 hv.1) _ _ ⟨Qe,?_⟩,Tv⟩
 refine⟨vn v.2 _ _ ⟨Qe,?_⟩,Tv⟩
 refine⟨zfn (nrm v.2) (za2 hv.2) _ _ ⟨Qe,?_⟩,Tv⟩
 rw[ycl,ycl]
 refine⟨⟨Qe,?_⟩,Tv⟩
 refine⟨⟨Qe,?_⟩,Tv⟩
 refine za8 (asz v.1) (asz v.1) (by omega) (by omega) (by omega) (by omega) _ _ ?_
 refine za8 (asz v.2) (asz v.2) (by omega) (by omega) (by omega) (by omega) _ _ ?_
 exact zvi _ _ (by omega) (by omega) (by omega) _ _ (ret h)
theorem zgg(a b:Vc)(r:Int)(ha:a.ok)(hb:b.ok)(hr:yq r)(st:Store)(R:AV->Store->Prop)(h:R (bool (near a b r)) st):ACalls Tryz.prog 149 [.agg (vecC a),.agg (vecC b),int r] st R:=by
 refine Qa (c:=cfg 21) zc Tryz.func149 ?_
 have hn:=za2 hr
 unfold near at h
 have hb2:=zu6 (zfg a b)
 refine vn r _ _ ?_
 refine bcd (fun c1=>?_) (fun c1=>?_)
 ·refine ret (isF h ?_)
  have:r<0:=by unfold nrm at c1;split at c1<;>omega
  simp;omega
 ·have hr0:nrm r=r:=by unfold nrm at c1⊢;split<;>omega
  rw[hr0]at c1 hn
  refine zc5 a b ha hb _ _ ?_
  refine zeo _ (zfg a b) _ _ ?_
  refine((congrArg (fun n=>ACalls Tryz.prog 100 [.s (.int .u64 n),.s (.int .u64 n)] st _) (show IntKind.u64.wrap (nrm r)=r by rw[hr0];exact ye (v:=r) (by omega) (by omega))).mpr ?_)
  refine za8 r r (by omega) (by omega) (by omega) (by omega) _ _ ?_
  refine zox _ _ ?_ (Int.mul_nonneg (by omega) (by omega)) _ _ (ret ?_)
  ·unfold sqr;omega
  ·have:decide (0<r/\sqr (vsub a b)<r*r)=decide (sqr (vsub a b)<r*r):=by
    rw[Bool.eq_iff_iff];simp
    intro h1
    by_cases h0:r=0
    ·subst h0
     unfold sqr at h1;omega
    ·omega
   rw[this]at h;exact h
theorem ya7(g:Gnd)(hg:gndP g)(t:Nat)(ht:(t:Int)<g.W*g.H)(p:Vc)(hp:xx p.1 p.2)(r:Int)(hr:0<r/\r<=262144)(st:Store)(R:AV->Store->Prop)(h:R (bool (decide (hitP g t p r))) st):
  ACalls Tryz.prog 189 [.agg (gndC g),int t,.agg (vecC p),int r] st R:=by
 have hb:=zcf hg ht
 have hn:=ymo hg ht hp hr.1
 have hx:=txty hg ht
 have hq:=trem (t:=t) hg.1.1
 have hq2:=tquo (t:=t) hg.1.1
 have hg1:=hg.1
 have hg2:=hg.2.1
 have hp':=hp
 unfold xx at hp'
 refine Qa (c:=cfg 41) zc Tryz.func189 ?_
 refine Qc zc ylb ?_
 refine⟨by omega,?_⟩
 have q1:yq ((t:Int).tmod g.W*65536):=by rw[hq];unfold yq;omega
 have q2:yq ((t:Int).tdiv g.W):=by rw[hq2];unfold yq;omega
 have q3:yq ((t:Int).tdiv g.W*65536):=by rw[hq2];unfold yq;omega
 refine⟨q1,?_⟩
 refine⟨by omega,?_⟩
 refine⟨q2,?_⟩
 refine⟨q3,?_⟩
 refine⟨⟨Qe,?_⟩,Tv⟩
 refine⟨⟨Tv,?_⟩,Tv⟩
 have e1:(t:Int).tmod g.W*65536=tx g t:=by rw[hq];rfl
 have e2:(t:Int).tdiv g.W*65536=ty g t:=by rw[hq2];rfl
 rw[e1,e2]
 refine Qd ?_
 refine Qd ?_
 have c1:=zhg (x:=p.1) hx.1
 have c2:=zhg (x:=p.2) hx.2
 refine zc0 p (zds p.1 (tx g t),zds p.2 (ty g t)) r ⟨⟨by omega,by omega⟩,⟨by omega,by omega⟩⟩ ⟨⟨by dsimp only;omega,by dsimp only;omega⟩,⟨by dsimp only;omega,by dsimp only;omega⟩⟩ (by omega) _ _ (ret ?_)
 rw[hn]
 exact h
theorem ztx(x lo:Int)(hx:-1099511627776<=x/\x<=1099511627776)(hlo:0<=lo/\lo<=8323072)(st:Store)(R:AV->Store->Prop)(h:R (int (off x lo)) st):ACalls Tryz.prog 175 [int x,int lo,int (lo+65536)] st R:=by
 refine Qa (c:=cfg 19) zc Tryz.func175 ?_
 unfold off at h
 refine bcd (fun c1=>?_) (fun c1=>?_)
 ·refine Qd ?_
  rw[if_pos c1]at h
  exact ret h
 rw[if_neg c1]at h
 refine bcd (fun c2=>?_) (fun c2=>?_)
 ·refine Qd ?_
  rw[if_pos c2]at h
  exact ret h
 rw[if_neg c2]at h
 exact ret h
theorem zv8(g:Gnd)(hg:gndP g)(t:Nat)(ht:(t:Int)<g.W*g.H)(p:Vc)(hp:xx p.1 p.2)(r:Int)(hr:0<r/\r<=262144)(st:Store)(R:AV->Store->Prop)(h:R (bool (decide (hitP g t p r))) st):
  ACalls Tryz.prog 128 [.agg (gndC g),int t,.agg (vecC p),int r] st R:=by
 have hb:=zcf hg ht
 have hx:=txty hg ht
 have hq:=trem (t:=t) hg.1.1
 have hq2:=tquo (t:=t) hg.1.1
 have hg1:=hg.1
 have hg2:=hg.2.1
 have hp':=hp
 unfold xx at hp'
 have o1:=ytw hx.1 hp'.1
 have o2:=ytw hx.2 hp'.2
 have hm:=yal o1.1 o2.1 hr.1
 refine Qa (c:=cfg 56) zc Tryz.func128 ?_
 refine Qc zc ylu ?_
 refine⟨by omega,?_⟩
 have q1:yq ((t:Int).tmod g.W*65536):=by rw[hq];unfold yq;omega
 have q2:yq ((t:Int).tdiv g.W):=by rw[hq2];unfold yq;omega
 have q3:yq ((t:Int).tdiv g.W*65536):=by rw[hq2];unfold yq;omega
 refine⟨q1,?_⟩
 refine⟨by omega,?_⟩
 refine⟨q2,?_⟩
 refine⟨q3,?_⟩
 refine⟨⟨Qe,?_⟩,Tv⟩
 refine⟨⟨Tv,?_⟩,Tv⟩
 have e1:(t:Int).tmod g.W*65536=tx g t:=by rw[hq];rfl
 have e2:(t:Int).tdiv g.W*65536=ty g t:=by rw[hq2];rfl
 rw[e1,e2]
 refine Qc zc ylt ?_
 refine Qd ?_
 refine Qd ?_
 refine⟨ztx p.1 (tx g t) hp'.1 hx.1 _ _ ⟨Qe,?_⟩,Tv⟩
 refine⟨ztx p.2 (ty g t) hp'.2 hx.2 _ _ ⟨Tv,?_⟩,Tv⟩
 refine⟨⟨Tv,?_⟩,Tv⟩
 refine⟨⟨Tv,?_⟩,Tv⟩
 unfold hitP at h
 have no:¬(off p.1 (tx g t)<r/\off p.2 (ty g t)<r/\off p.1 (tx g t)*off p.1 (tx g t)+off p.2 (ty g t)*off p.2 (ty g t)<r*r)->R (bool false) st:=fun hh=>isF h (decide_eq_false fun k=>hh (hm.2 k))
 refine bcd (fun c1=>?_) (fun c1=>ret (no fun k=>c1 k.1))
 refine bcd (fun c2=>?_) (fun c2=>ret (no fun k=>c2 k.2.1))
 have s1:=yq8 (a:=off p.1 (tx g t)) (by omega)
 have s2:=yq8 (a:=off p.2 (ty g t)) (by omega)
 have s3:=yq8 (a:=r) (by omega)
 refine Qd ?_
 refine Qd ?_
 refine Qd ?_
 refine Qd ?_
 exact ret h
set_option maxRecDepth 20000 in
theorem zxa(p:Vc)(r:Int)(st:Store)(R:AV->Store->Prop)(h:∀z:Bool,(z=true↔(0<=r/\r<=262144)/\xx p.1 p.2)->R (bool z) st):ACalls Tryz.prog 188 [.agg (vecC p),int r] st R:=by
 refine Qa (c:=cfg 15) zc Tryz.func188 ?_
 repeat' (first|refine bcd (fun _=>?_) (fun _=>?_)|refine ze (fun _=>?_) (fun _=>?_)|refine Qd ?_|(refine zv2 p _ _ ?_;rintro(_|_) hz)|fail)
 all_goals
  refine ret (h _ ?_)
  simp only[decide_eq_true_eq,decide_eq_false_iff_not,Bool.false_eq_true,false_iff,true_iff,beq_iff_eq,bne_iff_ne,beq_eq_false_iff_ne,ne_eq,reduceCtorEq,xx]at*
  omega
theorem zkl(r:Int)(hr:0<r/\r<=262144)(st:Store)(R:AV->Store->Prop)(h:R (int r) st):ACalls Tryz.prog 191 [int r] st R:=by
 refine Qa (c:=cfg 6) zc Tryz.func191 ?_
 have e:min2 (max2 r 0) 262144=r:=by rw[min2_eq,zfy];omega
 rw[<-e]at h
 exact ret h
theorem zlk(p:Vc)(r:Int)(q:Vc)(s:Int)(hp:p.ok)(hq:q.ok)(hr:0<r/\r<=262144)(hs:0<s/\s<=262144)(st:Store)(R:AV->Store->Prop)(h:R (bool (zam p r q s)) st):
  ACalls Tryz.prog 163 [.agg (vecC p),int r,.agg (vecC q),int s] st R:=by
 refine Qa (c:=cfg 18) zc Tryz.func163 ?_
 refine Qc zc ylj ?_
 refine⟨zkl r hr _ _ ⟨Qe,?_⟩,Tv⟩
 refine⟨zkl s hs _ _ ⟨Qe,?_⟩,Tv⟩
 refine Qd ?_
 refine⟨zc0 p q (r+s) hp hq (by omega) _ _ ⟨Tv,?_⟩,Tv⟩
 exact⟨⟨Tv,ret h⟩,Tv⟩
theorem zq7(p:Vc)(r:Int)(q:Vc)(s:Int)(hp:p.ok)(hq:q.ok)(hr:0<r/\r<=262144)(hs:0<s/\s<=262144)(st:Store)(R:AV->Store->Prop)(h:R (bool (zam p r q s)) st):
  ACalls Tryz.prog 98 [.agg (vecC p),int r,.agg (vecC q),int s] st R:=by
 have e1:max2 0 (min2 r 262144)=r:=by rw[min2_eq,zfy];omega
 have e2:max2 0 (min2 s 262144)=s:=by rw[min2_eq,zfy];omega
 unfold zam at h
 rw[<-e1,<-e2]at h
 refine Qa (c:=cfg 20) zc Tryz.func98 ?_
 refine in64 (by rw[e1,e2];omega) ?_
 exact zgg p q _ hp hq (by rw[e1,e2];exact⟨by omega,by omega⟩) _ _ (ret h)
theorem zqb(l:List Bld)(hl:l.length<=1000000000000)(st:Store)(R:AV->Store->Prop)(h:∀z:Bool,(z=true↔zoc l)->R (bool z) st):ACalls Tryz.prog 195 [lst 6 bldC l] st R:=by
 refine Qa (c:=cfg 22) zc Tryz.func195 ?_
 refine AWp.loop (σ:=Nat) ⟨fun i=>[(0,.av (lst 6 bldC l)),(3,.av (int (i:Nat)))],fun _=>[],
  fun i st'=>1<=i/\(i<=l.length\/i=1)/\st'=st/\∀j,(h:j<l.length)->j<i->0<j->(l[j-1]'(by omega)).id<l[j].id,fun i=>l.length-i⟩ zc ?_ ?_
 ·exact⟨1,Tv,⟨Nat.le_refl _,.inr rfl,rfl,fun j _ hj=>by omega⟩,⟨Tq,Tq,Tv⟩,Tv⟩
 ·rintro i st' ⟨hi1,hi,rfl,hall⟩
  refine ze (fun h1=>?_) (fun h1=>?_)
  ·have hlt:i<l.length:=xk h1
   refine Qc zc yk4 ?_
   refine Qd ?_
   refine⟨i-1,by omega,za _ (zj (show i-1<l.length by omega)) ?_⟩
   refine⟨i,rfl,za _ (zj hlt) ?_⟩
   refine bcd (fun h2=>ret (h _ ?_)) (fun h2=>?_)
   ·simp only[Bool.false_eq_true,false_iff]
    intro h3
    have:=h3 i hlt (by omega)
    omega
   ·refine Qd ?_
    refine⟨i+1,?_,⟨by omega,.inl hlt,rfl,fun j hj h0 h00=>?_⟩,⟨Tq,Tq,Tv⟩,Tv⟩
    ·show l.length-(i+1)<l.length-i
     omega
    ·by_cases hji:j=i
     ·subst hji
      omega
     ·exact hall j hj (by omega) h00
  ·have hge:¬i<l.length:=by
    rw[zk]at h1
    simpa using h1
   refine ret (h _ ?_)
   simp only[true_iff]
   exact fun j hj h0=>hall j hj (by omega) h0
theorem zzd(l:List Bld)(hl:l.length<=1000000000000)(st:Store)(R:AV->Store->Prop)(h:∀z:Bool,(z=true↔zoc l)->R (bool z) st):ACalls Tryz.prog 151 [lst 6 bldC l] st R:=by
 refine Qa (c:=cfg 22) zc Tryz.func151 ?_
 refine AWp.loop (σ:=Nat) ⟨fun i=>[(0,.av (lst 6 bldC l)),(3,.av (int (i:Nat)))],fun _=>[],
  fun i st'=>1<=i/\(i<=l.length\/i=1)/\st'=st/\∀j,(h:j<l.length)->j<i->0<j->(l[j-1]'(by omega)).id<l[j].id,fun i=>l.length-i⟩ zc ?_ ?_
 ·exact⟨1,Tv,⟨Nat.le_refl _,.inr rfl,rfl,fun j _ hj=>by omega⟩,⟨Tq,Tq,Tv⟩,Tv⟩
 ·rintro i st' ⟨hi1,hi,rfl,hall⟩
  refine ze (fun h1=>?_) (fun h1=>?_)
  ·have hlt:i<l.length:=xk h1
   refine Qc zc yln ?_
   refine⟨i,rfl,za _ (zj hlt) ?_⟩
   refine Qd ?_
   refine⟨i-1,by omega,za _ (zj (show i-1<l.length by omega)) ?_⟩
   refine bcd (fun h2=>ret (h _ ?_)) (fun h2=>?_)
   ·simp only[Bool.false_eq_true,false_iff]
    intro h3
    have:=h3 i hlt (by omega)
    omega
   ·refine Qd ?_
    refine⟨i+1,?_,⟨by omega,.inl hlt,rfl,fun j hj h0 h00=>?_⟩,⟨Tq,Tq,Tv⟩,Tv⟩
    ·show l.length-(i+1)<l.length-i
     omega
    ·by_cases hji:j=i
     ·subst hji
      omega
     ·exact hall j hj (by omega) h00
  ·have hge:¬i<l.length:=by
    rw[zk]at h1
    simpa using h1
   refine ret (h _ ?_)
   simp only[true_iff]
   exact fun j hj h0=>hall j hj (by omega) h0
theorem yam(g:Gnd)(hg:gndP g)(a b:Bld)(ha:bldP a/\onP g a)(hb:bldP b/\onP g b)(st:Store)(R:AV->Store->Prop)(h:∀z:Bool,(z=true↔zg1 a b)->R (bool z) st):ACalls Tryz.prog 155 [.agg (bldC a),.agg (bldC b)] st R:=by
 unfold bldP onP at ha hb
 unfold zg1 at h
 unfold gndP at hg
 refine Qa (c:=cfg 43) zc Tryz.func155 ?_
 refine Qd ?_
 refine bcd (fun c1=>?_) (fun c1=>ret (h _ (by simp;omega)))
 refine Qd ?_
 refine bcd (fun c2=>?_) (fun c2=>ret (h _ (by simp;omega)))
 refine Qd ?_
 refine bcd (fun c3=>?_) (fun c3=>ret (h _ (by simp;omega)))
 refine Qd ?_
 exact ret (h _ (by rw[decide_eq_true_iff];omega))
theorem ymx(g:Gnd)(hg:gndP g)(b:Bld)(hb:bldP b/\onP g b)(t:Nat)(ht:(t:Int)<g.W*g.H)(st:Store)(R:AV->Store->Prop)(h:∀z:Bool,(z=true↔hasP g b t)->R (bool z) st):
  ACalls Tryz.prog 127 [.agg (gndC g),.agg (bldC b),int t] st R:=by
 have htb:=zcf hg ht
 have hq:=trem (t:=t) hg.1.1
 have hq2:=tquo (t:=t) hg.1.1
 unfold bldP onP at hb
 unfold hasP at h
 have hg1:=hg.1
 have hg2:=hg.2.1
 refine Qa (c:=cfg 45) zc Tryz.func127 ?_
 refine Qc zc ylv ?_
 refine⟨by omega,?_⟩
 refine⟨by omega,?_⟩
 refine Qd ?_
 refine⟨⟨Qe,?_⟩,Tv⟩
 refine⟨⟨Tv,?_⟩,Tv⟩
 rw[<-hq,<-hq2]at h
 refine bcd (fun c1=>?_) (fun c1=>ret (h _ (by simp;omega)))
 refine Qd ?_
 refine bcd (fun c2=>?_) (fun c2=>ret (h _ (by simp;omega)))
 refine bcd (fun c3=>?_) (fun c3=>ret (h _ (by simp;omega)))
 refine Qd ?_
 exact ret (h _ (by rw[decide_eq_true_iff];omega))
theorem zvu(g:Gnd)(hg:gndP g)(b:Bld)(hb:bldP b/\onP g b)(st:Store)(R:AV->Store->Prop)(h:∀z:Bool,(z=true↔zjz g b)->R (bool z) st):
  ACalls Tryz.prog 154 [.agg (gndC g),.agg (bldC b)] st R:=by
 have hm:=zr hg
 refine Qa (c:=cfg 35) zc Tryz.func154 ?_
 refine AWp.loop (σ:=Nat) ⟨fun i=>[(2,.bx 2 0),(3,.bx 3 0),(5,.av (int (i:Nat)))],fun _=>[(2,gndC g),(3,bldC b)],
  fun i st'=>i<=g.T.length/\st'=st/\∀t,t<i->hasP g b t->(g.T.getD t 0).toNat<=1,fun i=>g.T.length-i⟩ zc ?_ ?_
 ·exact⟨0,Tv,⟨Nat.zero_le _,rfl,fun t ht=>by omega⟩,⟨Tq,Tq,Tq,Tv⟩,⟨rfl,rfl,Tv⟩⟩
 rintro i st' ⟨hi,rfl,hall⟩
 refine Qd ?_
 refine bcd (fun h1=>?_) (fun h1=>?_)
 rotate_left
 ·refine ret (h _ ?_)
  simp only[true_iff]
  intro t ht
  exact hall t (by omega)
 have hlt:i<g.T.length:=by omega
 have hget:g.T.getD i 0=g.T[i]:=by simp[hlt]
 have next:(hasP g b i->(g.T.getD i 0).toNat<=1)->∀t,t<i+1->hasP g b t->(g.T.getD t 0).toNat<=1:=by
  intro hq t ht hh
  by_cases e:t=i
  ·subst e;exact hq hh
  ·exact hall t (by omega) hh
 refine ymx g hg b hb i (by omega) _ _ (fun z hz=>?_)
 cases z with
 |false=>
  refine Qd ?_
  refine⟨i+1,?_,⟨by omega,rfl,next fun hh=>by have:=hz.2 hh;cases this⟩,⟨Tq,Tq,Tq,Tv⟩,⟨rfl,rfl,Tv⟩⟩
  show g.T.length-(i+1)<g.T.length-i
  omega
 |true=>
  refine⟨i,rfl,za _ (zj hlt) ?_⟩
  have fin:(g.T[i].toNat<=1)->∃s:Nat,g.T.length-s<g.T.length-i/\(s<=g.T.length/\st'=st'/\∀t,t<s->hasP g b t->(g.T.getD t 0).toNat<=1)/\s=i+1:=
   fun hh=>⟨i+1,by omega,⟨by omega,rfl,next fun _=>by rw[hget];exact hh⟩,rfl⟩
  refine bcne (fun c1=>?_) (fun c1=>?_)
  ·refine⟨i,rfl,za _ (zj hlt) ?_⟩
   refine bcne (fun c2=>?_) (fun c2=>?_)
   ·refine ret (h _ ?_)
    simp only[Bool.false_eq_true,false_iff]
    intro hf
    have:=hf i hlt (hz.1 rfl)
    rw[hget]at this
    omega
   ·obtain⟨s,f1,f2,rfl⟩:=fin (by omega)
    refine Qd ?_
    exact⟨i+1,f1,f2,⟨Tq,Tq,Tq,Tv⟩,⟨rfl,rfl,Tv⟩⟩
  ·obtain⟨s,f1,f2,rfl⟩:=fin (by omega)
   refine Qd ?_
   exact⟨i+1,f1,f2,⟨Tq,Tq,Tq,Tv⟩,⟨rfl,rfl,Tv⟩⟩
theorem zfi(g:Gnd)(hg:gndP g)(b:Bld)(hb:bldP b/\onP g b)(st:Store)(R:AV->Store->Prop)(h:R (ints (v8 g.W b)) st):ACalls Tryz.prog 199 [.agg (gndC g),.agg (bldC b)] st R:=by
 have hb':=hb
 unfold bldP onP at hb'
 have hg1:=hg.1
 have hg2:=hg.2.1
 refine Qa (c:=cfg 35) zc Tryz.func199 ?_
 refine AWp.loop (σ:=Nat×AV) ⟨fun s=>[(2,.bx 2 0),(3,.bx 3 0),(4,.av s.2),(8,.av (int b.h)),(9,.av (int (s.1:Nat)))],fun _=>[(2,gndC g),(3,bldC b)],
  fun s st'=>s.1<=b.h.toNat/\App 1 st s.2 (rws intC (k8 g.W b s.1)) st',fun s=>b.h.toNat-s.1⟩ zc ?_ ?_
 ·exact⟨(0,_),Tv,⟨Nat.zero_le _,App.start 1 st⟩,⟨Tq,Tq,Tq,Tq,Tq,Tv⟩,⟨rfl,rfl,Tv⟩⟩
 rintro⟨y,v⟩ st' ⟨hy,ha⟩
 dsimp only at hy ha⊢
 refine bcd (fun h1=>?_) (fun h1=>?_)
 rotate_left
 ·have:y=b.h.toNat:=by omega
  subst this
  exact⟨_,st,AV.le_trans ha.le (Tt),ha.has,h⟩
 refine AWp.loop (σ:=Nat×AV) ⟨fun s=>[(2,.bx 2 0),(3,.bx 3 0),(4,.av s.2),(5,.av (int (y:Nat))),(8,.av (int b.h)),(9,.av (int (y:Nat))),(13,.av (int b.w)),(14,.av (int (s.1:Nat)))],fun _=>[(2,gndC g),(3,bldC b)],
  fun s st'=>s.1<=b.w.toNat/\App 1 st s.2 (rws intC (k8 g.W b y++ki g.W b y s.1)) st',fun s=>b.w.toNat-s.1⟩ zc ?_ ?_
 ·refine⟨(0,v),Tv,⟨Nat.zero_le _,?_⟩,⟨Tq,Tq,Tq,Tq,Tq,Tq,Tq,Tq,Tv⟩,⟨rfl,rfl,Tv⟩⟩
  dsimp only
  rw[show ki g.W b y 0=[]from rfl,List.append_nil]
  exact ha
 rintro⟨x,v2⟩ st2 ⟨hx,ha2⟩
 dsimp only at hx ha2⊢
 refine bcd (fun h2=>?_) (fun h2=>?_)
 rotate_left
 ·have:x=b.w.toNat:=by omega
  subst this
  refine Qd ?_
  refine⟨(y+1,v2),?_,⟨by dsimp only;omega,?_⟩,⟨Tq,Tq,Tq,Tq,Tq,Tv⟩,⟨rfl,rfl,Tv⟩⟩
  ·show b.h.toNat-(y+1)<b.h.toNat-y
   omega
  ·dsimp only
   rw[zce]
   exact ha2
 obtain⟨q1,q2,_⟩:=k9 hg (x:=b.x+x) (y:=b.y+y) (by omega) (by omega)
 have hm:=zr hg
 have q3:0<=g.W*(b.y+(y:Int)):=Int.mul_nonneg (by omega) (by omega)
 refine Qd ?_
 refine Qd ?_
 refine Qd ?_
 refine Qd ?_
 refine⟨by decide,?_⟩
 have hlen:(k8 g.W b y++ki g.W b y x).length<=16:=by
  rw[List.length_append,zdw,zhw]
  have:y*b.w.toNat<=3*4:=Nat.mul_le_mul (by omega) (by omega)
  omega
 refine xi (ie:=ti2) (rows':=[intC (b.x+(x:Int)+g.W*(b.y+(y:Int)))]) ha2 ?_ ?_ ⟨?_,?_⟩ (fun v3 st3 ha3=>?_)
 ·rfl
 ·rfl
 ·simp only[zk,List.length_singleton,ti2];omega
 ·simp only[zk,List.length_singleton];omega
 refine Qd ?_
 refine⟨(x+1,v3),?_,⟨by dsimp only;omega,?_⟩,⟨Tq,Tq,Tq,Tq,Tq,Tq,Tq,Tq,Tv⟩,⟨rfl,rfl,Tv⟩⟩
 ·show b.w.toNat-(x+1)<b.w.toNat-x
  omega
 ·dsimp only
  rw[znt,<-List.append_assoc]
  unfold rws
  rw[List.map_append]
  exact ha3
theorem zpu(n:Int)(hn:yq n)(st:Store)(R:AV->Store->Prop)(h:R (int (nrm n/131072)) st):ACalls Tryz.prog 202 [int n] st R:=by
 refine Qa (c:=cfg 15) zc Tryz.func202 ?_
 refine zad n _ _ ?_
 have hb:=za2 hn
 generalize nrm n=x at*
 refine bcd (fun c1=>?_) (fun c1=>?_)
 ·refine⟨⟨by omega,by omega⟩,?_⟩
  refine⟨⟨by omega,by omega⟩,?_⟩
  refine⟨by decide,?_⟩
  have e:(0-x-1).tdiv 131072=(0-x-1)/131072:=Int.tdiv_eq_ediv_of_nonneg (by omega)
  rw[e]
  refine⟨⟨by omega,by omega⟩,?_⟩
  refine⟨⟨by omega,by omega⟩,?_⟩
  refine⟨⟨by omega,by omega⟩,?_⟩
  rw[show x/131072=0-((0-x-1)/131072+1) by omega]at h
  exact ret h
 ·refine⟨by decide,?_⟩
  have e:x.tdiv 131072=x/131072:=Int.tdiv_eq_ediv_of_nonneg (by omega)
  rw[e]
  exact⟨⟨by omega,by omega⟩,ret h⟩
theorem za1(p:Vc)(hp:p.ok)(st:Store)(R:AV->Store->Prop)(h:R (.agg [int (zt p).1,int (zt p).2]) st):ACalls Tryz.prog 176 [.agg (vecC p)] st R:=by
 refine Qa (c:=cfg 10) zc Tryz.func176 ?_
 refine Qc zc ylg ?_
 refine⟨zpu p.1 hp.1 _ _ ⟨Qe,?_⟩,Tv⟩
 refine⟨zpu p.2 hp.2 _ _ ⟨Qe,?_⟩,Tv⟩
 refine⟨⟨Qe,?_⟩,Tv⟩
 exact ret h
theorem ze9(R:AV->Store->Prop)(h:∀a p,CellsOf a p []->R (.s (.pointer (some ⟨p,0,none⟩))) a):ACalls Tryz.prog 132 [] Store.empty R:=by
 refine Qa (c:=cfg 5 [4] []) zc Tryz.func132 ?_
 refine xa rfl (fun ma hma=>?_)
 refine xa rfl (fun mi hmi=>?_)
 intro p hp
 have h1:mi≠ma:=fun e=>by have:=hmi.1;rw[e,zb]at this;cases this
 have h2:p≠mi:=fun e=>by have:=hp.1;rw[e,zb]at this;cases this
 have h3:p≠ma:=fun e=>by have:=hp.1;rw[e,zd (Ne.symm h1),zb]at this;cases this
 refine ret (h _ _ ⟨ma,mi,[],0,[],[],0,⟨zb _ _ _,?_,?_,Ne.symm h1,(fun g hg=>(by cases hg)),List.nodup_nil⟩,⟨List.nodup_nil,List.nodup_nil,(fun g hg=>(by cases hg)),(fun g hg=>(by cases hg)),(fun g hg=>(by cases hg))⟩⟩)
 ·rw[zd (Ne.symm h3),zd (Ne.symm h1)];exact zb _ _ _
 ·rw[zd (Ne.symm h2)];exact zb _ _ _
theorem zgw{st:Store}{v:AV}{ns:List Int}(hv:Ints st v ns)(x:Int)(hlen:ns.length<4611686018427387904)(hs:ns.Pairwise (·<=·))(R:AV->Store->Prop)
  (h:R (.tup [int (ns.countP (·<x):Nat),bool (ns.contains x)]) st):ACalls Tryz.prog 177 [v,int x] st R:=
 zva Tryz.laysNm225 Tryz.func177 rfl rfl hv x hlen hs h
theorem zi7{st:Store}{b cap i j:Nat}{ns:List Int}{L:List AV}(ho:st.obj b=some (.cells (ns.map aI++L)))
  (hc1:ns.length<=cap) (hc2:cap<=9223372036854775807) (hij:i<=j) (hj:j<=ns.length) (R:AV->Store->Prop)
  (h:R (.s (.slice (some ⟨b,0,none⟩) (ns.take i++ns.drop j).length cap)) (st.setObj b (.cells ((ns.take i++ns.drop j).map aI++(List.replicate (j-i) (aI 0)++L))))):
  ACalls Tryz.prog 192 [.s (.slice (some ⟨b,0,none⟩) ns.length cap),int i,int j] st R:=
 zxb Tryz.laysNm223 Tryz.func192 rfl rfl ho hc1 hc2 hij hj h
theorem zd3{st:Store}{v:AV}{ns:List Int}(hv:Ints st v ns){vb:Nat}(x:Int)(i:Nat)(hi:i<=ns.length)
  (hvb:st.obj vb=some (.cells [aI x])) (hne:∀b cap,v=.s (.slice (some ⟨b,0,none⟩) ns.length cap)->b≠vb) (hlen:(ns.length+1)*8<=140737488355328) (R:AV->Store->Prop)
  (h:∀b cap L,(Fresh st b\/∃c0,v=.s (.slice (some ⟨b,0,none⟩) ns.length c0))->(ns.take i++x::ns.drop i).length<=cap->cap<=(ns.take i++x::ns.drop i).length+L.length->cap<=9223372036854775807->
   R (.s (.slice (some ⟨b,0,none⟩) (ns.take i++x::ns.drop i).length cap)) (st.setObj b (.cells ((ns.take i++x::ns.drop i).map aI++L)))):
  ACalls Tryz.prog 178 [v,int i,.s (.slice (some ⟨vb,0,none⟩) 1 1)] st R:=
 zwh Tryz.laysNm221 Tryz.func178 rfl rfl hv x i hi hvb hne hlen h
theorem zsd{l:List Ent}{G:List Grp}(h:Inv l G):∀g∈G,g.ns.length<=l.length:=by
 intro g hg
 have h1:=(h.s g hg).1
 have h2:g.ns.Nodup:=h1.imp fun h e=>by omega
 have h3:g.ns ⊆ l.map (·.1):=fun id hid=>by
  obtain⟨e,he,h4,_⟩:=(h.m1 g hg id).1 hid
  exact List.mem_map.2 ⟨e,he,h4⟩
 have:=List.Nodup.length_le_of_subset h2 h3
 simpa using this
theorem zyq{ns:List Int}(h:ns.Pairwise (·<·)):ns.Pairwise (·<=·):=h.imp fun h=>by omega
set_option maxHeartbeats 1000000 in
theorem zb7{a:Store}{p:Nat}{l:List Ent}(hc:CellsOf a p l)(hl:l.length<=1000000000)(hok:∀e∈l,e.2.ok)(id:Int)(R:AV->Store->Prop)
  (h:∀a',CellsOf a' p (yn l id)->R (bool (l.find? (atId id)).isSome) a'):ACalls Tryz.prog 164 [.s (.pointer (some ⟨p,0,none⟩)),int id] a R:=by
 obtain⟨ma,mi,bs1,c1,G,bs2,c2,ha,hi⟩:=hc
 refine Qa (c:=cfg 60) zc Tryz.func164 ?_
 refine za _ ha.hp ?_
 refine ya rfl (it:=ti209) (ie:=ti48) (ik:=ti2) rfl rfl rfl rfl ha.ha rfl (qA id) (fun e he=>?_) ?_
 ·obtain⟨e,_,rfl⟩:=List.mem_map.1 he
  rfl
 rw[yub]
 cases hf:l.find? (atId id)with
 |none=>
  rw[hf]at h
  refine ret (h a ?_)
  rw[zsa hf]
  exact⟨ma,mi,bs1,c1,G,bs2,c2,ha,hi⟩
 |some e=>
  rw[hf]at h
  obtain⟨hem,heq⟩:=ze3 hf
  have hid:e.1=id:=(by simpa [atId]using heq:id=e.1).symm
  refine za1 e.2 (hok e hem) _ _ ?_
  obtain⟨g,hg,hk⟩:=hi.m2 e hem
  have hfg:∃g',G.find? (zjk (zt e.2))=some g':=by
   cases hx:G.find? (zjk (zt e.2))with
   |some g'=>exact⟨g',rfl⟩
   |none=>exact absurd (atKey_iff.2 hk) (by simpa using List.find?_eq_none.1 hx g hg)
  obtain⟨g',hfg⟩:=hfg
  have hg':=ze3 hfg
  have:g'=g:=yt3 hi.n2 hg hg'.1 (by rw[hk];exact atKey_iff.1 hg'.2)
  subst this
  obtain⟨j,hj1,hj2⟩:=zmm hfg
  obtain⟨k1,k2,k3⟩:=ha.hg g' hg
  obtain⟨s1,s2⟩:=hi.s g' hg
  have hin:id∈g'.ns:=(hi.m1 g' hg id).2 ⟨e,hem,hid,hk.symm⟩
  obtain⟨d1,d2,d3⟩:=zxc s1 hin
  have hlen:=zsd hi g' hg
  refine Qc zc yli ?_
  refine za (o:=a.obj p) _ ha.hp ?_
  refine⟨ya rfl (it:=ti210) (ie:=ti29) (ik:=ti48) rfl rfl rfl rfl ha.hi rfl (qG (zt e.2).1 (zt e.2).2) (fun e he=>?_) ⟨Qe,?_⟩,Tv⟩
  ·obtain⟨e,_,rfl⟩:=List.mem_map.1 he
   rfl
  rw[ybt,hfg]
  refine⟨⟨Qe,?_⟩,Tv⟩
  refine zgw (.inr ⟨g'.b,g'.cap,g'.L,rfl,k1,k2⟩) id (by omega) (zyq s1) _ ?_
  refine⟨⟨by omega,by omega⟩,?_⟩
  refine zi7 k1 k2.1 k2.2.2 (Nat.le_add_right _ 1) d1 _ ?_
  generalize hns:g'.ns.take (g'.ns.countP fun x=>decide (x<id))++g'.ns.drop (g'.ns.countP (fun x=>decide (x<id))+1)=ns' at*
  obtain⟨n1,n2,n3⟩:=ha.g_ne hg
  have mid:=ha.mid (.cells (ns'.map aI++(List.replicate (g'.ns.countP (fun x=>decide (x<id))+1-g'.ns.countP (fun x=>decide (x<id))) (aI 0)++g'.L))) n3 n1 n2
  rw[show g'.ns.countP (fun x=>decide (x<id))+1-g'.ns.countP (fun x=>decide (x<id))=1 by omega]at mid⊢
  have hnl:ns'.length+1=g'.ns.length:=by rw[<-hns];simp;omega
  obtain⟨v1,v2⟩:=ysk hi hem hj2 hk d2 (by rw[hid];exact d3)
  obtain⟨i,hi1,hi2⟩:=zmm hf
  have her:(l.map entA).eraseIdx i=(yn l id).map entA:=by rw[wn,zmp hi.n1 hi2,hid]
  refine bceq (fun hz=>?_) (fun hz=>?_)
  ·have hn0:ns'=[]:=List.eq_nil_of_length_eq_zero (by omega)
   refine Qc zc ylh ?_
   refine za (o:=(a.setObj g'.b _).obj p) _ mid.hp ?_
   refine⟨zbz rfl rfl rfl rfl (it:=ti210) (ik:=ti48) rfl rfl rfl mid.hi rfl (qG (zt e.2).1 (zt e.2).2) (fun e he=>?_) ⟨Qe,?_⟩,Tv⟩
   ·obtain⟨e,_,rfl⟩:=List.mem_map.1 he
    rfl
   have m1:=mid.setI (G':=G.eraseIdx j) (bs2.eraseIdx j) c2 (fun g1 h1=>.inl ?_) (mid.nd.sublist ((List.eraseIdx_sublist ..).map _))
   rotate_left
   ·obtain⟨q1,q2⟩:=(wh (f:=Grp.key) hi.n2 hj2).1 h1
    refine⟨q1,fun e=>q2 ?_⟩
    obtain⟨i1,hi1⟩:=List.mem_iff_getElem?.1 q1
    have:=xj (f:=fun g:Grp=>g.b) ha.nd hi1 hj2 e
    subst this
    rw[hj2]at hi1
    cases hi1;rfl
   have e1:zb4 (G.map entG) bs2 c2 (qG (zt e.2).1 (zt e.2).2)=.map ((G.eraseIdx j).map entG) (bs2.eraseIdx j) c2:=by
    unfold zb4
    rw[zhd,hj1]
    simp only[wn]
   rw[e1]
   refine za _ m1.hp ?_
   refine zbz rfl rfl rfl rfl (it:=ti209) (ik:=ti2) rfl rfl rfl m1.ha rfl (qA id) (fun e he=>?_) ?_
   ·obtain⟨e,_,rfl⟩:=List.mem_map.1 he
    rfl
   have e2:zb4 (l.map entA) bs1 c1 (qA id)=.map ((yn l id).map entA) (bs1.eraseIdx i) c1:=by
    unfold zb4
    rw[zhe,hi1]
    simp only[her]
   rw[e2]
   have m2:=m1.setA (yn l id) (bs1.eraseIdx i) c1
   rw[hid]at v1
   exact ret (h _ ⟨ma,mi,_,_,_,_,_,m2,v1 hn0⟩)
  ·have hn0:ns'≠[]:=fun e=>by rw[e]at hz;exact hz rfl
   refine Qc zc zy1 ?_
   refine za (o:=(a.setObj g'.b _).obj p) _ mid.hp ?_
   refine⟨qe (.inl rfl) rfl (it:=ti210) (ik:=ti48) rfl rfl rfl mid.hi rfl rfl (qG (zt e.2).1 (zt e.2).2) (fun e he=>?_) (fun e1 he hq=>?_) ⟨Qe,?_⟩,Tv⟩
   ·obtain⟨e,_,rfl⟩:=List.mem_map.1 he
    rfl
   ·obtain⟨g1,_,rfl⟩:=List.mem_map.1 he
    have:=(atKey_iff (k:=zt e.2) (g:=g1)).1 hq
    show AV.agg [int g1.x,int g1.y]=_
    rw[<-this];rfl
   let g2:Grp:=⟨g'.x,g'.y,ns',g'.b,g'.cap,List.replicate 1 (aI 0)++g'.L⟩
   have e1:jk (G.map entG) bs2 c2 (qG (zt e.2).1 (zt e.2).2) (.agg [int (zt e.2).1,int (zt e.2).2]) (.s (.slice (some ⟨g'.b,0,none⟩) ns'.length g'.cap))=.map ((G.set j g2).map entG) bs2 c2:=by
    unfold jk
    rw[zhd,hj1,List.map_set]
    simp only
    congr 2
    show _=(AV.agg [int g'.x,int g'.y],_)
    rw[<-hk];rfl
   have m1:=mid.setI (G':=G.set j g2) bs2 c2 (fun g1 h1=>?_) (by rw[zcn (fun g:Grp=>g.b) (g':=g2) hj2 rfl];exact mid.nd)
   rotate_left
   ·rcases(qk (f:=fun g:Grp=>g.b) ha.nd hj2).1 h1 with rfl|⟨q1,q2⟩
    ·refine .inr ⟨zb _ _ _,⟨?_,?_,k2.2.2⟩,k3⟩
     ·show ns'.length<=g'.cap
      have:=k2.1;omega
     ·show g'.cap<=ns'.length+(List.replicate 1 (aI 0)++g'.L).length
      have:=k2.2.1
      simp;omega
    ·exact .inl ⟨q1,q2⟩
   rw[<-e1]at m1
   refine za _ m1.hp ?_
   refine zbz rfl rfl rfl rfl (it:=ti209) (ik:=ti2) rfl rfl rfl m1.ha rfl (qA id) (fun e he=>?_) ?_
   ·obtain⟨e,_,rfl⟩:=List.mem_map.1 he
    rfl
   have e2:zb4 (l.map entA) bs1 c1 (qA id)=.map ((yn l id).map entA) (bs1.eraseIdx i) c1:=by
    unfold zb4
    rw[zhe,hi1]
    simp only[her]
   rw[e2]
   have m2:=m1.setA (yn l id) (bs1.eraseIdx i) c1
   rw[hid]at v2
   exact ret (h _ ⟨ma,mi,_,_,_,_,_,m2,v2 hn0 g2 rfl rfl⟩)
theorem zcw{l:List Ent}{id:Int}:∀e∈yn l id,e.1≠id:=fun e he=>(mem_dropId.1 he).2
theorem zw6(l:List Ent)(id:Int):(yn l id).length<=l.length:=List.length_filter_le _ _
set_option maxHeartbeats 1000000 in
theorem zm0{a:Store}{p:Nat}{l:List Ent}(hc:CellsOf a p l)(hl:l.length<=1000000000)(hok:∀e∈l,e.2.ok)(id:Int)(pos:Vc)(hpos:pos.ok)(R:AV->Store->Prop)
  (h:∀a',CellsOf a' p (yn l id++[(id,pos)])->R (.tup []) a'):ACalls Tryz.prog 133 [.s (.pointer (some ⟨p,0,none⟩)),int id,.agg (vecC pos)] a R:=by
 refine Qa (c:=cfg 46 [38,1000038] []) zc Tryz.func133 ?_
 refine zb7 hc hl hok id _ (fun a1 hc1=>?_)
 obtain⟨ma,mi,bs1,c1,G,bs2,c2,ha,hi⟩:=hc1
 refine za1 pos hpos _ _ ?_
 obtain⟨cur,ns,e1,e2,e3,e4,e5,e6⟩:=zzs (pos:=pos) ha hi zcw
 have hnl:ns.length<=1000000000:=by
  rcases e4 with rfl|⟨g,hg,rfl⟩
  ·simp
  ·have h1:=zsd hi g hg
   have h2:=zw6 l id
   omega
 have hle:=yng id ns
 refine Qc zc yls ?_
 refine za (o:=a1.obj p) _ ha.hp ?_
 refine⟨ya rfl (it:=ti210) (ie:=ti29) (ik:=ti48) rfl rfl rfl rfl ha.hi rfl (qG (zt pos).1 (zt pos).2) (fun e he=>?_) ⟨Qe,?_⟩,Tv⟩
 ·obtain⟨e,_,rfl⟩:=List.mem_map.1 he
  rfl
 rw[ybt,show zb0 ti29=.s (.slice none 0 0)from rfl,e1]
 refine⟨zgw e2 id (by omega) (zyq e3) _ ⟨Qe,?_⟩,Tv⟩
 refine⟨⟨Qe,?_⟩,Tv⟩
 refine⟨⟨Qe,?_⟩,Tv⟩
 refine Qc zc ylr ?_
 refine za (o:=a1.obj p) _ ha.hp ?_
 refine za (o:=a1.obj p) _ ha.hp ?_
 refine⟨ya rfl (it:=ti210) (ie:=ti29) (ik:=ti48) rfl rfl rfl rfl ha.hi rfl (qG (zt pos).1 (zt pos).2) (fun e he=>?_) ⟨?_,?_⟩,?_⟩
 ·obtain⟨e,_,rfl⟩:=List.mem_map.1 he
  rfl
 ·repeat(first|exact Tv|refine⟨rfl,?_⟩|refine⟨za (o:=a1.obj p) _ ha.hp rfl,?_⟩)
 ·rw[ybt,show zb0 ti29=.s (.slice none 0 0)from rfl,e1]
  refine⟨⟨by decide,fun vb hvb=>?_⟩,Tv⟩
  have hp1:=(ha.fresh (.cells [aI id]) hvb).hp
  refine⟨?_,?_⟩
  ·repeat(first|exact Tv|refine⟨rfl,?_⟩|refine⟨za (o:=(a1.setObj vb (.cells [aI id])).obj p) _ hp1 rfl,?_⟩)
  refine⟨zd3 (e2.fresh _ hvb) id _ hle (zb _ _ _) (fun b cap hc he=>e5 b cap hc (he▸hvb.1)) (by omega) _ (fun b cap L q1 q2 q3 q4=>?_),Tv⟩
  obtain⟨w1,w2,G',bs2',c2',w3,w4,w5⟩:=e6 vb _ b cap L hvb q1 q2 q3 q4
  refine⟨?_,?_⟩
  ·repeat(first|exact Tv|refine⟨rfl,?_⟩|refine⟨za (o:=Store.obj (Store.setObj _ b _) p) _ w2 rfl,?_⟩)
  refine⟨qe (.inl rfl) rfl (it:=ti210) (ik:=ti48) rfl rfl rfl w1 rfl rfl (qG (zt pos).1 (zt pos).2) (fun e he=>?_) (fun e1 he hq=>?_) ⟨Qe,?_⟩,Tv⟩
  ·obtain⟨e,_,rfl⟩:=List.mem_map.1 he
   rfl
  ·obtain⟨g1,_,rfl⟩:=List.mem_map.1 he
   have:=(atKey_iff (k:=zt pos) (g:=g1)).1 hq
   show AV.agg [int g1.x,int g1.y]=_
   rw[<-this];rfl
  rw[w3]
  refine Qc zc ztp ?_
  refine za (o:=Store.obj (Store.setObj _ mi _) p) _ w4.hp ?_
  refine⟨qe (.inl rfl) rfl (it:=ti209) (ik:=ti2) rfl rfl rfl w4.ha rfl rfl (qA id) (fun e he=>?_) (fun e1 he hq=>?_) ⟨Qe,?_⟩,Tv⟩
  ·obtain⟨e,_,rfl⟩:=List.mem_map.1 he
   rfl
  ·obtain⟨g1,hg1,rfl⟩:=List.mem_map.1 he
   have:id=g1.1:=by simpa [qA,entA,int]using hq
   exact absurd this.symm (zcw g1 hg1)
  have e7:jk ((yn l id).map entA) bs1 c1 (qA id) (int id) (.agg (vecC pos))=.map ((yn l id++[(id,pos)]).map entA) (bs1++[c1]) (c1+1):=by
   unfold jk
   have:(yn l id).findIdx? (atId id)=none:=by
    rw[List.findIdx?_eq_none_iff]
    intro e he
    have:=zcw e he
    simp[atId]
    exact fun h=>this h.symm
   rw[zhe,this,List.map_append]
   rfl
  have w6:=w4.setA (yn l id++[(id,pos)]) (bs1++[c1]) (c1+1)
  rw[<-e7]at w6
  exact ret (h _ ⟨ma,mi,_,_,G',_,_,w6,w5⟩)
 ·refine⟨⟨by decide,fun vb hvb=>?_⟩,Tv⟩
  have ha1:=ha.fresh (.cells [aI id]) hvb
  have hp1:=ha1.hp
  refine⟨?_,?_⟩
  ·repeat(first|exact Tv|refine⟨rfl,?_⟩|refine⟨za (o:=(a1.setObj vb (.cells [aI id])).obj p) _ hp1 rfl,?_⟩)
  refine⟨ya rfl (it:=ti210) (ie:=ti29) (ik:=ti48) rfl rfl rfl rfl ha1.hi rfl (qG (zt pos).1 (zt pos).2) (fun e he=>?_) ⟨?_,?_⟩,Tv⟩
  ·obtain⟨e,_,rfl⟩:=List.mem_map.1 he
   rfl
  ·repeat(first|exact Tv|refine⟨rfl,?_⟩|refine⟨za (o:=(a1.setObj vb (.cells [aI id])).obj p) _ hp1 rfl,?_⟩)
  rw[ybt,show zb0 ti29=.s (.slice none 0 0)from rfl,e1]
  refine⟨zd3 (e2.fresh _ hvb) id _ hle (zb _ _ _) (fun b cap hc he=>e5 b cap hc (he▸hvb.1)) (by omega) _ (fun b cap L q1 q2 q3 q4=>?_),Tv⟩
  obtain⟨w1,w2,G',bs2',c2',w3,w4,w5⟩:=e6 vb _ b cap L hvb q1 q2 q3 q4
  refine⟨?_,?_⟩
  ·repeat(first|exact Tv|refine⟨rfl,?_⟩|refine⟨za (o:=Store.obj (Store.setObj _ b _) p) _ w2 rfl,?_⟩)
  refine⟨qe (.inl rfl) rfl (it:=ti210) (ik:=ti48) rfl rfl rfl w1 rfl rfl (qG (zt pos).1 (zt pos).2) (fun e he=>?_) (fun e1 he hq=>?_) ⟨Qe,?_⟩,Tv⟩
  ·obtain⟨e,_,rfl⟩:=List.mem_map.1 he
   rfl
  ·obtain⟨g1,_,rfl⟩:=List.mem_map.1 he
   have:=(atKey_iff (k:=zt pos) (g:=g1)).1 hq
   show AV.agg [int g1.x,int g1.y]=_
   rw[<-this];rfl
  rw[w3]
  refine Qc zc ztp ?_
  refine za (o:=Store.obj (Store.setObj _ mi _) p) _ w4.hp ?_
  refine⟨qe (.inl rfl) rfl (it:=ti209) (ik:=ti2) rfl rfl rfl w4.ha rfl rfl (qA id) (fun e he=>?_) (fun e1 he hq=>?_) ⟨Qe,?_⟩,Tv⟩
  ·obtain⟨e,_,rfl⟩:=List.mem_map.1 he
   rfl
  ·obtain⟨g1,hg1,rfl⟩:=List.mem_map.1 he
   have:id=g1.1:=by simpa [qA,entA,int]using hq
   exact absurd this.symm (zcw g1 hg1)
  have e7:jk ((yn l id).map entA) bs1 c1 (qA id) (int id) (.agg (vecC pos))=.map ((yn l id++[(id,pos)]).map entA) (bs1++[c1]) (c1+1):=by
   unfold jk
   have:(yn l id).findIdx? (atId id)=none:=by
    rw[List.findIdx?_eq_none_iff]
    intro e he
    have:=zcw e he
    simp[atId]
    exact fun h=>this h.symm
   rw[zhe,this,List.map_append]
   rfl
  have w6:=w4.setA (yn l id++[(id,pos)]) (bs1++[c1]) (c1+1)
  rw[<-e7]at w6
  exact ret (h _ ⟨ma,mi,_,_,G',_,_,w6,w5⟩)
def ptr(b:Nat):AV:=.s (.pointer (some ⟨b,0,none⟩))
set_option maxHeartbeats 1000000 in
theorem znu{F N:Store}(hd:Disj F N){p:Nat}{l:List Ent}(hc:CellsOf F p l){b3 b4 b5 b6:Nat}{q:Vc}{r:Int}{v:AV}{acc:List Int}(hN:NearAt N b3 b4 b5 b6 p q r v acc)(hq:q.ok)(hr:r<=9223372036854775807)
  {e:Ent} (he:l.find? (atId e.1)=some e) (hok:e.2.ok) (hlen:acc.length<=1000000000000) (R:AV->Store->Prop)
  (h:∀N' v',Disj F N'->NearAt N' b3 b4 b5 b6 p q r v' (if near q e.2 r then acc++[e.1]else acc)->R (.tup []) (F.un N')):
  ACalls Tryz.prog 207 [int e.1,ptr b4,ptr b3,ptr b5,ptr b6] (F.un N) R:=by
 obtain⟨ma,mi,bs1,c1,G,bs2,c2,ha,hi⟩:=hc
 refine Qa (c:=cfg 19) zc Tryz.func207 ?_
 refine Qc zc yk2 ?_
 refine za (o:=(F.un N).obj b4) _ (un_r hN.h4) ?_
 refine za (o:=(F.un N).obj b3) _ (un_r hN.h3) ?_
 refine za (o:=(F.un N).obj p) _ (un_l hd ha.hp) ?_
 refine za (o:=(F.un N).obj b5) _ (un_r hN.h5) ?_
 refine⟨ya rfl (it:=ti209) (ie:=ti48) (ik:=ti2) rfl rfl rfl rfl (un_l hd ha.ha) rfl (qA e.1) (fun e he=>?_) ⟨?_,?_⟩,Tv⟩
 ·obtain⟨e,_,rfl⟩:=List.mem_map.1 he
  rfl
 ·repeat(first|exact Tv|refine⟨rfl,?_⟩|refine⟨za (o:=(F.un N).obj b4) _ (un_r hN.h4) rfl,?_⟩|refine⟨za (o:=(F.un N).obj b5) _ (un_r hN.h5) rfl,?_⟩)
 rw[yub,he]
 refine⟨zc0 q e.2 r hq hok hr _ _ ⟨Tv,?_⟩,Tv⟩
 cases hn:near q e.2 r with
 |false=>
  rw[hn]at h
  exact ret (h N v hd hN)
 |true=>
  rw[hn]at h
  refine za (o:=(F.un N).obj b6) _ (un_r hN.h6) ?_
  refine⟨by decide,?_⟩
  refine zm8 (ie:=ti2) rfl rfl rfl hN.hv.un e.1 hlen (fun b cap L q1 q2 q3 q4=>?_)
  have q1':Fresh N b\/∃c0,v=.s (.slice (some ⟨b,0,none⟩) acc.length c0):=q1.imp (fun h=>(fresh_un h).2) id
  have hN':=hN.app q1' q2 q3 q4
  rw[zi]
  have hd1:Disj F (N.setObj b (.cells ((acc++[e.1]).map aI++L))):=by
   rcases q1 with q1|⟨c0,q1⟩
   ·exact disj_setR hd (fresh_un q1).1
   ·rcases hN.hv with⟨h1,_⟩|⟨b',_,_,h1,h2,_⟩
    ·rw[h1]at q1;cases q1
    ·rw[h1]at q1
     simp at q1
     exact wu hd (q1.1▸h2)
  have hd2:=wu (x:=.cells [.s (.slice (some ⟨b,0,none⟩) (acc++[e.1]).length cap)]) hd1 (b:=b6) (y:=.cells [v]) (by
   have hne:b6≠b:=by
    rcases q1' with q1|⟨c0,q1⟩
    ·exact Ne.symm (q1.ne_obj hN.h6)
    ·exact Ne.symm (hN.nv b _ _ q1).2.2.2
   rw[zd hne];exact hN.h6)
  have h6':(N.setObj b (.cells ((acc++[e.1]).map aI++L))).obj b6=some (.cells [v]):=by
   have hne:b6≠b:=by
    rcases q1' with q1|⟨c0,q1⟩
    ·exact Ne.symm (q1.ne_obj hN.h6)
    ·exact Ne.symm (hN.nv b _ _ q1).2.2.2
   rw[zd hne];exact hN.h6
  refine zh (i:=ti29) (v:=.s (.slice (some ⟨b,0,none⟩) (acc++[e.1]).length cap)) (b:=b6) (o:=0) (l:=[v]) (st2:=F.un ((N.setObj b (.cells ((acc++[e.1]).map aI++L))).setObj b6 (.cells [.s (.slice (some ⟨b,0,none⟩) (acc++[e.1]).length cap)]))) rfl rfl rfl (un_r h6') (Nat.le_refl _) ?_ ?_
  ·rw[zi];rfl
  ·exact ret (h _ _ hd2 hN')
theorem CellsOf.fresh{F:Store}{p:Nat}{l:List Ent}(h:CellsOf F p l){b:Nat}(x:AObj)(hb:Fresh F b):CellsOf (F.setObj b x) p l:=by
 obtain⟨ma,mi,bs1,c1,G,bs2,c2,ha,hi⟩:=h
 exact⟨ma,mi,bs1,c1,G,bs2,c2,ha.fresh x hb,hi⟩
theorem zyp{st:Store}{b cap:Nat}{ns:List Int}{L:List AV}(ho:st.obj b=some (.cells (ns.map aI++L)))(hlen:ns.length<4611686018427387904)(R:AV->Store->Prop)
  (h:R (.tup []) (st.setObj b (.cells ((ns.mergeSort fun x y=>decide (x<=y)).map aI++L)))):ACalls Tryz.prog 208 [.s (.slice (some ⟨b,0,none⟩) ns.length cap)] st R:=
 ykc Tryz.lays189 Tryz.func208 rfl rfl ho hlen h
theorem ykb{st:Store}(R:AV->Store->Prop)(h:R (.tup []) st):ACalls Tryz.prog 208 [.s (.slice none 0 0)] st R:=
 zn3 Tryz.lays189 Tryz.func208 rfl rfl h
def znv(b3 b4 b5 b6:Nat):AV:=.clos 207 [ptr b4,ptr b3,ptr b5,ptr b6]
set_option maxHeartbeats 2000000 in
theorem zj3{F:Store}{p:Nat}{l:List Ent}(hc:CellsOf F p l)(hl:l.length<=1000000000)(hok:∀e∈l,e.2.ok){q:Vc}(hq:q.ok){r:Int}(hr:yq r)(R:AV->Store->Prop)
  (h:∀F' N v ns,CellsOf F' p l->Disj F' N->Ints N v ns->zqj l q r ns->R v (F'.un N)):ACalls Tryz.prog 180 [ptr p,.agg (vecC q),int r] F R:=by
 refine Qb (c:=cfg 126 [3,4,5,6] []) zc Tryz.func180 ?_
 refine AWp.seq (AWp.of_vc zc ?_)
 intro b3 hb3 b4 hb4 b5 hb5 b6 hb6
 have n43:b4≠b3:=fun e=>by have:=hb4.1;rw[e,zb]at this;cases this
 have n54:b5≠b4:=fun e=>by have:=hb5.1;rw[e,zb]at this;cases this
 have n53:b5≠b3:=fun e=>by have:=hb5.1;rw[e,zd (Ne.symm n43),zb]at this;cases this
 have n65:b6≠b5:=fun e=>by have:=hb6.1;rw[e,zb]at this;cases this
 have n64:b6≠b4:=fun e=>by have:=hb6.1;rw[e,zd (Ne.symm n54),zb]at this;cases this
 have n63:b6≠b3:=fun e=>by have:=hb6.1;rw[e,zd (Ne.symm n53),zd (Ne.symm n43),zb]at this;cases this
 have est:(((F.setObj b3 (.cells [ptr p])).setObj b4 (.cells (vecC q))).setObj b5 (.cells [int r])).setObj b6 (.cells [.s (.slice none 0 0)])=
   F.un ((((Store.empty.setObj b3 (.cells [ptr p])).setObj b4 (.cells (vecC q))).setObj b5 (.cells [int r])).setObj b6 (.cells [.s (.slice none 0 0)])):=by
  rw[<-zi,<-zi,<-zi,<-zi,zap]
 have f3:Fresh F b3:=hb3
 have f4:Fresh F b4:=by have:=hb4;rw[<-zap F,zi]at this;exact(fresh_un this).1
 have f5:Fresh F b5:=by have:=hb5;rw[<-zap F,zi,zi]at this;exact(fresh_un this).1
 have f6:Fresh F b6:=by have:=hb6;rw[<-zap F,zi,zi,zi]at this;exact(fresh_un this).1
 have hN0:NearAt ((((Store.empty.setObj b3 (.cells [ptr p])).setObj b4 (.cells (vecC q))).setObj b5 (.cells [int r])).setObj b6 (.cells [.s (.slice none 0 0)])) b3 b4 b5 b6 p q r (.s (.slice none 0 0)) []:=by
  refine⟨?_,?_,?_,zb _ _ _,.inl ⟨rfl,rfl⟩,Ne.symm n63,Ne.symm n64,Ne.symm n65,fun b n cap e=>by cases e⟩
  ·rw[zd (Ne.symm n63),zd (Ne.symm n53),zd (Ne.symm n43)];exact zb _ _ _
  ·rw[zd (Ne.symm n64),zd (Ne.symm n54)];exact zb _ _ _
  ·rw[zd (Ne.symm n65)];exact zb _ _ _
 have hd0:Disj F ((((Store.empty.setObj b3 (.cells [ptr p])).setObj b4 (.cells (vecC q))).setObj b5 (.cells [int r])).setObj b6 (.cells [.s (.slice none 0 0)])):=
  disj_setR (disj_setR (disj_setR (disj_setR (zw9 F) f3) f4) f5) f6
 show AWp _ _ _ _ _ ((((F.setObj b3 (.cells [ptr p])).setObj b4 (.cells (vecC q))).setObj b5 (.cells [int r])).setObj b6 (.cells [.s (.slice none 0 0)]))
 rw[est]
 generalize((((Store.empty.setObj b3 (.cells [ptr p])).setObj b4 (.cells (vecC q))).setObj b5 (.cells [int r])).setObj b6 (.cells [.s (.slice none 0 0)]))=N0 at*
 clear est hb3 hb4 hb5 hb6
 refine AWp.seq (AWp.of_vc zc ?_)
 refine za (o:=(F.un N0).obj b5) _ (un_r hN0.h5) ?_
 refine bcd (fun c1=>?_) (fun c1=>?_)
 ·refine wq (i:=ti29) (v:=.s (.slice none 0 0)) (b:=b6) (o:=0) (l:=[.s (.slice none 0 0)]) rfl rfl rfl (un_r hN0.h6) (Nat.le_refl _) ?_
  refine za (o:=Store.obj (Store.setObj _ b6 _) b6) _ (zb _ _ _) ?_
  refine ret ?_
  rw[zi]
  refine h F _ _ [] hc (wu hd0 hN0.h6) (.inl ⟨rfl,rfl⟩) ⟨List.Pairwise.nil,fun id=>⟨(fun h=>(by cases h)),fun⟨e,_,_,hn⟩=>?_⟩⟩
  unfold near at hn
  have:=(of_decide_eq_true hn).1
  omega
 refine AWp.seq (AWp.of_vc zc ?_)
 have hr0:0<r:=by omega
 have hr1:r<=9223372036854775807:=hr.2
 have sub_q1:=zcv q.1 r
 have sub_q2:=zcv q.2 r
 have add_q1:=zmn q.1 r
 have add_q2:=zmn q.2 r
 refine AWp.meet (σ:=Unit) ⟨fun _=>[(3,.av (ptr b3)),(4,.av (ptr b4)),(5,.av (ptr b5)),(6,.av (ptr b6)),(7,.av (znv b3 b4 b5 b6)),(8,.bx 8 0)],fun _=>[(8,[int (zt (fsub q.1 r,fsub q.2 r)).1,int (zt (fsub q.1 r,fsub q.2 r)).2])],
  fun _ st'=>st'=F.un N0⟩ zc ?_ ?_
 ·refine Qc zc ylf ?_
  refine za (o:=(F.un N0).obj b4) _ (un_r hN0.h4) ?_
  refine za (o:=(F.un N0).obj b5) _ (un_r hN0.h5) ?_
  refine za (o:=(F.un N0).obj b4) _ (un_r hN0.h4) ?_
  refine za (o:=(F.un N0).obj b5) _ (un_r hN0.h5) ?_
  refine⟨zar q.1 r hq.1 hr _ _ ⟨(by repeat(first|exact Tv|refine⟨rfl,?_⟩|refine⟨za (o:=(F.un N0).obj b4) _ (un_r hN0.h4) rfl,?_⟩|refine⟨za (o:=(F.un N0).obj b5) _ (un_r hN0.h5) rfl,?_⟩)),⟨zar q.2 r hq.2 hr _ _ ⟨(by repeat(first|exact Tv|refine⟨rfl,?_⟩|refine⟨za (o:=(F.un N0).obj b4) _ (un_r hN0.h4) rfl,?_⟩|refine⟨za (o:=(F.un N0).obj b5) _ (un_r hN0.h5) rfl,?_⟩)),⟨za1 (fsub q.1 r,fsub q.2 r) ⟨sub_q1,sub_q2⟩ _ _ ⟨(by repeat(first|exact Tv|refine⟨rfl,?_⟩|refine⟨za (o:=(F.un N0).obj b4) _ (un_r hN0.h4) rfl,?_⟩|refine⟨za (o:=(F.un N0).obj b5) _ (un_r hN0.h5) rfl,?_⟩)),⟨⟨(by repeat(first|exact Tv|refine⟨rfl,?_⟩|refine⟨za (o:=(F.un N0).obj b4) _ (un_r hN0.h4) rfl,?_⟩|refine⟨za (o:=(F.un N0).obj b5) _ (un_r hN0.h5) rfl,?_⟩)),⟨⟨(by repeat(first|exact Tv|refine⟨rfl,?_⟩|refine⟨za (o:=(F.un N0).obj b4) _ (un_r hN0.h4) rfl,?_⟩|refine⟨za (o:=(F.un N0).obj b5) _ (un_r hN0.h5) rfl,?_⟩)),?_⟩,Tv⟩⟩,Tv⟩⟩,⟨⟨(by repeat(first|exact Tv|refine⟨rfl,?_⟩|refine⟨za (o:=(F.un N0).obj b4) _ (un_r hN0.h4) rfl,?_⟩|refine⟨za (o:=(F.un N0).obj b5) _ (un_r hN0.h5) rfl,?_⟩)),⟨za1 (fsub q.1 r,fsub q.2 r) ⟨sub_q1,sub_q2⟩ _ _ ⟨(by repeat(first|exact Tv|refine⟨rfl,?_⟩|refine⟨za (o:=(F.un N0).obj b4) _ (un_r hN0.h4) rfl,?_⟩|refine⟨za (o:=(F.un N0).obj b5) _ (un_r hN0.h5) rfl,?_⟩)),⟨⟨(by repeat(first|exact Tv|refine⟨rfl,?_⟩|refine⟨za (o:=(F.un N0).obj b4) _ (un_r hN0.h4) rfl,?_⟩|refine⟨za (o:=(F.un N0).obj b5) _ (un_r hN0.h5) rfl,?_⟩)),?_⟩,Tv⟩⟩,Tv⟩⟩,Tv⟩⟩⟩,⟨⟨(by repeat(first|exact Tv|refine⟨rfl,?_⟩|refine⟨za (o:=(F.un N0).obj b4) _ (un_r hN0.h4) rfl,?_⟩|refine⟨za (o:=(F.un N0).obj b5) _ (un_r hN0.h5) rfl,?_⟩)),⟨zar q.2 r hq.2 hr _ _ ⟨(by repeat(first|exact Tv|refine⟨rfl,?_⟩|refine⟨za (o:=(F.un N0).obj b4) _ (un_r hN0.h4) rfl,?_⟩|refine⟨za (o:=(F.un N0).obj b5) _ (un_r hN0.h5) rfl,?_⟩)),⟨za1 (fsub q.1 r,fsub q.2 r) ⟨sub_q1,sub_q2⟩ _ _ ⟨(by repeat(first|exact Tv|refine⟨rfl,?_⟩|refine⟨za (o:=(F.un N0).obj b4) _ (un_r hN0.h4) rfl,?_⟩|refine⟨za (o:=(F.un N0).obj b5) _ (un_r hN0.h5) rfl,?_⟩)),⟨⟨(by repeat(first|exact Tv|refine⟨rfl,?_⟩|refine⟨za (o:=(F.un N0).obj b4) _ (un_r hN0.h4) rfl,?_⟩|refine⟨za (o:=(F.un N0).obj b5) _ (un_r hN0.h5) rfl,?_⟩)),?_⟩,Tv⟩⟩,Tv⟩⟩,Tv⟩⟩,Tv⟩⟩⟩,⟨⟨(by repeat(first|exact Tv|refine⟨rfl,?_⟩|refine⟨za (o:=(F.un N0).obj b4) _ (un_r hN0.h4) rfl,?_⟩|refine⟨za (o:=(F.un N0).obj b5) _ (un_r hN0.h5) rfl,?_⟩)),⟨zar q.1 r hq.1 hr _ _ ⟨(by repeat(first|exact Tv|refine⟨rfl,?_⟩|refine⟨za (o:=(F.un N0).obj b4) _ (un_r hN0.h4) rfl,?_⟩|refine⟨za (o:=(F.un N0).obj b5) _ (un_r hN0.h5) rfl,?_⟩)),⟨zar q.2 r hq.2 hr _ _ ⟨(by repeat(first|exact Tv|refine⟨rfl,?_⟩|refine⟨za (o:=(F.un N0).obj b4) _ (un_r hN0.h4) rfl,?_⟩|refine⟨za (o:=(F.un N0).obj b5) _ (un_r hN0.h5) rfl,?_⟩)),⟨za1 (fsub q.1 r,fsub q.2 r) ⟨sub_q1,sub_q2⟩ _ _ ⟨(by repeat(first|exact Tv|refine⟨rfl,?_⟩|refine⟨za (o:=(F.un N0).obj b4) _ (un_r hN0.h4) rfl,?_⟩|refine⟨za (o:=(F.un N0).obj b5) _ (un_r hN0.h5) rfl,?_⟩)),⟨⟨(by repeat(first|exact Tv|refine⟨rfl,?_⟩|refine⟨za (o:=(F.un N0).obj b4) _ (un_r hN0.h4) rfl,?_⟩|refine⟨za (o:=(F.un N0).obj b5) _ (un_r hN0.h5) rfl,?_⟩)),?_⟩,Tv⟩⟩,Tv⟩⟩,Tv⟩⟩,Tv⟩⟩,Tv⟩⟩
  all_goals exact⟨(),rfl,⟨Tq,Tq,Tq,Tq,Tq,Tq,Tv⟩,⟨rfl,Tv⟩⟩
 rintro _ _ rfl
 refine AWp.meet (σ:=Unit) ⟨fun _=>[(3,.av (ptr b3)),(6,.av (ptr b6)),(7,.av (znv b3 b4 b5 b6)),(8,.bx 8 0),(9,.bx 9 0)],fun _=>[(8,[int (zt (fsub q.1 r,fsub q.2 r)).1,int (zt (fsub q.1 r,fsub q.2 r)).2]),(9,[int (zt (fadd q.1 r,fadd q.2 r)).1,int (zt (fadd q.1 r,fadd q.2 r)).2])],
  fun _ st'=>st'=F.un N0⟩ zc ?_ ?_
 ·refine Qc zc yle ?_
  refine za (o:=(F.un N0).obj b4) _ (un_r hN0.h4) ?_
  refine za (o:=(F.un N0).obj b5) _ (un_r hN0.h5) ?_
  refine za (o:=(F.un N0).obj b4) _ (un_r hN0.h4) ?_
  refine za (o:=(F.un N0).obj b5) _ (un_r hN0.h5) ?_
  refine⟨zax q.1 r hq.1 hr _ _ ⟨(by repeat(first|exact Tv|refine⟨rfl,?_⟩|refine⟨za (o:=(F.un N0).obj b4) _ (un_r hN0.h4) rfl,?_⟩|refine⟨za (o:=(F.un N0).obj b5) _ (un_r hN0.h5) rfl,?_⟩)),⟨zax q.2 r hq.2 hr _ _ ⟨(by repeat(first|exact Tv|refine⟨rfl,?_⟩|refine⟨za (o:=(F.un N0).obj b4) _ (un_r hN0.h4) rfl,?_⟩|refine⟨za (o:=(F.un N0).obj b5) _ (un_r hN0.h5) rfl,?_⟩)),⟨za1 (fadd q.1 r,fadd q.2 r) ⟨add_q1,add_q2⟩ _ _ ⟨(by repeat(first|exact Tv|refine⟨rfl,?_⟩|refine⟨za (o:=(F.un N0).obj b4) _ (un_r hN0.h4) rfl,?_⟩|refine⟨za (o:=(F.un N0).obj b5) _ (un_r hN0.h5) rfl,?_⟩)),⟨⟨(by repeat(first|exact Tv|refine⟨rfl,?_⟩|refine⟨za (o:=(F.un N0).obj b4) _ (un_r hN0.h4) rfl,?_⟩|refine⟨za (o:=(F.un N0).obj b5) _ (un_r hN0.h5) rfl,?_⟩)),⟨⟨(by repeat(first|exact Tv|refine⟨rfl,?_⟩|refine⟨za (o:=(F.un N0).obj b4) _ (un_r hN0.h4) rfl,?_⟩|refine⟨za (o:=(F.un N0).obj b5) _ (un_r hN0.h5) rfl,?_⟩)),?_⟩,Tv⟩⟩,Tv⟩⟩,⟨⟨(by repeat(first|exact Tv|refine⟨rfl,?_⟩|refine⟨za (o:=(F.un N0).obj b4) _ (un_r hN0.h4) rfl,?_⟩|refine⟨za (o:=(F.un N0).obj b5) _ (un_r hN0.h5) rfl,?_⟩)),⟨za1 (fadd q.1 r,fadd q.2 r) ⟨add_q1,add_q2⟩ _ _ ⟨(by repeat(first|exact Tv|refine⟨rfl,?_⟩|refine⟨za (o:=(F.un N0).obj b4) _ (un_r hN0.h4) rfl,?_⟩|refine⟨za (o:=(F.un N0).obj b5) _ (un_r hN0.h5) rfl,?_⟩)),⟨⟨(by repeat(first|exact Tv|refine⟨rfl,?_⟩|refine⟨za (o:=(F.un N0).obj b4) _ (un_r hN0.h4) rfl,?_⟩|refine⟨za (o:=(F.un N0).obj b5) _ (un_r hN0.h5) rfl,?_⟩)),?_⟩,Tv⟩⟩,Tv⟩⟩,Tv⟩⟩⟩,⟨⟨(by repeat(first|exact Tv|refine⟨rfl,?_⟩|refine⟨za (o:=(F.un N0).obj b4) _ (un_r hN0.h4) rfl,?_⟩|refine⟨za (o:=(F.un N0).obj b5) _ (un_r hN0.h5) rfl,?_⟩)),⟨zax q.2 r hq.2 hr _ _ ⟨(by repeat(first|exact Tv|refine⟨rfl,?_⟩|refine⟨za (o:=(F.un N0).obj b4) _ (un_r hN0.h4) rfl,?_⟩|refine⟨za (o:=(F.un N0).obj b5) _ (un_r hN0.h5) rfl,?_⟩)),⟨za1 (fadd q.1 r,fadd q.2 r) ⟨add_q1,add_q2⟩ _ _ ⟨(by repeat(first|exact Tv|refine⟨rfl,?_⟩|refine⟨za (o:=(F.un N0).obj b4) _ (un_r hN0.h4) rfl,?_⟩|refine⟨za (o:=(F.un N0).obj b5) _ (un_r hN0.h5) rfl,?_⟩)),⟨⟨(by repeat(first|exact Tv|refine⟨rfl,?_⟩|refine⟨za (o:=(F.un N0).obj b4) _ (un_r hN0.h4) rfl,?_⟩|refine⟨za (o:=(F.un N0).obj b5) _ (un_r hN0.h5) rfl,?_⟩)),?_⟩,Tv⟩⟩,Tv⟩⟩,Tv⟩⟩,Tv⟩⟩⟩,⟨⟨(by repeat(first|exact Tv|refine⟨rfl,?_⟩|refine⟨za (o:=(F.un N0).obj b4) _ (un_r hN0.h4) rfl,?_⟩|refine⟨za (o:=(F.un N0).obj b5) _ (un_r hN0.h5) rfl,?_⟩)),⟨zax q.1 r hq.1 hr _ _ ⟨(by repeat(first|exact Tv|refine⟨rfl,?_⟩|refine⟨za (o:=(F.un N0).obj b4) _ (un_r hN0.h4) rfl,?_⟩|refine⟨za (o:=(F.un N0).obj b5) _ (un_r hN0.h5) rfl,?_⟩)),⟨zax q.2 r hq.2 hr _ _ ⟨(by repeat(first|exact Tv|refine⟨rfl,?_⟩|refine⟨za (o:=(F.un N0).obj b4) _ (un_r hN0.h4) rfl,?_⟩|refine⟨za (o:=(F.un N0).obj b5) _ (un_r hN0.h5) rfl,?_⟩)),⟨za1 (fadd q.1 r,fadd q.2 r) ⟨add_q1,add_q2⟩ _ _ ⟨(by repeat(first|exact Tv|refine⟨rfl,?_⟩|refine⟨za (o:=(F.un N0).obj b4) _ (un_r hN0.h4) rfl,?_⟩|refine⟨za (o:=(F.un N0).obj b5) _ (un_r hN0.h5) rfl,?_⟩)),⟨⟨(by repeat(first|exact Tv|refine⟨rfl,?_⟩|refine⟨za (o:=(F.un N0).obj b4) _ (un_r hN0.h4) rfl,?_⟩|refine⟨za (o:=(F.un N0).obj b5) _ (un_r hN0.h5) rfl,?_⟩)),?_⟩,Tv⟩⟩,Tv⟩⟩,Tv⟩⟩,Tv⟩⟩,Tv⟩⟩
  all_goals exact⟨(),rfl,⟨Tq,Tq,Tq,Tq,Tq,Tv⟩,⟨rfl,rfl,Tv⟩⟩
 rintro _ _ rfl
 have hab:=yr7 hq hr0 hr1
 have hA:=ycd (p:=(fsub q.1 r,fsub q.2 r)) ⟨zcv _ _,zcv _ _⟩
 have hB:=ycd (p:=(fadd q.1 r,fadd q.2 r)) ⟨zmn _ _,zmn _ _⟩
 have hrect:∀e∈l,near q e.2 r=true->_:=fun e he hn=>yad hq (hok e he) hr0 hr1 hn
 generalize zt (fsub q.1 r,fsub q.2 r)=A0 at*
 generalize zt (fadd q.1 r,fadd q.2 r)=B0 at*
 obtain⟨ax,ay⟩:=A0
 obtain⟨bx,by'⟩:=B0
 dsimp only at hab hA hB hrect⊢
 refine AWp.meetA (σ:=Store×Store×AV×List Int) ⟨fun _=>[(6,.av (ptr b6))],fun _=>[],fun s st'=>st'=s.1.un s.2.1/\Disj s.1 s.2.1/\CellsOf s.1 p l/\NearAt s.2.1 b3 b4 b5 b6 p q r s.2.2.1 s.2.2.2/\NearIn l q r (fun _=>True) s.2.2.2⟩ ?_ ?_
 ·obtain⟨ma,mi,bs1,cl1,G,bs2,cl2,ha,hi⟩:=hc
  have hgl:(G.map entG).length<=l.length:=by rw[List.length_map];exact zwo hi
  have slots:∀b:Bool,LV.le (.av (bool b)) (.av (bool b)):=fun b=>Tq
  refine AWp.seq (AWp.of_vc zc ?_)
  refine za (o:=(F.un N0).obj b3) _ (un_r hN0.h3) ?_
  refine za (o:=(F.un N0).obj p) _ (un_l hd0 ha.hp) ?_
  refine za (o:=(F.un N0).obj mi) _ (un_l hd0 ha.hi) ?_
  refine⟨⟨by omega,by omega⟩,?_⟩
  refine AWp.meet (σ:=Bool) ⟨fun b=>[(3,.av (ptr b3)),(6,.av (ptr b6)),(7,.av (znv b3 b4 b5 b6)),(8,.bx 8 0),(9,.bx 9 0),(77,.av (bool b))],fun _=>[(8,[int ax,int ay]),(9,[int bx,int by'])],
   fun b st'=>st'=F.un N0⟩ zc ?_ ?_
  ·refine⟨⟨by omega,by omega⟩,?_⟩
   refine bcd (fun d1=>?_) (fun d1=>?_)
   ·exact⟨true,rfl,⟨Tq,Tq,Tq,Tq,Tq,Tq,Tv⟩,⟨rfl,rfl,Tv⟩⟩
   refine⟨⟨by omega,by omega⟩,?_⟩
   refine bcd (fun d2=>?_) (fun d2=>?_)
   ·exact⟨true,rfl,⟨Tq,Tq,Tq,Tq,Tq,Tq,Tv⟩,⟨rfl,rfl,Tv⟩⟩
   have m1:(bx-ax+1)*(by'-ay+1)<=1000000002*1000000002:=Int.mul_le_mul (by omega) (by omega) (by omega) (by decide)
   have m0:0<=(bx-ax+1)*(by'-ay+1):=Int.mul_nonneg (by omega) (by omega)
   refine⟨⟨by omega,by omega⟩,?_⟩
   refine⟨⟨by omega,by omega⟩,?_⟩
   refine⟨⟨by omega,by omega⟩,?_⟩
   refine⟨⟨by omega,by omega⟩,?_⟩
   refine⟨⟨by omega,by omega⟩,?_⟩
   exact⟨_,rfl,⟨Tq,Tq,Tq,Tq,Tq,Tq,Tv⟩,⟨rfl,rfl,Tv⟩⟩
  rintro b _ rfl
  refine AWp.of_vc zc ?_
  cases b with
  |true=>
   refine za (o:=(F.un N0).obj b3) _ (un_r hN0.h3) ?_
   refine za (o:=(F.un N0).obj p) _ (un_l hd0 ha.hp) ?_
   refine zsr (un_l hd0 ha.ha) (fun hst=>?_)
   refine zxr rfl (it:=ti209) rfl rfl (un_l hd0 ha.ha) (fun bi hbi=>?_)
   have fbi:=fresh_un hbi
   have nbi:¬N0.has bi:=fresh_iff.1 fbi.2
   rw[qb nbi]
   refine AWp.loop (σ:=List Nat×Store×AV×List Int) ⟨fun _=>[(6,.av (ptr b6)),(7,.av (znv b3 b4 b5 b6)),(82,.av (ptr bi))],fun _=>[],
    fun s st'=>st'=(F.setObj bi (.iter ma cl1 s.1 cl1)).un s.2.1/\Disj (F.setObj bi (.iter ma cl1 s.1 cl1)) s.2.1/\NearAt s.2.1 b3 b4 b5 b6 p q r s.2.2.1 s.2.2.2/\s.1.Nodup/\(∀t∈s.1,t∈bs1)∧
     NearIn l q r (fun e=>∃(i t:Nat),l[i]?=some e/\bs1[i]?=some t/\t∈s.1) s.2.2.2,fun s=>bs1.length-s.1.length⟩ zc ?_ ?_
   ·exact⟨([],N0,_,[]),Tv,⟨rfl,qq hd0 nbi,hN0,List.nodup_nil,(fun t ht=>(by cases ht)),List.nodup_nil,fun id=>⟨(fun h=>(by cases h)),fun⟨e,_,_,_,i,t,_,_,h⟩=>(by cases h)⟩⟩,⟨Tq,Tq,Tq,Tv⟩,Tv⟩
   rintro⟨seen,N,v,acc⟩ st' ⟨rfl,hd,hN,hs1,hs2,hacc⟩
   dsimp only at hd hN hs1 hs2 hacc⊢
   have hF1:CellsAt (F.setObj bi (.iter ma cl1 seen cl1)) p ma mi l bs1 cl1 G bs2 cl2:=ha.fresh _ fbi.1
   refine ycx rfl (un_l hd (zb _ _ _)) (un_l hd hF1.ha) (fun hall=>?_) (fun i e t he ht hnt=>?_)
   ·refine⟨(F.setObj bi (.iter ma cl1 seen cl1),N,v,acc),⟨rfl,hd,⟨ma,mi,_,_,_,_,_,hF1,hi⟩,hN,?_⟩,⟨Tq,Tv⟩,Tv⟩
    refine hacc.congr fun e he _=>⟨fun _=>trivial,fun _=>?_⟩
    obtain⟨i,hi'⟩:=List.mem_iff_getElem?.1 he
    have hlt:i<bs1.length:=by
     have h1:=hst.len
     have h2:=(List.getElem?_eq_some_iff.1 hi').1
     rw[List.length_map]at h1
     omega
    exact⟨i,bs1[i],hi',List.getElem?_eq_getElem hlt,hall _ (List.getElem_mem hlt)⟩
   ·obtain⟨e0,he0,rfl⟩:∃e0,l[i]?=some e0/\entA e0=e:=by
     rw[List.getElem?_map]at he
     cases hx:l[i]? with
     |none=>rw[hx]at he;cases he
     |some e0=>rw[hx]at he;simp at he;exact⟨e0,rfl,he⟩
    have hem:=List.mem_of_getElem? he0
    obtain⟨hd',nb⟩:=zw8 (y:=.iter ma cl1 (seen++[t]) cl1) hd
    have hF2:CellsAt (F.setObj bi (.iter ma cl1 (seen++[t]) cl1)) p ma mi l bs1 cl1 G bs2 cl2:=ha.fresh _ fbi.1
    rw[qb nb,zg]
    refine zxs rfl (un_l hd' (zb _ _ _)) (un_l hd' hF2.ha) he ht ?_
    refine znu hd' ⟨ma,mi,_,_,_,_,_,hF2,hi⟩ hN hq hr1 (zpo hi.n1 hem) (hok _ hem) (by have:=hacc.len;omega) _ (fun N' v' hdd hN'=>?_)
    refine⟨(seen++[t],N',v',_),?_,⟨rfl,hdd,hN',?_,?_,?_⟩,⟨Tq,Tq,Tq,Tv⟩,Tv⟩
    ·have h1:(seen++[t]).Nodup:=by
      rw[List.nodup_append]
      exact⟨hs1,by simp,fun a ha b hb=>by simp at hb;subst hb;exact fun e=>hnt (e▸ha)⟩
     have h2:=List.Nodup.length_le_of_subset (l₂:=bs1) h1 (fun x hx=>by
      rcases List.mem_append.1 hx with hx|hx
      ·exact hs2 x hx
      ·simp at hx;subst hx;exact List.mem_of_getElem? ht)
     rw[List.length_append]at h2
     show bs1.length-(seen++[t]).length<bs1.length-seen.length
     rw[List.length_append]
     simp at h2⊢
     omega
    ·show(seen++[t]).Nodup
     rw[List.nodup_append]
     exact⟨hs1,by simp,fun a ha b hb=>by simp at hb;subst hb;exact fun e=>hnt (e▸ha)⟩
    ·intro x hx
     rcases List.mem_append.1 hx with hx|hx
     ·exact hs2 x hx
     ·simp at hx;subst hx;exact List.mem_of_getElem? ht
    ·refine(hacc.step hi.n1 hem (fun hh=>?_)).congr fun e' he' _=>⟨fun hh=>?_,fun hh=>?_⟩
     ·obtain⟨i',t',h1,h2,h3⟩:=hh
      have:=xj (f:=fun e:Ent=>e.1) hi.n1 h1 he0 rfl
      subst this
      rw[ht]at h2
      cases h2
      exact hnt h3
     ·rcases hh with⟨i',t',h1,h2,h3⟩|rfl
      ·exact⟨i',t',h1,h2,List.mem_append_left _ h3⟩
      ·exact⟨i,t,he0,ht,by simp⟩
     ·obtain⟨i',t',h1,h2,h3⟩:=hh
      rcases List.mem_append.1 h3 with h3|h3
      ·exact .inl ⟨i',t',h1,h2,h3⟩
      ·simp at h3
       subst h3
       right
       have hinc:=hst.inc
       have:i'=i:=by
        have hn:(bs1.map id).Nodup:=by
         rw[List.map_id]
         exact hinc.imp fun h e=>by omega
        exact xj (f:=id) hn h2 ht rfl
       subst this
       rw[he0]at h1
       cases h1;rfl
  |false=>
   refine AWp.loop (σ:=Int×Store×AV×List Int) ⟨fun s=>[(3,.av (ptr b3)),(6,.av (ptr b6)),(7,.av (znv b3 b4 b5 b6)),(8,.bx 8 0),(9,.bx 9 0),(12,.av (int s.1))],fun _=>[(8,[int ax,int ay]),(9,[int bx,int by'])],
    fun s st'=>st'=F.un s.2.1/\Disj F s.2.1/\NearAt s.2.1 b3 b4 b5 b6 p q r s.2.2.1 s.2.2.2/\(ax<=s.1/\s.1<=bx+1)/\NearIn l q r (fun e=>(zt e.2).1<s.1) s.2.2.2,fun s=>(bx+1-s.1).toNat⟩ zc ?_ ?_
   ·refine⟨(ax,N0,_,[]),Tv,⟨rfl,hd0,hN0,⟨Int.le_refl _,by omega⟩,List.nodup_nil,fun id=>⟨(fun h=>(by cases h)),fun⟨e,he,_,hn,h⟩=>?_⟩⟩,⟨Tq,Tq,Tq,Tq,Tq,Tq,Tv⟩,⟨rfl,rfl,Tv⟩⟩
    have:=hrect e he hn
    dsimp only at h
    omega
   rintro⟨x,N,v,acc⟩ st' ⟨rfl,hd,hN,hx,hacc⟩
   dsimp only at hd hN hx hacc⊢
   refine bcd (fun x1=>?_) (fun x1=>?_)
   rotate_left
   ·refine⟨(F,N,v,acc),⟨rfl,hd,⟨ma,mi,_,_,_,_,_,ha,hi⟩,hN,?_⟩,⟨Tq,Tv⟩,Tv⟩
    refine hacc.congr fun e he hn=>⟨fun _=>trivial,fun _=>?_⟩
    have:=hrect e he hn
    omega
   refine AWp.loop (σ:=Int×Store×AV×List Int) ⟨fun s=>[(3,.av (ptr b3)),(6,.av (ptr b6)),(7,.av (znv b3 b4 b5 b6)),(8,.bx 8 0),(9,.bx 9 0),(12,.av (int x)),(13,.av (int s.1))],fun _=>[(8,[int ax,int ay]),(9,[int bx,int by'])],
    fun s st'=>st'=F.un s.2.1/\Disj F s.2.1/\NearAt s.2.1 b3 b4 b5 b6 p q r s.2.2.1 s.2.2.2/\(ay<=s.1/\s.1<=by'+1)/\NearIn l q r (fun e=>(zt e.2).1<x\/((zt e.2).1=x/\(zt e.2).2<s.1)) s.2.2.2,fun s=>(by'+1-s.1).toNat⟩ zc ?_ ?_
   ·refine⟨(ay,N,v,acc),Tv,⟨rfl,hd,hN,⟨Int.le_refl _,by omega⟩,hacc.congr fun e he hn=>⟨.inl,fun h=>h.elim id fun h=>?_⟩⟩,⟨Tq,Tq,Tq,Tq,Tq,Tq,Tq,Tv⟩,⟨rfl,rfl,Tv⟩⟩
    have:=hrect e he hn
    dsimp only at h
    omega
   clear hN hacc hd
   rintro⟨y,N,v,acc⟩ st' ⟨rfl,hd,hN,hy,hacc⟩
   dsimp only at hd hN hy hacc⊢
   refine bcd (fun y1=>?_) (fun y1=>?_)
   rotate_left
   ·refine⟨⟨by omega,by omega⟩,?_⟩
    refine⟨(x+1,N,v,acc),?_,⟨rfl,hd,hN,by dsimp only;omega,hacc.congr fun e he hn=>?_⟩,⟨Tq,Tq,Tq,Tq,Tq,Tq,Tv⟩,⟨rfl,rfl,Tv⟩⟩
    ·show(bx+1-(x+1)).toNat<(bx+1-x).toNat
     omega
    ·have:=hrect e he hn
     dsimp only
     omega
   refine za (o:=(F.un N).obj b3) _ (un_r hN.h3) ?_
   refine za (o:=(F.un N).obj p) _ (un_l hd ha.hp) ?_
   refine ya rfl (it:=ti210) (ie:=ti29) (ik:=ti48) rfl rfl rfl rfl (un_l hd ha.hi) rfl (qG x y) (fun e he=>?_) ?_
   ·obtain⟨e,_,rfl⟩:=List.mem_map.1 he
    rfl
   rw[ybt G (x,y),show zb0 ti29=.s (.slice none 0 0)from rfl]
   cases hf:G.find? (zjk (x,y))with
   |none=>
    refine AWp.loop (σ:=Unit) ⟨fun _=>[(3,.av (ptr b3)),(6,.av (ptr b6)),(7,.av (znv b3 b4 b5 b6)),(8,.bx 8 0),(9,.bx 9 0),(12,.av (int x)),(13,.av (int y)),(114,.av (int 0)),(115,.av (int 0))],fun _=>[(8,[int ax,int ay]),(9,[int bx,int by'])],
     fun _ st'=>st'=F.un N,fun _=>0⟩ zc ?_ ?_
    ·exact⟨(),Tv,rfl,⟨Tq,Tq,Tq,Tq,Tq,Tq,Tq,Tq,Tq,Tv⟩,⟨rfl,rfl,Tv⟩⟩
    rintro _ st' rfl
    ·refine⟨⟨by omega,by omega⟩,?_⟩
     refine⟨(y+1,N,v,acc),?_,⟨rfl,hd,hN,by dsimp only;omega,hacc.congr fun e he hn=>?_⟩,⟨Tq,Tq,Tq,Tq,Tq,Tq,Tq,Tv⟩,⟨rfl,rfl,Tv⟩⟩
     ·show(by'+1-(y+1)).toNat<(by'+1-y).toNat
      omega
     ·have hne:zt e.2≠(x,y):=fun hk=>by
       obtain⟨g,hg,hgk⟩:=hi.m2 e he
       exact List.find?_eq_none.1 hf g hg (atKey_iff.2 (by rw[hgk,hk]))
      have:¬((zt e.2).1=x/\(zt e.2).2=y):=fun⟨h1,h2⟩=>hne (Prod.ext h1 h2)
      dsimp only
      omega
   |some g=>
    obtain⟨hg,hgk⟩:=ze3 hf
    have hgk:=atKey_iff.1 hgk
    obtain⟨k1,k2,k3⟩:=ha.hg g hg
    have gs:=(hi.s g hg).1
    have gl:=zsd hi g hg
    refine AWp.loop (σ:=Nat×Store×AV×List Int) ⟨fun s=>[(3,.av (ptr b3)),(6,.av (ptr b6)),(7,.av (znv b3 b4 b5 b6)),(8,.bx 8 0),(9,.bx 9 0),(12,.av (int x)),(13,.av (int y)),(113,.av (.s (.slice (some ⟨g.b,0,none⟩) g.ns.length g.cap))),(114,.av (int g.ns.length)),(115,.av (int (s.1:Nat)))],
     fun _=>[(8,[int ax,int ay]),(9,[int bx,int by'])],
     fun s st'=>st'=F.un s.2.1/\Disj F s.2.1/\NearAt s.2.1 b3 b4 b5 b6 p q r s.2.2.1 s.2.2.2/\s.1<=g.ns.length/\NearIn l q r (fun e=>((zt e.2).1<x\/((zt e.2).1=x/\(zt e.2).2<y))\/(zt e.2=(x,y)/\e.1∈g.ns.take s.1)) s.2.2.2,fun s=>g.ns.length-s.1⟩ zc ?_ ?_
    ·exact⟨(0,N,v,acc),Tv,⟨rfl,hd,hN,Nat.zero_le _,hacc.congr fun e he hn=>⟨.inl,fun h=>h.elim id fun h=>(by cases h.2)⟩⟩,⟨Tq,Tq,Tq,Tq,Tq,Tq,Tq,Tq,Tq,Tq,Tv⟩,⟨rfl,rfl,Tv⟩⟩
    clear hN hacc hd
    rintro⟨idx,N,v,acc⟩ st' ⟨rfl,hd,hN,hidx,hacc⟩
    dsimp only at hd hN hidx hacc⊢
    refine bcd (fun z1=>?_) (fun z1=>?_)
    rotate_left
    ·have hie:idx=g.ns.length:=by omega
     subst hie
     refine⟨⟨by omega,by omega⟩,?_⟩
     refine⟨(y+1,N,v,acc),?_,⟨rfl,hd,hN,by dsimp only;omega,hacc.congr fun e he hn=>?_⟩,⟨Tq,Tq,Tq,Tq,Tq,Tq,Tq,Tv⟩,⟨rfl,rfl,Tv⟩⟩
     ·show(by'+1-(y+1)).toNat<(by'+1-y).toNat
      omega
     ·rw[List.take_length]
      have h1:zt e.2=(x,y)↔((zt e.2).1=x/\(zt e.2).2=y):=⟨fun h=>by rw[h];exact⟨rfl,rfl⟩,fun⟨h1,h2⟩=>Prod.ext h1 h2⟩
      have h2:zt e.2=(x,y)->e.1∈g.ns:=fun h=>(hi.m1 g hg e.1).2 ⟨e,he,rfl,by rw[h,hgk]⟩
      dsimp only
      constructor
      ·rintro(h|⟨h,_⟩)
       ·omega
       ·have:=h1.1 h;omega
      ·intro h
       by_cases h3:zt e.2=(x,y)
       ·exact .inr ⟨h3,h2 h3⟩
       ·have h4:¬((zt e.2).1=x/\(zt e.2).2=y):=fun hh=>h3 (h1.2 hh)
        left
        omega
    have hlt:idx<g.ns.length:=by omega
    have hidm:g.ns[idx]∈g.ns:=List.getElem_mem hlt
    obtain⟨e,hem,heid,hek⟩:=(hi.m1 g hg g.ns[idx]).1 hidm
    refine⟨idx,rfl,hlt,?_⟩
    refine za (o:=(F.un N).obj g.b) _ (un_l hd k1) ?_
    refine za (o:=List.head? _) (int e.1) (by
     rw[List.head?_drop,show 0+idx*ti2.size=idx from by show 0+idx*1=idx;omega,List.getElem?_append_left (by simpa using hlt),List.getElem?_map,List.getElem?_eq_getElem hlt,heid];rfl) ?_
    refine znu hd ⟨ma,mi,_,_,_,_,_,ha,hi⟩ hN hq hr1 (zpo hi.n1 hem) (hok _ hem) (by have:=hacc.len;omega) _ (fun N' v' hdd hN'=>?_)
    refine⟨⟨by omega,by omega⟩,?_⟩
    refine⟨(idx+1,N',v',_),?_,⟨rfl,hdd,hN',hlt,?_⟩,⟨Tq,Tq,Tq,Tq,Tq,Tq,Tq,Tq,Tq,Tq,Tv⟩,⟨rfl,rfl,Tv⟩⟩
    ·show g.ns.length-(idx+1)<g.ns.length-idx
     omega
    ·have hkey:zt e.2=(x,y):=by rw[hek,hgk]
     have hnot:e.1∉g.ns.take idx:=by
      rw[heid]
      intro hh
      obtain⟨j,hj⟩:=List.mem_iff_getElem?.1 hh
      have hjlt:j<idx:=by
       have:=(List.getElem?_eq_some_iff.1 hj).1
       simp at this;omega
      rw[List.getElem?_take_of_lt hjlt]at hj
      have h5:=List.pairwise_iff_getElem.1 gs j idx (by omega) hlt hjlt
      rw[List.getElem?_eq_getElem (by omega)]at hj
      have hj':=Option.some.inj hj
      rw[hj']at h5
      exact absurd h5 (Int.lt_irrefl _)
     refine(hacc.step hi.n1 hem (fun hh=>?_)).congr fun e' he' _=>?_
     ·rcases hh with hh|⟨_,hh⟩
      ·rw[hkey]at hh;dsimp only at hh;omega
      ·exact hnot hh
     ·dsimp only
      rw[List.take_succ_eq_append_getElem hlt,List.mem_append]
      constructor
      ·rintro((h|⟨h,h'⟩)|rfl)
       ·exact .inl h
       ·exact .inr ⟨h,.inl h'⟩
       ·exact .inr ⟨hkey,.inr (by simp[heid])⟩
      ·rintro(h|⟨h,h'|h'⟩)
       ·exact .inl (.inl h)
       ·exact .inl (.inr ⟨h,h'⟩)
       ·right
        have:e'.1=e.1:=by rw[heid];simpa using h'
        exact ya6 hi.n1 hem he' this
 ·rintro⟨F',N,v,acc⟩ st' ⟨rfl,hd,hc',hN,hacc⟩
  dsimp only at hd hc' hN hacc⊢
  refine AWp.of_vc zc ?_
  refine za (o:=(F'.un N).obj b6) _ (un_r hN.h6) ?_
  have hms:=zou hacc.1
  have hnear:zqj l q r (acc.mergeSort fun x y=>decide (x<=y)):=⟨hms.1,fun id=>by
   rw[hms.2,hacc.2 id]
   constructor
   ·rintro⟨e,h1,h2,h3,_⟩;exact⟨e,h1,h2,h3⟩
   ·rintro⟨e,h1,h2,h3⟩;exact⟨e,h1,h2,h3,Tv⟩⟩
  have hal:=hacc.len
  have hml:(acc.mergeSort fun x y=>decide (x<=y)).length=acc.length:=List.length_mergeSort acc
  rcases zaf hN.hv with⟨rfl,rfl⟩|⟨b,cap,L,rfl,ho,h1,h2,h3⟩
  ·refine ykb _ ?_
   refine za (o:=(F'.un N).obj b6) _ (un_r hN.h6) ?_
   refine wq (i:=ti29) (v:=.s (.slice none 0 0)) (b:=b6) (o:=0) (l:=[.s (.slice none 0 0)]) rfl rfl rfl (un_r hN.h6) (Nat.le_refl _) ?_
   refine za (o:=Store.obj (Store.setObj _ b6 _) b6) _ (zb _ _ _) ?_
   refine ret ?_
   rw[zi]
   exact h F' _ _ _ hc' (wu hd hN.h6) (.inl ⟨rfl,by simp⟩) hnear
  ·refine zyp (un_r ho) (by omega) _ ?_
   have hb6:b6≠b:=Ne.symm (hN.nv b _ _ rfl).2.2.2
   have h6:((F'.un N).setObj b (.cells ((acc.mergeSort fun x y=>decide (x<=y)).map aI++L))).obj b6=some (.cells [.s (.slice (some ⟨b,0,none⟩) acc.length cap)]):=by rw[zd hb6];exact un_r hN.h6
   refine za (o:=Store.obj (Store.setObj _ b _) b6) _ h6 ?_
   refine wq (i:=ti29) (v:=.s (.slice (some ⟨b,0,none⟩) acc.length cap)) (b:=b6) (o:=0) (l:=[.s (.slice (some ⟨b,0,none⟩) acc.length cap)]) rfl rfl rfl h6 (Nat.le_refl _) ?_
   refine za (o:=Store.obj (Store.setObj _ b6 _) b6) _ (zb _ _ _) ?_
   refine ret ?_
   rw[zi,zi]
   refine h F' _ _ _ hc' (wu (wu hd ho) (by rw[zd hb6];exact hN.h6)) (.inr ⟨b,cap,L,?_,?_,?_,?_,h3⟩) hnear
   ·rw[hml];rfl
   ·rw[zd (Ne.symm hb6)];exact zb _ _ _
   ·omega
   ·omega
theorem zmh(l:List Int)(hl:l.length<=1000000000000)(fn:FuncId)(cap:List AV)(q:Int->Bool)(st:Store)(hf:∀x∈l,∀R:AV->Store->Prop,R (bool (q x)) st->ACalls Tryz.prog fn ([int x]++cap) st R)
  (R:AV->Store->Prop) (h:R (int (idxI (l.findIdx? q))) st):ACalls Tryz.prog 230 [lst 1 intC l,.clos fn cap] st R:=by
 refine Qa (c:=cfg 19) zc Tryz.func230 ?_
 refine AWp.loop (σ:=Nat) ⟨fun i=>[(0,.av (lst 1 intC l)),(1,.av (.clos fn cap)),(7,.av (int (l.length:Nat))),(8,.av (int (i:Nat)))],fun _=>[],
  fun i st'=>i<=l.length/\st'=st/\∀j,(hj:j<l.length)->j<i->q l[j]=false,fun i=>l.length-i⟩ zc ?_ ?_
 ·refine⟨0,Tv,⟨Nat.zero_le _,rfl,fun j _ hj=>by omega⟩,⟨Tq,Tq,?_,Tq,Tv⟩,Tv⟩
  rw[<-zk (f:=intC) l]
  exact Tq
 rintro i st' ⟨hi,rfl,hall⟩
 refine bcd (fun h1=>?_) (fun h1=>?_)
 rotate_left
 ·have e:l.findIdx? q=none:=by
   rw[List.findIdx?_eq_none_iff]
   intro x hx
   obtain⟨j,hj,rfl⟩:=List.getElem_of_mem hx
   exact hall j hj (by omega)
  rw[e]at h
  exact ret h
 have hlt:i<l.length:=by omega
 refine⟨i,rfl,za _ (zj hlt) ?_⟩
 refine hf l[i] (List.getElem_mem hlt) _ ?_
 refine ze (fun h2=>?_) (fun h2=>?_)
 ·have e:l.findIdx? q=some i:=by
   rw[List.findIdx?_eq_some_iff_getElem]
   exact⟨hlt,h2,fun j hj=>by rw[hall j (by omega) hj];decide⟩
  rw[e]at h
  exact ret h
 ·refine Qd ?_
  refine⟨i+1,?_,⟨by omega,rfl,fun j hj hj2=>?_⟩,⟨Tq,Tq,Tq,Tq,Tv⟩,Tv⟩
  ·show l.length-(i+1)<l.length-i
   omega
  ·by_cases e:j=i
   ·subst e;exact h2
   ·exact hall j hj (by omega)
theorem zg2(l:List Int)(hl:l.length<=1000000000000)(fn:FuncId)(cap:List AV)(q:Int->Bool)(st:Store)(hf:∀x∈l,∀R:AV->Store->Prop,R (bool (q x)) st->ACalls Tryz.prog fn ([int x]++cap) st R)
  (R:AV->Store->Prop) (h:R (bool (l.any q)) st):ACalls Tryz.prog 223 [lst 1 intC l,.clos fn cap] st R:=by
 refine Qa (c:=cfg 9) zc Tryz.func223 ?_
 refine zmh l hl fn cap q st hf _ ?_
 have e:decide ((0:Int)<=idxI (l.findIdx? q))=l.any q:=by
  cases hx:l.findIdx? q with
  |none=>
   rw[List.findIdx?_eq_none_iff]at hx
   rw[show decide ((0:Int)<=idxI none)=false from by decide]
   symm
   rw[List.any_eq_false]
   intro x hm
   rw[hx x hm];decide
  |some i=>
   rw[List.findIdx?_eq_some_iff_getElem]at hx
   obtain⟨hi,h1,_⟩:=hx
   rw[show decide ((0:Int)<=idxI (some i))=true from by simp[idxI]]
   symm
   rw[List.any_eq_true]
   exact⟨l[i],List.getElem_mem hi,h1⟩
 rw[<-e]at h
 exact ret h
theorem zm2(l:List Bld)(hl:l.length<=1000000000000)(fn:FuncId)(cap:List AV)(q:Bld->Bool)(st:Store)(hf:∀x∈l,∀R:AV->Store->Prop,R (bool (q x)) st->ACalls Tryz.prog fn ([.agg (bldC x)]++cap) st R)
  (R:AV->Store->Prop) (h:R (int (idxI (l.findIdx? q))) st):ACalls Tryz.prog 200 [lst 6 bldC l,.clos fn cap] st R:=by
 refine Qa (c:=cfg 19) zc Tryz.func200 ?_
 refine AWp.loop (σ:=Nat) ⟨fun i=>[(0,.av (lst 6 bldC l)),(1,.av (.clos fn cap)),(7,.av (int (l.length:Nat))),(8,.av (int (i:Nat)))],fun _=>[],
  fun i st'=>i<=l.length/\st'=st/\∀j,(hj:j<l.length)->j<i->q l[j]=false,fun i=>l.length-i⟩ zc ?_ ?_
 ·refine⟨0,Tv,⟨Nat.zero_le _,rfl,fun j _ hj=>by omega⟩,⟨Tq,Tq,?_,Tq,Tv⟩,Tv⟩
  rw[<-zk (f:=bldC) l]
  exact Tq
 rintro i st' ⟨hi,rfl,hall⟩
 refine bcd (fun h1=>?_) (fun h1=>?_)
 rotate_left
 ·have e:l.findIdx? q=none:=by
   rw[List.findIdx?_eq_none_iff]
   intro x hx
   obtain⟨j,hj,rfl⟩:=List.getElem_of_mem hx
   exact hall j hj (by omega)
  rw[e]at h
  exact ret h
 have hlt:i<l.length:=by omega
 refine⟨i,rfl,za _ (zj hlt) ?_⟩
 refine hf l[i] (List.getElem_mem hlt) _ ?_
 refine ze (fun h2=>?_) (fun h2=>?_)
 ·have e:l.findIdx? q=some i:=by
   rw[List.findIdx?_eq_some_iff_getElem]
   exact⟨hlt,h2,fun j hj=>by rw[hall j (by omega) hj];decide⟩
  rw[e]at h
  exact ret h
 ·refine Qd ?_
  refine⟨i+1,?_,⟨by omega,rfl,fun j hj hj2=>?_⟩,⟨Tq,Tq,Tq,Tq,Tv⟩,Tv⟩
  ·show l.length-(i+1)<l.length-i
   omega
  ·by_cases e:j=i
   ·subst e;exact h2
   ·exact hall j hj (by omega)
theorem zg6(l:List Bld)(hl:l.length<=1000000000000)(fn:FuncId)(cap:List AV)(q:Bld->Bool)(st:Store)(hf:∀x∈l,∀R:AV->Store->Prop,R (bool (q x)) st->ACalls Tryz.prog fn ([.agg (bldC x)]++cap) st R)
  (R:AV->Store->Prop) (h:R (bool (l.any q)) st):ACalls Tryz.prog 167 [lst 6 bldC l,.clos fn cap] st R:=by
 refine Qa (c:=cfg 9) zc Tryz.func167 ?_
 refine zm2 l hl fn cap q st hf _ ?_
 have e:decide ((0:Int)<=idxI (l.findIdx? q))=l.any q:=by
  cases hx:l.findIdx? q with
  |none=>
   rw[List.findIdx?_eq_none_iff]at hx
   rw[show decide ((0:Int)<=idxI none)=false from by decide]
   symm
   rw[List.any_eq_false]
   intro x hm
   rw[hx x hm];decide
  |some i=>
   rw[List.findIdx?_eq_some_iff_getElem]at hx
   obtain⟨hi,h1,_⟩:=hx
   rw[show decide ((0:Int)<=idxI (some i))=true from by simp[idxI]]
   symm
   rw[List.any_eq_true]
   exact⟨l[i],List.getElem_mem hi,h1⟩
 rw[<-e]at h
 exact ret h
theorem zr3(g:Gnd)(p:Nat)(t:Nat)(ht:t<g.T.length)(st:Store)(hp:st.obj p=some (.cells (gndC g)))(R:AV->Store->Prop)(h:R (bool (decide ((g.T.getD t 0).toNat>1))) st):
  ACalls Tryz.prog 224 ([int (t:Nat)]++[ptr p]) st R:=by
 have hget:g.T.getD t 0=g.T[t]:=by simp[ht]
 rw[hget]at h
 refine Qa (c:=cfg 10) zc Tryz.func224 ?_
 refine za _ hp ?_
 refine⟨t,rfl,za _ (zj ht) ?_⟩
 refine ret ?_
 have e:decide ((1:Int)<(g.T[t].toNat:Int))=decide (g.T[t].toNat>1):=by
  rw[Bool.eq_iff_iff,decide_eq_true_iff,decide_eq_true_iff];omega
 rw[<-e]at h
 exact h
theorem zxi(g:Gnd)(hg:gndP g)(b:Bld)(hb:bldP b/\onP g b)(st:Store)(R:AV->Store->Prop)(h:∀z:Bool,(z=true↔zjz g b)->R (bool z) st):
  ACalls Tryz.prog 198 [.agg (gndC g),.agg (bldC b)] st R:=by
 have hm:=zr hg
 refine Qa (c:=cfg 11 [2] []) zc Tryz.func198 ?_
 intro p hp
 have ho:(st.setObj p (.cells (gndC g))).obj p=some (.cells (gndC g)):=zb _ _ _
 refine za _ ho ?_
 refine zfi g hg b hb _ _ ?_
 have hl:(v8 g.W b).length<=1000000000000:=by
  unfold v8
  rw[zdw]
  have hb':=hb.1
  unfold bldP at hb'
  have:b.h.toNat*b.w.toNat<=4*4:=Nat.mul_le_mul (by omega) (by omega)
  omega
 refine zg2 (v8 g.W b) hl _ _ (fun x=>decide ((g.T.getD x.toNat 0).toNat>1)) _ (fun x hx R h=>?_) _ ?_
 ·obtain⟨n,rfl,hn,hh⟩:=(j2 hg hb.1 hb.2 x).1 hx
  exact zr3 g p n (by omega) _ ho R (by rw[Int.toNat_natCast]at h;exact h)
 refine kx (Tt) (qi hp.1) (h _ ?_)
 unfold zjz
 rw[Bool.not_eq_true',List.any_eq_false]
 constructor
 ·intro hh t ht hb2
  have:=hh (t:Int) ((j2 hg hb.1 hb.2 _).2 ⟨t,rfl,by omega,hb2⟩)
  rw[decide_eq_true_iff,Int.toNat_natCast]at this
  omega
 ·intro hh x hx
  obtain⟨n,rfl,hn,hb2⟩:=(j2 hg hb.1 hb.2 x).1 hx
  rw[decide_eq_true_iff,Int.toNat_natCast]
  have:=hh n (by omega) hb2
  omega
def blV(b n:Nat):AV:=.s (.slice (some ⟨b,0,none⟩) n n)
theorem zxd(g:Gnd)(hg:gndP g)(l:List Bld)(hl:l.length<=1000000000000)(hb:∀b∈l,bldP b/\onP g b)(st:Store)(R:AV->Store->Prop)
  (h:∀b,Fresh st b->R (blV b g.T.length) (st.setObj b (.cells (bl g.T.length (covB g l))))):ACalls Tryz.prog 221 [.agg (gndC g),lst 6 bldC l] st R:=by
 have ha:=zr hg
 have hT:((rws u8C g.T).length:Int)=(g.T.length:Int):=by rw[zk]
 refine Qa (c:=cfg 34) zc Tryz.func221 ?_
 refine qr rfl (it:=ti60) (ie:=ti4) rfl rfl rfl rfl rfl (n:=(rws u8C g.T).length) ?_ ?_ (fun b hf=>?_)
 ·rw[zk];show 1*_<=_;omega
 ·rw[zk];omega
 rw[zk,zcx]
 refine AWp.loop (σ:=Nat) ⟨fun i=>[(2,.bx 2 0),(5,.av (blV b g.T.length)),(14,.av (lst 6 bldC l)),(15,.av (int (l.length:Nat))),(16,.av (int (i:Nat)))],fun _=>[(2,gndC g)],
  fun i st'=>i<=l.length/\st'=st.setObj b (.cells (bl g.T.length (covB g (l.take i)))),fun i=>l.length-i⟩ zc ?_ ?_
 ·refine⟨0,Tv,⟨Nat.zero_le _,rfl⟩,⟨Tq,Tq,Tq,?_,Tq,Tv⟩,⟨rfl,Tv⟩⟩
  rw[<-zk (f:=bldC) l]
  exact Tq
 rintro i st' ⟨hi,rfl⟩
 refine bcd (fun h1=>?_) (fun h1=>?_)
 rotate_left
 ·have:i=l.length:=by omega
  subst this
  rw[List.take_length]
  exact ret (h b hf)
 have hlt:i<l.length:=by omega
 have hbi:=hb l[i] (List.getElem_mem hlt)
 refine⟨i,rfl,za _ (zj hlt) ?_⟩
 refine zfi g hg l[i] hbi _ _ ?_
 have hcov:=fun(t:Nat) (ht:t<g.T.length)=>zp0 hg hlt hbi ht
 have hmem:=j2 hg hbi.1 hbi.2
 have h0:=zpy g l i (v8 g.W l[i])
 have hts:=zkc g.W hbi.1
 generalize v8 g.W l[i]=ts at*
 refine AWp.loop (σ:=Nat) ⟨fun k=>[(2,.bx 2 0),(5,.av (blV b g.T.length)),(14,.av (lst 6 bldC l)),(15,.av (int (l.length:Nat))),(16,.av (int (i:Nat))),(22,.av (ints ts)),(23,.av (int (ts.length:Nat))),(24,.av (int (k:Nat)))],fun _=>[(2,gndC g)],
  fun k st'=>k<=ts.length/\st'=st.setObj b (.cells (bl g.T.length (covF g l i ts k))),fun k=>ts.length-k⟩ zc ?_ ?_
 ·refine⟨0,Tv,⟨Nat.zero_le _,?_⟩,⟨Tq,Tq,Tq,Tq,Tq,Tq,?_,Tq,Tv⟩,⟨rfl,Tv⟩⟩
  ·rw[show covF g l i ts 0=covB g (l.take i)from funext h0]
  ·rw[<-zk (f:=intC) ts]
   exact Tq
 rintro k st' ⟨hk,rfl⟩
 refine bcd (fun h2=>?_) (fun h2=>?_)
 rotate_left
 ·have:k=ts.length:=by omega
  subst this
  refine Qd ?_
  refine⟨i+1,?_,⟨by omega,?_⟩,⟨Tq,Tq,Tq,Tq,Tq,Tv⟩,⟨rfl,Tv⟩⟩
  ·show l.length-(i+1)<l.length-i
   omega
  ·have:bl g.T.length (covF g l i ts ts.length)=bl g.T.length (covB g (l.take (i+1))):=by
    unfold bl
    exact List.map_congr_left fun t ht=>by rw[hcov t (List.mem_range.1 ht)]
   rw[this]
 have hklt:k<ts.length:=by omega
 obtain⟨n,hn,hn2,hn3⟩:=(hmem ts[k]).1 (List.getElem_mem hklt)
 have hnl:n<g.T.length:=by omega
 obtain⟨s1,s2⟩:=zpz (g:=g) (l:=l) (i:=i) hklt hn
 refine⟨k,rfl,za _ (zj hklt) ?_⟩
 refine⟨n,hn,hnl,?_⟩
 refine zh (i:=ti4) (v:=bool true) (b:=b) (o:=0+n*1) (l:=bl g.T.length (covF g l i ts k)) (st2:=st.setObj b (.cells (bl g.T.length (covF g l i ts (k+1))))) rfl rfl rfl (zb _ _ _) (by rw[jg];omega) ?_ ?_
 ·rw[zg,show 0+n*1=n by omega,<-s1,zcy hnl _ s2]
 refine Qd ?_
 refine⟨k+1,?_,⟨by omega,rfl⟩,⟨Tq,Tq,Tq,Tq,Tq,Tq,Tq,Tq,Tv⟩,⟨rfl,Tv⟩⟩
 show ts.length-(k+1)<ts.length-k
 omega
theorem zaa(n:Nat)(f:Nat->Bool):(rws zak (blL n f)).flatten++[]=bl n f:=by rw[List.append_nil,ys0]
def opV(g:Gnd)(l:List Bld)(c:Int):AV:=lst 1 zak (blL g.T.length (yl g l c))
def midB(g:Gnd)(l:List Bld)(c:Int)(i t:Nat):Bool:=if t<i then yl g l c t else covB g l t
theorem jx(g:Gnd)(hg:gndP g)(l:List Bld)(hl:l.length<=1000000000000)(hb:∀b∈l,bldP b/\onP g b)(c:Int)(st:Store)(R:AV->Store->Prop)(h:R (opV g l c) st):
  ACalls Tryz.prog 190 [.agg (gndC g),lst 6 bldC l,int c] st R:=by
 have ha:=zr hg
 refine Qb (c:=cfg 37) zc Tryz.func190 ?_
 refine AWp.seq (AWp.of_vc zc ?_)
 refine AWp.seq (AWp.of_vc zc ?_)
 refine zxd g hg l hl hb _ _ (fun b hf=>?_)
 have step:∀i,i<g.T.length->midB g l c (i+1) i=yl g l c i/\∀s,s≠i->midB g l c (i+1) s=midB g l c i s:=fun i hi=>by
  unfold midB
  refine⟨if_pos (by omega),fun s hs=>?_⟩
  by_cases h1:s<i
  ·rw[if_pos (by omega),if_pos h1]
  ·rw[if_neg (by omega),if_neg h1]
 refine AWp.meetA (σ:=Unit) ⟨fun _=>[(7,.av (blV b g.T.length))],fun _=>[],fun _ st'=>st'=st.setObj b (.cells (bl g.T.length (yl g l c)))⟩ ?_ ?_
 ·refine AWp.of_vc zc ?_
  refine AWp.loop (σ:=Nat) ⟨fun i=>[(2,.av (int c)),(3,.bx 3 0),(7,.av (blV b g.T.length)),(13,.av (blV b g.T.length)),(14,.av (int (g.T.length:Nat))),(15,.av (int (i:Nat)))],fun _=>[(3,gndC g)],
   fun i st'=>i<=g.T.length/\st'=st.setObj b (.cells (bl g.T.length (midB g l c i))),fun i=>g.T.length-i⟩ zc ?_ ?_
  ·refine⟨0,Tv,⟨Nat.zero_le _,?_⟩,⟨Tq,Tq,Tq,Tq,Tq,Tq,Tv⟩,⟨rfl,Tv⟩⟩
   rw[show midB g l c 0=covB g l from funext fun t=>if_neg (Nat.not_lt_zero t)]
  rintro i st' ⟨hi,rfl⟩
  refine bcd (fun h1=>?_) (fun h1=>?_)
  rotate_left
  ·have:i=g.T.length:=by omega
   subst this
   refine⟨(),?_,⟨Tq,Tv⟩,Tv⟩
   have:bl g.T.length (midB g l c g.T.length)=bl g.T.length (yl g l c):=by
    unfold bl midB
    exact List.map_congr_left fun t ht=>by rw[if_pos (List.mem_range.1 ht)]
   rw[this]
  have hlt:i<g.T.length:=by omega
  obtain⟨s1,s2⟩:=step i hlt
  have ho:(st.setObj b (.cells (bl g.T.length (midB g l c i)))).obj b=some (.cells (bl g.T.length (midB g l c i))):=zb _ _ _
  have hmid:midB g l c i i=covB g l i:=if_neg (Nat.lt_irrefl i)
  have hhead:((bl g.T.length (midB g l c i)).drop (0+i*1)).head?=some (bool (covB g l i)):=by
   rw[List.head?_drop,show 0+i*1=i by omega,zfc hlt,hmid]
  refine⟨i,rfl,hlt,?_⟩
  refine za _ ho (za _ hhead ?_)
  have hti:g.T[i].toNat<=5:=hg.2.2.2 _ (List.getElem_mem hlt)
  have hget:g.T.getD i 0=g.T[i]:=by simp[hlt]
  refine ze (fun c1=>?_) (fun c1=>?_)
  ·have c1:covB g l i=false:=by simpa using c1
   refine⟨i,rfl,za _ (zj hlt) ?_⟩
   refine zfq c g.T[i] hti _ _ ?_
   have hz:decide (0<zb8 c g.T[i].toNat)=yl g l c i:=by
    unfold yl
    rw[c1,hget];rfl
   refine⟨i,rfl,hlt,?_⟩
   refine zh (i:=ti4) (v:=bool (decide (0<zb8 c g.T[i].toNat))) (b:=b) (o:=0+i*1) (l:=_) (st2:=st.setObj b (.cells (bl g.T.length (midB g l c (i+1))))) rfl rfl rfl ho (by rw[jg];omega) (by rw[zg,show 0+i*1=i by omega,hz,<-s1,zcy hlt _ s2]) ?_
   refine Qd ?_
   refine⟨i+1,?_,⟨by omega,rfl⟩,⟨Tq,Tq,Tq,Tq,Tq,Tq,Tv⟩,⟨rfl,Tv⟩⟩
   show g.T.length-(i+1)<g.T.length-i
   omega
  ·have c1:covB g l i=true:=by simpa using c1
   have hz:false=yl g l c i:=by
    unfold yl
    rw[c1];rfl
   refine⟨i,rfl,hlt,?_⟩
   refine zh (i:=ti4) (v:=bool false) (b:=b) (o:=0+i*1) (l:=_) (st2:=st.setObj b (.cells (bl g.T.length (midB g l c (i+1))))) rfl rfl rfl ho (by rw[jg];omega) (by rw[zg,show 0+i*1=i by omega,hz,<-s1,zcy hlt _ s2]) ?_
   refine Qd ?_
   refine⟨i+1,?_,⟨by omega,rfl⟩,⟨Tq,Tq,Tq,Tq,Tq,Tq,Tv⟩,⟨rfl,Tv⟩⟩
   show g.T.length-(i+1)<g.T.length-i
   omega
 ·rintro _ _ rfl
  refine AWp.freeze (d:=7) (b:=b) (k:=1) (n:=g.T.length) (cap:=g.T.length) (rows:=rws zak (blL g.T.length (yl g l c))) (pad:=[]) rfl ?_ ?_ ?_ (Nat.le_refl _) ?_ ?_ ?_
  ·rw[zaa];exact zb _ _ _
  ·exact hf.2
  ·rw[zk,yu]
  ·intro row hr
   obtain⟨x,_,rfl⟩:=List.mem_map.1 hr
   rfl
  ·intro row hr y hy
   obtain⟨x,_,rfl⟩:=List.mem_map.1 hr
   simp[zak]at hy
   exact⟨_,hy,rfl⟩
  rw[jc hf.1]
  refine AWp.of_vc zc ?_
  exact ret h
set_option maxHeartbeats 1000000 in
theorem zm1(g:Gnd)(hg:gndP g)(l:List Bld)(hl:l.length<=1000000000000)(st:Store)(R:AV->Store->Prop)
  (h:∀z:Bool,(z=true↔zqc g l)->R (bool z) st):ACalls Tryz.prog 166 [.agg (gndC g),lst 6 bldC l] st R:=by
 have ha:=zr hg
 have hT:((rws u8C g.T).length:Int)=(g.T.length:Int):=by rw[zk]
 have hL:((rws bldC l).length:Int)=(l.length:Int):=by rw[zk]
 have no:¬zqc g l->R (bool false) st:=fun hn=>h false (by simp[hn])
 refine Qa (c:=cfg 60) zc Tryz.func166 ?_
 refine bcd (fun c1=>ret (no fun q=>by have:=q.1;omega)) (fun c1=>?_)
 refine zqb l hl _ _ (fun z hz=>?_)
 refine yo ?_
 refine ze (fun c2=>?_) (fun c2=>ret (no fun q=>by have:=hz.2 q.2.1;rw[this]at c2;cases c2))
 have hr:=hz.1 c2
 refine qr rfl (it:=ti60) (ie:=ti4) rfl rfl rfl rfl rfl (n:=(rws u8C g.T).length) ?_ ?_ (fun b hf=>?_)
 ·rw[zk];show 1*_<=_;omega
 ·rw[zk];omega
 rw[zk (f:=u8C) g.T,zcx]
 have hhas:∀f:Nat->Bool,(st.setObj b (.cells (bl g.T.length f))).Has st:=fun f=>qi hf.1
 refine AWp.loop (σ:=Nat) ⟨fun i=>[(2,.bx 2 0),(5,.av (blV b g.T.length)),(22,.av (lst 6 bldC l)),(23,.av (int (l.length:Nat))),(24,.av (int (i:Nat)))],fun _=>[(2,gndC g)],
  fun i st'=>i<=l.length/\st'=st.setObj b (.cells (bl g.T.length (covB g (l.take i))))/\ynj g l i,fun i=>l.length-i⟩ zc ?_ ?_
 ·refine⟨0,Tv,⟨Nat.zero_le _,rfl,fun j _ hj=>by omega⟩,⟨Tq,Tq,Tq,?_,Tq,Tv⟩,⟨rfl,Tv⟩⟩
  rw[<-zk (f:=bldC) l]
  exact Tq
 rintro i st' ⟨hi,rfl,hup⟩
 refine bcd (fun h1=>?_) (fun h1=>?_)
 rotate_left
 ·have:i=l.length:=by omega
  subst this
  have hall:=zp9 hup
  exact kx (Tt) (hhas _) (h true (by simp;exact⟨by omega,hr,hall.1,hall.2⟩))
 have hlt:i<l.length:=by omega
 have nof:¬zqc g l->∃r st',AV.le (bool false) r/\(st.setObj b (.cells (bl g.T.length (covB g (l.take i))))).Has st'/\R r st':=fun hn=>kx (Tt) (hhas _) (no hn)
 refine⟨i,rfl,za _ (zj hlt) ?_⟩
 refine zxh l[i] _ _ (fun z1 hz1=>?_)
 refine yo ?_
 refine ze (fun c3=>?_) (fun c3=>nof fun q=>by have:=hz1.2 (q.2.2.1 _ (List.getElem_mem hlt)).1;rw[this]at c3;cases c3)
 have hb1:=hz1.1 c3
 refine ynl g l[i] hg hb1 _ _ (fun z2 hz2=>?_)
 refine yo ?_
 refine ze (fun c4=>?_) (fun c4=>nof fun q=>by have:=hz2.2 (q.2.2.1 _ (List.getElem_mem hlt)).2.1;rw[this]at c4;cases c4)
 have hb2:=hz2.1 c4
 refine zxi g hg l[i] ⟨hb1,hb2⟩ _ _ (fun z3 hz3=>?_)
 refine yo ?_
 refine ze (fun c5=>?_) (fun c5=>nof fun q=>by have:=hz3.2 (q.2.2.1 _ (List.getElem_mem hlt)).2.2;rw[this]at c5;cases c5)
 have hb3:=hz3.1 c5
 have hbi:bldP l[i]/\onP g l[i]:=⟨hb1,hb2⟩
 refine zfi g hg l[i] hbi _ _ ?_
 have hcov:=fun(t:Nat) (ht:t<g.T.length)=>zp0 hg hlt hbi ht
 have hmem:=j2 hg hbi.1 hbi.2
 have h0:=zpy g l i (v8 g.W l[i])
 have hts:=zkc g.W hbi.1
 have hcm:=yne hg hlt hbi hup
 have hso:=zlv hg hbi
 generalize v8 g.W l[i]=ts at*
 refine AWp.loop (σ:=Nat) ⟨fun k=>[(2,.bx 2 0),(5,.av (blV b g.T.length)),(22,.av (lst 6 bldC l)),(23,.av (int (l.length:Nat))),(24,.av (int (i:Nat))),(45,.av (ints ts)),(46,.av (int (ts.length:Nat))),(47,.av (int (k:Nat)))],fun _=>[(2,gndC g)],
  fun k st'=>k<=ts.length/\st'=st.setObj b (.cells (bl g.T.length (covF g l i ts k)))/\∀m,(hm:m<ts.length)->m<k->covB g (l.take i) ts[m].toNat=false,fun k=>ts.length-k⟩ zc ?_ ?_
 ·refine⟨0,Tv,⟨Nat.zero_le _,?_,fun m _ hm=>by omega⟩,⟨Tq,Tq,Tq,Tq,Tq,Tq,?_,Tq,Tv⟩,⟨rfl,Tv⟩⟩
  ·rw[show covF g l i ts 0=covB g (l.take i)from funext h0]
  ·rw[<-zk (f:=intC) ts]
   exact Tq
 rintro k st' ⟨hk,rfl,hno⟩
 refine bcd (fun h2=>?_) (fun h2=>?_)
 rotate_left
 ·have:k=ts.length:=by omega
  subst this
  refine Qd ?_
  refine⟨i+1,?_,⟨by omega,?_,fun j hj hji=>?_⟩,⟨Tq,Tq,Tq,Tq,Tq,Tv⟩,⟨rfl,Tv⟩⟩
  ·show l.length-(i+1)<l.length-i
   omega
  ·have:bl g.T.length (covF g l i ts ts.length)=bl g.T.length (covB g (l.take (i+1))):=by
    unfold bl
    exact List.map_congr_left fun t ht=>by rw[hcov t (List.mem_range.1 ht)]
   rw[this]
  ·by_cases e:j=i
   ·subst e
    refine⟨⟨hb1,hb2,hb3⟩,fun m hm hmt=>?_⟩
    obtain⟨t,ht,hc⟩:=hcm.2 ⟨m,hm,hmt⟩
    obtain⟨q,hq,rfl⟩:=List.getElem_of_mem ht
    rw[hno q hq hq]at hc
    cases hc
   ·exact hup j hj (by omega)
 have hklt:k<ts.length:=by omega
 obtain⟨n,hn,hn2,hn3⟩:=(hmem ts[k]).1 (List.getElem_mem hklt)
 have hnl:n<g.T.length:=by omega
 obtain⟨s1,s2⟩:=zpz (g:=g) (l:=l) (i:=i) hklt hn
 have hnk:covF g l i ts k n=covB g (l.take i) n:=by
  unfold covF
  have:(ts.take k).contains (n:Int)=false:=by
   rw[<-hn]
   have:=zop hso hklt
   simpa using this
  rw[this,Bool.or_false]
 refine⟨k,rfl,za _ (zj hklt) ?_⟩
 have ho:(st.setObj b (.cells (bl g.T.length (covF g l i ts k)))).obj b=some (.cells (bl g.T.length (covF g l i ts k))):=zb _ _ _
 have hhead:((bl g.T.length (covF g l i ts k)).drop (0+n*1)).head?=some (V.bool (covB g (l.take i) n)):=by
  rw[List.head?_drop,show 0+n*1=n by omega,zfc hnl,hnk]
 refine⟨n,hn,hnl,?_⟩
 refine za _ ho (za _ hhead ?_)
 refine ze (fun c6=>?_) (fun c6=>?_)
 ·refine kx (Tt) (hhas _) (no fun q=>?_)
  obtain⟨m,hm,hmt⟩:=hcm.1 ⟨ts[k],List.getElem_mem hklt,by rw[hn,Int.toNat_natCast];exact c6⟩
  exact q.2.2.2 i hlt m hm hmt
 refine⟨n,hn,hnl,?_⟩
 refine zh (i:=ti4) (v:=bool true) (b:=b) (o:=0+n*1) (l:=bl g.T.length (covF g l i ts k)) (st2:=st.setObj b (.cells (bl g.T.length (covF g l i ts (k+1))))) rfl rfl rfl (zb _ _ _) (by rw[jg];omega) ?_ ?_
 ·rw[zg,show 0+n*1=n by omega,<-s1,zcy hnl _ s2]
 refine Qd ?_
 refine⟨k+1,?_,⟨by omega,rfl,fun m hm hmk=>?_⟩,⟨Tq,Tq,Tq,Tq,Tq,Tq,Tq,Tq,Tv⟩,⟨rfl,Tv⟩⟩
 ·show ts.length-(k+1)<ts.length-k
  omega
 ·by_cases e:m=k
  ·subst e
   rw[hn,Int.toNat_natCast];exact c6
  ·exact hno m hm (by omega)
theorem zjt(g:Gnd)(hgf:g.fits)(l:List Bld)(hl:l.length<=1000000000000)(st:Store)(R:AV->Store->Prop)
  (h:∀z:Bool,(z=true↔gndP g/\zqc g l)->R (bool z) st):ACalls Tryz.prog 95 [.agg (gndC g),lst 6 bldC l] st R:=by
 have hL:((rws bldC l).length:Int)=(l.length:Int):=by rw[zk]
 have no:¬(gndP g/\zqc g l)->R (bool false) st:=fun hn=>h false (by simp only[Bool.false_eq_true,false_iff];exact hn)
 refine Qa (c:=cfg 64) zc Tryz.func95 ?_
 refine zpc g hgf _ _ (fun z hz=>?_)
 refine yo ?_
 refine ze (fun c0=>?_) (fun c0=>ret (no fun q=>by have:=hz.2 q.1;rw[this]at c0;cases c0))
 have hg:=hz.1 c0
 refine bcd (fun c1=>ret (no fun q=>by have:=q.2.1;omega)) (fun c1=>?_)
 refine zzd l hl _ _ (fun z hz=>?_)
 refine yo ?_
 refine ze (fun c2=>?_) (fun c2=>ret (no fun q=>by have:=hz.2 q.2.2.1;rw[this]at c2;cases c2))
 have hr:=hz.1 c2
 refine AWp.loop (σ:=Nat) ⟨fun i=>[(1,.av (lst 6 bldC l)),(2,.bx 2 0),(5,.av (int (i:Nat)))],fun _=>[(2,gndC g)],
  fun i st'=>i<=l.length/\st'=st/\ynj g l i,fun i=>l.length-i⟩ zc ?_ ?_
 ·exact⟨0,Tv,⟨Nat.zero_le _,rfl,fun j _ hj=>by omega⟩,⟨Tq,Tq,Tq,Tv⟩,⟨rfl,Tv⟩⟩
 rintro i st' ⟨hi,rfl,hup⟩
 refine bcd (fun h1=>?_) (fun h1=>?_)
 rotate_left
 ·have:i=l.length:=by omega
  subst this
  have hall:=zp9 hup
  exact ret (h true (by simp only[true_iff];exact⟨hg,by omega,hr,hall.1,hall.2⟩))
 have hlt:i<l.length:=by omega
 refine Qc zc yrd ?_
 refine⟨i,rfl,za _ (zj hlt) ?_⟩
 have nof:¬(bldP l[i]/\onP g l[i]/\zjz g l[i])->R (bool false) st':=fun hn=>no fun q=>hn (q.2.2.2.1 _ (List.getElem_mem hlt))
 refine⟨zu8 l[i] _ _ (fun z1 hz1=>⟨Tv,?_⟩),Tv⟩
 refine yo ?_
 refine ze (fun c3=>?_) (fun c3=>⟨⟨Tv,⟨⟨Tv,ret (nof fun q=>by have:=hz1.2 q.1;rw[this]at c3;cases c3)⟩,Tv⟩⟩,Tv⟩)
 have hb1:=hz1.1 c3
 refine⟨i,rfl,za _ (zj hlt) ?_⟩
 refine⟨ymb g l[i] hg hb1 _ _ (fun z2 hz2=>⟨Tv,?_⟩),Tv⟩
 refine yo ?_
 refine ze (fun c4=>?_) (fun c4=>⟨⟨Tv,ret (nof fun q=>by have:=hz2.2 q.2.1;rw[this]at c4;cases c4)⟩,Tv⟩)
 have hb2:=hz2.1 c4
 refine⟨i,rfl,za _ (zj hlt) ?_⟩
 refine⟨zvu g hg l[i] ⟨hb1,hb2⟩ _ _ (fun z3 hz3=>⟨Tv,?_⟩),Tv⟩
 refine yo ?_
 refine ze (fun c5=>?_) (fun c5=>ret (nof fun q=>by have:=hz3.2 q.2.2;rw[this]at c5;cases c5))
 have hb3:=hz3.1 c5
 refine AWp.loop (σ:=Nat) ⟨fun k=>[(1,.av (lst 6 bldC l)),(2,.bx 2 0),(5,.av (int (i:Nat))),(6,.av (int (k:Nat)))],fun _=>[(2,gndC g)],
  fun k st2=>k<=i/\st2=st'/\∀m,(hm:m<k)->(hmi:m<i)->¬zg1 l[i] (l[m]'(by omega)),fun k=>i-k⟩ zc ?_ ?_
 ·exact⟨0,Tv,⟨Nat.zero_le _,rfl,fun m hm=>by omega⟩,⟨Tq,Tq,Tq,Tq,Tv⟩,⟨rfl,Tv⟩⟩
 rintro k st2 ⟨hk,rfl,hno⟩
 refine bcd (fun h2=>?_) (fun h2=>?_)
 rotate_left
 ·refine Qd ?_
  refine⟨i+1,?_,⟨by omega,rfl,fun j hj hji=>?_⟩,⟨Tq,Tq,Tq,Tv⟩,⟨rfl,Tv⟩⟩
  ·show l.length-(i+1)<l.length-i
   omega
  ·by_cases e:j=i
   ·subst e
    exact⟨⟨hb1,hb2,hb3⟩,fun m hm=>hno m (by omega) hm⟩
   ·exact hup j hj (by omega)
 have hki:k<i:=by omega
 have hkl:k<l.length:=by omega
 have hbk:=(hup k hkl hki).1
 refine Qc zc ykd ?_
 refine⟨i,rfl,za _ (zj hlt) ?_⟩
 refine⟨k,rfl,za _ (zj hkl) ?_⟩
 refine⟨yam g hg l[i] l[k] ⟨hb1,hb2⟩ ⟨hbk.1,hbk.2.1⟩ _ _ (fun z4 hz4=>⟨Tv,?_⟩),Tv⟩
 refine ze (fun c6=>ret (no fun q=>q.2.2.2.2 i hlt k hki (hz4.1 c6))) (fun c6=>?_)
 refine Qd ?_
 refine⟨k+1,?_,⟨by omega,rfl,fun m hm hmi=>?_⟩,⟨Tq,Tq,Tq,Tq,Tv⟩,⟨rfl,Tv⟩⟩
 ·show i-(k+1)<i-k
  omega
 ·by_cases e:m=k
  ·subst e
   intro hm2
   have:=hz4.2 hm2
   rw[this]at c6;cases c6
  ·exact hno m (by omega) hmi
theorem zl7(g:Gnd)(hg:gndP g)(l:List Bld)(hl:l.length<=1000000000000)(hb:∀b∈l,bldP b/\onP g b)(st:Store)(R:AV->Store->Prop)
  (h:∀b,Fresh st b->R (blV b g.T.length) (st.setObj b (.cells (bl g.T.length (covB g l))))):ACalls Tryz.prog 158 [.agg (gndC g),lst 6 bldC l] st R:=by
 have ha:=zr hg
 have hg1:=hg.1
 have hg2:=hg.2.1
 refine Qa (c:=cfg 70) zc Tryz.func158 ?_
 refine Qd ?_
 rw[<-ha.2.2]
 refine qr rfl (it:=ti60) (ie:=ti4) rfl rfl rfl rfl rfl (n:=g.T.length) ?_ ?_ (fun b hf=>?_)
 ·show 1*_<=_;omega
 ·omega
 rw[zcx]
 refine AWp.loop (σ:=Nat) ⟨fun i=>[(1,.av (lst 6 bldC l)),(2,.bx 2 0),(5,.av (blV b g.T.length)),(6,.av (int (i:Nat)))],fun _=>[(2,gndC g)],
  fun i st'=>i<=l.length/\st'=st.setObj b (.cells (bl g.T.length (covB g (l.take i)))),fun i=>l.length-i⟩ zc ?_ ?_
 ·exact⟨0,Tv,⟨Nat.zero_le _,rfl⟩,⟨Tq,Tq,Tq,Tq,Tv⟩,⟨rfl,Tv⟩⟩
 rintro i st' ⟨hi,rfl⟩
 refine ze (fun h1=>?_) (fun h1=>?_)
 rotate_left
 ·have:i=l.length:=ja h1 hi
  subst this
  rw[List.take_length]
  exact ret (h b hf)
 have hlt:i<l.length:=xk h1
 have hbi:=hb l[i] (List.getElem_mem hlt)
 have hbi':=hbi
 unfold bldP onP at hbi'
 refine⟨i,rfl,za _ (zj hlt) ?_⟩
 refine AWp.loop (σ:=Nat) ⟨fun k=>[(1,.av (lst 6 bldC l)),(2,.bx 2 0),(5,.av (blV b g.T.length)),(6,.av (int (i:Nat))),(7,.av (int (l[i].y+(k:Nat))))],fun _=>[(2,gndC g)],
  fun k st'=>k<=l[i].h.toNat/\st'=st.setObj b (.cells (bl g.T.length (covR g l i l[i] k 0))),fun k=>l[i].h.toNat-k⟩ zc ?_ ?_
 ·refine⟨0,Tv,⟨Nat.zero_le _,?_⟩,⟨Tq,Tq,Tq,Tq,?_,Tv⟩,⟨rfl,Tv⟩⟩
  ·rw[yb6]
  ·rw[show l[i].y+((0:Nat):Int)=l[i].y by omega];exact Tq
 rintro k st' ⟨hk,rfl⟩
 refine Qc zc ylm ?_
 refine⟨i,rfl,za _ (zj hlt) ?_⟩
 refine⟨i,rfl,za _ (zj hlt) ?_⟩
 refine Qd ?_
 refine bcd (fun h2=>?_) (fun h2=>?_)
 rotate_left
 ·have:k=l[i].h.toNat:=by omega
  subst this
  refine Qd ?_
  refine⟨i+1,?_,⟨by omega,?_⟩,⟨Tq,Tq,Tq,Tq,Tv⟩,⟨rfl,Tv⟩⟩
  ·show l.length-(i+1)<l.length-i
   omega
  ·rw[yb8 hlt (by omega)]
 refine⟨i,rfl,za _ (zj hlt) ?_⟩
 refine AWp.loop (σ:=Nat) ⟨fun m=>[(1,.av (lst 6 bldC l)),(2,.bx 2 0),(5,.av (blV b g.T.length)),(6,.av (int (i:Nat))),(7,.av (int (l[i].y+(k:Nat)))),(8,.av (int (l[i].x+(m:Nat))))],fun _=>[(2,gndC g)],
  fun m st'=>m<=l[i].w.toNat/\st'=st.setObj b (.cells (bl g.T.length (covR g l i l[i] k m))),fun m=>l[i].w.toNat-m⟩ zc ?_ ?_
 ·refine⟨0,Tv,⟨Nat.zero_le _,rfl⟩,⟨Tq,Tq,Tq,Tq,Tq,?_,Tv⟩,⟨rfl,Tv⟩⟩
  rw[show l[i].x+((0:Nat):Int)=l[i].x by omega];exact Tq
 rintro m st' ⟨hm,rfl⟩
 refine Qc zc yll ?_
 refine⟨i,rfl,za _ (zj hlt) ?_⟩
 refine⟨i,rfl,za _ (zj hlt) ?_⟩
 refine Qd ?_
 refine bcd (fun h3=>?_) (fun h3=>?_)
 rotate_left
 ·have:m=l[i].w.toNat:=by omega
  subst this
  refine Qd ?_
  refine⟨k+1,?_,⟨by omega,?_⟩,⟨Tq,Tq,Tq,Tq,?_,Tv⟩,⟨rfl,Tv⟩⟩
  ·show l[i].h.toNat-(k+1)<l[i].h.toNat-k
   omega
  ·rw[ynf _ _ _ _ _ (by omega)]
  ·rw[show l[i].y+((k+1:Nat):Int)=l[i].y+(k:Int)+1 by omega];exact Tq
 obtain⟨q1,q2,_⟩:=k9 hg (x:=l[i].x+m) (y:=l[i].y+k) (by omega) (by omega)
 have q3:0<=g.W*(l[i].y+(k:Int)):=Int.mul_nonneg (by omega) (by omega)
 obtain⟨s1,s2⟩:=yb7 hg (l:=l) (i:=i) hbi (k:=k) (m:=m) (by omega) (by omega) (n:=(l[i].x+(m:Int)+g.W*(l[i].y+(k:Int))).toNat) (by omega)
 refine Qd ?_
 refine Qd ?_
 refine⟨(l[i].x+(m:Int)+g.W*(l[i].y+(k:Int))).toNat,by omega,by omega,?_⟩
 refine zh (i:=ti4) (v:=V.bool true) (b:=b) (o:=0+(l[i].x+(m:Int)+g.W*(l[i].y+(k:Int))).toNat*1) (l:=bl g.T.length (covR g l i l[i] k m)) (st2:=st.setObj b (.cells (bl g.T.length (covR g l i l[i] k (m+1))))) rfl rfl rfl (zb _ _ _) (by rw[jg];omega) ?_ ?_
 ·rw[zg,show∀n:Nat,0+n*1=n by omega,<-s1,zcy (by omega) _ s2]
 refine Qd ?_
 refine⟨m+1,?_,⟨by omega,rfl⟩,⟨Tq,Tq,Tq,Tq,Tq,?_,Tv⟩,⟨rfl,Tv⟩⟩
 ·show l[i].w.toNat-(m+1)<l[i].w.toNat-m
  omega
 ·rw[show l[i].x+((m+1:Nat):Int)=l[i].x+(m:Int)+1 by omega];exact Tq
theorem yak(g:Gnd)(l:List Bld)(c:Int)(i:Nat):midB g l c (i+1) i=yl g l c i/\∀s,s≠i->midB g l c (i+1) s=midB g l c i s:=by
 unfold midB
 refine⟨if_pos (by omega),fun s hs=>?_⟩
 by_cases h1:s<i
 ·rw[if_pos (by omega),if_pos h1]
 ·rw[if_neg (by omega),if_neg h1]
theorem zkm(g:Gnd)(hg:gndP g)(l:List Bld)(hl:l.length<=1000000000000)(hb:∀b∈l,bldP b/\onP g b)(c:Int)(hc:c=0\/c=1\/c=2)(st:Store)(R:AV->Store->Prop)(h:R (opV g l c) st):
  ACalls Tryz.prog 107 [.agg (gndC g),lst 6 bldC l,int c] st R:=by
 have ha:=zr hg
 refine Qb (c:=cfg 37) zc Tryz.func107 ?_
 refine AWp.seq (AWp.of_vc zc ?_)
 refine AWp.seq (AWp.of_vc zc ?_)
 refine zl7 g hg l hl hb _ _ (fun b hf=>?_)
 refine AWp.meetA (σ:=Unit) ⟨fun _=>[(7,.av (blV b g.T.length))],fun _=>[],fun _ st'=>st'=st.setObj b (.cells (bl g.T.length (yl g l c)))⟩ ?_ ?_
 ·refine AWp.of_vc zc ?_
  refine AWp.loop (σ:=Nat) ⟨fun i=>[(2,.av (int c)),(3,.bx 3 0),(7,.av (blV b g.T.length)),(8,.av (int (i:Nat)))],fun _=>[(3,gndC g)],
   fun i st'=>i<=g.T.length/\st'=st.setObj b (.cells (bl g.T.length (midB g l c i))),fun i=>g.T.length-i⟩ zc ?_ ?_
  ·refine⟨0,Tv,⟨Nat.zero_le _,?_⟩,⟨Tq,Tq,Tq,Tq,Tv⟩,⟨rfl,Tv⟩⟩
   rw[show midB g l c 0=covB g l from funext fun t=>if_neg (Nat.not_lt_zero t)]
  rintro i st' ⟨hi,rfl⟩
  refine bcd (fun h1=>?_) (fun h1=>?_)
  rotate_left
  ·have:i=g.T.length:=by omega
   subst this
   refine⟨(),?_,⟨Tq,Tv⟩,Tv⟩
   have:bl g.T.length (midB g l c g.T.length)=bl g.T.length (yl g l c):=by
    unfold bl midB
    exact List.map_congr_left fun t ht=>by rw[if_pos (List.mem_range.1 ht)]
   rw[this]
  have hlt:i<g.T.length:=by omega
  obtain⟨s1,s2⟩:=yak g l c i
  have ho:(st.setObj b (.cells (bl g.T.length (midB g l c i)))).obj b=some (.cells (bl g.T.length (midB g l c i))):=zb _ _ _
  have hmid:midB g l c i i=covB g l i:=if_neg (Nat.lt_irrefl i)
  have hhead:((bl g.T.length (midB g l c i)).drop (0+i*1)).head?=some (V.bool (covB g l i)):=by
   rw[List.head?_drop,show 0+i*1=i by omega,zfc hlt,hmid]
  refine⟨i,rfl,hlt,?_⟩
  refine za _ ho (za _ hhead ?_)
  have hti:g.T[i].toNat<=5:=hg.2.2.2 _ (List.getElem_mem hlt)
  have hget:g.T.getD i 0=g.T[i]:=by simp[hlt]
  refine ze (fun c1=>?_) (fun c1=>?_)
  ·have c1:covB g l i=false:=by simpa using c1
   refine⟨i,rfl,za _ (zj hlt) ?_⟩
   refine zi8 c hc g.T[i] hti _ _ ?_
   have hz:decide (0<zb8 c g.T[i].toNat)=yl g l c i:=by
    unfold yl
    rw[c1,hget];rfl
   refine⟨i,rfl,hlt,?_⟩
   refine zh (i:=ti4) (v:=V.bool (decide (0<zb8 c g.T[i].toNat))) (b:=b) (o:=0+i*1) (l:=_) (st2:=st.setObj b (.cells (bl g.T.length (midB g l c (i+1))))) rfl rfl rfl ho (by rw[jg];omega) (by rw[zg,show 0+i*1=i by omega,hz,<-s1,zcy hlt _ s2]) ?_
   refine Qd ?_
   refine⟨i+1,?_,⟨by omega,rfl⟩,⟨Tq,Tq,Tq,Tq,Tv⟩,⟨rfl,Tv⟩⟩
   show g.T.length-(i+1)<g.T.length-i
   omega
  ·have c1:covB g l i=true:=by simpa using c1
   have hz:false=yl g l c i:=by
    unfold yl
    rw[c1];rfl
   refine⟨i,rfl,hlt,?_⟩
   refine zh (i:=ti4) (v:=V.bool false) (b:=b) (o:=0+i*1) (l:=_) (st2:=st.setObj b (.cells (bl g.T.length (midB g l c (i+1))))) rfl rfl rfl ho (by rw[jg];omega) (by rw[zg,show 0+i*1=i by omega,hz,<-s1,zcy hlt _ s2]) ?_
   refine Qd ?_
   refine⟨i+1,?_,⟨by omega,rfl⟩,⟨Tq,Tq,Tq,Tq,Tv⟩,⟨rfl,Tv⟩⟩
   show g.T.length-(i+1)<g.T.length-i
   omega
 ·rintro _ _ rfl
  refine AWp.freeze (d:=7) (b:=b) (k:=1) (n:=g.T.length) (cap:=g.T.length) (rows:=rws zak (blL g.T.length (yl g l c))) (pad:=[]) rfl ?_ ?_ ?_ (Nat.le_refl _) ?_ ?_ ?_
  ·rw[zaa];exact zb _ _ _
  ·exact hf.2
  ·rw[zk,yu]
  ·intro row hr
   obtain⟨x,_,rfl⟩:=List.mem_map.1 hr
   rfl
  ·intro row hr y hy
   obtain⟨x,_,rfl⟩:=List.mem_map.1 hr
   simp[zak]at hy
   exact⟨_,hy,rfl⟩
  rw[jc hf.1]
  refine AWp.of_vc zc ?_
  exact ret h
theorem zvt(g:Gnd)(hg:gndP g)(l:List Bld)(hl:l.length<=1000000000000)(hb:∀b∈l,bldP b/\onP g b)(c:Int)(hc:c=0\/c=1\/c=2)(p:Vc)(hp:xx p.1 p.2)(r:Int)(hr:0<r/\r<=262144)(st:Store)(R:AV->Store->Prop)
  (h:∀z:Bool,(z=true↔zg5 g l c p r)->R (V.bool z) st):ACalls Tryz.prog 97 [.agg (gndC g),lst 6 bldC l,int c,.agg (vecC p),int r] st R:=by
 have ha:=zr hg
 have hg1:=hg.1
 have hg2:=hg.2.1
 have hp':=hp
 unfold xx at hp'
 have no:¬zg5 g l c p r->R (V.bool false) st:=fun hn=>h false (by simp only[Bool.false_eq_true,false_iff];exact hn)
 refine Qa (c:=cfg 65) zc Tryz.func97 ?_
 refine bcd (fun c1=>ret (no fun q=>by have:=q.1;omega)) (fun c1=>?_)
 refine bcd (fun c2=>ret (no fun q=>by have:=q.1;omega)) (fun c2=>?_)
 refine Qd ?_
 refine Qd ?_
 refine bcd (fun c3=>ret (no fun q=>by have:=q.1;omega)) (fun c3=>?_)
 refine Qd ?_
 refine Qd ?_
 refine bcd (fun c4=>ret (no fun q=>by have:=q.1;omega)) (fun c4=>?_)
 refine zkm g hg l hl hb c hc _ _ ?_
 refine AWp.loop (σ:=Nat) ⟨fun i=>[(4,.av (int r)),(5,.bx 5 0),(8,.bx 8 0),(11,.av (opV g l c)),(12,.av (int (i:Nat)))],fun _=>[(5,gndC g),(8,vecC p)],
  fun i st'=>i<=g.T.length/\st'=st/\∀t,t<i->yl g l c t=false->¬hitP g t p r,fun i=>g.T.length-i⟩ zc ?_ ?_
 ·exact⟨0,Tv,⟨Nat.zero_le _,rfl,fun t ht=>by omega⟩,⟨Tq,Tq,Tq,Tq,Tq,Tv⟩,⟨rfl,rfl,Tv⟩⟩
 rintro i st' ⟨hi,rfl,hall⟩
 refine ze (fun h1=>?_) (fun h1=>?_)
 rotate_left
 ·have h1:=ja h1 (by rw[yu];exact hi)
  rw[yu]at h1
  subst h1
  exact ret (h true (by simp only[true_iff];exact⟨by omega,hall⟩))
 have hlt:=xk h1
 rw[yu]at hlt
 refine⟨i,rfl,za _ (ych hlt) ?_⟩
 have next:(yl g l c i=false->¬hitP g i p r)->∀t,t<i+1->yl g l c t=false->¬hitP g t p r:=fun hq t ht hh=>by
  by_cases e:t=i
  ·subst e;exact hq hh
  ·exact hall t (by omega) hh
 refine yo ?_
 refine ze (fun c5=>?_) (fun c5=>?_)
 ·refine Qd ?_
  refine⟨i+1,?_,⟨by omega,rfl,next fun hh=>by rw[c5]at hh;cases hh⟩,⟨Tq,Tq,Tq,Tq,Tq,Tv⟩,⟨rfl,rfl,Tv⟩⟩
  show g.T.length-(i+1)<g.T.length-i
  omega
 refine zv8 g hg i (by omega) p hp r hr _ _ ?_
 refine bcd (fun c6=>?_) (fun c6=>?_)
 ·exact ret (no fun q=>q.2 i hlt c5 c6)
 ·refine Qd ?_
  refine⟨i+1,?_,⟨by omega,rfl,next fun _=>c6⟩,⟨Tq,Tq,Tq,Tq,Tq,Tv⟩,⟨rfl,rfl,Tv⟩⟩
  show g.T.length-(i+1)<g.T.length-i
  omega
end Go.Proofs
