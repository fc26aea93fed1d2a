/- Ground of laws of throngtop: contracts and plain lemmas; no condition beyond the row's own. -/
import Derived.Test.YtkahacegdhllcaaGreatKJ
import Derived.Test.YtkahacegdhllcaaGreatKI
import Derived.Test.YtkahacegdhllcaaGreatKH
set_option linter.unusedSimpArgs false
set_option linter.unusedVariables false
set_option linter.defProp false
namespace Go.Proofs
open Go Go.V
set_option maxRecDepth 20000
set_option maxHeartbeats 4000000
def L6(n:Int)(st:Store)(R:Ja)(h:R (int (nrm n)) st):Jb 219 [int n] st R:=by refine Qy 5 Tryz.func219 ?_;rw[<-yjk]at h;exact ret h
def yj0(n:Int)(hn:yu n)(st:Store)(R:Ja)(h:R (int (-nrm n)) st):Jb 221 [int n] st R:=by refine Qy 6 Tryz.func221 ?_;refine L6 n _ _ ?_;have:=F5 hn;refine⟨⟨θ,θ⟩,?_⟩;rw[show -nrm n=0-nrm n by omega]at h;exact ret h
def K3(a b:Int)(ha:yu a)(hb:yu b)(st:Store)(R:Ja)(h:R (int (qs a b)) st):Jb 193 [int a,int b] st R:=by
 refine Qy 30 Tryz.func193 ?_;refine L6 a _ _ (L6 b _ _ ?_);have h1:=F5 ha;have h2:=F5 hb;unfold qs at h;generalize nrm a=x at*;generalize nrm b=y at*;have k1:x+y>9223372036854775807->R (int 9223372036854775807) st:=λhh=>by grind[Bj]
 have k2:x+y< -9223372036854775807->R (int (-9223372036854775807)) st:=λhh=>by rw[show Bj (x+y)=-9223372036854775807 by unfold Bj;omega]at h;exact h
 have k3:¬x+y>9223372036854775807->¬x+y< -9223372036854775807->yu (x+y)/\R (int (x+y)) st:=λhh hh'=>⟨⟨θ,θ⟩,by simp_all[Bj]⟩
 have fin:¬x+y>9223372036854775807->¬x+y< -9223372036854775807->yu (x+y)/\∃r st',AV.le (int (x+y)) r/\st.Has st'/\R r st':=λhh hh'=>⟨(k3 hh hh').1,ret (k3 hh hh').2⟩
 have e:Int.negSucc 9223372036854775806=-9223372036854775807:=rfl;refine bcd (λc1=>?_) (λc1=>?_)
 ·refine⟨⟨θ,θ⟩,bcd (λc2=>?_) (λc2=>?_)⟩
  ·exact ret (k1 θ)
  ·refine bcd (λc3=>?_) (λc3=>?_)
   ·omega
   ·exact fin θ θ
 ·refine bcd (λc3=>?_) (λc3=>?_)
  ·refine⟨⟨θ,θ⟩,bcd (λc4=>?_) (λc4=>?_)⟩
   ·exact ret (k2 θ)
   ·exact fin θ θ
  ·exact fin θ θ
def Kc(a b:Int)(ha:yu a)(hb:yu b)(st:Store)(R:Ja)(h:R (int (qf a b)) st):Jb 192 [int a,int b] st R:=by refine Qy 9 Tryz.func192 ?_;refine yj0 b hb _ _ ?_;have h2:=F5 hb;exact K3 a (-nrm b) ha ⟨θ,θ⟩ _ _ (ret h)
def zaw(n:Int)(hn:yu n)(st:Store)(R:Ja)(h:R (.tup [u64 (asz n),bool (decide (nrm n<0))]) st):Jb 224 [int n] st R:=by
 refine Qy 13 Tryz.func224 ?_;refine L6 n _ _ ?_;have h1:=F5 hn;unfold asz at h;generalize nrm n=x at*;refine bcd (λc1=>?_) (λc1=>?_)
 ·refine⟨⟨θ,θ⟩,?_⟩;rw[if_pos c1,show decide (x<0)=true by simp[c1]]at h;rw[<-H8 (v:=-x) θ θ,show -x=0-x by omega]at h;exact ret h
 ·rw[if_neg c1,show decide (x<0)=false by simp[c1]]at h;rw[<-H8 (v:=x) θ θ]at h;exact ret h
def pj(x y:Int)(hx:0<=x)(hx2:x<18446744073709551616)(hy:0<=y)(hy2:y<18446744073709551616)(st:Store)(R:Ja)(h:R (.tup (Bm (x*y))) st):
  Jb 124 [u64 x,u64 y] st R:=by
 refine Qy 51 Tryz.func124 ?_;refine⟨ψ,⟨ψ,⟨ψ,⟨ψ,⟨ψ,ret ((congrArg (λl=>R (.tup l) st) ?_).mpr h)⟩⟩⟩⟩⟩;have⟨p00,p10,p01,p11,e1,e2,e3,e4,e5,b⟩:=zn0 x y hx hx2 hy hy2;simp only[ya9,zam hx,zam hy,za2,<-e1,<-e2,<-e3,<-e4];rw[zam (Fd3 _ ψ)];unfold Bm u64;refine congr (congrArg _ ?_) rfl;grind
def du(x:Int)(hx:0<=x)(hx2:x<18446744073709551616)(st:Store)(R:Ja)(h:R (.agg (Bm (x*x))) st):Jb 198 [u64 x] st R:=by refine Qy 14 Tryz.func198 ?_;exact pj x x hx hx2 hx hx2 _ _ (ret h)
def zkl(a b:Int)(ha:0<=a)(hb:0<=b)(st:Store)(R:Ja)(h:R (bool (decide (a<b))) st):Jb 197 [.agg (Bm a),.agg (Bm b)] st R:=by
 refine Qy 24 Tryz.func197 ?_;refine bcd (λc1=>?_) (λc1=>?_)
 ·exact ret (isT h δ)
 ·refine zu (λc2=>?_) (λc2=>?_)
  ·refine ret ?_;have:decide (a<b)=decide (a%18446744073709551616<b%18446744073709551616):=by grind
   rw[this]at h;exact h
  ·exact ret (isF h δ)
def zlb(x y c:Int)(hx:0<=x)(hy:0<=y)(hc:0<=c)(hc1:c<=1)(st:Store)(R:Ja)(h:R (.tup [u64 ((x+y+c)%18446744073709551616),u64 ((x+y+c)/18446744073709551616)]) st):
  Jb 252 [u64 x,u64 y,u64 c] st R:=by
 obtain⟨a,rfl⟩:=Fcb hx;obtain⟨b,rfl⟩:=Fcb hy;obtain⟨d,rfl⟩:=Fcb hc;exact yu1 Tryz.laysNm725 a b d θ h
def zlo(a b:Int)(ha:0<=a)(hb:0<=b)(hab:a+b<340282366920938463463374607431768211456)(st:Store)(R:Ja)(h:R (.agg (Bm (a+b))) st):Jb 225 [.agg (Bm a),.agg (Bm b)] st R:=by
 refine Qy 29 Tryz.func225 ?_;refine zlb (a%18446744073709551616) (b%18446744073709551616) 0 θ θ θ θ _ _ (zlb (a/18446744073709551616) (b/18446744073709551616) ((a%18446744073709551616+b%18446744073709551616+0)/18446744073709551616) θ θ θ θ _ _ (ret ((congrArg (λl=>R (.agg l) st) (zl2 ?_ ?_)).mpr h)))
 ·omega
 ·omega
def l8{v:Vc}(h:v.ok):0<=asz v.1*asz v.1/\0<=asz v.2*asz v.2/\asz v.1*asz v.1<=85070591730234615847396907784232501249/\asz v.2*asz v.2<=85070591730234615847396907784232501249:=by
 have⟨h1,h2⟩:=h;have a1:=Pc h1;have a2:=Pc h2;have b:∀x:Int,0<=x->x<=9223372036854775807->0<=x*x/\x*x<=85070591730234615847396907784232501249:=by intro x h3 h4;refine⟨Fa8 h3 h3,?_⟩;have h5:x*x<=9223372036854775807*9223372036854775807:=Fbo h4 h4 h3 ψ;exact h5
 grind
def zcv(v:Vc)(hv:v.ok)(st:Store)(R:Ja)(h:R (.agg (Bm (sqr v))) st):Jb 195 [.agg (yp v)] st R:=by refine Qy 24 Tryz.func195 ?_;have a1:=Pc hv.1;have a2:=Pc hv.2;have b:=l8 hv;exact zaw v.1 hv.1 _ _ (zaw v.2 hv.2 _ _ (du (asz v.1) θ θ _ _ (du (asz v.2) θ θ _ _ (zlo _ _ θ θ θ _ _ (ret h)))))
def Vq(a b:Vc)(ha:a.ok)(hb:b.ok)(st:Store)(R:Ja)(h:R (.agg (yp (jd a b))) st):Jb 196 [.agg (yp a),.agg (yp b)] st R:=by refine Qy 16 Tryz.func196 ?_;refine Qc zb yej ?_;exact⟨Kc a.1 b.1 ha.1 hb.1 _ _ ⟨Qe,⟨Kc a.2 b.2 ha.2 hb.2 _ _ ⟨Qe,Qba (ret h)⟩,Tv⟩⟩,Tv⟩
def Vr(a b:Vc):(jd a b).ok:=⟨Kt _ _,Kt _ _⟩
def Vo(a b:Vc)(r:Int)(ha:a.ok)(hb:b.ok)(hr:r<=9223372036854775807)(st:Store)(R:Ja)(h:R (bool (near a b r)) st):Jb 154 [.agg (yp a),.agg (yp b),int r] st R:=by
 refine Qy 17 Tryz.func154 ?_;unfold near at h;refine bcd (λc1=>?_) (λc1=>?_)
 ·exact ret (isF h δ)
 ·have hb2:=l8 (Vr a b);refine Vq a b ha hb _ _ (zcv _ (Vr a b) _ _ ((congrArg (λn=>Jb 198 [.s (.int .u64 n)] st _) (H8 (v:=r) θ θ)).mpr (du r θ θ _ _ (zkl _ _ ?_ (Fa8 θ θ) _ _ (ret ?_)))))
  ·unfold sqr;omega
  ·have:decide (0<r/\sqr (jd a b)<r*r)=decide (sqr (jd a b)<r*r):=by grind
   rw[this]at h;exact h
def ynh(g:Gnd)(hg:zv g)(t:Nat)(ht:(t:Int)<g.W*g.H)(p:Vc)(hp:jv p.1 p.2)(r:Int)(hr:0<r/\r<=262144)(st:Store)(R:Ja)(h:R (bool (decide (wz g t p r))) st):
  Jb 151 [.agg (zw g),int t,.agg (yp p),int r] st R:=by
 have hb:=I7 hg ht;have hn:=yj3 hg ht hp hr.1;have hx:=Pq hg ht;have hq:=Ps (t:=t) hg.1.1;have hq2:=Pt (t:=t) hg.1.1;have hg1:=hg.1;have hg2:=hg.2.1;have hp':=hp;unfold jv at hp';refine Qy 41 Tryz.func151 ?_;refine Qc zb yey ?_;refine⟨θ,?_⟩;have q1:yu ((t:Int).tmod g.W*65536):=by rw[hq];unfold yu;omega
 have q2:yu ((t:Int).tdiv g.W):=by rw[hq2];unfold yu;omega
 have q3:yu ((t:Int).tdiv g.W*65536):=by rw[hq2];unfold yu;omega
 refine⟨q1,⟨θ,⟨q2,⟨q3,Qba (Qbb ?_)⟩⟩⟩⟩;have e1:(t:Int).tmod g.W*65536=tx g t:=by rw[hq];rfl
 have e2:(t:Int).tdiv g.W*65536=ty g t:=by rw[hq2];rfl
 rw[e1,e2];refine Qd (Qd ?_);have c1:=fz (x:=p.1) hx.1;have c2:=fz (x:=p.2) hx.2;refine Vo p (H3 p.1 (tx g t),H3 p.2 (ty g t)) r ⟨⟨θ,θ⟩,⟨θ,θ⟩⟩ ⟨⟨θ,θ⟩,⟨θ,θ⟩⟩ θ _ _ (ret ?_);rw[hn];exact h
def yrq(p:Vc)(r:Int)(st:Store)(R:Ja)(h:∀z:Bool,(z=true↔(0<=r/\r<=262144)/\jv p.1 p.2)->R (bool z) st):Jb 150 [.agg (yp p),int r] st R:=by
 refine Qy 15 Tryz.func150 ?_;repeat' (first|refine bcd (λ_=>?_) (λ_=>?_)|refine zk (λ_=>?_) (λ_=>?_)|refine Qd ?_|(refine yin p _ _ ?_;rintro(_|_) hz)|fail)
 all_goals
  refine ret (h _ ?_);simp only[decide_eq_true_eq,decide_eq_false_iff_not,Fap,false_iff,true_iff,beq_iff_eq,bne_iff_ne,beq_eq_false_iff_ne,ne_eq,reduceCtorEq,jv]at*;omega
def zd2(r:Int)(hr:0<r/\r<=262144)(st:Store)(R:Ja)(h:R (int r) st):Jb 155 [int r] st R:=by
 refine Qy 6 Tryz.func155 ?_;have e:min2 (max2 r 0) 262144=r:=by rw[min2_eq,max2_eq];omega
 rw[<-e]at h;exact ret h
def zkx(p:Vc)(r:Int)(q:Vc)(s:Int)(hp:p.ok)(hq:q.ok)(hr:0<r/\r<=262144)(hs:0<s/\s<=262144)(st:Store)(R:Ja)(h:R (bool (Bz p r q s)) st):
  Jb 119 [.agg (yp p),int r,.agg (yp q),int s] st R:=by
 refine Qy 18 Tryz.func119 ?_;refine Qc zb yfg ?_;exact⟨zd2 r hr _ _ ⟨Qe,⟨zd2 s hs _ _ ⟨Qe,Qd ⟨Vo p q (r+s) hp hq θ _ _ ⟨Tv,⟨⟨Tv,ret h⟩,Tv⟩⟩,Tv⟩⟩,Tv⟩⟩,Tv⟩
def yth(l:List Bld)(hl:l.length<=1000000000000)(st:Store)(R:Ja)(h:∀z:Bool,(z=true↔Ws l)->R (bool z) st):Jb 140 [lst 6 zl l] st R:=by
 refine Qy 22 Tryz.func140 ?_
 refine AWp.loop (σ:=Nat) ⟨λi=>[(0,.av (lst 6 zl l)),(3,.av (int (i:Nat)))],λ_=>[],
  λi st'=>1<=i/\(i<=l.length\/i=1)/\st'=st/\∀j,(h:j<l.length)->j<i->0<j->(l[j-1]'θ).id<l[j].id,λi=>l.length-i⟩ zb ?_ ?_
 ·exact⟨1,Tv,⟨Fah _,.inr rfl,rfl,λj _ hj=>θ⟩,⟨Tq,Tq,Tv⟩,Tv⟩
 ·rintro i st' ⟨hi1,hi,rfl,hall⟩;refine zk (λh1=>?_) (λh1=>?_)
  ·have hlt:i<l.length:=k9 h1;refine Qc zb ye3 (Qd ⟨i-1,θ,za _ (zp (show i-1<l.length by omega)) ⟨i,rfl,za _ (zp hlt) (bcd (λh2=>ret (h _ ?_)) (λh2=>?_))⟩⟩)
   ·simp only[Fap,false_iff];intro h3;have:=h3 i hlt θ;omega
   ·refine Qd ⟨i+1,?_,⟨θ,.inl hlt,rfl,λj hj h0 h00=>?_⟩,⟨Tq,Tq,Tv⟩,Tv⟩
    ·show l.length-(i+1)<l.length-i;omega
    ·by_cases hji:j=i
     ·subst hji;omega
     ·exact hall j hj θ h00
  ·have hge:¬i<l.length:=by
    rw[zi]at h1;simpa using h1
   refine ret (h _ ?_);simp only[true_iff];exact λj hj h0=>hall j hj θ h0
def Vz(g:Gnd)(hg:zv g)(b:Bld)(hb:qh b/\onP g b)(st:Store)(R:Ja)(h:R (yc (Au g.W b)) st):Jb 76 [.agg (zw g),.agg (zl b)] st R:=by
 have hb':=hb;unfold qh onP at hb';have hg1:=hg.1;have hg2:=hg.2.1;refine Qy 35 Tryz.func76 ?_
 refine AWp.loop (σ:=Nat×AV) ⟨λs=>[(2,.bx 2 0),(3,.bx 3 0),(4,.av s.2),(8,.av (int b.h)),(9,.av (int (s.1:Nat)))],λ_=>[(2,zw g),(3,zl b)],
  λs st'=>s.1<=b.h.toNat/\App 1 st s.2 (rws zn (Dw g.W b s.1)) st',λs=>b.h.toNat-s.1⟩ zb ?_ ?_
 ·exact⟨(0,_),Tv,⟨Fae _,App.start 1 st⟩,⟨Tq,Tq,Tq,Tq,Tq,Tv⟩,⟨rfl,rfl,Tv⟩⟩
 rintro⟨y,v⟩ st' ⟨hy,ha⟩;dsimp only at hy ha⊢;refine bcd (λh1=>?_) (λh1=>?_);rotate_left
 ·have:y=b.h.toNat:=θ;subst this;exact⟨_,st,AV.le_trans ha.le (Tt),ha.has,h⟩
 refine AWp.loop (σ:=Nat×AV) ⟨λs=>[(2,.bx 2 0),(3,.bx 3 0),(4,.av s.2),(5,.av (int (y:Nat))),(8,.av (int b.h)),(9,.av (int (y:Nat))),(13,.av (int b.w)),(14,.av (int (s.1:Nat)))],λ_=>[(2,zw g),(3,zl b)],
  λs st'=>s.1<=b.w.toNat/\App 1 st s.2 (rws zn (Dw g.W b y++Dd g.W b y s.1)) st',λs=>b.w.toNat-s.1⟩ zb ?_ ?_
 ·refine⟨(0,v),Tv,⟨Fae _,?_⟩,Qax,⟨rfl,rfl,Tv⟩⟩;simp_all[Dd]
 rintro⟨x,v2⟩ st2 ⟨hx,ha2⟩;dsimp only at hx ha2⊢;refine bcd (λh2=>?_) (λh2=>?_);rotate_left
 ·have:x=b.w.toNat:=θ;subst this;refine Qd ⟨(y+1,v2),?_,⟨θ,?_⟩,Qax,⟨rfl,rfl,Tv⟩⟩
  ·grind
  grind[lk]
 have⟨q1,q2,_⟩:=Pv hg (x:=b.x+x) (y:=b.y+y) θ θ;have hm:=xj hg;have q3:0<=g.W*(b.y+(y:Int)):=Fa8 θ θ;refine Qd (Qd (Qd (Qd ⟨ψ,?_⟩)));have hlen:(Dw g.W b y++Dd g.W b y x).length<=16:=by rw[Fac,ln,zb4];have:y*b.w.toNat<=3*4:=Fde θ θ;omega
 refine jy (ie:=ti2) (rows':=[zn (b.x+(x:Int)+g.W*(b.y+(y:Int)))]) ha2 ?_ ?_ ⟨?_,?_⟩ (λv3 st3 ha3=>?_)
 ·rfl
 ·rfl
 ·simp only[zi,Fan,ti2];omega
 ·grind[zi]
 refine Qd ⟨(x+1,v3),?_,⟨θ,?_⟩,Qax,⟨rfl,rfl,Tv⟩⟩
 ·grind
 ·dsimp only;rw[zn6,<-Fas];unfold rws;rw[Fav];exact ha3
section
variable {st:Store} {v:AV}
def zit(n:Int)(hn:yu n)(st:Store)(R:Ja)(h:R (int (nrm n/131072)) st):Jb 184 [int n] st R:=by
 refine Qy 15 Tryz.func184 ?_;refine L6 n _ _ ?_;have hb:=F5 hn;generalize nrm n=x at*;refine bcd (λc1=>?_) (λc1=>?_)
 ·refine⟨⟨θ,θ⟩,⟨⟨θ,θ⟩,⟨ψ,?_⟩⟩⟩;have e:(0-x-1).tdiv 131072=(0-x-1)/131072:=Fbg θ;rw[e];refine⟨⟨θ,θ⟩,⟨⟨θ,θ⟩,⟨⟨θ,θ⟩,?_⟩⟩⟩;rw[show x/131072=0-((0-x-1)/131072+1) by omega]at h;exact ret h
 ·refine⟨ψ,?_⟩;have e:x.tdiv 131072=x/131072:=Fbg θ;rw[e];exact⟨⟨θ,θ⟩,ret h⟩
def Hk(p:Vc)(hp:p.ok)(st:Store)(R:Ja)(h:R (.agg [int (zx p).1,int (zx p).2]) st):Jb 147 [.agg (yp p)] st R:=by refine Qy 10 Tryz.func147 ?_;refine Qc zb yez ?_;exact⟨zit p.1 hp.1 _ _ ⟨Qe,⟨zit p.2 hp.2 _ _ ⟨Qe,Qba (ret h)⟩,Tv⟩⟩,Tv⟩
def zjy(R:Ja)(h:∀a p,CellsOf a p []->R (.s (.pointer (some ⟨p,0,none⟩))) a):Jb 113 [] Store.empty R:=by
 refine Qa (c:=cfg 5 [4] []) zb Tryz.func113 ?_;refine I0 rfl (λma hma=>?_);refine I0 rfl (λmi hmi=>?_);intro p hp;have h1:mi≠ma:=λe=>by have:=hmi.1;rw[e,zd]at this;cases this
 have h2:p≠mi:=λe=>by have:=hp.1;rw[e,zd]at this;cases this
 have h3:p≠ma:=λe=>by have:=hp.1;simp_all[zf,zd]
 refine ret (h _ _ ⟨ma,mi,[],0,[],[],0,⟨zd _ _ _,?_,?_,Ne.symm h1,(λg hg=>(by cases hg)),Fd9⟩,⟨Fd9,Fd9,(λg hg=>(by cases hg)),(λg hg=>(by cases hg)),(λg hg=>(by cases hg))⟩⟩)
 ·simp_all[zf,Ne.symm,zd]
 simp_all[zf,Ne.symm,zd]
def zj8{ns:List Int}(hv:Ints st v ns)(x:Int)(hlen:ns.length<4611686018427387904)(hs:ns.Pairwise (·<=·))(R:Ja)
  (h:R (.tup [int (ns.countP (·<x):Nat),bool (ns.contains x)]) st):Jb 148 [v,int x] st R:=
 ybj Tryz.laysNm225 Tryz.func148 rfl rfl hv x hlen hs h
def zi1{b cap i j:Nat}{ns:List Int}{L:List AV}(ho:st.obj b=some (.cells (ns.map aI++L)))
  (hc1:ns.length<=cap) (hc2:cap<=9223372036854775807) (hij:i<=j) (hj:j<=ns.length) (R:Ja)
  (h:R (.s (.slice (some ⟨b,0,none⟩) (ns.take i++ns.drop j).length cap)) (st.sO b (.cells ((ns.take i++ns.drop j).map aI++(List.replicate (j-i) (aI 0)++L))))):
  Jb 183 [.s (.slice (some ⟨b,0,none⟩) ns.length cap),int i,int j] st R:=
 yrs Tryz.laysNm223 Tryz.func183 rfl rfl ho hc1 hc2 hij hj h
def rq{ns:List Int}(hv:Ints st v ns){vb:Nat}(x:Int)(i:Nat)(hi:i<=ns.length)
  (hvb:st.obj vb=some (.cells [aI x])) (hne:∀b cap,v=.s (.slice (some ⟨b,0,none⟩) ns.length cap)->b≠vb) (hlen:(ns.length+1)*8<=140737488355328) (R:Ja)
  (h:∀b cap L,(Fresh st b\/∃c0,v=.s (.slice (some ⟨b,0,none⟩) ns.length c0))->(ns.take i++x::ns.drop i).length<=cap->cap<=(ns.take i++x::ns.drop i).length+L.length->cap<=9223372036854775807->
   R (.s (.slice (some ⟨b,0,none⟩) (ns.take i++x::ns.drop i).length cap)) (st.sO b (.cells ((ns.take i++x::ns.drop i).map aI++L)))):
  Jb 149 [v,int i,.s (.slice (some ⟨vb,0,none⟩) 1 1)] st R:=
 ymf Tryz.laysNm221 Tryz.func149 rfl rfl hv x i hi hvb hne hlen h
def tz{l:List Ent}{G:List Grp}(h:Inv l G):∀g∈G,g.ns.length<=l.length:=by
 intro g hg;have h1:=(h.s g hg).1;have h2:g.ns.Nodup:=h1.imp λh e=>θ;have h3:g.ns ⊆ l.map (·.1):=λid hid=>by have⟨e,he,h4,_⟩:=(h.m1 g hg id).1 hid;grind
 have:=Fb2 h2 h3;grind
def zc1{ns:List Int}(h:ns.Pairwise (·<·)):ns.Pairwise (·<=·):=h.imp λh=>θ
def zjx{a:Store}{p:Nat}{l:List Ent}(hc:CellsOf a p l)(hl:l.length<=1000000000)(hok:∀e∈l,e.2.ok)(id:Int)(R:Ja)
  (h:∀a',CellsOf a' p (qt l id)->R (bool (l.find? (Bk id)).isSome) a'):Jb 146 [.s (.pointer (some ⟨p,0,none⟩)),int id] a R:=by
 have⟨ma,mi,bs1,c1,G,bs2,c2,ha,hi⟩:=hc;refine Qy 60 Tryz.func146 ?_;refine za _ ha.hp (Ar rfl (it:=ti235) (ie:=ti91) (ik:=ti2) rfl rfl rfl rfl ha.ha rfl (qA id) (λe he=>?_) ?_)
 ·obtain⟨e,_,rfl⟩:=Fag.1 he;rfl
 rw[zia];cases hf:l.find? (Bk id)with
 |none=>
  rw[hf]at h;refine ret (h a ?_);rw[yqw hf];exact⟨ma,mi,bs1,c1,G,bs2,c2,ha,hi⟩
 |some e=>
  rw[hf]at h;have⟨hem,heq⟩:=d9 hf;have hid:e.1=id:=(by simpa [Bk]using heq:id=e.1).symm;refine Hk e.2 (hok e hem) _ _ ?_;have⟨g,hg,hk⟩:=hi.m2 e hem;have hfg:∃g',G.find? (H7 (zx e.2))=some g':=by
   cases hx:G.find? (H7 (zx e.2))with
   |some g'=>simp
   |none=>grind[atKey_iff]
  have⟨g',hfg⟩:=hfg;have hg':=d9 hfg;have:g'=g:=yl1 hi.n2 hg hg'.1 (by rw[hk];exact atKey_iff.1 hg'.2);subst this;have⟨j,hj1,hj2⟩:=sx hfg;have⟨k1,k2,k3⟩:=ha.hg g' hg;have⟨s1,s2⟩:=hi.s g' hg;have hin:id∈g'.ns:=(hi.m1 g' hg id).2 ⟨e,hem,hid,hk.symm⟩;have⟨d1,d2,d3⟩:=yrt s1 hin;have hlen:=tz hi g' hg;refine Qc zb ye1 (za (o:=a.obj p) _ ha.hp ⟨Ar rfl (it:=ti236) (ie:=ti29) (ik:=ti91) rfl rfl rfl rfl ha.hi rfl (qG (zx e.2).1 (zx e.2).2) (λe he=>?_) ⟨Qe,?_⟩,Tv⟩)
  ·obtain⟨e,_,rfl⟩:=Fag.1 he;rfl
  rw[Sq,hfg];refine Qba (zj8 (.inr ⟨g'.b,g'.cap,g'.L,rfl,k1,k2⟩) id θ (zc1 s1) _ ⟨⟨θ,θ⟩,zi1 k1 k2.1 k2.2.2 (Nat.le_add_right _ 1) d1 _ ?_⟩);generalize hns:g'.ns.take (g'.ns.countP λx=>decide (x<id))++g'.ns.drop (g'.ns.countP (λx=>decide (x<id))+1)=ns' at*;have⟨n1,n2,n3⟩:=ha.g_ne hg;have mid:=ha.mid (.cells (ns'.map aI++(List.replicate (g'.ns.countP (λx=>decide (x<id))+1-g'.ns.countP (λx=>decide (x<id))) (aI 0)++g'.L))) n3 n1 n2;rw[show g'.ns.countP (λx=>decide (x<id))+1-g'.ns.countP (λx=>decide (x<id))=1 by omega]at mid⊢;have hnl:ns'.length+1=g'.ns.length:=δ;have⟨v1,v2⟩:=yl7 hi hem hj2 hk d2 δ;have⟨i,hi1,hi2⟩:=sx hf;have her:(l.map Am).eraseIdx i=(qt l id).map Am:=by rw[ew,yp4 hi.n1 hi2,hid]
  refine zu (λhz=>?_) (λhz=>?_)
  ·have hn0:ns'=[]:=Fa0 θ;refine Qc zb ye0 (za (o:=(a.sO g'.b _).obj p) _ mid.hp ⟨gn rfl rfl rfl rfl (it:=ti236) (ik:=ti91) rfl rfl rfl mid.hi rfl (qG (zx e.2).1 (zx e.2).2) (λe he=>?_) ⟨Qe,?_⟩,Tv⟩)
   ·obtain⟨e,_,rfl⟩:=Fag.1 he;rfl
   have m1:=mid.setI (G':=G.eraseIdx j) (bs2.eraseIdx j) c2 (λg1 h1=>.inl ?_) (mid.nd.sublist ((List.eraseIdx_sublist ..).map _));rotate_left
   ·have⟨q1,q2⟩:=(cf (f:=Grp.key) hi.n2 hj2).1 h1;refine⟨q1,λe=>q2 ?_⟩;have⟨i1,hi1⟩:=Fbb.1 q1;have:=Gq (f:=λg:Grp=>g.b) ha.nd hi1 hj2 e;grind
   have e1:Ga (G.map Al) bs2 c2 (qG (zx e.2).1 (zx e.2).2)=.map ((G.eraseIdx j).map Al) (bs2.eraseIdx j) c2:=by grind[Ga,ee,ew]
   rw[e1];refine za _ m1.hp (gn rfl rfl rfl rfl (it:=ti235) (ik:=ti2) rfl rfl rfl m1.ha rfl (qA id) (λe he=>?_) ?_)
   ·obtain⟨e,_,rfl⟩:=Fag.1 he;rfl
   have e2:Ga (l.map Am) bs1 c1 (qA id)=.map ((qt l id).map Am) (bs1.eraseIdx i) c1:=by grind[Ga,ef]
   rw[e2];have m2:=m1.setA (qt l id) (bs1.eraseIdx i) c1;rw[hid]at v1;exact ret (h _ ⟨ma,mi,_,_,_,_,_,m2,v1 hn0⟩)
  ·have hn0:ns'≠[]:=λe=>by grind
   refine Qc zb ye2 (za (o:=(a.sO g'.b _).obj p) _ mid.hp ⟨Gi (.inl rfl) rfl (it:=ti236) (ik:=ti91) rfl rfl rfl mid.hi rfl rfl (qG (zx e.2).1 (zx e.2).2) (λe he=>?_) (λe1 he hq=>?_) ⟨Qe,?_⟩,Tv⟩)
   ·obtain⟨e,_,rfl⟩:=Fag.1 he;rfl
   ·obtain⟨g1,_,rfl⟩:=Fag.1 he;have:=(atKey_iff (k:=zx e.2) (g:=g1)).1 hq;show AV.agg [int g1.x,int g1.y]=_;rw[<-this];rfl
   let g2:Grp:=⟨g'.x,g'.y,ns',g'.b,g'.cap,List.replicate 1 (aI 0)++g'.L⟩
   have e1:wd (G.map Al) bs2 c2 (qG (zx e.2).1 (zx e.2).2) (.agg [int (zx e.2).1,int (zx e.2).2]) (.s (.slice (some ⟨g'.b,0,none⟩) ns'.length g'.cap))=.map ((G.set j g2).map Al) bs2 c2:=by
    unfold wd;rw[ee,hj1,Fc6];simp only
    congr 2
    show _=(AV.agg [int g'.x,int g'.y],_)
    rw[<-hk];rfl
   have m1:=mid.setI (G':=G.set j g2) bs2 c2 (λg1 h1=>?_) (by rw[map_set_same (λg:Grp=>g.b) (g':=g2) hj2 rfl];exact mid.nd);rotate_left
   ·rcases(Gr (f:=λg:Grp=>g.b) ha.nd hj2).1 h1 with rfl|⟨q1,q2⟩
    ·refine .inr ⟨zd _ _ _,⟨?_,?_,k2.2.2⟩,k3⟩
     ·show ns'.length<=g'.cap;have:=k2.1;omega
     ·show g'.cap<=ns'.length+(List.replicate 1 (aI 0)++g'.L).length;have:=k2.2.1;grind
    grind
   rw[<-e1]at m1;refine za _ m1.hp (gn rfl rfl rfl rfl (it:=ti235) (ik:=ti2) rfl rfl rfl m1.ha rfl (qA id) (λe he=>?_) ?_)
   ·obtain⟨e,_,rfl⟩:=Fag.1 he;rfl
   have e2:Ga (l.map Am) bs1 c1 (qA id)=.map ((qt l id).map Am) (bs1.eraseIdx i) c1:=by grind[Ga,ef]
   rw[e2];have m2:=m1.setA (qt l id) (bs1.eraseIdx i) c1;rw[hid]at v2;exact ret (h _ ⟨ma,mi,_,_,_,_,_,m2,v2 hn0 g2 rfl rfl⟩)
end
theorem ff{l:List Ent}{id:Int}:∀e∈qt l id,e.1≠id:=λe he=>(mem_dropId.1 he).2
def yqx(l:List Ent)(id:Int):(qt l id).length<=l.length:=Fbv _ _
def ys2{a:Store}{p:Nat}{l:List Ent}(hc:CellsOf a p l)(hl:l.length<=1000000000)(hok:∀e∈l,e.2.ok)(id:Int)(pos:Vc)(hpos:pos.ok)(R:Ja)
  (h:∀a',CellsOf a' p (qt l id++[(id,pos)])->R (.tup []) a'):Jb 114 [.s (.pointer (some ⟨p,0,none⟩)),int id,.agg (yp pos)] a R:=by
 refine Qa (c:=cfg 46 [38,1000038] []) zb Tryz.func114 ?_;refine zjx hc hl hok id _ (λa1 hc1=>?_);have⟨ma,mi,bs1,c1,G,bs2,c2,ha,hi⟩:=hc1;refine Hk pos hpos _ _ ?_;have⟨cur,ns,e1,e2,e3,e4,e5,e6⟩:=yhy (pos:=pos) ha hi ff;have hnl:ns.length<=1000000000:=by
  rcases e4 with rfl|⟨g,hg,rfl⟩
  ·simp
  ·have h1:=tz hi g hg;have h2:=yqx l id;omega
 have hle:=yr4 id ns;refine Qc zb yfj (za (o:=a1.obj p) _ ha.hp ⟨Ar rfl (it:=ti236) (ie:=ti29) (ik:=ti91) rfl rfl rfl rfl ha.hi rfl (qG (zx pos).1 (zx pos).2) (λe he=>?_) ⟨Qe,?_⟩,Tv⟩)
 ·obtain⟨e,_,rfl⟩:=Fag.1 he;rfl
 rw[Sq,show Fm ti29=.s (.slice none 0 0)from rfl,e1];refine⟨zj8 e2 id θ (zc1 e3) _ ⟨Qe,Qba (Qba (Qc zb yfi (za (o:=a1.obj p) _ ha.hp (za (o:=a1.obj p) _ ha.hp ⟨Ar rfl (it:=ti236) (ie:=ti29) (ik:=ti91) rfl rfl rfl rfl ha.hi rfl (qG (zx pos).1 (zx pos).2) (λe he=>?_) ⟨?_,?_⟩,?_⟩))))⟩,Tv⟩
 ·obtain⟨e,_,rfl⟩:=Fag.1 he;rfl
 ·repeat(first|exact Tv|refine⟨rfl,?_⟩|refine⟨za (o:=a1.obj p) _ ha.hp rfl,?_⟩)
 ·rw[Sq,show Fm ti29=.s (.slice none 0 0)from rfl,e1];refine⟨⟨ψ,λvb hvb=>?_⟩,Tv⟩;have hp1:=(ha.fresh (.cells [aI id]) hvb).hp;refine⟨?_,?_⟩
  ·repeat(first|exact Tv|refine⟨rfl,?_⟩|refine⟨za (o:=(a1.sO vb (.cells [aI id])).obj p) _ hp1 rfl,?_⟩)
  refine⟨rq (e2.fresh _ hvb) id _ hle (zd _ _ _) (λb cap hc he=>e5 b cap hc (he▸hvb.1)) θ _ (λb cap L q1 q2 q3 q4=>?_),Tv⟩;have⟨w1,w2,G',bs2',c2',w3,w4,w5⟩:=e6 vb _ b cap L hvb q1 q2 q3 q4;refine⟨?_,?_⟩
  ·repeat(first|exact Tv|refine⟨rfl,?_⟩|refine⟨za (o:=Store.obj (Store.sO _ b _) p) _ w2 rfl,?_⟩)
  refine⟨Gi (.inl rfl) rfl (it:=ti236) (ik:=ti91) rfl rfl rfl w1 rfl rfl (qG (zx pos).1 (zx pos).2) (λe he=>?_) (λe1 he hq=>?_) ⟨Qe,?_⟩,Tv⟩
  ·obtain⟨e,_,rfl⟩:=Fag.1 he;rfl
  ·obtain⟨g1,_,rfl⟩:=Fag.1 he;have:=(atKey_iff (k:=zx pos) (g:=g1)).1 hq;show AV.agg [int g1.x,int g1.y]=_;rw[<-this];rfl
  rw[w3];refine Qc zb zdo (za (o:=Store.obj (Store.sO _ mi _) p) _ w4.hp ⟨Gi (.inl rfl) rfl (it:=ti235) (ik:=ti2) rfl rfl rfl w4.ha rfl rfl (qA id) (λe he=>?_) (λe1 he hq=>?_) ⟨Qe,?_⟩,Tv⟩)
  ·obtain⟨e,_,rfl⟩:=Fag.1 he;rfl
  ·obtain⟨g1,hg1,rfl⟩:=Fag.1 he;grind[qA,Am,int]
  have e7:wd ((qt l id).map Am) bs1 c1 (qA id) (int id) (.agg (yp pos))=.map ((qt l id++[(id,pos)]).map Am) (bs1++[c1]) (c1+1):=by
   unfold wd;have:(qt l id).findIdx? (Bk id)=none:=by rw[Fb7];intro e he;grind[ff,Bk]
   rw[ef,this,Fav];rfl
  have w6:=w4.setA (qt l id++[(id,pos)]) (bs1++[c1]) (c1+1);rw[<-e7]at w6;exact ret (h _ ⟨ma,mi,_,_,G',_,_,w6,w5⟩)
 ·refine⟨⟨ψ,λvb hvb=>?_⟩,Tv⟩;have ha1:=ha.fresh (.cells [aI id]) hvb;have hp1:=ha1.hp;refine⟨?_,?_⟩
  ·repeat(first|exact Tv|refine⟨rfl,?_⟩|refine⟨za (o:=(a1.sO vb (.cells [aI id])).obj p) _ hp1 rfl,?_⟩)
  refine⟨Ar rfl (it:=ti236) (ie:=ti29) (ik:=ti91) rfl rfl rfl rfl ha1.hi rfl (qG (zx pos).1 (zx pos).2) (λe he=>?_) ⟨?_,?_⟩,Tv⟩
  ·obtain⟨e,_,rfl⟩:=Fag.1 he;rfl
  ·repeat(first|exact Tv|refine⟨rfl,?_⟩|refine⟨za (o:=(a1.sO vb (.cells [aI id])).obj p) _ hp1 rfl,?_⟩)
  rw[Sq,show Fm ti29=.s (.slice none 0 0)from rfl,e1];refine⟨rq (e2.fresh _ hvb) id _ hle (zd _ _ _) (λb cap hc he=>e5 b cap hc (he▸hvb.1)) θ _ (λb cap L q1 q2 q3 q4=>?_),Tv⟩;have⟨w1,w2,G',bs2',c2',w3,w4,w5⟩:=e6 vb _ b cap L hvb q1 q2 q3 q4;refine⟨?_,?_⟩
  ·repeat(first|exact Tv|refine⟨rfl,?_⟩|refine⟨za (o:=Store.obj (Store.sO _ b _) p) _ w2 rfl,?_⟩)
  refine⟨Gi (.inl rfl) rfl (it:=ti236) (ik:=ti91) rfl rfl rfl w1 rfl rfl (qG (zx pos).1 (zx pos).2) (λe he=>?_) (λe1 he hq=>?_) ⟨Qe,?_⟩,Tv⟩
  ·obtain⟨e,_,rfl⟩:=Fag.1 he;rfl
  ·obtain⟨g1,_,rfl⟩:=Fag.1 he;have:=(atKey_iff (k:=zx pos) (g:=g1)).1 hq;show AV.agg [int g1.x,int g1.y]=_;rw[<-this];rfl
  rw[w3];refine Qc zb zdo (za (o:=Store.obj (Store.sO _ mi _) p) _ w4.hp ⟨Gi (.inl rfl) rfl (it:=ti235) (ik:=ti2) rfl rfl rfl w4.ha rfl rfl (qA id) (λe he=>?_) (λe1 he hq=>?_) ⟨Qe,?_⟩,Tv⟩)
  ·obtain⟨e,_,rfl⟩:=Fag.1 he;rfl
  ·obtain⟨g1,hg1,rfl⟩:=Fag.1 he;have:id=g1.1:=by simpa [qA,Am,int]using hq
   exact absurd this.symm (ff g1 hg1)
  have e7:wd ((qt l id).map Am) bs1 c1 (qA id) (int id) (.agg (yp pos))=.map ((qt l id++[(id,pos)]).map Am) (bs1++[c1]) (c1+1):=by
   unfold wd;have:(qt l id).findIdx? (Bk id)=none:=by rw[Fb7];intro e he;have:=ff e he;simp[Bk];exact λh=>this h.symm
   rw[ef,this,Fav];rfl
  have w6:=w4.setA (qt l id++[(id,pos)]) (bs1++[c1]) (c1+1);rw[<-e7]at w6;exact ret (h _ ⟨ma,mi,_,_,G',_,_,w6,w5⟩)
def ptr(b:Nat):AV:=.s (.pointer (some ⟨b,0,none⟩))
def zca{F N:Store}(hd:zj F N){p:Nat}{l:List Ent}(hc:CellsOf F p l){b3 b4 b5 b6:Nat}{q:Vc}{r:Int}{v:AV}{acc:List Int}(hN:NearAt N b3 b4 b5 b6 p q r v acc)(hq:q.ok)(hr:r<=9223372036854775807)
  {e:Ent} (he:l.find? (Bk e.1)=some e) (hok:e.2.ok) (hlen:acc.length<=1000000000000) (R:Ja)
  (h:∀N' v',zj F N'->NearAt N' b3 b4 b5 b6 p q r v' (if near q e.2 r then acc++[e.1]else acc)->R (.tup []) (F.un N')):
  Jb 191 [int e.1,ptr b4,ptr b3,ptr b5,ptr b6] (F.un N) R:=by
 have⟨ma,mi,bs1,c1,G,bs2,c2,ha,hi⟩:=hc;refine Qy 19 Tryz.func191 ?_;refine Qc zb yek ?_;refine za (o:=(F.un N).obj b4) _ (zg hN.h4) (za (o:=(F.un N).obj b3) _ (zg hN.h3) (za (o:=(F.un N).obj p) _ (yf hd ha.hp) (za (o:=(F.un N).obj b5) _ (zg hN.h5) ?_)));refine⟨Ar rfl (it:=ti235) (ie:=ti91) (ik:=ti2) rfl rfl rfl rfl (yf hd ha.ha) rfl (qA e.1) (λe he=>?_) ⟨?_,?_⟩,Tv⟩
 ·obtain⟨e,_,rfl⟩:=Fag.1 he;rfl
 ·repeat(first|exact Tv|refine⟨rfl,?_⟩|refine⟨za (o:=(F.un N).obj b4) _ (zg hN.h4) rfl,?_⟩|refine⟨za (o:=(F.un N).obj b5) _ (zg hN.h5) rfl,?_⟩)
 rw[zia,he];refine⟨Vo q e.2 r hq hok hr _ _ ⟨Tv,?_⟩,Tv⟩;cases hn:near q e.2 r with
 |false=>
  rw[hn]at h;exact ret (h N v hd hN)
 |true=>
  rw[hn]at h;refine za (o:=(F.un N).obj b6) _ (zg hN.h6) ⟨ψ,yt6 (ie:=ti2) rfl rfl rfl hN.hv.un e.1 hlen (λb cap L q1 q2 q3 q4=>?_)⟩;have q1':Fresh N b\/∃c0,v=.s (.slice (some ⟨b,0,none⟩) acc.length c0):=q1.imp (λh=>(fresh_un h).2) id;have hN':=hN.app q1' q2 q3 q4;rw[zy];have hd1:zj F (N.sO b (.cells ((acc++[e.1]).map aI++L))):=by
   rcases q1 with q1|⟨c0,q1⟩
   ·exact disj_setR hd (fresh_un q1).1
   ·rcases hN.hv with⟨h1,_⟩|⟨b',_,_,h1,h2,_⟩
    ·grind
    grind[O3]
  have hd2:=O3 (x:=.cells [.s (.slice (some ⟨b,0,none⟩) (acc++[e.1]).length cap)]) hd1 (b:=b6) (y:=.cells [v]) (by
   have hne:b6≠b:=by
    rcases q1' with q1|⟨c0,q1⟩
    ·exact Ne.symm (q1.ne_obj hN.h6)
    ·exact Ne.symm (hN.nv b _ _ q1).2.2.2
   rw[zf hne];exact hN.h6)
  have h6':(N.sO b (.cells ((acc++[e.1]).map aI++L))).obj b6=some (.cells [v]):=by
   have hne:b6≠b:=by
    rcases q1' with q1|⟨c0,q1⟩
    ·exact Ne.symm (q1.ne_obj hN.h6)
    ·exact Ne.symm (hN.nv b _ _ q1).2.2.2
   rw[zf hne];exact hN.h6
  refine ye (i:=ti29) (v:=.s (.slice (some ⟨b,0,none⟩) (acc++[e.1]).length cap)) (b:=b6) (o:=0) (l:=[v]) (st2:=F.un ((N.sO b (.cells ((acc++[e.1]).map aI++L))).sO b6 (.cells [.s (.slice (some ⟨b,0,none⟩) (acc++[e.1]).length cap)]))) rfl rfl rfl (zg h6') (Fah _) ?_ ?_
  ·rw[zy];rfl
  ·exact ret (h _ _ hd2 hN')
section
variable {F st:Store} {p b:Nat}
def Qaa{p:Prop}(h:p:=by repeat(first|exact Tv|refine⟨rfl,?_⟩|refine⟨za (o:=(F.un N0).obj b4) _ (zg hN0.h4) rfl,?_⟩|refine⟨za (o:=(F.un N0).obj b5) _ (zg hN0.h5) rfl,?_⟩)):p:=h
def CellsOf.fresh{l:List Ent}(h:CellsOf F p l)(x:AObj)(hb:Fresh F b):CellsOf (F.sO b x) p l:=by have⟨ma,mi,bs1,c1,G,bs2,c2,ha,hi⟩:=h;exact⟨ma,mi,bs1,c1,G,bs2,c2,ha.fresh x hb,hi⟩
def yaw{cap:Nat}{ns:List Int}{L:List AV}(ho:st.obj b=some (.cells (ns.map aI++L)))(hlen:ns.length<4611686018427387904)(R:Ja)
  (h:R (.tup []) (st.sO b (.cells ((ns.mergeSort λx y=>decide (x<=y)).map aI++L)))):Jb 194 [.s (.slice (some ⟨b,0,none⟩) ns.length cap)] st R:=
 yaz Tryz.lays189 Tryz.func194 rfl rfl ho hlen h
def yax(R:Ja)(h:R (.tup []) st):Jb 194 [.s (.slice none 0 0)] st R:=
 yay Tryz.lays189 Tryz.func194 rfl rfl h
def I8(b3 b4 b5 b6:Nat):AV:=.clos 191 [ptr b4,ptr b3,ptr b5,ptr b6]
def ys3{l:List Ent}(hc:CellsOf F p l)(hl:l.length<=1000000000)(hok:∀e∈l,e.2.ok){q:Vc}(hq:q.ok){r:Int}(hr:yu r)(R:Ja)
  (h:∀F' N v ns,CellsOf F' p l->zj F' N->Ints N v ns->Vh l q r ns->R v (F'.un N)):Jb 153 [ptr p,.agg (yp q),int r] F R:=by
 refine Qb (c:=cfg 126 [3,4,5,6] []) zb Tryz.func153 (AWp.seq (AWp.of_vc zb ?_));intro b3 hb3 b4 hb4 b5 hb5 b6 hb6;have n43:b4≠b3:=λe=>by have:=hb4.1;rw[e,zd]at this;cases this
 have n54:b5≠b4:=λe=>by have:=hb5.1;rw[e,zd]at this;cases this
 have n53:b5≠b3:=λe=>by have:=hb5.1;simp_all[zf,zd]
 have n65:b6≠b5:=λe=>by have:=hb6.1;rw[e,zd]at this;cases this
 have n64:b6≠b4:=λe=>by have:=hb6.1;simp_all[zf,zd]
 have n63:b6≠b3:=λe=>by have:=hb6.1;simp_all[zf,zd]
 have est:(((F.sO b3 (.cells [ptr p])).sO b4 (.cells (yp q))).sO b5 (.cells [int r])).sO b6 (.cells [.s (.slice none 0 0)])=
   F.un ((((Store.empty.sO b3 (.cells [ptr p])).sO b4 (.cells (yp q))).sO b5 (.cells [int r])).sO b6 (.cells [.s (.slice none 0 0)])):=by
  rw[<-zy,<-zy,<-zy,<-zy,Bn]
 have f3:Fresh F b3:=hb3;have f4:Fresh F b4:=by have:=hb4;rw[<-Bn F,zy]at this;exact(fresh_un this).1
 have f5:Fresh F b5:=by have:=hb5;rw[<-Bn F,zy,zy]at this;exact(fresh_un this).1
 have f6:Fresh F b6:=by have:=hb6;rw[<-Bn F,zy,zy,zy]at this;exact(fresh_un this).1
 have hN0:NearAt ((((Store.empty.sO b3 (.cells [ptr p])).sO b4 (.cells (yp q))).sO b5 (.cells [int r])).sO b6 (.cells [.s (.slice none 0 0)])) b3 b4 b5 b6 p q r (.s (.slice none 0 0)) []:=by
  refine⟨?_,?_,?_,zd _ _ _,.inl ⟨rfl,rfl⟩,Ne.symm n63,Ne.symm n64,Ne.symm n65,λb n cap e=>by cases e⟩
  ·rw[zf (Ne.symm n63),zf (Ne.symm n53),zf (Ne.symm n43)];exact zd _ _ _
  ·simp_all[zf,Ne.symm,zd]
  simp_all[zf,Ne.symm,zd]
 have hd0:zj F ((((Store.empty.sO b3 (.cells [ptr p])).sO b4 (.cells (yp q))).sO b5 (.cells [int r])).sO b6 (.cells [.s (.slice none 0 0)])):=
  disj_setR (disj_setR (disj_setR (disj_setR (yrm F) f3) f4) f5) f6
 show AWp _ _ _ _ _ ((((F.sO b3 (.cells [ptr p])).sO b4 (.cells (yp q))).sO b5 (.cells [int r])).sO b6 (.cells [.s (.slice none 0 0)]));rw[est];generalize((((Store.empty.sO b3 (.cells [ptr p])).sO b4 (.cells (yp q))).sO b5 (.cells [int r])).sO b6 (.cells [.s (.slice none 0 0)]))=N0 at*;clear est hb3 hb4 hb5 hb6;refine AWp.seq (AWp.of_vc zb (za (o:=(F.un N0).obj b5) _ (zg hN0.h5) (bcd (λc1=>?_) (λc1=>?_))))
 ·refine Ch (i:=ti29) (v:=.s (.slice none 0 0)) (b:=b6) (o:=0) (l:=[.s (.slice none 0 0)]) rfl rfl rfl (zg hN0.h6) (Fah _) (za (o:=Store.obj (Store.sO _ b6 _) b6) _ (zd _ _ _) (ret ?_));rw[zy];refine h F _ _ [] hc (O3 hd0 hN0.h6) (.inl ⟨rfl,rfl⟩) ⟨List.Pairwise.nil,λid=>⟨(λh=>ω),λ⟨e,_,_,hn⟩=>?_⟩⟩;unfold near at hn;grind
 refine AWp.seq (AWp.of_vc zb ?_);have hr0:0<r:=θ;have hr1:r<=9223372036854775807:=hr.2;have sub_q1:=Kt q.1 r;have sub_q2:=Kt q.2 r;have add_q1:=ek q.1 r;have add_q2:=ek q.2 r
 refine AWp.meet (σ:=Unit) ⟨λ_=>[(3,.av (ptr b3)),(4,.av (ptr b4)),(5,.av (ptr b5)),(6,.av (ptr b6)),(7,.av (I8 b3 b4 b5 b6)),(8,.bx 8 0)],λ_=>[(8,[int (zx (qf q.1 r,qf q.2 r)).1,int (zx (qf q.1 r,qf q.2 r)).2])],
  λ_ st'=>st'=F.un N0⟩ zb ?_ ?_
 ·refine Qc zb yex (za (o:=(F.un N0).obj b4) _ (zg hN0.h4) (za (o:=(F.un N0).obj b5) _ (zg hN0.h5) (za (o:=(F.un N0).obj b4) _ (zg hN0.h4) (za (o:=(F.un N0).obj b5) _ (zg hN0.h5) ⟨Kc q.1 r hq.1 hr _ _ ⟨Qaa,⟨Kc q.2 r hq.2 hr _ _ ⟨Qaa,⟨Hk (qf q.1 r,qf q.2 r) ⟨sub_q1,sub_q2⟩ _ _ ⟨Qaa,⟨⟨Qaa,⟨⟨Qaa,?_⟩,Tv⟩⟩,Tv⟩⟩,⟨⟨Qaa,⟨Hk (qf q.1 r,qf q.2 r) ⟨sub_q1,sub_q2⟩ _ _ ⟨Qaa,⟨⟨Qaa,?_⟩,Tv⟩⟩,Tv⟩⟩,Tv⟩⟩⟩,⟨⟨Qaa,⟨Kc q.2 r hq.2 hr _ _ ⟨Qaa,⟨Hk (qf q.1 r,qf q.2 r) ⟨sub_q1,sub_q2⟩ _ _ ⟨Qaa,⟨⟨Qaa,?_⟩,Tv⟩⟩,Tv⟩⟩,Tv⟩⟩,Tv⟩⟩⟩,⟨⟨Qaa,⟨Kc q.1 r hq.1 hr _ _ ⟨Qaa,⟨Kc q.2 r hq.2 hr _ _ ⟨Qaa,⟨Hk (qf q.1 r,qf q.2 r) ⟨sub_q1,sub_q2⟩ _ _ ⟨Qaa,⟨⟨Qaa,?_⟩,Tv⟩⟩,Tv⟩⟩,Tv⟩⟩,Tv⟩⟩,Tv⟩⟩))));all_goals exact⟨(),rfl,Qax,⟨rfl,Tv⟩⟩
 rintro _ _ rfl
 refine AWp.meet (σ:=Unit) ⟨λ_=>[(3,.av (ptr b3)),(6,.av (ptr b6)),(7,.av (I8 b3 b4 b5 b6)),(8,.bx 8 0),(9,.bx 9 0)],λ_=>[(8,[int (zx (qf q.1 r,qf q.2 r)).1,int (zx (qf q.1 r,qf q.2 r)).2]),(9,[int (zx (qs q.1 r,qs q.2 r)).1,int (zx (qs q.1 r,qs q.2 r)).2])],
  λ_ st'=>st'=F.un N0⟩ zb ?_ ?_
 ·refine Qc zb yew (za (o:=(F.un N0).obj b4) _ (zg hN0.h4) (za (o:=(F.un N0).obj b5) _ (zg hN0.h5) (za (o:=(F.un N0).obj b4) _ (zg hN0.h4) (za (o:=(F.un N0).obj b5) _ (zg hN0.h5) ⟨K3 q.1 r hq.1 hr _ _ ⟨Qaa,⟨K3 q.2 r hq.2 hr _ _ ⟨Qaa,⟨Hk (qs q.1 r,qs q.2 r) ⟨add_q1,add_q2⟩ _ _ ⟨Qaa,⟨⟨Qaa,⟨⟨Qaa,?_⟩,Tv⟩⟩,Tv⟩⟩,⟨⟨Qaa,⟨Hk (qs q.1 r,qs q.2 r) ⟨add_q1,add_q2⟩ _ _ ⟨Qaa,⟨⟨Qaa,?_⟩,Tv⟩⟩,Tv⟩⟩,Tv⟩⟩⟩,⟨⟨Qaa,⟨K3 q.2 r hq.2 hr _ _ ⟨Qaa,⟨Hk (qs q.1 r,qs q.2 r) ⟨add_q1,add_q2⟩ _ _ ⟨Qaa,⟨⟨Qaa,?_⟩,Tv⟩⟩,Tv⟩⟩,Tv⟩⟩,Tv⟩⟩⟩,⟨⟨Qaa,⟨K3 q.1 r hq.1 hr _ _ ⟨Qaa,⟨K3 q.2 r hq.2 hr _ _ ⟨Qaa,⟨Hk (qs q.1 r,qs q.2 r) ⟨add_q1,add_q2⟩ _ _ ⟨Qaa,⟨⟨Qaa,?_⟩,Tv⟩⟩,Tv⟩⟩,Tv⟩⟩,Tv⟩⟩,Tv⟩⟩))));all_goals exact⟨(),rfl,Qax,⟨rfl,rfl,Tv⟩⟩
 rintro _ _ rfl;have hab:=yha hq hr0 hr1;have hA:=zj1 (p:=(qf q.1 r,qf q.2 r)) ⟨Kt _ _,Kt _ _⟩;have hB:=zj1 (p:=(qs q.1 r,qs q.2 r)) ⟨ek _ _,ek _ _⟩;have hrect:∀e∈l,near q e.2 r=true->_:=λe he hn=>yj1 hq (hok e he) hr0 hr1 hn;generalize zx (qf q.1 r,qf q.2 r)=A0 at*;generalize zx (qs q.1 r,qs q.2 r)=B0 at*;have⟨ax,ay⟩:=A0;have⟨bx,by'⟩:=B0;dsimp only at hab hA hB hrect⊢;refine AWp.meetA (σ:=Store×Store×AV×List Int) ⟨λ_=>[(6,.av (ptr b6))],λ_=>[],λs st'=>st'=s.1.un s.2.1/\zj s.1 s.2.1/\CellsOf s.1 p l/\NearAt s.2.1 b3 b4 b5 b6 p q r s.2.2.1 s.2.2.2/\NearIn l q r (λ_=>True) s.2.2.2⟩ ?_ ?_
 ·have⟨ma,mi,bs1,cl1,G,bs2,cl2,ha,hi⟩:=hc;have hgl:(G.map Al).length<=l.length:=by rw[Fal];exact ynt hi
  have slots:∀b:Bool,LV.le (.av (bool b)) (.av (bool b)):=λb=>Tq;refine AWp.seq (AWp.of_vc zb (za (o:=(F.un N0).obj b3) _ (zg hN0.h3) (za (o:=(F.un N0).obj p) _ (yf hd0 ha.hp) (za (o:=(F.un N0).obj mi) _ (yf hd0 ha.hi) ⟨⟨θ,θ⟩,?_⟩))))
  refine AWp.meet (σ:=Bool) ⟨λb=>[(3,.av (ptr b3)),(6,.av (ptr b6)),(7,.av (I8 b3 b4 b5 b6)),(8,.bx 8 0),(9,.bx 9 0),(77,.av (bool b))],λ_=>[(8,[int ax,int ay]),(9,[int bx,int by'])],
   λb st'=>st'=F.un N0⟩ zb ?_ ?_
  ·refine⟨⟨θ,θ⟩,bcd (λd1=>?_) (λd1=>?_)⟩
   ·exact⟨true,rfl,Qax,⟨rfl,rfl,Tv⟩⟩
   refine⟨⟨θ,θ⟩,bcd (λd2=>?_) (λd2=>?_)⟩
   ·exact⟨true,rfl,Qax,⟨rfl,rfl,Tv⟩⟩
   have m1:(bx-ax+1)*(by'-ay+1)<=1000000002*1000000002:=Fbo θ θ θ ψ;have m0:0<=(bx-ax+1)*(by'-ay+1):=Fa8 θ θ;exact⟨⟨θ,θ⟩,⟨⟨θ,θ⟩,⟨⟨θ,θ⟩,⟨⟨θ,θ⟩,⟨⟨θ,θ⟩,⟨_,rfl,⟨Tq,Tq,Tq,Tq,Tq,Tq,Tv⟩,⟨rfl,rfl,Tv⟩⟩⟩⟩⟩⟩⟩
  rintro b _ rfl;refine AWp.of_vc zb ?_;cases b with
  |true=>
   refine za (o:=(F.un N0).obj b3) _ (zg hN0.h3) (za (o:=(F.un N0).obj p) _ (yf hd0 ha.hp) (yus (yf hd0 ha.ha) (λhst=>yut rfl (it:=ti235) rfl rfl (yf hd0 ha.ha) (λbi hbi=>?_))));have fbi:=fresh_un hbi;have nbi:¬N0.has bi:=fresh_iff.1 fbi.2;rw[Fs nbi]
   refine AWp.loop (σ:=List Nat×Store×AV×List Int) ⟨λ_=>[(6,.av (ptr b6)),(7,.av (I8 b3 b4 b5 b6)),(82,.av (ptr bi))],λ_=>[],
    λs st'=>st'=(F.sO bi (.iter ma cl1 s.1 cl1)).un s.2.1/\zj (F.sO bi (.iter ma cl1 s.1 cl1)) s.2.1/\NearAt s.2.1 b3 b4 b5 b6 p q r s.2.2.1 s.2.2.2/\s.1.Nodup/\(∀t∈s.1,t∈bs1)∧
     NearIn l q r (λe=>∃(i t:Nat),l[i]?=some e/\bs1[i]?=some t/\t∈s.1) s.2.2.2,λs=>bs1.length-s.1.length⟩ zb ?_ ?_
   ·exact⟨([],N0,_,[]),Tv,⟨rfl,tv hd0 nbi,hN0,Fd9,(λt ht=>(by cases ht)),Fd9,λid=>⟨(λh=>ω),λ⟨e,_,_,_,i,t,_,_,h⟩=>ω⟩⟩,⟨Tq,Tq,Tq,Tv⟩,Tv⟩
   rintro⟨seen,N,v,acc⟩ st' ⟨rfl,hd,hN,hs1,hs2,hacc⟩;dsimp only at hd hN hs1 hs2 hacc⊢;have hF1:CellsAt (F.sO bi (.iter ma cl1 seen cl1)) p ma mi l bs1 cl1 G bs2 cl2:=ha.fresh _ fbi.1;refine yuu rfl (yf hd (zd _ _ _)) (yf hd hF1.ha) (λhall=>?_) (λi e t he ht hnt=>?_)
   ·refine⟨(F.sO bi (.iter ma cl1 seen cl1),N,v,acc),⟨rfl,hd,⟨ma,mi,_,_,_,_,_,hF1,hi⟩,hN,?_⟩,⟨Tq,Tv⟩,Tv⟩;refine hacc.congr λe he _=>⟨λ_=>trivial,λ_=>?_⟩
    have⟨i,hi'⟩:=Fbb.1 he;have hlt:i<bs1.length:=by have h1:=hst.len;have h2:=(Fax.1 hi').1;rw[Fal]at h1;omega
    exact⟨i,bs1[i],hi',Fab hlt,hall _ (Faa hlt)⟩
   ·obtain⟨e0,he0,rfl⟩:∃e0,l[i]?=some e0/\Am e0=e:=by
     rw[Far]at he;cases hx:l[i]? with
     |none=>rw[hx]at he;cases he
     |some e0=>rw[hx]at he;simp at he;exact⟨e0,rfl,he⟩
    have hem:=Fa4 he0;have⟨hd',nb⟩:=yrl (y:=.iter ma cl1 (seen++[t]) cl1) hd;have hF2:CellsAt (F.sO bi (.iter ma cl1 (seen++[t]) cl1)) p ma mi l bs1 cl1 G bs2 cl2:=ha.fresh _ fbi.1;rw[Fs nb,yw];refine yux rfl (yf hd' (zd _ _ _)) (yf hd' hF2.ha) he ht (zca hd' ⟨ma,mi,_,_,_,_,_,hF2,hi⟩ hN hq hr1 (zh7 hi.n1 hem) (hok _ hem) (by have:=hacc.len;omega) _ (λN' v' hdd hN'=>⟨(seen++[t],N',v',_),?_,⟨rfl,hdd,hN',?_,?_,?_⟩,⟨Tq,Tq,Tq,Tv⟩,Tv⟩))
    ·have h1:(seen++[t]).Nodup:=by
      rw[Fdq];exact⟨hs1,φ,λa ha b hb=>by simp at hb;subst hb;exact λe=>hnt (e▸ha)⟩
     have h2:=Fb2 (l₂:=bs1) h1 (λx hx=>by
      rcases Faq.1 hx with hx|hx
      ·exact hs2 x hx
      ·simp at hx;subst hx;exact Fa4 ht)
     rw[Fac]at h2;show bs1.length-(seen++[t]).length<bs1.length-seen.length;rw[Fac];simp at h2⊢;omega
    ·show(seen++[t]).Nodup;rw[Fdq];exact⟨hs1,φ,λa ha b hb=>by simp at hb;subst hb;exact λe=>hnt (e▸ha)⟩
    ·intro x hx;rcases Faq.1 hx with hx|hx
     ·exact hs2 x hx
     ·simp at hx;subst hx;exact Fa4 ht
    ·refine(hacc.step hi.n1 hem (λhh=>?_)).congr λe' he' _=>⟨λhh=>?_,λhh=>?_⟩
     ·have⟨i',t',h1,h2,h3⟩:=hh;have:=Gq (f:=λe:Ent=>e.1) hi.n1 h1 he0 rfl;subst this;rw[ht]at h2;cases h2;exact hnt h3
     ·rcases hh with⟨i',t',h1,h2,h3⟩|rfl
      ·exact⟨i',t',h1,h2,List.mem_append_left _ h3⟩
      ·exact⟨i,t,he0,ht,φ⟩
     ·have⟨i',t',h1,h2,h3⟩:=hh;rcases Faq.1 h3 with h3|h3
      ·exact .inl ⟨i',t',h1,h2,h3⟩
      ·simp at h3;subst h3;right;have hinc:=hst.inc;have:i'=i:=by
        have hn:(bs1.map id).Nodup:=by rw[List.map_id];exact hinc.imp λh e=>θ
        exact Gq (f:=id) hn h2 ht rfl
       subst this;rw[he0]at h1;cases h1;rfl
  |false=>
   refine AWp.loop (σ:=Int×Store×AV×List Int) ⟨λs=>[(3,.av (ptr b3)),(6,.av (ptr b6)),(7,.av (I8 b3 b4 b5 b6)),(8,.bx 8 0),(9,.bx 9 0),(12,.av (int s.1))],λ_=>[(8,[int ax,int ay]),(9,[int bx,int by'])],
    λs st'=>st'=F.un s.2.1/\zj F s.2.1/\NearAt s.2.1 b3 b4 b5 b6 p q r s.2.2.1 s.2.2.2/\(ax<=s.1/\s.1<=bx+1)/\NearIn l q r (λe=>(zx e.2).1<s.1) s.2.2.2,λs=>(bx+1-s.1).toNat⟩ zb ?_ ?_
   ·refine⟨(ax,N0,_,[]),Tv,⟨rfl,hd0,hN0,⟨Fcr _,θ⟩,Fd9,λid=>⟨(λh=>ω),λ⟨e,he,_,hn,h⟩=>?_⟩⟩,⟨Tq,Tq,Tq,Tq,Tq,Tq,Tv⟩,⟨rfl,rfl,Tv⟩⟩;have:=hrect e he hn;dsimp only at h;omega
   rintro⟨x,N,v,acc⟩ st' ⟨rfl,hd,hN,hx,hacc⟩;dsimp only at hd hN hx hacc⊢;refine bcd (λx1=>?_) (λx1=>?_);rotate_left
   ·refine⟨(F,N,v,acc),⟨rfl,hd,⟨ma,mi,_,_,_,_,_,ha,hi⟩,hN,?_⟩,⟨Tq,Tv⟩,Tv⟩;refine hacc.congr λe he hn=>⟨λ_=>trivial,λ_=>?_⟩
    have:=hrect e he hn;omega
   refine AWp.loop (σ:=Int×Store×AV×List Int) ⟨λs=>[(3,.av (ptr b3)),(6,.av (ptr b6)),(7,.av (I8 b3 b4 b5 b6)),(8,.bx 8 0),(9,.bx 9 0),(12,.av (int x)),(13,.av (int s.1))],λ_=>[(8,[int ax,int ay]),(9,[int bx,int by'])],
    λs st'=>st'=F.un s.2.1/\zj F s.2.1/\NearAt s.2.1 b3 b4 b5 b6 p q r s.2.2.1 s.2.2.2/\(ay<=s.1/\s.1<=by'+1)/\NearIn l q r (λe=>(zx e.2).1<x\/((zx e.2).1=x/\(zx e.2).2<s.1)) s.2.2.2,λs=>(by'+1-s.1).toNat⟩ zb ?_ ?_
   ·refine⟨(ay,N,v,acc),Tv,⟨rfl,hd,hN,⟨Fcr _,θ⟩,hacc.congr λe he hn=>⟨.inl,λh=>h.elim id λh=>?_⟩⟩,Qax,⟨rfl,rfl,Tv⟩⟩;have:=hrect e he hn;dsimp only at h;omega
   clear hN hacc hd;rintro⟨y,N,v,acc⟩ st' ⟨rfl,hd,hN,hy,hacc⟩;dsimp only at hd hN hy hacc⊢;refine bcd (λy1=>?_) (λy1=>?_);rotate_left
   ·refine⟨⟨θ,θ⟩,⟨(x+1,N,v,acc),?_,⟨rfl,hd,hN,ξ,hacc.congr λe he hn=>?_⟩,Qax,⟨rfl,rfl,Tv⟩⟩⟩
    ·show(bx+1-(x+1)).toNat<(bx+1-x).toNat;omega
    ·have:=hrect e he hn;dsimp only;omega
   refine za (o:=(F.un N).obj b3) _ (zg hN.h3) (za (o:=(F.un N).obj p) _ (yf hd ha.hp) (Ar rfl (it:=ti236) (ie:=ti29) (ik:=ti91) rfl rfl rfl rfl (yf hd ha.hi) rfl (qG x y) (λe he=>?_) ?_))
   ·obtain⟨e,_,rfl⟩:=Fag.1 he;rfl
   rw[Sq G (x,y),show Fm ti29=.s (.slice none 0 0)from rfl];cases hf:G.find? (H7 (x,y))with
   |none=>
    refine AWp.loop (σ:=Unit) ⟨λ_=>[(3,.av (ptr b3)),(6,.av (ptr b6)),(7,.av (I8 b3 b4 b5 b6)),(8,.bx 8 0),(9,.bx 9 0),(12,.av (int x)),(13,.av (int y)),(114,.av (int 0)),(115,.av (int 0))],λ_=>[(8,[int ax,int ay]),(9,[int bx,int by'])],
     λ_ st'=>st'=F.un N,λ_=>0⟩ zb ?_ ?_
    ·exact⟨(),Tv,rfl,Qax,⟨rfl,rfl,Tv⟩⟩
    rintro _ st' rfl
    ·refine⟨⟨θ,θ⟩,⟨(y+1,N,v,acc),?_,⟨rfl,hd,hN,ξ,hacc.congr λe he hn=>?_⟩,Qax,⟨rfl,rfl,Tv⟩⟩⟩
     ·show(by'+1-(y+1)).toNat<(by'+1-y).toNat;omega
     ·have hne:zx e.2≠(x,y):=λhk=>by
       have⟨g,hg,hgk⟩:=hi.m2 e he;exact Fem.1 hf g hg (atKey_iff.2 (by rw[hgk,hk]))
      have:¬((zx e.2).1=x/\(zx e.2).2=y):=λ⟨h1,h2⟩=>hne (Prod.ext h1 h2);dsimp only;omega
   |some g=>
    have⟨hg,hgk⟩:=d9 hf;have hgk:=atKey_iff.1 hgk;have⟨k1,k2,k3⟩:=ha.hg g hg;have gs:=(hi.s g hg).1;have gl:=tz hi g hg
    refine AWp.loop (σ:=Nat×Store×AV×List Int) ⟨λs=>[(3,.av (ptr b3)),(6,.av (ptr b6)),(7,.av (I8 b3 b4 b5 b6)),(8,.bx 8 0),(9,.bx 9 0),(12,.av (int x)),(13,.av (int y)),(113,.av (.s (.slice (some ⟨g.b,0,none⟩) g.ns.length g.cap))),(114,.av (int g.ns.length)),(115,.av (int (s.1:Nat)))],
     λ_=>[(8,[int ax,int ay]),(9,[int bx,int by'])],
     λs st'=>st'=F.un s.2.1/\zj F s.2.1/\NearAt s.2.1 b3 b4 b5 b6 p q r s.2.2.1 s.2.2.2/\s.1<=g.ns.length/\NearIn l q r (λe=>((zx e.2).1<x\/((zx e.2).1=x/\(zx e.2).2<y))\/(zx e.2=(x,y)/\e.1∈g.ns.take s.1)) s.2.2.2,λs=>g.ns.length-s.1⟩ zb ?_ ?_
    ·exact⟨(0,N,v,acc),Tv,⟨rfl,hd,hN,Fae _,hacc.congr λe he hn=>⟨.inl,λh=>h.elim id λh=>(by cases h.2)⟩⟩,Qax,⟨rfl,rfl,Tv⟩⟩
    clear hN hacc hd;rintro⟨idx,N,v,acc⟩ st' ⟨rfl,hd,hN,hidx,hacc⟩;dsimp only at hd hN hidx hacc⊢;refine bcd (λz1=>?_) (λz1=>?_);rotate_left
    ·have hie:idx=g.ns.length:=θ;subst hie;refine⟨⟨θ,θ⟩,⟨(y+1,N,v,acc),?_,⟨rfl,hd,hN,ξ,hacc.congr λe he hn=>?_⟩,Qax,⟨rfl,rfl,Tv⟩⟩⟩
     ·show(by'+1-(y+1)).toNat<(by'+1-y).toNat;omega
     ·rw[Faj];have h1:zx e.2=(x,y)↔((zx e.2).1=x/\(zx e.2).2=y):=⟨λh=>by rw[h];exact⟨rfl,rfl⟩,λ⟨h1,h2⟩=>Prod.ext h1 h2⟩
      have h2:zx e.2=(x,y)->e.1∈g.ns:=λh=>(hi.m1 g hg e.1).2 ⟨e,he,rfl,by rw[h,hgk]⟩;dsimp only;constructor
      ·rintro(h|⟨h,_⟩)
       ·omega
       ·have:=h1.1 h;omega
      ·intro h;by_cases h3:zx e.2=(x,y)
       ·exact .inr ⟨h3,h2 h3⟩
       ·have h4:¬((zx e.2).1=x/\(zx e.2).2=y):=λhh=>h3 (h1.2 hh);left;omega
    have hlt:idx<g.ns.length:=θ;have hidm:g.ns[idx]∈g.ns:=Faa hlt;have⟨e,hem,heid,hek⟩:=(hi.m1 g hg g.ns[idx]).1 hidm;refine⟨idx,rfl,hlt,za (o:=(F.un N).obj g.b) _ (yf hd k1) ?_⟩;refine za (o:=List.head? _) (int e.1) (by rw[Fcq,show 0+idx*ti2.size=idx from by show 0+idx*1=idx;omega,Fa5 (by simpa using hlt),Far,Fab hlt,heid];rfl) ?_;refine zca hd ⟨ma,mi,_,_,_,_,_,ha,hi⟩ hN hq hr1 (zh7 hi.n1 hem) (hok _ hem) (by have:=hacc.len;omega) _ (λN' v' hdd hN'=>⟨⟨θ,θ⟩,⟨(idx+1,N',v',_),?_,⟨rfl,hdd,hN',hlt,?_⟩,⟨Tq,Tq,Tq,Tq,Tq,Tq,Tq,Tq,Tq,Tq,Tv⟩,⟨rfl,rfl,Tv⟩⟩⟩)
    ·show g.ns.length-(idx+1)<g.ns.length-idx;omega
    ·have hkey:zx e.2=(x,y):=by rw[hek,hgk]
     have hnot:e.1∉g.ns.take idx:=by
      rw[heid];intro hh;have⟨j,hj⟩:=Fbb.1 hh;have hjlt:j<idx:=by have:=(Fax.1 hj).1;simp at this;omega
      rw[Fcg hjlt]at hj;have h5:=Fbz.1 gs j idx θ hlt hjlt;rw[Fab θ]at hj;have hj':=Option.some.inj hj;rw[hj']at h5;exact absurd h5 (Int.lt_irrefl _)
     refine(hacc.step hi.n1 hem (λhh=>?_)).congr λe' he' _=>?_
     ·rcases hh with hh|⟨_,hh⟩
      ·rw[hkey]at hh;dsimp only at hh;omega
      ·exact hnot hh
     ·dsimp only;rw[Fad hlt,Faq];constructor
      ·rintro((h|⟨h,h'⟩)|rfl)
       ·exact .inl h
       ·exact .inr ⟨h,.inl h'⟩
       ·exact .inr ⟨hkey,.inr (by simp[heid])⟩
      ·rintro(h|⟨h,h'|h'⟩)
       ·exact .inl (.inl h)
       ·exact .inl (.inr ⟨h,h'⟩)
       ·right;have:e'.1=e.1:=by rw[heid];simpa using h'
        exact Se hi.n1 hem he' this
 ·rintro⟨F',N,v,acc⟩ st' ⟨rfl,hd,hc',hN,hacc⟩;dsimp only at hd hc' hN hacc⊢;refine AWp.of_vc zb (za (o:=(F'.un N).obj b6) _ (zg hN.h6) ?_);have hms:=ykn hacc.1;have hnear:Vh l q r (acc.mergeSort λx y=>decide (x<=y)):=⟨hms.1,λid=>by
   rw[hms.2,hacc.2 id];constructor
   ·rintro⟨e,h1,h2,h3,_⟩;exact⟨e,h1,h2,h3⟩
   ·rintro⟨e,h1,h2,h3⟩;exact⟨e,h1,h2,h3,Tv⟩⟩
  have hal:=hacc.len;have hml:(acc.mergeSort λx y=>decide (x<=y)).length=acc.length:=List.length_mergeSort acc;rcases Sa hN.hv with⟨rfl,rfl⟩|⟨b,cap,L,rfl,ho,h1,h2,h3⟩
  ·refine yax _ (za (o:=(F'.un N).obj b6) _ (zg hN.h6) (Ch (i:=ti29) (v:=.s (.slice none 0 0)) (b:=b6) (o:=0) (l:=[.s (.slice none 0 0)]) rfl rfl rfl (zg hN.h6) (Fah _) (za (o:=Store.obj (Store.sO _ b6 _) b6) _ (zd _ _ _) (ret ?_))));rw[zy];exact h F' _ _ _ hc' (O3 hd hN.h6) (.inl ⟨rfl,φ⟩) hnear
  ·refine yaw (zg ho) θ _ ?_;have hb6:b6≠b:=Ne.symm (hN.nv b _ _ rfl).2.2.2;have h6:((F'.un N).sO b (.cells ((acc.mergeSort λx y=>decide (x<=y)).map aI++L))).obj b6=some (.cells [.s (.slice (some ⟨b,0,none⟩) acc.length cap)]):=by rw[zf hb6];exact zg hN.h6
   refine za (o:=Store.obj (Store.sO _ b _) b6) _ h6 (Ch (i:=ti29) (v:=.s (.slice (some ⟨b,0,none⟩) acc.length cap)) (b:=b6) (o:=0) (l:=[.s (.slice (some ⟨b,0,none⟩) acc.length cap)]) rfl rfl rfl h6 (Fah _) (za (o:=Store.obj (Store.sO _ b6 _) b6) _ (zd _ _ _) (ret ?_)));rw[zy,zy];refine h F' _ _ _ hc' (O3 (O3 hd ho) (by rw[zf hb6];exact hN.h6)) (.inr ⟨b,cap,L,?_,?_,?_,?_,h3⟩) hnear
   ·rw[hml];rfl
   ·rw[zf (Ne.symm hb6)];exact zd _ _ _
   ·omega
   ·omega
end
def ymc(l:List Int)(hl:l.length<=1000000000000)(fn:FuncId)(cap:List AV)(q:Int->Bool)(st:Store)(hf:∀x∈l,∀R:AV->Store->Prop,R (bool (q x)) st->Jb fn ([int x]++cap) st R)
  (R:Ja) (h:R (int (Cl (l.findIdx? q))) st):Jb 218 [lst 1 zn l,.clos fn cap] st R:=by
 refine Qy 19 Tryz.func218 ?_
 refine AWp.loop (σ:=Nat) ⟨λi=>[(0,.av (lst 1 zn l)),(1,.av (.clos fn cap)),(7,.av (int (l.length:Nat))),(8,.av (int (i:Nat)))],λ_=>[],
  λi st'=>i<=l.length/\st'=st/\∀j,(hj:j<l.length)->j<i->q l[j]=false,λi=>l.length-i⟩ zb ?_ ?_
 ·refine⟨0,Tv,⟨Fae _,rfl,λj _ hj=>θ⟩,⟨Tq,Tq,?_,Tq,Tv⟩,Tv⟩;rw[<-zi (f:=zn) l];exact Tq
 rintro i st' ⟨hi,rfl,hall⟩;refine bcd (λh1=>?_) (λh1=>?_);rotate_left
 ·have e:l.findIdx? q=none:=by
   rw[Fb7];intro x hx;obtain⟨j,hj,rfl⟩:=Faf hx;exact hall j hj θ
  rw[e]at h;exact ret h
 have hlt:i<l.length:=θ;refine⟨i,rfl,za _ (zp hlt) (hf l[i] (Faa hlt) _ (zk (λh2=>?_) (λh2=>?_)))⟩
 ·have e:l.findIdx? q=some i:=by
   rw[Fba];exact⟨hlt,h2,λj hj=>ψf⟩
  rw[e]at h;exact ret h
 ·refine Qd ⟨i+1,?_,⟨θ,rfl,λj hj hj2=>?_⟩,Qax,Tv⟩
  ·show l.length-(i+1)<l.length-i;omega
  ·by_cases e:j=i
   ·subst e;exact h2
   ·exact hall j hj θ
def ymd(l:List Int)(hl:l.length<=1000000000000)(fn:FuncId)(cap:List AV)(q:Int->Bool)(st:Store)(hf:∀x∈l,∀R:AV->Store->Prop,R (bool (q x)) st->Jb fn ([int x]++cap) st R)
  (R:Ja) (h:R (bool (l.any q)) st):Jb 181 [lst 1 zn l,.clos fn cap] st R:=by
 refine Qy 9 Tryz.func181 ?_;refine ymc l hl fn cap q st hf _ ?_;have e:decide ((0:Int)<=Cl (l.findIdx? q))=l.any q:=by
  cases hx:l.findIdx? q with
  |none=>
   rw[Fb7]at hx;rw[show decide ((0:Int)<=Cl none)=false from ψ];symm;rw[Fd8];intro x hm;rw[hx x hm];decide
  |some i=>
   rw[Fba]at hx;have⟨hi,h1,_⟩:=hx;rw[show decide ((0:Int)<=Cl (some i))=true from by simp[Cl]];symm;rw[List.any_eq_true];exact⟨l[i],Faa hi,h1⟩
 rw[<-e]at h;exact ret h
def zke(l:List Bld)(hl:l.length<=1000000000000)(fn:FuncId)(cap:List AV)(q:Bld->Bool)(st:Store)(hf:∀x∈l,∀R:AV->Store->Prop,R (bool (q x)) st->Jb fn ([.agg (zl x)]++cap) st R)
  (R:Ja) (h:R (int (Cl (l.findIdx? q))) st):Jb 144 [lst 6 zl l,.clos fn cap] st R:=by
 refine Qy 19 Tryz.func144 ?_
 refine AWp.loop (σ:=Nat) ⟨λi=>[(0,.av (lst 6 zl l)),(1,.av (.clos fn cap)),(7,.av (int (l.length:Nat))),(8,.av (int (i:Nat)))],λ_=>[],
  λi st'=>i<=l.length/\st'=st/\∀j,(hj:j<l.length)->j<i->q l[j]=false,λi=>l.length-i⟩ zb ?_ ?_
 ·refine⟨0,Tv,⟨Fae _,rfl,λj _ hj=>θ⟩,⟨Tq,Tq,?_,Tq,Tv⟩,Tv⟩;rw[<-zi (f:=zl) l];exact Tq
 rintro i st' ⟨hi,rfl,hall⟩;refine bcd (λh1=>?_) (λh1=>?_);rotate_left
 ·have e:l.findIdx? q=none:=by
   rw[Fb7];intro x hx;obtain⟨j,hj,rfl⟩:=Faf hx;exact hall j hj θ
  rw[e]at h;exact ret h
 have hlt:i<l.length:=θ;refine⟨i,rfl,za _ (zp hlt) (hf l[i] (Faa hlt) _ (zk (λh2=>?_) (λh2=>?_)))⟩
 ·have e:l.findIdx? q=some i:=by
   rw[Fba];exact⟨hlt,h2,λj hj=>ψf⟩
  rw[e]at h;exact ret h
 ·refine Qd ⟨i+1,?_,⟨θ,rfl,λj hj hj2=>?_⟩,Qax,Tv⟩
  ·show l.length-(i+1)<l.length-i;omega
  ·by_cases e:j=i
   ·subst e;exact h2
   ·exact hall j hj θ
def zkf(l:List Bld)(hl:l.length<=1000000000000)(fn:FuncId)(cap:List AV)(q:Bld->Bool)(st:Store)(hf:∀x∈l,∀R:AV->Store->Prop,R (bool (q x)) st->Jb fn ([.agg (zl x)]++cap) st R)
  (R:Ja) (h:R (bool (l.any q)) st):Jb 109 [lst 6 zl l,.clos fn cap] st R:=by
 refine Qy 9 Tryz.func109 ?_;refine zke l hl fn cap q st hf _ ?_;have e:decide ((0:Int)<=Cl (l.findIdx? q))=l.any q:=by
  cases hx:l.findIdx? q with
  |none=>
   rw[Fb7]at hx;rw[show decide ((0:Int)<=Cl none)=false from ψ];symm;rw[Fd8];intro x hm;rw[hx x hm];decide
  |some i=>
   rw[Fba]at hx;have⟨hi,h1,_⟩:=hx;rw[show decide ((0:Int)<=Cl (some i))=true from by simp[Cl]];symm;rw[List.any_eq_true];exact⟨l[i],Faa hi,h1⟩
 rw[<-e]at h;exact ret h
def ypl(g:Gnd)(p:Nat)(t:Nat)(ht:t<g.T.length)(st:Store)(hp:st.obj p=some (.cells (zw g)))(R:Ja)(h:R (bool (decide ((g.T.getD t 0).toNat>1))) st):
  Jb 182 ([int (t:Nat)]++[ptr p]) st R:=by
 have hget:g.T.getD t 0=g.T[t]:=by simp[ht]
 rw[hget]at h;refine Qy 10 Tryz.func182 ?_;refine za _ hp ?_;refine⟨t,rfl,za _ (zp ht) (ret ?_)⟩;have e:decide ((1:Int)<(g.T[t].toNat:Int))=decide (g.T[t].toNat>1):=δ;rw[<-e]at h;exact h
def zkj(g:Gnd)(hg:zv g)(b:Bld)(hb:qh b/\onP g b)(st:Store)(R:Ja)(h:∀z:Bool,(z=true↔Hw g b)->R (bool z) st):
  Jb 143 [.agg (zw g),.agg (zl b)] st R:=by
 have hm:=xj hg;refine Qa (c:=cfg 11 [2] []) zb Tryz.func143 ?_;intro p hp;have ho:(st.sO p (.cells (zw g))).obj p=some (.cells (zw g)):=zd _ _ _;refine za _ ho (Vz g hg b hb _ _ ?_);have hl:(Au g.W b).length<=1000000000000:=by unfold Au;rw[ln];have hb':=hb.1;unfold qh at hb';have:b.h.toNat*b.w.toNat<=4*4:=Fde θ θ;omega
 refine ymd (Au g.W b) hl _ _ (λx=>decide ((g.T.getD x.toNat 0).toNat>1)) _ (λx hx R h=>?_) _ ?_
 ·obtain⟨n,rfl,hn,hh⟩:=(Il hg hb.1 hb.2 x).1 hx;exact ypl g p n θ _ ho R δ
 refine Bu (Tt) (Fe hp.1) (h _ ?_);unfold Hw;rw[Fcf,Fd8];constructor
 ·intro hh t ht hb2;have:=hh (t:Int) ((Il hg hb.1 hb.2 _).2 ⟨t,rfl,θ,hb2⟩);grind
 ·intro hh x hx;obtain⟨n,rfl,hn,hb2⟩:=(Il hg hb.1 hb.2 x).1 hx;grind
def blV(b n:Nat):AV:=.s (.slice (some ⟨b,0,none⟩) n n)
def zi6(g:Gnd)(hg:zv g)(l:List Bld)(hl:l.length<=1000000000000)(hb:∀b∈l,qh b/\onP g b)(st:Store)(R:Ja)
  (h:∀b,Fresh st b->R (blV b g.T.length) (st.sO b (.cells (bl g.T.length (xo g l))))):Jb 34 [.agg (zw g),lst 6 zl l] st R:=by
 have ha:=xj hg;have hT:((rws u8C g.T).length:Int)=(g.T.length:Int):=by rw[zi]
 refine Qy 34 Tryz.func34 ?_;refine K1 rfl (it:=ti32) (ie:=ti4) rfl rfl rfl rfl rfl (n:=(rws u8C g.T).length) ?_ ?_ (λb hf=>?_)
 ·rw[zi];show 1*_<=_;omega
 ·omega
 rw[zi,f8]
 refine AWp.loop (σ:=Nat) ⟨λi=>[(2,.bx 2 0),(5,.av (blV b g.T.length)),(14,.av (lst 6 zl l)),(15,.av (int (l.length:Nat))),(16,.av (int (i:Nat)))],λ_=>[(2,zw g)],
  λi st'=>i<=l.length/\st'=st.sO b (.cells (bl g.T.length (xo g (l.take i)))),λi=>l.length-i⟩ zb ?_ ?_
 ·refine⟨0,Tv,⟨Fae _,rfl⟩,⟨Tq,Tq,Tq,?_,Tq,Tv⟩,⟨rfl,Tv⟩⟩;rw[<-zi (f:=zl) l];exact Tq
 rintro i st' ⟨hi,rfl⟩;refine bcd (λh1=>?_) (λh1=>?_);rotate_left
 ·have:i=l.length:=θ;subst this;rw[Faj];exact ret (h b hf)
 have hlt:i<l.length:=θ;have hbi:=hb l[i] (Faa hlt);refine⟨i,rfl,za _ (zp hlt) (Vz g hg l[i] hbi _ _ ?_)⟩;have hcov:=λ(t:Nat) (ht:t<g.T.length)=>zi9 hg hlt hbi ht;have hmem:=Il hg hbi.1 hbi.2;have h0:=zi7 g l i (Au g.W l[i]);have hts:=lr g.W hbi.1;generalize Au g.W l[i]=ts at*
 refine AWp.loop (σ:=Nat) ⟨λk=>[(2,.bx 2 0),(5,.av (blV b g.T.length)),(14,.av (lst 6 zl l)),(15,.av (int (l.length:Nat))),(16,.av (int (i:Nat))),(22,.av (yc ts)),(23,.av (int (ts.length:Nat))),(24,.av (int (k:Nat)))],λ_=>[(2,zw g)],
  λk st'=>k<=ts.length/\st'=st.sO b (.cells (bl g.T.length (wj g l i ts k))),λk=>ts.length-k⟩ zb ?_ ?_
 ·refine⟨0,Tv,⟨Fae _,?_⟩,⟨Tq,Tq,Tq,Tq,Tq,Tq,?_,Tq,Tv⟩,⟨rfl,Tv⟩⟩
  ·rw[show wj g l i ts 0=xo g (l.take i)from funext h0]
  ·rw[<-zi (f:=zn) ts];exact Tq
 rintro k st' ⟨hk,rfl⟩;refine bcd (λh2=>?_) (λh2=>?_);rotate_left
 ·have:k=ts.length:=θ;subst this;refine Qd ⟨i+1,?_,⟨θ,?_⟩,Qax,⟨rfl,Tv⟩⟩
  ·grind
  grind[bl,List.map_congr_left]
 have hklt:k<ts.length:=θ;have⟨n,hn,hn2,hn3⟩:=(hmem ts[k]).1 (Faa hklt);have hnl:n<g.T.length:=θ;have⟨s1,s2⟩:=zi8 (g:=g) (l:=l) (i:=i) hklt hn;refine⟨k,rfl,za _ (zp hklt) ⟨n,hn,hnl,ye (i:=ti4) (v:=bool true) (b:=b) (o:=0+n*1) (l:=bl g.T.length (wj g l i ts k)) (st2:=st.sO b (.cells (bl g.T.length (wj g l i ts (k+1))))) rfl rfl rfl (zd _ _ _) θp ?_ ?_⟩⟩
 ·grind[yw,Pa]
 refine Qd ⟨k+1,?_,⟨θ,rfl⟩,Qax,⟨rfl,Tv⟩⟩;grind
theorem ze7(n:Nat)(f:Nat->Bool):(rws qu (blL n f)).flatten++[]=bl n f:=by rw[Fbi,ytn]
def opV(g:Gnd)(l:List Bld)(c:Int):AV:=lst 1 qu (blL g.T.length (qd g l c))
def Fc(g:Gnd)(l:List Bld)(c:Int)(i t:Nat):Bool:=if t<i then qd g l c t else xo g l t
def Mr(g:Gnd)(hg:zv g)(l:List Bld)(hl:l.length<=1000000000000)(hb:∀b∈l,qh b/\onP g b)(c:Int)(st:Store)(R:Ja)(h:R (opV g l c) st):
  Jb 152 [.agg (zw g),lst 6 zl l,int c] st R:=by
 have ha:=xj hg;refine Qb (c:=cfg 37) zb Tryz.func152 (AWp.seq (AWp.of_vc zb ?_));refine AWp.seq (AWp.of_vc zb (zi6 g hg l hl hb _ _ (λb hf=>?_)));have step:∀i,i<g.T.length->Fc g l c (i+1) i=qd g l c i/\∀s,s≠i->Fc g l c (i+1) s=Fc g l c i s:=λi hi=>by unfold Fc;grind
 refine AWp.meetA (σ:=Unit) ⟨λ_=>[(7,.av (blV b g.T.length))],λ_=>[],λ_ st'=>st'=st.sO b (.cells (bl g.T.length (qd g l c)))⟩ ?_ ?_
 ·refine AWp.of_vc zb ?_
  refine AWp.loop (σ:=Nat) ⟨λi=>[(2,.av (int c)),(3,.bx 3 0),(7,.av (blV b g.T.length)),(13,.av (blV b g.T.length)),(14,.av (int (g.T.length:Nat))),(15,.av (int (i:Nat)))],λ_=>[(3,zw g)],
   λi st'=>i<=g.T.length/\st'=st.sO b (.cells (bl g.T.length (Fc g l c i))),λi=>g.T.length-i⟩ zb ?_ ?_
  ·refine⟨0,Tv,⟨Fae _,?_⟩,Qax,⟨rfl,Tv⟩⟩;rfl
  rintro i st' ⟨hi,rfl⟩;refine bcd (λh1=>?_) (λh1=>?_);rotate_left
  ·have:i=g.T.length:=θ;subst this;refine⟨(),?_,⟨Tq,Tv⟩,Tv⟩;have:bl g.T.length (Fc g l c g.T.length)=bl g.T.length (qd g l c):=by simp_all[bl,Fc]
   rw[this]
  have hlt:i<g.T.length:=θ;have⟨s1,s2⟩:=step i hlt;have ho:(st.sO b (.cells (bl g.T.length (Fc g l c i)))).obj b=some (.cells (bl g.T.length (Fc g l c i))):=zd _ _ _;have hmid:Fc g l c i i=xo g l i:=if_neg (Nat.lt_irrefl i);have hhead:((bl g.T.length (Fc g l c i)).drop (0+i*1)).head?=some (bool (xo g l i)):=by grind[List.head?_drop,Ky]
  refine⟨i,rfl,hlt,za _ ho (za _ hhead ?_)⟩;have hti:g.T[i].toNat<=5:=hg.2.2.2 _ (Faa hlt);have hget:g.T.getD i 0=g.T[i]:=by simp[hlt]
  refine zk (λc1=>?_) (λc1=>?_)
  ·have c1:xo g l i=false:=by grind
   refine⟨i,rfl,za _ (zp hlt) (nr c g.T[i] hti _ _ ?_)⟩;have hz:decide (0<Fw c g.T[i].toNat)=qd g l c i:=by unfold qd;grind
   refine⟨i,rfl,hlt,ye (i:=ti4) (v:=bool (decide (0<Fw c g.T[i].toNat))) (b:=b) (o:=0+i*1) (l:=_) (st2:=st.sO b (.cells (bl g.T.length (Fc g l c (i+1))))) rfl rfl rfl ho θp (by grind[yw,Pa]) (Qd ⟨i+1,?_,⟨θ,rfl⟩,Qax,⟨rfl,Tv⟩⟩)⟩;grind
  ·have c1:xo g l i=true:=by grind
   have hz:false=qd g l c i:=by unfold qd;grind
   refine⟨i,rfl,hlt,ye (i:=ti4) (v:=bool false) (b:=b) (o:=0+i*1) (l:=_) (st2:=st.sO b (.cells (bl g.T.length (Fc g l c (i+1))))) rfl rfl rfl ho θp (by grind[yw,Pa]) (Qd ⟨i+1,?_,⟨θ,rfl⟩,Qax,⟨rfl,Tv⟩⟩)⟩;grind
 ·rintro _ _ rfl;refine AWp.freeze (d:=7) (b:=b) (k:=1) (n:=g.T.length) (cap:=g.T.length) (rows:=rws qu (blL g.T.length (qd g l c))) (pad:=[]) rfl ?_ ?_ ?_ (Fah _) ?_ ?_ ?_
  ·grind[ze7,zd]
  ·exact hf.2
  ·rw[zi,H6]
  ·intro row hr;obtain⟨x,_,rfl⟩:=Fag.1 hr;rfl
  ·intro row hr y hy;obtain⟨x,_,rfl⟩:=Fag.1 hr;simp[qu]at hy;exact⟨_,hy,rfl⟩
  rw[tw hf.1];exact AWp.of_vc zb (ret h)
def ytc(g:Gnd)(hg:zv g)(l:List Bld)(hl:l.length<=1000000000000)(st:Store)(R:Ja)
  (h:∀z:Bool,(z=true↔Mv g l)->R (bool z) st):Jb 108 [.agg (zw g),lst 6 zl l] st R:=by
 have ha:=xj hg;have hT:((rws u8C g.T).length:Int)=(g.T.length:Int):=by rw[zi]
 have hL:((rws zl l).length:Int)=(l.length:Int):=by rw[zi]
 have no:¬Mv g l->R (bool false) st:=λhn=>h false θg;refine Qy 60 Tryz.func108 ?_;refine bcd (λc1=>ret (no λq=>θc)) (λc1=>yth l hl _ _ (λz hz=>yj ?_));refine zk (λc2=>?_) (λc2=>ret (no λq=>by have:=hz.2 q.2.1;grind));have hr:=hz.1 c2;refine K1 rfl (it:=ti32) (ie:=ti4) rfl rfl rfl rfl rfl (n:=(rws u8C g.T).length) ?_ ?_ (λb hf=>?_)
 ·rw[zi];show 1*_<=_;omega
 ·omega
 rw[zi (f:=u8C) g.T,f8];have hhas:∀f:Nat->Bool,(st.sO b (.cells (bl g.T.length f))).Has st:=λf=>Fe hf.1
 refine AWp.loop (σ:=Nat) ⟨λi=>[(2,.bx 2 0),(5,.av (blV b g.T.length)),(22,.av (lst 6 zl l)),(23,.av (int (l.length:Nat))),(24,.av (int (i:Nat)))],λ_=>[(2,zw g)],
  λi st'=>i<=l.length/\st'=st.sO b (.cells (bl g.T.length (xo g (l.take i))))/\uw g l i,λi=>l.length-i⟩ zb ?_ ?_
 ·refine⟨0,Tv,⟨Fae _,rfl,λj _ hj=>θ⟩,⟨Tq,Tq,Tq,?_,Tq,Tv⟩,⟨rfl,Tv⟩⟩;rw[<-zi (f:=zl) l];exact Tq
 rintro i st' ⟨hi,rfl,hup⟩;refine bcd (λh1=>?_) (λh1=>?_);rotate_left
 ·have:i=l.length:=θ;subst this;have hall:=ytb hup;exact Bu (Tt) (hhas _) (h true (by simp;exact⟨θ,hr,hall.1,hall.2⟩))
 have hlt:i<l.length:=θ;have nof:¬Mv g l->∃r st',AV.le (bool false) r/\(st.sO b (.cells (bl g.T.length (xo g (l.take i))))).Has st'/\R r st':=λhn=>Bu (Tt) (hhas _) (no hn);refine⟨i,rfl,za _ (zp hlt) (zki l[i] _ _ (λz1 hz1=>yj (zk (λc3=>?_) (λc3=>nof λq=>by have:=hz1.2 (q.2.2.1 _ (Faa hlt)).1;grind))))⟩;have hb1:=hz1.1 c3;refine zkc g l[i] hg hb1 _ _ (λz2 hz2=>yj (zk (λc4=>?_) (λc4=>nof λq=>by have:=hz2.2 (q.2.2.1 _ (Faa hlt)).2.1;grind)));have hb2:=hz2.1 c4;refine zkj g hg l[i] ⟨hb1,hb2⟩ _ _ (λz3 hz3=>yj (zk (λc5=>?_) (λc5=>nof λq=>by have:=hz3.2 (q.2.2.1 _ (Faa hlt)).2.2;grind)));have hb3:=hz3.1 c5;have hbi:qh l[i]/\onP g l[i]:=⟨hb1,hb2⟩
 refine Vz g hg l[i] hbi _ _ ?_;have hcov:=λ(t:Nat) (ht:t<g.T.length)=>zi9 hg hlt hbi ht;have hmem:=Il hg hbi.1 hbi.2;have h0:=zi7 g l i (Au g.W l[i]);have hts:=lr g.W hbi.1;have hcm:=yr2 hg hlt hbi hup;have hso:=zn2 hg hbi;generalize Au g.W l[i]=ts at*
 refine AWp.loop (σ:=Nat) ⟨λk=>[(2,.bx 2 0),(5,.av (blV b g.T.length)),(22,.av (lst 6 zl l)),(23,.av (int (l.length:Nat))),(24,.av (int (i:Nat))),(45,.av (yc ts)),(46,.av (int (ts.length:Nat))),(47,.av (int (k:Nat)))],λ_=>[(2,zw g)],
  λk st'=>k<=ts.length/\st'=st.sO b (.cells (bl g.T.length (wj g l i ts k)))/\∀m,(hm:m<ts.length)->m<k->xo g (l.take i) ts[m].toNat=false,λk=>ts.length-k⟩ zb ?_ ?_
 ·refine⟨0,Tv,⟨Fae _,?_,λm _ hm=>θ⟩,⟨Tq,Tq,Tq,Tq,Tq,Tq,?_,Tq,Tv⟩,⟨rfl,Tv⟩⟩
  ·rw[show wj g l i ts 0=xo g (l.take i)from funext h0]
  ·rw[<-zi (f:=zn) ts];exact Tq
 rintro k st' ⟨hk,rfl,hno⟩;refine bcd (λh2=>?_) (λh2=>?_);rotate_left
 ·have:k=ts.length:=θ;subst this;refine Qd ⟨i+1,?_,⟨θ,?_,λj hj hji=>?_⟩,Qax,⟨rfl,Tv⟩⟩
  ·grind
  ·grind[bl,List.map_congr_left]
  ·by_cases e:j=i
   ·subst e;refine⟨⟨hb1,hb2,hb3⟩,λm hm hmt=>?_⟩;have⟨t,ht,hc⟩:=hcm.2 ⟨m,hm,hmt⟩;obtain⟨q,hq,rfl⟩:=Faf ht;grind
   ·exact hup j hj θ
 have hklt:k<ts.length:=θ;have⟨n,hn,hn2,hn3⟩:=(hmem ts[k]).1 (Faa hklt);have hnl:n<g.T.length:=θ;have⟨s1,s2⟩:=zi8 (g:=g) (l:=l) (i:=i) hklt hn;have hnk:wj g l i ts k n=xo g (l.take i) n:=by
  unfold wj;have:(ts.take k).contains (n:Int)=false:=by grind[yjp]
  grind
 refine⟨k,rfl,za _ (zp hklt) ?_⟩;have ho:(st.sO b (.cells (bl g.T.length (wj g l i ts k)))).obj b=some (.cells (bl g.T.length (wj g l i ts k))):=zd _ _ _;have hhead:((bl g.T.length (wj g l i ts k)).drop (0+n*1)).head?=some (V.bool (xo g (l.take i) n)):=by grind[List.head?_drop,Ky]
 refine⟨n,hn,hnl,za _ ho (za _ hhead (zk (λc6=>?_) (λc6=>?_)))⟩
 ·refine Bu (Tt) (hhas _) (no λq=>?_);have⟨m,hm,hmt⟩:=hcm.1 ⟨ts[k],Faa hklt,δ⟩;exact q.2.2.2 i hlt m hm hmt
 refine⟨n,hn,hnl,ye (i:=ti4) (v:=bool true) (b:=b) (o:=0+n*1) (l:=bl g.T.length (wj g l i ts k)) (st2:=st.sO b (.cells (bl g.T.length (wj g l i ts (k+1))))) rfl rfl rfl (zd _ _ _) θp ?_ ?_⟩
 ·grind[yw,Pa]
 refine Qd ⟨k+1,?_,⟨θ,rfl,λm hm hmk=>?_⟩,Qax,⟨rfl,Tv⟩⟩
 ·grind
 grind
end Go.Proofs
namespace Go.Proofs
open Go Go.V
set_option maxRecDepth 20000
set_option maxHeartbeats 4000000
end Go.Proofs
namespace Go.Proofs
open Go Go.V
set_option maxRecDepth 20000
set_option maxHeartbeats 4000000
def zhf(g:Gnd)(hg:zv g)(t:Nat)(ht:(t:Int)<g.W*g.H)(x:Int)(hx:x=(t:Int))(p:Vc)(hp:jv p.1 p.2)(r:Int)(hr:0<r/\r<=262144)(st:Store)(R:Ja)(h:R (V.bool (decide (wz g t p r))) st):
  Jb 151 [.agg (zw g),int x,.agg (yp p),int r] st R:=by
 subst hx;exact ynh g hg t ht p hp r hr st R h
def zh6(g:Gnd)(hg:zv g)(l:List Bld)(c:Int)(p:Vc)(hpo:p.ok)(r:Int)(hr:0<r/\r<=262144)(st:Store)(R:Ja)
  (h:∀z:Bool,(z=true↔Fh g l c p r)->R (V.bool z) st):Jb 116 [.agg (zw g),opV g l c,.agg (yp p),int r] st R:=by
 have ha:=xj hg;have hg1:=hg.1;have hg2:=hg.2.1;have no:¬Fh g l c p r->R (V.bool false) st:=λhn=>h false ψs;refine Qy 112 Tryz.func116 ?_;refine Qc zb yfh ?_;refine Qd ?_;refine Qd (Qba (Qbb (yrq p r _ _ (λz hz=>?_))));refine yj ?_;refine zk (λc0=>?_) (λc0=>ret (no λq=>by have:=hz.2 ⟨⟨θ,hr.2⟩,by unfold jv;have:=q.1;omega⟩;rw[this]at c0;cases c0));have hp:=(hz.1 c0).2;have hp':=hp;unfold jv at hp';refine Qd (bcd (λc1=>ret (no λq=>θc)) (λc1=>Qd (bcd (λc2=>ret (no λq=>θc)) (λc2=>Qd (bcd (λc3=>ret (no λq=>θc)) (λc3=>Qd (bcd (λc4=>ret (no λq=>θc)) (λc4=>Qd ⟨ψ,?_⟩))))))));have hy0:(p.2-r).tdiv 65536=(p.2-r)/65536:=Fbg θ;have hx0:(p.1-r).tdiv 65536=(p.1-r)/65536:=Fbg θ;have hy1:(p.2+r).tdiv 65536=(p.2+r)/65536:=Fbg θ;have hx1:(p.1+r).tdiv 65536=(p.1+r)/65536:=Fbg θ;refine Qd ?_;rw[hy0]
 refine AWp.loop (σ:=Nat) ⟨λk=>[(1,.av (opV g l c)),(3,.av (int r)),(4,.bx 4 0),(6,.bx 6 0),(11,.av (int ((p.2-r)/65536+(k:Nat))))],λ_=>[(4,zw g),(6,yp p)],
  λk st'=>st'=st/\((k:Int)<=g.H-(p.2-r)/65536\/k=0)/\O7 g l c p r ((p.2-r)/65536+(k:Nat)),λk=>(g.H-(p.2-r)/65536).toNat-k⟩ zb ?_ ?_
 ·refine⟨0,Tv,⟨rfl,.inr rfl,?_⟩,⟨Tq,Tq,Tq,Tq,?_,Tv⟩,⟨rfl,rfl,Tv⟩⟩
  ·rw[show(p.2-r)/65536+((0:Nat):Int)=(p.2-r)/65536 by omega];exact ysp hr.1 θ
  ·rw[show(p.2-r)/65536+((0:Nat):Int)=(p.2-r)/65536 by omega];exact Tq
 rintro k st' ⟨rfl,hk,hup⟩;refine Qd ⟨ψ,Qd ?_⟩;rw[hy1]
 have done:(¬((p.2-r)/65536+(k:Int)<=(p.2+r)/65536)\/¬((p.2-r)/65536+(k:Int)<g.H))->R (V.bool true) st':=λhh=>
  h true (by simp only[true_iff];exact⟨θ,ysq hg hr.1 θ hh hup⟩)
 refine bcd (λc5=>bcd (λc6=>Qd ⟨ψ,Qd ?_⟩) (λc6=>ret (done (.inr c6)))) (λc5=>ret (done (.inl c5)));rw[hx0];have hyb:0<=(p.2-r)/65536:=θ;have hxb:0<=(p.1-r)/65536:=θ
 refine AWp.loop (σ:=Nat) ⟨λm=>[(1,.av (opV g l c)),(3,.av (int r)),(4,.bx 4 0),(6,.bx 6 0),(11,.av (int ((p.2-r)/65536+(k:Nat)))),(12,.av (int ((p.1-r)/65536+(m:Nat))))],λ_=>[(4,zw g),(6,yp p)],
  λm st2=>st2=st'/\((m:Int)<=g.W-(p.1-r)/65536\/m=0)/\Sv g l c p r ((p.2-r)/65536+(k:Nat)) ((p.1-r)/65536+(m:Nat)),λm=>(g.W-(p.1-r)/65536).toNat-m⟩ zb ?_ ?_
 ·refine⟨0,Tv,⟨rfl,.inr rfl,?_⟩,⟨Tq,Tq,Tq,Tq,Tq,?_,Tv⟩,⟨rfl,rfl,Tv⟩⟩
  ·rw[show(p.1-r)/65536+((0:Nat):Int)=(p.1-r)/65536 by omega];exact yss hr.1 θ
  ·rw[show(p.1-r)/65536+((0:Nat):Int)=(p.1-r)/65536 by omega];exact Tq
 rintro m st2 ⟨rfl,hm,hrow⟩;refine Qd ⟨ψ,Qd ?_⟩;rw[hx1];have done2:(¬((p.1-r)/65536+(m:Int)<=(p.1+r)/65536)\/¬((p.1-r)/65536+(m:Int)<g.W))->O7 g l c p r ((p.2-r)/65536+((k+1:Nat):Int)):=λhh=>by rw[uo];exact yst hg hr.1 θ hh hup hrow
 have mu:(g.H-(p.2-r)/65536).toNat-(k+1)<(g.H-(p.2-r)/65536).toNat-k:=zf5 (Int.lt_sub_left_of_add_lt c6);have step2:LV.le (je .i64 ((p.2-r)/65536+(k:Int)+1)) (.av (int ((p.2-r)/65536+((k+1:Nat):Int)))):=by rw[uo];exact Tq
 refine bcd (λc7=>bcd (λc8=>?_) (λc8=>ze θ ⟨k+1,mu,⟨rfl,.inl (cx c6),done2 (.inr c8)⟩,⟨Tq,Tq,Tq,Tq,step2,Tv⟩,⟨rfl,rfl,Tv⟩⟩)) (λc7=>ze θ ⟨k+1,mu,⟨rfl,.inl (cx c6),done2 (.inl c7)⟩,⟨Tq,Tq,Tq,Tq,step2,Tv⟩,⟨rfl,rfl,Tv⟩⟩);have⟨q1,q2,q3,q4⟩:=Pv hg (x:=(p.1-r)/65536+(m:Int)) (y:=(p.2-r)/65536+(k:Int)) θ θ;have q5:0<=g.W*((p.2-r)/65536+(k:Int)):=Fa8 θ θ;have hstep:=ysr (l:=l) (c:=c) (p:=p) (r:=r) hg (x:=(p.1-r)/65536+(m:Int)) (y:=(p.2-r)/65536+(k:Int)) θ θ hrow;refine Qd (Qd ?_);obtain⟨n,hn⟩:∃n:Nat,(n:Int)=(p.1-r)/65536+(m:Int)+g.W*((p.2-r)/65536+(k:Int)):=⟨_,Int.toNat_of_nonneg q1⟩
 rw[<-hn,Fbc]at hstep;have hnl:n<g.T.length:=θ;have mu2:(g.W-(p.1-r)/65536).toNat-(m+1)<(g.W-(p.1-r)/65536).toNat-m:=zf5 (Int.lt_sub_left_of_add_lt c8);have e2:(p.1-r)/65536+((m+1:Nat):Int)=(p.1-r)/65536+(m:Int)+1:=uo _ _;have step3:LV.le (je .i64 ((p.1-r)/65536+(m:Int)+1)) (.av (int ((p.1-r)/65536+((m+1:Nat):Int)))):=by rw[e2];exact Tq
 refine⟨n,hn.symm,za _ (ytp hnl) (yj (zk (λc9=>?_) (λc9=>?_)))⟩
 ·exact Qd ⟨m+1,mu2,⟨rfl,.inl (cx c8),by rw[e2];exact hstep λhh=>by rw[c9]at hh;cases hh⟩,⟨Tq,Tq,Tq,Tq,Tq,step3,Tv⟩,⟨rfl,rfl,Tv⟩⟩
 refine zhf g hg n θ _ hn.symm p hp r hr _ _ (bcd (λc10=>?_) (λc10=>?_))
 ·exact ret (no λq=>q.2 n hnl c9 c10)
 ·exact Qd ⟨m+1,mu2,⟨rfl,.inl (cx c8),by rw[e2];exact hstep λ_=>c10⟩,⟨Tq,Tq,Tq,Tq,Tq,step3,Tv⟩,⟨rfl,rfl,Tv⟩⟩
def zgz(x:Int)(st:Store)(R:Ja)(h:R (V.bool false) st):Jb 199 [int x] st R:=by refine Qy 6 Tryz.func199 ?_;refine⟨_,st,Tt,Store.Has.refl st,?_⟩;have e:(x != x)=false:=φ;rw[<-e]at h;exact h
def fo(x y:Int)(st:Store)(R:Ja)(h:R (int (Ac x y)) st):Jb 158 [int x,int y] st R:=by
 refine Qy 20 Tryz.func158 ?_;refine zgz _ _ _ (zgz _ _ _ ?_);unfold Ac at h;refine zk (λh1=>⟨_,st,Tt,Store.Has.refl st,?_⟩) (λh1=>?_)
 ·rw[if_pos θj]at h;exact h
 ·rw[if_neg θj]at h;refine zk (λh2=>⟨_,st,Tt,Store.Has.refl st,?_⟩) (λh2=>⟨_,st,Tt,Store.Has.refl st,?_⟩)
  ·rw[if_pos θs]at h;exact h
  ·rw[if_neg θs]at h;exact h
def zko(u:Unt)(id:Int)(st:Store)(R:Ja)(h:R (int (Ac u.id id)) st):Jb 157 [.agg (zm u),int id] st R:=by refine Qy 9 Tryz.func157 ?_;exact fo u.id id _ _ (ret h)
def Ok(l:List Unt)(id:Int)(i:Nat):Prop:=i<=l.length/\(∀j,(h:j<l.length)->j<i->l[j].id<id)/\∀j,(h:j<l.length)->i<=j->id<=l[j].id
def yte(l:List Unt)(hl:l.length<=1000000000000)(hr:yl l)(id:Int)(st:Store)(R:Ja)
  (h:∀i,Ok l id i->∀z:Bool,(z=true↔∃hi:i<l.length,l[i].id=id)->R (.tup [int (i:Nat),V.bool z]) st):Jb 156 [lst 10 zm l,int id,.clos 157 []] st R:=by
 refine Qy 49 Tryz.func156 ?_
 refine AWp.loop (σ:=Nat×Nat) ⟨λs=>[(0,.av (lst 10 zm l)),(1,.av (int id)),(2,.av (.clos 157 [])),(8,.av (int (l.length:Nat))),(9,.av (int (s.1:Nat))),(10,.av (int (s.2:Nat)))],λ_=>[],
  λs st'=>st'=st/\s.1<=s.2/\s.2<=l.length/\(∀j,(h:j<l.length)->j<s.1->l[j].id<id)/\∀j,(h:j<l.length)->s.2<=j->id<=l[j].id,λs=>s.2-s.1⟩ zb ?_ ?_
 ·refine⟨(0,l.length),Tv,⟨rfl,Fae _,Fah _,λj _ hj=>θ,λj hj hj2=>θ⟩,⟨Tq,Tq,Tq,?_,Tq,?_,Tv⟩,Tv⟩
  ·rw[<-zi (f:=zm) l];exact Tq
  ·rw[<-zi (f:=zm) l];exact Tq
 rintro⟨i,j⟩ st' ⟨rfl,hij,hj,hlo,hhi⟩;dsimp only at hij hj hlo hhi⊢;refine bcd (λh1=>?_) (λh1=>?_);rotate_left
 ·have e:i=j:=θ;subst e;have hat:Ok l id i:=⟨hj,hlo,hhi⟩
  refine bcd (λh2=>?_) (λh2=>?_)
  ·have hlt:i<l.length:=θ;refine⟨i,rfl,za _ (zp hlt) (zko l[i] id _ _ (ret (h i hat _ ?_)))⟩;have:=hhi i hlt (Fah _);unfold Ac;rw[if_neg θ];by_cases e:l[i].id=id
   ·rw[if_neg θ];simp[hlt,e]
   ·rw[if_pos θ];simp[e]
  ·exact ret (h i hat _ χ)
 refine Qd ⟨ψ,?_⟩;have hmid:(IntKind.u64.wrap ((i:Int)+(j:Int))).fdiv (2^(min (1:Int).toNat IntKind.u64.bits))=(((i+j)/2:Nat):Int):=by
  have e1:IntKind.u64.wrap ((i:Int)+(j:Int))=((i+j:Nat):Int):=by simp[IntKind.wrap,IntKind.bits,IntKind.signed];omega
  have e2:(2:Int)^(min (1:Int).toNat IntKind.u64.bits)=2:=rfl;have e3:(((i+j:Nat):Int)).fdiv 2=(((i+j)/2:Nat):Int):=by rw[Int.fdiv_eq_ediv_of_nonneg _ ψ];rfl
  rw[e1,e2,e3]
 have hk1:(i+j)/2<j:=θ;have hk2:i<=(i+j)/2:=θ;have hkl:(i+j)/2<l.length:=θ;have hmono:∀a b,(ha:a<l.length)->(hb:b<l.length)->a<=b->l[a].id<=l[b].id:=by
  intro a b ha hb hab;induction b with
  |zero=>
   have:a=0:=θ;subst this;exact Fcr _
  |succ b ih=>
   by_cases e:a=b+1
   ·subst e;exact Fcr _
   ·have h2:=ih θ θ;have h3:=hr (b+1) hb θ;simp only[Fdk]at h3;omega
 refine⟨by rw[hmid];exact⟨θ,θ⟩,⟨(i+j)/2,hmid,za _ (zp hkl) (zko l[(i+j)/2] id _ _ ?_)⟩⟩;have hc:Ac l[(i+j)/2].id id<0↔l[(i+j)/2].id<id:=by
  unfold Ac;split
  ·omega
  ·split<;>omega
 refine bcd (λh2=>?_) (λh2=>?_)
 ·have h2:=hc.1 h2;refine ze (by rw[hmid];omega) ⟨((i+j)/2+1,j),?_,⟨rfl,ξ,hj,λa ha ha2=>?_,hhi⟩,⟨Tq,Tq,Tq,Tq,?_,Tq,Tv⟩,Tv⟩
  ·show j-((i+j)/2+1)<j-i;omega
  ·have:=hmono a ((i+j)/2) ha hkl (by dsimp only at ha2;omega);omega
  ·dsimp only;exact(congrArg (λn:Int=>LV.le (je .i64 (n+1)) (.av (int (((i+j)/2+1:Nat):Int)))) hmid).mpr (Tq)
 ·have h2:¬l[(i+j)/2].id<id:=λhh=>h2 (hc.2 hh);refine⟨(i,(i+j)/2),?_,⟨rfl,hk2,ξ,hlo,λa ha ha2=>?_⟩,⟨Tq,Tq,Tq,Tq,Tq,?_,Tv⟩,Tv⟩
  ·show(i+j)/2-i<j-i;omega
  ·have:=hmono ((i+j)/2) a hkl ha (by dsimp only at ha2;omega);omega
  ·dsimp only;exact(congrArg (λn:Int=>LV.le (je .i64 n) (.av (int (((i+j)/2:Nat):Int)))) hmid).mpr (Tq)
def zac(l:List Unt)(hl:l.length<=1000000000000)(hr:yl l)(id:Int)(st:Store)(R:Ja)
  (h:∀i,Ok l id i->∀z:Bool,(z=true↔∃hi:i<l.length,l[i].id=id)->R (.tup [int (i:Nat),V.bool z]) st):Jb 120 [lst 10 zm l,int id] st R:=by
 refine Qy 11 Tryz.func120 ?_;exact yte l hl hr id _ _ λi hi z hz=>ret (h i hi z hz)
section
variable {F S:Store} {p:Nat}
def ys7{l:List Ent}(hc:CellsOf F p l)(hd:zj F S)(hl:l.length<=1000000000)(hok:∀e∈l,e.2.ok)(id:Int)(R:Ja)
  (h:∀F',CellsOf F' p (qt l id)->zj F' S->R (V.bool (l.find? (Bk id)).isSome) (F'.un S)):Jb 146 [ptr p,int id] (F.un S) R:=
 ACalls.frame (R:=λr a'=>r=V.bool (l.find? (Bk id)).isSome/\CellsOf a' p (qt l id)) hd (zjx hc hl hok id _ λa' ha'=>⟨rfl,ha'⟩) λr a' ⟨h1,h2⟩ hd'=>h1▸h a' h2 hd'
def uu{l:List Ent}(hc:CellsOf F p l)(hd:zj F S)(hl:l.length<=1000000000)(hok:∀e∈l,e.2.ok)(id:Int)(pos:Vc)(hpos:pos.ok)(R:Ja)
  (h:∀F',CellsOf F' p (qt l id++[(id,pos)])->zj F' S->R (.tup []) (F'.un S)):Jb 114 [ptr p,int id,.agg (yp pos)] (F.un S) R:=
 ACalls.frame (R:=λr a'=>r=.tup []/\CellsOf a' p (qt l id++[(id,pos)])) hd (ys2 hc hl hok id pos hpos _ λa' ha'=>⟨rfl,ha'⟩) λr a' ⟨h1,h2⟩ hd'=>h1▸h a' h2 hd'
def zj5{l:List Ent}(hc:CellsOf F p l)(hd:zj F S)(hl:l.length<=1000000000)(hok:∀e∈l,e.2.ok){q:Vc}(hq:q.ok){r:Int}(hr:yu r)(R:Ja)
  (h:∀F' N v ns,CellsOf F' p l->zj F' N->zj F' S->zj N S->Ints N v ns->Vh l q r ns->R v ((F'.un N).un S)):Jb 153 [ptr p,.agg (yp q),int r] (F.un S) R:=
 ACalls.frame (R:=λv a'=>∃F' N ns,a'=F'.un N/\CellsOf F' p l/\zj F' N/\Ints N v ns/\Vh l q r ns) hd (ys3 hc hl hok hq hr _ λF' N v ns h1 h2 h3 h4=>⟨F',N,ns,rfl,h1,h2,h3,h4⟩)
  λv a' ⟨F',N,ns,h1,h2,h3,h4,h5⟩ hd'=>by subst h1;exact h F' N v ns h2 h3 (disj_un.1 hd').1 (disj_un.1 hd').2 h4 h5
end
section
variable {s p:Nat} {w:Wld} {o0 o1 o2:AV}
def stC(w:Wld)(o0 o1 o2:AV)(p:Nat):List AV:=zr w++[o0,o1,o2,ptr p]
def stS(s:Nat)(w:Wld)(o0 o1 o2:AV)(p:Nat):Store:=Store.empty.sO s (.cells (stC w o0 o1 o2 p))
def Ob(w:Wld)(c:Int)(o:AV):Prop:=o=.s (.slice none 0 0)\/o=opV w.G w.B c
structure StandAt(F:Store)(s p:Nat)(w:Wld)(L:List Ent)(o0 o1 o2:AV):Prop where
 hc:CellsOf F p L
 hd:zj F (stS s w o0 o1 o2 p)
 h0:Ob w 0 o0
 h1:Ob w 1 o1
 h2:Ob w 2 o2
def H9(s:Nat)(w:Wld)(o0 o1 o2:AV)(p:Nat):(stS s w o0 o1 o2 p).obj s=some (.cells (stC w o0 o1 o2 p)):=zd _ _ _
def stS_has{i:Nat}:(stS s w o0 o1 o2 p).has i↔i=s:=by
 unfold Store.has stS;constructor
 ·rintro(h|h)
  ·apply Decidable.byContradiction;intro hn;rw[zf hn]at h;exact h rfl
  ·exact absurd rfl h
 ·rintro rfl;exact .inl (by rw[zd];simp)
def tu{F:Store}{q0 q1 q2:AV}(h:zj F (stS s w o0 o1 o2 p)):zj F (stS s w q0 q1 q2 p):=λi h1 h2=>h i h1 (stS_has.2 (stS_has.1 h2))
def Wq{l:List Unt}(hr:yl l){a b:Nat}(hab:a<b)(hb:b<l.length):(l[a]'θ).id<l[b].id:=by
 induction b with
 |zero=>omega
 |succ b ih=>
  have h3:=hr (b+1) hb θ;simp only[Fdk]at h3;by_cases e:a=b
  ·subst e;exact h3
  ·have:=ih θ θ;omega
def yi6(w:Wld)(hU:w.U.length<=1000000)(hn:∀u∈w.U,u.pos.ok)(R:Ja)
  (h:∀F s p L o0 o1 o2,StandAt F s p w L o0 o1 o2->L.length<=w.U.length->(yl w.U->∀e,e∈L↔∃u∈w.U,u.inn=0/\e=(u.id,u.pos))->R (ptr s) (F.un (stS s w o0 o1 o2 p))):Jb 73 [.agg (zr w)] Store.empty R:=by
 refine Qa (c:=cfg 31 [9] []) zb Tryz.func73 ?_;refine Qc zb zdi ?_;refine⟨zjy _ (λF p hc=>⟨Qe,⟨λs hs=>⟨Tv,Qbb ?_⟩,Tv⟩⟩),Tv⟩;have e0:F.sO s (.cells (stC w (.s (.slice none 0 0)) (.s (.slice none 0 0)) (.s (.slice none 0 0)) p))=F.un (stS s w (.s (.slice none 0 0)) (.s (.slice none 0 0)) (.s (.slice none 0 0)) p):=by exact zy F Store.empty s _
 have h0:StandAt F s p w [] (.s (.slice none 0 0)) (.s (.slice none 0 0)) (.s (.slice none 0 0)):=⟨hc,λi h1 h2=>by have:=stS_has.1 h2;subst this;exact(fresh_iff.1 hs) h1,.inl rfl,.inl rfl,.inl rfl⟩
 refine AWp.loop (σ:=Nat×Store×List Ent) ⟨λq=>[(3,.av (ptr s)),(11,.av (lst 10 zm w.U)),(12,.av (int (w.U.length:Nat))),(13,.av (int (q.1:Nat)))],λ_=>[],
  λq st'=>st'=q.2.1.un (stS s w (.s (.slice none 0 0)) (.s (.slice none 0 0)) (.s (.slice none 0 0)) p)/\StandAt q.2.1 s p w q.2.2 (.s (.slice none 0 0)) (.s (.slice none 0 0)) (.s (.slice none 0 0))/\q.1<=w.U.length/\q.2.2.length<=q.1/\(∀e∈q.2.2,e.2.ok)/\(yl w.U->∀e,e∈q.2.2↔∃u∈w.U.take q.1,u.inn=0/\e=(u.id,u.pos)),λq=>w.U.length-q.1⟩ zb ?_ ?_
 ·refine⟨(0,F,[]),Tv,⟨e0,h0,Fae _,Fah _,λe he=>(by cases he),λ_ e=>φ⟩,⟨Tq,Tq,?_,Tq,Tv⟩,Tv⟩;rw[<-zi (f:=zm) w.U];exact Tq
 rintro⟨i,F1,L⟩ st' ⟨rfl,hS,hi,hL,hok,hmem⟩;dsimp only at hS hi hL hok hmem⊢;refine bcd (λh1=>?_) (λh1=>?_);rotate_left
 ·have:i=w.U.length:=θ;subst this;rw[Faj]at hmem;exact ret (h F1 s p L _ _ _ hS hL hmem)
 have hlt:i<w.U.length:=θ;refine⟨i,rfl,za _ (zp hlt) ?_⟩;have hn2:=hn w.U[i] (Faa hlt);refine zu (λc1=>?_) (λc1=>?_)
 ·refine Qc zb zdh (za (o:=(F1.un (stS s w _ _ _ p)).obj s) _ (zg (H9 s w _ _ _ p)) ⟨uu hS.hc hS.hd θ hok w.U[i].id w.U[i].pos hn2 _ (λF2 h2 h3=>⟨Tv,?_⟩),Tv⟩);have hlen:(qt L w.U[i].id++[(w.U[i].id,w.U[i].pos)]).length<=i+1:=by
   rw[Fac];have:(qt L w.U[i].id).length<=L.length:=Fbv _ _;simp only[Fan];omega
  refine Qd ⟨(i+1,F2,_),?_,⟨rfl,⟨h2,h3,.inl rfl,.inl rfl,.inl rfl⟩,ξ,hlen,λe he=>?_,λhr e=>?_⟩,⟨Tq,Tq,Tq,Tq,Tv⟩,Tv⟩
  ·show w.U.length-(i+1)<w.U.length-i;omega
  ·rcases Faq.1 he with he|he
   ·exact hok e (mem_dropId.1 he).1
   ·simp at he;subst he;exact hn2
  ·dsimp only;rw[Fad hlt,Faq,mem_dropId,hmem hr e];constructor
   ·rintro(⟨⟨u,hu,h4⟩,_⟩|he)
    ·exact⟨u,Faq.2 (.inl hu),h4⟩
    ·simp at he;exact⟨w.U[i],Faq.2 (.inr φ),c1,he⟩
   ·rintro⟨u,hu,h4,h5⟩;rcases Faq.1 hu with hu|hu
    ·refine .inl ⟨⟨u,hu,h4,h5⟩,?_⟩;obtain⟨j,hj,rfl⟩:=Faf hu;rw[Fai]at hj;rw[Fdr]at h5;have:=Wq hr (a:=j) (b:=i) θ hlt;subst h5;show w.U[j].id≠w.U[i].id;omega
    ·simp at hu;subst hu;exact .inr (by simp[h5])
 ·refine Qd ⟨(i+1,F1,L),?_,⟨rfl,hS,ξ,ξ,hok,λhr e=>?_⟩,Qax,Tv⟩
  ·show w.U.length-(i+1)<w.U.length-i;omega
  ·dsimp only;rw[hmem hr e,Fad hlt];constructor
   ·rintro⟨u,hu,h3⟩;exact⟨u,Faq.2 (.inl hu),h3⟩
   ·rintro⟨u,hu,h3,h4⟩;rcases Faq.1 hu with hu|hu
    ·exact⟨u,hu,h3,h4⟩
    ·simp at hu;subst hu;exact absurd h3 c1
end
def F0{g:Gnd}(hg:zv g)(l:List Bld)(c:Int):∃x y,opV g l c=.lst 1 (x::y) none:=by
 have ha:=xj hg;unfold opV lst;cases h:rws qu (blL g.T.length (qd g l c))with
 |nil=>
  have:=zi (f:=qu) (blL g.T.length (qd g l c));rw[h,H6]at this;simp at this;omega
 |cons x y=>exact⟨x,y,rfl⟩
def O8{v:AV}(h:∃x y,v=.lst 1 (x::y) none):cellsOf v=some [v]/\v.one=true:=by obtain⟨x,y,rfl⟩:=h;exact⟨rfl,rfl⟩
def yah{F:Store}{s p:Nat}{w:Wld}{L:List Ent}{o0 o1 o2:AV}(hS:StandAt F s p w L o0 o1 o2)(hg:zv w.G)(hB:w.B.length<=1000000000000)(hb:∀b∈w.B,qh b/\onP w.G b)(c:Int)(hc:c=0\/c=1\/c=2)(R:Ja)
  (h:∀q0 q1 q2,StandAt F s p w L q0 q1 q2->R (opV w.G w.B c) (F.un (stS s w q0 q1 q2 p))):Jb 117 [ptr s,int c] (F.un (stS s w o0 o1 o2 p)) R:=by
 have ho:=zg (a:=F) (H9 s w o0 o1 o2 p);have⟨x0,y0,hne0⟩:=F0 hg w.B 0;have⟨x1,y1,hne1⟩:=F0 hg w.B 1;have⟨x2,y2,hne2⟩:=F0 hg w.B 2;rcases hc with rfl|rfl|rfl
 ·rcases hS.h0 with e|e
  ·subst e;refine Qy 35 Tryz.func117 ?_;refine⟨0,rfl,ψ,za (o:=(F.un (stS s w _ _ _ p)).obj s) _ ho (Qc zb Nv (za (o:=(F.un (stS s w _ _ _ p)).obj s) _ ho (za (o:=(F.un (stS s w _ _ _ p)).obj s) _ ho ⟨Mr w.G hg w.B hB hb 0 _ _ ⟨Tv,⟨0,rfl,ψ,?_⟩⟩,Tv⟩)))⟩;have ho2:=zg (a:=F) (H9 s w (opV w.G w.B 0) o1 o2 p);have hc2:=O8 (F0 hg w.B 0);refine⟨za _ rfl (xf rfl (q9 (v:=opV w.G w.B 0) rfl rfl rfl rfl (ye (i:=ti32) (v:=opV w.G w.B 0) (b:=s) (o:=0+8+0*ti32.size) (l:=stC w _ o1 o2 p) (st2:=F.un (stS s w (opV w.G w.B 0) o1 o2 p)) hc2.1 hc2.2 rfl ho (show 8+1<=12 by decide) ?_ ?_))),Tv⟩
   ·rw[zy];unfold stS;rw[yw];rfl
   exact⟨Tv,⟨0,rfl,ψ,za (o:=(F.un (stS s w _ _ _ p)).obj s) _ ho2 (ret (h _ _ _ ⟨hS.hc,tu hS.hd,.inr rfl,hS.h1,hS.h2⟩))⟩⟩
  ·rw[hne0]at e;subst e;refine Qy 35 Tryz.func117 ?_;refine⟨0,rfl,ψ,za (o:=(F.un (stS s w _ _ _ p)).obj s) _ ho (λbb hbb=>?_)⟩;have hbf:bb=false:=by
    cases bb with
    |true=>cases hbb rfl
    |false=>rfl
   subst hbf;refine⟨0,rfl,ψ,za (o:=(F.un (stS s w _ _ _ p)).obj s) _ ho (ret ?_)⟩;have:=h _ _ _ hS;rw[hne0]at this;exact this
 ·rcases hS.h1 with e|e
  ·subst e;refine Qy 35 Tryz.func117 ?_;refine⟨1,rfl,ψ,za (o:=(F.un (stS s w _ _ _ p)).obj s) _ ho (Qc zb Nv (za (o:=(F.un (stS s w _ _ _ p)).obj s) _ ho (za (o:=(F.un (stS s w _ _ _ p)).obj s) _ ho ⟨Mr w.G hg w.B hB hb 1 _ _ ⟨Tv,⟨1,rfl,ψ,?_⟩⟩,Tv⟩)))⟩;have ho2:=zg (a:=F) (H9 s w o0 (opV w.G w.B 1) o2 p);have hc2:=O8 (F0 hg w.B 1);refine⟨za _ rfl (xf rfl (q9 (v:=opV w.G w.B 1) rfl rfl rfl rfl (ye (i:=ti32) (v:=opV w.G w.B 1) (b:=s) (o:=0+8+1*ti32.size) (l:=stC w o0 _ o2 p) (st2:=F.un (stS s w o0 (opV w.G w.B 1) o2 p)) hc2.1 hc2.2 rfl ho (show 9+1<=12 by decide) ?_ ?_))),Tv⟩
   ·rw[zy];unfold stS;rw[yw];rfl
   exact⟨Tv,⟨1,rfl,ψ,za (o:=(F.un (stS s w _ _ _ p)).obj s) _ ho2 (ret (h _ _ _ ⟨hS.hc,tu hS.hd,hS.h0,.inr rfl,hS.h2⟩))⟩⟩
  ·rw[hne1]at e;subst e;refine Qy 35 Tryz.func117 ?_;refine⟨1,rfl,ψ,za (o:=(F.un (stS s w _ _ _ p)).obj s) _ ho (λbb hbb=>?_)⟩;have hbf:bb=false:=by
    cases bb with
    |true=>cases hbb rfl
    |false=>rfl
   subst hbf;refine⟨1,rfl,ψ,za (o:=(F.un (stS s w _ _ _ p)).obj s) _ ho (ret ?_)⟩;have:=h _ _ _ hS;rw[hne1]at this;exact this
 ·rcases hS.h2 with e|e
  ·subst e;refine Qy 35 Tryz.func117 ?_;refine⟨2,rfl,ψ,za (o:=(F.un (stS s w _ _ _ p)).obj s) _ ho (Qc zb Nv (za (o:=(F.un (stS s w _ _ _ p)).obj s) _ ho (za (o:=(F.un (stS s w _ _ _ p)).obj s) _ ho ⟨Mr w.G hg w.B hB hb 2 _ _ ⟨Tv,⟨2,rfl,ψ,?_⟩⟩,Tv⟩)))⟩;have ho2:=zg (a:=F) (H9 s w o0 o1 (opV w.G w.B 2) p);have hc2:=O8 (F0 hg w.B 2);refine⟨za _ rfl (xf rfl (q9 (v:=opV w.G w.B 2) rfl rfl rfl rfl (ye (i:=ti32) (v:=opV w.G w.B 2) (b:=s) (o:=0+8+2*ti32.size) (l:=stC w o0 o1 _ p) (st2:=F.un (stS s w o0 o1 (opV w.G w.B 2) p)) hc2.1 hc2.2 rfl ho (show 10+1<=12 by decide) ?_ ?_))),Tv⟩
   ·rw[zy];unfold stS;rw[yw];rfl
   exact⟨Tv,⟨2,rfl,ψ,za (o:=(F.un (stS s w _ _ _ p)).obj s) _ ho2 (ret (h _ _ _ ⟨hS.hc,tu hS.hd,hS.h0,hS.h1,.inr rfl⟩))⟩⟩
  ·rw[hne2]at e;subst e;refine Qy 35 Tryz.func117 ?_;refine⟨2,rfl,ψ,za (o:=(F.un (stS s w _ _ _ p)).obj s) _ ho (λbb hbb=>?_)⟩;have hbf:bb=false:=by
    cases bb with
    |true=>cases hbb rfl
    |false=>rfl
   subst hbf;refine⟨2,rfl,ψ,za (o:=(F.un (stS s w _ _ _ p)).obj s) _ ho (ret ?_)⟩;have:=h _ _ _ hS;rw[hne2]at this;exact this
section
variable {F:Store} {s p:Nat} {w:Wld} {o0 o1 o2:AV}
def ya0{L:List Ent}(hS:StandAt F s p w L o0 o1 o2)(hr:yl w.U)(hU:w.U.length<=1000000)(hn:∀u∈w.U,u.pos.ok)(hLl:L.length<=w.U.length)(hL:F4 w L)(q:Vc)(hq:q.ok)(r:Int)(hrr:0<r/\r<=262144)(R:Ja)
  (h:∀F' us,StandAt F' s p w L o0 o1 o2->L8 w q (r+81920) us->us.length<=1000000->R (lst 10 zm us) (F'.un (stS s w o0 o1 o2 p))):Jb 118 [ptr s,.agg (yp q),int r] (F.un (stS s w o0 o1 o2 p)) R:=by
 have ho:=zg (a:=F) (H9 s w o0 o1 o2 p);refine Qy 47 Tryz.func118 ?_;refine Qc zb zdn (za (o:=(F.un (stS s w _ _ _ p)).obj s) _ ho ?_);refine Qd ?_;refine⟨zj5 hS.hc hS.hd θ (Lx hL hn) hq (r:=r+81920) ⟨θ,θ⟩ _ (λF' N v ns g1 g2 g3 g4 g5 g6=>⟨Tv,?_⟩),Tv⟩;have hS':StandAt F' s p w L o0 o1 o2:=⟨g1,g3,hS.h0,hS.h1,hS.h2⟩
 have ho':((F'.un N).un (stS s w o0 o1 o2 p)).obj s=some (.cells (stC w o0 o1 o2 p)):=zg (H9 s w o0 o1 o2 p);have g4':zj (F'.un N) (stS s w o0 o1 o2 p):=disj_un.2 ⟨g3,g4⟩;have hv:∃oa cap,v=.s (.slice oa ns.length cap)/\∀i,i<ns.length->∃b J,oa=some ⟨b,0,none⟩/\((F'.un N).un (stS s w o0 o1 o2 p)).obj b=some (.cells (ns.map aI++J)):=by
  rcases Sa g5 with⟨rfl,rfl⟩|⟨b,cap,J,rfl,hob,_⟩
  ·exact⟨none,0,rfl,λi hi=>absurd hi (Fa3 i)⟩
  ·exact⟨_,cap,rfl,λi _=>⟨b,J,rfl,yf g4' (zg hob)⟩⟩
 obtain⟨oa,cap,rfl,hget⟩:=hv;have hnl:ns.length<=w.U.length:=by have:=Fb2 (l₂:=L.map (·.1)) (g6.1.imp λh=>θ) (λid hid=>by have⟨e,he,h2,_⟩:=(g6.2 id).1 hid;exact Fag.2 ⟨e,he,h2⟩);rw[Fal]at this;omega
 have hfin:∀us:List Unt,us.map (·.id)=ns->(∀u∈us,u∈w.U/\u.inn=0)->R (lst 10 zm us) (F'.un (stS s w o0 o1 o2 p)):=λus e1 e2=>
  h F' us hS' (zfq hr hL g6 e1 e2) (by have:=congrArg List.length e1;rw[Fal]at this;omega)
 have hback:=zhh (S:=stS s w o0 o1 o2 p) g2;generalize(F'.un N).un (stS s w o0 o1 o2 p)=st1 at*
 refine AWp.loop (σ:=Nat×AV×List Unt) ⟨λx=>[(0,.av (ptr s)),(6,.av x.2.1),(18,.av (.s (.slice oa ns.length cap))),(19,.av (int (ns.length:Nat))),(20,.av (int (x.1:Nat)))],λ_=>[],
  λx st'=>x.1<=ns.length/\App 10 st1 x.2.1 (rws zm x.2.2) st'/\x.2.2.map (·.id)=ns.take x.1/\∀u∈x.2.2,u∈w.U/\u.inn=0,λx=>ns.length-x.1⟩ zb ?_ ?_
 ·exact⟨(0,_,[]),Tv,⟨Fae _,App.start 10 st1,rfl,λu hu=>(by cases hu)⟩,⟨Tq,Tq,Tq,Tq,Tq,Tv⟩,Tv⟩
 rintro⟨i,v2,us⟩ st' ⟨hi,ha,hus,hin⟩;dsimp only at hi ha hus hin⊢;refine bcd (λh1=>?_) (λh1=>?_);rotate_left
 ·have:i=ns.length:=θ;subst this;rw[Faj]at hus;exact⟨_,_,AV.le_trans ha.le (Tt),ha.has.trans hback,hfin us hus hin⟩
 have hlt:i<ns.length:=θ;obtain⟨b,J,rfl,hob⟩:=hget i hlt;have hob':st'.obj b=some (.cells (ns.map aI++J)):=by rw[ha.obj];exact hob
 have hos:st'.obj s=some (.cells (stC w o0 o1 o2 p)):=by rw[ha.obj];exact ho'
 refine⟨i,rfl,hlt,Qbc ?_⟩;refine za (o:=List.head? _) (int ns[i]) ψ6 ?_;refine Qbc (zac w.U θ hr ns[i] _ _ (λk hk z hz=>?_));have⟨e,he,hid,_⟩:=(g6.2 ns[i]).1 (Faa hlt);obtain⟨u,hu,hu0,rfl⟩:=(hL e).1 he;have hfound:∃hk2:k<w.U.length,w.U[k].id=ns[i]:=by
  obtain⟨j,hj,rfl⟩:=Faf hu;have h5:j>=k:=Decidable.byContradiction λhn2=>by have:=hk.2.1 j hj θ;have h6:(w.U[j]).id=ns[i]:=hid;omega
  have h7:k<w.U.length:=θ;refine⟨h7,?_⟩;have h8:=hk.2.2 k h7 (Fah _);have h6:(w.U[j]).id=ns[i]:=hid;by_cases e:k=j
  ·subst e;exact h6
  ·have:=Hd hr (show k<j by omega) hj;omega
 have⟨hk2,hk3⟩:=hfound;refine Qbc ?_;refine⟨k,rfl,za _ (zp hk2) ⟨ψ,?_⟩⟩;have hul:us.length=i:=by have:=congrArg List.length hus;rw[Fal,Fai]at this;omega
 refine jy (ie:=ti93) (rows':=[zm w.U[k]]) ha ?_ ?_ ⟨?_,?_⟩ (λv3 st3 ha3=>?_)
 ·rfl
 ·rfl
 ·simp only[zi,Fan,ti93];omega
 ·simp only[zi,Fan];omega
 refine Qd ?_;have huk:w.U[k]=u:=Ls hr (Faa hk2) hu (by rw[hk3];exact hid.symm);refine⟨(i+1,v3,us++[w.U[k]]),?_,⟨ξ,?_,?_,λu2 hu2=>?_⟩,Qax,Tv⟩
 ·show ns.length-(i+1)<ns.length-i;omega
 ·dsimp only;unfold rws at ha3⊢;rw[Fav];exact ha3
 ·dsimp only;rw[Fav,hus,Fad hlt];simp[hk3]
 ·rcases Faq.1 hu2 with h9|h9
  ·exact hin u2 h9
  ·simp at h9;subst h9;rw[huk];exact⟨hu,hu0⟩
def yav{L:List Ent}(hS:StandAt F s p w L o0 o1 o2)(hg:zv w.G)(hB:w.B.length<=1000000000000)(hb:∀b∈w.B,qh b/\onP w.G b)(hr:yl w.U)(hU:w.U.length<=1000000)(hn:∀u∈w.U,u.pos.ok)(hLl:L.length<=w.U.length)(hL:F4 w L)
  (id k:Int) (q:Vc) (hq:q.ok) (R:Ja)
  (h:∀z F' q0 q1 q2,(z=true↔xz w id k q)->StandAt F' s p w L q0 q1 q2->R (V.bool z) (F'.un (stS s w q0 q1 q2 p))):Jb 74 [ptr s,int id,int k,.agg (yp q)] (F.un (stS s w o0 o1 o2 p)) R:=by
 have ho:=zg (a:=F) (H9 s w o0 o1 o2 p);have hk:=Gv k;have hc:=R9 k;refine Qy 56 Tryz.func74 ?_;refine j9 k _ _ ?_;refine Qc zb zdg (za (o:=(F.un (stS s w _ _ _ p)).obj s) _ ho ?_);refine⟨yah hS hg hB hb (qp k) hc _ (λa0 a1 a2 hS1=>⟨?_,?_⟩),Tv⟩
 ·have ho1:=zg (a:=F) (H9 s w a0 a1 a2 p);repeat(first|exact Tv|refine⟨rfl,?_⟩|refine⟨za (o:=(F.un (stS s w a0 a1 a2 p)).obj s) _ ho1 rfl,?_⟩)
 refine⟨zh6 w.G hg w.B (qp k) q hq (z6 k) ⟨hk.1,θ⟩ _ _ (λz hz=>⟨Tv,yj (zk (λc1=>?_) (λc1=>ret (h false _ _ _ _ ψ7 hS1)))⟩),Tv⟩;have hfree:=hz.1 c1;refine ya0 hS1 hr hU hn hLl hL q hq (z6 k) ⟨hk.1,θ⟩ _ (λF' us hS2 hus hul=>?_);have hci:=zjq (id:=id) hfree hus;have no:¬xz w id k q->R (V.bool false) (F'.un (stS s w a0 a1 a2 p)):=λhh=>h false _ _ _ _ (by simp only[Fap,false_iff];exact hh) hS2
 refine AWp.loop (σ:=Nat) ⟨λi=>[(1,.av (int id)),(7,.bx 7 0),(9,.bx 9 0),(32,.av (lst 10 zm us)),(33,.av (int (us.length:Nat))),(34,.av (int (i:Nat)))],λ_=>[(7,yp q),(9,Mf k)],
  λi st'=>st'=F'.un (stS s w a0 a1 a2 p)/\i<=us.length/\∀j,(hj:j<us.length)->j<i->us[j].id≠id->Bz q (z6 k) us[j].pos (z6 us[j].kind)=true,λi=>us.length-i⟩ zb ?_ ?_
 ·refine⟨0,Tv,⟨rfl,Fae _,λj _ hj=>θ⟩,⟨Tq,Tq,Tq,Tq,?_,Tq,Tv⟩,⟨rfl,rfl,Tv⟩⟩;rw[<-zi (f:=zm) us];exact Tq
 rintro i st' ⟨rfl,hi,hall⟩;refine bcd (λh1=>?_) (λh1=>?_);rotate_left
 ·refine ret (h true _ _ _ _ ψ8 hS2)
 have hlt:i<us.length:=θ;have hui:=(hus us[i]).1 (Faa hlt);have next:(us[i].id≠id->Bz q (z6 k) us[i].pos (z6 us[i].kind)=true)->∀j,(hj:j<us.length)->j<i+1->us[j].id≠id->Bz q (z6 k) us[j].pos (z6 us[j].kind)=true:=λhh j hj hji=>by
  by_cases e:j=i
  ·subst e;exact hh
  ·exact hall j hj θ
 refine⟨i,rfl,za _ (zp hlt) (Qc zb zdf (qi (λc2=>?_) (λc2=>?_)))⟩
 ·refine⟨j9 us[i].kind _ _ ⟨Qe,?_⟩,Tv⟩;have hk2:=Gv us[i].kind;refine⟨zkx q (z6 k) us[i].pos (z6 us[i].kind) hq (hn _ hui.1.1) ⟨hk.1,θ⟩ ⟨hk2.1,θ⟩ _ _ ⟨Tv,yj (zk (λc3=>?_) (λc3=>?_))⟩,Tv⟩
  ·refine Qd ⟨i+1,?_,⟨rfl,θ,next λ_=>c3⟩,Qax,⟨rfl,rfl,Tv⟩⟩;show us.length-(i+1)<us.length-i;omega
  ·refine ret (no λhh=>?_);have:=hci.1 hh us[i] (Faa hlt) c2;rw[this]at c3;cases c3
 ·refine Qba (Qbb (Qd ⟨i+1,?_,⟨rfl,θ,next λhne=>absurd c2 hne⟩,Qax,⟨rfl,rfl,Tv⟩⟩));show us.length-(i+1)<us.length-i;omega
end
def yl4{R:Ja}{b:Bool}{st:Store}(h:R (V.bool b) st)(hb:b=true):R (V.bool true) st:=by rw[hb]at h;exact h
def yov(w:Wld)(b:Bld)(p:Nat)(st:Store)(hp:st.obj p=some (.cells (zr w)))(R:Ja)(h:R (V.bool (decide (b.owner>w.players\/b.id>=w.next))) st):
  Jb 110 ([.agg (zl b)]++[ptr p]) st R:=by
 refine Qy 16 Tryz.func110 ?_;refine za _ hp (bcd (λc1=>ret (yl4 h (decide_eq_true (.inl c1)))) (λc1=>za _ hp (ret ?_)));have e:decide (b.owner>w.players\/b.id>=w.next)=decide (b.id>=w.next):=by rw[Fb9,decide_eq_true_iff,decide_eq_true_iff];omega
 rw[e]at h;exact h
def you(w:Wld)(hw:w.fits)(st:Store)(R:Ja)(h:∀z:Bool,(z=true↔Sf w)->R (V.bool z) st):Jb 71 [.agg (zr w)] st R:=by
 have⟨hw1,hw2,hw3⟩:=hw;refine Qa (c:=cfg 54 [1] []) zb Tryz.func71 ?_;intro p hp;have ho:(st.sO p (.cells (zr w))).obj p=some (.cells (zr w)):=zd _ _ _;have nof:¬Sf w->∃r st',AV.le (V.bool false) r/\(st.sO p (.cells (zr w))).Has st'/\R r st':=λhn=>Bu (Tt) (Fe hp.1) (h false ψs);refine za _ ho (bcd (λc1=>nof λq=>θc) (λc1=>za _ ho (bcd (λc2=>nof λq=>θc) (λc2=>za _ ho (bcd (λc3=>nof λq=>θc) (λc3=>za _ ho (bcd (λc4=>nof λq=>θc) (λc4=>za _ ho (bcd (λc5=>nof λq=>θc) (λc5=>za _ ho (bcd (λc6=>nof λq=>θc) (λc6=>za _ ho (rz w.G hw1 _ _ (λz hz=>yj (zk (λc7=>?_) (λc7=>nof λq=>by have:=hz.2 q.2.1.1;rw[this]at c7;cases c7))))))))))))))));have hg:=hz.1 c7;refine za _ ho (za _ ho (ytc w.G hg w.B hw2 _ _ (λz hz=>yj (zk (λc8=>?_) (λc8=>nof λq=>by have:=hz.2 q.2.1.2.1;rw[this]at c8;cases c8)))));have hb:=hz.1 c8;refine za _ ho ?_;have hUl:((rws zm w.U).length:Int)=(w.U.length:Int):=by rw[zi]
 refine bcd (λc9=>nof λq=>by have:=q.2.1.2.2;omega) (λc9=>za _ ho (zkf w.B hw2 _ _ (λb=>decide (b.owner>w.players\/b.id>=w.next)) _ (λb hb R h=>yov w b p _ ho R h) _ (Bu (Tt) (Fe hp.1) (h _ ?_))));rw[Fcf,Fd8];constructor
 ·intro hh;refine⟨θ,⟨hg,hb,θ⟩,λb hb2=>?_⟩;have:=hh b hb2;rw[decide_eq_true_iff]at this;omega
 ·intro hh b hb2;have:=hh.2.2 b hb2;rw[decide_eq_true_iff];omega
def O6(cs:List (Int×Int))(bs:List Nat)(clk:Nat):AObj:=.map (cs.map (yv int)) bs clk
def fq(m:Nat):AV:=.s (.map (some m))
def yg5(w:Wld)(hU:w.U.length<=1000000)(hr:yl w.U)(st:Store)(R:Ja)(h:∀z:Bool,(z=true↔∀u∈w.U,u.inn≠0->Hf w u)->R (V.bool z) st):Jb 75 [.agg (zr w)] st R:=by
 refine Qy 85 Tryz.func75 ?_;refine I0 rfl (λm hm=>?_);have hhas:∀x,(st.sO m x).Has st:=λx=>Fe hm.1;have nof:∀x,¬(∀u∈w.U,u.inn≠0->Hf w u)->∃r st',AV.le (V.bool false) r/\(st.sO m x).Has st'/\R r st':=λx hn=>Bu (Tt) (hhas x) (h false ψs)
 refine AWp.loop (σ:=Nat×List (Int×Int)×List Nat×Nat) ⟨λx=>[(1,.bx 1 0),(3,.av (fq m)),(11,.av (lst 10 zm w.U)),(12,.av (int (w.U.length:Nat))),(13,.av (int (x.1:Nat)))],λ_=>[(1,zr w)],
  λx st'=>x.1<=w.U.length/\st'=st.sO m (O6 x.2.1 x.2.2.1 x.2.2.2)/\(∀id,id≠0->(yx x.2.1 id).getD 0=((ya (w.U.take x.1) id).length:Int))/\mw w x.1,λx=>w.U.length-x.1⟩ zb ?_ ?_
 ·refine⟨(0,[],[],0),Tv,⟨Fae _,rfl,λid _=>rfl,λj _ hj=>θ,λx _ _=>(R8 _).1⟩,⟨Tq,Tq,Tq,?_,Tq,Tv⟩,⟨rfl,Tv⟩⟩;rw[<-zi (f:=zm) w.U];exact Tq
 rintro⟨i,cs,bs,clk⟩ st' ⟨hi,rfl,hcnt,hup⟩;dsimp only at hi hcnt hup⊢;refine bcd (λh1=>?_) (λh1=>?_);rotate_left
 ·have:i=w.U.length:=θ;subst this;exact Bu (Tt) (hhas _) (h true (by simp only[true_iff];exact yg6 hup))
 have hlt:i<w.U.length:=θ;have hui:=Faa hlt;refine⟨i,rfl,za _ (zp hlt) (zu (λc1=>?_) (λc1=>?_))⟩
 ·refine Qd ⟨(i+1,cs,bs,clk),?_,⟨ξ,rfl,λid hid=>?_,λj hj hji hne=>?_,λx hx hx0=>?_⟩,Qax,⟨rfl,Tv⟩⟩
  ·show w.U.length-(i+1)<w.U.length-i;omega
  ·dsimp only;rw[hcnt id hid,Sc hlt,if_neg (by rw[c1];omega)];omega
  ·by_cases e:j=i
   ·subst e;exact absurd c1 hne
   ·exact hup.1 j hj ψg hne
  ·dsimp only;rw[Sc hlt,if_neg (by rw[c1];omega)];have:=hup.2 x hx hx0;omega
 refine zac w.U θ hr w.U[i].inn _ _ (λk hk z hz=>?_);have nou:∀x,¬Hf w w.U[i]->∃r st',AV.le (V.bool false) r/\(st.sO m x).Has st'/\R r st':=λx hn=>nof x λhh=>hn (hh _ hui c1);have found:Hf w w.U[i]->z=true:=λ⟨x,hx,e,_⟩=>by
  obtain⟨j,hj,rfl⟩:=Faf hx;refine hz.2 ?_;have h5:j>=k:=Decidable.byContradiction λhn2=>by have:=hk.2.1 j hj θ;omega
  have h7:k<w.U.length:=θ;refine⟨h7,?_⟩;have h8:=hk.2.2 k h7 (Fah _);by_cases e2:k=j
  ·subst e2;exact e
  ·have:=Hd hr (show k<j by omega) hj;omega
 refine yj (zk (λc2=>?_) (λc2=>nou _ λhh=>by rw[found hh]at c2;cases c2));have⟨hkl,hkid⟩:=hz.1 c2;have uniq:Hf w w.U[i]->(w.U[k].inn=0/\w.U[k].owner=w.U[i].owner)/\((ya w.U w.U[i].inn).length:Int)<=ko w.U[k].kind:=λ⟨x,hx,e,e2,e3,_⟩=>by have:=Ls hr hx (Faa hkl) (by rw[e,hkid]);subst this;exact⟨e2,e3⟩
 refine j9 w.U[i].kind _ _ (bcd (λc3=>nou _ λ⟨x,_,_,_,_,e,_⟩=>θ) (λc3=>?_));have hroom:ko w.U[i].kind=0:=by have:=R8 w.U[i].kind;omega
 refine yj (zk (λc4=>?_) (λc4=>nou _ λ⟨x,_,_,_,_,_,e,_⟩=>by rw[e]at c4;cases c4));have hpos:w.U[i].pos=(0,0):=by have:(w.U[i].pos.1==0&&(w.U[i].pos.2==0&&true))=true:=c4;simp at this;exact Prod.ext this.1 this.2
 refine qi (λc5=>nou _ λ⟨x,_,_,_,_,_,_,e,_⟩=>c5 e) (λc5=>qi (λc6=>nou _ λ⟨x,_,_,_,_,_,_,_,e⟩=>c6 e) (λc6=>⟨k,rfl,za _ (zp hkl) ?_⟩));have hmo:(st.sO m (O6 cs bs clk)).obj m=some (O6 cs bs clk):=zd _ _ _;refine Ar rfl (it:=ti205) (ie:=ti2) (ik:=ti2) rfl rfl rfl rfl hmo rfl (qA w.U[k].id) (λe he=>?_) ?_
 ·obtain⟨e,_,rfl⟩:=Fag.1 he;rfl
 rw[Io];have hz0:w.U[k].id≠0:=by rw[hkid];exact c1
 have hcv:(Option.map int (yx cs w.U[k].id)).getD (Fm ti2)=int ((ya (w.U.take i) w.U[k].id).length:Int):=by rw[<-hcnt _ hz0];cases yx cs w.U[k].id<;>rfl
 rw[hcv];have hcl:(ya (w.U.take i) w.U[k].id).length<=1000000:=by have h1:=rt (l:=w.U) i w.U[k].id;have h2:(ya w.U w.U[k].id).length<=w.U.length:=ψh;omega
 refine Qd (Gi (.inl rfl) rfl (it:=ti205) (ik:=ti2) rfl rfl rfl (es:=cs.map (yv int)) (bs:=bs) (clk:=clk) (k:=int w.U[k].id) (v:=int (((ya (w.U.take i) w.U[k].id).length:Int)+1)) hmo rfl rfl (qA w.U[k].id) (λe he=>?_) (λe1 he hq=>?_) ?_)
 ·obtain⟨e,_,rfl⟩:=Fag.1 he;rfl
 ·obtain⟨g1,_,rfl⟩:=Fag.1 he;have:w.U[k].id=g1.1:=by simpa [qA,yv,int]using hq
  show int g1.1=_;rw[this]
 have⟨bs',clk',hput⟩:=Mc int cs bs clk w.U[k].id (((ya (w.U.take i) w.U[k].id).length:Int)+1);have hput:wd (cs.map (yv int)) bs clk (qA w.U[k].id) (int w.U[k].id) (int (((ya (w.U.take i) w.U[k].id).length:Int)+1))=O6 (yr cs w.U[k].id (((ya (w.U.take i) w.U[k].id).length:Int)+1)) bs' clk':=hput;rw[hput,yw];have hmo2:(st.sO m (O6 (yr cs w.U[k].id (((ya (w.U.take i) w.U[k].id).length:Int)+1)) bs' clk')).obj m=some (O6 (yr cs w.U[k].id (((ya (w.U.take i) w.U[k].id).length:Int)+1)) bs' clk'):=zd _ _ _;have hlook:Gt false (Fm ti2) (((yr cs w.U[k].id (((ya (w.U.take i) w.U[k].id).length:Int)+1)).map (yv int)).find? (qA w.U[k].id))=int (((ya (w.U.take i) w.U[k].id).length:Int)+1):=by rw[Io,Dr,if_pos rfl];rfl
 have hsucc:=Sc hlt w.U[k].id;rw[if_pos hkid.symm]at hsucc;have hcnt2:∀id,id≠0->(yx (yr cs w.U[k].id (((ya (w.U.take i) w.U[k].id).length:Int)+1)) id).getD 0=((ya (w.U.take (i+1)) id).length:Int):=λid hid=>by
  rw[Dr];by_cases e:id=w.U[k].id
  ·rw[if_pos e,e,hsucc];rfl
  ·rw[if_neg e,hcnt id hid,Sc hlt,if_neg (by rw[<-hkid];exact Ne.symm e)];omega
 generalize yr cs w.U[k].id (((ya (w.U.take i) w.U[k].id).length:Int)+1)=cs2 at*;have over:ko w.U[k].kind<((ya (w.U.take i) w.U[k].id).length:Int)+1->¬Hf w w.U[i]:=λhh hp=>by have h2:=(uniq hp).2;have h3:=rt (l:=w.U) (i+1) w.U[k].id;rw[<-hkid]at h2;omega
 have good:w.U[k].inn=0->w.U[k].owner=w.U[i].owner->((ya (w.U.take i) w.U[k].id).length:Int)+1<=ko w.U[k].kind->mw w (i+1):=λe1 e2 e3=>by
  refine⟨λj hj hji hne=>?_,λx hx hx0=>?_⟩
  ·by_cases e:j=i
   ·subst e;exact⟨w.U[k],Faa hkl,hkid,⟨e1,e2⟩,hroom,hpos,c5,c6⟩
   ·exact hup.1 j hj θ hne
  ·by_cases e:x.id=w.U[k].id
   ·have:=Ls hr hx (Faa hkl) e;subst this;omega
   ·rw[Sc hlt,if_neg (by rw[<-hkid];exact Ne.symm e)];have:=hup.2 x hx hx0;omega
 refine Qc zb ybv (qi (λc7=>?_) (λc7=>?_))
 ·refine⟨⟨Qe,⟨⟨Qe,nou _ (λhh=>c7 (uniq hh).1.1)⟩,Tv⟩⟩,⟨⟨Qe,⟨⟨Qe,nou _ (λhh=>c7 (uniq hh).1.1)⟩,Tv⟩⟩,Tv⟩⟩
 refine qi (λc8=>?_) (λc8=>?_)
 ·refine⟨⟨Qe,⟨⟨Qe,nou _ (λhh=>c8 (uniq hh).1.2)⟩,Tv⟩⟩,⟨⟨Qe,⟨⟨Qe,nou _ (λhh=>c8 (uniq hh).1.2)⟩,Tv⟩⟩,Tv⟩⟩
 refine⟨?_,?_,Tv⟩
 ·refine Ar rfl (it:=ti205) (ie:=ti2) (ik:=ti2) rfl rfl rfl rfl hmo2 rfl (qA w.U[k].id) (λe he=>ψu) ?_;rw[hlook];refine⟨Qe,⟨j9 w.U[k].kind _ _ ⟨Qe,bcd (λc9=>nou _ (over θ)) (λc9=>Qd ⟨(i+1,cs2,bs',clk'),?_,⟨ξ,rfl,hcnt2,good c7 c8 θ⟩,Qax,⟨rfl,Tv⟩⟩)⟩,Tv⟩⟩;show w.U.length-(i+1)<w.U.length-i;omega
 ·refine j9 w.U[k].kind _ _ ⟨Qe,⟨Ar rfl (it:=ti205) (ie:=ti2) (ik:=ti2) rfl rfl rfl rfl hmo2 rfl (qA w.U[k].id) (λe he=>ψu) ?_,Tv⟩⟩;rw[hlook];refine⟨Qe,bcd (λc9=>nou _ (over θ)) (λc9=>Qd ⟨(i+1,cs2,bs',clk'),?_,⟨ξ,rfl,hcnt2,good c7 c8 θ⟩,Qax,⟨rfl,Tv⟩⟩)⟩;show w.U.length-(i+1)<w.U.length-i;omega
def tkO(cs:List (Int×Bool))(bs:List Nat)(clk:Nat):AObj:=.map (cs.map (yv V.bool)) bs clk
def ykx(w:Wld)(hw:w.fits)(hn:∀u∈w.U,u.pos.ok):Jb 33 [.agg (zr w)] Store.empty λr _=>∃z,r=V.bool z/\(z=true↔z8 w):=by
 have no:¬z8 w->∃z,V.bool false=V.bool z/\(z=true↔z8 w):=λhn=>⟨false,rfl,δ⟩
 refine Qb (c:=cfg 87) zb Tryz.func33 (AWp.seq (AWp.of_vc zb ?_));refine AWp.seq (AWp.of_vc zb (you w hw _ _ (λz hz=>?_)));refine yj ?_;refine zk (λc1=>?_) (λc1=>ret (no λq=>by have:=hz.2 q.1.1;rw[this]at c1;cases c1));have hh:=hz.1 c1;have hg:=hh.2.1.1;have hbl:=hh.2.1.2.1;have hBl:w.B.length<=256:=hbl.1;have hU:w.U.length<=4096:=hh.2.1.2.2;have hbb:∀b∈w.B,qh b/\onP w.G b:=λb hb=>⟨(hbl.2.2.1 b hb).1,(hbl.2.2.1 b hb).2.1⟩
 refine AWp.seq (AWp.of_vc zb (I0 rfl (λm hm=>AWp.meetA (σ:=List (Int×Bool)×List Nat×Nat) ⟨λ_=>[(1,.bx 1 0),(3,.av (fq m))],λ_=>[(1,zr w)],λx st'=>st'=Store.empty.sO m (tkO x.1 x.2.1 x.2.2)/\∀id,(yx x.1 id).getD false=true↔∃b∈w.B,b.id=id⟩ ?_ ?_)))
 ·refine AWp.of_vc zb ?_
  refine AWp.loop (σ:=Nat×List (Int×Bool)×List Nat×Nat) ⟨λx=>[(1,.bx 1 0),(3,.av (fq m)),(16,.av (lst 6 zl w.B)),(17,.av (int (w.B.length:Nat))),(18,.av (int (x.1:Nat)))],λ_=>[(1,zr w)],
   λx st'=>x.1<=w.B.length/\st'=Store.empty.sO m (tkO x.2.1 x.2.2.1 x.2.2.2)/\∀id,(yx x.2.1 id).getD false=true↔∃b∈w.B.take x.1,b.id=id,λx=>w.B.length-x.1⟩ zb ?_ ?_
  ·refine⟨(0,[],[],0),Tv,⟨Fae _,rfl,λid=>⟨λh=>ω,λ⟨b,hb,_⟩=>(by simp at hb)⟩⟩,⟨Tq,Tq,Tq,?_,Tq,Tv⟩,⟨rfl,Tv⟩⟩;rw[<-zi (f:=zl) w.B];exact Tq
  rintro⟨i,cs,bs,clk⟩ st' ⟨hi,rfl,htk⟩;dsimp only at hi htk⊢;refine bcd (λh1=>?_) (λh1=>?_);rotate_left
  ·have:i=w.B.length:=θ;subst this;rw[Faj]at htk;exact⟨(cs,bs,clk),⟨rfl,htk⟩,⟨Tq,Tq,Tv⟩,⟨rfl,Tv⟩⟩
  have hlt:i<w.B.length:=θ;refine⟨i,rfl,za _ (zp hlt) ?_⟩;have hmo:(Store.empty.sO m (tkO cs bs clk)).obj m=some (tkO cs bs clk):=zd _ _ _;refine Gi (.inl rfl) rfl (it:=ti139) (ik:=ti2) rfl rfl rfl (es:=cs.map (yv V.bool)) (bs:=bs) (clk:=clk) (k:=int w.B[i].id) (v:=V.bool true) hmo rfl rfl (qA w.B[i].id) (λe he=>?_) (λe1 he hq=>?_) ?_
  ·obtain⟨e,_,rfl⟩:=Fag.1 he;rfl
  ·obtain⟨g1,_,rfl⟩:=Fag.1 he;grind[qA,yv,int]
  have⟨bs',clk',hput⟩:=Mc V.bool cs bs clk w.B[i].id true;have hput:wd (cs.map (yv V.bool)) bs clk (qA w.B[i].id) (int w.B[i].id) (V.bool true)=tkO (yr cs w.B[i].id true) bs' clk':=hput;rw[hput,yw];refine Qd ⟨(i+1,yr cs w.B[i].id true,bs',clk'),?_,⟨ξ,rfl,λid=>?_⟩,Qax,⟨rfl,Tv⟩⟩
  ·grind
  ·dsimp only;rw[Dr,Fad hlt];grind
 rintro⟨cs,bs,clk⟩ st' ⟨rfl,htk⟩;dsimp only at htk⊢;have hmo:(Store.empty.sO m (tkO cs bs clk)).obj m=some (tkO cs bs clk):=zd _ _ _;have hhas:(Store.empty.sO m (tkO cs bs clk)).Has Store.empty:=Fe rfl;refine AWp.meetA (σ:=Unit) ⟨λ_=>[(1,.bx 1 0)],λ_=>[(1,zr w)],λ_ st'=>st'=Store.empty.sO m (tkO cs bs clk)/\K6 w w.U.length⟩ ?_ ?_
 ·refine AWp.of_vc zb ?_
  refine AWp.loop (σ:=Nat) ⟨λi=>[(1,.bx 1 0),(3,.av (fq m)),(27,.av (lst 10 zm w.U)),(28,.av (int (w.U.length:Nat))),(29,.av (int (i:Nat)))],λ_=>[(1,zr w)],
   λi st'=>i<=w.U.length/\st'=Store.empty.sO m (tkO cs bs clk)/\K6 w i,λi=>w.U.length-i⟩ zb ?_ ?_
  ·refine⟨0,Tv,⟨Fae _,rfl,λj _ hj=>θ⟩,⟨Tq,Tq,Tq,?_,Tq,Tv⟩,⟨rfl,Tv⟩⟩;rw[<-zi (f:=zm) w.U];exact Tq
  rintro i st' ⟨hi,rfl,hup⟩;refine bcd (λh1=>?_) (λh1=>?_);rotate_left
  ·have:i=w.U.length:=θ;subst this;exact⟨(),⟨rfl,hup⟩,⟨Tq,Tv⟩,⟨rfl,Tv⟩⟩
  have hlt:i<w.U.length:=θ;have nou:¬((vi w w.U[i]/\∀b∈w.B,b.id≠w.U[i].id)/\(0<i->(w.U[i-1]'θ).id<w.U[i].id))->∃z,V.bool false=V.bool z/\(z=true↔z8 w):=λhq=>no λq=>hq (zmw q.1.2 (i+1) i hlt θ);refine⟨i,rfl,za _ (zp hlt) (Qc zb yck ⟨yuq w w.U[i] hg _ _ (λz hz=>⟨Tv,yj (zk (λc2=>?_) (λc2=>⟨⟨Tv,ret (nou λq=>δ)⟩,Tv⟩))⟩),Tv⟩)⟩;have hunt:=hz.1 c2;refine⟨Ar rfl (it:=ti139) (ie:=ti4) (ik:=ti2) rfl rfl rfl rfl hmo rfl (qA w.U[i].id) (λe he=>ψu) ?_,Tv⟩;rw[Io];have hcv:(Option.map V.bool (yx cs w.U[i].id)).getD (Fm ti4)=V.bool ((yx cs w.U[i].id).getD false):=by cases yx cs w.U[i].id<;>rfl
  rw[hcv];have htki:=htk w.U[i].id;generalize(yx cs w.U[i].id).getD false=tk at htki;refine⟨Tv,zk (λc3=>ret (nou λq=>δ)) (λc3=>?_)⟩;have hnb:∀b∈w.B,b.id≠w.U[i].id:=λb hb e=>δ;have next:(0<i->(w.U[i-1]'θ).id<w.U[i].id)->K6 w (i+1):=λhq j hj hji=>by
   by_cases e:j=i
   ·grind
   ·exact hup j hj θ
  have fin:K6 w (i+1)->yu ((i:Int)+1)/\(i+1<=w.U.length/\Store.empty.sO m (tkO cs bs clk)=Store.empty.sO m (tkO cs bs clk)/\K6 w (i+1)):=λhq=>⟨⟨θ,θ⟩,θ,rfl,hq⟩
  refine bcd (λc4=>?_) (λc4=>?_)
  ·have hi0:0<i:=θ;refine Qd ⟨i-1,θ,za _ (zp (show i-1<w.U.length by omega)) (bcd (λc5=>ret (nou λq=>by have:=q.2 hi0;omega)) (λc5=>?_))⟩;have⟨f1,f2⟩:=fin (next λ_=>θ);refine⟨f1,⟨i+1,?_,f2,Qax,⟨rfl,Tv⟩⟩⟩;grind
  ·have⟨f1,f2⟩:=fin (next λh0=>absurd h0 θ);refine⟨f1,⟨i+1,?_,f2,Qax,⟨rfl,Tv⟩⟩⟩;grind
 rintro _ _ ⟨rfl,hall⟩;have hok:=zmx hall;refine AWp.leS hhas.toLe (AWp.seq (AWp.of_vc zb (yi6 w θ hn _ (λF s p L o0 o1 o2 hS hLl hL=>?_))));have hLm:=hL hok.1;refine AWp.meetA (σ:=Unit) ⟨λ_=>[(1,.bx 1 0)],λ_=>[(1,zr w)],λ_ st'=>∀u∈w.U,u.inn=0->xz w u.id u.kind u.pos⟩ ?_ ?_
 ·refine AWp.of_vc zb ?_
  refine AWp.loop (σ:=Nat×Store×AV×AV×AV) ⟨λx=>[(1,.bx 1 0),(8,.av (ptr s)),(64,.av (lst 10 zm w.U)),(65,.av (int (w.U.length:Nat))),(66,.av (int (x.1:Nat)))],λ_=>[(1,zr w)],
   λx st'=>x.1<=w.U.length/\st'=x.2.1.un (stS s w x.2.2.1 x.2.2.2.1 x.2.2.2.2 p)/\StandAt x.2.1 s p w L x.2.2.1 x.2.2.2.1 x.2.2.2.2/\∀j,(hj:j<w.U.length)->j<x.1->w.U[j].inn=0->xz w w.U[j].id w.U[j].kind w.U[j].pos,λx=>w.U.length-x.1⟩ zb ?_ ?_
  ·refine⟨(0,F,o0,o1,o2),Tv,⟨Fae _,rfl,hS,λj _ hj=>θ⟩,⟨Tq,Tq,Tq,?_,Tq,Tv⟩,⟨rfl,Tv⟩⟩;rw[<-zi (f:=zm) w.U];exact Tq
  rintro⟨i,F1,a0,a1,a2⟩ st' ⟨hi,rfl,hS1,hcl⟩;dsimp only at hi hS1 hcl⊢;refine bcd (λh1=>?_) (λh1=>?_);rotate_left
  ·have:i=w.U.length:=θ;subst this;refine⟨(),λu hu h0=>?_,⟨Tq,Tv⟩,⟨rfl,Tv⟩⟩;obtain⟨j,hj,rfl⟩:=Faf hu;exact hcl j hj hj h0
  have hlt:i<w.U.length:=θ;have hui:=Faa hlt;have next:(w.U[i].inn=0->xz w w.U[i].id w.U[i].kind w.U[i].pos)->∀j,(hj:j<w.U.length)->j<i+1->w.U[j].inn=0->xz w w.U[j].id w.U[j].kind w.U[j].pos:=λhq j hj hji=>δ
  refine⟨i,rfl,za _ (zp hlt) (zu (λc2=>?_) (λc2=>?_))⟩
  ·refine yav hS1 hg θ hbb hok.1 θ hn hLl hLm w.U[i].id w.U[i].kind w.U[i].pos (hn _ hui) _ (λz F2 b0 b1 b2 hz hS2=>yj (zk (λc3=>Qd ⟨(i+1,F2,b0,b1,b2),?_,⟨ξ,rfl,hS2,next λ_=>hz.1 c3⟩,Qax,⟨rfl,Tv⟩⟩) (λc3=>ret (no λq=>by have:=hz.2 (q.2.1 _ hui c2);rw[this]at c3;cases c3))));grind
  ·refine Qd ⟨(i+1,F1,a0,a1,a2),?_,⟨ξ,rfl,hS1,next λh0=>absurd h0 c2⟩,Qax,⟨rfl,Tv⟩⟩;grind
 rintro _ st' hclear;refine AWp.of_vc zb (yg5 w θ hok.1 _ _ (λz hz=>ret ⟨z,rfl,?_⟩));rw[hz];exact⟨λhq=>⟨⟨hh,hok⟩,hclear,hq⟩,λhq=>hq.2.2⟩
def Dn{f:FuncId}{xs:List AV}{Q:AV->Prop}(key:Jb f xs Store.empty λr _=>Q r)(st:Store)(R:Ja)(h:∀r,Q r->R r st):Jb f xs st R:=by
 rw[<-vo st];refine ACalls.post (ACalls.frame (R':=λr st'=>Q r/\∃a',st'=a'.un st) (λb hb=>?_) key λr a' h1 _=>⟨h1,a',rfl⟩) (Store.Le.refl _) λr st' ⟨h1,a',h2⟩=>⟨r,st,Tt,h2▸zm4,?_⟩
 ·exact(hb.elim (λh=>h rfl) (λh=>h rfl):False).elim
 ·exact h r h1
def zgd(w:Wld)(hw:w.fits)(hn:∀u∈w.U,u.pos.ok)(st:Store)(R:Ja)(h:∀z:Bool,(z=true↔z8 w)->R (V.bool z) st):Jb 33 [.agg (zr w)] st R:=
 Dn (ykx w hw hn) st R λr ⟨z,e,hz⟩=>e▸h z hz
def ymu{l:List Unt}{i:Nat}(hi:i<l.length)(id:Int):ya (l.take (i+1)) id=ya (l.take i) id++(if l[i].inn=id then [l[i].id]else []):=by unfold ya;rw[Fad hi,Fca,Fav];by_cases h:l[i].inn=id<;>simp[h]
end Go.Proofs
namespace Go.Proofs
open Go Go.V
set_option maxRecDepth 20000
set_option maxHeartbeats 4000000
end Go.Proofs
