/- Ground of laws of thronglaw25: contracts and plain lemmas; no condition beyond the row's own. -/
import Derived.Test.YtdfpifbbcigelaaGreatKK
import Derived.Test.YtdfpifbbcigelaaGreatKJ
import Derived.Test.YtdfpifbbcigelaaGreatKI
set_option linter.unusedSimpArgs false
set_option linter.unusedVariables false
namespace Go.Proofs
open Go Go.V
set_option maxRecDepth 20000
set_option maxHeartbeats 4000000
theorem Fj(n:Int)(st:Store)(R:Ja)(h:R (int (nrm n)) st):Jb 219 [int n] st R:=by
 refine Qa (c:=cfg 5) zb Tryz.func219 ?_
 rw[<-zra]at h
 exact ret h
theorem zrj(n:Int)(hn:ya n)(st:Store)(R:Ja)(h:R (int (-nrm n)) st):Jb 369 [int n] st R:=by
 refine Qa (c:=cfg 6) zb Tryz.func369 ?_
 refine Fj n _ _ ?_
 have:=vn hn
 refine⟨⟨by omega,by omega⟩,?_⟩
 rw[show -nrm n=0-nrm n by omega]at h
 exact ret h
theorem Dz(a b:Int)(ha:ya a)(hb:ya b)(st:Store)(R:Ja)(h:R (int (yq a b)) st):Jb 220 [int a,int b] st R:=by
 refine Qa (c:=cfg 30) zb Tryz.func220 ?_
 refine Fj a _ _ ?_
 refine Fj b _ _ ?_
 have h1:=vn ha
 have h2:=vn hb
 unfold yq at h
 generalize nrm a=x at*
 generalize nrm b=y at*
 have k1:x+y>9223372036854775807->R (int 9223372036854775807) st:=λhh=>by rw[show jg (x+y)=9223372036854775807 by unfold jg;simp[hh]]at h;exact h
 have k2:x+y< -9223372036854775807->R (int (-9223372036854775807)) st:=λhh=>by rw[show jg (x+y)=-9223372036854775807 by unfold jg;rw[if_neg (by omega),if_pos hh]]at h;exact h
 have k3:¬x+y>9223372036854775807->¬x+y< -9223372036854775807->ya (x+y)/\R (int (x+y)) st:=λhh hh'=>⟨⟨by omega,by omega⟩,by rw[show jg (x+y)=x+y by unfold jg;rw[if_neg hh,if_neg hh']]at h;exact h⟩
 have fin:¬x+y>9223372036854775807->¬x+y< -9223372036854775807->ya (x+y)/\∃r st',AV.le (int (x+y)) r/\st.Has st'/\R r st':=λhh hh'=>⟨(k3 hh hh').1,ret (k3 hh hh').2⟩
 have e:Int.negSucc 9223372036854775806=-9223372036854775807:=rfl
 refine bcd (λc1=>?_) (λc1=>?_)
 ·refine⟨⟨by omega,by omega⟩,?_⟩
  refine bcd (λc2=>?_) (λc2=>?_)
  ·exact ret (k1 (by omega))
  ·refine bcd (λc3=>?_) (λc3=>?_)
   ·omega
   ·exact fin (by omega) (by omega)
 ·refine bcd (λc3=>?_) (λc3=>?_)
  ·refine⟨⟨by omega,by omega⟩,?_⟩
   refine bcd (λc4=>?_) (λc4=>?_)
   ·exact ret (k2 (by omega))
   ·exact fin (by omega) (by omega)
  ·exact fin (by omega) (by omega)
theorem C7(a b:Int)(ha:ya a)(hb:ya b)(st:Store)(R:Ja)(h:R (int (yg a b)) st):Jb 303 [int a,int b] st R:=by
 refine Qa (c:=cfg 9) zb Tryz.func303 ?_
 refine zrj b hb _ _ ?_
 have h2:=vn hb
 exact Dz a (-nrm b) ha ⟨by omega,by omega⟩ _ _ (ret h)
theorem Vd(n:Int)(hn:ya n)(st:Store)(R:Ja)(h:R (.tup [u64 (asz n),bool (decide (nrm n<0))]) st):Jb 371 [int n] st R:=by
 refine Qa (c:=cfg 13) zb Tryz.func371 ?_
 refine Fj n _ _ ?_
 have h1:=vn hn
 unfold asz at h
 generalize nrm n=x at*
 refine bcd (λc1=>?_) (λc1=>?_)
 ·refine⟨⟨by omega,by omega⟩,?_⟩
  rw[if_pos c1,show decide (x<0)=true by simp[c1]]at h
  rw[<-Cb (v:=-x) (by omega) (by omega),show -x=0-x by omega]at h
  exact ret h
 ·rw[if_neg c1,show decide (x<0)=false by simp[c1]]at h
  rw[<-Cb (v:=x) (by omega) (by omega)]at h
  exact ret h
theorem P7(x y:Int)(hx:0<=x)(hx2:x<18446744073709551616)(hy:0<=y)(hy2:y<18446744073709551616)(st:Store)(R:Ja)(h:R (.tup (j6 (x*y))) st):
  Jb 339 [u64 x,u64 y] st R:=by
 refine Qa (c:=cfg 51) zb Tryz.func339 ?_
 refine⟨by decide,?_⟩
 refine⟨by decide,?_⟩
 refine⟨by decide,?_⟩
 refine⟨by decide,?_⟩
 refine⟨by decide,?_⟩
 refine ret ((congrArg (λl=>R (.tup l) st) ?_).mpr h)
 obtain⟨p00,p10,p01,p11,e1,e2,e3,e4,e5,b⟩:=rk x y hx hx2 hy hy2
 simp only[zmv,Vb hx,Vb hy,Vh,<-e1,<-e2,<-e3,<-e4]
 rw[Vb (Int.emod_nonneg _ (by decide))]
 unfold j6 u64
 refine congr (congrArg _ ?_) rfl
 refine congrArg (λn=>AV.s (.int .u64 n)) ?_
 omega
theorem Mt(x:Int)(hx:0<=x)(hx2:x<18446744073709551616)(st:Store)(R:Ja)(h:R (.agg (j6 (x*x))) st):Jb 365 [u64 x] st R:=by
 refine Qa (c:=cfg 14) zb Tryz.func365 ?_
 exact P7 x x hx hx2 hx hx2 _ _ (ret h)
theorem mc(a b:Int)(ha:0<=a)(hb:0<=b)(st:Store)(R:Ja)(h:R (bool (decide (a<b))) st):Jb 364 [.agg (j6 a),.agg (j6 b)] st R:=by
 refine Qa (c:=cfg 24) zb Tryz.func364 ?_
 refine bcd (λc1=>?_) (λc1=>?_)
 ·exact ret (isT h (by simp;omega))
 ·refine qs (λc2=>?_) (λc2=>?_)
  ·refine ret ?_
   have:decide (a<b)=decide (a%18446744073709551616<b%18446744073709551616):=by
    rw[Fb5];simp;omega
   rw[this]at h;exact h
  ·exact ret (isF h (by simp;omega))
theorem m4(x y c:Int)(hx:0<=x)(hy:0<=y)(hc:0<=c)(hc1:c<=1)(st:Store)(R:Ja)(h:R (.tup [u64 ((x+y+c)%18446744073709551616),u64 ((x+y+c)/18446744073709551616)]) st):
  Jb 440 [u64 x,u64 y,u64 c] st R:=by
 obtain⟨a,rfl⟩:=Fcn hx
 obtain⟨b,rfl⟩:=Fcn hy
 obtain⟨d,rfl⟩:=Fcn hc
 exact zzo Tryz.laysNm725 a b d (by omega) h
theorem nf(a b:Int)(ha:0<=a)(hb:0<=b)(hab:a+b<340282366920938463463374607431768211456)(st:Store)(R:Ja)(h:R (.agg (j6 (a+b))) st):Jb 407 [.agg (j6 a),.agg (j6 b)] st R:=by
 refine Qa (c:=cfg 29) zb Tryz.func407 ?_
 refine m4 (a%18446744073709551616) (b%18446744073709551616) 0 (by omega) (by omega) (by omega) (by omega) _ _ ?_
 refine m4 (a/18446744073709551616) (b/18446744073709551616) ((a%18446744073709551616+b%18446744073709551616+0)/18446744073709551616) (by omega) (by omega) (by omega) (by omega) _ _ ?_
 refine ret ((congrArg (λl=>R (.agg l) st) ?_).mpr h)
 refine nw ?_ ?_
 ·omega
 ·omega
theorem O4{v:Vc}(h:v.ok):0<=asz v.1*asz v.1/\0<=asz v.2*asz v.2/\asz v.1*asz v.1<=85070591730234615847396907784232501249/\asz v.2*asz v.2<=85070591730234615847396907784232501249:=by
 obtain⟨h1,h2⟩:=h
 have a1:=Hz h1
 have a2:=Hz h2
 have b:∀x:Int,0<=x->x<=9223372036854775807->0<=x*x/\x*x<=85070591730234615847396907784232501249:=by
  intro x h3 h4
  refine⟨Fa2 h3 h3,?_⟩
  have h5:x*x<=9223372036854775807*9223372036854775807:=Fbn h4 h4 h3 (by decide)
  exact h5
 have b1:=b _ a1.1 a1.2
 have b2:=b _ a2.1 a2.2
 exact⟨b1.1,b2.1,b1.2,b2.2⟩
theorem Wq(v:Vc)(hv:v.ok)(st:Store)(R:Ja)(h:R (.agg (j6 (sqr v))) st):Jb 363 [.agg (zx v)] st R:=by
 refine Qa (c:=cfg 24) zb Tryz.func363 ?_
 have a1:=Hz hv.1
 have a2:=Hz hv.2
 have b:=O4 hv
 refine Vd v.1 hv.1 _ _ ?_
 refine Vd v.2 hv.2 _ _ ?_
 refine Mt (asz v.1) (by omega) (by omega) _ _ ?_
 refine Mt (asz v.2) (by omega) (by omega) _ _ ?_
 exact nf _ _ (by omega) (by omega) (by omega) _ _ (ret h)
theorem Oa(a b:Vc)(ha:a.ok)(hb:b.ok)(st:Store)(R:Ja)(h:R (.agg (zx (qf a b))) st):Jb 302 [.agg (zx a),.agg (zx b)] st R:=by
 refine Qa (c:=cfg 16) zb Tryz.func302 ?_
 refine Qc zb zny ?_
 refine⟨C7 a.1 b.1 ha.1 hb.1 _ _ ⟨Qe,?_⟩,Tv⟩
 refine⟨C7 a.2 b.2 ha.2 hb.2 _ _ ⟨Qe,?_⟩,Tv⟩
 refine Qai ?_
 exact ret h
theorem Ob(a b:Vc):(qf a b).ok:=⟨Dq _ _,Dq _ _⟩
theorem K2(a b:Vc)(r:Int)(ha:a.ok)(hb:b.ok)(hr:r<=9223372036854775807)(st:Store)(R:Ja)(h:R (bool (near a b r)) st):Jb 295 [.agg (zx a),.agg (zx b),int r] st R:=by
 refine Qa (c:=cfg 17) zb Tryz.func295 ?_
 unfold near at h
 refine bcd (λc1=>?_) (λc1=>?_)
 ·exact ret (isF h (by simp;omega))
 ·have hb2:=O4 (Ob a b)
  refine Oa a b ha hb _ _ ?_
  refine Wq _ (Ob a b) _ _ ?_
  refine((congrArg (λn=>Jb 365 [.s (.int .u64 n)] st _) (Cb (v:=r) (by omega) (by omega))).mpr ?_)
  refine Mt r (by omega) (by omega) _ _ ?_
  refine mc _ _ ?_ (Fa2 (by omega) (by omega)) _ _ (ret ?_)
  ·unfold sqr;omega
  ·have:decide (0<r/\sqr (qf a b)<r*r)=decide (sqr (qf a b)<r*r):=by
    rw[Fb5];simp;omega
   rw[this]at h;exact h
theorem ztq(g:Gnd)(hg:zp g)(t:Nat)(ht:(t:Int)<g.W*g.H)(p:Vc)(hp:k7 p.1 p.2)(r:Int)(hr:0<r/\r<=262144)(st:Store)(R:Ja)(h:R (bool (decide (ve g t p r))) st):
  Jb 292 [.agg (zo g),int t,.agg (zx p),int r] st R:=by
 have hb:=D8 hg ht
 have hn:=zrm hg ht hp hr.1
 have hx:=Oq hg ht
 have hq:=K9 (t:=t) hg.1.1
 have hq2:=La (t:=t) hg.1.1
 have hg1:=hg.1
 have hg2:=hg.2.1
 have hp':=hp
 unfold k7 at hp'
 refine Qa (c:=cfg 41) zb Tryz.func292 ?_
 refine Qc zb zn1 ?_
 refine⟨by omega,?_⟩
 have q1:ya ((t:Int).tmod g.W*65536):=by rw[hq];unfold ya;omega
 have q2:ya ((t:Int).tdiv g.W):=by rw[hq2];unfold ya;omega
 have q3:ya ((t:Int).tdiv g.W*65536):=by rw[hq2];unfold ya;omega
 refine⟨q1,?_⟩
 refine⟨by omega,?_⟩
 refine⟨q2,?_⟩
 refine⟨q3,?_⟩
 refine Qai ?_
 refine Qaj ?_
 have e1:(t:Int).tmod g.W*65536=tx g t:=by rw[hq];rfl
 have e2:(t:Int).tdiv g.W*65536=ty g t:=by rw[hq2];rfl
 rw[e1,e2]
 refine Qd ?_
 refine Qd ?_
 have c1:=Nh (x:=p.1) hx.1
 have c2:=Nh (x:=p.2) hx.2
 refine K2 p (Bz p.1 (tx g t),Bz p.2 (ty g t)) r ⟨⟨by omega,by omega⟩,⟨by omega,by omega⟩⟩ ⟨⟨by dsimp only;omega,by dsimp only;omega⟩,⟨by dsimp only;omega,by dsimp only;omega⟩⟩ (by omega) _ _ (ret ?_)
 rw[hn]
 exact h
theorem zwr(p:Vc)(r:Int)(st:Store)(R:Ja)(h:∀z:Bool,(z=true↔(0<=r/\r<=262144)/\k7 p.1 p.2)->R (bool z) st):Jb 291 [.agg (zx p),int r] st R:=by
 refine Qa (c:=cfg 15) zb Tryz.func291 ?_
 repeat' (first|refine bcd (λ_=>?_) (λ_=>?_)|refine zk (λ_=>?_) (λ_=>?_)|refine Qd ?_|(refine zqs p _ _ ?_;rintro(_|_) hz)|fail)
 all_goals
  refine ret (h _ ?_)
  simp only[decide_eq_true_eq,decide_eq_false_iff_not,Fag,false_iff,true_iff,beq_iff_eq,bne_iff_ne,beq_eq_false_iff_ne,ne_eq,reduceCtorEq,k7]at*
  omega
theorem bk(r:Int)(hr:0<r/\r<=262144)(st:Store)(R:Ja)(h:R (int r) st):Jb 296 [int r] st R:=by
 refine Qa (c:=cfg 6) zb Tryz.func296 ?_
 have e:min2 (max2 r 0) 262144=r:=by rw[min2_eq,Mb];omega
 rw[<-e]at h
 exact ret h
theorem mq(p:Vc)(r:Int)(q:Vc)(s:Int)(hp:p.ok)(hq:q.ok)(hr:0<r/\r<=262144)(hs:0<s/\s<=262144)(st:Store)(R:Ja)(h:R (bool (kb p r q s)) st):
  Jb 199 [.agg (zx p),int r,.agg (zx q),int s] st R:=by
 refine Qa (c:=cfg 18) zb Tryz.func199 ?_
 refine Qc zb zog ?_
 refine⟨bk r hr _ _ ⟨Qe,?_⟩,Tv⟩
 refine⟨bk s hs _ _ ⟨Qe,?_⟩,Tv⟩
 refine Qd ?_
 refine⟨K2 p q (r+s) hp hq (by omega) _ _ ⟨Tv,?_⟩,Tv⟩
 exact⟨⟨Tv,ret h⟩,Tv⟩
theorem zx7(l:List Bld)(hl:l.length<=1000000000000)(st:Store)(R:Ja)(h:∀z:Bool,(z=true↔Lq l)->R (bool z) st):Jb 281 [lst 6 zn l] st R:=by
 refine Qa (c:=cfg 22) zb Tryz.func281 ?_
 refine AWp.loop (σ:=Nat) ⟨λi=>[(0,.av (lst 6 zn l)),(3,.av (int (i:Nat)))],λ_=>[],
  λi st'=>1<=i/\(i<=l.length\/i=1)/\st'=st/\∀j,(h:j<l.length)->j<i->0<j->(l[j-1]'(by omega)).id<l[j].id,λi=>l.length-i⟩ zb ?_ ?_
 ·exact⟨1,Tv,⟨Fak _,.inr rfl,rfl,λj _ hj=>by omega⟩,⟨Tq,Tq,Tv⟩,Tv⟩
 ·rintro i st' ⟨hi1,hi,rfl,hall⟩
  refine zk (λh1=>?_) (λh1=>?_)
  ·have hlt:i<l.length:=Av h1
   refine Qc zb zn3 ?_
   refine Qd ?_
   refine⟨i-1,by omega,za _ (yd (show i-1<l.length by omega)) ?_⟩
   refine⟨i,rfl,za _ (yd hlt) ?_⟩
   refine bcd (λh2=>ret (h _ ?_)) (λh2=>?_)
   ·simp only[Fag,false_iff]
    intro h3
    have:=h3 i hlt (by omega)
    omega
   ·refine Qd ?_
    refine⟨i+1,?_,⟨by omega,.inl hlt,rfl,λj hj h0 h00=>?_⟩,⟨Tq,Tq,Tv⟩,Tv⟩
    ·show l.length-(i+1)<l.length-i
     omega
    ·by_cases hji:j=i
     ·subst hji
      omega
     ·exact hall j hj (by omega) h00
  ·have hge:¬i<l.length:=by
    rw[zr]at h1
    simpa using h1
   refine ret (h _ ?_)
   simp only[true_iff]
   exact λj hj h0=>hall j hj (by omega) h0
theorem Ot(g:Gnd)(hg:zp g)(b:Bld)(hb:yv b/\onP g b)(st:Store)(R:Ja)(h:R (jz (kk g.W b)) st):Jb 285 [.agg (zo g),.agg (zn b)] st R:=by
 have hb':=hb
 unfold yv onP at hb'
 have hg1:=hg.1
 have hg2:=hg.2.1
 refine Qa (c:=cfg 35) zb Tryz.func285 ?_
 refine AWp.loop (σ:=Nat×AV) ⟨λs=>[(2,.bx 2 0),(3,.bx 3 0),(4,.av s.2),(8,.av (int b.h)),(9,.av (int (s.1:Nat)))],λ_=>[(2,zo g),(3,zn b)],
  λs st'=>s.1<=b.h.toNat/\App 1 st s.2 (rws yo (v8 g.W b s.1)) st',λs=>b.h.toNat-s.1⟩ zb ?_ ?_
 ·exact⟨(0,_),Tv,⟨Faq _,App.start 1 st⟩,⟨Tq,Tq,Tq,Tq,Tq,Tv⟩,⟨rfl,rfl,Tv⟩⟩
 rintro⟨y,v⟩ st' ⟨hy,ha⟩
 dsimp only at hy ha⊢
 refine bcd (λh1=>?_) (λh1=>?_)
 rotate_left
 ·have:y=b.h.toNat:=by omega
  subst this
  exact⟨_,st,AV.le_trans ha.le (Tt),ha.has,h⟩
 refine AWp.loop (σ:=Nat×AV) ⟨λs=>[(2,.bx 2 0),(3,.bx 3 0),(4,.av s.2),(5,.av (int (y:Nat))),(8,.av (int b.h)),(9,.av (int (y:Nat))),(13,.av (int b.w)),(14,.av (int (s.1:Nat)))],λ_=>[(2,zo g),(3,zn b)],
  λs st'=>s.1<=b.w.toNat/\App 1 st s.2 (rws yo (v8 g.W b y++vk g.W b y s.1)) st',λs=>b.w.toNat-s.1⟩ zb ?_ ?_
 ·refine⟨(0,v),Tv,⟨Faq _,?_⟩,Qaf,⟨rfl,rfl,Tv⟩⟩
  dsimp only
  rw[show vk g.W b y 0=[]from rfl,Fcf]
  exact ha
 rintro⟨x,v2⟩ st2 ⟨hx,ha2⟩
 dsimp only at hx ha2⊢
 refine bcd (λh2=>?_) (λh2=>?_)
 rotate_left
 ·have:x=b.w.toNat:=by omega
  subst this
  refine Qd ?_
  refine⟨(y+1,v2),?_,⟨by dsimp only;omega,?_⟩,Qaf,⟨rfl,rfl,Tv⟩⟩
  ·show b.h.toNat-(y+1)<b.h.toNat-y
   omega
  ·dsimp only
   rw[Ou]
   exact ha2
 obtain⟨q1,q2,_⟩:=Ig hg (x:=b.x+x) (y:=b.y+y) (by omega) (by omega)
 have hm:=qm hg
 have q3:0<=g.W*(b.y+(y:Int)):=Fa2 (by omega) (by omega)
 refine Qd ?_
 refine Qd ?_
 refine Qd ?_
 refine Qd ?_
 refine⟨by decide,?_⟩
 have hlen:(v8 g.W b y++vk g.W b y x).length<=16:=by
  rw[Faj,Ov,Wa]
  have:y*b.w.toNat<=3*4:=Fdp (by omega) (by omega)
  omega
 refine No (ie:=ti2) (rows':=[yo (b.x+(x:Int)+g.W*(b.y+(y:Int)))]) ha2 ?_ ?_ ⟨?_,?_⟩ (λv3 st3 ha3=>?_)
 ·rfl
 ·rfl
 ·simp only[zr,Fbp,ti2];omega
 ·simp only[zr,Fbp];omega
 refine Qd ?_
 refine⟨(x+1,v3),?_,⟨by dsimp only;omega,?_⟩,Qaf,⟨rfl,rfl,Tv⟩⟩
 ·show b.w.toNat-(x+1)<b.w.toNat-x
  omega
 ·dsimp only
  rw[ro,<-Fa1]
  unfold rws
  rw[Fbj]
  exact ha3
section
variable {st:Store} {v:AV}
theorem io(n:Int)(hn:ya n)(st:Store)(R:Ja)(h:R (int (nrm n/131072)) st):Jb 354 [int n] st R:=by
 refine Qa (c:=cfg 15) zb Tryz.func354 ?_
 refine Fj n _ _ ?_
 have hb:=vn hn
 generalize nrm n=x at*
 refine bcd (λc1=>?_) (λc1=>?_)
 ·refine⟨⟨by omega,by omega⟩,?_⟩
  refine⟨⟨by omega,by omega⟩,?_⟩
  refine⟨by decide,?_⟩
  have e:(0-x-1).tdiv 131072=(0-x-1)/131072:=Fa7 (by omega)
  rw[e]
  refine⟨⟨by omega,by omega⟩,?_⟩
  refine⟨⟨by omega,by omega⟩,?_⟩
  refine⟨⟨by omega,by omega⟩,?_⟩
  rw[show x/131072=0-((0-x-1)/131072+1) by omega]at h
  exact ret h
 ·refine⟨by decide,?_⟩
  have e:x.tdiv 131072=x/131072:=Fa7 (by omega)
  rw[e]
  exact⟨⟨by omega,by omega⟩,ret h⟩
theorem Bo(p:Vc)(hp:p.ok)(st:Store)(R:Ja)(h:R (.agg [int (zl p).1,int (zl p).2]) st):Jb 288 [.agg (zx p)] st R:=by
 refine Qa (c:=cfg 10) zb Tryz.func288 ?_
 refine Qc zb zn2 ?_
 refine⟨io p.1 hp.1 _ _ ⟨Qe,?_⟩,Tv⟩
 refine⟨io p.2 hp.2 _ _ ⟨Qe,?_⟩,Tv⟩
 refine Qai ?_
 exact ret h
theorem lv(R:Ja)(h:∀a p,CellsOf a p []->R (.s (.pointer (some ⟨p,0,none⟩))) a):Jb 193 [] Store.empty R:=by
 refine Qa (c:=cfg 5 [4] []) zb Tryz.func193 ?_
 refine Dy rfl (λma hma=>?_)
 refine Dy rfl (λmi hmi=>?_)
 intro p hp
 have h1:mi≠ma:=λe=>by have:=hmi.1;rw[e,zc]at this;cases this
 have h2:p≠mi:=λe=>by have:=hp.1;rw[e,zc]at this;cases this
 have h3:p≠ma:=λe=>by have:=hp.1;rw[e,ze (Ne.symm h1),zc]at this;cases this
 refine ret (h _ _ ⟨ma,mi,[],0,[],[],0,⟨zc _ _ _,?_,?_,Ne.symm h1,(λg hg=>(by cases hg)),Fdr⟩,⟨Fdr,Fdr,(λg hg=>(by cases hg)),(λg hg=>(by cases hg)),(λg hg=>(by cases hg))⟩⟩)
 ·rw[ze (Ne.symm h3),ze (Ne.symm h1)];exact zc _ _ _
 ·rw[ze (Ne.symm h2)];exact zc _ _ _
theorem l5{ns:List Int}(hv:Ints st v ns)(x:Int)(hlen:ns.length<4611686018427387904)(hs:ns.Pairwise (·<=·))(R:Ja)
  (h:R (.tup [int (ns.countP (·<x):Nat),bool (ns.contains x)]) st):Jb 289 [v,int x] st R:=
 zm4 Tryz.laysNm225 Tryz.func289 rfl rfl hv x hlen hs h
theorem iv{b cap i j:Nat}{ns:List Int}{L:List AV}(ho:st.obj b=some (.cells (ns.map aI++L)))
  (hc1:ns.length<=cap) (hc2:cap<=9223372036854775807) (hij:i<=j) (hj:j<=ns.length) (R:Ja)
  (h:R (.s (.slice (some ⟨b,0,none⟩) (ns.take i++ns.drop j).length cap)) (st.sO b (.cells ((ns.take i++ns.drop j).map aI++(List.replicate (j-i) (aI 0)++L))))):
  Jb 308 [.s (.slice (some ⟨b,0,none⟩) ns.length cap),int i,int j] st R:=
 zwt Tryz.laysNm223 Tryz.func308 rfl rfl ho hc1 hc2 hij hj h
theorem Rr{ns:List Int}(hv:Ints st v ns){vb:Nat}(x:Int)(i:Nat)(hi:i<=ns.length)
  (hvb:st.obj vb=some (.cells [aI x])) (hne:∀b cap,v=.s (.slice (some ⟨b,0,none⟩) ns.length cap)->b≠vb) (hlen:(ns.length+1)*8<=140737488355328) (R:Ja)
  (h:∀b cap L,(Fresh st b\/∃c0,v=.s (.slice (some ⟨b,0,none⟩) ns.length c0))->(ns.take i++x::ns.drop i).length<=cap->cap<=(ns.take i++x::ns.drop i).length+L.length->cap<=9223372036854775807->
   R (.s (.slice (some ⟨b,0,none⟩) (ns.take i++x::ns.drop i).length cap)) (st.sO b (.cells ((ns.take i++x::ns.drop i).map aI++L)))):
  Jb 290 [v,int i,.s (.slice (some ⟨vb,0,none⟩) 1 1)] st R:=
 zs7 Tryz.laysNm221 Tryz.func290 rfl rfl hv x i hi hvb hne hlen h
theorem Si{l:List Ent}{G:List Grp}(h:Inv l G):∀g∈G,g.ns.length<=l.length:=by
 intro g hg
 have h1:=(h.s g hg).1
 have h2:g.ns.Nodup:=h1.imp λh e=>by omega
 have h3:g.ns ⊆ l.map (·.1):=λid hid=>by
  obtain⟨e,he,h4,_⟩:=(h.m1 g hg id).1 hid
  exact Fad.2 ⟨e,he,h4⟩
 have:=Fbm h2 h3
 simpa using this
theorem Ww{ns:List Int}(h:ns.Pairwise (·<·)):ns.Pairwise (·<=·):=h.imp λh=>by omega
theorem lu{a:Store}{p:Nat}{l:List Ent}(hc:CellsOf a p l)(hl:l.length<=1000000000)(hok:∀e∈l,e.2.ok)(id:Int)(R:Ja)
  (h:∀a',CellsOf a' p (yr l id)->R (bool (l.find? (j2 id)).isSome) a'):Jb 221 [.s (.pointer (some ⟨p,0,none⟩)),int id] a R:=by
 obtain⟨ma,mi,bs1,c1,G,bs2,c2,ha,hi⟩:=hc
 refine Qa (c:=cfg 60) zb Tryz.func221 ?_
 refine za _ ha.hp ?_
 refine kc rfl (it:=ti363) (ie:=ti33) (ik:=ti2) rfl rfl rfl rfl ha.ha rfl (qA id) (λe he=>?_) ?_
 ·obtain⟨e,_,rfl⟩:=Fad.1 he
  rfl
 rw[gy]
 cases hf:l.find? (j2 id)with
 |none=>
  rw[hf]at h
  refine ret (h a ?_)
  rw[zv4 hf]
  exact⟨ma,mi,bs1,c1,G,bs2,c2,ha,hi⟩
 |some e=>
  rw[hf]at h
  obtain⟨hem,heq⟩:=Ki hf
  have hid:e.1=id:=(by simpa [j2]using heq:id=e.1).symm
  refine Bo e.2 (hok e hem) _ _ ?_
  obtain⟨g,hg,hk⟩:=hi.m2 e hem
  have hfg:∃g',G.find? (Bd (zl e.2))=some g':=by
   cases hx:G.find? (Bd (zl e.2))with
   |some g'=>exact⟨g',rfl⟩
   |none=>exact absurd (atKey_iff.2 hk) (by simpa using Fcu.1 hx g hg)
  obtain⟨g',hfg⟩:=hfg
  have hg':=Ki hfg
  have:g'=g:=zsv hi.n2 hg hg'.1 (by rw[hk];exact atKey_iff.1 hg'.2)
  subst this
  obtain⟨j,hj1,hj2⟩:=R4 hfg
  obtain⟨k1,k2,k3⟩:=ha.hg g' hg
  obtain⟨s1,s2⟩:=hi.s g' hg
  have hin:id∈g'.ns:=(hi.m1 g' hg id).2 ⟨e,hem,hid,hk.symm⟩
  obtain⟨d1,d2,d3⟩:=zwu s1 hin
  have hlen:=Si hi g' hg
  refine Qc zb zn5 ?_
  refine za (o:=a.obj p) _ ha.hp ?_
  refine⟨kc rfl (it:=ti364) (ie:=ti29) (ik:=ti33) rfl rfl rfl rfl ha.hi rfl (qG (zl e.2).1 (zl e.2).2) (λe he=>?_) ⟨Qe,?_⟩,Tv⟩
  ·obtain⟨e,_,rfl⟩:=Fad.1 he
   rfl
  rw[Kk,hfg]
  refine Qai ?_
  refine l5 (.inr ⟨g'.b,g'.cap,g'.L,rfl,k1,k2⟩) id (by omega) (Ww s1) _ ?_
  refine⟨⟨by omega,by omega⟩,?_⟩
  refine iv k1 k2.1 k2.2.2 (Nat.le_add_right _ 1) d1 _ ?_
  generalize hns:g'.ns.take (g'.ns.countP λx=>decide (x<id))++g'.ns.drop (g'.ns.countP (λx=>decide (x<id))+1)=ns' at*
  obtain⟨n1,n2,n3⟩:=ha.g_ne hg
  have mid:=ha.mid (.cells (ns'.map aI++(List.replicate (g'.ns.countP (λx=>decide (x<id))+1-g'.ns.countP (λx=>decide (x<id))) (aI 0)++g'.L))) n3 n1 n2
  rw[show g'.ns.countP (λx=>decide (x<id))+1-g'.ns.countP (λx=>decide (x<id))=1 by omega]at mid⊢
  have hnl:ns'.length+1=g'.ns.length:=by rw[<-hns];simp;omega
  obtain⟨v1,v2⟩:=zs1 hi hem hj2 hk d2 (by rw[hid];exact d3)
  obtain⟨i,hi1,hi2⟩:=R4 hf
  have her:(l.map jq).eraseIdx i=(yr l id).map jq:=by rw[M6,zvu hi.n1 hi2,hid]
  refine qs (λhz=>?_) (λhz=>?_)
  ·have hn0:ns'=[]:=Fav (by omega)
   refine Qc zb zn4 ?_
   refine za (o:=(a.sO g'.b _).obj p) _ mid.hp ?_
   refine⟨Nw rfl rfl rfl rfl (it:=ti364) (ik:=ti33) rfl rfl rfl mid.hi rfl (qG (zl e.2).1 (zl e.2).2) (λe he=>?_) ⟨Qe,?_⟩,Tv⟩
   ·obtain⟨e,_,rfl⟩:=Fad.1 he
    rfl
   have m1:=mid.setI (G':=G.eraseIdx j) (bs2.eraseIdx j) c2 (λg1 h1=>.inl ?_) (mid.nd.sublist ((List.eraseIdx_sublist ..).map _))
   rotate_left
   ·obtain⟨q1,q2⟩:=(L9 (f:=Grp.key) hi.n2 hj2).1 h1
    refine⟨q1,λe=>q2 ?_⟩
    obtain⟨i1,hi1⟩:=Fay.1 q1
    have:=Aa (f:=λg:Grp=>g.b) ha.nd hi1 hj2 e
    subst this
    rw[hj2]at hi1
    cases hi1;rfl
   have e1:Ab (G.map jo) bs2 c2 (qG (zl e.2).1 (zl e.2).2)=.map ((G.eraseIdx j).map jo) (bs2.eraseIdx j) c2:=by
    unfold Ab
    rw[My,hj1]
    simp only[M6]
   rw[e1]
   refine za _ m1.hp ?_
   refine Nw rfl rfl rfl rfl (it:=ti363) (ik:=ti2) rfl rfl rfl m1.ha rfl (qA id) (λe he=>?_) ?_
   ·obtain⟨e,_,rfl⟩:=Fad.1 he
    rfl
   have e2:Ab (l.map jq) bs1 c1 (qA id)=.map ((yr l id).map jq) (bs1.eraseIdx i) c1:=by
    unfold Ab
    rw[Mz,hi1]
    simp only[her]
   rw[e2]
   have m2:=m1.setA (yr l id) (bs1.eraseIdx i) c1
   rw[hid]at v1
   exact ret (h _ ⟨ma,mi,_,_,_,_,_,m2,v1 hn0⟩)
  ·have hn0:ns'≠[]:=λe=>by rw[e]at hz;exact hz rfl
   refine Qc zb zn6 ?_
   refine za (o:=(a.sO g'.b _).obj p) _ mid.hp ?_
   refine⟨Be (.inl rfl) rfl (it:=ti364) (ik:=ti33) rfl rfl rfl mid.hi rfl rfl (qG (zl e.2).1 (zl e.2).2) (λe he=>?_) (λe1 he hq=>?_) ⟨Qe,?_⟩,Tv⟩
   ·obtain⟨e,_,rfl⟩:=Fad.1 he
    rfl
   ·obtain⟨g1,_,rfl⟩:=Fad.1 he
    have:=(atKey_iff (k:=zl e.2) (g:=g1)).1 hq
    show AV.agg [int g1.x,int g1.y]=_
    rw[<-this];rfl
   let g2:Grp:=⟨g'.x,g'.y,ns',g'.b,g'.cap,List.replicate 1 (aI 0)++g'.L⟩
   have e1:jc (G.map jo) bs2 c2 (qG (zl e.2).1 (zl e.2).2) (.agg [int (zl e.2).1,int (zl e.2).2]) (.s (.slice (some ⟨g'.b,0,none⟩) ns'.length g'.cap))=.map ((G.set j g2).map jo) bs2 c2:=by
    unfold jc
    rw[My,hj1,List.map_set]
    simp only
    congr 2
    show _=(AV.agg [int g'.x,int g'.y],_)
    rw[<-hk];rfl
   have m1:=mid.setI (G':=G.set j g2) bs2 c2 (λg1 h1=>?_) (by rw[Rf (λg:Grp=>g.b) (g':=g2) hj2 rfl];exact mid.nd)
   rotate_left
   ·rcases(Ar (f:=λg:Grp=>g.b) ha.nd hj2).1 h1 with rfl|⟨q1,q2⟩
    ·refine .inr ⟨zc _ _ _,⟨?_,?_,k2.2.2⟩,k3⟩
     ·show ns'.length<=g'.cap
      have:=k2.1;omega
     ·show g'.cap<=ns'.length+(List.replicate 1 (aI 0)++g'.L).length
      have:=k2.2.1
      simp;omega
    ·exact .inl ⟨q1,q2⟩
   rw[<-e1]at m1
   refine za _ m1.hp ?_
   refine Nw rfl rfl rfl rfl (it:=ti363) (ik:=ti2) rfl rfl rfl m1.ha rfl (qA id) (λe he=>?_) ?_
   ·obtain⟨e,_,rfl⟩:=Fad.1 he
    rfl
   have e2:Ab (l.map jq) bs1 c1 (qA id)=.map ((yr l id).map jq) (bs1.eraseIdx i) c1:=by
    unfold Ab
    rw[Mz,hi1]
    simp only[her]
   rw[e2]
   have m2:=m1.setA (yr l id) (bs1.eraseIdx i) c1
   rw[hid]at v2
   exact ret (h _ ⟨ma,mi,_,_,_,_,_,m2,v2 hn0 g2 rfl rfl⟩)
end
theorem Ko{l:List Ent}{id:Int}:∀e∈yr l id,e.1≠id:=λe he=>(mem_dropId.1 he).2
theorem zv5(l:List Ent)(id:Int):(yr l id).length<=l.length:=Fdt _ _
theorem zxv{a:Store}{p:Nat}{l:List Ent}(hc:CellsOf a p l)(hl:l.length<=1000000000)(hok:∀e∈l,e.2.ok)(id:Int)(pos:Vc)(hpos:pos.ok)(R:Ja)
  (h:∀a',CellsOf a' p (yr l id++[(id,pos)])->R (.tup []) a'):Jb 194 [.s (.pointer (some ⟨p,0,none⟩)),int id,.agg (zx pos)] a R:=by
 refine Qa (c:=cfg 46 [38,1000038] []) zb Tryz.func194 ?_
 refine lu hc hl hok id _ (λa1 hc1=>?_)
 obtain⟨ma,mi,bs1,c1,G,bs2,c2,ha,hi⟩:=hc1
 refine Bo pos hpos _ _ ?_
 obtain⟨cur,ns,e1,e2,e3,e4,e5,e6⟩:=zqh (pos:=pos) ha hi Ko
 have hnl:ns.length<=1000000000:=by
  rcases e4 with rfl|⟨g,hg,rfl⟩
  ·simp
  ·have h1:=Si hi g hg
   have h2:=zv5 l id
   omega
 have hle:=zw2 id ns
 refine Qc zb zoj ?_
 refine za (o:=a1.obj p) _ ha.hp ?_
 refine⟨kc rfl (it:=ti364) (ie:=ti29) (ik:=ti33) rfl rfl rfl rfl ha.hi rfl (qG (zl pos).1 (zl pos).2) (λe he=>?_) ⟨Qe,?_⟩,Tv⟩
 ·obtain⟨e,_,rfl⟩:=Fad.1 he
  rfl
 rw[Kk,show wn ti29=.s (.slice none 0 0)from rfl,e1]
 refine⟨l5 e2 id (by omega) (Ww e3) _ ⟨Qe,?_⟩,Tv⟩
 refine Qai ?_
 refine Qai ?_
 refine Qc zb zoi ?_
 refine za (o:=a1.obj p) _ ha.hp ?_
 refine za (o:=a1.obj p) _ ha.hp ?_
 refine⟨kc rfl (it:=ti364) (ie:=ti29) (ik:=ti33) rfl rfl rfl rfl ha.hi rfl (qG (zl pos).1 (zl pos).2) (λe he=>?_) ⟨?_,?_⟩,?_⟩
 ·obtain⟨e,_,rfl⟩:=Fad.1 he
  rfl
 ·repeat(first|exact Tv|refine⟨rfl,?_⟩|refine⟨za (o:=a1.obj p) _ ha.hp rfl,?_⟩)
 ·rw[Kk,show wn ti29=.s (.slice none 0 0)from rfl,e1]
  refine⟨⟨by decide,λvb hvb=>?_⟩,Tv⟩
  have hp1:=(ha.fresh (.cells [aI id]) hvb).hp
  refine⟨?_,?_⟩
  ·repeat(first|exact Tv|refine⟨rfl,?_⟩|refine⟨za (o:=(a1.sO vb (.cells [aI id])).obj p) _ hp1 rfl,?_⟩)
  refine⟨Rr (e2.fresh _ hvb) id _ hle (zc _ _ _) (λb cap hc he=>e5 b cap hc (he▸hvb.1)) (by omega) _ (λb cap L q1 q2 q3 q4=>?_),Tv⟩
  obtain⟨w1,w2,G',bs2',c2',w3,w4,w5⟩:=e6 vb _ b cap L hvb q1 q2 q3 q4
  refine⟨?_,?_⟩
  ·repeat(first|exact Tv|refine⟨rfl,?_⟩|refine⟨za (o:=Store.obj (Store.sO _ b _) p) _ w2 rfl,?_⟩)
  refine⟨Be (.inl rfl) rfl (it:=ti364) (ik:=ti33) rfl rfl rfl w1 rfl rfl (qG (zl pos).1 (zl pos).2) (λe he=>?_) (λe1 he hq=>?_) ⟨Qe,?_⟩,Tv⟩
  ·obtain⟨e,_,rfl⟩:=Fad.1 he
   rfl
  ·obtain⟨g1,_,rfl⟩:=Fad.1 he
   have:=(atKey_iff (k:=zl pos) (g:=g1)).1 hq
   show AV.agg [int g1.x,int g1.y]=_
   rw[<-this];rfl
  rw[w3]
  refine Qc zb ba ?_
  refine za (o:=Store.obj (Store.sO _ mi _) p) _ w4.hp ?_
  refine⟨Be (.inl rfl) rfl (it:=ti363) (ik:=ti2) rfl rfl rfl w4.ha rfl rfl (qA id) (λe he=>?_) (λe1 he hq=>?_) ⟨Qe,?_⟩,Tv⟩
  ·obtain⟨e,_,rfl⟩:=Fad.1 he
   rfl
  ·obtain⟨g1,hg1,rfl⟩:=Fad.1 he
   have:id=g1.1:=by simpa [qA,jq,int]using hq
   exact absurd this.symm (Ko g1 hg1)
  have e7:jc ((yr l id).map jq) bs1 c1 (qA id) (int id) (.agg (zx pos))=.map ((yr l id++[(id,pos)]).map jq) (bs1++[c1]) (c1+1):=by
   unfold jc
   have:(yr l id).findIdx? (j2 id)=none:=by
    rw[Fbu]
    intro e he
    have:=Ko e he
    simp[j2]
    exact λh=>this h.symm
   rw[Mz,this,Fbj]
   rfl
  have w6:=w4.setA (yr l id++[(id,pos)]) (bs1++[c1]) (c1+1)
  rw[<-e7]at w6
  exact ret (h _ ⟨ma,mi,_,_,G',_,_,w6,w5⟩)
 ·refine⟨⟨by decide,λvb hvb=>?_⟩,Tv⟩
  have ha1:=ha.fresh (.cells [aI id]) hvb
  have hp1:=ha1.hp
  refine⟨?_,?_⟩
  ·repeat(first|exact Tv|refine⟨rfl,?_⟩|refine⟨za (o:=(a1.sO vb (.cells [aI id])).obj p) _ hp1 rfl,?_⟩)
  refine⟨kc rfl (it:=ti364) (ie:=ti29) (ik:=ti33) rfl rfl rfl rfl ha1.hi rfl (qG (zl pos).1 (zl pos).2) (λe he=>?_) ⟨?_,?_⟩,Tv⟩
  ·obtain⟨e,_,rfl⟩:=Fad.1 he
   rfl
  ·repeat(first|exact Tv|refine⟨rfl,?_⟩|refine⟨za (o:=(a1.sO vb (.cells [aI id])).obj p) _ hp1 rfl,?_⟩)
  rw[Kk,show wn ti29=.s (.slice none 0 0)from rfl,e1]
  refine⟨Rr (e2.fresh _ hvb) id _ hle (zc _ _ _) (λb cap hc he=>e5 b cap hc (he▸hvb.1)) (by omega) _ (λb cap L q1 q2 q3 q4=>?_),Tv⟩
  obtain⟨w1,w2,G',bs2',c2',w3,w4,w5⟩:=e6 vb _ b cap L hvb q1 q2 q3 q4
  refine⟨?_,?_⟩
  ·repeat(first|exact Tv|refine⟨rfl,?_⟩|refine⟨za (o:=Store.obj (Store.sO _ b _) p) _ w2 rfl,?_⟩)
  refine⟨Be (.inl rfl) rfl (it:=ti364) (ik:=ti33) rfl rfl rfl w1 rfl rfl (qG (zl pos).1 (zl pos).2) (λe he=>?_) (λe1 he hq=>?_) ⟨Qe,?_⟩,Tv⟩
  ·obtain⟨e,_,rfl⟩:=Fad.1 he
   rfl
  ·obtain⟨g1,_,rfl⟩:=Fad.1 he
   have:=(atKey_iff (k:=zl pos) (g:=g1)).1 hq
   show AV.agg [int g1.x,int g1.y]=_
   rw[<-this];rfl
  rw[w3]
  refine Qc zb ba ?_
  refine za (o:=Store.obj (Store.sO _ mi _) p) _ w4.hp ?_
  refine⟨Be (.inl rfl) rfl (it:=ti363) (ik:=ti2) rfl rfl rfl w4.ha rfl rfl (qA id) (λe he=>?_) (λe1 he hq=>?_) ⟨Qe,?_⟩,Tv⟩
  ·obtain⟨e,_,rfl⟩:=Fad.1 he
   rfl
  ·obtain⟨g1,hg1,rfl⟩:=Fad.1 he
   have:id=g1.1:=by simpa [qA,jq,int]using hq
   exact absurd this.symm (Ko g1 hg1)
  have e7:jc ((yr l id).map jq) bs1 c1 (qA id) (int id) (.agg (zx pos))=.map ((yr l id++[(id,pos)]).map jq) (bs1++[c1]) (c1+1):=by
   unfold jc
   have:(yr l id).findIdx? (j2 id)=none:=by
    rw[Fbu]
    intro e he
    have:=Ko e he
    simp[j2]
    exact λh=>this h.symm
   rw[Mz,this,Fbj]
   rfl
  have w6:=w4.setA (yr l id++[(id,pos)]) (bs1++[c1]) (c1+1)
  rw[<-e7]at w6
  exact ret (h _ ⟨ma,mi,_,_,G',_,_,w6,w5⟩)
def ptr(b:Nat):AV:=.s (.pointer (some ⟨b,0,none⟩))
theorem Wd{F N:Store}(hd:zh F N){p:Nat}{l:List Ent}(hc:CellsOf F p l){b3 b4 b5 b6:Nat}{q:Vc}{r:Int}{v:AV}{acc:List Int}(hN:NearAt N b3 b4 b5 b6 p q r v acc)(hq:q.ok)(hr:r<=9223372036854775807)
  {e:Ent} (he:l.find? (j2 e.1)=some e) (hok:e.2.ok) (hlen:acc.length<=1000000000000) (R:Ja)
  (h:∀N' v',zh F N'->NearAt N' b3 b4 b5 b6 p q r v' (if near q e.2 r then acc++[e.1]else acc)->R (.tup []) (F.un N')):
  Jb 361 [int e.1,ptr b4,ptr b3,ptr b5,ptr b6] (F.un N) R:=by
 obtain⟨ma,mi,bs1,c1,G,bs2,c2,ha,hi⟩:=hc
 refine Qa (c:=cfg 19) zb Tryz.func361 ?_
 refine Qc zb znt ?_
 refine za (o:=(F.un N).obj b4) _ (zd hN.h4) ?_
 refine za (o:=(F.un N).obj b3) _ (zd hN.h3) ?_
 refine za (o:=(F.un N).obj p) _ (yn hd ha.hp) ?_
 refine za (o:=(F.un N).obj b5) _ (zd hN.h5) ?_
 refine⟨kc rfl (it:=ti363) (ie:=ti33) (ik:=ti2) rfl rfl rfl rfl (yn hd ha.ha) rfl (qA e.1) (λe he=>?_) ⟨?_,?_⟩,Tv⟩
 ·obtain⟨e,_,rfl⟩:=Fad.1 he
  rfl
 ·repeat(first|exact Tv|refine⟨rfl,?_⟩|refine⟨za (o:=(F.un N).obj b4) _ (zd hN.h4) rfl,?_⟩|refine⟨za (o:=(F.un N).obj b5) _ (zd hN.h5) rfl,?_⟩)
 rw[gy,he]
 refine⟨K2 q e.2 r hq hok hr _ _ ⟨Tv,?_⟩,Tv⟩
 cases hn:near q e.2 r with
 |false=>
  rw[hn]at h
  exact ret (h N v hd hN)
 |true=>
  rw[hn]at h
  refine za (o:=(F.un N).obj b6) _ (zd hN.h6) ?_
  refine⟨by decide,?_⟩
  refine zy1 (ie:=ti2) rfl rfl rfl hN.hv.un e.1 hlen (λb cap L q1 q2 q3 q4=>?_)
  have q1':Fresh N b\/∃c0,v=.s (.slice (some ⟨b,0,none⟩) acc.length c0):=q1.imp (λh=>(fresh_un h).2) id
  have hN':=hN.app q1' q2 q3 q4
  rw[zm]
  have hd1:zh F (N.sO b (.cells ((acc++[e.1]).map aI++L))):=by
   rcases q1 with q1|⟨c0,q1⟩
   ·exact disj_setR hd (fresh_un q1).1
   ·rcases hN.hv with⟨h1,_⟩|⟨b',_,_,h1,h2,_⟩
    ·rw[h1]at q1;cases q1
    ·rw[h1]at q1
     simp at q1
     exact Hr hd (q1.1▸h2)
  have hd2:=Hr (x:=.cells [.s (.slice (some ⟨b,0,none⟩) (acc++[e.1]).length cap)]) hd1 (b:=b6) (y:=.cells [v]) (by
   have hne:b6≠b:=by
    rcases q1' with q1|⟨c0,q1⟩
    ·exact Ne.symm (q1.ne_obj hN.h6)
    ·exact Ne.symm (hN.nv b _ _ q1).2.2.2
   rw[ze hne];exact hN.h6)
  have h6':(N.sO b (.cells ((acc++[e.1]).map aI++L))).obj b6=some (.cells [v]):=by
   have hne:b6≠b:=by
    rcases q1' with q1|⟨c0,q1⟩
    ·exact Ne.symm (q1.ne_obj hN.h6)
    ·exact Ne.symm (hN.nv b _ _ q1).2.2.2
   rw[ze hne];exact hN.h6
  refine yz (i:=ti29) (v:=.s (.slice (some ⟨b,0,none⟩) (acc++[e.1]).length cap)) (b:=b6) (o:=0) (l:=[v]) (st2:=F.un ((N.sO b (.cells ((acc++[e.1]).map aI++L))).sO b6 (.cells [.s (.slice (some ⟨b,0,none⟩) (acc++[e.1]).length cap)]))) rfl rfl rfl (zd h6') (Fak _) ?_ ?_
  ·rw[zm];rfl
  ·exact ret (h _ _ hd2 hN')
section
variable {F st:Store} {p b:Nat}
theorem Qaa{p:Prop}(h:p:=by repeat(first|exact Tv|refine⟨rfl,?_⟩|refine⟨za (o:=(F.un N0).obj b4) _ (zd hN0.h4) rfl,?_⟩|refine⟨za (o:=(F.un N0).obj b5) _ (zd hN0.h5) rfl,?_⟩)):p:=h
theorem CellsOf.fresh{l:List Ent}(h:CellsOf F p l)(x:AObj)(hb:Fresh F b):CellsOf (F.sO b x) p l:=by
 obtain⟨ma,mi,bs1,c1,G,bs2,c2,ha,hi⟩:=h
 exact⟨ma,mi,bs1,c1,G,bs2,c2,ha.fresh x hb,hi⟩
theorem zmn{cap:Nat}{ns:List Int}{L:List AV}(ho:st.obj b=some (.cells (ns.map aI++L)))(hlen:ns.length<4611686018427387904)(R:Ja)
  (h:R (.tup []) (st.sO b (.cells ((ns.mergeSort λx y=>decide (x<=y)).map aI++L)))):Jb 362 [.s (.slice (some ⟨b,0,none⟩) ns.length cap)] st R:=
 zmq Tryz.lays189 Tryz.func362 rfl rfl ho hlen h
theorem zmo(R:Ja)(h:R (.tup []) st):Jb 362 [.s (.slice none 0 0)] st R:=
 zmp Tryz.lays189 Tryz.func362 rfl rfl h
def C0(b3 b4 b5 b6:Nat):AV:=.clos 361 [ptr b4,ptr b3,ptr b5,ptr b6]
theorem zxw{l:List Ent}(hc:CellsOf F p l)(hl:l.length<=1000000000)(hok:∀e∈l,e.2.ok){q:Vc}(hq:q.ok){r:Int}(hr:ya r)(R:Ja)
  (h:∀F' N v ns,CellsOf F' p l->zh F' N->Ints N v ns->Ky l q r ns->R v (F'.un N)):Jb 294 [ptr p,.agg (zx q),int r] F R:=by
 refine Qb (c:=cfg 126 [3,4,5,6] []) zb Tryz.func294 ?_
 refine AWp.seq (AWp.of_vc zb ?_)
 intro b3 hb3 b4 hb4 b5 hb5 b6 hb6
 have n43:b4≠b3:=λe=>by have:=hb4.1;rw[e,zc]at this;cases this
 have n54:b5≠b4:=λe=>by have:=hb5.1;rw[e,zc]at this;cases this
 have n53:b5≠b3:=λe=>by have:=hb5.1;rw[e,ze (Ne.symm n43),zc]at this;cases this
 have n65:b6≠b5:=λe=>by have:=hb6.1;rw[e,zc]at this;cases this
 have n64:b6≠b4:=λe=>by have:=hb6.1;rw[e,ze (Ne.symm n54),zc]at this;cases this
 have n63:b6≠b3:=λe=>by have:=hb6.1;rw[e,ze (Ne.symm n53),ze (Ne.symm n43),zc]at this;cases this
 have est:(((F.sO b3 (.cells [ptr p])).sO b4 (.cells (zx q))).sO b5 (.cells [int r])).sO b6 (.cells [.s (.slice none 0 0)])=
   F.un ((((Store.empty.sO b3 (.cells [ptr p])).sO b4 (.cells (zx q))).sO b5 (.cells [int r])).sO b6 (.cells [.s (.slice none 0 0)])):=by
  rw[<-zm,<-zm,<-zm,<-zm,ky]
 have f3:Fresh F b3:=hb3
 have f4:Fresh F b4:=by have:=hb4;rw[<-ky F,zm]at this;exact(fresh_un this).1
 have f5:Fresh F b5:=by have:=hb5;rw[<-ky F,zm,zm]at this;exact(fresh_un this).1
 have f6:Fresh F b6:=by have:=hb6;rw[<-ky F,zm,zm,zm]at this;exact(fresh_un this).1
 have hN0:NearAt ((((Store.empty.sO b3 (.cells [ptr p])).sO b4 (.cells (zx q))).sO b5 (.cells [int r])).sO b6 (.cells [.s (.slice none 0 0)])) b3 b4 b5 b6 p q r (.s (.slice none 0 0)) []:=by
  refine⟨?_,?_,?_,zc _ _ _,.inl ⟨rfl,rfl⟩,Ne.symm n63,Ne.symm n64,Ne.symm n65,λb n cap e=>by cases e⟩
  ·rw[ze (Ne.symm n63),ze (Ne.symm n53),ze (Ne.symm n43)];exact zc _ _ _
  ·rw[ze (Ne.symm n64),ze (Ne.symm n54)];exact zc _ _ _
  ·rw[ze (Ne.symm n65)];exact zc _ _ _
 have hd0:zh F ((((Store.empty.sO b3 (.cells [ptr p])).sO b4 (.cells (zx q))).sO b5 (.cells [int r])).sO b6 (.cells [.s (.slice none 0 0)])):=
  disj_setR (disj_setR (disj_setR (disj_setR (zwn F) f3) f4) f5) f6
 show AWp _ _ _ _ _ ((((F.sO b3 (.cells [ptr p])).sO b4 (.cells (zx q))).sO b5 (.cells [int r])).sO b6 (.cells [.s (.slice none 0 0)]))
 rw[est]
 generalize((((Store.empty.sO b3 (.cells [ptr p])).sO b4 (.cells (zx q))).sO b5 (.cells [int r])).sO b6 (.cells [.s (.slice none 0 0)]))=N0 at*
 clear est hb3 hb4 hb5 hb6
 refine AWp.seq (AWp.of_vc zb ?_)
 refine za (o:=(F.un N0).obj b5) _ (zd hN0.h5) ?_
 refine bcd (λc1=>?_) (λc1=>?_)
 ·refine C9 (i:=ti29) (v:=.s (.slice none 0 0)) (b:=b6) (o:=0) (l:=[.s (.slice none 0 0)]) rfl rfl rfl (zd hN0.h6) (Fak _) ?_
  refine za (o:=Store.obj (Store.sO _ b6 _) b6) _ (zc _ _ _) ?_
  refine ret ?_
  rw[zm]
  refine h F _ _ [] hc (Hr hd0 hN0.h6) (.inl ⟨rfl,rfl⟩) ⟨List.Pairwise.nil,λid=>⟨(λh=>(by cases h)),λ⟨e,_,_,hn⟩=>?_⟩⟩
  unfold near at hn
  have:=(of_decide_eq_true hn).1
  omega
 refine AWp.seq (AWp.of_vc zb ?_)
 have hr0:0<r:=by omega
 have hr1:r<=9223372036854775807:=hr.2
 have sub_q1:=Dq q.1 r
 have sub_q2:=Dq q.2 r
 have add_q1:=M5 q.1 r
 have add_q2:=M5 q.2 r
 refine AWp.meet (σ:=Unit) ⟨λ_=>[(3,.av (ptr b3)),(4,.av (ptr b4)),(5,.av (ptr b5)),(6,.av (ptr b6)),(7,.av (C0 b3 b4 b5 b6)),(8,.bx 8 0)],λ_=>[(8,[int (zl (yg q.1 r,yg q.2 r)).1,int (zl (yg q.1 r,yg q.2 r)).2])],
  λ_ st'=>st'=F.un N0⟩ zb ?_ ?_
 ·refine Qc zb zn0 ?_
  refine za (o:=(F.un N0).obj b4) _ (zd hN0.h4) ?_
  refine za (o:=(F.un N0).obj b5) _ (zd hN0.h5) ?_
  refine za (o:=(F.un N0).obj b4) _ (zd hN0.h4) ?_
  refine za (o:=(F.un N0).obj b5) _ (zd hN0.h5) ?_
  refine⟨C7 q.1 r hq.1 hr _ _ ⟨Qaa,⟨C7 q.2 r hq.2 hr _ _ ⟨Qaa,⟨Bo (yg q.1 r,yg q.2 r) ⟨sub_q1,sub_q2⟩ _ _ ⟨Qaa,⟨⟨Qaa,⟨⟨Qaa,?_⟩,Tv⟩⟩,Tv⟩⟩,⟨⟨Qaa,⟨Bo (yg q.1 r,yg q.2 r) ⟨sub_q1,sub_q2⟩ _ _ ⟨Qaa,⟨⟨Qaa,?_⟩,Tv⟩⟩,Tv⟩⟩,Tv⟩⟩⟩,⟨⟨Qaa,⟨C7 q.2 r hq.2 hr _ _ ⟨Qaa,⟨Bo (yg q.1 r,yg q.2 r) ⟨sub_q1,sub_q2⟩ _ _ ⟨Qaa,⟨⟨Qaa,?_⟩,Tv⟩⟩,Tv⟩⟩,Tv⟩⟩,Tv⟩⟩⟩,⟨⟨Qaa,⟨C7 q.1 r hq.1 hr _ _ ⟨Qaa,⟨C7 q.2 r hq.2 hr _ _ ⟨Qaa,⟨Bo (yg q.1 r,yg q.2 r) ⟨sub_q1,sub_q2⟩ _ _ ⟨Qaa,⟨⟨Qaa,?_⟩,Tv⟩⟩,Tv⟩⟩,Tv⟩⟩,Tv⟩⟩,Tv⟩⟩
  all_goals exact⟨(),rfl,Qaf,⟨rfl,Tv⟩⟩
 rintro _ _ rfl
 refine AWp.meet (σ:=Unit) ⟨λ_=>[(3,.av (ptr b3)),(6,.av (ptr b6)),(7,.av (C0 b3 b4 b5 b6)),(8,.bx 8 0),(9,.bx 9 0)],λ_=>[(8,[int (zl (yg q.1 r,yg q.2 r)).1,int (zl (yg q.1 r,yg q.2 r)).2]),(9,[int (zl (yq q.1 r,yq q.2 r)).1,int (zl (yq q.1 r,yq q.2 r)).2])],
  λ_ st'=>st'=F.un N0⟩ zb ?_ ?_
 ·refine Qc zb znz ?_
  refine za (o:=(F.un N0).obj b4) _ (zd hN0.h4) ?_
  refine za (o:=(F.un N0).obj b5) _ (zd hN0.h5) ?_
  refine za (o:=(F.un N0).obj b4) _ (zd hN0.h4) ?_
  refine za (o:=(F.un N0).obj b5) _ (zd hN0.h5) ?_
  refine⟨Dz q.1 r hq.1 hr _ _ ⟨Qaa,⟨Dz q.2 r hq.2 hr _ _ ⟨Qaa,⟨Bo (yq q.1 r,yq q.2 r) ⟨add_q1,add_q2⟩ _ _ ⟨Qaa,⟨⟨Qaa,⟨⟨Qaa,?_⟩,Tv⟩⟩,Tv⟩⟩,⟨⟨Qaa,⟨Bo (yq q.1 r,yq q.2 r) ⟨add_q1,add_q2⟩ _ _ ⟨Qaa,⟨⟨Qaa,?_⟩,Tv⟩⟩,Tv⟩⟩,Tv⟩⟩⟩,⟨⟨Qaa,⟨Dz q.2 r hq.2 hr _ _ ⟨Qaa,⟨Bo (yq q.1 r,yq q.2 r) ⟨add_q1,add_q2⟩ _ _ ⟨Qaa,⟨⟨Qaa,?_⟩,Tv⟩⟩,Tv⟩⟩,Tv⟩⟩,Tv⟩⟩⟩,⟨⟨Qaa,⟨Dz q.1 r hq.1 hr _ _ ⟨Qaa,⟨Dz q.2 r hq.2 hr _ _ ⟨Qaa,⟨Bo (yq q.1 r,yq q.2 r) ⟨add_q1,add_q2⟩ _ _ ⟨Qaa,⟨⟨Qaa,?_⟩,Tv⟩⟩,Tv⟩⟩,Tv⟩⟩,Tv⟩⟩,Tv⟩⟩
  all_goals exact⟨(),rfl,Qaf,⟨rfl,rfl,Tv⟩⟩
 rintro _ _ rfl
 have hab:=zp0 hq hr0 hr1
 have hA:=ly (p:=(yg q.1 r,yg q.2 r)) ⟨Dq _ _,Dq _ _⟩
 have hB:=ly (p:=(yq q.1 r,yq q.2 r)) ⟨M5 _ _,M5 _ _⟩
 have hrect:∀e∈l,near q e.2 r=true->_:=λe he hn=>zrk hq (hok e he) hr0 hr1 hn
 generalize zl (yg q.1 r,yg q.2 r)=A0 at*
 generalize zl (yq q.1 r,yq q.2 r)=B0 at*
 obtain⟨ax,ay⟩:=A0
 obtain⟨bx,by'⟩:=B0
 dsimp only at hab hA hB hrect⊢
 refine AWp.meetA (σ:=Store×Store×AV×List Int) ⟨λ_=>[(6,.av (ptr b6))],λ_=>[],λs st'=>st'=s.1.un s.2.1/\zh s.1 s.2.1/\CellsOf s.1 p l/\NearAt s.2.1 b3 b4 b5 b6 p q r s.2.2.1 s.2.2.2/\NearIn l q r (λ_=>True) s.2.2.2⟩ ?_ ?_
 ·obtain⟨ma,mi,bs1,cl1,G,bs2,cl2,ha,hi⟩:=hc
  have hgl:(G.map jo).length<=l.length:=by rw[Fa5];exact ztx hi
  have slots:∀b:Bool,LV.le (.av (bool b)) (.av (bool b)):=λb=>Tq
  refine AWp.seq (AWp.of_vc zb ?_)
  refine za (o:=(F.un N0).obj b3) _ (zd hN0.h3) ?_
  refine za (o:=(F.un N0).obj p) _ (yn hd0 ha.hp) ?_
  refine za (o:=(F.un N0).obj mi) _ (yn hd0 ha.hi) ?_
  refine⟨⟨by omega,by omega⟩,?_⟩
  refine AWp.meet (σ:=Bool) ⟨λb=>[(3,.av (ptr b3)),(6,.av (ptr b6)),(7,.av (C0 b3 b4 b5 b6)),(8,.bx 8 0),(9,.bx 9 0),(77,.av (bool b))],λ_=>[(8,[int ax,int ay]),(9,[int bx,int by'])],
   λb st'=>st'=F.un N0⟩ zb ?_ ?_
  ·refine⟨⟨by omega,by omega⟩,?_⟩
   refine bcd (λd1=>?_) (λd1=>?_)
   ·exact⟨true,rfl,Qaf,⟨rfl,rfl,Tv⟩⟩
   refine⟨⟨by omega,by omega⟩,?_⟩
   refine bcd (λd2=>?_) (λd2=>?_)
   ·exact⟨true,rfl,Qaf,⟨rfl,rfl,Tv⟩⟩
   have m1:(bx-ax+1)*(by'-ay+1)<=1000000002*1000000002:=Fbn (by omega) (by omega) (by omega) (by decide)
   have m0:0<=(bx-ax+1)*(by'-ay+1):=Fa2 (by omega) (by omega)
   refine⟨⟨by omega,by omega⟩,?_⟩
   refine⟨⟨by omega,by omega⟩,?_⟩
   refine⟨⟨by omega,by omega⟩,?_⟩
   refine⟨⟨by omega,by omega⟩,?_⟩
   refine⟨⟨by omega,by omega⟩,?_⟩
   exact⟨_,rfl,⟨Tq,Tq,Tq,Tq,Tq,Tq,Tv⟩,⟨rfl,rfl,Tv⟩⟩
  rintro b _ rfl
  refine AWp.of_vc zb ?_
  cases b with
  |true=>
   refine za (o:=(F.un N0).obj b3) _ (zd hN0.h3) ?_
   refine za (o:=(F.un N0).obj p) _ (yn hd0 ha.hp) ?_
   refine zzh (yn hd0 ha.ha) (λhst=>?_)
   refine zzi rfl (it:=ti363) rfl rfl (yn hd0 ha.ha) (λbi hbi=>?_)
   have fbi:=fresh_un hbi
   have nbi:¬N0.has bi:=fresh_iff.1 fbi.2
   rw[K6 nbi]
   refine AWp.loop (σ:=List Nat×Store×AV×List Int) ⟨λ_=>[(6,.av (ptr b6)),(7,.av (C0 b3 b4 b5 b6)),(82,.av (ptr bi))],λ_=>[],
    λs st'=>st'=(F.sO bi (.iter ma cl1 s.1 cl1)).un s.2.1/\zh (F.sO bi (.iter ma cl1 s.1 cl1)) s.2.1/\NearAt s.2.1 b3 b4 b5 b6 p q r s.2.2.1 s.2.2.2/\s.1.Nodup/\(∀t∈s.1,t∈bs1)∧
     NearIn l q r (λe=>∃(i t:Nat),l[i]?=some e/\bs1[i]?=some t/\t∈s.1) s.2.2.2,λs=>bs1.length-s.1.length⟩ zb ?_ ?_
   ·exact⟨([],N0,_,[]),Tv,⟨rfl,zwm hd0 nbi,hN0,Fdr,(λt ht=>(by cases ht)),Fdr,λid=>⟨(λh=>(by cases h)),λ⟨e,_,_,_,i,t,_,_,h⟩=>(by cases h)⟩⟩,⟨Tq,Tq,Tq,Tv⟩,Tv⟩
   rintro⟨seen,N,v,acc⟩ st' ⟨rfl,hd,hN,hs1,hs2,hacc⟩
   dsimp only at hd hN hs1 hs2 hacc⊢
   have hF1:CellsAt (F.sO bi (.iter ma cl1 seen cl1)) p ma mi l bs1 cl1 G bs2 cl2:=ha.fresh _ fbi.1
   refine zzj rfl (yn hd (zc _ _ _)) (yn hd hF1.ha) (λhall=>?_) (λi e t he ht hnt=>?_)
   ·refine⟨(F.sO bi (.iter ma cl1 seen cl1),N,v,acc),⟨rfl,hd,⟨ma,mi,_,_,_,_,_,hF1,hi⟩,hN,?_⟩,⟨Tq,Tv⟩,Tv⟩
    refine hacc.congr λe he _=>⟨λ_=>trivial,λ_=>?_⟩
    obtain⟨i,hi'⟩:=Fay.1 he
    have hlt:i<bs1.length:=by
     have h1:=hst.len
     have h2:=(Fae.1 hi').1
     rw[Fa5]at h1
     omega
    exact⟨i,bs1[i],hi',Faa hlt,hall _ (Fab hlt)⟩
   ·obtain⟨e0,he0,rfl⟩:∃e0,l[i]?=some e0/\jq e0=e:=by
     rw[Fam]at he
     cases hx:l[i]? with
     |none=>rw[hx]at he;cases he
     |some e0=>rw[hx]at he;simp at he;exact⟨e0,rfl,he⟩
    have hem:=Fap he0
    obtain⟨hd',nb⟩:=zwl (y:=.iter ma cl1 (seen++[t]) cl1) hd
    have hF2:CellsAt (F.sO bi (.iter ma cl1 (seen++[t]) cl1)) p ma mi l bs1 cl1 G bs2 cl2:=ha.fresh _ fbi.1
    rw[K6 nb,yk]
    refine zzm rfl (yn hd' (zc _ _ _)) (yn hd' hF2.ha) he ht ?_
    refine Wd hd' ⟨ma,mi,_,_,_,_,_,hF2,hi⟩ hN hq hr1 (gn hi.n1 hem) (hok _ hem) (by have:=hacc.len;omega) _ (λN' v' hdd hN'=>?_)
    refine⟨(seen++[t],N',v',_),?_,⟨rfl,hdd,hN',?_,?_,?_⟩,⟨Tq,Tq,Tq,Tv⟩,Tv⟩
    ·have h1:(seen++[t]).Nodup:=by
      rw[Fcy]
      exact⟨hs1,by simp,λa ha b hb=>by simp at hb;subst hb;exact λe=>hnt (e▸ha)⟩
     have h2:=Fbm (l₂:=bs1) h1 (λx hx=>by
      rcases Fai.1 hx with hx|hx
      ·exact hs2 x hx
      ·simp at hx;subst hx;exact Fap ht)
     rw[Faj]at h2
     show bs1.length-(seen++[t]).length<bs1.length-seen.length
     rw[Faj]
     simp at h2⊢
     omega
    ·show(seen++[t]).Nodup
     rw[Fcy]
     exact⟨hs1,by simp,λa ha b hb=>by simp at hb;subst hb;exact λe=>hnt (e▸ha)⟩
    ·intro x hx
     rcases Fai.1 hx with hx|hx
     ·exact hs2 x hx
     ·simp at hx;subst hx;exact Fap ht
    ·refine(hacc.step hi.n1 hem (λhh=>?_)).congr λe' he' _=>⟨λhh=>?_,λhh=>?_⟩
     ·obtain⟨i',t',h1,h2,h3⟩:=hh
      have:=Aa (f:=λe:Ent=>e.1) hi.n1 h1 he0 rfl
      subst this
      rw[ht]at h2
      cases h2
      exact hnt h3
     ·rcases hh with⟨i',t',h1,h2,h3⟩|rfl
      ·exact⟨i',t',h1,h2,List.mem_append_left _ h3⟩
      ·exact⟨i,t,he0,ht,by simp⟩
     ·obtain⟨i',t',h1,h2,h3⟩:=hh
      rcases Fai.1 h3 with h3|h3
      ·exact .inl ⟨i',t',h1,h2,h3⟩
      ·simp at h3
       subst h3
       right
       have hinc:=hst.inc
       have:i'=i:=by
        have hn:(bs1.map id).Nodup:=by
         rw[List.map_id]
         exact hinc.imp λh e=>by omega
        exact Aa (f:=id) hn h2 ht rfl
       subst this
       rw[he0]at h1
       cases h1;rfl
  |false=>
   refine AWp.loop (σ:=Int×Store×AV×List Int) ⟨λs=>[(3,.av (ptr b3)),(6,.av (ptr b6)),(7,.av (C0 b3 b4 b5 b6)),(8,.bx 8 0),(9,.bx 9 0),(12,.av (int s.1))],λ_=>[(8,[int ax,int ay]),(9,[int bx,int by'])],
    λs st'=>st'=F.un s.2.1/\zh F s.2.1/\NearAt s.2.1 b3 b4 b5 b6 p q r s.2.2.1 s.2.2.2/\(ax<=s.1/\s.1<=bx+1)/\NearIn l q r (λe=>(zl e.2).1<s.1) s.2.2.2,λs=>(bx+1-s.1).toNat⟩ zb ?_ ?_
   ·refine⟨(ax,N0,_,[]),Tv,⟨rfl,hd0,hN0,⟨Fcl _,by omega⟩,Fdr,λid=>⟨(λh=>(by cases h)),λ⟨e,he,_,hn,h⟩=>?_⟩⟩,⟨Tq,Tq,Tq,Tq,Tq,Tq,Tv⟩,⟨rfl,rfl,Tv⟩⟩
    have:=hrect e he hn
    dsimp only at h
    omega
   rintro⟨x,N,v,acc⟩ st' ⟨rfl,hd,hN,hx,hacc⟩
   dsimp only at hd hN hx hacc⊢
   refine bcd (λx1=>?_) (λx1=>?_)
   rotate_left
   ·refine⟨(F,N,v,acc),⟨rfl,hd,⟨ma,mi,_,_,_,_,_,ha,hi⟩,hN,?_⟩,⟨Tq,Tv⟩,Tv⟩
    refine hacc.congr λe he hn=>⟨λ_=>trivial,λ_=>?_⟩
    have:=hrect e he hn
    omega
   refine AWp.loop (σ:=Int×Store×AV×List Int) ⟨λs=>[(3,.av (ptr b3)),(6,.av (ptr b6)),(7,.av (C0 b3 b4 b5 b6)),(8,.bx 8 0),(9,.bx 9 0),(12,.av (int x)),(13,.av (int s.1))],λ_=>[(8,[int ax,int ay]),(9,[int bx,int by'])],
    λs st'=>st'=F.un s.2.1/\zh F s.2.1/\NearAt s.2.1 b3 b4 b5 b6 p q r s.2.2.1 s.2.2.2/\(ay<=s.1/\s.1<=by'+1)/\NearIn l q r (λe=>(zl e.2).1<x\/((zl e.2).1=x/\(zl e.2).2<s.1)) s.2.2.2,λs=>(by'+1-s.1).toNat⟩ zb ?_ ?_
   ·refine⟨(ay,N,v,acc),Tv,⟨rfl,hd,hN,⟨Fcl _,by omega⟩,hacc.congr λe he hn=>⟨.inl,λh=>h.elim id λh=>?_⟩⟩,Qaf,⟨rfl,rfl,Tv⟩⟩
    have:=hrect e he hn
    dsimp only at h
    omega
   clear hN hacc hd
   rintro⟨y,N,v,acc⟩ st' ⟨rfl,hd,hN,hy,hacc⟩
   dsimp only at hd hN hy hacc⊢
   refine bcd (λy1=>?_) (λy1=>?_)
   rotate_left
   ·refine⟨⟨by omega,by omega⟩,?_⟩
    refine⟨(x+1,N,v,acc),?_,⟨rfl,hd,hN,by dsimp only;omega,hacc.congr λe he hn=>?_⟩,Qaf,⟨rfl,rfl,Tv⟩⟩
    ·show(bx+1-(x+1)).toNat<(bx+1-x).toNat
     omega
    ·have:=hrect e he hn
     dsimp only
     omega
   refine za (o:=(F.un N).obj b3) _ (zd hN.h3) ?_
   refine za (o:=(F.un N).obj p) _ (yn hd ha.hp) ?_
   refine kc rfl (it:=ti364) (ie:=ti29) (ik:=ti33) rfl rfl rfl rfl (yn hd ha.hi) rfl (qG x y) (λe he=>?_) ?_
   ·obtain⟨e,_,rfl⟩:=Fad.1 he
    rfl
   rw[Kk G (x,y),show wn ti29=.s (.slice none 0 0)from rfl]
   cases hf:G.find? (Bd (x,y))with
   |none=>
    refine AWp.loop (σ:=Unit) ⟨λ_=>[(3,.av (ptr b3)),(6,.av (ptr b6)),(7,.av (C0 b3 b4 b5 b6)),(8,.bx 8 0),(9,.bx 9 0),(12,.av (int x)),(13,.av (int y)),(114,.av (int 0)),(115,.av (int 0))],λ_=>[(8,[int ax,int ay]),(9,[int bx,int by'])],
     λ_ st'=>st'=F.un N,λ_=>0⟩ zb ?_ ?_
    ·exact⟨(),Tv,rfl,Qaf,⟨rfl,rfl,Tv⟩⟩
    rintro _ st' rfl
    ·refine⟨⟨by omega,by omega⟩,?_⟩
     refine⟨(y+1,N,v,acc),?_,⟨rfl,hd,hN,by dsimp only;omega,hacc.congr λe he hn=>?_⟩,Qaf,⟨rfl,rfl,Tv⟩⟩
     ·show(by'+1-(y+1)).toNat<(by'+1-y).toNat
      omega
     ·have hne:zl e.2≠(x,y):=λhk=>by
       obtain⟨g,hg,hgk⟩:=hi.m2 e he
       exact Fcu.1 hf g hg (atKey_iff.2 (by rw[hgk,hk]))
      have:¬((zl e.2).1=x/\(zl e.2).2=y):=λ⟨h1,h2⟩=>hne (Prod.ext h1 h2)
      dsimp only
      omega
   |some g=>
    obtain⟨hg,hgk⟩:=Ki hf
    have hgk:=atKey_iff.1 hgk
    obtain⟨k1,k2,k3⟩:=ha.hg g hg
    have gs:=(hi.s g hg).1
    have gl:=Si hi g hg
    refine AWp.loop (σ:=Nat×Store×AV×List Int) ⟨λs=>[(3,.av (ptr b3)),(6,.av (ptr b6)),(7,.av (C0 b3 b4 b5 b6)),(8,.bx 8 0),(9,.bx 9 0),(12,.av (int x)),(13,.av (int y)),(113,.av (.s (.slice (some ⟨g.b,0,none⟩) g.ns.length g.cap))),(114,.av (int g.ns.length)),(115,.av (int (s.1:Nat)))],
     λ_=>[(8,[int ax,int ay]),(9,[int bx,int by'])],
     λs st'=>st'=F.un s.2.1/\zh F s.2.1/\NearAt s.2.1 b3 b4 b5 b6 p q r s.2.2.1 s.2.2.2/\s.1<=g.ns.length/\NearIn l q r (λe=>((zl e.2).1<x\/((zl e.2).1=x/\(zl e.2).2<y))\/(zl e.2=(x,y)/\e.1∈g.ns.take s.1)) s.2.2.2,λs=>g.ns.length-s.1⟩ zb ?_ ?_
    ·exact⟨(0,N,v,acc),Tv,⟨rfl,hd,hN,Faq _,hacc.congr λe he hn=>⟨.inl,λh=>h.elim id λh=>(by cases h.2)⟩⟩,Qaf,⟨rfl,rfl,Tv⟩⟩
    clear hN hacc hd
    rintro⟨idx,N,v,acc⟩ st' ⟨rfl,hd,hN,hidx,hacc⟩
    dsimp only at hd hN hidx hacc⊢
    refine bcd (λz1=>?_) (λz1=>?_)
    rotate_left
    ·have hie:idx=g.ns.length:=by omega
     subst hie
     refine⟨⟨by omega,by omega⟩,?_⟩
     refine⟨(y+1,N,v,acc),?_,⟨rfl,hd,hN,by dsimp only;omega,hacc.congr λe he hn=>?_⟩,Qaf,⟨rfl,rfl,Tv⟩⟩
     ·show(by'+1-(y+1)).toNat<(by'+1-y).toNat
      omega
     ·rw[Fax]
      have h1:zl e.2=(x,y)↔((zl e.2).1=x/\(zl e.2).2=y):=⟨λh=>by rw[h];exact⟨rfl,rfl⟩,λ⟨h1,h2⟩=>Prod.ext h1 h2⟩
      have h2:zl e.2=(x,y)->e.1∈g.ns:=λh=>(hi.m1 g hg e.1).2 ⟨e,he,rfl,by rw[h,hgk]⟩
      dsimp only
      constructor
      ·rintro(h|⟨h,_⟩)
       ·omega
       ·have:=h1.1 h;omega
      ·intro h
       by_cases h3:zl e.2=(x,y)
       ·exact .inr ⟨h3,h2 h3⟩
       ·have h4:¬((zl e.2).1=x/\(zl e.2).2=y):=λhh=>h3 (h1.2 hh)
        left
        omega
    have hlt:idx<g.ns.length:=by omega
    have hidm:g.ns[idx]∈g.ns:=Fab hlt
    obtain⟨e,hem,heid,hek⟩:=(hi.m1 g hg g.ns[idx]).1 hidm
    refine⟨idx,rfl,hlt,?_⟩
    refine za (o:=(F.un N).obj g.b) _ (yn hd k1) ?_
    refine za (o:=List.head? _) (int e.1) (by
     rw[Fb9,show 0+idx*ti2.size=idx from by show 0+idx*1=idx;omega,Fah (by simpa using hlt),Fam,Faa hlt,heid];rfl) ?_
    refine Wd hd ⟨ma,mi,_,_,_,_,_,ha,hi⟩ hN hq hr1 (gn hi.n1 hem) (hok _ hem) (by have:=hacc.len;omega) _ (λN' v' hdd hN'=>?_)
    refine⟨⟨by omega,by omega⟩,?_⟩
    refine⟨(idx+1,N',v',_),?_,⟨rfl,hdd,hN',hlt,?_⟩,⟨Tq,Tq,Tq,Tq,Tq,Tq,Tq,Tq,Tq,Tq,Tv⟩,⟨rfl,rfl,Tv⟩⟩
    ·show g.ns.length-(idx+1)<g.ns.length-idx
     omega
    ·have hkey:zl e.2=(x,y):=by rw[hek,hgk]
     have hnot:e.1∉g.ns.take idx:=by
      rw[heid]
      intro hh
      obtain⟨j,hj⟩:=Fay.1 hh
      have hjlt:j<idx:=by
       have:=(Fae.1 hj).1
       simp at this;omega
      rw[Fbw hjlt]at hj
      have h5:=Fcc.1 gs j idx (by omega) hlt hjlt
      rw[Faa (by omega)]at hj
      have hj':=Option.some.inj hj
      rw[hj']at h5
      exact absurd h5 (Int.lt_irrefl _)
     refine(hacc.step hi.n1 hem (λhh=>?_)).congr λe' he' _=>?_
     ·rcases hh with hh|⟨_,hh⟩
      ·rw[hkey]at hh;dsimp only at hh;omega
      ·exact hnot hh
     ·dsimp only
      rw[Fac hlt,Fai]
      constructor
      ·rintro((h|⟨h,h'⟩)|rfl)
       ·exact .inl h
       ·exact .inr ⟨h,.inl h'⟩
       ·exact .inr ⟨hkey,.inr (by simp[heid])⟩
      ·rintro(h|⟨h,h'|h'⟩)
       ·exact .inl (.inl h)
       ·exact .inl (.inr ⟨h,h'⟩)
       ·right
        have:e'.1=e.1:=by rw[heid];simpa using h'
        exact I9 hi.n1 hem he' this
 ·rintro⟨F',N,v,acc⟩ st' ⟨rfl,hd,hc',hN,hacc⟩
  dsimp only at hd hc' hN hacc⊢
  refine AWp.of_vc zb ?_
  refine za (o:=(F'.un N).obj b6) _ (zd hN.h6) ?_
  have hms:=zr4 hacc.1
  have hnear:Ky l q r (acc.mergeSort λx y=>decide (x<=y)):=⟨hms.1,λid=>by
   rw[hms.2,hacc.2 id]
   constructor
   ·rintro⟨e,h1,h2,h3,_⟩;exact⟨e,h1,h2,h3⟩
   ·rintro⟨e,h1,h2,h3⟩;exact⟨e,h1,h2,h3,Tv⟩⟩
  have hal:=hacc.len
  have hml:(acc.mergeSort λx y=>decide (x<=y)).length=acc.length:=List.length_mergeSort acc
  rcases I6 hN.hv with⟨rfl,rfl⟩|⟨b,cap,L,rfl,ho,h1,h2,h3⟩
  ·refine zmo _ ?_
   refine za (o:=(F'.un N).obj b6) _ (zd hN.h6) ?_
   refine C9 (i:=ti29) (v:=.s (.slice none 0 0)) (b:=b6) (o:=0) (l:=[.s (.slice none 0 0)]) rfl rfl rfl (zd hN.h6) (Fak _) ?_
   refine za (o:=Store.obj (Store.sO _ b6 _) b6) _ (zc _ _ _) ?_
   refine ret ?_
   rw[zm]
   exact h F' _ _ _ hc' (Hr hd hN.h6) (.inl ⟨rfl,by simp⟩) hnear
  ·refine zmn (zd ho) (by omega) _ ?_
   have hb6:b6≠b:=Ne.symm (hN.nv b _ _ rfl).2.2.2
   have h6:((F'.un N).sO b (.cells ((acc.mergeSort λx y=>decide (x<=y)).map aI++L))).obj b6=some (.cells [.s (.slice (some ⟨b,0,none⟩) acc.length cap)]):=by rw[ze hb6];exact zd hN.h6
   refine za (o:=Store.obj (Store.sO _ b _) b6) _ h6 ?_
   refine C9 (i:=ti29) (v:=.s (.slice (some ⟨b,0,none⟩) acc.length cap)) (b:=b6) (o:=0) (l:=[.s (.slice (some ⟨b,0,none⟩) acc.length cap)]) rfl rfl rfl h6 (Fak _) ?_
   refine za (o:=Store.obj (Store.sO _ b6 _) b6) _ (zc _ _ _) ?_
   refine ret ?_
   rw[zm,zm]
   refine h F' _ _ _ hc' (Hr (Hr hd ho) (by rw[ze hb6];exact hN.h6)) (.inr ⟨b,cap,L,?_,?_,?_,?_,h3⟩) hnear
   ·rw[hml];rfl
   ·rw[ze (Ne.symm hb6)];exact zc _ _ _
   ·omega
   ·omega
end
theorem zs4(l:List Int)(hl:l.length<=1000000000000)(fn:FuncId)(cap:List AV)(q:Int->Bool)(st:Store)(hf:∀x∈l,∀R:AV->Store->Prop,R (bool (q x)) st->Jb fn ([int x]++cap) st R)
  (R:Ja) (h:R (int (Bs (l.findIdx? q))) st):Jb 403 [lst 1 yo l,.clos fn cap] st R:=by
 refine Qa (c:=cfg 19) zb Tryz.func403 ?_
 refine AWp.loop (σ:=Nat) ⟨λi=>[(0,.av (lst 1 yo l)),(1,.av (.clos fn cap)),(7,.av (int (l.length:Nat))),(8,.av (int (i:Nat)))],λ_=>[],
  λi st'=>i<=l.length/\st'=st/\∀j,(hj:j<l.length)->j<i->q l[j]=false,λi=>l.length-i⟩ zb ?_ ?_
 ·refine⟨0,Tv,⟨Faq _,rfl,λj _ hj=>by omega⟩,⟨Tq,Tq,?_,Tq,Tv⟩,Tv⟩
  rw[<-zr (f:=yo) l]
  exact Tq
 rintro i st' ⟨hi,rfl,hall⟩
 refine bcd (λh1=>?_) (λh1=>?_)
 rotate_left
 ·have e:l.findIdx? q=none:=by
   rw[Fbu]
   intro x hx
   obtain⟨j,hj,rfl⟩:=Fan hx
   exact hall j hj (by omega)
  rw[e]at h
  exact ret h
 have hlt:i<l.length:=by omega
 refine⟨i,rfl,za _ (yd hlt) ?_⟩
 refine hf l[i] (Fab hlt) _ ?_
 refine zk (λh2=>?_) (λh2=>?_)
 ·have e:l.findIdx? q=some i:=by
   rw[Fbq]
   exact⟨hlt,h2,λj hj=>by rw[hall j (by omega) hj];decide⟩
  rw[e]at h
  exact ret h
 ·refine Qd ?_
  refine⟨i+1,?_,⟨by omega,rfl,λj hj hj2=>?_⟩,Qaf,Tv⟩
  ·show l.length-(i+1)<l.length-i
   omega
  ·by_cases e:j=i
   ·subst e;exact h2
   ·exact hall j hj (by omega)
theorem zs5(l:List Int)(hl:l.length<=1000000000000)(fn:FuncId)(cap:List AV)(q:Int->Bool)(st:Store)(hf:∀x∈l,∀R:AV->Store->Prop,R (bool (q x)) st->Jb fn ([int x]++cap) st R)
  (R:Ja) (h:R (bool (l.any q)) st):Jb 352 [lst 1 yo l,.clos fn cap] st R:=by
 refine Qa (c:=cfg 9) zb Tryz.func352 ?_
 refine zs4 l hl fn cap q st hf _ ?_
 have e:decide ((0:Int)<=Bs (l.findIdx? q))=l.any q:=by
  cases hx:l.findIdx? q with
  |none=>
   rw[Fbu]at hx
   rw[show decide ((0:Int)<=Bs none)=false from by decide]
   symm
   rw[Fc7]
   intro x hm
   rw[hx x hm];decide
  |some i=>
   rw[Fbq]at hx
   obtain⟨hi,h1,_⟩:=hx
   rw[show decide ((0:Int)<=Bs (some i))=true from by simp[Bs]]
   symm
   rw[Fef]
   exact⟨l[i],Fab hi,h1⟩
 rw[<-e]at h
 exact ret h
theorem zyc(l:List Bld)(hl:l.length<=1000000000000)(fn:FuncId)(cap:List AV)(q:Bld->Bool)(st:Store)(hf:∀x∈l,∀R:AV->Store->Prop,R (bool (q x)) st->Jb fn ([.agg (zn x)]++cap) st R)
  (R:Ja) (h:R (int (Bs (l.findIdx? q))) st):Jb 286 [lst 6 zn l,.clos fn cap] st R:=by
 refine Qa (c:=cfg 19) zb Tryz.func286 ?_
 refine AWp.loop (σ:=Nat) ⟨λi=>[(0,.av (lst 6 zn l)),(1,.av (.clos fn cap)),(7,.av (int (l.length:Nat))),(8,.av (int (i:Nat)))],λ_=>[],
  λi st'=>i<=l.length/\st'=st/\∀j,(hj:j<l.length)->j<i->q l[j]=false,λi=>l.length-i⟩ zb ?_ ?_
 ·refine⟨0,Tv,⟨Faq _,rfl,λj _ hj=>by omega⟩,⟨Tq,Tq,?_,Tq,Tv⟩,Tv⟩
  rw[<-zr (f:=zn) l]
  exact Tq
 rintro i st' ⟨hi,rfl,hall⟩
 refine bcd (λh1=>?_) (λh1=>?_)
 rotate_left
 ·have e:l.findIdx? q=none:=by
   rw[Fbu]
   intro x hx
   obtain⟨j,hj,rfl⟩:=Fan hx
   exact hall j hj (by omega)
  rw[e]at h
  exact ret h
 have hlt:i<l.length:=by omega
 refine⟨i,rfl,za _ (yd hlt) ?_⟩
 refine hf l[i] (Fab hlt) _ ?_
 refine zk (λh2=>?_) (λh2=>?_)
 ·have e:l.findIdx? q=some i:=by
   rw[Fbq]
   exact⟨hlt,h2,λj hj=>by rw[hall j (by omega) hj];decide⟩
  rw[e]at h
  exact ret h
 ·refine Qd ?_
  refine⟨i+1,?_,⟨by omega,rfl,λj hj hj2=>?_⟩,Qaf,Tv⟩
  ·show l.length-(i+1)<l.length-i
   omega
  ·by_cases e:j=i
   ·subst e;exact h2
   ·exact hall j hj (by omega)
theorem zyd(l:List Bld)(hl:l.length<=1000000000000)(fn:FuncId)(cap:List AV)(q:Bld->Bool)(st:Store)(hf:∀x∈l,∀R:AV->Store->Prop,R (bool (q x)) st->Jb fn ([.agg (zn x)]++cap) st R)
  (R:Ja) (h:R (bool (l.any q)) st):Jb 189 [lst 6 zn l,.clos fn cap] st R:=by
 refine Qa (c:=cfg 9) zb Tryz.func189 ?_
 refine zyc l hl fn cap q st hf _ ?_
 have e:decide ((0:Int)<=Bs (l.findIdx? q))=l.any q:=by
  cases hx:l.findIdx? q with
  |none=>
   rw[Fbu]at hx
   rw[show decide ((0:Int)<=Bs none)=false from by decide]
   symm
   rw[Fc7]
   intro x hm
   rw[hx x hm];decide
  |some i=>
   rw[Fbq]at hx
   obtain⟨hi,h1,_⟩:=hx
   rw[show decide ((0:Int)<=Bs (some i))=true from by simp[Bs]]
   symm
   rw[Fef]
   exact⟨l[i],Fab hi,h1⟩
 rw[<-e]at h
 exact ret h
theorem zvj(g:Gnd)(p:Nat)(t:Nat)(ht:t<g.T.length)(st:Store)(hp:st.obj p=some (.cells (zo g)))(R:Ja)(h:R (bool (decide ((g.T.getD t 0).toNat>1))) st):
  Jb 353 ([int (t:Nat)]++[ptr p]) st R:=by
 have hget:g.T.getD t 0=g.T[t]:=by simp[ht]
 rw[hget]at h
 refine Qa (c:=cfg 10) zb Tryz.func353 ?_
 refine za _ hp ?_
 refine⟨t,rfl,za _ (yd ht) ?_⟩
 refine ret ?_
 have e:decide ((1:Int)<(g.T[t].toNat:Int))=decide (g.T[t].toNat>1):=by
  rw[Fb5,decide_eq_true_iff,decide_eq_true_iff];omega
 rw[<-e]at h
 exact h
theorem zym(g:Gnd)(hg:zp g)(b:Bld)(hb:yv b/\onP g b)(st:Store)(R:Ja)(h:∀z:Bool,(z=true↔Cr g b)->R (bool z) st):
  Jb 284 [.agg (zo g),.agg (zn b)] st R:=by
 have hm:=qm hg
 refine Qa (c:=cfg 11 [2] []) zb Tryz.func284 ?_
 intro p hp
 have ho:(st.sO p (.cells (zo g))).obj p=some (.cells (zo g)):=zc _ _ _
 refine za _ ho ?_
 refine Ot g hg b hb _ _ ?_
 have hl:(kk g.W b).length<=1000000000000:=by
  unfold kk
  rw[Ov]
  have hb':=hb.1
  unfold yv at hb'
  have:b.h.toNat*b.w.toNat<=4*4:=Fdp (by omega) (by omega)
  omega
 refine zs5 (kk g.W b) hl _ _ (λx=>decide ((g.T.getD x.toNat 0).toNat>1)) _ (λx hx R h=>?_) _ ?_
 ·obtain⟨n,rfl,hn,hh⟩:=(Df hg hb.1 hb.2 x).1 hx
  exact zvj g p n (by omega) _ ho R (by rw[Fba]at h;exact h)
 refine k6 (Tt) (Cn hp.1) (h _ ?_)
 unfold Cr
 rw[Fbv,Fc7]
 constructor
 ·intro hh t ht hb2
  have:=hh (t:Int) ((Df hg hb.1 hb.2 _).2 ⟨t,rfl,by omega,hb2⟩)
  rw[decide_eq_true_iff,Fba]at this
  omega
 ·intro hh x hx
  obtain⟨n,rfl,hn,hb2⟩:=(Df hg hb.1 hb.2 x).1 hx
  rw[decide_eq_true_iff,Fba]
  have:=hh n (by omega) hb2
  omega
theorem Qab{p:Prop}(h:p:=by rw[yk,show 0+i*1=i by omega,hz,<-s1,Hx hlt _ s2]):p:=h
def blV(b n:Nat):AV:=.s (.slice (some ⟨b,0,none⟩) n n)
theorem zwz(g:Gnd)(hg:zp g)(l:List Bld)(hl:l.length<=1000000000000)(hb:∀b∈l,yv b/\onP g b)(st:Store)(R:Ja)
  (h:∀b,Fresh st b->R (blV b g.T.length) (st.sO b (.cells (bl g.T.length (qe g l))))):Jb 359 [.agg (zo g),lst 6 zn l] st R:=by
 have ha:=qm hg
 have hT:((rws u8C g.T).length:Int)=(g.T.length:Int):=by rw[zr]
 refine Qa (c:=cfg 34) zb Tryz.func359 ?_
 refine H3 rfl (it:=ti59) (ie:=ti4) rfl rfl rfl rfl rfl (n:=(rws u8C g.T).length) ?_ ?_ (λb hf=>?_)
 ·rw[zr];show 1*_<=_;omega
 ·rw[zr];omega
 rw[zr,Nj]
 refine AWp.loop (σ:=Nat) ⟨λi=>[(2,.bx 2 0),(5,.av (blV b g.T.length)),(14,.av (lst 6 zn l)),(15,.av (int (l.length:Nat))),(16,.av (int (i:Nat)))],λ_=>[(2,zo g)],
  λi st'=>i<=l.length/\st'=st.sO b (.cells (bl g.T.length (qe g (l.take i)))),λi=>l.length-i⟩ zb ?_ ?_
 ·refine⟨0,Tv,⟨Faq _,rfl⟩,⟨Tq,Tq,Tq,?_,Tq,Tv⟩,⟨rfl,Tv⟩⟩
  rw[<-zr (f:=zn) l]
  exact Tq
 rintro i st' ⟨hi,rfl⟩
 refine bcd (λh1=>?_) (λh1=>?_)
 rotate_left
 ·have:i=l.length:=by omega
  subst this
  rw[Fax]
  exact ret (h b hf)
 have hlt:i<l.length:=by omega
 have hbi:=hb l[i] (Fab hlt)
 refine⟨i,rfl,za _ (yd hlt) ?_⟩
 refine Ot g hg l[i] hbi _ _ ?_
 have hcov:=λ(t:Nat) (ht:t<g.T.length)=>i8 hg hlt hbi ht
 have hmem:=Df hg hbi.1 hbi.2
 have h0:=i6 g l i (kk g.W l[i])
 have hts:=V9 g.W hbi.1
 generalize kk g.W l[i]=ts at*
 refine AWp.loop (σ:=Nat) ⟨λk=>[(2,.bx 2 0),(5,.av (blV b g.T.length)),(14,.av (lst 6 zn l)),(15,.av (int (l.length:Nat))),(16,.av (int (i:Nat))),(22,.av (jz ts)),(23,.av (int (ts.length:Nat))),(24,.av (int (k:Nat)))],λ_=>[(2,zo g)],
  λk st'=>k<=ts.length/\st'=st.sO b (.cells (bl g.T.length (xa g l i ts k))),λk=>ts.length-k⟩ zb ?_ ?_
 ·refine⟨0,Tv,⟨Faq _,?_⟩,⟨Tq,Tq,Tq,Tq,Tq,Tq,?_,Tq,Tv⟩,⟨rfl,Tv⟩⟩
  ·rw[show xa g l i ts 0=qe g (l.take i)from funext h0]
  ·rw[<-zr (f:=yo) ts]
   exact Tq
 rintro k st' ⟨hk,rfl⟩
 refine bcd (λh2=>?_) (λh2=>?_)
 rotate_left
 ·have:k=ts.length:=by omega
  subst this
  refine Qd ?_
  refine⟨i+1,?_,⟨by omega,?_⟩,Qaf,⟨rfl,Tv⟩⟩
  ·show l.length-(i+1)<l.length-i
   omega
  ·have:bl g.T.length (xa g l i ts ts.length)=bl g.T.length (qe g (l.take (i+1))):=by
    unfold bl
    exact Fbt λt ht=>by rw[hcov t (Fbb.1 ht)]
   rw[this]
 have hklt:k<ts.length:=by omega
 obtain⟨n,hn,hn2,hn3⟩:=(hmem ts[k]).1 (Fab hklt)
 have hnl:n<g.T.length:=by omega
 obtain⟨s1,s2⟩:=i7 (g:=g) (l:=l) (i:=i) hklt hn
 refine⟨k,rfl,za _ (yd hklt) ?_⟩
 refine⟨n,hn,hnl,?_⟩
 refine yz (i:=ti4) (v:=bool true) (b:=b) (o:=0+n*1) (l:=bl g.T.length (xa g l i ts k)) (st2:=st.sO b (.cells (bl g.T.length (xa g l i ts (k+1))))) rfl rfl rfl (zc _ _ _) (by rw[wl];omega) ?_ ?_
 ·rw[yk,show 0+n*1=n by omega,<-s1,Hx hnl _ s2]
 refine Qd ?_
 refine⟨k+1,?_,⟨by omega,rfl⟩,Qaf,⟨rfl,Tv⟩⟩
 show ts.length-(k+1)<ts.length-k
 omega
theorem cz(n:Nat)(f:Nat->Bool):(rws vy (blL n f)).flatten++[]=bl n f:=by rw[Fcf,zyg]
def opV(g:Gnd)(l:List Bld)(c:Int):AV:=lst 1 vy (blL g.T.length (ye g l c))
def vp(g:Gnd)(l:List Bld)(c:Int)(i t:Nat):Bool:=if t<i then ye g l c t else qe g l t
theorem F6(g:Gnd)(hg:zp g)(l:List Bld)(hl:l.length<=1000000000000)(hb:∀b∈l,yv b/\onP g b)(c:Int)(st:Store)(R:Ja)(h:R (opV g l c) st):
  Jb 293 [.agg (zo g),lst 6 zn l,int c] st R:=by
 have ha:=qm hg
 refine Qb (c:=cfg 37) zb Tryz.func293 ?_
 refine AWp.seq (AWp.of_vc zb ?_)
 refine AWp.seq (AWp.of_vc zb ?_)
 refine zwz g hg l hl hb _ _ (λb hf=>?_)
 have step:∀i,i<g.T.length->vp g l c (i+1) i=ye g l c i/\∀s,s≠i->vp g l c (i+1) s=vp g l c i s:=λi hi=>by
  unfold vp
  refine⟨if_pos (by omega),λs hs=>?_⟩
  by_cases h1:s<i
  ·rw[if_pos (by omega),if_pos h1]
  ·rw[if_neg (by omega),if_neg h1]
 refine AWp.meetA (σ:=Unit) ⟨λ_=>[(7,.av (blV b g.T.length))],λ_=>[],λ_ st'=>st'=st.sO b (.cells (bl g.T.length (ye g l c)))⟩ ?_ ?_
 ·refine AWp.of_vc zb ?_
  refine AWp.loop (σ:=Nat) ⟨λi=>[(2,.av (int c)),(3,.bx 3 0),(7,.av (blV b g.T.length)),(13,.av (blV b g.T.length)),(14,.av (int (g.T.length:Nat))),(15,.av (int (i:Nat)))],λ_=>[(3,zo g)],
   λi st'=>i<=g.T.length/\st'=st.sO b (.cells (bl g.T.length (vp g l c i))),λi=>g.T.length-i⟩ zb ?_ ?_
  ·refine⟨0,Tv,⟨Faq _,?_⟩,Qaf,⟨rfl,Tv⟩⟩
   rw[show vp g l c 0=qe g l from funext λt=>if_neg (Fbh t)]
  rintro i st' ⟨hi,rfl⟩
  refine bcd (λh1=>?_) (λh1=>?_)
  rotate_left
  ·have:i=g.T.length:=by omega
   subst this
   refine⟨(),?_,⟨Tq,Tv⟩,Tv⟩
   have:bl g.T.length (vp g l c g.T.length)=bl g.T.length (ye g l c):=by
    unfold bl vp
    exact Fbt λt ht=>by rw[if_pos (Fbb.1 ht)]
   rw[this]
  have hlt:i<g.T.length:=by omega
  obtain⟨s1,s2⟩:=step i hlt
  have ho:(st.sO b (.cells (bl g.T.length (vp g l c i)))).obj b=some (.cells (bl g.T.length (vp g l c i))):=zc _ _ _
  have hmid:vp g l c i i=qe g l i:=if_neg (Nat.lt_irrefl i)
  have hhead:((bl g.T.length (vp g l c i)).drop (0+i*1)).head?=some (bool (qe g l i)):=by
   rw[Fb9,show 0+i*1=i by omega,Dv hlt,hmid]
  refine⟨i,rfl,hlt,?_⟩
  refine za _ ho (za _ hhead ?_)
  have hti:g.T[i].toNat<=5:=hg.2.2.2 _ (Fab hlt)
  have hget:g.T.getD i 0=g.T[i]:=by simp[hlt]
  refine zk (λc1=>?_) (λc1=>?_)
  ·have c1:qe g l i=false:=by simpa using c1
   refine⟨i,rfl,za _ (yd hlt) ?_⟩
   refine Pp c g.T[i] hti _ _ ?_
   have hz:decide (0<wu c g.T[i].toNat)=ye g l c i:=by
    unfold ye
    rw[c1,hget];rfl
   refine⟨i,rfl,hlt,?_⟩
   refine yz (i:=ti4) (v:=bool (decide (0<wu c g.T[i].toNat))) (b:=b) (o:=0+i*1) (l:=_) (st2:=st.sO b (.cells (bl g.T.length (vp g l c (i+1))))) rfl rfl rfl ho (by rw[wl];omega) Qab ?_
   refine Qd ?_
   refine⟨i+1,?_,⟨by omega,rfl⟩,Qaf,⟨rfl,Tv⟩⟩
   show g.T.length-(i+1)<g.T.length-i
   omega
  ·have c1:qe g l i=true:=by simpa using c1
   have hz:false=ye g l c i:=by
    unfold ye
    rw[c1];rfl
   refine⟨i,rfl,hlt,?_⟩
   refine yz (i:=ti4) (v:=bool false) (b:=b) (o:=0+i*1) (l:=_) (st2:=st.sO b (.cells (bl g.T.length (vp g l c (i+1))))) rfl rfl rfl ho (by rw[wl];omega) Qab ?_
   refine Qd ?_
   refine⟨i+1,?_,⟨by omega,rfl⟩,Qaf,⟨rfl,Tv⟩⟩
   show g.T.length-(i+1)<g.T.length-i
   omega
 ·rintro _ _ rfl
  refine AWp.freeze (d:=7) (b:=b) (k:=1) (n:=g.T.length) (cap:=g.T.length) (rows:=rws vy (blL g.T.length (ye g l c))) (pad:=[]) rfl ?_ ?_ ?_ (Fak _) ?_ ?_ ?_
  ·rw[cz];exact zc _ _ _
  ·exact hf.2
  ·rw[zr,Cv]
  ·intro row hr
   obtain⟨x,_,rfl⟩:=Fad.1 hr
   rfl
  ·intro row hr y hy
   obtain⟨x,_,rfl⟩:=Fad.1 hr
   simp[vy]at hy
   exact⟨_,hy,rfl⟩
  rw[Sh hf.1]
  refine AWp.of_vc zb ?_
  exact ret h
theorem zx4(g:Gnd)(hg:zp g)(l:List Bld)(hl:l.length<=1000000000000)(st:Store)(R:Ja)
  (h:∀z:Bool,(z=true↔Gb g l)->R (bool z) st):Jb 188 [.agg (zo g),lst 6 zn l] st R:=by
 have ha:=qm hg
 have hT:((rws u8C g.T).length:Int)=(g.T.length:Int):=by rw[zr]
 have hL:((rws zn l).length:Int)=(l.length:Int):=by rw[zr]
 have no:¬Gb g l->R (bool false) st:=λhn=>h false (by simp[hn])
 refine Qa (c:=cfg 60) zb Tryz.func188 ?_
 refine bcd (λc1=>ret (no λq=>by have:=q.1;omega)) (λc1=>?_)
 refine zx7 l hl _ _ (λz hz=>?_)
 refine qd ?_
 refine zk (λc2=>?_) (λc2=>ret (no λq=>by have:=hz.2 q.2.1;rw[this]at c2;cases c2))
 have hr:=hz.1 c2
 refine H3 rfl (it:=ti59) (ie:=ti4) rfl rfl rfl rfl rfl (n:=(rws u8C g.T).length) ?_ ?_ (λb hf=>?_)
 ·rw[zr];show 1*_<=_;omega
 ·rw[zr];omega
 rw[zr (f:=u8C) g.T,Nj]
 have hhas:∀f:Nat->Bool,(st.sO b (.cells (bl g.T.length f))).Has st:=λf=>Cn hf.1
 refine AWp.loop (σ:=Nat) ⟨λi=>[(2,.bx 2 0),(5,.av (blV b g.T.length)),(22,.av (lst 6 zn l)),(23,.av (int (l.length:Nat))),(24,.av (int (i:Nat)))],λ_=>[(2,zo g)],
  λi st'=>i<=l.length/\st'=st.sO b (.cells (bl g.T.length (qe g (l.take i))))/\Sv g l i,λi=>l.length-i⟩ zb ?_ ?_
 ·refine⟨0,Tv,⟨Faq _,rfl,λj _ hj=>by omega⟩,⟨Tq,Tq,Tq,?_,Tq,Tv⟩,⟨rfl,Tv⟩⟩
  rw[<-zr (f:=zn) l]
  exact Tq
 rintro i st' ⟨hi,rfl,hup⟩
 refine bcd (λh1=>?_) (λh1=>?_)
 rotate_left
 ·have:i=l.length:=by omega
  subst this
  have hall:=zx3 hup
  exact k6 (Tt) (hhas _) (h true (by simp;exact⟨by omega,hr,hall.1,hall.2⟩))
 have hlt:i<l.length:=by omega
 have nof:¬Gb g l->∃r st',AV.le (bool false) r/\(st.sO b (.cells (bl g.T.length (qe g (l.take i))))).Has st'/\R r st':=λhn=>k6 (Tt) (hhas _) (no hn)
 refine⟨i,rfl,za _ (yd hlt) ?_⟩
 refine zyl l[i] _ _ (λz1 hz1=>?_)
 refine qd ?_
 refine zk (λc3=>?_) (λc3=>nof λq=>by have:=hz1.2 (q.2.2.1 _ (Fab hlt)).1;rw[this]at c3;cases c3)
 have hb1:=hz1.1 c3
 refine zx9 g l[i] hg hb1 _ _ (λz2 hz2=>?_)
 refine qd ?_
 refine zk (λc4=>?_) (λc4=>nof λq=>by have:=hz2.2 (q.2.2.1 _ (Fab hlt)).2.1;rw[this]at c4;cases c4)
 have hb2:=hz2.1 c4
 refine zym g hg l[i] ⟨hb1,hb2⟩ _ _ (λz3 hz3=>?_)
 refine qd ?_
 refine zk (λc5=>?_) (λc5=>nof λq=>by have:=hz3.2 (q.2.2.1 _ (Fab hlt)).2.2;rw[this]at c5;cases c5)
 have hb3:=hz3.1 c5
 have hbi:yv l[i]/\onP g l[i]:=⟨hb1,hb2⟩
 refine Ot g hg l[i] hbi _ _ ?_
 have hcov:=λ(t:Nat) (ht:t<g.T.length)=>i8 hg hlt hbi ht
 have hmem:=Df hg hbi.1 hbi.2
 have h0:=i6 g l i (kk g.W l[i])
 have hts:=V9 g.W hbi.1
 have hcm:=zw0 hg hlt hbi hup
 have hso:=rm hg hbi
 generalize kk g.W l[i]=ts at*
 refine AWp.loop (σ:=Nat) ⟨λk=>[(2,.bx 2 0),(5,.av (blV b g.T.length)),(22,.av (lst 6 zn l)),(23,.av (int (l.length:Nat))),(24,.av (int (i:Nat))),(45,.av (jz ts)),(46,.av (int (ts.length:Nat))),(47,.av (int (k:Nat)))],λ_=>[(2,zo g)],
  λk st'=>k<=ts.length/\st'=st.sO b (.cells (bl g.T.length (xa g l i ts k)))/\∀m,(hm:m<ts.length)->m<k->qe g (l.take i) ts[m].toNat=false,λk=>ts.length-k⟩ zb ?_ ?_
 ·refine⟨0,Tv,⟨Faq _,?_,λm _ hm=>by omega⟩,⟨Tq,Tq,Tq,Tq,Tq,Tq,?_,Tq,Tv⟩,⟨rfl,Tv⟩⟩
  ·rw[show xa g l i ts 0=qe g (l.take i)from funext h0]
  ·rw[<-zr (f:=yo) ts]
   exact Tq
 rintro k st' ⟨hk,rfl,hno⟩
 refine bcd (λh2=>?_) (λh2=>?_)
 rotate_left
 ·have:k=ts.length:=by omega
  subst this
  refine Qd ?_
  refine⟨i+1,?_,⟨by omega,?_,λj hj hji=>?_⟩,Qaf,⟨rfl,Tv⟩⟩
  ·show l.length-(i+1)<l.length-i
   omega
  ·have:bl g.T.length (xa g l i ts ts.length)=bl g.T.length (qe g (l.take (i+1))):=by
    unfold bl
    exact Fbt λt ht=>by rw[hcov t (Fbb.1 ht)]
   rw[this]
  ·by_cases e:j=i
   ·subst e
    refine⟨⟨hb1,hb2,hb3⟩,λm hm hmt=>?_⟩
    obtain⟨t,ht,hc⟩:=hcm.2 ⟨m,hm,hmt⟩
    obtain⟨q,hq,rfl⟩:=Fan ht
    rw[hno q hq hq]at hc
    cases hc
   ·exact hup j hj (by omega)
 have hklt:k<ts.length:=by omega
 obtain⟨n,hn,hn2,hn3⟩:=(hmem ts[k]).1 (Fab hklt)
 have hnl:n<g.T.length:=by omega
 obtain⟨s1,s2⟩:=i7 (g:=g) (l:=l) (i:=i) hklt hn
 have hnk:xa g l i ts k n=qe g (l.take i) n:=by
  unfold xa
  have:(ts.take k).contains (n:Int)=false:=by
   rw[<-hn]
   have:=zrb hso hklt
   simpa using this
  rw[this,Bool.or_false]
 refine⟨k,rfl,za _ (yd hklt) ?_⟩
 have ho:(st.sO b (.cells (bl g.T.length (xa g l i ts k)))).obj b=some (.cells (bl g.T.length (xa g l i ts k))):=zc _ _ _
 have hhead:((bl g.T.length (xa g l i ts k)).drop (0+n*1)).head?=some (V.bool (qe g (l.take i) n)):=by
  rw[Fb9,show 0+n*1=n by omega,Dv hnl,hnk]
 refine⟨n,hn,hnl,?_⟩
 refine za _ ho (za _ hhead ?_)
 refine zk (λc6=>?_) (λc6=>?_)
 ·refine k6 (Tt) (hhas _) (no λq=>?_)
  obtain⟨m,hm,hmt⟩:=hcm.1 ⟨ts[k],Fab hklt,by rw[hn,Fba];exact c6⟩
  exact q.2.2.2 i hlt m hm hmt
 refine⟨n,hn,hnl,?_⟩
 refine yz (i:=ti4) (v:=bool true) (b:=b) (o:=0+n*1) (l:=bl g.T.length (xa g l i ts k)) (st2:=st.sO b (.cells (bl g.T.length (xa g l i ts (k+1))))) rfl rfl rfl (zc _ _ _) (by rw[wl];omega) ?_ ?_
 ·rw[yk,show 0+n*1=n by omega,<-s1,Hx hnl _ s2]
 refine Qd ?_
 refine⟨k+1,?_,⟨by omega,rfl,λm hm hmk=>?_⟩,Qaf,⟨rfl,Tv⟩⟩
 ·show ts.length-(k+1)<ts.length-k
  omega
 ·by_cases e:m=k
  ·subst e
   rw[hn,Fba];exact c6
  ·exact hno m hm (by omega)
end Go.Proofs
namespace Go.Proofs
open Go Go.V
set_option maxRecDepth 20000
set_option maxHeartbeats 4000000
end Go.Proofs
namespace Go.Proofs
open Go Go.V
set_option maxRecDepth 20000
set_option maxHeartbeats 4000000
theorem ztp(g:Gnd)(hg:zp g)(t:Nat)(ht:(t:Int)<g.W*g.H)(x:Int)(hx:x=(t:Int))(p:Vc)(hp:k7 p.1 p.2)(r:Int)(hr:0<r/\r<=262144)(st:Store)(R:Ja)(h:R (V.bool (decide (ve g t p r))) st):
  Jb 292 [.agg (zo g),int x,.agg (zx p),int r] st R:=by
 subst hx
 exact ztq g hg t ht p hp r hr st R h
theorem gm(g:Gnd)(hg:zp g)(l:List Bld)(c:Int)(p:Vc)(hpo:p.ok)(r:Int)(hr:0<r/\r<=262144)(st:Store)(R:Ja)
  (h:∀z:Bool,(z=true↔wj g l c p r)->R (V.bool z) st):Jb 196 [.agg (zo g),opV g l c,.agg (zx p),int r] st R:=by
 have ha:=qm hg
 have hg1:=hg.1
 have hg2:=hg.2.1
 have no:¬wj g l c p r->R (V.bool false) st:=λhn=>h false (by simp only[Fag,false_iff];exact hn)
 refine Qa (c:=cfg 112) zb Tryz.func196 ?_
 refine Qc zb zoh ?_
 refine Qd ?_
 refine Qd ?_
 refine Qai ?_
 refine Qaj ?_
 refine zwr p r _ _ (λz hz=>?_)
 refine qd ?_
 refine zk (λc0=>?_) (λc0=>ret (no λq=>by
  have:=hz.2 ⟨⟨by omega,hr.2⟩,by unfold k7;have:=q.1;omega⟩
  rw[this]at c0;cases c0))
 have hp:=(hz.1 c0).2
 have hp':=hp
 unfold k7 at hp'
 refine Qd ?_
 refine bcd (λc1=>ret (no λq=>by have:=q.1;omega)) (λc1=>?_)
 refine Qd ?_
 refine bcd (λc2=>ret (no λq=>by have:=q.1;omega)) (λc2=>?_)
 refine Qd ?_
 refine bcd (λc3=>ret (no λq=>by have:=q.1;omega)) (λc3=>?_)
 refine Qd ?_
 refine bcd (λc4=>ret (no λq=>by have:=q.1;omega)) (λc4=>?_)
 refine Qd ?_
 refine⟨by decide,?_⟩
 have hy0:(p.2-r).tdiv 65536=(p.2-r)/65536:=Fa7 (by omega)
 have hx0:(p.1-r).tdiv 65536=(p.1-r)/65536:=Fa7 (by omega)
 have hy1:(p.2+r).tdiv 65536=(p.2+r)/65536:=Fa7 (by omega)
 have hx1:(p.1+r).tdiv 65536=(p.1+r)/65536:=Fa7 (by omega)
 refine Qd ?_
 rw[hy0]
 refine AWp.loop (σ:=Nat) ⟨λk=>[(1,.av (opV g l c)),(3,.av (int r)),(4,.bx 4 0),(6,.bx 6 0),(11,.av (int ((p.2-r)/65536+(k:Nat))))],λ_=>[(4,zo g),(6,zx p)],
  λk st'=>st'=st/\((k:Int)<=g.H-(p.2-r)/65536\/k=0)/\Hv g l c p r ((p.2-r)/65536+(k:Nat)),λk=>(g.H-(p.2-r)/65536).toNat-k⟩ zb ?_ ?_
 ·refine⟨0,Tv,⟨rfl,.inr rfl,?_⟩,⟨Tq,Tq,Tq,Tq,?_,Tv⟩,⟨rfl,rfl,Tv⟩⟩
  ·rw[show(p.2-r)/65536+((0:Nat):Int)=(p.2-r)/65536 by omega]
   exact zxj hr.1 (by omega)
  ·rw[show(p.2-r)/65536+((0:Nat):Int)=(p.2-r)/65536 by omega];exact Tq
 rintro k st' ⟨rfl,hk,hup⟩
 refine Qd ?_
 refine⟨by decide,?_⟩
 refine Qd ?_
 rw[hy1]
 have done:(¬((p.2-r)/65536+(k:Int)<=(p.2+r)/65536)\/¬((p.2-r)/65536+(k:Int)<g.H))->R (V.bool true) st':=λhh=>
  h true (by simp only[true_iff];exact⟨by omega,zxk hg hr.1 (by omega) hh hup⟩)
 refine bcd (λc5=>?_) (λc5=>ret (done (.inl c5)))
 refine bcd (λc6=>?_) (λc6=>ret (done (.inr c6)))
 refine Qd ?_
 refine⟨by decide,?_⟩
 refine Qd ?_
 rw[hx0]
 have hyb:0<=(p.2-r)/65536:=by omega
 have hxb:0<=(p.1-r)/65536:=by omega
 refine AWp.loop (σ:=Nat) ⟨λm=>[(1,.av (opV g l c)),(3,.av (int r)),(4,.bx 4 0),(6,.bx 6 0),(11,.av (int ((p.2-r)/65536+(k:Nat)))),(12,.av (int ((p.1-r)/65536+(m:Nat))))],λ_=>[(4,zo g),(6,zx p)],
  λm st2=>st2=st'/\((m:Int)<=g.W-(p.1-r)/65536\/m=0)/\Kq g l c p r ((p.2-r)/65536+(k:Nat)) ((p.1-r)/65536+(m:Nat)),λm=>(g.W-(p.1-r)/65536).toNat-m⟩ zb ?_ ?_
 ·refine⟨0,Tv,⟨rfl,.inr rfl,?_⟩,⟨Tq,Tq,Tq,Tq,Tq,?_,Tv⟩,⟨rfl,rfl,Tv⟩⟩
  ·rw[show(p.1-r)/65536+((0:Nat):Int)=(p.1-r)/65536 by omega]
   exact zxm hr.1 (by omega)
  ·rw[show(p.1-r)/65536+((0:Nat):Int)=(p.1-r)/65536 by omega];exact Tq
 rintro m st2 ⟨rfl,hm,hrow⟩
 refine Qd ?_
 refine⟨by decide,?_⟩
 refine Qd ?_
 rw[hx1]
 have done2:(¬((p.1-r)/65536+(m:Int)<=(p.1+r)/65536)\/¬((p.1-r)/65536+(m:Int)<g.W))->Hv g l c p r ((p.2-r)/65536+((k+1:Nat):Int)):=λhh=>by
  rw[Ss]
  exact zxn hg hr.1 (by omega) hh hup hrow
 have mu:(g.H-(p.2-r)/65536).toNat-(k+1)<(g.H-(p.2-r)/65536).toNat-k:=dv (Int.lt_sub_left_of_add_lt c6)
 have step2:LV.le (qo .i64 ((p.2-r)/65536+(k:Int)+1)) (.av (int ((p.2-r)/65536+((k+1:Nat):Int)))):=by
  rw[Ss];exact Tq
 refine bcd (λc7=>?_) (λc7=>zf (by omega) ⟨k+1,mu,⟨rfl,.inl (Mh c6),done2 (.inl c7)⟩,⟨Tq,Tq,Tq,Tq,step2,Tv⟩,⟨rfl,rfl,Tv⟩⟩)
 refine bcd (λc8=>?_) (λc8=>zf (by omega) ⟨k+1,mu,⟨rfl,.inl (Mh c6),done2 (.inr c8)⟩,⟨Tq,Tq,Tq,Tq,step2,Tv⟩,⟨rfl,rfl,Tv⟩⟩)
 obtain⟨q1,q2,q3,q4⟩:=Ig hg (x:=(p.1-r)/65536+(m:Int)) (y:=(p.2-r)/65536+(k:Int)) (by omega) (by omega)
 have q5:0<=g.W*((p.2-r)/65536+(k:Int)):=Fa2 (by omega) (by omega)
 have hstep:=zxl (l:=l) (c:=c) (p:=p) (r:=r) hg (x:=(p.1-r)/65536+(m:Int)) (y:=(p.2-r)/65536+(k:Int)) (by omega) (by omega) hrow
 refine Qd ?_
 refine Qd ?_
 obtain⟨n,hn⟩:∃n:Nat,(n:Int)=(p.1-r)/65536+(m:Int)+g.W*((p.2-r)/65536+(k:Int)):=⟨_,Int.toNat_of_nonneg q1⟩
 rw[<-hn,Fba]at hstep
 have hnl:n<g.T.length:=by omega
 have mu2:(g.W-(p.1-r)/65536).toNat-(m+1)<(g.W-(p.1-r)/65536).toNat-m:=dv (Int.lt_sub_left_of_add_lt c8)
 have e2:(p.1-r)/65536+((m+1:Nat):Int)=(p.1-r)/65536+(m:Int)+1:=Ss _ _
 have step3:LV.le (qo .i64 ((p.1-r)/65536+(m:Int)+1)) (.av (int ((p.1-r)/65536+((m+1:Nat):Int)))):=by
  rw[e2];exact Tq
 refine⟨n,hn.symm,za _ (zyi hnl) ?_⟩
 refine qd ?_
 refine zk (λc9=>?_) (λc9=>?_)
 ·refine Qd ?_
  exact⟨m+1,mu2,⟨rfl,.inl (Mh c8),by rw[e2];exact hstep λhh=>by rw[c9]at hh;cases hh⟩,⟨Tq,Tq,Tq,Tq,Tq,step3,Tv⟩,⟨rfl,rfl,Tv⟩⟩
 refine ztp g hg n (by omega) _ hn.symm p hp r hr _ _ ?_
 refine bcd (λc10=>?_) (λc10=>?_)
 ·exact ret (no λq=>q.2 n hnl c9 c10)
 ·refine Qd ?_
  exact⟨m+1,mu2,⟨rfl,.inl (Mh c8),by rw[e2];exact hstep λ_=>c10⟩,⟨Tq,Tq,Tq,Tq,Tq,step3,Tv⟩,⟨rfl,rfl,Tv⟩⟩
theorem fg(x:Int)(st:Store)(R:Ja)(h:R (V.bool false) st):Jb 200 [int x] st R:=by
 refine Qa (c:=cfg 6) zb Tryz.func200 ?_
 refine⟨_,st,Tt,Store.Has.refl st,?_⟩
 have e:(x != x)=false:=by simp
 rw[<-e]at h
 exact h
theorem zxb(x y:Int)(st:Store)(R:Ja)(h:R (int (Hu x y)) st):Jb 119 [int x,int y] st R:=by
 refine Qa (c:=cfg 20) zb Tryz.func119 ?_
 refine fg _ _ _ ?_
 refine fg _ _ _ ?_
 unfold Hu at h
 refine zk (λh1=>⟨_,st,Tt,Store.Has.refl st,?_⟩) (λh1=>?_)
 ·rw[if_pos (by simpa using h1)]at h
  exact h
 ·rw[if_neg (by simpa using h1)]at h
  refine zk (λh2=>⟨_,st,Tt,Store.Has.refl st,?_⟩) (λh2=>⟨_,st,Tt,Store.Has.refl st,?_⟩)
  ·rw[if_pos (by simpa using h2)]at h
   exact h
  ·rw[if_neg (by simpa using h2)]at h
   exact h
theorem mh(u:Unt)(id:Int)(st:Store)(R:Ja)(h:R (int (Hu u.id id)) st):Jb 118 [.agg (zj u),int id] st R:=by
 refine Qa (c:=cfg 9) zb Tryz.func118 ?_
 exact zxb u.id id _ _ (ret h)
def I5(l:List Unt)(id:Int)(i:Nat):Prop:=i<=l.length/\(∀j,(h:j<l.length)->j<i->l[j].id<id)/\∀j,(h:j<l.length)->i<=j->id<=l[j].id
theorem zx6(l:List Unt)(hl:l.length<=1000000000000)(hr:yh l)(id:Int)(st:Store)(R:Ja)
  (h:∀i,I5 l id i->∀z:Bool,(z=true↔∃hi:i<l.length,l[i].id=id)->R (.tup [int (i:Nat),V.bool z]) st):Jb 117 [lst 10 zj l,int id,.clos 118 []] st R:=by
 refine Qa (c:=cfg 49) zb Tryz.func117 ?_
 refine AWp.loop (σ:=Nat×Nat) ⟨λs=>[(0,.av (lst 10 zj l)),(1,.av (int id)),(2,.av (.clos 118 [])),(8,.av (int (l.length:Nat))),(9,.av (int (s.1:Nat))),(10,.av (int (s.2:Nat)))],λ_=>[],
  λs st'=>st'=st/\s.1<=s.2/\s.2<=l.length/\(∀j,(h:j<l.length)->j<s.1->l[j].id<id)/\∀j,(h:j<l.length)->s.2<=j->id<=l[j].id,λs=>s.2-s.1⟩ zb ?_ ?_
 ·refine⟨(0,l.length),Tv,⟨rfl,Faq _,Fak _,λj _ hj=>by omega,λj hj hj2=>by omega⟩,⟨Tq,Tq,Tq,?_,Tq,?_,Tv⟩,Tv⟩
  ·rw[<-zr (f:=zj) l];exact Tq
  ·rw[<-zr (f:=zj) l];exact Tq
 rintro⟨i,j⟩ st' ⟨rfl,hij,hj,hlo,hhi⟩
 dsimp only at hij hj hlo hhi⊢
 refine bcd (λh1=>?_) (λh1=>?_)
 rotate_left
 ·have e:i=j:=by omega
  subst e
  have hat:I5 l id i:=⟨hj,hlo,hhi⟩
  refine bcd (λh2=>?_) (λh2=>?_)
  ·have hlt:i<l.length:=by omega
   refine⟨i,rfl,za _ (yd hlt) ?_⟩
   refine mh l[i] id _ _ ?_
   refine ret (h i hat _ ?_)
   have:=hhi i hlt (Fak _)
   unfold Hu
   rw[if_neg (by omega)]
   by_cases e:l[i].id=id
   ·rw[if_neg (by omega)];simp[hlt,e]
   ·rw[if_pos (by omega)];simp[e]
  ·exact ret (h i hat _ (by simp;omega))
 refine Qd ?_
 refine⟨by decide,?_⟩
 have hmid:(IntKind.u64.wrap ((i:Int)+(j:Int))).fdiv (2^(min (1:Int).toNat IntKind.u64.bits))=(((i+j)/2:Nat):Int):=by
  have e1:IntKind.u64.wrap ((i:Int)+(j:Int))=((i+j:Nat):Int):=by
   simp[IntKind.wrap,IntKind.bits,IntKind.signed];omega
  have e2:(2:Int)^(min (1:Int).toNat IntKind.u64.bits)=2:=rfl
  have e3:(((i+j:Nat):Int)).fdiv 2=(((i+j)/2:Nat):Int):=by
   rw[Int.fdiv_eq_ediv_of_nonneg _ (by decide)];rfl
  rw[e1,e2,e3]
 have hk1:(i+j)/2<j:=by omega
 have hk2:i<=(i+j)/2:=by omega
 have hkl:(i+j)/2<l.length:=by omega
 have hmono:∀a b,(ha:a<l.length)->(hb:b<l.length)->a<=b->l[a].id<=l[b].id:=by
  intro a b ha hb hab
  induction b with
  |zero=>
   have:a=0:=by omega
   subst this;exact Fcl _
  |succ b ih=>
   by_cases e:a=b+1
   ·subst e;exact Fcl _
   ·have h2:=ih (by omega) (by omega)
    have h3:=hr (b+1) hb (by omega)
    simp only[Fdd]at h3
    omega
 refine⟨by rw[hmid];exact⟨by omega,by omega⟩,?_⟩
 refine⟨(i+j)/2,hmid,za _ (yd hkl) ?_⟩
 refine mh l[(i+j)/2] id _ _ ?_
 have hc:Hu l[(i+j)/2].id id<0↔l[(i+j)/2].id<id:=by
  unfold Hu;split
  ·omega
  ·split<;>omega
 refine bcd (λh2=>?_) (λh2=>?_)
 ·have h2:=hc.1 h2
  refine zf (by rw[hmid];omega) ?_
  refine⟨((i+j)/2+1,j),?_,⟨rfl,by dsimp only;omega,hj,λa ha ha2=>?_,hhi⟩,⟨Tq,Tq,Tq,Tq,?_,Tq,Tv⟩,Tv⟩
  ·show j-((i+j)/2+1)<j-i
   omega
  ·have:=hmono a ((i+j)/2) ha hkl (by dsimp only at ha2;omega)
   omega
  ·dsimp only
   exact(congrArg (λn:Int=>LV.le (qo .i64 (n+1)) (.av (int (((i+j)/2+1:Nat):Int)))) hmid).mpr (Tq)
 ·have h2:¬l[(i+j)/2].id<id:=λhh=>h2 (hc.2 hh)
  refine⟨(i,(i+j)/2),?_,⟨rfl,hk2,by dsimp only;omega,hlo,λa ha ha2=>?_⟩,⟨Tq,Tq,Tq,Tq,Tq,?_,Tv⟩,Tv⟩
  ·show(i+j)/2-i<j-i
   omega
  ·have:=hmono ((i+j)/2) a hkl ha (by dsimp only at ha2;omega)
   omega
  ·dsimp only
   exact(congrArg (λn:Int=>LV.le (qo .i64 n) (.av (int (((i+j)/2:Nat):Int)))) hmid).mpr (Tq)
theorem Sz(l:List Unt)(hl:l.length<=1000000000000)(hr:yh l)(id:Int)(st:Store)(R:Ja)
  (h:∀i,I5 l id i->∀z:Bool,(z=true↔∃hi:i<l.length,l[i].id=id)->R (.tup [int (i:Nat),V.bool z]) st):Jb 65 [lst 10 zj l,int id] st R:=by
 refine Qa (c:=cfg 11) zb Tryz.func65 ?_
 exact zx6 l hl hr id _ _ λi hi z hz=>ret (h i hi z hz)
section
variable {F S:Store} {p:Nat}
theorem zx0{l:List Ent}(hc:CellsOf F p l)(hd:zh F S)(hl:l.length<=1000000000)(hok:∀e∈l,e.2.ok)(id:Int)(R:Ja)
  (h:∀F',CellsOf F' p (yr l id)->zh F' S->R (V.bool (l.find? (j2 id)).isSome) (F'.un S)):Jb 221 [ptr p,int id] (F.un S) R:=
 ACalls.frame (R:=λr a'=>r=V.bool (l.find? (j2 id)).isSome/\CellsOf a' p (yr l id)) hd (lu hc hl hok id _ λa' ha'=>⟨rfl,ha'⟩) λr a' ⟨h1,h2⟩ hd'=>h1▸h a' h2 hd'
theorem Su{l:List Ent}(hc:CellsOf F p l)(hd:zh F S)(hl:l.length<=1000000000)(hok:∀e∈l,e.2.ok)(id:Int)(pos:Vc)(hpos:pos.ok)(R:Ja)
  (h:∀F',CellsOf F' p (yr l id++[(id,pos)])->zh F' S->R (.tup []) (F'.un S)):Jb 194 [ptr p,int id,.agg (zx pos)] (F.un S) R:=
 ACalls.frame (R:=λr a'=>r=.tup []/\CellsOf a' p (yr l id++[(id,pos)])) hd (zxv hc hl hok id pos hpos _ λa' ha'=>⟨rfl,ha'⟩) λr a' ⟨h1,h2⟩ hd'=>h1▸h a' h2 hd'
theorem l4{l:List Ent}(hc:CellsOf F p l)(hd:zh F S)(hl:l.length<=1000000000)(hok:∀e∈l,e.2.ok){q:Vc}(hq:q.ok){r:Int}(hr:ya r)(R:Ja)
  (h:∀F' N v ns,CellsOf F' p l->zh F' N->zh F' S->zh N S->Ints N v ns->Ky l q r ns->R v ((F'.un N).un S)):Jb 294 [ptr p,.agg (zx q),int r] (F.un S) R:=
 ACalls.frame (R:=λv a'=>∃F' N ns,a'=F'.un N/\CellsOf F' p l/\zh F' N/\Ints N v ns/\Ky l q r ns) hd (zxw hc hl hok hq hr _ λF' N v ns h1 h2 h3 h4=>⟨F',N,ns,rfl,h1,h2,h3,h4⟩)
  λv a' ⟨F',N,ns,h1,h2,h3,h4,h5⟩ hd'=>by subst h1;exact h F' N v ns h2 h3 (disj_un.1 hd').1 (disj_un.1 hd').2 h4 h5
end
section
variable {s p:Nat} {w:Wld} {o0 o1 o2:AV}
def stC(w:Wld)(o0 o1 o2:AV)(p:Nat):List AV:=zu w++[o0,o1,o2,ptr p]
def stS(s:Nat)(w:Wld)(o0 o1 o2:AV)(p:Nat):Store:=Store.empty.sO s (.cells (stC w o0 o1 o2 p))
def G7(w:Wld)(c:Int)(o:AV):Prop:=o=.s (.slice none 0 0)\/o=opV w.G w.B c
structure StandAt(F:Store)(s p:Nat)(w:Wld)(L:List Ent)(o0 o1 o2:AV):Prop where
 hc:CellsOf F p L
 hd:zh F (stS s w o0 o1 o2 p)
 h0:G7 w 0 o0
 h1:G7 w 1 o1
 h2:G7 w 2 o2
theorem Ce(s:Nat)(w:Wld)(o0 o1 o2:AV)(p:Nat):(stS s w o0 o1 o2 p).obj s=some (.cells (stC w o0 o1 o2 p)):=zc _ _ _
theorem stS_has{i:Nat}:(stS s w o0 o1 o2 p).has i↔i=s:=by
 unfold Store.has stS
 constructor
 ·rintro(h|h)
  ·apply Decidable.byContradiction
   intro hn
   rw[ze hn]at h
   exact h rfl
  ·exact absurd rfl h
 ·rintro rfl
  exact .inl (by rw[zc];simp)
theorem Sf{F:Store}{q0 q1 q2:AV}(h:zh F (stS s w o0 o1 o2 p)):zh F (stS s w q0 q1 q2 p):=λi h1 h2=>h i h1 (stS_has.2 (stS_has.1 h2))
theorem Pe{l:List Unt}(hr:yh l){a b:Nat}(hab:a<b)(hb:b<l.length):(l[a]'(by omega)).id<l[b].id:=by
 induction b with
 |zero=>omega
 |succ b ih=>
  have h3:=hr (b+1) hb (by omega)
  simp only[Fdd]at h3
  by_cases e:a=b
  ·subst e;exact h3
  ·have:=ih (by omega) (by omega)
   omega
theorem zq1(w:Wld)(hU:w.U.length<=1000000)(hn:∀u∈w.U,u.pos.ok)(R:Ja)
  (h:∀F s p L o0 o1 o2,StandAt F s p w L o0 o1 o2->L.length<=w.U.length->(yh w.U->∀e,e∈L↔∃u∈w.U,u.inn=0/\e=(u.id,u.pos))->R (ptr s) (F.un (stS s w o0 o1 o2 p))):Jb 114 [.agg (zu w)] Store.empty R:=by
 refine Qa (c:=cfg 31 [9] []) zb Tryz.func114 ?_
 refine Qc zb bg ?_
 refine⟨lv _ (λF p hc=>⟨Qe,?_⟩),Tv⟩
 refine⟨λs hs=>⟨Tv,?_⟩,Tv⟩
 refine Qaj ?_
 have e0:F.sO s (.cells (stC w (.s (.slice none 0 0)) (.s (.slice none 0 0)) (.s (.slice none 0 0)) p))=F.un (stS s w (.s (.slice none 0 0)) (.s (.slice none 0 0)) (.s (.slice none 0 0)) p):=by
  exact zm F Store.empty s _
 have h0:StandAt F s p w [] (.s (.slice none 0 0)) (.s (.slice none 0 0)) (.s (.slice none 0 0)):=⟨hc,λi h1 h2=>by
  have:=stS_has.1 h2
  subst this
  exact(fresh_iff.1 hs) h1,.inl rfl,.inl rfl,.inl rfl⟩
 refine AWp.loop (σ:=Nat×Store×List Ent) ⟨λq=>[(3,.av (ptr s)),(11,.av (lst 10 zj w.U)),(12,.av (int (w.U.length:Nat))),(13,.av (int (q.1:Nat)))],λ_=>[],
  λq st'=>st'=q.2.1.un (stS s w (.s (.slice none 0 0)) (.s (.slice none 0 0)) (.s (.slice none 0 0)) p)/\StandAt q.2.1 s p w q.2.2 (.s (.slice none 0 0)) (.s (.slice none 0 0)) (.s (.slice none 0 0))/\q.1<=w.U.length/\q.2.2.length<=q.1/\(∀e∈q.2.2,e.2.ok)/\(yh w.U->∀e,e∈q.2.2↔∃u∈w.U.take q.1,u.inn=0/\e=(u.id,u.pos)),λq=>w.U.length-q.1⟩ zb ?_ ?_
 ·refine⟨(0,F,[]),Tv,⟨e0,h0,Faq _,Fak _,λe he=>(by cases he),λ_ e=>(by simp)⟩,⟨Tq,Tq,?_,Tq,Tv⟩,Tv⟩
  rw[<-zr (f:=zj) w.U];exact Tq
 rintro⟨i,F1,L⟩ st' ⟨rfl,hS,hi,hL,hok,hmem⟩
 dsimp only at hS hi hL hok hmem⊢
 refine bcd (λh1=>?_) (λh1=>?_)
 rotate_left
 ·have:i=w.U.length:=by omega
  subst this
  rw[Fax]at hmem
  exact ret (h F1 s p L _ _ _ hS hL hmem)
 have hlt:i<w.U.length:=by omega
 refine⟨i,rfl,za _ (yd hlt) ?_⟩
 have hn2:=hn w.U[i] (Fab hlt)
 refine qs (λc1=>?_) (λc1=>?_)
 ·refine Qc zb bf ?_
  refine za (o:=(F1.un (stS s w _ _ _ p)).obj s) _ (zd (Ce s w _ _ _ p)) ?_
  refine⟨Su hS.hc hS.hd (by omega) hok w.U[i].id w.U[i].pos hn2 _ (λF2 h2 h3=>⟨Tv,?_⟩),Tv⟩
  have hlen:(yr L w.U[i].id++[(w.U[i].id,w.U[i].pos)]).length<=i+1:=by
   rw[Faj]
   have:(yr L w.U[i].id).length<=L.length:=Fdt _ _
   simp only[Fbp];omega
  refine Qd ?_
  refine⟨(i+1,F2,_),?_,⟨rfl,⟨h2,h3,.inl rfl,.inl rfl,.inl rfl⟩,by dsimp only;omega,hlen,λe he=>?_,λhr e=>?_⟩,⟨Tq,Tq,Tq,Tq,Tv⟩,Tv⟩
  ·show w.U.length-(i+1)<w.U.length-i
   omega
  ·rcases Fai.1 he with he|he
   ·exact hok e (mem_dropId.1 he).1
   ·simp at he;subst he;exact hn2
  ·dsimp only
   rw[Fac hlt,Fai,mem_dropId,hmem hr e]
   constructor
   ·rintro(⟨⟨u,hu,h4⟩,_⟩|he)
    ·exact⟨u,Fai.2 (.inl hu),h4⟩
    ·simp at he
     exact⟨w.U[i],Fai.2 (.inr (by simp)),c1,he⟩
   ·rintro⟨u,hu,h4,h5⟩
    rcases Fai.1 hu with hu|hu
    ·refine .inl ⟨⟨u,hu,h4,h5⟩,?_⟩
     obtain⟨j,hj,rfl⟩:=Fan hu
     rw[Fat]at hj
     rw[Fc6]at h5
     have:=Pe hr (a:=j) (b:=i) (by omega) hlt
     subst h5
     show w.U[j].id≠w.U[i].id
     omega
    ·simp at hu
     subst hu
     exact .inr (by simp[h5])
 ·refine Qd ?_
  refine⟨(i+1,F1,L),?_,⟨rfl,hS,by dsimp only;omega,by dsimp only;omega,hok,λhr e=>?_⟩,Qaf,Tv⟩
  ·show w.U.length-(i+1)<w.U.length-i
   omega
  ·dsimp only
   rw[hmem hr e,Fac hlt]
   constructor
   ·rintro⟨u,hu,h3⟩;exact⟨u,Fai.2 (.inl hu),h3⟩
   ·rintro⟨u,hu,h3,h4⟩
    rcases Fai.1 hu with hu|hu
    ·exact⟨u,hu,h3,h4⟩
    ·simp at hu
     subst hu
     exact absurd h3 c1
end
theorem wy{g:Gnd}(hg:zp g)(l:List Bld)(c:Int):∃x y,opV g l c=.lst 1 (x::y) none:=by
 have ha:=qm hg
 unfold opV lst
 cases h:rws vy (blL g.T.length (ye g l c))with
 |nil=>
  have:=zr (f:=vy) (blL g.T.length (ye g l c))
  rw[h,Cv]at this
  simp at this
  omega
 |cons x y=>exact⟨x,y,rfl⟩
theorem Hw{v:AV}(h:∃x y,v=.lst 1 (x::y) none):cellsOf v=some [v]/\v.one=true:=by
 obtain⟨x,y,rfl⟩:=h
 exact⟨rfl,rfl⟩
theorem zl9{F:Store}{s p:Nat}{w:Wld}{L:List Ent}{o0 o1 o2:AV}(hS:StandAt F s p w L o0 o1 o2)(hg:zp w.G)(hB:w.B.length<=1000000000000)(hb:∀b∈w.B,yv b/\onP w.G b)(c:Int)(hc:c=0\/c=1\/c=2)(R:Ja)
  (h:∀q0 q1 q2,StandAt F s p w L q0 q1 q2->R (opV w.G w.B c) (F.un (stS s w q0 q1 q2 p))):Jb 197 [ptr s,int c] (F.un (stS s w o0 o1 o2 p)) R:=by
 have ho:=zd (a:=F) (Ce s w o0 o1 o2 p)
 obtain⟨x0,y0,hne0⟩:=wy hg w.B 0
 obtain⟨x1,y1,hne1⟩:=wy hg w.B 1
 obtain⟨x2,y2,hne2⟩:=wy hg w.B 2
 rcases hc with rfl|rfl|rfl
 ·rcases hS.h0 with e|e
  ·subst e
   refine Qa (c:=cfg 35) zb Tryz.func197 ?_
   refine⟨0,rfl,by decide,?_⟩
   refine za (o:=(F.un (stS s w _ _ _ p)).obj s) _ ho ?_
   refine Qc zb Gy ?_
   refine za (o:=(F.un (stS s w _ _ _ p)).obj s) _ ho ?_
   refine za (o:=(F.un (stS s w _ _ _ p)).obj s) _ ho ?_
   refine⟨F6 w.G hg w.B hB hb 0 _ _ ⟨Tv,?_⟩,Tv⟩
   refine⟨0,rfl,by decide,?_⟩
   have ho2:=zd (a:=F) (Ce s w (opV w.G w.B 0) o1 o2 p)
   have hc2:=Hw (wy hg w.B 0)
   refine⟨?_,Tv⟩
   refine za _ rfl (je rfl (xy (v:=opV w.G w.B 0) rfl rfl rfl rfl ?_))
   refine yz (i:=ti59) (v:=opV w.G w.B 0) (b:=s) (o:=0+8+0*ti59.size) (l:=stC w _ o1 o2 p) (st2:=F.un (stS s w (opV w.G w.B 0) o1 o2 p)) hc2.1 hc2.2 rfl ho (show 8+1<=12 by decide) ?_ ?_
   ·rw[zm]
    unfold stS
    rw[yk]
    rfl
   refine⟨Tv,?_⟩
   refine⟨0,rfl,by decide,?_⟩
   refine za (o:=(F.un (stS s w _ _ _ p)).obj s) _ ho2 ?_
   exact ret (h _ _ _ ⟨hS.hc,Sf hS.hd,.inr rfl,hS.h1,hS.h2⟩)
  ·rw[hne0]at e
   subst e
   refine Qa (c:=cfg 35) zb Tryz.func197 ?_
   refine⟨0,rfl,by decide,?_⟩
   refine za (o:=(F.un (stS s w _ _ _ p)).obj s) _ ho ?_
   refine λbb hbb=>?_
   have hbf:bb=false:=by
    cases bb with
    |true=>cases hbb rfl
    |false=>rfl
   subst hbf
   refine⟨0,rfl,by decide,?_⟩
   refine za (o:=(F.un (stS s w _ _ _ p)).obj s) _ ho ?_
   refine ret ?_
   have:=h _ _ _ hS
   rw[hne0]at this
   exact this
 ·rcases hS.h1 with e|e
  ·subst e
   refine Qa (c:=cfg 35) zb Tryz.func197 ?_
   refine⟨1,rfl,by decide,?_⟩
   refine za (o:=(F.un (stS s w _ _ _ p)).obj s) _ ho ?_
   refine Qc zb Gy ?_
   refine za (o:=(F.un (stS s w _ _ _ p)).obj s) _ ho ?_
   refine za (o:=(F.un (stS s w _ _ _ p)).obj s) _ ho ?_
   refine⟨F6 w.G hg w.B hB hb 1 _ _ ⟨Tv,?_⟩,Tv⟩
   refine⟨1,rfl,by decide,?_⟩
   have ho2:=zd (a:=F) (Ce s w o0 (opV w.G w.B 1) o2 p)
   have hc2:=Hw (wy hg w.B 1)
   refine⟨?_,Tv⟩
   refine za _ rfl (je rfl (xy (v:=opV w.G w.B 1) rfl rfl rfl rfl ?_))
   refine yz (i:=ti59) (v:=opV w.G w.B 1) (b:=s) (o:=0+8+1*ti59.size) (l:=stC w o0 _ o2 p) (st2:=F.un (stS s w o0 (opV w.G w.B 1) o2 p)) hc2.1 hc2.2 rfl ho (show 9+1<=12 by decide) ?_ ?_
   ·rw[zm]
    unfold stS
    rw[yk]
    rfl
   refine⟨Tv,?_⟩
   refine⟨1,rfl,by decide,?_⟩
   refine za (o:=(F.un (stS s w _ _ _ p)).obj s) _ ho2 ?_
   exact ret (h _ _ _ ⟨hS.hc,Sf hS.hd,hS.h0,.inr rfl,hS.h2⟩)
  ·rw[hne1]at e
   subst e
   refine Qa (c:=cfg 35) zb Tryz.func197 ?_
   refine⟨1,rfl,by decide,?_⟩
   refine za (o:=(F.un (stS s w _ _ _ p)).obj s) _ ho ?_
   refine λbb hbb=>?_
   have hbf:bb=false:=by
    cases bb with
    |true=>cases hbb rfl
    |false=>rfl
   subst hbf
   refine⟨1,rfl,by decide,?_⟩
   refine za (o:=(F.un (stS s w _ _ _ p)).obj s) _ ho ?_
   refine ret ?_
   have:=h _ _ _ hS
   rw[hne1]at this
   exact this
 ·rcases hS.h2 with e|e
  ·subst e
   refine Qa (c:=cfg 35) zb Tryz.func197 ?_
   refine⟨2,rfl,by decide,?_⟩
   refine za (o:=(F.un (stS s w _ _ _ p)).obj s) _ ho ?_
   refine Qc zb Gy ?_
   refine za (o:=(F.un (stS s w _ _ _ p)).obj s) _ ho ?_
   refine za (o:=(F.un (stS s w _ _ _ p)).obj s) _ ho ?_
   refine⟨F6 w.G hg w.B hB hb 2 _ _ ⟨Tv,?_⟩,Tv⟩
   refine⟨2,rfl,by decide,?_⟩
   have ho2:=zd (a:=F) (Ce s w o0 o1 (opV w.G w.B 2) p)
   have hc2:=Hw (wy hg w.B 2)
   refine⟨?_,Tv⟩
   refine za _ rfl (je rfl (xy (v:=opV w.G w.B 2) rfl rfl rfl rfl ?_))
   refine yz (i:=ti59) (v:=opV w.G w.B 2) (b:=s) (o:=0+8+2*ti59.size) (l:=stC w o0 o1 _ p) (st2:=F.un (stS s w o0 o1 (opV w.G w.B 2) p)) hc2.1 hc2.2 rfl ho (show 10+1<=12 by decide) ?_ ?_
   ·rw[zm]
    unfold stS
    rw[yk]
    rfl
   refine⟨Tv,?_⟩
   refine⟨2,rfl,by decide,?_⟩
   refine za (o:=(F.un (stS s w _ _ _ p)).obj s) _ ho2 ?_
   exact ret (h _ _ _ ⟨hS.hc,Sf hS.hd,hS.h0,hS.h1,.inr rfl⟩)
  ·rw[hne2]at e
   subst e
   refine Qa (c:=cfg 35) zb Tryz.func197 ?_
   refine⟨2,rfl,by decide,?_⟩
   refine za (o:=(F.un (stS s w _ _ _ p)).obj s) _ ho ?_
   refine λbb hbb=>?_
   have hbf:bb=false:=by
    cases bb with
    |true=>cases hbb rfl
    |false=>rfl
   subst hbf
   refine⟨2,rfl,by decide,?_⟩
   refine za (o:=(F.un (stS s w _ _ _ p)).obj s) _ ho ?_
   refine ret ?_
   have:=h _ _ _ hS
   rw[hne2]at this
   exact this
section
variable {F:Store} {s p:Nat} {w:Wld} {o0 o1 o2:AV}
theorem zmr{L:List Ent}(hS:StandAt F s p w L o0 o1 o2)(hr:yh w.U)(hU:w.U.length<=1000000)(hn:∀u∈w.U,u.pos.ok)(hLl:L.length<=w.U.length)(hL:wz w L)(q:Vc)(hq:q.ok)(r:Int)(hrr:0<r/\r<=262144)(R:Ja)
  (h:∀F' us,StandAt F' s p w L o0 o1 o2->Fl w q (r+81920) us->us.length<=1000000->R (lst 10 zj us) (F'.un (stS s w o0 o1 o2 p))):Jb 198 [ptr s,.agg (zx q),int r] (F.un (stS s w o0 o1 o2 p)) R:=by
 have ho:=zd (a:=F) (Ce s w o0 o1 o2 p)
 refine Qa (c:=cfg 47) zb Tryz.func198 ?_
 refine Qc zb W9 ?_
 refine za (o:=(F.un (stS s w _ _ _ p)).obj s) _ ho ?_
 refine Qd ?_
 refine⟨l4 hS.hc hS.hd (by omega) (Pw hL hn) hq (r:=r+81920) ⟨by omega,by omega⟩ _ (λF' N v ns g1 g2 g3 g4 g5 g6=>⟨Tv,?_⟩),Tv⟩
 have hS':StandAt F' s p w L o0 o1 o2:=⟨g1,g3,hS.h0,hS.h1,hS.h2⟩
 have ho':((F'.un N).un (stS s w o0 o1 o2 p)).obj s=some (.cells (stC w o0 o1 o2 p)):=zd (Ce s w o0 o1 o2 p)
 have g4':zh (F'.un N) (stS s w o0 o1 o2 p):=disj_un.2 ⟨g3,g4⟩
 have hv:∃oa cap,v=.s (.slice oa ns.length cap)/\∀i,i<ns.length->∃b J,oa=some ⟨b,0,none⟩/\((F'.un N).un (stS s w o0 o1 o2 p)).obj b=some (.cells (ns.map aI++J)):=by
  rcases I6 g5 with⟨rfl,rfl⟩|⟨b,cap,J,rfl,hob,_⟩
  ·exact⟨none,0,rfl,λi hi=>absurd hi (Fbh i)⟩
  ·exact⟨_,cap,rfl,λi _=>⟨b,J,rfl,yn g4' (zd hob)⟩⟩
 obtain⟨oa,cap,rfl,hget⟩:=hv
 have hnl:ns.length<=w.U.length:=by
  have:=Fbm (l₂:=L.map (·.1)) (g6.1.imp λh=>by omega) (λid hid=>by
   obtain⟨e,he,h2,_⟩:=(g6.2 id).1 hid
   exact Fad.2 ⟨e,he,h2⟩)
  rw[Fa5]at this
  omega
 have hfin:∀us:List Unt,us.map (·.id)=ns->(∀u∈us,u∈w.U/\u.inn=0)->R (lst 10 zj us) (F'.un (stS s w o0 o1 o2 p)):=λus e1 e2=>
  h F' us hS' (dp hr hL g6 e1 e2) (by
   have:=congrArg List.length e1
   rw[Fa5]at this
   omega)
 have hback:=fw (S:=stS s w o0 o1 o2 p) g2
 generalize(F'.un N).un (stS s w o0 o1 o2 p)=st1 at*
 refine AWp.loop (σ:=Nat×AV×List Unt) ⟨λx=>[(0,.av (ptr s)),(6,.av x.2.1),(18,.av (.s (.slice oa ns.length cap))),(19,.av (int (ns.length:Nat))),(20,.av (int (x.1:Nat)))],λ_=>[],
  λx st'=>x.1<=ns.length/\App 10 st1 x.2.1 (rws zj x.2.2) st'/\x.2.2.map (·.id)=ns.take x.1/\∀u∈x.2.2,u∈w.U/\u.inn=0,λx=>ns.length-x.1⟩ zb ?_ ?_
 ·exact⟨(0,_,[]),Tv,⟨Faq _,App.start 10 st1,rfl,λu hu=>(by cases hu)⟩,⟨Tq,Tq,Tq,Tq,Tq,Tv⟩,Tv⟩
 rintro⟨i,v2,us⟩ st' ⟨hi,ha,hus,hin⟩
 dsimp only at hi ha hus hin⊢
 refine bcd (λh1=>?_) (λh1=>?_)
 rotate_left
 ·have:i=ns.length:=by omega
  subst this
  rw[Fax]at hus
  exact⟨_,_,AV.le_trans ha.le (Tt),ha.has.trans hback,hfin us hus hin⟩
 have hlt:i<ns.length:=by omega
 obtain⟨b,J,rfl,hob⟩:=hget i hlt
 have hob':st'.obj b=some (.cells (ns.map aI++J)):=by rw[ha.obj];exact hob
 have hos:st'.obj s=some (.cells (stC w o0 o1 o2 p)):=by rw[ha.obj];exact ho'
 refine⟨i,rfl,hlt,?_⟩
 refine Qak ?_
 refine za (o:=List.head? _) (int ns[i]) (by
  rw[Fb9,show 0+i*ti2.size=i from by show 0+i*1=i;omega,Fah (by simpa using hlt),Fam,Faa hlt];rfl) ?_
 refine Qak ?_
 refine Sz w.U (by omega) hr ns[i] _ _ (λk hk z hz=>?_)
 obtain⟨e,he,hid,_⟩:=(g6.2 ns[i]).1 (Fab hlt)
 obtain⟨u,hu,hu0,rfl⟩:=(hL e).1 he
 have hfound:∃hk2:k<w.U.length,w.U[k].id=ns[i]:=by
  obtain⟨j,hj,rfl⟩:=Fan hu
  have h5:j>=k:=Decidable.byContradiction λhn2=>by
   have:=hk.2.1 j hj (by omega)
   have h6:(w.U[j]).id=ns[i]:=hid
   omega
  have h7:k<w.U.length:=by omega
  refine⟨h7,?_⟩
  have h8:=hk.2.2 k h7 (Fak _)
  have h6:(w.U[j]).id=ns[i]:=hid
  by_cases e:k=j
  ·subst e;exact h6
  ·have:=Bj hr (show k<j by omega) hj
   omega
 obtain⟨hk2,hk3⟩:=hfound
 refine Qak ?_
 refine⟨k,rfl,za _ (yd hk2) ?_⟩
 refine⟨by decide,?_⟩
 have hul:us.length=i:=by
  have:=congrArg List.length hus
  rw[Fa5,Fat]at this
  omega
 refine No (ie:=ti36) (rows':=[zj w.U[k]]) ha ?_ ?_ ⟨?_,?_⟩ (λv3 st3 ha3=>?_)
 ·rfl
 ·rfl
 ·simp only[zr,Fbp,ti36];omega
 ·simp only[zr,Fbp];omega
 refine Qd ?_
 have huk:w.U[k]=u:=Fe hr (Fab hk2) hu (by rw[hk3];exact hid.symm)
 refine⟨(i+1,v3,us++[w.U[k]]),?_,⟨by dsimp only;omega,?_,?_,λu2 hu2=>?_⟩,Qaf,Tv⟩
 ·show ns.length-(i+1)<ns.length-i
  omega
 ·dsimp only
  unfold rws at ha3⊢
  rw[Fbj]
  exact ha3
 ·dsimp only
  rw[Fbj,hus,Fac hlt]
  simp[hk3]
 ·rcases Fai.1 hu2 with h9|h9
  ·exact hin u2 h9
  ·simp at h9
   subst h9
   rw[huk]
   exact⟨hu,hu0⟩
theorem zml{L:List Ent}(hS:StandAt F s p w L o0 o1 o2)(hg:zp w.G)(hB:w.B.length<=1000000000000)(hb:∀b∈w.B,yv b/\onP w.G b)(hr:yh w.U)(hU:w.U.length<=1000000)(hn:∀u∈w.U,u.pos.ok)(hLl:L.length<=w.U.length)(hL:wz w L)
  (id k:Int) (q:Vc) (hq:q.ok) (R:Ja)
  (h:∀z F' q0 q1 q2,(z=true↔qv w id k q)->StandAt F' s p w L q0 q1 q2->R (V.bool z) (F'.un (stS s w q0 q1 q2 p))):Jb 115 [ptr s,int id,int k,.agg (zx q)] (F.un (stS s w o0 o1 o2 p)) R:=by
 have ho:=zd (a:=F) (Ce s w o0 o1 o2 p)
 have hk:=Di k
 have hc:=Mf k
 refine Qa (c:=cfg 56) zb Tryz.func115 ?_
 refine xt k _ _ ?_
 refine Qc zb bd ?_
 refine za (o:=(F.un (stS s w _ _ _ p)).obj s) _ ho ?_
 refine⟨zl9 hS hg hB hb (yx k) hc _ (λa0 a1 a2 hS1=>⟨?_,?_⟩),Tv⟩
 ·have ho1:=zd (a:=F) (Ce s w a0 a1 a2 p)
  repeat(first|exact Tv|refine⟨rfl,?_⟩|refine⟨za (o:=(F.un (stS s w a0 a1 a2 p)).obj s) _ ho1 rfl,?_⟩)
 refine⟨gm w.G hg w.B (yx k) q hq (zq k) ⟨hk.1,by omega⟩ _ _ (λz hz=>⟨Tv,?_⟩),Tv⟩
 refine qd ?_
 refine zk (λc1=>?_) (λc1=>ret (h false _ _ _ _ (by simp only[Fag,false_iff];exact λhh=>by have:=hz.2 hh.1;rw[this]at c1;cases c1) hS1))
 have hfree:=hz.1 c1
 refine zmr hS1 hr hU hn hLl hL q hq (zq k) ⟨hk.1,by omega⟩ _ (λF' us hS2 hus hul=>?_)
 have hci:=ll (id:=id) hfree hus
 have no:¬qv w id k q->R (V.bool false) (F'.un (stS s w a0 a1 a2 p)):=λhh=>h false _ _ _ _ (by simp only[Fag,false_iff];exact hh) hS2
 refine AWp.loop (σ:=Nat) ⟨λi=>[(1,.av (int id)),(7,.bx 7 0),(9,.bx 9 0),(32,.av (lst 10 zj us)),(33,.av (int (us.length:Nat))),(34,.av (int (i:Nat)))],λ_=>[(7,zx q),(9,Fs k)],
  λi st'=>st'=F'.un (stS s w a0 a1 a2 p)/\i<=us.length/\∀j,(hj:j<us.length)->j<i->us[j].id≠id->kb q (zq k) us[j].pos (zq us[j].kind)=true,λi=>us.length-i⟩ zb ?_ ?_
 ·refine⟨0,Tv,⟨rfl,Faq _,λj _ hj=>by omega⟩,⟨Tq,Tq,Tq,Tq,?_,Tq,Tv⟩,⟨rfl,rfl,Tv⟩⟩
  rw[<-zr (f:=zj) us];exact Tq
 rintro i st' ⟨rfl,hi,hall⟩
 refine bcd (λh1=>?_) (λh1=>?_)
 rotate_left
 ·refine ret (h true _ _ _ _ (by
   simp only[true_iff]
   refine hci.2 λu hu hne=>?_
   obtain⟨j,hj,rfl⟩:=Fan hu
   exact hall j hj (by omega) hne) hS2)
 have hlt:i<us.length:=by omega
 have hui:=(hus us[i]).1 (Fab hlt)
 have next:(us[i].id≠id->kb q (zq k) us[i].pos (zq us[i].kind)=true)->∀j,(hj:j<us.length)->j<i+1->us[j].id≠id->kb q (zq k) us[j].pos (zq us[j].kind)=true:=λhh j hj hji=>by
  by_cases e:j=i
  ·subst e;exact hh
  ·exact hall j hj (by omega)
 refine⟨i,rfl,za _ (yd hlt) ?_⟩
 refine Qc zb bc ?_
 refine Dw (λc2=>?_) (λc2=>?_)
 ·refine⟨xt us[i].kind _ _ ⟨Qe,?_⟩,Tv⟩
  have hk2:=Di us[i].kind
  refine⟨mq q (zq k) us[i].pos (zq us[i].kind) hq (hn _ hui.1.1) ⟨hk.1,by omega⟩ ⟨hk2.1,by omega⟩ _ _ ⟨Tv,?_⟩,Tv⟩
  refine qd ?_
  refine zk (λc3=>?_) (λc3=>?_)
  ·refine Qd ?_
   refine⟨i+1,?_,⟨rfl,by omega,next λ_=>c3⟩,Qaf,⟨rfl,rfl,Tv⟩⟩
   show us.length-(i+1)<us.length-i
   omega
  ·refine ret (no λhh=>?_)
   have:=hci.1 hh us[i] (Fab hlt) c2
   rw[this]at c3;cases c3
 ·refine Qai ?_
  refine Qaj ?_
  refine Qd ?_
  refine⟨i+1,?_,⟨rfl,by omega,next λhne=>absurd c2 hne⟩,Qaf,⟨rfl,rfl,Tv⟩⟩
  show us.length-(i+1)<us.length-i
  omega
end
theorem zsy{R:Ja}{b:Bool}{st:Store}(h:R (V.bool b) st)(hb:b=true):R (V.bool true) st:=by rw[hb]at h;exact h
theorem zux(w:Wld)(b:Bld)(p:Nat)(st:Store)(hp:st.obj p=some (.cells (zu w)))(R:Ja)(h:R (V.bool (decide (b.owner>w.players\/b.id>=w.next))) st):
  Jb 190 ([.agg (zn b)]++[ptr p]) st R:=by
 refine Qa (c:=cfg 16) zb Tryz.func190 ?_
 refine za _ hp ?_
 refine bcd (λc1=>ret (zsy h (decide_eq_true (.inl c1)))) (λc1=>?_)
 refine za _ hp ?_
 refine ret ?_
 have e:decide (b.owner>w.players\/b.id>=w.next)=decide (b.id>=w.next):=by
  rw[Fb5,decide_eq_true_iff,decide_eq_true_iff];omega
 rw[e]at h
 exact h
theorem zuw(w:Wld)(hw:w.fits)(st:Store)(R:Ja)(h:∀z:Bool,(z=true↔Kb w)->R (V.bool z) st):Jb 112 [.agg (zu w)] st R:=by
 obtain⟨hw1,hw2,hw3⟩:=hw
 refine Qa (c:=cfg 54 [1] []) zb Tryz.func112 ?_
 intro p hp
 have ho:(st.sO p (.cells (zu w))).obj p=some (.cells (zu w)):=zc _ _ _
 have nof:¬Kb w->∃r st',AV.le (V.bool false) r/\(st.sO p (.cells (zu w))).Has st'/\R r st':=λhn=>k6 (Tt) (Cn hp.1) (h false (by simp only[Fag,false_iff];exact hn))
 refine za _ ho ?_
 refine bcd (λc1=>nof λq=>by have:=q.1;omega) (λc1=>?_)
 refine za _ ho ?_
 refine bcd (λc2=>nof λq=>by have:=q.1;omega) (λc2=>?_)
 refine za _ ho ?_
 refine bcd (λc3=>nof λq=>by have:=q.1;omega) (λc3=>?_)
 refine za _ ho ?_
 refine bcd (λc4=>nof λq=>by have:=q.1;omega) (λc4=>?_)
 refine za _ ho ?_
 refine bcd (λc5=>nof λq=>by have:=q.1;omega) (λc5=>?_)
 refine za _ ho ?_
 refine bcd (λc6=>nof λq=>by have:=q.1;omega) (λc6=>?_)
 refine za _ ho ?_
 refine Rv w.G hw1 _ _ (λz hz=>?_)
 refine qd ?_
 refine zk (λc7=>?_) (λc7=>nof λq=>by have:=hz.2 q.2.1.1;rw[this]at c7;cases c7)
 have hg:=hz.1 c7
 refine za _ ho ?_
 refine za _ ho ?_
 refine zx4 w.G hg w.B hw2 _ _ (λz hz=>?_)
 refine qd ?_
 refine zk (λc8=>?_) (λc8=>nof λq=>by have:=hz.2 q.2.1.2.1;rw[this]at c8;cases c8)
 have hb:=hz.1 c8
 refine za _ ho ?_
 have hUl:((rws zj w.U).length:Int)=(w.U.length:Int):=by rw[zr]
 refine bcd (λc9=>nof λq=>by have:=q.2.1.2.2;omega) (λc9=>?_)
 refine za _ ho ?_
 refine zyd w.B hw2 _ _ (λb=>decide (b.owner>w.players\/b.id>=w.next)) _ (λb hb R h=>zux w b p _ ho R h) _ ?_
 refine k6 (Tt) (Cn hp.1) (h _ ?_)
 rw[Fbv,Fc7]
 constructor
 ·intro hh
  refine⟨by omega,⟨hg,hb,by omega⟩,λb hb2=>?_⟩
  have:=hh b hb2
  rw[decide_eq_true_iff]at this
  omega
 ·intro hh b hb2
  have:=hh.2.2 b hb2
  rw[decide_eq_true_iff]
  omega
end Go.Proofs
