/- Ground of laws of thronglaw30: contracts and plain lemmas; no condition beyond the row's own. -/
import Derived.Test.YtieceacpbjcddaaGreatKJ
import Derived.Test.YtieceacpbjcddaaGreatKI
import Derived.Test.YtieceacpbjcddaaGreatKH
set_option linter.unusedSimpArgs false
set_option linter.unusedVariables false
set_option linter.defProp false
namespace Go.Proofs
open Go Go.V
set_option maxRecDepth 20000
set_option maxHeartbeats 4000000
theorem Gz(n:Int)(st:Store)(R:Ja)(h:R (int (nrm n)) st):Jb 306 [int n] st R:=by
 refine Qa (c:=cfg 5) zb Tryz.func306 ?_
 rw[<-zvw]at h
 exact ret h
theorem zv7(n:Int)(hn:zy n)(st:Store)(R:Ja)(h:R (int (-nrm n)) st):Jb 310 [int n] st R:=by
 refine Qa (c:=cfg 6) zb Tryz.func310 ?_
 refine Gz n _ _ ?_
 have:=Bg hn
 refine⟨⟨by omega,by omega⟩,?_⟩
 rw[show -nrm n=0-nrm n by omega]at h
 exact ret h
theorem Gb(a b:Int)(ha:zy a)(hb:zy b)(st:Store)(R:Ja)(h:R (int (yx a b)) st):Jb 227 [int a,int b] st R:=by
 refine Qa (c:=cfg 30) zb Tryz.func227 ?_
 refine Gz a _ _ ?_
 refine Gz b _ _ ?_
 have h1:=Bg ha
 have h2:=Bg hb
 unfold yx at h
 generalize nrm a=x at*
 generalize nrm b=y at*
 have k1:x+y>9223372036854775807->R (int 9223372036854775807) st:=λhh=>by grind[ke]
 have k2:x+y< -9223372036854775807->R (int (-9223372036854775807)) st:=λhh=>by rw[show ke (x+y)=-9223372036854775807 by unfold ke;omega]at h;exact h
 have k3:¬x+y>9223372036854775807->¬x+y< -9223372036854775807->zy (x+y)/\R (int (x+y)) st:=λhh hh'=>⟨⟨by omega,by omega⟩,by simp_all[ke]⟩
 have fin:¬x+y>9223372036854775807->¬x+y< -9223372036854775807->zy (x+y)/\∃r st',AV.le (int (x+y)) r/\st.Has st'/\R r st':=λhh hh'=>⟨(k3 hh hh').1,ret (k3 hh hh').2⟩
 have e:Int.negSucc 9223372036854775806=-9223372036854775807:=rfl
 refine bcd (λc1=>?_) (λc1=>?_)
 ·refine⟨⟨by omega,by omega⟩,?_⟩
  refine bcd (λc2=>?_) (λc2=>?_)
  ·exact ret (k1 (by omega))
  ·refine bcd (λc3=>?_) (λc3=>?_)
   ·omega
   ·exact fin (by omega) (by omega)
 ·refine bcd (λc3=>?_) (λc3=>?_)
  ·refine⟨⟨by omega,by omega⟩,?_⟩
   refine bcd (λc4=>?_) (λc4=>?_)
   ·exact ret (k2 (by omega))
   ·exact fin (by omega) (by omega)
  ·exact fin (by omega) (by omega)
theorem Ff(a b:Int)(ha:zy a)(hb:zy b)(st:Store)(R:Ja)(h:R (int (yj a b)) st):Jb 230 [int a,int b] st R:=by
 refine Qa (c:=cfg 9) zb Tryz.func230 ?_
 refine zv7 b hb _ _ ?_
 have h2:=Bg hb
 exact Gb a (-nrm b) ha ⟨by omega,by omega⟩ _ _ (ret h)
theorem cn(n:Int)(hn:zy n)(st:Store)(R:Ja)(h:R (.tup [u64 (asz n),bool (decide (nrm n<0))]) st):Jb 312 [int n] st R:=by
 refine Qa (c:=cfg 13) zb Tryz.func312 ?_
 refine Gz n _ _ ?_
 have h1:=Bg hn
 unfold asz at h
 generalize nrm n=x at*
 refine bcd (λc1=>?_) (λc1=>?_)
 ·refine⟨⟨by omega,by omega⟩,?_⟩
  rw[if_pos c1,show decide (x<0)=true by simp[c1]]at h
  rw[<-Dk (v:=-x) (by omega) (by omega),show -x=0-x by omega]at h
  exact ret h
 ·rw[if_neg c1,show decide (x<0)=false by simp[c1]]at h
  rw[<-Dk (v:=x) (by omega) (by omega)]at h
  exact ret h
theorem Vr(x y:Int)(hx:0<=x)(hx2:x<18446744073709551616)(hy:0<=y)(hy2:y<18446744073709551616)(st:Store)(R:Ja)(h:R (.tup (kl (x*y))) st):
  Jb 271 [u64 x,u64 y] st R:=by
 refine Qa (c:=cfg 51) zb Tryz.func271 ?_
 refine⟨by decide,?_⟩
 refine⟨by decide,?_⟩
 refine⟨by decide,?_⟩
 refine⟨by decide,?_⟩
 refine⟨by decide,?_⟩
 refine ret ((congrArg (λl=>R (.tup l) st) ?_).mpr h)
 obtain⟨p00,p10,p01,p11,e1,e2,e3,e4,e5,b⟩:=zbq x y hx hx2 hy hy2
 simp only[zp6,cm hx,cm hy,ct,<-e1,<-e2,<-e3,<-e4]
 rw[cm (Int.emod_nonneg _ (by decide))]
 unfold kl u64
 refine congr (congrArg _ ?_) rfl
 grind
theorem O0(x:Int)(hx:0<=x)(hx2:x<18446744073709551616)(st:Store)(R:Ja)(h:R (.agg (kl (x*x))) st):Jb 309 [u64 x] st R:=by
 refine Qa (c:=cfg 14) zb Tryz.func309 ?_
 exact Vr x x hx hx2 hx hx2 _ _ (ret h)
theorem s7(a b:Int)(ha:0<=a)(hb:0<=b)(st:Store)(R:Ja)(h:R (bool (decide (a<b))) st):Jb 308 [.agg (kl a),.agg (kl b)] st R:=by
 refine Qa (c:=cfg 24) zb Tryz.func308 ?_
 refine bcd (λc1=>?_) (λc1=>?_)
 ·exact ret (isT h (by grind))
 ·refine qf (λc2=>?_) (λc2=>?_)
  ·refine ret ?_
   have:decide (a<b)=decide (a%18446744073709551616<b%18446744073709551616):=by grind
   rw[this]at h;exact h
  ·exact ret (isF h (by grind))
theorem tz(x y c:Int)(hx:0<=x)(hy:0<=y)(hc:0<=c)(hc1:c<=1)(st:Store)(R:Ja)(h:R (.tup [u64 ((x+y+c)%18446744073709551616),u64 ((x+y+c)/18446744073709551616)]) st):
  Jb 401 [u64 x,u64 y,u64 c] st R:=by
 obtain⟨a,rfl⟩:=Fb4 hx
 obtain⟨b,rfl⟩:=Fb4 hy
 obtain⟨d,rfl⟩:=Fb4 hc
 exact ye0 Tryz.laysNm725 a b d (by omega) h
theorem ui(a b:Int)(ha:0<=a)(hb:0<=b)(hab:a+b<340282366920938463463374607431768211456)(st:Store)(R:Ja)(h:R (.agg (kl (a+b))) st):Jb 367 [.agg (kl a),.agg (kl b)] st R:=by
 refine Qa (c:=cfg 29) zb Tryz.func367 ?_
 refine tz (a%18446744073709551616) (b%18446744073709551616) 0 (by omega) (by omega) (by omega) (by omega) _ _ ?_
 refine tz (a/18446744073709551616) (b/18446744073709551616) ((a%18446744073709551616+b%18446744073709551616+0)/18446744073709551616) (by omega) (by omega) (by omega) (by omega) _ _ ?_
 refine ret ((congrArg (λl=>R (.agg l) st) ?_).mpr h)
 refine uw ?_ ?_
 ·omega
 ·omega
theorem Se{v:Vc}(h:v.ok):0<=asz v.1*asz v.1/\0<=asz v.2*asz v.2/\asz v.1*asz v.1<=85070591730234615847396907784232501249/\asz v.2*asz v.2<=85070591730234615847396907784232501249:=by
 obtain⟨h1,h2⟩:=h
 have a1:=Kb h1
 have a2:=Kb h2
 have b:∀x:Int,0<=x->x<=9223372036854775807->0<=x*x/\x*x<=85070591730234615847396907784232501249:=by
  intro x h3 h4
  refine⟨Fa1 h3 h3,?_⟩
  have h5:x*x<=9223372036854775807*9223372036854775807:=Fbj h4 h4 h3 (by decide)
  exact h5
 grind
theorem fq(v:Vc)(hv:v.ok)(st:Store)(R:Ja)(h:R (.agg (kl (sqr v))) st):Jb 307 [.agg (z6 v)] st R:=by
 refine Qa (c:=cfg 24) zb Tryz.func307 ?_
 have a1:=Kb hv.1
 have a2:=Kb hv.2
 have b:=Se hv
 refine cn v.1 hv.1 _ _ ?_
 refine cn v.2 hv.2 _ _ ?_
 refine O0 (asz v.1) (by omega) (by omega) _ _ ?_
 refine O0 (asz v.2) (by omega) (by omega) _ _ ?_
 exact ui _ _ (by omega) (by omega) (by omega) _ _ (ret h)
theorem Rn(a b:Vc)(ha:a.ok)(hb:b.ok)(st:Store)(R:Ja)(h:R (.agg (z6 (qo a b))) st):Jb 229 [.agg (z6 a),.agg (z6 b)] st R:=by
 refine Qa (c:=cfg 16) zb Tryz.func229 ?_
 refine Qc zb zrx ?_
 refine⟨Ff a.1 b.1 ha.1 hb.1 _ _ ⟨Qe,?_⟩,Tv⟩
 refine⟨Ff a.2 b.2 ha.2 hb.2 _ _ ⟨Qe,?_⟩,Tv⟩
 refine Qar ?_
 exact ret h
theorem Ro(a b:Vc):(qo a b).ok:=⟨F5 _ _,F5 _ _⟩
theorem Mn(a b:Vc)(r:Int)(ha:a.ok)(hb:b.ok)(hr:r<=9223372036854775807)(st:Store)(R:Ja)(h:R (bool (near a b r)) st):Jb 228 [.agg (z6 a),.agg (z6 b),int r] st R:=by
 refine Qa (c:=cfg 17) zb Tryz.func228 ?_
 unfold near at h
 refine bcd (λc1=>?_) (λc1=>?_)
 ·exact ret (isF h (by grind))
 ·have hb2:=Se (Ro a b)
  refine Rn a b ha hb _ _ ?_
  refine fq _ (Ro a b) _ _ ?_
  refine((congrArg (λn=>Jb 309 [.s (.int .u64 n)] st _) (Dk (v:=r) (by omega) (by omega))).mpr ?_)
  refine O0 r (by omega) (by omega) _ _ ?_
  refine s7 _ _ ?_ (Fa1 (by omega) (by omega)) _ _ (ret ?_)
  ·unfold sqr;omega
  ·have:decide (0<r/\sqr (qo a b)<r*r)=decide (sqr (qo a b)<r*r):=by grind
   rw[this]at h;exact h
theorem zyz(g:Gnd)(hg:zp g)(t:Nat)(ht:(t:Int)<g.W*g.H)(p:Vc)(hp:jj p.1 p.2)(r:Int)(hr:0<r/\r<=262144)(st:Store)(R:Ja)(h:R (bool (decide (wj g t p r))) st):
  Jb 295 [.agg (zn g),int t,.agg (z6 p),int r] st R:=by
 have hb:=Gj hg ht
 have hn:=zwa hg ht hp hr.1
 have hx:=R0 hg ht
 have hq:=Mv (t:=t) hg.1.1
 have hq2:=Mw (t:=t) hg.1.1
 have hg1:=hg.1
 have hg2:=hg.2.1
 have hp':=hp
 unfold jj at hp'
 refine Qa (c:=cfg 41) zb Tryz.func295 ?_
 refine Qc zb zrg ?_
 refine⟨by omega,?_⟩
 have q1:zy ((t:Int).tmod g.W*65536):=by rw[hq];unfold zy;omega
 have q2:zy ((t:Int).tdiv g.W):=by rw[hq2];unfold zy;omega
 have q3:zy ((t:Int).tdiv g.W*65536):=by rw[hq2];unfold zy;omega
 refine⟨q1,?_⟩
 refine⟨by omega,?_⟩
 refine⟨q2,?_⟩
 refine⟨q3,?_⟩
 refine Qar ?_
 refine Qas ?_
 have e1:(t:Int).tmod g.W*65536=tx g t:=by rw[hq];rfl
 have e2:(t:Int).tdiv g.W*65536=ty g t:=by rw[hq2];rfl
 rw[e1,e2]
 refine Qd ?_
 refine Qd ?_
 have c1:=Po (x:=p.1) hx.1
 have c2:=Po (x:=p.2) hx.2
 refine Mn p (Dg p.1 (tx g t),Dg p.2 (ty g t)) r ⟨⟨by omega,by omega⟩,⟨by omega,by omega⟩⟩ ⟨⟨by omega,by omega⟩,⟨by omega,by omega⟩⟩ (by omega) _ _ (ret ?_)
 rw[hn]
 exact h
theorem yb4(p:Vc)(r:Int)(st:Store)(R:Ja)(h:∀z:Bool,(z=true↔(0<=r/\r<=262144)/\jj p.1 p.2)->R (bool z) st):Jb 294 [.agg (z6 p),int r] st R:=by
 refine Qa (c:=cfg 15) zb Tryz.func294 ?_
 repeat' (first|refine bcd (λ_=>?_) (λ_=>?_)|refine zi (λ_=>?_) (λ_=>?_)|refine Qd ?_|(refine zu2 p _ _ ?_;rintro(_|_) hz)|fail)
 all_goals
  refine ret (h _ ?_)
  simp only[decide_eq_true_eq,decide_eq_false_iff_not,Fai,false_iff,true_iff,beq_iff_eq,bne_iff_ne,beq_eq_false_iff_ne,ne_eq,reduceCtorEq,jj]at*
  omega
theorem ia(r:Int)(hr:0<r/\r<=262144)(st:Store)(R:Ja)(h:R (int r) st):Jb 297 [int r] st R:=by
 refine Qa (c:=cfg 6) zb Tryz.func297 ?_
 have e:min2 (max2 r 0) 262144=r:=by rw[min2_eq,max2_eq];omega
 rw[<-e]at h
 exact ret h
theorem tj(p:Vc)(r:Int)(q:Vc)(s:Int)(hp:p.ok)(hq:q.ok)(hr:0<r/\r<=262144)(hs:0<s/\s<=262144)(st:Store)(R:Ja)(h:R (bool (vf p r q s)) st):
  Jb 220 [.agg (z6 p),int r,.agg (z6 q),int s] st R:=by
 refine Qa (c:=cfg 18) zb Tryz.func220 ?_
 refine Qc zb zr4 ?_
 refine⟨ia r hr _ _ ⟨Qe,?_⟩,Tv⟩
 refine⟨ia s hs _ _ ⟨Qe,?_⟩,Tv⟩
 refine Qd ?_
 refine⟨Mn p q (r+s) hp hq (by omega) _ _ ⟨Tv,?_⟩,Tv⟩
 exact⟨⟨Tv,ret h⟩,Tv⟩
theorem ydi(l:List Bld)(hl:l.length<=1000000000000)(st:Store)(R:Ja)(h:∀z:Bool,(z=true↔Ni l)->R (bool z) st):Jb 287 [lst 6 zr l] st R:=by
 refine Qa (c:=cfg 22) zb Tryz.func287 ?_
 refine AWp.loop (σ:=Nat) ⟨λi=>[(0,.av (lst 6 zr l)),(3,.av (int (i:Nat)))],λ_=>[],
  λi st'=>1<=i/\(i<=l.length\/i=1)/\st'=st/\∀j,(h:j<l.length)->j<i->0<j->(l[j-1]'(by omega)).id<l[j].id,λi=>l.length-i⟩ zb ?_ ?_
 ·exact⟨1,Tv,⟨Fah _,.inr rfl,rfl,λj _ hj=>by omega⟩,⟨Tq,Tq,Tv⟩,Tv⟩
 ·rintro i st' ⟨hi1,hi,rfl,hall⟩
  refine zi (λh1=>?_) (λh1=>?_)
  ·have hlt:i<l.length:=Io h1
   refine Qc zb zrh ?_
   refine Qd ?_
   refine⟨i-1,by omega,za _ (zw (show i-1<l.length by omega)) ?_⟩
   refine⟨i,rfl,za _ (zw hlt) ?_⟩
   refine bcd (λh2=>ret (h _ ?_)) (λh2=>?_)
   ·simp only[Fai,false_iff]
    intro h3
    have:=h3 i hlt (by omega)
    omega
   ·refine Qd ?_
    refine⟨i+1,?_,⟨by omega,.inl hlt,rfl,λj hj h0 h00=>?_⟩,⟨Tq,Tq,Tv⟩,Tv⟩
    ·show l.length-(i+1)<l.length-i
     omega
    ·by_cases hji:j=i
     ·subst hji
      omega
     ·exact hall j hj (by omega) h00
  ·have hge:¬i<l.length:=by
    rw[zh]at h1
    simpa using h1
   refine ret (h _ ?_)
   simp only[true_iff]
   exact λj hj h0=>hall j hj (by omega) h0
theorem R2(g:Gnd)(hg:zp g)(b:Bld)(hb:y9 b/\onP g b)(st:Store)(R:Ja)(h:R (yg (vq g.W b)) st):Jb 291 [.agg (zn g),.agg (zr b)] st R:=by
 have hb':=hb
 unfold y9 onP at hb'
 have hg1:=hg.1
 have hg2:=hg.2.1
 refine Qa (c:=cfg 35) zb Tryz.func291 ?_
 refine AWp.loop (σ:=Nat×AV) ⟨λs=>[(2,.bx 2 0),(3,.bx 3 0),(4,.av s.2),(8,.av (int b.h)),(9,.av (int (s.1:Nat)))],λ_=>[(2,zn g),(3,zr b)],
  λs st'=>s.1<=b.h.toNat/\App 1 st s.2 (rws zu (w9 g.W b s.1)) st',λs=>b.h.toNat-s.1⟩ zb ?_ ?_
 ·exact⟨(0,_),Tv,⟨Faf _,App.start 1 st⟩,⟨Tq,Tq,Tq,Tq,Tq,Tv⟩,⟨rfl,rfl,Tv⟩⟩
 rintro⟨y,v⟩ st' ⟨hy,ha⟩
 dsimp only at hy ha⊢
 refine bcd (λh1=>?_) (λh1=>?_)
 rotate_left
 ·have:y=b.h.toNat:=by omega
  subst this
  exact⟨_,st,AV.le_trans ha.le (Tt),ha.has,h⟩
 refine AWp.loop (σ:=Nat×AV) ⟨λs=>[(2,.bx 2 0),(3,.bx 3 0),(4,.av s.2),(5,.av (int (y:Nat))),(8,.av (int b.h)),(9,.av (int (y:Nat))),(13,.av (int b.w)),(14,.av (int (s.1:Nat)))],λ_=>[(2,zn g),(3,zr b)],
  λs st'=>s.1<=b.w.toNat/\App 1 st s.2 (rws zu (w9 g.W b y++wq g.W b y s.1)) st',λs=>b.w.toNat-s.1⟩ zb ?_ ?_
 ·refine⟨(0,v),Tv,⟨Faf _,?_⟩,Qao,⟨rfl,rfl,Tv⟩⟩
  simp_all[wq]
 rintro⟨x,v2⟩ st2 ⟨hx,ha2⟩
 dsimp only at hx ha2⊢
 refine bcd (λh2=>?_) (λh2=>?_)
 rotate_left
 ·have:x=b.w.toNat:=by omega
  subst this
  refine Qd ?_
  refine⟨(y+1,v2),?_,⟨by omega,?_⟩,Qao,⟨rfl,rfl,Tv⟩⟩
  ·grind
  grind[R3]
 obtain⟨q1,q2,_⟩:=Ko hg (x:=b.x+x) (y:=b.y+y) (by omega) (by omega)
 have hm:=qr hg
 have q3:0<=g.W*(b.y+(y:Int)):=Fa1 (by omega) (by omega)
 refine Qd ?_
 refine Qd ?_
 refine Qd ?_
 refine Qd ?_
 refine⟨by decide,?_⟩
 have hlen:(w9 g.W b y++wq g.W b y x).length<=16:=by
  rw[Fad,R4,ep]
  have:y*b.w.toNat<=3*4:=Fda (by omega) (by omega)
  omega
 refine Bo (ie:=ti2) (rows':=[zu (b.x+(x:Int)+g.W*(b.y+(y:Int)))]) ha2 ?_ ?_ ⟨?_,?_⟩ (λv3 st3 ha3=>?_)
 ·rfl
 ·rfl
 ·simp only[zh,Fbc,ti2];omega
 ·grind[zh]
 refine Qd ?_
 refine⟨(x+1,v3),?_,⟨by omega,?_⟩,Qao,⟨rfl,rfl,Tv⟩⟩
 ·grind
 ·dsimp only
  rw[zbu,<-Faz]
  unfold rws
  rw[Fa3]
  exact ha3
section
variable {st:Store} {v:AV}
theorem rb(n:Int)(hn:zy n)(st:Store)(R:Ja)(h:R (int (nrm n/131072)) st):Jb 299 [int n] st R:=by
 refine Qa (c:=cfg 15) zb Tryz.func299 ?_
 refine Gz n _ _ ?_
 have hb:=Bg hn
 generalize nrm n=x at*
 refine bcd (λc1=>?_) (λc1=>?_)
 ·refine⟨⟨by omega,by omega⟩,?_⟩
  refine⟨⟨by omega,by omega⟩,?_⟩
  refine⟨by decide,?_⟩
  have e:(0-x-1).tdiv 131072=(0-x-1)/131072:=Fa4 (by omega)
  rw[e]
  refine⟨⟨by omega,by omega⟩,?_⟩
  refine⟨⟨by omega,by omega⟩,?_⟩
  refine⟨⟨by omega,by omega⟩,?_⟩
  rw[show x/131072=0-((0-x-1)/131072+1) by omega]at h
  exact ret h
 ·refine⟨by decide,?_⟩
  have e:x.tdiv 131072=x/131072:=Fa4 (by omega)
  rw[e]
  exact⟨⟨by omega,by omega⟩,ret h⟩
theorem Cv(p:Vc)(hp:p.ok)(st:Store)(R:Ja)(h:R (.agg [int (zm p).1,int (zm p).2]) st):Jb 222 [.agg (z6 p)] st R:=by
 refine Qa (c:=cfg 10) zb Tryz.func222 ?_
 refine Qc zb zr0 ?_
 refine⟨rb p.1 hp.1 _ _ ⟨Qe,?_⟩,Tv⟩
 refine⟨rb p.2 hp.2 _ _ ⟨Qe,?_⟩,Tv⟩
 refine Qar ?_
 exact ret h
theorem si(R:Ja)(h:∀a p,ja a p []->R (.s (.pointer (some ⟨p,0,none⟩))) a):Jb 132 [] Store.empty R:=by
 refine Qa (c:=cfg 5 [4] []) zb Tryz.func132 ?_
 refine F9 rfl (λma hma=>?_)
 refine F9 rfl (λmi hmi=>?_)
 intro p hp
 have h1:mi≠ma:=λe=>by have:=hmi.1;rw[e,zc]at this;cases this
 have h2:p≠mi:=λe=>by have:=hp.1;rw[e,zc]at this;cases this
 have h3:p≠ma:=λe=>by have:=hp.1;simp_all[zf,zc]
 refine ret (h _ _ ⟨ma,mi,[],0,[],[],0,⟨zc _ _ _,?_,?_,Ne.symm h1,(λg hg=>(by cases hg)),Fdb⟩,⟨Fdb,Fdb,(λg hg=>(by cases hg)),(λg hg=>(by cases hg)),(λg hg=>(by cases hg))⟩⟩)
 ·simp_all[zf,Ne.symm,zc]
 simp_all[zf,Ne.symm,zc]
theorem sr{ns:List Int}(hv:Ints st v ns)(x:Int)(hlen:ns.length<4611686018427387904)(hs:ns.Pairwise (·<=·))(R:Ja)
  (h:R (.tup [int (ns.countP (·<x):Nat),bool (ns.contains x)]) st):Jb 223 [v,int x] st R:=
 zqi Tryz.laysNm225 Tryz.func223 rfl rfl hv x hlen hs h
theorem rh{b cap i j:Nat}{ns:List Int}{L:List AV}(ho:st.obj b=some (.cells (ns.map aI++L)))
  (hc1:ns.length<=cap) (hc2:cap<=9223372036854775807) (hij:i<=j) (hj:j<=ns.length) (R:Ja)
  (h:R (.s (.slice (some ⟨b,0,none⟩) (ns.take i++ns.drop j).length cap)) (st.sO b (.cells ((ns.take i++ns.drop j).map aI++(List.replicate (j-i) (aI 0)++L))))):
  Jb 298 [.s (.slice (some ⟨b,0,none⟩) ns.length cap),int i,int j] st R:=
 yb6 Tryz.laysNm223 Tryz.func298 rfl rfl ho hc1 hc2 hij hj h
theorem Wa{ns:List Int}(hv:Ints st v ns){vb:Nat}(x:Int)(i:Nat)(hi:i<=ns.length)
  (hvb:st.obj vb=some (.cells [aI x])) (hne:∀b cap,v=.s (.slice (some ⟨b,0,none⟩) ns.length cap)->b≠vb) (hlen:(ns.length+1)*8<=140737488355328) (R:Ja)
  (h:∀b cap L,(Fresh st b\/∃c0,v=.s (.slice (some ⟨b,0,none⟩) ns.length c0))->(ns.take i++x::ns.drop i).length<=cap->cap<=(ns.take i++x::ns.drop i).length+L.length->cap<=9223372036854775807->
   R (.s (.slice (some ⟨b,0,none⟩) (ns.take i++x::ns.drop i).length cap)) (st.sO b (.cells ((ns.take i++x::ns.drop i).map aI++L)))):
  Jb 224 [v,int i,.s (.slice (some ⟨vb,0,none⟩) 1 1)] st R:=
 zyb Tryz.laysNm221 Tryz.func224 rfl rfl hv x i hi hvb hne hlen h
theorem W8{l:List Ent}{G:List Grp}(h:Inv l G):∀g∈G,g.ns.length<=l.length:=by
 intro g hg
 have h1:=(h.s g hg).1
 have h2:g.ns.Nodup:=h1.imp λh e=>by omega
 have h3:g.ns ⊆ l.map (·.1):=λid hid=>by
  obtain⟨e,he,h4,_⟩:=(h.m1 g hg id).1 hid
  grind
 have:=Fbh h2 h3
 grind
theorem f7{ns:List Int}(h:ns.Pairwise (·<·)):ns.Pairwise (·<=·):=h.imp λh=>by omega
theorem sh{a:Store}{p:Nat}{l:List Ent}(hc:ja a p l)(hl:l.length<=1000000000)(hok:∀e∈l,e.2.ok)(id:Int)(R:Ja)
  (h:∀a',ja a' p (yz l id)->R (bool (l.find? (kh id)).isSome) a'):Jb 221 [.s (.pointer (some ⟨p,0,none⟩)),int id] a R:=by
 obtain⟨ma,mi,bs1,c1,G,bs2,c2,ha,hi⟩:=hc
 refine Qa (c:=cfg 60) zb Tryz.func221 ?_
 refine za _ ha.hp ?_
 refine vi rfl (it:=ti320) (ie:=ti35) (ik:=ti2) rfl rfl rfl rfl ha.ha rfl (qA id) (λe he=>?_) ?_
 ·obtain⟨e,_,rfl⟩:=Fae.1 he
  rfl
 rw[pu]
 cases hf:l.find? (kh id)with
 |none=>
  rw[hf]at h
  refine ret (h a ?_)
  rw[ybh hf]
  exact⟨ma,mi,bs1,c1,G,bs2,c2,ha,hi⟩
 |some e=>
  rw[hf]at h
  obtain⟨hem,heq⟩:=O7 hf
  have hid:e.1=id:=(by simpa [kh]using heq:id=e.1).symm
  refine Cv e.2 (hok e hem) _ _ ?_
  obtain⟨g,hg,hk⟩:=hi.m2 e hem
  have hfg:∃g',G.find? (Dj (zm e.2))=some g':=by
   cases hx:G.find? (Dj (zm e.2))with
   |some g'=>simp
   |none=>grind[atKey_iff]
  obtain⟨g',hfg⟩:=hfg
  have hg':=O7 hfg
  have:g'=g:=zxy hi.n2 hg hg'.1 (by rw[hk];exact atKey_iff.1 hg'.2)
  subst this
  obtain⟨j,hj1,hj2⟩:=Wq hfg
  obtain⟨k1,k2,k3⟩:=ha.hg g' hg
  obtain⟨s1,s2⟩:=hi.s g' hg
  have hin:id∈g'.ns:=(hi.m1 g' hg id).2 ⟨e,hem,hid,hk.symm⟩
  obtain⟨d1,d2,d3⟩:=yb7 s1 hin
  have hlen:=W8 hi g' hg
  refine Qc zb zr2 ?_
  refine za (o:=a.obj p) _ ha.hp ?_
  refine⟨vi rfl (it:=ti321) (ie:=ti29) (ik:=ti35) rfl rfl rfl rfl ha.hi rfl (qG (zm e.2).1 (zm e.2).2) (λe he=>?_) ⟨Qe,?_⟩,Tv⟩
  ·obtain⟨e,_,rfl⟩:=Fae.1 he
   rfl
  rw[Lw,hfg]
  refine Qar ?_
  refine sr (.inr ⟨g'.b,g'.cap,g'.L,rfl,k1,k2⟩) id (by omega) (f7 s1) _ ?_
  refine⟨⟨by omega,by omega⟩,?_⟩
  refine rh k1 k2.1 k2.2.2 (Nat.le_add_right _ 1) d1 _ ?_
  generalize hns:g'.ns.take (g'.ns.countP λx=>decide (x<id))++g'.ns.drop (g'.ns.countP (λx=>decide (x<id))+1)=ns' at*
  obtain⟨n1,n2,n3⟩:=ha.g_ne hg
  have mid:=ha.mid (.cells (ns'.map aI++(List.replicate (g'.ns.countP (λx=>decide (x<id))+1-g'.ns.countP (λx=>decide (x<id))) (aI 0)++g'.L))) n3 n1 n2
  rw[show g'.ns.countP (λx=>decide (x<id))+1-g'.ns.countP (λx=>decide (x<id))=1 by omega]at mid⊢
  have hnl:ns'.length+1=g'.ns.length:=by grind
  obtain⟨v1,v2⟩:=zx4 hi hem hj2 hk d2 (by grind)
  obtain⟨i,hi1,hi2⟩:=Wq hf
  have her:(l.map j3).eraseIdx i=(yz l id).map j3:=by rw[Pd,ya9 hi.n1 hi2,hid]
  refine qf (λhz=>?_) (λhz=>?_)
  ·have hn0:ns'=[]:=Fat (by omega)
   refine Qc zb zr1 ?_
   refine za (o:=(a.sO g'.b _).obj p) _ mid.hp ?_
   refine⟨P0 rfl rfl rfl rfl (it:=ti321) (ik:=ti35) rfl rfl rfl mid.hi rfl (qG (zm e.2).1 (zm e.2).2) (λe he=>?_) ⟨Qe,?_⟩,Tv⟩
   ·obtain⟨e,_,rfl⟩:=Fae.1 he
    rfl
   have m1:=mid.setI (G':=G.eraseIdx j) (bs2.eraseIdx j) c2 (λg1 h1=>.inl ?_) (mid.nd.sublist ((List.eraseIdx_sublist ..).map _))
   rotate_left
   ·obtain⟨q1,q2⟩:=(Oc (f:=Grp.key) hi.n2 hj2).1 h1
    refine⟨q1,λe=>q2 ?_⟩
    obtain⟨i1,hi1⟩:=Fay.1 q1
    have:=Bx (f:=λg:Grp=>g.b) ha.nd hi1 hj2 e
    grind
   have e1:Bi (G.map j2) bs2 c2 (qG (zm e.2).1 (zm e.2).2)=.map ((G.eraseIdx j).map j2) (bs2.eraseIdx j) c2:=by grind[Bi,O8,Pd]
   rw[e1]
   refine za _ m1.hp ?_
   refine P0 rfl rfl rfl rfl (it:=ti320) (ik:=ti2) rfl rfl rfl m1.ha rfl (qA id) (λe he=>?_) ?_
   ·obtain⟨e,_,rfl⟩:=Fae.1 he
    rfl
   have e2:Bi (l.map j3) bs1 c1 (qA id)=.map ((yz l id).map j3) (bs1.eraseIdx i) c1:=by grind[Bi,O9]
   rw[e2]
   have m2:=m1.setA (yz l id) (bs1.eraseIdx i) c1
   rw[hid]at v1
   exact ret (h _ ⟨ma,mi,_,_,_,_,_,m2,v1 hn0⟩)
  ·have hn0:ns'≠[]:=λe=>by grind
   refine Qc zb zr3 ?_
   refine za (o:=(a.sO g'.b _).obj p) _ mid.hp ?_
   refine⟨Ck (.inl rfl) rfl (it:=ti321) (ik:=ti35) rfl rfl rfl mid.hi rfl rfl (qG (zm e.2).1 (zm e.2).2) (λe he=>?_) (λe1 he hq=>?_) ⟨Qe,?_⟩,Tv⟩
   ·obtain⟨e,_,rfl⟩:=Fae.1 he
    rfl
   ·obtain⟨g1,_,rfl⟩:=Fae.1 he
    have:=(atKey_iff (k:=zm e.2) (g:=g1)).1 hq
    show AV.agg [int g1.x,int g1.y]=_
    rw[<-this];rfl
   let g2:Grp:=⟨g'.x,g'.y,ns',g'.b,g'.cap,List.replicate 1 (aI 0)++g'.L⟩
   have e1:jl (G.map j2) bs2 c2 (qG (zm e.2).1 (zm e.2).2) (.agg [int (zm e.2).1,int (zm e.2).2]) (.s (.slice (some ⟨g'.b,0,none⟩) ns'.length g'.cap))=.map ((G.set j g2).map j2) bs2 c2:=by
    unfold jl
    rw[O8,hj1,Fcq]
    simp only
    congr 2
    show _=(AV.agg [int g'.x,int g'.y],_)
    rw[<-hk];rfl
   have m1:=mid.setI (G':=G.set j g2) bs2 c2 (λg1 h1=>?_) (by rw[map_set_same (λg:Grp=>g.b) (g':=g2) hj2 rfl];exact mid.nd)
   rotate_left
   ·rcases(By (f:=λg:Grp=>g.b) ha.nd hj2).1 h1 with rfl|⟨q1,q2⟩
    ·refine .inr ⟨zc _ _ _,⟨?_,?_,k2.2.2⟩,k3⟩
     ·show ns'.length<=g'.cap
      have:=k2.1;omega
     ·show g'.cap<=ns'.length+(List.replicate 1 (aI 0)++g'.L).length
      have:=k2.2.1
      grind
    grind
   rw[<-e1]at m1
   refine za _ m1.hp ?_
   refine P0 rfl rfl rfl rfl (it:=ti320) (ik:=ti2) rfl rfl rfl m1.ha rfl (qA id) (λe he=>?_) ?_
   ·obtain⟨e,_,rfl⟩:=Fae.1 he
    rfl
   have e2:Bi (l.map j3) bs1 c1 (qA id)=.map ((yz l id).map j3) (bs1.eraseIdx i) c1:=by grind[Bi,O9]
   rw[e2]
   have m2:=m1.setA (yz l id) (bs1.eraseIdx i) c1
   rw[hid]at v2
   exact ret (h _ ⟨ma,mi,_,_,_,_,_,m2,v2 hn0 g2 rfl rfl⟩)
end
theorem Pf{l:List Ent}{id:Int}:∀e∈yz l id,e.1≠id:=λe he=>(mem_dropId.1 he).2
theorem ybi(l:List Ent)(id:Int):(yz l id).length<=l.length:=Fb2 _ _
theorem yc6{a:Store}{p:Nat}{l:List Ent}(hc:ja a p l)(hl:l.length<=1000000000)(hok:∀e∈l,e.2.ok)(id:Int)(pos:Vc)(hpos:pos.ok)(R:Ja)
  (h:∀a',ja a' p (yz l id++[(id,pos)])->R (.tup []) a'):Jb 133 [.s (.pointer (some ⟨p,0,none⟩)),int id,.agg (z6 pos)] a R:=by
 refine Qa (c:=cfg 46 [38,1000038] []) zb Tryz.func133 ?_
 refine sh hc hl hok id _ (λa1 hc1=>?_)
 obtain⟨ma,mi,bs1,c1,G,bs2,c2,ha,hi⟩:=hc1
 refine Cv pos hpos _ _ ?_
 obtain⟨cur,ns,e1,e2,e3,e4,e5,e6⟩:=zuj (pos:=pos) ha hi Pf
 have hnl:ns.length<=1000000000:=by
  rcases e4 with rfl|⟨g,hg,rfl⟩
  ·simp
  ·have h1:=W8 hi g hg
   have h2:=ybi l id
   omega
 have hle:=ycf id ns
 refine Qc zb zsv ?_
 refine za (o:=a1.obj p) _ ha.hp ?_
 refine⟨vi rfl (it:=ti321) (ie:=ti29) (ik:=ti35) rfl rfl rfl rfl ha.hi rfl (qG (zm pos).1 (zm pos).2) (λe he=>?_) ⟨Qe,?_⟩,Tv⟩
 ·obtain⟨e,_,rfl⟩:=Fae.1 he
  rfl
 rw[Lw,show At ti29=.s (.slice none 0 0)from rfl,e1]
 refine⟨sr e2 id (by omega) (f7 e3) _ ⟨Qe,?_⟩,Tv⟩
 refine Qar ?_
 refine Qar ?_
 refine Qc zb zsu ?_
 refine za (o:=a1.obj p) _ ha.hp ?_
 refine za (o:=a1.obj p) _ ha.hp ?_
 refine⟨vi rfl (it:=ti321) (ie:=ti29) (ik:=ti35) rfl rfl rfl rfl ha.hi rfl (qG (zm pos).1 (zm pos).2) (λe he=>?_) ⟨?_,?_⟩,?_⟩
 ·obtain⟨e,_,rfl⟩:=Fae.1 he
  rfl
 ·repeat(first|exact Tv|refine⟨rfl,?_⟩|refine⟨za (o:=a1.obj p) _ ha.hp rfl,?_⟩)
 ·rw[Lw,show At ti29=.s (.slice none 0 0)from rfl,e1]
  refine⟨⟨by decide,λvb hvb=>?_⟩,Tv⟩
  have hp1:=(ha.fresh (.cells [aI id]) hvb).hp
  refine⟨?_,?_⟩
  ·repeat(first|exact Tv|refine⟨rfl,?_⟩|refine⟨za (o:=(a1.sO vb (.cells [aI id])).obj p) _ hp1 rfl,?_⟩)
  refine⟨Wa (e2.fresh _ hvb) id _ hle (zc _ _ _) (λb cap hc he=>e5 b cap hc (he▸hvb.1)) (by omega) _ (λb cap L q1 q2 q3 q4=>?_),Tv⟩
  obtain⟨w1,w2,G',bs2',c2',w3,w4,w5⟩:=e6 vb _ b cap L hvb q1 q2 q3 q4
  refine⟨?_,?_⟩
  ·repeat(first|exact Tv|refine⟨rfl,?_⟩|refine⟨za (o:=Store.obj (Store.sO _ b _) p) _ w2 rfl,?_⟩)
  refine⟨Ck (.inl rfl) rfl (it:=ti321) (ik:=ti35) rfl rfl rfl w1 rfl rfl (qG (zm pos).1 (zm pos).2) (λe he=>?_) (λe1 he hq=>?_) ⟨Qe,?_⟩,Tv⟩
  ·obtain⟨e,_,rfl⟩:=Fae.1 he
   rfl
  ·obtain⟨g1,_,rfl⟩:=Fae.1 he
   have:=(atKey_iff (k:=zm pos) (g:=g1)).1 hq
   show AV.agg [int g1.x,int g1.y]=_
   rw[<-this];rfl
  rw[w3]
  refine Qc zb gw ?_
  refine za (o:=Store.obj (Store.sO _ mi _) p) _ w4.hp ?_
  refine⟨Ck (.inl rfl) rfl (it:=ti320) (ik:=ti2) rfl rfl rfl w4.ha rfl rfl (qA id) (λe he=>?_) (λe1 he hq=>?_) ⟨Qe,?_⟩,Tv⟩
  ·obtain⟨e,_,rfl⟩:=Fae.1 he
   rfl
  ·obtain⟨g1,hg1,rfl⟩:=Fae.1 he
   grind[qA,j3,int]
  have e7:jl ((yz l id).map j3) bs1 c1 (qA id) (int id) (.agg (z6 pos))=.map ((yz l id++[(id,pos)]).map j3) (bs1++[c1]) (c1+1):=by
   unfold jl
   have:(yz l id).findIdx? (kh id)=none:=by
    rw[Fb6]
    intro e he
    grind[Pf,kh]
   rw[O9,this,Fa3]
   rfl
  have w6:=w4.setA (yz l id++[(id,pos)]) (bs1++[c1]) (c1+1)
  rw[<-e7]at w6
  exact ret (h _ ⟨ma,mi,_,_,G',_,_,w6,w5⟩)
 ·refine⟨⟨by decide,λvb hvb=>?_⟩,Tv⟩
  have ha1:=ha.fresh (.cells [aI id]) hvb
  have hp1:=ha1.hp
  refine⟨?_,?_⟩
  ·repeat(first|exact Tv|refine⟨rfl,?_⟩|refine⟨za (o:=(a1.sO vb (.cells [aI id])).obj p) _ hp1 rfl,?_⟩)
  refine⟨vi rfl (it:=ti321) (ie:=ti29) (ik:=ti35) rfl rfl rfl rfl ha1.hi rfl (qG (zm pos).1 (zm pos).2) (λe he=>?_) ⟨?_,?_⟩,Tv⟩
  ·obtain⟨e,_,rfl⟩:=Fae.1 he
   rfl
  ·repeat(first|exact Tv|refine⟨rfl,?_⟩|refine⟨za (o:=(a1.sO vb (.cells [aI id])).obj p) _ hp1 rfl,?_⟩)
  rw[Lw,show At ti29=.s (.slice none 0 0)from rfl,e1]
  refine⟨Wa (e2.fresh _ hvb) id _ hle (zc _ _ _) (λb cap hc he=>e5 b cap hc (he▸hvb.1)) (by omega) _ (λb cap L q1 q2 q3 q4=>?_),Tv⟩
  obtain⟨w1,w2,G',bs2',c2',w3,w4,w5⟩:=e6 vb _ b cap L hvb q1 q2 q3 q4
  refine⟨?_,?_⟩
  ·repeat(first|exact Tv|refine⟨rfl,?_⟩|refine⟨za (o:=Store.obj (Store.sO _ b _) p) _ w2 rfl,?_⟩)
  refine⟨Ck (.inl rfl) rfl (it:=ti321) (ik:=ti35) rfl rfl rfl w1 rfl rfl (qG (zm pos).1 (zm pos).2) (λe he=>?_) (λe1 he hq=>?_) ⟨Qe,?_⟩,Tv⟩
  ·obtain⟨e,_,rfl⟩:=Fae.1 he
   rfl
  ·obtain⟨g1,_,rfl⟩:=Fae.1 he
   have:=(atKey_iff (k:=zm pos) (g:=g1)).1 hq
   show AV.agg [int g1.x,int g1.y]=_
   rw[<-this];rfl
  rw[w3]
  refine Qc zb gw ?_
  refine za (o:=Store.obj (Store.sO _ mi _) p) _ w4.hp ?_
  refine⟨Ck (.inl rfl) rfl (it:=ti320) (ik:=ti2) rfl rfl rfl w4.ha rfl rfl (qA id) (λe he=>?_) (λe1 he hq=>?_) ⟨Qe,?_⟩,Tv⟩
  ·obtain⟨e,_,rfl⟩:=Fae.1 he
   rfl
  ·obtain⟨g1,hg1,rfl⟩:=Fae.1 he
   have:id=g1.1:=by simpa [qA,j3,int]using hq
   exact absurd this.symm (Pf g1 hg1)
  have e7:jl ((yz l id).map j3) bs1 c1 (qA id) (int id) (.agg (z6 pos))=.map ((yz l id++[(id,pos)]).map j3) (bs1++[c1]) (c1+1):=by
   unfold jl
   have:(yz l id).findIdx? (kh id)=none:=by
    rw[Fb6]
    intro e he
    have:=Pf e he
    simp[kh]
    exact λh=>this h.symm
   rw[O9,this,Fa3]
   rfl
  have w6:=w4.setA (yz l id++[(id,pos)]) (bs1++[c1]) (c1+1)
  rw[<-e7]at w6
  exact ret (h _ ⟨ma,mi,_,_,G',_,_,w6,w5⟩)
def ptr(b:Nat):AV:=.s (.pointer (some ⟨b,0,none⟩))
theorem ey{F N:Store}(hd:zg F N){p:Nat}{l:List Ent}(hc:ja F p l){b3 b4 b5 b6:Nat}{q:Vc}{r:Int}{v:AV}{acc:List Int}(hN:NearAt N b3 b4 b5 b6 p q r v acc)(hq:q.ok)(hr:r<=9223372036854775807)
  {e:Ent} (he:l.find? (kh e.1)=some e) (hok:e.2.ok) (hlen:acc.length<=1000000000000) (R:Ja)
  (h:∀N' v',zg F N'->NearAt N' b3 b4 b5 b6 p q r v' (if near q e.2 r then acc++[e.1]else acc)->R (.tup []) (F.un N')):
  Jb 304 [int e.1,ptr b4,ptr b3,ptr b5,ptr b6] (F.un N) R:=by
 obtain⟨ma,mi,bs1,c1,G,bs2,c2,ha,hi⟩:=hc
 refine Qa (c:=cfg 19) zb Tryz.func304 ?_
 refine Qc zb zrf ?_
 refine za (o:=(F.un N).obj b4) _ (zd hN.h4) ?_
 refine za (o:=(F.un N).obj b3) _ (zd hN.h3) ?_
 refine za (o:=(F.un N).obj p) _ (yr hd ha.hp) ?_
 refine za (o:=(F.un N).obj b5) _ (zd hN.h5) ?_
 refine⟨vi rfl (it:=ti320) (ie:=ti35) (ik:=ti2) rfl rfl rfl rfl (yr hd ha.ha) rfl (qA e.1) (λe he=>?_) ⟨?_,?_⟩,Tv⟩
 ·obtain⟨e,_,rfl⟩:=Fae.1 he
  rfl
 ·repeat(first|exact Tv|refine⟨rfl,?_⟩|refine⟨za (o:=(F.un N).obj b4) _ (zd hN.h4) rfl,?_⟩|refine⟨za (o:=(F.un N).obj b5) _ (zd hN.h5) rfl,?_⟩)
 rw[pu,he]
 refine⟨Mn q e.2 r hq hok hr _ _ ⟨Tv,?_⟩,Tv⟩
 cases hn:near q e.2 r with
 |false=>
  rw[hn]at h
  exact ret (h N v hd hN)
 |true=>
  rw[hn]at h
  refine za (o:=(F.un N).obj b6) _ (zd hN.h6) ?_
  refine⟨by decide,?_⟩
  refine yea (ie:=ti2) rfl rfl rfl hN.hv.un e.1 hlen (λb cap L q1 q2 q3 q4=>?_)
  have q1':Fresh N b\/∃c0,v=.s (.slice (some ⟨b,0,none⟩) acc.length c0):=q1.imp (λh=>(fresh_un h).2) id
  have hN':=hN.app q1' q2 q3 q4
  rw[zo]
  have hd1:zg F (N.sO b (.cells ((acc++[e.1]).map aI++L))):=by
   rcases q1 with q1|⟨c0,q1⟩
   ·exact disj_setR hd (fresh_un q1).1
   ·rcases hN.hv with⟨h1,_⟩|⟨b',_,_,h1,h2,_⟩
    ·grind
    grind[I4]
  have hd2:=I4 (x:=.cells [.s (.slice (some ⟨b,0,none⟩) (acc++[e.1]).length cap)]) hd1 (b:=b6) (y:=.cells [v]) (by
   have hne:b6≠b:=by
    rcases q1' with q1|⟨c0,q1⟩
    ·exact Ne.symm (q1.ne_obj hN.h6)
    ·exact Ne.symm (hN.nv b _ _ q1).2.2.2
   rw[zf hne];exact hN.h6)
  have h6':(N.sO b (.cells ((acc++[e.1]).map aI++L))).obj b6=some (.cells [v]):=by
   have hne:b6≠b:=by
    rcases q1' with q1|⟨c0,q1⟩
    ·exact Ne.symm (q1.ne_obj hN.h6)
    ·exact Ne.symm (hN.nv b _ _ q1).2.2.2
   rw[zf hne];exact hN.h6
  refine yn (i:=ti29) (v:=.s (.slice (some ⟨b,0,none⟩) (acc++[e.1]).length cap)) (b:=b6) (o:=0) (l:=[v]) (st2:=F.un ((N.sO b (.cells ((acc++[e.1]).map aI++L))).sO b6 (.cells [.s (.slice (some ⟨b,0,none⟩) (acc++[e.1]).length cap)]))) rfl rfl rfl (zd h6') (Fah _) ?_ ?_
  ·rw[zo];rfl
  ·exact ret (h _ _ hd2 hN')
theorem Qaa{p:Prop}(h:p:=by repeat(first|exact Tv|refine⟨rfl,?_⟩|refine⟨za (o:=(F.un N0).obj b4) _ (zd hN0.h4) rfl,?_⟩|refine⟨za (o:=(F.un N0).obj b5) _ (zd hN0.h5) rfl,?_⟩)):p:=h
theorem zpx{st:Store}{b cap:Nat}{ns:List Int}{L:List AV}(ho:st.obj b=some (.cells (ns.map aI++L)))(hlen:ns.length<4611686018427387904)(R:Ja)
  (h:R (.tup []) (st.sO b (.cells ((ns.mergeSort λx y=>decide (x<=y)).map aI++L)))):Jb 305 [.s (.slice (some ⟨b,0,none⟩) ns.length cap)] st R:=
 zp0 Tryz.lays189 Tryz.func305 rfl rfl ho hlen h
theorem zpy{st:Store}(R:Ja)(h:R (.tup []) st):Jb 305 [.s (.slice none 0 0)] st R:=
 zpz Tryz.lays189 Tryz.func305 rfl rfl h
def Fc(b3 b4 b5 b6:Nat):AV:=.clos 304 [ptr b4,ptr b3,ptr b5,ptr b6]
theorem yc7{F:Store}{p:Nat}{l:List Ent}(hc:ja F p l)(hl:l.length<=1000000000)(hok:∀e∈l,e.2.ok){q:Vc}(hq:q.ok){r:Int}(hr:zy r)(R:Ja)
  (h:∀F' N v ns,ja F' p l->zg F' N->Ints N v ns->Mi l q r ns->R v (F'.un N)):Jb 226 [ptr p,.agg (z6 q),int r] F R:=by
 refine Qb (c:=cfg 126 [3,4,5,6] []) zb Tryz.func226 ?_
 refine AWp.seq (AWp.of_vc zb ?_)
 intro b3 hb3 b4 hb4 b5 hb5 b6 hb6
 have n43:b4≠b3:=λe=>by have:=hb4.1;rw[e,zc]at this;cases this
 have n54:b5≠b4:=λe=>by have:=hb5.1;rw[e,zc]at this;cases this
 have n53:b5≠b3:=λe=>by have:=hb5.1;simp_all[zf,zc]
 have n65:b6≠b5:=λe=>by have:=hb6.1;rw[e,zc]at this;cases this
 have n64:b6≠b4:=λe=>by have:=hb6.1;simp_all[zf,zc]
 have n63:b6≠b3:=λe=>by have:=hb6.1;simp_all[zf,zc]
 have est:(((F.sO b3 (.cells [ptr p])).sO b4 (.cells (z6 q))).sO b5 (.cells [int r])).sO b6 (.cells [.s (.slice none 0 0)])=
   F.un ((((Store.empty.sO b3 (.cells [ptr p])).sO b4 (.cells (z6 q))).sO b5 (.cells [int r])).sO b6 (.cells [.s (.slice none 0 0)])):=by
  rw[<-zo,<-zo,<-zo,<-zo,Ax]
 have f3:Fresh F b3:=hb3
 have f4:Fresh F b4:=by have:=hb4;rw[<-Ax F,zo]at this;exact(fresh_un this).1
 have f5:Fresh F b5:=by have:=hb5;rw[<-Ax F,zo,zo]at this;exact(fresh_un this).1
 have f6:Fresh F b6:=by have:=hb6;rw[<-Ax F,zo,zo,zo]at this;exact(fresh_un this).1
 have hN0:NearAt ((((Store.empty.sO b3 (.cells [ptr p])).sO b4 (.cells (z6 q))).sO b5 (.cells [int r])).sO b6 (.cells [.s (.slice none 0 0)])) b3 b4 b5 b6 p q r (.s (.slice none 0 0)) []:=by
  refine⟨?_,?_,?_,zc _ _ _,.inl ⟨rfl,rfl⟩,Ne.symm n63,Ne.symm n64,Ne.symm n65,λb n cap e=>by cases e⟩
  ·rw[zf (Ne.symm n63),zf (Ne.symm n53),zf (Ne.symm n43)];exact zc _ _ _
  ·simp_all[zf,Ne.symm,zc]
  simp_all[zf,Ne.symm,zc]
 have hd0:zg F ((((Store.empty.sO b3 (.cells [ptr p])).sO b4 (.cells (z6 q))).sO b5 (.cells [int r])).sO b6 (.cells [.s (.slice none 0 0)])):=
  disj_setR (disj_setR (disj_setR (disj_setR (yb0 F) f3) f4) f5) f6
 show AWp _ _ _ _ _ ((((F.sO b3 (.cells [ptr p])).sO b4 (.cells (z6 q))).sO b5 (.cells [int r])).sO b6 (.cells [.s (.slice none 0 0)]))
 rw[est]
 generalize((((Store.empty.sO b3 (.cells [ptr p])).sO b4 (.cells (z6 q))).sO b5 (.cells [int r])).sO b6 (.cells [.s (.slice none 0 0)]))=N0 at*
 clear est hb3 hb4 hb5 hb6
 refine AWp.seq (AWp.of_vc zb ?_)
 refine za (o:=(F.un N0).obj b5) _ (zd hN0.h5) ?_
 refine bcd (λc1=>?_) (λc1=>?_)
 ·refine Bs (i:=ti29) (v:=.s (.slice none 0 0)) (b:=b6) (o:=0) (l:=[.s (.slice none 0 0)]) rfl rfl rfl (zd hN0.h6) (Fah _) ?_
  refine za (o:=Store.obj (Store.sO _ b6 _) b6) _ (zc _ _ _) ?_
  refine ret ?_
  rw[zo]
  refine h F _ _ [] hc (I4 hd0 hN0.h6) (.inl ⟨rfl,rfl⟩) ⟨List.Pairwise.nil,λid=>⟨(λh=>(by cases h)),λ⟨e,_,_,hn⟩=>?_⟩⟩
  unfold near at hn
  grind
 refine AWp.seq (AWp.of_vc zb ?_)
 have hr0:0<r:=by omega
 have hr1:r<=9223372036854775807:=hr.2
 have sub_q1:=F5 q.1 r
 have sub_q2:=F5 q.2 r
 have add_q1:=Pc q.1 r
 have add_q2:=Pc q.2 r
 refine AWp.meet (σ:=Unit) ⟨λ_=>[(3,.av (ptr b3)),(4,.av (ptr b4)),(5,.av (ptr b5)),(6,.av (ptr b6)),(7,.av (Fc b3 b4 b5 b6)),(8,.bx 8 0)],λ_=>[(8,[int (zm (yj q.1 r,yj q.2 r)).1,int (zm (yj q.1 r,yj q.2 r)).2])],
  λ_ st'=>st'=F.un N0⟩ zb ?_ ?_
 ·refine Qc zb zrz ?_
  refine za (o:=(F.un N0).obj b4) _ (zd hN0.h4) ?_
  refine za (o:=(F.un N0).obj b5) _ (zd hN0.h5) ?_
  refine za (o:=(F.un N0).obj b4) _ (zd hN0.h4) ?_
  refine za (o:=(F.un N0).obj b5) _ (zd hN0.h5) ?_
  refine⟨Ff q.1 r hq.1 hr _ _ ⟨Qaa,⟨Ff q.2 r hq.2 hr _ _ ⟨Qaa,⟨Cv (yj q.1 r,yj q.2 r) ⟨sub_q1,sub_q2⟩ _ _ ⟨Qaa,⟨⟨Qaa,⟨⟨Qaa,?_⟩,Tv⟩⟩,Tv⟩⟩,⟨⟨Qaa,⟨Cv (yj q.1 r,yj q.2 r) ⟨sub_q1,sub_q2⟩ _ _ ⟨Qaa,⟨⟨Qaa,?_⟩,Tv⟩⟩,Tv⟩⟩,Tv⟩⟩⟩,⟨⟨Qaa,⟨Ff q.2 r hq.2 hr _ _ ⟨Qaa,⟨Cv (yj q.1 r,yj q.2 r) ⟨sub_q1,sub_q2⟩ _ _ ⟨Qaa,⟨⟨Qaa,?_⟩,Tv⟩⟩,Tv⟩⟩,Tv⟩⟩,Tv⟩⟩⟩,⟨⟨Qaa,⟨Ff q.1 r hq.1 hr _ _ ⟨Qaa,⟨Ff q.2 r hq.2 hr _ _ ⟨Qaa,⟨Cv (yj q.1 r,yj q.2 r) ⟨sub_q1,sub_q2⟩ _ _ ⟨Qaa,⟨⟨Qaa,?_⟩,Tv⟩⟩,Tv⟩⟩,Tv⟩⟩,Tv⟩⟩,Tv⟩⟩
  all_goals exact⟨(),rfl,Qao,⟨rfl,Tv⟩⟩
 rintro _ _ rfl
 refine AWp.meet (σ:=Unit) ⟨λ_=>[(3,.av (ptr b3)),(6,.av (ptr b6)),(7,.av (Fc b3 b4 b5 b6)),(8,.bx 8 0),(9,.bx 9 0)],λ_=>[(8,[int (zm (yj q.1 r,yj q.2 r)).1,int (zm (yj q.1 r,yj q.2 r)).2]),(9,[int (zm (yx q.1 r,yx q.2 r)).1,int (zm (yx q.1 r,yx q.2 r)).2])],
  λ_ st'=>st'=F.un N0⟩ zb ?_ ?_
 ·refine Qc zb zry ?_
  refine za (o:=(F.un N0).obj b4) _ (zd hN0.h4) ?_
  refine za (o:=(F.un N0).obj b5) _ (zd hN0.h5) ?_
  refine za (o:=(F.un N0).obj b4) _ (zd hN0.h4) ?_
  refine za (o:=(F.un N0).obj b5) _ (zd hN0.h5) ?_
  refine⟨Gb q.1 r hq.1 hr _ _ ⟨Qaa,⟨Gb q.2 r hq.2 hr _ _ ⟨Qaa,⟨Cv (yx q.1 r,yx q.2 r) ⟨add_q1,add_q2⟩ _ _ ⟨Qaa,⟨⟨Qaa,⟨⟨Qaa,?_⟩,Tv⟩⟩,Tv⟩⟩,⟨⟨Qaa,⟨Cv (yx q.1 r,yx q.2 r) ⟨add_q1,add_q2⟩ _ _ ⟨Qaa,⟨⟨Qaa,?_⟩,Tv⟩⟩,Tv⟩⟩,Tv⟩⟩⟩,⟨⟨Qaa,⟨Gb q.2 r hq.2 hr _ _ ⟨Qaa,⟨Cv (yx q.1 r,yx q.2 r) ⟨add_q1,add_q2⟩ _ _ ⟨Qaa,⟨⟨Qaa,?_⟩,Tv⟩⟩,Tv⟩⟩,Tv⟩⟩,Tv⟩⟩⟩,⟨⟨Qaa,⟨Gb q.1 r hq.1 hr _ _ ⟨Qaa,⟨Gb q.2 r hq.2 hr _ _ ⟨Qaa,⟨Cv (yx q.1 r,yx q.2 r) ⟨add_q1,add_q2⟩ _ _ ⟨Qaa,⟨⟨Qaa,?_⟩,Tv⟩⟩,Tv⟩⟩,Tv⟩⟩,Tv⟩⟩,Tv⟩⟩
  all_goals exact⟨(),rfl,Qao,⟨rfl,rfl,Tv⟩⟩
 rintro _ _ rfl
 have hab:=ztz hq hr0 hr1
 have hA:=sl (p:=(yj q.1 r,yj q.2 r)) ⟨F5 _ _,F5 _ _⟩
 have hB:=sl (p:=(yx q.1 r,yx q.2 r)) ⟨Pc _ _,Pc _ _⟩
 have hrect:∀e∈l,near q e.2 r=true->_:=λe he hn=>zv8 hq (hok e he) hr0 hr1 hn
 generalize zm (yj q.1 r,yj q.2 r)=A0 at*
 generalize zm (yx q.1 r,yx q.2 r)=B0 at*
 obtain⟨ax,ay⟩:=A0
 obtain⟨bx,by'⟩:=B0
 dsimp only at hab hA hB hrect⊢
 refine AWp.meetA (σ:=Store×Store×AV×List Int) ⟨λ_=>[(6,.av (ptr b6))],λ_=>[],λs st'=>st'=s.1.un s.2.1/\zg s.1 s.2.1/\ja s.1 p l/\NearAt s.2.1 b3 b4 b5 b6 p q r s.2.2.1 s.2.2.2/\NearIn l q r (λ_=>True) s.2.2.2⟩ ?_ ?_
 ·obtain⟨ma,mi,bs1,cl1,G,bs2,cl2,ha,hi⟩:=hc
  have hgl:(G.map j2).length<=l.length:=by rw[Fa8];exact zy8 hi
  have slots:∀b:Bool,LV.le (.av (bool b)) (.av (bool b)):=λb=>Tq
  refine AWp.seq (AWp.of_vc zb ?_)
  refine za (o:=(F.un N0).obj b3) _ (zd hN0.h3) ?_
  refine za (o:=(F.un N0).obj p) _ (yr hd0 ha.hp) ?_
  refine za (o:=(F.un N0).obj mi) _ (yr hd0 ha.hi) ?_
  refine⟨⟨by omega,by omega⟩,?_⟩
  refine AWp.meet (σ:=Bool) ⟨λb=>[(3,.av (ptr b3)),(6,.av (ptr b6)),(7,.av (Fc b3 b4 b5 b6)),(8,.bx 8 0),(9,.bx 9 0),(77,.av (bool b))],λ_=>[(8,[int ax,int ay]),(9,[int bx,int by'])],
   λb st'=>st'=F.un N0⟩ zb ?_ ?_
  ·refine⟨⟨by omega,by omega⟩,?_⟩
   refine bcd (λd1=>?_) (λd1=>?_)
   ·exact⟨true,rfl,Qao,⟨rfl,rfl,Tv⟩⟩
   refine⟨⟨by omega,by omega⟩,?_⟩
   refine bcd (λd2=>?_) (λd2=>?_)
   ·exact⟨true,rfl,Qao,⟨rfl,rfl,Tv⟩⟩
   have m1:(bx-ax+1)*(by'-ay+1)<=1000000002*1000000002:=Fbj (by omega) (by omega) (by omega) (by decide)
   have m0:0<=(bx-ax+1)*(by'-ay+1):=Fa1 (by omega) (by omega)
   refine⟨⟨by omega,by omega⟩,?_⟩
   refine⟨⟨by omega,by omega⟩,?_⟩
   refine⟨⟨by omega,by omega⟩,?_⟩
   refine⟨⟨by omega,by omega⟩,?_⟩
   refine⟨⟨by omega,by omega⟩,?_⟩
   exact⟨_,rfl,⟨Tq,Tq,Tq,Tq,Tq,Tq,Tv⟩,⟨rfl,rfl,Tv⟩⟩
  rintro b _ rfl
  refine AWp.of_vc zb ?_
  cases b with
  |true=>
   refine za (o:=(F.un N0).obj b3) _ (zd hN0.h3) ?_
   refine za (o:=(F.un N0).obj p) _ (yr hd0 ha.hp) ?_
   refine yer (yr hd0 ha.ha) (λhst=>?_)
   refine yeu rfl (it:=ti320) rfl rfl (yr hd0 ha.ha) (λbi hbi=>?_)
   have fbi:=fresh_un hbi
   have nbi:¬N0.has bi:=fresh_iff.1 fbi.2
   rw[Gf nbi]
   refine AWp.loop (σ:=List Nat×Store×AV×List Int) ⟨λ_=>[(6,.av (ptr b6)),(7,.av (Fc b3 b4 b5 b6)),(82,.av (ptr bi))],λ_=>[],
    λs st'=>st'=(F.sO bi (.iter ma cl1 s.1 cl1)).un s.2.1/\zg (F.sO bi (.iter ma cl1 s.1 cl1)) s.2.1/\NearAt s.2.1 b3 b4 b5 b6 p q r s.2.2.1 s.2.2.2/\s.1.Nodup/\(∀t∈s.1,t∈bs1)∧
     NearIn l q r (λe=>∃(i t:Nat),l[i]?=some e/\bs1[i]?=some t/\t∈s.1) s.2.2.2,λs=>bs1.length-s.1.length⟩ zb ?_ ?_
   ·exact⟨([],N0,_,[]),Tv,⟨rfl,ybz hd0 nbi,hN0,Fdb,(λt ht=>(by cases ht)),Fdb,λid=>⟨(λh=>(by cases h)),λ⟨e,_,_,_,i,t,_,_,h⟩=>(by cases h)⟩⟩,⟨Tq,Tq,Tq,Tv⟩,Tv⟩
   rintro⟨seen,N,v,acc⟩ st' ⟨rfl,hd,hN,hs1,hs2,hacc⟩
   dsimp only at hd hN hs1 hs2 hacc⊢
   have hF1:CellsAt (F.sO bi (.iter ma cl1 seen cl1)) p ma mi l bs1 cl1 G bs2 cl2:=ha.fresh _ fbi.1
   refine yev rfl (yr hd (zc _ _ _)) (yr hd hF1.ha) (λhall=>?_) (λi e t he ht hnt=>?_)
   ·refine⟨(F.sO bi (.iter ma cl1 seen cl1),N,v,acc),⟨rfl,hd,⟨ma,mi,_,_,_,_,_,hF1,hi⟩,hN,?_⟩,⟨Tq,Tv⟩,Tv⟩
    refine hacc.congr λe he _=>⟨λ_=>trivial,λ_=>?_⟩
    obtain⟨i,hi'⟩:=Fay.1 he
    have hlt:i<bs1.length:=by
     have h1:=hst.len
     have h2:=(Faq.1 hi').1
     rw[Fa8]at h1
     omega
    exact⟨i,bs1[i],hi',Fab hlt,hall _ (Faa hlt)⟩
   ·obtain⟨e0,he0,rfl⟩:∃e0,l[i]?=some e0/\j3 e0=e:=by
     rw[Fam]at he
     cases hx:l[i]? with
     |none=>rw[hx]at he;cases he
     |some e0=>rw[hx]at he;simp at he;exact⟨e0,rfl,he⟩
    have hem:=Fa2 he0
    obtain⟨hd',nb⟩:=yby (y:=.iter ma cl1 (seen++[t]) cl1) hd
    have hF2:CellsAt (F.sO bi (.iter ma cl1 (seen++[t]) cl1)) p ma mi l bs1 cl1 G bs2 cl2:=ha.fresh _ fbi.1
    rw[Gf nb,yl]
    refine yey rfl (yr hd' (zc _ _ _)) (yr hd' hF2.ha) he ht ?_
    refine ey hd' ⟨ma,mi,_,_,_,_,_,hF2,hi⟩ hN hq hr1 (po hi.n1 hem) (hok _ hem) (by have:=hacc.len;omega) _ (λN' v' hdd hN'=>?_)
    refine⟨(seen++[t],N',v',_),?_,⟨rfl,hdd,hN',?_,?_,?_⟩,⟨Tq,Tq,Tq,Tv⟩,Tv⟩
    ·have h1:(seen++[t]).Nodup:=by
      rw[Fct]
      exact⟨hs1,by simp,λa ha b hb=>by simp at hb;subst hb;exact λe=>hnt (e▸ha)⟩
     have h2:=Fbh (l₂:=bs1) h1 (λx hx=>by
      rcases Fas.1 hx with hx|hx
      ·exact hs2 x hx
      ·simp at hx;subst hx;exact Fa2 ht)
     rw[Fad]at h2
     show bs1.length-(seen++[t]).length<bs1.length-seen.length
     rw[Fad]
     simp at h2⊢
     omega
    ·show(seen++[t]).Nodup
     rw[Fct]
     exact⟨hs1,by simp,λa ha b hb=>by simp at hb;subst hb;exact λe=>hnt (e▸ha)⟩
    ·intro x hx
     rcases Fas.1 hx with hx|hx
     ·exact hs2 x hx
     ·simp at hx;subst hx;exact Fa2 ht
    ·refine(hacc.step hi.n1 hem (λhh=>?_)).congr λe' he' _=>⟨λhh=>?_,λhh=>?_⟩
     ·obtain⟨i',t',h1,h2,h3⟩:=hh
      have:=Bx (f:=λe:Ent=>e.1) hi.n1 h1 he0 rfl
      subst this
      rw[ht]at h2
      cases h2
      exact hnt h3
     ·rcases hh with⟨i',t',h1,h2,h3⟩|rfl
      ·exact⟨i',t',h1,h2,List.mem_append_left _ h3⟩
      ·exact⟨i,t,he0,ht,by simp⟩
     ·obtain⟨i',t',h1,h2,h3⟩:=hh
      rcases Fas.1 h3 with h3|h3
      ·exact .inl ⟨i',t',h1,h2,h3⟩
      ·simp at h3
       subst h3
       right
       have hinc:=hst.inc
       have:i'=i:=by
        have hn:(bs1.map id).Nodup:=by
         rw[List.map_id]
         exact hinc.imp λh e=>by omega
        exact Bx (f:=id) hn h2 ht rfl
       subst this
       rw[he0]at h1
       cases h1;rfl
  |false=>
   refine AWp.loop (σ:=Int×Store×AV×List Int) ⟨λs=>[(3,.av (ptr b3)),(6,.av (ptr b6)),(7,.av (Fc b3 b4 b5 b6)),(8,.bx 8 0),(9,.bx 9 0),(12,.av (int s.1))],λ_=>[(8,[int ax,int ay]),(9,[int bx,int by'])],
    λs st'=>st'=F.un s.2.1/\zg F s.2.1/\NearAt s.2.1 b3 b4 b5 b6 p q r s.2.2.1 s.2.2.2/\(ax<=s.1/\s.1<=bx+1)/\NearIn l q r (λe=>(zm e.2).1<s.1) s.2.2.2,λs=>(bx+1-s.1).toNat⟩ zb ?_ ?_
   ·refine⟨(ax,N0,_,[]),Tv,⟨rfl,hd0,hN0,⟨Fcc _,by omega⟩,Fdb,λid=>⟨(λh=>(by cases h)),λ⟨e,he,_,hn,h⟩=>?_⟩⟩,⟨Tq,Tq,Tq,Tq,Tq,Tq,Tv⟩,⟨rfl,rfl,Tv⟩⟩
    have:=hrect e he hn
    dsimp only at h
    omega
   rintro⟨x,N,v,acc⟩ st' ⟨rfl,hd,hN,hx,hacc⟩
   dsimp only at hd hN hx hacc⊢
   refine bcd (λx1=>?_) (λx1=>?_)
   rotate_left
   ·refine⟨(F,N,v,acc),⟨rfl,hd,⟨ma,mi,_,_,_,_,_,ha,hi⟩,hN,?_⟩,⟨Tq,Tv⟩,Tv⟩
    refine hacc.congr λe he hn=>⟨λ_=>trivial,λ_=>?_⟩
    have:=hrect e he hn
    omega
   refine AWp.loop (σ:=Int×Store×AV×List Int) ⟨λs=>[(3,.av (ptr b3)),(6,.av (ptr b6)),(7,.av (Fc b3 b4 b5 b6)),(8,.bx 8 0),(9,.bx 9 0),(12,.av (int x)),(13,.av (int s.1))],λ_=>[(8,[int ax,int ay]),(9,[int bx,int by'])],
    λs st'=>st'=F.un s.2.1/\zg F s.2.1/\NearAt s.2.1 b3 b4 b5 b6 p q r s.2.2.1 s.2.2.2/\(ay<=s.1/\s.1<=by'+1)/\NearIn l q r (λe=>(zm e.2).1<x\/((zm e.2).1=x/\(zm e.2).2<s.1)) s.2.2.2,λs=>(by'+1-s.1).toNat⟩ zb ?_ ?_
   ·refine⟨(ay,N,v,acc),Tv,⟨rfl,hd,hN,⟨Fcc _,by omega⟩,hacc.congr λe he hn=>⟨.inl,λh=>h.elim id λh=>?_⟩⟩,Qao,⟨rfl,rfl,Tv⟩⟩
    have:=hrect e he hn
    dsimp only at h
    omega
   clear hN hacc hd
   rintro⟨y,N,v,acc⟩ st' ⟨rfl,hd,hN,hy,hacc⟩
   dsimp only at hd hN hy hacc⊢
   refine bcd (λy1=>?_) (λy1=>?_)
   rotate_left
   ·refine⟨⟨by omega,by omega⟩,?_⟩
    refine⟨(x+1,N,v,acc),?_,⟨rfl,hd,hN,by dsimp only;omega,hacc.congr λe he hn=>?_⟩,Qao,⟨rfl,rfl,Tv⟩⟩
    ·show(bx+1-(x+1)).toNat<(bx+1-x).toNat
     omega
    ·have:=hrect e he hn
     dsimp only
     omega
   refine za (o:=(F.un N).obj b3) _ (zd hN.h3) ?_
   refine za (o:=(F.un N).obj p) _ (yr hd ha.hp) ?_
   refine vi rfl (it:=ti321) (ie:=ti29) (ik:=ti35) rfl rfl rfl rfl (yr hd ha.hi) rfl (qG x y) (λe he=>?_) ?_
   ·obtain⟨e,_,rfl⟩:=Fae.1 he
    rfl
   rw[Lw G (x,y),show At ti29=.s (.slice none 0 0)from rfl]
   cases hf:G.find? (Dj (x,y))with
   |none=>
    refine AWp.loop (σ:=Unit) ⟨λ_=>[(3,.av (ptr b3)),(6,.av (ptr b6)),(7,.av (Fc b3 b4 b5 b6)),(8,.bx 8 0),(9,.bx 9 0),(12,.av (int x)),(13,.av (int y)),(114,.av (int 0)),(115,.av (int 0))],λ_=>[(8,[int ax,int ay]),(9,[int bx,int by'])],
     λ_ st'=>st'=F.un N,λ_=>0⟩ zb ?_ ?_
    ·exact⟨(),Tv,rfl,Qao,⟨rfl,rfl,Tv⟩⟩
    rintro _ st' rfl
    ·refine⟨⟨by omega,by omega⟩,?_⟩
     refine⟨(y+1,N,v,acc),?_,⟨rfl,hd,hN,by dsimp only;omega,hacc.congr λe he hn=>?_⟩,Qao,⟨rfl,rfl,Tv⟩⟩
     ·show(by'+1-(y+1)).toNat<(by'+1-y).toNat
      omega
     ·have hne:zm e.2≠(x,y):=λhk=>by
       obtain⟨g,hg,hgk⟩:=hi.m2 e he
       exact List.find?_eq_none.1 hf g hg (atKey_iff.2 (by rw[hgk,hk]))
      have:¬((zm e.2).1=x/\(zm e.2).2=y):=λ⟨h1,h2⟩=>hne (Prod.ext h1 h2)
      dsimp only
      omega
   |some g=>
    obtain⟨hg,hgk⟩:=O7 hf
    have hgk:=atKey_iff.1 hgk
    obtain⟨k1,k2,k3⟩:=ha.hg g hg
    have gs:=(hi.s g hg).1
    have gl:=W8 hi g hg
    refine AWp.loop (σ:=Nat×Store×AV×List Int) ⟨λs=>[(3,.av (ptr b3)),(6,.av (ptr b6)),(7,.av (Fc b3 b4 b5 b6)),(8,.bx 8 0),(9,.bx 9 0),(12,.av (int x)),(13,.av (int y)),(113,.av (.s (.slice (some ⟨g.b,0,none⟩) g.ns.length g.cap))),(114,.av (int g.ns.length)),(115,.av (int (s.1:Nat)))],
     λ_=>[(8,[int ax,int ay]),(9,[int bx,int by'])],
     λs st'=>st'=F.un s.2.1/\zg F s.2.1/\NearAt s.2.1 b3 b4 b5 b6 p q r s.2.2.1 s.2.2.2/\s.1<=g.ns.length/\NearIn l q r (λe=>((zm e.2).1<x\/((zm e.2).1=x/\(zm e.2).2<y))\/(zm e.2=(x,y)/\e.1∈g.ns.take s.1)) s.2.2.2,λs=>g.ns.length-s.1⟩ zb ?_ ?_
    ·exact⟨(0,N,v,acc),Tv,⟨rfl,hd,hN,Faf _,hacc.congr λe he hn=>⟨.inl,λh=>h.elim id λh=>(by cases h.2)⟩⟩,Qao,⟨rfl,rfl,Tv⟩⟩
    clear hN hacc hd
    rintro⟨idx,N,v,acc⟩ st' ⟨rfl,hd,hN,hidx,hacc⟩
    dsimp only at hd hN hidx hacc⊢
    refine bcd (λz1=>?_) (λz1=>?_)
    rotate_left
    ·have hie:idx=g.ns.length:=by omega
     subst hie
     refine⟨⟨by omega,by omega⟩,?_⟩
     refine⟨(y+1,N,v,acc),?_,⟨rfl,hd,hN,by dsimp only;omega,hacc.congr λe he hn=>?_⟩,Qao,⟨rfl,rfl,Tv⟩⟩
     ·show(by'+1-(y+1)).toNat<(by'+1-y).toNat
      omega
     ·rw[Fap]
      have h1:zm e.2=(x,y)↔((zm e.2).1=x/\(zm e.2).2=y):=⟨λh=>by rw[h];exact⟨rfl,rfl⟩,λ⟨h1,h2⟩=>Prod.ext h1 h2⟩
      have h2:zm e.2=(x,y)->e.1∈g.ns:=λh=>(hi.m1 g hg e.1).2 ⟨e,he,rfl,by rw[h,hgk]⟩
      dsimp only
      constructor
      ·rintro(h|⟨h,_⟩)
       ·omega
       ·have:=h1.1 h;omega
      ·intro h
       by_cases h3:zm e.2=(x,y)
       ·exact .inr ⟨h3,h2 h3⟩
       ·have h4:¬((zm e.2).1=x/\(zm e.2).2=y):=λhh=>h3 (h1.2 hh)
        left
        omega
    have hlt:idx<g.ns.length:=by omega
    have hidm:g.ns[idx]∈g.ns:=Faa hlt
    obtain⟨e,hem,heid,hek⟩:=(hi.m1 g hg g.ns[idx]).1 hidm
    refine⟨idx,rfl,hlt,?_⟩
    refine za (o:=(F.un N).obj g.b) _ (yr hd k1) ?_
    refine za (o:=List.head? _) (int e.1) (by
     rw[Fb3,show 0+idx*ti2.size=idx from by show 0+idx*1=idx;omega,Far (by simpa using hlt),Fam,Fab hlt,heid];rfl) ?_
    refine ey hd ⟨ma,mi,_,_,_,_,_,ha,hi⟩ hN hq hr1 (po hi.n1 hem) (hok _ hem) (by have:=hacc.len;omega) _ (λN' v' hdd hN'=>?_)
    refine⟨⟨by omega,by omega⟩,?_⟩
    refine⟨(idx+1,N',v',_),?_,⟨rfl,hdd,hN',hlt,?_⟩,⟨Tq,Tq,Tq,Tq,Tq,Tq,Tq,Tq,Tq,Tq,Tv⟩,⟨rfl,rfl,Tv⟩⟩
    ·show g.ns.length-(idx+1)<g.ns.length-idx
     omega
    ·have hkey:zm e.2=(x,y):=by rw[hek,hgk]
     have hnot:e.1∉g.ns.take idx:=by
      rw[heid]
      intro hh
      obtain⟨j,hj⟩:=Fay.1 hh
      have hjlt:j<idx:=by
       have:=(Faq.1 hj).1
       simp at this;omega
      rw[Fbs hjlt]at hj
      have h5:=Fb5.1 gs j idx (by omega) hlt hjlt
      rw[Fab (by omega)]at hj
      have hj':=Option.some.inj hj
      rw[hj']at h5
      exact absurd h5 (Int.lt_irrefl _)
     refine(hacc.step hi.n1 hem (λhh=>?_)).congr λe' he' _=>?_
     ·rcases hh with hh|⟨_,hh⟩
      ·rw[hkey]at hh;dsimp only at hh;omega
      ·exact hnot hh
     ·dsimp only
      rw[Fac hlt,Fas]
      constructor
      ·rintro((h|⟨h,h'⟩)|rfl)
       ·exact .inl h
       ·exact .inr ⟨h,.inl h'⟩
       ·exact .inr ⟨hkey,.inr (by simp[heid])⟩
      ·rintro(h|⟨h,h'|h'⟩)
       ·exact .inl (.inl h)
       ·exact .inl (.inr ⟨h,h'⟩)
       ·right
        have:e'.1=e.1:=by rw[heid];simpa using h'
        exact Lm hi.n1 hem he' this
 ·rintro⟨F',N,v,acc⟩ st' ⟨rfl,hd,hc',hN,hacc⟩
  dsimp only at hd hc' hN hacc⊢
  refine AWp.of_vc zb ?_
  refine za (o:=(F'.un N).obj b6) _ (zd hN.h6) ?_
  have hms:=zww hacc.1
  have hnear:Mi l q r (acc.mergeSort λx y=>decide (x<=y)):=⟨hms.1,λid=>by
   rw[hms.2,hacc.2 id]
   constructor
   ·rintro⟨e,h1,h2,h3,_⟩;exact⟨e,h1,h2,h3⟩
   ·rintro⟨e,h1,h2,h3⟩;exact⟨e,h1,h2,h3,Tv⟩⟩
  have hal:=hacc.len
  have hml:(acc.mergeSort λx y=>decide (x<=y)).length=acc.length:=List.length_mergeSort acc
  rcases Li hN.hv with⟨rfl,rfl⟩|⟨b,cap,L,rfl,ho,h1,h2,h3⟩
  ·refine zpy _ ?_
   refine za (o:=(F'.un N).obj b6) _ (zd hN.h6) ?_
   refine Bs (i:=ti29) (v:=.s (.slice none 0 0)) (b:=b6) (o:=0) (l:=[.s (.slice none 0 0)]) rfl rfl rfl (zd hN.h6) (Fah _) ?_
   refine za (o:=Store.obj (Store.sO _ b6 _) b6) _ (zc _ _ _) ?_
   refine ret ?_
   rw[zo]
   exact h F' _ _ _ hc' (I4 hd hN.h6) (.inl ⟨rfl,by simp⟩) hnear
  ·refine zpx (zd ho) (by omega) _ ?_
   have hb6:b6≠b:=Ne.symm (hN.nv b _ _ rfl).2.2.2
   have h6:((F'.un N).sO b (.cells ((acc.mergeSort λx y=>decide (x<=y)).map aI++L))).obj b6=some (.cells [.s (.slice (some ⟨b,0,none⟩) acc.length cap)]):=by rw[zf hb6];exact zd hN.h6
   refine za (o:=Store.obj (Store.sO _ b _) b6) _ h6 ?_
   refine Bs (i:=ti29) (v:=.s (.slice (some ⟨b,0,none⟩) acc.length cap)) (b:=b6) (o:=0) (l:=[.s (.slice (some ⟨b,0,none⟩) acc.length cap)]) rfl rfl rfl h6 (Fah _) ?_
   refine za (o:=Store.obj (Store.sO _ b6 _) b6) _ (zc _ _ _) ?_
   refine ret ?_
   rw[zo,zo]
   refine h F' _ _ _ hc' (I4 (I4 hd ho) (by rw[zf hb6];exact hN.h6)) (.inr ⟨b,cap,L,?_,?_,?_,?_,h3⟩) hnear
   ·rw[hml];rfl
   ·rw[zf (Ne.symm hb6)];exact zc _ _ _
   ·omega
   ·omega
theorem zx8(l:List Int)(hl:l.length<=1000000000000)(fn:FuncId)(cap:List AV)(q:Int->Bool)(st:Store)(hf:∀x∈l,∀R:AV->Store->Prop,R (bool (q x)) st->Jb fn ([int x]++cap) st R)
  (R:Ja) (h:R (int (C8 (l.findIdx? q))) st):Jb 389 [lst 1 zu l,.clos fn cap] st R:=by
 refine Qa (c:=cfg 19) zb Tryz.func389 ?_
 refine AWp.loop (σ:=Nat) ⟨λi=>[(0,.av (lst 1 zu l)),(1,.av (.clos fn cap)),(7,.av (int (l.length:Nat))),(8,.av (int (i:Nat)))],λ_=>[],
  λi st'=>i<=l.length/\st'=st/\∀j,(hj:j<l.length)->j<i->q l[j]=false,λi=>l.length-i⟩ zb ?_ ?_
 ·refine⟨0,Tv,⟨Faf _,rfl,λj _ hj=>by omega⟩,⟨Tq,Tq,?_,Tq,Tv⟩,Tv⟩
  rw[<-zh (f:=zu) l]
  exact Tq
 rintro i st' ⟨hi,rfl,hall⟩
 refine bcd (λh1=>?_) (λh1=>?_)
 rotate_left
 ·have e:l.findIdx? q=none:=by
   rw[Fb6]
   intro x hx
   obtain⟨j,hj,rfl⟩:=Faj hx
   exact hall j hj (by omega)
  rw[e]at h
  exact ret h
 have hlt:i<l.length:=by omega
 refine⟨i,rfl,za _ (zw hlt) ?_⟩
 refine hf l[i] (Faa hlt) _ ?_
 refine zi (λh2=>?_) (λh2=>?_)
 ·have e:l.findIdx? q=some i:=by
   rw[Fbn]
   exact⟨hlt,h2,λj hj=>by rw[hall j (by omega) hj];decide⟩
  rw[e]at h
  exact ret h
 ·refine Qd ?_
  refine⟨i+1,?_,⟨by omega,rfl,λj hj hj2=>?_⟩,Qao,Tv⟩
  ·show l.length-(i+1)<l.length-i
   omega
  ·by_cases e:j=i
   ·subst e;exact h2
   ·exact hall j hj (by omega)
theorem zx9(l:List Int)(hl:l.length<=1000000000000)(fn:FuncId)(cap:List AV)(q:Int->Bool)(st:Store)(hf:∀x∈l,∀R:AV->Store->Prop,R (bool (q x)) st->Jb fn ([int x]++cap) st R)
  (R:Ja) (h:R (bool (l.any q)) st):Jb 360 [lst 1 zu l,.clos fn cap] st R:=by
 refine Qa (c:=cfg 9) zb Tryz.func360 ?_
 refine zx8 l hl fn cap q st hf _ ?_
 have e:decide ((0:Int)<=C8 (l.findIdx? q))=l.any q:=by
  cases hx:l.findIdx? q with
  |none=>
   rw[Fb6]at hx
   rw[show decide ((0:Int)<=C8 none)=false from by decide]
   symm
   rw[Fc9]
   intro x hm
   rw[hx x hm];decide
  |some i=>
   rw[Fbn]at hx
   obtain⟨hi,h1,_⟩:=hx
   rw[show decide ((0:Int)<=C8 (some i))=true from by simp[C8]]
   symm
   rw[List.any_eq_true]
   exact⟨l[i],Faa hi,h1⟩
 rw[<-e]at h
 exact ret h
theorem ydk(l:List Bld)(hl:l.length<=1000000000000)(fn:FuncId)(cap:List AV)(q:Bld->Bool)(st:Store)(hf:∀x∈l,∀R:AV->Store->Prop,R (bool (q x)) st->Jb fn ([.agg (zr x)]++cap) st R)
  (R:Ja) (h:R (int (C8 (l.findIdx? q))) st):Jb 292 [lst 6 zr l,.clos fn cap] st R:=by
 refine Qa (c:=cfg 19) zb Tryz.func292 ?_
 refine AWp.loop (σ:=Nat) ⟨λi=>[(0,.av (lst 6 zr l)),(1,.av (.clos fn cap)),(7,.av (int (l.length:Nat))),(8,.av (int (i:Nat)))],λ_=>[],
  λi st'=>i<=l.length/\st'=st/\∀j,(hj:j<l.length)->j<i->q l[j]=false,λi=>l.length-i⟩ zb ?_ ?_
 ·refine⟨0,Tv,⟨Faf _,rfl,λj _ hj=>by omega⟩,⟨Tq,Tq,?_,Tq,Tv⟩,Tv⟩
  rw[<-zh (f:=zr) l]
  exact Tq
 rintro i st' ⟨hi,rfl,hall⟩
 refine bcd (λh1=>?_) (λh1=>?_)
 rotate_left
 ·have e:l.findIdx? q=none:=by
   rw[Fb6]
   intro x hx
   obtain⟨j,hj,rfl⟩:=Faj hx
   exact hall j hj (by omega)
  rw[e]at h
  exact ret h
 have hlt:i<l.length:=by omega
 refine⟨i,rfl,za _ (zw hlt) ?_⟩
 refine hf l[i] (Faa hlt) _ ?_
 refine zi (λh2=>?_) (λh2=>?_)
 ·have e:l.findIdx? q=some i:=by
   rw[Fbn]
   exact⟨hlt,h2,λj hj=>by rw[hall j (by omega) hj];decide⟩
  rw[e]at h
  exact ret h
 ·refine Qd ?_
  refine⟨i+1,?_,⟨by omega,rfl,λj hj hj2=>?_⟩,Qao,Tv⟩
  ·show l.length-(i+1)<l.length-i
   omega
  ·by_cases e:j=i
   ·subst e;exact h2
   ·exact hall j hj (by omega)
theorem ydl(l:List Bld)(hl:l.length<=1000000000000)(fn:FuncId)(cap:List AV)(q:Bld->Bool)(st:Store)(hf:∀x∈l,∀R:AV->Store->Prop,R (bool (q x)) st->Jb fn ([.agg (zr x)]++cap) st R)
  (R:Ja) (h:R (bool (l.any q)) st):Jb 214 [lst 6 zr l,.clos fn cap] st R:=by
 refine Qa (c:=cfg 9) zb Tryz.func214 ?_
 refine ydk l hl fn cap q st hf _ ?_
 have e:decide ((0:Int)<=C8 (l.findIdx? q))=l.any q:=by
  cases hx:l.findIdx? q with
  |none=>
   rw[Fb6]at hx
   rw[show decide ((0:Int)<=C8 none)=false from by decide]
   symm
   rw[Fc9]
   intro x hm
   rw[hx x hm];decide
  |some i=>
   rw[Fbn]at hx
   obtain⟨hi,h1,_⟩:=hx
   rw[show decide ((0:Int)<=C8 (some i))=true from by simp[C8]]
   symm
   rw[List.any_eq_true]
   exact⟨l[i],Faa hi,h1⟩
 rw[<-e]at h
 exact ret h
theorem yav(g:Gnd)(p:Nat)(t:Nat)(ht:t<g.T.length)(st:Store)(hp:st.obj p=some (.cells (zn g)))(R:Ja)(h:R (bool (decide ((g.T.getD t 0).toNat>1))) st):
  Jb 361 ([int (t:Nat)]++[ptr p]) st R:=by
 have hget:g.T.getD t 0=g.T[t]:=by simp[ht]
 rw[hget]at h
 refine Qa (c:=cfg 10) zb Tryz.func361 ?_
 refine za _ hp ?_
 refine⟨t,rfl,za _ (zw ht) ?_⟩
 refine ret ?_
 have e:decide ((1:Int)<(g.T[t].toNat:Int))=decide (g.T[t].toNat>1):=by grind
 rw[<-e]at h
 exact h
theorem ydu(g:Gnd)(hg:zp g)(b:Bld)(hb:y9 b/\onP g b)(st:Store)(R:Ja)(h:∀z:Bool,(z=true↔D2 g b)->R (bool z) st):
  Jb 290 [.agg (zn g),.agg (zr b)] st R:=by
 have hm:=qr hg
 refine Qa (c:=cfg 11 [2] []) zb Tryz.func290 ?_
 intro p hp
 have ho:(st.sO p (.cells (zn g))).obj p=some (.cells (zn g)):=zc _ _ _
 refine za _ ho ?_
 refine R2 g hg b hb _ _ ?_
 have hl:(vq g.W b).length<=1000000000000:=by
  unfold vq
  rw[R4]
  have hb':=hb.1
  unfold y9 at hb'
  have:b.h.toNat*b.w.toNat<=4*4:=Fda (by omega) (by omega)
  omega
 refine zx9 (vq g.W b) hl _ _ (λx=>decide ((g.T.getD x.toNat 0).toNat>1)) _ (λx hx R h=>?_) _ ?_
 ·obtain⟨n,rfl,hn,hh⟩:=(Fo hg hb.1 hb.2 x).1 hx
  exact yav g p n (by omega) _ ho R (by grind)
 refine Ab (Tt) (Ai hp.1) (h _ ?_)
 unfold D2
 rw[Fbr,Fc9]
 constructor
 ·intro hh t ht hb2
  have:=hh (t:Int) ((Fo hg hb.1 hb.2 _).2 ⟨t,rfl,by omega,hb2⟩)
  grind
 ·intro hh x hx
  obtain⟨n,rfl,hn,hb2⟩:=(Fo hg hb.1 hb.2 x).1 hx
  grind
def blV(b n:Nat):AV:=.s (.slice (some ⟨b,0,none⟩) n n)
theorem ycc(g:Gnd)(hg:zp g)(l:List Bld)(hl:l.length<=1000000000000)(hb:∀b∈l,y9 b/\onP g b)(st:Store)(R:Ja)
  (h:∀b,Fresh st b->R (blV b g.T.length) (st.sO b (.cells (bl g.T.length (xn g l))))):Jb 362 [.agg (zn g),lst 6 zr l] st R:=by
 have ha:=qr hg
 have hT:((rws u8C g.T).length:Int)=(g.T.length:Int):=by rw[zh]
 refine Qa (c:=cfg 34) zb Tryz.func362 ?_
 refine Ga rfl (it:=ti50) (ie:=ti4) rfl rfl rfl rfl rfl (n:=(rws u8C g.T).length) ?_ ?_ (λb hf=>?_)
 ·rw[zh];show 1*_<=_;omega
 ·omega
 rw[zh,Pq]
 refine AWp.loop (σ:=Nat) ⟨λi=>[(2,.bx 2 0),(5,.av (blV b g.T.length)),(14,.av (lst 6 zr l)),(15,.av (int (l.length:Nat))),(16,.av (int (i:Nat)))],λ_=>[(2,zn g)],
  λi st'=>i<=l.length/\st'=st.sO b (.cells (bl g.T.length (xn g (l.take i)))),λi=>l.length-i⟩ zb ?_ ?_
 ·refine⟨0,Tv,⟨Faf _,rfl⟩,⟨Tq,Tq,Tq,?_,Tq,Tv⟩,⟨rfl,Tv⟩⟩
  rw[<-zh (f:=zr) l]
  exact Tq
 rintro i st' ⟨hi,rfl⟩
 refine bcd (λh1=>?_) (λh1=>?_)
 rotate_left
 ·have:i=l.length:=by omega
  subst this
  rw[Fap]
  exact ret (h b hf)
 have hlt:i<l.length:=by omega
 have hbi:=hb l[i] (Faa hlt)
 refine⟨i,rfl,za _ (zw hlt) ?_⟩
 refine R2 g hg l[i] hbi _ _ ?_
 have hcov:=λ(t:Nat) (ht:t<g.T.length)=>ro hg hlt hbi ht
 have hmem:=Fo hg hbi.1 hbi.2
 have h0:=rm g l i (vq g.W l[i])
 have hts:=eo g.W hbi.1
 generalize vq g.W l[i]=ts at*
 refine AWp.loop (σ:=Nat) ⟨λk=>[(2,.bx 2 0),(5,.av (blV b g.T.length)),(14,.av (lst 6 zr l)),(15,.av (int (l.length:Nat))),(16,.av (int (i:Nat))),(22,.av (yg ts)),(23,.av (int (ts.length:Nat))),(24,.av (int (k:Nat)))],λ_=>[(2,zn g)],
  λk st'=>k<=ts.length/\st'=st.sO b (.cells (bl g.T.length (jd g l i ts k))),λk=>ts.length-k⟩ zb ?_ ?_
 ·refine⟨0,Tv,⟨Faf _,?_⟩,⟨Tq,Tq,Tq,Tq,Tq,Tq,?_,Tq,Tv⟩,⟨rfl,Tv⟩⟩
  ·rw[show jd g l i ts 0=xn g (l.take i)from funext h0]
  ·rw[<-zh (f:=zu) ts]
   exact Tq
 rintro k st' ⟨hk,rfl⟩
 refine bcd (λh2=>?_) (λh2=>?_)
 rotate_left
 ·have:k=ts.length:=by omega
  subst this
  refine Qd ?_
  refine⟨i+1,?_,⟨by omega,?_⟩,Qao,⟨rfl,Tv⟩⟩
  ·grind
  grind[bl,List.map_congr_left]
 have hklt:k<ts.length:=by omega
 obtain⟨n,hn,hn2,hn3⟩:=(hmem ts[k]).1 (Faa hklt)
 have hnl:n<g.T.length:=by omega
 obtain⟨s1,s2⟩:=rn (g:=g) (l:=l) (i:=i) hklt hn
 refine⟨k,rfl,za _ (zw hklt) ?_⟩
 refine⟨n,hn,hnl,?_⟩
 refine yn (i:=ti4) (v:=bool true) (b:=b) (o:=0+n*1) (l:=bl g.T.length (jd g l i ts k)) (st2:=st.sO b (.cells (bl g.T.length (jd g l i ts (k+1))))) rfl rfl rfl (zc _ _ _) (by rw[Ao];omega) ?_ ?_
 ·grind[yl,I9]
 refine Qd ?_
 refine⟨k+1,?_,⟨by omega,rfl⟩,Qao,⟨rfl,Tv⟩⟩
 grind
theorem ls(n:Nat)(f:Nat->Bool):(rws qd (blL n f)).flatten++[]=bl n f:=by rw[Fc0,ydo]
def opV(g:Gnd)(l:List Bld)(c:Int):AV:=lst 1 qd (blL g.T.length (yf g l c))
def Ag(g:Gnd)(l:List Bld)(c:Int)(i t:Nat):Bool:=if t<i then yf g l c t else xn g l t
theorem Hi(g:Gnd)(hg:zp g)(l:List Bld)(hl:l.length<=1000000000000)(hb:∀b∈l,y9 b/\onP g b)(c:Int)(st:Store)(R:Ja)(h:R (opV g l c) st):
  Jb 296 [.agg (zn g),lst 6 zr l,int c] st R:=by
 have ha:=qr hg
 refine Qb (c:=cfg 37) zb Tryz.func296 ?_
 refine AWp.seq (AWp.of_vc zb ?_)
 refine AWp.seq (AWp.of_vc zb ?_)
 refine ycc g hg l hl hb _ _ (λb hf=>?_)
 have step:∀i,i<g.T.length->Ag g l c (i+1) i=yf g l c i/\∀s,s≠i->Ag g l c (i+1) s=Ag g l c i s:=λi hi=>by
  unfold Ag
  grind
 refine AWp.meetA (σ:=Unit) ⟨λ_=>[(7,.av (blV b g.T.length))],λ_=>[],λ_ st'=>st'=st.sO b (.cells (bl g.T.length (yf g l c)))⟩ ?_ ?_
 ·refine AWp.of_vc zb ?_
  refine AWp.loop (σ:=Nat) ⟨λi=>[(2,.av (int c)),(3,.bx 3 0),(7,.av (blV b g.T.length)),(13,.av (blV b g.T.length)),(14,.av (int (g.T.length:Nat))),(15,.av (int (i:Nat)))],λ_=>[(3,zn g)],
   λi st'=>i<=g.T.length/\st'=st.sO b (.cells (bl g.T.length (Ag g l c i))),λi=>g.T.length-i⟩ zb ?_ ?_
  ·refine⟨0,Tv,⟨Faf _,?_⟩,Qao,⟨rfl,Tv⟩⟩
   rfl
  rintro i st' ⟨hi,rfl⟩
  refine bcd (λh1=>?_) (λh1=>?_)
  rotate_left
  ·have:i=g.T.length:=by omega
   subst this
   refine⟨(),?_,⟨Tq,Tv⟩,Tv⟩
   have:bl g.T.length (Ag g l c g.T.length)=bl g.T.length (yf g l c):=by simp_all[bl,Ag]
   rw[this]
  have hlt:i<g.T.length:=by omega
  obtain⟨s1,s2⟩:=step i hlt
  have ho:(st.sO b (.cells (bl g.T.length (Ag g l c i)))).obj b=some (.cells (bl g.T.length (Ag g l c i))):=zc _ _ _
  have hmid:Ag g l c i i=xn g l i:=if_neg (Nat.lt_irrefl i)
  have hhead:((bl g.T.length (Ag g l c i)).drop (0+i*1)).head?=some (bool (xn g l i)):=by grind[List.head?_drop,F8]
  refine⟨i,rfl,hlt,?_⟩
  refine za _ ho (za _ hhead ?_)
  have hti:g.T[i].toNat<=5:=hg.2.2.2 _ (Faa hlt)
  have hget:g.T.getD i 0=g.T[i]:=by simp[hlt]
  refine zi (λc1=>?_) (λc1=>?_)
  ·have c1:xn g l i=false:=by grind
   refine⟨i,rfl,za _ (zw hlt) ?_⟩
   refine S9 c g.T[i] hti _ _ ?_
   have hz:decide (0<Bb c g.T[i].toNat)=yf g l c i:=by
    unfold yf
    grind
   refine⟨i,rfl,hlt,?_⟩
   refine yn (i:=ti4) (v:=bool (decide (0<Bb c g.T[i].toNat))) (b:=b) (o:=0+i*1) (l:=_) (st2:=st.sO b (.cells (bl g.T.length (Ag g l c (i+1))))) rfl rfl rfl ho (by rw[Ao];omega) (by grind[yl,I9]) ?_
   refine Qd ?_
   refine⟨i+1,?_,⟨by omega,rfl⟩,Qao,⟨rfl,Tv⟩⟩
   grind
  ·have c1:xn g l i=true:=by grind
   have hz:false=yf g l c i:=by
    unfold yf
    grind
   refine⟨i,rfl,hlt,?_⟩
   refine yn (i:=ti4) (v:=bool false) (b:=b) (o:=0+i*1) (l:=_) (st2:=st.sO b (.cells (bl g.T.length (Ag g l c (i+1))))) rfl rfl rfl ho (by rw[Ao];omega) (by grind[yl,I9]) ?_
   refine Qd ?_
   refine⟨i+1,?_,⟨by omega,rfl⟩,Qao,⟨rfl,Tv⟩⟩
   grind
 ·rintro _ _ rfl
  refine AWp.freeze (d:=7) (b:=b) (k:=1) (n:=g.T.length) (cap:=g.T.length) (rows:=rws qd (blL g.T.length (yf g l c))) (pad:=[]) rfl ?_ ?_ ?_ (Fah _) ?_ ?_ ?_
  ·grind[ls,zc]
  ·exact hf.2
  ·rw[zh,D6]
  ·intro row hr
   obtain⟨x,_,rfl⟩:=Fae.1 hr
   rfl
  ·intro row hr y hy
   obtain⟨x,_,rfl⟩:=Fae.1 hr
   simp[qd]at hy
   exact⟨_,hy,rfl⟩
  rw[Ph hf.1]
  refine AWp.of_vc zb ?_
  exact ret h
theorem ydf(g:Gnd)(hg:zp g)(l:List Bld)(hl:l.length<=1000000000000)(st:Store)(R:Ja)
  (h:∀z:Bool,(z=true↔Hm g l)->R (bool z) st):Jb 213 [.agg (zn g),lst 6 zr l] st R:=by
 have ha:=qr hg
 have hT:((rws u8C g.T).length:Int)=(g.T.length:Int):=by rw[zh]
 have hL:((rws zr l).length:Int)=(l.length:Int):=by rw[zh]
 have no:¬Hm g l->R (bool false) st:=λhn=>h false (by simp[hn])
 refine Qa (c:=cfg 60) zb Tryz.func213 ?_
 refine bcd (λc1=>ret (no λq=>by have:=q.1;omega)) (λc1=>?_)
 refine ydi l hl _ _ (λz hz=>?_)
 refine yp ?_
 refine zi (λc2=>?_) (λc2=>ret (no λq=>by have:=hz.2 q.2.1;grind))
 have hr:=hz.1 c2
 refine Ga rfl (it:=ti50) (ie:=ti4) rfl rfl rfl rfl rfl (n:=(rws u8C g.T).length) ?_ ?_ (λb hf=>?_)
 ·rw[zh];show 1*_<=_;omega
 ·omega
 rw[zh (f:=u8C) g.T,Pq]
 have hhas:∀f:Nat->Bool,(st.sO b (.cells (bl g.T.length f))).Has st:=λf=>Ai hf.1
 refine AWp.loop (σ:=Nat) ⟨λi=>[(2,.bx 2 0),(5,.av (blV b g.T.length)),(22,.av (lst 6 zr l)),(23,.av (int (l.length:Nat))),(24,.av (int (i:Nat)))],λ_=>[(2,zn g)],
  λi st'=>i<=l.length/\st'=st.sO b (.cells (bl g.T.length (xn g (l.take i))))/\br g l i,λi=>l.length-i⟩ zb ?_ ?_
 ·refine⟨0,Tv,⟨Faf _,rfl,λj _ hj=>by omega⟩,⟨Tq,Tq,Tq,?_,Tq,Tv⟩,⟨rfl,Tv⟩⟩
  rw[<-zh (f:=zr) l]
  exact Tq
 rintro i st' ⟨hi,rfl,hup⟩
 refine bcd (λh1=>?_) (λh1=>?_)
 rotate_left
 ·have:i=l.length:=by omega
  subst this
  have hall:=yde hup
  exact Ab (Tt) (hhas _) (h true (by simp;exact⟨by omega,hr,hall.1,hall.2⟩))
 have hlt:i<l.length:=by omega
 have nof:¬Hm g l->∃r st',AV.le (bool false) r/\(st.sO b (.cells (bl g.T.length (xn g (l.take i))))).Has st'/\R r st':=λhn=>Ab (Tt) (hhas _) (no hn)
 refine⟨i,rfl,za _ (zw hlt) ?_⟩
 refine ydt l[i] _ _ (λz1 hz1=>?_)
 refine yp ?_
 refine zi (λc3=>?_) (λc3=>nof λq=>by have:=hz1.2 (q.2.2.1 _ (Faa hlt)).1;grind)
 have hb1:=hz1.1 c3
 refine ydj g l[i] hg hb1 _ _ (λz2 hz2=>?_)
 refine yp ?_
 refine zi (λc4=>?_) (λc4=>nof λq=>by have:=hz2.2 (q.2.2.1 _ (Faa hlt)).2.1;grind)
 have hb2:=hz2.1 c4
 refine ydu g hg l[i] ⟨hb1,hb2⟩ _ _ (λz3 hz3=>?_)
 refine yp ?_
 refine zi (λc5=>?_) (λc5=>nof λq=>by have:=hz3.2 (q.2.2.1 _ (Faa hlt)).2.2;grind)
 have hb3:=hz3.1 c5
 have hbi:y9 l[i]/\onP g l[i]:=⟨hb1,hb2⟩
 refine R2 g hg l[i] hbi _ _ ?_
 have hcov:=λ(t:Nat) (ht:t<g.T.length)=>ro hg hlt hbi ht
 have hmem:=Fo hg hbi.1 hbi.2
 have h0:=rm g l i (vq g.W l[i])
 have hts:=eo g.W hbi.1
 have hcm:=ycd hg hlt hbi hup
 have hso:=zbs hg hbi
 generalize vq g.W l[i]=ts at*
 refine AWp.loop (σ:=Nat) ⟨λk=>[(2,.bx 2 0),(5,.av (blV b g.T.length)),(22,.av (lst 6 zr l)),(23,.av (int (l.length:Nat))),(24,.av (int (i:Nat))),(45,.av (yg ts)),(46,.av (int (ts.length:Nat))),(47,.av (int (k:Nat)))],λ_=>[(2,zn g)],
  λk st'=>k<=ts.length/\st'=st.sO b (.cells (bl g.T.length (jd g l i ts k)))/\∀m,(hm:m<ts.length)->m<k->xn g (l.take i) ts[m].toNat=false,λk=>ts.length-k⟩ zb ?_ ?_
 ·refine⟨0,Tv,⟨Faf _,?_,λm _ hm=>by omega⟩,⟨Tq,Tq,Tq,Tq,Tq,Tq,?_,Tq,Tv⟩,⟨rfl,Tv⟩⟩
  ·rw[show jd g l i ts 0=xn g (l.take i)from funext h0]
  ·rw[<-zh (f:=zu) ts]
   exact Tq
 rintro k st' ⟨hk,rfl,hno⟩
 refine bcd (λh2=>?_) (λh2=>?_)
 rotate_left
 ·have:k=ts.length:=by omega
  subst this
  refine Qd ?_
  refine⟨i+1,?_,⟨by omega,?_,λj hj hji=>?_⟩,Qao,⟨rfl,Tv⟩⟩
  ·grind
  ·grind[bl,List.map_congr_left]
  ·by_cases e:j=i
   ·subst e
    refine⟨⟨hb1,hb2,hb3⟩,λm hm hmt=>?_⟩
    obtain⟨t,ht,hc⟩:=hcm.2 ⟨m,hm,hmt⟩
    obtain⟨q,hq,rfl⟩:=Faj ht
    grind
   ·exact hup j hj (by omega)
 have hklt:k<ts.length:=by omega
 obtain⟨n,hn,hn2,hn3⟩:=(hmem ts[k]).1 (Faa hklt)
 have hnl:n<g.T.length:=by omega
 obtain⟨s1,s2⟩:=rn (g:=g) (l:=l) (i:=i) hklt hn
 have hnk:jd g l i ts k n=xn g (l.take i) n:=by
  unfold jd
  have:(ts.take k).contains (n:Int)=false:=by grind[zvy]
  grind
 refine⟨k,rfl,za _ (zw hklt) ?_⟩
 have ho:(st.sO b (.cells (bl g.T.length (jd g l i ts k)))).obj b=some (.cells (bl g.T.length (jd g l i ts k))):=zc _ _ _
 have hhead:((bl g.T.length (jd g l i ts k)).drop (0+n*1)).head?=some (V.bool (xn g (l.take i) n)):=by grind[List.head?_drop,F8]
 refine⟨n,hn,hnl,?_⟩
 refine za _ ho (za _ hhead ?_)
 refine zi (λc6=>?_) (λc6=>?_)
 ·refine Ab (Tt) (hhas _) (no λq=>?_)
  obtain⟨m,hm,hmt⟩:=hcm.1 ⟨ts[k],Faa hklt,by grind⟩
  exact q.2.2.2 i hlt m hm hmt
 refine⟨n,hn,hnl,?_⟩
 refine yn (i:=ti4) (v:=bool true) (b:=b) (o:=0+n*1) (l:=bl g.T.length (jd g l i ts k)) (st2:=st.sO b (.cells (bl g.T.length (jd g l i ts (k+1))))) rfl rfl rfl (zc _ _ _) (by rw[Ao];omega) ?_ ?_
 ·grind[yl,I9]
 refine Qd ?_
 refine⟨k+1,?_,⟨by omega,rfl,λm hm hmk=>?_⟩,Qao,⟨rfl,Tv⟩⟩
 ·grind
 grind
end Go.Proofs
namespace Go.Proofs
open Go Go.V
set_option maxRecDepth 20000
set_option maxHeartbeats 4000000
end Go.Proofs
namespace Go.Proofs
open Go Go.V
set_option maxRecDepth 20000
set_option maxHeartbeats 4000000
theorem zyy(g:Gnd)(hg:zp g)(t:Nat)(ht:(t:Int)<g.W*g.H)(x:Int)(hx:x=(t:Int))(p:Vc)(hp:jj p.1 p.2)(r:Int)(hr:0<r/\r<=262144)(st:Store)(R:Ja)(h:R (V.bool (decide (wj g t p r))) st):
  Jb 295 [.agg (zn g),int x,.agg (z6 p),int r] st R:=by
 subst hx
 exact zyz g hg t ht p hp r hr st R h
theorem pm(g:Gnd)(hg:zp g)(l:List Bld)(c:Int)(p:Vc)(hpo:p.ok)(r:Int)(hr:0<r/\r<=262144)(st:Store)(R:Ja)
  (h:∀z:Bool,(z=true↔Ak g l c p r)->R (V.bool z) st):Jb 218 [.agg (zn g),opV g l c,.agg (z6 p),int r] st R:=by
 have ha:=qr hg
 have hg1:=hg.1
 have hg2:=hg.2.1
 have no:¬Ak g l c p r->R (V.bool false) st:=λhn=>h false (by simp only[Fai,false_iff];exact hn)
 refine Qa (c:=cfg 112) zb Tryz.func218 ?_
 refine Qc zb zr5 ?_
 refine Qd ?_
 refine Qd ?_
 refine Qar ?_
 refine Qas ?_
 refine yb4 p r _ _ (λz hz=>?_)
 refine yp ?_
 refine zi (λc0=>?_) (λc0=>ret (no λq=>by
  have:=hz.2 ⟨⟨by omega,hr.2⟩,by unfold jj;have:=q.1;omega⟩
  rw[this]at c0;cases c0))
 have hp:=(hz.1 c0).2
 have hp':=hp
 unfold jj at hp'
 refine Qd ?_
 refine bcd (λc1=>ret (no λq=>by have:=q.1;omega)) (λc1=>?_)
 refine Qd ?_
 refine bcd (λc2=>ret (no λq=>by have:=q.1;omega)) (λc2=>?_)
 refine Qd ?_
 refine bcd (λc3=>ret (no λq=>by have:=q.1;omega)) (λc3=>?_)
 refine Qd ?_
 refine bcd (λc4=>ret (no λq=>by have:=q.1;omega)) (λc4=>?_)
 refine Qd ?_
 refine⟨by decide,?_⟩
 have hy0:(p.2-r).tdiv 65536=(p.2-r)/65536:=Fa4 (by omega)
 have hx0:(p.1-r).tdiv 65536=(p.1-r)/65536:=Fa4 (by omega)
 have hy1:(p.2+r).tdiv 65536=(p.2+r)/65536:=Fa4 (by omega)
 have hx1:(p.1+r).tdiv 65536=(p.1+r)/65536:=Fa4 (by omega)
 refine Qd ?_
 rw[hy0]
 refine AWp.loop (σ:=Nat) ⟨λk=>[(1,.av (opV g l c)),(3,.av (int r)),(4,.bx 4 0),(6,.bx 6 0),(11,.av (int ((p.2-r)/65536+(k:Nat))))],λ_=>[(4,zn g),(6,z6 p)],
  λk st'=>st'=st/\((k:Int)<=g.H-(p.2-r)/65536\/k=0)/\I6 g l c p r ((p.2-r)/65536+(k:Nat)),λk=>(g.H-(p.2-r)/65536).toNat-k⟩ zb ?_ ?_
 ·refine⟨0,Tv,⟨rfl,.inr rfl,?_⟩,⟨Tq,Tq,Tq,Tq,?_,Tv⟩,⟨rfl,rfl,Tv⟩⟩
  ·rw[show(p.2-r)/65536+((0:Nat):Int)=(p.2-r)/65536 by omega]
   exact ycu hr.1 (by omega)
  ·rw[show(p.2-r)/65536+((0:Nat):Int)=(p.2-r)/65536 by omega];exact Tq
 rintro k st' ⟨rfl,hk,hup⟩
 refine Qd ?_
 refine⟨by decide,?_⟩
 refine Qd ?_
 rw[hy1]
 have done:(¬((p.2-r)/65536+(k:Int)<=(p.2+r)/65536)\/¬((p.2-r)/65536+(k:Int)<g.H))->R (V.bool true) st':=λhh=>
  h true (by simp only[true_iff];exact⟨by omega,ycv hg hr.1 (by omega) hh hup⟩)
 refine bcd (λc5=>?_) (λc5=>ret (done (.inl c5)))
 refine bcd (λc6=>?_) (λc6=>ret (done (.inr c6)))
 refine Qd ?_
 refine⟨by decide,?_⟩
 refine Qd ?_
 rw[hx0]
 have hyb:0<=(p.2-r)/65536:=by omega
 have hxb:0<=(p.1-r)/65536:=by omega
 refine AWp.loop (σ:=Nat) ⟨λm=>[(1,.av (opV g l c)),(3,.av (int r)),(4,.bx 4 0),(6,.bx 6 0),(11,.av (int ((p.2-r)/65536+(k:Nat)))),(12,.av (int ((p.1-r)/65536+(m:Nat))))],λ_=>[(4,zn g),(6,z6 p)],
  λm st2=>st2=st'/\((m:Int)<=g.W-(p.1-r)/65536\/m=0)/\L7 g l c p r ((p.2-r)/65536+(k:Nat)) ((p.1-r)/65536+(m:Nat)),λm=>(g.W-(p.1-r)/65536).toNat-m⟩ zb ?_ ?_
 ·refine⟨0,Tv,⟨rfl,.inr rfl,?_⟩,⟨Tq,Tq,Tq,Tq,Tq,?_,Tv⟩,⟨rfl,rfl,Tv⟩⟩
  ·rw[show(p.1-r)/65536+((0:Nat):Int)=(p.1-r)/65536 by omega]
   exact ycx hr.1 (by omega)
  ·rw[show(p.1-r)/65536+((0:Nat):Int)=(p.1-r)/65536 by omega];exact Tq
 rintro m st2 ⟨rfl,hm,hrow⟩
 refine Qd ?_
 refine⟨by decide,?_⟩
 refine Qd ?_
 rw[hx1]
 have done2:(¬((p.1-r)/65536+(m:Int)<=(p.1+r)/65536)\/¬((p.1-r)/65536+(m:Int)<g.W))->I6 g l c p r ((p.2-r)/65536+((k+1:Nat):Int)):=λhh=>by
  rw[bp]
  exact ycy hg hr.1 (by omega) hh hup hrow
 have mu:(g.H-(p.2-r)/65536).toNat-(k+1)<(g.H-(p.2-r)/65536).toNat-k:=mp (Int.lt_sub_left_of_add_lt c6)
 have step2:LV.le (qv .i64 ((p.2-r)/65536+(k:Int)+1)) (.av (int ((p.2-r)/65536+((k+1:Nat):Int)))):=by
  rw[bp];exact Tq
 refine bcd (λc7=>?_) (λc7=>ze (by omega) ⟨k+1,mu,⟨rfl,.inl (Ok c6),done2 (.inl c7)⟩,⟨Tq,Tq,Tq,Tq,step2,Tv⟩,⟨rfl,rfl,Tv⟩⟩)
 refine bcd (λc8=>?_) (λc8=>ze (by omega) ⟨k+1,mu,⟨rfl,.inl (Ok c6),done2 (.inr c8)⟩,⟨Tq,Tq,Tq,Tq,step2,Tv⟩,⟨rfl,rfl,Tv⟩⟩)
 obtain⟨q1,q2,q3,q4⟩:=Ko hg (x:=(p.1-r)/65536+(m:Int)) (y:=(p.2-r)/65536+(k:Int)) (by omega) (by omega)
 have q5:0<=g.W*((p.2-r)/65536+(k:Int)):=Fa1 (by omega) (by omega)
 have hstep:=ycw (l:=l) (c:=c) (p:=p) (r:=r) hg (x:=(p.1-r)/65536+(m:Int)) (y:=(p.2-r)/65536+(k:Int)) (by omega) (by omega) hrow
 refine Qd ?_
 refine Qd ?_
 obtain⟨n,hn⟩:∃n:Nat,(n:Int)=(p.1-r)/65536+(m:Int)+g.W*((p.2-r)/65536+(k:Int)):=⟨_,Int.toNat_of_nonneg q1⟩
 rw[<-hn,Fbb]at hstep
 have hnl:n<g.T.length:=by omega
 have mu2:(g.W-(p.1-r)/65536).toNat-(m+1)<(g.W-(p.1-r)/65536).toNat-m:=mp (Int.lt_sub_left_of_add_lt c8)
 have e2:(p.1-r)/65536+((m+1:Nat):Int)=(p.1-r)/65536+(m:Int)+1:=bp _ _
 have step3:LV.le (qv .i64 ((p.1-r)/65536+(m:Int)+1)) (.av (int ((p.1-r)/65536+((m+1:Nat):Int)))):=by
  rw[e2];exact Tq
 refine⟨n,hn.symm,za _ (ydq hnl) ?_⟩
 refine yp ?_
 refine zi (λc9=>?_) (λc9=>?_)
 ·refine Qd ?_
  exact⟨m+1,mu2,⟨rfl,.inl (Ok c8),by rw[e2];exact hstep λhh=>by rw[c9]at hh;cases hh⟩,⟨Tq,Tq,Tq,Tq,Tq,step3,Tv⟩,⟨rfl,rfl,Tv⟩⟩
 refine zyy g hg n (by omega) _ hn.symm p hp r hr _ _ ?_
 refine bcd (λc10=>?_) (λc10=>?_)
 ·exact ret (no λq=>q.2 n hnl c9 c10)
 ·refine Qd ?_
  exact⟨m+1,mu2,⟨rfl,.inl (Ok c8),by rw[e2];exact hstep λ_=>c10⟩,⟨Tq,Tq,Tq,Tq,Tq,step3,Tv⟩,⟨rfl,rfl,Tv⟩⟩
theorem nu(x:Int)(st:Store)(R:Ja)(h:R (V.bool false) st):Jb 225 [int x] st R:=by
 refine Qa (c:=cfg 6) zb Tryz.func225 ?_
 refine⟨_,st,Tt,Store.Has.refl st,?_⟩
 have e:(x != x)=false:=by simp
 rw[<-e]at h
 exact h
theorem bd(x y:Int)(st:Store)(R:Ja)(h:R (int (vy x y)) st):Jb 138 [int x,int y] st R:=by
 refine Qa (c:=cfg 20) zb Tryz.func138 ?_
 refine nu _ _ _ ?_
 refine nu _ _ _ ?_
 unfold vy at h
 refine zi (λh1=>⟨_,st,Tt,Store.Has.refl st,?_⟩) (λh1=>?_)
 ·rw[if_pos (by simpa using h1)]at h
  exact h
 ·rw[if_neg (by simpa using h1)]at h
  refine zi (λh2=>⟨_,st,Tt,Store.Has.refl st,?_⟩) (λh2=>⟨_,st,Tt,Store.Has.refl st,?_⟩)
  ·rw[if_pos (by simpa using h2)]at h
   exact h
  ·rw[if_neg (by simpa using h2)]at h
   exact h
theorem ta(u:Unt)(id:Int)(st:Store)(R:Ja)(h:R (int (vy u.id id)) st):Jb 137 [.agg (zl u),int id] st R:=by
 refine Qa (c:=cfg 9) zb Tryz.func137 ?_
 exact bd u.id id _ _ (ret h)
def Lh(l:List Unt)(id:Int)(i:Nat):Prop:=i<=l.length/\(∀j,(h:j<l.length)->j<i->l[j].id<id)/\∀j,(h:j<l.length)->i<=j->id<=l[j].id
theorem ydh(l:List Unt)(hl:l.length<=1000000000000)(hr:yi l)(id:Int)(st:Store)(R:Ja)
  (h:∀i,Lh l id i->∀z:Bool,(z=true↔∃hi:i<l.length,l[i].id=id)->R (.tup [int (i:Nat),V.bool z]) st):Jb 136 [lst 10 zl l,int id,.clos 137 []] st R:=by
 refine Qa (c:=cfg 49) zb Tryz.func136 ?_
 refine AWp.loop (σ:=Nat×Nat) ⟨λs=>[(0,.av (lst 10 zl l)),(1,.av (int id)),(2,.av (.clos 137 [])),(8,.av (int (l.length:Nat))),(9,.av (int (s.1:Nat))),(10,.av (int (s.2:Nat)))],λ_=>[],
  λs st'=>st'=st/\s.1<=s.2/\s.2<=l.length/\(∀j,(h:j<l.length)->j<s.1->l[j].id<id)/\∀j,(h:j<l.length)->s.2<=j->id<=l[j].id,λs=>s.2-s.1⟩ zb ?_ ?_
 ·refine⟨(0,l.length),Tv,⟨rfl,Faf _,Fah _,λj _ hj=>by omega,λj hj hj2=>by omega⟩,⟨Tq,Tq,Tq,?_,Tq,?_,Tv⟩,Tv⟩
  ·rw[<-zh (f:=zl) l];exact Tq
  ·rw[<-zh (f:=zl) l];exact Tq
 rintro⟨i,j⟩ st' ⟨rfl,hij,hj,hlo,hhi⟩
 dsimp only at hij hj hlo hhi⊢
 refine bcd (λh1=>?_) (λh1=>?_)
 rotate_left
 ·have e:i=j:=by omega
  subst e
  have hat:Lh l id i:=⟨hj,hlo,hhi⟩
  refine bcd (λh2=>?_) (λh2=>?_)
  ·have hlt:i<l.length:=by omega
   refine⟨i,rfl,za _ (zw hlt) ?_⟩
   refine ta l[i] id _ _ ?_
   refine ret (h i hat _ ?_)
   have:=hhi i hlt (Fah _)
   unfold vy
   rw[if_neg (by omega)]
   by_cases e:l[i].id=id
   ·rw[if_neg (by omega)];simp[hlt,e]
   ·rw[if_pos (by omega)];simp[e]
  ·exact ret (h i hat _ (by simp;omega))
 refine Qd ?_
 refine⟨by decide,?_⟩
 have hmid:(IntKind.u64.wrap ((i:Int)+(j:Int))).fdiv (2^(min (1:Int).toNat IntKind.u64.bits))=(((i+j)/2:Nat):Int):=by
  have e1:IntKind.u64.wrap ((i:Int)+(j:Int))=((i+j:Nat):Int):=by
   simp[IntKind.wrap,IntKind.bits,IntKind.signed];omega
  have e2:(2:Int)^(min (1:Int).toNat IntKind.u64.bits)=2:=rfl
  have e3:(((i+j:Nat):Int)).fdiv 2=(((i+j)/2:Nat):Int):=by
   rw[Int.fdiv_eq_ediv_of_nonneg _ (by decide)];rfl
  rw[e1,e2,e3]
 have hk1:(i+j)/2<j:=by omega
 have hk2:i<=(i+j)/2:=by omega
 have hkl:(i+j)/2<l.length:=by omega
 have hmono:∀a b,(ha:a<l.length)->(hb:b<l.length)->a<=b->l[a].id<=l[b].id:=by
  intro a b ha hb hab
  induction b with
  |zero=>
   have:a=0:=by omega
   subst this;exact Fcc _
  |succ b ih=>
   by_cases e:a=b+1
   ·subst e;exact Fcc _
   ·have h2:=ih (by omega) (by omega)
    have h3:=hr (b+1) hb (by omega)
    simp only[Fdn]at h3
    omega
 refine⟨by rw[hmid];exact⟨by omega,by omega⟩,?_⟩
 refine⟨(i+j)/2,hmid,za _ (zw hkl) ?_⟩
 refine ta l[(i+j)/2] id _ _ ?_
 have hc:vy l[(i+j)/2].id id<0↔l[(i+j)/2].id<id:=by
  unfold vy;split
  ·omega
  ·split<;>omega
 refine bcd (λh2=>?_) (λh2=>?_)
 ·have h2:=hc.1 h2
  refine ze (by rw[hmid];omega) ?_
  refine⟨((i+j)/2+1,j),?_,⟨rfl,by dsimp only;omega,hj,λa ha ha2=>?_,hhi⟩,⟨Tq,Tq,Tq,Tq,?_,Tq,Tv⟩,Tv⟩
  ·show j-((i+j)/2+1)<j-i
   omega
  ·have:=hmono a ((i+j)/2) ha hkl (by dsimp only at ha2;omega)
   omega
  ·dsimp only
   exact(congrArg (λn:Int=>LV.le (qv .i64 (n+1)) (.av (int (((i+j)/2+1:Nat):Int)))) hmid).mpr (Tq)
 ·have h2:¬l[(i+j)/2].id<id:=λhh=>h2 (hc.2 hh)
  refine⟨(i,(i+j)/2),?_,⟨rfl,hk2,by dsimp only;omega,hlo,λa ha ha2=>?_⟩,⟨Tq,Tq,Tq,Tq,Tq,?_,Tv⟩,Tv⟩
  ·show(i+j)/2-i<j-i
   omega
  ·have:=hmono ((i+j)/2) a hkl ha (by dsimp only at ha2;omega)
   omega
  ·dsimp only
   exact(congrArg (λn:Int=>LV.le (qv .i64 n) (.av (int (((i+j)/2:Nat):Int)))) hmid).mpr (Tq)
theorem b8(l:List Unt)(hl:l.length<=1000000000000)(hr:yi l)(id:Int)(st:Store)(R:Ja)
  (h:∀i,Lh l id i->∀z:Bool,(z=true↔∃hi:i<l.length,l[i].id=id)->R (.tup [int (i:Nat),V.bool z]) st):Jb 75 [lst 10 zl l,int id] st R:=by
 refine Qa (c:=cfg 11) zb Tryz.func75 ?_
 exact ydh l hl hr id _ _ λi hi z hz=>ret (h i hi z hz)
section
variable {F S:Store} {p:Nat}
theorem ydb{l:List Ent}(hc:ja F p l)(hd:zg F S)(hl:l.length<=1000000000)(hok:∀e∈l,e.2.ok)(id:Int)(R:Ja)
  (h:∀F',ja F' p (yz l id)->zg F' S->R (V.bool (l.find? (kh id)).isSome) (F'.un S)):Jb 221 [ptr p,int id] (F.un S) R:=
 ACalls.frame (R:=λr a'=>r=V.bool (l.find? (kh id)).isSome/\ja a' p (yz l id)) hd (sh hc hl hok id _ λa' ha'=>⟨rfl,ha'⟩) λr a' ⟨h1,h2⟩ hd'=>h1▸h a' h2 hd'
theorem bq{l:List Ent}(hc:ja F p l)(hd:zg F S)(hl:l.length<=1000000000)(hok:∀e∈l,e.2.ok)(id:Int)(pos:Vc)(hpos:pos.ok)(R:Ja)
  (h:∀F',ja F' p (yz l id++[(id,pos)])->zg F' S->R (.tup []) (F'.un S)):Jb 133 [ptr p,int id,.agg (z6 pos)] (F.un S) R:=
 ACalls.frame (R:=λr a'=>r=.tup []/\ja a' p (yz l id++[(id,pos)])) hd (yc6 hc hl hok id pos hpos _ λa' ha'=>⟨rfl,ha'⟩) λr a' ⟨h1,h2⟩ hd'=>h1▸h a' h2 hd'
theorem sq{l:List Ent}(hc:ja F p l)(hd:zg F S)(hl:l.length<=1000000000)(hok:∀e∈l,e.2.ok){q:Vc}(hq:q.ok){r:Int}(hr:zy r)(R:Ja)
  (h:∀F' N v ns,ja F' p l->zg F' N->zg F' S->zg N S->Ints N v ns->Mi l q r ns->R v ((F'.un N).un S)):Jb 226 [ptr p,.agg (z6 q),int r] (F.un S) R:=
 ACalls.frame (R:=λv a'=>∃F' N ns,a'=F'.un N/\ja F' p l/\zg F' N/\Ints N v ns/\Mi l q r ns) hd (yc7 hc hl hok hq hr _ λF' N v ns h1 h2 h3 h4=>⟨F',N,ns,rfl,h1,h2,h3,h4⟩)
  λv a' ⟨F',N,ns,h1,h2,h3,h4,h5⟩ hd'=>by subst h1;exact h F' N v ns h2 h3 (disj_un.1 hd').1 (disj_un.1 hd').2 h4 h5
end
section
variable {s p:Nat} {w:Wld} {o0 o1 o2:AV}
def stC(w:Wld)(o0 o1 o2:AV)(p:Nat):List AV:=zk w++[o0,o1,o2,ptr p]
def stS(s:Nat)(w:Wld)(o0 o1 o2:AV)(p:Nat):Store:=Store.empty.sO s (.cells (stC w o0 o1 o2 p))
def Ih(w:Wld)(c:Int)(o:AV):Prop:=o=.s (.slice none 0 0)\/o=opV w.G w.B c
structure StandAt(F:Store)(s p:Nat)(w:Wld)(L:List Ent)(o0 o1 o2:AV):Prop where
 hc:ja F p L
 hd:zg F (stS s w o0 o1 o2 p)
 h0:Ih w 0 o0
 h1:Ih w 1 o1
 h2:Ih w 2 o2
theorem Dn(s:Nat)(w:Wld)(o0 o1 o2:AV)(p:Nat):(stS s w o0 o1 o2 p).obj s=some (.cells (stC w o0 o1 o2 p)):=zc _ _ _
theorem stS_has{i:Nat}:(stS s w o0 o1 o2 p).has i↔i=s:=by
 unfold Store.has stS
 constructor
 ·rintro(h|h)
  ·apply Decidable.byContradiction
   intro hn
   rw[zf hn]at h
   exact h rfl
  ·exact absurd rfl h
 ·rintro rfl
  exact .inl (by rw[zc];simp)
theorem W6{F:Store}{q0 q1 q2:AV}(h:zg F (stS s w o0 o1 o2 p)):zg F (stS s w q0 q1 q2 p):=λi h1 h2=>h i h1 (stS_has.2 (stS_has.1 h2))
theorem So{l:List Unt}(hr:yi l){a b:Nat}(hab:a<b)(hb:b<l.length):(l[a]'(by omega)).id<l[b].id:=by
 induction b with
 |zero=>omega
 |succ b ih=>
  have h3:=hr (b+1) hb (by omega)
  simp only[Fdn]at h3
  by_cases e:a=b
  ·subst e;exact h3
  ·have:=ih (by omega) (by omega)
   omega
theorem zvi(w:Wld)(hU:w.U.length<=1000000)(hn:∀u∈w.U,u.pos.ok)(R:Ja)
  (h:∀F s p L o0 o1 o2,StandAt F s p w L o0 o1 o2->L.length<=w.U.length->(yi w.U->∀e,e∈L↔∃u∈w.U,u.inn=0/\e=(u.id,u.pos))->R (ptr s) (F.un (stS s w o0 o1 o2 p))):Jb 73 [.agg (zk w)] Store.empty R:=by
 refine Qa (c:=cfg 31 [9] []) zb Tryz.func73 ?_
 refine Qc zb gn ?_
 refine⟨si _ (λF p hc=>⟨Qe,?_⟩),Tv⟩
 refine⟨λs hs=>⟨Tv,?_⟩,Tv⟩
 refine Qas ?_
 have e0:F.sO s (.cells (stC w (.s (.slice none 0 0)) (.s (.slice none 0 0)) (.s (.slice none 0 0)) p))=F.un (stS s w (.s (.slice none 0 0)) (.s (.slice none 0 0)) (.s (.slice none 0 0)) p):=by
  exact zo F Store.empty s _
 have h0:StandAt F s p w [] (.s (.slice none 0 0)) (.s (.slice none 0 0)) (.s (.slice none 0 0)):=⟨hc,λi h1 h2=>by
  have:=stS_has.1 h2
  subst this
  exact(fresh_iff.1 hs) h1,.inl rfl,.inl rfl,.inl rfl⟩
 refine AWp.loop (σ:=Nat×Store×List Ent) ⟨λq=>[(3,.av (ptr s)),(11,.av (lst 10 zl w.U)),(12,.av (int (w.U.length:Nat))),(13,.av (int (q.1:Nat)))],λ_=>[],
  λq st'=>st'=q.2.1.un (stS s w (.s (.slice none 0 0)) (.s (.slice none 0 0)) (.s (.slice none 0 0)) p)/\StandAt q.2.1 s p w q.2.2 (.s (.slice none 0 0)) (.s (.slice none 0 0)) (.s (.slice none 0 0))/\q.1<=w.U.length/\q.2.2.length<=q.1/\(∀e∈q.2.2,e.2.ok)/\(yi w.U->∀e,e∈q.2.2↔∃u∈w.U.take q.1,u.inn=0/\e=(u.id,u.pos)),λq=>w.U.length-q.1⟩ zb ?_ ?_
 ·refine⟨(0,F,[]),Tv,⟨e0,h0,Faf _,Fah _,λe he=>(by cases he),λ_ e=>(by simp)⟩,⟨Tq,Tq,?_,Tq,Tv⟩,Tv⟩
  rw[<-zh (f:=zl) w.U];exact Tq
 rintro⟨i,F1,L⟩ st' ⟨rfl,hS,hi,hL,hok,hmem⟩
 dsimp only at hS hi hL hok hmem⊢
 refine bcd (λh1=>?_) (λh1=>?_)
 rotate_left
 ·have:i=w.U.length:=by omega
  subst this
  rw[Fap]at hmem
  exact ret (h F1 s p L _ _ _ hS hL hmem)
 have hlt:i<w.U.length:=by omega
 refine⟨i,rfl,za _ (zw hlt) ?_⟩
 have hn2:=hn w.U[i] (Faa hlt)
 refine qf (λc1=>?_) (λc1=>?_)
 ·refine Qc zb gm ?_
  refine za (o:=(F1.un (stS s w _ _ _ p)).obj s) _ (zd (Dn s w _ _ _ p)) ?_
  refine⟨bq hS.hc hS.hd (by omega) hok w.U[i].id w.U[i].pos hn2 _ (λF2 h2 h3=>⟨Tv,?_⟩),Tv⟩
  have hlen:(yz L w.U[i].id++[(w.U[i].id,w.U[i].pos)]).length<=i+1:=by
   rw[Fad]
   have:(yz L w.U[i].id).length<=L.length:=Fb2 _ _
   simp only[Fbc];omega
  refine Qd ?_
  refine⟨(i+1,F2,_),?_,⟨rfl,⟨h2,h3,.inl rfl,.inl rfl,.inl rfl⟩,by dsimp only;omega,hlen,λe he=>?_,λhr e=>?_⟩,⟨Tq,Tq,Tq,Tq,Tv⟩,Tv⟩
  ·show w.U.length-(i+1)<w.U.length-i
   omega
  ·rcases Fas.1 he with he|he
   ·exact hok e (mem_dropId.1 he).1
   ·simp at he;subst he;exact hn2
  ·dsimp only
   rw[Fac hlt,Fas,mem_dropId,hmem hr e]
   constructor
   ·rintro(⟨⟨u,hu,h4⟩,_⟩|he)
    ·exact⟨u,Fas.2 (.inl hu),h4⟩
    ·simp at he
     exact⟨w.U[i],Fas.2 (.inr (by simp)),c1,he⟩
   ·rintro⟨u,hu,h4,h5⟩
    rcases Fas.1 hu with hu|hu
    ·refine .inl ⟨⟨u,hu,h4,h5⟩,?_⟩
     obtain⟨j,hj,rfl⟩:=Faj hu
     rw[Fal]at hj
     rw[Fc7]at h5
     have:=So hr (a:=j) (b:=i) (by omega) hlt
     subst h5
     show w.U[j].id≠w.U[i].id
     omega
    ·simp at hu
     subst hu
     exact .inr (by simp[h5])
 ·refine Qd ?_
  refine⟨(i+1,F1,L),?_,⟨rfl,hS,by dsimp only;omega,by dsimp only;omega,hok,λhr e=>?_⟩,Qao,Tv⟩
  ·show w.U.length-(i+1)<w.U.length-i
   omega
  ·dsimp only
   rw[hmem hr e,Fac hlt]
   constructor
   ·rintro⟨u,hu,h3⟩;exact⟨u,Fas.2 (.inl hu),h3⟩
   ·rintro⟨u,hu,h3,h4⟩
    rcases Fas.1 hu with hu|hu
    ·exact⟨u,hu,h3,h4⟩
    ·simp at hu
     subst hu
     exact absurd h3 c1
end
theorem Bf{g:Gnd}(hg:zp g)(l:List Bld)(c:Int):∃x y,opV g l c=.lst 1 (x::y) none:=by
 have ha:=qr hg
 unfold opV lst
 cases h:rws qd (blL g.T.length (yf g l c))with
 |nil=>
  have:=zh (f:=qd) (blL g.T.length (yf g l c))
  rw[h,D6]at this
  simp at this
  omega
 |cons x y=>exact⟨x,y,rfl⟩
theorem I7{v:AV}(h:∃x y,v=.lst 1 (x::y) none):cellsOf v=some [v]/\v.one=true:=by
 obtain⟨x,y,rfl⟩:=h
 exact⟨rfl,rfl⟩
theorem zpd{F:Store}{s p:Nat}{w:Wld}{L:List Ent}{o0 o1 o2:AV}(hS:StandAt F s p w L o0 o1 o2)(hg:zp w.G)(hB:w.B.length<=1000000000000)(hb:∀b∈w.B,y9 b/\onP w.G b)(c:Int)(hc:c=0\/c=1\/c=2)(R:Ja)
  (h:∀q0 q1 q2,StandAt F s p w L q0 q1 q2->R (opV w.G w.B c) (F.un (stS s w q0 q1 q2 p))):Jb 219 [ptr s,int c] (F.un (stS s w o0 o1 o2 p)) R:=by
 have ho:=zd (a:=F) (Dn s w o0 o1 o2 p)
 obtain⟨x0,y0,hne0⟩:=Bf hg w.B 0
 obtain⟨x1,y1,hne1⟩:=Bf hg w.B 1
 obtain⟨x2,y2,hne2⟩:=Bf hg w.B 2
 rcases hc with rfl|rfl|rfl
 ·rcases hS.h0 with e|e
  ·subst e
   refine Qa (c:=cfg 35) zb Tryz.func219 ?_
   refine⟨0,rfl,by decide,?_⟩
   refine za (o:=(F.un (stS s w _ _ _ p)).obj s) _ ho ?_
   refine Qc zb H6 ?_
   refine za (o:=(F.un (stS s w _ _ _ p)).obj s) _ ho ?_
   refine za (o:=(F.un (stS s w _ _ _ p)).obj s) _ ho ?_
   refine⟨Hi w.G hg w.B hB hb 0 _ _ ⟨Tv,?_⟩,Tv⟩
   refine⟨0,rfl,by decide,?_⟩
   have ho2:=zd (a:=F) (Dn s w (opV w.G w.B 0) o1 o2 p)
   have hc2:=I7 (Bf hg w.B 0)
   refine⟨?_,Tv⟩
   refine za _ rfl (qy rfl (qw (v:=opV w.G w.B 0) rfl rfl rfl rfl ?_))
   refine yn (i:=ti50) (v:=opV w.G w.B 0) (b:=s) (o:=0+8+0*ti50.size) (l:=stC w _ o1 o2 p) (st2:=F.un (stS s w (opV w.G w.B 0) o1 o2 p)) hc2.1 hc2.2 rfl ho (show 8+1<=12 by decide) ?_ ?_
   ·rw[zo]
    unfold stS
    rw[yl]
    rfl
   refine⟨Tv,?_⟩
   refine⟨0,rfl,by decide,?_⟩
   refine za (o:=(F.un (stS s w _ _ _ p)).obj s) _ ho2 ?_
   exact ret (h _ _ _ ⟨hS.hc,W6 hS.hd,.inr rfl,hS.h1,hS.h2⟩)
  ·rw[hne0]at e
   subst e
   refine Qa (c:=cfg 35) zb Tryz.func219 ?_
   refine⟨0,rfl,by decide,?_⟩
   refine za (o:=(F.un (stS s w _ _ _ p)).obj s) _ ho ?_
   refine λbb hbb=>?_
   have hbf:bb=false:=by
    cases bb with
    |true=>cases hbb rfl
    |false=>rfl
   subst hbf
   refine⟨0,rfl,by decide,?_⟩
   refine za (o:=(F.un (stS s w _ _ _ p)).obj s) _ ho ?_
   refine ret ?_
   have:=h _ _ _ hS
   rw[hne0]at this
   exact this
 ·rcases hS.h1 with e|e
  ·subst e
   refine Qa (c:=cfg 35) zb Tryz.func219 ?_
   refine⟨1,rfl,by decide,?_⟩
   refine za (o:=(F.un (stS s w _ _ _ p)).obj s) _ ho ?_
   refine Qc zb H6 ?_
   refine za (o:=(F.un (stS s w _ _ _ p)).obj s) _ ho ?_
   refine za (o:=(F.un (stS s w _ _ _ p)).obj s) _ ho ?_
   refine⟨Hi w.G hg w.B hB hb 1 _ _ ⟨Tv,?_⟩,Tv⟩
   refine⟨1,rfl,by decide,?_⟩
   have ho2:=zd (a:=F) (Dn s w o0 (opV w.G w.B 1) o2 p)
   have hc2:=I7 (Bf hg w.B 1)
   refine⟨?_,Tv⟩
   refine za _ rfl (qy rfl (qw (v:=opV w.G w.B 1) rfl rfl rfl rfl ?_))
   refine yn (i:=ti50) (v:=opV w.G w.B 1) (b:=s) (o:=0+8+1*ti50.size) (l:=stC w o0 _ o2 p) (st2:=F.un (stS s w o0 (opV w.G w.B 1) o2 p)) hc2.1 hc2.2 rfl ho (show 9+1<=12 by decide) ?_ ?_
   ·rw[zo]
    unfold stS
    rw[yl]
    rfl
   refine⟨Tv,?_⟩
   refine⟨1,rfl,by decide,?_⟩
   refine za (o:=(F.un (stS s w _ _ _ p)).obj s) _ ho2 ?_
   exact ret (h _ _ _ ⟨hS.hc,W6 hS.hd,hS.h0,.inr rfl,hS.h2⟩)
  ·rw[hne1]at e
   subst e
   refine Qa (c:=cfg 35) zb Tryz.func219 ?_
   refine⟨1,rfl,by decide,?_⟩
   refine za (o:=(F.un (stS s w _ _ _ p)).obj s) _ ho ?_
   refine λbb hbb=>?_
   have hbf:bb=false:=by
    cases bb with
    |true=>cases hbb rfl
    |false=>rfl
   subst hbf
   refine⟨1,rfl,by decide,?_⟩
   refine za (o:=(F.un (stS s w _ _ _ p)).obj s) _ ho ?_
   refine ret ?_
   have:=h _ _ _ hS
   rw[hne1]at this
   exact this
 ·rcases hS.h2 with e|e
  ·subst e
   refine Qa (c:=cfg 35) zb Tryz.func219 ?_
   refine⟨2,rfl,by decide,?_⟩
   refine za (o:=(F.un (stS s w _ _ _ p)).obj s) _ ho ?_
   refine Qc zb H6 ?_
   refine za (o:=(F.un (stS s w _ _ _ p)).obj s) _ ho ?_
   refine za (o:=(F.un (stS s w _ _ _ p)).obj s) _ ho ?_
   refine⟨Hi w.G hg w.B hB hb 2 _ _ ⟨Tv,?_⟩,Tv⟩
   refine⟨2,rfl,by decide,?_⟩
   have ho2:=zd (a:=F) (Dn s w o0 o1 (opV w.G w.B 2) p)
   have hc2:=I7 (Bf hg w.B 2)
   refine⟨?_,Tv⟩
   refine za _ rfl (qy rfl (qw (v:=opV w.G w.B 2) rfl rfl rfl rfl ?_))
   refine yn (i:=ti50) (v:=opV w.G w.B 2) (b:=s) (o:=0+8+2*ti50.size) (l:=stC w o0 o1 _ p) (st2:=F.un (stS s w o0 o1 (opV w.G w.B 2) p)) hc2.1 hc2.2 rfl ho (show 10+1<=12 by decide) ?_ ?_
   ·rw[zo]
    unfold stS
    rw[yl]
    rfl
   refine⟨Tv,?_⟩
   refine⟨2,rfl,by decide,?_⟩
   refine za (o:=(F.un (stS s w _ _ _ p)).obj s) _ ho2 ?_
   exact ret (h _ _ _ ⟨hS.hc,W6 hS.hd,hS.h0,hS.h1,.inr rfl⟩)
  ·rw[hne2]at e
   subst e
   refine Qa (c:=cfg 35) zb Tryz.func219 ?_
   refine⟨2,rfl,by decide,?_⟩
   refine za (o:=(F.un (stS s w _ _ _ p)).obj s) _ ho ?_
   refine λbb hbb=>?_
   have hbf:bb=false:=by
    cases bb with
    |true=>cases hbb rfl
    |false=>rfl
   subst hbf
   refine⟨2,rfl,by decide,?_⟩
   refine za (o:=(F.un (stS s w _ _ _ p)).obj s) _ ho ?_
   refine ret ?_
   have:=h _ _ _ hS
   rw[hne2]at this
   exact this
section
variable {F:Store} {s p:Nat} {w:Wld} {o0 o1 o2:AV}
theorem zp1{L:List Ent}(hS:StandAt F s p w L o0 o1 o2)(hr:yi w.U)(hU:w.U.length<=1000000)(hn:∀u∈w.U,u.pos.ok)(hLl:L.length<=w.U.length)(hL:Bv w L)(q:Vc)(hq:q.ok)(r:Int)(hrr:0<r/\r<=262144)(R:Ja)
  (h:∀F' us,StandAt F' s p w L o0 o1 o2->G4 w q (r+81920) us->us.length<=1000000->R (lst 10 zl us) (F'.un (stS s w o0 o1 o2 p))):Jb 140 [ptr s,.agg (z6 q),int r] (F.un (stS s w o0 o1 o2 p)) R:=by
 have ho:=zd (a:=F) (Dn s w o0 o1 o2 p)
 refine Qa (c:=cfg 47) zb Tryz.func140 ?_
 refine Qc zb gu ?_
 refine za (o:=(F.un (stS s w _ _ _ p)).obj s) _ ho ?_
 refine Qd ?_
 refine⟨sq hS.hc hS.hd (by omega) (Vi hL hn) hq (r:=r+81920) ⟨by omega,by omega⟩ _ (λF' N v ns g1 g2 g3 g4 g5 g6=>⟨Tv,?_⟩),Tv⟩
 have hS':StandAt F' s p w L o0 o1 o2:=⟨g1,g3,hS.h0,hS.h1,hS.h2⟩
 have ho':((F'.un N).un (stS s w o0 o1 o2 p)).obj s=some (.cells (stC w o0 o1 o2 p)):=zd (Dn s w o0 o1 o2 p)
 have g4':zg (F'.un N) (stS s w o0 o1 o2 p):=disj_un.2 ⟨g3,g4⟩
 have hv:∃oa cap,v=.s (.slice oa ns.length cap)/\∀i,i<ns.length->∃b J,oa=some ⟨b,0,none⟩/\((F'.un N).un (stS s w o0 o1 o2 p)).obj b=some (.cells (ns.map aI++J)):=by
  rcases Li g5 with⟨rfl,rfl⟩|⟨b,cap,J,rfl,hob,_⟩
  ·exact⟨none,0,rfl,λi hi=>absurd hi (Fa7 i)⟩
  ·exact⟨_,cap,rfl,λi _=>⟨b,J,rfl,yr g4' (zd hob)⟩⟩
 obtain⟨oa,cap,rfl,hget⟩:=hv
 have hnl:ns.length<=w.U.length:=by
  have:=Fbh (l₂:=L.map (·.1)) (g6.1.imp λh=>by omega) (λid hid=>by
   obtain⟨e,he,h2,_⟩:=(g6.2 id).1 hid
   exact Fae.2 ⟨e,he,h2⟩)
  rw[Fa8]at this
  omega
 have hfin:∀us:List Unt,us.map (·.id)=ns->(∀u∈us,u∈w.U/\u.inn=0)->R (lst 10 zl us) (F'.un (stS s w o0 o1 o2 p)):=λus e1 e2=>
  h F' us hS' (mg hr hL g6 e1 e2) (by
   have:=congrArg List.length e1
   rw[Fa8]at this
   omega)
 have hback:=oi (S:=stS s w o0 o1 o2 p) g2
 generalize(F'.un N).un (stS s w o0 o1 o2 p)=st1 at*
 refine AWp.loop (σ:=Nat×AV×List Unt) ⟨λx=>[(0,.av (ptr s)),(6,.av x.2.1),(18,.av (.s (.slice oa ns.length cap))),(19,.av (int (ns.length:Nat))),(20,.av (int (x.1:Nat)))],λ_=>[],
  λx st'=>x.1<=ns.length/\App 10 st1 x.2.1 (rws zl x.2.2) st'/\x.2.2.map (·.id)=ns.take x.1/\∀u∈x.2.2,u∈w.U/\u.inn=0,λx=>ns.length-x.1⟩ zb ?_ ?_
 ·exact⟨(0,_,[]),Tv,⟨Faf _,App.start 10 st1,rfl,λu hu=>(by cases hu)⟩,⟨Tq,Tq,Tq,Tq,Tq,Tv⟩,Tv⟩
 rintro⟨i,v2,us⟩ st' ⟨hi,ha,hus,hin⟩
 dsimp only at hi ha hus hin⊢
 refine bcd (λh1=>?_) (λh1=>?_)
 rotate_left
 ·have:i=ns.length:=by omega
  subst this
  rw[Fap]at hus
  exact⟨_,_,AV.le_trans ha.le (Tt),ha.has.trans hback,hfin us hus hin⟩
 have hlt:i<ns.length:=by omega
 obtain⟨b,J,rfl,hob⟩:=hget i hlt
 have hob':st'.obj b=some (.cells (ns.map aI++J)):=by rw[ha.obj];exact hob
 have hos:st'.obj s=some (.cells (stC w o0 o1 o2 p)):=by rw[ha.obj];exact ho'
 refine⟨i,rfl,hlt,?_⟩
 refine Qat ?_
 refine za (o:=List.head? _) (int ns[i]) (by
  rw[Fb3,show 0+i*ti2.size=i from by show 0+i*1=i;omega,Far (by simpa using hlt),Fam,Fab hlt];rfl) ?_
 refine Qat ?_
 refine b8 w.U (by omega) hr ns[i] _ _ (λk hk z hz=>?_)
 obtain⟨e,he,hid,_⟩:=(g6.2 ns[i]).1 (Faa hlt)
 obtain⟨u,hu,hu0,rfl⟩:=(hL e).1 he
 have hfound:∃hk2:k<w.U.length,w.U[k].id=ns[i]:=by
  obtain⟨j,hj,rfl⟩:=Faj hu
  have h5:j>=k:=Decidable.byContradiction λhn2=>by
   have:=hk.2.1 j hj (by omega)
   have h6:(w.U[j]).id=ns[i]:=hid
   omega
  have h7:k<w.U.length:=by omega
  refine⟨h7,?_⟩
  have h8:=hk.2.2 k h7 (Fah _)
  have h6:(w.U[j]).id=ns[i]:=hid
  by_cases e:k=j
  ·subst e;exact h6
  ·have:=Cp hr (show k<j by omega) hj
   omega
 obtain⟨hk2,hk3⟩:=hfound
 refine Qat ?_
 refine⟨k,rfl,za _ (zw hk2) ?_⟩
 refine⟨by decide,?_⟩
 have hul:us.length=i:=by
  have:=congrArg List.length hus
  rw[Fa8,Fal]at this
  omega
 refine Bo (ie:=ti37) (rows':=[zl w.U[k]]) ha ?_ ?_ ⟨?_,?_⟩ (λv3 st3 ha3=>?_)
 ·rfl
 ·rfl
 ·simp only[zh,Fbc,ti37];omega
 ·simp only[zh,Fbc];omega
 refine Qd ?_
 have huk:w.U[k]=u:=Gu hr (Faa hk2) hu (by rw[hk3];exact hid.symm)
 refine⟨(i+1,v3,us++[w.U[k]]),?_,⟨by dsimp only;omega,?_,?_,λu2 hu2=>?_⟩,Qao,Tv⟩
 ·show ns.length-(i+1)<ns.length-i
  omega
 ·dsimp only
  unfold rws at ha3⊢
  rw[Fa3]
  exact ha3
 ·dsimp only
  rw[Fa3,hus,Fac hlt]
  simp[hk3]
 ·rcases Fas.1 hu2 with h9|h9
  ·exact hin u2 h9
  ·simp at h9
   subst h9
   rw[huk]
   exact⟨hu,hu0⟩
theorem zpv{L:List Ent}(hS:StandAt F s p w L o0 o1 o2)(hg:zp w.G)(hB:w.B.length<=1000000000000)(hb:∀b∈w.B,y9 b/\onP w.G b)(hr:yi w.U)(hU:w.U.length<=1000000)(hn:∀u∈w.U,u.pos.ok)(hLl:L.length<=w.U.length)(hL:Bv w L)
  (id k:Int) (q:Vc) (hq:q.ok) (R:Ja)
  (h:∀z F' q0 q1 q2,(z=true↔xi w id k q)->StandAt F' s p w L q0 q1 q2->R (V.bool z) (F'.un (stS s w q0 q1 q2 p))):Jb 130 [ptr s,int id,int k,.agg (z6 q)] (F.un (stS s w o0 o1 o2 p)) R:=by
 have ho:=zd (a:=F) (Dn s w o0 o1 o2 p)
 have hk:=Fv k
 have hc:=Oi k
 refine Qa (c:=cfg 56) zb Tryz.func130 ?_
 refine je k _ _ ?_
 refine Qc zb gz ?_
 refine za (o:=(F.un (stS s w _ _ _ p)).obj s) _ ho ?_
 refine⟨zpd hS hg hB hb (qa k) hc _ (λa0 a1 a2 hS1=>⟨?_,?_⟩),Tv⟩
 ·have ho1:=zd (a:=F) (Dn s w a0 a1 a2 p)
  repeat(first|exact Tv|refine⟨rfl,?_⟩|refine⟨za (o:=(F.un (stS s w a0 a1 a2 p)).obj s) _ ho1 rfl,?_⟩)
 refine⟨pm w.G hg w.B (qa k) q hq (zq k) ⟨hk.1,by omega⟩ _ _ (λz hz=>⟨Tv,?_⟩),Tv⟩
 refine yp ?_
 refine zi (λc1=>?_) (λc1=>ret (h false _ _ _ _ (by simp only[Fai,false_iff];exact λhh=>by have:=hz.2 hh.1;rw[this]at c1;cases c1) hS1))
 have hfree:=hz.1 c1
 refine zp1 hS1 hr hU hn hLl hL q hq (zq k) ⟨hk.1,by omega⟩ _ (λF' us hS2 hus hul=>?_)
 have hci:=sa (id:=id) hfree hus
 have no:¬xi w id k q->R (V.bool false) (F'.un (stS s w a0 a1 a2 p)):=λhh=>h false _ _ _ _ (by simp only[Fai,false_iff];exact hh) hS2
 refine AWp.loop (σ:=Nat) ⟨λi=>[(1,.av (int id)),(7,.bx 7 0),(9,.bx 9 0),(32,.av (lst 10 zl us)),(33,.av (int (us.length:Nat))),(34,.av (int (i:Nat)))],λ_=>[(7,z6 q),(9,G9 k)],
  λi st'=>st'=F'.un (stS s w a0 a1 a2 p)/\i<=us.length/\∀j,(hj:j<us.length)->j<i->us[j].id≠id->vf q (zq k) us[j].pos (zq us[j].kind)=true,λi=>us.length-i⟩ zb ?_ ?_
 ·refine⟨0,Tv,⟨rfl,Faf _,λj _ hj=>by omega⟩,⟨Tq,Tq,Tq,Tq,?_,Tq,Tv⟩,⟨rfl,rfl,Tv⟩⟩
  rw[<-zh (f:=zl) us];exact Tq
 rintro i st' ⟨rfl,hi,hall⟩
 refine bcd (λh1=>?_) (λh1=>?_)
 rotate_left
 ·refine ret (h true _ _ _ _ (by
   simp only[true_iff]
   refine hci.2 λu hu hne=>?_
   obtain⟨j,hj,rfl⟩:=Faj hu
   exact hall j hj (by omega) hne) hS2)
 have hlt:i<us.length:=by omega
 have hui:=(hus us[i]).1 (Faa hlt)
 have next:(us[i].id≠id->vf q (zq k) us[i].pos (zq us[i].kind)=true)->∀j,(hj:j<us.length)->j<i+1->us[j].id≠id->vf q (zq k) us[j].pos (zq us[j].kind)=true:=λhh j hj hji=>by
  by_cases e:j=i
  ·subst e;exact hh
  ·exact hall j hj (by omega)
 refine⟨i,rfl,za _ (zw hlt) ?_⟩
 refine Qc zb gy ?_
 refine wl (λc2=>?_) (λc2=>?_)
 ·refine⟨je us[i].kind _ _ ⟨Qe,?_⟩,Tv⟩
  have hk2:=Fv us[i].kind
  refine⟨tj q (zq k) us[i].pos (zq us[i].kind) hq (hn _ hui.1.1) ⟨hk.1,by omega⟩ ⟨hk2.1,by omega⟩ _ _ ⟨Tv,?_⟩,Tv⟩
  refine yp ?_
  refine zi (λc3=>?_) (λc3=>?_)
  ·refine Qd ?_
   refine⟨i+1,?_,⟨rfl,by omega,next λ_=>c3⟩,Qao,⟨rfl,rfl,Tv⟩⟩
   show us.length-(i+1)<us.length-i
   omega
  ·refine ret (no λhh=>?_)
   have:=hci.1 hh us[i] (Faa hlt) c2
   rw[this]at c3;cases c3
 ·refine Qar ?_
  refine Qas ?_
  refine Qd ?_
  refine⟨i+1,?_,⟨rfl,by omega,next λhne=>absurd c2 hne⟩,Qao,⟨rfl,rfl,Tv⟩⟩
  show us.length-(i+1)<us.length-i
  omega
end
theorem zx2{R:Ja}{b:Bool}{st:Store}(h:R (V.bool b) st)(hb:b=true):R (V.bool true) st:=by rw[hb]at h;exact h
theorem zz4(w:Wld)(b:Bld)(p:Nat)(st:Store)(hp:st.obj p=some (.cells (zk w)))(R:Ja)(h:R (V.bool (decide (b.owner>w.players\/b.id>=w.next))) st):
  Jb 215 ([.agg (zr b)]++[ptr p]) st R:=by
 refine Qa (c:=cfg 16) zb Tryz.func215 ?_
 refine za _ hp ?_
 refine bcd (λc1=>ret (zx2 h (decide_eq_true (.inl c1)))) (λc1=>?_)
 refine za _ hp ?_
 refine ret ?_
 have e:decide (b.owner>w.players\/b.id>=w.next)=decide (b.id>=w.next):=by
  rw[Fc2,decide_eq_true_iff,decide_eq_true_iff];omega
 rw[e]at h
 exact h
theorem zz3(w:Wld)(hw:w.fits)(st:Store)(R:Ja)(h:∀z:Bool,(z=true↔Ln w)->R (V.bool z) st):Jb 128 [.agg (zk w)] st R:=by
 obtain⟨hw1,hw2,hw3⟩:=hw
 refine Qa (c:=cfg 54 [1] []) zb Tryz.func128 ?_
 intro p hp
 have ho:(st.sO p (.cells (zk w))).obj p=some (.cells (zk w)):=zc _ _ _
 have nof:¬Ln w->∃r st',AV.le (V.bool false) r/\(st.sO p (.cells (zk w))).Has st'/\R r st':=λhn=>Ab (Tt) (Ai hp.1) (h false (by simp only[Fai,false_iff];exact hn))
 refine za _ ho ?_
 refine bcd (λc1=>nof λq=>by have:=q.1;omega) (λc1=>?_)
 refine za _ ho ?_
 refine bcd (λc2=>nof λq=>by have:=q.1;omega) (λc2=>?_)
 refine za _ ho ?_
 refine bcd (λc3=>nof λq=>by have:=q.1;omega) (λc3=>?_)
 refine za _ ho ?_
 refine bcd (λc4=>nof λq=>by have:=q.1;omega) (λc4=>?_)
 refine za _ ho ?_
 refine bcd (λc5=>nof λq=>by have:=q.1;omega) (λc5=>?_)
 refine za _ ho ?_
 refine bcd (λc6=>nof λq=>by have:=q.1;omega) (λc6=>?_)
 refine za _ ho ?_
 refine ot w.G hw1 _ _ (λz hz=>?_)
 refine yp ?_
 refine zi (λc7=>?_) (λc7=>nof λq=>by have:=hz.2 q.2.1.1;rw[this]at c7;cases c7)
 have hg:=hz.1 c7
 refine za _ ho ?_
 refine za _ ho ?_
 refine ydf w.G hg w.B hw2 _ _ (λz hz=>?_)
 refine yp ?_
 refine zi (λc8=>?_) (λc8=>nof λq=>by have:=hz.2 q.2.1.2.1;rw[this]at c8;cases c8)
 have hb:=hz.1 c8
 refine za _ ho ?_
 have hUl:((rws zl w.U).length:Int)=(w.U.length:Int):=by rw[zh]
 refine bcd (λc9=>nof λq=>by have:=q.2.1.2.2;omega) (λc9=>?_)
 refine za _ ho ?_
 refine ydl w.B hw2 _ _ (λb=>decide (b.owner>w.players\/b.id>=w.next)) _ (λb hb R h=>zz4 w b p _ ho R h) _ ?_
 refine Ab (Tt) (Ai hp.1) (h _ ?_)
 rw[Fbr,Fc9]
 constructor
 ·intro hh
  refine⟨by omega,⟨hg,hb,by omega⟩,λb hb2=>?_⟩
  have:=hh b hb2
  rw[decide_eq_true_iff]at this
  omega
 ·intro hh b hb2
  have:=hh.2.2 b hb2
  rw[decide_eq_true_iff]
  omega
def I5(cs:List (Int×Int))(bs:List Nat)(clk:Nat):AObj:=.map (cs.map (yb int)) bs clk
def Pk(m:Nat):AV:=.s (.map (some m))
theorem ztu(w:Wld)(hU:w.U.length<=1000000)(hr:yi w.U)(st:Store)(R:Ja)(h:∀z:Bool,(z=true↔∀u∈w.U,u.inn≠0->Cq w u)->R (V.bool z) st):Jb 131 [.agg (zk w)] st R:=by
 refine Qa (c:=cfg 85) zb Tryz.func131 ?_
 refine F9 rfl (λm hm=>?_)
 have hhas:∀x,(st.sO m x).Has st:=λx=>Ai hm.1
 have nof:∀x,¬(∀u∈w.U,u.inn≠0->Cq w u)->∃r st',AV.le (V.bool false) r/\(st.sO m x).Has st'/\R r st':=λx hn=>Ab (Tt) (hhas x) (h false (by simp only[Fai,false_iff];exact hn))
 refine AWp.loop (σ:=Nat×List (Int×Int)×List Nat×Nat) ⟨λx=>[(1,.bx 1 0),(3,.av (Pk m)),(11,.av (lst 10 zl w.U)),(12,.av (int (w.U.length:Nat))),(13,.av (int (x.1:Nat)))],λ_=>[(1,zk w)],
  λx st'=>x.1<=w.U.length/\st'=st.sO m (I5 x.2.1 x.2.2.1 x.2.2.2)/\(∀id,id≠0->(ye x.2.1 id).getD 0=((yd (w.U.take x.1) id).length:Int))/\Sq w x.1,λx=>w.U.length-x.1⟩ zb ?_ ?_
 ·refine⟨(0,[],[],0),Tv,⟨Faf _,rfl,λid _=>rfl,λj _ hj=>by omega,λx _ _=>(V7 _).1⟩,⟨Tq,Tq,Tq,?_,Tq,Tv⟩,⟨rfl,Tv⟩⟩
  rw[<-zh (f:=zl) w.U];exact Tq
 rintro⟨i,cs,bs,clk⟩ st' ⟨hi,rfl,hcnt,hup⟩
 dsimp only at hi hcnt hup⊢
 refine bcd (λh1=>?_) (λh1=>?_)
 rotate_left
 ·have:i=w.U.length:=by omega
  subst this
  exact Ab (Tt) (hhas _) (h true (by simp only[true_iff];exact ztv hup))
 have hlt:i<w.U.length:=by omega
 have hui:=Faa hlt
 refine⟨i,rfl,za _ (zw hlt) ?_⟩
 refine qf (λc1=>?_) (λc1=>?_)
 ·refine Qd ?_
  refine⟨(i+1,cs,bs,clk),?_,⟨by dsimp only;omega,rfl,λid hid=>?_,λj hj hji hne=>?_,λx hx hx0=>?_⟩,Qao,⟨rfl,Tv⟩⟩
  ·show w.U.length-(i+1)<w.U.length-i
   omega
  ·dsimp only
   rw[hcnt id hid,Lk hlt,if_neg (by rw[c1];omega)];omega
  ·by_cases e:j=i
   ·subst e;exact absurd c1 hne
   ·exact hup.1 j hj (by dsimp only at hji;omega) hne
  ·dsimp only
   rw[Lk hlt,if_neg (by rw[c1];omega)]
   have:=hup.2 x hx hx0
   omega
 refine b8 w.U (by omega) hr w.U[i].inn _ _ (λk hk z hz=>?_)
 have nou:∀x,¬Cq w w.U[i]->∃r st',AV.le (V.bool false) r/\(st.sO m x).Has st'/\R r st':=λx hn=>nof x λhh=>hn (hh _ hui c1)
 have found:Cq w w.U[i]->z=true:=λ⟨x,hx,e,_⟩=>by
  obtain⟨j,hj,rfl⟩:=Faj hx
  refine hz.2 ?_
  have h5:j>=k:=Decidable.byContradiction λhn2=>by
   have:=hk.2.1 j hj (by omega)
   omega
  have h7:k<w.U.length:=by omega
  refine⟨h7,?_⟩
  have h8:=hk.2.2 k h7 (Fah _)
  by_cases e2:k=j
  ·subst e2;exact e
  ·have:=Cp hr (show k<j by omega) hj
   omega
 refine yp ?_
 refine zi (λc2=>?_) (λc2=>nou _ λhh=>by rw[found hh]at c2;cases c2)
 obtain⟨hkl,hkid⟩:=hz.1 c2
 have uniq:Cq w w.U[i]->(w.U[k].inn=0/\w.U[k].owner=w.U[i].owner)/\((yd w.U w.U[i].inn).length:Int)<=xz w.U[k].kind:=λ⟨x,hx,e,e2,e3,_⟩=>by
  have:=Gu hr hx (Faa hkl) (by rw[e,hkid])
  subst this
  exact⟨e2,e3⟩
 refine je w.U[i].kind _ _ ?_
 refine bcd (λc3=>nou _ λ⟨x,_,_,_,_,e,_⟩=>by omega) (λc3=>?_)
 have hroom:xz w.U[i].kind=0:=by have:=V7 w.U[i].kind;omega
 refine yp ?_
 refine zi (λc4=>?_) (λc4=>nou _ λ⟨x,_,_,_,_,_,e,_⟩=>by rw[e]at c4;cases c4)
 have hpos:w.U[i].pos=(0,0):=by
  have:(w.U[i].pos.1==0&&(w.U[i].pos.2==0&&true))=true:=c4
  simp at this
  exact Prod.ext this.1 this.2
 refine wl (λc5=>nou _ λ⟨x,_,_,_,_,_,_,e,_⟩=>c5 e) (λc5=>?_)
 refine wl (λc6=>nou _ λ⟨x,_,_,_,_,_,_,_,e⟩=>c6 e) (λc6=>?_)
 refine⟨k,rfl,za _ (zw hkl) ?_⟩
 have hmo:(st.sO m (I5 cs bs clk)).obj m=some (I5 cs bs clk):=zc _ _ _
 refine vi rfl (it:=ti319) (ie:=ti2) (ik:=ti2) rfl rfl rfl rfl hmo rfl (qA w.U[k].id) (λe he=>?_) ?_
 ·obtain⟨e,_,rfl⟩:=Fae.1 he
  rfl
 rw[Fq]
 have hz0:w.U[k].id≠0:=by rw[hkid];exact c1
 have hcv:(Option.map int (ye cs w.U[k].id)).getD (At ti2)=int ((yd (w.U.take i) w.U[k].id).length:Int):=by
  rw[<-hcnt _ hz0]
  cases ye cs w.U[k].id<;>rfl
 rw[hcv]
 have hcl:(yd (w.U.take i) w.U[k].id).length<=1000000:=by
  have h1:=nz (l:=w.U) i w.U[k].id
  have h2:(yd w.U w.U[k].id).length<=w.U.length:=by unfold yd;rw[Fa8];exact Fb2 _ _
  omega
 refine Qd ?_
 refine Ck (.inl rfl) rfl (it:=ti319) (ik:=ti2) rfl rfl rfl (es:=cs.map (yb int)) (bs:=bs) (clk:=clk) (k:=int w.U[k].id) (v:=int (((yd (w.U.take i) w.U[k].id).length:Int)+1)) hmo rfl rfl (qA w.U[k].id) (λe he=>?_) (λe1 he hq=>?_) ?_
 ·obtain⟨e,_,rfl⟩:=Fae.1 he
  rfl
 ·obtain⟨g1,_,rfl⟩:=Fae.1 he
  have:w.U[k].id=g1.1:=by simpa [qA,yb,int]using hq
  show int g1.1=_
  rw[this]
 obtain⟨bs',clk',hput⟩:=Il int cs bs clk w.U[k].id (((yd (w.U.take i) w.U[k].id).length:Int)+1)
 have hput:jl (cs.map (yb int)) bs clk (qA w.U[k].id) (int w.U[k].id) (int (((yd (w.U.take i) w.U[k].id).length:Int)+1))=I5 (ya cs w.U[k].id (((yd (w.U.take i) w.U[k].id).length:Int)+1)) bs' clk':=hput
 rw[hput,yl]
 have hmo2:(st.sO m (I5 (ya cs w.U[k].id (((yd (w.U.take i) w.U[k].id).length:Int)+1)) bs' clk')).obj m=some (I5 (ya cs w.U[k].id (((yd (w.U.take i) w.U[k].id).length:Int)+1)) bs' clk'):=zc _ _ _
 have hlook:C6 false (At ti2) (((ya cs w.U[k].id (((yd (w.U.take i) w.U[k].id).length:Int)+1)).map (yb int)).find? (qA w.U[k].id))=int (((yd (w.U.take i) w.U[k].id).length:Int)+1):=by
  rw[Fq,Bm,if_pos rfl];rfl
 have hsucc:=Lk hlt w.U[k].id
 rw[if_pos hkid.symm]at hsucc
 have hcnt2:∀id,id≠0->(ye (ya cs w.U[k].id (((yd (w.U.take i) w.U[k].id).length:Int)+1)) id).getD 0=((yd (w.U.take (i+1)) id).length:Int):=λid hid=>by
  rw[Bm]
  by_cases e:id=w.U[k].id
  ·rw[if_pos e,e,hsucc];rfl
  ·rw[if_neg e,hcnt id hid,Lk hlt,if_neg (by rw[<-hkid];exact Ne.symm e)];omega
 generalize ya cs w.U[k].id (((yd (w.U.take i) w.U[k].id).length:Int)+1)=cs2 at*
 have over:xz w.U[k].kind<((yd (w.U.take i) w.U[k].id).length:Int)+1->¬Cq w w.U[i]:=λhh hp=>by
  have h2:=(uniq hp).2
  have h3:=nz (l:=w.U) (i+1) w.U[k].id
  rw[<-hkid]at h2
  omega
 have good:w.U[k].inn=0->w.U[k].owner=w.U[i].owner->((yd (w.U.take i) w.U[k].id).length:Int)+1<=xz w.U[k].kind->Sq w (i+1):=λe1 e2 e3=>by
  refine⟨λj hj hji hne=>?_,λx hx hx0=>?_⟩
  ·by_cases e:j=i
   ·subst e
    exact⟨w.U[k],Faa hkl,hkid,⟨e1,e2⟩,hroom,hpos,c5,c6⟩
   ·exact hup.1 j hj (by omega) hne
  ·by_cases e:x.id=w.U[k].id
   ·have:=Gu hr hx (Faa hkl) e
    subst this
    omega
   ·rw[Lk hlt,if_neg (by rw[<-hkid];exact Ne.symm e)]
    have:=hup.2 x hx hx0
    omega
 refine Qc zb zsw ?_
 refine wl (λc7=>?_) (λc7=>?_)
 ·refine⟨⟨Qe,⟨⟨Qe,nou _ (λhh=>c7 (uniq hh).1.1)⟩,Tv⟩⟩,⟨⟨Qe,⟨⟨Qe,nou _ (λhh=>c7 (uniq hh).1.1)⟩,Tv⟩⟩,Tv⟩⟩
 refine wl (λc8=>?_) (λc8=>?_)
 ·refine⟨⟨Qe,⟨⟨Qe,nou _ (λhh=>c8 (uniq hh).1.2)⟩,Tv⟩⟩,⟨⟨Qe,⟨⟨Qe,nou _ (λhh=>c8 (uniq hh).1.2)⟩,Tv⟩⟩,Tv⟩⟩
 refine⟨?_,?_,Tv⟩
 ·refine vi rfl (it:=ti319) (ie:=ti2) (ik:=ti2) rfl rfl rfl rfl hmo2 rfl (qA w.U[k].id) (λe he=>by obtain⟨e,_,rfl⟩:=Fae.1 he;rfl) ?_
  rw[hlook]
  refine⟨Qe,?_⟩
  refine⟨je w.U[k].kind _ _ ⟨Qe,?_⟩,Tv⟩
  refine bcd (λc9=>nou _ (over (by omega))) (λc9=>?_)
  refine Qd ?_
  refine⟨(i+1,cs2,bs',clk'),?_,⟨by dsimp only;omega,rfl,hcnt2,good c7 c8 (by omega)⟩,Qao,⟨rfl,Tv⟩⟩
  show w.U.length-(i+1)<w.U.length-i
  omega
 ·refine je w.U[k].kind _ _ ⟨Qe,?_⟩
  refine⟨?_,Tv⟩
  refine vi rfl (it:=ti319) (ie:=ti2) (ik:=ti2) rfl rfl rfl rfl hmo2 rfl (qA w.U[k].id) (λe he=>by obtain⟨e,_,rfl⟩:=Fae.1 he;rfl) ?_
  rw[hlook]
  refine⟨Qe,?_⟩
  refine bcd (λc9=>nou _ (over (by omega))) (λc9=>?_)
  refine Qd ?_
  refine⟨(i+1,cs2,bs',clk'),?_,⟨by dsimp only;omega,rfl,hcnt2,good c7 c8 (by omega)⟩,Qao,⟨rfl,Tv⟩⟩
  show w.U.length-(i+1)<w.U.length-i
  omega
end Go.Proofs
