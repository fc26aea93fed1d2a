/- Lemmas of thronglaw29; no conditions. -/
import Derived.Test.YtphhbmaalpdnoaaGreatKK
import Derived.Test.YtphhbmaalpdnoaaGreatKJ
import Derived.Test.YtphhbmaalpdnoaaGreatKI
import Derived.Test.YtphhbmaalpdnoaaGreatKF
set_option linter.unusedSimpArgs false
set_option linter.unusedVariables false
set_option linter.defProp false
open List renaming length→Γ
open Option renaming some→Δ,none→Θ
namespace Go.Proofs
open Go Go.V Tryz
set_option maxRecDepth 20000
set_option maxHeartbeats 4000000
def Lz(n:Int)(st:Store)(R:Ja)(h:R (int (nrm n)) st):Jb 419 [int n] st R:=by refine Qy 5 func419 ?_;rw[<-ylh]at h;exact ret h
def ylq(n:Int)(hn:yr n)(st:Store)(R:Ja)(h:R (int (-nrm n)) st):Jb 421 [int n] st R:=by refine Qy 6 func421 ?_;refine Lz n _ _ ?_;have:=Ba hn;refine⟨⟨Z,Z⟩,?_⟩;rw[show -nrm n=0-nrm n by omega]at h;exact ret h
def K6(a b:Int)(k:yr a)(hb:yr b)(st:Store)(R:Ja)(h:R (int (qs a b)) st):Jb 367 [int a,int b] st R:=by
 refine Qy 30 func367 ?_;refine Lz a _ _ ?_;refine Lz b _ _ ?_;have t:=Ba k;have p:=Ba hb;unfold qs at h;generalize nrm a=x at*;generalize nrm b=y at*;have j:x+y>9223372036854775807->R (int 9223372036854775807) st:=λe=>by grind[wo]
 have i:x+y< -9223372036854775807->R (int (-9223372036854775807)) st:=λe=>ψ3;have g:¬x+y>9223372036854775807->¬x+y< -9223372036854775807->yr (x+y)/\R (int (x+y)) st:=λe c=>⟨⟨Z,Z⟩,by simp_all[wo]⟩
 have fin:¬x+y>9223372036854775807->¬x+y< -9223372036854775807->yr (x+y)/\∃r d,AV.le (int (x+y)) r/\st.Has d/\R r d:=λe c=>⟨(g e c).1,ret (g e c).2⟩
 refine bcd (λo=>?_) (λo=>?_)
 .refine⟨⟨Z,Z⟩,?_⟩;refine bcd (λn=>?_) (λn=>?_)
  .exact ret (j Z)
  .refine bcd (λf=>?_) (λf=>?_)
   .omega
   .exact fin Z Z
 .refine bcd (λf=>?_) (λf=>?_)
  .refine⟨⟨Z,Z⟩,?_⟩;refine bcd (λl=>?_) (λl=>?_)
   .exact ret (i Z)
   .exact fin Z Z
  .exact fin Z Z
def I7(a b:Int)(c:yr a)(hb:yr b)(st:Store)(R:Ja)(h:R (int (qh a b)) st):Jb 366 [int a,int b] st R:=by refine Qy 9 func366 ?_;refine ylq b hb _ _ ?_;have d:=Ba hb;exact K6 a (-nrm b) c ⟨Z,Z⟩ _ _ (ret h)
def rj(n:Int)(hn:yr n)(st:Store)(R:Ja)(h:R (.tup [u64 (asz n),bool (decide (nrm n<0))]) st):Jb 423 [int n] st R:=by
 refine Qy 13 func423 ?_;refine Lz n _ _ ?_;have b:=Ba hn;unfold asz at h;generalize nrm n=x at*;refine bcd (λa=>?_) (λa=>?_)
 .refine⟨⟨Z,Z⟩,?_⟩;rw[if_pos a,show decide (x<0)=true by simp[a]]at h;rw[<-kx (v:=-x) Z Z,show -x=0-x by omega]at h;exact ret h
 .rw[if_neg a,show decide (x<0)=false by simp[a]]at h;rw[<-kx (v:=x) Z Z]at h;exact ret h
def mg(x y:Int)(e:0<=x)(c:x<18446744073709551616)(d:0<=y)(a:y<18446744073709551616)(st:Store)(R:Ja)(h:R (.tup (ji (x*y))) st):
  Jb 341 [u64 x,u64 y] st R:=by
 refine Qy 51 func341 ?_;refine⟨ψ,?_⟩;refine⟨ψ,?_⟩;refine⟨ψ,?_⟩;refine⟨ψ,?_⟩;refine⟨ψ,?_⟩;refine ret ((congrArg (λl=>R (.tup l) st) ?_).mpr h);obtain⟨j,g,i,f,p,o,n,k,t,b⟩:=tp x y e c d a;simp only[yav,O4 e,O4 d,K9,<-p,<-o,<-n,<-k];rw[O4 (Fcl _ ψ)];unfold ji u64;refine congr (congrArg _ ?_) rfl;grind
def Pd(x y:Int)(e:0<=x)(c:x<18446744073709551616)(d:0<=y)(a:y<18446744073709551616)(st:Store)(R:Ja)(h:R (.agg (ji (x*y))) st):
  Jb 264 [u64 x,u64 y] st R:=by
 refine Qy 46 func264 ?_;refine⟨ψ,?_⟩;refine⟨ψ,?_⟩;refine⟨ψ,?_⟩;refine⟨ψ,?_⟩;refine⟨ψ,?_⟩;refine⟨ψ,?_⟩;refine⟨ψ,?_⟩;refine⟨ψ,?_⟩;refine ret ((congrArg (λl=>R (.agg l) st) ?_).mpr h);obtain⟨j,g,i,f,p,o,n,k,t,b⟩:=tp x y e c d a;simp only[yki,yqw,O4 e,O4 d,K9,<-p,<-o,<-n,<-k];simp only[O4 (Fcl _ (show(18446744073709551616:Int)≠0 by decide))];rw[yk2 (Fcl _ ψ) (Fcl _ ψ) Z];refine Sv ?_ ?_
 .omega
 .omega
def bm(x:Int)(b:0<=x)(a:x<18446744073709551616)(st:Store)(R:Ja)(h:R (.agg (ji (x*x))) st):Jb 372 [u64 x] st R:=by refine Qy 14 func372 ?_;exact mg x x b a b a _ _ (ret h)
def zhx(a b:Int)(e:0<=a)(hb:0<=b)(st:Store)(R:Ja)(h:R (bool (decide (a<b))) st):Jb 371 [.agg (ji a),.agg (ji b)] st R:=by
 refine Qy 24 func371 ?_;refine bcd (λd=>?_) (λd=>?_)
 .exact ret (isT h δ)
 .refine zp (λc=>?_) (λc=>?_)
  .refine ret ?_;have:decide (a<b)=decide (a%18446744073709551616<b%18446744073709551616):=by grind
   rw[this]at h;exact h
  .exact ret (isF h δ)
def zd5(a b:Int)(e:0<=a)(hb:0<=b)(st:Store)(R:Ja)(h:R (bool (decide (a<b))) st):Jb 261 [.agg (ji a),.agg (ji b)] st R:=by
 refine Qy 24 func261 ?_;refine bcd (λd=>?_) (λd=>?_)
 .exact ret (isT h δ)
 .refine zp (λc=>?_) (λc=>?_)
  .refine ret ?_;have:decide (a<b)=decide (a%18446744073709551616<b%18446744073709551616):=by grind
   rw[this]at h;exact h
  .exact ret (isF h δ)
def Hc(n:Int)(st:Store)(R:Ja)(h:R (int (nrm n)) st):Jb 260 [int n] st R:=by
 refine Qy 6 func260 ?_;refine bcd (λa=>?_) (λa=>?_)
 .rw[show nrm n=-9223372036854775807 by unfold nrm;omega]at h;exact ret h
 .rw[show nrm n=n by unfold nrm;omega]at h;exact ret h
def yhq(n:Int)(hn:yr n)(st:Store)(R:Ja)(h:R (int (-nrm n)) st):Jb 417 [int n] st R:=by refine Qy 6 func417 ?_;refine Hc n _ _ ?_;have:=Ba hn;refine⟨⟨Z,Z⟩,?_⟩;rw[show -nrm n=0-nrm n by omega]at h;exact ret h
def iy(a b:Int)(k:yr a)(hb:yr b)(st:Store)(R:Ja)(h:R (int (qs a b)) st):Jb 416 [int a,int b] st R:=by
 refine Qy 28 func416 ?_;refine Hc a _ _ ?_;refine Hc b _ _ ?_;have t:=Ba k;have p:=Ba hb;unfold qs at h;generalize nrm a=x at*;generalize nrm b=y at*;have j:x+y>9223372036854775807->R (int 9223372036854775807) st:=λe=>by grind[wo]
 have i:x+y< -9223372036854775807->R (int (-9223372036854775807)) st:=λe=>ψ3;have g:¬x+y>9223372036854775807->¬x+y< -9223372036854775807->yr (x+y)/\R (int (x+y)) st:=λe c=>⟨⟨Z,Z⟩,by simp_all[wo]⟩
 have fin:¬x+y>9223372036854775807->¬x+y< -9223372036854775807->yr (x+y)/\∃r d,AV.le (int (x+y)) r/\st.Has d/\R r d:=λe c=>⟨(g e c).1,ret (g e c).2⟩
 refine bcd (λo=>?_) (λo=>?_)
 .refine⟨⟨Z,Z⟩,?_⟩;refine bcd (λn=>?_) (λn=>?_)
  .exact ret (j Z)
  .refine bcd (λf=>?_) (λf=>?_)
   .omega
   .exact fin Z Z
 .refine bcd (λf=>?_) (λf=>?_)
  .refine⟨⟨Z,Z⟩,?_⟩;refine bcd (λl=>?_) (λl=>?_)
   .exact ret (i Z)
   .exact fin Z Z
  .exact fin Z Z
def za7(a b:Int)(c:yr a)(hb:yr b)(st:Store)(R:Ja)(h:R (int (qh a b)) st):Jb 356 [int a,int b] st R:=by refine Qy 9 func356 ?_;refine yhq b hb _ _ ?_;have d:=Ba hb;exact iy a (-nrm b) c ⟨Z,Z⟩ _ _ (ret h)
def ic(n:Int)(hn:-9223372036854775807<=n/\n<=9223372036854775807)(st:Store)(R:Ja)(h:R (u64 (asz n)) st):Jb 354 [int n] st R:=by
 refine Qy 10 func354 ?_;unfold asz at h;rw[Gi Z]at h;refine bcd (λa=>?_) (λa=>?_)
 .refine⟨⟨Z,Z⟩,?_⟩;rw[if_pos a,<-kx (v:=-n) Z Z,show -n=0-n by omega]at h;exact ret h
 .rw[if_neg a,<-kx (v:=n) Z Z]at h;exact ret h
def yg1(a b:Int)(e:0<=a)(hb:0<=b)(d:a+b<340282366920938463463374607431768211456)(st:Store)(R:Ja)(h:R (.agg (ji (a+b))) st):Jb 355 [.agg (ji a),.agg (ji b)] st R:=by
 refine Qy 27 func355 ?_;refine bcd (λc=>?_) (λc=>?_)
 .refine ret ((congrArg (λl=>R (.agg l) st) ?_).mpr h);simp only[K9]at c⊢;refine Sv ?_ ?_
  .omega
  .omega
 .refine ret ((congrArg (λl=>R (.agg l) st) ?_).mpr h);simp only[K9]at c⊢;refine Sv ?_ ?_
  .omega
  .omega
def zii(x y c:Int)(g:0<=x)(f:0<=y)(j:0<=c)(i:c<=1)(e:Store)(R:Ja)(h:R (.tup [u64 ((x+y+c)%18446744073709551616),u64 ((x+y+c)/18446744073709551616)]) e):
  Jb 465 [u64 x,u64 y,u64 c] e R:=by
 obtain⟨a,rfl⟩:=Fbk g;obtain⟨b,rfl⟩:=Fbk f;obtain⟨d,rfl⟩:=Fbk j;exact yvi Tryz.laysNm725 a b d Z h
def ziw(a b:Int)(d:0<=a)(hb:0<=b)(c:a+b<340282366920938463463374607431768211456)(st:Store)(R:Ja)(h:R (.agg (ji (a+b))) st):Jb 424 [.agg (ji a),.agg (ji b)] st R:=by
 refine Qy 29 func424 ?_;refine zii (a%18446744073709551616) (b%18446744073709551616) 0 Z Z Z Z _ _ ?_;refine zii (a/18446744073709551616) (b/18446744073709551616) ((a%18446744073709551616+b%18446744073709551616+0)/18446744073709551616) Z Z Z Z _ _ ?_;refine ret ((congrArg (λl=>R (.agg l) st) ?_).mpr h);refine Sv ?_ ?_
 .omega
 .omega
def M8{v:Vc}(h:v.ok):0<=asz v.1*asz v.1/\0<=asz v.2*asz v.2/\asz v.1*asz v.1<=85070591730234615847396907784232501249/\asz v.2*asz v.2<=85070591730234615847396907784232501249:=by
 obtain⟨f,e⟩:=h;have a1:=K1 f;have a2:=K1 e;have b:∀x:Int,0<=x->x<=9223372036854775807->0<=x*x/\x*x<=85070591730234615847396907784232501249:=by intro x a c;refine⟨Fax a a,?_⟩;have d:x*x<=9223372036854775807*9223372036854775807:=Fa9 c c a ψ;exact d
 grind
def um(v:Vc)(a:v.ok)(st:Store)(R:Ja)(h:R (.agg (ji (sqr v))) st):Jb 369 [.agg (zr v)] st R:=by refine Qy 24 func369 ?_;have a1:=K1 a.1;have a2:=K1 a.2;have b:=M8 a;refine rj v.1 a.1 _ _ ?_;refine rj v.2 a.2 _ _ ?_;refine bm (asz v.1) Z Z _ _ ?_;refine bm (asz v.2) Z Z _ _ ?_;exact ziw _ _ Z Z Z _ _ (ret h)
def Sx(a b:Vc)(c:a.ok)(hb:b.ok)(st:Store)(R:Ja)(h:R (.agg (zr (q9 a b))) st):Jb 370 [.agg (zr a),.agg (zr b)] st R:=by refine Qy 16 func370 ?_;refine Qc zb ybz ?_;refine⟨I7 a.1 b.1 c.1 hb.1 _ _ ⟨Qe,?_⟩,O⟩;refine⟨I7 a.2 b.2 c.2 hb.2 _ _ ⟨Qe,?_⟩,O⟩;refine Qbw ?_;exact ret h
def I1(a b:Vc):(q9 a b).ok:=⟨Kr _ _,Kr _ _⟩
def Su(a b:Vc)(r:Int)(d:a.ok)(hb:b.ok)(f:r<=9223372036854775807)(st:Store)(R:Ja)(h:R (bool (near a b r)) st):Jb 278 [.agg (zr a),.agg (zr b),int r] st R:=by
 refine Qy 17 func278 ?_;unfold near at h;refine bcd (λe=>?_) (λe=>?_)
 .exact ret (isF h δ)
 .have c:=M8 (I1 a b);refine Sx a b d hb _ _ ?_;refine um _ (I1 a b) _ _ ?_;refine((congrArg (λn=>Jb 372 [.s (.int .u64 n)] st _) (kx Z Z)).mpr ?_);refine bm r Z Z _ _ ?_;refine zhx _ _ ?_ (Fax Z Z) _ _ (ret ?_)
  .unfold sqr;omega
  .have:decide (0<r/\sqr (q9 a b)<r*r)=decide (sqr (q9 a b)<r*r):=by grind
   rw[this]at h;exact h
def Pp(a b:Vc)(c:a.ok)(hb:b.ok)(st:Store)(R:Ja)(h:R (.agg (zr (q9 a b))) st):Jb 263 [.agg (zr a),.agg (zr b)] st R:=by refine Qy 16 func263 ?_;refine Qc zb ydm ?_;refine⟨za7 a.1 b.1 c.1 hb.1 _ _ ⟨Qe,?_⟩,O⟩;refine⟨za7 a.2 b.2 c.2 hb.2 _ _ ⟨Qe,?_⟩,O⟩;refine Qbw ?_;exact ret h
theorem zh2(n:Int):asz (nrm n)=asz n:=by unfold asz;rw[ylg]
def za9(v:Vc)(hv:v.ok)(st:Store)(R:Ja)(h:R (.agg (ji (sqr v))) st):Jb 262 [.agg (zr v)] st R:=by refine Qy 20 func262 ?_;have a1:=K1 hv.1;have a2:=K1 hv.2;have b:=M8 hv;refine Qc zb ydn ?_;refine⟨Hc v.1 _ _ ⟨Qe,?_⟩,O⟩;refine⟨ic (nrm v.1) (Ba hv.1) _ _ ⟨Qe,?_⟩,O⟩;refine⟨Hc v.2 _ _ ⟨Qe,?_⟩,O⟩;refine⟨ic (nrm v.2) (Ba hv.2) _ _ ⟨Qe,?_⟩,O⟩;rw[zh2,zh2];refine Qbw ?_;refine Qbw ?_;refine Pd (asz v.1) (asz v.1) Z Z Z Z _ _ ?_;refine Pd (asz v.2) (asz v.2) Z Z Z Z _ _ ?_;exact yg1 _ _ Z Z Z _ _ (ret h)
def za0(a b:Vc)(r:Int)(g:a.ok)(hb:b.ok)(e:yr r)(st:Store)(R:Ja)(h:R (bool (near a b r)) st):Jb 176 [.agg (zr a),.agg (zr b),int r] st R:=by
 refine Qy 21 func176 ?_;have hn:=Ba e;unfold near at h;have f:=M8 (I1 a b);refine Hc r _ _ ?_;refine bcd (λc=>?_) (λc=>?_)
 .refine ret (isF h ?_);grind[nrm]
 .have d:nrm r=r:=by unfold nrm at c⊢;omega
  refine Pp a b g hb _ _ ?_;refine za9 _ (I1 a b) _ _ ?_;refine((congrArg (λn=>Jb 264 [.s (.int .u64 n),.s (.int .u64 n)] st _) (show IntKind.u64.wrap (nrm r)=r by grind[kx])).mpr ?_);refine Pd r r Z Z Z Z _ _ ?_;refine zd5 _ _ ?_ (Fax Z Z) _ _ (ret ?_)
  .unfold sqr;omega
  .have:decide (0<r/\sqr (q9 a b)<r*r)=decide (sqr (q9 a b)<r*r):=by
    grind[sqr]
   rw[this]at h;exact h
def yn9(g:Gnd)(a:zt g)(t:Nat)(b:(t:Int)<g.W*g.H)(p:Vc)(f:qv p.1 p.2)(r:Int)(l:0<r/\r<=262144)(st:Store)(R:Ja)(h:R (bool (decide (jg g t p r))) st):
  Jb 276 [.agg (zq g),int t,.agg (zr p),int r] st R:=by
 have hb:=Dc a b;have hn:=ylt a b f l.1;have d:=Mx a b;have e:=Ga (t:=t) a.1.1;have hq2:=Gb (t:=t) a.1.1;have o:=a.1;have n:=a.2.1;have c:=f;unfold qv at c;refine Qy 41 func276 ?_;refine Qc zb ydg ?_;refine⟨Z,?_⟩;have k:yr ((t:Int).tmod g.W*65536):=by rw[e];unfold yr;omega
 have j:yr ((t:Int).tdiv g.W):=ψk;have i:yr ((t:Int).tdiv g.W*65536):=ψk;refine⟨k,?_⟩;refine⟨Z,?_⟩;refine⟨j,?_⟩;refine⟨i,?_⟩;refine Qbw ?_;refine Qbx ?_;have v:(t:Int).tmod g.W*65536=tx g t:=by rw[e];rfl
 have u:(t:Int).tdiv g.W*65536=ty g t:=by rw[hq2];rfl
 rw[v,u];refine Qd ?_;refine Qd ?_;have y:=dh (x:=p.1) d.1;have w:=dh (x:=p.2) d.2;refine Su p (Hy p.1 (tx g t),Hy p.2 (ty g t)) r ⟨⟨Z,Z⟩,⟨Z,Z⟩⟩ ⟨⟨Z,Z⟩,⟨Z,Z⟩⟩ Z _ _ (ret ?_);rw[hn];exact h
def zc2(x a:Int)(e:-1099511627776<=x/\x<=1099511627776)(d:0<=a/\a<=8323072)(st:Store)(R:Ja)(h:R (int (off x a)) st):Jb 259 [int x,int a,int (a+65536)] st R:=by
 refine Qy 19 func259 ?_;unfold off at h;refine bcd (λc=>?_) (λc=>?_)
 .refine Qd ?_;rw[if_pos c]at h;exact ret h
 rw[if_neg c]at h;refine bcd (λb=>?_) (λb=>?_)
 .refine Qd ?_;rw[if_pos b]at h;exact ret h
 rw[if_neg b]at h;exact ret h
def zdm(g:Gnd)(c:zt g)(t:Nat)(e:(t:Int)<g.W*g.H)(p:Vc)(y:qv p.1 p.2)(r:Int)(w:0<r/\r<=262144)(st:Store)(R:Ja)(h:R (bool (decide (jg g t p r))) st):
  Jb 175 [.agg (zq g),int t,.agg (zr p),int r] st R:=by
 have hb:=Dc c e;have d:=Mx c e;have f:=Ga (t:=t) c.1.1;have hq2:=Gb (t:=t) c.1.1;have B:=c.1;have A:=c.2.1;have b:=y;unfold qv at b;have v:=zc3 d.1 b.1;have u:=zc3 d.2 b.2;have hm:=yl7 v.1 u.1 w.1;refine Qy 56 func175 ?_;refine Qc zb yft ?_;refine⟨Z,?_⟩;have o:yr ((t:Int).tmod g.W*65536):=by rw[f];unfold yr;omega
 have n:yr ((t:Int).tdiv g.W):=ψk;have l:yr ((t:Int).tdiv g.W*65536):=ψk;refine⟨o,?_⟩;refine⟨Z,?_⟩;refine⟨n,?_⟩;refine⟨l,?_⟩;refine Qbw ?_;refine Qbx ?_;have D:(t:Int).tmod g.W*65536=tx g t:=by rw[f];rfl
 have C:(t:Int).tdiv g.W*65536=ty g t:=by rw[hq2];rfl
 rw[D,C];refine Qc zb yfs ?_;refine Qd ?_;refine Qd ?_;refine⟨zc2 p.1 (tx g t) b.1 d.1 _ _ ⟨Qe,?_⟩,O⟩;refine⟨zc2 p.2 (ty g t) b.2 d.2 _ _ ⟨O,?_⟩,O⟩;refine Qbx ?_;refine Qbx ?_;unfold jg at h;have no:¬(off p.1 (tx g t)<r/\off p.2 (ty g t)<r/\off p.1 (tx g t)*off p.1 (tx g t)+off p.2 (ty g t)*off p.2 (ty g t)<r*r)->R (bool false) st:=λz=>isF h (decide_eq_false λk=>z (hm.2 k));refine bcd (λj=>?_) (λj=>ret (no λk=>j k.1));refine bcd (λi=>?_) (λi=>ret (no λk=>i k.2.1));have I:=gj (a:=off p.1 (tx g t)) Z;have G:=gj (a:=off p.2 (ty g t)) Z;have E:=gj (a:=r) Z;refine Qd ?_;refine Qd ?_;refine Qd ?_;refine Qd ?_;exact ret h
def ysb(p:Vc)(r:Int)(st:Store)(R:Ja)(h:∀z:Bool,(z=true↔(0<=r/\r<=262144)/\qv p.1 p.2)->R (bool z) st):Jb 275 [.agg (zr p),int r] st R:=by
 refine Qy 15 func275 ?_;repeat' (first|refine bcd (λ_=>?_) (λ_=>?_)|refine zg (λ_=>?_) (λ_=>?_)|refine Qd ?_|(refine yko p _ _ ?_;rintro(_|_) a)|fail)
 all_goals
  refine ret (h _ ?_);simp only[decide_eq_true_eq,decide_eq_false_iff_not,Fan,false_iff,true_iff,beq_iff_eq,bne_iff_ne,beq_eq_false_iff_ne,ne_eq,reduceCtorEq,qv]at*;omega
def zbg(r:Int)(a:0<r/\r<=262144)(st:Store)(R:Ja)(h:R (int r) st):Jb 279 [int r] st R:=by
 refine Qy 6 func279 ?_;have e:min2 (max2 r 0) 262144=r:=by rw[min2_eq,max2_eq];omega
 rw[<-e]at h;exact ret h
def zh9(p:Vc)(r:Int)(q:Vc)(s:Int)(c:p.ok)(b:q.ok)(a:0<r/\r<=262144)(hs:0<s/\s<=262144)(st:Store)(R:Ja)(h:R (bool (wt p r q s)) st):
  Jb 189 [.agg (zr p),int r,.agg (zr q),int s] st R:=by
 refine Qy 18 func189 ?_;refine Qc zb yfo ?_;refine⟨zbg r a _ _ ⟨Qe,?_⟩,O⟩;refine⟨zbg s hs _ _ ⟨Qe,?_⟩,O⟩;refine Qd ?_;refine⟨Su p q (r+s) c b Z _ _ ⟨O,?_⟩,O⟩;exact⟨⟨O,ret h⟩,O⟩
def yjn(p:Vc)(r:Int)(q:Vc)(s:Int)(d:p.ok)(c:q.ok)(f:0<r/\r<=262144)(e:0<s/\s<=262144)(st:Store)(R:Ja)(h:R (bool (wt p r q s)) st):
  Jb 104 [.agg (zr p),int r,.agg (zr q),int s] st R:=by
 have b:max2 0 (min2 r 262144)=r:=by rw[min2_eq,max2_eq];omega
 have a:max2 0 (min2 s 262144)=s:=by rw[min2_eq,max2_eq];omega
 unfold wt at h;rw[<-b,<-a]at h;refine Qy 20 func104 ?_;refine ze (by rw[b,a];omega) ?_;exact za0 p q _ d c (by rw[b,a];exact⟨Z,Z⟩) _ _ (ret h)
def Qad{p:Prop}(h:p:=by grind):p:=h
def yt0(l:List Bld)(hl:Γ l<=1000000000000)(st:Store)(R:Ja)(h:∀z:Bool,(z=true↔Pv l)->R (bool z) st):Jb 265 [lst 6 zk l] st R:=by
 refine Qy 22 func265 ?_
 refine AWp.loop (σ:=Nat) ⟨λi=>[(0,.av (lst 6 zk l)),(3,.av (int (i)))],λ_=>[],
  λi c=>1<=i/\(i<=Γ l\/i=1)/\c=st/\∀j,(h:j<Γ l)->j<i->0<j->(l[j-1]'Z).id<l[j].id,λi=>Γ l-i⟩ zb ?_ ?_
 .exact⟨1,O,⟨Fai _,.inr rfl,rfl,λj _ d=>Z⟩,⟨Y,Y,O⟩,O⟩
 .rintro i c ⟨n,u,rfl,a⟩;refine zg (λe=>?_) (λe=>?_)
  .have b:i<Γ l:=ql e;refine Qc zb ydl ?_;refine Qd ?_;refine⟨i-1,Z,J _ (zm Z) ?_⟩;refine⟨i,rfl,J _ (zm b) ?_⟩;refine bcd (λt=>ret (h _ ?_)) (λt=>?_)
   .simp only[Fan,false_iff];intro p;have:=p i b Z;omega
   .refine Qd ?_;refine⟨i+1,?_,⟨Z,.inl b,rfl,λj d k g=>?_⟩,⟨Y,Y,O⟩,O⟩
    .show Γ l-(i+1)<Γ l-i;omega
    .by_cases f:j=i
     .subst f;omega
     .exact a j d Z g
  .have o:¬i<Γ l:=by
    rw[zj]at e;simpa using e
   refine ret (h _ ?_);simp only[true_iff];exact λj d k=>a j d Z k
def yh4(l:List Bld)(hl:Γ l<=1000000000000)(st:Store)(R:Ja)(h:∀z:Bool,(z=true↔Pv l)->R (bool z) st):Jb 169 [lst 6 zk l] st R:=by
 refine Qy 22 func169 ?_
 refine AWp.loop (σ:=Nat) ⟨λi=>[(0,.av (lst 6 zk l)),(3,.av (int (i)))],λ_=>[],
  λi c=>1<=i/\(i<=Γ l\/i=1)/\c=st/\∀j,(h:j<Γ l)->j<i->0<j->(l[j-1]'Z).id<l[j].id,λi=>Γ l-i⟩ zb ?_ ?_
 .exact⟨1,O,⟨Fai _,.inr rfl,rfl,λj _ d=>Z⟩,⟨Y,Y,O⟩,O⟩
 .rintro i c ⟨n,u,rfl,a⟩;refine zg (λe=>?_) (λe=>?_)
  .have b:i<Γ l:=ql e;refine Qc zb yfu ?_;refine⟨i,rfl,J _ (zm b) ?_⟩;refine Qd ?_;refine⟨i-1,Z,J _ (zm Z) ?_⟩;refine bcd (λt=>ret (h _ ?_)) (λt=>?_)
   .simp only[Fan,false_iff];intro p;have:=p i b Z;omega
   .refine Qd ?_;refine⟨i+1,?_,⟨Z,.inl b,rfl,λj d k g=>?_⟩,⟨Y,Y,O⟩,O⟩
    .show Γ l-(i+1)<Γ l-i;omega
    .by_cases f:j=i
     .subst f;omega
     .exact a j d Z g
  .have o:¬i<Γ l:=by
    rw[zj]at e;simpa using e
   refine ret (h _ ?_);simp only[true_iff];exact λj d k=>a j d Z k
def zdn(g:Gnd)(c:zt g)(a b:Bld)(d:yh a/\onP g a)(hb:yh b/\onP g b)(st:Store)(R:Ja)(h:∀z:Bool,(z=true↔vy a b)->R (bool z) st):Jb 173 [.agg (zk a),.agg (zk b)] st R:=by unfold yh onP at d hb;unfold vy at h;unfold zt at c;refine Qy 43 func173 ?_;refine Qd ?_;refine bcd (λi=>?_) (λi=>ret (h _ Qad));refine Qd ?_;refine bcd (λf=>?_) (λf=>ret (h _ Qad));refine Qd ?_;refine bcd (λe=>?_) (λe=>ret (h _ Qad));refine Qd ?_;exact ret (h _ Qad)
def zev(g:Gnd)(a:zt g)(b:Bld)(hb:yh b/\onP g b)(t:Nat)(d:(t:Int)<g.W*g.H)(st:Store)(R:Ja)(h:∀z:Bool,(z=true↔ve g b t)->R (bool z) st):
  Jb 256 [.agg (zq g),.agg (zk b),int t] st R:=by
 have c:=Dc a d;have f:=Ga (t:=t) a.1.1;have e:=Gb (t:=t) a.1.1;unfold yh onP at hb;unfold ve at h;have j:=a.1;have i:=a.2.1;refine Qy 45 func256 ?_;refine Qc zb ydq ?_;refine⟨Z,?_⟩;refine⟨Z,?_⟩;refine Qd ?_;refine Qbw ?_;refine Qbx ?_;rw[<-f]at h;refine bcd (λn=>?_) (λn=>ret (h _ Qad));refine Qd ?_;refine bcd (λl=>?_) (λl=>ret (h _ Qad));refine bcd (λk=>?_) (λk=>ret (h _ Qad));refine Qd ?_;exact ret (h _ Qad)
def zbo(g:Gnd)(f:zt g)(b:Bld)(hb:yh b/\onP g b)(st:Store)(R:Ja)(h:∀z:Bool,(z=true↔Fy g b)->R (bool z) st):
  Jb 172 [.agg (zq g),.agg (zk b)] st R:=by
 have hm:=qg f;refine Qy 35 func172 ?_
 refine AWp.loop (σ:=Nat) ⟨λi=>[(2,.bx 2 0),(3,.bx 3 0),(5,.av (int (i:Nat)))],λ_=>[(2,zq g),(3,zk b)],
  λi a=>i<=Γ g.T/\a=st/\∀t,t<i->ve g b t->(g.T.getD t 0).toNat<=1,λi=>Γ g.T-i⟩ zb ?_ ?_
 .exact⟨0,O,⟨Fae _,rfl,λt l=>Z⟩,Qbt,⟨rfl,rfl,O⟩⟩
 rintro i a ⟨v,rfl,j⟩;refine Qd ?_;refine bcd (λo=>?_) (λo=>?_);rotate_left
 .refine ret (h _ ?_);simp only[true_iff];intro t l;grind
 have c:i<Γ g.T:=Z;have next:(ve g b i->(g.T.getD i 0).toNat<=1)->∀t,t<i+1->ve g b t->(g.T.getD t 0).toNat<=1:=δ
 refine zev g f b hb i Z _ _ (λz k=>?_);cases z with
 |false=>
  refine Qd ?_;refine⟨i+1,?_,⟨Z,rfl,next λn=>δ⟩,Qbt,⟨rfl,rfl,O⟩⟩;grind
 |true=>
  refine⟨i,rfl,J _ (zm c) ?_⟩
  have fin:(g.T[i].toNat<=1)->∃s:Nat,Γ g.T-s<Γ g.T-i/\(s<=Γ g.T/\a=a/\∀t,t<s->ve g b t->(g.T.getD t 0).toNat<=1)/\s=i+1:=
   λn=>⟨i+1,Z,⟨Z,rfl,next λ_=>δ⟩,rfl⟩
  refine qd (λu=>?_) (λu=>?_)
  .refine⟨i,rfl,J _ (zm c) ?_⟩;refine qd (λp=>?_) (λp=>?_)
   .refine ret (h _ ?_);simp only[Fan,false_iff];intro hf;have:=hf i c (k.1 rfl);grind
   .obtain⟨s,e,d,rfl⟩:=fin Z;refine Qd ?_;exact⟨i+1,e,d,Qbt,⟨rfl,rfl,O⟩⟩
  .obtain⟨s,e,d,rfl⟩:=fin Z;refine Qd ?_;exact⟨i+1,e,d,Qbt,⟨rfl,rfl,O⟩⟩
def Vg(g:Gnd)(c:zt g)(b:Bld)(hb:yh b/\onP g b)(st:Store)(R:Ja)(h:R (yq (Bk g.W b)) st):Jb 269 [.agg (zq g),.agg (zk b)] st R:=by
 have d:=hb;unfold yh onP at d;have n:=c.1;have l:=c.2.1;refine Qy 35 func269 ?_
 refine AWp.loop (σ:=Nat×AV) ⟨λs=>[(2,.bx 2 0),(3,.bx 3 0),(4,.av s.2),(8,.av (int b.h)),(9,.av (int (s.1:Nat)))],λ_=>[(2,zq g),(3,zk b)],
  λs st'=>s.1<=b.h.toNat/\App 1 st s.2 (rws zx (Dy g.W b s.1)) st',λs=>b.h.toNat-s.1⟩ zb ?_ ?_
 .exact⟨(0,_),O,⟨Fae _,App.start 1 st⟩,⟨Y,Y,Y,Y,Y,O⟩,⟨rfl,rfl,O⟩⟩
 rintro⟨y,v⟩ st' ⟨k,f⟩;dsimp only at k f⊢;refine bcd (λp=>?_) (λp=>?_);rotate_left
 .have:y=b.h.toNat:=Z;subst this;exact⟨_,st,AV.le_trans f.le (Tt),f.has,h⟩
 refine AWp.loop (σ:=Nat×AV) ⟨λs=>[(2,.bx 2 0),(3,.bx 3 0),(4,.av s.2),(5,.av (int (y:Nat))),(8,.av (int b.h)),(9,.av (int (y:Nat))),(13,.av (int b.w)),(14,.av (int (s.1:Nat)))],λ_=>[(2,zq g),(3,zk b)],
  λs st'=>s.1<=b.w.toNat/\App 1 st s.2 (rws zx (Dy g.W b y++Dd g.W b y s.1)) st',λs=>b.w.toNat-s.1⟩ zb ?_ ?_
 .refine⟨(0,v),O,⟨Fae _,?_⟩,Qbt,⟨rfl,rfl,O⟩⟩;simp_all[Dd]
 rintro⟨x,v2⟩ st2 ⟨hx,a⟩;dsimp only at hx a⊢;refine bcd (λo=>?_) (λo=>?_);rotate_left
 .have:x=b.w.toNat:=Z;subst this;refine Qd ?_;refine⟨(y+1,v2),?_,⟨Z,?_⟩,Qbt,⟨rfl,rfl,O⟩⟩
  .grind
  grind[fx]
 obtain⟨u,t,_⟩:=Lk c (x:=b.x+x) (y:=b.y+y) Z Z;have hm:=qg c;refine Qd ?_;refine Qd ?_;refine Qd ?_;refine Qd ?_;refine⟨ψ,?_⟩;have hlen:(Dy g.W b y++Dd g.W b y x).length<=16:=by rw[Fad,fy,tt];have:y*b.w.toNat<=3*4:=Fc5 Z Z;omega
 refine Af (ie:=ti2) (rows':=[zx (b.x+(x:Int)+g.W*(b.y+(y:Int)))]) a ?_ ?_ ⟨?_,?_⟩ (λi j e=>?_)
 .rfl
 .rfl
 .simp only[zj,Fao,ti2];omega
 .grind[zj]
 refine Qd ?_;refine⟨(x+1,i),?_,⟨Z,?_⟩,Qbt,⟨rfl,rfl,O⟩⟩
 .grind
 .dsimp only;rw[zkz,<-Faq];unfold rws;rw[Fa8];exact e
section
variable {st:Store} {v:AV}
def zgg(n:Int)(hn:yr n)(st:Store)(R:Ja)(h:R (int (nrm n/131072)) st):Jb 360 [int n] st R:=by
 refine Qy 15 func360 ?_;refine Lz n _ _ ?_;have hb:=Ba hn;generalize nrm n=x at*;refine bcd (λa=>?_) (λa=>?_)
 .refine⟨⟨Z,Z⟩,?_⟩;refine⟨⟨Z,Z⟩,?_⟩;refine⟨ψ,?_⟩;have e:(0-x-1).tdiv 131072=(0-x-1)/131072:=Fat Z;rw[e];refine⟨⟨Z,Z⟩,?_⟩;refine⟨⟨Z,Z⟩,?_⟩;refine⟨⟨Z,Z⟩,?_⟩;rw[show x/131072=0-((0-x-1)/131072+1) by omega]at h;exact ret h
 .refine⟨ψ,?_⟩;have e:x.tdiv 131072=x/131072:=Fat Z;rw[e];exact⟨⟨Z,Z⟩,ret h⟩
def Hj(p:Vc)(a:p.ok)(st:Store)(R:Ja)(h:R (.agg [int (z7 p).1,int (z7 p).2]) st):Jb 272 [.agg (zr p)] st R:=by refine Qy 10 func272 ?_;refine Qc zb ydh ?_;refine⟨zgg p.1 a.1 _ _ ⟨Qe,?_⟩,O⟩;refine⟨zgg p.2 a.2 _ _ ⟨Qe,?_⟩,O⟩;refine Qbw ?_;exact ret h
def zg9(R:Ja)(h:∀a p,wv a p []->R (.s (.pointer (Δ ⟨p,0,Θ⟩))) a):Jb 183 [] Store.empty R:=by
 refine Qa (c:=cfg 5 [4] []) zb func183 ?_;refine Iy rfl (λf k=>?_);refine Iy rfl (λd i=>?_);intro p j;have l:d≠f:=λe=>by have:=i.1;rw[e,zd]at this;cases this
 have o:p≠d:=λe=>by have:=j.1;rw[e,zd]at this;cases this
 have n:p≠f:=λe=>by have:=j.1;simp_all[zi,zd]
 refine ret (h _ _ ⟨f,d,[],0,[],[],0,⟨zd _ _ _,?_,?_,Ne.symm l,(λg b=>(by cases b)),Fdy⟩,⟨Fdy,Fdy,(λg b=>(by cases b)),(λg b=>(by cases b)),(λg b=>(by cases b))⟩⟩)
 .simp_all[zi,Ne.symm,zd]
 simp_all[zi,Ne.symm,zd]
def zhk{a:List Int}(c:Ints st v a)(x:Int)(b:Γ a<4611686018427387904)(d:a.Pairwise (·<=·))(R:Ja)
  (h:R (.tup [int (a.countP (·<x):Nat),bool (a.contains x)]) st):Jb 273 [v,int x] st R:=
 ya3 Tryz.laysNm225 func273 rfl rfl c x b d h
def zgl{b a i j:Nat}{c:List Int}{L:List AV}(g:st.obj b=Δ (.cells (c.map aI++L)))
  (f:Γ c<=a) (e:a<=9223372036854775807) (d:i<=j) (k:j<=Γ c) (R:Ja)
  (h:R (.s (.slice (Δ ⟨b,0,Θ⟩) (c.take i++c.drop j).length a)) (st.sO b (.cells ((c.take i++c.drop j).map aI++(List.replicate (j-i) (aI 0)++L))))):
  Jb 359 [.s (.slice (Δ ⟨b,0,Θ⟩) (Γ c) a),int i,int j] st R:=
 ysd Tryz.laysNm223 func359 rfl rfl g f e d k h
def ng{a:List Int}(j:Ints st v a){e:Nat}(x:Int)(i:Nat)(k:i<=Γ a)
  (f:st.obj e=Δ (.cells [aI x])) (g:∀b c,v=.s (.slice (Δ ⟨b,0,Θ⟩) (Γ a) c)->b≠e) (d:(Γ a+1)*8<=140737488355328) (R:Ja)
  (h:∀b c L,(Fresh st b\/∃l,v=.s (.slice (Δ ⟨b,0,Θ⟩) (Γ a) l))->(a.take i++x::a.drop i).length<=c->c<=(a.take i++x::a.drop i).length+Γ L->c<=9223372036854775807->
   R (.s (.slice (Δ ⟨b,0,Θ⟩) (a.take i++x::a.drop i).length c)) (st.sO b (.cells ((a.take i++x::a.drop i).map aI++L)))):
  Jb 274 [v,int i,.s (.slice (Δ ⟨e,0,Θ⟩) 1 1)] st R:=
 yno Tryz.laysNm221 func274 rfl rfl j x i k f g d h
def o7{l:List Ent}{G:List Grp}(h:Inv l G):∀g∈G,Γ g.ns<=Γ l:=by
 intro g b;have f:=(h.s g b).1;have d:g.ns.Nodup:=f.imp λh e=>Z;have c:g.ns ⊆ l.map (·.1):=λid a=>by obtain⟨e,i,j,_⟩:=(h.m1 g b id).1 a;grind
 have:=Fbs d c;grind
def uu{a:List Int}(h:a.Pairwise (·<·)):a.Pairwise (·<=·):=h.imp λh=>Z
def zg8{a:Store}{p:Nat}{l:List Ent}(hc:wv a p l)(hl:Γ l<=1000000000)(ε:∀e∈l,e.2.ok)(id:Int)(R:Ja)
  (h:∀a',wv a' p (qz l id)->R (bool (l.find? (Bv id)).isSome) a'):Jb 271 [.s (.pointer (Δ ⟨p,0,Θ⟩)),int id] a R:=by
 obtain⟨ma,mi,n,I,G,d,H,u,hi⟩:=hc;refine Qy 60 func271 ?_;refine J _ u.hp ?_;refine Bi rfl (it:=ti385) (ie:=ti64) (ik:=ti2) rfl rfl rfl rfl u.ha rfl (qA id) (λe t=>?_) ?_
 .obtain⟨e,_,rfl⟩:=Fag.1 t;rfl
 rw[zfu];cases hf:l.find? (Bv id)with
 |none=>
  rw[hf]at h;refine ret (h a ?_);rw[yri hf];exact⟨ma,mi,n,I,G,d,H,u,hi⟩
 |some e=>
  rw[hf]at h;obtain⟨C,τ⟩:=bz hf;have B:e.1=id:=(by simpa [Bv]using τ:id=e.1).symm;refine Hj e.2 (ε e C) _ _ ?_;obtain⟨g,E,T⟩:=hi.m2 e C;have z:∃c,G.find? (Hz (z7 e.2))=Δ c:=by
   cases hx:G.find? (Hz (z7 e.2))with
   |some c=>simp
   |none=>grind[atKey_iff]
  obtain⟨c,z⟩:=z;have P:=bz z;have:c=g:=ynb hi.n2 E P.1 (by rw[T];exact atKey_iff.1 P.2);subst this;obtain⟨j,η,w⟩:=og z;obtain⟨k1,K,k3⟩:=u.hg c E;obtain⟨s1,s2⟩:=hi.s c E;have ι:id∈c.ns:=(hi.m1 c E id).2 ⟨e,C,B,T.symm⟩;obtain⟨d1,d2,d3⟩:=yse s1 ι;have hlen:=o7 hi c E;refine Qc zb ydj ?_;refine J (o:=a.obj p) _ u.hp ?_;refine⟨Bi rfl (it:=ti386) (ie:=ti63) (ik:=ti64) rfl rfl rfl rfl u.hi rfl (qG (z7 e.2).1 (z7 e.2).2) (λe t=>?_) ⟨Qe,?_⟩,O⟩
  .obtain⟨e,_,rfl⟩:=Fag.1 t;rfl
  rw[R7,z];refine Qbw ?_;refine zhk (.inr ⟨c.b,c.cap,c.L,rfl,k1,K⟩) id Z (uu s1) _ ?_;refine⟨⟨Z,Z⟩,?_⟩;refine zgl k1 K.1 K.2.2 (Nat.le_add_right _ 1) d1 _ ?_;generalize ο:c.ns.take (c.ns.countP λx=>decide (x<id))++c.ns.drop (c.ns.countP (λx=>decide (x<id))+1)=ns' at*;obtain⟨n1,X,n3⟩:=u.g_ne E;have mid:=u.mid (.cells (ns'.map aI++(List.replicate (c.ns.countP (λx=>decide (x<id))+1-c.ns.countP (λx=>decide (x<id))) (aI 0)++c.L))) n3 n1 X;rw[show c.ns.countP (λx=>decide (x<id))+1-c.ns.countP (λx=>decide (x<id))=1 by omega]at mid⊢;have π:Γ ns'+1=Γ c.ns:=δ;obtain⟨v1,v2⟩:=ynh hi C w T d2 δ;obtain⟨i,M,ν⟩:=og hf;have ς:(l.map Bg).eraseIdx i=(qz l id).map Bg:=by rw[ci,yq4 hi.n1 ν,B]
  refine zp (λhz=>?_) (λhz=>?_)
  .have D:ns'=[]:=Fa2 Z;refine Qc zb ydi ?_;refine J (o:=(a.sO c.b _).obj p) _ mid.hp ?_;refine⟨ed rfl rfl rfl rfl (it:=ti386) (ik:=ti64) rfl rfl rfl mid.hi rfl (qG (z7 e.2).1 (z7 e.2).2) (λe t=>?_) ⟨Qe,?_⟩,O⟩
   .obtain⟨e,_,rfl⟩:=Fag.1 t;rfl
   have A:=mid.setI (G':=G.eraseIdx j) (d.eraseIdx j) H (λQ h1=>.inl ?_) (mid.nd.sublist ((List.eraseIdx_sublist ..).map _));rotate_left
   .obtain⟨W,q2⟩:=(Wv (f:=Grp.key) hi.n2 w).1 h1;refine⟨W,λe=>q2 ?_⟩;obtain⟨i1,M⟩:=Fa6.1 W;have:=Gj (f:=λg:Grp=>g.b) u.nd M w e;grind
   have V:Fs (G.map Bf) d H (qG (z7 e.2).1 (z7 e.2).2)=.map ((G.eraseIdx j).map Bf) (d.eraseIdx j) H:=by grind[Fs,cd,ci]
   rw[V];refine J _ A.hp ?_;refine ed rfl rfl rfl rfl (it:=ti385) (ik:=ti2) rfl rfl rfl A.ha rfl (qA id) (λe t=>?_) ?_
   .obtain⟨e,_,rfl⟩:=Fag.1 t;rfl
   have e2:Fs (l.map Bg) n I (qA id)=.map ((qz l id).map Bg) (n.eraseIdx i) I:=by grind[Fs,ce]
   rw[e2];have S:=A.setA (qz l id) (n.eraseIdx i) I;rw[B]at v1;exact ret (h _ ⟨ma,mi,_,_,_,_,_,S,v1 D⟩)
  .have D:ns'≠[]:=λe=>by grind
   refine Qc zb ydk ?_;refine J (o:=(a.sO c.b _).obj p) _ mid.hp ?_;refine⟨F6 (.inl rfl) rfl (it:=ti386) (ik:=ti64) rfl rfl rfl mid.hi rfl rfl (qG (z7 e.2).1 (z7 e.2).2) (λe t=>?_) (λV t hq=>?_) ⟨Qe,?_⟩,O⟩
   .obtain⟨e,_,rfl⟩:=Fag.1 t;rfl
   .obtain⟨Q,_,rfl⟩:=Fag.1 t;have:=(atKey_iff (k:=z7 e.2) (g:=Q)).1 hq;show AV.agg [int Q.x,int Q.y]=_;rw[<-this];rfl
   let U:Grp:=⟨c.x,c.y,ns',c.b,c.cap,List.replicate 1 (aI 0)++c.L⟩
   have V:Aa (G.map Bf) d H (qG (z7 e.2).1 (z7 e.2).2) (.agg [int (z7 e.2).1,int (z7 e.2).2]) (.s (.slice (Δ ⟨c.b,0,Θ⟩) (Γ ns') c.cap))=.map ((G.set j U).map Bf) d H:=by
    unfold Aa;rw[cd,η,List.map_set];simp only
    congr 2
    show _=(AV.agg [int c.x,int c.y],_)
    rw[<-T];rfl
   have A:=mid.setI (G':=G.set j U) d H (λQ h1=>?_) (by rw[mn (λg:Grp=>g.b) (g':=U) w rfl];exact mid.nd);rotate_left
   .rcases(Gk (f:=λg:Grp=>g.b) u.nd w).1 h1 with rfl|⟨W,q2⟩
    .refine .inr ⟨zd _ _ _,⟨?_,?_,K.2.2⟩,k3⟩
     .show Γ ns'<=c.cap;have:=K.1;omega
     .have:=K.2.1;grind
    grind
   rw[<-V]at A;refine J _ A.hp ?_;refine ed rfl rfl rfl rfl (it:=ti385) (ik:=ti2) rfl rfl rfl A.ha rfl (qA id) (λe t=>?_) ?_
   .obtain⟨e,_,rfl⟩:=Fag.1 t;rfl
   have e2:Fs (l.map Bg) n I (qA id)=.map ((qz l id).map Bg) (n.eraseIdx i) I:=by grind[Fs,ce]
   rw[e2];have S:=A.setA (qz l id) (n.eraseIdx i) I;rw[B]at v2;exact ret (h _ ⟨ma,mi,_,_,_,_,_,S,v2 D U rfl rfl⟩)
end
theorem cm{l:List Ent}{id:Int}:∀e∈qz l id,e.1≠id:=λe a=>(mem_dropId.1 a).2
def yrj(l:List Ent)(id:Int):(qz l id).length<=Γ l:=Fbl _ _
def ytq{a:Store}{p:Nat}{l:List Ent}(K:wv a p l)(hl:Γ l<=1000000000)(ε:∀e∈l,e.2.ok)(id:Int)(pos:Vc)(D:pos.ok)(R:Ja)
  (h:∀a',wv a' p (qz l id++[(id,pos)])->R (.tup []) a'):Jb 184 [.s (.pointer (Δ ⟨p,0,Θ⟩)),int id,.agg (zr pos)] a R:=by
 refine Qa (c:=cfg 46 [38,1000038] []) zb func184 ?_;refine zg8 K hl ε id _ (λa1 η=>?_);obtain⟨ma,Q,j,u,G,ο,c2,n,H⟩:=η;refine Hj pos D _ _ ?_;obtain⟨τ,ns,z,e2,e3,e4,e5,e6⟩:=yj9 (pos:=pos) n H cm;have ν:Γ ns<=1000000000:=by
  rcases e4 with rfl|⟨g,hg,rfl⟩
  .simp
  .have h1:=o7 H g hg;have h2:=yrj l id;omega
 have E:=ysq id ns;refine Qc zb yfr ?_;refine J (o:=a1.obj p) _ n.hp ?_;refine⟨Bi rfl (it:=ti386) (ie:=ti63) (ik:=ti64) rfl rfl rfl rfl n.hi rfl (qG (z7 pos).1 (z7 pos).2) (λe d=>?_) ⟨Qe,?_⟩,O⟩
 .obtain⟨e,_,rfl⟩:=Fag.1 d;rfl
 rw[R7,show Fc ti63=.s (.slice Θ 0 0)from rfl,z];refine⟨zhk e2 id Z (uu e3) _ ⟨Qe,?_⟩,O⟩;refine Qbw ?_;refine Qbw ?_;refine Qc zb yfq ?_;refine J (o:=a1.obj p) _ n.hp ?_;refine J (o:=a1.obj p) _ n.hp ?_;refine⟨Bi rfl (it:=ti386) (ie:=ti63) (ik:=ti64) rfl rfl rfl rfl n.hi rfl (qG (z7 pos).1 (z7 pos).2) (λe d=>?_) ⟨?_,?_⟩,?_⟩
 .obtain⟨e,_,rfl⟩:=Fag.1 d;rfl
 .repeat(first|exact O|refine⟨rfl,?_⟩|refine⟨J (o:=a1.obj p) _ n.hp rfl,?_⟩)
 .rw[R7,show Fc ti63=.s (.slice Θ 0 0)from rfl,z];refine⟨⟨ψ,λA f=>?_⟩,O⟩;have v:=(n.fresh (.cells [aI id]) f).hp;refine⟨?_,?_⟩
  .repeat(first|exact O|refine⟨rfl,?_⟩|refine⟨J (o:=(a1.sO A (.cells [aI id])).obj p) _ v rfl,?_⟩)
  refine⟨ng (e2.fresh _ f) id _ E (zd _ _ _) (λb i K d=>e5 b i K (d▸f.1)) Z _ (λb i L q1 q2 X W=>?_),O⟩;obtain⟨V,U,G',P,ι,T,w,S⟩:=e6 A _ b i L f q1 q2 X W;refine⟨?_,?_⟩
  .repeat(first|exact O|refine⟨rfl,?_⟩|refine⟨J (o:=Store.obj (Store.sO _ b _) p) _ U rfl,?_⟩)
  refine⟨F6 (.inl rfl) rfl (it:=ti386) (ik:=ti64) rfl rfl rfl V rfl rfl (qG (z7 pos).1 (z7 pos).2) (λe d=>?_) (λz d B=>?_) ⟨Qe,?_⟩,O⟩
  .obtain⟨e,_,rfl⟩:=Fag.1 d;rfl
  .obtain⟨t,_,rfl⟩:=Fag.1 d;have:=(atKey_iff (k:=z7 pos) (g:=t)).1 B;show AV.agg [int t.x,int t.y]=_;rw[<-this];rfl
  rw[T];refine Qc zb zat ?_;refine J (o:=Store.obj (Store.sO _ Q _) p) _ w.hp ?_;refine⟨F6 (.inl rfl) rfl (it:=ti385) (ik:=ti2) rfl rfl rfl w.ha rfl rfl (qA id) (λe d=>?_) (λz d B=>?_) ⟨Qe,?_⟩,O⟩
  .obtain⟨e,_,rfl⟩:=Fag.1 d;rfl
  .obtain⟨t,I,rfl⟩:=Fag.1 d;grind[qA,Bg,int]
  have e7:Aa ((qz l id).map Bg) j u (qA id) (int id) (.agg (zr pos))=.map ((qz l id++[(id,pos)]).map Bg) (j++[u]) (u+1):=by
   unfold Aa;have:(qz l id).findIdx? (Bv id)=Θ:=by rw[Fbx];intro e d;grind[cm,Bv]
   rw[ce,this,Fa8];rfl
  have C:=w.setA (qz l id++[(id,pos)]) (j++[u]) (u+1);rw[<-e7]at C;exact ret (h _ ⟨ma,Q,_,_,G',_,_,C,S⟩)
 .refine⟨⟨ψ,λA f=>?_⟩,O⟩;have M:=n.fresh (.cells [aI id]) f;have v:=M.hp;refine⟨?_,?_⟩
  .repeat(first|exact O|refine⟨rfl,?_⟩|refine⟨J (o:=(a1.sO A (.cells [aI id])).obj p) _ v rfl,?_⟩)
  refine⟨Bi rfl (it:=ti386) (ie:=ti63) (ik:=ti64) rfl rfl rfl rfl M.hi rfl (qG (z7 pos).1 (z7 pos).2) (λe d=>?_) ⟨?_,?_⟩,O⟩
  .obtain⟨e,_,rfl⟩:=Fag.1 d;rfl
  .repeat(first|exact O|refine⟨rfl,?_⟩|refine⟨J (o:=(a1.sO A (.cells [aI id])).obj p) _ v rfl,?_⟩)
  rw[R7,show Fc ti63=.s (.slice Θ 0 0)from rfl,z];refine⟨ng (e2.fresh _ f) id _ E (zd _ _ _) (λb i K d=>e5 b i K (d▸f.1)) Z _ (λb i L q1 q2 X W=>?_),O⟩;obtain⟨V,U,G',P,ι,T,w,S⟩:=e6 A _ b i L f q1 q2 X W;refine⟨?_,?_⟩
  .repeat(first|exact O|refine⟨rfl,?_⟩|refine⟨J (o:=Store.obj (Store.sO _ b _) p) _ U rfl,?_⟩)
  refine⟨F6 (.inl rfl) rfl (it:=ti386) (ik:=ti64) rfl rfl rfl V rfl rfl (qG (z7 pos).1 (z7 pos).2) (λe d=>?_) (λz d B=>?_) ⟨Qe,?_⟩,O⟩
  .obtain⟨e,_,rfl⟩:=Fag.1 d;rfl
  .obtain⟨t,_,rfl⟩:=Fag.1 d;have:=(atKey_iff (k:=z7 pos) (g:=t)).1 B;show AV.agg [int t.x,int t.y]=_;rw[<-this];rfl
  rw[T];refine Qc zb zat ?_;refine J (o:=Store.obj (Store.sO _ Q _) p) _ w.hp ?_;refine⟨F6 (.inl rfl) rfl (it:=ti385) (ik:=ti2) rfl rfl rfl w.ha rfl rfl (qA id) (λe d=>?_) (λz d B=>?_) ⟨Qe,?_⟩,O⟩
  .obtain⟨e,_,rfl⟩:=Fag.1 d;rfl
  .obtain⟨t,I,rfl⟩:=Fag.1 d;have:id=t.1:=by simpa [qA,Bg,int]using B
   exact absurd this.symm (cm t I)
  have e7:Aa ((qz l id).map Bg) j u (qA id) (int id) (.agg (zr pos))=.map ((qz l id++[(id,pos)]).map Bg) (j++[u]) (u+1):=by
   unfold Aa;have:(qz l id).findIdx? (Bv id)=Θ:=by rw[Fbx];intro e d;have:=cm e d;simp[Bv];exact λh=>this h.symm
   rw[ce,this,Fa8];rfl
  have C:=w.setA (qz l id++[(id,pos)]) (j++[u]) (u+1);rw[<-e7]at C;exact ret (h _ ⟨ma,Q,_,_,G',_,_,C,S⟩)
def ptr(b:Nat):AV:=.s (.pointer (Δ ⟨b,0,Θ⟩))
def tu{F N:Store}(w:zl F N){p:Nat}{l:List Ent}(W:wv F p l){A u t f:Nat}{q:Vc}{r:Int}{v:AV}{a:List Int}(c:NearAt N A u t f p q r v a)(V:q.ok)(U:r<=9223372036854775807)
  {e:Ent} (C:l.find? (Bv e.1)=Δ e) (B:e.2.ok) (n:Γ a<=1000000000000) (R:Ja)
  (h:∀M P,zl F M->NearAt M A u t f p q r P (if near q e.2 r then a++[e.1]else a)->R (.tup []) (F.un M)):
  Jb 365 [int e.1,ptr u,ptr A,ptr t,ptr f] (F.un N) R:=by
 obtain⟨ma,mi,η,c1,G,ε,c2,H,hi⟩:=W;refine Qy 19 func365 ?_;refine Qc zb yb0 ?_;refine J (o:=(F.un N).obj u) _ (zh c.h4) ?_;refine J (o:=(F.un N).obj A) _ (zh c.h3) ?_;refine J (o:=(F.un N).obj p) _ (yf w H.hp) ?_;refine J (o:=(F.un N).obj t) _ (zh c.h5) ?_;refine⟨Bi rfl (it:=ti385) (ie:=ti64) (ik:=ti2) rfl rfl rfl rfl (yf w H.ha) rfl (qA e.1) (λe C=>?_) ⟨?_,?_⟩,O⟩
 .obtain⟨e,_,rfl⟩:=Fag.1 C;rfl
 .repeat(first|exact O|refine⟨rfl,?_⟩|refine⟨J (o:=(F.un N).obj u) _ (zh c.h4) rfl,?_⟩|refine⟨J (o:=(F.un N).obj t) _ (zh c.h5) rfl,?_⟩)
 rw[zfu,C];refine⟨Su q e.2 r V B U _ _ ⟨O,?_⟩,O⟩;cases hn:near q e.2 r with
 |false=>
  rw[hn]at h;exact ret (h N v w c)
 |true=>
  rw[hn]at h;refine J (o:=(F.un N).obj f) _ (zh c.h6) ?_;refine⟨ψ,?_⟩;refine dw (ie:=ti2) rfl rfl rfl c.hv.un e.1 n (λb k L d T S Q=>?_);have g:Fresh N b\/∃z,v=.s (.slice (Δ ⟨b,0,Θ⟩) (Γ a) z):=d.imp (λh=>(fresh_un h).2) id;have I:=c.app g T S Q;rw[z8];have E:zl F (N.sO b (.cells ((a++[e.1]).map aI++L))):=by
   rcases d with d|⟨z,d⟩
   .exact disj_setR w (fresh_un d).1
   .rcases c.hv with⟨X,_⟩|⟨b',_,_,X,h2,_⟩
    .grind
    grind[Oq]
  have D:=Oq (x:=.cells [.s (.slice (Δ ⟨b,0,Θ⟩) (a++[e.1]).length k)]) E (b:=f) (y:=.cells [v]) (by
   have j:f≠b:=by
    rcases g with d|⟨z,d⟩
    .exact Ne.symm (d.ne_obj c.h6)
    .exact Ne.symm (c.nv b _ _ d).2.2.2
   rw[zi j];exact c.h6)
  have K:(N.sO b (.cells ((a++[e.1]).map aI++L))).obj f=Δ (.cells [v]):=by
   have j:f≠b:=by
    rcases g with d|⟨z,d⟩
    .exact Ne.symm (d.ne_obj c.h6)
    .exact Ne.symm (c.nv b _ _ d).2.2.2
   rw[zi j];exact c.h6
  refine yu (i:=ti63) (v:=.s (.slice (Δ ⟨b,0,Θ⟩) (a++[e.1]).length k)) (b:=f) (o:=0) (l:=[v]) (st2:=F.un ((N.sO b (.cells ((a++[e.1]).map aI++L))).sO f (.cells [.s (.slice (Δ ⟨b,0,Θ⟩) (a++[e.1]).length k)]))) rfl rfl rfl (zh K) (Fai _) ?_ ?_
  .rw[z8];rfl
  .exact ret (h _ _ D I)
def Qae{p:Prop}(h:p:=by repeat(first|exact O|refine⟨rfl,?_⟩|refine⟨J (o:=(F.un N0).obj b4) _ (zh hN0.h4) rfl,?_⟩|refine⟨J (o:=(F.un N0).obj b5) _ (zh hN0.h5) rfl,?_⟩)):p:=h
def yai{d:Store}{b e:Nat}{c:List Int}{L:List AV}(f:d.obj b=Δ (.cells (c.map aI++L)))(a:Γ c<4611686018427387904)(R:Ja)
  (h:R (.tup []) (d.sO b (.cells ((c.mergeSort λx y=>decide (x<=y)).map aI++L)))):Jb 368 [.s (.slice (Δ ⟨b,0,Θ⟩) (Γ c) e)] d R:=
 yal Tryz.lays189 func368 rfl rfl f a h
def yaj{st:Store}(R:Ja)(h:R (.tup []) st):Jb 368 [.s (.slice Θ 0 0)] st R:=
 yak Tryz.lays189 func368 rfl rfl h
def I3(d c b a:Nat):AV:=.clos 365 [ptr c,ptr d,ptr b,ptr a]
def ytr{F:Store}{p:Nat}{l:List Ent}(hc:wv F p l)(hl:Γ l<=1000000000)(υ:∀e∈l,e.2.ok){q:Vc}(X:q.ok){r:Int}(hr:yr r)(R:Ja)
  (h:∀F' N v V,wv F' p l->zl F' N->Ints N v V->Sq l q r V->R v (F'.un N)):Jb 277 [ptr p,.agg (zr q),int r] F R:=by
 refine Qb (c:=cfg 126 [3,4,5,6] []) zb func277 ?_;refine AWp.seq (AWp.of_vc zb ?_);intro u hb3 b4 hb4 b5 ο k Q;have n43:b4≠u:=λe=>by have:=hb4.1;rw[e,zd]at this;cases this
 have n54:b5≠b4:=λe=>by have:=ο.1;rw[e,zd]at this;cases this
 have n53:b5≠u:=λe=>by have:=ο.1;simp_all[zi,zd]
 have n65:k≠b5:=λe=>by have:=Q.1;rw[e,zd]at this;cases this
 have n64:k≠b4:=λe=>by have:=Q.1;simp_all[zi,zd]
 have n63:k≠u:=λe=>by have:=Q.1;simp_all[zi,zd]
 have est:(((F.sO u (.cells [ptr p])).sO b4 (.cells (zr q))).sO b5 (.cells [int r])).sO k (.cells [.s (.slice Θ 0 0)])=
   F.un ((((Store.empty.sO u (.cells [ptr p])).sO b4 (.cells (zr q))).sO b5 (.cells [int r])).sO k (.cells [.s (.slice Θ 0 0)])):=by
  rw[<-z8,<-z8,<-z8,<-z8,Dx]
 have f3:Fresh F u:=hb3;have f4:Fresh F b4:=by have:=hb4;rw[<-Dx F,z8]at this;exact(fresh_un this).1
 have f5:Fresh F b5:=by have:=ο;rw[<-Dx F,z8,z8]at this;exact(fresh_un this).1
 have f6:Fresh F k:=by have:=Q;rw[<-Dx F,z8,z8,z8]at this;exact(fresh_un this).1
 have hN0:NearAt ((((Store.empty.sO u (.cells [ptr p])).sO b4 (.cells (zr q))).sO b5 (.cells [int r])).sO k (.cells [.s (.slice Θ 0 0)])) u b4 b5 k p q r (.s (.slice Θ 0 0)) []:=by
  refine⟨?_,?_,?_,zd _ _ _,.inl ⟨rfl,rfl⟩,Ne.symm n63,Ne.symm n64,Ne.symm n65,λb n ι e=>by cases e⟩
  .rw[zi (Ne.symm n63),zi (Ne.symm n53),zi (Ne.symm n43)];exact zd _ _ _
  .simp_all[zi,Ne.symm,zd]
  simp_all[zi,Ne.symm,zd]
 have U:zl F ((((Store.empty.sO u (.cells [ptr p])).sO b4 (.cells (zr q))).sO b5 (.cells [int r])).sO k (.cells [.s (.slice Θ 0 0)])):=
  disj_setR (disj_setR (disj_setR (disj_setR (yr4 F) f3) f4) f5) f6
 show AWp _ _ _ _ _ ((((F.sO u (.cells [ptr p])).sO b4 (.cells (zr q))).sO b5 (.cells [int r])).sO k (.cells [.s (.slice Θ 0 0)]));rw[est];generalize((((Store.empty.sO u (.cells [ptr p])).sO b4 (.cells (zr q))).sO b5 (.cells [int r])).sO k (.cells [.s (.slice Θ 0 0)]))=N0 at*;clear est hb3 hb4 ο Q;refine AWp.seq (AWp.of_vc zb ?_);refine J (o:=(F.un N0).obj b5) _ (zh hN0.h5) ?_;refine bcd (λc1=>?_) (λc1=>?_)
 .refine xh (i:=ti63) (v:=.s (.slice Θ 0 0)) (b:=k) (o:=0) (l:=[.s (.slice Θ 0 0)]) rfl rfl rfl (zh hN0.h6) (Fai _) ?_;refine J (o:=Store.obj (Store.sO _ k _) k) _ (zd _ _ _) ?_;refine ret ?_;rw[z8];refine h F _ _ [] hc (Oq U hN0.h6) (.inl ⟨rfl,rfl⟩) ⟨List.Pairwise.nil,λid=>⟨(λh=>ω),λ⟨e,_,_,hn⟩=>?_⟩⟩;unfold near at hn;grind
 refine AWp.seq (AWp.of_vc zb ?_);have hr0:0<r:=Z;have ν:r<=9223372036854775807:=hr.2;have sub_q1:=Kr q.1 r;have sub_q2:=Kr q.2 r;have add_q1:=cg q.1 r;have add_q2:=cg q.2 r
 refine AWp.meet (σ:=Unit) ⟨λ_=>[(3,.av (ptr u)),(4,.av (ptr b4)),(5,.av (ptr b5)),(6,.av (ptr k)),(7,.av (I3 u b4 b5 k)),(8,.bx 8 0)],λ_=>[(8,[int (z7 (qh q.1 r,qh q.2 r)).1,int (z7 (qh q.1 r,qh q.2 r)).2])],
  λ_ d=>d=F.un N0⟩ zb ?_ ?_
 .refine Qc zb ydf ?_;refine J (o:=(F.un N0).obj b4) _ (zh hN0.h4) ?_;refine J (o:=(F.un N0).obj b5) _ (zh hN0.h5) ?_;refine J (o:=(F.un N0).obj b4) _ (zh hN0.h4) ?_;refine J (o:=(F.un N0).obj b5) _ (zh hN0.h5) ?_;refine⟨I7 q.1 r X.1 hr _ _ ⟨Qae,⟨I7 q.2 r X.2 hr _ _ ⟨Qae,⟨Hj (qh q.1 r,qh q.2 r) ⟨sub_q1,sub_q2⟩ _ _ ⟨Qae,⟨⟨Qae,⟨⟨Qae,?_⟩,O⟩⟩,O⟩⟩,⟨⟨Qae,⟨Hj (qh q.1 r,qh q.2 r) ⟨sub_q1,sub_q2⟩ _ _ ⟨Qae,⟨⟨Qae,?_⟩,O⟩⟩,O⟩⟩,O⟩⟩⟩,⟨⟨Qae,⟨I7 q.2 r X.2 hr _ _ ⟨Qae,⟨Hj (qh q.1 r,qh q.2 r) ⟨sub_q1,sub_q2⟩ _ _ ⟨Qae,⟨⟨Qae,?_⟩,O⟩⟩,O⟩⟩,O⟩⟩,O⟩⟩⟩,⟨⟨Qae,⟨I7 q.1 r X.1 hr _ _ ⟨Qae,⟨I7 q.2 r X.2 hr _ _ ⟨Qae,⟨Hj (qh q.1 r,qh q.2 r) ⟨sub_q1,sub_q2⟩ _ _ ⟨Qae,⟨⟨Qae,?_⟩,O⟩⟩,O⟩⟩,O⟩⟩,O⟩⟩,O⟩⟩;all_goals exact⟨(),rfl,Qbt,⟨rfl,O⟩⟩
 rintro _ _ rfl
 refine AWp.meet (σ:=Unit) ⟨λ_=>[(3,.av (ptr u)),(6,.av (ptr k)),(7,.av (I3 u b4 b5 k)),(8,.bx 8 0),(9,.bx 9 0)],λ_=>[(8,[int (z7 (qh q.1 r,qh q.2 r)).1,int (z7 (qh q.1 r,qh q.2 r)).2]),(9,[int (z7 (qs q.1 r,qs q.2 r)).1,int (z7 (qs q.1 r,qs q.2 r)).2])],
  λ_ d=>d=F.un N0⟩ zb ?_ ?_
 .refine Qc zb yde ?_;refine J (o:=(F.un N0).obj b4) _ (zh hN0.h4) ?_;refine J (o:=(F.un N0).obj b5) _ (zh hN0.h5) ?_;refine J (o:=(F.un N0).obj b4) _ (zh hN0.h4) ?_;refine J (o:=(F.un N0).obj b5) _ (zh hN0.h5) ?_;refine⟨K6 q.1 r X.1 hr _ _ ⟨Qae,⟨K6 q.2 r X.2 hr _ _ ⟨Qae,⟨Hj (qs q.1 r,qs q.2 r) ⟨add_q1,add_q2⟩ _ _ ⟨Qae,⟨⟨Qae,⟨⟨Qae,?_⟩,O⟩⟩,O⟩⟩,⟨⟨Qae,⟨Hj (qs q.1 r,qs q.2 r) ⟨add_q1,add_q2⟩ _ _ ⟨Qae,⟨⟨Qae,?_⟩,O⟩⟩,O⟩⟩,O⟩⟩⟩,⟨⟨Qae,⟨K6 q.2 r X.2 hr _ _ ⟨Qae,⟨Hj (qs q.1 r,qs q.2 r) ⟨add_q1,add_q2⟩ _ _ ⟨Qae,⟨⟨Qae,?_⟩,O⟩⟩,O⟩⟩,O⟩⟩,O⟩⟩⟩,⟨⟨Qae,⟨K6 q.1 r X.1 hr _ _ ⟨Qae,⟨K6 q.2 r X.2 hr _ _ ⟨Qae,⟨Hj (qs q.1 r,qs q.2 r) ⟨add_q1,add_q2⟩ _ _ ⟨Qae,⟨⟨Qae,?_⟩,O⟩⟩,O⟩⟩,O⟩⟩,O⟩⟩,O⟩⟩;all_goals exact⟨(),rfl,Qbt,⟨rfl,rfl,O⟩⟩
 rintro _ _ rfl;have hab:=yit X hr0 ν;have hA:=zhc (p:=(qh q.1 r,qh q.2 r)) ⟨Kr _ _,Kr _ _⟩;have hB:=zhc (p:=(qs q.1 r,qs q.2 r)) ⟨cg _ _,cg _ _⟩;have hrect:∀e∈l,near q e.2 r=true->_:=λe C hn=>ylr X (υ e C) hr0 ν hn;generalize z7 (qh q.1 r,qh q.2 r)=A0 at*;generalize z7 (qs q.1 r,qs q.2 r)=B0 at*;obtain⟨ax,ay⟩:=A0;obtain⟨D,B⟩:=B0;dsimp only at hab hA hB hrect⊢;refine AWp.meetA (σ:=Store×Store×AV×List Int) ⟨λ_=>[(6,.av (ptr k))],λ_=>[],λs d=>d=s.1.un s.2.1/\zl s.1 s.2.1/\wv s.1 p l/\NearAt s.2.1 u b4 b5 k p q r s.2.2.1 s.2.2.2/\NearIn l q r (λ_=>True) s.2.2.2⟩ ?_ ?_
 .obtain⟨ma,mi,I,z,G,bs2,cl2,P,hi⟩:=hc;have hgl:(G.map Bf).length<=Γ l:=by rw[Fas];exact yon hi
  have slots:∀b:Bool,LV.le (.av (bool b)) (.av (bool b)):=λb=>Y;refine AWp.seq (AWp.of_vc zb ?_);refine J (o:=(F.un N0).obj u) _ (zh hN0.h3) ?_;refine J (o:=(F.un N0).obj p) _ (yf U P.hp) ?_;refine J (o:=(F.un N0).obj mi) _ (yf U P.hi) ?_;refine⟨⟨Z,Z⟩,?_⟩
  refine AWp.meet (σ:=Bool) ⟨λb=>[(3,.av (ptr u)),(6,.av (ptr k)),(7,.av (I3 u b4 b5 k)),(8,.bx 8 0),(9,.bx 9 0),(77,.av (bool b))],λ_=>[(8,[int ax,int ay]),(9,[int D,int B])],
   λb d=>d=F.un N0⟩ zb ?_ ?_
  .refine⟨⟨Z,Z⟩,?_⟩;refine bcd (λd1=>?_) (λd1=>?_)
   .exact⟨true,rfl,Qbt,⟨rfl,rfl,O⟩⟩
   refine⟨⟨Z,Z⟩,?_⟩;refine bcd (λd2=>?_) (λd2=>?_)
   .exact⟨true,rfl,Qbt,⟨rfl,rfl,O⟩⟩
   have m1:(D-ax+1)*(B-ay+1)<=1000000002*1000000002:=Fa9 Z Z Z ψ;have m0:0<=(D-ax+1)*(B-ay+1):=Fax Z Z;refine⟨⟨Z,Z⟩,?_⟩;refine⟨⟨Z,Z⟩,?_⟩;refine⟨⟨Z,Z⟩,?_⟩;refine⟨⟨Z,Z⟩,?_⟩;refine⟨⟨Z,Z⟩,?_⟩;exact⟨_,rfl,⟨Y,Y,Y,Y,Y,Y,O⟩,⟨rfl,rfl,O⟩⟩
  rintro b _ rfl;refine AWp.of_vc zb ?_;cases b with
  |true=>
   refine J (o:=(F.un N0).obj u) _ (zh hN0.h3) ?_;refine J (o:=(F.un N0).obj p) _ (yf U P.hp) ?_;refine yva (yf U P.ha) (λhst=>?_);refine yvc rfl (it:=ti385) rfl rfl (yf U P.ha) (λbi hbi=>?_);have fbi:=fresh_un hbi;have nbi:¬N0.has bi:=fresh_iff.1 fbi.2;rw[Bx nbi]
   refine AWp.loop (σ:=List Nat×Store×AV×List Int) ⟨λ_=>[(6,.av (ptr k)),(7,.av (I3 u b4 b5 k)),(82,.av (ptr bi))],λ_=>[],
    λs d=>d=(F.sO bi (.iter ma z s.1 z)).un s.2.1/\zl (F.sO bi (.iter ma z s.1 z)) s.2.1/\NearAt s.2.1 u b4 b5 k p q r s.2.2.1 s.2.2.2/\s.1.Nodup/\(∀t∈s.1,t∈I)∧
     NearIn l q r (λe=>∃(i t:Nat),l[i]?=Δ e/\I[i]?=Δ t/\t∈s.1) s.2.2.2,λs=>Γ I-Γ s.1⟩ zb ?_ ?_
   .exact⟨([],N0,_,[]),O,⟨rfl,Cl U nbi,hN0,Fdy,(λt ht=>(by cases ht)),Fdy,λid=>⟨(λh=>ω),λ⟨e,_,_,_,i,t,_,_,h⟩=>ω⟩⟩,⟨Y,Y,Y,O⟩,O⟩
   rintro⟨seen,N,v,acc⟩ d ⟨rfl,A,w,ς,π,hacc⟩;dsimp only at A w ς π hacc⊢;have hF1:CellsAt (F.sO bi (.iter ma z seen z)) p ma mi l I z G bs2 cl2:=P.fresh _ fbi.1;refine yvd rfl (yf A (zd _ _ _)) (yf A hF1.ha) (λhall=>?_) (λi e t C ht hnt=>?_)
   .refine⟨(F.sO bi (.iter ma z seen z),N,v,acc),⟨rfl,A,⟨ma,mi,_,_,_,_,_,hF1,hi⟩,w,?_⟩,⟨Y,O⟩,O⟩;refine hacc.congr λe C _=>⟨λ_=>trivial,λ_=>?_⟩
    obtain⟨i,hi'⟩:=Fa6.1 C;have M:i<Γ I:=by have H:=hst.len;have K:=(Fa1.1 hi').1;rw[Fas]at H;omega
    exact⟨i,I[i],hi',Fac M,hall _ (Faa M)⟩
   .obtain⟨e0,τ,rfl⟩:∃e0,l[i]?=Δ e0/\Bg e0=e:=by
     rw[Fau]at C;cases S:l[i]? with
     |none=>rw[S]at C;cases C
     |some e0=>rw[S]at C;simp at C;exact⟨e0,rfl,C⟩
    have T:=Fa4 τ;obtain⟨hd',nb⟩:=yr3 (y:=.iter ma z (seen++[t]) z) A;have hF2:CellsAt (F.sO bi (.iter ma z (seen++[t]) z)) p ma mi l I z G bs2 cl2:=P.fresh _ fbi.1;rw[Bx nb,ym];refine yvg rfl (yf hd' (zd _ _ _)) (yf hd' hF2.ha) C ht ?_;refine tu hd' ⟨ma,mi,_,_,_,_,_,hF2,hi⟩ w X ν (zfo hi.n1 T) (υ _ T) (by have:=hacc.len;omega) _ (λN' v' hdd hN'=>?_);refine⟨(seen++[t],N',v',_),?_,⟨rfl,hdd,hN',?_,?_,?_⟩,⟨Y,Y,Y,O⟩,O⟩
    .have H:(seen++[t]).Nodup:=by
      rw[Fdh];exact⟨ς,φ,λa P b hb=>by simp at hb;subst hb;exact λe=>hnt (e▸P)⟩
     have K:=Fbs (l₂:=I) H (λx S=>by
      rcases Faw.1 S with S|S
      .exact π x S
      .simp at S;subst S;exact Fa4 ht)
     rw[Fad]at K;show Γ I-(seen++[t]).length<Γ I-Γ seen;rw[Fad];simp at K⊢;omega
    .show(seen++[t]).Nodup;rw[Fdh];exact⟨ς,φ,λa P b hb=>by simp at hb;subst hb;exact λe=>hnt (e▸P)⟩
    .intro x S;rcases Faw.1 S with S|S
     .exact π x S
     .simp at S;subst S;exact Fa4 ht
    .refine(hacc.step hi.n1 T (λW=>?_)).congr λe' he' _=>⟨λW=>?_,λW=>?_⟩
     .obtain⟨i',t',H,K,E⟩:=W;have:=Gj (f:=λe:Ent=>e.1) hi.n1 H τ rfl;subst this;rw[ht]at K;cases K;exact hnt E
     .rcases W with⟨i',t',H,K,E⟩|rfl
      .exact⟨i',t',H,K,Fdl _ E⟩
      .exact⟨i,t,τ,ht,φ⟩
     .obtain⟨i',t',H,K,E⟩:=W;rcases Faw.1 E with E|E
      .exact .inl ⟨i',t',H,K,E⟩
      .simp at E;subst E;right;have hinc:=hst.inc;have:i'=i:=by
        have hn:(I.map id).Nodup:=by rw[List.map_id];exact hinc.imp λh e=>Z
        exact Gj (f:=id) hn K ht rfl
       subst this;rw[τ]at H;cases H;rfl
  |false=>
   refine AWp.loop (σ:=Int×Store×AV×List Int) ⟨λs=>[(3,.av (ptr u)),(6,.av (ptr k)),(7,.av (I3 u b4 b5 k)),(8,.bx 8 0),(9,.bx 9 0),(12,.av (int s.1))],λ_=>[(8,[int ax,int ay]),(9,[int D,int B])],
    λs d=>d=F.un s.2.1/\zl F s.2.1/\NearAt s.2.1 u b4 b5 k p q r s.2.2.1 s.2.2.2/\(ax<=s.1/\s.1<=D+1)/\NearIn l q r (λe=>(z7 e.2).1<s.1) s.2.2.2,λs=>(D+1-s.1).toNat⟩ zb ?_ ?_
   .refine⟨(ax,N0,_,[]),O,⟨rfl,U,hN0,⟨Fcw _,Z⟩,Fdy,λid=>⟨(λh=>ω),λ⟨e,C,_,hn,h⟩=>?_⟩⟩,⟨Y,Y,Y,Y,Y,Y,O⟩,⟨rfl,rfl,O⟩⟩;have:=hrect e C hn;dsimp only at h;omega
   rintro⟨x,N,v,acc⟩ d ⟨rfl,A,w,S,hacc⟩;dsimp only at A w S hacc⊢;refine bcd (λx1=>?_) (λx1=>?_);rotate_left
   .refine⟨(F,N,v,acc),⟨rfl,A,⟨ma,mi,_,_,_,_,_,P,hi⟩,w,?_⟩,⟨Y,O⟩,O⟩;refine hacc.congr λe C hn=>⟨λ_=>trivial,λ_=>?_⟩
    have:=hrect e C hn;omega
   refine AWp.loop (σ:=Int×Store×AV×List Int) ⟨λs=>[(3,.av (ptr u)),(6,.av (ptr k)),(7,.av (I3 u b4 b5 k)),(8,.bx 8 0),(9,.bx 9 0),(12,.av (int x)),(13,.av (int s.1))],λ_=>[(8,[int ax,int ay]),(9,[int D,int B])],
    λs d=>d=F.un s.2.1/\zl F s.2.1/\NearAt s.2.1 u b4 b5 k p q r s.2.2.1 s.2.2.2/\(ay<=s.1/\s.1<=B+1)/\NearIn l q r (λe=>(z7 e.2).1<x\/((z7 e.2).1=x/\(z7 e.2).2<s.1)) s.2.2.2,λs=>(B+1-s.1).toNat⟩ zb ?_ ?_
   .refine⟨(ay,N,v,acc),O,⟨rfl,A,w,⟨Fcw _,Z⟩,hacc.congr λe C hn=>⟨.inl,λh=>h.elim id λh=>?_⟩⟩,Qbt,⟨rfl,rfl,O⟩⟩;have:=hrect e C hn;dsimp only at h;omega
   clear w hacc A;rintro⟨y,N,v,acc⟩ d ⟨rfl,A,w,hy,hacc⟩;dsimp only at A w hy hacc⊢;refine bcd (λy1=>?_) (λy1=>?_);rotate_left
   .refine⟨⟨Z,Z⟩,?_⟩;refine⟨(x+1,N,v,acc),?_,⟨rfl,A,w,ζ,hacc.congr λe C hn=>?_⟩,Qbt,⟨rfl,rfl,O⟩⟩
    .show(D+1-(x+1)).toNat<(D+1-x).toNat;omega
    .have:=hrect e C hn;dsimp only;omega
   refine J (o:=(F.un N).obj u) _ (zh w.h3) ?_;refine J (o:=(F.un N).obj p) _ (yf A P.hp) ?_;refine Bi rfl (it:=ti386) (ie:=ti63) (ik:=ti64) rfl rfl rfl rfl (yf A P.hi) rfl (qG x y) (λe C=>?_) ?_
   .obtain⟨e,_,rfl⟩:=Fag.1 C;rfl
   rw[R7 G (x,y),show Fc ti63=.s (.slice Θ 0 0)from rfl];cases hf:G.find? (Hz (x,y))with
   |none=>
    refine AWp.loop (σ:=Unit) ⟨λ_=>[(3,.av (ptr u)),(6,.av (ptr k)),(7,.av (I3 u b4 b5 k)),(8,.bx 8 0),(9,.bx 9 0),(12,.av (int x)),(13,.av (int y)),(114,.av (int 0)),(115,.av (int 0))],λ_=>[(8,[int ax,int ay]),(9,[int D,int B])],
     λ_ d=>d=F.un N,λ_=>0⟩ zb ?_ ?_
    .exact⟨(),O,rfl,Qbt,⟨rfl,rfl,O⟩⟩
    rintro _ d rfl
    .refine⟨⟨Z,Z⟩,?_⟩;refine⟨(y+1,N,v,acc),?_,⟨rfl,A,w,ζ,hacc.congr λe C hn=>?_⟩,Qbt,⟨rfl,rfl,O⟩⟩
     .show(B+1-(y+1)).toNat<(B+1-y).toNat;omega
     .have hne:z7 e.2≠(x,y):=λhk=>by
       obtain⟨g,hg,η⟩:=hi.m2 e C;exact List.find?_eq_none.1 hf g hg (atKey_iff.2 (by rw[η,hk]))
      have:¬((z7 e.2).1=x/\(z7 e.2).2=y):=λ⟨H,K⟩=>hne (Prod.ext H K);dsimp only;omega
   |some g=>
    obtain⟨hg,η⟩:=bz hf;have η:=atKey_iff.1 η;obtain⟨k1,k2,k3⟩:=P.hg g hg;have gs:=(hi.s g hg).1;have gl:=o7 hi g hg
    refine AWp.loop (σ:=Nat×Store×AV×List Int) ⟨λs=>[(3,.av (ptr u)),(6,.av (ptr k)),(7,.av (I3 u b4 b5 k)),(8,.bx 8 0),(9,.bx 9 0),(12,.av (int x)),(13,.av (int y)),(113,.av (.s (.slice (Δ ⟨g.b,0,Θ⟩) (Γ g.ns) g.cap))),(114,.av (int (Γ g.ns))),(115,.av (int (s.1:Nat)))],
     λ_=>[(8,[int ax,int ay]),(9,[int D,int B])],
     λs d=>d=F.un s.2.1/\zl F s.2.1/\NearAt s.2.1 u b4 b5 k p q r s.2.2.1 s.2.2.2/\s.1<=Γ g.ns/\NearIn l q r (λe=>((z7 e.2).1<x\/((z7 e.2).1=x/\(z7 e.2).2<y))\/(z7 e.2=(x,y)/\e.1∈g.ns.take s.1)) s.2.2.2,λs=>Γ g.ns-s.1⟩ zb ?_ ?_
    .exact⟨(0,N,v,acc),O,⟨rfl,A,w,Fae _,hacc.congr λe C hn=>⟨.inl,λh=>h.elim id λh=>(by cases h.2)⟩⟩,Qbt,⟨rfl,rfl,O⟩⟩
    clear w hacc A;rintro⟨idx,N,v,acc⟩ d ⟨rfl,A,w,hidx,hacc⟩;dsimp only at A w hidx hacc⊢;refine bcd (λz1=>?_) (λz1=>?_);rotate_left
    .have hie:idx=Γ g.ns:=Z;subst hie;refine⟨⟨Z,Z⟩,?_⟩;refine⟨(y+1,N,v,acc),?_,⟨rfl,A,w,ζ,hacc.congr λe C hn=>?_⟩,Qbt,⟨rfl,rfl,O⟩⟩
     .show(B+1-(y+1)).toNat<(B+1-y).toNat;omega
     .rw[Fal];have H:z7 e.2=(x,y)↔((z7 e.2).1=x/\(z7 e.2).2=y):=⟨λh=>by rw[h];exact⟨rfl,rfl⟩,λ⟨H,K⟩=>Prod.ext H K⟩
      have K:z7 e.2=(x,y)->e.1∈g.ns:=λh=>(hi.m1 g hg e.1).2 ⟨e,C,rfl,by rw[h,η]⟩;dsimp only;constructor
      .rintro(h|⟨h,_⟩)
       .omega
       .have:=H.1 h;omega
      .intro h;by_cases E:z7 e.2=(x,y)
       .exact .inr ⟨E,K E⟩
       .have h4:¬((z7 e.2).1=x/\(z7 e.2).2=y):=λW=>E (H.2 W);left;omega
    have M:idx<Γ g.ns:=Z;have hidm:g.ns[idx]∈g.ns:=Faa M;obtain⟨e,T,ε,hek⟩:=(hi.m1 g hg g.ns[idx]).1 hidm;refine⟨idx,rfl,M,?_⟩;refine J (o:=(F.un N).obj g.b) _ (yf A k1) ?_;refine J (o:=List.head? _) (int e.1) (by rw[Fb0,show 0+idx*ti2.size=idx from by show 0+idx*1=idx;omega,Far (by simpa using M),Fau,Fac M,ε];rfl) ?_;refine tu A ⟨ma,mi,_,_,_,_,_,P,hi⟩ w X ν (zfo hi.n1 T) (υ _ T) (by have:=hacc.len;omega) _ (λN' v' hdd hN'=>?_);refine⟨⟨Z,Z⟩,?_⟩;refine⟨(idx+1,N',v',_),?_,⟨rfl,hdd,hN',M,?_⟩,⟨Y,Y,Y,Y,Y,Y,Y,Y,Y,Y,O⟩,⟨rfl,rfl,O⟩⟩
    .show Γ g.ns-(idx+1)<Γ g.ns-idx;omega
    .have hkey:z7 e.2=(x,y):=by rw[hek,η]
     have hnot:e.1∉g.ns.take idx:=by
      rw[ε];intro W;obtain⟨j,hj⟩:=Fa6.1 W;have hjlt:j<idx:=by have:=(Fa1.1 hj).1;simp at this;omega
      rw[Fb2 hjlt]at hj;have h5:=Fcq.1 gs j idx Z M hjlt;rw[Fac Z]at hj;have hj':=Option.some.inj hj;rw[hj']at h5;exact absurd h5 (Int.lt_irrefl _)
     refine(hacc.step hi.n1 T (λW=>?_)).congr λe' he' _=>?_
     .rcases W with W|⟨_,W⟩
      .rw[hkey]at W;dsimp only at W;omega
      .exact hnot W
     .dsimp only;rw[Fab M,Faw];constructor
      .rintro((h|⟨h,h'⟩)|rfl)
       .exact .inl h
       .exact .inr ⟨h,.inl h'⟩
       .exact .inr ⟨hkey,.inr (by simp[ε])⟩
      .rintro(h|⟨h,h'|h'⟩)
       .exact .inl (.inl h)
       .exact .inl (.inr ⟨h,h'⟩)
       .right;have:e'.1=e.1:=by rw[ε];simpa using h'
        exact Rx hi.n1 T he' this
 .rintro⟨F',N,v,acc⟩ d ⟨rfl,A,hc',w,hacc⟩;dsimp only at A hc' w hacc⊢;refine AWp.of_vc zb ?_;refine J (o:=(F'.un N).obj k) _ (zh w.h6) ?_;have hms:=yl5 hacc.1;have hnear:Sq l q r (acc.mergeSort λx y=>decide (x<=y)):=⟨hms.1,λid=>by
   rw[hms.2,hacc.2 id];constructor
   .rintro⟨e,H,K,E,_⟩;exact⟨e,H,K,E⟩
   .rintro⟨e,H,K,E⟩;exact⟨e,H,K,E,O⟩⟩
  have hal:=hacc.len;have hml:(acc.mergeSort λx y=>decide (x<=y)).length=Γ acc:=List.length_mergeSort acc;rcases Rs w.hv with⟨rfl,rfl⟩|⟨b,ι,L,rfl,ho,H,K,E⟩
  .refine yaj _ ?_;refine J (o:=(F'.un N).obj k) _ (zh w.h6) ?_;refine xh (i:=ti63) (v:=.s (.slice Θ 0 0)) (b:=k) (o:=0) (l:=[.s (.slice Θ 0 0)]) rfl rfl rfl (zh w.h6) (Fai _) ?_;refine J (o:=Store.obj (Store.sO _ k _) k) _ (zd _ _ _) ?_;refine ret ?_;rw[z8];exact h F' _ _ _ hc' (Oq A w.h6) (.inl ⟨rfl,φ⟩) hnear
  .refine yai (zh ho) Z _ ?_;have Q:k≠b:=Ne.symm (w.nv b _ _ rfl).2.2.2;have h6:((F'.un N).sO b (.cells ((acc.mergeSort λx y=>decide (x<=y)).map aI++L))).obj k=Δ (.cells [.s (.slice (Δ ⟨b,0,Θ⟩) (Γ acc) ι)]):=by rw[zi Q];exact zh w.h6
   refine J (o:=Store.obj (Store.sO _ b _) k) _ h6 ?_;refine xh (i:=ti63) (v:=.s (.slice (Δ ⟨b,0,Θ⟩) (Γ acc) ι)) (b:=k) (o:=0) (l:=[.s (.slice (Δ ⟨b,0,Θ⟩) (Γ acc) ι)]) rfl rfl rfl h6 (Fai _) ?_;refine J (o:=Store.obj (Store.sO _ k _) k) _ (zd _ _ _) ?_;refine ret ?_;rw[z8,z8];refine h F' _ _ _ hc' (Oq (Oq A ho) (by rw[zi Q];exact w.h6)) (.inr ⟨b,ι,L,?_,?_,?_,?_,E⟩) hnear
   .rw[hml];rfl
   .rw[zi (Ne.symm Q)];exact zd _ _ _
   .omega
   .omega
def ynl(l:List Int)(hl:Γ l<=1000000000000)(fn:FuncId)(d:List AV)(q:Int->Bool)(st:Store)(hf:∀x∈l,∀R:AV->Store->Prop,R (bool (q x)) st->Jb fn ([int x]++d) st R)
  (R:Ja) (h:R (int (Dp (l.findIdx? q))) st):Jb 418 [lst 1 zx l,.clos fn d] st R:=by
 refine Qy 19 func418 ?_
 refine AWp.loop (σ:=Nat) ⟨λi=>[(0,.av (lst 1 zx l)),(1,.av (.clos fn d)),(7,.av (int (Γ l:Nat))),(8,.av (int (i:Nat)))],λ_=>[],
  λi g=>i<=Γ l/\g=st/\∀j,(c:j<Γ l)->j<i->q l[j]=false,λi=>Γ l-i⟩ zb ?_ ?_
 .refine⟨0,O,⟨Fae _,rfl,λj _ c=>Z⟩,⟨Y,Y,?_,Y,O⟩,O⟩;rw[<-zj (f:=zx) l];exact Y
 rintro i g ⟨t,rfl,a⟩;refine bcd (λp=>?_) (λp=>?_);rotate_left
 .have e:l.findIdx? q=Θ:=by
   rw[Fbx];intro x n;obtain⟨j,c,rfl⟩:=Faj n;exact a j c Z
  rw[e]at h;exact ret h
 have b:i<Γ l:=Z;refine⟨i,rfl,J _ (zm b) ?_⟩;refine hf l[i] (Faa b) _ ?_;refine zg (λk=>?_) (λk=>?_)
 .have e:l.findIdx? q=Δ i:=by
   rw[Fa5];exact⟨b,k,λj c=>by rw[a j Z c];decide⟩
  rw[e]at h;exact ret h
 .refine Qd ?_;refine⟨i+1,?_,⟨Z,rfl,λj c o=>?_⟩,Qbt,O⟩
  .show Γ l-(i+1)<Γ l-i;omega
  .by_cases e:j=i
   .subst e;exact k
   .exact a j c Z
def ynm(l:List Int)(hl:Γ l<=1000000000000)(fn:FuncId)(a:List AV)(q:Int->Bool)(st:Store)(hf:∀x∈l,∀R:AV->Store->Prop,R (bool (q x)) st->Jb fn ([int x]++a) st R)
  (R:Ja) (h:R (bool (l.any q)) st):Jb 357 [lst 1 zx l,.clos fn a] st R:=by
 refine Qy 9 func357 ?_;refine ynl l hl fn a q st hf _ ?_;have e:decide ((0:Int)<=Dp (l.findIdx? q))=l.any q:=by
  cases b:l.findIdx? q with
  |none=>
   rw[Fbx]at b;rw[show decide ((0:Int)<=Dp Θ)=false from ψ];symm;rw[Fdi];intro x hm;rw[b x hm];decide
  |some i=>
   rw[Fa5]at b;obtain⟨c,d,_⟩:=b;rw[show decide ((0:Int)<=Dp (Δ i))=true from by simp[Dp]];symm;rw[Feo];exact⟨l[i],Faa c,d⟩
 rw[<-e]at h;exact ret h
def zhp(l:List Bld)(hl:Γ l<=1000000000000)(fn:FuncId)(d:List AV)(q:Bld->Bool)(st:Store)(hf:∀x∈l,∀R:AV->Store->Prop,R (bool (q x)) st->Jb fn ([.agg (zk x)]++d) st R)
  (R:Ja) (h:R (int (Dp (l.findIdx? q))) st):Jb 270 [lst 6 zk l,.clos fn d] st R:=by
 refine Qy 19 func270 ?_
 refine AWp.loop (σ:=Nat) ⟨λi=>[(0,.av (lst 6 zk l)),(1,.av (.clos fn d)),(7,.av (int (Γ l:Nat))),(8,.av (int (i:Nat)))],λ_=>[],
  λi g=>i<=Γ l/\g=st/\∀j,(c:j<Γ l)->j<i->q l[j]=false,λi=>Γ l-i⟩ zb ?_ ?_
 .refine⟨0,O,⟨Fae _,rfl,λj _ c=>Z⟩,⟨Y,Y,?_,Y,O⟩,O⟩;rw[<-zj (f:=zk) l];exact Y
 rintro i g ⟨t,rfl,a⟩;refine bcd (λp=>?_) (λp=>?_);rotate_left
 .have e:l.findIdx? q=Θ:=by
   rw[Fbx];intro x n;obtain⟨j,c,rfl⟩:=Faj n;exact a j c Z
  rw[e]at h;exact ret h
 have b:i<Γ l:=Z;refine⟨i,rfl,J _ (zm b) ?_⟩;refine hf l[i] (Faa b) _ ?_;refine zg (λk=>?_) (λk=>?_)
 .have e:l.findIdx? q=Δ i:=by
   rw[Fa5];exact⟨b,k,λj c=>by rw[a j Z c];decide⟩
  rw[e]at h;exact ret h
 .refine Qd ?_;refine⟨i+1,?_,⟨Z,rfl,λj c o=>?_⟩,Qbt,O⟩
  .show Γ l-(i+1)<Γ l-i;omega
  .by_cases e:j=i
   .subst e;exact k
   .exact a j c Z
def zhq(l:List Bld)(hl:Γ l<=1000000000000)(fn:FuncId)(a:List AV)(q:Bld->Bool)(st:Store)(hf:∀x∈l,∀R:AV->Store->Prop,R (bool (q x)) st->Jb fn ([.agg (zk x)]++a) st R)
  (R:Ja) (h:R (bool (l.any q)) st):Jb 179 [lst 6 zk l,.clos fn a] st R:=by
 refine Qy 9 func179 ?_;refine zhp l hl fn a q st hf _ ?_;have e:decide ((0:Int)<=Dp (l.findIdx? q))=l.any q:=by
  cases b:l.findIdx? q with
  |none=>
   rw[Fbx]at b;rw[show decide ((0:Int)<=Dp Θ)=false from ψ];symm;rw[Fdi];intro x hm;rw[b x hm];decide
  |some i=>
   rw[Fa5]at b;obtain⟨c,d,_⟩:=b;rw[show decide ((0:Int)<=Dp (Δ i))=true from by simp[Dp]];symm;rw[Feo];exact⟨l[i],Faa c,d⟩
 rw[<-e]at h;exact ret h
def yqn(g:Gnd)(p:Nat)(t:Nat)(a:t<Γ g.T)(st:Store)(b:st.obj p=Δ (.cells (zq g)))(R:Ja)(h:R (bool (decide ((g.T.getD t 0).toNat>1))) st):
  Jb 358 ([int (t:Nat)]++[ptr p]) st R:=by
 have hget:g.T.getD t 0=g.T[t]:=by simp[a]
 rw[hget]at h;refine Qy 10 func358 ?_;refine J _ b ?_;refine⟨t,rfl,J _ (zm a) ?_⟩;refine ret ?_;have e:decide ((1:Int)<(g.T[t].toNat:Int))=decide (g.T[t].toNat>1):=δ;rw[<-e]at h;exact h
def zhv(g:Gnd)(d:zt g)(b:Bld)(a:yh b/\onP g b)(f:Store)(R:Ja)(h:∀z:Bool,(z=true↔Fy g b)->R (bool z) f):
  Jb 268 [.agg (zq g),.agg (zk b)] f R:=by
 have A:=qg d;refine Qa (c:=cfg 11 [2] []) zb func268 ?_;intro p o;have l:(f.sO p (.cells (zq g))).obj p=Δ (.cells (zq g)):=zd _ _ _;refine J _ l ?_;refine Vg g d b a _ _ ?_;have v:(Bk g.W b).length<=1000000000000:=by unfold Bk;rw[fy];have k:=a.1;unfold yh at k;have:b.h.toNat*b.w.toNat<=4*4:=Fc5 Z Z;omega
 refine ynm (Bk g.W b) v _ _ (λx=>decide ((g.T.getD x.toNat 0).toNat>1)) _ (λx i R h=>?_) _ ?_
 .obtain⟨n,rfl,u,j⟩:=(Ic d a.1 a.2 x).1 i;exact yqn g p n Z _ l R δ
 refine Dg (Tt) (Cw o.1) (h _ ?_);unfold Fy;rw[Fce,Fdi];constructor
 .intro j t y e;have:=j (t:Int) ((Ic d a.1 a.2 _).2 ⟨t,rfl,Z,e⟩);grind
 .intro j x i;obtain⟨n,rfl,u,e⟩:=(Ic d a.1 a.2 x).1 i;grind
def blV(b n:Nat):AV:=.s (.slice (Δ ⟨b,0,Θ⟩) n n)
def ysj(g:Gnd)(e:zt g)(l:List Bld)(hl:Γ l<=1000000000000)(hb:∀b∈l,yh b/\onP g b)(st:Store)(R:Ja)
  (h:∀b,Fresh st b->R (blV b (Γ g.T)) (st.sO b (.cells (bl (Γ g.T) (xn g l))))):Jb 313 [.agg (zq g),lst 6 zk l] st R:=by
 have H:=qg e;have I:((rws u8C g.T).length:Int)=(Γ g.T:Int):=by rw[zj]
 refine Qy 34 func313 ?_;refine Fa rfl (it:=ti68) (ie:=ti4) rfl rfl rfl rfl rfl (n:=(rws u8C g.T).length) ?_ ?_ (λb hf=>?_)
 .rw[zj];show 1*_<=_;omega
 .omega
 rw[zj,Kz]
 refine AWp.loop (σ:=Nat) ⟨λi=>[(2,.bx 2 0),(5,.av (blV b (Γ g.T))),(14,.av (lst 6 zk l)),(15,.av (int (Γ l:Nat))),(16,.av (int (i:Nat)))],λ_=>[(2,zq g)],
  λi a=>i<=Γ l/\a=st.sO b (.cells (bl (Γ g.T) (xn g (l.take i)))),λi=>Γ l-i⟩ zb ?_ ?_
 .refine⟨0,O,⟨Fae _,rfl⟩,⟨Y,Y,Y,?_,Y,O⟩,⟨rfl,O⟩⟩;rw[<-zj (f:=zk) l];exact Y
 rintro i a ⟨G,rfl⟩;refine bcd (λA=>?_) (λA=>?_);rotate_left
 .have:i=Γ l:=Z;subst this;rw[Fal];exact ret (h b hf)
 have d:i<Γ l:=Z;have c:=hb l[i] (Faa d);refine⟨i,rfl,J _ (zm d) ?_⟩;refine Vg g e l[i] c _ _ ?_;have hcov:=λ(t:Nat) (u:t<Γ g.T)=>zgr e d c u;have hmem:=Ic e c.1 c.2;have B:=zgp g l i (Bk g.W l[i]);have p:=fz g.W c.1;generalize Bk g.W l[i]=ts at*
 refine AWp.loop (σ:=Nat) ⟨λk=>[(2,.bx 2 0),(5,.av (blV b (Γ g.T))),(14,.av (lst 6 zk l)),(15,.av (int (Γ l:Nat))),(16,.av (int (i:Nat))),(22,.av (yq ts)),(23,.av (int (Γ ts:Nat))),(24,.av (int (k:Nat)))],λ_=>[(2,zq g)],
  λk a=>k<=Γ ts/\a=st.sO b (.cells (bl (Γ g.T) (At g l i ts k))),λk=>Γ ts-k⟩ zb ?_ ?_
 .refine⟨0,O,⟨Fae _,?_⟩,⟨Y,Y,Y,Y,Y,Y,?_,Y,O⟩,⟨rfl,O⟩⟩
  .rw[show At g l i ts 0=xn g (l.take i)from funext B]
  .rw[<-zj (f:=zx) ts];exact Y
 rintro k a ⟨E,rfl⟩;refine bcd (λz=>?_) (λz=>?_);rotate_left
 .refine Qd ?_;refine⟨i+1,?_,⟨Z,?_⟩,Qbt,⟨rfl,O⟩⟩
  .grind
  grind[bl,List.map_congr_left]
 have hklt:k<Γ ts:=Z;obtain⟨n,hn,y,w⟩:=(hmem ts[k]).1 (Faa hklt);have j:n<Γ g.T:=Z;obtain⟨D,C⟩:=zgq (g:=g) (l:=l) (i:=i) hklt hn;refine⟨k,rfl,J _ (zm hklt) ?_⟩;refine⟨n,hn,j,?_⟩;refine yu (i:=ti4) (v:=bool true) (o:=0+n*1) (st2:=st.sO b (.cells (bl (Γ g.T) (At g l i ts (k+1))))) rfl rfl rfl (zd _ _ _) θf ?_ ?_
 .grind[ym,G4]
 refine Qd ?_;refine⟨k+1,?_,⟨Z,rfl⟩,Qbt,⟨rfl,O⟩⟩;grind
theorem Rg(n:Nat)(f:Nat->Bool):(rws jm (blL n f)).flatten++[]=bl n f:=by rw[Fbq,yt6]
def opV(g:Gnd)(l:List Bld)(c:Int):AV:=lst 1 jm (blL (Γ g.T) (yp g l c))
def j5(g:Gnd)(l:List Bld)(c:Int)(i t:Nat):Bool:=if t<i then yp g l c t else xn g l t
def Mm(g:Gnd)(w:zt g)(l:List Bld)(D:Γ l<=1000000000000)(G:∀b∈l,yh b/\onP g b)(c:Int)(f:Store)(R:Ja)(h:R (opV g l c) f):
  Jb 207 [.agg (zq g),lst 6 zk l,int c] f R:=by
 have L:=qg w;refine Qb (c:=cfg 37) zb func207 ?_;refine AWp.seq (AWp.of_vc zb ?_);refine AWp.seq (AWp.of_vc zb ?_);refine ysj g w l D G _ _ (λb A=>?_);have step:∀i,i<Γ g.T->j5 g l c (i+1) i=yp g l c i/\∀s,s≠i->j5 g l c (i+1) s=j5 g l c i s:=λi E=>by unfold j5;grind
 refine AWp.meetA (σ:=Unit) ⟨λ_=>[(7,.av (blV b (Γ g.T)))],λ_=>[],λ_ e=>e=f.sO b (.cells (bl (Γ g.T) (yp g l c)))⟩ ?_ ?_
 .refine AWp.of_vc zb ?_
  refine AWp.loop (σ:=Nat) ⟨λi=>[(2,.av (int c)),(3,.bx 3 0),(7,.av (blV b (Γ g.T))),(13,.av (blV b (Γ g.T))),(14,.av (int (Γ g.T:Nat))),(15,.av (int (i:Nat)))],λ_=>[(3,zq g)],
   λi e=>i<=Γ g.T/\e=f.sO b (.cells (bl (Γ g.T) (j5 g l c i))),λi=>Γ g.T-i⟩ zb ?_ ?_
  .refine⟨0,O,⟨Fae _,?_⟩,Qbt,⟨rfl,O⟩⟩;rfl
  rintro i e ⟨E,rfl⟩;refine bcd (λH=>?_) (λH=>?_);rotate_left
  .have:i=Γ g.T:=Z;subst this;refine⟨(),?_,⟨Y,O⟩,O⟩;have:bl (Γ g.T) (j5 g l c (Γ g.T))=bl (Γ g.T) (yp g l c):=by simp_all[bl,j5]
   rw[this]
  have a:i<Γ g.T:=Z;obtain⟨K,I⟩:=step i a;have u:(f.sO b (.cells (bl (Γ g.T) (j5 g l c i)))).obj b=Δ (.cells (bl (Γ g.T) (j5 g l c i))):=zd _ _ _;have hmid:j5 g l c i i=xn g l i:=if_neg (Fdo i);have hhead:((bl (Γ g.T) (j5 g l c i)).drop (0+i*1)).head?=Δ (bool (xn g l i)):=by grind[List.head?_drop,Ix]
  refine⟨i,rfl,a,?_⟩;refine J _ u (J _ hhead ?_);have p:g.T[i].toNat<=5:=w.2.2.2 _ (Faa a);have hget:g.T.getD i 0=g.T[i]:=by simp[a]
  refine zg (λB=>?_) (λB=>?_)
  .have B:xn g l i=false:=by grind
   refine⟨i,rfl,J _ (zm a) ?_⟩;refine lc c g.T[i] p _ _ ?_;have C:decide (0<Bo c g.T[i].toNat)=yp g l c i:=by unfold yp;grind
   refine⟨i,rfl,a,?_⟩;refine yu (i:=ti4) (v:=bool (decide (0<Bo c g.T[i].toNat))) (b:=b) (o:=0+i*1) (l:=_) (st2:=f.sO b (.cells (bl (Γ g.T) (j5 g l c (i+1))))) rfl rfl rfl u θf (by grind[ym,G4]) ?_;refine Qd ?_;refine⟨i+1,?_,⟨Z,rfl⟩,Qbt,⟨rfl,O⟩⟩;grind
  .have C:false=yp g l c i:=by
    unfold yp;grind
   refine⟨i,rfl,a,?_⟩;refine yu (i:=ti4) (v:=bool false) (b:=b) (o:=0+i*1) (l:=_) (st2:=f.sO b (.cells (bl (Γ g.T) (j5 g l c (i+1))))) rfl rfl rfl u θf (by grind[ym,G4]) ?_;refine Qd ?_;refine⟨i+1,?_,⟨Z,rfl⟩,Qbt,⟨rfl,O⟩⟩;grind
 .rintro _ _ rfl;refine AWp.freeze (d:=7) (b:=b) (k:=1) (n:=Γ g.T) (rows:=rws jm (blL (Γ g.T) (yp g l c))) (pad:=[]) rfl ?_ ?_ ?_ (Fai _) ?_ ?_ ?_
  .grind[Rg,zd]
  .exact A.2
  .rw[zj,jd]
  .intro j t;obtain⟨x,_,rfl⟩:=Fag.1 t;rfl
  .intro j t y z;obtain⟨x,_,rfl⟩:=Fag.1 t;simp[jm]at z;exact⟨_,z,rfl⟩
  rw[Ml A.1];refine AWp.of_vc zb ?_;exact ret h
def ytw(g:Gnd)(u:zt g)(l:List Bld)(hl:Γ l<=1000000000000)(st:Store)(R:Ja)
  (h:∀z:Bool,(z=true↔Iw g l)->R (bool z) st):Jb 178 [.agg (zq g),lst 6 zk l] st R:=by
 have ha:=qg u;have hT:((rws u8C g.T).length:Int)=(Γ g.T:Int):=by rw[zj]
 have hL:((rws zk l).length:Int)=(Γ l:Int):=by rw[zj]
 have no:¬Iw g l->R (bool false) st:=λhn=>h false (by simp[hn]);refine Qy 60 func178 ?_;refine bcd (λc1=>ret (no λq=>θb)) (λc1=>?_);refine yt0 l hl _ _ (λz K=>?_);refine ya ?_;refine zg (λS=>?_) (λS=>ret (no λq=>by have:=K.2 q.2.1;grind));have hr:=K.1 S;refine Fa rfl (it:=ti68) (ie:=ti4) rfl rfl rfl rfl rfl (n:=(rws u8C g.T).length) ?_ ?_ (λb hf=>?_)
 .rw[zj];show 1*_<=_;omega
 .omega
 rw[zj (f:=u8C) g.T,Kz];have hhas:∀f:Nat->Bool,(st.sO b (.cells (bl (Γ g.T) f))).Has st:=λf=>Cw hf.1
 refine AWp.loop (σ:=Nat) ⟨λi=>[(2,.bx 2 0),(5,.av (blV b (Γ g.T))),(22,.av (lst 6 zk l)),(23,.av (int (Γ l:Nat))),(24,.av (int (i:Nat)))],λ_=>[(2,zq g)],
  λi a=>i<=Γ l/\a=st.sO b (.cells (bl (Γ g.T) (xn g (l.take i))))/\di g l i,λi=>Γ l-i⟩ zb ?_ ?_
 .refine⟨0,O,⟨Fae _,rfl,λj _ L=>Z⟩,⟨Y,Y,Y,?_,Y,O⟩,⟨rfl,O⟩⟩;rw[<-zj (f:=zk) l];exact Y
 rintro i a ⟨hi,rfl,w⟩;refine bcd (λh1=>?_) (λh1=>?_);rotate_left
 .have:i=Γ l:=Z;subst this;have hall:=zhj w;exact Dg (Tt) (hhas _) (h true (by simp;exact⟨Z,hr,hall.1,hall.2⟩))
 have c:i<Γ l:=Z;have nof:¬Iw g l->∃r a,AV.le (bool false) r/\(st.sO b (.cells (bl (Γ g.T) (xn g (l.take i))))).Has a/\R r a:=λhn=>Dg (Tt) (hhas _) (no hn);refine⟨i,rfl,J _ (zm c) ?_⟩;refine zhu l[i] _ _ (λz1 D=>?_);refine ya ?_;refine zg (λQ=>?_) (λQ=>nof λq=>by have:=D.2 (q.2.2.1 _ (Faa c)).1;grind);have p:=D.1 Q;refine zhn g l[i] u p _ _ (λz2 C=>?_);refine ya ?_;refine zg (λP=>?_) (λP=>nof λq=>by have:=C.2 (q.2.2.1 _ (Faa c)).2.1;grind);have A:=C.1 P;refine zhv g u l[i] ⟨p,A⟩ _ _ (λz3 B=>?_);refine ya ?_;refine zg (λM=>?_) (λM=>nof λq=>by have:=B.2 (q.2.2.1 _ (Faa c)).2.2;grind);have I:=B.1 M;have d:yh l[i]/\onP g l[i]:=⟨p,A⟩
 refine Vg g u l[i] d _ _ ?_;have hcov:=λ(t:Nat) (H:t<Γ g.T)=>zgr u c d H;have hmem:=Ic u d.1 d.2;have h0:=zgp g l i (Bk g.W l[i]);have U:=fz g.W d.1;have G:=ysk u c d w;have X:=zkw u d;generalize Bk g.W l[i]=ts at*
 refine AWp.loop (σ:=Nat) ⟨λk=>[(2,.bx 2 0),(5,.av (blV b (Γ g.T))),(22,.av (lst 6 zk l)),(23,.av (int (Γ l:Nat))),(24,.av (int (i:Nat))),(45,.av (yq ts)),(46,.av (int (Γ ts:Nat))),(47,.av (int (k:Nat)))],λ_=>[(2,zq g)],
  λk a=>k<=Γ ts/\a=st.sO b (.cells (bl (Γ g.T) (At g l i ts k)))/\∀m,(hm:m<Γ ts)->m<k->xn g (l.take i) ts[m].toNat=false,λk=>Γ ts-k⟩ zb ?_ ?_
 .refine⟨0,O,⟨Fae _,?_,λm _ hm=>Z⟩,⟨Y,Y,Y,Y,Y,Y,?_,Y,O⟩,⟨rfl,O⟩⟩
  .rw[show At g l i ts 0=xn g (l.take i)from funext h0]
  .rw[<-zj (f:=zx) ts];exact Y
 rintro k a ⟨hk,rfl,ε⟩;refine bcd (λh2=>?_) (λh2=>?_);rotate_left
 .have:k=Γ ts:=Z;subst this;refine Qd ?_;refine⟨i+1,?_,⟨Z,?_,λj L ο=>?_⟩,Qbt,⟨rfl,O⟩⟩
  .grind
  .grind[bl,List.map_congr_left]
  .by_cases e:j=i
   .subst e;refine⟨⟨p,A,I⟩,λm hm y=>?_⟩;obtain⟨t,H,hc⟩:=G.2 ⟨m,hm,y⟩;obtain⟨q,hq,rfl⟩:=Faj H;grind
   .exact w j L Z
 have hklt:k<Γ ts:=Z;obtain⟨n,hn,ν,ι⟩:=(hmem ts[k]).1 (Faa hklt);have E:n<Γ g.T:=Z;obtain⟨s1,s2⟩:=zgq (g:=g) (l:=l) (i:=i) hklt hn;have η:At g l i ts k n=xn g (l.take i) n:=by
  unfold At;have:(ts.take k).contains (n:Int)=false:=by grind[yli]
  grind
 refine⟨k,rfl,J _ (zm hklt) ?_⟩;have ho:(st.sO b (.cells (bl (Γ g.T) (At g l i ts k)))).obj b=Δ (.cells (bl (Γ g.T) (At g l i ts k))):=zd _ _ _;have hhead:((bl (Γ g.T) (At g l i ts k)).drop (0+n*1)).head?=Δ (V.bool (xn g (l.take i) n)):=by grind[List.head?_drop,Ix]
 refine⟨n,hn,E,?_⟩;refine J _ ho (J _ hhead ?_);refine zg (λc6=>?_) (λc6=>?_)
 .refine Dg (Tt) (hhas _) (no λq=>?_);obtain⟨m,hm,y⟩:=G.1 ⟨ts[k],Faa hklt,δ⟩;exact q.2.2.2 i c m hm y
 refine⟨n,hn,E,?_⟩;refine yu (i:=ti4) (v:=bool true) (b:=b) (o:=0+n*1) (l:=bl (Γ g.T) (At g l i ts k)) (st2:=st.sO b (.cells (bl (Γ g.T) (At g l i ts (k+1))))) rfl rfl rfl (zd _ _ _) θf ?_ ?_
 .grind[ym,G4]
 refine Qd ?_;refine⟨k+1,?_,⟨Z,rfl,λm hm τ=>?_⟩,Qbt,⟨rfl,O⟩⟩
 .grind
 grind
def yi7(g:Gnd)(P:g.fits)(l:List Bld)(hl:Γ l<=1000000000000)(st:Store)(R:Ja)
  (h:∀z:Bool,(z=true↔zt g/\Iw g l)->R (bool z) st):Jb 101 [.agg (zq g),lst 6 zk l] st R:=by
 have hL:((rws zk l).length:Int)=(Γ l:Int):=by rw[zj]
 have no:¬(zt g/\Iw g l)->R (bool false) st:=λhn=>h false θ7;refine Qy 64 func101 ?_;refine ze1 g P _ _ (λz v=>?_);refine ya ?_;refine zg (λL=>?_) (λL=>ret (no λq=>by have:=v.2 q.1;rw[this]at L;cases L));have D:=v.1 L;refine bcd (λX=>ret (no λq=>by have:=q.2.1;omega)) (λX=>?_);refine yh4 l hl _ _ (λz v=>?_);refine ya ?_;refine zg (λK=>?_) (λK=>ret (no λq=>by have:=v.2 q.2.2.1;rw[this]at K;cases K));have T:=v.1 K
 refine AWp.loop (σ:=Nat) ⟨λi=>[(1,.av (lst 6 zk l)),(2,.bx 2 0),(5,.av (int (i:Nat)))],λ_=>[(2,zq g)],
  λi b=>i<=Γ l/\b=st/\di g l i,λi=>Γ l-i⟩ zb ?_ ?_
 .exact⟨0,O,⟨Fae _,rfl,λj _ S=>Z⟩,Qbt,⟨rfl,O⟩⟩
 rintro i b ⟨hi,rfl,d⟩;refine bcd (λW=>?_) (λW=>?_);rotate_left
 .have:i=Γ l:=Z;subst this;have hall:=zhj d;exact ret (h true (by simp only[true_iff];exact⟨D,Z,T,hall.1,hall.2⟩))
 have a:i<Γ l:=Z;refine Qc zb yf9 ?_;refine⟨i,rfl,J _ (zm a) ?_⟩;have nof:¬(yh l[i]/\onP g l[i]/\Fy g l[i])->R (bool false) b:=λhn=>no λq=>hn (q.2.2.2.1 _ (Faa a));refine⟨zac l[i] _ _ (λz1 u=>⟨O,?_⟩),O⟩;refine ya ?_;refine zg (λI=>?_) (λI=>⟨⟨O,⟨⟨O,ret (nof λq=>by have:=u.2 q.1;rw[this]at I;cases I)⟩,O⟩⟩,O⟩);have c:=u.1 I;refine⟨i,rfl,J _ (zm a) ?_⟩;refine⟨zbm g l[i] D c _ _ (λz2 t=>⟨O,?_⟩),O⟩;refine ya ?_;refine zg (λH=>?_) (λH=>⟨⟨O,ret (nof λq=>by have:=t.2 q.2.1;rw[this]at H;cases H)⟩,O⟩);have f:=t.1 H;refine⟨i,rfl,J _ (zm a) ?_⟩;refine⟨zbo g D l[i] ⟨c,f⟩ _ _ (λz3 p=>⟨O,?_⟩),O⟩;refine ya ?_;refine zg (λG=>?_) (λG=>ret (nof λq=>by have:=p.2 q.2.2;rw[this]at G;cases G));have Q:=p.1 G
 refine AWp.loop (σ:=Nat) ⟨λk=>[(1,.av (lst 6 zk l)),(2,.bx 2 0),(5,.av (int (i:Nat))),(6,.av (int (k:Nat)))],λ_=>[(2,zq g)],
  λk n=>k<=i/\n=b/\∀m,(hm:m<k)->(y:m<i)->¬vy l[i] (l[m]'Z),λk=>i-k⟩ zb ?_ ?_
 .exact⟨0,O,⟨Fae _,rfl,λm hm=>Z⟩,Qbt,⟨rfl,O⟩⟩
 rintro k n ⟨hk,rfl,w⟩;refine bcd (λV=>?_) (λV=>?_);rotate_left
 .refine Qd ?_;refine⟨i+1,?_,⟨Z,rfl,λj S U=>?_⟩,Qbt,⟨rfl,O⟩⟩
  .show Γ l-(i+1)<Γ l-i;omega
  .by_cases e:j=i
   .subst e;exact⟨⟨c,f,Q⟩,λm hm=>w m Z hm⟩
   .exact d j S Z
 have B:k<i:=Z;have A:k<Γ l:=Z;have C:=(d k A B).1;refine Qc zb yga ?_;refine⟨i,rfl,J _ (zm a) ?_⟩;refine⟨k,rfl,J _ (zm A) ?_⟩;refine⟨zdn g D l[i] l[k] ⟨c,f⟩ ⟨C.1,C.2.1⟩ _ _ (λz4 o=>⟨O,?_⟩),O⟩;refine zg (λE=>ret (no λq=>q.2.2.2.2 i a k B (o.1 E))) (λE=>?_);refine Qd ?_;refine⟨k+1,?_,⟨Z,rfl,λm hm y=>?_⟩,Qbt,⟨rfl,O⟩⟩
 .show i-(k+1)<i-k;omega
 .by_cases e:m=k
  .subst e;intro M;have:=o.2 M;rw[this]at E;cases E
  .exact w m Z y
def yi3(g:Gnd)(d:zt g)(l:List Bld)(hl:Γ l<=1000000000000)(hb:∀b∈l,yh b/\onP g b)(st:Store)(R:Ja)
  (h:∀b,Fresh st b->R (blV b (Γ g.T)) (st.sO b (.cells (bl (Γ g.T) (xn g l))))):Jb 257 [.agg (zq g),lst 6 zk l] st R:=by
 have A:=qg d;have z:=d.1;have u:=d.2.1;refine Qy 70 func257 ?_;refine Qd ?_;rw[<-A.2.2];refine Fa rfl (it:=ti68) (ie:=ti4) rfl rfl rfl rfl rfl (n:=Γ g.T) ?_ ?_ (λb hf=>?_)
 .show 1*_<=_;omega
 .omega
 rw[Kz]
 refine AWp.loop (σ:=Nat) ⟨λi=>[(1,.av (lst 6 zk l)),(2,.bx 2 0),(5,.av (blV b (Γ g.T))),(6,.av (int (i:Nat)))],λ_=>[(2,zq g)],
  λi a=>i<=Γ l/\a=st.sO b (.cells (bl (Γ g.T) (xn g (l.take i)))),λi=>Γ l-i⟩ zb ?_ ?_
 .exact⟨0,O,⟨Fae _,rfl⟩,Qbt,⟨rfl,O⟩⟩
 rintro i a ⟨t,rfl⟩;refine zg (λf=>?_) (λf=>?_);rotate_left
 .have:i=Γ l:=qr f t;subst this;rw[Fal];exact ret (h b hf)
 have c:i<Γ l:=ql f;have e:=hb l[i] (Faa c);have hbi':=e;unfold yh onP at hbi';refine⟨i,rfl,J _ (zm c) ?_⟩
 refine AWp.loop (σ:=Nat) ⟨λk=>[(1,.av (lst 6 zk l)),(2,.bx 2 0),(5,.av (blV b (Γ g.T))),(6,.av (int (i:Nat))),(7,.av (int (l[i].y+(k:Nat))))],λ_=>[(2,zq g)],
  λk a=>k<=l[i].h.toNat/\a=st.sO b (.cells (bl (Γ g.T) (C6 g l i l[i] k 0))),λk=>l[i].h.toNat-k⟩ zb ?_ ?_
 .refine⟨0,O,⟨Fae _,?_⟩,⟨Y,Y,Y,Y,?_,O⟩,⟨rfl,O⟩⟩
  .rw[ysl]
  .rw[show l[i].y+((0:Nat):Int)=l[i].y by omega];exact Y
 rintro k a ⟨H,rfl⟩;refine Qc zb ydp ?_;refine⟨i,rfl,J _ (zm c) ?_⟩;refine⟨i,rfl,J _ (zm c) ?_⟩;refine Qd ?_;refine bcd (λC=>?_) (λC=>?_);rotate_left
 .have:k=l[i].h.toNat:=Z;subst this;refine Qd ?_;refine⟨i+1,?_,⟨Z,?_⟩,Qbt,⟨rfl,O⟩⟩
  .show Γ l-(i+1)<Γ l-i;omega
  .rw[yso c Z]
 refine⟨i,rfl,J _ (zm c) ?_⟩
 refine AWp.loop (σ:=Nat) ⟨λm=>[(1,.av (lst 6 zk l)),(2,.bx 2 0),(5,.av (blV b (Γ g.T))),(6,.av (int (i:Nat))),(7,.av (int (l[i].y+(k:Nat)))),(8,.av (int (l[i].x+(m:Nat))))],λ_=>[(2,zq g)],
  λm a=>m<=l[i].w.toNat/\a=st.sO b (.cells (bl (Γ g.T) (C6 g l i l[i] k m))),λm=>l[i].w.toNat-m⟩ zb ?_ ?_
 .refine⟨0,O,⟨Fae _,rfl⟩,⟨Y,Y,Y,Y,Y,?_,O⟩,⟨rfl,O⟩⟩;rw[show l[i].x+((0:Nat):Int)=l[i].x by omega];exact Y
 rintro m a ⟨hm,rfl⟩;refine Qc zb ydo ?_;refine⟨i,rfl,J _ (zm c) ?_⟩;refine⟨i,rfl,J _ (zm c) ?_⟩;refine Qd ?_;refine bcd (λB=>?_) (λB=>?_);rotate_left
 .have:m=l[i].w.toNat:=Z;subst this;refine Qd ?_;refine⟨k+1,?_,⟨Z,?_⟩,⟨Y,Y,Y,Y,?_,O⟩,⟨rfl,O⟩⟩
  .show l[i].h.toNat-(k+1)<l[i].h.toNat-k;omega
  .rw[ysn _ _ _ _ _ Z]
  .rw[show l[i].y+((k+1:Nat):Int)=l[i].y+(k:Int)+1 by omega];exact Y
 obtain⟨G,E,_⟩:=Lk d (x:=l[i].x+m) (y:=l[i].y+k) Z Z;have D:0<=g.W*(l[i].y+(k:Int)):=Fax Z Z;obtain⟨p,j⟩:=ysm d (l:=l) (i:=i) e (k:=k) (m:=m) Z Z (n:=(l[i].x+(m:Int)+g.W*(l[i].y+(k:Int))).toNat) Z;refine Qd ?_;refine Qd ?_;refine⟨(l[i].x+(m:Int)+g.W*(l[i].y+(k:Int))).toNat,Z,Z,?_⟩;refine yu (i:=ti4) (v:=V.bool true) (b:=b) (o:=0+(l[i].x+(m:Int)+g.W*(l[i].y+(k:Int))).toNat*1) (l:=bl (Γ g.T) (C6 g l i l[i] k m)) (st2:=st.sO b (.cells (bl (Γ g.T) (C6 g l i l[i] k (m+1))))) rfl rfl rfl (zd _ _ _) θf ?_ ?_
 .rw[ym,show∀n:Nat,0+n*1=n by omega,<-p,G4 Z _ j]
 refine Qd ?_;refine⟨m+1,?_,⟨Z,rfl⟩,⟨Y,Y,Y,Y,Y,?_,O⟩,⟨rfl,O⟩⟩
 .show l[i].w.toNat-(m+1)<l[i].w.toNat-m;omega
 .rw[show l[i].x+((m+1:Nat):Int)=l[i].x+(m:Int)+1 by omega];exact Y
def Qaf{p:Prop}(h:p:=by rw[ym,show 0+i*1=i by omega,hz,<-s1,G4 hlt _ s2]):p:=h
def yl3(g:Gnd)(l:List Bld)(c:Int)(i:Nat):j5 g l c (i+1) i=yp g l c i/\∀s,s≠i->j5 g l c (i+1) s=j5 g l c i s:=by
 unfold j5;refine⟨if_pos Z,λs b=>?_⟩;by_cases a:s<i
 .rw[if_pos Z,if_pos a]
 .rw[if_neg Z,if_neg a]
def zbi(g:Gnd)(z:zt g)(l:List Bld)(D:Γ l<=1000000000000)(G:∀b∈l,yh b/\onP g b)(c:Int)(E:c=0\/c=1\/c=2)(e:Store)(R:Ja)(h:R (opV g l c) e):
  Jb 174 [.agg (zq g),lst 6 zk l,int c] e R:=by
 have L:=qg z;refine Qb (c:=cfg 37) zb func174 ?_;refine AWp.seq (AWp.of_vc zb ?_);refine AWp.seq (AWp.of_vc zb ?_);refine yi3 g z l D G _ _ (λb B=>?_);refine AWp.meetA (σ:=Unit) ⟨λ_=>[(7,.av (blV b (Γ g.T)))],λ_=>[],λ_ a=>a=e.sO b (.cells (bl (Γ g.T) (yp g l c)))⟩ ?_ ?_
 .refine AWp.of_vc zb ?_
  refine AWp.loop (σ:=Nat) ⟨λi=>[(2,.av (int c)),(3,.bx 3 0),(7,.av (blV b (Γ g.T))),(8,.av (int (i:Nat)))],λ_=>[(3,zq g)],
   λi a=>i<=Γ g.T/\a=e.sO b (.cells (bl (Γ g.T) (j5 g l c i))),λi=>Γ g.T-i⟩ zb ?_ ?_
  .refine⟨0,O,⟨Fae _,?_⟩,Qbt,⟨rfl,O⟩⟩;rw[show j5 g l c 0=xn g l from funext λt=>if_neg (Fav t)]
  rintro i a ⟨K,rfl⟩;refine bcd (λH=>?_) (λH=>?_);rotate_left
  .have:i=Γ g.T:=Z;subst this;refine⟨(),?_,⟨Y,O⟩,O⟩;have:bl (Γ g.T) (j5 g l c (Γ g.T))=bl (Γ g.T) (yp g l c):=by
    unfold bl j5;exact Fbw λt C=>by rw[if_pos (Fbe.1 C)]
   rw[this]
  have hlt:i<Γ g.T:=Z;obtain⟨s1,s2⟩:=yl3 g l c i;have w:(e.sO b (.cells (bl (Γ g.T) (j5 g l c i)))).obj b=Δ (.cells (bl (Γ g.T) (j5 g l c i))):=zd _ _ _;have hmid:j5 g l c i i=xn g l i:=if_neg (Fdo i);have hhead:((bl (Γ g.T) (j5 g l c i)).drop (0+i*1)).head?=Δ (V.bool (xn g l i)):=by rw[Fb0,show 0+i*1=i by omega,Ix hlt,hmid]
  refine⟨i,rfl,hlt,?_⟩;refine J _ w (J _ hhead ?_);have p:g.T[i].toNat<=5:=z.2.2.2 _ (Faa hlt);have hget:g.T.getD i 0=g.T[i]:=by simp[hlt]
  refine zg (λf=>?_) (λf=>?_)
  .have f:xn g l i=false:=by simpa using f
   refine⟨i,rfl,J _ (zm hlt) ?_⟩;refine o9 c E g.T[i] p _ _ ?_;have hz:decide (0<Bo c g.T[i].toNat)=yp g l c i:=by unfold yp;rw[f,hget];rfl
   refine⟨i,rfl,hlt,?_⟩;refine yu (i:=ti4) (v:=V.bool (decide (0<Bo c g.T[i].toNat))) (b:=b) (o:=0+i*1) (l:=_) (st2:=e.sO b (.cells (bl (Γ g.T) (j5 g l c (i+1))))) rfl rfl rfl w θf Qaf ?_;refine Qd ?_;refine⟨i+1,?_,⟨Z,rfl⟩,Qbt,⟨rfl,O⟩⟩;show Γ g.T-(i+1)<Γ g.T-i;omega
  .have f:xn g l i=true:=by simpa using f
   have hz:false=yp g l c i:=by unfold yp;rw[f];rfl
   refine⟨i,rfl,hlt,?_⟩;refine yu (i:=ti4) (v:=V.bool false) (b:=b) (o:=0+i*1) (l:=_) (st2:=e.sO b (.cells (bl (Γ g.T) (j5 g l c (i+1))))) rfl rfl rfl w θf Qaf ?_;refine Qd ?_;refine⟨i+1,?_,⟨Z,rfl⟩,Qbt,⟨rfl,O⟩⟩;show Γ g.T-(i+1)<Γ g.T-i;omega
 .rintro _ _ rfl;refine AWp.freeze (d:=7) (b:=b) (k:=1) (n:=Γ g.T) (cap:=Γ g.T) (rows:=rws jm (blL (Γ g.T) (yp g l c))) (pad:=[]) rfl ?_ ?_ ?_ (Fai _) ?_ ?_ ?_
  .rw[Rg];exact zd _ _ _
  .exact B.2
  .rw[zj,jd]
  .intro j u;obtain⟨x,_,rfl⟩:=Fag.1 u;rfl
  .intro j u y A;obtain⟨x,_,rfl⟩:=Fag.1 u;simp[jm]at A;exact⟨_,A,rfl⟩
  rw[Ml B.1];refine AWp.of_vc zb ?_;exact ret h
def yib(g:Gnd)(n:zt g)(l:List Bld)(hl:Γ l<=1000000000000)(hb:∀b∈l,yh b/\onP g b)(c:Int)(G:c=0\/c=1\/c=2)(p:Vc)(w:qv p.1 p.2)(r:Int)(A:0<r/\r<=262144)(st:Store)(R:Ja)
  (h:∀z:Bool,(z=true↔Cy g l c p r)->R (V.bool z) st):Jb 103 [.agg (zq g),lst 6 zk l,int c,.agg (zr p),int r] st R:=by
 have M:=qg n;have E:=n.1;have D:=n.2.1;have o:=w;unfold qv at o;have no:¬Cy g l c p r->R (V.bool false) st:=λhn=>h false θ7;refine Qy 65 func103 ?_;refine bcd (λL=>ret (no λq=>θb)) (λL=>?_);refine bcd (λK=>ret (no λq=>θb)) (λK=>?_);refine Qd ?_;refine Qd ?_;refine bcd (λI=>ret (no λq=>θb)) (λI=>?_);refine Qd ?_;refine Qd ?_;refine bcd (λH=>ret (no λq=>θb)) (λH=>?_);refine zbi g n l hl hb c G _ _ ?_
 refine AWp.loop (σ:=Nat) ⟨λi=>[(4,.av (int r)),(5,.bx 5 0),(8,.bx 8 0),(11,.av (opV g l c)),(12,.av (int (i:Nat)))],λ_=>[(5,zq g),(8,zr p)],
  λi j=>i<=Γ g.T/\j=st/\∀t,t<i->yp g l c t=false->¬jg g t p r,λi=>Γ g.T-i⟩ zb ?_ ?_
 .exact⟨0,O,⟨Fae _,rfl,λt y=>Z⟩,Qbt,⟨rfl,rfl,O⟩⟩
 rintro i j ⟨C,rfl,a⟩;refine zg (λf=>?_) (λf=>?_);rotate_left
 .have f:=qr f (by rw[jd];exact C);rw[jd]at f;subst f;exact ret (h true (by simp only[true_iff];exact⟨Z,a⟩))
 have d:=ql f;rw[jd]at d;refine⟨i,rfl,J _ (zhr d) ?_⟩;have next:(yp g l c i=false->¬jg g i p r)->∀t,t<i+1->yp g l c t=false->¬jg g t p r:=λB t y k=>by
  by_cases e:t=i
  .subst e;exact B k
  .exact a t Z k
 refine ya ?_;refine zg (λv=>?_) (λv=>?_)
 .refine Qd ?_;refine⟨i+1,?_,⟨Z,rfl,next λk=>by rw[v]at k;cases k⟩,Qbt,⟨rfl,rfl,O⟩⟩;show Γ g.T-(i+1)<Γ g.T-i;omega
 refine zdm g n i Z p w r A _ _ ?_;refine bcd (λu=>?_) (λu=>?_)
 .exact ret (no λq=>q.2 i d v u)
 .refine Qd ?_;refine⟨i+1,?_,⟨Z,rfl,next λ_=>u⟩,Qbt,⟨rfl,rfl,O⟩⟩;show Γ g.T-(i+1)<Γ g.T-i;omega
def zes(g:Gnd)(f:zt g)(t:Nat)(c:(t:Int)<g.W*g.H)(x:Int)(b:x=(t:Int))(p:Vc)(e:qv p.1 p.2)(r:Int)(d:0<r/\r<=262144)(a:Store)(R:Ja)(h:R (V.bool (decide (jg g t p r))) a):
  Jb 276 [.agg (zq g),int x,.agg (zr p),int r] a R:=by
 subst b;exact yn9 g f t c p e r d a R h
def zfm(g:Gnd)(d:zt g)(l:List Bld)(c:Int)(p:Vc)(X:p.ok)(r:Int)(f:0<r/\r<=262144)(st:Store)(R:Ja)
  (h:∀z:Bool,(z=true↔Cy g l c p r)->R (V.bool z) st):Jb 186 [.agg (zq g),opV g l c,.agg (zr p),int r] st R:=by
 have ha:=qg d;have η:=d.1;have ε:=d.2.1;have no:¬Cy g l c p r->R (V.bool false) st:=λhn=>h false θ7;refine Qy 112 func186 ?_;refine Qc zb yfp ?_;refine Qd ?_;refine Qd ?_;refine Qbw ?_;refine Qbx ?_;refine ysb p r _ _ (λz K=>?_);refine ya ?_;refine zg (λw=>?_) (λw=>ret (no λq=>by have:=K.2 ⟨⟨Z,f.2⟩,by unfold qv;have:=q.1;omega⟩;rw[this]at w;cases w));have L:=(K.1 w).2;have E:=L;unfold qv at E;refine Qd ?_;refine bcd (λc1=>ret (no λq=>θb)) (λc1=>?_);refine Qd ?_;refine bcd (λc2=>ret (no λq=>θb)) (λc2=>?_);refine Qd ?_;refine bcd (λc3=>ret (no λq=>θb)) (λc3=>?_);refine Qd ?_;refine bcd (λc4=>ret (no λq=>θb)) (λc4=>?_);refine Qd ?_;refine⟨ψ,?_⟩;have B:(p.2-r).tdiv 65536=(p.2-r)/65536:=Fat Z;have D:(p.1-r).tdiv 65536=(p.1-r)/65536:=Fat Z;have A:(p.2+r).tdiv 65536=(p.2+r)/65536:=Fat Z;have C:(p.1+r).tdiv 65536=(p.1+r)/65536:=Fat Z;refine Qd ?_;rw[B]
 refine AWp.loop (σ:=Nat) ⟨λk=>[(1,.av (opV g l c)),(3,.av (int r)),(4,.bx 4 0),(6,.bx 6 0),(11,.av (int ((p.2-r)/65536+(k:Nat))))],λ_=>[(4,zq g),(6,zr p)],
  λk a=>a=st/\((k:Int)<=g.H-(p.2-r)/65536\/k=0)/\Ow g l c p r ((p.2-r)/65536+(k:Nat)),λk=>(g.H-(p.2-r)/65536).toNat-k⟩ zb ?_ ?_
 .refine⟨0,O,⟨rfl,.inr rfl,?_⟩,⟨Y,Y,Y,Y,?_,O⟩,⟨rfl,rfl,O⟩⟩
  .rw[show(p.2-r)/65536+((0:Nat):Int)=(p.2-r)/65536 by omega];exact ytf f.1 Z
  .rw[show(p.2-r)/65536+((0:Nat):Int)=(p.2-r)/65536 by omega];exact Y
 rintro k a ⟨rfl,hk,o⟩;refine Qd ?_;refine⟨ψ,?_⟩;refine Qd ?_;rw[A]
 have done:(¬((p.2-r)/65536+(k:Int)<=(p.2+r)/65536)\/¬((p.2-r)/65536+(k:Int)<g.H))->R (V.bool true) a:=λi=>
  h true (by simp only[true_iff];exact⟨Z,ytg d f.1 Z i o⟩)
 refine bcd (λP=>?_) (λP=>ret (done (.inl P)));refine bcd (λv=>?_) (λv=>ret (done (.inr v)));refine Qd ?_;refine⟨ψ,?_⟩;refine Qd ?_;rw[D];have S:0<=(p.2-r)/65536:=Z;have U:0<=(p.1-r)/65536:=Z
 refine AWp.loop (σ:=Nat) ⟨λm=>[(1,.av (opV g l c)),(3,.av (int r)),(4,.bx 4 0),(6,.bx 6 0),(11,.av (int ((p.2-r)/65536+(k:Nat)))),(12,.av (int ((p.1-r)/65536+(m:Nat))))],λ_=>[(4,zq g),(6,zr p)],
  λm j=>j=a/\((m:Int)<=g.W-(p.1-r)/65536\/m=0)/\Sc g l c p r ((p.2-r)/65536+(k:Nat)) ((p.1-r)/65536+(m:Nat)),λm=>(g.W-(p.1-r)/65536).toNat-m⟩ zb ?_ ?_
 .refine⟨0,O,⟨rfl,.inr rfl,?_⟩,⟨Y,Y,Y,Y,Y,?_,O⟩,⟨rfl,rfl,O⟩⟩
  .rw[show(p.1-r)/65536+((0:Nat):Int)=(p.1-r)/65536 by omega];exact yti f.1 Z
  .rw[show(p.1-r)/65536+((0:Nat):Int)=(p.1-r)/65536 by omega];exact Y
 rintro m j ⟨rfl,hm,b⟩;refine Qd ?_;refine⟨ψ,?_⟩;refine Qd ?_;rw[C];have done2:(¬((p.1-r)/65536+(m:Int)<=(p.1+r)/65536)\/¬((p.1-r)/65536+(m:Int)<g.W))->Ow g l c p r ((p.2-r)/65536+((k+1:Nat):Int)):=λi=>by rw[pq];exact ytj d f.1 Z i o b
 have mu:(g.H-(p.2-r)/65536).toNat-(k+1)<(g.H-(p.2-r)/65536).toNat-k:=zdj (Int.lt_sub_left_of_add_lt v);have step2:LV.le (jq .i64 ((p.2-r)/65536+(k:Int)+1)) (.av (int ((p.2-r)/65536+((k+1:Nat):Int)))):=by rw[pq];exact Y
 refine bcd (λM=>?_) (λM=>ze Z ⟨k+1,mu,⟨rfl,.inl (W6 v),done2 (.inl M)⟩,⟨Y,Y,Y,Y,step2,O⟩,⟨rfl,rfl,O⟩⟩);refine bcd (λu=>?_) (λu=>ze Z ⟨k+1,mu,⟨rfl,.inl (W6 v),done2 (.inr u)⟩,⟨Y,Y,Y,Y,step2,O⟩,⟨rfl,rfl,O⟩⟩);obtain⟨Q,q2,q3,q4⟩:=Lk d (x:=(p.1-r)/65536+(m:Int)) (y:=(p.2-r)/65536+(k:Int)) Z Z;have q5:0<=g.W*((p.2-r)/65536+(k:Int)):=Fax Z Z;have hstep:=yth (l:=l) (c:=c) (p:=p) (r:=r) d (x:=(p.1-r)/65536+(m:Int)) (y:=(p.2-r)/65536+(k:Int)) Z Z b;refine Qd ?_;refine Qd ?_;obtain⟨n,hn⟩:∃n:Nat,(n:Int)=(p.1-r)/65536+(m:Int)+g.W*((p.2-r)/65536+(k:Int)):=⟨_,Int.toNat_of_nonneg Q⟩
 rw[<-hn,Faz]at hstep;have t:n<Γ g.T:=Z;have mu2:(g.W-(p.1-r)/65536).toNat-(m+1)<(g.W-(p.1-r)/65536).toNat-m:=zdj (Int.lt_sub_left_of_add_lt u);have G:(p.1-r)/65536+((m+1:Nat):Int)=(p.1-r)/65536+(m:Int)+1:=pq _ _;have step3:LV.le (jq .i64 ((p.1-r)/65536+(m:Int)+1)) (.av (int ((p.1-r)/65536+((m+1:Nat):Int)))):=by rw[G];exact Y
 refine⟨n,hn.symm,J _ (zhr t) ?_⟩;refine ya ?_;refine zg (λI=>?_) (λI=>?_)
 .refine Qd ?_;exact⟨m+1,mu2,⟨rfl,.inl (W6 u),by rw[G];exact hstep λi=>by rw[I]at i;cases i⟩,⟨Y,Y,Y,Y,Y,step3,O⟩,⟨rfl,rfl,O⟩⟩
 refine zes g d n Z _ hn.symm p L r f _ _ ?_;refine bcd (λe=>?_) (λe=>?_)
 .exact ret (no λq=>q.2 n t I e)
 .refine Qd ?_;exact⟨m+1,mu2,⟨rfl,.inl (W6 u),by rw[G];exact hstep λ_=>e⟩,⟨Y,Y,Y,Y,Y,step3,O⟩,⟨rfl,rfl,O⟩⟩
def zee(x:Int)(st:Store)(R:Ja)(h:R (V.bool false) st):Jb 317 [int x] st R:=by refine Qy 6 func317 ?_;refine⟨_,st,Tt,Store.Has.refl st,?_⟩;have e:(x != x)=false:=φ;rw[<-e]at h;exact h
def cx(x y:Int)(st:Store)(R:Ja)(h:R (int (vf x y)) st):Jb 214 [int x,int y] st R:=by
 refine Qy 20 func214 ?_;refine zee _ _ _ ?_;refine zee _ _ _ ?_;unfold vf at h;refine zg (λh1=>⟨_,st,Tt,Store.Has.refl st,?_⟩) (λh1=>?_)
 .rw[if_pos θe]at h;exact h
 .rw[if_neg θe]at h;refine zg (λh2=>⟨_,st,Tt,Store.Has.refl st,?_⟩) (λh2=>⟨_,st,Tt,Store.Has.refl st,?_⟩)
  .rw[if_pos θt]at h;exact h
  .rw[if_neg θt]at h;exact h
def zh1(u:Unt)(id:Int)(st:Store)(R:Ja)(h:R (int (vf u.id id)) st):Jb 281 [.agg (zf u),int id] st R:=by refine Qy 9 func281 ?_;exact cx u.id id _ _ (ret h)
def N7(l:List Unt)(id:Int)(i:Nat):Prop:=i<=Γ l/\(∀j,(h:j<Γ l)->j<i->l[j].id<id)/\∀j,(h:j<Γ l)->i<=j->id<=l[j].id
def yty(l:List Unt)(hl:Γ l<=1000000000000)(D:yw l)(id:Int)(st:Store)(R:Ja)
  (h:∀i,N7 l id i->∀z:Bool,(z=true↔∃S:i<Γ l,l[i].id=id)->R (.tup [int (i:Nat),V.bool z]) st):Jb 280 [lst 10 zf l,int id,.clos 281 []] st R:=by
 refine Qy 49 func280 ?_
 refine AWp.loop (σ:=Nat×Nat) ⟨λs=>[(0,.av (lst 10 zf l)),(1,.av (int id)),(2,.av (.clos 281 [])),(8,.av (int (Γ l:Nat))),(9,.av (int (s.1:Nat))),(10,.av (int (s.2:Nat)))],λ_=>[],
  λs t=>t=st/\s.1<=s.2/\s.2<=Γ l/\(∀j,(h:j<Γ l)->j<s.1->l[j].id<id)/\∀j,(h:j<Γ l)->s.2<=j->id<=l[j].id,λs=>s.2-s.1⟩ zb ?_ ?_
 .refine⟨(0,Γ l),O,⟨rfl,Fae _,Fai _,λj _ u=>Z,λj u G=>Z⟩,⟨Y,Y,Y,?_,Y,?_,O⟩,O⟩
  .rw[<-zj (f:=zf) l];exact Y
  .rw[<-zj (f:=zf) l];exact Y
 rintro⟨i,j⟩ t ⟨rfl,A,u,k,c⟩;dsimp only at A u k c⊢;refine bcd (λL=>?_) (λL=>?_);rotate_left
 .have e:i=j:=Z;subst e;have v:N7 l id i:=⟨u,k,c⟩
  refine bcd (λd=>?_) (λd=>?_)
  .have g:i<Γ l:=Z;refine⟨i,rfl,J _ (zm g) ?_⟩;refine zh1 l[i] id _ _ ?_;refine ret (h i v _ ?_);have:=c i g (Fai _);unfold vf;rw[if_neg Z];by_cases e:l[i].id=id
   .rw[if_neg Z];simp[g,e]
   .rw[if_pos Z];simp[e]
  .exact ret (h i v _ χ)
 refine Qd ?_;refine⟨ψ,?_⟩;have hmid:(IntKind.u64.wrap ((i:Int)+(j:Int))).fdiv (2^(min (1:Int).toNat IntKind.u64.bits))=(((i+j)/2:Nat):Int):=by
  have Q:IntKind.u64.wrap ((i:Int)+(j:Int))=((i+j:Nat):Int):=by simp[IntKind.wrap,IntKind.bits,IntKind.signed];omega
  have P:(2:Int)^(min (1:Int).toNat IntKind.u64.bits)=2:=rfl;have M:(((i+j:Nat):Int)).fdiv 2=(((i+j)/2:Nat):Int):=by rw[Fdj _ ψ];rfl
  rw[Q,P,M]
 have E:(i+j)/2<j:=Z;have y:i<=(i+j)/2:=Z;have o:(i+j)/2<Γ l:=Z;have hmono:∀a b,(w:a<Γ l)->(hb:b<Γ l)->a<=b->l[a].id<=l[b].id:=by
  intro a b w hb I;induction b with
  |zero=>
   have:a=0:=Z;subst this;exact Fcw _
  |succ b C=>
   by_cases e:a=b+1
   .subst e;exact Fcw _
   .have d:=C Z Z;have K:=D (b+1) hb Z;simp only[Fec]at K;omega
 refine⟨by rw[hmid];exact⟨Z,Z⟩,?_⟩;refine⟨(i+j)/2,hmid,J _ (zm o) ?_⟩;refine zh1 l[(i+j)/2] id _ _ ?_;have B:vf l[(i+j)/2].id id<0↔l[(i+j)/2].id<id:=by
  unfold vf;split
  .omega
  .split<;>omega
 refine bcd (λd=>?_) (λd=>?_)
 .have d:=B.1 d;refine ze (by rw[hmid];omega) ?_;refine⟨((i+j)/2+1,j),?_,⟨rfl,ζ,u,λa w p=>?_,c⟩,⟨Y,Y,Y,Y,?_,Y,O⟩,O⟩
  .show j-((i+j)/2+1)<j-i;omega
  .have:=hmono a ((i+j)/2) w o (by dsimp only at p;omega);omega
  .dsimp only;exact(congrArg (λn:Int=>LV.le (jq .i64 (n+1)) (.av (int (((i+j)/2+1:Nat):Int)))) hmid).mpr (Y)
 .have d:¬l[(i+j)/2].id<id:=λH=>d (B.2 H);refine⟨(i,(i+j)/2),?_,⟨rfl,y,ζ,k,λa w p=>?_⟩,⟨Y,Y,Y,Y,Y,?_,O⟩,O⟩
  .show(i+j)/2-i<j-i;omega
  .have:=hmono ((i+j)/2) a o w (by dsimp only at p;omega);omega
  .dsimp only;exact(congrArg (λn:Int=>LV.le (jq .i64 n) (.av (int (((i+j)/2:Nat):Int)))) hmid).mpr (Y)
def p7(l:List Unt)(hl:Γ l<=1000000000000)(c:yw l)(id:Int)(st:Store)(R:Ja)
  (h:∀i,N7 l id i->∀z:Bool,(z=true↔∃a:i<Γ l,l[i].id=id)->R (.tup [int (i:Nat),V.bool z]) st):Jb 190 [lst 10 zf l,int id] st R:=by
 refine Qy 11 func190 ?_;exact yty l hl c id _ _ λi a z b=>ret (h i a z b)
def yk0(l:List Int)(hl:Γ l<=1000000)(st:Store)(R:Ja)(h:R (int (orZ l)) st):Jb 213 [yq l] st R:=by
 refine Qy 18 func213 ?_;refine AWp.loop (σ:=Nat) ⟨λi=>[(3,.av (int 0)),(6,.av (yq l)),(7,.av (int (Γ l))),(8,.av (int i))],λ_=>[],λi a=>i<=Γ l/\a=st/\orZ (l.drop i)=orZ l,λi=>Γ l-i⟩ zb ?_ ?_
 .refine⟨0,O,⟨Fae _,rfl,rfl⟩,⟨Y,Y,?_,Y,O⟩,O⟩;rw[<-zj l];exact Y
 .rintro i a ⟨e,rfl,b⟩;refine zg (λh1=>?_) (λh1=>?_)
  .have c:i<Γ l:=by simpa using h1
   have hdrop:l.drop i=l[i]::l.drop (i+1):=by rw[Fcs c]
   refine⟨i,rfl,J _ (zm c) ?_⟩;refine zg (λh2=>⟨_,a,Tt,Store.Has.refl a,?_⟩) (λh2=>?_)
   .rw[<-b,hdrop]at h;unfold orZ at h;rw[List.find?_cons_of_pos θt]at h;exact h
   .have h2:l[i]=0:=by simpa using h2
    refine⟨⟨Z,Z⟩,?_⟩;refine⟨i+1,?_,⟨c,rfl,?_⟩,Qbt,O⟩
    .show Γ l-(i+1)<Γ l-i;omega
    .rw[<-b,hdrop];unfold orZ;rw[List.find?_cons_of_neg (by simp[h2])]
  .have d:i=Γ l:=by
    have:¬i<Γ l:=θe;omega
   subst d;refine⟨_,a,Tt,Store.Has.refl a,?_⟩;rw[<-b,Fen]at h;exact h
end Go.Proofs
