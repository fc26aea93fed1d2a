/- Lemmas of thronglaw29; no conditions. -/
import Derived.Test.YtphhbmaalpdnoaaGreatKN
set_option linter.unusedSimpArgs false
set_option linter.unusedVariables false
set_option linter.defProp false
open List renaming length→Γ
open Option renaming some→Δ,none→Θ
namespace Go.Proofs
open Go Go.V Tryz
set_option maxRecDepth 20000
set_option maxHeartbeats 4000000
section
variable {m x:Int} {i:Nat}
def Be{p:Vc}(h:xt p):p.ok:=by unfold xt at h;exact⟨⟨Z,Z⟩,⟨Z,Z⟩⟩
def zce{p q:Vc}(b:xt p)(a:xt q):Aj (if q9 p q=(0,0)then(65536,0)else q9 p q):=by
 split
 .unfold Aj;decide
 .exact La a b
def zbj{v:Vc}(h:Aj v):0<=j1 (sqr v):=(H9 (Ha (Fg h)).2.2.1).1
def yay(p:Vc)(r:Int)(q:Vc)(g:xt p)(f:xt q)(w:0<=r/\r<=1048576)(st:Store)(R:Ja)(h:R (.agg (zr (vj p r q))) st):
  Jb 305 [.agg (zr p),int r,.agg (zr q)] st R:=by
 have c:=La f g;have b:=(Ha (Fg c)).2.2.1;have o:=zbj c;have harg:=zce g f;have j:=H9 b;unfold vj at h;refine Qy 29 func305 ?_;refine Su p q r (Be g) (Be f) Z _ _ ?_;refine ya ?_;refine zg (λn=>?_) (λn=>?_);rotate_left
 .rw[if_neg (by rw[n];decide)]at h;exact ret h
 rw[if_pos n]at h;refine Sx p q (Be g) (Be f) _ _ ?_;refine mr _ (I1 p q) _ _ (λL v=>?_);have l:=Pt b v;subst l;have u:j1 (sqr (q9 p q))<=1099511627776*2:=by
  obtain⟨_,_,B,_⟩:=j;have e:=(Ha (Fg c)).1;unfold Aj at c;generalize j1 (sqr (q9 p q))=L at*;by_cases t:L<=1099511627776*2
  .exact t
  .have A:(1099511627776*2+1)*(1099511627776*2+1)<=L*L:=Fa9 Z Z Z Z;have z:(q9 p q).1*(q9 p q).1<=1099511627776*1099511627776:=by
    rw[K7];exact Fa9 Z Z Z Z
   have y:(q9 p q).2*(q9 p q).2<=1099511627776*1099511627776:=by rw[K7];exact Fa9 Z Z Z Z
   omega
 have k:qh r (j1 (sqr (q9 p q)))=r-j1 (sqr (q9 p q)):=by unfold qh;rw[Gi Z,Mh Z Z];omega
 refine I7 _ _ ⟨Z,Z⟩ ⟨Z,Z⟩ _ _ ?_;rw[k];generalize j1 (sqr (q9 p q))=L at*;generalize q9 p q=d at*;refine zg (λa=>?_) (λa=>?_)
 .have a:d=(0,0):=by
   simp only[Fay,beq_iff_eq]at a;exact Prod.ext a.1 a.2.1
  subst a;refine de (65536,0) (r-L) harg Z _ _ ?_;exact ret h
 .have a:¬d=(0,0):=λe=>by
   rw[e]at a;exact absurd a ψ
  rw[if_neg a]at h harg;refine de d (r-L) harg Z _ _ ?_;exact ret h
def yt8(a:0<=m)(d:m<18446744073709551616)(c:i<64):xf .and .u64 (m.fdiv (2^(min ((i:Int).tmod 64).toNat IntKind.u64.bits))) 1=(m/2^i)%2:=by
 have e:min ((i:Int).tmod 64).toNat IntKind.u64.bits=i:=by
  have:(i:Int).tmod 64=i:=by rw[Fcn Z];omega
  rw[this];show min ((i:Int)).toNat 64=i;omega
 have b:(0:Int)<2^i:=Fdw ψ;rw[e,Fdj _ Z];exact yu4 (Fb3 a Z) (by have:=Fc0 (2^i) a;omega)
theorem zht(b:0<=m)(e:m<18446744073709551616)(a:64<=i):m/2^i=0:=by
 have d:(2:Int)^64<=2^i:=by exact_mod_cast Nat.pow_le_pow_right ψ a
 have c:(2)^64=18446744073709551616:=ψ;exact Fb9 b Z
def yoi(i:Nat):m/2^i=2*(m/2^(i+1))+(m/2^i)%2:=by
 have h:m/2^(i+1)=m/2^i/2:=by have a:(0:Int)<2^i:=Fdw ψ;rw[Int.pow_succ,Int.ediv_ediv,if_neg (λb=>Z),Int.sub_zero]
 omega
def zcq{b:Int}(a:0<=x)(d:2*x+1<18446744073709551616)(c:b=0\/b=1):xf .or .u64 (IntKind.u64.wrap (x*2^(min (1:Int).toNat IntKind.u64.bits))) b=2*x+b:=by obtain⟨n,rfl⟩:=Fbk a;have e:min (1:Int).toNat IntKind.u64.bits=1:=rfl;rw[e,kx Z Z];have:=zcr (n:=b) (q:=n) (m:=1) Z Z Z;omega
def tn(a:0<=x)(b:x<9223372036854775808):x.fdiv (2^(min (63:Int).toNat IntKind.u64.bits))=0:=by have e:min (63:Int).toNat IntKind.u64.bits=63:=rfl;rw[e,Fdj _ ψ];exact Fb9 a Z
def ykw(m b:Int)(d:0<=m)(h1:m<9223372036854775808)(hb:0<b)(ο:b<9223372036854775808)(st:Store)(R:Ja)(h:∀z,R (.tup [u64 (m/b),V.bool z]) st):
  Jb 446 [.agg (ji m),u64 b] st R:=by
 have hw:ji m=[u64 0,u64 m]:=by unfold ji;rw[Fb9 d Z,Fc7 d Z]
 rw[hw];refine Qy 59 func446 ?_
 refine AWp.loop (σ:=Nat×Int) ⟨λk=>[(1,.av (u64 b)),(2,.bx 2 0),(6,.av (u64 (m/2^k.1/b))),(7,.av (u64 (m/2^k.1%b))),(8,.av (V.bool false)),(9,.av (int ((k.1:Int)-1)))],λ_=>[(2,[u64 0,u64 m])],
  λk g=>k.1<=128/\g=st,λk=>k.1⟩ zb ?_ ?_
 .have e:m/2^128=0:=zht d Z ψ;refine⟨(128,0),O,⟨Fai _,rfl⟩,⟨Y,Y,?_,?_,Y,Y,O⟩,⟨rfl,O⟩⟩
  .show LV.le (.av (u64 0)) (.av (u64 (m/2^128/b)));rw[e,Int.zero_ediv];exact Y
  .show LV.le (.av (u64 0)) (.av (u64 (m/2^128%b)));rw[e,Int.zero_emod];exact Y
 rintro⟨k,_⟩ g ⟨hk,rfl⟩;dsimp only at hk⊢;cases k with
 |zero=>
  have e:m/2^0=m:=by rw[Int.pow_zero,Int.ediv_one]
  have G:=h (decide (m/2^0%b>0));rw[show m/b=m/2^0/b by rw[e]]at G;exact ret G
 |succ i=>
 have hi:i<128:=Z;have p:((i+1:Nat):Int)-1=i:=Z;have T:=yoi (m:=m) i;have H:(m/2^i)%2=0\/(m/2^i)%2=1:=Z;have hp:(0:Int)<2^(i+1):=Fdw ψ;have τ:(0:Int)<2^i:=Fdw ψ;have u:0<=m/2^(i+1):=Fb3 d Z;have π:m/2^(i+1)<4611686018427387904:=by have G:m/2^i<=m:=Fc0 _ d;omega
 have c:0<=m/2^(i+1)/b:=Fb3 u Z;have ν:m/2^(i+1)/b<=m/2^(i+1):=Fc0 _ u;have n:0<=m/2^(i+1)%b:=Fcl _ Z;have ι:m/2^(i+1)%b<b:=Fc2 _ hb;have η:m/2^(i+1)%b<=m/2^(i+1):=by have G:=Int.mul_ediv_add_emod (m/2^(i+1)) b;have h3:=Fax (show 0<=b by omega) c;omega
 have I:=λ(t:Int) (x:0<=t)=>yr0 (A:=m/2^(i+1)) (b:=b) (t:=t) hb x;have K:=λ(t:Int) (x:0<=t) (y:t<=1)=>yr1 (A:=m/2^(i+1)) (b:=b) (t:=t) hb x y;have M:i<64->xf .and .u64 (m.fdiv (2^(min ((((i+1:Nat):Int)-1).tmod 64).toNat IntKind.u64.bits))) 1=(m/2^i)%2:=λh=>by rw[p];exact yt8 d Z h
 have P:64<=i->(m/2^i)%2=0:=λh=>by rw[zht d Z h];rfl
 have hz:∀y:Int,xf .and .u64 ((0:Int).fdiv y) 1=0:=λy=>by rw[Int.zero_fdiv];rfl
 have hmod:0<=(((i+1:Nat):Int)-1).tmod 64:=by rw[p];exact Int.tmod_nonneg _ Z
 have hone:xf .or .u64 (IntKind.u64.wrap (m/2^(i+1)/b*2^(min (1:Int).toNat IntKind.u64.bits))) 1=2*(m/2^(i+1)/b)+1:=zcq c Z (.inr rfl);have hdbl:IntKind.u64.wrap (m/2^(i+1)/b*2^(min (1:Int).toNat IntKind.u64.bits))=2*(m/2^(i+1)/b):=by have e:min (1:Int).toNat IntKind.u64.bits=1:=rfl;rw[e,kx Z Z];omega
 have o:∀t:Int,t=0\/t=1->xf .or .u64 (IntKind.u64.wrap (m/2^(i+1)%b*2^(min (1:Int).toNat IntKind.u64.bits))) t=2*(m/2^(i+1)%b)+t:=λt H=>zcq n Z H;have l:(m/2^(i+1)/b).fdiv (2^(min (63:Int).toNat IntKind.u64.bits))=0:=tn c Z;have j:(m/2^(i+1)%b).fdiv (2^(min (63:Int).toNat IntKind.u64.bits))=0:=tn n Z;have fin:∀t,t=(m/2^i)%2->∀(E D:Int),(b<=2*(m/2^(i+1)%b)+t->E=2*(m/2^(i+1)/b)+1/\D=2*(m/2^(i+1)%b)+t-b)->(¬b<=2*(m/2^(i+1)%b)+t->E=2*(m/2^(i+1)/b)/\D=2*(m/2^(i+1)%b)+t)->E=m/2^i/b/\D=m/2^i%b:=λt e E D X W=>by
  subst e;by_cases L:b<=2*(m/2^(i+1)%b)+(m/2^i)%2
  .obtain⟨S,Q⟩:=X L;obtain⟨w,v⟩:=K ((m/2^i)%2) Z Z L;rw[<-T]at w v;exact⟨by rw[S,w],by rw[Q,v]⟩
  .obtain⟨S,Q⟩:=W L;obtain⟨w,v⟩:=I ((m/2^i)%2) Z Z;rw[<-T]at w v;exact⟨by rw[S,w],by rw[Q,v]⟩
 refine bcd (λU=>?_) (λU=>absurd Z U);refine⟨ψ,?_⟩;refine⟨hmod,?_⟩
 -- the rest of the round,for the bit t
 refine bcd (λc2=>?_) (λc2=>?_)
 .refine⟨ψ,?_⟩;refine⟨hmod,?_⟩;have ε:(m/2^i)%2=0:=P Z;refine⟨ψ,?_⟩;refine⟨ψ,?_⟩;refine⟨ψ,?_⟩;refine zp (λC=>absurd (l.symm.trans C) ψ) (λC=>?_);refine⟨ψ,?_⟩;refine zp (λB=>absurd (j.symm.trans B) ψ) (λB=>?_);rw[hz,o 0 (.inl rfl)];refine bcd (λf=>?_) (λf=>?_)
  .have wr:IntKind.u64.wrap ((2*(m/2^(i+1)%b)+(0))-b)=(2*(m/2^(i+1)%b)+(0))-b:=kx Z Z;refine Qd ?_;refine⟨(i,0),Fcv i,⟨ζ,rfl⟩,⟨Y,Y,?_,?_,Y,?_,O⟩,⟨rfl,O⟩⟩
   .show LV.le (.av (u64 (xf .or .u64 (IntKind.u64.wrap (m/2^(i+1)/b*2^(min (1:Int).toNat IntKind.u64.bits))) 1))) (.av (u64 (m/2^i/b)));rw[hone,(fin (0) Z _ _ (λa=>⟨rfl,rfl⟩) (λa=>absurd f a)).1];exact Y
   .show LV.le (.av (u64 (IntKind.u64.wrap ((2*(m/2^(i+1)%b)+(0))-b)))) (.av (u64 (m/2^i%b)));rw[wr,(fin (0) Z _ _ (λa=>⟨rfl,rfl⟩) (λa=>absurd f a)).2];exact Y
   .exact LV.le_int Z
  .skip;refine Qd ?_;refine⟨(i,0),Fcv i,⟨ζ,rfl⟩,⟨Y,Y,?_,?_,Y,?_,O⟩,⟨rfl,O⟩⟩
   .show LV.le (.av (u64 (IntKind.u64.wrap (m/2^(i+1)/b*2^(min (1:Int).toNat IntKind.u64.bits))))) (.av (u64 (m/2^i/b)));rw[hdbl,(fin (0) Z _ _ (λa=>absurd a Z) (λa=>⟨rfl,rfl⟩)).1];exact Y
   .show LV.le (.av (u64 (2*(m/2^(i+1)%b)+(0)))) (.av (u64 (m/2^i%b)));rw[(fin (0) Z _ _ (λa=>absurd a Z) (λa=>⟨rfl,rfl⟩)).2];exact Y
   .exact LV.le_int Z
 .refine⟨ψ,?_⟩;refine⟨ψ,?_⟩;refine⟨ψ,?_⟩;refine zp (λC=>absurd (l.symm.trans C) ψ) (λC=>?_);refine⟨ψ,?_⟩;refine zp (λB=>absurd (j.symm.trans B) ψ) (λB=>?_);rw[M Z,o _ H];refine bcd (λf=>?_) (λf=>?_)
  .have wr:IntKind.u64.wrap ((2*(m/2^(i+1)%b)+((m/2^i)%2))-b)=(2*(m/2^(i+1)%b)+((m/2^i)%2))-b:=kx Z Z;refine Qd ?_;refine⟨(i,0),Fcv i,⟨ζ,rfl⟩,⟨Y,Y,?_,?_,Y,?_,O⟩,⟨rfl,O⟩⟩
   .show LV.le (.av (u64 (xf .or .u64 (IntKind.u64.wrap (m/2^(i+1)/b*2^(min (1:Int).toNat IntKind.u64.bits))) 1))) (.av (u64 (m/2^i/b)));rw[hone,(fin ((m/2^i)%2) (rfl) _ _ (λa=>⟨rfl,rfl⟩) (λa=>absurd f a)).1];exact Y
   .rw[wr,(fin ((m/2^i)%2) (rfl) _ _ (λa=>⟨rfl,rfl⟩) (λa=>absurd f a)).2];exact Y
   .exact LV.le_int Z
  .skip;refine Qd ?_;refine⟨(i,0),Fcv i,⟨ζ,rfl⟩,⟨Y,Y,?_,?_,Y,?_,O⟩,⟨rfl,O⟩⟩
   .rw[hdbl,(fin ((m/2^i)%2) (rfl) _ _ (λa=>absurd a Z) (λa=>⟨rfl,rfl⟩)).1];exact Y
   .rw[(fin ((m/2^i)%2) (rfl) _ _ (λa=>absurd a Z) (λa=>⟨rfl,rfl⟩)).2];exact Y
   .exact LV.le_int Z
end
def yas(q:Int)(f:0<=q)(d:q<9223372036854775808)(a:Bool)(st:Store)(R:Ja)(h:R (int (if a=true then -q else q)) st):Jb 447 [u64 q,V.bool a,V.bool false] st R:=by
 refine Qy 25 func447 ?_;refine zg (λc=>?_) (λc=>?_)
 .subst c;refine bcd (λb=>absurd b Z) (λb=>?_);refine Qd ?_;refine Qd ?_;have e:0-q=-q:=Z;rw[e];exact ret h
 .subst c;refine bcd (λb=>absurd b Z) (λb=>?_);refine Qd ?_;exact ret h
def Vy(c a b:Int)(o:-1099511627776<=c/\c<=1099511627776)(hm:0<=a/\a<=1048576)(hl:0<b/\b<9223372036854775808)(st:Store)(R:Ja)(h:R (int (Gw c a b)) st):
  Jb 399 [int c,int a,int b] st R:=by
 have hasz:=zh3 (c:=c) Z;obtain⟨x,f⟩:∃x,x=asz c:=⟨_,rfl⟩
 have d:0<=x/\x<=1099511627776:=by rw[f,hasz];split<;>omega
 have e:0<=x*a:=Fax d.1 hm.1;have n:x*a<=1099511627776*1048576:=Fa9 d.2 hm.2 hm.1 Z;have l:x*a/b<=x*a:=Fc0 _ e;have i:0<=x*a/b:=Fb3 e Z;have k:IntKind.u64.wrap a=a:=kx Z Z;have j:IntKind.u64.wrap b=b:=kx Z Z;refine Qy 24 func399 ?_;refine ic c Z _ _ ?_;rw[<-f];show ACalls _ _ [u64 x,u64 (IntKind.u64.wrap a)] _ _;rw[k];refine Pd x a d.1 Z hm.1 Z _ _ ?_;show ACalls _ _ [.agg (ji (x*a)),u64 (IntKind.u64.wrap b)] _ _;rw[j];refine ykw _ _ e Z hl.1 hl.2 _ _ (λz=>?_);refine yas _ i Z (decide (c<0)) _ _ ?_;unfold Gw at h;by_cases g:c<0
 .rw[if_pos (decide_eq_true g)];rw[if_pos g]at h hasz;rw[<-hasz,<-f]at h;exact ret h
 .rw[if_neg (by rw[decide_eq_false g];decide)];rw[if_neg g]at h hasz;rw[f,hasz];exact ret h
def Pz(v:Vc)(a:Int)(hv:Aj v)(hm:-9223372036854775808<=a/\a<=1048576)(st:Store)(R:Ja)(h:R (.agg (zr (je v a))) st):
  Jb 328 [.agg (zr v),int a] st R:=by
 have hn:=se hv;have d:=(Ha (Fg hv)).2.2.1;have i:=H9 d;have k:nrm v.1=v.1:=congrArg Prod.fst hn;have j:nrm v.2=v.2:=congrArg Prod.snd hn;unfold je at h;rw[hn,k,j]at h;obtain⟨o,n,_,_⟩:=i;have key:∀m:Int,m=max a 0->0<=m/\m<=1048576:=λm e=>Z;refine Qy 32 func328 ?_;refine Qc zb yb6 ?_;refine⟨Hc v.1 _ _ ⟨Qe,?_⟩,O⟩;refine⟨Hc v.2 _ _ ⟨Qe,?_⟩,O⟩;refine Qbw ?_;rw[k,j];have rest:=λ(m:Int) (hm:m=max a 0)=>key m hm;refine bcd (λl=>?_) (λl=>?_)
 .have c:(0:Int)=max a 0:=Z;have b:=rest 0 c;rw[<-c]at h;refine V2 v (fw hv) _ _ (λr f=>?_);have f:=Pt d f;subst f;generalize j1 (sqr v)=L at*;refine bcd (λg=>?_) (λg=>?_)
  .rw[if_pos g]at h;exact ret h
  rw[if_neg g]at h;refine Qc zb zap ?_;refine⟨Vy v.1 0 L hv.1 b Z _ _ ⟨Qe,?_⟩,O⟩;refine⟨Vy v.2 0 L hv.2 b Z _ _ ⟨Qe,?_⟩,O⟩;refine Qbw ?_;exact ret h
 .have c:a=max a 0:=Z;have b:=rest a c;rw[<-c]at h;refine V2 v (fw hv) _ _ (λr f=>?_);have f:=Pt d f;subst f;generalize j1 (sqr v)=L at*;refine bcd (λg=>?_) (λg=>?_)
  .rw[if_pos g]at h;exact ret h
  rw[if_neg g]at h;refine Qc zb zap ?_;refine⟨Vy v.1 a L hv.1 b Z _ _ ⟨Qe,?_⟩,O⟩;refine⟨Vy v.2 a L hv.2 b Z _ _ ⟨Qe,?_⟩,O⟩;refine Qbw ?_;exact ret h
def ib(p q:Vc)(s:Int)(b:xt p)(a:xt q)(c:0<=s/\s<=1048576)(st:Store)(R:Ja)(h:R (.agg (zr (Cc p q s))) st):Jb 337 [.agg (zr p),.agg (zr q),int s] st R:=by refine Qy 12 func337 ?_;refine Pp q p (Be a) (Be b) _ _ ?_;refine Pz _ s (La b a) Z _ _ ?_;exact ret h
def Ld{v:Vc}{m:Int}(a:Aj v):(je v m).ok:=by
 by_cases b:0<=m
 .have:=(df (Fg a) b).1;unfold wx at this;exact⟨⟨Z,Z⟩,⟨Z,Z⟩⟩
 .have e:je v m=je v 0:=by
   unfold je;rw[show max m 0=max 0 0 by omega]
  rw[e];have:=(df (Fg a) (Fcw 0)).1;unfold wx at this;exact⟨⟨Z,Z⟩,⟨Z,Z⟩⟩
def Qah{p:Prop}(h:p:=by repeat(first|exact O|refine⟨rfl,?_⟩|refine⟨⟨0,rfl,J _ rfl rfl⟩,?_⟩)):p:=h
def fc{x:Vc}(h:wx x):xp (0,0) x=x:=by unfold wx at h;unfold xp;rw[Mh Z Z,Mh Z Z];simp
def et{v:Vc}{m:Int}(a:Aj v):wx (je v m):=by
 by_cases b:0<=m
 .exact(df (Fg a) b).1
 .have e:je v m=je v 0:=by
   unfold je;rw[show max m 0=max 0 0 by omega]
  rw[e];exact(df (Fg a) (Fcw 0)).1
def zcf(p:Vc)(r:Int)(q:Vc):Nat->Vc
 |0=>(0,0)
 |_=>vj p r q
def yg0(p:Vc)(r:Int)(q:Vc)(l:xt p)(j:xt q)(C:0<=r/\r<=1048576)(st:Store)(R:Ja)(h:R (.agg (zr (vj p r q))) st):
  Jb 401 [.agg (zr p),int r,lst 2 zr [q]] st R:=by
 have n:=La j l;have g:=(Ha (Fg n)).2.2.1;have z:=zbj n;have harg:=zce l j;have y:=H9 g;refine Qy 50 func401 ?_
 refine AWp.loop (σ:=Nat) ⟨λi=>[(1,.av (int r)),(2,.av (lst 2 zr [q])),(3,.bx 3 0),(6,.bx 6 0),(7,.bx 7 0),(8,.av (int (i:Nat)))],λi=>[(3,zr p),(6,[int 0,int 0]),(7,zr (zcf p r q i))],
  λi a=>i<=1/\a=st,λi=>1-i⟩ zb ?_ ?_
 .exact⟨0,O,⟨Fae _,rfl⟩,Qbt,⟨rfl,rfl,rfl,O⟩⟩
 rintro i a ⟨D,rfl⟩;have o:i=0\/i=1:=Z;rcases o with rfl|rfl;rotate_left
 .exact ret h
 have next:∀x:Vc,x=vj p r q->∃k:Nat,1-k<1-0/\(k<=1/\a=a)/\k=1/\zr (zcf p r q k)=zr x:=λx e=>⟨1,ψ,⟨Fai _,rfl⟩,rfl,by rw[e];rfl⟩
 unfold vj at next
 refine Qc zb ybs ?_;refine⟨0,rfl,J _ rfl ?_⟩;refine⟨za0 p q r (Be l) (Be j) ⟨Z,Z⟩ _ _ ⟨Qe,?_⟩,O⟩;refine ya ?_;refine zg (λw=>?_) (λw=>?_);rotate_left
 .rw[if_neg (by rw[w];decide)]at next
  obtain⟨k,f,c,rfl,b⟩:=next _ rfl
  refine Qd ?_;exact⟨1,f,c,Qbt,⟨rfl,rfl,congrArg Δ b.symm,O⟩⟩
 rw[if_pos w]at next
 refine Qc zb ybr ?_;refine⟨0,rfl,J _ rfl ?_⟩;refine⟨Pp p q (Be l) (Be j) _ _ ⟨O,⟨⟨Qah,⟨⟨O,?_⟩,O⟩⟩,O⟩⟩,⟨⟨Qah,⟨Pp p q (Be l) (Be j) _ _ ⟨O,⟨⟨O,?_⟩,O⟩⟩,O⟩⟩,O⟩⟩
 all_goals
  refine V2 _ (I1 p q) _ _ (λL B=>?_);have t:=Pt g B;subst t;have A:j1 (sqr (q9 p q))<=9223372036854775807-1048576-1048576:=by
   have H:=yhc (Fg n) (m:=4398046511104) ψ (by
    unfold Aj at n;have G:(q9 p q).1*(q9 p q).1<=1099511627776*1099511627776:=by rw[K7];exact Fa9 Z Z Z Z
    have E:(q9 p q).2*(q9 p q).2<=1099511627776*1099511627776:=by rw[K7];exact Fa9 Z Z Z Z
    omega)
   omega
  generalize j1 (sqr (q9 p q))=L at*;generalize q9 p q=d at*;refine zp (λv=>?_) (λv=>?_)
  .refine zp (λu=>?_) (λu=>?_)
   .have e:d=(0,0):=Prod.ext v u;rw[if_pos e]at next harg
    refine Qc zb gu ?_;refine Qd ?_;refine⟨Pz (65536,0) (r-L) harg Z _ _ ⟨Qe,?_⟩,O⟩;refine⟨Pq (0,0) _ ⟨⟨ψ,ψ⟩,⟨ψ,ψ⟩⟩ (Ld harg) _ _ ⟨Qe,?_⟩,O⟩;refine Qbw ?_;obtain⟨k,f,c,rfl,b⟩:=next _ (fc (et harg))
    refine Qd ?_;exact⟨1,f,c,Qbt,⟨rfl,rfl,congrArg Δ b.symm,O⟩⟩
   .have e:¬d=(0,0):=λe=>u (by rw[e]);rw[if_neg e]at next harg
    refine Qc zb gu ?_;refine Qd ?_;refine⟨Pz d (r-L) harg Z _ _ ⟨Qe,?_⟩,O⟩;refine⟨Pq (0,0) _ ⟨⟨ψ,ψ⟩,⟨ψ,ψ⟩⟩ (Ld harg) _ _ ⟨Qe,?_⟩,O⟩;refine Qbw ?_;obtain⟨k,f,c,rfl,b⟩:=next _ (fc (et harg))
    refine Qd ?_;exact⟨1,f,c,Qbt,⟨rfl,rfl,congrArg Δ b.symm,O⟩⟩
  .have e:¬d=(0,0):=λe=>v (by rw[e]);rw[if_neg e]at next harg
   refine Qc zb gu ?_;refine Qd ?_;refine⟨Pz d (r-L) harg Z _ _ ⟨Qe,?_⟩,O⟩;refine⟨Pq (0,0) _ ⟨⟨ψ,ψ⟩,⟨ψ,ψ⟩⟩ (Ld harg) _ _ ⟨Qe,?_⟩,O⟩;refine Qbw ?_;obtain⟨k,f,c,rfl,b⟩:=next _ (fc (et harg))
   refine Qd ?_;exact⟨1,f,c,Qbt,⟨rfl,rfl,congrArg Δ b.symm,O⟩⟩
end Go.Proofs
