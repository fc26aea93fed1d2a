/- Ground of laws of thronglaw25: contracts and plain lemmas; no condition beyond the row's own. -/
import Derived.Test.YthjfdaifoocijaaGreatKD
set_option linter.unusedSimpArgs false
set_option linter.unusedVariables false
set_option linter.defProp false
namespace Go.V
section
variable {g:Gnd} {x y j i:Int}
theorem zb9{p q:Nat->Bool}{m:Nat}(hp:∀t,p t=true->t<m):∀{N:Nat},m<N->(∀t,t<N->(q t=true↔p t=true\/t=m))->(List.range N).filter q=(List.range N).filter p++[m]
 |0,h,_=>absurd h (Fau m)
 |N+1,h,hq=>by
  rw[Fdc,Fcr,Fcr];have hpN:p N=false:=Bool.eq_false_iff.2 λhh=>by have:=hp N hh;omega
  by_cases e:m=N
  ·subst e;have h1:(List.range m).filter q=(List.range m).filter p:=Fei λt ht=>by
    have ht:=Fbd.1 ht;have:=hq t θ;rw[Fbq,this];exact⟨λh=>h.resolve_right θ,.inl⟩
   have h2:q m=true:=(hq m θ).2 (.inr rfl);rw[h1];simp[hpN,h2]
  ·have h2:q N=false:=Bool.eq_false_iff.2 λhh=>by
    rcases(hq N θ).1 hh with h|h
    ·rw[hpN]at h;cases h
    ·omega
   rw[zb9 hp θ (λt ht=>hq t θ)];simp[hpN,h2]
def gq{p q:Nat->Bool}{N:Nat}(h:∀t,t<N->(q t=true↔p t=true)):(List.range N).filter q=(List.range N).filter p:=
 Fei λt ht=>by rw[Fbq];exact h t (Fbd.1 ht)
def n8{α:Type}(L:List α)(a:α)(n:Nat):(L++[a]).take n=if L.length<n then L.take n++[a]else L.take n:=by
 split
 ·rw[Fce χ,Fce θ]
 ·rw[Fbu θ]
theorem bh{α:Type}(L:List α)(n:Nat):(L.take n).length<n↔L.length<n:=θe
def yz(l:List Nat):List Int:=l.map λ(t:Nat)=>(t:Int)
theorem ef(a b:List Nat):yz (a++b)=yz a++yz b:=Fa8
def Bs(i j:Int):Int:=max (max i (-i)) (max j (-j))
def j8(g:Gnd)(x y k d:Int)(t:Nat):Bool:=decide (Bs ((t:Int)%g.W-x) ((t:Int)/g.W-y)=d/\((t:Int)%g.W-x).tmod k=0/\((t:Int)/g.W-y).tmod k=0)
def Fb(g:Gnd)(x y k d:Int):List Nat:=(List.range g.T.length).filter (j8 g x y k d)
def zd9(g:Gnd)(x y j i:Int)(t:Nat):Bool:=decide ((t:Int)/g.W<y+j\/((t:Int)/g.W=y+j/\(t:Int)%g.W<x+i))
def Bv(g:Gnd)(x y k d j i:Int):List Nat:=(List.range g.T.length).filter λt=>j8 g x y k d t&&zd9 g x y j i t
def Ry{k d:Int}{t:Nat}(h:j8 g x y k d t=true):(x-d<=(t:Int)%g.W/\(t:Int)%g.W<=x+d)/\(y-d<=(t:Int)/g.W/\(t:Int)/g.W<=y+d):=by have:=(of_decide_eq_true h).1;unfold Bs at this;omega
theorem ybt(g:Gnd)(x y k d:Int):Bv g x y k d (-d) (-d)=[]:=by unfold Bv;rw[List.filter_eq_nil_iff];intro t _ hh;obtain⟨h1,h2⟩:=(Fbf).1 hh;have:=Ry h1;have:=of_decide_eq_true h2;omega
theorem ybu(g:Gnd)(x y k d j:Int):Bv g x y k d j (d+1)=Bv g x y k d (j+1) (-d):=gq λt ht=>by
 rw[Fbf,Fbf];refine⟨λ⟨h1,h2⟩=>⟨h1,?_⟩,λ⟨h1,h2⟩=>⟨h1,?_⟩⟩
 ·have:=Ry h1;have:=of_decide_eq_true h2;exact decide_eq_true θ
 ·have:=Ry h1;have:=of_decide_eq_true h2;exact decide_eq_true θ
theorem ybx(g:Gnd)(x y k d:Int):Bv g x y k d (d+1) (-d)=Fb g x y k d:=gq λt ht=>by rw[Fbf];refine⟨λh=>h.1,λh1=>⟨h1,?_⟩⟩;have:=Ry h1;exact decide_eq_true θ
theorem ybs(hg:zw g){k d:Int}(ho:onG g (x+i) (y+j))(hd:Bs i j=d)(hi:i.tmod k=0)(hj:j.tmod k=0):Bv g x y k d j (i+1)=Bv g x y k d j i++[tl g (x+i) (y+j)]:=by
 obtain⟨e1,e2,e3,e4⟩:=Cj hg ho;have hW:1<=g.W:=hg.1.1;refine zb9 (m:=tl g (x+i) (y+j)) (λt hh=>?_) e2 λt ht=>?_
 ·obtain⟨h1,h2⟩:=(Fbf).1 hh;have h2:=of_decide_eq_true h2;have e5:=Fdd (t:Int) g.W;rcases h2 with h2|⟨h2,h3⟩
  ·have b1:=Fcs (t:Int) (show 0<g.W by omega);have:g.W*((t:Int)/g.W+1)<=g.W*(y+j):=Fda θ θ;rw[Fdv,Int.mul_one]at this;have:=ho.1.1;omega
  ·rw[h2]at e5;omega
 ·rw[Fbf,Fbf];constructor
  ·rintro⟨h1,h2⟩;have h2:=of_decide_eq_true h2;by_cases h3:(t:Int)/g.W=y+j/\(t:Int)%g.W=x+i
   ·right;have:=(Mj hg ht).2;rw[h3.1,h3.2]at this;exact this.symm
   ·exact .inl ⟨h1,decide_eq_true θ⟩
  ·rintro(⟨h1,h2⟩|rfl)
   ·have h2:=of_decide_eq_true h2;exact⟨h1,decide_eq_true θ⟩
   ·refine⟨decide_eq_true ?_,decide_eq_true ?_⟩
    ·rw[e3,e4,show x+i-x=i by omega,show y+j-y=j by omega];exact⟨hd,hi,hj⟩
    ·rw[e3,e4];omega
theorem ybv(hg:zw g){k d:Int}(hn:¬(Bs i j=d/\i.tmod k=0/\j.tmod k=0/\onG g (x+i) (y+j))):Bv g x y k d j (i+1)=Bv g x y k d j i:=gq λt ht=>by
 rw[Fbf,Fbf];refine⟨λ⟨h1,h2⟩=>⟨h1,?_⟩,λ⟨h1,h2⟩=>⟨h1,?_⟩⟩
 ·have h2:=of_decide_eq_true h2;refine decide_eq_true ?_;by_cases h3:(t:Int)/g.W=y+j/\(t:Int)%g.W=x+i
  ·exfalso;obtain⟨q1,q2,q3⟩:=of_decide_eq_true h1;rw[h3.1,h3.2,show x+i-x=i by omega,show y+j-y=j by omega]at q1;rw[h3.2,show x+i-x=i by omega]at q2;rw[h3.1,show y+j-y=j by omega]at q3;have:=(Mj hg ht).1;rw[h3.1,h3.2]at this;exact hn ⟨q1,q2,q3,this⟩
  ·omega
 ·have h2:=of_decide_eq_true h2;exact decide_eq_true θ
def Bj(g:Gnd)(f:Nat->Bool)(x y k d:Int):List Nat:=(Fb g x y k d).filter f
def jg(g:Gnd)(f:Nat->Bool)(x y k:Int):Nat->List Nat
 |0=>[]
 |d+1=>jg g f x y k d++Bj g f x y k d
def Dl(g:Gnd)(f:Nat->Bool)(size goal:Int)(n:Nat):List Nat:=(jg g f (goal%g.W) (goal/g.W) (2*size+1) (g.W+g.H+1).toNat).take n
def ph(g:Gnd)(f:Nat->Bool)(x y k:Int)(d:Nat):∀e:Nat,∃m,jg g f x y k (d+e)=jg g f x y k d++m
 |0=>⟨[],φ⟩
 |e+1=>by obtain⟨m,hm⟩:=ph g f x y k d e;exact⟨m++Bj g f x y k ((d+e:Nat):Int),by rw[<-Faw,<-hm];rfl⟩
theorem zu1(hg:zw g){f:Nat->Bool}{k d:Int}(hx:0<=x/\x<g.W)(hy:0<=y/\y<g.H)(hd:max g.W g.H<=d):Bj g f x y k d=[]:=by unfold Bj Fb;rw[List.filter_filter,List.filter_eq_nil_iff];intro t ht hh;obtain⟨h1,h2⟩:=(Fbf).1 hh;have h3:=(of_decide_eq_true h2).1;obtain⟨⟨o1,o2⟩,o3,o4⟩:=(Mj hg (Fbd.1 ht)).1;unfold Bs at h3;omega
def zu0{f:Nat->Bool}{k d:Int}(hd:¬k∣d):Bj g f x y k d=[]:=by
 unfold Bj Fb;rw[List.filter_filter,List.filter_eq_nil_iff];intro t ht hh;obtain⟨h1,h2⟩:=(Fbf).1 hh;obtain⟨h3,h4,h5⟩:=of_decide_eq_true h2;have h4:=Int.dvd_of_tmod_eq_zero h4;have h5:=Int.dvd_of_tmod_eq_zero h5;refine hd ?_;rw[<-h3];unfold Bs;generalize(t:Int)%g.W-x=a at*;generalize(t:Int)/g.W-y=b at*;have ha:=(Int.dvd_neg (a:=k) (b:=a)).2 h4;have hb:=(Int.dvd_neg (a:=k) (b:=b)).2 h5;have mx:∀u v:Int,k∣u->k∣v->k∣max u v:=λu v h1 h2=>by
  by_cases h:u<=v
  ·rw[Int.max_eq_right h];exact h2
  ·rw[Int.max_eq_left θ];exact h1
 exact mx _ _ (mx _ _ h4 ha) (mx _ _ h5 hb)
def zuy{f:Nat->Bool}{k d:Nat}(hk:0<k)(hd:k∣d):jg g f x y k (d+k)=jg g f x y k d++Bj g f x y k d:=by
 have:∀e:Nat,e<k->jg g f x y k (d+(e+1))=jg g f x y k d++Bj g f x y k d:=by
  intro e;induction e with
  |zero=>intro _;rfl
  |succ e ih=>
   intro he;have h1:=ih θ;have h2:Bj g f x y k ((d+(e+1):Nat):Int)=[]:=zu0 λhh=>by
    have hh:k∣d+(e+1):=by exact_mod_cast hh
    have:=(Nat.dvd_add_right hd).1 hh;have:=Nat.le_of_dvd θ this;omega
   show jg g f x y k (d+(e+1))++Bj g f x y k ((d+(e+1):Nat):Int)=_;rw[h1,h2,Fbl]
 have:=this (k-1) θ;rw[show k-1+1=k by omega]at this;exact this
def o9(hg:zw g){f:Nat->Bool}{size goal:Int}(hgl:0<=goal/\goal<g.W*g.H){d n:Nat}(h:n<=(jg g f (goal%g.W) (goal/g.W) (2*size+1) d).length\/max g.W g.H<=(d:Int)):
  (jg g f (goal%g.W) (goal/g.W) (2*size+1) d).take n=Dl g f size goal n:=by
 have hW:1<=g.W/\g.W<=128:=hg.1;have hH:1<=g.H/\g.H<=128:=hg.2.1;have hx:0<=goal%g.W/\goal%g.W<g.W:=⟨Fcf _ θ,Fcs _ θ⟩
 have hy:0<=goal/g.W/\goal/g.W<g.H:=⟨Fb2 hgl.1 θ,Fd0 θ (by rw[Int.mul_comm];exact hgl.2)⟩
 unfold Dl;generalize goal%g.W=x at*;generalize goal/g.W=y at*;generalize 2*size+1=k at*;generalize hm:(g.W+g.H+1).toNat=m at*;have hmI:(m:Int)=g.W+g.H+1:=θ
 -- from where nothing comes any more
 have flat:∀c:Nat,max g.W g.H<=(c:Int)->∀e:Nat,jg g f x y k (c+e)=jg g f x y k c:=λc hc e=>by
  induction e with
  |zero=>rfl
  |succ e ih=>
   show jg g f x y k (c+e)++Bj g f x y k ((c+e:Nat):Int)=_;rw[ih,zu1 hg hx hy θ,Fbl]
 rcases h with h|h
 ·by_cases hdm:d<=m
  ·obtain⟨r,hr⟩:=ph g f x y k d (m-d);rw[show d+(m-d)=m by omega]at hr;rw[hr,Fbu h]
  ·have:=flat m θ (d-m);rw[show m+(d-m)=d by omega]at this;rw[this]
 ·by_cases hdm:d<=m
  ·have:=flat d h (m-d);rw[show d+(m-d)=m by omega]at this;rw[this]
  ·have:=flat m θ (d-m);rw[show m+(d-m)=d by omega]at this;rw[this]
end
section
variable {n t:Nat} {g:Gnd}
def il(n:Nat)(f:Nat->Int):List AV:=(List.range n).map λt=>int (f t)
theorem xi(n:Nat)(f:Nat->Int):(il n f).length=n:=by simp[il]
theorem Fm{f:Nat->Int}(h:t<n):(il n f)[t]?=some (int (f t)):=by simp[il,h]
def k9{f:Nat->Int}(h:t<n):((il n f).drop (0+t*1)).head?=some (int (f t)):=by rw[Fbv,show 0+t*1=t by omega,Fm h]
def V8{f:Nat->Bool}(h:t<n):((bl n f).drop (0+t*1)).head?=some (bool (f t)):=by rw[Fbv,show 0+t*1=t by omega,Hs h]
theorem O7(n:Nat):List.replicate n (AV.s (.int .i64 0))=il n λ_=>0:=by unfold il;rw[List.map_const',Fds];rfl
def setI(f:Nat->Int)(t:Nat)(v:Int):Nat->Int:=λs=>if s=t then v else f s
theorem Mc(f:Nat->Int)(t:Nat)(v:Int):setI f t v t=v:=if_pos rfl
theorem Ks(f:Nat->Int){s:Nat}(v:Int)(h:s≠t):setI f t v s=f s:=if_neg h
theorem zu7(f:Nat->Int)(t:Nat):setI f t (f t)=f:=funext λs=>by
 unfold setI;split
 ·rename_i h;rw[h]
 ·rfl
theorem cd(f:Nat->Int)(t:Nat)(v u:Int):setI (setI f t v) t u=setI f t u:=funext λs=>by unfold setI;split<;>simp_all
theorem za7{f:Nat->Int}(h:t<n)(g:Nat->Int)(hg:∀s,s≠t->g s=f s):zv (il n f) t [int (g t)]=il n g:=by
 unfold zv;apply Fcd;intro s;by_cases h1:s<t
 ·rw[Faw,Fap (by rw[Fam,xi];omega),Fb1 h1,Fm θ,Fm θ,hg s θ]
 ·by_cases h2:s=t
  ·subst h2;rw[Faw,Fa2 (by rw[Fam,xi];omega),Fam,xi,show s-min s n=0 by omega,Fm h];rfl
  ·rw[Fa2 (by rw[Fae,Fam,xi];simp;omega),Fae,Fam,xi,Fcq];by_cases h3:s<n
   ·have e:t+[int (g t)].length+(s-(min t n+[int (g t)].length))=s:=χ;rw[e,Fm h3,Fm h3,hg s h2]
   ·rw[Fb3 (by rw[xi];simp;omega),Fb3 θb]
theorem Hi{f:Nat->Int}(h:t<n)(v:Int):zv (il n f) t [int v]=il n (setI f t v):=by have:=za7 h (setI f t v) λs hs=>Ks f v hs;rw[Mc]at this;exact this
def ilL(n:Nat)(f:Nat->Int):List Int:=(List.range n).map f
theorem Fo(n:Nat)(f:Nat->Int):(ilL n f).length=n:=by simp[ilL]
theorem zba{f:Nat->Int}(h:t<n):(ilL n f)[t]'(by rw[Fo];exact h)=f t:=by simp[ilL]
theorem za8(n:Nat)(f:Nat->Int):(rws zx (ilL n f)).flatten=il n f:=by
 unfold rws ilL il;rw[List.map_map];generalize List.range n=l;induction l with
 |nil=>rfl
 |cons a l ih=>simp only[Fcc,Feg,ih];rfl
theorem Hj{f g:Nat->Int}(h:∀t,t<n->f t=g t):il n f=il n g:=Fby λt ht=>by rw[h t (Fbd.1 ht)]
theorem lc{f g:Nat->Bool}(h:∀t,t<n->f t=g t):bl n f=bl n g:=Fby λt ht=>by rw[h t (Fbd.1 ht)]
theorem ync{f g:Nat->Bool}(h:∀t,t<n->f t=g t):blL n f=blL n g:=Fby λt ht=>h t (Fbd.1 ht)
def gv(g:Gnd)(f:Nat->Int)(x y:Int):Int:=if onG g x y then f (tl g x y)else 0
def Au(g:Gnd)(f:Nat->Int)(x y:Int)(v:Int)(ws:List (Int×Int)):Int:=ws.foldl (λv d=>min v (gv g f (x+d.1) (y+d.2)+1)) v
def zbk(hg:zw g){f:Nat->Int}(hf:∀t,t<g.T.length->0<=f t/\f t<=128)(x y:Int):0<=gv g f x y/\gv g f x y<=128:=by
 unfold gv;split
 ·rename_i h;exact hf _ (Cj hg h).2.1
 ·omega
def dr(hg:zw g){f:Nat->Int}(hf:∀t,t<g.T.length->0<=f t/\f t<=128)(x y:Int):∀(ws:List (Int×Int)) (v:Int),0<=v/\v<=128->0<=Au g f x y v ws/\Au g f x y v ws<=128
 |[],v,hv=>hv
 |d::r,v,hv=>by have:=zbk hg hf (x+d.1) (y+d.2);exact dr hg hf x y r (min v (gv g f (x+d.1) (y+d.2)+1)) θ
def yea(g:Gnd)(f:Nat->Int)(x y v:Int)(ws:List (Int×Int)){i:Nat}(hi:i<ws.length):Au g f x y v (ws.take (i+1))=min (Au g f x y v (ws.take i)) (gv g f (x+ws[i].1) (y+ws[i].2)+1):=by unfold Au;rw[Fab hi,List.foldl_append];rfl
def zu8{f:Nat->Int}(hf:∀t,t<n->0<=f t/\f t<=128){v:Int}(hv:0<=v/\v<=128):∀s,s<n->0<=setI f t v s/\setI f t v s<=128:=λs hs=>by
 unfold setI;split
 ·exact hv
 ·exact hf s hs
def yhs(hg:zw g)(f:Nat->Int)(v:Int){dx dy:Int}(hd:dx≠0\/dy≠0):gv g (setI f t v) ((t:Int)%g.W+dx) ((t:Int)/g.W+dy)=gv g f ((t:Int)%g.W+dx) ((t:Int)/g.W+dy):=by
 unfold gv;split
 ·rename_i h;obtain⟨_,_,h3,h4⟩:=Cj hg h;refine Ks f v λe=>?_;rw[e]at h3 h4;omega
 ·rfl
def Mu:List (Int×Int):=[(-1,0),(-1,-1),(0,-1),(1,-1)]
def Lk:List (Int×Int):=[(1,0),(1,1),(0,1),(-1,1)]
def Kh(d:Int×Int):List AV:=[int d.1,int d.2]
def Lz(g:Gnd)(f:Nat->Int)(ws:List (Int×Int))(t:Nat):Nat->Int:=setI f t (Au g f ((t:Int)%g.W) ((t:Int)/g.W) (f t) ws)
def Aq(g:Gnd)(f:Nat->Int):Nat->Nat->Int
 |0=>f
 |i+1=>Lz g (Aq g f i) Mu i
def Cm(g:Gnd)(f:Nat->Int)(n:Nat):Nat->Nat->Int
 |0=>f
 |j+1=>Lz g (Cm g f n j) Lk (n-1-j)
def n9(hg:zw g){f:Nat->Int}(hf:∀t,t<g.T.length->0<=f t/\f t<=128){ws:List (Int×Int)}(ht:t<g.T.length):∀s,s<g.T.length->0<=Lz g f ws t s/\Lz g f ws t s<=128:=
 zu8 hf (dr hg hf _ _ _ _ (hf t ht))
def bj(hg:zw g){f:Nat->Int}(hf:∀t,t<g.T.length->0<=f t/\f t<=128):∀i,i<=g.T.length->∀s,s<g.T.length->0<=Aq g f i s/\Aq g f i s<=128
 |0,_=>hf
 |i+1,hi=>n9 hg (bj hg hf i θ) θ
def oe(hg:zw g){f:Nat->Int}(hf:∀t,t<g.T.length->0<=f t/\f t<=128):∀i,i<=g.T.length->∀s,s<g.T.length->0<=Cm g f g.T.length i s/\Cm g f g.T.length i s<=128
 |0,_=>hf
 |i+1,hi=>n9 hg (oe hg hf i θ) θ
theorem og(g:Gnd)(f:Nat->Int):∀i s,i<=s->Aq g f i s=f s
 |0,_,_=>rfl
 |i+1,s,h=>by show setI _ i _ s=_;rw[Ks _ _ θ,og g f i s θ]
theorem Rg(g:Gnd)(f:Nat->Int):∀i s,s<i->Aq g f i s=Aq g f (s+1) s
 |0,_,h=>absurd h (Fau _)
 |i+1,s,h=>by
  by_cases e:s=i
  ·subst e;rfl
  ·show setI _ i _ s=_;rw[Ks _ _ e,Rg g f i s θ]
theorem od(g:Gnd)(f:Nat->Int)(n:Nat):∀j s,s+j<n->Cm g f n j s=f s
 |0,_,_=>rfl
 |j+1,s,h=>by show setI _ (n-1-j) _ s=_;rw[Ks _ _ θ,od g f n j s θ]
theorem Rf(g:Gnd)(f:Nat->Int)(n:Nat):∀j s,s<n->j<=n->n<=s+j->Cm g f n j s=Cm g f n (n-1-s+1) s
 |0,s,h,_,h2=>absurd h2 θ
 |j+1,s,h,h1,h2=>by
  by_cases e:s=n-1-j
  ·have:j+1=n-1-s+1:=θ;rw[this]
  ·show setI _ (n-1-j) _ s=_;rw[Ks _ _ e,Rf g f n j s h θ θ]
theorem yec(g:Gnd)(f:Nat->Int)(x y v:Int):Au g f x y v Mu=m5 v (gv g f (x-1) y) (gv g f (x-1) (y-1)) (gv g f x (y-1)) (gv g f (x+1) (y-1)):=by unfold Au Mu m5;simp only[Fc7,List.foldl_nil,Fb7,<-Fdq]
theorem yeb(g:Gnd)(f:Nat->Int)(x y v:Int):Au g f x y v Lk=m5 v (gv g f (x+1) y) (gv g f (x+1) (y+1)) (gv g f x (y+1)) (gv g f (x-1) (y+1)):=by unfold Au Lk m5;simp only[Fc7,List.foldl_nil,Fb7,<-Fdq]
def D9(g:Gnd)(o:Nat->Bool):Nat->Int:=Cm g (Aq g (λt=>if o t then 128 else 0) g.T.length) g.T.length g.T.length
theorem ybk(hg:zw g)(o:Nat->Bool)(ht:t<g.T.length)(s:Nat)(hs:s<=127):(s:Int)<D9 g o t↔sqP g o s ((t:Int)%g.W) ((t:Int)/g.W):=by
 have hW:1<=g.W:=hg.1.1;obtain⟨ho,he⟩:=Mj hg ht
 have key:=ymp (g:=g) (f:=o) (A:=gv g (Aq g (λt=>if o t then 128 else 0) g.T.length)) (B:=gv g (D9 g o))
  (λx y h=>if_neg h) (λx y h=>if_neg h) (λx y h=>?_) (λx y h=>?_) ho s hs
 ·rw[<-key];unfold gv;rw[if_pos ho,he]
 ·obtain⟨e1,e2,e3,e4⟩:=Cj hg h;have nb:∀dx dy:Int,(dy=-1\/dy=0/\dx=-1)->dx<=1->gv g (Aq g (λt=>if o t then 128 else 0) (tl g x y)) (x+dx) (y+dy)=gv g (Aq g (λt=>if o t then 128 else 0) g.T.length) (x+dx) (y+dy):=λdx dy hd hx=>by
   unfold gv;split
   ·rename_i h2;obtain⟨f1,f2,f3,f4⟩:=Cj hg h2;have hlt:tl g (x+dx) (y+dy)<tl g x y:=by
     have hb:=h.1;have hb2:=h2.1;rcases hd with rfl|⟨rfl,rfl⟩
     ·have:g.W*(y+-1)=g.W*y-g.W:=by rw[Fdv];omega
      rw[this]at f1;have hne:(tl g (x+dx) (y+-1):Int)≠tl g x y:=λe=>by rw[e,e4]at f4;omega
      omega
     ·rw[Fb7]at f1⊢;omega
    rw[Rg g _ _ _ hlt,Rg g _ _ _ f2]
   ·rfl
  have h1:gv g (Aq g (λt=>if o t then 128 else 0) g.T.length) x y=Au g (Aq g (λt=>if o t then 128 else 0) (tl g x y)) x y (if o (tl g x y)then 128 else 0) Mu:=by unfold gv;rw[if_pos h,Rg g _ _ _ e2];show setI _ _ _ _=_;rw[Mc,e3,e4,og g _ _ _ (Fal _)]
  rw[h1,yec];have n1:=nb (-1) 0 θ ψ;have n2:=nb (-1) (-1) θ ψ;have n3:=nb 0 (-1) θ ψ;have n4:=nb 1 (-1) θ ψ;rw[Fb7]at n1 n3;rw[<-Fdq]at n1 n2 n3 n4;rw[<-Fdq]at n2;rw[n1,n2,n3,n4]
 ·obtain⟨e1,e2,e3,e4⟩:=Cj hg h;have hj:g.T.length-1-(g.T.length-1-tl g x y)=tl g x y:=θ;unfold D9;generalize hF:Aq g (λt=>if o t then 128 else 0) g.T.length=F;have nb:∀dx dy:Int,(dy=1\/dy=0/\dx=1)->-1<=dx->gv g (Cm g F g.T.length (g.T.length-1-tl g x y)) (x+dx) (y+dy)=gv g (Cm g F g.T.length g.T.length) (x+dx) (y+dy):=λdx dy hd hx=>by
   unfold gv;split
   ·rename_i h2;obtain⟨f1,f2,f3,f4⟩:=Cj hg h2;have hlt:tl g x y<tl g (x+dx) (y+dy):=by
     have hb:=h.1;have hb2:=h2.1;rcases hd with rfl|⟨rfl,rfl⟩
     ·have:g.W*(y+1)=g.W*y+g.W:=by rw[Fdv];omega
      rw[this]at f1;have hne:(tl g (x+dx) (y+1):Int)≠tl g x y:=λe=>by rw[e,e4]at f4;omega
      omega
     ·rw[Fb7]at f1⊢;omega
    rw[Rf g _ _ _ _ f2 θ θ,Rf g _ _ _ _ f2 (Fal _) θ]
   ·rfl
  have h1:gv g (Cm g F g.T.length g.T.length) x y=Au g (Cm g F g.T.length (g.T.length-1-tl g x y)) x y (gv g F x y) Lk:=by unfold gv;rw[if_pos h,if_pos h,Rf g _ _ _ _ e2 (Fal _) θ];show setI _ _ _ _=_;rw[hj,Mc,e3,e4,od g _ _ _ _ θ]
  rw[h1,yeb];have n1:=nb 1 0 θ ψ;have n2:=nb 1 1 θ ψ;have n3:=nb 0 1 θ ψ;have n4:=nb (-1) 1 θ ψ;rw[Fb7]at n1 n3;rw[<-Fdq]at n4;rw[n1,n2,n3,n4]
def sqB(g:Gnd)(f:Nat->Bool)(s:Nat)(x y:Int):Bool:=(List.range (2*s+1)).all λa=>(List.range (2*s+1)).all λb=>decide (onG g (x-s+a) (y-s+b))&&f (tl g (x-s+a) (y-s+b))
theorem ov{f:Nat->Bool}{s:Nat}{x y:Int}:sqB g f s x y=true↔sqP g f s x y:=by
 unfold sqB;rw[Fck];constructor
 ·intro h a b h1 h2 h3 h4;have h5:=h (a+s).toNat (Fbd.2 θ);rw[Fck]at h5;have h6:=h5 (b+s).toNat (Fbd.2 θ);rw[show x-s+((a+s).toNat:Int)=x+a by omega,show y-s+((b+s).toNat:Int)=y+b by omega,Fbf]at h6;exact⟨of_decide_eq_true h6.1,h6.2⟩
 ·intro h a ha;have ha:=Fbd.1 ha;rw[Fck];intro b hb;have hb:=Fbd.1 hb;have:=h (a-s) (b-s) θ θ θ θ;rw[show x-s+(a:Int)=x+(a-s) by omega,show y-s+(b:Int)=y+(b-s) by omega,Fbf];exact⟨decide_eq_true this.1,this.2⟩
def zo(g:Gnd)(l:List Bld)(c s:Int)(t:Nat):Bool:=sqB g (yp g l c) s.toNat ((t:Int)%g.W) ((t:Int)/g.W)
theorem yh8(hg:zw g)(l:List Bld)(c:Int){s:Int}(hs:0<=s/\s<=3)(ht:t<g.T.length):decide (s<D9 g (yp g l c) t)=zo g l c s t:=by rw[Fbq,decide_eq_true_iff];unfold zo;rw[ov,<-ybk hg _ ht _ θ];omega
def Dx(g:Gnd)(l:List Bld)(c s:Int):AV:=lst 1 ji (blL g.T.length (zo g l c s))
end
section
variable {g:Gnd} {t r:Nat}
def dirL:List (Int×Int):=[(0,-1),(1,0),(0,1),(-1,0),(1,-1),(1,1),(-1,1),(-1,-1)]
def we(g:Gnd)(x y:Int)(d:Int×Int):Int:=if onG g (x+d.1) (y+d.2)then x+d.1+g.W*(y+d.2)else -1
def jz(g:Gnd)(t:Nat):List Int:=dirL.map (we g ((t:Int)%g.W) ((t:Int)/g.W))
theorem K1(g:Gnd)(t:Nat):(jz g t).length=8:=by simp[jz,dirL]
def uo(hg:zw g)(x y:Int)(d:Int×Int):we g x y d=-1/\¬onG g (x+d.1) (y+d.2)\/onG g (x+d.1) (y+d.2)/\we g x y d=(tl g (x+d.1) (y+d.2):Nat)/\tl g (x+d.1) (y+d.2)<g.T.length:=by
 unfold we;split
 ·rename_i h;exact .inr ⟨h,(Cj hg h).1.symm,(Cj hg h).2.1⟩
 ·rename_i h;exact .inl ⟨rfl,h⟩
def um(hg:zw g){u:Int}(h:u∈jz g t):u=-1\/∃m:Nat,u=m/\m<g.T.length:=by
 unfold jz at h;obtain⟨d,_,rfl⟩:=Fag.1 h;rcases uo hg ((t:Int)%g.W) ((t:Int)/g.W) d with⟨q1,_⟩|⟨_,q2,q3⟩
 ·exact .inl q1
 ·exact .inr ⟨_,q2,q3⟩
def sqT(g:Gnd)(o:Nat->Bool)(r t:Nat):Bool:=sqB g o r ((t:Int)%g.W) ((t:Int)/g.W)
theorem sqT_iff{o:Nat->Bool}:sqT g o r t=true↔sqP g o r ((t:Int)%g.W) ((t:Int)/g.W):=ov
theorem zue(hg:zw g)(o:Nat->Bool)(ht:t<g.T.length):sqT g o 0 t=o t:=by rw[Fbq,sqT_iff,sq_zero];obtain⟨h1,h2⟩:=Mj hg ht;rw[h2];exact⟨λh=>h.2,λh=>⟨h1,h⟩⟩
def bp{o:Nat->Bool}{s:Nat}(h:s<=r)(hi:sqT g o r t=true):sqT g o s t=true:=sqT_iff.2 (bo h (sqT_iff.1 hi))
def zuf(hg:zw g){o:Nat->Bool}(h:sqT g o r t=true):r<=63:=by have:=zub (sqT_iff.1 h);have:=hg.1.2;omega
def okB(g:Gnd)(o:Nat->Bool)(r:Nat)(u:Int):Bool:=decide (0<=u)&&sqT g o r u.toNat
def ue(hg:zw g){o:Nat->Bool}{x y:Int}{d:Int×Int}:okB g o r (we g x y d)=true↔onG g (x+d.1) (y+d.2)/\sqP g o r (x+d.1) (y+d.2):=by
 unfold okB;rw[Fbf];rcases uo hg x y d with⟨h1,h2⟩|⟨h1,h2,h3⟩
 ·rw[h1];exact⟨λh=>absurd (of_decide_eq_true h.1) ψ,λh=>absurd h.1 h2⟩
 ·obtain⟨_,_,e3,e4⟩:=Cj hg h1;rw[h2,Fa0,sqT_iff,e3,e4];exact⟨λh=>⟨h1,h.2⟩,λh=>⟨decide_eq_true θ,h.2⟩⟩
def yk8{a b:Int}(h1:-1<=a)(h2:a<=1)(h3:-1<=b)(h4:b<=1):(a=0/\b=0)\/(a,b)∈dirL:=by have ha:a=-1\/a=0\/a=1:=θ;have hb:b=-1\/b=0\/b=1:=θ;rcases ha with rfl|rfl|rfl<;>rcases hb with rfl|rfl|rfl<;>first|exact .inl ⟨rfl,rfl⟩|exact .inr ψ
def zug(hg:zw g){o:Nat->Bool}(ht:t<g.T.length):sqT g o (r+1) t=(sqT g o r t&&(jz g t).all (okB g o r)):=by
 rw[Fbq,Fbf,sqT_iff,sqT_iff,sq_succ,Fck];unfold jz;constructor
 ·intro h;refine⟨by have:=(h 0 0 ψ ψ ψ ψ).2;simpa using this,λu hu=>?_⟩;obtain⟨d,hd,rfl⟩:=Fag.1 hu;refine(ue hg).2 ?_;have:∀d∈dirL,(-1<=d.1/\d.1<=1)/\(-1<=d.2/\d.2<=1):=ψ;have:=this d hd;exact h d.1 d.2 this.1.1 this.1.2 this.2.1 this.2.2
 ·rintro⟨h0,h⟩ a b h1 h2 h3 h4;rcases yk8 h1 h2 h3 h4 with⟨rfl,rfl⟩|hd
  ·rw[Fb7,Fb7];exact⟨(Mj hg ht).1,h0⟩
  ·exact(ue hg).1 (h _ (Fag.2 ⟨(a,b),hd,rfl⟩))
def Dw(g:Gnd)(o:Nat->Bool)(r i:Nat)(f:Nat->Int):Prop:=∀t,t<g.T.length->0<=f t/\f t<=((if t<i then r+1 else r:Nat):Int)/\∀s:Nat,s<(if t<i then r+1 else r)->((s:Int)<f t↔sqT g o s t=true)
def yhy(g:Gnd)(o:Nat->Bool):Dw g o 0 0 λ_=>0:=λt _=>⟨Fcu _,φ,λs hs=>absurd hs φ⟩
def yh1{o:Nat->Bool}{f:Nat->Int}(h:Dw g o r g.T.length f):Dw g o (r+1) 0 f:=λt ht=>by have:=h t ht;rw[if_pos ht]at this;rw[if_neg (Fau t)];exact this
def yh3{o:Nat->Bool}{i:Nat}{f:Nat->Int}(h:Dw g o r i f)(ht:t<g.T.length):0<=f t/\f t<=r+1:=by have:=h t ht;split at this<;>omega
def yh0{o:Nat->Bool}{f:Nat->Int}(h:Dw g o r t f)(hn:sqT g o r t=false):Dw g o r (t+1) f:=λs hs=>by
 have h1:=h s hs;by_cases e:s=t
 ·subst e;rw[if_neg (Fdp s)]at h1;rw[if_pos θ];refine⟨h1.1,θ,λq hq=>?_⟩;by_cases e2:q=r
  ·subst e2;rw[hn];exact⟨λhh=>θ,λhh=>by cases hh⟩
  ·exact h1.2.2 q θ
 ·by_cases e2:s<t
  ·rw[if_pos e2]at h1;rw[if_pos θ];exact h1
  ·rw[if_neg e2]at h1;rw[if_neg θ];exact h1
def yhz{o:Nat->Bool}{f:Nat->Int}(h:Dw g o r t f)(ht:t<g.T.length)(hn:sqT g o r t=true):Dw g o r (t+1) (setI f t (f t+1)):=λs hs=>by
 have h1:=h s hs;by_cases e:s=t
 ·subst e;rw[if_neg (Fdp s)]at h1;rw[if_pos θ,Mc];have hr:f s=r:=by
   by_cases e0:r=0
   ·subst e0;have:=h1.1;have:=h1.2.1;omega
   ·have:=(h1.2.2 (r-1) θ).2 (bp θ hn);have:=h1.2.1;omega
  rw[hr];refine⟨θ,θ,λq hq=>⟨λ_=>bp θ hn,λ_=>θ⟩⟩
 ·rw[Ks _ _ e];by_cases e2:s<t
  ·rw[if_pos e2]at h1;rw[if_pos θ];exact h1
  ·rw[if_neg e2]at h1;rw[if_neg θ];exact h1
def Vd(g:Gnd)(o:Nat->Bool)(f:Nat->Int):Prop:=∀t,t<g.T.length->∀s:Nat,(s:Int)<f t↔sqT g o s t=true
def yh2{o:Nat->Bool}{f:Nat->Int}(h:Dw g o r 0 f)(hn:∀t,t<g.T.length->sqT g o r t=false):Vd g o f:=λt ht s=>by
 have h1:=h t ht;rw[if_neg (Fau t)]at h1;by_cases e:s<r
 ·exact h1.2.2 s e
 ·constructor
  ·intro hh;have:=h1.2.1;omega
  ·intro hh;have:=bp (s:=r) θ hh;rw[hn t ht]at this;cases this
theorem yhx{l:List Bld}{c:Int}{f:Nat->Int}(h:Vd g (yp g l c) f){s:Int}(hs:0<=s)(ht:t<g.T.length):decide (s<f t)=zo g l c s t:=by rw[Fbq,decide_eq_true_iff];have:=h t ht s.toNat;rw[show((s.toNat:Nat):Int)=s by omega]at this;exact this
def nxF(g:Gnd)(o:Nat->Bool)(r t:Nat)(v:Bool)(s:Nat):Bool:=if s<t then sqT g o (r+1) s else(decide (s=t)&&v)
def C6(g:Gnd)(o:Nat->Bool)(r t:Nat):Bool:=(List.range t).any (sqT g o (r+1))
def ygj(g:Gnd)(o:Nat->Bool)(r t:Nat):C6 g o r (t+1)=(C6 g o r t||sqT g o (r+1) t):=by unfold C6;rw[Fdc,List.any_append];simp
theorem yey(g:Gnd)(o:Nat->Bool)(r:Nat):nxF g o r 0 false=λ_=>false:=funext λs=>by unfold nxF;rw[if_neg (Fau s),Fed]
theorem uh(g:Gnd)(o:Nat->Bool)(r t:Nat):nxF g o r t (sqT g o (r+1) t)=nxF g o r (t+1) false:=funext λs=>by
 unfold nxF;by_cases h:s<t
 ·rw[if_pos h,if_pos θ]
 ·rw[if_neg h];by_cases e:s=t
  ·subst e;rw[if_pos θ];simp
  ·rw[if_neg θ];simp[e]
theorem ye0(g:Gnd)(o:Nat->Bool)(r n:Nat):∀t,t<n->nxF g o r n false t=sqT g o (r+1) t:=λt ht=>if_pos ht
theorem ui(g:Gnd)(o:Nat->Bool)(r t:Nat)(v:Bool):nxF g o r t v t=v:=by unfold nxF;rw[if_neg (Fdp t)];simp
theorem yez(g:Gnd)(o:Nat->Bool)(r t:Nat)(v u:Bool){s:Nat}(h:s≠t):nxF g o r t v s=nxF g o r t u s:=by
 unfold nxF;split
 ·rfl
 ·simp[h]
end
section
variable {g:Gnd} {c:Int} {t way goal:Nat}
def yj(g:Gnd)(t way:Nat):Int:=(jz g t).getD way (-1)
def Fu(g:Gnd)(c:Int)(t:Nat):Int:=At c (g.T.getD t 5).toNat
def vi(ok:Nat->Bool)(u:Int):Bool:=decide (0<=u)&&ok u.toNat
def G5(way:Nat):Nat:=way-4
def G4(way:Nat):Nat:=(way-3)%4
def qj(g:Gnd)(ok:Nat->Bool)(c:Int)(t way:Nat):Int:=
 if vi ok (yj g t way)then
  (if way<4 then 5*(Fu g c t+Fu g c (yj g t way).toNat)
   else if vi ok (yj g t (G5 way))/\vi ok (yj g t (G4 way))then 7*(Fu g c t+Fu g c (yj g t way).toNat)else 0)
 else 0
def jl(g:Gnd)(ok:Nat->Bool)(c:Int)(t u:Nat)(k:Int):Prop:=ok t=true/\t<g.T.length/\∃way,way<8/\yj g t way=(u:Int)/\ok u=true/\k=qj g ok c t way/\0<k
theorem M5{ok:Nat->Bool}:∀t u k,jl g ok c t u k->0<k:=λt u k h=>by obtain⟨_,_,w,_,_,_,_,h⟩:=h;exact h
def Wb(hg:zw g)(hw:way<8):yj g t way=-1\/∃u:Nat,yj g t way=u/\u<g.T.length:=by
 unfold yj;have h8:way<(jz g t).length:=by rw[K1];exact hw
 rw[Fbb,Fac h8];exact um hg (Faa h8)
def gj{ok:Nat->Bool}{u:Int}(h:vi ok u=true):0<=u/\ok u.toNat=true:=by unfold vi at h;simpa using h
def bm{ok:Nat->Bool}(h:qj g ok c t way≠0):vi ok (yj g t way)=true:=by
 unfold qj at h;split at h
 ·assumption
 ·exact absurd rfl h
def zcs{ok:Nat->Bool}(ht:ok t=true)(htl:t<g.T.length)(hw:way<8)(h:0<qj g ok c t way):jl g ok c t (yj g t way).toNat (qj g ok c t way):=by obtain⟨h1,h2⟩:=gj (bm (g:=g) (ok:=ok) (c:=c) (t:=t) (way:=way) θ);exact⟨ht,htl,way,hw,θ,h2,rfl,h⟩
def Mg(c:Int)(t:Nat):0<=At c t/\At c t<=6:=by
 have h:∀l∈[[2,1,3,5,0,0],[2,1,6,0,0,0],[2,1,0,3,2,0]],∀t:Nat,0<=(l:List Int).getD t 0/\(l:List Int).getD t 0<=6:=by
  intro l hl t;simp only[Fa7,Fca,or_false]at hl;by_cases h6:t<6
  ·have:t=0\/t=1\/t=2\/t=3\/t=4\/t=5:=θ;rcases hl with rfl|rfl|rfl<;>rcases this with rfl|rfl|rfl|rfl|rfl|rfl<;>decide
  ·rcases hl with rfl|rfl|rfl<;>(rw[Fbb,Fb3 χ];decide)
 unfold At;split
 ·exact h _ φ t
 ·split
  ·exact h _ φ t
  ·exact h _ φ t
def Rk(g:Gnd)(ok:Nat->Bool)(c:Int)(t way:Nat):0<=qj g ok c t way/\qj g ok c t way<=84:=by
 have h1:=Mg c (g.T.getD t 5).toNat;have h2:=Mg c (g.T.getD (yj g t way).toNat 5).toNat;unfold qj Fu;split
 ·split
  ·omega
  ·split<;>omega
 ·omega
open Classical in
noncomputable def xu(g:Gnd)(ok:Nat->Bool)(c:Int)(goal:Nat):Nat->Int:=
 if ok goal=true then(if h:∃d,FarOK (jl g ok c) goal d then h.choose else λ_=>-1)else λ_=>-1
def zcf{ok:Nat->Bool}(hok:ok goal=true){d:Nat->Int}(h:FarOK (jl g ok c) goal d):xu g ok c goal=d:=by
 unfold xu;rw[if_pos hok];have hx:∃d,FarOK (jl g ok c) goal d:=⟨d,h⟩
 rw[dif_pos hx];exact yjx M5 hx.choose_spec h
theorem zce{ok:Nat->Bool}(hok:ok goal=false):xu g ok c goal=λ_=>-1:=by unfold xu;rw[if_neg (by simp[hok])]
noncomputable def xc(g:Gnd)(ok:Nat->Bool)(c:Int)(d:Nat->Int)(t:Nat):Int:=
 if d t<=0 then -1 else match(List.range 8).find? λway=>decide (0<qj g ok c t way/\0<=d (yj g t way).toNat/\qj g ok c t way+d (yj g t way).toNat=d t)with
  |some way=>(way:Int)
  |none=>-1
end
def zbg{F N S:Store}(hd:zk F N):((F.un N).un S).Has (F.un S):=by
 refine⟨λb y h=>?_,λb x h=>?_⟩
 ·rcases Lu h with h1|⟨h1,h2⟩
  ·exact zg h1
  ·have h3:(F.un N).obj b=some y:=yg hd h2;show(match S.obj b with|some y=>some y|none=>(F.un N).obj b)=some y;rw[h1];exact h3
 ·rcases P6 h with h1|⟨h1,h2⟩
  ·exact F5 h1
  ·have h3:(F.un N).tok b=some x:=Kk hd h2;show(match S.tok b with|some y=>some y|none=>(F.un N).tok b)=some x;rw[h1];exact h3
def Gb{l:List Unt}(hr:yr l){a b:Nat}(hab:a<b)(hb:b<l.length):(l[a]'θ).id<l[b].id:=by
 induction b with
 |zero=>omega
 |succ b ih=>
  have h3:=hr (b+1) hb θ;simp only[Fd9]at h3;by_cases e:a=b
  ·subst e;exact h3
  ·have:=ih θ θ;omega
theorem H9{l:List Unt}(hr:yr l){u v:Unt}(hu:u∈l)(hv:v∈l)(h:u.id=v.id):u=v:=by
 obtain⟨a,ha,rfl⟩:=Fai hu;obtain⟨b,hb,rfl⟩:=Fai hv;rcases Nat.lt_trichotomy a b with q|q|q
 ·have:=Gb hr q hb;omega
 ·subst q;rfl
 ·have:=Gb hr q ha;omega
def Dr(w:Wld)(L:List Ent):Prop:=∀e,e∈L↔∃u∈w.U,u.inn=0/\e=(u.id,u.pos)
def Kw{w:Wld}{L:List Ent}(h:Dr w L)(hn:∀u∈w.U,u.pos.ok):∀e∈L,e.2.ok:=λe he=>by obtain⟨u,hu,_,rfl⟩:=(h e).1 he;exact hn u hu
def K0(w:Wld)(p:Vc)(r:Int)(us:List Unt):Prop:=∀u,u∈us↔(u∈w.U/\u.inn=0)/\near p u.pos r=true
def ul{w:Wld}{L:List Ent}(hr:yr w.U)(hL:Dr w L){p:Vc}{r:Int}{ns:List Int}(hn:Ps L p r ns){us:List Unt}(h1:us.map (·.id)=ns)(h2:∀u∈us,u∈w.U/\u.inn=0):K0 w p r us:=by
 intro u;constructor
 ·intro hu;refine⟨h2 u hu,?_⟩;have:u.id∈ns:=by rw[<-h1];exact Fag.2 ⟨u,hu,rfl⟩
  obtain⟨e,he,h3,h4⟩:=(hn.2 _).1 this;obtain⟨v,hv,_,rfl⟩:=(hL e).1 he;rw[H9 hr (h2 u hu).1 hv h3.symm];exact h4
 ·rintro⟨⟨h3,h4⟩,h5⟩;have:u.id∈ns:=(hn.2 _).2 ⟨(u.id,u.pos),(hL _).2 ⟨u,h3,h4,rfl⟩,rfl,h5⟩;rw[<-h1]at this;obtain⟨v,hv,h6⟩:=Fag.1 this;rw[H9 hr h3 (h2 v hv).1 h6.symm];exact hv
theorem Bm(k:Int):0<z6 k/\z6 k<=81920:=by unfold z6;split<;>(try split)<;>omega
def Gk(k:Int):yl k=0\/yl k=1\/yl k=2:=by unfold yl;split<;>(try split)<;>(try split)<;>omega
theorem uk{a b:Vc}{r r':Int}(h:r<=r')(hn:near a b r=true):near a b r'=true:=by unfold near at*;rw[decide_eq_true_iff]at*;have:r*r<=r'*r':=Fa9 h h θ θ;omega
def zdi{w:Wld}{id k:Int}{q:Vc}{us:List Unt}(hf:Cc w.G w.B (yl k) q (z6 k))(hus:K0 w q (z6 k+81920) us):
  qh w id k q↔∀u∈us,u.id≠id->vr q (z6 k) u.pos (z6 u.kind)=true:=by
 constructor
 ·intro h u hu hne;have:=(hus u).1 hu;exact h.2 u this.1.1 this.1.2 hne
 ·intro h;refine⟨hf,λu hu h0 hne=>?_⟩;unfold vr;cases hc:near q u.pos (z6 k+z6 u.kind)with
  |false=>rfl
  |true=>
   have h1:=uk (r':=z6 k+81920) (by have:=Bm u.kind;omega) hc;have:=h u ((hus u).2 ⟨⟨hu,h0⟩,h1⟩) hne;unfold vr at this;rw[hc]at this;exact this
end Go.V
namespace Go.V
def qb{α:Type}(f:α->AV)(e:Int×α):AV×AV:=(int e.1,f e.2)
def qc{α:Type}(cs:List (Int×α))(k:Int):Option α:=(cs.find? λe=>k==e.1).map (·.2)
def yw{α:Type}:List (Int×α)->Int->α->List (Int×α)
 |[],k,v=>[(k,v)]
 |e::l,k,v=>if k==e.1 then(k,v)::l else e::yw l k v
theorem gn{α:Type}(f:α->AV)(cs:List (Int×α))(k:Int):(cs.map (qb f)).find? (qA k)=(cs.find? λe=>k==e.1).map (qb f):=by rw[List.find?_map];rfl
theorem Hd{α:Type}(f:α->AV)(cs:List (Int×α))(k:Int)(z:AV):Fj false z ((cs.map (qb f)).find? (qA k))=((qc cs k).map f).getD z:=by
 rw[gn];unfold qc;cases cs.find? λe=>k==e.1 with
 |none=>rfl
 |some e=>rfl
def s9{α:Type}(f:α->AV)(k:Int)(v:α):∀cs:List (Int×α),
  (match(cs.map (qb f)).findIdx? (qA k)with|some i=>(cs.map (qb f)).set i (int k,f v)|none=>cs.map (qb f)++[(int k,f v)])=(yw cs k v).map (qb f)
 |[]=>rfl
 |e::l=>by
  have ih:=s9 f k v l;rw[Fcc,List.findIdx?_cons];unfold yw;by_cases h:k==e.1
  ·have h2:qA k (qb f e)=true:=h;rw[h2];simp only[h,if_true,List.set_cons_zero,Fcc];rfl
  ·have h:(k==e.1)=false:=by simpa using h
   have h2:qA k (qb f e)=false:=h;rw[h2];simp only[h,if_false,Fcc];cases hx:(l.map (qb f)).findIdx? (qA k)with
   |none=>rw[hx]at ih;simp at ih⊢;exact ih
   |some i=>rw[hx]at ih;simp at ih⊢;exact ih
def K3{α:Type}(f:α->AV)(cs:List (Int×α))(bs:List Nat)(clk:Nat)(k:Int)(v:α):∃bs' clk',wg (cs.map (qb f)) bs clk (qA k) (int k) (f v)=.map ((yw cs k v).map (qb f)) bs' clk':=by
 have h:=s9 f k v cs;unfold wg;cases hx:(cs.map (qb f)).findIdx? (qA k)with
 |none=>rw[hx]at h;exact⟨_,_,by rw[<-h]⟩
 |some i=>rw[hx]at h;exact⟨_,_,by rw[<-h]⟩
theorem Ct{α:Type}(k:Int)(v:α)(j:Int):∀cs:List (Int×α),qc (yw cs k v) j=if j=k then some v else qc cs j
 |[]=>by unfold yw qc;by_cases h:j=k<;>simp[h]
 |e::l=>by
  have ih:=Ct k v j l;unfold qc at ih⊢;by_cases h:k=e.1
  ·have h1:(k==e.1)=true:=by simpa using h
   rw[show yw (e::l) k v=(k,v)::l by unfold yw;simp[h1]];by_cases h2:j=k
   ·simp[h2]
   ·have e1:(j==k)=false:=by simpa using h2
    have e2:(j==e.1)=false:=by rw[<-h];exact e1
    rw[List.find?_cons,List.find?_cons,if_neg h2];simp only[e1,e2]
  ·have h1:(k==e.1)=false:=by simpa using h
   rw[show yw (e::l) k v=e::yw l k v by rw[yw];simp[h1]];rw[List.find?_cons,List.find?_cons];by_cases h2:j=e.1
   ·have e1:(j==e.1)=true:=by simpa using h2
    simp only[e1];rw[if_neg θ]
   ·have e1:(j==e.1)=false:=by simpa using h2
    simp only[e1];exact ih
end Go.V
namespace Go.V
theorem O5{l:List Unt}{i:Nat}(hi:i<l.length)(id:Int):((z8 (l.take (i+1)) id).length:Int)=((z8 (l.take i) id).length:Int)+(if l[i].inn=id then 1 else 0):=by
 unfold z8;rw[Fab hi,Fcr,Fa8,Fae];by_cases h:l[i].inn=id
 ·simp[h]
 ·simp[h]
def O6{l:List Unt}(i:Nat)(id:Int):(z8 (l.take i) id).length<=(z8 l id).length:=by
 have h:(z8 l id).length=(z8 (l.take i) id).length+(z8 (l.drop i) id).length:=by unfold z8;rw[<-Fae,<-Fa8,<-Fcr,Fb9]
 omega
def cq(w:Wld)(i:Nat):Prop:=
 (∀j,(h:j<w.U.length)->j<i->w.U[j].inn≠0->∃x∈w.U,x.id=w.U[j].inn/\(x.inn=0/\x.owner=w.U[j].owner)/\j2 w.U[j].kind=0/\w.U[j].pos=(0,0)/\w.U[j].goal=-1/\w.U[j].state=0)∧
 ∀x∈w.U,x.id≠0->((z8 (w.U.take i) x.id).length:Int)<=j2 x.kind
def yb1{w:Wld}(h:cq w w.U.length):∀u∈w.U,u.inn≠0->Bk w u:=by intro u hu hne;obtain⟨j,hj,rfl⟩:=Fai hu;obtain⟨x,hx,h1,h2,h3,h4,h5,h6⟩:=h.1 j hj hj hne;have:=h.2 x hx (by rw[h1];exact hne);rw[Fak,h1]at this;exact⟨x,hx,h1,h2,this,h3,h4,h5,h6⟩
theorem K7(k:Int):0<=j2 k/\j2 k<=4:=by unfold j2;split<;>(try split)<;>(try split)<;>omega
end Go.V
namespace Go.V
def Hy(w:Wld)(i:Nat):Prop:=∀j,(h:j<w.U.length)->j<i->(ko w w.U[j]/\∀b∈w.B,b.id≠w.U[j].id)/\(0<j->(w.U[j-1]'θ).id<w.U[j].id)
def m6{w:Wld}(h:Hy w w.U.length):Kj w:=by refine⟨λj hj h0=>(h j hj hj).2 h0,λu hu=>?_⟩;obtain⟨j,hj,rfl⟩:=Fai hu;exact(h j hj hj).1
def mz{w:Wld}(h:Kj w)(i:Nat):Hy w i:=λj hj _=>⟨h.2 _ (Faa hj),h.1 j hj⟩
end Go.V
namespace Go.V
def RowsO{α:Type}(k:Nat)(f:α->List AV)(st:Store)(v:AV)(l:List α):Prop:=
 (v=.s (.slice none 0 0)/\l=[])\/∃b cap L,v=.s (.slice (some ⟨b,0,none⟩) l.length cap)/\st.obj b=some (.cells ((rws f l).flatten++L))/\l.length<=cap/\cap*k<=l.length*k+L.length/\cap<=9223372036854775807
section
variable {α:Type} {f:α->List AV} {k:Nat}
theorem qr(hf:∀x,(f x).length=k)(l:List α):(rws f l).flatten.length=l.length*k:=by
 induction l with
 |nil=>simp[rws]
 |cons a l ih=>
  show(f a++(rws f l).flatten).length=(l.length+1)*k;rw[Fae,hf,ih,Fdy];omega
theorem G6(a b:List α):(rws f (a++b)).flatten=(rws f a).flatten++(rws f b).flatten:=by rw[<-cj,Fd5]
theorem Rq{l:List α}{i:Nat}(hi:i<l.length):(rws f l).flatten=(rws f (l.take i)).flatten++(f l[i]++(rws f (l.drop (i+1))).flatten):=by
 have e:l=l.take i++(l[i]::l.drop (i+1)):=by rw[<-Fdj hi,Fb9]
 have e2:(rws f (l[i]::l.drop (i+1))).flatten=f l[i]++(rws f (l.drop (i+1))).flatten:=rfl;rw[<-e2,<-G6,<-e]
theorem zul{X Y ys:List AV}{j:Nat}(h:j+ys.length<=X.length):zv (X++Y) j ys=zv X j ys++Y:=by unfold zv;rw[Fbu θ,List.drop_append_of_le_length θ];simp only[Faw]
theorem Gz(hf:∀x,(f x).length=k){l:List α}{i j:Nat}(hi:i<l.length){x':α}{ys L:List AV}(hj:j+ys.length<=k)(hx:f x'=zv (f l[i]) j ys):
  zv ((rws f l).flatten++L) (i*k+j) ys=(rws f (l.set i x')).flatten++L:=by
 have h1:(rws f (l.take i)).flatten.length=i*k:=by rw[qr hf,Fam,Fdo θ]
 have hi2:i<(l.set i x').length:=θh;rw[Rq hi,Rq hi2,Faw,Faw,<-h1,ow];have e1:(l.set i x').take i=l.take i:=by rw[List.take_set_of_le (Fal i)]
 have e2:(l.set i x').drop (i+1)=l.drop (i+1):=by rw[List.drop_set_of_lt θ]
 rw[e1,e2,Fbm,hx];have h3:=hf l[i];rw[Faw,zul θ];simp only[Faw]
theorem RowsO.un{a g:Store}{v:AV}{l:List α}(h:RowsO k f g v l):RowsO k f (a.un g) v l:=by
 rcases h with h|⟨b1,cap,L,h1,h2,h3⟩
 ·exact .inl h
 ·exact .inr ⟨b1,cap,L,h1,zg h2,h3⟩
def RowsO.unL{a g:Store}{v:AV}{l:List α}(h:RowsO k f a v l)(hd:zk a g):RowsO k f (a.un g) v l:=by
 rcases h with h|⟨b1,cap,L,h1,h2,h3⟩
 ·exact .inl h
 ·exact .inr ⟨b1,cap,L,h1,yg hd h2,h3⟩
def RowsO.borrow{st:Store}{v:AV}{l:List α}(hf:∀x,(f x).length=k)(hs:∀x,∀y∈f x,∃u,y=AV.s u/\xp u=true)(hv:RowsO k f st v l){Oth M:BB}{w:World}(sto:StoreOK st Oth M w){x:Value}(hx:VRel w (λb o=>M b o\/Oth b o) v x):
  VRel w (λb o=>(M b o\/Oth b o)/\st.obj b=none) (lst k f l) x:=by
 rcases hv with⟨rfl,rfl⟩|⟨b,cap,L,rfl,ho,h1,h2,h3⟩
 ·cases hx;exact AV.le_nil k _ _ _ (.s _)
 ·cases hx
  exact ym6 (sto.obj b _ ho).1 (λo hT=>by rw[ho]at hT;exact absurd hT.2 φ) (zl l) h1
   (λrow hr=>by obtain⟨n,_,rfl⟩:=Fag.1 hr;exact hf n) (λrow hr y hy=>by obtain⟨n,_,rfl⟩:=Fag.1 hr;exact hs n y hy)
def Ni{P:Program}{c:Cfg}{e:TypeId}{ie:TI}(hie:c.I e=some ie)(hf:∀x,(f x).length=ie.size)(hby:ie.bytes<=1000){st:Store}{v:AV}{l:List α}(hv:RowsO ie.size f st v l)(x:α){src:AV}(hsrc:vz ie.size (.av src)=some [f x])(hlen:l.length<=1000000000){K:Ja}
  (h:∀b cap L,(Fresh st b\/∃c0,v=.s (.slice (some ⟨b,0,none⟩) l.length c0))->(l++[x]).length<=cap->cap*ie.size<=(l++[x]).length*ie.size+L.length->cap<=9223372036854775807->
   K (.s (.slice (some ⟨b,0,none⟩) (l++[x]).length cap)) (st.sO b (.cells ((rws f (l++[x])).flatten++L)))):appendK P c st e (.av v) (.av src) K:=by
 refine⟨.inr ⟨v,_,rfl,rfl,?_⟩⟩;have hl:(l++[x]).length=l.length+1:=φ;have hfl:=qr hf l;have hmul:(l.length+1)*ie.bytes<=1000000001*1000:=Fcw θ hby;have happ:(rws f (l++[x])).flatten=(rws f l).flatten++f x:=by rw[G6];show _++(f x++[])=_;rw[Fbl]
 rcases hv with⟨rfl,rfl⟩|⟨b,cap,L,rfl,ho,h1,h2,h3⟩
 ·refine zej hie hsrc ⟨by simp at hmul⊢;omega,φ⟩ φ λb' cap' hb hc hc2=>?_;have:=h b' cap' (List.replicate ((cap'-[f x].length)*ie.size) .any) (.inl hb) (by simpa using hc) (by
   simp only[Fbh,Fc6,Fao,<-Fch];exact Fa1 _ θ) hc2
  exact this
 ·refine Pn hie (cap:=cap) ho (by rw[Fae,hfl];exact h2) h1 hsrc ⟨χ,χ⟩ (λhc=>?_) λhc b' cap' hb hc1 hc2=>?_
  ·have hc:l.length+1<=cap:=hc;have hcm:(l.length+1)*ie.size<=cap*ie.size:=Fa1 _ hc;rw[Fdy]at hcm;have e1:zv ((rws f l).flatten++L) (l.length*ie.size) [f x].flatten=(rws f (l++[x])).flatten++L.drop ie.size:=by
    rw[Dk hfl,happ];simp[hf x]
   have:=h b cap (L.drop ie.size) (.inr ⟨cap,rfl⟩) θ (by rw[hl,Fdy,Fcg];omega) h3;rw[hl,<-e1]at this;exact this
  ·have hc1:l.length+1<=cap':=hc1;have e1:((rws f l).flatten++L).take (l.length*ie.size)++[f x].flatten++List.replicate ((cap'-(l.length+1))*ie.size) .any=(rws f (l++[x])).flatten++List.replicate ((cap'-(l.length+1))*ie.size) .any:=by
    rw[Fbu θ,Fce θ,happ];simp
   have:=h b' cap' (List.replicate ((cap'-(l.length+1))*ie.size) .any) (.inl hb) θ (by rw[hl,Fbh,<-Fch];exact Fa1 _ θ) hc2;rw[hl,<-e1]at this;exact this
end
theorem yn(u:Unt):(zf u).length=10:=rfl
def P3(u:Unt):∀y∈zf u,∃x,y=AV.s x/\xp x=true:=by intro y hy;simp[zf]at hy;rcases hy with rfl|rfl|rfl|rfl|rfl|rfl|rfl|rfl|rfl|rfl<;>exact⟨_,rfl,rfl⟩
def zz(w:Wld)(v:AV):List AV:=[int w.tick,int w.players,int w.next,int w.G.W,int w.G.H,jt w.G.T,lst 6 zi w.B,v]
def Fa{l:List Unt}(hr:yr l){a b:Nat}(hab:a<b)(hb:b<l.length):(l[a]'θ).id<l[b].id:=by
 induction b with
 |zero=>omega
 |succ b ih=>
  have h3:=hr (b+1) hb θ;simp only[Fd9]at h3;by_cases e:a=b
  ·subst e;exact h3
  ·have:=ih θ θ;omega
def jq{i:TI}{A:Fr}{st:Store}{b o:Nat}{v:AV}{xs l:List AV}{K:Fr->Store->Prop}(hc:cellsOf v=some xs)(h1:xs.all AV.one=true)(hi:i.size=xs.length)(ho:st.obj b=some (.cells l))(hl:o+xs.length<=l.length)
  (hk:K A (st.sO b (.cells (zv l o xs)))):Gx i A st (.av (.s (.pointer (some ⟨b,o,none⟩)))) v K:=by
 unfold Gx;rw[hc];show(bif Nat.beq xs.length i.size&&(xs.all AV.one)then _ else False);rw[hi];simp only[h1,Fb6,Bool.and_self,cond_true];rw[ho];exact⟨hl,Lb hk⟩
def Oj(k:Int):24576<=z6 k/\z6 k<=81920:=by unfold z6;split<;>(try split)<;>omega
def Vf{g:Gnd}(hg:zw g){l:List Bld}{c:Int}{p:Vc}{k:Int}(h:Cc g l c p (z6 k)):(24576<=p.1/\p.1+24576<=g.W*65536)/\(24576<=p.2/\p.2+24576<=g.H*65536)/\(p.1<=8388608/\p.2<=8388608):=by have h1:=h.1;have h2:=Oj k;obtain⟨⟨_,h3⟩,⟨_,h4⟩,_⟩:=hg;omega
def vm(g:Gnd)(p:Vc):Nat:=(p.1/65536+g.W*(p.2/65536)).toNat
def bf{g:Gnd}(hg:zw g){p:Vc}(h:(0<=p.1/\p.1<g.W*65536)/\(0<=p.2/\p.2<g.H*65536)):
  ((vm g p:Nat):Int)=p.1/65536+g.W*(p.2/65536)/\vm g p<g.T.length/\((vm g p:Nat):Int)%g.W=p.1/65536/\((vm g p:Nat):Int)/g.W=p.2/65536:=by
 have hs:=Kp hg (x:=p.1/65536) (y:=p.2/65536) θ θ;have ha:=qg hg;unfold vm;generalize p.1/65536=x at*;generalize p.2/65536=y at*;have e:((x+g.W*y).toNat:Int)=x+g.W*y:=θ;rw[e];exact⟨rfl,θ,hs.2.2.1,hs.2.2.2⟩
def ACalls.frozen{P:Program}{f:FuncId}{xs:List AV}{Q:Ja}{R:AV->Prop}(h:ACalls P f xs Store.empty Q)
  (hQ:∀r S,Q r S->∃r2,R r2/\∀(Oth M:BB) (w:World) (v:Value),StoreOK S Oth M w->VRel w (λb o=>M b o\/Oth b o) r v->VRel w (λb o=>(M b o\/Oth b o)/\S.obj b=none) r2 v):
  ACalls P f xs Store.empty λr _=>R r:=by
 refine⟨λOth M w vs sto hr=>?_⟩;have h1:=h.out Oth M w vs sto hr;have key:∀v w',xg Store.empty Q Oth M w v w'->xg Store.empty (λr _=>R r) Oth M w v w':=by
  rintro v w' ⟨r,S,M',hq,hv,hs,hc⟩;obtain⟨r2,hr2,hk⟩:=hQ r S hq;refine⟨r2,Store.empty,λb o=>M' b o/\S.obj b=none,hr2,(hk Oth M' w' v hs hv).mono λb o hT=>?_,?_,?_⟩
  ·rcases hT with⟨h1,h2⟩|h1
   ·exact⟨.inl h1,h2⟩
   ·refine⟨.inr h1,?_⟩;cases hb:S.obj b with
    |none=>rfl
    |some y=>exact absurd ((hs.obj b y hb).2 o) (hs.dis b o h1)
  ·exact{obj:=λb x hx=>γ,tok:=λb x hx=>γ,mlt:=λb o hm=>hs.mlt b o hm.1,olt:=hs.olt,dis:=λb o ho hm=>hs.dis b o ho hm.1}
  ·exact{size:=hc.size,keep:=hc.keep,blk:=hc.blk,shp:=hc.shp,sub:=λb o hm hb=>hc.sub b o hm.1 hb,tape:=hc.tape,os:=hc.os,output:=hc.output}
 generalize(callFunc f vs).run P w=res at h1;cases res with
 |ok n w'=>
  cases n with
  |enter g args=>exact Calls.mono h1 λe w'' ⟨v,he,hv⟩=>⟨v,he,key _ _ hv⟩
  |value v=>exact key _ _ h1
  |_=>exact h1
 |_=>exact h1
def ACalls.frozenTo{P:Program}{f:FuncId}{xs:List AV}{st0:Store}{Q:Ja}{R:Ja}(h:ACalls P f xs st0 Q)
    (hQ:∀r S,Q r S->∃r2 S2,R r2 S2/\(∀b x,S2.obj b=some x->S.obj b=some x)/\(∀b x,S2.tok b≠some x)∧
      ∀(Oth M:BB) (w:World) (v:Value),StoreOK S Oth M w->VRel w (λb o=>M b o\/Oth b o) r v->VRel w (λb o=>(M b o\/Oth b o)/\(S.obj b=none\/S2.obj b≠none)) r2 v):
    ACalls P f xs st0 R:=by
  refine⟨λOth M w vs sto hr=>?_⟩;have h1:=h.out Oth M w vs sto hr;have key:∀v w',xg st0 Q Oth M w v w'->xg st0 R Oth M w v w':=by
    rintro v w' ⟨r,S,M',hq,hv,hs,hc⟩;obtain⟨r2,S2,hr2,hsub,htok,hk⟩:=hQ r S hq;have hT:∀b o,((M' b o/\(S.obj b=none\/S2.obj b≠none))\/Oth b o)->(M' b o\/Oth b o):=λb o h=>h.imp (·.1) id;refine⟨r2,S2,λb o=>M' b o/\(S.obj b=none\/S2.obj b≠none),hr2,(hk Oth M' w' v hs hv).mono λb o hT=>?_,?_,?_⟩
    · rcases hT with⟨h1,h2⟩|h1
      · exact⟨.inl h1,h2⟩
      · refine⟨.inr h1,?_⟩
        cases hb:S.obj b with
        |none=>exact .inl rfl
        |some y=>exact absurd ((hs.obj b y hb).2 o) (hs.dis b o h1)
    · exact { obj:=λb x hx=>⟨(hs.obj b x (hsub b x hx)).1.mono hT,λo=>⟨(hs.obj b x (hsub b x hx)).2 o,.inr (by rw[hx];simp)⟩⟩
              tok:=λb x hx=>absurd hx (htok b x),mlt:=λb o hm=>hs.mlt b o hm.1,olt:=hs.olt,dis:=λb o ho hm=>hs.dis b o ho hm.1}
    · exact{size:=hc.size,keep:=hc.keep,blk:=hc.blk,shp:=hc.shp,sub:=λb o hm hb=>hc.sub b o hm.1 hb,tape:=hc.tape,os:=hc.os,output:=hc.output}
  generalize(callFunc f vs).run P w=res at h1;cases res with
  | ok n w'=>
    cases n with
    |enter g args=>exact Calls.mono h1 λe w'' ⟨v,he,hv⟩=>⟨v,he,key _ _ hv⟩
    |value v=>exact key _ _ h1
    |_=>exact h1
  |_=>exact h1
def Kr(a:Option Addr):Prop:=∀x,a=some x->x.spot=none
section
variable {P:Program} {c:Cfg} {st:Store}
def lp{e:TypeId}{ie:TI}(hie:c.I e=some ie){a:Option Addr}{x:AV}{rows:List (List AV)}(hx:vz ie.size (.av x)=some rows)(hroom:room rows.length ie.bytes)(hne:0<rows.length){K:Ja}
  (h2:∀b' cap',Fresh st b'->rows.length<=cap'->cap'<=9223372036854775807->K (.s (.slice (some ⟨b',0,none⟩) rows.length cap')) (st.sO b' (.cells (rows.flatten++List.replicate ((cap'-rows.length)*ie.size) .any)))):
  AppX P c st e (.s (.slice a 0 0)) x K:=by
 refine⟨⟨ie,hie⟩,λie' hie' Oth M w sv xv argTypes ty args t sto hs hxv hat ht1 hu hti h0 h1'=>?_⟩;rw[hie]at hie';cases hie';have hs:=VRel.eq_s hs;subst hs;have A:AppArgs P c argTypes args t e ie a 0 0 xv:=⟨hat,ht1,hu,hti,h0,h1'⟩
 obtain⟨hl1,hl2,new,hnew,hone,hnsz,hfc⟩:=H6 (P:=P) (β:=λ_=>0) (k:=ie.size) (x:=.av x) hxv hx;obtain⟨newCap,rest,g1,g0,g2,g3⟩:=Kc (old:=#[]) ty A hl1 (hfc w.drew rfl) (by cases a<;>simp[Builtin.firstCells,loadCells,loadCellsFrom]) θ (by simpa using hroom);have gd:Grow w w.drew:=Grow.drew w;have sto1:=sto.grow gd;obtain⟨f1,f2,f3⟩:=Gh sto1 (#[]++new++rest) e (l:=rows.flatten++List.replicate rest.size .any) (by
  rw[Fbc,Fbc];refine((show Reads w _ rows.flatten ([]++new.toList)from hnew).append ⟨φ,λi x y hx hy=>?_⟩).keep (gd.keeps _);rw[Fbw]at hx;split at hx
  ·cases hx;exact .any _
  ·cases hx)
 rw[g2]at f2;simp only[Fbg]at g1 g3 f2;exact⟨_,_,g3,_,_,_,h2 _ newCap f1 g1 g0,.s _,f2,(gd.chg M).trans f3⟩
def yns{e:TypeId}{ie:TI}(hie:c.I e=some ie){x:AV}{rows:List (List AV)}(hx:vz ie.size (.av x)=some rows)(hroom:room rows.length ie.bytes){K:Ja}
  (h1:rows=[]->∀a,Kr a->K (.s (.slice a 0 0)) st)
  (h2:0<rows.length->∀b' cap',Fresh st b'->rows.length<=cap'->cap'<=9223372036854775807->K (.s (.slice (some ⟨b',0,none⟩) rows.length cap')) (st.sO b' (.cells (rows.flatten++List.replicate ((cap'-rows.length)*ie.size) .any)))):
  AppX P c st e .emp x K:=by
 refine⟨⟨ie,hie⟩,λie' hie' Oth M w sv xv argTypes ty args t sto hs hxv hat ht1 hu hti h0 h1'=>?_⟩;cases hs with
 |emp a ha=>
  by_cases hr:0<rows.length
  ·exact(lp hie hx hroom hr (h2 hr)).out ie' hie' Oth M w _ xv argTypes ty args t sto (.s _) hxv hat ht1 hu hti h0 h1'
  ·rw[hie]at hie';cases hie';have hr0:rows=[]:=Fa4 θ;subst hr0;have A:AppArgs P c argTypes args t e ie a 0 0 xv:=⟨hat,ht1,hu,hti,h0,h1'⟩
   obtain⟨hl1,hl2,new,hnew,hone,hnsz,hfc⟩:=H6 (P:=P) (β:=λ_=>0) (k:=ie.size) (x:=.av x) hxv hx;have hn0:new.toList=[]:=by simp_all
   have hrun:=Kb (w':=w) ty A hl1 (hfc w rfl) φ (λb hb=>by rw[hn0];simp[storeCells]) λ_=>rfl;exact⟨_,_,hrun,_,_,M,h1 rfl a ha,.s _,sto,Chg.refl M w⟩
end
def RowsQ{α:Type}(k:Nat)(f:α->List AV)(st:Store)(v:AV)(l:List α):Prop:=
 RowsO k f st v l\/∃a,Kr a/\v=.s (.slice a 0 0)/\l=[]
section
variable {α:Type} {f:α->List AV} {k:Nat}
theorem RowsO.q{st:Store}{v:AV}{l:List α}(h:RowsO k f st v l):RowsQ k f st v l:=.inl h
theorem RowsQ.un{a g:Store}{v:AV}{l:List α}(h:RowsQ k f g v l):RowsQ k f (a.un g) v l:=h.imp (·.un) id
def RowsQ.unL{a g:Store}{v:AV}{l:List α}(h:RowsQ k f a v l)(hd:zk a g):RowsQ k f (a.un g) v l:=h.imp (·.unL hd) id
def RowsQ.form{st:Store}{v:AV}{l:List α}(h:RowsQ k f st v l):∃oa cap,v=.s (.slice oa l.length cap)/\∀i,i<l.length->∃b L,oa=some ⟨b,0,none⟩/\st.obj b=some (.cells ((rws f l).flatten++L)):=by
 rcases h with(⟨rfl,rfl⟩|⟨b,cap,L,rfl,ho,_⟩)|⟨a,_,rfl,rfl⟩
 ·simp_all
 ·grind
 simp_all
def RowsQ.borrow{st:Store}{v:AV}{l:List α}(hf:∀x,(f x).length=k)(hs:∀x,∀y∈f x,∃u,y=AV.s u/\xp u=true)(hv:RowsQ k f st v l){Oth M:BB}{w:World}(sto:StoreOK st Oth M w){x:Value}(hx:VRel w (λb o=>M b o\/Oth b o) v x):
  VRel w (λb o=>(M b o\/Oth b o)/\st.obj b=none) (lst k f l) x:=by
 rcases hv with hv|⟨a,ha,rfl,rfl⟩
 ·exact hv.borrow hf hs sto hx
 ·cases hx;exact .nil k a
theorem RowsQ.sub{S S2:Store}{v:AV}{l:List α}(h:RowsQ k f S v l)(hk:∀b n c,v=.s (.slice (some ⟨b,0,none⟩) n c)->S2.obj b=S.obj b):RowsQ k f S2 v l:=by
 rcases h with(h|⟨b,cap,L,rfl,ho,h2⟩)|h
 ·exact .inl (.inl h)
 ·exact .inl (.inr ⟨b,cap,L,rfl,by rw[hk b _ _ rfl];exact ho,h2⟩)
 ·exact .inr h
def ww{P:Program}{c:Cfg}{e:TypeId}{ie:TI}(hie:c.I e=some ie)(hf:∀x,(f x).length=ie.size)(hby:ie.bytes<=1000){st:Store}{v:AV}{l:List α}(hv:RowsQ ie.size f st v l)(x:α){src:AV}(hsrc:vz ie.size (.av src)=some [f x])(hlen:l.length<=1000000000){K:Ja}
  (h:∀b cap L,(Fresh st b\/∃c0,0<c0/\v=.s (.slice (some ⟨b,0,none⟩) l.length c0))->(l++[x]).length<=cap->cap*ie.size<=(l++[x]).length*ie.size+L.length->cap<=9223372036854775807->
   K (.s (.slice (some ⟨b,0,none⟩) (l++[x]).length cap)) (st.sO b (.cells ((rws f (l++[x])).flatten++L)))):appendK P c st e (.av v) (.av src) K:=by
 refine⟨.inr ⟨v,_,rfl,rfl,?_⟩⟩;have hl:(l++[x]).length=l.length+1:=φ;have hfl:=qr hf l;have hmul:(l.length+1)*ie.bytes<=1000000001*1000:=Fcw θ hby;have happ:(rws f (l++[x])).flatten=(rws f l).flatten++f x:=by rw[G6];show _++(f x++[])=_;rw[Fbl]
 have empty:∀a:Option Addr,l=[]->v=.s (.slice a 0 0)->AppX P c st e v src K:=λa hl0 hva=>by subst hl0 hva;refine lp hie hsrc ⟨χ,φ⟩ φ λb' cap' hb hc hc2=>?_;have:=h b' cap' (List.replicate ((cap'-[f x].length)*ie.size) .any) (.inl hb) (by simpa using hc) (by simp only[Fbh,Fc6,Fao,<-Fch];grind) hc2;exact this
 rcases hv with(⟨hv,hl0⟩|⟨b,cap,L,rfl,ho,h1,h2,h3⟩)|⟨a,ha,hv,hl0⟩
 ·exact empty _ hl0 hv
 ·refine Pn hie (cap:=cap) ho δ h1 hsrc ⟨χ,χ⟩ (λhc=>?_) λhc b' cap' hb hc1 hc2=>?_
  ·have hc:l.length+1<=cap:=hc;have hcm:(l.length+1)*ie.size<=cap*ie.size:=Fa1 _ hc;rw[Fdy]at hcm;have e1:zv ((rws f l).flatten++L) (l.length*ie.size) [f x].flatten=(rws f (l++[x])).flatten++L.drop ie.size:=by grind[Dk]
   have:=h b cap (L.drop ie.size) (.inr ⟨cap,θ,rfl⟩) θ (by grind[Nat.succ_mul]) h3;grind
  ·have hc1:l.length+1<=cap':=hc1;have e1:((rws f l).flatten++L).take (l.length*ie.size)++[f x].flatten++List.replicate ((cap'-(l.length+1))*ie.size) .any=(rws f (l++[x])).flatten++List.replicate ((cap'-(l.length+1))*ie.size) .any:=by
    rw[Fbu θ,Fce θ,happ];simp
   have:=h b' cap' (List.replicate ((cap'-(l.length+1))*ie.size) .any) (.inl hb) θ (by rw[hl,Fbh,<-Fch];exact Fa1 _ θ) hc2;rw[hl,<-e1]at this;exact this
 ·exact empty _ hl0 hv
def lr{P:Program}{c:Cfg}{e:TypeId}{ie:TI}(hie:c.I e=some ie)(hf:∀x,(f x).length=ie.size)(hby:ie.bytes<=1000){st:Store}{l:List α}(hlen:l.length<=1000000000){K:Ja}
  (h:∀v N,RowsQ ie.size f N v l->zk N st->K v (N.un st)):appendK P c st e (.av .emp) (.av (lst ie.size f l)) K:=by
 refine⟨.inr ⟨_,_,rfl,rfl,?_⟩⟩;have hmul:l.length*ie.bytes<=1000000000*1000:=Fcw θ hby;refine yns hie (rows:=rws f l) (by simp[vz,lst]) ⟨θi,θi⟩ (λhr a ha=>?_) λhr b cap hb hc hc2=>?_
 ·have hl:l=[]:=by
   have:=congrArg List.length hr;rw[zl]at this;exact Fa4 this
  subst hl;have:=h (.s (.slice a 0 0)) Store.empty (.inr ⟨a,ha,rfl,rfl⟩) λb hb=>(hb.elim (λh=>h rfl) (λh=>h rfl):False).elim
  rwa [xr]at this
 ·rw[zl]at hc⊢;have:=h (.s (.slice (some ⟨b,0,none⟩) l.length cap)) (Store.empty.sO b (.cells ((rws f l).flatten++List.replicate ((cap-l.length)*ie.size) .any))) (.inl (.inr ⟨b,cap,_,rfl,zd _ _ _,hc,by
   simp only[Fbh,<-Fch];exact Fa1 _ θ,hc2⟩)) (λi hi hs=>by
    have:i=b:=Decidable.byContradiction λhne=>by
     rcases hi with hi|hi
     ·rw[zj hne]at hi;exact hi rfl
     ·exact hi rfl
    subst this;exact fresh_iff.1 hb hs)
  have e:(Store.empty.sO b (.cells ((rws f l).flatten++List.replicate ((cap-l.length)*ie.size) .any))).un st=st.sO b (.cells ((rws f l).flatten++List.replicate ((cap-l.length)*ie.size) .any)):=by rw[<-Al (fresh_iff.1 hb),xr]
  rw[e]at this;exact this
end
section
variable {w:Wld} {v:AV} {k p:Nat} {S:Store}
def Dh{st:Store}(hv:RowsQ 10 zf st v w.U){Oth M:BB}{W:World}(sto:StoreOK st Oth M W){x:Value}(hx:VRel W (λb o=>M b o\/Oth b o) (.agg (zz w v)) x):
  VRel W (λb o=>(M b o\/Oth b o)/\st.obj b=none) (.agg (zp w)) x:=by
 cases hx with
 |agg _ c hl hc=>
  refine .agg _ c hl λi x y hx hy=>?_
  match i with
  |0=>simp only[zp,Fan,Faj]at hx;subst hx;exact qv (hc 0 _ y rfl hy)
  |1=>simp only[zp,Faq,Fan,Faj]at hx;subst hx;exact qv (hc 1 _ y rfl hy)
  |2=>simp only[zp,Faq,Fan,Faj]at hx;subst hx;exact qv (hc 2 _ y rfl hy)
  |3=>simp only[zp,Faq,Fan,Faj]at hx;subst hx;exact qv (hc 3 _ y rfl hy)
  |4=>simp only[zp,Faq,Fan,Faj]at hx;subst hx;exact qv (hc 4 _ y rfl hy)
  |5=>simp only[zp,Faq,Fan,Faj]at hx;subst hx;exact qv (hc 5 _ y rfl hy)
  |6=>simp only[zp,Faq,Fan,Faj]at hx;subst hx;exact qv (hc 6 _ y rfl hy)
  |7=>simp only[zp,Faq,Fan,Faj]at hx;subst hx;exact hv.borrow yn P3 sto (hc 7 _ y rfl hy)
  |i+8=>simp[zp]at hx
def xz(v:AV)(p:Nat):Prop:=∀b n c,v=.s (.slice (some ⟨b,0,none⟩) n c)->0<c->b≠p
def RowsQ.set{α:Type}{f:α->List AV}{l:List α}(h:RowsQ k f S v l)(hp:xz v p)(x:AObj):RowsQ k f (S.sO p x) v l:=by
 rcases h with(h|⟨b,cap,L,rfl,ho,h2,h3⟩)|h
 ·exact .inl (.inl h)
 ·by_cases hc:0<cap
  ·exact .inl (.inr ⟨b,cap,L,rfl,by rw[zj (hp b _ _ rfl hc)];exact ho,h2,h3⟩)
  ·have h0:cap=0:=θ;subst h0;have hl:l=[]:=Fa4 θ;subst hl;exact .inr ⟨_,λx hx=>by cases hx;rfl,rfl,rfl⟩
 ·exact .inr h
def Cp{α:Type}{f:α->List AV}{l:List α}(h:RowsQ k f S v l)(hp:S.obj p=none):xz v p:=by
 rcases h with(⟨rfl,rfl⟩|⟨b,cap,L,rfl,ho,h2⟩)|⟨a,ha,rfl,rfl⟩
 ·intro b n c e;simp at e
 ·intro b' n c e _;simp only[AV.s.injEq,Value.slice.injEq,Faj,Addr.mk.injEq]at e;obtain⟨⟨rfl,_⟩,_⟩:=e;intro e2;subst e2;rw[hp]at ho;cases ho
 ·intro b n c e hc;simp only[AV.s.injEq,Value.slice.injEq]at e;omega
def spU(w:Wld)(c:Cmd):Unt:=⟨w.next,c.P,c.N,(c.X,c.Y),-1,-1,0,0,0⟩
def spW(w:Wld)(c:Cmd):Wld:={w with U:=w.U++[spU w c],next:=w.next+1}
def Fq(w:Wld):Prop:=4096<=w.U.length\/1099511627776<=w.next
open Classical in
noncomputable def spE(w:Wld)(c:Cmd):Int:=if Fq w then 4 else if qh w 0 c.N (c.X,c.Y)then 0 else 5
open Classical in
noncomputable def doE(E:Wld->Cmd->Int)(w:Wld)(c:Cmd):Int:=if¬ya w\/¬js c\/w.players<c.P then 1 else E w c
open Classical in
noncomputable def doW(E:Wld->Cmd->Int)(W:Wld->Cmd->Wld)(w:Wld)(c:Cmd):Wld:=if doE E w c=0 then W w c else w
theorem Gq{E:Wld->Cmd->Int}{c:Cmd}(h:¬ya w\/¬js c\/w.players<c.P):doE E w c=1:=by unfold doE;rw[if_pos h]
theorem Hp{E:Wld->Cmd->Int}{c:Cmd}(h1:ya w)(h2:js c)(h3:c.P<=w.players):doE E w c=E w c:=by
 unfold doE;rw[if_neg];rintro(h|h|h)
 ·exact h h1
 ·exact h h2
 ·omega
theorem g9{E:Wld->Cmd->Int}{W:Wld->Cmd->Wld}{c:Cmd}(h:doE E w c=0):doW E W w c=W w c:=by unfold doW;rw[if_pos h]
theorem Pf{E:Wld->Cmd->Int}{W:Wld->Cmd->Wld}{c:Cmd}(h:doE E w c≠0):doW E W w c=w:=by unfold doW;rw[if_neg h]
end
structure Scr where
 W:Wld
 L:List Cmd
def ce(s:Scr):List AV:=[int s.W.tick,int s.W.players,int s.W.next,int s.W.G.W,int s.W.G.H,jt s.W.G.T,lst 6 zi s.W.B,lst 10 zf s.W.U,lst 10 yh s.L]
end Go.V
namespace Go.V
section
variable {id P:Int} {i:Nat} {w:Wld}
def jk(f:Int->Int):List Int->Int
 |[]=>0
 |a::l=>if f a=0 then jk f l else f a
theorem Pq{f:Int->Int}:∀{l:List Int},(∀j,(h:j<l.length)->f l[j]=0)->jk f l=0
 |[],_=>rfl
 |a::l,h=>by have h0:=h 0 φ;simp only[Fcy]at h0;unfold jk;rw[if_pos h0];exact Pq λj hj=>by have:=h (j+1) χ;simpa using this
theorem Cw{f:Int->Int}:∀{l:List Int} {i:Nat} (hi:i<l.length),(∀j,(h:j<l.length)->j<i->f l[j]=0)->f l[i]≠0->jk f l=f l[i]
 |[],i,hi,_,_=>absurd hi (Fau i)
 |a::l,0,hi,_,h=>by simp only[Fcy]at h⊢;unfold jk;rw[if_neg h]
 |a::l,i+1,hi,h,h2=>by have h0:=h 0 φ θ;simp only[Fcy]at h0;simp only[List.getElem_cons_succ]at h2⊢;unfold jk;rw[if_pos h0];exact Cw (by simpa using hi) (λj hj hji=>by have:=h (j+1) χ θ;simpa using this) h2
def Gu{f:Int->Int}:∀{l:List Int},jk f l=0->∀a∈l,f a=0
 |[],_,a,ha=>by cases ha
 |b::l,h,a,ha=>by
  unfold jk at h;by_cases hb:f b=0
  ·rw[if_pos hb]at h;rcases Fa7.1 ha with rfl|ha
   ·exact hb
   ·exact Gu h a ha
  ·rw[if_neg hb]at h;exact absurd h hb
def qa(l:List Unt)(id:Int):Option Nat:=l.findIdx? λu=>decide (u.id=id)
def Ch:Unt:=⟨0,0,0,(0,0),0,0,0,0,0⟩
theorem Ho{l:List Unt}(h:qa l id=some i):∃hi:i<l.length,l[i].id=id:=by unfold qa at h;rw[Fa5]at h;obtain⟨h1,h2,_⟩:=h;exact⟨h1,of_decide_eq_true h2⟩
def zb6{l:List Unt}(h:qa l id=none):∀u∈l,u.id≠id:=by unfold qa at h;rw[Fbn]at h;exact λu hu=>of_decide_eq_false (h u hu)
theorem Lc{l:List Unt}(hr:yr l)(hi:i<l.length)(e:l[i].id=id):qa l id=some i:=by
 cases h:qa l id with
 |none=>exact absurd e (zb6 h _ (Faa hi))
 |some k=>
  obtain⟨hk,e2⟩:=Ho h;by_cases h1:k<i
  ·have:=Fa hr h1 hi;omega
  ·by_cases h2:i<k
   ·have:=Fa hr h2 hk;omega
   ·rw[show k=i by omega]
def uAt(w:Wld)(id:Int):Unt:=match qa w.U id with|none=>Ch|some i=>w.U.getD i Ch
def xm(w:Wld)(P id:Int):Int:=match qa w.U id with|none=>3|some i=>if(w.U.getD i Ch).owner=P then(if(w.U.getD i Ch).inn=0 then 0 else 9)else 6
def Nm(h:qa w.U id=some i):∃hi:i<w.U.length,w.U[i].id=id/\uAt w id=w.U[i]:=by obtain⟨hi,e⟩:=Ho h;refine⟨hi,e,?_⟩;unfold uAt;rw[h];simp[Fbb,hi]
theorem Wd(h:qa w.U id=none):xm w P id=3/\uAt w id=Ch:=by unfold xm uAt;rw[h];exact⟨rfl,rfl⟩
theorem lj(h:qa w.U id=some i)(hi:i<w.U.length):xm w P id=if w.U[i].owner=P then(if w.U[i].inn=0 then 0 else 9)else 6:=by unfold xm;rw[h];simp[Fbb,hi]
def Ce(h:xm w P id=0):∃i,∃hi:i<w.U.length,qa w.U id=some i/\w.U[i].id=id/\uAt w id=w.U[i]/\w.U[i].owner=P/\w.U[i].inn=0:=by
 cases hf:qa w.U id with
 |none=>rw[(Wd (P:=P) hf).1]at h;cases h
 |some i=>
  obtain⟨hi,e,e2⟩:=Nm hf;rw[lj hf hi]at h;refine⟨i,hi,rfl,e,e2,?_⟩;split at h
  ·split at h
   ·exact⟨‹_›,‹_›⟩
   ·cases h
  ·cases h
def ni(hn:∀u∈w.U,u.pos.ok)(id:Int):(uAt w id).pos.ok:=by
 cases hf:qa w.U id with
 |none=>rw[(Wd (P:=0) hf).2];unfold Ch Vc.ok ym;decide
 |some i=>
  obtain⟨hi,e,e2⟩:=Nm hf;rw[e2];exact hn _ (Faa hi)
def j7(u:Unt):Unt:={u with goal:=-1,next:=-1,stuck:=0,state:=0}
def yx(l:List Int)(g:Unt->Unt)(U:List Unt):List Unt:=U.map λu=>if u.id∈l then g u else u
theorem Ma(g:Unt->Unt)(U:List Unt):yx [] g U=U:=by unfold yx;simp
theorem wd(l:List Int)(g:Unt->Unt)(U:List Unt):(yx l g U).length=U.length:=by unfold yx;rw[Fas]
theorem Mb{l:List Int}{g:Unt->Unt}{U:List Unt}(hi:i<U.length):(yx l g U)[i]'(by rw[wd];exact hi)=if U[i].id∈l then g U[i]else U[i]:=by unfold yx;rw[Fbp]
theorem Rn{l:List Int}{g:Unt->Unt}(hg:∀u,(g u).id=u.id){U:List Unt}(hi:i<U.length):((yx l g U)[i]'(by rw[wd];exact hi)).id=U[i].id:=by
 rw[Mb hi];split
 ·exact hg _
 ·rfl
def b7{l:List Int}{g:Unt->Unt}(hg:∀u,(g u).id=u.id){U:List Unt}(hr:yr U):yr (yx l g U):=by
 intro i hi h0;have hi2:i<U.length:=by rw[wd]at hi;exact hi
 rw[Rn hg hi2,Rn hg (show i-1<U.length by omega)];exact hr i hi2 h0
theorem Rm{l:List Int}{g:Unt->Unt}{U:List Unt}(hr:yr U)(hi:i<U.length):(yx l g U).set i (g U[i])=yx (l++[U[i].id]) g U:=by
 apply Fdm
 ·rw[Faf,wd,wd]
 intro j h1 h2;have hj:j<U.length:=by rw[wd]at h2;exact h2
 rw[Mb hj,Fc9];by_cases e:i=j
 ·subst e;rw[if_pos rfl,if_pos φ]
 ·rw[if_neg e,Mb hj];have hne:U[j].id≠U[i].id:=by
   by_cases h:i<j
   ·have:=Fa hr h hj;omega
   ·have:=Fa hr (show j<i by omega) hi;omega
  have:(U[j].id∈l++[U[i].id])↔U[j].id∈l:=by simp[hne]
  simp only[this]
def stW(w:Wld)(c:Cmd):Wld:={w with U:=yx c.U j7 w.U}
def stE(w:Wld)(c:Cmd):Int:=jk (xm w c.P) c.U
theorem ya1{α:Type}{f:α->List AV}{k:Nat}(hf:∀x,(f x).length=k){U:List α}(hi:i<U.length)(x:α)(J:List AV):zv ((rws f U).flatten++J) (i*k) (f x)=(rws f (U.set i x)).flatten++J:=by have:=Gz (j:=0) (ys:=f x) (L:=J) (x':=x) hf hi (by rw[hf];omega) (by unfold zv;rw[hf x,Fcj,Fc6,Fbg,Fcm (by rw[hf];exact Fal _),Fbl]);rw[Nat.add_zero]at this;exact this
end
section
variable {P:Program} {c:Cfg} {st:Store}
structure SrcOK(P:Program)(st:Store)(k m:Nat)(x:AV)(xs:List AV):Prop where
  out:∀(Oth M:BB) (w:World) (xv:Value),StoreOK st Oth M w->VRel w (λb o=>M b o\/Oth b o) x xv->
    (Builtin.lenOf xv).run P w=.ok m w/\∃new:Array Value,Reads w (λb o=>M b o\/Oth b o) xs new.toList/\(∀v∈new.toList,xp v=true)/\new.size=m*k/\∀w',w'.heap=w.heap->(Builtin.firstCells k m xv).run P w'=.ok new w'
theorem SrcOK.obj{k m o b cp:Nat}{l:List AV}(ho:st.obj b=some (.cells l))(hl:o+m*k<=l.length)(h1:∀y∈(l.drop o).take (m*k),y.one=true):SrcOK P st k m (.s (.slice (some ⟨b,o,none⟩) m cp)) ((l.drop o).take (m*k)):=by
  refine⟨λOth M w xv sto hxv=>?_⟩;have hxv:=VRel.eq_s hxv;subst hxv;obtain⟨cs,e,fr,hb,_,hlen,hrel⟩:=(sto.obj b _ ho).1;have hreads:Reads w (λb o=>M b o\/Oth b o) ((l.drop o).take (m*k)) ((List.range' 0 (m*k)).map λi=>cs.getD (o+i) undef):=by refine⟨χ,λi x y hx hy=>?_⟩;have hi:i<m*k:=δ;rw[Fb1 hi,Fcq]at hx;simp[hi]at hy;grind
  refine⟨by simp[Builtin.lenOf],((List.range' 0 (m*k)).map λi=>cs.getD (o+i) undef).toArray,by simpa using hreads,by simpa using tv hreads h1,φ,λw' hw=>?_⟩;have:=Kt (P:=P) ⟨b,o,none⟩ w' (λi=>cs.getD (o+i) undef) (m*k) 0 #[] (λp hp0 hp=>by rw[vw,S9 hw];simp only[World.cell?,hb];have:o+p<cs.size:=θ;simp[this]);grind[Builtin.firstCells,loadCells]
def zei{e:TypeId}{ie:TI}(hie:c.I e=some ie){b n cap:Nat}{l:List AV}{x:AV}{m:Nat}{xs:List AV}(ho:st.obj b=some (.cells l))(hcap:cap*ie.size<=l.length)(hn:n<=cap)
    (hx:SrcOK P st ie.size m x xs) (hroom:room (n+m) ie.bytes) {K:Ja}
    (h1:n+m<=cap->K (.s (.slice (some ⟨b,0,none⟩) (n+m) cap)) (st.sO b (.cells (zv l (n*ie.size) xs))))
    (h2:cap<n+m->∀b' cap',Fresh st b'->n+m<=cap'->cap'<=9223372036854775807->K (.s (.slice (some ⟨b',0,none⟩) (n+m) cap')) (st.sO b' (.cells (l.take (n*ie.size)++xs++List.replicate ((cap'-(n+m))*ie.size) .any)))):
    AppX P c st e (.s (.slice (some ⟨b,0,none⟩) n cap)) x K:=by
  refine⟨⟨ie,hie⟩,λie' hie' Oth M w sv xv argTypes ty args t sto hs hxv hat ht1 hu hti h0 h1'=>?_⟩;rw[hie]at hie';cases hie';have hs:=VRel.eq_s hs;subst hs;have A:AppArgs P c argTypes args t e ie (some ⟨b,0,none⟩) n cap xv:=⟨hat,ht1,hu,hti,h0,h1'⟩
  obtain⟨hl1,new,hnew,hone,hnsz,hfc⟩:=hx.out Oth M w xv sto hxv;have hnn:n*ie.size<=l.length:=Fcx (Fa1 _ hn) hcap;by_cases hc:n+m<=cap
  · obtain⟨⟨cs,e0,fr,hb0,huf,hlen,hrel⟩,hM⟩:=sto.obj b _ ho
    have hfit:n*ie.size+new.toList.length<=cs.size:=by rw[Fci,hnsz,<-Fch,<-hlen];exact Fcx (Fa1 _ hc) hcap
    obtain⟨w',hw1,hw2⟩:=H7 (P:=P) w b (n*ie.size) new.toList 0 w cs e0 fr hb0 (.inl huf) hfit hone;have hrun:=Kb (w':=w') ty A hl1 (hfc w rfl) hc (λa ha=>by cases ha;rw[vw,Fbg];exact hw1) λh=>ω;obtain⟨k1,k2⟩:=Bu sto ho hnew hw2;exact⟨_,_,hrun,_,_,M,h1 hc,.s _,k1,k2⟩
  · have hc:cap<n+m:=θ
    obtain⟨old,hold1,hold2,hold3⟩:=zb1 (P:=P) (cap:=cap) (sto.obj b _ ho).1 hnn;obtain⟨newCap,rest,g1,g0,g2,g3⟩:=Kc ty A hl1 (hfc w.drew rfl) (hold3 w.drew rfl) hc hroom;have gd:Grow w w.drew:=Grow.drew w;have sto1:=sto.grow gd;obtain⟨f1,f2,f3⟩:=Gh sto1 (old++new++rest) e (l:=l.take (n*ie.size)++xs++List.replicate rest.size .any) (by
      rw[Fbc,Fbc];refine((hold1.append hnew).append ⟨φ,λi x y hx hy=>?_⟩).keep (gd.keeps _);rw[Fbw]at hx;split at hx
      · cases hx;exact .any _
      · cases hx)
    have e1:w.drew.heap.size=w.heap.size:=rfl;rw[g2]at f2;exact⟨_,_,g3,_,_,_,h2 hc _ newCap f1 g1 g0,.s _,f2,(gd.chg M).trans f3⟩
end
section
variable {P:Program} {c:Cfg} {st:Store}
def ynp{e:TypeId}{ie:TI}(hie:c.I e=some ie){a:Option Addr}{x:AV}{m:Nat}{xs:List AV}(hx:SrcOK P st ie.size m x xs)(hroom:room m ie.bytes)(hne:0<m){K:Ja}
    (h2:∀b' cap',Fresh st b'->m<=cap'->cap'<=9223372036854775807->K (.s (.slice (some ⟨b',0,none⟩) m cap')) (st.sO b' (.cells (xs++List.replicate ((cap'-m)*ie.size) .any)))):
    AppX P c st e (.s (.slice a 0 0)) x K:=by
  refine⟨⟨ie,hie⟩,λie' hie' Oth M w sv xv argTypes ty args t sto hs hxv hat ht1 hu hti h0 h1'=>?_⟩;rw[hie]at hie';cases hie';have hs:=VRel.eq_s hs;subst hs;have A:AppArgs P c argTypes args t e ie a 0 0 xv:=⟨hat,ht1,hu,hti,h0,h1'⟩
  obtain⟨hl1,new,hnew,hone,hnsz,hfc⟩:=hx.out Oth M w xv sto hxv;obtain⟨newCap,rest,g1,g0,g2,g3⟩:=Kc (old:=#[]) ty A hl1 (hfc w.drew rfl) (by cases a<;>simp[Builtin.firstCells,loadCells,loadCellsFrom]) θ (by simpa using hroom);have gd:Grow w w.drew:=Grow.drew w;have sto1:=sto.grow gd;obtain⟨f1,f2,f3⟩:=Gh sto1 (#[]++new++rest) e (l:=xs++List.replicate rest.size .any) (by
    rw[Fbc,Fbc];refine((show Reads w _ xs ([]++new.toList)from hnew).append ⟨φ,λi x y hx hy=>?_⟩).keep (gd.keeps _);rw[Fbw]at hx;split at hx
    · cases hx;exact .any _
    · cases hx)
  rw[g2]at f2;simp only[Fbg]at g1 g3 f2;exact⟨_,_,g3,_,_,_,h2 _ newCap f1 g1 g0,.s _,f2,(gd.chg M).trans f3⟩
def zeq{o:Oper}{cl:Call}{t e:TypeId}{x:Operand}(ho:o.op=.call cl)(hcl:cl.callee=.builtin .clear)(hargs:cl.args=#[x])(hat:cl.argTypes[0]?=some t)
    {it ie:TI} (hit:c.I t=some it) (hty:it.ty=.slice e) (hie:c.I e=some ie) {b off m cap:Nat} {l:List AV} (hm:m=1) (hb:st.obj b=some (.cells l)) (hn:off+ie.size<=l.length) (hone:∀v∈ie.zero,xp v=true)
    {R:Ja} (h:R (.tup []) (st.sO b (.cells (zv l off (ie.zero.map AV.s))))):AEff P c o [.s (.slice (some ⟨b,off,none⟩) m cap)] st R:=by
  subst hm;refine⟨λOth M w ρ hI sto hr=>?_⟩;have hops:o.op.operands=#[x]:=ψq;rw[hops]at hr;have hr:Reads w (λb o=>M b o\/Oth b o) [.s (.slice (some ⟨b,off,none⟩) 1 cap)] [ρ x]:=by simpa using hr
  obtain⟨u,he,h1⟩:=Ia hr;simp only[Fcp,and_true]at he;rw[<-he]at h1;have h1:=VRel.eq_s h1;have ht:=jv (hI _ _ hit) hty;have hie:=hI _ _ hie;obtain⟨⟨cs,e0,fr,hb0,huf,hlen,hrel⟩,hM⟩:=sto.obj b _ hb;obtain⟨z,hz1,hz2⟩:=Me (P:=P) hie w;have hzs:z.cells.size=ie.size:=by rw[<-hie.zsz,<-hz2];simp
  have hzc:(Builtin.zeroCells z.cells 1).toList=ie.zero:=by
    rw[<-hz2];unfold Builtin.zeroCells;apply Fdm
    · simp
    grind[Nat.mod_eq_of_lt]
  obtain⟨w',hw1,hw2⟩:=H7 (P:=P) w b off ie.zero 0 w cs e0 fr hb0 (.inl huf) δ hone;have hund:=yv (P:=P) ht;have hrun:(execOp ρ o).run P w=.ok (.value (.tuple #[])) w':=by simp[execOp,ho,resolve,hcl,invoke,builtin,hargs,Builtin.clear_,hat,hund,h1,hz1,hzc,hw1]
  rw[hrun];obtain⟨k1,k2⟩:=Bu sto hb (Reads.map_s (w:=w) (T:=λb o=>M b o\/Oth b o) ie.zero) (by trivial);exact⟨_,_,M,h,wk Reads.nil,k1,k2⟩
def yod{o:Oper}{t e:TypeId}{x lo hi mx:Operand}(ho:o.op=.slice t x (some lo) (some hi) (some mx)){it ie:TI}(hit:c.I t=some it)(hty:it.ty=.slice e)(hie:c.I e=some ie)
    {b off len cap i j m:Nat} {k k' k'':IntKind} (h1:i<=j) (h2:j<=m) (h3:m<=cap) (h4:i<m) {R:Ja} (h:R (.s (.slice (some ⟨b,off+i*ie.size,none⟩) (j-i) (m-i))) st):
    AEff P c o [.s (.slice (some ⟨b,off,none⟩) len cap),.s (.int k (i:Int)),.s (.int k' (j:Int)),.s (.int k'' (m:Int))] st R:=by
  refine⟨λOth M w ρ hI sto hr=>?_⟩;have hops:o.op.operands=#[x,lo,hi,mx]:=by rw[ho];simp[Op.operands]
  rw[hops]at hr;have hr:Reads w (λb o=>M b o\/Oth b o) [.s (.slice (some ⟨b,off,none⟩) len cap),.s (.int k (i:Int)),.s (.int k' (j:Int)),.s (.int k'' (m:Int))] [ρ x,ρ lo,ρ hi,ρ mx]:=by simpa using hr
  have e1:=VRel.eq_s (hr.2 0 _ (ρ x) rfl rfl);have e2:=VRel.eq_s (hr.2 1 _ (ρ lo) rfl rfl);have e3:=VRel.eq_s (hr.2 2 _ (ρ hi) rfl rfl);have e4:=VRel.eq_s (hr.2 3 _ (ρ mx) rfl rfl);have ht:=jv (hI _ _ hit) hty;have hie:=hI _ _ hie;have hm:¬m=i:=θ;have hund:=yv (P:=P) ht;have hrun:(execOp ρ o).run P w=.ok (.value (.slice (some ⟨b,off+i*ie.size,none⟩) (j-i) (m-i))) w:=by simp[execOp,ho,e1,e2,e3,e4,Instr.sliceAt,Instr.slice,hund,Instr.sliceBounds,Instr.sliceBound,asIntOf,h1,h2,h3,vg hie,hm,vw]
  rw[hrun];exact⟨_,st,M,h,.s _,sto,Chg.refl _ _⟩
end
section
variable {α:Type} {f:α->List AV} {k:Nat}
end
def yhn{g:Gnd}(hg:zw g){t:Nat}(ht:(t:Int)<g.W*g.H){p:Vc}(hp:qs p.1 p.2){r:Int}(hr:0<r/\r<=81920)(h:ja g t p r):near (tx g t+32768,ty g t+32768) p 147456=true:=by
 have hb:=Lw hg ht;obtain⟨h3,h4⟩:=hp;rw[ee ζ ζ θ θ ψ];dsimp only;unfold ja at h;have o1:0<=off p.1 (tx g t):=ψd;have o2:0<=off p.2 (ty g t):=ψd;have d1:-(32768+off p.1 (tx g t))<=tx g t+32768-p.1/\tx g t+32768-p.1<=32768+off p.1 (tx g t):=ψd;have d2:-(32768+off p.2 (ty g t))<=ty g t+32768-p.2/\ty g t+32768-p.2<=32768+off p.2 (ty g t):=ψd;generalize off p.1 (tx g t)=ex at*;generalize off p.2 (ty g t)=ey at*;generalize tx g t+32768-p.1=dx at*;generalize ty g t+32768-p.2=dy at*;have hrr:r*r<=81920*81920:=Fa9 hr.2 hr.2 θ ψ;have ex2:=Fav o1 o1;have ey2:=Fav o2 o2;have bx:ex<81920:=Nx o1 ψ θ;have by':ey<81920:=Nx o2 ψ θ;have sq:∀d m:Int,0<=m->-m<=d->d<=m->d*d<=m*m:=λd m hm h1 h2=>by
  by_cases hd:0<=d
  ·exact Fa9 h2 h2 hd hm
  ·have:(-d)*(-d)<=m*m:=Fa9 θ θ θ hm
   rwa [Int.neg_mul_neg]at this
 have s1:=sq dx (32768+ex) θ d1.1 d1.2;have s2:=sq dy (32768+ey) θ d2.1 d2.2;have e1:(32768+ex)*(32768+ex)=1073741824+65536*ex+ex*ex:=by rw[Int.add_mul,Fdv,Fdv,Int.mul_comm ex 32768];omega
 have e2:(32768+ey)*(32768+ey)=1073741824+65536*ey+ey*ey:=by rw[Int.add_mul,Fdv,Fdv,Int.mul_comm ey 32768];omega
 rw[e1]at s1;rw[e2]at s2;refine decide_eq_true ?_;omega
instance(a b:Bld):Decidable (j9 a b):=inferInstanceAs (Decidable (_/\_))
def bdB(w:Wld)(c:Cmd):Bld:=⟨w.next,c.P,c.T.tmod w.G.W,c.T.tdiv w.G.W,c.W,c.H⟩
open Classical in
noncomputable def ql(g:Gnd)(l:List Bld)(b:Bld):Int:=if¬onP g b then 3 else if∃x∈l,j9 x b then 12 else if¬C9 g b then 5 else if 256<=l.length then 4 else 0
def Gi(w:Wld)(b:Bld):Prop:=∃t:Nat,((t:Int)<w.G.W*w.G.H/\ku w.G b t)/\∃u∈w.U,u.inn=0/\ja w.G t u.pos (z6 u.kind)
open Classical in
noncomputable def bdE(w:Wld)(c:Cmd):Int:=if¬(0<=c.T/\c.T<w.G.W*w.G.H)then 3 else if 1099511627776<=w.next then 4 else if ql w.G w.B (bdB w c)=0 then(if Gi w (bdB w c)then 5 else 0)else ql w.G w.B (bdB w c)
def bdW(w:Wld)(c:Cmd):Wld:={w with B:=w.B++[bdB w c],next:=w.next+1}
def yna:Bld:=⟨0,0,0,0,0,0⟩
def Bf(l:List Bld)(id:Int):Option Nat:=l.findIdx? λb=>decide (b.id=id)
def drE(w:Wld)(c:Cmd):Int:=match Bf w.B c.N with|none=>3|some i=>if(w.B.getD i yna).owner=c.P then 0 else 6
def drW(w:Wld)(c:Cmd):Wld:=match Bf w.B c.N with|none=>w|some i=>{w with B:=w.B.eraseIdx i}
section
variable {P:Program} {c:Cfg} {ie:TI} {st:Store} {v src:AV} {k i:Nat}
def ynu{α:Type}{f:α->List AV}{e:TypeId}(hie:c.I e=some ie)(hf:∀x,(f x).length=ie.size)(hby:ie.bytes<=1000){l:List α}(hv:RowsQ ie.size f st v l)(hne:l≠[])(hsrc:vz ie.size (.av src)=some [])(hlen:l.length<=1000000000){K:Ja}
  (h:∀v' st',RowsQ ie.size f st' v' l->K v' st'):appendK P c st e (.av v) (.av src) K:=by
 refine⟨.inr ⟨v,_,rfl,rfl,?_⟩⟩;have hfl:=qr hf l;have hmul:l.length*ie.bytes<=1000000000*1000:=Fcw hlen hby;rcases hv with(⟨hv,hl0⟩|⟨b,cap,L,rfl,ho,h1,h2,h3⟩)|⟨a,ha,hv,hl0⟩
 ·exact absurd hl0 hne
 ·refine Pn hie (cap:=cap) ho (by rw[Fae,hfl];exact h2) h1 hsrc ⟨χ,χ⟩ (λhc=>?_) λhc=>?_
  ·have e1:zv ((rws f l).flatten++L) (l.length*ie.size) ([]:List (List AV)).flatten=(rws f l).flatten++L:=by
    rw[List.flatten_nil,Dk hfl];simp
   rw[e1];exact h _ _ (.inl (.inr ⟨b,cap,L,rfl,zd _ _ _,h1,h2,h3⟩))
  ·simp at hc;omega
 ·exact absurd hl0 hne
theorem zck{α:Type}{f:α->List AV}(hf:∀x,(f x).length=k){l:List α}(hi:i<l.length)(L:List AV):
  zv ((rws f l).flatten++L) (i*k) (rws f (l.drop (i+1))).flatten=(rws f (l.eraseIdx i)).flatten++(f l[l.length-1]++L):=by
 have e1:(rws f l).flatten++L=(rws f (l.take i)).flatten++((rws f (l.drop i)).flatten++L):=by rw[<-Faw,<-G6,Fb9]
 have h1:(rws f (l.take i)).flatten.length=i*k:=by rw[qr hf,Fam,Fdo θ]
 rw[e1,Dk h1,Fdu,G6];simp only[Faw]
 congr 1
 congr 1
 have h2:(rws f (l.drop (i+1))).flatten.length=(l.length-(i+1))*k:=by rw[qr hf,Fcg]
 have e2:l.drop i=(l.drop i).dropLast++[l[l.length-1]]:=by
  have hne:l.drop i≠[]:=by intro h;have:=congrArg List.length h;rw[Fcg]at this;simp at this;omega
  have h:=(Fd4 hne).symm;have e:(l.drop i).getLast hne=l[l.length-1]:=by
   have e4:i+((l.drop i).length-1)=l.length-1:=by rw[Fcg];omega
   rw[List.getLast_eq_getElem,List.getElem_drop];simp only[e4]
  rw[e]at h;exact h
 have e3:(rws f (l.drop i)).flatten=(rws f (l.drop i).dropLast).flatten++f l[l.length-1]:=by
  conv=>lhs;rw[e2]
  rw[G6];show _++(f _++[])=_;rw[Fbl]
 have h3:(rws f (l.drop i).dropLast).flatten.length=(l.length-(i+1))*k:=by
  rw[qr hf,List.length_dropLast,Fcg]
  congr 1
 rw[e3,h2,<-h3,Faw,List.drop_left]
def zcl{α:Type}{l:List α}(hi:i<l.length):(l.eraseIdx i).length=l.length-1:=by rw[List.length_eraseIdx,if_pos hi]
theorem zct{α:Type}{f:α->List AV}(hf:∀x,(f x).length=k){l:List α}(hi:i<=l.length)(L:List AV):(((rws f l).flatten++L).drop (i*k)).take ((l.length-i)*k)=(rws f (l.drop i)).flatten:=by
 have e1:(rws f l).flatten++L=(rws f (l.take i)).flatten++((rws f (l.drop i)).flatten++L):=by rw[<-Faw,<-G6,Fb9]
 have h1:(rws f (l.take i)).flatten.length=i*k:=by rw[qr hf,Fam,Fdo θ]
 have h2:(rws f (l.drop i)).flatten.length=(l.length-i)*k:=by rw[qr hf,Fcg]
 rw[e1,<-h1,List.drop_left,<-h2,List.take_left]
def ynq{e:TypeId}(hie:c.I e=some ie){a:Option Addr}{x:AV}(hx:vz ie.size (.av x)=some []){K:Ja}(h:K (.s (.slice a 0 0)) st):AppX P c st e (.s (.slice a 0 0)) x K:=by
 refine⟨⟨ie,hie⟩,λie' hie' Oth M w sv xv argTypes ty args t sto hs hxv hat ht1 hu hti h0 h1'=>?_⟩;rw[hie]at hie';cases hie';have hs:=VRel.eq_s hs;subst hs;have A:AppArgs P c argTypes args t e ie a 0 0 xv:=⟨hat,ht1,hu,hti,h0,h1'⟩
 obtain⟨hl1,hl2,new,hnew,hone,hnsz,hfc⟩:=H6 (P:=P) (β:=λ_=>0) (k:=ie.size) (x:=.av x) hxv hx;have hn0:new.toList=[]:=by
  have:new.toList.length=0:=by rw[Fci,hnsz];simp
  exact Fa4 this
 have hrun:=Kb (w':=w) ty A hl1 (hfc w rfl) φ (λb hb=>by rw[hn0];simp[storeCells]) λ_=>rfl;exact⟨_,_,hrun,_,_,M,h,.s _,sto,Chg.refl M w⟩
def ynt{α:Type}{f:α->List AV}{e:TypeId}(hie:c.I e=some ie)(hf:∀x,(f x).length=ie.size)(hby:ie.bytes<=1000){l:List α}(hv:RowsQ ie.size f st v l)(l2:List α)(hsrc:vz ie.size (.av src)=some (rws f l2))(hlen:l.length+l2.length<=1000000000){K:Ja}
  (h:∀v' st',RowsQ ie.size f st' v' (l++l2)->K v' st'):appendK P c st e (.av v) (.av src) K:=by
 refine⟨.inr ⟨v,_,rfl,rfl,?_⟩⟩;have hfl:=qr hf l;have hfl2:=qr hf l2;have hl2:(rws f l2).length=l2.length:=zl _;have hmul:(l.length+l2.length)*ie.bytes<=1000000000*1000:=Fcw hlen hby;have happ:(rws f (l++l2)).flatten=(rws f l).flatten++(rws f l2).flatten:=G6 _ _;have hll:(l++l2).length=l.length+l2.length:=Fae;have empty:∀a:Option Addr,Kr a->l=[]->v=.s (.slice a 0 0)->AppX P c st e v src K:=λa ha hl0 hva=>by
  subst hl0 hva;by_cases h2:l2=[]
  ·subst h2;exact ynq hie hsrc (h _ _ (.inr ⟨a,ha,rfl,rfl⟩))
  ·have h3:0<l2.length:=List.length_pos_iff.2 h2;refine lp hie hsrc ⟨by rw[hl2];simp at hmul;omega,by rw[hl2];simp at hlen;omega⟩ θ λb' cap' hb hc hc2=>?_;rw[hl2]at hc⊢;have:=h (.s (.slice (some ⟨b',0,none⟩) l2.length cap')) (st.sO b' (.cells ((rws f l2).flatten++List.replicate ((cap'-l2.length)*ie.size) .any))) (.inl (.inr ⟨b',cap',_,φ,zd _ _ _,by simpa using hc,by
    simp only[Fbh,Fc6,<-Fch];exact Fa1 _ θ,hc2⟩))
   exact this
 rcases hv with(⟨hv,hl0⟩|⟨b,cap,L,rfl,ho,h1,h2,h3⟩)|⟨a,ha,hv,hl0⟩
 ·exact empty none (λx hx=>γ) hl0 hv
 ·refine Pn hie (cap:=cap) ho (by rw[Fae,hfl];exact h2) h1 hsrc ⟨by rw[hl2];omega,by rw[hl2];omega⟩ (λhc=>?_) λhc b' cap' hb hc1 hc2=>?_
  ·rw[hl2]at hc⊢;have hcm:(l.length+l2.length)*ie.size<=cap*ie.size:=Fa1 _ hc;rw[Fch]at hcm;have e1:zv ((rws f l).flatten++L) (l.length*ie.size) (rws f l2).flatten=(rws f (l++l2)).flatten++L.drop (l2.length*ie.size):=by
    rw[Dk hfl,happ,hfl2]
   rw[e1];exact h _ _ (.inl (.inr ⟨b,cap,L.drop (l2.length*ie.size),by rw[hll],zd _ _ _,θ,by rw[hll,Fch,Fcg];omega,h3⟩))
  ·rw[hl2]at hc hc1⊢;have e1:((rws f l).flatten++L).take (l.length*ie.size)++(rws f l2).flatten++List.replicate ((cap'-(l.length+l2.length))*ie.size) .any=(rws f (l++l2)).flatten++List.replicate ((cap'-(l.length+l2.length))*ie.size) .any:=by
    rw[Fbu θ,Fce θ,happ]
   rw[e1];exact h _ _ (.inl (.inr ⟨b',cap',_,by rw[hll],zd _ _ _,θ,by rw[hll,Fbh,<-Fch];exact Fa1 _ θ,hc2⟩))
 ·exact empty a ha hl0 hv
end
section
variable {r P N l h:Int} {w:Wld}
def Cq(m r:Int):Prop:=0<=r/\r<=9223372036854775807/\r*r<=m/\(r=9223372036854775807\/m<(r+1)*(r+1))
def ygv{m:Int}(h:Cq m r){k:Int}(hk:0<=k)(hk2:k<9223372036854775807):k<r↔(k+1)*(k+1)<=m:=by
 obtain⟨h0,h1,h2,h3⟩:=h;constructor
 ·intro hkr;exact Int.le_trans (Fa9 (show k+1<=r by omega) (show k+1<=r by omega) θ h0) h2
 ·intro hm;refine Int.not_le.1 λhle=>?_;rcases h3 with h3|h3
  ·omega
  ·have:=Fa9 (show r+1<=k+1 by omega) (show r+1<=k+1 by omega) θ θ;omega
def ygu{m r':Int}(h:Cq m r)(h':Cq m r'):r=r':=by
 obtain⟨h0,h1,h2,h3⟩:=h;obtain⟨g0,g1,g2,g3⟩:=h';have a:¬r<r':=λhlt=>by
  rcases h3 with h3|h3
  ·omega
  ·have:=Fa9 (show r+1<=r' by omega) (show r+1<=r' by omega) θ g0;omega
 have b:¬r'<r:=λhlt=>by
  rcases g3 with h3|h3
  ·omega
  ·have:=Fa9 (show r'+1<=r by omega) (show r'+1<=r by omega) θ h0;omega
 omega
def Dz(p q:Vc):Prop:=17180131329<=sqr (qy p q)
instance(p q:Vc):Decidable (Dz p q):=inferInstanceAs (Decidable (_<=_))
theorem ry{p q:Vc}(h:Cq (sqr (qy p q)) r):131072<r↔Dz p q:=by have:=ygv h (k:=131072) ψ ψ;unfold Dz;exact this
def vj(w:Wld)(P N:Int):Int:=if xm w P N=0 then(if j2 (uAt w N).kind=0 then 7 else 0)else xm w P N
def Ag(x u:Unt):Int:=if 0<j2 u.kind then 7 else if Dz u.pos x.pos then 8 else 0
def ldA(w:Wld)(P N id:Int):Int:=if xm w P id=0 then Ag (uAt w N) (uAt w id)else xm w P id
def ldE(w:Wld)(c:Cmd):Int:=if vj w c.P c.N=0 then(if jk (ldA w c.P c.N) c.U=0 then(if j2 (uAt w c.N).kind<((z8 w.U c.N).length:Int)+(c.U.length:Int)then 4 else 0)else jk (ldA w c.P c.N) c.U)else vj w c.P c.N
def ldU(n:Int)(u:Unt):Unt:={u with pos:=(0,0),goal:=-1,next:=-1,stuck:=0,inn:=n,state:=0}
def ldW(w:Wld)(c:Cmd):Wld:={w with U:=yx c.U (ldU c.N) w.U}
def fj{id:Int}(h:ldA w P N id=0):xm w P id=0/\Ag (uAt w N) (uAt w id)=0:=by unfold ldA at h;grind
def Pk(h:vj w P N=0):xm w P N=0/\j2 (uAt w N).kind≠0:=by unfold vj at h;grind
def yg9(hm:ya w){i:Nat}(hi:i<w.U.length)(h0:w.U[i].id≠0):((z8 w.U w.U[i].id).length:Int)<=j2 w.U[i].kind:=by
 have hr:yr w.U:=hm.1.2.1;cases hl:z8 w.U w.U[i].id with
 |nil=>simp_all[K7]
 |cons a l=>
  have ha:a∈z8 w.U w.U[i].id:=by rw[hl];simp
  unfold z8 at ha;obtain⟨u,hu,_⟩:=Fag.1 ha;obtain⟨hu,he⟩:=Fb4.1 hu;have he:u.inn=w.U[i].id:=by simpa using he
  obtain⟨x,hx,e1,_,e3,_⟩:=hm.2.2 u hu (by rw[he];exact h0);obtain⟨k,hk,rfl⟩:=Fai hx;have hki:k=i:=by
   by_cases h1:k<i
   ·have:=Fa hr h1 hi;omega
   ·by_cases h2:i<k
    ·have:=Fa hr h2 hk;omega
    ·omega
  grind
theorem tq{n:Int}{q m:Nat}(h0:0<=n)(h1:n<2^m)(h2:n+q*2^m<18446744073709551616):jj .or .u64 (q*2^m) n=q*2^m+n:=by
 obtain⟨a,rfl⟩:=Fbx h0;have e:((q:Int)*2^m)=((q*2^m:Nat):Int):=φ;have h1':a<2^m:=by exact_mod_cast h1
 rw[e]at h2⊢;have h3:a+q*2^m<18446744073709551616:=θ;rw[(zd4 (q*2^m) a θ θ).2,Nat.or_comm,uq a q m h1',j6 θ θ];simp;omega
theorem zu4{k:Nat}(hk:k<=62):IntKind.u64.wrap (1*2^(min ((k:Int)).toNat IntKind.u64.bits))=2^k:=by
 have:(min ((k:Int)).toNat IntKind.u64.bits)=k:=by show min ((k:Int)).toNat 64=k;omega
 rw[this,Int.one_mul];have h:(2:Int)^k<=2^62:=by exact_mod_cast Nat.pow_le_pow_right ψ hk
 grind[j6]
def H8(m r:Int)(k:Nat):Prop:=∃q:Nat,r=q*2^k/\r+2^k<=9223372036854775808/\r*r<=m/\(m<(r+2^k)*(r+2^k)\/r+2^k=9223372036854775808)
def yba{m:Int}(hm:0<=m):H8 m 0 63:=⟨0,φ,ψ,by simpa using hm,.inr ψ⟩
def ybc{m:Int}(h:H8 m r 0):Cq m r:=by obtain⟨q,e,h1,h2,h3⟩:=h;have e1:(2:Int)^0=1:=rfl;rw[e1]at h1 h3 e;exact⟨θ,θ,h2,h3.symm.imp (λh=>θ) id⟩
def ybd{m:Int}{k:Nat}(h:H8 m r (k+1)):jj .or .u64 r (2^k)=r+2^k/\0<=r/\(0:Int)<2^k/\r+2^k<9223372036854775808:=by obtain⟨q,e,h1,h2,h3⟩:=h;grind[tq]
def ybb{m:Int}{k:Nat}(h:H8 m r (k+1))(hn:m<(r+2^k)*(r+2^k)):H8 m r k:=by obtain⟨q,e,h1,h2,h3⟩:=h;have e2:(2:Int)^(k+1)=2*2^k:=δ;have h0:(0:Int)<2^k:=Fek ψ;rw[e2]at h1;refine⟨2*q,?_,θ,h2,.inl hn⟩;grind
def ya9{m:Int}{k:Nat}(h:H8 m r (k+1))(hn:(r+2^k)*(r+2^k)<=m):H8 m (r+2^k) k:=by obtain⟨q,e,h1,h2,h3⟩:=h;have e2:(2:Int)^(k+1)=2*2^k:=δ;have h0:(0:Int)<2^k:=Fek ψ;rw[e2]at h1 h3;have e3:r+2^k+2^k=r+2*2^k:=θ;refine⟨2*q+1,?_,θ,hn,by rw[e3];exact h3⟩;grind
def Ku(m low high:Int):Prop:=0<=low/\low<=high/\high<=9223372036854775807/\low*low<=m/\(m<(high+1)*(high+1)\/high=9223372036854775807)
def ybe{m:Int}(hm:0<=m):Ku m 0 9223372036854775807:=⟨ψ,ψ,ψ,by simpa using hm,.inr rfl⟩
def ybh{m:Int}(hh:Ku m l h)(h1:¬l<h):Cq m l:=by obtain⟨g0,g1,g2,g3,g4⟩:=hh;have:h=l:=θ;subst this;exact⟨g0,g2,g3,g4.symm⟩
def ybf{m:Int}(hh:Ku m l h)(h1:l<r)(h2:r<=h)(h3:r*r<=m):Ku m r h:=by obtain⟨g0,g1,g2,g3,g4⟩:=hh;exact⟨θ,h2,g2,h3,g4⟩
def ybg{m:Int}(hh:Ku m l h)(h1:l<r)(h2:r<=h)(h3:m<r*r):Ku m l (r-1):=by obtain⟨g0,g1,g2,g3,g4⟩:=hh;exact⟨g0,θ,θ,g3,.inl δ⟩
end
section
variable {t i:Nat} {w:Wld} {tile id:Int} {u:Unt}
def yf(g:Gnd)(t:Nat):Vc:=(tx g t+32768,ty g t+32768)
def I7{g:Gnd}(hg:zw g)(ht:t<g.T.length):(yf g t).ok:=by have ha:=qg hg;have:=Lw hg (t:=t) θ;unfold yf Vc.ok ym;dsimp only;omega
def qi(w:Wld)(k tile:Int)(n:Nat):List Nat:=Dl w.G (zo w.G w.B (yl k) (qm k)) (qm k) tile n
def pe(g:Gnd)(f:Nat->Bool)(x y k:Int):∀d t,t∈jg g f x y k d->t<g.T.length/\f t=true
 |0,t,h=>ω
 |d+1,t,h=>by
  rcases Fat.1 (show t∈jg g f x y k d++Bj g f x y k d from h)with h|h
  ·exact pe g f x y k d t h
  ·unfold Bj Fb at h;obtain⟨h1,h2⟩:=Fb4.1 h;exact⟨Fbd.1 (Fb4.1 h1).1,h2⟩
def Rl{k:Int}{n:Nat}(h:t∈qi w k tile n):t<w.G.T.length/\zo w.G w.B (yl k) (qm k) t=true:=pe _ _ _ _ _ _ _ (List.mem_of_mem_take h)
def pd(w:Wld)(k tile:Int)(n:Nat):(qi w k tile n).length<=n:=by grind[qi,Dl]
open Classical in
noncomputable def Co(w:Wld)(u:Unt)(tile:Int):Option Nat:=(qi w u.kind tile 64).find? λt=>decide (qh w u.id u.kind (yf w.G t))
open Classical in
def th{j:Nat}(hj:j<(qi w u.kind tile 64).length)(hno:∀i,(h:i<(qi w u.kind tile 64).length)->i<j->¬qh w u.id u.kind (yf w.G (qi w u.kind tile 64)[i]))(hy:qh w u.id u.kind (yf w.G (qi w u.kind tile 64)[j])):Co w u tile=some (qi w u.kind tile 64)[j]:=by unfold Co;rw[List.find?_eq_some_iff_getElem];grind
open Classical in
def ti(hno:∀i,(h:i<(qi w u.kind tile 64).length)->¬qh w u.id u.kind (yf w.G (qi w u.kind tile 64)[i])):Co w u tile=none:=by unfold Co;rw[List.find?_eq_none];intro t ht;obtain⟨i,hi,rfl⟩:=Fai ht;grind
open Classical in
def tj(h:Co w u tile=some t):t∈qi w u.kind tile 64/\qh w u.id u.kind (yf w.G t):=by unfold Co at h;grind
def w9(u:Unt)(p:Vc):Unt:={u with pos:=p,inn:=0}
noncomputable def unl(tile:Int):List Int->Wld->Option Wld
 |[],w=>some w
 |id::l,w=>match qa w.U id with
  |none=>none
  |some i=>match Co w (w.U.getD i Ch) tile with
   |none=>none
   |some t=>unl tile l {w with U:=w.U.set i (w9 (w.U.getD i Ch) (yf w.G t))}
theorem P5{l:List Int}(hi:i<w.U.length)(hf:qa w.U id=some i)(ho:Co w w.U[i] tile=none):unl tile (id::l) w=none:=by show(match qa w.U id with|none=>none|some i=>_)=_;grind
theorem P4{l:List Int}(hi:i<w.U.length)(hf:qa w.U id=some i)(ho:Co w w.U[i] tile=some t):unl tile (id::l) w=unl tile l {w with U:=w.U.set i (w9 w.U[i] (yf w.G t))}:=by show(match qa w.U id with|none=>none|some i=>_)=_;grind
open Classical in
noncomputable def ulE(w:Wld)(c:Cmd):Int:=
 if vj w c.P c.N=0 then
  (if 0<=c.T/\c.T<w.G.W*w.G.H then
   (if Dz (yf w.G c.T.toNat) (uAt w c.N).pos then 8 else(match unl c.T (z8 w.U c.N) w with|none=>5|some _=>0))
  else 3)
 else vj w c.P c.N
noncomputable def ulW(w:Wld)(c:Cmd):Wld:=(unl c.T (z8 w.U c.N) w).getD w
def D2(L:List Ent)(u:Unt):List Ent:=if u.inn=0 then qx L u.id++[(u.id,u.pos)]else qx L u.id
def ykh(L:List Ent)(u:Unt):(D2 L u).length<=L.length+1:=by grind[qx,D2]
def ykg{L:List Ent}(hok:∀e∈L,e.2.ok)(hp:u.pos.ok):∀e∈D2 L u,e.2.ok:=λe he=>by grind[D2,mem_dropId]
def uc{L:List Ent}(hF:Dr w L)(hr:yr w.U)(hi:i<w.U.length)(hid:w.U[i].id=u.id):Dr {w with U:=w.U.set i u} (D2 L u):=by
 have old:∀e,e∈qx L u.id↔∃j,∃hj:j<w.U.length,j≠i/\w.U[j].inn=0/\e=(w.U[j].id,w.U[j].pos):=λe=>by
  rw[mem_dropId,hF e];constructor
  ·rintro⟨⟨x,hx,h0,rfl⟩,hne⟩;obtain⟨j,hj,rfl⟩:=Fai hx;grind
  ·rintro⟨j,hj,hji,h0,rfl⟩;refine⟨⟨w.U[j],Faa hj,h0,rfl⟩,λe=>hji ?_⟩;have e:w.U[j].id=u.id:=e;by_cases h1:j<i
   ·have:=Gb hr h1 hi;omega
   ·by_cases h2:i<j
    ·have:=Gb hr h2 hj;omega
    ·omega
 intro e;have key:(∃y∈w.U.set i u,y.inn=0/\e=(y.id,y.pos))↔(u.inn=0/\e=(u.id,u.pos))\/∃j,∃hj:j<w.U.length,j≠i/\w.U[j].inn=0/\e=(w.U[j].id,w.U[j].pos):=by
  constructor
  ·rintro⟨y,hy,h0,he⟩;obtain⟨j,hj,rfl⟩:=Fai hy;grind
  ·rintro(⟨h0,he⟩|⟨j,hj,hji,h0,he⟩)
   ·exact⟨u,List.mem_set hi u,h0,he⟩
   ·refine⟨w.U[j],?_,h0,he⟩;have hj2:j<(w.U.set i u).length:=by grind
    have:(w.U.set i u)[j]=w.U[j]:=δ;grind
 grind[D2]
def ud{L:List Ent}(hn:(L.map (·.1)).Nodup)(hF:Dr w L):L.length<=w.U.length:=by have:=Fbs (l₂:=w.U.map (·.id)) hn (λid hid=>by obtain⟨e,he,rfl⟩:=Fag.1 hid;obtain⟨u,hu,_,rfl⟩:=(hF e).1 he;grind);grind
theorem Rw{U:List Unt}(hr:yr U)(hi:i<U.length)(hid:U[i].id=u.id):yr (U.set i u):=by intro j hj h0;rw[Faf]at hj;have:=hr j hj h0;grind
theorem zb5{U:List Unt}(hr:yr U)(hi:i<U.length)(hid:U[i].id=u.id)(id:Int):qa (U.set i u) id=qa U id:=by
 have id':∀k,(hk:k<U.length)->((U.set i u)[k]'δ).id=U[k].id:=λk hk=>δ;cases h:qa U id with
 |some k=>
  grind[Ho,Lc,Rw]
 |none=>
  grind[qa]
end
section
variable {w:Wld} {k:Nat} {a b:Unt} {kd:Int}
def mvG(g:Int)(u:Unt):Unt:={u with goal:=g,next:=-1,stuck:=0,state:=1}
def wu(w:Wld)(c:Cmd)(k:Nat)(kd:Int):Int:=match(qi w kd c.T c.U.length)[k]? with|some t=>(t:Int)|none=>c.T
def mvL(w:Wld)(c:Cmd):Nat->List Unt
 |0=>w.U
 |k+1=>match qa w.U (c.U.getD k 0)with
  |some i=>(mvL w c k).set i (mvG (wu w c k (w.U.getD i Ch).kind) (w.U.getD i Ch))
  |none=>mvL w c k
def mvE(w:Wld)(c:Cmd):Int:=if 0<=c.T/\c.T<w.G.W*w.G.H then jk (xm w c.P) c.U else 3
def mvW(w:Wld)(c:Cmd):Wld:={w with U:=mvL w c c.U.length}
theorem eh{c:Cmd}{i:Nat}(hk:k<c.U.length)(hf:qa w.U c.U[k]=some i)(hi:i<w.U.length):mvL w c (k+1)=(mvL w c k).set i (mvG (wu w c k w.U[i].kind) w.U[i]):=by show(match qa w.U (c.U.getD k 0)with|some i=>_|none=>_)=_;rw[show c.U.getD k 0=c.U[k] by simp[Fbb,hk],hf];dsimp only;rw[show w.U.getD i Ch=w.U[i] by simp[Fbb,hi]]
theorem Af(w:Wld)(c:Cmd):∀k,(mvL w c k).length=w.U.length
 |0=>rfl
 |k+1=>by
  show(match qa w.U (c.U.getD k 0)with|some i=>_|none=>_:List Unt).length=_;cases qa w.U (c.U.getD k 0)with
  |none=>exact Af w c k
  |some i=>dsimp only;rw[Faf];exact Af w c k
def Ox(w:Wld)(c:Cmd):∀k j,(hj:j<w.U.length)->mvG 0 ((mvL w c k)[j]'(by rw[Af];exact hj))=mvG 0 w.U[j]
 |0,j,hj=>rfl
 |k+1,j,hj=>by
  have ih:=Ox w c k j hj;have key:∀L:List Unt,(hL:j<L.length)->L=mvL w c (k+1)->mvG 0 L[j]=mvG 0 w.U[j]:=λL hL e=>by
   have e2:mvL w c (k+1)=(match qa w.U (c.U.getD k 0)with
    |some i=>(mvL w c k).set i (mvG (wu w c k (w.U.getD i Ch).kind) (w.U.getD i Ch))
    |none=>mvL w c k):=rfl
   rw[e2]at e;cases hf:qa w.U (c.U.getD k 0)with
   |none=>rw[hf]at e;subst e;exact ih
   |some i=>
    rw[hf]at e;obtain⟨hi,_⟩:=Ho hf;subst e;rw[Fc9];split
    ·rename_i e3;subst e3;rw[show w.U.getD i Ch=w.U[i] by simp[Fbb,hi]];rfl
    ·exact ih
  exact key _ (by rw[Af];exact hj) rfl
theorem yfk(h:mvG 0 a=mvG 0 b)(g:Int):mvG g a=mvG g b:=by have:∀u,mvG g u={mvG 0 u with goal:=g}:=λu=>rfl;rw[this a,this b,h]
def Ij(h:mvG 0 a=mvG 0 b):a.id=b.id/\a.owner=b.owner/\a.kind=b.kind/\a.pos=b.pos/\a.inn=b.inn:=by
 refine⟨?_,?_,?_,?_,?_⟩
 ·have:=congrArg Unt.id h;exact this
 ·have:=congrArg Unt.owner h;exact this
 ·have:=congrArg Unt.kind h;exact this
 ·have:=congrArg Unt.pos h;exact this
 ·have:=congrArg Unt.inn h;exact this
theorem Oy(w:Wld)(c:Cmd)(k j:Nat)(hj:j<w.U.length):((mvL w c k)[j]'(by rw[Af];exact hj)).id=w.U[j].id:=(Ij (Ox w c k j hj)).1
def Sh(hr:yr w.U)(c:Cmd)(k:Nat):yr (mvL w c k):=by intro j hj h0;rw[Af]at hj;have:=hr j hj h0;rw[Oy w c k _ θ,Oy w c k _ hj];exact this
theorem yfi(hr:yr w.U)(c:Cmd)(k:Nat)(id:Int):qa (mvL w c k) id=qa w.U id:=by
 cases h:qa w.U id with
 |some i=>
  obtain⟨hi,e⟩:=Ho h;exact Lc (Sh hr c k) (by rw[Af];exact hi) (by rw[Oy w c k i hi];exact e)
 |none=>
  cases h2:qa (mvL w c k) id with
  |none=>rfl
  |some i=>
   obtain⟨hi,e⟩:=Ho h2;rw[Af]at hi;rw[Oy w c k i hi]at e;exact absurd e (zb6 h _ (Faa hi))
def ux{c:Cmd}{u:Unt}(h:u∈mvL w c k):∃x∈w.U,u.id=x.id/\u.owner=x.owner/\u.kind=x.kind/\u.pos=x.pos/\u.inn=x.inn:=by obtain⟨j,hj,rfl⟩:=Fai h;have hj2:=hj;rw[Af]at hj2;exact⟨w.U[j],Faa hj2,Ij (Ox w c k j hj2)⟩
theorem eo{c:Cmd}(h:¬(0<=c.T/\c.T<w.G.W*w.G.H)):mvE w c=3:=by unfold mvE;rw[if_neg h]
theorem el{c:Cmd}(h:0<=c.T/\c.T<w.G.W*w.G.H):mvE w c=jk (xm w c.P) c.U:=by unfold mvE;rw[if_pos h]
theorem ei{c:Cmd}(h:k<(qi w kd c.T c.U.length).length):wu w c k kd=((qi w kd c.T c.U.length)[k]:Nat):=by unfold wu;rw[Fac h]
theorem ek{c:Cmd}(h:¬k<(qi w kd c.T c.U.length).length):wu w c k kd=c.T:=by unfold wu;rw[Fb3 θ]
theorem ygc{α:Type}(f:α->AV)(cs:List (Int×α))(k:Int)(z:AV):Fj true z ((cs.map (qb f)).find? (qA k))=match qc cs k with|some v=>.tup [f v,.s (.bool true)]|none=>.tup [z,.s (.bool false)]:=by
 rw[gn];unfold qc;cases cs.find? λe=>k==e.1 with
 |none=>rfl
 |some e=>rfl
end
section
variable {w:Wld}
noncomputable def aE(w:Wld)(c:Cmd):Int:=if c.K=1 then spE w c else if c.K=2 then mvE w c else if c.K=3 then stE w c else if c.K=4 then bdE w c else if c.K=5 then drE w c else if c.K=6 then ldE w c else ulE w c
noncomputable def aW(w:Wld)(c:Cmd):Wld:=if c.K=1 then spW w c else if c.K=2 then mvW w c else if c.K=3 then stW w c else if c.K=4 then bdW w c else if c.K=5 then drW w c else if c.K=6 then ldW w c else ulW w c
theorem a1{c:Cmd}(h:c.K=1):aE w c=spE w c/\aW w c=spW w c:=θq
theorem a2{c:Cmd}(h:c.K=2):aE w c=mvE w c/\aW w c=mvW w c:=θq
theorem a3{c:Cmd}(h:c.K=3):aE w c=stE w c/\aW w c=stW w c:=θq
theorem a4{c:Cmd}(h:c.K=4):aE w c=bdE w c/\aW w c=bdW w c:=θq
theorem a5{c:Cmd}(h:c.K=5):aE w c=drE w c/\aW w c=drW w c:=θq
theorem a6{c:Cmd}(h:c.K=6):aE w c=ldE w c/\aW w c=ldW w c:=θq
theorem a7{c:Cmd}(h:c.K=7):aE w c=ulE w c/\aW w c=ulW w c:=θq
def So{c:Cmd}(h:js c):c.K=1\/c.K=2\/c.K=3\/c.K=4\/c.K=5\/c.K=6\/c.K=7:=Classical.byContradiction λhn=>by have hn:c.K≠1/\c.K≠2/\c.K≠3/\c.K≠4/\c.K≠5/\c.K≠6/\c.K≠7:=θ;exact Cmd.ok0 hn.1 hn.2.1 hn.2.2.1 hn.2.2.2.1 hn.2.2.2.2.1 hn.2.2.2.2.2.1 hn.2.2.2.2.2.2 h.1
def Lg{E E':Wld->Cmd->Int}{W W':Wld->Cmd->Wld}{c:Cmd}(h:E w c=E' w c/\W w c=W' w c):doE E w c=doE E' w c/\doW E W w c=doW E' W' w c:=by grind[doE,doW]
def zcy{E:Wld->Cmd->Int}{c:Cmd}(h:doE E w c=0):ya w/\js c/\c.P<=w.players/\E w c=0:=by
 have hb:¬(¬ya w\/¬js c\/w.players<c.P):=λhb=>by rw[Gq hb]at h;cases h
 have h1:ya w:=Classical.byContradiction λhh=>hb (.inl hh);have h2:js c:=Classical.byContradiction λhh=>hb (.inr (.inl hh));grind[Hp]
theorem m8{tile:Int}:∀(l:List Int) (w x:Wld),yr w.U->unl tile l w=some x->x.tick=w.tick/\x.players=w.players/\x.next=w.next/\x.G=w.G/\x.B=w.B/\∃h:x.U.length=w.U.length,∀j,(hj:j<w.U.length)->x.U[j].id=w.U[j].id/\x.U[j].owner=w.U[j].owner/\x.U[j].kind=w.U[j].kind/\(x.U[j]=w.U[j]\/∃t,t<w.G.T.length/\x.U[j].pos=yf w.G t)
 |[],w,x,hr,h=>by have:w=x:=Option.some.inj h;grind
 |id::l,w,x,hr,h=>by
  cases hf:qa w.U id with
  |none=>
   grind[unl]
  |some i=>
   obtain⟨hi,_⟩:=Ho hf;cases ho:Co w w.U[i] tile with
   |none=>rw[P5 hi hf ho]at h;cases h
   |some t=>
    rw[P4 hi hf ho]at h;have ht:=(Rl (tj ho).1).1;obtain⟨h0,h1,h2,h3,h4,h5,h6⟩:=m8 l _ x (Rw hr hi (u:=w9 w.U[i] (yf w.G t)) rfl) h;grind[w9]
def m9{c:Cmd}(hr:yr w.U):(ulW w c).tick=w.tick/\(ulW w c).players=w.players/\(ulW w c).next=w.next/\(ulW w c).G=w.G/\(ulW w c).B=w.B/\∃h:(ulW w c).U.length=w.U.length,∀j,(hj:j<w.U.length)->(ulW w c).U[j].id=w.U[j].id/\(ulW w c).U[j].owner=w.U[j].owner/\(ulW w c).U[j].kind=w.U[j].kind/\((ulW w c).U[j]=w.U[j]\/∃t,t<w.G.T.length/\(ulW w c).U[j].pos=yf w.G t):=by
 have key:∀x:Wld,ulW w c=x->x.tick=w.tick/\x.players=w.players/\x.next=w.next/\x.G=w.G/\x.B=w.B/\∃h:x.U.length=w.U.length,∀j,(hj:j<w.U.length)->x.U[j].id=w.U[j].id/\x.U[j].owner=w.U[j].owner/\x.U[j].kind=w.U[j].kind/\(x.U[j]=w.U[j]\/∃t,t<w.G.T.length/\x.U[j].pos=yf w.G t):=λx hx=>by
  unfold ulW at hx;cases h:unl c.T (z8 w.U c.N) w with
  |none=>
   grind
  |some y=>
   grind[m8]
 exact key _ rfl
def pp{l:List Int}{g:Unt->Unt}{U:List Unt}{u:Unt}(h:u∈yx l g U):∃x∈U,u=x\/u=g x:=by unfold yx at h;grind
def yos{c:Cmd}(hn:∀u∈w.U,u.pos.ok)(h:doE aE w c=0):∀u∈(aW w c).U,u.pos.ok:=by
 obtain⟨hm,hc,hp,he⟩:=zcy h;have z0:Vc.ok (0,0):=by unfold Vc.ok ym;decide
 intro u hu;rcases So hc with k|k|k|k|k|k|k
 ·rw[(a1 k).2]at hu;rcases Fat.1 (show u∈w.U++[spU w c]from hu)with hu|hu
  ·exact hn u hu
  ·rw[Fc3]at hu;subst hu;have:=(Cmd.ok1 k).1 hc.1;have:=this.2;show Vc.ok (c.X,c.Y);grind[qs,Vc.ok,ym]
 ·rw[(a2 k).2]at hu;obtain⟨x,hx,_,_,_,e,_⟩:=ux (show u∈mvL w c c.U.length from hu);rw[e];exact hn x hx
 ·rw[(a3 k).2]at hu;obtain⟨x,hx,rfl|rfl⟩:=pp (show u∈yx c.U j7 w.U from hu)
  ·exact hn _ hx
  ·exact hn x hx
 ·rw[(a4 k).2]at hu;exact hn u hu
 ·grind[a5,drW]
 ·rw[(a6 k).2]at hu;obtain⟨x,hx,rfl|rfl⟩:=pp (show u∈yx c.U (ldU c.N) w.U from hu)
  ·exact hn _ hx
  ·exact z0
 ·rw[(a7 k).2]at hu;obtain⟨_,_,_,_,_,hl,hf⟩:=m9 (c:=c) hm.1.2.1;obtain⟨j,hj,rfl⟩:=Fai hu;obtain⟨_,_,_,e|⟨t,ht,e⟩⟩:=hf j θ
  ·grind
  ·rw[e];exact I7 hm.1.1.2.1.1 ht
def yko(w:Wld)(c:Cmd):(drW w c).tick=w.tick/\(drW w c).players=w.players/\(drW w c).next=w.next/\(drW w c).G=w.G/\(drW w c).U=w.U/\(drW w c).B.length<=w.B.length:=by unfold drW;grind
end
instance(g:Gnd)(t:Nat)(p:Vc)(r:Int):Decidable (ja g t p r):=by unfold ja;infer_instance
instance(g:Gnd)(b:Bld):Decidable (C9 g b):=by unfold C9;infer_instance
instance(g:Gnd)(b:Bld):Decidable (onP g b):=by unfold onP;infer_instance
instance(b:Bld):Decidable (yi b):=by unfold yi;infer_instance
instance(a b:Bld):Decidable (j9 a b):=by unfold j9;infer_instance
instance(l:List Bld):Decidable (Og l):=by unfold Og;infer_instance
instance(l:List Bld):Decidable (Wh l):=by unfold Wh;infer_instance
instance(g:Gnd):Decidable (zw g):=by unfold zw;infer_instance
instance(g:Gnd)(l:List Bld):Decidable (Hr g l):=by unfold Hr;infer_instance
instance(g:Gnd)(l:List Bld)(c:Int)(p:Vc)(r:Int):Decidable (Cc g l c p r):=by unfold Cc;infer_instance
instance(w:Wld)(id k:Int)(p:Vc):Decidable (qh w id k p):=by unfold qh;infer_instance
instance(k:Int):Decidable (kr k):=by unfold kr;infer_instance
instance(g:Gnd)(t:Int):Decidable (Aa g t):=by unfold Aa;infer_instance
instance(w:Wld)(u:Unt):Decidable (ko w u):=by unfold ko;infer_instance
instance(w:Wld):Decidable (Ir w):=by unfold Ir;infer_instance
instance(l:List Unt):Decidable (yr l):=by unfold yr;infer_instance
instance(w:Wld):Decidable (Kj w):=by unfold Kj;infer_instance
instance(w:Wld)(u:Unt):Decidable (Bk w u):=by unfold Bk;infer_instance
instance(w:Wld):Decidable (ya w):=by unfold ya;infer_instance
instance(x y:Int):Decidable (qs x y):=by unfold qs;infer_instance
instance(t:Int):Decidable (kx t):=by unfold kx;infer_instance
instance(t:Int):Decidable (idP t):=by unfold idP;infer_instance
instance(l:List Int):Decidable (Bh l):=by unfold Bh;infer_instance
instance(w:Wld):Decidable (Fq w):=by unfold Fq;infer_instance
def xn(a b:Vc):Vc:=(qp a.1 b.1,qp a.2 b.2)
def qu(v:Vc):Vc:=(nrm v.1,nrm v.2)
def vd(v:Vc)(k:Nat):Vc:=(v.1.tdiv (2^k:Nat),v.2.tdiv (2^k:Nat))
def Ru(m:Int):Nat->Int->Int
 |0,r=>r
 |b+1,r=>Ru m b (if(r+(2^b:Nat))*(r+(2^b:Nat))<=m then r+(2^b:Nat)else r)
def jx(m:Int):Int:=Ru m 63 0
def ybi{m:Int}(hm:0<=m):∀(b:Nat) (r:Int),0<=r->r*r<=m->(r+(2^b:Nat)=9223372036854775808\/m<(r+(2^b:Nat))*(r+(2^b:Nat)))->r+(2^b:Nat)<=9223372036854775808->Cq m (Ru m b r):=by
 intro b;induction b with
 |zero=>
  intro r h0 h1 h2 h3;refine⟨h0,?_,h1,?_⟩
  ·simp only[Nat.pow_zero]at h3;show r<=_;omega
  ·show r=_\/_;simp only[Nat.pow_zero]at h2;rcases h2 with h2|h2
   ·exact .inl θ
   ·exact .inr h2
 |succ b ih=>
  intro r h0 h1 h2 h3;have hp:(2^(b+1):Nat)=2^b+2^b:=by rw[Nat.pow_succ];omega
  have hq:0<2^b:=Nat.pow_pos ψ;rw[hp]at h2 h3;generalize hB:2^b=B at*;show Cq m (Ru m b (if _ then _ else _));rw[hB];split
  ·rename_i hle;refine ih (r+(B:Nat)) θ hle ?_ θ;rw[Int.add_assoc,show((B:Nat):Int)+(B:Nat)=((B+B:Nat):Int) by omega];exact h2
  ·rename_i hle;exact ih r h0 h1 (.inr θ) θ
def G8{m:Int}(hm:0<=m):Cq m (jx m):=ybi hm 63 0 ψ (by simpa using hm) (.inl ψ) ψ
def Od{m r:Int}(hm:0<=m)(h:Cq m r):r=jx m:=ygu h (G8 hm)
def Ft(c most long:Int):Int:=if c<0 then -((-c)*most/long)else c*most/long
def xy(v:Vc)(most:Int):Vc:=
 if jx (sqr v)<=max most 0 then qu v else(Ft (nrm v.1) (max most 0) (jx (sqr v)),Ft (nrm v.2) (max most 0) (jx (sqr v)))
def Bi(p q:Vc)(speed:Int):Vc:=xy (qy q p) speed
def ky(p:Vc)(r:Int)(q:Vc):Vc:=
 if near p q r then xy (if qy p q=(0,0)then(65536,0)else qy p q) (r-jx (sqr (qy p q)))else(0,0)
instance(w:Wld)(id k:Int)(p:Vc):Decidable (qh w id k p):=by unfold qh Cc;infer_instance
def qk(w:Wld)(u:Unt)(v:Vc):Nat->Nat->Option (Nat×Vc)
 |0,_=>none
 |n+1,k=>if vd v k=(0,0)then none else if qh w u.id u.kind (xn u.pos (vd v k))then some (k,xn u.pos (vd v k))else qk w u v n (k+1)
def yk(w:Wld)(u:Unt):Wld:={w with U:=w.U.map λx=>if x.id=u.id then u else x}
def Am(w:Wld)(u:Unt)(v:Vc):Int:=match qk w u (qu v) 5 0 with|none=>5|some (k,_)=>(k:Int)
def xk(w:Wld)(u:Unt)(v:Vc):Wld:=match qk w u (qu v) 5 0 with|none=>w|some (_,p)=>yk w {u with pos:=p}
def Be(w:Wld)(u:Unt):Vc:=w.U.foldl (λv x=>if x.inn=0/\x.id≠u.id then xn v (ky u.pos (z6 u.kind+z6 x.kind+16384) x.pos)else v) (0,0)
def Fp(w:Wld)(u:Unt):Wld:=xk w u (xy (Be w u) ((xa u.kind).tdiv 4))
def j4(s:Int)(u:Unt):Unt:={u with goal:=-1,next:=-1,stuck:=0,state:=s}
def okU(w:Wld)(u:Unt)(t:Nat):Bool:=zo w.G w.B (yl u.kind) (qm u.kind) t
def Aw(w:Wld)(u:Unt)(own:Nat):Bool:=
 decide (u.next=-1)||decide (u.pos=yf w.G u.next.toNat)|| !okU w u u.next.toNat||(decide (u.next≠own)&& !(jz w.G own).contains u.next)
noncomputable def Ae(w:Wld)(u:Unt)(own:Nat):Int:=
 if u.pos≠yf w.G own then own else
  (let way:=xc w.G (okU w u) (yl u.kind) (xu w.G (okU w u) (yl u.kind) u.goal.toNat) own
   if way<0 then -1 else yj w.G own way.toNat)
def Ab(w:Wld)(u:Unt):Wld:=
 if Am (yk w {u with stuck:=0}) {u with stuck:=0} (Bi u.pos (yf w.G u.next.toNat) (xa u.kind))<5 then xk (yk w {u with stuck:=0}) {u with stuck:=0} (Bi u.pos (yf w.G u.next.toNat) (xa u.kind))
 else if u.stuck+1=8 then yk w (j4 4 u)else yk w {u with stuck:=u.stuck+1,next:=-1}
noncomputable def Cb(w:Wld)(u:Unt):Wld:=
 if u.pos=yf w.G u.goal.toNat then yk w (j4 2 u)
 else if Aw w u (vm w.G u.pos)then
  (if Ae w u (vm w.G u.pos)<0 then yk w (j4 3 u)else Ab w {u with next:=Ae w u (vm w.G u.pos)})
 else Ab w u
noncomputable def vf(w:Wld)(u:Unt):Wld:=if u.goal=-1 then Fp w u else Cb w u
theorem zel{g:Gnd}(hg:zw g){l:List Bld}{c c':Int}{p q:Vc}{k k':Int}(hp:Cc g l c p (z6 k))(hq:Cc g l c' q (z6 k')):vr p (z6 k) q (z6 k')=vr q (z6 k') p (z6 k):=by have b1:=Vf hg hp;have b2:=Vf hg hq;grind[vr,ee,z6]
def iv{w w':Wld}{id k:Int}{p:Vc}(hG:w'.G=w.G)(hB:w'.B=w.B)(h:∀v∈w'.U,v.inn=0->v.id≠id->∃x∈w.U,x.inn=0/\x.id≠id/\x.pos=v.pos/\x.kind=v.kind)(hc:qh w id k p):qh w' id k p:=by refine⟨by rw[hG,hB];exact hc.1,λv hv h0 hid=>?_⟩;obtain⟨x,hx,e1,e2,e3,e4⟩:=h v hv h0 hid;rw[<-e3,<-e4];exact hc.2 x hx e1 e2
theorem yha(l:List Unt)(id:Int):z8 l id=((l.map λu=>(u.inn,u.id)).filter λx=>x.1==id).map (·.2):=by unfold z8;rw[List.filter_map,List.map_map];rfl
def yhc{U U':List Unt}(hl:U'.length=U.length)(h:∀j,(hj:j<U.length)->(U'[j]'θ).inn=U[j].inn/\(U'[j]'θ).id=U[j].id)(id:Int):z8 U' id=z8 U id:=by grind[yha,List.ext_getElem,List.length_map]
def sa{U U':List Unt}(hl:U'.length=U.length)(h:∀j,(hj:j<U.length)->(U'[j]'θ).id=U[j].id)(hr:yr U):yr U':=by intro j hj h0;rw[hl]at hj;have:=hr j hj h0;grind
def yhb{l:List Unt}{u:Unt}(hu:u∈l):u.id∈z8 l u.inn:=by unfold z8;grind
def ew{w:Wld}(hm:ya w){U:List Unt}(hl:U.length=w.U.length)(h1:∀j,(hj:j<w.U.length)->mvG 0 (U[j]'θ)=mvG 0 w.U[j])(h2:∀j,(hj:j<w.U.length)->w.U[j].inn≠0->U[j]'θ=w.U[j])(h3:∀j,(hj:j<w.U.length)->ko w (U[j]'θ)):ya {w with U:=U}:=by
 obtain⟨⟨hh,hr,hu⟩,hc,hd⟩:=hm;have same:=λj hj=>Ij (h1 j hj);have back:∀v∈U,∃j,∃hj:j<w.U.length,v=U[j]'θ:=λv hv=>by obtain⟨j,hj,rfl⟩:=Fai hv;exact⟨j,θ,rfl⟩
 have hin:=yhc hl λj hj=>⟨(same j hj).2.2.2.2,(same j hj).1⟩;refine⟨⟨⟨hh.1,⟨hh.2.1.1,hh.2.1.2.1,by show U.length<=_;rw[hl];exact hh.2.1.2.2⟩,hh.2.2⟩,sa hl (λj hj=>(same j hj).1) hr,λv hv=>?_⟩,λv hv h0=>?_,λv hv h0=>?_⟩
 ·obtain⟨j,hj,rfl⟩:=back v hv;refine⟨h3 j hj,λb hb=>?_⟩;grind
 ·obtain⟨j,hj,rfl⟩:=back v hv;obtain⟨e1,_,e3,e4,e5⟩:=same j hj;rw[e1,e3,e4];refine iv (w:=w) rfl rfl (λx hx hx0 hxi=>?_) (hc _ (Faa hj) (by rw[<-e5];exact h0));grind
 ·obtain⟨j,hj,rfl⟩:=back v hv;have e5:=(same j hj).2.2.2.2;rw[e5]at h0;rw[h2 j hj h0];obtain⟨x,hx,g1,g2,g3,g4⟩:=hd _ (Faa hj) h0;obtain⟨k,hk,rfl⟩:=Fai hx;obtain⟨f1,f2,f3,f4,f5⟩:=same k hk;refine⟨U[k]'θ,Faa _,by rw[f1];exact g1,⟨by rw[f5];exact g2.1,by rw[f2];exact g2.2⟩,?_,g4⟩;grind
theorem zca{q:Unt->Bool}{x:Unt}(hx:q x=false):∀(U:List Unt) (i:Nat),((U.set i x).filter q).length<=(U.filter q).length
 |[],_=>Fal _
 |a::l,0=>δ
 |a::l,i+1=>by
  rw[List.set_cons_succ,Fdl,Fdl];have:=zca hx l i;split
  ·simp only[Fbz];omega
  ·exact this
def zai{w:Wld}(hm:ya w){i:Nat}(hi:i<w.U.length){p:Vc}(hp:qh w w.U[i].id w.U[i].kind p):ya {w with U:=w.U.set i {w.U[i]with pos:=p,inn:=0}}:=by
 obtain⟨⟨hh,hr,hu⟩,hc,hd⟩:=hm;have hg:=hh.2.1.1;have hl:(w.U.set i {w.U[i]with pos:=p,inn:=0}).length=w.U.length:=Faf;have get:∀j,(hj:j<w.U.length)->(w.U.set i {w.U[i]with pos:=p,inn:=0})[j]'θ=if i=j then{w.U[i]with pos:=p,inn:=0}else w.U[j]:=λj hj=>Fc9 ..
 have back:∀v∈w.U.set i {w.U[i]with pos:=p,inn:=0},v={w.U[i]with pos:=p,inn:=0}\/∃j,∃hj:j<w.U.length,j≠i/\v=w.U[j]:=λv hv=>by obtain⟨j,hj,rfl⟩:=Fai hv;grind
 have idne:∀j,(hj:j<w.U.length)->j≠i->w.U[j].id≠w.U[i].id:=λj hj hne e=>by
  rcases Nat.lt_trichotomy j i with q|q|q
  ·have:=Gb hr q hi;omega
  ·exact hne q
  ·have:=Gb hr q hj;omega
 have hself:ko w {w.U[i]with pos:=p,inn:=0}/\∀b∈w.B,b.id≠w.U[i].id:=⟨(hu _ (Faa hi)).1,(hu _ (Faa hi)).2⟩
 refine⟨⟨⟨hh.1,⟨hh.2.1.1,hh.2.1.2.1,by show(w.U.set i _).length<=_;rw[hl];exact hh.2.1.2.2⟩,hh.2.2⟩,Rw hr hi rfl,λv hv=>?_⟩,λv hv h0=>?_,λv hv h0=>?_⟩
 ·rcases back v hv with rfl|⟨j,hj,_,rfl⟩
  ·exact hself
  ·exact hu _ (Faa hj)
 ·rcases back v hv with rfl|⟨j,hj,hne,rfl⟩
  ·refine iv (w:=w) rfl rfl (λx hx hx0 hxi=>?_) hp;grind
  ·have hcj:=hc _ (Faa hj) h0;refine⟨hcj.1,λx hx hx0 hxi=>?_⟩;rcases back x hx with rfl|⟨k,hk,_,rfl⟩
   ·have:=hp.2 _ (Faa hj) h0 (idne j hj hne);rw[zel hg hp.1 hcj.1]at this;exact this
   ·exact hcj.2 _ (Faa hk) hx0 hxi
 ·rcases back v hv with rfl|⟨j,hj,hne,rfl⟩
  ·exact absurd rfl h0
  obtain⟨x,hx,g1,g2,g3,g4⟩:=hd _ (Faa hj) h0;obtain⟨k,hk,rfl⟩:=Fai hx;have hle:((z8 (w.U.set i {w.U[i]with pos:=p,inn:=0}) w.U[j].inn).length:Int)<=j2 w.U[k].kind:=by grind[zca,z8]
  by_cases e:k=i
  ·subst e;exact⟨{w.U[k]with pos:=p,inn:=0},List.mem_set hi _,g1,⟨rfl,g2.2⟩,hle,g4⟩
  ·refine⟨w.U[k],?_,g1,g2,hle,g4⟩;grind
def zad{tile:Int}:∀(l:List Int) (w x:Wld),ya w->unl tile l w=some x->ya x
 |[],w,x,hm,h=>by have:w=x:=Option.some.inj h;subst this;exact hm
 |id::l,w,x,hm,h=>by
  cases hf:qa w.U id with
  |none=>
   grind[unl]
  |some i=>
   obtain⟨hi,_⟩:=Ho hf;cases ho:Co w w.U[i] tile with
   |none=>rw[P5 hi hf ho]at h;cases h
   |some t=>
    rw[P4 hi hf ho]at h;exact zad l _ x (zai hm hi (tj ho).2) h
section
variable {w:Wld} {i:Nat} {u:Unt} {s:Int}
theorem Bl(hr:yr w.U)(hi:i<w.U.length)(hid:u.id=w.U[i].id):yk w u={w with U:=w.U.set i u}:=by
 unfold yk
 congr 1
 refine Fdm φ λj h1 h2=>?_;have hj:j<w.U.length:=θz;rw[Fbp,Fc9];by_cases e:i=j
 ·subst e;rw[if_pos hid.symm,if_pos rfl]
 ·rw[if_neg e,if_neg];intro hx;rcases Nat.lt_or_gt_of_ne e with h|h
  ·have:=Fa hr h hj;omega
  ·have:=Fa hr h hi;omega
def R7(hr:yr w.U)(hi:i<w.U.length)(hid:u.id=w.U[i].id):∃h2:i<(yk w u).U.length,(yk w u).U[i]=u:=by rw[Bl hr hi hid];exact⟨by simpa using hi,φ⟩
theorem R6(w:Wld)(u:Unt):(yk w u).U.length=w.U.length:=by simp[yk]
theorem sy(hr:yr w.U)(hi:i<w.U.length)(hid:u.id=w.U[i].id){j:Nat}(hj:j<w.U.length)(hij:j≠i):(yk w u).U[j]'(by rw[R6];exact hj)=w.U[j]:=by
 have h:=Bl hr hi hid;have:(yk w u).U=w.U.set i u:=by rw[h]
 simp only[this];rw[Fc9,if_neg (Ne.symm hij)]
def O0(hm:ya w)(hi:i<w.U.length)(h0:w.U[i].inn=0)(h1:mvG 0 u=mvG 0 w.U[i])(h2:ko w u):ya (yk w u):=by
 have hid:u.id=w.U[i].id:=(Ij h1).1;rw[Bl hm.1.2.1 hi hid];have get:∀j,(hj:j<w.U.length)->(w.U.set i u)[j]'(by simpa using hj)=if i=j then u else w.U[j]:=λj hj=>Fc9 ..
 refine ew hm φ (λj hj=>?_) (λj hj hn=>?_) λj hj=>?_
 ·rw[get j hj];split
  ·rename_i e;subst e;exact h1
  ·rfl
 ·rw[get j hj];split
  ·rename_i e;subst e;exact absurd h0 hn
  ·rfl
 ·rw[get j hj];split
  ·exact h2
  ·exact(hm.1.2.2 _ (Faa hj)).1
def P9{v:Vc}:∀(n k:Nat) {r:Nat×Vc},qk w u v n k=some r->qh w u.id u.kind r.2/\(k<=r.1/\r.1<k+n)/\r.2=xn u.pos (vd v r.1)
 |0,k,r,h=>ω
 |n+1,k,r,h=>by
  unfold qk at h;split at h
  ·cases h
  ·split at h
   ·cases h;exact⟨‹_›,θ,rfl⟩
   ·obtain⟨h1,h2,h3⟩:=P9 n (k+1) h;exact⟨h1,θ,h3⟩
def zae(hm:ya w)(hi:i<w.U.length)(h0:w.U[i].inn=0)(v:Vc):ya (xk w w.U[i] v):=by
 unfold xk;cases h:qk w w.U[i] (qu v) 5 0 with
 |none=>exact hm
 |some r=>
  obtain⟨k,p⟩:=r;dsimp only;obtain⟨h1,_,_⟩:=P9 5 0 h;rw[Bl (u:={w.U[i]with pos:=p}) hm.1.2.1 hi rfl];have:=zai hm hi h1;have e:({w.U[i]with pos:=p,inn:=0}:Unt)={w.U[i]with pos:=p}:=by rw[<-h0]
  rw[e]at this;exact this
def P0(hm:ya w)(hi:i<w.U.length):ko w w.U[i]:=(hm.1.2.2 _ (Faa hi)).1
def zga(h:ko w u)(hs:s=2\/s=3\/s=4):ko w (j4 s u):=by obtain⟨⟨a1,a2,a3⟩,_,_,_⟩:=h;refine⟨⟨a1,a2,a3⟩,⟨.inl rfl,.inl rfl,by show(0:Int)<=0/\(0:Int)<8;omega⟩,⟨by show 0<=s/\s<=4;omega,?_⟩,λ_=>⟨rfl,rfl⟩⟩;show s=1↔(-1:Int)≠-1;omega
def Nl(h:ko w u)(hg:u.goal≠-1){nx st:Int}(hn:Aa w.G nx)(hs:0<=st/\st<8):ko w {u with next:=nx,stuck:=st}:=by obtain⟨⟨a1,a2,a3⟩,⟨b1,b2,b3⟩,c,d⟩:=h;exact⟨⟨a1,a2,a3⟩,⟨b1,hn,hs⟩,c,λe=>absurd e hg⟩
def ez(hm:ya w)(hi:i<w.U.length)(h0:w.U[i].inn=0)(hs:s=2\/s=3\/s=4)(hu:mvG 0 u=mvG 0 w.U[i])(hup:ko w u):ya (yk w (j4 s u)):=
 O0 hm hi h0 (by rw[<-hu];rfl) (zga hup hs)
def zaf(hm:ya w)(hi:i<w.U.length)(h0:w.U[i].inn=0)(hu:mvG 0 u=mvG 0 w.U[i])(hup:ko w u)(hg:u.goal≠-1):ya (Ab w u):=by
 have hid:u.id=w.U[i].id:=(Ij hu).1;have hin:u.inn=w.U[i].inn:=(Ij hu).2.2.2.2;unfold Ab;split
 ·have hp:ko w {u with stuck:=0}:=Nl hup hg hup.2.1.2.1 θ;have hm2:ya (yk w {u with stuck:=0}):=O0 hm hi h0 (by rw[<-hu];rfl) hp;obtain⟨h2,e⟩:=R7 (u:={u with stuck:=0}) hm.1.2.1 hi hid;have:=zae hm2 h2 (by rw[e];exact hin.trans h0) (Bi u.pos (yf w.G u.next.toNat) (xa u.kind));rw[e]at this;exact this
 ·split
  ·exact ez hm hi h0 (.inr (.inr rfl)) hu hup
  ·rename_i h8;have:=hup.2.1.2.2;exact O0 hm hi h0 (by rw[<-hu];rfl) (Nl hup hg (.inl rfl) θ)
def dw(hm:ya w)(hi:i<w.U.length)(h0:w.U[i].inn=0):(0<=w.U[i].pos.1/\w.U[i].pos.1<w.G.W*65536)/\(0<=w.U[i].pos.2/\w.U[i].pos.2<w.G.H*65536):=by have:=Vf hm.1.1.2.1.1 (hm.2.1 _ (Faa hi) h0).1;have:=this.1;have:=this.2;omega
def Sa(hm:ya w)(hi:i<w.U.length)(h0:w.U[i].inn=0):vm w.G w.U[i].pos<w.G.T.length:=(bf hm.1.1.2.1.1 (dw hm hi h0)).2.1
def Rd{g:Gnd}(hg:zw g){t:Nat}(h:t<g.T.length):Aa g (t:Int):=.inr (by have:=hg.2.2.1;omega)
def l8(g:Gnd)(ok:Nat->Bool)(c:Int)(d:Nat->Int)(t:Nat):xc g ok c d t=-1\/∃way:Nat,way<8/\xc g ok c d t=way/\0<qj g ok c t way:=by
 unfold xc;split
 ·exact .inl rfl
 ·cases h:(List.range 8).find? λway=>decide (0<qj g ok c t way/\0<=d (yj g t way).toNat/\qj g ok c t way+d (yj g t way).toNat=d t)with
  |none=>exact .inl rfl
  |some way=>
   have h1:=Feb h;have h2:=List.find?_some h;exact .inr ⟨way,θz,rfl,(of_decide_eq_true h2).1⟩
def dz(hg:zw w.G){own:Nat}(ho:own<w.G.T.length):Aa w.G (Ae w u own):=by
 unfold Ae;split
 ·exact Rd hg ho
 ·dsimp only;rcases l8 w.G (okU w u) (yl u.kind) (xu w.G (okU w u) (yl u.kind) u.goal.toNat) own with h|⟨way,h1,h2,_⟩
  ·rw[h,if_pos ψ];exact .inl rfl
  ·rw[h2,if_neg θ];rcases Wb hg (t:=own) (way:=way) h1 with h3|⟨x,h3,h4⟩
   ·rw[Fa0,h3];exact .inl rfl
   ·rw[Fa0,h3];exact Rd hg h4
def yf2(hm:ya w)(hi:i<w.U.length)(h0:w.U[i].inn=0)(hg:w.U[i].goal≠-1):ya (Cb w w.U[i]):=by
 have hu:=P0 hm hi;unfold Cb;split
 ·exact ez hm hi h0 (.inl rfl) rfl hu
 ·split
  ·split
   ·exact ez hm hi h0 (.inr (.inl rfl)) rfl hu
   ·exact zaf hm hi h0 (u:={w.U[i]with next:=Ae w w.U[i] (vm w.G w.U[i].pos)}) rfl (Nl hu hg (dz hm.1.1.2.1.1 (Sa hm hi h0)) hu.2.1.2.2) hg
  ·exact zaf hm hi h0 rfl hu hg
def yfv(hm:ya w)(hi:i<w.U.length)(h0:w.U[i].inn=0):ya (vf w w.U[i]):=by
 unfold vf;split
 ·exact zae hm hi h0 _
 ·exact yf2 hm hi h0 ‹_›
end
end Go.V
