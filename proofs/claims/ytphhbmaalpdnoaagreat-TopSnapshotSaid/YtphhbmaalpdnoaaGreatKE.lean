/- Ground of laws of throngtop: contracts and plain lemmas; no condition beyond the row's own. -/
import Derived.Test.YtphhbmaalpdnoaaGreatKD
set_option linter.unusedSimpArgs false
set_option linter.unusedVariables false
set_option linter.defProp false
namespace Go.V
section
variable {n t:Nat} {g:Gnd}
def il(n:Nat)(f:Nat->Int):List AV:=(List.range n).map λt=>int (f t)
theorem xo(n:Nat)(f:Nat->Int):(il n f).length=n:=by simp[il]
theorem Fy{f:Nat->Int}(h:t<n):(il n f)[t]?=some (int (f t)):=by simp[il,h]
theorem Cz{f:Nat->Int}(h:t<n):((il n f).drop (0+t*1)).head?=some (int (f t)):=by rw[Fcc,show 0+t*1=t by omega,Fy h]
theorem zga{f:Nat->Bool}(h:t<n):((bl n f).drop (0+t*1)).head?=some (bool (f t)):=by rw[Fcc,show 0+t*1=t by omega,Hu h]
theorem zc8(n:Nat):List.replicate n (AV.s (.int .i64 0))=il n λ_=>0:=by unfold il;rw[List.map_const',Fdo];rfl
def setI(f:Nat->Int)(t:Nat)(v:Int):Nat->Int:=λs=>if s=t then v else f s
theorem Ot(f:Nat->Int)(t:Nat)(v:Int):setI f t v t=v:=if_pos rfl
theorem Md(f:Nat->Int){s:Nat}(v:Int)(h:s≠t):setI f t v s=f s:=if_neg h
theorem zzx(f:Nat->Int)(t:Nat):setI f t (f t)=f:=funext λs=>by
 unfold setI;split
 ·rename_i h;rw[h]
 ·rfl
theorem fc(f:Nat->Int)(t:Nat)(v u:Int):setI (setI f t v) t u=setI f t u:=funext λs=>by unfold setI;split<;>simp_all
theorem zc9{f:Nat->Int}(h:t<n)(g:Nat->Int)(hg:∀s,s≠t->g s=f s):zp (il n f) t [int (g t)]=il n g:=by
 unfold zp;apply Fb8;intro s;by_cases h1:s<t
 ·rw[Fao,Fau (by rw[Fam,xo];omega),Fb5 h1,Fy θ,Fy θ,hg s θ]
 ·by_cases h2:s=t
  ·subst h2;rw[Fao,Fa0 (by rw[Fam,xo];omega),Fam,xo,show s-min s n=0 by omega,Fy h];rfl
  ·rw[Fa0 (by rw[Fad,Fam,xo];simp;omega),Fad,Fam,xo,Fcu];by_cases h3:s<n
   ·have e:t+[int (g t)].length+(s-(min t n+[int (g t)].length))=s:=χ;rw[e,Fy h3,Fy h3,hg s h2]
   ·rw[Fby (by rw[xo];simp;omega),Fby θe]
theorem Iv{f:Nat->Int}(h:t<n)(v:Int):zp (il n f) t [int v]=il n (setI f t v):=by have:=zc9 h (setI f t v) (λs hs=>Md f v hs);rw[Ot]at this;exact this
def ilL(n:Nat)(f:Nat->Int):List Int:=(List.range n).map f
theorem Wm(n:Nat)(f:Nat->Int):(ilL n f).length=n:=by simp[ilL]
theorem ylz{f:Nat->Int}(h:t<n):(ilL n f)[t]'(by rw[Wm];exact h)=f t:=by simp[ilL]
theorem ylx(n:Nat)(f:Nat->Int):(rws zv (ilL n f)).flatten=il n f:=by
 unfold rws ilL il;rw[List.map_map];generalize List.range n=l;induction l with
 |nil=>rfl
 |cons a l ih=>simp only[Fb7,Fea,ih];rfl
theorem Pk{f g:Nat->Int}(h:∀t,t<n->f t=g t):il n f=il n g:=Fb0 λt ht=>by rw[h t (Fbe.1 ht)]
theorem yr1{f g:Nat->Bool}(h:∀t,t<n->f t=g t):bl n f=bl n g:=Fb0 λt ht=>by rw[h t (Fbe.1 ht)]
def gv(g:Gnd)(f:Nat->Int)(x y:Int):Int:=if onG g x y then f (tl g x y)else 0
def Au(g:Gnd)(f:Nat->Int)(x y:Int)(v:Int)(ws:List (Int×Int)):Int:=ws.foldl (λv d=>min v (gv g f (x+d.1) (y+d.2)+1)) v
theorem zdg(hg:zt g){f:Nat->Int}(hf:∀t,t<g.T.length->0<=f t/\f t<=128)(x y:Int):0<=gv g f x y/\gv g f x y<=128:=by
 unfold gv;split
 ·rename_i h;exact hf _ (Dv hg h).2.1
 ·omega
theorem gi(hg:zt g){f:Nat->Int}(hf:∀t,t<g.T.length->0<=f t/\f t<=128)(x y:Int):∀(ws:List (Int×Int)) (v:Int),0<=v/\v<=128->0<=Au g f x y v ws/\Au g f x y v ws<=128
 |[],v,hv=>hv
 |d::r,v,hv=>by have:=zdg hg hf (x+d.1) (y+d.2);exact gi hg hf x y r (min v (gv g f (x+d.1) (y+d.2)+1)) θ
theorem yhi(g:Gnd)(f:Nat->Int)(x y v:Int)(ws:List (Int×Int)){i:Nat}(hi:i<ws.length):Au g f x y v (ws.take (i+1))=min (Au g f x y v (ws.take i)) (gv g f (x+ws[i].1) (y+ws[i].2)+1):=by unfold Au;rw[Fab hi,Fc9];rfl
theorem zzy{f:Nat->Int}(hf:∀t,t<n->0<=f t/\f t<=128){v:Int}(hv:0<=v/\v<=128):∀s,s<n->0<=setI f t v s/\setI f t v s<=128:=λs hs=>by
 unfold setI;split
 ·exact hv
 ·exact hf s hs
theorem ymg(hg:zt g)(f:Nat->Int)(v:Int){dx dy:Int}(hd:dx≠0\/dy≠0):gv g (setI f t v) ((t:Int)%g.W+dx) ((t:Int)/g.W+dy)=gv g f ((t:Int)%g.W+dx) ((t:Int)/g.W+dy):=by
 unfold gv;split
 ·rename_i h;obtain⟨_,_,h3,h4⟩:=Dv hg h;refine Md f v λe=>?_;rw[e]at h3 h4;omega
 ·rfl
def M7:List (Int×Int):=[(-1,0),(-1,-1),(0,-1),(1,-1)]
def Lm:List (Int×Int):=[(1,0),(1,1),(0,1),(-1,1)]
def Ka(d:Int×Int):List AV:=[int d.1,int d.2]
def L7(g:Gnd)(f:Nat->Int)(ws:List (Int×Int))(t:Nat):Nat->Int:=setI f t (Au g f ((t:Int)%g.W) ((t:Int)/g.W) (f t) ws)
def Ao(g:Gnd)(f:Nat->Int):Nat->Nat->Int
 |0=>f
 |i+1=>L7 g (Ao g f i) M7 i
def Cs(g:Gnd)(f:Nat->Int)(n:Nat):Nat->Nat->Int
 |0=>f
 |j+1=>L7 g (Cs g f n j) Lm (n-1-j)
theorem sm(hg:zt g){f:Nat->Int}(hf:∀t,t<g.T.length->0<=f t/\f t<=128){ws:List (Int×Int)}(ht:t<g.T.length):∀s,s<g.T.length->0<=L7 g f ws t s/\L7 g f ws t s<=128:=
 zzy hf (gi hg hf _ _ _ _ (hf t ht))
theorem ef(hg:zt g){f:Nat->Int}(hf:∀t,t<g.T.length->0<=f t/\f t<=128):∀i,i<=g.T.length->∀s,s<g.T.length->0<=Ao g f i s/\Ao g f i s<=128
 |0,_=>hf
 |i+1,hi=>sm hg (ef hg hf i θ) θ
theorem sr(hg:zt g){f:Nat->Int}(hf:∀t,t<g.T.length->0<=f t/\f t<=128):∀i,i<=g.T.length->∀s,s<g.T.length->0<=Cs g f g.T.length i s/\Cs g f g.T.length i s<=128
 |0,_=>hf
 |i+1,hi=>sm hg (sr hg hf i θ) θ
theorem ss(g:Gnd)(f:Nat->Int):∀i s,i<=s->Ao g f i s=f s
 |0,_,_=>rfl
 |i+1,s,h=>by show setI _ i _ s=_;rw[Md _ _ θ,ss g f i s θ]
theorem Sd(g:Gnd)(f:Nat->Int):∀i s,s<i->Ao g f i s=Ao g f (s+1) s
 |0,_,h=>absurd h (Fa3 _)
 |i+1,s,h=>by
  by_cases e:s=i
  ·subst e;rfl
  ·show setI _ i _ s=_;rw[Md _ _ e,Sd g f i s θ]
theorem sn(g:Gnd)(f:Nat->Int)(n:Nat):∀j s,s+j<n->Cs g f n j s=f s
 |0,_,_=>rfl
 |j+1,s,h=>by show setI _ (n-1-j) _ s=_;rw[Md _ _ θ,sn g f n j s θ]
theorem Sb(g:Gnd)(f:Nat->Int)(n:Nat):∀j s,s<n->j<=n->n<=s+j->Cs g f n j s=Cs g f n (n-1-s+1) s
 |0,s,h,_,h2=>absurd h2 θ
 |j+1,s,h,h1,h2=>by
  by_cases e:s=n-1-j
  ·have:j+1=n-1-s+1:=θ;rw[this]
  ·show setI _ (n-1-j) _ s=_;rw[Md _ _ e,Sb g f n j s h θ θ]
theorem yhk(g:Gnd)(f:Nat->Int)(x y v:Int):Au g f x y v M7=m5 v (gv g f (x-1) y) (gv g f (x-1) (y-1)) (gv g f x (y-1)) (gv g f (x+1) (y-1)):=by unfold Au M7 m5;simp only[Fcy,List.foldl_nil,Fca,<-Fdi]
theorem yhj(g:Gnd)(f:Nat->Int)(x y v:Int):Au g f x y v Lm=m5 v (gv g f (x+1) y) (gv g f (x+1) (y+1)) (gv g f x (y+1)) (gv g f (x-1) (y+1)):=by unfold Au Lm m5;simp only[Fcy,List.foldl_nil,Fca,<-Fdi]
def Fk(g:Gnd)(o:Nat->Bool):Nat->Int:=Cs g (Ao g (λt=>if o t then 128 else 0) g.T.length) g.T.length g.T.length
theorem ye2(hg:zt g)(o:Nat->Bool)(ht:t<g.T.length)(s:Nat)(hs:s<=127):(s:Int)<Fk g o t↔sqP g o s ((t:Int)%g.W) ((t:Int)/g.W):=by
 have hW:1<=g.W:=hg.1.1;obtain⟨ho,he⟩:=Vv hg ht
 have key:=yq4 (g:=g) (f:=o) (A:=gv g (Ao g (λt=>if o t then 128 else 0) g.T.length)) (B:=gv g (Fk g o))
  (λx y h=>if_neg h) (λx y h=>if_neg h) (λx y h=>?_) (λx y h=>?_) ho s hs
 ·rw[<-key];unfold gv;rw[if_pos ho,he]
 ·obtain⟨e1,e2,e3,e4⟩:=Dv hg h;have nb:∀dx dy:Int,(dy=-1\/dy=0/\dx=-1)->dx<=1->gv g (Ao g (λt=>if o t then 128 else 0) (tl g x y)) (x+dx) (y+dy)=gv g (Ao g (λt=>if o t then 128 else 0) g.T.length) (x+dx) (y+dy):=λdx dy hd hx=>by
   unfold gv;split
   ·rename_i h2;obtain⟨f1,f2,f3,f4⟩:=Dv hg h2;have hlt:tl g (x+dx) (y+dy)<tl g x y:=by
     have hb:=h.1;have hb2:=h2.1;rcases hd with rfl|⟨rfl,rfl⟩
     ·have:g.W*(y+-1)=g.W*y-g.W:=by rw[Fd2];omega
      rw[this]at f1;have hne:(tl g (x+dx) (y+-1):Int)≠tl g x y:=λe=>by rw[e,e4]at f4;omega
      omega
     ·rw[Fca]at f1⊢;omega
    rw[Sd g _ _ _ hlt,Sd g _ _ _ f2]
   ·rfl
  have h1:gv g (Ao g (λt=>if o t then 128 else 0) g.T.length) x y=Au g (Ao g (λt=>if o t then 128 else 0) (tl g x y)) x y (if o (tl g x y)then 128 else 0) M7:=by unfold gv;rw[if_pos h,Sd g _ _ _ e2];show setI _ _ _ _=_;rw[Ot,e3,e4,ss g _ _ _ (Fak _)]
  rw[h1,yhk];have n1:=nb (-1) 0 θ ψ;have n2:=nb (-1) (-1) θ ψ;have n3:=nb 0 (-1) θ ψ;have n4:=nb 1 (-1) θ ψ;rw[Fca]at n1 n3;rw[<-Fdi]at n1 n2 n3 n4;rw[<-Fdi]at n2;rw[n1,n2,n3,n4]
 ·obtain⟨e1,e2,e3,e4⟩:=Dv hg h;have hj:g.T.length-1-(g.T.length-1-tl g x y)=tl g x y:=θ;unfold Fk;generalize hF:Ao g (λt=>if o t then 128 else 0) g.T.length=F;have nb:∀dx dy:Int,(dy=1\/dy=0/\dx=1)->-1<=dx->gv g (Cs g F g.T.length (g.T.length-1-tl g x y)) (x+dx) (y+dy)=gv g (Cs g F g.T.length g.T.length) (x+dx) (y+dy):=λdx dy hd hx=>by
   unfold gv;split
   ·rename_i h2;obtain⟨f1,f2,f3,f4⟩:=Dv hg h2;have hlt:tl g x y<tl g (x+dx) (y+dy):=by
     have hb:=h.1;have hb2:=h2.1;rcases hd with rfl|⟨rfl,rfl⟩
     ·have:g.W*(y+1)=g.W*y+g.W:=by rw[Fd2];omega
      rw[this]at f1;have hne:(tl g (x+dx) (y+1):Int)≠tl g x y:=λe=>by rw[e,e4]at f4;omega
      omega
     ·rw[Fca]at f1⊢;omega
    rw[Sb g _ _ _ _ f2 θ θ,Sb g _ _ _ _ f2 (Fak _) θ]
   ·rfl
  have h1:gv g (Cs g F g.T.length g.T.length) x y=Au g (Cs g F g.T.length (g.T.length-1-tl g x y)) x y (gv g F x y) Lm:=by unfold gv;rw[if_pos h,if_pos h,Sb g _ _ _ _ e2 (Fak _) θ];show setI _ _ _ _=_;rw[hj,Ot,e3,e4,sn g _ _ _ _ θ]
  rw[h1,yhj];have n1:=nb 1 0 θ ψ;have n2:=nb 1 1 θ ψ;have n3:=nb 0 1 θ ψ;have n4:=nb (-1) 1 θ ψ;rw[Fca]at n1 n3;rw[<-Fdi]at n4;rw[n1,n2,n3,n4]
def sqB(g:Gnd)(f:Nat->Bool)(s:Nat)(x y:Int):Bool:=(List.range (2*s+1)).all λa=>(List.range (2*s+1)).all λb=>decide (onG g (x-s+a) (y-s+b))&&f (tl g (x-s+a) (y-s+b))
theorem zy7{f:Nat->Bool}{s:Nat}{x y:Int}:sqB g f s x y=true↔sqP g f s x y:=by
 unfold sqB;rw[Fci];constructor
 ·intro h a b h1 h2 h3 h4;have h5:=h (a+s).toNat (Fbe.2 θ);rw[Fci]at h5;have h6:=h5 (b+s).toNat (Fbe.2 θ);rw[show x-s+((a+s).toNat:Int)=x+a by omega,show y-s+((b+s).toNat:Int)=y+b by omega,Fbj]at h6;exact⟨of_decide_eq_true h6.1,h6.2⟩
 ·intro h a ha;have ha:=Fbe.1 ha;rw[Fci];intro b hb;have hb:=Fbe.1 hb;have:=h (a-s) (b-s) θ θ θ θ;rw[show x-s+(a:Int)=x+(a-s) by omega,show y-s+(b:Int)=y+(b-s) by omega,Fbj];exact⟨decide_eq_true this.1,this.2⟩
def yf(g:Gnd)(l:List Bld)(c s:Int)(t:Nat):Bool:=sqB g (yq g l c) s.toNat ((t:Int)%g.W) ((t:Int)/g.W)
theorem ymp(hg:zt g)(l:List Bld)(c:Int){s:Int}(hs:0<=s/\s<=3)(ht:t<g.T.length):decide (s<Fk g (yq g l c) t)=yf g l c s t:=by rw[Fbu,decide_eq_true_iff];unfold yf;rw[zy7,<-ye2 hg _ ht _ θ];omega
def zdp(g:Gnd)(l:List Bld)(c s:Int):AV:=lst 1 qv (blL g.T.length (yf g l c s))
end
def dirL:List (Int×Int):=[(0,-1),(1,0),(0,1),(-1,0),(1,-1),(1,1),(-1,1),(-1,-1)]
def K5(g:Gnd)(x y:Int)(d:Int×Int):Int:=if onG g (x+d.1) (y+d.2)then x+d.1+g.W*(y+d.2)else -1
def Gp(g:Gnd)(t:Nat):List Int:=dirL.map (K5 g ((t:Int)%g.W) ((t:Int)/g.W))
theorem Vz(g:Gnd)(t:Nat):(Gp g t).length=8:=by simp[Gp,dirL]
theorem yiz{g:Gnd}(hg:zt g)(x y:Int)(d:Int×Int):K5 g x y d=-1/\¬onG g (x+d.1) (y+d.2)\/onG g (x+d.1) (y+d.2)/\K5 g x y d=(tl g (x+d.1) (y+d.2):Nat)/\tl g (x+d.1) (y+d.2)<g.T.length:=by
 unfold K5;split
 ·rename_i h;exact .inr ⟨h,(Dv hg h).1.symm,(Dv hg h).2.1⟩
 ·rename_i h;exact .inl ⟨rfl,h⟩
theorem yiy{g:Gnd}(hg:zt g){t:Nat}{u:Int}(h:u∈Gp g t):u=-1\/∃m:Nat,u=m/\m<g.T.length:=by
 unfold Gp at h;obtain⟨d,_,rfl⟩:=Fai.1 h;rcases yiz hg ((t:Int)%g.W) ((t:Int)/g.W) d with⟨q1,_⟩|⟨_,q2,q3⟩
 ·exact .inl q1
 ·exact .inr ⟨_,q2,q3⟩
section
variable {g:Gnd} {c:Int} {t way goal:Nat}
def yr(g:Gnd)(t way:Nat):Int:=(Gp g t).getD way (-1)
def F5(g:Gnd)(c:Int)(t:Nat):Int:=Bt c (g.T.getD t 5).toNat
def wv(ok:Nat->Bool)(u:Int):Bool:=decide (0<=u)&&ok u.toNat
def Kp(way:Nat):Nat:=way-4
def Ko(way:Nat):Nat:=(way-3)%4
def qz(g:Gnd)(ok:Nat->Bool)(c:Int)(t way:Nat):Int:=
 if wv ok (yr g t way)then
  (if way<4 then 5*(F5 g c t+F5 g c (yr g t way).toNat)
   else if wv ok (yr g t (Kp way))/\wv ok (yr g t (Ko way))then 7*(F5 g c t+F5 g c (yr g t way).toNat)else 0)
 else 0
def Ce(g:Gnd)(ok:Nat->Bool)(c:Int)(t u:Nat)(k:Int):Prop:=ok t=true/\t<g.T.length/\∃way,way<8/\yr g t way=(u:Int)/\ok u=true/\k=qz g ok c t way/\0<k
theorem W8{ok:Nat->Bool}:∀t u k,Ce g ok c t u k->0<k:=λt u k h=>by obtain⟨_,_,w,_,_,_,_,h⟩:=h;exact h
theorem bu(hg:zt g)(hw:way<8):yr g t way=-1\/∃u:Nat,yr g t way=u/\u<g.T.length:=by
 unfold yr;have h8:way<(Gp g t).length:=by rw[Vz];exact hw
 rw[Fbk,Fac h8];exact yiy hg (Faa h8)
theorem ml{ok:Nat->Bool}{u:Int}(h:wv ok u=true):0<=u/\ok u.toNat=true:=by unfold wv at h;simpa using h
theorem el{ok:Nat->Bool}(h:qz g ok c t way≠0):wv ok (yr g t way)=true:=by
 unfold qz at h;split at h
 ·assumption
 ·exact absurd rfl h
theorem ypa{ok:Nat->Bool}(ht:ok t=true)(htl:t<g.T.length)(hw:way<8)(h:0<qz g ok c t way):Ce g ok c t (yr g t way).toNat (qz g ok c t way):=by obtain⟨h1,h2⟩:=ml (el (g:=g) (ok:=ok) (c:=c) (t:=t) (way:=way) θ);exact⟨ht,htl,way,hw,θ,h2,rfl,h⟩
theorem Vm(c:Int)(t:Nat):0<=Bt c t/\Bt c t<=6:=by
 have h:∀l∈[[2,1,3,5,0,0],[2,1,6,0,0,0],[2,1,0,3,2,0]],∀t:Nat,0<=(l:List Int).getD t 0/\(l:List Int).getD t 0<=6:=by
  intro l hl t;simp only[Fa6,Fcb,or_false]at hl;by_cases h6:t<6
  ·have:t=0\/t=1\/t=2\/t=3\/t=4\/t=5:=θ;rcases hl with rfl|rfl|rfl<;>rcases this with rfl|rfl|rfl|rfl|rfl|rfl<;>decide
  ·rcases hl with rfl|rfl|rfl<;>(rw[Fbk,Fby χ];decide)
 unfold Bt;split
 ·exact h _ φ t
 ·split
  ·exact h _ φ t
  ·exact h _ φ t
theorem tc(g:Gnd)(ok:Nat->Bool)(c:Int)(t way:Nat):0<=qz g ok c t way/\qz g ok c t way<=84:=by
 have h1:=Vm c (g.T.getD t 5).toNat;have h2:=Vm c (g.T.getD (yr g t way).toNat 5).toNat;unfold qz F5;split
 ·split
  ·omega
  ·split<;>omega
 ·omega
open Classical in
noncomputable def Ad(g:Gnd)(ok:Nat->Bool)(c:Int)(goal:Nat):Nat->Int:=
 if ok goal=true then(if h:∃d,FarOK (Ce g ok c) goal d then h.choose else λ_=>-1)else λ_=>-1
theorem yoq{ok:Nat->Bool}(hok:ok goal=true){d:Nat->Int}(h:FarOK (Ce g ok c) goal d):Ad g ok c goal=d:=by
 unfold Ad;rw[if_pos hok];have hx:∃d,FarOK (Ce g ok c) goal d:=⟨d,h⟩
 rw[dif_pos hx];exact yoo W8 hx.choose_spec h
theorem yop{ok:Nat->Bool}(hok:ok goal=false):Ad g ok c goal=λ_=>-1:=by unfold Ad;rw[if_neg (by simp[hok])]
noncomputable def jl(g:Gnd)(ok:Nat->Bool)(c:Int)(d:Nat->Int)(t:Nat):Int:=
 if d t<=0 then -1 else match(List.range 8).find? λway=>decide (0<qz g ok c t way/\0<=d (yr g t way).toNat/\qz g ok c t way+d (yr g t way).toNat=d t)with
  |some way=>(way:Int)
  |none=>-1
end
theorem zdd{F N S:Store}(hd:zh F N):((F.un N).un S).Has (F.un S):=by
 refine⟨λb y h=>?_,λb x h=>?_⟩
 ·rcases rt h with h1|⟨h1,h2⟩
  ·exact zf h1
  ·have h3:(F.un N).obj b=some y:=yj hd h2;show(match S.obj b with|some y=>some y|none=>(F.un N).obj b)=some y;rw[h1];exact h3
 ·rcases rr h with h1|⟨h1,h2⟩
  ·exact Ha h1
  ·have h3:(F.un N).tok b=some x:=Lz hd h2;show(match S.tok b with|some y=>some y|none=>(F.un N).tok b)=some x;rw[h1];exact h3
theorem Gg{l:List Unt}(hr:yl l){a b:Nat}(hab:a<b)(hb:b<l.length):(l[a]'θ).id<l[b].id:=by
 induction b with
 |zero=>omega
 |succ b ih=>
  have h3:=hr (b+1) hb θ;simp only[Fd4]at h3;by_cases e:a=b
  ·subst e;exact h3
  ·have:=ih θ θ;omega
theorem Ic{l:List Unt}(hr:yl l){u v:Unt}(hu:u∈l)(hv:v∈l)(h:u.id=v.id):u=v:=by
 obtain⟨a,ha,rfl⟩:=Faj hu;obtain⟨b,hb,rfl⟩:=Faj hv;rcases Nat.lt_trichotomy a b with q|q|q
 ·have:=Gg hr q hb;omega
 ·subst q;rfl
 ·have:=Gg hr q ha;omega
def D3(w:Wld)(L:List Ent):Prop:=∀e,e∈L↔∃u∈w.U,u.inn=0/\e=(u.id,u.pos)
theorem Kw{w:Wld}{L:List Ent}(h:D3 w L)(hn:∀u∈w.U,u.pos.ok):∀e∈L,e.2.ok:=λe he=>by obtain⟨u,hu,_,rfl⟩:=(h e).1 he;exact hn u hu
def K4(w:Wld)(p:Vc)(r:Int)(us:List Unt):Prop:=∀u,u∈us↔(u∈w.U/\u.inn=0)/\near p u.pos r=true
theorem zbt{w:Wld}{L:List Ent}(hr:yl w.U)(hL:D3 w L){p:Vc}{r:Int}{ns:List Int}(hn:Rq L p r ns){us:List Unt}(h1:us.map (·.id)=ns)(h2:∀u∈us,u∈w.U/\u.inn=0):K4 w p r us:=by
 intro u;constructor
 ·intro hu;refine⟨h2 u hu,?_⟩;have:u.id∈ns:=by rw[<-h1];exact Fai.2 ⟨u,hu,rfl⟩
  obtain⟨e,he,h3,h4⟩:=(hn.2 _).1 this;obtain⟨v,hv,_,rfl⟩:=(hL e).1 he;rw[Ic hr (h2 u hu).1 hv h3.symm];exact h4
 ·rintro⟨⟨h3,h4⟩,h5⟩;have:u.id∈ns:=(hn.2 _).2 ⟨(u.id,u.pos),(hL _).2 ⟨u,h3,h4,rfl⟩,rfl,h5⟩;rw[<-h1]at this;obtain⟨v,hv,h6⟩:=Fai.1 this;rw[Ic hr h3 (h2 v hv).1 h6.symm];exact hv
theorem Dk(k:Int):0<zx k/\zx k<=81920:=by unfold zx;split<;>(try split)<;>omega
theorem Mw(k:Int):qi k=0\/qi k=1\/qi k=2:=by unfold qi;split<;>(try split)<;>(try split)<;>omega
theorem zbs{a b:Vc}{r r':Int}(h:r<=r')(hn:near a b r=true):near a b r'=true:=by unfold near at*;rw[decide_eq_true_iff]at*;have:r*r<=r'*r':=Fbc h h θ θ;omega
theorem zfi{w:Wld}{id k:Int}{q:Vc}{us:List Unt}(hf:Cl w.G w.B (qi k) q (zx k))(hus:K4 w q (zx k+81920) us):
  qu w id k q↔∀u∈us,u.id≠id->vf q (zx k) u.pos (zx u.kind)=true:=by
 constructor
 ·intro h u hu hne;have:=(hus u).1 hu;exact h.2 u this.1.1 this.1.2 hne
 ·intro h;refine⟨hf,λu hu h0 hne=>?_⟩;unfold vf;cases hc:near q u.pos (zx k+zx u.kind)with
  |false=>rfl
  |true=>
   have h1:=zbs (r':=zx k+81920) (by have:=Dk u.kind;omega) hc;have:=h u ((hus u).2 ⟨⟨hu,h0⟩,h1⟩) hne;unfold vf at this;rw[hc]at this;exact this
end Go.V
namespace Go.V
def yu{α:Type}(f:α->AV)(e:Int×α):AV×AV:=(int e.1,f e.2)
def yw{α:Type}(cs:List (Int×α))(k:Int):Option α:=(cs.find? λe=>k==e.1).map (·.2)
def yp{α:Type}:List (Int×α)->Int->α->List (Int×α)
 |[],k,v=>[(k,v)]
 |e::l,k,v=>if k==e.1 then(k,v)::l else e::yp l k v
theorem mq{α:Type}(f:α->AV)(cs:List (Int×α))(k:Int):(cs.map (yu f)).find? (qA k)=(cs.find? λe=>k==e.1).map (yu f):=by rw[List.find?_map];rfl
theorem Hk{α:Type}(f:α->AV)(cs:List (Int×α))(k:Int)(z:AV):Ft false z ((cs.map (yu f)).find? (qA k))=((yw cs k).map f).getD z:=by
 rw[mq];unfold yw;cases cs.find? λe=>k==e.1 with
 |none=>rfl
 |some e=>rfl
theorem za0{α:Type}(f:α->AV)(k:Int)(v:α):∀cs:List (Int×α),
  (match(cs.map (yu f)).findIdx? (qA k)with|some i=>(cs.map (yu f)).set i (int k,f v)|none=>cs.map (yu f)++[(int k,f v)])=(yp cs k v).map (yu f)
 |[]=>rfl
 |e::l=>by
  have ih:=za0 f k v l;rw[Fb7,List.findIdx?_cons];unfold yp;by_cases h:k==e.1
  ·have h2:qA k (yu f e)=true:=h;rw[h2];simp only[h,if_true,List.set_cons_zero,Fb7];rfl
  ·have h:(k==e.1)=false:=by simpa using h
   have h2:qA k (yu f e)=false:=h;rw[h2];simp only[h,if_false,Fb7];cases hx:(l.map (yu f)).findIdx? (qA k)with
   |none=>rw[hx]at ih;simp at ih⊢;exact ih
   |some i=>rw[hx]at ih;simp at ih⊢;exact ih
theorem K8{α:Type}(f:α->AV)(cs:List (Int×α))(bs:List Nat)(clk:Nat)(k:Int)(v:α):∃bs' clk',vq (cs.map (yu f)) bs clk (qA k) (int k) (f v)=.map ((yp cs k v).map (yu f)) bs' clk':=by
 have h:=za0 f k v cs;unfold vq;cases hx:(cs.map (yu f)).findIdx? (qA k)with
 |none=>rw[hx]at h;exact⟨_,_,by rw[<-h]⟩
 |some i=>rw[hx]at h;exact⟨_,_,by rw[<-h]⟩
theorem C7{α:Type}(k:Int)(v:α)(j:Int):∀cs:List (Int×α),yw (yp cs k v) j=if j=k then some v else yw cs j
 |[]=>by unfold yp yw;by_cases h:j=k<;>simp[h]
 |e::l=>by
  have ih:=C7 k v j l;unfold yw at ih⊢;by_cases h:k=e.1
  ·have h1:(k==e.1)=true:=by simpa using h
   rw[show yp (e::l) k v=(k,v)::l by unfold yp;simp[h1]];by_cases h2:j=k
   ·simp[h2]
   ·have e1:(j==k)=false:=by simpa using h2
    have e2:(j==e.1)=false:=by rw[<-h];exact e1
    rw[List.find?_cons,List.find?_cons,if_neg h2];simp only[e1,e2]
  ·have h1:(k==e.1)=false:=by simpa using h
   rw[show yp (e::l) k v=e::yp l k v by rw[yp];simp[h1]];rw[List.find?_cons,List.find?_cons];by_cases h2:j=e.1
   ·have e1:(j==e.1)=true:=by simpa using h2
    simp only[e1];rw[if_neg θ]
   ·have e1:(j==e.1)=false:=by simpa using h2
    simp only[e1];exact ih
end Go.V
namespace Go.V
theorem Pj{l:List Unt}{i:Nat}(hi:i<l.length)(id:Int):((z8 (l.take (i+1)) id).length:Int)=((z8 (l.take i) id).length:Int)+(if l[i].inn=id then 1 else 0):=by
 unfold z8;rw[Fab hi,Fch,Fax,Fad];by_cases h:l[i].inn=id
 ·simp[h]
 ·simp[h]
theorem Wh{l:List Unt}(i:Nat)(id:Int):(z8 (l.take i) id).length<=(z8 l id).length:=by
 have h:(z8 l id).length=(z8 (l.take i) id).length+(z8 (l.drop i) id).length:=by unfold z8;rw[<-Fad,<-Fax,<-Fch,Fbs]
 omega
def fq(w:Wld)(i:Nat):Prop:=
 (∀j,(h:j<w.U.length)->j<i->w.U[j].inn≠0->∃x∈w.U,x.id=w.U[j].inn/\(x.inn=0/\x.owner=w.U[j].owner)/\jh w.U[j].kind=0/\w.U[j].pos=(0,0)/\w.U[j].goal=-1/\w.U[j].state=0)∧
 ∀x∈w.U,x.id≠0->((z8 (w.U.take i) x.id).length:Int)<=jh x.kind
theorem yfj{w:Wld}(h:fq w w.U.length):∀u∈w.U,u.inn≠0->Bs w u:=by intro u hu hne;obtain⟨j,hj,rfl⟩:=Faj hu;obtain⟨x,hx,h1,h2,h3,h4,h5,h6⟩:=h.1 j hj hj hne;have:=h.2 x hx (by rw[h1];exact hne);rw[Fal,h1]at this;exact⟨x,hx,h1,h2,this,h3,h4,h5,h6⟩
theorem Mv(k:Int):0<=jh k/\jh k<=4:=by unfold jh;split<;>(try split)<;>(try split)<;>omega
end Go.V
namespace Go.V
def Hz(w:Wld)(i:Nat):Prop:=∀j,(h:j<w.U.length)->j<i->(jx w w.U[j]/\∀b∈w.B,b.id≠w.U[j].id)/\(0<j->(w.U[j-1]'θ).id<w.U[j].id)
theorem rm{w:Wld}(h:Hz w w.U.length):Kc w:=by refine⟨λj hj h0=>(h j hj hj).2 h0,λu hu=>?_⟩;obtain⟨j,hj,rfl⟩:=Faj hu;exact(h j hj hj).1
theorem rl{w:Wld}(h:Kc w)(i:Nat):Hz w i:=λj hj _=>⟨h.2 _ (Faa hj),h.1 j hj⟩
end Go.V
namespace Go.V
def RowsO{α:Type}(k:Nat)(f:α->List AV)(st:Store)(v:AV)(l:List α):Prop:=
 (v=.s (.slice none 0 0)/\l=[])\/∃b cap L,v=.s (.slice (some ⟨b,0,none⟩) l.length cap)/\st.obj b=some (.cells ((rws f l).flatten++L))/\l.length<=cap/\cap*k<=l.length*k+L.length/\cap<=9223372036854775807
section
variable {α:Type} {f:α->List AV} {k:Nat}
theorem wj(hf:∀x,(f x).length=k)(l:List α):(rws f l).flatten.length=l.length*k:=by
 induction l with
 |nil=>simp[rws]
 |cons a l ih=>
  show(f a++(rws f l).flatten).length=(l.length+1)*k;rw[Fad,hf,ih,Fdu];omega
theorem H9(a b:List α):(rws f (a++b)).flatten=(rws f a).flatten++(rws f b).flatten:=by rw[<-Ia,Fd1]
theorem Sr{l:List α}{i:Nat}(hi:i<l.length):(rws f l).flatten=(rws f (l.take i)).flatten++(f l[i]++(rws f (l.drop (i+1))).flatten):=by
 have e:l=l.take i++(l[i]::l.drop (i+1)):=by rw[<-Fcx hi,Fbs]
 have e2:(rws f (l[i]::l.drop (i+1))).flatten=f l[i]++(rws f (l.drop (i+1))).flatten:=rfl;rw[<-e2,<-H9,<-e]
theorem zy9{X Y ys:List AV}{j:Nat}(h:j+ys.length<=X.length):zp (X++Y) j ys=zp X j ys++Y:=by unfold zp;rw[Fb2 θ,Fcz θ];simp only[Fao]
theorem th(hf:∀x,(f x).length=k){l:List α}{i j:Nat}(hi:i<l.length){x':α}{ys L:List AV}(hj:j+ys.length<=k)(hx:f x'=zp (f l[i]) j ys):
  zp ((rws f l).flatten++L) (i*k+j) ys=(rws f (l.set i x')).flatten++L:=by
 have h1:(rws f (l.take i)).flatten.length=i*k:=by rw[wj hf,Fam,Nat.min_eq_left θ]
 have hi2:i<(l.set i x').length:=by rw[Faz];exact hi
 rw[Sr hi,Sr hi2,Fao,Fao,<-h1,tg];have e1:(l.set i x').take i=l.take i:=by rw[List.take_set_of_le (Fak i)]
 have e2:(l.set i x').drop (i+1)=l.drop (i+1):=by rw[List.drop_set_of_lt θ]
 rw[e1,e2,List.getElem_set_self,hx];have h3:=hf l[i];rw[Fao,zy9 θ];simp only[Fao]
theorem RowsO.un{a g:Store}{v:AV}{l:List α}(h:RowsO k f g v l):RowsO k f (a.un g) v l:=by
 rcases h with h|⟨b1,cap,L,h1,h2,h3⟩
 ·exact .inl h
 ·exact .inr ⟨b1,cap,L,h1,zf h2,h3⟩
theorem RowsO.unL{a g:Store}{v:AV}{l:List α}(h:RowsO k f a v l)(hd:zh a g):RowsO k f (a.un g) v l:=by
 rcases h with h|⟨b1,cap,L,h1,h2,h3⟩
 ·exact .inl h
 ·exact .inr ⟨b1,cap,L,h1,yj hd h2,h3⟩
theorem RowsO.borrow{st:Store}{v:AV}{l:List α}(hf:∀x,(f x).length=k)(hs:∀x,∀y∈f x,∃u,y=AV.s u/\qw u=true)(hv:RowsO k f st v l){Oth M:Nat->Nat->Prop}{w:World}(sto:StoreOK st Oth M w){x:Value}(hx:VRel w (λb o=>M b o\/Oth b o) v x):
  VRel w (λb o=>(M b o\/Oth b o)/\st.obj b=none) (lst k f l) x:=by
 rcases hv with⟨rfl,rfl⟩|⟨b,cap,L,rfl,ho,h1,h2,h3⟩
 ·cases hx;exact AV.le_nil k _ _ _ (.s _)
 ·cases hx
  exact yrr (sto.obj b _ ho).1 (λo hT=>by rw[ho]at hT;exact absurd hT.2 φ) (zj l) h1
   (λrow hr=>by obtain⟨n,_,rfl⟩:=Fai.1 hr;exact hf n) (λrow hr y hy=>by obtain⟨n,_,rfl⟩:=Fai.1 hr;exact hs n y hy)
theorem pi{P:Program}{c:Cfg}{e:TypeId}{ie:TI}(hie:c.I e=some ie)(hf:∀x,(f x).length=ie.size)(hby:ie.bytes<=1000){st:Store}{v:AV}{l:List α}(hv:RowsO ie.size f st v l)(x:α){src:AV}(hsrc:Ab ie.size (.av src)=some [f x])(hlen:l.length<=1000000000){K:Ja}
  (h:∀b cap L,(Fresh st b\/∃c0,v=.s (.slice (some ⟨b,0,none⟩) l.length c0))->(l++[x]).length<=cap->cap*ie.size<=(l++[x]).length*ie.size+L.length->cap<=9223372036854775807->
   K (.s (.slice (some ⟨b,0,none⟩) (l++[x]).length cap)) (st.sO b (.cells ((rws f (l++[x])).flatten++L)))):appendK P c st e (.av v) (.av src) K:=by
 refine⟨.inr ⟨v,_,rfl,rfl,?_⟩⟩;have hl:(l++[x]).length=l.length+1:=φ;have hfl:=wj hf l;have hmul:(l.length+1)*ie.bytes<=1000000001*1000:=Fdr θ hby;have happ:(rws f (l++[x])).flatten=(rws f l).flatten++f x:=by rw[H9];show _++(f x++[])=_;rw[Fbn]
 rcases hv with⟨rfl,rfl⟩|⟨b,cap,L,rfl,ho,h1,h2,h3⟩
 ·refine zgr hie hsrc ⟨by simp at hmul⊢;omega,φ⟩ φ (λb' cap' hb hc hc2=>?_);have:=h b' cap' (List.replicate ((cap'-[f x].length)*ie.size) .any) (.inl hb) (by simpa using hc) (by
   simp only[Fa5,Fdh,Fas,<-Fcw];exact Fa9 _ θ) hc2
  exact this
 ·refine ph hie (cap:=cap) ho (by rw[Fad,hfl];exact h2) h1 hsrc ⟨χ,χ⟩ (λhc=>?_) (λhc b' cap' hb hc1 hc2=>?_)
  ·have hc:l.length+1<=cap:=hc;have hcm:(l.length+1)*ie.size<=cap*ie.size:=Fa9 _ hc;rw[Fdu]at hcm;have e1:zp ((rws f l).flatten++L) (l.length*ie.size) [f x].flatten=(rws f (l++[x])).flatten++L.drop ie.size:=by
    rw[Gd hfl,happ];simp[hf x]
   have:=h b cap (L.drop ie.size) (.inr ⟨cap,rfl⟩) θ (by rw[hl,Fdu,Fcq];omega) h3;rw[hl,<-e1]at this;exact this
  ·have hc1:l.length+1<=cap':=hc1;have e1:((rws f l).flatten++L).take (l.length*ie.size)++[f x].flatten++List.replicate ((cap'-(l.length+1))*ie.size) .any=(rws f (l++[x])).flatten++List.replicate ((cap'-(l.length+1))*ie.size) .any:=by
    rw[Fb2 θ,Fcd θ,happ];simp
   have:=h b' cap' (List.replicate ((cap'-(l.length+1))*ie.size) .any) (.inl hb) θ (by rw[hl,Fa5,<-Fcw];exact Fa9 _ θ) hc2;rw[hl,<-e1]at this;exact this
end
theorem Bb(u:Unt):(zn u).length=10:=rfl
theorem R1(u:Unt):∀y∈zn u,∃x,y=AV.s x/\qw x=true:=by intro y hy;simp[zn]at hy;rcases hy with rfl|rfl|rfl|rfl|rfl|rfl|rfl|rfl|rfl|rfl<;>exact⟨_,rfl,rfl⟩
def xk(w:Wld)(v:AV):List AV:=[int w.tick,int w.players,int w.next,int w.G.W,int w.G.H,ya w.G.T,lst 6 zi w.B,v]
theorem Hc{l:List Unt}(hr:yl l){a b:Nat}(hab:a<b)(hb:b<l.length):(l[a]'θ).id<l[b].id:=by
 induction b with
 |zero=>omega
 |succ b ih=>
  have h3:=hr (b+1) hb θ;simp only[Fd4]at h3;by_cases e:a=b
  ·subst e;exact h3
  ·have:=ih θ θ;omega
theorem Aa{i:TI}{A:Fr}{st:Store}{b o:Nat}{v:AV}{xs l:List AV}{K:Fr->Store->Prop}(hc:cellsOf v=some xs)(h1:xs.all AV.one=true)(hi:i.size=xs.length)(ho:st.obj b=some (.cells l))(hl:o+xs.length<=l.length)
  (hk:K A (st.sO b (.cells (zp l o xs)))):Db i A st (.av (.s (.pointer (some ⟨b,o,none⟩)))) v K:=by
 unfold Db;rw[hc];show(bif Nat.beq xs.length i.size&&(xs.all AV.one)then _ else False);rw[hi];simp only[h1,Fbr,Fdj,cond_true];rw[ho];exact⟨hl,Hq hk⟩
theorem O3(k:Int):24576<=zx k/\zx k<=81920:=by unfold zx;split<;>(try split)<;>omega
theorem Pt{g:Gnd}(hg:zt g){l:List Bld}{c:Int}{p:Vc}{k:Int}(h:Cl g l c p (zx k)):(24576<=p.1/\p.1+24576<=g.W*65536)/\(24576<=p.2/\p.2+24576<=g.H*65536)/\(p.1<=8388608/\p.2<=8388608):=by have h1:=h.1;have h2:=O3 k;obtain⟨⟨_,h3⟩,⟨_,h4⟩,_⟩:=hg;omega
def Bd(g:Gnd)(p:Vc):Nat:=(p.1/65536+g.W*(p.2/65536)).toNat
theorem sf{g:Gnd}(hg:zt g){p:Vc}(h:(0<=p.1/\p.1<g.W*65536)/\(0<=p.2/\p.2<g.H*65536)):
  ((Bd g p:Nat):Int)=p.1/65536+g.W*(p.2/65536)/\Bd g p<g.T.length/\((Bd g p:Nat):Int)%g.W=p.1/65536/\((Bd g p:Nat):Int)/g.W=p.2/65536:=by
 have hs:=Kj hg (x:=p.1/65536) (y:=p.2/65536) θ θ;have ha:=qm hg;unfold Bd;generalize p.1/65536=x at*;generalize p.2/65536=y at*;have e:((x+g.W*y).toNat:Int)=x+g.W*y:=θ;rw[e];exact⟨rfl,θ,hs.2.2.1,hs.2.2.2⟩
theorem ACalls.frozen{P:Program}{f:FuncId}{xs:List AV}{Q:Ja}{R:AV->Prop}(h:ACalls P f xs Store.empty Q)
  (hQ:∀r S,Q r S->∃r2,R r2/\∀(Oth M:Nat->Nat->Prop) (w:World) (v:Value),StoreOK S Oth M w->VRel w (λb o=>M b o\/Oth b o) r v->VRel w (λb o=>(M b o\/Oth b o)/\S.obj b=none) r2 v):
  ACalls P f xs Store.empty λr _=>R r:=by
 refine⟨λOth M w vs sto hr=>?_⟩;have h1:=h.out Oth M w vs sto hr;have key:∀v w',qy Store.empty Q Oth M w v w'->qy Store.empty (λr _=>R r) Oth M w v w':=by
  rintro v w' ⟨r,S,M',hq,hv,hs,hc⟩;obtain⟨r2,hr2,hk⟩:=hQ r S hq;refine⟨r2,Store.empty,λb o=>M' b o/\S.obj b=none,hr2,(hk Oth M' w' v hs hv).mono λb o hT=>?_,?_,?_⟩
  ·rcases hT with⟨h1,h2⟩|h1
   ·exact⟨.inl h1,h2⟩
   ·refine⟨.inr h1,?_⟩;cases hb:S.obj b with
    |none=>rfl
    |some y=>exact absurd ((hs.obj b y hb).2 o) (hs.dis b o h1)
  ·exact{obj:=λb x hx=>θa,tok:=λb x hx=>θa,mlt:=λb o hm=>hs.mlt b o hm.1,olt:=hs.olt,dis:=λb o ho hm=>hs.dis b o ho hm.1}
  ·exact{size:=hc.size,keep:=hc.keep,blk:=hc.blk,shp:=hc.shp,sub:=λb o hm hb=>hc.sub b o hm.1 hb,tape:=hc.tape,os:=hc.os,output:=hc.output}
 generalize(callFunc f vs).run P w=res at h1;cases res with
 |ok n w'=>
  cases n with
  |enter g args=>exact Calls.mono h1 λe w'' ⟨v,he,hv⟩=>⟨v,he,key _ _ hv⟩
  |value v=>exact key _ _ h1
  |_=>exact h1
 |_=>exact h1
theorem ACalls.frozenTo{P:Program}{f:FuncId}{xs:List AV}{st0:Store}{Q:Ja}{R:Ja}(h:ACalls P f xs st0 Q)
    (hQ:∀r S,Q r S->∃r2 S2,R r2 S2/\(∀b x,S2.obj b=some x->S.obj b=some x)/\(∀b x,S2.tok b≠some x)∧
      ∀(Oth M:Nat->Nat->Prop) (w:World) (v:Value),StoreOK S Oth M w->VRel w (λb o=>M b o\/Oth b o) r v->VRel w (λb o=>(M b o\/Oth b o)/\(S.obj b=none\/S2.obj b≠none)) r2 v):
    ACalls P f xs st0 R:=by
  refine⟨λOth M w vs sto hr=>?_⟩;have h1:=h.out Oth M w vs sto hr;have key:∀v w',qy st0 Q Oth M w v w'->qy st0 R Oth M w v w':=by
    rintro v w' ⟨r,S,M',hq,hv,hs,hc⟩;obtain⟨r2,S2,hr2,hsub,htok,hk⟩:=hQ r S hq;have hT:∀b o,((M' b o/\(S.obj b=none\/S2.obj b≠none))\/Oth b o)->(M' b o\/Oth b o):=λb o h=>h.imp (·.1) id;refine⟨r2,S2,λb o=>M' b o/\(S.obj b=none\/S2.obj b≠none),hr2,(hk Oth M' w' v hs hv).mono λb o hT=>?_,?_,?_⟩
    · rcases hT with⟨h1,h2⟩|h1
      · exact⟨.inl h1,h2⟩
      · refine⟨.inr h1,?_⟩
        cases hb:S.obj b with
        |none=>exact .inl rfl
        |some y=>exact absurd ((hs.obj b y hb).2 o) (hs.dis b o h1)
    · exact { obj:=λb x hx=>⟨(hs.obj b x (hsub b x hx)).1.mono hT,λo=>⟨(hs.obj b x (hsub b x hx)).2 o,.inr (by rw[hx];simp)⟩⟩
              tok:=λb x hx=>absurd hx (htok b x),mlt:=λb o hm=>hs.mlt b o hm.1,olt:=hs.olt,dis:=λb o ho hm=>hs.dis b o ho hm.1}
    · exact{size:=hc.size,keep:=hc.keep,blk:=hc.blk,shp:=hc.shp,sub:=λb o hm hb=>hc.sub b o hm.1 hb,tape:=hc.tape,os:=hc.os,output:=hc.output}
  generalize(callFunc f vs).run P w=res at h1;cases res with
  | ok n w'=>
    cases n with
    |enter g args=>exact Calls.mono h1 λe w'' ⟨v,he,hv⟩=>⟨v,he,key _ _ hv⟩
    |value v=>exact key _ _ h1
    |_=>exact h1
  |_=>exact h1
def Mb(a:Option Addr):Prop:=∀x,a=some x->x.spot=none
section
variable {P:Program} {c:Cfg} {st:Store}
theorem zgq{e:TypeId}{ie:TI}(hie:c.I e=some ie){a:Option Addr}{x:AV}{rows:List (List AV)}(hx:Ab ie.size (.av x)=some rows)(hroom:room rows.length ie.bytes)(hne:0<rows.length){K:Ja}
  (h2:∀b' cap',Fresh st b'->rows.length<=cap'->cap'<=9223372036854775807->K (.s (.slice (some ⟨b',0,none⟩) rows.length cap')) (st.sO b' (.cells (rows.flatten++List.replicate ((cap'-rows.length)*ie.size) .any)))):
  AppX P c st e (.s (.slice a 0 0)) x K:=by
 refine⟨⟨ie,hie⟩,λie' hie' Oth M w sv xv argTypes ty args t sto hs hxv hat ht1 hu hti h0 h1'=>?_⟩;rw[hie]at hie';cases hie';have hs:=VRel.eq_s hs;subst hs;have A:AppArgs P c argTypes args t e ie a 0 0 xv:=⟨hat,ht1,hu,hti,h0,h1'⟩
 obtain⟨hl1,hl2,new,hnew,hone,hnsz,hfc⟩:=Ma (P:=P) (β:=λ_=>0) (k:=ie.size) (x:=.av x) hxv hx;obtain⟨newCap,rest,g1,g0,g2,g3⟩:=Lo (old:=#[]) ty A hl1 (hfc w.drew rfl) (by cases a<;>simp[Builtin.firstCells,loadCells,loadCellsFrom]) θ (by simpa using hroom);have gd:Grow w w.drew:=Grow.drew w;have sto1:=sto.grow gd;obtain⟨f1,f2,f3⟩:=Hg sto1 (#[]++new++rest) e (l:=rows.flatten++List.replicate rest.size .any) (by
  rw[Fbf,Fbf];refine((show Reads w _ rows.flatten ([]++new.toList)from hnew).append ⟨φ,λi x y hx hy=>?_⟩).keep (gd.keeps _);rw[Fb1]at hx;split at hx
  ·cases hx;exact .any _
  ·cases hx)
 rw[g2]at f2;simp only[Fbi]at g1 g3 f2;exact⟨_,_,g3,_,_,_,h2 _ newCap f1 g1 g0,.s _,f2,(gd.chg M).trans f3⟩
theorem zgs{e:TypeId}{ie:TI}(hie:c.I e=some ie){x:AV}{rows:List (List AV)}(hx:Ab ie.size (.av x)=some rows)(hroom:room rows.length ie.bytes){K:Ja}
  (h1:rows=[]->∀a,Mb a->K (.s (.slice a 0 0)) st)
  (h2:0<rows.length->∀b' cap',Fresh st b'->rows.length<=cap'->cap'<=9223372036854775807->K (.s (.slice (some ⟨b',0,none⟩) rows.length cap')) (st.sO b' (.cells (rows.flatten++List.replicate ((cap'-rows.length)*ie.size) .any)))):
  AppX P c st e .emp x K:=by
 refine⟨⟨ie,hie⟩,λie' hie' Oth M w sv xv argTypes ty args t sto hs hxv hat ht1 hu hti h0 h1'=>?_⟩;cases hs with
 |emp a ha=>
  by_cases hr:0<rows.length
  ·exact(zgq hie hx hroom hr (h2 hr)).out ie' hie' Oth M w _ xv argTypes ty args t sto (.s _) hxv hat ht1 hu hti h0 h1'
  ·rw[hie]at hie';cases hie';have hr0:rows=[]:=Far θ;subst hr0;have A:AppArgs P c argTypes args t e ie a 0 0 xv:=⟨hat,ht1,hu,hti,h0,h1'⟩
   obtain⟨hl1,hl2,new,hnew,hone,hnsz,hfc⟩:=Ma (P:=P) (β:=λ_=>0) (k:=ie.size) (x:=.av x) hxv hx;have hn0:new.toList=[]:=θh;have hrun:=Nw (w':=w) ty A hl1 (hfc w rfl) φ (λb hb=>by rw[hn0];simp[storeCells]) (λ_=>rfl);exact⟨_,_,hrun,_,_,M,h1 rfl a ha,.s _,sto,Chg.refl M w⟩
end
def RowsQ{α:Type}(k:Nat)(f:α->List AV)(st:Store)(v:AV)(l:List α):Prop:=
 RowsO k f st v l\/∃a,Mb a/\v=.s (.slice a 0 0)/\l=[]
section
variable {α:Type} {f:α->List AV} {k:Nat}
theorem RowsQ.un{a g:Store}{v:AV}{l:List α}(h:RowsQ k f g v l):RowsQ k f (a.un g) v l:=h.imp (·.un) id
theorem RowsQ.unL{a g:Store}{v:AV}{l:List α}(h:RowsQ k f a v l)(hd:zh a g):RowsQ k f (a.un g) v l:=h.imp (·.unL hd) id
theorem RowsQ.form{st:Store}{v:AV}{l:List α}(h:RowsQ k f st v l):∃oa cap,v=.s (.slice oa l.length cap)/\∀i,i<l.length->∃b L,oa=some ⟨b,0,none⟩/\st.obj b=some (.cells ((rws f l).flatten++L)):=by
 rcases h with(⟨rfl,rfl⟩|⟨b,cap,L,rfl,ho,_⟩)|⟨a,_,rfl,rfl⟩
 ·simp_all
 ·grind
 simp_all
theorem RowsQ.borrow{st:Store}{v:AV}{l:List α}(hf:∀x,(f x).length=k)(hs:∀x,∀y∈f x,∃u,y=AV.s u/\qw u=true)(hv:RowsQ k f st v l){Oth M:Nat->Nat->Prop}{w:World}(sto:StoreOK st Oth M w){x:Value}(hx:VRel w (λb o=>M b o\/Oth b o) v x):
  VRel w (λb o=>(M b o\/Oth b o)/\st.obj b=none) (lst k f l) x:=by
 rcases hv with hv|⟨a,ha,rfl,rfl⟩
 ·exact hv.borrow hf hs sto hx
 ·cases hx;exact .nil k a
theorem RowsQ.sub{S S2:Store}{v:AV}{l:List α}(h:RowsQ k f S v l)(hk:∀b n c,v=.s (.slice (some ⟨b,0,none⟩) n c)->S2.obj b=S.obj b):RowsQ k f S2 v l:=by
 rcases h with(h|⟨b,cap,L,rfl,ho,h2⟩)|h
 ·exact .inl (.inl h)
 ·exact .inl (.inr ⟨b,cap,L,rfl,by rw[hk b _ _ rfl];exact ho,h2⟩)
 ·exact .inr h
theorem Hv{P:Program}{c:Cfg}{e:TypeId}{ie:TI}(hie:c.I e=some ie)(hf:∀x,(f x).length=ie.size)(hby:ie.bytes<=1000){st:Store}{v:AV}{l:List α}(hv:RowsQ ie.size f st v l)(x:α){src:AV}(hsrc:Ab ie.size (.av src)=some [f x])(hlen:l.length<=1000000000){K:Ja}
  (h:∀b cap L,(Fresh st b\/∃c0,0<c0/\v=.s (.slice (some ⟨b,0,none⟩) l.length c0))->(l++[x]).length<=cap->cap*ie.size<=(l++[x]).length*ie.size+L.length->cap<=9223372036854775807->
   K (.s (.slice (some ⟨b,0,none⟩) (l++[x]).length cap)) (st.sO b (.cells ((rws f (l++[x])).flatten++L)))):appendK P c st e (.av v) (.av src) K:=by
 refine⟨.inr ⟨v,_,rfl,rfl,?_⟩⟩;have hl:(l++[x]).length=l.length+1:=φ;have hfl:=wj hf l;have hmul:(l.length+1)*ie.bytes<=1000000001*1000:=Fdr θ hby;have happ:(rws f (l++[x])).flatten=(rws f l).flatten++f x:=by rw[H9];show _++(f x++[])=_;rw[Fbn]
 have empty:∀a:Option Addr,l=[]->v=.s (.slice a 0 0)->AppX P c st e v src K:=λa hl0 hva=>by subst hl0 hva;refine zgq hie hsrc ⟨χ,φ⟩ φ (λb' cap' hb hc hc2=>?_);have:=h b' cap' (List.replicate ((cap'-[f x].length)*ie.size) .any) (.inl hb) (by simpa using hc) (by simp only[Fa5,Fdh,Fas,<-Fcw];grind) hc2;exact this
 rcases hv with(⟨hv,hl0⟩|⟨b,cap,L,rfl,ho,h1,h2,h3⟩)|⟨a,ha,hv,hl0⟩
 ·exact empty _ hl0 hv
 ·refine ph hie (cap:=cap) ho δ h1 hsrc ⟨χ,χ⟩ (λhc=>?_) (λhc b' cap' hb hc1 hc2=>?_)
  ·have hc:l.length+1<=cap:=hc;have hcm:(l.length+1)*ie.size<=cap*ie.size:=Fa9 _ hc;rw[Fdu]at hcm;have e1:zp ((rws f l).flatten++L) (l.length*ie.size) [f x].flatten=(rws f (l++[x])).flatten++L.drop ie.size:=by grind[Gd]
   have:=h b cap (L.drop ie.size) (.inr ⟨cap,θ,rfl⟩) θ (by grind[Nat.succ_mul]) h3;grind
  ·have hc1:l.length+1<=cap':=hc1;have e1:((rws f l).flatten++L).take (l.length*ie.size)++[f x].flatten++List.replicate ((cap'-(l.length+1))*ie.size) .any=(rws f (l++[x])).flatten++List.replicate ((cap'-(l.length+1))*ie.size) .any:=by
    rw[Fb2 θ,Fcd θ,happ];simp
   have:=h b' cap' (List.replicate ((cap'-(l.length+1))*ie.size) .any) (.inl hb) θ (by rw[hl,Fa5,<-Fcw];exact Fa9 _ θ) hc2;rw[hl,<-e1]at this;exact this
 ·exact empty _ hl0 hv
theorem Rm{P:Program}{c:Cfg}{e:TypeId}{ie:TI}(hie:c.I e=some ie)(hf:∀x,(f x).length=ie.size)(hby:ie.bytes<=1000){st:Store}{l:List α}(hlen:l.length<=1000000000){K:Ja}
  (h:∀v N,RowsQ ie.size f N v l->zh N st->K v (N.un st)):appendK P c st e (.av .emp) (.av (lst ie.size f l)) K:=by
 refine⟨.inr ⟨_,_,rfl,rfl,?_⟩⟩;have hmul:l.length*ie.bytes<=1000000000*1000:=Fdr θ hby;refine zgs hie (rows:=rws f l) (by simp[Ab,lst]) ⟨θf,θf⟩ (λhr a ha=>?_) (λhr b cap hb hc hc2=>?_)
 ·have hl:l=[]:=by
   have:=congrArg List.length hr;rw[zj]at this;exact Far this
  subst hl;have:=h (.s (.slice a 0 0)) Store.empty (.inr ⟨a,ha,rfl,rfl⟩) (λb hb=>(hb.elim (λh=>h rfl) (λh=>h rfl):False).elim)
  rwa [Ag]at this
 ·rw[zj]at hc⊢;have:=h (.s (.slice (some ⟨b,0,none⟩) l.length cap)) (Store.empty.sO b (.cells ((rws f l).flatten++List.replicate ((cap-l.length)*ie.size) .any))) (.inl (.inr ⟨b,cap,_,rfl,zd _ _ _,hc,by
   simp only[Fa5,<-Fcw];exact Fa9 _ θ,hc2⟩)) (λi hi hs=>by
    have:i=b:=Decidable.byContradiction λhne=>by
     rcases hi with hi|hi
     ·rw[zg hne]at hi;exact hi rfl
     ·exact hi rfl
    subst this;exact fresh_iff.1 hb hs)
  have e:(Store.empty.sO b (.cells ((rws f l).flatten++List.replicate ((cap-l.length)*ie.size) .any))).un st=st.sO b (.cells ((rws f l).flatten++List.replicate ((cap-l.length)*ie.size) .any)):=by rw[<-Gb (fresh_iff.1 hb),Ag]
  rw[e]at this;exact this
end
section
variable {w:Wld} {v:AV} {k p:Nat} {S:Store}
theorem py{st:Store}(hv:RowsQ 10 zn st v w.U){Oth M:Nat->Nat->Prop}{W:World}(sto:StoreOK st Oth M W){x:Value}(hx:VRel W (λb o=>M b o\/Oth b o) (.agg (xk w v)) x):
  VRel W (λb o=>(M b o\/Oth b o)/\st.obj b=none) (.agg (zo w)) x:=by
 cases hx with
 |agg _ c hl hc=>
  refine .agg _ c hl λi x y hx hy=>?_
  match i with
  |0=>simp only[zo,Fag,Faf]at hx;subst hx;exact xg (hc 0 _ y rfl hy)
  |1=>simp only[zo,Fan,Fag,Faf]at hx;subst hx;exact xg (hc 1 _ y rfl hy)
  |2=>simp only[zo,Fan,Fag,Faf]at hx;subst hx;exact xg (hc 2 _ y rfl hy)
  |3=>simp only[zo,Fan,Fag,Faf]at hx;subst hx;exact xg (hc 3 _ y rfl hy)
  |4=>simp only[zo,Fan,Fag,Faf]at hx;subst hx;exact xg (hc 4 _ y rfl hy)
  |5=>simp only[zo,Fan,Fag,Faf]at hx;subst hx;exact xg (hc 5 _ y rfl hy)
  |6=>simp only[zo,Fan,Fag,Faf]at hx;subst hx;exact xg (hc 6 _ y rfl hy)
  |7=>simp only[zo,Fan,Fag,Faf]at hx;subst hx;exact hv.borrow Bb R1 sto (hc 7 _ y rfl hy)
  |i+8=>simp[zo]at hx
def j5(v:AV)(p:Nat):Prop:=∀b n c,v=.s (.slice (some ⟨b,0,none⟩) n c)->0<c->b≠p
theorem RowsQ.set{α:Type}{f:α->List AV}{l:List α}(h:RowsQ k f S v l)(hp:j5 v p)(x:AObj):RowsQ k f (S.sO p x) v l:=by
 rcases h with(h|⟨b,cap,L,rfl,ho,h2,h3⟩)|h
 ·exact .inl (.inl h)
 ·by_cases hc:0<cap
  ·exact .inl (.inr ⟨b,cap,L,rfl,by rw[zg (hp b _ _ rfl hc)];exact ho,h2,h3⟩)
  ·have h0:cap=0:=θ;subst h0;have hl:l=[]:=Far θ;subst hl;exact .inr ⟨_,λx hx=>by cases hx;rfl,rfl,rfl⟩
 ·exact .inr h
theorem Kx{α:Type}{f:α->List AV}{l:List α}(h:RowsQ k f S v l)(hp:S.obj p=none):j5 v p:=by
 rcases h with(⟨rfl,rfl⟩|⟨b,cap,L,rfl,ho,h2⟩)|⟨a,ha,rfl,rfl⟩
 ·intro b n c e;simp at e
 ·intro b' n c e _;simp only[AV.s.injEq,Value.slice.injEq,Faf,Addr.mk.injEq]at e;obtain⟨⟨rfl,_⟩,_⟩:=e;intro e2;subst e2;rw[hp]at ho;cases ho
 ·intro b n c e hc;simp only[AV.s.injEq,Value.slice.injEq]at e;omega
def spU(w:Wld)(c:Cmd):Unt:=⟨w.next,c.P,c.N,(c.X,c.Y),-1,-1,0,0,0⟩
def spW(w:Wld)(c:Cmd):Wld:={w with U:=w.U++[spU w c],next:=w.next+1}
def I0(w:Wld):Prop:=4096<=w.U.length\/1099511627776<=w.next
open Classical in
noncomputable def spE(w:Wld)(c:Cmd):Int:=if I0 w then 4 else if qu w 0 c.N (c.X,c.Y)then 0 else 5
open Classical in
noncomputable def doE(E:Wld->Cmd->Int)(w:Wld)(c:Cmd):Int:=if¬z7 w\/¬Ai c\/w.players<c.P then 1 else E w c
open Classical in
noncomputable def doW(E:Wld->Cmd->Int)(W:Wld->Cmd->Wld)(w:Wld)(c:Cmd):Wld:=if doE E w c=0 then W w c else w
theorem zex{E:Wld->Cmd->Int}{c:Cmd}(h:¬z7 w\/¬Ai c\/w.players<c.P):doE E w c=1:=by unfold doE;rw[if_pos h]
theorem zew{E:Wld->Cmd->Int}{c:Cmd}(h1:z7 w)(h2:Ai c)(h3:c.P<=w.players):doE E w c=E w c:=by
 unfold doE;rw[if_neg];rintro(h|h|h)
 ·exact h h1
 ·exact h h2
 ·omega
theorem zeu{E:Wld->Cmd->Int}{W:Wld->Cmd->Wld}{c:Cmd}(h:doE E w c=0):doW E W w c=W w c:=by unfold doW;rw[if_pos h]
theorem m9{E:Wld->Cmd->Int}{W:Wld->Cmd->Wld}{c:Cmd}(h:doE E w c≠0):doW E W w c=w:=by unfold doW;rw[if_neg h]
end
structure Scr where
 W:Wld
 L:List Cmd
def fe(s:Scr):List AV:=[int s.W.tick,int s.W.players,int s.W.next,int s.W.G.W,int s.W.G.H,ya s.W.G.T,lst 6 zi s.W.B,lst 10 zn s.W.U,lst 10 yz s.L]
end Go.V
namespace Go.V
section
variable {id P:Int} {i:Nat} {w:Wld}
def allE(f:Int->Int):List Int->Int
 |[]=>0
 |a::l=>if f a=0 then allE f l else f a
theorem pk{f:Int->Int}:∀{l:List Int},(∀j,(h:j<l.length)->f l[j]=0)->allE f l=0
 |[],_=>rfl
 |a::l,h=>by have h0:=h 0 φ;simp only[Fcp]at h0;unfold allE;rw[if_pos h0];exact pk λj hj=>by have:=h (j+1) χ;simpa using this
theorem pj{f:Int->Int}:∀{l:List Int} {i:Nat} (hi:i<l.length),(∀j,(h:j<l.length)->j<i->f l[j]=0)->f l[i]≠0->allE f l=f l[i]
 |[],i,hi,_,_=>absurd hi (Fa3 i)
 |a::l,0,hi,_,h=>by simp_all[allE]
 |a::l,i+1,hi,h,h2=>by have h0:=h 0 φ θ;simp only[Fcp]at h0;simp only[List.getElem_cons_succ]at h2⊢;unfold allE;rw[if_pos h0];exact pj (by simpa using hi) (λj hj hji=>by have:=h (j+1) χ θ;simpa using this) h2
theorem Lp{f:Int->Int}:∀{l:List Int},allE f l=0->∀a∈l,f a=0
 |[],_,a,ha=>by cases ha
 |b::l,h,a,ha=>by
  unfold allE at h;by_cases hb:f b=0
  ·rw[if_pos hb]at h;rcases Fa6.1 ha with rfl|ha
   ·exact hb
   ·exact Lp h a ha
  grind
def qq(l:List Unt)(id:Int):Option Nat:=l.findIdx? λu=>decide (u.id=id)
def C9:Unt:=⟨0,0,0,(0,0),0,0,0,0,0⟩
theorem Li{l:List Unt}(h:qq l id=some i):∃hi:i<l.length,l[i].id=id:=by unfold qq at h;rw[Fbb]at h;grind
theorem yoj{l:List Unt}(h:qq l id=none):∀u∈l,u.id≠id:=by grind[qq]
theorem Pw{l:List Unt}(hr:yl l)(hi:i<l.length)(e:l[i].id=id):qq l id=some i:=by
 cases h:qq l id with
 |none=>grind[yoj]
 |some k=>
  obtain⟨hk,e2⟩:=Li h;by_cases h1:k<i
  ·have:=Hc hr h1 hi;omega
  ·by_cases h2:i<k
   ·have:=Hc hr h2 hk;omega
   ·rw[show k=i by omega]
def uAt(w:Wld)(id:Int):Unt:=match qq w.U id with|none=>C9|some i=>w.U.getD i C9
def j2(w:Wld)(P id:Int):Int:=match qq w.U id with|none=>3|some i=>if(w.U.getD i C9).owner=P then(if(w.U.getD i C9).inn=0 then 0 else 9)else 6
theorem R2(h:qq w.U id=some i):∃hi:i<w.U.length,w.U[i].id=id/\uAt w id=w.U[i]:=by grind[Li,uAt]
theorem o7(h:qq w.U id=none):j2 w P id=3/\uAt w id=C9:=by simp_all[j2,uAt]
theorem zgl(h:qq w.U id=some i)(hi:i<w.U.length):j2 w P id=if w.U[i].owner=P then(if w.U[i].inn=0 then 0 else 9)else 6:=by grind[j2]
theorem I6(h:j2 w P id=0):∃i,∃hi:i<w.U.length,qq w.U id=some i/\w.U[i].id=id/\uAt w id=w.U[i]/\w.U[i].owner=P/\w.U[i].inn=0:=by
 cases hf:qq w.U id with
 |none=>grind[o7]
 |some i=>
  obtain⟨hi,e,e2⟩:=R2 hf;rw[zgl hf hi]at h;grind
theorem rv(hn:∀u∈w.U,u.pos.ok)(id:Int):(uAt w id).pos.ok:=by
 cases hf:qq w.U id with
 |none=>rw[(o7 (P:=0) hf).2];trivial
 |some i=>
  obtain⟨hi,e,e2⟩:=R2 hf;grind
def Gf(u:Unt):Unt:={u with goal:=-1,next:=-1,stuck:=0,state:=0}
def qs(l:List Int)(g:Unt->Unt)(U:List Unt):List Unt:=U.map λu=>if u.id∈l then g u else u
theorem Sh(g:Unt->Unt)(U:List Unt):qs [] g U=U:=by unfold qs;simp
theorem Dc(l:List Int)(g:Unt->Unt)(U:List Unt):(qs l g U).length=U.length:=by unfold qs;rw[Fap]
theorem Sj{l:List Int}{g:Unt->Unt}{U:List Unt}(hi:i<U.length):(qs l g U)[i]'(by rw[Dc];exact hi)=if U[i].id∈l then g U[i]else U[i]:=by unfold qs;rw[Fbw]
theorem Si{l:List Int}{g:Unt->Unt}(hg:∀u,(g u).id=u.id){U:List Unt}(hi:i<U.length):((qs l g U)[i]'(by rw[Dc];exact hi)).id=U[i].id:=by grind[Sj]
theorem fa{l:List Int}{g:Unt->Unt}(hg:∀u,(g u).id=u.id){U:List Unt}(hr:yl U):yl (qs l g U):=by
 intro i hi h0;have hi2:i<U.length:=by rw[Dc]at hi;exact hi
 rw[Si hg hi2,Si hg (show i-1<U.length by omega)];exact hr i hi2 h0
theorem ud{l:List Int}{g:Unt->Unt}{U:List Unt}(hr:yl U)(hi:i<U.length):(qs l g U).set i (g U[i])=qs (l++[U[i].id]) g U:=by
 apply Fcs
 ·rw[Faz,Dc,Dc]
 intro j h1 h2;have hj:j<U.length:=by rw[Dc]at h2;exact h2
 rw[Sj hj,Fcr];by_cases e:i=j
 ·grind
 ·rw[if_neg e,Sj hj];have hne:U[j].id≠U[i].id:=by
   by_cases h:i<j
   ·have:=Hc hr h hj;omega
   ·have:=Hc hr (show j<i by omega) hi;omega
  grind
def stW(w:Wld)(c:Cmd):Wld:={w with U:=qs c.U Gf w.U}
def stE(w:Wld)(c:Cmd):Int:=allE (j2 w c.P) c.U
theorem yek{α:Type}{f:α->List AV}{k:Nat}(hf:∀x,(f x).length=k){U:List α}(hi:i<U.length)(x:α)(J:List AV):zp ((rws f U).flatten++J) (i*k) (f x)=(rws f (U.set i x)).flatten++J:=by have:=th (j:=0) (ys:=f x) (L:=J) (x':=x) hf hi (by rw[hf];omega) (by simp_all[zp]);grind
end
section
variable {P:Program} {c:Cfg} {st:Store}
structure SrcOK(P:Program)(st:Store)(k m:Nat)(x:AV)(xs:List AV):Prop where
  out:∀(Oth M:Nat->Nat->Prop) (w:World) (xv:Value),StoreOK st Oth M w->VRel w (λb o=>M b o\/Oth b o) x xv->
    (Builtin.lenOf xv).run P w=.ok m w/\∃new:Array Value,Reads w (λb o=>M b o\/Oth b o) xs new.toList/\(∀v∈new.toList,qw v=true)/\new.size=m*k/\∀w',w'.heap=w.heap->(Builtin.firstCells k m xv).run P w'=.ok new w'
theorem SrcOK.obj{k m o b cp:Nat}{l:List AV}(ho:st.obj b=some (.cells l))(hl:o+m*k<=l.length)(h1:∀y∈(l.drop o).take (m*k),y.one=true):SrcOK P st k m (.s (.slice (some ⟨b,o,none⟩) m cp)) ((l.drop o).take (m*k)):=by
  refine⟨λOth M w xv sto hxv=>?_⟩;have hxv:=VRel.eq_s hxv;subst hxv;obtain⟨cs,e,fr,hb,_,hlen,hrel⟩:=(sto.obj b _ ho).1;have hreads:Reads w (λb o=>M b o\/Oth b o) ((l.drop o).take (m*k)) ((List.range' 0 (m*k)).map λi=>cs.getD (o+i) undef):=by refine⟨χ,λi x y hx hy=>?_⟩;have hi:i<m*k:=δ;rw[Fb5 hi,Fcu]at hx;simp[hi]at hy;grind
  refine⟨by simp[Builtin.lenOf],((List.range' 0 (m*k)).map λi=>cs.getD (o+i) undef).toArray,by simpa using hreads,by simpa using zbh hreads h1,φ,λw' hw=>?_⟩;have:=Mg (P:=P) ⟨b,o,none⟩ w' (λi=>cs.getD (o+i) undef) (m*k) 0 #[] (λp hp0 hp=>by rw[wx,ls hw];simp only[World.cell?,hb];have:o+p<cs.size:=θ;simp[this]);grind[Builtin.firstCells,loadCells]
theorem zgp{e:TypeId}{ie:TI}(hie:c.I e=some ie){b n cap:Nat}{l:List AV}{x:AV}{m:Nat}{xs:List AV}(ho:st.obj b=some (.cells l))(hcap:cap*ie.size<=l.length)(hn:n<=cap)
    (hx:SrcOK P st ie.size m x xs) (hroom:room (n+m) ie.bytes) {K:Ja}
    (h1:n+m<=cap->K (.s (.slice (some ⟨b,0,none⟩) (n+m) cap)) (st.sO b (.cells (zp l (n*ie.size) xs))))
    (h2:cap<n+m->∀b' cap',Fresh st b'->n+m<=cap'->cap'<=9223372036854775807->K (.s (.slice (some ⟨b',0,none⟩) (n+m) cap')) (st.sO b' (.cells (l.take (n*ie.size)++xs++List.replicate ((cap'-(n+m))*ie.size) .any)))):
    AppX P c st e (.s (.slice (some ⟨b,0,none⟩) n cap)) x K:=by
  refine⟨⟨ie,hie⟩,λie' hie' Oth M w sv xv argTypes ty args t sto hs hxv hat ht1 hu hti h0 h1'=>?_⟩;rw[hie]at hie';cases hie';have hs:=VRel.eq_s hs;subst hs;have A:AppArgs P c argTypes args t e ie (some ⟨b,0,none⟩) n cap xv:=⟨hat,ht1,hu,hti,h0,h1'⟩
  obtain⟨hl1,new,hnew,hone,hnsz,hfc⟩:=hx.out Oth M w xv sto hxv;have hnn:n*ie.size<=l.length:=Fbv (Fa9 _ hn) hcap;by_cases hc:n+m<=cap
  · obtain⟨⟨cs,e0,fr,hb0,huf,hlen,hrel⟩,hM⟩:=sto.obj b _ ho
    have hfit:n*ie.size+new.toList.length<=cs.size:=by rw[Fco,hnsz,<-Fcw,<-hlen];exact Fbv (Fa9 _ hc) hcap
    obtain⟨w',hw1,hw2⟩:=Kq (P:=P) w b (n*ie.size) new.toList 0 w cs e0 fr hb0 (.inl huf) hfit hone;have hrun:=Nw (w':=w') ty A hl1 (hfc w rfl) hc (λa ha=>by cases ha;rw[wx,Fbi];exact hw1) (λh=>ω);obtain⟨k1,k2⟩:=Co sto ho hnew hw2;exact⟨_,_,hrun,_,_,M,h1 hc,.s _,k1,k2⟩
  · have hc:cap<n+m:=θ
    obtain⟨old,hold1,hold2,hold3⟩:=zd2 (P:=P) (cap:=cap) (sto.obj b _ ho).1 hnn;obtain⟨newCap,rest,g1,g0,g2,g3⟩:=Lo ty A hl1 (hfc w.drew rfl) (hold3 w.drew rfl) hc hroom;have gd:Grow w w.drew:=Grow.drew w;have sto1:=sto.grow gd;obtain⟨f1,f2,f3⟩:=Hg sto1 (old++new++rest) e (l:=l.take (n*ie.size)++xs++List.replicate rest.size .any) (by
      rw[Fbf,Fbf];refine((hold1.append hnew).append ⟨φ,λi x y hx hy=>?_⟩).keep (gd.keeps _);rw[Fb1]at hx;split at hx
      · cases hx;exact .any _
      · cases hx)
    have e1:w.drew.heap.size=w.heap.size:=rfl;rw[g2]at f2;exact⟨_,_,g3,_,_,_,h2 hc _ newCap f1 g1 g0,.s _,f2,(gd.chg M).trans f3⟩
end
section
variable {P:Program} {c:Cfg} {st:Store}
theorem ysd{e:TypeId}{ie:TI}(hie:c.I e=some ie){a:Option Addr}{x:AV}{m:Nat}{xs:List AV}(hx:SrcOK P st ie.size m x xs)(hroom:room m ie.bytes)(hne:0<m){K:Ja}
    (h2:∀b' cap',Fresh st b'->m<=cap'->cap'<=9223372036854775807->K (.s (.slice (some ⟨b',0,none⟩) m cap')) (st.sO b' (.cells (xs++List.replicate ((cap'-m)*ie.size) .any)))):
    AppX P c st e (.s (.slice a 0 0)) x K:=by
  refine⟨⟨ie,hie⟩,λie' hie' Oth M w sv xv argTypes ty args t sto hs hxv hat ht1 hu hti h0 h1'=>?_⟩;rw[hie]at hie';cases hie';have hs:=VRel.eq_s hs;subst hs;have A:AppArgs P c argTypes args t e ie a 0 0 xv:=⟨hat,ht1,hu,hti,h0,h1'⟩
  obtain⟨hl1,new,hnew,hone,hnsz,hfc⟩:=hx.out Oth M w xv sto hxv;obtain⟨newCap,rest,g1,g0,g2,g3⟩:=Lo (old:=#[]) ty A hl1 (hfc w.drew rfl) (by cases a<;>simp[Builtin.firstCells,loadCells,loadCellsFrom]) θ (by simpa using hroom);have gd:Grow w w.drew:=Grow.drew w;have sto1:=sto.grow gd;obtain⟨f1,f2,f3⟩:=Hg sto1 (#[]++new++rest) e (l:=xs++List.replicate rest.size .any) (by
    rw[Fbf,Fbf];refine((show Reads w _ xs ([]++new.toList)from hnew).append ⟨φ,λi x y hx hy=>?_⟩).keep (gd.keeps _);rw[Fb1]at hx;split at hx
    · cases hx;exact .any _
    · cases hx)
  rw[g2]at f2;simp only[Fbi]at g1 g3 f2;exact⟨_,_,g3,_,_,_,h2 _ newCap f1 g1 g0,.s _,f2,(gd.chg M).trans f3⟩
theorem zg1{o:Oper}{cl:Call}{t e:TypeId}{x:Operand}(ho:o.op=.call cl)(hcl:cl.callee=.builtin .clear)(hargs:cl.args=#[x])(hat:cl.argTypes[0]?=some t)
    {it ie:TI} (hit:c.I t=some it) (hty:it.ty=.slice e) (hie:c.I e=some ie) {b off m cap:Nat} {l:List AV} (hm:m=1) (hb:st.obj b=some (.cells l)) (hn:off+ie.size<=l.length) (hone:∀v∈ie.zero,qw v=true)
    {R:Ja} (h:R (.tup []) (st.sO b (.cells (zp l off (ie.zero.map AV.s))))):AEff P c o [.s (.slice (some ⟨b,off,none⟩) m cap)] st R:=by
  subst hm;refine⟨λOth M w ρ hI sto hr=>?_⟩;have hops:o.op.operands=#[x]:=ψl;rw[hops]at hr;have hr:Reads w (λb o=>M b o\/Oth b o) [.s (.slice (some ⟨b,off,none⟩) 1 cap)] [ρ x]:=by simpa using hr
  obtain⟨u,he,h1⟩:=Kr hr;simp only[Fcf,and_true]at he;rw[<-he]at h1;have h1:=VRel.eq_s h1;have ht:=ja (hI _ _ hit) hty;have hie:=hI _ _ hie;obtain⟨⟨cs,e0,fr,hb0,huf,hlen,hrel⟩,hM⟩:=sto.obj b _ hb;obtain⟨z,hz1,hz2⟩:=Mf (P:=P) hie w;have hzs:z.cells.size=ie.size:=by rw[<-hie.zsz,<-hz2];simp
  have hzc:(Builtin.zeroCells z.cells 1).toList=ie.zero:=by
    rw[<-hz2];unfold Builtin.zeroCells;apply Fcs
    · simp
    grind[Nat.mod_eq_of_lt]
  obtain⟨w',hw1,hw2⟩:=Kq (P:=P) w b off ie.zero 0 w cs e0 fr hb0 (.inl huf) δ hone;have hund:=yn (P:=P) ht;have hrun:(execOp ρ o).run P w=.ok (.value (.tuple #[])) w':=by simp[execOp,ho,resolve,hcl,invoke,builtin,hargs,Builtin.clear_,hat,hund,h1,hz1,hzc,hw1]
  rw[hrun];obtain⟨k1,k2⟩:=Co sto hb (Reads.map_s (w:=w) (T:=λb o=>M b o\/Oth b o) ie.zero) (by trivial);exact⟨_,_,M,h,vx Reads.nil,k1,k2⟩
theorem ysy{o:Oper}{t e:TypeId}{x lo hi mx:Operand}(ho:o.op=.slice t x (some lo) (some hi) (some mx)){it ie:TI}(hit:c.I t=some it)(hty:it.ty=.slice e)(hie:c.I e=some ie)
    {b off len cap i j m:Nat} {k k' k'':IntKind} (h1:i<=j) (h2:j<=m) (h3:m<=cap) (h4:i<m) {R:Ja} (h:R (.s (.slice (some ⟨b,off+i*ie.size,none⟩) (j-i) (m-i))) st):
    AEff P c o [.s (.slice (some ⟨b,off,none⟩) len cap),.s (.int k (i:Int)),.s (.int k' (j:Int)),.s (.int k'' (m:Int))] st R:=by
  refine⟨λOth M w ρ hI sto hr=>?_⟩;have hops:o.op.operands=#[x,lo,hi,mx]:=by rw[ho];simp[Op.operands]
  rw[hops]at hr;have hr:Reads w (λb o=>M b o\/Oth b o) [.s (.slice (some ⟨b,off,none⟩) len cap),.s (.int k (i:Int)),.s (.int k' (j:Int)),.s (.int k'' (m:Int))] [ρ x,ρ lo,ρ hi,ρ mx]:=by simpa using hr
  have e1:=VRel.eq_s (hr.2 0 _ (ρ x) rfl rfl);have e2:=VRel.eq_s (hr.2 1 _ (ρ lo) rfl rfl);have e3:=VRel.eq_s (hr.2 2 _ (ρ hi) rfl rfl);have e4:=VRel.eq_s (hr.2 3 _ (ρ mx) rfl rfl);have ht:=ja (hI _ _ hit) hty;have hie:=hI _ _ hie;have hm:¬m=i:=θ;have hund:=yn (P:=P) ht;have hrun:(execOp ρ o).run P w=.ok (.value (.slice (some ⟨b,off+i*ie.size,none⟩) (j-i) (m-i))) w:=by simp[execOp,ho,e1,e2,e3,e4,Instr.sliceAt,Instr.slice,hund,Instr.sliceBounds,Instr.sliceBound,asIntOf,h1,h2,h3,kh hie,hm,wx]
  rw[hrun];exact⟨_,st,M,h,.s _,sto,Chg.refl _ _⟩
end
section
variable {α:Type} {f:α->List AV} {k:Nat}
end
theorem yl8{g:Gnd}(hg:zt g){t:Nat}(ht:(t:Int)<g.W*g.H){p:Vc}(hp:qt p.1 p.2){r:Int}(hr:0<r/\r<=81920)(h:jz g t p r):near (tx g t+32768,ty g t+32768) p 147456=true:=by
 have hb:=L5 hg ht;obtain⟨h3,h4⟩:=hp;rw[ic ζ ζ θ θ ψ];dsimp only;unfold jz at h;have o1:0<=off p.1 (tx g t):=θ8;have o2:0<=off p.2 (ty g t):=θ8;have d1:-(32768+off p.1 (tx g t))<=tx g t+32768-p.1/\tx g t+32768-p.1<=32768+off p.1 (tx g t):=θ8;have d2:-(32768+off p.2 (ty g t))<=ty g t+32768-p.2/\ty g t+32768-p.2<=32768+off p.2 (ty g t):=θ8;generalize off p.1 (tx g t)=ex at*;generalize off p.2 (ty g t)=ey at*;generalize tx g t+32768-p.1=dx at*;generalize ty g t+32768-p.2=dy at*;have hrr:r*r<=81920*81920:=Fbc hr.2 hr.2 θ ψ;have ex2:=Faw o1 o1;have ey2:=Faw o2 o2;have bx:ex<81920:=Ok o1 ψ θ;have by':ey<81920:=Ok o2 ψ θ;have sq:∀d m:Int,0<=m->-m<=d->d<=m->d*d<=m*m:=λd m hm h1 h2=>by
  by_cases hd:0<=d
  ·exact Fbc h2 h2 hd hm
  ·have:(-d)*(-d)<=m*m:=Fbc θ θ θ hm
   rwa [Int.neg_mul_neg]at this
 have s1:=sq dx (32768+ex) θ d1.1 d1.2;have s2:=sq dy (32768+ey) θ d2.1 d2.2;have e1:(32768+ex)*(32768+ex)=1073741824+65536*ex+ex*ex:=by rw[Int.add_mul,Fd2,Fd2,Fdf ex 32768];omega
 have e2:(32768+ey)*(32768+ey)=1073741824+65536*ey+ey*ey:=by rw[Int.add_mul,Fd2,Fd2,Fdf ey 32768];omega
 rw[e1]at s1;rw[e2]at s2;refine decide_eq_true ?_;omega
instance(a b:Bld):Decidable (vo a b):=inferInstanceAs (Decidable (_/\_))
def bdB(w:Wld)(c:Cmd):Bld:=⟨w.next,c.P,c.T.tmod w.G.W,c.T.tdiv w.G.W,c.W,c.H⟩
open Classical in
noncomputable def xt(g:Gnd)(l:List Bld)(b:Bld):Int:=if¬onP g b then 3 else if∃x∈l,vo x b then 12 else if¬Fa g b then 5 else if 256<=l.length then 4 else 0
def K7(w:Wld)(b:Bld):Prop:=∃t:Nat,((t:Int)<w.G.W*w.G.H/\wu w.G b t)/\∃u∈w.U,u.inn=0/\jz w.G t u.pos (zx u.kind)
open Classical in
noncomputable def bdE(w:Wld)(c:Cmd):Int:=if¬(0<=c.T/\c.T<w.G.W*w.G.H)then 3 else if 1099511627776<=w.next then 4 else if xt w.G w.B (bdB w c)=0 then(if K7 w (bdB w c)then 5 else 0)else xt w.G w.B (bdB w c)
def bdW(w:Wld)(c:Cmd):Wld:={w with B:=w.B++[bdB w c],next:=w.next+1}
def yry:Bld:=⟨0,0,0,0,0,0⟩
def Gx(l:List Bld)(id:Int):Option Nat:=l.findIdx? λb=>decide (b.id=id)
def drE(w:Wld)(c:Cmd):Int:=match Gx w.B c.N with|none=>3|some i=>if(w.B.getD i yry).owner=c.P then 0 else 6
def drW(w:Wld)(c:Cmd):Wld:=match Gx w.B c.N with|none=>w|some i=>{w with B:=w.B.eraseIdx i}
section
variable {k i:Nat}
theorem zej{α:Type}{f:α->List AV}(hf:∀x,(f x).length=k){l:List α}(hi:i<l.length)(L:List AV):
  zp ((rws f l).flatten++L) (i*k) (rws f (l.drop (i+1))).flatten=(rws f (l.eraseIdx i)).flatten++(f l[l.length-1]++L):=by
 have e1:(rws f l).flatten++L=(rws f (l.take i)).flatten++((rws f (l.drop i)).flatten++L):=by grind[H9,List.take_append_drop]
 have h1:(rws f (l.take i)).flatten.length=i*k:=by grind[wj,List.length_take]
 rw[e1,Gd h1,List.eraseIdx_eq_take_drop_succ,H9];simp only[Fao]
 congr 1
 congr 1
 have h2:(rws f (l.drop (i+1))).flatten.length=(l.length-(i+1))*k:=by rw[wj hf,Fcq]
 have e2:l.drop i=(l.drop i).dropLast++[l[l.length-1]]:=by have hne:l.drop i≠[]:=θh;grind[List.dropLast_concat_getLast]
 have e3:(rws f (l.drop i)).flatten=(rws f (l.drop i).dropLast).flatten++f l[l.length-1]:=by
  conv=>lhs;rw[e2]
  rw[H9];show _++(f _++[])=_;rw[Fbn]
 have h3:(rws f (l.drop i).dropLast).flatten.length=(l.length-(i+1))*k:=by
  rw[wj hf,List.length_dropLast,Fcq]
  congr 1
 grind
theorem zek{α:Type}{l:List α}(hi:i<l.length):(l.eraseIdx i).length=l.length-1:=δ
theorem zeq{α:Type}{f:α->List AV}(hf:∀x,(f x).length=k){l:List α}(hi:i<=l.length)(L:List AV):(((rws f l).flatten++L).drop (i*k)).take ((l.length-i)*k)=(rws f (l.drop i)).flatten:=by
 have e1:(rws f l).flatten++L=(rws f (l.take i)).flatten++((rws f (l.drop i)).flatten++L):=by grind[H9,List.take_append_drop]
 have h1:(rws f (l.take i)).flatten.length=i*k:=by grind[wj,List.length_take]
 have h2:(rws f (l.drop i)).flatten.length=(l.length-i)*k:=by rw[wj hf,Fcq]
 grind
end
section
variable {r P N:Int} {w:Wld}
def Fx(m r:Int):Prop:=0<=r/\r<=9223372036854775807/\r*r<=m/\(r=9223372036854775807\/m<(r+1)*(r+1))
theorem yky{m:Int}(h:Fx m r){k:Int}(hk:0<=k)(hk2:k<9223372036854775807):k<r↔(k+1)*(k+1)<=m:=by
 obtain⟨h0,h1,h2,h3⟩:=h;constructor
 ·intro hkr;exact Int.le_trans (Fbc (show k+1<=r by omega) (show k+1<=r by omega) θ h0) h2
 ·intro hm;refine Int.not_le.1 λhle=>?_;rcases h3 with h3|h3
  ·omega
  ·have:=Fbc (show r+1<=k+1 by omega) (show r+1<=k+1 by omega) θ θ;omega
theorem ykx{m r':Int}(h:Fx m r)(h':Fx m r'):r=r':=by
 obtain⟨h0,h1,h2,h3⟩:=h;obtain⟨g0,g1,g2,g3⟩:=h';have a:¬r<r':=λhlt=>by
  rcases h3 with h3|h3
  ·omega
  ·have:=Fbc (show r+1<=r' by omega) (show r+1<=r' by omega) θ g0;omega
 have b:¬r'<r:=λhlt=>by
  rcases g3 with h3|h3
  ·omega
  ·have:=Fbc (show r'+1<=r by omega) (show r'+1<=r by omega) θ h0;omega
 omega
def Gy(p q:Vc):Prop:=17180131329<=sqr (xc p q)
instance(p q:Vc):Decidable (Gy p q):=inferInstanceAs (Decidable (_<=_))
theorem yeu{p q:Vc}(h:Fx (sqr (xc p q)) r):131072<r↔Gy p q:=by have:=yky h (k:=131072) ψ ψ;unfold Gy;exact this
def Aj(w:Wld)(P N:Int):Int:=if j2 w P N=0 then(if jh (uAt w N).kind=0 then 7 else 0)else j2 w P N
def Ms(x u:Unt):Int:=if 0<jh u.kind then 7 else if Gy u.pos x.pos then 8 else 0
def ldA(w:Wld)(P N id:Int):Int:=if j2 w P id=0 then Ms (uAt w N) (uAt w id)else j2 w P id
def ldE(w:Wld)(c:Cmd):Int:=if Aj w c.P c.N=0 then(if allE (ldA w c.P c.N) c.U=0 then(if jh (uAt w c.N).kind<((z8 w.U c.N).length:Int)+(c.U.length:Int)then 4 else 0)else allE (ldA w c.P c.N) c.U)else Aj w c.P c.N
def ldU(n:Int)(u:Unt):Unt:={u with pos:=(0,0),goal:=-1,next:=-1,stuck:=0,inn:=n,state:=0}
def ldW(w:Wld)(c:Cmd):Wld:={w with U:=qs c.U (ldU c.N) w.U}
theorem zcs{id:Int}(h:ldA w P N id=0):j2 w P id=0/\Ms (uAt w N) (uAt w id)=0:=by unfold ldA at h;grind
theorem oi(h:Aj w P N=0):j2 w P N=0/\jh (uAt w N).kind≠0:=by unfold Aj at h;grind
theorem yll(hm:z7 w){i:Nat}(hi:i<w.U.length)(h0:w.U[i].id≠0):((z8 w.U w.U[i].id).length:Int)<=jh w.U[i].kind:=by
 have hr:yl w.U:=hm.1.2.1;cases hl:z8 w.U w.U[i].id with
 |nil=>simp_all[Mv]
 |cons a l=>
  have ha:a∈z8 w.U w.U[i].id:=by rw[hl];simp
  unfold z8 at ha;obtain⟨u,hu,_⟩:=Fai.1 ha;obtain⟨hu,he⟩:=Fbx.1 hu;have he:u.inn=w.U[i].id:=by simpa using he
  obtain⟨x,hx,e1,_,e3,_⟩:=hm.2.2 u hu (by rw[he];exact h0);obtain⟨k,hk,rfl⟩:=Faj hx;have hki:k=i:=by
   by_cases h1:k<i
   ·have:=Hc hr h1 hi;omega
   ·by_cases h2:i<k
    ·have:=Hc hr h2 hk;omega
    ·omega
  grind
theorem yhv{n:Int}{q m:Nat}(h0:0<=n)(h1:n<2^m)(h2:n+q*2^m<18446744073709551616):jk .or .u64 (q*2^m) n=q*2^m+n:=by
 obtain⟨a,rfl⟩:=Fbl h0;have e:((q:Int)*2^m)=((q*2^m:Nat):Int):=φ;have h1':a<2^m:=by exact_mod_cast h1
 rw[e]at h2⊢;have h3:a+q*2^m<18446744073709551616:=θ;rw[(ot (q*2^m) a θ θ).2,Nat.or_comm,ig a q m h1',Cp θ θ];simp;omega
theorem zzs{k:Nat}(hk:k<=62):IntKind.u64.wrap (1*2^(min ((k:Int)).toNat IntKind.u64.bits))=2^k:=by
 have:(min ((k:Int)).toNat IntKind.u64.bits)=k:=by show min ((k:Int)).toNat 64=k;omega
 rw[this,Int.one_mul];have h:(2:Int)^k<=2^62:=by exact_mod_cast Nat.pow_le_pow_right ψ hk
 grind[Cp]
def Ib(m r:Int)(k:Nat):Prop:=∃q:Nat,r=q*2^k/\r+2^k<=9223372036854775808/\r*r<=m/\(m<(r+2^k)*(r+2^k)\/r+2^k=9223372036854775808)
theorem yew{m:Int}(hm:0<=m):Ib m 0 63:=⟨0,φ,ψ,by simpa using hm,.inr ψ⟩
theorem yey{m:Int}(h:Ib m r 0):Fx m r:=by obtain⟨q,e,h1,h2,h3⟩:=h;have e1:(2:Int)^0=1:=rfl;rw[e1]at h1 h3 e;exact⟨θ,θ,h2,h3.symm.imp (λh=>θ) id⟩
theorem yez{m:Int}{k:Nat}(h:Ib m r (k+1)):jk .or .u64 r (2^k)=r+2^k/\0<=r/\(0:Int)<2^k/\r+2^k<9223372036854775808:=by obtain⟨q,e,h1,h2,h3⟩:=h;grind[yhv]
theorem yex{m:Int}{k:Nat}(h:Ib m r (k+1))(hn:m<(r+2^k)*(r+2^k)):Ib m r k:=by obtain⟨q,e,h1,h2,h3⟩:=h;have e2:(2:Int)^(k+1)=2*2^k:=δ;have h0:(0:Int)<2^k:=Int.pow_pos ψ;rw[e2]at h1;refine⟨2*q,?_,θ,h2,.inl hn⟩;grind
theorem yev{m:Int}{k:Nat}(h:Ib m r (k+1))(hn:(r+2^k)*(r+2^k)<=m):Ib m (r+2^k) k:=by obtain⟨q,e,h1,h2,h3⟩:=h;have e2:(2:Int)^(k+1)=2*2^k:=δ;have h0:(0:Int)<2^k:=Int.pow_pos ψ;rw[e2]at h1 h3;have e3:r+2^k+2^k=r+2*2^k:=θ;refine⟨2*q+1,?_,θ,hn,by rw[e3];exact h3⟩;grind
end
section
variable {t i:Nat} {w:Wld} {tile id:Int} {u:Unt}
def qc(g:Gnd)(t:Nat):Vc:=(tx g t+32768,ty g t+32768)
theorem Rf{g:Gnd}(hg:zt g)(ht:t<g.T.length):(qc g t).ok:=by have ha:=qm hg;have:=L5 hg (t:=t) θ;unfold qc Vc.ok yg;dsimp only;omega
def qr(w:Wld)(k tile:Int)(n:Nat):List Nat:=Mc w.G (yf w.G w.B (qi k) (kj k)) (kj k) tile n
theorem tq(g:Gnd)(f:Nat->Bool)(x y k:Int):∀d t,t∈wi g f x y k d->t<g.T.length/\f t=true
 |0,t,h=>ω
 |d+1,t,h=>by
  rcases Fat.1 (show t∈wi g f x y k d++Cu g f x y k d from h)with h|h
  ·exact tq g f x y k d t h
  ·unfold Cu Gh at h;obtain⟨h1,h2⟩:=Fbx.1 h;exact⟨Fbe.1 (Fbx.1 h1).1,h2⟩
theorem ez{k:Int}{n:Nat}(h:t∈qr w k tile n):t<w.G.T.length/\yf w.G w.B (qi k) (kj k) t=true:=tq _ _ _ _ _ _ _ (Fcl h)
theorem zzj(w:Wld)(k tile:Int)(n:Nat):(qr w k tile n).length<=n:=by grind[qr,Mc]
open Classical in
noncomputable def Dg(w:Wld)(u:Unt)(tile:Int):Option Nat:=(qr w u.kind tile 64).find? λt=>decide (qu w u.id u.kind (qc w.G t))
open Classical in
theorem yhn{j:Nat}(hj:j<(qr w u.kind tile 64).length)(hno:∀i,(h:i<(qr w u.kind tile 64).length)->i<j->¬qu w u.id u.kind (qc w.G (qr w u.kind tile 64)[i]))(hy:qu w u.id u.kind (qc w.G (qr w u.kind tile 64)[j])):Dg w u tile=some (qr w u.kind tile 64)[j]:=by unfold Dg;rw[List.find?_eq_some_iff_getElem];grind
open Classical in
theorem yho(hno:∀i,(h:i<(qr w u.kind tile 64).length)->¬qu w u.id u.kind (qc w.G (qr w u.kind tile 64)[i])):Dg w u tile=none:=by unfold Dg;rw[List.find?_eq_none];intro t ht;obtain⟨i,hi,rfl⟩:=Faj ht;grind
open Classical in
theorem zbd(h:Dg w u tile=some t):t∈qr w u.kind tile 64/\qu w u.id u.kind (qc w.G t):=by unfold Dg at h;grind
def Ds(u:Unt)(p:Vc):Unt:={u with pos:=p,inn:=0}
noncomputable def unl(tile:Int):List Int->Wld->Option Wld
 |[],w=>some w
 |id::l,w=>match qq w.U id with
  |none=>none
  |some i=>match Dg w (w.U.getD i C9) tile with
   |none=>none
   |some t=>unl tile l {w with U:=w.U.set i (Ds (w.U.getD i C9) (qc w.G t))}
theorem dk{l:List Int}(hi:i<w.U.length)(hf:qq w.U id=some i)(ho:Dg w w.U[i] tile=none):unl tile (id::l) w=none:=by show(match qq w.U id with|none=>none|some i=>_)=_;grind
theorem di{l:List Int}(hi:i<w.U.length)(hf:qq w.U id=some i)(ho:Dg w w.U[i] tile=some t):unl tile (id::l) w=unl tile l {w with U:=w.U.set i (Ds w.U[i] (qc w.G t))}:=by show(match qq w.U id with|none=>none|some i=>_)=_;grind
open Classical in
noncomputable def ulE(w:Wld)(c:Cmd):Int:=
 if Aj w c.P c.N=0 then
  (if 0<=c.T/\c.T<w.G.W*w.G.H then
   (if Gy (qc w.G c.T.toNat) (uAt w c.N).pos then 8 else(match unl c.T (z8 w.U c.N) w with|none=>5|some _=>0))
  else 3)
 else Aj w c.P c.N
noncomputable def ulW(w:Wld)(c:Cmd):Wld:=(unl c.T (z8 w.U c.N) w).getD w
def Fb(L:List Ent)(u:Unt):List Ent:=if u.inn=0 then qn L u.id++[(u.id,u.pos)]else qn L u.id
theorem yo7(L:List Ent)(u:Unt):(Fb L u).length<=L.length+1:=by grind[qn,Fb]
theorem yo6{L:List Ent}(hok:∀e∈L,e.2.ok)(hp:u.pos.ok):∀e∈Fb L u,e.2.ok:=λe he=>by grind[Fb,mem_dropId]
theorem zbl{L:List Ent}(hF:D3 w L)(hr:yl w.U)(hi:i<w.U.length)(hid:w.U[i].id=u.id):D3 {w with U:=w.U.set i u} (Fb L u):=by
 have old:∀e,e∈qn L u.id↔∃j,∃hj:j<w.U.length,j≠i/\w.U[j].inn=0/\e=(w.U[j].id,w.U[j].pos):=λe=>by
  rw[mem_dropId,hF e];constructor
  ·rintro⟨⟨x,hx,h0,rfl⟩,hne⟩;obtain⟨j,hj,rfl⟩:=Faj hx;grind
  ·rintro⟨j,hj,hji,h0,rfl⟩;refine⟨⟨w.U[j],Faa hj,h0,rfl⟩,λe=>hji ?_⟩;have e:w.U[j].id=u.id:=e;by_cases h1:j<i
   ·have:=Gg hr h1 hi;omega
   ·by_cases h2:i<j
    ·have:=Gg hr h2 hj;omega
    ·omega
 intro e;have key:(∃y∈w.U.set i u,y.inn=0/\e=(y.id,y.pos))↔(u.inn=0/\e=(u.id,u.pos))\/∃j,∃hj:j<w.U.length,j≠i/\w.U[j].inn=0/\e=(w.U[j].id,w.U[j].pos):=by
  constructor
  ·rintro⟨y,hy,h0,he⟩;obtain⟨j,hj,rfl⟩:=Faj hy;grind
  ·rintro(⟨h0,he⟩|⟨j,hj,hji,h0,he⟩)
   ·exact⟨u,List.mem_set hi u,h0,he⟩
   ·refine⟨w.U[j],?_,h0,he⟩;have hj2:j<(w.U.set i u).length:=by grind
    have:(w.U.set i u)[j]=w.U[j]:=δ;grind
 grind[Fb]
theorem zbm{L:List Ent}(hn:(L.map (·.1)).Nodup)(hF:D3 w L):L.length<=w.U.length:=by have:=Fbp (l₂:=w.U.map (·.id)) hn (λid hid=>by obtain⟨e,he,rfl⟩:=Fai.1 hid;obtain⟨u,hu,_,rfl⟩:=(hF e).1 he;grind);grind
theorem Sx{U:List Unt}(hr:yl U)(hi:i<U.length)(hid:U[i].id=u.id):yl (U.set i u):=by intro j hj h0;rw[Faz]at hj;have:=hr j hj h0;grind
theorem yoi{U:List Unt}(hr:yl U)(hi:i<U.length)(hid:U[i].id=u.id)(id:Int):qq (U.set i u) id=qq U id:=by
 have id':∀k,(hk:k<U.length)->((U.set i u)[k]'δ).id=U[k].id:=λk hk=>δ;cases h:qq U id with
 |some k=>
  grind[Li,Pw,Sx]
 |none=>
  grind[qq]
end
section
variable {w:Wld} {k:Nat} {kd:Int}
def mvG(g:Int)(u:Unt):Unt:={u with goal:=g,next:=-1,stuck:=0,state:=1}
def Di(w:Wld)(c:Cmd)(k:Nat)(kd:Int):Int:=match(qr w kd c.T c.U.length)[k]? with|some t=>(t:Int)|none=>c.T
def mvL(w:Wld)(c:Cmd):Nat->List Unt
 |0=>w.U
 |k+1=>match qq w.U (c.U.getD k 0)with
  |some i=>(mvL w c k).set i (mvG (Di w c k (w.U.getD i C9).kind) (w.U.getD i C9))
  |none=>mvL w c k
def mvE(w:Wld)(c:Cmd):Int:=if 0<=c.T/\c.T<w.G.W*w.G.H then allE (j2 w c.P) c.U else 3
def mvW(w:Wld)(c:Cmd):Wld:={w with U:=mvL w c c.U.length}
theorem zby{c:Cmd}{i:Nat}(hk:k<c.U.length)(hf:qq w.U c.U[k]=some i)(hi:i<w.U.length):mvL w c (k+1)=(mvL w c k).set i (mvG (Di w c k w.U[i].kind) w.U[i]):=by show(match qq w.U (c.U.getD k 0)with|some i=>_|none=>_)=_;rw[show c.U.getD k 0=c.U[k] by simp[Fbk,hk],hf];dsimp only;rw[show w.U.getD i C9=w.U[i] by simp[Fbk,hi]]
theorem Cx(w:Wld)(c:Cmd):∀k,(mvL w c k).length=w.U.length
 |0=>rfl
 |k+1=>by
  show(match qq w.U (c.U.getD k 0)with|some i=>_|none=>_:List Unt).length=_;cases qq w.U (c.U.getD k 0)with
  |none=>exact Cx w c k
  |some i=>dsimp only;rw[Faz];exact Cx w c k
theorem V2(w:Wld)(c:Cmd):∀k j,(hj:j<w.U.length)->mvG 0 ((mvL w c k)[j]'(by rw[Cx];exact hj))=mvG 0 w.U[j]
 |0,j,hj=>rfl
 |k+1,j,hj=>by
  have ih:=V2 w c k j hj;have key:∀L:List Unt,(hL:j<L.length)->L=mvL w c (k+1)->mvG 0 L[j]=mvG 0 w.U[j]:=λL hL e=>by
   have e2:mvL w c (k+1)=(match qq w.U (c.U.getD k 0)with
    |some i=>(mvL w c k).set i (mvG (Di w c k (w.U.getD i C9).kind) (w.U.getD i C9))
    |none=>mvL w c k):=rfl
   rw[e2]at e;cases hf:qq w.U (c.U.getD k 0)with
   |none=>rw[hf]at e;subst e;exact ih
   |some i=>
    rw[hf]at e;obtain⟨hi,_⟩:=Li hf;subst e;rw[Fcr];split
    ·rename_i e3;subst e3;rw[show w.U.getD i C9=w.U[i] by simp[Fbk,hi]];rfl
    ·exact ih
  exact key _ (by rw[Cx];exact hj) rfl
theorem K6{a b:Unt}(h:mvG 0 a=mvG 0 b):a.id=b.id/\a.owner=b.owner/\a.kind=b.kind/\a.pos=b.pos/\a.inn=b.inn:=by
 refine⟨?_,?_,?_,?_,?_⟩
 ·have:=congrArg Unt.id h;exact this
 ·have:=congrArg Unt.owner h;exact this
 ·have:=congrArg Unt.kind h;exact this
 ·have:=congrArg Unt.pos h;exact this
 ·have:=congrArg Unt.inn h;exact this
theorem im(w:Wld)(c:Cmd)(k j:Nat)(hj:j<w.U.length):((mvL w c k)[j]'(by rw[Cx];exact hj)).id=w.U[j].id:=(K6 (V2 w c k j hj)).1
theorem ij(hr:yl w.U)(c:Cmd)(k:Nat):yl (mvL w c k):=by intro j hj h0;rw[Cx]at hj;have:=hr j hj h0;rw[im w c k _ θ,im w c k _ hj];exact this
theorem zb0{c:Cmd}{u:Unt}(h:u∈mvL w c k):∃x∈w.U,u.id=x.id/\u.owner=x.owner/\u.kind=x.kind/\u.pos=x.pos/\u.inn=x.inn:=by obtain⟨j,hj,rfl⟩:=Faj h;have hj2:=hj;rw[Cx]at hj2;exact⟨w.U[j],Faa hj2,K6 (V2 w c k j hj2)⟩
theorem zb4{c:Cmd}(h:¬(0<=c.T/\c.T<w.G.W*w.G.H)):mvE w c=3:=by unfold mvE;rw[if_neg h]
theorem zb3{c:Cmd}(h:0<=c.T/\c.T<w.G.W*w.G.H):mvE w c=allE (j2 w c.P) c.U:=by unfold mvE;rw[if_pos h]
theorem zb1{c:Cmd}(h:k<(qr w kd c.T c.U.length).length):Di w c k kd=((qr w kd c.T c.U.length)[k]:Nat):=by unfold Di;rw[Fac h]
theorem zb2{c:Cmd}(h:¬k<(qr w kd c.T c.U.length).length):Di w c k kd=c.T:=by unfold Di;rw[Fby θ]
theorem yka{α:Type}(f:α->AV)(cs:List (Int×α))(k:Int)(z:AV):Ft true z ((cs.map (yu f)).find? (qA k))=match yw cs k with|some v=>.tup [f v,.s (.bool true)]|none=>.tup [z,.s (.bool false)]:=by
 rw[mq];unfold yw;cases cs.find? λe=>k==e.1 with
 |none=>rfl
 |some e=>rfl
end
section
variable {w:Wld}
noncomputable def aE(w:Wld)(c:Cmd):Int:=if c.K=1 then spE w c else if c.K=2 then mvE w c else if c.K=3 then stE w c else if c.K=4 then bdE w c else if c.K=5 then drE w c else if c.K=6 then ldE w c else ulE w c
noncomputable def aW(w:Wld)(c:Cmd):Wld:=if c.K=1 then spW w c else if c.K=2 then mvW w c else if c.K=3 then stW w c else if c.K=4 then bdW w c else if c.K=5 then drW w c else if c.K=6 then ldW w c else ulW w c
theorem a1{c:Cmd}(h:c.K=1):aE w c=spE w c/\aW w c=spW w c:=θm
theorem a2{c:Cmd}(h:c.K=2):aE w c=mvE w c/\aW w c=mvW w c:=θm
theorem a3{c:Cmd}(h:c.K=3):aE w c=stE w c/\aW w c=stW w c:=θm
theorem a4{c:Cmd}(h:c.K=4):aE w c=bdE w c/\aW w c=bdW w c:=θm
theorem a5{c:Cmd}(h:c.K=5):aE w c=drE w c/\aW w c=drW w c:=θm
theorem a6{c:Cmd}(h:c.K=6):aE w c=ldE w c/\aW w c=ldW w c:=θm
theorem a7{c:Cmd}(h:c.K=7):aE w c=ulE w c/\aW w c=ulW w c:=θm
theorem li{c:Cmd}(h:Ai c):c.K=1\/c.K=2\/c.K=3\/c.K=4\/c.K=5\/c.K=6\/c.K=7:=Classical.byContradiction λhn=>by have hn:c.K≠1/\c.K≠2/\c.K≠3/\c.K≠4/\c.K≠5/\c.K≠6/\c.K≠7:=θ;exact Cmd.ok0 hn.1 hn.2.1 hn.2.2.1 hn.2.2.2.1 hn.2.2.2.2.1 hn.2.2.2.2.2.1 hn.2.2.2.2.2.2 h.1
theorem zev{E:Wld->Cmd->Int}{c:Cmd}(h:doE E w c=0):z7 w/\Ai c/\c.P<=w.players/\E w c=0:=by
 have hb:¬(¬z7 w\/¬Ai c\/w.players<c.P):=λhb=>by rw[zex hb]at h;cases h
 have h1:z7 w:=Classical.byContradiction λhh=>hb (.inl hh);have h2:Ai c:=Classical.byContradiction λhh=>hb (.inr (.inl hh));grind[zew]
theorem rq{tile:Int}:∀(l:List Int) (w x:Wld),yl w.U->unl tile l w=some x->x.tick=w.tick/\x.players=w.players/\x.next=w.next/\x.G=w.G/\x.B=w.B/\∃h:x.U.length=w.U.length,∀j,(hj:j<w.U.length)->x.U[j].id=w.U[j].id/\x.U[j].owner=w.U[j].owner/\x.U[j].kind=w.U[j].kind/\(x.U[j]=w.U[j]\/∃t,t<w.G.T.length/\x.U[j].pos=qc w.G t)
 |[],w,x,hr,h=>by have:w=x:=Option.some.inj h;grind
 |id::l,w,x,hr,h=>by
  cases hf:qq w.U id with
  |none=>
   grind[unl]
  |some i=>
   obtain⟨hi,_⟩:=Li hf;cases ho:Dg w w.U[i] tile with
   |none=>rw[dk hi hf ho]at h;cases h
   |some t=>
    rw[di hi hf ho]at h;have ht:=(ez (zbd ho).1).1;obtain⟨h0,h1,h2,h3,h4,h5,h6⟩:=rq l _ x (Sx hr hi (u:=Ds w.U[i] (qc w.G t)) rfl) h;grind[Ds]
theorem ru{c:Cmd}(hr:yl w.U):(ulW w c).tick=w.tick/\(ulW w c).players=w.players/\(ulW w c).next=w.next/\(ulW w c).G=w.G/\(ulW w c).B=w.B/\∃h:(ulW w c).U.length=w.U.length,∀j,(hj:j<w.U.length)->(ulW w c).U[j].id=w.U[j].id/\(ulW w c).U[j].owner=w.U[j].owner/\(ulW w c).U[j].kind=w.U[j].kind/\((ulW w c).U[j]=w.U[j]\/∃t,t<w.G.T.length/\(ulW w c).U[j].pos=qc w.G t):=by
 have key:∀x:Wld,ulW w c=x->x.tick=w.tick/\x.players=w.players/\x.next=w.next/\x.G=w.G/\x.B=w.B/\∃h:x.U.length=w.U.length,∀j,(hj:j<w.U.length)->x.U[j].id=w.U[j].id/\x.U[j].owner=w.U[j].owner/\x.U[j].kind=w.U[j].kind/\(x.U[j]=w.U[j]\/∃t,t<w.G.T.length/\x.U[j].pos=qc w.G t):=λx hx=>by
  unfold ulW at hx;cases h:unl c.T (z8 w.U c.N) w with
  |none=>
   grind
  |some y=>
   grind[rq]
 exact key _ rfl
theorem ue{l:List Int}{g:Unt->Unt}{U:List Unt}{u:Unt}(h:u∈qs l g U):∃x∈U,u=x\/u=g x:=by unfold qs at h;grind
theorem ytd{c:Cmd}(hn:∀u∈w.U,u.pos.ok)(h:doE aE w c=0):∀u∈(aW w c).U,u.pos.ok:=by
 obtain⟨hm,hc,hp,he⟩:=zev h;have z0:Vc.ok (0,0):=by unfold Vc.ok yg;decide
 intro u hu;rcases li hc with k|k|k|k|k|k|k
 ·rw[(a1 k).2]at hu;rcases Fat.1 (show u∈w.U++[spU w c]from hu)with hu|hu
  ·exact hn u hu
  ·rw[Fbt]at hu;subst hu;have:=(Cmd.ok1 k).1 hc.1;have:=this.2;show Vc.ok (c.X,c.Y);grind[qt,Vc.ok,yg]
 ·rw[(a2 k).2]at hu;obtain⟨x,hx,_,_,_,e,_⟩:=zb0 (show u∈mvL w c c.U.length from hu);rw[e];exact hn x hx
 ·rw[(a3 k).2]at hu;obtain⟨x,hx,rfl|rfl⟩:=ue (show u∈qs c.U Gf w.U from hu)
  ·exact hn _ hx
  ·exact hn x hx
 ·rw[(a4 k).2]at hu;exact hn u hu
 ·grind[a5,drW]
 ·rw[(a6 k).2]at hu;obtain⟨x,hx,rfl|rfl⟩:=ue (show u∈qs c.U (ldU c.N) w.U from hu)
  ·exact hn _ hx
  ·exact z0
 ·rw[(a7 k).2]at hu;obtain⟨_,_,_,_,_,hl,hf⟩:=ru (c:=c) hm.1.2.1;obtain⟨j,hj,rfl⟩:=Faj hu;obtain⟨_,_,_,e|⟨t,ht,e⟩⟩:=hf j θ
  ·grind
  ·rw[e];exact Rf hm.1.1.2.1.1 ht
theorem ypg(w:Wld)(c:Cmd):(drW w c).tick=w.tick/\(drW w c).players=w.players/\(drW w c).next=w.next/\(drW w c).G=w.G/\(drW w c).U=w.U/\(drW w c).B.length<=w.B.length:=by unfold drW;grind
end
instance(g:Gnd)(t:Nat)(p:Vc)(r:Int):Decidable (jz g t p r):=by unfold jz;infer_instance
instance(g:Gnd)(b:Bld):Decidable (Fa g b):=by unfold Fa;infer_instance
instance(g:Gnd)(b:Bld):Decidable (onP g b):=by unfold onP;infer_instance
instance(b:Bld):Decidable (yk b):=by unfold yk;infer_instance
instance(a b:Bld):Decidable (vo a b):=by unfold vo;infer_instance
instance(l:List Bld):Decidable (Ow l):=by unfold Ow;infer_instance
instance(l:List Bld):Decidable (cf l):=by unfold cf;infer_instance
instance(g:Gnd):Decidable (zt g):=by unfold zt;infer_instance
instance(g:Gnd)(l:List Bld):Decidable (Hs g l):=by unfold Hs;infer_instance
instance(g:Gnd)(l:List Bld)(c:Int)(p:Vc)(r:Int):Decidable (Cl g l c p r):=by unfold Cl;infer_instance
instance(w:Wld)(id k:Int)(p:Vc):Decidable (qu w id k p):=by unfold qu;infer_instance
instance(k:Int):Decidable (Av k):=by unfold Av;infer_instance
instance(g:Gnd)(t:Int):Decidable (wg g t):=by unfold wg;infer_instance
instance(w:Wld)(u:Unt):Decidable (jx w u):=by unfold jx;infer_instance
instance(w:Wld):Decidable (Iy w):=by unfold Iy;infer_instance
instance(l:List Unt):Decidable (yl l):=by unfold yl;infer_instance
instance(w:Wld):Decidable (Kc w):=by unfold Kc;infer_instance
instance(w:Wld)(u:Unt):Decidable (Bs w u):=by unfold Bs;infer_instance
instance(w:Wld):Decidable (z7 w):=by unfold z7;infer_instance
instance(x y:Int):Decidable (qt x y):=by unfold qt;infer_instance
instance(t:Int):Decidable (we t):=by unfold we;infer_instance
instance(t:Int):Decidable (idP t):=by unfold idP;infer_instance
instance(l:List Int):Decidable (Dt l):=by unfold Dt;infer_instance
instance(w:Wld):Decidable (I0 w):=by unfold I0;infer_instance
def j9(a b:Vc):Vc:=(qg a.1 b.1,qg a.2 b.2)
def vy(v:Vc):Vc:=(nrm v.1,nrm v.2)
def C6(v:Vc)(k:Nat):Vc:=(v.1.tdiv (2^k:Nat),v.2.tdiv (2^k:Nat))
def Sv(m:Int):Nat->Int->Int
 |0,r=>r
 |b+1,r=>Sv m b (if(r+(2^b:Nat))*(r+(2^b:Nat))<=m then r+(2^b:Nat)else r)
def vk(m:Int):Int:=Sv m 63 0
theorem ye0{m:Int}(hm:0<=m):∀(b:Nat) (r:Int),0<=r->r*r<=m->(r+(2^b:Nat)=9223372036854775808\/m<(r+(2^b:Nat))*(r+(2^b:Nat)))->r+(2^b:Nat)<=9223372036854775808->Fx m (Sv m b r):=by
 intro b;induction b with
 |zero=>
  intro r h0 h1 h2 h3;refine⟨h0,?_,h1,?_⟩
  ·simp only[Nat.pow_zero]at h3;show r<=_;omega
  ·show r=_\/_;simp only[Nat.pow_zero]at h2;rcases h2 with h2|h2
   ·exact .inl θ
   ·exact .inr h2
 |succ b ih=>
  intro r h0 h1 h2 h3;have hp:(2^(b+1):Nat)=2^b+2^b:=by rw[Nat.pow_succ];omega
  have hq:0<2^b:=Nat.pow_pos ψ;rw[hp]at h2 h3;generalize hB:2^b=B at*;show Fx m (Sv m b (if _ then _ else _));rw[hB];split
  ·rename_i hle;refine ih (r+(B:Nat)) θ hle ?_ θ;rw[Int.add_assoc,show((B:Nat):Int)+(B:Nat)=((B+B:Nat):Int) by omega];exact h2
  ·rename_i hle;exact ih r h0 h1 (.inr θ) θ
theorem Mi{m:Int}(hm:0<=m):Fx m (vk m):=ye0 hm 63 0 ψ (by simpa using hm) (.inl ψ) ψ
theorem zac{m r:Int}(hm:0<=m)(h:Fx m r):r=vk m:=ykx h (Mi hm)
def Hr(c most long:Int):Int:=if c<0 then -((-c)*most/long)else c*most/long
def j8(v:Vc)(most:Int):Vc:=
 if vk (sqr v)<=max most 0 then vy v else(Hr (nrm v.1) (max most 0) (vk (sqr v)),Hr (nrm v.2) (max most 0) (vk (sqr v)))
def L6(p q:Vc)(speed:Int):Vc:=j8 (xc q p) speed
def Bi(p:Vc)(r:Int)(q:Vc):Vc:=
 if near p q r then j8 (if xc p q=(0,0)then(65536,0)else xc p q) (r-vk (sqr (xc p q)))else(0,0)
instance(w:Wld)(id k:Int)(p:Vc):Decidable (qu w id k p):=by unfold qu Cl;infer_instance
def Bc(w:Wld)(u:Unt)(v:Vc):Nat->Nat->Option (Nat×Vc)
 |0,_=>none
 |n+1,k=>if C6 v k=(0,0)then none else if qu w u.id u.kind (j9 u.pos (C6 v k))then some (k,j9 u.pos (C6 v k))else Bc w u v n (k+1)
def yy(w:Wld)(u:Unt):Wld:={w with U:=w.U.map λx=>if x.id=u.id then u else x}
def Kf(w:Wld)(u:Unt)(v:Vc):Int:=match Bc w u (vy v) 5 0 with|none=>5|some (k,_)=>(k:Int)
def Al(w:Wld)(u:Unt)(v:Vc):Wld:=match Bc w u (vy v) 5 0 with|none=>w|some (_,p)=>yy w {u with pos:=p}
def Iw(w:Wld)(u:Unt):Vc:=w.U.foldl (λv x=>if x.inn=0/\x.id≠u.id then j9 v (Bi u.pos (zx u.kind+zx x.kind+16384) x.pos)else v) (0,0)
def Gt(w:Wld)(u:Unt):Wld:=Al w u (j8 (Iw w u) ((wq u.kind).tdiv 4))
def Cb(s:Int)(u:Unt):Unt:={u with goal:=-1,next:=-1,stuck:=0,state:=s}
def okU(w:Wld)(u:Unt)(t:Nat):Bool:=yf w.G w.B (qi u.kind) (kj u.kind) t
def K9(w:Wld)(u:Unt)(own:Nat):Bool:=
 decide (u.next=-1)||decide (u.pos=qc w.G u.next.toNat)|| !okU w u u.next.toNat||(decide (u.next≠own)&& !(Gp w.G own).contains u.next)
noncomputable def Dh(w:Wld)(u:Unt)(own:Nat):Int:=
 if u.pos≠qc w.G own then own else
  (let way:=jl w.G (okU w u) (qi u.kind) (Ad w.G (okU w u) (qi u.kind) u.goal.toNat) own
   if way<0 then -1 else yr w.G own way.toNat)
def Dw(w:Wld)(u:Unt):Wld:=
 if Kf (yy w {u with stuck:=0}) {u with stuck:=0} (L6 u.pos (qc w.G u.next.toNat) (wq u.kind))<5 then Al (yy w {u with stuck:=0}) {u with stuck:=0} (L6 u.pos (qc w.G u.next.toNat) (wq u.kind))
 else if u.stuck+1=8 then yy w (Cb 4 u)else yy w {u with stuck:=u.stuck+1,next:=-1}
noncomputable def D7(w:Wld)(u:Unt):Wld:=
 if u.pos=qc w.G u.goal.toNat then yy w (Cb 2 u)
 else if K9 w u (Bd w.G u.pos)then
  (if Dh w u (Bd w.G u.pos)<0 then yy w (Cb 3 u)else Dw w {u with next:=Dh w u (Bd w.G u.pos)})
 else Dw w u
noncomputable def Bq(w:Wld)(u:Unt):Wld:=if u.goal=-1 then Gt w u else D7 w u
theorem zgu{g:Gnd}(hg:zt g){l:List Bld}{c c':Int}{p q:Vc}{k k':Int}(hp:Cl g l c p (zx k))(hq:Cl g l c' q (zx k')):vf p (zx k) q (zx k')=vf q (zx k') p (zx k):=by have b1:=Pt hg hp;have b2:=Pt hg hq;grind[vf,ic,zx]
theorem nw{w w':Wld}{id k:Int}{p:Vc}(hG:w'.G=w.G)(hB:w'.B=w.B)(h:∀v∈w'.U,v.inn=0->v.id≠id->∃x∈w.U,x.inn=0/\x.id≠id/\x.pos=v.pos/\x.kind=v.kind)(hc:qu w id k p):qu w' id k p:=by refine⟨by rw[hG,hB];exact hc.1,λv hv h0 hid=>?_⟩;obtain⟨x,hx,e1,e2,e3,e4⟩:=h v hv h0 hid;rw[<-e3,<-e4];exact hc.2 x hx e1 e2
theorem ylm(l:List Unt)(id:Int):z8 l id=((l.map λu=>(u.inn,u.id)).filter λx=>x.1==id).map (·.2):=by unfold z8;rw[List.filter_map,List.map_map];rfl
theorem ylp{U U':List Unt}(hl:U'.length=U.length)(h:∀j,(hj:j<U.length)->(U'[j]'θ).inn=U[j].inn/\(U'[j]'θ).id=U[j].id)(id:Int):z8 U' id=z8 U id:=by grind[ylm,List.ext_getElem,List.length_map]
theorem zae{U U':List Unt}(hl:U'.length=U.length)(h:∀j,(hj:j<U.length)->(U'[j]'θ).id=U[j].id)(hr:yl U):yl U':=by intro j hj h0;rw[hl]at hj;have:=hr j hj h0;grind
theorem yln{l:List Unt}{u:Unt}(hu:u∈l):u.id∈z8 l u.inn:=by unfold z8;grind
theorem iz{w:Wld}(hm:z7 w){U:List Unt}(hl:U.length=w.U.length)(h1:∀j,(hj:j<w.U.length)->mvG 0 (U[j]'θ)=mvG 0 w.U[j])(h2:∀j,(hj:j<w.U.length)->w.U[j].inn≠0->U[j]'θ=w.U[j])(h3:∀j,(hj:j<w.U.length)->jx w (U[j]'θ)):z7 {w with U:=U}:=by
 obtain⟨⟨hh,hr,hu⟩,hc,hd⟩:=hm;have same:=λj hj=>K6 (h1 j hj);have back:∀v∈U,∃j,∃hj:j<w.U.length,v=U[j]'θ:=λv hv=>by obtain⟨j,hj,rfl⟩:=Faj hv;exact⟨j,θ,rfl⟩
 have hin:=ylp hl (λj hj=>⟨(same j hj).2.2.2.2,(same j hj).1⟩);refine⟨⟨⟨hh.1,⟨hh.2.1.1,hh.2.1.2.1,by show U.length<=_;rw[hl];exact hh.2.1.2.2⟩,hh.2.2⟩,zae hl (λj hj=>(same j hj).1) hr,λv hv=>?_⟩,λv hv h0=>?_,λv hv h0=>?_⟩
 ·obtain⟨j,hj,rfl⟩:=back v hv;refine⟨h3 j hj,λb hb=>?_⟩;grind
 ·obtain⟨j,hj,rfl⟩:=back v hv;obtain⟨e1,_,e3,e4,e5⟩:=same j hj;rw[e1,e3,e4];refine nw (w:=w) rfl rfl (λx hx hx0 hxi=>?_) (hc _ (Faa hj) (by rw[<-e5];exact h0));grind
 ·obtain⟨j,hj,rfl⟩:=back v hv;have e5:=(same j hj).2.2.2.2;rw[e5]at h0;rw[h2 j hj h0];obtain⟨x,hx,g1,g2,g3,g4⟩:=hd _ (Faa hj) h0;obtain⟨k,hk,rfl⟩:=Faj hx;obtain⟨f1,f2,f3,f4,f5⟩:=same k hk;refine⟨U[k]'θ,Faa _,by rw[f1];exact g1,⟨by rw[f5];exact g2.1,by rw[f2];exact g2.2⟩,?_,g4⟩;grind
theorem zea{q:Unt->Bool}{x:Unt}(hx:q x=false):∀(U:List Unt) (i:Nat),((U.set i x).filter q).length<=(U.filter q).length
 |[],_=>Fak _
 |a::l,0=>δ
 |a::l,i+1=>by
  rw[List.set_cons_succ,Fdc,Fdc];have:=zea hx l i;split
  ·simp only[Fbd];omega
  ·exact this
theorem zcg{w:Wld}(hm:z7 w){i:Nat}(hi:i<w.U.length){p:Vc}(hp:qu w w.U[i].id w.U[i].kind p):z7 {w with U:=w.U.set i {w.U[i]with pos:=p,inn:=0}}:=by
 obtain⟨⟨hh,hr,hu⟩,hc,hd⟩:=hm;have hg:=hh.2.1.1;have hl:(w.U.set i {w.U[i]with pos:=p,inn:=0}).length=w.U.length:=Faz;have get:∀j,(hj:j<w.U.length)->(w.U.set i {w.U[i]with pos:=p,inn:=0})[j]'θ=if i=j then{w.U[i]with pos:=p,inn:=0}else w.U[j]:=λj hj=>Fcr ..
 have back:∀v∈w.U.set i {w.U[i]with pos:=p,inn:=0},v={w.U[i]with pos:=p,inn:=0}\/∃j,∃hj:j<w.U.length,j≠i/\v=w.U[j]:=λv hv=>by obtain⟨j,hj,rfl⟩:=Faj hv;grind
 have idne:∀j,(hj:j<w.U.length)->j≠i->w.U[j].id≠w.U[i].id:=λj hj hne e=>by
  rcases Nat.lt_trichotomy j i with q|q|q
  ·have:=Gg hr q hi;omega
  ·exact hne q
  ·have:=Gg hr q hj;omega
 have hself:jx w {w.U[i]with pos:=p,inn:=0}/\∀b∈w.B,b.id≠w.U[i].id:=⟨(hu _ (Faa hi)).1,(hu _ (Faa hi)).2⟩
 refine⟨⟨⟨hh.1,⟨hh.2.1.1,hh.2.1.2.1,by show(w.U.set i _).length<=_;rw[hl];exact hh.2.1.2.2⟩,hh.2.2⟩,Sx hr hi rfl,λv hv=>?_⟩,λv hv h0=>?_,λv hv h0=>?_⟩
 ·rcases back v hv with rfl|⟨j,hj,_,rfl⟩
  ·exact hself
  ·exact hu _ (Faa hj)
 ·rcases back v hv with rfl|⟨j,hj,hne,rfl⟩
  ·refine nw (w:=w) rfl rfl (λx hx hx0 hxi=>?_) hp;grind
  ·have hcj:=hc _ (Faa hj) h0;refine⟨hcj.1,λx hx hx0 hxi=>?_⟩;rcases back x hx with rfl|⟨k,hk,_,rfl⟩
   ·have:=hp.2 _ (Faa hj) h0 (idne j hj hne);rw[zgu hg hp.1 hcj.1]at this;exact this
   ·exact hcj.2 _ (Faa hk) hx0 hxi
 ·rcases back v hv with rfl|⟨j,hj,hne,rfl⟩
  ·exact absurd rfl h0
  obtain⟨x,hx,g1,g2,g3,g4⟩:=hd _ (Faa hj) h0;obtain⟨k,hk,rfl⟩:=Faj hx;have hle:((z8 (w.U.set i {w.U[i]with pos:=p,inn:=0}) w.U[j].inn).length:Int)<=jh w.U[k].kind:=by grind[zea,z8]
  by_cases e:k=i
  ·subst e;exact⟨{w.U[k]with pos:=p,inn:=0},List.mem_set hi _,g1,⟨rfl,g2.2⟩,hle,g4⟩
  ·refine⟨w.U[k],?_,g1,g2,hle,g4⟩;grind
theorem zcd{tile:Int}:∀(l:List Int) (w x:Wld),z7 w->unl tile l w=some x->z7 x
 |[],w,x,hm,h=>by have:w=x:=Option.some.inj h;subst this;exact hm
 |id::l,w,x,hm,h=>by
  cases hf:qq w.U id with
  |none=>
   grind[unl]
  |some i=>
   obtain⟨hi,_⟩:=Li hf;cases ho:Dg w w.U[i] tile with
   |none=>rw[dk hi hf ho]at h;cases h
   |some t=>
    rw[di hi hf ho]at h;exact zcd l _ x (zcg hm hi (zbd ho).2) h
section
variable {w:Wld} {i:Nat} {u:Unt} {s:Int}
theorem Kt(hr:yl w.U)(hi:i<w.U.length)(hid:u.id=w.U[i].id):yy w u={w with U:=w.U.set i u}:=by
 unfold yy
 congr 1
 refine Fcs φ λj h1 h2=>?_;have hj:j<w.U.length:=θg;rw[Fbw,Fcr];by_cases e:i=j
 ·subst e;rw[if_pos hid.symm,if_pos rfl]
 ·rw[if_neg e,if_neg];intro hx;rcases Nat.lt_or_gt_of_ne e with h|h
  ·have:=Hc hr h hj;omega
  ·have:=Hc hr h hi;omega
theorem Vj(hr:yl w.U)(hi:i<w.U.length)(hid:u.id=w.U[i].id):∃h2:i<(yy w u).U.length,(yy w u).U[i]=u:=by rw[Kt hr hi hid];exact⟨by simpa using hi,φ⟩
theorem Vi(w:Wld)(u:Unt):(yy w u).U.length=w.U.length:=by simp[yy]
theorem zax(hr:yl w.U)(hi:i<w.U.length)(hid:u.id=w.U[i].id){j:Nat}(hj:j<w.U.length)(hij:j≠i):(yy w u).U[j]'(by rw[Vi];exact hj)=w.U[j]:=by
 have h:=Kt hr hi hid;have:(yy w u).U=w.U.set i u:=by rw[h]
 simp only[this];rw[Fcr,if_neg (Ne.symm hij)]
theorem V7(hm:z7 w)(hi:i<w.U.length)(h0:w.U[i].inn=0)(h1:mvG 0 u=mvG 0 w.U[i])(h2:jx w u):z7 (yy w u):=by
 have hid:u.id=w.U[i].id:=(K6 h1).1;rw[Kt hm.1.2.1 hi hid];have get:∀j,(hj:j<w.U.length)->(w.U.set i u)[j]'(by simpa using hj)=if i=j then u else w.U[j]:=λj hj=>Fcr ..
 refine iz hm φ (λj hj=>?_) (λj hj hn=>?_) (λj hj=>?_)
 ·rw[get j hj];split
  ·rename_i e;subst e;exact h1
  ·rfl
 ·rw[get j hj];split
  ·rename_i e;subst e;exact absurd h0 hn
  ·rfl
 ·rw[get j hj];split
  ·exact h2
  ·exact(hm.1.2.2 _ (Faa hj)).1
theorem R5{v:Vc}:∀(n k:Nat) {r:Nat×Vc},Bc w u v n k=some r->qu w u.id u.kind r.2/\(k<=r.1/\r.1<k+n)/\r.2=j9 u.pos (C6 v r.1)
 |0,k,r,h=>ω
 |n+1,k,r,h=>by
  unfold Bc at h;split at h
  ·cases h
  ·split at h
   ·cases h;exact⟨‹_›,θ,rfl⟩
   ·obtain⟨h1,h2,h3⟩:=R5 n (k+1) h;exact⟨h1,θ,h3⟩
theorem zce(hm:z7 w)(hi:i<w.U.length)(h0:w.U[i].inn=0)(v:Vc):z7 (Al w w.U[i] v):=by
 unfold Al;cases h:Bc w w.U[i] (vy v) 5 0 with
 |none=>exact hm
 |some r=>
  obtain⟨k,p⟩:=r;dsimp only;obtain⟨h1,_,_⟩:=R5 5 0 h;rw[Kt (u:={w.U[i]with pos:=p}) hm.1.2.1 hi rfl];have:=zcg hm hi h1;have e:({w.U[i]with pos:=p,inn:=0}:Unt)={w.U[i]with pos:=p}:=by rw[<-h0]
  rw[e]at this;exact this
theorem dh(hm:z7 w)(hi:i<w.U.length):jx w w.U[i]:=(hm.1.2.2 _ (Faa hi)).1
theorem zis(h:jx w u)(hs:s=2\/s=3\/s=4):jx w (Cb s u):=by obtain⟨⟨a1,a2,a3⟩,_,_,_⟩:=h;refine⟨⟨a1,a2,a3⟩,⟨.inl rfl,.inl rfl,by show(0:Int)<=0/\(0:Int)<8;omega⟩,⟨by show 0<=s/\s<=4;omega,?_⟩,λ_=>⟨rfl,rfl⟩⟩;show s=1↔(-1:Int)≠-1;omega
theorem Rz(h:jx w u)(hg:u.goal≠-1){nx st:Int}(hn:wg w.G nx)(hs:0<=st/\st<8):jx w {u with next:=nx,stuck:=st}:=by obtain⟨⟨a1,a2,a3⟩,⟨b1,b2,b3⟩,c,d⟩:=h;exact⟨⟨a1,a2,a3⟩,⟨b1,hn,hs⟩,c,λe=>absurd e hg⟩
theorem i7(hm:z7 w)(hi:i<w.U.length)(h0:w.U[i].inn=0)(hs:s=2\/s=3\/s=4)(hu:mvG 0 u=mvG 0 w.U[i])(hup:jx w u):z7 (yy w (Cb s u)):=
 V7 hm hi h0 (by rw[<-hu];rfl) (zis hup hs)
theorem zcf(hm:z7 w)(hi:i<w.U.length)(h0:w.U[i].inn=0)(hu:mvG 0 u=mvG 0 w.U[i])(hup:jx w u)(hg:u.goal≠-1):z7 (Dw w u):=by
 have hid:u.id=w.U[i].id:=(K6 hu).1;have hin:u.inn=w.U[i].inn:=(K6 hu).2.2.2.2;unfold Dw;split
 ·have hp:jx w {u with stuck:=0}:=Rz hup hg hup.2.1.2.1 θ;have hm2:z7 (yy w {u with stuck:=0}):=V7 hm hi h0 (by rw[<-hu];rfl) hp;obtain⟨h2,e⟩:=Vj (u:={u with stuck:=0}) hm.1.2.1 hi hid;have:=zce hm2 h2 (by rw[e];exact hin.trans h0) (L6 u.pos (qc w.G u.next.toNat) (wq u.kind));rw[e]at this;exact this
 ·split
  ·exact i7 hm hi h0 (.inr (.inr rfl)) hu hup
  ·rename_i h8;have:=hup.2.1.2.2;exact V7 hm hi h0 (by rw[<-hu];rfl) (Rz hup hg (.inl rfl) θ)
theorem zbk(hm:z7 w)(hi:i<w.U.length)(h0:w.U[i].inn=0):(0<=w.U[i].pos.1/\w.U[i].pos.1<w.G.W*65536)/\(0<=w.U[i].pos.2/\w.U[i].pos.2<w.G.H*65536):=by have:=Pt hm.1.1.2.1.1 (hm.2.1 _ (Faa hi) h0).1;have:=this.1;have:=this.2;omega
theorem gj(hm:z7 w)(hi:i<w.U.length)(h0:w.U[i].inn=0):Bd w.G w.U[i].pos<w.G.T.length:=(sf hm.1.1.2.1.1 (zbk hm hi h0)).2.1
theorem d0{g:Gnd}(hg:zt g){t:Nat}(h:t<g.T.length):wg g (t:Int):=.inr (by have:=hg.2.2.1;omega)
theorem zh9(g:Gnd)(ok:Nat->Bool)(c:Int)(d:Nat->Int)(t:Nat):jl g ok c d t=-1\/∃way:Nat,way<8/\jl g ok c d t=way/\0<qz g ok c t way:=by
 unfold jl;split
 ·exact .inl rfl
 ·cases h:(List.range 8).find? λway=>decide (0<qz g ok c t way/\0<=d (yr g t way).toNat/\qz g ok c t way+d (yr g t way).toNat=d t)with
  |none=>exact .inl rfl
  |some way=>
   have h1:=Fd7 h;have h2:=List.find?_some h;exact .inr ⟨way,θg,rfl,(of_decide_eq_true h2).1⟩
theorem gy(hg:zt w.G){own:Nat}(ho:own<w.G.T.length):wg w.G (Dh w u own):=by
 unfold Dh;split
 ·exact d0 hg ho
 ·dsimp only;rcases zh9 w.G (okU w u) (qi u.kind) (Ad w.G (okU w u) (qi u.kind) u.goal.toNat) own with h|⟨way,h1,h2,_⟩
  ·rw[h,if_pos ψ];exact .inl rfl
  ·rw[h2,if_neg θ];rcases bu hg (t:=own) (way:=way) h1 with h3|⟨x,h3,h4⟩
   ·rw[Fa8,h3];exact .inl rfl
   ·rw[Fa8,h3];exact d0 hg h4
theorem yjo(hm:z7 w)(hi:i<w.U.length)(h0:w.U[i].inn=0)(hg:w.U[i].goal≠-1):z7 (D7 w w.U[i]):=by
 have hu:=dh hm hi;unfold D7;split
 ·exact i7 hm hi h0 (.inl rfl) rfl hu
 ·split
  ·split
   ·exact i7 hm hi h0 (.inr (.inl rfl)) rfl hu
   ·exact zcf hm hi h0 (u:={w.U[i]with next:=Dh w w.U[i] (Bd w.G w.U[i].pos)}) rfl (Rz hu hg (gy hm.1.1.2.1.1 (gj hm hi h0)) hu.2.1.2.2) hg
  ·exact zcf hm hi h0 rfl hu hg
theorem yjh(hm:z7 w)(hi:i<w.U.length)(h0:w.U[i].inn=0):z7 (Bq w w.U[i]):=by
 unfold Bq;split
 ·exact zce hm hi h0 _
 ·exact yjo hm hi h0 ‹_›
end
section
variable {a b m L c:Int}
theorem Oj(ha:0<=a)(h:a<=b):a*a<=b*b:=Fbc h h ha θ
theorem zy6{p q:Int}(hp:0<=p)(h:p<q):p*p<q*q:=
 Int.lt_of_le_of_lt (Fc0 (Int.le_of_lt h) hp) (Int.mul_lt_mul_of_pos_right h θ)
theorem zb6(a b c d:Int):a*b*(c*d)=a*c*(b*d):=by ac_rfl
theorem yp5{x y s:Int}(hx:0<=x)(hy:0<=y)(hm:0<=m)(hmL:m<L)(hs:x*x+y*y<(L+1)*(L+1))(ha:a=x*m/L)(hb:b=y*m/L):a*a+b*b<(m+1)*(m+1):=by
 have hL:0<L:=θ;have a1:a*L<=x*m:=by rw[ha];exact Int.ediv_mul_le _ θ
 have b1:b*L<=y*m:=by rw[hb];exact Int.ediv_mul_le _ θ
 have a0:0<=a:=by rw[ha];exact Fcg (Faw hx hm) θ
 have b0:0<=b:=by rw[hb];exact Fcg (Faw hy hm) θ
 have a2:=Oj (Faw a0 (by omega:(0:Int)<=L)) a1;have b2:=Oj (Faw b0 (by omega:(0:Int)<=L)) b1;have e1:(a*a+b*b)*(L*L)=a*L*(a*L)+b*L*(b*L):=δ;have e2:x*m*(x*m)+y*m*(y*m)=(x*x+y*y)*(m*m):=δ;have h1:(a*a+b*b)*(L*L)<=(x*x+y*y)*(m*m):=δ;refine Int.not_le.1 λhle=>?_;have h2:(m+1)*(m+1)*(L*L)<=(x*x+y*y)*(m*m):=Int.le_trans (Fdv hle (Faw θ θ)) h1;have h3:(x*x+y*y)*(m*m)<=((L+1)*(L+1))*(m*m):=Fdv θ (Faw hm hm);have e3:(m+1)*(m+1)*(L*L)=((m+1)*L)*((m+1)*L):=zb6 ..;have e4:((L+1)*(L+1))*(m*m)=((L+1)*m)*((L+1)*m):=zb6 ..;have h4:((L+1)*m)*((L+1)*m)<((m+1)*L)*((m+1)*L):=by have k1:(L+1)*m<(m+1)*L:=δ;have k0:0<=(L+1)*m:=Faw θ hm;exact zy6 k0 k1
 omega
def Bf(v:Vc):Prop:=(-1125899906842624<=v.1/\v.1<=1125899906842624)/\(-1125899906842624<=v.2/\v.2<=1125899906842624)
theorem Kl{v:Vc}(h:Bf v):sqr v=v.1*v.1+v.2*v.2/\vy v=v/\0<=sqr v/\sqr v<(vk (sqr v)+1)*(vk (sqr v)+1):=by
 obtain⟨h1,h2⟩:=h;have e:sqr v=v.1*v.1+v.2*v.2:=by grind[sqr,o5]
 have p1:0<=v.1*v.1:=by rcases Int.le_total 0 v.1 with h|h;exact Faw h h;rw[<-Int.neg_mul_neg];exact Faw θ θ
 have p2:0<=v.2*v.2:=by rcases Int.le_total 0 v.2 with h|h;exact Faw h h;rw[<-Int.neg_mul_neg];exact Faw θ θ
 have b:∀x:Int,-1125899906842624<=x/\x<=1125899906842624->x*x<=1125899906842624*1125899906842624:=λx hx=>by
  rcases Int.le_total 0 x with h|h
  ·exact Oj h hx.2
  ·rw[<-Int.neg_mul_neg];exact Oj θ θ
 have b1:=b _ h1;have b2:=b _ h2;have h0:0<=sqr v:=θ;refine⟨e,?_,h0,?_⟩
 ·grind[vy,Fm]
 ·obtain⟨r0,r1,r2,r3⟩:=Mi h0;grind
theorem Nz(x:Int):x*x=(x.natAbs:Int)*x.natAbs:=δ
theorem nj(hm:0<=m)(hL:0<L):((Hr c m L).natAbs:Int)=(c.natAbs:Int)*m/L:=by
 have q:∀z:Int,0<=z->0<=z*m/L:=λz hz=>Fcg (Faw hz hm) θ;unfold Hr;split
 ·have:=q (-c) θ;rw[show(c.natAbs:Int)=-c by omega];omega
 ·have:=q c θ;rw[show(c.natAbs:Int)=c by omega];omega
theorem bd(hm:0<=m)(hmL:m<L):(Hr c m L).natAbs<=c.natAbs:=by
 have h1:=nj (c:=c) hm (show 0<L by omega);have h2:(c.natAbs:Int)*m/L<=c.natAbs:=by have:(c.natAbs:Int)*m<=c.natAbs*L:=Fc0 θ θ;exact Int.le_trans (Int.ediv_le_ediv θ this) (by rw[Int.mul_ediv_cancel _ θ];exact Fcj _)
 omega
theorem zfj{v:Vc}(hs:Bf v)(hm:0<=m):Bf (j8 v m)/\(j8 v m).1*(j8 v m).1+(j8 v m).2*(j8 v m).2<(m+1)*(m+1):=by
 obtain⟨e,en,h0,h1⟩:=Kl hs;have hmx:max m 0=m:=θ;have n1:nrm v.1=v.1:=congrArg Prod.fst en;have n2:nrm v.2=v.2:=congrArg Prod.snd en;have r0:=(Mi h0).1;unfold j8;rw[hmx];split
 ·rename_i hle;rw[en];refine⟨hs,?_⟩;have:=Oj (show 0<=vk (sqr v)+1 by omega) (show vk (sqr v)+1<=m+1 by omega);omega
 ·rename_i hgt;rw[n1,n2];have hmL:m<vk (sqr v):=θ;have c1:=bd (c:=v.1) hm hmL;have c2:=bd (c:=v.2) hm hmL;refine⟨?_,?_⟩
  ·unfold Bf at hs⊢;dsimp only;omega
  ·dsimp only;rw[Nz (Hr v.1 _ _),Nz (Hr v.2 _ _)];refine yp5 (s:=0) (x:=v.1.natAbs) (y:=v.2.natAbs) θ θ hm hmL ?_ (nj hm θ) (nj hm θ);rw[<-Nz,<-Nz];omega
theorem zdf(x:Int)(k:Nat):(x.tdiv (2^k:Nat)).natAbs<=x.natAbs:=by rw[Int.natAbs_tdiv];exact Nat.div_le_self _ _
def xm(p:Vc):Prop:=(0<=p.1/\p.1<=8388608)/\(0<=p.2/\p.2<=8388608)
theorem Py(ha:-2251799813685248<=a/\a<=2251799813685248)(hb:-2251799813685248<=b/\b<=2251799813685248):qg a b=a+b:=by unfold qg vd;rw[Fm θ,Fm θ,if_neg θ,if_neg θ]
theorem cw{p q:Vc}(hp:xm p)(hq:xm q):xc q p=(q.1-p.1,q.2-p.2)/\Bf (xc q p):=by obtain⟨p1,p2⟩:=hp;obtain⟨q1,q2⟩:=hq;have e:=p8 (a:=q) (b:=p) θ θ θ θ;refine⟨e,?_⟩;rw[e];unfold Bf;dsimp only;omega
theorem gb{p q:Vc}(hp:xm p)(hq:xm q){r:Int}(hr:0<r):-16777216<=(Bi p r q).1/\(Bi p r q).1<=16777216/\-16777216<=(Bi p r q).2/\(Bi p r q).2<=16777216:=by
 obtain⟨e,hs⟩:=cw hq hp;unfold Bi;split
 ·rename_i hn;generalize hm:r-vk (sqr (xc p q))=m;have hv:∀w:Vc,Bf w->(w.1.natAbs<=16777216/\w.2.natAbs<=16777216)->-16777216<=(j8 w m).1/\(j8 w m).1<=16777216/\-16777216<=(j8 w m).2/\(j8 w m).2<=16777216:=by
   intro w hw hb;obtain⟨_,en,_,_⟩:=Kl hw;have n1:nrm w.1=w.1:=congrArg Prod.fst en;have n2:nrm w.2=w.2:=congrArg Prod.snd en;unfold j8;split
   ·rw[en];omega
   ·rename_i hgt;rw[n1,n2];have c1:=bd (c:=w.1) (m:=max m 0) (L:=vk (sqr w)) θ θ;have c2:=bd (c:=w.2) (m:=max m 0) (L:=vk (sqr w)) θ θ;dsimp only;omega
  obtain⟨p1,p2⟩:=hp;obtain⟨q1,q2⟩:=hq;split
  ·exact hv _ (by unfold Bf;decide) ψ
  ·refine hv _ hs ?_;rw[e];dsimp only;omega
 ·decide
theorem yl4{w:Wld}{u:Unt}(hu:xm u.pos)(h:∀x∈w.U,x.inn=0->xm x.pos)(hl:w.U.length<=4096):Bf (Iw w u):=by
 have key:∀(l:List Unt) (v:Vc) (B:Nat),(∀x∈l,x.inn=0->xm x.pos)->B+l.length<=4096->(v.1.natAbs<=B*16777216/\v.2.natAbs<=B*16777216)->
   Bf (l.foldl (λv x=>if x.inn=0/\x.id≠u.id then j9 v (Bi u.pos (zx u.kind+zx x.kind+16384) x.pos)else v) v):=by
  intro l;induction l with
  |nil=>
   intro v B _ hB hv;unfold Bf;simp only[Fc5]at hB;simp only[List.foldl_nil];omega
  |cons x l ih=>
   intro v B hx hB hv;simp only[Fbd]at hB;rw[Fcy];refine ih _ (B+1) (λy hy=>hx y (Fav _ hy)) θ ?_;split
   ·rename_i hc;have r1:=O3 u.kind;have r2:=O3 x.kind;have:=gb hu (hx x Fa7 hc.1) (r:=zx u.kind+zx x.kind+16384) θ;generalize Bi u.pos (zx u.kind+zx x.kind+16384) x.pos=z at*;have e:j9 v z=(v.1+z.1,v.2+z.2):=by
     unfold j9;rw[Py θ θ,Py θ θ]
    rw[e];dsimp only;omega
   ·exact⟨Fbv hv.1 (Fa9 _ (Fdn B)),Fbv hv.2 (Fa9 _ (Fdn B))⟩
 unfold Iw;refine key w.U (0,0) 0 h θ ⟨?_,?_⟩
 ·show(0:Int).natAbs<=_;simp
 ·show(0:Int).natAbs<=_;simp
end
section
variable {w:Wld} {i:Nat} {u:Unt}
theorem zaw(w:Wld){a b:Unt}(h:a.id=b.id):yy (yy w a) b=yy w b:=by
 unfold yy;simp only[List.map_map]
 congr 1
 refine Fb0 λx _=>?_;simp only[Function.comp];by_cases e:x.id=a.id
 ·rw[if_pos e,if_pos h,if_pos (e.trans h)]
 ·rw[if_neg e]
theorem ygv(hr:yl w.U)(hi:i<w.U.length):yy w w.U[i]=w:=by
 rw[Kt hr hi rfl]
 congr 1
 exact List.set_getElem_self hi
theorem ye7(hr:yl w.U)(hi:i<w.U.length)(hid:u.id=w.U[i].id):yl (yy w u).U:=by
 refine zae (Vi w u) (λj hj=>?_) hr;by_cases e:j=i
 ·subst e;obtain⟨_,h⟩:=Vj hr hi hid;rw[h];exact hid
 ·rw[zax hr hi hid hj e]
def Lu(u u':Unt):Prop:=u'.id=u.id/\u'.kind=u.kind/\(u'.pos=u.pos\/∃(v:Vc) (m:Int) (k:Nat),Bf v/\0<=m/\m<=wq u.kind/\u'.pos=j9 u.pos (C6 (vy (j8 v m)) k))
theorem Sg(k:Int):8192<=wq k/\wq k<=24576:=by unfold wq;split<;>(try split)<;>(try split)<;>omega
theorem ry(hr:yl w.U)(hi:i<w.U.length){v:Vc}{m:Int}(hs:Bf v)(hm:0<=m)(hm2:m<=wq w.U[i].kind):∃u',Al w w.U[i] (j8 v m)=yy w u'/\Lu w.U[i] u':=by
 unfold Al;cases h:Bc w w.U[i] (vy (j8 v m)) 5 0 with
 |none=>exact⟨w.U[i],(ygv hr hi).symm,rfl,rfl,.inl rfl⟩
 |some r=>
  obtain⟨k,p⟩:=r;obtain⟨_,_,h3⟩:=R5 5 0 h;exact⟨_,rfl,rfl,rfl,.inr ⟨v,m,k,hs,hm,hm2,h3⟩⟩
theorem Pe(hm:z7 w)(hu:u∈w.U)(h0:u.inn=0):xm u.pos:=by have:=Pt hm.1.1.2.1.1 (hm.2.1 u hu h0).1;unfold xm;omega
theorem zfo{g:Gnd}(hg:zt g){t:Nat}(ht:t<g.T.length):xm (qc g t):=by obtain⟨⟨h1,h2⟩,⟨h3,h4⟩,h5,_⟩:=hg;have a:=Fcn (t:Int) (show g.W≠0 by omega);have b:=Fc3 (t:Int) (show 0<g.W by omega);have c:0<=(t:Int)/g.W:=Fcg θ θ;have d:(t:Int)/g.W<g.H:=Fdw θ (by rw[Fdf];omega);unfold xm qc tx ty;dsimp only;omega
theorem sy(hm:z7 w)(hi:i<w.U.length)(h0:w.U[i].inn=0)(hu:mvG 0 u=mvG 0 w.U[i])(ht:u.next.toNat<w.G.T.length):∃u',Dw w u=yy w u'/\Lu w.U[i] u':=by
 obtain⟨f1,f2,f3,f4,f5⟩:=K6 hu;have hmp:=Pe hm (Faa hi) h0;have same:∀u':Unt,u'.id=u.id->u'.kind=u.kind->u'.pos=u.pos->∃u2,yy w u'=yy w u2/\Lu w.U[i] u2:=λu' a b c=>⟨u',rfl,a.trans f1,b.trans f3,.inl (c.trans f4)⟩
 unfold Dw;split
 ·obtain⟨h2,e⟩:=Vj (u:={u with stuck:=0}) hm.1.2.1 hi f1;have hr2:=ye7 (u:={u with stuck:=0}) hm.1.2.1 hi f1;have hs:=(cw (p:=u.pos) (q:=qc w.G u.next.toNat) (by rw[f4];exact hmp) (zfo hm.1.1.2.1.1 ht)).2;have hsp:=Sg u.kind;obtain⟨u2,e2,k1,k2,k3⟩:=ry hr2 h2 (v:=xc (qc w.G u.next.toNat) u.pos) (m:=wq u.kind) hs θ (by rw[e];exact Fcj _);rw[e]at e2 k1 k2 k3;refine⟨u2,?_,k1.trans f1,k2.trans f3,?_⟩
  ·unfold L6;rw[e2];exact zaw w k1.symm
  ·rw[<-f4,<-f3];exact k3
 ·split
  ·exact same _ rfl rfl rfl
  ·exact same _ rfl rfl rfl
theorem yin(hg:zt w.G){own:Nat}(ho:own<w.G.T.length)(h:¬Dh w u own<0):(Dh w u own).toNat<w.G.T.length:=by have:=gy hg (u:=u) ho;have:=hg.2.2.1;unfold wg at*;omega
theorem ym5(hm:z7 w)(hi:i<w.U.length)(h0:w.U[i].inn=0)(hg:w.U[i].goal≠-1):∃u',D7 w w.U[i]=yy w u'/\Lu w.U[i] u':=by
 have hu:=dh hm hi;have hgn:=hm.1.1.2.1.1;unfold D7;split
 ·exact⟨_,rfl,rfl,rfl,.inl rfl⟩
 ·split
  ·split
   ·exact⟨_,rfl,rfl,rfl,.inl rfl⟩
   ·rename_i hn;exact sy hm hi h0 (u:={w.U[i]with next:=Dh w w.U[i] (Bd w.G w.U[i].pos)}) rfl (yin hgn (gj hm hi h0) hn)
  ·rename_i hl;refine sy hm hi h0 rfl ?_;have hne:w.U[i].next≠-1:=λe=>hl (by unfold K9;simp[e]);have:=hu.2.1.2.1;have:=hgn.2.2.1;unfold wg at*;omega
theorem ziu(hm:z7 w)(hi:i<w.U.length)(h0:w.U[i].inn=0):∃u',Bq w w.U[i]=yy w u'/\Lu w.U[i] u':=by
 unfold Bq;split
 ·have hsp:=Sg w.U[i].kind;have e:(wq w.U[i].kind).tdiv 4=wq w.U[i].kind/4:=Fa1 θ;unfold Gt;rw[e];exact ry hm.1.2.1 hi (yl4 (Pe hm (Faa hi) h0) (λx hx h=>Pe hm hx h) hm.1.1.2.1.2.2) θ θ
 ·exact ym5 hm hi h0 ‹_›
end
structure MayF(w:Wld):Prop where
 hg:zt w.G
 hB:w.B.length<=256
 hU:w.U.length<=4096
 hT:w.G.T.length<=16384
 hb:∀b∈w.B,yk b/\onP w.G b
 hk:∀u∈w.U,Av u.kind
 hr:yl w.U
 hn1:1<=w.next
 hn2:w.next<=1099511627776
theorem wn{w:Wld}(h:z7 w):MayF w:=by obtain⟨⟨hh,hok⟩,_⟩:=h;have hbl:=hh.2.1.2.1;have ha:=qm hh.2.1.1;exact⟨hh.2.1.1,hbl.1,hh.2.1.2.2,θ,λb hb=>⟨(hbl.2.2.1 b hb).1,(hbl.2.2.1 b hb).2.1⟩,λu hu=>(hok.2 u hu).1.1.2.2,hok.1,hh.1.2.2.1,hh.1.2.2.2⟩
theorem MayF.fits{w:Wld}(h:MayF w):w.fits:=⟨by unfold Gnd.fits;have:=h.hT;omega,by have:=h.hB;omega,by have:=h.hU;omega⟩
theorem Wb(k:Int):0<=kj k/\kj k<=3:=by unfold kj;split<;>decide
theorem zij(a b:Vc):(j9 a b).ok:=by have h1:=bm (nrm a.1+nrm b.1);have h2:=bm (nrm a.2+nrm b.2);exact⟨⟨by show _<=vd _;omega,by show vd _<=_;omega⟩,⟨by show _<=vd _;omega,by show vd _<=_;omega⟩⟩
def playW(w:Wld):Prop:=z7 w/\∀u∈w.U,u.pos.ok
theorem playW.sizes{w:Wld}(h:playW w):w.G.T.length<=1000000/\w.B.length<=1000000/\w.U.length<=1000000:=by have f:=wn h.1;have:=f.hB;have:=f.hU;have:=f.hT;omega
theorem zhw{u u':Unt}(h:Lu u u')(hu:u.pos.ok):u'.pos.ok:=by
 rcases h.2.2 with e|⟨v,m,k,_,_,_,e⟩
 ·rw[e];exact hu
 ·rw[e];exact zij _ _
theorem ygq{w:Wld}{u:Unt}(hw:∀x∈w.U,x.pos.ok)(hu:u.pos.ok):∀x∈(yy w u).U,x.pos.ok:=by
 intro x hx;unfold yy at hx;obtain⟨y,hy,rfl⟩:=Fai.1 hx;split
 ·exact hu
 ·exact hw y hy
section
variable {w:Wld} {i:Nat}
open Classical in
noncomputable def goN(w:Wld):Nat->Wld
 |0=>w
 |i+1=>if h:i<(goN w i).U.length then(if(goN w i).U[i].inn=0 then Bq (goN w i) (goN w i).U[i]else goN w i)else goN w i
noncomputable def kr(w:Wld):Wld:=goN w w.U.length
theorem yha(h:playW w)(hi:i<w.U.length)(h0:w.U[i].inn=0):playW (Bq w w.U[i])/\(Bq w w.U[i]).U.length=w.U.length/\(Bq w w.U[i]).G=w.G/\(Bq w w.U[i]).B=w.B:=by
 obtain⟨u',h1,h2⟩:=ziu h.1 hi h0;refine⟨⟨yjh h.1 hi h0,?_⟩,?_,?_,?_⟩
 ·rw[h1];exact ygq h.2 (zhw h2 (h.2 _ (Faa hi)))
 ·rw[h1,Vi]
 ·rw[h1];rfl
 ·rw[h1];rfl
theorem Ws(h:playW w):∀i,playW (goN w i)/\(goN w i).U.length=w.U.length/\(goN w i).G=w.G/\(goN w i).B=w.B
 |0=>⟨h,rfl,rfl,rfl⟩
 |i+1=>by
  obtain⟨h1,h2,h3,h4⟩:=Ws h i;unfold goN;by_cases hi:i<(goN w i).U.length
  ·rw[dif_pos hi];by_cases h0:(goN w i).U[i].inn=0
   ·rw[if_pos h0];obtain⟨q1,q2,q3,q4⟩:=yha h1 hi h0;exact⟨q1,q2.trans h2,q3.trans h3,q4.trans h4⟩
   ·rw[if_neg h0];exact⟨h1,h2,h3,h4⟩
  ·rw[dif_neg hi];exact⟨h1,h2,h3,h4⟩
theorem ym8(hi:i<(goN w i).U.length)(h0:(goN w i).U[i].inn=0):goN w (i+1)=Bq (goN w i) (goN w i).U[i]:=by rw[goN,dif_pos hi,if_pos h0]
theorem ym7(hi:i<(goN w i).U.length)(h0:(goN w i).U[i].inn≠0):goN w (i+1)=goN w i:=by rw[goN,dif_pos hi,if_neg h0]
theorem yst(h:playW w):playW (kr w)/\(kr w).U.length=w.U.length:=⟨(Ws h _).1,(Ws h _).2.1⟩
end
section
variable {x:Unt} {w:Wld}
theorem Ps{U:List Unt}{v:Unt}(h:v∈U++[x]):v∈U\/v=x:=δ
theorem ye8{U:List Unt}(hr:yl U)(hx:∀u∈U,u.id<x.id):yl (U++[x]):=by
 intro j hj h0;have hj2:j<U.length+1:=δ;by_cases e:j<U.length
 ·rw[Fbo θ,Fbo e];exact hr j e h0
 grind
theorem yjj{c:Cmd}(hm:z7 w)(hc:Ai c)(hp:c.P<=w.players)(hk:c.K=1)(h:spE w c=0):z7 (spW w c):=by
 have hn:¬I0 w:=λhf=>by simp_all[spE]
 have hcl:qu w 0 c.N (c.X,c.Y):=Classical.byContradiction λhh=>by simp_all[spE]
 unfold I0 at hn;have hn1:w.U.length<4096:=θ;have hn2:w.next<1099511627776:=θ;obtain⟨⟨hh,hr,hu⟩,hcc,hd⟩:=hm;have hg:=hh.2.1.1;have hN:=((Cmd.ok1 hk).1 hc.1).1;have hl:(w.U++[spU w c]).length=w.U.length+1:=by rw[Fad];rfl
 have hnx:=hh.1.2.2.1;have upu:∀v,jx w v->jx (spW w c) v:=λv hv=>⟨⟨⟨hv.1.1.1,by show v.id<w.next+1;have:=hv.1.1.2;omega⟩,hv.1.2⟩,hv.2⟩
 have hin:∀id,id≠0->z8 (w.U++[spU w c]) id=z8 w.U id:=λid hid=>by grind[z8,spU]
 refine⟨⟨⟨⟨hh.1.1,hh.1.2.1,by show 1<=w.next+1/\w.next+1<=_;omega⟩,⟨hg,hh.2.1.2.1,by show(w.U++[spU w c]).length<=_;omega⟩,λb hb=>⟨(hh.2.2 b hb).1,by show b.id<w.next+1;have:=(hh.2.2 b hb).2;omega⟩⟩,?_,λv hv=>?_⟩,λv hv h0=>?_,λv hv h0=>?_⟩
 ·exact ye8 hr λu hu2=>(hu u hu2).1.1.1.2
 ·rcases Ps hv with hv|rfl
  ·exact⟨upu v (hu v hv).1,(hu v hv).2⟩
  ·refine⟨⟨⟨⟨hnx,by show w.next<w.next+1;omega⟩,⟨hc.2.1.1,hp⟩,hN⟩,⟨.inl rfl,.inl rfl,θ9⟩,⟨ψm,⟨λe=>absurd (show(0:Int)=1 from e) ψ,λe=>absurd rfl e⟩⟩,λ_=>⟨rfl,rfl⟩⟩,λb hb=>?_⟩;have:=(hh.2.2 b hb).2;show b.id≠w.next;omega
 ·rcases Ps hv with hv|rfl
  ·have hv0:=hcc v hv h0;refine⟨hv0.1,λx hx hx0 hxi=>?_⟩;rcases Ps hx with hx|rfl
   ·exact hv0.2 x hx hx0 hxi
   ·have:=hcl.2 v hv h0 (by have:=(hu v hv).1.1.1.1;omega);rw[zgu hg hcl.1 hv0.1]at this;exact this
  ·refine⟨hcl.1,λx hx hx0 hxi=>?_⟩;rcases Ps hx with hx|rfl
   ·exact hcl.2 x hx hx0 (by have:=(hu x hx).1.1.1.1;omega)
   ·exact absurd rfl hxi
 ·rcases Ps hv with hv|rfl
  ·obtain⟨x,hx,g1,g2,g3,g4⟩:=hd v hv h0;exact⟨x,List.mem_append_left _ hx,g1,g2,by show((z8 (w.U++[spU w c]) _).length:Int)<=_;rw[hin _ h0];exact g3,g4⟩
  ·exact absurd rfl h0
theorem zdv{g:Gnd}{l l':List Bld}{c:Int}{p:Vc}{r:Int}(hf:Cl g l c p r)(h:∀t,t<g.T.length->yq g l' c t=false->yq g l c t=false\/¬jz g t p r):Cl g l' c p r:=
 ⟨hf.1,λt ht ho hh=>by
  rcases h t ht ho with e|e
  ·exact hf.2 t ht e hh
  ·exact e hh⟩
theorem zch(hm:z7 w){B:List Bld}{next:Int}(hnx:w.next<=next/\next<=1099511627776)(hb:Hs w.G B)(hb2:∀b∈B,b.owner<=w.players/\b.id<next)(hb3:∀b∈B,∀u∈w.U,b.id≠u.id)
  (hf:∀u∈w.U,u.inn=0->Cl w.G B (qi u.kind) u.pos (zx u.kind)):z7 {w with B:=B,next:=next}:=by
 obtain⟨⟨hh,hr,hu⟩,hcc,hd⟩:=hm;have hn1:=hh.1.2.2.1;refine⟨⟨⟨⟨hh.1.1,hh.1.2.1,δ⟩,⟨hh.2.1.1,hb,hh.2.1.2.2⟩,hb2⟩,hr,λv hv=>⟨?_,λb hb=>hb3 b hb v hv⟩⟩,λv hv h0=>⟨hf v hv h0,(hcc v hv h0).2⟩,hd⟩;have hv0:=(hu v hv).1;exact⟨⟨⟨hv0.1.1.1,by show v.id<next;have:=hv0.1.1.2;omega⟩,hv0.1.2⟩,hv0.2⟩
theorem yjr{c:Cmd}(hm:z7 w)(hc:Ai c)(hp:c.P<=w.players)(hk:c.K=4)(h:bdE w c=0):z7 (bdW w c):=by
 unfold bdE at h;have c1:0<=c.T/\c.T<w.G.W*w.G.H:=Classical.byContradiction λhh=>ψa;rw[if_neg (not_not_intro c1)]at h;have c2:¬1099511627776<=w.next:=λhh=>ψa;rw[if_neg c2]at h;have c3:xt w.G w.B (bdB w c)=0:=Classical.byContradiction λhh=>δ;rw[if_pos c3]at h;have c4:¬K7 w (bdB w c):=λhh=>ψa;unfold xt at c3;have d1:onP w.G (bdB w c):=Classical.byContradiction λhh=>δ;rw[if_neg (not_not_intro d1)]at c3;have d2:¬∃x∈w.B,vo x (bdB w c):=λhh=>δ;rw[if_neg d2]at c3;have d3:Fa w.G (bdB w c):=Classical.byContradiction λhh=>δ;rw[if_neg (not_not_intro d3)]at c3;have d4:¬256<=w.B.length:=λhh=>δ;have hsz:=((Cmd.ok4 hk).1 hc.1).2;have hh:=hm.1.1;have hnx:=hh.1.2.2.1;have hbl:=hh.2.1.2.1;have ha:=qm hh.2.1.1;have mem:∀b∈w.B++[bdB w c],b∈w.B\/b=bdB w c:=λb hb=>δ;have hl:(w.B++[bdB w c]).length=w.B.length+1:=by rw[Fad];rfl
 refine zch hm (B:=w.B++[bdB w c]) (next:=w.next+1) ⟨θ,θ⟩ ⟨θ,?_,λb hb=>?_,?_⟩ (λb hb=>?_) (λb hb u hu=>?_) (λu hu h0=>?_)
 ·intro j hj h0;have hj2:j<w.B.length+1:=by rw[<-hl];exact hj
  by_cases e:j<w.B.length
  ·rw[Fbo θ,Fbo e];exact hbl.2.1 j e h0
  ·have ej:j=w.B.length:=θ;subst ej;rw[Fbo θ,Fdb (Fak _)];simp only[Nat.sub_self,Fcp];exact(hh.2.2 _ (Faa θ)).2
 ·rcases mem b hb with hb|rfl
  ·exact hbl.2.2.1 b hb
  ·exact⟨⟨⟨hnx,by show w.next<=_;omega⟩,⟨hc.2.1.1,hc.2.1.2⟩,hsz⟩,d1,d3⟩
 ·intro j hj i hij;have hj2:j<w.B.length+1:=by rw[<-hl];exact hj
  by_cases e:j<w.B.length
  ·rw[Fbo e,Fbo θ];exact hbl.2.2.2 j e i hij
  ·have ej:j=w.B.length:=θ;subst ej;rw[Fdb (Fak _),Fbo θ];simp only[Nat.sub_self,Fcp];grind[List.getElem_mem,vo]
 ·rcases mem b hb with hb|rfl
  ·have:=hh.2.2 b hb;exact⟨this.1,θ⟩
  ·exact⟨hp,by show w.next<w.next+1;omega⟩
 ·rcases mem b hb with hb|rfl
  ·exact(hm.1.2.2 u hu).2 b hb
  ·have:=(hm.1.2.2 u hu).1.1.1.2;show w.next≠u.id;omega
 ·refine zdv (hm.2.1 u hu h0).1 (λt ht ho=>?_);by_cases hb:wu w.G (bdB w c) t
  ·exact .inr λhit=>c4 ⟨t,⟨θ,hb⟩,u,hu,h0,hit⟩
  grind[yq,qx]
theorem yjp{c:Cmd}(hm:z7 w):z7 (drW w c):=by
 unfold drW;cases hf:Gx w.B c.N with
 |none=>exact hm
 |some i=>
  have hh:=hm.1.1;have hbl:=hh.2.1.2.1;have hil:i<w.B.length:=by grind[Gx,List.findIdx?_eq_some_iff_getElem]
  have hlen:(w.B.eraseIdx i).length=w.B.length-1:=List.length_eraseIdx_of_lt hil;have sub:∀b∈w.B.eraseIdx i,b∈w.B:=λb hb=>List.mem_of_mem_eraseIdx hb;have get:∀j,(hj:j<(w.B.eraseIdx i).length)->(w.B.eraseIdx i)[j]=if h:j<i then w.B[j]'θ else w.B[j+1]'θ:=λj hj=>List.getElem_eraseIdx ..
  have up:∀a b,(ha:a<b)->(hb:b<w.B.length)->(w.B[a]'θ).id<w.B[b].id:=λa b hab=>by
   induction b with
   |zero=>omega
   |succ b ih=>
    intro hb;have h1:=hbl.2.1 (b+1) hb θ;grind
  have hnx:=hh.1.2.2;refine zch hm (B:=w.B.eraseIdx i) (next:=w.next) ⟨θ,θ⟩ ⟨by have:=hbl.1;omega,?_,λb hb=>hbl.2.2.1 b (sub b hb),?_⟩ (λb hb=>hh.2.2 b (sub b hb)) (λb hb u hu=>(hm.1.2.2 u hu).2 b (sub b hb)) (λu hu h0=>?_)
  ·intro j hj h0;rw[get _ θ,get _ hj];split
   ·split
    ·exact up _ _ θ _
    ·exact up _ _ θ _
   ·rw[dif_neg θ];exact up _ _ θ _
  ·intro j hj k hkj;rw[get _ hj,get _ θ];split
   ·rw[dif_pos θ];exact hbl.2.2.2 _ _ _ θ
   ·split
    ·exact hbl.2.2.2 _ _ _ θ
    ·exact hbl.2.2.2 _ _ _ θ
  ·refine zdv (hm.2.1 u hu h0).1 (λt ht ho=>.inl ?_);grind[yq,qx]
end
end Go.V
