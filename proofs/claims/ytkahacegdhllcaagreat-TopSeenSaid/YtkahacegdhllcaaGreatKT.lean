/- Ground of laws of throngtop: contracts and plain lemmas; no condition beyond the row's own. -/
import Derived.Test.YtkahacegdhllcaaGreatKS
import Derived.Test.YtkahacegdhllcaaGreatKR
set_option linter.unusedSimpArgs false
set_option linter.unusedVariables false
set_option linter.defProp false
namespace Go.Proofs
open Go Go.V
set_option maxRecDepth 20000
set_option maxHeartbeats 4000000
def oi(g:Gnd)(x y:Int)(st:Store)(R:Ja)(h:∀z:Bool,(z=true↔onG g x y)->R (bool z) st):Jb 319 [.agg (zw g),int x,int y] st R:=by
 refine Qy 25 Tryz.func319 ?_;repeat' (first|refine bcd (λ_=>?_) (λ_=>?_)|refine zk (λ_=>?_) (λ_=>?_)|refine Qd ?_|fail)
 all_goals
  refine ret (h _ ?_);unfold onG;simp only[decide_eq_true_eq,decide_eq_false_iff_not,Fap,false_iff,true_iff,beq_iff_eq,bne_iff_ne,beq_eq_false_iff_ne,ne_eq,reduceCtorEq]at*;omega
theorem min2_eq(a b:Int):min2 a b=min a b:=by
 unfold min2;by_cases h:b<a
 ·rw[decide_eq_true h];show b=_;omega
 ·rw[decide_eq_false h];show a=_;omega
def zez(g:Gnd)(hg:zv g)(f:Nat->Int)(hf:∀t,t<g.T.length->0<=f t/\f t<=128)(t:Nat)(ht:t<g.T.length)(ws:List (Int×Int))(hw:∀d∈ws,(d.1≠0\/d.2≠0)/\(-1<=d.1/\d.1<=1)/\(-1<=d.2/\d.2<=1))(hwl:ws.length<=100)(b:Nat)(st:Store)(R:Ja)
  (h:R (.tup []) (st.sO b (.cells (il g.T.length (Nj g f ws t))))):Jb 299 [.agg (zw g),blV b g.T.length,int t,lst 2 K5 ws] (st.sO b (.cells (il g.T.length f))) R:=by
 have hm:=xj hg;have htb:=I7 hg (t:=t) θ;have hq:=Ps (t:=t) hg.1.1;have hq2:=Pt (t:=t) hg.1.1;have hg1:=hg.1;have hg2:=hg.2.1;unfold Nj at h;have hx:∃x,x=(t:Int)%g.W:=⟨_,rfl⟩
 have hy:∃y,y=(t:Int)/g.W:=⟨_,rfl⟩
 have⟨x,hx⟩:=hx;have⟨y,hy⟩:=hy;rw[<-hx,<-hy]at h htb;rw[<-hx]at hq;rw[<-hy]at hq2;refine Qy 63 Tryz.func299 ?_;refine Qc zb ycr ?_;refine⟨θ,⟨θ,Qd (Qba (Qbb ?_))⟩⟩
 refine AWp.loop (σ:=Nat) ⟨λi=>[(1,.av (blV b g.T.length)),(2,.av (int (t:Nat))),(4,.bx 4 0),(8,.av (int x)),(9,.av (int y)),(21,.av (lst 2 K5 ws)),(22,.av (int (ws.length:Nat))),(23,.av (int (i:Nat)))],λ_=>[(4,zw g)],
  λi st'=>i<=ws.length/\st'=st.sO b (.cells (il g.T.length (setI f t (Ba g f x y (f t) (ws.take i))))),λi=>ws.length-i⟩ zb ?_ ?_
 ·refine⟨0,Tv,⟨Fae _,?_⟩,⟨Tq,Tq,Tq,?_,?_,Tq,?_,Tq,Tv⟩,⟨rfl,Tv⟩⟩
  ·rw[Fdf];show _=st.sO b (.cells (il g.T.length (setI f t (f t))));rw[ybg]
  ·rw[<-hq];exact Tq
  ·rw[<-hq2];exact Tq
  ·rw[<-zi (f:=K5) ws];exact Tq
 rintro i st' ⟨hi,rfl⟩;refine bcd (λh1=>?_) (λh1=>?_);rotate_left
 ·have:i=ws.length:=θ;subst this;rw[Faj];exact ret h
 have hlt:i<ws.length:=θ;have hd:=hw _ (Faa hlt);have hv:=nz hg hf x y (ws.take i) (f t) (hf t ht);have hsn:=yiq g f x y (f t) ws hlt;have hgs:=ynp hg f (t:=t) (Ba g f x y (f t) (ws.take i)) hd.1;rw[<-hx,<-hy]at hgs;generalize hV:Ba g f x y (f t) (ws.take i)=V0 at*;have ho:(st.sO b (.cells (il g.T.length (setI f t V0)))).obj b=some (.cells (il g.T.length (setI f t V0))):=zd _ _ _;refine⟨i,rfl,za _ (zp hlt) ⟨0,rfl,ψ,Qd ⟨1,rfl,ψ,Qd (oi g (x+ws[i].1) (y+ws[i].2) _ _ (λz hz=>?_))⟩⟩⟩;have hgv:=zhk hg hf (x+ws[i].1) (y+ws[i].2);have fin:min V0 (gv g f (x+ws[i].1) (y+ws[i].2)+1)=Ba g f x y (f t) (ws.take (i+1)):=hsn.symm;refine zk (λc1=>?_) (λc1=>?_)
 ·have hon:=hz.1 c1;have⟨e1,e2,e3,e4⟩:=Fu hg hon;have hpos:0<=g.W*(y+ws[i].2):=Fa8 θ (by have:=hon.2.1;omega);have hval:setI f t V0 (tl g (x+ws[i].1) (y+ws[i].2))=gv g f (x+ws[i].1) (y+ws[i].2):=by
   rw[<-hgs];unfold gv;rw[if_pos hon]
  refine⟨0,rfl,ψ,Qd ⟨1,rfl,ψ,Qd (Qd (Qd ⟨tl g (x+ws[i].1) (y+ws[i].2),e1.symm,e2,za _ ho (za _ (Dp e2) ?_)⟩))⟩⟩;rw[hval];refine⟨t,rfl,ht,za _ ho (za _ (Dp ht) ?_)⟩;rw[Re];refine Qd ⟨t,rfl,ht,ye (i:=ti2) (v:=int (min2 V0 (gv g f (x+ws[i].1) (y+ws[i].2)+1))) (b:=b) (o:=0+t*1) (l:=il g.T.length (setI f t V0)) (st2:=st.sO b (.cells (il g.T.length (setI f t (Ba g f x y (f t) (ws.take (i+1))))))) rfl rfl rfl ho θf ?_ ?_⟩
  ·rw[yw,show 0+t*1=t by omega,Kn ht,ml,min2_eq,fin]
  refine Qd ⟨i+1,?_,⟨θ,rfl⟩,Qax,⟨rfl,Tv⟩⟩;show ws.length-(i+1)<ws.length-i;omega
 ·have hoff:¬onG g (x+ws[i].1) (y+ws[i].2):=λhh=>by have:=hz.2 hh;rw[this]at c1;cases c1
  have hz0:gv g f (x+ws[i].1) (y+ws[i].2)=0:=if_neg hoff;rw[hz0]at fin;refine⟨t,rfl,ht,za _ ho (za _ (Dp ht) ?_)⟩;rw[Re];refine Qd ⟨t,rfl,ht,ye (i:=ti2) (v:=int (min2 V0 (0+1))) (b:=b) (o:=0+t*1) (l:=il g.T.length (setI f t V0)) (st2:=st.sO b (.cells (il g.T.length (setI f t (Ba g f x y (f t) (ws.take (i+1))))))) rfl rfl rfl ho θf ?_ ?_⟩
  ·rw[yw,show 0+t*1=t by omega,Kn ht,ml,min2_eq,fin]
  refine Qd ⟨i+1,?_,⟨θ,rfl⟩,Qax,⟨rfl,Tv⟩⟩;show ws.length-(i+1)<ws.length-i;omega
def C7(o:Nat->Bool)(t:Nat):Int:=if o t then 128 else 0
def Fz(o:Nat->Bool)(i t:Nat):Int:=if t<i then C7 o t else 0
def ze6(o:Nat->Bool)(n:Nat):∀t,t<n->0<=C7 o t/\C7 o t<=128:=λt _=>by unfold C7;split<;>decide
def zd5(g:Gnd)(l:List Bld)(c:Int):AV:=lst 1 zn (ilL g.T.length (Gn g (qd g l c)))
def ygr(g:Gnd)(hg:zv g)(l:List Bld)(hl:l.length<=1000000000000)(hb:∀b∈l,qh b/\onP g b)(c:Int)(st:Store)(R:Ja)(h:R (zd5 g l c) st):
  Jb 274 [.agg (zw g),lst 6 zl l,int c] st R:=by
 have ha:=xj hg;have fwd_ok:∀d∈Ou,(d.1≠0\/d.2≠0)/\(-1<=d.1/\d.1<=1)/\(-1<=d.2/\d.2<=1):=ψ;have bwd_ok:∀d∈Mu,(d.1≠0\/d.2≠0)/\(-1<=d.1/\d.1<=1)/\(-1<=d.2/\d.2<=1):=ψ;refine Qb (c:=cfg 63) zb Tryz.func274 (AWp.seq (AWp.of_vc zb ?_));refine AWp.seq (AWp.of_vc zb ?_);refine K1 rfl (it:=ti29) (ie:=ti2) rfl rfl rfl rfl rfl (n:=(rws u8C g.T).length) ?_ ?_ (λb hf=>?_)
 ·rw[zi];show 8*_<=_;omega
 ·rw[zi];omega
 rw[zi,zhb];refine AWp.meetA (σ:=Unit) ⟨λ_=>[(3,.bx 3 0),(7,.av (blV b g.T.length))],λ_=>[(3,zw g)],λ_ st'=>st'=st.sO b (.cells (il g.T.length (C7 (qd g l c))))⟩ ?_ ?_
 ·refine AWp.of_vc zb (Mr g hg l hl hb c _ _ ?_)
  refine AWp.loop (σ:=Nat) ⟨λi=>[(3,.bx 3 0),(7,.av (blV b g.T.length)),(19,.av (opV g l c)),(20,.av (int (g.T.length:Nat))),(21,.av (int (i:Nat)))],λ_=>[(3,zw g)],
   λi st'=>i<=g.T.length/\st'=st.sO b (.cells (il g.T.length (Fz (qd g l c) i))),λi=>g.T.length-i⟩ zb ?_ ?_
  ·refine⟨0,Tv,⟨Fae _,?_⟩,⟨Tq,Tq,Tq,?_,Tq,Tv⟩,⟨rfl,Tv⟩⟩
   ·rw[show Fz (qd g l c) 0=λ_=>0 from funext λt=>if_neg (Fa3 t)]
   ·show LV.le (.av (int ((rws qu (blL g.T.length (qd g l c))).length:Nat))) (.av (int (g.T.length:Nat)));rw[zi,H6];exact Tq
  rintro i st' ⟨hi,rfl⟩;refine bcd (λh1=>?_) (λh1=>?_);rotate_left
  ·have:i=g.T.length:=θ;subst this;refine⟨(),?_,⟨Tq,Tq,Tv⟩,⟨rfl,Tv⟩⟩;show st.sO b (.cells (il g.T.length (Fz (qd g l c) g.T.length)))=st.sO b (.cells (il g.T.length (C7 (qd g l c))));rw[Sd (f:=Fz (qd g l c) g.T.length) (g:=C7 (qd g l c)) λt ht=>if_pos ht]
  have hlt:i<g.T.length:=θ;have ho:(st.sO b (.cells (il g.T.length (Fz (qd g l c) i)))).obj b=some (.cells (il g.T.length (Fz (qd g l c) i))):=zd _ _ _;have hlt2:i<(blL g.T.length (qd g l c)).length:=by rw[H6];exact hlt
  have s2:∀s,s≠i->Fz (qd g l c) (i+1) s=Fz (qd g l c) i s:=λs hs=>by
   unfold Fz;by_cases h3:s<i
   ·rw[if_pos h3,if_pos θ]
   ·rw[if_neg h3,if_neg θ]
  have s1:Fz (qd g l c) (i+1) i=C7 (qd g l c) i:=if_pos θ;refine⟨i,rfl,za _ (zp hlt2) (zk (λc1=>?_) (λc1=>?_))⟩
  ·rw[Kz hlt]at c1;refine⟨i,rfl,hlt,ye (i:=ti2) (v:=int 128) (b:=b) (o:=0+i*1) (l:=_) (st2:=st.sO b (.cells (il g.T.length (Fz (qd g l c) (i+1))))) rfl rfl rfl ho θf ?_ ?_⟩
   ·rw[yw,show 0+i*1=i by omega,<-zhc hlt _ s2,s1];unfold C7;rw[if_pos c1]
   refine Qd ⟨i+1,?_,⟨θ,rfl⟩,Qax,⟨rfl,Tv⟩⟩;show g.T.length-(i+1)<g.T.length-i;omega
  ·rw[Kz hlt]at c1;refine Qd ⟨i+1,?_,⟨θ,?_⟩,Qax,⟨rfl,Tv⟩⟩
   ·show g.T.length-(i+1)<g.T.length-i;omega
   ·refine congrArg (λf=>st.sO b (.cells (il g.T.length f))) (funext λs=>?_);by_cases h3:s=i
    ·subst h3;rw[s1];unfold C7 Fz;rw[if_neg θ,if_neg (by rw[c1];decide)]
    ·exact(s2 s h3).symm
 rintro _ _ rfl;refine AWp.meetA (σ:=Unit) ⟨λ_=>[(3,.bx 3 0),(7,.av (blV b g.T.length))],λ_=>[(3,zw g)],λ_ st'=>st'=st.sO b (.cells (il g.T.length (Av g (C7 (qd g l c)) g.T.length)))⟩ ?_ ?_
 ·refine AWp.of_vc zb ?_
  refine AWp.loop (σ:=Nat) ⟨λi=>[(3,.bx 3 0),(7,.av (blV b g.T.length)),(32,.av (int (g.T.length:Nat))),(33,.av (int (i:Nat)))],λ_=>[(3,zw g)],
   λi st'=>i<=g.T.length/\st'=st.sO b (.cells (il g.T.length (Av g (C7 (qd g l c)) i))),λi=>g.T.length-i⟩ zb ?_ ?_
  ·exact⟨0,Tv,⟨Fae _,rfl⟩,Qax,⟨rfl,Tv⟩⟩
  rintro i st' ⟨hi,rfl⟩;refine bcd (λh1=>?_) (λh1=>?_);rotate_left
  ·have:i=g.T.length:=θ;subst this;exact⟨(),rfl,⟨Tq,Tq,Tv⟩,⟨rfl,Tv⟩⟩
  have hlt:i<g.T.length:=θ;refine⟨ψ,zez g hg (Av g (C7 (qd g l c)) i) (lx hg (ze6 _ _) i hi) i hlt Ou fwd_ok ψ b _ _ (Qd ⟨i+1,?_,⟨θ,rfl⟩,Qax,⟨rfl,Tv⟩⟩)⟩;show g.T.length-(i+1)<g.T.length-i;omega
 rintro _ _ rfl;have hbA:=lx hg (ze6 (qd g l c) g.T.length) g.T.length (Fah _);have hroom:Gn g (qd g l c)=Df g (Av g (C7 (qd g l c)) g.T.length) g.T.length g.T.length:=rfl;generalize Av g (C7 (qd g l c)) g.T.length=FA at*;refine AWp.meetA (σ:=Unit) ⟨λ_=>[(7,.av (blV b g.T.length))],λ_=>[],λ_ st'=>st'=st.sO b (.cells (il g.T.length (Gn g (qd g l c))))⟩ ?_ ?_
 ·refine AWp.of_vc zb (Qd ?_)
  refine AWp.loop (σ:=Nat) ⟨λj=>[(3,.bx 3 0),(7,.av (blV b g.T.length)),(11,.av (int ((g.T.length:Int)-1-(j:Nat))))],λ_=>[(3,zw g)],
   λj st'=>j<=g.T.length/\st'=st.sO b (.cells (il g.T.length (Df g FA g.T.length j))),λj=>g.T.length-j⟩ zb ?_ ?_
  ·refine⟨0,Tv,⟨Fae _,rfl⟩,⟨Tq,Tq,?_,Tv⟩,⟨rfl,Tv⟩⟩;rw[show(g.T.length:Int)-1-((0:Nat):Int)=(g.T.length:Int)-1 by omega];exact Tq
  rintro j st' ⟨hj,rfl⟩;refine bcd (λh1=>?_) (λh1=>?_);rotate_left
  ·have:j=g.T.length:=θ;subst this;exact⟨(),by rw[hroom],⟨Tq,Tv⟩,Tv⟩
  have hlt:j<g.T.length:=θ;refine⟨ψ,ACalls.le (ys:=[.agg (zw g),blV b g.T.length,int ((g.T.length-1-j:Nat):Int),lst 2 K5 Mu]) ⟨Tt,Tt,by rw[show(g.T.length:Int)-1-(j:Int)=((g.T.length-1-j:Nat):Int) by omega];exact Tt,Tt,Tv⟩ (zez g hg (Df g FA g.T.length j) (zch hg hbA j hj) (g.T.length-1-j) θ Mu bwd_ok ψ b _ _ (Qd ⟨j+1,?_,⟨θ,rfl⟩,⟨Tq,Tq,?_,Tv⟩,⟨rfl,Tv⟩⟩))⟩
  ·show g.T.length-(j+1)<g.T.length-j;omega
  ·rw[show(g.T.length:Int)-1-((j+1:Nat):Int)=(g.T.length:Int)-1-(j:Nat)-1 by omega];exact Tq
 rintro _ _ rfl;refine AWp.freeze (d:=7) (b:=b) (k:=1) (n:=g.T.length) (cap:=g.T.length) (rows:=rws zn (ilL g.T.length (Gn g (qd g l c)))) (pad:=[]) rfl ?_ ?_ ?_ (Fah _) ?_ ?_ ?_
 ·rw[Fbi,ym3];exact zd _ _ _
 ·exact hf.2
 ·rw[zi,dk]
 ·intro row hr;obtain⟨x,_,rfl⟩:=Fag.1 hr;rfl
 ·intro row hr y hy;obtain⟨x,_,rfl⟩:=Fag.1 hr;simp[zn]at hy;exact⟨_,hy,rfl⟩
 rw[tw hf.1];exact AWp.of_vc zb (ret h)
def Hv(g:Gnd)(l:List Bld)(c s:Int)(i t:Nat):Bool:=if t<i then yd g l c s t else false
def ypk(g:Gnd)(hg:zv g)(l:List Bld)(hl:l.length<=1000000000000)(hb:∀b∈l,qh b/\onP g b)(c s:Int)(hs:0<=s/\s<=3)(st:Store)(R:Ja)(h:R (zhr g l c s) st):
  Jb 238 [.agg (zw g),lst 6 zl l,int c,int s] st R:=by
 have ha:=xj hg;refine Qb (c:=cfg 34) zb Tryz.func238 (AWp.seq (AWp.of_vc zb ?_));refine AWp.seq (AWp.of_vc zb ?_);refine K1 rfl (it:=ti32) (ie:=ti4) rfl rfl rfl rfl rfl (n:=(rws u8C g.T).length) ?_ ?_ (λb hf=>?_)
 ·rw[zi];show 1*_<=_;omega
 ·rw[zi];omega
 rw[zi,f8];refine AWp.meetA (σ:=Unit) ⟨λ_=>[(9,.av (blV b g.T.length))],λ_=>[],λ_ st'=>st'=st.sO b (.cells (bl g.T.length (yd g l c s)))⟩ ?_ ?_
 ·refine AWp.of_vc zb (ygr g hg l hl hb c _ _ ?_)
  refine AWp.loop (σ:=Nat) ⟨λi=>[(3,.av (int s)),(9,.av (blV b g.T.length)),(19,.av (zd5 g l c)),(20,.av (int (g.T.length:Nat))),(21,.av (int (i:Nat)))],λ_=>[],
   λi st'=>i<=g.T.length/\st'=st.sO b (.cells (bl g.T.length (Hv g l c s i))),λi=>g.T.length-i⟩ zb ?_ ?_
  ·refine⟨0,Tv,⟨Fae _,?_⟩,⟨Tq,Tq,Tq,?_,Tq,Tv⟩,Tv⟩
   ·trivial
   ·show LV.le (.av (int ((rws zn (ilL g.T.length (Gn g (qd g l c)))).length:Nat))) (.av (int (g.T.length:Nat)));rw[zi,dk];exact Tq
  rintro i st' ⟨hi,rfl⟩;refine bcd (λh1=>?_) (λh1=>?_);rotate_left
  ·have:i=g.T.length:=θ;subst this;refine⟨(),?_,⟨Tq,Tv⟩,Tv⟩;show st.sO b (.cells (bl g.T.length (Hv g l c s g.T.length)))=st.sO b (.cells (bl g.T.length (yd g l c s)));rw[yto (f:=Hv g l c s g.T.length) (g:=yd g l c s) λt ht=>if_pos ht]
  have hlt:i<g.T.length:=θ;have ho:(st.sO b (.cells (bl g.T.length (Hv g l c s i)))).obj b=some (.cells (bl g.T.length (Hv g l c s i))):=zd _ _ _;have hlt2:i<(ilL g.T.length (Gn g (qd g l c))).length:=by rw[dk];exact hlt
  have s2:∀q,q≠i->Hv g l c s (i+1) q=Hv g l c s i q:=λq hq=>by unfold Hv;grind
  have s1:Hv g l c s (i+1) i=yd g l c s i:=if_pos θ;refine⟨i,rfl,za _ (zp hlt2) ⟨i,rfl,hlt,ye (i:=ti4) (v:=V.bool (decide (s<(ilL g.T.length (Gn g (qd g l c)))[i]))) (b:=b) (o:=0+i*1) (l:=_) (st2:=st.sO b (.cells (bl g.T.length (Hv g l c s (i+1))))) rfl rfl rfl ho θp ?_ ?_⟩⟩
  ·grind[yw,Pa,ym5,ynx]
  refine Qd ⟨i+1,?_,⟨θ,rfl⟩,Qax,Tv⟩;grind
 rintro _ _ rfl;refine AWp.freeze (d:=9) (b:=b) (k:=1) (n:=g.T.length) (cap:=g.T.length) (rows:=rws qu (blL g.T.length (yd g l c s))) (pad:=[]) rfl ?_ ?_ ?_ (Fah _) ?_ ?_ ?_
 ·rw[ze7];exact zd _ _ _
 ·exact hf.2
 ·rw[zi,H6]
 ·intro row hr;obtain⟨x,_,rfl⟩:=Fag.1 hr;rfl
 ·intro row hr y hy;obtain⟨x,_,rfl⟩:=Fag.1 hr;simp[qu]at hy;exact⟨_,hy,rfl⟩
 rw[tw hf.1];exact AWp.of_vc zb (ret h)
def jf(g:Gnd)(l:List Bld)(c s:Int):List AV:=zw g++[int c,zhr g l c s]
def yox(g:Gnd)(hg:zv g)(l:List Bld)(hl:l.length<=1000000000000)(hb:∀b∈l,qh b/\onP g b)(c s:Int)(hs:0<=s/\s<=3)(st:Store)(R:Ja)(h:∀b,Fresh st b->R (ptr b) (st.sO b (.cells (jf g l c s)))):
  Jb 209 [.agg (zw g),lst 6 zl l,int c,int s] st R:=by
 refine Qa (c:=cfg 18 [17] []) zb Tryz.func209 ?_;refine Qc zb yec ?_;exact⟨ypk g hg l hl hb c s hs _ _ ⟨Qe,⟨λb hf=>⟨Qe,Qbb (ret (h b hf))⟩,Tv⟩⟩,Tv⟩
end Go.Proofs
namespace Go.Proofs
open Go Go.V
set_option maxRecDepth 20000
set_option maxHeartbeats 4000000
def zkd{m n:Nat}{p:Prop}(h:m<=n)(k:p):(bif Nat.ble m n then p else False):=by have:Nat.ble m n=true:=Nat.ble_eq▸h;rw[this];exact k
def yka(x y:Int)(hx:0<=x)(hx2:x<18446744073709551616)(hy:0<=y)(hy2:y<18446744073709551616)(st:Store)(R:Ja)(h:R (.tup (Bm (x*y))) st):
  Jb 90 [u64 x,u64 y] st R:=by
 refine Qy 30 Tryz.func90 ?_;exact pj x y hx hx2 hy hy2 _ _ (ret h)
def m4(v:Int)(n:Nat)(h0:1<=n)(hn:n<=1000000)(st:Store)(R:Ja)(h:∀b,Fresh st b->R (.s (.slice (some ⟨b,0,none⟩) n n)) (st.sO b (.cells (il n λ_=>v)))):
  Jb 62 [lst 1 zn [v],int (n:Nat)] st R:=by
 refine Qy 48 Tryz.func62 ?_;have w2:IntKind.u64.wrap (n:Int)=n:=H8 θ θ;have w1:IntKind.u64.wrap ((rws zn [v]).length:Nat)=1:=rfl;show ACalls _ _ [u64 (IntKind.u64.wrap _),u64 (IntKind.u64.wrap (n:Int))] _ _;rw[w2,w1];refine yka 1 n θ θ θ θ _ _ ?_;have e1:(1*(n:Int))=n:=Int.one_mul _;rw[e1];have e2:Bm (n:Int)=[u64 0,u64 n]:=by unfold Bm;rw[Fd5 θ θ,Fet θ θ]
 rw[e2];refine bcd (λc3=>absurd c3 θ) (λc3=>Qd (K1 rfl (it:=ti29) (ie:=ti2) rfl rfl rfl rfl rfl (n:=n) ?_ ?_ (λb hf=>?_)))
 ·show 8*_<=_;omega
 ·omega
 rw[zhb];refine Pf rfl rfl rfl rfl (it:=ti29) (ie:=ti2) rfl rfl rfl (src:=lst 1 zn [v]) (SrcN.rows (rows:=rws zn [v]) rfl) (n:=1) (by show 1=min 1 n;omega) (zd _ _ _) (by rw[jo];show 0+1*1<=n;omega) ?_;rw[yw];have e3:zq (il n λ_=>0) 0 (rws zn [v]).flatten=il n (Cd v 1):=by
  show zq (il n λ_=>0) 0 [int v]=_;rw[Kn (t:=0) θ];refine Sd λt ht=>?_;unfold setI Cd;by_cases h0:t=0
  ·rw[if_pos h0,if_pos θ]
  ·rw[if_neg h0,if_neg θ]
 rw[e3]
 refine AWp.loop (σ:=Nat) ⟨λk=>[(7,.av (.s (.slice (some ⟨b,0,none⟩) n n))),(8,.av (int (k:Nat)))],λ_=>[],
  λk st'=>1<=k/\k<=n/\st'=st.sO b (.cells (il n (Cd v k))),λk=>n-k⟩ zb ?_ ?_
 ·exact⟨1,Tv,⟨Fah _,h0,rfl⟩,⟨Tq,Tq,Tv⟩,Tv⟩
 rintro k st' ⟨hk1,hk,rfl⟩;refine bcd (λc4=>?_) (λc4=>?_);rotate_left
 ·have:k=n:=θ;subst this;rw[ym4];exact ret (h b hf)
 have hlt:k<n:=θ;have hb:(st.sO b (.cells (il n (Cd v k)))).obj b=some (.cells (il n (Cd v k))):=zd _ _ _;obtain⟨m,hm⟩:∃m,m=min k (n-k):=⟨_,rfl⟩
 refine Qc zb yb1 ⟨k,n,rfl,rfl,θ,Fah _,.inl ⟨hlt,⟨0,k,rfl,rfl,Fae _,θ,.inl ⟨θ,?_⟩⟩⟩⟩;refine⟨Pf rfl rfl rfl rfl (it:=ti29) (ie:=ti2) rfl rfl rfl (SrcN.obj (n:=m) hb (by rw[jo];show 0+0*1+m*1<=n;omega) (λy hy=>by have:=List.mem_of_mem_drop (Fcs hy);obtain⟨t,_,rfl⟩:=Fag.1 this;rfl)) (hm.trans (by rw[Nat.sub_zero])) hb (by rw[jo];show 0+k*1+m*1<=n;omega) ⟨Tv,?_⟩,Tv⟩;rw[yw];refine Qd (Qbb ⟨k+m,?_,⟨θ,θ,?_⟩,⟨Tq,Tq,Tv⟩,Tv⟩)
 ·show n-(k+m)<n-k;omega
 ·exact congrArg (λl=>st.sO b (.cells l)) (yg9 θ θ)
def td(u:Int)(st:Store)(R:Ja)(h:R (V.bool true) st):Jb 360 [int u] st R:=by refine Qy 3 Tryz.func360 ?_;exact ret h
def yos(w:Nat)(h1:4<=w)(h2:w<8)(st:Store)(R:Ja)(h:R (.tup [int (Ll w:Nat),int (Lk w:Nat)]) st):Jb 367 [int (w:Nat)] st R:=by
 have hw:w=4\/w=5\/w=6\/w=7:=θ;rcases hw with rfl|rfl|rfl|rfl
 all_goals
  refine Qy 10 Tryz.func367 ?_;refine Qc zb yca ?_;exact⟨_,rfl,ψ,⟨_,rfl,ψ,⟨⟨Qe,⟨⟨Tv,ret h⟩,Tv⟩⟩,Tv⟩⟩⟩
def zl6(st:Store)(R:Ja)(h:R (.agg dirC) st):Jb 321 [] st R:=by refine Qy 10 Tryz.func321 ?_;exact ret h
def ga(g:Gnd)(hg:zv g)(t:Nat)(ht:t<g.T.length)(st:Store)(R:Ja)(h:R (Pb g t) st):Jb 302 [.agg (zw g),int (t:Nat)] st R:=by
 have hm:=xj hg;have htb:=I7 hg (t:=t) θ;have hq:=Ps (t:=t) hg.1.1;have hq2:=Pt (t:=t) hg.1.1;have hg1:=hg.1;have hg2:=hg.2.1;have hbes:=λ(i:Nat) (hi:i<8)=>ytt g t hi;obtain⟨x,hx⟩:∃x,x=(t:Int)%g.W:=⟨_,rfl⟩
 obtain⟨y,hy⟩:∃y,y=(t:Int)/g.W:=⟨_,rfl⟩
 rw[<-hx,<-hy]at htb hbes;rw[<-hx]at hq;rw[<-hy]at hq2;refine Qy 50 Tryz.func302 ?_;refine Qc zb ycp ?_;refine⟨θ,⟨θ,ze θ0 ⟨⟨?_,⟨⟨Tv,?_⟩,Tv⟩⟩,Tv⟩⟩⟩
 ·exact⟨rfl,Tv⟩
 rw[hq,hq2];refine zl6 _ _ ?_
 refine AWp.loop (σ:=Nat) ⟨λi=>[(2,.bx 2 0),(4,.bx 4 0),(5,.av (int x)),(6,.av (int y)),(17,.av (.agg dirC)),(18,.av (int (i:Nat)))],λi=>[(2,zw g),(4,il 8 (G6 g t i))],
  λi st'=>i<=8/\st'=st,λi=>8-i⟩ zb ?_ ?_
 ·exact⟨0,Tv,⟨Fae _,rfl⟩,Qax,⟨rfl,rfl,Tv⟩⟩
 rintro i st' ⟨hi,rfl⟩;refine bcd (λc1=>?_) (λc1=>?_);rotate_left
 ·have:i=8:=θ;subst this;refine ret ?_;have e:AV.agg (il 8 (G6 g t 8))=Pb g t:=congrArg AV.agg (yts g t);rw[<-e]at h;exact h
 have hlt:i<8:=θ;have hr:=yrp hlt;have hd:=yro hlt;have hbe:=hbes i hlt;have hst:=ytr g t (i:=i);generalize dirL.getD i (0,0)=d at*;refine⟨i,rfl,hlt,xr (i:=ti382) (row:=K5 d) rfl rfl hr ⟨i,rfl,hlt,zkd (by rw[jo];show 0+i*1+1<=8;omega) (Iw ⟨0,rfl,ψ,Qd ⟨1,rfl,ψ,Qd (oi _ _ _ _ _ (λz hz=>zk (λc2=>?_) (λc2=>?_)))⟩⟩)⟩⟩
 ·have hon:=hz.1 c2;have⟨e1,e2,_,_⟩:=Fu hg hon;have hpos:0<=g.W*(y+d.2):=Fa8 θ (by have:=hon.2.1;omega);refine⟨0,rfl,ψ,Qd ⟨1,rfl,ψ,Qd (Qd (Qd ⟨i,rfl,hlt,?_⟩))⟩⟩;refine zkd (by
   show 0+i*1+1<=(zq (il 8 (G6 g t i)) (0+i*1) [int (-1)]).length;rw[show 0+i*1=i by omega,Kn hlt,jo];omega) ?_
  refine Iw (Qd ⟨i+1,?_,⟨θ,rfl⟩,Qax,⟨rfl,?_,Tv⟩⟩)
  ·show 8-(i+1)<8-i;omega
  ·show some (zq (zq (il 8 (G6 g t i)) (0+i*1) [int (-1)]) (0+i*1) [int (x+d.1+g.W*(y+d.2))])=some (il 8 (G6 g t (i+1)));rw[show 0+i*1=i by omega,Kn hlt,Kn hlt,ml,hst];rw[hbe];unfold L9;rw[if_pos hon]
 ·have hon:¬onG g (x+d.1) (y+d.2):=λhh=>by rw[hz.2 hh]at c2;cases c2
  refine Qd ⟨i+1,?_,⟨θ,rfl⟩,Qax,⟨rfl,?_,Tv⟩⟩
  ·show 8-(i+1)<8-i;omega
  ·show some (zq (il 8 (G6 g t i)) (0+i*1) [int (-1)])=some (il 8 (G6 g t (i+1)));rw[show 0+i*1=i by omega,Kn hlt,hst];rw[hbe];unfold L9;rw[if_neg hon]
section
variable {g:Gnd} {t w:Nat} {c:Int}
def zjb(hg:zv g)(ht:t<g.T.length):g.T[t].toNat<=5:=hg.2.2.2 _ (Faa ht)
theorem zjc(g:Gnd)(c:Int)(ht:t<g.T.length):G4 g c t=Fw c g.T[t].toNat:=by unfold G4;rw[Fao,Fab ht];rfl
def zab(hg:zv g)(t:Nat)(hw:w<8):yn g t w<0\/∃u:Nat,yn g t w=(u:Int)/\u<g.T.length:=by
 rcases ge hg (t:=t) hw with h|h
 ·exact .inl θ
 ·exact .inr h
def yak{ok:Nat->Bool}(h:w9 ok (yn g t w)=false):xh g ok c t w=0:=by unfold xh;rw[h];simp
def yal{ok:Nat->Bool}(h:w9 ok (yn g t w)=true)(hw:w<4):xh g ok c t w=5*(G4 g c t+G4 g c (yn g t w).toNat):=by unfold xh;rw[if_pos h,if_pos hw]
def yan{ok:Nat->Bool}(h:w9 ok (yn g t w)=true)(hw:¬w<4)(ha:w9 ok (yn g t (Ll w))=true)(hb:w9 ok (yn g t (Lk w))=true):xh g ok c t w=7*(G4 g c t+G4 g c (yn g t w).toNat):=by unfold xh;rw[if_pos h,if_neg hw,if_pos ⟨ha,hb⟩]
def yam{ok:Nat->Bool}(hw:¬w<4)(ha:w9 ok (yn g t (Ll w))=false\/w9 ok (yn g t (Lk w))=false):xh g ok c t w=0:=by
 unfold xh;rw[if_neg hw];split
 ·rw[if_neg];rintro⟨h1,h2⟩;rcases ha with ha|ha
  ·rw[ha]at h1;cases h1
  ·rw[ha]at h2;cases h2
 ·rfl
theorem sm{ok:Nat->Bool}{u:Int}(h:u<0):w9 ok u=false:=by unfold w9;rw[decide_eq_false θ];rfl
theorem Ow(ok:Nat->Bool)(u:Nat):w9 ok (u:Int)=ok u:=by unfold w9;rw[decide_eq_true θ,Fbc];rfl
def zcm{S:Store}{nb:Nat}(hg:zv g){l:List Bld}{s:Int}(hn:S.obj nb=some (.cells (jf g l c s)))(t:Nat)(ht:t<g.T.length)(way:Nat)(hw:way<8)(R:Ja)
  (h:R (int (xh g (yd g l c s) c t way)) S):Jb 361 [ptr nb,int (t:Nat),Pb g t,int (way:Nat),.clos 360 []] S R:=by
 have hgl:∀u,u<g.T.length->u<(blL g.T.length (yd g l c s)).length:=λu hu=>by rw[H6];exact hu
 have p1:=W9 c (g.T[t]).toNat;refine Qy 124 Tryz.func361 ?_;refine⟨way,rfl,hw,za _ (Dp hw) ?_⟩;have hor:=zab hg t hw;have hlo:=λh=>yal (g:=g) (ok:=yd g l c s) (c:=c) (t:=t) (w:=way) h;have hhi:=λh=>yan (g:=g) (ok:=yd g l c s) (c:=c) (t:=t) (w:=way) h;have hno:=yak (g:=g) (ok:=yd g l c s) (c:=c) (t:=t) (w:=way);have hhn:=λh=>yam (g:=g) (ok:=yd g l c s) (c:=c) (t:=t) (w:=way) h;generalize xh g (yd g l c s) c t way=E at*;generalize hU:yn g t way=U at*;refine bcd (λc1=>?_) (λc1=>?_)
 ·rw[hno (sm c1)]at h;exact ret h
 obtain⟨u,rfl,hul⟩:∃u:Nat,U=(u:Int)/\u<g.T.length:=by
  rcases hor with h1|h1
  ·exact absurd h1 c1
  ·exact h1
 refine Qbc ?_;refine⟨u,rfl,za _ (zp (hgl u hul)) ?_⟩;rw[Kz hul];refine yj (zk (λc2=>?_) (λc2=>?_));rotate_left
 ·rw[hno (by rw[Ow,c2])]at h;exact ret h
 refine td _ _ _ ?_;have hfu:w9 (yd g l c s) (u:Int)=true:=by rw[Ow,c2]
 rw[Fbc]at hlo hhi;rw[zjc g c ht,zjc g c hul]at hlo hhi;have p2:=W9 c (g.T[u]).toNat;refine Qc zb ycg (Qbc (Qbc ?_));refine⟨t,rfl,za _ (zp ht) (Qbc (Qbc ?_))⟩;refine⟨u,rfl,za _ (zp hul) ⟨nr c g.T[t] (zjb hg ht) _ _ ⟨?_,?_⟩,Tv⟩⟩
 ·repeat(first|exact Tv|refine⟨rfl,?_⟩|refine⟨za (o:=S.obj nb) _ hn rfl,?_⟩)
 refine⟨nr c g.T[u] (zjb hg hul) _ _ ⟨Qe,Qd (Qbb ?_)⟩,Tv⟩;generalize Fw c g.T[t].toNat=P1 at*;generalize Fw c g.T[u].toNat=P2 at*;refine bcd (λc3=>?_) (λc3=>?_)
 ·refine Qd ?_;rw[hlo hfu θ]at h;exact ret h
 have h4:¬way<4:=θ;have hsa:Ll way<8:=by unfold Ll;omega
 have hsb:Lk way<8:=by unfold Lk;omega
 refine yos way θ hw _ _ ?_;have hora:=zab hg t hsa;have horb:=zab hg t hsb;have hhi:=hhi hfu h4;have hhn:=hhn h4;have ha1:=Dp (n:=8) (f:=yn g t) hsa;have hb1:=Dp (n:=8) (f:=yn g t) hsb;generalize hA:Ll way=wa at*;generalize hB:Lk way=wb at*;generalize hUA:yn g t wa=ua at*;generalize hUB:yn g t wb=ub at*;refine Qc zb ycf ⟨wa,rfl,hsa,za _ ha1 ?_⟩;have no:w9 (yd g l c s) ua=false\/w9 (yd g l c s) ub=false->R (int 0) S:=λhh=>by rw[hhn hh]at h;exact h
 refine bcd (λca=>?_) (λca=>?_)
 ·exact Qbb (Qbb (ret (no (.inl (sm ca)))))
 obtain⟨va,rfl,hva⟩:∃u:Nat,ua=(u:Int)/\u<g.T.length:=by
  rcases hora with h1|h1
  ·exact absurd h1 ca
  ·exact h1
 refine⟨wb,rfl,hsb,za _ hb1 (bcd (λcb=>?_) (λcb=>?_))⟩
 ·exact Qbb (Qbb (ret (no (.inr (sm cb)))))
 obtain⟨vb,rfl,hvb⟩:∃u:Nat,ub=(u:Int)/\u<g.T.length:=by
  rcases horb with h1|h1
  ·exact absurd h1 cb
  ·exact h1
 refine Qbc ?_;refine⟨wa,rfl,hsa,za _ ha1 ⟨va,rfl,za _ (zp (hgl va hva)) ?_⟩⟩;rw[Kz hva];refine yj (zk (λda=>?_) (λda=>?_));rotate_left
 ·exact Qbb (Qbb (ret (no (.inl (by rw[Ow,da])))))
 refine Qbc ?_;refine⟨wb,rfl,hsb,za _ hb1 ⟨vb,rfl,za _ (zp (hgl vb hvb)) ?_⟩⟩;rw[Kz hvb];refine yj (zk (λdb=>?_) (λdb=>?_));rotate_left
 ·exact Qbb (Qbb (ret (no (.inr (by rw[Ow,db])))))
 refine⟨wa,rfl,hsa,za _ ha1 ⟨td _ _ _ ⟨Tv,⟨wb,rfl,hsb,za _ hb1 ⟨td _ _ _ ⟨Tv,Qd ?_⟩,Tv⟩⟩⟩,Tv⟩⟩;rw[hhi (by rw[Ow,da]) (by rw[Ow,db])]at h;exact ret h
end
section
variable {G F:Store} {p:Nat}
def yhv(R:Ja)(h:∀F p,QOf F p []->zj F G->R (ptr p) (F.un G)):Jb 364 [] G R:=by
 have:=ACalls.frame (a:=Store.empty) (g:=G) (λi h1=>by rcases h1 with h1|h1<;>exact absurd rfl h1) (yhu Store.empty (λr a'=>∃p,r=ptr p/\QOf a' p []) (λp hp=>⟨p,rfl,.inl ⟨zd _ _ _,rfl⟩⟩)) (R':=R) (λr a' ⟨p,e,hc⟩ hd=>e▸h a' p hc hd)
 rwa [vo]at this
def m6{l:List (Int×Int)}(hq:QOf F p l)(hl:l.length<=1000000)(hh:Ad l)(hd:zj F G)(x:Int×Int)(R:Ja)
  (h:∀F' l',QOf F' p l'->Ad l'->l'.Perm (x::l)->zj F' G->R (.tup []) (F'.un G)):Jb 365 [ptr p,int x.1,int x.2] (F.un G) R:=
 ACalls.frame hd (yhm hq hl hh x (λr a'=>r=.tup []/\∃l',QOf a' p l'/\Ad l'/\l'.Perm (x::l)) (λF' l' g1 g2 g3=>⟨rfl,l',g1,g2,g3⟩)) (R':=R) (λr a' ⟨e,l',g1,g2,g3⟩ hd=>e▸h a' l' g1 g2 g3 hd)
def m9{l:List (Int×Int)}(hq:QOf F p l)(hl:l.length<=1000000)(hh:Ad l)(hd:zj F G)(R:Ja)
  (h:∀F' o l',QOf F' p l'->Ad l'->zj F' G->l.Perm (o.toList++l')->(∀x,o=some x->∀e∈x::l',¬qlt e x)->(o=none->l'=[])->R (.tup [int (rk o),int (Vs o),V.bool o.isSome]) (F'.un G)):Jb 366 [ptr p] (F.un G) R:=
 ACalls.frame hd (yhp hq hl hh (λr a'=>∃o l',r=.tup [int (rk o),int (Vs o),V.bool o.isSome]/\QOf a' p l'/\Ad l'/\l.Perm (o.toList++l')/\(∀x,o=some x->∀e∈x::l',¬qlt e x)/\(o=none->l'=[]))
  (λe=>⟨none,[],rfl,e▸hq,e▸hh,δ,λx h=>ω,λ_=>rfl⟩)
  (λh0 F' l' g1 g2 g3=>⟨some (qat l 0),l',rfl,g1,g2,g3,λx e=>by grind[yhr],λh=>ω⟩)) (R':=R) (λr a' ⟨o,l',e,g1,g2,g3,g4,g5⟩ hd=>e▸h a' o l' g1 g2 hd g3 g4 g5)
def yot{S:Store}{nb:Nat}{g:Gnd}(hg:zv g){l:List Bld}{c s:Int}(hn:S.obj nb=some (.cells (jf g l c s)))(goal:Nat)(hgo:goal<g.T.length)(R:Ja)
  (h:∀b,Fresh S b->(∀u,-1<=Ak g (yd g l c s) c goal u/\Ak g (yd g l c s) c goal u<=2000000)->R (.s (.slice (some ⟨b,0,none⟩) g.T.length g.T.length)) (S.sO b (.cells (il g.T.length (Ak g (yd g l c s) c goal))))):
  Jb 359 [ptr nb,int (goal:Nat),.clos 360 []] S R:=by
 have ha:=xj hg;have hT:g.T.length<=16384:=θ;have hgl:∀u,u<g.T.length->u<(blL g.T.length (yd g l c s)).length:=λu hu=>by rw[H6];exact hu
 refine Qy 121 Tryz.func359 ?_;refine⟨ψ,Qbc ?_⟩;show ACalls _ _ [_,int ((rws u8C g.T).length:Nat)] _ _;rw[zi];refine m4 (-1) g.T.length θ θ _ _ (λb hf=>?_);have hnb:nb≠b:=λe=>by rw[e,hf.1]at hn;cases hn
 have hn1:(S.sO b (.cells (il g.T.length λ_=>-1))).obj nb=some (.cells (jf g l c s)):=(zf hnb).trans hn;refine za (o:=(S.sO b _).obj nb) _ hn1 ⟨goal,rfl,za _ (zp (hgl goal hgo)) ?_⟩;rw[Kz hgo];refine yj (zk (λc1=>?_) (λc1=>?_));rotate_left
 ·rw[ypy c1]at h;exact ret (h b hf λu=>⟨Fcr (-1),show(-1:Int)<=2000000 by decide⟩)
 refine K1 rfl (it:=ti32) (ie:=ti4) rfl rfl rfl rfl rfl (n:=g.T.length) ?_ ?_ (λb2 hf2=>?_)
 ·show 1*_<=_;omega
 ·omega
 rw[f8];have hbb:b≠b2:=λe=>by have:=hf2.1;grind[zd]
 have hst0:(S.sO b (.cells (il g.T.length λ_=>-1))).sO b2 (.cells (bl g.T.length λ_=>false))=xn S b b2 g.T.length (λ_=>-1) (λ_=>false):=rfl;rw[hst0];refine⟨goal,rfl,hgo,ye (i:=ti2) (v:=int 0) (b:=b) (o:=0+goal*1) (l:=il g.T.length λ_=>-1) (st2:=xn S b b2 g.T.length (yh (λ_=>-1) goal 0) (λ_=>false)) rfl rfl rfl (zh5 hbb _ _) θf ?_ ?_⟩
 ·rw[dh _ _ _ _ hgo,zh4 hbb]
 refine yhv _ (λF p hQ hdis=>m6 hQ φ (λj h0 hj=>by simp at hj) hdis (0,(goal:Int)) _ (λF l1 hQ hH hP hdis=>?_));have hd0:∀u,yh (λ_=>(-1:Int)) goal 0 u=if u=goal then 0 else -1:=λu=>rfl
 have hDJ:=yri (Cs g (yd g l c s) c) hgo hd0;have hcb:=yr7 hgo hd0;have hback:∀F d dn,(Store.un F (xn S b b2 g.T.length d dn)).Has (S.sO b (.cells (il g.T.length d))):=λF d dn=>ypd hf hf2 hbb;have hlen:l1.length<=1000000:=by rw[hP.length_eq];simp
 have hlen1:l1.length=1:=by rw[hP.length_eq];simp
 have hfo:=λd dn=>ypa (n:=g.T.length) hf hf2 hn d dn;have hfd:=λd dn=>zh5 (S:=S) (n:=g.T.length) hbb d dn;have hfn:=λd dn=>ypb (S:=S) (b:=b) (b2:=b2) (n:=g.T.length) d dn;have hsd:=λd d' dn=>zh4 (S:=S) (n:=g.T.length) hbb d d' dn;have hsn:=λd dn dn'=>yo9 (S:=S) (b:=b) (b2:=b2) (n:=g.T.length) d dn dn';have hdd:=λ(F:Store) d d' dn dn' (h:zj F (xn S b b2 g.T.length d dn))=>ypc (d':=d') (dn':=dn') h;generalize hd1:yh (λ_=>(-1:Int)) goal 0=d at*;refine m9 hQ hlen hH hdis _ (λF' o l' g1 g2 g3 g4 g5 g6=>?_)
 refine AWp.loop (σ:=(Nat->Int)×(Nat->Bool)×Store×Option (Int×Int)×List (Int×Int)×Int) ⟨λq=>[(0,.av (ptr nb)),(2,.av (.clos 360 [])),(7,.av (.s (.slice (some ⟨b,0,none⟩) g.T.length g.T.length))),(8,.av (.s (.slice (some ⟨b2,0,none⟩) g.T.length g.T.length))),(9,.av (ptr p)),(10,.av (int (rk q.2.2.2.1))),(11,.av (int (Vs q.2.2.2.1))),(12,.av (V.bool q.2.2.2.1.isSome))],λ_=>[],
  λq st'=>st'=q.2.2.1.un (xn S b b2 g.T.length q.1 q.2.1)/\QOf q.2.2.1 p q.2.2.2.2.1/\Ad q.2.2.2.2.1/\zj q.2.2.1 (xn S b b2 g.T.length q.1 q.2.1)/\DJ (Cs g (yd g l c s) c) g.T.length goal q.1 q.2.1 (q.2.2.2.1.toList++q.2.2.2.2.1) q.2.2.2.2.2 L7∧
   (∀x,q.2.2.2.1=some x->∀e∈x::q.2.2.2.2.1,¬qlt e x)/\(q.2.2.2.1=none->q.2.2.2.2.1=[])/\Ms g.T.length q.1/\9*Gp g.T.length q.2.1+(q.2.2.2.1.toList++q.2.2.2.2.1).length<=9*g.T.length+1,λq=>9*Gp g.T.length q.2.1+(q.2.2.2.1.toList++q.2.2.2.2.1).length⟩ zb ?_ ?_
 ·refine⟨(d,λ_=>false,F',o,l',0),Tv,⟨rfl,g1,g2,g3,tp hDJ (hP.symm.trans g4),g5,g6,hcb,?_⟩,Qax,Tv⟩;have:=yi8 g.T.length λ_=>false;dsimp only;rw[<-g4.length_eq];omega
 clear hdis;clear g1 g2 g3 g4 g5 g6 hDJ hcb hQ hH hP hlen hlen1 hd0 hd1;rintro⟨d,dn,F,o,q,cur⟩ st' ⟨rfl,hQ,hH,hdis,hDJ,hmin,hnil,hcb,hmu⟩;dsimp only at hQ hH hdis hDJ hmin hnil hcb hmu⊢;cases o with
 |none=>
  have:q=[]:=hnil rfl;subst this;have e:=ypz c1 (yrj hDJ);refine Bu (Tt) (hback F d dn) ?_;have:=h b hf;rw[e]at this;exact this λu=>by have h1:=hDJ.lab u;have h2:=uc hcb u;omega
 |some x=>
 have⟨t,ht,htn,hd0,hdx,hcx⟩:=hDJ.ent x φ;have hmin:=hmin x rfl;have hlen:q.length<=1000000:=δ;have hxt:Vs (some x)=(t:Int):=ht;have hq9:(Option.toList (some x)++q).length=q.length+1:=φ;rw[hq9]at hmu;rw[hxt];refine⟨t,rfl,htn,za (o:=(F.un (xn S b b2 g.T.length d dn)).obj b2) _ (zg (hfn d dn)) (za _ (zaa htn) ?_)⟩;cases hdt:dn t with
 |true=>
  have hDJ2:=yrg (q':=q) hDJ ht (List.Perm.refl _) hdt;refine m9 hQ hlen hH hdis _ (λF' o l' g1 g2 g3 g4 g5 g6=>⟨(d,dn,F',o,l',cur),?_,⟨rfl,g1,g2,g3,tp (hDJ2) g4,g5,g6,hcb,?_⟩,Qax,Tv⟩)
  ·show 9*Gp g.T.length (dn)+(o.toList++l').length<9*Gp g.T.length dn+(Option.toList (some x)++q).length;rw[<-g4.length_eq,hq9];omega
  ·dsimp only;rw[<-g4.length_eq];omega
 |false=>
 have⟨hk,hDJ1⟩:=yrf (q':=q) hDJ ht (List.Perm.refl _) hmin hdt;have hopen:=yi7 htn hdt;have hokt:=yrh hDJ c1 hd0;refine⟨t,rfl,htn,ye (i:=ti4) (v:=V.bool true) (b:=b2) (o:=0+t*1) (l:=bl g.T.length dn) (st2:=F.un (xn S b b2 g.T.length d (yh dn t true))) rfl rfl rfl (zg (hfn d dn)) θp ?_ ?_⟩
 ·rw[ytm _ _ _ _ htn,zy,hsn]
 refine za (o:=(F.un (xn S b b2 g.T.length d (yh dn t true))).obj nb) _ (zg (hfo _ _)) (ga g hg t htn _ _ ?_);have hdis:=hdd F d d dn (yh dn t true) hdis;have hDJ:=zma hDJ1;have hdn1:yh dn t true t=true:=Cx _ _ _;have hbig:=uc hcb t;have hbn:=λ(w:Nat) (hw:w<8)=>ge hg (t:=t) hw
 refine AWp.loop (σ:=Nat×(Nat->Int)×Store×List (Int×Int)) ⟨λy=>[(0,.av (ptr nb)),(2,.av (.clos 360 [])),(7,.av (.s (.slice (some ⟨b,0,none⟩) g.T.length g.T.length))),(8,.av (.s (.slice (some ⟨b2,0,none⟩) g.T.length g.T.length))),(9,.av (ptr p)),(10,.av (int x.1)),(11,.av (int (t:Nat))),(13,.bx 13 0),(70,.av (Pb g t)),(71,.av (int (y.1:Nat)))],λ_=>[(13,il 8 (yn g t))],
  λy st'=>y.1<=8/\st'=y.2.2.1.un (xn S b b2 g.T.length y.2.1 (yh dn t true))/\QOf y.2.2.1 p y.2.2.2/\Ad y.2.2.2/\zj y.2.2.1 (xn S b b2 g.T.length y.2.1 (yh dn t true))/\DJ (Cs g (yd g l c s) c) g.T.length goal y.2.1 (yh dn t true) y.2.2.2 x.1 (M9 g (yd g l c s) c t y.1)/\y.2.1 t=x.1/\Ms g.T.length y.2.1/\y.2.2.2.length<=q.length+y.1,λy=>8-y.1⟩ zb ?_ ?_
 ·exact⟨(0,d,F,q),Tv,⟨Fae _,rfl,hQ,hH,hdis,hDJ,hk.symm,hcb,Fah _⟩,Qax,⟨rfl,Tv⟩⟩
 have hx0:0<=x.1:=θ;have hx1:x.1<=84*(g.T.length:Int):=θ;clear hQ hH hdis hDJ hDJ1 hcb hbig hmin hnil hd0 hdx;rintro⟨i,d,F,m⟩ st' ⟨hi,rfl,hQ,hH,hdis,hDJ,hdt1,hcb,hml⟩;dsimp only at hi hQ hH hdis hDJ hdt1 hcb hml⊢;refine bcd (λc2=>?_) (λc2=>?_);rotate_left
 ·have:i=8:=θ;subst this;have hlen:m.length<=1000000:=θ;have hDJ2:=zmb hDJ;refine m9 hQ hlen hH hdis _ (λF' o l' g1 g2 g3 g4 g5 g6=>⟨(d,yh dn t true,F',o,l',x.1),?_,⟨rfl,g1,g2,g3,tp (hDJ2) g4,g5,g6,hcb,?_⟩,Qax,Tv⟩)
  ·show 9*Gp g.T.length (yh dn t true)+(o.toList++l').length<9*Gp g.T.length dn+(Option.toList (some x)++q).length;rw[<-g4.length_eq,hq9];omega
  ·dsimp only;rw[<-g4.length_eq];omega
 have hlt:i<8:=θ;refine⟨i,rfl,hlt,za _ (di hlt) (zcm hg (zg (hfo _ _)) t htn i hlt _ ?_)⟩;have hsb:=zco g (yd g l c s) c t i;have hskip:=ib hDJ;have hedge:=yqv (g:=g) (ok:=yd g l c s) (c:=c) (t:=t) (way:=i) hokt htn hlt;have hor:=hbn i hlt;have hfr:0<xh g (yd g l c s) c t i->0<=yn g t i:=λhp=>(sk (l6 (g:=g) (ok:=yd g l c s) (c:=c) (t:=t) (way:=i) θ)).1;generalize hC:xh g (yd g l c s) c t i=C at*;generalize hU:yn g t i=U at*
 -- nothing to note:on with the next way
 have next:(0<C->∀u:Nat,U=u->0<=d u/\d u<=d t+C)->∃y:Nat×(Nat->Int)×Store×List (Int×Int),8-y.1<8-i/\(y.1<=8/\F.un (xn S b b2 g.T.length d (yh dn t true))=y.2.2.1.un (xn S b b2 g.T.length y.2.1 (yh dn t true))/\QOf y.2.2.1 p y.2.2.2/\Ad y.2.2.2/\zj y.2.2.1 (xn S b b2 g.T.length y.2.1 (yh dn t true))/\DJ (Cs g (yd g l c s) c) g.T.length goal y.2.1 (yh dn t true) y.2.2.2 x.1 (M9 g (yd g l c s) c t y.1)/\y.2.1 t=x.1/\Ms g.T.length y.2.1/\y.2.2.2.length<=q.length+y.1)/\y=(i+1,d,F,m):=λhp=>
  ⟨(i+1,d,F,m),ξ,⟨ξ,rfl,hQ,hH,hdis,hskip (λu hu hc=>hp hc u hu),hdt1,hcb,ξ⟩,rfl⟩
 refine bcd (λc3=>?_) (λc3=>?_);rotate_left
 ·obtain⟨y,f1,f2,rfl⟩:=next (λhc=>absurd hc c3)
  exact Qd ⟨(i+1,d,F,m),f1,f2,Qax,⟨rfl,Tv⟩⟩
 have hU0:=hfr c3;obtain⟨u,rfl,hul⟩:∃u:Nat,U=(u:Int)/\u<g.T.length:=by
  rcases hor with h1|h1
  ·omega
  ·exact h1
 rw[Fbc]at hedge;have hedge:=hedge c3;refine⟨u,rfl,hul,za (o:=(F.un (xn S b b2 g.T.length d (yh dn t true))).obj b2) _ (zg (hfn d _)) (za _ (zaa hul) (yj (zk (λc4=>?_) (λc4=>?_))))⟩
 ·obtain⟨y,f1,f2,rfl⟩:=next (λhc v hv=>by
   have:v=u:=θ;subst this;have:=hDJ.mono v c4;omega)
  exact Qd ⟨(i+1,d,F,m),f1,f2,Qax,⟨rfl,Tv⟩⟩
 refine⟨u,rfl,hul,za (o:=(F.un (xn S b b2 g.T.length d (yh dn t true))).obj b) _ (zg (hfd d _)) (za _ (Dp hul) (bcd (λc5=>?_) (λc5=>?_)))⟩
 ·skip;have hlow:d u<0\/d t+C<d u:=Or.inl c5;have hcb2:=zjd hcb hul (t:=t) (u:=u) (c:=C) θ θ hlow;rw[hdt1]at hcb2 hlow;refine Qd ⟨u,rfl,hul,ye (i:=ti2) (v:=int (x.1+C)) (b:=b) (o:=0+u*1) (l:=il g.T.length d) (st2:=F.un (xn S b b2 g.T.length (yh d u (x.1+C)) (yh dn t true))) rfl rfl rfl (zg (hfd d _)) θf ?_ ?_⟩
  ·rw[dh _ _ _ _ hul,zy,hsd]
  refine Qd (m6 hQ θ hH (hdd F d (yh d u (x.1+C)) _ _ hdis) (x.1+C,(u:Int)) _ (λF' m' e1 e2 e3 e4=>?_));have hnote:=ziz fc hDJ hdn1 hdt1 hul hedge c4 hlow e3;have htu:t≠u:=λe=>by subst e;rw[hdn1]at c4;cases c4
  have hC:=hC.symm;refine Qd ⟨(i+1,yh d u (x.1+C),F',m'),?_,⟨ξ,rfl,e1,e2,e4,?_,?_,hcb2,?_⟩,Qax,⟨rfl,Tv⟩⟩
  ·show 8-(i+1)<8-i;omega
  ·refine ib hnote (λv hv hc=>?_);have hvu:v=u:=by
    rw[hU]at hv;omega
   subst hvu;dsimp only;rw[Cx,wo htu,hdt1,<-hC];omega
  ·dsimp only;rw[wo htu];exact hdt1
  ·dsimp only;rw[e3.length_eq,Fbf];omega
 have hbig:=uc hcb u;refine Qd ⟨u,rfl,hul,za (o:=(F.un (xn S b b2 g.T.length d (yh dn t true))).obj b) _ (zg (hfd d _)) (za _ (Dp hul) (bcd (λc6=>?_) (λc6=>?_)))⟩
 ·skip;have hlow:d u<0\/d t+C<d u:=Or.inr (show d t+C<d u by omega);have hcb2:=zjd hcb hul (t:=t) (u:=u) (c:=C) θ θ hlow;rw[hdt1]at hcb2 hlow;refine Qd ⟨u,rfl,hul,ye (i:=ti2) (v:=int (x.1+C)) (b:=b) (o:=0+u*1) (l:=il g.T.length d) (st2:=F.un (xn S b b2 g.T.length (yh d u (x.1+C)) (yh dn t true))) rfl rfl rfl (zg (hfd d _)) θf ?_ ?_⟩
  ·rw[dh _ _ _ _ hul,zy,hsd]
  refine Qd (m6 hQ θ hH (hdd F d (yh d u (x.1+C)) _ _ hdis) (x.1+C,(u:Int)) _ (λF' m' e1 e2 e3 e4=>?_));have hnote:=ziz fc hDJ hdn1 hdt1 hul hedge c4 hlow e3;have htu:t≠u:=λe=>by subst e;rw[hdn1]at c4;cases c4
  have hC:=hC.symm;refine Qd ⟨(i+1,yh d u (x.1+C),F',m'),?_,⟨ξ,rfl,e1,e2,e4,?_,?_,hcb2,?_⟩,Qax,⟨rfl,Tv⟩⟩
  ·show 8-(i+1)<8-i;omega
  ·refine ib hnote (λv hv hc=>?_);have hvu:v=u:=by
    rw[hU]at hv;omega
   subst hvu;dsimp only;rw[Cx,wo htu,hdt1,<-hC];omega
  ·dsimp only;rw[wo htu];exact hdt1
  ·dsimp only;rw[e3.length_eq,Fbf];omega
 obtain⟨y,f1,f2,rfl⟩:=next (λhc v hv=>by have:v=u:=θ;subst this;omega)
 exact Qd ⟨(i+1,d,F,m),f1,f2,Qax,⟨rfl,Tv⟩⟩
end
def znq{S:Store}{nb:Nat}{g:Gnd}(hg:zv g){l:List Bld}{c s:Int}(hn:S.obj nb=some (.cells (jf g l c s)))(goal:Nat)(hgo:goal<g.T.length)(R:Ja)
  (h:∀b,Fresh S b->R (.s (.slice (some ⟨b,0,none⟩) g.T.length g.T.length)) (S.sO b (.cells (il g.T.length (jz g (yd g l c s) c (Ak g (yd g l c s) c goal)))))):
  Jb 354 [ptr nb,int (goal:Nat)] S R:=by
 have ha:=xj hg;have hT:g.T.length<=16384:=θ;refine Qy 71 Tryz.func354 ?_;refine yot hg hn goal hgo _ (λb hf hdb=>?_);generalize Ak g (yd g l c s) c goal=d at*;refine⟨ψ,m4 (-1) g.T.length θ θ _ _ (λb2 hf2=>?_)⟩;have hbb:b≠b2:=λe=>by have:=hf2.1;rw[<-e,zd]at this;cases this
 rw[<-zl8 g (yd g l c s) c d];have hfo:=λf=>zng (n:=g.T.length) hf hf2 hn d f;have hfd:=λf=>znj (S:=S) (n:=g.T.length) hbb d f;have hsf:=λf f'=>znf (S:=S) (b:=b) (b2:=b2) (n:=g.T.length) d f f';have hff:=λf=>zni (S:=S) (b:=b) (b2:=b2) (n:=g.T.length) d f
 refine AWp.loop (σ:=Nat) ⟨λi=>[(0,.av (ptr nb)),(5,.av (.s (.slice (some ⟨b,0,none⟩) g.T.length g.T.length))),(6,.av (.s (.slice (some ⟨b2,0,none⟩) g.T.length g.T.length))),(20,.av (.s (.slice (some ⟨b,0,none⟩) g.T.length g.T.length))),(21,.av (int (g.T.length:Nat))),(22,.av (int (i:Nat)))],λ_=>[],
  λi st'=>i<=g.T.length/\st'=wq S b b2 g.T.length d (Cc g (yd g l c s) c d i),λi=>g.T.length-i⟩ zb ?_ ?_
 ·exact⟨0,Tv,⟨Fae _,rfl⟩,Qax,Tv⟩
 rintro i st' ⟨hi,rfl⟩;refine bcd (λc1=>?_) (λc1=>?_);rotate_left
 ·have:i=g.T.length:=θ;subst this;refine Bu (Tt) (znk hf hbb _ _) ?_;rw[zl9];exact h b2 (znh hbb hf2)
 have hlt:i<g.T.length:=θ
 -- on with the next tile
 have next:∀f,f=Cc g (yd g l c s) c d (i+1)->∃k:Nat,g.T.length-k<g.T.length-i/\(k<=g.T.length/\wq S b b2 g.T.length d f=wq S b b2 g.T.length d (Cc g (yd g l c s) c d k))/\k=i+1:=λf e=>⟨i+1,θ,⟨θ,by rw[e]⟩,rfl⟩
 refine⟨i,rfl,hlt,za (o:=(wq S b b2 g.T.length d _).obj b) _ (hfd _) (za _ (Dp hlt) (bcd (λc2=>?_) (λc2=>?_)))⟩
 ·obtain⟨k,f1,f2,rfl⟩:=next _ (za6 (zme c2)).symm
  exact Qd ⟨i+1,f1,f2,Qax,Tv⟩
 refine za (o:=(wq S b b2 g.T.length d _).obj nb) _ (hfo _) (ga g hg i hlt _ _ ?_)
 refine AWp.loop (σ:=Nat) ⟨λj=>[(0,.av (ptr nb)),(5,.av (.s (.slice (some ⟨b,0,none⟩) g.T.length g.T.length))),(6,.av (.s (.slice (some ⟨b2,0,none⟩) g.T.length g.T.length))),(7,.av (int (i:Nat))),(8,.av (int (d i))),(9,.bx 9 0),(20,.av (.s (.slice (some ⟨b,0,none⟩) g.T.length g.T.length))),(21,.av (int (g.T.length:Nat))),(22,.av (int (i:Nat))),(35,.av (Pb g i)),(36,.av (int (j:Nat)))],λ_=>[(9,il 8 (yn g i))],
  λj st'=>j<=8/\st'=wq S b b2 g.T.length d (Cc g (yd g l c s) c d i)/\∀w,w<j->¬Ir g (yd g l c s) c d i w,λj=>8-j⟩ zb ?_ ?_
 ·exact⟨0,Tv,⟨Fae _,rfl,λw hw=>absurd hw (Fa3 w)⟩,Qax,⟨rfl,Tv⟩⟩
 rintro j st' ⟨hj,rfl,hno⟩;refine bcd (λc3=>?_) (λc3=>?_);rotate_left
 ·have:j=8:=θ;subst this;obtain⟨k,f1,f2,rfl⟩:=next _ (za6 (zmd c2 hno)).symm
  exact Qd ⟨i+1,f1,f2,Qax,Tv⟩
 have hj8:j<8:=θ;have hskip:¬Ir g (yd g l c s) c d i j->∃k:Nat,8-k<8-j/\(k<=8/\wq S b b2 g.T.length d (Cc g (yd g l c s) c d i)=wq S b b2 g.T.length d (Cc g (yd g l c s) c d i)/\∀w,w<k->¬Ir g (yd g l c s) c d i w)/\k=j+1:=λhh=>⟨j+1,θ,⟨θ,rfl,λw hw=>by
  by_cases e:w=j
  ·subst e;exact hh
  ·exact hno w θ⟩,rfl⟩
 have hyes:Ir g (yd g l c s) c d i j->jz g (yd g l c s) c d i=(j:Int):=λhh=>zmc c2 hj8 hh hno;refine⟨j,rfl,hj8,za _ (di hj8) (zcm hg (hfo _) i hlt j hj8 _ ?_)⟩;have hsb:=zco g (yd g l c s) c i j;have hor:=ge hg (t:=i) hj8;have hfr:0<xh g (yd g l c s) c i j->0<=yn g i j:=λhp=>(sk (l6 (g:=g) (ok:=yd g l c s) (c:=c) (t:=i) (way:=j) θ)).1;unfold Ir at hskip hyes;generalize xh g (yd g l c s) c i j=C at*;generalize yn g i j=U at*;refine bcd (λc4=>?_) (λc4=>?_);rotate_left
 ·obtain⟨k,f1,f2,rfl⟩:=hskip (λhh=>c4 hh.1);exact Qd ⟨j+1,f1,f2,Qax,⟨rfl,Tv⟩⟩
 have hU0:=hfr c4;obtain⟨u,rfl,hul⟩:∃u:Nat,U=(u:Int)/\u<g.T.length:=by
  rcases hor with h1|h1
  ·omega
  ·exact h1
 rw[Fbc]at hskip hyes;have hdu:=hdb u;refine⟨u,rfl,hul,za (o:=(wq S b b2 g.T.length d _).obj b) _ (hfd _) (za _ (Dp hul) (bcd (λc5=>?_) (λc5=>?_)))⟩;rotate_left
 ·obtain⟨k,f1,f2,rfl⟩:=hskip (λhh=>c5 hh.2.1);exact Qd ⟨j+1,f1,f2,Qax,⟨rfl,Tv⟩⟩
 refine⟨u,rfl,hul,za (o:=(wq S b b2 g.T.length d _).obj b) _ (hfd _) (za _ (Dp hul) (Qd (zu (λc6=>?_) (λc6=>?_))))⟩;rotate_left
 ·obtain⟨k,f1,f2,rfl⟩:=hskip (λhh=>c6 hh.2.2);exact Qd ⟨j+1,f1,f2,Qax,⟨rfl,Tv⟩⟩
 have hw:=hyes ⟨c4,c5,c6⟩;refine⟨i,rfl,hlt,ye (i:=ti2) (v:=int (j:Nat)) (b:=b2) (o:=0+i*1) (l:=il g.T.length (Cc g (yd g l c s) c d i)) (st2:=wq S b b2 g.T.length d (Cc g (yd g l c s) c d (i+1))) rfl rfl rfl (hff _) θf ?_ ?_⟩
 ·rw[dh _ _ _ _ hlt,hsf,za7,hw]
 obtain⟨k,f1,f2,rfl⟩:=next _ rfl
 exact Qd ⟨i+1,f1,f2,Qax,Tv⟩
structure MoverG(gv:AV)(F G:Store)(mb s p:Nat)(w:Wld)(v:AV)(L:List Ent)(o0 o1 o2:AV):Prop where
 S:StandR F G s p w v L o0 o1 o2
 hx:G.obj mb=some (.cells [ptr s,gv])
 ox:kl v mb
 os:kl v s
 hL:L.length<=w.U.length
 hF:F4 w L
section
variable {gv v o0 o1 o2 q0 q1 q2:AV} {F G F':Store} {mb p i:Nat} {w:Wld}
theorem MoverG.ne{s:Nat}{L:List Ent}(h:MoverG gv F G mb s p w v L o0 o1 o2):mb≠s:=λe=>by have:=h.S.hs;rw[<-e,h.hx]at this;cases this
theorem MoverG.m{s:Nat}{w':Wld}{L:List Ent}(h:MoverG gv F G mb s p w v L o0 o1 o2):(F'.un (svS G s w' v q0 q1 q2 p)).obj mb=some (.cells [ptr s,gv]):=
 zg (by show(G.sO s _).obj mb=_;rw[zf h.ne];exact h.hx)
theorem MoverG.s{s:Nat}{L:List Ent}(h:MoverG gv F G mb s p w v L o0 o1 o2):(F'.un (svS G s w v q0 q1 q2 p)).obj s=some (.cells (svC w v q0 q1 q2 p)):=zg (Br _ _ _ _ _ _ _ _)
theorem MoverG.put{G':Store}{s:Nat}{L:List Ent}(h:MoverG gv F G mb s p w v L o0 o1 o2)(hr:yl w.U)(hi:i<w.U.length){u:Unt}(hid:w.U[i].id=u.id)(g1:StandR F' G' s p {w with U:=w.U.set i u} v (Gf L u) q0 q1 q2)
  (g2:∀q,kl v q->G'.obj q=G.obj q):MoverG gv F' G' mb s p (yz w u) v (Gf L u) q0 q1 q2:=by
 rw[Lu hr hi hid.symm];have hF3:=zfb h.hF hr hi (u:=u) hid;refine⟨g1,by rw[g2 mb h.ox];exact h.hx,h.ox,h.os,?_,hF3⟩;have⟨_,_,_,_,_,_,_,_,inv⟩:=g1.hc;exact zfc inv.n1 hF3
def pk{s:Nat}{L:List Ent}(hW:MoverG gv F G mb s p w v L o0 o1 o2)(hm:MayF w)(hn:∀u∈w.U,u.pos.ok)(hi:i<w.U.length)(u:Unt)(hid:w.U[i].id=u.id)(hp:u.pos.ok)(R:Ja)
  (h:∀F' G' L',MoverG gv F' G' mb s p (yz w u) v L' o0 o1 o2->R (.tup []) (F'.un (svS G' s (yz w u) v o0 o1 o2 p))):
  Jb 257 [ptr s,.agg (zm u)] (F.un (svS G s w v o0 o1 o2 p)) R:=by
 have hU:=hm.hU;refine ng hW.S hW.os hm.hr θ (by have:=hW.hL;omega) (Lx hW.hF hn) hi u hid hp R λF' G' g1 g2=>?_;have e:=Lu (w:=w) hm.hr hi hid.symm;have:=h F' G' _ (hW.put hm.hr hi hid g1 g2);rw[e]at this;exact this
def zbx{s:Nat}{L:List Ent}(hW:MoverG gv F G mb s p w v L o0 o1 o2)(hm:MayF w)(hn:∀u∈w.U,u.pos.ok)(hi:i<w.U.length)(d:Vc)(hd:d.ok)(R:Ja)
  (h:∀F' G' L' q0 q1 q2,MoverG gv F' G' mb s p (At w w.U[i] d) v L' q0 q1 q2->R (int (K9 w w.U[i] d)) (F'.un (svS G' s (At w w.U[i] d) v q0 q1 q2 p))):
  Jb 277 [ptr mb,.agg (zm w.U[i]),.agg (yp d)] (F.un (svS G s w v o0 o1 o2 p)) R:=by
 have hU:=hm.hU;have hB:=hm.hB;have hnd:=zml hd;have hpk:=hn _ (Faa hi);unfold At K9 at h;have hhalf:=λk=>yno hnd k;have hzero:=λn k=>znm (w:=w) (u:=w.U[i]) (v:=wn d) (n:=n) (k:=k);have hnext:=λn k=>zno (w:=w) (u:=w.U[i]) (v:=wn d) (n:=n) (k:=k);have hsome:=λn k=>znn (w:=w) (u:=w.U[i]) (v:=wn d) (n:=n) (k:=k);have hhv:∀k,Dq (wn d) k=((wn d).1.tdiv ((2^k:Nat):Int),(wn d).2.tdiv ((2^k:Nat):Int)):=λk=>rfl;refine Qy 53 Tryz.func277 ?_;refine zbe d _ _ ?_;generalize wn d=nd at*
 refine AWp.loop (σ:=Nat×Store×AV×AV×AV) ⟨λx=>[(0,.av (ptr mb)),(4,.bx 4 0),(5,.bx 5 0),(12,.av (int (x.1:Nat)))],λ_=>[(4,zm w.U[i]),(5,yp nd)],
  λx st'=>x.1<=5/\st'=x.2.1.un (svS G s w v x.2.2.1 x.2.2.2.1 x.2.2.2.2 p)/\StandR x.2.1 G s p w v L x.2.2.1 x.2.2.2.1 x.2.2.2.2/\Bo w w.U[i] nd 5 0=Bo w w.U[i] nd (5-x.1) x.1,λx=>5-x.1⟩ zb ?_ ?_
 ·exact⟨(0,F,o0,o1,o2),Tv,⟨Fae _,rfl,hW.S,rfl⟩,Qax,⟨rfl,rfl,Tv⟩⟩
 rintro⟨k,F1,q0,q1,q2⟩ st' ⟨hk,rfl,hS1,hT⟩;dsimp only at hk hS1 hT⊢;refine bcd (λc1=>?_) (λc1=>?_);rotate_left
 ·have:k=5:=θ;subst this;have hT:Bo w w.U[i] nd 5 0=none:=hT;rw[hT]at h;exact ret (h F1 G L q0 q1 q2 ⟨hS1,hW.hx,hW.ox,hW.os,hW.hL,hW.hF⟩)
 have hk5:k<5:=θ;obtain⟨n,hn5⟩:∃n,5-k=n+1:=⟨4-k,θ⟩
 rw[hn5]at hT;have hsh:=yba hk5;have hkv:=hhv k;have hh:=hhalf k;have hp2:((2^k:Nat):Int)≠0:=by have:0<2^k:=Nat.pow_pos ψ;omega
 rw[<-hsh]at hkv hp2;have hh1:yu (nd.1.tdiv (IntKind.i64.wrap (1*2^(min ((k:Int)).toNat IntKind.i64.bits)))):=by have:=hh.1;rw[hkv]at this;exact⟨ψl,ψl⟩
 have hh2:yu (nd.2.tdiv (IntKind.i64.wrap (1*2^(min ((k:Int)).toNat IntKind.i64.bits)))):=by have:=hh.2;rw[hkv]at this;exact⟨ψl,ψl⟩
 have hz0:=hzero n k;have hnx:=hnext n k;have hsm:=hsome n k;refine Qc zb yc2 ⟨θ,⟨hp2,ze hh1 ⟨θ,⟨hp2,ze hh2 ⟨⟨?_,?_⟩,Tv⟩⟩⟩⟩⟩
 ·repeat(first|exact Tv|refine⟨rfl,?_⟩|refine⟨⟨θ,rfl⟩,?_⟩|refine⟨⟨hp2,ze hh1 rfl⟩,?_⟩|refine⟨⟨hp2,ze hh2 rfl⟩,?_⟩)
 refine Qbb ?_;rw[hkv]at hz0 hnx hsm hh;generalize nd.1.tdiv (IntKind.i64.wrap (1*2^(min ((k:Int)).toNat IntKind.i64.bits)))=a at*;generalize nd.2.tdiv (IntKind.i64.wrap (1*2^(min ((k:Int)).toNat IntKind.i64.bits)))=b at*;refine zk (λc2=>?_) (λc2=>?_)
 ·have e:(a,b)=((0:Int),(0:Int)):=by
   simp only[Fa6,beq_iff_eq]at c2;exact Prod.ext c2.1 c2.2.1
  rw[hz0 e]at hT;rw[hT]at h;exact ret (h F1 G L q0 q1 q2 ⟨hS1,hW.hx,hW.ox,hW.os,hW.hL,hW.hF⟩)
 have hne:(a,b)≠((0:Int),(0:Int)):=λe=>by cases e;exact absurd c2 ψ
 refine zbk w.U[i].pos (a,b) hpk (pd hh) _ _ ?_;have hnp:=pd (zfv w.U[i].pos (a,b));have hnx:=hnx hne;have hsm:=hsm hne;generalize kx w.U[i].pos (a,b)=np at*;refine Qc zb yc1 (za (o:=(F1.un (svS G s w v q0 q1 q2 p)).obj mb) _ hW.m ⟨mc hS1 hm.hg θ hm.hb hm.hr θ hn hW.hL hW.hF w.U[i].id w.U[i].kind np hnp _ (λz F2 a0 a1 a2 hz hS2=>⟨Tv,zk (λc3=>?_) (λc3=>?_)⟩),Tv⟩);rotate_left
 ·rw[hnx (λhh=>by rw[hz.2 hh]at c3;cases c3)]at hT;refine Qd ⟨(k+1,F2,a0,a1,a2),?_,⟨ξ,rfl,hS2,?_⟩,Qax,⟨rfl,rfl,Tv⟩⟩
  ·show 5-(k+1)<5-k;omega
  ·show Bo w w.U[i] nd 5 0=Bo w w.U[i] nd (5-(k+1)) (k+1);rw[hT]
   congr 1
   omega
 rw[hsm (hz.1 c3)]at hT;rw[hT]at h;have hW2:MoverG gv F2 G mb s p w v L a0 a1 a2:=⟨hS2,hW.hx,hW.ox,hW.os,hW.hL,hW.hF⟩
 exact Qc zb yc3 (za (o:=(F2.un (svS G s w v a0 a1 a2 p)).obj mb) _ hW.m ⟨pk hW2 hm hn hi {w.U[i]with pos:=np} rfl hnp _ (λF3 G3 L3 hW3=>⟨Tv,ret (h F3 G3 L3 a0 a1 a2 hW3)⟩),Tv⟩)
end
section
variable {gv v o0 o1 o2:AV} {F G:Store} {mb s p i:Nat} {w:Wld}
def yqs{L:List Ent}(hW:MoverG gv F G mb s p w v L o0 o1 o2)(hm:MayF w)(hn:∀u∈w.U,u.pos.ok)(hi:i<w.U.length)(u:Unt)(hid:w.U[i].id=u.id)(hp:u.pos.ok)(z:Int)(R:Ja)
  (h:∀F' G' L',MoverG gv F' G' mb s p (yz w (Cq z u)) v L' o0 o1 o2->R (.tup []) (F'.un (svS G' s (yz w (Cq z u)) v o0 o1 o2 p))):
  Jb 279 [ptr mb,.agg (zm u),int z] (F.un (svS G s w v o0 o1 o2 p)) R:=by
 refine Qy 17 Tryz.func279 ?_;refine Qc zb ycz (za (o:=(F.un (svS G s w v o0 o1 o2 p)).obj mb) _ hW.m ?_);exact⟨pk hW hm hn hi (Cq z u) hid hp _ (λF3 G3 L3 hW3=>⟨Tv,ret (h F3 G3 L3 hW3)⟩),Tv⟩
def ynb{L:List Ent}(hW:MoverG gv F G mb s p w v L o0 o1 o2)(hm:MayF w)(hn:∀u∈w.U,u.pos.ok)(hmap:∀u∈w.U,u.inn=0->jm u.pos)(hi:i<w.U.length)(h0:w.U[i].inn=0)(R:Ja)
  (h:∀F' G' L' q0 q1 q2,MoverG gv F' G' mb s p (Hs w w.U[i]) v L' q0 q1 q2->R (.tup []) (F'.un (svS G' s (Hs w w.U[i]) v q0 q1 q2 p))):
  Jb 239 [ptr mb,.agg (zm w.U[i])] (F.un (svS G s w v o0 o1 o2 p)) R:=by
 have hU:=hm.hU;have hpu:=hmap _ (Faa hi) h0;have hkr:=Gv w.U[i].kind;have hks:=Wb w.U[i].kind;have htiny:=yna hpu (λx hx h1=>hmap x hx h1) hU;have hidl:=λ(us:List Unt) (h1:L8 w w.U[i].pos (z6 w.U[i].kind+16384+81920) us) h2=>ym9 (u:=w.U[i]) hm.hr h1 h2;unfold Hs at h;refine Qy 55 Tryz.func239 ?_;refine j9 _ _ _ ?_;refine Qc zb ydv (za (o:=(F.un (svS G s w v o0 o1 o2 p)).obj mb) _ hW.m ?_);refine Qd ?_;refine⟨zc2 hW.S hm.hr θ hn hW.hL hW.hF w.U[i].pos (Gs hpu) (z6 w.U[i].kind+16384) θ _ (λF1 us hS1 hus hss hul=>⟨Tv,?_⟩),Tv⟩;have hW1:MoverG gv F1 G mb s p w v L o0 o1 o2:=⟨hS1,hW.hx,hW.ox,hW.os,hW.hL,hW.hF⟩
 have hid:=hidl us hus hss;have hnv:∀k,nV ((us.take k).foldl (Ay w.U[i]) (0,0)):=λk=>zft _ ⟨⟨ψ,ψ⟩,⟨ψ,ψ⟩⟩
 refine AWp.loop (σ:=Nat) ⟨λk=>[(0,.av (ptr mb)),(3,.bx 3 0),(4,.bx 4 0),(5,.bx 5 0),(20,.av (lst 10 zm us)),(21,.av (int (us.length:Nat))),(22,.av (int (k:Nat)))],λk=>[(3,zm w.U[i]),(4,Mf w.U[i].kind),(5,yp ((us.take k).foldl (Ay w.U[i]) (0,0)))],
  λk st'=>k<=us.length/\st'=F1.un (svS G s w v o0 o1 o2 p),λk=>us.length-k⟩ zb ?_ ?_
 ·exact⟨0,Tv,⟨Fae _,rfl⟩,⟨Tq,Tq,Tq,Tq,Tq,LV.le_int (by rw[zi]),Tq,Tv⟩,⟨rfl,rfl,rfl,Tv⟩⟩
 rintro k st' ⟨hk,rfl⟩;refine bcd (λc1=>?_) (λc1=>?_);rotate_left
 ·have:k=us.length:=θ;have hv:(us.take k).foldl (Ay w.U[i]) (0,0)=Kp w w.U[i]:=by
   rw[this,Faj,hid]
  rw[<-hv]at h htiny;have hq4:(Aj w.U[i].kind).tdiv 4=Aj w.U[i].kind/4:=Fbg θ;exact Qc zb ydt ⟨ψ,ze (by rw[hq4];omega) ⟨fx ((us.take k).foldl (Ay w.U[i]) (0,0)) ((Aj w.U[i].kind).tdiv 4) htiny (by rw[hq4];omega) _ _ ⟨Qe,⟨zbx hW1 hm hn hi _ (zbf htiny) _ (λF3 G3 L3 a0 a1 a2 hW3=>⟨Tv,ret (h F3 G3 L3 a0 a1 a2 hW3)⟩),Tv⟩⟩,Tv⟩⟩
 have hlt:k<us.length:=θ;have hx:=(hus us[k]).1 (Faa hlt);have hpx:=hmap _ hx.1.1 hx.1.2;have hkx:=Gv us[k].kind;refine⟨k,rfl,za _ (zp hlt) ?_⟩;have hstep:(us.take (k+1)).foldl (Ay w.U[i]) (0,0)=Ay w.U[i] ((us.take k).foldl (Ay w.U[i]) (0,0)) us[k]:=by rw[Fad hlt,Fce];rfl
 refine qi (λc2=>?_) (λc2=>?_);rotate_left
 ·have hst:(us.take (k+1)).foldl (Ay w.U[i]) (0,0)=(us.take k).foldl (Ay w.U[i]) (0,0):=by
   rw[hstep];unfold Ay;rw[if_neg (λhh=>hh c2)]
  refine Qd ⟨k+1,?_,⟨hlt,rfl⟩,Qax,⟨rfl,rfl,congrArg (λx=>some (yp x)) hst.symm,Tv⟩⟩;show us.length-(k+1)<us.length-k;omega
 have hst:(us.take (k+1)).foldl (Ay w.U[i]) (0,0)=kx ((us.take k).foldl (Ay w.U[i]) (0,0)) (Bv w.U[i].pos (z6 w.U[i].kind+z6 us[k].kind+16384) us[k].pos):=by rw[hstep];unfold Ay;rw[if_pos c2]
 have hps:=ni hpu hpx (r:=z6 w.U[i].kind+z6 us[k].kind+16384) θ;have hnk:=hnv k;refine Qc zb ydu ⟨j9 _ _ _ ⟨Qe,Qd (Qd ⟨ybd w.U[i].pos (z6 w.U[i].kind+z6 us[k].kind+16384) us[k].pos hpu hpx θ _ _ ⟨Qe,⟨zbk _ _ (pd hnk) ⟨⟨θ,θ⟩,⟨θ,θ⟩⟩ _ _ ⟨Qe,Qba (Qd ⟨k+1,?_,⟨hlt,rfl⟩,Qax,⟨rfl,rfl,congrArg (λx=>some (yp x)) hst.symm,Tv⟩⟩)⟩,Tv⟩⟩,Tv⟩)⟩,Tv⟩;show us.length-(k+1)<us.length-k;omega
end
end Go.Proofs
namespace Go.Proofs
open Go Go.V
set_option maxRecDepth 20000
set_option maxHeartbeats 4000000
def yms{S:Store}{b n:Nat}{f:Nat->Int}(hb:S.obj b=some (.cells (il n f)))(hn:n<=1000000)(x:Int)(R:Ja)(h:∀r:Int,((0:Int)<=r↔(List.range n).any (λj=>f j==x)=true)->R (int r) S):
  Jb 322 [.s (.slice (some ⟨b,0,none⟩) n n),int x] S R:=by
 refine Qy 19 Tryz.func322 ?_
 refine AWp.loop (σ:=Nat) ⟨λi=>[(0,.av (.s (.slice (some ⟨b,0,none⟩) n n))),(1,.av (int x)),(7,.av (int (n:Nat))),(8,.av (int (i:Nat)))],λ_=>[],
  λi st'=>i<=n/\st'=S/\∀j,j<i->(f j==x)=false,λi=>n-i⟩ zb ?_ ?_
 ·exact⟨0,Tv,⟨Fae _,rfl,λj hj=>absurd hj (Fa3 j)⟩,Qax,Tv⟩
 rintro i st' ⟨hi,rfl,hall⟩;refine bcd (λc1=>?_) (λc1=>?_);rotate_left
 ·have:i=n:=θ;subst this;refine ret (h (-1) ?_);rw[yuh hall];simp
 have hlt:i<n:=θ;refine⟨i,rfl,hlt,Qbc (za _ (Dp hlt) (zu (λc2=>?_) (λc2=>?_)))⟩
 ·refine ret (h i ?_);rw[yui hlt (by rw[c2];simp)];simp
 ·refine Qd ⟨i+1,?_,⟨θ,rfl,λj hj=>?_⟩,Qax,Tv⟩
  ·show n-(i+1)<n-i;omega
  ·by_cases e:j=i
   ·subst e;rw[beq_eq_false_iff_ne];exact λe=>c2 e.symm
   ·exact hall j θ
def ysb{S:Store}{b n:Nat}{f:Nat->Int}(hb:S.obj b=some (.cells (il n f)))(hn:n<=1000000)(x:Int)(R:Ja)(h:R (V.bool ((List.range n).any (λj=>f j==x))) S):
  Jb 303 [.s (.slice (some ⟨b,0,none⟩) n n),int x] S R:=by
 refine Qy 9 Tryz.func303 ?_;refine yms hb hn x _ (λr hr=>?_);have e:decide (r>=0)=(List.range n).any (λj=>f j==x):=by rw[Fb9,decide_eq_true_iff];exact hr
 rw[<-e]at h;exact ret h
end Go.Proofs
namespace Go.Proofs
open Go Go.V
set_option maxRecDepth 20000
set_option maxHeartbeats 4000000
def lv{g:Gnd}(hg:zv g){t:Int}(h:De g t):t=-1\/∃k:Nat,t=k/\k<g.T.length:=by
 rcases h with h|⟨h1,h2⟩
 ·exact .inl h
 ·obtain⟨k,rfl⟩:=Fcb h1;exact .inr ⟨k,rfl,by have:=hg.2.2.1;omega⟩
theorem znl{w:Wld}{u:Unt}{d:Vc}(h:¬K9 w u d<5):At w u d=w:=by
 unfold K9 at h;unfold At;cases hl:Bo w u (wn d) 5 0 with
 |none=>rfl
 |some r=>
  rw[hl]at h;have⟨k,q⟩:=r;have:=(Vy _ _ hl).2.1.2;dsimp only at this h;exact absurd θ h
section
variable {a g X N:Store} {gx:Value} {M n mb p:Nat} {w:Wld} {c:Int} {v o0 o1 o2:AV}
abbrev gvOf(gt:TypeId)(gx:Value):AV:=.s (.iface gt gx)
theorem un_comm(hd:zj a g):a.un g=g.un a:=by
 show Store.mk _ _=Store.mk _ _
 congr 1
 ·funext i
  show(match g.obj i with|some x=>some x|none=>a.obj i)=match a.obj i with|some x=>some x|none=>g.obj i
  cases h1:a.obj i with
  |none=>cases g.obj i<;>rfl
  |some x=>rw[(vj (hd i (j6 h1))).1]
 ·funext i
  show(match g.tok i with|some x=>some x|none=>a.tok i)=match a.tok i with|some x=>some x|none=>g.tok i
  cases h1:a.tok i with
  |none=>cases g.tok i<;>rfl
  |some x=>rw[(vj (hd i (Mm h1))).2]
def Mq(h:zj a g):zj g a:=λb h1 h2=>h b h2 h1
structure GuideK(gt:TypeId)(gx:Value)(K:Nat->Store->Prop)(M:Nat)(w:Wld):Prop where
 net:∀{n:Nat} {N:Store} {c s:Int},K n N->(c=0\/c=1\/c=2)->(0<=s/\s<=3)->∀R:AV->Store->Prop,(∀b N',K n N'->N'.obj b=some (.cells (jf w.G w.B c s))->R (ptr b) N')->
  ∃ g x, Meets Tryz.prog gt gx "Net" g x /\ Jb g [x, .agg (zw w.G), lst 6 zl w.B, int c, int s] N R
 ways:∀{n:Nat} {N:Store} {c s:Int},K n N->n<M->(c=0\/c=1\/c=2)->(0<=s/\s<=3)->∀goal:Nat,goal<w.G.T.length->∀R:AV->Store->Prop,
  (∀b N',K (n+1) N'->N'.obj b=some (.cells (il w.G.T.length (jz w.G (yd w.G w.B c s) c (Ak w.G (yd w.G w.B c s) c goal))))->R (.s (.slice (some ⟨b,0,none⟩) w.G.T.length w.G.T.length)) N')->
  ∃ g x, Meets Tryz.prog gt gx "Ways" g x /\ Jb g [x, .agg (zw w.G), lst 6 zl w.B, int c, int s, int (goal : Nat)] N R
def GuideK.netX{gt:TypeId}{K:Nat->Store->Prop}(hG:GuideK gt gx K M w)(hd:zj X N)(hK:K n N){s:Int}(hc:c=0\/c=1\/c=2)(hs:0<=s/\s<=3)(R:Ja)
  (h : ∀ b N2, zj X N2 -> K n N2 -> N2.obj b = some (.cells (jf w.G w.B c s)) -> R (ptr b) (X.un N2)) : ∃ g x, Meets Tryz.prog gt gx "Net" g x /\ Jb g [x, .agg (zw w.G), lst 6 zl w.B, int c, int s] (X.un N) R := by
 have⟨g,x,hm,hcl⟩:=hG.net hK hc hs (λr S=>∃b,r=ptr b/\K n S/\S.obj b=some (.cells (jf w.G w.B c s))) (λb N' h1 h2=>⟨b,rfl,h1,h2⟩);refine⟨g,x,hm,?_⟩;rw[un_comm hd];refine ACalls.frame (Mq hd) hcl ?_;rintro r a' ⟨b,rfl,h1,h2⟩ hd2;rw[un_comm hd2];exact h b a' (Mq hd2) h1 h2
def GuideK.waysX{gt:TypeId}{K:Nat->Store->Prop}(hG:GuideK gt gx K M w)(hd:zj X N)(hK:K n N)(hn:n<M){s:Int}(hc:c=0\/c=1\/c=2)(hs:0<=s/\s<=3)(goal:Nat)(hgo:goal<w.G.T.length)(R:Ja)
  (h:∀b N2,zj X N2->K (n+1) N2->N2.obj b=some (.cells (il w.G.T.length (jz w.G (yd w.G w.B c s) c (Ak w.G (yd w.G w.B c s) c goal))))->R (.s (.slice (some ⟨b,0,none⟩) w.G.T.length w.G.T.length)) (X.un N2)):
  ∃ g x, Meets Tryz.prog gt gx "Ways" g x /\ Jb g [x, .agg (zw w.G), lst 6 zl w.B, int c, int s, int (goal : Nat)] (X.un N) R := by
 have⟨g,x,hm,hcl⟩:=hG.ways hK hn hc hs goal hgo (λr S=>∃b,r=.s (.slice (some ⟨b,0,none⟩) w.G.T.length w.G.T.length)/\K (n+1) S/\S.obj b=some (.cells (il w.G.T.length (jz w.G (yd w.G w.B c s) c (Ak w.G (yd w.G w.B c s) c goal))))) (λb N' h1 h2=>⟨b,rfl,h1,h2⟩);refine⟨g,x,hm,?_⟩;rw[un_comm hd];refine ACalls.frame (Mq hd) hcl ?_;rintro r a' ⟨b,rfl,h1,h2⟩ hd2;rw[un_comm hd2];exact h b a' (Mq hd2) h1 h2
def ylh{gt:TypeId}{K:Nat->Store->Prop}(hG:GuideK gt gx K M w)(hd:zj X N)(hK:K n N){s:Nat}(hmbX:X.obj mb=some (.cells [ptr s,gvOf gt gx]))(hsX:X.obj s=some (.cells (svC w v o0 o1 o2 p)))(hm:MayF w)(u:Unt)(hnx:u.next=-1\/∃t:Nat,u.next=t/\t<w.G.T.length)(own:Nat)(ho:own<w.G.T.length)(R:Ja)
  (h:∀N2,zj X N2->K n N2->R (V.bool (Md w u own)) (X.un N2)):Jb 280 [ptr mb,.agg (zm u),int (own:Nat)] (X.un N) R:=by
 obtain⟨S,hSe⟩:∃S,X.un N=S:=⟨_,rfl⟩
 have hmb:S.obj mb=some (.cells [ptr s,gvOf gt gx]):=hSe▸yf hd hmbX;have hs:S.obj s=some (.cells (svC w v o0 o1 o2 p)):=hSe▸yf hd hsX;rw[hSe];have hB:=hm.hB;unfold Md okU at h;refine Qb (c:=cfg 77 [9] []) zb Tryz.func280 ?_;refine AWp.seq (AWp.of_vc zb ?_);refine AWp.meet (σ:=Unit) ⟨λ_=>[(0,.av (ptr mb)),(2,.av (int (own:Nat))),(4,.bx 4 0),(7,.bx 7 0),(8,.bx 8 0)],λ_=>[(4,zm u),(7,zw w.G),(8,Mf u.kind)],λ_ st'=>st'=S⟩ zb ?_ ?_
 ·refine Qc zb ycy (Qbc (Qbc ?_));exact⟨j9 _ _ _ ⟨Qe,⟨⟨Qe,⟨⟨Qe,⟨⟨Tv,⟨⟨Tv,⟨(),rfl,Qax,⟨rfl,rfl,rfl,Tv⟩⟩⟩,Tv⟩⟩,Tv⟩⟩,Tv⟩⟩,⟨⟨Qe,⟨⟨Qe,⟨⟨Tv,⟨⟨Tv,⟨(),rfl,Qax,⟨rfl,rfl,rfl,Tv⟩⟩⟩,Tv⟩⟩,Tv⟩⟩,Tv⟩⟩,Tv⟩⟩⟩,⟨⟨Qe,⟨j9 _ _ _ ⟨Qe,⟨⟨Qe,⟨⟨Tv,⟨⟨Tv,⟨(),rfl,Qax,⟨rfl,rfl,rfl,Tv⟩⟩⟩,Tv⟩⟩,Tv⟩⟩,Tv⟩⟩,⟨⟨Qe,⟨j9 _ _ _ ⟨Qe,⟨⟨Tv,⟨⟨Tv,⟨(),rfl,Qax,⟨rfl,rfl,rfl,Tv⟩⟩⟩,Tv⟩⟩,Tv⟩⟩,Tv⟩⟩,Tv⟩⟩⟩,⟨⟨Qe,⟨j9 _ _ _ ⟨Qe,⟨⟨Qe,⟨⟨Tv,⟨⟨Tv,⟨(),rfl,Qax,⟨rfl,rfl,rfl,Tv⟩⟩⟩,Tv⟩⟩,Tv⟩⟩,Tv⟩⟩,⟨⟨Qe,⟨j9 _ _ _ ⟨Qe,⟨⟨Tv,⟨⟨Tv,⟨(),rfl,Qax,⟨rfl,rfl,rfl,Tv⟩⟩⟩,Tv⟩⟩,Tv⟩⟩,Tv⟩⟩,Tv⟩⟩⟩,Tv⟩⟩⟩
 rintro _ st' rfl;refine AWp.of_vc zb ?_;have hk:=cr u.kind;refine Qc zb ycx (zu (λc1=>?_) (λc1=>?_))
 ·refine Qba (Qba ?_);rw[decide_eq_true c1]at h;have h0:=h N hd hK;rw[hSe]at h0;exact ret h0
 obtain⟨t,ht,htl⟩:∃t:Nat,u.next=t/\t<w.G.T.length:=by
  rcases hnx with h1|h1
  ·exact absurd h1 c1
  ·exact h1
 rw[decide_eq_false c1,ht,Fbc]at h;refine⟨ce w.G hm.hg t htl u.next ht _ _ ⟨Qe,zk (λc2=>?_) (λc2=>?_)⟩,Tv⟩
 ·refine Qba ?_;have e:u.pos=qg w.G t:=by
   simp only[Fa6,beq_iff_eq]at c2;exact Prod.ext c2.1 c2.2.1
  rw[decide_eq_true e]at h;have h0:=h N hd hK;rw[hSe]at h0;exact ret h0
 have e:¬u.pos=qg w.G t:=λe=>by
  simp only[e,Bool.and_eq_false_iff,beq_eq_false_iff_ne]at c2;rcases c2 with c2|c2|c2
  ·exact c2 rfl
  ·exact c2 rfl
  ·cases c2
 rw[decide_eq_false e]at h;refine Qbc ?_;refine Qbc (Qbc ?_);subst hSe;refine⟨hG.netX hd hK (R9 u.kind) hk _ (λb N2 hd2 hK2 hb2=>⟨Qe,?_⟩),Tv⟩;have hmb2:(X.un N2).obj b=some (.cells (jf w.G w.B (qp u.kind) (vn u.kind))):=zg hb2;have h0:=h N2 hd2 hK2;generalize X.un N2=S2 at*;refine Qbc ?_;have htl2:t<(blL w.G.T.length (yd w.G w.B (qp u.kind) (vn u.kind))).length:=by rw[H6];exact htl
 refine⟨t,ht,za _ (zp htl2) ?_⟩;rw[Kz htl];refine yj (zk (λc3=>?_) (λc3=>?_));rotate_left
 ·rw[c3]at h0;exact ret h0
 rw[c3]at h0;refine ga w.G hm.hg own ho _ _ ?_;intro b9 hf9;have e9:zq (List.replicate 8 (int 0)) 0 (il 8 (yn w.G own))=il 8 (yn w.G own):=by unfold zq;rw[jo];simp
 refine k8 (i:=ti386) (v:=Pb w.G own) (xs:=il 8 (yn w.G own)) (l:=List.replicate 8 (int 0)) rfl rfl rfl (zd _ _ _) (by rw[jo,Faz];decide) ?_;rw[e9,yw];have h9:(S2.sO b9 (.cells (il 8 (yn w.G own)))).obj b9=some (.cells (il 8 (yn w.G own))):=zd _ _ _;have hback2:(S2.sO b9 (.cells (il 8 (yn w.G own)))).Has S2:=Fe hf9.1;generalize S2.sO b9 (.cells (il 8 (yn w.G own)))=S3 at*;rw[yj4]at h0;refine Qc zb ycw (qi (λc4=>?_) (λc4=>?_));rotate_left
 ·refine Qba (Qbb ?_);rw[decide_eq_false (λhh=>hh (ht.symm.trans c4))]at h0;exact Bu (Tt) hback2 h0
 refine⟨ysb h9 ψ u.next _ ⟨Qe,Qbb ?_⟩,Tv⟩;rw[decide_eq_true (show(t:Int)≠(own:Int)from λhh=>c4 (ht.trans hh))]at h0;rw[ht];exact Bu (Tt) hback2 h0
def yjt{gt:TypeId}{K:Nat->Store->Prop}(hG:GuideK gt gx K M w)(hnM:n<M)(hd:zj X N)(hK:K n N){s:Nat}(hmbX:X.obj mb=some (.cells [ptr s,gvOf gt gx]))(hsX:X.obj s=some (.cells (svC w v o0 o1 o2 p)))(hm:MayF w)(u:Unt)(goal:Nat)(hgo:u.goal=goal)(hgl:goal<w.G.T.length)(own:Nat)(ho:own<w.G.T.length)(R:Ja)
  (h:∀n2 N2,n2<=n+1->zj X N2->K n2 N2->R (int (Fa w u own)) (X.un N2)):Jb 281 [ptr mb,.agg (zm u),int (own:Nat)] (X.un N) R:=by
 obtain⟨S,hSe⟩:∃S,X.un N=S:=⟨_,rfl⟩
 have hmb:S.obj mb=some (.cells [ptr s,gvOf gt gx]):=hSe▸yf hd hmbX;have hs:S.obj s=some (.cells (svC w v o0 o1 o2 p)):=hSe▸yf hd hsX;rw[hSe];have hB:=hm.hB;unfold Fa okU at h;have hk:=cr u.kind;rw[hgo,Fbc]at h;refine Qb (c:=cfg 60) zb Tryz.func281 ?_;refine AWp.seq (AWp.of_vc zb ?_);refine AWp.meet (σ:=Unit) ⟨λ_=>[(0,.av (ptr mb)),(2,.av (int (own:Nat))),(4,.bx 4 0),(7,.bx 7 0),(8,.bx 8 0)],λ_=>[(4,zm u),(7,zw w.G),(8,Mf u.kind)],λ_ st'=>st'=S⟩ zb ?_ ?_
 ·refine Qc zb ycv (Qbc (Qbc ?_));exact⟨j9 _ _ _ ⟨Qe,⟨⟨Qe,⟨⟨Qe,⟨⟨Tv,⟨⟨Tv,⟨(),rfl,Qax,⟨rfl,rfl,rfl,Tv⟩⟩⟩,Tv⟩⟩,Tv⟩⟩,Tv⟩⟩,⟨⟨Qe,⟨⟨Qe,⟨⟨Tv,⟨⟨Tv,⟨(),rfl,Qax,⟨rfl,rfl,rfl,Tv⟩⟩⟩,Tv⟩⟩,Tv⟩⟩,Tv⟩⟩,Tv⟩⟩⟩,⟨⟨Qe,⟨j9 _ _ _ ⟨Qe,⟨⟨Qe,⟨⟨Tv,⟨⟨Tv,⟨(),rfl,Qax,⟨rfl,rfl,rfl,Tv⟩⟩⟩,Tv⟩⟩,Tv⟩⟩,Tv⟩⟩,⟨⟨Qe,⟨j9 _ _ _ ⟨Qe,⟨⟨Tv,⟨⟨Tv,⟨(),rfl,Qax,⟨rfl,rfl,rfl,Tv⟩⟩⟩,Tv⟩⟩,Tv⟩⟩,Tv⟩⟩,Tv⟩⟩⟩,⟨⟨Qe,⟨j9 _ _ _ ⟨Qe,⟨⟨Qe,⟨⟨Tv,⟨⟨Tv,⟨(),rfl,Qax,⟨rfl,rfl,rfl,Tv⟩⟩⟩,Tv⟩⟩,Tv⟩⟩,Tv⟩⟩,⟨⟨Qe,⟨j9 _ _ _ ⟨Qe,⟨⟨Tv,⟨⟨Tv,⟨(),rfl,Qax,⟨rfl,rfl,rfl,Tv⟩⟩⟩,Tv⟩⟩,Tv⟩⟩,Tv⟩⟩,Tv⟩⟩⟩,Tv⟩⟩⟩
 rintro _ st' rfl;refine AWp.of_vc zb (Qc zb ycu ⟨ce w.G hm.hg own ho (own:Nat) rfl _ _ ⟨Qe,yj (zk (λc2=>?_) (λc2=>?_))⟩,Tv⟩);rotate_left
 ·have e:u.pos≠qg w.G own:=λe=>by
   simp only[e,Bool.and_eq_false_iff,beq_eq_false_iff_ne]at c2;rcases c2 with c2|c2|c2
   ·exact c2 rfl
   ·exact c2 rfl
   ·cases c2
  rw[if_pos e]at h;have h0:=h n N (Fd6 n) hd hK;rw[hSe]at h0;exact ret h0
 have e:¬u.pos≠qg w.G own:=λe=>e (by simp only[Fa6,beq_iff_eq]at c2;exact Prod.ext c2.1 c2.2.1);rw[if_neg e]at h;dsimp only at h;refine Qc zb yct ?_;refine Qbc ?_;refine Qbc (Qbc ?_);refine⟨?_,Tv⟩;subst hSe;show∃g x,Meets _ _ _ _ g x/\ACalls _ g [x,_,_,_,_,int u.goal] _ _;rw[hgo];refine hG.waysX hd hK hnM (R9 u.kind) hk goal hgl _ (λb N2 hd2 hK2 hb2=>⟨Qe,?_⟩);have hmb2:(X.un N2).obj b=some (.cells (il w.G.T.length (jz w.G (yd w.G w.B (qp u.kind) (vn u.kind)) (qp u.kind) (Ak w.G (yd w.G w.B (qp u.kind) (vn u.kind)) (qp u.kind) goal)))):=zg hb2;have h0:=h (n+1) N2 (Fah _) hd2 hK2;generalize X.un N2=S2 at*;have hway:=zmf w.G (yd w.G w.B (qp u.kind) (vn u.kind)) (qp u.kind) (Ak w.G (yd w.G w.B (qp u.kind) (vn u.kind)) (qp u.kind) goal) own;have hhd:=Dp (f:=jz w.G (yd w.G w.B (qp u.kind) (vn u.kind)) (qp u.kind) (Ak w.G (yd w.G w.B (qp u.kind) (vn u.kind)) (qp u.kind) goal)) ho;refine⟨own,rfl,ho,Qbc (za _ hhd ?_)⟩;generalize jz w.G (yd w.G w.B (qp u.kind) (vn u.kind)) (qp u.kind) (Ak w.G (yd w.G w.B (qp u.kind) (vn u.kind)) (qp u.kind) goal) own=W at*;refine Qbb (bcd (λc3=>?_) (λc3=>?_))
 ·rw[if_pos c3]at h0;exact ret h0
 rw[if_neg c3]at h0;obtain⟨j,hj,rfl⟩:∃j:Nat,j<8/\W=(j:Int):=by
  rcases hway with h1|⟨j,h1,h2,_⟩
  ·omega
  ·exact⟨j,h1,h2⟩
 rw[Fbc]at h0;exact ga w.G hm.hg own ho _ _ ⟨j,rfl,hj,za _ (di hj) (ret h0)⟩
end
section
variable {gv v o0 o1 o2:AV} {F G N:Store} {mb s p i M n:Nat} {w:Wld} {gx:Value}
def zf6{L:List Ent}(hW:MoverG gv F G mb s p w v L o0 o1 o2)(hd:zj (F.un (svS G s w v o0 o1 o2 p)) N)(hm:MayF w)(hn:∀u∈w.U,u.pos.ok)(hi:i<w.U.length)(u:Unt)(hid:w.U[i].id=u.id)(hp:u.pos.ok)(R:Ja)
  (h:∀F' G' L',MoverG gv F' G' mb s p (yz w u) v L' o0 o1 o2->zj (F'.un (svS G' s (yz w u) v o0 o1 o2 p)) N->R (.tup []) ((F'.un (svS G' s (yz w u) v o0 o1 o2 p)).un N)):Jb 257 [ptr s,.agg (zm u)] ((F.un (svS G s w v o0 o1 o2 p)).un N) R:=by
 refine ACalls.frame hd (pk hW hm hn hi u hid hp (λr S=>∃F' G' L',MoverG gv F' G' mb s p (yz w u) v L' o0 o1 o2/\S=F'.un (svS G' s (yz w u) v o0 o1 o2 p)/\r=.tup []) (λF' G' L' h=>⟨F',G',L',h,rfl,rfl⟩)) ?_;rintro r a' ⟨F',G',L',h1,rfl,rfl⟩ hd2;exact h F' G' L' h1 hd2
def ti{L:List Ent}(hW:MoverG gv F G mb s p w v L o0 o1 o2)(hd:zj (F.un (svS G s w v o0 o1 o2 p)) N)(hm:MayF w)(hn:∀u∈w.U,u.pos.ok)(hi:i<w.U.length)(u:Unt)(hid:w.U[i].id=u.id)(hp:u.pos.ok)(z:Int)(R:Ja)
  (h:∀F' G' L',MoverG gv F' G' mb s p (yz w (Cq z u)) v L' o0 o1 o2->zj (F'.un (svS G' s (yz w (Cq z u)) v o0 o1 o2 p)) N->R (.tup []) ((F'.un (svS G' s (yz w (Cq z u)) v o0 o1 o2 p)).un N)):Jb 279 [ptr mb,.agg (zm u),int z] ((F.un (svS G s w v o0 o1 o2 p)).un N) R:=by
 refine ACalls.frame hd (yqs hW hm hn hi u hid hp z (λr S=>∃F' G' L',MoverG gv F' G' mb s p (yz w (Cq z u)) v L' o0 o1 o2/\S=F'.un (svS G' s (yz w (Cq z u)) v o0 o1 o2 p)/\r=.tup []) (λF' G' L' h=>⟨F',G',L',h,rfl,rfl⟩)) ?_;rintro r a' ⟨F',G',L',h1,rfl,rfl⟩ hd2;exact h F' G' L' h1 hd2
def znp{L:List Ent}(hW:MoverG gv F G mb s p w v L o0 o1 o2)(hd:zj (F.un (svS G s w v o0 o1 o2 p)) N)(hm:MayF w)(hn:∀u∈w.U,u.pos.ok)(hi:i<w.U.length)(d:Vc)(hdv:d.ok)(R:Ja)
  (h:∀F' G' L' q0 q1 q2,MoverG gv F' G' mb s p (At w w.U[i] d) v L' q0 q1 q2->zj (F'.un (svS G' s (At w w.U[i] d) v q0 q1 q2 p)) N->R (int (K9 w w.U[i] d)) ((F'.un (svS G' s (At w w.U[i] d) v q0 q1 q2 p)).un N)):Jb 277 [ptr mb,.agg (zm w.U[i]),.agg (yp d)] ((F.un (svS G s w v o0 o1 o2 p)).un N) R:=by
 refine ACalls.frame hd (zbx hW hm hn hi d hdv (λr S=>∃F' G' L' q0 q1 q2,MoverG gv F' G' mb s p (At w w.U[i] d) v L' q0 q1 q2/\S=F'.un (svS G' s (At w w.U[i] d) v q0 q1 q2 p)/\r=int (K9 w w.U[i] d)) (λF' G' L' q0 q1 q2 h=>⟨F',G',L',q0,q1,q2,h,rfl,rfl⟩)) ?_;rintro r a' ⟨F',G',L',q0,q1,q2,h1,rfl,rfl⟩ hd2;exact h F' G' L' q0 q1 q2 h1 hd2
def ynd{L:List Ent}(hW:MoverG gv F G mb s p w v L o0 o1 o2)(hd:zj (F.un (svS G s w v o0 o1 o2 p)) N)(hm:MayF w)(hn:∀u∈w.U,u.pos.ok)(hmap:∀u∈w.U,u.inn=0->jm u.pos)(hi:i<w.U.length)(h0:w.U[i].inn=0)(R:Ja)
  (h:∀F' G' L' q0 q1 q2,MoverG gv F' G' mb s p (Hs w w.U[i]) v L' q0 q1 q2->zj (F'.un (svS G' s (Hs w w.U[i]) v q0 q1 q2 p)) N->R (.tup []) ((F'.un (svS G' s (Hs w w.U[i]) v q0 q1 q2 p)).un N)):Jb 239 [ptr mb,.agg (zm w.U[i])] ((F.un (svS G s w v o0 o1 o2 p)).un N) R:=by
 refine ACalls.frame hd (ynb hW hm hn hmap hi h0 (λr S=>∃F' G' L' q0 q1 q2,MoverG gv F' G' mb s p (Hs w w.U[i]) v L' q0 q1 q2/\S=F'.un (svS G' s (Hs w w.U[i]) v q0 q1 q2 p)/\r=.tup []) (λF' G' L' q0 q1 q2 h=>⟨F',G',L',q0,q1,q2,h,rfl,rfl⟩)) ?_;rintro r a' ⟨F',G',L',q0,q1,q2,h1,rfl,rfl⟩ hd2;exact h F' G' L' q0 q1 q2 h1 hd2
def yog{gt:TypeId}{K:Nat->Store->Prop}(hG:GuideK gt gx K M w)(hnM:n<M){L:List Ent}(hW:MoverG (gvOf gt gx) F G mb s p w v L o0 o1 o2)(hd:zj (F.un (svS G s w v o0 o1 o2 p)) N)(hK:K n N)(hmay:z8 w)(hn:∀u∈w.U,u.pos.ok)(hi:i<w.U.length)(h0:w.U[i].inn=0)(hgo:w.U[i].goal≠-1)(R:Ja)
  (h:∀F' G' L' q0 q1 q2 n2 N2,n2<=n+1->MoverG (gvOf gt gx) F' G' mb s p (Gd w w.U[i]) v L' q0 q1 q2->zj (F'.un (svS G' s (Gd w w.U[i]) v q0 q1 q2 p)) N2->K n2 N2->R (.tup []) ((F'.un (svS G' s (Gd w w.U[i]) v q0 q1 q2 p)).un N2)):
  Jb 240 [ptr mb,.agg (zm w.U[i])] ((F.un (svS G s w v o0 o1 o2 p)).un N) R:=by
 have hm:=ww hmay;have hut:=io hmay hi;have hon:=oj hmay hi h0;have hown:=bf hmay hi h0;have hmp:=R3 hmay (Faa hi) h0;obtain⟨goal,hgq,hgl⟩:∃k:Nat,w.U[i].goal=k/\k<w.G.T.length:=by
  rcases lv hm.hg hut.2.1.1 with h1|h1
  ·exact absurd h1 hgo
  ·exact h1
 have hnx:=lv hm.hg hut.2.1.2.1;have hstk:=hut.2.1.2.2;have hnt:=o6 (w:=w) hm.hg (u:=w.U[i]) hown;have hgoes:Gd w w.U[i]=if w.U[i].pos=qg w.G goal then yz w (Cq 2 w.U[i])else if Md w w.U[i] (kz w.G w.U[i].pos)then(if Fa w w.U[i] (kz w.G w.U[i].pos)<0 then yz w (Cq 3 w.U[i])else Fv w {w.U[i]with next:=Fa w w.U[i] (kz w.G w.U[i].pos)})else Fv w w.U[i]:=by
  have e:w.U[i].goal.toNat=goal:=by rw[hgq,Fbc]
  unfold Gd;rw[e]
 have hlook1:Md w w.U[i] (kz w.G w.U[i].pos)=false->w.U[i].next≠-1:=λhh e=>by unfold Md at hh;rw[decide_eq_true e]at hh;simp at hh
 obtain⟨own,hownE⟩:∃own,kz w.G w.U[i].pos=own:=⟨_,rfl⟩
 rw[hownE]at hown hnt hgoes hlook1;refine Qb (c:=cfg 84) zb Tryz.func240 (AWp.seq (AWp.of_vc zb ?_));refine AWp.seq (AWp.of_vc zb ?_);refine za (o:=((F.un (svS G s w v o0 o1 o2 p)).un N).obj mb) _ (yf hd hW.m) (za (o:=((F.un (svS G s w v o0 o1 o2 p)).un N).obj s) _ (yf hd hW.s) (AWp.seq (AWp.of_vc zb ?_)));refine Qc zb ydo ?_;refine⟨ce w.G hm.hg goal hgl w.U[i].goal hgq _ _ ⟨Qe,zk (λc1=>?_) (λc1=>?_)⟩,Tv⟩
 ·have e:w.U[i].pos=qg w.G goal:=by
   simp only[Fa6,beq_iff_eq]at c1;exact Prod.ext c1.1 c1.2.1
  rw[if_pos e]at hgoes;rw[hgoes]at h;exact ti hW hd hm hn hi w.U[i] rfl (Gs hmp) 2 _ (λF3 G3 L3 hW3 hd3=>ret (h F3 G3 L3 o0 o1 o2 n N (Fd6 n) hW3 hd3 hK))
 have e:¬w.U[i].pos=qg w.G goal:=λe=>by
  simp only[e,Bool.and_eq_false_iff,beq_eq_false_iff_ne]at c1;rcases c1 with c1|c1|c1
  ·exact c1 rfl
  ·exact c1 rfl
  ·cases c1
 rw[if_neg e]at hgoes;refine AWp.meet (σ:=Nat×Nat×Store) ⟨λq=>[(0,.av (ptr mb)),(3,.bx 3 0),(4,.bx 4 0)],λq=>[(3,zm {w.U[i]with next:=(q.1:Int)}),(4,zw w.G)],λq st'=>st'=(F.un (svS G s w v o0 o1 o2 p)).un q.2.2/\q.1<w.G.T.length/\Gd w w.U[i]=Fv w {w.U[i]with next:=(q.1:Int)}/\q.2.1<=n+1/\zj (F.un (svS G s w v o0 o1 o2 p)) q.2.2/\K q.2.1 q.2.2⟩ zb ?_ ?_
 ·refine zbp w.G hm.hg w.U[i].pos hon _ _ ?_;rw[hownE];refine ylh hG hd hK hW.m hW.s hm w.U[i] hnx own hown _ (λN2 hd2 hK2=>zk (λc2=>?_) (λc2=>?_));rotate_left
  ·rw[if_neg (by rw[c2];decide)]at hgoes;obtain⟨t,ht,htl⟩:∃k:Nat,w.U[i].next=k/\k<w.G.T.length:=by
    rcases hnx with h1|h1
    ·exact absurd h1 (hlook1 c2)
    ·exact h1
   have e2:{w.U[i]with next:=(t:Int)}=w.U[i]:=by rw[<-ht]
   refine⟨(t,n,N2),⟨rfl,htl,by dsimp only;rw[e2];exact hgoes,Fd6 n,hd2,hK2⟩,Qax,⟨?_,rfl,Tv⟩⟩;dsimp only;rw[e2];rfl
  rw[if_pos c2]at hgoes;refine yjt hG hnM hd2 hK2 hW.m hW.s hm w.U[i] goal hgq hgl own hown _ (λn3 N3 hn3 hd3 hK3=>?_);generalize Fa w w.U[i] own=nx at*;refine bcd (λc3=>?_) (λc3=>?_)
  ·rw[if_pos c3]at hgoes;rw[hgoes]at h;exact ti hW hd3 hm hn hi {w.U[i]with next:=nx} rfl (Gs hmp) 3 _ (λF3 G3 L3 hW3 hd4=>ret (h F3 G3 L3 o0 o1 o2 n3 N3 hn3 hW3 hd4 hK3))
  rw[if_neg c3]at hgoes;obtain⟨t,rfl,htl⟩:∃k:Nat,nx=k/\k<w.G.T.length:=by
   rcases lv hm.hg hnt with h1|h1
   ·omega
   ·exact h1
  exact⟨(t,n3,N3),⟨rfl,htl,hgoes,hn3,hd3,hK3⟩,Qax,⟨rfl,rfl,Tv⟩⟩
 clear hd hK;rintro⟨t,n2,N2⟩ st' ⟨rfl,htl,hgoes,hn2,hd,hK⟩;dsimp only at htl hgoes hn2 hd hK⊢;rw[hgoes]at h;have hid:({w.U[i]with next:=(t:Int),stuck:=0}:Unt).id=w.U[i].id:=rfl;have hmay1:z8 (yz w {w.U[i]with next:=(t:Int),stuck:=0}):=cg hmay hi h0 rfl (Vt hut hgo (lu hm.hg htl) θ);have⟨hi1,he1⟩:=W3 hm.hr hi hid;have hn1:∀x∈(yz w {w.U[i]with next:=(t:Int),stuck:=0}).U,x.pos.ok:=λx hx=>by
  obtain⟨j,hj,rfl⟩:=Faf hx;rw[W0]at hj;by_cases hji:j=i
  ·subst hji;rw[he1];exact Gs hmp
  ·rw[zel hm.hr hi hid hj hji];exact hn _ (Faa hj)
 have hks:=Wb w.U[i].kind;have hcm:=zjw hm.hg htl;have hway:=Vp hmp hcm;unfold Fv at h;dsimp only at h;rw[Fbc]at h;have hpp:∀x:Unt,x.id=w.U[i].id->yz (yz w {w.U[i]with next:=(t:Int),stuck:=0}) x=yz w x:=λx hx=>zek w hx.symm;refine AWp.of_vc zb (Qc zb ydr (za (o:=((F.un (svS G s w v o0 o1 o2 p)).un N2).obj mb) _ (yf hd hW.m) ⟨zf6 hW hd hm hn hi {w.U[i]with next:=(t:Int),stuck:=0} rfl (Gs hmp) _ (λF1 G1 L1 hW1 hd1=>⟨Tv,?_⟩),Tv⟩));generalize hw1:yz w {w.U[i]with next:=(t:Int),stuck:=0}=w1 at*;have hm1:=ww hmay1;have hG1:w1.G=w.G:=by rw[<-hw1];rfl
 have htry:=znp hW1 hd1 hm1 hn1 hi1;rw[he1]at htry;refine Qc zb ydq ⟨ce w.G hm.hg t htl (t:Nat) rfl _ _ ⟨Qe,⟨j9 _ _ _ ⟨Qe,⟨znr w.U[i].pos (qg w.G t) (Aj w.U[i].kind) hmp hcm θ _ _ ⟨Qe,⟨htry (Ni w.U[i].pos (qg w.G t) (Aj w.U[i].kind)) (zbf hway) _ (λF2 G2 L2 a0 a1 a2 hW2 hd2=>⟨Qe,bcd (λc4=>?_) (λc4=>?_)⟩),Tv⟩⟩,Tv⟩⟩,Tv⟩⟩,Tv⟩
 ·rw[if_pos c4]at h;exact ret (h F2 G2 L2 a0 a1 a2 n2 N2 hn2 hW2 hd2 hK)
 rw[if_neg c4]at h;rw[znl c4]at hW2 hd2⊢;refine ze (v:=w.U[i].stuck+1) θ (zu (λc5=>?_) (λc5=>?_))
 ·rw[if_pos c5]at h;refine ti hW2 hd2 hm1 hn1 hi1 {w.U[i]with next:=-1,stuck:=w.U[i].stuck+1} (by rw[he1]) (Gs hmp) 4 _ (λF3 G3 L3 hW3 hd3=>?_);have e3:=hpp (Cq 4 {w.U[i]with next:=-1,stuck:=w.U[i].stuck+1}) rfl;rw[e3]at hW3 hd3⊢;exact ret (h F3 G3 L3 a0 a1 a2 n2 N2 hn2 hW3 hd3 hK)
 rw[if_neg c5]at h;refine Qc zb ydp (za (o:=((F2.un (svS G2 s w1 v a0 a1 a2 p)).un N2).obj mb) _ (yf hd2 hW2.m) ⟨zf6 hW2 hd2 hm1 hn1 hi1 {w.U[i]with next:=-1,stuck:=w.U[i].stuck+1} (by rw[he1]) (Gs hmp) _ (λF3 G3 L3 hW3 hd3=>⟨Tv,?_⟩),Tv⟩);have e3:=hpp {w.U[i]with next:=-1,stuck:=w.U[i].stuck+1} rfl;rw[e3]at hW3 hd3⊢;exact ret (h F3 G3 L3 a0 a1 a2 n2 N2 hn2 hW3 hd3 hK)
def zm3{gt:TypeId}{K:Nat->Store->Prop}(hG:GuideK gt gx K M w)(hnM:n<M){L:List Ent}(hW:MoverG (gvOf gt gx) F G mb s p w v L o0 o1 o2)(hd:zj (F.un (svS G s w v o0 o1 o2 p)) N)(hK:K n N)(hmay:z8 w)(hn:∀u∈w.U,u.pos.ok)(hi:i<w.U.length)(h0:w.U[i].inn=0)(R:Ja)
  (h:∀F' G' L' q0 q1 q2 n2 N2,n2<=n+1->MoverG (gvOf gt gx) F' G' mb s p (Ce w w.U[i]) v L' q0 q1 q2->zj (F'.un (svS G' s (Ce w w.U[i]) v q0 q1 q2 p)) N2->K n2 N2->R (.tup []) ((F'.un (svS G' s (Ce w w.U[i]) v q0 q1 q2 p)).un N2)):
  Jb 210 [ptr mb,.agg (zm w.U[i])] ((F.un (svS G s w v o0 o1 o2 p)).un N) R:=by
 unfold Ce at h;refine Qy 13 Tryz.func210 ?_;refine zu (λc1=>?_) (λc1=>?_)
 ·rw[if_pos c1]at h;exact ynd hW hd (ww hmay) hn (λu hu h1=>R3 hmay hu h1) hi h0 _ (λF3 G3 L3 a0 a1 a2 hW3 hd3=>ret (h F3 G3 L3 a0 a1 a2 n N (Fd6 n) hW3 hd3 hK))
 ·rw[if_neg c1]at h;exact yog hG hnM hW hd hK hmay hn hi h0 c1 _ (λF3 G3 L3 a0 a1 a2 n2 N2 hn2 hW3 hd3 hK3=>ret (h F3 G3 L3 a0 a1 a2 n2 N2 hn2 hW3 hd3 hK3))
end
end Go.Proofs
