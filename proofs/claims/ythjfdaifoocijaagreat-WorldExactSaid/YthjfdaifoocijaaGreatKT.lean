/- Ground of laws of thronglaw25: contracts and plain lemmas; no condition beyond the row's own. -/
import Derived.Test.YthjfdaifoocijaaGreatKS
import Derived.Test.YthjfdaifoocijaaGreatKR
set_option linter.unusedSimpArgs false
set_option linter.unusedVariables false
set_option linter.defProp false
namespace Go.Proofs
open Go Go.V
set_option maxRecDepth 20000
set_option maxHeartbeats 4000000
def du(g:Gnd)(x y:Int)(st:Store)(R:Ja)(h:∀z:Bool,(z=true↔onG g x y)->R (bool z) st):Jb 342 [.agg (zq g),int x,int y] st R:=by
 refine Qy 25 Tryz.func342 ?_;repeat' (first|refine bcd (λ_=>?_) (λ_=>?_)|refine zh (λ_=>?_) (λ_=>?_)|refine Qd ?_|fail)
 all_goals
  refine ret (h _ ?_);unfold onG;simp at*;omega
theorem min2_eq(a b:Int):min2 a b=min a b:=by
 unfold min2;by_cases h:b<a
 ·rw[decide_eq_true h];show b=_;omega
 ·rw[decide_eq_false h];show a=_;omega
def te(g:Gnd)(hg:zw g)(f:Nat->Int)(hf:∀t,t<g.T.length->0<=f t/\f t<=128)(t:Nat)(ht:t<g.T.length)(ws:List (Int×Int))(hw:∀d∈ws,(d.1≠0\/d.2≠0)/\(-1<=d.1/\d.1<=1)/\(-1<=d.2/\d.2<=1))(hwl:ws.length<=100)(b:Nat)(st:Store)(R:Ja)
  (h:R (.tup []) (st.sO b (.cells (il g.T.length (Lz g f ws t))))):Jb 310 [.agg (zq g),blV b g.T.length,int t,lst 2 Kh ws] (st.sO b (.cells (il g.T.length f))) R:=by
 have hm:=qg hg;have htb:=Ck hg (t:=t) θ;have hq:=D6 (t:=t) hg.1.1;have hq2:=D7 (t:=t) hg.1.1;have hg1:=hg.1;have hg2:=hg.2.1;unfold Lz at h;have hx:∃x,x=(t:Int)%g.W:=⟨_,rfl⟩
 have hy:∃y,y=(t:Int)/g.W:=⟨_,rfl⟩
 obtain⟨x,hx⟩:=hx;obtain⟨y,hy⟩:=hy;rw[<-hx,<-hy]at h htb;rw[<-hx]at hq;rw[<-hy]at hq2;refine Qy 63 Tryz.func310 ?_;refine Qc zb zwq ?_;refine⟨θ,⟨θ,Qd (Qbq (Qbr ?_))⟩⟩
 refine AWp.loop (σ:=Nat) ⟨λi=>[(1,.av (blV b g.T.length)),(2,.av (int (t:Nat))),(4,.bx 4 0),(8,.av (int x)),(9,.av (int y)),(21,.av (lst 2 Kh ws)),(22,.av (int (ws.length:Nat))),(23,.av (int (i:Nat)))],λ_=>[(4,zq g)],
  λi st'=>i<=ws.length/\st'=st.sO b (.cells (il g.T.length (setI f t (Au g f x y (f t) (ws.take i))))),λi=>ws.length-i⟩ zb ?_ ?_
 ·refine⟨0,Tv,⟨Fad _,?_⟩,⟨Tq,Tq,Tq,?_,?_,Tq,?_,Tq,Tv⟩,⟨rfl,Tv⟩⟩
  ·rw[Fcj];show _=st.sO b (.cells (il g.T.length (setI f t (f t))));rw[zu7]
  ·rw[<-hq];exact Tq
  ·rw[<-hq2];exact Tq
  ·rw[<-zl (f:=Kh) ws];exact Tq
 rintro i st' ⟨hi,rfl⟩;refine bcd (λh1=>?_) λh1=>?_;rotate_left
 ·have:i=ws.length:=θ;subst this;rw[Fak];exact ret h
 have hlt:i<ws.length:=θ;have hd:=hw _ (Faa hlt);have hv:=dr hg hf x y (ws.take i) (f t) (hf t ht);have hsn:=yea g f x y (f t) ws hlt;have hgs:=yhs hg f (t:=t) (Au g f x y (f t) (ws.take i)) hd.1;rw[<-hx,<-hy]at hgs;generalize hV:Au g f x y (f t) (ws.take i)=V0 at*;have ho:(st.sO b (.cells (il g.T.length (setI f t V0)))).obj b=some (.cells (il g.T.length (setI f t V0))):=zd _ _ _;refine⟨i,rfl,za _ (zn hlt) ⟨0,rfl,ψ,Qd ⟨1,rfl,ψ,Qd (du g (x+ws[i].1) (y+ws[i].2) _ _ λz hz=>?_)⟩⟩⟩;have hgv:=zbk hg hf (x+ws[i].1) (y+ws[i].2);have fin:min V0 (gv g f (x+ws[i].1) (y+ws[i].2)+1)=Au g f x y (f t) (ws.take (i+1)):=hsn.symm;refine zh (λc1=>?_) λc1=>?_
 ·have hon:=hz.1 c1;obtain⟨e1,e2,e3,e4⟩:=Cj hg hon;have hpos:0<=g.W*(y+ws[i].2):=Fav θ (by have:=hon.2.1;omega);have hval:setI f t V0 (tl g (x+ws[i].1) (y+ws[i].2))=gv g f (x+ws[i].1) (y+ws[i].2):=by
   rw[<-hgs];unfold gv;rw[if_pos hon]
  refine⟨0,rfl,ψ,Qd ⟨1,rfl,ψ,Qd (Qd (Qd ⟨tl g (x+ws[i].1) (y+ws[i].2),e1.symm,e2,za _ ho (za _ (k9 e2) ?_)⟩))⟩⟩;rw[hval];refine⟨t,rfl,ht,za _ ho (za _ (k9 ht) ?_)⟩;rw[Mc];refine Qd ⟨t,rfl,ht,yu (i:=ti2) (v:=int (min2 V0 (gv g f (x+ws[i].1) (y+ws[i].2)+1))) (b:=b) (o:=0+t*1) (l:=il g.T.length (setI f t V0)) (st2:=st.sO b (.cells (il g.T.length (setI f t (Au g f x y (f t) (ws.take (i+1))))))) rfl rfl rfl ho θb ?_ ?_⟩
  ·rw[yy,show 0+t*1=t by omega,Hi ht,cd,min2_eq,fin]
  refine Qd ⟨i+1,?_,⟨θ,rfl⟩,Qbn,⟨rfl,Tv⟩⟩;show ws.length-(i+1)<ws.length-i;omega
 ·have hoff:¬onG g (x+ws[i].1) (y+ws[i].2):=λhh=>by have:=hz.2 hh;rw[this]at c1;cases c1
  have hz0:gv g f (x+ws[i].1) (y+ws[i].2)=0:=if_neg hoff;rw[hz0]at fin;refine⟨t,rfl,ht,za _ ho (za _ (k9 ht) ?_)⟩;rw[Mc];refine Qd ⟨t,rfl,ht,yu (i:=ti2) (v:=int (min2 V0 (0+1))) (b:=b) (o:=0+t*1) (l:=il g.T.length (setI f t V0)) (st2:=st.sO b (.cells (il g.T.length (setI f t (Au g f x y (f t) (ws.take (i+1))))))) rfl rfl rfl ho θb ?_ ?_⟩
  ·rw[yy,show 0+t*1=t by omega,Hi ht,cd,min2_eq,fin]
  refine Qd ⟨i+1,?_,⟨θ,rfl⟩,Qbn,⟨rfl,Tv⟩⟩;show ws.length-(i+1)<ws.length-i;omega
def Bw(o:Nat->Bool)(t:Nat):Int:=if o t then 128 else 0
def Dp(o:Nat->Bool)(i t:Nat):Int:=if t<i then Bw o t else 0
def tu(o:Nat->Bool)(n:Nat):∀t,t<n->0<=Bw o t/\Bw o t<=128:=λt _=>by unfold Bw;split<;>decide
def rz(g:Gnd)(l:List Bld)(c:Int):AV:=lst 1 zx (ilL g.T.length (D9 g (yp g l c)))
def ybj(g:Gnd)(hg:zw g)(l:List Bld)(hl:l.length<=1000000000000)(hb:∀b∈l,yi b/\onP g b)(c:Int)(st:Store)(R:Ja)(h:R (rz g l c) st):
  Jb 254 [.agg (zq g),lst 6 zi l,int c] st R:=by
 have ha:=qg hg;have fwd_ok:∀d∈Mu,(d.1≠0\/d.2≠0)/\(-1<=d.1/\d.1<=1)/\(-1<=d.2/\d.2<=1):=ψ;have bwd_ok:∀d∈Lk,(d.1≠0\/d.2≠0)/\(-1<=d.1/\d.1<=1)/\(-1<=d.2/\d.2<=1):=ψ;refine Qb (c:=cfg 63) zb Tryz.func254 (AWp.seq (AWp.of_vc zb ?_));refine AWp.seq (AWp.of_vc zb ?_);refine De rfl (it:=ti29) (ie:=ti2) rfl rfl rfl rfl rfl (n:=(rws u8C g.T).length) ?_ ?_ λb hf=>?_
 ·rw[zl];show 8*_<=_;omega
 ·rw[zl];omega
 rw[zl,O7];refine AWp.meetA (σ:=Unit) ⟨λ_=>[(3,.bx 3 0),(7,.av (blV b g.T.length))],λ_=>[(3,zq g)],λ_ st'=>st'=st.sO b (.cells (il g.T.length (Bw (yp g l c))))⟩ ?_ ?_
 ·refine AWp.of_vc zb (Li g hg l hl hb c _ _ ?_)
  refine AWp.loop (σ:=Nat) ⟨λi=>[(3,.bx 3 0),(7,.av (blV b g.T.length)),(19,.av (opV g l c)),(20,.av (int (g.T.length:Nat))),(21,.av (int (i:Nat)))],λ_=>[(3,zq g)],
   λi st'=>i<=g.T.length/\st'=st.sO b (.cells (il g.T.length (Dp (yp g l c) i))),λi=>g.T.length-i⟩ zb ?_ ?_
  ·refine⟨0,Tv,⟨Fad _,?_⟩,⟨Tq,Tq,Tq,?_,Tq,Tv⟩,⟨rfl,Tv⟩⟩
   ·rw[show Dp (yp g l c) 0=λ_=>0 from funext λt=>if_neg (Fau t)]
   ·show LV.le (.av (int ((rws ji (blL g.T.length (yp g l c))).length:Nat))) (.av (int (g.T.length:Nat)));rw[zl,xx];exact Tq
  rintro i st' ⟨hi,rfl⟩;refine bcd (λh1=>?_) λh1=>?_;rotate_left
  ·have:i=g.T.length:=θ;subst this;refine⟨(),?_,⟨Tq,Tq,Tv⟩,⟨rfl,Tv⟩⟩;show st.sO b (.cells (il g.T.length (Dp (yp g l c) g.T.length)))=st.sO b (.cells (il g.T.length (Bw (yp g l c))));rw[Hj (f:=Dp (yp g l c) g.T.length) (g:=Bw (yp g l c)) λt ht=>if_pos ht]
  have hlt:i<g.T.length:=θ;have ho:(st.sO b (.cells (il g.T.length (Dp (yp g l c) i)))).obj b=some (.cells (il g.T.length (Dp (yp g l c) i))):=zd _ _ _;have hlt2:i<(blL g.T.length (yp g l c)).length:=by rw[xx];exact hlt
  have s2:∀s,s≠i->Dp (yp g l c) (i+1) s=Dp (yp g l c) i s:=λs hs=>by
   unfold Dp;by_cases h3:s<i
   ·rw[if_pos h3,if_pos θ]
   ·rw[if_neg h3,if_neg θ]
  have s1:Dp (yp g l c) (i+1) i=Bw (yp g l c) i:=if_pos θ;refine⟨i,rfl,za _ (zn hlt2) (zh (λc1=>?_) λc1=>?_)⟩
  ·rw[Br hlt]at c1;refine⟨i,rfl,hlt,yu (i:=ti2) (v:=int 128) (b:=b) (o:=0+i*1) (l:=_) (st2:=st.sO b (.cells (il g.T.length (Dp (yp g l c) (i+1))))) rfl rfl rfl ho θb ?_ ?_⟩
   ·rw[yy,show 0+i*1=i by omega,<-za7 hlt _ s2,s1];unfold Bw;rw[if_pos c1]
   refine Qd ⟨i+1,?_,⟨θ,rfl⟩,Qbn,⟨rfl,Tv⟩⟩;show g.T.length-(i+1)<g.T.length-i;omega
  ·rw[Br hlt]at c1;refine Qd ⟨i+1,?_,⟨θ,?_⟩,Qbn,⟨rfl,Tv⟩⟩
   ·show g.T.length-(i+1)<g.T.length-i;omega
   ·refine congrArg (λf=>st.sO b (.cells (il g.T.length f))) (funext λs=>?_);by_cases h3:s=i
    ·subst h3;rw[s1];unfold Bw Dp;rw[if_neg θ,if_neg (by rw[c1];decide)]
    ·exact(s2 s h3).symm
 rintro _ _ rfl;refine AWp.meetA (σ:=Unit) ⟨λ_=>[(3,.bx 3 0),(7,.av (blV b g.T.length))],λ_=>[(3,zq g)],λ_ st'=>st'=st.sO b (.cells (il g.T.length (Aq g (Bw (yp g l c)) g.T.length)))⟩ ?_ ?_
 ·refine AWp.of_vc zb ?_
  refine AWp.loop (σ:=Nat) ⟨λi=>[(3,.bx 3 0),(7,.av (blV b g.T.length)),(32,.av (int (g.T.length:Nat))),(33,.av (int (i:Nat)))],λ_=>[(3,zq g)],
   λi st'=>i<=g.T.length/\st'=st.sO b (.cells (il g.T.length (Aq g (Bw (yp g l c)) i))),λi=>g.T.length-i⟩ zb ?_ ?_
  ·exact⟨0,Tv,⟨Fad _,rfl⟩,Qbn,⟨rfl,Tv⟩⟩
  rintro i st' ⟨hi,rfl⟩;refine bcd (λh1=>?_) λh1=>?_;rotate_left
  ·have:i=g.T.length:=θ;subst this;exact⟨(),rfl,⟨Tq,Tq,Tv⟩,⟨rfl,Tv⟩⟩
  have hlt:i<g.T.length:=θ;refine⟨ψ,te g hg (Aq g (Bw (yp g l c)) i) (bj hg (tu _ _) i hi) i hlt Mu fwd_ok ψ b _ _ (Qd ⟨i+1,?_,⟨θ,rfl⟩,Qbn,⟨rfl,Tv⟩⟩)⟩;show g.T.length-(i+1)<g.T.length-i;omega
 rintro _ _ rfl;have hbA:=bj hg (tu (yp g l c) g.T.length) g.T.length (Fal _);have hroom:D9 g (yp g l c)=Cm g (Aq g (Bw (yp g l c)) g.T.length) g.T.length g.T.length:=rfl;generalize Aq g (Bw (yp g l c)) g.T.length=FA at*;refine AWp.meetA (σ:=Unit) ⟨λ_=>[(7,.av (blV b g.T.length))],λ_=>[],λ_ st'=>st'=st.sO b (.cells (il g.T.length (D9 g (yp g l c))))⟩ ?_ ?_
 ·refine AWp.of_vc zb (Qd ?_)
  refine AWp.loop (σ:=Nat) ⟨λj=>[(3,.bx 3 0),(7,.av (blV b g.T.length)),(11,.av (int ((g.T.length:Int)-1-(j:Nat))))],λ_=>[(3,zq g)],
   λj st'=>j<=g.T.length/\st'=st.sO b (.cells (il g.T.length (Cm g FA g.T.length j))),λj=>g.T.length-j⟩ zb ?_ ?_
  ·refine⟨0,Tv,⟨Fad _,rfl⟩,⟨Tq,Tq,?_,Tv⟩,⟨rfl,Tv⟩⟩;rw[show(g.T.length:Int)-1-((0:Nat):Int)=(g.T.length:Int)-1 by omega];exact Tq
  rintro j st' ⟨hj,rfl⟩;refine bcd (λh1=>?_) λh1=>?_;rotate_left
  ·have:j=g.T.length:=θ;subst this;exact⟨(),by rw[hroom],⟨Tq,Tv⟩,Tv⟩
  have hlt:j<g.T.length:=θ;refine⟨ψ,ACalls.le (ys:=[.agg (zq g),blV b g.T.length,int ((g.T.length-1-j:Nat):Int),lst 2 Kh Lk]) ⟨Tt,Tt,by rw[show(g.T.length:Int)-1-(j:Int)=((g.T.length-1-j:Nat):Int) by omega];exact Tt,Tt,Tv⟩ (te g hg (Cm g FA g.T.length j) (oe hg hbA j hj) (g.T.length-1-j) θ Lk bwd_ok ψ b _ _ (Qd ⟨j+1,?_,⟨θ,rfl⟩,⟨Tq,Tq,?_,Tv⟩,⟨rfl,Tv⟩⟩))⟩
  ·show g.T.length-(j+1)<g.T.length-j;omega
  ·rw[show(g.T.length:Int)-1-((j+1:Nat):Int)=(g.T.length:Int)-1-(j:Nat)-1 by omega];exact Tq
 rintro _ _ rfl;refine AWp.freeze (d:=7) (b:=b) (k:=1) (n:=g.T.length) (cap:=g.T.length) (rows:=rws zx (ilL g.T.length (D9 g (yp g l c)))) (pad:=[]) rfl ?_ ?_ ?_ (Fal _) ?_ ?_ ?_
 ·rw[Fbl,za8];exact zd _ _ _
 ·exact hf.2
 ·rw[zl,Fo]
 ·intro row hr;obtain⟨x,_,rfl⟩:=Fag.1 hr;rfl
 ·intro row hr y hy;obtain⟨x,_,rfl⟩:=Fag.1 hr;simp[zx]at hy;exact⟨_,hy,rfl⟩
 rw[Lh hf.1];exact AWp.of_vc zb (ret h)
def Qai{p:Prop}(h:p:=by repeat(first|exact Tv|refine⟨rfl,?_⟩|refine⟨⟨i,rfl,hlt,rfl⟩,?_⟩|refine⟨za (o:=List.head? _) _ hx5 rfl,?_⟩|refine⟨za (o:=List.head? _) _ hx6 rfl,?_⟩|refine⟨ze θ rfl,?_⟩|refine⟨⟨θ,rfl⟩,?_⟩)):p:=h
def vo(g:Gnd)(l:List Bld)(c s:Int)(i t:Nat):Bool:=if t<i then zo g l c s t else false
def yjl(g:Gnd)(hg:zw g)(l:List Bld)(hl:l.length<=1000000000000)(hb:∀b∈l,yi b/\onP g b)(c s:Int)(hs:0<=s/\s<=3)(st:Store)(R:Ja)(h:R (Dx g l c s) st):
  Jb 169 [.agg (zq g),lst 6 zi l,int c,int s] st R:=by
 have ha:=qg hg;refine Qb (c:=cfg 34) zb Tryz.func169 (AWp.seq (AWp.of_vc zb ?_));refine AWp.seq (AWp.of_vc zb ?_);refine De rfl (it:=ti88) (ie:=ti4) rfl rfl rfl rfl rfl (n:=(rws u8C g.T).length) ?_ ?_ λb hf=>?_
 ·rw[zl];show 1*_<=_;omega
 ·rw[zl];omega
 rw[zl,I8];refine AWp.meetA (σ:=Unit) ⟨λ_=>[(9,.av (blV b g.T.length))],λ_=>[],λ_ st'=>st'=st.sO b (.cells (bl g.T.length (zo g l c s)))⟩ ?_ ?_
 ·refine AWp.of_vc zb (ybj g hg l hl hb c _ _ ?_)
  refine AWp.loop (σ:=Nat) ⟨λi=>[(3,.av (int s)),(9,.av (blV b g.T.length)),(19,.av (rz g l c)),(20,.av (int (g.T.length:Nat))),(21,.av (int (i:Nat)))],λ_=>[],
   λi st'=>i<=g.T.length/\st'=st.sO b (.cells (bl g.T.length (vo g l c s i))),λi=>g.T.length-i⟩ zb ?_ ?_
  ·refine⟨0,Tv,⟨Fad _,?_⟩,⟨Tq,Tq,Tq,?_,Tq,Tv⟩,Tv⟩
   ·rw[show vo g l c s 0=λ_=>false from funext λt=>if_neg (Fau t)]
   ·show LV.le (.av (int ((rws zx (ilL g.T.length (D9 g (yp g l c)))).length:Nat))) (.av (int (g.T.length:Nat)));rw[zl,Fo];exact Tq
  rintro i st' ⟨hi,rfl⟩;refine bcd (λh1=>?_) λh1=>?_;rotate_left
  ·have:i=g.T.length:=θ;subst this;refine⟨(),?_,⟨Tq,Tv⟩,Tv⟩;show st.sO b (.cells (bl g.T.length (vo g l c s g.T.length)))=st.sO b (.cells (bl g.T.length (zo g l c s)));rw[lc (f:=vo g l c s g.T.length) (g:=zo g l c s) λt ht=>if_pos ht]
  have hlt:i<g.T.length:=θ;have ho:(st.sO b (.cells (bl g.T.length (vo g l c s i)))).obj b=some (.cells (bl g.T.length (vo g l c s i))):=zd _ _ _;have hlt2:i<(ilL g.T.length (D9 g (yp g l c))).length:=by rw[Fo];exact hlt
  have s2:∀q,q≠i->vo g l c s (i+1) q=vo g l c s i q:=λq hq=>by
   unfold vo;by_cases h3:q<i
   ·rw[if_pos h3,if_pos θ]
   ·rw[if_neg h3,if_neg θ]
  have s1:vo g l c s (i+1) i=zo g l c s i:=if_pos θ;refine⟨i,rfl,za _ (zn hlt2) ⟨i,rfl,hlt,yu (i:=ti4) (v:=V.bool (decide (s<(ilL g.T.length (D9 g (yp g l c)))[i]))) (b:=b) (o:=0+i*1) (l:=_) (st2:=st.sO b (.cells (bl g.T.length (vo g l c s (i+1))))) rfl rfl rfl ho θd ?_ ?_⟩⟩
  ·rw[yy,show 0+i*1=i by omega,<-Fx hlt _ s2,s1,zba hlt,yh8 hg l c hs hlt]
  refine Qd ⟨i+1,?_,⟨θ,rfl⟩,Qbn,Tv⟩;show g.T.length-(i+1)<g.T.length-i;omega
 rintro _ _ rfl;refine AWp.freeze (d:=9) (b:=b) (k:=1) (n:=g.T.length) (cap:=g.T.length) (rows:=rws ji (blL g.T.length (zo g l c s))) (pad:=[]) rfl ?_ ?_ ?_ (Fal _) ?_ ?_ ?_
 ·rw[Ot];exact zd _ _ _
 ·exact hf.2
 ·rw[zl,xx]
 ·intro row hr;obtain⟨x,_,rfl⟩:=Fag.1 hr;rfl
 ·intro row hr y hy;obtain⟨x,_,rfl⟩:=Fag.1 hr;simp[ji]at hy;exact⟨_,hy,rfl⟩
 rw[Lh hf.1];exact AWp.of_vc zb (ret h)
def jd(g:Gnd)(l:List Bld)(c s:Int):List AV:=zq g++[int c,Dx g l c s]
def yiz(g:Gnd)(hg:zw g)(l:List Bld)(hl:l.length<=1000000000000)(hb:∀b∈l,yi b/\onP g b)(c s:Int)(hs:0<=s/\s<=3)(st:Store)(R:Ja)(h:∀b,Fresh st b->R (ptr b) (st.sO b (.cells (jd g l c s)))):
  Jb 111 [.agg (zq g),lst 6 zi l,int c,int s] st R:=by
 refine Qa (c:=cfg 18 [17] []) zb Tryz.func111 ?_;refine Qc zb zz9 ?_;exact⟨yjl g hg l hl hb c s hs _ _ ⟨Qe,⟨λb hf=>⟨Qe,Qbr (ret (h b hf))⟩,Tv⟩⟩,Tv⟩
def Oe(g:Gnd)(hg:zw g)(t:Nat)(ht:t<g.T.length)(st:Store)(R:Ja)(h:R (y9 (jz g t)) st):Jb 187 [.agg (zq g),int t] st R:=by
 have hm:=qg hg;have htb:=Ck hg (t:=t) θ;have hq:=D6 (t:=t) hg.1.1;have hq2:=D7 (t:=t) hg.1.1;have hg1:=hg.1;have hg2:=hg.2.1;unfold jz at h;generalize(t:Int)%g.W=x at*;generalize(t:Int)/g.W=y at*;have hd:∀i,(hi:i<8)->-1<=(dirL[i]'hi).1/\(dirL[i]'hi).1<=1/\-1<=(dirL[i]'hi).2/\(dirL[i]'hi).2<=1:=ψ;refine Qy 64 Tryz.func187 ?_
 refine AWp.loop (σ:=Nat×AV) ⟨λs=>[(1,.av (int (t:Nat))),(2,.bx 2 0),(5,.bx 5 0),(6,.bx 6 0),(7,.av s.2),(8,.av (int (s.1:Nat)))],λ_=>[(2,zq g),(5,dirL.map λd=>int d.1),(6,dirL.map λd=>int d.2)],
  λs st'=>s.1<=8/\App 1 st s.2 (rws zx ((dirL.take s.1).map (we g x y))) st',λs=>8-s.1⟩ zb ?_ ?_
 ·exact⟨(0,_),Tv,⟨Fad _,App.start 1 st⟩,⟨Tq,Tq,Tq,Tq,Tq,Tq,Tv⟩,⟨rfl,rfl,rfl,Tv⟩⟩
 rintro⟨i,v⟩ st' ⟨hi,ha⟩;dsimp only at hi ha⊢;refine bcd (λh1=>?_) λh1=>?_;rotate_left
 ·have:i=8:=θ;subst this;exact⟨_,st,AV.le_trans ha.le (Tt),ha.has,h⟩
 have hlt:i<8:=θ;have hdi:=hd i hlt;have hx5:((dirL.map λd=>int d.1).drop (0+i*1)).head?=some (int (dirL[i]'hlt).1):=by rw[Fbv,show 0+i*1=i by omega,Far,Fac hlt];rfl
 have hx6:((dirL.map λd=>int d.2).drop (0+i*1)).head?=some (int (dirL[i]'hlt).2):=by rw[Fbv,show 0+i*1=i by omega,Far,Fac hlt];rfl
 have hstep:(dirL.take (i+1)).map (we g x y)=(dirL.take i).map (we g x y)++[we g x y (dirL[i]'hlt)]:=by rw[Fab hlt,Fa8];rfl
 have hlen:((dirL.take i).map (we g x y)).length<=8:=by rw[Fas,Fam];exact Nat.min_le_right _ _
 have hna:we g x y (dirL[i]'hlt)=if onG g (x+(dirL[i]'hlt).1) (y+(dirL[i]'hlt).2)then x+(dirL[i]'hlt).1+g.W*(y+(dirL[i]'hlt).2)else -1:=rfl
 generalize hD:dirL[i]'hlt=d at*;refine Qc zb zxz ⟨θ,⟨i,rfl,hlt,za _ hx5 (Qd ⟨θ,Qd ⟨i,rfl,hlt,za _ hx6 (Qd ⟨⟨Qai,⟨⟨Qai,?_⟩,Tv⟩⟩,Tv⟩)⟩⟩)⟩⟩;rw[hq,hq2];have app:∀z,z=we g x y d->∀v2 st2,App 1 st v2 (rws zx ((dirL.take i).map (we g x y))++[zx z]) st2->App 1 st v2 (rws zx ((dirL.take (i+1)).map (we g x y))) st2:=λz hz v2 st2 h2=>by rw[hstep,<-cj];subst hz;exact h2
 have out:¬onG g (x+d.1) (y+d.2)->we g x y d=-1:=λhn=>by rw[hna,if_neg hn]
 have rest:∀{Q:Ja},(∀v2 st2,App 1 st v2 (rws zx ((dirL.take (i+1)).map (we g x y))) st2->Q v2 st2)->¬onG g (x+d.1) (y+d.2)->appendK Tryz.prog (cfg 64) st' 3 (.av v) (.av (.lst 1 [[int (-1)]] none)) Q:=λhQ hn=>
  Ba (ie:=ti2) (rows':=[zx (-1)]) ha rfl rfl ⟨by simp only[zl,Fao,ti2];omega,by simp only[zl,Fao];omega⟩ λv2 st2 h2=>hQ v2 st2 (app (-1) (out hn).symm v2 st2 h2)
 have next:∀v2 st2,App 1 st v2 (rws zx ((dirL.take (i+1)).map (we g x y))) st2->∃s:Nat×AV,8-s.1<8-i/\(s.1<=8/\App 1 st s.2 (rws zx ((dirL.take s.1).map (we g x y))) st2)/\s=(i+1,v2):=λv2 st2 h2=>⟨(i+1,v2),ζ,⟨ζ,h2⟩,rfl⟩
 refine bcd (λc1=>?_) λc1=>?_
 ·refine⟨ψ,rest (λv2 st2 h2=>?_) (λhh=>by have:=hh.1.1;omega)⟩;obtain⟨s,f1,f2,rfl⟩:=next v2 st2 h2
  exact Qd ⟨(i+1,v2),f1,f2,Qbn,⟨rfl,rfl,rfl,Tv⟩⟩
 refine bcd (λc2=>?_) λc2=>?_
 ·refine⟨ψ,rest (λv2 st2 h2=>?_) (λhh=>by have:=hh.1.2;omega)⟩;obtain⟨s,f1,f2,rfl⟩:=next v2 st2 h2
  exact Qd ⟨(i+1,v2),f1,f2,Qbn,⟨rfl,rfl,rfl,Tv⟩⟩
 refine bcd (λc3=>?_) λc3=>?_
 ·refine⟨ψ,rest (λv2 st2 h2=>?_) (λhh=>by have:=hh.2.1;omega)⟩;obtain⟨s,f1,f2,rfl⟩:=next v2 st2 h2
  exact Qd ⟨(i+1,v2),f1,f2,Qbn,⟨rfl,rfl,rfl,Tv⟩⟩
 refine bcd (λc4=>?_) λc4=>?_
 ·refine⟨ψ,rest (λv2 st2 h2=>?_) (λhh=>by have:=hh.2.2;omega)⟩;obtain⟨s,f1,f2,rfl⟩:=next v2 st2 h2
  exact Qd ⟨(i+1,v2),f1,f2,Qbn,⟨rfl,rfl,rfl,Tv⟩⟩
 have hon:onG g (x+d.1) (y+d.2):=⟨⟨θ,θ⟩,θ,θ⟩
 obtain⟨e1,e2,_,_⟩:=Cj hg hon;have hpos:0<=g.W*(y+d.2):=Fav θ θ;refine Qd (Qd ⟨ψ,Ba (ie:=ti2) (rows':=[zx (x+d.1+g.W*(y+d.2))]) ha ?_ ?_ ⟨?_,?_⟩ λv2 st2 h2=>?_⟩)
 ·rfl
 ·rfl
 ·simp only[zl,Fao,ti2];omega
 ·simp only[zl,Fao];omega
 obtain⟨s,f1,f2,rfl⟩:=next v2 st2 (app _ (by rw[hna,if_pos hon]) v2 st2 h2)
 exact Qd ⟨(i+1,v2),f1,f2,Qbn,⟨rfl,rfl,rfl,Tv⟩⟩
def Qaj{p:Prop}(h:p:=by rw[vq];omega):p:=h
def inV(g:Gnd)(o:Nat->Bool)(r:Nat):AV:=lst 1 ji (blL g.T.length (sqT g o r))
def gS(st:Store)(g:Gnd)(bn bx:Nat)(f:Nat->Int)(nx:Nat->Bool):Store:=(st.sO bn (.cells (il g.T.length f))).sO bx (.cells (bl g.T.length nx))
def yb3(g:Gnd)(hg:zw g)(l:List Bld)(hl:l.length<=1000000000000)(hb:∀b∈l,yi b/\onP g b)(c:Int)(hc:c=0\/c=1\/c=2)(st:Store)(R:Ja)
  (h:∀f,Vd g (yp g l c) f->R (lst 1 zx (ilL g.T.length f)) st):Jb 260 [.agg (zq g),lst 6 zi l,int c] st R:=by
 have ha:=qg hg;refine Qb (c:=cfg 79) zb Tryz.func260 (AWp.seq (AWp.of_vc zb ?_));refine AWp.seq (AWp.of_vc zb (rv g hg l hl hb c hc _ _ ?_));generalize ho:yp g l c=o at*;have hopV:opV g l c=inV g o 0:=by simp_all[opV,inV,ync,zue]
 refine AWp.seq (AWp.of_vc zb (De rfl (it:=ti29) (ie:=ti2) rfl rfl rfl rfl rfl (n:=(rws ji (blL g.T.length (yp g l c))).length) ?_ ?_ λbn hfn=>?_))
 ·rw[zl,xx];show 8*_<=_;omega
 ·rw[zl,xx];omega
 rw[zl,xx,O7];refine AWp.meetA (σ:=Nat->Int) ⟨λ_=>[(8,.av (blV bn g.T.length))],λ_=>[],λf st'=>Vd g o f/\st'=st.sO bn (.cells (il g.T.length f))⟩ ?_ ?_
 ·refine AWp.seq (AWp.of_vc zb (AWp.block ?_))
  refine AWp.loopA (σ:=Nat×Bool×(Nat->Int)) ⟨λs=>[(3,.bx 3 0),(7,.av (inV g o s.1)),(8,.av (blV bn g.T.length)),(9,.av (V.bool s.2.1))],λ_=>[(3,zq g)],
   λs st'=>st'=st.sO bn (.cells (il g.T.length s.2.2))/\Dw g o s.1 0 s.2.2/\s.1<=64/\(s.2.1=true->s.1<=63)/\(s.2.1=false->∀t,t<g.T.length->sqT g o s.1 t=false),λs=>200-s.1⟩ ?_ ?_
  ·refine⟨(0,true,λ_=>0),Tv,⟨rfl,yhy g o,ψ,λ_=>ψ,λhh=>by cases hh⟩,⟨Tq,?_,Tq,Tq,Tv⟩,⟨rfl,Tv⟩⟩;dsimp only;rw[<-hopV];exact Tq
  rintro⟨r,left,f⟩ st' ⟨rfl,hgp,hr,hl1,hl2⟩;dsimp only at hgp hr hl1 hl2⊢;refine AWp.seq (AWp.of_vc zb (zh (λc1=>?_) λc1=>?_));rotate_left
  ·exact⟨f,⟨yh2 hgp (hl2 c1),rfl⟩,⟨Tq,Tv⟩,Tv⟩
  have hr63:=hl1 c1;refine AWp.block (AWp.seq (AWp.of_vc zb (AWp.seq (AWp.of_vc zb (De rfl (it:=ti88) (ie:=ti4) rfl rfl rfl rfl rfl (n:=(rws ji (blL g.T.length (sqT g o r))).length) ?_ ?_ λbx hfx=>?_)))))
  ·rw[zl,xx];show 1*_<=_;omega
  ·rw[zl,xx];omega
  rw[zl,xx,I8];have hne:bx≠bn:=λe=>by have:=hfx.1;grind[zd]
  refine AWp.meetA (σ:=Nat->Int) ⟨λ_=>[(3,.bx 3 0),(8,.av (blV bn g.T.length)),(9,.av (V.bool (C6 g o r g.T.length))),(10,.av (blV bx g.T.length))],λ_=>[(3,zq g)],
   λf st'=>Dw g o (r+1) 0 f/\st'=gS st g bn bx f (sqT g o (r+1))⟩ ?_ ?_
  ·refine AWp.of_vc zb ?_
   refine AWp.loop (σ:=Nat×(Nat->Int)) ⟨λs=>[(3,.bx 3 0),(7,.av (inV g o r)),(8,.av (blV bn g.T.length)),(9,.av (V.bool (C6 g o r s.1))),(10,.av (blV bx g.T.length)),(11,.av (int (s.1:Nat)))],λ_=>[(3,zq g)],
    λs st'=>s.1<=g.T.length/\Dw g o r s.1 s.2/\st'=gS st g bn bx s.2 (nxF g o r s.1 false),λs=>g.T.length-s.1⟩ zb ?_ ?_
   ·exact⟨(0,f),Tv,⟨Fad _,hgp,by unfold gS;rw[yey]⟩,Qbn,⟨rfl,Tv⟩⟩
   rintro⟨t,f1⟩ st' ⟨ht,hgp1,rfl⟩;dsimp only at ht hgp1⊢;refine bcd (λh1=>?_) λh1=>?_;rotate_left
   ·rw[zl,xx]at h1;have:t=g.T.length:=θ;subst this;refine⟨f1,⟨yh1 hgp1,?_⟩,Qbn,⟨rfl,Tv⟩⟩;grind[gS,lc,ye0]
   rw[zl,xx]at h1;have hlt:t<g.T.length:=θ;have hlt2:t<(blL g.T.length (sqT g o r)).length:=by rw[xx];exact hlt
   have hsn:=zug hg (o:=o) (r:=r) hlt;have hls:=ygj g o r t;refine⟨t,rfl,za _ (zn hlt2) ?_⟩;rw[Br hlt];refine ye (zh (λc2=>?_) λc2=>?_);rotate_left
   ·rw[c2,Fdx]at hsn;refine Qd ⟨(t+1,f1),?_,⟨ζ,yh0 hgp1 c2,?_⟩,⟨Tq,Tq,Tq,?_,Tq,Tq,Tv⟩,⟨rfl,Tv⟩⟩
    ·grind
    ·grind[uh]
    ·show LV.le (.av (V.bool (C6 g o r t))) (.av (V.bool (C6 g o r (t+1))));simp_all[LV.le_refl]
   rw[c2,Fel]at hsn;have hgp2:=yhz hgp1 hlt c2;have hfb:=yh3 hgp1 hlt;have hon:(gS st g bn bx f1 (nxF g o r t false)).obj bn=some (.cells (il g.T.length f1)):=(zj (Ne.symm hne)).trans (zd _ _ _);refine⟨t,rfl,hlt,za _ hon (za _ (k9 hlt) (Qd ⟨t,rfl,hlt,yu (i:=ti2) (v:=int (f1 t+1)) (b:=bn) (o:=0+t*1) (l:=il g.T.length f1) (st2:=gS st g bn bx (setI f1 t (f1 t+1)) (nxF g o r t false)) rfl rfl rfl hon θb ?_ ?_⟩))⟩
   ·simp_all[gS,F7,Ne.symm,yy,Hi]
   generalize setI f1 t (f1 t+1)=f2 at*;have hx:∀v,(gS st g bn bx f2 (nxF g o r t v)).obj bx=some (.cells (bl g.T.length (nxF g o r t v))):=λv=>zd _ _ _;have hst:∀v u,(gS st g bn bx f2 (nxF g o r t v)).sO bx (.cells (zv (bl g.T.length (nxF g o r t v)) (0+t*1) [V.bool u]))=gS st g bn bx f2 (nxF g o r t u):=λv u=>by grind[Fx,yez,ui,gS,yy]
   refine⟨t,rfl,hlt,yu (i:=ti4) (v:=V.bool true) (b:=bx) (o:=0+t*1) (l:=bl g.T.length (nxF g o r t false)) (st2:=gS st g bn bx f2 (nxF g o r t true)) rfl rfl rfl (hx _) Qaj (hst _ _) (Oe g hg t hlt _ _ ?_)⟩;have hnb:∀i,(hi:i<(jz g t).length)->(jz g t)[i]=-1\/∃m:Nat,(jz g t)[i]=m/\m<g.T.length:=λi hi=>um hg (Faa hi);have hn8:=K1 g t;generalize hN:jz g t=N at*
   refine AWp.loop (σ:=Nat) ⟨λi=>[(3,.bx 3 0),(7,.av (inV g o r)),(8,.av (blV bn g.T.length)),(9,.av (V.bool (C6 g o r t))),(10,.av (blV bx g.T.length)),(11,.av (int (t:Nat))),(12,.av (y9 N)),(13,.av (int (i:Nat)))],λ_=>[(3,zq g)],
    λi st'=>i<=8/\st'=gS st g bn bx f2 (nxF g o r t ((N.take i).all (okB g o r))),λi=>8-i⟩ zb ?_ ?_
   ·exact⟨0,Tv,⟨Fad _,by rw[Fcj];rfl⟩,Qbn,⟨rfl,Tv⟩⟩
   rintro i st' ⟨hi,rfl⟩;refine bcd (λh2=>?_) λh2=>?_;rotate_left
   ·have:i=8:=θ;subst this;have htk:N.take 8=N:=by grind
    rw[htk,<-hsn];have fin:∀b9:AV,b9=V.bool (C6 g o r (t+1))->LV.le (.av b9) (.av (V.bool (C6 g o r (t+1)))):=λb9 e=>by rw[e];exact Tq
    have eS:gS st g bn bx f2 (nxF g o r t (sqT g o (r+1) t))=gS st g bn bx f2 (nxF g o r (t+1) false):=by rw[uh]
    have hx9:=hx (sqT g o (r+1) t);have hdec:g.T.length-(t+1)<g.T.length-t:=θ;refine zh (λc3=>?_) λc3=>?_
    ·exact Qd ⟨(t+1,f2),hdec,⟨ζ,hgp2,eS⟩,⟨Tq,Tq,Tq,fin _ (by rw[hls,c3,Bool.true_or];rfl),Tq,Tq,Tv⟩,⟨rfl,Tv⟩⟩
    ·exact⟨t,rfl,hlt,za _ hx9 (za _ (V8 hlt) (Qd ⟨(t+1,f2),hdec,⟨ζ,hgp2,eS⟩,⟨Tq,Tq,Tq,fin _ (by rw[hls,c3,Fdr,ui]),Tq,Tq,Tv⟩,⟨rfl,Tv⟩⟩))⟩
   have hi8:i<N.length:=θ;have hal:(N.take (i+1)).all (okB g o r)=((N.take i).all (okB g o r)&&okB g o r N[i]):=by grind[List.take_succ_eq_append_getElem]
   have hx9:=hx ((N.take i).all (okB g o r));have hst9:=hst ((N.take i).all (okB g o r)) false;have hdec:8-(i+1)<8-i:=θ;refine⟨i,rfl,za _ (zn hi8) (bcd (λc3=>?_) λc3=>?_)⟩
   ·have hok:okB g o r N[i]=false:=by
     unfold okB;rw[decide_eq_false θ,Fdx]
    rw[hok,Fed]at hal;exact⟨t,rfl,hlt,yu (i:=ti4) (v:=V.bool false) (b:=bx) (o:=0+t*1) (l:=_) (st2:=gS st g bn bx f2 (nxF g o r t false)) rfl rfl rfl hx9 Qaj hst9 (Qd ⟨i+1,hdec,⟨θ,by rw[hal]⟩,Qbn,⟨rfl,Tv⟩⟩)⟩
   rcases hnb i hi8 with q|⟨m,q1,q2⟩
   ·omega
   have hm2:m<(blL g.T.length (sqT g o r)).length:=by rw[xx];exact q2
   have hok:okB g o r N[i]=sqT g o r m:=by unfold okB;rw[decide_eq_true θ,Fel,q1,Fa0]
   refine⟨i,rfl,za _ (zn hi8) ⟨m,q1,za _ (zn hm2) ?_⟩⟩;rw[Br q2];refine ye (zh (λc4=>?_) λc4=>?_)
   ·rw[hok,c4,Bool.and_true]at hal;exact Qd ⟨i+1,hdec,⟨θ,by rw[hal]⟩,Qbn,⟨rfl,Tv⟩⟩
   ·rw[hok,c4,Fed]at hal;exact⟨t,rfl,hlt,yu (i:=ti4) (v:=V.bool false) (b:=bx) (o:=0+t*1) (l:=_) (st2:=gS st g bn bx f2 (nxF g o r t false)) rfl rfl rfl hx9 Qaj hst9 (Qd ⟨i+1,hdec,⟨θ,by rw[hal]⟩,Qbn,⟨rfl,Tv⟩⟩)⟩
  ·rintro f3 _ ⟨hq,rfl⟩;have hb3:=hq;have hfb:(st.sO bn (.cells (il g.T.length f3))).obj bx=none:=by rw[zj hne];have:=hfx.1;rwa [zj hne]at this
   refine AWp.freeze (d:=10) (b:=bx) (k:=1) (n:=g.T.length) (cap:=g.T.length) (rows:=rws ji (blL g.T.length (sqT g o (r+1)))) (pad:=[]) rfl ?_ ?_ ?_ (Fal _) ?_ ?_ ?_
   ·rw[Ot];exact zd _ _ _
   ·exact hfx.2
   ·rw[zl,xx]
   ·intro row hr;obtain⟨x,_,rfl⟩:=Fag.1 hr;rfl
   ·intro row hr y hy;obtain⟨x,_,rfl⟩:=Fag.1 hr;simp[ji]at hy;exact⟨_,hy,rfl⟩
   unfold gS;rw[Lh hfb];refine AWp.of_vc zb ⟨(r+1,C6 g o r g.T.length,f3),?_,⟨rfl,hq,ζ,λhh=>?_,λhh=>?_⟩,Qbn,⟨rfl,Tv⟩⟩
   ·show 200-(r+1)<200-r;omega
   ·dsimp only at hh⊢;unfold C6 at hh;obtain⟨t,_,ht2⟩:=Fdn.1 hh;exact zuf hg ht2
   ·dsimp only at hh⊢;unfold C6 at hh;rw[Fdg]at hh;intro t ht;exact Bool.eq_false_iff.2 (hh t (Fbd.2 ht))
 ·rintro f _ ⟨hq,rfl⟩;refine AWp.freeze (d:=8) (b:=bn) (k:=1) (n:=g.T.length) (cap:=g.T.length) (rows:=rws zx (ilL g.T.length f)) (pad:=[]) rfl ?_ ?_ ?_ (Fal _) ?_ ?_ ?_
  ·rw[Fbl,za8];exact zd _ _ _
  ·exact hfn.2
  ·rw[zl,Fo]
  ·intro row hr;obtain⟨x,_,rfl⟩:=Fag.1 hr;rfl
  ·intro row hr y hy;obtain⟨x,_,rfl⟩:=Fag.1 hr;simp[zx]at hy;exact⟨_,hy,rfl⟩
  rw[Lh hfn.1];exact AWp.of_vc zb (ret (h f hq))
def cr(g:Gnd)(hg:zw g)(l:List Bld)(hl:l.length<=1000000000000)(hb:∀b∈l,yi b/\onP g b)(c:Int)(hc:c=0\/c=1\/c=2)(s:Int)(hs:0<=s)(st:Store)(R:Ja)(h:R (Dx g l c s) st):
  Jb 185 [.agg (zq g),lst 6 zi l,int c,int s] st R:=by
 have ha:=qg hg;refine Qb (c:=cfg 35) zb Tryz.func185 (AWp.seq (AWp.of_vc zb ?_));refine AWp.seq (AWp.of_vc zb (yb3 g hg l hl hb c hc _ _ λf hq=>?_));refine AWp.seq (AWp.of_vc zb (De rfl (it:=ti88) (ie:=ti4) rfl rfl rfl rfl rfl (n:=(rws zx (ilL g.T.length f)).length) ?_ ?_ λb hf=>?_))
 ·rw[zl,Fo];show 1*_<=_;omega
 ·rw[zl,Fo];omega
 rw[zl,Fo,I8];refine AWp.meetA (σ:=Unit) ⟨λ_=>[(10,.av (blV b g.T.length))],λ_=>[],λ_ st'=>st'=st.sO b (.cells (bl g.T.length (zo g l c s)))⟩ ?_ ?_
 ·refine AWp.of_vc zb ?_
  refine AWp.loop (σ:=Nat) ⟨λi=>[(3,.av (int s)),(9,.av (lst 1 zx (ilL g.T.length f))),(10,.av (blV b g.T.length)),(11,.av (int (i:Nat)))],λ_=>[],
   λi st'=>i<=g.T.length/\st'=st.sO b (.cells (bl g.T.length (vo g l c s i))),λi=>g.T.length-i⟩ zb ?_ ?_
  ·refine⟨0,Tv,⟨Fad _,?_⟩,Qbn,Tv⟩;rw[show vo g l c s 0=λ_=>false from funext λt=>if_neg (Fau t)]
  rintro i st' ⟨hi,rfl⟩;refine bcd (λh1=>?_) λh1=>?_;rotate_left
  ·rw[zl,Fo]at h1;have:i=g.T.length:=θ;subst this;refine⟨(),?_,⟨Tq,Tv⟩,Tv⟩;show st.sO b (.cells (bl g.T.length (vo g l c s g.T.length)))=st.sO b (.cells (bl g.T.length (zo g l c s)));rw[lc (f:=vo g l c s g.T.length) (g:=zo g l c s) λt ht=>if_pos ht]
  rw[zl,Fo]at h1;have hlt:i<g.T.length:=θ;have ho:(st.sO b (.cells (bl g.T.length (vo g l c s i)))).obj b=some (.cells (bl g.T.length (vo g l c s i))):=zd _ _ _;have hlt2:i<(ilL g.T.length f).length:=by rw[Fo];exact hlt
  have s2:∀q,q≠i->vo g l c s (i+1) q=vo g l c s i q:=λq hq=>by
   unfold vo;by_cases h3:q<i
   ·rw[if_pos h3,if_pos θ]
   ·rw[if_neg h3,if_neg θ]
  have s1:vo g l c s (i+1) i=zo g l c s i:=if_pos θ;refine⟨i,rfl,za _ (zn hlt2) ⟨i,rfl,hlt,yu (i:=ti4) (v:=V.bool (decide (s<(ilL g.T.length f)[i]))) (b:=b) (o:=0+i*1) (l:=_) (st2:=st.sO b (.cells (bl g.T.length (vo g l c s (i+1))))) rfl rfl rfl ho Qaj ?_ ?_⟩⟩
  ·rw[yy,show 0+i*1=i by omega,<-Fx hlt _ s2,s1,zba hlt,yhx hq hs hlt]
  refine Qd ⟨i+1,?_,⟨θ,rfl⟩,Qbn,Tv⟩;show g.T.length-(i+1)<g.T.length-i;omega
 rintro _ _ rfl;refine AWp.freeze (d:=10) (b:=b) (k:=1) (n:=g.T.length) (cap:=g.T.length) (rows:=rws ji (blL g.T.length (zo g l c s))) (pad:=[]) rfl ?_ ?_ ?_ (Fal _) ?_ ?_ ?_
 ·rw[Ot];exact zd _ _ _
 ·exact hf.2
 ·rw[zl,xx]
 ·intro row hr;obtain⟨x,_,rfl⟩:=Fag.1 hr;rfl
 ·intro row hr y hy;obtain⟨x,_,rfl⟩:=Fag.1 hr;simp[ji]at hy;exact⟨_,hy,rfl⟩
 rw[Lh hf.1];exact AWp.of_vc zb (ret h)
def zd0{m n:Nat}{p:Prop}(h:m<=n)(k:p):(bif Nat.ble m n then p else False):=by have:Nat.ble m n=true:=Nat.ble_eq▸h;rw[this];exact k
def yfm(x y:Int)(hx:0<=x)(hx2:x<18446744073709551616)(hy:0<=y)(hy2:y<18446744073709551616)(st:Store)(R:Ja)(h:R (.tup (jc (x*y))) st):
  Jb 190 [u64 x,u64 y] st R:=by
 refine Qy 30 Tryz.func190 ?_;exact ep x y hx hx2 hy hy2 _ _ (ret h)
def sf(v:Int)(n:Nat)(h0:1<=n)(hn:n<=1000000)(st:Store)(R:Ja)(h:∀b,Fresh st b->R (.s (.slice (some ⟨b,0,none⟩) n n)) (st.sO b (.cells (il n λ_=>v)))):
  Jb 121 [lst 1 zx [v],int (n:Nat)] st R:=by
 refine Qy 48 Tryz.func121 ?_;have w2:IntKind.u64.wrap (n:Int)=n:=j6 θ θ;have w1:IntKind.u64.wrap ((rws zx [v]).length:Nat)=1:=rfl;show ACalls _ _ [u64 (IntKind.u64.wrap _),u64 (IntKind.u64.wrap (n:Int))] _ _;rw[w2,w1];refine yfm 1 n θ θ θ θ _ _ ?_;have e1:(1*(n:Int))=n:=Int.one_mul _;rw[e1];have e2:jc (n:Int)=[u64 0,u64 n]:=by unfold jc;rw[Fb8 θ θ,Fc8 θ θ]
 rw[e2];refine bcd (λc3=>absurd c3 θ) λc3=>Qd (De rfl (it:=ti29) (ie:=ti2) rfl rfl rfl rfl rfl (n:=n) ?_ ?_ λb hf=>?_)
 ·show 8*_<=_;omega
 ·omega
 rw[O7];refine zep rfl rfl rfl rfl (it:=ti29) (ie:=ti2) rfl rfl rfl (src:=lst 1 zx [v]) (SrcN.rows (rows:=rws zx [v]) rfl) (n:=1) (by show 1=min 1 n;omega) (zd _ _ _) (by rw[xi];show 0+1*1<=n;omega) ?_;rw[yy];have e3:zv (il n λ_=>0) 0 (rws zx [v]).flatten=il n (vy v 1):=by
  show zv (il n λ_=>0) 0 [int v]=_;rw[Hi (t:=0) θ];refine Hj λt ht=>?_;unfold setI vy;by_cases h0:t=0
  ·rw[if_pos h0,if_pos θ]
  ·rw[if_neg h0,if_neg θ]
 rw[e3]
 refine AWp.loop (σ:=Nat) ⟨λk=>[(7,.av (.s (.slice (some ⟨b,0,none⟩) n n))),(8,.av (int (k:Nat)))],λ_=>[],
  λk st'=>1<=k/\k<=n/\st'=st.sO b (.cells (il n (vy v k))),λk=>n-k⟩ zb ?_ ?_
 ·exact⟨1,Tv,⟨Fal _,h0,rfl⟩,⟨Tq,Tq,Tv⟩,Tv⟩
 rintro k st' ⟨hk1,hk,rfl⟩;refine bcd (λc4=>?_) λc4=>?_;rotate_left
 ·have:k=n:=θ;subst this;rw[za9];exact ret (h b hf)
 have hlt:k<n:=θ;have hb:(st.sO b (.cells (il n (vy v k)))).obj b=some (.cells (il n (vy v k))):=zd _ _ _;obtain⟨m,hm⟩:∃m,m=min k (n-k):=⟨_,rfl⟩
 refine Qc zb zza ⟨k,n,rfl,rfl,θ,Fal _,.inl ⟨hlt,⟨0,k,rfl,rfl,Fad _,θ,.inl ⟨θ,?_⟩⟩⟩⟩;refine⟨zep rfl rfl rfl rfl (it:=ti29) (ie:=ti2) rfl rfl rfl (SrcN.obj (n:=m) hb (by rw[xi];show 0+0*1+m*1<=n;omega) (λy hy=>by have:=List.mem_of_mem_drop (List.mem_of_mem_take hy);obtain⟨t,_,rfl⟩:=Fag.1 this;rfl)) (hm.trans (by rw[Nat.sub_zero])) hb (by rw[xi];show 0+k*1+m*1<=n;omega) ⟨Tv,?_⟩,Tv⟩;rw[yy];refine Qd (Qbr ⟨k+m,?_,⟨θ,θ,?_⟩,⟨Tq,Tq,Tv⟩,Tv⟩)
 ·show n-(k+m)<n-k;omega
 ·exact congrArg (λl=>st.sO b (.cells l)) (yb9 θ θ)
def gw(u:Int)(st:Store)(R:Ja)(h:R (V.bool true) st):Jb 429 [int u] st R:=by refine Qy 3 Tryz.func429 ?_;exact ret h
def yiu(w:Nat)(h1:4<=w)(h2:w<8)(st:Store)(R:Ja)(h:R (.tup [int (G5 w:Nat),int (G4 w:Nat)]) st):Jb 436 [int (w:Nat)] st R:=by
 have hw:w=4\/w=5\/w=6\/w=7:=θ;rcases hw with rfl|rfl|rfl|rfl
 all_goals
  refine Qy 10 Tryz.func436 ?_;refine Qc zb zv3 ?_;exact⟨_,rfl,ψ,⟨_,rfl,ψ,⟨⟨Qe,⟨⟨Tv,ret h⟩,Tv⟩⟩,Tv⟩⟩⟩
def zfo(st:Store)(R:Ja)(h:R (.agg dirC) st):Jb 341 [] st R:=by refine Qy 10 Tryz.func341 ?_;exact ret h
def Wa(g:Gnd)(hg:zw g)(t:Nat)(ht:t<g.T.length)(st:Store)(R:Ja)(h:R (Ng g t) st):Jb 298 [.agg (zq g),int (t:Nat)] st R:=by
 have hm:=qg hg;have htb:=Ck hg (t:=t) θ;have hq:=D6 (t:=t) hg.1.1;have hq2:=D7 (t:=t) hg.1.1;have hg1:=hg.1;have hg2:=hg.2.1;have hbes:=λ(i:Nat) (hi:i<8)=>ynj g t hi;obtain⟨x,hx⟩:∃x,x=(t:Int)%g.W:=⟨_,rfl⟩
 obtain⟨y,hy⟩:∃y,y=(t:Int)/g.W:=⟨_,rfl⟩
 rw[<-hx,<-hy]at htb hbes;rw[<-hx]at hq;rw[<-hy]at hq2;refine Qy 50 Tryz.func298 ?_;refine Qc zb zwt ?_;refine⟨θ,⟨θ,ze θl ⟨⟨?_,⟨⟨Tv,?_⟩,Tv⟩⟩,Tv⟩⟩⟩
 ·exact⟨rfl,Tv⟩
 rw[hq,hq2];refine zfo _ _ ?_
 refine AWp.loop (σ:=Nat) ⟨λi=>[(2,.bx 2 0),(4,.bx 4 0),(5,.av (int x)),(6,.av (int y)),(17,.av (.agg dirC)),(18,.av (int (i:Nat)))],λi=>[(2,zq g),(4,il 8 (Fy g t i))],
  λi st'=>i<=8/\st'=st,λi=>8-i⟩ zb ?_ ?_
 ·exact⟨0,Tv,⟨Fad _,rfl⟩,Qbn,⟨rfl,rfl,Tv⟩⟩
 rintro i st' ⟨hi,rfl⟩;refine bcd (λc1=>?_) λc1=>?_;rotate_left
 ·have:i=8:=θ;subst this;refine ret ?_;have e:AV.agg (il 8 (Fy g t 8))=Ng g t:=congrArg AV.agg (yni g t);rw[<-e]at h;exact h
 have hlt:i<8:=θ;have hr:=yla hlt;have hd:=yk9 hlt;have hbe:=hbes i hlt;have hst:=ynh g t (i:=i);generalize dirL.getD i (0,0)=d at*;refine⟨i,rfl,hlt,yq (i:=ti376) (row:=Kh d) rfl rfl hr ⟨i,rfl,hlt,zd0 (by rw[xi];show 0+i*1+1<=8;omega) (Lb ⟨0,rfl,ψ,Qd ⟨1,rfl,ψ,Qd (du _ _ _ _ _ λz hz=>zh (λc2=>?_) λc2=>?_)⟩⟩)⟩⟩
 ·have hon:=hz.1 c2;obtain⟨e1,e2,_,_⟩:=Cj hg hon;have hpos:0<=g.W*(y+d.2):=Fav θ (by have:=hon.2.1;omega);refine⟨0,rfl,ψ,Qd ⟨1,rfl,ψ,Qd (Qd (Qd ⟨i,rfl,hlt,?_⟩))⟩⟩;refine zd0 (by
   show 0+i*1+1<=(zv (il 8 (Fy g t i)) (0+i*1) [int (-1)]).length;rw[show 0+i*1=i by omega,Hi hlt,xi];omega) ?_
  refine Lb (Qd ⟨i+1,?_,⟨θ,rfl⟩,Qbn,⟨rfl,?_,Tv⟩⟩)
  ·show 8-(i+1)<8-i;omega
  ·show some (zv (zv (il 8 (Fy g t i)) (0+i*1) [int (-1)]) (0+i*1) [int (x+d.1+g.W*(y+d.2))])=some (il 8 (Fy g t (i+1)));rw[show 0+i*1=i by omega,Hi hlt,Hi hlt,cd,hst];rw[hbe];unfold we;rw[if_pos hon]
 ·have hon:¬onG g (x+d.1) (y+d.2):=λhh=>by rw[hz.2 hh]at c2;cases c2
  refine Qd ⟨i+1,?_,⟨θ,rfl⟩,Qbn,⟨rfl,?_,Tv⟩⟩
  ·show 8-(i+1)<8-i;omega
  ·show some (zv (il 8 (Fy g t i)) (0+i*1) [int (-1)])=some (il 8 (Fy g t (i+1)));rw[show 0+i*1=i by omega,Hi hlt,hst];rw[hbe];unfold we;rw[if_neg hon]
section
variable {g:Gnd} {t w:Nat} {c:Int}
def Vu(hg:zw g)(ht:t<g.T.length):g.T[t].toNat<=5:=hg.2.2.2 _ (Faa ht)
theorem Vv(g:Gnd)(c:Int)(ht:t<g.T.length):Fu g c t=At c g.T[t].toNat:=by unfold Fu;rw[Fbb,Fac ht];rfl
def I9(hg:zw g)(t:Nat)(hw:w<8):yj g t w<0\/∃u:Nat,yj g t w=(u:Int)/\u<g.T.length:=by
 rcases Wb hg (t:=t) hw with h|h
 ·exact .inl θ
 ·exact .inr h
theorem Nv{ok:Nat->Bool}(h:vi ok (yj g t w)=false):qj g ok c t w=0:=by unfold qj;rw[h];simp
def om{ok:Nat->Bool}(h:vi ok (yj g t w)=true)(hw:w<4):qj g ok c t w=5*(Fu g c t+Fu g c (yj g t w).toNat):=by unfold qj;rw[if_pos h,if_pos hw]
def oq{ok:Nat->Bool}(h:vi ok (yj g t w)=true)(hw:¬w<4)(ha:vi ok (yj g t (G5 w))=true)(hb:vi ok (yj g t (G4 w))=true):qj g ok c t w=7*(Fu g c t+Fu g c (yj g t w).toNat):=by unfold qj;rw[if_pos h,if_neg hw,if_pos ⟨ha,hb⟩]
def oo{ok:Nat->Bool}(hw:¬w<4)(ha:vi ok (yj g t (G5 w))=false\/vi ok (yj g t (G4 w))=false):qj g ok c t w=0:=by
 unfold qj;rw[if_neg hw];split
 ·rw[if_neg];rintro⟨h1,h2⟩;rcases ha with ha|ha
  ·rw[ha]at h1;cases h1
  ·rw[ha]at h2;cases h2
 ·rfl
theorem Ix{ok:Nat->Bool}{u:Int}(h:u<0):vi ok u=false:=by unfold vi;rw[decide_eq_false θ];rfl
theorem Gl(ok:Nat->Bool)(u:Nat):vi ok (u:Int)=ok u:=by unfold vi;rw[decide_eq_true θ,Fa0];rfl
def oj{S:Store}{nb:Nat}(hg:zw g){l:List Bld}{s:Int}(hn:S.obj nb=some (.cells (jd g l c s)))(t:Nat)(ht:t<g.T.length)(way:Nat)(hw:way<8)(R:Ja)
  (h:R (int (qj g (zo g l c s) c t way)) S):Jb 430 [ptr nb,int (t:Nat),Ng g t,int (way:Nat),.clos 429 []] S R:=by
 have hgl:∀u,u<g.T.length->u<(blL g.T.length (zo g l c s)).length:=λu hu=>by rw[xx];exact hu
 have p1:=Mg c (g.T[t]).toNat;refine Qy 124 Tryz.func430 ?_;refine⟨way,rfl,hw,za _ (k9 hw) ?_⟩;have hor:=I9 hg t hw;have hlo:=λh=>om (g:=g) (ok:=zo g l c s) (c:=c) (t:=t) (w:=way) h;have hhi:=λh=>oq (g:=g) (ok:=zo g l c s) (c:=c) (t:=t) (w:=way) h;have hno:=Nv (g:=g) (ok:=zo g l c s) (c:=c) (t:=t) (w:=way);have hhn:=λh=>oo (g:=g) (ok:=zo g l c s) (c:=c) (t:=t) (w:=way) h;generalize qj g (zo g l c s) c t way=E at*;generalize hU:yj g t way=U at*;refine bcd (λc1=>?_) λc1=>?_
 ·rw[hno (Ix c1)]at h;exact ret h
 obtain⟨u,rfl,hul⟩:∃u:Nat,U=(u:Int)/\u<g.T.length:=by
  rcases hor with h1|h1
  ·exact absurd h1 c1
  ·exact h1
 refine Qbs ?_;refine⟨u,rfl,za _ (zn (hgl u hul)) ?_⟩;rw[Br hul];refine ye (zh (λc2=>?_) λc2=>?_);rotate_left
 ·rw[hno (by rw[Gl,c2])]at h;exact ret h
 refine gw _ _ _ ?_;have hfu:vi (zo g l c s) (u:Int)=true:=by rw[Gl,c2]
 rw[Fa0]at hlo hhi;rw[Vv g c ht,Vv g c hul]at hlo hhi;have p2:=Mg c (g.T[u]).toNat;refine Qc zb zv9 (Qbs (Qbs ?_));refine⟨t,rfl,za _ (zn ht) (Qbs (Qbs ?_))⟩;refine⟨u,rfl,za _ (zn hul) ⟨dq c g.T[t] (Vu hg ht) _ _ ⟨?_,?_⟩,Tv⟩⟩
 ·repeat(first|exact Tv|refine⟨rfl,?_⟩|refine⟨zoo hn rfl,?_⟩)
 refine⟨dq c g.T[u] (Vu hg hul) _ _ ⟨Qe,Qd (Qbr ?_)⟩,Tv⟩;generalize At c g.T[t].toNat=P1 at*;generalize At c g.T[u].toNat=P2 at*;refine bcd (λc3=>?_) λc3=>?_
 ·refine Qd ?_;rw[hlo hfu θ]at h;exact ret h
 have h4:¬way<4:=θ;have hsa:G5 way<8:=by unfold G5;omega
 have hsb:G4 way<8:=by unfold G4;omega
 refine yiu way θ hw _ _ ?_;have hora:=I9 hg t hsa;have horb:=I9 hg t hsb;have hhi:=hhi hfu h4;have hhn:=hhn h4;have ha1:=k9 (n:=8) (f:=yj g t) hsa;have hb1:=k9 (n:=8) (f:=yj g t) hsb;generalize hA:G5 way=wa at*;generalize hB:G4 way=wb at*;generalize hUA:yj g t wa=ua at*;generalize hUB:yj g t wb=ub at*;refine Qc zb zv8 ⟨wa,rfl,hsa,za _ ha1 ?_⟩;have no:vi (zo g l c s) ua=false\/vi (zo g l c s) ub=false->R (int 0) S:=λhh=>by rw[hhn hh]at h;exact h
 refine bcd (λca=>?_) λca=>?_
 ·exact Qbr (Qbr (ret (no (.inl (Ix ca)))))
 obtain⟨va,rfl,hva⟩:∃u:Nat,ua=(u:Int)/\u<g.T.length:=by
  rcases hora with h1|h1
  ·exact absurd h1 ca
  ·exact h1
 refine⟨wb,rfl,hsb,za _ hb1 (bcd (λcb=>?_) λcb=>?_)⟩
 ·exact Qbr (Qbr (ret (no (.inr (Ix cb)))))
 obtain⟨vb,rfl,hvb⟩:∃u:Nat,ub=(u:Int)/\u<g.T.length:=by
  rcases horb with h1|h1
  ·exact absurd h1 cb
  ·exact h1
 refine Qbs ?_;refine⟨wa,rfl,hsa,za _ ha1 ⟨va,rfl,za _ (zn (hgl va hva)) ?_⟩⟩;rw[Br hva];refine ye (zh (λda=>?_) λda=>?_);rotate_left
 ·exact Qbr (Qbr (ret (no (.inl (by rw[Gl,da])))))
 refine Qbs ?_;refine⟨wb,rfl,hsb,za _ hb1 ⟨vb,rfl,za _ (zn (hgl vb hvb)) ?_⟩⟩;rw[Br hvb];refine ye (zh (λdb=>?_) λdb=>?_);rotate_left
 ·exact Qbr (Qbr (ret (no (.inr (by rw[Gl,db])))))
 refine⟨wa,rfl,hsa,za _ ha1 ⟨gw _ _ _ ⟨Tv,⟨wb,rfl,hsb,za _ hb1 ⟨gw _ _ _ ⟨Tv,Qd ?_⟩,Tv⟩⟩⟩,Tv⟩⟩;rw[hhi (by rw[Gl,da]) (by rw[Gl,db])]at h;exact ret h
end
section
variable {G F:Store} {p:Nat}
def ydm(R:Ja)(h:∀F p,QOf F p []->zk F G->R (ptr p) (F.un G)):Jb 433 [] G R:=by
 have:=ACalls.frame (a:=Store.empty) (g:=G) (λi h1=>by rcases h1 with h1|h1<;>exact absurd rfl h1) (ydl Store.empty (λr a'=>∃p,r=ptr p/\QOf a' p []) λp hp=>⟨p,rfl,.inl ⟨zd _ _ _,rfl⟩⟩) (R':=R) λr a' ⟨p,e,hc⟩ hd=>e▸h a' p hc hd
 rwa [xr]at this
def dg{l:List (Int×Int)}(hq:QOf F p l)(hl:l.length<=1000000)(hh:wx l)(hd:zk F G)(x:Int×Int)(R:Ja)
  (h:∀F' l',QOf F' p l'->wx l'->l'.Perm (x::l)->zk F' G->R (.tup []) (F'.un G)):Jb 434 [ptr p,int x.1,int x.2] (F.un G) R:=
 ACalls.frame hd (ydd hq hl hh x (λr a'=>r=.tup []/\∃l',QOf a' p l'/\wx l'/\l'.Perm (x::l)) λF' l' g1 g2 g3=>⟨rfl,l',g1,g2,g3⟩) (R':=R) λr a' ⟨e,l',g1,g2,g3⟩ hd=>e▸h a' l' g1 g2 g3 hd
def dk{l:List (Int×Int)}(hq:QOf F p l)(hl:l.length<=1000000)(hh:wx l)(hd:zk F G)(R:Ja)
  (h:∀F' o l',QOf F' p l'->wx l'->zk F' G->l.Perm (o.toList++l')->(∀x,o=some x->∀e∈x::l',¬qlt e x)->(o=none->l'=[])->R (.tup [int (fk o),int (Pz o),V.bool o.isSome]) (F'.un G)):Jb 435 [ptr p] (F.un G) R:=
 ACalls.frame hd (ydg hq hl hh (λr a'=>∃o l',r=.tup [int (fk o),int (Pz o),V.bool o.isSome]/\QOf a' p l'/\wx l'/\l.Perm (o.toList++l')/\(∀x,o=some x->∀e∈x::l',¬qlt e x)/\(o=none->l'=[]))
  (λe=>⟨none,[],rfl,e▸hq,e▸hh,δ,λx h=>ω,λ_=>rfl⟩)
  (λh0 F' l' g1 g2 g3=>⟨some (qat l 0),l',rfl,g1,g2,g3,λx e=>by grind[ydi],λh=>ω⟩)) (R':=R) λr a' ⟨o,l',e,g1,g2,g3,g4,g5⟩ hd=>e▸h a' o l' g1 g2 hd g3 g4 g5
def yiv{S:Store}{nb:Nat}{g:Gnd}(hg:zw g){l:List Bld}{c s:Int}(hn:S.obj nb=some (.cells (jd g l c s)))(goal:Nat)(hgo:goal<g.T.length)(R:Ja)
  (h:∀b,Fresh S b->(∀u,-1<=xu g (zo g l c s) c goal u/\xu g (zo g l c s) c goal u<=2000000)->R (.s (.slice (some ⟨b,0,none⟩) g.T.length g.T.length)) (S.sO b (.cells (il g.T.length (xu g (zo g l c s) c goal))))):
  Jb 428 [ptr nb,int (goal:Nat),.clos 429 []] S R:=by
 have ha:=qg hg;have hT:g.T.length<=16384:=θ;have hgl:∀u,u<g.T.length->u<(blL g.T.length (zo g l c s)).length:=λu hu=>by rw[xx];exact hu
 refine Qy 121 Tryz.func428 ?_;refine⟨ψ,Qbs ?_⟩;show ACalls _ _ [_,int ((rws u8C g.T).length:Nat)] _ _;rw[zl];refine sf (-1) g.T.length θ θ _ _ λb hf=>?_;have hnb:nb≠b:=λe=>by rw[e,hf.1]at hn;cases hn
 have hn1:(S.sO b (.cells (il g.T.length λ_=>-1))).obj nb=some (.cells (jd g l c s)):=(zj hnb).trans hn;refine zoo hn1 ⟨goal,rfl,za _ (zn (hgl goal hgo)) ?_⟩;rw[Br hgo];refine ye (zh (λc1=>?_) λc1=>?_);rotate_left
 ·rw[zce c1]at h;exact ret (h b hf λu=>⟨Fcu (-1),show(-1:Int)<=2000000 by decide⟩)
 refine De rfl (it:=ti88) (ie:=ti4) rfl rfl rfl rfl rfl (n:=g.T.length) ?_ ?_ λb2 hf2=>?_
 ·show 1*_<=_;omega
 ·omega
 rw[I8];have hbb:b≠b2:=λe=>by have:=hf2.1;grind[zd]
 have hst0:(S.sO b (.cells (il g.T.length λ_=>-1))).sO b2 (.cells (bl g.T.length λ_=>false))=xl S b b2 g.T.length (λ_=>-1) (λ_=>false):=rfl;rw[hst0];refine⟨goal,rfl,hgo,yu (i:=ti2) (v:=int 0) (b:=b) (o:=0+goal*1) (l:=il g.T.length λ_=>-1) (st2:=xl S b b2 g.T.length (z7 (λ_=>-1) goal 0) λ_=>false) rfl rfl rfl (zbz hbb _ _) θb ?_ ?_⟩
 ·rw[Hh _ _ _ _ hgo,zby hbb]
 refine ydm _ (λF p hQ hdis=>dg hQ φ (λj h0 hj=>by simp at hj) hdis (0,(goal:Int)) _ λF l1 hQ hH hP hdis=>?_);have hd0:∀u,z7 (λ_=>(-1:Int)) goal 0 u=if u=goal then 0 else -1:=λu=>rfl
 have hDJ:=ykz (jl g (zo g l c s) c) hgo hd0;have hcb:=zc8 hgo hd0;have hback:∀F d dn,(Store.un F (xl S b b2 g.T.length d dn)).Has (S.sO b (.cells (il g.T.length d))):=λF d dn=>yjc hf hf2 hbb;have hlen:l1.length<=1000000:=by rw[hP.length_eq];simp
 have hlen1:l1.length=1:=by rw[hP.length_eq];simp
 have hfo:=λd dn=>yi9 (n:=g.T.length) hf hf2 hn d dn;have hfd:=λd dn=>zbz (S:=S) (n:=g.T.length) hbb d dn;have hfn:=λd dn=>yja (S:=S) (b:=b) (b2:=b2) (n:=g.T.length) d dn;have hsd:=λd d' dn=>zby (S:=S) (n:=g.T.length) hbb d d' dn;have hsn:=λd dn dn'=>yi8 (S:=S) (b:=b) (b2:=b2) (n:=g.T.length) d dn dn';have hdd:=λ(F:Store) d d' dn dn' (h:zk F (xl S b b2 g.T.length d dn))=>yjb (d':=d') (dn':=dn') h;generalize hd1:z7 (λ_=>(-1:Int)) goal 0=d at*;refine dk hQ hlen hH hdis _ λF' o l' g1 g2 g3 g4 g5 g6=>?_
 refine AWp.loop (σ:=(Nat->Int)×(Nat->Bool)×Store×Option (Int×Int)×List (Int×Int)×Int) ⟨λq=>[(0,.av (ptr nb)),(2,.av (.clos 429 [])),(7,.av (.s (.slice (some ⟨b,0,none⟩) g.T.length g.T.length))),(8,.av (.s (.slice (some ⟨b2,0,none⟩) g.T.length g.T.length))),(9,.av (ptr p)),(10,.av (int (fk q.2.2.2.1))),(11,.av (int (Pz q.2.2.2.1))),(12,.av (V.bool q.2.2.2.1.isSome))],λ_=>[],
  λq st'=>st'=q.2.2.1.un (xl S b b2 g.T.length q.1 q.2.1)/\QOf q.2.2.1 p q.2.2.2.2.1/\wx q.2.2.2.2.1/\zk q.2.2.1 (xl S b b2 g.T.length q.1 q.2.1)/\DJ (jl g (zo g l c s) c) g.T.length goal q.1 q.2.1 (q.2.2.2.1.toList++q.2.2.2.2.1) q.2.2.2.2.2 Ds∧
   (∀x,q.2.2.2.1=some x->∀e∈x::q.2.2.2.2.1,¬qlt e x)/\(q.2.2.2.1=none->q.2.2.2.2.1=[])/\Fv g.T.length q.1/\9*Fe g.T.length q.2.1+(q.2.2.2.1.toList++q.2.2.2.2.1).length<=9*g.T.length+1,λq=>9*Fe g.T.length q.2.1+(q.2.2.2.1.toList++q.2.2.2.2.1).length⟩ zb ?_ ?_
 ·refine⟨(d,λ_=>false,F',o,l',0),Tv,⟨rfl,g1,g2,g3,ia hDJ (hP.symm.trans g4),g5,g6,hcb,?_⟩,Qbn,Tv⟩;have:=yeq g.T.length λ_=>false;dsimp only;rw[<-g4.length_eq];omega
 clear hdis;clear g1 g2 g3 g4 g5 g6 hDJ hcb hQ hH hP hlen hlen1 hd0 hd1;rintro⟨d,dn,F,o,q,cur⟩ st' ⟨rfl,hQ,hH,hdis,hDJ,hmin,hnil,hcb,hmu⟩;dsimp only at hQ hH hdis hDJ hmin hnil hcb hmu⊢;cases o with
 |none=>
  have:q=[]:=hnil rfl;subst this;have e:=zcf c1 (yk0 hDJ);refine vh (Tt) (hback F d dn) ?_;have:=h b hf;rw[e]at this;exact this λu=>by have h1:=hDJ.lab u;have h2:=M9 hcb u;omega
 |some x=>
 obtain⟨t,ht,htn,hd0,hdx,hcx⟩:=hDJ.ent x φ;have hmin:=hmin x rfl;have hlen:q.length<=1000000:=δ;have hxt:Pz (some x)=(t:Int):=ht;have hq9:(Option.toList (some x)++q).length=q.length+1:=φ;rw[hq9]at hmu;rw[hxt];refine⟨t,rfl,htn,zoo (zg (hfn d dn)) (za _ (V8 htn) ?_)⟩;cases hdt:dn t with
 |true=>
  have hDJ2:=ykx (q':=q) hDJ ht (List.Perm.refl _) hdt;refine dk hQ hlen hH hdis _ λF' o l' g1 g2 g3 g4 g5 g6=>⟨(d,dn,F',o,l',cur),?_,⟨rfl,g1,g2,g3,ia (hDJ2) g4,g5,g6,hcb,?_⟩,Qbn,Tv⟩
  ·show 9*Fe g.T.length (dn)+(o.toList++l').length<9*Fe g.T.length dn+(Option.toList (some x)++q).length;rw[<-g4.length_eq,hq9];omega
  ·dsimp only;rw[<-g4.length_eq];omega
 |false=>
 obtain⟨hk,hDJ1⟩:=ykw (q':=q) hDJ ht (List.Perm.refl _) hmin hdt;have hopen:=yep htn hdt;have hokt:=yky hDJ c1 hd0;refine⟨t,rfl,htn,yu (i:=ti4) (v:=V.bool true) (b:=b2) (o:=0+t*1) (l:=bl g.T.length dn) (st2:=F.un (xl S b b2 g.T.length d (z7 dn t true))) rfl rfl rfl (zg (hfn d dn)) θd ?_ ?_⟩
 ·rw[lb _ _ _ _ htn,yd,hsn]
 refine zoo (zg (hfo _ _)) (Wa g hg t htn _ _ ?_);have hdis:=hdd F d d dn (z7 dn t true) hdis;have hDJ:=zfv hDJ1;have hdn1:z7 dn t true t=true:=vl _ _ _;have hbig:=M9 hcb t;have hbn:=λ(w:Nat) (hw:w<8)=>Wb hg (t:=t) hw
 refine AWp.loop (σ:=Nat×(Nat->Int)×Store×List (Int×Int)) ⟨λy=>[(0,.av (ptr nb)),(2,.av (.clos 429 [])),(7,.av (.s (.slice (some ⟨b,0,none⟩) g.T.length g.T.length))),(8,.av (.s (.slice (some ⟨b2,0,none⟩) g.T.length g.T.length))),(9,.av (ptr p)),(10,.av (int x.1)),(11,.av (int (t:Nat))),(13,.bx 13 0),(70,.av (Ng g t)),(71,.av (int (y.1:Nat)))],λ_=>[(13,il 8 (yj g t))],
  λy st'=>y.1<=8/\st'=y.2.2.1.un (xl S b b2 g.T.length y.2.1 (z7 dn t true))/\QOf y.2.2.1 p y.2.2.2/\wx y.2.2.2/\zk y.2.2.1 (xl S b b2 g.T.length y.2.1 (z7 dn t true))/\DJ (jl g (zo g l c s) c) g.T.length goal y.2.1 (z7 dn t true) y.2.2.2 x.1 (Cf g (zo g l c s) c t y.1)/\y.2.1 t=x.1/\Fv g.T.length y.2.1/\y.2.2.2.length<=q.length+y.1,λy=>8-y.1⟩ zb ?_ ?_
 ·exact⟨(0,d,F,q),Tv,⟨Fad _,rfl,hQ,hH,hdis,hDJ,hk.symm,hcb,Fal _⟩,Qbn,⟨rfl,Tv⟩⟩
 have hx0:0<=x.1:=θ;have hx1:x.1<=84*(g.T.length:Int):=θ;clear hQ hH hdis hDJ hDJ1 hcb hbig hmin hnil hd0 hdx;rintro⟨i,d,F,m⟩ st' ⟨hi,rfl,hQ,hH,hdis,hDJ,hdt1,hcb,hml⟩;dsimp only at hi hQ hH hdis hDJ hdt1 hcb hml⊢;refine bcd (λc2=>?_) λc2=>?_;rotate_left
 ·have:i=8:=θ;subst this;have hlen:m.length<=1000000:=θ;have hDJ2:=zfw hDJ;refine dk hQ hlen hH hdis _ λF' o l' g1 g2 g3 g4 g5 g6=>⟨(d,z7 dn t true,F',o,l',x.1),?_,⟨rfl,g1,g2,g3,ia (hDJ2) g4,g5,g6,hcb,?_⟩,Qbn,Tv⟩
  ·show 9*Fe g.T.length (z7 dn t true)+(o.toList++l').length<9*Fe g.T.length dn+(Option.toList (some x)++q).length;rw[<-g4.length_eq,hq9];omega
  ·dsimp only;rw[<-g4.length_eq];omega
 have hlt:i<8:=θ;refine⟨i,rfl,hlt,za _ (Sw hlt) (oj hg (zg (hfo _ _)) t htn i hlt _ ?_)⟩;have hsb:=Rk g (zo g l c s) c t i;have hskip:=Wr hDJ;have hedge:=zcs (g:=g) (ok:=zo g l c s) (c:=c) (t:=t) (way:=i) hokt htn hlt;have hor:=hbn i hlt;have hfr:0<qj g (zo g l c s) c t i->0<=yj g t i:=λhp=>(gj (bm (g:=g) (ok:=zo g l c s) (c:=c) (t:=t) (way:=i) θ)).1;generalize hC:qj g (zo g l c s) c t i=C at*;generalize hU:yj g t i=U at*
 -- nothing to note:on with the next way
 have next:(0<C->∀u:Nat,U=u->0<=d u/\d u<=d t+C)->∃y:Nat×(Nat->Int)×Store×List (Int×Int),8-y.1<8-i/\(y.1<=8/\F.un (xl S b b2 g.T.length d (z7 dn t true))=y.2.2.1.un (xl S b b2 g.T.length y.2.1 (z7 dn t true))/\QOf y.2.2.1 p y.2.2.2/\wx y.2.2.2/\zk y.2.2.1 (xl S b b2 g.T.length y.2.1 (z7 dn t true))/\DJ (jl g (zo g l c s) c) g.T.length goal y.2.1 (z7 dn t true) y.2.2.2 x.1 (Cf g (zo g l c s) c t y.1)/\y.2.1 t=x.1/\Fv g.T.length y.2.1/\y.2.2.2.length<=q.length+y.1)/\y=(i+1,d,F,m):=λhp=>
  ⟨(i+1,d,F,m),ζ,⟨ζ,rfl,hQ,hH,hdis,hskip λu hu hc=>hp hc u hu,hdt1,hcb,ζ⟩,rfl⟩
 refine bcd (λc3=>?_) λc3=>?_;rotate_left
 ·obtain⟨y,f1,f2,rfl⟩:=next λhc=>absurd hc c3
  exact Qd ⟨(i+1,d,F,m),f1,f2,Qbn,⟨rfl,Tv⟩⟩
 have hU0:=hfr c3;obtain⟨u,rfl,hul⟩:∃u:Nat,U=(u:Int)/\u<g.T.length:=by
  rcases hor with h1|h1
  ·omega
  ·exact h1
 rw[Fa0]at hedge;have hedge:=hedge c3;refine⟨u,rfl,hul,zoo (zg (hfn d _)) (za _ (V8 hul) (ye (zh (λc4=>?_) λc4=>?_)))⟩
 ·obtain⟨y,f1,f2,rfl⟩:=next (λhc v hv=>by
   have:v=u:=θ;subst this;have:=hDJ.mono v c4;omega)
  exact Qd ⟨(i+1,d,F,m),f1,f2,Qbn,⟨rfl,Tv⟩⟩
 refine⟨u,rfl,hul,zoo (zg (hfd d _)) (za _ (k9 hul) (bcd (λc5=>?_) λc5=>?_))⟩
 ·skip;have hlow:d u<0\/d t+C<d u:=Or.inl c5;have hcb2:=Vw hcb hul (t:=t) (u:=u) (c:=C) θ θ hlow;rw[hdt1]at hcb2 hlow;refine Qd ⟨u,rfl,hul,yu (i:=ti2) (v:=int (x.1+C)) (b:=b) (o:=0+u*1) (l:=il g.T.length d) (st2:=F.un (xl S b b2 g.T.length (z7 d u (x.1+C)) (z7 dn t true))) rfl rfl rfl (zg (hfd d _)) θb ?_ ?_⟩
  ·rw[Hh _ _ _ _ hul,yd,hsd]
  refine Qd (dg hQ θ hH (hdd F d (z7 d u (x.1+C)) _ _ hdis) (x.1+C,(u:Int)) _ λF' m' e1 e2 e3 e4=>?_);have hnote:=zcz M5 hDJ hdn1 hdt1 hul hedge c4 hlow e3;have htu:t≠u:=λe=>by subst e;rw[hdn1]at c4;cases c4
  have hC:=hC.symm;refine Qd ⟨(i+1,z7 d u (x.1+C),F',m'),?_,⟨ζ,rfl,e1,e2,e4,?_,?_,hcb2,?_⟩,Qbn,⟨rfl,Tv⟩⟩
  ·show 8-(i+1)<8-i;omega
  ·refine Wr hnote λv hv hc=>?_;have hvu:v=u:=by
    rw[hU]at hv;omega
   subst hvu;dsimp only;rw[vl,jo htu,hdt1,<-hC];omega
  ·dsimp only;rw[jo htu];exact hdt1
  ·dsimp only;rw[e3.length_eq,Fbz];omega
 have hbig:=M9 hcb u;refine Qd ⟨u,rfl,hul,zoo (zg (hfd d _)) (za _ (k9 hul) (bcd (λc6=>?_) λc6=>?_))⟩
 ·skip;have hlow:d u<0\/d t+C<d u:=Or.inr (show d t+C<d u by omega);have hcb2:=Vw hcb hul (t:=t) (u:=u) (c:=C) θ θ hlow;rw[hdt1]at hcb2 hlow;refine Qd ⟨u,rfl,hul,yu (i:=ti2) (v:=int (x.1+C)) (b:=b) (o:=0+u*1) (l:=il g.T.length d) (st2:=F.un (xl S b b2 g.T.length (z7 d u (x.1+C)) (z7 dn t true))) rfl rfl rfl (zg (hfd d _)) θb ?_ ?_⟩
  ·rw[Hh _ _ _ _ hul,yd,hsd]
  refine Qd (dg hQ θ hH (hdd F d (z7 d u (x.1+C)) _ _ hdis) (x.1+C,(u:Int)) _ λF' m' e1 e2 e3 e4=>?_);have hnote:=zcz M5 hDJ hdn1 hdt1 hul hedge c4 hlow e3;have htu:t≠u:=λe=>by subst e;rw[hdn1]at c4;cases c4
  have hC:=hC.symm;refine Qd ⟨(i+1,z7 d u (x.1+C),F',m'),?_,⟨ζ,rfl,e1,e2,e4,?_,?_,hcb2,?_⟩,Qbn,⟨rfl,Tv⟩⟩
  ·show 8-(i+1)<8-i;omega
  ·refine Wr hnote λv hv hc=>?_;have hvu:v=u:=by
    rw[hU]at hv;omega
   subst hvu;dsimp only;rw[vl,jo htu,hdt1,<-hC];omega
  ·dsimp only;rw[jo htu];exact hdt1
  ·dsimp only;rw[e3.length_eq,Fbz];omega
 obtain⟨y,f1,f2,rfl⟩:=next (λhc v hv=>by have:v=u:=θ;subst this;omega)
 exact Qd ⟨(i+1,d,F,m),f1,f2,Qbn,⟨rfl,Tv⟩⟩
end
def zgz{S:Store}{nb:Nat}{g:Gnd}(hg:zw g){l:List Bld}{c s:Int}(hn:S.obj nb=some (.cells (jd g l c s)))(goal:Nat)(hgo:goal<g.T.length)(R:Ja)
  (h:∀b,Fresh S b->R (.s (.slice (some ⟨b,0,none⟩) g.T.length g.T.length)) (S.sO b (.cells (il g.T.length (xc g (zo g l c s) c (xu g (zo g l c s) c goal)))))):
  Jb 423 [ptr nb,int (goal:Nat)] S R:=by
 have ha:=qg hg;have hT:g.T.length<=16384:=θ;refine Qy 71 Tryz.func423 ?_;refine yiv hg hn goal hgo _ λb hf hdb=>?_;generalize xu g (zo g l c s) c goal=d at*;refine⟨ψ,sf (-1) g.T.length θ θ _ _ λb2 hf2=>?_⟩;have hbb:b≠b2:=λe=>by have:=hf2.1;rw[<-e,zd]at this;cases this
 rw[<-zfr g (zo g l c s) c d];have hfo:=λf=>zgj (n:=g.T.length) hf hf2 hn d f;have hfd:=λf=>zgm (S:=S) (n:=g.T.length) hbb d f;have hsf:=λf f'=>zgi (S:=S) (b:=b) (b2:=b2) (n:=g.T.length) d f f';have hff:=λf=>zgl (S:=S) (b:=b) (b2:=b2) (n:=g.T.length) d f
 refine AWp.loop (σ:=Nat) ⟨λi=>[(0,.av (ptr nb)),(5,.av (.s (.slice (some ⟨b,0,none⟩) g.T.length g.T.length))),(6,.av (.s (.slice (some ⟨b2,0,none⟩) g.T.length g.T.length))),(20,.av (.s (.slice (some ⟨b,0,none⟩) g.T.length g.T.length))),(21,.av (int (g.T.length:Nat))),(22,.av (int (i:Nat)))],λ_=>[],
  λi st'=>i<=g.T.length/\st'=wn S b b2 g.T.length d (Bg g (zo g l c s) c d i),λi=>g.T.length-i⟩ zb ?_ ?_
 ·exact⟨0,Tv,⟨Fad _,rfl⟩,Qbn,Tv⟩
 rintro i st' ⟨hi,rfl⟩;refine bcd (λc1=>?_) λc1=>?_;rotate_left
 ·have:i=g.T.length:=θ;subst this;refine vh (Tt) (zgn hf hbb _ _) ?_;rw[zfs];exact h b2 (zgk hbb hf2)
 have hlt:i<g.T.length:=θ
 -- on with the next tile
 have next:∀f,f=Bg g (zo g l c s) c d (i+1)->∃k:Nat,g.T.length-k<g.T.length-i/\(k<=g.T.length/\wn S b b2 g.T.length d f=wn S b b2 g.T.length d (Bg g (zo g l c s) c d k))/\k=i+1:=λf e=>⟨i+1,θ,⟨θ,by rw[e]⟩,rfl⟩
 refine⟨i,rfl,hlt,zoo (hfd _) (za _ (k9 hlt) (bcd (λc2=>?_) λc2=>?_))⟩
 ·obtain⟨k,f1,f2,rfl⟩:=next _ (ly (l7 c2)).symm
  exact Qd ⟨i+1,f1,f2,Qbn,Tv⟩
 refine zoo (hfo _) (Wa g hg i hlt _ _ ?_)
 refine AWp.loop (σ:=Nat) ⟨λj=>[(0,.av (ptr nb)),(5,.av (.s (.slice (some ⟨b,0,none⟩) g.T.length g.T.length))),(6,.av (.s (.slice (some ⟨b2,0,none⟩) g.T.length g.T.length))),(7,.av (int (i:Nat))),(8,.av (int (d i))),(9,.bx 9 0),(20,.av (.s (.slice (some ⟨b,0,none⟩) g.T.length g.T.length))),(21,.av (int (g.T.length:Nat))),(22,.av (int (i:Nat))),(35,.av (Ng g i)),(36,.av (int (j:Nat)))],λ_=>[(9,il 8 (yj g i))],
  λj st'=>j<=8/\st'=wn S b b2 g.T.length d (Bg g (zo g l c s) c d i)/\∀w,w<j->¬wh g (zo g l c s) c d i w,λj=>8-j⟩ zb ?_ ?_
 ·exact⟨0,Tv,⟨Fad _,rfl,λw hw=>absurd hw (Fau w)⟩,Qbn,⟨rfl,Tv⟩⟩
 rintro j st' ⟨hj,rfl,hno⟩;refine bcd (λc3=>?_) λc3=>?_;rotate_left
 ·have:j=8:=θ;subst this;obtain⟨k,f1,f2,rfl⟩:=next _ (ly (l6 c2 hno)).symm
  exact Qd ⟨i+1,f1,f2,Qbn,Tv⟩
 have hj8:j<8:=θ;have hskip:¬wh g (zo g l c s) c d i j->∃k:Nat,8-k<8-j/\(k<=8/\wn S b b2 g.T.length d (Bg g (zo g l c s) c d i)=wn S b b2 g.T.length d (Bg g (zo g l c s) c d i)/\∀w,w<k->¬wh g (zo g l c s) c d i w)/\k=j+1:=λhh=>⟨j+1,θ,⟨θ,rfl,λw hw=>by
  by_cases e:w=j
  ·subst e;exact hh
  ·exact hno w θ⟩,rfl⟩
 have hyes:wh g (zo g l c s) c d i j->xc g (zo g l c s) c d i=(j:Int):=λhh=>l5 c2 hj8 hh hno;refine⟨j,rfl,hj8,za _ (Sw hj8) (oj hg (hfo _) i hlt j hj8 _ ?_)⟩;have hsb:=Rk g (zo g l c s) c i j;have hor:=Wb hg (t:=i) hj8;have hfr:0<qj g (zo g l c s) c i j->0<=yj g i j:=λhp=>(gj (bm (g:=g) (ok:=zo g l c s) (c:=c) (t:=i) (way:=j) θ)).1;unfold wh at hskip hyes;generalize qj g (zo g l c s) c i j=C at*;generalize yj g i j=U at*;refine bcd (λc4=>?_) λc4=>?_;rotate_left
 ·obtain⟨k,f1,f2,rfl⟩:=hskip λhh=>c4 hh.1;exact Qd ⟨j+1,f1,f2,Qbn,⟨rfl,Tv⟩⟩
 have hU0:=hfr c4;obtain⟨u,rfl,hul⟩:∃u:Nat,U=(u:Int)/\u<g.T.length:=by
  rcases hor with h1|h1
  ·omega
  ·exact h1
 rw[Fa0]at hskip hyes;have hdu:=hdb u;refine⟨u,rfl,hul,zoo (hfd _) (za _ (k9 hul) (bcd (λc5=>?_) λc5=>?_))⟩;rotate_left
 ·obtain⟨k,f1,f2,rfl⟩:=hskip λhh=>c5 hh.2.1;exact Qd ⟨j+1,f1,f2,Qbn,⟨rfl,Tv⟩⟩
 refine⟨u,rfl,hul,zoo (hfd _) (za _ (k9 hul) (Qd (zt (λc6=>?_) λc6=>?_)))⟩;rotate_left
 ·obtain⟨k,f1,f2,rfl⟩:=hskip λhh=>c6 hh.2.2;exact Qd ⟨j+1,f1,f2,Qbn,⟨rfl,Tv⟩⟩
 have hw:=hyes ⟨c4,c5,c6⟩;refine⟨i,rfl,hlt,yu (i:=ti2) (v:=int (j:Nat)) (b:=b2) (o:=0+i*1) (l:=il g.T.length (Bg g (zo g l c s) c d i)) (st2:=wn S b b2 g.T.length d (Bg g (zo g l c s) c d (i+1))) rfl rfl rfl (hff _) θb ?_ ?_⟩
 ·rw[Hh _ _ _ _ hlt,hsf,lz,hw]
 obtain⟨k,f1,f2,rfl⟩:=next _ rfl
 exact Qd ⟨i+1,f1,f2,Qbn,Tv⟩
structure MoverG(gv:AV)(F G:Store)(mb s p:Nat)(w:Wld)(v:AV)(L:List Ent)(o0 o1 o2:AV):Prop where
 S:StandR F G s p w v L o0 o1 o2
 hx:G.obj mb=some (.cells [ptr s,gv])
 ox:xz v mb
 os:xz v s
 hL:L.length<=w.U.length
 hF:Dr w L
section
variable {gv v o0 o1 o2 q0 q1 q2:AV} {F G F':Store} {mb p i:Nat} {w:Wld}
theorem MoverG.ne{s:Nat}{L:List Ent}(h:MoverG gv F G mb s p w v L o0 o1 o2):mb≠s:=λe=>by have:=h.S.hs;rw[<-e,h.hx]at this;cases this
theorem MoverG.m{s:Nat}{w':Wld}{L:List Ent}(h:MoverG gv F G mb s p w v L o0 o1 o2):(F'.un (svS G s w' v q0 q1 q2 p)).obj mb=some (.cells [ptr s,gv]):=
 zg (by show(G.sO s _).obj mb=_;rw[zj h.ne];exact h.hx)
theorem MoverG.s{s:Nat}{L:List Ent}(h:MoverG gv F G mb s p w v L o0 o1 o2):(F'.un (svS G s w v q0 q1 q2 p)).obj s=some (.cells (svC w v q0 q1 q2 p)):=zg (Bd _ _ _ _ _ _ _ _)
theorem MoverG.put{G':Store}{s:Nat}{L:List Ent}(h:MoverG gv F G mb s p w v L o0 o1 o2)(hr:yr w.U)(hi:i<w.U.length){u:Unt}(hid:w.U[i].id=u.id)(g1:StandR F' G' s p {w with U:=w.U.set i u} v (D2 L u) q0 q1 q2)
  (g2:∀q,xz v q->G'.obj q=G.obj q):MoverG gv F' G' mb s p (yk w u) v (D2 L u) q0 q1 q2:=by
 rw[Bl hr hi hid.symm];have hF3:=uc h.hF hr hi (u:=u) hid;refine⟨g1,by rw[g2 mb h.ox];exact h.hx,h.ox,h.os,?_,hF3⟩;obtain⟨_,_,_,_,_,_,_,_,inv⟩:=g1.hc;exact ud inv.n1 hF3
def er{s:Nat}{L:List Ent}(hW:MoverG gv F G mb s p w v L o0 o1 o2)(hm:MayF w)(hn:∀u∈w.U,u.pos.ok)(hi:i<w.U.length)(u:Unt)(hid:w.U[i].id=u.id)(hp:u.pos.ok)(R:Ja)
  (h:∀F' G' L',MoverG gv F' G' mb s p (yk w u) v L' o0 o1 o2->R (.tup []) (F'.un (svS G' s (yk w u) v o0 o1 o2 p))):
  Jb 95 [ptr s,.agg (zf u)] (F.un (svS G s w v o0 o1 o2 p)) R:=by
 have hU:=hm.hU;refine dm hW.S hW.os hm.hr θ (by have:=hW.hL;omega) (Kw hW.hF hn) hi u hid hp R λF' G' g1 g2=>?_;have e:=Bl (w:=w) hm.hr hi hid.symm;have:=h F' G' _ (hW.put hm.hr hi hid g1 g2);rw[e]at this;exact this
def nn{s:Nat}{L:List Ent}(hW:MoverG gv F G mb s p w v L o0 o1 o2)(hm:MayF w)(hn:∀u∈w.U,u.pos.ok)(hi:i<w.U.length)(d:Vc)(hd:d.ok)(R:Ja)
  (h:∀F' G' L' q0 q1 q2,MoverG gv F' G' mb s p (xk w w.U[i] d) v L' q0 q1 q2->R (int (Am w w.U[i] d)) (F'.un (svS G' s (xk w w.U[i] d) v q0 q1 q2 p))):
  Jb 52 [ptr mb,.agg (zf w.U[i]),.agg (zu d)] (F.un (svS G s w v o0 o1 o2 p)) R:=by
 have hU:=hm.hU;have hB:=hm.hB;have hnd:=mn hd;have hpk:=hn _ (Faa hi);unfold xk Am at h;have hhalf:=λk=>zbj hnd k;have hzero:=λn k=>zgs (w:=w) (u:=w.U[i]) (v:=qu d) (n:=n) (k:=k);have hnext:=λn k=>zgu (w:=w) (u:=w.U[i]) (v:=qu d) (n:=n) (k:=k);have hsome:=λn k=>zgt (w:=w) (u:=w.U[i]) (v:=qu d) (n:=n) (k:=k);have hhv:∀k,vd (qu d) k=((qu d).1.tdiv ((2^k:Nat):Int),(qu d).2.tdiv ((2^k:Nat):Int)):=λk=>rfl;refine Qy 53 Tryz.func52 ?_;refine mo d _ _ ?_;generalize qu d=nd at*
 refine AWp.loop (σ:=Nat×Store×AV×AV×AV) ⟨λx=>[(0,.av (ptr mb)),(4,.bx 4 0),(5,.bx 5 0),(12,.av (int (x.1:Nat)))],λ_=>[(4,zf w.U[i]),(5,zu nd)],
  λx st'=>x.1<=5/\st'=x.2.1.un (svS G s w v x.2.2.1 x.2.2.2.1 x.2.2.2.2 p)/\StandR x.2.1 G s p w v L x.2.2.1 x.2.2.2.1 x.2.2.2.2/\qk w w.U[i] nd 5 0=qk w w.U[i] nd (5-x.1) x.1,λx=>5-x.1⟩ zb ?_ ?_
 ·exact⟨(0,F,o0,o1,o2),Tv,⟨Fad _,rfl,hW.S,rfl⟩,Qbn,⟨rfl,rfl,Tv⟩⟩
 rintro⟨k,F1,q0,q1,q2⟩ st' ⟨hk,rfl,hS1,hT⟩;dsimp only at hk hS1 hT⊢;refine bcd (λc1=>?_) λc1=>?_;rotate_left
 ·have:k=5:=θ;subst this;have hT:qk w w.U[i] nd 5 0=none:=hT;rw[hT]at h;exact ret (h F1 G L q0 q1 q2 ⟨hS1,hW.hx,hW.ox,hW.os,hW.hL,hW.hF⟩)
 have hk5:k<5:=θ;obtain⟨n,hn5⟩:∃n,5-k=n+1:=⟨4-k,θ⟩
 rw[hn5]at hT;have hsh:=po hk5;have hkv:=hhv k;have hh:=hhalf k;have hp2:((2^k:Nat):Int)≠0:=by have:0<2^k:=Nat.pow_pos ψ;omega
 rw[<-hsh]at hkv hp2;have hh1:ym (nd.1.tdiv (IntKind.i64.wrap (1*2^(min ((k:Int)).toNat IntKind.i64.bits)))):=ψ2;have hh2:ym (nd.2.tdiv (IntKind.i64.wrap (1*2^(min ((k:Int)).toNat IntKind.i64.bits)))):=ψ3;have hz0:=hzero n k;have hnx:=hnext n k;have hsm:=hsome n k;refine Qc zb zvx ⟨θ,⟨hp2,ze hh1 ⟨θ,⟨hp2,ze hh2 ⟨⟨?_,?_⟩,Tv⟩⟩⟩⟩⟩
 ·repeat(first|exact Tv|refine⟨rfl,?_⟩|refine⟨⟨θ,rfl⟩,?_⟩|refine⟨⟨hp2,ze hh1 rfl⟩,?_⟩|refine⟨⟨hp2,ze hh2 rfl⟩,?_⟩)
 refine Qbr ?_;rw[hkv]at hz0 hnx hsm hh;generalize nd.1.tdiv (IntKind.i64.wrap (1*2^(min ((k:Int)).toNat IntKind.i64.bits)))=a at*;generalize nd.2.tdiv (IntKind.i64.wrap (1*2^(min ((k:Int)).toNat IntKind.i64.bits)))=b at*;refine zh (λc2=>?_) λc2=>?_
 ·have e:(a,b)=((0:Int),(0:Int)):=by
   simp only[Fay,beq_iff_eq]at c2;exact Prod.ext c2.1 c2.2.1
  rw[hz0 e]at hT;rw[hT]at h;exact ret (h F1 G L q0 q1 q2 ⟨hS1,hW.hx,hW.ox,hW.os,hW.hL,hW.hF⟩)
 have hne:(a,b)≠((0:Int),(0:Int)):=λe=>by cases e;exact absurd c2 ψ
 refine my w.U[i].pos (a,b) hpk (Sg hh) _ _ ?_;have hnp:=Sg (uu w.U[i].pos (a,b));have hnx:=hnx hne;have hsm:=hsm hne;generalize xn w.U[i].pos (a,b)=np at*;refine Qc zb zvw (zoo hW.m ⟨bu hS1 hm.hg θ hm.hb hm.hr θ hn hW.hL hW.hF w.U[i].id w.U[i].kind np hnp _ λz F2 a0 a1 a2 hz hS2=>⟨Tv,zh (λc3=>?_) λc3=>?_⟩,Tv⟩);rotate_left
 ·rw[hnx (λhh=>by rw[hz.2 hh]at c3;cases c3)]at hT;refine Qd ⟨(k+1,F2,a0,a1,a2),?_,⟨ζ,rfl,hS2,?_⟩,Qbn,⟨rfl,rfl,Tv⟩⟩
  ·show 5-(k+1)<5-k;omega
  ·show qk w w.U[i] nd 5 0=qk w w.U[i] nd (5-(k+1)) (k+1);rw[hT]
   congr 1
   omega
 rw[hsm (hz.1 c3)]at hT;rw[hT]at h;have hW2:MoverG gv F2 G mb s p w v L a0 a1 a2:=⟨hS2,hW.hx,hW.ox,hW.os,hW.hL,hW.hF⟩
 exact Qc zb zvy (zoo hW.m ⟨er hW2 hm hn hi {w.U[i]with pos:=np} rfl hnp _ λF3 G3 L3 hW3=>⟨Tv,ret (h F3 G3 L3 a0 a1 a2 hW3)⟩,Tv⟩)
end
section
variable {gv v o0 o1 o2:AV} {F G:Store} {mb s p i:Nat} {w:Wld}
def yki{L:List Ent}(hW:MoverG gv F G mb s p w v L o0 o1 o2)(hm:MayF w)(hn:∀u∈w.U,u.pos.ok)(hi:i<w.U.length)(u:Unt)(hid:w.U[i].id=u.id)(hp:u.pos.ok)(z:Int)(R:Ja)
  (h:∀F' G' L',MoverG gv F' G' mb s p (yk w (j4 z u)) v L' o0 o1 o2->R (.tup []) (F'.un (svS G' s (yk w (j4 z u)) v o0 o1 o2 p))):
  Jb 230 [ptr mb,.agg (zf u),int z] (F.un (svS G s w v o0 o1 o2 p)) R:=by
 refine Qy 17 Tryz.func230 ?_;refine Qc zb zxk (zoo hW.m ?_);exact⟨er hW hm hn hi (j4 z u) hid hp _ λF3 G3 L3 hW3=>⟨Tv,ret (h F3 G3 L3 hW3)⟩,Tv⟩
def yhh{L:List Ent}(hW:MoverG gv F G mb s p w v L o0 o1 o2)(hm:MayF w)(hn:∀u∈w.U,u.pos.ok)(hmap:∀u∈w.U,u.inn=0->xq u.pos)(hi:i<w.U.length)(h0:w.U[i].inn=0)(R:Ja)
  (h:∀F' G' L' q0 q1 q2,MoverG gv F' G' mb s p (Fp w w.U[i]) v L' q0 q1 q2->R (.tup []) (F'.un (svS G' s (Fp w w.U[i]) v q0 q1 q2 p))):
  Jb 151 [ptr mb,.agg (zf w.U[i])] (F.un (svS G s w v o0 o1 o2 p)) R:=by
 have hU:=hm.hU;have hpu:=hmap _ (Faa hi) h0;have hkr:=Bm w.U[i].kind;have hks:=L9 w.U[i].kind;have htiny:=zbb hpu (λx hx h1=>hmap x hx h1) hU;have hidl:=λ(us:List Unt) (h1:K0 w w.U[i].pos (z6 w.U[i].kind+16384+81920) us) h2=>yhg (u:=w.U[i]) hm.hr h1 h2;unfold Fp at h;refine Qy 55 Tryz.func151 ?_;refine kj _ _ _ ?_;refine Qc zb zyz (zoo hW.m ?_);refine Qd ?_;refine⟨o7 hW.S hm.hr θ hn hW.hL hW.hF w.U[i].pos (Ah hpu) (z6 w.U[i].kind+16384) θ _ λF1 us hS1 hus hss hul=>⟨Tv,?_⟩,Tv⟩;have hW1:MoverG gv F1 G mb s p w v L o0 o1 o2:=⟨hS1,hW.hx,hW.ox,hW.os,hW.hL,hW.hF⟩
 have hid:=hidl us hus hss;have hnv:∀k,nV ((us.take k).foldl (Ar w.U[i]) (0,0)):=λk=>ur _ ⟨⟨ψ,ψ⟩,⟨ψ,ψ⟩⟩
 refine AWp.loop (σ:=Nat) ⟨λk=>[(0,.av (ptr mb)),(3,.bx 3 0),(4,.bx 4 0),(5,.bx 5 0),(20,.av (lst 10 zf us)),(21,.av (int (us.length:Nat))),(22,.av (int (k:Nat)))],λk=>[(3,zf w.U[i]),(4,C7 w.U[i].kind),(5,zu ((us.take k).foldl (Ar w.U[i]) (0,0)))],
  λk st'=>k<=us.length/\st'=F1.un (svS G s w v o0 o1 o2 p),λk=>us.length-k⟩ zb ?_ ?_
 ·exact⟨0,Tv,⟨Fad _,rfl⟩,⟨Tq,Tq,Tq,Tq,Tq,LV.le_int (by rw[zl]),Tq,Tv⟩,⟨rfl,rfl,rfl,Tv⟩⟩
 rintro k st' ⟨hk,rfl⟩;refine bcd (λc1=>?_) λc1=>?_;rotate_left
 ·have:k=us.length:=θ;have hv:(us.take k).foldl (Ar w.U[i]) (0,0)=Be w w.U[i]:=by
   rw[this,Fak,hid]
  rw[<-hv]at h htiny;have hq4:(xa w.U[i].kind).tdiv 4=xa w.U[i].kind/4:=Faz θ;exact Qc zb zyx ⟨ψ,ze (by rw[hq4];omega) ⟨V3 ((us.take k).foldl (Ar w.U[i]) (0,0)) ((xa w.U[i].kind).tdiv 4) htiny (by rw[hq4];omega) _ _ ⟨Qe,⟨nn hW1 hm hn hi _ (Ki htiny) _ λF3 G3 L3 a0 a1 a2 hW3=>⟨Tv,ret (h F3 G3 L3 a0 a1 a2 hW3)⟩,Tv⟩⟩,Tv⟩⟩
 have hlt:k<us.length:=θ;have hx:=(hus us[k]).1 (Faa hlt);have hpx:=hmap _ hx.1.1 hx.1.2;have hkx:=Bm us[k].kind;refine⟨k,rfl,za _ (zn hlt) ?_⟩;have hstep:(us.take (k+1)).foldl (Ar w.U[i]) (0,0)=Ar w.U[i] ((us.take k).foldl (Ar w.U[i]) (0,0)) us[k]:=by rw[Fab hlt,List.foldl_append];rfl
 refine qd (λc2=>?_) λc2=>?_;rotate_left
 ·have hst:(us.take (k+1)).foldl (Ar w.U[i]) (0,0)=(us.take k).foldl (Ar w.U[i]) (0,0):=by
   rw[hstep];unfold Ar;rw[if_neg (λhh=>hh c2)]
  refine Qd ⟨k+1,?_,⟨hlt,rfl⟩,Qbn,⟨rfl,rfl,congrArg (λx=>some (zu x)) hst.symm,Tv⟩⟩;show us.length-(k+1)<us.length-k;omega
 have hst:(us.take (k+1)).foldl (Ar w.U[i]) (0,0)=xn ((us.take k).foldl (Ar w.U[i]) (0,0)) (ky w.U[i].pos (z6 w.U[i].kind+z6 us[k].kind+16384) us[k].pos):=by rw[hstep];unfold Ar;rw[if_pos c2]
 have hps:=R9 hpu hpx (r:=z6 w.U[i].kind+z6 us[k].kind+16384) θ;have hnk:=hnv k;refine Qc zb zyy ⟨kj _ _ _ ⟨Qe,Qd (Qd ⟨zu5 w.U[i].pos (z6 w.U[i].kind+z6 us[k].kind+16384) us[k].pos hpu hpx θ _ _ ⟨Qe,⟨my _ _ (Sg hnk) ⟨⟨θ,θ⟩,⟨θ,θ⟩⟩ _ _ ⟨Qe,Qbq (Qd ⟨k+1,?_,⟨hlt,rfl⟩,Qbn,⟨rfl,rfl,congrArg (λx=>some (zu x)) hst.symm,Tv⟩⟩)⟩,Tv⟩⟩,Tv⟩)⟩,Tv⟩;show us.length-(k+1)<us.length-k;omega
end
end Go.Proofs
namespace Go.Proofs
open Go Go.V
set_option maxRecDepth 20000
set_option maxHeartbeats 4000000
def yg7{S:Store}{b n:Nat}{f:Nat->Int}(hb:S.obj b=some (.cells (il n f)))(hn:n<=1000000)(x:Int)(R:Ja)(h:∀r:Int,((0:Int)<=r↔(List.range n).any (λj=>f j==x)=true)->R (int r) S):
  Jb 343 [.s (.slice (some ⟨b,0,none⟩) n n),int x] S R:=by
 refine Qy 19 Tryz.func343 ?_
 refine AWp.loop (σ:=Nat) ⟨λi=>[(0,.av (.s (.slice (some ⟨b,0,none⟩) n n))),(1,.av (int x)),(7,.av (int (n:Nat))),(8,.av (int (i:Nat)))],λ_=>[],
  λi st'=>i<=n/\st'=S/\∀j,j<i->(f j==x)=false,λi=>n-i⟩ zb ?_ ?_
 ·exact⟨0,Tv,⟨Fad _,rfl,λj hj=>absurd hj (Fau j)⟩,Qbn,Tv⟩
 rintro i st' ⟨hi,rfl,hall⟩;refine bcd (λc1=>?_) λc1=>?_;rotate_left
 ·have:i=n:=θ;subst this;refine ret (h (-1) ?_);rw[yn5 hall];simp
 have hlt:i<n:=θ;refine⟨i,rfl,hlt,Qbs (za _ (k9 hlt) (zt (λc2=>?_) λc2=>?_))⟩
 ·refine ret (h i ?_);rw[yn6 hlt (by rw[c2];simp)];simp
 ·refine Qd ⟨i+1,?_,⟨θ,rfl,λj hj=>?_⟩,Qbn,Tv⟩
  ·show n-(i+1)<n-i;omega
  ·by_cases e:j=i
   ·subst e;rw[beq_eq_false_iff_ne];exact λe=>c2 e.symm
   ·exact hall j θ
def yl7{S:Store}{b n:Nat}{f:Nat->Int}(hb:S.obj b=some (.cells (il n f)))(hn:n<=1000000)(x:Int)(R:Ja)(h:R (V.bool ((List.range n).any λj=>f j==x)) S):
  Jb 299 [.s (.slice (some ⟨b,0,none⟩) n n),int x] S R:=by
 refine Qy 9 Tryz.func299 ?_;refine yg7 hb hn x _ λr hr=>?_;have e:decide (r>=0)=(List.range n).any (λj=>f j==x):=by rw[Fbq,decide_eq_true_iff];exact hr
 rw[<-e]at h;exact ret h
end Go.Proofs
namespace Go.Proofs
open Go Go.V
set_option maxRecDepth 20000
set_option maxHeartbeats 4000000
def Lx{g:Gnd}(hg:zw g){t:Int}(h:Aa g t):t=-1\/∃k:Nat,t=k/\k<g.T.length:=by
 rcases h with h|⟨h1,h2⟩
 ·exact .inl h
 ·obtain⟨k,rfl⟩:=Fbx h1;exact .inr ⟨k,rfl,by have:=hg.2.2.1;omega⟩
theorem zgr{w:Wld}{u:Unt}{d:Vc}(h:¬Am w u d<5):xk w u d=w:=by
 unfold Am at h;unfold xk;cases hl:qk w u (qu d) 5 0 with
 |none=>rfl
 |some r=>
  rw[hl]at h;obtain⟨k,q⟩:=r;have:=(P9 _ _ hl).2.1.2;dsimp only at this h;exact absurd θ h
section
variable {a g X N:Store} {gx:Value} {M n mb p:Nat} {w:Wld} {c:Int} {v o0 o1 o2:AV}
abbrev gvOf(gt:TypeId)(gx:Value):AV:=.s (.iface gt gx)
theorem un_comm(hd:zk a g):a.un g=g.un a:=by
 show Store.mk _ _=Store.mk _ _
 congr 1
 ·funext i
  show(match g.obj i with|some x=>some x|none=>a.obj i)=match a.obj i with|some x=>some x|none=>g.obj i
  cases h1:a.obj i with
  |none=>cases g.obj i<;>rfl
  |some x=>rw[(k8 (hd i (xf h1))).1]
 ·funext i
  show(match g.tok i with|some x=>some x|none=>a.tok i)=match a.tok i with|some x=>some x|none=>g.tok i
  cases h1:a.tok i with
  |none=>cases g.tok i<;>rfl
  |some x=>rw[(k8 (hd i (Iu h1))).2]
def Dc(h:zk a g):zk g a:=λb h1 h2=>h b h2 h1
structure GuideK(gt:TypeId)(gx:Value)(K:Nat->Store->Prop)(M:Nat)(w:Wld):Prop where
 net:∀{n:Nat} {N:Store} {c s:Int},K n N->(c=0\/c=1\/c=2)->(0<=s/\s<=3)->∀R:AV->Store->Prop,(∀b N',K n N'->N'.obj b=some (.cells (jd w.G w.B c s))->R (ptr b) N')->
  ∃ g x, Meets Tryz.prog gt gx "Net" g x /\ Jb g [x, .agg (zq w.G), lst 6 zi w.B, int c, int s] N R
 ways:∀{n:Nat} {N:Store} {c s:Int},K n N->n<M->(c=0\/c=1\/c=2)->(0<=s/\s<=3)->∀goal:Nat,goal<w.G.T.length->∀R:AV->Store->Prop,
  (∀b N',K (n+1) N'->N'.obj b=some (.cells (il w.G.T.length (xc w.G (zo w.G w.B c s) c (xu w.G (zo w.G w.B c s) c goal))))->R (.s (.slice (some ⟨b,0,none⟩) w.G.T.length w.G.T.length)) N')->
  ∃ g x, Meets Tryz.prog gt gx "Ways" g x /\ Jb g [x, .agg (zq w.G), lst 6 zi w.B, int c, int s, int (goal : Nat)] N R
def GuideK.netX{gt:TypeId}{K:Nat->Store->Prop}(hG:GuideK gt gx K M w)(hd:zk X N)(hK:K n N){s:Int}(hc:c=0\/c=1\/c=2)(hs:0<=s/\s<=3)(R:Ja)
  (h : ∀ b N2, zk X N2 -> K n N2 -> N2.obj b = some (.cells (jd w.G w.B c s)) -> R (ptr b) (X.un N2)) : ∃ g x, Meets Tryz.prog gt gx "Net" g x /\ Jb g [x, .agg (zq w.G), lst 6 zi w.B, int c, int s] (X.un N) R := by
 obtain⟨g,x,hm,hcl⟩:=hG.net hK hc hs (λr S=>∃b,r=ptr b/\K n S/\S.obj b=some (.cells (jd w.G w.B c s))) λb N' h1 h2=>⟨b,rfl,h1,h2⟩;refine⟨g,x,hm,?_⟩;rw[un_comm hd];refine ACalls.frame (Dc hd) hcl ?_;rintro r a' ⟨b,rfl,h1,h2⟩ hd2;rw[un_comm hd2];exact h b a' (Dc hd2) h1 h2
def GuideK.waysX{gt:TypeId}{K:Nat->Store->Prop}(hG:GuideK gt gx K M w)(hd:zk X N)(hK:K n N)(hn:n<M){s:Int}(hc:c=0\/c=1\/c=2)(hs:0<=s/\s<=3)(goal:Nat)(hgo:goal<w.G.T.length)(R:Ja)
  (h:∀b N2,zk X N2->K (n+1) N2->N2.obj b=some (.cells (il w.G.T.length (xc w.G (zo w.G w.B c s) c (xu w.G (zo w.G w.B c s) c goal))))->R (.s (.slice (some ⟨b,0,none⟩) w.G.T.length w.G.T.length)) (X.un N2)):
  ∃ g x, Meets Tryz.prog gt gx "Ways" g x /\ Jb g [x, .agg (zq w.G), lst 6 zi w.B, int c, int s, int (goal : Nat)] (X.un N) R := by
 obtain⟨g,x,hm,hcl⟩:=hG.ways hK hn hc hs goal hgo (λr S=>∃b,r=.s (.slice (some ⟨b,0,none⟩) w.G.T.length w.G.T.length)/\K (n+1) S/\S.obj b=some (.cells (il w.G.T.length (xc w.G (zo w.G w.B c s) c (xu w.G (zo w.G w.B c s) c goal))))) λb N' h1 h2=>⟨b,rfl,h1,h2⟩;refine⟨g,x,hm,?_⟩;rw[un_comm hd];refine ACalls.frame (Dc hd) hcl ?_;rintro r a' ⟨b,rfl,h1,h2⟩ hd2;rw[un_comm hd2];exact h b a' (Dc hd2) h1 h2
def ygb{gt:TypeId}{K:Nat->Store->Prop}(hG:GuideK gt gx K M w)(hd:zk X N)(hK:K n N){s:Nat}(hmbX:X.obj mb=some (.cells [ptr s,gvOf gt gx]))(hsX:X.obj s=some (.cells (svC w v o0 o1 o2 p)))(hm:MayF w)(u:Unt)(hnx:u.next=-1\/∃t:Nat,u.next=t/\t<w.G.T.length)(own:Nat)(ho:own<w.G.T.length)(R:Ja)
  (h:∀N2,zk X N2->K n N2->R (V.bool (Aw w u own)) (X.un N2)):Jb 232 [ptr mb,.agg (zf u),int (own:Nat)] (X.un N) R:=by
 obtain⟨S,hSe⟩:∃S,X.un N=S:=⟨_,rfl⟩
 have hmb:S.obj mb=some (.cells [ptr s,gvOf gt gx]):=hSe▸yg hd hmbX;have hs:S.obj s=some (.cells (svC w v o0 o1 o2 p)):=hSe▸yg hd hsX;rw[hSe];have hB:=hm.hB;unfold Aw okU at h;refine Qb (c:=cfg 77 [9] []) zb Tryz.func232 ?_;refine AWp.seq (AWp.of_vc zb ?_);refine AWp.meet (σ:=Unit) ⟨λ_=>[(0,.av (ptr mb)),(2,.av (int (own:Nat))),(4,.bx 4 0),(7,.bx 7 0),(8,.bx 8 0)],λ_=>[(4,zf u),(7,zq w.G),(8,C7 u.kind)],λ_ st'=>st'=S⟩ zb ?_ ?_
 ·refine Qc zb zxj (Qbs (Qbs ?_));exact⟨kj _ _ _ ⟨Qe,⟨⟨Qe,⟨⟨Qe,⟨⟨Tv,⟨⟨Tv,⟨(),rfl,Qbn,⟨rfl,rfl,rfl,Tv⟩⟩⟩,Tv⟩⟩,Tv⟩⟩,Tv⟩⟩,⟨⟨Qe,⟨⟨Qe,⟨⟨Tv,⟨⟨Tv,⟨(),rfl,Qbn,⟨rfl,rfl,rfl,Tv⟩⟩⟩,Tv⟩⟩,Tv⟩⟩,Tv⟩⟩,Tv⟩⟩⟩,⟨⟨Qe,⟨kj _ _ _ ⟨Qe,⟨⟨Qe,⟨⟨Tv,⟨⟨Tv,⟨(),rfl,Qbn,⟨rfl,rfl,rfl,Tv⟩⟩⟩,Tv⟩⟩,Tv⟩⟩,Tv⟩⟩,⟨⟨Qe,⟨kj _ _ _ ⟨Qe,⟨⟨Tv,⟨⟨Tv,⟨(),rfl,Qbn,⟨rfl,rfl,rfl,Tv⟩⟩⟩,Tv⟩⟩,Tv⟩⟩,Tv⟩⟩,Tv⟩⟩⟩,⟨⟨Qe,⟨kj _ _ _ ⟨Qe,⟨⟨Qe,⟨⟨Tv,⟨⟨Tv,⟨(),rfl,Qbn,⟨rfl,rfl,rfl,Tv⟩⟩⟩,Tv⟩⟩,Tv⟩⟩,Tv⟩⟩,⟨⟨Qe,⟨kj _ _ _ ⟨Qe,⟨⟨Tv,⟨⟨Tv,⟨(),rfl,Qbn,⟨rfl,rfl,rfl,Tv⟩⟩⟩,Tv⟩⟩,Tv⟩⟩,Tv⟩⟩,Tv⟩⟩⟩,Tv⟩⟩⟩
 rintro _ st' rfl;refine AWp.of_vc zb ?_;have hk:=Im u.kind;refine Qc zb zxi (zt (λc1=>?_) λc1=>?_)
 ·refine Qbq (Qbq ?_);rw[decide_eq_true c1]at h;have h0:=h N hd hK;rw[hSe]at h0;exact ret h0
 obtain⟨t,ht,htl⟩:∃t:Nat,u.next=t/\t<w.G.T.length:=by
  rcases hnx with h1|h1
  ·exact absurd h1 c1
  ·exact h1
 rw[decide_eq_false c1,ht,Fa0]at h;refine⟨Sj w.G hm.hg t htl u.next ht _ _ ⟨Qe,zh (λc2=>?_) λc2=>?_⟩,Tv⟩
 ·refine Qbq ?_;have e:u.pos=yf w.G t:=by
   simp only[Fay,beq_iff_eq]at c2;exact Prod.ext c2.1 c2.2.1
  rw[decide_eq_true e]at h;have h0:=h N hd hK;rw[hSe]at h0;exact ret h0
 have e:¬u.pos=yf w.G t:=λe=>by
  simp only[e,Fc4,beq_eq_false_iff_ne]at c2;rcases c2 with c2|c2|c2
  ·exact c2 rfl
  ·exact c2 rfl
  ·cases c2
 rw[decide_eq_false e]at h;refine Qbs ?_;refine Qbs (Qbs ?_);subst hSe;refine⟨hG.netX hd hK (Gk u.kind) hk _ λb N2 hd2 hK2 hb2=>⟨Qe,?_⟩,Tv⟩;have hmb2:(X.un N2).obj b=some (.cells (jd w.G w.B (yl u.kind) (qm u.kind))):=zg hb2;have h0:=h N2 hd2 hK2;generalize X.un N2=S2 at*;refine Qbs ?_;have htl2:t<(blL w.G.T.length (zo w.G w.B (yl u.kind) (qm u.kind))).length:=by rw[xx];exact htl
 refine⟨t,ht,za _ (zn htl2) ?_⟩;rw[Br htl];refine ye (zh (λc3=>?_) λc3=>?_);rotate_left
 ·rw[c3]at h0;exact ret h0
 rw[c3]at h0;refine Wa w.G hm.hg own ho _ _ ?_;intro b9 hf9;have e9:zv (List.replicate 8 (int 0)) 0 (il 8 (yj w.G own))=il 8 (yj w.G own):=by unfold zv;rw[xi];simp
 refine jq (i:=ti334) (v:=Ng w.G own) (xs:=il 8 (yj w.G own)) (l:=List.replicate 8 (int 0)) rfl rfl rfl (zd _ _ _) (by rw[xi,Fbh];decide) ?_;rw[e9,yy];have h9:(S2.sO b9 (.cells (il 8 (yj w.G own)))).obj b9=some (.cells (il 8 (yj w.G own))):=zd _ _ _;have hback2:(S2.sO b9 (.cells (il 8 (yj w.G own)))).Has S2:=Hl hf9.1;generalize S2.sO b9 (.cells (il 8 (yj w.G own)))=S3 at*;rw[yfh]at h0;refine Qc zb zxh (qd (λc4=>?_) λc4=>?_);rotate_left
 ·refine Qbq (Qbr ?_);rw[decide_eq_false (λhh=>hh (ht.symm.trans c4))]at h0;exact vh (Tt) hback2 h0
 refine⟨yl7 h9 ψ u.next _ ⟨Qe,Qbr ?_⟩,Tv⟩;rw[decide_eq_true (show(t:Int)≠(own:Int)from λhh=>c4 (ht.trans hh))]at h0;rw[ht];exact vh (Tt) hback2 h0
def ye9{gt:TypeId}{K:Nat->Store->Prop}(hG:GuideK gt gx K M w)(hnM:n<M)(hd:zk X N)(hK:K n N){s:Nat}(hmbX:X.obj mb=some (.cells [ptr s,gvOf gt gx]))(hsX:X.obj s=some (.cells (svC w v o0 o1 o2 p)))(hm:MayF w)(u:Unt)(goal:Nat)(hgo:u.goal=goal)(hgl:goal<w.G.T.length)(own:Nat)(ho:own<w.G.T.length)(R:Ja)
  (h:∀n2 N2,n2<=n+1->zk X N2->K n2 N2->R (int (Ae w u own)) (X.un N2)):Jb 233 [ptr mb,.agg (zf u),int (own:Nat)] (X.un N) R:=by
 obtain⟨S,hSe⟩:∃S,X.un N=S:=⟨_,rfl⟩
 have hmb:S.obj mb=some (.cells [ptr s,gvOf gt gx]):=hSe▸yg hd hmbX;have hs:S.obj s=some (.cells (svC w v o0 o1 o2 p)):=hSe▸yg hd hsX;rw[hSe];have hB:=hm.hB;unfold Ae okU at h;have hk:=Im u.kind;rw[hgo,Fa0]at h;refine Qb (c:=cfg 60) zb Tryz.func233 ?_;refine AWp.seq (AWp.of_vc zb ?_);refine AWp.meet (σ:=Unit) ⟨λ_=>[(0,.av (ptr mb)),(2,.av (int (own:Nat))),(4,.bx 4 0),(7,.bx 7 0),(8,.bx 8 0)],λ_=>[(4,zf u),(7,zq w.G),(8,C7 u.kind)],λ_ st'=>st'=S⟩ zb ?_ ?_
 ·refine Qc zb zxg (Qbs (Qbs ?_));exact⟨kj _ _ _ ⟨Qe,⟨⟨Qe,⟨⟨Qe,⟨⟨Tv,⟨⟨Tv,⟨(),rfl,Qbn,⟨rfl,rfl,rfl,Tv⟩⟩⟩,Tv⟩⟩,Tv⟩⟩,Tv⟩⟩,⟨⟨Qe,⟨⟨Qe,⟨⟨Tv,⟨⟨Tv,⟨(),rfl,Qbn,⟨rfl,rfl,rfl,Tv⟩⟩⟩,Tv⟩⟩,Tv⟩⟩,Tv⟩⟩,Tv⟩⟩⟩,⟨⟨Qe,⟨kj _ _ _ ⟨Qe,⟨⟨Qe,⟨⟨Tv,⟨⟨Tv,⟨(),rfl,Qbn,⟨rfl,rfl,rfl,Tv⟩⟩⟩,Tv⟩⟩,Tv⟩⟩,Tv⟩⟩,⟨⟨Qe,⟨kj _ _ _ ⟨Qe,⟨⟨Tv,⟨⟨Tv,⟨(),rfl,Qbn,⟨rfl,rfl,rfl,Tv⟩⟩⟩,Tv⟩⟩,Tv⟩⟩,Tv⟩⟩,Tv⟩⟩⟩,⟨⟨Qe,⟨kj _ _ _ ⟨Qe,⟨⟨Qe,⟨⟨Tv,⟨⟨Tv,⟨(),rfl,Qbn,⟨rfl,rfl,rfl,Tv⟩⟩⟩,Tv⟩⟩,Tv⟩⟩,Tv⟩⟩,⟨⟨Qe,⟨kj _ _ _ ⟨Qe,⟨⟨Tv,⟨⟨Tv,⟨(),rfl,Qbn,⟨rfl,rfl,rfl,Tv⟩⟩⟩,Tv⟩⟩,Tv⟩⟩,Tv⟩⟩,Tv⟩⟩⟩,Tv⟩⟩⟩
 rintro _ st' rfl;refine AWp.of_vc zb (Qc zb zxf ⟨Sj w.G hm.hg own ho (own:Nat) rfl _ _ ⟨Qe,ye (zh (λc2=>?_) λc2=>?_)⟩,Tv⟩);rotate_left
 ·have e:u.pos≠yf w.G own:=λe=>by
   simp only[e,Fc4,beq_eq_false_iff_ne]at c2;rcases c2 with c2|c2|c2
   ·exact c2 rfl
   ·exact c2 rfl
   ·cases c2
  rw[if_pos e]at h;have h0:=h n N (Fdb n) hd hK;rw[hSe]at h0;exact ret h0
 have e:¬u.pos≠yf w.G own:=λe=>e (by simp only[Fay,beq_iff_eq]at c2;exact Prod.ext c2.1 c2.2.1);rw[if_neg e]at h;dsimp only at h;refine Qc zb zxe ?_;refine Qbs ?_;refine Qbs (Qbs ?_);refine⟨?_,Tv⟩;subst hSe;show∃g x,Meets _ _ _ _ g x/\ACalls _ g [x,_,_,_,_,int u.goal] _ _;rw[hgo];refine hG.waysX hd hK hnM (Gk u.kind) hk goal hgl _ λb N2 hd2 hK2 hb2=>⟨Qe,?_⟩;have hmb2:(X.un N2).obj b=some (.cells (il w.G.T.length (xc w.G (zo w.G w.B (yl u.kind) (qm u.kind)) (yl u.kind) (xu w.G (zo w.G w.B (yl u.kind) (qm u.kind)) (yl u.kind) goal)))):=zg hb2;have h0:=h (n+1) N2 (Fal _) hd2 hK2;generalize X.un N2=S2 at*;have hway:=zfx w.G (zo w.G w.B (yl u.kind) (qm u.kind)) (yl u.kind) (xu w.G (zo w.G w.B (yl u.kind) (qm u.kind)) (yl u.kind) goal) own;have hhd:=k9 (f:=xc w.G (zo w.G w.B (yl u.kind) (qm u.kind)) (yl u.kind) (xu w.G (zo w.G w.B (yl u.kind) (qm u.kind)) (yl u.kind) goal)) ho;refine⟨own,rfl,ho,Qbs (za _ hhd ?_)⟩;generalize xc w.G (zo w.G w.B (yl u.kind) (qm u.kind)) (yl u.kind) (xu w.G (zo w.G w.B (yl u.kind) (qm u.kind)) (yl u.kind) goal) own=W at*;refine Qbr (bcd (λc3=>?_) λc3=>?_)
 ·rw[if_pos c3]at h0;exact ret h0
 rw[if_neg c3]at h0;obtain⟨j,hj,rfl⟩:∃j:Nat,j<8/\W=(j:Int):=by
  rcases hway with h1|⟨j,h1,h2,_⟩
  ·omega
  ·exact⟨j,h1,h2⟩
 rw[Fa0]at h0;exact Wa w.G hm.hg own ho _ _ ⟨j,rfl,hj,za _ (Sw hj) (ret h0)⟩
end
section
variable {gv v o0 o1 o2:AV} {F G N:Store} {mb s p i M n:Nat} {w:Wld} {gx:Value}
def u0{L:List Ent}(hW:MoverG gv F G mb s p w v L o0 o1 o2)(hd:zk (F.un (svS G s w v o0 o1 o2 p)) N)(hm:MayF w)(hn:∀u∈w.U,u.pos.ok)(hi:i<w.U.length)(u:Unt)(hid:w.U[i].id=u.id)(hp:u.pos.ok)(R:Ja)
  (h:∀F' G' L',MoverG gv F' G' mb s p (yk w u) v L' o0 o1 o2->zk (F'.un (svS G' s (yk w u) v o0 o1 o2 p)) N->R (.tup []) ((F'.un (svS G' s (yk w u) v o0 o1 o2 p)).un N)):Jb 95 [ptr s,.agg (zf u)] ((F.un (svS G s w v o0 o1 o2 p)).un N) R:=by
 refine ACalls.frame hd (er hW hm hn hi u hid hp (λr S=>∃F' G' L',MoverG gv F' G' mb s p (yk w u) v L' o0 o1 o2/\S=F'.un (svS G' s (yk w u) v o0 o1 o2 p)/\r=.tup []) λF' G' L' h=>⟨F',G',L',h,rfl,rfl⟩) ?_;rintro r a' ⟨F',G',L',h1,rfl,rfl⟩ hd2;exact h F' G' L' h1 hd2
def g8{L:List Ent}(hW:MoverG gv F G mb s p w v L o0 o1 o2)(hd:zk (F.un (svS G s w v o0 o1 o2 p)) N)(hm:MayF w)(hn:∀u∈w.U,u.pos.ok)(hi:i<w.U.length)(u:Unt)(hid:w.U[i].id=u.id)(hp:u.pos.ok)(z:Int)(R:Ja)
  (h:∀F' G' L',MoverG gv F' G' mb s p (yk w (j4 z u)) v L' o0 o1 o2->zk (F'.un (svS G' s (yk w (j4 z u)) v o0 o1 o2 p)) N->R (.tup []) ((F'.un (svS G' s (yk w (j4 z u)) v o0 o1 o2 p)).un N)):Jb 230 [ptr mb,.agg (zf u),int z] ((F.un (svS G s w v o0 o1 o2 p)).un N) R:=by
 refine ACalls.frame hd (yki hW hm hn hi u hid hp z (λr S=>∃F' G' L',MoverG gv F' G' mb s p (yk w (j4 z u)) v L' o0 o1 o2/\S=F'.un (svS G' s (yk w (j4 z u)) v o0 o1 o2 p)/\r=.tup []) λF' G' L' h=>⟨F',G',L',h,rfl,rfl⟩) ?_;rintro r a' ⟨F',G',L',h1,rfl,rfl⟩ hd2;exact h F' G' L' h1 hd2
def zgw{L:List Ent}(hW:MoverG gv F G mb s p w v L o0 o1 o2)(hd:zk (F.un (svS G s w v o0 o1 o2 p)) N)(hm:MayF w)(hn:∀u∈w.U,u.pos.ok)(hi:i<w.U.length)(d:Vc)(hdv:d.ok)(R:Ja)
  (h:∀F' G' L' q0 q1 q2,MoverG gv F' G' mb s p (xk w w.U[i] d) v L' q0 q1 q2->zk (F'.un (svS G' s (xk w w.U[i] d) v q0 q1 q2 p)) N->R (int (Am w w.U[i] d)) ((F'.un (svS G' s (xk w w.U[i] d) v q0 q1 q2 p)).un N)):Jb 52 [ptr mb,.agg (zf w.U[i]),.agg (zu d)] ((F.un (svS G s w v o0 o1 o2 p)).un N) R:=by
 refine ACalls.frame hd (nn hW hm hn hi d hdv (λr S=>∃F' G' L' q0 q1 q2,MoverG gv F' G' mb s p (xk w w.U[i] d) v L' q0 q1 q2/\S=F'.un (svS G' s (xk w w.U[i] d) v q0 q1 q2 p)/\r=int (Am w w.U[i] d)) λF' G' L' q0 q1 q2 h=>⟨F',G',L',q0,q1,q2,h,rfl,rfl⟩) ?_;rintro r a' ⟨F',G',L',q0,q1,q2,h1,rfl,rfl⟩ hd2;exact h F' G' L' q0 q1 q2 h1 hd2
def yhl{L:List Ent}(hW:MoverG gv F G mb s p w v L o0 o1 o2)(hd:zk (F.un (svS G s w v o0 o1 o2 p)) N)(hm:MayF w)(hn:∀u∈w.U,u.pos.ok)(hmap:∀u∈w.U,u.inn=0->xq u.pos)(hi:i<w.U.length)(h0:w.U[i].inn=0)(R:Ja)
  (h:∀F' G' L' q0 q1 q2,MoverG gv F' G' mb s p (Fp w w.U[i]) v L' q0 q1 q2->zk (F'.un (svS G' s (Fp w w.U[i]) v q0 q1 q2 p)) N->R (.tup []) ((F'.un (svS G' s (Fp w w.U[i]) v q0 q1 q2 p)).un N)):Jb 151 [ptr mb,.agg (zf w.U[i])] ((F.un (svS G s w v o0 o1 o2 p)).un N) R:=by
 refine ACalls.frame hd (yhh hW hm hn hmap hi h0 (λr S=>∃F' G' L' q0 q1 q2,MoverG gv F' G' mb s p (Fp w w.U[i]) v L' q0 q1 q2/\S=F'.un (svS G' s (Fp w w.U[i]) v q0 q1 q2 p)/\r=.tup []) λF' G' L' q0 q1 q2 h=>⟨F',G',L',q0,q1,q2,h,rfl,rfl⟩) ?_;rintro r a' ⟨F',G',L',q0,q1,q2,h1,rfl,rfl⟩ hd2;exact h F' G' L' q0 q1 q2 h1 hd2
def yip{gt:TypeId}{K:Nat->Store->Prop}(hG:GuideK gt gx K M w)(hnM:n<M){L:List Ent}(hW:MoverG (gvOf gt gx) F G mb s p w v L o0 o1 o2)(hd:zk (F.un (svS G s w v o0 o1 o2 p)) N)(hK:K n N)(hmay:ya w)(hn:∀u∈w.U,u.pos.ok)(hi:i<w.U.length)(h0:w.U[i].inn=0)(hgo:w.U[i].goal≠-1)(R:Ja)
  (h:∀F' G' L' q0 q1 q2 n2 N2,n2<=n+1->MoverG (gvOf gt gx) F' G' mb s p (Cb w w.U[i]) v L' q0 q1 q2->zk (F'.un (svS G' s (Cb w w.U[i]) v q0 q1 q2 p)) N2->K n2 N2->R (.tup []) ((F'.un (svS G' s (Cb w w.U[i]) v q0 q1 q2 p)).un N2)):
  Jb 152 [ptr mb,.agg (zf w.U[i])] ((F.un (svS G s w v o0 o1 o2 p)).un N) R:=by
 have hm:=xh hmay;have hut:=P0 hmay hi;have hon:=dw hmay hi h0;have hown:=Sa hmay hi h0;have hmp:=Gj hmay (Faa hi) h0;obtain⟨goal,hgq,hgl⟩:∃k:Nat,w.U[i].goal=k/\k<w.G.T.length:=by
  rcases Lx hm.hg hut.2.1.1 with h1|h1
  ·exact absurd h1 hgo
  ·exact h1
 have hnx:=Lx hm.hg hut.2.1.2.1;have hstk:=hut.2.1.2.2;have hnt:=dz (w:=w) hm.hg (u:=w.U[i]) hown;have hgoes:Cb w w.U[i]=if w.U[i].pos=yf w.G goal then yk w (j4 2 w.U[i])else if Aw w w.U[i] (vm w.G w.U[i].pos)then(if Ae w w.U[i] (vm w.G w.U[i].pos)<0 then yk w (j4 3 w.U[i])else Ab w {w.U[i]with next:=Ae w w.U[i] (vm w.G w.U[i].pos)})else Ab w w.U[i]:=by
  have e:w.U[i].goal.toNat=goal:=by rw[hgq,Fa0]
  unfold Cb;rw[e]
 have hlook1:Aw w w.U[i] (vm w.G w.U[i].pos)=false->w.U[i].next≠-1:=λhh e=>by unfold Aw at hh;rw[decide_eq_true e]at hh;simp at hh
 obtain⟨own,hownE⟩:∃own,vm w.G w.U[i].pos=own:=⟨_,rfl⟩
 rw[hownE]at hown hnt hgoes hlook1;refine Qb (c:=cfg 84) zb Tryz.func152 (AWp.seq (AWp.of_vc zb ?_));refine AWp.seq (AWp.of_vc zb ?_);refine zoo (yg hd hW.m) (zoo (yg hd hW.s) (AWp.seq (AWp.of_vc zb ?_)));refine Qc zb zyt ?_;refine⟨Sj w.G hm.hg goal hgl w.U[i].goal hgq _ _ ⟨Qe,zh (λc1=>?_) λc1=>?_⟩,Tv⟩
 ·have e:w.U[i].pos=yf w.G goal:=by
   simp only[Fay,beq_iff_eq]at c1;exact Prod.ext c1.1 c1.2.1
  rw[if_pos e]at hgoes;rw[hgoes]at h;exact g8 hW hd hm hn hi w.U[i] rfl (Ah hmp) 2 _ λF3 G3 L3 hW3 hd3=>ret (h F3 G3 L3 o0 o1 o2 n N (Fdb n) hW3 hd3 hK)
 have e:¬w.U[i].pos=yf w.G goal:=λe=>by
  simp only[e,Fc4,beq_eq_false_iff_ne]at c1;rcases c1 with c1|c1|c1
  ·exact c1 rfl
  ·exact c1 rfl
  ·cases c1
 rw[if_neg e]at hgoes;refine AWp.meet (σ:=Nat×Nat×Store) ⟨λq=>[(0,.av (ptr mb)),(3,.bx 3 0),(4,.bx 4 0)],λq=>[(3,zf {w.U[i]with next:=(q.1:Int)}),(4,zq w.G)],λq st'=>st'=(F.un (svS G s w v o0 o1 o2 p)).un q.2.2/\q.1<w.G.T.length/\Cb w w.U[i]=Ab w {w.U[i]with next:=(q.1:Int)}/\q.2.1<=n+1/\zk (F.un (svS G s w v o0 o1 o2 p)) q.2.2/\K q.2.1 q.2.2⟩ zb ?_ ?_
 ·refine zgf w.G hm.hg w.U[i].pos hon _ _ ?_;rw[hownE];refine ygb hG hd hK hW.m hW.s hm w.U[i] hnx own hown _ λN2 hd2 hK2=>zh (λc2=>?_) λc2=>?_;rotate_left
  ·rw[if_neg (by rw[c2];decide)]at hgoes;obtain⟨t,ht,htl⟩:∃k:Nat,w.U[i].next=k/\k<w.G.T.length:=by
    rcases hnx with h1|h1
    ·exact absurd h1 (hlook1 c2)
    ·exact h1
   have e2:{w.U[i]with next:=(t:Int)}=w.U[i]:=by rw[<-ht]
   refine⟨(t,n,N2),⟨rfl,htl,by dsimp only;rw[e2];exact hgoes,Fdb n,hd2,hK2⟩,Qbn,⟨?_,rfl,Tv⟩⟩;dsimp only;rw[e2];rfl
  rw[if_pos c2]at hgoes;refine ye9 hG hnM hd2 hK2 hW.m hW.s hm w.U[i] goal hgq hgl own hown _ λn3 N3 hn3 hd3 hK3=>?_;generalize Ae w w.U[i] own=nx at*;refine bcd (λc3=>?_) λc3=>?_
  ·rw[if_pos c3]at hgoes;rw[hgoes]at h;exact g8 hW hd3 hm hn hi {w.U[i]with next:=nx} rfl (Ah hmp) 3 _ λF3 G3 L3 hW3 hd4=>ret (h F3 G3 L3 o0 o1 o2 n3 N3 hn3 hW3 hd4 hK3)
  rw[if_neg c3]at hgoes;obtain⟨t,rfl,htl⟩:∃k:Nat,nx=k/\k<w.G.T.length:=by
   rcases Lx hm.hg hnt with h1|h1
   ·omega
   ·exact h1
  exact⟨(t,n3,N3),⟨rfl,htl,hgoes,hn3,hd3,hK3⟩,Qbn,⟨rfl,rfl,Tv⟩⟩
 clear hd hK;rintro⟨t,n2,N2⟩ st' ⟨rfl,htl,hgoes,hn2,hd,hK⟩;dsimp only at htl hgoes hn2 hd hK⊢;rw[hgoes]at h;have hid:({w.U[i]with next:=(t:Int),stuck:=0}:Unt).id=w.U[i].id:=rfl;have hmay1:ya (yk w {w.U[i]with next:=(t:Int),stuck:=0}):=O0 hmay hi h0 rfl (Nl hut hgo (Rd hm.hg htl) θ);obtain⟨hi1,he1⟩:=R7 hm.hr hi hid;have hn1:∀x∈(yk w {w.U[i]with next:=(t:Int),stuck:=0}).U,x.pos.ok:=λx hx=>by
  obtain⟨j,hj,rfl⟩:=Fai hx;rw[R6]at hj;by_cases hji:j=i
  ·subst hji;rw[he1];exact Ah hmp
  ·rw[sy hm.hr hi hid hj hji];exact hn _ (Faa hj)
 have hks:=L9 w.U[i].kind;have hcm:=i6 hm.hg htl;have hway:=Kg hmp hcm;unfold Ab at h;dsimp only at h;rw[Fa0]at h;have hpp:∀x:Unt,x.id=w.U[i].id->yk (yk w {w.U[i]with next:=(t:Int),stuck:=0}) x=yk w x:=λx hx=>R5 w hx.symm;refine AWp.of_vc zb (Qc zb zyw (zoo (yg hd hW.m) ⟨u0 hW hd hm hn hi {w.U[i]with next:=(t:Int),stuck:=0} rfl (Ah hmp) _ λF1 G1 L1 hW1 hd1=>⟨Tv,?_⟩,Tv⟩));generalize hw1:yk w {w.U[i]with next:=(t:Int),stuck:=0}=w1 at*;have hm1:=xh hmay1;have hG1:w1.G=w.G:=by rw[<-hw1];rfl
 have htry:=zgw hW1 hd1 hm1 hn1 hi1;rw[he1]at htry;refine Qc zb zyv ⟨Sj w.G hm.hg t htl (t:Nat) rfl _ _ ⟨Qe,⟨kj _ _ _ ⟨Qe,⟨zg0 w.U[i].pos (yf w.G t) (xa w.U[i].kind) hmp hcm θ _ _ ⟨Qe,⟨htry (Bi w.U[i].pos (yf w.G t) (xa w.U[i].kind)) (Ki hway) _ λF2 G2 L2 a0 a1 a2 hW2 hd2=>⟨Qe,bcd (λc4=>?_) λc4=>?_⟩,Tv⟩⟩,Tv⟩⟩,Tv⟩⟩,Tv⟩
 ·rw[if_pos c4]at h;exact ret (h F2 G2 L2 a0 a1 a2 n2 N2 hn2 hW2 hd2 hK)
 rw[if_neg c4]at h;rw[zgr c4]at hW2 hd2⊢;refine ze (v:=w.U[i].stuck+1) θ (zt (λc5=>?_) λc5=>?_)
 ·rw[if_pos c5]at h;refine g8 hW2 hd2 hm1 hn1 hi1 {w.U[i]with next:=-1,stuck:=w.U[i].stuck+1} (by rw[he1]) (Ah hmp) 4 _ λF3 G3 L3 hW3 hd3=>?_;have e3:=hpp (j4 4 {w.U[i]with next:=-1,stuck:=w.U[i].stuck+1}) rfl;rw[e3]at hW3 hd3⊢;exact ret (h F3 G3 L3 a0 a1 a2 n2 N2 hn2 hW3 hd3 hK)
 rw[if_neg c5]at h;refine Qc zb zyu (zoo (yg hd2 hW2.m) ⟨u0 hW2 hd2 hm1 hn1 hi1 {w.U[i]with next:=-1,stuck:=w.U[i].stuck+1} (by rw[he1]) (Ah hmp) _ λF3 G3 L3 hW3 hd3=>⟨Tv,?_⟩,Tv⟩);have e3:=hpp {w.U[i]with next:=-1,stuck:=w.U[i].stuck+1} rfl;rw[e3]at hW3 hd3⊢;exact ret (h F3 G3 L3 a0 a1 a2 n2 N2 hn2 hW3 hd3 hK)
def zge{gt:TypeId}{K:Nat->Store->Prop}(hG:GuideK gt gx K M w)(hnM:n<M){L:List Ent}(hW:MoverG (gvOf gt gx) F G mb s p w v L o0 o1 o2)(hd:zk (F.un (svS G s w v o0 o1 o2 p)) N)(hK:K n N)(hmay:ya w)(hn:∀u∈w.U,u.pos.ok)(hi:i<w.U.length)(h0:w.U[i].inn=0)(R:Ja)
  (h:∀F' G' L' q0 q1 q2 n2 N2,n2<=n+1->MoverG (gvOf gt gx) F' G' mb s p (vf w w.U[i]) v L' q0 q1 q2->zk (F'.un (svS G' s (vf w w.U[i]) v q0 q1 q2 p)) N2->K n2 N2->R (.tup []) ((F'.un (svS G' s (vf w w.U[i]) v q0 q1 q2 p)).un N2)):
  Jb 98 [ptr mb,.agg (zf w.U[i])] ((F.un (svS G s w v o0 o1 o2 p)).un N) R:=by
 unfold vf at h;refine Qy 13 Tryz.func98 ?_;refine zt (λc1=>?_) λc1=>?_
 ·rw[if_pos c1]at h;exact yhl hW hd (xh hmay) hn (λu hu h1=>Gj hmay hu h1) hi h0 _ λF3 G3 L3 a0 a1 a2 hW3 hd3=>ret (h F3 G3 L3 a0 a1 a2 n N (Fdb n) hW3 hd3 hK)
 ·rw[if_neg c1]at h;exact yip hG hnM hW hd hK hmay hn hi h0 c1 _ λF3 G3 L3 a0 a1 a2 n2 N2 hn2 hW3 hd3 hK3=>ret (h F3 G3 L3 a0 a1 a2 n2 N2 hn2 hW3 hd3 hK3)
end
end Go.Proofs
