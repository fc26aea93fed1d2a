/- Ground of laws of throngtop: contracts and plain lemmas; no condition beyond the row's own. -/
import Derived.Test.YtphhbmaalpdnoaaGreatKT
import Derived.Test.YtphhbmaalpdnoaaGreatKS
set_option linter.unusedSimpArgs false
set_option linter.unusedVariables false
set_option linter.defProp false
namespace Go.Proofs
open Go Go.V
set_option maxRecDepth 20000
set_option maxHeartbeats 4000000
theorem gr(g:Gnd)(x y:Int)(st:Store)(R:Ja)(h:∀z:Bool,(z=true↔onG g x y)->R (bool z) st):Jb 209 [.agg (zu g),int x,int y] st R:=by
 refine Qa (c:=cfg 25) zb Tryz.func209 ?_;repeat' (first|refine bcd (λ_=>?_) (λ_=>?_)|refine zk (λ_=>?_) (λ_=>?_)|refine Qd ?_|fail)
 all_goals
  refine ret (h _ ?_);unfold onG;simp only[decide_eq_true_eq,decide_eq_false_iff_not,Fah,false_iff,true_iff,beq_iff_eq,bne_iff_ne,beq_eq_false_iff_ne,ne_eq,reduceCtorEq]at*;omega
theorem min2_eq(a b:Int):min2 a b=min a b:=by
 unfold min2;by_cases h:b<a
 ·rw[decide_eq_true h];show b=_;omega
 ·rw[decide_eq_false h];show a=_;omega
theorem zba(g:Gnd)(hg:zt g)(f:Nat->Int)(hf:∀t,t<g.T.length->0<=f t/\f t<=128)(t:Nat)(ht:t<g.T.length)(ws:List (Int×Int))(hw:∀d∈ws,(d.1≠0\/d.2≠0)/\(-1<=d.1/\d.1<=1)/\(-1<=d.2/\d.2<=1))(hwl:ws.length<=100)(b:Nat)(st:Store)(R:Ja)
  (h:R (.tup []) (st.sO b (.cells (il g.T.length (L7 g f ws t))))):Jb 208 [.agg (zu g),blV b g.T.length,int t,lst 2 Ka ws] (st.sO b (.cells (il g.T.length f))) R:=by
 have hm:=qm hg;have htb:=Gc hg (t:=t) θ;have hq:=Kg (t:=t) hg.1.1;have hq2:=Kh (t:=t) hg.1.1;have hg1:=hg.1;have hg2:=hg.2.1;unfold L7 at h;have hx:∃x,x=(t:Int)%g.W:=⟨_,rfl⟩
 have hy:∃y,y=(t:Int)/g.W:=⟨_,rfl⟩
 obtain⟨x,hx⟩:=hx;obtain⟨y,hy⟩:=hy;rw[<-hx,<-hy]at h htb;rw[<-hx]at hq;rw[<-hy]at hq2;refine Qa (c:=cfg 63) zb Tryz.func208 ?_;refine Qc zb ycj ?_;refine⟨θ,?_⟩;refine⟨θ,?_⟩;refine Qd ?_;refine Qat ?_;refine Qau ?_
 refine AWp.loop (σ:=Nat) ⟨λi=>[(1,.av (blV b g.T.length)),(2,.av (int (t:Nat))),(4,.bx 4 0),(8,.av (int x)),(9,.av (int y)),(21,.av (lst 2 Ka ws)),(22,.av (int (ws.length:Nat))),(23,.av (int (i:Nat)))],λ_=>[(4,zu g)],
  λi st'=>i<=ws.length/\st'=st.sO b (.cells (il g.T.length (setI f t (Au g f x y (f t) (ws.take i))))),λi=>ws.length-i⟩ zb ?_ ?_
 ·refine⟨0,Tv,⟨Fae _,?_⟩,⟨Tq,Tq,Tq,?_,?_,Tq,?_,Tq,Tv⟩,⟨rfl,Tv⟩⟩
  ·rw[Fc1];show _=st.sO b (.cells (il g.T.length (setI f t (f t))));rw[zzx]
  ·rw[<-hq];exact Tq
  ·rw[<-hq2];exact Tq
  ·rw[<-zj (f:=Ka) ws];exact Tq
 rintro i st' ⟨hi,rfl⟩;refine bcd (λh1=>?_) (λh1=>?_);rotate_left
 ·have:i=ws.length:=θ;subst this;rw[Fal];exact ret h
 have hlt:i<ws.length:=θ;have hd:=hw _ (Faa hlt);have hv:=gi hg hf x y (ws.take i) (f t) (hf t ht);have hsn:=yhi g f x y (f t) ws hlt;have hgs:=ymg hg f (t:=t) (Au g f x y (f t) (ws.take i)) hd.1;rw[<-hx,<-hy]at hgs;generalize hV:Au g f x y (f t) (ws.take i)=V0 at*;have ho:(st.sO b (.cells (il g.T.length (setI f t V0)))).obj b=some (.cells (il g.T.length (setI f t V0))):=zd _ _ _;refine⟨i,rfl,za _ (zq hlt) ?_⟩;refine⟨0,rfl,ψ,?_⟩;refine Qd ?_;refine⟨1,rfl,ψ,?_⟩;refine Qd ?_;refine gr g (x+ws[i].1) (y+ws[i].2) _ _ (λz hz=>?_);have hgv:=zdg hg hf (x+ws[i].1) (y+ws[i].2);have fin:min V0 (gv g f (x+ws[i].1) (y+ws[i].2)+1)=Au g f x y (f t) (ws.take (i+1)):=hsn.symm;refine zk (λc1=>?_) (λc1=>?_)
 ·have hon:=hz.1 c1;obtain⟨e1,e2,e3,e4⟩:=Dv hg hon;have hpos:0<=g.W*(y+ws[i].2):=Faw θ (by have:=hon.2.1;omega);have hval:setI f t V0 (tl g (x+ws[i].1) (y+ws[i].2))=gv g f (x+ws[i].1) (y+ws[i].2):=by
   rw[<-hgs];unfold gv;rw[if_pos hon]
  refine⟨0,rfl,ψ,?_⟩;refine Qd ?_;refine⟨1,rfl,ψ,?_⟩;refine Qd ?_;refine Qd ?_;refine Qd ?_;refine⟨tl g (x+ws[i].1) (y+ws[i].2),e1.symm,e2,?_⟩;refine za _ ho (za _ (Cz e2) ?_);rw[hval];refine⟨t,rfl,ht,?_⟩;refine za _ ho (za _ (Cz ht) ?_);rw[Ot];refine Qd ?_;refine⟨t,rfl,ht,?_⟩;refine qd (i:=ti2) (v:=int (min2 V0 (gv g f (x+ws[i].1) (y+ws[i].2)+1))) (b:=b) (o:=0+t*1) (l:=il g.T.length (setI f t V0)) (st2:=st.sO b (.cells (il g.T.length (setI f t (Au g f x y (f t) (ws.take (i+1))))))) rfl rfl rfl ho θe ?_ ?_
  ·rw[ym,show 0+t*1=t by omega,Iv ht,fc,min2_eq,fin]
  refine Qd ?_;refine⟨i+1,?_,⟨θ,rfl⟩,Qaq,⟨rfl,Tv⟩⟩;show ws.length-(i+1)<ws.length-i;omega
 ·have hoff:¬onG g (x+ws[i].1) (y+ws[i].2):=λhh=>by have:=hz.2 hh;rw[this]at c1;cases c1
  have hz0:gv g f (x+ws[i].1) (y+ws[i].2)=0:=if_neg hoff;rw[hz0]at fin;refine⟨t,rfl,ht,?_⟩;refine za _ ho (za _ (Cz ht) ?_);rw[Ot];refine Qd ?_;refine⟨t,rfl,ht,?_⟩;refine qd (i:=ti2) (v:=int (min2 V0 (0+1))) (b:=b) (o:=0+t*1) (l:=il g.T.length (setI f t V0)) (st2:=st.sO b (.cells (il g.T.length (setI f t (Au g f x y (f t) (ws.take (i+1))))))) rfl rfl rfl ho θe ?_ ?_
  ·rw[ym,show 0+t*1=t by omega,Iv ht,fc,min2_eq,fin]
  refine Qd ?_;refine⟨i+1,?_,⟨θ,rfl⟩,Qaq,⟨rfl,Tv⟩⟩;show ws.length-(i+1)<ws.length-i;omega
def Cj(o:Nat->Bool)(t:Nat):Int:=if o t then 128 else 0
def Dz(o:Nat->Bool)(i t:Nat):Int:=if t<i then Cj o t else 0
theorem zbg(o:Nat->Bool)(n:Nat):∀t,t<n->0<=Cj o t/\Cj o t<=128:=λt _=>by unfold Cj;split<;>decide
def zad(g:Gnd)(l:List Bld)(c:Int):AV:=lst 1 zv (ilL g.T.length (Fk g (yq g l c)))
theorem ye1(g:Gnd)(hg:zt g)(l:List Bld)(hl:l.length<=1000000000000)(hb:∀b∈l,yk b/\onP g b)(c:Int)(st:Store)(R:Ja)(h:R (zad g l c) st):
  Jb 133 [.agg (zu g),lst 6 zi l,int c] st R:=by
 have ha:=qm hg;have fwd_ok:∀d∈M7,(d.1≠0\/d.2≠0)/\(-1<=d.1/\d.1<=1)/\(-1<=d.2/\d.2<=1):=ψ;have bwd_ok:∀d∈Lm,(d.1≠0\/d.2≠0)/\(-1<=d.1/\d.1<=1)/\(-1<=d.2/\d.2<=1):=ψ;refine Qb (c:=cfg 63) zb Tryz.func133 ?_;refine AWp.seq (AWp.of_vc zb ?_);refine AWp.seq (AWp.of_vc zb ?_);refine I7 rfl (it:=ti63) (ie:=ti2) rfl rfl rfl rfl rfl (n:=(rws u8C g.T).length) ?_ ?_ (λb hf=>?_)
 ·rw[zj];show 8*_<=_;omega
 ·rw[zj];omega
 rw[zj,zc8];refine AWp.meetA (σ:=Unit) ⟨λ_=>[(3,.bx 3 0),(7,.av (blV b g.T.length))],λ_=>[(3,zu g)],λ_ st'=>st'=st.sO b (.cells (il g.T.length (Cj (yq g l c))))⟩ ?_ ?_
 ·refine AWp.of_vc zb ?_;refine Lk g hg l hl hb c _ _ ?_
  refine AWp.loop (σ:=Nat) ⟨λi=>[(3,.bx 3 0),(7,.av (blV b g.T.length)),(19,.av (opV g l c)),(20,.av (int (g.T.length:Nat))),(21,.av (int (i:Nat)))],λ_=>[(3,zu g)],
   λi st'=>i<=g.T.length/\st'=st.sO b (.cells (il g.T.length (Dz (yq g l c) i))),λi=>g.T.length-i⟩ zb ?_ ?_
  ·refine⟨0,Tv,⟨Fae _,?_⟩,⟨Tq,Tq,Tq,?_,Tq,Tv⟩,⟨rfl,Tv⟩⟩
   ·rw[show Dz (yq g l c) 0=λ_=>0 from funext λt=>if_neg (Fa3 t)]
   ·show LV.le (.av (int ((rws qv (blL g.T.length (yq g l c))).length:Nat))) (.av (int (g.T.length:Nat)));rw[zj,C8];exact Tq
  rintro i st' ⟨hi,rfl⟩;refine bcd (λh1=>?_) (λh1=>?_);rotate_left
  ·have:i=g.T.length:=θ;subst this;refine⟨(),?_,⟨Tq,Tq,Tv⟩,⟨rfl,Tv⟩⟩;show st.sO b (.cells (il g.T.length (Dz (yq g l c) g.T.length)))=st.sO b (.cells (il g.T.length (Cj (yq g l c))));rw[Pk (f:=Dz (yq g l c) g.T.length) (g:=Cj (yq g l c)) λt ht=>if_pos ht]
  have hlt:i<g.T.length:=θ;have ho:(st.sO b (.cells (il g.T.length (Dz (yq g l c) i)))).obj b=some (.cells (il g.T.length (Dz (yq g l c) i))):=zd _ _ _;have hlt2:i<(blL g.T.length (yq g l c)).length:=by rw[C8];exact hlt
  have s2:∀s,s≠i->Dz (yq g l c) (i+1) s=Dz (yq g l c) i s:=λs hs=>by
   unfold Dz;by_cases h3:s<i
   ·rw[if_pos h3,if_pos θ]
   ·rw[if_neg h3,if_neg θ]
  have s1:Dz (yq g l c) (i+1) i=Cj (yq g l c) i:=if_pos θ;refine⟨i,rfl,za _ (zq hlt2) ?_⟩;refine zk (λc1=>?_) (λc1=>?_)
  ·rw[I4 hlt]at c1;refine⟨i,rfl,hlt,?_⟩;refine qd (i:=ti2) (v:=int 128) (b:=b) (o:=0+i*1) (l:=_) (st2:=st.sO b (.cells (il g.T.length (Dz (yq g l c) (i+1))))) rfl rfl rfl ho θe ?_ ?_
   ·rw[ym,show 0+i*1=i by omega,<-zc9 hlt _ s2,s1];unfold Cj;rw[if_pos c1]
   refine Qd ?_;refine⟨i+1,?_,⟨θ,rfl⟩,Qaq,⟨rfl,Tv⟩⟩;show g.T.length-(i+1)<g.T.length-i;omega
  ·rw[I4 hlt]at c1;refine Qd ?_;refine⟨i+1,?_,⟨θ,?_⟩,Qaq,⟨rfl,Tv⟩⟩
   ·show g.T.length-(i+1)<g.T.length-i;omega
   ·refine congrArg (λf=>st.sO b (.cells (il g.T.length f))) (funext λs=>?_);by_cases h3:s=i
    ·subst h3;rw[s1];unfold Cj Dz;rw[if_neg θ,if_neg (by rw[c1];decide)]
    ·exact(s2 s h3).symm
 rintro _ _ rfl;refine AWp.meetA (σ:=Unit) ⟨λ_=>[(3,.bx 3 0),(7,.av (blV b g.T.length))],λ_=>[(3,zu g)],λ_ st'=>st'=st.sO b (.cells (il g.T.length (Ao g (Cj (yq g l c)) g.T.length)))⟩ ?_ ?_
 ·refine AWp.of_vc zb ?_
  refine AWp.loop (σ:=Nat) ⟨λi=>[(3,.bx 3 0),(7,.av (blV b g.T.length)),(32,.av (int (g.T.length:Nat))),(33,.av (int (i:Nat)))],λ_=>[(3,zu g)],
   λi st'=>i<=g.T.length/\st'=st.sO b (.cells (il g.T.length (Ao g (Cj (yq g l c)) i))),λi=>g.T.length-i⟩ zb ?_ ?_
  ·exact⟨0,Tv,⟨Fae _,rfl⟩,Qaq,⟨rfl,Tv⟩⟩
  rintro i st' ⟨hi,rfl⟩;refine bcd (λh1=>?_) (λh1=>?_);rotate_left
  ·have:i=g.T.length:=θ;subst this;exact⟨(),rfl,⟨Tq,Tq,Tv⟩,⟨rfl,Tv⟩⟩
  have hlt:i<g.T.length:=θ;refine⟨ψ,?_⟩;refine zba g hg (Ao g (Cj (yq g l c)) i) (ef hg (zbg _ _) i hi) i hlt M7 fwd_ok ψ b _ _ ?_;refine Qd ?_;refine⟨i+1,?_,⟨θ,rfl⟩,Qaq,⟨rfl,Tv⟩⟩;show g.T.length-(i+1)<g.T.length-i;omega
 rintro _ _ rfl;have hbA:=ef hg (zbg (yq g l c) g.T.length) g.T.length (Fak _);have hroom:Fk g (yq g l c)=Cs g (Ao g (Cj (yq g l c)) g.T.length) g.T.length g.T.length:=rfl;generalize Ao g (Cj (yq g l c)) g.T.length=FA at*;refine AWp.meetA (σ:=Unit) ⟨λ_=>[(7,.av (blV b g.T.length))],λ_=>[],λ_ st'=>st'=st.sO b (.cells (il g.T.length (Fk g (yq g l c))))⟩ ?_ ?_
 ·refine AWp.of_vc zb ?_;refine Qd ?_
  refine AWp.loop (σ:=Nat) ⟨λj=>[(3,.bx 3 0),(7,.av (blV b g.T.length)),(11,.av (int ((g.T.length:Int)-1-(j:Nat))))],λ_=>[(3,zu g)],
   λj st'=>j<=g.T.length/\st'=st.sO b (.cells (il g.T.length (Cs g FA g.T.length j))),λj=>g.T.length-j⟩ zb ?_ ?_
  ·refine⟨0,Tv,⟨Fae _,rfl⟩,⟨Tq,Tq,?_,Tv⟩,⟨rfl,Tv⟩⟩;rw[show(g.T.length:Int)-1-((0:Nat):Int)=(g.T.length:Int)-1 by omega];exact Tq
  rintro j st' ⟨hj,rfl⟩;refine bcd (λh1=>?_) (λh1=>?_);rotate_left
  ·have:j=g.T.length:=θ;subst this;exact⟨(),by rw[hroom],⟨Tq,Tv⟩,Tv⟩
  have hlt:j<g.T.length:=θ;refine⟨ψ,?_⟩;refine ACalls.le (ys:=[.agg (zu g),blV b g.T.length,int ((g.T.length-1-j:Nat):Int),lst 2 Ka Lm]) ⟨Tt,Tt,by rw[show(g.T.length:Int)-1-(j:Int)=((g.T.length-1-j:Nat):Int) by omega];exact Tt,Tt,Tv⟩ ?_;refine zba g hg (Cs g FA g.T.length j) (sr hg hbA j hj) (g.T.length-1-j) θ Lm bwd_ok ψ b _ _ ?_;refine Qd ?_;refine⟨j+1,?_,⟨θ,rfl⟩,⟨Tq,Tq,?_,Tv⟩,⟨rfl,Tv⟩⟩
  ·show g.T.length-(j+1)<g.T.length-j;omega
  ·rw[show(g.T.length:Int)-1-((j+1:Nat):Int)=(g.T.length:Int)-1-(j:Nat)-1 by omega];exact Tq
 rintro _ _ rfl;refine AWp.freeze (d:=7) (b:=b) (k:=1) (n:=g.T.length) (cap:=g.T.length) (rows:=rws zv (ilL g.T.length (Fk g (yq g l c)))) (pad:=[]) rfl ?_ ?_ ?_ (Fak _) ?_ ?_ ?_
 ·rw[Fbn,ylx];exact zd _ _ _
 ·exact hf.2
 ·rw[zj,Wm]
 ·intro row hr;obtain⟨x,_,rfl⟩:=Fai.1 hr;rfl
 ·intro row hr y hy;obtain⟨x,_,rfl⟩:=Fai.1 hr;simp[zv]at hy;exact⟨_,hy,rfl⟩
 rw[bc hf.1];refine AWp.of_vc zb ?_;exact ret h
def Gw(g:Gnd)(l:List Bld)(c s:Int)(i t:Nat):Bool:=if t<i then yf g l c s t else false
theorem yoc(g:Gnd)(hg:zt g)(l:List Bld)(hl:l.length<=1000000000000)(hb:∀b∈l,yk b/\onP g b)(c s:Int)(hs:0<=s/\s<=3)(st:Store)(R:Ja)(h:R (zdp g l c s) st):
  Jb 71 [.agg (zu g),lst 6 zi l,int c,int s] st R:=by
 have ha:=qm hg;refine Qb (c:=cfg 34) zb Tryz.func71 ?_;refine AWp.seq (AWp.of_vc zb ?_);refine AWp.seq (AWp.of_vc zb ?_);refine I7 rfl (it:=ti68) (ie:=ti4) rfl rfl rfl rfl rfl (n:=(rws u8C g.T).length) ?_ ?_ (λb hf=>?_)
 ·rw[zj];show 1*_<=_;omega
 ·rw[zj];omega
 rw[zj,Rk];refine AWp.meetA (σ:=Unit) ⟨λ_=>[(9,.av (blV b g.T.length))],λ_=>[],λ_ st'=>st'=st.sO b (.cells (bl g.T.length (yf g l c s)))⟩ ?_ ?_
 ·refine AWp.of_vc zb ?_;refine ye1 g hg l hl hb c _ _ ?_
  refine AWp.loop (σ:=Nat) ⟨λi=>[(3,.av (int s)),(9,.av (blV b g.T.length)),(19,.av (zad g l c)),(20,.av (int (g.T.length:Nat))),(21,.av (int (i:Nat)))],λ_=>[],
   λi st'=>i<=g.T.length/\st'=st.sO b (.cells (bl g.T.length (Gw g l c s i))),λi=>g.T.length-i⟩ zb ?_ ?_
  ·refine⟨0,Tv,⟨Fae _,?_⟩,⟨Tq,Tq,Tq,?_,Tq,Tv⟩,Tv⟩
   ·trivial
   ·show LV.le (.av (int ((rws zv (ilL g.T.length (Fk g (yq g l c)))).length:Nat))) (.av (int (g.T.length:Nat)));rw[zj,Wm];exact Tq
  rintro i st' ⟨hi,rfl⟩;refine bcd (λh1=>?_) (λh1=>?_);rotate_left
  ·have:i=g.T.length:=θ;subst this;refine⟨(),?_,⟨Tq,Tv⟩,Tv⟩;show st.sO b (.cells (bl g.T.length (Gw g l c s g.T.length)))=st.sO b (.cells (bl g.T.length (yf g l c s)));rw[yr1 (f:=Gw g l c s g.T.length) (g:=yf g l c s) λt ht=>if_pos ht]
  have hlt:i<g.T.length:=θ;have ho:(st.sO b (.cells (bl g.T.length (Gw g l c s i)))).obj b=some (.cells (bl g.T.length (Gw g l c s i))):=zd _ _ _;have hlt2:i<(ilL g.T.length (Fk g (yq g l c))).length:=by rw[Wm];exact hlt
  have s2:∀q,q≠i->Gw g l c s (i+1) q=Gw g l c s i q:=λq hq=>by unfold Gw;grind
  have s1:Gw g l c s (i+1) i=yf g l c s i:=if_pos θ;refine⟨i,rfl,za _ (zq hlt2) ?_⟩;refine⟨i,rfl,hlt,?_⟩;refine qd (i:=ti4) (v:=V.bool (decide (s<(ilL g.T.length (Fk g (yq g l c)))[i]))) (b:=b) (o:=0+i*1) (l:=_) (st2:=st.sO b (.cells (bl g.T.length (Gw g l c s (i+1))))) rfl rfl rfl ho θd ?_ ?_
  ·grind[ym,Ht,ylz,ymp]
  refine Qd ?_;refine⟨i+1,?_,⟨θ,rfl⟩,Qaq,Tv⟩;grind
 rintro _ _ rfl;refine AWp.freeze (d:=9) (b:=b) (k:=1) (n:=g.T.length) (cap:=g.T.length) (rows:=rws qv (blL g.T.length (yf g l c s))) (pad:=[]) rfl ?_ ?_ ?_ (Fak _) ?_ ?_ ?_
 ·rw[gp];exact zd _ _ _
 ·exact hf.2
 ·rw[zj,C8]
 ·intro row hr;obtain⟨x,_,rfl⟩:=Fai.1 hr;rfl
 ·intro row hr y hy;obtain⟨x,_,rfl⟩:=Fai.1 hr;simp[qv]at hy;exact⟨_,hy,rfl⟩
 rw[bc hf.1];refine AWp.of_vc zb ?_;exact ret h
def xj(g:Gnd)(l:List Bld)(c s:Int):List AV:=zu g++[int c,zdp g l c s]
theorem ynr(g:Gnd)(hg:zt g)(l:List Bld)(hl:l.length<=1000000000000)(hb:∀b∈l,yk b/\onP g b)(c s:Int)(hs:0<=s/\s<=3)(st:Store)(R:Ja)(h:∀b,Fresh st b->R (ptr b) (st.sO b (.cells (xj g l c s)))):
  Jb 74 [.agg (zu g),lst 6 zi l,int c,int s] st R:=by
 refine Qa (c:=cfg 18 [17] []) zb Tryz.func74 ?_;refine Qc zb zz4 ?_;refine⟨yoc g hg l hl hb c s hs _ _ ⟨Qe,?_⟩,Tv⟩;refine⟨λb hf=>⟨Qe,?_⟩,Tv⟩;refine Qau ?_;exact ret (h b hf)
end Go.Proofs
namespace Go.Proofs
open Go Go.V
set_option maxRecDepth 20000
set_option maxHeartbeats 4000000
theorem zf5{m n:Nat}{p:Prop}(h:m<=n)(k:p):(bif Nat.ble m n then p else False):=by have:Nat.ble m n=true:=Nat.ble_eq▸h;rw[this];exact k
theorem yi3(x y:Int)(hx:0<=x)(hx2:x<18446744073709551616)(hy:0<=y)(hy2:y<18446744073709551616)(st:Store)(R:Ja)(h:R (.tup (j3 (x*y))) st):
  Jb 240 [u64 x,u64 y] st R:=by
 refine Qa (c:=cfg 30) zb Tryz.func240 ?_;refine iq x y hx hx2 hy hy2 _ _ ?_;exact ret h
theorem fx(v:Int)(n:Nat)(h0:1<=n)(hn:n<=1000000)(st:Store)(R:Ja)(h:∀b,Fresh st b->R (.s (.slice (some ⟨b,0,none⟩) n n)) (st.sO b (.cells (il n λ_=>v)))):
  Jb 156 [lst 1 zv [v],int (n:Nat)] st R:=by
 refine Qa (c:=cfg 48) zb Tryz.func156 ?_;have w2:IntKind.u64.wrap (n:Int)=n:=Cp θ θ;have w1:IntKind.u64.wrap ((rws zv [v]).length:Nat)=1:=rfl;show ACalls _ _ [u64 (IntKind.u64.wrap _),u64 (IntKind.u64.wrap (n:Int))] _ _;rw[w2,w1];refine yi3 1 n θ θ θ θ _ _ ?_;have e1:(1*(n:Int))=n:=Int.one_mul _;rw[e1];have e2:j3 (n:Int)=[u64 0,u64 n]:=by unfold j3;rw[Fdm θ θ,Feb θ θ]
 rw[e2];refine bcd (λc3=>absurd c3 θ) (λc3=>?_);refine Qd ?_;refine I7 rfl (it:=ti63) (ie:=ti2) rfl rfl rfl rfl rfl (n:=n) ?_ ?_ (λb hf=>?_)
 ·show 8*_<=_;omega
 ·omega
 rw[zc8];refine zg0 rfl rfl rfl rfl (it:=ti63) (ie:=ti2) rfl rfl rfl (src:=lst 1 zv [v]) (SrcN.rows (rows:=rws zv [v]) rfl) (n:=1) (by show 1=min 1 n;omega) (zd _ _ _) (by rw[xo];show 0+1*1<=n;omega) ?_;rw[ym];have e3:zp (il n λ_=>0) 0 (rws zv [v]).flatten=il n (Bo v 1):=by
  show zp (il n λ_=>0) 0 [int v]=_;rw[Iv (t:=0) θ];refine Pk λt ht=>?_;unfold setI Bo;by_cases h0:t=0
  ·rw[if_pos h0,if_pos θ]
  ·rw[if_neg h0,if_neg θ]
 rw[e3]
 refine AWp.loop (σ:=Nat) ⟨λk=>[(7,.av (.s (.slice (some ⟨b,0,none⟩) n n))),(8,.av (int (k:Nat)))],λ_=>[],
  λk st'=>1<=k/\k<=n/\st'=st.sO b (.cells (il n (Bo v k))),λk=>n-k⟩ zb ?_ ?_
 ·exact⟨1,Tv,⟨Fak _,h0,rfl⟩,⟨Tq,Tq,Tv⟩,Tv⟩
 rintro k st' ⟨hk1,hk,rfl⟩;refine bcd (λc4=>?_) (λc4=>?_);rotate_left
 ·have:k=n:=θ;subst this;rw[yly];exact ret (h b hf)
 have hlt:k<n:=θ;have hb:(st.sO b (.cells (il n (Bo v k)))).obj b=some (.cells (il n (Bo v k))):=zd _ _ _;obtain⟨m,hm⟩:∃m,m=min k (n-k):=⟨_,rfl⟩
 refine Qc zb ydn ?_;refine⟨k,n,rfl,rfl,θ,Fak _,.inl ⟨hlt,?_⟩⟩;refine⟨0,k,rfl,rfl,Fae _,θ,.inl ⟨θ,?_⟩⟩;refine⟨zg0 rfl rfl rfl rfl (it:=ti63) (ie:=ti2) rfl rfl rfl (SrcN.obj (n:=m) hb (by rw[xo];show 0+0*1+m*1<=n;omega) (λy hy=>by have:=List.mem_of_mem_drop (Fcl hy);obtain⟨t,_,rfl⟩:=Fai.1 this;rfl)) (hm.trans (by rw[Nat.sub_zero])) hb (by rw[xo];show 0+k*1+m*1<=n;omega) ⟨Tv,?_⟩,Tv⟩;rw[ym];refine Qd ?_;refine Qau ?_;refine⟨k+m,?_,⟨θ,θ,?_⟩,⟨Tq,Tq,Tv⟩,Tv⟩
 ·show n-(k+m)<n-k;omega
 ·exact congrArg (λl=>st.sO b (.cells l)) (yfq θ θ)
theorem m4(u:Int)(st:Store)(R:Ja)(h:R (V.bool true) st):Jb 511 [int u] st R:=by refine Qa (c:=cfg 3) zb Tryz.func511 ?_;exact ret h
theorem ynm(w:Nat)(h1:4<=w)(h2:w<8)(st:Store)(R:Ja)(h:R (.tup [int (Kp w:Nat),int (Ko w:Nat)]) st):Jb 397 [int (w:Nat)] st R:=by
 have hw:w=4\/w=5\/w=6\/w=7:=θ;rcases hw with rfl|rfl|rfl|rfl
 all_goals
  refine Qa (c:=cfg 10) zb Tryz.func397 ?_;refine Qc zb yan ?_;refine⟨_,rfl,ψ,?_⟩;refine⟨_,rfl,ψ,?_⟩;refine⟨⟨Qe,⟨⟨Tv,?_⟩,Tv⟩⟩,Tv⟩;exact ret h
theorem zhz(st:Store)(R:Ja)(h:R (.agg dirC) st):Jb 396 [] st R:=by refine Qa (c:=cfg 10) zb Tryz.func396 ?_;exact ret h
theorem bt(g:Gnd)(hg:zt g)(t:Nat)(ht:t<g.T.length)(st:Store)(R:Ja)(h:R (Nq g t) st):Jb 318 [.agg (zu g),int (t:Nat)] st R:=by
 have hm:=qm hg;have htb:=Gc hg (t:=t) θ;have hq:=Kg (t:=t) hg.1.1;have hq2:=Kh (t:=t) hg.1.1;have hg1:=hg.1;have hg2:=hg.2.1;have hbes:=λ(i:Nat) (hi:i<8)=>yr5 g t hi;obtain⟨x,hx⟩:∃x,x=(t:Int)%g.W:=⟨_,rfl⟩
 obtain⟨y,hy⟩:∃y,y=(t:Int)/g.W:=⟨_,rfl⟩
 rw[<-hx,<-hy]at htb hbes;rw[<-hx]at hq;rw[<-hy]at hq2;refine Qa (c:=cfg 50) zb Tryz.func318 ?_;refine Qc zb ya2 ?_;refine⟨θ,?_⟩;refine⟨θ,?_⟩;refine ze θw ?_;refine⟨⟨?_,⟨⟨Tv,?_⟩,Tv⟩⟩,Tv⟩
 ·exact⟨rfl,Tv⟩
 rw[hq,hq2];refine zhz _ _ ?_
 refine AWp.loop (σ:=Nat) ⟨λi=>[(2,.bx 2 0),(4,.bx 4 0),(5,.av (int x)),(6,.av (int y)),(17,.av (.agg dirC)),(18,.av (int (i:Nat)))],λi=>[(2,zu g),(4,il 8 (F7 g t i))],
  λi st'=>i<=8/\st'=st,λi=>8-i⟩ zb ?_ ?_
 ·exact⟨0,Tv,⟨Fae _,rfl⟩,Qaq,⟨rfl,rfl,Tv⟩⟩
 rintro i st' ⟨hi,rfl⟩;refine bcd (λc1=>?_) (λc1=>?_);rotate_left
 ·have:i=8:=θ;subst this;refine ret ?_;have e:AV.agg (il 8 (F7 g t 8))=Nq g t:=congrArg AV.agg (yr4 g t);rw[<-e]at h;exact h
 have hlt:i<8:=θ;have hr:=ypz hlt;have hd:=ypy hlt;have hbe:=hbes i hlt;have hst:=yr3 g t (i:=i);generalize dirL.getD i (0,0)=d at*;refine⟨i,rfl,hlt,?_⟩;refine jc (i:=ti324) (row:=Ka d) rfl rfl hr ?_;refine⟨i,rfl,hlt,?_⟩;refine zf5 (by rw[xo];show 0+i*1+1<=8;omega) ?_;refine Hq ?_;refine⟨0,rfl,ψ,?_⟩;refine Qd ?_;refine⟨1,rfl,ψ,?_⟩;refine Qd ?_;refine gr _ _ _ _ _ (λz hz=>?_);refine zk (λc2=>?_) (λc2=>?_)
 ·have hon:=hz.1 c2;obtain⟨e1,e2,_,_⟩:=Dv hg hon;have hpos:0<=g.W*(y+d.2):=Faw θ (by have:=hon.2.1;omega);refine⟨0,rfl,ψ,?_⟩;refine Qd ?_;refine⟨1,rfl,ψ,?_⟩;refine Qd ?_;refine Qd ?_;refine Qd ?_;refine⟨i,rfl,hlt,?_⟩;refine zf5 (by
   show 0+i*1+1<=(zp (il 8 (F7 g t i)) (0+i*1) [int (-1)]).length;rw[show 0+i*1=i by omega,Iv hlt,xo];omega) ?_
  refine Hq ?_;refine Qd ?_;refine⟨i+1,?_,⟨θ,rfl⟩,Qaq,⟨rfl,?_,Tv⟩⟩
  ·show 8-(i+1)<8-i;omega
  ·show some (zp (zp (il 8 (F7 g t i)) (0+i*1) [int (-1)]) (0+i*1) [int (x+d.1+g.W*(y+d.2))])=some (il 8 (F7 g t (i+1)));rw[show 0+i*1=i by omega,Iv hlt,Iv hlt,fc,hst];rw[hbe];unfold K5;rw[if_pos hon]
 ·have hon:¬onG g (x+d.1) (y+d.2):=λhh=>by rw[hz.2 hh]at c2;cases c2
  refine Qd ?_;refine⟨i+1,?_,⟨θ,rfl⟩,Qaq,⟨rfl,?_,Tv⟩⟩
  ·show 8-(i+1)<8-i;omega
  ·show some (zp (il 8 (F7 g t i)) (0+i*1) [int (-1)])=some (il 8 (F7 g t (i+1)));rw[show 0+i*1=i by omega,Iv hlt,hst];rw[hbe];unfold K5;rw[if_neg hon]
section
variable {g:Gnd} {t w:Nat} {c:Int}
theorem ze9(hg:zt g)(ht:t<g.T.length):g.T[t].toNat<=5:=hg.2.2.2 _ (Faa ht)
theorem zfa(g:Gnd)(c:Int)(ht:t<g.T.length):F5 g c t=Bt c g.T[t].toNat:=by unfold F5;rw[Fbk,Fac ht];rfl
theorem ou(hg:zt g)(t:Nat)(hw:w<8):yr g t w<0\/∃u:Nat,yr g t w=(u:Int)/\u<g.T.length:=by
 rcases bu hg (t:=t) hw with h|h
 ·exact .inl θ
 ·exact .inr h
theorem zyz{ok:Nat->Bool}(h:wv ok (yr g t w)=false):qz g ok c t w=0:=by unfold qz;rw[h];simp
theorem zy0{ok:Nat->Bool}(h:wv ok (yr g t w)=true)(hw:w<4):qz g ok c t w=5*(F5 g c t+F5 g c (yr g t w).toNat):=by unfold qz;rw[if_pos h,if_pos hw]
theorem zy2{ok:Nat->Bool}(h:wv ok (yr g t w)=true)(hw:¬w<4)(ha:wv ok (yr g t (Kp w))=true)(hb:wv ok (yr g t (Ko w))=true):qz g ok c t w=7*(F5 g c t+F5 g c (yr g t w).toNat):=by unfold qz;rw[if_pos h,if_neg hw,if_pos ⟨ha,hb⟩]
theorem zy1{ok:Nat->Bool}(hw:¬w<4)(ha:wv ok (yr g t (Kp w))=false\/wv ok (yr g t (Ko w))=false):qz g ok c t w=0:=by
 unfold qz;rw[if_neg hw];split
 ·rw[if_neg];rintro⟨h1,h2⟩;rcases ha with ha|ha
  ·rw[ha]at h1;cases h1
  ·rw[ha]at h2;cases h2
 ·rfl
theorem mm{ok:Nat->Bool}{u:Int}(h:u<0):wv ok u=false:=by unfold wv;rw[decide_eq_false θ];rfl
theorem M9(ok:Nat->Bool)(u:Nat):wv ok (u:Int)=ok u:=by unfold wv;rw[decide_eq_true θ,Fa8];rfl
theorem ta{S:Store}{nb:Nat}(hg:zt g){l:List Bld}{s:Int}(hn:S.obj nb=some (.cells (xj g l c s)))(t:Nat)(ht:t<g.T.length)(way:Nat)(hw:way<8)(R:Ja)
  (h:R (int (qz g (yf g l c s) c t way)) S):Jb 319 [ptr nb,int (t:Nat),Nq g t,int (way:Nat),.clos 511 []] S R:=by
 have hgl:∀u,u<g.T.length->u<(blL g.T.length (yf g l c s)).length:=λu hu=>by rw[C8];exact hu
 have p1:=Vm c (g.T[t]).toNat;refine Qa (c:=cfg 124) zb Tryz.func319 ?_;refine⟨way,rfl,hw,?_⟩;refine za _ (Cz hw) ?_;have hor:=ou hg t hw;have hlo:=λh=>zy0 (g:=g) (ok:=yf g l c s) (c:=c) (t:=t) (w:=way) h;have hhi:=λh=>zy2 (g:=g) (ok:=yf g l c s) (c:=c) (t:=t) (w:=way) h;have hno:=zyz (g:=g) (ok:=yf g l c s) (c:=c) (t:=t) (w:=way);have hhn:=λh=>zy1 (g:=g) (ok:=yf g l c s) (c:=c) (t:=t) (w:=way) h;generalize qz g (yf g l c s) c t way=E at*;generalize hU:yr g t way=U at*;refine bcd (λc1=>?_) (λc1=>?_)
 ·rw[hno (mm c1)]at h;exact ret h
 obtain⟨u,rfl,hul⟩:∃u:Nat,U=(u:Int)/\u<g.T.length:=by
  rcases hor with h1|h1
  ·exact absurd h1 c1
  ·exact h1
 refine Qav ?_;refine⟨u,rfl,za _ (zq (hgl u hul)) ?_⟩;rw[I4 hul];refine yi ?_;refine zk (λc2=>?_) (λc2=>?_);rotate_left
 ·rw[hno (by rw[M9,c2])]at h;exact ret h
 refine m4 _ _ _ ?_;have hfu:wv (yf g l c s) (u:Int)=true:=by rw[M9,c2]
 rw[Fa8]at hlo hhi;rw[zfa g c ht,zfa g c hul]at hlo hhi;have p2:=Vm c (g.T[u]).toNat;refine Qc zb ya1 ?_;refine Qav ?_;refine Qav ?_;refine⟨t,rfl,za _ (zq ht) ?_⟩;refine Qav ?_;refine Qav ?_;refine⟨u,rfl,za _ (zq hul) ?_⟩;refine⟨gg c g.T[t] (ze9 hg ht) _ _ ⟨?_,?_⟩,Tv⟩
 ·repeat(first|exact Tv|refine⟨rfl,?_⟩|refine⟨za (o:=S.obj nb) _ hn rfl,?_⟩)
 refine⟨gg c g.T[u] (ze9 hg hul) _ _ ⟨Qe,?_⟩,Tv⟩;refine Qd ?_;refine Qau ?_;generalize Bt c g.T[t].toNat=P1 at*;generalize Bt c g.T[u].toNat=P2 at*;refine bcd (λc3=>?_) (λc3=>?_)
 ·refine Qd ?_;rw[hlo hfu θ]at h;exact ret h
 have h4:¬way<4:=θ;have hsa:Kp way<8:=by unfold Kp;omega
 have hsb:Ko way<8:=by unfold Ko;omega
 refine ynm way θ hw _ _ ?_;have hora:=ou hg t hsa;have horb:=ou hg t hsb;have hhi:=hhi hfu h4;have hhn:=hhn h4;have ha1:=Cz (n:=8) (f:=yr g t) hsa;have hb1:=Cz (n:=8) (f:=yr g t) hsb;generalize hA:Kp way=wa at*;generalize hB:Ko way=wb at*;generalize hUA:yr g t wa=ua at*;generalize hUB:yr g t wb=ub at*;refine Qc zb ya0 ?_;refine⟨wa,rfl,hsa,?_⟩;refine za _ ha1 ?_;have no:wv (yf g l c s) ua=false\/wv (yf g l c s) ub=false->R (int 0) S:=λhh=>by rw[hhn hh]at h;exact h
 refine bcd (λca=>?_) (λca=>?_)
 ·refine Qau ?_;refine Qau ?_;exact ret (no (.inl (mm ca)))
 obtain⟨va,rfl,hva⟩:∃u:Nat,ua=(u:Int)/\u<g.T.length:=by
  rcases hora with h1|h1
  ·exact absurd h1 ca
  ·exact h1
 refine⟨wb,rfl,hsb,?_⟩;refine za _ hb1 ?_;refine bcd (λcb=>?_) (λcb=>?_)
 ·refine Qau ?_;refine Qau ?_;exact ret (no (.inr (mm cb)))
 obtain⟨vb,rfl,hvb⟩:∃u:Nat,ub=(u:Int)/\u<g.T.length:=by
  rcases horb with h1|h1
  ·exact absurd h1 cb
  ·exact h1
 refine Qav ?_;refine⟨wa,rfl,hsa,?_⟩;refine za _ ha1 ?_;refine⟨va,rfl,za _ (zq (hgl va hva)) ?_⟩;rw[I4 hva];refine yi ?_;refine zk (λda=>?_) (λda=>?_);rotate_left
 ·refine Qau ?_;refine Qau ?_;exact ret (no (.inl (by rw[M9,da])))
 refine Qav ?_;refine⟨wb,rfl,hsb,?_⟩;refine za _ hb1 ?_;refine⟨vb,rfl,za _ (zq (hgl vb hvb)) ?_⟩;rw[I4 hvb];refine yi ?_;refine zk (λdb=>?_) (λdb=>?_);rotate_left
 ·refine Qau ?_;refine Qau ?_;exact ret (no (.inr (by rw[M9,db])))
 refine⟨wa,rfl,hsa,?_⟩;refine za _ ha1 ?_;refine⟨m4 _ _ _ ⟨Tv,?_⟩,Tv⟩;refine⟨wb,rfl,hsb,?_⟩;refine za _ hb1 ?_;refine⟨m4 _ _ _ ⟨Tv,?_⟩,Tv⟩;refine Qd ?_;rw[hhi (by rw[M9,da]) (by rw[M9,db])]at h;exact ret h
end
section
variable {G F:Store} {p:Nat}
theorem ygo(R:Ja)(h:∀F p,QOf F p []->zh F G->R (ptr p) (F.un G)):Jb 137 [] G R:=by
 have:=ACalls.frame (a:=Store.empty) (g:=G) (λi h1=>by rcases h1 with h1|h1<;>exact absurd rfl h1) (ygn Store.empty (λr a'=>∃p,r=ptr p/\QOf a' p []) (λp hp=>⟨p,rfl,.inl ⟨zd _ _ _,rfl⟩⟩)) (R':=R) (λr a' ⟨p,e,hc⟩ hd=>e▸h a' p hc hd)
 rwa [Ag]at this
theorem fy{l:List (Int×Int)}(hq:QOf F p l)(hl:l.length<=1000000)(hh:wy l)(hd:zh F G)(x:Int×Int)(R:Ja)
  (h:∀F' l',QOf F' p l'->wy l'->l'.Perm (x::l)->zh F' G->R (.tup []) (F'.un G)):Jb 223 [ptr p,int x.1,int x.2] (F.un G) R:=
 ACalls.frame hd (ygf hq hl hh x (λr a'=>r=.tup []/\∃l',QOf a' p l'/\wy l'/\l'.Perm (x::l)) (λF' l' g1 g2 g3=>⟨rfl,l',g1,g2,g3⟩)) (R':=R) (λr a' ⟨e,l',g1,g2,g3⟩ hd=>e▸h a' l' g1 g2 g3 hd)
theorem f7{l:List (Int×Int)}(hq:QOf F p l)(hl:l.length<=1000000)(hh:wy l)(hd:zh F G)(R:Ja)
  (h:∀F' o l',QOf F' p l'->wy l'->zh F' G->l.Perm (o.toList++l')->(∀x,o=some x->∀e∈x::l',¬qlt e x)->(o=none->l'=[])->R (.tup [int (lj o),int (Ry o),V.bool o.isSome]) (F'.un G)):Jb 142 [ptr p] (F.un G) R:=
 ACalls.frame hd (ygi hq hl hh (λr a'=>∃o l',r=.tup [int (lj o),int (Ry o),V.bool o.isSome]/\QOf a' p l'/\wy l'/\l.Perm (o.toList++l')/\(∀x,o=some x->∀e∈x::l',¬qlt e x)/\(o=none->l'=[]))
  (λe=>⟨none,[],rfl,e▸hq,e▸hh,δ,λx h=>ω,λ_=>rfl⟩)
  (λh0 F' l' g1 g2 g3=>⟨some (qat l 0),l',rfl,g1,g2,g3,λx e=>by grind[ygk],λh=>ω⟩)) (R':=R) (λr a' ⟨o,l',e,g1,g2,g3,g4,g5⟩ hd=>e▸h a' o l' g1 g2 hd g3 g4 g5)
theorem ynn{S:Store}{nb:Nat}{g:Gnd}(hg:zt g){l:List Bld}{c s:Int}(hn:S.obj nb=some (.cells (xj g l c s)))(goal:Nat)(hgo:goal<g.T.length)(R:Ja)
  (h:∀b,Fresh S b->(∀u,-1<=Ad g (yf g l c s) c goal u/\Ad g (yf g l c s) c goal u<=2000000)->R (.s (.slice (some ⟨b,0,none⟩) g.T.length g.T.length)) (S.sO b (.cells (il g.T.length (Ad g (yf g l c s) c goal))))):
  Jb 216 [ptr nb,int (goal:Nat),.clos 511 []] S R:=by
 have ha:=qm hg;have hT:g.T.length<=16384:=θ;have hgl:∀u,u<g.T.length->u<(blL g.T.length (yf g l c s)).length:=λu hu=>by rw[C8];exact hu
 refine Qa (c:=cfg 121) zb Tryz.func216 ?_;refine⟨ψ,?_⟩;refine Qav ?_;show ACalls _ _ [_,int ((rws u8C g.T).length:Nat)] _ _;rw[zj];refine fx (-1) g.T.length θ θ _ _ (λb hf=>?_);have hnb:nb≠b:=λe=>by rw[e,hf.1]at hn;cases hn
 have hn1:(S.sO b (.cells (il g.T.length λ_=>-1))).obj nb=some (.cells (xj g l c s)):=(zg hnb).trans hn;refine za (o:=(S.sO b _).obj nb) _ hn1 ?_;refine⟨goal,rfl,za _ (zq (hgl goal hgo)) ?_⟩;rw[I4 hgo];refine yi ?_;refine zk (λc1=>?_) (λc1=>?_);rotate_left
 ·rw[yop c1]at h;exact ret (h b hf λu=>⟨Fcj (-1),show(-1:Int)<=2000000 by decide⟩)
 refine I7 rfl (it:=ti68) (ie:=ti4) rfl rfl rfl rfl rfl (n:=g.T.length) ?_ ?_ (λb2 hf2=>?_)
 ·show 1*_<=_;omega
 ·omega
 rw[Rk];have hbb:b≠b2:=λe=>by have:=hf2.1;grind[zd]
 have hst0:(S.sO b (.cells (il g.T.length λ_=>-1))).sO b2 (.cells (bl g.T.length λ_=>false))=xa S b b2 g.T.length (λ_=>-1) (λ_=>false):=rfl;rw[hst0];refine⟨goal,rfl,hgo,?_⟩;refine qd (i:=ti2) (v:=int 0) (b:=b) (o:=0+goal*1) (l:=il g.T.length λ_=>-1) (st2:=xa S b b2 g.T.length (qb (λ_=>-1) goal 0) (λ_=>false)) rfl rfl rfl (zdz hbb _ _) θe ?_ ?_
 ·rw[Wj _ _ _ _ hgo,zdy hbb]
 refine ygo _ (λF p hQ hdis=>?_);refine fy hQ φ (λj h0 hj=>by simp at hj) hdis (0,(goal:Int)) _ (λF l1 hQ hH hP hdis=>?_);have hd0:∀u,qb (λ_=>(-1:Int)) goal 0 u=if u=goal then 0 else -1:=λu=>rfl
 have hDJ:=yps (Ce g (yf g l c s) c) hgo hd0;have hcb:=yqk hgo hd0;have hback:∀F d dn,(Store.un F (xa S b b2 g.T.length d dn)).Has (S.sO b (.cells (il g.T.length d))):=λF d dn=>yn7 hf hf2 hbb;have hlen:l1.length<=1000000:=by rw[hP.length_eq];simp
 have hlen1:l1.length=1:=by rw[hP.length_eq];simp
 have hfo:=λd dn=>yn4 (n:=g.T.length) hf hf2 hn d dn;have hfd:=λd dn=>zdz (S:=S) (n:=g.T.length) hbb d dn;have hfn:=λd dn=>yn5 (S:=S) (b:=b) (b2:=b2) (n:=g.T.length) d dn;have hsd:=λd d' dn=>zdy (S:=S) (n:=g.T.length) hbb d d' dn;have hsn:=λd dn dn'=>yn3 (S:=S) (b:=b) (b2:=b2) (n:=g.T.length) d dn dn';have hdd:=λ(F:Store) d d' dn dn' (h:zh F (xa S b b2 g.T.length d dn))=>yn6 (d':=d') (dn':=dn') h;generalize hd1:qb (λ_=>(-1:Int)) goal 0=d at*;refine f7 hQ hlen hH hdis _ (λF' o l' g1 g2 g3 g4 g5 g6=>?_)
 refine AWp.loop (σ:=(Nat->Int)×(Nat->Bool)×Store×Option (Int×Int)×List (Int×Int)×Int) ⟨λq=>[(0,.av (ptr nb)),(2,.av (.clos 511 [])),(7,.av (.s (.slice (some ⟨b,0,none⟩) g.T.length g.T.length))),(8,.av (.s (.slice (some ⟨b2,0,none⟩) g.T.length g.T.length))),(9,.av (ptr p)),(10,.av (int (lj q.2.2.2.1))),(11,.av (int (Ry q.2.2.2.1))),(12,.av (V.bool q.2.2.2.1.isSome))],λ_=>[],
  λq st'=>st'=q.2.2.1.un (xa S b b2 g.T.length q.1 q.2.1)/\QOf q.2.2.1 p q.2.2.2.2.1/\wy q.2.2.2.2.1/\zh q.2.2.1 (xa S b b2 g.T.length q.1 q.2.1)/\DJ (Ce g (yf g l c s) c) g.T.length goal q.1 q.2.1 (q.2.2.2.1.toList++q.2.2.2.2.1) q.2.2.2.2.2 K3∧
   (∀x,q.2.2.2.1=some x->∀e∈x::q.2.2.2.2.1,¬qlt e x)/\(q.2.2.2.1=none->q.2.2.2.2.1=[])/\Ll g.T.length q.1/\9*Fl g.T.length q.2.1+(q.2.2.2.1.toList++q.2.2.2.2.1).length<=9*g.T.length+1,λq=>9*Fl g.T.length q.2.1+(q.2.2.2.1.toList++q.2.2.2.2.1).length⟩ zb ?_ ?_
 ·refine⟨(d,λ_=>false,F',o,l',0),Tv,⟨rfl,g1,g2,g3,na hDJ (hP.symm.trans g4),g5,g6,hcb,?_⟩,Qaq,Tv⟩;have:=yh2 g.T.length λ_=>false;dsimp only;rw[<-g4.length_eq];omega
 clear hdis;clear g1 g2 g3 g4 g5 g6 hDJ hcb hQ hH hP hlen hlen1 hd0 hd1;rintro⟨d,dn,F,o,q,cur⟩ st' ⟨rfl,hQ,hH,hdis,hDJ,hmin,hnil,hcb,hmu⟩;dsimp only at hQ hH hdis hDJ hmin hnil hcb hmu⊢;cases o with
 |none=>
  have:q=[]:=hnil rfl;subst this;have e:=yoq c1 (ypt hDJ);refine Cw (Tt) (hback F d dn) ?_;have:=h b hf;rw[e]at this;exact this λu=>by have h1:=hDJ.lab u;have h2:=nk hcb u;omega
 |some x=>
 obtain⟨t,ht,htn,hd0,hdx,hcx⟩:=hDJ.ent x φ;have hmin:=hmin x rfl;have hlen:q.length<=1000000:=δ;have hxt:Ry (some x)=(t:Int):=ht;have hq9:(Option.toList (some x)++q).length=q.length+1:=φ;rw[hq9]at hmu;rw[hxt];refine⟨t,rfl,htn,?_⟩;refine za (o:=(F.un (xa S b b2 g.T.length d dn)).obj b2) _ (zf (hfn d dn)) ?_;refine za _ (zga htn) ?_;cases hdt:dn t with
 |true=>
  have hDJ2:=ypq (q':=q) hDJ ht (List.Perm.refl _) hdt;refine f7 hQ hlen hH hdis _ (λF' o l' g1 g2 g3 g4 g5 g6=>?_);refine⟨(d,dn,F',o,l',cur),?_,⟨rfl,g1,g2,g3,na (hDJ2) g4,g5,g6,hcb,?_⟩,Qaq,Tv⟩
  ·show 9*Fl g.T.length (dn)+(o.toList++l').length<9*Fl g.T.length dn+(Option.toList (some x)++q).length;rw[<-g4.length_eq,hq9];omega
  ·dsimp only;rw[<-g4.length_eq];omega
 |false=>
 obtain⟨hk,hDJ1⟩:=ypp (q':=q) hDJ ht (List.Perm.refl _) hmin hdt;have hopen:=yh1 htn hdt;have hokt:=ypr hDJ c1 hd0;refine⟨t,rfl,htn,?_⟩;refine qd (i:=ti4) (v:=V.bool true) (b:=b2) (o:=0+t*1) (l:=bl g.T.length dn) (st2:=F.un (xa S b b2 g.T.length d (qb dn t true))) rfl rfl rfl (zf (hfn d dn)) θd ?_ ?_
 ·rw[yrz _ _ _ _ htn,zz,hsn]
 refine za (o:=(F.un (xa S b b2 g.T.length d (qb dn t true))).obj nb) _ (zf (hfo _ _)) ?_;refine bt g hg t htn _ _ ?_;have hdis:=hdd F d d dn (qb dn t true) hdis;have hDJ:=zh3 hDJ1;have hdn1:qb dn t true t=true:=Cg _ _ _;have hbig:=nk hcb t;have hbn:=λ(w:Nat) (hw:w<8)=>bu hg (t:=t) hw
 refine AWp.loop (σ:=Nat×(Nat->Int)×Store×List (Int×Int)) ⟨λy=>[(0,.av (ptr nb)),(2,.av (.clos 511 [])),(7,.av (.s (.slice (some ⟨b,0,none⟩) g.T.length g.T.length))),(8,.av (.s (.slice (some ⟨b2,0,none⟩) g.T.length g.T.length))),(9,.av (ptr p)),(10,.av (int x.1)),(11,.av (int (t:Nat))),(13,.bx 13 0),(70,.av (Nq g t)),(71,.av (int (y.1:Nat)))],λ_=>[(13,il 8 (yr g t))],
  λy st'=>y.1<=8/\st'=y.2.2.1.un (xa S b b2 g.T.length y.2.1 (qb dn t true))/\QOf y.2.2.1 p y.2.2.2/\wy y.2.2.2/\zh y.2.2.1 (xa S b b2 g.T.length y.2.1 (qb dn t true))/\DJ (Ce g (yf g l c s) c) g.T.length goal y.2.1 (qb dn t true) y.2.2.2 x.1 (Lv g (yf g l c s) c t y.1)/\y.2.1 t=x.1/\Ll g.T.length y.2.1/\y.2.2.2.length<=q.length+y.1,λy=>8-y.1⟩ zb ?_ ?_
 ·exact⟨(0,d,F,q),Tv,⟨Fae _,rfl,hQ,hH,hdis,hDJ,hk.symm,hcb,Fak _⟩,Qaq,⟨rfl,Tv⟩⟩
 have hx0:0<=x.1:=θ;have hx1:x.1<=84*(g.T.length:Int):=θ;clear hQ hH hdis hDJ hDJ1 hcb hbig hmin hnil hd0 hdx;rintro⟨i,d,F,m⟩ st' ⟨hi,rfl,hQ,hH,hdis,hDJ,hdt1,hcb,hml⟩;dsimp only at hi hQ hH hdis hDJ hdt1 hcb hml⊢;refine bcd (λc2=>?_) (λc2=>?_);rotate_left
 ·have:i=8:=θ;subst this;have hlen:m.length<=1000000:=θ;have hDJ2:=zh4 hDJ;refine f7 hQ hlen hH hdis _ (λF' o l' g1 g2 g3 g4 g5 g6=>?_);refine⟨(d,qb dn t true,F',o,l',x.1),?_,⟨rfl,g1,g2,g3,na (hDJ2) g4,g5,g6,hcb,?_⟩,Qaq,Tv⟩
  ·show 9*Fl g.T.length (qb dn t true)+(o.toList++l').length<9*Fl g.T.length dn+(Option.toList (some x)++q).length;rw[<-g4.length_eq,hq9];omega
  ·dsimp only;rw[<-g4.length_eq];omega
 have hlt:i<8:=θ;refine⟨i,rfl,hlt,?_⟩;refine za _ (Wl hlt) ?_;refine ta hg (zf (hfo _ _)) t htn i hlt _ ?_;have hsb:=tc g (yf g l c s) c t i;have hskip:=cx hDJ;have hedge:=ypa (g:=g) (ok:=yf g l c s) (c:=c) (t:=t) (way:=i) hokt htn hlt;have hor:=hbn i hlt;have hfr:0<qz g (yf g l c s) c t i->0<=yr g t i:=λhp=>(ml (el (g:=g) (ok:=yf g l c s) (c:=c) (t:=t) (way:=i) θ)).1;generalize hC:qz g (yf g l c s) c t i=C at*;generalize hU:yr g t i=U at*
 -- nothing to note:on with the next way
 have next:(0<C->∀u:Nat,U=u->0<=d u/\d u<=d t+C)->∃y:Nat×(Nat->Int)×Store×List (Int×Int),8-y.1<8-i/\(y.1<=8/\F.un (xa S b b2 g.T.length d (qb dn t true))=y.2.2.1.un (xa S b b2 g.T.length y.2.1 (qb dn t true))/\QOf y.2.2.1 p y.2.2.2/\wy y.2.2.2/\zh y.2.2.1 (xa S b b2 g.T.length y.2.1 (qb dn t true))/\DJ (Ce g (yf g l c s) c) g.T.length goal y.2.1 (qb dn t true) y.2.2.2 x.1 (Lv g (yf g l c s) c t y.1)/\y.2.1 t=x.1/\Ll g.T.length y.2.1/\y.2.2.2.length<=q.length+y.1)/\y=(i+1,d,F,m):=λhp=>
  ⟨(i+1,d,F,m),ζ,⟨ζ,rfl,hQ,hH,hdis,hskip (λu hu hc=>hp hc u hu),hdt1,hcb,ζ⟩,rfl⟩
 refine bcd (λc3=>?_) (λc3=>?_);rotate_left
 ·obtain⟨y,f1,f2,rfl⟩:=next (λhc=>absurd hc c3)
  refine Qd ?_;exact⟨(i+1,d,F,m),f1,f2,Qaq,⟨rfl,Tv⟩⟩
 have hU0:=hfr c3;obtain⟨u,rfl,hul⟩:∃u:Nat,U=(u:Int)/\u<g.T.length:=by
  rcases hor with h1|h1
  ·omega
  ·exact h1
 rw[Fa8]at hedge;have hedge:=hedge c3;refine⟨u,rfl,hul,?_⟩;refine za (o:=(F.un (xa S b b2 g.T.length d (qb dn t true))).obj b2) _ (zf (hfn d _)) ?_;refine za _ (zga hul) ?_;refine yi ?_;refine zk (λc4=>?_) (λc4=>?_)
 ·obtain⟨y,f1,f2,rfl⟩:=next (λhc v hv=>by
   have:v=u:=θ;subst this;have:=hDJ.mono v c4;omega)
  refine Qd ?_;exact⟨(i+1,d,F,m),f1,f2,Qaq,⟨rfl,Tv⟩⟩
 refine⟨u,rfl,hul,?_⟩;refine za (o:=(F.un (xa S b b2 g.T.length d (qb dn t true))).obj b) _ (zf (hfd d _)) ?_;refine za _ (Cz hul) ?_;refine bcd (λc5=>?_) (λc5=>?_)
 ·skip;have hlow:d u<0\/d t+C<d u:=Or.inl c5;have hcb2:=zfb hcb hul (t:=t) (u:=u) (c:=C) θ θ hlow;rw[hdt1]at hcb2 hlow;refine Qd ?_;refine⟨u,rfl,hul,?_⟩;refine qd (i:=ti2) (v:=int (x.1+C)) (b:=b) (o:=0+u*1) (l:=il g.T.length d) (st2:=F.un (xa S b b2 g.T.length (qb d u (x.1+C)) (qb dn t true))) rfl rfl rfl (zf (hfd d _)) θe ?_ ?_
  ·rw[Wj _ _ _ _ hul,zz,hsd]
  refine Qd ?_;refine fy hQ θ hH (hdd F d (qb d u (x.1+C)) _ _ hdis) (x.1+C,(u:Int)) _ (λF' m' e1 e2 e3 e4=>?_);have hnote:=zey W8 hDJ hdn1 hdt1 hul hedge c4 hlow e3;have htu:t≠u:=λe=>by subst e;rw[hdn1]at c4;cases c4
  have hC:=hC.symm;refine Qd ?_;refine⟨(i+1,qb d u (x.1+C),F',m'),?_,⟨ζ,rfl,e1,e2,e4,?_,?_,hcb2,?_⟩,Qaq,⟨rfl,Tv⟩⟩
  ·show 8-(i+1)<8-i;omega
  ·refine cx hnote (λv hv hc=>?_);have hvu:v=u:=by
    rw[hU]at hv;omega
   subst hvu;dsimp only;rw[Cg,vz htu,hdt1,<-hC];omega
  ·dsimp only;rw[vz htu];exact hdt1
  ·dsimp only;rw[e3.length_eq,Fbd];omega
 have hbig:=nk hcb u;refine Qd ?_;refine⟨u,rfl,hul,?_⟩;refine za (o:=(F.un (xa S b b2 g.T.length d (qb dn t true))).obj b) _ (zf (hfd d _)) ?_;refine za _ (Cz hul) ?_;refine bcd (λc6=>?_) (λc6=>?_)
 ·skip;have hlow:d u<0\/d t+C<d u:=Or.inr (show d t+C<d u by omega);have hcb2:=zfb hcb hul (t:=t) (u:=u) (c:=C) θ θ hlow;rw[hdt1]at hcb2 hlow;refine Qd ?_;refine⟨u,rfl,hul,?_⟩;refine qd (i:=ti2) (v:=int (x.1+C)) (b:=b) (o:=0+u*1) (l:=il g.T.length d) (st2:=F.un (xa S b b2 g.T.length (qb d u (x.1+C)) (qb dn t true))) rfl rfl rfl (zf (hfd d _)) θe ?_ ?_
  ·rw[Wj _ _ _ _ hul,zz,hsd]
  refine Qd ?_;refine fy hQ θ hH (hdd F d (qb d u (x.1+C)) _ _ hdis) (x.1+C,(u:Int)) _ (λF' m' e1 e2 e3 e4=>?_);have hnote:=zey W8 hDJ hdn1 hdt1 hul hedge c4 hlow e3;have htu:t≠u:=λe=>by subst e;rw[hdn1]at c4;cases c4
  have hC:=hC.symm;refine Qd ?_;refine⟨(i+1,qb d u (x.1+C),F',m'),?_,⟨ζ,rfl,e1,e2,e4,?_,?_,hcb2,?_⟩,Qaq,⟨rfl,Tv⟩⟩
  ·show 8-(i+1)<8-i;omega
  ·refine cx hnote (λv hv hc=>?_);have hvu:v=u:=by
    rw[hU]at hv;omega
   subst hvu;dsimp only;rw[Cg,vz htu,hdt1,<-hC];omega
  ·dsimp only;rw[vz htu];exact hdt1
  ·dsimp only;rw[e3.length_eq,Fbd];omega
 obtain⟨y,f1,f2,rfl⟩:=next (λhc v hv=>by have:v=u:=θ;subst this;omega)
 refine Qd ?_;exact⟨(i+1,d,F,m),f1,f2,Qaq,⟨rfl,Tv⟩⟩
end
theorem zji{S:Store}{nb:Nat}{g:Gnd}(hg:zt g){l:List Bld}{c s:Int}(hn:S.obj nb=some (.cells (xj g l c s)))(goal:Nat)(hgo:goal<g.T.length)(R:Ja)
  (h:∀b,Fresh S b->R (.s (.slice (some ⟨b,0,none⟩) g.T.length g.T.length)) (S.sO b (.cells (il g.T.length (jl g (yf g l c s) c (Ad g (yf g l c s) c goal)))))):
  Jb 506 [ptr nb,int (goal:Nat)] S R:=by
 have ha:=qm hg;have hT:g.T.length<=16384:=θ;refine Qa (c:=cfg 71) zb Tryz.func506 ?_;refine ynn hg hn goal hgo _ (λb hf hdb=>?_);generalize Ad g (yf g l c s) c goal=d at*;refine⟨ψ,?_⟩;refine fx (-1) g.T.length θ θ _ _ (λb2 hf2=>?_);have hbb:b≠b2:=λe=>by have:=hf2.1;rw[<-e,zd]at this;cases this
 rw[<-zh1 g (yf g l c s) c d];have hfo:=λf=>zi7 (n:=g.T.length) hf hf2 hn d f;have hfd:=λf=>zja (S:=S) (n:=g.T.length) hbb d f;have hsf:=λf f'=>zi6 (S:=S) (b:=b) (b2:=b2) (n:=g.T.length) d f f';have hff:=λf=>zi9 (S:=S) (b:=b) (b2:=b2) (n:=g.T.length) d f
 refine AWp.loop (σ:=Nat) ⟨λi=>[(0,.av (ptr nb)),(5,.av (.s (.slice (some ⟨b,0,none⟩) g.T.length g.T.length))),(6,.av (.s (.slice (some ⟨b2,0,none⟩) g.T.length g.T.length))),(20,.av (.s (.slice (some ⟨b,0,none⟩) g.T.length g.T.length))),(21,.av (int (g.T.length:Nat))),(22,.av (int (i:Nat)))],λ_=>[],
  λi st'=>i<=g.T.length/\st'=wd S b b2 g.T.length d (Bn g (yf g l c s) c d i),λi=>g.T.length-i⟩ zb ?_ ?_
 ·exact⟨0,Tv,⟨Fae _,rfl⟩,Qaq,Tv⟩
 rintro i st' ⟨hi,rfl⟩;refine bcd (λc1=>?_) (λc1=>?_);rotate_left
 ·have:i=g.T.length:=θ;subst this;refine Cw (Tt) (zjb hf hbb _ _) ?_;rw[zh2];exact h b2 (zi8 hbb hf2)
 have hlt:i<g.T.length:=θ
 -- on with the next tile
 have next:∀f,f=Bn g (yf g l c s) c d (i+1)->∃k:Nat,g.T.length-k<g.T.length-i/\(k<=g.T.length/\wd S b b2 g.T.length d f=wd S b b2 g.T.length d (Bn g (yf g l c s) c d k))/\k=i+1:=λf e=>⟨i+1,θ,⟨θ,by rw[e]⟩,rfl⟩
 refine⟨i,rfl,hlt,?_⟩;refine za (o:=(wd S b b2 g.T.length d _).obj b) _ (hfd _) ?_;refine za _ (Cz hlt) ?_;refine bcd (λc2=>?_) (λc2=>?_)
 ·obtain⟨k,f1,f2,rfl⟩:=next _ (p4 (zh7 c2)).symm
  refine Qd ?_;exact⟨i+1,f1,f2,Qaq,Tv⟩
 refine za (o:=(wd S b b2 g.T.length d _).obj nb) _ (hfo _) ?_;refine bt g hg i hlt _ _ ?_
 refine AWp.loop (σ:=Nat) ⟨λj=>[(0,.av (ptr nb)),(5,.av (.s (.slice (some ⟨b,0,none⟩) g.T.length g.T.length))),(6,.av (.s (.slice (some ⟨b2,0,none⟩) g.T.length g.T.length))),(7,.av (int (i:Nat))),(8,.av (int (d i))),(9,.bx 9 0),(20,.av (.s (.slice (some ⟨b,0,none⟩) g.T.length g.T.length))),(21,.av (int (g.T.length:Nat))),(22,.av (int (i:Nat))),(35,.av (Nq g i)),(36,.av (int (j:Nat)))],λ_=>[(9,il 8 (yr g i))],
  λj st'=>j<=8/\st'=wd S b b2 g.T.length d (Bn g (yf g l c s) c d i)/\∀w,w<j->¬Hn g (yf g l c s) c d i w,λj=>8-j⟩ zb ?_ ?_
 ·exact⟨0,Tv,⟨Fae _,rfl,λw hw=>absurd hw (Fa3 w)⟩,Qaq,⟨rfl,Tv⟩⟩
 rintro j st' ⟨hj,rfl,hno⟩;refine bcd (λc3=>?_) (λc3=>?_);rotate_left
 ·have:j=8:=θ;subst this;obtain⟨k,f1,f2,rfl⟩:=next _ (p4 (zh6 c2 hno)).symm
  refine Qd ?_;exact⟨i+1,f1,f2,Qaq,Tv⟩
 have hj8:j<8:=θ;have hskip:¬Hn g (yf g l c s) c d i j->∃k:Nat,8-k<8-j/\(k<=8/\wd S b b2 g.T.length d (Bn g (yf g l c s) c d i)=wd S b b2 g.T.length d (Bn g (yf g l c s) c d i)/\∀w,w<k->¬Hn g (yf g l c s) c d i w)/\k=j+1:=λhh=>⟨j+1,θ,⟨θ,rfl,λw hw=>by
  by_cases e:w=j
  ·subst e;exact hh
  ·exact hno w θ⟩,rfl⟩
 have hyes:Hn g (yf g l c s) c d i j->jl g (yf g l c s) c d i=(j:Int):=λhh=>zh5 c2 hj8 hh hno;refine⟨j,rfl,hj8,?_⟩;refine za _ (Wl hj8) ?_;refine ta hg (hfo _) i hlt j hj8 _ ?_;have hsb:=tc g (yf g l c s) c i j;have hor:=bu hg (t:=i) hj8;have hfr:0<qz g (yf g l c s) c i j->0<=yr g i j:=λhp=>(ml (el (g:=g) (ok:=yf g l c s) (c:=c) (t:=i) (way:=j) θ)).1;unfold Hn at hskip hyes;generalize qz g (yf g l c s) c i j=C at*;generalize yr g i j=U at*;refine bcd (λc4=>?_) (λc4=>?_);rotate_left
 ·obtain⟨k,f1,f2,rfl⟩:=hskip (λhh=>c4 hh.1);refine Qd ?_;exact⟨j+1,f1,f2,Qaq,⟨rfl,Tv⟩⟩
 have hU0:=hfr c4;obtain⟨u,rfl,hul⟩:∃u:Nat,U=(u:Int)/\u<g.T.length:=by
  rcases hor with h1|h1
  ·omega
  ·exact h1
 rw[Fa8]at hskip hyes;have hdu:=hdb u;refine⟨u,rfl,hul,?_⟩;refine za (o:=(wd S b b2 g.T.length d _).obj b) _ (hfd _) ?_;refine za _ (Cz hul) ?_;refine bcd (λc5=>?_) (λc5=>?_);rotate_left
 ·obtain⟨k,f1,f2,rfl⟩:=hskip (λhh=>c5 hh.2.1);refine Qd ?_;exact⟨j+1,f1,f2,Qaq,⟨rfl,Tv⟩⟩
 refine⟨u,rfl,hul,?_⟩;refine za (o:=(wd S b b2 g.T.length d _).obj b) _ (hfd _) ?_;refine za _ (Cz hul) ?_;refine Qd ?_;refine zw (λc6=>?_) (λc6=>?_);rotate_left
 ·obtain⟨k,f1,f2,rfl⟩:=hskip (λhh=>c6 hh.2.2);refine Qd ?_;exact⟨j+1,f1,f2,Qaq,⟨rfl,Tv⟩⟩
 have hw:=hyes ⟨c4,c5,c6⟩;refine⟨i,rfl,hlt,?_⟩;refine qd (i:=ti2) (v:=int (j:Nat)) (b:=b2) (o:=0+i*1) (l:=il g.T.length (Bn g (yf g l c s) c d i)) (st2:=wd S b b2 g.T.length d (Bn g (yf g l c s) c d (i+1))) rfl rfl rfl (hff _) θe ?_ ?_
 ·rw[Wj _ _ _ _ hlt,hsf,p5,hw]
 obtain⟨k,f1,f2,rfl⟩:=next _ rfl
 refine Qd ?_;exact⟨i+1,f1,f2,Qaq,Tv⟩
structure MoverG(gv:AV)(F G:Store)(mb s p:Nat)(w:Wld)(v:AV)(L:List Ent)(o0 o1 o2:AV):Prop where
 S:StandR F G s p w v L o0 o1 o2
 hx:G.obj mb=some (.cells [ptr s,gv])
 ox:j5 v mb
 os:j5 v s
 hL:L.length<=w.U.length
 hF:D3 w L
section
variable {gv v o0 o1 o2 q0 q1 q2:AV} {F G F':Store} {mb p i:Nat} {w:Wld}
theorem MoverG.ne{s:Nat}{L:List Ent}(h:MoverG gv F G mb s p w v L o0 o1 o2):mb≠s:=λe=>by have:=h.S.hs;rw[<-e,h.hx]at this;cases this
theorem MoverG.m{s:Nat}{w':Wld}{L:List Ent}(h:MoverG gv F G mb s p w v L o0 o1 o2):(F'.un (svS G s w' v q0 q1 q2 p)).obj mb=some (.cells [ptr s,gv]):=
 zf (by show(G.sO s _).obj mb=_;rw[zg h.ne];exact h.hx)
theorem MoverG.s{s:Nat}{L:List Ent}(h:MoverG gv F G mb s p w v L o0 o1 o2):(F'.un (svS G s w v q0 q1 q2 p)).obj s=some (.cells (svC w v q0 q1 q2 p)):=zf (Be _ _ _ _ _ _ _ _)
theorem MoverG.put{G':Store}{s:Nat}{L:List Ent}(h:MoverG gv F G mb s p w v L o0 o1 o2)(hr:yl w.U)(hi:i<w.U.length){u:Unt}(hid:w.U[i].id=u.id)(g1:StandR F' G' s p {w with U:=w.U.set i u} v (Fb L u) q0 q1 q2)
  (g2:∀q,j5 v q->G'.obj q=G.obj q):MoverG gv F' G' mb s p (yy w u) v (Fb L u) q0 q1 q2:=by
 rw[Kt hr hi hid.symm];have hF3:=zbl h.hF hr hi (u:=u) hid;refine⟨g1,by rw[g2 mb h.ox];exact h.hx,h.ox,h.os,?_,hF3⟩;obtain⟨_,_,_,_,_,_,_,_,inv⟩:=g1.hc;exact zbm inv.n1 hF3
theorem ir{s:Nat}{L:List Ent}(hW:MoverG gv F G mb s p w v L o0 o1 o2)(hm:MayF w)(hn:∀u∈w.U,u.pos.ok)(hi:i<w.U.length)(u:Unt)(hid:w.U[i].id=u.id)(hp:u.pos.ok)(R:Ja)
  (h:∀F' G' L',MoverG gv F' G' mb s p (yy w u) v L' o0 o1 o2->R (.tup []) (F'.un (svS G' s (yy w u) v o0 o1 o2 p))):
  Jb 287 [ptr s,.agg (zn u)] (F.un (svS G s w v o0 o1 o2 p)) R:=by
 have hU:=hm.hU;refine f9 hW.S hW.os hm.hr θ (by have:=hW.hL;omega) (Kw hW.hF hn) hi u hid hp R λF' G' g1 g2=>?_;have e:=Kt (w:=w) hm.hr hi hid.symm;have:=h F' G' _ (hW.put hm.hr hi hid g1 g2);rw[e]at this;exact this
theorem rz{s:Nat}{L:List Ent}(hW:MoverG gv F G mb s p w v L o0 o1 o2)(hm:MayF w)(hn:∀u∈w.U,u.pos.ok)(hi:i<w.U.length)(d:Vc)(hd:d.ok)(R:Ja)
  (h:∀F' G' L' q0 q1 q2,MoverG gv F' G' mb s p (Al w w.U[i] d) v L' q0 q1 q2->R (int (Kf w w.U[i] d)) (F'.un (svS G' s (Al w w.U[i] d) v q0 q1 q2 p))):
  Jb 306 [ptr mb,.agg (zn w.U[i]),.agg (yd d)] (F.un (svS G s w v o0 o1 o2 p)) R:=by
 have hU:=hm.hU;have hB:=hm.hB;have hnd:=zie hd;have hpk:=hn _ (Faa hi);unfold Al Kf at h;have hhalf:=λk=>yme hnd k;have hzero:=λn k=>zje (w:=w) (u:=w.U[i]) (v:=vy d) (n:=n) (k:=k);have hnext:=λn k=>zjg (w:=w) (u:=w.U[i]) (v:=vy d) (n:=n) (k:=k);have hsome:=λn k=>zjf (w:=w) (u:=w.U[i]) (v:=vy d) (n:=n) (k:=k);have hhv:∀k,C6 (vy d) k=((vy d).1.tdiv ((2^k:Nat):Int),(vy d).2.tdiv ((2^k:Nat):Int)):=λk=>rfl;refine Qa (c:=cfg 53) zb Tryz.func306 ?_;refine rb d _ _ ?_;generalize vy d=nd at*
 refine AWp.loop (σ:=Nat×Store×AV×AV×AV) ⟨λx=>[(0,.av (ptr mb)),(4,.bx 4 0),(5,.bx 5 0),(12,.av (int (x.1:Nat)))],λ_=>[(4,zn w.U[i]),(5,yd nd)],
  λx st'=>x.1<=5/\st'=x.2.1.un (svS G s w v x.2.2.1 x.2.2.2.1 x.2.2.2.2 p)/\StandR x.2.1 G s p w v L x.2.2.1 x.2.2.2.1 x.2.2.2.2/\Bc w w.U[i] nd 5 0=Bc w w.U[i] nd (5-x.1) x.1,λx=>5-x.1⟩ zb ?_ ?_
 ·exact⟨(0,F,o0,o1,o2),Tv,⟨Fae _,rfl,hW.S,rfl⟩,Qaq,⟨rfl,rfl,Tv⟩⟩
 rintro⟨k,F1,q0,q1,q2⟩ st' ⟨hk,rfl,hS1,hT⟩;dsimp only at hk hS1 hT⊢;refine bcd (λc1=>?_) (λc1=>?_);rotate_left
 ·have:k=5:=θ;subst this;have hT:Bc w w.U[i] nd 5 0=none:=hT;rw[hT]at h;exact ret (h F1 G L q0 q1 q2 ⟨hS1,hW.hx,hW.ox,hW.os,hW.hL,hW.hF⟩)
 have hk5:k<5:=θ;obtain⟨n,hn5⟩:∃n,5-k=n+1:=⟨4-k,θ⟩
 rw[hn5]at hT;have hsh:=zzq hk5;have hkv:=hhv k;have hh:=hhalf k;have hp2:((2^k:Nat):Int)≠0:=by have:0<2^k:=Nat.pow_pos ψ;omega
 rw[<-hsh]at hkv hp2;have hh1:yg (nd.1.tdiv (IntKind.i64.wrap (1*2^(min ((k:Int)).toNat IntKind.i64.bits)))):=by have:=hh.1;rw[hkv]at this;exact⟨ψg,ψg⟩
 have hh2:yg (nd.2.tdiv (IntKind.i64.wrap (1*2^(min ((k:Int)).toNat IntKind.i64.bits)))):=by have:=hh.2;rw[hkv]at this;exact⟨ψg,ψg⟩
 have hz0:=hzero n k;have hnx:=hnext n k;have hsm:=hsome n k;refine Qc zb ybc ?_;refine⟨θ,?_⟩;refine⟨hp2,ze hh1 ?_⟩;refine⟨θ,?_⟩;refine⟨hp2,ze hh2 ?_⟩;refine⟨⟨?_,?_⟩,Tv⟩
 ·repeat(first|exact Tv|refine⟨rfl,?_⟩|refine⟨⟨θ,rfl⟩,?_⟩|refine⟨⟨hp2,ze hh1 rfl⟩,?_⟩|refine⟨⟨hp2,ze hh2 rfl⟩,?_⟩)
 refine Qau ?_;rw[hkv]at hz0 hnx hsm hh;generalize nd.1.tdiv (IntKind.i64.wrap (1*2^(min ((k:Int)).toNat IntKind.i64.bits)))=a at*;generalize nd.2.tdiv (IntKind.i64.wrap (1*2^(min ((k:Int)).toNat IntKind.i64.bits)))=b at*;refine zk (λc2=>?_) (λc2=>?_)
 ·have e:(a,b)=((0:Int),(0:Int)):=by
   simp only[Fay,beq_iff_eq]at c2;exact Prod.ext c2.1 c2.2.1
  rw[hz0 e]at hT;rw[hT]at h;exact ret (h F1 G L q0 q1 q2 ⟨hS1,hW.hx,hW.ox,hW.os,hW.hL,hW.hF⟩)
 have hne:(a,b)≠((0:Int),(0:Int)):=λe=>by cases e;exact absurd c2 ψ
 refine rk w.U[i].pos (a,b) hpk (ii hh) _ _ ?_;have hnp:=ii (zbx w.U[i].pos (a,b));have hnx:=hnx hne;have hsm:=hsm hne;generalize j9 w.U[i].pos (a,b)=np at*;refine Qc zb ybb ?_;refine za (o:=(F1.un (svS G s w v q0 q1 q2 p)).obj mb) _ hW.m ?_;refine⟨ew hS1 hm.hg θ hm.hb hm.hr θ hn hW.hL hW.hF w.U[i].id w.U[i].kind np hnp _ (λz F2 a0 a1 a2 hz hS2=>⟨Tv,?_⟩),Tv⟩;refine zk (λc3=>?_) (λc3=>?_);rotate_left
 ·rw[hnx (λhh=>by rw[hz.2 hh]at c3;cases c3)]at hT;refine Qd ?_;refine⟨(k+1,F2,a0,a1,a2),?_,⟨ζ,rfl,hS2,?_⟩,Qaq,⟨rfl,rfl,Tv⟩⟩
  ·show 5-(k+1)<5-k;omega
  ·show Bc w w.U[i] nd 5 0=Bc w w.U[i] nd (5-(k+1)) (k+1);rw[hT]
   congr 1
   omega
 rw[hsm (hz.1 c3)]at hT;rw[hT]at h;have hW2:MoverG gv F2 G mb s p w v L a0 a1 a2:=⟨hS2,hW.hx,hW.ox,hW.os,hW.hL,hW.hF⟩
 refine Qc zb ybd ?_;refine za (o:=(F2.un (svS G s w v a0 a1 a2 p)).obj mb) _ hW.m ?_;refine⟨ir hW2 hm hn hi {w.U[i]with pos:=np} rfl hnp _ (λF3 G3 L3 hW3=>⟨Tv,?_⟩),Tv⟩;exact ret (h F3 G3 L3 a0 a1 a2 hW3)
end
section
variable {gv v o0 o1 o2:AV} {F G:Store} {mb s p i:Nat} {w:Wld}
theorem yo8{L:List Ent}(hW:MoverG gv F G mb s p w v L o0 o1 o2)(hm:MayF w)(hn:∀u∈w.U,u.pos.ok)(hi:i<w.U.length)(u:Unt)(hid:w.U[i].id=u.id)(hp:u.pos.ok)(z:Int)(R:Ja)
  (h:∀F' G' L',MoverG gv F' G' mb s p (yy w (Cb z u)) v L' o0 o1 o2->R (.tup []) (F'.un (svS G' s (yy w (Cb z u)) v o0 o1 o2 p))):
  Jb 308 [ptr mb,.agg (zn u),int z] (F.un (svS G s w v o0 o1 o2 p)) R:=by
 refine Qa (c:=cfg 17) zb Tryz.func308 ?_;refine Qc zb ya9 ?_;refine za (o:=(F.un (svS G s w v o0 o1 o2 p)).obj mb) _ hW.m ?_;refine⟨ir hW hm hn hi (Cb z u) hid hp _ (λF3 G3 L3 hW3=>⟨Tv,?_⟩),Tv⟩;exact ret (h F3 G3 L3 hW3)
theorem yl3{L:List Ent}(hW:MoverG gv F G mb s p w v L o0 o1 o2)(hm:MayF w)(hn:∀u∈w.U,u.pos.ok)(hmap:∀u∈w.U,u.inn=0->xm u.pos)(hi:i<w.U.length)(h0:w.U[i].inn=0)(R:Ja)
  (h:∀F' G' L' q0 q1 q2,MoverG gv F' G' mb s p (Gt w w.U[i]) v L' q0 q1 q2->R (.tup []) (F'.un (svS G' s (Gt w w.U[i]) v q0 q1 q2 p))):
  Jb 204 [ptr mb,.agg (zn w.U[i])] (F.un (svS G s w v o0 o1 o2 p)) R:=by
 have hU:=hm.hU;have hpu:=hmap _ (Faa hi) h0;have hkr:=Dk w.U[i].kind;have hks:=Sg w.U[i].kind;have htiny:=yl2 hpu (λx hx h1=>hmap x hx h1) hU;have hidl:=λ(us:List Unt) (h1:K4 w w.U[i].pos (zx w.U[i].kind+16384+81920) us) h2=>yl1 (u:=w.U[i]) hm.hr h1 h2;unfold Gt at h;refine Qa (c:=cfg 55) zb Tryz.func204 ?_;refine ju _ _ _ ?_;refine Qc zb ycq ?_;refine za (o:=(F.un (svS G s w v o0 o1 o2 p)).obj mb) _ hW.m ?_;refine Qd ?_;refine⟨tn hW.S hm.hr θ hn hW.hL hW.hF w.U[i].pos (Fs hpu) (zx w.U[i].kind+16384) θ _ (λF1 us hS1 hus hss hul=>⟨Tv,?_⟩),Tv⟩;have hW1:MoverG gv F1 G mb s p w v L o0 o1 o2:=⟨hS1,hW.hx,hW.ox,hW.os,hW.hL,hW.hF⟩
 have hid:=hidl us hus hss;have hnv:∀k,nV ((us.take k).foldl (At w.U[i]) (0,0)):=λk=>zbv _ ⟨⟨ψ,ψ⟩,⟨ψ,ψ⟩⟩
 refine AWp.loop (σ:=Nat) ⟨λk=>[(0,.av (ptr mb)),(3,.bx 3 0),(4,.bx 4 0),(5,.bx 5 0),(20,.av (lst 10 zn us)),(21,.av (int (us.length:Nat))),(22,.av (int (k:Nat)))],λk=>[(3,zn w.U[i]),(4,Fw w.U[i].kind),(5,yd ((us.take k).foldl (At w.U[i]) (0,0)))],
  λk st'=>k<=us.length/\st'=F1.un (svS G s w v o0 o1 o2 p),λk=>us.length-k⟩ zb ?_ ?_
 ·refine⟨0,Tv,⟨Fae _,rfl⟩,⟨Tq,Tq,Tq,Tq,Tq,?_,Tq,Tv⟩,⟨rfl,rfl,rfl,Tv⟩⟩;exact LV.le_int θc
 rintro k st' ⟨hk,rfl⟩;refine bcd (λc1=>?_) (λc1=>?_);rotate_left
 ·have:k=us.length:=θ;have hv:(us.take k).foldl (At w.U[i]) (0,0)=Iw w w.U[i]:=by
   rw[this,Fal,hid]
  rw[<-hv]at h htiny;have hq4:(wq w.U[i].kind).tdiv 4=wq w.U[i].kind/4:=Fa1 θ;refine Qc zb yco ?_;refine⟨ψ,ze (by rw[hq4];omega) ?_⟩;refine⟨bk ((us.take k).foldl (At w.U[i]) (0,0)) ((wq w.U[i].kind).tdiv 4) htiny (by rw[hq4];omega) _ _ ⟨Qe,?_⟩,Tv⟩;refine⟨rz hW1 hm hn hi _ (rf htiny) _ (λF3 G3 L3 a0 a1 a2 hW3=>⟨Tv,?_⟩),Tv⟩;exact ret (h F3 G3 L3 a0 a1 a2 hW3)
 have hlt:k<us.length:=θ;have hx:=(hus us[k]).1 (Faa hlt);have hpx:=hmap _ hx.1.1 hx.1.2;have hkx:=Dk us[k].kind;refine⟨k,rfl,za _ (zq hlt) ?_⟩;have hstep:(us.take (k+1)).foldl (At w.U[i]) (0,0)=At w.U[i] ((us.take k).foldl (At w.U[i]) (0,0)) us[k]:=by rw[Fab hlt,Fc9];rfl
 refine qf (λc2=>?_) (λc2=>?_);rotate_left
 ·have hst:(us.take (k+1)).foldl (At w.U[i]) (0,0)=(us.take k).foldl (At w.U[i]) (0,0):=by
   rw[hstep];unfold At;rw[if_neg (λhh=>hh c2)]
  refine Qd ?_;refine⟨k+1,?_,⟨hlt,rfl⟩,Qaq,⟨rfl,rfl,congrArg (λx=>some (yd x)) hst.symm,Tv⟩⟩;show us.length-(k+1)<us.length-k;omega
 have hst:(us.take (k+1)).foldl (At w.U[i]) (0,0)=j9 ((us.take k).foldl (At w.U[i]) (0,0)) (Bi w.U[i].pos (zx w.U[i].kind+zx us[k].kind+16384) us[k].pos):=by rw[hstep];unfold At;rw[if_pos c2]
 have hps:=gb hpu hpx (r:=zx w.U[i].kind+zx us[k].kind+16384) θ;have hnk:=hnv k;refine Qc zb ycp ?_;refine⟨ju _ _ _ ⟨Qe,?_⟩,Tv⟩;refine Qd ?_;refine Qd ?_;refine⟨zzt w.U[i].pos (zx w.U[i].kind+zx us[k].kind+16384) us[k].pos hpu hpx θ _ _ ⟨Qe,?_⟩,Tv⟩;refine⟨rk _ _ (ii hnk) ⟨⟨θ,θ⟩,⟨θ,θ⟩⟩ _ _ ⟨Qe,?_⟩,Tv⟩;refine Qat ?_;refine Qd ?_;refine⟨k+1,?_,⟨hlt,rfl⟩,Qaq,⟨rfl,rfl,congrArg (λx=>some (yd x)) hst.symm,Tv⟩⟩;show us.length-(k+1)<us.length-k;omega
end
end Go.Proofs
namespace Go.Proofs
open Go Go.V
set_option maxRecDepth 20000
set_option maxHeartbeats 4000000
theorem ylj{S:Store}{b n:Nat}{f:Nat->Int}(hb:S.obj b=some (.cells (il n f)))(hn:n<=1000000)(x:Int)(R:Ja)(h:∀r:Int,((0:Int)<=r↔(List.range n).any (λj=>f j==x)=true)->R (int r) S):
  Jb 439 [.s (.slice (some ⟨b,0,none⟩) n n),int x] S R:=by
 refine Qa (c:=cfg 19) zb Tryz.func439 ?_
 refine AWp.loop (σ:=Nat) ⟨λi=>[(0,.av (.s (.slice (some ⟨b,0,none⟩) n n))),(1,.av (int x)),(7,.av (int (n:Nat))),(8,.av (int (i:Nat)))],λ_=>[],
  λi st'=>i<=n/\st'=S/\∀j,j<i->(f j==x)=false,λi=>n-i⟩ zb ?_ ?_
 ·exact⟨0,Tv,⟨Fae _,rfl,λj hj=>absurd hj (Fa3 j)⟩,Qaq,Tv⟩
 rintro i st' ⟨hi,rfl,hall⟩;refine bcd (λc1=>?_) (λc1=>?_);rotate_left
 ·have:i=n:=θ;subst this;refine ret (h (-1) ?_);rw[ysq hall];simp
 have hlt:i<n:=θ;refine⟨i,rfl,hlt,?_⟩;refine Qav ?_;refine za _ (Cz hlt) ?_;refine zw (λc2=>?_) (λc2=>?_)
 ·refine ret (h i ?_);rw[ysr hlt (by rw[c2];simp)];simp
 ·refine Qd ?_;refine⟨i+1,?_,⟨θ,rfl,λj hj=>?_⟩,Qaq,Tv⟩
  ·show n-(i+1)<n-i;omega
  ·by_cases e:j=i
   ·subst e;rw[beq_eq_false_iff_ne];exact λe=>c2 e.symm
   ·exact hall j θ
theorem yql{S:Store}{b n:Nat}{f:Nat->Int}(hb:S.obj b=some (.cells (il n f)))(hn:n<=1000000)(x:Int)(R:Ja)(h:R (V.bool ((List.range n).any (λj=>f j==x))) S):
  Jb 385 [.s (.slice (some ⟨b,0,none⟩) n n),int x] S R:=by
 refine Qa (c:=cfg 9) zb Tryz.func385 ?_;refine ylj hb hn x _ (λr hr=>?_);have e:decide (r>=0)=(List.range n).any (λj=>f j==x):=by rw[Fbu,decide_eq_true_iff];exact hr
 rw[<-e]at h;exact ret h
end Go.Proofs
namespace Go.Proofs
open Go Go.V
set_option maxRecDepth 20000
set_option maxHeartbeats 4000000
theorem d9{g:Gnd}(hg:zt g){t:Int}(h:wg g t):t=-1\/∃k:Nat,t=k/\k<g.T.length:=by
 rcases h with h|⟨h1,h2⟩
 ·exact .inl h
 ·obtain⟨k,rfl⟩:=Fbl h1;exact .inr ⟨k,rfl,by have:=hg.2.2.1;omega⟩
theorem zjd{w:Wld}{u:Unt}{d:Vc}(h:¬Kf w u d<5):Al w u d=w:=by
 unfold Kf at h;unfold Al;cases hl:Bc w u (vy d) 5 0 with
 |none=>rfl
 |some r=>
  rw[hl]at h;obtain⟨k,q⟩:=r;have:=(R5 _ _ hl).2.1.2;dsimp only at this h;exact absurd θ h
section
variable {a g X N:Store} {gx:Value} {M n mb p:Nat} {w:Wld} {c:Int} {v o0 o1 o2:AV}
abbrev gvOf(gt:TypeId)(gx:Value):AV:=.s (.iface gt gx)
theorem H0(hd:zh a g):a.un g=g.un a:=by
 show Store.mk _ _=Store.mk _ _
 congr 1
 ·funext i
  show(match g.obj i with|some x=>some x|none=>a.obj i)=match a.obj i with|some x=>some x|none=>g.obj i
  cases h1:a.obj i with
  |none=>cases g.obj i<;>rfl
  |some x=>rw[(wl (hd i (k9 h1))).1]
 ·funext i
  show(match g.tok i with|some x=>some x|none=>a.tok i)=match a.tok i with|some x=>some x|none=>g.tok i
  cases h1:a.tok i with
  |none=>cases g.tok i<;>rfl
  |some x=>rw[(wl (hd i (Pn h1))).2]
theorem Fe(h:zh a g):zh g a:=λb h1 h2=>h b h2 h1
structure GuideK(gt:TypeId)(gx:Value)(K:Nat->Store->Prop)(M:Nat)(w:Wld):Prop where
 net:∀{n:Nat} {N:Store} {c s:Int},K n N->(c=0\/c=1\/c=2)->(0<=s/\s<=3)->∀R:AV->Store->Prop,(∀b N',K n N'->N'.obj b=some (.cells (xj w.G w.B c s))->R (ptr b) N')->
  ∃ g x, Meets Tryz.prog gt gx "Net" g x /\ Jb g [x, .agg (zu w.G), lst 6 zi w.B, int c, int s] N R
 ways:∀{n:Nat} {N:Store} {c s:Int},K n N->n<M->(c=0\/c=1\/c=2)->(0<=s/\s<=3)->∀goal:Nat,goal<w.G.T.length->∀R:AV->Store->Prop,
  (∀b N',K (n+1) N'->N'.obj b=some (.cells (il w.G.T.length (jl w.G (yf w.G w.B c s) c (Ad w.G (yf w.G w.B c s) c goal))))->R (.s (.slice (some ⟨b,0,none⟩) w.G.T.length w.G.T.length)) N')->
  ∃ g x, Meets Tryz.prog gt gx "Ways" g x /\ Jb g [x, .agg (zu w.G), lst 6 zi w.B, int c, int s, int (goal : Nat)] N R
theorem GuideK.netX{gt:TypeId}{K:Nat->Store->Prop}(hG:GuideK gt gx K M w)(hd:zh X N)(hK:K n N){s:Int}(hc:c=0\/c=1\/c=2)(hs:0<=s/\s<=3)(R:Ja)
  (h : ∀ b N2, zh X N2 -> K n N2 -> N2.obj b = some (.cells (xj w.G w.B c s)) -> R (ptr b) (X.un N2)) : ∃ g x, Meets Tryz.prog gt gx "Net" g x /\ Jb g [x, .agg (zu w.G), lst 6 zi w.B, int c, int s] (X.un N) R := by
 obtain⟨g,x,hm,hcl⟩:=hG.net hK hc hs (λr S=>∃b,r=ptr b/\K n S/\S.obj b=some (.cells (xj w.G w.B c s))) (λb N' h1 h2=>⟨b,rfl,h1,h2⟩);refine⟨g,x,hm,?_⟩;rw[H0 hd];refine ACalls.frame (Fe hd) hcl ?_;rintro r a' ⟨b,rfl,h1,h2⟩ hd2;rw[H0 hd2];exact h b a' (Fe hd2) h1 h2
theorem GuideK.waysX{gt:TypeId}{K:Nat->Store->Prop}(hG:GuideK gt gx K M w)(hd:zh X N)(hK:K n N)(hn:n<M){s:Int}(hc:c=0\/c=1\/c=2)(hs:0<=s/\s<=3)(goal:Nat)(hgo:goal<w.G.T.length)(R:Ja)
  (h:∀b N2,zh X N2->K (n+1) N2->N2.obj b=some (.cells (il w.G.T.length (jl w.G (yf w.G w.B c s) c (Ad w.G (yf w.G w.B c s) c goal))))->R (.s (.slice (some ⟨b,0,none⟩) w.G.T.length w.G.T.length)) (X.un N2)):
  ∃ g x, Meets Tryz.prog gt gx "Ways" g x /\ Jb g [x, .agg (zu w.G), lst 6 zi w.B, int c, int s, int (goal : Nat)] (X.un N) R := by
 obtain⟨g,x,hm,hcl⟩:=hG.ways hK hn hc hs goal hgo (λr S=>∃b,r=.s (.slice (some ⟨b,0,none⟩) w.G.T.length w.G.T.length)/\K (n+1) S/\S.obj b=some (.cells (il w.G.T.length (jl w.G (yf w.G w.B c s) c (Ad w.G (yf w.G w.B c s) c goal))))) (λb N' h1 h2=>⟨b,rfl,h1,h2⟩);refine⟨g,x,hm,?_⟩;rw[H0 hd];refine ACalls.frame (Fe hd) hcl ?_;rintro r a' ⟨b,rfl,h1,h2⟩ hd2;rw[H0 hd2];exact h b a' (Fe hd2) h1 h2
theorem yj9{gt:TypeId}{K:Nat->Store->Prop}(hG:GuideK gt gx K M w)(hd:zh X N)(hK:K n N){s:Nat}(hmbX:X.obj mb=some (.cells [ptr s,gvOf gt gx]))(hsX:X.obj s=some (.cells (svC w v o0 o1 o2 p)))(hm:MayF w)(u:Unt)(hnx:u.next=-1\/∃t:Nat,u.next=t/\t<w.G.T.length)(own:Nat)(ho:own<w.G.T.length)(R:Ja)
  (h:∀N2,zh X N2->K n N2->R (V.bool (K9 w u own)) (X.un N2)):Jb 310 [ptr mb,.agg (zn u),int (own:Nat)] (X.un N) R:=by
 obtain⟨S,hSe⟩:∃S,X.un N=S:=⟨_,rfl⟩
 have hmb:S.obj mb=some (.cells [ptr s,gvOf gt gx]):=hSe▸yj hd hmbX;have hs:S.obj s=some (.cells (svC w v o0 o1 o2 p)):=hSe▸yj hd hsX;rw[hSe];have hB:=hm.hB;unfold K9 okU at h;refine Qb (c:=cfg 77 [9] []) zb Tryz.func310 ?_;refine AWp.seq (AWp.of_vc zb ?_);refine AWp.meet (σ:=Unit) ⟨λ_=>[(0,.av (ptr mb)),(2,.av (int (own:Nat))),(4,.bx 4 0),(7,.bx 7 0),(8,.bx 8 0)],λ_=>[(4,zn u),(7,zu w.G),(8,Fw u.kind)],λ_ st'=>st'=S⟩ zb ?_ ?_
 ·refine Qc zb ya8 ?_;refine Qav ?_;refine Qav ?_;exact⟨ju _ _ _ ⟨Qe,⟨⟨Qe,⟨⟨Qe,⟨⟨Tv,⟨⟨Tv,⟨(),rfl,Qaq,⟨rfl,rfl,rfl,Tv⟩⟩⟩,Tv⟩⟩,Tv⟩⟩,Tv⟩⟩,⟨⟨Qe,⟨⟨Qe,⟨⟨Tv,⟨⟨Tv,⟨(),rfl,Qaq,⟨rfl,rfl,rfl,Tv⟩⟩⟩,Tv⟩⟩,Tv⟩⟩,Tv⟩⟩,Tv⟩⟩⟩,⟨⟨Qe,⟨ju _ _ _ ⟨Qe,⟨⟨Qe,⟨⟨Tv,⟨⟨Tv,⟨(),rfl,Qaq,⟨rfl,rfl,rfl,Tv⟩⟩⟩,Tv⟩⟩,Tv⟩⟩,Tv⟩⟩,⟨⟨Qe,⟨ju _ _ _ ⟨Qe,⟨⟨Tv,⟨⟨Tv,⟨(),rfl,Qaq,⟨rfl,rfl,rfl,Tv⟩⟩⟩,Tv⟩⟩,Tv⟩⟩,Tv⟩⟩,Tv⟩⟩⟩,⟨⟨Qe,⟨ju _ _ _ ⟨Qe,⟨⟨Qe,⟨⟨Tv,⟨⟨Tv,⟨(),rfl,Qaq,⟨rfl,rfl,rfl,Tv⟩⟩⟩,Tv⟩⟩,Tv⟩⟩,Tv⟩⟩,⟨⟨Qe,⟨ju _ _ _ ⟨Qe,⟨⟨Tv,⟨⟨Tv,⟨(),rfl,Qaq,⟨rfl,rfl,rfl,Tv⟩⟩⟩,Tv⟩⟩,Tv⟩⟩,Tv⟩⟩,Tv⟩⟩⟩,Tv⟩⟩⟩
 rintro _ st' rfl;refine AWp.of_vc zb ?_;have hk:=Wb u.kind;refine Qc zb ya7 ?_;refine zw (λc1=>?_) (λc1=>?_)
 ·refine Qat ?_;refine Qat ?_;rw[decide_eq_true c1]at h;have h0:=h N hd hK;rw[hSe]at h0;exact ret h0
 obtain⟨t,ht,htl⟩:∃t:Nat,u.next=t/\t<w.G.T.length:=by
  rcases hnx with h1|h1
  ·exact absurd h1 c1
  ·exact h1
 rw[decide_eq_false c1,ht,Fa8]at h;refine⟨V5 w.G hm.hg t htl u.next ht _ _ ⟨Qe,?_⟩,Tv⟩;refine zk (λc2=>?_) (λc2=>?_)
 ·refine Qat ?_;have e:u.pos=qc w.G t:=by
   simp only[Fay,beq_iff_eq]at c2;exact Prod.ext c2.1 c2.2.1
  rw[decide_eq_true e]at h;have h0:=h N hd hK;rw[hSe]at h0;exact ret h0
 have e:¬u.pos=qc w.G t:=λe=>by
  simp only[e,Bool.and_eq_false_iff,beq_eq_false_iff_ne]at c2;rcases c2 with c2|c2|c2
  ·exact c2 rfl
  ·exact c2 rfl
  ·cases c2
 rw[decide_eq_false e]at h;refine Qav ?_;refine Qav ?_;refine Qav ?_;subst hSe;refine⟨hG.netX hd hK (Mw u.kind) hk _ (λb N2 hd2 hK2 hb2=>⟨Qe,?_⟩),Tv⟩;have hmb2:(X.un N2).obj b=some (.cells (xj w.G w.B (qi u.kind) (kj u.kind))):=zf hb2;have h0:=h N2 hd2 hK2;generalize X.un N2=S2 at*;refine Qav ?_;have htl2:t<(blL w.G.T.length (yf w.G w.B (qi u.kind) (kj u.kind))).length:=by rw[C8];exact htl
 refine⟨t,ht,za _ (zq htl2) ?_⟩;rw[I4 htl];refine yi ?_;refine zk (λc3=>?_) (λc3=>?_);rotate_left
 ·rw[c3]at h0;exact ret h0
 rw[c3]at h0;refine bt w.G hm.hg own ho _ _ ?_;intro b9 hf9;have e9:zp (List.replicate 8 (int 0)) 0 (il 8 (yr w.G own))=il 8 (yr w.G own):=by unfold zp;rw[xo];simp
 refine Aa (i:=ti422) (v:=Nq w.G own) (xs:=il 8 (yr w.G own)) (l:=List.replicate 8 (int 0)) rfl rfl rfl (zd _ _ _) (by rw[xo,Fa5];decide) ?_;rw[e9,ym];have h9:(S2.sO b9 (.cells (il 8 (yr w.G own)))).obj b9=some (.cells (il 8 (yr w.G own))):=zd _ _ _;have hback2:(S2.sO b9 (.cells (il 8 (yr w.G own)))).Has S2:=C0 hf9.1;generalize S2.sO b9 (.cells (il 8 (yr w.G own)))=S3 at*;rw[yix]at h0;refine Qc zb ya6 ?_;refine qf (λc4=>?_) (λc4=>?_);rotate_left
 ·refine Qat ?_;refine Qau ?_;rw[decide_eq_false (λhh=>hh (ht.symm.trans c4))]at h0;exact Cw (Tt) hback2 h0
 refine⟨yql h9 ψ u.next _ ⟨Qe,?_⟩,Tv⟩;refine Qau ?_;rw[decide_eq_true (show(t:Int)≠(own:Int)from λhh=>c4 (ht.trans hh))]at h0;rw[ht];exact Cw (Tt) hback2 h0
theorem yio{gt:TypeId}{K:Nat->Store->Prop}(hG:GuideK gt gx K M w)(hnM:n<M)(hd:zh X N)(hK:K n N){s:Nat}(hmbX:X.obj mb=some (.cells [ptr s,gvOf gt gx]))(hsX:X.obj s=some (.cells (svC w v o0 o1 o2 p)))(hm:MayF w)(u:Unt)(goal:Nat)(hgo:u.goal=goal)(hgl:goal<w.G.T.length)(own:Nat)(ho:own<w.G.T.length)(R:Ja)
  (h:∀n2 N2,n2<=n+1->zh X N2->K n2 N2->R (int (Dh w u own)) (X.un N2)):Jb 311 [ptr mb,.agg (zn u),int (own:Nat)] (X.un N) R:=by
 obtain⟨S,hSe⟩:∃S,X.un N=S:=⟨_,rfl⟩
 have hmb:S.obj mb=some (.cells [ptr s,gvOf gt gx]):=hSe▸yj hd hmbX;have hs:S.obj s=some (.cells (svC w v o0 o1 o2 p)):=hSe▸yj hd hsX;rw[hSe];have hB:=hm.hB;unfold Dh okU at h;have hk:=Wb u.kind;rw[hgo,Fa8]at h;refine Qb (c:=cfg 60) zb Tryz.func311 ?_;refine AWp.seq (AWp.of_vc zb ?_);refine AWp.meet (σ:=Unit) ⟨λ_=>[(0,.av (ptr mb)),(2,.av (int (own:Nat))),(4,.bx 4 0),(7,.bx 7 0),(8,.bx 8 0)],λ_=>[(4,zn u),(7,zu w.G),(8,Fw u.kind)],λ_ st'=>st'=S⟩ zb ?_ ?_
 ·refine Qc zb ya5 ?_;refine Qav ?_;refine Qav ?_;exact⟨ju _ _ _ ⟨Qe,⟨⟨Qe,⟨⟨Qe,⟨⟨Tv,⟨⟨Tv,⟨(),rfl,Qaq,⟨rfl,rfl,rfl,Tv⟩⟩⟩,Tv⟩⟩,Tv⟩⟩,Tv⟩⟩,⟨⟨Qe,⟨⟨Qe,⟨⟨Tv,⟨⟨Tv,⟨(),rfl,Qaq,⟨rfl,rfl,rfl,Tv⟩⟩⟩,Tv⟩⟩,Tv⟩⟩,Tv⟩⟩,Tv⟩⟩⟩,⟨⟨Qe,⟨ju _ _ _ ⟨Qe,⟨⟨Qe,⟨⟨Tv,⟨⟨Tv,⟨(),rfl,Qaq,⟨rfl,rfl,rfl,Tv⟩⟩⟩,Tv⟩⟩,Tv⟩⟩,Tv⟩⟩,⟨⟨Qe,⟨ju _ _ _ ⟨Qe,⟨⟨Tv,⟨⟨Tv,⟨(),rfl,Qaq,⟨rfl,rfl,rfl,Tv⟩⟩⟩,Tv⟩⟩,Tv⟩⟩,Tv⟩⟩,Tv⟩⟩⟩,⟨⟨Qe,⟨ju _ _ _ ⟨Qe,⟨⟨Qe,⟨⟨Tv,⟨⟨Tv,⟨(),rfl,Qaq,⟨rfl,rfl,rfl,Tv⟩⟩⟩,Tv⟩⟩,Tv⟩⟩,Tv⟩⟩,⟨⟨Qe,⟨ju _ _ _ ⟨Qe,⟨⟨Tv,⟨⟨Tv,⟨(),rfl,Qaq,⟨rfl,rfl,rfl,Tv⟩⟩⟩,Tv⟩⟩,Tv⟩⟩,Tv⟩⟩,Tv⟩⟩⟩,Tv⟩⟩⟩
 rintro _ st' rfl;refine AWp.of_vc zb ?_;refine Qc zb ya4 ?_;refine⟨V5 w.G hm.hg own ho (own:Nat) rfl _ _ ⟨Qe,?_⟩,Tv⟩;refine yi ?_;refine zk (λc2=>?_) (λc2=>?_);rotate_left
 ·have e:u.pos≠qc w.G own:=λe=>by
   simp only[e,Bool.and_eq_false_iff,beq_eq_false_iff_ne]at c2;rcases c2 with c2|c2|c2
   ·exact c2 rfl
   ·exact c2 rfl
   ·cases c2
  rw[if_pos e]at h;have h0:=h n N (Fdn n) hd hK;rw[hSe]at h0;exact ret h0
 have e:¬u.pos≠qc w.G own:=λe=>e (by simp only[Fay,beq_iff_eq]at c2;exact Prod.ext c2.1 c2.2.1);rw[if_neg e]at h;dsimp only at h;refine Qc zb ya3 ?_;refine Qav ?_;refine Qav ?_;refine Qav ?_;refine⟨?_,Tv⟩;subst hSe;show∃g x,Meets _ _ _ _ g x/\ACalls _ g [x,_,_,_,_,int u.goal] _ _;rw[hgo];refine hG.waysX hd hK hnM (Mw u.kind) hk goal hgl _ (λb N2 hd2 hK2 hb2=>⟨Qe,?_⟩);have hmb2:(X.un N2).obj b=some (.cells (il w.G.T.length (jl w.G (yf w.G w.B (qi u.kind) (kj u.kind)) (qi u.kind) (Ad w.G (yf w.G w.B (qi u.kind) (kj u.kind)) (qi u.kind) goal)))):=zf hb2;have h0:=h (n+1) N2 (Fak _) hd2 hK2;generalize X.un N2=S2 at*;have hway:=zh8 w.G (yf w.G w.B (qi u.kind) (kj u.kind)) (qi u.kind) (Ad w.G (yf w.G w.B (qi u.kind) (kj u.kind)) (qi u.kind) goal) own;have hhd:=Cz (f:=jl w.G (yf w.G w.B (qi u.kind) (kj u.kind)) (qi u.kind) (Ad w.G (yf w.G w.B (qi u.kind) (kj u.kind)) (qi u.kind) goal)) ho;refine⟨own,rfl,ho,?_⟩;refine Qav ?_;refine za _ hhd ?_;generalize jl w.G (yf w.G w.B (qi u.kind) (kj u.kind)) (qi u.kind) (Ad w.G (yf w.G w.B (qi u.kind) (kj u.kind)) (qi u.kind) goal) own=W at*;refine Qau ?_;refine bcd (λc3=>?_) (λc3=>?_)
 ·rw[if_pos c3]at h0;exact ret h0
 rw[if_neg c3]at h0;obtain⟨j,hj,rfl⟩:∃j:Nat,j<8/\W=(j:Int):=by
  rcases hway with h1|⟨j,h1,h2,_⟩
  ·omega
  ·exact⟨j,h1,h2⟩
 rw[Fa8]at h0;refine bt w.G hm.hg own ho _ _ ?_;refine⟨j,rfl,hj,?_⟩;refine za _ (Wl hj) ?_;exact ret h0
end
section
variable {gv v o0 o1 o2:AV} {F G N:Store} {mb s p i M n:Nat} {w:Wld} {gx:Value}
theorem zb8{L:List Ent}(hW:MoverG gv F G mb s p w v L o0 o1 o2)(hd:zh (F.un (svS G s w v o0 o1 o2 p)) N)(hm:MayF w)(hn:∀u∈w.U,u.pos.ok)(hi:i<w.U.length)(u:Unt)(hid:w.U[i].id=u.id)(hp:u.pos.ok)(R:Ja)
  (h:∀F' G' L',MoverG gv F' G' mb s p (yy w u) v L' o0 o1 o2->zh (F'.un (svS G' s (yy w u) v o0 o1 o2 p)) N->R (.tup []) ((F'.un (svS G' s (yy w u) v o0 o1 o2 p)).un N)):Jb 287 [ptr s,.agg (zn u)] ((F.un (svS G s w v o0 o1 o2 p)).un N) R:=by
 refine ACalls.frame hd (ir hW hm hn hi u hid hp (λr S=>∃F' G' L',MoverG gv F' G' mb s p (yy w u) v L' o0 o1 o2/\S=F'.un (svS G' s (yy w u) v o0 o1 o2 p)/\r=.tup []) (λF' G' L' h=>⟨F',G',L',h,rfl,rfl⟩)) ?_;rintro r a' ⟨F',G',L',h1,rfl,rfl⟩ hd2;exact h F' G' L' h1 hd2
theorem m8{L:List Ent}(hW:MoverG gv F G mb s p w v L o0 o1 o2)(hd:zh (F.un (svS G s w v o0 o1 o2 p)) N)(hm:MayF w)(hn:∀u∈w.U,u.pos.ok)(hi:i<w.U.length)(u:Unt)(hid:w.U[i].id=u.id)(hp:u.pos.ok)(z:Int)(R:Ja)
  (h:∀F' G' L',MoverG gv F' G' mb s p (yy w (Cb z u)) v L' o0 o1 o2->zh (F'.un (svS G' s (yy w (Cb z u)) v o0 o1 o2 p)) N->R (.tup []) ((F'.un (svS G' s (yy w (Cb z u)) v o0 o1 o2 p)).un N)):Jb 308 [ptr mb,.agg (zn u),int z] ((F.un (svS G s w v o0 o1 o2 p)).un N) R:=by
 refine ACalls.frame hd (yo8 hW hm hn hi u hid hp z (λr S=>∃F' G' L',MoverG gv F' G' mb s p (yy w (Cb z u)) v L' o0 o1 o2/\S=F'.un (svS G' s (yy w (Cb z u)) v o0 o1 o2 p)/\r=.tup []) (λF' G' L' h=>⟨F',G',L',h,rfl,rfl⟩)) ?_;rintro r a' ⟨F',G',L',h1,rfl,rfl⟩ hd2;exact h F' G' L' h1 hd2
theorem zjh{L:List Ent}(hW:MoverG gv F G mb s p w v L o0 o1 o2)(hd:zh (F.un (svS G s w v o0 o1 o2 p)) N)(hm:MayF w)(hn:∀u∈w.U,u.pos.ok)(hi:i<w.U.length)(d:Vc)(hdv:d.ok)(R:Ja)
  (h:∀F' G' L' q0 q1 q2,MoverG gv F' G' mb s p (Al w w.U[i] d) v L' q0 q1 q2->zh (F'.un (svS G' s (Al w w.U[i] d) v q0 q1 q2 p)) N->R (int (Kf w w.U[i] d)) ((F'.un (svS G' s (Al w w.U[i] d) v q0 q1 q2 p)).un N)):Jb 306 [ptr mb,.agg (zn w.U[i]),.agg (yd d)] ((F.un (svS G s w v o0 o1 o2 p)).un N) R:=by
 refine ACalls.frame hd (rz hW hm hn hi d hdv (λr S=>∃F' G' L' q0 q1 q2,MoverG gv F' G' mb s p (Al w w.U[i] d) v L' q0 q1 q2/\S=F'.un (svS G' s (Al w w.U[i] d) v q0 q1 q2 p)/\r=int (Kf w w.U[i] d)) (λF' G' L' q0 q1 q2 h=>⟨F',G',L',q0,q1,q2,h,rfl,rfl⟩)) ?_;rintro r a' ⟨F',G',L',q0,q1,q2,h1,rfl,rfl⟩ hd2;exact h F' G' L' q0 q1 q2 h1 hd2
theorem yl5{L:List Ent}(hW:MoverG gv F G mb s p w v L o0 o1 o2)(hd:zh (F.un (svS G s w v o0 o1 o2 p)) N)(hm:MayF w)(hn:∀u∈w.U,u.pos.ok)(hmap:∀u∈w.U,u.inn=0->xm u.pos)(hi:i<w.U.length)(h0:w.U[i].inn=0)(R:Ja)
  (h:∀F' G' L' q0 q1 q2,MoverG gv F' G' mb s p (Gt w w.U[i]) v L' q0 q1 q2->zh (F'.un (svS G' s (Gt w w.U[i]) v q0 q1 q2 p)) N->R (.tup []) ((F'.un (svS G' s (Gt w w.U[i]) v q0 q1 q2 p)).un N)):Jb 204 [ptr mb,.agg (zn w.U[i])] ((F.un (svS G s w v o0 o1 o2 p)).un N) R:=by
 refine ACalls.frame hd (yl3 hW hm hn hmap hi h0 (λr S=>∃F' G' L' q0 q1 q2,MoverG gv F' G' mb s p (Gt w w.U[i]) v L' q0 q1 q2/\S=F'.un (svS G' s (Gt w w.U[i]) v q0 q1 q2 p)/\r=.tup []) (λF' G' L' q0 q1 q2 h=>⟨F',G',L',q0,q1,q2,h,rfl,rfl⟩)) ?_;rintro r a' ⟨F',G',L',q0,q1,q2,h1,rfl,rfl⟩ hd2;exact h F' G' L' q0 q1 q2 h1 hd2
theorem ym6{gt:TypeId}{K:Nat->Store->Prop}(hG:GuideK gt gx K M w)(hnM:n<M){L:List Ent}(hW:MoverG (gvOf gt gx) F G mb s p w v L o0 o1 o2)(hd:zh (F.un (svS G s w v o0 o1 o2 p)) N)(hK:K n N)(hmay:z7 w)(hn:∀u∈w.U,u.pos.ok)(hi:i<w.U.length)(h0:w.U[i].inn=0)(hgo:w.U[i].goal≠-1)(R:Ja)
  (h:∀F' G' L' q0 q1 q2 n2 N2,n2<=n+1->MoverG (gvOf gt gx) F' G' mb s p (D7 w w.U[i]) v L' q0 q1 q2->zh (F'.un (svS G' s (D7 w w.U[i]) v q0 q1 q2 p)) N2->K n2 N2->R (.tup []) ((F'.un (svS G' s (D7 w w.U[i]) v q0 q1 q2 p)).un N2)):
  Jb 205 [ptr mb,.agg (zn w.U[i])] ((F.un (svS G s w v o0 o1 o2 p)).un N) R:=by
 have hm:=wn hmay;have hut:=dh hmay hi;have hon:=zbk hmay hi h0;have hown:=gj hmay hi h0;have hmp:=Pe hmay (Faa hi) h0;obtain⟨goal,hgq,hgl⟩:∃k:Nat,w.U[i].goal=k/\k<w.G.T.length:=by
  rcases d9 hm.hg hut.2.1.1 with h1|h1
  ·exact absurd h1 hgo
  ·exact h1
 have hnx:=d9 hm.hg hut.2.1.2.1;have hstk:=hut.2.1.2.2;have hnt:=gy (w:=w) hm.hg (u:=w.U[i]) hown;have hgoes:D7 w w.U[i]=if w.U[i].pos=qc w.G goal then yy w (Cb 2 w.U[i])else if K9 w w.U[i] (Bd w.G w.U[i].pos)then(if Dh w w.U[i] (Bd w.G w.U[i].pos)<0 then yy w (Cb 3 w.U[i])else Dw w {w.U[i]with next:=Dh w w.U[i] (Bd w.G w.U[i].pos)})else Dw w w.U[i]:=by
  have e:w.U[i].goal.toNat=goal:=by rw[hgq,Fa8]
  unfold D7;rw[e]
 have hlook1:K9 w w.U[i] (Bd w.G w.U[i].pos)=false->w.U[i].next≠-1:=λhh e=>by unfold K9 at hh;rw[decide_eq_true e]at hh;simp at hh
 obtain⟨own,hownE⟩:∃own,Bd w.G w.U[i].pos=own:=⟨_,rfl⟩
 rw[hownE]at hown hnt hgoes hlook1;refine Qb (c:=cfg 84) zb Tryz.func205 ?_;refine AWp.seq (AWp.of_vc zb ?_);refine AWp.seq (AWp.of_vc zb ?_);refine za (o:=((F.un (svS G s w v o0 o1 o2 p)).un N).obj mb) _ (yj hd hW.m) ?_;refine za (o:=((F.un (svS G s w v o0 o1 o2 p)).un N).obj s) _ (yj hd hW.s) ?_;refine AWp.seq (AWp.of_vc zb ?_);refine Qc zb yck ?_;refine⟨V5 w.G hm.hg goal hgl w.U[i].goal hgq _ _ ⟨Qe,?_⟩,Tv⟩;refine zk (λc1=>?_) (λc1=>?_)
 ·have e:w.U[i].pos=qc w.G goal:=by
   simp only[Fay,beq_iff_eq]at c1;exact Prod.ext c1.1 c1.2.1
  rw[if_pos e]at hgoes;rw[hgoes]at h;refine m8 hW hd hm hn hi w.U[i] rfl (Fs hmp) 2 _ (λF3 G3 L3 hW3 hd3=>?_);exact ret (h F3 G3 L3 o0 o1 o2 n N (Fdn n) hW3 hd3 hK)
 have e:¬w.U[i].pos=qc w.G goal:=λe=>by
  simp only[e,Bool.and_eq_false_iff,beq_eq_false_iff_ne]at c1;rcases c1 with c1|c1|c1
  ·exact c1 rfl
  ·exact c1 rfl
  ·cases c1
 rw[if_neg e]at hgoes;refine AWp.meet (σ:=Nat×Nat×Store) ⟨λq=>[(0,.av (ptr mb)),(3,.bx 3 0),(4,.bx 4 0)],λq=>[(3,zn {w.U[i]with next:=(q.1:Int)}),(4,zu w.G)],λq st'=>st'=(F.un (svS G s w v o0 o1 o2 p)).un q.2.2/\q.1<w.G.T.length/\D7 w w.U[i]=Dw w {w.U[i]with next:=(q.1:Int)}/\q.2.1<=n+1/\zh (F.un (svS G s w v o0 o1 o2 p)) q.2.2/\K q.2.1 q.2.2⟩ zb ?_ ?_
 ·refine ziy w.G hm.hg w.U[i].pos hon _ _ ?_;rw[hownE];refine yj9 hG hd hK hW.m hW.s hm w.U[i] hnx own hown _ (λN2 hd2 hK2=>?_);refine zk (λc2=>?_) (λc2=>?_);rotate_left
  ·rw[if_neg (by rw[c2];decide)]at hgoes;obtain⟨t,ht,htl⟩:∃k:Nat,w.U[i].next=k/\k<w.G.T.length:=by
    rcases hnx with h1|h1
    ·exact absurd h1 (hlook1 c2)
    ·exact h1
   have e2:{w.U[i]with next:=(t:Int)}=w.U[i]:=by rw[<-ht]
   refine⟨(t,n,N2),⟨rfl,htl,by dsimp only;rw[e2];exact hgoes,Fdn n,hd2,hK2⟩,Qaq,⟨?_,rfl,Tv⟩⟩;dsimp only;rw[e2];rfl
  rw[if_pos c2]at hgoes;refine yio hG hnM hd2 hK2 hW.m hW.s hm w.U[i] goal hgq hgl own hown _ (λn3 N3 hn3 hd3 hK3=>?_);generalize Dh w w.U[i] own=nx at*;refine bcd (λc3=>?_) (λc3=>?_)
  ·rw[if_pos c3]at hgoes;rw[hgoes]at h;refine m8 hW hd3 hm hn hi {w.U[i]with next:=nx} rfl (Fs hmp) 3 _ (λF3 G3 L3 hW3 hd4=>?_);exact ret (h F3 G3 L3 o0 o1 o2 n3 N3 hn3 hW3 hd4 hK3)
  rw[if_neg c3]at hgoes;obtain⟨t,rfl,htl⟩:∃k:Nat,nx=k/\k<w.G.T.length:=by
   rcases d9 hm.hg hnt with h1|h1
   ·omega
   ·exact h1
  exact⟨(t,n3,N3),⟨rfl,htl,hgoes,hn3,hd3,hK3⟩,Qaq,⟨rfl,rfl,Tv⟩⟩
 clear hd hK;rintro⟨t,n2,N2⟩ st' ⟨rfl,htl,hgoes,hn2,hd,hK⟩;dsimp only at htl hgoes hn2 hd hK⊢;rw[hgoes]at h;have hid:({w.U[i]with next:=(t:Int),stuck:=0}:Unt).id=w.U[i].id:=rfl;have hmay1:z7 (yy w {w.U[i]with next:=(t:Int),stuck:=0}):=V7 hmay hi h0 rfl (Rz hut hgo (d0 hm.hg htl) θ);obtain⟨hi1,he1⟩:=Vj hm.hr hi hid;have hn1:∀x∈(yy w {w.U[i]with next:=(t:Int),stuck:=0}).U,x.pos.ok:=λx hx=>by
  obtain⟨j,hj,rfl⟩:=Faj hx;rw[Vi]at hj;by_cases hji:j=i
  ·subst hji;rw[he1];exact Fs hmp
  ·rw[zax hm.hr hi hid hj hji];exact hn _ (Faa hj)
 have hks:=Sg w.U[i].kind;have hcm:=zfo hm.hg htl;have hway:=Rw hmp hcm;unfold Dw at h;dsimp only at h;rw[Fa8]at h;have hpp:∀x:Unt,x.id=w.U[i].id->yy (yy w {w.U[i]with next:=(t:Int),stuck:=0}) x=yy w x:=λx hx=>zaw w hx.symm;refine AWp.of_vc zb ?_;refine Qc zb ycn ?_;refine za (o:=((F.un (svS G s w v o0 o1 o2 p)).un N2).obj mb) _ (yj hd hW.m) ?_;refine⟨zb8 hW hd hm hn hi {w.U[i]with next:=(t:Int),stuck:=0} rfl (Fs hmp) _ (λF1 G1 L1 hW1 hd1=>⟨Tv,?_⟩),Tv⟩;generalize hw1:yy w {w.U[i]with next:=(t:Int),stuck:=0}=w1 at*;have hm1:=wn hmay1;have hG1:w1.G=w.G:=by rw[<-hw1];rfl
 have htry:=zjh hW1 hd1 hm1 hn1 hi1;rw[he1]at htry;refine Qc zb ycm ?_;refine⟨V5 w.G hm.hg t htl (t:Nat) rfl _ _ ⟨Qe,?_⟩,Tv⟩;refine⟨ju _ _ _ ⟨Qe,?_⟩,Tv⟩;refine⟨zjj w.U[i].pos (qc w.G t) (wq w.U[i].kind) hmp hcm θ _ _ ⟨Qe,?_⟩,Tv⟩;refine⟨htry (L6 w.U[i].pos (qc w.G t) (wq w.U[i].kind)) (rf hway) _ (λF2 G2 L2 a0 a1 a2 hW2 hd2=>⟨Qe,?_⟩),Tv⟩;refine bcd (λc4=>?_) (λc4=>?_)
 ·rw[if_pos c4]at h;exact ret (h F2 G2 L2 a0 a1 a2 n2 N2 hn2 hW2 hd2 hK)
 rw[if_neg c4]at h;rw[zjd c4]at hW2 hd2⊢;refine ze (v:=w.U[i].stuck+1) θ ?_;refine zw (λc5=>?_) (λc5=>?_)
 ·rw[if_pos c5]at h;refine m8 hW2 hd2 hm1 hn1 hi1 {w.U[i]with next:=-1,stuck:=w.U[i].stuck+1} (by rw[he1]) (Fs hmp) 4 _ (λF3 G3 L3 hW3 hd3=>?_);have e3:=hpp (Cb 4 {w.U[i]with next:=-1,stuck:=w.U[i].stuck+1}) rfl;rw[e3]at hW3 hd3⊢;exact ret (h F3 G3 L3 a0 a1 a2 n2 N2 hn2 hW3 hd3 hK)
 rw[if_neg c5]at h;refine Qc zb ycl ?_;refine za (o:=((F2.un (svS G2 s w1 v a0 a1 a2 p)).un N2).obj mb) _ (yj hd2 hW2.m) ?_;refine⟨zb8 hW2 hd2 hm1 hn1 hi1 {w.U[i]with next:=-1,stuck:=w.U[i].stuck+1} (by rw[he1]) (Fs hmp) _ (λF3 G3 L3 hW3 hd3=>⟨Tv,?_⟩),Tv⟩;have e3:=hpp {w.U[i]with next:=-1,stuck:=w.U[i].stuck+1} rfl;rw[e3]at hW3 hd3⊢;exact ret (h F3 G3 L3 a0 a1 a2 n2 N2 hn2 hW3 hd3 hK)
theorem zix{gt:TypeId}{K:Nat->Store->Prop}(hG:GuideK gt gx K M w)(hnM:n<M){L:List Ent}(hW:MoverG (gvOf gt gx) F G mb s p w v L o0 o1 o2)(hd:zh (F.un (svS G s w v o0 o1 o2 p)) N)(hK:K n N)(hmay:z7 w)(hn:∀u∈w.U,u.pos.ok)(hi:i<w.U.length)(h0:w.U[i].inn=0)(R:Ja)
  (h:∀F' G' L' q0 q1 q2 n2 N2,n2<=n+1->MoverG (gvOf gt gx) F' G' mb s p (Bq w w.U[i]) v L' q0 q1 q2->zh (F'.un (svS G' s (Bq w w.U[i]) v q0 q1 q2 p)) N2->K n2 N2->R (.tup []) ((F'.un (svS G' s (Bq w w.U[i]) v q0 q1 q2 p)).un N2)):
  Jb 127 [ptr mb,.agg (zn w.U[i])] ((F.un (svS G s w v o0 o1 o2 p)).un N) R:=by
 unfold Bq at h;refine Qa (c:=cfg 13) zb Tryz.func127 ?_;refine zw (λc1=>?_) (λc1=>?_)
 ·rw[if_pos c1]at h;exact yl5 hW hd (wn hmay) hn (λu hu h1=>Pe hmay hu h1) hi h0 _ (λF3 G3 L3 a0 a1 a2 hW3 hd3=>ret (h F3 G3 L3 a0 a1 a2 n N (Fdn n) hW3 hd3 hK))
 ·rw[if_neg c1]at h;exact ym6 hG hnM hW hd hK hmay hn hi h0 c1 _ (λF3 G3 L3 a0 a1 a2 n2 N2 hn2 hW3 hd3 hK3=>ret (h F3 G3 L3 a0 a1 a2 n2 N2 hn2 hW3 hd3 hK3))
end
end Go.Proofs
