/- Ground of laws of thronglaw24: contracts and plain lemmas; no condition beyond the row's own. -/
import Derived.Test.YtbemejeejgpkaaaGreatKS
import Derived.Test.YtbemejeejgpkaaaGreatKR
set_option linter.unusedSimpArgs false
set_option linter.unusedVariables false
namespace Go.Proofs
open Go Go.V
set_option maxRecDepth 20000
set_option maxHeartbeats 4000000
theorem ow(g:Gnd)(x y:Int)(st:Store)(R:Ja)(h:∀z:Bool,(z=true↔onG g x y)->R (bool z) st):Jb 218 [.agg (zp g),int x,int y] st R:=by
 refine Qa (c:=cfg 25) zb Tryz.func218 ?_
 repeat' (first|refine bcd (λ_=>?_) (λ_=>?_)|refine zh (λ_=>?_) (λ_=>?_)|refine Qd ?_|fail)
 all_goals
  refine ret (h _ ?_)
  unfold onG
  simp only[decide_eq_true_eq,decide_eq_false_iff_not,Fah,false_iff,true_iff,beq_iff_eq,bne_iff_ne,beq_eq_false_iff_ne,ne_eq,reduceCtorEq]at*
  omega
theorem min2_eq(a b:Int):min2 a b=min a b:=by
 unfold min2
 by_cases h:b<a
 ·rw[decide_eq_true h];show b=_;omega
 ·rw[decide_eq_false h];show a=_;omega
theorem od(g:Gnd)(hg:zr g)(f:Nat->Int)(hf:∀t,t<g.T.length->0<=f t/\f t<=128)(t:Nat)(ht:t<g.T.length)(ws:List (Int×Int))(hw:∀d∈ws,(d.1≠0\/d.2≠0)/\(-1<=d.1/\d.1<=1)/\(-1<=d.2/\d.2<=1))(hwl:ws.length<=100)(b:Nat)(st:Store)(R:Ja)
  (h:R (.tup []) (st.sO b (.cells (il g.T.length (Kl g f ws t))))):Jb 307 [.agg (zp g),blV b g.T.length,int t,lst 2 H1 ws] (st.sO b (.cells (il g.T.length f))) R:=by
 have hm:=qe hg
 have htb:=Bw hg (t:=t) (by omega)
 have hq:=D4 (t:=t) hg.1.1
 have hq2:=D5 (t:=t) hg.1.1
 have hg1:=hg.1
 have hg2:=hg.2.1
 unfold Kl at h
 have hx:∃x,x=(t:Int)%g.W:=⟨_,rfl⟩
 have hy:∃y,y=(t:Int)/g.W:=⟨_,rfl⟩
 obtain⟨x,hx⟩:=hx
 obtain⟨y,hy⟩:=hy
 rw[<-hx,<-hy]at h htb
 rw[<-hx]at hq
 rw[<-hy]at hq2
 refine Qa (c:=cfg 63) zb Tryz.func307 ?_
 refine Qc zb zqp ?_
 refine⟨by omega,?_⟩
 refine⟨by omega,?_⟩
 refine Qd ?_
 refine Qbk ?_
 refine Qbl ?_
 refine AWp.loop (σ:=Nat) ⟨λi=>[(1,.av (blV b g.T.length)),(2,.av (int (t:Nat))),(4,.bx 4 0),(8,.av (int x)),(9,.av (int y)),(21,.av (lst 2 H1 ws)),(22,.av (int (ws.length:Nat))),(23,.av (int (i:Nat)))],λ_=>[(4,zp g)],
  λi st'=>i<=ws.length/\st'=st.sO b (.cells (il g.T.length (setI f t (w9 g f x y (f t) (ws.take i))))),λi=>ws.length-i⟩ zb ?_ ?_
 ·refine⟨0,Tv,⟨Fag _,?_⟩,⟨Tq,Tq,Tq,?_,?_,Tq,?_,Tq,Tv⟩,⟨rfl,Tv⟩⟩
  ·rw[Fc8]
   show _=st.sO b (.cells (il g.T.length (setI f t (f t))))
   rw[zou]
  ·rw[<-hq];exact Tq
  ·rw[<-hq2];exact Tq
  ·rw[<-zn (f:=H1) ws];exact Tq
 rintro i st' ⟨hi,rfl⟩
 refine bcd (λh1=>?_) (λh1=>?_)
 rotate_left
 ·have:i=ws.length:=by omega
  subst this
  rw[Fap]
  exact ret h
 have hlt:i<ws.length:=by omega
 have hd:=hw _ (Faa hlt)
 have hv:=Wh hg hf x y (ws.take i) (f t) (hf t ht)
 have hsn:=zwj g f x y (f t) ws hlt
 have hgs:=zz4 hg f (t:=t) (w9 g f x y (f t) (ws.take i)) hd.1
 rw[<-hx,<-hy]at hgs
 generalize hV:w9 g f x y (f t) (ws.take i)=V0 at*
 have ho:(st.sO b (.cells (il g.T.length (setI f t V0)))).obj b=some (.cells (il g.T.length (setI f t V0))):=zd _ _ _
 refine⟨i,rfl,za _ (zm hlt) ?_⟩
 refine⟨0,rfl,by decide,?_⟩
 refine Qd ?_
 refine⟨1,rfl,by decide,?_⟩
 refine Qd ?_
 refine ow g (x+ws[i].1) (y+ws[i].2) _ _ (λz hz=>?_)
 have hgv:=tb hg hf (x+ws[i].1) (y+ws[i].2)
 have fin:min V0 (gv g f (x+ws[i].1) (y+ws[i].2)+1)=w9 g f x y (f t) (ws.take (i+1)):=hsn.symm
 refine zh (λc1=>?_) (λc1=>?_)
 ·have hon:=hz.1 c1
  obtain⟨e1,e2,e3,e4⟩:=Cl hg hon
  have hpos:0<=g.W*(y+ws[i].2):=Fax (by omega) (by have:=hon.2.1;omega)
  have hval:setI f t V0 (tl g (x+ws[i].1) (y+ws[i].2))=gv g f (x+ws[i].1) (y+ws[i].2):=by
   rw[<-hgs];unfold gv;rw[if_pos hon]
  refine⟨0,rfl,by decide,?_⟩
  refine Qd ?_
  refine⟨1,rfl,by decide,?_⟩
  refine Qd ?_
  refine Qd ?_
  refine Qd ?_
  refine⟨tl g (x+ws[i].1) (y+ws[i].2),e1.symm,e2,?_⟩
  refine za _ ho (za _ (jx e2) ?_)
  rw[hval]
  refine⟨t,rfl,ht,?_⟩
  refine za _ ho (za _ (jx ht) ?_)
  rw[Ku]
  refine Qd ?_
  refine⟨t,rfl,ht,?_⟩
  refine yj (i:=ti2) (v:=int (min2 V0 (gv g f (x+ws[i].1) (y+ws[i].2)+1))) (b:=b) (o:=0+t*1) (l:=il g.T.length (setI f t V0)) (st2:=st.sO b (.cells (il g.T.length (setI f t (w9 g f x y (f t) (ws.take (i+1))))))) rfl rfl rfl ho (by rw[qx];omega) ?_ ?_
  ·rw[yp,show 0+t*1=t by omega,Gg ht,Vr,min2_eq,fin]
  refine Qd ?_
  refine⟨i+1,?_,⟨by omega,rfl⟩,Qbh,⟨rfl,Tv⟩⟩
  show ws.length-(i+1)<ws.length-i
  omega
 ·have hoff:¬onG g (x+ws[i].1) (y+ws[i].2):=λhh=>by have:=hz.2 hh;rw[this]at c1;cases c1
  have hz0:gv g f (x+ws[i].1) (y+ws[i].2)=0:=if_neg hoff
  rw[hz0]at fin
  refine⟨t,rfl,ht,?_⟩
  refine za _ ho (za _ (jx ht) ?_)
  rw[Ku]
  refine Qd ?_
  refine⟨t,rfl,ht,?_⟩
  refine yj (i:=ti2) (v:=int (min2 V0 (0+1))) (b:=b) (o:=0+t*1) (l:=il g.T.length (setI f t V0)) (st2:=st.sO b (.cells (il g.T.length (setI f t (w9 g f x y (f t) (ws.take (i+1))))))) rfl rfl rfl ho (by rw[qx];omega) ?_ ?_
  ·rw[yp,show 0+t*1=t by omega,Gg ht,Vr,min2_eq,fin]
  refine Qd ?_
  refine⟨i+1,?_,⟨by omega,rfl⟩,Qbh,⟨rfl,Tv⟩⟩
  show ws.length-(i+1)<ws.length-i
  omega
def Aw(o:Nat->Bool)(t:Nat):Int:=if o t then 128 else 0
def Cs(o:Nat->Bool)(i t:Nat):Int:=if t<i then Aw o t else 0
theorem oq(o:Nat->Bool)(n:Nat):∀t,t<n->0<=Aw o t/\Aw o t<=128:=λt _=>by unfold Aw;split<;>decide
def my(g:Gnd)(l:List Bld)(c:Int):AV:=lst 1 yh (ilL g.T.length (Dg g (yi g l c)))
theorem zt0(g:Gnd)(hg:zr g)(l:List Bld)(hl:l.length<=1000000000000)(hb:∀b∈l,yg b/\onP g b)(c:Int)(st:Store)(R:Ja)(h:R (my g l c) st):
  Jb 294 [.agg (zp g),lst 6 zk l,int c] st R:=by
 have ha:=qe hg
 have fwd_ok:∀d∈Lc,(d.1≠0\/d.2≠0)/\(-1<=d.1/\d.1<=1)/\(-1<=d.2/\d.2<=1):=by decide
 have bwd_ok:∀d∈I4,(d.1≠0\/d.2≠0)/\(-1<=d.1/\d.1<=1)/\(-1<=d.2/\d.2<=1):=by decide
 refine Qb (c:=cfg 63) zb Tryz.func294 ?_
 refine AWp.seq (AWp.of_vc zb ?_)
 refine AWp.seq (AWp.of_vc zb ?_)
 refine Bt rfl (it:=ti29) (ie:=ti2) rfl rfl rfl rfl rfl (n:=(rws u8C g.T).length) ?_ ?_ (λb hf=>?_)
 ·rw[zn];show 8*_<=_;omega
 ·rw[zn];omega
 rw[zn,Ng]
 refine AWp.meetA (σ:=Unit) ⟨λ_=>[(3,.bx 3 0),(7,.av (blV b g.T.length))],λ_=>[(3,zp g)],λ_ st'=>st'=st.sO b (.cells (il g.T.length (Aw (yi g l c))))⟩ ?_ ?_
 ·refine AWp.of_vc zb ?_
  refine I3 g hg l hl hb c _ _ ?_
  refine AWp.loop (σ:=Nat) ⟨λi=>[(3,.bx 3 0),(7,.av (blV b g.T.length)),(19,.av (opV g l c)),(20,.av (int (g.T.length:Nat))),(21,.av (int (i:Nat)))],λ_=>[(3,zp g)],
   λi st'=>i<=g.T.length/\st'=st.sO b (.cells (il g.T.length (Cs (yi g l c) i))),λi=>g.T.length-i⟩ zb ?_ ?_
  ·refine⟨0,Tv,⟨Fag _,?_⟩,⟨Tq,Tq,Tq,?_,Tq,Tv⟩,⟨rfl,Tv⟩⟩
   ·rw[show Cs (yi g l c) 0=λ_=>0 from funext λt=>if_neg (Fa2 t)]
   ·show LV.le (.av (int ((rws jt (blL g.T.length (yi g l c))).length:Nat))) (.av (int (g.T.length:Nat)))
    rw[zn,xj];exact Tq
  rintro i st' ⟨hi,rfl⟩
  refine bcd (λh1=>?_) (λh1=>?_)
  rotate_left
  ·have:i=g.T.length:=by omega
   subst this
   refine⟨(),?_,⟨Tq,Tq,Tv⟩,⟨rfl,Tv⟩⟩
   show st.sO b (.cells (il g.T.length (Cs (yi g l c) g.T.length)))=st.sO b (.cells (il g.T.length (Aw (yi g l c))))
   rw[Gh (f:=Cs (yi g l c) g.T.length) (g:=Aw (yi g l c)) λt ht=>if_pos ht]
  have hlt:i<g.T.length:=by omega
  have ho:(st.sO b (.cells (il g.T.length (Cs (yi g l c) i)))).obj b=some (.cells (il g.T.length (Cs (yi g l c) i))):=zd _ _ _
  have hlt2:i<(blL g.T.length (yi g l c)).length:=by rw[xj];exact hlt
  have s2:∀s,s≠i->Cs (yi g l c) (i+1) s=Cs (yi g l c) i s:=λs hs=>by
   unfold Cs
   by_cases h3:s<i
   ·rw[if_pos h3,if_pos (by omega)]
   ·rw[if_neg h3,if_neg (by omega)]
  have s1:Cs (yi g l c) (i+1) i=Aw (yi g l c) i:=if_pos (by omega)
  refine⟨i,rfl,za _ (zm hlt2) ?_⟩
  refine zh (λc1=>?_) (λc1=>?_)
  ·rw[Bb hlt]at c1
   refine⟨i,rfl,hlt,?_⟩
   refine yj (i:=ti2) (v:=int 128) (b:=b) (o:=0+i*1) (l:=_) (st2:=st.sO b (.cells (il g.T.length (Cs (yi g l c) (i+1))))) rfl rfl rfl ho (by rw[qx];omega) ?_ ?_
   ·rw[yp,show 0+i*1=i by omega,<-sn hlt _ s2,s1]
    unfold Aw
    rw[if_pos c1]
   refine Qd ?_
   refine⟨i+1,?_,⟨by omega,rfl⟩,Qbh,⟨rfl,Tv⟩⟩
   show g.T.length-(i+1)<g.T.length-i
   omega
  ·rw[Bb hlt]at c1
   refine Qd ?_
   refine⟨i+1,?_,⟨by omega,?_⟩,Qbh,⟨rfl,Tv⟩⟩
   ·show g.T.length-(i+1)<g.T.length-i
    omega
   ·refine congrArg (λf=>st.sO b (.cells (il g.T.length f))) (funext λs=>?_)
    by_cases h3:s=i
    ·subst h3
     rw[s1]
     unfold Aw Cs
     rw[if_neg (by omega),if_neg (by rw[c1];decide)]
    ·exact(s2 s h3).symm
 rintro _ _ rfl
 refine AWp.meetA (σ:=Unit) ⟨λ_=>[(3,.bx 3 0),(7,.av (blV b g.T.length))],λ_=>[(3,zp g)],λ_ st'=>st'=st.sO b (.cells (il g.T.length (wx g (Aw (yi g l c)) g.T.length)))⟩ ?_ ?_
 ·refine AWp.of_vc zb ?_
  refine AWp.loop (σ:=Nat) ⟨λi=>[(3,.bx 3 0),(7,.av (blV b g.T.length)),(32,.av (int (g.T.length:Nat))),(33,.av (int (i:Nat)))],λ_=>[(3,zp g)],
   λi st'=>i<=g.T.length/\st'=st.sO b (.cells (il g.T.length (wx g (Aw (yi g l c)) i))),λi=>g.T.length-i⟩ zb ?_ ?_
  ·exact⟨0,Tv,⟨Fag _,rfl⟩,Qbh,⟨rfl,Tv⟩⟩
  rintro i st' ⟨hi,rfl⟩
  refine bcd (λh1=>?_) (λh1=>?_)
  rotate_left
  ·have:i=g.T.length:=by omega
   subst this
   exact⟨(),rfl,⟨Tq,Tq,Tv⟩,⟨rfl,Tv⟩⟩
  have hlt:i<g.T.length:=by omega
  refine⟨by decide,?_⟩
  refine od g hg (wx g (Aw (yi g l c)) i) (Vi hg (oq _ _) i hi) i hlt Lc fwd_ok (by decide) b _ _ ?_
  refine Qd ?_
  refine⟨i+1,?_,⟨by omega,rfl⟩,Qbh,⟨rfl,Tv⟩⟩
  show g.T.length-(i+1)<g.T.length-i
  omega
 rintro _ _ rfl
 have hbA:=Vi hg (oq (yi g l c) g.T.length) g.T.length (Faj _)
 have hroom:Dg g (yi g l c)=Bi g (wx g (Aw (yi g l c)) g.T.length) g.T.length g.T.length:=rfl
 generalize wx g (Aw (yi g l c)) g.T.length=FA at*
 refine AWp.meetA (σ:=Unit) ⟨λ_=>[(7,.av (blV b g.T.length))],λ_=>[],λ_ st'=>st'=st.sO b (.cells (il g.T.length (Dg g (yi g l c))))⟩ ?_ ?_
 ·refine AWp.of_vc zb ?_
  refine Qd ?_
  refine AWp.loop (σ:=Nat) ⟨λj=>[(3,.bx 3 0),(7,.av (blV b g.T.length)),(11,.av (int ((g.T.length:Int)-1-(j:Nat))))],λ_=>[(3,zp g)],
   λj st'=>j<=g.T.length/\st'=st.sO b (.cells (il g.T.length (Bi g FA g.T.length j))),λj=>g.T.length-j⟩ zb ?_ ?_
  ·refine⟨0,Tv,⟨Fag _,rfl⟩,⟨Tq,Tq,?_,Tv⟩,⟨rfl,Tv⟩⟩
   rw[show(g.T.length:Int)-1-((0:Nat):Int)=(g.T.length:Int)-1 by omega];exact Tq
  rintro j st' ⟨hj,rfl⟩
  refine bcd (λh1=>?_) (λh1=>?_)
  rotate_left
  ·have:j=g.T.length:=by omega
   subst this
   exact⟨(),by rw[hroom],⟨Tq,Tv⟩,Tv⟩
  have hlt:j<g.T.length:=by omega
  refine⟨by decide,?_⟩
  refine ACalls.le (ys:=[.agg (zp g),blV b g.T.length,int ((g.T.length-1-j:Nat):Int),lst 2 H1 I4]) ⟨Tt,Tt,by rw[show(g.T.length:Int)-1-(j:Int)=((g.T.length-1-j:Nat):Int) by omega];exact Tt,Tt,Tv⟩ ?_
  refine od g hg (Bi g FA g.T.length j) (ig hg hbA j hj) (g.T.length-1-j) (by omega) I4 bwd_ok (by decide) b _ _ ?_
  refine Qd ?_
  refine⟨j+1,?_,⟨by omega,rfl⟩,⟨Tq,Tq,?_,Tv⟩,⟨rfl,Tv⟩⟩
  ·show g.T.length-(j+1)<g.T.length-j
   omega
  ·rw[show(g.T.length:Int)-1-((j+1:Nat):Int)=(g.T.length:Int)-1-(j:Nat)-1 by omega];exact Tq
 rintro _ _ rfl
 refine AWp.freeze (d:=7) (b:=b) (k:=1) (n:=g.T.length) (cap:=g.T.length) (rows:=rws yh (ilL g.T.length (Dg g (yi g l c)))) (pad:=[]) rfl ?_ ?_ ?_ (Faj _) ?_ ?_ ?_
 ·rw[Fbv,sq];exact zd _ _ _
 ·exact hf.2
 ·rw[zn,Ds]
 ·intro row hr
  obtain⟨x,_,rfl⟩:=Fae.1 hr
  rfl
 ·intro row hr y hy
  obtain⟨x,_,rfl⟩:=Fae.1 hr
  simp[yh]at hy
  exact⟨_,hy,rfl⟩
 rw[Hp hf.1]
 refine AWp.of_vc zb ?_
 exact ret h
theorem Qah{p:Prop}(h:p:=by repeat(first|exact Tv|refine⟨rfl,?_⟩|refine⟨⟨i,rfl,hlt,rfl⟩,?_⟩|refine⟨za (o:=List.head? _) _ hx5 rfl,?_⟩|refine⟨za (o:=List.head? _) _ hx6 rfl,?_⟩|refine⟨ze (by omega) rfl,?_⟩|refine⟨⟨by omega,rfl⟩,?_⟩)):p:=h
def kr(g:Gnd)(l:List Bld)(c s:Int)(i t:Nat):Bool:=if t<i then zj g l c s t else false
theorem ybu(g:Gnd)(hg:zr g)(l:List Bld)(hl:l.length<=1000000000000)(hb:∀b∈l,yg b/\onP g b)(c s:Int)(hs:0<=s/\s<=3)(st:Store)(R:Ja)(h:R (C6 g l c s) st):
  Jb 279 [.agg (zp g),lst 6 zk l,int c,int s] st R:=by
 have ha:=qe hg
 refine Qb (c:=cfg 34) zb Tryz.func279 ?_
 refine AWp.seq (AWp.of_vc zb ?_)
 refine AWp.seq (AWp.of_vc zb ?_)
 refine Bt rfl (it:=ti60) (ie:=ti4) rfl rfl rfl rfl rfl (n:=(rws u8C g.T).length) ?_ ?_ (λb hf=>?_)
 ·rw[zn];show 1*_<=_;omega
 ·rw[zn];omega
 rw[zn,Ht]
 refine AWp.meetA (σ:=Unit) ⟨λ_=>[(9,.av (blV b g.T.length))],λ_=>[],λ_ st'=>st'=st.sO b (.cells (bl g.T.length (zj g l c s)))⟩ ?_ ?_
 ·refine AWp.of_vc zb ?_
  refine zt0 g hg l hl hb c _ _ ?_
  refine AWp.loop (σ:=Nat) ⟨λi=>[(3,.av (int s)),(9,.av (blV b g.T.length)),(19,.av (my g l c)),(20,.av (int (g.T.length:Nat))),(21,.av (int (i:Nat)))],λ_=>[],
   λi st'=>i<=g.T.length/\st'=st.sO b (.cells (bl g.T.length (kr g l c s i))),λi=>g.T.length-i⟩ zb ?_ ?_
  ·refine⟨0,Tv,⟨Fag _,?_⟩,⟨Tq,Tq,Tq,?_,Tq,Tv⟩,Tv⟩
   ·rw[show kr g l c s 0=λ_=>false from funext λt=>if_neg (Fa2 t)]
   ·show LV.le (.av (int ((rws yh (ilL g.T.length (Dg g (yi g l c)))).length:Nat))) (.av (int (g.T.length:Nat)))
    rw[zn,Ds];exact Tq
  rintro i st' ⟨hi,rfl⟩
  refine bcd (λh1=>?_) (λh1=>?_)
  rotate_left
  ·have:i=g.T.length:=by omega
   subst this
   refine⟨(),?_,⟨Tq,Tv⟩,Tv⟩
   show st.sO b (.cells (bl g.T.length (kr g l c s g.T.length)))=st.sO b (.cells (bl g.T.length (zj g l c s)))
   rw[dr (f:=kr g l c s g.T.length) (g:=zj g l c s) λt ht=>if_pos ht]
  have hlt:i<g.T.length:=by omega
  have ho:(st.sO b (.cells (bl g.T.length (kr g l c s i)))).obj b=some (.cells (bl g.T.length (kr g l c s i))):=zd _ _ _
  have hlt2:i<(ilL g.T.length (Dg g (yi g l c))).length:=by rw[Ds];exact hlt
  have s2:∀q,q≠i->kr g l c s (i+1) q=kr g l c s i q:=λq hq=>by
   unfold kr
   by_cases h3:q<i
   ·rw[if_pos h3,if_pos (by omega)]
   ·rw[if_neg h3,if_neg (by omega)]
  have s1:kr g l c s (i+1) i=zj g l c s i:=if_pos (by omega)
  refine⟨i,rfl,za _ (zm hlt2) ?_⟩
  refine⟨i,rfl,hlt,?_⟩
  refine yj (i:=ti4) (v:=V.bool (decide (s<(ilL g.T.length (Dg g (yi g l c)))[i]))) (b:=b) (o:=0+i*1) (l:=_) (st2:=st.sO b (.cells (bl g.T.length (kr g l c s (i+1))))) rfl rfl rfl ho (by rw[ku];omega) ?_ ?_
  ·rw[yp,show 0+i*1=i by omega,<-Dw hlt _ s2,s1,ss hlt,yal hg l c hs hlt]
  refine Qd ?_
  refine⟨i+1,?_,⟨by omega,rfl⟩,Qbh,Tv⟩
  show g.T.length-(i+1)<g.T.length-i
  omega
 rintro _ _ rfl
 refine AWp.freeze (d:=9) (b:=b) (k:=1) (n:=g.T.length) (cap:=g.T.length) (rows:=rws jt (blL g.T.length (zj g l c s))) (pad:=[]) rfl ?_ ?_ ?_ (Faj _) ?_ ?_ ?_
 ·rw[Mw];exact zd _ _ _
 ·exact hf.2
 ·rw[zn,xj]
 ·intro row hr
  obtain⟨x,_,rfl⟩:=Fae.1 hr
  rfl
 ·intro row hr y hy
  obtain⟨x,_,rfl⟩:=Fae.1 hr
  simp[jt]at hy
  exact⟨_,hy,rfl⟩
 rw[Hp hf.1]
 refine AWp.of_vc zb ?_
 exact ret h
def xo(g:Gnd)(l:List Bld)(c s:Int):List AV:=zp g++[int c,C6 g l c s]
theorem bp(g:Gnd)(hg:zr g)(l:List Bld)(hl:l.length<=1000000000000)(hb:∀b∈l,yg b/\onP g b)(c s:Int)(hs:0<=s/\s<=3)(st:Store)(R:Ja)(h:∀b,Fresh st b->R (ptr b) (st.sO b (.cells (xo g l c s)))):
  Jb 269 [.agg (zp g),lst 6 zk l,int c,int s] st R:=by
 refine Qa (c:=cfg 18 [17] []) zb Tryz.func269 ?_
 refine Qc zb zq5 ?_
 refine⟨ybu g hg l hl hb c s hs _ _ ⟨Qe,?_⟩,Tv⟩
 refine⟨λb hf=>⟨Qe,?_⟩,Tv⟩
 refine Qbl ?_
 exact ret (h b hf)
theorem Mn(g:Gnd)(hg:zr g)(t:Nat)(ht:t<g.T.length)(st:Store)(R:Ja)(h:R (qn (jc g t)) st):Jb 52 [.agg (zp g),int t] st R:=by
 have hm:=qe hg
 have htb:=Bw hg (t:=t) (by omega)
 have hq:=D4 (t:=t) hg.1.1
 have hq2:=D5 (t:=t) hg.1.1
 have hg1:=hg.1
 have hg2:=hg.2.1
 unfold jc at h
 generalize(t:Int)%g.W=x at*
 generalize(t:Int)/g.W=y at*
 have hd:∀i,(hi:i<8)->-1<=(dirL[i]'hi).1/\(dirL[i]'hi).1<=1/\-1<=(dirL[i]'hi).2/\(dirL[i]'hi).2<=1:=by decide
 refine Qa (c:=cfg 64) zb Tryz.func52 ?_
 refine AWp.loop (σ:=Nat×AV) ⟨λs=>[(1,.av (int (t:Nat))),(2,.bx 2 0),(5,.bx 5 0),(6,.bx 6 0),(7,.av s.2),(8,.av (int (s.1:Nat)))],λ_=>[(2,zp g),(5,dirL.map λd=>int d.1),(6,dirL.map λd=>int d.2)],
  λs st'=>s.1<=8/\App 1 st s.2 (rws yh ((dirL.take s.1).map (vg g x y))) st',λs=>8-s.1⟩ zb ?_ ?_
 ·exact⟨(0,_),Tv,⟨Fag _,App.start 1 st⟩,⟨Tq,Tq,Tq,Tq,Tq,Tq,Tv⟩,⟨rfl,rfl,rfl,Tv⟩⟩
 rintro⟨i,v⟩ st' ⟨hi,ha⟩
 dsimp only at hi ha⊢
 refine bcd (λh1=>?_) (λh1=>?_)
 rotate_left
 ·have:i=8:=by omega
  subst this
  exact⟨_,st,AV.le_trans ha.le (Tt),ha.has,h⟩
 have hlt:i<8:=by omega
 have hdi:=hd i hlt
 have hx5:((dirL.map λd=>int d.1).drop (0+i*1)).head?=some (int (dirL[i]'hlt).1):=by
  rw[Fb2,show 0+i*1=i by omega,Faq,Fab hlt];rfl
 have hx6:((dirL.map λd=>int d.2).drop (0+i*1)).head?=some (int (dirL[i]'hlt).2):=by
  rw[Fb2,show 0+i*1=i by omega,Faq,Fab hlt];rfl
 have hstep:(dirL.take (i+1)).map (vg g x y)=(dirL.take i).map (vg g x y)++[vg g x y (dirL[i]'hlt)]:=by
  rw[Fac hlt,Fbk];rfl
 have hlen:((dirL.take i).map (vg g x y)).length<=8:=by rw[Fa4,Fao];exact Nat.min_le_right _ _
 have hna:vg g x y (dirL[i]'hlt)=if onG g (x+(dirL[i]'hlt).1) (y+(dirL[i]'hlt).2)then x+(dirL[i]'hlt).1+g.W*(y+(dirL[i]'hlt).2)else -1:=rfl
 generalize hD:dirL[i]'hlt=d at*
 refine Qc zb zqf ?_
 refine⟨by omega,?_⟩
 refine⟨i,rfl,hlt,?_⟩
 refine za _ hx5 ?_
 refine Qd ?_
 refine⟨by omega,?_⟩
 refine Qd ?_
 refine⟨i,rfl,hlt,?_⟩
 refine za _ hx6 ?_
 refine Qd ?_
 refine⟨⟨Qah,?_⟩,Tv⟩
 refine⟨⟨Qah,?_⟩,Tv⟩
 rw[hq,hq2]
 have app:∀z,z=vg g x y d->∀v2 st2,App 1 st v2 (rws yh ((dirL.take i).map (vg g x y))++[yh z]) st2->App 1 st v2 (rws yh ((dirL.take (i+1)).map (vg g x y))) st2:=λz hz v2 st2 h2=>by
  rw[hstep,<-l9]
  subst hz
  exact h2
 have out:¬onG g (x+d.1) (y+d.2)->vg g x y d=-1:=λhn=>by rw[hna,if_neg hn]
 have rest:∀{Q:Ja},(∀v2 st2,App 1 st v2 (rws yh ((dirL.take (i+1)).map (vg g x y))) st2->Q v2 st2)->¬onG g (x+d.1) (y+d.2)->appendK Tryz.prog (cfg 64) st' 3 (.av v) (.av (.lst 1 [[int (-1)]] none)) Q:=λhQ hn=>
  Fu (ie:=ti2) (rows':=[yh (-1)]) ha rfl rfl ⟨by simp only[zn,Fas,ti2];omega,by simp only[zn,Fas];omega⟩ (λv2 st2 h2=>hQ v2 st2 (app (-1) (out hn).symm v2 st2 h2))
 have next:∀v2 st2,App 1 st v2 (rws yh ((dirL.take (i+1)).map (vg g x y))) st2->∃s:Nat×AV,8-s.1<8-i/\(s.1<=8/\App 1 st s.2 (rws yh ((dirL.take s.1).map (vg g x y))) st2)/\s=(i+1,v2):=λv2 st2 h2=>⟨(i+1,v2),by dsimp only;omega,⟨by dsimp only;omega,h2⟩,rfl⟩
 refine bcd (λc1=>?_) (λc1=>?_)
 ·refine⟨by decide,?_⟩
  refine rest (λv2 st2 h2=>?_) (λhh=>by have:=hh.1.1;omega)
  obtain⟨s,f1,f2,rfl⟩:=next v2 st2 h2
  refine Qd ?_
  exact⟨(i+1,v2),f1,f2,Qbh,⟨rfl,rfl,rfl,Tv⟩⟩
 refine bcd (λc2=>?_) (λc2=>?_)
 ·refine⟨by decide,?_⟩
  refine rest (λv2 st2 h2=>?_) (λhh=>by have:=hh.1.2;omega)
  obtain⟨s,f1,f2,rfl⟩:=next v2 st2 h2
  refine Qd ?_
  exact⟨(i+1,v2),f1,f2,Qbh,⟨rfl,rfl,rfl,Tv⟩⟩
 refine bcd (λc3=>?_) (λc3=>?_)
 ·refine⟨by decide,?_⟩
  refine rest (λv2 st2 h2=>?_) (λhh=>by have:=hh.2.1;omega)
  obtain⟨s,f1,f2,rfl⟩:=next v2 st2 h2
  refine Qd ?_
  exact⟨(i+1,v2),f1,f2,Qbh,⟨rfl,rfl,rfl,Tv⟩⟩
 refine bcd (λc4=>?_) (λc4=>?_)
 ·refine⟨by decide,?_⟩
  refine rest (λv2 st2 h2=>?_) (λhh=>by have:=hh.2.2;omega)
  obtain⟨s,f1,f2,rfl⟩:=next v2 st2 h2
  refine Qd ?_
  exact⟨(i+1,v2),f1,f2,Qbh,⟨rfl,rfl,rfl,Tv⟩⟩
 have hon:onG g (x+d.1) (y+d.2):=⟨⟨by omega,by omega⟩,by omega,by omega⟩
 obtain⟨e1,e2,_,_⟩:=Cl hg hon
 have hpos:0<=g.W*(y+d.2):=Fax (by omega) (by omega)
 refine Qd ?_
 refine Qd ?_
 refine⟨by decide,?_⟩
 refine Fu (ie:=ti2) (rows':=[yh (x+d.1+g.W*(y+d.2))]) ha ?_ ?_ ⟨?_,?_⟩ (λv2 st2 h2=>?_)
 ·rfl
 ·rfl
 ·simp only[zn,Fas,ti2];omega
 ·simp only[zn,Fas];omega
 obtain⟨s,f1,f2,rfl⟩:=next v2 st2 (app _ (by rw[hna,if_pos hon]) v2 st2 h2)
 refine Qd ?_
 exact⟨(i+1,v2),f1,f2,Qbh,⟨rfl,rfl,rfl,Tv⟩⟩
theorem Qai{p:Prop}(h:p:=by rw[ku];omega):p:=h
def inV(g:Gnd)(o:Nat->Bool)(r:Nat):AV:=lst 1 jt (blL g.T.length (sqT g o r))
def gS(st:Store)(g:Gnd)(bn bx:Nat)(f:Nat->Int)(nx:Nat->Bool):Store:=(st.sO bn (.cells (il g.T.length f))).sO bx (.cells (bl g.T.length nx))
theorem zud(g:Gnd)(hg:zr g)(l:List Bld)(hl:l.length<=1000000000000)(hb:∀b∈l,yg b/\onP g b)(c:Int)(hc:c=0\/c=1\/c=2)(st:Store)(R:Ja)
  (h:∀f,Rc g (yi g l c) f->R (lst 1 yh (ilL g.T.length f)) st):Jb 63 [.agg (zp g),lst 6 zk l,int c] st R:=by
 have ha:=qe hg
 refine Qb (c:=cfg 79) zb Tryz.func63 ?_
 refine AWp.seq (AWp.of_vc zb ?_)
 refine AWp.seq (AWp.of_vc zb ?_)
 refine mv g hg l hl hb c hc _ _ ?_
 generalize ho:yi g l c=o at*
 have hopV:opV g l c=inV g o 0:=by
  unfold opV inV
  rw[ho,yew λt ht=>(zn1 hg o ht).symm]
 refine AWp.seq (AWp.of_vc zb ?_)
 refine Bt rfl (it:=ti29) (ie:=ti2) rfl rfl rfl rfl rfl (n:=(rws jt (blL g.T.length (yi g l c))).length) ?_ ?_ (λbn hfn=>?_)
 ·rw[zn,xj];show 8*_<=_;omega
 ·rw[zn,xj];omega
 rw[zn,xj,Ng]
 refine AWp.meetA (σ:=Nat->Int) ⟨λ_=>[(8,.av (blV bn g.T.length))],λ_=>[],λf st'=>Rc g o f/\st'=st.sO bn (.cells (il g.T.length f))⟩ ?_ ?_
 ·refine AWp.seq (AWp.of_vc zb ?_)
  refine AWp.block ?_
  refine AWp.loopA (σ:=Nat×Bool×(Nat->Int)) ⟨λs=>[(3,.bx 3 0),(7,.av (inV g o s.1)),(8,.av (blV bn g.T.length)),(9,.av (V.bool s.2.1))],λ_=>[(3,zp g)],
   λs st'=>st'=st.sO bn (.cells (il g.T.length s.2.2))/\C0 g o s.1 0 s.2.2/\s.1<=64/\(s.2.1=true->s.1<=63)/\(s.2.1=false->∀t,t<g.T.length->sqT g o s.1 t=false),λs=>200-s.1⟩ ?_ ?_
  ·refine⟨(0,true,λ_=>0),Tv,⟨rfl,yab g o,by decide,λ_=>by decide,λhh=>by cases hh⟩,⟨Tq,?_,Tq,Tq,Tv⟩,⟨rfl,Tv⟩⟩
   dsimp only
   rw[<-hopV];exact Tq
  rintro⟨r,left,f⟩ st' ⟨rfl,hgp,hr,hl1,hl2⟩
  dsimp only at hgp hr hl1 hl2⊢
  refine AWp.seq (AWp.of_vc zb ?_)
  refine zh (λc1=>?_) (λc1=>?_)
  rotate_left
  ·exact⟨f,⟨yaf hgp (hl2 c1),rfl⟩,⟨Tq,Tv⟩,Tv⟩
  have hr63:=hl1 c1
  refine AWp.block ?_
  refine AWp.seq (AWp.of_vc zb ?_)
  refine AWp.seq (AWp.of_vc zb ?_)
  refine Bt rfl (it:=ti60) (ie:=ti4) rfl rfl rfl rfl rfl (n:=(rws jt (blL g.T.length (sqT g o r))).length) ?_ ?_ (λbx hfx=>?_)
  ·rw[zn,xj];show 1*_<=_;omega
  ·rw[zn,xj];omega
  rw[zn,xj,Ht]
  have hne:bx≠bn:=λe=>by
   have:=hfx.1
   rw[e,zd]at this
   cases this
  refine AWp.meetA (σ:=Nat->Int) ⟨λ_=>[(3,.bx 3 0),(8,.av (blV bn g.T.length)),(9,.av (V.bool (Ca g o r g.T.length))),(10,.av (blV bx g.T.length))],λ_=>[(3,zp g)],
   λf st'=>C0 g o (r+1) 0 f/\st'=gS st g bn bx f (sqT g o (r+1))⟩ ?_ ?_
  ·refine AWp.of_vc zb ?_
   refine AWp.loop (σ:=Nat×(Nat->Int)) ⟨λs=>[(3,.bx 3 0),(7,.av (inV g o r)),(8,.av (blV bn g.T.length)),(9,.av (V.bool (Ca g o r s.1))),(10,.av (blV bx g.T.length)),(11,.av (int (s.1:Nat)))],λ_=>[(3,zp g)],
    λs st'=>s.1<=g.T.length/\C0 g o r s.1 s.2/\st'=gS st g bn bx s.2 (nxF g o r s.1 false),λs=>g.T.length-s.1⟩ zb ?_ ?_
   ·exact⟨(0,f),Tv,⟨Fag _,hgp,by unfold gS;rw[zw4]⟩,Qbh,⟨rfl,Tv⟩⟩
   rintro⟨t,f1⟩ st' ⟨ht,hgp1,rfl⟩
   dsimp only at ht hgp1⊢
   refine bcd (λh1=>?_) (λh1=>?_)
   rotate_left
   ·rw[zn,xj]at h1
    have:t=g.T.length:=by omega
    subst this
    refine⟨f1,⟨yae hgp1,?_⟩,Qbh,⟨rfl,Tv⟩⟩
    unfold gS
    rw[dr (zw6 g o r g.T.length)]
   rw[zn,xj]at h1
   have hlt:t<g.T.length:=by omega
   have hlt2:t<(blL g.T.length (sqT g o r)).length:=by rw[xj];exact hlt
   have hsn:=zn3 hg (o:=o) (r:=r) hlt
   have hls:=zyv g o r t
   refine⟨t,rfl,za _ (zm hlt2) ?_⟩
   rw[Bb hlt]
   refine yd ?_
   refine zh (λc2=>?_) (λc2=>?_)
   rotate_left
   ·rw[c2,Fee]at hsn
    refine Qd ?_
    refine⟨(t+1,f1),?_,⟨by dsimp only;omega,yad hgp1 c2,?_⟩,⟨Tq,Tq,Tq,?_,Tq,Tq,Tv⟩,⟨rfl,Tv⟩⟩
    ·show g.T.length-(t+1)<g.T.length-t
     omega
    ·show gS st g bn bx f1 (nxF g o r t false)=gS st g bn bx f1 (nxF g o r (t+1) false)
     rw[<-o7,hsn]
    ·show LV.le (.av (V.bool (Ca g o r t))) (.av (V.bool (Ca g o r (t+1))))
     rw[hls,hsn,Fep];exact Tq
   rw[c2,Ffb]at hsn
   have hgp2:=yac hgp1 hlt c2
   have hfb:=yag hgp1 hlt
   have hon:(gS st g bn bx f1 (nxF g o r t false)).obj bn=some (.cells (il g.T.length f1)):=(zi (Ne.symm hne)).trans (zd _ _ _)
   refine⟨t,rfl,hlt,?_⟩
   refine za _ hon (za _ (jx hlt) ?_)
   refine Qd ?_
   refine⟨t,rfl,hlt,?_⟩
   refine yj (i:=ti2) (v:=int (f1 t+1)) (b:=bn) (o:=0+t*1) (l:=il g.T.length f1) (st2:=gS st g bn bx (setI f1 t (f1 t+1)) (nxF g o r t false)) rfl rfl rfl hon (by rw[qx];omega) ?_ ?_
   ·unfold gS
    rw[Ia (Ne.symm hne),yp,show 0+t*1=t by omega,Gg hlt]
   generalize setI f1 t (f1 t+1)=f2 at*
   have hx:∀v,(gS st g bn bx f2 (nxF g o r t v)).obj bx=some (.cells (bl g.T.length (nxF g o r t v))):=λv=>zd _ _ _
   have hst:∀v u,(gS st g bn bx f2 (nxF g o r t v)).sO bx (.cells (zu (bl g.T.length (nxF g o r t v)) (0+t*1) [V.bool u]))=gS st g bn bx f2 (nxF g o r t u):=λv u=>by
    have:=Dw (f:=nxF g o r t v) hlt (nxF g o r t u) (λs hs=>zw5 g o r t u v hs)
    rw[o8]at this
    unfold gS
    rw[yp,show 0+t*1=t by omega,this]
   refine⟨t,rfl,hlt,?_⟩
   refine yj (i:=ti4) (v:=V.bool true) (b:=bx) (o:=0+t*1) (l:=bl g.T.length (nxF g o r t false)) (st2:=gS st g bn bx f2 (nxF g o r t true)) rfl rfl rfl (hx _) Qai (hst _ _) ?_
   refine Mn g hg t hlt _ _ ?_
   have hnb:∀i,(hi:i<(jc g t).length)->(jc g t)[i]=-1\/∃m:Nat,(jc g t)[i]=m/\m<g.T.length:=λi hi=>pj hg (Faa hi)
   have hn8:=Ik g t
   generalize hN:jc g t=N at*
   refine AWp.loop (σ:=Nat) ⟨λi=>[(3,.bx 3 0),(7,.av (inV g o r)),(8,.av (blV bn g.T.length)),(9,.av (V.bool (Ca g o r t))),(10,.av (blV bx g.T.length)),(11,.av (int (t:Nat))),(12,.av (qn N)),(13,.av (int (i:Nat)))],λ_=>[(3,zp g)],
    λi st'=>i<=8/\st'=gS st g bn bx f2 (nxF g o r t ((N.take i).all (okB g o r))),λi=>8-i⟩ zb ?_ ?_
   ·exact⟨0,Tv,⟨Fag _,by rw[Fc8];rfl⟩,Qbh,⟨rfl,Tv⟩⟩
   rintro i st' ⟨hi,rfl⟩
   refine bcd (λh2=>?_) (λh2=>?_)
   rotate_left
   ·have:i=8:=by omega
    subst this
    have htk:N.take 8=N:=by rw[<-hn8,Fap]
    rw[htk,<-hsn]
    have fin:∀b9:AV,b9=V.bool (Ca g o r (t+1))->LV.le (.av b9) (.av (V.bool (Ca g o r (t+1)))):=λb9 e=>by rw[e];exact Tq
    have eS:gS st g bn bx f2 (nxF g o r t (sqT g o (r+1) t))=gS st g bn bx f2 (nxF g o r (t+1) false):=by rw[o7]
    have hx9:=hx (sqT g o (r+1) t)
    have hdec:g.T.length-(t+1)<g.T.length-t:=by omega
    refine zh (λc3=>?_) (λc3=>?_)
    ·refine Qd ?_
     exact⟨(t+1,f2),hdec,⟨by dsimp only;omega,hgp2,eS⟩,⟨Tq,Tq,Tq,fin _ (by rw[hls,c3,Bool.true_or];rfl),Tq,Tq,Tv⟩,⟨rfl,Tv⟩⟩
    ·refine⟨t,rfl,hlt,?_⟩
     refine za _ hx9 (za _ (R0 hlt) ?_)
     refine Qd ?_
     exact⟨(t+1,f2),hdec,⟨by dsimp only;omega,hgp2,eS⟩,⟨Tq,Tq,Tq,fin _ (by rw[hls,c3,Fd9,o8]),Tq,Tq,Tv⟩,⟨rfl,Tv⟩⟩
   have hi8:i<N.length:=by omega
   have hal:(N.take (i+1)).all (okB g o r)=((N.take i).all (okB g o r)&&okB g o r N[i]):=by
    rw[Fac hi8,List.all_append]
    simp
   have hx9:=hx ((N.take i).all (okB g o r))
   have hst9:=hst ((N.take i).all (okB g o r)) false
   have hdec:8-(i+1)<8-i:=by omega
   refine⟨i,rfl,za _ (zm hi8) ?_⟩
   refine bcd (λc3=>?_) (λc3=>?_)
   ·have hok:okB g o r N[i]=false:=by
     unfold okB
     rw[decide_eq_false (by omega),Fee]
    rw[hok,Fe2]at hal
    refine⟨t,rfl,hlt,?_⟩
    refine yj (i:=ti4) (v:=V.bool false) (b:=bx) (o:=0+t*1) (l:=_) (st2:=gS st g bn bx f2 (nxF g o r t false)) rfl rfl rfl hx9 Qai hst9 ?_
    refine Qd ?_
    exact⟨i+1,hdec,⟨by omega,by rw[hal]⟩,Qbh,⟨rfl,Tv⟩⟩
   rcases hnb i hi8 with q|⟨m,q1,q2⟩
   ·omega
   have hm2:m<(blL g.T.length (sqT g o r)).length:=by rw[xj];exact q2
   have hok:okB g o r N[i]=sqT g o r m:=by
    unfold okB
    rw[decide_eq_true (by omega),Ffb,q1,Fa0]
   refine⟨i,rfl,za _ (zm hi8) ?_⟩
   refine⟨m,q1,za _ (zm hm2) ?_⟩
   rw[Bb q2]
   refine yd ?_
   refine zh (λc4=>?_) (λc4=>?_)
   ·rw[hok,c4,Bool.and_true]at hal
    refine Qd ?_
    exact⟨i+1,hdec,⟨by omega,by rw[hal]⟩,Qbh,⟨rfl,Tv⟩⟩
   ·rw[hok,c4,Fe2]at hal
    refine⟨t,rfl,hlt,?_⟩
    refine yj (i:=ti4) (v:=V.bool false) (b:=bx) (o:=0+t*1) (l:=_) (st2:=gS st g bn bx f2 (nxF g o r t false)) rfl rfl rfl hx9 Qai hst9 ?_
    refine Qd ?_
    exact⟨i+1,hdec,⟨by omega,by rw[hal]⟩,Qbh,⟨rfl,Tv⟩⟩
  ·rintro f3 _ ⟨hq,rfl⟩
   have hb3:=hq
   have hfb:(st.sO bn (.cells (il g.T.length f3))).obj bx=none:=by rw[zi hne];have:=hfx.1;rwa [zi hne]at this
   refine AWp.freeze (d:=10) (b:=bx) (k:=1) (n:=g.T.length) (cap:=g.T.length) (rows:=rws jt (blL g.T.length (sqT g o (r+1)))) (pad:=[]) rfl ?_ ?_ ?_ (Faj _) ?_ ?_ ?_
   ·rw[Mw];exact zd _ _ _
   ·exact hfx.2
   ·rw[zn,xj]
   ·intro row hr
    obtain⟨x,_,rfl⟩:=Fae.1 hr
    rfl
   ·intro row hr y hy
    obtain⟨x,_,rfl⟩:=Fae.1 hr
    simp[jt]at hy
    exact⟨_,hy,rfl⟩
   unfold gS
   rw[Hp hfb]
   refine AWp.of_vc zb ?_
   refine⟨(r+1,Ca g o r g.T.length,f3),?_,⟨rfl,hq,by dsimp only;omega,λhh=>?_,λhh=>?_⟩,Qbh,⟨rfl,Tv⟩⟩
   ·show 200-(r+1)<200-r
    omega
   ·dsimp only at hh⊢
    unfold Ca at hh
    obtain⟨t,_,ht2⟩:=Fd2.1 hh
    exact zn2 hg ht2
   ·dsimp only at hh⊢
    unfold Ca at hh
    rw[Fdc]at hh
    intro t ht
    exact Bool.eq_false_iff.2 (hh t (Fbc.2 ht))
 ·rintro f _ ⟨hq,rfl⟩
  refine AWp.freeze (d:=8) (b:=bn) (k:=1) (n:=g.T.length) (cap:=g.T.length) (rows:=rws yh (ilL g.T.length f)) (pad:=[]) rfl ?_ ?_ ?_ (Faj _) ?_ ?_ ?_
  ·rw[Fbv,sq];exact zd _ _ _
  ·exact hfn.2
  ·rw[zn,Ds]
  ·intro row hr
   obtain⟨x,_,rfl⟩:=Fae.1 hr
   rfl
  ·intro row hr y hy
   obtain⟨x,_,rfl⟩:=Fae.1 hr
   simp[yh]at hy
   exact⟨_,hy,rfl⟩
  rw[Hp hfn.1]
  refine AWp.of_vc zb ?_
  exact ret (h f hq)
theorem V1(g:Gnd)(hg:zr g)(l:List Bld)(hl:l.length<=1000000000000)(hb:∀b∈l,yg b/\onP g b)(c:Int)(hc:c=0\/c=1\/c=2)(s:Int)(hs:0<=s)(st:Store)(R:Ja)(h:R (C6 g l c s) st):
  Jb 27 [.agg (zp g),lst 6 zk l,int c,int s] st R:=by
 have ha:=qe hg
 refine Qb (c:=cfg 35) zb Tryz.func27 ?_
 refine AWp.seq (AWp.of_vc zb ?_)
 refine AWp.seq (AWp.of_vc zb ?_)
 refine zud g hg l hl hb c hc _ _ (λf hq=>?_)
 refine AWp.seq (AWp.of_vc zb ?_)
 refine Bt rfl (it:=ti60) (ie:=ti4) rfl rfl rfl rfl rfl (n:=(rws yh (ilL g.T.length f)).length) ?_ ?_ (λb hf=>?_)
 ·rw[zn,Ds];show 1*_<=_;omega
 ·rw[zn,Ds];omega
 rw[zn,Ds,Ht]
 refine AWp.meetA (σ:=Unit) ⟨λ_=>[(10,.av (blV b g.T.length))],λ_=>[],λ_ st'=>st'=st.sO b (.cells (bl g.T.length (zj g l c s)))⟩ ?_ ?_
 ·refine AWp.of_vc zb ?_
  refine AWp.loop (σ:=Nat) ⟨λi=>[(3,.av (int s)),(9,.av (lst 1 yh (ilL g.T.length f))),(10,.av (blV b g.T.length)),(11,.av (int (i:Nat)))],λ_=>[],
   λi st'=>i<=g.T.length/\st'=st.sO b (.cells (bl g.T.length (kr g l c s i))),λi=>g.T.length-i⟩ zb ?_ ?_
  ·refine⟨0,Tv,⟨Fag _,?_⟩,Qbh,Tv⟩
   rw[show kr g l c s 0=λ_=>false from funext λt=>if_neg (Fa2 t)]
  rintro i st' ⟨hi,rfl⟩
  refine bcd (λh1=>?_) (λh1=>?_)
  rotate_left
  ·rw[zn,Ds]at h1
   have:i=g.T.length:=by omega
   subst this
   refine⟨(),?_,⟨Tq,Tv⟩,Tv⟩
   show st.sO b (.cells (bl g.T.length (kr g l c s g.T.length)))=st.sO b (.cells (bl g.T.length (zj g l c s)))
   rw[dr (f:=kr g l c s g.T.length) (g:=zj g l c s) λt ht=>if_pos ht]
  rw[zn,Ds]at h1
  have hlt:i<g.T.length:=by omega
  have ho:(st.sO b (.cells (bl g.T.length (kr g l c s i)))).obj b=some (.cells (bl g.T.length (kr g l c s i))):=zd _ _ _
  have hlt2:i<(ilL g.T.length f).length:=by rw[Ds];exact hlt
  have s2:∀q,q≠i->kr g l c s (i+1) q=kr g l c s i q:=λq hq=>by
   unfold kr
   by_cases h3:q<i
   ·rw[if_pos h3,if_pos (by omega)]
   ·rw[if_neg h3,if_neg (by omega)]
  have s1:kr g l c s (i+1) i=zj g l c s i:=if_pos (by omega)
  refine⟨i,rfl,za _ (zm hlt2) ?_⟩
  refine⟨i,rfl,hlt,?_⟩
  refine yj (i:=ti4) (v:=V.bool (decide (s<(ilL g.T.length f)[i]))) (b:=b) (o:=0+i*1) (l:=_) (st2:=st.sO b (.cells (bl g.T.length (kr g l c s (i+1))))) rfl rfl rfl ho Qai ?_ ?_
  ·rw[yp,show 0+i*1=i by omega,<-Dw hlt _ s2,s1,ss hlt,yaa hq hs hlt]
  refine Qd ?_
  refine⟨i+1,?_,⟨by omega,rfl⟩,Qbh,Tv⟩
  show g.T.length-(i+1)<g.T.length-i
  omega
 rintro _ _ rfl
 refine AWp.freeze (d:=10) (b:=b) (k:=1) (n:=g.T.length) (cap:=g.T.length) (rows:=rws jt (blL g.T.length (zj g l c s))) (pad:=[]) rfl ?_ ?_ ?_ (Faj _) ?_ ?_ ?_
 ·rw[Mw];exact zd _ _ _
 ·exact hf.2
 ·rw[zn,xj]
 ·intro row hr
  obtain⟨x,_,rfl⟩:=Fae.1 hr
  rfl
 ·intro row hr y hy
  obtain⟨x,_,rfl⟩:=Fae.1 hr
  simp[jt]at hy
  exact⟨_,hy,rfl⟩
 rw[Hp hf.1]
 refine AWp.of_vc zb ?_
 exact ret h
theorem za8{m n:Nat}{p:Prop}(h:m<=n)(k:p):(bif Nat.ble m n then p else False):=by
 have:Nat.ble m n=true:=Nat.ble_eq▸h
 rw[this]
 exact k
theorem zxz(x y:Int)(hx:0<=x)(hx2:x<18446744073709551616)(hy:0<=y)(hy2:y<18446744073709551616)(st:Store)(R:Ja)(h:R (.tup (xk (x*y))) st):
  Jb 301 [u64 x,u64 y] st R:=by
 refine Qa (c:=cfg 30) zb Tryz.func301 ?_
 refine Wq x y hx hx2 hy hy2 _ _ ?_
 exact ret h
theorem nc(v:Int)(n:Nat)(h0:1<=n)(hn:n<=1000000)(st:Store)(R:Ja)(h:∀b,Fresh st b->R (.s (.slice (some ⟨b,0,none⟩) n n)) (st.sO b (.cells (il n λ_=>v)))):
  Jb 286 [lst 1 yh [v],int (n:Nat)] st R:=by
 refine Qa (c:=cfg 48) zb Tryz.func286 ?_
 have w2:IntKind.u64.wrap (n:Int)=n:=jm (by omega) (by omega)
 have w1:IntKind.u64.wrap ((rws yh [v]).length:Nat)=1:=rfl
 show ACalls _ _ [u64 (IntKind.u64.wrap _),u64 (IntKind.u64.wrap (n:Int))] _ _
 rw[w2,w1]
 refine zxz 1 n (by omega) (by omega) (by omega) (by omega) _ _ ?_
 have e1:(1*(n:Int))=n:=Int.one_mul _
 rw[e1]
 have e2:xk (n:Int)=[u64 0,u64 n]:=by
  unfold xk
  rw[Fce (by omega) (by omega),Fdd (by omega) (by omega)]
 rw[e2]
 refine bcd (λc3=>absurd c3 (by omega)) (λc3=>?_)
 refine Qd ?_
 refine Bt rfl (it:=ti29) (ie:=ti2) rfl rfl rfl rfl rfl (n:=n) ?_ ?_ (λb hf=>?_)
 ·show 8*_<=_;omega
 ·omega
 rw[Ng]
 refine zbv rfl rfl rfl rfl (it:=ti29) (ie:=ti2) rfl rfl rfl (src:=lst 1 yh [v]) (SrcN.rows (rows:=rws yh [v]) rfl) (n:=1) (by show 1=min 1 n;omega) (zd _ _ _) (by rw[qx];show 0+1*1<=n;omega) ?_
 rw[yp]
 have e3:zu (il n λ_=>0) 0 (rws yh [v]).flatten=il n (k8 v 1):=by
  show zu (il n λ_=>0) 0 [int v]=_
  rw[Gg (t:=0) (by omega)]
  refine Gh λt ht=>?_
  unfold setI k8
  by_cases h0:t=0
  ·rw[if_pos h0,if_pos (by omega)]
  ·rw[if_neg h0,if_neg (by omega)]
 rw[e3]
 refine AWp.loop (σ:=Nat) ⟨λk=>[(7,.av (.s (.slice (some ⟨b,0,none⟩) n n))),(8,.av (int (k:Nat)))],λ_=>[],
  λk st'=>1<=k/\k<=n/\st'=st.sO b (.cells (il n (k8 v k))),λk=>n-k⟩ zb ?_ ?_
 ·exact⟨1,Tv,⟨Faj _,h0,rfl⟩,⟨Tq,Tq,Tv⟩,Tv⟩
 rintro k st' ⟨hk1,hk,rfl⟩
 refine bcd (λc4=>?_) (λc4=>?_)
 rotate_left
 ·have:k=n:=by omega
  subst this
  rw[sr]
  exact ret (h b hf)
 have hlt:k<n:=by omega
 have hb:(st.sO b (.cells (il n (k8 v k)))).obj b=some (.cells (il n (k8 v k))):=zd _ _ _
 obtain⟨m,hm⟩:∃m,m=min k (n-k):=⟨_,rfl⟩
 refine Qc zb zq1 ?_
 refine⟨k,n,rfl,rfl,by omega,Faj _,.inl ⟨hlt,?_⟩⟩
 refine⟨0,k,rfl,rfl,Fag _,by omega,.inl ⟨by omega,?_⟩⟩
 refine⟨zbv rfl rfl rfl rfl (it:=ti29) (ie:=ti2) rfl rfl rfl (SrcN.obj (n:=m) hb (by rw[qx];show 0+0*1+m*1<=n;omega) (λy hy=>by
   have:=List.mem_of_mem_drop (List.mem_of_mem_take hy)
   obtain⟨t,_,rfl⟩:=Fae.1 this
   rfl)) (hm.trans (by rw[Nat.sub_zero])) hb (by rw[qx];show 0+k*1+m*1<=n;omega) ⟨Tv,?_⟩,Tv⟩
 rw[yp]
 refine Qd ?_
 refine Qbl ?_
 refine⟨k+m,?_,⟨by omega,by omega,?_⟩,⟨Tq,Tq,Tv⟩,Tv⟩
 ·show n-(k+m)<n-k
  omega
 ·exact congrArg (λl=>st.sO b (.cells l)) (zuj (by omega) (by omega))
theorem b8(u:Int)(st:Store)(R:Ja)(h:R (V.bool true) st):Jb 285 [int u] st R:=by
 refine Qa (c:=cfg 3) zb Tryz.func285 ?_
 exact ret h
theorem ya9(w:Nat)(h1:4<=w)(h2:w<8)(st:Store)(R:Ja)(h:R (.tup [int (F4 w:Nat),int (F0 w:Nat)]) st):Jb 302 [int (w:Nat)] st R:=by
 have hw:w=4\/w=5\/w=6\/w=7:=by omega
 rcases hw with rfl|rfl|rfl|rfl
 all_goals
  refine Qa (c:=cfg 10) zb Tryz.func302 ?_
  refine Qc zb zqq ?_
  refine⟨_,rfl,by decide,?_⟩
  refine⟨_,rfl,by decide,?_⟩
  refine⟨⟨Qe,⟨⟨Tv,?_⟩,Tv⟩⟩,Tv⟩
  exact ret h
theorem zcm(st:Store)(R:Ja)(h:R (.agg dirC) st):Jb 217 [] st R:=by
 refine Qa (c:=cfg 10) zb Tryz.func217 ?_
 exact ret h
theorem R3(g:Gnd)(hg:zr g)(t:Nat)(ht:t<g.T.length)(st:Store)(R:Ja)(h:R (Lv g t) st):Jb 186 [.agg (zp g),int (t:Nat)] st R:=by
 have hm:=qe hg
 have htb:=Bw hg (t:=t) (by omega)
 have hq:=D4 (t:=t) hg.1.1
 have hq2:=D5 (t:=t) hg.1.1
 have hg1:=hg.1
 have hg2:=hg.2.1
 have hbes:=λ(i:Nat) (hi:i<8)=>ye3 g t hi
 obtain⟨x,hx⟩:∃x,x=(t:Int)%g.W:=⟨_,rfl⟩
 obtain⟨y,hy⟩:∃y,y=(t:Int)/g.W:=⟨_,rfl⟩
 rw[<-hx,<-hy]at htb hbes
 rw[<-hx]at hq
 rw[<-hy]at hq2
 refine Qa (c:=cfg 50) zb Tryz.func186 ?_
 refine Qc zb zrl ?_
 refine⟨by omega,?_⟩
 refine⟨by omega,?_⟩
 refine ze (by rw[hq2];omega) ?_
 refine⟨⟨?_,⟨⟨Tv,?_⟩,Tv⟩⟩,Tv⟩
 ·exact⟨rfl,Tv⟩
 rw[hq,hq2]
 refine zcm _ _ ?_
 refine AWp.loop (σ:=Nat) ⟨λi=>[(2,.bx 2 0),(4,.bx 4 0),(5,.av (int x)),(6,.av (int y)),(17,.av (.agg dirC)),(18,.av (int (i:Nat)))],λi=>[(2,zp g),(4,il 8 (Dx g t i))],
  λi st'=>i<=8/\st'=st,λi=>8-i⟩ zb ?_ ?_
 ·exact⟨0,Tv,⟨Fag _,rfl⟩,Qbh,⟨rfl,rfl,Tv⟩⟩
 rintro i st' ⟨hi,rfl⟩
 refine bcd (λc1=>?_) (λc1=>?_)
 rotate_left
 ·have:i=8:=by omega
  subst this
  refine ret ?_
  have e:AV.agg (il 8 (Dx g t 8))=Lv g t:=congrArg AV.agg (ye2 g t)
  rw[<-e]at h
  exact h
 have hlt:i<8:=by omega
 have hr:=yc3 hlt
 have hd:=yc2 hlt
 have hbe:=hbes i hlt
 have hst:=ye1 g t (i:=i)
 generalize dirL.getD i (0,0)=d at*
 refine⟨i,rfl,hlt,?_⟩
 refine yk (i:=ti244) (row:=H1 d) rfl rfl hr ?_
 refine⟨i,rfl,hlt,?_⟩
 refine za8 (by rw[qx];show 0+i*1+1<=8;omega) ?_
 refine Iu ?_
 refine⟨0,rfl,by decide,?_⟩
 refine Qd ?_
 refine⟨1,rfl,by decide,?_⟩
 refine Qd ?_
 refine ow _ _ _ _ _ (λz hz=>?_)
 refine zh (λc2=>?_) (λc2=>?_)
 ·have hon:=hz.1 c2
  obtain⟨e1,e2,_,_⟩:=Cl hg hon
  have hpos:0<=g.W*(y+d.2):=Fax (by omega) (by have:=hon.2.1;omega)
  refine⟨0,rfl,by decide,?_⟩
  refine Qd ?_
  refine⟨1,rfl,by decide,?_⟩
  refine Qd ?_
  refine Qd ?_
  refine Qd ?_
  refine⟨i,rfl,hlt,?_⟩
  refine za8 (by
   show 0+i*1+1<=(zu (il 8 (Dx g t i)) (0+i*1) [int (-1)]).length
   rw[show 0+i*1=i by omega,Gg hlt,qx];omega) ?_
  refine Iu ?_
  refine Qd ?_
  refine⟨i+1,?_,⟨by omega,rfl⟩,Qbh,⟨rfl,?_,Tv⟩⟩
  ·show 8-(i+1)<8-i
   omega
  ·show some (zu (zu (il 8 (Dx g t i)) (0+i*1) [int (-1)]) (0+i*1) [int (x+d.1+g.W*(y+d.2))])=some (il 8 (Dx g t (i+1)))
   rw[show 0+i*1=i by omega,Gg hlt,Gg hlt,Vr,hst]
   rw[hbe]
   unfold vg
   rw[if_pos hon]
 ·have hon:¬onG g (x+d.1) (y+d.2):=λhh=>by rw[hz.2 hh]at c2;cases c2
  refine Qd ?_
  refine⟨i+1,?_,⟨by omega,rfl⟩,Qbh,⟨rfl,?_,Tv⟩⟩
  ·show 8-(i+1)<8-i
   omega
  ·show some (zu (il 8 (Dx g t i)) (0+i*1) [int (-1)])=some (il 8 (Dx g t (i+1)))
   rw[show 0+i*1=i by omega,Gg hlt,hst]
   rw[hbe]
   unfold vg
   rw[if_neg hon]
section
variable {g:Gnd} {t w:Nat} {c:Int}
theorem Rp(hg:zr g)(ht:t<g.T.length):g.T[t].toNat<=5:=hg.2.2.2 _ (Faa ht)
theorem Rq(g:Gnd)(c:Int)(ht:t<g.T.length):Du g c t=wz c g.T[t].toNat:=by
 unfold Du
 rw[Fa9,Fab ht]
 rfl
theorem Hu(hg:zr g)(t:Nat)(hw:w<8):yc g t w<0\/∃u:Nat,yc g t w=(u:Int)/\u<g.T.length:=by
 rcases R4 hg (t:=t) hw with h|h
 ·exact .inl (by omega)
 ·exact .inr h
theorem Mc{ok:Nat->Bool}(h:j6 ok (yc g t w)=false):yv g ok c t w=0:=by
 unfold yv
 rw[h]
 simp
theorem ip{ok:Nat->Bool}(h:j6 ok (yc g t w)=true)(hw:w<4):yv g ok c t w=5*(Du g c t+Du g c (yc g t w).toNat):=by
 unfold yv
 rw[if_pos h,if_pos hw]
theorem ir{ok:Nat->Bool}(h:j6 ok (yc g t w)=true)(hw:¬w<4)(ha:j6 ok (yc g t (F4 w))=true)(hb:j6 ok (yc g t (F0 w))=true):yv g ok c t w=7*(Du g c t+Du g c (yc g t w).toNat):=by
 unfold yv
 rw[if_pos h,if_neg hw,if_pos ⟨ha,hb⟩]
theorem iq{ok:Nat->Bool}(hw:¬w<4)(ha:j6 ok (yc g t (F4 w))=false\/j6 ok (yc g t (F0 w))=false):yv g ok c t w=0:=by
 unfold yv
 rw[if_neg hw]
 split
 ·rw[if_neg]
  rintro⟨h1,h2⟩
  rcases ha with ha|ha
  ·rw[ha]at h1;cases h1
  ·rw[ha]at h2;cases h2
 ·rfl
theorem Hl{ok:Nat->Bool}{u:Int}(h:u<0):j6 ok u=false:=by
 unfold j6
 rw[decide_eq_false (by omega)];rfl
theorem Fl(ok:Nat->Bool)(u:Nat):j6 ok (u:Int)=ok u:=by
 unfold j6
 rw[decide_eq_true (by omega),Fa0];rfl
theorem io{S:Store}{nb:Nat}(hg:zr g){l:List Bld}{s:Int}(hn:S.obj nb=some (.cells (xo g l c s)))(t:Nat)(ht:t<g.T.length)(way:Nat)(hw:way<8)(R:Ja)
  (h:R (int (yv g (zj g l c s) c t way)) S):Jb 287 [ptr nb,int (t:Nat),Lv g t,int (way:Nat),.clos 285 []] S R:=by
 have hgl:∀u,u<g.T.length->u<(blL g.T.length (zj g l c s)).length:=λu hu=>by rw[xj];exact hu
 have p1:=K0 c (g.T[t]).toNat
 refine Qa (c:=cfg 124) zb Tryz.func287 ?_
 refine⟨way,rfl,hw,?_⟩
 refine za _ (jx hw) ?_
 have hor:=Hu hg t hw
 have hlo:=λh=>ip (g:=g) (ok:=zj g l c s) (c:=c) (t:=t) (w:=way) h
 have hhi:=λh=>ir (g:=g) (ok:=zj g l c s) (c:=c) (t:=t) (w:=way) h
 have hno:=Mc (g:=g) (ok:=zj g l c s) (c:=c) (t:=t) (w:=way)
 have hhn:=λh=>iq (g:=g) (ok:=zj g l c s) (c:=c) (t:=t) (w:=way) h
 generalize yv g (zj g l c s) c t way=E at*
 generalize hU:yc g t way=U at*
 refine bcd (λc1=>?_) (λc1=>?_)
 ·rw[hno (Hl c1)]at h
  exact ret h
 obtain⟨u,rfl,hul⟩:∃u:Nat,U=(u:Int)/\u<g.T.length:=by
  rcases hor with h1|h1
  ·exact absurd h1 c1
  ·exact h1
 refine Qbm ?_
 refine⟨u,rfl,za _ (zm (hgl u hul)) ?_⟩
 rw[Bb hul]
 refine yd ?_
 refine zh (λc2=>?_) (λc2=>?_)
 rotate_left
 ·rw[hno (by rw[Fl,c2])]at h
  exact ret h
 refine b8 _ _ _ ?_
 have hfu:j6 (zj g l c s) (u:Int)=true:=by rw[Fl,c2]
 rw[Fa0]at hlo hhi
 rw[Rq g c ht,Rq g c hul]at hlo hhi
 have p2:=K0 c (g.T[u]).toNat
 refine Qc zb zq0 ?_
 refine Qbm ?_
 refine Qbm ?_
 refine⟨t,rfl,za _ (zm ht) ?_⟩
 refine Qbm ?_
 refine Qbm ?_
 refine⟨u,rfl,za _ (zm hul) ?_⟩
 refine⟨Wg c g.T[t] (Rp hg ht) _ _ ⟨?_,?_⟩,Tv⟩
 ·repeat(first|exact Tv|refine⟨rfl,?_⟩|refine⟨za (o:=S.obj nb) _ hn rfl,?_⟩)
 refine⟨Wg c g.T[u] (Rp hg hul) _ _ ⟨Qe,?_⟩,Tv⟩
 refine Qd ?_
 refine Qbl ?_
 generalize wz c g.T[t].toNat=P1 at*
 generalize wz c g.T[u].toNat=P2 at*
 refine bcd (λc3=>?_) (λc3=>?_)
 ·refine Qd ?_
  rw[hlo hfu (by omega)]at h
  exact ret h
 have h4:¬way<4:=by omega
 have hsa:F4 way<8:=by unfold F4;omega
 have hsb:F0 way<8:=by unfold F0;omega
 refine ya9 way (by omega) hw _ _ ?_
 have hora:=Hu hg t hsa
 have horb:=Hu hg t hsb
 have hhi:=hhi hfu h4
 have hhn:=hhn h4
 have ha1:=jx (n:=8) (f:=yc g t) hsa
 have hb1:=jx (n:=8) (f:=yc g t) hsb
 generalize hA:F4 way=wa at*
 generalize hB:F0 way=wb at*
 generalize hUA:yc g t wa=ua at*
 generalize hUB:yc g t wb=ub at*
 refine Qc zb zqz ?_
 refine⟨wa,rfl,hsa,?_⟩
 refine za _ ha1 ?_
 have no:j6 (zj g l c s) ua=false\/j6 (zj g l c s) ub=false->R (int 0) S:=λhh=>by
  rw[hhn hh]at h
  exact h
 refine bcd (λca=>?_) (λca=>?_)
 ·refine Qbl ?_
  refine Qbl ?_
  exact ret (no (.inl (Hl ca)))
 obtain⟨va,rfl,hva⟩:∃u:Nat,ua=(u:Int)/\u<g.T.length:=by
  rcases hora with h1|h1
  ·exact absurd h1 ca
  ·exact h1
 refine⟨wb,rfl,hsb,?_⟩
 refine za _ hb1 ?_
 refine bcd (λcb=>?_) (λcb=>?_)
 ·refine Qbl ?_
  refine Qbl ?_
  exact ret (no (.inr (Hl cb)))
 obtain⟨vb,rfl,hvb⟩:∃u:Nat,ub=(u:Int)/\u<g.T.length:=by
  rcases horb with h1|h1
  ·exact absurd h1 cb
  ·exact h1
 refine Qbm ?_
 refine⟨wa,rfl,hsa,?_⟩
 refine za _ ha1 ?_
 refine⟨va,rfl,za _ (zm (hgl va hva)) ?_⟩
 rw[Bb hva]
 refine yd ?_
 refine zh (λda=>?_) (λda=>?_)
 rotate_left
 ·refine Qbl ?_
  refine Qbl ?_
  exact ret (no (.inl (by rw[Fl,da])))
 refine Qbm ?_
 refine⟨wb,rfl,hsb,?_⟩
 refine za _ hb1 ?_
 refine⟨vb,rfl,za _ (zm (hgl vb hvb)) ?_⟩
 rw[Bb hvb]
 refine yd ?_
 refine zh (λdb=>?_) (λdb=>?_)
 rotate_left
 ·refine Qbl ?_
  refine Qbl ?_
  exact ret (no (.inr (by rw[Fl,db])))
 refine⟨wa,rfl,hsa,?_⟩
 refine za _ ha1 ?_
 refine⟨b8 _ _ _ ⟨Tv,?_⟩,Tv⟩
 refine⟨wb,rfl,hsb,?_⟩
 refine za _ hb1 ?_
 refine⟨b8 _ _ _ ⟨Tv,?_⟩,Tv⟩
 refine Qd ?_
 rw[hhi (by rw[Fl,da]) (by rw[Fl,db])]at h
 exact ret h
end
section
variable {G F:Store} {p:Nat}
theorem zvx(R:Ja)(h:∀F p,QOf F p []->zl F G->R (ptr p) (F.un G)):Jb 298 [] G R:=by
 have:=ACalls.frame (a:=Store.empty) (g:=G) (λi h1=>by rcases h1 with h1|h1<;>exact absurd rfl h1) (zvw Store.empty (λr a'=>∃p,r=ptr p/\QOf a' p []) (λp hp=>⟨p,rfl,.inl ⟨zd _ _ _,rfl⟩⟩)) (R':=R) (λr a' ⟨p,e,hc⟩ hd=>e▸h a' p hc hd)
 rwa [wu]at this
theorem Wa{l:List (Int×Int)}(hq:QOf F p l)(hl:l.length<=1000000)(hh:we l)(hd:zl F G)(x:Int×Int)(R:Ja)
  (h:∀F' l',QOf F' p l'->we l'->l'.Perm (x::l)->zl F' G->R (.tup []) (F'.un G)):Jb 299 [ptr p,int x.1,int x.2] (F.un G) R:=
 ACalls.frame hd (zvo hq hl hh x (λr a'=>r=.tup []/\∃l',QOf a' p l'/\we l'/\l'.Perm (x::l)) (λF' l' g1 g2 g3=>⟨rfl,l',g1,g2,g3⟩)) (R':=R) (λr a' ⟨e,l',g1,g2,g3⟩ hd=>e▸h a' l' g1 g2 g3 hd)
theorem Wd{l:List (Int×Int)}(hq:QOf F p l)(hl:l.length<=1000000)(hh:we l)(hd:zl F G)(R:Ja)
  (h:∀F' o l',QOf F' p l'->we l'->zl F' G->l.Perm (o.toList++l')->(∀x,o=some x->∀e∈x::l',¬qlt e x)->(o=none->l'=[])->R (.tup [int (W2 o),int (Oh o),V.bool o.isSome]) (F'.un G)):Jb 300 [ptr p] (F.un G) R:=
 ACalls.frame hd (zvr hq hl hh (λr a'=>∃o l',r=.tup [int (W2 o),int (Oh o),V.bool o.isSome]/\QOf a' p l'/\we l'/\l.Perm (o.toList++l')/\(∀x,o=some x->∀e∈x::l',¬qlt e x)/\(o=none->l'=[]))
  (λe=>⟨none,[],rfl,e▸hq,e▸hh,by rw[e];exact List.Perm.refl _,λx h=>(by cases h),λ_=>rfl⟩)
  (λh0 F' l' g1 g2 g3=>⟨some (qat l 0),l',rfl,g1,g2,g3,λx e=>by
   cases e
   exact λe he=>zvt hh e (g3.mem_iff.2 he),λh=>(by cases h)⟩)) (R':=R) (λr a' ⟨o,l',e,g1,g2,g3,g4,g5⟩ hd=>e▸h a' o l' g1 g2 hd g3 g4 g5)
theorem yba{S:Store}{nb:Nat}{g:Gnd}(hg:zr g){l:List Bld}{c s:Int}(hn:S.obj nb=some (.cells (xo g l c s)))(goal:Nat)(hgo:goal<g.T.length)(R:Ja)
  (h:∀b,Fresh S b->(∀u,-1<=qy g (zj g l c s) c goal u/\qy g (zj g l c s) c goal u<=2000000)->R (.s (.slice (some ⟨b,0,none⟩) g.T.length g.T.length)) (S.sO b (.cells (il g.T.length (qy g (zj g l c s) c goal))))):
  Jb 284 [ptr nb,int (goal:Nat),.clos 285 []] S R:=by
 have ha:=qe hg
 have hT:g.T.length<=16384:=by omega
 have hgl:∀u,u<g.T.length->u<(blL g.T.length (zj g l c s)).length:=λu hu=>by rw[xj];exact hu
 refine Qa (c:=cfg 121) zb Tryz.func284 ?_
 refine⟨by decide,?_⟩
 refine Qbm ?_
 show ACalls _ _ [_,int ((rws u8C g.T).length:Nat)] _ _
 rw[zn]
 refine nc (-1) g.T.length (by omega) (by omega) _ _ (λb hf=>?_)
 have hnb:nb≠b:=λe=>by rw[e,hf.1]at hn;cases hn
 have hn1:(S.sO b (.cells (il g.T.length λ_=>-1))).obj nb=some (.cells (xo g l c s)):=(zi hnb).trans hn
 refine za (o:=(S.sO b _).obj nb) _ hn1 ?_
 refine⟨goal,rfl,za _ (zm (hgl goal hgo)) ?_⟩
 rw[Bb hgo]
 refine yd ?_
 refine zh (λc1=>?_) (λc1=>?_)
 rotate_left
 ·rw[uk c1]at h
  exact ret (h b hf λu=>⟨Fcn (-1),show(-1:Int)<=2000000 by decide⟩)
 refine Bt rfl (it:=ti60) (ie:=ti4) rfl rfl rfl rfl rfl (n:=g.T.length) ?_ ?_ (λb2 hf2=>?_)
 ·show 1*_<=_;omega
 ·omega
 rw[Ht]
 have hbb:b≠b2:=λe=>by
  have:=hf2.1
  rw[<-e,zd]at this;cases this
 have hst0:(S.sO b (.cells (il g.T.length λ_=>-1))).sO b2 (.cells (bl g.T.length λ_=>false))=qz S b b2 g.T.length (λ_=>-1) (λ_=>false):=rfl
 rw[hst0]
 refine⟨goal,rfl,hgo,?_⟩
 refine yj (i:=ti2) (v:=int 0) (b:=b) (o:=0+goal*1) (l:=il g.T.length λ_=>-1) (st2:=qz S b b2 g.T.length (zx (λ_=>-1) goal 0) (λ_=>false)) rfl rfl rfl (tu hbb _ _) (by rw[qx];omega) ?_ ?_
 ·rw[Gf _ _ _ _ hgo,tt hbb]
 refine zvx _ (λF p hQ hdis=>?_)
 refine Wa hQ (by simp) (λj h0 hj=>by simp at hj) hdis (0,(goal:Int)) _ (λF l1 hQ hH hP hdis=>?_)
 have hd0:∀u,zx (λ_=>(-1:Int)) goal 0 u=if u=goal then 0 else -1:=λu=>rfl
 have hDJ:=ycs (xm g (zj g l c s) c) hgo hd0
 have hcb:=zaj hgo hd0
 have hback:∀F d dn,(Store.un F (qz S b b2 g.T.length d dn)).Has (S.sO b (.cells (il g.T.length d))):=λF d dn=>ybo hf hf2 hbb
 have hlen:l1.length<=1000000:=by rw[hP.length_eq];simp
 have hlen1:l1.length=1:=by rw[hP.length_eq];simp
 have hfo:=λd dn=>ybl (n:=g.T.length) hf hf2 hn d dn
 have hfd:=λd dn=>tu (S:=S) (n:=g.T.length) hbb d dn
 have hfn:=λd dn=>ybm (S:=S) (b:=b) (b2:=b2) (n:=g.T.length) d dn
 have hsd:=λd d' dn=>tt (S:=S) (n:=g.T.length) hbb d d' dn
 have hsn:=λd dn dn'=>ybk (S:=S) (b:=b) (b2:=b2) (n:=g.T.length) d dn dn'
 have hdd:=λ(F:Store) d d' dn dn' (h:zl F (qz S b b2 g.T.length d dn))=>ybn (d':=d') (dn':=dn') h
 generalize hd1:zx (λ_=>(-1:Int)) goal 0=d at*
 refine Wd hQ hlen hH hdis _ (λF' o l' g1 g2 g3 g4 g5 g6=>?_)
 refine AWp.loop (σ:=(Nat->Int)×(Nat->Bool)×Store×Option (Int×Int)×List (Int×Int)×Int) ⟨λq=>[(0,.av (ptr nb)),(2,.av (.clos 285 [])),(7,.av (.s (.slice (some ⟨b,0,none⟩) g.T.length g.T.length))),(8,.av (.s (.slice (some ⟨b2,0,none⟩) g.T.length g.T.length))),(9,.av (ptr p)),(10,.av (int (W2 q.2.2.2.1))),(11,.av (int (Oh q.2.2.2.1))),(12,.av (V.bool q.2.2.2.1.isSome))],λ_=>[],
  λq st'=>st'=q.2.2.1.un (qz S b b2 g.T.length q.1 q.2.1)/\QOf q.2.2.1 p q.2.2.2.2.1/\we q.2.2.2.2.1/\zl q.2.2.1 (qz S b b2 g.T.length q.1 q.2.1)/\DJ (xm g (zj g l c s) c) g.T.length goal q.1 q.2.1 (q.2.2.2.1.toList++q.2.2.2.2.1) q.2.2.2.2.2 Cu∧
   (∀x,q.2.2.2.1=some x->∀e∈x::q.2.2.2.2.1,¬qlt e x)/\(q.2.2.2.1=none->q.2.2.2.2.1=[])/\Dv g.T.length q.1/\9*Di g.T.length q.2.1+(q.2.2.2.1.toList++q.2.2.2.2.1).length<=9*g.T.length+1,λq=>9*Di g.T.length q.2.1+(q.2.2.2.1.toList++q.2.2.2.2.1).length⟩ zb ?_ ?_
 ·refine⟨(d,λ_=>false,F',o,l',0),Tv,⟨rfl,g1,g2,g3,ci hDJ (hP.symm.trans g4),g5,g6,hcb,?_⟩,Qbh,Tv⟩
  have:=zwx g.T.length λ_=>false
  dsimp only
  rw[<-g4.length_eq]
  omega
 clear hdis
 clear g1 g2 g3 g4 g5 g6 hDJ hcb hQ hH hP hlen hlen1 hd0 hd1
 rintro⟨d,dn,F,o,q,cur⟩ st' ⟨rfl,hQ,hH,hdis,hDJ,hmin,hnil,hcb,hmu⟩
 dsimp only at hQ hH hdis hDJ hmin hnil hcb hmu⊢
 cases o with
 |none=>
  have:q=[]:=hnil rfl
  subst this
  have e:=b7 c1 (yct hDJ)
  refine By (Tt) (hback F d dn) ?_
  have:=h b hf
  rw[e]at this
  exact this λu=>by
   have h1:=hDJ.lab u
   have h2:=Lp hcb u
   omega
 |some x=>
 obtain⟨t,ht,htn,hd0,hdx,hcx⟩:=hDJ.ent x (by simp)
 have hmin:=hmin x rfl
 have hlen:q.length<=1000000:=by
  simp only[Option.toList,Fad,Fas]at hmu
  omega
 have hxt:Oh (some x)=(t:Int):=ht
 have hq9:(Option.toList (some x)++q).length=q.length+1:=by simp
 rw[hq9]at hmu
 rw[hxt]
 refine⟨t,rfl,htn,?_⟩
 refine za (o:=(F.un (qz S b b2 g.T.length d dn)).obj b2) _ (zg (hfn d dn)) ?_
 refine za _ (R0 htn) ?_
 cases hdt:dn t with
 |true=>
  have hDJ2:=ycq (q':=q) hDJ ht (List.Perm.refl _) hdt
  refine Wd hQ hlen hH hdis _ (λF' o l' g1 g2 g3 g4 g5 g6=>?_)
  refine⟨(d,dn,F',o,l',cur),?_,⟨rfl,g1,g2,g3,ci (hDJ2) g4,g5,g6,hcb,?_⟩,Qbh,Tv⟩
  ·show 9*Di g.T.length (dn)+(o.toList++l').length<9*Di g.T.length dn+(Option.toList (some x)++q).length
   rw[<-g4.length_eq,hq9]
   omega
  ·dsimp only
   rw[<-g4.length_eq]
   omega
 |false=>
 obtain⟨hk,hDJ1⟩:=ycp (q':=q) hDJ ht (List.Perm.refl _) hmin hdt
 have hopen:=zww htn hdt
 have hokt:=ycr hDJ c1 hd0
 refine⟨t,rfl,htn,?_⟩
 refine yj (i:=ti4) (v:=V.bool true) (b:=b2) (o:=0+t*1) (l:=bl g.T.length dn) (st2:=F.un (qz S b b2 g.T.length d (zx dn t true))) rfl rfl rfl (zg (hfn d dn)) (by rw[ku];omega) ?_ ?_
 ·rw[dq _ _ _ _ htn,z7,hsn]
 refine za (o:=(F.un (qz S b b2 g.T.length d (zx dn t true))).obj nb) _ (zg (hfo _ _)) ?_
 refine R3 g hg t htn _ _ ?_
 have hdis:=hdd F d d dn (zx dn t true) hdis
 have hDJ:=zcv hDJ1
 have hdn1:zx dn t true t=true:=j1 _ _ _
 have hbig:=Lp hcb t
 have hbn:=λ(w:Nat) (hw:w<8)=>R4 hg (t:=t) hw
 refine AWp.loop (σ:=Nat×(Nat->Int)×Store×List (Int×Int)) ⟨λy=>[(0,.av (ptr nb)),(2,.av (.clos 285 [])),(7,.av (.s (.slice (some ⟨b,0,none⟩) g.T.length g.T.length))),(8,.av (.s (.slice (some ⟨b2,0,none⟩) g.T.length g.T.length))),(9,.av (ptr p)),(10,.av (int x.1)),(11,.av (int (t:Nat))),(13,.bx 13 0),(70,.av (Lv g t)),(71,.av (int (y.1:Nat)))],λ_=>[(13,il 8 (yc g t))],
  λy st'=>y.1<=8/\st'=y.2.2.1.un (qz S b b2 g.T.length y.2.1 (zx dn t true))/\QOf y.2.2.1 p y.2.2.2/\we y.2.2.2/\zl y.2.2.1 (qz S b b2 g.T.length y.2.1 (zx dn t true))/\DJ (xm g (zj g l c s) c) g.T.length goal y.2.1 (zx dn t true) y.2.2.2 x.1 (Bc g (zj g l c s) c t y.1)/\y.2.1 t=x.1/\Dv g.T.length y.2.1/\y.2.2.2.length<=q.length+y.1,λy=>8-y.1⟩ zb ?_ ?_
 ·exact⟨(0,d,F,q),Tv,⟨Fag _,rfl,hQ,hH,hdis,hDJ,hk.symm,hcb,Faj _⟩,Qbh,⟨rfl,Tv⟩⟩
 have hx0:0<=x.1:=by omega
 have hx1:x.1<=84*(g.T.length:Int):=by omega
 clear hQ hH hdis hDJ hDJ1 hcb hbig hmin hnil hd0 hdx
 rintro⟨i,d,F,m⟩ st' ⟨hi,rfl,hQ,hH,hdis,hDJ,hdt1,hcb,hml⟩
 dsimp only at hi hQ hH hdis hDJ hdt1 hcb hml⊢
 refine bcd (λc2=>?_) (λc2=>?_)
 rotate_left
 ·have:i=8:=by omega
  subst this
  have hlen:m.length<=1000000:=by omega
  have hDJ2:=zcw hDJ
  refine Wd hQ hlen hH hdis _ (λF' o l' g1 g2 g3 g4 g5 g6=>?_)
  refine⟨(d,zx dn t true,F',o,l',x.1),?_,⟨rfl,g1,g2,g3,ci (hDJ2) g4,g5,g6,hcb,?_⟩,Qbh,Tv⟩
  ·show 9*Di g.T.length (zx dn t true)+(o.toList++l').length<9*Di g.T.length dn+(Option.toList (some x)++q).length
   rw[<-g4.length_eq,hq9]
   omega
  ·dsimp only
   rw[<-g4.length_eq]
   omega
 have hlt:i<8:=by omega
 refine⟨i,rfl,hlt,?_⟩
 refine za _ (P4 hlt) ?_
 refine io hg (zg (hfo _ _)) t htn i hlt _ ?_
 have hsb:=Oz g (zj g l c s) c t i
 have hskip:=Sj hDJ
 have hedge:=uu (g:=g) (ok:=zj g l c s) (c:=c) (t:=t) (way:=i) hokt htn hlt
 have hor:=hbn i hlt
 have hfr:0<yv g (zj g l c s) c t i->0<=yc g t i:=λhp=>(bm (Vk (g:=g) (ok:=zj g l c s) (c:=c) (t:=t) (way:=i) (by omega))).1
 generalize hC:yv g (zj g l c s) c t i=C at*
 generalize hU:yc g t i=U at*
 -- nothing to note:on with the next way
 have next:(0<C->∀u:Nat,U=u->0<=d u/\d u<=d t+C)->∃y:Nat×(Nat->Int)×Store×List (Int×Int),8-y.1<8-i/\(y.1<=8/\F.un (qz S b b2 g.T.length d (zx dn t true))=y.2.2.1.un (qz S b b2 g.T.length y.2.1 (zx dn t true))/\QOf y.2.2.1 p y.2.2.2/\we y.2.2.2/\zl y.2.2.1 (qz S b b2 g.T.length y.2.1 (zx dn t true))/\DJ (xm g (zj g l c s) c) g.T.length goal y.2.1 (zx dn t true) y.2.2.2 x.1 (Bc g (zj g l c s) c t y.1)/\y.2.1 t=x.1/\Dv g.T.length y.2.1/\y.2.2.2.length<=q.length+y.1)/\y=(i+1,d,F,m):=λhp=>
  ⟨(i+1,d,F,m),by dsimp only;omega,⟨by dsimp only;omega,rfl,hQ,hH,hdis,hskip (λu hu hc=>hp hc u hu),hdt1,hcb,by dsimp only;omega⟩,rfl⟩
 refine bcd (λc3=>?_) (λc3=>?_)
 rotate_left
 ·obtain⟨y,f1,f2,rfl⟩:=next (λhc=>absurd hc c3)
  refine Qd ?_
  exact⟨(i+1,d,F,m),f1,f2,Qbh,⟨rfl,Tv⟩⟩
 have hU0:=hfr c3
 obtain⟨u,rfl,hul⟩:∃u:Nat,U=(u:Int)/\u<g.T.length:=by
  rcases hor with h1|h1
  ·omega
  ·exact h1
 rw[Fa0]at hedge
 have hedge:=hedge c3
 refine⟨u,rfl,hul,?_⟩
 refine za (o:=(F.un (qz S b b2 g.T.length d (zx dn t true))).obj b2) _ (zg (hfn d _)) ?_
 refine za _ (R0 hul) ?_
 refine yd ?_
 refine zh (λc4=>?_) (λc4=>?_)
 ·obtain⟨y,f1,f2,rfl⟩:=next (λhc v hv=>by
   have:v=u:=by omega
   subst this
   have:=hDJ.mono v c4
   omega)
  refine Qd ?_
  exact⟨(i+1,d,F,m),f1,f2,Qbh,⟨rfl,Tv⟩⟩
 refine⟨u,rfl,hul,?_⟩
 refine za (o:=(F.un (qz S b b2 g.T.length d (zx dn t true))).obj b) _ (zg (hfd d _)) ?_
 refine za _ (jx hul) ?_
 refine bcd (λc5=>?_) (λc5=>?_)
 ·skip
  have hlow:d u<0\/d t+C<d u:=Or.inl c5
  have hcb2:=Rr hcb hul (t:=t) (u:=u) (c:=C) (by omega) (by omega) hlow
  rw[hdt1]at hcb2 hlow
  refine Qd ?_
  refine⟨u,rfl,hul,?_⟩
  refine yj (i:=ti2) (v:=int (x.1+C)) (b:=b) (o:=0+u*1) (l:=il g.T.length d) (st2:=F.un (qz S b b2 g.T.length (zx d u (x.1+C)) (zx dn t true))) rfl rfl rfl (zg (hfd d _)) (by rw[qx];omega) ?_ ?_
  ·rw[Gf _ _ _ _ hul,z7,hsd]
  refine Qd ?_
  refine Wa hQ (by omega) hH (hdd F d (zx d u (x.1+C)) _ _ hdis) (x.1+C,(u:Int)) _ (λF' m' e1 e2 e3 e4=>?_)
  have hnote:=u9 Lm hDJ hdn1 hdt1 hul hedge c4 hlow e3
  have htu:t≠u:=λe=>by subst e;rw[hdn1]at c4;cases c4
  have hC:=hC.symm
  refine Qd ?_
  refine⟨(i+1,zx d u (x.1+C),F',m'),?_,⟨by dsimp only;omega,rfl,e1,e2,e4,?_,?_,hcb2,?_⟩,Qbh,⟨rfl,Tv⟩⟩
  ·show 8-(i+1)<8-i
   omega
  ·refine Sj hnote (λv hv hc=>?_)
   have hvu:v=u:=by
    rw[hU]at hv
    omega
   subst hvu
   dsimp only
   rw[j1,xf htu,hdt1,<-hC]
   omega
  ·dsimp only
   rw[xf htu]
   exact hdt1
  ·dsimp only
   rw[e3.length_eq,Fba]
   omega
 have hbig:=Lp hcb u
 refine Qd ?_
 refine⟨u,rfl,hul,?_⟩
 refine za (o:=(F.un (qz S b b2 g.T.length d (zx dn t true))).obj b) _ (zg (hfd d _)) ?_
 refine za _ (jx hul) ?_
 refine bcd (λc6=>?_) (λc6=>?_)
 ·skip
  have hlow:d u<0\/d t+C<d u:=Or.inr (show d t+C<d u by omega)
  have hcb2:=Rr hcb hul (t:=t) (u:=u) (c:=C) (by omega) (by omega) hlow
  rw[hdt1]at hcb2 hlow
  refine Qd ?_
  refine⟨u,rfl,hul,?_⟩
  refine yj (i:=ti2) (v:=int (x.1+C)) (b:=b) (o:=0+u*1) (l:=il g.T.length d) (st2:=F.un (qz S b b2 g.T.length (zx d u (x.1+C)) (zx dn t true))) rfl rfl rfl (zg (hfd d _)) (by rw[qx];omega) ?_ ?_
  ·rw[Gf _ _ _ _ hul,z7,hsd]
  refine Qd ?_
  refine Wa hQ (by omega) hH (hdd F d (zx d u (x.1+C)) _ _ hdis) (x.1+C,(u:Int)) _ (λF' m' e1 e2 e3 e4=>?_)
  have hnote:=u9 Lm hDJ hdn1 hdt1 hul hedge c4 hlow e3
  have htu:t≠u:=λe=>by subst e;rw[hdn1]at c4;cases c4
  have hC:=hC.symm
  refine Qd ?_
  refine⟨(i+1,zx d u (x.1+C),F',m'),?_,⟨by dsimp only;omega,rfl,e1,e2,e4,?_,?_,hcb2,?_⟩,Qbh,⟨rfl,Tv⟩⟩
  ·show 8-(i+1)<8-i
   omega
  ·refine Sj hnote (λv hv hc=>?_)
   have hvu:v=u:=by
    rw[hU]at hv
    omega
   subst hvu
   dsimp only
   rw[j1,xf htu,hdt1,<-hC]
   omega
  ·dsimp only
   rw[xf htu]
   exact hdt1
  ·dsimp only
   rw[e3.length_eq,Fba]
   omega
 obtain⟨y,f1,f2,rfl⟩:=next (λhc v hv=>by
  have:v=u:=by omega
  subst this
  omega)
 refine Qd ?_
 exact⟨(i+1,d,F,m),f1,f2,Qbh,⟨rfl,Tv⟩⟩
end
theorem gw{S:Store}{nb:Nat}{g:Gnd}(hg:zr g){l:List Bld}{c s:Int}(hn:S.obj nb=some (.cells (xo g l c s)))(goal:Nat)(hgo:goal<g.T.length)(R:Ja)
  (h:∀b,Fresh S b->R (.s (.slice (some ⟨b,0,none⟩) g.T.length g.T.length)) (S.sO b (.cells (il g.T.length (qr g (zj g l c s) c (qy g (zj g l c s) c goal)))))):
  Jb 275 [ptr nb,int (goal:Nat)] S R:=by
 have ha:=qe hg
 have hT:g.T.length<=16384:=by omega
 refine Qa (c:=cfg 71) zb Tryz.func275 ?_
 refine yba hg hn goal hgo _ (λb hf hdb=>?_)
 generalize qy g (zj g l c s) c goal=d at*
 refine⟨by decide,?_⟩
 refine nc (-1) g.T.length (by omega) (by omega) _ _ (λb2 hf2=>?_)
 have hbb:b≠b2:=λe=>by
  have:=hf2.1
  rw[<-e,zd]at this;cases this
 rw[<-zcr g (zj g l c s) c d]
 have hfo:=λf=>zdr (n:=g.T.length) hf hf2 hn d f
 have hfd:=λf=>zdu (S:=S) (n:=g.T.length) hbb d f
 have hsf:=λf f'=>zdq (S:=S) (b:=b) (b2:=b2) (n:=g.T.length) d f f'
 have hff:=λf=>zdt (S:=S) (b:=b) (b2:=b2) (n:=g.T.length) d f
 refine AWp.loop (σ:=Nat) ⟨λi=>[(0,.av (ptr nb)),(5,.av (.s (.slice (some ⟨b,0,none⟩) g.T.length g.T.length))),(6,.av (.s (.slice (some ⟨b2,0,none⟩) g.T.length g.T.length))),(20,.av (.s (.slice (some ⟨b,0,none⟩) g.T.length g.T.length))),(21,.av (int (g.T.length:Nat))),(22,.av (int (i:Nat)))],λ_=>[],
  λi st'=>i<=g.T.length/\st'=vp S b b2 g.T.length d (Ak g (zj g l c s) c d i),λi=>g.T.length-i⟩ zb ?_ ?_
 ·exact⟨0,Tv,⟨Fag _,rfl⟩,Qbh,Tv⟩
 rintro i st' ⟨hi,rfl⟩
 refine bcd (λc1=>?_) (λc1=>?_)
 rotate_left
 ·have:i=g.T.length:=by omega
  subst this
  refine By (Tt) (zdv hf hbb _ _) ?_
  rw[zcs]
  exact h b2 (zds hbb hf2)
 have hlt:i<g.T.length:=by omega
 -- on with the next tile
 have next:∀f,f=Ak g (zj g l c s) c d (i+1)->∃k:Nat,g.T.length-k<g.T.length-i/\(k<=g.T.length/\vp S b b2 g.T.length d f=vp S b b2 g.T.length d (Ak g (zj g l c s) c d k))/\k=i+1:=λf e=>⟨i+1,by omega,⟨by omega,by rw[e]⟩,rfl⟩
 refine⟨i,rfl,hlt,?_⟩
 refine za (o:=(vp S b b2 g.T.length d _).obj b) _ (hfd _) ?_
 refine za _ (jx hlt) ?_
 refine bcd (λc2=>?_) (λc2=>?_)
 ·obtain⟨k,f1,f2,rfl⟩:=next _ (et (fc c2)).symm
  refine Qd ?_
  exact⟨i+1,f1,f2,Qbh,Tv⟩
 refine za (o:=(vp S b b2 g.T.length d _).obj nb) _ (hfo _) ?_
 refine R3 g hg i hlt _ _ ?_
 refine AWp.loop (σ:=Nat) ⟨λj=>[(0,.av (ptr nb)),(5,.av (.s (.slice (some ⟨b,0,none⟩) g.T.length g.T.length))),(6,.av (.s (.slice (some ⟨b2,0,none⟩) g.T.length g.T.length))),(7,.av (int (i:Nat))),(8,.av (int (d i))),(9,.bx 9 0),(20,.av (.s (.slice (some ⟨b,0,none⟩) g.T.length g.T.length))),(21,.av (int (g.T.length:Nat))),(22,.av (int (i:Nat))),(35,.av (Lv g i)),(36,.av (int (j:Nat)))],λ_=>[(9,il 8 (yc g i))],
  λj st'=>j<=8/\st'=vp S b b2 g.T.length d (Ak g (zj g l c s) c d i)/\∀w,w<j->¬vi g (zj g l c s) c d i w,λj=>8-j⟩ zb ?_ ?_
 ·exact⟨0,Tv,⟨Fag _,rfl,λw hw=>absurd hw (Fa2 w)⟩,Qbh,⟨rfl,Tv⟩⟩
 rintro j st' ⟨hj,rfl,hno⟩
 refine bcd (λc3=>?_) (λc3=>?_)
 rotate_left
 ·have:j=8:=by omega
  subst this
  obtain⟨k,f1,f2,rfl⟩:=next _ (et (fa c2 hno)).symm
  refine Qd ?_
  exact⟨i+1,f1,f2,Qbh,Tv⟩
 have hj8:j<8:=by omega
 have hskip:¬vi g (zj g l c s) c d i j->∃k:Nat,8-k<8-j/\(k<=8/\vp S b b2 g.T.length d (Ak g (zj g l c s) c d i)=vp S b b2 g.T.length d (Ak g (zj g l c s) c d i)/\∀w,w<k->¬vi g (zj g l c s) c d i w)/\k=j+1:=λhh=>⟨j+1,by omega,⟨by omega,rfl,λw hw=>by
  by_cases e:w=j
  ·subst e;exact hh
  ·exact hno w (by omega)⟩,rfl⟩
 have hyes:vi g (zj g l c s) c d i j->qr g (zj g l c s) c d i=(j:Int):=λhh=>ez c2 hj8 hh hno
 refine⟨j,rfl,hj8,?_⟩
 refine za _ (P4 hj8) ?_
 refine io hg (hfo _) i hlt j hj8 _ ?_
 have hsb:=Oz g (zj g l c s) c i j
 have hor:=R4 hg (t:=i) hj8
 have hfr:0<yv g (zj g l c s) c i j->0<=yc g i j:=λhp=>(bm (Vk (g:=g) (ok:=zj g l c s) (c:=c) (t:=i) (way:=j) (by omega))).1
 unfold vi at hskip hyes
 generalize yv g (zj g l c s) c i j=C at*
 generalize yc g i j=U at*
 refine bcd (λc4=>?_) (λc4=>?_)
 rotate_left
 ·obtain⟨k,f1,f2,rfl⟩:=hskip (λhh=>c4 hh.1)
  refine Qd ?_
  exact⟨j+1,f1,f2,Qbh,⟨rfl,Tv⟩⟩
 have hU0:=hfr c4
 obtain⟨u,rfl,hul⟩:∃u:Nat,U=(u:Int)/\u<g.T.length:=by
  rcases hor with h1|h1
  ·omega
  ·exact h1
 rw[Fa0]at hskip hyes
 have hdu:=hdb u
 refine⟨u,rfl,hul,?_⟩
 refine za (o:=(vp S b b2 g.T.length d _).obj b) _ (hfd _) ?_
 refine za _ (jx hul) ?_
 refine bcd (λc5=>?_) (λc5=>?_)
 rotate_left
 ·obtain⟨k,f1,f2,rfl⟩:=hskip (λhh=>c5 hh.2.1)
  refine Qd ?_
  exact⟨j+1,f1,f2,Qbh,⟨rfl,Tv⟩⟩
 refine⟨u,rfl,hul,?_⟩
 refine za (o:=(vp S b b2 g.T.length d _).obj b) _ (hfd _) ?_
 refine za _ (jx hul) ?_
 refine Qd ?_
 refine zy (λc6=>?_) (λc6=>?_)
 rotate_left
 ·obtain⟨k,f1,f2,rfl⟩:=hskip (λhh=>c6 hh.2.2)
  refine Qd ?_
  exact⟨j+1,f1,f2,Qbh,⟨rfl,Tv⟩⟩
 have hw:=hyes ⟨c4,c5,c6⟩
 refine⟨i,rfl,hlt,?_⟩
 refine yj (i:=ti2) (v:=int (j:Nat)) (b:=b2) (o:=0+i*1) (l:=il g.T.length (Ak g (zj g l c s) c d i)) (st2:=vp S b b2 g.T.length d (Ak g (zj g l c s) c d (i+1))) rfl rfl rfl (hff _) (by rw[qx];omega) ?_ ?_
 ·rw[Gf _ _ _ _ hlt,hsf,ew,hw]
 obtain⟨k,f1,f2,rfl⟩:=next _ rfl
 refine Qd ?_
 exact⟨i+1,f1,f2,Qbh,Tv⟩
section
variable {gv v o0 o1 o2 q0 q1 q2:AV} {F G F':Store} {mb p i:Nat} {w:Wld}
def G8:AV:=.s (.iface 147 (.agg #[]))
structure MoverG(gv:AV)(F G:Store)(mb s p:Nat)(w:Wld)(v:AV)(L:List Ent)(o0 o1 o2:AV):Prop where
 S:StandR F G s p w v L o0 o1 o2
 hx:G.obj mb=some (.cells [ptr s,gv])
 ox:wj v mb
 os:wj v s
 hL:L.length<=w.U.length
 hF:Dj w L
abbrev Mover(F G:Store)(mb s p:Nat)(w:Wld)(v:AV)(L:List Ent)(o0 o1 o2:AV):Prop:=MoverG G8 F G mb s p w v L o0 o1 o2
theorem MoverG.ne{s:Nat}{L:List Ent}(h:MoverG gv F G mb s p w v L o0 o1 o2):mb≠s:=λe=>by
 have:=h.S.hs
 rw[<-e,h.hx]at this
 cases this
theorem MoverG.m{s:Nat}{w':Wld}{L:List Ent}(h:MoverG gv F G mb s p w v L o0 o1 o2):(F'.un (svS G s w' v q0 q1 q2 p)).obj mb=some (.cells [ptr s,gv]):=
 zg (by
  show(G.sO s _).obj mb=_
  rw[zi h.ne]
  exact h.hx)
theorem MoverG.s{s:Nat}{L:List Ent}(h:MoverG gv F G mb s p w v L o0 o1 o2):(F'.un (svS G s w v q0 q1 q2 p)).obj s=some (.cells (svC w v q0 q1 q2 p)):=zg (Co _ _ _ _ _ _ _ _)
theorem MoverG.put{G':Store}{s:Nat}{L:List Ent}(h:MoverG gv F G mb s p w v L o0 o1 o2)(hr:yq w.U)(hi:i<w.U.length){u:Unt}(hid:w.U[i].id=u.id)(g1:StandR F' G' s p {w with U:=w.U.set i u} v (Hn L u) q0 q1 q2)
  (g2:∀q,wj v q->G'.obj q=G.obj q):MoverG gv F' G' mb s p (ye w u) v (Hn L u) q0 q1 q2:=by
 rw[Ar hr hi hid.symm]
 have hF3:=zw1 h.hF hr hi (u:=u) hid
 refine⟨g1,by rw[g2 mb h.ox];exact h.hx,h.ox,h.os,?_,hF3⟩
 obtain⟨_,_,_,_,_,_,_,_,inv⟩:=g1.hc
 exact zw2 inv.n1 hF3
theorem Wr{s:Nat}{L:List Ent}(hW:MoverG gv F G mb s p w v L o0 o1 o2)(hm:MayF w)(hn:∀u∈w.U,u.pos.ok)(hi:i<w.U.length)(u:Unt)(hid:w.U[i].id=u.id)(hp:u.pos.ok)(R:Ja)
  (h:∀F' G' L',MoverG gv F' G' mb s p (ye w u) v L' o0 o1 o2->R (.tup []) (F'.un (svS G' s (ye w u) v o0 o1 o2 p))):
  Jb 111 [ptr s,.agg (zf u)] (F.un (svS G s w v o0 o1 o2 p)) R:=by
 have hU:=hm.hU
 refine zv3 hW.S hW.os hm.hr (by omega) (by have:=hW.hL;omega) (Wl hW.hF hn) hi u hid hp R λF' G' g1 g2=>?_
 have e:=Ar (w:=w) hm.hr hi hid.symm
 have:=h F' G' _ (hW.put hm.hr hi hid g1 g2)
 rw[e]at this
 exact this
theorem gq{s:Nat}{L:List Ent}(hW:MoverG gv F G mb s p w v L o0 o1 o2)(hm:MayF w)(hn:∀u∈w.U,u.pos.ok)(hi:i<w.U.length)(d:Vc)(hd:d.ok)(R:Ja)
  (h:∀F' G' L' q0 q1 q2,MoverG gv F' G' mb s p (xg w w.U[i] d) v L' q0 q1 q2->R (int (ww w w.U[i] d)) (F'.un (svS G' s (xg w w.U[i] d) v q0 q1 q2 p))):
  Jb 64 [ptr mb,.agg (zf w.U[i]),.agg (zo d)] (F.un (svS G s w v o0 o1 o2 p)) R:=by
 have hU:=hm.hU
 have hB:=hm.hB
 have hnd:=fm hd
 have hpk:=hn _ (Faa hi)
 unfold xg ww at h
 have hhalf:=λk=>ta hnd k
 have hzero:=λn k=>zdz (w:=w) (u:=w.U[i]) (v:=qm d) (n:=n) (k:=k)
 have hnext:=λn k=>zd1 (w:=w) (u:=w.U[i]) (v:=qm d) (n:=n) (k:=k)
 have hsome:=λn k=>zd0 (w:=w) (u:=w.U[i]) (v:=qm d) (n:=n) (k:=k)
 have hhv:∀k,jy (qm d) k=((qm d).1.tdiv ((2^k:Nat):Int),(qm d).2.tdiv ((2^k:Nat):Int)):=λk=>rfl
 refine Qa (c:=cfg 53) zb Tryz.func64 ?_
 refine fo d _ _ ?_
 generalize qm d=nd at*
 refine AWp.loop (σ:=Nat×Store×AV×AV×AV) ⟨λx=>[(0,.av (ptr mb)),(4,.bx 4 0),(5,.bx 5 0),(12,.av (int (x.1:Nat)))],λ_=>[(4,zf w.U[i]),(5,zo nd)],
  λx st'=>x.1<=5/\st'=x.2.1.un (svS G s w v x.2.2.1 x.2.2.2.1 x.2.2.2.2 p)/\StandR x.2.1 G s p w v L x.2.2.1 x.2.2.2.1 x.2.2.2.2/\qb w w.U[i] nd 5 0=qb w w.U[i] nd (5-x.1) x.1,λx=>5-x.1⟩ zb ?_ ?_
 ·exact⟨(0,F,o0,o1,o2),Tv,⟨Fag _,rfl,hW.S,rfl⟩,Qbh,⟨rfl,rfl,Tv⟩⟩
 rintro⟨k,F1,q0,q1,q2⟩ st' ⟨hk,rfl,hS1,hT⟩
 dsimp only at hk hS1 hT⊢
 refine bcd (λc1=>?_) (λc1=>?_)
 rotate_left
 ·have:k=5:=by omega
  subst this
  have hT:qb w w.U[i] nd 5 0=none:=hT
  rw[hT]at h
  exact ret (h F1 G L q0 q1 q2 ⟨hS1,hW.hx,hW.ox,hW.os,hW.hL,hW.hF⟩)
 have hk5:k<5:=by omega
 obtain⟨n,hn5⟩:∃n,5-k=n+1:=⟨4-k,by omega⟩
 rw[hn5]at hT
 have hsh:=lj hk5
 have hkv:=hhv k
 have hh:=hhalf k
 have hp2:((2^k:Nat):Int)≠0:=by have:0<2^k:=Nat.pow_pos (by decide);omega
 rw[<-hsh]at hkv hp2
 have hh1:yl (nd.1.tdiv (IntKind.i64.wrap (1*2^(min ((k:Int)).toNat IntKind.i64.bits)))):=by
  have:=hh.1
  rw[hkv]at this
  exact⟨by dsimp only at this;omega,by dsimp only at this;omega⟩
 have hh2:yl (nd.2.tdiv (IntKind.i64.wrap (1*2^(min ((k:Int)).toNat IntKind.i64.bits)))):=by
  have:=hh.2
  rw[hkv]at this
  exact⟨by dsimp only at this;omega,by dsimp only at this;omega⟩
 have hz0:=hzero n k
 have hnx:=hnext n k
 have hsm:=hsome n k
 refine Qc zb zp5 ?_
 refine⟨by omega,?_⟩
 refine⟨hp2,ze hh1 ?_⟩
 refine⟨by omega,?_⟩
 refine⟨hp2,ze hh2 ?_⟩
 refine⟨⟨?_,?_⟩,Tv⟩
 ·repeat(first|exact Tv|refine⟨rfl,?_⟩|refine⟨⟨by omega,rfl⟩,?_⟩|refine⟨⟨hp2,ze hh1 rfl⟩,?_⟩|refine⟨⟨hp2,ze hh2 rfl⟩,?_⟩)
 refine Qbl ?_
 rw[hkv]at hz0 hnx hsm hh
 generalize nd.1.tdiv (IntKind.i64.wrap (1*2^(min ((k:Int)).toNat IntKind.i64.bits)))=a at*
 generalize nd.2.tdiv (IntKind.i64.wrap (1*2^(min ((k:Int)).toNat IntKind.i64.bits)))=b at*
 refine zh (λc2=>?_) (λc2=>?_)
 ·have e:(a,b)=((0:Int),(0:Int)):=by
   simp only[Fav,beq_iff_eq]at c2
   exact Prod.ext c2.1 c2.2.1
  rw[hz0 e]at hT
  rw[hT]at h
  exact ret (h F1 G L q0 q1 q2 ⟨hS1,hW.hx,hW.ox,hW.os,hW.hL,hW.hF⟩)
 have hne:(a,b)≠((0:Int),(0:Int)):=λe=>by
  cases e
  exact absurd c2 (by decide)
 refine fz w.U[i].pos (a,b) hpk (Pq hh) _ _ ?_
 have hnp:=Pq (pq w.U[i].pos (a,b))
 have hnx:=hnx hne
 have hsm:=hsm hne
 generalize q9 w.U[i].pos (a,b)=np at*
 refine Qc zb zp4 ?_
 refine za (o:=(F1.un (svS G s w v q0 q1 q2 p)).obj mb) _ hW.m ?_
 refine⟨zn8 hS1 hm.hg (by omega) hm.hb hm.hr (by omega) hn hW.hL hW.hF w.U[i].id w.U[i].kind np hnp _ (λz F2 a0 a1 a2 hz hS2=>⟨Tv,?_⟩),Tv⟩
 refine zh (λc3=>?_) (λc3=>?_)
 rotate_left
 ·rw[hnx (λhh=>by rw[hz.2 hh]at c3;cases c3)]at hT
  refine Qd ?_
  refine⟨(k+1,F2,a0,a1,a2),?_,⟨by dsimp only;omega,rfl,hS2,?_⟩,Qbh,⟨rfl,rfl,Tv⟩⟩
  ·show 5-(k+1)<5-k
   omega
  ·show qb w w.U[i] nd 5 0=qb w w.U[i] nd (5-(k+1)) (k+1)
   rw[hT]
   congr 1
   omega
 rw[hsm (hz.1 c3)]at hT
 rw[hT]at h
 have hW2:MoverG gv F2 G mb s p w v L a0 a1 a2:=⟨hS2,hW.hx,hW.ox,hW.os,hW.hL,hW.hF⟩
 refine Qc zb zp6 ?_
 refine za (o:=(F2.un (svS G s w v a0 a1 a2 p)).obj mb) _ hW.m ?_
 refine⟨Wr hW2 hm hn hi {w.U[i]with pos:=np} rfl hnp _ (λF3 G3 L3 hW3=>⟨Tv,?_⟩),Tv⟩
 exact ret (h F3 G3 L3 a0 a1 a2 hW3)
end
section
variable {gv v o0 o1 o2:AV} {F G:Store} {mb s p i:Nat} {w:Wld}
theorem yci{L:List Ent}(hW:MoverG gv F G mb s p w v L o0 o1 o2)(hm:MayF w)(hn:∀u∈w.U,u.pos.ok)(hi:i<w.U.length)(u:Unt)(hid:w.U[i].id=u.id)(hp:u.pos.ok)(z:Int)(R:Ja)
  (h:∀F' G' L',MoverG gv F' G' mb s p (ye w (xq z u)) v L' o0 o1 o2->R (.tup []) (F'.un (svS G' s (ye w (xq z u)) v o0 o1 o2 p))):
  Jb 142 [ptr mb,.agg (zf u),int z] (F.un (svS G s w v o0 o1 o2 p)) R:=by
 refine Qa (c:=cfg 17) zb Tryz.func142 ?_
 refine Qc zb zr6 ?_
 refine za (o:=(F.un (svS G s w v o0 o1 o2 p)).obj mb) _ hW.m ?_
 refine⟨Wr hW hm hn hi (xq z u) hid hp _ (λF3 G3 L3 hW3=>⟨Tv,?_⟩),Tv⟩
 exact ret (h F3 G3 L3 hW3)
theorem zzu{L:List Ent}(hW:MoverG gv F G mb s p w v L o0 o1 o2)(hm:MayF w)(hn:∀u∈w.U,u.pos.ok)(hmap:∀u∈w.U,u.inn=0->xc u.pos)(hi:i<w.U.length)(h0:w.U[i].inn=0)(R:Ja)
  (h:∀F' G' L' q0 q1 q2,MoverG gv F' G' mb s p (Cy w w.U[i]) v L' q0 q1 q2->R (.tup []) (F'.un (svS G' s (Cy w w.U[i]) v q0 q1 q2 p))):
  Jb 88 [ptr mb,.agg (zf w.U[i])] (F.un (svS G s w v o0 o1 o2 p)) R:=by
 have hU:=hm.hU
 have hpu:=hmap _ (Faa hi) h0
 have hkr:=Bl w.U[i].kind
 have hks:=Ks w.U[i].kind
 have htiny:=su hpu (λx hx h1=>hmap x hx h1) hU
 have hidl:=λ(us:List Unt) (h1:Ij w w.U[i].pos (zv w.U[i].kind+16384+81920) us) h2=>zzt (u:=w.U[i]) hm.hr h1 h2
 unfold Cy at h
 refine Qa (c:=cfg 55) zb Tryz.func88 ?_
 refine vm _ _ _ ?_
 refine Qc zb zo9 ?_
 refine za (o:=(F.un (svS G s w v o0 o1 o2 p)).obj mb) _ hW.m ?_
 refine Qd ?_
 refine⟨la hW.S hm.hr (by omega) hn hW.hL hW.hF w.U[i].pos (vy hpu) (zv w.U[i].kind+16384) (by omega) _ (λF1 us hS1 hus hss hul=>⟨Tv,?_⟩),Tv⟩
 have hW1:MoverG gv F1 G mb s p w v L o0 o1 o2:=⟨hS1,hW.hx,hW.ox,hW.os,hW.hL,hW.hF⟩
 have hid:=hidl us hus hss
 have hnv:∀k,nV ((us.take k).foldl (wy w.U[i]) (0,0)):=λk=>po _ ⟨⟨by decide,by decide⟩,⟨by decide,by decide⟩⟩
 refine AWp.loop (σ:=Nat) ⟨λk=>[(0,.av (ptr mb)),(3,.bx 3 0),(4,.bx 4 0),(5,.bx 5 0),(20,.av (lst 10 zf us)),(21,.av (int (us.length:Nat))),(22,.av (int (k:Nat)))],λk=>[(3,zf w.U[i]),(4,Cb w.U[i].kind),(5,zo ((us.take k).foldl (wy w.U[i]) (0,0)))],
  λk st'=>k<=us.length/\st'=F1.un (svS G s w v o0 o1 o2 p),λk=>us.length-k⟩ zb ?_ ?_
 ·refine⟨0,Tv,⟨Fag _,rfl⟩,⟨Tq,Tq,Tq,Tq,Tq,?_,Tq,Tv⟩,⟨rfl,rfl,rfl,Tv⟩⟩
  exact LV.le_int (by rw[zn])
 rintro k st' ⟨hk,rfl⟩
 refine bcd (λc1=>?_) (λc1=>?_)
 rotate_left
 ·have:k=us.length:=by omega
  have hv:(us.take k).foldl (wy w.U[i]) (0,0)=Ai w w.U[i]:=by
   rw[this,Fap,hid]
  rw[<-hv]at h htiny
  have hq4:(qs w.U[i].kind).tdiv 4=qs w.U[i].kind/4:=Fa7 (by omega)
  refine Qc zb zo7 ?_
  refine⟨by decide,ze (by rw[hq4];omega) ?_⟩
  refine⟨Ru ((us.take k).foldl (wy w.U[i]) (0,0)) ((qs w.U[i].kind).tdiv 4) htiny (by rw[hq4];omega) _ _ ⟨Qe,?_⟩,Tv⟩
  refine⟨gq hW1 hm hn hi _ (H3 htiny) _ (λF3 G3 L3 a0 a1 a2 hW3=>⟨Tv,?_⟩),Tv⟩
  exact ret (h F3 G3 L3 a0 a1 a2 hW3)
 have hlt:k<us.length:=by omega
 have hx:=(hus us[k]).1 (Faa hlt)
 have hpx:=hmap _ hx.1.1 hx.1.2
 have hkx:=Bl us[k].kind
 refine⟨k,rfl,za _ (zm hlt) ?_⟩
 have hstep:(us.take (k+1)).foldl (wy w.U[i]) (0,0)=wy w.U[i] ((us.take k).foldl (wy w.U[i]) (0,0)) us[k]:=by
  rw[Fac hlt,List.foldl_append]
  rfl
 refine qj (λc2=>?_) (λc2=>?_)
 rotate_left
 ·have hst:(us.take (k+1)).foldl (wy w.U[i]) (0,0)=(us.take k).foldl (wy w.U[i]) (0,0):=by
   rw[hstep]
   unfold wy
   rw[if_neg (λhh=>hh c2)]
  refine Qd ?_
  refine⟨k+1,?_,⟨hlt,rfl⟩,Qbh,⟨rfl,rfl,congrArg (λx=>some (zo x)) hst.symm,Tv⟩⟩
  show us.length-(k+1)<us.length-k
  omega
 have hst:(us.take (k+1)).foldl (wy w.U[i]) (0,0)=q9 ((us.take k).foldl (wy w.U[i]) (0,0)) (ju w.U[i].pos (zv w.U[i].kind+zv us[k].kind+16384) us[k].pos):=by
  rw[hstep]
  unfold wy
  rw[if_pos c2]
 have hps:=Pj hpu hpx (r:=zv w.U[i].kind+zv us[k].kind+16384) (by omega)
 have hnk:=hnv k
 refine Qc zb zo8 ?_
 refine⟨vm _ _ _ ⟨Qe,?_⟩,Tv⟩
 refine Qd ?_
 refine Qd ?_
 refine⟨zor w.U[i].pos (zv w.U[i].kind+zv us[k].kind+16384) us[k].pos hpu hpx (by omega) _ _ ⟨Qe,?_⟩,Tv⟩
 refine⟨fz _ _ (Pq hnk) ⟨⟨by omega,by omega⟩,⟨by omega,by omega⟩⟩ _ _ ⟨Qe,?_⟩,Tv⟩
 refine Qbk ?_
 refine Qd ?_
 refine⟨k+1,?_,⟨hlt,rfl⟩,Qbh,⟨rfl,rfl,congrArg (λx=>some (zo x)) hst.symm,Tv⟩⟩
 show us.length-(k+1)<us.length-k
 omega
end
theorem oc(w:World)(T:Nat->Nat->Prop):VRel w T (.agg []) (.agg #[]):=.agg [] #[] rfl (λi x y hx=>by simp at hx)
theorem zxg : Hc Tryz.prog 147 "Net" 326 false = true := by kernel_rfl
theorem zcn : Hc Tryz.prog 147 "Ways" 327 false = true := by kernel_rfl
theorem zxh : Meets Tryz.prog 147 (.agg #[]) "Net" 326 (.agg []) := Meets.valB zxg oc
theorem zco : Meets Tryz.prog 147 (.agg #[]) "Ways" 327 (.agg []) := Meets.valB zcn oc
theorem zwd(g:Gnd)(hg:zr g)(l:List Bld)(hl:l.length<=1000000000000)(hb:∀b∈l,yg b/\onP g b)(c s:Int)(hs:0<=s/\s<=3)(st:Store)(R:Ja)(h:∀b,Fresh st b->R (ptr b) (st.sO b (.cells (xo g l c s)))):
  Jb 326 [.agg [],.agg (zp g),lst 6 zk l,int c,int s] st R:=by
 refine Qa (c:=cfg 16) zb Tryz.func326 ?_
 refine bp g hg l hl hb c s hs _ _ (λb hf=>?_)
 exact ret (h b hf)
theorem zv2(g:Gnd)(hg:zr g)(l:List Bld)(hl:l.length<=1000000000000)(hb:∀b∈l,yg b/\onP g b)(c s:Int)(hs:0<=s/\s<=3)(goal:Nat)(hgo:goal<g.T.length)(st:Store)(R:Ja)
  (h:∀b,Fresh st b->R (.s (.slice (some ⟨b,0,none⟩) g.T.length g.T.length)) (st.sO b (.cells (il g.T.length (qr g (zj g l c s) c (qy g (zj g l c s) c goal)))))):
  Jb 327 [.agg [],.agg (zp g),lst 6 zk l,int c,int s,int (goal:Nat)] st R:=by
 refine Qa (c:=cfg 20) zb Tryz.func327 ?_
 refine bp g hg l hl hb c s hs _ _ (λnb hf=>?_)
 refine gw hg (zd _ _ _) goal hgo _ (λb hf2=>?_)
 have hnb:nb≠b:=λe=>by
  have:=hf2.1
  rw[<-e,zd]at this;cases this
 have hfb:Fresh st b:=by
  have:=hf2
  unfold Fresh at this⊢
  rw[zi (Ne.symm hnb)]at this
  exact this
 refine By (Tt) ?_ (h b hfb)
 rw[Ia (Ne.symm hnb)]
 refine Fk ?_
 rw[zi hnb]
 exact hf.1
theorem zzl{S:Store}{b n:Nat}{f:Nat->Int}(hb:S.obj b=some (.cells (il n f)))(hn:n<=1000000)(x:Int)(R:Ja)(h:∀r:Int,((0:Int)<=r↔(List.range n).any (λj=>f j==x)=true)->R (int r) S):
  Jb 219 [.s (.slice (some ⟨b,0,none⟩) n n),int x] S R:=by
 refine Qa (c:=cfg 19) zb Tryz.func219 ?_
 refine AWp.loop (σ:=Nat) ⟨λi=>[(0,.av (.s (.slice (some ⟨b,0,none⟩) n n))),(1,.av (int x)),(7,.av (int (n:Nat))),(8,.av (int (i:Nat)))],λ_=>[],
  λi st'=>i<=n/\st'=S/\∀j,j<i->(f j==x)=false,λi=>n-i⟩ zb ?_ ?_
 ·exact⟨0,Tv,⟨Fag _,rfl,λj hj=>absurd hj (Fa2 j)⟩,Qbh,Tv⟩
 rintro i st' ⟨hi,rfl,hall⟩
 refine bcd (λc1=>?_) (λc1=>?_)
 rotate_left
 ·have:i=n:=by omega
  subst this
  refine ret (h (-1) ?_)
  rw[yft hall]
  simp
 have hlt:i<n:=by omega
 refine⟨i,rfl,hlt,?_⟩
 refine Qbm ?_
 refine za _ (jx hlt) ?_
 refine zy (λc2=>?_) (λc2=>?_)
 ·refine ret (h i ?_)
  rw[yfu hlt (by rw[c2];simp)]
  simp
 ·refine Qd ?_
  refine⟨i+1,?_,⟨by omega,rfl,λj hj=>?_⟩,Qbh,Tv⟩
  ·show n-(i+1)<n-i
   omega
  ·by_cases e:j=i
   ·subst e
    rw[beq_eq_false_iff_ne]
    exact λe=>c2 e.symm
   ·exact hall j (by omega)
theorem ydt{S:Store}{b n:Nat}{f:Nat->Int}(hb:S.obj b=some (.cells (il n f)))(hn:n<=1000000)(x:Int)(R:Ja)(h:R (V.bool ((List.range n).any (λj=>f j==x))) S):
  Jb 187 [.s (.slice (some ⟨b,0,none⟩) n n),int x] S R:=by
 refine Qa (c:=cfg 9) zb Tryz.func187 ?_
 refine zzl hb hn x _ (λr hr=>?_)
 have e:decide (r>=0)=(List.range n).any (λj=>f j==x):=by
  rw[Fbq,decide_eq_true_iff]
  exact hr
 rw[<-e]at h
 exact ret h
end Go.Proofs
namespace Go.Proofs
open Go Go.V
set_option maxRecDepth 20000
set_option maxHeartbeats 4000000
theorem Kk{g:Gnd}(hg:zr g){t:Int}(h:wg g t):t=-1\/∃k:Nat,t=k/\k<g.T.length:=by
 rcases h with h|⟨h1,h2⟩
 ·exact .inl h
 ·obtain⟨k,rfl⟩:=Fb3 h1
  exact .inr ⟨k,rfl,by have:=hg.2.2.1;omega⟩
theorem zdy{w:Wld}{u:Unt}{d:Vc}(h:¬ww w u d<5):xg w u d=w:=by
 unfold ww at h
 unfold xg
 cases hl:qb w u (qm d) 5 0 with
 |none=>rfl
 |some r=>
  rw[hl]at h
  obtain⟨k,q⟩:=r
  have:=(Ol _ _ hl).2.1.2
  dsimp only at this h
  exact absurd (by omega) h
section
variable {a g X N:Store} {gx:Value} {M n mb p:Nat} {w:Wld} {c:Int} {v o0 o1 o2:AV}
abbrev gvOf(gt:TypeId)(gx:Value):AV:=.s (.iface gt gx)
theorem Kh(hd:zl a g):a.un g=g.un a:=by
 show Store.mk _ _=Store.mk _ _
 congr 1
 ·funext i
  show(match g.obj i with|some x=>some x|none=>a.obj i)=match a.obj i with|some x=>some x|none=>g.obj i
  cases h1:a.obj i with
  |none=>cases g.obj i<;>rfl
  |some x=>rw[(vx (hd i (ji h1))).1]
 ·funext i
  show(match g.tok i with|some x=>some x|none=>a.tok i)=match a.tok i with|some x=>some x|none=>g.tok i
  cases h1:a.tok i with
  |none=>cases g.tok i<;>rfl
  |some x=>rw[(vx (hd i (Nj h1))).2]
theorem Ln(h:zl a g):zl g a:=λb h1 h2=>h b h2 h1
structure GuideK(gt:TypeId)(gx:Value)(K:Nat->Store->Prop)(M:Nat)(w:Wld):Prop where
 net:∀{n:Nat} {N:Store} {c s:Int},K n N->(c=0\/c=1\/c=2)->(0<=s/\s<=3)->∀R:AV->Store->Prop,(∀b N',K n N'->N'.obj b=some (.cells (xo w.G w.B c s))->R (ptr b) N')->
  ∃ g x, Meets Tryz.prog gt gx "Net" g x /\ Jb g [x, .agg (zp w.G), lst 6 zk w.B, int c, int s] N R
 ways:∀{n:Nat} {N:Store} {c s:Int},K n N->n<M->(c=0\/c=1\/c=2)->(0<=s/\s<=3)->∀goal:Nat,goal<w.G.T.length->∀R:AV->Store->Prop,
  (∀b N',K (n+1) N'->N'.obj b=some (.cells (il w.G.T.length (qr w.G (zj w.G w.B c s) c (qy w.G (zj w.G w.B c s) c goal))))->R (.s (.slice (some ⟨b,0,none⟩) w.G.T.length w.G.T.length)) N')->
  ∃ g x, Meets Tryz.prog gt gx "Ways" g x /\ Jb g [x, .agg (zp w.G), lst 6 zk w.B, int c, int s, int (goal : Nat)] N R
theorem GuideK.netX{gt:TypeId}{K:Nat->Store->Prop}(hG:GuideK gt gx K M w)(hd:zl X N)(hK:K n N){s:Int}(hc:c=0\/c=1\/c=2)(hs:0<=s/\s<=3)(R:Ja)
  (h : ∀ b N2, zl X N2 -> K n N2 -> N2.obj b = some (.cells (xo w.G w.B c s)) -> R (ptr b) (X.un N2)) : ∃ g x, Meets Tryz.prog gt gx "Net" g x /\ Jb g [x, .agg (zp w.G), lst 6 zk w.B, int c, int s] (X.un N) R := by
 obtain⟨g,x,hm,hcl⟩:=hG.net hK hc hs (λr S=>∃b,r=ptr b/\K n S/\S.obj b=some (.cells (xo w.G w.B c s))) (λb N' h1 h2=>⟨b,rfl,h1,h2⟩)
 refine⟨g,x,hm,?_⟩
 rw[Kh hd]
 refine ACalls.frame (Ln hd) hcl ?_
 rintro r a' ⟨b,rfl,h1,h2⟩ hd2
 rw[Kh hd2]
 exact h b a' (Ln hd2) h1 h2
theorem GuideK.waysX{gt:TypeId}{K:Nat->Store->Prop}(hG:GuideK gt gx K M w)(hd:zl X N)(hK:K n N)(hn:n<M){s:Int}(hc:c=0\/c=1\/c=2)(hs:0<=s/\s<=3)(goal:Nat)(hgo:goal<w.G.T.length)(R:Ja)
  (h:∀b N2,zl X N2->K (n+1) N2->N2.obj b=some (.cells (il w.G.T.length (qr w.G (zj w.G w.B c s) c (qy w.G (zj w.G w.B c s) c goal))))->R (.s (.slice (some ⟨b,0,none⟩) w.G.T.length w.G.T.length)) (X.un N2)):
  ∃ g x, Meets Tryz.prog gt gx "Ways" g x /\ Jb g [x, .agg (zp w.G), lst 6 zk w.B, int c, int s, int (goal : Nat)] (X.un N) R := by
 obtain⟨g,x,hm,hcl⟩:=hG.ways hK hn hc hs goal hgo (λr S=>∃b,r=.s (.slice (some ⟨b,0,none⟩) w.G.T.length w.G.T.length)/\K (n+1) S/\S.obj b=some (.cells (il w.G.T.length (qr w.G (zj w.G w.B c s) c (qy w.G (zj w.G w.B c s) c goal))))) (λb N' h1 h2=>⟨b,rfl,h1,h2⟩)
 refine⟨g,x,hm,?_⟩
 rw[Kh hd]
 refine ACalls.frame (Ln hd) hcl ?_
 rintro r a' ⟨b,rfl,h1,h2⟩ hd2
 rw[Kh hd2]
 exact h b a' (Ln hd2) h1 h2
theorem zyp{gt:TypeId}{K:Nat->Store->Prop}(hG:GuideK gt gx K M w)(hd:zl X N)(hK:K n N){s:Nat}(hmbX:X.obj mb=some (.cells [ptr s,gvOf gt gx]))(hsX:X.obj s=some (.cells (svC w v o0 o1 o2 p)))(hm:MayF w)(u:Unt)(hnx:u.next=-1\/∃t:Nat,u.next=t/\t<w.G.T.length)(own:Nat)(ho:own<w.G.T.length)(R:Ja)
  (h:∀N2,zl X N2->K n N2->R (V.bool (wn w u own)) (X.un N2)):Jb 144 [ptr mb,.agg (zf u),int (own:Nat)] (X.un N) R:=by
 obtain⟨S,hSe⟩:∃S,X.un N=S:=⟨_,rfl⟩
 have hmb:S.obj mb=some (.cells [ptr s,gvOf gt gx]):=hSe▸yr hd hmbX
 have hs:S.obj s=some (.cells (svC w v o0 o1 o2 p)):=hSe▸yr hd hsX
 rw[hSe]
 have hB:=hm.hB
 unfold wn okU at h
 refine Qb (c:=cfg 77 [9] []) zb Tryz.func144 ?_
 refine AWp.seq (AWp.of_vc zb ?_)
 refine AWp.meet (σ:=Unit) ⟨λ_=>[(0,.av (ptr mb)),(2,.av (int (own:Nat))),(4,.bx 4 0),(7,.bx 7 0),(8,.bx 8 0)],λ_=>[(4,zf u),(7,zp w.G),(8,Cb u.kind)],λ_ st'=>st'=S⟩ zb ?_ ?_
 ·refine Qc zb zr5 ?_
  refine Qbm ?_
  refine Qbm ?_
  exact⟨vm _ _ _ ⟨Qe,⟨⟨Qe,⟨⟨Qe,⟨⟨Tv,⟨⟨Tv,⟨(),rfl,Qbh,⟨rfl,rfl,rfl,Tv⟩⟩⟩,Tv⟩⟩,Tv⟩⟩,Tv⟩⟩,⟨⟨Qe,⟨⟨Qe,⟨⟨Tv,⟨⟨Tv,⟨(),rfl,Qbh,⟨rfl,rfl,rfl,Tv⟩⟩⟩,Tv⟩⟩,Tv⟩⟩,Tv⟩⟩,Tv⟩⟩⟩,⟨⟨Qe,⟨vm _ _ _ ⟨Qe,⟨⟨Qe,⟨⟨Tv,⟨⟨Tv,⟨(),rfl,Qbh,⟨rfl,rfl,rfl,Tv⟩⟩⟩,Tv⟩⟩,Tv⟩⟩,Tv⟩⟩,⟨⟨Qe,⟨vm _ _ _ ⟨Qe,⟨⟨Tv,⟨⟨Tv,⟨(),rfl,Qbh,⟨rfl,rfl,rfl,Tv⟩⟩⟩,Tv⟩⟩,Tv⟩⟩,Tv⟩⟩,Tv⟩⟩⟩,⟨⟨Qe,⟨vm _ _ _ ⟨Qe,⟨⟨Qe,⟨⟨Tv,⟨⟨Tv,⟨(),rfl,Qbh,⟨rfl,rfl,rfl,Tv⟩⟩⟩,Tv⟩⟩,Tv⟩⟩,Tv⟩⟩,⟨⟨Qe,⟨vm _ _ _ ⟨Qe,⟨⟨Tv,⟨⟨Tv,⟨(),rfl,Qbh,⟨rfl,rfl,rfl,Tv⟩⟩⟩,Tv⟩⟩,Tv⟩⟩,Tv⟩⟩,Tv⟩⟩⟩,Tv⟩⟩⟩
 rintro _ st' rfl
 refine AWp.of_vc zb ?_
 have hk:=K9 u.kind
 refine Qc zb zr4 ?_
 refine zy (λc1=>?_) (λc1=>?_)
 ·refine Qbk ?_
  refine Qbk ?_
  rw[decide_eq_true c1]at h
  have h0:=h N hd hK
  rw[hSe]at h0
  exact ret h0
 obtain⟨t,ht,htl⟩:∃t:Nat,u.next=t/\t<w.G.T.length:=by
  rcases hnx with h1|h1
  ·exact absurd h1 c1
  ·exact h1
 rw[decide_eq_false c1,ht,Fa0]at h
 refine⟨Ps w.G hm.hg t htl u.next ht _ _ ⟨Qe,?_⟩,Tv⟩
 refine zh (λc2=>?_) (λc2=>?_)
 ·refine Qbk ?_
  have e:u.pos=ya w.G t:=by
   simp only[Fav,beq_iff_eq]at c2
   exact Prod.ext c2.1 c2.2.1
  rw[decide_eq_true e]at h
  have h0:=h N hd hK
  rw[hSe]at h0
  exact ret h0
 have e:¬u.pos=ya w.G t:=λe=>by
  simp only[e,Fc6,beq_eq_false_iff_ne]at c2
  rcases c2 with c2|c2|c2
  ·exact c2 rfl
  ·exact c2 rfl
  ·cases c2
 rw[decide_eq_false e]at h
 refine Qbm ?_
 refine Qbm ?_
 refine Qbm ?_
 subst hSe
 refine⟨hG.netX hd hK (Gd u.kind) hk _ (λb N2 hd2 hK2 hb2=>⟨Qe,?_⟩),Tv⟩
 have hmb2:(X.un N2).obj b=some (.cells (xo w.G w.B (yf u.kind) (qg u.kind))):=zg hb2
 have h0:=h N2 hd2 hK2
 generalize X.un N2=S2 at*
 refine Qbm ?_
 have htl2:t<(blL w.G.T.length (zj w.G w.B (yf u.kind) (qg u.kind))).length:=by rw[xj];exact htl
 refine⟨t,ht,za _ (zm htl2) ?_⟩
 rw[Bb htl]
 refine yd ?_
 refine zh (λc3=>?_) (λc3=>?_)
 rotate_left
 ·rw[c3]at h0
  exact ret h0
 rw[c3]at h0
 refine R3 w.G hm.hg own ho _ _ ?_
 intro b9 hf9
 have e9:zu (List.replicate 8 (int 0)) 0 (il 8 (yc w.G own))=il 8 (yc w.G own):=by
  unfold zu
  rw[qx]
  simp
 refine j2 (i:=ti153) (v:=Lv w.G own) (xs:=il 8 (yc w.G own)) (l:=List.replicate 8 (int 0)) rfl rfl rfl (zd _ _ _) (by rw[qx,Fbj];decide) ?_
 rw[e9,yp]
 have h9:(S2.sO b9 (.cells (il 8 (yc w.G own)))).obj b9=some (.cells (il 8 (yc w.G own))):=zd _ _ _
 have hback2:(S2.sO b9 (.cells (il 8 (yc w.G own)))).Has S2:=Fk hf9.1
 generalize S2.sO b9 (.cells (il 8 (yc w.G own)))=S3 at*
 rw[zxo]at h0
 refine Qc zb zr3 ?_
 refine qj (λc4=>?_) (λc4=>?_)
 rotate_left
 ·refine Qbk ?_
  refine Qbl ?_
  rw[decide_eq_false (λhh=>hh (ht.symm.trans c4))]at h0
  exact By (Tt) hback2 h0
 refine⟨ydt h9 (by decide) u.next _ ⟨Qe,?_⟩,Tv⟩
 refine Qbl ?_
 rw[decide_eq_true (show(t:Int)≠(own:Int)from λhh=>c4 (ht.trans hh))]at h0
 rw[ht]
 exact By (Tt) hback2 h0
theorem zxe{gt:TypeId}{K:Nat->Store->Prop}(hG:GuideK gt gx K M w)(hnM:n<M)(hd:zl X N)(hK:K n N){s:Nat}(hmbX:X.obj mb=some (.cells [ptr s,gvOf gt gx]))(hsX:X.obj s=some (.cells (svC w v o0 o1 o2 p)))(hm:MayF w)(u:Unt)(goal:Nat)(hgo:u.goal=goal)(hgl:goal<w.G.T.length)(own:Nat)(ho:own<w.G.T.length)(R:Ja)
  (h:∀n2 N2,n2<=n+1->zl X N2->K n2 N2->R (int (wk w u own)) (X.un N2)):Jb 145 [ptr mb,.agg (zf u),int (own:Nat)] (X.un N) R:=by
 obtain⟨S,hSe⟩:∃S,X.un N=S:=⟨_,rfl⟩
 have hmb:S.obj mb=some (.cells [ptr s,gvOf gt gx]):=hSe▸yr hd hmbX
 have hs:S.obj s=some (.cells (svC w v o0 o1 o2 p)):=hSe▸yr hd hsX
 rw[hSe]
 have hB:=hm.hB
 unfold wk okU at h
 have hk:=K9 u.kind
 rw[hgo,Fa0]at h
 refine Qb (c:=cfg 60) zb Tryz.func145 ?_
 refine AWp.seq (AWp.of_vc zb ?_)
 refine AWp.meet (σ:=Unit) ⟨λ_=>[(0,.av (ptr mb)),(2,.av (int (own:Nat))),(4,.bx 4 0),(7,.bx 7 0),(8,.bx 8 0)],λ_=>[(4,zf u),(7,zp w.G),(8,Cb u.kind)],λ_ st'=>st'=S⟩ zb ?_ ?_
 ·refine Qc zb zr2 ?_
  refine Qbm ?_
  refine Qbm ?_
  exact⟨vm _ _ _ ⟨Qe,⟨⟨Qe,⟨⟨Qe,⟨⟨Tv,⟨⟨Tv,⟨(),rfl,Qbh,⟨rfl,rfl,rfl,Tv⟩⟩⟩,Tv⟩⟩,Tv⟩⟩,Tv⟩⟩,⟨⟨Qe,⟨⟨Qe,⟨⟨Tv,⟨⟨Tv,⟨(),rfl,Qbh,⟨rfl,rfl,rfl,Tv⟩⟩⟩,Tv⟩⟩,Tv⟩⟩,Tv⟩⟩,Tv⟩⟩⟩,⟨⟨Qe,⟨vm _ _ _ ⟨Qe,⟨⟨Qe,⟨⟨Tv,⟨⟨Tv,⟨(),rfl,Qbh,⟨rfl,rfl,rfl,Tv⟩⟩⟩,Tv⟩⟩,Tv⟩⟩,Tv⟩⟩,⟨⟨Qe,⟨vm _ _ _ ⟨Qe,⟨⟨Tv,⟨⟨Tv,⟨(),rfl,Qbh,⟨rfl,rfl,rfl,Tv⟩⟩⟩,Tv⟩⟩,Tv⟩⟩,Tv⟩⟩,Tv⟩⟩⟩,⟨⟨Qe,⟨vm _ _ _ ⟨Qe,⟨⟨Qe,⟨⟨Tv,⟨⟨Tv,⟨(),rfl,Qbh,⟨rfl,rfl,rfl,Tv⟩⟩⟩,Tv⟩⟩,Tv⟩⟩,Tv⟩⟩,⟨⟨Qe,⟨vm _ _ _ ⟨Qe,⟨⟨Tv,⟨⟨Tv,⟨(),rfl,Qbh,⟨rfl,rfl,rfl,Tv⟩⟩⟩,Tv⟩⟩,Tv⟩⟩,Tv⟩⟩,Tv⟩⟩⟩,Tv⟩⟩⟩
 rintro _ st' rfl
 refine AWp.of_vc zb ?_
 refine Qc zb zr1 ?_
 refine⟨Ps w.G hm.hg own ho (own:Nat) rfl _ _ ⟨Qe,?_⟩,Tv⟩
 refine yd ?_
 refine zh (λc2=>?_) (λc2=>?_)
 rotate_left
 ·have e:u.pos≠ya w.G own:=λe=>by
   simp only[e,Fc6,beq_eq_false_iff_ne]at c2
   rcases c2 with c2|c2|c2
   ·exact c2 rfl
   ·exact c2 rfl
   ·cases c2
  rw[if_pos e]at h
  have h0:=h n N (Fdq n) hd hK
  rw[hSe]at h0
  exact ret h0
 have e:¬u.pos≠ya w.G own:=λe=>e (by
  simp only[Fav,beq_iff_eq]at c2
  exact Prod.ext c2.1 c2.2.1)
 rw[if_neg e]at h
 dsimp only at h
 refine Qc zb zr0 ?_
 refine Qbm ?_
 refine Qbm ?_
 refine Qbm ?_
 refine⟨?_,Tv⟩
 subst hSe
 show∃g x,Meets _ _ _ _ g x/\ACalls _ g [x,_,_,_,_,int u.goal] _ _
 rw[hgo]
 refine hG.waysX hd hK hnM (Gd u.kind) hk goal hgl _ (λb N2 hd2 hK2 hb2=>⟨Qe,?_⟩)
 have hmb2:(X.un N2).obj b=some (.cells (il w.G.T.length (qr w.G (zj w.G w.B (yf u.kind) (qg u.kind)) (yf u.kind) (qy w.G (zj w.G w.B (yf u.kind) (qg u.kind)) (yf u.kind) goal)))):=zg hb2
 have h0:=h (n+1) N2 (Faj _) hd2 hK2
 generalize X.un N2=S2 at*
 have hway:=zcx w.G (zj w.G w.B (yf u.kind) (qg u.kind)) (yf u.kind) (qy w.G (zj w.G w.B (yf u.kind) (qg u.kind)) (yf u.kind) goal) own
 have hhd:=jx (f:=qr w.G (zj w.G w.B (yf u.kind) (qg u.kind)) (yf u.kind) (qy w.G (zj w.G w.B (yf u.kind) (qg u.kind)) (yf u.kind) goal)) ho
 refine⟨own,rfl,ho,?_⟩
 refine Qbm ?_
 refine za _ hhd ?_
 generalize qr w.G (zj w.G w.B (yf u.kind) (qg u.kind)) (yf u.kind) (qy w.G (zj w.G w.B (yf u.kind) (qg u.kind)) (yf u.kind) goal) own=W at*
 refine Qbl ?_
 refine bcd (λc3=>?_) (λc3=>?_)
 ·rw[if_pos c3]at h0
  exact ret h0
 rw[if_neg c3]at h0
 obtain⟨j,hj,rfl⟩:∃j:Nat,j<8/\W=(j:Int):=by
  rcases hway with h1|⟨j,h1,h2,_⟩
  ·omega
  ·exact⟨j,h1,h2⟩
 rw[Fa0]at h0
 refine R3 w.G hm.hg own ho _ _ ?_
 refine⟨j,rfl,hj,?_⟩
 refine za _ (P4 hj) ?_
 exact ret h0
end
section
variable {gv v o0 o1 o2:AV} {F G N:Store} {mb s p i M n:Nat} {w:Wld} {gx:Value}
theorem p8{L:List Ent}(hW:MoverG gv F G mb s p w v L o0 o1 o2)(hd:zl (F.un (svS G s w v o0 o1 o2 p)) N)(hm:MayF w)(hn:∀u∈w.U,u.pos.ok)(hi:i<w.U.length)(u:Unt)(hid:w.U[i].id=u.id)(hp:u.pos.ok)(R:Ja)
  (h:∀F' G' L',MoverG gv F' G' mb s p (ye w u) v L' o0 o1 o2->zl (F'.un (svS G' s (ye w u) v o0 o1 o2 p)) N->R (.tup []) ((F'.un (svS G' s (ye w u) v o0 o1 o2 p)).un N)):Jb 111 [ptr s,.agg (zf u)] ((F.un (svS G s w v o0 o1 o2 p)).un N) R:=by
 refine ACalls.frame hd (Wr hW hm hn hi u hid hp (λr S=>∃F' G' L',MoverG gv F' G' mb s p (ye w u) v L' o0 o1 o2/\S=F'.un (svS G' s (ye w u) v o0 o1 o2 p)/\r=.tup []) (λF' G' L' h=>⟨F',G',L',h,rfl,rfl⟩)) ?_
 rintro r a' ⟨F',G',L',h1,rfl,rfl⟩ hd2
 exact h F' G' L' h1 hd2
theorem cf{L:List Ent}(hW:MoverG gv F G mb s p w v L o0 o1 o2)(hd:zl (F.un (svS G s w v o0 o1 o2 p)) N)(hm:MayF w)(hn:∀u∈w.U,u.pos.ok)(hi:i<w.U.length)(u:Unt)(hid:w.U[i].id=u.id)(hp:u.pos.ok)(z:Int)(R:Ja)
  (h:∀F' G' L',MoverG gv F' G' mb s p (ye w (xq z u)) v L' o0 o1 o2->zl (F'.un (svS G' s (ye w (xq z u)) v o0 o1 o2 p)) N->R (.tup []) ((F'.un (svS G' s (ye w (xq z u)) v o0 o1 o2 p)).un N)):Jb 142 [ptr mb,.agg (zf u),int z] ((F.un (svS G s w v o0 o1 o2 p)).un N) R:=by
 refine ACalls.frame hd (yci hW hm hn hi u hid hp z (λr S=>∃F' G' L',MoverG gv F' G' mb s p (ye w (xq z u)) v L' o0 o1 o2/\S=F'.un (svS G' s (ye w (xq z u)) v o0 o1 o2 p)/\r=.tup []) (λF' G' L' h=>⟨F',G',L',h,rfl,rfl⟩)) ?_
 rintro r a' ⟨F',G',L',h1,rfl,rfl⟩ hd2
 exact h F' G' L' h1 hd2
theorem zd3{L:List Ent}(hW:MoverG gv F G mb s p w v L o0 o1 o2)(hd:zl (F.un (svS G s w v o0 o1 o2 p)) N)(hm:MayF w)(hn:∀u∈w.U,u.pos.ok)(hi:i<w.U.length)(d:Vc)(hdv:d.ok)(R:Ja)
  (h:∀F' G' L' q0 q1 q2,MoverG gv F' G' mb s p (xg w w.U[i] d) v L' q0 q1 q2->zl (F'.un (svS G' s (xg w w.U[i] d) v q0 q1 q2 p)) N->R (int (ww w w.U[i] d)) ((F'.un (svS G' s (xg w w.U[i] d) v q0 q1 q2 p)).un N)):Jb 64 [ptr mb,.agg (zf w.U[i]),.agg (zo d)] ((F.un (svS G s w v o0 o1 o2 p)).un N) R:=by
 refine ACalls.frame hd (gq hW hm hn hi d hdv (λr S=>∃F' G' L' q0 q1 q2,MoverG gv F' G' mb s p (xg w w.U[i] d) v L' q0 q1 q2/\S=F'.un (svS G' s (xg w w.U[i] d) v q0 q1 q2 p)/\r=int (ww w w.U[i] d)) (λF' G' L' q0 q1 q2 h=>⟨F',G',L',q0,q1,q2,h,rfl,rfl⟩)) ?_
 rintro r a' ⟨F',G',L',q0,q1,q2,h1,rfl,rfl⟩ hd2
 exact h F' G' L' q0 q1 q2 h1 hd2
theorem zzy{L:List Ent}(hW:MoverG gv F G mb s p w v L o0 o1 o2)(hd:zl (F.un (svS G s w v o0 o1 o2 p)) N)(hm:MayF w)(hn:∀u∈w.U,u.pos.ok)(hmap:∀u∈w.U,u.inn=0->xc u.pos)(hi:i<w.U.length)(h0:w.U[i].inn=0)(R:Ja)
  (h:∀F' G' L' q0 q1 q2,MoverG gv F' G' mb s p (Cy w w.U[i]) v L' q0 q1 q2->zl (F'.un (svS G' s (Cy w w.U[i]) v q0 q1 q2 p)) N->R (.tup []) ((F'.un (svS G' s (Cy w w.U[i]) v q0 q1 q2 p)).un N)):Jb 88 [ptr mb,.agg (zf w.U[i])] ((F.un (svS G s w v o0 o1 o2 p)).un N) R:=by
 refine ACalls.frame hd (zzu hW hm hn hmap hi h0 (λr S=>∃F' G' L' q0 q1 q2,MoverG gv F' G' mb s p (Cy w w.U[i]) v L' q0 q1 q2/\S=F'.un (svS G' s (Cy w w.U[i]) v q0 q1 q2 p)/\r=.tup []) (λF' G' L' q0 q1 q2 h=>⟨F',G',L',q0,q1,q2,h,rfl,rfl⟩)) ?_
 rintro r a' ⟨F',G',L',q0,q1,q2,h1,rfl,rfl⟩ hd2
 exact h F' G' L' q0 q1 q2 h1 hd2
theorem ya2{gt:TypeId}{K:Nat->Store->Prop}(hG:GuideK gt gx K M w)(hnM:n<M){L:List Ent}(hW:MoverG (gvOf gt gx) F G mb s p w v L o0 o1 o2)(hd:zl (F.un (svS G s w v o0 o1 o2 p)) N)(hK:K n N)(hmay:z6 w)(hn:∀u∈w.U,u.pos.ok)(hi:i<w.U.length)(h0:w.U[i].inn=0)(hgo:w.U[i].goal≠-1)(R:Ja)
  (h:∀F' G' L' q0 q1 q2 n2 N2,n2<=n+1->MoverG (gvOf gt gx) F' G' mb s p (Bp w w.U[i]) v L' q0 q1 q2->zl (F'.un (svS G' s (Bp w w.U[i]) v q0 q1 q2 p)) N2->K n2 N2->R (.tup []) ((F'.un (svS G' s (Bp w w.U[i]) v q0 q1 q2 p)).un N2)):
  Jb 89 [ptr mb,.agg (zf w.U[i])] ((F.un (svS G s w v o0 o1 o2 p)).un N) R:=by
 have hm:=jd hmay
 have hut:=Oi hmay hi
 have hon:=Wj hmay hi h0
 have hown:=Pk hmay hi h0
 have hmp:=Dm hmay (Faa hi) h0
 obtain⟨goal,hgq,hgl⟩:∃k:Nat,w.U[i].goal=k/\k<w.G.T.length:=by
  rcases Kk hm.hg hut.2.1.1 with h1|h1
  ·exact absurd h1 hgo
  ·exact h1
 have hnx:=Kk hm.hg hut.2.1.2.1
 have hstk:=hut.2.1.2.2
 have hnt:=Wn (w:=w) hm.hg (u:=w.U[i]) hown
 have hgoes:Bp w w.U[i]=if w.U[i].pos=ya w.G goal then ye w (xq 2 w.U[i])else if wn w w.U[i] (js w.G w.U[i].pos)then(if wk w w.U[i] (js w.G w.U[i].pos)<0 then ye w (xq 3 w.U[i])else wh w {w.U[i]with next:=wk w w.U[i] (js w.G w.U[i].pos)})else wh w w.U[i]:=by
  have e:w.U[i].goal.toNat=goal:=by rw[hgq,Fa0]
  unfold Bp
  rw[e]
 have hlook1:wn w w.U[i] (js w.G w.U[i].pos)=false->w.U[i].next≠-1:=λhh e=>by
  unfold wn at hh
  rw[decide_eq_true e]at hh
  simp at hh
 obtain⟨own,hownE⟩:∃own,js w.G w.U[i].pos=own:=⟨_,rfl⟩
 rw[hownE]at hown hnt hgoes hlook1
 refine Qb (c:=cfg 84) zb Tryz.func89 ?_
 refine AWp.seq (AWp.of_vc zb ?_)
 refine AWp.seq (AWp.of_vc zb ?_)
 refine za (o:=((F.un (svS G s w v o0 o1 o2 p)).un N).obj mb) _ (yr hd hW.m) ?_
 refine za (o:=((F.un (svS G s w v o0 o1 o2 p)).un N).obj s) _ (yr hd hW.s) ?_
 refine AWp.seq (AWp.of_vc zb ?_)
 refine Qc zb zo3 ?_
 refine⟨Ps w.G hm.hg goal hgl w.U[i].goal hgq _ _ ⟨Qe,?_⟩,Tv⟩
 refine zh (λc1=>?_) (λc1=>?_)
 ·have e:w.U[i].pos=ya w.G goal:=by
   simp only[Fav,beq_iff_eq]at c1
   exact Prod.ext c1.1 c1.2.1
  rw[if_pos e]at hgoes
  rw[hgoes]at h
  refine cf hW hd hm hn hi w.U[i] rfl (vy hmp) 2 _ (λF3 G3 L3 hW3 hd3=>?_)
  exact ret (h F3 G3 L3 o0 o1 o2 n N (Fdq n) hW3 hd3 hK)
 have e:¬w.U[i].pos=ya w.G goal:=λe=>by
  simp only[e,Fc6,beq_eq_false_iff_ne]at c1
  rcases c1 with c1|c1|c1
  ·exact c1 rfl
  ·exact c1 rfl
  ·cases c1
 rw[if_neg e]at hgoes
 refine AWp.meet (σ:=Nat×Nat×Store) ⟨λq=>[(0,.av (ptr mb)),(3,.bx 3 0),(4,.bx 4 0)],λq=>[(3,zf {w.U[i]with next:=(q.1:Int)}),(4,zp w.G)],λq st'=>st'=(F.un (svS G s w v o0 o1 o2 p)).un q.2.2/\q.1<w.G.T.length/\Bp w w.U[i]=wh w {w.U[i]with next:=(q.1:Int)}/\q.2.1<=n+1/\zl (F.un (svS G s w v o0 o1 o2 p)) q.2.2/\K q.2.1 q.2.2⟩ zb ?_ ?_
 ·refine zdh w.G hm.hg w.U[i].pos hon _ _ ?_
  rw[hownE]
  refine zyp hG hd hK hW.m hW.s hm w.U[i] hnx own hown _ (λN2 hd2 hK2=>?_)
  refine zh (λc2=>?_) (λc2=>?_)
  rotate_left
  ·rw[if_neg (by rw[c2];decide)]at hgoes
   obtain⟨t,ht,htl⟩:∃k:Nat,w.U[i].next=k/\k<w.G.T.length:=by
    rcases hnx with h1|h1
    ·exact absurd h1 (hlook1 c2)
    ·exact h1
   have e2:{w.U[i]with next:=(t:Int)}=w.U[i]:=by rw[<-ht]
   refine⟨(t,n,N2),⟨rfl,htl,by dsimp only;rw[e2];exact hgoes,Fdq n,hd2,hK2⟩,Qbh,⟨?_,rfl,Tv⟩⟩
   dsimp only
   rw[e2]
   rfl
  rw[if_pos c2]at hgoes
  refine zxe hG hnM hd2 hK2 hW.m hW.s hm w.U[i] goal hgq hgl own hown _ (λn3 N3 hn3 hd3 hK3=>?_)
  generalize wk w w.U[i] own=nx at*
  refine bcd (λc3=>?_) (λc3=>?_)
  ·rw[if_pos c3]at hgoes
   rw[hgoes]at h
   refine cf hW hd3 hm hn hi {w.U[i]with next:=nx} rfl (vy hmp) 3 _ (λF3 G3 L3 hW3 hd4=>?_)
   exact ret (h F3 G3 L3 o0 o1 o2 n3 N3 hn3 hW3 hd4 hK3)
  rw[if_neg c3]at hgoes
  obtain⟨t,rfl,htl⟩:∃k:Nat,nx=k/\k<w.G.T.length:=by
   rcases Kk hm.hg hnt with h1|h1
   ·omega
   ·exact h1
  exact⟨(t,n3,N3),⟨rfl,htl,hgoes,hn3,hd3,hK3⟩,Qbh,⟨rfl,rfl,Tv⟩⟩
 clear hd hK
 rintro⟨t,n2,N2⟩ st' ⟨rfl,htl,hgoes,hn2,hd,hK⟩
 dsimp only at htl hgoes hn2 hd hK⊢
 rw[hgoes]at h
 have hid:({w.U[i]with next:=(t:Int),stuck:=0}:Unt).id=w.U[i].id:=rfl
 have hmay1:z6 (ye w {w.U[i]with next:=(t:Int),stuck:=0}):=M6 hmay hi h0 rfl (L7 hut hgo (Oo hm.hg htl) (by omega))
 obtain⟨hi1,he1⟩:=Ph hm.hr hi hid
 have hn1:∀x∈(ye w {w.U[i]with next:=(t:Int),stuck:=0}).U,x.pos.ok:=λx hx=>by
  obtain⟨j,hj,rfl⟩:=Fak hx
  rw[Pg]at hj
  by_cases hji:j=i
  ·subst hji
   rw[he1]
   exact vy hmp
  ·rw[nu hm.hr hi hid hj hji]
   exact hn _ (Faa hj)
 have hks:=Ks w.U[i].kind
 have hcm:=dg hm.hg htl
 have hway:=H0 hmp hcm
 unfold wh at h
 dsimp only at h
 rw[Fa0]at h
 have hpp:∀x:Unt,x.id=w.U[i].id->ye (ye w {w.U[i]with next:=(t:Int),stuck:=0}) x=ye w x:=λx hx=>Pf w hx.symm
 refine AWp.of_vc zb ?_
 refine Qc zb zo6 ?_
 refine za (o:=((F.un (svS G s w v o0 o1 o2 p)).un N2).obj mb) _ (yr hd hW.m) ?_
 refine⟨p8 hW hd hm hn hi {w.U[i]with next:=(t:Int),stuck:=0} rfl (vy hmp) _ (λF1 G1 L1 hW1 hd1=>⟨Tv,?_⟩),Tv⟩
 generalize hw1:ye w {w.U[i]with next:=(t:Int),stuck:=0}=w1 at*
 have hm1:=jd hmay1
 have hG1:w1.G=w.G:=by rw[<-hw1];rfl
 have htry:=zd3 hW1 hd1 hm1 hn1 hi1
 rw[he1]at htry
 refine Qc zb zo5 ?_
 refine⟨Ps w.G hm.hg t htl (t:Nat) rfl _ _ ⟨Qe,?_⟩,Tv⟩
 refine⟨vm _ _ _ ⟨Qe,?_⟩,Tv⟩
 refine⟨zd6 w.U[i].pos (ya w.G t) (qs w.U[i].kind) hmp hcm (by omega) _ _ ⟨Qe,?_⟩,Tv⟩
 refine⟨htry (Am w.U[i].pos (ya w.G t) (qs w.U[i].kind)) (H3 hway) _ (λF2 G2 L2 a0 a1 a2 hW2 hd2=>⟨Qe,?_⟩),Tv⟩
 refine bcd (λc4=>?_) (λc4=>?_)
 ·rw[if_pos c4]at h
  exact ret (h F2 G2 L2 a0 a1 a2 n2 N2 hn2 hW2 hd2 hK)
 rw[if_neg c4]at h
 rw[zdy c4]at hW2 hd2⊢
 refine ze (v:=w.U[i].stuck+1) (by omega) ?_
 refine zy (λc5=>?_) (λc5=>?_)
 ·rw[if_pos c5]at h
  refine cf hW2 hd2 hm1 hn1 hi1 {w.U[i]with next:=-1,stuck:=w.U[i].stuck+1} (by rw[he1]) (vy hmp) 4 _ (λF3 G3 L3 hW3 hd3=>?_)
  have e3:=hpp (xq 4 {w.U[i]with next:=-1,stuck:=w.U[i].stuck+1}) rfl
  rw[e3]at hW3 hd3⊢
  exact ret (h F3 G3 L3 a0 a1 a2 n2 N2 hn2 hW3 hd3 hK)
 rw[if_neg c5]at h
 refine Qc zb zo4 ?_
 refine za (o:=((F2.un (svS G2 s w1 v a0 a1 a2 p)).un N2).obj mb) _ (yr hd2 hW2.m) ?_
 refine⟨p8 hW2 hd2 hm1 hn1 hi1 {w.U[i]with next:=-1,stuck:=w.U[i].stuck+1} (by rw[he1]) (vy hmp) _ (λF3 G3 L3 hW3 hd3=>⟨Tv,?_⟩),Tv⟩
 have e3:=hpp {w.U[i]with next:=-1,stuck:=w.U[i].stuck+1} rfl
 rw[e3]at hW3 hd3⊢
 exact ret (h F3 G3 L3 a0 a1 a2 n2 N2 hn2 hW3 hd3 hK)
theorem ge{gt:TypeId}{K:Nat->Store->Prop}(hG:GuideK gt gx K M w)(hnM:n<M){L:List Ent}(hW:MoverG (gvOf gt gx) F G mb s p w v L o0 o1 o2)(hd:zl (F.un (svS G s w v o0 o1 o2 p)) N)(hK:K n N)(hmay:z6 w)(hn:∀u∈w.U,u.pos.ok)(hi:i<w.U.length)(h0:w.U[i].inn=0)(R:Ja)
  (h:∀F' G' L' q0 q1 q2 n2 N2,n2<=n+1->MoverG (gvOf gt gx) F' G' mb s p (xi w w.U[i]) v L' q0 q1 q2->zl (F'.un (svS G' s (xi w w.U[i]) v q0 q1 q2 p)) N2->K n2 N2->R (.tup []) ((F'.un (svS G' s (xi w w.U[i]) v q0 q1 q2 p)).un N2)):
  Jb 44 [ptr mb,.agg (zf w.U[i])] ((F.un (svS G s w v o0 o1 o2 p)).un N) R:=by
 unfold xi at h
 refine Qa (c:=cfg 13) zb Tryz.func44 ?_
 refine zy (λc1=>?_) (λc1=>?_)
 ·rw[if_pos c1]at h
  exact zzy hW hd (jd hmay) hn (λu hu h1=>Dm hmay hu h1) hi h0 _ (λF3 G3 L3 a0 a1 a2 hW3 hd3=>ret (h F3 G3 L3 a0 a1 a2 n N (Fdq n) hW3 hd3 hK))
 ·rw[if_neg c1]at h
  exact ya2 hG hnM hW hd hK hmay hn hi h0 c1 _ (λF3 G3 L3 a0 a1 a2 n2 N2 hn2 hW3 hd3 hK3=>ret (h F3 G3 L3 a0 a1 a2 n2 N2 hn2 hW3 hd3 hK3))
end
section
variable {w:Wld} {i:Nat} {id:Int}
theorem zwg(hm:MayF w):GuideK 147 (.agg #[]) (λ_ _=>True) 1 w:=by
 have hB:=hm.hB
 exact⟨λ{n N c s} _ hc hs R h=>⟨_,_,zxh,zwd w.G hm.hg w.B (by omega) hm.hb c s hs _ _ (λb hf=>h b _ trivial (zd _ _ _))⟩,
  λ{n N c s} _ hn hc hs goal hgo R h=>⟨_,_,zco,zv2 w.G hm.hg w.B (by omega) hm.hb c s hs goal hgo _ _ (λb hf=>h b _ trivial (zd _ _ _))⟩⟩
theorem zdf{F G:Store}{mb s p:Nat}{v:AV}{L:List Ent}{o0 o1 o2:AV}(hW:Mover F G mb s p w v L o0 o1 o2)(hmay:z6 w)(hn:∀u∈w.U,u.pos.ok)(hi:i<w.U.length)(h0:w.U[i].inn=0)(R:Ja)
  (h:∀F' G' L' q0 q1 q2,Mover F' G' mb s p (xi w w.U[i]) v L' q0 q1 q2->R (.tup []) (F'.un (svS G' s (xi w w.U[i]) v q0 q1 q2 p))):
  Jb 44 [ptr mb,.agg (zf w.U[i])] (F.un (svS G s w v o0 o1 o2 p)) R:=by
 have key:=ge (zwg (jd hmay)) (Fcp 0) (N:=Store.empty) hW (λi _ h2=>(h2.elim (λh=>h rfl) (λh=>h rfl):False)) trivial hmay hn hi h0
  (λr S=>∃F' G' L' q0 q1 q2 N2,Mover F' G' mb s p (xi w w.U[i]) v L' q0 q1 q2/\zl (F'.un (svS G' s (xi w w.U[i]) v q0 q1 q2 p)) N2/\r=.tup []/\S=(F'.un (svS G' s (xi w w.U[i]) v q0 q1 q2 p)).un N2) (λF' G' L' q0 q1 q2 n2 N2 _ h1 h2 _=>⟨F',G',L',q0,q1,q2,N2,h1,h2,rfl,rfl⟩)
 rw[Al]at key
 refine ACalls.post key (Store.Le.refl _) ?_
 rintro r S ⟨F',G',L',q0,q1,q2,N2,h1,h2,rfl,rfl⟩
 exact⟨_,_,Tt,(Store.Has.toLe ⟨λb y hy=>yr h2 hy,λb y hy=>Kg h2 hy⟩),h F' G' L' q0 q1 q2 h1⟩
open Classical in
noncomputable def vl(w:Wld)(id:Int):Int:=if z6 w then(match w.U.find? (λu=>u.id==id)with|none=>3|some u=>if u.inn=0 then 0 else 9)else 1
theorem yfa(h:¬z6 w):vl w id=1:=by unfold vl;rw[if_neg h]
theorem ud{l:List Unt}(hr:yq l)(hi:i<l.length):l.find? (λu=>u.id==l[i].id)=some l[i]:=by
 rw[List.find?_eq_some_iff_getElem]
 refine⟨by simp,i,hi,rfl,λj hj=>?_⟩
 have:=Dh hr hj hi
 rw[Fbs,beq_eq_false_iff_ne]
 omega
theorem dt(h:z6 w)(hi:i<w.U.length):vl w w.U[i].id=if w.U[i].inn=0 then 0 else 9:=by
 unfold vl
 rw[if_pos h,ud h.1.2.1 hi]
theorem ye9(h:z6 w)(hn:∀u∈w.U,u.id≠id):vl w id=3:=by
 unfold vl
 rw[if_pos h,Fcl.2 (λu hu=>by simpa using hn u hu)]
def unt0:List AV:=[int 0,int 0,int 0,int 0,int 0,int 0,int 0,int 0,int 0,int 0]
theorem ye4(w:Wld)(hw:w.fits)(hn:∀u∈w.U,u.pos.ok)(hT:w.G.T.length<=1000000)(hB:w.B.length<=1000000)(hU:w.U.length<=1000000)(id:Int)(R:Ja)
  (hbad:∀S,vl w id≠0->R (.tup [.s (.pointer none),.agg unt0,int (vl w id)]) S)
  (hok:∀i,(hi:i<w.U.length)->z6 w->w.U[i].id=id->w.U[i].inn=0->∀F G mb s p v L o0 o1 o2,Mover F G mb s p w v L o0 o1 o2->R (.tup [ptr mb,.agg (zf w.U[i]),int 0]) (F.un (svS G s w v o0 o1 o2 p))):
  Jb 43 [.agg (zt w),int id] Store.empty R:=by
 refine Qa (c:=cfg 47 [20] []) zb Tryz.func43 ?_
 refine rl w hw hn _ _ (λz hz=>?_)
 refine yd ?_
 refine zh (λc1=>?_) (λc1=>?_)
 rotate_left
 ·have hnm:¬z6 w:=λhh=>by rw[hz.2 hh]at c1;cases c1
  have e:=yfa (id:=id) hnm
  have:=hbad Store.empty (by rw[e];decide)
  rw[e]at this
  exact ret this
 have hm:=hz.1 c1
 have hr:yq w.U:=hm.1.2.1
 refine og w (by omega) (by omega) (by omega) _ (λv N hu=>?_)
 refine oo w v N hu hU hn _ (λF s p L o0 o1 o2 hs hS hLl hmem=>?_)
 refine yf3 rfl (it:=ti127) rfl rfl ?_
 intro mb hmb
 have hnF:¬F.has mb/\¬(svS N s w v o0 o1 o2 p).has mb:=by
  have:=fresh_iff.1 hmb
  exact⟨λhh=>this (un_has.2 (.inl hh)),λhh=>this (un_has.2 (.inr hh))⟩
 have hms:mb≠s:=λe=>hnF.2 (svS_has.2 (.inl e))
 have hmN:¬N.has mb:=λhh=>hnF.2 (svS_has.2 (.inr hh))
 have hmN0:N.obj mb=none:=(vx hmN).1
 have omb:wj v mb:=Dk hu hmN0
 have oms:wj v s:=Dk hu hS.hs
 have e0:(F.un (svS N s w v o0 o1 o2 p)).sO mb (.cells [ptr s,G8])=F.un (svS (N.sO mb (.cells [ptr s,G8])) s w v o0 o1 o2 p):=by
  rw[z7]
  unfold svS
  rw[Ia hms]
 have hW:Mover F (N.sO mb (.cells [ptr s,G8])) mb s p w v L o0 o1 o2:=
  ⟨⟨hS.hc,λi h1 h2=>by
    rcases svS_has.1 h2 with h2|h2
    ·exact hS.hd i h1 (svS_has.2 (.inl h2))
    ·rcases has_setObj_iff.1 h2 with h2|h2
     ·subst h2;exact hnF.1 h1
     ·exact hS.hd i h1 (svS_has.2 (.inr h2)),by rw[zi (Ne.symm hms)];exact hS.hs,hu.set omb _,hS.h0,hS.h1,hS.h2⟩,zd _ _ _,omb,oms,hLl,hmem hr⟩
 have e1:(F.un (svS N s w v o0 o1 o2 p)).sO mb (AObj.cells [AV.s (Value.pointer (some {block:=s,off:=0})),AV.s (Value.iface 147 (Value.agg #[]))])=F.un (svS (N.sO mb (.cells [ptr s,G8])) s w v o0 o1 o2 p):=e0
 refine R5 w.U (by omega) hr id _ _ (λi hi z hz2=>?_)
 rw[e1]
 refine yd ?_
 refine zh (λc2=>?_) (λc2=>?_)
 rotate_left
 ·have e:=ye9 (id:=id) hm (λu hu' e=>by
   obtain⟨j,hj,rfl⟩:=Fak hu'
   have hij:i=j:=by
    by_cases h1:j<i
    ·have:=hi.2.1 j hj h1;omega
    ·by_cases h2:i<j
     ·have h3:=hi.2.2 i (by omega) (Faj _)
      have:=Dh hr h2 hj
      omega
     ·omega
   subst hij
   rw[hz2.2 ⟨hj,e⟩]at c2
   cases c2)
  have:=hbad (F.un (svS (N.sO mb (.cells [ptr s,G8])) s w v o0 o1 o2 p)) (by rw[e];decide)
  rw[e]at this
  exact ret this
 obtain⟨hil,hid⟩:=hz2.1 c2
 have e:=dt hm hil
 rw[hid]at e
 refine⟨i,rfl,za _ (zm hil) ?_⟩
 refine qj (λc3=>?_) (λc3=>?_)
 ·rw[if_neg c3]at e
  have:=hbad (F.un (svS (N.sO mb (.cells [ptr s,G8])) s w v o0 o1 o2 p)) (by rw[e];decide)
  rw[e]at this
  exact ret this
 refine Qc zb zqk ?_
 refine⟨i,rfl,za _ (zm hil) ?_⟩
 refine⟨⟨(by repeat(first|exact Tv|refine⟨rfl,?_⟩|refine⟨⟨i,rfl,za _ (zm hil) rfl⟩,?_⟩)),⟨⟨Tv,⟨⟨Tv,?_⟩,Tv⟩⟩,Tv⟩⟩,Tv⟩
 exact ret (hok i hil hm hid c3 F (N.sO mb (.cells [ptr s,G8])) mb s p v L o0 o1 o2 hW)
def Ci:List AV:=[int 0,int 0,int 0,int 0,int 0,nil,nil,nil]
open Classical in
noncomputable def Fw(w:Wld)(id:Int):Wld:=match w.U.find? (λu=>u.id==id)with|none=>w|some u=>xi w u
theorem gb(hr:yq w.U)(hi:i<w.U.length):Fw w w.U[i].id=xi w w.U[i]:=by
 unfold Fw
 rw[ud hr hi]
theorem zxx(w:Wld)(hw:w.fits)(hn:∀u∈w.U,u.pos.ok)(hT:w.G.T.length<=1000000)(hB:w.B.length<=1000000)(hU:w.U.length<=1000000)(id:Int)(R:Ja)
  (hbad:∀S,vl w id≠0->R (.tup [.agg Ci,int (vl w id)]) S)
  (hok:∀S v,vl w id=0->RowsQ 10 zf S v (Fw w id).U->R (.tup [.agg (zw (Fw w id) v),int 0]) S):
  Jb 15 [.agg (zt w),int id] Store.empty R:=by
 refine Qa (c:=cfg 30) zb Tryz.func15 ?_
 refine ye4 w hw hn hT hB hU id _ (λS he=>?_) (λi hi hm hid h0 F G mb s p v L o0 o1 o2 hW=>?_)
 ·refine qj (λc1=>?_) (λc1=>absurd c1 he)
  exact ret (hbad S he)
 have e:=dt hm hi
 rw[if_pos h0,hid]at e
 have e2:=gb (w:=w) hm.1.2.1 hi
 rw[hid]at e2
 rw[e2]at hok
 refine zdf hW hm hn hi h0 _ (λF' G' L' q0 q1 q2 hW2=>?_)
 generalize xi w w.U[i]=w2 at*
 obtain⟨oa,cap,ev,_⟩:=hW2.S.hu.form
 subst ev
 refine za (o:=(F'.un (svS G' s w2 _ q0 q1 q2 p)).obj mb) _ hW2.m ?_
 refine za (o:=(F'.un (svS G' s w2 _ q0 q1 q2 p)).obj s) _ hW2.s ?_
 exact ret (hok _ _ e (Ov hW2.S.hs hW2.S.hu).un)
end
theorem zxy(w:Wld)(hw:w.fits)(hn:∀u∈w.U,u.pos.ok)(hT:w.G.T.length<=1000000)(hB:w.B.length<=1000000)(hU:w.U.length<=1000000)(id:Int):
  Jb 15 [.agg (zt w),int id] Store.empty λr _=>(vl w id≠0/\r=.tup [.agg Ci,int (vl w id)])\/(vl w id=0/\r=.tup [.agg (zt (Fw w id)),int 0]):=by
 refine(zxx w hw hn hT hB hU id (λr S=>(vl w id≠0/\r=.tup [.agg Ci,int (vl w id)])\/(vl w id=0/\∃v,RowsQ 10 zf S v (Fw w id).U/\r=.tup [.agg (zw (Fw w id) v),int 0])) (λS he=>.inl ⟨he,rfl⟩) (λS v he hv=>.inr ⟨he,v,hv,rfl⟩)).frozen ?_
 rintro r S (⟨he,rfl⟩|⟨he,v,hv,rfl⟩)
 ·exact⟨_,.inl ⟨he,rfl⟩,λOth M W x sto hx=>xp hx⟩
 ·refine⟨_,.inr ⟨he,rfl⟩,λOth M W x sto hx=>?_⟩
  cases hx with
  |tup _ c hl hc=>
   refine .tup _ c hl λi y z hy hz=>?_
   match i with
   |0=>simp only[Far,Fal]at hy;subst hy;exact Ch hv sto (hc 0 _ z rfl hz)
   |1=>simp only[Faz,Far,Fal]at hy;subst hy;exact xp (hc 1 _ z rfl hz)
   |i+2=>simp at hy
theorem zxw(w:Wld)(hw:w.fits)(hn:∀u∈w.U,u.pos.ok)(hT:w.G.T.length<=1000000)(hB:w.B.length<=1000000)(hU:w.U.length<=1000000)(id:Int)(st:Store)(R:Ja)
  (hbad:vl w id≠0->R (.tup [.agg Ci,int (vl w id)]) st) (hok:vl w id=0->R (.tup [.agg (zt (Fw w id)),int 0]) st):
  Jb 15 [.agg (zt w),int id] st R:=
 Il (zxy w hw hn hT hB hU id) st R λr hr=>by
  rcases hr with⟨he,rfl⟩|⟨he,rfl⟩
  ·exact hbad he
  ·exact hok he
end Go.Proofs
