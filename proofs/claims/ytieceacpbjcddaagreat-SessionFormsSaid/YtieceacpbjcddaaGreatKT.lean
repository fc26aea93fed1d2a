/- Ground of laws of thronglaw30: contracts and plain lemmas; no condition beyond the row's own. -/
import Derived.Test.YtieceacpbjcddaaGreatKS
import Derived.Test.YtieceacpbjcddaaGreatKR
set_option linter.unusedSimpArgs false
set_option linter.unusedVariables false
set_option linter.defProp false
namespace Go.Proofs
open Go Go.V
set_option maxRecDepth 20000
set_option maxHeartbeats 4000000
theorem lx(g:Gnd)(x y:Int)(st:Store)(R:Ja)(h:∀z:Bool,(z=true↔onG g x y)->R (bool z) st):Jb 315 [.agg (zn g),int x,int y] st R:=by
 refine Qa (c:=cfg 25) zb Tryz.func315 ?_
 repeat' (first|refine bcd (λ_=>?_) (λ_=>?_)|refine zi (λ_=>?_) (λ_=>?_)|refine Qd ?_|fail)
 all_goals
  refine ret (h _ ?_)
  unfold onG
  simp only[decide_eq_true_eq,decide_eq_false_iff_not,Fai,false_iff,true_iff,beq_iff_eq,bne_iff_ne,beq_eq_false_iff_ne,ne_eq,reduceCtorEq]at*
  omega
theorem min2_eq(a b:Int):min2 a b=min a b:=by
 unfold min2
 by_cases h:b<a
 ·rw[decide_eq_true h];show b=_;omega
 ·rw[decide_eq_false h];show a=_;omega
theorem lm(g:Gnd)(hg:zp g)(f:Nat->Int)(hf:∀t,t<g.T.length->0<=f t/\f t<=128)(t:Nat)(ht:t<g.T.length)(ws:List (Int×Int))(hw:∀d∈ws,(d.1≠0\/d.2≠0)/\(-1<=d.1/\d.1<=1)/\(-1<=d.2/\d.2<=1))(hwl:ws.length<=100)(b:Nat)(st:Store)(R:Ja)
  (h:R (.tup []) (st.sO b (.cells (il g.T.length (Hx g f ws t))))):Jb 379 [.agg (zn g),blV b g.T.length,int t,lst 2 Gd ws] (st.sO b (.cells (il g.T.length f))) R:=by
 have hm:=qr hg
 have htb:=Gj hg (t:=t) (by omega)
 have hq:=Mv (t:=t) hg.1.1
 have hq2:=Mw (t:=t) hg.1.1
 have hg1:=hg.1
 have hg2:=hg.2.1
 unfold Hx at h
 have hx:∃x,x=(t:Int)%g.W:=⟨_,rfl⟩
 have hy:∃y,y=(t:Int)/g.W:=⟨_,rfl⟩
 obtain⟨x,hx⟩:=hx
 obtain⟨y,hy⟩:=hy
 rw[<-hx,<-hy]at h htb
 rw[<-hx]at hq
 rw[<-hy]at hq2
 refine Qa (c:=cfg 63) zb Tryz.func379 ?_
 refine Qc zb zq8 ?_
 refine⟨by omega,?_⟩
 refine⟨by omega,?_⟩
 refine Qd ?_
 refine Qar ?_
 refine Qas ?_
 refine AWp.loop (σ:=Nat) ⟨λi=>[(1,.av (blV b g.T.length)),(2,.av (int (t:Nat))),(4,.bx 4 0),(8,.av (int x)),(9,.av (int y)),(21,.av (lst 2 Gd ws)),(22,.av (int (ws.length:Nat))),(23,.av (int (i:Nat)))],λ_=>[(4,zn g)],
  λi st'=>i<=ws.length/\st'=st.sO b (.cells (il g.T.length (setI f t (j8 g f x y (f t) (ws.take i))))),λi=>ws.length-i⟩ zb ?_ ?_
 ·refine⟨0,Tv,⟨Faf _,?_⟩,⟨Tq,Tq,Tq,?_,?_,Tq,?_,Tq,Tv⟩,⟨rfl,Tv⟩⟩
  ·rw[List.take_zero]
   show _=st.sO b (.cells (il g.T.length (setI f t (f t))))
   rw[zqf]
  ·rw[<-hq];exact Tq
  ·rw[<-hq2];exact Tq
  ·rw[<-zh (f:=Gd) ws];exact Tq
 rintro i st' ⟨hi,rfl⟩
 refine bcd (λh1=>?_) (λh1=>?_)
 rotate_left
 ·have:i=ws.length:=by omega
  subst this
  rw[Fap]
  exact ret h
 have hlt:i<ws.length:=by omega
 have hd:=hw _ (Faa hlt)
 have hv:=Vb hg hf x y (ws.take i) (f t) (hf t ht)
 have hsn:=zu6 g f x y (f t) ws hlt
 have hgs:=zy5 hg f (t:=t) (j8 g f x y (f t) (ws.take i)) hd.1
 rw[<-hx,<-hy]at hgs
 generalize hV:j8 g f x y (f t) (ws.take i)=V0 at*
 have ho:(st.sO b (.cells (il g.T.length (setI f t V0)))).obj b=some (.cells (il g.T.length (setI f t V0))):=zc _ _ _
 refine⟨i,rfl,za _ (zw hlt) ?_⟩
 refine⟨0,rfl,by decide,?_⟩
 refine Qd ?_
 refine⟨1,rfl,by decide,?_⟩
 refine Qd ?_
 refine lx g (x+ws[i].1) (y+ws[i].2) _ _ (λz hz=>?_)
 have hgv:=ol hg hf (x+ws[i].1) (y+ws[i].2)
 have fin:min V0 (gv g f (x+ws[i].1) (y+ws[i].2)+1)=j8 g f x y (f t) (ws.take (i+1)):=hsn.symm
 refine zi (λc1=>?_) (λc1=>?_)
 ·have hon:=hz.1 c1
  obtain⟨e1,e2,e3,e4⟩:=Co hg hon
  have hpos:0<=g.W*(y+ws[i].2):=Fa1 (by omega) (by have:=hon.2.1;omega)
  have hval:setI f t V0 (tl g (x+ws[i].1) (y+ws[i].2))=gv g f (x+ws[i].1) (y+ws[i].2):=by
   rw[<-hgs];unfold gv;rw[if_pos hon]
  refine⟨0,rfl,by decide,?_⟩
  refine Qd ?_
  refine⟨1,rfl,by decide,?_⟩
  refine Qd ?_
  refine Qd ?_
  refine Qd ?_
  refine⟨tl g (x+ws[i].1) (y+ws[i].2),e1.symm,e2,?_⟩
  refine za _ ho (za _ (wx e2) ?_)
  rw[hval]
  refine⟨t,rfl,ht,?_⟩
  refine za _ ho (za _ (wx ht) ?_)
  rw[Kv]
  refine Qd ?_
  refine⟨t,rfl,ht,?_⟩
  refine yn (i:=ti2) (v:=int (min2 V0 (gv g f (x+ws[i].1) (y+ws[i].2)+1))) (b:=b) (o:=0+t*1) (l:=il g.T.length (setI f t V0)) (st2:=st.sO b (.cells (il g.T.length (setI f t (j8 g f x y (f t) (ws.take (i+1))))))) rfl rfl rfl ho (by rw[qq];omega) ?_ ?_
  ·rw[yl,show 0+t*1=t by omega,Fy ht,Sh,min2_eq,fin]
  refine Qd ?_
  refine⟨i+1,?_,⟨by omega,rfl⟩,Qao,⟨rfl,Tv⟩⟩
  show ws.length-(i+1)<ws.length-i
  omega
 ·have hoff:¬onG g (x+ws[i].1) (y+ws[i].2):=λhh=>by have:=hz.2 hh;rw[this]at c1;cases c1
  have hz0:gv g f (x+ws[i].1) (y+ws[i].2)=0:=if_neg hoff
  rw[hz0]at fin
  refine⟨t,rfl,ht,?_⟩
  refine za _ ho (za _ (wx ht) ?_)
  rw[Kv]
  refine Qd ?_
  refine⟨t,rfl,ht,?_⟩
  refine yn (i:=ti2) (v:=int (min2 V0 (0+1))) (b:=b) (o:=0+t*1) (l:=il g.T.length (setI f t V0)) (st2:=st.sO b (.cells (il g.T.length (setI f t (j8 g f x y (f t) (ws.take (i+1))))))) rfl rfl rfl ho (by rw[qq];omega) ?_ ?_
  ·rw[yl,show 0+t*1=t by omega,Fy ht,Sh,min2_eq,fin]
  refine Qd ?_
  refine⟨i+1,?_,⟨by omega,rfl⟩,Qao,⟨rfl,Tv⟩⟩
  show ws.length-(i+1)<ws.length-i
  omega
def wh(o:Nat->Bool)(t:Nat):Int:=if o t then 128 else 0
def Be(o:Nat->Bool)(i t:Nat):Int:=if t<i then wh o t else 0
theorem lr(o:Nat->Bool)(n:Nat):∀t,t<n->0<=wh o t/\wh o t<=128:=λt _=>by unfold wh;split<;>decide
def ic(g:Gnd)(l:List Bld)(c:Int):AV:=lst 1 zu (ilL g.T.length (Bt g (yf g l c)))
theorem zto(g:Gnd)(hg:zp g)(l:List Bld)(hl:l.length<=1000000000000)(hb:∀b∈l,y9 b/\onP g b)(c:Int)(st:Store)(R:Ja)(h:R (ic g l c) st):
  Jb 337 [.agg (zn g),lst 6 zr l,int c] st R:=by
 have ha:=qr hg
 have fwd_ok:∀d∈Iv,(d.1≠0\/d.2≠0)/\(-1<=d.1/\d.1<=1)/\(-1<=d.2/\d.2<=1):=by decide
 have bwd_ok:∀d∈Hl,(d.1≠0\/d.2≠0)/\(-1<=d.1/\d.1<=1)/\(-1<=d.2/\d.2<=1):=by decide
 refine Qb (c:=cfg 63) zb Tryz.func337 ?_
 refine AWp.seq (AWp.of_vc zb ?_)
 refine AWp.seq (AWp.of_vc zb ?_)
 refine Ga rfl (it:=ti29) (ie:=ti2) rfl rfl rfl rfl rfl (n:=(rws u8C g.T).length) ?_ ?_ (λb hf=>?_)
 ·rw[zh];show 8*_<=_;omega
 ·rw[zh];omega
 rw[zh,n7]
 refine AWp.meetA (σ:=Unit) ⟨λ_=>[(3,.bx 3 0),(7,.av (blV b g.T.length))],λ_=>[(3,zn g)],λ_ st'=>st'=st.sO b (.cells (il g.T.length (wh (yf g l c))))⟩ ?_ ?_
 ·refine AWp.of_vc zb ?_
  refine Hi g hg l hl hb c _ _ ?_
  refine AWp.loop (σ:=Nat) ⟨λi=>[(3,.bx 3 0),(7,.av (blV b g.T.length)),(19,.av (opV g l c)),(20,.av (int (g.T.length:Nat))),(21,.av (int (i:Nat)))],λ_=>[(3,zn g)],
   λi st'=>i<=g.T.length/\st'=st.sO b (.cells (il g.T.length (Be (yf g l c) i))),λi=>g.T.length-i⟩ zb ?_ ?_
  ·refine⟨0,Tv,⟨Faf _,?_⟩,⟨Tq,Tq,Tq,?_,Tq,Tv⟩,⟨rfl,Tv⟩⟩
   ·rw[show Be (yf g l c) 0=λ_=>0 from funext λt=>if_neg (Fa7 t)]
   ·show LV.le (.av (int ((rws qd (blL g.T.length (yf g l c))).length:Nat))) (.av (int (g.T.length:Nat)))
    rw[zh,D6];exact Tq
  rintro i st' ⟨hi,rfl⟩
  refine bcd (λh1=>?_) (λh1=>?_)
  rotate_left
  ·have:i=g.T.length:=by omega
   subst this
   refine⟨(),?_,⟨Tq,Tq,Tv⟩,⟨rfl,Tv⟩⟩
   show st.sO b (.cells (il g.T.length (Be (yf g l c) g.T.length)))=st.sO b (.cells (il g.T.length (wh (yf g l c))))
   rw[Ll (f:=Be (yf g l c) g.T.length) (g:=wh (yf g l c)) λt ht=>if_pos ht]
  have hlt:i<g.T.length:=by omega
  have ho:(st.sO b (.cells (il g.T.length (Be (yf g l c) i)))).obj b=some (.cells (il g.T.length (Be (yf g l c) i))):=zc _ _ _
  have hlt2:i<(blL g.T.length (yf g l c)).length:=by rw[D6];exact hlt
  have s2:∀s,s≠i->Be (yf g l c) (i+1) s=Be (yf g l c) i s:=λs hs=>by
   unfold Be
   by_cases h3:s<i
   ·rw[if_pos h3,if_pos (by omega)]
   ·rw[if_neg h3,if_neg (by omega)]
  have s1:Be (yf g l c) (i+1) i=wh (yf g l c) i:=if_pos (by omega)
  refine⟨i,rfl,za _ (zw hlt2) ?_⟩
  refine zi (λc1=>?_) (λc1=>?_)
  ·rw[Hn hlt]at c1
   refine⟨i,rfl,hlt,?_⟩
   refine yn (i:=ti2) (v:=int 128) (b:=b) (o:=0+i*1) (l:=_) (st2:=st.sO b (.cells (il g.T.length (Be (yf g l c) (i+1))))) rfl rfl rfl ho (by rw[qq];omega) ?_ ?_
   ·rw[yl,show 0+i*1=i by omega,<-n8 hlt _ s2,s1]
    unfold wh
    rw[if_pos c1]
   refine Qd ?_
   refine⟨i+1,?_,⟨by omega,rfl⟩,Qao,⟨rfl,Tv⟩⟩
   show g.T.length-(i+1)<g.T.length-i
   omega
  ·rw[Hn hlt]at c1
   refine Qd ?_
   refine⟨i+1,?_,⟨by omega,?_⟩,Qao,⟨rfl,Tv⟩⟩
   ·show g.T.length-(i+1)<g.T.length-i
    omega
   ·refine congrArg (λf=>st.sO b (.cells (il g.T.length f))) (funext λs=>?_)
    by_cases h3:s=i
    ·subst h3
     rw[s1]
     unfold wh Be
     rw[if_neg (by omega),if_neg (by rw[c1];decide)]
    ·exact(s2 s h3).symm
 rintro _ _ rfl
 refine AWp.meetA (σ:=Unit) ⟨λ_=>[(3,.bx 3 0),(7,.av (blV b g.T.length))],λ_=>[(3,zn g)],λ_ st'=>st'=st.sO b (.cells (il g.T.length (j5 g (wh (yf g l c)) g.T.length)))⟩ ?_ ?_
 ·refine AWp.of_vc zb ?_
  refine AWp.loop (σ:=Nat) ⟨λi=>[(3,.bx 3 0),(7,.av (blV b g.T.length)),(32,.av (int (g.T.length:Nat))),(33,.av (int (i:Nat)))],λ_=>[(3,zn g)],
   λi st'=>i<=g.T.length/\st'=st.sO b (.cells (il g.T.length (j5 g (wh (yf g l c)) i))),λi=>g.T.length-i⟩ zb ?_ ?_
  ·exact⟨0,Tv,⟨Faf _,rfl⟩,Qao,⟨rfl,Tv⟩⟩
  rintro i st' ⟨hi,rfl⟩
  refine bcd (λh1=>?_) (λh1=>?_)
  rotate_left
  ·have:i=g.T.length:=by omega
   subst this
   exact⟨(),rfl,⟨Tq,Tq,Tv⟩,⟨rfl,Tv⟩⟩
  have hlt:i<g.T.length:=by omega
  refine⟨by decide,?_⟩
  refine lm g hg (j5 g (wh (yf g l c)) i) (R8 hg (lr _ _) i hi) i hlt Iv fwd_ok (by decide) b _ _ ?_
  refine Qd ?_
  refine⟨i+1,?_,⟨by omega,rfl⟩,Qao,⟨rfl,Tv⟩⟩
  show g.T.length-(i+1)<g.T.length-i
  omega
 rintro _ _ rfl
 have hbA:=R8 hg (lr (yf g l c) g.T.length) g.T.length (Fah _)
 have hroom:Bt g (yf g l c)=wu g (j5 g (wh (yf g l c)) g.T.length) g.T.length g.T.length:=rfl
 generalize j5 g (wh (yf g l c)) g.T.length=FA at*
 refine AWp.meetA (σ:=Unit) ⟨λ_=>[(7,.av (blV b g.T.length))],λ_=>[],λ_ st'=>st'=st.sO b (.cells (il g.T.length (Bt g (yf g l c))))⟩ ?_ ?_
 ·refine AWp.of_vc zb ?_
  refine Qd ?_
  refine AWp.loop (σ:=Nat) ⟨λj=>[(3,.bx 3 0),(7,.av (blV b g.T.length)),(11,.av (int ((g.T.length:Int)-1-(j:Nat))))],λ_=>[(3,zn g)],
   λj st'=>j<=g.T.length/\st'=st.sO b (.cells (il g.T.length (wu g FA g.T.length j))),λj=>g.T.length-j⟩ zb ?_ ?_
  ·refine⟨0,Tv,⟨Faf _,rfl⟩,⟨Tq,Tq,?_,Tv⟩,⟨rfl,Tv⟩⟩
   rw[show(g.T.length:Int)-1-((0:Nat):Int)=(g.T.length:Int)-1 by omega];exact Tq
  rintro j st' ⟨hj,rfl⟩
  refine bcd (λh1=>?_) (λh1=>?_)
  rotate_left
  ·have:j=g.T.length:=by omega
   subst this
   exact⟨(),by rw[hroom],⟨Tq,Tv⟩,Tv⟩
  have hlt:j<g.T.length:=by omega
  refine⟨by decide,?_⟩
  refine ACalls.le (ys:=[.agg (zn g),blV b g.T.length,int ((g.T.length-1-j:Nat):Int),lst 2 Gd Hl]) ⟨Tt,Tt,by rw[show(g.T.length:Int)-1-(j:Int)=((g.T.length-1-j:Nat):Int) by omega];exact Tt,Tt,Tv⟩ ?_
  refine lm g hg (wu g FA g.T.length j) (fc hg hbA j hj) (g.T.length-1-j) (by omega) Hl bwd_ok (by decide) b _ _ ?_
  refine Qd ?_
  refine⟨j+1,?_,⟨by omega,rfl⟩,⟨Tq,Tq,?_,Tv⟩,⟨rfl,Tv⟩⟩
  ·show g.T.length-(j+1)<g.T.length-j
   omega
  ·rw[show(g.T.length:Int)-1-((j+1:Nat):Int)=(g.T.length:Int)-1-(j:Nat)-1 by omega];exact Tq
 rintro _ _ rfl
 refine AWp.freeze (d:=7) (b:=b) (k:=1) (n:=g.T.length) (cap:=g.T.length) (rows:=rws zu (ilL g.T.length (Bt g (yf g l c)))) (pad:=[]) rfl ?_ ?_ ?_ (Fah _) ?_ ?_ ?_
 ·rw[Fc0,zyo];exact zc _ _ _
 ·exact hf.2
 ·rw[zh,Ot]
 ·intro row hr
  obtain⟨x,_,rfl⟩:=Fae.1 hr
  rfl
 ·intro row hr y hy
  obtain⟨x,_,rfl⟩:=Fae.1 hr
  simp[zu]at hy
  exact⟨_,hy,rfl⟩
 rw[Ph hf.1]
 refine AWp.of_vc zb ?_
 exact ret h
def Dc(g:Gnd)(l:List Bld)(c s:Int)(i t:Nat):Bool:=if t<i then zv g l c s t else false
theorem yat(g:Gnd)(hg:zp g)(l:List Bld)(hl:l.length<=1000000000000)(hb:∀b∈l,y9 b/\onP g b)(c s:Int)(hs:0<=s/\s<=3)(st:Store)(R:Ja)(h:R (oz g l c s) st):
  Jb 250 [.agg (zn g),lst 6 zr l,int c,int s] st R:=by
 have ha:=qr hg
 refine Qb (c:=cfg 34) zb Tryz.func250 ?_
 refine AWp.seq (AWp.of_vc zb ?_)
 refine AWp.seq (AWp.of_vc zb ?_)
 refine Ga rfl (it:=ti50) (ie:=ti4) rfl rfl rfl rfl rfl (n:=(rws u8C g.T).length) ?_ ?_ (λb hf=>?_)
 ·rw[zh];show 1*_<=_;omega
 ·rw[zh];omega
 rw[zh,Pq]
 refine AWp.meetA (σ:=Unit) ⟨λ_=>[(9,.av (blV b g.T.length))],λ_=>[],λ_ st'=>st'=st.sO b (.cells (bl g.T.length (zv g l c s)))⟩ ?_ ?_
 ·refine AWp.of_vc zb ?_
  refine zto g hg l hl hb c _ _ ?_
  refine AWp.loop (σ:=Nat) ⟨λi=>[(3,.av (int s)),(9,.av (blV b g.T.length)),(19,.av (ic g l c)),(20,.av (int (g.T.length:Nat))),(21,.av (int (i:Nat)))],λ_=>[],
   λi st'=>i<=g.T.length/\st'=st.sO b (.cells (bl g.T.length (Dc g l c s i))),λi=>g.T.length-i⟩ zb ?_ ?_
  ·refine⟨0,Tv,⟨Faf _,?_⟩,⟨Tq,Tq,Tq,?_,Tq,Tv⟩,Tv⟩
   ·trivial
   ·show LV.le (.av (int ((rws zu (ilL g.T.length (Bt g (yf g l c)))).length:Nat))) (.av (int (g.T.length:Nat)))
    rw[zh,Ot];exact Tq
  rintro i st' ⟨hi,rfl⟩
  refine bcd (λh1=>?_) (λh1=>?_)
  rotate_left
  ·have:i=g.T.length:=by omega
   subst this
   refine⟨(),?_,⟨Tq,Tv⟩,Tv⟩
   show st.sO b (.cells (bl g.T.length (Dc g l c s g.T.length)))=st.sO b (.cells (bl g.T.length (zv g l c s)))
   rw[ydp (f:=Dc g l c s g.T.length) (g:=zv g l c s) λt ht=>if_pos ht]
  have hlt:i<g.T.length:=by omega
  have ho:(st.sO b (.cells (bl g.T.length (Dc g l c s i)))).obj b=some (.cells (bl g.T.length (Dc g l c s i))):=zc _ _ _
  have hlt2:i<(ilL g.T.length (Bt g (yf g l c))).length:=by rw[Ot];exact hlt
  have s2:∀q,q≠i->Dc g l c s (i+1) q=Dc g l c s i q:=λq hq=>by
   unfold Dc
   grind
  have s1:Dc g l c s (i+1) i=zv g l c s i:=if_pos (by omega)
  refine⟨i,rfl,za _ (zw hlt2) ?_⟩
  refine⟨i,rfl,hlt,?_⟩
  refine yn (i:=ti4) (v:=V.bool (decide (s<(ilL g.T.length (Bt g (yf g l c)))[i]))) (b:=b) (o:=0+i*1) (l:=_) (st2:=st.sO b (.cells (bl g.T.length (Dc g l c s (i+1))))) rfl rfl rfl ho (by rw[Ao];omega) ?_ ?_
  ·grind[yl,I9,zyq,zzc]
  refine Qd ?_
  refine⟨i+1,?_,⟨by omega,rfl⟩,Qao,Tv⟩
  grind
 rintro _ _ rfl
 refine AWp.freeze (d:=9) (b:=b) (k:=1) (n:=g.T.length) (cap:=g.T.length) (rows:=rws qd (blL g.T.length (zv g l c s))) (pad:=[]) rfl ?_ ?_ ?_ (Fah _) ?_ ?_ ?_
 ·rw[ls];exact zc _ _ _
 ·exact hf.2
 ·rw[zh,D6]
 ·intro row hr
  obtain⟨x,_,rfl⟩:=Fae.1 hr
  rfl
 ·intro row hr y hy
  obtain⟨x,_,rfl⟩:=Fae.1 hr
  simp[qd]at hy
  exact⟨_,hy,rfl⟩
 rw[Ph hf.1]
 refine AWp.of_vc zb ?_
 exact ret h
def qt(g:Gnd)(l:List Bld)(c s:Int):List AV:=zn g++[int c,oz g l c s]
theorem zz6(g:Gnd)(hg:zp g)(l:List Bld)(hl:l.length<=1000000000000)(hb:∀b∈l,y9 b/\onP g b)(c s:Int)(hs:0<=s/\s<=3)(st:Store)(R:Ja)(h:∀b,Fresh st b->R (ptr b) (st.sO b (.cells (qt g l c s)))):
  Jb 164 [.agg (zn g),lst 6 zr l,int c,int s] st R:=by
 refine Qa (c:=cfg 18 [17] []) zb Tryz.func164 ?_
 refine Qc zb zsb ?_
 refine⟨yat g hg l hl hb c s hs _ _ ⟨Qe,?_⟩,Tv⟩
 refine⟨λb hf=>⟨Qe,?_⟩,Tv⟩
 refine Qas ?_
 exact ret (h b hf)
end Go.Proofs
namespace Go.Proofs
open Go Go.V
set_option maxRecDepth 20000
set_option maxHeartbeats 4000000
theorem sx{m n:Nat}{p:Prop}(h:m<=n)(k:p):(bif Nat.ble m n then p else False):=by
 have:Nat.ble m n=true:=Nat.ble_eq▸h
 rw[this]
 exact k
theorem zwo(x y:Int)(hx:0<=x)(hx2:x<18446744073709551616)(hy:0<=y)(hy2:y<18446744073709551616)(st:Store)(R:Ja)(h:R (.tup (kl (x*y))) st):
  Jb 193 [u64 x,u64 y] st R:=by
 refine Qa (c:=cfg 30) zb Tryz.func193 ?_
 refine Vr x y hx hx2 hy hy2 _ _ ?_
 exact ret h
theorem Ss(v:Int)(n:Nat)(h0:1<=n)(hn:n<=1000000)(st:Store)(R:Ja)(h:∀b,Fresh st b->R (.s (.slice (some ⟨b,0,none⟩) n n)) (st.sO b (.cells (il n λ_=>v)))):
  Jb 113 [lst 1 zu [v],int (n:Nat)] st R:=by
 refine Qa (c:=cfg 48) zb Tryz.func113 ?_
 have w2:IntKind.u64.wrap (n:Int)=n:=Dk (by omega) (by omega)
 have w1:IntKind.u64.wrap ((rws zu [v]).length:Nat)=1:=rfl
 show ACalls _ _ [u64 (IntKind.u64.wrap _),u64 (IntKind.u64.wrap (n:Int))] _ _
 rw[w2,w1]
 refine zwo 1 n (by omega) (by omega) (by omega) (by omega) _ _ ?_
 have e1:(1*(n:Int))=n:=Int.one_mul _
 rw[e1]
 have e2:kl (n:Int)=[u64 0,u64 n]:=by
  unfold kl
  rw[Fc5 (by omega) (by omega),Fdv (by omega) (by omega)]
 rw[e2]
 refine bcd (λc3=>absurd c3 (by omega)) (λc3=>?_)
 refine Qd ?_
 refine Ga rfl (it:=ti29) (ie:=ti2) rfl rfl rfl rfl rfl (n:=n) ?_ ?_ (λb hf=>?_)
 ·show 8*_<=_;omega
 ·omega
 rw[n7]
 refine tv rfl rfl rfl rfl (it:=ti29) (ie:=ti2) rfl rfl rfl (src:=lst 1 zu [v]) (SrcN.rows (rows:=rws zu [v]) rfl) (n:=1) (by show 1=min 1 n;omega) (zc _ _ _) (by rw[qq];show 0+1*1<=n;omega) ?_
 rw[yl]
 have e3:zt (il n λ_=>0) 0 (rws zu [v]).flatten=il n (vk v 1):=by
  show zt (il n λ_=>0) 0 [int v]=_
  rw[Fy (t:=0) (by omega)]
  refine Ll λt ht=>?_
  unfold setI vk
  by_cases h0:t=0
  ·rw[if_pos h0,if_pos (by omega)]
  ·rw[if_neg h0,if_neg (by omega)]
 rw[e3]
 refine AWp.loop (σ:=Nat) ⟨λk=>[(7,.av (.s (.slice (some ⟨b,0,none⟩) n n))),(8,.av (int (k:Nat)))],λ_=>[],
  λk st'=>1<=k/\k<=n/\st'=st.sO b (.cells (il n (vk v k))),λk=>n-k⟩ zb ?_ ?_
 ·exact⟨1,Tv,⟨Fah _,h0,rfl⟩,⟨Tq,Tq,Tv⟩,Tv⟩
 rintro k st' ⟨hk1,hk,rfl⟩
 refine bcd (λc4=>?_) (λc4=>?_)
 rotate_left
 ·have:k=n:=by omega
  subst this
  rw[zyp]
  exact ret (h b hf)
 have hlt:k<n:=by omega
 have hb:(st.sO b (.cells (il n (vk v k)))).obj b=some (.cells (il n (vk v k))):=zc _ _ _
 obtain⟨m,hm⟩:∃m,m=min k (n-k):=⟨_,rfl⟩
 refine Qc zb zsy ?_
 refine⟨k,n,rfl,rfl,by omega,Fah _,.inl ⟨hlt,?_⟩⟩
 refine⟨0,k,rfl,rfl,Faf _,by omega,.inl ⟨by omega,?_⟩⟩
 refine⟨tv rfl rfl rfl rfl (it:=ti29) (ie:=ti2) rfl rfl rfl (SrcN.obj (n:=m) hb (by rw[qq];show 0+0*1+m*1<=n;omega) (λy hy=>by
   have:=List.mem_of_mem_drop (Fcg hy)
   obtain⟨t,_,rfl⟩:=Fae.1 this
   rfl)) (hm.trans (by rw[Nat.sub_zero])) hb (by rw[qq];show 0+k*1+m*1<=n;omega) ⟨Tv,?_⟩,Tv⟩
 rw[yl]
 refine Qd ?_
 refine Qas ?_
 refine⟨k+m,?_,⟨by omega,by omega,?_⟩,⟨Tq,Tq,Tv⟩,Tv⟩
 ·show n-(k+m)<n-k
  omega
 ·exact congrArg (λl=>st.sO b (.cells l)) (zty (by omega) (by omega))
theorem Wv(u:Int)(st:Store)(R:Ja)(h:R (V.bool true) st):Jb 452 [int u] st R:=by
 refine Qa (c:=cfg 3) zb Tryz.func452 ?_
 exact ret h
theorem zz0(w:Nat)(h1:4<=w)(h2:w<8)(st:Store)(R:Ja)(h:R (.tup [int (Gr w:Nat),int (Gq w:Nat)]) st):Jb 457 [int (w:Nat)] st R:=by
 have hw:w=4\/w=5\/w=6\/w=7:=by omega
 rcases hw with rfl|rfl|rfl|rfl
 all_goals
  refine Qa (c:=cfg 10) zb Tryz.func457 ?_
  refine Qc zb zq1 ?_
  refine⟨_,rfl,by decide,?_⟩
  refine⟨_,rfl,by decide,?_⟩
  refine⟨⟨Qe,⟨⟨Tv,?_⟩,Tv⟩⟩,Tv⟩
  exact ret h
theorem uy(st:Store)(R:Ja)(h:R (.agg dirC) st):Jb 314 [] st R:=by
 refine Qa (c:=cfg 10) zb Tryz.func314 ?_
 exact ret h
theorem Pt(g:Gnd)(hg:zp g)(t:Nat)(ht:t<g.T.length)(st:Store)(R:Ja)(h:R (Ka g t) st):Jb 234 [.agg (zn g),int (t:Nat)] st R:=by
 have hm:=qr hg
 have htb:=Gj hg (t:=t) (by omega)
 have hq:=Mv (t:=t) hg.1.1
 have hq2:=Mw (t:=t) hg.1.1
 have hg1:=hg.1
 have hg2:=hg.2.1
 have hbes:=λ(i:Nat) (hi:i<8)=>ydx g t hi
 obtain⟨x,hx⟩:∃x,x=(t:Int)%g.W:=⟨_,rfl⟩
 obtain⟨y,hy⟩:∃y,y=(t:Int)/g.W:=⟨_,rfl⟩
 rw[<-hx,<-hy]at htb hbes
 rw[<-hx]at hq
 rw[<-hy]at hq2
 refine Qa (c:=cfg 50) zb Tryz.func234 ?_
 refine Qc zb zrv ?_
 refine⟨by omega,?_⟩
 refine⟨by omega,?_⟩
 refine ze (by rw[hq2];omega) ?_
 refine⟨⟨?_,⟨⟨Tv,?_⟩,Tv⟩⟩,Tv⟩
 ·exact⟨rfl,Tv⟩
 rw[hq,hq2]
 refine uy _ _ ?_
 refine AWp.loop (σ:=Nat) ⟨λi=>[(2,.bx 2 0),(4,.bx 4 0),(5,.av (int x)),(6,.av (int y)),(17,.av (.agg dirC)),(18,.av (int (i:Nat)))],λi=>[(2,zn g),(4,il 8 (Cj g t i))],
  λi st'=>i<=8/\st'=st,λi=>8-i⟩ zb ?_ ?_
 ·exact⟨0,Tv,⟨Faf _,rfl⟩,Qao,⟨rfl,rfl,Tv⟩⟩
 rintro i st' ⟨hi,rfl⟩
 refine bcd (λc1=>?_) (λc1=>?_)
 rotate_left
 ·have:i=8:=by omega
  subst this
  refine ret ?_
  have e:AV.agg (il 8 (Cj g t 8))=Ka g t:=congrArg AV.agg (ydw g t)
  rw[<-e]at h
  exact h
 have hlt:i<8:=by omega
 have hr:=yb3 hlt
 have hd:=yb2 hlt
 have hbe:=hbes i hlt
 have hst:=ydv g t (i:=i)
 generalize dirL.getD i (0,0)=d at*
 refine⟨i,rfl,hlt,?_⟩
 refine xm (i:=ti391) (row:=Gd d) rfl rfl hr ?_
 refine⟨i,rfl,hlt,?_⟩
 refine sx (by rw[qq];show 0+i*1+1<=8;omega) ?_
 refine Hf ?_
 refine⟨0,rfl,by decide,?_⟩
 refine Qd ?_
 refine⟨1,rfl,by decide,?_⟩
 refine Qd ?_
 refine lx _ _ _ _ _ (λz hz=>?_)
 refine zi (λc2=>?_) (λc2=>?_)
 ·have hon:=hz.1 c2
  obtain⟨e1,e2,_,_⟩:=Co hg hon
  have hpos:0<=g.W*(y+d.2):=Fa1 (by omega) (by have:=hon.2.1;omega)
  refine⟨0,rfl,by decide,?_⟩
  refine Qd ?_
  refine⟨1,rfl,by decide,?_⟩
  refine Qd ?_
  refine Qd ?_
  refine Qd ?_
  refine⟨i,rfl,hlt,?_⟩
  refine sx (by
   show 0+i*1+1<=(zt (il 8 (Cj g t i)) (0+i*1) [int (-1)]).length
   rw[show 0+i*1=i by omega,Fy hlt,qq];omega) ?_
  refine Hf ?_
  refine Qd ?_
  refine⟨i+1,?_,⟨by omega,rfl⟩,Qao,⟨rfl,?_,Tv⟩⟩
  ·show 8-(i+1)<8-i
   omega
  ·show some (zt (zt (il 8 (Cj g t i)) (0+i*1) [int (-1)]) (0+i*1) [int (x+d.1+g.W*(y+d.2))])=some (il 8 (Cj g t (i+1)))
   rw[show 0+i*1=i by omega,Fy hlt,Fy hlt,Sh,hst]
   rw[hbe]
   unfold G5
   rw[if_pos hon]
 ·have hon:¬onG g (x+d.1) (y+d.2):=λhh=>by rw[hz.2 hh]at c2;cases c2
  refine Qd ?_
  refine⟨i+1,?_,⟨by omega,rfl⟩,Qao,⟨rfl,?_,Tv⟩⟩
  ·show 8-(i+1)<8-i
   omega
  ·show some (zt (il 8 (Cj g t i)) (0+i*1) [int (-1)])=some (il 8 (Cj g t (i+1)))
   rw[show 0+i*1=i by omega,Fy hlt,hst]
   rw[hbe]
   unfold G5
   rw[if_neg hon]
section
variable {g:Gnd} {t w:Nat} {c:Int}
theorem rq(hg:zp g)(ht:t<g.T.length):g.T[t].toNat<=5:=hg.2.2.2 _ (Faa ht)
theorem rr(g:Gnd)(c:Int)(ht:t<g.T.length):Ch g c t=Bb c g.T[t].toNat:=by
 unfold Ch
 rw[Fbk,Fab ht]
 rfl
theorem b7(hg:zp g)(t:Nat)(hw:w<8):z7 g t w<0\/∃u:Nat,z7 g t w=(u:Int)/\u<g.T.length:=by
 rcases Pu hg (t:=t) hw with h|h
 ·exact .inl (by omega)
 ·exact .inr h
theorem zpg{ok:Nat->Bool}(h:jo ok (z7 g t w)=false):qi g ok c t w=0:=by
 unfold qi
 rw[h]
 simp
theorem zph{ok:Nat->Bool}(h:jo ok (z7 g t w)=true)(hw:w<4):qi g ok c t w=5*(Ch g c t+Ch g c (z7 g t w).toNat):=by
 unfold qi
 rw[if_pos h,if_pos hw]
theorem zpj{ok:Nat->Bool}(h:jo ok (z7 g t w)=true)(hw:¬w<4)(ha:jo ok (z7 g t (Gr w))=true)(hb:jo ok (z7 g t (Gq w))=true):qi g ok c t w=7*(Ch g c t+Ch g c (z7 g t w).toNat):=by
 unfold qi
 rw[if_pos h,if_neg hw,if_pos ⟨ha,hb⟩]
theorem zpi{ok:Nat->Bool}(hw:¬w<4)(ha:jo ok (z7 g t (Gr w))=false\/jo ok (z7 g t (Gq w))=false):qi g ok c t w=0:=by
 unfold qi
 rw[if_neg hw]
 split
 ·rw[if_neg]
  rintro⟨h1,h2⟩
  rcases ha with ha|ha
  ·rw[ha]at h1;cases h1
  ·rw[ha]at h2;cases h2
 ·rfl
theorem Wn{ok:Nat->Bool}{u:Int}(h:u<0):jo ok u=false:=by
 unfold jo
 rw[decide_eq_false (by omega)];rfl
theorem Ix(ok:Nat->Bool)(u:Nat):jo ok (u:Int)=ok u:=by
 unfold jo
 rw[decide_eq_true (by omega),Fbb];rfl
theorem fh{S:Store}{nb:Nat}(hg:zp g){l:List Bld}{s:Int}(hn:S.obj nb=some (.cells (qt g l c s)))(t:Nat)(ht:t<g.T.length)(way:Nat)(hw:way<8)(R:Ja)
  (h:R (int (qi g (zv g l c s) c t way)) S):Jb 453 [ptr nb,int (t:Nat),Ka g t,int (way:Nat),.clos 452 []] S R:=by
 have hgl:∀u,u<g.T.length->u<(blL g.T.length (zv g l c s)).length:=λu hu=>by rw[D6];exact hu
 have p1:=Nv c (g.T[t]).toNat
 refine Qa (c:=cfg 124) zb Tryz.func453 ?_
 refine⟨way,rfl,hw,?_⟩
 refine za _ (wx hw) ?_
 have hor:=b7 hg t hw
 have hlo:=λh=>zph (g:=g) (ok:=zv g l c s) (c:=c) (t:=t) (w:=way) h
 have hhi:=λh=>zpj (g:=g) (ok:=zv g l c s) (c:=c) (t:=t) (w:=way) h
 have hno:=zpg (g:=g) (ok:=zv g l c s) (c:=c) (t:=t) (w:=way)
 have hhn:=λh=>zpi (g:=g) (ok:=zv g l c s) (c:=c) (t:=t) (w:=way) h
 generalize qi g (zv g l c s) c t way=E at*
 generalize hU:z7 g t way=U at*
 refine bcd (λc1=>?_) (λc1=>?_)
 ·rw[hno (Wn c1)]at h
  exact ret h
 obtain⟨u,rfl,hul⟩:∃u:Nat,U=(u:Int)/\u<g.T.length:=by
  rcases hor with h1|h1
  ·exact absurd h1 c1
  ·exact h1
 refine Qat ?_
 refine⟨u,rfl,za _ (zw (hgl u hul)) ?_⟩
 rw[Hn hul]
 refine yp ?_
 refine zi (λc2=>?_) (λc2=>?_)
 rotate_left
 ·rw[hno (by rw[Ix,c2])]at h
  exact ret h
 refine Wv _ _ _ ?_
 have hfu:jo (zv g l c s) (u:Int)=true:=by rw[Ix,c2]
 rw[Fbb]at hlo hhi
 rw[rr g c ht,rr g c hul]at hlo hhi
 have p2:=Nv c (g.T[u]).toNat
 refine Qc zb zq7 ?_
 refine Qat ?_
 refine Qat ?_
 refine⟨t,rfl,za _ (zw ht) ?_⟩
 refine Qat ?_
 refine Qat ?_
 refine⟨u,rfl,za _ (zw hul) ?_⟩
 refine⟨S9 c g.T[t] (rq hg ht) _ _ ⟨?_,?_⟩,Tv⟩
 ·repeat(first|exact Tv|refine⟨rfl,?_⟩|refine⟨za (o:=S.obj nb) _ hn rfl,?_⟩)
 refine⟨S9 c g.T[u] (rq hg hul) _ _ ⟨Qe,?_⟩,Tv⟩
 refine Qd ?_
 refine Qas ?_
 generalize Bb c g.T[t].toNat=P1 at*
 generalize Bb c g.T[u].toNat=P2 at*
 refine bcd (λc3=>?_) (λc3=>?_)
 ·refine Qd ?_
  rw[hlo hfu (by omega)]at h
  exact ret h
 have h4:¬way<4:=by omega
 have hsa:Gr way<8:=by unfold Gr;omega
 have hsb:Gq way<8:=by unfold Gq;omega
 refine zz0 way (by omega) hw _ _ ?_
 have hora:=b7 hg t hsa
 have horb:=b7 hg t hsb
 have hhi:=hhi hfu h4
 have hhn:=hhn h4
 have ha1:=wx (n:=8) (f:=z7 g t) hsa
 have hb1:=wx (n:=8) (f:=z7 g t) hsb
 generalize hA:Gr way=wa at*
 generalize hB:Gq way=wb at*
 generalize hUA:z7 g t wa=ua at*
 generalize hUB:z7 g t wb=ub at*
 refine Qc zb zq6 ?_
 refine⟨wa,rfl,hsa,?_⟩
 refine za _ ha1 ?_
 have no:jo (zv g l c s) ua=false\/jo (zv g l c s) ub=false->R (int 0) S:=λhh=>by
  rw[hhn hh]at h
  exact h
 refine bcd (λca=>?_) (λca=>?_)
 ·refine Qas ?_
  refine Qas ?_
  exact ret (no (.inl (Wn ca)))
 obtain⟨va,rfl,hva⟩:∃u:Nat,ua=(u:Int)/\u<g.T.length:=by
  rcases hora with h1|h1
  ·exact absurd h1 ca
  ·exact h1
 refine⟨wb,rfl,hsb,?_⟩
 refine za _ hb1 ?_
 refine bcd (λcb=>?_) (λcb=>?_)
 ·refine Qas ?_
  refine Qas ?_
  exact ret (no (.inr (Wn cb)))
 obtain⟨vb,rfl,hvb⟩:∃u:Nat,ub=(u:Int)/\u<g.T.length:=by
  rcases horb with h1|h1
  ·exact absurd h1 cb
  ·exact h1
 refine Qat ?_
 refine⟨wa,rfl,hsa,?_⟩
 refine za _ ha1 ?_
 refine⟨va,rfl,za _ (zw (hgl va hva)) ?_⟩
 rw[Hn hva]
 refine yp ?_
 refine zi (λda=>?_) (λda=>?_)
 rotate_left
 ·refine Qas ?_
  refine Qas ?_
  exact ret (no (.inl (by rw[Ix,da])))
 refine Qat ?_
 refine⟨wb,rfl,hsb,?_⟩
 refine za _ hb1 ?_
 refine⟨vb,rfl,za _ (zw (hgl vb hvb)) ?_⟩
 rw[Hn hvb]
 refine yp ?_
 refine zi (λdb=>?_) (λdb=>?_)
 rotate_left
 ·refine Qas ?_
  refine Qas ?_
  exact ret (no (.inr (by rw[Ix,db])))
 refine⟨wa,rfl,hsa,?_⟩
 refine za _ ha1 ?_
 refine⟨Wv _ _ _ ⟨Tv,?_⟩,Tv⟩
 refine⟨wb,rfl,hsb,?_⟩
 refine za _ hb1 ?_
 refine⟨Wv _ _ _ ⟨Tv,?_⟩,Tv⟩
 refine Qd ?_
 rw[hhi (by rw[Ix,da]) (by rw[Ix,db])]at h
 exact ret h
end
section
variable {G F:Store} {p:Nat}
theorem zuf(R:Ja)(h:∀F p,QOf F p []->zg F G->R (ptr p) (F.un G)):Jb 454 [] G R:=by
 have:=ACalls.frame (a:=Store.empty) (g:=G) (λi h1=>by rcases h1 with h1|h1<;>exact absurd rfl h1) (zue Store.empty (λr a'=>∃p,r=ptr p/\QOf a' p []) (λp hp=>⟨p,rfl,.inl ⟨zc _ _ _,rfl⟩⟩)) (R':=R) (λr a' ⟨p,e,hc⟩ hd=>e▸h a' p hc hd)
 rwa [Al]at this
theorem Su{l:List (Int×Int)}(hq:QOf F p l)(hl:l.length<=1000000)(hh:jq l)(hd:zg F G)(x:Int×Int)(R:Ja)
  (h:∀F' l',QOf F' p l'->jq l'->l'.Perm (x::l)->zg F' G->R (.tup []) (F'.un G)):Jb 455 [ptr p,int x.1,int x.2] (F.un G) R:=
 ACalls.frame hd (zt6 hq hl hh x (λr a'=>r=.tup []/\∃l',QOf a' p l'/\jq l'/\l'.Perm (x::l)) (λF' l' g1 g2 g3=>⟨rfl,l',g1,g2,g3⟩)) (R':=R) (λr a' ⟨e,l',g1,g2,g3⟩ hd=>e▸h a' l' g1 g2 g3 hd)
theorem Sx{l:List (Int×Int)}(hq:QOf F p l)(hl:l.length<=1000000)(hh:jq l)(hd:zg F G)(R:Ja)
  (h:∀F' o l',QOf F' p l'->jq l'->zg F' G->l.Perm (o.toList++l')->(∀x,o=some x->∀e∈x::l',¬qlt e x)->(o=none->l'=[])->R (.tup [int (V4 o),int (Mp o),V.bool o.isSome]) (F'.un G)):Jb 456 [ptr p] (F.un G) R:=
 ACalls.frame hd (zt9 hq hl hh (λr a'=>∃o l',r=.tup [int (V4 o),int (Mp o),V.bool o.isSome]/\QOf a' p l'/\jq l'/\l.Perm (o.toList++l')/\(∀x,o=some x->∀e∈x::l',¬qlt e x)/\(o=none->l'=[]))
  (λe=>⟨none,[],rfl,e▸hq,e▸hh,by grind,λx h=>(by cases h),λ_=>rfl⟩)
  (λh0 F' l' g1 g2 g3=>⟨some (qat l 0),l',rfl,g1,g2,g3,λx e=>by grind[zub],λh=>(by cases h)⟩)) (R':=R) (λr a' ⟨o,l',e,g1,g2,g3,g4,g5⟩ hd=>e▸h a' o l' g1 g2 hd g3 g4 g5)
theorem zz1{S:Store}{nb:Nat}{g:Gnd}(hg:zp g){l:List Bld}{c s:Int}(hn:S.obj nb=some (.cells (qt g l c s)))(goal:Nat)(hgo:goal<g.T.length)(R:Ja)
  (h:∀b,Fresh S b->(∀u,-1<=j1 g (zv g l c s) c goal u/\j1 g (zv g l c s) c goal u<=2000000)->R (.s (.slice (some ⟨b,0,none⟩) g.T.length g.T.length)) (S.sO b (.cells (il g.T.length (j1 g (zv g l c s) c goal))))):
  Jb 451 [ptr nb,int (goal:Nat),.clos 452 []] S R:=by
 have ha:=qr hg
 have hT:g.T.length<=16384:=by omega
 have hgl:∀u,u<g.T.length->u<(blL g.T.length (zv g l c s)).length:=λu hu=>by rw[D6];exact hu
 refine Qa (c:=cfg 121) zb Tryz.func451 ?_
 refine⟨by decide,?_⟩
 refine Qat ?_
 show ACalls _ _ [_,int ((rws u8C g.T).length:Nat)] _ _
 rw[zh]
 refine Ss (-1) g.T.length (by omega) (by omega) _ _ (λb hf=>?_)
 have hnb:nb≠b:=λe=>by rw[e,hf.1]at hn;cases hn
 have hn1:(S.sO b (.cells (il g.T.length λ_=>-1))).obj nb=some (.cells (qt g l c s)):=(zf hnb).trans hn
 refine za (o:=(S.sO b _).obj nb) _ hn1 ?_
 refine⟨goal,rfl,za _ (zw (hgl goal hgo)) ?_⟩
 rw[Hn hgo]
 refine yp ?_
 refine zi (λc1=>?_) (λc1=>?_)
 rotate_left
 ·rw[ya3 c1]at h
  exact ret (h b hf λu=>⟨Fcc (-1),show(-1:Int)<=2000000 by decide⟩)
 refine Ga rfl (it:=ti50) (ie:=ti4) rfl rfl rfl rfl rfl (n:=g.T.length) ?_ ?_ (λb2 hf2=>?_)
 ·show 1*_<=_;omega
 ·omega
 rw[Pq]
 have hbb:b≠b2:=λe=>by
  have:=hf2.1
  grind[zc]
 have hst0:(S.sO b (.cells (il g.T.length λ_=>-1))).sO b2 (.cells (bl g.T.length λ_=>false))=qm S b b2 g.T.length (λ_=>-1) (λ_=>false):=rfl
 rw[hst0]
 refine⟨goal,rfl,hgo,?_⟩
 refine yn (i:=ti2) (v:=int 0) (b:=b) (o:=0+goal*1) (l:=il g.T.length λ_=>-1) (st2:=qm S b b2 g.T.length (yk (λ_=>-1) goal 0) (λ_=>false)) rfl rfl rfl (pk hbb _ _) (by rw[qq];omega) ?_ ?_
 ·rw[Oo _ _ _ _ hgo,pj hbb]
 refine zuf _ (λF p hQ hdis=>?_)
 refine Su hQ (by simp) (λj h0 hj=>by simp at hj) hdis (0,(goal:Int)) _ (λF l1 hQ hH hP hdis=>?_)
 have hd0:∀u,yk (λ_=>(-1:Int)) goal 0 u=if u=goal then 0 else -1:=λu=>rfl
 have hDJ:=ybv (vz g (zv g l c s) c) hgo hd0
 have hcb:=yci hgo hd0
 have hback:∀F d dn,(Store.un F (qm S b b2 g.T.length d dn)).Has (S.sO b (.cells (il g.T.length d))):=λF d dn=>yan hf hf2 hbb
 have hlen:l1.length<=1000000:=by rw[hP.length_eq];simp
 have hlen1:l1.length=1:=by rw[hP.length_eq];simp
 have hfo:=λd dn=>yak (n:=g.T.length) hf hf2 hn d dn
 have hfd:=λd dn=>pk (S:=S) (n:=g.T.length) hbb d dn
 have hfn:=λd dn=>yal (S:=S) (b:=b) (b2:=b2) (n:=g.T.length) d dn
 have hsd:=λd d' dn=>pj (S:=S) (n:=g.T.length) hbb d d' dn
 have hsn:=λd dn dn'=>yaj (S:=S) (b:=b) (b2:=b2) (n:=g.T.length) d dn dn'
 have hdd:=λ(F:Store) d d' dn dn' (h:zg F (qm S b b2 g.T.length d dn))=>yam (d':=d') (dn':=dn') h
 generalize hd1:yk (λ_=>(-1:Int)) goal 0=d at*
 refine Sx hQ hlen hH hdis _ (λF' o l' g1 g2 g3 g4 g5 g6=>?_)
 refine AWp.loop (σ:=(Nat->Int)×(Nat->Bool)×Store×Option (Int×Int)×List (Int×Int)×Int) ⟨λq=>[(0,.av (ptr nb)),(2,.av (.clos 452 [])),(7,.av (.s (.slice (some ⟨b,0,none⟩) g.T.length g.T.length))),(8,.av (.s (.slice (some ⟨b2,0,none⟩) g.T.length g.T.length))),(9,.av (ptr p)),(10,.av (int (V4 q.2.2.2.1))),(11,.av (int (Mp q.2.2.2.1))),(12,.av (V.bool q.2.2.2.1.isSome))],λ_=>[],
  λq st'=>st'=q.2.2.1.un (qm S b b2 g.T.length q.1 q.2.1)/\QOf q.2.2.1 p q.2.2.2.2.1/\jq q.2.2.2.2.1/\zg q.2.2.1 (qm S b b2 g.T.length q.1 q.2.1)/\DJ (vz g (zv g l c s) c) g.T.length goal q.1 q.2.1 (q.2.2.2.1.toList++q.2.2.2.2.1) q.2.2.2.2.2 G0∧
   (∀x,q.2.2.2.1=some x->∀e∈x::q.2.2.2.2.1,¬qlt e x)/\(q.2.2.2.1=none->q.2.2.2.2.1=[])/\Hj g.T.length q.1/\9*Bu g.T.length q.2.1+(q.2.2.2.1.toList++q.2.2.2.2.1).length<=9*g.T.length+1,λq=>9*Bu g.T.length q.2.1+(q.2.2.2.1.toList++q.2.2.2.2.1).length⟩ zb ?_ ?_
 ·refine⟨(d,λ_=>false,F',o,l',0),Tv,⟨rfl,g1,g2,g3,W3 hDJ (hP.symm.trans g4),g5,g6,hcb,?_⟩,Qao,Tv⟩
  have:=zvl g.T.length λ_=>false
  dsimp only
  rw[<-g4.length_eq]
  omega
 clear hdis
 clear g1 g2 g3 g4 g5 g6 hDJ hcb hQ hH hP hlen hlen1 hd0 hd1
 rintro⟨d,dn,F,o,q,cur⟩ st' ⟨rfl,hQ,hH,hdis,hDJ,hmin,hnil,hcb,hmu⟩
 dsimp only at hQ hH hdis hDJ hmin hnil hcb hmu⊢
 cases o with
 |none=>
  have:q=[]:=hnil rfl
  subst this
  have e:=ya4 c1 (ybw hDJ)
  refine Ab (Tt) (hback F d dn) ?_
  have:=h b hf
  rw[e]at this
  exact this λu=>by
   have h1:=hDJ.lab u
   have h2:=ba hcb u
   omega
 |some x=>
 obtain⟨t,ht,htn,hd0,hdx,hcx⟩:=hDJ.ent x (by simp)
 have hmin:=hmin x rfl
 have hlen:q.length<=1000000:=by grind
 have hxt:Mp (some x)=(t:Int):=ht
 have hq9:(Option.toList (some x)++q).length=q.length+1:=by simp
 rw[hq9]at hmu
 rw[hxt]
 refine⟨t,rfl,htn,?_⟩
 refine za (o:=(F.un (qm S b b2 g.T.length d dn)).obj b2) _ (zd (hfn d dn)) ?_
 refine za _ (sy htn) ?_
 cases hdt:dn t with
 |true=>
  have hDJ2:=ybt (q':=q) hDJ ht (List.Perm.refl _) hdt
  refine Sx hQ hlen hH hdis _ (λF' o l' g1 g2 g3 g4 g5 g6=>?_)
  refine⟨(d,dn,F',o,l',cur),?_,⟨rfl,g1,g2,g3,W3 (hDJ2) g4,g5,g6,hcb,?_⟩,Qao,Tv⟩
  ·show 9*Bu g.T.length (dn)+(o.toList++l').length<9*Bu g.T.length dn+(Option.toList (some x)++q).length
   rw[<-g4.length_eq,hq9]
   omega
  ·dsimp only
   rw[<-g4.length_eq]
   omega
 |false=>
 obtain⟨hk,hDJ1⟩:=ybs (q':=q) hDJ ht (List.Perm.refl _) hmin hdt
 have hopen:=zvj htn hdt
 have hokt:=ybu hDJ c1 hd0
 refine⟨t,rfl,htn,?_⟩
 refine yn (i:=ti4) (v:=V.bool true) (b:=b2) (o:=0+t*1) (l:=bl g.T.length dn) (st2:=F.un (qm S b b2 g.T.length d (yk dn t true))) rfl rfl rfl (zd (hfn d dn)) (by rw[Ao];omega) ?_ ?_
 ·rw[ydn _ _ _ _ htn,zo,hsn]
 refine za (o:=(F.un (qm S b b2 g.T.length d (yk dn t true))).obj nb) _ (zd (hfo _ _)) ?_
 refine Pt g hg t htn _ _ ?_
 have hdis:=hdd F d d dn (yk dn t true) hdis
 have hDJ:=zab hDJ1
 have hdn1:yk dn t true t=true:=we _ _ _
 have hbig:=ba hcb t
 have hbn:=λ(w:Nat) (hw:w<8)=>Pu hg (t:=t) hw
 refine AWp.loop (σ:=Nat×(Nat->Int)×Store×List (Int×Int)) ⟨λy=>[(0,.av (ptr nb)),(2,.av (.clos 452 [])),(7,.av (.s (.slice (some ⟨b,0,none⟩) g.T.length g.T.length))),(8,.av (.s (.slice (some ⟨b2,0,none⟩) g.T.length g.T.length))),(9,.av (ptr p)),(10,.av (int x.1)),(11,.av (int (t:Nat))),(13,.bx 13 0),(70,.av (Ka g t)),(71,.av (int (y.1:Nat)))],λ_=>[(13,il 8 (z7 g t))],
  λy st'=>y.1<=8/\st'=y.2.2.1.un (qm S b b2 g.T.length y.2.1 (yk dn t true))/\QOf y.2.2.1 p y.2.2.2/\jq y.2.2.2/\zg y.2.2.1 (qm S b b2 g.T.length y.2.1 (yk dn t true))/\DJ (vz g (zv g l c s) c) g.T.length goal y.2.1 (yk dn t true) y.2.2.2 x.1 (Ht g (zv g l c s) c t y.1)/\y.2.1 t=x.1/\Hj g.T.length y.2.1/\y.2.2.2.length<=q.length+y.1,λy=>8-y.1⟩ zb ?_ ?_
 ·exact⟨(0,d,F,q),Tv,⟨Faf _,rfl,hQ,hH,hdis,hDJ,hk.symm,hcb,Fah _⟩,Qao,⟨rfl,Tv⟩⟩
 have hx0:0<=x.1:=by omega
 have hx1:x.1<=84*(g.T.length:Int):=by omega
 clear hQ hH hdis hDJ hDJ1 hcb hbig hmin hnil hd0 hdx
 rintro⟨i,d,F,m⟩ st' ⟨hi,rfl,hQ,hH,hdis,hDJ,hdt1,hcb,hml⟩
 dsimp only at hi hQ hH hdis hDJ hdt1 hcb hml⊢
 refine bcd (λc2=>?_) (λc2=>?_)
 rotate_left
 ·have:i=8:=by omega
  subst this
  have hlen:m.length<=1000000:=by omega
  have hDJ2:=zac hDJ
  refine Sx hQ hlen hH hdis _ (λF' o l' g1 g2 g3 g4 g5 g6=>?_)
  refine⟨(d,yk dn t true,F',o,l',x.1),?_,⟨rfl,g1,g2,g3,W3 (hDJ2) g4,g5,g6,hcb,?_⟩,Qao,Tv⟩
  ·show 9*Bu g.T.length (yk dn t true)+(o.toList++l').length<9*Bu g.T.length dn+(Option.toList (some x)++q).length
   rw[<-g4.length_eq,hq9]
   omega
  ·dsimp only
   rw[<-g4.length_eq]
   omega
 have hlt:i<8:=by omega
 refine⟨i,rfl,hlt,?_⟩
 refine za _ (Oq hlt) ?_
 refine fh hg (zd (hfo _ _)) t htn i hlt _ ?_
 have hsb:=fj g (zv g l c s) c t i
 have hskip:=Rl hDJ
 have hedge:=ybg (g:=g) (ok:=zv g l c s) (c:=c) (t:=t) (way:=i) hokt htn hlt
 have hor:=hbn i hlt
 have hfr:0<qi g (zv g l c s) c t i->0<=z7 g t i:=λhp=>(Wm (Sd (g:=g) (ok:=zv g l c s) (c:=c) (t:=t) (way:=i) (by omega))).1
 generalize hC:qi g (zv g l c s) c t i=C at*
 generalize hU:z7 g t i=U at*
 -- nothing to note:on with the next way
 have next:(0<C->∀u:Nat,U=u->0<=d u/\d u<=d t+C)->∃y:Nat×(Nat->Int)×Store×List (Int×Int),8-y.1<8-i/\(y.1<=8/\F.un (qm S b b2 g.T.length d (yk dn t true))=y.2.2.1.un (qm S b b2 g.T.length y.2.1 (yk dn t true))/\QOf y.2.2.1 p y.2.2.2/\jq y.2.2.2/\zg y.2.2.1 (qm S b b2 g.T.length y.2.1 (yk dn t true))/\DJ (vz g (zv g l c s) c) g.T.length goal y.2.1 (yk dn t true) y.2.2.2 x.1 (Ht g (zv g l c s) c t y.1)/\y.2.1 t=x.1/\Hj g.T.length y.2.1/\y.2.2.2.length<=q.length+y.1)/\y=(i+1,d,F,m):=λhp=>
  ⟨(i+1,d,F,m),by dsimp only;omega,⟨by dsimp only;omega,rfl,hQ,hH,hdis,hskip (λu hu hc=>hp hc u hu),hdt1,hcb,by dsimp only;omega⟩,rfl⟩
 refine bcd (λc3=>?_) (λc3=>?_)
 rotate_left
 ·obtain⟨y,f1,f2,rfl⟩:=next (λhc=>absurd hc c3)
  refine Qd ?_
  exact⟨(i+1,d,F,m),f1,f2,Qao,⟨rfl,Tv⟩⟩
 have hU0:=hfr c3
 obtain⟨u,rfl,hul⟩:∃u:Nat,U=(u:Int)/\u<g.T.length:=by
  rcases hor with h1|h1
  ·omega
  ·exact h1
 rw[Fbb]at hedge
 have hedge:=hedge c3
 refine⟨u,rfl,hul,?_⟩
 refine za (o:=(F.un (qm S b b2 g.T.length d (yk dn t true))).obj b2) _ (zd (hfn d _)) ?_
 refine za _ (sy hul) ?_
 refine yp ?_
 refine zi (λc4=>?_) (λc4=>?_)
 ·obtain⟨y,f1,f2,rfl⟩:=next (λhc v hv=>by
   have:v=u:=by omega
   subst this
   have:=hDJ.mono v c4
   omega)
  refine Qd ?_
  exact⟨(i+1,d,F,m),f1,f2,Qao,⟨rfl,Tv⟩⟩
 refine⟨u,rfl,hul,?_⟩
 refine za (o:=(F.un (qm S b b2 g.T.length d (yk dn t true))).obj b) _ (zd (hfd d _)) ?_
 refine za _ (wx hul) ?_
 refine bcd (λc5=>?_) (λc5=>?_)
 ·skip
  have hlow:d u<0\/d t+C<d u:=Or.inl c5
  have hcb2:=rt hcb hul (t:=t) (u:=u) (c:=C) (by omega) (by omega) hlow
  rw[hdt1]at hcb2 hlow
  refine Qd ?_
  refine⟨u,rfl,hul,?_⟩
  refine yn (i:=ti2) (v:=int (x.1+C)) (b:=b) (o:=0+u*1) (l:=il g.T.length d) (st2:=F.un (qm S b b2 g.T.length (yk d u (x.1+C)) (yk dn t true))) rfl rfl rfl (zd (hfd d _)) (by rw[qq];omega) ?_ ?_
  ·rw[Oo _ _ _ _ hul,zo,hsd]
  refine Qd ?_
  refine Su hQ (by omega) hH (hdd F d (yk d u (x.1+C)) _ _ hdis) (x.1+C,(u:Int)) _ (λF' m' e1 e2 e3 e4=>?_)
  have hnote:=rf Pe hDJ hdn1 hdt1 hul hedge c4 hlow e3
  have htu:t≠u:=λe=>by subst e;rw[hdn1]at c4;cases c4
  have hC:=hC.symm
  refine Qd ?_
  refine⟨(i+1,yk d u (x.1+C),F',m'),?_,⟨by dsimp only;omega,rfl,e1,e2,e4,?_,?_,hcb2,?_⟩,Qao,⟨rfl,Tv⟩⟩
  ·show 8-(i+1)<8-i
   omega
  ·refine Rl hnote (λv hv hc=>?_)
   have hvu:v=u:=by
    rw[hU]at hv
    omega
   subst hvu
   dsimp only
   rw[we,jg htu,hdt1,<-hC]
   omega
  ·dsimp only
   rw[jg htu]
   exact hdt1
  ·dsimp only
   rw[e3.length_eq,Fbd]
   omega
 have hbig:=ba hcb u
 refine Qd ?_
 refine⟨u,rfl,hul,?_⟩
 refine za (o:=(F.un (qm S b b2 g.T.length d (yk dn t true))).obj b) _ (zd (hfd d _)) ?_
 refine za _ (wx hul) ?_
 refine bcd (λc6=>?_) (λc6=>?_)
 ·skip
  have hlow:d u<0\/d t+C<d u:=Or.inr (show d t+C<d u by omega)
  have hcb2:=rt hcb hul (t:=t) (u:=u) (c:=C) (by omega) (by omega) hlow
  rw[hdt1]at hcb2 hlow
  refine Qd ?_
  refine⟨u,rfl,hul,?_⟩
  refine yn (i:=ti2) (v:=int (x.1+C)) (b:=b) (o:=0+u*1) (l:=il g.T.length d) (st2:=F.un (qm S b b2 g.T.length (yk d u (x.1+C)) (yk dn t true))) rfl rfl rfl (zd (hfd d _)) (by rw[qq];omega) ?_ ?_
  ·rw[Oo _ _ _ _ hul,zo,hsd]
  refine Qd ?_
  refine Su hQ (by omega) hH (hdd F d (yk d u (x.1+C)) _ _ hdis) (x.1+C,(u:Int)) _ (λF' m' e1 e2 e3 e4=>?_)
  have hnote:=rf Pe hDJ hdn1 hdt1 hul hedge c4 hlow e3
  have htu:t≠u:=λe=>by subst e;rw[hdn1]at c4;cases c4
  have hC:=hC.symm
  refine Qd ?_
  refine⟨(i+1,yk d u (x.1+C),F',m'),?_,⟨by dsimp only;omega,rfl,e1,e2,e4,?_,?_,hcb2,?_⟩,Qao,⟨rfl,Tv⟩⟩
  ·show 8-(i+1)<8-i
   omega
  ·refine Rl hnote (λv hv hc=>?_)
   have hvu:v=u:=by
    rw[hU]at hv
    omega
   subst hvu
   dsimp only
   rw[we,jg htu,hdt1,<-hC]
   omega
  ·dsimp only
   rw[jg htu]
   exact hdt1
  ·dsimp only
   rw[e3.length_eq,Fbd]
   omega
 obtain⟨y,f1,f2,rfl⟩:=next (λhc v hv=>by
  have:v=u:=by omega
  subst this
  omega)
 refine Qd ?_
 exact⟨(i+1,d,F,m),f1,f2,Qao,⟨rfl,Tv⟩⟩
end
theorem zbj{S:Store}{nb:Nat}{g:Gnd}(hg:zp g){l:List Bld}{c s:Int}(hn:S.obj nb=some (.cells (qt g l c s)))(goal:Nat)(hgo:goal<g.T.length)(R:Ja)
  (h:∀b,Fresh S b->R (.s (.slice (some ⟨b,0,none⟩) g.T.length g.T.length)) (S.sO b (.cells (il g.T.length (xa g (zv g l c s) c (j1 g (zv g l c s) c goal)))))):
  Jb 450 [ptr nb,int (goal:Nat)] S R:=by
 have ha:=qr hg
 have hT:g.T.length<=16384:=by omega
 refine Qa (c:=cfg 71) zb Tryz.func450 ?_
 refine zz1 hg hn goal hgo _ (λb hf hdb=>?_)
 generalize j1 g (zv g l c s) c goal=d at*
 refine⟨by decide,?_⟩
 refine Ss (-1) g.T.length (by omega) (by omega) _ _ (λb2 hf2=>?_)
 have hbb:b≠b2:=λe=>by
  have:=hf2.1
  rw[<-e,zc]at this;cases this
 rw[<-u0 g (zv g l c s) c d]
 have hfo:=λf=>za8 (n:=g.T.length) hf hf2 hn d f
 have hfd:=λf=>zbb (S:=S) (n:=g.T.length) hbb d f
 have hsf:=λf f'=>za7 (S:=S) (b:=b) (b2:=b2) (n:=g.T.length) d f f'
 have hff:=λf=>zba (S:=S) (b:=b) (b2:=b2) (n:=g.T.length) d f
 refine AWp.loop (σ:=Nat) ⟨λi=>[(0,.av (ptr nb)),(5,.av (.s (.slice (some ⟨b,0,none⟩) g.T.length g.T.length))),(6,.av (.s (.slice (some ⟨b2,0,none⟩) g.T.length g.T.length))),(20,.av (.s (.slice (some ⟨b,0,none⟩) g.T.length g.T.length))),(21,.av (int (g.T.length:Nat))),(22,.av (int (i:Nat)))],λ_=>[],
  λi st'=>i<=g.T.length/\st'=jh S b b2 g.T.length d (vj g (zv g l c s) c d i),λi=>g.T.length-i⟩ zb ?_ ?_
 ·exact⟨0,Tv,⟨Faf _,rfl⟩,Qao,Tv⟩
 rintro i st' ⟨hi,rfl⟩
 refine bcd (λc1=>?_) (λc1=>?_)
 rotate_left
 ·have:i=g.T.length:=by omega
  subst this
  refine Ab (Tt) (zbc hf hbb _ _) ?_
  rw[zaa]
  exact h b2 (za9 hbb hf2)
 have hlt:i<g.T.length:=by omega
 -- on with the next tile
 have next:∀f,f=vj g (zv g l c s) c d (i+1)->∃k:Nat,g.T.length-k<g.T.length-i/\(k<=g.T.length/\jh S b b2 g.T.length d f=jh S b b2 g.T.length d (vj g (zv g l c s) c d k))/\k=i+1:=λf e=>⟨i+1,by omega,⟨by omega,by rw[e]⟩,rfl⟩
 refine⟨i,rfl,hlt,?_⟩
 refine za (o:=(jh S b b2 g.T.length d _).obj b) _ (hfd _) ?_
 refine za _ (wx hlt) ?_
 refine bcd (λc2=>?_) (λc2=>?_)
 ·obtain⟨k,f1,f2,rfl⟩:=next _ (cx (zaf c2)).symm
  refine Qd ?_
  exact⟨i+1,f1,f2,Qao,Tv⟩
 refine za (o:=(jh S b b2 g.T.length d _).obj nb) _ (hfo _) ?_
 refine Pt g hg i hlt _ _ ?_
 refine AWp.loop (σ:=Nat) ⟨λj=>[(0,.av (ptr nb)),(5,.av (.s (.slice (some ⟨b,0,none⟩) g.T.length g.T.length))),(6,.av (.s (.slice (some ⟨b2,0,none⟩) g.T.length g.T.length))),(7,.av (int (i:Nat))),(8,.av (int (d i))),(9,.bx 9 0),(20,.av (.s (.slice (some ⟨b,0,none⟩) g.T.length g.T.length))),(21,.av (int (g.T.length:Nat))),(22,.av (int (i:Nat))),(35,.av (Ka g i)),(36,.av (int (j:Nat)))],λ_=>[(9,il 8 (z7 g i))],
  λj st'=>j<=8/\st'=jh S b b2 g.T.length d (vj g (zv g l c s) c d i)/\∀w,w<j->¬Dx g (zv g l c s) c d i w,λj=>8-j⟩ zb ?_ ?_
 ·exact⟨0,Tv,⟨Faf _,rfl,λw hw=>absurd hw (Fa7 w)⟩,Qao,⟨rfl,Tv⟩⟩
 rintro j st' ⟨hj,rfl,hno⟩
 refine bcd (λc3=>?_) (λc3=>?_)
 rotate_left
 ·have:j=8:=by omega
  subst this
  obtain⟨k,f1,f2,rfl⟩:=next _ (cx (zae c2 hno)).symm
  refine Qd ?_
  exact⟨i+1,f1,f2,Qao,Tv⟩
 have hj8:j<8:=by omega
 have hskip:¬Dx g (zv g l c s) c d i j->∃k:Nat,8-k<8-j/\(k<=8/\jh S b b2 g.T.length d (vj g (zv g l c s) c d i)=jh S b b2 g.T.length d (vj g (zv g l c s) c d i)/\∀w,w<k->¬Dx g (zv g l c s) c d i w)/\k=j+1:=λhh=>⟨j+1,by omega,⟨by omega,rfl,λw hw=>by
  by_cases e:w=j
  ·subst e;exact hh
  ·exact hno w (by omega)⟩,rfl⟩
 have hyes:Dx g (zv g l c s) c d i j->xa g (zv g l c s) c d i=(j:Int):=λhh=>zad c2 hj8 hh hno
 refine⟨j,rfl,hj8,?_⟩
 refine za _ (Oq hj8) ?_
 refine fh hg (hfo _) i hlt j hj8 _ ?_
 have hsb:=fj g (zv g l c s) c i j
 have hor:=Pu hg (t:=i) hj8
 have hfr:0<qi g (zv g l c s) c i j->0<=z7 g i j:=λhp=>(Wm (Sd (g:=g) (ok:=zv g l c s) (c:=c) (t:=i) (way:=j) (by omega))).1
 unfold Dx at hskip hyes
 generalize qi g (zv g l c s) c i j=C at*
 generalize z7 g i j=U at*
 refine bcd (λc4=>?_) (λc4=>?_)
 rotate_left
 ·obtain⟨k,f1,f2,rfl⟩:=hskip (λhh=>c4 hh.1)
  refine Qd ?_
  exact⟨j+1,f1,f2,Qao,⟨rfl,Tv⟩⟩
 have hU0:=hfr c4
 obtain⟨u,rfl,hul⟩:∃u:Nat,U=(u:Int)/\u<g.T.length:=by
  rcases hor with h1|h1
  ·omega
  ·exact h1
 rw[Fbb]at hskip hyes
 have hdu:=hdb u
 refine⟨u,rfl,hul,?_⟩
 refine za (o:=(jh S b b2 g.T.length d _).obj b) _ (hfd _) ?_
 refine za _ (wx hul) ?_
 refine bcd (λc5=>?_) (λc5=>?_)
 rotate_left
 ·obtain⟨k,f1,f2,rfl⟩:=hskip (λhh=>c5 hh.2.1)
  refine Qd ?_
  exact⟨j+1,f1,f2,Qao,⟨rfl,Tv⟩⟩
 refine⟨u,rfl,hul,?_⟩
 refine za (o:=(jh S b b2 g.T.length d _).obj b) _ (hfd _) ?_
 refine za _ (wx hul) ?_
 refine Qd ?_
 refine qf (λc6=>?_) (λc6=>?_)
 rotate_left
 ·obtain⟨k,f1,f2,rfl⟩:=hskip (λhh=>c6 hh.2.2)
  refine Qd ?_
  exact⟨j+1,f1,f2,Qao,⟨rfl,Tv⟩⟩
 have hw:=hyes ⟨c4,c5,c6⟩
 refine⟨i,rfl,hlt,?_⟩
 refine yn (i:=ti2) (v:=int (j:Nat)) (b:=b2) (o:=0+i*1) (l:=il g.T.length (vj g (zv g l c s) c d i)) (st2:=jh S b b2 g.T.length d (vj g (zv g l c s) c d (i+1))) rfl rfl rfl (hff _) (by rw[qq];omega) ?_ ?_
 ·rw[Oo _ _ _ _ hlt,hsf,cy,hw]
 obtain⟨k,f1,f2,rfl⟩:=next _ rfl
 refine Qd ?_
 exact⟨i+1,f1,f2,Qao,Tv⟩
structure MoverG(gv:AV)(F G:Store)(mb s p:Nat)(w:Wld)(v:AV)(L:List Ent)(o0 o1 o2:AV):Prop where
 S:StandR F G s p w v L o0 o1 o2
 hx:G.obj mb=some (.cells [ptr s,gv])
 ox:Cu v mb
 os:Cu v s
 hL:L.length<=w.U.length
 hF:Bv w L
section
variable {gv v o0 o1 o2 q0 q1 q2:AV} {F G F':Store} {mb p i:Nat} {w:Wld}
theorem MoverG.ne{s:Nat}{L:List Ent}(h:MoverG gv F G mb s p w v L o0 o1 o2):mb≠s:=λe=>by
 have:=h.S.hs
 rw[<-e,h.hx]at this
 cases this
theorem MoverG.m{s:Nat}{w':Wld}{L:List Ent}(h:MoverG gv F G mb s p w v L o0 o1 o2):(F'.un (svS G s w' v q0 q1 q2 p)).obj mb=some (.cells [ptr s,gv]):=
 zd (by
  show(G.sO s _).obj mb=_
  rw[zf h.ne]
  exact h.hx)
theorem MoverG.s{s:Nat}{L:List Ent}(h:MoverG gv F G mb s p w v L o0 o1 o2):(F'.un (svS G s w v q0 q1 q2 p)).obj s=some (.cells (svC w v q0 q1 q2 p)):=zd (Ay _ _ _ _ _ _ _ _)
theorem MoverG.put{G':Store}{s:Nat}{L:List Ent}(h:MoverG gv F G mb s p w v L o0 o1 o2)(hr:yi w.U)(hi:i<w.U.length){u:Unt}(hid:w.U[i].id=u.id)(g1:StandR F' G' s p {w with U:=w.U.set i u} v (Hh L u) q0 q1 q2)
  (g2:∀q,Cu v q->G'.obj q=G.obj q):MoverG gv F' G' mb s p (yc w u) v (Hh L u) q0 q1 q2:=by
 rw[Gv hr hi hid.symm]
 have hF3:=zvo h.hF hr hi (u:=u) hid
 refine⟨g1,by rw[g2 mb h.ox];exact h.hx,h.ox,h.os,?_,hF3⟩
 obtain⟨_,_,_,_,_,_,_,_,inv⟩:=g1.hc
 exact zvp inv.n1 hF3
theorem Vs{s:Nat}{L:List Ent}(hW:MoverG gv F G mb s p w v L o0 o1 o2)(hm:MayF w)(hn:∀u∈w.U,u.pos.ok)(hi:i<w.U.length)(u:Unt)(hid:w.U[i].id=u.id)(hp:u.pos.ok)(R:Ja)
  (h:∀F' G' L',MoverG gv F' G' mb s p (yc w u) v L' o0 o1 o2->R (.tup []) (F'.un (svS G' s (yc w u) v o0 o1 o2 p))):
  Jb 150 [ptr s,.agg (zl u)] (F.un (svS G s w v o0 o1 o2 p)) R:=by
 have hU:=hm.hU
 refine zuh hW.S hW.os hm.hr (by omega) (by have:=hW.hL;omega) (Vi hW.hF hn) hi u hid hp R λF' G' g1 g2=>?_
 have e:=Gv (w:=w) hm.hr hi hid.symm
 have:=h F' G' _ (hW.put hm.hr hi hid g1 g2)
 rw[e]at this
 exact this
theorem ef{s:Nat}{L:List Ent}(hW:MoverG gv F G mb s p w v L o0 o1 o2)(hm:MayF w)(hn:∀u∈w.U,u.pos.ok)(hi:i<w.U.length)(d:Vc)(hd:d.ok)(R:Ja)
  (h:∀F' G' L' q0 q1 q2,MoverG gv F' G' mb s p (j4 w w.U[i] d) v L' q0 q1 q2->R (int (Gh w w.U[i] d)) (F'.un (svS G' s (j4 w w.U[i] d) v q0 q1 q2 p))):
  Jb 143 [ptr mb,.agg (zl w.U[i]),.agg (z6 d)] (F.un (svS G s w v o0 o1 o2 p)) R:=by
 have hU:=hm.hU
 have hB:=hm.hB
 have hnd:=zan hd
 have hpk:=hn _ (Faa hi)
 unfold j4 Gh at h
 have hhalf:=λk=>zy3 hnd k
 have hzero:=λn k=>zbf (w:=w) (u:=w.U[i]) (v:=jf d) (n:=n) (k:=k)
 have hnext:=λn k=>zbh (w:=w) (u:=w.U[i]) (v:=jf d) (n:=n) (k:=k)
 have hsome:=λn k=>zbg (w:=w) (u:=w.U[i]) (v:=jf d) (n:=n) (k:=k)
 have hhv:∀k,wy (jf d) k=((jf d).1.tdiv ((2^k:Nat):Int),(jf d).2.tdiv ((2^k:Nat):Int)):=λk=>rfl
 refine Qa (c:=cfg 53) zb Tryz.func143 ?_
 refine df d _ _ ?_
 generalize jf d=nd at*
 refine AWp.loop (σ:=Nat×Store×AV×AV×AV) ⟨λx=>[(0,.av (ptr mb)),(4,.bx 4 0),(5,.bx 5 0),(12,.av (int (x.1:Nat)))],λ_=>[(4,zl w.U[i]),(5,z6 nd)],
  λx st'=>x.1<=5/\st'=x.2.1.un (svS G s w v x.2.2.1 x.2.2.2.1 x.2.2.2.2 p)/\StandR x.2.1 G s p w v L x.2.2.1 x.2.2.2.1 x.2.2.2.2/\ko w w.U[i] nd 5 0=ko w w.U[i] nd (5-x.1) x.1,λx=>5-x.1⟩ zb ?_ ?_
 ·exact⟨(0,F,o0,o1,o2),Tv,⟨Faf _,rfl,hW.S,rfl⟩,Qao,⟨rfl,rfl,Tv⟩⟩
 rintro⟨k,F1,q0,q1,q2⟩ st' ⟨hk,rfl,hS1,hT⟩
 dsimp only at hk hS1 hT⊢
 refine bcd (λc1=>?_) (λc1=>?_)
 rotate_left
 ·have:k=5:=by omega
  subst this
  have hT:ko w w.U[i] nd 5 0=none:=hT
  rw[hT]at h
  exact ret (h F1 G L q0 q1 q2 ⟨hS1,hW.hx,hW.ox,hW.os,hW.hL,hW.hF⟩)
 have hk5:k<5:=by omega
 obtain⟨n,hn5⟩:∃n,5-k=n+1:=⟨4-k,by omega⟩
 rw[hn5]at hT
 have hsh:=zp7 hk5
 have hkv:=hhv k
 have hh:=hhalf k
 have hp2:((2^k:Nat):Int)≠0:=by have:0<2^k:=Nat.pow_pos (by decide);omega
 rw[<-hsh]at hkv hp2
 have hh1:zy (nd.1.tdiv (IntKind.i64.wrap (1*2^(min ((k:Int)).toNat IntKind.i64.bits)))):=by
  have:=hh.1
  rw[hkv]at this
  exact⟨by dsimp only at this;omega,by dsimp only at this;omega⟩
 have hh2:zy (nd.2.tdiv (IntKind.i64.wrap (1*2^(min ((k:Int)).toNat IntKind.i64.bits)))):=by
  have:=hh.2
  rw[hkv]at this
  exact⟨by dsimp only at this;omega,by dsimp only at this;omega⟩
 have hz0:=hzero n k
 have hnx:=hnext n k
 have hsm:=hsome n k
 refine Qc zb zsr ?_
 refine⟨by omega,?_⟩
 refine⟨hp2,ze hh1 ?_⟩
 refine⟨by omega,?_⟩
 refine⟨hp2,ze hh2 ?_⟩
 refine⟨⟨?_,?_⟩,Tv⟩
 ·repeat(first|exact Tv|refine⟨rfl,?_⟩|refine⟨⟨by omega,rfl⟩,?_⟩|refine⟨⟨hp2,ze hh1 rfl⟩,?_⟩|refine⟨⟨hp2,ze hh2 rfl⟩,?_⟩)
 refine Qas ?_
 rw[hkv]at hz0 hnx hsm hh
 generalize nd.1.tdiv (IntKind.i64.wrap (1*2^(min ((k:Int)).toNat IntKind.i64.bits)))=a at*
 generalize nd.2.tdiv (IntKind.i64.wrap (1*2^(min ((k:Int)).toNat IntKind.i64.bits)))=b at*
 refine zi (λc2=>?_) (λc2=>?_)
 ·have e:(a,b)=((0:Int),(0:Int)):=by
   simp only[Fau,beq_iff_eq]at c2
   exact Prod.ext c2.1 c2.2.1
  rw[hz0 e]at hT
  rw[hT]at h
  exact ret (h F1 G L q0 q1 q2 ⟨hS1,hW.hx,hW.ox,hW.os,hW.hL,hW.hF⟩)
 have hne:(a,b)≠((0:Int),(0:Int)):=λe=>by
  cases e
  exact absurd c2 (by decide)
 refine dm w.U[i].pos (a,b) hpk (Vp hh) _ _ ?_
 have hnp:=Vp (ml w.U[i].pos (a,b))
 have hnx:=hnx hne
 have hsm:=hsm hne
 generalize xp w.U[i].pos (a,b)=np at*
 refine Qc zb zsq ?_
 refine za (o:=(F1.un (svS G s w v q0 q1 q2 p)).obj mb) _ hW.m ?_
 refine⟨zpw hS1 hm.hg (by omega) hm.hb hm.hr (by omega) hn hW.hL hW.hF w.U[i].id w.U[i].kind np hnp _ (λz F2 a0 a1 a2 hz hS2=>⟨Tv,?_⟩),Tv⟩
 refine zi (λc3=>?_) (λc3=>?_)
 rotate_left
 ·rw[hnx (λhh=>by rw[hz.2 hh]at c3;cases c3)]at hT
  refine Qd ?_
  refine⟨(k+1,F2,a0,a1,a2),?_,⟨by dsimp only;omega,rfl,hS2,?_⟩,Qao,⟨rfl,rfl,Tv⟩⟩
  ·show 5-(k+1)<5-k
   omega
  ·show ko w w.U[i] nd 5 0=ko w w.U[i] nd (5-(k+1)) (k+1)
   rw[hT]
   congr 1
   omega
 rw[hsm (hz.1 c3)]at hT
 rw[hT]at h
 have hW2:MoverG gv F2 G mb s p w v L a0 a1 a2:=⟨hS2,hW.hx,hW.ox,hW.os,hW.hL,hW.hF⟩
 refine Qc zb zss ?_
 refine za (o:=(F2.un (svS G s w v a0 a1 a2 p)).obj mb) _ hW.m ?_
 refine⟨Vs hW2 hm hn hi {w.U[i]with pos:=np} rfl hnp _ (λF3 G3 L3 hW3=>⟨Tv,?_⟩),Tv⟩
 exact ret (h F3 G3 L3 a0 a1 a2 hW3)
end
section
variable {gv v o0 o1 o2:AV} {F G:Store} {mb s p i:Nat} {w:Wld}
theorem ybe{L:List Ent}(hW:MoverG gv F G mb s p w v L o0 o1 o2)(hm:MayF w)(hn:∀u∈w.U,u.pos.ok)(hi:i<w.U.length)(u:Unt)(hid:w.U[i].id=u.id)(hp:u.pos.ok)(z:Int)(R:Ja)
  (h:∀F' G' L',MoverG gv F' G' mb s p (yc w (vx z u)) v L' o0 o1 o2->R (.tup []) (F'.un (svS G' s (yc w (vx z u)) v o0 o1 o2 p))):
  Jb 146 [ptr mb,.agg (zl u),int z] (F.un (svS G s w v o0 o1 o2 p)) R:=by
 refine Qa (c:=cfg 17) zb Tryz.func146 ?_
 refine Qc zb zsn ?_
 refine za (o:=(F.un (svS G s w v o0 o1 o2 p)).obj mb) _ hW.m ?_
 refine⟨Vs hW hm hn hi (vx z u) hid hp _ (λF3 G3 L3 hW3=>⟨Tv,?_⟩),Tv⟩
 exact ret (h F3 G3 L3 hW3)
theorem zyu{L:List Ent}(hW:MoverG gv F G mb s p w v L o0 o1 o2)(hm:MayF w)(hn:∀u∈w.U,u.pos.ok)(hmap:∀u∈w.U,u.inn=0->qp u.pos)(hi:i<w.U.length)(h0:w.U[i].inn=0)(R:Ja)
  (h:∀F' G' L' q0 q1 q2,MoverG gv F' G' mb s p (C9 w w.U[i]) v L' q0 q1 q2->R (.tup []) (F'.un (svS G' s (C9 w w.U[i]) v q0 q1 q2 p))):
  Jb 76 [ptr mb,.agg (zl w.U[i])] (F.un (svS G s w v o0 o1 o2 p)) R:=by
 have hU:=hm.hU
 have hpu:=hmap _ (Faa hi) h0
 have hkr:=Fv w.U[i].kind
 have hks:=M5 w.U[i].kind
 have htiny:=zyt hpu (λx hx h1=>hmap x hx h1) hU
 have hidl:=λ(us:List Unt) (h1:G4 w w.U[i].pos (zq w.U[i].kind+16384+81920) us) h2=>zys (u:=w.U[i]) hm.hr h1 h2
 unfold C9 at h
 refine Qa (c:=cfg 55) zb Tryz.func76 ?_
 refine je _ _ _ ?_
 refine Qc zb zqp ?_
 refine za (o:=(F.un (svS G s w v o0 o1 o2 p)).obj mb) _ hW.m ?_
 refine Qd ?_
 refine⟨f8 hW.S hm.hr (by omega) hn hW.hL hW.hF w.U[i].pos (Ca hpu) (zq w.U[i].kind+16384) (by omega) _ (λF1 us hS1 hus hss hul=>⟨Tv,?_⟩),Tv⟩
 have hW1:MoverG gv F1 G mb s p w v L o0 o1 o2:=⟨hS1,hW.hx,hW.ox,hW.os,hW.hL,hW.hF⟩
 have hid:=hidl us hus hss
 have hnv:∀k,nV ((us.take k).foldl (j7 w.U[i]) (0,0)):=λk=>mh _ ⟨⟨by decide,by decide⟩,⟨by decide,by decide⟩⟩
 refine AWp.loop (σ:=Nat) ⟨λk=>[(0,.av (ptr mb)),(3,.bx 3 0),(4,.bx 4 0),(5,.bx 5 0),(20,.av (lst 10 zl us)),(21,.av (int (us.length:Nat))),(22,.av (int (k:Nat)))],λk=>[(3,zl w.U[i]),(4,G9 w.U[i].kind),(5,z6 ((us.take k).foldl (j7 w.U[i]) (0,0)))],
  λk st'=>k<=us.length/\st'=F1.un (svS G s w v o0 o1 o2 p),λk=>us.length-k⟩ zb ?_ ?_
 ·refine⟨0,Tv,⟨Faf _,rfl⟩,⟨Tq,Tq,Tq,Tq,Tq,?_,Tq,Tv⟩,⟨rfl,rfl,rfl,Tv⟩⟩
  exact LV.le_int (by rw[zh])
 rintro k st' ⟨hk,rfl⟩
 refine bcd (λc1=>?_) (λc1=>?_)
 rotate_left
 ·have:k=us.length:=by omega
  have hv:(us.take k).foldl (j7 w.U[i]) (0,0)=Fz w w.U[i]:=by
   rw[this,Fap,hid]
  rw[<-hv]at h htiny
  have hq4:(jy w.U[i].kind).tdiv 4=jy w.U[i].kind/4:=Fa4 (by omega)
  refine Qc zb zqn ?_
  refine⟨by decide,ze (by rw[hq4];omega) ?_⟩
  refine⟨Pm ((us.take k).foldl (j7 w.U[i]) (0,0)) ((jy w.U[i].kind).tdiv 4) htiny (by rw[hq4];omega) _ _ ⟨Qe,?_⟩,Tv⟩
  refine⟨ef hW1 hm hn hi _ (dg htiny) _ (λF3 G3 L3 a0 a1 a2 hW3=>⟨Tv,?_⟩),Tv⟩
  exact ret (h F3 G3 L3 a0 a1 a2 hW3)
 have hlt:k<us.length:=by omega
 have hx:=(hus us[k]).1 (Faa hlt)
 have hpx:=hmap _ hx.1.1 hx.1.2
 have hkx:=Fv us[k].kind
 refine⟨k,rfl,za _ (zw hlt) ?_⟩
 have hstep:(us.take (k+1)).foldl (j7 w.U[i]) (0,0)=j7 w.U[i] ((us.take k).foldl (j7 w.U[i]) (0,0)) us[k]:=by
  rw[Fac hlt,Fdt]
  rfl
 refine wl (λc2=>?_) (λc2=>?_)
 rotate_left
 ·have hst:(us.take (k+1)).foldl (j7 w.U[i]) (0,0)=(us.take k).foldl (j7 w.U[i]) (0,0):=by
   rw[hstep]
   unfold j7
   rw[if_neg (λhh=>hh c2)]
  refine Qd ?_
  refine⟨k+1,?_,⟨hlt,rfl⟩,Qao,⟨rfl,rfl,congrArg (λx=>some (z6 x)) hst.symm,Tv⟩⟩
  show us.length-(k+1)<us.length-k
  omega
 have hst:(us.take (k+1)).foldl (j7 w.U[i]) (0,0)=xp ((us.take k).foldl (j7 w.U[i]) (0,0)) (ky w.U[i].pos (zq w.U[i].kind+zq us[k].kind+16384) us[k].pos):=by
  rw[hstep]
  unfold j7
  rw[if_pos c2]
 have hps:=S0 hpu hpx (r:=zq w.U[i].kind+zq us[k].kind+16384) (by omega)
 have hnk:=hnv k
 refine Qc zb zqo ?_
 refine⟨je _ _ _ ⟨Qe,?_⟩,Tv⟩
 refine Qd ?_
 refine Qd ?_
 refine⟨zp9 w.U[i].pos (zq w.U[i].kind+zq us[k].kind+16384) us[k].pos hpu hpx (by omega) _ _ ⟨Qe,?_⟩,Tv⟩
 refine⟨dm _ _ (Vp hnk) ⟨⟨by omega,by omega⟩,⟨by omega,by omega⟩⟩ _ _ ⟨Qe,?_⟩,Tv⟩
 refine Qar ?_
 refine Qd ?_
 refine⟨k+1,?_,⟨hlt,rfl⟩,Qao,⟨rfl,rfl,congrArg (λx=>some (z6 x)) hst.symm,Tv⟩⟩
 show us.length-(k+1)<us.length-k
 omega
end
end Go.Proofs
namespace Go.Proofs
open Go Go.V
set_option maxRecDepth 20000
set_option maxHeartbeats 4000000
theorem zyg{S:Store}{b n:Nat}{f:Nat->Int}(hb:S.obj b=some (.cells (il n f)))(hn:n<=1000000)(x:Int)(R:Ja)(h:∀r:Int,((0:Int)<=r↔(List.range n).any (λj=>f j==x)=true)->R (int r) S):
  Jb 316 [.s (.slice (some ⟨b,0,none⟩) n n),int x] S R:=by
 refine Qa (c:=cfg 19) zb Tryz.func316 ?_
 refine AWp.loop (σ:=Nat) ⟨λi=>[(0,.av (.s (.slice (some ⟨b,0,none⟩) n n))),(1,.av (int x)),(7,.av (int (n:Nat))),(8,.av (int (i:Nat)))],λ_=>[],
  λi st'=>i<=n/\st'=S/\∀j,j<i->(f j==x)=false,λi=>n-i⟩ zb ?_ ?_
 ·exact⟨0,Tv,⟨Faf _,rfl,λj hj=>absurd hj (Fa7 j)⟩,Qao,Tv⟩
 rintro i st' ⟨hi,rfl,hall⟩
 refine bcd (λc1=>?_) (λc1=>?_)
 rotate_left
 ·have:i=n:=by omega
  subst this
  refine ret (h (-1) ?_)
  rw[yel hall]
  simp
 have hlt:i<n:=by omega
 refine⟨i,rfl,hlt,?_⟩
 refine Qat ?_
 refine za _ (wx hlt) ?_
 refine qf (λc2=>?_) (λc2=>?_)
 ·refine ret (h i ?_)
  rw[yem hlt (by rw[c2];simp)]
  simp
 ·refine Qd ?_
  refine⟨i+1,?_,⟨by omega,rfl,λj hj=>?_⟩,Qao,Tv⟩
  ·show n-(i+1)<n-i
   omega
  ·by_cases e:j=i
   ·subst e
    rw[beq_eq_false_iff_ne]
    exact λe=>c2 e.symm
   ·exact hall j (by omega)
theorem ycj{S:Store}{b n:Nat}{f:Nat->Int}(hb:S.obj b=some (.cells (il n f)))(hn:n<=1000000)(x:Int)(R:Ja)(h:R (V.bool ((List.range n).any (λj=>f j==x))) S):
  Jb 235 [.s (.slice (some ⟨b,0,none⟩) n n),int x] S R:=by
 refine Qa (c:=cfg 9) zb Tryz.func235 ?_
 refine zyg hb hn x _ (λr hr=>?_)
 have e:decide (r>=0)=(List.range n).any (λj=>f j==x):=by
  rw[Fc2,decide_eq_true_iff]
  exact hr
 rw[<-e]at h
 exact ret h
end Go.Proofs
namespace Go.Proofs
open Go Go.V
set_option maxRecDepth 20000
set_option maxHeartbeats 4000000
theorem R6{g:Gnd}(hg:zp g){t:Int}(h:wt g t):t=-1\/∃k:Nat,t=k/\k<g.T.length:=by
 rcases h with h|⟨h1,h2⟩
 ·exact .inl h
 ·obtain⟨k,rfl⟩:=Fb4 h1
  exact .inr ⟨k,rfl,by have:=hg.2.2.1;omega⟩
theorem zbe{w:Wld}{u:Unt}{d:Vc}(h:¬Gh w u d<5):j4 w u d=w:=by
 unfold Gh at h
 unfold j4
 cases hl:ko w u (jf d) 5 0 with
 |none=>rfl
 |some r=>
  rw[hl]at h
  obtain⟨k,q⟩:=r
  have:=(Mu _ _ hl).2.1.2
  dsimp only at this h
  exact absurd (by omega) h
section
variable {a g X N:Store} {gx:Value} {M n mb p:Nat} {w:Wld} {c:Int} {v o0 o1 o2:AV}
abbrev gvOf(gt:TypeId)(gx:Value):AV:=.s (.iface gt gx)
theorem Kj(hd:zg a g):a.un g=g.un a:=by
 show Store.mk _ _=Store.mk _ _
 congr 1
 ·funext i
  show(match g.obj i with|some x=>some x|none=>a.obj i)=match a.obj i with|some x=>some x|none=>g.obj i
  cases h1:a.obj i with
  |none=>cases g.obj i<;>rfl
  |some x=>rw[(kz (hd i (k9 h1))).1]
 ·funext i
  show(match g.tok i with|some x=>some x|none=>a.tok i)=match a.tok i with|some x=>some x|none=>g.tok i
  cases h1:a.tok i with
  |none=>cases g.tok i<;>rfl
  |some x=>rw[(kz (hd i (Lo h1))).2]
theorem L4(h:zg a g):zg g a:=λb h1 h2=>h b h2 h1
structure GuideK(gt:TypeId)(gx:Value)(K:Nat->Store->Prop)(M:Nat)(w:Wld):Prop where
 net:∀{n:Nat} {N:Store} {c s:Int},K n N->(c=0\/c=1\/c=2)->(0<=s/\s<=3)->∀R:AV->Store->Prop,(∀b N',K n N'->N'.obj b=some (.cells (qt w.G w.B c s))->R (ptr b) N')->
  ∃ g x, Meets Tryz.prog gt gx "Net" g x /\ Jb g [x, .agg (zn w.G), lst 6 zr w.B, int c, int s] N R
 ways:∀{n:Nat} {N:Store} {c s:Int},K n N->n<M->(c=0\/c=1\/c=2)->(0<=s/\s<=3)->∀goal:Nat,goal<w.G.T.length->∀R:AV->Store->Prop,
  (∀b N',K (n+1) N'->N'.obj b=some (.cells (il w.G.T.length (xa w.G (zv w.G w.B c s) c (j1 w.G (zv w.G w.B c s) c goal))))->R (.s (.slice (some ⟨b,0,none⟩) w.G.T.length w.G.T.length)) N')->
  ∃ g x, Meets Tryz.prog gt gx "Ways" g x /\ Jb g [x, .agg (zn w.G), lst 6 zr w.B, int c, int s, int (goal : Nat)] N R
theorem GuideK.netX{gt:TypeId}{K:Nat->Store->Prop}(hG:GuideK gt gx K M w)(hd:zg X N)(hK:K n N){s:Int}(hc:c=0\/c=1\/c=2)(hs:0<=s/\s<=3)(R:Ja)
  (h : ∀ b N2, zg X N2 -> K n N2 -> N2.obj b = some (.cells (qt w.G w.B c s)) -> R (ptr b) (X.un N2)) : ∃ g x, Meets Tryz.prog gt gx "Net" g x /\ Jb g [x, .agg (zn w.G), lst 6 zr w.B, int c, int s] (X.un N) R := by
 obtain⟨g,x,hm,hcl⟩:=hG.net hK hc hs (λr S=>∃b,r=ptr b/\K n S/\S.obj b=some (.cells (qt w.G w.B c s))) (λb N' h1 h2=>⟨b,rfl,h1,h2⟩)
 refine⟨g,x,hm,?_⟩
 rw[Kj hd]
 refine ACalls.frame (L4 hd) hcl ?_
 rintro r a' ⟨b,rfl,h1,h2⟩ hd2
 rw[Kj hd2]
 exact h b a' (L4 hd2) h1 h2
theorem GuideK.waysX{gt:TypeId}{K:Nat->Store->Prop}(hG:GuideK gt gx K M w)(hd:zg X N)(hK:K n N)(hn:n<M){s:Int}(hc:c=0\/c=1\/c=2)(hs:0<=s/\s<=3)(goal:Nat)(hgo:goal<w.G.T.length)(R:Ja)
  (h:∀b N2,zg X N2->K (n+1) N2->N2.obj b=some (.cells (il w.G.T.length (xa w.G (zv w.G w.B c s) c (j1 w.G (zv w.G w.B c s) c goal))))->R (.s (.slice (some ⟨b,0,none⟩) w.G.T.length w.G.T.length)) (X.un N2)):
  ∃ g x, Meets Tryz.prog gt gx "Ways" g x /\ Jb g [x, .agg (zn w.G), lst 6 zr w.B, int c, int s, int (goal : Nat)] (X.un N) R := by
 obtain⟨g,x,hm,hcl⟩:=hG.ways hK hn hc hs goal hgo (λr S=>∃b,r=.s (.slice (some ⟨b,0,none⟩) w.G.T.length w.G.T.length)/\K (n+1) S/\S.obj b=some (.cells (il w.G.T.length (xa w.G (zv w.G w.B c s) c (j1 w.G (zv w.G w.B c s) c goal))))) (λb N' h1 h2=>⟨b,rfl,h1,h2⟩)
 refine⟨g,x,hm,?_⟩
 rw[Kj hd]
 refine ACalls.frame (L4 hd) hcl ?_
 rintro r a' ⟨b,rfl,h1,h2⟩ hd2
 rw[Kj hd2]
 exact h b a' (L4 hd2) h1 h2
theorem zxk{gt:TypeId}{K:Nat->Store->Prop}(hG:GuideK gt gx K M w)(hd:zg X N)(hK:K n N){s:Nat}(hmbX:X.obj mb=some (.cells [ptr s,gvOf gt gx]))(hsX:X.obj s=some (.cells (svC w v o0 o1 o2 p)))(hm:MayF w)(u:Unt)(hnx:u.next=-1\/∃t:Nat,u.next=t/\t<w.G.T.length)(own:Nat)(ho:own<w.G.T.length)(R:Ja)
  (h:∀N2,zg X N2->K n N2->R (V.bool (G7 w u own)) (X.un N2)):Jb 148 [ptr mb,.agg (zl u),int (own:Nat)] (X.un N) R:=by
 obtain⟨S,hSe⟩:∃S,X.un N=S:=⟨_,rfl⟩
 have hmb:S.obj mb=some (.cells [ptr s,gvOf gt gx]):=hSe▸yr hd hmbX
 have hs:S.obj s=some (.cells (svC w v o0 o1 o2 p)):=hSe▸yr hd hsX
 rw[hSe]
 have hB:=hm.hB
 unfold G7 okU at h
 refine Qb (c:=cfg 77 [9] []) zb Tryz.func148 ?_
 refine AWp.seq (AWp.of_vc zb ?_)
 refine AWp.meet (σ:=Unit) ⟨λ_=>[(0,.av (ptr mb)),(2,.av (int (own:Nat))),(4,.bx 4 0),(7,.bx 7 0),(8,.bx 8 0)],λ_=>[(4,zl u),(7,zn w.G),(8,G9 u.kind)],λ_ st'=>st'=S⟩ zb ?_ ?_
 ·refine Qc zb zsm ?_
  refine Qat ?_
  refine Qat ?_
  exact⟨je _ _ _ ⟨Qe,⟨⟨Qe,⟨⟨Qe,⟨⟨Tv,⟨⟨Tv,⟨(),rfl,Qao,⟨rfl,rfl,rfl,Tv⟩⟩⟩,Tv⟩⟩,Tv⟩⟩,Tv⟩⟩,⟨⟨Qe,⟨⟨Qe,⟨⟨Tv,⟨⟨Tv,⟨(),rfl,Qao,⟨rfl,rfl,rfl,Tv⟩⟩⟩,Tv⟩⟩,Tv⟩⟩,Tv⟩⟩,Tv⟩⟩⟩,⟨⟨Qe,⟨je _ _ _ ⟨Qe,⟨⟨Qe,⟨⟨Tv,⟨⟨Tv,⟨(),rfl,Qao,⟨rfl,rfl,rfl,Tv⟩⟩⟩,Tv⟩⟩,Tv⟩⟩,Tv⟩⟩,⟨⟨Qe,⟨je _ _ _ ⟨Qe,⟨⟨Tv,⟨⟨Tv,⟨(),rfl,Qao,⟨rfl,rfl,rfl,Tv⟩⟩⟩,Tv⟩⟩,Tv⟩⟩,Tv⟩⟩,Tv⟩⟩⟩,⟨⟨Qe,⟨je _ _ _ ⟨Qe,⟨⟨Qe,⟨⟨Tv,⟨⟨Tv,⟨(),rfl,Qao,⟨rfl,rfl,rfl,Tv⟩⟩⟩,Tv⟩⟩,Tv⟩⟩,Tv⟩⟩,⟨⟨Qe,⟨je _ _ _ ⟨Qe,⟨⟨Tv,⟨⟨Tv,⟨(),rfl,Qao,⟨rfl,rfl,rfl,Tv⟩⟩⟩,Tv⟩⟩,Tv⟩⟩,Tv⟩⟩,Tv⟩⟩⟩,Tv⟩⟩⟩
 rintro _ st' rfl
 refine AWp.of_vc zb ?_
 have hk:=nt u.kind
 refine Qc zb zsl ?_
 refine qf (λc1=>?_) (λc1=>?_)
 ·refine Qar ?_
  refine Qar ?_
  rw[decide_eq_true c1]at h
  have h0:=h N hd hK
  rw[hSe]at h0
  exact ret h0
 obtain⟨t,ht,htl⟩:∃t:Nat,u.next=t/\t<w.G.T.length:=by
  rcases hnx with h1|h1
  ·exact absurd h1 c1
  ·exact h1
 rw[decide_eq_false c1,ht,Fbb]at h
 refine⟨Ob w.G hm.hg t htl u.next ht _ _ ⟨Qe,?_⟩,Tv⟩
 refine zi (λc2=>?_) (λc2=>?_)
 ·refine Qar ?_
  have e:u.pos=qn w.G t:=by
   simp only[Fau,beq_iff_eq]at c2
   exact Prod.ext c2.1 c2.2.1
  rw[decide_eq_true e]at h
  have h0:=h N hd hK
  rw[hSe]at h0
  exact ret h0
 have e:¬u.pos=qn w.G t:=λe=>by
  simp only[e,Bool.and_eq_false_iff,beq_eq_false_iff_ne]at c2
  rcases c2 with c2|c2|c2
  ·exact c2 rfl
  ·exact c2 rfl
  ·cases c2
 rw[decide_eq_false e]at h
 refine Qat ?_
 refine Qat ?_
 refine Qat ?_
 subst hSe
 refine⟨hG.netX hd hK (Oi u.kind) hk _ (λb N2 hd2 hK2 hb2=>⟨Qe,?_⟩),Tv⟩
 have hmb2:(X.un N2).obj b=some (.cells (qt w.G w.B (qa u.kind) (jz u.kind))):=zd hb2
 have h0:=h N2 hd2 hK2
 generalize X.un N2=S2 at*
 refine Qat ?_
 have htl2:t<(blL w.G.T.length (zv w.G w.B (qa u.kind) (jz u.kind))).length:=by rw[D6];exact htl
 refine⟨t,ht,za _ (zw htl2) ?_⟩
 rw[Hn htl]
 refine yp ?_
 refine zi (λc3=>?_) (λc3=>?_)
 rotate_left
 ·rw[c3]at h0
  exact ret h0
 rw[c3]at h0
 refine Pt w.G hm.hg own ho _ _ ?_
 intro b9 hf9
 have e9:zt (List.replicate 8 (int 0)) 0 (il 8 (z7 w.G own))=il 8 (z7 w.G own):=by
  unfold zt
  rw[qq]
  simp
 refine ku (i:=ti213) (v:=Ka w.G own) (xs:=il 8 (z7 w.G own)) (l:=List.replicate 8 (int 0)) rfl rfl rfl (zc _ _ _) (by rw[qq,Fao];decide) ?_
 rw[e9,yl]
 have h9:(S2.sO b9 (.cells (il 8 (z7 w.G own)))).obj b9=some (.cells (il 8 (z7 w.G own))):=zc _ _ _
 have hback2:(S2.sO b9 (.cells (il 8 (z7 w.G own)))).Has S2:=Ai hf9.1
 generalize S2.sO b9 (.cells (il 8 (z7 w.G own)))=S3 at*
 rw[zwb]at h0
 refine Qc zb zsk ?_
 refine wl (λc4=>?_) (λc4=>?_)
 rotate_left
 ·refine Qar ?_
  refine Qas ?_
  rw[decide_eq_false (λhh=>hh (ht.symm.trans c4))]at h0
  exact Ab (Tt) hback2 h0
 refine⟨ycj h9 (by decide) u.next _ ⟨Qe,?_⟩,Tv⟩
 refine Qas ?_
 rw[decide_eq_true (show(t:Int)≠(own:Int)from λhh=>c4 (ht.trans hh))]at h0
 rw[ht]
 exact Ab (Tt) hback2 h0
theorem zv2{gt:TypeId}{K:Nat->Store->Prop}(hG:GuideK gt gx K M w)(hnM:n<M)(hd:zg X N)(hK:K n N){s:Nat}(hmbX:X.obj mb=some (.cells [ptr s,gvOf gt gx]))(hsX:X.obj s=some (.cells (svC w v o0 o1 o2 p)))(hm:MayF w)(u:Unt)(goal:Nat)(hgo:u.goal=goal)(hgl:goal<w.G.T.length)(own:Nat)(ho:own<w.G.T.length)(R:Ja)
  (h:∀n2 N2,n2<=n+1->zg X N2->K n2 N2->R (int (Ae w u own)) (X.un N2)):Jb 149 [ptr mb,.agg (zl u),int (own:Nat)] (X.un N) R:=by
 obtain⟨S,hSe⟩:∃S,X.un N=S:=⟨_,rfl⟩
 have hmb:S.obj mb=some (.cells [ptr s,gvOf gt gx]):=hSe▸yr hd hmbX
 have hs:S.obj s=some (.cells (svC w v o0 o1 o2 p)):=hSe▸yr hd hsX
 rw[hSe]
 have hB:=hm.hB
 unfold Ae okU at h
 have hk:=nt u.kind
 rw[hgo,Fbb]at h
 refine Qb (c:=cfg 60) zb Tryz.func149 ?_
 refine AWp.seq (AWp.of_vc zb ?_)
 refine AWp.meet (σ:=Unit) ⟨λ_=>[(0,.av (ptr mb)),(2,.av (int (own:Nat))),(4,.bx 4 0),(7,.bx 7 0),(8,.bx 8 0)],λ_=>[(4,zl u),(7,zn w.G),(8,G9 u.kind)],λ_ st'=>st'=S⟩ zb ?_ ?_
 ·refine Qc zb zsj ?_
  refine Qat ?_
  refine Qat ?_
  exact⟨je _ _ _ ⟨Qe,⟨⟨Qe,⟨⟨Qe,⟨⟨Tv,⟨⟨Tv,⟨(),rfl,Qao,⟨rfl,rfl,rfl,Tv⟩⟩⟩,Tv⟩⟩,Tv⟩⟩,Tv⟩⟩,⟨⟨Qe,⟨⟨Qe,⟨⟨Tv,⟨⟨Tv,⟨(),rfl,Qao,⟨rfl,rfl,rfl,Tv⟩⟩⟩,Tv⟩⟩,Tv⟩⟩,Tv⟩⟩,Tv⟩⟩⟩,⟨⟨Qe,⟨je _ _ _ ⟨Qe,⟨⟨Qe,⟨⟨Tv,⟨⟨Tv,⟨(),rfl,Qao,⟨rfl,rfl,rfl,Tv⟩⟩⟩,Tv⟩⟩,Tv⟩⟩,Tv⟩⟩,⟨⟨Qe,⟨je _ _ _ ⟨Qe,⟨⟨Tv,⟨⟨Tv,⟨(),rfl,Qao,⟨rfl,rfl,rfl,Tv⟩⟩⟩,Tv⟩⟩,Tv⟩⟩,Tv⟩⟩,Tv⟩⟩⟩,⟨⟨Qe,⟨je _ _ _ ⟨Qe,⟨⟨Qe,⟨⟨Tv,⟨⟨Tv,⟨(),rfl,Qao,⟨rfl,rfl,rfl,Tv⟩⟩⟩,Tv⟩⟩,Tv⟩⟩,Tv⟩⟩,⟨⟨Qe,⟨je _ _ _ ⟨Qe,⟨⟨Tv,⟨⟨Tv,⟨(),rfl,Qao,⟨rfl,rfl,rfl,Tv⟩⟩⟩,Tv⟩⟩,Tv⟩⟩,Tv⟩⟩,Tv⟩⟩⟩,Tv⟩⟩⟩
 rintro _ st' rfl
 refine AWp.of_vc zb ?_
 refine Qc zb zsi ?_
 refine⟨Ob w.G hm.hg own ho (own:Nat) rfl _ _ ⟨Qe,?_⟩,Tv⟩
 refine yp ?_
 refine zi (λc2=>?_) (λc2=>?_)
 rotate_left
 ·have e:u.pos≠qn w.G own:=λe=>by
   simp only[e,Bool.and_eq_false_iff,beq_eq_false_iff_ne]at c2
   rcases c2 with c2|c2|c2
   ·exact c2 rfl
   ·exact c2 rfl
   ·cases c2
  rw[if_pos e]at h
  have h0:=h n N (Fc6 n) hd hK
  rw[hSe]at h0
  exact ret h0
 have e:¬u.pos≠qn w.G own:=λe=>e (by
  simp only[Fau,beq_iff_eq]at c2
  exact Prod.ext c2.1 c2.2.1)
 rw[if_neg e]at h
 dsimp only at h
 refine Qc zb zsh ?_
 refine Qat ?_
 refine Qat ?_
 refine Qat ?_
 refine⟨?_,Tv⟩
 subst hSe
 show∃g x,Meets _ _ _ _ g x/\ACalls _ g [x,_,_,_,_,int u.goal] _ _
 rw[hgo]
 refine hG.waysX hd hK hnM (Oi u.kind) hk goal hgl _ (λb N2 hd2 hK2 hb2=>⟨Qe,?_⟩)
 have hmb2:(X.un N2).obj b=some (.cells (il w.G.T.length (xa w.G (zv w.G w.B (qa u.kind) (jz u.kind)) (qa u.kind) (j1 w.G (zv w.G w.B (qa u.kind) (jz u.kind)) (qa u.kind) goal)))):=zd hb2
 have h0:=h (n+1) N2 (Fah _) hd2 hK2
 generalize X.un N2=S2 at*
 have hway:=zah w.G (zv w.G w.B (qa u.kind) (jz u.kind)) (qa u.kind) (j1 w.G (zv w.G w.B (qa u.kind) (jz u.kind)) (qa u.kind) goal) own
 have hhd:=wx (f:=xa w.G (zv w.G w.B (qa u.kind) (jz u.kind)) (qa u.kind) (j1 w.G (zv w.G w.B (qa u.kind) (jz u.kind)) (qa u.kind) goal)) ho
 refine⟨own,rfl,ho,?_⟩
 refine Qat ?_
 refine za _ hhd ?_
 generalize xa w.G (zv w.G w.B (qa u.kind) (jz u.kind)) (qa u.kind) (j1 w.G (zv w.G w.B (qa u.kind) (jz u.kind)) (qa u.kind) goal) own=W at*
 refine Qas ?_
 refine bcd (λc3=>?_) (λc3=>?_)
 ·rw[if_pos c3]at h0
  exact ret h0
 rw[if_neg c3]at h0
 obtain⟨j,hj,rfl⟩:∃j:Nat,j<8/\W=(j:Int):=by
  rcases hway with h1|⟨j,h1,h2,_⟩
  ·omega
  ·exact⟨j,h1,h2⟩
 rw[Fbb]at h0
 refine Pt w.G hm.hg own ho _ _ ?_
 refine⟨j,rfl,hj,?_⟩
 refine za _ (Oq hj) ?_
 exact ret h0
end
section
variable {gv v o0 o1 o2:AV} {F G N:Store} {mb s p i M n:Nat} {w:Wld} {gx:Value}
theorem mq{L:List Ent}(hW:MoverG gv F G mb s p w v L o0 o1 o2)(hd:zg (F.un (svS G s w v o0 o1 o2 p)) N)(hm:MayF w)(hn:∀u∈w.U,u.pos.ok)(hi:i<w.U.length)(u:Unt)(hid:w.U[i].id=u.id)(hp:u.pos.ok)(R:Ja)
  (h:∀F' G' L',MoverG gv F' G' mb s p (yc w u) v L' o0 o1 o2->zg (F'.un (svS G' s (yc w u) v o0 o1 o2 p)) N->R (.tup []) ((F'.un (svS G' s (yc w u) v o0 o1 o2 p)).un N)):Jb 150 [ptr s,.agg (zl u)] ((F.un (svS G s w v o0 o1 o2 p)).un N) R:=by
 refine ACalls.frame hd (Vs hW hm hn hi u hid hp (λr S=>∃F' G' L',MoverG gv F' G' mb s p (yc w u) v L' o0 o1 o2/\S=F'.un (svS G' s (yc w u) v o0 o1 o2 p)/\r=.tup []) (λF' G' L' h=>⟨F',G',L',h,rfl,rfl⟩)) ?_
 rintro r a' ⟨F',G',L',h1,rfl,rfl⟩ hd2
 exact h F' G' L' h1 hd2
theorem Wz{L:List Ent}(hW:MoverG gv F G mb s p w v L o0 o1 o2)(hd:zg (F.un (svS G s w v o0 o1 o2 p)) N)(hm:MayF w)(hn:∀u∈w.U,u.pos.ok)(hi:i<w.U.length)(u:Unt)(hid:w.U[i].id=u.id)(hp:u.pos.ok)(z:Int)(R:Ja)
  (h:∀F' G' L',MoverG gv F' G' mb s p (yc w (vx z u)) v L' o0 o1 o2->zg (F'.un (svS G' s (yc w (vx z u)) v o0 o1 o2 p)) N->R (.tup []) ((F'.un (svS G' s (yc w (vx z u)) v o0 o1 o2 p)).un N)):Jb 146 [ptr mb,.agg (zl u),int z] ((F.un (svS G s w v o0 o1 o2 p)).un N) R:=by
 refine ACalls.frame hd (ybe hW hm hn hi u hid hp z (λr S=>∃F' G' L',MoverG gv F' G' mb s p (yc w (vx z u)) v L' o0 o1 o2/\S=F'.un (svS G' s (yc w (vx z u)) v o0 o1 o2 p)/\r=.tup []) (λF' G' L' h=>⟨F',G',L',h,rfl,rfl⟩)) ?_
 rintro r a' ⟨F',G',L',h1,rfl,rfl⟩ hd2
 exact h F' G' L' h1 hd2
theorem zbi{L:List Ent}(hW:MoverG gv F G mb s p w v L o0 o1 o2)(hd:zg (F.un (svS G s w v o0 o1 o2 p)) N)(hm:MayF w)(hn:∀u∈w.U,u.pos.ok)(hi:i<w.U.length)(d:Vc)(hdv:d.ok)(R:Ja)
  (h:∀F' G' L' q0 q1 q2,MoverG gv F' G' mb s p (j4 w w.U[i] d) v L' q0 q1 q2->zg (F'.un (svS G' s (j4 w w.U[i] d) v q0 q1 q2 p)) N->R (int (Gh w w.U[i] d)) ((F'.un (svS G' s (j4 w w.U[i] d) v q0 q1 q2 p)).un N)):Jb 143 [ptr mb,.agg (zl w.U[i]),.agg (z6 d)] ((F.un (svS G s w v o0 o1 o2 p)).un N) R:=by
 refine ACalls.frame hd (ef hW hm hn hi d hdv (λr S=>∃F' G' L' q0 q1 q2,MoverG gv F' G' mb s p (j4 w w.U[i] d) v L' q0 q1 q2/\S=F'.un (svS G' s (j4 w w.U[i] d) v q0 q1 q2 p)/\r=int (Gh w w.U[i] d)) (λF' G' L' q0 q1 q2 h=>⟨F',G',L',q0,q1,q2,h,rfl,rfl⟩)) ?_
 rintro r a' ⟨F',G',L',q0,q1,q2,h1,rfl,rfl⟩ hd2
 exact h F' G' L' q0 q1 q2 h1 hd2
theorem zyw{L:List Ent}(hW:MoverG gv F G mb s p w v L o0 o1 o2)(hd:zg (F.un (svS G s w v o0 o1 o2 p)) N)(hm:MayF w)(hn:∀u∈w.U,u.pos.ok)(hmap:∀u∈w.U,u.inn=0->qp u.pos)(hi:i<w.U.length)(h0:w.U[i].inn=0)(R:Ja)
  (h:∀F' G' L' q0 q1 q2,MoverG gv F' G' mb s p (C9 w w.U[i]) v L' q0 q1 q2->zg (F'.un (svS G' s (C9 w w.U[i]) v q0 q1 q2 p)) N->R (.tup []) ((F'.un (svS G' s (C9 w w.U[i]) v q0 q1 q2 p)).un N)):Jb 76 [ptr mb,.agg (zl w.U[i])] ((F.un (svS G s w v o0 o1 o2 p)).un N) R:=by
 refine ACalls.frame hd (zyu hW hm hn hmap hi h0 (λr S=>∃F' G' L' q0 q1 q2,MoverG gv F' G' mb s p (C9 w w.U[i]) v L' q0 q1 q2/\S=F'.un (svS G' s (C9 w w.U[i]) v q0 q1 q2 p)/\r=.tup []) (λF' G' L' q0 q1 q2 h=>⟨F',G',L',q0,q1,q2,h,rfl,rfl⟩)) ?_
 rintro r a' ⟨F',G',L',q0,q1,q2,h1,rfl,rfl⟩ hd2
 exact h F' G' L' q0 q1 q2 h1 hd2
theorem zzt{gt:TypeId}{K:Nat->Store->Prop}(hG:GuideK gt gx K M w)(hnM:n<M){L:List Ent}(hW:MoverG (gvOf gt gx) F G mb s p w v L o0 o1 o2)(hd:zg (F.un (svS G s w v o0 o1 o2 p)) N)(hK:K n N)(hmay:zx w)(hn:∀u∈w.U,u.pos.ok)(hi:i<w.U.length)(h0:w.U[i].inn=0)(hgo:w.U[i].goal≠-1)(R:Ja)
  (h:∀F' G' L' q0 q1 q2 n2 N2,n2<=n+1->MoverG (gvOf gt gx) F' G' mb s p (Bk w w.U[i]) v L' q0 q1 q2->zg (F'.un (svS G' s (Bk w w.U[i]) v q0 q1 q2 p)) N2->K n2 N2->R (.tup []) ((F'.un (svS G' s (Bk w w.U[i]) v q0 q1 q2 p)).un N2)):
  Jb 77 [ptr mb,.agg (zl w.U[i])] ((F.un (svS G s w v o0 o1 o2 p)).un N) R:=by
 have hm:=Ds hmay
 have hut:=Ru hmay hi
 have hon:=ly hmay hi h0
 have hown:=Vd hmay hi h0
 have hmp:=Lf hmay (Faa hi) h0
 obtain⟨goal,hgq,hgl⟩:∃k:Nat,w.U[i].goal=k/\k<w.G.T.length:=by
  rcases R6 hm.hg hut.2.1.1 with h1|h1
  ·exact absurd h1 hgo
  ·exact h1
 have hnx:=R6 hm.hg hut.2.1.2.1
 have hstk:=hut.2.1.2.2
 have hnt:=Vn (w:=w) hm.hg (u:=w.U[i]) hown
 have hgoes:Bk w w.U[i]=if w.U[i].pos=qn w.G goal then yc w (vx 2 w.U[i])else if G7 w w.U[i] (kr w.G w.U[i].pos)then(if Ae w w.U[i] (kr w.G w.U[i].pos)<0 then yc w (vx 3 w.U[i])else Az w {w.U[i]with next:=Ae w w.U[i] (kr w.G w.U[i].pos)})else Az w w.U[i]:=by
  have e:w.U[i].goal.toNat=goal:=by rw[hgq,Fbb]
  unfold Bk
  rw[e]
 have hlook1:G7 w w.U[i] (kr w.G w.U[i].pos)=false->w.U[i].next≠-1:=λhh e=>by
  unfold G7 at hh
  rw[decide_eq_true e]at hh
  simp at hh
 obtain⟨own,hownE⟩:∃own,kr w.G w.U[i].pos=own:=⟨_,rfl⟩
 rw[hownE]at hown hnt hgoes hlook1
 refine Qb (c:=cfg 84) zb Tryz.func77 ?_
 refine AWp.seq (AWp.of_vc zb ?_)
 refine AWp.seq (AWp.of_vc zb ?_)
 refine za (o:=((F.un (svS G s w v o0 o1 o2 p)).un N).obj mb) _ (yr hd hW.m) ?_
 refine za (o:=((F.un (svS G s w v o0 o1 o2 p)).un N).obj s) _ (yr hd hW.s) ?_
 refine AWp.seq (AWp.of_vc zb ?_)
 refine Qc zb zqj ?_
 refine⟨Ob w.G hm.hg goal hgl w.U[i].goal hgq _ _ ⟨Qe,?_⟩,Tv⟩
 refine zi (λc1=>?_) (λc1=>?_)
 ·have e:w.U[i].pos=qn w.G goal:=by
   simp only[Fau,beq_iff_eq]at c1
   exact Prod.ext c1.1 c1.2.1
  rw[if_pos e]at hgoes
  rw[hgoes]at h
  refine Wz hW hd hm hn hi w.U[i] rfl (Ca hmp) 2 _ (λF3 G3 L3 hW3 hd3=>?_)
  exact ret (h F3 G3 L3 o0 o1 o2 n N (Fc6 n) hW3 hd3 hK)
 have e:¬w.U[i].pos=qn w.G goal:=λe=>by
  simp only[e,Bool.and_eq_false_iff,beq_eq_false_iff_ne]at c1
  rcases c1 with c1|c1|c1
  ·exact c1 rfl
  ·exact c1 rfl
  ·cases c1
 rw[if_neg e]at hgoes
 refine AWp.meet (σ:=Nat×Nat×Store) ⟨λq=>[(0,.av (ptr mb)),(3,.bx 3 0),(4,.bx 4 0)],λq=>[(3,zl {w.U[i]with next:=(q.1:Int)}),(4,zn w.G)],λq st'=>st'=(F.un (svS G s w v o0 o1 o2 p)).un q.2.2/\q.1<w.G.T.length/\Bk w w.U[i]=Az w {w.U[i]with next:=(q.1:Int)}/\q.2.1<=n+1/\zg (F.un (svS G s w v o0 o1 o2 p)) q.2.2/\K q.2.1 q.2.2⟩ zb ?_ ?_
 ·refine za4 w.G hm.hg w.U[i].pos hon _ _ ?_
  rw[hownE]
  refine zxk hG hd hK hW.m hW.s hm w.U[i] hnx own hown _ (λN2 hd2 hK2=>?_)
  refine zi (λc2=>?_) (λc2=>?_)
  rotate_left
  ·rw[if_neg (by rw[c2];decide)]at hgoes
   obtain⟨t,ht,htl⟩:∃k:Nat,w.U[i].next=k/\k<w.G.T.length:=by
    rcases hnx with h1|h1
    ·exact absurd h1 (hlook1 c2)
    ·exact h1
   have e2:{w.U[i]with next:=(t:Int)}=w.U[i]:=by rw[<-ht]
   refine⟨(t,n,N2),⟨rfl,htl,by dsimp only;rw[e2];exact hgoes,Fc6 n,hd2,hK2⟩,Qao,⟨?_,rfl,Tv⟩⟩
   dsimp only
   rw[e2]
   rfl
  rw[if_pos c2]at hgoes
  refine zv2 hG hnM hd2 hK2 hW.m hW.s hm w.U[i] goal hgq hgl own hown _ (λn3 N3 hn3 hd3 hK3=>?_)
  generalize Ae w w.U[i] own=nx at*
  refine bcd (λc3=>?_) (λc3=>?_)
  ·rw[if_pos c3]at hgoes
   rw[hgoes]at h
   refine Wz hW hd3 hm hn hi {w.U[i]with next:=nx} rfl (Ca hmp) 3 _ (λF3 G3 L3 hW3 hd4=>?_)
   exact ret (h F3 G3 L3 o0 o1 o2 n3 N3 hn3 hW3 hd4 hK3)
  rw[if_neg c3]at hgoes
  obtain⟨t,rfl,htl⟩:∃k:Nat,nx=k/\k<w.G.T.length:=by
   rcases R6 hm.hg hnt with h1|h1
   ·omega
   ·exact h1
  exact⟨(t,n3,N3),⟨rfl,htl,hgoes,hn3,hd3,hK3⟩,Qao,⟨rfl,rfl,Tv⟩⟩
 clear hd hK
 rintro⟨t,n2,N2⟩ st' ⟨rfl,htl,hgoes,hn2,hd,hK⟩
 dsimp only at htl hgoes hn2 hd hK⊢
 rw[hgoes]at h
 have hid:({w.U[i]with next:=(t:Int),stuck:=0}:Unt).id=w.U[i].id:=rfl
 have hmay1:zx (yc w {w.U[i]with next:=(t:Int),stuck:=0}):=Od hmay hi h0 rfl (Mq hut hgo (R5 hm.hg htl) (by omega))
 obtain⟨hi1,he1⟩:=Np hm.hr hi hid
 have hn1:∀x∈(yc w {w.U[i]with next:=(t:Int),stuck:=0}).U,x.pos.ok:=λx hx=>by
  obtain⟨j,hj,rfl⟩:=Faj hx
  rw[Nn]at hj
  by_cases hji:j=i
  ·subst hji
   rw[he1]
   exact Ca hmp
  ·rw[i8 hm.hr hi hid hj hji]
   exact hn _ (Faa hj)
 have hks:=M5 w.U[i].kind
 have hcm:=sg hm.hg htl
 have hway:=Mo hmp hcm
 unfold Az at h
 dsimp only at h
 rw[Fbb]at h
 have hpp:∀x:Unt,x.id=w.U[i].id->yc (yc w {w.U[i]with next:=(t:Int),stuck:=0}) x=yc w x:=λx hx=>i7 w hx.symm
 refine AWp.of_vc zb ?_
 refine Qc zb zqm ?_
 refine za (o:=((F.un (svS G s w v o0 o1 o2 p)).un N2).obj mb) _ (yr hd hW.m) ?_
 refine⟨mq hW hd hm hn hi {w.U[i]with next:=(t:Int),stuck:=0} rfl (Ca hmp) _ (λF1 G1 L1 hW1 hd1=>⟨Tv,?_⟩),Tv⟩
 generalize hw1:yc w {w.U[i]with next:=(t:Int),stuck:=0}=w1 at*
 have hm1:=Ds hmay1
 have hG1:w1.G=w.G:=by rw[<-hw1];rfl
 have htry:=zbi hW1 hd1 hm1 hn1 hi1
 rw[he1]at htry
 refine Qc zb zql ?_
 refine⟨Ob w.G hm.hg t htl (t:Nat) rfl _ _ ⟨Qe,?_⟩,Tv⟩
 refine⟨je _ _ _ ⟨Qe,?_⟩,Tv⟩
 refine⟨zbk w.U[i].pos (qn w.G t) (jy w.U[i].kind) hmp hcm (by omega) _ _ ⟨Qe,?_⟩,Tv⟩
 refine⟨htry (Hw w.U[i].pos (qn w.G t) (jy w.U[i].kind)) (dg hway) _ (λF2 G2 L2 a0 a1 a2 hW2 hd2=>⟨Qe,?_⟩),Tv⟩
 refine bcd (λc4=>?_) (λc4=>?_)
 ·rw[if_pos c4]at h
  exact ret (h F2 G2 L2 a0 a1 a2 n2 N2 hn2 hW2 hd2 hK)
 rw[if_neg c4]at h
 rw[zbe c4]at hW2 hd2⊢
 refine ze (v:=w.U[i].stuck+1) (by omega) ?_
 refine qf (λc5=>?_) (λc5=>?_)
 ·rw[if_pos c5]at h
  refine Wz hW2 hd2 hm1 hn1 hi1 {w.U[i]with next:=-1,stuck:=w.U[i].stuck+1} (by rw[he1]) (Ca hmp) 4 _ (λF3 G3 L3 hW3 hd3=>?_)
  have e3:=hpp (vx 4 {w.U[i]with next:=-1,stuck:=w.U[i].stuck+1}) rfl
  rw[e3]at hW3 hd3⊢
  exact ret (h F3 G3 L3 a0 a1 a2 n2 N2 hn2 hW3 hd3 hK)
 rw[if_neg c5]at h
 refine Qc zb zqk ?_
 refine za (o:=((F2.un (svS G2 s w1 v a0 a1 a2 p)).un N2).obj mb) _ (yr hd2 hW2.m) ?_
 refine⟨mq hW2 hd2 hm1 hn1 hi1 {w.U[i]with next:=-1,stuck:=w.U[i].stuck+1} (by rw[he1]) (Ca hmp) _ (λF3 G3 L3 hW3 hd3=>⟨Tv,?_⟩),Tv⟩
 have e3:=hpp {w.U[i]with next:=-1,stuck:=w.U[i].stuck+1} rfl
 rw[e3]at hW3 hd3⊢
 exact ret (h F3 G3 L3 a0 a1 a2 n2 N2 hn2 hW3 hd3 hK)
theorem za3{gt:TypeId}{K:Nat->Store->Prop}(hG:GuideK gt gx K M w)(hnM:n<M){L:List Ent}(hW:MoverG (gvOf gt gx) F G mb s p w v L o0 o1 o2)(hd:zg (F.un (svS G s w v o0 o1 o2 p)) N)(hK:K n N)(hmay:zx w)(hn:∀u∈w.U,u.pos.ok)(hi:i<w.U.length)(h0:w.U[i].inn=0)(R:Ja)
  (h:∀F' G' L' q0 q1 q2 n2 N2,n2<=n+1->MoverG (gvOf gt gx) F' G' mb s p (vn w w.U[i]) v L' q0 q1 q2->zg (F'.un (svS G' s (vn w w.U[i]) v q0 q1 q2 p)) N2->K n2 N2->R (.tup []) ((F'.un (svS G' s (vn w w.U[i]) v q0 q1 q2 p)).un N2)):
  Jb 41 [ptr mb,.agg (zl w.U[i])] ((F.un (svS G s w v o0 o1 o2 p)).un N) R:=by
 unfold vn at h
 refine Qa (c:=cfg 13) zb Tryz.func41 ?_
 refine qf (λc1=>?_) (λc1=>?_)
 ·rw[if_pos c1]at h
  exact zyw hW hd (Ds hmay) hn (λu hu h1=>Lf hmay hu h1) hi h0 _ (λF3 G3 L3 a0 a1 a2 hW3 hd3=>ret (h F3 G3 L3 a0 a1 a2 n N (Fc6 n) hW3 hd3 hK))
 ·rw[if_neg c1]at h
  exact zzt hG hnM hW hd hK hmay hn hi h0 c1 _ (λF3 G3 L3 a0 a1 a2 n2 N2 hn2 hW3 hd3 hK3=>ret (h F3 G3 L3 a0 a1 a2 n2 N2 hn2 hW3 hd3 hK3))
end
end Go.Proofs
