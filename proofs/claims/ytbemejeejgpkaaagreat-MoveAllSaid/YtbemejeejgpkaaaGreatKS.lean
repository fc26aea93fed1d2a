/- The ground on which laws of thronglaw24 are proved: contracts of functions and plain lemmas; no condition beyond the row's own. -/
import Derived.KernelRfl
import Derived.Test.YtbemejeejgpkaaaGreatKE
import Derived.Test.YtbemejeejgpkaaaGreatKO
import Derived.Test.YtbemejeejgpkaaaGreatKI
import Derived.Test.YtbemejeejgpkaaaGreatKR
import Derived.Test.YtbemejeejgpkaaaGreatKQ
import Derived.Test.YtbemejeejgpkaaaGreatKP
import Derived.Test.YtbemejeejgpkaaaGreatKF
set_option linter.unusedSimpArgs false
set_option linter.unusedVariables false
namespace Go.Proofs
open Go Go.V
set_option maxRecDepth 4000
set_option maxRecDepth 20000 in
theorem zz5(g:Gnd)(x y:Int)(st:Store)(R:AV->Store->Prop)(h:∀z:Bool,(z=true↔onG g x y)->R (bool z) st):ACalls Tryz.prog 218 [.agg (gndC g),int x,int y] st R:=by
 refine Qa (c:=cfg 25) zc Tryz.func218 ?_
 repeat' (first|refine bcd (fun _=>?_) (fun _=>?_)|refine ze (fun _=>?_) (fun _=>?_)|refine Qd ?_|fail)
 all_goals
  refine ret (h _ ?_)
  unfold onG
  simp only[decide_eq_true_eq,decide_eq_false_iff_not,Bool.false_eq_true,false_iff,true_iff,beq_iff_eq,bne_iff_ne,beq_eq_false_iff_ne,ne_eq,reduceCtorEq]at*
  omega
theorem min2_eq(a b:Int):min2 a b=min a b:=by
 unfold min2
 by_cases h:b<a
 ·rw[decide_eq_true h];show b=_;omega
 ·rw[decide_eq_false h];show a=_;omega
theorem zol(g:Gnd)(hg:gndP g)(f:Nat->Int)(hf:∀t,t<g.T.length->0<=f t/\f t<=128)(t:Nat)(ht:t<g.T.length)(ws:List (Int×Int))(hw:∀d∈ws,(d.1≠0\/d.2≠0)/\(-1<=d.1/\d.1<=1)/\(-1<=d.2/\d.2<=1))(hwl:ws.length<=100)(b:Nat)(st:Store)(R:AV->Store->Prop)
  (h:R (.tup []) (st.setObj b (.cells (il g.T.length (zkf g f ws t))))):ACalls Tryz.prog 307 [.agg (gndC g),blV b g.T.length,int t,lst 2 wayC ws] (st.setObj b (.cells (il g.T.length f))) R:=by
 have hm:=zr hg
 have htb:=zcf hg (t:=t) (by omega)
 have hq:=trem (t:=t) hg.1.1
 have hq2:=tquo (t:=t) hg.1.1
 have hg1:=hg.1
 have hg2:=hg.2.1
 unfold zkf at h
 have hx:∃x,x=(t:Int)%g.W:=⟨_,rfl⟩
 have hy:∃y,y=(t:Int)/g.W:=⟨_,rfl⟩
 obtain⟨x,hx⟩:=hx
 obtain⟨y,hy⟩:=hy
 rw[<-hx,<-hy]at h htb
 rw[<-hx]at hq
 rw[<-hy]at hq2
 refine Qa (c:=cfg 63) zc Tryz.func307 ?_
 refine Qc zc ykk ?_
 refine⟨by omega,?_⟩
 refine⟨by omega,?_⟩
 refine Qd ?_
 refine⟨⟨Qe,?_⟩,Tv⟩
 refine⟨⟨Tv,?_⟩,Tv⟩
 refine AWp.loop (σ:=Nat) ⟨fun i=>[(1,.av (blV b g.T.length)),(2,.av (int (t:Nat))),(4,.bx 4 0),(8,.av (int x)),(9,.av (int y)),(21,.av (lst 2 wayC ws)),(22,.av (int (ws.length:Nat))),(23,.av (int (i:Nat)))],fun _=>[(4,gndC g)],
  fun i st'=>i<=ws.length/\st'=st.setObj b (.cells (il g.T.length (setI f t (zb9 g f x y (f t) (ws.take i))))),fun i=>ws.length-i⟩ zc ?_ ?_
 ·refine⟨0,Tv,⟨Nat.zero_le _,?_⟩,⟨Tq,Tq,Tq,?_,?_,Tq,?_,Tq,Tv⟩,⟨rfl,Tv⟩⟩
  ·rw[List.take_zero]
   show _=st.setObj b (.cells (il g.T.length (setI f t (f t))))
   rw[yrc]
  ·rw[<-hq];exact Tq
  ·rw[<-hq2];exact Tq
  ·rw[<-zk (f:=wayC) ws];exact Tq
 rintro i st' ⟨hi,rfl⟩
 refine bcd (fun h1=>?_) (fun h1=>?_)
 rotate_left
 ·have:i=ws.length:=by omega
  subst this
  rw[List.take_length]
  exact ret h
 have hlt:i<ws.length:=by omega
 have hd:=hw _ (List.getElem_mem hlt)
 have hv:=zrd hg hf x y (ws.take i) (f t) (hf t ht)
 have hsn:=zv3 g f x y (f t) ws hlt
 have hgs:=yso hg f (t:=t) (zb9 g f x y (f t) (ws.take i)) hd.1
 rw[<-hx,<-hy]at hgs
 generalize hV:zb9 g f x y (f t) (ws.take i)=V0 at*
 have ho:(st.setObj b (.cells (il g.T.length (setI f t V0)))).obj b=some (.cells (il g.T.length (setI f t V0))):=zb _ _ _
 refine⟨i,rfl,za _ (zj hlt) ?_⟩
 refine⟨0,rfl,by decide,?_⟩
 refine Qd ?_
 refine⟨1,rfl,by decide,?_⟩
 refine Qd ?_
 refine zz5 g (x+ws[i].1) (y+ws[i].2) _ _ (fun z hz=>?_)
 have hgv:=gv_b hg hf (x+ws[i].1) (y+ws[i].2)
 have fin:min V0 (gv g f (x+ws[i].1) (y+ws[i].2)+1)=zb9 g f x y (f t) (ws.take (i+1)):=hsn.symm
 refine ze (fun c1=>?_) (fun c1=>?_)
 ·have hon:=hz.1 c1
  obtain⟨e1,e2,e3,e4⟩:=jr hg hon
  have hpos:0<=g.W*(y+ws[i].2):=Int.mul_nonneg (by omega) (by have:=hon.2.1;omega)
  have hval:setI f t V0 (tl g (x+ws[i].1) (y+ws[i].2))=gv g f (x+ws[i].1) (y+ws[i].2):=by
   rw[<-hgs];unfold gv;rw[if_pos hon]
  refine⟨0,rfl,by decide,?_⟩
  refine Qd ?_
  refine⟨1,rfl,by decide,?_⟩
  refine Qd ?_
  refine Qd ?_
  refine Qd ?_
  refine⟨tl g (x+ws[i].1) (y+ws[i].2),e1.symm,e2,?_⟩
  refine za _ ho (za _ (qc e2) ?_)
  rw[hval]
  refine⟨t,rfl,ht,?_⟩
  refine za _ ho (za _ (qc ht) ?_)
  rw[zbb]
  refine Qd ?_
  refine⟨t,rfl,ht,?_⟩
  refine zh (i:=ti2) (v:=int (min2 V0 (gv g f (x+ws[i].1) (y+ws[i].2)+1))) (b:=b) (o:=0+t*1) (l:=il g.T.length (setI f t V0)) (st2:=st.setObj b (.cells (il g.T.length (setI f t (zb9 g f x y (f t) (ws.take (i+1))))))) rfl rfl rfl ho (by rw[yz];omega) ?_ ?_
  ·rw[zg,show 0+t*1=t by omega,zex ht,zh3,min2_eq,fin]
  refine Qd ?_
  refine⟨i+1,?_,⟨by omega,rfl⟩,⟨Tq,Tq,Tq,Tq,Tq,Tq,Tq,Tq,Tv⟩,⟨rfl,Tv⟩⟩
  show ws.length-(i+1)<ws.length-i
  omega
 ·have hoff:¬onG g (x+ws[i].1) (y+ws[i].2):=fun hh=>by have:=hz.2 hh;rw[this]at c1;cases c1
  have hz0:gv g f (x+ws[i].1) (y+ws[i].2)=0:=if_neg hoff
  rw[hz0]at fin
  refine⟨t,rfl,ht,?_⟩
  refine za _ ho (za _ (qc ht) ?_)
  rw[zbb]
  refine Qd ?_
  refine⟨t,rfl,ht,?_⟩
  refine zh (i:=ti2) (v:=int (min2 V0 (0+1))) (b:=b) (o:=0+t*1) (l:=il g.T.length (setI f t V0)) (st2:=st.setObj b (.cells (il g.T.length (setI f t (zb9 g f x y (f t) (ws.take (i+1))))))) rfl rfl rfl ho (by rw[yz];omega) ?_ ?_
  ·rw[zg,show 0+t*1=t by omega,zex ht,zh3,min2_eq,fin]
  refine Qd ?_
  refine⟨i+1,?_,⟨by omega,rfl⟩,⟨Tq,Tq,Tq,Tq,Tq,Tq,Tq,Tq,Tv⟩,⟨rfl,Tv⟩⟩
  show ws.length-(i+1)<ws.length-i
  omega
def zdz(o:Nat->Bool)(t:Nat):Int:=if o t then 128 else 0
def zb2(o:Nat->Bool)(i t:Nat):Int:=if t<i then zdz o t else 0
theorem zz4(o:Nat->Bool)(n:Nat):∀t,t<n->0<=zdz o t/\zdz o t<=128:=fun t _=>by unfold zdz;split<;>decide
def ytp(g:Gnd)(l:List Bld)(c:Int):AV:=lst 1 intC (ilL g.T.length (zh9 g (yl g l c)))
theorem zza(g:Gnd)(hg:gndP g)(l:List Bld)(hl:l.length<=1000000000000)(hb:∀b∈l,bldP b/\onP g b)(c:Int)(st:Store)(R:AV->Store->Prop)(h:R (ytp g l c) st):
  ACalls Tryz.prog 294 [.agg (gndC g),lst 6 bldC l,int c] st R:=by
 have ha:=zr hg
 have fwd_ok:∀d∈fwdW,(d.1≠0\/d.2≠0)/\(-1<=d.1/\d.1<=1)/\(-1<=d.2/\d.2<=1):=by decide
 have bwd_ok:∀d∈bwdW,(d.1≠0\/d.2≠0)/\(-1<=d.1/\d.1<=1)/\(-1<=d.2/\d.2<=1):=by decide
 refine Qb (c:=cfg 63) zc Tryz.func294 ?_
 refine AWp.seq (AWp.of_vc zc ?_)
 refine AWp.seq (AWp.of_vc zc ?_)
 refine qr rfl (it:=ti29) (ie:=ti2) rfl rfl rfl rfl rfl (n:=(rws u8C g.T).length) ?_ ?_ (fun b hf=>?_)
 ·rw[zk];show 8*_<=_;omega
 ·rw[zk];omega
 rw[zk,ziu]
 refine AWp.meetA (σ:=Unit) ⟨fun _=>[(3,.bx 3 0),(7,.av (blV b g.T.length))],fun _=>[(3,gndC g)],fun _ st'=>st'=st.setObj b (.cells (il g.T.length (zdz (yl g l c))))⟩ ?_ ?_
 ·refine AWp.of_vc zc ?_
  refine jx g hg l hl hb c _ _ ?_
  refine AWp.loop (σ:=Nat) ⟨fun i=>[(3,.bx 3 0),(7,.av (blV b g.T.length)),(19,.av (opV g l c)),(20,.av (int (g.T.length:Nat))),(21,.av (int (i:Nat)))],fun _=>[(3,gndC g)],
   fun i st'=>i<=g.T.length/\st'=st.setObj b (.cells (il g.T.length (zb2 (yl g l c) i))),fun i=>g.T.length-i⟩ zc ?_ ?_
  ·refine⟨0,Tv,⟨Nat.zero_le _,?_⟩,⟨Tq,Tq,Tq,?_,Tq,Tv⟩,⟨rfl,Tv⟩⟩
   ·rw[show zb2 (yl g l c) 0=fun _=>0 from funext fun t=>if_neg (Nat.not_lt_zero t)]
   ·show LV.le (.av (int ((rws zak (blL g.T.length (yl g l c))).length:Nat))) (.av (int (g.T.length:Nat)))
    rw[zk,yu];exact Tq
  rintro i st' ⟨hi,rfl⟩
  refine bcd (fun h1=>?_) (fun h1=>?_)
  rotate_left
  ·have:i=g.T.length:=by omega
   subst this
   refine⟨(),?_,⟨Tq,Tq,Tv⟩,⟨rfl,Tv⟩⟩
   show st.setObj b (.cells (il g.T.length (zb2 (yl g l c) g.T.length)))=st.setObj b (.cells (il g.T.length (zdz (yl g l c))))
   rw[wi (f:=zb2 (yl g l c) g.T.length) (g:=zdz (yl g l c)) fun t ht=>if_pos ht]
  have hlt:i<g.T.length:=by omega
  have ho:(st.setObj b (.cells (il g.T.length (zb2 (yl g l c) i)))).obj b=some (.cells (il g.T.length (zb2 (yl g l c) i))):=zb _ _ _
  have hlt2:i<(blL g.T.length (yl g l c)).length:=by rw[yu];exact hlt
  have s2:∀s,s≠i->zb2 (yl g l c) (i+1) s=zb2 (yl g l c) i s:=fun s hs=>by
   unfold zb2
   by_cases h3:s<i
   ·rw[if_pos h3,if_pos (by omega)]
   ·rw[if_neg h3,if_neg (by omega)]
  have s1:zb2 (yl g l c) (i+1) i=zdz (yl g l c) i:=if_pos (by omega)
  refine⟨i,rfl,za _ (zj hlt2) ?_⟩
  refine ze (fun c1=>?_) (fun c1=>?_)
  ·rw[jy hlt]at c1
   refine⟨i,rfl,hlt,?_⟩
   refine zh (i:=ti2) (v:=int 128) (b:=b) (o:=0+i*1) (l:=_) (st2:=st.setObj b (.cells (il g.T.length (zb2 (yl g l c) (i+1))))) rfl rfl rfl ho (by rw[yz];omega) ?_ ?_
   ·rw[zg,show 0+i*1=i by omega,<-ya2 hlt _ s2,s1]
    unfold zdz
    rw[if_pos c1]
   refine Qd ?_
   refine⟨i+1,?_,⟨by omega,rfl⟩,⟨Tq,Tq,Tq,Tq,Tq,Tv⟩,⟨rfl,Tv⟩⟩
   show g.T.length-(i+1)<g.T.length-i
   omega
  ·rw[jy hlt]at c1
   refine Qd ?_
   refine⟨i+1,?_,⟨by omega,?_⟩,⟨Tq,Tq,Tq,Tq,Tq,Tv⟩,⟨rfl,Tv⟩⟩
   ·show g.T.length-(i+1)<g.T.length-i
    omega
   ·refine congrArg (fun f=>st.setObj b (.cells (il g.T.length f))) (funext fun s=>?_)
    by_cases h3:s=i
    ·subst h3
     rw[s1]
     unfold zdz zb2
     rw[if_neg (by omega),if_neg (by rw[c1];decide)]
    ·exact(s2 s h3).symm
 rintro _ _ rfl
 refine AWp.meetA (σ:=Unit) ⟨fun _=>[(3,.bx 3 0),(7,.av (blV b g.T.length))],fun _=>[(3,gndC g)],fun _ st'=>st'=st.setObj b (.cells (il g.T.length (ku g (zdz (yl g l c)) g.T.length)))⟩ ?_ ?_
 ·refine AWp.of_vc zc ?_
  refine AWp.loop (σ:=Nat) ⟨fun i=>[(3,.bx 3 0),(7,.av (blV b g.T.length)),(32,.av (int (g.T.length:Nat))),(33,.av (int (i:Nat)))],fun _=>[(3,gndC g)],
   fun i st'=>i<=g.T.length/\st'=st.setObj b (.cells (il g.T.length (ku g (zdz (yl g l c)) i))),fun i=>g.T.length-i⟩ zc ?_ ?_
  ·exact⟨0,Tv,⟨Nat.zero_le _,rfl⟩,⟨Tq,Tq,Tq,Tq,Tv⟩,⟨rfl,Tv⟩⟩
  rintro i st' ⟨hi,rfl⟩
  refine bcd (fun h1=>?_) (fun h1=>?_)
  rotate_left
  ·have:i=g.T.length:=by omega
   subst this
   exact⟨(),rfl,⟨Tq,Tq,Tv⟩,⟨rfl,Tv⟩⟩
  have hlt:i<g.T.length:=by omega
  refine⟨by decide,?_⟩
  refine zol g hg (ku g (zdz (yl g l c)) i) (zlw hg (zz4 _ _) i hi) i hlt fwdW fwd_ok (by decide) b _ _ ?_
  refine Qd ?_
  refine⟨i+1,?_,⟨by omega,rfl⟩,⟨Tq,Tq,Tq,Tq,Tv⟩,⟨rfl,Tv⟩⟩
  show g.T.length-(i+1)<g.T.length-i
  omega
 rintro _ _ rfl
 have hbA:=zlw hg (zz4 (yl g l c) g.T.length) g.T.length (Nat.le_refl _)
 have hroom:zh9 g (yl g l c)=zaq g (ku g (zdz (yl g l c)) g.T.length) g.T.length g.T.length:=rfl
 generalize ku g (zdz (yl g l c)) g.T.length=FA at*
 refine AWp.meetA (σ:=Unit) ⟨fun _=>[(7,.av (blV b g.T.length))],fun _=>[],fun _ st'=>st'=st.setObj b (.cells (il g.T.length (zh9 g (yl g l c))))⟩ ?_ ?_
 ·refine AWp.of_vc zc ?_
  refine Qd ?_
  refine AWp.loop (σ:=Nat) ⟨fun j=>[(3,.bx 3 0),(7,.av (blV b g.T.length)),(11,.av (int ((g.T.length:Int)-1-(j:Nat))))],fun _=>[(3,gndC g)],
   fun j st'=>j<=g.T.length/\st'=st.setObj b (.cells (il g.T.length (zaq g FA g.T.length j))),fun j=>g.T.length-j⟩ zc ?_ ?_
  ·refine⟨0,Tv,⟨Nat.zero_le _,rfl⟩,⟨Tq,Tq,?_,Tv⟩,⟨rfl,Tv⟩⟩
   rw[show(g.T.length:Int)-1-((0:Nat):Int)=(g.T.length:Int)-1 by omega];exact Tq
  rintro j st' ⟨hj,rfl⟩
  refine bcd (fun h1=>?_) (fun h1=>?_)
  rotate_left
  ·have:j=g.T.length:=by omega
   subst this
   exact⟨(),by rw[hroom],⟨Tq,Tv⟩,Tv⟩
  have hlt:j<g.T.length:=by omega
  refine⟨by decide,?_⟩
  refine ACalls.le (ys:=[.agg (gndC g),blV b g.T.length,int ((g.T.length-1-j:Nat):Int),lst 2 wayC bwdW]) ⟨Tt,Tt,by rw[show(g.T.length:Int)-1-(j:Int)=((g.T.length-1-j:Nat):Int) by omega];exact Tt,Tt,Tv⟩ ?_
  refine zol g hg (zaq g FA g.T.length j) (zs9 hg hbA j hj) (g.T.length-1-j) (by omega) bwdW bwd_ok (by decide) b _ _ ?_
  refine Qd ?_
  refine⟨j+1,?_,⟨by omega,rfl⟩,⟨Tq,Tq,?_,Tv⟩,⟨rfl,Tv⟩⟩
  ·show g.T.length-(j+1)<g.T.length-j
   omega
  ·rw[show(g.T.length:Int)-1-((j+1:Nat):Int)=(g.T.length:Int)-1-(j:Nat)-1 by omega];exact Tq
 rintro _ _ rfl
 refine AWp.freeze (d:=7) (b:=b) (k:=1) (n:=g.T.length) (cap:=g.T.length) (rows:=rws intC (ilL g.T.length (zh9 g (yl g l c)))) (pad:=[]) rfl ?_ ?_ ?_ (Nat.le_refl _) ?_ ?_ ?_
 ·rw[List.append_nil,ya3];exact zb _ _ _
 ·exact hf.2
 ·rw[zk,zah]
 ·intro row hr
  obtain⟨x,_,rfl⟩:=List.mem_map.1 hr
  rfl
 ·intro row hr y hy
  obtain⟨x,_,rfl⟩:=List.mem_map.1 hr
  simp[intC]at hy
  exact⟨_,hy,rfl⟩
 rw[jc hf.1]
 refine AWp.of_vc zc ?_
 exact ret h
def zal(g:Gnd)(l:List Bld)(c s:Int)(i t:Nat):Bool:=if t<i then zl g l c s t else false
theorem ym8(g:Gnd)(hg:gndP g)(l:List Bld)(hl:l.length<=1000000000000)(hb:∀b∈l,bldP b/\onP g b)(c s:Int)(hs:0<=s/\s<=3)(st:Store)(R:AV->Store->Prop)(h:R (zix g l c s) st):
  ACalls Tryz.prog 279 [.agg (gndC g),lst 6 bldC l,int c,int s] st R:=by
 have ha:=zr hg
 refine Qb (c:=cfg 34) zc Tryz.func279 ?_
 refine AWp.seq (AWp.of_vc zc ?_)
 refine AWp.seq (AWp.of_vc zc ?_)
 refine qr rfl (it:=ti60) (ie:=ti4) rfl rfl rfl rfl rfl (n:=(rws u8C g.T).length) ?_ ?_ (fun b hf=>?_)
 ·rw[zk];show 1*_<=_;omega
 ·rw[zk];omega
 rw[zk,zcx]
 refine AWp.meetA (σ:=Unit) ⟨fun _=>[(9,.av (blV b g.T.length))],fun _=>[],fun _ st'=>st'=st.setObj b (.cells (bl g.T.length (zl g l c s)))⟩ ?_ ?_
 ·refine AWp.of_vc zc ?_
  refine zza g hg l hl hb c _ _ ?_
  refine AWp.loop (σ:=Nat) ⟨fun i=>[(3,.av (int s)),(9,.av (blV b g.T.length)),(19,.av (ytp g l c)),(20,.av (int (g.T.length:Nat))),(21,.av (int (i:Nat)))],fun _=>[],
   fun i st'=>i<=g.T.length/\st'=st.setObj b (.cells (bl g.T.length (zal g l c s i))),fun i=>g.T.length-i⟩ zc ?_ ?_
  ·refine⟨0,Tv,⟨Nat.zero_le _,?_⟩,⟨Tq,Tq,Tq,?_,Tq,Tv⟩,Tv⟩
   ·rw[show zal g l c s 0=fun _=>false from funext fun t=>if_neg (Nat.not_lt_zero t)]
   ·show LV.le (.av (int ((rws intC (ilL g.T.length (zh9 g (yl g l c)))).length:Nat))) (.av (int (g.T.length:Nat)))
    rw[zk,zah];exact Tq
  rintro i st' ⟨hi,rfl⟩
  refine bcd (fun h1=>?_) (fun h1=>?_)
  rotate_left
  ·have:i=g.T.length:=by omega
   subst this
   refine⟨(),?_,⟨Tq,Tv⟩,Tv⟩
   show st.setObj b (.cells (bl g.T.length (zal g l c s g.T.length)))=st.setObj b (.cells (bl g.T.length (zl g l c s)))
   rw[zm4 (f:=zal g l c s g.T.length) (g:=zl g l c s) fun t ht=>if_pos ht]
  have hlt:i<g.T.length:=by omega
  have ho:(st.setObj b (.cells (bl g.T.length (zal g l c s i)))).obj b=some (.cells (bl g.T.length (zal g l c s i))):=zb _ _ _
  have hlt2:i<(ilL g.T.length (zh9 g (yl g l c))).length:=by rw[zah];exact hlt
  have s2:∀q,q≠i->zal g l c s (i+1) q=zal g l c s i q:=fun q hq=>by
   unfold zal
   by_cases h3:q<i
   ·rw[if_pos h3,if_pos (by omega)]
   ·rw[if_neg h3,if_neg (by omega)]
  have s1:zal g l c s (i+1) i=zl g l c s i:=if_pos (by omega)
  refine⟨i,rfl,za _ (zj hlt2) ?_⟩
  refine⟨i,rfl,hlt,?_⟩
  refine zh (i:=ti4) (v:=V.bool (decide (s<(ilL g.T.length (zh9 g (yl g l c)))[i]))) (b:=b) (o:=0+i*1) (l:=_) (st2:=st.setObj b (.cells (bl g.T.length (zal g l c s (i+1))))) rfl rfl rfl ho (by rw[jg];omega) ?_ ?_
  ·rw[zg,show 0+i*1=i by omega,<-zcy hlt _ s2,s1,ya4 hlt,ybd hg l c hs hlt]
  refine Qd ?_
  refine⟨i+1,?_,⟨by omega,rfl⟩,⟨Tq,Tq,Tq,Tq,Tq,Tv⟩,Tv⟩
  show g.T.length-(i+1)<g.T.length-i
  omega
 rintro _ _ rfl
 refine AWp.freeze (d:=9) (b:=b) (k:=1) (n:=g.T.length) (cap:=g.T.length) (rows:=rws zak (blL g.T.length (zl g l c s))) (pad:=[]) rfl ?_ ?_ ?_ (Nat.le_refl _) ?_ ?_ ?_
 ·rw[zaa];exact zb _ _ _
 ·exact hf.2
 ·rw[zk,yu]
 ·intro row hr
  obtain⟨x,_,rfl⟩:=List.mem_map.1 hr
  rfl
 ·intro row hr y hy
  obtain⟨x,_,rfl⟩:=List.mem_map.1 hr
  simp[zak]at hy
  exact⟨_,hy,rfl⟩
 rw[jc hf.1]
 refine AWp.of_vc zc ?_
 exact ret h
def netC(g:Gnd)(l:List Bld)(c s:Int):List AV:=gndC g++[int c,zix g l c s]
theorem zf3(g:Gnd)(hg:gndP g)(l:List Bld)(hl:l.length<=1000000000000)(hb:∀b∈l,bldP b/\onP g b)(c s:Int)(hs:0<=s/\s<=3)(st:Store)(R:AV->Store->Prop)(h:∀b,Fresh st b->R (ptr b) (st.setObj b (.cells (netC g l c s)))):
  ACalls Tryz.prog 269 [.agg (gndC g),lst 6 bldC l,int c,int s] st R:=by
 refine Qa (c:=cfg 18 [17] []) zc Tryz.func269 ?_
 refine Qc zc yky ?_
 refine⟨ym8 g hg l hl hb c s hs _ _ ⟨Qe,?_⟩,Tv⟩
 refine⟨fun b hf=>⟨Qe,?_⟩,Tv⟩
 refine⟨⟨Tv,?_⟩,Tv⟩
 exact ret (h b hf)
set_option maxRecDepth 10000 in
theorem zbe(g:Gnd)(hg:gndP g)(t:Nat)(ht:t<g.T.length)(st:Store)(R:AV->Store->Prop)(h:R (ints (vh g t)) st):ACalls Tryz.prog 52 [.agg (gndC g),int t] st R:=by
 have hm:=zr hg
 have htb:=zcf hg (t:=t) (by omega)
 have hq:=trem (t:=t) hg.1.1
 have hq2:=tquo (t:=t) hg.1.1
 have hg1:=hg.1
 have hg2:=hg.2.1
 unfold vh at h
 generalize(t:Int)%g.W=x at*
 generalize(t:Int)/g.W=y at*
 have hd:∀i,(hi:i<8)->-1<=(dirL[i]'hi).1/\(dirL[i]'hi).1<=1/\-1<=(dirL[i]'hi).2/\(dirL[i]'hi).2<=1:=by decide
 refine Qa (c:=cfg 64) zc Tryz.func52 ?_
 refine AWp.loop (σ:=Nat×AV) ⟨fun s=>[(1,.av (int (t:Nat))),(2,.bx 2 0),(5,.bx 5 0),(6,.bx 6 0),(7,.av s.2),(8,.av (int (s.1:Nat)))],fun _=>[(2,gndC g),(5,dirL.map fun d=>int d.1),(6,dirL.map fun d=>int d.2)],
  fun s st'=>s.1<=8/\App 1 st s.2 (rws intC ((dirL.take s.1).map (jj g x y))) st',fun s=>8-s.1⟩ zc ?_ ?_
 ·exact⟨(0,_),Tv,⟨Nat.zero_le _,App.start 1 st⟩,⟨Tq,Tq,Tq,Tq,Tq,Tq,Tv⟩,⟨rfl,rfl,rfl,Tv⟩⟩
 rintro⟨i,v⟩ st' ⟨hi,ha⟩
 dsimp only at hi ha⊢
 refine bcd (fun h1=>?_) (fun h1=>?_)
 rotate_left
 ·have:i=8:=by omega
  subst this
  exact⟨_,st,AV.le_trans ha.le (Tt),ha.has,h⟩
 have hlt:i<8:=by omega
 have hdi:=hd i hlt
 have hx5:((dirL.map fun d=>int d.1).drop (0+i*1)).head?=some (int (dirL[i]'hlt).1):=by
  rw[List.head?_drop,show 0+i*1=i by omega,List.getElem?_map,List.getElem?_eq_getElem hlt];rfl
 have hx6:((dirL.map fun d=>int d.2).drop (0+i*1)).head?=some (int (dirL[i]'hlt).2):=by
  rw[List.head?_drop,show 0+i*1=i by omega,List.getElem?_map,List.getElem?_eq_getElem hlt];rfl
 have hstep:(dirL.take (i+1)).map (jj g x y)=(dirL.take i).map (jj g x y)++[jj g x y (dirL[i]'hlt)]:=by
  rw[List.take_succ_eq_append_getElem hlt,List.map_append];rfl
 have hlen:((dirL.take i).map (jj g x y)).length<=8:=by rw[List.length_map,List.length_take];exact Nat.min_le_right _ _
 have hna:jj g x y (dirL[i]'hlt)=if onG g (x+(dirL[i]'hlt).1) (y+(dirL[i]'hlt).2)then x+(dirL[i]'hlt).1+g.W*(y+(dirL[i]'hlt).2)else -1:=rfl
 generalize hD:dirL[i]'hlt=d at*
 refine Qc zc yrt ?_
 refine⟨by omega,?_⟩
 refine⟨i,rfl,hlt,?_⟩
 refine za _ hx5 ?_
 refine Qd ?_
 refine⟨by omega,?_⟩
 refine Qd ?_
 refine⟨i,rfl,hlt,?_⟩
 refine za _ hx6 ?_
 refine Qd ?_
 refine⟨⟨(by repeat(first|exact Tv|refine⟨rfl,?_⟩|refine⟨⟨i,rfl,hlt,rfl⟩,?_⟩|refine⟨za (o:=List.head? _) _ hx5 rfl,?_⟩|refine⟨za (o:=List.head? _) _ hx6 rfl,?_⟩|refine⟨in64 (by omega) rfl,?_⟩|refine⟨⟨by omega,rfl⟩,?_⟩)),?_⟩,Tv⟩
 refine⟨⟨(by repeat(first|exact Tv|refine⟨rfl,?_⟩|refine⟨⟨i,rfl,hlt,rfl⟩,?_⟩|refine⟨za (o:=List.head? _) _ hx5 rfl,?_⟩|refine⟨za (o:=List.head? _) _ hx6 rfl,?_⟩|refine⟨in64 (by omega) rfl,?_⟩|refine⟨⟨by omega,rfl⟩,?_⟩)),?_⟩,Tv⟩
 rw[hq,hq2]
 have app:∀z,z=jj g x y d->∀v2 st2,App 1 st v2 (rws intC ((dirL.take i).map (jj g x y))++[intC z]) st2->App 1 st v2 (rws intC ((dirL.take (i+1)).map (jj g x y))) st2:=fun z hz v2 st2 h2=>by
  rw[hstep,<-zy3]
  subst hz
  exact h2
 have out:¬onG g (x+d.1) (y+d.2)->jj g x y d=-1:=fun hn=>by rw[hna,if_neg hn]
 have rest:∀{Q:AV->Store->Prop},(∀v2 st2,App 1 st v2 (rws intC ((dirL.take (i+1)).map (jj g x y))) st2->Q v2 st2)->¬onG g (x+d.1) (y+d.2)->appendK Tryz.prog (cfg 64) st' 3 (.av v) (.av (.lst 1 [[int (-1)]] none)) Q:=fun hQ hn=>
  xi (ie:=ti2) (rows':=[intC (-1)]) ha rfl rfl ⟨by simp only[zk,List.length_singleton,ti2];omega,by simp only[zk,List.length_singleton];omega⟩ (fun v2 st2 h2=>hQ v2 st2 (app (-1) (out hn).symm v2 st2 h2))
 have next:∀v2 st2,App 1 st v2 (rws intC ((dirL.take (i+1)).map (jj g x y))) st2->∃s:Nat×AV,8-s.1<8-i/\(s.1<=8/\App 1 st s.2 (rws intC ((dirL.take s.1).map (jj g x y))) st2)/\s=(i+1,v2):=fun v2 st2 h2=>⟨(i+1,v2),by dsimp only;omega,⟨by dsimp only;omega,h2⟩,rfl⟩
 refine bcd (fun c1=>?_) (fun c1=>?_)
 ·refine⟨by decide,?_⟩
  refine rest (fun v2 st2 h2=>?_) (fun hh=>by have:=hh.1.1;omega)
  obtain⟨s,f1,f2,rfl⟩:=next v2 st2 h2
  refine Qd ?_
  exact⟨(i+1,v2),f1,f2,⟨Tq,Tq,Tq,Tq,Tq,Tq,Tv⟩,⟨rfl,rfl,rfl,Tv⟩⟩
 refine bcd (fun c2=>?_) (fun c2=>?_)
 ·refine⟨by decide,?_⟩
  refine rest (fun v2 st2 h2=>?_) (fun hh=>by have:=hh.1.2;omega)
  obtain⟨s,f1,f2,rfl⟩:=next v2 st2 h2
  refine Qd ?_
  exact⟨(i+1,v2),f1,f2,⟨Tq,Tq,Tq,Tq,Tq,Tq,Tv⟩,⟨rfl,rfl,rfl,Tv⟩⟩
 refine bcd (fun c3=>?_) (fun c3=>?_)
 ·refine⟨by decide,?_⟩
  refine rest (fun v2 st2 h2=>?_) (fun hh=>by have:=hh.2.1;omega)
  obtain⟨s,f1,f2,rfl⟩:=next v2 st2 h2
  refine Qd ?_
  exact⟨(i+1,v2),f1,f2,⟨Tq,Tq,Tq,Tq,Tq,Tq,Tv⟩,⟨rfl,rfl,rfl,Tv⟩⟩
 refine bcd (fun c4=>?_) (fun c4=>?_)
 ·refine⟨by decide,?_⟩
  refine rest (fun v2 st2 h2=>?_) (fun hh=>by have:=hh.2.2;omega)
  obtain⟨s,f1,f2,rfl⟩:=next v2 st2 h2
  refine Qd ?_
  exact⟨(i+1,v2),f1,f2,⟨Tq,Tq,Tq,Tq,Tq,Tq,Tv⟩,⟨rfl,rfl,rfl,Tv⟩⟩
 have hon:onG g (x+d.1) (y+d.2):=⟨⟨by omega,by omega⟩,by omega,by omega⟩
 obtain⟨e1,e2,_,_⟩:=jr hg hon
 have hpos:0<=g.W*(y+d.2):=Int.mul_nonneg (by omega) (by omega)
 refine Qd ?_
 refine Qd ?_
 refine⟨by decide,?_⟩
 refine xi (ie:=ti2) (rows':=[intC (x+d.1+g.W*(y+d.2))]) ha ?_ ?_ ⟨?_,?_⟩ (fun v2 st2 h2=>?_)
 ·rfl
 ·rfl
 ·simp only[zk,List.length_singleton,ti2];omega
 ·simp only[zk,List.length_singleton];omega
 obtain⟨s,f1,f2,rfl⟩:=next v2 st2 (app _ (by rw[hna,if_pos hon]) v2 st2 h2)
 refine Qd ?_
 exact⟨(i+1,v2),f1,f2,⟨Tq,Tq,Tq,Tq,Tq,Tq,Tv⟩,⟨rfl,rfl,rfl,Tv⟩⟩
def inV(g:Gnd)(o:Nat->Bool)(r:Nat):AV:=lst 1 zak (blL g.T.length (sqT g o r))
def gS(st:Store)(g:Gnd)(bn bx:Nat)(f:Nat->Int)(nx:Nat->Bool):Store:=(st.setObj bn (.cells (il g.T.length f))).setObj bx (.cells (bl g.T.length nx))
set_option maxHeartbeats 1000000 in
theorem zvs(g:Gnd)(hg:gndP g)(l:List Bld)(hl:l.length<=1000000000000)(hb:∀b∈l,bldP b/\onP g b)(c:Int)(hc:c=0\/c=1\/c=2)(st:Store)(R:AV->Store->Prop)
  (h:∀f,ymy g (yl g l c) f->R (lst 1 intC (ilL g.T.length f)) st):ACalls Tryz.prog 63 [.agg (gndC g),lst 6 bldC l,int c] st R:=by
 have ha:=zr hg
 refine Qb (c:=cfg 79) zc Tryz.func63 ?_
 refine AWp.seq (AWp.of_vc zc ?_)
 refine AWp.seq (AWp.of_vc zc ?_)
 refine zkm g hg l hl hb c hc _ _ ?_
 generalize ho:yl g l c=o at*
 have hopV:opV g l c=inV g o 0:=by
  unfold opV inV
  rw[ho,yci fun t ht=>(yj9 hg o ht).symm]
 refine AWp.seq (AWp.of_vc zc ?_)
 refine qr rfl (it:=ti29) (ie:=ti2) rfl rfl rfl rfl rfl (n:=(rws zak (blL g.T.length (yl g l c))).length) ?_ ?_ (fun bn hfn=>?_)
 ·rw[zk,yu];show 8*_<=_;omega
 ·rw[zk,yu];omega
 rw[zk,yu,ziu]
 refine AWp.meetA (σ:=Nat->Int) ⟨fun _=>[(8,.av (blV bn g.T.length))],fun _=>[],fun f st'=>ymy g o f/\st'=st.setObj bn (.cells (il g.T.length f))⟩ ?_ ?_
 ·refine AWp.seq (AWp.of_vc zc ?_)
  refine AWp.block ?_
  refine AWp.loopA (σ:=Nat×Bool×(Nat->Int)) ⟨fun s=>[(3,.bx 3 0),(7,.av (inV g o s.1)),(8,.av (blV bn g.T.length)),(9,.av (V.bool s.2.1))],fun _=>[(3,gndC g)],
   fun s st'=>st'=st.setObj bn (.cells (il g.T.length s.2.2))/\zg4 g o s.1 0 s.2.2/\s.1<=64/\(s.2.1=true->s.1<=63)/\(s.2.1=false->∀t,t<g.T.length->sqT g o s.1 t=false),fun s=>200-s.1⟩ ?_ ?_
  ·refine⟨(0,true,fun _=>0),Tv,⟨rfl,zwq g o,by decide,fun _=>by decide,fun hh=>by cases hh⟩,⟨Tq,?_,Tq,Tq,Tv⟩,⟨rfl,Tv⟩⟩
   dsimp only
   rw[<-hopV];exact Tq
  rintro⟨r,left,f⟩ st' ⟨rfl,hgp,hr,hl1,hl2⟩
  dsimp only at hgp hr hl1 hl2⊢
  refine AWp.seq (AWp.of_vc zc ?_)
  refine ze (fun c1=>?_) (fun c1=>?_)
  rotate_left
  ·exact⟨f,⟨ybb hgp (hl2 c1),rfl⟩,⟨Tq,Tv⟩,Tv⟩
  have hr63:=hl1 c1
  refine AWp.block ?_
  refine AWp.seq (AWp.of_vc zc ?_)
  refine AWp.seq (AWp.of_vc zc ?_)
  refine qr rfl (it:=ti60) (ie:=ti4) rfl rfl rfl rfl rfl (n:=(rws zak (blL g.T.length (sqT g o r))).length) ?_ ?_ (fun bx hfx=>?_)
  ·rw[zk,yu];show 1*_<=_;omega
  ·rw[zk,yu];omega
  rw[zk,yu,zcx]
  have hne:bx≠bn:=fun e=>by
   have:=hfx.1
   rw[e,zb]at this
   cases this
  refine AWp.meetA (σ:=Nat->Int) ⟨fun _=>[(3,.bx 3 0),(8,.av (blV bn g.T.length)),(9,.av (V.bool (zfz g o r g.T.length))),(10,.av (blV bx g.T.length))],fun _=>[(3,gndC g)],
   fun f st'=>zg4 g o (r+1) 0 f/\st'=gS st g bn bx f (sqT g o (r+1))⟩ ?_ ?_
  ·refine AWp.of_vc zc ?_
   refine AWp.loop (σ:=Nat×(Nat->Int)) ⟨fun s=>[(3,.bx 3 0),(7,.av (inV g o r)),(8,.av (blV bn g.T.length)),(9,.av (V.bool (zfz g o r s.1))),(10,.av (blV bx g.T.length)),(11,.av (int (s.1:Nat)))],fun _=>[(3,gndC g)],
    fun s st'=>s.1<=g.T.length/\zg4 g o r s.1 s.2/\st'=gS st g bn bx s.2 (nxF g o r s.1 false),fun s=>g.T.length-s.1⟩ zc ?_ ?_
   ·exact⟨(0,f),Tv,⟨Nat.zero_le _,hgp,by unfold gS;rw[yml]⟩,⟨Tq,Tq,Tq,Tq,Tq,Tq,Tv⟩,⟨rfl,Tv⟩⟩
   rintro⟨t,f1⟩ st' ⟨ht,hgp1,rfl⟩
   dsimp only at ht hgp1⊢
   refine bcd (fun h1=>?_) (fun h1=>?_)
   rotate_left
   ·rw[zk,yu]at h1
    have:t=g.T.length:=by omega
    subst this
    refine⟨f1,⟨zwr hgp1,?_⟩,⟨Tq,Tq,Tq,Tq,Tv⟩,⟨rfl,Tv⟩⟩
    unfold gS
    rw[zm4 (yse g o r g.T.length)]
   rw[zk,yu]at h1
   have hlt:t<g.T.length:=by omega
   have hlt2:t<(blL g.T.length (sqT g o r)).length:=by rw[yu];exact hlt
   have hsn:=yka hg (o:=o) (r:=r) hlt
   have hls:=zwe g o r t
   refine⟨t,rfl,za _ (zj hlt2) ?_⟩
   rw[jy hlt]
   refine yo ?_
   refine ze (fun c2=>?_) (fun c2=>?_)
   rotate_left
   ·rw[c2,Bool.false_and]at hsn
    refine Qd ?_
    refine⟨(t+1,f1),?_,⟨by dsimp only;omega,ymz hgp1 c2,?_⟩,⟨Tq,Tq,Tq,?_,Tq,Tq,Tv⟩,⟨rfl,Tv⟩⟩
    ·show g.T.length-(t+1)<g.T.length-t
     omega
    ·show gS st g bn bx f1 (nxF g o r t false)=gS st g bn bx f1 (nxF g o r (t+1) false)
     rw[<-zty,hsn]
    ·show LV.le (.av (V.bool (zfz g o r t))) (.av (V.bool (zfz g o r (t+1))))
     rw[hls,hsn,Bool.or_false];exact Tq
   rw[c2,Bool.true_and]at hsn
   have hgp2:=yba hgp1 hlt c2
   have hfb:=ysp hgp1 hlt
   have hon:(gS st g bn bx f1 (nxF g o r t false)).obj bn=some (.cells (il g.T.length f1)):=(zd (Ne.symm hne)).trans (zb _ _ _)
   refine⟨t,rfl,hlt,?_⟩
   refine za _ hon (za _ (qc hlt) ?_)
   refine Qd ?_
   refine⟨t,rfl,hlt,?_⟩
   refine zh (i:=ti2) (v:=int (f1 t+1)) (b:=bn) (o:=0+t*1) (l:=il g.T.length f1) (st2:=gS st g bn bx (setI f1 t (f1 t+1)) (nxF g o r t false)) rfl rfl rfl hon (by rw[yz];omega) ?_ ?_
   ·unfold gS
    rw[jt (Ne.symm hne),zg,show 0+t*1=t by omega,zex hlt]
   generalize setI f1 t (f1 t+1)=f2 at*
   have hx:∀v,(gS st g bn bx f2 (nxF g o r t v)).obj bx=some (.cells (bl g.T.length (nxF g o r t v))):=fun v=>zb _ _ _
   have hst:∀v u,(gS st g bn bx f2 (nxF g o r t v)).setObj bx (.cells (zo (bl g.T.length (nxF g o r t v)) (0+t*1) [V.bool u]))=gS st g bn bx f2 (nxF g o r t u):=fun v u=>by
    have:=zcy (f:=nxF g o r t v) hlt (nxF g o r t u) (fun s hs=>ytx g o r t u v hs)
    rw[ztz]at this
    unfold gS
    rw[zg,show 0+t*1=t by omega,this]
   refine⟨t,rfl,hlt,?_⟩
   refine zh (i:=ti4) (v:=V.bool true) (b:=bx) (o:=0+t*1) (l:=bl g.T.length (nxF g o r t false)) (st2:=gS st g bn bx f2 (nxF g o r t true)) rfl rfl rfl (hx _) (by rw[jg];omega) (hst _ _) ?_
   refine zbe g hg t hlt _ _ ?_
   have hnb:∀i,(hi:i<(vh g t).length)->(vh g t)[i]=-1\/∃m:Nat,(vh g t)[i]=m/\m<g.T.length:=fun i hi=>zos hg (List.getElem_mem hi)
   have hn8:=zae g t
   generalize hN:vh g t=N at*
   refine AWp.loop (σ:=Nat) ⟨fun i=>[(3,.bx 3 0),(7,.av (inV g o r)),(8,.av (blV bn g.T.length)),(9,.av (V.bool (zfz g o r t))),(10,.av (blV bx g.T.length)),(11,.av (int (t:Nat))),(12,.av (ints N)),(13,.av (int (i:Nat)))],fun _=>[(3,gndC g)],
    fun i st'=>i<=8/\st'=gS st g bn bx f2 (nxF g o r t ((N.take i).all (okB g o r))),fun i=>8-i⟩ zc ?_ ?_
   ·exact⟨0,Tv,⟨Nat.zero_le _,by rw[List.take_zero];rfl⟩,⟨Tq,Tq,Tq,Tq,Tq,Tq,Tq,Tq,Tv⟩,⟨rfl,Tv⟩⟩
   rintro i st' ⟨hi,rfl⟩
   refine bcd (fun h2=>?_) (fun h2=>?_)
   rotate_left
   ·have:i=8:=by omega
    subst this
    have htk:N.take 8=N:=by rw[<-hn8,List.take_length]
    rw[htk,<-hsn]
    have fin:∀b9:AV,b9=V.bool (zfz g o r (t+1))->LV.le (.av b9) (.av (V.bool (zfz g o r (t+1)))):=fun b9 e=>by rw[e];exact Tq
    have eS:gS st g bn bx f2 (nxF g o r t (sqT g o (r+1) t))=gS st g bn bx f2 (nxF g o r (t+1) false):=by rw[zty]
    have hx9:=hx (sqT g o (r+1) t)
    have hdec:g.T.length-(t+1)<g.T.length-t:=by omega
    refine ze (fun c3=>?_) (fun c3=>?_)
    ·refine Qd ?_
     exact⟨(t+1,f2),hdec,⟨by dsimp only;omega,hgp2,eS⟩,⟨Tq,Tq,Tq,fin _ (by rw[hls,c3,Bool.true_or];rfl),Tq,Tq,Tv⟩,⟨rfl,Tv⟩⟩
    ·refine⟨t,rfl,hlt,?_⟩
     refine za _ hx9 (za _ (zm3 hlt) ?_)
     refine Qd ?_
     exact⟨(t+1,f2),hdec,⟨by dsimp only;omega,hgp2,eS⟩,⟨Tq,Tq,Tq,fin _ (by rw[hls,c3,Bool.false_or,ztz]),Tq,Tq,Tv⟩,⟨rfl,Tv⟩⟩
   have hi8:i<N.length:=by omega
   have hal:(N.take (i+1)).all (okB g o r)=((N.take i).all (okB g o r)&&okB g o r N[i]):=by
    rw[List.take_succ_eq_append_getElem hi8,List.all_append]
    simp
   have hx9:=hx ((N.take i).all (okB g o r))
   have hst9:=hst ((N.take i).all (okB g o r)) false
   have hdec:8-(i+1)<8-i:=by omega
   refine⟨i,rfl,za _ (zj hi8) ?_⟩
   refine bcd (fun c3=>?_) (fun c3=>?_)
   ·have hok:okB g o r N[i]=false:=by
     unfold okB
     rw[decide_eq_false (by omega),Bool.false_and]
    rw[hok,Bool.and_false]at hal
    refine⟨t,rfl,hlt,?_⟩
    refine zh (i:=ti4) (v:=V.bool false) (b:=bx) (o:=0+t*1) (l:=_) (st2:=gS st g bn bx f2 (nxF g o r t false)) rfl rfl rfl hx9 (by rw[jg];omega) hst9 ?_
    refine Qd ?_
    exact⟨i+1,hdec,⟨by omega,by rw[hal]⟩,⟨Tq,Tq,Tq,Tq,Tq,Tq,Tq,Tq,Tv⟩,⟨rfl,Tv⟩⟩
   rcases hnb i hi8 with q|⟨m,q1,q2⟩
   ·omega
   have hm2:m<(blL g.T.length (sqT g o r)).length:=by rw[yu];exact q2
   have hok:okB g o r N[i]=sqT g o r m:=by
    unfold okB
    rw[decide_eq_true (by omega),Bool.true_and,q1,Int.toNat_natCast]
   refine⟨i,rfl,za _ (zj hi8) ?_⟩
   refine⟨m,q1,za _ (zj hm2) ?_⟩
   rw[jy q2]
   refine yo ?_
   refine ze (fun c4=>?_) (fun c4=>?_)
   ·rw[hok,c4,Bool.and_true]at hal
    refine Qd ?_
    exact⟨i+1,hdec,⟨by omega,by rw[hal]⟩,⟨Tq,Tq,Tq,Tq,Tq,Tq,Tq,Tq,Tv⟩,⟨rfl,Tv⟩⟩
   ·rw[hok,c4,Bool.and_false]at hal
    refine⟨t,rfl,hlt,?_⟩
    refine zh (i:=ti4) (v:=V.bool false) (b:=bx) (o:=0+t*1) (l:=_) (st2:=gS st g bn bx f2 (nxF g o r t false)) rfl rfl rfl hx9 (by rw[jg];omega) hst9 ?_
    refine Qd ?_
    exact⟨i+1,hdec,⟨by omega,by rw[hal]⟩,⟨Tq,Tq,Tq,Tq,Tq,Tq,Tq,Tq,Tv⟩,⟨rfl,Tv⟩⟩
  ·rintro f3 _ ⟨hq,rfl⟩
   have hb3:=hq
   have hfb:(st.setObj bn (.cells (il g.T.length f3))).obj bx=none:=by rw[zd hne];have:=hfx.1;rwa [zd hne]at this
   refine AWp.freeze (d:=10) (b:=bx) (k:=1) (n:=g.T.length) (cap:=g.T.length) (rows:=rws zak (blL g.T.length (sqT g o (r+1)))) (pad:=[]) rfl ?_ ?_ ?_ (Nat.le_refl _) ?_ ?_ ?_
   ·rw[zaa];exact zb _ _ _
   ·exact hfx.2
   ·rw[zk,yu]
   ·intro row hr
    obtain⟨x,_,rfl⟩:=List.mem_map.1 hr
    rfl
   ·intro row hr y hy
    obtain⟨x,_,rfl⟩:=List.mem_map.1 hr
    simp[zak]at hy
    exact⟨_,hy,rfl⟩
   unfold gS
   rw[jc hfb]
   refine AWp.of_vc zc ?_
   refine⟨(r+1,zfz g o r g.T.length,f3),?_,⟨rfl,hq,by dsimp only;omega,fun hh=>?_,fun hh=>?_⟩,⟨Tq,Tq,Tq,Tq,Tv⟩,⟨rfl,Tv⟩⟩
   ·show 200-(r+1)<200-r
    omega
   ·dsimp only at hh⊢
    unfold zfz at hh
    obtain⟨t,_,ht2⟩:=List.any_eq_true.1 hh
    exact yuo hg ht2
   ·dsimp only at hh⊢
    unfold zfz at hh
    rw[List.any_eq_false]at hh
    intro t ht
    exact Bool.eq_false_iff.2 (hh t (List.mem_range.2 ht))
 ·rintro f _ ⟨hq,rfl⟩
  refine AWp.freeze (d:=8) (b:=bn) (k:=1) (n:=g.T.length) (cap:=g.T.length) (rows:=rws intC (ilL g.T.length f)) (pad:=[]) rfl ?_ ?_ ?_ (Nat.le_refl _) ?_ ?_ ?_
  ·rw[List.append_nil,ya3];exact zb _ _ _
  ·exact hfn.2
  ·rw[zk,zah]
  ·intro row hr
   obtain⟨x,_,rfl⟩:=List.mem_map.1 hr
   rfl
  ·intro row hr y hy
   obtain⟨x,_,rfl⟩:=List.mem_map.1 hr
   simp[intC]at hy
   exact⟨_,hy,rfl⟩
  rw[jc hfn.1]
  refine AWp.of_vc zc ?_
  exact ret (h f hq)
theorem zko(g:Gnd)(hg:gndP g)(l:List Bld)(hl:l.length<=1000000000000)(hb:∀b∈l,bldP b/\onP g b)(c:Int)(hc:c=0\/c=1\/c=2)(s:Int)(hs:0<=s)(st:Store)(R:AV->Store->Prop)(h:R (zix g l c s) st):
  ACalls Tryz.prog 27 [.agg (gndC g),lst 6 bldC l,int c,int s] st R:=by
 have ha:=zr hg
 refine Qb (c:=cfg 35) zc Tryz.func27 ?_
 refine AWp.seq (AWp.of_vc zc ?_)
 refine AWp.seq (AWp.of_vc zc ?_)
 refine zvs g hg l hl hb c hc _ _ (fun f hq=>?_)
 refine AWp.seq (AWp.of_vc zc ?_)
 refine qr rfl (it:=ti60) (ie:=ti4) rfl rfl rfl rfl rfl (n:=(rws intC (ilL g.T.length f)).length) ?_ ?_ (fun b hf=>?_)
 ·rw[zk,zah];show 1*_<=_;omega
 ·rw[zk,zah];omega
 rw[zk,zah,zcx]
 refine AWp.meetA (σ:=Unit) ⟨fun _=>[(10,.av (blV b g.T.length))],fun _=>[],fun _ st'=>st'=st.setObj b (.cells (bl g.T.length (zl g l c s)))⟩ ?_ ?_
 ·refine AWp.of_vc zc ?_
  refine AWp.loop (σ:=Nat) ⟨fun i=>[(3,.av (int s)),(9,.av (lst 1 intC (ilL g.T.length f))),(10,.av (blV b g.T.length)),(11,.av (int (i:Nat)))],fun _=>[],
   fun i st'=>i<=g.T.length/\st'=st.setObj b (.cells (bl g.T.length (zal g l c s i))),fun i=>g.T.length-i⟩ zc ?_ ?_
  ·refine⟨0,Tv,⟨Nat.zero_le _,?_⟩,⟨Tq,Tq,Tq,Tq,Tv⟩,Tv⟩
   rw[show zal g l c s 0=fun _=>false from funext fun t=>if_neg (Nat.not_lt_zero t)]
  rintro i st' ⟨hi,rfl⟩
  refine bcd (fun h1=>?_) (fun h1=>?_)
  rotate_left
  ·rw[zk,zah]at h1
   have:i=g.T.length:=by omega
   subst this
   refine⟨(),?_,⟨Tq,Tv⟩,Tv⟩
   show st.setObj b (.cells (bl g.T.length (zal g l c s g.T.length)))=st.setObj b (.cells (bl g.T.length (zl g l c s)))
   rw[zm4 (f:=zal g l c s g.T.length) (g:=zl g l c s) fun t ht=>if_pos ht]
  rw[zk,zah]at h1
  have hlt:i<g.T.length:=by omega
  have ho:(st.setObj b (.cells (bl g.T.length (zal g l c s i)))).obj b=some (.cells (bl g.T.length (zal g l c s i))):=zb _ _ _
  have hlt2:i<(ilL g.T.length f).length:=by rw[zah];exact hlt
  have s2:∀q,q≠i->zal g l c s (i+1) q=zal g l c s i q:=fun q hq=>by
   unfold zal
   by_cases h3:q<i
   ·rw[if_pos h3,if_pos (by omega)]
   ·rw[if_neg h3,if_neg (by omega)]
  have s1:zal g l c s (i+1) i=zl g l c s i:=if_pos (by omega)
  refine⟨i,rfl,za _ (zj hlt2) ?_⟩
  refine⟨i,rfl,hlt,?_⟩
  refine zh (i:=ti4) (v:=V.bool (decide (s<(ilL g.T.length f)[i]))) (b:=b) (o:=0+i*1) (l:=_) (st2:=st.setObj b (.cells (bl g.T.length (zal g l c s (i+1))))) rfl rfl rfl ho (by rw[jg];omega) ?_ ?_
  ·rw[zg,show 0+i*1=i by omega,<-zcy hlt _ s2,s1,ya4 hlt,zwp hq hs hlt]
  refine Qd ?_
  refine⟨i+1,?_,⟨by omega,rfl⟩,⟨Tq,Tq,Tq,Tq,Tv⟩,Tv⟩
  show g.T.length-(i+1)<g.T.length-i
  omega
 rintro _ _ rfl
 refine AWp.freeze (d:=10) (b:=b) (k:=1) (n:=g.T.length) (cap:=g.T.length) (rows:=rws zak (blL g.T.length (zl g l c s))) (pad:=[]) rfl ?_ ?_ ?_ (Nat.le_refl _) ?_ ?_ ?_
 ·rw[zaa];exact zb _ _ _
 ·exact hf.2
 ·rw[zk,yu]
 ·intro row hr
  obtain⟨x,_,rfl⟩:=List.mem_map.1 hr
  rfl
 ·intro row hr y hy
  obtain⟨x,_,rfl⟩:=List.mem_map.1 hr
  simp[zak]at hy
  exact⟨_,hy,rfl⟩
 rw[jc hf.1]
 refine AWp.of_vc zc ?_
 exact ret h
theorem bleK{m n:Nat}{p:Prop}(h:m<=n)(k:p):(bif Nat.ble m n then p else False):=by
 have:Nat.ble m n=true:=Nat.ble_eq▸h
 rw[this]
 exact k
theorem yai(x y:Int)(hx:0<=x)(hx2:x<18446744073709551616)(hy:0<=y)(hy2:y<18446744073709551616)(st:Store)(R:AV->Store->Prop)(h:R (.tup (j6 (x*y))) st):
  ACalls Tryz.prog 301 [u64 x,u64 y] st R:=by
 refine Qa (c:=cfg 30) zc Tryz.func301 ?_
 refine zfv x y hx hx2 hy hy2 _ _ ?_
 exact ret h
set_option maxHeartbeats 1000000 in
theorem zie(v:Int)(n:Nat)(h0:1<=n)(hn:n<=1000000)(st:Store)(R:AV->Store->Prop)(h:∀b,Fresh st b->R (.s (.slice (some ⟨b,0,none⟩) n n)) (st.setObj b (.cells (il n fun _=>v)))):
  ACalls Tryz.prog 286 [lst 1 intC [v],int (n:Nat)] st R:=by
 refine Qa (c:=cfg 48) zc Tryz.func286 ?_
 have w2:IntKind.u64.wrap (n:Int)=n:=ye (by omega) (by omega)
 have w1:IntKind.u64.wrap ((rws intC [v]).length:Nat)=1:=rfl
 show ACalls _ _ [u64 (IntKind.u64.wrap _),u64 (IntKind.u64.wrap (n:Int))] _ _
 rw[w2,w1]
 refine yai 1 n (by omega) (by omega) (by omega) (by omega) _ _ ?_
 have e1:(1*(n:Int))=n:=Int.one_mul _
 rw[e1]
 have e2:j6 (n:Int)=[u64 0,u64 n]:=by
  unfold j6
  rw[Int.ediv_eq_zero_of_lt (by omega) (by omega),Int.emod_eq_of_lt (by omega) (by omega)]
 rw[e2]
 refine bcd (fun c3=>absurd c3 (by omega)) (fun c3=>?_)
 refine Qd ?_
 refine qr rfl (it:=ti29) (ie:=ti2) rfl rfl rfl rfl rfl (n:=n) ?_ ?_ (fun b hf=>?_)
 ·show 8*_<=_;omega
 ·omega
 rw[ziu]
 refine zqh rfl rfl rfl rfl (it:=ti29) (ie:=ti2) rfl rfl rfl (src:=lst 1 intC [v]) (SrcN.rows (rows:=rws intC [v]) rfl) (n:=1) (by show 1=min 1 n;omega) (zb _ _ _) (by rw[yz];show 0+1*1<=n;omega) ?_
 rw[zg]
 have e3:zo (il n fun _=>0) 0 (rws intC [v]).flatten=il n (zaz v 1):=by
  show zo (il n fun _=>0) 0 [int v]=_
  rw[zex (t:=0) (by omega)]
  refine wi fun t ht=>?_
  unfold setI zaz
  by_cases h0:t=0
  ·rw[if_pos h0,if_pos (by omega)]
  ·rw[if_neg h0,if_neg (by omega)]
 rw[e3]
 refine AWp.loop (σ:=Nat) ⟨fun k=>[(7,.av (.s (.slice (some ⟨b,0,none⟩) n n))),(8,.av (int (k:Nat)))],fun _=>[],
  fun k st'=>1<=k/\k<=n/\st'=st.setObj b (.cells (il n (zaz v k))),fun k=>n-k⟩ zc ?_ ?_
 ·exact⟨1,Tv,⟨Nat.le_refl _,h0,rfl⟩,⟨Tq,Tq,Tv⟩,Tv⟩
 rintro k st' ⟨hk1,hk,rfl⟩
 refine bcd (fun c4=>?_) (fun c4=>?_)
 rotate_left
 ·have:k=n:=by omega
  subst this
  rw[yob]
  exact ret (h b hf)
 have hlt:k<n:=by omega
 have hb:(st.setObj b (.cells (il n (zaz v k)))).obj b=some (.cells (il n (zaz v k))):=zb _ _ _
 obtain⟨m,hm⟩:∃m,m=min k (n-k):=⟨_,rfl⟩
 refine Qc zc yku ?_
 refine⟨k,n,rfl,rfl,by omega,Nat.le_refl _,.inl ⟨hlt,?_⟩⟩
 refine⟨0,k,rfl,rfl,Nat.zero_le _,by omega,.inl ⟨by omega,?_⟩⟩
 refine⟨zqh rfl rfl rfl rfl (it:=ti29) (ie:=ti2) rfl rfl rfl (SrcN.obj (n:=m) hb (by rw[yz];show 0+0*1+m*1<=n;omega) (fun y hy=>by
   have:=List.mem_of_mem_drop (List.mem_of_mem_take hy)
   obtain⟨t,_,rfl⟩:=List.mem_map.1 this
   rfl)) (hm.trans (by rw[Nat.sub_zero])) hb (by rw[yz];show 0+k*1+m*1<=n;omega) ⟨Tv,?_⟩,Tv⟩
 rw[zg]
 refine Qd ?_
 refine⟨⟨Tv,?_⟩,Tv⟩
 refine⟨k+m,?_,⟨by omega,by omega,?_⟩,⟨Tq,Tq,Tv⟩,Tv⟩
 ·show n-(k+m)<n-k
  omega
 ·exact congrArg (fun l=>st.setObj b (.cells l)) (zvv (by omega) (by omega))
theorem zf5(u:Int)(st:Store)(R:AV->Store->Prop)(h:R (V.bool true) st):ACalls Tryz.prog 285 [int u] st R:=by
 refine Qa (c:=cfg 3) zc Tryz.func285 ?_
 exact ret h
theorem zr0(w:Nat)(h1:4<=w)(h2:w<8)(st:Store)(R:AV->Store->Prop)(h:R (.tup [int (zl3 w:Nat),int (zl2 w:Nat)]) st):ACalls Tryz.prog 302 [int (w:Nat)] st R:=by
 have hw:w=4\/w=5\/w=6\/w=7:=by omega
 rcases hw with rfl|rfl|rfl|rfl
 all_goals
  refine Qa (c:=cfg 10) zc Tryz.func302 ?_
  refine Qc zc ykl ?_
  refine⟨_,rfl,by decide,?_⟩
  refine⟨_,rfl,by decide,?_⟩
  refine⟨⟨Qe,⟨⟨Tv,?_⟩,Tv⟩⟩,Tv⟩
  exact ret h
theorem zx0(st:Store)(R:AV->Store->Prop)(h:R (.agg dirC) st):ACalls Tryz.prog 217 [] st R:=by
 refine Qa (c:=cfg 10) zc Tryz.func217 ?_
 exact ret h
set_option maxRecDepth 10000 in
set_option maxHeartbeats 1000000 in
theorem vl(g:Gnd)(hg:gndP g)(t:Nat)(ht:t<g.T.length)(st:Store)(R:AV->Store->Prop)(h:R (besV g t) st):ACalls Tryz.prog 186 [.agg (gndC g),int (t:Nat)] st R:=by
 have hm:=zr hg
 have htb:=zcf hg (t:=t) (by omega)
 have hq:=trem (t:=t) hg.1.1
 have hq2:=tquo (t:=t) hg.1.1
 have hg1:=hg.1
 have hg2:=hg.2.1
 have hbes:=fun(i:Nat) (hi:i<8)=>ys1 g t hi
 obtain⟨x,hx⟩:∃x,x=(t:Int)%g.W:=⟨_,rfl⟩
 obtain⟨y,hy⟩:∃y,y=(t:Int)/g.W:=⟨_,rfl⟩
 rw[<-hx,<-hy]at htb hbes
 rw[<-hx]at hq
 rw[<-hy]at hq2
 refine Qa (c:=cfg 50) zc Tryz.func186 ?_
 refine Qc zc ylc ?_
 refine⟨by omega,?_⟩
 refine⟨by omega,?_⟩
 refine in64 (by rw[hq2];omega) ?_
 refine⟨⟨?_,⟨⟨Tv,?_⟩,Tv⟩⟩,Tv⟩
 ·exact⟨rfl,Tv⟩
 rw[hq,hq2]
 refine zx0 _ _ ?_
 refine AWp.loop (σ:=Nat) ⟨fun i=>[(2,.bx 2 0),(4,.bx 4 0),(5,.av (int x)),(6,.av (int y)),(17,.av (.agg dirC)),(18,.av (int (i:Nat)))],fun i=>[(2,gndC g),(4,il 8 (zjj g t i))],
  fun i st'=>i<=8/\st'=st,fun i=>8-i⟩ zc ?_ ?_
 ·exact⟨0,Tv,⟨Nat.zero_le _,rfl⟩,⟨Tq,Tq,Tq,Tq,Tq,Tq,Tv⟩,⟨rfl,rfl,Tv⟩⟩
 rintro i st' ⟨hi,rfl⟩
 refine bcd (fun c1=>?_) (fun c1=>?_)
 rotate_left
 ·have:i=8:=by omega
  subst this
  refine ret ?_
  have e:AV.agg (il 8 (zjj g t 8))=besV g t:=congrArg AV.agg (yck g t)
  rw[<-e]at h
  exact h
 have hlt:i<8:=by omega
 have hr:=ynd hlt
 have hd:=yu1 hlt
 have hbe:=hbes i hlt
 have hst:=ycj g t (i:=i)
 generalize dirL.getD i (0,0)=d at*
 refine⟨i,rfl,hlt,?_⟩
 refine zn (i:=ti244) (row:=wayC d) rfl rfl hr ?_
 refine⟨i,rfl,hlt,?_⟩
 refine bleK (by rw[yz];show 0+i*1+1<=8;omega) ?_
 refine jb ?_
 refine⟨0,rfl,by decide,?_⟩
 refine Qd ?_
 refine⟨1,rfl,by decide,?_⟩
 refine Qd ?_
 refine zz5 _ _ _ _ _ (fun z hz=>?_)
 refine ze (fun c2=>?_) (fun c2=>?_)
 ·have hon:=hz.1 c2
  obtain⟨e1,e2,_,_⟩:=jr hg hon
  have hpos:0<=g.W*(y+d.2):=Int.mul_nonneg (by omega) (by have:=hon.2.1;omega)
  refine⟨0,rfl,by decide,?_⟩
  refine Qd ?_
  refine⟨1,rfl,by decide,?_⟩
  refine Qd ?_
  refine Qd ?_
  refine Qd ?_
  refine⟨i,rfl,hlt,?_⟩
  refine bleK (by
   show 0+i*1+1<=(zo (il 8 (zjj g t i)) (0+i*1) [int (-1)]).length
   rw[show 0+i*1=i by omega,zex hlt,yz];omega) ?_
  refine jb ?_
  refine Qd ?_
  refine⟨i+1,?_,⟨by omega,rfl⟩,⟨Tq,Tq,Tq,Tq,Tq,Tq,Tv⟩,⟨rfl,?_,Tv⟩⟩
  ·show 8-(i+1)<8-i
   omega
  ·show some (zo (zo (il 8 (zjj g t i)) (0+i*1) [int (-1)]) (0+i*1) [int (x+d.1+g.W*(y+d.2))])=some (il 8 (zjj g t (i+1)))
   rw[show 0+i*1=i by omega,zex hlt,zex hlt,zh3,hst]
   rw[hbe]
   unfold jj
   rw[if_pos hon]
 ·have hon:¬onG g (x+d.1) (y+d.2):=fun hh=>by rw[hz.2 hh]at c2;cases c2
  refine Qd ?_
  refine⟨i+1,?_,⟨by omega,rfl⟩,⟨Tq,Tq,Tq,Tq,Tq,Tq,Tv⟩,⟨rfl,?_,Tv⟩⟩
  ·show 8-(i+1)<8-i
   omega
  ·show some (zo (il 8 (zjj g t i)) (0+i*1) [int (-1)])=some (il 8 (zjj g t (i+1)))
   rw[show 0+i*1=i by omega,zex hlt,hst]
   rw[hbe]
   unfold jj
   rw[if_neg hon]
theorem zmu{g:Gnd}(hg:gndP g){t:Nat}(ht:t<g.T.length):g.T[t].toNat<=5:=hg.2.2.2 _ (List.getElem_mem ht)
theorem zhf(g:Gnd)(c:Int){t:Nat}(ht:t<g.T.length):zi9 g c t=zb8 c g.T[t].toNat:=by
 unfold zi9
 rw[List.getD_eq_getElem?_getD,List.getElem?_eq_getElem ht]
 rfl
theorem zgx{g:Gnd}(hg:gndP g)(t:Nat){w:Nat}(hw:w<8):besN g t w<0\/∃u:Nat,besN g t w=(u:Int)/\u<g.T.length:=by
 rcases zuk hg (t:=t) hw with h|h
 ·exact .inl (by omega)
 ·exact .inr h
theorem zeg{g:Gnd}{ok:Nat->Bool}{c:Int}{t w:Nat}(h:zai ok (besN g t w)=false):y9 g ok c t w=0:=by
 unfold y9
 rw[h]
 simp
theorem zta{g:Gnd}{ok:Nat->Bool}{c:Int}{t w:Nat}(h:zai ok (besN g t w)=true)(hw:w<4):y9 g ok c t w=5*(zi9 g c t+zi9 g c (besN g t w).toNat):=by
 unfold y9
 rw[if_pos h,if_pos hw]
theorem ztb{g:Gnd}{ok:Nat->Bool}{c:Int}{t w:Nat}(h:zai ok (besN g t w)=true)(hw:¬w<4)(ha:zai ok (besN g t (zl3 w))=true)(hb:zai ok (besN g t (zl2 w))=true):y9 g ok c t w=7*(zi9 g c t+zi9 g c (besN g t w).toNat):=by
 unfold y9
 rw[if_pos h,if_neg hw,if_pos ⟨ha,hb⟩]
theorem zn0{g:Gnd}{ok:Nat->Bool}{c:Int}{t w:Nat}(hw:¬w<4)(ha:zai ok (besN g t (zl3 w))=false\/zai ok (besN g t (zl2 w))=false):y9 g ok c t w=0:=by
 unfold y9
 rw[if_neg hw]
 split
 ·rw[if_neg]
  rintro⟨h1,h2⟩
  rcases ha with ha|ha
  ·rw[ha]at h1;cases h1
  ·rw[ha]at h2;cases h2
 ·rfl
theorem vq{ok:Nat->Bool}{u:Int}(h:u<0):zai ok u=false:=by
 unfold zai
 rw[decide_eq_false (by omega)];rfl
theorem jm(ok:Nat->Bool)(u:Nat):zai ok (u:Int)=ok u:=by
 unfold zai
 rw[decide_eq_true (by omega),Int.toNat_natCast];rfl
set_option maxHeartbeats 2000000 in
set_option maxRecDepth 20000 in
theorem znz{S:Store}{nb:Nat}{g:Gnd}(hg:gndP g){l:List Bld}{c s:Int}(hn:S.obj nb=some (.cells (netC g l c s)))(t:Nat)(ht:t<g.T.length)(way:Nat)(hw:way<8)(R:AV->Store->Prop)
  (h:R (int (y9 g (zl g l c s) c t way)) S):ACalls Tryz.prog 287 [ptr nb,int (t:Nat),besV g t,int (way:Nat),.clos 285 []] S R:=by
 have hgl:∀u,u<g.T.length->u<(blL g.T.length (zl g l c s)).length:=fun u hu=>by rw[yu];exact hu
 have p1:=j1 c (g.T[t]).toNat
 refine Qa (c:=cfg 124) zc Tryz.func287 ?_
 refine⟨way,rfl,hw,?_⟩
 refine za _ (qc hw) ?_
 have hor:=zgx hg t hw
 have hlo:=fun h=>zta (g:=g) (ok:=zl g l c s) (c:=c) (t:=t) (w:=way) h
 have hhi:=fun h=>ztb (g:=g) (ok:=zl g l c s) (c:=c) (t:=t) (w:=way) h
 have hno:=zeg (g:=g) (ok:=zl g l c s) (c:=c) (t:=t) (w:=way)
 have hhn:=fun h=>zn0 (g:=g) (ok:=zl g l c s) (c:=c) (t:=t) (w:=way) h
 generalize y9 g (zl g l c s) c t way=E at*
 generalize hU:besN g t way=U at*
 refine bcd (fun c1=>?_) (fun c1=>?_)
 ·rw[hno (vq c1)]at h
  exact ret h
 obtain⟨u,rfl,hul⟩:∃u:Nat,U=(u:Int)/\u<g.T.length:=by
  rcases hor with h1|h1
  ·exact absurd h1 c1
  ·exact h1
 refine za (o:=S.obj nb) _ hn ?_
 refine⟨u,rfl,za _ (zj (hgl u hul)) ?_⟩
 rw[jy hul]
 refine yo ?_
 refine ze (fun c2=>?_) (fun c2=>?_)
 rotate_left
 ·rw[hno (by rw[jm,c2])]at h
  exact ret h
 refine zf5 _ _ _ ?_
 have hfu:zai (zl g l c s) (u:Int)=true:=by rw[jm,c2]
 rw[Int.toNat_natCast]at hlo hhi
 rw[zhf g c ht,zhf g c hul]at hlo hhi
 have p2:=j1 c (g.T[u]).toNat
 refine Qc zc ykt ?_
 refine za (o:=S.obj nb) _ hn ?_
 refine za (o:=S.obj nb) _ hn ?_
 refine⟨t,rfl,za _ (zj ht) ?_⟩
 refine za (o:=S.obj nb) _ hn ?_
 refine za (o:=S.obj nb) _ hn ?_
 refine⟨u,rfl,za _ (zj hul) ?_⟩
 refine⟨zfq c g.T[t] (zmu hg ht) _ _ ⟨?_,?_⟩,Tv⟩
 ·repeat(first|exact Tv|refine⟨rfl,?_⟩|refine⟨za (o:=S.obj nb) _ hn rfl,?_⟩)
 refine⟨zfq c g.T[u] (zmu hg hul) _ _ ⟨Qe,?_⟩,Tv⟩
 refine Qd ?_
 refine⟨⟨Tv,?_⟩,Tv⟩
 generalize zb8 c g.T[t].toNat=P1 at*
 generalize zb8 c g.T[u].toNat=P2 at*
 refine bcd (fun c3=>?_) (fun c3=>?_)
 ·refine Qd ?_
  rw[hlo hfu (by omega)]at h
  exact ret h
 have h4:¬way<4:=by omega
 have hsa:zl3 way<8:=by unfold zl3;omega
 have hsb:zl2 way<8:=by unfold zl2;omega
 refine zr0 way (by omega) hw _ _ ?_
 have hora:=zgx hg t hsa
 have horb:=zgx hg t hsb
 have hhi:=hhi hfu h4
 have hhn:=hhn h4
 have ha1:=qc (n:=8) (f:=besN g t) hsa
 have hb1:=qc (n:=8) (f:=besN g t) hsb
 generalize hA:zl3 way=wa at*
 generalize hB:zl2 way=wb at*
 generalize hUA:besN g t wa=ua at*
 generalize hUB:besN g t wb=ub at*
 refine Qc zc yks ?_
 refine⟨wa,rfl,hsa,?_⟩
 refine za _ ha1 ?_
 have no:zai (zl g l c s) ua=false\/zai (zl g l c s) ub=false->R (int 0) S:=fun hh=>by
  rw[hhn hh]at h
  exact h
 refine bcd (fun ca=>?_) (fun ca=>?_)
 ·refine⟨⟨Tv,?_⟩,Tv⟩
  refine⟨⟨Tv,?_⟩,Tv⟩
  exact ret (no (.inl (vq ca)))
 obtain⟨va,rfl,hva⟩:∃u:Nat,ua=(u:Int)/\u<g.T.length:=by
  rcases hora with h1|h1
  ·exact absurd h1 ca
  ·exact h1
 refine⟨wb,rfl,hsb,?_⟩
 refine za _ hb1 ?_
 refine bcd (fun cb=>?_) (fun cb=>?_)
 ·refine⟨⟨Tv,?_⟩,Tv⟩
  refine⟨⟨Tv,?_⟩,Tv⟩
  exact ret (no (.inr (vq cb)))
 obtain⟨vb,rfl,hvb⟩:∃u:Nat,ub=(u:Int)/\u<g.T.length:=by
  rcases horb with h1|h1
  ·exact absurd h1 cb
  ·exact h1
 refine za (o:=S.obj nb) _ hn ?_
 refine⟨wa,rfl,hsa,?_⟩
 refine za _ ha1 ?_
 refine⟨va,rfl,za _ (zj (hgl va hva)) ?_⟩
 rw[jy hva]
 refine yo ?_
 refine ze (fun da=>?_) (fun da=>?_)
 rotate_left
 ·refine⟨⟨Tv,?_⟩,Tv⟩
  refine⟨⟨Tv,?_⟩,Tv⟩
  exact ret (no (.inl (by rw[jm,da])))
 refine za (o:=S.obj nb) _ hn ?_
 refine⟨wb,rfl,hsb,?_⟩
 refine za _ hb1 ?_
 refine⟨vb,rfl,za _ (zj (hgl vb hvb)) ?_⟩
 rw[jy hvb]
 refine yo ?_
 refine ze (fun db=>?_) (fun db=>?_)
 rotate_left
 ·refine⟨⟨Tv,?_⟩,Tv⟩
  refine⟨⟨Tv,?_⟩,Tv⟩
  exact ret (no (.inr (by rw[jm,db])))
 refine⟨wa,rfl,hsa,?_⟩
 refine za _ ha1 ?_
 refine⟨zf5 _ _ _ ⟨Tv,?_⟩,Tv⟩
 refine⟨wb,rfl,hsb,?_⟩
 refine za _ hb1 ?_
 refine⟨zf5 _ _ _ ⟨Tv,?_⟩,Tv⟩
 refine Qd ?_
 rw[hhi (by rw[jm,da]) (by rw[jm,db])]at h
 exact ret h
theorem yut{G:Store}(R:AV->Store->Prop)(h:∀F p,QOf F p []->Disj F G->R (ptr p) (F.un G)):ACalls Tryz.prog 298 [] G R:=by
 have:=ACalls.frame (a:=Store.empty) (g:=G) (fun i h1=>by rcases h1 with h1|h1<;>exact absurd rfl h1) (zzp Store.empty (fun r a'=>∃p,r=ptr p/\QOf a' p []) (fun p hp=>⟨p,rfl,.inl ⟨zb _ _ _,rfl⟩⟩)) (R':=R) (fun r a' ⟨p,e,hc⟩ hd=>e▸h a' p hc hd)
 rwa [xt]at this
theorem zzk{F G:Store}{p:Nat}{l:List (Int×Int)}(hq:QOf F p l)(hl:l.length<=1000000)(hh:zbl l)(hd:Disj F G)(x:Int×Int)(R:AV->Store->Prop)
  (h:∀F' l',QOf F' p l'->zbl l'->l'.Perm (x::l)->Disj F' G->R (.tup []) (F'.un G)):ACalls Tryz.prog 299 [ptr p,int x.1,int x.2] (F.un G) R:=
 ACalls.frame hd (zvy hq hl hh x (fun r a'=>r=.tup []/\∃l',QOf a' p l'/\zbl l'/\l'.Perm (x::l)) (fun F' l' g1 g2 g3=>⟨rfl,l',g1,g2,g3⟩)) (R':=R) (fun r a' ⟨e,l',g1,g2,g3⟩ hd=>e▸h a' l' g1 g2 g3 hd)
theorem yr8{F G:Store}{p:Nat}{l:List (Int×Int)}(hq:QOf F p l)(hl:l.length<=1000000)(hh:zbl l)(hd:Disj F G)(R:AV->Store->Prop)
  (h:∀F' o l',QOf F' p l'->zbl l'->Disj F' G->l.Perm (o.toList++l')->(∀x,o=some x->∀e∈x::l',¬qlt e x)->(o=none->l'=[])->R (.tup [int (keyO o),int (valO o),V.bool o.isSome]) (F'.un G)):ACalls Tryz.prog 300 [ptr p] (F.un G) R:=
 ACalls.frame hd (zzl hq hl hh (fun r a'=>∃o l',r=.tup [int (keyO o),int (valO o),V.bool o.isSome]/\QOf a' p l'/\zbl l'/\l.Perm (o.toList++l')/\(∀x,o=some x->∀e∈x::l',¬qlt e x)/\(o=none->l'=[]))
  (fun e=>⟨none,[],rfl,e▸hq,e▸hh,by rw[e];exact List.Perm.refl _,fun x h=>(by cases h),fun _=>rfl⟩)
  (fun h0 F' l' g1 g2 g3=>⟨some (qat l 0),l',rfl,g1,g2,g3,fun x e=>by
   cases e
   exact fun e he=>yme hh e (g3.mem_iff.2 he),fun h=>(by cases h)⟩)) (R':=R) (fun r a' ⟨o,l',e,g1,g2,g3,g4,g5⟩ hd=>e▸h a' o l' g1 g2 hd g3 g4 g5)
set_option maxHeartbeats 4000000 in
set_option maxRecDepth 20000 in
theorem ybm{S:Store}{nb:Nat}{g:Gnd}(hg:gndP g){l:List Bld}{c s:Int}(hn:S.obj nb=some (.cells (netC g l c s)))(goal:Nat)(hgo:goal<g.T.length)(R:AV->Store->Prop)
  (h:∀b,Fresh S b->(∀u,-1<=farF g (zl g l c s) c goal u/\farF g (zl g l c s) c goal u<=2000000)->R (.s (.slice (some ⟨b,0,none⟩) g.T.length g.T.length)) (S.setObj b (.cells (il g.T.length (farF g (zl g l c s) c goal))))):
  ACalls Tryz.prog 284 [ptr nb,int (goal:Nat),.clos 285 []] S R:=by
 have ha:=zr hg
 have hT:g.T.length<=16384:=by omega
 have hgl:∀u,u<g.T.length->u<(blL g.T.length (zl g l c s)).length:=fun u hu=>by rw[yu];exact hu
 refine Qa (c:=cfg 121) zc Tryz.func284 ?_
 refine⟨by decide,?_⟩
 refine za (o:=S.obj nb) _ hn ?_
 show ACalls _ _ [_,int ((rws u8C g.T).length:Nat)] _ _
 rw[zk]
 refine zie (-1) g.T.length (by omega) (by omega) _ _ (fun b hf=>?_)
 have hnb:nb≠b:=fun e=>by rw[e,hf.1]at hn;cases hn
 have hn1:(S.setObj b (.cells (il g.T.length fun _=>-1))).obj nb=some (.cells (netC g l c s)):=(zd hnb).trans hn
 refine za (o:=(S.setObj b _).obj nb) _ hn1 ?_
 refine⟨goal,rfl,za _ (zj (hgl goal hgo)) ?_⟩
 rw[jy hgo]
 refine yo ?_
 refine ze (fun c1=>?_) (fun c1=>?_)
 rotate_left
 ·rw[ybu c1]at h
  exact ret (h b hf fun u=>⟨Int.le_refl (-1),show(-1:Int)<=2000000 by decide⟩)
 refine qr rfl (it:=ti60) (ie:=ti4) rfl rfl rfl rfl rfl (n:=g.T.length) ?_ ?_ (fun b2 hf2=>?_)
 ·show 1*_<=_;omega
 ·omega
 rw[zcx]
 have hbb:b≠b2:=fun e=>by
  have:=hf2.1
  rw[<-e,zb]at this;cases this
 have hst0:(S.setObj b (.cells (il g.T.length fun _=>-1))).setObj b2 (.cells (bl g.T.length fun _=>false))=fldS S b b2 g.T.length (fun _=>-1) (fun _=>false):=rfl
 rw[hst0]
 refine⟨goal,rfl,hgo,?_⟩
 refine zh (i:=ti2) (v:=int 0) (b:=b) (o:=0+goal*1) (l:=il g.T.length fun _=>-1) (st2:=fldS S b b2 g.T.length (updN (fun _=>-1) goal 0) (fun _=>false)) rfl rfl rfl (yt9 hbb _ _) (by rw[yz];omega) ?_ ?_
 ·rw[zew _ _ _ _ hgo,zue hbb]
 refine yut _ (fun F p hQ hdis=>?_)
 refine zzk hQ (by simp) (fun j h0 hj=>by simp at hj) hdis (0,(goal:Int)) _ (fun F l1 hQ hH hP hdis=>?_)
 have hd0:∀u,updN (fun _=>(-1:Int)) goal 0 u=if u=goal then 0 else -1:=fun u=>rfl
 have hDJ:=ysu (j7 g (zl g l c s) c) hgo hd0
 have hcb:=zlb hgo hd0
 have hback:∀F d dn,(Store.un F (fldS S b b2 g.T.length d dn)).Has (S.setObj b (.cells (il g.T.length d))):=fun F d dn=>ym4 hf hf2 hbb
 have hlen:l1.length<=1000000:=by rw[hP.length_eq];simp
 have hlen1:l1.length=1:=by rw[hP.length_eq];simp
 have hfo:=fun d dn=>yuz (n:=g.T.length) hf hf2 hn d dn
 have hfd:=fun d dn=>yt9 (S:=S) (n:=g.T.length) hbb d dn
 have hfn:=fun d dn=>yt8 (S:=S) (b:=b) (b2:=b2) (n:=g.T.length) d dn
 have hsd:=fun d d' dn=>zue (S:=S) (n:=g.T.length) hbb d d' dn
 have hsn:=fun d dn dn'=>ym2 (S:=S) (b:=b) (b2:=b2) (n:=g.T.length) d dn dn'
 have hdd:=fun(F:Store) d d' dn dn' (h:Disj F (fldS S b b2 g.T.length d dn))=>ym3 (d':=d') (dn':=dn') h
 generalize hd1:updN (fun _=>(-1:Int)) goal 0=d at*
 refine yr8 hQ hlen hH hdis _ (fun F' o l' g1 g2 g3 g4 g5 g6=>?_)
 refine AWp.loop (σ:=(Nat->Int)×(Nat->Bool)×Store×Option (Int×Int)×List (Int×Int)×Int) ⟨fun q=>[(0,.av (ptr nb)),(2,.av (.clos 285 [])),(7,.av (.s (.slice (some ⟨b,0,none⟩) g.T.length g.T.length))),(8,.av (.s (.slice (some ⟨b2,0,none⟩) g.T.length g.T.length))),(9,.av (ptr p)),(10,.av (int (keyO q.2.2.2.1))),(11,.av (int (valO q.2.2.2.1))),(12,.av (V.bool q.2.2.2.1.isSome))],fun _=>[],
  fun q st'=>st'=q.2.2.1.un (fldS S b b2 g.T.length q.1 q.2.1)/\QOf q.2.2.1 p q.2.2.2.2.1/\zbl q.2.2.2.2.1/\Disj q.2.2.1 (fldS S b b2 g.T.length q.1 q.2.1)/\DJ (j7 g (zl g l c s) c) g.T.length goal q.1 q.2.1 (q.2.2.2.1.toList++q.2.2.2.2.1) q.2.2.2.2.2 zg0∧
   (∀x,q.2.2.2.1=some x->∀e∈x::q.2.2.2.2.1,¬qlt e x)/\(q.2.2.2.1=none->q.2.2.2.2.1=[])/\zja g.T.length q.1/\9*zim g.T.length q.2.1+(q.2.2.2.1.toList++q.2.2.2.2.1).length<=9*g.T.length+1,fun q=>9*zim g.T.length q.2.1+(q.2.2.2.1.toList++q.2.2.2.2.1).length⟩ zc ?_ ?_
 ·refine⟨(d,fun _=>false,F',o,l',0),Tv,⟨rfl,g1,g2,g3,zsb hDJ (hP.symm.trans g4),g5,g6,hcb,?_⟩,⟨Tq,Tq,Tq,Tq,Tq,Tq,Tq,Tq,Tv⟩,Tv⟩
  have:=ymi g.T.length fun _=>false
  dsimp only
  rw[<-g4.length_eq]
  omega
 clear hdis
 clear g1 g2 g3 g4 g5 g6 hDJ hcb hQ hH hP hlen hlen1 hd0 hd1
 rintro⟨d,dn,F,o,q,cur⟩ st' ⟨rfl,hQ,hH,hdis,hDJ,hmin,hnil,hcb,hmu⟩
 dsimp only at hQ hH hdis hDJ hmin hnil hcb hmu⊢
 cases o with
 |none=>
  have:q=[]:=hnil rfl
  subst this
  have e:=zr5 c1 (yud hDJ)
  refine kx (Tt) (hback F d dn) ?_
  have:=h b hf
  rw[e]at this
  exact this fun u=>by
   have h1:=hDJ.lab u
   have h2:=zdg hcb u
   omega
 |some x=>
 obtain⟨t,ht,htn,hd0,hdx,hcx⟩:=hDJ.ent x (by simp)
 have hmin:=hmin x rfl
 have hlen:q.length<=1000000:=by
  simp only[Option.toList,List.length_append,List.length_singleton]at hmu
  omega
 have hxt:valO (some x)=(t:Int):=ht
 have hq9:(Option.toList (some x)++q).length=q.length+1:=by simp
 rw[hq9]at hmu
 rw[hxt]
 refine⟨t,rfl,htn,?_⟩
 refine za (o:=(F.un (fldS S b b2 g.T.length d dn)).obj b2) _ (un_r (hfn d dn)) ?_
 refine za _ (zm3 htn) ?_
 cases hdt:dn t with
 |true=>
  have hDJ2:=yst (q':=q) hDJ ht (List.Perm.refl _) hdt
  refine yr8 hQ hlen hH hdis _ (fun F' o l' g1 g2 g3 g4 g5 g6=>?_)
  refine⟨(d,dn,F',o,l',cur),?_,⟨rfl,g1,g2,g3,zsb (hDJ2) g4,g5,g6,hcb,?_⟩,⟨Tq,Tq,Tq,Tq,Tq,Tq,Tq,Tq,Tv⟩,Tv⟩
  ·show 9*zim g.T.length (dn)+(o.toList++l').length<9*zim g.T.length dn+(Option.toList (some x)++q).length
   rw[<-g4.length_eq,hq9]
   omega
  ·dsimp only
   rw[<-g4.length_eq]
   omega
 |false=>
 obtain⟨hk,hDJ1⟩:=yss (q':=q) hDJ ht (List.Perm.refl _) hmin hdt
 have hopen:=zz3 htn hdt
 have hokt:=yu0 hDJ c1 hd0
 refine⟨t,rfl,htn,?_⟩
 refine zh (i:=ti4) (v:=V.bool true) (b:=b2) (o:=0+t*1) (l:=bl g.T.length dn) (st2:=F.un (fldS S b b2 g.T.length d (updN dn t true))) rfl rfl rfl (un_r (hfn d dn)) (by rw[jg];omega) ?_ ?_
 ·rw[ycg _ _ _ _ htn,zi,hsn]
 refine za (o:=(F.un (fldS S b b2 g.T.length d (updN dn t true))).obj nb) _ (un_r (hfo _ _)) ?_
 refine vl g hg t htn _ _ ?_
 have hdis:=hdd F d d dn (updN dn t true) hdis
 have hDJ:=zuy hDJ1
 have hdn1:updN dn t true t=true:=z7 _ _ _
 have hbig:=zdg hcb t
 have hbn:=fun(w:Nat) (hw:w<8)=>zuk hg (t:=t) hw
 refine AWp.loop (σ:=Nat×(Nat->Int)×Store×List (Int×Int)) ⟨fun y=>[(0,.av (ptr nb)),(2,.av (.clos 285 [])),(7,.av (.s (.slice (some ⟨b,0,none⟩) g.T.length g.T.length))),(8,.av (.s (.slice (some ⟨b2,0,none⟩) g.T.length g.T.length))),(9,.av (ptr p)),(10,.av (int x.1)),(11,.av (int (t:Nat))),(13,.bx 13 0),(70,.av (besV g t)),(71,.av (int (y.1:Nat)))],fun _=>[(13,il 8 (besN g t))],
  fun y st'=>y.1<=8/\st'=y.2.2.1.un (fldS S b b2 g.T.length y.2.1 (updN dn t true))/\QOf y.2.2.1 p y.2.2.2/\zbl y.2.2.2/\Disj y.2.2.1 (fldS S b b2 g.T.length y.2.1 (updN dn t true))/\DJ (j7 g (zl g l c s) c) g.T.length goal y.2.1 (updN dn t true) y.2.2.2 x.1 (wayO g (zl g l c s) c t y.1)/\y.2.1 t=x.1/\zja g.T.length y.2.1/\y.2.2.2.length<=q.length+y.1,fun y=>8-y.1⟩ zc ?_ ?_
 ·exact⟨(0,d,F,q),Tv,⟨Nat.zero_le _,rfl,hQ,hH,hdis,hDJ,hk.symm,hcb,Nat.le_refl _⟩,⟨Tq,Tq,Tq,Tq,Tq,Tq,Tq,Tq,Tq,Tq,Tv⟩,⟨rfl,Tv⟩⟩
 have hx0:0<=x.1:=by omega
 have hx1:x.1<=84*(g.T.length:Int):=by omega
 clear hQ hH hdis hDJ hDJ1 hcb hbig hmin hnil hd0 hdx
 rintro⟨i,d,F,m⟩ st' ⟨hi,rfl,hQ,hH,hdis,hDJ,hdt1,hcb,hml⟩
 dsimp only at hi hQ hH hdis hDJ hdt1 hcb hml⊢
 refine bcd (fun c2=>?_) (fun c2=>?_)
 rotate_left
 ·have:i=8:=by omega
  subst this
  have hlen:m.length<=1000000:=by omega
  have hDJ2:=yc3 hDJ
  refine yr8 hQ hlen hH hdis _ (fun F' o l' g1 g2 g3 g4 g5 g6=>?_)
  refine⟨(d,updN dn t true,F',o,l',x.1),?_,⟨rfl,g1,g2,g3,zsb (hDJ2) g4,g5,g6,hcb,?_⟩,⟨Tq,Tq,Tq,Tq,Tq,Tq,Tq,Tq,Tv⟩,Tv⟩
  ·show 9*zim g.T.length (updN dn t true)+(o.toList++l').length<9*zim g.T.length dn+(Option.toList (some x)++q).length
   rw[<-g4.length_eq,hq9]
   omega
  ·dsimp only
   rw[<-g4.length_eq]
   omega
 have hlt:i<8:=by omega
 refine⟨i,rfl,hlt,?_⟩
 refine za _ (zey hlt) ?_
 refine znz hg (un_r (hfo _ _)) t htn i hlt _ ?_
 have hsb:=zly g (zl g l c s) c t i
 have hskip:=zhj hDJ
 have hedge:=zuh (g:=g) (ok:=zl g l c s) (c:=c) (t:=t) (way:=i) hokt htn hlt
 have hor:=hbn i hlt
 have hfr:0<y9 g (zl g l c s) c t i->0<=besN g t i:=fun hp=>(zml (zfm (g:=g) (ok:=zl g l c s) (c:=c) (t:=t) (way:=i) (by omega))).1
 generalize hC:y9 g (zl g l c s) c t i=C at*
 generalize hU:besN g t i=U at*
 -- nothing to note:on with the next way
 have next:(0<C->∀u:Nat,U=u->0<=d u/\d u<=d t+C)->∃y:Nat×(Nat->Int)×Store×List (Int×Int),8-y.1<8-i/\(y.1<=8/\F.un (fldS S b b2 g.T.length d (updN dn t true))=y.2.2.1.un (fldS S b b2 g.T.length y.2.1 (updN dn t true))/\QOf y.2.2.1 p y.2.2.2/\zbl y.2.2.2/\Disj y.2.2.1 (fldS S b b2 g.T.length y.2.1 (updN dn t true))/\DJ (j7 g (zl g l c s) c) g.T.length goal y.2.1 (updN dn t true) y.2.2.2 x.1 (wayO g (zl g l c s) c t y.1)/\y.2.1 t=x.1/\zja g.T.length y.2.1/\y.2.2.2.length<=q.length+y.1)/\y=(i+1,d,F,m):=fun hp=>
  ⟨(i+1,d,F,m),by dsimp only;omega,⟨by dsimp only;omega,rfl,hQ,hH,hdis,hskip (fun u hu hc=>hp hc u hu),hdt1,hcb,by dsimp only;omega⟩,rfl⟩
 refine bcd (fun c3=>?_) (fun c3=>?_)
 rotate_left
 ·obtain⟨y,f1,f2,rfl⟩:=next (fun hc=>absurd hc c3)
  refine Qd ?_
  exact⟨(i+1,d,F,m),f1,f2,⟨Tq,Tq,Tq,Tq,Tq,Tq,Tq,Tq,Tq,Tq,Tv⟩,⟨rfl,Tv⟩⟩
 have hU0:=hfr c3
 obtain⟨u,rfl,hul⟩:∃u:Nat,U=(u:Int)/\u<g.T.length:=by
  rcases hor with h1|h1
  ·omega
  ·exact h1
 rw[Int.toNat_natCast]at hedge
 have hedge:=hedge c3
 refine⟨u,rfl,hul,?_⟩
 refine za (o:=(F.un (fldS S b b2 g.T.length d (updN dn t true))).obj b2) _ (un_r (hfn d _)) ?_
 refine za _ (zm3 hul) ?_
 refine yo ?_
 refine ze (fun c4=>?_) (fun c4=>?_)
 ·obtain⟨y,f1,f2,rfl⟩:=next (fun hc v hv=>by
   have:v=u:=by omega
   subst this
   have:=hDJ.mono v c4
   omega)
  refine Qd ?_
  exact⟨(i+1,d,F,m),f1,f2,⟨Tq,Tq,Tq,Tq,Tq,Tq,Tq,Tq,Tq,Tq,Tv⟩,⟨rfl,Tv⟩⟩
 refine⟨u,rfl,hul,?_⟩
 refine za (o:=(F.un (fldS S b b2 g.T.length d (updN dn t true))).obj b) _ (un_r (hfd d _)) ?_
 refine za _ (qc hul) ?_
 refine bcd (fun c5=>?_) (fun c5=>?_)
 ·skip
  have hlow:d u<0\/d t+C<d u:=Or.inl c5
  have hcb2:=zdf hcb hul (t:=t) (u:=u) (c:=C) (by omega) (by omega) hlow
  rw[hdt1]at hcb2 hlow
  refine Qd ?_
  refine⟨u,rfl,hul,?_⟩
  refine zh (i:=ti2) (v:=int (x.1+C)) (b:=b) (o:=0+u*1) (l:=il g.T.length d) (st2:=F.un (fldS S b b2 g.T.length (updN d u (x.1+C)) (updN dn t true))) rfl rfl rfl (un_r (hfd d _)) (by rw[yz];omega) ?_ ?_
  ·rw[zew _ _ _ _ hul,zi,hsd]
  refine Qd ?_
  refine zzk hQ (by omega) hH (hdd F d (updN d u (x.1+C)) _ _ hdis) (x.1+C,(u:Int)) _ (fun F' m' e1 e2 e3 e4=>?_)
  have hnote:=yb3 zdd hDJ hdn1 hdt1 hul hedge c4 hlow e3
  have htu:t≠u:=fun e=>by subst e;rw[hdn1]at c4;cases c4
  have hC:=hC.symm
  refine Qd ?_
  refine⟨(i+1,updN d u (x.1+C),F',m'),?_,⟨by dsimp only;omega,rfl,e1,e2,e4,?_,?_,hcb2,?_⟩,⟨Tq,Tq,Tq,Tq,Tq,Tq,Tq,Tq,Tq,Tq,Tv⟩,⟨rfl,Tv⟩⟩
  ·show 8-(i+1)<8-i
   omega
  ·refine zhj hnote (fun v hv hc=>?_)
   have hvu:v=u:=by
    rw[hU]at hv
    omega
   subst hvu
   dsimp only
   rw[z7,yf htu,hdt1,<-hC]
   omega
  ·dsimp only
   rw[yf htu]
   exact hdt1
  ·dsimp only
   rw[e3.length_eq,List.length_cons]
   omega
 have hbig:=zdg hcb u
 refine Qd ?_
 refine⟨u,rfl,hul,?_⟩
 refine za (o:=(F.un (fldS S b b2 g.T.length d (updN dn t true))).obj b) _ (un_r (hfd d _)) ?_
 refine za _ (qc hul) ?_
 refine bcd (fun c6=>?_) (fun c6=>?_)
 ·skip
  have hlow:d u<0\/d t+C<d u:=Or.inr (show d t+C<d u by omega)
  have hcb2:=zdf hcb hul (t:=t) (u:=u) (c:=C) (by omega) (by omega) hlow
  rw[hdt1]at hcb2 hlow
  refine Qd ?_
  refine⟨u,rfl,hul,?_⟩
  refine zh (i:=ti2) (v:=int (x.1+C)) (b:=b) (o:=0+u*1) (l:=il g.T.length d) (st2:=F.un (fldS S b b2 g.T.length (updN d u (x.1+C)) (updN dn t true))) rfl rfl rfl (un_r (hfd d _)) (by rw[yz];omega) ?_ ?_
  ·rw[zew _ _ _ _ hul,zi,hsd]
  refine Qd ?_
  refine zzk hQ (by omega) hH (hdd F d (updN d u (x.1+C)) _ _ hdis) (x.1+C,(u:Int)) _ (fun F' m' e1 e2 e3 e4=>?_)
  have hnote:=yb3 zdd hDJ hdn1 hdt1 hul hedge c4 hlow e3
  have htu:t≠u:=fun e=>by subst e;rw[hdn1]at c4;cases c4
  have hC:=hC.symm
  refine Qd ?_
  refine⟨(i+1,updN d u (x.1+C),F',m'),?_,⟨by dsimp only;omega,rfl,e1,e2,e4,?_,?_,hcb2,?_⟩,⟨Tq,Tq,Tq,Tq,Tq,Tq,Tq,Tq,Tq,Tq,Tv⟩,⟨rfl,Tv⟩⟩
  ·show 8-(i+1)<8-i
   omega
  ·refine zhj hnote (fun v hv hc=>?_)
   have hvu:v=u:=by
    rw[hU]at hv
    omega
   subst hvu
   dsimp only
   rw[z7,yf htu,hdt1,<-hC]
   omega
  ·dsimp only
   rw[yf htu]
   exact hdt1
  ·dsimp only
   rw[e3.length_eq,List.length_cons]
   omega
 obtain⟨y,f1,f2,rfl⟩:=next (fun hc v hv=>by
  have:v=u:=by omega
  subst this
  omega)
 refine Qd ?_
 exact⟨(i+1,d,F,m),f1,f2,⟨Tq,Tq,Tq,Tq,Tq,Tq,Tq,Tq,Tq,Tq,Tv⟩,⟨rfl,Tv⟩⟩
set_option maxHeartbeats 4000000 in
set_option maxRecDepth 20000 in
theorem zhs{S:Store}{nb:Nat}{g:Gnd}(hg:gndP g){l:List Bld}{c s:Int}(hn:S.obj nb=some (.cells (netC g l c s)))(goal:Nat)(hgo:goal<g.T.length)(R:AV->Store->Prop)
  (h:∀b,Fresh S b->R (.s (.slice (some ⟨b,0,none⟩) g.T.length g.T.length)) (S.setObj b (.cells (il g.T.length (wayF g (zl g l c s) c (farF g (zl g l c s) c goal)))))):
  ACalls Tryz.prog 275 [ptr nb,int (goal:Nat)] S R:=by
 have ha:=zr hg
 have hT:g.T.length<=16384:=by omega
 refine Qa (c:=cfg 71) zc Tryz.func275 ?_
 refine ybm hg hn goal hgo _ (fun b hf hdb=>?_)
 generalize farF g (zl g l c s) c goal=d at*
 refine⟨by decide,?_⟩
 refine zie (-1) g.T.length (by omega) (by omega) _ _ (fun b2 hf2=>?_)
 have hbb:b≠b2:=fun e=>by
  have:=hf2.1
  rw[<-e,zb]at this;cases this
 rw[<-zuw g (zl g l c s) c d]
 have hfo:=fun f=>yuk (n:=g.T.length) hf hf2 hn d f
 have hfd:=fun f=>yum (S:=S) (n:=g.T.length) hbb d f
 have hsf:=fun f f'=>yc8 (S:=S) (b:=b) (b2:=b2) (n:=g.T.length) d f f'
 have hff:=fun f=>yul (S:=S) (b:=b) (b2:=b2) (n:=g.T.length) d f
 refine AWp.loop (σ:=Nat) ⟨fun i=>[(0,.av (ptr nb)),(5,.av (.s (.slice (some ⟨b,0,none⟩) g.T.length g.T.length))),(6,.av (.s (.slice (some ⟨b2,0,none⟩) g.T.length g.T.length))),(20,.av (.s (.slice (some ⟨b,0,none⟩) g.T.length g.T.length))),(21,.av (int (g.T.length:Nat))),(22,.av (int (i:Nat)))],fun _=>[],
  fun i st'=>i<=g.T.length/\st'=twoS S b b2 g.T.length d (zdk g (zl g l c s) c d i),fun i=>g.T.length-i⟩ zc ?_ ?_
 ·exact⟨0,Tv,⟨Nat.zero_le _,rfl⟩,⟨Tq,Tq,Tq,Tq,Tq,Tq,Tv⟩,Tv⟩
 rintro i st' ⟨hi,rfl⟩
 refine bcd (fun c1=>?_) (fun c1=>?_)
 rotate_left
 ·have:i=g.T.length:=by omega
  subst this
  refine kx (Tt) (yc9 hf hbb _ _) ?_
  rw[zx2]
  exact h b2 (zyf hbb hf2)
 have hlt:i<g.T.length:=by omega
 -- on with the next tile
 have next:∀f,f=zdk g (zl g l c s) c d (i+1)->∃k:Nat,g.T.length-k<g.T.length-i/\(k<=g.T.length/\twoS S b b2 g.T.length d f=twoS S b b2 g.T.length d (zdk g (zl g l c s) c d k))/\k=i+1:=fun f e=>⟨i+1,by omega,⟨by omega,by rw[e]⟩,rfl⟩
 refine⟨i,rfl,hlt,?_⟩
 refine za (o:=(twoS S b b2 g.T.length d _).obj b) _ (hfd _) ?_
 refine za _ (qc hlt) ?_
 refine bcd (fun c2=>?_) (fun c2=>?_)
 ·obtain⟨k,f1,f2,rfl⟩:=next _ (zj4 (zsx c2)).symm
  refine Qd ?_
  exact⟨i+1,f1,f2,⟨Tq,Tq,Tq,Tq,Tq,Tq,Tv⟩,Tv⟩
 refine za (o:=(twoS S b b2 g.T.length d _).obj nb) _ (hfo _) ?_
 refine vl g hg i hlt _ _ ?_
 refine AWp.loop (σ:=Nat) ⟨fun j=>[(0,.av (ptr nb)),(5,.av (.s (.slice (some ⟨b,0,none⟩) g.T.length g.T.length))),(6,.av (.s (.slice (some ⟨b2,0,none⟩) g.T.length g.T.length))),(7,.av (int (i:Nat))),(8,.av (int (d i))),(9,.bx 9 0),(20,.av (.s (.slice (some ⟨b,0,none⟩) g.T.length g.T.length))),(21,.av (int (g.T.length:Nat))),(22,.av (int (i:Nat))),(35,.av (besV g i)),(36,.av (int (j:Nat)))],fun _=>[(9,il 8 (besN g i))],
  fun j st'=>j<=8/\st'=twoS S b b2 g.T.length d (zdk g (zl g l c s) c d i)/\∀w,w<j->¬jl g (zl g l c s) c d i w,fun j=>8-j⟩ zc ?_ ?_
 ·exact⟨0,Tv,⟨Nat.zero_le _,rfl,fun w hw=>absurd hw (Nat.not_lt_zero w)⟩,⟨Tq,Tq,Tq,Tq,Tq,Tq,Tq,Tq,Tq,Tq,Tq,Tv⟩,⟨rfl,Tv⟩⟩
 rintro j st' ⟨hj,rfl,hno⟩
 refine bcd (fun c3=>?_) (fun c3=>?_)
 rotate_left
 ·have:j=8:=by omega
  subst this
  obtain⟨k,f1,f2,rfl⟩:=next _ (zj4 (zni c2 hno)).symm
  refine Qd ?_
  exact⟨i+1,f1,f2,⟨Tq,Tq,Tq,Tq,Tq,Tq,Tv⟩,Tv⟩
 have hj8:j<8:=by omega
 have hskip:¬jl g (zl g l c s) c d i j->∃k:Nat,8-k<8-j/\(k<=8/\twoS S b b2 g.T.length d (zdk g (zl g l c s) c d i)=twoS S b b2 g.T.length d (zdk g (zl g l c s) c d i)/\∀w,w<k->¬jl g (zl g l c s) c d i w)/\k=j+1:=fun hh=>⟨j+1,by omega,⟨by omega,rfl,fun w hw=>by
  by_cases e:w=j
  ·subst e;exact hh
  ·exact hno w (by omega)⟩,rfl⟩
 have hyes:jl g (zl g l c s) c d i j->wayF g (zl g l c s) c d i=(j:Int):=fun hh=>znh c2 hj8 hh hno
 refine⟨j,rfl,hj8,?_⟩
 refine za _ (zey hj8) ?_
 refine znz hg (hfo _) i hlt j hj8 _ ?_
 have hsb:=zly g (zl g l c s) c i j
 have hor:=zuk hg (t:=i) hj8
 have hfr:0<y9 g (zl g l c s) c i j->0<=besN g i j:=fun hp=>(zml (zfm (g:=g) (ok:=zl g l c s) (c:=c) (t:=i) (way:=j) (by omega))).1
 unfold jl at hskip hyes
 generalize y9 g (zl g l c s) c i j=C at*
 generalize besN g i j=U at*
 refine bcd (fun c4=>?_) (fun c4=>?_)
 rotate_left
 ·obtain⟨k,f1,f2,rfl⟩:=hskip (fun hh=>c4 hh.1)
  refine Qd ?_
  exact⟨j+1,f1,f2,⟨Tq,Tq,Tq,Tq,Tq,Tq,Tq,Tq,Tq,Tq,Tq,Tv⟩,⟨rfl,Tv⟩⟩
 have hU0:=hfr c4
 obtain⟨u,rfl,hul⟩:∃u:Nat,U=(u:Int)/\u<g.T.length:=by
  rcases hor with h1|h1
  ·omega
  ·exact h1
 rw[Int.toNat_natCast]at hskip hyes
 have hdu:=hdb u
 refine⟨u,rfl,hul,?_⟩
 refine za (o:=(twoS S b b2 g.T.length d _).obj b) _ (hfd _) ?_
 refine za _ (qc hul) ?_
 refine bcd (fun c5=>?_) (fun c5=>?_)
 rotate_left
 ·obtain⟨k,f1,f2,rfl⟩:=hskip (fun hh=>c5 hh.2.1)
  refine Qd ?_
  exact⟨j+1,f1,f2,⟨Tq,Tq,Tq,Tq,Tq,Tq,Tq,Tq,Tq,Tq,Tq,Tv⟩,⟨rfl,Tv⟩⟩
 refine⟨u,rfl,hul,?_⟩
 refine za (o:=(twoS S b b2 g.T.length d _).obj b) _ (hfd _) ?_
 refine za _ (qc hul) ?_
 refine Qd ?_
 refine bceq (fun c6=>?_) (fun c6=>?_)
 rotate_left
 ·obtain⟨k,f1,f2,rfl⟩:=hskip (fun hh=>c6 hh.2.2)
  refine Qd ?_
  exact⟨j+1,f1,f2,⟨Tq,Tq,Tq,Tq,Tq,Tq,Tq,Tq,Tq,Tq,Tq,Tv⟩,⟨rfl,Tv⟩⟩
 have hw:=hyes ⟨c4,c5,c6⟩
 refine⟨i,rfl,hlt,?_⟩
 refine zh (i:=ti2) (v:=int (j:Nat)) (b:=b2) (o:=0+i*1) (l:=il g.T.length (zdk g (zl g l c s) c d i)) (st2:=twoS S b b2 g.T.length d (zdk g (zl g l c s) c d (i+1))) rfl rfl rfl (hff _) (by rw[yz];omega) ?_ ?_
 ·rw[zew _ _ _ _ hlt,hsf,zj5,hw]
 obtain⟨k,f1,f2,rfl⟩:=next _ rfl
 refine Qd ?_
 exact⟨i+1,f1,f2,⟨Tq,Tq,Tq,Tq,Tq,Tq,Tv⟩,Tv⟩
def zdn:AV:=.s (.iface 147 (.agg #[]))
structure MoverG(gv:AV)(F G:Store)(mb s p:Nat)(w:Wld)(v:AV)(L:List Ent)(o0 o1 o2:AV):Prop where
 S:StandR F G s p w v L o0 o1 o2
 hx:G.obj mb=some (.cells [ptr s,gv])
 ox:offB v mb
 os:offB v s
 hL:L.length<=w.U.length
 hF:zab w L
abbrev Mover(F G:Store)(mb s p:Nat)(w:Wld)(v:AV)(L:List Ent)(o0 o1 o2:AV):Prop:=MoverG zdn F G mb s p w v L o0 o1 o2
theorem MoverG.ne{gv:AV}{F G:Store}{mb s p:Nat}{w:Wld}{v:AV}{L:List Ent}{o0 o1 o2:AV}(h:MoverG gv F G mb s p w v L o0 o1 o2):mb≠s:=fun e=>by
 have:=h.S.hs
 rw[<-e,h.hx]at this
 cases this
theorem MoverG.m{gv:AV}{F F' G:Store}{mb s p:Nat}{w w':Wld}{v:AV}{L:List Ent}{o0 o1 o2 q0 q1 q2:AV}(h:MoverG gv F G mb s p w v L o0 o1 o2):(F'.un (svS G s w' v q0 q1 q2 p)).obj mb=some (.cells [ptr s,gv]):=
 un_r (by
  show(G.setObj s _).obj mb=_
  rw[zd h.ne]
  exact h.hx)
theorem MoverG.s{gv:AV}{F F' G:Store}{mb s p:Nat}{w:Wld}{v:AV}{L:List Ent}{o0 o1 o2 q0 q1 q2:AV}(h:MoverG gv F G mb s p w v L o0 o1 o2):(F'.un (svS G s w v q0 q1 q2 p)).obj s=some (.cells (svC w v q0 q1 q2 p)):=un_r (vz _ _ _ _ _ _ _ _)
theorem MoverG.put{gv:AV}{F G F' G':Store}{mb s p i:Nat}{w:Wld}{v:AV}{L:List Ent}{o0 o1 o2 q0 q1 q2:AV}(h:MoverG gv F G mb s p w v L o0 o1 o2)(hr:yh w.U)(hi:i<w.U.length){u:Unt}(hid:w.U[i].id=u.id)(g1:StandR F' G' s p {w with U:=w.U.set i u} v (entP L u) q0 q1 q2)
  (g2:∀q,offB v q->G'.obj q=G.obj q):MoverG gv F' G' mb s p (putU w u) v (entP L u) q0 q1 q2:=by
 rw[qw hr hi hid.symm]
 have hF3:=zrg h.hF hr hi (u:=u) hid
 refine⟨g1,by rw[g2 mb h.ox];exact h.hx,h.ox,h.os,?_,hF3⟩
 obtain⟨_,_,_,_,_,_,_,_,inv⟩:=g1.hc
 exact zrh inv.n1 hF3
theorem zcl{gv:AV}{F G:Store}{mb s p:Nat}{w:Wld}{v:AV}{L:List Ent}{o0 o1 o2:AV}(hW:MoverG gv F G mb s p w v L o0 o1 o2)(hm:MayF w)(hn:∀u∈w.U,u.pos.ok){i:Nat}(hi:i<w.U.length)(u:Unt)(hid:w.U[i].id=u.id)(hp:u.pos.ok)(R:AV->Store->Prop)
  (h:∀F' G' L',MoverG gv F' G' mb s p (putU w u) v L' o0 o1 o2->R (.tup []) (F'.un (svS G' s (putU w u) v o0 o1 o2 p))):
  ACalls Tryz.prog 111 [ptr s,.agg (untC u)] (F.un (svS G s w v o0 o1 o2 p)) R:=by
 have hU:=hm.hU
 refine ysb hW.S hW.os hm.hr (by omega) (by have:=hW.hL;omega) (zfr hW.hF hn) hi u hid hp R fun F' G' g1 g2=>?_
 have e:=qw (w:=w) hm.hr hi hid.symm
 have:=h F' G' _ (hW.put hm.hr hi hid g1 g2)
 rw[e]at this
 exact this
set_option maxHeartbeats 2000000 in
set_option maxRecDepth 20000 in
theorem zlu{gv:AV}{F G:Store}{mb s p:Nat}{w:Wld}{v:AV}{L:List Ent}{o0 o1 o2:AV}(hW:MoverG gv F G mb s p w v L o0 o1 o2)(hm:MayF w)(hn:∀u∈w.U,u.pos.ok){i:Nat}(hi:i<w.U.length)(d:Vc)(hd:d.ok)(R:AV->Store->Prop)
  (h:∀F' G' L' q0 q1 q2,MoverG gv F' G' mb s p (tryW w w.U[i] d) v L' q0 q1 q2->R (int (tryK w w.U[i] d)) (F'.un (svS G' s (tryW w w.U[i] d) v q0 q1 q2 p))):
  ACalls Tryz.prog 64 [ptr mb,.agg (untC w.U[i]),.agg (vecC d)] (F.un (svS G s w v o0 o1 o2 p)) R:=by
 have hU:=hm.hU
 have hB:=hm.hB
 have hnd:=ynx hd
 have hpk:=hn _ (List.getElem_mem hi)
 unfold tryW tryK at h
 have hhalf:=fun k=>ya9 hnd k
 have hzero:=fun n k=>zyg (w:=w) (u:=w.U[i]) (v:=vnrm d) (n:=n) (k:=k)
 have hnext:=fun n k=>zyi (w:=w) (u:=w.U[i]) (v:=vnrm d) (n:=n) (k:=k)
 have hsome:=fun n k=>zyh (w:=w) (u:=w.U[i]) (v:=vnrm d) (n:=n) (k:=k)
 have hhv:∀k,wj (vnrm d) k=((vnrm d).1.tdiv ((2^k:Nat):Int),(vnrm d).2.tdiv ((2^k:Nat):Int)):=fun k=>rfl
 refine Qa (c:=cfg 53) zc Tryz.func64 ?_
 refine zj7 d _ _ ?_
 generalize vnrm d=nd at*
 refine AWp.loop (σ:=Nat×Store×AV×AV×AV) ⟨fun x=>[(0,.av (ptr mb)),(4,.bx 4 0),(5,.bx 5 0),(12,.av (int (x.1:Nat)))],fun _=>[(4,untC w.U[i]),(5,vecC nd)],
  fun x st'=>x.1<=5/\st'=x.2.1.un (svS G s w v x.2.2.1 x.2.2.2.1 x.2.2.2.2 p)/\StandR x.2.1 G s p w v L x.2.2.1 x.2.2.2.1 x.2.2.2.2/\tryL w w.U[i] nd 5 0=tryL w w.U[i] nd (5-x.1) x.1,fun x=>5-x.1⟩ zc ?_ ?_
 ·exact⟨(0,F,o0,o1,o2),Tv,⟨Nat.zero_le _,rfl,hW.S,rfl⟩,⟨Tq,Tq,Tq,Tq,Tv⟩,⟨rfl,rfl,Tv⟩⟩
 rintro⟨k,F1,q0,q1,q2⟩ st' ⟨hk,rfl,hS1,hT⟩
 dsimp only at hk hS1 hT⊢
 refine bcd (fun c1=>?_) (fun c1=>?_)
 rotate_left
 ·have:k=5:=by omega
  subst this
  have hT:tryL w w.U[i] nd 5 0=none:=hT
  rw[hT]at h
  exact ret (h F1 G L q0 q1 q2 ⟨hS1,hW.hx,hW.ox,hW.os,hW.hL,hW.hF⟩)
 have hk5:k<5:=by omega
 obtain⟨n,hn5⟩:∃n,5-k=n+1:=⟨4-k,by omega⟩
 rw[hn5]at hT
 have hsh:=zyu hk5
 have hkv:=hhv k
 have hh:=hhalf k
 have hp2:((2^k:Nat):Int)≠0:=by have:0<2^k:=Nat.pow_pos (by decide);omega
 rw[<-hsh]at hkv hp2
 have hh1:yq (nd.1.tdiv (IntKind.i64.wrap (1*2^(min ((k:Int)).toNat IntKind.i64.bits)))):=by
  have:=hh.1
  rw[hkv]at this
  exact⟨by dsimp only at this;omega,by dsimp only at this;omega⟩
 have hh2:yq (nd.2.tdiv (IntKind.i64.wrap (1*2^(min ((k:Int)).toNat IntKind.i64.bits)))):=by
  have:=hh.2
  rw[hkv]at this
  exact⟨by dsimp only at this;omega,by dsimp only at this;omega⟩
 have hz0:=hzero n k
 have hnx:=hnext n k
 have hsm:=hsome n k
 refine Qc zc yrn ?_
 refine⟨by omega,?_⟩
 refine⟨hp2,in64 hh1 ?_⟩
 refine⟨by omega,?_⟩
 refine⟨hp2,in64 hh2 ?_⟩
 refine⟨⟨?_,?_⟩,Tv⟩
 ·repeat(first|exact Tv|refine⟨rfl,?_⟩|refine⟨⟨by omega,rfl⟩,?_⟩|refine⟨⟨hp2,in64 hh1 rfl⟩,?_⟩|refine⟨⟨hp2,in64 hh2 rfl⟩,?_⟩)
 refine⟨⟨Tv,?_⟩,Tv⟩
 rw[hkv]at hz0 hnx hsm hh
 generalize nd.1.tdiv (IntKind.i64.wrap (1*2^(min ((k:Int)).toNat IntKind.i64.bits)))=a at*
 generalize nd.2.tdiv (IntKind.i64.wrap (1*2^(min ((k:Int)).toNat IntKind.i64.bits)))=b at*
 refine ze (fun c2=>?_) (fun c2=>?_)
 ·have e:(a,b)=((0:Int),(0:Int)):=by
   simp only[Bool.and_eq_true,beq_iff_eq]at c2
   exact Prod.ext c2.1 c2.2.1
  rw[hz0 e]at hT
  rw[hT]at h
  exact ret (h F1 G L q0 q1 q2 ⟨hS1,hW.hx,hW.ox,hW.os,hW.hL,hW.hF⟩)
 have hne:(a,b)≠((0:Int),(0:Int)):=fun e=>by
  cases e
  exact absurd c2 (by decide)
 refine zno w.U[i].pos (a,b) hpk (ymp hh) _ _ ?_
 have hnp:=ymp (yn9 w.U[i].pos (a,b))
 have hnx:=hnx hne
 have hsm:=hsm hne
 generalize vadd w.U[i].pos (a,b)=np at*
 refine Qc zc yrm ?_
 refine za (o:=(F1.un (svS G s w v q0 q1 q2 p)).obj mb) _ hW.m ?_
 refine⟨zn2 hS1 hm.hg (by omega) hm.hb hm.hr (by omega) hn hW.hL hW.hF w.U[i].id w.U[i].kind np hnp _ (fun z F2 a0 a1 a2 hz hS2=>⟨Tv,?_⟩),Tv⟩
 refine ze (fun c3=>?_) (fun c3=>?_)
 rotate_left
 ·rw[hnx (fun hh=>by rw[hz.2 hh]at c3;cases c3)]at hT
  refine Qd ?_
  refine⟨(k+1,F2,a0,a1,a2),?_,⟨by dsimp only;omega,rfl,hS2,?_⟩,⟨Tq,Tq,Tq,Tq,Tv⟩,⟨rfl,rfl,Tv⟩⟩
  ·show 5-(k+1)<5-k
   omega
  ·show tryL w w.U[i] nd 5 0=tryL w w.U[i] nd (5-(k+1)) (k+1)
   rw[hT]
   congr 1
   omega
 rw[hsm (hz.1 c3)]at hT
 rw[hT]at h
 have hW2:MoverG gv F2 G mb s p w v L a0 a1 a2:=⟨hS2,hW.hx,hW.ox,hW.os,hW.hL,hW.hF⟩
 refine Qc zc ykg ?_
 refine za (o:=(F2.un (svS G s w v a0 a1 a2 p)).obj mb) _ hW.m ?_
 refine⟨zcl hW2 hm hn hi {w.U[i]with pos:=np} rfl hnp _ (fun F3 G3 L3 hW3=>⟨Tv,?_⟩),Tv⟩
 exact ret (h F3 G3 L3 a0 a1 a2 hW3)
theorem ze4{gv:AV}{F G:Store}{mb s p:Nat}{w:Wld}{v:AV}{L:List Ent}{o0 o1 o2:AV}(hW:MoverG gv F G mb s p w v L o0 o1 o2)(hm:MayF w)(hn:∀u∈w.U,u.pos.ok){i:Nat}(hi:i<w.U.length)(u:Unt)(hid:w.U[i].id=u.id)(hp:u.pos.ok)(z:Int)(R:AV->Store->Prop)
  (h:∀F' G' L',MoverG gv F' G' mb s p (putU w (endU z u)) v L' o0 o1 o2->R (.tup []) (F'.un (svS G' s (putU w (endU z u)) v o0 o1 o2 p))):
  ACalls Tryz.prog 142 [ptr mb,.agg (untC u),int z] (F.un (svS G s w v o0 o1 o2 p)) R:=by
 refine Qa (c:=cfg 17) zc Tryz.func142 ?_
 refine Qc zc ylo ?_
 refine za (o:=(F.un (svS G s w v o0 o1 o2 p)).obj mb) _ hW.m ?_
 refine⟨zcl hW hm hn hi (endU z u) hid hp _ (fun F3 G3 L3 hW3=>⟨Tv,?_⟩),Tv⟩
 exact ret (h F3 G3 L3 hW3)
set_option maxHeartbeats 2000000 in
set_option maxRecDepth 20000 in
theorem zo6{gv:AV}{F G:Store}{mb s p:Nat}{w:Wld}{v:AV}{L:List Ent}{o0 o1 o2:AV}(hW:MoverG gv F G mb s p w v L o0 o1 o2)(hm:MayF w)(hn:∀u∈w.U,u.pos.ok)(hmap:∀u∈w.U,u.inn=0->mapV u.pos){i:Nat}(hi:i<w.U.length)(h0:w.U[i].inn=0)(R:AV->Store->Prop)
  (h:∀F' G' L' q0 q1 q2,MoverG gv F' G' mb s p (zg3 w w.U[i]) v L' q0 q1 q2->R (.tup []) (F'.un (svS G' s (zg3 w w.U[i]) v q0 q1 q2 p))):
  ACalls Tryz.prog 88 [ptr mb,.agg (untC w.U[i])] (F.un (svS G s w v o0 o1 o2 p)) R:=by
 have hU:=hm.hU
 have hpu:=hmap _ (List.getElem_mem hi) h0
 have hkr:=zb5 w.U[i].kind
 have hks:=zdx w.U[i].kind
 have htiny:=zo5 hpu (fun x hx h1=>hmap x hx h1) hU
 have hidl:=fun(us:List Unt) (h1:zrj w w.U[i].pos (kRad w.U[i].kind+16384+81920) us) h2=>ysn (u:=w.U[i]) hm.hr h1 h2
 unfold zg3 at h
 refine Qa (c:=cfg 55) zc Tryz.func88 ?_
 refine zq _ _ _ ?_
 refine Qc zc yrj ?_
 refine za (o:=(F.un (svS G s w v o0 o1 o2 p)).obj mb) _ hW.m ?_
 refine Qd ?_
 refine⟨zh1 hW.S hm.hr (by omega) hn hW.hL hW.hF w.U[i].pos (qz hpu) (kRad w.U[i].kind+16384) (by omega) _ (fun F1 us hS1 hus hss hul=>⟨Tv,?_⟩),Tv⟩
 have hW1:MoverG gv F1 G mb s p w v L o0 o1 o2:=⟨hS1,hW.hx,hW.ox,hW.os,hW.hL,hW.hF⟩
 have hid:=hidl us hus hss
 have hnv:∀k,nV ((us.take k).foldl (xo w.U[i]) (0,0)):=fun k=>zot _ ⟨⟨by decide,by decide⟩,⟨by decide,by decide⟩⟩
 refine AWp.loop (σ:=Nat) ⟨fun k=>[(0,.av (ptr mb)),(3,.bx 3 0),(4,.bx 4 0),(5,.bx 5 0),(20,.av (lst 10 untC us)),(21,.av (int (us.length:Nat))),(22,.av (int (k:Nat)))],fun k=>[(3,untC w.U[i]),(4,zd0 w.U[i].kind),(5,vecC ((us.take k).foldl (xo w.U[i]) (0,0)))],
  fun k st'=>k<=us.length/\st'=F1.un (svS G s w v o0 o1 o2 p),fun k=>us.length-k⟩ zc ?_ ?_
 ·refine⟨0,Tv,⟨Nat.zero_le _,rfl⟩,⟨Tq,Tq,Tq,Tq,Tq,?_,Tq,Tv⟩,⟨rfl,rfl,rfl,Tv⟩⟩
  exact LV.le_int (by rw[zk])
 rintro k st' ⟨hk,rfl⟩
 refine bcd (fun c1=>?_) (fun c1=>?_)
 rotate_left
 ·have:k=us.length:=by omega
  have hv:(us.take k).foldl (xo w.U[i]) (0,0)=zcu w w.U[i]:=by
   rw[this,List.take_length,hid]
  rw[<-hv]at h htiny
  have hq4:(yp w.U[i].kind).tdiv 4=yp w.U[i].kind/4:=Int.tdiv_eq_ediv_of_nonneg (by omega)
  refine Qc zc yrh ?_
  refine⟨by decide,in64 (by rw[hq4];omega) ?_⟩
  refine⟨zdh ((us.take k).foldl (xo w.U[i]) (0,0)) ((yp w.U[i].kind).tdiv 4) htiny (by rw[hq4];omega) _ _ ⟨Qe,?_⟩,Tv⟩
  refine⟨zlu hW1 hm hn hi _ (vo htiny) _ (fun F3 G3 L3 a0 a1 a2 hW3=>⟨Tv,?_⟩),Tv⟩
  exact ret (h F3 G3 L3 a0 a1 a2 hW3)
 have hlt:k<us.length:=by omega
 have hx:=(hus us[k]).1 (List.getElem_mem hlt)
 have hpx:=hmap _ hx.1.1 hx.1.2
 have hkx:=zb5 us[k].kind
 refine⟨k,rfl,za _ (zj hlt) ?_⟩
 have hstep:(us.take (k+1)).foldl (xo w.U[i]) (0,0)=xo w.U[i] ((us.take k).foldl (xo w.U[i]) (0,0)) us[k]:=by
  rw[List.take_succ_eq_append_getElem hlt,List.foldl_append]
  rfl
 refine bcne (fun c2=>?_) (fun c2=>?_)
 rotate_left
 ·have hst:(us.take (k+1)).foldl (xo w.U[i]) (0,0)=(us.take k).foldl (xo w.U[i]) (0,0):=by
   rw[hstep]
   unfold xo
   rw[if_neg (fun hh=>hh c2)]
  refine Qd ?_
  refine⟨k+1,?_,⟨hlt,rfl⟩,⟨Tq,Tq,Tq,Tq,Tq,Tq,Tq,Tv⟩,⟨rfl,rfl,congrArg (fun x=>some (vecC x)) hst.symm,Tv⟩⟩
  show us.length-(k+1)<us.length-k
  omega
 have hst:(us.take (k+1)).foldl (xo w.U[i]) (0,0)=vadd ((us.take k).foldl (xo w.U[i]) (0,0)) (we w.U[i].pos (kRad w.U[i].kind+kRad us[k].kind+16384) us[k].pos):=by
  rw[hstep]
  unfold xo
  rw[if_pos c2]
 have hps:=zc8 hpu hpx (r:=kRad w.U[i].kind+kRad us[k].kind+16384) (by omega)
 have hnk:=hnv k
 refine Qc zc yri ?_
 refine⟨zq _ _ _ ⟨Qe,?_⟩,Tv⟩
 refine Qd ?_
 refine Qd ?_
 refine⟨zu9 w.U[i].pos (kRad w.U[i].kind+kRad us[k].kind+16384) us[k].pos hpu hpx (by omega) _ _ ⟨Qe,?_⟩,Tv⟩
 refine⟨zno _ _ (ymp hnk) ⟨⟨by omega,by omega⟩,⟨by omega,by omega⟩⟩ _ _ ⟨Qe,?_⟩,Tv⟩
 refine⟨⟨Qe,?_⟩,Tv⟩
 refine Qd ?_
 refine⟨k+1,?_,⟨hlt,rfl⟩,⟨Tq,Tq,Tq,Tq,Tq,Tq,Tq,Tv⟩,⟨rfl,rfl,congrArg (fun x=>some (vecC x)) hst.symm,Tv⟩⟩
 show us.length-(k+1)<us.length-k
 omega
theorem zok(w:World)(T:Nat->Nat->Prop):VRel w T (.agg []) (.agg #[]):=.agg [] #[] rfl (fun i x y hx=>by simp at hx)
theorem zv5 : zgj Tryz.prog 147 "Net" 326 false = true := by kernel_rfl
theorem zqm : zgj Tryz.prog 147 "Ways" 327 false = true := by kernel_rfl
theorem yaa : Meets Tryz.prog 147 (.agg #[]) "Net" 326 (.agg []) := Meets.valB zv5 zok
theorem zuu : Meets Tryz.prog 147 (.agg #[]) "Ways" 327 (.agg []) := Meets.valB zqm zok
theorem zzw(g:Gnd)(hg:gndP g)(l:List Bld)(hl:l.length<=1000000000000)(hb:∀b∈l,bldP b/\onP g b)(c s:Int)(hs:0<=s/\s<=3)(st:Store)(R:AV->Store->Prop)(h:∀b,Fresh st b->R (ptr b) (st.setObj b (.cells (netC g l c s)))):
  ACalls Tryz.prog 326 [.agg [],.agg (gndC g),lst 6 bldC l,int c,int s] st R:=by
 refine Qa (c:=cfg 16) zc Tryz.func326 ?_
 refine zf3 g hg l hl hb c s hs _ _ (fun b hf=>?_)
 exact ret (h b hf)
theorem zv1(g:Gnd)(hg:gndP g)(l:List Bld)(hl:l.length<=1000000000000)(hb:∀b∈l,bldP b/\onP g b)(c s:Int)(hs:0<=s/\s<=3)(goal:Nat)(hgo:goal<g.T.length)(st:Store)(R:AV->Store->Prop)
  (h:∀b,Fresh st b->R (.s (.slice (some ⟨b,0,none⟩) g.T.length g.T.length)) (st.setObj b (.cells (il g.T.length (wayF g (zl g l c s) c (farF g (zl g l c s) c goal)))))):
  ACalls Tryz.prog 327 [.agg [],.agg (gndC g),lst 6 bldC l,int c,int s,int (goal:Nat)] st R:=by
 refine Qa (c:=cfg 20) zc Tryz.func327 ?_
 refine zf3 g hg l hl hb c s hs _ _ (fun nb hf=>?_)
 refine zhs hg (zb _ _ _) goal hgo _ (fun b hf2=>?_)
 have hnb:nb≠b:=fun e=>by
  have:=hf2.1
  rw[<-e,zb]at this;cases this
 have hfb:Fresh st b:=by
  have:=hf2
  unfold Fresh at this⊢
  rw[zd (Ne.symm hnb)]at this
  exact this
 refine kx (Tt) ?_ (h b hfb)
 rw[jt (Ne.symm hnb)]
 refine qi ?_
 rw[zd hnb]
 exact hf.1
theorem zru{S:Store}{b n:Nat}{f:Nat->Int}(hb:S.obj b=some (.cells (il n f)))(hn:n<=1000000)(x:Int)(R:AV->Store->Prop)(h:∀r:Int,((0:Int)<=r↔(List.range n).any (fun j=>f j==x)=true)->R (int r) S):
  ACalls Tryz.prog 219 [.s (.slice (some ⟨b,0,none⟩) n n),int x] S R:=by
 refine Qa (c:=cfg 19) zc Tryz.func219 ?_
 refine AWp.loop (σ:=Nat) ⟨fun i=>[(0,.av (.s (.slice (some ⟨b,0,none⟩) n n))),(1,.av (int x)),(7,.av (int (n:Nat))),(8,.av (int (i:Nat)))],fun _=>[],
  fun i st'=>i<=n/\st'=S/\∀j,j<i->(f j==x)=false,fun i=>n-i⟩ zc ?_ ?_
 ·exact⟨0,Tv,⟨Nat.zero_le _,rfl,fun j hj=>absurd hj (Nat.not_lt_zero j)⟩,⟨Tq,Tq,Tq,Tq,Tv⟩,Tv⟩
 rintro i st' ⟨hi,rfl,hall⟩
 refine bcd (fun c1=>?_) (fun c1=>?_)
 rotate_left
 ·have:i=n:=by omega
  subst this
  refine ret (h (-1) ?_)
  rw[ynr hall]
  simp
 have hlt:i<n:=by omega
 refine⟨i,rfl,hlt,?_⟩
 refine za (o:=st'.obj b) _ hb ?_
 refine za _ (qc hlt) ?_
 refine bceq (fun c2=>?_) (fun c2=>?_)
 ·refine ret (h i ?_)
  rw[ycw hlt (by rw[c2];simp)]
  simp
 ·refine Qd ?_
  refine⟨i+1,?_,⟨by omega,rfl,fun j hj=>?_⟩,⟨Tq,Tq,Tq,Tq,Tv⟩,Tv⟩
  ·show n-(i+1)<n-i
   omega
  ·by_cases e:j=i
   ·subst e
    rw[beq_eq_false_iff_ne]
    exact fun e=>c2 e.symm
   ·exact hall j (by omega)
theorem zdr{S:Store}{b n:Nat}{f:Nat->Int}(hb:S.obj b=some (.cells (il n f)))(hn:n<=1000000)(x:Int)(R:AV->Store->Prop)(h:R (V.bool ((List.range n).any (fun j=>f j==x))) S):
  ACalls Tryz.prog 187 [.s (.slice (some ⟨b,0,none⟩) n n),int x] S R:=by
 refine Qa (c:=cfg 9) zc Tryz.func187 ?_
 refine zru hb hn x _ (fun r hr=>?_)
 have e:decide (r>=0)=(List.range n).any (fun j=>f j==x):=by
  rw[Bool.eq_iff_iff,decide_eq_true_iff]
  exact hr
 rw[<-e]at h
 exact ret h
set_option maxHeartbeats 4000000 in
set_option maxRecDepth 20000 in
theorem zwa{S:Store}{mb s p:Nat}{w:Wld}{v o0 o1 o2:AV}(hmb:S.obj mb=some (.cells [ptr s,zdn]))(hs:S.obj s=some (.cells (svC w v o0 o1 o2 p)))(hm:MayF w)(u:Unt)(hnx:u.next=-1\/∃t:Nat,u.next=t/\t<w.G.T.length)(own:Nat)(ho:own<w.G.T.length)(R:AV->Store->Prop)
  (h:R (V.bool (xq w u own)) S):ACalls Tryz.prog 144 [ptr mb,.agg (untC u),int (own:Nat)] S R:=by
 have hB:=hm.hB
 unfold xq okU at h
 refine Qb (c:=cfg 77 [9] []) zc Tryz.func144 ?_
 refine AWp.seq (AWp.of_vc zc ?_)
 refine AWp.meet (σ:=Unit) ⟨fun _=>[(0,.av (ptr mb)),(2,.av (int (own:Nat))),(4,.bx 4 0),(7,.bx 7 0),(8,.bx 8 0)],fun _=>[(4,untC u),(7,gndC w.G),(8,zd0 u.kind)],fun _ st'=>st'=S⟩ zc ?_ ?_
 ·refine Qc zc ztn ?_
  refine za (o:=S.obj mb) _ hmb ?_
  refine za (o:=S.obj s) _ hs ?_
  exact⟨zq _ _ _ ⟨Qe,⟨⟨Qe,⟨⟨Qe,⟨⟨Tv,⟨⟨Tv,⟨(),rfl,⟨Tq,Tq,Tq,Tq,Tq,Tv⟩,⟨rfl,rfl,rfl,Tv⟩⟩⟩,Tv⟩⟩,Tv⟩⟩,Tv⟩⟩,⟨⟨Qe,⟨⟨Qe,⟨⟨Tv,⟨⟨Tv,⟨(),rfl,⟨Tq,Tq,Tq,Tq,Tq,Tv⟩,⟨rfl,rfl,rfl,Tv⟩⟩⟩,Tv⟩⟩,Tv⟩⟩,Tv⟩⟩,Tv⟩⟩⟩,⟨⟨Qe,⟨zq _ _ _ ⟨Qe,⟨⟨Qe,⟨⟨Tv,⟨⟨Tv,⟨(),rfl,⟨Tq,Tq,Tq,Tq,Tq,Tv⟩,⟨rfl,rfl,rfl,Tv⟩⟩⟩,Tv⟩⟩,Tv⟩⟩,Tv⟩⟩,⟨⟨Qe,⟨zq _ _ _ ⟨Qe,⟨⟨Tv,⟨⟨Tv,⟨(),rfl,⟨Tq,Tq,Tq,Tq,Tq,Tv⟩,⟨rfl,rfl,rfl,Tv⟩⟩⟩,Tv⟩⟩,Tv⟩⟩,Tv⟩⟩,Tv⟩⟩⟩,⟨⟨Qe,⟨zq _ _ _ ⟨Qe,⟨⟨Qe,⟨⟨Tv,⟨⟨Tv,⟨(),rfl,⟨Tq,Tq,Tq,Tq,Tq,Tv⟩,⟨rfl,rfl,rfl,Tv⟩⟩⟩,Tv⟩⟩,Tv⟩⟩,Tv⟩⟩,⟨⟨Qe,⟨zq _ _ _ ⟨Qe,⟨⟨Tv,⟨⟨Tv,⟨(),rfl,⟨Tq,Tq,Tq,Tq,Tq,Tv⟩,⟨rfl,rfl,rfl,Tv⟩⟩⟩,Tv⟩⟩,Tv⟩⟩,Tv⟩⟩,Tv⟩⟩⟩,Tv⟩⟩⟩
 rintro _ st' rfl
 refine AWp.of_vc zc ?_
 have hk:=zf0 u.kind
 refine Qc zc ztm ?_
 refine bceq (fun c1=>?_) (fun c1=>?_)
 ·refine⟨⟨Qe,?_⟩,Tv⟩
  refine⟨⟨Qe,?_⟩,Tv⟩
  rw[decide_eq_true c1]at h
  exact ret h
 obtain⟨t,ht,htl⟩:∃t:Nat,u.next=t/\t<w.G.T.length:=by
  rcases hnx with h1|h1
  ·exact absurd h1 c1
  ·exact h1
 rw[decide_eq_false c1,ht,Int.toNat_natCast]at h
 refine⟨zcm w.G hm.hg t htl u.next ht _ _ ⟨Qe,?_⟩,Tv⟩
 refine ze (fun c2=>?_) (fun c2=>?_)
 ·refine⟨⟨Qe,?_⟩,Tv⟩
  have e:u.pos=cenV w.G t:=by
   simp only[Bool.and_eq_true,beq_iff_eq]at c2
   exact Prod.ext c2.1 c2.2.1
  rw[decide_eq_true e]at h
  exact ret h
 have e:¬u.pos=cenV w.G t:=fun e=>by
  simp only[e,Bool.and_eq_false_iff,beq_eq_false_iff_ne]at c2
  rcases c2 with c2|c2|c2
  ·exact c2 rfl
  ·exact c2 rfl
  ·cases c2
 rw[decide_eq_false e]at h
 refine za (o:=st'.obj mb) _ hmb ?_
 refine za (o:=st'.obj mb) _ hmb ?_
 refine za (o:=st'.obj s) _ hs ?_
 refine⟨⟨_,_,yaa,zzw w.G hm.hg w.B (by omega) hm.hb (kCls u.kind) (yy u.kind) hk _ _ (fun b hf=>⟨Qe,?_⟩)⟩,Tv⟩
 have hmb2:(st'.setObj b (.cells (netC w.G w.B (kCls u.kind) (yy u.kind)))).obj b=some (.cells (netC w.G w.B (kCls u.kind) (yy u.kind))):=zb _ _ _
 have hback:(st'.setObj b (.cells (netC w.G w.B (kCls u.kind) (yy u.kind)))).Has st':=qi hf.1
 generalize st'.setObj b (.cells (netC w.G w.B (kCls u.kind) (yy u.kind)))=S2 at*
 refine za (o:=S2.obj b) _ hmb2 ?_
 have htl2:t<(blL w.G.T.length (zl w.G w.B (kCls u.kind) (yy u.kind))).length:=by rw[yu];exact htl
 refine⟨t,ht,za _ (zj htl2) ?_⟩
 rw[jy htl]
 refine yo ?_
 refine ze (fun c3=>?_) (fun c3=>?_)
 rotate_left
 ·rw[c3]at h
  exact kx (Tt) hback h
 rw[c3]at h
 refine vl w.G hm.hg own ho _ _ ?_
 intro b9 hf9
 have e9:zo (List.replicate 8 (int 0)) 0 (il 8 (besN w.G own))=il 8 (besN w.G own):=by
  unfold zo
  rw[yz]
  simp
 refine yk (i:=ti153) (v:=besV w.G own) (xs:=il 8 (besN w.G own)) (l:=List.replicate 8 (int 0)) rfl rfl rfl (zb _ _ _) (by rw[yz,List.length_replicate];decide) ?_
 rw[e9,zg]
 have h9:(S2.setObj b9 (.cells (il 8 (besN w.G own)))).obj b9=some (.cells (il 8 (besN w.G own))):=zb _ _ _
 have hback2:(S2.setObj b9 (.cells (il 8 (besN w.G own)))).Has st':=(qi hf9.1).trans hback
 generalize S2.setObj b9 (.cells (il 8 (besN w.G own)))=S3 at*
 rw[zt0]at h
 refine Qc zc ztl ?_
 refine bcne (fun c4=>?_) (fun c4=>?_)
 rotate_left
 ·refine⟨⟨Qe,?_⟩,Tv⟩
  refine⟨⟨Tv,?_⟩,Tv⟩
  rw[decide_eq_false (fun hh=>hh (ht.symm.trans c4))]at h
  exact kx (Tt) hback2 h
 refine⟨zdr h9 (by decide) u.next _ ⟨Qe,?_⟩,Tv⟩
 refine⟨⟨Tv,?_⟩,Tv⟩
 rw[decide_eq_true (show(t:Int)≠(own:Int)from fun hh=>c4 (ht.trans hh))]at h
 rw[ht]
 exact kx (Tt) hback2 h
set_option maxHeartbeats 4000000 in
set_option maxRecDepth 20000 in
theorem zz9{S:Store}{mb s p:Nat}{w:Wld}{v o0 o1 o2:AV}(hmb:S.obj mb=some (.cells [ptr s,zdn]))(hs:S.obj s=some (.cells (svC w v o0 o1 o2 p)))(hm:MayF w)(u:Unt)(goal:Nat)(hgo:u.goal=goal)(hgl:goal<w.G.T.length)(own:Nat)(ho:own<w.G.T.length)(R:AV->Store->Prop)
  (h:R (int (wg w u own)) S):ACalls Tryz.prog 145 [ptr mb,.agg (untC u),int (own:Nat)] S R:=by
 have hB:=hm.hB
 unfold wg okU at h
 have hk:=zf0 u.kind
 rw[hgo,Int.toNat_natCast]at h
 refine Qb (c:=cfg 60) zc Tryz.func145 ?_
 refine AWp.seq (AWp.of_vc zc ?_)
 refine AWp.meet (σ:=Unit) ⟨fun _=>[(0,.av (ptr mb)),(2,.av (int (own:Nat))),(4,.bx 4 0),(7,.bx 7 0),(8,.bx 8 0)],fun _=>[(4,untC u),(7,gndC w.G),(8,zd0 u.kind)],fun _ st'=>st'=S⟩ zc ?_ ?_
 ·refine Qc zc ztk ?_
  refine za (o:=S.obj mb) _ hmb ?_
  refine za (o:=S.obj s) _ hs ?_
  exact⟨zq _ _ _ ⟨Qe,⟨⟨Qe,⟨⟨Qe,⟨⟨Tv,⟨⟨Tv,⟨(),rfl,⟨Tq,Tq,Tq,Tq,Tq,Tv⟩,⟨rfl,rfl,rfl,Tv⟩⟩⟩,Tv⟩⟩,Tv⟩⟩,Tv⟩⟩,⟨⟨Qe,⟨⟨Qe,⟨⟨Tv,⟨⟨Tv,⟨(),rfl,⟨Tq,Tq,Tq,Tq,Tq,Tv⟩,⟨rfl,rfl,rfl,Tv⟩⟩⟩,Tv⟩⟩,Tv⟩⟩,Tv⟩⟩,Tv⟩⟩⟩,⟨⟨Qe,⟨zq _ _ _ ⟨Qe,⟨⟨Qe,⟨⟨Tv,⟨⟨Tv,⟨(),rfl,⟨Tq,Tq,Tq,Tq,Tq,Tv⟩,⟨rfl,rfl,rfl,Tv⟩⟩⟩,Tv⟩⟩,Tv⟩⟩,Tv⟩⟩,⟨⟨Qe,⟨zq _ _ _ ⟨Qe,⟨⟨Tv,⟨⟨Tv,⟨(),rfl,⟨Tq,Tq,Tq,Tq,Tq,Tv⟩,⟨rfl,rfl,rfl,Tv⟩⟩⟩,Tv⟩⟩,Tv⟩⟩,Tv⟩⟩,Tv⟩⟩⟩,⟨⟨Qe,⟨zq _ _ _ ⟨Qe,⟨⟨Qe,⟨⟨Tv,⟨⟨Tv,⟨(),rfl,⟨Tq,Tq,Tq,Tq,Tq,Tv⟩,⟨rfl,rfl,rfl,Tv⟩⟩⟩,Tv⟩⟩,Tv⟩⟩,Tv⟩⟩,⟨⟨Qe,⟨zq _ _ _ ⟨Qe,⟨⟨Tv,⟨⟨Tv,⟨(),rfl,⟨Tq,Tq,Tq,Tq,Tq,Tv⟩,⟨rfl,rfl,rfl,Tv⟩⟩⟩,Tv⟩⟩,Tv⟩⟩,Tv⟩⟩,Tv⟩⟩⟩,Tv⟩⟩⟩
 rintro _ st' rfl
 refine AWp.of_vc zc ?_
 refine Qc zc ztj ?_
 refine⟨zcm w.G hm.hg own ho (own:Nat) rfl _ _ ⟨Qe,?_⟩,Tv⟩
 refine yo ?_
 refine ze (fun c2=>?_) (fun c2=>?_)
 rotate_left
 ·have e:u.pos≠cenV w.G own:=fun e=>by
   simp only[e,Bool.and_eq_false_iff,beq_eq_false_iff_ne]at c2
   rcases c2 with c2|c2|c2
   ·exact c2 rfl
   ·exact c2 rfl
   ·cases c2
  rw[if_pos e]at h
  exact ret h
 have e:¬u.pos≠cenV w.G own:=fun e=>e (by
  simp only[Bool.and_eq_true,beq_iff_eq]at c2
  exact Prod.ext c2.1 c2.2.1)
 rw[if_neg e]at h
 dsimp only at h
 refine Qc zc zti ?_
 refine za (o:=st'.obj mb) _ hmb ?_
 refine za (o:=st'.obj mb) _ hmb ?_
 refine za (o:=st'.obj s) _ hs ?_
 refine⟨⟨_,_,zuu,?_⟩,Tv⟩
 show ACalls _ _ [_,_,_,_,_,int u.goal] _ _
 rw[hgo]
 refine zv1 w.G hm.hg w.B (by omega) hm.hb (kCls u.kind) (yy u.kind) hk goal hgl _ _ (fun b hf=>⟨Qe,?_⟩)
 have hmb2:(st'.setObj b (.cells (il w.G.T.length (wayF w.G (zl w.G w.B (kCls u.kind) (yy u.kind)) (kCls u.kind) (farF w.G (zl w.G w.B (kCls u.kind) (yy u.kind)) (kCls u.kind) goal))))).obj b=some (.cells (il w.G.T.length (wayF w.G (zl w.G w.B (kCls u.kind) (yy u.kind)) (kCls u.kind) (farF w.G (zl w.G w.B (kCls u.kind) (yy u.kind)) (kCls u.kind) goal)))):=zb _ _ _
 have hback:(st'.setObj b (.cells (il w.G.T.length (wayF w.G (zl w.G w.B (kCls u.kind) (yy u.kind)) (kCls u.kind) (farF w.G (zl w.G w.B (kCls u.kind) (yy u.kind)) (kCls u.kind) goal))))).Has st':=qi hf.1
 generalize st'.setObj b (.cells (il w.G.T.length (wayF w.G (zl w.G w.B (kCls u.kind) (yy u.kind)) (kCls u.kind) (farF w.G (zl w.G w.B (kCls u.kind) (yy u.kind)) (kCls u.kind) goal))))=S2 at*
 have hway:=zx3 w.G (zl w.G w.B (kCls u.kind) (yy u.kind)) (kCls u.kind) (farF w.G (zl w.G w.B (kCls u.kind) (yy u.kind)) (kCls u.kind) goal) own
 have hhd:=qc (f:=wayF w.G (zl w.G w.B (kCls u.kind) (yy u.kind)) (kCls u.kind) (farF w.G (zl w.G w.B (kCls u.kind) (yy u.kind)) (kCls u.kind) goal)) ho
 refine⟨own,rfl,ho,?_⟩
 refine za (o:=S2.obj b) _ hmb2 ?_
 refine za _ hhd ?_
 generalize wayF w.G (zl w.G w.B (kCls u.kind) (yy u.kind)) (kCls u.kind) (farF w.G (zl w.G w.B (kCls u.kind) (yy u.kind)) (kCls u.kind) goal) own=W at*
 refine⟨⟨Tv,?_⟩,Tv⟩
 refine bcd (fun c3=>?_) (fun c3=>?_)
 ·rw[if_pos c3]at h
  exact kx (Tt) hback h
 rw[if_neg c3]at h
 obtain⟨j,hj,rfl⟩:∃j:Nat,j<8/\W=(j:Int):=by
  rcases hway with h1|⟨j,h1,h2,_⟩
  ·omega
  ·exact⟨j,h1,h2⟩
 rw[Int.toNat_natCast]at h
 refine vl w.G hm.hg own ho _ _ ?_
 refine⟨j,rfl,hj,?_⟩
 refine za _ (zey hj) ?_
 exact kx (Tt) hback h
theorem wd{g:Gnd}(hg:gndP g){t:Int}(h:zbm g t):t=-1\/∃k:Nat,t=k/\k<g.T.length:=by
 rcases h with h|⟨h1,h2⟩
 ·exact .inl h
 ·obtain⟨k,rfl⟩:=Int.eq_ofNat_of_zero_le h1
  exact .inr ⟨k,rfl,by have:=hg.2.2.1;omega⟩
theorem zs7{w:Wld}{u:Unt}{d:Vc}(h:¬tryK w u d<5):tryW w u d=w:=by
 unfold tryK at h
 unfold tryW
 cases hl:tryL w u (vnrm d) 5 0 with
 |none=>rfl
 |some r=>
  rw[hl]at h
  obtain⟨k,q⟩:=r
  have:=(zc1 _ _ hl).2.1.2
  dsimp only at this h
  exact absurd (by omega) h
set_option maxHeartbeats 4000000 in
set_option maxRecDepth 20000 in
theorem ybi{F G:Store}{mb s p:Nat}{w:Wld}{v:AV}{L:List Ent}{o0 o1 o2:AV}(hW:Mover F G mb s p w v L o0 o1 o2)(hmay:mayP w)(hn:∀u∈w.U,u.pos.ok){i:Nat}(hi:i<w.U.length)(h0:w.U[i].inn=0)(hgo:w.U[i].goal≠-1)(R:AV->Store->Prop)
  (h:∀F' G' L' q0 q1 q2,Mover F' G' mb s p (zbu w w.U[i]) v L' q0 q1 q2->R (.tup []) (F'.un (svS G' s (zbu w w.U[i]) v q0 q1 q2 p))):
  ACalls Tryz.prog 89 [ptr mb,.agg (untC w.U[i])] (F.un (svS G s w v o0 o1 o2 p)) R:=by
 have hm:=mayF hmay
 have hut:=znp hmay hi
 have hon:=ztw hmay hi h0
 have hown:=zon hmay hi h0
 have hmp:=zbi hmay (List.getElem_mem hi) h0
 obtain⟨goal,hgq,hgl⟩:∃k:Nat,w.U[i].goal=k/\k<w.G.T.length:=by
  rcases wd hm.hg hut.2.1.1 with h1|h1
  ·exact absurd h1 hgo
  ·exact h1
 have hnx:=wd hm.hg hut.2.1.2.1
 have hstk:=hut.2.1.2.2
 have hnt:=zdb (w:=w) hm.hg (u:=w.U[i]) hown
 have hgoes:zbu w w.U[i]=if w.U[i].pos=cenV w.G goal then putU w (endU 2 w.U[i])else if xq w w.U[i] (ql w.G w.U[i].pos)then(if wg w w.U[i] (ql w.G w.U[i].pos)<0 then putU w (endU 3 w.U[i])else ww w {w.U[i]with next:=wg w w.U[i] (ql w.G w.U[i].pos)})else ww w w.U[i]:=by
  have e:w.U[i].goal.toNat=goal:=by rw[hgq,Int.toNat_natCast]
  unfold zbu
  rw[e]
 have hlook1:xq w w.U[i] (ql w.G w.U[i].pos)=false->w.U[i].next≠-1:=fun hh e=>by
  unfold xq at hh
  rw[decide_eq_true e]at hh
  simp at hh
 obtain⟨own,hownE⟩:∃own,ql w.G w.U[i].pos=own:=⟨_,rfl⟩
 rw[hownE]at hown hnt hgoes hlook1
 refine Qb (c:=cfg 84) zc Tryz.func89 ?_
 refine AWp.seq (AWp.of_vc zc ?_)
 refine AWp.seq (AWp.of_vc zc ?_)
 refine za (o:=(F.un (svS G s w v o0 o1 o2 p)).obj mb) _ hW.m ?_
 refine za (o:=(F.un (svS G s w v o0 o1 o2 p)).obj s) _ hW.s ?_
 refine AWp.seq (AWp.of_vc zc ?_)
 refine Qc zc zyw ?_
 refine⟨zcm w.G hm.hg goal hgl w.U[i].goal hgq _ _ ⟨Qe,?_⟩,Tv⟩
 refine ze (fun c1=>?_) (fun c1=>?_)
 ·have e:w.U[i].pos=cenV w.G goal:=by
   simp only[Bool.and_eq_true,beq_iff_eq]at c1
   exact Prod.ext c1.1 c1.2.1
  rw[if_pos e]at hgoes
  rw[hgoes]at h
  refine ze4 hW hm hn hi w.U[i] rfl (qz hmp) 2 _ (fun F3 G3 L3 hW3=>?_)
  exact ret (h F3 G3 L3 o0 o1 o2 hW3)
 have e:¬w.U[i].pos=cenV w.G goal:=fun e=>by
  simp only[e,Bool.and_eq_false_iff,beq_eq_false_iff_ne]at c1
  rcases c1 with c1|c1|c1
  ·exact c1 rfl
  ·exact c1 rfl
  ·cases c1
 rw[if_neg e]at hgoes
 refine AWp.meet (σ:=Nat) ⟨fun t=>[(0,.av (ptr mb)),(3,.bx 3 0),(4,.bx 4 0)],fun t=>[(3,untC {w.U[i]with next:=(t:Int)}),(4,gndC w.G)],fun t st'=>st'=F.un (svS G s w v o0 o1 o2 p)/\t<w.G.T.length/\zbu w w.U[i]=ww w {w.U[i]with next:=(t:Int)}⟩ zc ?_ ?_
 ·refine zj9 w.G hm.hg w.U[i].pos hon _ _ ?_
  rw[hownE]
  refine zwa hW.m hW.s hm w.U[i] hnx own hown _ ?_
  refine ze (fun c2=>?_) (fun c2=>?_)
  rotate_left
  ·rw[if_neg (by rw[c2];decide)]at hgoes
   obtain⟨t,ht,htl⟩:∃k:Nat,w.U[i].next=k/\k<w.G.T.length:=by
    rcases hnx with h1|h1
    ·exact absurd h1 (hlook1 c2)
    ·exact h1
   have e2:{w.U[i]with next:=(t:Int)}=w.U[i]:=by rw[<-ht]
   refine⟨t,⟨rfl,htl,by rw[e2];exact hgoes⟩,⟨Tq,Tq,Tq,Tv⟩,⟨?_,rfl,Tv⟩⟩
   rw[e2]
   rfl
  rw[if_pos c2]at hgoes
  refine zz9 hW.m hW.s hm w.U[i] goal hgq hgl own hown _ ?_
  generalize wg w w.U[i] own=nx at*
  refine bcd (fun c3=>?_) (fun c3=>?_)
  ·rw[if_pos c3]at hgoes
   rw[hgoes]at h
   refine ze4 hW hm hn hi {w.U[i]with next:=nx} rfl (qz hmp) 3 _ (fun F3 G3 L3 hW3=>?_)
   exact ret (h F3 G3 L3 o0 o1 o2 hW3)
  rw[if_neg c3]at hgoes
  obtain⟨t,rfl,htl⟩:∃k:Nat,nx=k/\k<w.G.T.length:=by
   rcases wd hm.hg hnt with h1|h1
   ·omega
   ·exact h1
  exact⟨t,⟨rfl,htl,hgoes⟩,⟨Tq,Tq,Tq,Tv⟩,⟨rfl,rfl,Tv⟩⟩
 rintro t st' ⟨rfl,htl,hgoes⟩
 rw[hgoes]at h
 have hid:({w.U[i]with next:=(t:Int),stuck:=0}:Unt).id=w.U[i].id:=rfl
 have hmay1:mayP (putU w {w.U[i]with next:=(t:Int),stuck:=0}):=zfx hmay hi h0 rfl (zfh hut hgo (zhv hm.hg htl) (by omega))
 obtain⟨hi1,he1⟩:=zil hm.hr hi hid
 have hn1:∀x∈(putU w {w.U[i]with next:=(t:Int),stuck:=0}).U,x.pos.ok:=fun x hx=>by
  obtain⟨j,hj,rfl⟩:=List.getElem_of_mem hx
  rw[zes]at hj
  by_cases hji:j=i
  ·subst hji
   rw[he1]
   exact qz hmp
  ·rw[zra hm.hr hi hid hj hji]
   exact hn _ (List.getElem_mem hj)
 have hks:=zdx w.U[i].kind
 have hcm:=zmz hm.hg htl
 have hway:=zan hmp hcm
 unfold ww at h
 dsimp only at h
 rw[Int.toNat_natCast]at h
 have hpp:∀x:Unt,x.id=w.U[i].id->putU (putU w {w.U[i]with next:=(t:Int),stuck:=0}) x=putU w x:=fun x hx=>zci w hx.symm
 refine AWp.of_vc zc ?_
 refine Qc zc ztf ?_
 refine za (o:=(F.un (svS G s w v o0 o1 o2 p)).obj mb) _ hW.m ?_
 refine⟨zcl hW hm hn hi {w.U[i]with next:=(t:Int),stuck:=0} rfl (qz hmp) _ (fun F1 G1 L1 hW1=>⟨Tv,?_⟩),Tv⟩
 generalize hw1:putU w {w.U[i]with next:=(t:Int),stuck:=0}=w1 at*
 have hm1:=mayF hmay1
 have hG1:w1.G=w.G:=by rw[<-hw1];rfl
 have htry:=zlu hW1 hm1 hn1 hi1
 rw[he1]at htry
 refine Qc zc zte ?_
 refine⟨zcm w.G hm.hg t htl (t:Nat) rfl _ _ ⟨Qe,?_⟩,Tv⟩
 refine⟨zq _ _ _ ⟨Qe,?_⟩,Tv⟩
 refine⟨zec w.U[i].pos (cenV w.G t) (yp w.U[i].kind) hmp hcm (by omega) _ _ ⟨Qe,?_⟩,Tv⟩
 refine⟨htry (xw w.U[i].pos (cenV w.G t) (yp w.U[i].kind)) (vo hway) _ (fun F2 G2 L2 a0 a1 a2 hW2=>⟨Qe,?_⟩),Tv⟩
 refine bcd (fun c4=>?_) (fun c4=>?_)
 ·rw[if_pos c4]at h
  exact ret (h F2 G2 L2 a0 a1 a2 hW2)
 rw[if_neg c4]at h
 rw[zs7 c4]at hW2⊢
 refine in64 (v:=w.U[i].stuck+1) (by omega) ?_
 refine bceq (fun c5=>?_) (fun c5=>?_)
 ·rw[if_pos c5]at h
  refine ze4 hW2 hm1 hn1 hi1 {w.U[i]with next:=-1,stuck:=w.U[i].stuck+1} (by rw[he1]) (qz hmp) 4 _ (fun F3 G3 L3 hW3=>?_)
  have e3:=hpp (endU 4 {w.U[i]with next:=-1,stuck:=w.U[i].stuck+1}) rfl
  rw[e3]at hW3⊢
  exact ret (h F3 G3 L3 a0 a1 a2 hW3)
 rw[if_neg c5]at h
 refine Qc zc ztd ?_
 refine za (o:=(F2.un (svS G2 s w1 v a0 a1 a2 p)).obj mb) _ hW2.m ?_
 refine⟨zcl hW2 hm1 hn1 hi1 {w.U[i]with next:=-1,stuck:=w.U[i].stuck+1} (by rw[he1]) (qz hmp) _ (fun F3 G3 L3 hW3=>⟨Tv,?_⟩),Tv⟩
 have e3:=hpp {w.U[i]with next:=-1,stuck:=w.U[i].stuck+1} rfl
 rw[e3]at hW3⊢
 exact ret (h F3 G3 L3 a0 a1 a2 hW3)
theorem zjh(u:Bld):(bldC u).length=6:=rfl
theorem ycf(b:Bld):∀y∈bldC b,∃x,y=AV.s x/\yd x=true:=by
 intro y hy
 simp[bldC]at hy
 rcases hy with rfl|rfl|rfl|rfl|rfl|rfl<;>exact⟨_,rfl,rfl⟩
theorem zlt(c:UInt8):(u8C c).length=1:=rfl
theorem yn1(c:UInt8):∀y∈u8C c,∃x,y=AV.s x/\yd x=true:=by
 intro y hy
 simp[u8C]at hy
 exact⟨_,hy,rfl⟩
theorem zbx(st:Store):Disj Store.empty st:=fun b hb=>(hb.elim (fun h=>h rfl) (fun h=>h rfl):False).elim
theorem ysv(st:Store):Disj Store.empty st:=fun b hb=>(hb.elim (fun h=>h rfl) (fun h=>h rfl):False).elim
theorem zsi(l:List UInt8)(hl:l.length<=1000000000)(st:Store)(R:AV->Store->Prop)(h:∀v N,RowsQ 1 u8C N v l->Disj N st->R v (N.un st)):ACalls Tryz.prog 171 [byts l] st R:=by
 refine Qa (c:=cfg 8) zc Tryz.func171 ?_
 intro b hb
 cases b with
 |true=>
  have:l=[]:=by
   have:=congrArg List.length (hb rfl)
   rw[zk]at this
   exact List.eq_nil_of_length_eq_zero this
  subst this
  have:=h (.s (.slice none 0 0)) Store.empty (.inl (.inl ⟨rfl,rfl⟩)) (ysv st)
  rw[xt]at this
  exact ret this
 |false=>
  refine⟨by decide,?_⟩
  exact zjl (ie:=ti5) rfl zlt (by decide) hl (fun v N hv hd=>ret (h v N hv hd))
theorem zjd(l:List Bld)(hl:l.length<=1000000000)(st:Store)(R:AV->Store->Prop)(h:∀v N,RowsQ 6 bldC N v l->Disj N st->R v (N.un st)):ACalls Tryz.prog 117 [lst 6 bldC l] st R:=by
 refine Qa (c:=cfg 8) zc Tryz.func117 ?_
 intro b hb
 cases b with
 |true=>
  have:l=[]:=by
   have:=congrArg List.length (hb rfl)
   rw[zk]at this
   exact List.eq_nil_of_length_eq_zero this
  subst this
  have:=h (.s (.slice none 0 0)) Store.empty (.inl (.inl ⟨rfl,rfl⟩)) (ysv st)
  rw[xt]at this
  exact ret this
 |false=>
  refine⟨by decide,?_⟩
  exact zjl (ie:=ti144) rfl zjh (by decide) hl (fun v N hv hd=>ret (h v N hv hd))
theorem zsh(l:List Unt)(hl:l.length<=1000000000)(st:Store)(R:AV->Store->Prop)(h:∀v N,RowsQ 10 untC N v l->Disj N st->R v (N.un st)):ACalls Tryz.prog 118 [lst 10 untC l] st R:=by
 refine Qa (c:=cfg 8) zc Tryz.func118 ?_
 intro b hb
 cases b with
 |true=>
  have:l=[]:=by
   have:=congrArg List.length (hb rfl)
   rw[zk]at this
   exact List.eq_nil_of_length_eq_zero this
  subst this
  have:=h (.s (.slice none 0 0)) Store.empty (.inl (.inl ⟨rfl,rfl⟩)) (ysv st)
  rw[xt]at this
  exact ret this
 |false=>
  refine⟨by decide,?_⟩
  exact zjl (ie:=ti50) rfl qf (by decide) hl (fun v N hv hd=>ret (h v N hv hd))
theorem zpe(g:Gnd)(hg:g.T.length<=1000000000)(st:Store)(R:AV->Store->Prop)(h:∀v N,RowsQ 1 u8C N v g.T->Disj N st->R (.agg [int g.W,int g.H,v]) (N.un st)):ACalls Tryz.prog 116 [.agg (gndC g)] st R:=by
 refine Qa (c:=cfg 8) zc Tryz.func116 ?_
 refine zsi g.T hg _ _ (fun v N hv hd=>?_)
 obtain⟨oa,cap,hv2,_⟩:=hv.form
 subst hv2
 exact ret (h _ N hv hd)
def wld3(w:Wld)(vT vB vU:AV):List AV:=[int w.tick,int w.players,int w.next,int w.G.W,int w.G.H,vT,vB,vU]
structure OwnQ(S:Store)(w:Wld)(vT vB vU:AV)(NT NB NU:Store):Prop where
 e:S=NU.un (NB.un NT)
 rT:RowsQ 1 u8C NT vT w.G.T
 rB:RowsQ 6 bldC NB vB w.B
 rU:RowsQ 10 untC NU vU w.U
 dB:Disj NB NT
 dU:Disj NU (NB.un NT)
theorem zzy(w:Wld)(hT:w.G.T.length<=1000000000)(hB:w.B.length<=1000000000)(hU:w.U.length<=1000000000)(R:AV->Store->Prop)
  (h:∀S vT vB vU NT NB NU,OwnQ S w vT vB vU NT NB NU->R (.agg (wld3 w vT vB vU)) S):ACalls Tryz.prog 74 [.agg (wldC w)] Store.empty R:=by
 refine Qa (c:=cfg 16) zc Tryz.func74 ?_
 refine Qc zc yrk ?_
 refine⟨zpe w.G hT _ _ (fun vT NT rT _=>⟨Qe,?_⟩),Tv⟩
 rw[zap]
 refine⟨zjd w.B hB _ _ (fun vB NB rB dB=>⟨Qe,?_⟩),Tv⟩
 refine⟨zsh w.U hU _ _ (fun vU NU rU dU=>⟨Qe,?_⟩),Tv⟩
 have ho:OwnQ (NU.un (NB.un NT)) w vT vB vU NT NB NU:=⟨rfl,rT,rB,rU,dB,dU⟩
 obtain⟨_,_,e1,_⟩:=rT.form
 obtain⟨_,_,e2,_⟩:=rB.form
 obtain⟨_,_,e3,_⟩:=rU.form
 subst e1 e2 e3
 refine⟨⟨Qe,?_⟩,Tv⟩
 refine⟨⟨Qe,?_⟩,Tv⟩
 refine⟨⟨Qe,?_⟩,Tv⟩
 exact ret (h _ _ _ _ _ _ _ ho)
theorem ymg{S NT NB NU:Store}{w:Wld}{vT vB vU:AV}(h:OwnQ S w vT vB vU NT NB NU):RowsQ 1 u8C S vT w.G.T/\RowsQ 6 bldC S vB w.B/\RowsQ 10 untC S vU w.U:=by
 have h1:=h.rT
 have h2:=h.rB.unL h.dB
 rw[h.e]
 exact⟨(h1.un (a:=NB)).un,h2.un,h.rU.unL h.dU⟩
theorem zac{a b:Store}{i:Nat}(h:(a.un b).obj i=none):a.obj i=none/\b.obj i=none:=by
 unfold Store.un at h
 dsimp only at h
 cases hb:b.obj i with
 |none=>rw[hb]at h;exact⟨h,rfl⟩
 |some y=>rw[hb]at h;cases h
theorem zoo(w:Wld)(hT:w.G.T.length<=1000000000)(hB:w.B.length<=1000000000)(hU:w.U.length<=1000000000)(R:AV->Store->Prop)
  (h:∀v N,RowsQ 10 untC N v w.U->R (.agg (wldV w v)) N):ACalls Tryz.prog 74 [.agg (wldC w)] Store.empty R:=by
 refine(zzy w hT hB hU (fun r S=>∃vT vB vU NT NB NU,OwnQ S w vT vB vU NT NB NU/\r=.agg (wld3 w vT vB vU)) fun S vT vB vU NT NB NU ho=>⟨vT,vB,vU,NT,NB,NU,ho,rfl⟩).frozenTo ?_
 rintro r S ⟨vT,vB,vU,NT,NB,NU,ho,rfl⟩
 have hk:∃N2:Store,RowsQ 10 untC N2 vU w.U/\(∀b x,N2.obj b=some x->NU.obj b=some x)/\(∀b x,N2.tok b≠some x):=by
  refine⟨⟨NU.obj,fun _=>none⟩,ho.rU.sub fun _ _ _ _=>rfl,fun b x hx=>hx,fun b x=>by simp⟩
 obtain⟨N2,hN,hsub,htok⟩:=hk
 refine⟨.agg (wldV w vU),N2,h vU N2 hN,fun b x hx=>?_,htok,fun Oth M W v sto hx=>?_⟩
 ·rw[ho.e]
  exact un_l ho.dU (hsub b x hx)
 ·obtain⟨rT,rB,rU⟩:=ymg ho
  cases hx with
  |agg _ c hl hc=>
   have mono1:∀{x:AV} {v:Value},VRel W (fun b o=>M b o\/Oth b o) x v->VRel W (fun b o=>(M b o\/Oth b o)/\(S.obj b=none\/N2.obj b≠none)) x v:=fun h=>h.mono fun _ _ h=>h.1
   have mono2:∀{x:AV} {v:Value} {Z:Store},(∀b,N2.obj b≠none->Z.obj b=none)->(∀b,S.obj b=none->Z.obj b=none)->VRel W (fun b o=>(M b o\/Oth b o)/\Z.obj b=none) x v->VRel W (fun b o=>(M b o\/Oth b o)/\(S.obj b=none\/N2.obj b≠none)) x v:=fun hz1 hz2 h=>h.mono fun b _ h=>⟨h.1,h.2.elim (hz2 b) (hz1 b)⟩
   have hS:∀b,S.obj b=none->NU.obj b=none/\NB.obj b=none/\NT.obj b=none:=fun b hb=>by
    rw[ho.e]at hb
    obtain⟨h1,h2⟩:=zac hb
    exact⟨h1,(zac h2).1,(zac h2).2⟩
   have hN2:∀b,N2.obj b≠none->NB.obj b=none/\NT.obj b=none:=fun b hb=>by
    cases hx:N2.obj b with
    |none=>exact absurd hx hb
    |some y=>
     have h1:=yw (hsub b y hx)
     have h2:=vg (ho.dU b h1)
     exact⟨(zac h2.1).1,(zac h2.1).2⟩
   have sNB:StoreOK NB Oth M W:=sto.weaken ⟨fun b x hx=>by rw[ho.e];exact un_r (un_l ho.dB hx),fun b x hx=>by rw[ho.e];exact zns (zyb ho.dB hx)⟩
   have sNT:StoreOK NT Oth M W:=sto.weaken ⟨fun b x hx=>by rw[ho.e];exact un_r (un_r hx),fun b x hx=>by rw[ho.e];exact zns (zns hx)⟩
   refine .agg _ c hl fun i x y hx hy=>?_
   match i with
   |0=>simp only[wldV,List.getElem?_cons_zero,Option.some.injEq]at hx;subst hx;exact mono1 (hc 0 _ y rfl hy)
   |1=>simp only[wldV,List.getElem?_cons_succ,List.getElem?_cons_zero,Option.some.injEq]at hx;subst hx;exact mono1 (hc 1 _ y rfl hy)
   |2=>simp only[wldV,List.getElem?_cons_succ,List.getElem?_cons_zero,Option.some.injEq]at hx;subst hx;exact mono1 (hc 2 _ y rfl hy)
   |3=>simp only[wldV,List.getElem?_cons_succ,List.getElem?_cons_zero,Option.some.injEq]at hx;subst hx;exact mono1 (hc 3 _ y rfl hy)
   |4=>simp only[wldV,List.getElem?_cons_succ,List.getElem?_cons_zero,Option.some.injEq]at hx;subst hx;exact mono1 (hc 4 _ y rfl hy)
   |5=>simp only[wldV,List.getElem?_cons_succ,List.getElem?_cons_zero,Option.some.injEq]at hx;subst hx;exact mono2 (fun b hb=>(hN2 b hb).2) (fun b hb=>(hS b hb).2.2) (ho.rT.borrow zlt yn1 sNT (hc 5 _ y rfl hy))
   |6=>simp only[wldV,List.getElem?_cons_succ,List.getElem?_cons_zero,Option.some.injEq]at hx;subst hx;exact mono2 (fun b hb=>(hN2 b hb).1) (fun b hb=>(hS b hb).2.1) (ho.rB.borrow zjh ycf sNB (hc 6 _ y rfl hy))
   |7=>simp only[wldV,List.getElem?_cons_succ,List.getElem?_cons_zero,Option.some.injEq]at hx;subst hx;exact mono1 (hc 7 _ y rfl hy)
   |i+8=>simp[wldV]at hx
end Go.Proofs
