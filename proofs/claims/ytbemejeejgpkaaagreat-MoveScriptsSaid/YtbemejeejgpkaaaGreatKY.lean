/- Ground of laws of thronglaw24: contracts and plain lemmas; no condition beyond the row's own. -/
import Derived.Test.YtbemejeejgpkaaaGreatKX
import Derived.Test.YtbemejeejgpkaaaGreatKU
import Derived.Test.YtbemejeejgpkaaaGreatKW
set_option linter.unusedSimpArgs false
set_option linter.unusedVariables false
namespace Go.Proofs
open Go Go.V
set_option maxRecDepth 20000
set_option maxHeartbeats 4000000
theorem Mz{g:Gnd}{t way:Nat}(hw:way<8):(rws yh (jc g t))[way]?=some (yh (yc g t way)):=by
 have h8:way<(jc g t).length:=by rw[Ik];exact hw
 rw[zm h8]
 unfold yc
 rw[Fa9,Fab h8]
 rfl
def Oy(g:Gnd)(ok:Nat->Bool)(c:Int)(t way:Nat):Int:=if ok t then yv g ok c t way else 0
theorem mm{g:Gnd}(hg:zr g){l:List Bld}{c s:Int}(hc:c=0\/c=1\/c=2)(t:Nat)(ht:t<g.T.length)(way:Nat)(hw:way<8)(S:Store)(R:Ja)
  (h:R (int (Oy g (zj g l c s) c t way)) S):Jb 106 [.agg (zp g),C6 g l c s,int c,int (t:Nat),qn (jc g t),int (way:Nat),int (-1)] S R:=by
 have hgl:∀u,u<g.T.length->u<(blL g.T.length (zj g l c s)).length:=λu hu=>by rw[xj];exact hu
 have p1:=K0 c (g.T[t]).toNat
 unfold Oy at h
 refine Qa (c:=cfg 113) zb Tryz.func106 ?_
 refine⟨way,rfl,za _ (Mz hw) ?_⟩
 have hor:=Hu hg t hw
 have hlo:=λh=>ip (g:=g) (ok:=zj g l c s) (c:=c) (t:=t) (w:=way) h
 have hhi:=λh=>ir (g:=g) (ok:=zj g l c s) (c:=c) (t:=t) (w:=way) h
 have hno:=Mc (g:=g) (ok:=zj g l c s) (c:=c) (t:=t) (w:=way)
 have hhn:=λh=>iq (g:=g) (ok:=zj g l c s) (c:=c) (t:=t) (w:=way) h
 generalize yv g (zj g l c s) c t way=E at*
 generalize hU:yc g t way=U at*
 refine bcd (λc1=>?_) (λc1=>?_)
 ·rw[hno (Hl c1),ite_self]at h
  exact ret h
 obtain⟨u,rfl,hul⟩:∃u:Nat,U=(u:Int)/\u<g.T.length:=by
  rcases hor with h1|h1
  ·exact absurd h1 c1
  ·exact h1
 refine⟨t,rfl,za _ (zm (hgl t ht)) ?_⟩
 rw[Bb ht]
 refine yd ?_
 refine zh (λc2=>?_) (λc2=>?_)
 rotate_left
 ·rw[if_neg (by rw[c2];decide)]at h
  exact ret h
 rw[if_pos c2]at h
 refine⟨u,rfl,za _ (zm (hgl u hul)) ?_⟩
 rw[Bb hul]
 refine yd ?_
 refine zh (λc3=>?_) (λc3=>?_)
 rotate_left
 ·rw[hno (by rw[Fl,c3])]at h
  exact ret h
 have hfu:j6 (zj g l c s) (u:Int)=true:=by rw[Fl,c3]
 rw[Fa0]at hlo hhi
 rw[Rq g c ht,Rq g c hul]at hlo hhi
 have p2:=K0 c (g.T[u]).toNat
 refine Qc zb zss ?_
 refine⟨t,rfl,za _ (zm ht) ?_⟩
 refine⟨u,rfl,za _ (zm hul) ?_⟩
 refine⟨ct c hc g.T[t] (Rp hg ht) _ _ ⟨Qe,?_⟩,Tv⟩
 refine⟨ct c hc g.T[u] (Rp hg hul) _ _ ⟨Qe,?_⟩,Tv⟩
 refine Qd ?_
 refine Qbl ?_
 generalize wz c g.T[t].toNat=P1 at*
 generalize wz c g.T[u].toNat=P2 at*
 refine bcd (λc4=>?_) (λc4=>?_)
 ·refine Qd ?_
  rw[hlo hfu (by omega)]at h
  exact ret h
 have h4:¬way<4:=by omega
 have hhi:=hhi hfu h4
 have hhn:=hhn h4
 have hsi:∀i,i<2->(way-4+i)%4<8:=λi _=>by omega
 have hs0:(way-4+0)%4=F4 way:=by unfold F4;omega
 have hs1:(way-4+1)%4=F0 way:=by unfold F0;omega
 refine AWp.loop (σ:=Nat) ⟨λi=>[(1,.av (C6 g l c s)),(4,.av (qn (jc g t))),(5,.av (int (way:Nat))),(6,.av (int (-1))),(7,.bx 7 0),(16,.av (int (P1+P2))),(17,.av (int (i:Nat)))],λ_=>[(7,zp g)],
  λi st'=>i<=2/\st'=S/\∀j,j<i->j6 (zj g l c s) (yc g t ((way-4+j)%4))=true,λi=>2-i⟩ zb ?_ ?_
 ·exact⟨0,Tv,⟨Fag _,rfl,λj hj=>absurd hj (Fa2 j)⟩,Qbh,⟨rfl,Tv⟩⟩
 rintro i st' ⟨hi,rfl,hfr⟩
 dsimp only at hi hfr⊢
 refine bcd (λc5=>?_) (λc5=>?_)
 rotate_left
 ·have:i=2:=by omega
  subst this
  have ha:=hfr 0 (by omega)
  have hb:=hfr 1 (by omega)
  rw[hs0]at ha
  rw[hs1]at hb
  rw[hhi ha hb]at h
  refine Qd ?_
  exact ret h
 have hi2:i<2:=by omega
 have hm:((way:Int)-4+(i:Int)).tmod 4=(((way-4+i)%4:Nat):Int):=by
  rw[Fdw (by omega)]
  omega
 have hno2:j6 (zj g l c s) (yc g t ((way-4+i)%4))=false->R (int 0) st':=λhh=>by
  rw[hhn (by
   have:i=0\/i=1:=by omega
   rcases this with rfl|rfl
   ·rw[hs0]at hh;exact .inl hh
   ·rw[hs1]at hh;exact .inr hh)]at h
  exact h
 have hor2:=Hu hg t (hsi i hi2)
 have hget:=Mz (g:=g) (t:=t) (hsi i hi2)
 generalize hw2:(way-4+i)%4=way2 at*
 refine Qd ?_
 refine Qd ?_
 refine⟨by decide,?_⟩
 refine⟨way2,hm,za _ hget ?_⟩
 generalize hU2:yc g t way2=U2 at*
 refine bcd (λc6=>?_) (λc6=>?_)
 ·exact ret (hno2 (Hl c6))
 obtain⟨u2,rfl,hul2⟩:∃u:Nat,U2=(u:Int)/\u<g.T.length:=by
  rcases hor2 with h1|h1
  ·exact absurd h1 c6
  ·exact h1
 refine⟨u2,rfl,za _ (zm (hgl u2 hul2)) ?_⟩
 rw[Bb hul2]
 refine yd ?_
 refine zh (λc7=>?_) (λc7=>?_)
 rotate_left
 ·exact ret (hno2 (by rw[Fl,c7]))
 refine Qd ?_
 refine⟨i+1,(show 2-(i+1)<2-i by omega),⟨by omega,rfl,λj hj=>?_⟩,Qbh,⟨rfl,Tv⟩⟩
 by_cases e:j=i
 ·subst e
  rw[hw2,hU2,Fl,c7]
 ·exact hfr j (by omega)
def Gu(n:Nat)(W:Nat->Bool):Nat:=vt n λt=>if W t then 1 else 0
theorem fh(n:Nat)(W:Nat->Bool):Gu n W<=n:=by
 have:=Ow (f:=λt=>if W t=true then 1 else 0) (g:=λ_=>1) n (λt _=>by split<;>omega)
 rw[Ox]at this
 unfold Gu
 omega
theorem fg{n:Nat}{W:Nat->Bool}{u:Nat}(hu:u<n)(x:Bool):Gu n (zx W u x)+(if W u then 1 else 0)=Gu n W+(if x then 1 else 0):=by
 have:=Ko (f:=λt=>if zx W u x t=true then 1 else 0) (g:=λt=>if W t=true then 1 else 0) (u:=u) n hu (λt _ ht=>by rw[xf ht])
 simp only[j1]at this
 exact this
theorem zuh{g:Gnd}(hg:zr g){l:List Bld}{c s:Int}(hc:c=0\/c=1\/c=2)(goal:Nat)(hgo:goal<g.T.length)(R:Ja)
  (h:∀b S,S.obj b=some (.cells (il g.T.length (qy g (zj g l c s) c goal)))->(∀u,(0<=qy g (zj g l c s) c goal u->zj g l c s u=true)/\-1<=qy g (zj g l c s) c goal u/\qy g (zj g l c s) c goal u<=2000000)->R (.s (.slice (some ⟨b,0,none⟩) g.T.length g.T.length)) S):
  Jb 62 [.agg (zp g),C6 g l c s,int c,int (goal:Nat),int (-1)] Store.empty R:=by
 have ha:=qe hg
 have hT:g.T.length<=16384:=by omega
 have hgl:∀u,u<g.T.length->u<(blL g.T.length (zj g l c s)).length:=λu hu=>by rw[xj];exact hu
 refine Qa (c:=cfg 133 [57,1000057] []) zb Tryz.func62 ?_
 refine Qd ?_
 have hwh:g.W*g.H=((g.T.length:Nat):Int):=by omega
 rw[hwh]
 refine Bt rfl (it:=ti29) (ie:=ti2) rfl rfl rfl rfl rfl (n:=g.T.length) ?_ ?_ (λb hf=>?_)
 ·show 8*g.T.length<=_;omega
 ·omega
 have il0:List.replicate g.T.length (AV.s (.int .i64 0))=il g.T.length (k8 (-1) 0):=(Ng _).trans (Gh λt _=>(if_neg (Fa2 t)).symm)
 refine AWp.loop (σ:=Nat) ⟨λi=>[(1,.av (C6 g l c s)),(2,.av (int c)),(3,.av (int (goal:Nat))),(4,.av (int (-1))),(5,.bx 5 0),(11,.av (.s (.slice (some ⟨b,0,none⟩) g.T.length g.T.length))),(12,.av (int (i:Nat)))],λ_=>[(5,zp g)],
  λi st'=>i<=g.T.length/\st'=Store.empty.sO b (.cells (il g.T.length (k8 (-1) i))),λi=>g.T.length-i⟩ zb ?_ ?_
 ·exact⟨0,Tv,⟨Fag _,by rw[<-il0]⟩,Qbh,⟨rfl,Tv⟩⟩
 rintro i st' ⟨hi,rfl⟩
 dsimp only at hi⊢
 refine zh (λd1=>?_) (λd1=>?_)
 ·have hlt:i<g.T.length:=by simpa using d1
  refine⟨i,rfl,hlt,?_⟩
  refine yj (i:=ti2) (v:=int (-1)) (b:=b) (o:=0+i*1) (l:=il g.T.length (k8 (-1) i)) (st2:=Store.empty.sO b (.cells (il g.T.length (k8 (-1) (i+1))))) rfl rfl rfl (zd _ _ _) (by rw[qx];omega) ?_ ?_
  ·rw[yp,Gf _ _ _ _ hlt]
   congr 2
   refine Gh λt ht=>?_
   unfold zx k8
   by_cases e:t=i
   ·rw[if_pos e,if_pos (by omega)]
   ·rw[if_neg e]
    by_cases e2:t<i
    ·rw[if_pos e2,if_pos (by omega)]
    ·rw[if_neg e2,if_neg (by omega)]
  refine Qd ?_
  exact⟨i+1,(show g.T.length-(i+1)<g.T.length-i by omega),⟨hlt,rfl⟩,Qbh,⟨rfl,Tv⟩⟩
 have:i=g.T.length:=by
  have:¬i<g.T.length:=by simpa using d1
  omega
 subst this
 rw[sr]
 refine⟨goal,rfl,za _ (zm (hgl goal hgo)) ?_⟩
 rw[Bb hgo]
 refine yd ?_
 refine zh (λc1=>?_) (λc1=>?_)
 rotate_left
 ·rw[uk c1]at h
  exact ret (h b _ (zd _ _ _) (λu=>⟨λhu=>absurd (show(0:Int)<=-1 from hu) (by decide),show(-1:Int)<=-1 by decide,show(-1:Int)<=2000000 by decide⟩))
 refine⟨goal,rfl,hgo,?_⟩
 refine yj (i:=ti2) (v:=int 0) (b:=b) (o:=0+goal*1) (l:=il g.T.length λ_=>-1) (st2:=Store.empty.sO b (.cells (il g.T.length (zx (λ_=>-1) goal 0)))) rfl rfl rfl (zd _ _ _) (by rw[qx];omega) ?_ ?_
 ·rw[yp,Gf _ _ _ _ hgo]
 refine⟨by decide,λb3 hf3=>?_⟩
 refine Bt rfl (it:=ti60) (ie:=ti4) rfl rfl rfl rfl rfl (n:=g.T.length) ?_ ?_ (λb2 hf2=>?_)
 ·show 1*_<=_;omega
 ·omega
 rw[Ht]
 have hb3:b3≠b:=λe=>by
  have:=hf3.1
  rw[e,zd]at this;cases this
 have hb23:b2≠b3:=λe=>by
  have:=hf2.1
  rw[e,zd]at this;cases this
 have hb2:b2≠b:=λe=>by
  have:=hf2.1
  rw[e,zi (Ne.symm hb3),zd]at this;cases this
 have hd0:∀u,zx (λ_=>(-1:Int)) goal 0 u=if u=goal then 0 else -1:=λu=>rfl
 have hSP:=zob (xm g (zj g l c s) c) hd0 (W:=inQ [goal]) (λu=>by unfold inQ;simp)
 have hcb:=zaj hgo hd0
 have hd00:0<=zx (λ_=>(-1:Int)) goal 0 goal:=by rw[j1];exact Fcn 0
 generalize zx (λ_=>(-1:Int)) goal 0=d0 at*
 refine AWp.loop (σ:=(Nat->Int)×(Nat->Bool)×List Nat×AV×Store) ⟨λx=>[(1,.av (C6 g l c s)),(2,.av (int c)),(4,.av (int (-1))),(5,.bx 5 0),(11,.av (.s (.slice (some ⟨b,0,none⟩) g.T.length g.T.length))),(13,.av x.2.2.2.1),(14,.av (.s (.slice (some ⟨b2,0,none⟩) g.T.length g.T.length)))],λ_=>[(5,zp g)],
  λx st'=>st'=x.2.2.2.2/\st'.obj b=some (.cells (il g.T.length x.1))/\st'.obj b2=some (.cells (bl g.T.length x.2.1))/\QF st' b b2 x.2.2.2.1 x.2.2.1/\SP (xm g (zj g l c s) c) goal x.1 (inQ x.2.2.1) Cu/\(∀u,x.2.1 u=true->u∈x.2.2.1)/\(∀u∈x.2.2.1,u<g.T.length/\0<=x.1 u)/\Dv g.T.length x.1/\x.2.2.1.length<=Gu g.T.length x.2.1+1,λx=>2*Gb g.T.length x.1+x.2.2.1.length⟩ zb ?_ ?_
 ·have hq0:∀S:Store,S.obj b3=some (.cells [int (goal:Nat)])->QF S b b2 (.s (.slice (some ⟨b3,0,none⟩) 1 1)) [goal]:=λS hS=>⟨b3,0,1,[int (goal:Nat)],rfl,hS,Faj 1,Faj 1,by decide,rfl,hb3,Ne.symm hb23⟩
  refine⟨(d0,λ_=>false,[goal],.s (.slice (some ⟨b3,0,none⟩) 1 1),_),Tv,⟨rfl,?_,zd _ _ _,hq0 _ ?_,hSP,λu hu=>Bool.noConfusion hu,λu hu=>?_,hcb,Nat.le_add_left 1 _⟩,⟨Tq,Tq,Tq,Tq,Tq,Tq,Tq,Tv⟩,⟨rfl,Tv⟩⟩
  ·rw[zi (Ne.symm hb2),zi (Ne.symm hb3),zd]
  ·rw[zi (Ne.symm hb23),zd]
   rfl
  ·have hu:=Fb1.1 hu
   subst hu
   exact⟨hgo,hd00⟩
 clear hSP hcb hd0 hd00
 rintro⟨d,M,q,v,S⟩ st' ⟨rfl,hob,hob2,hq,hSP,hq1,hq2,hcb,hql⟩
 dsimp only at hob hob2 hq hSP hq1 hq2 hcb hql⊢
 have hqn:q.length<=16385:=by have:=fh g.T.length M;omega
 cases q with
 |nil=>
  obtain⟨bq,f,cap,lq,rfl,ho,h3,h4,h5,h6,h7,h8⟩:=hq
  have e:=b7 c1 (zoc hSP (λu=>by unfold inQ;simp))
  exact ret (h b _ (by rw[e];exact hob) (λu=>by
   rw[e]
   have h1:=hSP.lab u
   have h2:=Lp hcb u
   exact⟨λhu=>i8 hSP c1 hu,by omega,by omega⟩))
 |cons t r=>
 obtain⟨bq,f,cap,lq,rfl,ho,h3,h4,h5,h6,h7,h8⟩:=hq
 obtain⟨htn,hdt⟩:=hq2 t (Fbi ..)
 refine bcd (λc2=>?_) (λc2=>absurd (show(0:Int)<((t::r).length:Nat) by simp only[Fba];omega) c2)
 refine⟨0,rfl,Nat.zero_lt_succ _,?_⟩
 refine Qbm ?_
 refine za _ (zv0 h6) ?_
 refine⟨1,(t::r).length,rfl,rfl,by simp,h4,?_⟩
 have hv1:1<cap->QF st' b b2 (.s (.slice (some ⟨bq,f+1*1,none⟩) ((t::r).length-1) (cap-1))) r:=λhc=>⟨bq,f+1,cap-1,lq,rfl,ho,by omega,by simp only[Fba]at h4;omega,by omega,zvy h6,h7,h8⟩
 have hv2:1=cap->QF st' b b2 (.s (.slice (some ⟨bq,f,none⟩) 0 0)) r:=λhc=>by
  have:r=[]:=by
   simp only[Fba]at h4
   exact Faw (by omega)
  subst this
  exact⟨bq,f,0,lq,rfl,ho,by omega,Faj _,by decide,rfl,h7,h8⟩
 have hcap:1<cap\/1=cap:=by simp only[Fba]at h4;omega
 have hSP1:SP (xm g (zj g l c s) c) goal d (inQ r) (Bc g (zj g l c s) c t 0):=zct (Vp (zn9 hSP t) (λu hu=>by
  unfold zx at hu
  split at hu
  ·cases hu
  ·rename_i e
   rw[inQ_iff]at hu⊢
   exact(Fat.1 hu).resolve_left e) (λu hu=>(hq2 u (Fa6 t (inQ_iff.1 hu))).2))
 have hok:=i8 hSP c1 hdt
 have hM1:∀u,zx M t false u=true->u∈r:=λu hu=>by
  unfold zx at hu
  split at hu
  ·cases hu
  ·rename_i e
   exact(Fat.1 (hq1 u hu)).resolve_left e
 have hr2:∀u∈r,u<g.T.length/\0<=d u:=λu hu=>hq2 u (Fa6 t hu)
 have hwl:r.length<=Gu g.T.length (zx M t false)+1:=by
  have:=fg (W:=M) htn false
  simp only[Fba]at hql
  split at this<;>simp at this<;>omega
 have hob':=(zi (st:=st') (b:=b) (p:=b2) (x:=.cells (bl g.T.length (zx M t false))) (Ne.symm hb2)).trans hob
 have hbig:=λ(d:Nat->Int) (h:Dv g.T.length d)=>Lp h
 rcases hcap with hcap|hcap
 rotate_left
 refine .inr ⟨hcap,?_⟩
 have hQ:=(hv2 hcap).set2 (.cells (bl g.T.length (zx M t false)))
 rotate_left
 refine .inl ⟨hcap,?_⟩
 have hQ:=(hv1 hcap).set2 (.cells (bl g.T.length (zx M t false)))
 all_goals
  clear hv1 hv2
  refine⟨t,rfl,htn,?_⟩
  refine yj (i:=ti4) (v:=V.bool false) (b:=b2) (o:=0+t*1) (l:=bl g.T.length M) (st2:=st'.sO b2 (.cells (bl g.T.length (zx M t false)))) rfl rfl rfl hob2 (by rw[ku];omega) ?_ ?_
  ·rw[dq _ _ _ _ htn]
  refine Mn g hg t htn _ _ ?_
  refine AWp.loop (σ:=Nat×(Nat->Int)×(Nat->Bool)×List Nat×AV×Store) ⟨λx=>[(1,.av (C6 g l c s)),(2,.av (int c)),(4,.av (int (-1))),(5,.bx 5 0),(11,.av (.s (.slice (some ⟨b,0,none⟩) g.T.length g.T.length))),(13,.av x.2.2.2.2.1),(14,.av (.s (.slice (some ⟨b2,0,none⟩) g.T.length g.T.length))),(15,.av (int (t:Nat))),(16,.av (qn (jc g t))),(17,.av (int (x.1:Nat)))],λ_=>[(5,zp g)],
   λx st2=>x.1<=8/\st2=x.2.2.2.2.2/\st2.obj b=some (.cells (il g.T.length x.2.1))/\st2.obj b2=some (.cells (bl g.T.length x.2.2.1))/\QF st2 b b2 x.2.2.2.2.1 x.2.2.2.1/\SP (xm g (zj g l c s) c) goal x.2.1 (inQ x.2.2.2.1) (Bc g (zj g l c s) c t x.1)/\(∀u,x.2.2.1 u=true->u∈x.2.2.2.1)/\(∀u∈x.2.2.2.1,u<g.T.length/\0<=x.2.1 u)/\0<=x.2.1 t/\Dv g.T.length x.2.1/\x.2.2.2.1.length<=Gu g.T.length x.2.2.1+1/\2*Gb g.T.length x.2.1+x.2.2.2.1.length<=2*Gb g.T.length d+r.length,λx=>8-x.1⟩ zb ?_ ?_
  ·exact⟨(0,d,zx M t false,r,_,_),Tv,⟨Fag _,rfl,hob',zd _ _ _,hQ,hSP1,hM1,hr2,hdt,hcb,hwl,Faj _⟩,⟨Tq,Tq,Tq,Tq,Tq,Tq,Tq,Tq,Tq,Tq,Tv⟩,⟨rfl,Tv⟩⟩
  clear hQ hSP1 hM1 hr2 hwl hob' hob hob2 hSP hq1 hq2 hcb hql hdt
  rintro⟨i,e,M2,q,v,S2⟩ st2 ⟨hi,rfl,hob,hob2,hq,hSP,hq1,hq2,hdt,hcb,hql,hmu⟩
  dsimp only at hi hob hob2 hq hSP hq1 hq2 hdt hcb hql hmu⊢
  refine bcd (λc3=>?_) (λc3=>?_)
  rotate_left
  ·have:i=8:=by omega
   subst this
   refine⟨(e,M2,q,v,st2),?_,⟨rfl,hob,hob2,hq,zcu hSP,hq1,hq2,hcb,hql⟩,Qbh,⟨rfl,Tv⟩⟩
   show 2*Gb g.T.length e+q.length<2*Gb g.T.length d+(t::r).length
   simp only[Fba]
   omega
  have hlt:i<8:=by omega
  refine mm hg hc t htn i hlt _ _ ?_
  rw[show Oy g (zj g l c s) c t i=yv g (zj g l c s) c t i from if_pos hok]
  have hsb:=Oz g (zj g l c s) c t i
  have hskip:=ey hSP
  have hedge:=uu (g:=g) (ok:=zj g l c s) (c:=c) (t:=t) (way:=i) hok htn hlt
  have hnote:=λ(u:Nat)=>zoa Lm hSP (t:=t) (u:=u) (c:=yv g (zj g l c s) c t i) hdt
  have hor:=Hu hg t hlt
  have hfree:=λh=>Mc (g:=g) (ok:=zj g l c s) (c:=c) (t:=t) (w:=i) h
  have hgo2:∀(e':Nat->Int) (M':Nat->Bool) (q':List Nat),SP (xm g (zj g l c s) c) goal e' (inQ q') (Bc g (zj g l c s) c t i)->(∀u:Nat,yc g t i=u->0<yv g (zj g l c s) c t i->0<=e' u/\e' u<=e' t+yv g (zj g l c s) c t i)->SP (xm g (zj g l c s) c) goal e' (inQ q') (Bc g (zj g l c s) c t (i+1)):=λe' M' q' h1 h2=>ey h1 h2
  have hget:=Mz (g:=g) (t:=t) hlt
  have hbt:=hbig e hcb t
  generalize yv g (zj g l c s) c t i=E at*
  generalize yc g t i=U at*
  refine zy (λd2=>?_) (λd2=>?_)
  ·refine Qd ?_
   exact⟨(i+1,e,M2,q,v,st2),(show 8-(i+1)<8-i by omega),⟨by dsimp only;omega,rfl,hob,hob2,hq,hskip (λu _ h0=>absurd h0 (by omega)),hq1,hq2,hdt,hcb,hql,hmu⟩,Qbh,⟨rfl,Tv⟩⟩
  have hE0:0<E:=by omega
  obtain⟨u,rfl,hul⟩:∃u:Nat,U=(u:Int)/\u<g.T.length:=by
   rcases hor with h1|h1
   ·exact absurd (hfree (Hl h1)) d2
   ·exact h1
  have hedge:=hedge hE0
  rw[Fa0]at hedge
  have hnote:=λh1 h2=>hnote u h1 hedge h2
  refine⟨i,rfl,za _ hget ?_⟩
  refine Qc zb zp7 ?_
  refine⟨u,rfl,hul,?_⟩
  refine Qbm ?_
  refine za _ (jx hul) ?_
  refine bcd (λc4=>?_) (λc4=>?_)
  rotate_left
  have hl:e u<0\/e t+E<e u:=.inl (by omega)
  rotate_left
  refine⟨u,rfl,hul,?_⟩
  refine Qbm ?_
  refine za _ (jx hul) ?_
  refine⟨t,rfl,htn,?_⟩
  refine Qbm ?_
  refine za _ (jx htn) ?_
  refine Qd ?_
  refine bcd (λc5=>?_) (λc5=>?_)
  ·refine Qd ?_
   exact⟨(i+1,e,M2,q,v,st2),(show 8-(i+1)<8-i by omega),⟨by dsimp only;omega,rfl,hob,hob2,hq,hskip (λu' hu' _=>by
    have:u=u':=by omega
    subst this
    exact⟨c4,c5⟩),hq1,hq2,hdt,hcb,hql,hmu⟩,Qbh,⟨rfl,Tv⟩⟩
  have hl:e u<0\/e t+E<e u:=.inr (by omega)
  all_goals
   have htu:t≠u:=λh=>by subst h;rcases hl with h|h<;>omega
   have hSPn:=hnote htu hl
   have hcbn:=Rr hcb hul hdt ⟨hE0,hsb.2⟩ hl
   have hlf:=zyu hcb hul hdt ⟨hE0,hsb.2⟩ hl
   have hdtn:zx e u (e t+E) t=e t:=xf htu
   have hdun:zx e u (e t+E) u=e t+E:=j1 _ _ _
   have hnn:∀x,0<=e x->0<=zx e u (e t+E) x:=λx hx=>by
    unfold zx
    split
    ·omega
    ·exact hx
   have hob3:(st2.sO b (.cells (il g.T.length (zx e u (e t+E))))).obj b2=_:=(zi hb2).trans hob2
   have hq3:=hq.set1 (.cells (il g.T.length (zx e u (e t+E))))
   refine⟨t,rfl,htn,?_⟩
   refine Qbm ?_
   refine za _ (jx htn) ?_
   refine Qd ?_
   refine⟨u,rfl,hul,?_⟩
   refine yj (i:=ti2) (v:=int (e t+E)) (b:=b) (o:=0+u*1) (l:=il g.T.length e) (st2:=st2.sO b (.cells (il g.T.length (zx e u (e t+E))))) rfl rfl rfl hob (by rw[qx];omega) ?_ ?_
   ·rw[Gf _ _ _ _ hul]
   generalize hS3:st2.sO b (.cells (il g.T.length (zx e u (e t+E))))=S3 at*
   have hob1:S3.obj b=some (.cells (il g.T.length (zx e u (e t+E)))):=by rw[<-hS3,zd]
   generalize hed:zx e u (e t+E)=e2 at*
   refine⟨u,rfl,hul,?_⟩
   refine Qbm ?_
   refine za _ (R0 hul) ?_
   refine yd ?_
   refine zh (λc6=>?_) (λc6=>?_)
   ·refine Qd ?_
    have hmem:=hq1 u c6
    refine⟨(i+1,e2,M2,q,v,S3),(show 8-(i+1)<8-i by omega),⟨by dsimp only;omega,rfl,hob1,hob3,hq3,?_,hq1,λx hx=>⟨(hq2 x hx).1,hnn x (hq2 x hx).2⟩,by dsimp only;omega,hcbn,hql,by dsimp only;omega⟩,Qbh,⟨rfl,Tv⟩⟩
    refine hgo2 e2 (λ_=>true) _ (Vp hSPn (λx hx=>?_) (λx hx=>hnn x (hq2 x (inQ_iff.1 hx)).2)) (λu' hu' _=>?_)
    ·unfold zx at hx
     split at hx
     ·rename_i ex;subst ex;exact inQ_iff.2 hmem
     ·exact hx
    ·have:u=u':=by omega
     subst this
     omega
   refine⟨u,rfl,hul,?_⟩
   refine yj (i:=ti4) (v:=V.bool true) (b:=b2) (o:=0+u*1) (l:=bl g.T.length M2) (st2:=S3.sO b2 (.cells (bl g.T.length (zx M2 u true)))) rfl rfl rfl hob3 (by rw[ku];omega) ?_ ?_
   ·rw[dq _ _ _ _ hul]
   refine⟨by decide,?_⟩
   refine zv1 (ie:=ti2) rfl rfl (by decide) (hq3.set2 (.cells (bl g.T.length (zx M2 u true)))) (by have:=fh g.T.length M2;omega) ((zi (Ne.symm hb2)).trans hob1) (zd _ _ _) u (λv2 S4 g1 g2 g3=>?_)
   have hw:=fg (n:=g.T.length) (W:=M2) hul true
   rw[c6]at hw
   refine Qd ?_
   refine⟨(i+1,e2,zx M2 u true,q++[u],v2,S4),(show 8-(i+1)<8-i by omega),⟨by dsimp only;omega,rfl,g2,g3,g1,?_,λx hx=>?_,λx hx=>?_,by dsimp only;omega,hcbn,?_,?_⟩,Qbh,⟨rfl,Tv⟩⟩
   ·refine hgo2 e2 (λ_=>true) _ (Vp hSPn (λx hx=>?_) (λx hx=>?_)) (λu' hu' _=>?_)
    ·rw[inQ_iff]
     unfold zx at hx
     split at hx
     ·rename_i ex;subst ex;simp
     ·exact Fdy _ (inQ_iff.1 hx)
    ·rcases Fan.1 (inQ_iff.1 hx)with h1|h1
     ·exact hnn x (hq2 x h1).2
     ·have:=Fb1.1 h1
      subst this
      omega
    ·have:u=u':=by omega
     subst this
     omega
   ·unfold zx at hx
    dsimp only at hx
    split at hx
    ·rename_i ex;subst ex;simp
    ·exact Fdy _ (hq1 x hx)
   ·rcases Fan.1 hx with h1|h1
    ·exact⟨(hq2 x h1).1,hnn x (hq2 x h1).2⟩
    ·have:=Fb1.1 h1
     subst this
     exact⟨hul,by dsimp only;omega⟩
   ·show(q++[u]).length<=Gu g.T.length (zx M2 u true)+1
    simp only[Fad,Fas]
    simp at hw
    omega
   ·show 2*Gb g.T.length e2+(q++[u]).length<=_
    simp only[Fad,Fas]
    omega
section
variable {g:Gnd} {c s:Int}
noncomputable def Fv(g:Gnd)(ok:Nat->Bool)(c:Int)(d:Nat->Int)(i t:Nat):Int:=if t<i then qr g ok c d t else 0
theorem zcq{ok:Nat->Bool}{d:Nat->Int}{i:Nat}:Fv g ok c d (i+1)=zx (Fv g ok c d i) i (qr g ok c d i):=funext λt=>by
 unfold Fv zx
 dsimp only
 by_cases h:t=i
 ·subst h;rw[if_pos (by omega),if_pos rfl]
 ·rw[if_neg h]
  by_cases h2:t<i
  ·rw[if_pos h2,if_pos (by omega)]
  ·rw[if_neg h2,if_neg (by omega)]
theorem zc5{α:Type}(d:Nat->α)(u:Nat)(x y:α):zx (zx d u x) u y=zx d u y:=funext λt=>by
 unfold zx
 split<;>rfl
theorem zzq(g:Gnd)(ok:Nat->Bool)(c:Int)(d:Nat->Int)(n:Nat):il n (Fv g ok c d n)=il n (qr g ok c d):=Gh λt ht=>if_pos ht
theorem zu1(hg:zr g){l:List Bld}(hl:l.length<=1000000000000)(hb:∀b∈l,yg b/\onP g b)(hc:c=0\/c=1\/c=2)(hs:0<=s)(goal:Nat)(hgo:goal<g.T.length)(R:Ja)
  (h:∀b S,S.obj b=some (.cells (il g.T.length (qr g (zj g l c s) c (qy g (zj g l c s) c goal))))->R (.s (.slice (some ⟨b,0,none⟩) g.T.length g.T.length)) S):
  Jb 93 [.agg (zp g),lst 6 zk l,int c,int s,int (goal:Nat)] Store.empty R:=by
 have ha:=qe hg
 have hT:g.T.length<=16384:=by omega
 refine Qa (c:=cfg 92) zb Tryz.func93 ?_
 refine V1 g hg l hl hb c hc s hs _ _ ?_
 refine zuh hg hc goal hgo _ (λb S hob hF=>?_)
 refine Bt rfl (it:=ti29) (ie:=ti2) rfl rfl rfl rfl rfl (n:=g.T.length) ?_ ?_ (λb2 hf2=>?_)
 ·show 8*g.T.length<=_;omega
 ·omega
 have hbb:b2≠b:=λe=>by rw[e]at hf2;rw[hf2.1]at hob;cases hob
 generalize qy g (zj g l c s) c goal=D at*
 have il0:List.replicate g.T.length (AV.s (.int .i64 0))=il g.T.length (Fv g (zj g l c s) c D 0):=(Ng _).trans (Gh λt _=>(if_neg (Fa2 t)).symm)
 refine AWp.loop (σ:=Nat) ⟨λi=>[(2,.av (int c)),(5,.bx 5 0),(11,.av (C6 g l c s)),(12,.av (.s (.slice (some ⟨b,0,none⟩) g.T.length g.T.length))),(13,.av (.s (.slice (some ⟨b2,0,none⟩) g.T.length g.T.length))),(14,.av (int (i:Nat)))],λ_=>[(5,zp g)],
  λi st'=>i<=g.T.length/\st'=S.sO b2 (.cells (il g.T.length (Fv g (zj g l c s) c D i))),λi=>g.T.length-i⟩ zb ?_ ?_
 ·exact⟨0,Tv,⟨Fag _,by rw[<-il0]⟩,Qbh,⟨rfl,Tv⟩⟩
 rintro i st' ⟨hi,rfl⟩
 dsimp only at hi⊢
 refine zh (λd1=>?_) (λd1=>?_)
 rotate_left
 ·have:i=g.T.length:=by
   have:¬i<g.T.length:=by simpa using d1
   omega
  subst this
  exact ret (h b2 _ (by rw[zd,zzq]))
 have hlt:i<g.T.length:=by simpa using d1
 have hobT:=λx=>(zi (st:=S) (b:=b) (p:=b2) (x:=x) (Ne.symm hbb)).trans hob
 refine⟨i,rfl,hlt,?_⟩
 refine yj (i:=ti2) (v:=int (-1)) (b:=b2) (o:=0+i*1) (l:=il g.T.length (Fv g (zj g l c s) c D i)) (st2:=S.sO b2 (.cells (il g.T.length (zx (Fv g (zj g l c s) c D i) i (-1))))) rfl rfl rfl (zd _ _ _) (by rw[qx];omega) ?_ ?_
 ·rw[yp,Gf _ _ _ _ hlt]
 have hn:=zcq (g:=g) (ok:=zj g l c s) (c:=c) (d:=D) (i:=i)
 refine⟨i,rfl,hlt,?_⟩
 refine za (o:=(S.sO b2 _).obj b) _ (hobT _) ?_
 refine za _ (jx hlt) ?_
 refine bcd (λc1=>?_) (λc1=>?_)
 ·rw[fc c1]at hn
  refine Qd ?_
  exact⟨i+1,(show g.T.length-(i+1)<g.T.length-i by omega),⟨hlt,by rw[hn]⟩,Qbh,⟨rfl,Tv⟩⟩
 refine Mn g hg i hlt _ _ ?_
 have hoki:=(hF i).1 (by omega)
 generalize Fv g (zj g l c s) c D i=B0 at*
 refine AWp.loop (σ:=Nat×Int) ⟨λx=>[(2,.av (int c)),(5,.bx 5 0),(11,.av (C6 g l c s)),(12,.av (.s (.slice (some ⟨b,0,none⟩) g.T.length g.T.length))),(13,.av (.s (.slice (some ⟨b2,0,none⟩) g.T.length g.T.length))),(14,.av (int (i:Nat))),(15,.av (qn (jc g i))),(16,.av (int ((x.1:Nat)-1:Int)))],λ_=>[(5,zp g)],
  λx st'=>x.1<=8/\st'=S.sO b2 (.cells (il g.T.length (zx B0 i x.2)))/\((x.2=-1/\∀w,x.1<=w->w<8->¬vi g (zj g l c s) c D i w)\/∃j:Nat,x.2=(j:Int)/\x.1<=j/\j<8/\vi g (zj g l c s) c D i j/\∀w,x.1<=w->w<j->¬vi g (zj g l c s) c D i w),λx=>x.1⟩ zb ?_ ?_
 ·exact⟨(8,-1),Tv,⟨Faj _,rfl,.inl ⟨rfl,λw h1 h2=>absurd h2 (by omega)⟩⟩,Qbh,⟨rfl,Tv⟩⟩
 rintro⟨k,y⟩ st' ⟨hk,rfl,hy⟩
 dsimp only at hk hy⊢
 cases k with
 |zero=>
  have hyw:y=qr g (zj g l c s) c D i:=by
   rcases hy with⟨h1,h2⟩|⟨j,h1,_,h3,h4,h5⟩
   ·rw[h1,fa c1 (λw hw=>h2 w (Fag _) hw)]
   ·rw[h1,ez c1 h3 h4 (λw hw=>h5 w (Fag _) hw)]
  subst hyw
  refine Qd ?_
  exact⟨i+1,(show g.T.length-(i+1)<g.T.length-i by omega),⟨hlt,by rw[hn]⟩,Qbh,⟨rfl,Tv⟩⟩
 |succ w=>
 have hw:w<8:=by omega
 rw[show(((w+1:Nat):Int)-1)=(w:Int) by omega]
 refine mm hg hc i hlt w hw _ _ ?_
 rw[show Oy g (zj g l c s) c i w=yv g (zj g l c s) c i w from if_pos hoki]
 have hgo1:vi g (zj g l c s) c D i w↔(0<yv g (zj g l c s) c i w/\0<=D (yc g i w).toNat/\yv g (zj g l c s) c i w+D (yc g i w).toNat=D i):=Iff.rfl
 have hno:¬vi g (zj g l c s) c D i w->((y=-1/\∀w',w<=w'->w'<8->¬vi g (zj g l c s) c D i w')\/∃j:Nat,y=(j:Int)/\w<=j/\j<8/\vi g (zj g l c s) c D i j/\∀w',w<=w'->w'<j->¬vi g (zj g l c s) c D i w'):=λhn0=>by
  have key:∀w',w<=w'->w'=w\/w+1<=w':=λw' h=>by omega
  rcases hy with⟨h1,h2⟩|⟨j,h1,h2,h3,h4,h5⟩
  ·exact .inl ⟨h1,λw' h3 h4=>(key w' h3).elim (λe=>e▸hn0) (λh=>h2 w' h h4)⟩
  ·exact .inr ⟨j,h1,by omega,h3,h4,λw' h6 h7=>(key w' h6).elim (λe=>e▸hn0) (λh=>h5 w' h h7)⟩
 have hsb:=Oz g (zj g l c s) c i w
 have hor:=Hu hg i hw
 have hfree:=λh=>Mc (g:=g) (ok:=zj g l c s) (c:=c) (t:=i) (w:=w) h
 have hget:=Mz (g:=g) (t:=i) hw
 have hlast:vi g (zj g l c s) c D i w->(((w:Int)=-1/\∀w',w<=w'->w'<8->¬vi g (zj g l c s) c D i w')\/∃j:Nat,(w:Int)=(j:Int)/\w<=j/\j<8/\vi g (zj g l c s) c D i j/\∀w',w<=w'->w'<j->¬vi g (zj g l c s) c D i w'):=λhg1=>.inr ⟨w,rfl,Faj _,hw,hg1,λw' h1 h2=>absurd h2 (by omega)⟩
 generalize yv g (zj g l c s) c i w=E at*
 generalize yc g i w=U at*
 refine Qc zb zoz ?_
 refine bcd (λc3=>?_) (λc3=>?_)
 rotate_left
 ·refine Qd ?_
  exact⟨(w,y),Fcp w,⟨by dsimp only;omega,rfl,hno (λq=>c3 (hgo1.1 q).1)⟩,Qbh,⟨rfl,Tv⟩⟩
 obtain⟨u,rfl,hul⟩:∃u:Nat,U=(u:Int)/\u<g.T.length:=by
  rcases hor with h1|h1
  ·exact absurd (hfree (Hl h1)) (by omega)
  ·exact h1
 rw[Fa0]at hgo1
 have hDu:=hF u
 refine⟨w,rfl,za _ hget ?_⟩
 refine⟨u,rfl,hul,?_⟩
 refine za (o:=(S.sO b2 _).obj b) _ (hobT _) ?_
 refine za _ (jx hul) ?_
 refine bcd (λc4=>?_) (λc4=>?_)
 rotate_left
 ·refine Qd ?_
  exact⟨(w,y),Fcp w,⟨by dsimp only;omega,rfl,hno (λq=>c4 (hgo1.1 q).2.1)⟩,Qbh,⟨rfl,Tv⟩⟩
 refine⟨w,rfl,za _ hget ?_⟩
 refine⟨u,rfl,hul,?_⟩
 refine za (o:=(S.sO b2 _).obj b) _ (hobT _) ?_
 refine za _ (jx hul) ?_
 refine Qd ?_
 refine⟨i,rfl,hlt,?_⟩
 refine za (o:=(S.sO b2 _).obj b) _ (hobT _) ?_
 refine za _ (jx hlt) ?_
 refine zy (λc5=>?_) (λc5=>?_)
 rotate_left
 ·refine Qd ?_
  exact⟨(w,y),Fcp w,⟨by dsimp only;omega,rfl,hno (λq=>c5 (by have:=(hgo1.1 q).2.2;omega))⟩,Qbh,⟨rfl,Tv⟩⟩
 refine⟨i,rfl,hlt,?_⟩
 refine yj (i:=ti2) (v:=int (w:Nat)) (b:=b2) (o:=0+i*1) (l:=il g.T.length (zx B0 i y)) (st2:=S.sO b2 (.cells (il g.T.length (zx B0 i (w:Int))))) rfl rfl rfl (zd _ _ _) (by rw[qx];omega) ?_ ?_
 ·rw[yp,Gf _ _ _ _ hlt,zc5]
 refine Qd ?_
 exact⟨(w,(w:Int)),Fcp w,⟨by dsimp only;omega,rfl,hlast (hgo1.2 ⟨c3,c4,by omega⟩)⟩,Qbh,⟨rfl,Tv⟩⟩
theorem zu0(hg:zr g){l:List Bld}(hl:l.length<=1000000000000)(hb:∀b∈l,yg b/\onP g b)(hc:c=0\/c=1\/c=2)(hs:0<=s)(goal:Nat)(hgo:goal<g.T.length)(st:Store)(R:Ja)
  (h:∀b N,N.obj b=some (.cells (il g.T.length (qr g (zj g l c s) c (qy g (zj g l c s) c goal))))->zl N st->R (.s (.slice (some ⟨b,0,none⟩) g.T.length g.T.length)) (N.un st)):
  Jb 93 [.agg (zp g),lst 6 zk l,int c,int s,int (goal:Nat)] st R:=by
 rw[<-wu st]
 exact ACalls.frame (λb hb=>(hb.elim (λh=>h rfl) (λh=>h rfl):False).elim) (zu1 hg hl hb hc hs goal hgo (λr S=>∃b,r=.s (.slice (some ⟨b,0,none⟩) g.T.length g.T.length)/\S.obj b=some (.cells (il g.T.length (qr g (zj g l c s) c (qy g (zj g l c s) c goal))))) (λb S hS=>⟨b,rfl,hS⟩)) λr N ⟨b,e,hN⟩ hd=>by rw[e];exact h b N hN hd
end
def Gi(w:Wld)(u:Unt)(k:Nat):Vc:=(w.U.take k).foldl (λv x=>if x.inn=0/\x.id≠u.id then q9 v (ju u.pos (zv u.kind+zv x.kind+16384) x.pos)else v) (0,0)
theorem sw{w:Wld}{u:Unt}{k:Nat}(hk:k<w.U.length):Gi w u (k+1)=if w.U[k].inn=0/\w.U[k].id≠u.id then q9 (Gi w u k) (ju u.pos (zv u.kind+zv w.U[k].kind+16384) w.U[k].pos)else Gi w u k:=by
 unfold Gi
 rw[Fac hk,List.foldl_append]
 rfl
theorem zzx(w:Wld)(u:Unt):Gi w u w.U.length=Ai w u:=by
 unfold Gi Ai
 rw[Fap]
theorem zzw{w:Wld}{u:Unt}:∀k,k<=w.U.length->(Gi w u k).ok:=by
 intro k
 induction k with
 |zero=>
  intro _
  have:Vc.ok (0,0):=⟨⟨by decide,by decide⟩,⟨by decide,by decide⟩⟩
  exact this
 |succ k ih=>
  intro hk
  rw[sw (by omega)]
  split
  ·exact Sr _ _
  ·exact ih (by omega)
theorem zvj(w:Wld)(hw:playW w){i:Nat}(hi:i<w.U.length)(h0:w.U[i].inn=0)(st:Store)(R:Ja)(h:R (.agg (zo (Ai w w.U[i]))) st):Jb 49 [.agg (zt w),int (i:Nat)] st R:=by
 have f:=jd hw.1
 have hU:=f.hU
 have hkd:=λ(k:Nat) (hk:k<w.U.length)=>f.hk _ (Faa hk)
 have hne:∀(k:Nat) (hk:k<w.U.length),k≠i->w.U[k].id≠w.U[i].id:=λk hk hki=>by
  rcases Feg k i with g|g
  ·have:=Dh hw.1.1.2.1 g hi
   omega
  ·have:=Dh hw.1.1.2.1 (show i<k by omega) hk
   omega
 refine Qa (c:=cfg 55) zb Tryz.func49 ?_
 refine⟨i,rfl,za _ (zm hi) ?_⟩
 refine Bj w.U[i].kind (hkd i hi) _ _ ?_
 refine AWp.loop (σ:=Nat) ⟨λk=>[(1,.av (int (i:Nat))),(2,.bx 2 0),(4,.bx 4 0),(5,.bx 5 0),(6,.av (int (zv w.U[i].kind))),(7,.bx 7 0),(8,.av (int (k:Nat)))],λk=>[(2,zt w),(4,[int 0,int 0]),(5,zf w.U[i]),(7,zo (Gi w w.U[i] k))],
  λk st'=>k<=w.U.length/\st'=st,λk=>w.U.length-k⟩ zb ?_ ?_
 ·exact⟨0,Tv,⟨Fag _,rfl⟩,Qbh,⟨rfl,rfl,rfl,rfl,Tv⟩⟩
 rintro k st' ⟨hk,rfl⟩
 dsimp only at hk⊢
 refine zh (λd1=>?_) (λd1=>?_)
 rotate_left
 ·have:k=w.U.length:=qv d1 hk
  subst this
  rw[zzx]
  exact ret h
 have hlt:k<w.U.length:=qq d1
 have hnx:=sw (u:=w.U[i]) hlt
 have hok:=zzw (u:=w.U[i]) k hk
 refine⟨k,rfl,za _ (zm hlt) ?_⟩
 refine zy (λc1=>?_) (λc1=>?_)
 ·have:k=i:=by omega
  subst this
  rw[if_neg (λq=>q.2 rfl)]at hnx
  refine Qd ?_
  exact⟨k+1,(show w.U.length-(k+1)<w.U.length-k by omega),⟨hlt,rfl⟩,Qbh,⟨rfl,rfl,rfl,by(rw[hnx];rfl),Tv⟩⟩
 refine qj (λc2=>?_) (λc2=>?_)
 ·rw[if_neg (λq=>c2 q.1)]at hnx
  refine Qd ?_
  exact⟨k+1,(show w.U.length-(k+1)<w.U.length-k by omega),⟨hlt,rfl⟩,Qbh,⟨rfl,rfl,rfl,by(rw[hnx];rfl),Tv⟩⟩
 rw[if_pos ⟨c2,hne k hlt (by omega)⟩]at hnx
 have r1:=Bl w.U[i].kind
 have r2:=Bl w.U[k].kind
 have m1:=Dm hw.1 (Faa hi) h0
 have m2:=Dm hw.1 (Faa hlt) c2
 have hpo:(ju w.U[i].pos (zv w.U[i].kind+zv w.U[k].kind+16384) w.U[k].pos).ok:=by have:=Pj m1 m2 (show 0<zv w.U[i].kind+zv w.U[k].kind+16384 by omega);exact⟨⟨by omega,by omega⟩,⟨by omega,by omega⟩⟩
 refine Qc zb zqg ?_
 refine⟨by decide,?_⟩
 refine⟨Bj w.U[k].kind (hkd k hlt) _ _ ⟨Qe,?_⟩,Tv⟩
 refine Qd ?_
 refine Qd ?_
 refine⟨ztc w.U[i].pos (zv w.U[i].kind+zv w.U[k].kind+16384) w.U[k].pos m1 m2 (by omega) _ _ ⟨Qe,?_⟩,Tv⟩
 refine⟨Mj (Gi w w.U[i] k) _ hok hpo _ _ ⟨Qe,?_⟩,Tv⟩
 refine Qbl ?_
 refine Qd ?_
 exact⟨k+1,(show w.U.length-(k+1)<w.U.length-k by omega),⟨hlt,rfl⟩,Qbh,⟨rfl,rfl,rfl,by(rw[hnx];rfl),Tv⟩⟩
section
variable {S:Store} {v0 v:AV} {i:Nat}
theorem ydq{l:List Unt}(hv0:RowsQ 10 zf S v0 l)(hl:l.length<=1000000)(R:Ja)(h:∀v N,RowsO 10 zf N v l->zl N S->R v (N.un S)):Jb 42 [v0] S R:=by
 obtain⟨oa,c0,rfl,hget⟩:=hv0.form
 refine Qa (c:=cfg 19) zb Tryz.func42 ?_
 refine AWp.loop (σ:=Nat×AV×Store) ⟨λs=>[(0,.av (.s (.slice oa l.length c0))),(3,.av s.2.1),(4,.av (int s.1))],λ_=>[],λs st'=>s.1<=l.length/\st'=s.2.2.un S/\zl s.2.2 S/\RowsO 10 zf s.2.2 s.2.1 (l.take s.1),λs=>l.length-s.1⟩ zb ?_ ?_
 ·exact⟨(0,_,Store.empty),Tv,⟨Fag _,(wu S).symm,I2 S,.inl ⟨rfl,rfl⟩⟩,⟨Tq,Tq,Tq,Tv⟩,Tv⟩
 ·rintro⟨i,v,N⟩ st' ⟨hi,rfl,hd,ha⟩
  dsimp only at hi ha hd⊢
  refine zh (λh1=>?_) (λh1=>?_)
  ·have hlt:i<l.length:=by simpa using h1
   obtain⟨b,J,rfl,ho⟩:=hget i hlt
   refine⟨i,rfl,hlt,?_⟩
   refine za (o:=(N.un S).obj b) _ (zg ho) ?_
   refine yk (i:=ti50) (row:=zf l[i]) rfl rfl (xn yo hlt) ?_
   refine⟨by decide,?_⟩
   refine N6 (ie:=ti50) rfl (λ_=>rfl) (by decide) (ha.unL hd) l[i] rfl (by rw[Fao];omega) (λb2 cap L q1 q2 q3 q4=>?_)
   have hnb:¬S.has b2:=by
    rcases q1 with q1|⟨c1,q1⟩
    ·exact fresh_iff.1 (fresh_un q1).2
    ·subst q1
     rcases ha with⟨e,_⟩|⟨b3,c3,L3,e,e2,_⟩
     ·cases e
     ·cases e
      exact hd _ (ji e2)
   rw[Bf hnb]
   refine⟨⟨by omega,by omega⟩,?_⟩
   refine⟨(i+1,_,_),?_,⟨hlt,rfl,Br hd hnb,?_⟩,⟨Tq,Tq,Tq,Tv⟩,Tv⟩
   ·show l.length-(i+1)<l.length-i
    omega
   ·dsimp only
    rw[Fac hlt]
    exact .inr ⟨b2,cap,L,rfl,zd _ _ _,q2,q3,q4⟩
  ·have hge:i=l.length:=by
    have:¬i<l.length:=by simpa using h1
    omega
   subst hge
   rw[Fap]at ha
   exact ret (h _ _ ha hd)
theorem ydm{w:Wld}(hv0:RowsQ 10 zf S v0 w.U)(hw:w.fits)(hU:w.U.length<=1000000)(R:Ja)(h:∀v N,RowsO 10 zf N v w.U->zl N S->R (.agg (zw w v)) (N.un S)):Jb 13 [.agg (zw w v0)] S R:=by
 have hv2:=hv0
 obtain⟨oa,c0,rfl,_⟩:=hv2.form
 refine Qa (c:=cfg 18) zb Tryz.func13 ?_
 refine cu w.G hw.1 _ _ ?_
 refine cw w.B hw.2.1 _ _ ?_
 refine ydq hv0 hU _ (λv N hv hd=>?_)
 have hv2:=hv
 rcases hv2 with⟨rfl,_⟩|⟨b,cap,L,rfl,_⟩
 ·exact ret (h _ N hv hd)
 ·exact ret (h _ N hv hd)
theorem zuv{w:World}{T:Nat->Nat->Prop}{x y z t:AV}{vs:List Value}(h:Reads w T [x,y,z,t] vs):∃a b c d,vs=[a,b,c,d]/\VRel w T x a/\VRel w T y b/\VRel w T z c/\VRel w T t d:=by
 obtain⟨h1,h2⟩:=h
 match vs,h1,h2 with
 |[a,b,c,d],_,h2=>exact⟨a,b,c,d,rfl,h2 0 _ _ rfl rfl,h2 1 _ _ rfl rfl,h2 2 _ _ rfl rfl,h2 3 _ _ rfl rfl⟩
theorem zte{w:Wld}(hv:RowsQ 10 zf S v w.U)(hw:playW w)(id k:Int)(hk:jv k)(q:Vc)(hq:q.ok)(R:Ja)
  (h:∀z:Bool,(z=true↔qa w id k q)->R (V.bool z) S):Jb 33 [.agg (zw w v),int id,int k,.agg (zo q)] S R:=
 ACalls.read (ys:=[.agg (zt w),int id,int k,.agg (zo q)]) (Q:=λr=>∃z:Bool,r=V.bool z/\(z=true↔qa w id k q)) (λOth M W vs sto hr=>by
  obtain⟨a,b,c,d,rfl,h1,h2,h3,h4⟩:=zuv hr
  exact Reads.cons (Ch hv sto h1) (Reads.cons (xp h2) (Reads.cons (xp h3) (Reads.cons (xp h4) Reads.nil)))) (ztf w hw id k hk q hq _ _ λz hz=>⟨z,rfl,hz⟩) (λr ⟨z,e,_⟩=>e▸Iw _) (λr ⟨z,e,hz⟩=>e▸h z hz)
theorem m8{w:Wld}(hv:RowsQ 10 zf S v w.U)(hw:playW w){i:Nat}(hi:i<w.U.length)(id:Int)(hid:w.U[i].id=id)(R:Ja)(h:R (int (i:Nat)) S):Jb 29 [.agg (zw w v),int id] S R:=
 ACalls.read (ys:=[.agg (zt w),int id]) (Q:=λr=>r=int (i:Nat)) (λOth M W vs sto hr=>by
  obtain⟨x,y,rfl,h1,h2⟩:=Ff hr
  exact Reads.cons (Ch hv sto h1) (Reads.cons (xp h2) Reads.nil)) (zuf w hw hi id hid _ _ rfl) (λr hr=>hr▸Iw _) (λr hr=>hr▸h)
theorem zs6{w:Wld}(hv:RowsQ 10 zf S v w.U)(hw:playW w)(hi:i<w.U.length)(h0:w.U[i].inn=0)(d:Vc)(hd:d.ok)(R:Ja)
  (h:∀v2 N,RowsQ 10 zf (N.un S) v2 (xg w w.U[i] d).U->zl N S->R (.tup [.agg (zw (xg w w.U[i] d) v2),int (ww w w.U[i] d)]) (N.un S)):
  Jb 31 [.agg (zw w v),int w.U[i].id,.agg (zo d)] S R:=by
 have f:=jd hw.1
 have hU:=f.hU
 have hnd:=fm hd
 have hhalf:=λk=>ta hnd k
 have t0:H6 w w.U[i] (qm d) 0:=rfl
 have hnone:=λ(e:qb w w.U[i] (qm d) 5 0=none)=>Om e
 have hsome:=λk p (e:qb w w.U[i] (qm d) 5 0=some (k,p))=>S9 e
 have hkk:=f.hk _ (Faa hi)
 have hpk:=hw.2 _ (Faa hi)
 obtain⟨oa,c0,ev,hget⟩:=hv.form
 obtain⟨b,J,rfl,ho⟩:=hget i hi
 subst ev
 have hsame:qb w w.U[i] (qm d) 5 0=none->R (.tup [.agg (zw w (.s (.slice (some ⟨b,0,none⟩) w.U.length c0))),int 5]) S:=λe=>by
  obtain⟨e1,e2⟩:=hnone e
  have:=h (.s (.slice (some ⟨b,0,none⟩) w.U.length c0)) Store.empty (by rw[wu,e2];exact hv) (I2 S)
  rw[wu,e1,e2]at this
  exact this
 refine Qa (c:=cfg 74) zb Tryz.func31 ?_
 refine m8 hv hw hi w.U[i].id rfl _ ?_
 refine⟨i,rfl,hi,?_⟩
 refine Qbm ?_
 refine yk (i:=ti50) (row:=zf w.U[i]) rfl rfl (xn yo hi) ?_
 refine Qc zb zqo ?_
 refine⟨Fa d.1 _ _ ⟨Qe,?_⟩,Tv⟩
 refine⟨Fa d.2 _ _ ⟨Qe,?_⟩,Tv⟩
 refine Qbl ?_
 have hT:=hw.1.1.2.1
 have hR:∀k p,qb w w.U[i] (qm d) 5 0=some (k,p)->∀v2 N,RowsQ 10 zf (N.un S) v2 (w.U.set i {w.U[i]with pos:=p})->zl N S->R (.tup [.agg (zw w v2),int (k:Int)]) (N.un S):=λk p e v2 N h1 h2=>by
  obtain⟨e1,e2⟩:=hsome k p e
  have e3:=Ar (w:=w) hT hi (u:={w.U[i]with pos:=p}) rfl
  rw[e3]at e2
  have:=h v2 N (by rw[e2];exact h1) h2
  rw[e1,e2]at this
  exact this
 clear h hsome hnone
 have hhv:∀k,jy (qm d) k=((qm d).1.tdiv ((2^k:Nat):Int),(qm d).2.tdiv ((2^k:Nat):Int)):=λk=>rfl
 refine AWp.loop (σ:=Nat) ⟨λk=>[(1,.av (int w.U[i].id)),(3,.bx 3 0),(5,.bx 5 0),(6,.bx 6 0),(8,.av (int (i:Nat))),(9,.bx 9 0),(10,.av (int (k:Nat)))],λ_=>[(3,zw w (.s (.slice (some ⟨b,0,none⟩) w.U.length c0))),(5,zo (qm d)),(6,Ci),(9,zf w.U[i])],
  λk st'=>k<=5/\H6 w w.U[i] (qm d) k/\st'=S,λk=>5-k⟩ zb ?_ ?_
 ·exact⟨0,Tv,⟨Fag _,t0,rfl⟩,Qbh,⟨rfl,rfl,rfl,rfl,Tv⟩⟩
 rintro k st' ⟨hk,htk,rfl⟩
 dsimp only at hk htk⊢
 generalize qm d=nd at*
 refine bcd (λc1=>?_) (λc1=>?_)
 rotate_left
 ·exact ret (hsame (gu htk (λhq=>absurd hq (by omega)) hk))
 have hk5:k<5:=by omega
 have hsh:=lj hk5
 have hkv:=hhv k
 have hh:=hhalf k
 have hp2:((2^k:Nat):Int)≠0:=by have:0<2^k:=Nat.pow_pos (by decide);omega
 rw[<-hsh]at hkv hp2
 have hh1:yl (nd.1.tdiv (IntKind.i64.wrap (1*2^(min ((k:Int)).toNat IntKind.i64.bits)))):=by
  have:=hh.1
  rw[hkv]at this
  exact⟨by dsimp only at this;omega,by dsimp only at this;omega⟩
 have hh2:yl (nd.2.tdiv (IntKind.i64.wrap (1*2^(min ((k:Int)).toNat IntKind.i64.bits)))):=by
  have:=hh.2
  rw[hkv]at this
  exact⟨by dsimp only at this;omega,by dsimp only at this;omega⟩
 have nx:=zd5 htk hk5
 have sm:=zd4 htk hk5
 have no:=gu htk
 refine Qc zb zqn ?_
 refine⟨by omega,?_⟩
 refine⟨hp2,ze hh1 ?_⟩
 refine⟨by omega,?_⟩
 refine⟨hp2,ze hh2 ?_⟩
 refine⟨⟨?_,?_⟩,Tv⟩
 ·repeat(first|exact Tv|refine⟨rfl,?_⟩|refine⟨⟨by omega,rfl⟩,?_⟩|refine⟨⟨hp2,ze hh1 rfl⟩,?_⟩|refine⟨⟨hp2,ze hh2 rfl⟩,?_⟩)
 refine Qbl ?_
 rw[hkv]at nx sm no hh
 generalize nd.1.tdiv (IntKind.i64.wrap (1*2^(min ((k:Int)).toNat IntKind.i64.bits)))=x at*
 generalize nd.2.tdiv (IntKind.i64.wrap (1*2^(min ((k:Int)).toNat IntKind.i64.bits)))=y at*
 refine zy (λc2=>?_) (λc2=>?_)
 refine zy (λc3=>?_) (λc3=>?_)
 ·exact ret (hsame (no (λ_=>by rw[c2,c3]) hk))
 have hne:(x,y)≠((0:Int),(0:Int)):=λe=>c3 (congrArg (λv:Vc=>v.2) e)
 rotate_left
 have hne:(x,y)≠((0:Int),(0:Int)):=λe=>c2 (congrArg (λv:Vc=>v.1) e)
 all_goals
  refine Mj w.U[i].pos (x,y) hpk (Pq hh) _ _ ?_
  have nx:=nx hne
  have sm:=sm hne
  have hnp:=Sr w.U[i].pos (x,y)
  generalize q9 w.U[i].pos (x,y)=np at*
  refine zte hv hw w.U[i].id w.U[i].kind hkk np hnp _ (λz hz=>?_)
  refine zh (λc4=>?_) (λc4=>?_)
  rotate_left
  ·refine Qd ?_
   exact⟨k+1,(show 5-(k+1)<5-k by omega),⟨by omega,nx (λhc=>by rw[hz.2 hc]at c4;cases c4),rfl⟩,Qbh,⟨rfl,rfl,rfl,rfl,Tv⟩⟩
  have hRk:=hR _ _ (sm (hz.1 c4))
  refine ydm hv (jd hw.1).fits (by omega) _ (λv2 N hv2 hd2=>?_)
  rcases hv2 with⟨_,e⟩|⟨b2,cap,L,rfl,ho2,g1,g2,g3⟩
  ·rw[e]at hi;exact absurd hi (Fa2 i)
  have hnb:¬st'.has b2:=hd2 _ (ji ho2)
  have hlen:0+i*10+3+2<=((rws zf w.U).flatten++L).length:=by
   rw[Fad,ja yo]
   omega
  have hrow:=zti (g:=N) (b:=b2) (L:=L) g1 g2 g3 hi (j:=3) (ys:=zo np) (show 3+2<=10 by decide) (u':={w.U[i]with pos:=np}) rfl
  refine⟨i,rfl,hi,?_⟩
  refine j2 (i:=ti48) (v:=.agg (zo np)) (xs:=zo np) (b:=b2) (o:=0+i*10+3) (l:=(rws zf w.U).flatten++L) rfl rfl rfl (yr hd2 ho2) hlen ?_
  rw[Bf hnb]
  exact ret (hRk _ _ (RowsO.q (hrow.unL (Br hd2 hnb))) (Br hd2 hnb))
end
theorem ni{S:Store}{w:Wld}{v:AV}(hv:RowsQ 10 zf S v w.U)(hw:playW w){i:Nat}(hi:i<w.U.length)(h0:w.U[i].inn=0)(R:Ja)(h:R (.agg (zo (Ai w w.U[i]))) S):Jb 49 [.agg (zw w v),int (i:Nat)] S R:=
 ACalls.read (ys:=[.agg (zt w),int (i:Nat)]) (Q:=λr=>r=.agg (zo (Ai w w.U[i]))) (λOth M W vs sto hr=>by
  obtain⟨x,y,rfl,h1,h2⟩:=Ff hr
  exact Reads.cons (Ch hv sto h1) (Reads.cons (xp h2) Reads.nil)) (zvj w hw hi h0 _ _ rfl) (λr hr=>hr▸ybr [.int .i64 _,.int .i64 _]) (λr hr=>hr▸h)
theorem Qak{p:Prop}(h:p:=by rw[Fbp];rfl):p:=h
theorem D9{l:List Unt}{L:List AV}{i j:Nat}(hi:i<l.length)(hj:j+1<=10){y:AV}{u':Unt}(hu:zf u'=zu (zf l[i]) j [y]):zu ((rws zf l).flatten++L) (0+i*10+j) [y]=(rws zf (l.set i u')).flatten++L:=by
 rw[Fbe]
 exact Kr yo hi hj hu
theorem F5{l:List Unt}{L:List AV}{i j:Nat}(hi:i<l.length)(hj:j+1<=10):0+i*10+j+1<=((rws zf l).flatten++L).length:=by
 rw[Fad,ja yo]
 omega
theorem V6{S:Store}{b i:Nat}{l:List Unt}{L:List AV}(ho:S.obj b=some (.cells ((rws zf l).flatten++L)))(hi:i<l.length)(s:Int)(R:Ja)
  (h:R (.tup []) (S.sO b (.cells ((rws zf (l.set i (xq s l[i]))).flatten++L)))):
  Jb 50 [.s (.pointer (some ⟨b,0+i*10,none⟩)),int s] S R:=by
 have e1:=D9 (L:=L) hi (j:=5) (by decide) (y:=int (-1)) (u':={l[i]with goal:=-1}) rfl
 have hi1:i<(l.set i {l[i]with goal:=-1}).length:=by rw[Faf];exact hi
 have e2:=D9 (L:=L) hi1 (j:=6) (by decide) (y:=int (-1)) (u':={l[i]with goal:=-1,next:=-1}) Qak
 rw[Fbx]at e2
 have hi2:i<(l.set i {l[i]with goal:=-1,next:=-1}).length:=by rw[Faf];exact hi
 have e3:=D9 (L:=L) hi2 (j:=7) (by decide) (y:=int 0) (u':={l[i]with goal:=-1,next:=-1,stuck:=0}) Qak
 rw[Fbx]at e3
 have hi3:i<(l.set i {l[i]with goal:=-1,next:=-1,stuck:=0}).length:=by rw[Faf];exact hi
 have e4:=D9 (L:=L) hi3 (j:=9) (by decide) (y:=int s) (u':=xq s l[i]) Qak
 rw[Fbx]at e4
 refine Qa (c:=cfg 17) zb Tryz.func50 ?_
 refine yj (i:=ti2) (v:=int (-1)) (b:=b) (o:=0+i*10+5) (l:=(rws zf l).flatten++L) (st2:=S.sO b (.cells ((rws zf (l.set i {l[i]with goal:=-1})).flatten++L))) rfl rfl rfl ho (F5 hi (by decide)) (by rw[e1]) ?_
 refine yj (i:=ti2) (v:=int (-1)) (b:=b) (o:=0+i*10+6) (l:=_) (st2:=S.sO b (.cells ((rws zf (l.set i {l[i]with goal:=-1,next:=-1})).flatten++L))) rfl rfl rfl (zd _ _ _) (F5 hi1 (by decide)) (by rw[e2,yp]) ?_
 refine yj (i:=ti2) (v:=int 0) (b:=b) (o:=0+i*10+7) (l:=_) (st2:=S.sO b (.cells ((rws zf (l.set i {l[i]with goal:=-1,next:=-1,stuck:=0})).flatten++L))) rfl rfl rfl (zd _ _ _) (F5 hi2 (by decide)) (by rw[e3,yp]) ?_
 refine yj (i:=ti2) (v:=int s) (b:=b) (o:=0+i*10+9) (l:=_) (st2:=S.sO b (.cells ((rws zf (l.set i (xq s l[i]))).flatten++L))) rfl rfl rfl (zd _ _ _) (F5 hi3 (by decide)) (by rw[e4,yp]) ?_
 exact ret h
theorem Bo{U:List Unt}{J:List AV}{i j:Nat}(hi:i<U.length)(hj:j<10){y:AV}(hy:(zf U[i])[j]?=some y):(((rws zf U).flatten++J).drop (0+i*10+j)).head?=some y:=by
 have hd:=xn (f:=zf) (L:=J) yo hi
 rw[<-Fdk,hd,Fb2,Fam (by rw[yo];exact hj)]
 exact hy
theorem G7{U:List Unt}{J:List AV}{i:Nat}(hi:i<U.length):List.drop (0+i*10+3) ((rws zf U).flatten++J)=zo U[i].pos++(List.drop 5 (zf U[i])++((rws zf (U.drop (i+1))).flatten++J)):=by
 rw[<-Fdk,xn (f:=zf) (k:=10) yo hi]
 rfl
theorem zt8(l:List Int)(hl:l.length<=1000000000000)(n:Int)(st:Store)(R:Ja)(h:∀z:Int,(z<0↔l.contains n=false)->R (int z) st):Jb 51 [qn l,int n] st R:=by
 refine Qa (c:=cfg 19) zb Tryz.func51 ?_
 refine AWp.loop (σ:=Nat) ⟨λi=>[(0,.av (qn l)),(1,.av (int n)),(5,.av (int (i:Nat)))],λ_=>[],λi st'=>st'=st/\i<=l.length/\∀j (hj:j<i) (hl:j<l.length),n≠l[j],λi=>l.length-i⟩ zb ?_ ?_
 ·exact⟨0,Tv,⟨rfl,Fag _,λj hj=>(by omega)⟩,Qbh,Tv⟩
 rintro i st' ⟨rfl,hi,hno⟩
 refine zh (λh1=>?_) (λh1=>?_)
 ·have hlt:i<l.length:=qq h1
  refine⟨i,rfl,za _ (zm hlt) ?_⟩
  refine zy (λh2=>?_) (λh2=>?_)
  ·refine ret (h _ ?_)
   have hc:l.contains n=true:=by
    rw[List.contains_iff_mem]
    have h2:l[i]=n:=h2
    exact h2▸Faa hlt
   rw[hc]
   constructor
   ·intro hh;omega
   ·intro hh;cases hh
  ·refine⟨⟨by omega,by omega⟩,?_⟩
   refine⟨i+1,?_,⟨rfl,hlt,λj hj hl=>?_⟩,Qbh,Tv⟩
   ·show l.length-(i+1)<l.length-i
    omega
   ·by_cases hji:j=i
    ·subst hji;exact λe=>h2 e.symm
    ·exact hno j (by omega) hl
 ·have hge:i=l.length:=qv h1 hi
  subst hge
  refine ret (h (-1) ?_)
  refine⟨λ_=>?_,λ_=>by decide⟩
  rw[<-Bool.not_eq_true,List.contains_iff_mem]
  intro hm
  obtain⟨j,hj,e⟩:=Fak hm
  exact hno j hj hj e.symm
end Go.Proofs
namespace Go.Proofs
open Go Go.V
set_option maxRecDepth 20000
set_option maxHeartbeats 4000000
section
variable {N:Store} {w:Wld} {fb k:Nat} {room:Int}
theorem zx6{Nu:Store}{v:AV}(hu:RowsQ 10 zf Nu v w.U)(hp:playW w)(hd:zl Nu N){k:Nat}(hF:FldAny fb room (k:Nat) N)(hk:k<=1000000000000000000)(R:Ja)
  (h:∀X N',RowsQ 10 zf X v (Dz w).U->zl X N'->FldAny fb room ((k+w.U.length:Nat):Int) N'->R (.agg (zw (Dz w) v)) (X.un N')):Jb 73 [.agg (zw w v),ptr fb] (Nu.un N) R:=by
 have hm:=jd hp.1
 have hU:=hm.hU
 obtain⟨oa,cap,ev,hget⟩:=hu.form
 subst ev
 refine Qa (c:=cfg 45 [13] []) zb Tryz.func73 ?_
 refine ACalls.frame hd (oo w _ Nu hu (by omega) hp.2 (λr S=>∃F s p L o0 o1 o2,r=ptr s/\S=F.un (svS Nu s w (.s (.slice oa w.U.length cap)) o0 o1 o2 p)/\Fresh Nu s/\StandR F Nu s p w (.s (.slice oa w.U.length cap)) L o0 o1 o2/\L.length<=w.U.length/\(yq w.U->∀e,e∈L↔∃u∈w.U,u.inn=0/\e=(u.id,u.pos))) (λF s p L o0 o1 o2 h1 h2 h3 h4=>⟨F,s,p,L,o0,o1,o2,rfl,rfl,h1,h2,h3,h4⟩)) ?_
 rintro r S ⟨F,s,p,L,o0,o1,o2,rfl,rfl,hs,hS,hLl,hmem⟩ hd1
 refine yf2 rfl (it:=ti69) rfl rfl ?_
 intro mb hmb
 have hmbF:=fresh_un hmb
 have hnF:¬F.has mb/\¬(svS Nu s w (.s (.slice oa w.U.length cap)) o0 o1 o2 p).has mb:=by
  have:=fresh_iff.1 hmbF.1
  exact⟨λhh=>this (un_has.2 (.inl hh)),λhh=>this (un_has.2 (.inr hh))⟩
 have hmN2:¬N.has mb:=fresh_iff.1 hmbF.2
 have hms:mb≠s:=λe=>hnF.2 (svS_has.2 (.inl e))
 have hmN:¬Nu.has mb:=λhh=>hnF.2 (svS_has.2 (.inr hh))
 have hmN0:Nu.obj mb=none:=(vx hmN).1
 have omb:wj (.s (.slice oa w.U.length cap)) mb:=Dk hu hmN0
 have oms:wj (.s (.slice oa w.U.length cap)) s:=Dk hu hS.hs
 have e0:((F.un (svS Nu s w (.s (.slice oa w.U.length cap)) o0 o1 o2 p)).un N).sO mb (AObj.cells [AV.s (Value.pointer (some {block:=s,off:=0})),AV.s (Value.iface 69 (Value.pointer (some {block:=fb,off:=0})))])=(F.un (svS (Nu.sO mb (.cells [ptr s,No fb])) s w (.s (.slice oa w.U.length cap)) o0 o1 o2 p)).un N:=by
  rw[Bf hmN2,z7]
  unfold svS
  rw[Ia hms]
  rfl
 have hW:MoverG (No fb) F (Nu.sO mb (.cells [ptr s,No fb])) mb s p w (.s (.slice oa w.U.length cap)) L o0 o1 o2:=
  ⟨⟨hS.hc,λi h1 h2=>by
    rcases svS_has.1 h2 with h2|h2
    ·exact hS.hd i h1 (svS_has.2 (.inl h2))
    ·rcases has_setObj_iff.1 h2 with h2|h2
     ·subst h2;exact hnF.1 h1
     ·exact hS.hd i h1 (svS_has.2 (.inr h2)),by rw[zi (Ne.symm hms)];exact hS.hs,hu.set omb _,hS.h0,hS.h1,hS.h2⟩,zd _ _ _,omb,oms,hLl,hmem hp.1.1.2.1⟩
 have hd2:zl (F.un (svS (Nu.sO mb (.cells [ptr s,No fb])) s w (.s (.slice oa w.U.length cap)) o0 o1 o2 p)) N:=λi h1 h2=>by
  rcases un_has.1 h1 with h1|h1
  ·exact hd1 i (un_has.2 (.inl h1)) h2
  ·rcases svS_has.1 h1 with h1|h1
   ·exact hd1 i (un_has.2 (.inr (svS_has.2 (.inl h1)))) h2
   ·rcases has_setObj_iff.1 h1 with h1|h1
    ·subst h1;exact hmN2 h2
    ·exact hd1 i (un_has.2 (.inr (svS_has.2 (.inr h1)))) h2
 rw[e0]
 clear e0 hmbF hmb hnF hd1 hS hs hLl hmem
 refine AWp.loop (σ:=Nat) ⟨λi=>[(5,.av (ptr mb)),(16,.av (int (w.U.length:Nat))),(17,.av (int (i:Nat))),(4,.bx 4 0)],λ_=>[(4,Ci)],
  λi S=>i<=w.U.length/\∃F G L q0 q1 q2 n N,S=(F.un (svS G s (goN w i) (.s (.slice oa w.U.length cap)) q0 q1 q2 p)).un N/\MoverG (No fb) F G mb s p (goN w i) (.s (.slice oa w.U.length cap)) L q0 q1 q2/\zl (F.un (svS G s (goN w i) (.s (.slice oa w.U.length cap)) q0 q1 q2 p)) N/\FldAny fb room ((k+n:Nat):Int) N/\n<=i,λi=>w.U.length-i⟩ zb ?_ ?_
 ·exact⟨0,Tv,⟨Fag _,F,_,L,o0,o1,o2,0,N,rfl,hW,hd2,hF,Faj _⟩,⟨Tq,Tq,Tq,Tq,Tv⟩,⟨rfl,Tv⟩⟩
 clear hW hd2 hF hd hmN2 hmN hmN0 hms omb oms hu hget
 rintro i S ⟨hi,F1,G1,L1,q0,q1,q2,n,N1,rfl,hW,hd1,hF,hn⟩
 obtain⟨hpi,hli,_,_⟩:=Nl hp i
 have hmi:=jd hpi.1
 refine bcd (λh1=>?_) (λh1=>?_)
 ·have hlt:i<w.U.length:=by omega
  have hil:i<(goN w i).U.length:=by omega
  obtain⟨oa2,cap2,ev2,hget2⟩:=hW.S.hu.form
  obtain⟨b,J,hoa,hob0⟩:=hget2 i hil
  have hoa3:oa=some ⟨b,0,none⟩:=by
   simp only[AV.s.injEq,Value.slice.injEq]at ev2
   rw[ev2.1,hoa]
  subst hoa3
  have hbs:b≠s:=λe=>by rw[e,hW.S.hs]at hob0;cases hob0
  have hob:((F1.un (svS G1 s (goN w i) (.s (.slice (some ⟨b,0,none⟩) w.U.length cap)) q0 q1 q2 p)).un N1).obj b=some (.cells ((rws zf (goN w i).U).flatten++J)):=yr hd1 (zg (by
   show(G1.sO s _).obj b=_
   rw[zi hbs];exact hob0))
  refine za (o:=((F1.un (svS G1 s (goN w i) (.s (.slice (some ⟨b,0,none⟩) w.U.length cap)) q0 q1 q2 p)).un N1).obj mb) _ (yr hd1 hW.m) ?_
  refine za (o:=((F1.un (svS G1 s (goN w i) (.s (.slice (some ⟨b,0,none⟩) w.U.length cap)) q0 q1 q2 p)).un N1).obj s) _ (yr hd1 hW.s) ?_
  refine⟨i,rfl,hlt,?_⟩
  refine za (o:=((F1.un (svS G1 s (goN w i) (.s (.slice (some ⟨b,0,none⟩) w.U.length cap)) q0 q1 q2 p)).un N1).obj b) _ hob ?_
  refine yk (i:=ti50) (row:=zf (goN w i).U[i]) rfl rfl (xn yo hil) ?_
  refine zy (λc1=>?_) (λc1=>?_)
  ·have hg:=th hil c1
   refine ge (zz5 hmi fb room k (n+1) (by omega)) (Fcp n) hW hd1 hF hpi.1 hpi.2 hil c1 _ (λF2 G2 L2 a0 a1 a2 n2 N2 hn2 hW2 hd2 hF2=>?_)
   refine Qd ?_
   refine⟨i+1,(show w.U.length-(i+1)<w.U.length-i by omega),⟨hlt,F2,G2,L2,a0,a1,a2,n2,N2,?_,?_,?_,hF2,by omega⟩,Qbh,⟨rfl,Tv⟩⟩
   ·rw[hg]
   ·rw[hg];exact hW2
   ·rw[hg];exact hd2
  ·have hg:=tg hil c1
   refine Qd ?_
   refine⟨i+1,(show w.U.length-(i+1)<w.U.length-i by omega),⟨hlt,F1,G1,L1,q0,q1,q2,n,N1,?_,?_,?_,hF,by omega⟩,Qbh,⟨rfl,Tv⟩⟩
   ·rw[hg]
   ·rw[hg];exact hW
   ·rw[hg];exact hd1
 ·have:i=w.U.length:=by omega
  subst this
  obtain⟨oa2,cap2,ev2,_⟩:=hW.S.hu.form
  refine za (o:=((F1.un (svS G1 s (goN w w.U.length) (.s (.slice oa w.U.length cap)) q0 q1 q2 p)).un N1).obj mb) _ (yr hd1 hW.m) ?_
  refine za (o:=((F1.un (svS G1 s (goN w w.U.length) (.s (.slice oa w.U.length cap)) q0 q1 q2 p)).un N1).obj s) _ (yr hd1 hW.s) ?_
  exact ret (h _ _ (Ov hW.S.hs hW.S.hu).un hd1 (hF.mono (by omega)))
theorem zyn(hw:w.fits)(hn:∀u∈w.U,u.pos.ok){k:Nat}(hF:FldAny fb room (k:Nat) N)(hk:k<=1000000000000000000)(R:Ja)
  (hbad:¬z6 w->∀N',FldAny fb room (k:Nat) N'->R (.tup [.agg Ci,int 1]) N') (hok:z6 w->∀N',FldAny fb room ((k+w.U.length:Nat):Int) N'->R (.tup [.agg (zt (Dz w)),int 0]) N'):Jb 35 [.agg (zt w),ptr fb] N R:=by
 have key:Jb 35 [.agg (zt w),ptr fb] N λr S=>(¬z6 w/\r=.tup [.agg Ci,int 1]/\S=N)\/(z6 w/\∃v X N',RowsQ 10 zf X v (Dz w).U/\zl X N'/\FldAny fb room ((k+w.U.length:Nat):Int) N'/\r=.tup [.agg (zw (Dz w) v),int 0]/\S=X.un N'):=by
  refine Qa (c:=cfg 18) zb Tryz.func35 ?_
  refine rl w hw hn _ _ (λz hz=>?_)
  refine yd ?_
  refine zh (λc1=>?_) (λc1=>?_)
  rotate_left
  ·exact ret (.inl ⟨λhh=>(by rw[hz.2 hh]at c1;cases c1),rfl,rfl⟩)
  have hm:=hz.1 c1
  have hsz:=(show playW w from⟨hm,hn⟩).sizes
  have hown:Jb 74 [.agg (zt w)] (Store.empty.un N) λr S=>∃v Nu,RowsQ 10 zf Nu v w.U/\zl Nu N/\r=.agg (zw w v)/\S=Nu.un N:=
   ACalls.frame (I2 N) (og w (by omega) (by omega) (by omega) (λr S=>∃v,RowsQ 10 zf S v w.U/\r=.agg (zw w v)) (λv Nu h=>⟨v,h,rfl⟩)) (λr a' ⟨v,h1,h2⟩ hd=>⟨v,a',h1,hd,h2,rfl⟩)
  rw[wu]at hown
  refine hown.imp ?_
  rintro r S ⟨v,Nu,hu,hd,rfl,rfl⟩
  obtain⟨oa,cap,ev,_⟩:=hu.form
  subst ev
  refine zx6 hu ⟨hm,hn⟩ hd hF hk _ (λX N' hX hd' hF'=>?_)
  exact ret (.inr ⟨hm,_,X,N',hX,hd',hF',rfl,rfl⟩)
 refine key.frozenTo ?_
 rintro r S (⟨h1,rfl,rfl⟩|⟨hm,v,X,N',hX,hd,hF',rfl,rfl⟩)
 ·exact⟨_,S.objs,hbad h1 _ hF.objs,λb x hx=>hx,λb x hx=>(by cases hx),λOth M W x sto hx=>hx.mono λb o hT=>hT.1⟩
 ·refine⟨.tup [.agg (zt (Dz w)),int 0],N'.objs,hok hm _ hF'.objs,λb x hx=>zg hx,λb x hx=>(by cases hx),λOth M W x sto hx=>?_⟩
  have sX:StoreOK X Oth M W:=sto.weaken ⟨λb y hy=>yr hd hy,λb y hy=>Kg hd hy⟩
  have ht:∀b,((X.un N').obj b=none\/N'.objs.obj b≠none)->X.obj b=none:=λb hb=>by
   rcases hb with hb|hb
   ·exact(Ih hb).1
   ·cases hx:X.obj b with
    |none=>rfl
    |some y=>exact absurd (vx (hd b (ji hx))).1 hb
  cases hx with
  |tup _ c hl hc=>
   refine .tup _ c hl λi y z hy hz=>?_
   match i with
   |0=>simp only[Far,Fal]at hy;subst hy;exact(Ch hX sX (hc 0 _ z rfl hz)).mono λb o hT=>⟨hT.1,ht b hT.2⟩
   |1=>simp only[Faz,Far,Fal]at hy;subst hy;exact(hc 1 _ z rfl hz).mono λb o hT=>hT.1
   |i+2=>simp at hy
end
section
variable {fb n i b:Nat} {E S:Store} {v:AV}
theorem Qal{p:Prop}(h:p:=by rw[<-e];exact Fay h2):p:=h
theorem Qam{p:Prop}(h:p:=by rw[Fa4];exact hlt):p:=h
theorem Qan{p:Prop}(h:p:=by rw[Fa4];omega):p:=h
theorem Qao{p:Prop}(h:p:=by cases hx):p:=h
theorem Qap{p:Prop}(h:p:=by rw[hob];simp):p:=h
def xl:AV->Option Nat
 |.s (.slice (some ⟨b,0,none⟩) _ _)=>some b
 |_=>none
def dirC(n:Nat)(d:Nat):List AV:=[.s (.slice (some ⟨d,0,none⟩) n n)]
structure FlowP(fb:Nat)(g:Gnd)(l:List Bld)(E:Store)(v1 v2 v3 v4:AV)(q:List (Int×Int×Nat))(ds:List Nat):Prop where
 h0:E.obj fb=some (.cells [v1,v2,v3,v4])
 h1:Ints E v1 (q.map (·.1))
 h2:Ints E v2 (q.map (·.2.1))
 h3:Ints E v3 (q.map λx=>(x.2.2:Int))
 h4:RowsO 1 (dirC g.T.length) E v4 ds
 len:ds.length=q.length
 ok:∀(i:Nat) x d,q[i]?=some x->ds[i]?=some d->E.obj d=some (.cells (wayL g l x.1 x.2.1 x.2.2))
 o0:fb∉ds
 o1:∀x,xl v1=some x->x≠fb/\x∉ds/\xl v2≠some x/\xl v3≠some x/\xl v4≠some x
 o2:∀x,xl v2=some x->x≠fb/\x∉ds/\xl v3≠some x/\xl v4≠some x
 o3:∀x,xl v3=some x->x≠fb/\x∉ds/\xl v4≠some x
 o4:∀x,xl v4=some x->x≠fb/\x∉ds
def FlowK(fb:Nat)(g:Gnd)(l:List Bld)(k:Nat)(E:Store):Prop:=∃v1 v2 v3 v4 q ds,FlowP fb g l E v1 v2 v3 v4 q ds/\q.length<=k
theorem ybj(g:Gnd)(l:List Bld)(h:E.obj fb=some (.cells [nil,nil,nil,nil])):FlowK fb g l 0 E:=
 ⟨nil,nil,nil,nil,[],[],⟨h,.inl ⟨rfl,rfl⟩,.inl ⟨rfl,rfl⟩,.inl ⟨rfl,rfl⟩,.inl ⟨rfl,rfl⟩,rfl,λi x d hx=>Qao,by simp,λx hx=>Qao,λx hx=>Qao,λx hx=>Qao,λx hx=>Qao⟩,Faj _⟩
theorem W7{ns:List Int}(h:Ints S v ns):∃oa cap,v=.s (.slice oa ns.length cap)/\(∀x,xl v=some x->S.obj x≠none)/\∀i,i<ns.length->∃b L,oa=some ⟨b,0,none⟩/\S.obj b=some (.cells (ns.map aI++L)):=by
 rcases h with⟨rfl,rfl⟩|⟨b,cap,L,rfl,hb,h1,h2,h3⟩
 ·exact⟨none,0,rfl,λx hx=>Qao,λi hi=>(by simp at hi)⟩
 ·exact⟨_,cap,rfl,λx hx=>(by cases hx;rw[hb];simp),λi hi=>⟨b,L,rfl,hb⟩⟩
theorem ztj{ds:List Nat}(h:RowsO 1 (dirC n) S v ds):∃oa cap,v=.s (.slice oa ds.length cap)/\(∀x,xl v=some x->S.obj x≠none)/\∀i,i<ds.length->∃b L,oa=some ⟨b,0,none⟩/\S.obj b=some (.cells ((rws (dirC n) ds).flatten++L)):=by
 rcases h with⟨rfl,rfl⟩|⟨b,cap,L,rfl,hb,h1,h2,h3⟩
 ·exact⟨none,0,rfl,λx hx=>Qao,λi hi=>(by simp at hi)⟩
 ·exact⟨_,cap,rfl,λx hx=>(by cases hx;rw[hb];simp),λi hi=>⟨b,L,rfl,hb⟩⟩
theorem W8{ns:List Int}{L:List AV}(hi:i<ns.length):((ns.map aI++L).drop (0+i*1)).head?=some (int ns[i]):=by
 rw[Fb2,Fam (by simp;omega),Faq,Fbe,Fdp]
 simp[hi]
 rfl
theorem yc0{ds:List Nat}{L:List AV}(hi:i<ds.length):(((rws (dirC n) ds).flatten++L).drop (0+i*1)).head?=some (.s (.slice (some ⟨ds[i],0,none⟩) n n)):=by
 have:=xn (f:=dirC n) (k:=1) (L:=L) (λ_=>rfl) hi
 rw[this]
 rfl
theorem Aa{p:Nat}(hb:Fresh S b\/∃c0,v=.s (.slice (some ⟨b,0,none⟩) n c0))(hp:S.obj p≠none)(ho:∀x,xl v=some x->x≠p):b≠p:=by
 rcases hb with h|⟨c0,h⟩
 ·exact λe=>hp (e▸h.1)
 ·exact ho b (by rw[h];rfl)
theorem K4{u:AV}(hb:Fresh S b\/∃c0,v=.s (.slice (some ⟨b,0,none⟩) n c0))(hu:∀x,xl u=some x->S.obj x≠none)(ho:∀x,xl v=some x->xl u≠some x):xl u≠some b:=λe=>by
 rcases hb with h|⟨c0,h⟩
 ·exact hu b e h.1
 ·exact ho b (by rw[h];rfl) e
theorem W6{ns:List Int}(h:Ints S v ns)(hb:xl v≠some b)(x:AObj):Ints (S.sO b x) v ns:=
 Pz h (λb' n cap hv e=>hb (by rw[hv,e];rfl)) x
theorem O7{ds:List Nat}(h:RowsO 1 (dirC n) S v ds)(hb:xl v≠some b)(x:AObj):RowsO 1 (dirC n) (S.sO b x) v ds:=by
 rcases h with⟨rfl,rfl⟩|⟨b',cap,L,rfl,ho,h1⟩
 ·exact .inl ⟨rfl,rfl⟩
 ·refine .inr ⟨b',cap,L,rfl,?_,h1⟩
  rw[zi (λe=>hb (by rw[e];rfl))]
  exact ho
theorem yb3{k:Nat}{w:Wld}(hm:z6 w)(oa:Option Addr)(n0 c0:Nat)(hF:FlowK fb w.G w.B k E)(hk:k<=1000000000){c s:Int}(hc:c=0\/c=1\/c=2)(hs:0<=s)(goal:Nat)(hgo:goal<w.G.T.length)(R:Ja)
  (h:∀b E',FlowK fb w.G w.B (k+1) E'->E'.obj b=some (.cells (wayL w.G w.B c s goal))->R (.s (.slice (some ⟨b,0,none⟩) w.G.T.length w.G.T.length)) E'):
  Jb 53 [ptr fb,.agg (zw w (.s (.slice oa n0 c0))),int c,int s,int (goal:Nat)] E R:=by
 have f:=jd hm
 have hB:=f.hB
 obtain⟨v1,v2,v3,v4,q,ds,hP,hq⟩:=hF
 obtain⟨a1,c1,rfl,m1,g1⟩:=W7 hP.h1
 obtain⟨a2,c2,rfl,m2,g2⟩:=W7 hP.h2
 obtain⟨a3,c3,rfl,m3,g3⟩:=W7 hP.h3
 obtain⟨a4,c4,rfl,m4,g4⟩:=ztj hP.h4
 simp only[Fa4]at hP g1 g2 g3 m1 m2 m3
 refine Qa (c:=cfg 109) zb Tryz.func53 ?_
 refine AWp.loop (σ:=Nat) ⟨λi=>[(0,.av (ptr fb)),(2,.av (int c)),(3,.av (int s)),(4,.av (int (goal:Nat))),(6,.bx 6 0),(11,.av (int (i:Nat)))],λ_=>[(6,zw w (.s (.slice oa n0 c0)))],
  λi st'=>st'=E/\i<=q.length,λi=>q.length-i⟩ zb ?_ ?_
 ·exact⟨0,Tv,⟨rfl,Fag _⟩,Qbh,⟨rfl,Tv⟩⟩
 rintro i st' ⟨rfl,hi⟩
 refine za (o:=st'.obj fb) _ hP.h0 ?_
 refine bcd (λd1=>?_) (λd1=>?_)
 ·have hlt:i<q.length:=by omega
  obtain⟨b1,L1,e1,hb1⟩:=g1 i hlt
  obtain⟨b2,L2,e2,hb2⟩:=g2 i hlt
  obtain⟨b3,L3,e3,hb3⟩:=g3 i hlt
  obtain⟨b4,L4,e4,hb4⟩:=g4 i (by have:=hP.len;omega)
  subst e1 e2 e3 e4
  have hld:i<ds.length:=by have:=hP.len;omega
  have r1:=W8 (ns:=q.map (·.1)) (L:=L1) (i:=i) Qam
  have r2:=W8 (ns:=q.map (·.2.1)) (L:=L2) (i:=i) Qam
  have r3:=W8 (ns:=q.map λx=>(x.2.2:Int)) (L:=L3) (i:=i) Qam
  have r4:=yc0 (n:=w.G.T.length) (L:=L4) hld
  rw[Fcf]at r1 r2 r3
  refine za (o:=st'.obj fb) _ hP.h0 ?_
  refine⟨i,rfl,hlt,?_⟩
  refine Qbm ?_
  refine za _ r1 ?_
  refine zy (λk1=>?_) (λk1=>?_)
  rotate_left
  ·refine Qd ?_
   exact⟨i+1,(show q.length-(i+1)<q.length-i by omega),⟨rfl,hlt⟩,Qbh,⟨rfl,Tv⟩⟩
  refine za (o:=st'.obj fb) _ hP.h0 ?_
  refine⟨i,rfl,hlt,?_⟩
  refine Qbm ?_
  refine za _ r2 ?_
  refine zy (λk2=>?_) (λk2=>?_)
  rotate_left
  ·refine Qd ?_
   exact⟨i+1,(show q.length-(i+1)<q.length-i by omega),⟨rfl,hlt⟩,Qbh,⟨rfl,Tv⟩⟩
  refine za (o:=st'.obj fb) _ hP.h0 ?_
  refine⟨i,rfl,hlt,?_⟩
  refine Qbm ?_
  refine za _ r3 ?_
  refine zy (λk3=>?_) (λk3=>?_)
  rotate_left
  ·refine Qd ?_
   exact⟨i+1,(show q.length-(i+1)<q.length-i by omega),⟨rfl,hlt⟩,Qbh,⟨rfl,Tv⟩⟩
  refine za (o:=st'.obj fb) _ hP.h0 ?_
  refine⟨i,rfl,hld,?_⟩
  refine Qbm ?_
  refine za _ r4 ?_
  refine ret (h ds[i] st' ⟨_,_,_,_,q,ds,hP,by omega⟩ ?_)
  have:=hP.ok i q[i] ds[i] (Fab hlt) (Fab hld)
  have k1:q[i].1=c:=k1
  have k2:q[i].2.1=s:=k2
  have k3:(q[i].2.2:Int)=(goal:Int):=k3
  have k3:q[i].2.2=goal:=by omega
  rw[k1,k2,k3]at this
  exact this
 ·refine zu0 f.hg (by omega) f.hb hc hs goal hgo _ _ (λb N hN hd=>?_)
  have hlq:i=q.length:=by omega
  have hbf:b≠fb:=λe=>hd b (ji hN) (by rw[e];exact ji hP.h0)
  have hbd:b∉ds:=λhh=>by
   obtain⟨j,hj,e⟩:=Fak hh
   have hjq:j<q.length:=by have:=hP.len;omega
   have:=hP.ok j q[j] ds[j] (Fab hjq) (Fab hj)
   exact hd b (ji hN) (by rw[<-e];exact ji this)
  have hbn:∀{x:Nat},st'.obj x≠none->b≠x:=λ{x} hx e=>hd b (ji hN) (.inl (e▸hx))
  have hob:(N.un st').obj b=some (.cells (wayL w.G w.B c s goal)):=yr hd hN
  have hk1:∀{x:Nat} {y:AObj},st'.obj x=some y->(N.un st').obj x=some y:=λhy=>zg hy
  have hI:∀{v:AV} {ns:List Int},Ints st' v ns->Ints (N.un st') v ns:=λ{v ns} h=>by
   rcases h with h|⟨b,cap,L,h1,h2,h3⟩
   ·exact .inl h
   ·exact .inr ⟨b,cap,L,h1,zg h2,h3⟩
  have p0:=hk1 hP.h0
  have p1:=hI hP.h1
  have p2:=hI hP.h2
  have p3:=hI hP.h3
  have p4:RowsO 1 (dirC w.G.T.length) (N.un st') (.s (.slice a4 ds.length c4)) ds:=hP.h4.un
  have pok:∀(i:Nat) x d,q[i]?=some x->ds[i]?=some d->(N.un st').obj d=some (.cells (wayL w.G w.B x.1 x.2.1 x.2.2)):=λi x d h1 h2=>zg (hP.ok i x d h1 h2)
  have hh:∀{x:Nat},st'.obj x≠none->(N.un st').obj x≠none:=λ{x} hx=>by
   cases hy:st'.obj x with
   |none=>exact absurd hy hx
   |some y=>rw[zg hy];simp
  have nb1:∀x,xl (.s (.slice a1 q.length c1))=some x->x≠b:=λx hx=>Ne.symm (hbn (m1 x hx))
  have nb2:∀x,xl (.s (.slice a2 q.length c2))=some x->x≠b:=λx hx=>Ne.symm (hbn (m2 x hx))
  have nb3:∀x,xl (.s (.slice a3 q.length c3))=some x->x≠b:=λx hx=>Ne.symm (hbn (m3 x hx))
  have nb4:∀x,xl (.s (.slice a4 ds.length c4))=some x->x≠b:=λx hx=>Ne.symm (hbn (m4 x hx))
  have m1:=λx hx=>hh (m1 x hx)
  have m2:=λx hx=>hh (m2 x hx)
  have m3:=λx hx=>hh (m3 x hx)
  have m4:=λx hx=>hh (m4 x hx)
  have o0:=hP.o0
  have o1:=hP.o1
  have o2:=hP.o2
  have o3:=hP.o3
  have o4:=hP.o4
  have hlen:=hP.len
  have pds:∀d,d∈ds->(N.un st').obj d≠none:=λd hd'=>by
   obtain⟨j,hj,e⟩:=Fak hd'
   have:=pok j q[j] ds[j] (Fab (by omega)) (Fab hj)
   rw[<-e,this]
   simp
  clear hI hk1 hN hd hh hP g1 g2 g3 g4 hbn
  generalize N.un st'=S at*
  refine Qc zb zqe ?_
  refine Qbm ?_
  refine⟨by decide,?_⟩
  refine Qbm ?_
  refine⟨by decide,?_⟩
  refine Qbm ?_
  refine⟨by decide,?_⟩
  refine⟨?_,Tv⟩
  refine R7 (ie:=ti2) (v:=(.s (.slice a1 q.length c1))) (ns:=q.map (·.1)) rfl rfl rfl p1 c Qan (λb1 n1 L1 hb1 q11 q12 q13=>?_)
  have ef1:fb≠b1:=Ne.symm (Aa hb1 (by rw[p0];simp) (λx hx=>(o1 x hx).1))
  have eb1:b≠b1:=Ne.symm (Aa hb1 Qap nb1)
  have ed1:b1∉ds:=λhh=>Aa hb1 (pds _ hh) (λx hx e=>(o1 x hx).2.1 (e▸hh)) rfl
  have ex12:xl (.s (.slice a2 q.length c2))≠some b1:=K4 hb1 m2 (λx hx=>(o1 x hx).2.2.1)
  have ex13:xl (.s (.slice a3 q.length c3))≠some b1:=K4 hb1 m3 (λx hx=>(o1 x hx).2.2.2.1)
  have ex14:xl (.s (.slice a4 ds.length c4))≠some b1:=K4 hb1 m4 (λx hx=>(o1 x hx).2.2.2.2)
  have kk:∀{y:Nat} {z:AObj},y≠b1->S.obj y=some z->(S.sO b1 (.cells (((q.map (·.1))++[c]).map aI++L1))).obj y=some z:=λh hy=>(zi h).trans hy
  have hh:∀y,S.obj y≠none->(S.sO b1 (.cells (((q.map (·.1))++[c]).map aI++L1))).obj y≠none:=λy hy=>by
   by_cases e:y=b1
   ·rw[e,zd];simp
   ·rw[zi e];exact hy
  have p0:=kk ef1 p0
  have hob:=kk eb1 hob
  have pok:=λ(i:Nat) x d (h1:q[i]?=some x) (h2:ds[i]?=some d)=>kk (λ(e:d=b1)=>ed1 Qal) (pok i x d h1 h2)
  have pds:=λd hd=>hh d (pds d hd)
  have z1:(S.sO b1 (.cells (((q.map (·.1))++[c]).map aI++L1))).obj b1=_:=zd _ _ _
  have m2:=λx hx=>hh x (m2 x hx)
  have p2:=W6 p2 ex12 (.cells (((q.map (·.1))++[c]).map aI++L1))
  have m3:=λx hx=>hh x (m3 x hx)
  have p3:=W6 p3 ex13 (.cells (((q.map (·.1))++[c]).map aI++L1))
  have m4:=λx hx=>hh x (m4 x hx)
  have p4:=O7 p4 ex14 (.cells (((q.map (·.1))++[c]).map aI++L1))
  clear kk hh hb1
  generalize(S.sO b1 (.cells (((q.map (·.1))++[c]).map aI++L1)))=S1 at*
  refine⟨Qe,?_⟩
  refine⟨?_,Tv⟩
  refine R7 (ie:=ti2) (v:=(.s (.slice a2 q.length c2))) (ns:=q.map (·.2.1)) rfl rfl rfl p2 s Qan (λb2 n2 L2 hb2 q21 q22 q23=>?_)
  have ef2:fb≠b2:=Ne.symm (Aa hb2 (by rw[p0];simp) (λx hx=>(o2 x hx).1))
  have eb2:b≠b2:=Ne.symm (Aa hb2 Qap nb2)
  have ed2:b2∉ds:=λhh=>Aa hb2 (pds _ hh) (λx hx e=>(o2 x hx).2.1 (e▸hh)) rfl
  have ex23:xl (.s (.slice a3 q.length c3))≠some b2:=K4 hb2 m3 (λx hx=>(o2 x hx).2.2.1)
  have ex24:xl (.s (.slice a4 ds.length c4))≠some b2:=K4 hb2 m4 (λx hx=>(o2 x hx).2.2.2)
  have en21:b1≠b2:=Ne.symm (Aa hb2 (by rw[z1];simp) (λx hx e=>ex12 (e▸hx)))
  have kk:∀{y:Nat} {z:AObj},y≠b2->S1.obj y=some z->(S1.sO b2 (.cells (((q.map (·.2.1))++[s]).map aI++L2))).obj y=some z:=λh hy=>(zi h).trans hy
  have hh:∀y,S1.obj y≠none->(S1.sO b2 (.cells (((q.map (·.2.1))++[s]).map aI++L2))).obj y≠none:=λy hy=>by
   by_cases e:y=b2
   ·rw[e,zd];simp
   ·rw[zi e];exact hy
  have p0:=kk ef2 p0
  have hob:=kk eb2 hob
  have pok:=λ(i:Nat) x d (h1:q[i]?=some x) (h2:ds[i]?=some d)=>kk (λ(e:d=b2)=>ed2 Qal) (pok i x d h1 h2)
  have pds:=λd hd=>hh d (pds d hd)
  have z1:=kk en21 z1
  have z2:(S1.sO b2 (.cells (((q.map (·.2.1))++[s]).map aI++L2))).obj b2=_:=zd _ _ _
  have m3:=λx hx=>hh x (m3 x hx)
  have p3:=W6 p3 ex23 (.cells (((q.map (·.2.1))++[s]).map aI++L2))
  have m4:=λx hx=>hh x (m4 x hx)
  have p4:=O7 p4 ex24 (.cells (((q.map (·.2.1))++[s]).map aI++L2))
  clear kk hh hb2
  generalize(S1.sO b2 (.cells (((q.map (·.2.1))++[s]).map aI++L2)))=S2 at*
  refine⟨Qe,?_⟩
  refine⟨?_,Tv⟩
  refine R7 (ie:=ti2) (v:=(.s (.slice a3 q.length c3))) (ns:=q.map λx=>(x.2.2:Int)) rfl rfl rfl p3 (goal:Int) Qan (λb3 n3 L3 hb3 q31 q32 q33=>?_)
  have ef3:fb≠b3:=Ne.symm (Aa hb3 (by rw[p0];simp) (λx hx=>(o3 x hx).1))
  have eb3:b≠b3:=Ne.symm (Aa hb3 Qap nb3)
  have ed3:b3∉ds:=λhh=>Aa hb3 (pds _ hh) (λx hx e=>(o3 x hx).2.1 (e▸hh)) rfl
  have ex34:xl (.s (.slice a4 ds.length c4))≠some b3:=K4 hb3 m4 (λx hx=>(o3 x hx).2.2)
  have en31:b1≠b3:=Ne.symm (Aa hb3 (by rw[z1];simp) (λx hx e=>ex13 (e▸hx)))
  have en32:b2≠b3:=Ne.symm (Aa hb3 (by rw[z2];simp) (λx hx e=>ex23 (e▸hx)))
  have kk:∀{y:Nat} {z:AObj},y≠b3->S2.obj y=some z->(S2.sO b3 (.cells (((q.map λx=>(x.2.2:Int))++[(goal:Int)]).map aI++L3))).obj y=some z:=λh hy=>(zi h).trans hy
  have hh:∀y,S2.obj y≠none->(S2.sO b3 (.cells (((q.map λx=>(x.2.2:Int))++[(goal:Int)]).map aI++L3))).obj y≠none:=λy hy=>by
   by_cases e:y=b3
   ·rw[e,zd];simp
   ·rw[zi e];exact hy
  have p0:=kk ef3 p0
  have hob:=kk eb3 hob
  have pok:=λ(i:Nat) x d (h1:q[i]?=some x) (h2:ds[i]?=some d)=>kk (λ(e:d=b3)=>ed3 Qal) (pok i x d h1 h2)
  have pds:=λd hd=>hh d (pds d hd)
  have z1:=kk en31 z1
  have z2:=kk en32 z2
  have z3:(S2.sO b3 (.cells (((q.map λx=>(x.2.2:Int))++[(goal:Int)]).map aI++L3))).obj b3=_:=zd _ _ _
  have m4:=λx hx=>hh x (m4 x hx)
  have p4:=O7 p4 ex34 (.cells (((q.map λx=>(x.2.2:Int))++[(goal:Int)]).map aI++L3))
  clear kk hh hb3
  generalize(S2.sO b3 (.cells (((q.map λx=>(x.2.2:Int))++[(goal:Int)]).map aI++L3)))=S3 at*
  refine⟨Qe,?_⟩
  refine⟨?_,Tv⟩
  refine za _ rfl (j5 rfl (jz (v:=(.s (.slice (some ⟨b1,0,none⟩) ((q.map (·.1))++[c]).length n1))) rfl rfl rfl rfl ?_))
  refine yj (i:=ti29) (v:=(.s (.slice (some ⟨b1,0,none⟩) ((q.map (·.1))++[c]).length n1))) (b:=fb) (o:=0) (l:=[(.s (.slice a1 q.length c1)),(.s (.slice a2 q.length c2)),(.s (.slice a3 q.length c3)),(.s (.slice a4 ds.length c4))]) (st2:=S3.sO fb (.cells [(.s (.slice (some ⟨b1,0,none⟩) ((q.map (·.1))++[c]).length n1)),(.s (.slice a2 q.length c2)),(.s (.slice a3 q.length c3)),(.s (.slice a4 ds.length c4))])) rfl rfl rfl p0 (show 1<=4 by decide) rfl ?_
  refine⟨Qe,?_⟩
  refine⟨?_,Tv⟩
  refine za _ rfl (j5 rfl (jz (v:=(.s (.slice (some ⟨b2,0,none⟩) ((q.map (·.2.1))++[s]).length n2))) rfl rfl rfl rfl ?_))
  refine yj (i:=ti29) (v:=(.s (.slice (some ⟨b2,0,none⟩) ((q.map (·.2.1))++[s]).length n2))) (b:=fb) (o:=1) (l:=[(.s (.slice (some ⟨b1,0,none⟩) ((q.map (·.1))++[c]).length n1)),(.s (.slice a2 q.length c2)),(.s (.slice a3 q.length c3)),(.s (.slice a4 ds.length c4))]) (st2:=S3.sO fb (.cells [(.s (.slice (some ⟨b1,0,none⟩) ((q.map (·.1))++[c]).length n1)),(.s (.slice (some ⟨b2,0,none⟩) ((q.map (·.2.1))++[s]).length n2)),(.s (.slice a3 q.length c3)),(.s (.slice a4 ds.length c4))])) rfl rfl rfl (zd _ _ _) (show 2<=4 by decide) (yp _ _ _ _) ?_
  refine⟨Qe,?_⟩
  refine⟨?_,Tv⟩
  refine za _ rfl (j5 rfl (jz (v:=(.s (.slice (some ⟨b3,0,none⟩) ((q.map λx=>(x.2.2:Int))++[(goal:Int)]).length n3))) rfl rfl rfl rfl ?_))
  refine yj (i:=ti29) (v:=(.s (.slice (some ⟨b3,0,none⟩) ((q.map λx=>(x.2.2:Int))++[(goal:Int)]).length n3))) (b:=fb) (o:=2) (l:=[(.s (.slice (some ⟨b1,0,none⟩) ((q.map (·.1))++[c]).length n1)),(.s (.slice (some ⟨b2,0,none⟩) ((q.map (·.2.1))++[s]).length n2)),(.s (.slice a3 q.length c3)),(.s (.slice a4 ds.length c4))]) (st2:=S3.sO fb (.cells [(.s (.slice (some ⟨b1,0,none⟩) ((q.map (·.1))++[c]).length n1)),(.s (.slice (some ⟨b2,0,none⟩) ((q.map (·.2.1))++[s]).length n2)),(.s (.slice (some ⟨b3,0,none⟩) ((q.map λx=>(x.2.2:Int))++[(goal:Int)]).length n3)),(.s (.slice a4 ds.length c4))])) rfl rfl rfl (zd _ _ _) (show 3<=4 by decide) (yp _ _ _ _) ?_
  refine⟨Qe,?_⟩
  have kk:∀{y:Nat} {z:AObj},y≠fb->S3.obj y=some z->(S3.sO fb (.cells [(.s (.slice (some ⟨b1,0,none⟩) ((q.map (·.1))++[c]).length n1)),(.s (.slice (some ⟨b2,0,none⟩) ((q.map (·.2.1))++[s]).length n2)),(.s (.slice (some ⟨b3,0,none⟩) ((q.map λx=>(x.2.2:Int))++[(goal:Int)]).length n3)),(.s (.slice a4 ds.length c4))])).obj y=some z:=λh hy=>(zi h).trans hy
  have hh:∀y,S3.obj y≠none->(S3.sO fb (.cells [(.s (.slice (some ⟨b1,0,none⟩) ((q.map (·.1))++[c]).length n1)),(.s (.slice (some ⟨b2,0,none⟩) ((q.map (·.2.1))++[s]).length n2)),(.s (.slice (some ⟨b3,0,none⟩) ((q.map λx=>(x.2.2:Int))++[(goal:Int)]).length n3)),(.s (.slice a4 ds.length c4))])).obj y≠none:=λy hy=>by
   by_cases e:y=fb
   ·rw[e,zd];simp
   ·rw[zi e];exact hy
  have p0:(S3.sO fb (.cells [(.s (.slice (some ⟨b1,0,none⟩) ((q.map (·.1))++[c]).length n1)),(.s (.slice (some ⟨b2,0,none⟩) ((q.map (·.2.1))++[s]).length n2)),(.s (.slice (some ⟨b3,0,none⟩) ((q.map λx=>(x.2.2:Int))++[(goal:Int)]).length n3)),(.s (.slice a4 ds.length c4))])).obj fb=_:=zd _ _ _
  have hob:=kk hbf hob
  have pok:=λ(i:Nat) x d (h1:q[i]?=some x) (h2:ds[i]?=some d)=>kk (λ(e:d=fb)=>o0 Qal) (pok i x d h1 h2)
  have pds:=λd hd=>hh d (pds d hd)
  have z1:=kk (Ne.symm ef1) z1
  have z2:=kk (Ne.symm ef2) z2
  have z3:=kk (Ne.symm ef3) z3
  have m4:=λx hx=>hh x (m4 x hx)
  have p4:=O7 p4 (b:=fb) (λe=>(o4 fb e).1 rfl) (.cells [(.s (.slice (some ⟨b1,0,none⟩) ((q.map (·.1))++[c]).length n1)),(.s (.slice (some ⟨b2,0,none⟩) ((q.map (·.2.1))++[s]).length n2)),(.s (.slice (some ⟨b3,0,none⟩) ((q.map λx=>(x.2.2:Int))++[(goal:Int)]).length n3)),(.s (.slice a4 ds.length c4))])
  clear kk hh
  generalize(S3.sO fb (.cells [(.s (.slice (some ⟨b1,0,none⟩) ((q.map (·.1))++[c]).length n1)),(.s (.slice (some ⟨b2,0,none⟩) ((q.map (·.2.1))++[s]).length n2)),(.s (.slice (some ⟨b3,0,none⟩) ((q.map λx=>(x.2.2:Int))++[(goal:Int)]).length n3)),(.s (.slice a4 ds.length c4))]))=S4 at*
  refine Qbm ?_
  refine⟨by decide,?_⟩
  refine N6 (f:=dirC w.G.T.length) (ie:=ti29) (v:=(.s (.slice a4 ds.length c4))) (l:=ds) rfl (λ_=>rfl) (by decide) p4 b rfl (by omega) (λb4 n4 L4 hb4 q41 q42 q43=>?_)
  have ef4:fb≠b4:=Ne.symm (Aa hb4 (by rw[p0];simp) (λx hx=>(o4 x hx).1))
  have eb4:b≠b4:=Ne.symm (Aa hb4 Qap nb4)
  have ed4:b4∉ds:=λhh=>Aa hb4 (pds _ hh) (λx hx e=>(o4 x hx).2 (e▸hh)) rfl
  have en41:b1≠b4:=Ne.symm (Aa hb4 (by rw[z1];simp) (λx hx e=>ex14 (e▸hx)))
  have en42:b2≠b4:=Ne.symm (Aa hb4 (by rw[z2];simp) (λx hx e=>ex24 (e▸hx)))
  have en43:b3≠b4:=Ne.symm (Aa hb4 (by rw[z3];simp) (λx hx e=>ex34 (e▸hx)))
  refine yj (i:=ti43) (v:=.s (.slice (some ⟨b4,0,none⟩) (ds++[b]).length n4)) (b:=fb) (o:=3) (l:=[(.s (.slice (some ⟨b1,0,none⟩) ((q.map (·.1))++[c]).length n1)),(.s (.slice (some ⟨b2,0,none⟩) ((q.map (·.2.1))++[s]).length n2)),(.s (.slice (some ⟨b3,0,none⟩) ((q.map λx=>(x.2.2:Int))++[(goal:Int)]).length n3)),(.s (.slice a4 ds.length c4))]) (st2:=((S4.sO b4 (.cells ((rws (dirC w.G.T.length) (ds++[b])).flatten++L4))).sO fb (.cells [(.s (.slice (some ⟨b1,0,none⟩) ((q.map (·.1))++[c]).length n1)),(.s (.slice (some ⟨b2,0,none⟩) ((q.map (·.2.1))++[s]).length n2)),(.s (.slice (some ⟨b3,0,none⟩) ((q.map λx=>(x.2.2:Int))++[(goal:Int)]).length n3)),(.s (.slice (some ⟨b4,0,none⟩) (ds++[b]).length n4))]))) rfl rfl rfl ((zi ef4).trans p0) (show 4<=4 by decide) rfl ?_
  have kk:∀{x:Nat} {y:AObj},x≠fb->x≠b4->S4.obj x=some y->((S4.sO b4 (.cells ((rws (dirC w.G.T.length) (ds++[b])).flatten++L4))).sO fb (.cells [(.s (.slice (some ⟨b1,0,none⟩) ((q.map (·.1))++[c]).length n1)),(.s (.slice (some ⟨b2,0,none⟩) ((q.map (·.2.1))++[s]).length n2)),(.s (.slice (some ⟨b3,0,none⟩) ((q.map λx=>(x.2.2:Int))++[(goal:Int)]).length n3)),(.s (.slice (some ⟨b4,0,none⟩) (ds++[b]).length n4))])).obj x=some y:=λh1 h2 hy=>(zi h1).trans ((zi h2).trans hy)
  have y0:((S4.sO b4 (.cells ((rws (dirC w.G.T.length) (ds++[b])).flatten++L4))).sO fb (.cells [(.s (.slice (some ⟨b1,0,none⟩) ((q.map (·.1))++[c]).length n1)),(.s (.slice (some ⟨b2,0,none⟩) ((q.map (·.2.1))++[s]).length n2)),(.s (.slice (some ⟨b3,0,none⟩) ((q.map λx=>(x.2.2:Int))++[(goal:Int)]).length n3)),(.s (.slice (some ⟨b4,0,none⟩) (ds++[b]).length n4))])).obj fb=_:=zd _ _ _
  have y1:=kk (Ne.symm ef1) en41 z1
  have y2:=kk (Ne.symm ef2) en42 z2
  have y3:=kk (Ne.symm ef3) en43 z3
  have y4:((S4.sO b4 (.cells ((rws (dirC w.G.T.length) (ds++[b])).flatten++L4))).sO fb (.cells [(.s (.slice (some ⟨b1,0,none⟩) ((q.map (·.1))++[c]).length n1)),(.s (.slice (some ⟨b2,0,none⟩) ((q.map (·.2.1))++[s]).length n2)),(.s (.slice (some ⟨b3,0,none⟩) ((q.map λx=>(x.2.2:Int))++[(goal:Int)]).length n3)),(.s (.slice (some ⟨b4,0,none⟩) (ds++[b]).length n4))])).obj b4=_:=(zi (Ne.symm ef4)).trans (zd _ _ _)
  have yb:=kk hbf eb4 hob
  have yok:=λ(i:Nat) x d (h1:q[i]?=some x) (h2:ds[i]?=some d)=>kk (λ(e:d=fb)=>o0 Qal) (λ(e:d=b4)=>ed4 Qal) (pok i x d h1 h2)
  generalize((S4.sO b4 (.cells ((rws (dirC w.G.T.length) (ds++[b])).flatten++L4))).sO fb (.cells [(.s (.slice (some ⟨b1,0,none⟩) ((q.map (·.1))++[c]).length n1)),(.s (.slice (some ⟨b2,0,none⟩) ((q.map (·.2.1))++[s]).length n2)),(.s (.slice (some ⟨b3,0,none⟩) ((q.map λx=>(x.2.2:Int))++[(goal:Int)]).length n3)),(.s (.slice (some ⟨b4,0,none⟩) (ds++[b]).length n4))]))=S6 at*
  have hm1:(q++[(c,s,goal)]).map (·.1)=q.map (·.1)++[c]:=by simp
  have hm2:(q++[(c,s,goal)]).map (·.2.1)=q.map (·.2.1)++[s]:=by simp
  have hm3:((q++[(c,s,goal)]).map λx=>(x.2.2:Int))=(q.map λx=>(x.2.2:Int))++[(goal:Int)]:=by simp
  have hnd:∀{x:Nat},x∉ds->x≠b->x∉ds++[b]:=λ{x} h1 h2 hh=>by
   rcases Fan.1 hh with hh|hh
   ·exact h1 hh
   ·exact h2 (Fb1.1 hh)
  have hsb:∀{x y n c:Nat},x≠y->xl (.s (.slice (some ⟨x,0,none⟩) n c))≠some y:=λ{x y n c} h e=>h (Option.some.inj e)
  refine ret (h b S6 ⟨_,_,_,_,q++[(c,s,goal)],ds++[b],⟨y0,?_,?_,?_,?_,?_,?_,?_,?_,?_,?_,?_⟩,?_⟩ yb)
  ·rw[hm1];exact .inr ⟨b1,n1,L1,rfl,y1,q11,q12,q13⟩
  ·rw[hm2];exact .inr ⟨b2,n2,L2,rfl,y2,q21,q22,q23⟩
  ·rw[hm3];exact .inr ⟨b3,n3,L3,rfl,y3,q31,q32,q33⟩
  ·exact .inr ⟨b4,n4,L4,rfl,y4,q41,q42,q43⟩
  ·rw[Fad,Fad,hlen];rfl
  ·intro j x d h1 h2
   rcases Feg j q.length with hj|hj
   ·rw[Fam hj]at h1
    rw[Fam (by omega)]at h2
    exact yok j x d h1 h2
   ·rw[Fa1 hj]at h1
    rw[Fa1 (by omega)]at h2
    have hj0:j-q.length=0:=by
     have:=(Fai.1 h1).1
     simp at this
     omega
    rw[hj0]at h1
    rw[show j-ds.length=0 by omega]at h2
    cases h1
    cases h2
    exact yb
  ·exact hnd o0 (Ne.symm hbf)
  ·intro x hx
   cases hx
   exact⟨Ne.symm ef1,hnd ed1 (Ne.symm eb1),hsb (Ne.symm en21),hsb (Ne.symm en31),hsb (Ne.symm en41)⟩
  ·intro x hx
   cases hx
   exact⟨Ne.symm ef2,hnd ed2 (Ne.symm eb2),hsb (Ne.symm en32),hsb (Ne.symm en42)⟩
  ·intro x hx
   cases hx
   exact⟨Ne.symm ef3,hnd ed3 (Ne.symm eb3),hsb (Ne.symm en43)⟩
  ·intro x hx
   cases hx
   exact⟨Ne.symm ef4,hnd ed4 (Ne.symm eb4)⟩
  ·rw[Fad,Fas]
   omega
end
section
variable {fb i:Nat} {E:Store}
theorem Qaq{p:Prop}(h:p:=by repeat(first|exact Tv|refine⟨rfl,?_⟩|refine⟨za (o:=(A.un E').obj b) _ hob (yk (i:=ti48) (row:=zo w.U[i].pos) rfl rfl hpd rfl),?_⟩|refine⟨za (o:=(A.un E').obj b) _ hob (za _ hnx rfl),?_⟩)):p:=h
theorem Qar{p:Prop}(h:p:=by repeat(first|exact Tv|refine⟨rfl,?_⟩|refine⟨za (o:=(N.un E).obj b) _ hoS (yk (i:=ti48) (row:=zo w.U[i].pos) rfl rfl (G7 hi) rfl),?_⟩)):p:=h
theorem Qas{p:Prop}(h:p:=by rw[Faf];simp only[List.length_nil];omega):p:=h
theorem FlowK.mono{k k':Nat}{g:Gnd}{l:List Bld}(h:FlowK fb g l k E)(hk:k<=k'):FlowK fb g l k' E:=by
 obtain⟨v1,v2,v3,v4,q,ds,h1,h2⟩:=h
 exact⟨v1,v2,v3,v4,q,ds,h1,Fde h2 hk⟩
theorem mj{A:Store}{w:Wld}{v:AV}(hv:RowsQ 10 zf A v w.U)(hdE:zl A E)(hw:playW w)(hi:i<w.U.length)(h0:w.U[i].inn=0)(d:Vc)(hd:d.ok)(R:Ja)
  (h:∀v2 (N:Store),RowsQ 10 zf (N.un A) v2 (xg w w.U[i] d).U->zl (N.un A) E->R (.tup [.agg (zw (xg w w.U[i] d) v2),int (ww w w.U[i] d)]) ((N.un A).un E)):
  Jb 31 [.agg (zw w v),int w.U[i].id,.agg (zo d)] (A.un E) R:=by
 refine ACalls.frame hdE (zs6 hv hw hi h0 d hd (λr S=>∃v2,∃N:Store,RowsQ 10 zf (N.un A) v2 (xg w w.U[i] d).U/\r=.tup [.agg (zw (xg w w.U[i] d) v2),int (ww w w.U[i] d)]/\S=N.un A) (λv2 N h1 h2=>⟨v2,N,h1,rfl,rfl⟩)) ?_
 rintro r a' ⟨v2,N,h1,rfl,rfl⟩ hd2
 exact h v2 N h1 hd2
theorem zsy{k0:Nat}(w:Wld)(hE0:FlowK fb w.G w.B k0 E)(hk0:k0<=1000000000)(hw:playW w)(hi:i<w.U.length)(h0:w.U[i].inn=0)(R:Ja)
  (h:∀A v E',RowsQ 10 zf A v (xi w w.U[i]).U->zl A E'->FlowK fb w.G w.B (k0+1) E'->R (.agg (zw (xi w w.U[i]) v)) (A.un E')):
  Jb 18 [.agg (zt w),int w.U[i].id,ptr fb] E R:=by
 have f:=jd hw.1
 have hU:=f.hU
 have hkk:=f.hk _ (Faa hi)
 have hE1:FlowK fb w.G w.B (k0+1) E:=hE0.mono (Fdq k0)
 refine Qb (c:=cfg 225) zb Tryz.func18 ?_
 refine AWp.seq (AWp.of_vc zb ?_)
 refine AWp.seq (AWp.of_vc zb ?_)
 refine Hq w f.fits (by omega) _ _ (λv N hv hd=>?_)
 rcases hv with⟨_,e⟩|⟨b,cap,L,rfl,ho,g1,g2,g3⟩
 ·rw[e]at hi;exact absurd hi (Fa2 i)
 have hvQ:RowsQ 10 zf (N.un E) (.s (.slice (some ⟨b,0,none⟩) w.U.length cap)) w.U:=RowsO.q ((show RowsO 10 zf N _ w.U from .inr ⟨b,cap,L,rfl,ho,g1,g2,g3⟩).unL hd)
 have hoS:(N.un E).obj b=_:=yr hd ho
 have hvN:RowsQ 10 zf N (.s (.slice (some ⟨b,0,none⟩) w.U.length cap)) w.U:=RowsO.q (.inr ⟨b,cap,L,rfl,ho,g1,g2,g3⟩)
 have hEb:¬E.has b:=hd b (ji ho)
 refine AWp.seq (AWp.of_vc zb ?_)
 refine m8 hvQ hw hi w.U[i].id rfl _ ?_
 refine AWp.seq (AWp.of_vc zb ?_)
 refine⟨i,rfl,hi,?_⟩
 have hdr:=xn (L:=L) yo hi
 refine AWp.seq (AWp.of_vc zb ?_)
 refine za (o:=(N.un E).obj b) _ hoS ?_
 refine za _ (Bo hi (j:=2) (by decide) rfl) ?_
 refine Bj w.U[i].kind hkk _ _ ?_
 refine AWp.seq (AWp.of_vc zb ?_)
 refine za (o:=(N.un E).obj b) _ hoS ?_
 refine za _ (Bo hi (j:=5) (by decide) rfl) ?_
 unfold xi at h
 refine zy (λc1=>?_) (λc1=>?_)
 ·rw[if_pos c1]at h
  have hsp:=Ks w.U[i].kind
  have e4:(qs w.U[i].kind).tdiv 4=qs w.U[i].kind/4:=Fa7 (by omega)
  have hq4:yl ((qs w.U[i].kind).tdiv 4):=⟨by omega,by omega⟩
  have ht:vq (Ai w w.U[i]):=su (Dm hw.1 (Faa hi) h0) (λx hx h1=>Dm hw.1 hx h1) hU
  have hcl:=λst2 R2=>Mr (Ai w w.U[i]) ((qs w.U[i].kind).tdiv 4) ht (by omega) st2 R2
  refine Qc zb zrd ?_
  refine⟨by decide,ze hq4 ?_⟩
  refine⟨ni hvQ hw hi h0 _ ⟨Qe,?_⟩,⟨⟨Qe,⟨ni hvQ hw hi h0 _ ⟨Qe,?_⟩,Tv⟩⟩,Tv⟩⟩
  refine⟨hcl _ _ ⟨Qe,⟨⟨Qe,⟨⟨Qe,?_⟩,Tv⟩⟩,Tv⟩⟩,⟨⟨Qe,⟨hcl _ _ ⟨Qe,⟨⟨Qe,?_⟩,Tv⟩⟩,Tv⟩⟩,Tv⟩⟩
  rotate_left 2
  refine⟨hcl _ _ ⟨Qe,⟨⟨Qe,?_⟩,Tv⟩⟩,Tv⟩
  all_goals
   have hidle:Cy w w.U[i]=xg w w.U[i] (xh (Ai w w.U[i]) ((qs w.U[i].kind).tdiv 4)):=rfl
   have hvo:=H3 (m:=(qs w.U[i].kind).tdiv 4) ht
   rw[hidle]at h
   clear hidle hcl
   generalize xh (Ai w w.U[i]) ((qs w.U[i].kind).tdiv 4)=dv at*
   obtain⟨dx,dy⟩:=dv
   have hTry:=λR2 h2=>mj hvN hd hw hi h0 (dx,dy) hvo R2 h2
   refine zy (λc2=>?_) (λc2=>?_)
   refine zy (λc3=>?_) (λc3=>?_)
   ·have e2:dx=0:=c2
    have e3:dy=0:=c3
    subst e2 e3
    rw[(zdw w w.U[i]).2]at h
    exact ret (h N _ E hvN hd hE1)
   all_goals
    refine hTry _ (λv2 N2 hv2 hd2=>?_)
    have hv3:=hv2
    obtain⟨oa2,cp2,rfl,_⟩:=hv3.form
    exact ret (h (N2.un N) _ E hv2 hd2 hE1)
 rw[if_neg c1]at h
 have hut:=Oi hw.1 hi
 obtain⟨goal,hgq,hgl⟩:∃k:Nat,w.U[i].goal=k/\k<w.G.T.length:=by
  rcases Kk f.hg hut.2.1.1 with h1|h1
  ·exact absurd h1 c1
  ·exact h1
 have hgoes:Bp w w.U[i]=if w.U[i].pos=ya w.G goal then ye w (xq 2 w.U[i])else if wn w w.U[i] (js w.G w.U[i].pos)then(if wk w w.U[i] (js w.G w.U[i].pos)<0 then ye w (xq 3 w.U[i])else wh w {w.U[i]with next:=wk w w.U[i] (js w.G w.U[i].pos)})else wh w w.U[i]:=by
  have e:w.U[i].goal.toNat=goal:=by rw[hgq,Fa0]
  unfold Bp
  rw[e]
 rw[hgoes]at h
 have hset:∀(S:Store) (u':Unt),S.obj b=some (.cells ((rws zf (w.U.set i u')).flatten++L))->RowsQ 10 zf S (.s (.slice (some ⟨b,0,none⟩) w.U.length cap)) (w.U.set i u'):=λS u' hS=>RowsO.q (.inr ⟨b,cap,L,by rw[Faf],hS,by rw[Faf];exact g1,by rw[Faf];exact g2,g3⟩)
 refine AWp.seq (AWp.of_vc zb ?_)
 refine AWp.seq (AWp.of_vc zb ?_)
 refine Qc zb zrj ?_
 refine za (o:=(N.un E).obj b) _ hoS ?_
 refine yk (i:=ti48) (row:=zo w.U[i].pos) rfl rfl (G7 hi) ?_
 refine za (o:=(N.un E).obj b) _ hoS ?_
 refine za _ (Bo hi (j:=5) (by decide) rfl) ?_
 refine⟨Gp w.G f.hg goal hgl w.U[i].goal hgq _ _ ⟨Qar,?_⟩,Tv⟩
 refine zh (λc2=>?_) (λc2=>?_)
 ·have e:w.U[i].pos=ya w.G goal:=by
   simp only[Fav,beq_iff_eq]at c2
   exact Prod.ext c2.1 c2.2.1
  rw[if_pos e,Ar hw.1.1.2.1 hi (u:=xq 2 w.U[i]) rfl]at h
  refine V6 hoS hi 2 _ ?_
  rw[Bf hEb]
  exact ret (h _ _ E (hset _ _ (zd _ _ _)) (Br hd hEb) hE1)
 have e:¬w.U[i].pos=ya w.G goal:=λe=>by
  simp only[e,Fc6,beq_eq_false_iff_ne]at c2
  rcases c2 with c2|c2|c2
  ·exact c2 rfl
  ·exact c2 rfl
  ·cases c2
 rw[if_neg e]at h
 have hon:=Wj hw.1 hi h0
 have hown:=Pk hw.1 hi h0
 refine AWp.seq (AWp.of_vc zb ?_)
 refine Qc zb zri ?_
 refine za (o:=(N.un E).obj b) _ hoS ?_
 refine yk (i:=ti48) (row:=zo w.U[i].pos) rfl rfl (G7 hi) ?_
 refine⟨zu7 w.G f.hg w.U[i].pos hon _ _ ⟨Qar,?_⟩,Tv⟩
 refine Qbl ?_
 generalize js w.G w.U[i].pos=own at*
 refine AWp.meetA (σ:=Nat) ⟨λ_=>[(1,.av (int w.U[i].id)),(3,.bx 3 0),(6,.bx 6 0),(7,.av (int (i:Nat))),(8,.av (.s (.pointer (some ⟨b,0+i*10,none⟩)))),(9,.bx 9 0),(13,.bx 13 0)],λ_=>[(3,zw w (.s (.slice (some ⟨b,0,none⟩) w.U.length cap))),(6,Ci),(9,Cb w.U[i].kind),(13,zp w.G)],
  λt st'=>(∃A E',st'=A.un E'/\zl A E'/\FlowK fb w.G w.B (k0+1) E'/\A.obj b=some (.cells ((rws zf (w.U.set i {w.U[i]with next:=(t:Int)})).flatten++L)))/\t<w.G.T.length/\Bp w w.U[i]=wh w {w.U[i]with next:=(t:Int)}⟩ ?_ ?_
 ·refine AWp.meet (σ:=Unit) ⟨λ_=>[(1,.av (int w.U[i].id)),(2,.av (ptr fb)),(3,.bx 3 0),(6,.bx 6 0),(7,.av (int (i:Nat))),(8,.av (.s (.pointer (some ⟨b,0+i*10,none⟩)))),(9,.bx 9 0),(13,.bx 13 0),(14,.av (int (own:Nat))),(137,.av (V.bool (wn w w.U[i] own)))],λ_=>[(3,zw w (.s (.slice (some ⟨b,0,none⟩) w.U.length cap))),(6,Ci),(9,Cb w.U[i].kind),(13,zp w.G)],
   λ_ st'=>st'=N.un E⟩ zb ?_ ?_
  ·refine Qc zb zrh ?_
   refine za (o:=(N.un E).obj b) _ hoS ?_
   refine za _ (Bo hi (j:=6) (by decide) rfl) ?_
   refine zy (λd1=>?_) (λd1=>?_)
   ·have hlk:wn w w.U[i] own=true:=by
     have d1:w.U[i].next=-1:=d1
     unfold wn
     rw[d1]
     rfl
    rw[hlk]
    refine⟨⟨⟨rfl,Tv⟩,?_⟩,Tv⟩
    refine⟨⟨⟨rfl,Tv⟩,?_⟩,Tv⟩
    refine⟨⟨⟨rfl,Tv⟩,?_⟩,Tv⟩
    refine Qbl ?_
    exact⟨(),rfl,Qbh,⟨rfl,rfl,rfl,rfl,Tv⟩⟩
   have d1:¬w.U[i].next=-1:=d1
   obtain⟨nx,hnq,hnl⟩:∃k:Nat,w.U[i].next=k/\k<w.G.T.length:=by
    rcases Kk f.hg hut.2.1.2.1 with h1|h1
    ·exact absurd h1 d1
    ·exact h1
   have hlk:wn w w.U[i] own=(decide (w.U[i].pos=ya w.G nx)|| !okU w w.U[i] nx||(decide (w.U[i].next≠own)&& !(jc w.G own).contains w.U[i].next)):=by
    unfold wn
    rw[decide_eq_false d1,show w.U[i].next.toNat=nx by rw[hnq,Fa0]]
    rfl
   refine za (o:=(N.un E).obj b) _ hoS ?_
   refine yk (i:=ti48) (row:=zo w.U[i].pos) rfl rfl (G7 hi) ?_
   refine za (o:=(N.un E).obj b) _ hoS ?_
   refine za _ (Bo hi (j:=6) (by decide) rfl) ?_
   refine⟨Gp w.G f.hg nx hnl w.U[i].next hnq _ _ ⟨⟨za (o:=(N.un E).obj b) _ hoS (yk (i:=ti48) (row:=zo w.U[i].pos) rfl rfl (G7 hi) rfl),Tv⟩,?_⟩,Tv⟩
   refine zh (λd2=>?_) (λd2=>?_)
   ·have e2:w.U[i].pos=ya w.G nx:=by
     simp only[Fav,beq_iff_eq]at d2
     exact Prod.ext d2.1 d2.2.1
    rw[hlk,decide_eq_true e2,Bool.true_or,Bool.true_or]
    refine⟨⟨⟨rfl,Tv⟩,?_⟩,Tv⟩
    refine⟨⟨⟨rfl,Tv⟩,?_⟩,Tv⟩
    refine Qbl ?_
    exact⟨(),rfl,Qbh,⟨rfl,rfl,rfl,rfl,Tv⟩⟩
   have e2:¬w.U[i].pos=ya w.G nx:=λe=>by
    simp only[e,Fc6,beq_eq_false_iff_ne]at d2
    rcases d2 with d2|d2|d2
    ·exact d2 rfl
    ·exact d2 rfl
    ·cases d2
   rw[decide_eq_false e2,Fd9]at hlk
   refine za (o:=(N.un E).obj b) _ hoS ?_
   refine za _ (Bo hi (j:=6) (by decide) rfl) ?_
   have hgl:nx<(blL w.G.T.length (zj w.G w.B (yf w.U[i].kind) (qg w.U[i].kind))).length:=by rw[xj];exact hnl
   refine⟨V1 w.G f.hg w.B (by have:=f.hB;omega) f.hb (yf w.U[i].kind) (Gd _) (qg w.U[i].kind) (K9 _).1 _ _ ⟨⟨za (o:=(N.un E).obj b) _ hoS (za _ (Bo hi (j:=6) (by decide) rfl) rfl),Tv⟩,?_⟩,Tv⟩
   refine⟨nx,hnq,za _ (zm hgl) ?_⟩
   rw[Bb hnl]
   refine yd ?_
   refine zh (λd3=>?_) (λd3=>?_)
   rotate_left
   ·have e3:okU w w.U[i] nx=false:=d3
    rw[hlk,e3]
    refine⟨⟨⟨rfl,Tv⟩,?_⟩,Tv⟩
    refine Qbl ?_
    exact⟨(),rfl,Qbh,⟨rfl,rfl,rfl,rfl,Tv⟩⟩
   have e3:okU w w.U[i] nx=true:=d3
   rw[e3]at hlk
   refine za (o:=(N.un E).obj b) _ hoS ?_
   refine za _ (Bo hi (j:=6) (by decide) rfl) ?_
   refine qj (λd4=>?_) (λd4=>?_)
   rotate_left
   ·have e4:wn w w.U[i] own=false:=by
     have d4:w.U[i].next=own:=d4
     rw[hlk,decide_eq_false (by rw[d4];exact λh=>h rfl)]
     rfl
    rw[e4]
    refine⟨⟨⟨rfl,Tv⟩,?_⟩,Tv⟩
    refine Qbl ?_
    exact⟨(),rfl,Qbh,⟨rfl,rfl,rfl,rfl,Tv⟩⟩
   have d4:w.U[i].next≠own:=d4
   rw[decide_eq_true d4,Bool.not_true,Fd9,Ffb]at hlk
   refine za (o:=(N.un E).obj b) _ hoS ?_
   refine za _ (Bo hi (j:=6) (by decide) rfl) ?_
   refine⟨Mn w.G f.hg own hown _ _ ⟨⟨za (o:=(N.un E).obj b) _ hoS (za _ (Bo hi (j:=6) (by decide) rfl) rfl),Tv⟩,?_⟩,Tv⟩
   refine⟨zt8 (jc w.G own) (by rw[Ik];decide) w.U[i].next _ _ (λz hz=>⟨Tv,?_⟩),Tv⟩
   have e5:wn w w.U[i] own=decide (z<0):=by
    rw[hlk]
    cases hc:(jc w.G own).contains w.U[i].next with
    |true=>rw[decide_eq_false (λh=>by have:=hz.1 h;rw[hc]at this;cases this)];rfl
    |false=>rw[decide_eq_true (hz.2 hc)];rfl
   rw[e5]
   exact⟨(),rfl,Qbh,⟨rfl,rfl,rfl,rfl,Tv⟩⟩
  ·rintro _ st' rfl
   have e1:=D9 (L:=L) hi (j:=6) (by decide) (y:=int (own:Nat)) (u':={w.U[i]with next:=(own:Int)}) rfl
   have hi1:i<(w.U.set i {w.U[i]with next:=(own:Int)}).length:=by rw[Faf];exact hi
   have hg1:(w.U.set i {w.U[i]with next:=(own:Int)})[i]={w.U[i]with next:=(own:Int)}:=Fbp ..
   refine AWp.cond (wn w w.U[i] own) rfl (zh (λl1=>?_) (λl1=>?_))
   rotate_left
   ·refine AWp.of_vc zb ?_
    have hn1:w.U[i].next≠-1:=λh1=>by
     have:wn w w.U[i] own=true:=by unfold wn;rw[h1];rfl
     rw[this]at l1;cases l1
    obtain⟨nx,hnq,hnl⟩:∃k:Nat,w.U[i].next=k/\k<w.G.T.length:=by
     rcases Kk f.hg hut.2.1.2.1 with h1|h1
     ·exact absurd h1 hn1
     ·exact h1
    have hself:({w.U[i]with next:=(nx:Int)}:Unt)=w.U[i]:=by rw[<-hnq]
    refine⟨nx,⟨?_,hnl,?_⟩,Qbh,⟨rfl,rfl,rfl,rfl,Tv⟩⟩
    ·exact⟨N,E,rfl,hd,hE1,by rw[hself,List.set_getElem_self];exact ho⟩
    ·rw[hself,hgoes,if_neg e,if_neg (by rw[l1];decide)]
   rw[if_neg e,if_pos l1]at hgoes
   rw[if_pos l1]at h
   refine AWp.seq (AWp.of_vc zb ?_)
   refine yj (i:=ti2) (v:=int (own:Nat)) (b:=b) (o:=0+i*10+6) (l:=(rws zf w.U).flatten++L) (st2:=(N.sO b (.cells ((rws zf (w.U.set i {w.U[i]with next:=(own:Int)})).flatten++L))).un E) rfl rfl rfl hoS (F5 hi (by decide)) (by rw[e1,Bf hEb]) ?_
   have hoA:=zd N b (.cells ((rws zf (w.U.set i {w.U[i]with next:=(own:Int)})).flatten++L))
   have hdA:zl (N.sO b (.cells ((rws zf (w.U.set i {w.U[i]with next:=(own:Int)})).flatten++L))) E:=Br hd hEb
   generalize N.sO b (.cells ((rws zf (w.U.set i {w.U[i]with next:=(own:Int)})).flatten++L))=A1 at*
   have hoS1:(A1.un E).obj b=_:=yr hdA hoA
   obtain⟨S1,hS1⟩:∃S1,A1.un E=S1:=⟨_,rfl⟩
   rw[hS1]at hoS1⊢
   have hpd:=G7 (J:=L) hi1
   rw[hg1]at hpd
   refine AWp.seq (AWp.of_vc zb ?_)
   refine Qc zb zrg ?_
   refine Qbm ?_
   refine yk (i:=ti48) (row:=zo w.U[i].pos) rfl rfl hpd ?_
   refine⟨Gp w.G f.hg own hown _ rfl _ _ ⟨⟨za (o:=S1.obj b) _ hoS1 (yk (i:=ti48) (row:=zo w.U[i].pos) rfl rfl hpd rfl),Tv⟩,?_⟩,Tv⟩
   refine AWp.cond _ rfl (zh (λl2=>?_) (λl2=>?_))
   rotate_left
   ·refine AWp.of_vc zb ?_
    have e6:w.U[i].pos≠ya w.G own:=λe=>by
     simp only[e,Fc6,beq_eq_false_iff_ne]at l2
     rcases l2 with l2|l2|l2
     ·exact l2 rfl
     ·exact l2 rfl
     ·cases l2
    have hnt:wk w w.U[i] own=own:=by unfold wk;rw[if_pos e6]
    rw[hnt,if_neg (by omega)]at hgoes
    exact⟨own,⟨⟨A1,E,hS1.symm,hdA,hE1,hoA⟩,hown,hgoes⟩,Qbh,⟨rfl,rfl,rfl,rfl,Tv⟩⟩
   have e6:¬w.U[i].pos≠ya w.G own:=λh=>h (by
    simp only[Fav,beq_iff_eq]at l2
    exact Prod.ext l2.1 l2.2.1)
   have hnt:wk w w.U[i] own=if qr w.G (zj w.G w.B (yf w.U[i].kind) (qg w.U[i].kind)) (yf w.U[i].kind) (qy w.G (zj w.G w.B (yf w.U[i].kind) (qg w.U[i].kind)) (yf w.U[i].kind) goal) own<0 then -1 else yc w.G own (qr w.G (zj w.G w.B (yf w.U[i].kind) (qg w.U[i].kind)) (yf w.U[i].kind) (qy w.G (zj w.G w.B (yf w.U[i].kind) (qg w.U[i].kind)) (yf w.U[i].kind) goal) own).toNat:=by
    unfold wk
    rw[if_neg e6,show w.U[i].goal.toNat=goal by rw[hgq,Fa0]]
    rfl
   rw[hnt]at hgoes h
   refine AWp.seq (AWp.of_vc zb ?_)
   refine Qc zb zrf ?_
   refine Qbm ?_
   refine za (x:=int (goal:Nat)) (by have:=Bo (J:=L) hi1 (j:=5) (by decide) (y:=int (goal:Nat)) (by rw[hg1];exact congrArg (λx=>some (int x)) hgq);exact this) ?_
   have hcall:∀R',(∀b2 E2,zl A1 E2->FlowK fb w.G w.B (k0+1) E2->E2.obj b2=some (.cells (wayL w.G w.B (yf w.U[i].kind) (qg w.U[i].kind) goal))->R' (.s (.slice (some ⟨b2,0,none⟩) w.G.T.length w.G.T.length)) (A1.un E2))->
     Jb 53 [ptr fb,.agg (zw w (.s (.slice (some ⟨b,0,none⟩) w.U.length cap))),int (yf w.U[i].kind),int (qg w.U[i].kind),int (goal:Nat)] S1 R':=λR' hR'=>by
    rw[<-hS1,Kh hdA]
    refine ACalls.frame (Ln hdA) (yb3 hw.1 _ _ _ hE0 hk0 (Gd _) (K9 _).1 goal hgl (λr S=>∃b2,r=.s (.slice (some ⟨b2,0,none⟩) w.G.T.length w.G.T.length)/\FlowK fb w.G w.B (k0+1) S/\S.obj b2=some (.cells (wayL w.G w.B (yf w.U[i].kind) (qg w.U[i].kind) goal))) (λb2 S2 h1 h2=>⟨b2,rfl,h1,h2⟩)) ?_
    rintro r a' ⟨b2,rfl,h1,h2⟩ hd2
    rw[Kh hd2]
    exact hR' b2 _ (Ln hd2) h1 h2
   have hway:=fe w.G (zj w.G w.B (yf w.U[i].kind) (qg w.U[i].kind)) (yf w.U[i].kind) (qy w.G (zj w.G w.B (yf w.U[i].kind) (qg w.U[i].kind)) (yf w.U[i].kind) goal) own
   have hhd:=jx (f:=qr w.G (zj w.G w.B (yf w.U[i].kind) (qg w.U[i].kind)) (yf w.U[i].kind) (qy w.G (zj w.G w.B (yf w.U[i].kind) (qg w.U[i].kind)) (yf w.U[i].kind) goal)) hown
   refine⟨hcall _ (λb2 E2 hdE hK2 h2=>⟨Tv,?_⟩),Tv⟩
   have hb2:(A1.un E2).obj b=_:=yr hdE hoA
   have hE2b:¬E2.has b:=hdE b (ji hoA)
   refine⟨own,rfl,hown,?_⟩
   refine za (o:=(A1.un E2).obj b2) _ (zg h2) ?_
   refine za _ hhd ?_
   clear hcall h2 hhd
   generalize qr w.G (zj w.G w.B (yf w.U[i].kind) (qg w.U[i].kind)) (yf w.U[i].kind) (qy w.G (zj w.G w.B (yf w.U[i].kind) (qg w.U[i].kind)) (yf w.U[i].kind) goal) own=way at*
   refine Qbl ?_
   refine AWp.of_vc zb ?_
   refine bcd (λc5=>?_) (λc5=>?_)
   ·rw[if_pos c5,if_pos (by decide),Ar hw.1.1.2.1 hi (u:=xq 3 w.U[i]) rfl]at h
    refine V6 hb2 hi1 3 _ ?_
    rw[Bf hE2b]
    have hset1:=hset (A1.sO b (.cells ((rws zf ((w.U.set i {w.U[i]with next:=(own:Int)}).set i (xq 3 (w.U.set i {w.U[i]with next:=(own:Int)})[i]))).flatten++L))) (xq 3 w.U[i]) (by
     rw[zd,hg1,Fbx]
     rfl)
    exact ret (h _ _ E2 hset1 (Br hdE hE2b) hK2)
   obtain⟨j,hj,rfl,hst⟩:∃j:Nat,j<8/\way=(j:Int)/\0<yv w.G (zj w.G w.B (yf w.U[i].kind) (qg w.U[i].kind)) (yf w.U[i].kind) own j:=by
    rcases hway with h1|⟨j,h1,h2,h3⟩
    ·omega
    ·exact⟨j,h1,h2,h3⟩
   rw[if_neg c5,Fa0]at hgoes
   obtain⟨t,htq,htl⟩:∃t:Nat,yc w.G own j=(t:Int)/\t<w.G.T.length:=by
    rcases Hu f.hg own hj with h1|h1
    ·rw[Mc (Hl h1)]at hst
     omega
    ·exact h1
   have e7:=D9 (L:=L) hi1 (j:=6) (by decide) (y:=int (t:Nat)) (u':={w.U[i]with next:=(t:Int)}) (by rw[hg1];rfl)
   rw[Fbx]at e7
   refine Mn w.G f.hg own hown _ _ ?_
   refine⟨j,rfl,za _ (Mz hj) ?_⟩
   rw[htq]at hgoes⊢
   refine yj (i:=ti2) (v:=int (t:Nat)) (b:=b) (o:=0+i*10+6) (l:=(rws zf (w.U.set i {w.U[i]with next:=(own:Int)})).flatten++L) (st2:=(A1.sO b (.cells ((rws zf (w.U.set i {w.U[i]with next:=(t:Int)})).flatten++L))).un E2) rfl rfl rfl hb2 (F5 hi1 (by decide)) (by rw[e7,Bf hE2b]) ?_
   rw[if_neg (by omega)]at hgoes
   exact⟨t,⟨⟨_,E2,rfl,Br hdE hE2b,hK2,zd _ _ _⟩,htl,hgoes⟩,⟨Tq,Tq,Tq,Tq,Tq,Tq,Tq,Tv⟩,⟨rfl,rfl,rfl,rfl,Tv⟩⟩
 clear hE1 hvN hEb hd hoS hvQ
 rintro t st' ⟨⟨A,E',rfl,hdA,hK',hobA⟩,htl,hgo⟩
 have hob:(A.un E').obj b=_:=yr hdA hobA
 rw[hgoes,if_neg e]at hgo
 rw[hgo]at h
 clear hgo hgoes hset
 have e0:=D9 (L:=L) hi (j:=6) (by decide) (y:=int (t:Nat)) (u':={w.U[i]with next:=(t:Int)}) rfl
 have hi1:i<(w.U.set i {w.U[i]with next:=(t:Int)}).length:=by rw[Faf];exact hi
 have hg1:(w.U.set i {w.U[i]with next:=(t:Int)})[i]={w.U[i]with next:=(t:Int)}:=Fbp ..
 have hpd:=G7 (J:=L) hi1
 rw[hg1]at hpd
 have hnx:(((rws zf (w.U.set i {w.U[i]with next:=(t:Int)})).flatten++L).drop (0+i*10+6)).head?=some (int (t:Nat)):=Bo hi1 (by decide) (by rw[hg1];rfl)
 have hmp:=Dm hw.1 (Faa hi) h0
 have hcm:=dg f.hg htl
 have hks:=Ks w.U[i].kind
 have hway:=H0 hmp hcm
 have hmay1:z6 {w with U:=w.U.set i {w.U[i]with next:=(t:Int)}}:=by
  rw[<-Ar hw.1.1.2.1 hi (u:={w.U[i]with next:=(t:Int)}) rfl]
  exact M6 hw.1 hi h0 rfl (L7 hut c1 (Oo f.hg htl) hut.2.1.2.2)
 have hplay:playW {w with U:=w.U.set i {w.U[i]with next:=(t:Int)}}:=⟨hmay1,λx hx=>by
  rcases Fez hx with h1|h1
  ·exact hw.2 x h1
  ·subst h1;show w.U[i].pos.ok;exact hw.2 _ (Faa hi)⟩
 have hvS:RowsQ 10 zf A (.s (.slice (some ⟨b,0,none⟩) w.U.length cap)) (w.U.set i {w.U[i]with next:=(t:Int)}):=RowsO.q (.inr ⟨b,cap,L,by rw[Faf],hobA,by rw[Faf];exact g1,by rw[Faf];exact g2,g3⟩)
 have htry:=λR'=>mj (w:={w with U:=w.U.set i {w.U[i]with next:=(t:Int)}}) hvS hdA hplay hi1 (by show(w.U.set i {w.U[i]with next:=(t:Int)})[i].inn=0;rw[hg1];exact h0) (Am w.U[i].pos (ya w.G t) (qs w.U[i].kind)) (H3 hway) R'
 have hput:=Ar hw.1.1.2.1 hi (u:={w.U[i]with next:=(t:Int)}) rfl
 have htp:=zdx (w:=w) (u:={w.U[i]with next:=(t:Int)}) (d:=Am w.U[i].pos (ya w.G t) (qs w.U[i].kind))
 have hsp:=znw (w:=w) (u:={w.U[i]with next:=(t:Int)}) (d:=Am w.U[i].pos (ya w.G t) (qs w.U[i].kind)) (by show Am _ (ya w.G (Int.toNat (t:Int))) _=_;rw[Fa0])
 rw[hput]at htp
 simp only[hg1]at htry
 refine AWp.meet (σ:=AV) ⟨λv2=>[(6,.bx 6 0),(7,.av (int (i:Nat))),(16,.bx 16 0),(17,.av (int (ww {w with U:=w.U.set i {w.U[i]with next:=(t:Int)}} {w.U[i]with next:=(t:Int)} (Am w.U[i].pos (ya w.G t) (qs w.U[i].kind)))))],λv2=>[(6,Ci),(16,zw (xg {w with U:=w.U.set i {w.U[i]with next:=(t:Int)}} {w.U[i]with next:=(t:Int)} (Am w.U[i].pos (ya w.G t) (qs w.U[i].kind))) v2)],
  λv2 st2=>∃A E',st2=A.un E'/\zl A E'/\FlowK fb w.G w.B (k0+1) E'/\RowsQ 10 zf A v2 (xg {w with U:=w.U.set i {w.U[i]with next:=(t:Int)}} {w.U[i]with next:=(t:Int)} (Am w.U[i].pos (ya w.G t) (qs w.U[i].kind))).U⟩ zb ?_ ?_
 ·refine Qc zb zre ?_
  refine za (o:=(A.un E').obj b) _ hob ?_
  refine yk (i:=ti48) (row:=zo w.U[i].pos) rfl rfl hpd ?_
  refine za (o:=(A.un E').obj b) _ hob ?_
  refine za _ hnx ?_
  refine⟨Gp w.G f.hg t htl _ rfl _ _ ⟨Qaq,⟨Vw w.U[i].pos (ya w.G t) (qs w.U[i].kind) hmp hcm (by omega) _ _ ⟨Qaq,⟨htry _ (λv2 N2 hv2 hd2=>⟨Tv,⟨⟨(by repeat(first|exact Tv|refine⟨rfl,?_⟩|refine⟨za (o:=((N2.un A).un E').obj b) _ (yr hd2 (zg hobA)) (yk (i:=ti48) (row:=zo w.U[i].pos) rfl rfl hpd rfl),?_⟩|refine⟨za (o:=((N2.un A).un E').obj b) _ (yr hd2 (zg hobA)) (za _ hnx rfl),?_⟩)),?_⟩,Tv⟩⟩),⟨⟨Qaq,⟨htry _ (λv2 N2 hv2 hd2=>⟨Tv,?_⟩),Tv⟩⟩,Tv⟩⟩⟩,⟨⟨Qaq,⟨Vw w.U[i].pos (ya w.G t) (qs w.U[i].kind) hmp hcm (by omega) _ _ ⟨Qaq,⟨htry _ (λv2 N2 hv2 hd2=>⟨Tv,?_⟩),Tv⟩⟩,Tv⟩⟩,Tv⟩⟩⟩,⟨⟨Qaq,⟨Gp w.G f.hg t htl _ rfl _ _ ⟨Qaq,⟨Vw w.U[i].pos (ya w.G t) (qs w.U[i].kind) hmp hcm (by omega) _ _ ⟨Qaq,⟨htry _ (λv2 N2 hv2 hd2=>⟨Tv,?_⟩),Tv⟩⟩,Tv⟩⟩,Tv⟩⟩,Tv⟩⟩
  all_goals
   have hv3:=hv2
   obtain⟨oa2,cp2,rfl,_⟩:=hv3.form
   refine Qbl ?_
   refine Qbl ?_
   exact⟨_,⟨_,E',rfl,hd2,hK',hv2⟩,⟨Tq,Tq,Tq,Tq,Tv⟩,⟨rfl,rfl,Tv⟩⟩
 rintro v2 st2 ⟨A2,E2,rfl,hd2,hK2,hv2⟩
 rcases hL:qb w {w.U[i]with next:=(t:Int)} (qm (Am w.U[i].pos (ya w.G t) (qs w.U[i].kind))) 5 0 with _|⟨k,p⟩
 ·obtain⟨hK,hW⟩:=htp.1 hL
  have hst:=hsp.1 hL
  rw[hW]at hv2
  rw[hK,hW]
  rw[hst]at h
  clear hst htp hsp hK hW htry hmay1 hplay
  rcases hv2 with(⟨_,e⟩|⟨b3,cap3,L3,rfl,ho3,k1,k2,k3⟩)|⟨_,_,_,e⟩
  ·exact absurd (congrArg List.length e) Qas
  rotate_left
  ·exact absurd (congrArg List.length e) Qas
  have hst8:=hut.2.1.2.2
  have hiA:i<(w.U.set i {w.U[i]with next:=(t:Int)}).length:=by rw[Faf];exact hi
  have hqA:(w.U.set i {w.U[i]with next:=(t:Int)})[i]={w.U[i]with next:=(t:Int)}:=Fbp ..
  have erA:=D9 (L:=L3) hiA (j:=7) (by decide) (y:=int (w.U[i].stuck+1)) (u':={w.U[i]with next:=(t:Int),stuck:=w.U[i].stuck+1}) (by rw[hqA];rfl)
  rw[Fbx]at erA
  have hiB:i<(w.U.set i {w.U[i]with next:=(t:Int),stuck:=w.U[i].stuck+1}).length:=by rw[Faf];exact hi
  have hqB:(w.U.set i {w.U[i]with next:=(t:Int),stuck:=w.U[i].stuck+1})[i]={w.U[i]with next:=(t:Int),stuck:=w.U[i].stuck+1}:=Fbp ..
  have erB:=D9 (L:=L3) hiB (j:=6) (by decide) (y:=int (-1)) (u':={w.U[i]with next:=-1,stuck:=w.U[i].stuck+1}) (by rw[hqB];rfl)
  rw[Fbx]at erB
  have hldA:(((rws zf (w.U.set i {w.U[i]with next:=(t:Int)})).flatten++L3).drop (0+i*10+7)).head?=some (int w.U[i].stuck):=Bo hiA (by decide) (by rw[hqA];rfl)
  have hiC:i<(w.U.set i {w.U[i]with next:=-1,stuck:=w.U[i].stuck+1}).length:=by rw[Faf];exact hi
  have hqC:(w.U.set i {w.U[i]with next:=-1,stuck:=w.U[i].stuck+1})[i]={w.U[i]with next:=-1,stuck:=w.U[i].stuck+1}:=Fbp ..
  have hldC:(((rws zf (w.U.set i {w.U[i]with next:=-1,stuck:=w.U[i].stuck+1})).flatten++L3).drop (0+i*10+7)).head?=some (int (w.U[i].stuck+1)):=Bo hiC (by decide) (by rw[hqC];rfl)
  have hE3:¬E2.has b3:=hd2 b3 (ji ho3)
  refine AWp.of_vc zb ?_
  refine⟨i,rfl,hiA,?_⟩
  refine za (o:=(A2.un E2).obj b3) _ (yr hd2 ho3) ?_
  refine za _ hldA ?_
  refine⟨⟨by omega,by omega⟩,?_⟩
  refine yj (i:=ti2) (v:=int (w.U[i].stuck+1)) (b:=b3) (o:=0+i*10+7) (l:=(rws zf (w.U.set i {w.U[i]with next:=(t:Int)})).flatten++L3) (st2:=(A2.sO b3 (.cells ((rws zf (w.U.set i {w.U[i]with next:=(t:Int),stuck:=w.U[i].stuck+1})).flatten++L3))).un E2) rfl rfl rfl (yr hd2 ho3) (F5 hiA (by decide)) (by rw[erA,Bf hE3]) ?_
  refine yj (i:=ti2) (v:=int (-1)) (b:=b3) (o:=0+i*10+6) (l:=(rws zf (w.U.set i {w.U[i]with next:=(t:Int),stuck:=w.U[i].stuck+1})).flatten++L3) (st2:=(A2.sO b3 (.cells ((rws zf (w.U.set i {w.U[i]with next:=-1,stuck:=w.U[i].stuck+1})).flatten++L3))).un E2) rfl rfl rfl (yr (Br hd2 hE3) (zd _ _ _)) (F5 hiB (by decide)) (by rw[erB,Bf hE3,yp]) ?_
  refine za (o:=((A2.sO b3 (.cells ((rws zf (w.U.set i {w.U[i]with next:=-1,stuck:=w.U[i].stuck+1})).flatten++L3))).un E2).obj b3) _ (yr (Br hd2 hE3) (zd _ _ _)) ?_
  refine za _ hldC ?_
  refine zy (λc6=>?_) (λc6=>?_)
  ·have c6:w.U[i].stuck+1=8:=c6
   rw[if_pos c6,Ar hw.1.1.2.1 hi (u:=xq 4 {w.U[i]with next:=(t:Int)}) rfl]at h
   refine V6 (yr (Br hd2 hE3) (zd _ _ _)) hiC 4 _ ?_
   rw[Bf hE3,yp,hqC,Fbx]
   exact ret (h _ _ E2 (RowsO.q (.inr ⟨b3,cap3,L3,by rw[Faf,Faf],zd _ _ _,by rw[Faf]at k1⊢;exact k1,by rw[Faf]at k2⊢;exact k2,k3⟩)) (Br hd2 hE3) hK2)
  ·have c6:¬w.U[i].stuck+1=8:=c6
   rw[if_neg c6,Ar hw.1.1.2.1 hi (u:={w.U[i]with next:=-1,stuck:=w.U[i].stuck+1}) rfl]at h
   exact ret (h _ _ E2 (RowsO.q (.inr ⟨b3,cap3,L3,by rw[Faf,Faf],zd _ _ _,by rw[Faf]at k1⊢;exact k1,by rw[Faf]at k2⊢;exact k2,k3⟩)) (Br hd2 hE3) hK2)
 ·obtain⟨hK,hk5,hW⟩:=htp.2 k p hL
  have hst:=hsp.2 k p hL
  rw[Ar hw.1.1.2.1 hi (u:={w.U[i]with next:=(t:Int),pos:=p}) rfl]at hW
  rw[hW]at hv2
  rw[hK,hW]
  rw[hst,Ar hw.1.1.2.1 hi (u:={w.U[i]with next:=(t:Int),pos:=p,stuck:=0}) rfl]at h
  clear hst htp hsp hK hW htry hmay1 hplay
  rcases hv2 with(⟨_,e⟩|⟨b3,cap3,L3,rfl,ho3,k1,k2,k3⟩)|⟨_,_,_,e⟩
  ·exact absurd (congrArg List.length e) Qas
  rotate_left
  ·exact absurd (congrArg List.length e) Qas
  have hiA:i<(w.U.set i {w.U[i]with next:=(t:Int),pos:=p}).length:=by rw[Faf];exact hi
  have hqA:(w.U.set i {w.U[i]with next:=(t:Int),pos:=p})[i]={w.U[i]with next:=(t:Int),pos:=p}:=Fbp ..
  have erA:=D9 (L:=L3) hiA (j:=7) (by decide) (y:=int (0)) (u':={w.U[i]with next:=(t:Int),pos:=p,stuck:=0}) (by rw[hqA];rfl)
  rw[Fbx]at erA
  have hE3:¬E2.has b3:=hd2 b3 (ji ho3)
  refine AWp.of_vc zb ?_
  refine⟨i,rfl,hiA,?_⟩
  refine bcd (λc5=>?_) (λc5=>?_)
  rotate_left
  ·exact absurd (show(k:Int)<5 by omega) c5
  refine yj (i:=ti2) (v:=int (0)) (b:=b3) (o:=0+i*10+7) (l:=(rws zf (w.U.set i {w.U[i]with next:=(t:Int),pos:=p})).flatten++L3) (st2:=(A2.sO b3 (.cells ((rws zf (w.U.set i {w.U[i]with next:=(t:Int),pos:=p,stuck:=0})).flatten++L3))).un E2) rfl rfl rfl (yr hd2 ho3) (F5 hiA (by decide)) (by rw[erA,Bf hE3]) ?_
  exact ret (h _ _ E2 (RowsO.q (.inr ⟨b3,cap3,L3,by rw[Faf,Faf],zd _ _ _,by rw[Faf]at k1⊢;exact k1,by rw[Faf]at k2⊢;exact k2,k3⟩)) (Br hd2 hE3) hK2)
end
theorem Qat{p:Prop}(h:p:=by repeat(first|exact Tv|refine⟨rfl,?_⟩|refine⟨⟨i,rfl,za _ (zm hil) rfl⟩,?_⟩)):p:=h
theorem FlowK.objs{fb k:Nat}{g:Gnd}{l:List Bld}{E:Store}(h:FlowK fb g l k E):FlowK fb g l k E.objs:=by
 obtain⟨v1,v2,v3,v4,q,ds,h1,h2⟩:=h
 exact⟨v1,v2,v3,v4,q,ds,⟨h1.h0,h1.h1,h1.h2,h1.h3,h1.h4,h1.len,h1.ok,h1.o0,h1.o1,h1.o2,h1.o3,h1.o4⟩,h2⟩
theorem zsx{fb k0:Nat}{E:Store}(w:Wld)(hE0:FlowK fb w.G w.B k0 E)(hk0:k0<=1000000000)(hw:playW w){i:Nat}(hi:i<w.U.length)(h0:w.U[i].inn=0)(R:Ja)
  (h:∀E',FlowK fb w.G w.B (k0+1) E'->R (.agg (zt (xi w w.U[i]))) E'):Jb 18 [.agg (zt w),int w.U[i].id,ptr fb] E R:=by
 refine ACalls.frozenTo (zsy w hE0 hk0 hw hi h0 (λr S=>∃A v E',RowsQ 10 zf A v (xi w w.U[i]).U/\zl A E'/\FlowK fb w.G w.B (k0+1) E'/\r=.agg (zw (xi w w.U[i]) v)/\S=A.un E') (λA v E' h1 h2 h3=>⟨A,v,E',h1,h2,h3,rfl,rfl⟩)) ?_
 rintro r S ⟨X,v,N',hX,hd,hF',rfl,rfl⟩
 refine⟨.agg (zt (xi w w.U[i])),N'.objs,h _ hF'.objs,λb x hx=>zg hx,λb x hx=>(by cases hx),λOth M W x sto hx=>?_⟩
 have sX:StoreOK X Oth M W:=sto.weaken ⟨λb y hy=>yr hd hy,λb y hy=>Kg hd hy⟩
 have ht:∀b,((X.un N').obj b=none\/N'.objs.obj b≠none)->X.obj b=none:=λb hb=>by
  rcases hb with hb|hb
  ·exact(Ih hb).1
  ·cases hx:X.obj b with
   |none=>rfl
   |some y=>exact absurd (vx (hd b (ji hx))).1 hb
 exact(Ch hX sX hx).mono λb o hT=>⟨hT.1,ht b hT.2⟩
theorem zvl(w:Wld)(hp:playW w)(st:Store)(R:Ja)(h:R (.agg (zt (Dz w))) st):Jb 36 [.agg (zt w)] st R:=by
 have hm:=jd hp.1
 have hU:=hm.hU
 refine Il (Q:=λr=>r=.agg (zt (Dz w))) ?_ st R λr hr=>hr▸h
 refine Qa (c:=cfg 31 [6] []) zb Tryz.func36 ?_
 intro fb hfb
 refine AWp.loop (σ:=Nat) ⟨λi=>[(1,.bx 1 0),(2,.bx 2 0),(3,.av (ptr fb)),(4,.av (int (i:Nat)))],λi=>[(1,zt (goN w i)),(2,Ci)],λi S=>i<=w.U.length/\FlowK fb w.G w.B i S,λi=>w.U.length-i⟩ zb ?_ ?_
 ·exact⟨0,Tv,⟨Fag _,ybj _ _ (zd _ _ _)⟩,Qbh,⟨rfl,rfl,Tv⟩⟩
 rintro i S ⟨hi,hF⟩
 obtain⟨hpi,hli,hGi,hBi⟩:=Nl hp i
 refine zh (λh1=>?_) (λh1=>?_)
 ·have hil:i<(goN w i).U.length:=qq h1
  have hlt:i<w.U.length:=by omega
  refine⟨i,rfl,za _ (zm hil) ?_⟩
  refine zy (λc1=>?_) (λc1=>?_)
  ·have hg:=th hil c1
   refine Qc zb zqm ?_
   refine⟨i,rfl,za _ (zm hil) ?_⟩
   have hcall:=λR' h'=>zsx (E:=S) (k0:=i) (fb:=fb) (goN w i) (by rw[hGi,hBi];exact hF) (by omega) hpi hil c1 R' h'
   rw[<-hg,hGi,hBi]at hcall
   refine⟨hcall _ (λE' hF'=>⟨Qat,?_⟩),Tv⟩
   refine⟨⟨Qat,?_⟩,Tv⟩
   refine Qd ?_
   exact⟨i+1,(show w.U.length-(i+1)<w.U.length-i by omega),⟨hlt,hF'⟩,Qbh,⟨rfl,rfl,Tv⟩⟩
  ·have hg:=tg hil c1
   refine Qd ?_
   exact⟨i+1,(show w.U.length-(i+1)<w.U.length-i by omega),⟨hlt,hF.mono (Fdq i)⟩,Qbh,⟨by rw[hg];rfl,rfl,Tv⟩⟩
 ·have hge:=qv h1 (by omega)
  have:i=w.U.length:=by omega
  subst this
  exact ret rfl
theorem K5(l:List Nat):(j4 l).length=l.length:=Fa4 ..
end Go.Proofs
namespace Go.Proofs
open Go Go.V
set_option maxRecDepth 20000
set_option maxHeartbeats 4000000
end Go.Proofs
namespace Go.Proofs
open Go Go.V
set_option maxRecDepth 20000
set_option maxHeartbeats 4000000
theorem zyz{w:Wld}{c:Cmd}(h:vk w c.P c.N≠0):ldE w c=vk w c.P c.N:=by unfold ldE;rw[if_neg h]
theorem M8{w:Wld}{c:Cmd}(h:vk w c.P c.N=0)(h2:j9 (ldA w c.P c.N) c.U≠0):ldE w c=j9 (ldA w c.P c.N) c.U:=by unfold ldE;rw[if_pos h,if_neg h2]
theorem zyy{w:Wld}{c:Cmd}(h:vk w c.P c.N=0)(h2:j9 (ldA w c.P c.N) c.U=0):ldE w c=if jg (uAt w c.N).kind<((z8 w.U c.N).length:Int)+(c.U.length:Int)then 4 else 0:=by unfold ldE;rw[if_pos h,if_pos h2]
end Go.Proofs
