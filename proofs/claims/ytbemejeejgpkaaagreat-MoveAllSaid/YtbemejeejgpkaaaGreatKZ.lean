/- The ground on which laws of thronglaw24 are proved: contracts of functions and plain lemmas; no condition beyond the row's own. -/
import Derived.Test.YtbemejeejgpkaaaGreatKE
import Derived.Test.YtbemejeejgpkaaaGreatKS
import Derived.Test.YtbemejeejgpkaaaGreatKY
import Derived.Test.YtbemejeejgpkaaaGreatKI
import Derived.Test.YtbemejeejgpkaaaGreatKF
import Derived.Test.YtbemejeejgpkaaaGreatKT
import Derived.Test.YtbemejeejgpkaaaGreatKQ
import Derived.Test.YtbemejeejgpkaaaGreatKO
import Derived.Test.YtbemejeejgpkaaaGreatKX
set_option linter.unusedSimpArgs false
set_option linter.unusedVariables false
namespace Go.Proofs
open Go Go.V
set_option maxRecDepth 4000
theorem zin{g:Gnd}{t way:Nat}(hw:way<8):(rws intC (vh g t))[way]?=some (intC (besN g t way)):=by
 have h8:way<(vh g t).length:=by rw[zae];exact hw
 rw[zj h8]
 unfold besN
 rw[List.getD_eq_getElem?_getD,List.getElem?_eq_getElem h8]
 rfl
def yj6(g:Gnd)(ok:Nat->Bool)(c:Int)(t way:Nat):Int:=if ok t then y9 g ok c t way else 0
set_option maxHeartbeats 2000000 in
set_option maxRecDepth 20000 in
theorem zkk{g:Gnd}(hg:gndP g){l:List Bld}{c s:Int}(hc:c=0\/c=1\/c=2)(t:Nat)(ht:t<g.T.length)(way:Nat)(hw:way<8)(S:Store)(R:AV->Store->Prop)
  (h:R (int (yj6 g (zl g l c s) c t way)) S):ACalls Tryz.prog 106 [.agg (gndC g),zix g l c s,int c,int (t:Nat),ints (vh g t),int (way:Nat),int (-1)] S R:=by
 have hgl:∀u,u<g.T.length->u<(blL g.T.length (zl g l c s)).length:=fun u hu=>by rw[yu];exact hu
 have p1:=j1 c (g.T[t]).toNat
 unfold yj6 at h
 refine Qa (c:=cfg 113) zc Tryz.func106 ?_
 refine⟨way,rfl,za _ (zin hw) ?_⟩
 have hor:=zgx hg t hw
 have hlo:=fun h=>zta (g:=g) (ok:=zl g l c s) (c:=c) (t:=t) (w:=way) h
 have hhi:=fun h=>ztb (g:=g) (ok:=zl g l c s) (c:=c) (t:=t) (w:=way) h
 have hno:=zeg (g:=g) (ok:=zl g l c s) (c:=c) (t:=t) (w:=way)
 have hhn:=fun h=>zn0 (g:=g) (ok:=zl g l c s) (c:=c) (t:=t) (w:=way) h
 generalize y9 g (zl g l c s) c t way=E at*
 generalize hU:besN g t way=U at*
 refine bcd (fun c1=>?_) (fun c1=>?_)
 ·rw[hno (vq c1),ite_self]at h
  exact ret h
 obtain⟨u,rfl,hul⟩:∃u:Nat,U=(u:Int)/\u<g.T.length:=by
  rcases hor with h1|h1
  ·exact absurd h1 c1
  ·exact h1
 refine⟨t,rfl,za _ (zj (hgl t ht)) ?_⟩
 rw[jy ht]
 refine yo ?_
 refine ze (fun c2=>?_) (fun c2=>?_)
 rotate_left
 ·rw[if_neg (by rw[c2];decide)]at h
  exact ret h
 rw[if_pos c2]at h
 refine⟨u,rfl,za _ (zj (hgl u hul)) ?_⟩
 rw[jy hul]
 refine yo ?_
 refine ze (fun c3=>?_) (fun c3=>?_)
 rotate_left
 ·rw[hno (by rw[jm,c3])]at h
  exact ret h
 have hfu:zai (zl g l c s) (u:Int)=true:=by rw[jm,c3]
 rw[Int.toNat_natCast]at hlo hhi
 rw[zhf g c ht,zhf g c hul]at hlo hhi
 have p2:=j1 c (g.T[u]).toNat
 refine Qc zc yl2 ?_
 refine⟨t,rfl,za _ (zj ht) ?_⟩
 refine⟨u,rfl,za _ (zj hul) ?_⟩
 refine⟨zi8 c hc g.T[t] (zmu hg ht) _ _ ⟨Qe,?_⟩,Tv⟩
 refine⟨zi8 c hc g.T[u] (zmu hg hul) _ _ ⟨Qe,?_⟩,Tv⟩
 refine Qd ?_
 refine⟨⟨Tv,?_⟩,Tv⟩
 generalize zb8 c g.T[t].toNat=P1 at*
 generalize zb8 c g.T[u].toNat=P2 at*
 refine bcd (fun c4=>?_) (fun c4=>?_)
 ·refine Qd ?_
  rw[hlo hfu (by omega)]at h
  exact ret h
 have h4:¬way<4:=by omega
 have hhi:=hhi hfu h4
 have hhn:=hhn h4
 have hsi:∀i,i<2->(way-4+i)%4<8:=fun i _=>by omega
 have hs0:(way-4+0)%4=zl3 way:=by unfold zl3;omega
 have hs1:(way-4+1)%4=zl2 way:=by unfold zl2;omega
 refine AWp.loop (σ:=Nat) ⟨fun i=>[(1,.av (zix g l c s)),(4,.av (ints (vh g t))),(5,.av (int (way:Nat))),(6,.av (int (-1))),(7,.bx 7 0),(16,.av (int (P1+P2))),(17,.av (int (i:Nat)))],fun _=>[(7,gndC g)],
  fun i st'=>i<=2/\st'=S/\∀j,j<i->zai (zl g l c s) (besN g t ((way-4+j)%4))=true,fun i=>2-i⟩ zc ?_ ?_
 ·exact⟨0,Tv,⟨Nat.zero_le _,rfl,fun j hj=>absurd hj (Nat.not_lt_zero j)⟩,⟨Tq,Tq,Tq,Tq,Tq,Tq,Tq,Tv⟩,⟨rfl,Tv⟩⟩
 rintro i st' ⟨hi,rfl,hfr⟩
 dsimp only at hi hfr⊢
 refine bcd (fun c5=>?_) (fun c5=>?_)
 rotate_left
 ·have:i=2:=by omega
  subst this
  have ha:=hfr 0 (by omega)
  have hb:=hfr 1 (by omega)
  rw[hs0]at ha
  rw[hs1]at hb
  rw[hhi ha hb]at h
  refine Qd ?_
  exact ret h
 have hi2:i<2:=by omega
 have hm:((way:Int)-4+(i:Int)).tmod 4=(((way-4+i)%4:Nat):Int):=by
  rw[Int.tmod_eq_emod_of_nonneg (by omega)]
  omega
 have hno2:zai (zl g l c s) (besN g t ((way-4+i)%4))=false->R (int 0) st':=fun hh=>by
  rw[hhn (by
   have:i=0\/i=1:=by omega
   rcases this with rfl|rfl
   ·rw[hs0]at hh;exact .inl hh
   ·rw[hs1]at hh;exact .inr hh)]at h
  exact h
 have hor2:=zgx hg t (hsi i hi2)
 have hget:=zin (g:=g) (t:=t) (hsi i hi2)
 generalize hw2:(way-4+i)%4=way2 at*
 refine Qd ?_
 refine Qd ?_
 refine⟨by decide,?_⟩
 refine⟨way2,hm,za _ hget ?_⟩
 generalize hU2:besN g t way2=U2 at*
 refine bcd (fun c6=>?_) (fun c6=>?_)
 ·exact ret (hno2 (vq c6))
 obtain⟨u2,rfl,hul2⟩:∃u:Nat,U2=(u:Int)/\u<g.T.length:=by
  rcases hor2 with h1|h1
  ·exact absurd h1 c6
  ·exact h1
 refine⟨u2,rfl,za _ (zj (hgl u2 hul2)) ?_⟩
 rw[jy hul2]
 refine yo ?_
 refine ze (fun c7=>?_) (fun c7=>?_)
 rotate_left
 ·exact ret (hno2 (by rw[jm,c7]))
 refine Qd ?_
 refine⟨i+1,(show 2-(i+1)<2-i by omega),⟨by omega,rfl,fun j hj=>?_⟩,⟨Tq,Tq,Tq,Tq,Tq,Tq,Tq,Tv⟩,⟨rfl,Tv⟩⟩
 by_cases e:j=i
 ·subst e
  rw[hw2,hU2,jm,c7]
 ·exact hfr j (by omega)
def znj(n:Nat)(W:Nat->Bool):Nat:=sumN n fun t=>if W t then 1 else 0
theorem zx5(n:Nat)(W:Nat->Bool):znj n W<=n:=by
 have:=zlx (f:=fun t=>if W t=true then 1 else 0) (g:=fun _=>1) n (fun t _=>by split<;>omega)
 rw[zc2]at this
 unfold znj
 omega
theorem zsy{n:Nat}{W:Nat->Bool}{u:Nat}(hu:u<n)(x:Bool):znj n (updN W u x)+(if W u then 1 else 0)=znj n W+(if x then 1 else 0):=by
 have:=zfl (f:=fun t=>if updN W u x t=true then 1 else 0) (g:=fun t=>if W t=true then 1 else 0) (u:=u) n hu (fun t _ ht=>by rw[yf ht])
 simp only[z7]at this
 exact this
set_option maxHeartbeats 4000000 in
set_option maxRecDepth 20000 in
theorem ymc{g:Gnd}(hg:gndP g){l:List Bld}{c s:Int}(hc:c=0\/c=1\/c=2)(goal:Nat)(hgo:goal<g.T.length)(R:AV->Store->Prop)
  (h:∀b S,S.obj b=some (.cells (il g.T.length (farF g (zl g l c s) c goal)))->(∀u,(0<=farF g (zl g l c s) c goal u->zl g l c s u=true)/\-1<=farF g (zl g l c s) c goal u/\farF g (zl g l c s) c goal u<=2000000)->R (.s (.slice (some ⟨b,0,none⟩) g.T.length g.T.length)) S):
  ACalls Tryz.prog 62 [.agg (gndC g),zix g l c s,int c,int (goal:Nat),int (-1)] Store.empty R:=by
 have ha:=zr hg
 have hT:g.T.length<=16384:=by omega
 have hgl:∀u,u<g.T.length->u<(blL g.T.length (zl g l c s)).length:=fun u hu=>by rw[yu];exact hu
 refine Qa (c:=cfg 133 [57,1000057] []) zc Tryz.func62 ?_
 refine Qd ?_
 have hwh:g.W*g.H=((g.T.length:Nat):Int):=by omega
 rw[hwh]
 refine qr rfl (it:=ti29) (ie:=ti2) rfl rfl rfl rfl rfl (n:=g.T.length) ?_ ?_ (fun b hf=>?_)
 ·show 8*g.T.length<=_;omega
 ·omega
 have il0:List.replicate g.T.length (AV.s (.int .i64 0))=il g.T.length (zaz (-1) 0):=(ziu _).trans (wi fun t _=>(if_neg (Nat.not_lt_zero t)).symm)
 refine AWp.loop (σ:=Nat) ⟨fun i=>[(1,.av (zix g l c s)),(2,.av (int c)),(3,.av (int (goal:Nat))),(4,.av (int (-1))),(5,.bx 5 0),(11,.av (.s (.slice (some ⟨b,0,none⟩) g.T.length g.T.length))),(12,.av (int (i:Nat)))],fun _=>[(5,gndC g)],
  fun i st'=>i<=g.T.length/\st'=Store.empty.setObj b (.cells (il g.T.length (zaz (-1) i))),fun i=>g.T.length-i⟩ zc ?_ ?_
 ·exact⟨0,Tv,⟨Nat.zero_le _,by rw[<-il0]⟩,⟨Tq,Tq,Tq,Tq,Tq,Tq,Tq,Tv⟩,⟨rfl,Tv⟩⟩
 rintro i st' ⟨hi,rfl⟩
 dsimp only at hi⊢
 refine ze (fun d1=>?_) (fun d1=>?_)
 ·have hlt:i<g.T.length:=by simpa using d1
  refine⟨i,rfl,hlt,?_⟩
  refine zh (i:=ti2) (v:=int (-1)) (b:=b) (o:=0+i*1) (l:=il g.T.length (zaz (-1) i)) (st2:=Store.empty.setObj b (.cells (il g.T.length (zaz (-1) (i+1))))) rfl rfl rfl (zb _ _ _) (by rw[yz];omega) ?_ ?_
  ·rw[zg,zew _ _ _ _ hlt]
   congr 2
   refine wi fun t ht=>?_
   unfold updN zaz
   by_cases e:t=i
   ·rw[if_pos e,if_pos (by omega)]
   ·rw[if_neg e]
    by_cases e2:t<i
    ·rw[if_pos e2,if_pos (by omega)]
    ·rw[if_neg e2,if_neg (by omega)]
  refine Qd ?_
  exact⟨i+1,(show g.T.length-(i+1)<g.T.length-i by omega),⟨hlt,rfl⟩,⟨Tq,Tq,Tq,Tq,Tq,Tq,Tq,Tv⟩,⟨rfl,Tv⟩⟩
 have:i=g.T.length:=by
  have:¬i<g.T.length:=by simpa using d1
  omega
 subst this
 rw[yob]
 refine⟨goal,rfl,za _ (zj (hgl goal hgo)) ?_⟩
 rw[jy hgo]
 refine yo ?_
 refine ze (fun c1=>?_) (fun c1=>?_)
 rotate_left
 ·rw[ybu c1]at h
  exact ret (h b _ (zb _ _ _) (fun u=>⟨fun hu=>absurd (show(0:Int)<=-1 from hu) (by decide),show(-1:Int)<=-1 by decide,show(-1:Int)<=2000000 by decide⟩))
 refine⟨goal,rfl,hgo,?_⟩
 refine zh (i:=ti2) (v:=int 0) (b:=b) (o:=0+goal*1) (l:=il g.T.length fun _=>-1) (st2:=Store.empty.setObj b (.cells (il g.T.length (updN (fun _=>-1) goal 0)))) rfl rfl rfl (zb _ _ _) (by rw[yz];omega) ?_ ?_
 ·rw[zg,zew _ _ _ _ hgo]
 refine⟨by decide,fun b3 hf3=>?_⟩
 refine qr rfl (it:=ti60) (ie:=ti4) rfl rfl rfl rfl rfl (n:=g.T.length) ?_ ?_ (fun b2 hf2=>?_)
 ·show 1*_<=_;omega
 ·omega
 rw[zcx]
 have hb3:b3≠b:=fun e=>by
  have:=hf3.1
  rw[e,zb]at this;cases this
 have hb23:b2≠b3:=fun e=>by
  have:=hf2.1
  rw[e,zb]at this;cases this
 have hb2:b2≠b:=fun e=>by
  have:=hf2.1
  rw[e,zd (Ne.symm hb3),zb]at this;cases this
 have hd0:∀u,updN (fun _=>(-1:Int)) goal 0 u=if u=goal then 0 else -1:=fun u=>rfl
 have hSP:=yrb (j7 g (zl g l c s) c) hd0 (W:=inQ [goal]) (fun u=>by unfold inQ;simp)
 have hcb:=zlb hgo hd0
 have hd00:0<=updN (fun _=>(-1:Int)) goal 0 goal:=by rw[z7];exact Int.le_refl 0
 generalize updN (fun _=>(-1:Int)) goal 0=d0 at*
 refine AWp.loop (σ:=(Nat->Int)×(Nat->Bool)×List Nat×AV×Store) ⟨fun x=>[(1,.av (zix g l c s)),(2,.av (int c)),(4,.av (int (-1))),(5,.bx 5 0),(11,.av (.s (.slice (some ⟨b,0,none⟩) g.T.length g.T.length))),(13,.av x.2.2.2.1),(14,.av (.s (.slice (some ⟨b2,0,none⟩) g.T.length g.T.length)))],fun _=>[(5,gndC g)],
  fun x st'=>st'=x.2.2.2.2/\st'.obj b=some (.cells (il g.T.length x.1))/\st'.obj b2=some (.cells (bl g.T.length x.2.1))/\QF st' b b2 x.2.2.2.1 x.2.2.1/\SP (j7 g (zl g l c s) c) goal x.1 (inQ x.2.2.1) zg0/\(∀u,x.2.1 u=true->u∈x.2.2.1)/\(∀u∈x.2.2.1,u<g.T.length/\0<=x.1 u)/\zja g.T.length x.1/\x.2.2.1.length<=znj g.T.length x.2.1+1,fun x=>2*zmc g.T.length x.1+x.2.2.1.length⟩ zc ?_ ?_
 ·have hq0:∀S:Store,S.obj b3=some (.cells [int (goal:Nat)])->QF S b b2 (.s (.slice (some ⟨b3,0,none⟩) 1 1)) [goal]:=fun S hS=>⟨b3,0,1,[int (goal:Nat)],rfl,hS,Nat.le_refl 1,Nat.le_refl 1,by decide,rfl,hb3,Ne.symm hb23⟩
  refine⟨(d0,fun _=>false,[goal],.s (.slice (some ⟨b3,0,none⟩) 1 1),_),Tv,⟨rfl,?_,zb _ _ _,hq0 _ ?_,hSP,fun u hu=>Bool.noConfusion hu,fun u hu=>?_,hcb,Nat.le_add_left 1 _⟩,⟨Tq,Tq,Tq,Tq,Tq,Tq,Tq,Tv⟩,⟨rfl,Tv⟩⟩
  ·rw[zd (Ne.symm hb2),zd (Ne.symm hb3),zb]
  ·rw[zd (Ne.symm hb23),zb]
   rfl
  ·have hu:=List.mem_singleton.1 hu
   subst hu
   exact⟨hgo,hd00⟩
 clear hSP hcb hd0 hd00
 rintro⟨d,M,q,v,S⟩ st' ⟨rfl,hob,hob2,hq,hSP,hq1,hq2,hcb,hql⟩
 dsimp only at hob hob2 hq hSP hq1 hq2 hcb hql⊢
 have hqn:q.length<=16385:=by have:=zx5 g.T.length M;omega
 cases q with
 |nil=>
  obtain⟨bq,f,cap,lq,rfl,ho,h3,h4,h5,h6,h7,h8⟩:=hq
  have e:=zr5 c1 (ytm hSP (fun u=>by unfold inQ;simp))
  exact ret (h b _ (by rw[e];exact hob) (fun u=>by
   rw[e]
   have h1:=hSP.lab u
   have h2:=zdg hcb u
   exact⟨fun hu=>ytl hSP c1 hu,by omega,by omega⟩))
 |cons t r=>
 obtain⟨bq,f,cap,lq,rfl,ho,h3,h4,h5,h6,h7,h8⟩:=hq
 obtain⟨htn,hdt⟩:=hq2 t (List.mem_cons_self ..)
 refine bcd (fun c2=>?_) (fun c2=>absurd (show(0:Int)<((t::r).length:Nat) by simp only[List.length_cons];omega) c2)
 refine⟨0,rfl,Nat.zero_lt_succ _,?_⟩
 refine za (o:=st'.obj bq) _ ho ?_
 refine za _ (ysa h6) ?_
 refine⟨1,(t::r).length,rfl,rfl,by simp,h4,?_⟩
 have hv1:1<cap->QF st' b b2 (.s (.slice (some ⟨bq,f+1*1,none⟩) ((t::r).length-1) (cap-1))) r:=fun hc=>⟨bq,f+1,cap-1,lq,rfl,ho,by omega,by simp only[List.length_cons]at h4;omega,by omega,yr9 h6,h7,h8⟩
 have hv2:1=cap->QF st' b b2 (.s (.slice (some ⟨bq,f,none⟩) 0 0)) r:=fun hc=>by
  have:r=[]:=by
   simp only[List.length_cons]at h4
   exact List.eq_nil_of_length_eq_zero (by omega)
  subst this
  exact⟨bq,f,0,lq,rfl,ho,by omega,Nat.le_refl _,by decide,rfl,h7,h8⟩
 have hcap:1<cap\/1=cap:=by simp only[List.length_cons]at h4;omega
 have hSP1:SP (j7 g (zl g l c s) c) goal d (inQ r) (wayO g (zl g l c s) c t 0):=zux (zqz (yq9 hSP t) (fun u hu=>by
  unfold updN at hu
  split at hu
  ·cases hu
  ·rename_i e
   rw[inQ_iff]at hu⊢
   exact(List.mem_cons.1 hu).resolve_left e) (fun u hu=>(hq2 u (List.mem_cons_of_mem t (inQ_iff.1 hu))).2))
 have hok:=ytl hSP c1 hdt
 have hM1:∀u,updN M t false u=true->u∈r:=fun u hu=>by
  unfold updN at hu
  split at hu
  ·cases hu
  ·rename_i e
   exact(List.mem_cons.1 (hq1 u hu)).resolve_left e
 have hr2:∀u∈r,u<g.T.length/\0<=d u:=fun u hu=>hq2 u (List.mem_cons_of_mem t hu)
 have hwl:r.length<=znj g.T.length (updN M t false)+1:=by
  have:=zsy (W:=M) htn false
  simp only[List.length_cons]at hql
  split at this<;>simp at this<;>omega
 have hob':=(zd (st:=st') (b:=b) (p:=b2) (x:=.cells (bl g.T.length (updN M t false))) (Ne.symm hb2)).trans hob
 have hbig:=fun(d:Nat->Int) (h:zja g.T.length d)=>zdg h
 rcases hcap with hcap|hcap
 rotate_left
 refine .inr ⟨hcap,?_⟩
 have hQ:=(hv2 hcap).set2 (.cells (bl g.T.length (updN M t false)))
 rotate_left
 refine .inl ⟨hcap,?_⟩
 have hQ:=(hv1 hcap).set2 (.cells (bl g.T.length (updN M t false)))
 all_goals
  clear hv1 hv2
  refine⟨t,rfl,htn,?_⟩
  refine zh (i:=ti4) (v:=V.bool false) (b:=b2) (o:=0+t*1) (l:=bl g.T.length M) (st2:=st'.setObj b2 (.cells (bl g.T.length (updN M t false)))) rfl rfl rfl hob2 (by rw[jg];omega) ?_ ?_
  ·rw[ycg _ _ _ _ htn]
  refine zbe g hg t htn _ _ ?_
  refine AWp.loop (σ:=Nat×(Nat->Int)×(Nat->Bool)×List Nat×AV×Store) ⟨fun x=>[(1,.av (zix g l c s)),(2,.av (int c)),(4,.av (int (-1))),(5,.bx 5 0),(11,.av (.s (.slice (some ⟨b,0,none⟩) g.T.length g.T.length))),(13,.av x.2.2.2.2.1),(14,.av (.s (.slice (some ⟨b2,0,none⟩) g.T.length g.T.length))),(15,.av (int (t:Nat))),(16,.av (ints (vh g t))),(17,.av (int (x.1:Nat)))],fun _=>[(5,gndC g)],
   fun x st2=>x.1<=8/\st2=x.2.2.2.2.2/\st2.obj b=some (.cells (il g.T.length x.2.1))/\st2.obj b2=some (.cells (bl g.T.length x.2.2.1))/\QF st2 b b2 x.2.2.2.2.1 x.2.2.2.1/\SP (j7 g (zl g l c s) c) goal x.2.1 (inQ x.2.2.2.1) (wayO g (zl g l c s) c t x.1)/\(∀u,x.2.2.1 u=true->u∈x.2.2.2.1)/\(∀u∈x.2.2.2.1,u<g.T.length/\0<=x.2.1 u)/\0<=x.2.1 t/\zja g.T.length x.2.1/\x.2.2.2.1.length<=znj g.T.length x.2.2.1+1/\2*zmc g.T.length x.2.1+x.2.2.2.1.length<=2*zmc g.T.length d+r.length,fun x=>8-x.1⟩ zc ?_ ?_
  ·exact⟨(0,d,updN M t false,r,_,_),Tv,⟨Nat.zero_le _,rfl,hob',zb _ _ _,hQ,hSP1,hM1,hr2,hdt,hcb,hwl,Nat.le_refl _⟩,⟨Tq,Tq,Tq,Tq,Tq,Tq,Tq,Tq,Tq,Tq,Tv⟩,⟨rfl,Tv⟩⟩
  clear hQ hSP1 hM1 hr2 hwl hob' hob hob2 hSP hq1 hq2 hcb hql hdt
  rintro⟨i,e,M2,q,v,S2⟩ st2 ⟨hi,rfl,hob,hob2,hq,hSP,hq1,hq2,hdt,hcb,hql,hmu⟩
  dsimp only at hi hob hob2 hq hSP hq1 hq2 hdt hcb hql hmu⊢
  refine bcd (fun c3=>?_) (fun c3=>?_)
  rotate_left
  ·have:i=8:=by omega
   subst this
   refine⟨(e,M2,q,v,st2),?_,⟨rfl,hob,hob2,hq,yc2 hSP,hq1,hq2,hcb,hql⟩,⟨Tq,Tq,Tq,Tq,Tq,Tq,Tq,Tv⟩,⟨rfl,Tv⟩⟩
   show 2*zmc g.T.length e+q.length<2*zmc g.T.length d+(t::r).length
   simp only[List.length_cons]
   omega
  have hlt:i<8:=by omega
  refine zkk hg hc t htn i hlt _ _ ?_
  rw[show yj6 g (zl g l c s) c t i=y9 g (zl g l c s) c t i from if_pos hok]
  have hsb:=zly g (zl g l c s) c t i
  have hskip:=zng hSP
  have hedge:=zuh (g:=g) (ok:=zl g l c s) (c:=c) (t:=t) (way:=i) hok htn hlt
  have hnote:=fun(u:Nat)=>yra zdd hSP (t:=t) (u:=u) (c:=y9 g (zl g l c s) c t i) hdt
  have hor:=zgx hg t hlt
  have hfree:=fun h=>zeg (g:=g) (ok:=zl g l c s) (c:=c) (t:=t) (w:=i) h
  have hgo2:∀(e':Nat->Int) (M':Nat->Bool) (q':List Nat),SP (j7 g (zl g l c s) c) goal e' (inQ q') (wayO g (zl g l c s) c t i)->(∀u:Nat,besN g t i=u->0<y9 g (zl g l c s) c t i->0<=e' u/\e' u<=e' t+y9 g (zl g l c s) c t i)->SP (j7 g (zl g l c s) c) goal e' (inQ q') (wayO g (zl g l c s) c t (i+1)):=fun e' M' q' h1 h2=>zng h1 h2
  have hget:=zin (g:=g) (t:=t) hlt
  have hbt:=hbig e hcb t
  generalize y9 g (zl g l c s) c t i=E at*
  generalize besN g t i=U at*
  refine bceq (fun d2=>?_) (fun d2=>?_)
  ·refine Qd ?_
   exact⟨(i+1,e,M2,q,v,st2),(show 8-(i+1)<8-i by omega),⟨by dsimp only;omega,rfl,hob,hob2,hq,hskip (fun u _ h0=>absurd h0 (by omega)),hq1,hq2,hdt,hcb,hql,hmu⟩,⟨Tq,Tq,Tq,Tq,Tq,Tq,Tq,Tq,Tq,Tq,Tv⟩,⟨rfl,Tv⟩⟩
  have hE0:0<E:=by omega
  obtain⟨u,rfl,hul⟩:∃u:Nat,U=(u:Int)/\u<g.T.length:=by
   rcases hor with h1|h1
   ·exact absurd (hfree (vq h1)) d2
   ·exact h1
  have hedge:=hedge hE0
  rw[Int.toNat_natCast]at hedge
  have hnote:=fun h1 h2=>hnote u h1 hedge h2
  refine⟨i,rfl,za _ hget ?_⟩
  refine Qc zc ykh ?_
  refine⟨u,rfl,hul,?_⟩
  refine za (o:=st2.obj b) _ hob ?_
  refine za _ (qc hul) ?_
  refine bcd (fun c4=>?_) (fun c4=>?_)
  rotate_left
  have hl:e u<0\/e t+E<e u:=.inl (by omega)
  rotate_left
  refine⟨u,rfl,hul,?_⟩
  refine za (o:=st2.obj b) _ hob ?_
  refine za _ (qc hul) ?_
  refine⟨t,rfl,htn,?_⟩
  refine za (o:=st2.obj b) _ hob ?_
  refine za _ (qc htn) ?_
  refine Qd ?_
  refine bcd (fun c5=>?_) (fun c5=>?_)
  ·refine Qd ?_
   exact⟨(i+1,e,M2,q,v,st2),(show 8-(i+1)<8-i by omega),⟨by dsimp only;omega,rfl,hob,hob2,hq,hskip (fun u' hu' _=>by
    have:u=u':=by omega
    subst this
    exact⟨c4,c5⟩),hq1,hq2,hdt,hcb,hql,hmu⟩,⟨Tq,Tq,Tq,Tq,Tq,Tq,Tq,Tq,Tq,Tq,Tv⟩,⟨rfl,Tv⟩⟩
  have hl:e u<0\/e t+E<e u:=.inr (by omega)
  all_goals
   have htu:t≠u:=fun h=>by subst h;rcases hl with h|h<;>omega
   have hSPn:=hnote htu hl
   have hcbn:=zdf hcb hul hdt ⟨hE0,hsb.2⟩ hl
   have hlf:=yas hcb hul hdt ⟨hE0,hsb.2⟩ hl
   have hdtn:updN e u (e t+E) t=e t:=yf htu
   have hdun:updN e u (e t+E) u=e t+E:=z7 _ _ _
   have hnn:∀x,0<=e x->0<=updN e u (e t+E) x:=fun x hx=>by
    unfold updN
    split
    ·omega
    ·exact hx
   have hob3:(st2.setObj b (.cells (il g.T.length (updN e u (e t+E))))).obj b2=_:=(zd hb2).trans hob2
   have hq3:=hq.set1 (.cells (il g.T.length (updN e u (e t+E))))
   refine⟨t,rfl,htn,?_⟩
   refine za (o:=st2.obj b) _ hob ?_
   refine za _ (qc htn) ?_
   refine Qd ?_
   refine⟨u,rfl,hul,?_⟩
   refine zh (i:=ti2) (v:=int (e t+E)) (b:=b) (o:=0+u*1) (l:=il g.T.length e) (st2:=st2.setObj b (.cells (il g.T.length (updN e u (e t+E))))) rfl rfl rfl hob (by rw[yz];omega) ?_ ?_
   ·rw[zew _ _ _ _ hul]
   generalize hS3:st2.setObj b (.cells (il g.T.length (updN e u (e t+E))))=S3 at*
   have hob1:S3.obj b=some (.cells (il g.T.length (updN e u (e t+E)))):=by rw[<-hS3,zb]
   generalize hed:updN e u (e t+E)=e2 at*
   refine⟨u,rfl,hul,?_⟩
   refine za (o:=S3.obj b2) _ hob3 ?_
   refine za _ (zm3 hul) ?_
   refine yo ?_
   refine ze (fun c6=>?_) (fun c6=>?_)
   ·refine Qd ?_
    have hmem:=hq1 u c6
    refine⟨(i+1,e2,M2,q,v,S3),(show 8-(i+1)<8-i by omega),⟨by dsimp only;omega,rfl,hob1,hob3,hq3,?_,hq1,fun x hx=>⟨(hq2 x hx).1,hnn x (hq2 x hx).2⟩,by dsimp only;omega,hcbn,hql,by dsimp only;omega⟩,⟨Tq,Tq,Tq,Tq,Tq,Tq,Tq,Tq,Tq,Tq,Tv⟩,⟨rfl,Tv⟩⟩
    refine hgo2 e2 (fun _=>true) _ (zqz hSPn (fun x hx=>?_) (fun x hx=>hnn x (hq2 x (inQ_iff.1 hx)).2)) (fun u' hu' _=>?_)
    ·unfold updN at hx
     split at hx
     ·rename_i ex;subst ex;exact inQ_iff.2 hmem
     ·exact hx
    ·have:u=u':=by omega
     subst this
     omega
   refine⟨u,rfl,hul,?_⟩
   refine zh (i:=ti4) (v:=V.bool true) (b:=b2) (o:=0+u*1) (l:=bl g.T.length M2) (st2:=S3.setObj b2 (.cells (bl g.T.length (updN M2 u true)))) rfl rfl rfl hob3 (by rw[jg];omega) ?_ ?_
   ·rw[ycg _ _ _ _ hul]
   refine⟨by decide,?_⟩
   refine zzq (ie:=ti2) rfl rfl (by decide) (hq3.set2 (.cells (bl g.T.length (updN M2 u true)))) (by have:=zx5 g.T.length M2;omega) ((zd (Ne.symm hb2)).trans hob1) (zb _ _ _) u (fun v2 S4 g1 g2 g3=>?_)
   have hw:=zsy (n:=g.T.length) (W:=M2) hul true
   rw[c6]at hw
   refine Qd ?_
   refine⟨(i+1,e2,updN M2 u true,q++[u],v2,S4),(show 8-(i+1)<8-i by omega),⟨by dsimp only;omega,rfl,g2,g3,g1,?_,fun x hx=>?_,fun x hx=>?_,by dsimp only;omega,hcbn,?_,?_⟩,⟨Tq,Tq,Tq,Tq,Tq,Tq,Tq,Tq,Tq,Tq,Tv⟩,⟨rfl,Tv⟩⟩
   ·refine hgo2 e2 (fun _=>true) _ (zqz hSPn (fun x hx=>?_) (fun x hx=>?_)) (fun u' hu' _=>?_)
    ·rw[inQ_iff]
     unfold updN at hx
     split at hx
     ·rename_i ex;subst ex;simp
     ·exact List.mem_append_left _ (inQ_iff.1 hx)
    ·rcases List.mem_append.1 (inQ_iff.1 hx)with h1|h1
     ·exact hnn x (hq2 x h1).2
     ·have:=List.mem_singleton.1 h1
      subst this
      omega
    ·have:u=u':=by omega
     subst this
     omega
   ·unfold updN at hx
    dsimp only at hx
    split at hx
    ·rename_i ex;subst ex;simp
    ·exact List.mem_append_left _ (hq1 x hx)
   ·rcases List.mem_append.1 hx with h1|h1
    ·exact⟨(hq2 x h1).1,hnn x (hq2 x h1).2⟩
    ·have:=List.mem_singleton.1 h1
     subst this
     exact⟨hul,by dsimp only;omega⟩
   ·show(q++[u]).length<=znj g.T.length (updN M2 u true)+1
    simp only[List.length_append,List.length_singleton]
    simp at hw
    omega
   ·show 2*zmc g.T.length e2+(q++[u]).length<=_
    simp only[List.length_append,List.length_singleton]
    omega
noncomputable def wayU(g:Gnd)(ok:Nat->Bool)(c:Int)(d:Nat->Int)(i t:Nat):Int:=if t<i then wayF g ok c d t else 0
theorem zx1{g:Gnd}{ok:Nat->Bool}{c:Int}{d:Nat->Int}{i:Nat}:wayU g ok c d (i+1)=updN (wayU g ok c d i) i (wayF g ok c d i):=funext fun t=>by
 unfold wayU updN
 dsimp only
 by_cases h:t=i
 ·subst h;rw[if_pos (by omega),if_pos rfl]
 ·rw[if_neg h]
  by_cases h2:t<i
  ·rw[if_pos h2,if_pos (by omega)]
  ·rw[if_neg h2,if_neg (by omega)]
theorem zx7{α:Type}(d:Nat->α)(u:Nat)(x y:α):updN (updN d u x) u y=updN d u y:=funext fun t=>by
 unfold updN
 split<;>rfl
theorem ysm(g:Gnd)(ok:Nat->Bool)(c:Int)(d:Nat->Int)(n:Nat):il n (wayU g ok c d n)=il n (wayF g ok c d):=wi fun t ht=>if_pos ht
set_option maxHeartbeats 4000000 in
set_option maxRecDepth 20000 in
theorem zzi{g:Gnd}(hg:gndP g){l:List Bld}(hl:l.length<=1000000000000)(hb:∀b∈l,bldP b/\onP g b){c s:Int}(hc:c=0\/c=1\/c=2)(hs:0<=s)(goal:Nat)(hgo:goal<g.T.length)(R:AV->Store->Prop)
  (h:∀b S,S.obj b=some (.cells (il g.T.length (wayF g (zl g l c s) c (farF g (zl g l c s) c goal))))->R (.s (.slice (some ⟨b,0,none⟩) g.T.length g.T.length)) S):
  ACalls Tryz.prog 93 [.agg (gndC g),lst 6 bldC l,int c,int s,int (goal:Nat)] Store.empty R:=by
 have ha:=zr hg
 have hT:g.T.length<=16384:=by omega
 refine Qa (c:=cfg 92) zc Tryz.func93 ?_
 refine zko g hg l hl hb c hc s hs _ _ ?_
 refine ymc hg hc goal hgo _ (fun b S hob hF=>?_)
 refine qr rfl (it:=ti29) (ie:=ti2) rfl rfl rfl rfl rfl (n:=g.T.length) ?_ ?_ (fun b2 hf2=>?_)
 ·show 8*g.T.length<=_;omega
 ·omega
 have hbb:b2≠b:=fun e=>by rw[e]at hf2;rw[hf2.1]at hob;cases hob
 generalize farF g (zl g l c s) c goal=D at*
 have il0:List.replicate g.T.length (AV.s (.int .i64 0))=il g.T.length (wayU g (zl g l c s) c D 0):=(ziu _).trans (wi fun t _=>(if_neg (Nat.not_lt_zero t)).symm)
 refine AWp.loop (σ:=Nat) ⟨fun i=>[(2,.av (int c)),(5,.bx 5 0),(11,.av (zix g l c s)),(12,.av (.s (.slice (some ⟨b,0,none⟩) g.T.length g.T.length))),(13,.av (.s (.slice (some ⟨b2,0,none⟩) g.T.length g.T.length))),(14,.av (int (i:Nat)))],fun _=>[(5,gndC g)],
  fun i st'=>i<=g.T.length/\st'=S.setObj b2 (.cells (il g.T.length (wayU g (zl g l c s) c D i))),fun i=>g.T.length-i⟩ zc ?_ ?_
 ·exact⟨0,Tv,⟨Nat.zero_le _,by rw[<-il0]⟩,⟨Tq,Tq,Tq,Tq,Tq,Tq,Tv⟩,⟨rfl,Tv⟩⟩
 rintro i st' ⟨hi,rfl⟩
 dsimp only at hi⊢
 refine ze (fun d1=>?_) (fun d1=>?_)
 rotate_left
 ·have:i=g.T.length:=by
   have:¬i<g.T.length:=by simpa using d1
   omega
  subst this
  exact ret (h b2 _ (by rw[zb,ysm]))
 have hlt:i<g.T.length:=by simpa using d1
 have hobT:=fun x=>(zd (st:=S) (b:=b) (p:=b2) (x:=x) (Ne.symm hbb)).trans hob
 refine⟨i,rfl,hlt,?_⟩
 refine zh (i:=ti2) (v:=int (-1)) (b:=b2) (o:=0+i*1) (l:=il g.T.length (wayU g (zl g l c s) c D i)) (st2:=S.setObj b2 (.cells (il g.T.length (updN (wayU g (zl g l c s) c D i) i (-1))))) rfl rfl rfl (zb _ _ _) (by rw[yz];omega) ?_ ?_
 ·rw[zg,zew _ _ _ _ hlt]
 have hn:=zx1 (g:=g) (ok:=zl g l c s) (c:=c) (d:=D) (i:=i)
 refine⟨i,rfl,hlt,?_⟩
 refine za (o:=(S.setObj b2 _).obj b) _ (hobT _) ?_
 refine za _ (qc hlt) ?_
 refine bcd (fun c1=>?_) (fun c1=>?_)
 ·rw[zsx c1]at hn
  refine Qd ?_
  exact⟨i+1,(show g.T.length-(i+1)<g.T.length-i by omega),⟨hlt,by rw[hn]⟩,⟨Tq,Tq,Tq,Tq,Tq,Tq,Tv⟩,⟨rfl,Tv⟩⟩
 refine zbe g hg i hlt _ _ ?_
 have hoki:=(hF i).1 (by omega)
 generalize wayU g (zl g l c s) c D i=B0 at*
 refine AWp.loop (σ:=Nat×Int) ⟨fun x=>[(2,.av (int c)),(5,.bx 5 0),(11,.av (zix g l c s)),(12,.av (.s (.slice (some ⟨b,0,none⟩) g.T.length g.T.length))),(13,.av (.s (.slice (some ⟨b2,0,none⟩) g.T.length g.T.length))),(14,.av (int (i:Nat))),(15,.av (ints (vh g i))),(16,.av (int ((x.1:Nat)-1:Int)))],fun _=>[(5,gndC g)],
  fun x st'=>x.1<=8/\st'=S.setObj b2 (.cells (il g.T.length (updN B0 i x.2)))/\((x.2=-1/\∀w,x.1<=w->w<8->¬jl g (zl g l c s) c D i w)\/∃j:Nat,x.2=(j:Int)/\x.1<=j/\j<8/\jl g (zl g l c s) c D i j/\∀w,x.1<=w->w<j->¬jl g (zl g l c s) c D i w),fun x=>x.1⟩ zc ?_ ?_
 ·exact⟨(8,-1),Tv,⟨Nat.le_refl _,rfl,.inl ⟨rfl,fun w h1 h2=>absurd h2 (by omega)⟩⟩,⟨Tq,Tq,Tq,Tq,Tq,Tq,Tq,Tq,Tv⟩,⟨rfl,Tv⟩⟩
 rintro⟨k,y⟩ st' ⟨hk,rfl,hy⟩
 dsimp only at hk hy⊢
 cases k with
 |zero=>
  have hyw:y=wayF g (zl g l c s) c D i:=by
   rcases hy with⟨h1,h2⟩|⟨j,h1,_,h3,h4,h5⟩
   ·rw[h1,zni c1 (fun w hw=>h2 w (Nat.zero_le _) hw)]
   ·rw[h1,znh c1 h3 h4 (fun w hw=>h5 w (Nat.zero_le _) hw)]
  subst hyw
  refine Qd ?_
  exact⟨i+1,(show g.T.length-(i+1)<g.T.length-i by omega),⟨hlt,by rw[hn]⟩,⟨Tq,Tq,Tq,Tq,Tq,Tq,Tv⟩,⟨rfl,Tv⟩⟩
 |succ w=>
 have hw:w<8:=by omega
 rw[show(((w+1:Nat):Int)-1)=(w:Int) by omega]
 refine zkk hg hc i hlt w hw _ _ ?_
 rw[show yj6 g (zl g l c s) c i w=y9 g (zl g l c s) c i w from if_pos hoki]
 have hgo1:jl g (zl g l c s) c D i w↔(0<y9 g (zl g l c s) c i w/\0<=D (besN g i w).toNat/\y9 g (zl g l c s) c i w+D (besN g i w).toNat=D i):=Iff.rfl
 have hno:¬jl g (zl g l c s) c D i w->((y=-1/\∀w',w<=w'->w'<8->¬jl g (zl g l c s) c D i w')\/∃j:Nat,y=(j:Int)/\w<=j/\j<8/\jl g (zl g l c s) c D i j/\∀w',w<=w'->w'<j->¬jl g (zl g l c s) c D i w'):=fun hn0=>by
  have key:∀w',w<=w'->w'=w\/w+1<=w':=fun w' h=>by omega
  rcases hy with⟨h1,h2⟩|⟨j,h1,h2,h3,h4,h5⟩
  ·exact .inl ⟨h1,fun w' h3 h4=>(key w' h3).elim (fun e=>e▸hn0) (fun h=>h2 w' h h4)⟩
  ·exact .inr ⟨j,h1,by omega,h3,h4,fun w' h6 h7=>(key w' h6).elim (fun e=>e▸hn0) (fun h=>h5 w' h h7)⟩
 have hsb:=zly g (zl g l c s) c i w
 have hor:=zgx hg i hw
 have hfree:=fun h=>zeg (g:=g) (ok:=zl g l c s) (c:=c) (t:=i) (w:=w) h
 have hget:=zin (g:=g) (t:=i) hw
 have hlast:jl g (zl g l c s) c D i w->(((w:Int)=-1/\∀w',w<=w'->w'<8->¬jl g (zl g l c s) c D i w')\/∃j:Nat,(w:Int)=(j:Int)/\w<=j/\j<8/\jl g (zl g l c s) c D i j/\∀w',w<=w'->w'<j->¬jl g (zl g l c s) c D i w'):=fun hg1=>.inr ⟨w,rfl,Nat.le_refl _,hw,hg1,fun w' h1 h2=>absurd h2 (by omega)⟩
 generalize y9 g (zl g l c s) c i w=E at*
 generalize besN g i w=U at*
 refine Qc zc yke ?_
 refine bcd (fun c3=>?_) (fun c3=>?_)
 rotate_left
 ·refine Qd ?_
  exact⟨(w,y),Nat.lt_succ_self w,⟨by dsimp only;omega,rfl,hno (fun q=>c3 (hgo1.1 q).1)⟩,⟨Tq,Tq,Tq,Tq,Tq,Tq,Tq,Tq,Tv⟩,⟨rfl,Tv⟩⟩
 obtain⟨u,rfl,hul⟩:∃u:Nat,U=(u:Int)/\u<g.T.length:=by
  rcases hor with h1|h1
  ·exact absurd (hfree (vq h1)) (by omega)
  ·exact h1
 rw[Int.toNat_natCast]at hgo1
 have hDu:=hF u
 refine⟨w,rfl,za _ hget ?_⟩
 refine⟨u,rfl,hul,?_⟩
 refine za (o:=(S.setObj b2 _).obj b) _ (hobT _) ?_
 refine za _ (qc hul) ?_
 refine bcd (fun c4=>?_) (fun c4=>?_)
 rotate_left
 ·refine Qd ?_
  exact⟨(w,y),Nat.lt_succ_self w,⟨by dsimp only;omega,rfl,hno (fun q=>c4 (hgo1.1 q).2.1)⟩,⟨Tq,Tq,Tq,Tq,Tq,Tq,Tq,Tq,Tv⟩,⟨rfl,Tv⟩⟩
 refine⟨w,rfl,za _ hget ?_⟩
 refine⟨u,rfl,hul,?_⟩
 refine za (o:=(S.setObj b2 _).obj b) _ (hobT _) ?_
 refine za _ (qc hul) ?_
 refine Qd ?_
 refine⟨i,rfl,hlt,?_⟩
 refine za (o:=(S.setObj b2 _).obj b) _ (hobT _) ?_
 refine za _ (qc hlt) ?_
 refine bceq (fun c5=>?_) (fun c5=>?_)
 rotate_left
 ·refine Qd ?_
  exact⟨(w,y),Nat.lt_succ_self w,⟨by dsimp only;omega,rfl,hno (fun q=>c5 (by have:=(hgo1.1 q).2.2;omega))⟩,⟨Tq,Tq,Tq,Tq,Tq,Tq,Tq,Tq,Tv⟩,⟨rfl,Tv⟩⟩
 refine⟨i,rfl,hlt,?_⟩
 refine zh (i:=ti2) (v:=int (w:Nat)) (b:=b2) (o:=0+i*1) (l:=il g.T.length (updN B0 i y)) (st2:=S.setObj b2 (.cells (il g.T.length (updN B0 i (w:Int))))) rfl rfl rfl (zb _ _ _) (by rw[yz];omega) ?_ ?_
 ·rw[zg,zew _ _ _ _ hlt,zx7]
 refine Qd ?_
 exact⟨(w,(w:Int)),Nat.lt_succ_self w,⟨by dsimp only;omega,rfl,hlast (hgo1.2 ⟨c3,c4,by omega⟩)⟩,⟨Tq,Tq,Tq,Tq,Tq,Tq,Tq,Tq,Tv⟩,⟨rfl,Tv⟩⟩
theorem zvw{g:Gnd}(hg:gndP g){l:List Bld}(hl:l.length<=1000000000000)(hb:∀b∈l,bldP b/\onP g b){c s:Int}(hc:c=0\/c=1\/c=2)(hs:0<=s)(goal:Nat)(hgo:goal<g.T.length)(st:Store)(R:AV->Store->Prop)
  (h:∀b N,N.obj b=some (.cells (il g.T.length (wayF g (zl g l c s) c (farF g (zl g l c s) c goal))))->Disj N st->R (.s (.slice (some ⟨b,0,none⟩) g.T.length g.T.length)) (N.un st)):
  ACalls Tryz.prog 93 [.agg (gndC g),lst 6 bldC l,int c,int s,int (goal:Nat)] st R:=by
 rw[<-xt st]
 exact ACalls.frame (fun b hb=>(hb.elim (fun h=>h rfl) (fun h=>h rfl):False).elim) (zzi hg hl hb hc hs goal hgo (fun r S=>∃b,r=.s (.slice (some ⟨b,0,none⟩) g.T.length g.T.length)/\S.obj b=some (.cells (il g.T.length (wayF g (zl g l c s) c (farF g (zl g l c s) c goal))))) (fun b S hS=>⟨b,rfl,hS⟩)) fun r N ⟨b,e,hN⟩ hd=>by rw[e];exact h b N hN hd
def zmi(w:Wld)(u:Unt)(k:Nat):Vc:=(w.U.take k).foldl (fun v x=>if x.inn=0/\x.id≠u.id then vadd v (we u.pos (kRad u.kind+kRad x.kind+16384) x.pos)else v) (0,0)
theorem zk3{w:Wld}{u:Unt}{k:Nat}(hk:k<w.U.length):zmi w u (k+1)=if w.U[k].inn=0/\w.U[k].id≠u.id then vadd (zmi w u k) (we u.pos (kRad u.kind+kRad w.U[k].kind+16384) w.U[k].pos)else zmi w u k:=by
 unfold zmi
 rw[List.take_succ_eq_append_getElem hk,List.foldl_append]
 rfl
theorem ya5(w:Wld)(u:Unt):zmi w u w.U.length=zcu w u:=by
 unfold zmi zcu
 rw[List.take_length]
theorem ymu{w:Wld}{u:Unt}:∀k,k<=w.U.length->(zmi w u k).ok:=by
 intro k
 induction k with
 |zero=>
  intro _
  have:Vc.ok (0,0):=⟨⟨by decide,by decide⟩,⟨by decide,by decide⟩⟩
  exact this
 |succ k ih=>
  intro hk
  rw[zk3 (by omega)]
  split
  ·exact zqo _ _
  ·exact ih (by omega)
set_option maxHeartbeats 4000000 in
set_option maxRecDepth 20000 in
theorem zl8(w:Wld)(hw:playW w){i:Nat}(hi:i<w.U.length)(h0:w.U[i].inn=0)(st:Store)(R:AV->Store->Prop)(h:R (.agg (vecC (zcu w w.U[i]))) st):ACalls Tryz.prog 49 [.agg (wldC w),int (i:Nat)] st R:=by
 have f:=mayF hw.1
 have hU:=f.hU
 have hkd:=fun(k:Nat) (hk:k<w.U.length)=>f.hk _ (List.getElem_mem hk)
 have hne:∀(k:Nat) (hk:k<w.U.length),k≠i->w.U[k].id≠w.U[i].id:=fun k hk hki=>by
  rcases Nat.lt_or_ge k i with g|g
  ·have:=je hw.1.1.2.1 g hi
   omega
  ·have:=je hw.1.1.2.1 (show i<k by omega) hk
   omega
 refine Qa (c:=cfg 55) zc Tryz.func49 ?_
 refine⟨i,rfl,za _ (zj hi) ?_⟩
 refine ve w.U[i].kind (hkd i hi) _ _ ?_
 refine AWp.loop (σ:=Nat) ⟨fun k=>[(1,.av (int (i:Nat))),(2,.bx 2 0),(4,.bx 4 0),(5,.bx 5 0),(6,.av (int (kRad w.U[i].kind))),(7,.bx 7 0),(8,.av (int (k:Nat)))],fun k=>[(2,wldC w),(4,[int 0,int 0]),(5,untC w.U[i]),(7,vecC (zmi w w.U[i] k))],
  fun k st'=>k<=w.U.length/\st'=st,fun k=>w.U.length-k⟩ zc ?_ ?_
 ·exact⟨0,Tv,⟨Nat.zero_le _,rfl⟩,⟨Tq,Tq,Tq,Tq,Tq,Tq,Tq,Tv⟩,⟨rfl,rfl,rfl,rfl,Tv⟩⟩
 rintro k st' ⟨hk,rfl⟩
 dsimp only at hk⊢
 refine ze (fun d1=>?_) (fun d1=>?_)
 rotate_left
 ·have:k=w.U.length:=ja d1 hk
  subst this
  rw[ya5]
  exact ret h
 have hlt:k<w.U.length:=xk d1
 have hnx:=zk3 (u:=w.U[i]) hlt
 have hok:=ymu (u:=w.U[i]) k hk
 refine⟨k,rfl,za _ (zj hlt) ?_⟩
 refine bceq (fun c1=>?_) (fun c1=>?_)
 ·have:k=i:=by omega
  subst this
  rw[if_neg (fun q=>q.2 rfl)]at hnx
  refine Qd ?_
  exact⟨k+1,(show w.U.length-(k+1)<w.U.length-k by omega),⟨hlt,rfl⟩,⟨Tq,Tq,Tq,Tq,Tq,Tq,Tq,Tv⟩,⟨rfl,rfl,rfl,by(rw[hnx];rfl),Tv⟩⟩
 refine bcne (fun c2=>?_) (fun c2=>?_)
 ·rw[if_neg (fun q=>c2 q.1)]at hnx
  refine Qd ?_
  exact⟨k+1,(show w.U.length-(k+1)<w.U.length-k by omega),⟨hlt,rfl⟩,⟨Tq,Tq,Tq,Tq,Tq,Tq,Tq,Tv⟩,⟨rfl,rfl,rfl,by(rw[hnx];rfl),Tv⟩⟩
 rw[if_pos ⟨c2,hne k hlt (by omega)⟩]at hnx
 have r1:=zb5 w.U[i].kind
 have r2:=zb5 w.U[k].kind
 have m1:=zbi hw.1 (List.getElem_mem hi) h0
 have m2:=zbi hw.1 (List.getElem_mem hlt) c2
 have hpo:(we w.U[i].pos (kRad w.U[i].kind+kRad w.U[k].kind+16384) w.U[k].pos).ok:=by have:=zc8 m1 m2 (show 0<kRad w.U[i].kind+kRad w.U[k].kind+16384 by omega);exact⟨⟨by omega,by omega⟩,⟨by omega,by omega⟩⟩
 refine Qc zc yru ?_
 refine⟨by decide,?_⟩
 refine⟨ve w.U[k].kind (hkd k hlt) _ _ ⟨Qe,?_⟩,Tv⟩
 refine Qd ?_
 refine Qd ?_
 refine⟨zvh w.U[i].pos (kRad w.U[i].kind+kRad w.U[k].kind+16384) w.U[k].pos m1 m2 (by omega) _ _ ⟨Qe,?_⟩,Tv⟩
 refine⟨zbc (zmi w w.U[i] k) _ hok hpo _ _ ⟨Qe,?_⟩,Tv⟩
 refine⟨⟨Tv,?_⟩,Tv⟩
 refine Qd ?_
 exact⟨k+1,(show w.U.length-(k+1)<w.U.length-k by omega),⟨hlt,rfl⟩,⟨Tq,Tq,Tq,Tq,Tq,Tq,Tq,Tv⟩,⟨rfl,rfl,rfl,by(rw[hnx];rfl),Tv⟩⟩
theorem ze6(l:List Unt)(hl:l.length<=1000000)(R:AV->Store->Prop)(h:∀v N,RowsO 10 untC N v l->R v N):ACalls Tryz.prog 42 [lst 10 untC l] Store.empty R:=by
 refine Qa (c:=cfg 19) zc Tryz.func42 ?_
 refine AWp.loop (σ:=Nat×AV×Store) ⟨fun s=>[(0,.av (lst 10 untC l)),(3,.av s.2.1),(4,.av (int s.1))],fun _=>[],fun s st'=>s.1<=l.length/\st'=s.2.2/\RowsO 10 untC s.2.2 s.2.1 (l.take s.1),fun s=>l.length-s.1⟩ zc ?_ ?_
 ·exact⟨(0,_,Store.empty),Tv,⟨Nat.zero_le _,rfl,.inl ⟨rfl,rfl⟩⟩,⟨Tq,Tq,Tq,Tv⟩,Tv⟩
 ·rintro⟨i,v,N⟩ st' ⟨hi,rfl,ha⟩
  dsimp only at hi ha⊢
  refine ze (fun h1=>?_) (fun h1=>?_)
  ·have hlt:i<l.length:=xk h1
   refine⟨i,rfl,za _ (zj hlt) ?_⟩
   refine⟨by decide,?_⟩
   refine zm7 (ie:=ti50) rfl (fun _=>rfl) (by decide) ha l[i] rfl (by rw[List.length_take];omega) (fun b cap L q1 q2 q3 q4=>?_)
   refine⟨⟨by omega,by omega⟩,?_⟩
   refine⟨(i+1,_,_),?_,⟨hlt,rfl,?_⟩,⟨Tq,Tq,Tq,Tv⟩,Tv⟩
   ·show l.length-(i+1)<l.length-i
    omega
   ·dsimp only
    rw[List.take_succ_eq_append_getElem hlt]
    exact .inr ⟨b,cap,L,rfl,zb _ _ _,q2,q3,q4⟩
  ·have hge:i=l.length:=ja h1 hi
   subst hge
   rw[List.take_length]at ha
   exact ret (h _ _ ha)
theorem zj0(l:List Unt)(hl:l.length<=1000000)(st:Store)(R:AV->Store->Prop)(h:∀v N,RowsO 10 untC N v l->Disj N st->R v (N.un st)):ACalls Tryz.prog 42 [lst 10 untC l] st R:=by
 rw[<-xt st]
 exact ACalls.frame (zbx st) (ze6 l hl (fun v N=>RowsO 10 untC N v l) fun v N hv=>hv) fun v N hv hd=>h v N hv hd
theorem zjb(w:Wld)(hw:w.fits)(hU:w.U.length<=1000000)(st:Store)(R:AV->Store->Prop)(h:∀v N,RowsO 10 untC N v w.U->Disj N st->R (.agg (wldV w v)) (N.un st)):ACalls Tryz.prog 13 [.agg (wldC w)] st R:=by
 refine Qa (c:=cfg 18) zc Tryz.func13 ?_
 refine zaj w.G hw.1 _ _ ?_
 refine zby w.B hw.2.1 _ _ ?_
 refine zj0 w.U hU _ _ (fun v N hv hd=>?_)
 have hv2:=hv
 rcases hv2 with⟨rfl,_⟩|⟨b,cap,L,rfl,_⟩
 ·exact ret (h _ N hv hd)
 ·exact ret (h _ N hv hd)
theorem zy4{g:Store}{b cap:Nat}{us:List Unt}{L:List AV}(h1:us.length<=cap)(h2:cap*10<=us.length*10+L.length)(h3:cap<=9223372036854775807){i j:Nat}(hi:i<us.length){ys:List AV}(hj:j+ys.length<=10){u':Unt}(hu:untC u'=zo (untC us[i]) j ys):
  RowsO 10 untC (g.setObj b (.cells (zo ((rws untC us).flatten++L) (0+i*10+j) ys))) (.s (.slice (some ⟨b,0,none⟩) us.length cap)) (us.set i u'):=by
 refine .inr ⟨b,cap,L,by rw[List.length_set],?_,by rw[List.length_set];exact h1,by rw[List.length_set];exact h2,h3⟩
 rw[zb,Nat.zero_add,zbo qf hi hj hu]
theorem zj1{S:Store}{v0:AV}{l:List Unt}(hv0:RowsQ 10 untC S v0 l)(hl:l.length<=1000000)(R:AV->Store->Prop)(h:∀v N,RowsO 10 untC N v l->Disj N S->R v (N.un S)):ACalls Tryz.prog 42 [v0] S R:=by
 obtain⟨oa,c0,rfl,hget⟩:=hv0.form
 refine Qa (c:=cfg 19) zc Tryz.func42 ?_
 refine AWp.loop (σ:=Nat×AV×Store) ⟨fun s=>[(0,.av (.s (.slice oa l.length c0))),(3,.av s.2.1),(4,.av (int s.1))],fun _=>[],fun s st'=>s.1<=l.length/\st'=s.2.2.un S/\Disj s.2.2 S/\RowsO 10 untC s.2.2 s.2.1 (l.take s.1),fun s=>l.length-s.1⟩ zc ?_ ?_
 ·exact⟨(0,_,Store.empty),Tv,⟨Nat.zero_le _,(xt S).symm,zbx S,.inl ⟨rfl,rfl⟩⟩,⟨Tq,Tq,Tq,Tv⟩,Tv⟩
 ·rintro⟨i,v,N⟩ st' ⟨hi,rfl,hd,ha⟩
  dsimp only at hi ha hd⊢
  refine ze (fun h1=>?_) (fun h1=>?_)
  ·have hlt:i<l.length:=by simpa using h1
   obtain⟨b,J,rfl,ho⟩:=hget i hlt
   refine⟨i,rfl,hlt,?_⟩
   refine za (o:=(N.un S).obj b) _ (un_r ho) ?_
   refine zn (i:=ti50) (row:=untC l[i]) rfl rfl (kj qf hlt) ?_
   refine⟨by decide,?_⟩
   refine zm7 (ie:=ti50) rfl (fun _=>rfl) (by decide) (ha.unL hd) l[i] rfl (by rw[List.length_take];omega) (fun b2 cap L q1 q2 q3 q4=>?_)
   have hnb:¬S.has b2:=by
    rcases q1 with q1|⟨c1,q1⟩
    ·exact fresh_iff.1 (fresh_un q1).2
    ·subst q1
     rcases ha with⟨e,_⟩|⟨b3,c3,L3,e,e2,_⟩
     ·cases e
     ·cases e
      exact hd _ (yw e2)
   rw[qb hnb]
   refine⟨⟨by omega,by omega⟩,?_⟩
   refine⟨(i+1,_,_),?_,⟨hlt,rfl,qq hd hnb,?_⟩,⟨Tq,Tq,Tq,Tv⟩,Tv⟩
   ·show l.length-(i+1)<l.length-i
    omega
   ·dsimp only
    rw[List.take_succ_eq_append_getElem hlt]
    exact .inr ⟨b2,cap,L,rfl,zb _ _ _,q2,q3,q4⟩
  ·have hge:i=l.length:=by
    have:¬i<l.length:=by simpa using h1
    omega
   subst hge
   rw[List.take_length]at ha
   exact ret (h _ _ ha hd)
theorem zjc{S:Store}{w:Wld}{v0:AV}(hv0:RowsQ 10 untC S v0 w.U)(hw:w.fits)(hU:w.U.length<=1000000)(R:AV->Store->Prop)(h:∀v N,RowsO 10 untC N v w.U->Disj N S->R (.agg (wldV w v)) (N.un S)):ACalls Tryz.prog 13 [.agg (wldV w v0)] S R:=by
 have hv2:=hv0
 obtain⟨oa,c0,rfl,_⟩:=hv2.form
 refine Qa (c:=cfg 18) zc Tryz.func13 ?_
 refine zaj w.G hw.1 _ _ ?_
 refine zby w.B hw.2.1 _ _ ?_
 refine zj1 hv0 hU _ (fun v N hv hd=>?_)
 have hv2:=hv
 rcases hv2 with⟨rfl,_⟩|⟨b,cap,L,rfl,_⟩
 ·exact ret (h _ N hv hd)
 ·exact ret (h _ N hv hd)
theorem ytr{w:World}{T:Nat->Nat->Prop}{x y z t:AV}{vs:List Value}(h:Reads w T [x,y,z,t] vs):∃a b c d,vs=[a,b,c,d]/\VRel w T x a/\VRel w T y b/\VRel w T z c/\VRel w T t d:=by
 obtain⟨h1,h2⟩:=h
 match vs,h1,h2 with
 |[a,b,c,d],_,h2=>exact⟨a,b,c,d,rfl,h2 0 _ _ rfl rfl,h2 1 _ _ rfl rfl,h2 2 _ _ rfl rfl,h2 3 _ _ rfl rfl⟩
theorem zn8{S:Store}{w:Wld}{v:AV}(hv:RowsQ 10 untC S v w.U)(hw:playW w)(id k:Int)(hk:zca k)(q:Vc)(hq:q.ok)(R:AV->Store->Prop)
  (h:∀z:Bool,(z=true↔yv w id k q)->R (V.bool z) S):ACalls Tryz.prog 33 [.agg (wldV w v),int id,int k,.agg (vecC q)] S R:=
 ACalls.read (ys:=[.agg (wldC w),int id,int k,.agg (vecC q)]) (Q:=fun r=>∃z:Bool,r=V.bool z/\(z=true↔yv w id k q)) (fun Oth M W vs sto hr=>by
  obtain⟨a,b,c,d,rfl,h1,h2,h3,h4⟩:=ytr hr
  exact Reads.cons (k6 hv sto h1) (Reads.cons (z8 h2) (Reads.cons (z8 h3) (Reads.cons (z8 h4) Reads.nil)))) (zl6 w hw id k hk q hq _ _ fun z hz=>⟨z,rfl,hz⟩) (fun r ⟨z,e,_⟩=>e▸yod _) (fun r ⟨z,e,hz⟩=>e▸h z hz)
theorem zeq{S:Store}{w:Wld}{v:AV}(hv:RowsQ 10 untC S v w.U)(hw:playW w){i:Nat}(hi:i<w.U.length)(id:Int)(hid:w.U[i].id=id)(R:AV->Store->Prop)(h:R (int (i:Nat)) S):ACalls Tryz.prog 29 [.agg (wldV w v),int id] S R:=
 ACalls.read (ys:=[.agg (wldC w),int id]) (Q:=fun r=>r=int (i:Nat)) (fun Oth M W vs sto hr=>by
  obtain⟨x,y,rfl,h1,h2⟩:=zif hr
  exact Reads.cons (k6 hv sto h1) (Reads.cons (z8 h2) Reads.nil)) (zq6 w hw hi id hid _ _ rfl) (fun r hr=>hr▸yod _) (fun r hr=>hr▸h)
set_option maxHeartbeats 4000000 in
set_option maxRecDepth 20000 in
theorem zvf{S:Store}{w:Wld}{v:AV}(hv:RowsQ 10 untC S v w.U)(hw:playW w){i:Nat}(hi:i<w.U.length)(h0:w.U[i].inn=0)(d:Vc)(hd:d.ok)(R:AV->Store->Prop)
  (h:∀v2 N,RowsQ 10 untC (N.un S) v2 (tryW w w.U[i] d).U->Disj N S->R (.tup [.agg (wldV (tryW w w.U[i] d) v2),int (tryK w w.U[i] d)]) (N.un S)):
  ACalls Tryz.prog 31 [.agg (wldV w v),int w.U[i].id,.agg (vecC d)] S R:=by
 have f:=mayF hw.1
 have hU:=f.hU
 have hnd:=ynx hd
 have hhalf:=fun k=>ya9 hnd k
 have t0:zqr w w.U[i] (vnrm d) 0:=rfl
 have hnone:=fun(e:tryL w w.U[i] (vnrm d) 5 0=none)=>zeb e
 have hsome:=fun k p (e:tryL w w.U[i] (vnrm d) 5 0=some (k,p))=>zhr e
 have hkk:=f.hk _ (List.getElem_mem hi)
 have hpk:=hw.2 _ (List.getElem_mem hi)
 obtain⟨oa,c0,ev,hget⟩:=hv.form
 obtain⟨b,J,rfl,ho⟩:=hget i hi
 subst ev
 have hsame:tryL w w.U[i] (vnrm d) 5 0=none->R (.tup [.agg (wldV w (.s (.slice (some ⟨b,0,none⟩) w.U.length c0))),int 5]) S:=fun e=>by
  obtain⟨e1,e2⟩:=hnone e
  have:=h (.s (.slice (some ⟨b,0,none⟩) w.U.length c0)) Store.empty (by rw[xt,e2];exact hv) (zbx S)
  rw[xt,e1,e2]at this
  exact this
 refine Qa (c:=cfg 74) zc Tryz.func31 ?_
 refine zeq hv hw hi w.U[i].id rfl _ ?_
 refine⟨i,rfl,hi,?_⟩
 refine za (o:=S.obj b) _ ho ?_
 refine zn (i:=ti50) (row:=untC w.U[i]) rfl rfl (kj qf hi) ?_
 refine Qc zc yr1 ?_
 refine⟨vn d.1 _ _ ⟨Qe,?_⟩,Tv⟩
 refine⟨vn d.2 _ _ ⟨Qe,?_⟩,Tv⟩
 refine⟨⟨Tv,?_⟩,Tv⟩
 have hT:=hw.1.1.2.1
 have hR:∀k p,tryL w w.U[i] (vnrm d) 5 0=some (k,p)->∀v2 N,RowsQ 10 untC (N.un S) v2 (w.U.set i {w.U[i]with pos:=p})->Disj N S->R (.tup [.agg (wldV w v2),int (k:Int)]) (N.un S):=fun k p e v2 N h1 h2=>by
  obtain⟨e1,e2⟩:=hsome k p e
  have e3:=qw (w:=w) hT hi (u:={w.U[i]with pos:=p}) rfl
  rw[e3]at e2
  have:=h v2 N (by rw[e2];exact h1) h2
  rw[e1,e2]at this
  exact this
 clear h hsome hnone
 have hhv:∀k,wj (vnrm d) k=((vnrm d).1.tdiv ((2^k:Nat):Int),(vnrm d).2.tdiv ((2^k:Nat):Int)):=fun k=>rfl
 refine AWp.loop (σ:=Nat) ⟨fun k=>[(1,.av (int w.U[i].id)),(3,.bx 3 0),(5,.bx 5 0),(6,.bx 6 0),(8,.av (int (i:Nat))),(9,.bx 9 0),(10,.av (int (k:Nat)))],fun _=>[(3,wldV w (.s (.slice (some ⟨b,0,none⟩) w.U.length c0))),(5,vecC (vnrm d)),(6,wld0),(9,untC w.U[i])],
  fun k st'=>k<=5/\zqr w w.U[i] (vnrm d) k/\st'=S,fun k=>5-k⟩ zc ?_ ?_
 ·exact⟨0,Tv,⟨Nat.zero_le _,t0,rfl⟩,⟨Tq,Tq,Tq,Tq,Tq,Tq,Tq,Tv⟩,⟨rfl,rfl,rfl,rfl,Tv⟩⟩
 rintro k st' ⟨hk,htk,rfl⟩
 dsimp only at hk htk⊢
 generalize vnrm d=nd at*
 refine bcd (fun c1=>?_) (fun c1=>?_)
 rotate_left
 ·exact ret (hsame (zkb htk (fun hq=>absurd hq (by omega)) hk))
 have hk5:k<5:=by omega
 have hsh:=zyu hk5
 have hkv:=hhv k
 have hh:=hhalf k
 have hp2:((2^k:Nat):Int)≠0:=by have:0<2^k:=Nat.pow_pos (by decide);omega
 rw[<-hsh]at hkv hp2
 have hh1:yq (nd.1.tdiv (IntKind.i64.wrap (1*2^(min ((k:Int)).toNat IntKind.i64.bits)))):=by
  have:=hh.1
  rw[hkv]at this
  exact⟨by dsimp only at this;omega,by dsimp only at this;omega⟩
 have hh2:yq (nd.2.tdiv (IntKind.i64.wrap (1*2^(min ((k:Int)).toNat IntKind.i64.bits)))):=by
  have:=hh.2
  rw[hkv]at this
  exact⟨by dsimp only at this;omega,by dsimp only at this;omega⟩
 have nx:=zu5 htk hk5
 have sm:=zu4 htk hk5
 have no:=zkb htk
 refine Qc zc yr0 ?_
 refine⟨by omega,?_⟩
 refine⟨hp2,in64 hh1 ?_⟩
 refine⟨by omega,?_⟩
 refine⟨hp2,in64 hh2 ?_⟩
 refine⟨⟨?_,?_⟩,Tv⟩
 ·repeat(first|exact Tv|refine⟨rfl,?_⟩|refine⟨⟨by omega,rfl⟩,?_⟩|refine⟨⟨hp2,in64 hh1 rfl⟩,?_⟩|refine⟨⟨hp2,in64 hh2 rfl⟩,?_⟩)
 refine⟨⟨Tv,?_⟩,Tv⟩
 rw[hkv]at nx sm no hh
 generalize nd.1.tdiv (IntKind.i64.wrap (1*2^(min ((k:Int)).toNat IntKind.i64.bits)))=x at*
 generalize nd.2.tdiv (IntKind.i64.wrap (1*2^(min ((k:Int)).toNat IntKind.i64.bits)))=y at*
 refine bceq (fun c2=>?_) (fun c2=>?_)
 refine bceq (fun c3=>?_) (fun c3=>?_)
 ·exact ret (hsame (no (fun _=>by rw[c2,c3]) hk))
 have hne:(x,y)≠((0:Int),(0:Int)):=fun e=>c3 (congrArg (fun v:Vc=>v.2) e)
 rotate_left
 have hne:(x,y)≠((0:Int),(0:Int)):=fun e=>c2 (congrArg (fun v:Vc=>v.1) e)
 all_goals
  refine zbc w.U[i].pos (x,y) hpk (ymp hh) _ _ ?_
  have nx:=nx hne
  have sm:=sm hne
  have hnp:=zqo w.U[i].pos (x,y)
  generalize vadd w.U[i].pos (x,y)=np at*
  refine zn8 hv hw w.U[i].id w.U[i].kind hkk np hnp _ (fun z hz=>?_)
  refine ze (fun c4=>?_) (fun c4=>?_)
  rotate_left
  ·refine Qd ?_
   exact⟨k+1,(show 5-(k+1)<5-k by omega),⟨by omega,nx (fun hc=>by rw[hz.2 hc]at c4;cases c4),rfl⟩,⟨Tq,Tq,Tq,Tq,Tq,Tq,Tq,Tv⟩,⟨rfl,rfl,rfl,rfl,Tv⟩⟩
  have hRk:=hR _ _ (sm (hz.1 c4))
  refine zjc hv (mayF hw.1).fits (by omega) _ (fun v2 N hv2 hd2=>?_)
  rcases hv2 with⟨_,e⟩|⟨b2,cap,L,rfl,ho2,g1,g2,g3⟩
  ·rw[e]at hi;exact absurd hi (Nat.not_lt_zero i)
  have hnb:¬st'.has b2:=hd2 _ (yw ho2)
  have hlen:0+i*10+3+2<=((rws untC w.U).flatten++L).length:=by
   rw[List.length_append,qp qf]
   omega
  have hrow:=zy4 (g:=N) (b:=b2) (L:=L) g1 g2 g3 hi (j:=3) (ys:=vecC np) (show 3+2<=10 by decide) (u':={w.U[i]with pos:=np}) rfl
  refine⟨i,rfl,hi,?_⟩
  refine yk (i:=ti48) (v:=.agg (vecC np)) (xs:=vecC np) (b:=b2) (o:=0+i*10+3) (l:=(rws untC w.U).flatten++L) rfl rfl rfl (un_l hd2 ho2) hlen ?_
  rw[qb hnb]
  exact ret (hRk _ _ (RowsO.q (hrow.unL (qq hd2 hnb))) (qq hd2 hnb))
theorem zdm{S:Store}{w:Wld}{v:AV}(hv:RowsQ 10 untC S v w.U)(hw:playW w){i:Nat}(hi:i<w.U.length)(h0:w.U[i].inn=0)(R:AV->Store->Prop)(h:R (.agg (vecC (zcu w w.U[i]))) S):ACalls Tryz.prog 49 [.agg (wldV w v),int (i:Nat)] S R:=
 ACalls.read (ys:=[.agg (wldC w),int (i:Nat)]) (Q:=fun r=>r=.agg (vecC (zcu w w.U[i]))) (fun Oth M W vs sto hr=>by
  obtain⟨x,y,rfl,h1,h2⟩:=zif hr
  exact Reads.cons (k6 hv sto h1) (Reads.cons (z8 h2) Reads.nil)) (zl8 w hw hi h0 _ _ rfl) (fun r hr=>hr▸ybp [.int .i64 _,.int .i64 _]) (fun r hr=>hr▸h)
theorem za0{l:List Unt}{L:List AV}{i j:Nat}(hi:i<l.length)(hj:j+1<=10){y:AV}{u':Unt}(hu:untC u'=zo (untC l[i]) j [y]):zo ((rws untC l).flatten++L) (0+i*10+j) [y]=(rws untC (l.set i u')).flatten++L:=by
 rw[Nat.zero_add]
 exact zbo qf hi hj hu
theorem zbp{l:List Unt}{L:List AV}{i j:Nat}(hi:i<l.length)(hj:j+1<=10):0+i*10+j+1<=((rws untC l).flatten++L).length:=by
 rw[List.length_append,qp qf]
 omega
set_option maxHeartbeats 2000000 in
theorem zfp{S:Store}{b i:Nat}{l:List Unt}{L:List AV}(ho:S.obj b=some (.cells ((rws untC l).flatten++L)))(hi:i<l.length)(s:Int)(R:AV->Store->Prop)
  (h:R (.tup []) (S.setObj b (.cells ((rws untC (l.set i (endU s l[i]))).flatten++L)))):
  ACalls Tryz.prog 50 [.s (.pointer (some ⟨b,0+i*10,none⟩)),int s] S R:=by
 have e1:=za0 (L:=L) hi (j:=5) (by decide) (y:=int (-1)) (u':={l[i]with goal:=-1}) rfl
 have hi1:i<(l.set i {l[i]with goal:=-1}).length:=by rw[List.length_set];exact hi
 have e2:=za0 (L:=L) hi1 (j:=6) (by decide) (y:=int (-1)) (u':={l[i]with goal:=-1,next:=-1}) (by rw[List.getElem_set_self];rfl)
 rw[List.set_set]at e2
 have hi2:i<(l.set i {l[i]with goal:=-1,next:=-1}).length:=by rw[List.length_set];exact hi
 have e3:=za0 (L:=L) hi2 (j:=7) (by decide) (y:=int 0) (u':={l[i]with goal:=-1,next:=-1,stuck:=0}) (by rw[List.getElem_set_self];rfl)
 rw[List.set_set]at e3
 have hi3:i<(l.set i {l[i]with goal:=-1,next:=-1,stuck:=0}).length:=by rw[List.length_set];exact hi
 have e4:=za0 (L:=L) hi3 (j:=9) (by decide) (y:=int s) (u':=endU s l[i]) (by rw[List.getElem_set_self];rfl)
 rw[List.set_set]at e4
 refine Qa (c:=cfg 17) zc Tryz.func50 ?_
 refine zh (i:=ti2) (v:=int (-1)) (b:=b) (o:=0+i*10+5) (l:=(rws untC l).flatten++L) (st2:=S.setObj b (.cells ((rws untC (l.set i {l[i]with goal:=-1})).flatten++L))) rfl rfl rfl ho (zbp hi (by decide)) (by rw[e1]) ?_
 refine zh (i:=ti2) (v:=int (-1)) (b:=b) (o:=0+i*10+6) (l:=_) (st2:=S.setObj b (.cells ((rws untC (l.set i {l[i]with goal:=-1,next:=-1})).flatten++L))) rfl rfl rfl (zb _ _ _) (zbp hi1 (by decide)) (by rw[e2,zg]) ?_
 refine zh (i:=ti2) (v:=int 0) (b:=b) (o:=0+i*10+7) (l:=_) (st2:=S.setObj b (.cells ((rws untC (l.set i {l[i]with goal:=-1,next:=-1,stuck:=0})).flatten++L))) rfl rfl rfl (zb _ _ _) (zbp hi2 (by decide)) (by rw[e3,zg]) ?_
 refine zh (i:=ti2) (v:=int s) (b:=b) (o:=0+i*10+9) (l:=_) (st2:=S.setObj b (.cells ((rws untC (l.set i (endU s l[i]))).flatten++L))) rfl rfl rfl (zb _ _ _) (zbp hi3 (by decide)) (by rw[e4,zg]) ?_
 exact ret h
theorem xr{U:List Unt}{J:List AV}{i j:Nat}(hi:i<U.length)(hj:j<10){y:AV}(hy:(untC U[i])[j]?=some y):(((rws untC U).flatten++J).drop (0+i*10+j)).head?=some y:=by
 have hd:=kj (f:=untC) (L:=J) qf hi
 rw[<-List.drop_drop,hd,List.head?_drop,List.getElem?_append_left (by rw[qf];exact hj)]
 exact hy
theorem zas{U:List Unt}{J:List AV}{i:Nat}(hi:i<U.length):List.drop (0+i*10+3) ((rws untC U).flatten++J)=vecC U[i].pos++(List.drop 5 (untC U[i])++((rws untC (U.drop (i+1))).flatten++J)):=by
 rw[<-List.drop_drop,kj (f:=untC) (k:=10) qf hi]
 rfl
theorem zvp(l:List Int)(hl:l.length<=1000000000000)(n:Int)(st:Store)(R:AV->Store->Prop)(h:∀z:Int,(z<0↔l.contains n=false)->R (int z) st):ACalls Tryz.prog 51 [ints l,int n] st R:=by
 refine Qa (c:=cfg 19) zc Tryz.func51 ?_
 refine AWp.loop (σ:=Nat) ⟨fun i=>[(0,.av (ints l)),(1,.av (int n)),(5,.av (int (i:Nat)))],fun _=>[],fun i st'=>st'=st/\i<=l.length/\∀j (hj:j<i) (hl:j<l.length),n≠l[j],fun i=>l.length-i⟩ zc ?_ ?_
 ·exact⟨0,Tv,⟨rfl,Nat.zero_le _,fun j hj=>(by omega)⟩,⟨Tq,Tq,Tq,Tv⟩,Tv⟩
 rintro i st' ⟨rfl,hi,hno⟩
 refine ze (fun h1=>?_) (fun h1=>?_)
 ·have hlt:i<l.length:=xk h1
  refine⟨i,rfl,za _ (zj hlt) ?_⟩
  refine bceq (fun h2=>?_) (fun h2=>?_)
  ·refine ret (h _ ?_)
   have hc:l.contains n=true:=by
    rw[List.contains_iff_mem]
    have h2:l[i]=n:=h2
    exact h2▸List.getElem_mem hlt
   rw[hc]
   constructor
   ·intro hh;omega
   ·intro hh;cases hh
  ·refine⟨⟨by omega,by omega⟩,?_⟩
   refine⟨i+1,?_,⟨rfl,hlt,fun j hj hl=>?_⟩,⟨Tq,Tq,Tq,Tv⟩,Tv⟩
   ·show l.length-(i+1)<l.length-i
    omega
   ·by_cases hji:j=i
    ·subst hji;exact fun e=>h2 e.symm
    ·exact hno j (by omega) hl
 ·have hge:i=l.length:=ja h1 hi
  subst hge
  refine ret (h (-1) ?_)
  refine⟨fun _=>?_,fun _=>by decide⟩
  rw[<-Bool.not_eq_true,List.contains_iff_mem]
  intro hm
  obtain⟨j,hj,e⟩:=List.getElem_of_mem hm
  exact hno j hj hj e.symm
end Go.Proofs
namespace Go.Proofs
open Go Go.V
set_option maxRecDepth 4000
set_option maxHeartbeats 1000000 in
theorem ymr{Nu N:Store}{w:Wld}{v:AV}(hu:RowsQ 10 untC Nu v w.U)(hp:playW w)(hd:Disj Nu N){fb:Nat}{room:Int}{k:Nat}(hF:FldAny fb room (k:Nat) N)(hk:k<=1000000000000000000)(R:AV->Store->Prop)
  (h:∀X N',RowsQ 10 untC X v (allW w).U->Disj X N'->FldAny fb room ((k+w.U.length:Nat):Int) N'->R (.agg (wldV (allW w) v)) (X.un N')):ACalls Tryz.prog 73 [.agg (wldV w v),ptr fb] (Nu.un N) R:=by
 have hm:=mayF hp.1
 have hU:=hm.hU
 obtain⟨oa,cap,ev,hget⟩:=hu.form
 subst ev
 refine Qa (c:=cfg 45 [13] []) zc Tryz.func73 ?_
 refine ACalls.frame hd (zku w _ Nu hu (by omega) hp.2 (fun r S=>∃F s p L o0 o1 o2,r=ptr s/\S=F.un (svS Nu s w (.s (.slice oa w.U.length cap)) o0 o1 o2 p)/\Fresh Nu s/\StandR F Nu s p w (.s (.slice oa w.U.length cap)) L o0 o1 o2/\L.length<=w.U.length/\(yh w.U->∀e,e∈L↔∃u∈w.U,u.inn=0/\e=(u.id,u.pos))) (fun F s p L o0 o1 o2 h1 h2 h3 h4=>⟨F,s,p,L,o0,o1,o2,rfl,rfl,h1,h2,h3,h4⟩)) ?_
 rintro r S ⟨F,s,p,L,o0,o1,o2,rfl,rfl,hs,hS,hLl,hmem⟩ hd1
 refine zss rfl (it:=ti69) rfl rfl ?_
 intro mb hmb
 have hmbF:=fresh_un hmb
 have hnF:¬F.has mb/\¬(svS Nu s w (.s (.slice oa w.U.length cap)) o0 o1 o2 p).has mb:=by
  have:=fresh_iff.1 hmbF.1
  exact⟨fun hh=>this (un_has.2 (.inl hh)),fun hh=>this (un_has.2 (.inr hh))⟩
 have hmN2:¬N.has mb:=fresh_iff.1 hmbF.2
 have hms:mb≠s:=fun e=>hnF.2 (svS_has.2 (.inl e))
 have hmN:¬Nu.has mb:=fun hh=>hnF.2 (svS_has.2 (.inr hh))
 have hmN0:Nu.obj mb=none:=(vg hmN).1
 have omb:offB (.s (.slice oa w.U.length cap)) mb:=zda hu hmN0
 have oms:offB (.s (.slice oa w.U.length cap)) s:=zda hu hS.hs
 have e0:((F.un (svS Nu s w (.s (.slice oa w.U.length cap)) o0 o1 o2 p)).un N).setObj mb (AObj.cells [AV.s (Value.pointer (some {block:=s,off:=0})),AV.s (Value.iface 69 (Value.pointer (some {block:=fb,off:=0})))])=(F.un (svS (Nu.setObj mb (.cells [ptr s,fldV fb])) s w (.s (.slice oa w.U.length cap)) o0 o1 o2 p)).un N:=by
  rw[qb hmN2,zi]
  unfold svS
  rw[jt hms]
  rfl
 have hW:MoverG (fldV fb) F (Nu.setObj mb (.cells [ptr s,fldV fb])) mb s p w (.s (.slice oa w.U.length cap)) L o0 o1 o2:=
  ⟨⟨hS.hc,fun i h1 h2=>by
    rcases svS_has.1 h2 with h2|h2
    ·exact hS.hd i h1 (svS_has.2 (.inl h2))
    ·rcases has_setObj_iff.1 h2 with h2|h2
     ·subst h2;exact hnF.1 h1
     ·exact hS.hd i h1 (svS_has.2 (.inr h2)),by rw[zd (Ne.symm hms)];exact hS.hs,hu.set omb _,hS.h0,hS.h1,hS.h2⟩,zb _ _ _,omb,oms,hLl,hmem hp.1.1.2.1⟩
 have hd2:Disj (F.un (svS (Nu.setObj mb (.cells [ptr s,fldV fb])) s w (.s (.slice oa w.U.length cap)) o0 o1 o2 p)) N:=fun i h1 h2=>by
  rcases un_has.1 h1 with h1|h1
  ·exact hd1 i (un_has.2 (.inl h1)) h2
  ·rcases svS_has.1 h1 with h1|h1
   ·exact hd1 i (un_has.2 (.inr (svS_has.2 (.inl h1)))) h2
   ·rcases has_setObj_iff.1 h1 with h1|h1
    ·subst h1;exact hmN2 h2
    ·exact hd1 i (un_has.2 (.inr (svS_has.2 (.inr h1)))) h2
 rw[e0]
 clear e0 hmbF hmb hnF hd1 hS hs hLl hmem
 refine AWp.loop (σ:=Nat) ⟨fun i=>[(5,.av (ptr mb)),(16,.av (int (w.U.length:Nat))),(17,.av (int (i:Nat))),(4,.bx 4 0)],fun _=>[(4,wld0)],
  fun i S=>i<=w.U.length/\∃F G L q0 q1 q2 n N,S=(F.un (svS G s (goN w i) (.s (.slice oa w.U.length cap)) q0 q1 q2 p)).un N/\MoverG (fldV fb) F G mb s p (goN w i) (.s (.slice oa w.U.length cap)) L q0 q1 q2/\Disj (F.un (svS G s (goN w i) (.s (.slice oa w.U.length cap)) q0 q1 q2 p)) N/\FldAny fb room ((k+n:Nat):Int) N/\n<=i,fun i=>w.U.length-i⟩ zc ?_ ?_
 ·exact⟨0,Tv,⟨Nat.zero_le _,F,_,L,o0,o1,o2,0,N,rfl,hW,hd2,hF,Nat.le_refl _⟩,⟨Tq,Tq,Tq,Tq,Tv⟩,⟨rfl,Tv⟩⟩
 clear hW hd2 hF hd hmN2 hmN hmN0 hms omb oms hu hget
 rintro i S ⟨hi,F1,G1,L1,q0,q1,q2,n,N1,rfl,hW,hd1,hF,hn⟩
 obtain⟨hpi,hli,_,_⟩:=ze1 hp i
 have hmi:=mayF hpi.1
 refine bcd (fun h1=>?_) (fun h1=>?_)
 ·have hlt:i<w.U.length:=by omega
  have hil:i<(goN w i).U.length:=by omega
  obtain⟨oa2,cap2,ev2,hget2⟩:=hW.S.hu.form
  obtain⟨b,J,hoa,hob0⟩:=hget2 i hil
  have hoa3:oa=some ⟨b,0,none⟩:=by
   simp only[AV.s.injEq,Value.slice.injEq]at ev2
   rw[ev2.1,hoa]
  subst hoa3
  have hbs:b≠s:=fun e=>by rw[e,hW.S.hs]at hob0;cases hob0
  have hob:((F1.un (svS G1 s (goN w i) (.s (.slice (some ⟨b,0,none⟩) w.U.length cap)) q0 q1 q2 p)).un N1).obj b=some (.cells ((rws untC (goN w i).U).flatten++J)):=un_l hd1 (un_r (by
   show(G1.setObj s _).obj b=_
   rw[zd hbs];exact hob0))
  refine za (o:=((F1.un (svS G1 s (goN w i) (.s (.slice (some ⟨b,0,none⟩) w.U.length cap)) q0 q1 q2 p)).un N1).obj mb) _ (un_l hd1 hW.m) ?_
  refine za (o:=((F1.un (svS G1 s (goN w i) (.s (.slice (some ⟨b,0,none⟩) w.U.length cap)) q0 q1 q2 p)).un N1).obj s) _ (un_l hd1 hW.s) ?_
  refine⟨i,rfl,hlt,?_⟩
  refine za (o:=((F1.un (svS G1 s (goN w i) (.s (.slice (some ⟨b,0,none⟩) w.U.length cap)) q0 q1 q2 p)).un N1).obj b) _ hob ?_
  refine zn (i:=ti50) (row:=untC (goN w i).U[i]) rfl rfl (kj qf hil) ?_
  refine bceq (fun c1=>?_) (fun c1=>?_)
  ·have hg:=yoc hil c1
   refine zu3 (yt5 hmi fb room k (n+1) (by omega)) (Nat.lt_succ_self n) hW hd1 hF hpi.1 hpi.2 hil c1 _ (fun F2 G2 L2 a0 a1 a2 n2 N2 hn2 hW2 hd2 hF2=>?_)
   refine Qd ?_
   refine⟨i+1,(show w.U.length-(i+1)<w.U.length-i by omega),⟨hlt,F2,G2,L2,a0,a1,a2,n2,N2,?_,?_,?_,hF2,by omega⟩,⟨Tq,Tq,Tq,Tq,Tv⟩,⟨rfl,Tv⟩⟩
   ·rw[hg]
   ·rw[hg];exact hW2
   ·rw[hg];exact hd2
  ·have hg:=zuc hil c1
   refine Qd ?_
   refine⟨i+1,(show w.U.length-(i+1)<w.U.length-i by omega),⟨hlt,F1,G1,L1,q0,q1,q2,n,N1,?_,?_,?_,hF,by omega⟩,⟨Tq,Tq,Tq,Tq,Tv⟩,⟨rfl,Tv⟩⟩
   ·rw[hg]
   ·rw[hg];exact hW
   ·rw[hg];exact hd1
 ·have:i=w.U.length:=by omega
  subst this
  obtain⟨oa2,cap2,ev2,_⟩:=hW.S.hu.form
  refine za (o:=((F1.un (svS G1 s (goN w w.U.length) (.s (.slice oa w.U.length cap)) q0 q1 q2 p)).un N1).obj mb) _ (un_l hd1 hW.m) ?_
  refine za (o:=((F1.un (svS G1 s (goN w w.U.length) (.s (.slice oa w.U.length cap)) q0 q1 q2 p)).un N1).obj s) _ (un_l hd1 hW.s) ?_
  exact ret (h _ _ (zg7 hW.S.hs hW.S.hu).un hd1 (hF.mono (by omega)))
theorem zov(w:Wld)(st:Store)(R:AV->Store->Prop)(h:R (.tup [.agg wld0,int 1]) st):ACalls Tryz.prog 35 [.agg (wldC w),.s (.pointer none)] st R:=by
 refine Qa (c:=cfg 18) zc Tryz.func35 ?_
 exact ret h
theorem yap{N:Store}{w:Wld}(hw:w.fits)(hn:∀u∈w.U,u.pos.ok){fb:Nat}{room:Int}{k:Nat}(hF:FldAny fb room (k:Nat) N)(hk:k<=1000000000000000000)(R:AV->Store->Prop)
  (hbad:¬mayP w->∀N',FldAny fb room (k:Nat) N'->R (.tup [.agg wld0,int 1]) N') (hok:mayP w->∀N',FldAny fb room ((k+w.U.length:Nat):Int) N'->R (.tup [.agg (wldC (allW w)),int 0]) N'):ACalls Tryz.prog 35 [.agg (wldC w),ptr fb] N R:=by
 have key:ACalls Tryz.prog 35 [.agg (wldC w),ptr fb] N fun r S=>(¬mayP w/\r=.tup [.agg wld0,int 1]/\S=N)\/(mayP w/\∃v X N',RowsQ 10 untC X v (allW w).U/\Disj X N'/\FldAny fb room ((k+w.U.length:Nat):Int) N'/\r=.tup [.agg (wldV (allW w) v),int 0]/\S=X.un N'):=by
  refine Qa (c:=cfg 18) zc Tryz.func35 ?_
  refine zt6 w hw hn _ _ (fun z hz=>?_)
  refine yo ?_
  refine ze (fun c1=>?_) (fun c1=>?_)
  rotate_left
  ·exact ret (.inl ⟨fun hh=>(by rw[hz.2 hh]at c1;cases c1),rfl,rfl⟩)
  have hm:=hz.1 c1
  have hsz:=(show playW w from⟨hm,hn⟩).sizes
  have hown:ACalls Tryz.prog 74 [.agg (wldC w)] (Store.empty.un N) fun r S=>∃v Nu,RowsQ 10 untC Nu v w.U/\Disj Nu N/\r=.agg (wldV w v)/\S=Nu.un N:=
   ACalls.frame (zbx N) (zoo w (by omega) (by omega) (by omega) (fun r S=>∃v,RowsQ 10 untC S v w.U/\r=.agg (wldV w v)) (fun v Nu h=>⟨v,h,rfl⟩)) (fun r a' ⟨v,h1,h2⟩ hd=>⟨v,a',h1,hd,h2,rfl⟩)
  rw[xt]at hown
  refine hown.imp ?_
  rintro r S ⟨v,Nu,hu,hd,rfl,rfl⟩
  obtain⟨oa,cap,ev,_⟩:=hu.form
  subst ev
  refine ymr hu ⟨hm,hn⟩ hd hF hk _ (fun X N' hX hd' hF'=>?_)
  exact ret (.inr ⟨hm,_,X,N',hX,hd',hF',rfl,rfl⟩)
 refine key.frozenTo ?_
 rintro r S (⟨h1,rfl,rfl⟩|⟨hm,v,X,N',hX,hd,hF',rfl,rfl⟩)
 ·exact⟨_,S.objs,hbad h1 _ hF.objs,fun b x hx=>hx,fun b x hx=>(by cases hx),fun Oth M W x sto hx=>hx.mono fun b o hT=>hT.1⟩
 ·refine⟨.tup [.agg (wldC (allW w)),int 0],N'.objs,hok hm _ hF'.objs,fun b x hx=>un_r hx,fun b x hx=>(by cases hx),fun Oth M W x sto hx=>?_⟩
  have sX:StoreOK X Oth M W:=sto.weaken ⟨fun b y hy=>un_l hd hy,fun b y hy=>zyb hd hy⟩
  have ht:∀b,((X.un N').obj b=none\/N'.objs.obj b≠none)->X.obj b=none:=fun b hb=>by
   rcases hb with hb|hb
   ·exact(zac hb).1
   ·cases hx:X.obj b with
    |none=>rfl
    |some y=>exact absurd (vg (hd b (yw hx))).1 hb
  cases hx with
  |tup _ c hl hc=>
   refine .tup _ c hl fun i y z hy hz=>?_
   match i with
   |0=>simp only[List.getElem?_cons_zero,Option.some.injEq]at hy;subst hy;exact(k6 hX sX (hc 0 _ z rfl hz)).mono fun b o hT=>⟨hT.1,ht b hT.2⟩
   |1=>simp only[List.getElem?_cons_succ,List.getElem?_cons_zero,Option.some.injEq]at hy;subst hy;exact(hc 1 _ z rfl hz).mono fun b o hT=>hT.1
   |i+2=>simp at hy
def blkS:AV->Option Nat
 |.s (.slice (some ⟨b,0,none⟩) _ _)=>some b
 |_=>none
def dirC(n:Nat)(d:Nat):List AV:=[.s (.slice (some ⟨d,0,none⟩) n n)]
structure FlowP(fb:Nat)(g:Gnd)(l:List Bld)(E:Store)(v1 v2 v3 v4:AV)(q:List (Int×Int×Nat))(ds:List Nat):Prop where
 h0:E.obj fb=some (.cells [v1,v2,v3,v4])
 h1:Ints E v1 (q.map (·.1))
 h2:Ints E v2 (q.map (·.2.1))
 h3:Ints E v3 (q.map fun x=>(x.2.2:Int))
 h4:RowsO 1 (dirC g.T.length) E v4 ds
 len:ds.length=q.length
 ok:∀(i:Nat) x d,q[i]?=some x->ds[i]?=some d->E.obj d=some (.cells (wayL g l x.1 x.2.1 x.2.2))
 o0:fb∉ds
 o1:∀x,blkS v1=some x->x≠fb/\x∉ds/\blkS v2≠some x/\blkS v3≠some x/\blkS v4≠some x
 o2:∀x,blkS v2=some x->x≠fb/\x∉ds/\blkS v3≠some x/\blkS v4≠some x
 o3:∀x,blkS v3=some x->x≠fb/\x∉ds/\blkS v4≠some x
 o4:∀x,blkS v4=some x->x≠fb/\x∉ds
def FlowK(fb:Nat)(g:Gnd)(l:List Bld)(k:Nat)(E:Store):Prop:=∃v1 v2 v3 v4 q ds,FlowP fb g l E v1 v2 v3 v4 q ds/\q.length<=k
theorem yuy{fb:Nat}(g:Gnd)(l:List Bld){E:Store}(h:E.obj fb=some (.cells [nil,nil,nil,nil])):FlowK fb g l 0 E:=
 ⟨nil,nil,nil,nil,[],[],⟨h,.inl ⟨rfl,rfl⟩,.inl ⟨rfl,rfl⟩,.inl ⟨rfl,rfl⟩,.inl ⟨rfl,rfl⟩,rfl,fun i x d hx=>(by cases hx),by simp,fun x hx=>(by cases hx),fun x hx=>(by cases hx),fun x hx=>(by cases hx),fun x hx=>(by cases hx)⟩,Nat.le_refl _⟩
theorem zit{S:Store}{v:AV}{ns:List Int}(h:Ints S v ns):∃oa cap,v=.s (.slice oa ns.length cap)/\(∀x,blkS v=some x->S.obj x≠none)/\∀i,i<ns.length->∃b L,oa=some ⟨b,0,none⟩/\S.obj b=some (.cells (ns.map aI++L)):=by
 rcases h with⟨rfl,rfl⟩|⟨b,cap,L,rfl,hb,h1,h2,h3⟩
 ·exact⟨none,0,rfl,fun x hx=>(by cases hx),fun i hi=>(by simp at hi)⟩
 ·exact⟨_,cap,rfl,fun x hx=>(by cases hx;rw[hb];simp),fun i hi=>⟨b,L,rfl,hb⟩⟩
theorem zvj{S:Store}{n:Nat}{v:AV}{ds:List Nat}(h:RowsO 1 (dirC n) S v ds):∃oa cap,v=.s (.slice oa ds.length cap)/\(∀x,blkS v=some x->S.obj x≠none)/\∀i,i<ds.length->∃b L,oa=some ⟨b,0,none⟩/\S.obj b=some (.cells ((rws (dirC n) ds).flatten++L)):=by
 rcases h with⟨rfl,rfl⟩|⟨b,cap,L,rfl,hb,h1,h2,h3⟩
 ·exact⟨none,0,rfl,fun x hx=>(by cases hx),fun i hi=>(by simp at hi)⟩
 ·exact⟨_,cap,rfl,fun x hx=>(by cases hx;rw[hb];simp),fun i hi=>⟨b,L,rfl,hb⟩⟩
theorem zrs{ns:List Int}{L:List AV}{i:Nat}(hi:i<ns.length):((ns.map aI++L).drop (0+i*1)).head?=some (int ns[i]):=by
 rw[List.head?_drop,List.getElem?_append_left (by simp;omega),List.getElem?_map,Nat.zero_add,Nat.mul_one]
 simp[hi]
 rfl
theorem ysw{n:Nat}{ds:List Nat}{L:List AV}{i:Nat}(hi:i<ds.length):(((rws (dirC n) ds).flatten++L).drop (0+i*1)).head?=some (.s (.slice (some ⟨ds[i],0,none⟩) n n)):=by
 have:=kj (f:=dirC n) (k:=1) (L:=L) (fun _=>rfl) hi
 rw[this]
 rfl
theorem ky{S:Store}{v:AV}{b n p:Nat}(hb:Fresh S b\/∃c0,v=.s (.slice (some ⟨b,0,none⟩) n c0))(hp:S.obj p≠none)(ho:∀x,blkS v=some x->x≠p):b≠p:=by
 rcases hb with h|⟨c0,h⟩
 ·exact fun e=>hp (e▸h.1)
 ·exact ho b (by rw[h];rfl)
theorem zfs{S:Store}{v u:AV}{b n:Nat}(hb:Fresh S b\/∃c0,v=.s (.slice (some ⟨b,0,none⟩) n c0))(hu:∀x,blkS u=some x->S.obj x≠none)(ho:∀x,blkS v=some x->blkS u≠some x):blkS u≠some b:=fun e=>by
 rcases hb with h|⟨c0,h⟩
 ·exact hu b e h.1
 ·exact ho b (by rw[h];rfl) e
theorem zmf{S:Store}{v:AV}{ns:List Int}(h:Ints S v ns){b:Nat}(hb:blkS v≠some b)(x:AObj):Ints (S.setObj b x) v ns:=
 zmg h (fun b' n cap hv e=>hb (by rw[hv,e];rfl)) x
theorem zep{S:Store}{n:Nat}{v:AV}{ds:List Nat}(h:RowsO 1 (dirC n) S v ds){b:Nat}(hb:blkS v≠some b)(x:AObj):RowsO 1 (dirC n) (S.setObj b x) v ds:=by
 rcases h with⟨rfl,rfl⟩|⟨b',cap,L,rfl,ho,h1⟩
 ·exact .inl ⟨rfl,rfl⟩
 ·refine .inr ⟨b',cap,L,rfl,?_,h1⟩
  rw[zd (fun e=>hb (by rw[e];rfl))]
  exact ho
set_option maxHeartbeats 4000000 in
set_option maxRecDepth 20000 in
theorem zr4{fb k:Nat}{w:Wld}(hm:mayP w)(oa:Option Addr)(n0 c0:Nat){E:Store}(hF:FlowK fb w.G w.B k E)(hk:k<=1000000000){c s:Int}(hc:c=0\/c=1\/c=2)(hs:0<=s)(goal:Nat)(hgo:goal<w.G.T.length)(R:AV->Store->Prop)
  (h:∀b E',FlowK fb w.G w.B (k+1) E'->E'.obj b=some (.cells (wayL w.G w.B c s goal))->R (.s (.slice (some ⟨b,0,none⟩) w.G.T.length w.G.T.length)) E'):
  ACalls Tryz.prog 53 [ptr fb,.agg (wldV w (.s (.slice oa n0 c0))),int c,int s,int (goal:Nat)] E R:=by
 have f:=mayF hm
 have hB:=f.hB
 obtain⟨v1,v2,v3,v4,q,ds,hP,hq⟩:=hF
 obtain⟨a1,c1,rfl,m1,g1⟩:=zit hP.h1
 obtain⟨a2,c2,rfl,m2,g2⟩:=zit hP.h2
 obtain⟨a3,c3,rfl,m3,g3⟩:=zit hP.h3
 obtain⟨a4,c4,rfl,m4,g4⟩:=zvj hP.h4
 simp only[List.length_map]at hP g1 g2 g3 m1 m2 m3
 refine Qa (c:=cfg 109) zc Tryz.func53 ?_
 refine AWp.loop (σ:=Nat) ⟨fun i=>[(0,.av (ptr fb)),(2,.av (int c)),(3,.av (int s)),(4,.av (int (goal:Nat))),(6,.bx 6 0),(11,.av (int (i:Nat)))],fun _=>[(6,wldV w (.s (.slice oa n0 c0)))],
  fun i st'=>st'=E/\i<=q.length,fun i=>q.length-i⟩ zc ?_ ?_
 ·exact⟨0,Tv,⟨rfl,Nat.zero_le _⟩,⟨Tq,Tq,Tq,Tq,Tq,Tq,Tv⟩,⟨rfl,Tv⟩⟩
 rintro i st' ⟨rfl,hi⟩
 refine za (o:=st'.obj fb) _ hP.h0 ?_
 refine bcd (fun d1=>?_) (fun d1=>?_)
 ·have hlt:i<q.length:=by omega
  obtain⟨b1,L1,e1,hb1⟩:=g1 i hlt
  obtain⟨b2,L2,e2,hb2⟩:=g2 i hlt
  obtain⟨b3,L3,e3,hb3⟩:=g3 i hlt
  obtain⟨b4,L4,e4,hb4⟩:=g4 i (by have:=hP.len;omega)
  subst e1 e2 e3 e4
  have hld:i<ds.length:=by have:=hP.len;omega
  have r1:=zrs (ns:=q.map (·.1)) (L:=L1) (i:=i) (by rw[List.length_map];exact hlt)
  have r2:=zrs (ns:=q.map (·.2.1)) (L:=L2) (i:=i) (by rw[List.length_map];exact hlt)
  have r3:=zrs (ns:=q.map fun x=>(x.2.2:Int)) (L:=L3) (i:=i) (by rw[List.length_map];exact hlt)
  have r4:=ysw (n:=w.G.T.length) (L:=L4) hld
  rw[List.getElem_map]at r1 r2 r3
  refine za (o:=st'.obj fb) _ hP.h0 ?_
  refine⟨i,rfl,hlt,?_⟩
  refine za (o:=st'.obj b1) _ hb1 ?_
  refine za _ r1 ?_
  refine bceq (fun k1=>?_) (fun k1=>?_)
  rotate_left
  ·refine Qd ?_
   exact⟨i+1,(show q.length-(i+1)<q.length-i by omega),⟨rfl,hlt⟩,⟨Tq,Tq,Tq,Tq,Tq,Tq,Tv⟩,⟨rfl,Tv⟩⟩
  refine za (o:=st'.obj fb) _ hP.h0 ?_
  refine⟨i,rfl,hlt,?_⟩
  refine za (o:=st'.obj b2) _ hb2 ?_
  refine za _ r2 ?_
  refine bceq (fun k2=>?_) (fun k2=>?_)
  rotate_left
  ·refine Qd ?_
   exact⟨i+1,(show q.length-(i+1)<q.length-i by omega),⟨rfl,hlt⟩,⟨Tq,Tq,Tq,Tq,Tq,Tq,Tv⟩,⟨rfl,Tv⟩⟩
  refine za (o:=st'.obj fb) _ hP.h0 ?_
  refine⟨i,rfl,hlt,?_⟩
  refine za (o:=st'.obj b3) _ hb3 ?_
  refine za _ r3 ?_
  refine bceq (fun k3=>?_) (fun k3=>?_)
  rotate_left
  ·refine Qd ?_
   exact⟨i+1,(show q.length-(i+1)<q.length-i by omega),⟨rfl,hlt⟩,⟨Tq,Tq,Tq,Tq,Tq,Tq,Tv⟩,⟨rfl,Tv⟩⟩
  refine za (o:=st'.obj fb) _ hP.h0 ?_
  refine⟨i,rfl,hld,?_⟩
  refine za (o:=st'.obj b4) _ hb4 ?_
  refine za _ r4 ?_
  refine ret (h ds[i] st' ⟨_,_,_,_,q,ds,hP,by omega⟩ ?_)
  have:=hP.ok i q[i] ds[i] (List.getElem?_eq_getElem hlt) (List.getElem?_eq_getElem hld)
  have k1:q[i].1=c:=k1
  have k2:q[i].2.1=s:=k2
  have k3:(q[i].2.2:Int)=(goal:Int):=k3
  have k3:q[i].2.2=goal:=by omega
  rw[k1,k2,k3]at this
  exact this
 ·refine zvw f.hg (by omega) f.hb hc hs goal hgo _ _ (fun b N hN hd=>?_)
  have hlq:i=q.length:=by omega
  have hbf:b≠fb:=fun e=>hd b (yw hN) (by rw[e];exact yw hP.h0)
  have hbd:b∉ds:=fun hh=>by
   obtain⟨j,hj,e⟩:=List.getElem_of_mem hh
   have hjq:j<q.length:=by have:=hP.len;omega
   have:=hP.ok j q[j] ds[j] (List.getElem?_eq_getElem hjq) (List.getElem?_eq_getElem hj)
   exact hd b (yw hN) (by rw[<-e];exact yw this)
  have hbn:∀{x:Nat},st'.obj x≠none->b≠x:=fun{x} hx e=>hd b (yw hN) (.inl (e▸hx))
  have hob:(N.un st').obj b=some (.cells (wayL w.G w.B c s goal)):=un_l hd hN
  have hk1:∀{x:Nat} {y:AObj},st'.obj x=some y->(N.un st').obj x=some y:=fun hy=>un_r hy
  have hI:∀{v:AV} {ns:List Int},Ints st' v ns->Ints (N.un st') v ns:=fun{v ns} h=>by
   rcases h with h|⟨b,cap,L,h1,h2,h3⟩
   ·exact .inl h
   ·exact .inr ⟨b,cap,L,h1,un_r h2,h3⟩
  have p0:=hk1 hP.h0
  have p1:=hI hP.h1
  have p2:=hI hP.h2
  have p3:=hI hP.h3
  have p4:RowsO 1 (dirC w.G.T.length) (N.un st') (.s (.slice a4 ds.length c4)) ds:=hP.h4.un
  have pok:∀(i:Nat) x d,q[i]?=some x->ds[i]?=some d->(N.un st').obj d=some (.cells (wayL w.G w.B x.1 x.2.1 x.2.2)):=fun i x d h1 h2=>un_r (hP.ok i x d h1 h2)
  have hh:∀{x:Nat},st'.obj x≠none->(N.un st').obj x≠none:=fun{x} hx=>by
   cases hy:st'.obj x with
   |none=>exact absurd hy hx
   |some y=>rw[un_r hy];simp
  have nb1:∀x,blkS (.s (.slice a1 q.length c1))=some x->x≠b:=fun x hx=>Ne.symm (hbn (m1 x hx))
  have nb2:∀x,blkS (.s (.slice a2 q.length c2))=some x->x≠b:=fun x hx=>Ne.symm (hbn (m2 x hx))
  have nb3:∀x,blkS (.s (.slice a3 q.length c3))=some x->x≠b:=fun x hx=>Ne.symm (hbn (m3 x hx))
  have nb4:∀x,blkS (.s (.slice a4 ds.length c4))=some x->x≠b:=fun x hx=>Ne.symm (hbn (m4 x hx))
  have m1:=fun x hx=>hh (m1 x hx)
  have m2:=fun x hx=>hh (m2 x hx)
  have m3:=fun x hx=>hh (m3 x hx)
  have m4:=fun x hx=>hh (m4 x hx)
  have o0:=hP.o0
  have o1:=hP.o1
  have o2:=hP.o2
  have o3:=hP.o3
  have o4:=hP.o4
  have hlen:=hP.len
  have pds:∀d,d∈ds->(N.un st').obj d≠none:=fun d hd'=>by
   obtain⟨j,hj,e⟩:=List.getElem_of_mem hd'
   have:=pok j q[j] ds[j] (List.getElem?_eq_getElem (by omega)) (List.getElem?_eq_getElem hj)
   rw[<-e,this]
   simp
  clear hI hk1 hN hd hh hP g1 g2 g3 g4 hbn
  generalize N.un st'=S at*
  refine Qc zc yrs ?_
  refine za (o:=S.obj fb) _ p0 ?_
  refine⟨by decide,?_⟩
  refine za (o:=S.obj fb) _ p0 ?_
  refine⟨by decide,?_⟩
  refine za (o:=S.obj fb) _ p0 ?_
  refine⟨by decide,?_⟩
  refine⟨?_,Tv⟩
  refine zm8 (ie:=ti2) (v:=(.s (.slice a1 q.length c1))) (ns:=q.map (·.1)) rfl rfl rfl p1 c (by rw[List.length_map];omega) (fun b1 n1 L1 hb1 q11 q12 q13=>?_)
  have ef1:fb≠b1:=Ne.symm (ky hb1 (by rw[p0];simp) (fun x hx=>(o1 x hx).1))
  have eb1:b≠b1:=Ne.symm (ky hb1 (by rw[hob];simp) nb1)
  have ed1:b1∉ds:=fun hh=>ky hb1 (pds _ hh) (fun x hx e=>(o1 x hx).2.1 (e▸hh)) rfl
  have ex12:blkS (.s (.slice a2 q.length c2))≠some b1:=zfs hb1 m2 (fun x hx=>(o1 x hx).2.2.1)
  have ex13:blkS (.s (.slice a3 q.length c3))≠some b1:=zfs hb1 m3 (fun x hx=>(o1 x hx).2.2.2.1)
  have ex14:blkS (.s (.slice a4 ds.length c4))≠some b1:=zfs hb1 m4 (fun x hx=>(o1 x hx).2.2.2.2)
  have p0':(S.setObj b1 (.cells (((q.map (·.1))++[c]).map aI++L1))).obj fb=_:=(zd ef1).trans p0
  have hob':(S.setObj b1 (.cells (((q.map (·.1))++[c]).map aI++L1))).obj b=_:=(zd eb1).trans hob
  have pok':∀(i:Nat) x d,q[i]?=some x->ds[i]?=some d->(S.setObj b1 (.cells (((q.map (·.1))++[c]).map aI++L1))).obj d=some (.cells (wayL w.G w.B x.1 x.2.1 x.2.2)):=fun i x d h1 h2=>(zd (fun(e:d=b1)=>ed1 (by rw[<-e];exact List.mem_of_getElem? h2))).trans (pok i x d h1 h2)
  have hh:∀y,S.obj y≠none->(S.setObj b1 (.cells (((q.map (·.1))++[c]).map aI++L1))).obj y≠none:=fun y hy=>by
   by_cases e:y=b1
   ·rw[e,zb];simp
   ·rw[zd e];exact hy
  have pds':∀d,d∈ds->(S.setObj b1 (.cells (((q.map (·.1))++[c]).map aI++L1))).obj d≠none:=fun d hd=>hh d (pds d hd)
  have z1':(S.setObj b1 (.cells (((q.map (·.1))++[c]).map aI++L1))).obj b1=some (.cells (((q.map (·.1))++[c]).map aI++L1)):=zb _ _ _
  have m2':=fun x hx=>hh x (m2 x hx)
  have p2':=zmf p2 ex12 (.cells (((q.map (·.1))++[c]).map aI++L1))
  have m3':=fun x hx=>hh x (m3 x hx)
  have p3':=zmf p3 ex13 (.cells (((q.map (·.1))++[c]).map aI++L1))
  have m4':=fun x hx=>hh x (m4 x hx)
  have p4':=zep p4 ex14 (.cells (((q.map (·.1))++[c]).map aI++L1))
  clear p0 hob pok pds hb1 m1 p1 hh p2 m2 p3 m3 p4 m4
  have p0:=p0'
  have hob:=hob'
  have pok:=pok'
  have pds:=pds'
  have z1:=z1'
  have p2:=p2'
  have p3:=p3'
  have p4:=p4'
  have m2:=m2'
  have m3:=m3'
  have m4:=m4'
  clear p0' hob' pok' pds' z1' p2' p3' p4' m2' m3' m4'
  generalize(S.setObj b1 (.cells (((q.map (·.1))++[c]).map aI++L1)))=S1 at*
  refine⟨Qe,?_⟩
  refine⟨?_,Tv⟩
  refine zm8 (ie:=ti2) (v:=(.s (.slice a2 q.length c2))) (ns:=q.map (·.2.1)) rfl rfl rfl p2 s (by rw[List.length_map];omega) (fun b2 n2 L2 hb2 q21 q22 q23=>?_)
  have ef2:fb≠b2:=Ne.symm (ky hb2 (by rw[p0];simp) (fun x hx=>(o2 x hx).1))
  have eb2:b≠b2:=Ne.symm (ky hb2 (by rw[hob];simp) nb2)
  have ed2:b2∉ds:=fun hh=>ky hb2 (pds _ hh) (fun x hx e=>(o2 x hx).2.1 (e▸hh)) rfl
  have ex23:blkS (.s (.slice a3 q.length c3))≠some b2:=zfs hb2 m3 (fun x hx=>(o2 x hx).2.2.1)
  have ex24:blkS (.s (.slice a4 ds.length c4))≠some b2:=zfs hb2 m4 (fun x hx=>(o2 x hx).2.2.2)
  have en21:b1≠b2:=Ne.symm (ky hb2 (by rw[z1];simp) (fun x hx e=>ex12 (e▸hx)))
  have p0':(S1.setObj b2 (.cells (((q.map (·.2.1))++[s]).map aI++L2))).obj fb=_:=(zd ef2).trans p0
  have hob':(S1.setObj b2 (.cells (((q.map (·.2.1))++[s]).map aI++L2))).obj b=_:=(zd eb2).trans hob
  have pok':∀(i:Nat) x d,q[i]?=some x->ds[i]?=some d->(S1.setObj b2 (.cells (((q.map (·.2.1))++[s]).map aI++L2))).obj d=some (.cells (wayL w.G w.B x.1 x.2.1 x.2.2)):=fun i x d h1 h2=>(zd (fun(e:d=b2)=>ed2 (by rw[<-e];exact List.mem_of_getElem? h2))).trans (pok i x d h1 h2)
  have hh:∀y,S1.obj y≠none->(S1.setObj b2 (.cells (((q.map (·.2.1))++[s]).map aI++L2))).obj y≠none:=fun y hy=>by
   by_cases e:y=b2
   ·rw[e,zb];simp
   ·rw[zd e];exact hy
  have pds':∀d,d∈ds->(S1.setObj b2 (.cells (((q.map (·.2.1))++[s]).map aI++L2))).obj d≠none:=fun d hd=>hh d (pds d hd)
  have z2':(S1.setObj b2 (.cells (((q.map (·.2.1))++[s]).map aI++L2))).obj b2=some (.cells (((q.map (·.2.1))++[s]).map aI++L2)):=zb _ _ _
  have z1':(S1.setObj b2 (.cells (((q.map (·.2.1))++[s]).map aI++L2))).obj b1=_:=(zd en21).trans z1
  have m3':=fun x hx=>hh x (m3 x hx)
  have p3':=zmf p3 ex23 (.cells (((q.map (·.2.1))++[s]).map aI++L2))
  have m4':=fun x hx=>hh x (m4 x hx)
  have p4':=zep p4 ex24 (.cells (((q.map (·.2.1))++[s]).map aI++L2))
  clear p0 hob pok pds hb2 m2 p2 hh z1 p3 m3 p4 m4
  have p0:=p0'
  have hob:=hob'
  have pok:=pok'
  have pds:=pds'
  have z1:=z1'
  have z2:=z2'
  have p3:=p3'
  have p4:=p4'
  have m3:=m3'
  have m4:=m4'
  clear p0' hob' pok' pds' z1' z2' p3' p4' m3' m4'
  generalize(S1.setObj b2 (.cells (((q.map (·.2.1))++[s]).map aI++L2)))=S2 at*
  refine⟨Qe,?_⟩
  refine⟨?_,Tv⟩
  refine zm8 (ie:=ti2) (v:=(.s (.slice a3 q.length c3))) (ns:=q.map fun x=>(x.2.2:Int)) rfl rfl rfl p3 (goal:Int) (by rw[List.length_map];omega) (fun b3 n3 L3 hb3 q31 q32 q33=>?_)
  have ef3:fb≠b3:=Ne.symm (ky hb3 (by rw[p0];simp) (fun x hx=>(o3 x hx).1))
  have eb3:b≠b3:=Ne.symm (ky hb3 (by rw[hob];simp) nb3)
  have ed3:b3∉ds:=fun hh=>ky hb3 (pds _ hh) (fun x hx e=>(o3 x hx).2.1 (e▸hh)) rfl
  have ex34:blkS (.s (.slice a4 ds.length c4))≠some b3:=zfs hb3 m4 (fun x hx=>(o3 x hx).2.2)
  have en31:b1≠b3:=Ne.symm (ky hb3 (by rw[z1];simp) (fun x hx e=>ex13 (e▸hx)))
  have en32:b2≠b3:=Ne.symm (ky hb3 (by rw[z2];simp) (fun x hx e=>ex23 (e▸hx)))
  have p0':(S2.setObj b3 (.cells (((q.map fun x=>(x.2.2:Int))++[(goal:Int)]).map aI++L3))).obj fb=_:=(zd ef3).trans p0
  have hob':(S2.setObj b3 (.cells (((q.map fun x=>(x.2.2:Int))++[(goal:Int)]).map aI++L3))).obj b=_:=(zd eb3).trans hob
  have pok':∀(i:Nat) x d,q[i]?=some x->ds[i]?=some d->(S2.setObj b3 (.cells (((q.map fun x=>(x.2.2:Int))++[(goal:Int)]).map aI++L3))).obj d=some (.cells (wayL w.G w.B x.1 x.2.1 x.2.2)):=fun i x d h1 h2=>(zd (fun(e:d=b3)=>ed3 (by rw[<-e];exact List.mem_of_getElem? h2))).trans (pok i x d h1 h2)
  have hh:∀y,S2.obj y≠none->(S2.setObj b3 (.cells (((q.map fun x=>(x.2.2:Int))++[(goal:Int)]).map aI++L3))).obj y≠none:=fun y hy=>by
   by_cases e:y=b3
   ·rw[e,zb];simp
   ·rw[zd e];exact hy
  have pds':∀d,d∈ds->(S2.setObj b3 (.cells (((q.map fun x=>(x.2.2:Int))++[(goal:Int)]).map aI++L3))).obj d≠none:=fun d hd=>hh d (pds d hd)
  have z3':(S2.setObj b3 (.cells (((q.map fun x=>(x.2.2:Int))++[(goal:Int)]).map aI++L3))).obj b3=some (.cells (((q.map fun x=>(x.2.2:Int))++[(goal:Int)]).map aI++L3)):=zb _ _ _
  have z1':(S2.setObj b3 (.cells (((q.map fun x=>(x.2.2:Int))++[(goal:Int)]).map aI++L3))).obj b1=_:=(zd en31).trans z1
  have z2':(S2.setObj b3 (.cells (((q.map fun x=>(x.2.2:Int))++[(goal:Int)]).map aI++L3))).obj b2=_:=(zd en32).trans z2
  have m4':=fun x hx=>hh x (m4 x hx)
  have p4':=zep p4 ex34 (.cells (((q.map fun x=>(x.2.2:Int))++[(goal:Int)]).map aI++L3))
  clear p0 hob pok pds hb3 m3 p3 hh z1 z2 p4 m4
  have p0:=p0'
  have hob:=hob'
  have pok:=pok'
  have pds:=pds'
  have z1:=z1'
  have z2:=z2'
  have z3:=z3'
  have p4:=p4'
  have m4:=m4'
  clear p0' hob' pok' pds' z1' z2' z3' p4' m4'
  generalize(S2.setObj b3 (.cells (((q.map fun x=>(x.2.2:Int))++[(goal:Int)]).map aI++L3)))=S3 at*
  refine⟨Qe,?_⟩
  refine⟨?_,Tv⟩
  refine za _ rfl (zv rfl (zy (v:=(.s (.slice (some ⟨b1,0,none⟩) ((q.map (·.1))++[c]).length n1))) rfl rfl rfl rfl ?_))
  refine zh (i:=ti29) (v:=(.s (.slice (some ⟨b1,0,none⟩) ((q.map (·.1))++[c]).length n1))) (b:=fb) (o:=0) (l:=[(.s (.slice a1 q.length c1)),(.s (.slice a2 q.length c2)),(.s (.slice a3 q.length c3)),(.s (.slice a4 ds.length c4))]) (st2:=S3.setObj fb (.cells [(.s (.slice (some ⟨b1,0,none⟩) ((q.map (·.1))++[c]).length n1)),(.s (.slice a2 q.length c2)),(.s (.slice a3 q.length c3)),(.s (.slice a4 ds.length c4))])) rfl rfl rfl p0 (show 1<=4 by decide) rfl ?_
  refine⟨Qe,?_⟩
  refine⟨?_,Tv⟩
  refine za _ rfl (zv rfl (zy (v:=(.s (.slice (some ⟨b2,0,none⟩) ((q.map (·.2.1))++[s]).length n2))) rfl rfl rfl rfl ?_))
  refine zh (i:=ti29) (v:=(.s (.slice (some ⟨b2,0,none⟩) ((q.map (·.2.1))++[s]).length n2))) (b:=fb) (o:=1) (l:=[(.s (.slice (some ⟨b1,0,none⟩) ((q.map (·.1))++[c]).length n1)),(.s (.slice a2 q.length c2)),(.s (.slice a3 q.length c3)),(.s (.slice a4 ds.length c4))]) (st2:=S3.setObj fb (.cells [(.s (.slice (some ⟨b1,0,none⟩) ((q.map (·.1))++[c]).length n1)),(.s (.slice (some ⟨b2,0,none⟩) ((q.map (·.2.1))++[s]).length n2)),(.s (.slice a3 q.length c3)),(.s (.slice a4 ds.length c4))])) rfl rfl rfl (zb _ _ _) (show 2<=4 by decide) (zg _ _ _ _) ?_
  refine⟨Qe,?_⟩
  refine⟨?_,Tv⟩
  refine za _ rfl (zv rfl (zy (v:=(.s (.slice (some ⟨b3,0,none⟩) ((q.map fun x=>(x.2.2:Int))++[(goal:Int)]).length n3))) rfl rfl rfl rfl ?_))
  refine zh (i:=ti29) (v:=(.s (.slice (some ⟨b3,0,none⟩) ((q.map fun x=>(x.2.2:Int))++[(goal:Int)]).length n3))) (b:=fb) (o:=2) (l:=[(.s (.slice (some ⟨b1,0,none⟩) ((q.map (·.1))++[c]).length n1)),(.s (.slice (some ⟨b2,0,none⟩) ((q.map (·.2.1))++[s]).length n2)),(.s (.slice a3 q.length c3)),(.s (.slice a4 ds.length c4))]) (st2:=S3.setObj fb (.cells [(.s (.slice (some ⟨b1,0,none⟩) ((q.map (·.1))++[c]).length n1)),(.s (.slice (some ⟨b2,0,none⟩) ((q.map (·.2.1))++[s]).length n2)),(.s (.slice (some ⟨b3,0,none⟩) ((q.map fun x=>(x.2.2:Int))++[(goal:Int)]).length n3)),(.s (.slice a4 ds.length c4))])) rfl rfl rfl (zb _ _ _) (show 3<=4 by decide) (zg _ _ _ _) ?_
  refine⟨Qe,?_⟩
  have p0':(S3.setObj fb (.cells [(.s (.slice (some ⟨b1,0,none⟩) ((q.map (·.1))++[c]).length n1)),(.s (.slice (some ⟨b2,0,none⟩) ((q.map (·.2.1))++[s]).length n2)),(.s (.slice (some ⟨b3,0,none⟩) ((q.map fun x=>(x.2.2:Int))++[(goal:Int)]).length n3)),(.s (.slice a4 ds.length c4))])).obj fb=some (.cells [(.s (.slice (some ⟨b1,0,none⟩) ((q.map (·.1))++[c]).length n1)),(.s (.slice (some ⟨b2,0,none⟩) ((q.map (·.2.1))++[s]).length n2)),(.s (.slice (some ⟨b3,0,none⟩) ((q.map fun x=>(x.2.2:Int))++[(goal:Int)]).length n3)),(.s (.slice a4 ds.length c4))]):=zb _ _ _
  have hob':(S3.setObj fb (.cells [(.s (.slice (some ⟨b1,0,none⟩) ((q.map (·.1))++[c]).length n1)),(.s (.slice (some ⟨b2,0,none⟩) ((q.map (·.2.1))++[s]).length n2)),(.s (.slice (some ⟨b3,0,none⟩) ((q.map fun x=>(x.2.2:Int))++[(goal:Int)]).length n3)),(.s (.slice a4 ds.length c4))])).obj b=_:=(zd hbf).trans hob
  have pok':∀(i:Nat) x d,q[i]?=some x->ds[i]?=some d->(S3.setObj fb (.cells [(.s (.slice (some ⟨b1,0,none⟩) ((q.map (·.1))++[c]).length n1)),(.s (.slice (some ⟨b2,0,none⟩) ((q.map (·.2.1))++[s]).length n2)),(.s (.slice (some ⟨b3,0,none⟩) ((q.map fun x=>(x.2.2:Int))++[(goal:Int)]).length n3)),(.s (.slice a4 ds.length c4))])).obj d=some (.cells (wayL w.G w.B x.1 x.2.1 x.2.2)):=fun i x d h1 h2=>(zd (fun(e:d=fb)=>o0 (by rw[<-e];exact List.mem_of_getElem? h2))).trans (pok i x d h1 h2)
  have hh:∀y,S3.obj y≠none->(S3.setObj fb (.cells [(.s (.slice (some ⟨b1,0,none⟩) ((q.map (·.1))++[c]).length n1)),(.s (.slice (some ⟨b2,0,none⟩) ((q.map (·.2.1))++[s]).length n2)),(.s (.slice (some ⟨b3,0,none⟩) ((q.map fun x=>(x.2.2:Int))++[(goal:Int)]).length n3)),(.s (.slice a4 ds.length c4))])).obj y≠none:=fun y hy=>by
   by_cases e:y=fb
   ·rw[e,zb];simp
   ·rw[zd e];exact hy
  have pds':∀d,d∈ds->(S3.setObj fb (.cells [(.s (.slice (some ⟨b1,0,none⟩) ((q.map (·.1))++[c]).length n1)),(.s (.slice (some ⟨b2,0,none⟩) ((q.map (·.2.1))++[s]).length n2)),(.s (.slice (some ⟨b3,0,none⟩) ((q.map fun x=>(x.2.2:Int))++[(goal:Int)]).length n3)),(.s (.slice a4 ds.length c4))])).obj d≠none:=fun d hd=>hh d (pds d hd)
  have z1':(S3.setObj fb (.cells [(.s (.slice (some ⟨b1,0,none⟩) ((q.map (·.1))++[c]).length n1)),(.s (.slice (some ⟨b2,0,none⟩) ((q.map (·.2.1))++[s]).length n2)),(.s (.slice (some ⟨b3,0,none⟩) ((q.map fun x=>(x.2.2:Int))++[(goal:Int)]).length n3)),(.s (.slice a4 ds.length c4))])).obj b1=_:=(zd (Ne.symm ef1)).trans z1
  have z2':(S3.setObj fb (.cells [(.s (.slice (some ⟨b1,0,none⟩) ((q.map (·.1))++[c]).length n1)),(.s (.slice (some ⟨b2,0,none⟩) ((q.map (·.2.1))++[s]).length n2)),(.s (.slice (some ⟨b3,0,none⟩) ((q.map fun x=>(x.2.2:Int))++[(goal:Int)]).length n3)),(.s (.slice a4 ds.length c4))])).obj b2=_:=(zd (Ne.symm ef2)).trans z2
  have z3':(S3.setObj fb (.cells [(.s (.slice (some ⟨b1,0,none⟩) ((q.map (·.1))++[c]).length n1)),(.s (.slice (some ⟨b2,0,none⟩) ((q.map (·.2.1))++[s]).length n2)),(.s (.slice (some ⟨b3,0,none⟩) ((q.map fun x=>(x.2.2:Int))++[(goal:Int)]).length n3)),(.s (.slice a4 ds.length c4))])).obj b3=_:=(zd (Ne.symm ef3)).trans z3
  have m4':=fun x hx=>hh x (m4 x hx)
  have p4':=zep p4 (b:=fb) (fun e=>(o4 fb e).1 rfl) (.cells [(.s (.slice (some ⟨b1,0,none⟩) ((q.map (·.1))++[c]).length n1)),(.s (.slice (some ⟨b2,0,none⟩) ((q.map (·.2.1))++[s]).length n2)),(.s (.slice (some ⟨b3,0,none⟩) ((q.map fun x=>(x.2.2:Int))++[(goal:Int)]).length n3)),(.s (.slice a4 ds.length c4))])
  clear p0 hob pok pds z1 z2 z3 m4 p4 hh
  have p0:=p0'
  have hob:=hob'
  have pok:=pok'
  have pds:=pds'
  have z1:=z1'
  have z2:=z2'
  have z3:=z3'
  have m4:=m4'
  have p4:=p4'
  clear p0' hob' pok' pds' z1' z2' z3' m4' p4'
  generalize(S3.setObj fb (.cells [(.s (.slice (some ⟨b1,0,none⟩) ((q.map (·.1))++[c]).length n1)),(.s (.slice (some ⟨b2,0,none⟩) ((q.map (·.2.1))++[s]).length n2)),(.s (.slice (some ⟨b3,0,none⟩) ((q.map fun x=>(x.2.2:Int))++[(goal:Int)]).length n3)),(.s (.slice a4 ds.length c4))]))=S4 at*
  refine za (o:=S4.obj fb) _ p0 ?_
  refine⟨by decide,?_⟩
  refine zm7 (f:=dirC w.G.T.length) (ie:=ti29) (v:=(.s (.slice a4 ds.length c4))) (l:=ds) rfl (fun _=>rfl) (by decide) p4 b rfl (by omega) (fun b4 n4 L4 hb4 q41 q42 q43=>?_)
  have ef4:fb≠b4:=Ne.symm (ky hb4 (by rw[p0];simp) (fun x hx=>(o4 x hx).1))
  have eb4:b≠b4:=Ne.symm (ky hb4 (by rw[hob];simp) nb4)
  have ed4:b4∉ds:=fun hh=>ky hb4 (pds _ hh) (fun x hx e=>(o4 x hx).2 (e▸hh)) rfl
  have en41:b1≠b4:=Ne.symm (ky hb4 (by rw[z1];simp) (fun x hx e=>ex14 (e▸hx)))
  have en42:b2≠b4:=Ne.symm (ky hb4 (by rw[z2];simp) (fun x hx e=>ex24 (e▸hx)))
  have en43:b3≠b4:=Ne.symm (ky hb4 (by rw[z3];simp) (fun x hx e=>ex34 (e▸hx)))
  refine zh (i:=ti43) (v:=.s (.slice (some ⟨b4,0,none⟩) (ds++[b]).length n4)) (b:=fb) (o:=3) (l:=[(.s (.slice (some ⟨b1,0,none⟩) ((q.map (·.1))++[c]).length n1)),(.s (.slice (some ⟨b2,0,none⟩) ((q.map (·.2.1))++[s]).length n2)),(.s (.slice (some ⟨b3,0,none⟩) ((q.map fun x=>(x.2.2:Int))++[(goal:Int)]).length n3)),(.s (.slice a4 ds.length c4))]) (st2:=((S4.setObj b4 (.cells ((rws (dirC w.G.T.length) (ds++[b])).flatten++L4))).setObj fb (.cells [(.s (.slice (some ⟨b1,0,none⟩) ((q.map (·.1))++[c]).length n1)),(.s (.slice (some ⟨b2,0,none⟩) ((q.map (·.2.1))++[s]).length n2)),(.s (.slice (some ⟨b3,0,none⟩) ((q.map fun x=>(x.2.2:Int))++[(goal:Int)]).length n3)),(.s (.slice (some ⟨b4,0,none⟩) (ds++[b]).length n4))]))) rfl rfl rfl ((zd ef4).trans p0) (show 4<=4 by decide) rfl ?_
  have kk:∀{x:Nat} {y:AObj},x≠fb->x≠b4->S4.obj x=some y->((S4.setObj b4 (.cells ((rws (dirC w.G.T.length) (ds++[b])).flatten++L4))).setObj fb (.cells [(.s (.slice (some ⟨b1,0,none⟩) ((q.map (·.1))++[c]).length n1)),(.s (.slice (some ⟨b2,0,none⟩) ((q.map (·.2.1))++[s]).length n2)),(.s (.slice (some ⟨b3,0,none⟩) ((q.map fun x=>(x.2.2:Int))++[(goal:Int)]).length n3)),(.s (.slice (some ⟨b4,0,none⟩) (ds++[b]).length n4))])).obj x=some y:=fun{x y} h1 h2 hy=>(zd h1).trans ((zd h2).trans hy)
  have y0:((S4.setObj b4 (.cells ((rws (dirC w.G.T.length) (ds++[b])).flatten++L4))).setObj fb (.cells [(.s (.slice (some ⟨b1,0,none⟩) ((q.map (·.1))++[c]).length n1)),(.s (.slice (some ⟨b2,0,none⟩) ((q.map (·.2.1))++[s]).length n2)),(.s (.slice (some ⟨b3,0,none⟩) ((q.map fun x=>(x.2.2:Int))++[(goal:Int)]).length n3)),(.s (.slice (some ⟨b4,0,none⟩) (ds++[b]).length n4))])).obj fb=some (.cells [(.s (.slice (some ⟨b1,0,none⟩) ((q.map (·.1))++[c]).length n1)),(.s (.slice (some ⟨b2,0,none⟩) ((q.map (·.2.1))++[s]).length n2)),(.s (.slice (some ⟨b3,0,none⟩) ((q.map fun x=>(x.2.2:Int))++[(goal:Int)]).length n3)),(.s (.slice (some ⟨b4,0,none⟩) (ds++[b]).length n4))]):=zb _ _ _
  have y1:=kk (Ne.symm ef1) en41 z1
  have y2:=kk (Ne.symm ef2) en42 z2
  have y3:=kk (Ne.symm ef3) en43 z3
  have y4:((S4.setObj b4 (.cells ((rws (dirC w.G.T.length) (ds++[b])).flatten++L4))).setObj fb (.cells [(.s (.slice (some ⟨b1,0,none⟩) ((q.map (·.1))++[c]).length n1)),(.s (.slice (some ⟨b2,0,none⟩) ((q.map (·.2.1))++[s]).length n2)),(.s (.slice (some ⟨b3,0,none⟩) ((q.map fun x=>(x.2.2:Int))++[(goal:Int)]).length n3)),(.s (.slice (some ⟨b4,0,none⟩) (ds++[b]).length n4))])).obj b4=some (.cells ((rws (dirC w.G.T.length) (ds++[b])).flatten++L4)):=(zd (Ne.symm ef4)).trans (zb _ _ _)
  have yb:=kk hbf eb4 hob
  have yok:∀(i:Nat) x d,q[i]?=some x->ds[i]?=some d->((S4.setObj b4 (.cells ((rws (dirC w.G.T.length) (ds++[b])).flatten++L4))).setObj fb (.cells [(.s (.slice (some ⟨b1,0,none⟩) ((q.map (·.1))++[c]).length n1)),(.s (.slice (some ⟨b2,0,none⟩) ((q.map (·.2.1))++[s]).length n2)),(.s (.slice (some ⟨b3,0,none⟩) ((q.map fun x=>(x.2.2:Int))++[(goal:Int)]).length n3)),(.s (.slice (some ⟨b4,0,none⟩) (ds++[b]).length n4))])).obj d=some (.cells (wayL w.G w.B x.1 x.2.1 x.2.2)):=fun i x d h1 h2=>kk (fun(e:d=fb)=>o0 (by rw[<-e];exact List.mem_of_getElem? h2)) (fun(e:d=b4)=>ed4 (by rw[<-e];exact List.mem_of_getElem? h2)) (pok i x d h1 h2)
  generalize((S4.setObj b4 (.cells ((rws (dirC w.G.T.length) (ds++[b])).flatten++L4))).setObj fb (.cells [(.s (.slice (some ⟨b1,0,none⟩) ((q.map (·.1))++[c]).length n1)),(.s (.slice (some ⟨b2,0,none⟩) ((q.map (·.2.1))++[s]).length n2)),(.s (.slice (some ⟨b3,0,none⟩) ((q.map fun x=>(x.2.2:Int))++[(goal:Int)]).length n3)),(.s (.slice (some ⟨b4,0,none⟩) (ds++[b]).length n4))]))=S6 at*
  have hm1:(q++[(c,s,goal)]).map (·.1)=q.map (·.1)++[c]:=by simp
  have hm2:(q++[(c,s,goal)]).map (·.2.1)=q.map (·.2.1)++[s]:=by simp
  have hm3:((q++[(c,s,goal)]).map fun x=>(x.2.2:Int))=(q.map fun x=>(x.2.2:Int))++[(goal:Int)]:=by simp
  have hnd:∀{x:Nat},x∉ds->x≠b->x∉ds++[b]:=fun{x} h1 h2 hh=>by
   rcases List.mem_append.1 hh with hh|hh
   ·exact h1 hh
   ·exact h2 (List.mem_singleton.1 hh)
  have hsb:∀{x y n c:Nat},x≠y->blkS (.s (.slice (some ⟨x,0,none⟩) n c))≠some y:=fun{x y n c} h e=>h (Option.some.inj e)
  refine ret (h b S6 ⟨_,_,_,_,q++[(c,s,goal)],ds++[b],⟨y0,?_,?_,?_,?_,?_,?_,?_,?_,?_,?_,?_⟩,?_⟩ yb)
  ·rw[hm1];exact .inr ⟨b1,n1,L1,rfl,y1,q11,q12,q13⟩
  ·rw[hm2];exact .inr ⟨b2,n2,L2,rfl,y2,q21,q22,q23⟩
  ·rw[hm3];exact .inr ⟨b3,n3,L3,rfl,y3,q31,q32,q33⟩
  ·exact .inr ⟨b4,n4,L4,rfl,y4,q41,q42,q43⟩
  ·rw[List.length_append,List.length_append,hlen];rfl
  ·intro j x d h1 h2
   rcases Nat.lt_or_ge j q.length with hj|hj
   ·rw[List.getElem?_append_left hj]at h1
    rw[List.getElem?_append_left (by omega)]at h2
    exact yok j x d h1 h2
   ·rw[List.getElem?_append_right hj]at h1
    rw[List.getElem?_append_right (by omega)]at h2
    have hj0:j-q.length=0:=by
     have:=(List.getElem?_eq_some_iff.1 h1).1
     simp at this
     omega
    rw[hj0]at h1
    rw[show j-ds.length=0 by omega]at h2
    cases h1
    cases h2
    exact yb
  ·exact hnd o0 (Ne.symm hbf)
  ·intro x hx
   cases hx
   exact⟨Ne.symm ef1,hnd ed1 (Ne.symm eb1),hsb (Ne.symm en21),hsb (Ne.symm en31),hsb (Ne.symm en41)⟩
  ·intro x hx
   cases hx
   exact⟨Ne.symm ef2,hnd ed2 (Ne.symm eb2),hsb (Ne.symm en32),hsb (Ne.symm en42)⟩
  ·intro x hx
   cases hx
   exact⟨Ne.symm ef3,hnd ed3 (Ne.symm eb3),hsb (Ne.symm en43)⟩
  ·intro x hx
   cases hx
   exact⟨Ne.symm ef4,hnd ed4 (Ne.symm eb4)⟩
  ·rw[List.length_append,List.length_singleton]
   omega
end Go.Proofs
