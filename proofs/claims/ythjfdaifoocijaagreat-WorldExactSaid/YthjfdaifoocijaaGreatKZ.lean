/- Ground of laws of thronglaw25: contracts and plain lemmas; no condition beyond the row's own. -/
import Derived.Test.YthjfdaifoocijaaGreatKY
import Derived.Test.YthjfdaifoocijaaGreatKX
import Derived.Test.YthjfdaifoocijaaGreatKN
set_option linter.unusedSimpArgs false
set_option linter.unusedVariables false
set_option linter.defProp false
namespace Go.Proofs
open Go Go.V
set_option maxRecDepth 20000
set_option maxHeartbeats 4000000
def Ow{g:Gnd}{t way:Nat}(hw:way<8):(rws zx (jz g t))[way]?=some (zx (yj g t way)):=by
 have h8:way<(jz g t).length:=by rw[K1];exact hw
 rw[zn h8];unfold yj;rw[Fbb,Fac h8];rfl
def Rj(g:Gnd)(ok:Nat->Bool)(c:Int)(t way:Nat):Int:=if ok t then qj g ok c t way else 0
def rm{g:Gnd}(hg:zw g){l:List Bld}{c s:Int}(hc:c=0\/c=1\/c=2)(t:Nat)(ht:t<g.T.length)(way:Nat)(hw:way<8)(S:Store)(R:Ja)
  (h:R (int (Rj g (zo g l c s) c t way)) S):Jb 315 [.agg (zq g),Dx g l c s,int c,int (t:Nat),y9 (jz g t),int (way:Nat),int (-1)] S R:=by
 have hgl:∀u,u<g.T.length->u<(blL g.T.length (zo g l c s)).length:=λu hu=>by rw[xx];exact hu
 have p1:=Mg c (g.T[t]).toNat;unfold Rj at h;refine Qy 113 Tryz.func315 ?_;refine⟨way,rfl,za _ (Ow hw) ?_⟩;have hor:=I9 hg t hw;have hlo:=λh=>om (g:=g) (ok:=zo g l c s) (c:=c) (t:=t) (w:=way) h;have hhi:=λh=>oq (g:=g) (ok:=zo g l c s) (c:=c) (t:=t) (w:=way) h;have hno:=Nv (g:=g) (ok:=zo g l c s) (c:=c) (t:=t) (w:=way);have hhn:=λh=>oo (g:=g) (ok:=zo g l c s) (c:=c) (t:=t) (w:=way) h;generalize qj g (zo g l c s) c t way=E at*;generalize hU:yj g t way=U at*;refine bcd (λc1=>?_) λc1=>?_
 ·rw[hno (Ix c1),ite_self]at h;exact ret h
 obtain⟨u,rfl,hul⟩:∃u:Nat,U=(u:Int)/\u<g.T.length:=by
  rcases hor with h1|h1
  ·exact absurd h1 c1
  ·exact h1
 refine⟨t,rfl,za _ (zn (hgl t ht)) ?_⟩;rw[Br ht];refine ye (zh (λc2=>?_) λc2=>?_);rotate_left
 ·rw[if_neg (by rw[c2];decide)]at h;exact ret h
 rw[if_pos c2]at h;refine⟨u,rfl,za _ (zn (hgl u hul)) ?_⟩;rw[Br hul];refine ye (zh (λc3=>?_) λc3=>?_);rotate_left
 ·rw[hno (by rw[Gl,c3])]at h;exact ret h
 have hfu:vi (zo g l c s) (u:Int)=true:=by rw[Gl,c3]
 rw[Fa0]at hlo hhi;rw[Vv g c ht,Vv g c hul]at hlo hhi;have p2:=Mg c (g.T[u]).toNat;refine Qc zb zwn ⟨t,rfl,za _ (zn ht) ⟨u,rfl,za _ (zn hul) ⟨im c hc g.T[t] (Vu hg ht) _ _ ⟨Qe,⟨im c hc g.T[u] (Vu hg hul) _ _ ⟨Qe,Qd (Qbr ?_)⟩,Tv⟩⟩,Tv⟩⟩⟩;generalize At c g.T[t].toNat=P1 at*;generalize At c g.T[u].toNat=P2 at*;refine bcd (λc4=>?_) λc4=>?_
 ·refine Qd ?_;rw[hlo hfu θ]at h;exact ret h
 have h4:¬way<4:=θ;have hhi:=hhi hfu h4;have hhn:=hhn h4;have hsi:∀i,i<2->(way-4+i)%4<8:=λi _=>θ;have hs0:(way-4+0)%4=G5 way:=by unfold G5;omega
 have hs1:(way-4+1)%4=G4 way:=by unfold G4;omega
 refine AWp.loop (σ:=Nat) ⟨λi=>[(1,.av (Dx g l c s)),(4,.av (y9 (jz g t))),(5,.av (int (way:Nat))),(6,.av (int (-1))),(7,.bx 7 0),(16,.av (int (P1+P2))),(17,.av (int (i:Nat)))],λ_=>[(7,zq g)],
  λi st'=>i<=2/\st'=S/\∀j,j<i->vi (zo g l c s) (yj g t ((way-4+j)%4))=true,λi=>2-i⟩ zb ?_ ?_
 ·exact⟨0,Tv,⟨Fad _,rfl,λj hj=>absurd hj (Fau j)⟩,Qbn,⟨rfl,Tv⟩⟩
 rintro i st' ⟨hi,rfl,hfr⟩;dsimp only at hi hfr⊢;refine bcd (λc5=>?_) λc5=>?_;rotate_left
 ·have:i=2:=θ;subst this;have ha:=hfr 0 θ;have hb:=hfr 1 θ;rw[hs0]at ha;rw[hs1]at hb;rw[hhi ha hb]at h;exact Qd (ret h)
 have hi2:i<2:=θ;have hm:((way:Int)-4+(i:Int)).tmod 4=(((way-4+i)%4:Nat):Int):=by rw[Fcl θ];omega
 have hno2:vi (zo g l c s) (yj g t ((way-4+i)%4))=false->R (int 0) st':=λhh=>by
  rw[hhn (by
   have:i=0\/i=1:=θ;rcases this with rfl|rfl
   ·rw[hs0]at hh;exact .inl hh
   ·rw[hs1]at hh;exact .inr hh)]at h
  exact h
 have hor2:=I9 hg t (hsi i hi2);have hget:=Ow (g:=g) (t:=t) (hsi i hi2);generalize hw2:(way-4+i)%4=way2 at*;refine Qd (Qd ⟨ψ,⟨way2,hm,za _ hget ?_⟩⟩);generalize hU2:yj g t way2=U2 at*;refine bcd (λc6=>?_) λc6=>?_
 ·exact ret (hno2 (Ix c6))
 obtain⟨u2,rfl,hul2⟩:∃u:Nat,U2=(u:Int)/\u<g.T.length:=by
  rcases hor2 with h1|h1
  ·exact absurd h1 c6
  ·exact h1
 refine⟨u2,rfl,za _ (zn (hgl u2 hul2)) ?_⟩;rw[Br hul2];refine ye (zh (λc7=>?_) λc7=>?_);rotate_left
 ·exact ret (hno2 (by rw[Gl,c7]))
 refine Qd ⟨i+1,(show 2-(i+1)<2-i by omega),⟨θ,rfl,λj hj=>?_⟩,Qbn,⟨rfl,Tv⟩⟩;by_cases e:j=i
 ·subst e;rw[hw2,hU2,Gl,c7]
 ·exact hfr j θ
def Hv(n:Nat)(W:Nat->Bool):Nat:=wt n λt=>if W t then 1 else 0
def mc(n:Nat)(W:Nat->Bool):Hv n W<=n:=by have:=Rh (f:=λt=>if W t=true then 1 else 0) (g:=λ_=>1) n (λt _=>by split<;>omega);rw[Ri]at this;unfold Hv;omega
theorem l9{n:Nat}{W:Nat->Bool}{u:Nat}(hu:u<n)(x:Bool):Hv n (z7 W u x)+(if W u then 1 else 0)=Hv n W+(if x then 1 else 0):=by have:=L7 (f:=λt=>if z7 W u x t=true then 1 else 0) (g:=λt=>if W t=true then 1 else 0) (u:=u) n hu (λt _ ht=>by rw[jo ht]);simp only[vl]at this;exact this
def yb7{g:Gnd}(hg:zw g){l:List Bld}{c s:Int}(hc:c=0\/c=1\/c=2)(goal:Nat)(hgo:goal<g.T.length)(R:Ja)
  (h:∀b S,S.obj b=some (.cells (il g.T.length (xu g (zo g l c s) c goal)))->(∀u,(0<=xu g (zo g l c s) c goal u->zo g l c s u=true)/\-1<=xu g (zo g l c s) c goal u/\xu g (zo g l c s) c goal u<=2000000)->R (.s (.slice (some ⟨b,0,none⟩) g.T.length g.T.length)) S):
  Jb 314 [.agg (zq g),Dx g l c s,int c,int (goal:Nat),int (-1)] Store.empty R:=by
 have ha:=qg hg;have hT:g.T.length<=16384:=θ;have hgl:∀u,u<g.T.length->u<(blL g.T.length (zo g l c s)).length:=λu hu=>by rw[xx];exact hu
 refine Qa (c:=cfg 133 [57,1000057] []) zb Tryz.func314 ?_;refine Qd ?_;have hwh:g.W*g.H=((g.T.length:Nat):Int):=θ;rw[hwh];refine De rfl (it:=ti29) (ie:=ti2) rfl rfl rfl rfl rfl (n:=g.T.length) ?_ ?_ λb hf=>?_
 ·show 8*g.T.length<=_;omega
 ·omega
 have il0:List.replicate g.T.length (AV.s (.int .i64 0))=il g.T.length (vy (-1) 0):=(O7 _).trans (Hj λt _=>(if_neg (Fau t)).symm)
 refine AWp.loop (σ:=Nat) ⟨λi=>[(1,.av (Dx g l c s)),(2,.av (int c)),(3,.av (int (goal:Nat))),(4,.av (int (-1))),(5,.bx 5 0),(11,.av (.s (.slice (some ⟨b,0,none⟩) g.T.length g.T.length))),(12,.av (int (i:Nat)))],λ_=>[(5,zq g)],
  λi st'=>i<=g.T.length/\st'=Store.empty.sO b (.cells (il g.T.length (vy (-1) i))),λi=>g.T.length-i⟩ zb ?_ ?_
 ·exact⟨0,Tv,⟨Fad _,by rw[<-il0]⟩,Qbn,⟨rfl,Tv⟩⟩
 rintro i st' ⟨hi,rfl⟩;dsimp only at hi⊢;refine zh (λd1=>?_) λd1=>?_
 ·have hlt:i<g.T.length:=by simpa using d1
  refine⟨i,rfl,hlt,yu (i:=ti2) (v:=int (-1)) (b:=b) (o:=0+i*1) (l:=il g.T.length (vy (-1) i)) (st2:=Store.empty.sO b (.cells (il g.T.length (vy (-1) (i+1))))) rfl rfl rfl (zd _ _ _) θb ?_ ?_⟩
  ·rw[yy,Hh _ _ _ _ hlt]
   congr 2
   refine Hj λt ht=>?_;unfold z7 vy;grind
  exact Qd ⟨i+1,(show g.T.length-(i+1)<g.T.length-i by omega),⟨hlt,rfl⟩,Qbn,⟨rfl,Tv⟩⟩
 have:i=g.T.length:=δ;subst this;rw[za9];refine⟨goal,rfl,za _ (zn (hgl goal hgo)) ?_⟩;rw[Br hgo];refine ye (zh (λc1=>?_) λc1=>?_);rotate_left
 ·rw[zce c1]at h;exact ret (h b _ (zd _ _ _) (λu=>⟨λhu=>absurd (show(0:Int)<=-1 from hu) ψ,show(-1:Int)<=-1 by decide,show(-1:Int)<=2000000 by decide⟩))
 refine⟨goal,rfl,hgo,yu (i:=ti2) (v:=int 0) (b:=b) (o:=0+goal*1) (l:=il g.T.length λ_=>-1) (st2:=Store.empty.sO b (.cells (il g.T.length (z7 (λ_=>-1) goal 0)))) rfl rfl rfl (zd _ _ _) θb ?_ ?_⟩
 ·rw[yy,Hh _ _ _ _ hgo]
 refine⟨ψ,λb3 hf3=>De rfl (it:=ti88) (ie:=ti4) rfl rfl rfl rfl rfl (n:=g.T.length) ?_ ?_ λb2 hf2=>?_⟩
 ·show 1*_<=_;omega
 ·omega
 rw[I8];have hb3:b3≠b:=λe=>by have:=hf3.1;rw[e,zd]at this;cases this
 have hb23:b2≠b3:=λe=>by have:=hf2.1;rw[e,zd]at this;cases this
 have hb2:b2≠b:=λe=>by have:=hf2.1;simp_all[zj,zd]
 have hd0:∀u,z7 (λ_=>(-1:Int)) goal 0 u=if u=goal then 0 else -1:=λu=>rfl
 have hSP:=zuq (jl g (zo g l c s) c) hd0 (W:=inQ [goal]) (λu=>by unfold inQ;simp);have hcb:=zc8 hgo hd0;have hd00:0<=z7 (λ_=>(-1:Int)) goal 0 goal:=δ;generalize z7 (λ_=>(-1:Int)) goal 0=d0 at*
 refine AWp.loop (σ:=(Nat->Int)×(Nat->Bool)×List Nat×AV×Store) ⟨λx=>[(1,.av (Dx g l c s)),(2,.av (int c)),(4,.av (int (-1))),(5,.bx 5 0),(11,.av (.s (.slice (some ⟨b,0,none⟩) g.T.length g.T.length))),(13,.av x.2.2.2.1),(14,.av (.s (.slice (some ⟨b2,0,none⟩) g.T.length g.T.length)))],λ_=>[(5,zq g)],
  λx st'=>st'=x.2.2.2.2/\st'.obj b=some (.cells (il g.T.length x.1))/\st'.obj b2=some (.cells (bl g.T.length x.2.1))/\QF st' b b2 x.2.2.2.1 x.2.2.1/\SP (jl g (zo g l c s) c) goal x.1 (inQ x.2.2.1) Ds/\(∀u,x.2.1 u=true->u∈x.2.2.1)/\(∀u∈x.2.2.1,u<g.T.length/\0<=x.1 u)/\Fv g.T.length x.1/\x.2.2.1.length<=Hv g.T.length x.2.1+1,λx=>2*He g.T.length x.1+x.2.2.1.length⟩ zb ?_ ?_
 ·have hq0:∀S:Store,S.obj b3=some (.cells [int (goal:Nat)])->QF S b b2 (.s (.slice (some ⟨b3,0,none⟩) 1 1)) [goal]:=λS hS=>⟨b3,0,1,[int (goal:Nat)],rfl,hS,Fal 1,Fal 1,ψ,rfl,hb3,Ne.symm hb23⟩
  refine⟨(d0,λ_=>false,[goal],.s (.slice (some ⟨b3,0,none⟩) 1 1),_),Tv,⟨rfl,?_,zd _ _ _,hq0 _ ?_,hSP,λu hu=>Bool.noConfusion hu,λu hu=>?_,hcb,Nat.le_add_left 1 _⟩,⟨Tq,Tq,Tq,Tq,Tq,Tq,Tq,Tv⟩,⟨rfl,Tv⟩⟩
  ·simp_all[zj,Ne.symm,zd]
  ·rw[zj (Ne.symm hb23),zd];rfl
  grind
 clear hSP hcb hd0 hd00;rintro⟨d,M,q,v,S⟩ st' ⟨rfl,hob,hob2,hq,hSP,hq1,hq2,hcb,hql⟩;dsimp only at hob hob2 hq hSP hq1 hq2 hcb hql⊢;have hqn:q.length<=16385:=by have:=mc g.T.length M;omega
 cases q with
 |nil=>
  obtain⟨bq,f,cap,lq,rfl,ho,h3,h4,h5,h6,h7,h8⟩:=hq;have e:=zcf c1 (zur hSP (λu=>by unfold inQ;simp));exact ret (h b _ (by rw[e];exact hob) (λu=>by rw[e];have h1:=hSP.lab u;have h2:=M9 hcb u;exact⟨λhu=>o5 hSP c1 hu,θ,θ⟩))
 |cons t r=>
 obtain⟨bq,f,cap,lq,rfl,ho,h3,h4,h5,h6,h7,h8⟩:=hq;obtain⟨htn,hdt⟩:=hq2 t (Fbo ..);refine bcd (λc2=>⟨0,rfl,Nat.zero_lt_succ _,Qbs (za _ (ydp h6) ?_)⟩) (λc2=>absurd (show(0:Int)<((t::r).length:Nat) by grind) c2);refine⟨1,(t::r).length,rfl,rfl,φ,h4,?_⟩;have hv1:1<cap->QF st' b b2 (.s (.slice (some ⟨bq,f+1*1,none⟩) ((t::r).length-1) (cap-1))) r:=λhc=>⟨bq,f+1,cap-1,lq,rfl,ho,θ,δ,θ,ydn h6,h7,h8⟩
 have hv2:1=cap->QF st' b b2 (.s (.slice (some ⟨bq,f,none⟩) 0 0)) r:=λhc=>by have:r=[]:=δ;subst this;exact⟨bq,f,0,lq,rfl,ho,θ,Fal _,ψ,rfl,h7,h8⟩
 have hcap:1<cap\/1=cap:=δ;have hSP1:SP (jl g (zo g l c s) c) goal d (inQ r) (Cf g (zo g l c s) c t 0):=zft (bz (zuo hSP t) (λu hu=>by grind[z7,inQ_iff]) λu hu=>(hq2 u (Fba t (inQ_iff.1 hu))).2);have hok:=o5 hSP c1 hdt;have hM1:∀u,z7 M t false u=true->u∈r:=λu hu=>by grind[z7]
 have hr2:∀u∈r,u<g.T.length/\0<=d u:=λu hu=>hq2 u (Fba t hu);have hwl:r.length<=Hv g.T.length (z7 M t false)+1:=by grind[l9]
 have hob':=(zj (st:=st') (b:=b) (p:=b2) (x:=.cells (bl g.T.length (z7 M t false))) (Ne.symm hb2)).trans hob;have hbig:=λ(d:Nat->Int) (h:Fv g.T.length d)=>M9 h;rcases hcap with hcap|hcap;rotate_left;refine .inr ⟨hcap,?_⟩;have hQ:=(hv2 hcap).set2 (.cells (bl g.T.length (z7 M t false)));rotate_left;refine .inl ⟨hcap,?_⟩;have hQ:=(hv1 hcap).set2 (.cells (bl g.T.length (z7 M t false)))
 all_goals
  clear hv1 hv2;refine⟨t,rfl,htn,yu (i:=ti4) (v:=V.bool false) (b:=b2) (o:=0+t*1) (l:=bl g.T.length M) (st2:=st'.sO b2 (.cells (bl g.T.length (z7 M t false)))) rfl rfl rfl hob2 θd ?_ ?_⟩
  ·rw[lb _ _ _ _ htn]
  refine Oe g hg t htn _ _ ?_
  refine AWp.loop (σ:=Nat×(Nat->Int)×(Nat->Bool)×List Nat×AV×Store) ⟨λx=>[(1,.av (Dx g l c s)),(2,.av (int c)),(4,.av (int (-1))),(5,.bx 5 0),(11,.av (.s (.slice (some ⟨b,0,none⟩) g.T.length g.T.length))),(13,.av x.2.2.2.2.1),(14,.av (.s (.slice (some ⟨b2,0,none⟩) g.T.length g.T.length))),(15,.av (int (t:Nat))),(16,.av (y9 (jz g t))),(17,.av (int (x.1:Nat)))],λ_=>[(5,zq g)],
   λx st2=>x.1<=8/\st2=x.2.2.2.2.2/\st2.obj b=some (.cells (il g.T.length x.2.1))/\st2.obj b2=some (.cells (bl g.T.length x.2.2.1))/\QF st2 b b2 x.2.2.2.2.1 x.2.2.2.1/\SP (jl g (zo g l c s) c) goal x.2.1 (inQ x.2.2.2.1) (Cf g (zo g l c s) c t x.1)/\(∀u,x.2.2.1 u=true->u∈x.2.2.2.1)/\(∀u∈x.2.2.2.1,u<g.T.length/\0<=x.2.1 u)/\0<=x.2.1 t/\Fv g.T.length x.2.1/\x.2.2.2.1.length<=Hv g.T.length x.2.2.1+1/\2*He g.T.length x.2.1+x.2.2.2.1.length<=2*He g.T.length d+r.length,λx=>8-x.1⟩ zb ?_ ?_
  ·exact⟨(0,d,z7 M t false,r,_,_),Tv,⟨Fad _,rfl,hob',zd _ _ _,hQ,hSP1,hM1,hr2,hdt,hcb,hwl,Fal _⟩,⟨Tq,Tq,Tq,Tq,Tq,Tq,Tq,Tq,Tq,Tq,Tv⟩,⟨rfl,Tv⟩⟩
  clear hQ hSP1 hM1 hr2 hwl hob' hob hob2 hSP hq1 hq2 hcb hql hdt;rintro⟨i,e,M2,q,v,S2⟩ st2 ⟨hi,rfl,hob,hob2,hq,hSP,hq1,hq2,hdt,hcb,hql,hmu⟩;dsimp only at hi hob hob2 hq hSP hq1 hq2 hdt hcb hql hmu⊢;refine bcd (λc3=>?_) λc3=>?_;rotate_left
  ·have:i=8:=θ;subst this;refine⟨(e,M2,q,v,st2),?_,⟨rfl,hob,hob2,hq,zfu hSP,hq1,hq2,hcb,hql⟩,Qbn,⟨rfl,Tv⟩⟩;show 2*He g.T.length e+q.length<2*He g.T.length d+(t::r).length;simp only[Fbz];omega
  have hlt:i<8:=θ;refine rm hg hc t htn i hlt _ _ ?_;rw[show Rj g (zo g l c s) c t i=qj g (zo g l c s) c t i from if_pos hok];have hsb:=Rk g (zo g l c s) c t i;have hskip:=l4 hSP;have hedge:=zcs (g:=g) (ok:=zo g l c s) (c:=c) (t:=t) (way:=i) hok htn hlt;have hnote:=λ(u:Nat)=>zup M5 hSP (t:=t) (u:=u) (c:=qj g (zo g l c s) c t i) hdt;have hor:=I9 hg t hlt;have hfree:=λh=>Nv (g:=g) (ok:=zo g l c s) (c:=c) (t:=t) (w:=i) h;have hgo2:∀(e':Nat->Int) (M':Nat->Bool) (q':List Nat),SP (jl g (zo g l c s) c) goal e' (inQ q') (Cf g (zo g l c s) c t i)->(∀u:Nat,yj g t i=u->0<qj g (zo g l c s) c t i->0<=e' u/\e' u<=e' t+qj g (zo g l c s) c t i)->SP (jl g (zo g l c s) c) goal e' (inQ q') (Cf g (zo g l c s) c t (i+1)):=λe' M' q' h1 h2=>l4 h1 h2;have hget:=Ow (g:=g) (t:=t) hlt;have hbt:=hbig e hcb t;generalize qj g (zo g l c s) c t i=E at*;generalize yj g t i=U at*;refine zt (λd2=>?_) λd2=>?_
  ·exact Qd ⟨(i+1,e,M2,q,v,st2),(show 8-(i+1)<8-i by omega),⟨ζ,rfl,hob,hob2,hq,hskip λu _ h0=>absurd h0 θ,hq1,hq2,hdt,hcb,hql,hmu⟩,Qbn,⟨rfl,Tv⟩⟩
  have hE0:0<E:=θ;obtain⟨u,rfl,hul⟩:∃u:Nat,U=(u:Int)/\u<g.T.length:=by
   rcases hor with h1|h1
   ·exact absurd (hfree (Ix h1)) d2
   ·exact h1
  have hedge:=hedge hE0;rw[Fa0]at hedge;have hnote:=λh1 h2=>hnote u h1 hedge h2;refine⟨i,rfl,za _ hget (Qc zb zwo ⟨u,rfl,hul,Qbs (za _ (k9 hul) (bcd (λc4=>?_) λc4=>?_))⟩)⟩;rotate_left;have hl:e u<0\/e t+E<e u:=.inl θ;rotate_left;refine⟨u,rfl,hul,Qbs (za _ (k9 hul) ?_)⟩;refine⟨t,rfl,htn,Qbs (za _ (k9 htn) ?_)⟩;refine Qd (bcd (λc5=>?_) λc5=>?_)
  ·refine Qd ?_;exact⟨(i+1,e,M2,q,v,st2),(show 8-(i+1)<8-i by omega),⟨ζ,rfl,hob,hob2,hq,hskip (λu' hu' _=>by have:u=u':=θ;subst this;exact⟨c4,c5⟩),hq1,hq2,hdt,hcb,hql,hmu⟩,Qbn,⟨rfl,Tv⟩⟩
  have hl:e u<0\/e t+E<e u:=.inr θ
  all_goals
   have htu:t≠u:=λh=>by subst h;rcases hl with h|h<;>omega
   have hSPn:=hnote htu hl;have hcbn:=Vw hcb hul hdt ⟨hE0,hsb.2⟩ hl;have hlf:=ygi hcb hul hdt ⟨hE0,hsb.2⟩ hl;have hdtn:z7 e u (e t+E) t=e t:=jo htu;have hdun:z7 e u (e t+E) u=e t+E:=vl _ _ _;have hnn:∀x,0<=e x->0<=z7 e u (e t+E) x:=λx hx=>by
    unfold z7;split
    ·omega
    ·exact hx
   have hob3:(st2.sO b (.cells (il g.T.length (z7 e u (e t+E))))).obj b2=_:=(zj hb2).trans hob2;have hq3:=hq.set1 (.cells (il g.T.length (z7 e u (e t+E))));refine⟨t,rfl,htn,Qbs (za _ (k9 htn) ?_)⟩;refine Qd ?_;refine⟨u,rfl,hul,yu (i:=ti2) (v:=int (e t+E)) (b:=b) (o:=0+u*1) (l:=il g.T.length e) (st2:=st2.sO b (.cells (il g.T.length (z7 e u (e t+E))))) rfl rfl rfl hob θb ?_ ?_⟩
   ·rw[Hh _ _ _ _ hul]
   generalize hS3:st2.sO b (.cells (il g.T.length (z7 e u (e t+E))))=S3 at*;have hob1:S3.obj b=some (.cells (il g.T.length (z7 e u (e t+E)))):=by rw[<-hS3,zd]
   generalize hed:z7 e u (e t+E)=e2 at*;refine⟨u,rfl,hul,Qbs (za _ (V8 hul) (ye (zh (λc6=>?_) λc6=>?_)))⟩
   ·refine Qd ?_;have hmem:=hq1 u c6;refine⟨(i+1,e2,M2,q,v,S3),(show 8-(i+1)<8-i by omega),⟨ζ,rfl,hob1,hob3,hq3,hgo2 e2 (λ_=>true) _ (bz hSPn (λx hx=>?_) λx hx=>hnn x (hq2 x (inQ_iff.1 hx)).2) λu' hu' _=>?_,hq1,λx hx=>⟨(hq2 x hx).1,hnn x (hq2 x hx).2⟩,ζ,hcbn,hql,ζ⟩,Qbn,⟨rfl,Tv⟩⟩
    ·unfold z7 at hx;split at hx
     ·rename_i ex;subst ex;exact inQ_iff.2 hmem
     ·exact hx
    ·have:u=u':=θ;subst this;omega
   refine⟨u,rfl,hul,yu (i:=ti4) (v:=V.bool true) (b:=b2) (o:=0+u*1) (l:=bl g.T.length M2) (st2:=S3.sO b2 (.cells (bl g.T.length (z7 M2 u true)))) rfl rfl rfl hob3 θd ?_ ?_⟩
   ·rw[lb _ _ _ _ hul]
   refine⟨ψ,ydq (ie:=ti2) rfl rfl ψ (hq3.set2 (.cells (bl g.T.length (z7 M2 u true)))) (by have:=mc g.T.length M2;omega) ((zj (Ne.symm hb2)).trans hob1) (zd _ _ _) u λv2 S4 g1 g2 g3=>?_⟩;have hw:=l9 (n:=g.T.length) (W:=M2) hul true;rw[c6]at hw;refine Qd ⟨(i+1,e2,z7 M2 u true,q++[u],v2,S4),(show 8-(i+1)<8-i by omega),⟨ζ,rfl,g2,g3,g1,?_,λx hx=>?_,λx hx=>?_,ζ,hcbn,?_,?_⟩,Qbn,⟨rfl,Tv⟩⟩
   ·refine hgo2 e2 (λ_=>true) _ (bz hSPn (λx hx=>?_) λx hx=>?_) λu' hu' _=>?_
    ·rw[inQ_iff];unfold z7 at hx;split at hx
     ·rename_i ex;subst ex;simp
     ·exact Fdi _ (inQ_iff.1 hx)
    ·rcases Fat.1 (inQ_iff.1 hx)with h1|h1
     ·exact hnn x (hq2 x h1).2
     ·have:=Fc3.1 h1;subst this;omega
    ·have:u=u':=θ;subst this;omega
   ·unfold z7 at hx;dsimp only at hx;split at hx
    ·rename_i ex;subst ex;simp
    ·exact Fdi _ (hq1 x hx)
   ·rcases Fat.1 hx with h1|h1
    ·exact⟨(hq2 x h1).1,hnn x (hq2 x h1).2⟩
    ·have:=Fc3.1 h1;subst this;exact⟨hul,ζ⟩
   ·show(q++[u]).length<=Hv g.T.length (z7 M2 u true)+1;simp only[Fae,Fao];simp at hw;omega
   ·show 2*He g.T.length e2+(q++[u]).length<=_;simp only[Fae,Fao];omega
section
variable {g:Gnd} {c s:Int}
noncomputable def Gv(g:Gnd)(ok:Nat->Bool)(c:Int)(d:Nat->Int)(i t:Nat):Int:=if t<i then xc g ok c d t else 0
def zfq{ok:Nat->Bool}{d:Nat->Int}{i:Nat}:Gv g ok c d (i+1)=z7 (Gv g ok c d i) i (xc g ok c d i):=funext λt=>by
 unfold Gv z7;dsimp only;by_cases h:t=i
 ·subst h;rw[if_pos θ,if_pos rfl]
 ·rw[if_neg h];by_cases h2:t<i
  ·rw[if_pos h2,if_pos θ]
  ·rw[if_neg h2,if_neg θ]
theorem zf4{α:Type}(d:Nat->α)(u:Nat)(x y:α):z7 (z7 d u x) u y=z7 d u y:=funext λt=>by unfold z7;split<;>rfl
theorem yhd(g:Gnd)(ok:Nat->Bool)(c:Int)(d:Nat->Int)(n:Nat):il n (Gv g ok c d n)=il n (xc g ok c d):=Hj λt ht=>if_pos ht
def ycq(hg:zw g){l:List Bld}(hl:l.length<=1000000000000)(hb:∀b∈l,yi b/\onP g b)(hc:c=0\/c=1\/c=2)(hs:0<=s)(goal:Nat)(hgo:goal<g.T.length)(R:Ja)
  (h:∀b S,S.obj b=some (.cells (il g.T.length (xc g (zo g l c s) c (xu g (zo g l c s) c goal))))->R (.s (.slice (some ⟨b,0,none⟩) g.T.length g.T.length)) S):
  Jb 261 [.agg (zq g),lst 6 zi l,int c,int s,int (goal:Nat)] Store.empty R:=by
 have ha:=qg hg;have hT:g.T.length<=16384:=θ;refine Qy 92 Tryz.func261 ?_;refine cr g hg l hl hb c hc s hs _ _ (yb7 hg hc goal hgo _ λb S hob hF=>De rfl (it:=ti29) (ie:=ti2) rfl rfl rfl rfl rfl (n:=g.T.length) ?_ ?_ λb2 hf2=>?_)
 ·show 8*g.T.length<=_;omega
 ·omega
 have hbb:b2≠b:=λe=>by rw[e]at hf2;rw[hf2.1]at hob;cases hob
 generalize xu g (zo g l c s) c goal=D at*;have il0:List.replicate g.T.length (AV.s (.int .i64 0))=il g.T.length (Gv g (zo g l c s) c D 0):=(O7 _).trans (Hj λt _=>(if_neg (Fau t)).symm)
 refine AWp.loop (σ:=Nat) ⟨λi=>[(2,.av (int c)),(5,.bx 5 0),(11,.av (Dx g l c s)),(12,.av (.s (.slice (some ⟨b,0,none⟩) g.T.length g.T.length))),(13,.av (.s (.slice (some ⟨b2,0,none⟩) g.T.length g.T.length))),(14,.av (int (i:Nat)))],λ_=>[(5,zq g)],
  λi st'=>i<=g.T.length/\st'=S.sO b2 (.cells (il g.T.length (Gv g (zo g l c s) c D i))),λi=>g.T.length-i⟩ zb ?_ ?_
 ·exact⟨0,Tv,⟨Fad _,by rw[<-il0]⟩,Qbn,⟨rfl,Tv⟩⟩
 rintro i st' ⟨hi,rfl⟩;dsimp only at hi⊢;refine zh (λd1=>?_) λd1=>?_;rotate_left
 ·have:i=g.T.length:=by
   have:¬i<g.T.length:=by simpa using d1
   omega
  subst this;exact ret (h b2 _ (by rw[zd,yhd]))
 have hlt:i<g.T.length:=by simpa using d1
 have hobT:=λx=>(zj (st:=S) (b:=b) (p:=b2) (x:=x) (Ne.symm hbb)).trans hob;refine⟨i,rfl,hlt,yu (i:=ti2) (v:=int (-1)) (b:=b2) (o:=0+i*1) (l:=il g.T.length (Gv g (zo g l c s) c D i)) (st2:=S.sO b2 (.cells (il g.T.length (z7 (Gv g (zo g l c s) c D i) i (-1))))) rfl rfl rfl (zd _ _ _) θb ?_ ?_⟩
 ·rw[yy,Hh _ _ _ _ hlt]
 have hn:=zfq (g:=g) (ok:=zo g l c s) (c:=c) (d:=D) (i:=i);refine⟨i,rfl,hlt,zoo (hobT _) (za _ (k9 hlt) (bcd (λc1=>?_) λc1=>?_))⟩
 ·rw[l7 c1]at hn;exact Qd ⟨i+1,(show g.T.length-(i+1)<g.T.length-i by omega),⟨hlt,by rw[hn]⟩,Qbn,⟨rfl,Tv⟩⟩
 refine Oe g hg i hlt _ _ ?_;have hoki:=(hF i).1 θ;generalize Gv g (zo g l c s) c D i=B0 at*
 refine AWp.loop (σ:=Nat×Int) ⟨λx=>[(2,.av (int c)),(5,.bx 5 0),(11,.av (Dx g l c s)),(12,.av (.s (.slice (some ⟨b,0,none⟩) g.T.length g.T.length))),(13,.av (.s (.slice (some ⟨b2,0,none⟩) g.T.length g.T.length))),(14,.av (int (i:Nat))),(15,.av (y9 (jz g i))),(16,.av (int ((x.1:Nat)-1:Int)))],λ_=>[(5,zq g)],
  λx st'=>x.1<=8/\st'=S.sO b2 (.cells (il g.T.length (z7 B0 i x.2)))/\((x.2=-1/\∀w,x.1<=w->w<8->¬wh g (zo g l c s) c D i w)\/∃j:Nat,x.2=(j:Int)/\x.1<=j/\j<8/\wh g (zo g l c s) c D i j/\∀w,x.1<=w->w<j->¬wh g (zo g l c s) c D i w),λx=>x.1⟩ zb ?_ ?_
 ·exact⟨(8,-1),Tv,⟨Fal _,rfl,.inl ⟨rfl,λw h1 h2=>absurd h2 θ⟩⟩,Qbn,⟨rfl,Tv⟩⟩
 rintro⟨k,y⟩ st' ⟨hk,rfl,hy⟩;dsimp only at hk hy⊢;cases k with
 |zero=>
  have hyw:y=xc g (zo g l c s) c D i:=by
   rcases hy with⟨h1,h2⟩|⟨j,h1,_,h3,h4,h5⟩
   ·rw[h1,l6 c1 (λw hw=>h2 w (Fad _) hw)]
   ·rw[h1,l5 c1 h3 h4 (λw hw=>h5 w (Fad _) hw)]
  subst hyw;exact Qd ⟨i+1,(show g.T.length-(i+1)<g.T.length-i by omega),⟨hlt,by rw[hn]⟩,Qbn,⟨rfl,Tv⟩⟩
 |succ w=>
 have hw:w<8:=θ;rw[show(((w+1:Nat):Int)-1)=(w:Int) by omega];refine rm hg hc i hlt w hw _ _ ?_;rw[show Rj g (zo g l c s) c i w=qj g (zo g l c s) c i w from if_pos hoki];have hgo1:wh g (zo g l c s) c D i w↔(0<qj g (zo g l c s) c i w/\0<=D (yj g i w).toNat/\qj g (zo g l c s) c i w+D (yj g i w).toNat=D i):=Iff.rfl;have hno:¬wh g (zo g l c s) c D i w->((y=-1/\∀w',w<=w'->w'<8->¬wh g (zo g l c s) c D i w')\/∃j:Nat,y=(j:Int)/\w<=j/\j<8/\wh g (zo g l c s) c D i j/\∀w',w<=w'->w'<j->¬wh g (zo g l c s) c D i w'):=λhn0=>by
  have key:∀w',w<=w'->w'=w\/w+1<=w':=λw' h=>θ;rcases hy with⟨h1,h2⟩|⟨j,h1,h2,h3,h4,h5⟩
  ·exact .inl ⟨h1,λw' h3 h4=>(key w' h3).elim (λe=>e▸hn0) λh=>h2 w' h h4⟩
  ·exact .inr ⟨j,h1,θ,h3,h4,λw' h6 h7=>(key w' h6).elim (λe=>e▸hn0) λh=>h5 w' h h7⟩
 have hsb:=Rk g (zo g l c s) c i w;have hor:=I9 hg i hw;have hfree:=λh=>Nv (g:=g) (ok:=zo g l c s) (c:=c) (t:=i) (w:=w) h;have hget:=Ow (g:=g) (t:=i) hw;have hlast:wh g (zo g l c s) c D i w->(((w:Int)=-1/\∀w',w<=w'->w'<8->¬wh g (zo g l c s) c D i w')\/∃j:Nat,(w:Int)=(j:Int)/\w<=j/\j<8/\wh g (zo g l c s) c D i j/\∀w',w<=w'->w'<j->¬wh g (zo g l c s) c D i w'):=λhg1=>.inr ⟨w,rfl,Fal _,hw,hg1,λw' h1 h2=>absurd h2 θ⟩;generalize qj g (zo g l c s) c i w=E at*;generalize yj g i w=U at*;refine Qc zb zww (bcd (λc3=>?_) λc3=>?_);rotate_left
 ·exact Qd ⟨(w,y),Fct w,⟨ζ,rfl,hno λq=>c3 (hgo1.1 q).1⟩,Qbn,⟨rfl,Tv⟩⟩
 obtain⟨u,rfl,hul⟩:∃u:Nat,U=(u:Int)/\u<g.T.length:=by
  rcases hor with h1|h1
  ·exact absurd (hfree (Ix h1)) θ
  ·exact h1
 rw[Fa0]at hgo1;have hDu:=hF u;refine⟨w,rfl,za _ hget ⟨u,rfl,hul,zoo (hobT _) (za _ (k9 hul) (bcd (λc4=>?_) λc4=>?_))⟩⟩;rotate_left
 ·exact Qd ⟨(w,y),Fct w,⟨ζ,rfl,hno λq=>c4 (hgo1.1 q).2.1⟩,Qbn,⟨rfl,Tv⟩⟩
 refine⟨w,rfl,za _ hget ⟨u,rfl,hul,zoo (hobT _) (za _ (k9 hul) (Qd ⟨i,rfl,hlt,zoo (hobT _) (za _ (k9 hlt) (zt (λc5=>?_) λc5=>?_))⟩))⟩⟩;rotate_left
 ·exact Qd ⟨(w,y),Fct w,⟨ζ,rfl,hno (λq=>c5 (by have:=(hgo1.1 q).2.2;omega))⟩,Qbn,⟨rfl,Tv⟩⟩
 refine⟨i,rfl,hlt,yu (i:=ti2) (v:=int (w:Nat)) (b:=b2) (o:=0+i*1) (l:=il g.T.length (z7 B0 i y)) (st2:=S.sO b2 (.cells (il g.T.length (z7 B0 i (w:Int))))) rfl rfl rfl (zd _ _ _) θb ?_ ?_⟩
 ·rw[yy,Hh _ _ _ _ hlt,zf4]
 exact Qd ⟨(w,(w:Int)),Fct w,⟨ζ,rfl,hlast (hgo1.2 ⟨c3,c4,θ⟩)⟩,Qbn,⟨rfl,Tv⟩⟩
def ycp(hg:zw g){l:List Bld}(hl:l.length<=1000000000000)(hb:∀b∈l,yi b/\onP g b)(hc:c=0\/c=1\/c=2)(hs:0<=s)(goal:Nat)(hgo:goal<g.T.length)(st:Store)(R:Ja)
  (h:∀b N,N.obj b=some (.cells (il g.T.length (xc g (zo g l c s) c (xu g (zo g l c s) c goal))))->zk N st->R (.s (.slice (some ⟨b,0,none⟩) g.T.length g.T.length)) (N.un st)):
  Jb 261 [.agg (zq g),lst 6 zi l,int c,int s,int (goal:Nat)] st R:=by
 rw[<-xr st];exact ACalls.frame (λb hb=>(hb.elim (λh=>h rfl) (λh=>h rfl):False).elim) (ycq hg hl hb hc hs goal hgo (λr S=>∃b,r=.s (.slice (some ⟨b,0,none⟩) g.T.length g.T.length)/\S.obj b=some (.cells (il g.T.length (xc g (zo g l c s) c (xu g (zo g l c s) c goal))))) λb S hS=>⟨b,rfl,hS⟩) λr N ⟨b,e,hN⟩ hd=>by rw[e];exact h b N hN hd
end
def Hk(w:Wld)(u:Unt)(k:Nat):Vc:=(w.U.take k).foldl (λv x=>if x.inn=0/\x.id≠u.id then xn v (ky u.pos (z6 u.kind+z6 x.kind+16384) x.pos)else v) (0,0)
theorem zbc{w:Wld}{u:Unt}{k:Nat}(hk:k<w.U.length):Hk w u (k+1)=if w.U[k].inn=0/\w.U[k].id≠u.id then xn (Hk w u k) (ky u.pos (z6 u.kind+z6 w.U[k].kind+16384) w.U[k].pos)else Hk w u k:=by unfold Hk;rw[Fab hk,List.foldl_append];rfl
theorem yhk(w:Wld)(u:Unt):Hk w u w.U.length=Be w u:=by unfold Hk Be;rw[Fak]
def yhj{w:Wld}{u:Unt}:∀k,k<=w.U.length->(Hk w u k).ok:=by
 intro k;induction k with
 |zero=>
  intro _;have:Vc.ok (0,0):=⟨⟨ψ,ψ⟩,⟨ψ,ψ⟩⟩
  exact this
 |succ k ih=>
  intro hk;rw[zbc θ];split
  ·exact Wz _ _
  ·exact ih θ
def yc8(w:Wld)(hw:playW w){i:Nat}(hi:i<w.U.length)(h0:w.U[i].inn=0)(st:Store)(R:Ja)(h:R (.agg (zu (Be w w.U[i]))) st):Jb 182 [.agg (zp w),int (i:Nat)] st R:=by
 have f:=xh hw.1;have hU:=f.hU;have hkd:=λ(k:Nat) (hk:k<w.U.length)=>f.hk _ (Faa hk);have hne:∀(k:Nat) (hk:k<w.U.length),k≠i->w.U[k].id≠w.U[i].id:=λk hk hki=>by
  rcases Nat.lt_or_ge k i with g|g
  ·have:=Fa hw.1.1.2.1 g hi;omega
  ·have:=Fa hw.1.1.2.1 (show i<k by omega) hk;omega
 refine Qy 55 Tryz.func182 ?_;refine⟨i,rfl,za _ (zn hi) (Cn w.U[i].kind (hkd i hi) _ _ ?_)⟩
 refine AWp.loop (σ:=Nat) ⟨λk=>[(1,.av (int (i:Nat))),(2,.bx 2 0),(4,.bx 4 0),(5,.bx 5 0),(6,.av (int (z6 w.U[i].kind))),(7,.bx 7 0),(8,.av (int (k:Nat)))],λk=>[(2,zp w),(4,[int 0,int 0]),(5,zf w.U[i]),(7,zu (Hk w w.U[i] k))],
  λk st'=>k<=w.U.length/\st'=st,λk=>w.U.length-k⟩ zb ?_ ?_
 ·exact⟨0,Tv,⟨Fad _,rfl⟩,Qbn,⟨rfl,rfl,rfl,rfl,Tv⟩⟩
 rintro k st' ⟨hk,rfl⟩;dsimp only at hk⊢;refine zh (λd1=>?_) λd1=>?_;rotate_left
 ·have:k=w.U.length:=qw d1 hk;subst this;rw[yhk];exact ret h
 have hlt:k<w.U.length:=qn d1;have hnx:=zbc (u:=w.U[i]) hlt;have hok:=yhj (u:=w.U[i]) k hk;refine⟨k,rfl,za _ (zn hlt) (zt (λc1=>?_) λc1=>?_)⟩
 ·have:k=i:=θ;subst this;rw[if_neg (λq=>q.2 rfl)]at hnx;exact Qd ⟨k+1,(show w.U.length-(k+1)<w.U.length-k by omega),⟨hlt,rfl⟩,Qbn,⟨rfl,rfl,rfl,by(rw[hnx];rfl),Tv⟩⟩
 refine qd (λc2=>?_) λc2=>?_
 ·rw[if_neg (λq=>c2 q.1)]at hnx;exact Qd ⟨k+1,(show w.U.length-(k+1)<w.U.length-k by omega),⟨hlt,rfl⟩,Qbn,⟨rfl,rfl,rfl,by(rw[hnx];rfl),Tv⟩⟩
 rw[if_pos ⟨c2,hne k hlt θ⟩]at hnx;have r1:=Bm w.U[i].kind;have r2:=Bm w.U[k].kind;have m1:=Gj hw.1 (Faa hi) h0;have m2:=Gj hw.1 (Faa hlt) c2;have hpo:(ky w.U[i].pos (z6 w.U[i].kind+z6 w.U[k].kind+16384) w.U[k].pos).ok:=by have:=R9 m1 m2 (show 0<z6 w.U[i].kind+z6 w.U[k].kind+16384 by omega);exact⟨⟨θ,θ⟩,⟨θ,θ⟩⟩
 exact Qc zb zx0 ⟨ψ,⟨Cn w.U[k].kind (hkd k hlt) _ _ ⟨Qe,Qd (Qd ⟨yax w.U[i].pos (z6 w.U[i].kind+z6 w.U[k].kind+16384) w.U[k].pos m1 m2 θ _ _ ⟨Qe,⟨Ob (Hk w w.U[i] k) _ hok hpo _ _ ⟨Qe,Qbr (Qd ⟨k+1,(show w.U.length-(k+1)<w.U.length-k by omega),⟨hlt,rfl⟩,Qbn,⟨rfl,rfl,rfl,by(rw[hnx];rfl),Tv⟩⟩)⟩,Tv⟩⟩,Tv⟩)⟩,Tv⟩⟩
section
variable {S:Store} {v0 v:AV} {i:Nat}
def yly{l:List Unt}(hv0:RowsQ 10 zf S v0 l)(hl:l.length<=1000000)(R:Ja)(h:∀v N,RowsO 10 zf N v l->zk N S->R v (N.un S)):Jb 12 [v0] S R:=by
 obtain⟨oa,c0,rfl,hget⟩:=hv0.form;refine Qy 19 Tryz.func12 ?_;refine AWp.loop (σ:=Nat×AV×Store) ⟨λs=>[(0,.av (.s (.slice oa l.length c0))),(3,.av s.2.1),(4,.av (int s.1))],λ_=>[],λs st'=>s.1<=l.length/\st'=s.2.2.un S/\zk s.2.2 S/\RowsO 10 zf s.2.2 s.2.1 (l.take s.1),λs=>l.length-s.1⟩ zb ?_ ?_
 ·exact⟨(0,_,Store.empty),Tv,⟨Fad _,(xr S).symm,Dd S,.inl ⟨rfl,rfl⟩⟩,⟨Tq,Tq,Tq,Tv⟩,Tv⟩
 ·rintro⟨i,v,N⟩ st' ⟨hi,rfl,hd,ha⟩;dsimp only at hi ha hd⊢;refine zh (λh1=>?_) λh1=>?_
  ·have hlt:i<l.length:=by simpa using h1
   obtain⟨b,J,rfl,ho⟩:=hget i hlt;refine⟨i,rfl,hlt,zoo (zg ho) (yq (i:=ti36) (row:=zf l[i]) rfl rfl (xt yn hlt) ⟨ψ,Ni (ie:=ti36) rfl (λ_=>rfl) ψ (ha.unL hd) l[i] rfl θe λb2 cap L q1 q2 q3 q4=>?_⟩)⟩;have hnb:¬S.has b2:=by
    rcases q1 with q1|⟨c1,q1⟩
    ·exact fresh_iff.1 (fresh_un q1).2
    ·subst q1;rcases ha with⟨e,_⟩|⟨b3,c3,L3,e,e2,_⟩
     ·cases e
     ·cases e;exact hd _ (xf e2)
   rw[Al hnb];refine⟨⟨θ,θ⟩,⟨(i+1,_,_),?_,⟨hlt,rfl,Bq hd hnb,?_⟩,⟨Tq,Tq,Tq,Tv⟩,Tv⟩⟩
   ·show l.length-(i+1)<l.length-i;omega
   ·dsimp only;rw[Fab hlt];exact .inr ⟨b2,cap,L,rfl,zd _ _ _,q2,q3,q4⟩
  ·have hge:i=l.length:=by
    have:¬i<l.length:=θz;omega
   subst hge;rw[Fak]at ha;exact ret (h _ _ ha hd)
def ylu{w:Wld}(hv0:RowsQ 10 zf S v0 w.U)(hw:w.fits)(hU:w.U.length<=1000000)(R:Ja)(h:∀v N,RowsO 10 zf N v w.U->zk N S->R (.agg (zz w v)) (N.un S)):Jb 13 [.agg (zz w v0)] S R:=by
 have hv2:=hv0;obtain⟨oa,c0,rfl,_⟩:=hv2.form;refine Qy 18 Tryz.func13 ?_;refine io w.G hw.1 _ _ (ip w.B hw.2.1 _ _ (yly hv0 hU _ λv N hv hd=>?_));have hv2:=hv;rcases hv2 with⟨rfl,_⟩|⟨b,cap,L,rfl,_⟩
 ·exact ret (h _ N hv hd)
 ·exact ret (h _ N hv hd)
def yck{w:World}{T:BB}{x y z t:AV}{vs:List Value}(h:Reads w T [x,y,z,t] vs):∃a b c d,vs=[a,b,c,d]/\VRel w T x a/\VRel w T y b/\VRel w T z c/\VRel w T t d:=by
 obtain⟨h1,h2⟩:=h
 match vs,h1,h2 with
 |[a,b,c,d],_,h2=>exact⟨a,b,c,d,rfl,h2 0 _ _ rfl rfl,h2 1 _ _ rfl rfl,h2 2 _ _ rfl rfl,h2 3 _ _ rfl rfl⟩
def yaz{w:Wld}(hv:RowsQ 10 zf S v w.U)(hw:playW w)(id k:Int)(hk:kr k)(q:Vc)(hq:q.ok)(R:Ja)
  (h:∀z:Bool,(z=true↔qh w id k q)->R (V.bool z) S):Jb 58 [.agg (zz w v),int id,int k,.agg (zu q)] S R:=
 ACalls.read (ys:=[.agg (zp w),int id,int k,.agg (zu q)]) (Q:=λr=>∃z:Bool,r=V.bool z/\(z=true↔qh w id k q)) (λOth M W vs sto hr=>by obtain⟨a,b,c,d,rfl,h1,h2,h3,h4⟩:=yck hr;exact Reads.cons (Dh hv sto h1) (Reads.cons (qv h2) (Reads.cons (qv h3) (Reads.cons (qv h4) Reads.nil)))) (ya0 w hw id k hk q hq _ _ λz hz=>⟨z,rfl,hz⟩) (λr ⟨z,e,_⟩=>e▸Cu _) λr ⟨z,e,hz⟩=>e▸h z hz
def sc{w:Wld}(hv:RowsQ 10 zf S v w.U)(hw:playW w){i:Nat}(hi:i<w.U.length)(id:Int)(hid:w.U[i].id=id)(R:Ja)(h:R (int (i:Nat)) S):Jb 48 [.agg (zz w v),int id] S R:=
 ACalls.read (ys:=[.agg (zp w),int id]) (Q:=λr=>r=int (i:Nat)) (λOth M W vs sto hr=>θ7) (yb5 w hw hi id hid _ _ rfl) (λr hr=>hr▸Cu _) λr hr=>hr▸h
def yap{w:Wld}(hv:RowsQ 10 zf S v w.U)(hw:playW w)(hi:i<w.U.length)(h0:w.U[i].inn=0)(d:Vc)(hd:d.ok)(R:Ja)
  (h:∀v2 N,RowsQ 10 zf (N.un S) v2 (xk w w.U[i] d).U->zk N S->R (.tup [.agg (zz (xk w w.U[i] d) v2),int (Am w w.U[i] d)]) (N.un S)):
  Jb 21 [.agg (zz w v),int w.U[i].id,.agg (zu d)] S R:=by
 have f:=xh hw.1;have hU:=f.hU;have hnd:=mn hd;have hhalf:=λk=>zbj hnd k;have t0:Ko w w.U[i] (qu d) 0:=rfl;have hnone:=λ(e:qk w w.U[i] (qu d) 5 0=none)=>Rb e;have hsome:=λk p (e:qk w w.U[i] (qu d) 5 0=some (k,p))=>W7 e;have hkk:=f.hk _ (Faa hi);have hpk:=hw.2 _ (Faa hi);obtain⟨oa,c0,ev,hget⟩:=hv.form;obtain⟨b,J,rfl,ho⟩:=hget i hi;subst ev;have hsame:qk w w.U[i] (qu d) 5 0=none->R (.tup [.agg (zz w (.s (.slice (some ⟨b,0,none⟩) w.U.length c0))),int 5]) S:=λe=>by obtain⟨e1,e2⟩:=hnone e;have:=h (.s (.slice (some ⟨b,0,none⟩) w.U.length c0)) Store.empty (by rw[xr,e2];exact hv) (Dd S);rw[xr,e1,e2]at this;exact this
 refine Qy 74 Tryz.func21 ?_;refine sc hv hw hi w.U[i].id rfl _ ?_;refine⟨i,rfl,hi,Qbs (yq (i:=ti36) (row:=zf w.U[i]) rfl rfl (xt yn hi) ?_)⟩;refine Qc zb zxq ?_;refine⟨F9 d.1 _ _ ⟨Qe,⟨F9 d.2 _ _ ⟨Qe,Qbr ?_⟩,Tv⟩⟩,Tv⟩;have hT:=hw.1.1.2.1;have hR:∀k p,qk w w.U[i] (qu d) 5 0=some (k,p)->∀v2 N,RowsQ 10 zf (N.un S) v2 (w.U.set i {w.U[i]with pos:=p})->zk N S->R (.tup [.agg (zz w v2),int (k:Int)]) (N.un S):=λk p e v2 N h1 h2=>by obtain⟨e1,e2⟩:=hsome k p e;have e3:=Bl (w:=w) hT hi (u:={w.U[i]with pos:=p}) rfl;rw[e3]at e2;have:=h v2 N (by rw[e2];exact h1) h2;rw[e1,e2]at this;exact this
 clear h hsome hnone;have hhv:∀k,vd (qu d) k=((qu d).1.tdiv ((2^k:Nat):Int),(qu d).2.tdiv ((2^k:Nat):Int)):=λk=>rfl
 refine AWp.loop (σ:=Nat) ⟨λk=>[(1,.av (int w.U[i].id)),(3,.bx 3 0),(5,.bx 5 0),(6,.bx 6 0),(8,.av (int (i:Nat))),(9,.bx 9 0),(10,.av (int (k:Nat)))],λ_=>[(3,zz w (.s (.slice (some ⟨b,0,none⟩) w.U.length c0))),(5,zu (qu d)),(6,Cx),(9,zf w.U[i])],
  λk st'=>k<=5/\Ko w w.U[i] (qu d) k/\st'=S,λk=>5-k⟩ zb ?_ ?_
 ·exact⟨0,Tv,⟨Fad _,t0,rfl⟩,Qbn,⟨rfl,rfl,rfl,rfl,Tv⟩⟩
 rintro k st' ⟨hk,htk,rfl⟩;dsimp only at hk htk⊢;generalize qu d=nd at*;refine bcd (λc1=>?_) λc1=>?_;rotate_left
 ·exact ret (hsame (nu htk (λhq=>absurd hq θ) hk))
 have hk5:k<5:=θ;have hsh:=po hk5;have hkv:=hhv k;have hh:=hhalf k;have hp2:((2^k:Nat):Int)≠0:=by have:0<2^k:=Nat.pow_pos ψ;omega
 rw[<-hsh]at hkv hp2;have hh1:ym (nd.1.tdiv (IntKind.i64.wrap (1*2^(min ((k:Int)).toNat IntKind.i64.bits)))):=ψ2;have hh2:ym (nd.2.tdiv (IntKind.i64.wrap (1*2^(min ((k:Int)).toNat IntKind.i64.bits)))):=ψ3;have nx:=zgy htk hk5;have sm:=zgx htk hk5;have no:=nu htk;refine Qc zb zxp ⟨θ,⟨hp2,ze hh1 ⟨θ,⟨hp2,ze hh2 ⟨⟨?_,?_⟩,Tv⟩⟩⟩⟩⟩
 ·repeat(first|exact Tv|refine⟨rfl,?_⟩|refine⟨⟨θ,rfl⟩,?_⟩|refine⟨⟨hp2,ze hh1 rfl⟩,?_⟩|refine⟨⟨hp2,ze hh2 rfl⟩,?_⟩)
 refine Qbr ?_;rw[hkv]at nx sm no hh;generalize nd.1.tdiv (IntKind.i64.wrap (1*2^(min ((k:Int)).toNat IntKind.i64.bits)))=x at*;generalize nd.2.tdiv (IntKind.i64.wrap (1*2^(min ((k:Int)).toNat IntKind.i64.bits)))=y at*;refine zt (λc2=>?_) λc2=>?_;refine zt (λc3=>?_) λc3=>?_
 ·exact ret (hsame (no (λ_=>by rw[c2,c3]) hk))
 have hne:(x,y)≠((0:Int),(0:Int)):=λe=>c3 (congrArg (λv:Vc=>v.2) e);rotate_left;have hne:(x,y)≠((0:Int),(0:Int)):=λe=>c2 (congrArg (λv:Vc=>v.1) e)
 all_goals
  refine Ob w.U[i].pos (x,y) hpk (Sg hh) _ _ ?_;have nx:=nx hne;have sm:=sm hne;have hnp:=Wz w.U[i].pos (x,y);generalize xn w.U[i].pos (x,y)=np at*;refine yaz hv hw w.U[i].id w.U[i].kind hkk np hnp _ λz hz=>zh (λc4=>?_) λc4=>?_;rotate_left
  ·exact Qd ⟨k+1,(show 5-(k+1)<5-k by omega),⟨θ,nx (λhc=>by rw[hz.2 hc]at c4;cases c4),rfl⟩,Qbn,⟨rfl,rfl,rfl,rfl,Tv⟩⟩
  have hRk:=hR _ _ (sm (hz.1 c4));refine ylu hv (xh hw.1).fits θ _ λv2 N hv2 hd2=>?_;rcases hv2 with⟨_,e⟩|⟨b2,cap,L,rfl,ho2,g1,g2,g3⟩
  ·rw[e]at hi;exact absurd hi (Fau i)
  have hnb:¬st'.has b2:=hd2 _ (xf ho2);have hlen:0+i*10+3+2<=((rws zf w.U).flatten++L).length:=by rw[Fae,qr yn];omega
  have hrow:=ya2 (g:=N) (b:=b2) (L:=L) g1 g2 g3 hi (j:=3) (ys:=zu np) (show 3+2<=10 by decide) (u':={w.U[i]with pos:=np}) rfl;refine⟨i,rfl,hi,jq (i:=ti33) (v:=.agg (zu np)) (xs:=zu np) (b:=b2) (o:=0+i*10+3) (l:=(rws zf w.U).flatten++L) rfl rfl rfl (yg hd2 ho2) hlen ?_⟩;rw[Al hnb];exact ret (hRk _ _ (RowsO.q (hrow.unL (Bq hd2 hnb))) (Bq hd2 hnb))
end
def sn{S:Store}{w:Wld}{v:AV}(hv:RowsQ 10 zf S v w.U)(hw:playW w){i:Nat}(hi:i<w.U.length)(h0:w.U[i].inn=0)(R:Ja)(h:R (.agg (zu (Be w w.U[i]))) S):Jb 182 [.agg (zz w v),int (i:Nat)] S R:=
 ACalls.read (ys:=[.agg (zp w),int (i:Nat)]) (Q:=λr=>r=.agg (zu (Be w w.U[i]))) (λOth M W vs sto hr=>θ7) (yc8 w hw hi h0 _ _ rfl) (λr hr=>hr▸yjg [.int .i64 _,.int .i64 _]) λr hr=>hr▸h
def Qam{p:Prop}(h:p:=by rw[Fbm];rfl):p:=h
def F8{l:List Unt}{L:List AV}{i j:Nat}(hi:i<l.length)(hj:j+1<=10){y:AV}{u':Unt}(hu:zf u'=zv (zf l[i]) j [y]):zv ((rws zf l).flatten++L) (0+i*10+j) [y]=(rws zf (l.set i u')).flatten++L:=by rw[Fbg];exact Gz yn hi hj hu
def G7{l:List Unt}{L:List AV}{i j:Nat}(hi:i<l.length)(hj:j+1<=10):0+i*10+j+1<=((rws zf l).flatten++L).length:=by rw[Fae,qr yn];omega
def cz{S:Store}{b i:Nat}{l:List Unt}{L:List AV}(ho:S.obj b=some (.cells ((rws zf l).flatten++L)))(hi:i<l.length)(s:Int)(R:Ja)
  (h:R (.tup []) (S.sO b (.cells ((rws zf (l.set i (j4 s l[i]))).flatten++L)))):
  Jb 183 [.s (.pointer (some ⟨b,0+i*10,none⟩)),int s] S R:=by
 have e1:=F8 (L:=L) hi (j:=5) ψ (y:=int (-1)) (u':={l[i]with goal:=-1}) rfl;have hi1:i<(l.set i {l[i]with goal:=-1}).length:=θh;have e2:=F8 (L:=L) hi1 (j:=6) ψ (y:=int (-1)) (u':={l[i]with goal:=-1,next:=-1}) Qam;rw[Fbr]at e2;have hi2:i<(l.set i {l[i]with goal:=-1,next:=-1}).length:=θh;have e3:=F8 (L:=L) hi2 (j:=7) ψ (y:=int 0) (u':={l[i]with goal:=-1,next:=-1,stuck:=0}) Qam;rw[Fbr]at e3;have hi3:i<(l.set i {l[i]with goal:=-1,next:=-1,stuck:=0}).length:=θh;have e4:=F8 (L:=L) hi3 (j:=9) ψ (y:=int s) (u':=j4 s l[i]) Qam;rw[Fbr]at e4;refine Qy 17 Tryz.func183 ?_;exact yu (i:=ti2) (v:=int (-1)) (b:=b) (o:=0+i*10+5) (l:=(rws zf l).flatten++L) (st2:=S.sO b (.cells ((rws zf (l.set i {l[i]with goal:=-1})).flatten++L))) rfl rfl rfl ho (G7 hi ψ) (by rw[e1]) (yu (i:=ti2) (v:=int (-1)) (b:=b) (o:=0+i*10+6) (l:=_) (st2:=S.sO b (.cells ((rws zf (l.set i {l[i]with goal:=-1,next:=-1})).flatten++L))) rfl rfl rfl (zd _ _ _) (G7 hi1 ψ) (by rw[e2,yy]) (yu (i:=ti2) (v:=int 0) (b:=b) (o:=0+i*10+7) (l:=_) (st2:=S.sO b (.cells ((rws zf (l.set i {l[i]with goal:=-1,next:=-1,stuck:=0})).flatten++L))) rfl rfl rfl (zd _ _ _) (G7 hi2 ψ) (by rw[e3,yy]) (yu (i:=ti2) (v:=int s) (b:=b) (o:=0+i*10+9) (l:=_) (st2:=S.sO b (.cells ((rws zf (l.set i (j4 s l[i]))).flatten++L))) rfl rfl rfl (zd _ _ _) (G7 hi3 ψ) (by rw[e4,yy]) (ret h))))
def Cs{U:List Unt}{J:List AV}{i j:Nat}(hi:i<U.length)(hj:j<10){y:AV}(hy:(zf U[i])[j]?=some y):(((rws zf U).flatten++J).drop (0+i*10+j)).head?=some y:=ψ4
def Ib{U:List Unt}{J:List AV}{i:Nat}(hi:i<U.length):List.drop (0+i*10+3) ((rws zf U).flatten++J)=zu U[i].pos++(List.drop 5 (zf U[i])++((rws zf (U.drop (i+1))).flatten++J)):=by rw[<-Fdk,xt (f:=zf) (k:=10) yn hi];rfl
def yby(l:List Int)(hl:l.length<=1000000000000)(n:Int)(st:Store)(R:Ja)(h:∀z:Int,(z<0↔l.contains n=false)->R (int z) st):Jb 186 [y9 l,int n] st R:=by
 refine Qy 19 Tryz.func186 ?_;refine AWp.loop (σ:=Nat) ⟨λi=>[(0,.av (y9 l)),(1,.av (int n)),(5,.av (int (i:Nat)))],λ_=>[],λi st'=>st'=st/\i<=l.length/\∀j (hj:j<i) (hl:j<l.length),n≠l[j],λi=>l.length-i⟩ zb ?_ ?_
 ·exact⟨0,Tv,⟨rfl,Fad _,λj hj=>θ⟩,Qbn,Tv⟩
 rintro i st' ⟨rfl,hi,hno⟩;refine zh (λh1=>?_) λh1=>?_
 ·have hlt:i<l.length:=qn h1;refine⟨i,rfl,za _ (zn hlt) (zt (λh2=>?_) λh2=>?_)⟩
  ·refine ret (h _ ?_);have hc:l.contains n=true:=by
    rw[List.contains_iff_mem];have h2:l[i]=n:=h2;exact h2▸Faa hlt
   rw[hc];constructor
   ·intro hh;omega
   ·intro hh;cases hh
  ·refine⟨⟨θ,θ⟩,⟨i+1,?_,⟨rfl,hlt,λj hj hl=>?_⟩,Qbn,Tv⟩⟩
   ·show l.length-(i+1)<l.length-i;omega
   ·by_cases hji:j=i
    ·subst hji;exact λe=>h2 e.symm
    ·exact hno j θ hl
 ·have hge:i=l.length:=qw h1 hi;subst hge;refine ret (h (-1) ⟨λ_=>?_,λ_=>ψ⟩);rw[<-Bool.not_eq_true,List.contains_iff_mem];intro hm;obtain⟨j,hj,e⟩:=Fai hm;exact hno j hj hj e.symm
end Go.Proofs
namespace Go.Proofs
open Go Go.V
set_option maxRecDepth 20000
set_option maxHeartbeats 4000000
def yfq{Nu N:Store}{w:Wld}{v:AV}(hu:RowsQ 10 zf Nu v w.U)(hp:playW w)(hd:zk Nu N){fb:Nat}{room:Int}{k:Nat}(hF:FldAny fb room (k:Nat) N)(hk:k<=1000000000000000000)(R:Ja)
  (h:∀X N',RowsQ 10 zf X v (ki w).U->zk X N'->FldAny fb room ((k+w.U.length:Nat):Int) N'->R (.agg (zz (ki w) v)) (X.un N')):Jb 71 [.agg (zz w v),ptr fb] (Nu.un N) R:=by
 have hm:=xh hp.1;have hU:=hm.hU;obtain⟨oa,cap,ev,hget⟩:=hu.form;subst ev;refine Qa (c:=cfg 45 [13] []) zb Tryz.func71 ?_;refine ACalls.frame hd (tt w _ Nu hu θ hp.2 (λr S=>∃F s p L o0 o1 o2,r=ptr s/\S=F.un (svS Nu s w (.s (.slice oa w.U.length cap)) o0 o1 o2 p)/\Fresh Nu s/\StandR F Nu s p w (.s (.slice oa w.U.length cap)) L o0 o1 o2/\L.length<=w.U.length/\(yr w.U->∀e,e∈L↔∃u∈w.U,u.inn=0/\e=(u.id,u.pos))) λF s p L o0 o1 o2 h1 h2 h3 h4=>⟨F,s,p,L,o0,o1,o2,rfl,rfl,h1,h2,h3,h4⟩) ?_;rintro r S ⟨F,s,p,L,o0,o1,o2,rfl,rfl,hs,hS,hLl,hmem⟩ hd1;refine yog rfl (it:=ti131) rfl rfl ?_;intro mb hmb;have hmbF:=fresh_un hmb;have hnF:¬F.has mb/\¬(svS Nu s w (.s (.slice oa w.U.length cap)) o0 o1 o2 p).has mb:=by have:=fresh_iff.1 hmbF.1;exact⟨λhh=>this (un_has.2 (.inl hh)),λhh=>this (un_has.2 (.inr hh))⟩
 have hmN2:¬N.has mb:=fresh_iff.1 hmbF.2;have hms:mb≠s:=λe=>hnF.2 (svS_has.2 (.inl e));have hmN:¬Nu.has mb:=λhh=>hnF.2 (svS_has.2 (.inr hh));have hmN0:Nu.obj mb=none:=(k8 hmN).1;have omb:xz (.s (.slice oa w.U.length cap)) mb:=Cp hu hmN0;have oms:xz (.s (.slice oa w.U.length cap)) s:=Cp hu hS.hs;have e0:((F.un (svS Nu s w (.s (.slice oa w.U.length cap)) o0 o1 o2 p)).un N).sO mb (AObj.cells [AV.s (Value.pointer (some {block:=s,off:=0})),AV.s (Value.iface 131 (Value.pointer (some {block:=fb,off:=0})))])=(F.un (svS (Nu.sO mb (.cells [ptr s,Pc fb])) s w (.s (.slice oa w.U.length cap)) o0 o1 o2 p)).un N:=by rw[Al hmN2,yd];unfold svS;rw[F7 hms];rfl
 have hW:MoverG (Pc fb) F (Nu.sO mb (.cells [ptr s,Pc fb])) mb s p w (.s (.slice oa w.U.length cap)) L o0 o1 o2:=
  ⟨⟨hS.hc,λi h1 h2=>by
    rcases svS_has.1 h2 with h2|h2
    ·exact hS.hd i h1 (svS_has.2 (.inl h2))
    ·rcases has_setObj_iff.1 h2 with h2|h2
     ·subst h2;exact hnF.1 h1
     ·exact hS.hd i h1 (svS_has.2 (.inr h2)),by rw[zj (Ne.symm hms)];exact hS.hs,hu.set omb _,hS.h0,hS.h1,hS.h2⟩,zd _ _ _,omb,oms,hLl,hmem hp.1.1.2.1⟩
 have hd2:zk (F.un (svS (Nu.sO mb (.cells [ptr s,Pc fb])) s w (.s (.slice oa w.U.length cap)) o0 o1 o2 p)) N:=λi h1 h2=>by
  rcases un_has.1 h1 with h1|h1
  ·exact hd1 i (un_has.2 (.inl h1)) h2
  ·rcases svS_has.1 h1 with h1|h1
   ·exact hd1 i (un_has.2 (.inr (svS_has.2 (.inl h1)))) h2
   ·rcases has_setObj_iff.1 h1 with h1|h1
    ·subst h1;exact hmN2 h2
    ·exact hd1 i (un_has.2 (.inr (svS_has.2 (.inr h1)))) h2
 rw[e0];clear e0 hmbF hmb hnF hd1 hS hs hLl hmem
 refine AWp.loop (σ:=Nat) ⟨λi=>[(5,.av (ptr mb)),(16,.av (int (w.U.length:Nat))),(17,.av (int (i:Nat))),(4,.bx 4 0)],λ_=>[(4,Cx)],
  λi S=>i<=w.U.length/\∃F G L q0 q1 q2 n N,S=(F.un (svS G s (goN w i) (.s (.slice oa w.U.length cap)) q0 q1 q2 p)).un N/\MoverG (Pc fb) F G mb s p (goN w i) (.s (.slice oa w.U.length cap)) L q0 q1 q2/\zk (F.un (svS G s (goN w i) (.s (.slice oa w.U.length cap)) q0 q1 q2 p)) N/\FldAny fb room ((k+n:Nat):Int) N/\n<=i,λi=>w.U.length-i⟩ zb ?_ ?_
 ·exact⟨0,Tv,⟨Fad _,F,_,L,o0,o1,o2,0,N,rfl,hW,hd2,hF,Fal _⟩,⟨Tq,Tq,Tq,Tq,Tv⟩,⟨rfl,Tv⟩⟩
 clear hW hd2 hF hd hmN2 hmN hmN0 hms omb oms hu hget;rintro i S ⟨hi,F1,G1,L1,q0,q1,q2,n,N1,rfl,hW,hd1,hF,hn⟩;obtain⟨hpi,hli,_,_⟩:=Pa hp i;have hmi:=xh hpi.1;refine bcd (λh1=>?_) λh1=>?_
 ·have hlt:i<w.U.length:=θ;have hil:i<(goN w i).U.length:=θ;obtain⟨oa2,cap2,ev2,hget2⟩:=hW.S.hu.form;obtain⟨b,J,hoa,hob0⟩:=hget2 i hil;have hoa3:oa=some ⟨b,0,none⟩:=by
   simp only[AV.s.injEq,Value.slice.injEq]at ev2;rw[ev2.1,hoa]
  subst hoa3;have hbs:b≠s:=λe=>by rw[e,hW.S.hs]at hob0;cases hob0
  have hob:((F1.un (svS G1 s (goN w i) (.s (.slice (some ⟨b,0,none⟩) w.U.length cap)) q0 q1 q2 p)).un N1).obj b=some (.cells ((rws zf (goN w i).U).flatten++J)):=yg hd1 (zg (by show(G1.sO s _).obj b=_;rw[zj hbs];exact hob0));refine zoo (yg hd1 hW.m) (zoo (yg hd1 hW.s) ⟨i,rfl,hlt,zoo hob (yq (i:=ti36) (row:=zf (goN w i).U[i]) rfl rfl (xt yn hil) (zt (λc1=>?_) λc1=>?_))⟩)
  ·have hg:=zbq hil c1;refine zge (yht hmi fb room k (n+1) θ) (Fct n) hW hd1 hF hpi.1 hpi.2 hil c1 _ (λF2 G2 L2 a0 a1 a2 n2 N2 hn2 hW2 hd2 hF2=>Qd ⟨i+1,(show w.U.length-(i+1)<w.U.length-i by omega),⟨hlt,F2,G2,L2,a0,a1,a2,n2,N2,?_,?_,?_,hF2,θ⟩,Qbn,⟨rfl,Tv⟩⟩)
   ·rw[hg]
   ·rw[hg];exact hW2
   ·rw[hg];exact hd2
  ·have hg:=zbp hil c1;refine Qd ⟨i+1,(show w.U.length-(i+1)<w.U.length-i by omega),⟨hlt,F1,G1,L1,q0,q1,q2,n,N1,?_,?_,?_,hF,θ⟩,Qbn,⟨rfl,Tv⟩⟩
   ·rw[hg]
   ·rw[hg];exact hW
   ·rw[hg];exact hd1
 ·have:i=w.U.length:=θ;subst this;obtain⟨oa2,cap2,ev2,_⟩:=hW.S.hu.form;exact zoo (yg hd1 hW.m) (zoo (yg hd1 hW.s) (ret (h _ _ (H2 hW.S.hs hW.S.hu).un hd1 (hF.mono θ))))
def Ii(g:Gnd)(n:Int):Wld:=⟨0,n,1,g,[],[]⟩
def Dt(g:Gnd)(n:Int):Prop:=zw g/\1<=n/\n<=8
def zff{G:Store}{g:Gnd}{v:AV}(n:Int)(hn:ym n)
  (hMay:∀R:AV->Store->Prop,(∀b:Bool,(b=true↔zw g)->R (V.bool b) G)->Jb 104 [.agg [int g.W,int g.H,v]] G R)
  (hOwn:∀R:AV->Store->Prop,(∀vT N,RowsQ 1 u8C N vT g.T->zk N G->R (.agg [int g.W,int g.H,vT]) (N.un G))->Jb 101 [.agg [int g.W,int g.H,v]] G R):
  Jb 66 [.agg [int g.W,int g.H,v],int n] G λr S=>(¬Dt g n/\r=.tup [.agg Cx,int 1]/\S=G)∨
   (Dt g n/\∃vT N,RowsQ 1 u8C N vT g.T/\zk N G/\r=.tup [.agg [int 0,int n,int 1,int g.W,int g.H,vT,nil,nil],int 0]/\S=N.un G):=by
 refine Qy 22 Tryz.func66 ?_;refine hMay _ λz hz=>?_
 have bad:¬Dt g n->(¬Dt g n/\(.tup [.agg Cx,int 1]:AV)=.tup [.agg Cx,int 1]/\G=G)∨
   (Dt g n/\∃vT N,RowsQ 1 u8C N vT g.T/\zk N G/\(.tup [.agg Cx,int 1]:AV)=.tup [.agg [int 0,int n,int 1,int g.W,int g.H,vT,nil,nil],int 0]/\G=N.un G):=λh=>.inl ⟨h,rfl,rfl⟩
 refine ye (zh (λc1=>?_) λc1=>?_);rotate_left
 ·exact ret (bad λhh=>ψs)
 refine bcd (λc2=>?_) λc2=>?_
 ·exact ret (bad λhh=>by have:=hh.2;omega)
 refine bcd (λc3=>?_) λc3=>?_
 ·exact ret (bad λhh=>by have:=hh.2;omega)
 refine hOwn _ λvT N hv hd=>?_;have hform:=hv.form;obtain⟨oa,cap,rfl,_⟩:=hform;exact ret (.inr ⟨⟨hz.1 c1,θ,θ⟩,_,N,hv,hd,rfl,rfl⟩)
def zfe(g:Gnd)(hg:g.fits)(hT:g.T.length<=1000000000)(n:Int)(hn:ym n)(st:Store)(R:Ja)
  (hbad:¬Dt g n->R (.tup [.agg Cx,int 1]) st) (hok:Dt g n->R (.tup [.agg (zp (Ii g n)),int 0]) st):Jb 66 [.agg (zq g),int n] st R:=by
 refine Fl (Q:=λr=>(¬Dt g n/\r=.tup [.agg Cx,int 1])\/(Dt g n/\r=.tup [.agg (zp (Ii g n)),int 0])) ?_ st R λr hr=>?_
 ·refine(zff (G:=Store.empty) (v:=jt g.T) n hn (λR h=>zbn g hg _ R h) λR h=>ga g hT _ R h).frozen ?_;rintro r S (⟨h1,rfl,rfl⟩|⟨h1,vT,N,hv,hd,rfl,rfl⟩)
  ·exact⟨_,.inl ⟨h1,rfl⟩,λOth M w v sto hx=>qv hx⟩
  ·refine⟨_,.inr ⟨h1,rfl⟩,λOth M w v sto hx=>hx.tup2 (λx hx=>?_) λx hx=>qv hx⟩;have ho:OwnQ (N.un Store.empty) (Ii g n) vT nil nil N Store.empty Store.empty:=⟨by rw[xr,xr,Bc],hv,.inl (.inl ⟨rfl,rfl⟩),.inl (.inl ⟨rfl,rfl⟩),M7 _,M7 _⟩
   exact Kv ho sto hx
 ·rcases hr with⟨h1,rfl⟩|⟨h1,rfl⟩
  ·exact hbad h1
  ·exact hok h1
def Bp(w:Wld)(fb:Nat):List AV:=zp w++[ptr fb]
structure EngR(eb:Nat)(room:Int)(k:Nat)(w:Wld)(S:Store):Prop where
 out:∃N fb,S=N.sO eb (.cells (Bp w fb))/\¬N.has eb/\FldAny fb room (k:Nat) N
def FldAny.objs0{fb:Nat}{room k:Int}{N:Store}(h:FldAny fb room k N):FldAny fb room k N.objs0:=h.objs
def zfc(w:Wld)(hw:w.fits)(hn:∀u∈w.U,u.pos.ok)(hT:w.G.T.length<=1000000)(hB:w.B.length<=1000000)(hU:w.U.length<=1000000)(room:Int)(hr:1<=room/\room<=4096)(R:Ja)
  (hbad:¬ya w->R (.tup [.s (.pointer none),int 1]) Store.empty) (hok:ya w->∀eb S,EngR eb room 0 w S->R (.tup [ptr eb,int 0]) S):Jb 25 [.agg (zp w),int room] Store.empty R:=by
 have key:Jb 25 [.agg (zp w),int room] Store.empty λr S=>(¬ya w/\r=.tup [.s (.pointer none),int 1])∨
   (ya w/\∃X N eb fb vT vB vU NT NB NU,OwnQ X w vT vB vU NT NB NU/\zk X N/\¬X.has eb/\¬N.has eb/\FldAny fb room ((0:Nat):Int) N/\r=.tup [ptr eb,int 0]/\S=(X.un N).sO eb (.cells (jf w vT vB vU++[ptr fb]))):=by
  refine Qa (c:=cfg 25 [24] []) zb Tryz.func25 ?_;refine zbx room hr _ λN fb hF=>?_;refine zah w hw hn _ _ λz hz=>ye (zh (λc1=>?_) λc1=>?_);rotate_left
  ·exact ret (.inl ⟨λhh=>θg,rfl⟩)
  have hown:Jb 65 [.agg (zp w)] (Store.empty.un N) λr S=>∃X vT vB vU NT NB NU,OwnQ X w vT vB vU NT NB NU/\zk X N/\r=.agg (jf w vT vB vU)/\S=X.un N:=
   ACalls.frame (Dd N) (Oq w θ θ θ (λr S=>∃vT vB vU NT NB NU,OwnQ S w vT vB vU NT NB NU/\r=.agg (jf w vT vB vU)) λS vT vB vU NT NB NU h=>⟨vT,vB,vU,NT,NB,NU,h,rfl⟩) λr a' ⟨vT,vB,vU,NT,NB,NU,h1,h2⟩ hd=>⟨a',vT,vB,vU,NT,NB,NU,h1,hd,h2,rfl⟩
  rw[xr]at hown;refine hown.imp ?_;rintro r S ⟨X,vT,vB,vU,NT,NB,NU,ho,hd,rfl,rfl⟩;obtain⟨rT,rB,rU⟩:=Ic ho;obtain⟨_,_,e1,_⟩:=rT.form;obtain⟨_,_,e2,_⟩:=rB.form;obtain⟨_,_,e3,_⟩:=rU.form;subst e1 e2 e3;intro eb heb;have heb:=fresh_iff.1 heb;exact ret (.inr ⟨hz.1 c1,X,N,eb,fb,_,_,_,NT,NB,NU,ho,hd,λh=>heb (un_has.2 (.inl h)),λh=>heb (un_has.2 (.inr h)),hF,rfl,rfl⟩)
 refine key.frozenEng ?_;rintro r S (⟨h1,rfl⟩|⟨hm,X,N,eb,fb,vT,vB,vU,NT,NB,NU,ho,hd,h1,h2,hF,rfl,rfl⟩)
 ·exact .inl ⟨Store.empty,hbad h1,λb x hx=>γ,λb=>rfl⟩
 ·exact .inr ⟨_,X,N,eb,jf w vT vB vU,zp w,_,hd,h1,h2,rfl,rfl,hok hm eb _ ⟨_,fb,rfl,λh=>h2 (h.elim .inl λh=>absurd rfl h),hF.objs0⟩,λOth M W sto=>⟨λx hx=>Kv ho sto hx,λx hx=>qv hx⟩⟩
section
variable {eb k:Nat} {room:Int} {w:Wld} {S:Store}
def Qan{p:Prop}(h:p:=by repeat(first|exact Tv|refine⟨rfl,?_⟩|refine⟨zoo (Gp _ _ _ _ _) rfl,?_⟩)):p:=h
def jy(fb:Nat):AV:=.s (.func (.func 70) #[.pointer (some ⟨fb,0,none⟩)] #[])
def DoC:Prop:=∀(fb:Nat) (room:Int) (k:Nat) (N:Store) (w:Wld) (c:Cmd),FldAny fb room (k:Nat) N->playW w->c.fits->∀R:AV->Store->Prop,(∀N',FldAny fb room (k:Nat) N'->R (.tup [.agg (zp (doW aE aW w c)),int (doE aE w c)]) N')->
 Jb 69 [.agg (zp w),.agg (yh c),jy fb] N R
def kh(N Nt:Store)(eb fb:Nat)(w:Wld):Store:=N.un (Nt.sO eb (.cells (Bp w fb)))
def Gp(N Nt:Store)(eb fb:Nat)(w:Wld):(kh N Nt eb fb w).obj eb=some (.cells (Bp w fb)):=zg (zd _ _ _)
def Vs{a g:Store}{b:Nat}{x y:AObj}(h:zk a (g.sO b x)):zk a (g.sO b y):=λi h1 h2=>h i h1 (has_setObj_iff.2 (has_setObj_iff.1 h2))
def zt8(hE:EngR eb room k w S)(hw:playW w)(l:List Cmd)(hl:l=[]\/DoC)(hf:∀c∈l,c.fits)(hl2:l.length<=512)(ht:w.tick<1099511627776)(hk:k<=100000000000000000):
  Jb 31 [ptr eb,lst 10 yh l] S λr S'=>∃(N:Store) (fb:Nat) (X Nt:Store) (v vt:AV),r=.tup [vt,int 0]/\S'=(X.un N).un (Nt.sO eb (.cells (zz (Da w l) v++[ptr fb])))∧
   RowsQ 10 zf X v (Da w l).U/\RowsQ 1 zx Nt vt (ve w l)/\zk X N/\zk (X.un N) (Nt.sO eb (.cells []))/\¬Nt.has eb/\FldAny fb room ((k+4096:Nat):Int) N:=by
 obtain⟨N,fb,rfl,hn,hF⟩:=hE.out;refine Qy 74 Tryz.func31 ?_;refine zoo (zd _ _ _) ?_;refine zt (λc1=>absurd c1 θ) λ_=>?_;refine bcd (λc2=>absurd c2 θi) λ_=>?_;have e0:N.sO eb (.cells (Bp w fb))=kh N Store.empty eb fb w:=by unfold kh;rw[<-yd,Bc]
 have hd0:zk N (Store.empty.sO eb (.cells [])):=λi h1 h2=>by
  rcases has_setObj_iff.1 h2 with rfl|h2
  ·exact hn h1
  ·exact h2.elim (λh=>h rfl) λh=>h rfl
 rw[e0]
 refine AWp.loop (σ:=Nat×Store×Store×AV) ⟨λx=>[(0,.av (ptr eb)),(6,.av x.2.2.2),(22,.av (lst 10 yh l)),(23,.av (int (l.length:Nat))),(24,.av (int (x.1:Nat)))],λ_=>[],
  λx st'=>x.1<=l.length/\st'=kh x.2.1 x.2.2.1 eb fb (j5 w (l.take x.1))/\RowsQ 1 zx x.2.2.1 x.2.2.2 (ve w (l.take x.1))/\zk x.2.1 (x.2.2.1.sO eb (.cells []))/\¬x.2.2.1.has eb/\FldAny fb room (k:Nat) x.2.1,λx=>l.length-x.1⟩ zb ?_ ?_
 ·refine⟨(0,N,Store.empty,.s (.slice none 0 0)),Tv,⟨Fad _,rfl,.inl (.inl ⟨rfl,rfl⟩),hd0,λh=>h.elim (λh=>h rfl) λh=>h rfl,hF⟩,⟨Tq,Tq,Tq,?_,Tq,Tv⟩,Tv⟩;show LV.le (.av (int ((rws yh l).length:Nat))) (.av (int (l.length:Nat)));rw[zl];exact Tq
 clear e0 hd0 hF hn hE;rintro⟨i,N,Nt,vt⟩ st' ⟨hi,rfl,hvt,hd,hnt,hF⟩;dsimp only at hi hvt hd hnt hF⊢;refine bcd (λh1=>?_) λh1=>?_
 ·have hlt:i<l.length:=θ;obtain⟨q1,q2⟩:=zdc (w:=w) hlt;have hp:=Ol (l.take i) hw;refine⟨i,rfl,za _ (zn hlt) ?_⟩;rcases hl with rfl|hDo
  ·exact absurd hlt (Fau i)
  have hcall:∀R:AV->Store->Prop,(∀N',FldAny fb room (k:Nat) N'->zk N' (Nt.sO eb (.cells []))->R (.tup [.agg (zp (doW aE aW (j5 w (l.take i)) l[i])),int (doE aE (j5 w (l.take i)) l[i])]) (kh N' Nt eb fb (j5 w (l.take i))))->
    Jb 69 [.agg (zp (j5 w (l.take i))),.agg (yh l[i]),jy fb] (kh N Nt eb fb (j5 w (l.take i))) R:=λR h=>
   ACalls.frame (Vs hd) (hDo fb room k N (j5 w (l.take i)) l[i] hF hp (hf _ (Faa hlt)) (λr S=>FldAny fb room (k:Nat) S/\r=.tup [.agg (zp (doW aE aW (j5 w (l.take i)) l[i])),int (doE aE (j5 w (l.take i)) l[i])]) λN' h=>⟨h,rfl⟩)
    λr a' ⟨h1,h2⟩ hd'=>h2▸h a' h1 (Vs hd')
  have hTl:(ve w (l.take i)).length<=i:=by rw[V1,Fam];omega
  have hoff:=Cp hvt (k8 hnt).1;generalize j5 w (l.take i)=W at*;generalize ve w (l.take i)=T at*;generalize doW aE aW W l[i]=W2 at*;generalize doE aE W l[i]=e2 at*;refine Qc zb zwk (zoo (Gp _ _ _ _ _) (zoo (Gp _ _ _ _ _) ⟨hcall _ λN' hF' hd'=>⟨Tv,⟨⟨Qan,⟨⟨Tv,⟨⟨Tv,?_⟩,Tv⟩⟩,Tv⟩⟩,Tv⟩⟩,⟨⟨Qan,⟨hcall _ λN' hF' hd'=>⟨Tv,⟨⟨Tv,⟨⟨Tv,?_⟩,Tv⟩⟩,Tv⟩⟩,Tv⟩⟩,Tv⟩⟩))
  all_goals
   refine Qc zb zwm ?_;have hvtN:RowsQ 1 zx (kh N' Nt eb fb W) vt T:=(hvt.set hoff _).un;refine⟨ψ,ww (ie:=ti2) rfl Su ψ (v:=vt) (l:=T) hvtN e2 rfl θ λb cap L h5 h6 h7 h8=>?_,Tv⟩;have hbe:b≠eb:=by
    rcases h5 with h5|⟨c0,h0,h5⟩
    ·exact λe=>fresh_iff.1 h5 (by rw[e];exact xf (Gp _ _ _ _ _))
    ·exact hoff b _ c0 h5 h0
   have hbN:¬N'.has b:=by
    rcases h5 with h5|⟨c0,h0,h5⟩
    ·exact λe=>fresh_iff.1 h5 (un_has.2 (.inl e))
    ·exact λe=>hd' b e (has_setObj_iff.2 (.inr (hvt.has h5 h0)))
   have e1:(kh N' Nt eb fb W).sO b (.cells ((rws zx (T++[e2])).flatten++L))=kh N' (Nt.sO b (.cells ((rws zx (T++[e2])).flatten++L))) eb fb W:=by unfold kh;rw[yd,F7 hbe]
   rw[e1];refine⟨?_,?_⟩
   ·first|exact rfl|(repeat(first|exact Tv|refine⟨rfl,?_⟩))
   refine⟨za _ rfl (j3 rfl (ju (v:=.agg (zp W2)) rfl rfl rfl rfl (jq (i:=ti27) (v:=.agg (zp W2)) (xs:=zp W2) (b:=eb) (o:=0) (l:=Bp W fb) rfl rfl rfl (Gp _ _ _ _ _) (show 0+8<=9 by decide) ⟨Tv,Qbr (Qd ?_)⟩))),Tv⟩;have e3:(kh N' (Nt.sO b (.cells ((rws zx (T++[e2])).flatten++L))) eb fb W).sO eb (.cells (Bp W2 fb))=kh N' (Nt.sO b (.cells ((rws zx (T++[e2])).flatten++L))) eb fb W2:=by unfold kh;rw[yd,yy]
   refine⟨(i+1,N',Nt.sO b (.cells ((rws zx (T++[e2])).flatten++L)),_),(show l.length-(i+1)<l.length-i by omega),⟨ζ,?_,?_,?_,?_,hF'⟩,⟨Tq,Tq,Tq,Tq,Tq,Tv⟩,Tv⟩
   ·dsimp only;rw[q1];exact e3
   ·dsimp only;rw[q2];exact .inl (.inr ⟨b,cap,L,rfl,zd _ _ _,h6,h7,h8⟩)
   ·intro j h1 h2;dsimp only at h1 h2;rw[F7 (Ne.symm hbe)]at h2;rcases has_setObj_iff.1 h2 with rfl|h2
    ·exact hbN h1
    ·exact hd' j h1 h2
   ·dsimp only;intro h;rcases has_setObj_iff.1 h with h|h
    ·exact hbe h.symm
    ·exact hnt h
 ·have:i=l.length:=θ;subst this;rw[Fak]at hvt⊢;have hp:=Ol l hw;have htk:=Vz l hw;have hsz:=hp.sizes;have hU:=(xh hp.1).hU;have heng:Da w l=Hz (j5 w l):=rfl;generalize Da w l=We at*;generalize j5 w l=W at*;generalize ve w l=T at*;have hown:∀R:AV->Store->Prop,(∀v X,RowsQ 10 zf X v W.U->zk X (kh N Nt eb fb W)->R (.agg (zz W v)) (X.un (kh N Nt eb fb W)))->Jb 65 [.agg (zp W)] (kh N Nt eb fb W) R:=λR h=>by
   rw[<-xr (kh N Nt eb fb W)];refine ACalls.frame (Dd _) (tg W θ θ θ (λr S=>∃v,RowsQ 10 zf S v W.U/\r=.agg (zz W v)) λv N h=>⟨v,h,rfl⟩) ?_;rintro r a' ⟨v,h1,rfl⟩ hd';exact h v a' h1 hd'
  refine Qc zb zwl (zoo (Gp _ _ _ _ _) (zoo (Gp _ _ _ _ _) ⟨hown _ (λv X hX hdX=>⟨(by repeat(first|exact rfl|exact Tv|refine⟨rfl,?_⟩|refine⟨zoo (zg (Gp _ _ _ _ _)) rfl,?_⟩|refine zoo (zg (Gp _ _ _ _ _)) rfl)),?_⟩),Tv⟩));have hXN:zk X N:=λi h1 h2=>hdX i h1 (un_has.2 (.inl h2));have hXG:zk (X.un N) (Nt.sO eb (.cells (Bp W fb))):=disj_un.2 ⟨λi h1 h2=>hdX i h1 (un_has.2 (.inr h2)),Vs hd⟩;have e1:X.un (kh N Nt eb fb W)=(X.un N).un (Nt.sO eb (.cells (Bp W fb))):=(Kl _ _ _).symm;rw[e1];have hgo:=ACalls.frame hXG (yfq hX hp hXN hF θ (λr S=>∃Y N',RowsQ 10 zf Y v (ki W).U/\zk Y N'/\FldAny fb room ((k+W.U.length:Nat):Int) N'/\r=.agg (zz (ki W) v)/\S=Y.un N') λY N' h1 h2 h3=>⟨Y,N',h1,h2,h3,rfl,rfl⟩) (R':=λr S=>∃Y N',RowsQ 10 zf Y v (ki W).U/\zk Y N'/\FldAny fb room ((k+W.U.length:Nat):Int) N'/\r=.agg (zz (ki W) v)/\S=(Y.un N').un (Nt.sO eb (.cells (Bp W fb)))/\zk (Y.un N') (Nt.sO eb (.cells (Bp W fb)))) (λr a' ⟨Y,N',h1,h2,h3,h4,h5⟩ hd'=>⟨Y,N',h1,h2,h3,h4,by rw[h5],h5▸hd'⟩);refine⟨hgo.imp ?_,Tv⟩;rintro r S ⟨Y,N',hY,hYN,hF',rfl,rfl,hdY⟩;obtain⟨oa,cap,e2,_⟩:=hY.form;subst e2;refine⟨Tv,⟨za _ rfl (j3 rfl (ju (v:=.agg (zz (ki W) (.s (.slice oa (ki W).U.length cap)))) rfl rfl rfl rfl (jq (i:=ti27) (v:=.agg (zz (ki W) (.s (.slice oa (ki W).U.length cap)))) (xs:=zz (ki W) (.s (.slice oa (ki W).U.length cap))) (b:=eb) (o:=0) (l:=Bp W fb) rfl rfl rfl (zg (zd _ _ _)) (show 0+8<=9 by decide) ⟨Tv,?_⟩))),Tv⟩⟩;rw[yd,yy];have hat:(ki W).tick=W.tick:=La W _;have hw0:0<=w.tick:=hw.1.1.1.1.1.1;refine zoo (zg (zd _ _ _)) (Qd (xo (i:=ti2) (v:=int ((ki W).tick+1)) (b:=eb) (o:=0) (l:=zz (ki W) (.s (.slice oa (ki W).U.length cap))++[ptr fb]) rfl rfl rfl (zg (zd _ _ _)) (show 0+1<=9 by decide) ?_));rw[yd,yy];obtain⟨oc,cc,e4,_⟩:=hvt.form;subst e4;exact ret ⟨N',fb,Y,Nt,_,_,rfl,by rw[heng];rfl,by rw[heng];exact hY,hvt,hYN,Vs hdY,hnt,hF'.mono θ⟩
def zci(hE:EngR eb room k w S)(hw:playW w)(l:List Cmd)(hl:l=[]\/DoC)(hf:∀c∈l,c.fits)(hl2:l.length<=512)(ht:w.tick<1099511627776)(hk:k<=100000000000000000)(R:Ja)
  (h:∀S',EngR eb room (k+4096) (Da w l) S'->R (.tup [lst 1 zx (ve w l),int 0]) S'):Jb 31 [ptr eb,lst 10 yh l] S R:=by
 refine(zt8 hE hw l hl hf hl2 ht hk).frozenEng ?_;rintro r S' ⟨N,fb,X,Nt,v,vt,rfl,rfl,hX,hvt,hXN,hd,hnt,hF⟩;obtain⟨d1,d2⟩:=disj_un.1 hd;have sub:∀{a:Store},zk a (Nt.sO eb (.cells []))->zk a Nt/\¬a.has eb:=λh=>⟨λi h1 h2=>h i h1 (has_setObj_iff.2 (.inr h2)),λh1=>h eb h1 (has_setObj_iff.2 (.inl rfl))⟩
 obtain⟨d3,d4⟩:=sub d1;obtain⟨d5,d6⟩:=sub d2;refine .inr ⟨.tup [lst 1 zx (ve w l),int 0],X.un Nt,N,eb,zz (Da w l) v,zp (Da w l),_,disj_un.2 ⟨hXN,Dc d5⟩,λh=>(un_has.1 h).elim d4 hnt,d6,?_,rfl,h _ ⟨_,fb,rfl,?_,hF.objs0⟩,λOth M W sto=>⟨λx hx=>?_,λx hx=>?_⟩⟩
 ·rw[<-yd,Kl,Kl,un_comm d5];rfl
 ·exact λh=>d6 (h.elim .inl λh=>absurd rfl h)
 ·exact Dh (hX.unL d3) sto hx
 ·exact hx.tup2 (λx hx=>(hvt.un (a:=X)).borrow Su fy sto hx) λx hx=>qv hx
def yef(w:Wld)(hT:w.G.T.length<=1000000000)(hB:w.B.length<=1000000000)(hU:w.U.length<=1000000000)(st:Store)(R:Ja)(h:R (.agg (zp w)) st):Jb 65 [.agg (zp w)] st R:=by refine Fl (Q:=λr=>r=.agg (zp w)) ((Oq w hT hB hU (λr S=>∃vT vB vU NT NB NU,OwnQ S w vT vB vU NT NB NU/\r=.agg (jf w vT vB vU)) λS vT vB vU NT NB NU h=>⟨vT,vB,vU,NT,NB,NU,h,rfl⟩).frozen ?_) st R λr hr=>hr▸h;rintro r S ⟨vT,vB,vU,NT,NB,NU,ho,rfl⟩;exact⟨_,rfl,λOth M w' v' sto hx=>Kv ho sto hx⟩
def zch(hE:EngR eb room k w S)(hs:w.G.T.length<=1000000/\w.B.length<=1000000/\w.U.length<=1000000)(R:Ja)(h:R (.agg (zp w)) S):Jb 35 [ptr eb] S R:=by obtain⟨N,fb,rfl,hn,hF⟩:=hE.out;refine Qy 8 Tryz.func35 ?_;exact zoo (zd _ _ _) (yef w θ θ θ _ _ (ret h))
end
def yl4(l:List UInt8)(hl:l.length<=1000000)(R:Ja)(h:∀v N,RowsO 1 u8C N v l->R v N):Jb 86 [lst 1 u8C l] Store.empty R:=by
 refine Qy 19 Tryz.func86 ?_;refine AWp.loop (σ:=Nat×AV×Store) ⟨λs=>[(0,.av (lst 1 u8C l)),(3,.av s.2.1),(4,.av (int s.1))],λ_=>[],λs st'=>s.1<=l.length/\st'=s.2.2/\RowsO 1 u8C s.2.2 s.2.1 (l.take s.1),λs=>l.length-s.1⟩ zb ?_ ?_
 ·exact⟨(0,_,Store.empty),Tv,⟨Fad _,rfl,.inl ⟨rfl,rfl⟩⟩,⟨Tq,Tq,Tq,Tv⟩,Tv⟩
 ·rintro⟨i,v,N⟩ st' ⟨hi,rfl,ha⟩;dsimp only at hi ha⊢;refine zh (λh1=>?_) λh1=>?_
  ·have hlt:i<l.length:=qn h1;refine⟨i,rfl,za _ (zn hlt) ⟨ψ,Ni (ie:=ti5) rfl (λ_=>rfl) ψ ha l[i] rfl θe λb cap L q1 q2 q3 q4=>⟨⟨θ,θ⟩,⟨(i+1,_,_),?_,⟨hlt,rfl,?_⟩,⟨Tq,Tq,Tq,Tv⟩,Tv⟩⟩⟩⟩
   ·show l.length-(i+1)<l.length-i;omega
   ·dsimp only;rw[Fab hlt];exact .inr ⟨b,cap,L,rfl,zd _ _ _,q2,q3,q4⟩
  ·have hge:i=l.length:=qw h1 hi;subst hge;rw[Fak]at ha;exact ret (h _ _ ha)
def yl5(l:List UInt8)(hl:l.length<=1000000)(st:Store)(R:Ja)(h:∀v N,RowsO 1 u8C N v l->zk N st->R v (N.un st)):Jb 86 [lst 1 u8C l] st R:=by rw[<-xr st];exact ACalls.frame (Dd st) (yl4 l hl (λv N=>RowsO 1 u8C N v l) λv N hv=>hv) λv N hv hd=>h v N hv hd
def yl0(g:Gnd)(hg:g.T.length<=1000000)(st:Store)(R:Ja)(h:∀v N,RowsO 1 u8C N v g.T->zk N st->R (.agg [int g.W,int g.H,v]) (N.un st)):Jb 44 [.agg (zq g)] st R:=by refine Qy 10 Tryz.func44 ?_;refine yl5 g.T hg _ _ λv N hv hd=>?_;obtain⟨oa,cap,e,_⟩:=hv.q.form;subst e;exact ret (h _ N hv hd)
def Ha(e:Int)(st:Store)(R:Ja)(h:R (int e) st):Jb 27 [int e] st R:=by refine Qy 4 Tryz.func27 ?_;exact ret h
def yfy{g:Gnd}{n:Int}(h:Dt g n):ya (Ii g n):=
 ⟨⟨⟨⟨⟨Fcu _,show(0:Int)<=1099511627776 by decide⟩,h.2,⟨Fcu _,show(1:Int)<=1099511627776 by decide⟩⟩,⟨h.1,⟨Fad _,λj hj=>absurd hj (Fau j),λb hb=>(by cases hb),λj hj=>absurd hj (Fau j)⟩,Fad _⟩,λb hb=>(by cases hb)⟩,
  λj hj=>absurd hj (Fau j),λu hu=>(by cases hu)⟩,λu hu=>(by cases hu),λu hu=>(by cases hu)⟩
def yd5{g:Gnd}{n:Int}(h:Dt g n):playW (Ii g n):=⟨yfy h,λu hu=>(by cases hu)⟩
def Lq:Gnd:=⟨1,1,[0]⟩
def lx:Dt Lq 1:=by refine⟨⟨ψ,ψ,ψ,?_⟩,ψ,ψ⟩;decide
def ye7{eb:Nat}{room:Int}{k:Nat}{w:Wld}{S:Store}(hE:EngR eb room k w S)(hw:playW w)(ht:w.tick<1099511627776)(hk:k<=100000000000000000)(R:Ja)
  (h:∀S',EngR eb room (k+4096) (Hz w) S'->R (.tup [lst 1 zx [],int 0]) S'):Jb 31 [ptr eb,.s (.slice none 0 0)] S R:=
 ACalls.le (ys:=[ptr eb,lst 10 yh []]) ⟨Tt,AV.le_nil 10,Tv⟩ (zci hE hw [] (.inl rfl) (λc hc=>by cases hc) ψ ht hk R h)
def Ws(st:Store)(R:Ja)(h:R (V.bool true) st):Jb 28 [] st R:=by refine Fl (Q:=λr=>r=V.bool true) ?_ st R λr hr=>hr▸h;have hp:=yd5 lx;refine Qy 49 Tryz.func28 ?_;refine⟨ψ,ACalls.le (ys:=[.agg (zq Lq),int 1]) ⟨Tt,Tt,Tv⟩ (zfe Lq (by unfold Gnd.fits;decide) ψ 1 (by unfold ym;decide) _ _ (λh=>absurd lx h) λ_=>zfc (Ii Lq 1) (xh hp.1).fits hp.2 ψ ψ ψ 1 ψ _ (λh=>absurd hp.1 h) λ_ eb S hE=>Ha _ _ _ (Ha _ _ _ (ye7 hE hp ψ ψ _ λS' hE'=>Ha _ _ _ ?_)))⟩;have hp2:=tc hp ψ;have ht:=zg9 (Ii Lq 1);refine zch hE' hp2.sizes _ ?_;generalize Hz (Ii Lq 1)=W at*;have e:W.tick=1:=ht;refine⟨_,S',?_,Store.Has.refl _,rfl⟩;rw[e];exact Tt
def zal(i j:Int):max2 (max2 (max2 i (0-i)) j) (0-j)=Bs i j:=by
 have e:∀a b:Int,max2 a b=max a b:=λa b=>by
  unfold max2;by_cases h:b>a
  ·rw[decide_eq_true h];show b=_;omega
  ·rw[decide_eq_false h];show a=_;omega
 rw[e,e,e];unfold Bs;omega
def ybw(g:Gnd)(x y k d j i:Int):(Bv g x y k d j i).length<=g.T.length:=by have:=Fbk (λt=>j8 g x y k d t&&zd9 g x y j i t) (List.range g.T.length);rw[Fds]at this;exact this
theorem By(l:List Nat):(yz l).length=l.length:=Fas ..
def ybr(g:Gnd)(hg:zw g)(t:Nat)(ht:t<g.T.length)(d k:Int)(hd:0<=d/\d<=300)(hk:1<=k/\k<=7)(st:Store)(R:Ja)(h:R (y9 (yz (Fb g ((t:Int)%g.W) ((t:Int)/g.W) k d))) st):
  Jb 344 [.agg (zq g),int t,int d,int k] st R:=by
 have hm:=qg hg;have htb:=Ck hg (t:=t) θ;have hq:=D6 (t:=t) hg.1.1;have hq2:=D7 (t:=t) hg.1.1;have hg1:=hg.1;have hg2:=hg.2.1;generalize(t:Int)%g.W=x at*;generalize(t:Int)/g.W=y at*;refine Qy 80 Tryz.func344 ?_;refine Qc zb zwf ?_;refine⟨θ,⟨θ,Qd (Qbq (Qbr (Qd ?_)))⟩⟩
 refine AWp.loop (σ:=Nat×AV) ⟨λs=>[(2,.av (int d)),(3,.av (int k)),(4,.bx 4 0),(8,.av s.2),(9,.av (int x)),(10,.av (int y)),(11,.av (int ((s.1:Nat)-d)))],λ_=>[(4,zq g)],
  λs st'=>(s.1:Int)<=2*d+1/\App 1 st s.2 (rws zx (yz (Bv g x y k d ((s.1:Nat)-d) (-d)))) st',λs=>700-s.1⟩ zb ?_ ?_
 ·refine⟨(0,_),Tv,⟨ζ,?_⟩,⟨Tq,Tq,Tq,Tq,?_,?_,?_,Tv⟩,⟨rfl,Tv⟩⟩
  ·dsimp only;rw[show((0:Nat):Int)-d=-d by omega,ybt];exact App.start 1 st
  ·rw[<-hq];exact Tq
  ·rw[<-hq2];exact Tq
  ·dsimp only;rw[show((0:Nat):Int)-d=0-d by omega];exact Tq
 rintro⟨a,v⟩ st' ⟨ha,hap⟩;dsimp only at ha hap⊢;refine bcd (λh1=>?_) λh1=>?_;rotate_left
 ·rw[show(a:Int)-d=d+1 by omega,ybx]at hap;exact⟨_,st,AV.le_trans hap.le (Tt),hap.has,h⟩
 refine Qd ?_;have hj:∃j:Int,(a:Int)-d=j:=⟨_,rfl⟩
 obtain⟨j,hj⟩:=hj;rw[hj]at hap h1⊢
 refine AWp.loop (σ:=Nat×AV) ⟨λs=>[(2,.av (int d)),(3,.av (int k)),(4,.bx 4 0),(8,.av s.2),(9,.av (int x)),(10,.av (int y)),(11,.av (int j)),(12,.av (int ((s.1:Nat)-d)))],λ_=>[(4,zq g)],
  λs st'=>(s.1:Int)<=2*d+1/\App 1 st s.2 (rws zx (yz (Bv g x y k d j ((s.1:Nat)-d)))) st',λs=>700-s.1⟩ zb ?_ ?_
 ·refine⟨(0,v),Tv,⟨ζ,?_⟩,⟨Tq,Tq,Tq,Tq,Tq,Tq,Tq,?_,Tv⟩,⟨rfl,Tv⟩⟩
  ·dsimp only;rw[show((0:Nat):Int)-d=-d by omega];exact hap
  ·dsimp only;rw[show((0:Nat):Int)-d=0-d by omega];exact Tq
 rintro⟨b,v2⟩ st2 ⟨hb,hap2⟩;dsimp only at hb hap2⊢;have hi:∃i:Int,(b:Int)-d=i:=⟨_,rfl⟩
 obtain⟨i,hi⟩:=hi;rw[hi]at hap2⊢;refine bcd (λh2=>?_) λh2=>?_;rotate_left
 ·rw[show i=d+1 by omega,ybu]at hap2;refine Qd ⟨(a+1,v2),?_,⟨ζ,?_⟩,⟨Tq,Tq,Tq,Tq,Tq,Tq,?_,Tv⟩,⟨rfl,Tv⟩⟩
  ·show 700-(a+1)<700-a;omega
  ·dsimp only;rw[show((a+1:Nat):Int)-d=j+1 by omega];exact hap2
  ·dsimp only;rw[show((a+1:Nat):Int)-d=j+1 by omega];exact Tq
 have next:∀v3 st3,App 1 st v3 (rws zx (yz (Bv g x y k d j (i+1)))) st3->∃s:Nat×AV,700-s.1<700-b/\((s.1:Int)<=2*d+1/\App 1 st s.2 (rws zx (yz (Bv g x y k d j ((s.1:Nat)-d)))) st3)/\s=(b+1,v3)/\((s.1:Nat):Int)-d=i+1:=λv3 st3 h3=>
  ⟨(b+1,v3),ζ,⟨ζ,by dsimp only;rw[show((b+1:Nat):Int)-d=i+1 by omega];exact h3⟩,rfl,ζ⟩
 have no:¬(Bs i j=d/\i.tmod k=0/\j.tmod k=0/\onG g (x+i) (y+j))->App 1 st v2 (rws zx (yz (Bv g x y k d j (i+1)))) st2:=λhn=>by rw[ybv hg hn];exact hap2
 refine Qd (Qd (zt (λc1=>?_) λc1=>?_));rotate_left
 ·have c1:¬Bs i j=d:=λe=>c1 ((zal i j).trans e);obtain⟨s,f1,f2,rfl,f3⟩:=next v2 st2 (no λhh=>c1 hh.1)
  exact Qd ⟨(b+1,v2),f1,f2,⟨Tq,Tq,Tq,Tq,Tq,Tq,Tq,θ8,Tv⟩,⟨rfl,Tv⟩⟩
 have c1:Bs i j=d:=(zal i j).symm.trans c1;refine⟨θ,zt (λc2=>?_) λc2=>?_⟩;rotate_left
 ·obtain⟨s,f1,f2,rfl,f3⟩:=next v2 st2 (no λhh=>c2 hh.2.1)
  exact Qd ⟨(b+1,v2),f1,f2,⟨Tq,Tq,Tq,Tq,Tq,Tq,Tq,θ8,Tv⟩,⟨rfl,Tv⟩⟩
 refine⟨θ,zt (λc3=>?_) λc3=>?_⟩;rotate_left
 ·obtain⟨s,f1,f2,rfl,f3⟩:=next v2 st2 (no λhh=>c3 hh.2.2.1)
  exact Qd ⟨(b+1,v2),f1,f2,⟨Tq,Tq,Tq,Tq,Tq,Tq,Tq,θ8,Tv⟩,⟨rfl,Tv⟩⟩
 refine Qd (Qd (du g (x+i) (y+j) _ _ λz hz=>zh (λc4=>?_) λc4=>?_));rotate_left
 ·obtain⟨s,f1,f2,rfl,f3⟩:=next v2 st2 (no λhh=>by have:=hz.2 hh.2.2.2;rw[this]at c4;cases c4)
  exact Qd ⟨(b+1,v2),f1,f2,⟨Tq,Tq,Tq,Tq,Tq,Tq,Tq,θ8,Tv⟩,⟨rfl,Tv⟩⟩
 have hon:=hz.1 c4;obtain⟨e1,e2,_,_⟩:=Cj hg hon;have hon2:=hon;unfold onG at hon2;have hpos:0<=g.W*(y+j):=Fav θ θ;have hrl:=ybw g x y k d j i;refine Qd (Qd (Qd (Qd ⟨ψ,Ba (ie:=ti2) (rows':=[zx (x+i+g.W*(y+j))]) hap2 ?_ ?_ ⟨?_,?_⟩ λv3 st3 h3=>?_⟩)))
 ·rfl
 ·rfl
 ·simp only[zl,By,Fao,ti2];omega
 ·simp only[zl,By,Fao];omega
 obtain⟨s,f1,f2,rfl,f3⟩:=next v3 st3 (by rw[ybs hg hon c1 c2 c3,ef,<-cj,show yz [tl g (x+i) (y+j)]=[x+i+g.W*(y+j)] by unfold yz;rw[Fcc,e1];rfl];exact h3)
 exact Qd ⟨(b+1,v3),f1,f2,⟨Tq,Tq,Tq,Tq,Tq,Tq,Tq,θ8,Tv⟩,⟨rfl,Tv⟩⟩
section
variable {S:Store} {xw s p:Nat} {w:Wld} {v o0 o1 o2 fv:AV}
def zb7{l:List Unt}(hr:yr l){id:Int}{i:Nat}{z:Bool}(h:z=true↔∃hi:i<l.length,l[i].id=id)(hat:Mq l id i):(z=true->qa l id=some i)/\(z=false->qa l id=none):=by
 refine⟨λhz=>?_,λhz=>?_⟩
 ·obtain⟨hi,e⟩:=h.1 hz;exact Lc hr hi e
 ·cases hf:qa l id with
  |none=>rfl
  |some k=>
   obtain⟨hk,e⟩:=Ho hf;have hno:¬∃hi:i<l.length,l[i].id=id:=λhh=>by rw[h.2 hh]at hz;cases hz
   by_cases h1:k<i
   ·have:=hat.2.1 k hk h1;omega
   ·have hil:i<l.length:=θ;have:=hat.2.2 i hil (Fal _);by_cases h2:i<k
    ·have:=Rx hr h2 hk;omega
    ·have e3:k=i:=θ;subst e3;exact absurd ⟨hk,e⟩ hno
structure AtW(S:Store)(xw s p:Nat)(w:Wld)(v o0 o1 o2:AV)(c:Cmd)(fv:AV):Prop where
 hx:S.obj xw=some (.cells (wkC s c fv))
 hs:S.obj s=some (.cells (svC w v o0 o1 o2 p))
 hr:RowsQ 10 zf S v w.U
def li{c:Cmd}(ha:AtW S xw s p w v o0 o1 o2 c fv)(hr:yr w.U)(hU:w.U.length<=1000000)(id:Int)(R:Ja)(h:R (.tup [.agg (zf (uAt w id)),int (xm w c.P id)]) S):Jb 300 [ptr xw,int id] S R:=by
 obtain⟨hx,hs,hv⟩:=ha;obtain⟨oa,cap,e,hget⟩:=hv.form;subst e;refine Qy 52 Tryz.func300 ?_;refine Qbs (Qbs (Wc hv θ hr id _ λi hi z hz=>?_));obtain⟨g1,g2⟩:=zb7 hr hz hi;cases z with
 |false=>
  obtain⟨e1,e2⟩:=Wd (w:=w) (P:=c.P) (g2 rfl);rw[e1,e2]at h;exact ret h
 |true=>
  obtain⟨hil,hid⟩:=hz.1 rfl;obtain⟨_,_,e2⟩:=Nm (w:=w) (g1 rfl);rw[e2,lj (P:=c.P) (g1 rfl) hil]at h;refine Qbs (Qbs ?_);obtain⟨b,J,rfl,hob⟩:=hget i hil;refine⟨i,rfl,hil,Qbs (yq (i:=ti36) (row:=zf w.U[i]) rfl rfl (xt yn hil) ?_)⟩;refine Qc zb zwr ?_;refine Qbs (Qbq (qd (λc1=>?_) λc1=>?_))
  ·rw[if_neg c1]at h;exact ret h
  rw[if_pos c1]at h;refine qd (λc2=>?_) λc2=>?_
  ·rw[if_neg c2]at h;exact ret h
  ·rw[if_pos c2]at h;exact ret h
theorem all_nil{c:Cmd}(ha:AtW S xw s p w v o0 o1 o2 c fv)(hr:yr w.U)(hU:w.U.length<=1000000)(hc:c.U.length<=1000000)(R:Ja)
  (h:jk (xm w c.P) c.U=0->R (.tup [lst 10 zf (c.U.map (uAt w)),int 0]) S) (h':jk (xm w c.P) c.U≠0->R (.tup [.s (.slice none 0 0),int (jk (xm w c.P) c.U)]) S):Jb 238 [ptr xw,.s .nilFunc] S R:=by
 refine Qy 44 Tryz.func238 ?_;refine zoo ha.hx ?_
 refine AWp.loop (σ:=Nat×AV) ⟨λx=>[(0,.av (ptr xw)),(1,.av (.s .nilFunc)),(4,.av x.2),(14,.av (y9 c.U)),(15,.av (int (c.U.length:Nat))),(16,.av (int (x.1:Nat)))],λ_=>[],
  λx st'=>x.1<=c.U.length/\App 10 S x.2 (rws zf ((c.U.take x.1).map (uAt w))) st'/\∀j,(hj:j<c.U.length)->j<x.1->xm w c.P c.U[j]=0,λx=>c.U.length-x.1⟩ zb ?_ ?_
 ·refine⟨(0,_),Tv,⟨Fad _,App.start 10 S,λj _ hj=>θ⟩,⟨Tq,Tq,Tq,Tq,?_,Tq,Tv⟩,Tv⟩;rw[<-zl (f:=zx) c.U];exact Tq
 rintro⟨i,v2⟩ st' ⟨hi,hap,hall⟩;dsimp only at hi hap hall⊢;refine bcd (λh1=>?_) λh1=>?_;rotate_left
 ·have:i=c.U.length:=θ;subst this;rw[Fak]at hap;exact⟨_,_,AV.le_tupL (xs:=[v2,int 0]) (ys:=[lst 10 zf (c.U.map (uAt w)),int 0]) ⟨AV.le_trans hap.le (Tt),Tt,Tv⟩,hap.has,h (Pq λj hj=>hall j hj hj)⟩
 have hlt:i<c.U.length:=θ;have ha':AtW st' xw s p w v o0 o1 o2 c fv:=⟨by rw[hap.obj];exact ha.hx,by rw[hap.obj];exact ha.hs,ha.hr.sub λ_ _ _ _=>by rw[hap.obj]⟩
 refine⟨i,rfl,za _ (zn hlt) (li ha' hr hU c.U[i] _ (zt (λc1=>?_) λc1=>?_))⟩;rotate_left
 ·refine qd (λc2=>?_) λc2=>absurd c2 c1;have e:=Cw hlt hall c1;have:=h' (by rw[e];exact c1);rw[e]at this;exact⟨_,_,Tt,hap.has,this⟩
 refine qd (λc2=>absurd c1 c2) λc2=>⟨ψ,Ba (ie:=ti36) (rows':=[zf (uAt w c.U[i])]) hap ?_ ?_ ⟨?_,?_⟩ λv3 st3 ha3=>?_⟩
 ·rfl
 ·rfl
 ·simp only[zl,Fas,Fam,Fao,ti36];omega
 ·simp only[zl,Fas,Fam,Fao];omega
 refine Qd ⟨(i+1,v3),?_,⟨ζ,?_,λj hj hji=>?_⟩,Qbn,Tv⟩
 ·show c.U.length-(i+1)<c.U.length-i;omega
 ·dsimp only;rw[Fab hlt,Fa8];unfold rws at ha3⊢;rw[Fa8];exact ha3
 ·by_cases e:j=i
  ·subst e;exact c1
  ·exact hall j hj ψh
end
def ze0{F G:Store}{xw s p:Nat}{w:Wld}{v:AV}{L:List Ent}{o0 o1 o2:AV}{c:Cmd}{fv:AV}(hW:Work F G xw s p w v L o0 o1 o2 c fv)(hm:MayF w)(hn:∀u∈w.U,u.pos.ok)(hc:c.U.length<=64)(R:Ja)
  (h:∀S',stE w c≠0->R (int (stE w c)) S') (h0:stE w c=0->∀S',Df S' xw s c fv (stW w c)->R (int 0) S'):Jb 161 [ptr xw] (F.un (svS G s w v o0 o1 o2 p)) R:=by
 have hU:=hm.hU;have hLl:=hW.hL;refine Qy 27 Tryz.func161 ?_;refine all_nil ⟨hW.x,hW.s,hW.r⟩ hm.hr θ θ _ (λhe=>?_) λhe=>?_;rotate_left
 ·refine AWp.loop (σ:=Unit) ⟨λx=>[(4,.av (int (stE w c))),(13,.av (int 0)),(14,.av (int 0))],λ_=>[],λx st'=>True,λx=>0⟩ zb ?_ ?_
  ·exact⟨(),Tv,Tv,Qbn,Tv⟩
  rintro⟨⟩ st' _;exact ret (h _ he)
 have hzero:=Gu he;have hhe:stE w c=0:=he
 refine AWp.loop (σ:=Nat×Store×Store×List Ent) ⟨λx=>[(0,.av (ptr xw)),(4,.av (int 0)),(12,.av (lst 10 zf (c.U.map (uAt w)))),(13,.av (int (c.U.length:Nat))),(14,.av (int (x.1:Nat)))],λ_=>[],
  λx st'=>x.1<=c.U.length/\st'=x.2.1.un (svS x.2.2.1 s {w with U:=yx (c.U.take x.1) j7 w.U} v o0 o1 o2 p)/\StandR x.2.1 x.2.2.1 s p {w with U:=yx (c.U.take x.1) j7 w.U} v x.2.2.2 o0 o1 o2/\(∀q,xz v q->x.2.2.1.obj q=G.obj q)/\x.2.2.2.length<=L.length+x.1/\∀e∈x.2.2.2,e.2.ok,λx=>c.U.length-x.1⟩ zb ?_ ?_
 ·refine⟨(0,F,G,L),Tv,⟨Fad _,?_,?_,λ_ _=>rfl,ζ,Kw hW.hF hn⟩,⟨Tq,Tq,Tq,?_,Tq,Tv⟩,Tv⟩
  ·dsimp only;rw[Fcj,Ma]
  ·dsimp only;rw[Fcj,Ma];exact hW.S
  ·have e:(c.U.length:Int)=((rws zf (c.U.map (uAt w))).length:Int):=by rw[zl,Fas]
   rw[e];exact Tq
 rintro⟨k,F1,G1,L1⟩ st' ⟨hk,rfl,hS,hG,hL,hok⟩;dsimp only at hk hS hG hL hok⊢;have hx:(F1.un (svS G1 s {w with U:=yx (c.U.take k) j7 w.U} v o0 o1 o2 p)).obj xw=some (.cells (wkC s c fv)):=zg (by show(G1.sO s _).obj xw=_;rw[zj hW.ne,hG xw hW.ox];exact hW.hx);refine bcd (λh1=>?_) λh1=>?_;rotate_left
 ·have:k=c.U.length:=θ;subst this;rw[Fak]at hS hx⊢;exact ret (h0 hhe _ ⟨v,o0,o1,o2,p,hx,zg (Bd _ _ _ _ _ _ _ _),(H2 hS.hs hS.hu).un⟩)
 have hlt:k<c.U.length:=θ;obtain⟨i,hi,hf,hid,hu,how,hin⟩:=Ce (hzero c.U[k] (Faa hlt));have hlm:k<(c.U.map (uAt w)).length:=by rw[Fas];exact hlt
 refine⟨k,rfl,za _ (zn hlm) ?_⟩;have hgm:(c.U.map (uAt w))[k]=w.U[i]:=by rw[Fbp,hu]
 rw[hgm];refine Qc zb zyj (zoo hx ⟨cy w.U[i] _ _ ⟨Qe,?_⟩,Tv⟩);have hi2:i<(yx (c.U.take k) j7 w.U).length:=by rw[wd];exact hi
 refine⟨R4 hS hW.os (b7 (g:=j7) (λ_=>rfl) hm.hr) (by rw[wd];omega) θ hok hi2 (j7 w.U[i]) (Rn (g:=j7) (λ_=>rfl) hi) (hn w.U[i] (Faa hi)) _ λF2 G2 L2 g1 g2 g3 g4=>⟨Tv,?_⟩,Tv⟩;have e5:c.U.take k++[w.U[i].id]=c.U.take (k+1):=by rw[Fab hlt,hid]
 dsimp only at g1⊢;rw[Rm hm.hr hi,e5]at g1⊢;refine Qd ⟨(k+1,F2,G2,L2),?_,⟨ζ,rfl,g1,λq hq=>(g2 q hq).trans (hG q hq),ζ,g4⟩,Qbn,Tv⟩;show c.U.length-(k+1)<c.U.length-k;omega
section
variable {S:Store} {v o0 o1 o2 fv:AV} {xw s p:Nat} {w:Wld}
def za4{U:List Unt}(hv:RowsQ 10 zf S v U)(hl:U.length<=1000000)(id:Int)(R:Ja)(h:R (y9 (z8 U id)) S):Jb 42 [v,int id] S R:=by
 obtain⟨oa,cap,e,hget⟩:=hv.form;subst e;refine Qy 24 Tryz.func42 ?_
 refine AWp.loop (σ:=Nat×AV) ⟨λx=>[(1,.av (int id)),(4,.av x.2),(7,.av (.s (.slice oa U.length cap))),(8,.av (int (U.length:Nat))),(9,.av (int (x.1:Nat)))],λ_=>[],
  λx st'=>x.1<=U.length/\App 1 S x.2 (rws zx (z8 (U.take x.1) id)) st',λx=>U.length-x.1⟩ zb ?_ ?_
 ·exact⟨(0,_),Tv,⟨Fad _,App.start 1 S⟩,⟨Tq,Tq,Tq,Tq,Tq,Tv⟩,Tv⟩
 rintro⟨i,v2⟩ st' ⟨hi,hap⟩;dsimp only at hi hap⊢;refine bcd (λh1=>?_) λh1=>?_;rotate_left
 ·have:i=U.length:=θ;subst this;rw[Fak]at hap;exact⟨_,_,hap.le,hap.has,h⟩
 have hlt:i<U.length:=θ;have hs:=f0 hlt id;have hl1:(z8 (U.take i) id).length<=1000000:=by have h1:=O6 (l:=U) i id;have h2:(z8 U id).length<=U.length:=θk;omega
 obtain⟨b,J,e2,hob⟩:=hget i hlt;have hob:st'.obj b=some (.cells ((rws zf U).flatten++J)):=by rw[hap.obj];exact hob
 subst e2;refine⟨i,rfl,hlt,Qbs (yq (i:=ti36) (row:=zf U[i]) rfl rfl (xt yn hlt) (zt (λc1=>?_) λc1=>?_))⟩
 ·rw[if_pos c1]at hs;refine⟨ψ,Ba (ie:=ti2) (rows':=[zx U[i].id]) hap ?_ ?_ ⟨?_,?_⟩ λv3 st3 ha3=>?_⟩
  ·rfl
  ·rfl
  ·simp only[zl,Fao,ti2];omega
  ·simp only[zl,Fao];omega
  refine Qd ⟨(i+1,v3),?_,⟨ζ,?_⟩,Qbn,Tv⟩
  ·show U.length-(i+1)<U.length-i;omega
  ·dsimp only;rw[hs];unfold rws at ha3⊢;rw[Fa8];exact ha3
 ·rw[if_neg c1,Fbl]at hs;refine Qd ⟨(i+1,v2),?_,⟨ζ,?_⟩,Qbn,Tv⟩
  ·show U.length-(i+1)<U.length-i;omega
  ·dsimp only;rw[hs];exact hap
def yoa{c:Cmd}(ha:AtW S xw s p w v o0 o1 o2 c fv)(hr:yr w.U)(hU:w.U.length<=1000000)(hc:c.U.length<=1000000)(fn:FuncId)(cap:List AV)(more:Unt->Int)
  (hf:∀id,xm w c.P id=0->∀st',(∀q,st'.obj q=S.obj q)->∀R:AV->Store->Prop,R (int (more (uAt w id))) st'->Jb fn ([.agg (zf (uAt w id))]++cap) st' R) (E:Int->Int) (hE:∀id,E id=if xm w c.P id=0 then more (uAt w id)else xm w c.P id) (R:Ja)
  (h:jk E c.U=0->R (.tup [lst 10 zf (c.U.map (uAt w)),int 0]) S) (h':jk E c.U≠0->R (.tup [.s (.slice none 0 0),int (jk E c.U)]) S):Jb 238 [ptr xw,.clos fn cap] S R:=by
 refine Qy 44 Tryz.func238 ?_;refine zoo ha.hx ?_
 refine AWp.loop (σ:=Nat×AV) ⟨λx=>[(0,.av (ptr xw)),(1,.av (.clos fn cap)),(4,.av x.2),(14,.av (y9 c.U)),(15,.av (int (c.U.length:Nat))),(16,.av (int (x.1:Nat)))],λ_=>[],
  λx st'=>x.1<=c.U.length/\App 10 S x.2 (rws zf ((c.U.take x.1).map (uAt w))) st'/\∀j,(hj:j<c.U.length)->j<x.1->E c.U[j]=0,λx=>c.U.length-x.1⟩ zb ?_ ?_
 ·refine⟨(0,_),Tv,⟨Fad _,App.start 10 S,λj _ hj=>θ⟩,⟨Tq,Tq,Tq,Tq,?_,Tq,Tv⟩,Tv⟩;rw[<-zl (f:=zx) c.U];exact Tq
 rintro⟨i,v2⟩ st' ⟨hi,hap,hall⟩;dsimp only at hi hap hall⊢;refine bcd (λh1=>?_) λh1=>?_;rotate_left
 ·have:i=c.U.length:=θ;subst this;rw[Fak]at hap;exact⟨_,_,AV.le_tupL (xs:=[v2,int 0]) (ys:=[lst 10 zf (c.U.map (uAt w)),int 0]) ⟨AV.le_trans hap.le (Tt),Tt,Tv⟩,hap.has,h (Pq λj hj=>hall j hj hj)⟩
 have hlt:i<c.U.length:=θ;have hEi:=hE c.U[i];have ha':AtW st' xw s p w v o0 o1 o2 c fv:=⟨by rw[hap.obj];exact ha.hx,by rw[hap.obj];exact ha.hs,ha.hr.sub λ_ _ _ _=>by rw[hap.obj]⟩
 have bad:E c.U[i]≠0->R (.tup [.s (.slice none 0 0),int (E c.U[i])]) S:=λhne=>by have e:=Cw hlt hall hne;have:=h' (by rw[e];exact hne);rw[e]at this;exact this
 refine⟨i,rfl,za _ (zn hlt) (li ha' hr hU c.U[i] _ (zt (λc1=>?_) λc1=>?_))⟩;rotate_left
 ·rw[if_neg c1]at hEi;rw[hEi]at bad;exact qd (λc2=>⟨_,_,Tt,hap.has,bad c1⟩) λc2=>absurd c2 c1
 rw[if_pos c1]at hEi;refine hf c.U[i] c1 st' (λq=>by rw[hap.obj]) _ ?_;rw[hEi]at bad;refine qd (λc2=>?_) λc2=>?_
 ·exact⟨_,_,Tt,hap.has,bad c2⟩
 rw[c2]at hEi;refine⟨ψ,Ba (ie:=ti36) (rows':=[zf (uAt w c.U[i])]) hap ?_ ?_ ⟨?_,?_⟩ λv3 st3 ha3=>?_⟩
 ·rfl
 ·rfl
 ·simp only[zl,Fas,Fam,Fao,ti36];omega
 ·simp only[zl,Fas,Fam,Fao];omega
 refine Qd ⟨(i+1,v3),?_,⟨ζ,?_,λj hj hji=>?_⟩,Qbn,Tv⟩
 ·show c.U.length-(i+1)<c.U.length-i;omega
 ·dsimp only;rw[Fab hlt,Fa8];unfold rws at ha3⊢;rw[Fa8];exact ha3
 ·by_cases e:j=i
  ·subst e;exact hEi
  ·exact hall j hj ψh
def zds{c:Cmd}(ha:AtW S xw s p w v o0 o1 o2 c fv)(hr:yr w.U)(hU:w.U.length<=1000000)(R:Ja)(h:R (.tup [.agg (zf (uAt w c.N)),int (vj w c.P c.N)]) S):Jb 244 [ptr xw] S R:=by
 unfold vj at h;refine Qy 27 Tryz.func244 ?_;refine zoo ha.hx (li ha hr hU c.N _ (zt (λc1=>?_) λc1=>?_))
 ·rw[if_pos c1]at h;refine kj _ _ _ (zt (λc2=>?_) λc2=>?_)
  ·rw[if_pos c2]at h;exact ret h
  ·rw[if_neg c2]at h;rw[<-c1]at h;exact ret h
 ·rw[if_neg c1]at h;exact ret h
def ygf(x u:Unt)(hx:x.pos.ok)(hu:u.pos.ok)(pb:Nat)(st:Store)(hb:st.obj pb=some (.cells (zf x)))(R:Ja)(h:R (int (Ag x u)) st):Jb 245 ([.agg (zf u)]++[ptr pb]) st R:=by
 unfold Ag at h;refine Qy 16 Tryz.func245 ?_;refine kj _ _ _ (bcd (λc1=>?_) λc1=>?_)
 ·rw[if_pos c1]at h;exact ret h
 rw[if_neg c1]at h;refine Qbs (zcd u.pos x.pos hu hx _ _ (bcd (λc2=>?_) λc2=>?_))
 ·rw[if_pos c2]at h;exact ret h
 ·rw[if_neg c2]at h;exact ret h
end
section
variable {F G:Store} {xw s p:Nat} {w:Wld} {v o0 o1 o2 fv:AV}
theorem Work.add{L:List Ent}{c:Cmd}(h:Work F G xw s p w v L o0 o1 o2 c fv){pb:Nat}(hpb:Fresh (F.un (svS G s w v o0 o1 o2 p)) pb)(z:AObj):
  Work F (G.sO pb z) xw s p w v L o0 o1 o2 c fv/\(F.un (svS G s w v o0 o1 o2 p)).sO pb z=F.un (svS (G.sO pb z) s w v o0 o1 o2 p)/\xz v pb/\pb≠s:=by
 have hx1:¬F.has pb/\¬(svS G s w v o0 o1 o2 p).has pb:=by have:=fresh_iff.1 hpb;exact⟨λh=>this (un_has.2 (.inl h)),λh=>this (un_has.2 (.inr h))⟩
 have hne:pb≠s:=λe=>hx1.2 (svS_has.2 (.inl e));have hxN:¬G.has pb:=λh=>hx1.2 (svS_has.2 (.inr h));have hxw:pb≠xw:=λe=>hxN (by rw[e];exact xf h.hx);have off:=Cp h.S.hu (k8 hxN).1;refine⟨⟨⟨h.S.hc,λi h1 h2=>?_,?_,h.S.hu.set off _,h.S.h0,h.S.h1,h.S.h2⟩,?_,h.ox,h.os,h.hL,h.hF⟩,?_,off,hne⟩
 ·rcases svS_has.1 h2 with rfl|h2
  ·exact h.S.hd _ h1 (svS_has.2 (.inl rfl))
  ·by_cases hi:i=pb
   ·subst hi;exact hx1.1 h1
   ·refine h.S.hd _ h1 (svS_has.2 (.inr ?_));rcases h2 with h2|h2
    ·rw[zj hi]at h2;exact .inl h2
    ·exact .inr h2
 ·rw[zj (Ne.symm hne)];exact h.S.hs
 ·rw[zj (Ne.symm hxw)];exact h.hx
 ·rw[yd];unfold svS;rw[F7 hne]
def zav{c:Cmd}(h:vj w c.P c.N≠0):ldE w c=vj w c.P c.N:=by unfold ldE;rw[if_neg h]
def Mp{c:Cmd}(h:vj w c.P c.N=0)(h2:jk (ldA w c.P c.N) c.U≠0):ldE w c=jk (ldA w c.P c.N) c.U:=by unfold ldE;rw[if_pos h,if_neg h2]
def zau{c:Cmd}(h:vj w c.P c.N=0)(h2:jk (ldA w c.P c.N) c.U=0):ldE w c=if j2 (uAt w c.N).kind<((z8 w.U c.N).length:Int)+(c.U.length:Int)then 4 else 0:=by unfold ldE;rw[if_pos h,if_pos h2]
def zfi{L:List Ent}{c:Cmd}(hW:Work F G xw s p w v L o0 o1 o2 c fv)(hmp:ya w)(hn:∀u∈w.U,u.pos.ok)(hc:c.U.length<=64)(hN:1<=c.N)(R:Ja)
  (h:∀S',ldE w c≠0->R (int (ldE w c)) S') (h0:ldE w c=0->∀S',Df S' xw s c fv (ldW w c)->R (int 0) S'):Jb 164 [ptr xw] (F.un (svS G s w v o0 o1 o2 p)) R:=by
 have hm:=xh hmp;have hU:=hm.hU;have hLl:=hW.hL;obtain⟨oa,cap,e,hget⟩:=hW.S.hu.form;subst e;refine Qa (c:=cfg 65 [3] []) zb Tryz.func164 ?_;refine zds ⟨hW.x,hW.s,hW.r⟩ hm.hr θ _ ?_;intro pb hpb;refine jq (i:=ti36) (v:=.agg (zf (uAt w c.N))) (xs:=zf (uAt w c.N)) (b:=pb) (o:=0) (l:=_) rfl rfl rfl (zd _ _ _) (show 0+10<=10 by decide) ?_;obtain⟨hW1,e1,off1,hps⟩:=hW.add hpb (.cells (zf (uAt w c.N)));have e3:∀l:List AV,l.length=10->zv l 0 (zf (uAt w c.N))=zf (uAt w c.N):=λl hl=>by unfold zv;rw[Fcj,Fc6,Fbg,yn,Fcm θ,Fbl]
 rw[yy,e3 _ (by simp[ti36]),e1];have hx:=hW1.x (F':=F) (q0:=o0) (q1:=o1) (q2:=o2);have hs:=hW1.s (F':=F) (q0:=o0) (q1:=o1) (q2:=o2);have hr:=hW1.r (F':=F) (q0:=o0) (q1:=o1) (q2:=o2);have hgb:(G.sO pb (.cells (zf (uAt w c.N)))).obj pb=some (.cells (zf (uAt w c.N))):=zd _ _ _;generalize G.sO pb (.cells (zf (uAt w c.N)))=G0 at*;have hb:(F.un (svS G0 s w (.s (.slice oa w.U.length cap)) o0 o1 o2 p)).obj pb=some (.cells (zf (uAt w c.N))):=zg (by show(G0.sO s _).obj pb=_;rw[zj hps];exact hgb);refine qd (λc1=>?_) λc1=>?_
 ·have:=zav c1;rw[this]at h;exact ret (h _ c1)
 obtain⟨hask,hroom⟩:=Pk c1;obtain⟨ix,hix,hfx,hidx,hux,_,_⟩:=Ce hask;have hrm:=yg9 hmp hix θ;rw[hidx]at hrm;rw[hux]at hroom hb;have hkb:=K7 w.U[ix].kind;have hin:(z8 w.U c.N).length<=w.U.length:=θk;rw[hux];refine Qc zb zyc (zoo hb (zoo hx (zoo hs (zoo hb ⟨kj _ _ _ ⟨Qe,?_⟩,Tv⟩))));rw[hidx];refine⟨za4 hr θ c.N _ ⟨Qe,ze θi (Qbr ?_)⟩,Tv⟩;rw[zl];refine yoa ⟨hx,hs,hr⟩ hm.hr θ θ _ _ (Ag w.U[ix]) (λid hid st' ho R h=>ygf w.U[ix] (uAt w id) (hn _ (Faa hix)) (ni hn id) pb st' (by rw[ho];exact hb) R h) (ldA w c.P c.N) (λid=>by unfold ldA;rw[hux]) _ (λhe=>?_) λhe=>?_;rotate_left
 ·have e5:=Mp c1 he;refine bcd (λh1=>absurd h1 θ) λ_=>AWp.loop (σ:=Unit) ⟨λx=>[(4,.av (int (ldE w c))),(45,.av (int 0)),(46,.av (int 0))],λ_=>[],λx st'=>True,λx=>0⟩ zb ?_ ?_
  ·refine⟨(),Tv,Tv,⟨?_,Tq,Tq,Tv⟩,Tv⟩;rw[e5];exact Tq
  rintro⟨⟩ st' _;exact ret (h _ (by rw[e5];exact he))
 have hzero:=Gu he;have e5:=zau c1 he;rw[hux]at e5;refine bcd (λh1=>?_) λh1=>?_
 ·rw[zl,Fas]at h1;rw[if_pos θ]at e5;rw[e5]at h;exact ret (h _ ψ)
 rw[zl,Fas]at h1;rw[if_neg θ]at e5
 refine AWp.loop (σ:=Nat×Store×Store×List Ent) ⟨λx=>[(0,.av (ptr xw)),(3,.av (ptr pb)),(4,.av (int 0)),(44,.av (lst 10 zf (c.U.map (uAt w)))),(45,.av (int (c.U.length:Nat))),(46,.av (int (x.1:Nat)))],λ_=>[],
  λx st'=>x.1<=c.U.length/\st'=x.2.1.un (svS x.2.2.1 s {w with U:=yx (c.U.take x.1) (ldU c.N) w.U} (.s (.slice oa w.U.length cap)) o0 o1 o2 p)/\StandR x.2.1 x.2.2.1 s p {w with U:=yx (c.U.take x.1) (ldU c.N) w.U} (.s (.slice oa w.U.length cap)) x.2.2.2 o0 o1 o2/\(∀q,xz (.s (.slice oa w.U.length cap)) q->x.2.2.1.obj q=G0.obj q)/\x.2.2.2.length<=L.length+x.1/\∀e∈x.2.2.2,e.2.ok,λx=>c.U.length-x.1⟩ zb ?_ ?_
 ·refine⟨(0,F,G0,L),Tv,⟨Fad _,?_,?_,λ_ _=>rfl,ζ,Kw hW.hF hn⟩,⟨Tq,Tq,Tq,Tq,?_,Tq,Tv⟩,Tv⟩
  ·dsimp only;rw[Fcj,Ma]
  ·dsimp only;rw[Fcj,Ma];exact hW1.S
  ·have e:(c.U.length:Int)=((rws zf (c.U.map (uAt w))).length:Int):=by rw[zl,Fas]
   rw[e];exact Tq
 rintro⟨k,F1,G1,L1⟩ st' ⟨hk,rfl,hS,hG,hL,hok⟩;dsimp only at hk hS hG hL hok⊢;have hx2:(F1.un (svS G1 s {w with U:=yx (c.U.take k) (ldU c.N) w.U} (.s (.slice oa w.U.length cap)) o0 o1 o2 p)).obj xw=some (.cells (wkC s c fv)):=zg (by show(G1.sO s _).obj xw=_;rw[zj hW1.ne,hG xw hW1.ox];exact hW1.hx);have hb2:(F1.un (svS G1 s {w with U:=yx (c.U.take k) (ldU c.N) w.U} (.s (.slice oa w.U.length cap)) o0 o1 o2 p)).obj pb=some (.cells (zf w.U[ix])):=zg (by show(G1.sO s _).obj pb=_;rw[zj hps,hG pb off1,hgb,hux]);refine bcd (λh1=>?_) λh1=>?_;rotate_left
 ·have:k=c.U.length:=θ;subst this;rw[Fak]at hS hx2⊢;exact ret (h0 e5 _ ⟨_,o0,o1,o2,p,hx2,zg (Bd _ _ _ _ _ _ _ _),(H2 hS.hs hS.hu).un⟩)
 have hlt:k<c.U.length:=θ;obtain⟨i,hi,hf,hid,hu,how,hin⟩:=Ce (fj (hzero c.U[k] (Faa hlt))).1;have hlm:k<(c.U.map (uAt w)).length:=by rw[Fas];exact hlt
 refine⟨k,rfl,za _ (zn hlm) ?_⟩;have hgm:(c.U.map (uAt w))[k]=w.U[i]:=by rw[Fbp,hu]
 rw[hgm];refine cy w.U[i] _ _ (zoo hb2 (Qc zb zyd (zoo hx2 ?_)));have hi2:i<(yx (c.U.take k) (ldU c.N) w.U).length:=by rw[wd];exact hi
 refine⟨R4 hS hW1.os (b7 (g:=ldU c.N) (λ_=>rfl) hm.hr) (by rw[wd];omega) θ hok hi2 (ldU w.U[ix].id w.U[i]) (Rn (g:=ldU c.N) (λ_=>rfl) hi) (show Vc.ok (0,0) by unfold Vc.ok ym;decide) _ λF2 G2 L2 g1 g2 g3 g4=>⟨Tv,?_⟩,Tv⟩;have e6:c.U.take k++[w.U[i].id]=c.U.take (k+1):=by rw[Fab hlt,hid]
 dsimp only at g1⊢;rw[hidx,Rm hm.hr hi,e6]at g1⊢;refine Qd ⟨(k+1,F2,G2,L2),?_,⟨ζ,rfl,g1,λq hq=>(g2 q hq).trans (hG q hq),ζ,g4⟩,Qbn,Tv⟩;show c.U.length-(k+1)<c.U.length-k;omega
end
section
variable {S:Store} {w:Wld} {v:AV}
def Qao{p:Prop}(h:p:=by rw[Faf];exact hi2):p:=h
def Qap{p:Prop}(h:p:=by rw[Fbm];rfl):p:=h
def Qaq{p:Prop}(h:p:=by rw[Faf];exact e8):p:=h
def cu(w:Wld)(hU:w.U.length<=1000000)(id:Int)(st:Store)(R:Ja)(h:R (int (Bz (qa w.U id))) st):Jb 48 [.agg (zp w),int id] st R:=ct w hU id st R h
def Gc(hv:RowsQ 10 zf S v w.U)(hU:w.U.length<=1000000)(id:Int)(R:Ja)(h:R (int (Bz (qa w.U id))) S):Jb 48 [.agg (zz w v),int id] S R:=
 ACalls.read (ys:=[.agg (zp w),int id]) (Q:=λr=>r=int (Bz (qa w.U id))) (λOth M W vs sto hr=>θ7) (cu w hU id _ _ rfl) (λr hr=>hr▸Cu _) λr hr=>hr▸h
def de(w:Wld)(hU:w.U.length<=1000000)(P id:Int)(st:Store)(R:Ja)(h:R (int (xm w P id)) st):Jb 175 [.agg (zp w),int P,int id] st R:=by
 refine Qy 28 Tryz.func175 ?_;refine cu w hU id _ _ (bcd (λc1=>?_) λc1=>?_)
 ·cases hf:qa w.U id with
  |none=>
   rw[(Wd (P:=P) hf).1]at h;exact ret h
  |some i=>rw[hf]at c1;exact absurd c1 (by show¬((i:Int)<0);omega)
 cases hf:qa w.U id with
 |none=>rw[hf]at c1;exact absurd (show(-1:Int)<0 by decide) c1
 |some i=>
  obtain⟨hi,e,e2⟩:=Nm hf;rw[lj (P:=P) hf hi]at h;refine⟨i,rfl,za _ (zn hi) (qd (λc2=>?_) λc2=>?_)⟩
  ·rw[if_neg c2]at h;exact ret h
  rw[if_pos c2]at h;refine⟨i,rfl,za _ (zn hi) (qd (λc3=>?_) λc3=>?_)⟩
  ·rw[if_neg c3]at h;exact ret h
  ·rw[if_pos c3]at h;exact ret h
def yc9(w:Wld)(hU:w.U.length<=1000000)(c:Cmd)(hc:c.U.length<=1000000)(st:Store)(R:Ja)(h:R (int (jk (xm w c.P) c.U)) st):Jb 115 [.agg (zp w),.agg (yh c)] st R:=by
 refine Qy 26 Tryz.func115 ?_
 refine AWp.loop (σ:=Nat) ⟨λi=>[(2,.bx 2 0),(3,.bx 3 0),(5,.av (int (i:Nat)))],λ_=>[(2,zp w),(3,yh c)],
  λi st'=>i<=c.U.length/\st'=st/\∀j,(hj:j<c.U.length)->j<i->xm w c.P c.U[j]=0,λi=>c.U.length-i⟩ zb ?_ ?_
 ·exact⟨0,Tv,⟨Fad _,rfl,λj _ hj=>θ⟩,Qbn,⟨rfl,rfl,Tv⟩⟩
 rintro i st' ⟨hi,rfl,hall⟩;refine zh (λh1=>?_) λh1=>?_;rotate_left
 ·have:i=c.U.length:=qw h1 hi;subst this;rw[Pq λj hj=>hall j hj hj]at h;exact ret h
 have hlt:=qn h1;refine Qc zb zz2 ⟨i,rfl,za _ (zn hlt) ⟨de w hU c.P c.U[i] _ _ ⟨Tv,Qbr (qd (λc1=>?_) λc1=>?_)⟩,Tv⟩⟩
 ·rw[Cw hlt hall c1]at h;exact ret h
 refine Qd ⟨i+1,?_,⟨θ,rfl,λj hj hji=>?_⟩,Qbn,⟨rfl,rfl,Tv⟩⟩
 ·show c.U.length-(i+1)<c.U.length-i;omega
 ·by_cases e:j=i
  ·subst e;exact c1
  ·exact hall j hj θ
def sr(hv:RowsQ 10 zf S v w.U)(hU:w.U.length<=1000000)(c:Cmd)(hc:c.U.length<=1000000)(R:Ja)(h:R (int (jk (xm w c.P) c.U)) S):Jb 115 [.agg (zz w v),.agg (yh c)] S R:=
 ACalls.read (ys:=[.agg (zp w),.agg (yh c)]) (Q:=λr=>r=int (jk (xm w c.P) c.U)) (λOth M W vs sto hr=>θ7) (yc9 w hU c hc _ _ rfl) (λr hr=>hr▸Cu _) λr hr=>hr▸h
def Vj{b i j:Nat}{U:List Unt}{J:List AV}{x':Unt}{y:AV}(ho:S.obj b=some (.cells ((rws zf U).flatten++J)))(hi:i<U.length)(hj:j+1<=10)(hx:zf x'=zv (zf U[i]) j [y]):(S.sO b (.cells (zv ((rws zf U).flatten++J) (0+i*10+j) [y]))).obj b=some (.cells ((rws zf (U.set i x')).flatten++J)):=by rw[zd,Fbg,Gz (f:=zf) (k:=10) (x':=x') yn hi hj hx]
def zew:List AV:=[int 0,int 0,int 0,int 0,int 0,.s (.slice none 0 0),.s (.slice none 0 0),.s (.slice none 0 0)]
theorem zb4{l:List Int}{g:Unt->Unt}(hg:∀u,(g u).id=u.id)(U:List Unt)(id:Int):qa (yx l g U) id=qa U id:=by
 unfold qa yx;rw[Feh]
 congr 1
 funext u
 simp only[Function.comp];split
 ·rw[hg]
 ·rfl
def yc3(w:Wld)(hw:w.fits)(hn:∀u∈w.U,u.pos.ok)(hU:w.U.length<=1000000)(c:Cmd)(hc:c.fits)(hK:c.K=3):Jb 72 [.agg (zp w),.agg (yh c)] Store.empty (DoQ stE stW w c):=by
 refine Qa (c:=cfg 97 [6] []) zb Tryz.func72 ?_;have bad:(¬ya w\/¬js c\/w.players<c.P)->DoQ stE stW w c (.tup [.agg (zp w),int 1]) Store.empty:=λhb=>by have he:=Gq (E:=stE) (w:=w) (c:=c) hb;exact .inl ⟨θa,by rw[he]⟩
 refine Ga w hw hn _ _ λz hz=>ye (zh (λc1=>?_) λc1=>?_);rotate_left
 ·exact ret (bad (.inl λhh=>θg))
 refine I3 c hc _ _ λzc hzc=>ye (zh (λc2=>?_) λc2=>?_);rotate_left
 ·exact ret (bad (.inr (.inl λhh=>θr)))
 refine bcd (λc3=>?_) λc3=>?_
 ·exact ret (bad (.inr (.inr θ)))
 have hm:=hz.1 c1;have hcp:=hzc.1 c2;have mf:=xh hm;have he:=Hp (E:=stE) hm hcp (show c.P<=w.players by omega);have hok:=(Cmd.ok3 hK).1 hcp.1;have hcU:=hok.1.2;refine I2 w hw hU _ _ λv N hv _=>?_;rw[Bc];have hv:=hv.q;have hoff:=λ(p:Nat) (hp:Fresh N p)=>Cp hv (k8 (fresh_iff.1 hp)).1;obtain⟨oa,cap,e,_⟩:=hv.form;subst e;refine λp hp=>jq (i:=ti27) (v:=.agg (zz w (.s (.slice oa w.U.length cap)))) (xs:=zz w (.s (.slice oa w.U.length cap))) (b:=p) (o:=0) (l:=_) rfl rfl rfl (zd _ _ _) (show 0+8<=8 by decide) ?_;generalize hS:(N.sO p _).sO p _=S;have hp2:S.obj p=some (.cells (zz w (.s (.slice oa w.U.length cap)))):=θs;have hr2:RowsQ 10 zf S (.s (.slice oa w.U.length cap)) w.U:=θt;have hofp:=hoff p hp;clear hS;refine zt (λh=>absurd (hK.symm.trans h) ψ) λ_=>zt (λh=>absurd (hK.symm.trans h) ψ) λ_=>zt (λ_=>Qbs (sr hr2 hU c θ _ ?_)) λh=>absurd hK h;have hst:jk (xm w c.P) c.U=stE w c:=rfl;rw[hst]
 refine AWp.loop (σ:=Nat×Store) ⟨λx=>[(2,.bx 2 0),(3,.bx 3 0),(4,.bx 4 0),(6,.av (ptr p)),(7,.av (int (stE w c))),(8,.av (int (x.1:Nat)))],λ_=>[(2,zp w),(3,yh c),(4,zew)],
  λx st'=>x.1<=c.U.length/\(stE w c≠0->x.1=0)/\st'=x.2/\x.2.obj p=some (.cells (zz w (.s (.slice oa w.U.length cap))))/\RowsQ 10 zf x.2 (.s (.slice oa w.U.length cap)) (yx (c.U.take x.1) j7 w.U),λx=>c.U.length-x.1⟩ zb ?_ ?_
 ·refine⟨(0,S),Tv,⟨Fad _,λ_=>rfl,rfl,hp2,?_⟩,Qbn,⟨rfl,rfl,rfl,Tv⟩⟩;dsimp only;rw[Fcj,Ma];exact hr2
 rintro⟨k,S0⟩ S1 ⟨hk,hk0,rfl,hp1,hr1⟩;dsimp only at hk hk0 hp1 hr1⊢;have fin:k=c.U.length->stE w c=0->DoQ stE stW w c (.tup [.agg (zz (stW w c) (.s (.slice oa w.U.length cap))),int 0]) S1:=λe h0=>by subst e;rw[Fak]at hr1;exact .inr ⟨he.trans h0,_,hr1,rfl⟩
 by_cases h0:stE w c=0;rotate_left
 ·have hk0:=hk0 h0;subst hk0;have out:DoQ stE stW w c (.tup [.agg (zp w),int (stE w c)]) S1:=.inl ⟨by rw[he];exact h0,by rw[he]⟩;refine zh (λh1=>?_) λh1=>?_
  ·exact zt (λh2=>absurd h2 h0) λ_=>qd (λ_=>ret out) λh=>absurd h h0
  ·exact qd (λ_=>ret out) λh=>absurd h h0
 rw[h0];refine zh (λh1=>?_) λh1=>?_;rotate_left
 ·have hkl:k=c.U.length:=qw h1 hk;exact Qbs (ret (fin hkl h0))
 have hlt:=qn h1;obtain⟨i,hi,hf,hid,hu,how,hin⟩:=Ce (Gu h0 c.U[k] (Faa hlt));have hi2:i<(yx (c.U.take k) j7 w.U).length:=by rw[wd];exact hi
 have hf2:qa (yx (c.U.take k) j7 w.U) c.U[k]=some i:=by rw[zb4 (g:=j7) (λ_=>rfl)];exact hf
 rcases hr1 with(⟨_,hl0⟩|⟨b,cap',J,e,ho,hc1,hc2,hc3⟩)|⟨_,_,_,hl0⟩
 ·rw[hl0]at hi2;exact absurd hi2 (Fau i)
 rotate_left
 ·rw[hl0]at hi2;exact absurd hi2 (Fau i)
 simp only[AV.s.injEq,Value.slice.injEq]at e;obtain⟨rfl,e7,rfl⟩:=e;have hcap:0<cap:=θ;have hbp:b≠p:=hofp b _ _ rfl hcap;refine Qc zb zvo (Qbs (Qbs ?_));refine⟨k,rfl,za _ (zn hlt) ⟨Gc (w:={w with U:=yx (c.U.take k) j7 w.U}) (.inl (.inr ⟨b,cap,J,by rw[e7],ho,hc1,hc2,hc3⟩)) (by rw[wd];exact hU) c.U[k] _ ⟨Qe,?_⟩,Tv⟩⟩;dsimp only;rw[hf2];refine⟨i,rfl,hi,Qbr ?_⟩;have hlen:∀U2:List Unt,U2.length=w.U.length->i*10+10<=((rws zf U2).flatten++J).length:=λU2 h=>by rw[Fae,qr yn];omega
 have e8:(yx (c.U.take k) j7 w.U).length=w.U.length:=wd _ _ _;have hl0:=hlen _ e8;have hidk:(yx (c.U.take k) j7 w.U).set i (j7 (yx (c.U.take k) j7 w.U)[i])=yx (c.U.take (k+1)) j7 w.U:=by
  have e5:c.U.take k++[w.U[i].id]=c.U.take (k+1):=by rw[Fab hlt,hid]
  have e6:j7 ((yx (c.U.take k) j7 w.U)[i])=j7 w.U[i]:=by rw[Mb hi];split<;>rfl
  rw[e6,Rm mf.hr hi,e5]
 generalize hgU:yx (c.U.take k) j7 w.U=U1 at*;refine xo (i:=ti2) (v:=int (-1)) (b:=b) (o:=0+i*10+5) (l:=(rws zf U1).flatten++J) rfl rfl rfl ho (show 0+i*10+5+1<=_ by omega) ?_;have q1:=Vj (x':={U1[i]with goal:=-1}) (y:=int (-1)) (j:=5) ho hi2 ψ rfl;have p1:=(zj (st:=S1) (x:=.cells (zv ((rws zf U1).flatten++J) (0+i*10+5) [int (-1)])) (Ne.symm hbp)).trans hp1;generalize S1.sO b _=S2 at q1 p1⊢;have hl1:=hlen (U1.set i {U1[i]with goal:=-1}) Qaq;refine xo (i:=ti2) (v:=int (-1)) (b:=b) (o:=0+i*10+6) (l:=_) rfl rfl rfl q1 (show 0+i*10+6+1<=_ by omega) ?_;have q2:=Vj (x':={U1[i]with goal:=-1,next:=-1}) (y:=int (-1)) (j:=6) q1 Qao ψ Qap;rw[Fbr]at q2;have p2:=(zj (st:=S2) (x:=.cells (zv ((rws zf (U1.set i {U1[i]with goal:=-1})).flatten++J) (0+i*10+6) [int (-1)])) (Ne.symm hbp)).trans p1;generalize S2.sO b _=S3 at q2 p2⊢;have hl2:=hlen (U1.set i {U1[i]with goal:=-1,next:=-1}) Qaq;refine xo (i:=ti2) (v:=int 0) (b:=b) (o:=0+i*10+7) (l:=_) rfl rfl rfl q2 (show 0+i*10+7+1<=_ by omega) ?_;have q3:=Vj (x':={U1[i]with goal:=-1,next:=-1,stuck:=0}) (y:=int 0) (j:=7) q2 Qao ψ Qap;rw[Fbr]at q3;have p3:=(zj (st:=S3) (x:=.cells (zv ((rws zf (U1.set i {U1[i]with goal:=-1,next:=-1})).flatten++J) (0+i*10+7) [int 0])) (Ne.symm hbp)).trans p2;generalize S3.sO b _=S4 at q3 p3⊢;have hl3:=hlen (U1.set i {U1[i]with goal:=-1,next:=-1,stuck:=0}) Qaq;refine xo (i:=ti2) (v:=int 0) (b:=b) (o:=0+i*10+9) (l:=_) rfl rfl rfl q3 (show 0+i*10+9+1<=_ by omega) ?_;have q4:=Vj (x':=j7 U1[i]) (y:=int 0) (j:=9) q3 Qao ψ Qap;rw[Fbr,hidk]at q4;have p4:=(zj (st:=S4) (x:=.cells (zv ((rws zf (U1.set i {U1[i]with goal:=-1,next:=-1,stuck:=0})).flatten++J) (0+i*10+9) [int 0])) (Ne.symm hbp)).trans p3;generalize S4.sO b _=S5 at q4 p4⊢;refine Qd ?_;have e9:(yx (c.U.take (k+1)) j7 w.U).length=w.U.length:=wd _ _ _;refine⟨(k+1,S5),?_,⟨ζ,λh=>absurd rfl h,rfl,p4,.inl (.inr ⟨b,cap,J,by rw[e9],q4,by rw[e9,<-e8];exact hc1,by rw[e9,<-e8];exact hc2,hc3⟩)⟩,⟨Tq,Tq,Tq,Tq,?_,Tq,Tv⟩,⟨rfl,rfl,rfl,Tv⟩⟩
 ·show c.U.length-(k+1)<c.U.length-k;omega
 ·exact Tq
def ycf:Kf 3 stE stW:=λw hw hn hU c hc hK R h=>Lf (yc3 w hw hn hU c hc hK) R h
end
end Go.Proofs
