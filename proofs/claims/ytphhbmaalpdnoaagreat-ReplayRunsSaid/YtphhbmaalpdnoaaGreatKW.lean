/- Lemmas of thronglaw29; no conditions. -/
import Derived.Test.YtphhbmaalpdnoaaGreatKV
import Derived.Test.YtphhbmaalpdnoaaGreatKU
set_option linter.unusedSimpArgs false
set_option linter.unusedVariables false
set_option linter.defProp false
open List renaming length→Γ
open Option renaming some→Δ,none→Θ
namespace Go.Proofs
open Go Go.V Tryz
set_option maxRecDepth 20000
set_option maxHeartbeats 4000000
def Rl{g:Gnd}{t way:Nat}(b:way<8):(rws zx (j4 g t))[way]?=Δ (zx (yi g t way)):=by
 have a:way<(j4 g t).length:=by rw[L6];exact b
 rw[zm a];unfold yi;rw[Fbo,Fac a];rfl
def Vp(g:Gnd)(ok:Nat->Bool)(c:Int)(t way:Nat):Int:=if ok t then qk g ok c t way else 0
def za8{g:Gnd}(H:zt g){l:List Bld}{c s:Int}(hc:c=0\/c=1\/c=2)(t:Nat)(v:t<Γ g.T)(way:Nat)(hw:way<8)(S:Store)(R:Ja)
  (h:R (int (Vp g (zn g l c s) c t way)) S):Jb 449 [.agg (zq g),Fw g l c s,int c,int (t:Nat),yq (j4 g t),int (way:Nat),int (-1)] S R:=by
 have o:∀u,u<Γ g.T->u<(blL (Γ g.T) (zn g l c s)).length:=λu hu=>by rw[jd];exact hu
 have p1:=Nn c (g.T[t]).toNat;unfold Vp at h;refine Qy 113 func449 ?_;refine⟨way,rfl,J _ (Rl hw) ?_⟩;have K:=K0 H t hw;have k:=λh=>ui (g:=g) (ok:=zn g l c s) (c:=c) (t:=t) (w:=way) h;have b:=λh=>uk (g:=g) (ok:=zn g l c s) (c:=c) (t:=t) (w:=way) h;have B:=Pg (g:=g) (ok:=zn g l c s) (c:=c) (t:=t) (w:=way);have n:=λh=>uj (g:=g) (ok:=zn g l c s) (c:=c) (t:=t) (w:=way) h;generalize qk g (zn g l c s) c t way=E at*;generalize hU:yi g t way=U at*;refine bcd (λW=>?_) (λW=>?_)
 .rw[B (Ks W),ite_self]at h;exact ret h
 obtain⟨u,rfl,a⟩:∃u:Nat,U=(u:Int)/\u<Γ g.T:=by
  rcases K with p|p
  .exact absurd p W
  .exact p
 refine⟨t,rfl,J _ (zm (o t v)) ?_⟩;rw[Cm v];refine ya ?_;refine zg (λV=>?_) (λV=>?_);rotate_left
 .rw[if_neg (by rw[V];decide)]at h;exact ret h
 rw[if_pos V]at h;refine⟨u,rfl,J _ (zm (o u a)) ?_⟩;rw[Cm a];refine ya ?_;refine zg (λQ=>?_) (λQ=>?_);rotate_left
 .rw[B (by rw[Hq,Q])]at h;exact ret h
 have D:vz (zn g l c s) (u:Int)=true:=by rw[Hq,Q]
 rw[Faz]at k b;rw[cr g c v,cr g c a]at k b;have p2:=Nn c (g.T[u]).toNat;refine Qc zb ybi ?_;refine⟨t,rfl,J _ (zm v) ?_⟩;refine⟨u,rfl,J _ (zm a) ?_⟩;refine⟨o9 c hc g.T[t] (cq H v) _ _ ⟨Qe,?_⟩,O⟩;refine⟨o9 c hc g.T[u] (cq H a) _ _ ⟨Qe,?_⟩,O⟩;refine Qd ?_;refine Qbx ?_;generalize Bo c g.T[t].toNat=P1 at*;generalize Bo c g.T[u].toNat=P2 at*;refine bcd (λc4=>?_) (λc4=>?_)
 .refine Qd ?_;rw[k D Z]at h;exact ret h
 have h4:¬way<4:=Z;have b:=b D h4;have n:=n h4;have y:∀i,i<2->(way-4+i)%4<8:=λi _=>Z;have A:(way-4+0)%4=H6 way:=by unfold H6;omega
 have z:(way-4+1)%4=H5 way:=by unfold H5;omega
 refine AWp.loop (σ:=Nat) ⟨λi=>[(1,.av (Fw g l c s)),(4,.av (yq (j4 g t))),(5,.av (int (way:Nat))),(6,.av (int (-1))),(7,.bx 7 0),(16,.av (int (P1+P2))),(17,.av (int (i:Nat)))],λ_=>[(7,zq g)],
  λi f=>i<=2/\f=S/\∀j,j<i->vz (zn g l c s) (yi g t ((way-4+j)%4))=true,λi=>2-i⟩ zb ?_ ?_
 .exact⟨0,O,⟨Fae _,rfl,λj hj=>absurd hj (Fav j)⟩,Qbt,⟨rfl,O⟩⟩
 rintro i f ⟨hi,rfl,d⟩;dsimp only at hi d⊢;refine bcd (λc5=>?_) (λc5=>?_);rotate_left
 .have:i=2:=Z;subst this;have ha:=d 0 Z;have hb:=d 1 Z;rw[A]at ha;rw[z]at hb;rw[b ha hb]at h;refine Qd ?_;exact ret h
 have C:i<2:=Z;have hm:((way:Int)-4+(i:Int)).tmod 4=(((way-4+i)%4:Nat):Int):=by rw[Fcn Z];omega
 have hno2:vz (zn g l c s) (yi g t ((way-4+i)%4))=false->R (int 0) f:=λG=>by
  rw[n (by
   have:i=0\/i=1:=Z;rcases this with rfl|rfl
   .rw[A]at G;exact .inl G
   .rw[z]at G;exact .inr G)]at h
  exact h
 have hor2:=K0 H t (y i C);have hget:=Rl (g:=g) (t:=t) (y i C);generalize I:(way-4+i)%4=way2 at*;refine Qd ?_;refine Qd ?_;refine⟨ψ,?_⟩;refine⟨way2,hm,J _ hget ?_⟩;generalize L:yi g t way2=U2 at*;refine bcd (λP=>?_) (λP=>?_)
 .exact ret (hno2 (Ks P))
 obtain⟨X,rfl,hul2⟩:∃u:Nat,U2=(u:Int)/\u<Γ g.T:=by
  rcases hor2 with p|p
  .exact absurd p P
  .exact p
 refine⟨X,rfl,J _ (zm (o X hul2)) ?_⟩;rw[Cm hul2];refine ya ?_;refine zg (λM=>?_) (λM=>?_);rotate_left
 .exact ret (hno2 (by rw[Hq,M]))
 refine Qd ?_;refine⟨i+1,(show 2-(i+1)<2-i by omega),⟨Z,rfl,λj hj=>?_⟩,Qbt,⟨rfl,O⟩⟩;by_cases e:j=i
 .subst e;rw[I,L,Hq,M]
 .exact d j Z
def Lc(n:Nat)(W:Nat->Bool):Nat:=Am n λt=>if W t then 1 else 0
def r9(n:Nat)(W:Nat->Bool):Lc n W<=n:=by have:=Vm (f:=λt=>if W t=true then 1 else 0) (g:=λ_=>1) n (λt _=>by split<;>omega);rw[Vn]at this;unfold Lc;omega
theorem rz{n:Nat}{W:Nat->Bool}{u:Nat}(a:u<n)(x:Bool):Lc n (zz W u x)+(if W u then 1 else 0)=Lc n W+(if x then 1 else 0):=by have:=M6 (f:=λt=>if zz W u x t=true then 1 else 0) n a (λt _ b=>by rw[js b]);simp only[wg]at this;exact this
def yie{g:Gnd}(hg:zt g){l:List Bld}{c s:Int}(hc:c=0\/c=1\/c=2)(a:Nat)(η:a<Γ g.T)(R:Ja)
  (h:∀b S,S.obj b=Δ (.cells (il (Γ g.T) (jc g (zn g l c s) c a)))->(∀u,(0<=jc g (zn g l c s) c a u->zn g l c s u=true)/\-1<=jc g (zn g l c s) c a u/\jc g (zn g l c s) c a u<=2000000)->R (.s (.slice (Δ ⟨b,0,Θ⟩) (Γ g.T) (Γ g.T))) S):
  Jb 448 [.agg (zq g),Fw g l c s,int c,int (a:Nat),int (-1)] Store.empty R:=by
 have ha:=qg hg;have hT:Γ g.T<=16384:=Z;have hgl:∀u,u<Γ g.T->u<(blL (Γ g.T) (zn g l c s)).length:=λu hu=>by rw[jd];exact hu
 refine Qa (c:=cfg 133 [57,1000057] []) zb func448 ?_;refine Qd ?_;have hwh:g.W*g.H=((Γ g.T:Nat):Int):=Z;rw[hwh];refine Fa rfl (it:=ti63) (ie:=ti2) rfl rfl rfl rfl rfl (n:=Γ g.T) ?_ ?_ (λb hf=>?_)
 .show 8*Γ g.T<=_;omega
 .omega
 have il0:List.replicate (Γ g.T) (AV.s (.int .i64 0))=il (Γ g.T) (ww (-1) 0):=(Rw _).trans (Ik λt _=>(if_neg (Fav t)).symm)
 refine AWp.loop (σ:=Nat) ⟨λi=>[(1,.av (Fw g l c s)),(2,.av (int c)),(3,.av (int (a:Nat))),(4,.av (int (-1))),(5,.bx 5 0),(11,.av (.s (.slice (Δ ⟨b,0,Θ⟩) (Γ g.T) (Γ g.T)))),(12,.av (int (i:Nat)))],λ_=>[(5,zq g)],
  λi B=>i<=Γ g.T/\B=Store.empty.sO b (.cells (il (Γ g.T) (ww (-1) i))),λi=>Γ g.T-i⟩ zb ?_ ?_
 .exact⟨0,O,⟨Fae _,by rw[<-il0]⟩,Qbt,⟨rfl,O⟩⟩
 rintro i B ⟨hi,rfl⟩;dsimp only at hi⊢;refine zg (λd1=>?_) (λd1=>?_)
 .have P:i<Γ g.T:=by simpa using d1
  refine⟨i,rfl,P,?_⟩;refine yu (i:=ti2) (v:=int (-1)) (b:=b) (o:=0+i*1) (l:=il (Γ g.T) (ww (-1) i)) (st2:=Store.empty.sO b (.cells (il (Γ g.T) (ww (-1) (i+1))))) rfl rfl rfl (zd _ _ _) θa ?_ ?_
  .rw[ym,Ii _ _ _ _ P]
   congr 2
   refine Ik λt ht=>?_;unfold zz ww;grind
  refine Qd ?_;exact⟨i+1,(show Γ g.T-(i+1)<Γ g.T-i by omega),⟨P,rfl⟩,Qbt,⟨rfl,O⟩⟩
 have:i=Γ g.T:=δ;subst this;rw[zen];refine⟨a,rfl,J _ (zm (hgl a η)) ?_⟩;rw[Cm η];refine ya ?_;refine zg (λc1=>?_) (λc1=>?_);rotate_left
 .rw[zf0 c1]at h;exact ret (h b _ (zd _ _ _) (λu=>⟨λhu=>absurd (show(0:Int)<=-1 from hu) ψ,show(-1:Int)<=-1 by decide,show(-1:Int)<=2000000 by decide⟩))
 refine⟨a,rfl,η,?_⟩;refine yu (i:=ti2) (v:=int 0) (b:=b) (o:=0+a*1) (l:=il (Γ g.T) λ_=>-1) (st2:=Store.empty.sO b (.cells (il (Γ g.T) (zz (λ_=>-1) a 0)))) rfl rfl rfl (zd _ _ _) θa ?_ ?_
 .rw[ym,Ii _ _ _ _ η]
 refine⟨ψ,λb3 hf3=>?_⟩;refine Fa rfl (it:=ti68) (ie:=ti4) rfl rfl rfl rfl rfl (n:=Γ g.T) ?_ ?_ (λX hf2=>?_)
 .show 1*_<=_;omega
 .omega
 rw[Kz];have hb3:b3≠b:=λe=>by have:=hf3.1;rw[e,zd]at this;cases this
 have hb23:X≠b3:=λe=>by have:=hf2.1;rw[e,zd]at this;cases this
 have ο:X≠b:=λe=>by have:=hf2.1;simp_all[zi,zd]
 have τ:∀u,zz (λ_=>(-1:Int)) a 0 u=if u=a then 0 else -1:=λu=>rfl
 have z:=yag (jo g (zn g l c s) c) τ (W:=inQ [a]) (λu=>by unfold inQ;simp);have y:=zgs η τ;have hd00:0<=zz (λ_=>(-1:Int)) a 0 a:=δ;generalize zz (λ_=>(-1:Int)) a 0=d0 at*
 refine AWp.loop (σ:=(Nat->Int)×(Nat->Bool)×List Nat×AV×Store) ⟨λx=>[(1,.av (Fw g l c s)),(2,.av (int c)),(4,.av (int (-1))),(5,.bx 5 0),(11,.av (.s (.slice (Δ ⟨b,0,Θ⟩) (Γ g.T) (Γ g.T)))),(13,.av x.2.2.2.1),(14,.av (.s (.slice (Δ ⟨X,0,Θ⟩) (Γ g.T) (Γ g.T))))],λ_=>[(5,zq g)],
  λx B=>B=x.2.2.2.2/\B.obj b=Δ (.cells (il (Γ g.T) x.1))/\B.obj X=Δ (.cells (bl (Γ g.T) x.2.1))/\QF B b X x.2.2.2.1 x.2.2.1/\SP (jo g (zn g l c s) c) a x.1 (inQ x.2.2.1) Fq/\(∀u,x.2.1 u=true->u∈x.2.2.1)/\(∀u∈x.2.2.1,u<Γ g.T/\0<=x.1 u)/\Gy (Γ g.T) x.1/\Γ x.2.2.1<=Lc (Γ g.T) x.2.1+1,λx=>2*Kk (Γ g.T) x.1+Γ x.2.2.1⟩ zb ?_ ?_
 .have hq0:∀S:Store,S.obj b3=Δ (.cells [int (a:Nat)])->QF S b X (.s (.slice (Δ ⟨b3,0,Θ⟩) 1 1)) [a]:=λS hS=>⟨b3,0,1,[int (a:Nat)],rfl,hS,Fai 1,Fai 1,ψ,rfl,hb3,Ne.symm hb23⟩
  refine⟨(d0,λ_=>false,[a],.s (.slice (Δ ⟨b3,0,Θ⟩) 1 1),_),O,⟨rfl,?_,zd _ _ _,hq0 _ ?_,z,λu hu=>Bool.noConfusion hu,λu hu=>?_,y,Nat.le_add_left 1 _⟩,⟨Y,Y,Y,Y,Y,Y,Y,O⟩,⟨rfl,O⟩⟩
  .simp_all[zi,Ne.symm,zd]
  .rw[zi (Ne.symm hb23),zd];rfl
  grind
 clear z y τ hd00;rintro⟨d,M,q,v,S⟩ B ⟨rfl,G,hob2,hq,z,D,k,y,L⟩;dsimp only at G hob2 hq z D k y L⊢;have hqn:Γ q<=16385:=by have:=r9 (Γ g.T) M;omega
 cases q with
 |nil=>
  obtain⟨bq,f,ε,lq,rfl,ho,h3,h4,h5,h6,h7,h8⟩:=hq;have e:=zf1 c1 (yah z (λu=>by unfold inQ;simp));exact ret (h b _ (by rw[e];exact G) (λu=>by rw[e];have Q:=z.lab u;have h2:=Ou y u;exact⟨λhu=>ut z c1 hu,Z,Z⟩))
 |cons t r=>
 obtain⟨bq,f,ε,lq,rfl,ho,h3,h4,h5,h6,h7,h8⟩:=hq;obtain⟨K,I⟩:=k t (Fbn ..);refine bcd (λc2=>?_) (λc2=>absurd (show(0:Int)<((t::r).length:Nat) by grind) c2);refine⟨0,rfl,Nat.zero_lt_succ _,?_⟩;refine Qby ?_;refine J _ (yj5 h6) ?_;refine⟨1,(t::r).length,rfl,rfl,φ,h4,?_⟩;have hv1:1<ε->QF B b X (.s (.slice (Δ ⟨bq,f+1*1,Θ⟩) ((t::r).length-1) (ε-1))) r:=λhc=>⟨bq,f+1,ε-1,lq,rfl,ho,Z,δ,Z,yj3 h6,h7,h8⟩
 have υ:1=ε->QF B b X (.s (.slice (Δ ⟨bq,f,Θ⟩) 0 0)) r:=λhc=>by have:r=[]:=δ;subst this;exact⟨bq,f,0,lq,rfl,ho,Z,Fai _,ψ,rfl,h7,h8⟩
 have hcap:1<ε\/1=ε:=δ;have hSP1:SP (jo g (zn g l c s) c) a d (inQ r) (C9 g (zn g l c s) c t 0):=zjk (gn (yae z t) (λu hu=>by grind[zz,inQ_iff]) (λu hu=>(k u (Fba t (inQ_iff.1 hu))).2));have hok:=ut z c1 I;have hM1:∀u,zz M t false u=true->u∈r:=λu hu=>by grind[zz]
 have hr2:∀u∈r,u<Γ g.T/\0<=d u:=λu hu=>k u (Fba t hu);have ς:Γ r<=Lc (Γ g.T) (zz M t false)+1:=by grind[rz]
 have hob':=(zi (st:=B) (b:=b) (p:=X) (x:=.cells (bl (Γ g.T) (zz M t false))) (Ne.symm ο)).trans G;have hbig:=λ(d:Nat->Int) (h:Gy (Γ g.T) d)=>Ou h;rcases hcap with hcap|hcap;rotate_left;refine .inr ⟨hcap,?_⟩;have hQ:=(υ hcap).set2 (.cells (bl (Γ g.T) (zz M t false)));rotate_left;refine .inl ⟨hcap,?_⟩;have hQ:=(hv1 hcap).set2 (.cells (bl (Γ g.T) (zz M t false)))
 all_goals
  clear hv1 υ;refine⟨t,rfl,K,?_⟩;refine yu (i:=ti4) (v:=V.bool false) (b:=X) (o:=0+t*1) (l:=bl (Γ g.T) M) (st2:=B.sO X (.cells (bl (Γ g.T) (zz M t false)))) rfl rfl rfl hob2 θf ?_ ?_
  .rw[pw _ _ _ _ K]
  refine Pu g hg t K _ _ ?_
  refine AWp.loop (σ:=Nat×(Nat->Int)×(Nat->Bool)×List Nat×AV×Store) ⟨λx=>[(1,.av (Fw g l c s)),(2,.av (int c)),(4,.av (int (-1))),(5,.bx 5 0),(11,.av (.s (.slice (Δ ⟨b,0,Θ⟩) (Γ g.T) (Γ g.T)))),(13,.av x.2.2.2.2.1),(14,.av (.s (.slice (Δ ⟨X,0,Θ⟩) (Γ g.T) (Γ g.T)))),(15,.av (int (t:Nat))),(16,.av (yq (j4 g t))),(17,.av (int (x.1:Nat)))],λ_=>[(5,zq g)],
   λx j=>x.1<=8/\j=x.2.2.2.2.2/\j.obj b=Δ (.cells (il (Γ g.T) x.2.1))/\j.obj X=Δ (.cells (bl (Γ g.T) x.2.2.1))/\QF j b X x.2.2.2.2.1 x.2.2.2.1/\SP (jo g (zn g l c s) c) a x.2.1 (inQ x.2.2.2.1) (C9 g (zn g l c s) c t x.1)/\(∀u,x.2.2.1 u=true->u∈x.2.2.2.1)/\(∀u∈x.2.2.2.1,u<Γ g.T/\0<=x.2.1 u)/\0<=x.2.1 t/\Gy (Γ g.T) x.2.1/\Γ x.2.2.2.1<=Lc (Γ g.T) x.2.2.1+1/\2*Kk (Γ g.T) x.2.1+Γ x.2.2.2.1<=2*Kk (Γ g.T) d+Γ r,λx=>8-x.1⟩ zb ?_ ?_
  .exact⟨(0,d,zz M t false,r,_,_),O,⟨Fae _,rfl,hob',zd _ _ _,hQ,hSP1,hM1,hr2,I,y,ς,Fai _⟩,⟨Y,Y,Y,Y,Y,Y,Y,Y,Y,Y,O⟩,⟨rfl,O⟩⟩
  clear hQ hSP1 hM1 hr2 ς hob' G hob2 z D k y L I;rintro⟨i,e,M2,q,v,S2⟩ j ⟨hi,rfl,G,hob2,hq,z,D,k,I,y,L,ν⟩;dsimp only at hi G hob2 hq z D k I y L ν⊢;refine bcd (λc3=>?_) (λc3=>?_);rotate_left
  .have:i=8:=Z;subst this;refine⟨(e,M2,q,v,j),?_,⟨rfl,G,hob2,hq,zjl z,D,k,y,L⟩,Qbt,⟨rfl,O⟩⟩;show 2*Kk (Γ g.T) e+Γ q<2*Kk (Γ g.T) d+(t::r).length;simp only[Fbb];omega
  have P:i<8:=Z;refine za8 hg hc t K i P _ _ ?_;rw[show Vp g (zn g l c s) c t i=qk g (zn g l c s) c t i from if_pos hok];have hsb:=Vq g (zn g l c s) c t i;have hskip:=rr z;have hedge:=zgc (g:=g) (ok:=zn g l c s) (c:=c) (t:=t) (way:=i) hok K P;have hnote:=λ(u:Nat)=>yaf Oo z (t:=t) (u:=u) (c:=qk g (zn g l c s) c t i) I;have hor:=K0 hg t P;have hfree:=λh=>Pg (g:=g) (ok:=zn g l c s) (c:=c) (t:=t) (w:=i) h;have hgo2:∀(e':Nat->Int) (M':Nat->Bool) (q':List Nat),SP (jo g (zn g l c s) c) a e' (inQ q') (C9 g (zn g l c s) c t i)->(∀u:Nat,yi g t i=u->0<qk g (zn g l c s) c t i->0<=e' u/\e' u<=e' t+qk g (zn g l c s) c t i)->SP (jo g (zn g l c s) c) a e' (inQ q') (C9 g (zn g l c s) c t (i+1)):=λe' M' q' Q h2=>rr Q h2;have hget:=Rl (g:=g) (t:=t) P;have hbt:=hbig e y t;generalize qk g (zn g l c s) c t i=E at*;generalize yi g t i=U at*;refine zp (λd2=>?_) (λd2=>?_)
  .refine Qd ?_;exact⟨(i+1,e,M2,q,v,j),(show 8-(i+1)<8-i by omega),⟨ζ,rfl,G,hob2,hq,hskip (λu _ h0=>absurd h0 Z),D,k,I,y,L,ν⟩,Qbt,⟨rfl,O⟩⟩
  have π:0<E:=Z;obtain⟨u,rfl,A⟩:∃u:Nat,U=(u:Int)/\u<Γ g.T:=by
   rcases hor with Q|Q
   .exact absurd (hfree (Ks Q)) d2
   .exact Q
  have hedge:=hedge π;rw[Faz]at hedge;have hnote:=λQ h2=>hnote u Q hedge h2;refine⟨i,rfl,J _ hget ?_⟩;refine Qc zb ybj ?_;refine⟨u,rfl,A,?_⟩;refine Qby ?_;refine J _ (vk A) ?_;refine bcd (λc4=>?_) (λc4=>?_);rotate_left;have hl:e u<0\/e t+E<e u:=.inl Z;rotate_left;refine⟨u,rfl,A,?_⟩;refine Qby ?_;refine J _ (vk A) ?_;refine⟨t,rfl,K,?_⟩;refine Qby ?_;refine J _ (vk K) ?_;refine Qd ?_;refine bcd (λc5=>?_) (λc5=>?_)
  .refine Qd ?_;exact⟨(i+1,e,M2,q,v,j),(show 8-(i+1)<8-i by omega),⟨ζ,rfl,G,hob2,hq,hskip (λu' hu' _=>by have:u=u':=Z;subst this;exact⟨c4,c5⟩),D,k,I,y,L,ν⟩,Qbt,⟨rfl,O⟩⟩
  have hl:e u<0\/e t+E<e u:=.inr Z
  all_goals
   have htu:t≠u:=λh=>by subst h;rcases hl with h|h<;>omega
   have hSPn:=hnote htu hl;have hcbn:=ct y A I ⟨π,hsb.2⟩ hl;have hlf:=ym1 y A I ⟨π,hsb.2⟩ hl;have hdtn:zz e u (e t+E) t=e t:=js htu;have hdun:zz e u (e t+E) u=e t+E:=wg _ _ _;have ι:∀x,0<=e x->0<=zz e u (e t+E) x:=λx C=>by
    unfold zz;split
    .omega
    .exact C
   have hob3:(j.sO b (.cells (il (Γ g.T) (zz e u (e t+E))))).obj X=_:=(zi ο).trans hob2;have hq3:=hq.set1 (.cells (il (Γ g.T) (zz e u (e t+E))));refine⟨t,rfl,K,?_⟩;refine Qby ?_;refine J _ (vk K) ?_;refine Qd ?_;refine⟨u,rfl,A,?_⟩;refine yu (i:=ti2) (v:=int (e t+E)) (b:=b) (o:=0+u*1) (l:=il (Γ g.T) e) (st2:=j.sO b (.cells (il (Γ g.T) (zz e u (e t+E))))) rfl rfl rfl G θa ?_ ?_
   .rw[Ii _ _ _ _ A]
   generalize hS3:j.sO b (.cells (il (Γ g.T) (zz e u (e t+E))))=S3 at*;have hob1:S3.obj b=Δ (.cells (il (Γ g.T) (zz e u (e t+E)))):=by rw[<-hS3,zd]
   generalize hed:zz e u (e t+E)=e2 at*;refine⟨u,rfl,A,?_⟩;refine Qby ?_;refine J _ (dk A) ?_;refine ya ?_;refine zg (λc6=>?_) (λc6=>?_)
   .refine Qd ?_;have hmem:=D u c6;refine⟨(i+1,e2,M2,q,v,S3),(show 8-(i+1)<8-i by omega),⟨ζ,rfl,hob1,hob3,hq3,?_,D,λx C=>⟨(k x C).1,ι x (k x C).2⟩,ζ,hcbn,L,ζ⟩,Qbt,⟨rfl,O⟩⟩;refine hgo2 e2 (λ_=>true) _ (gn hSPn (λx C=>?_) (λx C=>ι x (k x (inQ_iff.1 C)).2)) (λu' hu' _=>?_)
    .unfold zz at C;split at C
     .rename_i ex;subst ex;exact inQ_iff.2 hmem
     .exact C
    .have:u=u':=Z;subst this;omega
   refine⟨u,rfl,A,?_⟩;refine yu (i:=ti4) (v:=V.bool true) (b:=X) (o:=0+u*1) (l:=bl (Γ g.T) M2) (st2:=S3.sO X (.cells (bl (Γ g.T) (zz M2 u true)))) rfl rfl rfl hob3 θf ?_ ?_
   .rw[pw _ _ _ _ A]
   refine⟨ψ,?_⟩;refine yj6 (ie:=ti2) rfl rfl ψ (hq3.set2 (.cells (bl (Γ g.T) (zz M2 u true)))) (by have:=r9 (Γ g.T) M2;omega) ((zi (Ne.symm ο)).trans hob1) (zd _ _ _) u (λv2 S4 g1 g2 g3=>?_);have hw:=rz (n:=Γ g.T) (W:=M2) A true;rw[c6]at hw;refine Qd ?_;refine⟨(i+1,e2,zz M2 u true,q++[u],v2,S4),(show 8-(i+1)<8-i by omega),⟨ζ,rfl,g2,g3,g1,?_,λx C=>?_,λx C=>?_,ζ,hcbn,?_,?_⟩,Qbt,⟨rfl,O⟩⟩
   .refine hgo2 e2 (λ_=>true) _ (gn hSPn (λx C=>?_) (λx C=>?_)) (λu' hu' _=>?_)
    .rw[inQ_iff];unfold zz at C;split at C
     .rename_i ex;subst ex;simp
     .exact Fdl _ (inQ_iff.1 C)
    .rcases Faw.1 (inQ_iff.1 C)with Q|Q
     .exact ι x (k x Q).2
     .have:=Fci.1 Q;subst this;omega
    .have:u=u':=Z;subst this;omega
   .unfold zz at C;dsimp only at C;split at C
    .rename_i ex;subst ex;simp
    .exact Fdl _ (D x C)
   .rcases Faw.1 C with Q|Q
    .exact⟨(k x Q).1,ι x (k x Q).2⟩
    .have:=Fci.1 Q;subst this;exact⟨A,ζ⟩
   .simp only[Fad,Fao];simp at hw;omega
   .simp only[Fad,Fao];omega
section
variable {g:Gnd} {c s:Int}
noncomputable def H1(g:Gnd)(ok:Nat->Bool)(c:Int)(d:Nat->Int)(i t:Nat):Int:=if t<i then xe g ok c d t else 0
def zjh{ok:Nat->Bool}{d:Nat->Int}{i:Nat}:H1 g ok c d (i+1)=zz (H1 g ok c d i) i (xe g ok c d i):=funext λt=>by
 unfold H1 zz;dsimp only;by_cases h:t=i
 .subst h;rw[if_pos Z,if_pos rfl]
 .rw[if_neg h];by_cases a:t<i
  .rw[if_pos a,if_pos Z]
  .rw[if_neg a,if_neg Z]
theorem zjw{α:Type}(d:Nat->α)(u:Nat)(x y:α):zz (zz d u x) u y=zz d u y:=funext λt=>by unfold zz;split<;>rfl
theorem yn0(g:Gnd)(ok:Nat->Bool)(c:Int)(d:Nat->Int)(n:Nat):il n (H1 g ok c d n)=il n (xe g ok c d):=Ik λt a=>if_pos a
def yi1(M:zt g){l:List Bld}(hl:Γ l<=1000000000000)(hb:∀b∈l,yh b/\onP g b)(hc:c=0\/c=1\/c=2)(hs:0<=s)(z:Nat)(ι:z<Γ g.T)(R:Ja)
  (h:∀b S,S.obj b=Δ (.cells (il (Γ g.T) (xe g (zn g l c s) c (jc g (zn g l c s) c z))))->R (.s (.slice (Δ ⟨b,0,Θ⟩) (Γ g.T) (Γ g.T))) S):
  Jb 404 [.agg (zq g),lst 6 zk l,int c,int s,int (z:Nat)] Store.empty R:=by
 have ha:=qg M;have hT:Γ g.T<=16384:=Z;refine Qy 92 func404 ?_;refine ij g M l hl hb c hc s hs _ _ ?_;refine yie M hc z ι _ (λb S K hF=>?_);refine Fa rfl (it:=ti63) (ie:=ti2) rfl rfl rfl rfl rfl (n:=Γ g.T) ?_ ?_ (λA Q=>?_)
 .show 8*Γ g.T<=_;omega
 .omega
 have τ:A≠b:=λe=>by rw[e]at Q;rw[Q.1]at K;cases K
 generalize jc g (zn g l c s) c z=D at*;have il0:List.replicate (Γ g.T) (AV.s (.int .i64 0))=il (Γ g.T) (H1 g (zn g l c s) c D 0):=(Rw _).trans (Ik λt _=>(if_neg (Fav t)).symm)
 refine AWp.loop (σ:=Nat) ⟨λi=>[(2,.av (int c)),(5,.bx 5 0),(11,.av (Fw g l c s)),(12,.av (.s (.slice (Δ ⟨b,0,Θ⟩) (Γ g.T) (Γ g.T)))),(13,.av (.s (.slice (Δ ⟨A,0,Θ⟩) (Γ g.T) (Γ g.T)))),(14,.av (int (i:Nat)))],λ_=>[(5,zq g)],
  λi C=>i<=Γ g.T/\C=S.sO A (.cells (il (Γ g.T) (H1 g (zn g l c s) c D i))),λi=>Γ g.T-i⟩ zb ?_ ?_
 .exact⟨0,O,⟨Fae _,by rw[<-il0]⟩,Qbt,⟨rfl,O⟩⟩
 rintro i C ⟨hi,rfl⟩;dsimp only at hi⊢;refine zg (λd1=>?_) (λd1=>?_);rotate_left
 .have:i=Γ g.T:=by
   have:¬i<Γ g.T:=by simpa using d1
   omega
  subst this;exact ret (h A _ (by rw[zd,yn0]))
 have f:i<Γ g.T:=by simpa using d1
 have hobT:=λx=>(zi (st:=S) (b:=b) (p:=A) (x:=x) (Ne.symm τ)).trans K;refine⟨i,rfl,f,?_⟩;refine yu (i:=ti2) (v:=int (-1)) (b:=A) (o:=0+i*1) (l:=il (Γ g.T) (H1 g (zn g l c s) c D i)) (st2:=S.sO A (.cells (il (Γ g.T) (zz (H1 g (zn g l c s) c D i) i (-1))))) rfl rfl rfl (zd _ _ _) θa ?_ ?_
 .rw[ym,Ii _ _ _ _ f]
 have hn:=zjh (g:=g) (ok:=zn g l c s) (c:=c) (d:=D) (i:=i);refine⟨i,rfl,f,?_⟩;refine J (o:=(S.sO A _).obj b) _ (hobT _) ?_;refine J _ (vk f) ?_;refine bcd (λX=>?_) (λX=>?_)
 .rw[rv X]at hn;refine Qd ?_;exact⟨i+1,(show Γ g.T-(i+1)<Γ g.T-i by omega),⟨f,by rw[hn]⟩,Qbt,⟨rfl,O⟩⟩
 refine Pu g M i f _ _ ?_;have hoki:=(hF i).1 Z;generalize H1 g (zn g l c s) c D i=B0 at*
 refine AWp.loop (σ:=Nat×Int) ⟨λx=>[(2,.av (int c)),(5,.bx 5 0),(11,.av (Fw g l c s)),(12,.av (.s (.slice (Δ ⟨b,0,Θ⟩) (Γ g.T) (Γ g.T)))),(13,.av (.s (.slice (Δ ⟨A,0,Θ⟩) (Γ g.T) (Γ g.T)))),(14,.av (int (i:Nat))),(15,.av (yq (j4 g i))),(16,.av (int ((x.1:Nat)-1:Int)))],λ_=>[(5,zq g)],
  λx C=>x.1<=8/\C=S.sO A (.cells (il (Γ g.T) (zz B0 i x.2)))/\((x.2=-1/\∀w,x.1<=w->w<8->¬Ad g (zn g l c s) c D i w)\/∃j:Nat,x.2=(j:Int)/\x.1<=j/\j<8/\Ad g (zn g l c s) c D i j/\∀w,x.1<=w->w<j->¬Ad g (zn g l c s) c D i w),λx=>x.1⟩ zb ?_ ?_
 .exact⟨(8,-1),O,⟨Fai _,rfl,.inl ⟨rfl,λw B I=>absurd I Z⟩⟩,Qbt,⟨rfl,O⟩⟩
 rintro⟨k,y⟩ C ⟨hk,rfl,hy⟩;dsimp only at hk hy⊢;cases k with
 |zero=>
  have ε:y=xe g (zn g l c s) c D i:=by
   rcases hy with⟨B,I⟩|⟨j,B,_,W,V,h5⟩
   .rw[B,ru X (λw H=>I w (Fae _) H)]
   .rw[B,rt X W V (λw H=>h5 w (Fae _) H)]
  subst ε;refine Qd ?_;exact⟨i+1,(show Γ g.T-(i+1)<Γ g.T-i by omega),⟨f,by rw[hn]⟩,Qbt,⟨rfl,O⟩⟩
 |succ w=>
 have H:w<8:=Z;rw[show(((w+1:Nat):Int)-1)=(w:Int) by omega];refine za8 M hc i f w H _ _ ?_;rw[show Vp g (zn g l c s) c i w=qk g (zn g l c s) c i w from if_pos hoki];have hgo1:Ad g (zn g l c s) c D i w↔(0<qk g (zn g l c s) c i w/\0<=D (yi g i w).toNat/\qk g (zn g l c s) c i w+D (yi g i w).toNat=D i):=Iff.rfl;have L:¬Ad g (zn g l c s) c D i w->((y=-1/\∀a,w<=a->a<8->¬Ad g (zn g l c s) c D i a)\/∃j:Nat,y=(j:Int)/\w<=j/\j<8/\Ad g (zn g l c s) c D i j/\∀a,w<=a->a<j->¬Ad g (zn g l c s) c D i a):=λP=>by
  have key:∀a,w<=a->a=w\/w+1<=a:=λa h=>Z;rcases hy with⟨B,I⟩|⟨j,B,I,W,V,h5⟩
  .exact .inl ⟨B,λa W V=>(key a W).elim (λe=>e▸P) (λh=>I a h V)⟩
  .exact .inr ⟨j,B,Z,W,V,λa h6 h7=>(key a h6).elim (λe=>e▸P) (λh=>h5 a h h7)⟩
 have ο:=Vq g (zn g l c s) c i w;have η:=K0 M i H;have hfree:=λh=>Pg (g:=g) (ok:=zn g l c s) (c:=c) (t:=i) (w:=w) h;have hget:=Rl (g:=g) (t:=i) H;have hlast:Ad g (zn g l c s) c D i w->(((w:Int)=-1/\∀a,w<=a->a<8->¬Ad g (zn g l c s) c D i a)\/∃j:Nat,(w:Int)=(j:Int)/\w<=j/\j<8/\Ad g (zn g l c s) c D i j/\∀a,w<=a->a<j->¬Ad g (zn g l c s) c D i a):=λν=>.inr ⟨w,rfl,Fai _,H,ν,λa B I=>absurd I Z⟩;generalize qk g (zn g l c s) c i w=E at*;generalize yi g i w=U at*;refine Qc zb ybq ?_;refine bcd (λc3=>?_) (λc3=>?_);rotate_left
 .refine Qd ?_;exact⟨(w,y),Fcv w,⟨ζ,rfl,L (λq=>c3 (hgo1.1 q).1)⟩,Qbt,⟨rfl,O⟩⟩
 obtain⟨u,rfl,G⟩:∃u:Nat,U=(u:Int)/\u<Γ g.T:=by
  rcases η with B|B
  .exact absurd (hfree (Ks B)) Z
  .exact B
 rw[Faz]at hgo1;have π:=hF u;refine⟨w,rfl,J _ hget ?_⟩;refine⟨u,rfl,G,?_⟩;refine J (o:=(S.sO A _).obj b) _ (hobT _) ?_;refine J _ (vk G) ?_;refine bcd (λc4=>?_) (λc4=>?_);rotate_left
 .refine Qd ?_;exact⟨(w,y),Fcv w,⟨ζ,rfl,L (λq=>c4 (hgo1.1 q).2.1)⟩,Qbt,⟨rfl,O⟩⟩
 refine⟨w,rfl,J _ hget ?_⟩;refine⟨u,rfl,G,?_⟩;refine J (o:=(S.sO A _).obj b) _ (hobT _) ?_;refine J _ (vk G) ?_;refine Qd ?_;refine⟨i,rfl,f,?_⟩;refine J (o:=(S.sO A _).obj b) _ (hobT _) ?_;refine J _ (vk f) ?_;refine zp (λc5=>?_) (λc5=>?_);rotate_left
 .refine Qd ?_;exact⟨(w,y),Fcv w,⟨ζ,rfl,L (λq=>c5 (by have:=(hgo1.1 q).2.2;omega))⟩,Qbt,⟨rfl,O⟩⟩
 refine⟨i,rfl,f,?_⟩;refine yu (i:=ti2) (v:=int (w:Nat)) (b:=A) (o:=0+i*1) (st2:=S.sO A (.cells (il (Γ g.T) (zz B0 i (w:Int))))) rfl rfl rfl (zd _ _ _) θa ?_ ?_
 .rw[ym,Ii _ _ _ _ f,zjw]
 refine Qd ?_;exact⟨(w,(w:Int)),Fcv w,⟨ζ,rfl,hlast (hgo1.2 ⟨c3,c4,Z⟩)⟩,Qbt,⟨rfl,O⟩⟩
def yi0(n:zt g){l:List Bld}(k:Γ l<=1000000000000)(i:∀b∈l,yh b/\onP g b)(p:c=0\/c=1\/c=2)(j:0<=s)(a:Nat)(f:a<Γ g.T)(d:Store)(R:Ja)
  (h:∀b N,N.obj b=Δ (.cells (il (Γ g.T) (xe g (zn g l c s) c (jc g (zn g l c s) c a))))->zl N d->R (.s (.slice (Δ ⟨b,0,Θ⟩) (Γ g.T) (Γ g.T))) (N.un d)):
  Jb 404 [.agg (zq g),lst 6 zk l,int c,int s,int (a:Nat)] d R:=by
 rw[<-jx d];exact ACalls.frame (λb i=>(i.elim (λh=>h rfl) (λh=>h rfl)).elim) (yi1 n k i p j a f (λr S=>∃b,r=.s (.slice (Δ ⟨b,0,Θ⟩) (Γ g.T) (Γ g.T))/\S.obj b=Δ (.cells (il (Γ g.T) (xe g (zn g l c s) c (jc g (zn g l c s) c a))))) (λb S t=>⟨b,rfl,t⟩)) λr N ⟨b,e,u⟩ o=>by rw[e];exact h b N u o
end
def Il(w:Wld)(u:Unt)(k:Nat):Vc:=(w.U.take k).foldl (λv x=>if x.inn=0/\x.id≠u.id then xp v (vj u.pos (zw u.kind+zw x.kind+16384) x.pos)else v) (0,0)
theorem zeq{w:Wld}{u:Unt}{k:Nat}(a:k<Γ w.U):Il w u (k+1)=if w.U[k].inn=0/\w.U[k].id≠u.id then xp (Il w u k) (vj u.pos (zw u.kind+zw w.U[k].kind+16384) w.U[k].pos)else Il w u k:=by unfold Il;rw[Fab a,Fdu];rfl
theorem yn7(w:Wld)(u:Unt):Il w u (Γ w.U)=Bz w u:=by unfold Il Bz;rw[Fal]
def yn6{w:Wld}{u:Unt}:∀k,k<=Γ w.U->(Il w u k).ok:=by
 intro k;induction k with
 |zero=>
  intro _;have:Vc.ok (0,0):=⟨⟨ψ,ψ⟩,⟨ψ,ψ⟩⟩
  exact this
 |succ k ih=>
  intro hk;rw[zeq Z];split
  .exact fe _ _
  .exact ih Z
def yjo(w:Wld)(d:playW w){i:Nat}(j:i<Γ w.U)(B:w.U[i].inn=0)(st:Store)(R:Ja)(h:R (.agg (zr (Bz w w.U[i]))) st):Jb 329 [.agg (zo w),int (i:Nat)] st R:=by
 have f:=xr d.1;have A:=f.hU;have e:=λ(k:Nat) (hk:k<Γ w.U)=>f.hk _ (Faa hk);have p:∀(k:Nat) (hk:k<Γ w.U),k≠i->w.U[k].id≠w.U[i].id:=λk hk z=>by
  rcases Nat.lt_or_ge k i with g|g
  .have:=Gf d.1.1.2.1 g j;omega
  .have:=Gf d.1.1.2.1 (show i<k by omega) hk;omega
 refine Qy 55 func329 ?_;refine⟨i,rfl,J _ (zm j) ?_⟩;refine Df w.U[i].kind (e i j) _ _ ?_
 refine AWp.loop (σ:=Nat) ⟨λk=>[(1,.av (int (i:Nat))),(2,.bx 2 0),(4,.bx 4 0),(5,.bx 5 0),(6,.av (int (zw w.U[i].kind))),(7,.bx 7 0),(8,.av (int (k:Nat)))],λk=>[(2,zo w),(4,[int 0,int 0]),(5,zf w.U[i]),(7,zr (Il w w.U[i] k))],
  λk c=>k<=Γ w.U/\c=st,λk=>Γ w.U-k⟩ zb ?_ ?_
 .exact⟨0,O,⟨Fae _,rfl⟩,Qbt,⟨rfl,rfl,rfl,rfl,O⟩⟩
 rintro k c ⟨hk,rfl⟩;dsimp only at hk⊢;refine zg (λt=>?_) (λt=>?_);rotate_left
 .have:k=Γ w.U:=qr t hk;subst this;rw[yn7];exact ret h
 have a:k<Γ w.U:=ql t;have b:=zeq (u:=w.U[i]) a;have o:=yn6 (u:=w.U[i]) k hk;refine⟨k,rfl,J _ (zm a) ?_⟩;refine zp (λC=>?_) (λC=>?_)
 .have:k=i:=Z;subst this;rw[if_neg (λq=>q.2 rfl)]at b;refine Qd ?_;exact⟨k+1,(show Γ w.U-(k+1)<Γ w.U-k by omega),⟨a,rfl⟩,Qbt,⟨rfl,rfl,rfl,by(rw[b];rfl),O⟩⟩
 refine qd (λl=>?_) (λl=>?_)
 .rw[if_neg (λq=>l q.1)]at b;refine Qd ?_;exact⟨k+1,(show Γ w.U-(k+1)<Γ w.U-k by omega),⟨a,rfl⟩,Qbt,⟨rfl,rfl,rfl,by(rw[b];rfl),O⟩⟩
 rw[if_pos ⟨l,p k a Z⟩]at b;have E:=Cg w.U[i].kind;have D:=Cg w.U[k].kind;have y:=Hn d.1 (Faa j) B;have v:=Hn d.1 (Faa a) l;have n:(vj w.U[i].pos (zw w.U[i].kind+zw w.U[k].kind+16384) w.U[k].pos).ok:=by have:=Wh y v (show 0<zw w.U[i].kind+zw w.U[k].kind+16384 by omega);exact⟨⟨Z,Z⟩,⟨Z,Z⟩⟩
 refine Qc zb yb5 ?_;refine⟨ψ,?_⟩;refine⟨Df w.U[k].kind (e k a) _ _ ⟨Qe,?_⟩,O⟩;refine Qd ?_;refine Qd ?_;refine⟨yg0 w.U[i].pos (zw w.U[i].kind+zw w.U[k].kind+16384) w.U[k].pos y v Z _ _ ⟨Qe,?_⟩,O⟩;refine⟨Pq (Il w w.U[i] k) _ o n _ _ ⟨Qe,?_⟩,O⟩;refine Qbx ?_;refine Qd ?_;exact⟨k+1,(show Γ w.U-(k+1)<Γ w.U-k by omega),⟨a,rfl⟩,Qbt,⟨rfl,rfl,rfl,by(rw[b];rfl),O⟩⟩
def ysu(l:List Unt)(hl:Γ l<=1000000)(R:Ja)(h:∀v N,RowsO 10 zf N v l->R v N):Jb 321 [lst 10 zf l] Store.empty R:=by
 refine Qy 19 func321 ?_;refine AWp.loop (σ:=Nat×AV×Store) ⟨λs=>[(0,.av (lst 10 zf l)),(3,.av s.2.1),(4,.av (int s.1))],λ_=>[],λs c=>s.1<=Γ l/\c=s.2.2/\RowsO 10 zf s.2.2 s.2.1 (l.take s.1),λs=>Γ l-s.1⟩ zb ?_ ?_
 .exact⟨(0,_,Store.empty),O,⟨Fae _,rfl,.inl ⟨rfl,rfl⟩⟩,⟨Y,Y,Y,O⟩,O⟩
 .rintro⟨i,v,N⟩ c ⟨j,rfl,d⟩;dsimp only at j d⊢;refine zg (λf=>?_) (λf=>?_)
  .have a:i<Γ l:=ql f;refine⟨i,rfl,J _ (zm a) ?_⟩;refine⟨ψ,?_⟩;refine O3 (ie:=ti72) rfl (λ_=>rfl) ψ d l[i] rfl θd (λb g L p o n k=>?_);refine⟨⟨Z,Z⟩,?_⟩;refine⟨(i+1,_,_),?_,⟨a,rfl,?_⟩,⟨Y,Y,Y,O⟩,O⟩
   .show Γ l-(i+1)<Γ l-i;omega
   .dsimp only;rw[Fab a];exact .inr ⟨b,g,L,rfl,zd _ _ _,o,n,k⟩
  .have e:i=Γ l:=qr f j;subst e;rw[Fal]at d;exact ret (h _ _ d)
def ysv(l:List Unt)(c:Γ l<=1000000)(a:Store)(R:Ja)(h:∀v N,RowsO 10 zf N v l->zl N a->R v (N.un a)):Jb 321 [lst 10 zf l] a R:=by rw[<-jx a];exact ACalls.frame (F4 a) (ysu l c (λv N=>RowsO 10 zf N v l) λv N b=>b) λv N b d=>h v N b d
def Kv(w:Wld)(d:w.fits)(f:Γ w.U<=1000000)(st:Store)(R:Ja)(h:∀v N,RowsO 10 zf N v w.U->zl N st->R (.agg (zy w v)) (N.un st)):Jb 228 [.agg (zo w)] st R:=by
 refine Qy 18 func228 ?_;refine cu w.G d.1 _ _ ?_;refine zgt w.B d.2.1 _ _ ?_;refine ysv w.U f _ _ (λv N c e=>?_);have a:=c;rcases a with⟨rfl,_⟩|⟨b,g,L,rfl,_⟩
 .exact ret (h _ N c e)
 .exact ret (h _ N c e)
def yg6{g:Store}{b a:Nat}{c:List Unt}{L:List AV}(l:Γ c<=a)(k:a*10<=Γ c*10+Γ L)(h:a<=9223372036854775807){i j:Nat}(f:i<Γ c){ys:List AV}(e:j+Γ ys<=10){u':Unt}(d:zf u'=zu (zf c[i]) j ys):
  RowsO 10 zf (g.sO b (.cells (zu ((rws zf c).flatten++L) (0+i*10+j) ys))) (.s (.slice (Δ ⟨b,0,Θ⟩) (Γ c) a)) (c.set i u'):=by
 refine .inr ⟨b,a,L,by rw[Faf],?_,by rw[Faf];exact l,by rw[Faf];exact k,h⟩;rw[zd,Fbd,Lm yx f e d]
section
variable {S:Store} {v0 v:AV} {i:Nat}
def ysw{l:List Unt}(o:RowsQ 10 zf S v0 l)(hl:Γ l<=1000000)(R:Ja)(h:∀v N,RowsO 10 zf N v l->zl N S->R v (N.un S)):Jb 321 [v0] S R:=by
 obtain⟨A,E,rfl,j⟩:=o.form;refine Qy 19 func321 ?_;refine AWp.loop (σ:=Nat×AV×Store) ⟨λs=>[(0,.av (.s (.slice A (Γ l) E))),(3,.av s.2.1),(4,.av (int s.1))],λ_=>[],λs d=>s.1<=Γ l/\d=s.2.2.un S/\zl s.2.2 S/\RowsO 10 zf s.2.2 s.2.1 (l.take s.1),λs=>Γ l-s.1⟩ zb ?_ ?_
 .exact⟨(0,_,Store.empty),O,⟨Fae _,(jx S).symm,F4 S,.inl ⟨rfl,rfl⟩⟩,⟨Y,Y,Y,O⟩,O⟩
 .rintro⟨i,v,N⟩ d ⟨C,rfl,k,n⟩;dsimp only at C n k⊢;refine zg (λh1=>?_) (λh1=>?_)
  .have c:i<Γ l:=by simpa using h1
   obtain⟨b,a,rfl,B⟩:=j i c;refine⟨i,rfl,c,?_⟩;refine J _ (zh B) ?_;refine yv rfl rfl (xx yx c) ?_;refine⟨ψ,?_⟩;refine O3 rfl (λ_=>rfl) ψ (n.unL k) l[i] rfl θd (λu t L f z y w=>?_);have g:¬S.has u:=by
    rcases f with f|⟨H,f⟩
    .exact fresh_iff.1 (fresh_un f).2
    .subst f;rcases n with⟨e,_⟩|⟨I,G,K,e,D,_⟩
     .cases e
     .cases e;exact k _ (xk D)
   rw[Bx g];refine⟨⟨Z,Z⟩,?_⟩;refine⟨(i+1,_,_),?_,⟨c,rfl,Cl k g,?_⟩,⟨Y,Y,Y,O⟩,O⟩
   .show Γ l-(i+1)<Γ l-i;omega
   .rw[Fab c];exact .inr ⟨u,t,L,rfl,zd _ _ _,z,y,w⟩
  .have p:i=Γ l:=by
    have:¬i<Γ l:=θe;omega
   subst p;rw[Fal]at n;exact ret (h _ _ n k)
def yst{w:Wld}(c:RowsQ 10 zf S v0 w.U)(e:w.fits)(g:Γ w.U<=1000000)(R:Ja)(h:∀v N,RowsO 10 zf N v w.U->zl N S->R (.agg (zy w v)) (N.un S)):Jb 228 [.agg (zy w v0)] S R:=by
 have a:=c;obtain⟨k,l,rfl,_⟩:=a.form;refine Qy 18 func228 ?_;refine cu w.G e.1 _ _ ?_;refine zgt w.B e.2.1 _ _ ?_;refine ysw c g _ (λv N d f=>?_);have a:=d;rcases a with⟨rfl,_⟩|⟨b,j,L,rfl,_⟩
 .exact ret (h _ N d f)
 .exact ret (h _ N d f)
def yiv{w:World}{T:BB}{x y z t:AV}{f:List Value}(h:Reads w T [x,y,z,t] f):∃a b c d,f=[a,b,c,d]/\VRel w T x a/\VRel w T y b/\VRel w T z c/\VRel w T t d:=by
 obtain⟨g,e⟩:=h
 match f,g,e with
 |[a,b,c,d],_,e=>exact⟨a,b,c,d,rfl,e 0 _ _ rfl rfl,e 1 _ _ rfl rfl,e 2 _ _ rfl rfl,e 3 _ _ rfl rfl⟩
def yg2{w:Wld}(j:RowsQ 10 zf S v w.U)(g:playW w)(id k:Int)(o:vd k)(q:Vc)(n:q.ok)(R:Ja)
  (h:∀z:Bool,(z=true↔qi w id k q)->R (V.bool z) S):Jb 402 [.agg (zy w v),int id,int k,.agg (zr q)] S R:=
 ACalls.read (Q:=λr=>∃z:Bool,r=V.bool z/\(z=true↔qi w id k q)) (λA M W B sto l=>by obtain⟨a,b,c,d,rfl,y,u,t,p⟩:=yiv l;exact Reads.cons (Fe j sto y) (Reads.cons (qq u) (Reads.cons (qq t) (Reads.cons (qq p) Reads.nil)))) (yg3 w g id k o q n _ _ λz f=>⟨z,rfl,f⟩) (λr ⟨z,e,_⟩=>e▸Ht _) (λr ⟨z,e,f⟩=>e▸h z f)
def zbp{w:Wld}(hv:RowsQ 10 zf S v w.U)(b:playW w){i:Nat}(c:i<Γ w.U)(id:Int)(a:w.U[i].id=id)(R:Ja)(h:R (int (i:Nat)) S):Jb 33 [.agg (zy w v),int id] S R:=
 ACalls.read (Q:=λr=>r=int (i)) (λd M W e sto hr=>θ9) (yic w b c id a _ _ rfl) (λr hr=>hr▸Ht _) (λr hr=>hr▸h)
def ygp{w:Wld}(hv:RowsQ 10 zf S v w.U)(E:playW w)(n:i<Γ w.U)(h0:w.U[i].inn=0)(d:Vc)(hd:d.ok)(R:Ja)
  (h:∀t N,RowsQ 10 zf (N.un S) t (xj w w.U[i] d).U->zl N S->R (.tup [.agg (zy (xj w w.U[i] d) t),int (Bj w w.U[i] d)]) (N.un S)):
  Jb 330 [.agg (zy w v),int w.U[i].id,.agg (zr d)] S R:=by
 have f:=xr E.1;have hU:=f.hU;have ε:=sf hd;have hhalf:=λk=>zex ε k;have t0:Lj w w.U[i] (qy d) 0:=rfl;have hnone:=λ(e:qo w w.U[i] (qy d) 5 0=Θ)=>Vf e;have hsome:=λk p (e:qo w w.U[i] (qy d) 5 0=Δ (k,p))=>ft e;have η:=f.hk _ (Faa n);have W:=E.2 _ (Faa n);obtain⟨oa,c0,ev,M⟩:=hv.form;obtain⟨b,a,rfl,ho⟩:=M i n;subst ev;have hsame:qo w w.U[i] (qy d) 5 0=Θ->R (.tup [.agg (zy w (.s (.slice (Δ ⟨b,0,Θ⟩) (Γ w.U) c0))),int 5]) S:=λe=>by obtain⟨e1,G⟩:=hnone e;have:=h (.s (.slice (Δ ⟨b,0,Θ⟩) (Γ w.U) c0)) Store.empty (by rw[jx,G];exact hv) (F4 S);rw[jx,e1,G]at this;exact this
 refine Qy 74 func330 ?_;refine zbp hv E n w.U[i].id rfl _ ?_;refine⟨i,rfl,n,?_⟩;refine Qby ?_;refine yv (i:=ti72) (row:=zf w.U[i]) rfl rfl (xx yx n) ?_;refine Qc zb yb4 ?_;refine⟨Hc d.1 _ _ ⟨Qe,?_⟩,O⟩;refine⟨Hc d.2 _ _ ⟨Qe,?_⟩,O⟩;refine Qbx ?_;have hT:=E.1.1.2.1;have hR:∀k p,qo w w.U[i] (qy d) 5 0=Δ (k,p)->∀t N,RowsQ 10 zf (N.un S) t (w.U.set i {w.U[i]with pos:=p})->zl N S->R (.tup [.agg (zy w t),int (k:Int)]) (N.un S):=λk p e t N h1 h2=>by obtain⟨e1,G⟩:=hsome k p e;have e3:=Cf (w:=w) hT n (u:={w.U[i]with pos:=p}) rfl;rw[e3]at G;have:=h t N (by rw[G];exact h1) h2;rw[e1,G]at this;exact this
 clear h hsome hnone;have ι:∀k,vn (qy d) k=((qy d).1.tdiv ((2^k:Nat):Int),(qy d).2.tdiv ((2^k:Nat):Int)):=λk=>rfl
 refine AWp.loop (σ:=Nat) ⟨λk=>[(1,.av (int w.U[i].id)),(3,.bx 3 0),(5,.bx 5 0),(6,.bx 6 0),(8,.av (int (i:Nat))),(9,.bx 9 0),(10,.av (int (k:Nat)))],λ_=>[(3,zy w (.s (.slice (Δ ⟨b,0,Θ⟩) (Γ w.U) c0))),(5,zr (qy d)),(6,Dv),(9,zf w.U[i])],
  λk A=>k<=5/\Lj w w.U[i] (qy d) k/\A=S,λk=>5-k⟩ zb ?_ ?_
 .exact⟨0,O,⟨Fae _,t0,rfl⟩,Qbt,⟨rfl,rfl,rfl,rfl,O⟩⟩
 rintro k A ⟨P,c,rfl⟩;dsimp only at P c⊢;generalize qy d=nd at*;refine bcd (λc1=>?_) (λc1=>?_);rotate_left
 .exact ret (hsame (tj c (λhq=>absurd hq Z) P))
 have D:k<5:=Z;have V:=zaf D;have hkv:=ι k;have hh:=hhalf k;have l:((2^k:Nat):Int)≠0:=by have:0<2^k:=Nat.pow_pos ψ;omega
 rw[<-V]at hkv l;have K:yr (nd.1.tdiv (IntKind.i64.wrap (1*2^(min ((k:Int)).toNat IntKind.i64.bits)))):=ψ8;have I:yr (nd.2.tdiv (IntKind.i64.wrap (1*2^(min ((k:Int)).toNat IntKind.i64.bits)))):=ψ9;have nx:=zko c D;have sm:=zkn c D;have no:=tj c;refine Qc zb yb3 ?_;refine⟨Z,?_⟩;refine⟨l,ze K ?_⟩;refine⟨Z,?_⟩;refine⟨l,ze I ?_⟩;refine⟨⟨?_,?_⟩,O⟩
 .repeat(first|exact O|refine⟨rfl,?_⟩|refine⟨⟨Z,rfl⟩,?_⟩|refine⟨⟨l,ze K rfl⟩,?_⟩|refine⟨⟨l,ze I rfl⟩,?_⟩)
 refine Qbx ?_;rw[hkv]at nx sm no hh;generalize nd.1.tdiv (IntKind.i64.wrap (1*2^(min ((k:Int)).toNat IntKind.i64.bits)))=x at*;generalize nd.2.tdiv (IntKind.i64.wrap (1*2^(min ((k:Int)).toNat IntKind.i64.bits)))=y at*;refine zp (λc2=>?_) (λc2=>?_);refine zp (λc3=>?_) (λc3=>?_)
 .exact ret (hsame (no (λ_=>by rw[c2,c3]) P))
 have B:(x,y)≠((0:Int),(0:Int)):=λe=>c3 (congrArg (λv:Vc=>v.2) e);rotate_left;have B:(x,y)≠((0:Int),(0:Int)):=λe=>c2 (congrArg (λv:Vc=>v.1) e)
 all_goals
  refine Pq w.U[i].pos (x,y) W (Wr hh) _ _ ?_;have nx:=nx B;have sm:=sm B;have X:=fe w.U[i].pos (x,y);generalize xp w.U[i].pos (x,y)=np at*;refine yg2 hv E w.U[i].id w.U[i].kind η np X _ (λz hz=>?_);refine zg (λQ=>?_) (λQ=>?_);rotate_left
  .refine Qd ?_;exact⟨k+1,(show 5-(k+1)<5-k by omega),⟨Z,nx (λhc=>by rw[hz.2 hc]at Q;cases Q),rfl⟩,Qbt,⟨rfl,rfl,rfl,rfl,O⟩⟩
  have ν:=hR _ _ (sm (hz.1 Q));refine yst hv (xr E.1).fits Z _ (λt N T o=>?_);rcases T with⟨_,e⟩|⟨b2,ο,L,rfl,H,g1,g2,g3⟩
  .rw[e]at n;exact absurd n (Fav i)
  have C:¬A.has b2:=o _ (xk H);have hlen:0+i*10+3+2<=((rws zf w.U).flatten++L).length:=by rw[Fad,qu yx];omega
  have hrow:=yg6 (g:=N) (b:=b2) (L:=L) g1 g2 g3 n (j:=3) (ys:=zr np) (show 3+2<=10 by decide) (u':={w.U[i]with pos:=np}) rfl;refine⟨i,rfl,n,?_⟩;refine kh (i:=ti64) (v:=.agg (zr np)) (xs:=zr np) (b:=b2) rfl rfl rfl (yf o H) hlen ?_;rw[Bx C];exact ret (ν _ _ (RowsO.q (hrow.unL (Cl o C))) (Cl o C))
end
end Go.Proofs
namespace Go.Proofs
open Go Go.V
set_option maxRecDepth 20000
set_option maxHeartbeats 4000000
def zb2{S:Store}{w:Wld}{v:AV}(hv:RowsQ 10 zf S v w.U)(a:playW w){i:Nat}(b:i<Γ w.U)(c:w.U[i].inn=0)(R:Ja)(h:R (.agg (zr (Bz w w.U[i]))) S):Jb 329 [.agg (zy w v),int (i:Nat)] S R:=
 ACalls.read (ys:=[.agg (zo w),int (i:Nat)]) (Q:=λr=>r=.agg (zr (Bz w w.U[i]))) (λd M W f sto hr=>θ9) (yjo w a b c _ _ rfl) (λr hr=>hr▸yqi [.int .i64 _,.int .i64 _]) (λr hr=>hr▸h)
end Go.Proofs
namespace Go.Proofs
open Go Go.V Tryz
set_option maxRecDepth 20000
set_option maxHeartbeats 4000000
def Qam{p:Prop}(h:p:=by rw[Fbi];rfl):p:=h
def Hb{l:List Unt}{L:List AV}{i j:Nat}(c:i<Γ l)(b:j+1<=10){y:AV}{u':Unt}(a:zf u'=zu (zf l[i]) j [y]):zu ((rws zf l).flatten++L) (0+i*10+j) [y]=(rws zf (l.set i u')).flatten++L:=by rw[Fbd];exact Lm yx c b a
def H8{l:List Unt}{L:List AV}{i j:Nat}(b:i<Γ l)(a:j+1<=10):0+i*10+j+1<=((rws zf l).flatten++L).length:=by rw[Fad,qu yx];omega
def ir{S:Store}{b i:Nat}{l:List Unt}{L:List AV}(n:S.obj b=Δ (.cells ((rws zf l).flatten++L)))(hi:i<Γ l)(s:Int)(R:Ja)
  (h:R (.tup []) (S.sO b (.cells ((rws zf (l.set i (j7 s l[i]))).flatten++L)))):
  Jb 331 [.s (.pointer (Δ ⟨b,0+i*10,Θ⟩)),int s] S R:=by
 have p:=Hb (L:=L) hi (j:=5) ψ (y:=int (-1)) (u':={l[i]with goal:=-1}) rfl;have d:i<(l.set i {l[i]with goal:=-1}).length:=θj;have k:=Hb (L:=L) d (j:=6) ψ (y:=int (-1)) (u':={l[i]with goal:=-1,next:=-1}) Qam;rw[Fbr]at k;have c:i<(l.set i {l[i]with goal:=-1,next:=-1}).length:=θj;have g:=Hb (L:=L) c (j:=7) ψ (y:=int 0) (u':={l[i]with goal:=-1,next:=-1,stuck:=0}) Qam;rw[Fbr]at g;have a:i<(l.set i {l[i]with goal:=-1,next:=-1,stuck:=0}).length:=θj;have f:=Hb (L:=L) a (j:=9) ψ (y:=int s) (u':=j7 s l[i]) Qam;rw[Fbr]at f;refine Qy 17 func331 ?_;refine yu (i:=ti2) (v:=int (-1)) (b:=b) (o:=0+i*10+5) (l:=(rws zf l).flatten++L) (st2:=S.sO b (.cells ((rws zf (l.set i {l[i]with goal:=-1})).flatten++L))) rfl rfl rfl n (H8 hi ψ) (by rw[p]) ?_;refine yu (i:=ti2) (v:=int (-1)) (b:=b) (o:=0+i*10+6) (l:=_) (st2:=S.sO b (.cells ((rws zf (l.set i {l[i]with goal:=-1,next:=-1})).flatten++L))) rfl rfl rfl (zd _ _ _) (H8 d ψ) (by rw[k,ym]) ?_;refine yu (i:=ti2) (v:=int 0) (b:=b) (o:=0+i*10+7) (l:=_) (st2:=S.sO b (.cells ((rws zf (l.set i {l[i]with goal:=-1,next:=-1,stuck:=0})).flatten++L))) rfl rfl rfl (zd _ _ _) (H8 c ψ) (by rw[g,ym]) ?_;refine yu (i:=ti2) (v:=int s) (b:=b) (o:=0+i*10+9) (l:=_) (st2:=S.sO b (.cells ((rws zf (l.set i (j7 s l[i]))).flatten++L))) rfl rfl rfl (zd _ _ _) (H8 a ψ) (by rw[f,ym]) ?_;exact ret h
def Dq{U:List Unt}{J:List AV}{i j:Nat}(hi:i<Γ U)(hj:j<10){y:AV}(hy:(zf U[i])[j]?=Δ y):(((rws zf U).flatten++J).drop (0+i*10+j)).head?=Δ y:=φa
def Kf{U:List Unt}{J:List AV}{i:Nat}(a:i<Γ U):List.drop (0+i*10+3) ((rws zf U).flatten++J)=zr U[i].pos++(List.drop 5 (zf U[i])++((rws zf (U.drop (i+1))).flatten++J)):=by rw[<-Fdb,xx (f:=zf) (k:=10) yx a];rfl
def yh3(l:List Int)(hl:Γ l<=1000000000000)(n:Int)(st:Store)(R:Ja)(h:∀z:Int,(z<0↔l.contains n=false)->R (int z) st):Jb 334 [yq l,int n] st R:=by
 refine Qy 19 func334 ?_;refine AWp.loop (σ:=Nat) ⟨λi=>[(0,.av (yq l)),(1,.av (int n)),(5,.av (int (i:Nat)))],λ_=>[],λi b=>b=st/\i<=Γ l/\∀j (d:j<i) (hl:j<Γ l),n≠l[j],λi=>Γ l-i⟩ zb ?_ ?_
 .exact⟨0,O,⟨rfl,Fae _,λj d=>Z⟩,Qbt,O⟩
 rintro i b ⟨rfl,t,c⟩;refine zg (λo=>?_) (λo=>?_)
 .have a:i<Γ l:=ql o;refine⟨i,rfl,J _ (zm a) ?_⟩;refine zp (λf=>?_) (λf=>?_)
  .refine ret (h _ ?_);have u:l.contains n=true:=by
    rw[List.contains_iff_mem];have f:l[i]=n:=f;exact f▸Faa a
   rw[u];constructor
   .intro p;omega
   .intro p;cases p
  .refine⟨⟨Z,Z⟩,?_⟩;refine⟨i+1,?_,⟨rfl,a,λj d hl=>?_⟩,Qbt,O⟩
   .show Γ l-(i+1)<Γ l-i;omega
   .by_cases g:j=i
    .subst g;exact λe=>f e.symm
    .exact c j Z hl
 .have k:i=Γ l:=qr o t;subst k;refine ret (h (-1) ?_);refine⟨λ_=>?_,λ_=>ψ⟩;rw[<-Bool.not_eq_true,List.contains_iff_mem];intro hm;obtain⟨j,d,e⟩:=Faj hm;exact c j d d e.symm
end Go.Proofs
namespace Go.Proofs
open Go Go.V
set_option maxRecDepth 20000
set_option maxHeartbeats 4000000
end Go.Proofs
namespace Go.Proofs
open Go Go.V Tryz
set_option maxRecDepth 20000
set_option maxHeartbeats 4000000
def yl4{z N:Store}{w:Wld}{v:AV}(I:RowsQ 10 zf z v w.U)(hp:playW w)(hd:zl z N){H:Nat}{room:Int}{k:Nat}(hF:FldAny H room (k:Nat) N)(hk:k<=1000000000000000000)(R:Ja)
  (h:∀X N',RowsQ 10 zf X v (ku w).U->zl X N'->FldAny H room ((k+Γ w.U:Nat):Int) N'->R (.agg (zy (ku w) v)) (X.un N')):Jb 63 [.agg (zy w v),ptr H] (z.un N) R:=by
 have hm:=xr hp.1;have hU:=hm.hU;obtain⟨t,d,ev,ο⟩:=I.form;subst ev;refine Qa (c:=cfg 45 [13] []) zb func63 ?_;refine ACalls.frame hd (zct w _ z I Z hp.2 (λr S=>∃F s p L o0 o1 o2,r=ptr s/\S=F.un (svS z s w (.s (.slice t (Γ w.U) d)) o0 o1 o2 p)/\Fresh z s/\StandR F z s p w (.s (.slice t (Γ w.U) d)) L o0 o1 o2/\Γ L<=Γ w.U/\(yw w.U->∀e,e∈L↔∃u∈w.U,u.inn=0/\e=(u.id,u.pos))) (λF s p L o0 o1 o2 g j h3 h4=>⟨F,s,p,L,o0,o1,o2,rfl,rfl,g,j,h3,h4⟩)) ?_;rintro r S ⟨F,s,p,L,o0,o1,o2,rfl,rfl,hs,P,π,Q⟩ f;refine yve rfl (it:=ti119) rfl rfl ?_;intro l ν;have hmbF:=fresh_un ν;have K:¬F.has l/\¬(svS z s w (.s (.slice t (Γ w.U) d)) o0 o1 o2 p).has l:=by have:=fresh_iff.1 hmbF.1;exact⟨λhh=>this (un_has.2 (.inl hh)),λhh=>this (un_has.2 (.inr hh))⟩
 have hmN2:¬N.has l:=fresh_iff.1 hmbF.2;have W:l≠s:=λe=>K.2 (svS_has.2 (.inl e));have τ:¬z.has l:=λhh=>K.2 (svS_has.2 (.inr hh));have hmN0:z.obj l=Θ:=(jt τ).1;have omb:jf (.s (.slice t (Γ w.U) d)) l:=Dj I hmN0;have oms:jf (.s (.slice t (Γ w.U) d)) s:=Dj I P.hs;have e0:((F.un (svS z s w (.s (.slice t (Γ w.U) d)) o0 o1 o2 p)).un N).sO l (AObj.cells [AV.s (Value.pointer (Δ {block:=s,off:=0})),AV.s (Value.iface 119 (Value.pointer (Δ {block:=H,off:=0})))])=(F.un (svS (z.sO l (.cells [ptr s,R6 H])) s w (.s (.slice t (Γ w.U) d)) o0 o1 o2 p)).un N:=by rw[Bx hmN2,z8];unfold svS;rw[Fj W];rfl
 have y:MoverG (R6 H) F (z.sO l (.cells [ptr s,R6 H])) l s p w (.s (.slice t (Γ w.U) d)) L o0 o1 o2:=
  ⟨⟨P.hc,λi g j=>by
    rcases svS_has.1 j with j|j
    .exact P.hd i g (svS_has.2 (.inl j))
    .rcases has_setObj_iff.1 j with j|j
     .subst j;exact K.1 g
     .exact P.hd i g (svS_has.2 (.inr j)),by rw[zi (Ne.symm W)];exact P.hs,I.set omb _,P.h0,P.h1,P.h2⟩,zd _ _ _,omb,oms,π,Q hp.1.1.2.1⟩
 have M:zl (F.un (svS (z.sO l (.cells [ptr s,R6 H])) s w (.s (.slice t (Γ w.U) d)) o0 o1 o2 p)) N:=λi g j=>by
  rcases un_has.1 g with g|g
  .exact f i (un_has.2 (.inl g)) j
  .rcases svS_has.1 g with g|g
   .exact f i (un_has.2 (.inr (svS_has.2 (.inl g)))) j
   .rcases has_setObj_iff.1 g with g|g
    .subst g;exact hmN2 j
    .exact f i (un_has.2 (.inr (svS_has.2 (.inr g)))) j
 rw[e0];clear e0 hmbF ν K f P hs π Q
 refine AWp.loop (σ:=Nat) ⟨λi=>[(5,.av (ptr l)),(16,.av (int (Γ w.U:Nat))),(17,.av (int (i:Nat))),(4,.bx 4 0)],λ_=>[(4,Dv)],
  λi S=>i<=Γ w.U/\∃F G L C B A n N,S=(F.un (svS G s (goN w i) (.s (.slice t (Γ w.U) d)) C B A p)).un N/\MoverG (R6 H) F G l s p (goN w i) (.s (.slice t (Γ w.U) d)) L C B A/\zl (F.un (svS G s (goN w i) (.s (.slice t (Γ w.U) d)) C B A p)) N/\FldAny H room ((k+n:Nat):Int) N/\n<=i,λi=>Γ w.U-i⟩ zb ?_ ?_
 .exact⟨0,O,⟨Fae _,F,_,L,o0,o1,o2,0,N,rfl,y,M,hF,Fai _⟩,⟨Y,Y,Y,Y,O⟩,⟨rfl,O⟩⟩
 clear y M hF hd hmN2 τ hmN0 W omb oms I ο;rintro i S ⟨hi,F1,T,L1,C,B,A,n,N1,rfl,y,f,hF,hn⟩;obtain⟨V,hli,_,_⟩:=Rz hp i;have hmi:=xr V.1;refine bcd (λg=>?_) (λg=>?_)
 .have ε:i<Γ w.U:=Z;have E:i<(goN w i).U.length:=Z;obtain⟨υ,ς,ι,η⟩:=y.S.hu.form;obtain⟨b,a,hoa,D⟩:=η i E;have hoa3:t=Δ ⟨b,0,Θ⟩:=by
   simp only[AV.s.injEq,Value.slice.injEq]at ι;rw[ι.1,hoa]
  subst hoa3;have hbs:b≠s:=λe=>by rw[e,y.S.hs]at D;cases D
  have hob:((F1.un (svS T s (goN w i) (.s (.slice (Δ ⟨b,0,Θ⟩) (Γ w.U) d)) C B A p)).un N1).obj b=Δ (.cells ((rws zf (goN w i).U).flatten++a)):=yf f (zh (by show(T.sO s _).obj b=_;rw[zi hbs];exact D));refine J (o:=((F1.un (svS T s (goN w i) (.s (.slice (Δ ⟨b,0,Θ⟩) (Γ w.U) d)) C B A p)).un N1).obj l) _ (yf f y.m) ?_;refine J (o:=((F1.un (svS T s (goN w i) (.s (.slice (Δ ⟨b,0,Θ⟩) (Γ w.U) d)) C B A p)).un N1).obj s) _ (yf f y.s) ?_;refine⟨i,rfl,ε,?_⟩;refine J (o:=((F1.un (svS T s (goN w i) (.s (.slice (Δ ⟨b,0,Θ⟩) (Γ w.U) d)) C B A p)).un N1).obj b) _ hob ?_;refine yv (i:=ti72) (row:=zf (goN w i).U[i]) rfl rfl (xx yx E) ?_;refine zp (λc1=>?_) (λc1=>?_)
  .have hg:=ze5 E c1;refine zj4 (yol hmi H room k (n+1) Z) (Fcv n) y f hF V.1 V.2 E c1 _ (λF2 G2 L2 a0 a1 a2 n2 N2 hn2 hW2 M hF2=>?_);refine Qd ?_;refine⟨i+1,(show Γ w.U-(i+1)<Γ w.U-i by omega),⟨ε,F2,G2,L2,a0,a1,a2,n2,N2,?_,?_,?_,hF2,Z⟩,Qbt,⟨rfl,O⟩⟩
   .rw[hg]
   .rw[hg];exact hW2
   .rw[hg];exact M
  .have hg:=ze4 E c1;refine Qd ?_;refine⟨i+1,(show Γ w.U-(i+1)<Γ w.U-i by omega),⟨ε,F1,T,L1,C,B,A,n,N1,?_,?_,?_,hF,Z⟩,Qbt,⟨rfl,O⟩⟩
   .rw[hg]
   .rw[hg];exact y
   .rw[hg];exact f
 .have:i=Γ w.U:=Z;subst this;obtain⟨υ,ς,ι,_⟩:=y.S.hu.form;refine J (o:=((F1.un (svS T s (goN w (Γ w.U)) (.s (.slice t (Γ w.U) d)) C B A p)).un N1).obj l) _ (yf f y.m) ?_;refine J (o:=((F1.un (svS T s (goN w (Γ w.U)) (.s (.slice t (Γ w.U) d)) C B A p)).un N1).obj s) _ (yf f y.s) ?_;exact ret (h _ _ (I5 y.S.hs y.S.hu).un f (hF.mono Z))
def j2(g:Gnd)(n:Int):Wld:=⟨0,n,1,g,[],[]⟩
def D4(g:Gnd)(n:Int):Prop:=zt g/\1<=n/\n<=8
def zi6{G:Store}{g:Gnd}{v:AV}(n:Int)(hn:yr n)
  (d:∀R:AV->Store->Prop,(∀b:Bool,(b=true↔zt g)->R (V.bool b) G)->Jb 68 [.agg [int g.W,int g.H,v]] G R)
  (c:∀R:AV->Store->Prop,(∀a N,RowsQ 1 u8C N a g.T->zl N G->R (.agg [int g.W,int g.H,a]) (N.un G))->Jb 69 [.agg [int g.W,int g.H,v]] G R):
  Jb 21 [.agg [int g.W,int g.H,v],int n] G λr S=>(¬D4 g n/\r=.tup [.agg Dv,int 1]/\S=G)∨
   (D4 g n/\∃a N,RowsQ 1 u8C N a g.T/\zl N G/\r=.tup [.agg [int 0,int n,int 1,int g.W,int g.H,a,nil,nil],int 0]/\S=N.un G):=by
 refine Qy 22 func21 ?_;refine d _ (λz hz=>?_)
 have bad:¬D4 g n->(¬D4 g n/\(.tup [.agg Dv,int 1]:AV)=.tup [.agg Dv,int 1]/\G=G)∨
   (D4 g n/\∃a N,RowsQ 1 u8C N a g.T/\zl N G/\(.tup [.agg Dv,int 1]:AV)=.tup [.agg [int 0,int n,int 1,int g.W,int g.H,a,nil,nil],int 0]/\G=N.un G):=λh=>.inl ⟨h,rfl,rfl⟩
 refine ya ?_;refine zg (λc1=>?_) (λc1=>?_);rotate_left
 .exact ret (bad λhh=>ψy)
 refine bcd (λk=>?_) (λk=>?_)
 .exact ret (bad λhh=>by have:=hh.2;omega)
 refine bcd (λj=>?_) (λj=>?_)
 .exact ret (bad λhh=>by have:=hh.2;omega)
 refine c _ (λa N e f=>?_);have hform:=e.form;obtain⟨l,i,rfl,_⟩:=hform;exact ret (.inr ⟨⟨hz.1 c1,Z,Z⟩,_,N,e,f,rfl,rfl⟩)
def zi5(g:Gnd)(p:g.fits)(t:Γ g.T<=1000000000)(n:Int)(o:yr n)(d:Store)(R:Ja)
  (c:¬D4 g n->R (.tup [.agg Dv,int 1]) d) (e:D4 g n->R (.tup [.agg (zo (j2 g n)),int 0]) d):Jb 21 [.agg (zq g),int n] d R:=by
 refine Gn (Q:=λr=>(¬D4 g n/\r=.tup [.agg Dv,int 1])\/(D4 g n/\r=.tup [.agg (zo (j2 g n)),int 0])) ?_ d R λr k=>?_
 .refine(zi6 n o (λR h=>nt g p _ R h) (λR h=>nu g t _ R h)).frozen ?_;rintro r S (⟨b,rfl,rfl⟩|⟨b,i,N,j,u,rfl,rfl⟩)
  .exact⟨_,.inl ⟨b,rfl⟩,λf M w v sto a=>qq a⟩
  .refine⟨_,.inr ⟨b,rfl⟩,λf M w v sto a=>a.tup2 (λx a=>?_) (λx a=>qq a)⟩;have l:OwnQ (N.un Store.empty) (j2 g n) i nil nil N Store.empty Store.empty:=⟨by rw[jx,jx,Dx],j,.inl (.inl ⟨rfl,rfl⟩),.inl (.inl ⟨rfl,rfl⟩),Sb _,Sb _⟩
   exact lk l sto a
 .rcases k with⟨b,rfl⟩|⟨b,rfl⟩
  .exact c b
  .exact e b
def Gv(w:Wld)(a:Nat):List AV:=zo w++[ptr a]
structure EngR(eb:Nat)(room:Int)(k:Nat)(w:Wld)(S:Store):Prop where
 out:∃N fb,S=N.sO eb (.cells (Gv w fb))/\¬N.has eb/\FldAny fb room (k:Nat) N
def FldAny.objs0{a:Nat}{room k:Int}{N:Store}(h:FldAny a room k N):FldAny a room k N.objs0:=h.objs
def zi3(w:Wld)(C:w.fits)(E:∀u∈w.U,u.pos.ok)(P:Γ w.G.T<=1000000)(Q:Γ w.B<=1000000)(L:Γ w.U<=1000000)(room:Int)(D:1<=room/\room<=4096)(R:Ja)
  (o:¬yd w->R (.tup [.s (.pointer Θ),int 1]) Store.empty) (v:yd w->∀f S,EngR f room 0 w S->R (.tup [ptr f,int 0]) S):Jb 9 [.agg (zo w),int room] Store.empty R:=by
 have key:Jb 9 [.agg (zo w),int room] Store.empty λr S=>(¬yd w/\r=.tup [.s (.pointer Θ),int 1])∨
   (yd w/\∃X N f l d e a i j g,OwnQ X w d e a i j g/\zl X N/\¬X.has f/\¬N.has f/\FldAny l room ((0)) N/\r=.tup [ptr f,int 0]/\S=(X.un N).sO f (.cells (I0 w d e a++[ptr l]))):=by
  refine Qa (c:=cfg 25 [24] []) zb func9 ?_;refine yp5 room D _ (λN l A=>?_);refine ymb w C E _ _ (λz hz=>?_);refine ya ?_;refine zg (λc1=>?_) (λc1=>?_);rotate_left
  .exact ret (.inl ⟨λhh=>θo,rfl⟩)
  have hown:Jb 48 [.agg (zo w)] (Store.empty.un N) λr S=>∃X d e a i j g,OwnQ X w d e a i j g/\zl X N/\r=.agg (I0 w d e a)/\S=X.un N:=
   ACalls.frame (F4 N) (lj w Z Z Z (λr S=>∃d e a i j g,OwnQ S w d e a i j g/\r=.agg (I0 w d e a)) (λS d e a i j g h=>⟨d,e,a,i,j,g,h,rfl⟩)) (λr I ⟨d,e,a,i,j,g,p,t⟩ n=>⟨I,d,e,a,i,j,g,p,n,t,rfl⟩)
  rw[jx]at hown;refine hown.imp ?_;rintro r S ⟨X,d,e,a,i,j,g,y,n,rfl,rfl⟩;intro f k;have k:=fresh_iff.1 k;exact ret (.inr ⟨hz.1 c1,X,N,f,l,_,_,_,i,j,g,y,n,λh=>k (un_has.2 (.inl h)),λh=>k (un_has.2 (.inr h)),A,rfl,rfl⟩)
 refine key.frozenEng ?_;rintro r S (⟨p,rfl⟩|⟨H,X,N,f,l,d,e,a,i,j,g,y,n,p,t,A,rfl,rfl⟩)
 .exact .inl ⟨Store.empty,o p,λb x hx=>θc,λb=>rfl⟩
 .refine .inr ⟨_,X,N,f,I0 w d e a,zo w,_,n,p,t,rfl,rfl,v H f _ ⟨_,l,rfl,?_,A.objs0⟩,λK M W sto=>⟨λx hx=>lk y sto hx,λx hx=>qq hx⟩⟩;exact λh=>t (h.elim .inl λh=>absurd rfl h)
section
variable {eb k:Nat} {room:Int} {w:Wld} {S:Store}
def Qan{p:Prop}(h:p:=by repeat(first|exact O|refine⟨rfl,?_⟩|refine⟨J (o:=(ko _ Nt eb fb W).obj eb) _ (Hu _ _ _ _ _) rfl,?_⟩)):p:=h
def j3(a:Nat):AV:=.s (.func (.func 62) #[.pointer (Δ ⟨a,0,Θ⟩)] #[])
def DoC:Prop:=∀(a:Nat) (room:Int) (k:Nat) (N:Store) (w:Wld) (c:Cmd),FldAny a room (k:Nat) N->playW w->c.fits->∀R:AV->Store->Prop,(∀b,FldAny a room (k:Nat) b->R (.tup [.agg (zo (doW aE aW w c)),int (doE aE w c)]) b)->
 Jb 61 [.agg (zo w),.agg (yg c),j3 a] N R
def ko(N b:Store)(eb a:Nat)(w:Wld):Store:=N.un (b.sO eb (.cells (Gv w a)))
def Hu(N b:Store)(eb a:Nat)(w:Wld):(ko N b eb a w).obj eb=Δ (.cells (Gv w a)):=zh (zd _ _ _)
def cn{a g:Store}{b:Nat}{x y:AObj}(h:zl a (g.sO b x)):zl a (g.sO b y):=λi d c=>h i d (has_setObj_iff.2 (has_setObj_iff.1 c))
def zz0(hE:EngR eb room k w S)(Q:playW w)(l:List Cmd)(hl:l=[]\/DoC)(hf:∀c∈l,c.fits)(hl2:Γ l<=512)(ht:w.tick<1099511627776)(hk:k<=100000000000000000):
  Jb 15 [ptr eb,lst 10 yg l] S λr S'=>∃(N:Store) (fb:Nat) (X Nt:Store) (v E:AV),r=.tup [E,int 0]/\S'=(X.un N).un (Nt.sO eb (.cells (zy (Gu w l) v++[ptr fb])))∧
   RowsQ 10 zf X v (Gu w l).U/\RowsQ 1 zx Nt E (wn w l)/\zl X N/\zl (X.un N) (Nt.sO eb (.cells []))/\¬Nt.has eb/\FldAny fb room ((k+4096:Nat):Int) N:=by
 obtain⟨N,fb,rfl,hn,D⟩:=hE.out;refine Qy 74 func15 ?_;refine J (o:=(N.sO eb _).obj eb) _ (zd _ _ _) ?_;refine zp (λc1=>absurd c1 Z) (λ_=>?_);refine bcd (λc2=>absurd c2 θg) (λ_=>?_);have e0:N.sO eb (.cells (Gv w fb))=ko N Store.empty eb fb w:=by unfold ko;rw[<-z8,Dx]
 have K:zl N (Store.empty.sO eb (.cells [])):=λi n g=>by
  rcases has_setObj_iff.1 g with rfl|g
  .exact hn n
  .exact g.elim (λh=>h rfl) (λh=>h rfl)
 rw[e0]
 refine AWp.loop (σ:=Nat×Store×Store×AV) ⟨λx=>[(0,.av (ptr eb)),(6,.av x.2.2.2),(22,.av (lst 10 yg l)),(23,.av (int (Γ l:Nat))),(24,.av (int (x.1:Nat)))],λ_=>[],
  λx G=>x.1<=Γ l/\G=ko x.2.1 x.2.2.1 eb fb (j9 w (l.take x.1))/\RowsQ 1 zx x.2.2.1 x.2.2.2 (wn w (l.take x.1))/\zl x.2.1 (x.2.2.1.sO eb (.cells []))/\¬x.2.2.1.has eb/\FldAny fb room (k:Nat) x.2.1,λx=>Γ l-x.1⟩ zb ?_ ?_
 .refine⟨(0,N,Store.empty,.s (.slice Θ 0 0)),O,⟨Fae _,rfl,.inl (.inl ⟨rfl,rfl⟩),K,λh=>h.elim (λh=>h rfl) (λh=>h rfl),D⟩,⟨Y,Y,Y,?_,Y,O⟩,O⟩;show LV.le (.av (int ((rws yg l).length:Nat))) (.av (int (Γ l:Nat)));rw[zj];exact Y
 clear e0 K D hn hE;rintro⟨i,N,Nt,E⟩ G ⟨hi,rfl,p,hd,y,D⟩;dsimp only at hi p hd y D⊢;refine bcd (λn=>?_) (λn=>?_)
 .have z:i<Γ l:=Z;obtain⟨q1,q2⟩:=zgw (w:=w) z;have H:=Rc (l.take i) Q;refine⟨i,rfl,J _ (zm z) ?_⟩;rcases hl with rfl|π
  .exact absurd z (Fav i)
  have hcall:∀R:AV->Store->Prop,(∀d,FldAny fb room (k:Nat) d->zl d (Nt.sO eb (.cells []))->R (.tup [.agg (zo (doW aE aW (j9 w (l.take i)) l[i])),int (doE aE (j9 w (l.take i)) l[i])]) (ko d Nt eb fb (j9 w (l.take i))))->
    Jb 61 [.agg (zo (j9 w (l.take i))),.agg (yg l[i]),j3 fb] (ko N Nt eb fb (j9 w (l.take i))) R:=λR h=>
   ACalls.frame (cn hd) (π fb room k N (j9 w (l.take i)) l[i] D H (hf _ (Faa z)) (λr S=>FldAny fb room (k:Nat) S/\r=.tup [.agg (zo (doW aE aW (j9 w (l.take i)) l[i])),int (doE aE (j9 w (l.take i)) l[i])]) (λd h=>⟨h,rfl⟩))
    λr V ⟨n,g⟩ f=>g▸h V n (cn f)
  have hTl:(wn w (l.take i)).length<=i:=by rw[pe,Fah];omega
  have hoff:=Dj p (jt y).1;generalize j9 w (l.take i)=W at*;generalize wn w (l.take i)=T at*;generalize doW aE aW W l[i]=M at*;generalize doE aE W l[i]=B at*;refine Qc zb yfw ?_;refine J (o:=(ko N Nt eb fb W).obj eb) _ (Hu _ _ _ _ _) ?_;refine J (o:=(ko N Nt eb fb W).obj eb) _ (Hu _ _ _ _ _) ?_;refine⟨hcall _ λd A f=>⟨O,⟨⟨Qan,⟨⟨O,⟨⟨O,?_⟩,O⟩⟩,O⟩⟩,O⟩⟩,⟨⟨Qan,⟨hcall _ λd A f=>⟨O,⟨⟨O,⟨⟨O,?_⟩,O⟩⟩,O⟩⟩,O⟩⟩,O⟩⟩
  all_goals
   refine Qc zb yfy ?_;have hvtN:RowsQ 1 zx (ko d Nt eb fb W) E T:=(p.set hoff _).un;refine⟨ψ,G6 (ie:=ti2) rfl W8 ψ (v:=E) (l:=T) hvtN B rfl Z (λb u L t h6 h7 h8=>?_),O⟩;have C:b≠eb:=by
    rcases t with t|⟨c0,h0,t⟩
    .exact λe=>fresh_iff.1 t (by rw[e];exact xk (Hu _ _ _ _ _))
    .exact hoff b _ c0 t h0
   have ι:¬d.has b:=by
    rcases t with t|⟨c0,h0,t⟩
    .exact λe=>fresh_iff.1 t (un_has.2 (.inl e))
    .exact λe=>f b e (has_setObj_iff.2 (.inr (p.has t h0)))
   have e1:(ko d Nt eb fb W).sO b (.cells ((rws zx (T++[B])).flatten++L))=ko d (Nt.sO b (.cells ((rws zx (T++[B])).flatten++L))) eb fb W:=by unfold ko;rw[z8,Fj C]
   rw[e1];refine⟨?_,?_⟩
   .first|exact rfl|(repeat(first|exact O|refine⟨rfl,?_⟩))
   refine⟨?_,O⟩;refine J _ rfl (ju rfl (jr (v:=.agg (zo M)) rfl rfl rfl rfl ?_));refine kh (i:=ti27) (v:=.agg (zo M)) (xs:=zo M) (b:=eb) (o:=0) (l:=Gv W fb) rfl rfl rfl (Hu _ _ _ _ _) (show 0+8<=9 by decide) ⟨O,?_⟩;refine Qbx ?_;refine Qd ?_;have e3:(ko d (Nt.sO b (.cells ((rws zx (T++[B])).flatten++L))) eb fb W).sO eb (.cells (Gv M fb))=ko d (Nt.sO b (.cells ((rws zx (T++[B])).flatten++L))) eb fb M:=by unfold ko;rw[z8,ym]
   refine⟨(i+1,d,Nt.sO b (.cells ((rws zx (T++[B])).flatten++L)),_),(show Γ l-(i+1)<Γ l-i by omega),⟨ζ,?_,?_,?_,?_,A⟩,⟨Y,Y,Y,Y,Y,O⟩,O⟩
   .dsimp only;rw[q1];exact e3
   .dsimp only;rw[q2];exact .inl (.inr ⟨b,u,L,rfl,zd _ _ _,h6,h7,h8⟩)
   .intro j n g;dsimp only at n g;rw[Fj (Ne.symm C)]at g;rcases has_setObj_iff.1 g with rfl|g
    .exact ι n
    .exact f j n g
   .dsimp only;intro h;rcases has_setObj_iff.1 h with h|h
    .exact C h.symm
    .exact y h
 .have:i=Γ l:=Z;subst this;rw[Fal]at p⊢;have H:=Rc l Q;have υ:=cz l Q;have hsz:=H.sizes;have hU:=(xr H.1).hU;have heng:Gu w l=Pf (j9 w l):=rfl;generalize Gu w l=We at*;generalize j9 w l=W at*;generalize wn w l=T at*;have hown:∀R:AV->Store->Prop,(∀v X,RowsQ 10 zf X v W.U->zl X (ko N Nt eb fb W)->R (.agg (zy W v)) (X.un (ko N Nt eb fb W)))->Jb 48 [.agg (zo W)] (ko N Nt eb fb W) R:=λR h=>by
   rw[<-jx (ko N Nt eb fb W)];refine ACalls.frame (F4 _) (zcl W Z Z Z (λr S=>∃v,RowsQ 10 zf S v W.U/\r=.agg (zy W v)) (λv N h=>⟨v,h,rfl⟩)) ?_;rintro r V ⟨v,n,rfl⟩ f;exact h v V n f
  refine Qc zb yfx ?_;refine J (o:=(ko N Nt eb fb W).obj eb) _ (Hu _ _ _ _ _) ?_;refine J (o:=(ko N Nt eb fb W).obj eb) _ (Hu _ _ _ _ _) ?_;refine⟨hown _ (λv X hX I=>⟨(by repeat(first|exact rfl|exact O|refine⟨rfl,?_⟩|refine⟨J (o:=(X.un (ko N Nt eb fb W)).obj eb) _ (zh (Hu _ _ _ _ _)) rfl,?_⟩|refine J (o:=(X.un (ko N Nt eb fb W)).obj eb) _ (zh (Hu _ _ _ _ _)) rfl)),?_⟩),O⟩;have τ:zl X N:=λi n g=>I i n (un_has.2 (.inl g));have ο:zl (X.un N) (Nt.sO eb (.cells (Gv W fb))):=disj_un.2 ⟨λi n g=>I i n (un_has.2 (.inr g)),cn hd⟩;have e1:X.un (ko N Nt eb fb W)=(X.un N).un (Nt.sO eb (.cells (Gv W fb))):=(O8 _ _ _).symm;rw[e1];have ε:=ACalls.frame ο (yl4 hX H τ D Z (λr S=>∃a d,RowsQ 10 zf a v (ku W).U/\zl a d/\FldAny fb room ((k+Γ W.U:Nat):Int) d/\r=.agg (zy (ku W) v)/\S=a.un d) (λa d n g h3=>⟨a,d,n,g,h3,rfl,rfl⟩)) (R':=λr S=>∃a d,RowsQ 10 zf a v (ku W).U/\zl a d/\FldAny fb room ((k+Γ W.U:Nat):Int) d/\r=.agg (zy (ku W) v)/\S=(a.un d).un (Nt.sO eb (.cells (Gv W fb)))/\zl (a.un d) (Nt.sO eb (.cells (Gv W fb)))) (λr V ⟨a,d,n,g,h3,h4,t⟩ f=>⟨a,d,n,g,h3,h4,by rw[t],t▸f⟩);refine⟨ε.imp ?_,O⟩;rintro r S ⟨a,d,hY,ν,A,rfl,rfl,η⟩;obtain⟨P,u,B,_⟩:=hY.form;subst B;refine⟨O,?_⟩;refine⟨?_,O⟩;refine J _ rfl (ju rfl (jr (v:=.agg (zy (ku W) (.s (.slice P (ku W).U.length u)))) rfl rfl rfl rfl ?_));refine kh (i:=ti27) (v:=.agg (zy (ku W) (.s (.slice P (ku W).U.length u)))) (xs:=zy (ku W) (.s (.slice P (ku W).U.length u))) (b:=eb) (o:=0) (l:=Gv W fb) rfl rfl rfl (zh (zd _ _ _)) (show 0+8<=9 by decide) ⟨O,?_⟩;rw[z8,ym];have hat:(ku W).tick=W.tick:=Oe W _;have ς:0<=w.tick:=Q.1.1.1.1.1.1;refine J (o:=((a.un d).un (Nt.sO eb _)).obj eb) _ (zh (zd _ _ _)) ?_;refine Qd ?_;refine xh (i:=ti2) (v:=int ((ku W).tick+1)) (b:=eb) (o:=0) (l:=zy (ku W) (.s (.slice P (ku W).U.length u))++[ptr fb]) rfl rfl rfl (zh (zd _ _ _)) (show 0+1<=9 by decide) ?_;rw[z8,ym];obtain⟨oc,cc,e4,_⟩:=p.form;subst e4;exact ret ⟨d,fb,a,Nt,_,_,rfl,by rw[heng];rfl,by rw[heng];exact hY,p,ν,cn η,y,A.mono Z⟩
def yq0(G:EngR eb room k w S)(u:playW w)(l:List Cmd)(z:l=[]\/DoC)(B:∀c∈l,c.fits)(f:Γ l<=512)(y:w.tick<1099511627776)(A:k<=100000000000000000)(R:Ja)
  (h:∀n,EngR eb room (k+4096) (Gu w l) n->R (.tup [lst 1 zx (wn w l),int 0]) n):Jb 15 [ptr eb,lst 10 yg l] S R:=by
 refine(zz0 G u l z B f y A).frozenEng ?_;rintro r n ⟨N,I,X,o,v,U,rfl,rfl,D,d,g,C,e,E⟩;obtain⟨Q,P⟩:=disj_un.1 C;have sub:∀{a:Store},zl a (o.sO eb (.cells []))->zl a o/\¬a.has eb:=λh=>⟨λi j H=>h i j (has_setObj_iff.2 (.inr H)),λj=>h eb j (has_setObj_iff.2 (.inl rfl))⟩
 obtain⟨L,K⟩:=sub Q;obtain⟨t,p⟩:=sub P;refine .inr ⟨.tup [lst 1 zx (wn w l),int 0],X.un o,N,eb,zy (Gu w l) v,zo (Gu w l),_,disj_un.2 ⟨g,Iu t⟩,λh=>(un_has.1 h).elim K e,p,?_,rfl,h _ ⟨_,I,rfl,?_,E.objs0⟩,λT M W sto=>⟨λx b=>?_,λx b=>?_⟩⟩
 .rw[<-z8,O8,O8,H3 t];rfl
 .exact λh=>p (h.elim .inl λh=>absurd rfl h)
 .exact Fe (D.unL L) sto b
 .exact b.tup2 (λx b=>(d.un (a:=X)).borrow W8 nf sto b) λx b=>qq b
def yku(w:Wld)(o:Γ w.G.T<=1000000000)(p:Γ w.B<=1000000000)(n:Γ w.U<=1000000000)(g:Store)(R:Ja)(h:R (.agg (zo w)) g):Jb 48 [.agg (zo w)] g R:=by refine Gn (Q:=λr=>r=.agg (zo w)) ?_ g R λr j=>j▸h;refine(lj w o p n (λr S=>∃b c a e f d,OwnQ S w b c a e f d/\r=.agg (I0 w b c a)) (λS b c a e f d h=>⟨b,c,a,e,f,d,h,rfl⟩)).frozen ?_;rintro r S ⟨b,c,a,e,f,d,l,rfl⟩;exact⟨_,rfl,λt M u v sto i=>lk l sto i⟩
def yqz(a:EngR eb room k w S)(b:Γ w.G.T<=1000000/\Γ w.B<=1000000/\Γ w.U<=1000000)(R:Ja)(h:R (.agg (zo w)) S):Jb 12 [ptr eb] S R:=by obtain⟨N,d,rfl,hn,c⟩:=a.out;refine Qy 8 func12 ?_;refine J (o:=(N.sO eb _).obj eb) _ (zd _ _ _) ?_;refine yku w Z Z Z _ _ ?_;exact ret h
end
section
variable {S:Store} {w:Wld} {v:AV}
def zbz(n:RowsQ 10 zf S v w.U)(f:MayF w)(t:∀u∈w.U,u.pos.ok)(id k:Int)(j:vd k)(q:Vc)(p:q.ok)(R:Ja)
  (h:∀z:Bool,(z=true↔qi w id k q)->R (V.bool z) S):Jb 44 [.agg (zy w v),int id,int k,.agg (zr q)] S R:=
 ACalls.read (ys:=[.agg (zo w),int id,int k,.agg (zr q)]) (Q:=λr=>∃z:Bool,r=V.bool z/\(z=true↔qi w id k q)) (λA M W l sto o=>by
  obtain⟨y,g⟩:=o
  match l,y with
  |[a,b,c,d],_=>exact Reads.cons (Fe n sto (g 0 _ a rfl rfl)) (Reads.cons (qq (g 1 _ b rfl rfl)) (Reads.cons (qq (g 2 _ c rfl rfl)) (Reads.cons (qq (g 3 _ d rfl rfl)) Reads.nil))))
  (iv w f.hg (by have:=f.hB;omega) f.hb (by have:=f.hU;omega) t f.hk id k j q p _ _ λz i=>⟨z,rfl,i⟩) (λr ⟨z,e,_⟩=>e▸Ht _) (λr ⟨z,e,i⟩=>e▸h z i)
def ygs{p:Nat}(Q:S.obj p=Δ (.cells (zy w v)))(hv:RowsQ 10 zf S v w.U)(A:jf v p)(hm:MayF w)(hn:∀u∈w.U,u.pos.ok)(c:Cmd)(K:vd c.N)(hq:Vc.ok (c.X,c.Y))(R:Ja)
  (h:∀D,spE w c≠0->R (int (spE w c)) D) (h0:spE w c=0->∀D M,D.obj p=Δ (.cells (zy (spW w c) M))->RowsQ 10 zf D M (spW w c).U->R (int 0) D):Jb 229 [ptr p,.agg (yg c)] S R:=by
 obtain⟨G,f,e,T⟩:=hv.form;subst e;have hU:=hm.hU;have H:=hm.hn2;have I:=hm.hn1;refine Qy 54 func229 ?_;refine Qby ?_;refine bcd (λc1=>?_) (λc1=>?_)
 .have hf:Gs w:=.inl Z;have he:spE w c=4:=by unfold spE;rw[if_pos hf]
  have:=h S γ;rw[he]at this;exact ret this
 refine Qby ?_;refine bcd (λc2=>?_) (λc2=>?_)
 .have hf:Gs w:=.inr Z;have he:spE w c=4:=by unfold spE;rw[if_pos hf]
  have:=h S γ;rw[he]at this;exact ret this
 have hf:¬Gs w:=λB=>by rcases B with B|B<;>omega
 refine Qc zb yep ?_;refine Qby ?_;refine⟨zbz hv hm hn 0 c.N K (c.X,c.Y) hq _ (λz P=>⟨O,?_⟩),O⟩;refine ya ?_;refine zg (λE=>?_) (λE=>?_);rotate_left
 .have hncl:¬qi w 0 c.N (c.X,c.Y):=λB=>by have:=P.2 B;rw[this]at E;cases E
  have he:spE w c=5:=by unfold spE;rw[if_neg hf,if_neg hncl]
  have:=h S γ;rw[he]at this;exact ret this
 have he:spE w c=0:=by unfold spE;rw[if_neg hf,if_pos (P.1 E)]
 refine Qc zb yeo ?_;refine Qby ?_;refine Qby ?_;refine⟨ψ,?_⟩;refine⟨G6 (ie:=ti72) rfl yx ψ hv (spU w c) rfl Z (λb d L g q2 q3 q4=>⟨O,?_⟩),O⟩;have C:b≠p:=by
  rcases g with g|⟨c0,q0,g⟩
  .exact g.ne_obj Q
  .exact A b _ _ g q0
 have y:(S.sO b (.cells ((rws zf (w.U++[spU w c])).flatten++L))).obj p=Δ (.cells (zy w (.s (.slice G (Γ w.U) f)))):=by rw[zi (Ne.symm C)];exact Q
 have n:RowsQ 10 zf (S.sO b (.cells ((rws zf (w.U++[spU w c])).flatten++L))) (.s (.slice (Δ ⟨b,0,Θ⟩) (w.U++[spU w c]).length d)) (w.U++[spU w c]):=.inl (.inr ⟨b,d,L,rfl,zd _ _ _,q2,q3,q4⟩);generalize S.sO b _=V at y n⊢;generalize j:(.s (.slice (Δ ⟨b,0,Θ⟩) (w.U++[spU w c]).length d):AV)=W at*;have hoff2:jf W p:=by rw[<-j];intro b' n' c' e _;simp only[AV.s.injEq,Value.slice.injEq,Fak,Addr.mk.injEq]at e;exact e.1.1▸C
 subst j;refine⟨?_,O⟩;refine J _ rfl (ju rfl (jr (v:=.s (.slice (Δ ⟨b,0,Θ⟩) (w.U++[spU w c]).length d)) rfl rfl rfl rfl ?_));refine xh (i:=ti26) (v:=.s (.slice (Δ ⟨b,0,Θ⟩) (w.U++[spU w c]).length d)) (b:=p) (o:=7) (l:=zy w (.s (.slice G (Γ w.U) f))) rfl rfl rfl y (show 7+1<=8 by decide) ?_;have e3:zu (zy w (.s (.slice G (Γ w.U) f))) 7 [.s (.slice (Δ ⟨b,0,Θ⟩) (w.U++[spU w c]).length d)]=zy w (.s (.slice (Δ ⟨b,0,Θ⟩) (w.U++[spU w c]).length d)):=rfl;rw[e3];have k:=n.set hoff2 (.cells (zy w (.s (.slice (Δ ⟨b,0,Θ⟩) (w.U++[spU w c]).length d))));have t:(V.sO p (.cells (zy w (.s (.slice (Δ ⟨b,0,Θ⟩) (w.U++[spU w c]).length d))))).obj p=Δ (.cells (zy w (.s (.slice (Δ ⟨b,0,Θ⟩) (w.U++[spU w c]).length d)))):=zd _ _ _;generalize V.sO p _=S3 at k t⊢;refine⟨O,?_⟩;refine Qby ?_;refine Qd ?_;refine xh (i:=ti2) (v:=int (w.next+1)) (b:=p) (o:=2) (l:=zy w (.s (.slice (Δ ⟨b,0,Θ⟩) (w.U++[spU w c]).length d))) rfl rfl rfl t (show 2+1<=8 by decide) ?_;exact ret (h0 he _ _ (zd _ _ _) (k.set hoff2 _))
end
section
variable {F G F':Store} {xw p:Nat} {w:Wld} {v o0 o1 o2 fv q0 q1 q2:AV}
def wkC(s:Nat)(c:Cmd)(fv:AV):List AV:=ptr s::(yg c++[fv])
def Fb(S:Store)(xw s:Nat)(c:Cmd)(fv:AV)(w:Wld):Prop:=
 ∃v o0 o1 o2 p,S.obj xw=Δ (.cells (wkC s c fv))/\S.obj s=Δ (.cells (svC w v o0 o1 o2 p))/\RowsQ 10 zf S v w.U
structure Work(F G:Store)(xw s p:Nat)(w:Wld)(v:AV)(L:List Ent)(o0 o1 o2:AV)(c:Cmd)(fv:AV):Prop where
 S:StandR F G s p w v L o0 o1 o2
 hx:G.obj xw=Δ (.cells (wkC s c fv))
 ox:jf v xw
 os:jf v s
 hL:Γ L<=Γ w.U
 hF:Fp w L
theorem Work.ne{s:Nat}{L:List Ent}{c:Cmd}(h:Work F G xw s p w v L o0 o1 o2 c fv):xw≠s:=λe=>by have a:=h.hx;rw[e,h.S.hs]at a;cases a
theorem Work.x{s:Nat}{L:List Ent}{c:Cmd}(h:Work F G xw s p w v L o0 o1 o2 c fv):(F'.un (svS G s w v q0 q1 q2 p)).obj xw=Δ (.cells (wkC s c fv)):=zh (by show(G.sO s _).obj xw=_;rw[zi h.ne];exact h.hx)
theorem Work.s{s:Nat}{L:List Ent}{c:Cmd}(h:Work F G xw s p w v L o0 o1 o2 c fv):(F'.un (svS G s w v q0 q1 q2 p)).obj s=Δ (.cells (svC w v q0 q1 q2 p)):=zh (By _ _ _ _ _ _ _ _)
theorem Work.r{s:Nat}{L:List Ent}{c:Cmd}(h:Work F G xw s p w v L o0 o1 o2 c fv):RowsQ 10 zf (F'.un (svS G s w v q0 q1 q2 p)) v w.U:=(I5 h.S.hs h.S.hu).un
def iq(u:Unt)(st:Store)(R:Ja)(h:R (.agg (zf {u with goal:=-1,next:=-1,stuck:=0,state:=0})) st):Jb 284 [.agg (zf u)] st R:=by refine Qy 8 func284 ?_;exact ret h
def ziu{s:Nat}{L:List Ent}{c:Cmd}(k:Work F G xw s p w v L o0 o1 o2 c fv)(hm:MayF w)(hn:∀u∈w.U,u.pos.ok)(hq:Vc.ok (c.X,c.Y))(R:Ja)
  (h:∀S',spE w c≠0->R (int (spE w c)) S') (h0:spE w c=0->∀S',Fb S' xw s c fv (spW w c)->R (int 0) S'):Jb 194 [ptr xw] (F.un (svS G s w v o0 o1 o2 p)) R:=by
 obtain⟨oa,C,e,τ⟩:=k.S.hu.form;subst e;have hU:=hm.hU;have η:=hm.hn2;have ι:=hm.hn1;have I:=k.x (F':=F) (q0:=o0) (q1:=o1) (q2:=o2);have hs:=k.s (F':=F) (q0:=o0) (q1:=o1) (q2:=o2);refine Qy 96 func194 ?_;refine J (o:=(F.un (svS G s w _ _ _ _ p)).obj xw) _ I ?_;refine J (o:=(F.un (svS G s w _ _ _ _ p)).obj s) _ hs ?_;refine zp (λc1=>?_) (λc1=>?_)
 .have hf:Gs w:=.inl Z;have he:spE w c=4:=by unfold spE;rw[if_pos hf]
  have:=h Store.empty γ;rw[he]at this;exact Dg (Tt) (Oc _) this
 refine J (o:=(F.un (svS G s w _ _ _ _ p)).obj xw) _ I ?_;refine J (o:=(F.un (svS G s w _ _ _ _ p)).obj s) _ hs ?_;refine zp (λc2=>?_) (λc2=>?_)
 .have hf:Gs w:=.inr Z;have he:spE w c=4:=by unfold spE;rw[if_pos hf]
  have:=h Store.empty γ;rw[he]at this;exact Dg (Tt) (Oc _) this
 have hf:¬Gs w:=λV=>by rcases V with V|V<;>omega
 refine Qc zb yfi ?_;refine J (o:=(F.un (svS G s w _ _ _ _ p)).obj xw) _ I ?_;refine J (o:=(F.un (svS G s w _ _ _ _ p)).obj xw) _ I ?_;refine J (o:=(F.un (svS G s w _ _ _ _ p)).obj xw) _ I ?_;refine⟨gk k.S hm.hg (by have:=hm.hB;omega) hm.hb hm.hr Z hn k.hL k.hF 0 c.N (c.X,c.Y) hq _ (λz D q0 g f hz ο=>⟨?_,?_⟩),O⟩
 .have j:=k.x (F':=D) (q0:=q0) (q1:=g) (q2:=f);repeat(first|exact O|refine⟨rfl,?_⟩|refine⟨J (o:=(D.un (svS G s w _ q0 g f p)).obj xw) _ j rfl,?_⟩)
 have j:=k.x (F':=D) (q0:=q0) (q1:=g) (q2:=f);have n:=k.s (F':=D) (q0:=q0) (q1:=g) (q2:=f);have T:=k.r (F':=D) (q0:=q0) (q1:=g) (q2:=f);generalize D.un (svS G s w _ q0 g f p)=S at j n T⊢;refine Qbw ?_;refine ya ?_;refine zg (λc3=>?_) (λc3=>?_);rotate_left
 .have hncl:¬qi w 0 c.N (c.X,c.Y):=λV=>by have:=hz.2 V;rw[this]at c3;cases c3
  have he:spE w c=5:=by unfold spE;rw[if_neg hf,if_neg hncl]
  have:=h S γ;rw[he]at this;exact ret this
 have he:spE w c=0:=by unfold spE;rw[if_neg hf,if_pos (hz.1 c3)]
 have E:=k.ne;refine Qc zb yfh ?_;refine Qby ?_;refine Qby ?_;refine Qby ?_;refine Qby ?_;refine Qby ?_;refine Qby ?_;refine Qby ?_;refine Qby ?_;refine⟨iq ⟨w.next,c.P,c.N,(c.X,c.Y),0,0,0,0,0⟩ _ _ ⟨?_,?_⟩,O⟩
 .repeat(first|exact O|refine⟨rfl,?_⟩|refine⟨J (o:=S.obj xw) _ j rfl,?_⟩|refine⟨J (o:=S.obj s) _ n rfl,?_⟩)
 refine⟨ψ,?_⟩;refine⟨G6 (ie:=ti72) rfl yx ψ T (spU w c) rfl Z (λb d L2 q1 q2 q3 q4=>?_),O⟩;have B:b≠s:=by
  rcases q1 with q1|⟨c0,t,q1⟩
  .exact q1.ne_obj n
  .exact k.os b _ _ q1 t
 have ν:b≠xw:=by
  rcases q1 with q1|⟨c0,t,q1⟩
  .exact q1.ne_obj j
  .exact k.ox b _ _ q1 t
 have y:(S.sO b (.cells ((rws zf (w.U++[spU w c])).flatten++L2))).obj xw=Δ (.cells (wkC s c fv)):=by rw[zi (Ne.symm ν)];exact j
 have A:(S.sO b (.cells ((rws zf (w.U++[spU w c])).flatten++L2))).obj s=Δ (.cells (svC w (.s (.slice oa (Γ w.U) C)) q0 g f p)):=by rw[zi (Ne.symm B)];exact n
 have Q:RowsQ 10 zf (S.sO b (.cells ((rws zf (w.U++[spU w c])).flatten++L2))) (.s (.slice (Δ ⟨b,0,Θ⟩) (w.U++[spU w c]).length d)) (w.U++[spU w c]):=.inl (.inr ⟨b,d,L2,rfl,zd _ _ _,q2,q3,q4⟩);generalize S.sO b _=W at y A Q⊢;have hoff:∀{q},b≠q->jf (.s (.slice (Δ ⟨b,0,Θ⟩) (w.U++[spU w c]).length d)) q:=λε b' n' c' e _=>by simp only[AV.s.injEq,Value.slice.injEq,Fak,Addr.mk.injEq]at e;exact e.1.1▸ε
 refine⟨?_,?_⟩
 .repeat(first|exact O|refine⟨rfl,?_⟩|refine⟨J (o:=W.obj xw) _ y rfl,?_⟩|refine⟨J (o:=W.obj s) _ A rfl,?_⟩)
 refine⟨?_,O⟩;refine J _ rfl (ju rfl (jr (v:=.s (.slice (Δ ⟨b,0,Θ⟩) (w.U++[spU w c]).length d)) rfl rfl rfl rfl ?_));refine xh (i:=ti26) (v:=.s (.slice (Δ ⟨b,0,Θ⟩) (w.U++[spU w c]).length d)) (b:=s) (o:=7) (l:=svC w (.s (.slice oa (Γ w.U) C)) q0 g f p) rfl rfl rfl A (show 7+1<=12 by decide) ?_;have e3:zu (svC w (.s (.slice oa (Γ w.U) C)) q0 g f p) 7 [.s (.slice (Δ ⟨b,0,Θ⟩) (w.U++[spU w c]).length d)]=svC w (.s (.slice (Δ ⟨b,0,Θ⟩) (w.U++[spU w c]).length d)) q0 g f p:=rfl;rw[e3];have M:=Q.set (hoff B) (.cells (svC w (.s (.slice (Δ ⟨b,0,Θ⟩) (w.U++[spU w c]).length d)) q0 g f p));have K:(W.sO s (.cells (svC w (.s (.slice (Δ ⟨b,0,Θ⟩) (w.U++[spU w c]).length d)) q0 g f p))).obj s=_:=zd _ _ _;have H:(W.sO s (.cells (svC w (.s (.slice (Δ ⟨b,0,Θ⟩) (w.U++[spU w c]).length d)) q0 g f p))).obj xw=_:=(zi E).trans y;generalize W.sO s _=S4 at M K H⊢;refine⟨O,?_⟩;refine Qby ?_;refine Qby ?_;refine Qd ?_;refine xh (i:=ti2) (v:=int (w.next+1)) (b:=s) (o:=2) rfl rfl rfl K (show 2+1<=12 by decide) ?_;exact ret (h0 he _ ⟨_,q0,g,f,p,(zi E).trans H,zd _ _ _,M.set (hoff B) _⟩)
end
end Go.Proofs
namespace Go.Proofs
open Go Go.V
set_option maxRecDepth 20000
set_option maxHeartbeats 4000000
def zgy{c:Cmd}(h:qv c.X c.Y):Vc.ok (c.X,c.Y):=by unfold qv at h;unfold Vc.ok yr;dsimp only;omega
def DoQ(E:Wld->Cmd->Int)(W:Wld->Cmd->Wld)(w:Wld)(c:Cmd)(r:AV)(S:Store):Prop:=
 (doE E w c≠0/\r=.tup [.agg (zo w),int (doE E w c)])\/(doE E w c=0/\∃v,RowsQ 10 zf S v (W w c).U/\r=.tup [.agg (zy (W w c) v),int 0])
end Go.Proofs
namespace Go.Proofs
open Go Go.V Tryz
set_option maxRecDepth 20000
set_option maxHeartbeats 4000000
def yjl(w:Wld)(n:w.fits)(t:∀u∈w.U,u.pos.ok)(I:Γ w.U<=1000000)(c:Cmd)(G:c.fits)(A:c.K=1):Jb 150 [.agg (zo w),.agg (yg c)] Store.empty (DoQ spE spW w c):=by
 refine Qa (c:=cfg 97 [6] []) zb func150 ?_;have bad:(¬yd w\/¬jh c\/w.players<c.P)->DoQ spE spW w c (.tup [.agg (zo w),int 1]) Store.empty:=λH=>by have he:=Hw (E:=spE) (w:=w) (c:=c) H;exact .inl ⟨γ,by rw[he]⟩
 refine Kd w n t _ _ (λz hz=>?_);refine ya ?_;refine zg (λc1=>?_) (λc1=>?_);rotate_left
 .exact ret (bad (.inl λhh=>θo))
 refine Iv c G _ _ (λR hzc=>?_);refine ya ?_;refine zg (λc2=>?_) (λc2=>?_);rotate_left
 .exact ret (bad (.inr (.inl λhh=>θu)))
 refine bcd (λM=>?_) (λM=>?_)
 .exact ret (bad (.inr (.inr Z)))
 have y:=hz.1 c1;have f:=hzc.1 c2;have he:=Ir (E:=spE) y f (show c.P<=w.players by omega);have d:=(Cmd.ok1 A).1 f.1;refine Kv w n I _ _ (λv N hv _=>?_);rw[Dx];have hv:=hv.q;have hoff:=λ(p:Nat) (hp:Fresh N p)=>Dj hv (jt (fresh_iff.1 hp)).1;obtain⟨g,a,e,_⟩:=hv.form;subst e;refine λp hp=>?_;refine kh (i:=ti27) (v:=.agg (zy w (.s (.slice g (Γ w.U) a)))) (xs:=zy w (.s (.slice g (Γ w.U) a))) (b:=p) (o:=0) (l:=_) rfl rfl rfl (zd _ _ _) (show 0+8<=8 by decide) ?_;generalize hS:(N.sO p _).sO p _=S;have k:S.obj p=Δ (.cells (zy w (.s (.slice g (Γ w.U) a)))):=θv;have j:RowsQ 10 zf S (.s (.slice g (Γ w.U) a)) w.U:=θw;refine zp (λ_=>?_) (λh=>absurd A h);refine ygs k j (hoff p hp) (xr y) t c d.1 (zgy d.2) _ (λQ hE=>?_) (λhE Q V W B=>?_)
 .refine qd (λ_=>?_) (λh=>absurd h hE);exact ret (.inl ⟨θx,by rw[he];rfl⟩)
 .obtain⟨D,C,L,_⟩:=B.form;subst L;refine Qby ?_;exact ret (.inr ⟨he.trans hE,_,B,rfl⟩)
def Mj{E:Wld->Cmd->Int}{W:Wld->Cmd->Wld}{w:Wld}{c:Cmd}{f:FuncId}{xs:List AV}(t:Jb f xs Store.empty (DoQ E W w c))(R:Ja)(h:R (.tup [.agg (zo (doW E W w c)),int (doE E w c)]) Store.empty):Jb f xs Store.empty R:=by
 have b:=t.frozen (R:=λr=>r=.tup [.agg (zo (doW E W w c)),int (doE E w c)]) (by
  rintro r S (⟨b,rfl⟩|⟨b,v,n,rfl⟩)
  .rw[Sa b];exact⟨_,rfl,λg M k l sto a=>qq a⟩
  .rw[ov b,b];refine⟨_,rfl,λg M k l sto a=>?_⟩;cases a with
   |tup _ u p d=>
    refine .tup _ u p λi x y a j=>?_
    match i with
    |0=>simp only[Fam,Fak]at a;subst a;exact Fe n sto (d 0 _ y rfl j)
    |1=>simp only[Fap,Fam,Fak]at a;subst a;exact qq (d 1 _ y rfl j)
    |i+2=>simp at a)
 exact b.post (Store.Le.refl _) λr e o=>⟨r,Store.empty,AV.le_refl r,(Oc e).toLe,by subst o;exact h⟩
def K8(k:Int)(E:Wld->Cmd->Int)(W:Wld->Cmd->Wld):Prop:=
 ∀w:Wld,w.fits->(∀u∈w.U,u.pos.ok)->Γ w.U<=1000000->∀c:Cmd,c.fits->c.K=k->∀R:AV->Store->Prop,R (.tup [.agg (zo (doW E W w c)),int (doE E w c)]) Store.empty->Jb 150 [.agg (zo w),.agg (yg c)] Store.empty R
def yis:K8 1 spE spW:=λw a b e c d f R h=>Mj (yjl w a b e c d f) R h
end Go.Proofs
namespace Go.Proofs
open Go Go.V
set_option maxRecDepth 20000
set_option maxHeartbeats 4000000
def Sw:Wld:=⟨0,0,0,⟨0,0,[]⟩,[],[]⟩
end Go.Proofs
namespace Go.Proofs
open Go Go.V Tryz
set_option maxRecDepth 20000
set_option maxHeartbeats 4000000
def ysf(l:List Cmd)(hl:Γ l<=140737488355328)(v:∀c∈l,c.sized)(st:Store)(R:Ja)
  (h:∀w:Int,Γ l<=w->(w<1048576->∀c∈l,(Γ c.U:Int)<=w)->w<=281474976710656->R (int w) st):Jb 42 [lst 10 yg l] st R:=by
 refine Qy 26 func42 ?_
 refine AWp.loop (σ:=Nat×Int) ⟨λs=>[(0,.av (lst 10 yg l)),(3,.av (int s.2)),(4,.av (int (s.1:Nat)))],λ_=>[],
  λs e=>s.1<=Γ l/\e=st/\(Γ l:Int)<=s.2/\s.2<=281474976710656/\(s.2<1048576->∀c∈l.take s.1,(Γ c.U:Int)<=s.2),λs=>Γ l-s.1⟩ zb ?_ ?_
 .refine⟨(0,(Γ l:Int)),O,⟨Fae _,rfl,Fcw _,by simp only;omega,λ_ c b=>by simp at b⟩,⟨Y,?_,Y,O⟩,O⟩;rw[<-zj (f:=yg) l];exact Y
 rintro⟨i,n⟩ e ⟨t,rfl,hn,d,g⟩;dsimp only at t hn d g⊢;refine zg (λp=>?_) (λp=>?_)
 .have a:i<Γ l:=ql p;have j:=v _ (Faa a);unfold Cmd.sized at j;refine bcd (λu=>?_) (λu=>?_)
  .refine⟨i,rfl,J _ (zm a) ?_⟩;refine⟨by rw[zj];exact⟨Z,Z⟩,?_⟩;refine⟨⟨Z,Z⟩,?_⟩;refine⟨(i+1,n+(l[i].U.length:Int)),?_,⟨a,rfl,by simp only;omega,by simp only;omega,λo c b=>?_⟩,⟨Y,?_,Y,O⟩,O⟩
   .show Γ l-(i+1)<Γ l-i;omega
   .simp only at o⊢;rw[Fab a]at b;rcases Faw.1 b with b|b
    .have:=g Z c b;omega
    .rw[Fci]at b;subst b;omega
   .simp only;rw[<-zj (f:=zx) l[i].U];exact Y
  .exact ret (h n hn (λo=>absurd o u) d)
 .have k:i=Γ l:=qr p t;subst k;rw[Fal]at g;exact ret (h n hn g d)
def yhp(g:Gnd)(a:g.fits)(n:Int)(st:Store)(R:Ja)(h:R (.agg (zo (j2 g n))) st):Jb 83 [.agg (zq g),int n] st R:=by refine Qy 9 func83 ?_;refine cu g a _ _ ?_;exact⟨.agg (zo (j2 g n)),st,AV.le_aggL ⟨Tt,Tt,Tt,Tt,Tt,Tt,AV.le_nil 6,AV.le_nil 10,O⟩,Store.Has.refl _,h⟩
def ymd{g:Gnd}{n:Int}(h:D4 g n):yd (j2 g n):=
 ⟨⟨⟨⟨⟨Fcw _,show(0)<=1099511627776 by decide⟩,h.2,⟨Fcw _,show(1)<=1099511627776 by decide⟩⟩,⟨h.1,⟨Fae _,λj c=>absurd c (Fav j),λb d=>(by cases d),λj c=>absurd c (Fav j)⟩,Fae _⟩,λb d=>(by cases d)⟩,
  λj c=>absurd c (Fav j),λu a=>(by cases a)⟩,λu a=>(by cases a),λu a=>(by cases a)⟩
def zch{g:Gnd}{n:Int}(h:D4 g n):playW (j2 g n):=⟨ymd h,λu a=>(by cases a)⟩
def zdw(i j:Int):max2 (max2 (max2 i (0-i)) j) (0-j)=Cn i j:=by
 have e:∀a b:Int,max2 a b=max a b:=λa b=>by
  unfold max2;by_cases h:b>a
  .rw[decide_eq_true h];show b=_;omega
  .rw[decide_eq_false h];show a=_;omega
 rw[e,e,e];unfold Cn;omega
def yh1(g:Gnd)(x y k d j i:Int):(Cs g x y k d j i).length<=Γ g.T:=by have:=Fbl (λt=>kl g x y k d t&&zhy g x y j i t) (List.range (Γ g.T));rw[Fds]at this;exact this
theorem Cv(l:List Nat):(qb l).length=Γ l:=Fas ..
def yhw(g:Gnd)(l:zt g)(t:Nat)(ht:t<Γ g.T)(d k:Int)(hd:0<=d/\d<=300)(hk:1<=k/\k<=7)(st:Store)(R:Ja)(h:R (yq (qb (Gg g ((t:Int)%g.W) ((t:Int)/g.W) k d))) st):
  Jb 134 [.agg (zq g),int t,int d,int k] st R:=by
 have hm:=qg l;have M:=Dc l (t:=t) Z;have Q:=Ga (t:=t) l.1.1;have C:=Gb (t:=t) l.1.1;have U:=l.1;have S:=l.2.1;generalize(t:Int)%g.W=x at*;generalize(t:Int)/g.W=y at*;refine Qy 80 func134 ?_;refine Qc zb yf5 ?_;refine⟨Z,?_⟩;refine⟨Z,?_⟩;refine Qd ?_;refine Qbw ?_;refine Qbx ?_;refine Qd ?_
 refine AWp.loop (σ:=Nat×AV) ⟨λs=>[(2,.av (int d)),(3,.av (int k)),(4,.bx 4 0),(8,.av s.2),(9,.av (int x)),(10,.av (int y)),(11,.av (int ((s.1:Nat)-d)))],λ_=>[(4,zq g)],
  λs st'=>(s.1:Int)<=2*d+1/\App 1 st s.2 (rws zx (qb (Cs g x y k d ((s.1:Nat)-d) (-d)))) st',λs=>700-s.1⟩ zb ?_ ?_
 .refine⟨(0,_),O,⟨ζ,?_⟩,⟨Y,Y,Y,Y,?_,?_,?_,O⟩,⟨rfl,O⟩⟩
  .dsimp only;rw[show((0:Nat):Int)-d=-d by omega,yhy];exact App.start 1 st
  .rw[<-Q];exact Y
  .rw[<-C];exact Y
  .dsimp only;rw[show((0:Nat):Int)-d=0-d by omega];exact Y
 rintro⟨a,v⟩ st' ⟨V,c⟩;dsimp only at V c⊢;refine bcd (λL=>?_) (λL=>?_);rotate_left
 .rw[show(a:Int)-d=d+1 by omega,yh2]at c;exact⟨_,st,AV.le_trans c.le (Tt),c.has,h⟩
 refine Qd ?_;have D:∃j:Int,(a:Int)-d=j:=⟨_,rfl⟩
 obtain⟨j,D⟩:=D;rw[D]at c L⊢
 refine AWp.loop (σ:=Nat×AV) ⟨λs=>[(2,.av (int d)),(3,.av (int k)),(4,.bx 4 0),(8,.av s.2),(9,.av (int x)),(10,.av (int y)),(11,.av (int j)),(12,.av (int ((s.1:Nat)-d)))],λ_=>[(4,zq g)],
  λs st'=>(s.1:Int)<=2*d+1/\App 1 st s.2 (rws zx (qb (Cs g x y k d j ((s.1:Nat)-d)))) st',λs=>700-s.1⟩ zb ?_ ?_
 .refine⟨(0,v),O,⟨ζ,?_⟩,⟨Y,Y,Y,Y,Y,Y,Y,?_,O⟩,⟨rfl,O⟩⟩
  .dsimp only;rw[show((0:Nat):Int)-d=-d by omega];exact c
  .dsimp only;rw[show((0:Nat):Int)-d=0-d by omega];exact Y
 rintro⟨b,v2⟩ st2 ⟨hb,hap2⟩;dsimp only at hb hap2⊢;have E:∃i:Int,(b:Int)-d=i:=⟨_,rfl⟩
 obtain⟨i,E⟩:=E;rw[E]at hap2⊢;refine bcd (λX=>?_) (λX=>?_);rotate_left
 .rw[show i=d+1 by omega,yhz]at hap2;refine Qd ?_;refine⟨(a+1,v2),?_,⟨ζ,?_⟩,⟨Y,Y,Y,Y,Y,Y,?_,O⟩,⟨rfl,O⟩⟩
  .show 700-(a+1)<700-a;omega
  .dsimp only;rw[show((a+1:Nat):Int)-d=j+1 by omega];exact hap2
  .dsimp only;rw[show((a+1:Nat):Int)-d=j+1 by omega];exact Y
 have next:∀p f,App 1 st p (rws zx (qb (Cs g x y k d j (i+1)))) f->∃s:Nat×AV,700-s.1<700-b/\((s.1:Int)<=2*d+1/\App 1 st s.2 (rws zx (qb (Cs g x y k d j ((s.1:Nat)-d)))) f)/\s=(b+1,p)/\((s.1:Nat):Int)-d=i+1:=λp f G=>
  ⟨(b+1,p),ζ,⟨ζ,by dsimp only;rw[show((b+1:Nat):Int)-d=i+1 by omega];exact G⟩,rfl,ζ⟩
 have no:¬(Cn i j=d/\i.tmod k=0/\j.tmod k=0/\onG g (x+i) (y+j))->App 1 st v2 (rws zx (qb (Cs g x y k d j (i+1)))) st2:=λhn=>by rw[yh0 l hn];exact hap2
 refine Qd ?_;refine Qd ?_;refine zp (λA=>?_) (λA=>?_);rotate_left
 .have A:¬Cn i j=d:=λe=>A ((zdw i j).trans e);obtain⟨s,o,n,rfl,f3⟩:=next v2 st2 (no λw=>A w.1)
  refine Qd ?_;exact⟨(b+1,v2),o,n,⟨Y,Y,Y,Y,Y,Y,Y,ψa,O⟩,⟨rfl,O⟩⟩
 have A:Cn i j=d:=(zdw i j).symm.trans A;refine⟨Z,?_⟩;refine zp (λI=>?_) (λI=>?_);rotate_left
 .obtain⟨s,o,n,rfl,f3⟩:=next v2 st2 (no λw=>I w.2.1)
  refine Qd ?_;exact⟨(b+1,v2),o,n,⟨Y,Y,Y,Y,Y,Y,Y,ψa,O⟩,⟨rfl,O⟩⟩
 refine⟨Z,?_⟩;refine zp (λH=>?_) (λH=>?_);rotate_left
 .obtain⟨s,o,n,rfl,f3⟩:=next v2 st2 (no λw=>H w.2.2.1)
  refine Qd ?_;exact⟨(b+1,v2),o,n,⟨Y,Y,Y,Y,Y,Y,Y,ψa,O⟩,⟨rfl,O⟩⟩
 refine Qd ?_;refine Qd ?_;refine ll g (x+i) (y+j) _ _ (λz K=>?_);refine zg (λB=>?_) (λB=>?_);rotate_left
 .obtain⟨s,o,n,rfl,f3⟩:=next v2 st2 (no λw=>by have:=K.2 w.2.2.2;rw[this]at B;cases B)
  refine Qd ?_;exact⟨(b+1,v2),o,n,⟨Y,Y,Y,Y,Y,Y,Y,ψa,O⟩,⟨rfl,O⟩⟩
 have u:=K.1 B;obtain⟨e1,e2,_,_⟩:=Db l u;have hon2:=u;unfold onG at hon2;have hpos:0<=g.W*(y+j):=Fax Z Z;have P:=yh1 g x y k d j i;refine Qd ?_;refine Qd ?_;refine Qd ?_;refine Qd ?_;refine⟨ψ,?_⟩;refine Af (ie:=ti2) (rows':=[zx (x+i+g.W*(y+j))]) hap2 ?_ ?_ ⟨?_,?_⟩ (λp f G=>?_)
 .rfl
 .rfl
 .simp only[zj,Cv,Fao,ti2];omega
 .simp only[zj,Cv,Fao];omega
 obtain⟨s,o,n,rfl,f3⟩:=next p f (by rw[yhx l u A I H,lz,<-Ni,show qb [tl g (x+i) (y+j)]=[x+i+g.W*(y+j)] by unfold qb;rw[Fb5,e1];rfl];exact G)
 refine Qd ?_;exact⟨(b+1,p),o,n,⟨Y,Y,Y,Y,Y,Y,Y,ψa,O⟩,⟨rfl,O⟩⟩
section
variable {S:Store} {xw s p:Nat} {w:Wld} {v o0 o1 o2 fv:AV}
def zft{l:List Unt}(j:yw l){id:Int}{i:Nat}{z:Bool}(h:z=true↔∃g:i<Γ l,l[i].id=id)(a:N7 l id i):(z=true->qc l id=Δ i)/\(z=false->qc l id=Θ):=by
 refine⟨λb=>?_,λb=>?_⟩
 .obtain⟨g,e⟩:=h.1 b;exact Mg j g e
 .cases o:qc l id with
  |none=>rfl
  |some k=>
   obtain⟨d,e⟩:=Iq o;have c:¬∃g:i<Γ l,l[i].id=id:=λn=>by rw[h.2 n]at b;cases b
   by_cases u:k<i
   .have:=a.2.1 k d u;omega
   .have f:i<Γ l:=Z;have:=a.2.2 i f (Fai _);by_cases t:i<k
    .have:=V4 j t d;omega
    .have y:k=i:=Z;subst y;exact absurd ⟨d,e⟩ c
structure AtW(S:Store)(xw s p:Nat)(w:Wld)(v o0 o1 o2:AV)(c:Cmd)(fv:AV):Prop where
 hx:S.obj xw=Δ (.cells (wkC s c fv))
 hs:S.obj s=Δ (.cells (svC w v o0 o1 o2 p))
 hr:RowsQ 10 zf S v w.U
def p9{c:Cmd}(B:AtW S xw s p w v o0 o1 o2 c fv)(n:yw w.U)(I:Γ w.U<=1000000)(id:Int)(R:Ja)(h:R (.tup [.agg (zf (uAt w id)),int (xu w c.P id)]) S):Jb 373 [ptr xw,int id] S R:=by
 obtain⟨H,hs,hv⟩:=B;obtain⟨G,E,e,f⟩:=hv.form;subst e;refine Qy 52 func373 ?_;refine Qby ?_;refine Qby ?_;refine dq hv Z n id _ (λi A z l=>?_);obtain⟨o,C⟩:=zft n l A;cases z with
 |false=>
  obtain⟨D,g⟩:=dr (w:=w) (P:=c.P) (C rfl);rw[D,g]at h;exact ret h
 |true=>
  obtain⟨d,y⟩:=l.1 rfl;obtain⟨_,_,g⟩:=O9 (w:=w) (o rfl);rw[g,ra (P:=c.P) (o rfl) d]at h;refine Qby ?_;refine Qby ?_;obtain⟨b,a,rfl,u⟩:=f i d;refine⟨i,rfl,d,?_⟩;refine Qby ?_;refine yv (i:=ti72) (row:=zf w.U[i]) rfl rfl (xx yx d) ?_;refine Qc zb yby ?_;refine Qby ?_;refine Qbw ?_;refine qd (λk=>?_) (λk=>?_)
  .rw[if_neg k]at h;exact ret h
  rw[if_pos k]at h;refine qd (λj=>?_) (λj=>?_)
  .rw[if_neg j]at h;exact ret h
  .rw[if_pos j]at h;exact ret h
theorem all_nil{c:Cmd}(n:AtW S xw s p w v o0 o1 o2 c fv)(u:yw w.U)(B:Γ w.U<=1000000)(H:Γ c.U<=1000000)(R:Ja)
  (h:jy (xu w c.P) c.U=0->R (.tup [lst 10 zf (c.U.map (uAt w)),int 0]) S) (D:jy (xu w c.P) c.U≠0->R (.tup [.s (.slice Θ 0 0),int (jy (xu w c.P) c.U)]) S):Jb 285 [ptr xw,.s .nilFunc] S R:=by
 refine Qy 44 func285 ?_;refine J (o:=S.obj xw) _ n.hx ?_
 refine AWp.loop (σ:=Nat×AV) ⟨λx=>[(0,.av (ptr xw)),(1,.av (.s .nilFunc)),(4,.av x.2),(14,.av (yq c.U)),(15,.av (int (Γ c.U:Nat))),(16,.av (int (x.1:Nat)))],λ_=>[],
  λx st'=>x.1<=Γ c.U/\App 10 S x.2 (rws zf ((c.U.take x.1).map (uAt w))) st'/\∀j,(d:j<Γ c.U)->j<x.1->xu w c.P c.U[j]=0,λx=>Γ c.U-x.1⟩ zb ?_ ?_
 .refine⟨(0,_),O,⟨Fae _,App.start 10 S,λj _ d=>Z⟩,⟨Y,Y,Y,Y,?_,Y,O⟩,O⟩;rw[<-zj (f:=zx) c.U];exact Y
 rintro⟨i,v2⟩ st' ⟨A,a,hall⟩;dsimp only at A a hall⊢;refine bcd (λC=>?_) (λC=>?_);rotate_left
 .have:i=Γ c.U:=Z;subst this;rw[Fal]at a;exact⟨_,_,AV.le_tupL (xs:=[v2,int 0]) (ys:=[lst 10 zf (c.U.map (uAt w)),int 0]) ⟨AV.le_trans a.le (Tt),Tt,O⟩,a.has,h (Sn λj d=>hall j d d)⟩
 have b:i<Γ c.U:=Z;have t:AtW st' xw s p w v o0 o1 o2 c fv:=⟨by rw[a.obj];exact n.hx,by rw[a.obj];exact n.hs,n.hr.sub λ_ _ _ _=>by rw[a.obj]⟩
 refine⟨i,rfl,J _ (zm b) ?_⟩;refine p9 t u B c.U[i] _ ?_;refine zp (λg=>?_) (λg=>?_);rotate_left
 .refine qd (λl=>?_) (λl=>absurd l g);have e:=Dt b hall g;have:=D (by rw[e];exact g);rw[e]at this;exact⟨_,_,Tt,a.has,this⟩
 refine qd (λl=>absurd g l) (λl=>?_);refine⟨ψ,?_⟩;refine Af (ie:=ti72) (rows':=[zf (uAt w c.U[i])]) a ?_ ?_ ⟨?_,?_⟩ (λy z k=>?_)
 .rfl
 .rfl
 .simp only[zj,Fas,Fah,Fao,ti72];omega
 .simp only[zj,Fas,Fah,Fao];omega
 refine Qd ?_;refine⟨(i+1,y),?_,⟨ζ,?_,λj d hji=>?_⟩,Qbt,O⟩
 .show Γ c.U-(i+1)<Γ c.U-i;omega
 .dsimp only;rw[Fab b,Fa8];unfold rws at k⊢;rw[Fa8];exact k
 .by_cases e:j=i
  .subst e;exact g
  .exact hall j d ψl
end
def zit{F G:Store}{b s p:Nat}{w:Wld}{v:AV}{L:List Ent}{l j f:AV}{c:Cmd}{T:AV}(a:Work F G b s p w v L l j f c T)(hm:MayF w)(hn:∀u∈w.U,u.pos.ok)(hc:Γ c.U<=64)(R:Ja)
  (h:∀C,stE w c≠0->R (int (stE w c)) C) (h0:stE w c=0->∀C,Fb C b s c T (stW w c)->R (int 0) C):Jb 196 [ptr b] (F.un (svS G s w v l j f p)) R:=by
 have hU:=hm.hU;have ι:=a.hL;refine Qy 27 func196 ?_;refine all_nil ⟨a.x,a.s,a.r⟩ hm.hr Z Z _ (λB=>?_) (λB=>?_);rotate_left
 .refine AWp.loop (σ:=Unit) ⟨λx=>[(4,.av (int (stE w c))),(13,.av (int 0)),(14,.av (int 0))],λ_=>[],λx d=>True,λx=>0⟩ zb ?_ ?_
  .exact⟨(),O,O,Qbt,O⟩
  rintro⟨⟩ d _;exact ret (h _ B)
 have hzero:=H0 B;have K:stE w c=0:=B
 refine AWp.loop (σ:=Nat×Store×Store×List Ent) ⟨λx=>[(0,.av (ptr b)),(4,.av (int 0)),(12,.av (lst 10 zf (c.U.map (uAt w)))),(13,.av (int (Γ c.U:Nat))),(14,.av (int (x.1:Nat)))],λ_=>[],
  λx d=>x.1<=Γ c.U/\d=x.2.1.un (svS x.2.2.1 s {w with U:=y9 (c.U.take x.1) kj w.U} v l j f p)/\StandR x.2.1 x.2.2.1 s p {w with U:=y9 (c.U.take x.1) kj w.U} v x.2.2.2 l j f/\(∀q,jf v q->x.2.2.1.obj q=G.obj q)/\Γ x.2.2.2<=Γ L+x.1/\∀e∈x.2.2.2,e.2.ok,λx=>Γ c.U-x.1⟩ zb ?_ ?_
 .refine⟨(0,F,G,L),O,⟨Fae _,?_,?_,λ_ _=>rfl,ζ,Lu a.hF hn⟩,⟨Y,Y,Y,?_,Y,O⟩,O⟩
  .dsimp only;rw[Fcp,Nd]
  .dsimp only;rw[Fcp,Nd];exact a.S
  .have e:(Γ c.U:Int)=((rws zf (c.U.map (uAt w))).length:Int):=by rw[zj,Fas]
   rw[e];exact Y
 rintro⟨k,V,D,L1⟩ d ⟨hk,rfl,z,P,hL,y⟩;dsimp only at hk z P hL y⊢;have t:(V.un (svS D s {w with U:=y9 (c.U.take k) kj w.U} v l j f p)).obj b=Δ (.cells (wkC s c T)):=zh (by show(D.sO s _).obj b=_;rw[zi a.ne,P b a.ox];exact a.hx);refine bcd (λh1=>?_) (λh1=>?_);rotate_left
 .have:k=Γ c.U:=Z;subst this;rw[Fal]at z t⊢;exact ret (h0 K _ ⟨v,l,j,f,p,t,zh (By _ _ _ _ _ _ _ _),(I5 z.hs z.hu).un⟩)
 have n:k<Γ c.U:=Z;obtain⟨i,A,hf,H,W,ε,η⟩:=C8 (hzero c.U[k] (Faa n));have E:k<(c.U.map (uAt w)).length:=by rw[Fas];exact n
 refine⟨k,rfl,J _ (zm E) ?_⟩;have M:(c.U.map (uAt w))[k]=w.U[i]:=by rw[Fbj,W]
 rw[M];refine Qc zb yfe ?_;refine J (o:=(V.un (svS D s _ v l j f p)).obj b) _ t ?_;refine⟨iq w.U[i] _ _ ⟨(by repeat(first|exact O|refine⟨rfl,?_⟩|refine⟨J (o:=(V.un (svS D s _ v l j f p)).obj b) _ t rfl,?_⟩)),?_⟩,O⟩;have I:i<(y9 (c.U.take k) kj w.U).length:=by rw[wy];exact A
 refine⟨Wb z a.os (gp (g:=kj) (λ_=>rfl) hm.hr) (by rw[wy];omega) Z y I (kj w.U[i]) (Vt (g:=kj) (λ_=>rfl) A) (hn w.U[i] (Faa A)) _ (λF2 G2 L2 Q g2 g3 g4=>⟨O,?_⟩),O⟩;have e5:c.U.take k++[w.U[i].id]=c.U.take (k+1):=by rw[Fab n,H]
 dsimp only at Q⊢;rw[Vs hm.hr A,e5]at Q⊢;refine Qd ?_;refine⟨(k+1,F2,G2,L2),?_,⟨ζ,rfl,Q,λq X=>(g2 q X).trans (P q X),ζ,g4⟩,Qbt,O⟩;show Γ c.U-(k+1)<Γ c.U-k;omega
section
variable {S:Store} {v o0 o1 o2 fv:AV} {xw s p:Nat} {w:Wld}
def zei{U:List Unt}(B:RowsQ 10 zf S v U)(hl:Γ U<=1000000)(id:Int)(R:Ja)(h:R (yq (z6 U id)) S):Jb 293 [v,int id] S R:=by
 obtain⟨A,n,e,g⟩:=B.form;subst e;refine Qy 24 func293 ?_
 refine AWp.loop (σ:=Nat×AV) ⟨λx=>[(1,.av (int id)),(4,.av x.2),(7,.av (.s (.slice A (Γ U) n))),(8,.av (int (Γ U:Nat))),(9,.av (int (x.1:Nat)))],λ_=>[],
  λx st'=>x.1<=Γ U/\App 1 S x.2 (rws zx (z6 (U.take x.1) id)) st',λx=>Γ U-x.1⟩ zb ?_ ?_
 .exact⟨(0,_),O,⟨Fae _,App.start 1 S⟩,⟨Y,Y,Y,Y,Y,O⟩,O⟩
 rintro⟨i,v2⟩ st' ⟨D,c⟩;dsimp only at D c⊢;refine bcd (λt=>?_) (λt=>?_);rotate_left
 .have:i=Γ U:=Z;subst this;rw[Fal]at c;exact⟨_,_,c.le,c.has,h⟩
 have d:i<Γ U:=Z;have k:=nh d id;have C:(z6 (U.take i) id).length<=1000000:=by have t:=Rv (l:=U) i id;have G:(z6 U id).length<=Γ U:=θl;omega
 obtain⟨b,a,E,f⟩:=g i d;have f:st'.obj b=Δ (.cells ((rws zf U).flatten++a)):=by rw[c.obj];exact f
 subst E;refine⟨i,rfl,d,?_⟩;refine Qby ?_;refine yv (i:=ti72) (row:=zf U[i]) rfl rfl (xx yx d) ?_;refine zp (λo=>?_) (λo=>?_)
 .rw[if_pos o]at k;refine⟨ψ,?_⟩;refine Af (ie:=ti2) (rows':=[zx U[i].id]) c ?_ ?_ ⟨?_,?_⟩ (λu y j=>?_)
  .rfl
  .rfl
  .simp only[zj,Fao,ti2];omega
  .simp only[zj,Fao];omega
  refine Qd ?_;refine⟨(i+1,u),?_,⟨ζ,?_⟩,Qbt,O⟩
  .show Γ U-(i+1)<Γ U-i;omega
  .dsimp only;rw[k];unfold rws at j⊢;rw[Fa8];exact j
 .rw[if_neg o,Fbq]at k;refine Qd ?_;refine⟨(i+1,v2),?_,⟨ζ,?_⟩,Qbt,O⟩
  .show Γ U-(i+1)<Γ U-i;omega
  .dsimp only;rw[k];exact c
def yu7{c:Cmd}(u:AtW S xw s p w v o0 o1 o2 c fv)(z:yw w.U)(D:Γ w.U<=1000000)(M:Γ c.U<=1000000)(fn:FuncId)(g:List AV)(more:Unt->Int)
  (hf:∀id,xu w c.P id=0->∀st',(∀q,st'.obj q=S.obj q)->∀R:AV->Store->Prop,R (int (more (uAt w id))) st'->Jb fn ([.agg (zf (uAt w id))]++g) st' R) (E:Int->Int) (G:∀id,E id=if xu w c.P id=0 then more (uAt w id)else xu w c.P id) (R:Ja)
  (h:jy E c.U=0->R (.tup [lst 10 zf (c.U.map (uAt w)),int 0]) S) (I:jy E c.U≠0->R (.tup [.s (.slice Θ 0 0),int (jy E c.U)]) S):Jb 285 [ptr xw,.clos fn g] S R:=by
 refine Qy 44 func285 ?_;refine J (o:=S.obj xw) _ u.hx ?_
 refine AWp.loop (σ:=Nat×AV) ⟨λx=>[(0,.av (ptr xw)),(1,.av (.clos fn g)),(4,.av x.2),(14,.av (yq c.U)),(15,.av (int (Γ c.U:Nat))),(16,.av (int (x.1:Nat)))],λ_=>[],
  λx st'=>x.1<=Γ c.U/\App 10 S x.2 (rws zf ((c.U.take x.1).map (uAt w))) st'/\∀j,(k:j<Γ c.U)->j<x.1->E c.U[j]=0,λx=>Γ c.U-x.1⟩ zb ?_ ?_
 .refine⟨(0,_),O,⟨Fae _,App.start 10 S,λj _ k=>Z⟩,⟨Y,Y,Y,Y,?_,Y,O⟩,O⟩;rw[<-zj (f:=zx) c.U];exact Y
 rintro⟨i,v2⟩ st' ⟨C,a,hall⟩;dsimp only at C a hall⊢;refine bcd (λH=>?_) (λH=>?_);rotate_left
 .have:i=Γ c.U:=Z;subst this;rw[Fal]at a;exact⟨_,_,AV.le_tupL (xs:=[v2,int 0]) (ys:=[lst 10 zf (c.U.map (uAt w)),int 0]) ⟨AV.le_trans a.le (Tt),Tt,O⟩,a.has,h (Sn λj k=>hall j k k)⟩
 have d:i<Γ c.U:=Z;have b:=G c.U[i];have y:AtW st' xw s p w v o0 o1 o2 c fv:=⟨by rw[a.obj];exact u.hx,by rw[a.obj];exact u.hs,u.hr.sub λ_ _ _ _=>by rw[a.obj]⟩
 have bad:E c.U[i]≠0->R (.tup [.s (.slice Θ 0 0),int (E c.U[i])]) S:=λhne=>by have e:=Dt d hall hne;have:=I (by rw[e];exact hne);rw[e]at this;exact this
 refine⟨i,rfl,J _ (zm d) ?_⟩;refine p9 y z D c.U[i] _ ?_;refine zp (λn=>?_) (λn=>?_);rotate_left
 .rw[if_neg n]at b;rw[b]at bad;refine qd (λl=>?_) (λl=>absurd l n);exact⟨_,_,Tt,a.has,bad n⟩
 rw[if_pos n]at b;refine hf c.U[i] n st' (λq=>by rw[a.obj]) _ ?_;rw[b]at bad;refine qd (λl=>?_) (λl=>?_)
 .exact⟨_,_,Tt,a.has,bad l⟩
 rw[l]at b;refine⟨ψ,?_⟩;refine Af (ie:=ti72) (rows':=[zf (uAt w c.U[i])]) a ?_ ?_ ⟨?_,?_⟩ (λA B t=>?_)
 .rfl
 .rfl
 .simp only[zj,Fas,Fah,Fao,ti72];omega
 .simp only[zj,Fas,Fah,Fao];omega
 refine Qd ?_;refine⟨(i+1,A),?_,⟨ζ,?_,λj k hji=>?_⟩,Qbt,O⟩
 .show Γ c.U-(i+1)<Γ c.U-i;omega
 .dsimp only;rw[Fab d,Fa8];unfold rws at t⊢;rw[Fa8];exact t
 .by_cases e:j=i
  .subst e;exact b
  .exact hall j k ψl
def zhd{c:Cmd}(d:AtW S xw s p w v o0 o1 o2 c fv)(e:yw w.U)(f:Γ w.U<=1000000)(R:Ja)(h:R (.tup [.agg (zf (uAt w c.N)),int (wd w c.P c.N)]) S):Jb 292 [ptr xw] S R:=by
 unfold wd at h;refine Qy 27 func292 ?_;refine J (o:=S.obj xw) _ d.hx ?_;refine p9 d e f c.N _ ?_;refine zp (λa=>?_) (λa=>?_)
 .rw[if_pos a]at h;refine ky _ _ _ ?_;refine zp (λb=>?_) (λb=>?_)
  .rw[if_pos b]at h;exact ret h
  .rw[if_neg b]at h;rw[<-a]at h;exact ret h
 .rw[if_neg a]at h;exact ret h
def ymx(x u:Unt)(d:x.pos.ok)(e:u.pos.ok)(c:Nat)(st:Store)(hb:st.obj c=Δ (.cells (zf x)))(R:Ja)(h:R (int (Bd x u)) st):Jb 294 ([.agg (zf u)]++[ptr c]) st R:=by
 unfold Bd at h;refine Qy 16 func294 ?_;refine ky _ _ _ ?_;refine bcd (λb=>?_) (λb=>?_)
 .rw[if_pos b]at h;exact ret h
 rw[if_neg b]at h;refine Qby ?_;refine zfz u.pos x.pos e d _ _ ?_;refine bcd (λa=>?_) (λa=>?_)
 .rw[if_pos a]at h;exact ret h
 .rw[if_neg a]at h;exact ret h
end
section
variable {F G:Store} {xw s p:Nat} {w:Wld} {v o0 o1 o2 fv:AV}
theorem Work.add{L:List Ent}{c:Cmd}(h:Work F G xw s p w v L o0 o1 o2 c fv){a:Nat}(l:Fresh (F.un (svS G s w v o0 o1 o2 p)) a)(z:AObj):
  Work F (G.sO a z) xw s p w v L o0 o1 o2 c fv/\(F.un (svS G s w v o0 o1 o2 p)).sO a z=F.un (svS (G.sO a z) s w v o0 o1 o2 p)/\jf v a/\a≠s:=by
 have d:¬F.has a/\¬(svS G s w v o0 o1 o2 p).has a:=by have:=fresh_iff.1 l;exact⟨λh=>this (un_has.2 (.inl h)),λh=>this (un_has.2 (.inr h))⟩
 have f:a≠s:=λe=>d.2 (svS_has.2 (.inl e));have g:¬G.has a:=λh=>d.2 (svS_has.2 (.inr h));have k:a≠xw:=λe=>g (by rw[e];exact xk h.hx);have off:=Dj h.S.hu (jt g).1;refine⟨⟨⟨h.S.hc,λi j b=>?_,?_,h.S.hu.set off _,h.S.h0,h.S.h1,h.S.h2⟩,?_,h.ox,h.os,h.hL,h.hF⟩,?_,off,f⟩
 .rcases svS_has.1 b with rfl|b
  .exact h.S.hd _ j (svS_has.2 (.inl rfl))
  .by_cases hi:i=a
   .subst hi;exact d.1 j
   .refine h.S.hd _ j (svS_has.2 (.inr ?_));rcases b with b|b
    .rw[zi hi]at b;exact .inl b
    .exact .inr b
 .rw[zi (Ne.symm f)];exact h.S.hs
 .rw[zi (Ne.symm k)];exact h.hx
 .rw[z8];unfold svS;rw[Fj f]
def zd8{c:Cmd}(h:wd w c.P c.N≠0):ldE w c=wd w c.P c.N:=by unfold ldE;rw[if_neg h]
def N6{c:Cmd}(h:wd w c.P c.N=0)(a:jy (ldA w c.P c.N) c.U≠0):ldE w c=jy (ldA w c.P c.N) c.U:=by unfold ldE;rw[if_pos h,if_neg a]
def zd7{c:Cmd}(h:wd w c.P c.N=0)(a:jy (ldA w c.P c.N) c.U=0):ldE w c=if j6 (uAt w c.N).kind<((z6 w.U c.N).length:Int)+(Γ c.U:Int)then 4 else 0:=by unfold ldE;rw[if_pos h,if_pos a]
def zi9{L:List Ent}{c:Cmd}(D:Work F G xw s p w v L o0 o1 o2 c fv)(W:yd w)(hn:∀u∈w.U,u.pos.ok)(hc:Γ c.U<=64)(hN:1<=c.N)(R:Ja)
  (h:∀S',ldE w c≠0->R (int (ldE w c)) S') (h0:ldE w c=0->∀S',Fb S' xw s c fv (ldW w c)->R (int 0) S'):Jb 199 [ptr xw] (F.un (svS G s w v o0 o1 o2 p)) R:=by
 have hm:=xr W;have hU:=hm.hU;have hLl:=D.hL;obtain⟨H,j,e,hget⟩:=D.S.hu.form;subst e;refine Qa (c:=cfg 65 [3] []) zb func199 ?_;refine zhd ⟨D.x,D.s,D.r⟩ hm.hr Z _ ?_;intro d τ;refine kh (i:=ti72) (v:=.agg (zf (uAt w c.N))) (xs:=zf (uAt w c.N)) (b:=d) (o:=0) (l:=_) rfl rfl rfl (zd _ _ _) (show 0+10<=10 by decide) ?_;obtain⟨a,e1,M,T⟩:=D.add τ (.cells (zf (uAt w c.N)));have e3:∀l:List AV,Γ l=10->zu l 0 (zf (uAt w c.N))=zf (uAt w c.N):=λl hl=>by unfold zu;rw[Fcp,Fde,Fbd,yx,Fcy Z,Fbq]
 rw[ym,e3 _ (by simp[ti72]),e1];have hx:=a.x (F':=F) (q0:=o0) (q1:=o1) (q2:=o2);have hs:=a.s (F':=F) (q0:=o0) (q1:=o1) (q2:=o2);have I:=a.r (F':=F) (q0:=o0) (q1:=o1) (q2:=o2);have η:(G.sO d (.cells (zf (uAt w c.N)))).obj d=Δ (.cells (zf (uAt w c.N))):=zd _ _ _;generalize G.sO d (.cells (zf (uAt w c.N)))=y at*;have hb:(F.un (svS y s w (.s (.slice H (Γ w.U) j)) o0 o1 o2 p)).obj d=Δ (.cells (zf (uAt w c.N))):=zh (by show(y.sO s _).obj d=_;rw[zi T];exact η);refine qd (λK=>?_) (λK=>?_)
 .have:=zd8 K;rw[this]at h;exact ret (h _ K)
 obtain⟨ι,B⟩:=Sg K;obtain⟨Q,X,hfx,t,n,_,_⟩:=C8 ι;have ν:=ynv W X Z;rw[t]at ν;rw[n]at B hb;have hkb:=Mc w.U[Q].kind;have π:(z6 w.U c.N).length<=Γ w.U:=θl;rw[n];refine Qc zb ye7 ?_;refine J (o:=(F.un (svS y s w _ o0 o1 o2 p)).obj d) _ hb ?_;refine J (o:=(F.un (svS y s w _ o0 o1 o2 p)).obj xw) _ hx ?_;refine J (o:=(F.un (svS y s w _ o0 o1 o2 p)).obj s) _ hs ?_;refine J (o:=(F.un (svS y s w _ o0 o1 o2 p)).obj d) _ hb ?_;refine⟨ky _ _ _ ⟨(by repeat(first|exact O|refine⟨rfl,?_⟩|refine⟨J (o:=(F.un (svS y s w _ o0 o1 o2 p)).obj d) _ hb rfl,?_⟩|refine⟨J (o:=(F.un (svS y s w _ o0 o1 o2 p)).obj xw) _ hx rfl,?_⟩|refine⟨J (o:=(F.un (svS y s w _ o0 o1 o2 p)).obj s) _ hs rfl,?_⟩)),?_⟩,O⟩;rw[t];refine⟨zei I Z c.N _ ⟨Qe,?_⟩,O⟩;refine ze θg ?_;refine Qbx ?_;rw[zj];refine yu7 ⟨hx,hs,I⟩ hm.hr Z Z _ _ (Bd w.U[Q]) (λid ε f ho R h=>ymx w.U[Q] (uAt w id) (hn _ (Faa X)) (td hn id) d f (by rw[ho];exact hb) R h) (ldA w c.P c.N) (λid=>by unfold ldA;rw[n]) _ (λhe=>?_) (λhe=>?_);rotate_left
 .have z:=N6 K he;refine bcd (λE=>absurd E Z) (λ_=>?_);refine AWp.loop (σ:=Unit) ⟨λx=>[(4,.av (int (ldE w c))),(45,.av (int 0)),(46,.av (int 0))],λ_=>[],λx f=>True,λx=>0⟩ zb ?_ ?_
  .refine⟨(),O,O,⟨?_,Y,Y,O⟩,O⟩;rw[z];exact Y
  rintro⟨⟩ f _;exact ret (h _ (by rw[z];exact he))
 have hzero:=H0 he;have z:=zd7 K he;rw[n]at z;refine bcd (λE=>?_) (λE=>?_)
 .rw[zj,Fas]at E;rw[if_pos Z]at z;rw[z]at h;exact ret (h _ ψ)
 rw[zj,Fas]at E;rw[if_neg Z]at z
 refine AWp.loop (σ:=Nat×Store×Store×List Ent) ⟨λx=>[(0,.av (ptr xw)),(3,.av (ptr d)),(4,.av (int 0)),(44,.av (lst 10 zf (c.U.map (uAt w)))),(45,.av (int (Γ c.U:Nat))),(46,.av (int (x.1:Nat)))],λ_=>[],
  λx f=>x.1<=Γ c.U/\f=x.2.1.un (svS x.2.2.1 s {w with U:=y9 (c.U.take x.1) (ldU c.N) w.U} (.s (.slice H (Γ w.U) j)) o0 o1 o2 p)/\StandR x.2.1 x.2.2.1 s p {w with U:=y9 (c.U.take x.1) (ldU c.N) w.U} (.s (.slice H (Γ w.U) j)) x.2.2.2 o0 o1 o2/\(∀q,jf (.s (.slice H (Γ w.U) j)) q->x.2.2.1.obj q=y.obj q)/\Γ x.2.2.2<=Γ L+x.1/\∀e∈x.2.2.2,e.2.ok,λx=>Γ c.U-x.1⟩ zb ?_ ?_
 .refine⟨(0,F,y,L),O,⟨Fae _,?_,?_,λ_ _=>rfl,ζ,Lu D.hF hn⟩,⟨Y,Y,Y,Y,?_,Y,O⟩,O⟩
  .dsimp only;rw[Fcp,Nd]
  .dsimp only;rw[Fcp,Nd];exact a.S
  .have e:(Γ c.U:Int)=((rws zf (c.U.map (uAt w))).length:Int):=by rw[zj,Fas]
   rw[e];exact Y
 rintro⟨k,F1,G1,L1⟩ f ⟨hk,rfl,hS,hG,hL,V⟩;dsimp only at hk hS hG hL V⊢;have A:(F1.un (svS G1 s {w with U:=y9 (c.U.take k) (ldU c.N) w.U} (.s (.slice H (Γ w.U) j)) o0 o1 o2 p)).obj xw=Δ (.cells (wkC s c fv)):=zh (by show(G1.sO s _).obj xw=_;rw[zi a.ne,hG xw a.ox];exact a.hx);have hb2:(F1.un (svS G1 s {w with U:=y9 (c.U.take k) (ldU c.N) w.U} (.s (.slice H (Γ w.U) j)) o0 o1 o2 p)).obj d=Δ (.cells (zf w.U[Q])):=zh (by show(G1.sO s _).obj d=_;rw[zi T,hG d M,η,n]);refine bcd (λE=>?_) (λE=>?_);rotate_left
 .have:k=Γ c.U:=Z;subst this;rw[Fal]at hS A⊢;exact ret (h0 z _ ⟨_,o0,o1,o2,p,A,zh (By _ _ _ _ _ _ _ _),(I5 hS.hs hS.hu).un⟩)
 have C:k<Γ c.U:=Z;obtain⟨i,hi,hf,ε,hu,how,π⟩:=C8 (my (hzero c.U[k] (Faa C))).1;have ο:k<(c.U.map (uAt w)).length:=by rw[Fas];exact C
 refine⟨k,rfl,J _ (zm ο) ?_⟩;have υ:(c.U.map (uAt w))[k]=w.U[i]:=by rw[Fbj,hu]
 rw[υ];refine iq w.U[i] _ _ ?_;refine J _ hb2 ?_;refine Qc zb ye8 ?_;refine J (o:=(F1.un (svS G1 s _ _ o0 o1 o2 p)).obj xw) _ A ?_;have ς:i<(y9 (c.U.take k) (ldU c.N) w.U).length:=by rw[wy];exact hi
 refine⟨Wb hS a.os (gp (g:=ldU c.N) (λ_=>rfl) hm.hr) (by rw[wy];omega) Z V ς (ldU w.U[Q].id w.U[i]) (Vt (g:=ldU c.N) (λ_=>rfl) hi) (show Vc.ok (0,0) by unfold Vc.ok yr;decide) _ (λF2 G2 L2 g1 g2 g3 g4=>⟨O,?_⟩),O⟩;have e6:c.U.take k++[w.U[i].id]=c.U.take (k+1):=by rw[Fab C,ε]
 rw[t,Vs hm.hr hi,e6]at g1⊢;refine Qd ?_;refine⟨(k+1,F2,G2,L2),?_,⟨ζ,rfl,g1,λq hq=>(g2 q hq).trans (hG q hq),ζ,g4⟩,Qbt,O⟩;show Γ c.U-(k+1)<Γ c.U-k;omega
end
end Go.Proofs
