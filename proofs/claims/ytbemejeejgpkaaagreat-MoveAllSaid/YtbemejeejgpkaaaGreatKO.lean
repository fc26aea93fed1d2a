/- The ground on which laws of thronglaw24 are proved: contracts of functions and plain lemmas; no condition beyond the row's own. -/
import Derived.Test.YtbemejeejgpkaaaGreatKE
import Derived.Test.YtbemejeejgpkaaaGreatKN
import Derived.Test.YtbemejeejgpkaaaGreatKF
set_option linter.unusedSimpArgs false
set_option linter.unusedVariables false
namespace Go.Proofs
open Go Go.V
set_option maxRecDepth 4000
theorem zwm(g:Gnd)(hg:gndP g)(t:Nat)(ht:(t:Int)<g.W*g.H)(x:Int)(hx:x=(t:Int))(p:Vc)(hp:xx p.1 p.2)(r:Int)(hr:0<r/\r<=262144)(st:Store)(R:AV->Store->Prop)(h:R (V.bool (decide (hitP g t p r))) st):
  ACalls Tryz.prog 189 [.agg (gndC g),int x,.agg (vecC p),int r] st R:=by
 subst hx
 exact ya7 g hg t ht p hp r hr st R h
set_option maxHeartbeats 1000000 in
theorem zpn(g:Gnd)(hg:gndP g)(l:List Bld)(c:Int)(p:Vc)(hpo:p.ok)(r:Int)(hr:0<r/\r<=262144)(st:Store)(R:AV->Store->Prop)
  (h:∀z:Bool,(z=true↔zg5 g l c p r)->R (V.bool z) st):ACalls Tryz.prog 161 [.agg (gndC g),opV g l c,.agg (vecC p),int r] st R:=by
 have ha:=zr hg
 have hg1:=hg.1
 have hg2:=hg.2.1
 have no:¬zg5 g l c p r->R (V.bool false) st:=fun hn=>h false (by simp only[Bool.false_eq_true,false_iff];exact hn)
 refine Qa (c:=cfg 112) zc Tryz.func161 ?_
 refine Qc zc ylk ?_
 refine Qd ?_
 refine Qd ?_
 refine⟨⟨Qe,?_⟩,Tv⟩
 refine⟨⟨Tv,?_⟩,Tv⟩
 refine zxa p r _ _ (fun z hz=>?_)
 refine yo ?_
 refine ze (fun c0=>?_) (fun c0=>ret (no fun q=>by
  have:=hz.2 ⟨⟨by omega,hr.2⟩,by unfold xx;have:=q.1;omega⟩
  rw[this]at c0;cases c0))
 have hp:=(hz.1 c0).2
 have hp':=hp
 unfold xx at hp'
 refine Qd ?_
 refine bcd (fun c1=>ret (no fun q=>by have:=q.1;omega)) (fun c1=>?_)
 refine Qd ?_
 refine bcd (fun c2=>ret (no fun q=>by have:=q.1;omega)) (fun c2=>?_)
 refine Qd ?_
 refine bcd (fun c3=>ret (no fun q=>by have:=q.1;omega)) (fun c3=>?_)
 refine Qd ?_
 refine bcd (fun c4=>ret (no fun q=>by have:=q.1;omega)) (fun c4=>?_)
 refine Qd ?_
 refine⟨by decide,?_⟩
 have hy0:(p.2-r).tdiv 65536=(p.2-r)/65536:=Int.tdiv_eq_ediv_of_nonneg (by omega)
 have hx0:(p.1-r).tdiv 65536=(p.1-r)/65536:=Int.tdiv_eq_ediv_of_nonneg (by omega)
 have hy1:(p.2+r).tdiv 65536=(p.2+r)/65536:=Int.tdiv_eq_ediv_of_nonneg (by omega)
 have hx1:(p.1+r).tdiv 65536=(p.1+r)/65536:=Int.tdiv_eq_ediv_of_nonneg (by omega)
 refine Qd ?_
 rw[hy0]
 refine AWp.loop (σ:=Nat) ⟨fun k=>[(1,.av (opV g l c)),(3,.av (int r)),(4,.bx 4 0),(6,.bx 6 0),(11,.av (int ((p.2-r)/65536+(k:Nat))))],fun _=>[(4,gndC g),(6,vecC p)],
  fun k st'=>st'=st/\((k:Int)<=g.H-(p.2-r)/65536\/k=0)/\zf8 g l c p r ((p.2-r)/65536+(k:Nat)),fun k=>(g.H-(p.2-r)/65536).toNat-k⟩ zc ?_ ?_
 ·refine⟨0,Tv,⟨rfl,.inr rfl,?_⟩,⟨Tq,Tq,Tq,Tq,?_,Tv⟩,⟨rfl,rfl,Tv⟩⟩
  ·rw[show(p.2-r)/65536+((0:Nat):Int)=(p.2-r)/65536 by omega]
   exact zsj hr.1 (by omega)
  ·rw[show(p.2-r)/65536+((0:Nat):Int)=(p.2-r)/65536 by omega];exact Tq
 rintro k st' ⟨rfl,hk,hup⟩
 refine Qd ?_
 refine⟨by decide,?_⟩
 refine Qd ?_
 rw[hy1]
 have done:(¬((p.2-r)/65536+(k:Int)<=(p.2+r)/65536)\/¬((p.2-r)/65536+(k:Int)<g.H))->R (V.bool true) st':=fun hh=>
  h true (by simp only[true_iff];exact⟨by omega,zsk hg hr.1 (by omega) hh hup⟩)
 refine bcd (fun c5=>?_) (fun c5=>ret (done (.inl c5)))
 refine bcd (fun c6=>?_) (fun c6=>ret (done (.inr c6)))
 refine Qd ?_
 refine⟨by decide,?_⟩
 refine Qd ?_
 rw[hx0]
 have hyb:0<=(p.2-r)/65536:=by omega
 have hxb:0<=(p.1-r)/65536:=by omega
 refine AWp.loop (σ:=Nat) ⟨fun m=>[(1,.av (opV g l c)),(3,.av (int r)),(4,.bx 4 0),(6,.bx 6 0),(11,.av (int ((p.2-r)/65536+(k:Nat)))),(12,.av (int ((p.1-r)/65536+(m:Nat))))],fun _=>[(4,gndC g),(6,vecC p)],
  fun m st2=>st2=st'/\((m:Int)<=g.W-(p.1-r)/65536\/m=0)/\ze7 g l c p r ((p.2-r)/65536+(k:Nat)) ((p.1-r)/65536+(m:Nat)),fun m=>(g.W-(p.1-r)/65536).toNat-m⟩ zc ?_ ?_
 ·refine⟨0,Tv,⟨rfl,.inr rfl,?_⟩,⟨Tq,Tq,Tq,Tq,Tq,?_,Tv⟩,⟨rfl,rfl,Tv⟩⟩
  ·rw[show(p.1-r)/65536+((0:Nat):Int)=(p.1-r)/65536 by omega]
   exact zp3 hr.1 (by omega)
  ·rw[show(p.1-r)/65536+((0:Nat):Int)=(p.1-r)/65536 by omega];exact Tq
 rintro m st2 ⟨rfl,hm,hrow⟩
 refine Qd ?_
 refine⟨by decide,?_⟩
 refine Qd ?_
 rw[hx1]
 have done2:(¬((p.1-r)/65536+(m:Int)<=(p.1+r)/65536)\/¬((p.1-r)/65536+(m:Int)<g.W))->zf8 g l c p r ((p.2-r)/65536+((k+1:Nat):Int)):=fun hh=>by
  rw[zjf]
  exact zp4 hg hr.1 (by omega) hh hup hrow
 have mu:(g.H-(p.2-r)/65536).toNat-(k+1)<(g.H-(p.2-r)/65536).toNat-k:=yoa (Int.lt_sub_left_of_add_lt c6)
 have step2:LV.le (vint .i64 ((p.2-r)/65536+(k:Int)+1)) (.av (int ((p.2-r)/65536+((k+1:Nat):Int)))):=by
  rw[zjf];exact Tq
 refine bcd (fun c7=>?_) (fun c7=>in64 (by omega) ⟨k+1,mu,⟨rfl,.inl (zha c6),done2 (.inl c7)⟩,⟨Tq,Tq,Tq,Tq,step2,Tv⟩,⟨rfl,rfl,Tv⟩⟩)
 refine bcd (fun c8=>?_) (fun c8=>in64 (by omega) ⟨k+1,mu,⟨rfl,.inl (zha c6),done2 (.inr c8)⟩,⟨Tq,Tq,Tq,Tq,step2,Tv⟩,⟨rfl,rfl,Tv⟩⟩)
 obtain⟨q1,q2,q3,q4⟩:=k9 hg (x:=(p.1-r)/65536+(m:Int)) (y:=(p.2-r)/65536+(k:Int)) (by omega) (by omega)
 have q5:0<=g.W*((p.2-r)/65536+(k:Int)):=Int.mul_nonneg (by omega) (by omega)
 have hstep:=zmw (l:=l) (c:=c) (p:=p) (r:=r) hg (x:=(p.1-r)/65536+(m:Int)) (y:=(p.2-r)/65536+(k:Int)) (by omega) (by omega) hrow
 refine Qd ?_
 refine Qd ?_
 obtain⟨n,hn⟩:∃n:Nat,(n:Int)=(p.1-r)/65536+(m:Int)+g.W*((p.2-r)/65536+(k:Int)):=⟨_,Int.toNat_of_nonneg q1⟩
 rw[<-hn,Int.toNat_natCast]at hstep
 have hnl:n<g.T.length:=by omega
 have mu2:(g.W-(p.1-r)/65536).toNat-(m+1)<(g.W-(p.1-r)/65536).toNat-m:=yoa (Int.lt_sub_left_of_add_lt c8)
 have e2:(p.1-r)/65536+((m+1:Nat):Int)=(p.1-r)/65536+(m:Int)+1:=zjf _ _
 have step3:LV.le (vint .i64 ((p.1-r)/65536+(m:Int)+1)) (.av (int ((p.1-r)/65536+((m+1:Nat):Int)))):=by
  rw[e2];exact Tq
 refine⟨n,hn.symm,za _ (ych hnl) ?_⟩
 refine yo ?_
 refine ze (fun c9=>?_) (fun c9=>?_)
 ·refine Qd ?_
  exact⟨m+1,mu2,⟨rfl,.inl (zha c8),by rw[e2];exact hstep fun hh=>by rw[c9]at hh;cases hh⟩,⟨Tq,Tq,Tq,Tq,Tq,step3,Tv⟩,⟨rfl,rfl,Tv⟩⟩
 refine zwm g hg n (by omega) _ hn.symm p hp r hr _ _ ?_
 refine bcd (fun c10=>?_) (fun c10=>?_)
 ·exact ret (no fun q=>q.2 n hnl c9 c10)
 ·refine Qd ?_
  exact⟨m+1,mu2,⟨rfl,.inl (zha c8),by rw[e2];exact hstep fun _=>c10⟩,⟨Tq,Tq,Tq,Tq,Tq,step3,Tv⟩,⟨rfl,rfl,Tv⟩⟩
theorem zk1(x:Int)(st:Store)(R:AV->Store->Prop)(h:R (V.bool false) st):ACalls Tryz.prog 179 [int x] st R:=by
 refine Qa (c:=cfg 6) zc Tryz.func179 ?_
 refine⟨_,st,Tt,Store.Has.refl st,?_⟩
 have e:(x != x)=false:=by simp
 rw[<-e]at h
 exact h
theorem zp1(x y:Int)(st:Store)(R:AV->Store->Prop)(h:R (int (cmpZ x y)) st):ACalls Tryz.prog 136 [int x,int y] st R:=by
 refine Qa (c:=cfg 20) zc Tryz.func136 ?_
 refine zk1 _ _ _ ?_
 refine zk1 _ _ _ ?_
 unfold cmpZ at h
 refine ze (fun h1=>⟨_,st,Tt,Store.Has.refl st,?_⟩) (fun h1=>?_)
 ·rw[if_pos (by simpa using h1)]at h
  exact h
 ·rw[if_neg (by simpa using h1)]at h
  refine ze (fun h2=>⟨_,st,Tt,Store.Has.refl st,?_⟩) (fun h2=>⟨_,st,Tt,Store.Has.refl st,?_⟩)
  ·rw[if_pos (by simpa using h2)]at h
   exact h
  ·rw[if_neg (by simpa using h2)]at h
   exact h
theorem zqd(u:Unt)(id:Int)(st:Store)(R:AV->Store->Prop)(h:R (int (cmpZ u.id id)) st):ACalls Tryz.prog 135 [.agg (untC u),int id] st R:=by
 refine Qa (c:=cfg 9) zc Tryz.func135 ?_
 exact zp1 u.id id _ _ (ret h)
def isAt(l:List Unt)(id:Int)(i:Nat):Prop:=i<=l.length/\(∀j,(h:j<l.length)->j<i->l[j].id<id)/\∀j,(h:j<l.length)->i<=j->id<=l[j].id
theorem ynk(l:List Unt)(hl:l.length<=1000000000000)(hr:yh l)(id:Int)(st:Store)(R:AV->Store->Prop)
  (h:∀i,isAt l id i->∀z:Bool,(z=true↔∃hi:i<l.length,l[i].id=id)->R (.tup [int (i:Nat),V.bool z]) st):ACalls Tryz.prog 134 [lst 10 untC l,int id,.clos 135 []] st R:=by
 refine Qa (c:=cfg 49) zc Tryz.func134 ?_
 refine AWp.loop (σ:=Nat×Nat) ⟨fun s=>[(0,.av (lst 10 untC l)),(1,.av (int id)),(2,.av (.clos 135 [])),(8,.av (int (l.length:Nat))),(9,.av (int (s.1:Nat))),(10,.av (int (s.2:Nat)))],fun _=>[],
  fun s st'=>st'=st/\s.1<=s.2/\s.2<=l.length/\(∀j,(h:j<l.length)->j<s.1->l[j].id<id)/\∀j,(h:j<l.length)->s.2<=j->id<=l[j].id,fun s=>s.2-s.1⟩ zc ?_ ?_
 ·refine⟨(0,l.length),Tv,⟨rfl,Nat.zero_le _,Nat.le_refl _,fun j _ hj=>by omega,fun j hj hj2=>by omega⟩,⟨Tq,Tq,Tq,?_,Tq,?_,Tv⟩,Tv⟩
  ·rw[<-zk (f:=untC) l];exact Tq
  ·rw[<-zk (f:=untC) l];exact Tq
 rintro⟨i,j⟩ st' ⟨rfl,hij,hj,hlo,hhi⟩
 dsimp only at hij hj hlo hhi⊢
 refine bcd (fun h1=>?_) (fun h1=>?_)
 rotate_left
 ·have e:i=j:=by omega
  subst e
  have hat:isAt l id i:=⟨hj,hlo,hhi⟩
  refine bcd (fun h2=>?_) (fun h2=>?_)
  ·have hlt:i<l.length:=by omega
   refine⟨i,rfl,za _ (zj hlt) ?_⟩
   refine zqd l[i] id _ _ ?_
   refine ret (h i hat _ ?_)
   have:=hhi i hlt (Nat.le_refl _)
   unfold cmpZ
   rw[if_neg (by omega)]
   by_cases e:l[i].id=id
   ·rw[if_neg (by omega)];simp[hlt,e]
   ·rw[if_pos (by omega)];simp[e]
  ·exact ret (h i hat _ (by simp;omega))
 refine Qd ?_
 refine⟨by decide,?_⟩
 have hmid:(IntKind.u64.wrap ((i:Int)+(j:Int))).fdiv (2^(min (1:Int).toNat IntKind.u64.bits))=(((i+j)/2:Nat):Int):=by
  have e1:IntKind.u64.wrap ((i:Int)+(j:Int))=((i+j:Nat):Int):=by
   simp[IntKind.wrap,IntKind.bits,IntKind.signed];omega
  have e2:(2:Int)^(min (1:Int).toNat IntKind.u64.bits)=2:=rfl
  have e3:(((i+j:Nat):Int)).fdiv 2=(((i+j)/2:Nat):Int):=by
   rw[Int.fdiv_eq_ediv_of_nonneg _ (by decide)];rfl
  rw[e1,e2,e3]
 have hk1:(i+j)/2<j:=by omega
 have hk2:i<=(i+j)/2:=by omega
 have hkl:(i+j)/2<l.length:=by omega
 have hmono:∀a b,(ha:a<l.length)->(hb:b<l.length)->a<=b->l[a].id<=l[b].id:=by
  intro a b ha hb hab
  induction b with
  |zero=>
   have:a=0:=by omega
   subst this;exact Int.le_refl _
  |succ b ih=>
   by_cases e:a=b+1
   ·subst e;exact Int.le_refl _
   ·have h2:=ih (by omega) (by omega)
    have h3:=hr (b+1) hb (by omega)
    simp only[Nat.add_sub_cancel]at h3
    omega
 refine⟨by rw[hmid];exact⟨by omega,by omega⟩,?_⟩
 refine⟨(i+j)/2,hmid,za _ (zj hkl) ?_⟩
 refine zqd l[(i+j)/2] id _ _ ?_
 have hc:cmpZ l[(i+j)/2].id id<0↔l[(i+j)/2].id<id:=by
  unfold cmpZ;split
  ·omega
  ·split<;>omega
 refine bcd (fun h2=>?_) (fun h2=>?_)
 ·have h2:=hc.1 h2
  refine in64 (by rw[hmid];omega) ?_
  refine⟨((i+j)/2+1,j),?_,⟨rfl,by dsimp only;omega,hj,fun a ha ha2=>?_,hhi⟩,⟨Tq,Tq,Tq,Tq,?_,Tq,Tv⟩,Tv⟩
  ·show j-((i+j)/2+1)<j-i
   omega
  ·have:=hmono a ((i+j)/2) ha hkl (by dsimp only at ha2;omega)
   omega
  ·dsimp only
   exact(congrArg (fun n:Int=>LV.le (vint .i64 (n+1)) (.av (int (((i+j)/2+1:Nat):Int)))) hmid).mpr (Tq)
 ·have h2:¬l[(i+j)/2].id<id:=fun hh=>h2 (hc.2 hh)
  refine⟨(i,(i+j)/2),?_,⟨rfl,hk2,by dsimp only;omega,hlo,fun a ha ha2=>?_⟩,⟨Tq,Tq,Tq,Tq,Tq,?_,Tv⟩,Tv⟩
  ·show(i+j)/2-i<j-i
   omega
  ·have:=hmono ((i+j)/2) a hkl ha (by dsimp only at ha2;omega)
   omega
  ·dsimp only
   exact(congrArg (fun n:Int=>LV.le (vint .i64 n) (.av (int (((i+j)/2:Nat):Int)))) hmid).mpr (Tq)
theorem zm5(l:List Unt)(hl:l.length<=1000000000000)(hr:yh l)(id:Int)(st:Store)(R:AV->Store->Prop)
  (h:∀i,isAt l id i->∀z:Bool,(z=true↔∃hi:i<l.length,l[i].id=id)->R (.tup [int (i:Nat),V.bool z]) st):ACalls Tryz.prog 87 [lst 10 untC l,int id] st R:=by
 refine Qa (c:=cfg 11) zc Tryz.func87 ?_
 exact ynk l hl hr id _ _ fun i hi z hz=>ret (h i hi z hz)
theorem yni{F S:Store}{p:Nat}{l:List Ent}(hc:CellsOf F p l)(hd:Disj F S)(hl:l.length<=1000000000)(hok:∀e∈l,e.2.ok)(id:Int)(R:AV->Store->Prop)
  (h:∀F',CellsOf F' p (yn l id)->Disj F' S->R (V.bool (l.find? (atId id)).isSome) (F'.un S)):ACalls Tryz.prog 164 [ptr p,int id] (F.un S) R:=
 ACalls.frame (R:=fun r a'=>r=V.bool (l.find? (atId id)).isSome/\CellsOf a' p (yn l id)) hd (zb7 hc hl hok id _ fun a' ha'=>⟨rfl,ha'⟩) fun r a' ⟨h1,h2⟩ hd'=>h1▸h a' h2 hd'
theorem ysz{F S:Store}{p:Nat}{l:List Ent}(hc:CellsOf F p l)(hd:Disj F S)(hl:l.length<=1000000000)(hok:∀e∈l,e.2.ok)(id:Int)(pos:Vc)(hpos:pos.ok)(R:AV->Store->Prop)
  (h:∀F',CellsOf F' p (yn l id++[(id,pos)])->Disj F' S->R (.tup []) (F'.un S)):ACalls Tryz.prog 133 [ptr p,int id,.agg (vecC pos)] (F.un S) R:=
 ACalls.frame (R:=fun r a'=>r=.tup []/\CellsOf a' p (yn l id++[(id,pos)])) hd (zm0 hc hl hok id pos hpos _ fun a' ha'=>⟨rfl,ha'⟩) fun r a' ⟨h1,h2⟩ hd'=>h1▸h a' h2 hd'
theorem yof{F S:Store}{p:Nat}{l:List Ent}(hc:CellsOf F p l)(hd:Disj F S)(hl:l.length<=1000000000)(hok:∀e∈l,e.2.ok){q:Vc}(hq:q.ok){r:Int}(hr:yq r)(R:AV->Store->Prop)
  (h:∀F' N v ns,CellsOf F' p l->Disj F' N->Disj F' S->Disj N S->Ints N v ns->zqj l q r ns->R v ((F'.un N).un S)):ACalls Tryz.prog 180 [ptr p,.agg (vecC q),int r] (F.un S) R:=
 ACalls.frame (R:=fun v a'=>∃F' N ns,a'=F'.un N/\CellsOf F' p l/\Disj F' N/\Ints N v ns/\zqj l q r ns) hd (zj3 hc hl hok hq hr _ fun F' N v ns h1 h2 h3 h4=>⟨F',N,ns,rfl,h1,h2,h3,h4⟩)
  fun v a' ⟨F',N,ns,h1,h2,h3,h4,h5⟩ hd'=>by subst h1;exact h F' N v ns h2 h3 (disj_un.1 hd').1 (disj_un.1 hd').2 h4 h5
def stC(w:Wld)(o0 o1 o2:AV)(p:Nat):List AV:=wldC w++[o0,o1,o2,ptr p]
def stS(s:Nat)(w:Wld)(o0 o1 o2:AV)(p:Nat):Store:=Store.empty.setObj s (.cells (stC w o0 o1 o2 p))
def opOK(w:Wld)(c:Int)(o:AV):Prop:=o=.s (.slice none 0 0)\/o=opV w.G w.B c
structure StandAt(F:Store)(s p:Nat)(w:Wld)(L:List Ent)(o0 o1 o2:AV):Prop where
 hc:CellsOf F p L
 hd:Disj F (stS s w o0 o1 o2 p)
 h0:opOK w 0 o0
 h1:opOK w 1 o1
 h2:opOK w 2 o2
theorem zbn(s:Nat)(w:Wld)(o0 o1 o2:AV)(p:Nat):(stS s w o0 o1 o2 p).obj s=some (.cells (stC w o0 o1 o2 p)):=zb _ _ _
theorem stS_has{s:Nat}{w:Wld}{o0 o1 o2:AV}{p i:Nat}:(stS s w o0 o1 o2 p).has i↔i=s:=by
 unfold Store.has stS
 constructor
 ·rintro(h|h)
  ·apply Decidable.byContradiction
   intro hn
   rw[zd hn]at h
   exact h rfl
  ·exact absurd rfl h
 ·rintro rfl
  exact .inl (by rw[zb];simp)
theorem zms{F:Store}{s:Nat}{w:Wld}{o0 o1 o2 q0 q1 q2:AV}{p:Nat}(h:Disj F (stS s w o0 o1 o2 p)):Disj F (stS s w q0 q1 q2 p):=fun i h1 h2=>h i h1 (stS_has.2 (stS_has.1 h2))
theorem zic{l:List Unt}(hr:yh l){a b:Nat}(hab:a<b)(hb:b<l.length):(l[a]'(by omega)).id<l[b].id:=by
 induction b with
 |zero=>omega
 |succ b ih=>
  have h3:=hr (b+1) hb (by omega)
  simp only[Nat.add_sub_cancel]at h3
  by_cases e:a=b
  ·subst e;exact h3
  ·have:=ih (by omega) (by omega)
   omega
theorem zz2(w:Wld)(hU:w.U.length<=1000000)(hn:∀u∈w.U,u.pos.ok)(R:AV->Store->Prop)
  (h:∀F s p L o0 o1 o2,StandAt F s p w L o0 o1 o2->L.length<=w.U.length->(yh w.U->∀e,e∈L↔∃u∈w.U,u.inn=0/\e=(u.id,u.pos))->R (ptr s) (F.un (stS s w o0 o1 o2 p))):ACalls Tryz.prog 86 [.agg (wldC w)] Store.empty R:=by
 refine Qa (c:=cfg 31 [9] []) zc Tryz.func86 ?_
 refine Qc zc zyy ?_
 refine⟨ze9 _ (fun F p hc=>⟨Qe,?_⟩),Tv⟩
 refine⟨fun s hs=>⟨Tv,?_⟩,Tv⟩
 refine⟨⟨Tv,?_⟩,Tv⟩
 have e0:F.setObj s (.cells (stC w (.s (.slice none 0 0)) (.s (.slice none 0 0)) (.s (.slice none 0 0)) p))=F.un (stS s w (.s (.slice none 0 0)) (.s (.slice none 0 0)) (.s (.slice none 0 0)) p):=by
  exact zi F Store.empty s _
 have h0:StandAt F s p w [] (.s (.slice none 0 0)) (.s (.slice none 0 0)) (.s (.slice none 0 0)):=⟨hc,fun i h1 h2=>by
  have:=stS_has.1 h2
  subst this
  exact(fresh_iff.1 hs) h1,.inl rfl,.inl rfl,.inl rfl⟩
 refine AWp.loop (σ:=Nat×Store×List Ent) ⟨fun q=>[(3,.av (ptr s)),(11,.av (lst 10 untC w.U)),(12,.av (int (w.U.length:Nat))),(13,.av (int (q.1:Nat)))],fun _=>[],
  fun q st'=>st'=q.2.1.un (stS s w (.s (.slice none 0 0)) (.s (.slice none 0 0)) (.s (.slice none 0 0)) p)/\StandAt q.2.1 s p w q.2.2 (.s (.slice none 0 0)) (.s (.slice none 0 0)) (.s (.slice none 0 0))/\q.1<=w.U.length/\q.2.2.length<=q.1/\(∀e∈q.2.2,e.2.ok)/\(yh w.U->∀e,e∈q.2.2↔∃u∈w.U.take q.1,u.inn=0/\e=(u.id,u.pos)),fun q=>w.U.length-q.1⟩ zc ?_ ?_
 ·refine⟨(0,F,[]),Tv,⟨e0,h0,Nat.zero_le _,Nat.le_refl _,fun e he=>(by cases he),fun _ e=>(by simp)⟩,⟨Tq,Tq,?_,Tq,Tv⟩,Tv⟩
  rw[<-zk (f:=untC) w.U];exact Tq
 rintro⟨i,F1,L⟩ st' ⟨rfl,hS,hi,hL,hok,hmem⟩
 dsimp only at hS hi hL hok hmem⊢
 refine bcd (fun h1=>?_) (fun h1=>?_)
 rotate_left
 ·have:i=w.U.length:=by omega
  subst this
  rw[List.take_length]at hmem
  exact ret (h F1 s p L _ _ _ hS hL hmem)
 have hlt:i<w.U.length:=by omega
 refine⟨i,rfl,za _ (zj hlt) ?_⟩
 have hn2:=hn w.U[i] (List.getElem_mem hlt)
 refine bceq (fun c1=>?_) (fun c1=>?_)
 ·refine Qc zc zyx ?_
  refine za (o:=(F1.un (stS s w _ _ _ p)).obj s) _ (un_r (zbn s w _ _ _ p)) ?_
  refine⟨ysz hS.hc hS.hd (by omega) hok w.U[i].id w.U[i].pos hn2 _ (fun F2 h2 h3=>⟨Tv,?_⟩),Tv⟩
  have hlen:(yn L w.U[i].id++[(w.U[i].id,w.U[i].pos)]).length<=i+1:=by
   rw[List.length_append]
   have:(yn L w.U[i].id).length<=L.length:=List.length_filter_le _ _
   simp only[List.length_singleton];omega
  refine Qd ?_
  refine⟨(i+1,F2,_),?_,⟨rfl,⟨h2,h3,.inl rfl,.inl rfl,.inl rfl⟩,by dsimp only;omega,hlen,fun e he=>?_,fun hr e=>?_⟩,⟨Tq,Tq,Tq,Tq,Tv⟩,Tv⟩
  ·show w.U.length-(i+1)<w.U.length-i
   omega
  ·rcases List.mem_append.1 he with he|he
   ·exact hok e (mem_dropId.1 he).1
   ·simp at he;subst he;exact hn2
  ·dsimp only
   rw[List.take_succ_eq_append_getElem hlt,List.mem_append,mem_dropId,hmem hr e]
   constructor
   ·rintro(⟨⟨u,hu,h4⟩,_⟩|he)
    ·exact⟨u,List.mem_append.2 (.inl hu),h4⟩
    ·simp at he
     exact⟨w.U[i],List.mem_append.2 (.inr (by simp)),c1,he⟩
   ·rintro⟨u,hu,h4,h5⟩
    rcases List.mem_append.1 hu with hu|hu
    ·refine .inl ⟨⟨u,hu,h4,h5⟩,?_⟩
     obtain⟨j,hj,rfl⟩:=List.getElem_of_mem hu
     rw[List.length_take]at hj
     rw[List.getElem_take]at h5
     have:=zic hr (a:=j) (b:=i) (by omega) hlt
     subst h5
     show w.U[j].id≠w.U[i].id
     omega
    ·simp at hu
     subst hu
     exact .inr (by simp[h5])
 ·refine Qd ?_
  refine⟨(i+1,F1,L),?_,⟨rfl,hS,by dsimp only;omega,by dsimp only;omega,hok,fun hr e=>?_⟩,⟨Tq,Tq,Tq,Tq,Tv⟩,Tv⟩
  ·show w.U.length-(i+1)<w.U.length-i
   omega
  ·dsimp only
   rw[hmem hr e,List.take_succ_eq_append_getElem hlt]
   constructor
   ·rintro⟨u,hu,h3⟩;exact⟨u,List.mem_append.2 (.inl hu),h3⟩
   ·rintro⟨u,hu,h3,h4⟩
    rcases List.mem_append.1 hu with hu|hu
    ·exact⟨u,hu,h3,h4⟩
    ·simp at hu
     subst hu
     exact absurd h3 c1
theorem zb3{g:Gnd}(hg:gndP g)(l:List Bld)(c:Int):∃x y,opV g l c=.lst 1 (x::y) none:=by
 have ha:=zr hg
 unfold opV lst
 cases h:rws zak (blL g.T.length (yl g l c))with
 |nil=>
  have:=zk (f:=zak) (blL g.T.length (yl g l c))
  rw[h,yu]at this
  simp at this
  omega
 |cons x y=>exact⟨x,y,rfl⟩
theorem zdi{v:AV}(h:∃x y,v=.lst 1 (x::y) none):cellsOf v=some [v]/\v.one=true:=by
 obtain⟨x,y,rfl⟩:=h
 exact⟨rfl,rfl⟩
theorem zqu{F:Store}{s p:Nat}{w:Wld}{L:List Ent}{o0 o1 o2:AV}(hS:StandAt F s p w L o0 o1 o2)(hg:gndP w.G)(hB:w.B.length<=1000000000000)(hb:∀b∈w.B,bldP b/\onP w.G b)(c:Int)(hc:c=0\/c=1\/c=2)(R:AV->Store->Prop)
  (h:∀q0 q1 q2,StandAt F s p w L q0 q1 q2->R (opV w.G w.B c) (F.un (stS s w q0 q1 q2 p))):ACalls Tryz.prog 162 [ptr s,int c] (F.un (stS s w o0 o1 o2 p)) R:=by
 have ho:=un_r (a:=F) (zbn s w o0 o1 o2 p)
 obtain⟨x0,y0,hne0⟩:=zb3 hg w.B 0
 obtain⟨x1,y1,hne1⟩:=zb3 hg w.B 1
 obtain⟨x2,y2,hne2⟩:=zb3 hg w.B 2
 rcases hc with rfl|rfl|rfl
 ·rcases hS.h0 with e|e
  ·subst e
   refine Qa (c:=cfg 35) zc Tryz.func162 ?_
   refine⟨0,rfl,by decide,?_⟩
   refine za (o:=(F.un (stS s w _ _ _ p)).obj s) _ ho ?_
   refine Qc zc zc4 ?_
   refine za (o:=(F.un (stS s w _ _ _ p)).obj s) _ ho ?_
   refine za (o:=(F.un (stS s w _ _ _ p)).obj s) _ ho ?_
   refine⟨jx w.G hg w.B hB hb 0 _ _ ⟨Tv,?_⟩,Tv⟩
   refine⟨0,rfl,by decide,?_⟩
   have ho2:=un_r (a:=F) (zbn s w (opV w.G w.B 0) o1 o2 p)
   have hc2:=zdi (zb3 hg w.B 0)
   refine⟨?_,Tv⟩
   refine za _ rfl (zv rfl (zy (v:=opV w.G w.B 0) rfl rfl rfl rfl ?_))
   refine zh (i:=ti60) (v:=opV w.G w.B 0) (b:=s) (o:=0+8+0*ti60.size) (l:=stC w _ o1 o2 p) (st2:=F.un (stS s w (opV w.G w.B 0) o1 o2 p)) hc2.1 hc2.2 rfl ho (show 8+1<=12 by decide) ?_ ?_
   ·rw[zi]
    unfold stS
    rw[zg]
    rfl
   refine⟨Tv,?_⟩
   refine⟨0,rfl,by decide,?_⟩
   refine za (o:=(F.un (stS s w _ _ _ p)).obj s) _ ho2 ?_
   exact ret (h _ _ _ ⟨hS.hc,zms hS.hd,.inr rfl,hS.h1,hS.h2⟩)
  ·rw[hne0]at e
   subst e
   refine Qa (c:=cfg 35) zc Tryz.func162 ?_
   refine⟨0,rfl,by decide,?_⟩
   refine za (o:=(F.un (stS s w _ _ _ p)).obj s) _ ho ?_
   refine fun bb hbb=>?_
   have hbf:bb=false:=by
    cases bb with
    |true=>cases hbb rfl
    |false=>rfl
   subst hbf
   refine⟨0,rfl,by decide,?_⟩
   refine za (o:=(F.un (stS s w _ _ _ p)).obj s) _ ho ?_
   refine ret ?_
   have:=h _ _ _ hS
   rw[hne0]at this
   exact this
 ·rcases hS.h1 with e|e
  ·subst e
   refine Qa (c:=cfg 35) zc Tryz.func162 ?_
   refine⟨1,rfl,by decide,?_⟩
   refine za (o:=(F.un (stS s w _ _ _ p)).obj s) _ ho ?_
   refine Qc zc zc4 ?_
   refine za (o:=(F.un (stS s w _ _ _ p)).obj s) _ ho ?_
   refine za (o:=(F.un (stS s w _ _ _ p)).obj s) _ ho ?_
   refine⟨jx w.G hg w.B hB hb 1 _ _ ⟨Tv,?_⟩,Tv⟩
   refine⟨1,rfl,by decide,?_⟩
   have ho2:=un_r (a:=F) (zbn s w o0 (opV w.G w.B 1) o2 p)
   have hc2:=zdi (zb3 hg w.B 1)
   refine⟨?_,Tv⟩
   refine za _ rfl (zv rfl (zy (v:=opV w.G w.B 1) rfl rfl rfl rfl ?_))
   refine zh (i:=ti60) (v:=opV w.G w.B 1) (b:=s) (o:=0+8+1*ti60.size) (l:=stC w o0 _ o2 p) (st2:=F.un (stS s w o0 (opV w.G w.B 1) o2 p)) hc2.1 hc2.2 rfl ho (show 9+1<=12 by decide) ?_ ?_
   ·rw[zi]
    unfold stS
    rw[zg]
    rfl
   refine⟨Tv,?_⟩
   refine⟨1,rfl,by decide,?_⟩
   refine za (o:=(F.un (stS s w _ _ _ p)).obj s) _ ho2 ?_
   exact ret (h _ _ _ ⟨hS.hc,zms hS.hd,hS.h0,.inr rfl,hS.h2⟩)
  ·rw[hne1]at e
   subst e
   refine Qa (c:=cfg 35) zc Tryz.func162 ?_
   refine⟨1,rfl,by decide,?_⟩
   refine za (o:=(F.un (stS s w _ _ _ p)).obj s) _ ho ?_
   refine fun bb hbb=>?_
   have hbf:bb=false:=by
    cases bb with
    |true=>cases hbb rfl
    |false=>rfl
   subst hbf
   refine⟨1,rfl,by decide,?_⟩
   refine za (o:=(F.un (stS s w _ _ _ p)).obj s) _ ho ?_
   refine ret ?_
   have:=h _ _ _ hS
   rw[hne1]at this
   exact this
 ·rcases hS.h2 with e|e
  ·subst e
   refine Qa (c:=cfg 35) zc Tryz.func162 ?_
   refine⟨2,rfl,by decide,?_⟩
   refine za (o:=(F.un (stS s w _ _ _ p)).obj s) _ ho ?_
   refine Qc zc zc4 ?_
   refine za (o:=(F.un (stS s w _ _ _ p)).obj s) _ ho ?_
   refine za (o:=(F.un (stS s w _ _ _ p)).obj s) _ ho ?_
   refine⟨jx w.G hg w.B hB hb 2 _ _ ⟨Tv,?_⟩,Tv⟩
   refine⟨2,rfl,by decide,?_⟩
   have ho2:=un_r (a:=F) (zbn s w o0 o1 (opV w.G w.B 2) p)
   have hc2:=zdi (zb3 hg w.B 2)
   refine⟨?_,Tv⟩
   refine za _ rfl (zv rfl (zy (v:=opV w.G w.B 2) rfl rfl rfl rfl ?_))
   refine zh (i:=ti60) (v:=opV w.G w.B 2) (b:=s) (o:=0+8+2*ti60.size) (l:=stC w o0 o1 _ p) (st2:=F.un (stS s w o0 o1 (opV w.G w.B 2) p)) hc2.1 hc2.2 rfl ho (show 10+1<=12 by decide) ?_ ?_
   ·rw[zi]
    unfold stS
    rw[zg]
    rfl
   refine⟨Tv,?_⟩
   refine⟨2,rfl,by decide,?_⟩
   refine za (o:=(F.un (stS s w _ _ _ p)).obj s) _ ho2 ?_
   exact ret (h _ _ _ ⟨hS.hc,zms hS.hd,hS.h0,hS.h1,.inr rfl⟩)
  ·rw[hne2]at e
   subst e
   refine Qa (c:=cfg 35) zc Tryz.func162 ?_
   refine⟨2,rfl,by decide,?_⟩
   refine za (o:=(F.un (stS s w _ _ _ p)).obj s) _ ho ?_
   refine fun bb hbb=>?_
   have hbf:bb=false:=by
    cases bb with
    |true=>cases hbb rfl
    |false=>rfl
   subst hbf
   refine⟨2,rfl,by decide,?_⟩
   refine za (o:=(F.un (stS s w _ _ _ p)).obj s) _ ho ?_
   refine ret ?_
   have:=h _ _ _ hS
   rw[hne2]at this
   exact this
theorem zu7{F:Store}{s p:Nat}{w:Wld}{L:List Ent}{o0 o1 o2:AV}(hS:StandAt F s p w L o0 o1 o2)(hr:yh w.U)(hU:w.U.length<=1000000)(hn:∀u∈w.U,u.pos.ok)(hLl:L.length<=w.U.length)(hL:zab w L)(q:Vc)(hq:q.ok)(r:Int)(hrr:0<r/\r<=262144)(R:AV->Store->Prop)
  (h:∀F' us,StandAt F' s p w L o0 o1 o2->zrj w q (r+81920) us->us.length<=1000000->R (lst 10 untC us) (F'.un (stS s w o0 o1 o2 p))):ACalls Tryz.prog 138 [ptr s,.agg (vecC q),int r] (F.un (stS s w o0 o1 o2 p)) R:=by
 have ho:=un_r (a:=F) (zbn s w o0 o1 o2 p)
 refine Qa (c:=cfg 47) zc Tryz.func138 ?_
 refine Qc zc zto ?_
 refine za (o:=(F.un (stS s w _ _ _ p)).obj s) _ ho ?_
 refine Qd ?_
 refine⟨yof hS.hc hS.hd (by omega) (zfr hL hn) hq (r:=r+81920) ⟨by omega,by omega⟩ _ (fun F' N v ns g1 g2 g3 g4 g5 g6=>⟨Tv,?_⟩),Tv⟩
 have hS':StandAt F' s p w L o0 o1 o2:=⟨g1,g3,hS.h0,hS.h1,hS.h2⟩
 have ho':((F'.un N).un (stS s w o0 o1 o2 p)).obj s=some (.cells (stC w o0 o1 o2 p)):=un_r (zbn s w o0 o1 o2 p)
 have g4':Disj (F'.un N) (stS s w o0 o1 o2 p):=disj_un.2 ⟨g3,g4⟩
 have hv:∃oa cap,v=.s (.slice oa ns.length cap)/\∀i,i<ns.length->∃b J,oa=some ⟨b,0,none⟩/\((F'.un N).un (stS s w o0 o1 o2 p)).obj b=some (.cells (ns.map aI++J)):=by
  rcases zaf g5 with⟨rfl,rfl⟩|⟨b,cap,J,rfl,hob,_⟩
  ·exact⟨none,0,rfl,fun i hi=>absurd hi (Nat.not_lt_zero i)⟩
  ·exact⟨_,cap,rfl,fun i _=>⟨b,J,rfl,un_l g4' (un_r hob)⟩⟩
 obtain⟨oa,cap,rfl,hget⟩:=hv
 have hnl:ns.length<=w.U.length:=by
  have:=List.Nodup.length_le_of_subset (l₂:=L.map (·.1)) (g6.1.imp fun h=>by omega) (fun id hid=>by
   obtain⟨e,he,h2,_⟩:=(g6.2 id).1 hid
   exact List.mem_map.2 ⟨e,he,h2⟩)
  rw[List.length_map]at this
  omega
 have hfin:∀us:List Unt,us.map (·.id)=ns->(∀u∈us,u∈w.U/\u.inn=0)->R (lst 10 untC us) (F'.un (stS s w o0 o1 o2 p)):=fun us e1 e2=>
  h F' us hS' (zt1 hr hL g6 e1 e2) (by
   have:=congrArg List.length e1
   rw[List.length_map]at this
   omega)
 have hback:=zpa (S:=stS s w o0 o1 o2 p) g2
 generalize(F'.un N).un (stS s w o0 o1 o2 p)=st1 at*
 refine AWp.loop (σ:=Nat×AV×List Unt) ⟨fun x=>[(0,.av (ptr s)),(6,.av x.2.1),(18,.av (.s (.slice oa ns.length cap))),(19,.av (int (ns.length:Nat))),(20,.av (int (x.1:Nat)))],fun _=>[],
  fun x st'=>x.1<=ns.length/\App 10 st1 x.2.1 (rws untC x.2.2) st'/\x.2.2.map (·.id)=ns.take x.1/\∀u∈x.2.2,u∈w.U/\u.inn=0,fun x=>ns.length-x.1⟩ zc ?_ ?_
 ·exact⟨(0,_,[]),Tv,⟨Nat.zero_le _,App.start 10 st1,rfl,fun u hu=>(by cases hu)⟩,⟨Tq,Tq,Tq,Tq,Tq,Tv⟩,Tv⟩
 rintro⟨i,v2,us⟩ st' ⟨hi,ha,hus,hin⟩
 dsimp only at hi ha hus hin⊢
 refine bcd (fun h1=>?_) (fun h1=>?_)
 rotate_left
 ·have:i=ns.length:=by omega
  subst this
  rw[List.take_length]at hus
  exact⟨_,_,AV.le_trans ha.le (Tt),ha.has.trans hback,hfin us hus hin⟩
 have hlt:i<ns.length:=by omega
 obtain⟨b,J,rfl,hob⟩:=hget i hlt
 have hob':st'.obj b=some (.cells (ns.map aI++J)):=by rw[ha.obj];exact hob
 have hos:st'.obj s=some (.cells (stC w o0 o1 o2 p)):=by rw[ha.obj];exact ho'
 refine⟨i,rfl,hlt,?_⟩
 refine za (o:=st'.obj b) _ hob' ?_
 refine za (o:=List.head? _) (int ns[i]) (by
  rw[List.head?_drop,show 0+i*ti2.size=i from by show 0+i*1=i;omega,List.getElem?_append_left (by simpa using hlt),List.getElem?_map,List.getElem?_eq_getElem hlt];rfl) ?_
 refine za (o:=st'.obj s) _ hos ?_
 refine zm5 w.U (by omega) hr ns[i] _ _ (fun k hk z hz=>?_)
 obtain⟨e,he,hid,_⟩:=(g6.2 ns[i]).1 (List.getElem_mem hlt)
 obtain⟨u,hu,hu0,rfl⟩:=(hL e).1 he
 have hfound:∃hk2:k<w.U.length,w.U[k].id=ns[i]:=by
  obtain⟨j,hj,rfl⟩:=List.getElem_of_mem hu
  have h5:j>=k:=Decidable.byContradiction fun hn2=>by
   have:=hk.2.1 j hj (by omega)
   have h6:(w.U[j]).id=ns[i]:=hid
   omega
  have h7:k<w.U.length:=by omega
  refine⟨h7,?_⟩
  have h8:=hk.2.2 k h7 (Nat.le_refl _)
  have h6:(w.U[j]).id=ns[i]:=hid
  by_cases e:k=j
  ·subst e;exact h6
  ·have:=xe hr (show k<j by omega) hj
   omega
 obtain⟨hk2,hk3⟩:=hfound
 refine za (o:=st'.obj s) _ hos ?_
 refine⟨k,rfl,za _ (zj hk2) ?_⟩
 refine⟨by decide,?_⟩
 have hul:us.length=i:=by
  have:=congrArg List.length hus
  rw[List.length_map,List.length_take]at this
  omega
 refine xi (ie:=ti50) (rows':=[untC w.U[k]]) ha ?_ ?_ ⟨?_,?_⟩ (fun v3 st3 ha3=>?_)
 ·rfl
 ·rfl
 ·simp only[zk,List.length_singleton,ti50];omega
 ·simp only[zk,List.length_singleton];omega
 refine Qd ?_
 have huk:w.U[k]=u:=vf hr (List.getElem_mem hk2) hu (by rw[hk3];exact hid.symm)
 refine⟨(i+1,v3,us++[w.U[k]]),?_,⟨by dsimp only;omega,?_,?_,fun u2 hu2=>?_⟩,⟨Tq,Tq,Tq,Tq,Tq,Tv⟩,Tv⟩
 ·show ns.length-(i+1)<ns.length-i
  omega
 ·dsimp only
  unfold rws at ha3⊢
  rw[List.map_append]
  exact ha3
 ·dsimp only
  rw[List.map_append,hus,List.take_succ_eq_append_getElem hlt]
  simp[hk3]
 ·rcases List.mem_append.1 hu2 with h9|h9
  ·exact hin u2 h9
  ·simp at h9
   subst h9
   rw[huk]
   exact⟨hu,hu0⟩
theorem zqx{F:Store}{s p:Nat}{w:Wld}{L:List Ent}{o0 o1 o2:AV}(hS:StandAt F s p w L o0 o1 o2)(hg:gndP w.G)(hB:w.B.length<=1000000000000)(hb:∀b∈w.B,bldP b/\onP w.G b)(hr:yh w.U)(hU:w.U.length<=1000000)(hn:∀u∈w.U,u.pos.ok)(hLl:L.length<=w.U.length)(hL:zab w L)
  (id k:Int) (q:Vc) (hq:q.ok) (R:AV->Store->Prop)
  (h:∀z F' q0 q1 q2,(z=true↔yv w id k q)->StandAt F' s p w L q0 q1 q2->R (V.bool z) (F'.un (stS s w q0 q1 q2 p))):ACalls Tryz.prog 110 [ptr s,int id,int k,.agg (vecC q)] (F.un (stS s w o0 o1 o2 p)) R:=by
 have ho:=un_r (a:=F) (zbn s w o0 o1 o2 p)
 have hk:=zb5 k
 have hc:=zis k
 refine Qa (c:=cfg 56) zc Tryz.func110 ?_
 refine zq k _ _ ?_
 refine Qc zc ztr ?_
 refine za (o:=(F.un (stS s w _ _ _ p)).obj s) _ ho ?_
 refine⟨zqu hS hg hB hb (kCls k) hc _ (fun a0 a1 a2 hS1=>⟨?_,?_⟩),Tv⟩
 ·have ho1:=un_r (a:=F) (zbn s w a0 a1 a2 p)
  repeat(first|exact Tv|refine⟨rfl,?_⟩|refine⟨za (o:=(F.un (stS s w a0 a1 a2 p)).obj s) _ ho1 rfl,?_⟩)
 refine⟨zpn w.G hg w.B (kCls k) q hq (kRad k) ⟨hk.1,by omega⟩ _ _ (fun z hz=>⟨Tv,?_⟩),Tv⟩
 refine yo ?_
 refine ze (fun c1=>?_) (fun c1=>ret (h false _ _ _ _ (by simp only[Bool.false_eq_true,false_iff];exact fun hh=>by have:=hz.2 hh.1;rw[this]at c1;cases c1) hS1))
 have hfree:=hz.1 c1
 refine zu7 hS1 hr hU hn hLl hL q hq (kRad k) ⟨hk.1,by omega⟩ _ (fun F' us hS2 hus hul=>?_)
 have hci:=zp2 (id:=id) hfree hus
 have no:¬yv w id k q->R (V.bool false) (F'.un (stS s w a0 a1 a2 p)):=fun hh=>h false _ _ _ _ (by simp only[Bool.false_eq_true,false_iff];exact hh) hS2
 refine AWp.loop (σ:=Nat) ⟨fun i=>[(1,.av (int id)),(7,.bx 7 0),(9,.bx 9 0),(32,.av (lst 10 untC us)),(33,.av (int (us.length:Nat))),(34,.av (int (i:Nat)))],fun _=>[(7,vecC q),(9,zd0 k)],
  fun i st'=>st'=F'.un (stS s w a0 a1 a2 p)/\i<=us.length/\∀j,(hj:j<us.length)->j<i->us[j].id≠id->zam q (kRad k) us[j].pos (kRad us[j].kind)=true,fun i=>us.length-i⟩ zc ?_ ?_
 ·refine⟨0,Tv,⟨rfl,Nat.zero_le _,fun j _ hj=>by omega⟩,⟨Tq,Tq,Tq,Tq,?_,Tq,Tv⟩,⟨rfl,rfl,Tv⟩⟩
  rw[<-zk (f:=untC) us];exact Tq
 rintro i st' ⟨rfl,hi,hall⟩
 refine bcd (fun h1=>?_) (fun h1=>?_)
 rotate_left
 ·refine ret (h true _ _ _ _ (by
   simp only[true_iff]
   refine hci.2 fun u hu hne=>?_
   obtain⟨j,hj,rfl⟩:=List.getElem_of_mem hu
   exact hall j hj (by omega) hne) hS2)
 have hlt:i<us.length:=by omega
 have hui:=(hus us[i]).1 (List.getElem_mem hlt)
 have next:(us[i].id≠id->zam q (kRad k) us[i].pos (kRad us[i].kind)=true)->∀j,(hj:j<us.length)->j<i+1->us[j].id≠id->zam q (kRad k) us[j].pos (kRad us[j].kind)=true:=fun hh j hj hji=>by
  by_cases e:j=i
  ·subst e;exact hh
  ·exact hall j hj (by omega)
 refine⟨i,rfl,za _ (zj hlt) ?_⟩
 refine Qc zc ztq ?_
 refine bcne (fun c2=>?_) (fun c2=>?_)
 ·refine⟨zq us[i].kind _ _ ⟨Qe,?_⟩,Tv⟩
  have hk2:=zb5 us[i].kind
  refine⟨zlk q (kRad k) us[i].pos (kRad us[i].kind) hq (hn _ hui.1.1) ⟨hk.1,by omega⟩ ⟨hk2.1,by omega⟩ _ _ ⟨Tv,?_⟩,Tv⟩
  refine yo ?_
  refine ze (fun c3=>?_) (fun c3=>?_)
  ·refine Qd ?_
   refine⟨i+1,?_,⟨rfl,by omega,next fun _=>c3⟩,⟨Tq,Tq,Tq,Tq,Tq,Tq,Tv⟩,⟨rfl,rfl,Tv⟩⟩
   show us.length-(i+1)<us.length-i
   omega
  ·refine ret (no fun hh=>?_)
   have:=hci.1 hh us[i] (List.getElem_mem hlt) c2
   rw[this]at c3;cases c3
 ·refine⟨⟨Qe,?_⟩,Tv⟩
  refine⟨⟨Tv,?_⟩,Tv⟩
  refine Qd ?_
  refine⟨i+1,?_,⟨rfl,by omega,next fun hne=>absurd c2 hne⟩,⟨Tq,Tq,Tq,Tq,Tq,Tq,Tv⟩,⟨rfl,rfl,Tv⟩⟩
  show us.length-(i+1)<us.length-i
  omega
theorem isT'{R:AV->Store->Prop}{b:Bool}{st:Store}(h:R (V.bool b) st)(hb:b=true):R (V.bool true) st:=by rw[hb]at h;exact h
theorem zpl(w:Wld)(b:Bld)(p:Nat)(st:Store)(hp:st.obj p=some (.cells (wldC w)))(R:AV->Store->Prop)(h:R (V.bool (decide (b.owner>w.players\/b.id>=w.next))) st):
  ACalls Tryz.prog 168 ([.agg (bldC b)]++[ptr p]) st R:=by
 refine Qa (c:=cfg 16) zc Tryz.func168 ?_
 refine za _ hp ?_
 refine bcd (fun c1=>ret (isT' h (decide_eq_true (.inl c1)))) (fun c1=>?_)
 refine za _ hp ?_
 refine ret ?_
 have e:decide (b.owner>w.players\/b.id>=w.next)=decide (b.id>=w.next):=by
  rw[Bool.eq_iff_iff,decide_eq_true_iff,decide_eq_true_iff];omega
 rw[e]at h
 exact h
set_option maxRecDepth 10000 in
theorem zwz(w:Wld)(hw:w.fits)(st:Store)(R:AV->Store->Prop)(h:∀z:Bool,(z=true↔zo9 w)->R (V.bool z) st):ACalls Tryz.prog 113 [.agg (wldC w)] st R:=by
 obtain⟨hw1,hw2,hw3⟩:=hw
 refine Qa (c:=cfg 54 [1] []) zc Tryz.func113 ?_
 intro p hp
 have ho:(st.setObj p (.cells (wldC w))).obj p=some (.cells (wldC w)):=zb _ _ _
 have nof:¬zo9 w->∃r st',AV.le (V.bool false) r/\(st.setObj p (.cells (wldC w))).Has st'/\R r st':=fun hn=>kx (Tt) (qi hp.1) (h false (by simp only[Bool.false_eq_true,false_iff];exact hn))
 refine za _ ho ?_
 refine bcd (fun c1=>nof fun q=>by have:=q.1;omega) (fun c1=>?_)
 refine za _ ho ?_
 refine bcd (fun c2=>nof fun q=>by have:=q.1;omega) (fun c2=>?_)
 refine za _ ho ?_
 refine bcd (fun c3=>nof fun q=>by have:=q.1;omega) (fun c3=>?_)
 refine za _ ho ?_
 refine bcd (fun c4=>nof fun q=>by have:=q.1;omega) (fun c4=>?_)
 refine za _ ho ?_
 refine bcd (fun c5=>nof fun q=>by have:=q.1;omega) (fun c5=>?_)
 refine za _ ho ?_
 refine bcd (fun c6=>nof fun q=>by have:=q.1;omega) (fun c6=>?_)
 refine za _ ho ?_
 refine zju w.G hw1 _ _ (fun z hz=>?_)
 refine yo ?_
 refine ze (fun c7=>?_) (fun c7=>nof fun q=>by have:=hz.2 q.2.1.1;rw[this]at c7;cases c7)
 have hg:=hz.1 c7
 refine za _ ho ?_
 refine za _ ho ?_
 refine zm1 w.G hg w.B hw2 _ _ (fun z hz=>?_)
 refine yo ?_
 refine ze (fun c8=>?_) (fun c8=>nof fun q=>by have:=hz.2 q.2.1.2.1;rw[this]at c8;cases c8)
 have hb:=hz.1 c8
 refine za _ ho ?_
 have hUl:((rws untC w.U).length:Int)=(w.U.length:Int):=by rw[zk]
 refine bcd (fun c9=>nof fun q=>by have:=q.2.1.2.2;omega) (fun c9=>?_)
 refine za _ ho ?_
 refine zg6 w.B hw2 _ _ (fun b=>decide (b.owner>w.players\/b.id>=w.next)) _ (fun b hb R h=>zpl w b p _ ho R h) _ ?_
 refine kx (Tt) (qi hp.1) (h _ ?_)
 rw[Bool.not_eq_true',List.any_eq_false]
 constructor
 ·intro hh
  refine⟨by omega,⟨hg,hb,by omega⟩,fun b hb2=>?_⟩
  have:=hh b hb2
  rw[decide_eq_true_iff]at this
  omega
 ·intro hh b hb2
  have:=hh.2.2 b hb2
  rw[decide_eq_true_iff]
  omega
def cntO(cs:List (Int×Int))(bs:List Nat)(clk:Nat):AObj:=.map (cs.map (entI int)) bs clk
def cntV(m:Nat):AV:=.s (.map (some m))
set_option maxHeartbeats 1000000 in
theorem zq5(w:Wld)(hU:w.U.length<=1000000)(hr:yh w.U)(st:Store)(R:AV->Store->Prop)(h:∀z:Bool,(z=true↔∀u∈w.U,u.inn≠0->zdl w u)->R (V.bool z) st):ACalls Tryz.prog 115 [.agg (wldC w)] st R:=by
 refine Qa (c:=cfg 85) zc Tryz.func115 ?_
 refine xa rfl (fun m hm=>?_)
 have hhas:∀x,(st.setObj m x).Has st:=fun x=>qi hm.1
 have nof:∀x,¬(∀u∈w.U,u.inn≠0->zdl w u)->∃r st',AV.le (V.bool false) r/\(st.setObj m x).Has st'/\R r st':=fun x hn=>kx (Tt) (hhas x) (h false (by simp only[Bool.false_eq_true,false_iff];exact hn))
 refine AWp.loop (σ:=Nat×List (Int×Int)×List Nat×Nat) ⟨fun x=>[(1,.bx 1 0),(3,.av (cntV m)),(11,.av (lst 10 untC w.U)),(12,.av (int (w.U.length:Nat))),(13,.av (int (x.1:Nat)))],fun _=>[(1,wldC w)],
  fun x st'=>x.1<=w.U.length/\st'=st.setObj m (cntO x.2.1 x.2.2.1 x.2.2.2)/\(∀id,id≠0->(getI x.2.1 id).getD 0=((inOf (w.U.take x.1) id).length:Int))/\zze w x.1,fun x=>w.U.length-x.1⟩ zc ?_ ?_
 ·refine⟨(0,[],[],0),Tv,⟨Nat.zero_le _,rfl,fun id _=>rfl,fun j _ hj=>by omega,fun x _ _=>(zrq _).1⟩,⟨Tq,Tq,Tq,?_,Tq,Tv⟩,⟨rfl,Tv⟩⟩
  rw[<-zk (f:=untC) w.U];exact Tq
 rintro⟨i,cs,bs,clk⟩ st' ⟨hi,rfl,hcnt,hup⟩
 dsimp only at hi hcnt hup⊢
 refine bcd (fun h1=>?_) (fun h1=>?_)
 rotate_left
 ·have:i=w.U.length:=by omega
  subst this
  exact kx (Tt) (hhas _) (h true (by simp only[true_iff];exact zvq hup))
 have hlt:i<w.U.length:=by omega
 have hui:=List.getElem_mem hlt
 refine⟨i,rfl,za _ (zj hlt) ?_⟩
 refine bceq (fun c1=>?_) (fun c1=>?_)
 ·refine Qd ?_
  refine⟨(i+1,cs,bs,clk),?_,⟨by dsimp only;omega,rfl,fun id hid=>?_,fun j hj hji hne=>?_,fun x hx hx0=>?_⟩,⟨Tq,Tq,Tq,Tq,Tq,Tv⟩,⟨rfl,Tv⟩⟩
  ·show w.U.length-(i+1)<w.U.length-i
   omega
  ·dsimp only
   rw[hcnt id hid,zcr hlt,if_neg (by rw[c1];omega)];omega
  ·by_cases e:j=i
   ·subst e;exact absurd c1 hne
   ·exact hup.1 j hj (by dsimp only at hji;omega) hne
  ·dsimp only
   rw[zcr hlt,if_neg (by rw[c1];omega)]
   have:=hup.2 x hx hx0
   omega
 refine zm5 w.U (by omega) hr w.U[i].inn _ _ (fun k hk z hz=>?_)
 have nou:∀x,¬zdl w w.U[i]->∃r st',AV.le (V.bool false) r/\(st.setObj m x).Has st'/\R r st':=fun x hn=>nof x fun hh=>hn (hh _ hui c1)
 have found:zdl w w.U[i]->z=true:=fun⟨x,hx,e,_⟩=>by
  obtain⟨j,hj,rfl⟩:=List.getElem_of_mem hx
  refine hz.2 ?_
  have h5:j>=k:=Decidable.byContradiction fun hn2=>by
   have:=hk.2.1 j hj (by omega)
   omega
  have h7:k<w.U.length:=by omega
  refine⟨h7,?_⟩
  have h8:=hk.2.2 k h7 (Nat.le_refl _)
  by_cases e2:k=j
  ·subst e2;exact e
  ·have:=xe hr (show k<j by omega) hj
   omega
 refine yo ?_
 refine ze (fun c2=>?_) (fun c2=>nou _ fun hh=>by rw[found hh]at c2;cases c2)
 obtain⟨hkl,hkid⟩:=hz.1 c2
 have uniq:zdl w w.U[i]->(w.U[k].inn=0/\w.U[k].owner=w.U[i].owner)/\((inOf w.U w.U[i].inn).length:Int)<=zbj w.U[k].kind:=fun⟨x,hx,e,e2,e3,_⟩=>by
  have:=vf hr hx (List.getElem_mem hkl) (by rw[e,hkid])
  subst this
  exact⟨e2,e3⟩
 refine zq w.U[i].kind _ _ ?_
 refine bcd (fun c3=>nou _ fun⟨x,_,_,_,_,e,_⟩=>by omega) (fun c3=>?_)
 have hroom:zbj w.U[i].kind=0:=by have:=zrq w.U[i].kind;omega
 refine yo ?_
 refine ze (fun c4=>?_) (fun c4=>nou _ fun⟨x,_,_,_,_,_,e,_⟩=>by rw[e]at c4;cases c4)
 have hpos:w.U[i].pos=(0,0):=by
  have:(w.U[i].pos.1==0&&(w.U[i].pos.2==0&&true))=true:=c4
  simp at this
  exact Prod.ext this.1 this.2
 refine bcne (fun c5=>nou _ fun⟨x,_,_,_,_,_,_,e,_⟩=>c5 e) (fun c5=>?_)
 refine bcne (fun c6=>nou _ fun⟨x,_,_,_,_,_,_,_,e⟩=>c6 e) (fun c6=>?_)
 refine⟨k,rfl,za _ (zj hkl) ?_⟩
 have hmo:(st.setObj m (cntO cs bs clk)).obj m=some (cntO cs bs clk):=zb _ _ _
 refine ya rfl (it:=ti166) (ie:=ti2) (ik:=ti2) rfl rfl rfl rfl hmo rfl (qA w.U[k].id) (fun e he=>?_) ?_
 ·obtain⟨e,_,rfl⟩:=List.mem_map.1 he
  rfl
 rw[vp]
 have hz0:w.U[k].id≠0:=by rw[hkid];exact c1
 have hcv:(Option.map int (getI cs w.U[k].id)).getD (zb0 ti2)=int ((inOf (w.U.take i) w.U[k].id).length:Int):=by
  rw[<-hcnt _ hz0]
  cases getI cs w.U[k].id<;>rfl
 rw[hcv]
 have hcl:(inOf (w.U.take i) w.U[k].id).length<=1000000:=by
  have h1:=zrw (l:=w.U) i w.U[k].id
  have h2:(inOf w.U w.U[k].id).length<=w.U.length:=by unfold inOf;rw[List.length_map];exact List.length_filter_le _ _
  omega
 refine Qd ?_
 refine qe (.inl rfl) rfl (it:=ti166) (ik:=ti2) rfl rfl rfl (es:=cs.map (entI int)) (bs:=bs) (clk:=clk) (k:=int w.U[k].id) (v:=int (((inOf (w.U.take i) w.U[k].id).length:Int)+1)) hmo rfl rfl (qA w.U[k].id) (fun e he=>?_) (fun e1 he hq=>?_) ?_
 ·obtain⟨e,_,rfl⟩:=List.mem_map.1 he
  rfl
 ·obtain⟨g1,_,rfl⟩:=List.mem_map.1 he
  have:w.U[k].id=g1.1:=by simpa [qA,entI,int]using hq
  show int g1.1=_
  rw[this]
 obtain⟨bs',clk',hput⟩:=ju int cs bs clk w.U[k].id (((inOf (w.U.take i) w.U[k].id).length:Int)+1)
 have hput:jk (cs.map (entI int)) bs clk (qA w.U[k].id) (int w.U[k].id) (int (((inOf (w.U.take i) w.U[k].id).length:Int)+1))=cntO (putI cs w.U[k].id (((inOf (w.U.take i) w.U[k].id).length:Int)+1)) bs' clk':=hput
 rw[hput,zg]
 have hmo2:(st.setObj m (cntO (putI cs w.U[k].id (((inOf (w.U.take i) w.U[k].id).length:Int)+1)) bs' clk')).obj m=some (cntO (putI cs w.U[k].id (((inOf (w.U.take i) w.U[k].id).length:Int)+1)) bs' clk'):=zb _ _ _
 have hlook:zdp false (zb0 ti2) (((putI cs w.U[k].id (((inOf (w.U.take i) w.U[k].id).length:Int)+1)).map (entI int)).find? (qA w.U[k].id))=int (((inOf (w.U.take i) w.U[k].id).length:Int)+1):=by
  rw[vp,js,if_pos rfl];rfl
 have hsucc:=zcr hlt w.U[k].id
 rw[if_pos hkid.symm]at hsucc
 have hcnt2:∀id,id≠0->(getI (putI cs w.U[k].id (((inOf (w.U.take i) w.U[k].id).length:Int)+1)) id).getD 0=((inOf (w.U.take (i+1)) id).length:Int):=fun id hid=>by
  rw[js]
  by_cases e:id=w.U[k].id
  ·rw[if_pos e,e,hsucc];rfl
  ·rw[if_neg e,hcnt id hid,zcr hlt,if_neg (by rw[<-hkid];exact Ne.symm e)];omega
 generalize putI cs w.U[k].id (((inOf (w.U.take i) w.U[k].id).length:Int)+1)=cs2 at*
 have over:zbj w.U[k].kind<((inOf (w.U.take i) w.U[k].id).length:Int)+1->¬zdl w w.U[i]:=fun hh hp=>by
  have h2:=(uniq hp).2
  have h3:=zrw (l:=w.U) (i+1) w.U[k].id
  rw[<-hkid]at h2
  omega
 have good:w.U[k].inn=0->w.U[k].owner=w.U[i].owner->((inOf (w.U.take i) w.U[k].id).length:Int)+1<=zbj w.U[k].kind->zze w (i+1):=fun e1 e2 e3=>by
  refine⟨fun j hj hji hne=>?_,fun x hx hx0=>?_⟩
  ·by_cases e:j=i
   ·subst e
    exact⟨w.U[k],List.getElem_mem hkl,hkid,⟨e1,e2⟩,hroom,hpos,c5,c6⟩
   ·exact hup.1 j hj (by omega) hne
  ·by_cases e:x.id=w.U[k].id
   ·have:=vf hr hx (List.getElem_mem hkl) e
    subst this
    omega
   ·rw[zcr hlt,if_neg (by rw[<-hkid];exact Ne.symm e)]
    have:=hup.2 x hx hx0
    omega
 refine Qc zc zy2 ?_
 refine bcne (fun c7=>?_) (fun c7=>?_)
 ·refine⟨⟨Qe,⟨⟨Qe,nou _ (fun hh=>c7 (uniq hh).1.1)⟩,Tv⟩⟩,⟨⟨Qe,⟨⟨Qe,nou _ (fun hh=>c7 (uniq hh).1.1)⟩,Tv⟩⟩,Tv⟩⟩
 refine bcne (fun c8=>?_) (fun c8=>?_)
 ·refine⟨⟨Qe,⟨⟨Qe,nou _ (fun hh=>c8 (uniq hh).1.2)⟩,Tv⟩⟩,⟨⟨Qe,⟨⟨Qe,nou _ (fun hh=>c8 (uniq hh).1.2)⟩,Tv⟩⟩,Tv⟩⟩
 refine⟨?_,?_,Tv⟩
 ·refine ya rfl (it:=ti166) (ie:=ti2) (ik:=ti2) rfl rfl rfl rfl hmo2 rfl (qA w.U[k].id) (fun e he=>by obtain⟨e,_,rfl⟩:=List.mem_map.1 he;rfl) ?_
  rw[hlook]
  refine⟨Qe,?_⟩
  refine⟨zq w.U[k].kind _ _ ⟨Qe,?_⟩,Tv⟩
  refine bcd (fun c9=>nou _ (over (by omega))) (fun c9=>?_)
  refine Qd ?_
  refine⟨(i+1,cs2,bs',clk'),?_,⟨by dsimp only;omega,rfl,hcnt2,good c7 c8 (by omega)⟩,⟨Tq,Tq,Tq,Tq,Tq,Tv⟩,⟨rfl,Tv⟩⟩
  show w.U.length-(i+1)<w.U.length-i
  omega
 ·refine zq w.U[k].kind _ _ ⟨Qe,?_⟩
  refine⟨?_,Tv⟩
  refine ya rfl (it:=ti166) (ie:=ti2) (ik:=ti2) rfl rfl rfl rfl hmo2 rfl (qA w.U[k].id) (fun e he=>by obtain⟨e,_,rfl⟩:=List.mem_map.1 he;rfl) ?_
  rw[hlook]
  refine⟨Qe,?_⟩
  refine bcd (fun c9=>nou _ (over (by omega))) (fun c9=>?_)
  refine Qd ?_
  refine⟨(i+1,cs2,bs',clk'),?_,⟨by dsimp only;omega,rfl,hcnt2,good c7 c8 (by omega)⟩,⟨Tq,Tq,Tq,Tq,Tq,Tv⟩,⟨rfl,Tv⟩⟩
  show w.U.length-(i+1)<w.U.length-i
  omega
def tkO(cs:List (Int×Bool))(bs:List Nat)(clk:Nat):AObj:=.map (cs.map (entI V.bool)) bs clk
set_option maxHeartbeats 1000000 in
theorem ysi(w:Wld)(hw:w.fits)(hn:∀u∈w.U,u.pos.ok):ACalls Tryz.prog 72 [.agg (wldC w)] Store.empty fun r _=>∃z,r=V.bool z/\(z=true↔mayP w):=by
 have no:¬mayP w->∃z,V.bool false=V.bool z/\(z=true↔mayP w):=fun hn=>⟨false,rfl,by simp only[Bool.false_eq_true,false_iff];exact hn⟩
 refine Qb (c:=cfg 87) zc Tryz.func72 ?_
 refine AWp.seq (AWp.of_vc zc ?_)
 refine AWp.seq (AWp.of_vc zc ?_)
 refine zwz w hw _ _ (fun z hz=>?_)
 refine yo ?_
 refine ze (fun c1=>?_) (fun c1=>ret (no fun q=>by have:=hz.2 q.1.1;rw[this]at c1;cases c1))
 have hh:=hz.1 c1
 have hg:=hh.2.1.1
 have hbl:=hh.2.1.2.1
 have hBl:w.B.length<=256:=hbl.1
 have hU:w.U.length<=4096:=hh.2.1.2.2
 have hbb:∀b∈w.B,bldP b/\onP w.G b:=fun b hb=>⟨(hbl.2.2.1 b hb).1,(hbl.2.2.1 b hb).2.1⟩
 refine AWp.seq (AWp.of_vc zc ?_)
 refine xa rfl (fun m hm=>?_)
 refine AWp.meetA (σ:=List (Int×Bool)×List Nat×Nat) ⟨fun _=>[(1,.bx 1 0),(3,.av (cntV m))],fun _=>[(1,wldC w)],fun x st'=>st'=Store.empty.setObj m (tkO x.1 x.2.1 x.2.2)/\∀id,(getI x.1 id).getD false=true↔∃b∈w.B,b.id=id⟩ ?_ ?_
 ·refine AWp.of_vc zc ?_
  refine AWp.loop (σ:=Nat×List (Int×Bool)×List Nat×Nat) ⟨fun x=>[(1,.bx 1 0),(3,.av (cntV m)),(16,.av (lst 6 bldC w.B)),(17,.av (int (w.B.length:Nat))),(18,.av (int (x.1:Nat)))],fun _=>[(1,wldC w)],
   fun x st'=>x.1<=w.B.length/\st'=Store.empty.setObj m (tkO x.2.1 x.2.2.1 x.2.2.2)/\∀id,(getI x.2.1 id).getD false=true↔∃b∈w.B.take x.1,b.id=id,fun x=>w.B.length-x.1⟩ zc ?_ ?_
  ·refine⟨(0,[],[],0),Tv,⟨Nat.zero_le _,rfl,fun id=>⟨fun h=>(by cases h),fun⟨b,hb,_⟩=>(by simp at hb)⟩⟩,⟨Tq,Tq,Tq,?_,Tq,Tv⟩,⟨rfl,Tv⟩⟩
   rw[<-zk (f:=bldC) w.B];exact Tq
  rintro⟨i,cs,bs,clk⟩ st' ⟨hi,rfl,htk⟩
  dsimp only at hi htk⊢
  refine bcd (fun h1=>?_) (fun h1=>?_)
  rotate_left
  ·have:i=w.B.length:=by omega
   subst this
   rw[List.take_length]at htk
   exact⟨(cs,bs,clk),⟨rfl,htk⟩,⟨Tq,Tq,Tv⟩,⟨rfl,Tv⟩⟩
  have hlt:i<w.B.length:=by omega
  refine⟨i,rfl,za _ (zj hlt) ?_⟩
  have hmo:(Store.empty.setObj m (tkO cs bs clk)).obj m=some (tkO cs bs clk):=zb _ _ _
  refine qe (.inl rfl) rfl (it:=ti169) (ik:=ti2) rfl rfl rfl (es:=cs.map (entI V.bool)) (bs:=bs) (clk:=clk) (k:=int w.B[i].id) (v:=V.bool true) hmo rfl rfl (qA w.B[i].id) (fun e he=>?_) (fun e1 he hq=>?_) ?_
  ·obtain⟨e,_,rfl⟩:=List.mem_map.1 he
   rfl
  ·obtain⟨g1,_,rfl⟩:=List.mem_map.1 he
   have:w.B[i].id=g1.1:=by simpa [qA,entI,int]using hq
   show int g1.1=_
   rw[this]
  obtain⟨bs',clk',hput⟩:=ju V.bool cs bs clk w.B[i].id true
  have hput:jk (cs.map (entI V.bool)) bs clk (qA w.B[i].id) (int w.B[i].id) (V.bool true)=tkO (putI cs w.B[i].id true) bs' clk':=hput
  rw[hput,zg]
  refine Qd ?_
  refine⟨(i+1,putI cs w.B[i].id true,bs',clk'),?_,⟨by dsimp only;omega,rfl,fun id=>?_⟩,⟨Tq,Tq,Tq,Tq,Tq,Tv⟩,⟨rfl,Tv⟩⟩
  ·show w.B.length-(i+1)<w.B.length-i
   omega
  ·dsimp only
   rw[js,List.take_succ_eq_append_getElem hlt]
   by_cases e:id=w.B[i].id
   ·rw[if_pos e]
    exact⟨fun _=>⟨w.B[i],List.mem_append.2 (.inr (List.mem_singleton.2 rfl)),e.symm⟩,fun _=>rfl⟩
   ·rw[if_neg e,htk id]
    constructor
    ·rintro⟨b,hb,h3⟩;exact⟨b,List.mem_append.2 (.inl hb),h3⟩
    ·rintro⟨b,hb,h3⟩
     rcases List.mem_append.1 hb with hb|hb
     ·exact⟨b,hb,h3⟩
     ·simp at hb;subst hb;exact absurd h3.symm e
 rintro⟨cs,bs,clk⟩ st' ⟨rfl,htk⟩
 dsimp only at htk⊢
 have hmo:(Store.empty.setObj m (tkO cs bs clk)).obj m=some (tkO cs bs clk):=zb _ _ _
 have hhas:(Store.empty.setObj m (tkO cs bs clk)).Has Store.empty:=qi rfl
 refine AWp.meetA (σ:=Unit) ⟨fun _=>[(1,.bx 1 0)],fun _=>[(1,wldC w)],fun _ st'=>st'=Store.empty.setObj m (tkO cs bs clk)/\znr w w.U.length⟩ ?_ ?_
 ·refine AWp.of_vc zc ?_
  refine AWp.loop (σ:=Nat) ⟨fun i=>[(1,.bx 1 0),(3,.av (cntV m)),(27,.av (lst 10 untC w.U)),(28,.av (int (w.U.length:Nat))),(29,.av (int (i:Nat)))],fun _=>[(1,wldC w)],
   fun i st'=>i<=w.U.length/\st'=Store.empty.setObj m (tkO cs bs clk)/\znr w i,fun i=>w.U.length-i⟩ zc ?_ ?_
  ·refine⟨0,Tv,⟨Nat.zero_le _,rfl,fun j _ hj=>by omega⟩,⟨Tq,Tq,Tq,?_,Tq,Tv⟩,⟨rfl,Tv⟩⟩
   rw[<-zk (f:=untC) w.U];exact Tq
  rintro i st' ⟨hi,rfl,hup⟩
  refine bcd (fun h1=>?_) (fun h1=>?_)
  rotate_left
  ·have:i=w.U.length:=by omega
   subst this
   exact⟨(),⟨rfl,hup⟩,⟨Tq,Tv⟩,⟨rfl,Tv⟩⟩
  have hlt:i<w.U.length:=by omega
  have nou:¬((untP w w.U[i]/\∀b∈w.B,b.id≠w.U[i].id)/\(0<i->(w.U[i-1]'(by omega)).id<w.U[i].id))->∃z,V.bool false=V.bool z/\(z=true↔mayP w):=fun hq=>no fun q=>hq (zs1 q.1.2 (i+1) i hlt (by omega))
  refine⟨i,rfl,za _ (zj hlt) ?_⟩
  refine Qc zc ykf ?_
  refine⟨zxq w w.U[i] hg _ _ (fun z hz=>⟨Tv,?_⟩),Tv⟩
  refine yo ?_
  refine ze (fun c2=>?_) (fun c2=>⟨⟨Tv,ret (nou fun q=>by have:=hz.2 q.1.1;rw[this]at c2;cases c2)⟩,Tv⟩)
  have hunt:=hz.1 c2
  refine⟨ya rfl (it:=ti169) (ie:=ti4) (ik:=ti2) rfl rfl rfl rfl hmo rfl (qA w.U[i].id) (fun e he=>by obtain⟨e,_,rfl⟩:=List.mem_map.1 he;rfl) ?_,Tv⟩
  rw[vp]
  have hcv:(Option.map V.bool (getI cs w.U[i].id)).getD (zb0 ti4)=V.bool ((getI cs w.U[i].id).getD false):=by
   cases getI cs w.U[i].id<;>rfl
  rw[hcv]
  have htki:=htk w.U[i].id
  generalize(getI cs w.U[i].id).getD false=tk at htki
  refine⟨Tv,?_⟩
  refine ze (fun c3=>ret (nou fun q=>by obtain⟨b,hb,e⟩:=htki.1 c3;exact q.1.2 b hb e)) (fun c3=>?_)
  have hnb:∀b∈w.B,b.id≠w.U[i].id:=fun b hb e=>by have:=htki.2 ⟨b,hb,e⟩;rw[this]at c3;cases c3
  have next:(0<i->(w.U[i-1]'(by omega)).id<w.U[i].id)->znr w (i+1):=fun hq j hj hji=>by
   by_cases e:j=i
   ·subst e;exact⟨⟨hunt,hnb⟩,hq⟩
   ·exact hup j hj (by omega)
  have fin:znr w (i+1)->yq ((i:Int)+1)/\(i+1<=w.U.length/\Store.empty.setObj m (tkO cs bs clk)=Store.empty.setObj m (tkO cs bs clk)/\znr w (i+1)):=fun hq=>⟨⟨by omega,by omega⟩,by omega,rfl,hq⟩
  refine bcd (fun c4=>?_) (fun c4=>?_)
  ·have hi0:0<i:=by omega
   refine Qd ?_
   refine⟨i-1,by omega,za _ (zj (show i-1<w.U.length by omega)) ?_⟩
   refine bcd (fun c5=>ret (nou fun q=>by have:=q.2 hi0;omega)) (fun c5=>?_)
   obtain⟨f1,f2⟩:=fin (next fun _=>by omega)
   refine⟨f1,?_⟩
   refine⟨i+1,?_,f2,⟨Tq,Tq,Tq,Tq,Tq,Tv⟩,⟨rfl,Tv⟩⟩
   show w.U.length-(i+1)<w.U.length-i
   omega
  ·obtain⟨f1,f2⟩:=fin (next fun h0=>absurd h0 (by omega))
   refine⟨f1,?_⟩
   refine⟨i+1,?_,f2,⟨Tq,Tq,Tq,Tq,Tq,Tv⟩,⟨rfl,Tv⟩⟩
   show w.U.length-(i+1)<w.U.length-i
   omega
 rintro _ _ ⟨rfl,hall⟩
 have hok:=znq hall
 refine AWp.leS hhas.toLe ?_
 refine AWp.seq (AWp.of_vc zc ?_)
 refine zz2 w (by omega) hn _ (fun F s p L o0 o1 o2 hS hLl hL=>?_)
 have hLm:=hL hok.1
 refine AWp.meetA (σ:=Unit) ⟨fun _=>[(1,.bx 1 0)],fun _=>[(1,wldC w)],fun _ st'=>∀u∈w.U,u.inn=0->yv w u.id u.kind u.pos⟩ ?_ ?_
 ·refine AWp.of_vc zc ?_
  refine AWp.loop (σ:=Nat×Store×AV×AV×AV) ⟨fun x=>[(1,.bx 1 0),(8,.av (ptr s)),(64,.av (lst 10 untC w.U)),(65,.av (int (w.U.length:Nat))),(66,.av (int (x.1:Nat)))],fun _=>[(1,wldC w)],
   fun x st'=>x.1<=w.U.length/\st'=x.2.1.un (stS s w x.2.2.1 x.2.2.2.1 x.2.2.2.2 p)/\StandAt x.2.1 s p w L x.2.2.1 x.2.2.2.1 x.2.2.2.2/\∀j,(hj:j<w.U.length)->j<x.1->w.U[j].inn=0->yv w w.U[j].id w.U[j].kind w.U[j].pos,fun x=>w.U.length-x.1⟩ zc ?_ ?_
  ·refine⟨(0,F,o0,o1,o2),Tv,⟨Nat.zero_le _,rfl,hS,fun j _ hj=>by omega⟩,⟨Tq,Tq,Tq,?_,Tq,Tv⟩,⟨rfl,Tv⟩⟩
   rw[<-zk (f:=untC) w.U];exact Tq
  rintro⟨i,F1,a0,a1,a2⟩ st' ⟨hi,rfl,hS1,hcl⟩
  dsimp only at hi hS1 hcl⊢
  refine bcd (fun h1=>?_) (fun h1=>?_)
  rotate_left
  ·have:i=w.U.length:=by omega
   subst this
   refine⟨(),fun u hu h0=>?_,⟨Tq,Tv⟩,⟨rfl,Tv⟩⟩
   obtain⟨j,hj,rfl⟩:=List.getElem_of_mem hu
   exact hcl j hj hj h0
  have hlt:i<w.U.length:=by omega
  have hui:=List.getElem_mem hlt
  have next:(w.U[i].inn=0->yv w w.U[i].id w.U[i].kind w.U[i].pos)->∀j,(hj:j<w.U.length)->j<i+1->w.U[j].inn=0->yv w w.U[j].id w.U[j].kind w.U[j].pos:=fun hq j hj hji=>by
   by_cases e:j=i
   ·subst e;exact hq
   ·exact hcl j hj (by omega)
  refine⟨i,rfl,za _ (zj hlt) ?_⟩
  refine bceq (fun c2=>?_) (fun c2=>?_)
  ·refine zqx hS1 hg (by omega) hbb hok.1 (by omega) hn hLl hLm w.U[i].id w.U[i].kind w.U[i].pos (hn _ hui) _ (fun z F2 b0 b1 b2 hz hS2=>?_)
   refine yo ?_
   refine ze (fun c3=>?_) (fun c3=>ret (no fun q=>by have:=hz.2 (q.2.1 _ hui c2);rw[this]at c3;cases c3))
   refine Qd ?_
   refine⟨(i+1,F2,b0,b1,b2),?_,⟨by dsimp only;omega,rfl,hS2,next fun _=>hz.1 c3⟩,⟨Tq,Tq,Tq,Tq,Tq,Tv⟩,⟨rfl,Tv⟩⟩
   show w.U.length-(i+1)<w.U.length-i
   omega
  ·refine Qd ?_
   refine⟨(i+1,F1,a0,a1,a2),?_,⟨by dsimp only;omega,rfl,hS1,next fun h0=>absurd h0 c2⟩,⟨Tq,Tq,Tq,Tq,Tq,Tv⟩,⟨rfl,Tv⟩⟩
   show w.U.length-(i+1)<w.U.length-i
   omega
 rintro _ st' hclear
 refine AWp.of_vc zc ?_
 refine zq5 w (by omega) hok.1 _ _ (fun z hz=>?_)
 refine ret ⟨z,rfl,?_⟩
 rw[hz]
 exact⟨fun hq=>⟨⟨hh,hok⟩,hclear,hq⟩,fun hq=>hq.2.2⟩
theorem zwd{f:FuncId}{xs:List AV}{Q:AV->Prop}(key:ACalls Tryz.prog f xs Store.empty fun r _=>Q r)(st:Store)(R:AV->Store->Prop)(h:∀r,Q r->R r st):ACalls Tryz.prog f xs st R:=by
 rw[<-xt st]
 refine ACalls.post (ACalls.frame (R':=fun r st'=>Q r/\∃a',st'=a'.un st) (fun b hb=>?_) key fun r a' h1 _=>⟨h1,a',rfl⟩) (Store.Le.refl _) fun r st' ⟨h1,a',h2⟩=>⟨r,st,Tt,h2▸yoq,?_⟩
 ·exact(hb.elim (fun h=>h rfl) (fun h=>h rfl):False).elim
 ·exact h r h1
theorem zt6(w:Wld)(hw:w.fits)(hn:∀u∈w.U,u.pos.ok)(st:Store)(R:AV->Store->Prop)(h:∀z:Bool,(z=true↔mayP w)->R (V.bool z) st):ACalls Tryz.prog 72 [.agg (wldC w)] st R:=
 zwd (ysi w hw hn) st R fun r ⟨z,e,hz⟩=>e▸h z hz
theorem zkp(w:Wld)(hU:w.U.length<=1000000)(id:Int)(st:Store)(R:AV->Store->Prop)(h:R (int (idxI (w.U.findIdx? fun u=>decide (u.id=id)))) st):ACalls Tryz.prog 29 [.agg (wldC w),int id] st R:=by
 refine Qa (c:=cfg 22) zc Tryz.func29 ?_
 refine AWp.loop (σ:=Nat) ⟨fun i=>[(1,.av (int id)),(2,.bx 2 0),(5,.av (int (i:Nat)))],fun _=>[(2,wldC w)],
  fun i st'=>i<=w.U.length/\st'=st/\∀j,(hj:j<w.U.length)->j<i->w.U[j].id≠id,fun i=>w.U.length-i⟩ zc ?_ ?_
 ·exact⟨0,Tv,⟨Nat.zero_le _,rfl,fun j _ hj=>by omega⟩,⟨Tq,Tq,Tq,Tv⟩,⟨rfl,Tv⟩⟩
 rintro i st' ⟨hi,rfl,hall⟩
 refine ze (fun h1=>?_) (fun h1=>?_)
 rotate_left
 ·have:i=w.U.length:=ja h1 hi
  subst this
  have e:(w.U.findIdx? fun u=>decide (u.id=id))=none:=by
   rw[List.findIdx?_eq_none_iff]
   intro x hx
   obtain⟨j,hj,rfl⟩:=List.getElem_of_mem hx
   exact decide_eq_false (hall j hj hj)
  rw[e]at h
  exact ret h
 have hlt:=xk h1
 refine⟨i,rfl,za _ (zj hlt) ?_⟩
 refine bceq (fun c1=>?_) (fun c1=>?_)
 ·have e:(w.U.findIdx? fun u=>decide (u.id=id))=some i:=by
   rw[List.findIdx?_eq_some_iff_getElem]
   exact⟨hlt,decide_eq_true c1,fun j hj=>by simpa using hall j (by omega) hj⟩
  rw[e]at h
  exact ret h
 ·refine Qd ?_
  refine⟨i+1,?_,⟨by omega,rfl,fun j hj hj2=>?_⟩,⟨Tq,Tq,Tq,Tv⟩,⟨rfl,Tv⟩⟩
  ·show w.U.length-(i+1)<w.U.length-i
   omega
  ·by_cases e:j=i
   ·subst e;exact c1
   ·exact hall j hj (by omega)
theorem ya1{l:List Unt}{i:Nat}(hi:i<l.length)(id:Int):inOf (l.take (i+1)) id=inOf (l.take i) id++(if l[i].inn=id then [l[i].id]else []):=by
 unfold inOf
 rw[List.take_succ_eq_append_getElem hi,List.filter_append,List.map_append]
 by_cases h:l[i].inn=id<;>simp[h]
theorem zn7(w:Wld)(hU:w.U.length<=1000000)(id:Int)(st:Store)(R:AV->Store->Prop)(h:R (ints (inOf w.U id)) st):ACalls Tryz.prog 57 [.agg (wldC w),int id] st R:=by
 refine Qa (c:=cfg 32) zc Tryz.func57 ?_
 refine AWp.loop (σ:=Nat×AV) ⟨fun x=>[(1,.av (int id)),(2,.bx 2 0),(5,.av x.2),(6,.av (int (x.1:Nat)))],fun _=>[(2,wldC w)],
  fun x st'=>x.1<=w.U.length/\App 1 st x.2 (rws intC (inOf (w.U.take x.1) id)) st',fun x=>w.U.length-x.1⟩ zc ?_ ?_
 ·exact⟨(0,_),Tv,⟨Nat.zero_le _,App.start 1 st⟩,⟨Tq,Tq,Tq,Tq,Tv⟩,⟨rfl,Tv⟩⟩
 rintro⟨i,v⟩ st' ⟨hi,ha⟩
 dsimp only at hi ha⊢
 refine ze (fun h1=>?_) (fun h1=>?_)
 rotate_left
 ·have:i=w.U.length:=ja h1 hi
  subst this
  rw[List.take_length]at ha
  exact⟨_,st,AV.le_trans ha.le (Tt),ha.has,h⟩
 have hlt:=xk h1
 have hs:=ya1 hlt id
 have hl1:(inOf (w.U.take i) id).length<=1000000:=by
  have h1:=zrw (l:=w.U) i id
  have h2:(inOf w.U id).length<=w.U.length:=by unfold inOf;rw[List.length_map];exact List.length_filter_le _ _
  omega
 refine⟨i,rfl,za _ (zj hlt) ?_⟩
 refine bceq (fun c1=>?_) (fun c1=>?_)
 ·rw[if_pos c1]at hs
  refine⟨i,rfl,za _ (zj hlt) ?_⟩
  refine⟨by decide,?_⟩
  refine xi (ie:=ti2) (rows':=[intC w.U[i].id]) ha ?_ ?_ ⟨?_,?_⟩ (fun v3 st3 ha3=>?_)
  ·rfl
  ·rfl
  ·simp only[zk,List.length_singleton,ti2];omega
  ·simp only[zk,List.length_singleton];omega
  refine Qd ?_
  refine⟨(i+1,v3),?_,⟨by dsimp only;omega,?_⟩,⟨Tq,Tq,Tq,Tq,Tv⟩,⟨rfl,Tv⟩⟩
  ·show w.U.length-(i+1)<w.U.length-i
   omega
  ·dsimp only
   rw[hs]
   unfold rws
   rw[List.map_append]
   exact ha3
 ·rw[if_neg c1,List.append_nil]at hs
  refine Qd ?_
  refine⟨(i+1,v),?_,⟨by dsimp only;omega,?_⟩,⟨Tq,Tq,Tq,Tq,Tv⟩,⟨rfl,Tv⟩⟩
  ·show w.U.length-(i+1)<w.U.length-i
   omega
  ·dsimp only
   rw[hs]
   exact ha
theorem zih(w:Wld)(hg:gndP w.G)(hB:w.B.length<=1000000000000)(hb:∀b∈w.B,bldP b/\onP w.G b)(hU:w.U.length<=1000000)(hn:∀u∈w.U,u.pos.ok)(hk:∀u∈w.U,zca u.kind)(id k:Int)(hkk:zca k)(q:Vc)(hq:q.ok)(st:Store)(R:AV->Store->Prop)
  (h:∀z:Bool,(z=true↔yv w id k q)->R (V.bool z) st):ACalls Tryz.prog 56 [.agg (wldC w),int id,int k,.agg (vecC q)] st R:=by
 have no:¬yv w id k q->R (V.bool false) st:=fun hh=>h false (by simp only[Bool.false_eq_true,false_iff];exact hh)
 have hr:=zb5 k
 have hplace:yv w id k q->xx q.1 q.2:=fun hh=>by
  have h1:=hh.1.1
  have h2:=hg.1
  have h3:=hg.2.1
  unfold xx
  omega
 refine Qa (c:=cfg 79) zc Tryz.func56 ?_
 refine ve k hkk _ _ ?_
 refine bcd (fun c1=>ret (no fun hh=>by have:=hplace hh;unfold xx at this;omega)) (fun c1=>?_)
 refine bcd (fun c2=>ret (no fun hh=>by have:=hplace hh;unfold xx at this;omega)) (fun c2=>?_)
 refine bcd (fun c3=>ret (no fun hh=>by have:=hplace hh;unfold xx at this;omega)) (fun c3=>?_)
 refine bcd (fun c4=>ret (no fun hh=>by have:=hplace hh;unfold xx at this;omega)) (fun c4=>?_)
 have e1:Int.negSucc 1099511627775=-1099511627776:=rfl
 refine zvt w.G hg w.B hB hb (kCls k) (zis k) q (by unfold xx;omega) (kRad k) ⟨hr.1,by omega⟩ _ _ (fun z hz=>?_)
 refine yo ?_
 refine ze (fun c5=>?_) (fun c5=>ret (no fun hh=>by have:=hz.2 hh.1;rw[this]at c5;cases c5))
 have hfree:=hz.1 c5
 refine AWp.loop (σ:=Nat) ⟨fun i=>[(1,.av (int id)),(4,.bx 4 0),(7,.bx 7 0),(9,.bx 9 0),(10,.av (int (i:Nat)))],fun _=>[(4,wldC w),(7,vecC q),(9,zd0 k)],
  fun i st'=>i<=w.U.length/\st'=st/\∀j,(hj:j<w.U.length)->j<i->w.U[j].inn=0->w.U[j].id≠id->zam q (kRad k) w.U[j].pos (kRad w.U[j].kind)=true,fun i=>w.U.length-i⟩ zc ?_ ?_
 ·exact⟨0,Tv,⟨Nat.zero_le _,rfl,fun j _ hj=>by omega⟩,⟨Tq,Tq,Tq,Tq,Tq,Tv⟩,⟨rfl,rfl,rfl,Tv⟩⟩
 rintro i st' ⟨hi,rfl,hall⟩
 refine ze (fun h1=>?_) (fun h1=>?_)
 rotate_left
 ·have:i=w.U.length:=ja h1 hi
  subst this
  refine ret (h true (by
   simp only[true_iff]
   refine⟨hfree,fun u hu h0 hne=>?_⟩
   obtain⟨j,hj,rfl⟩:=List.getElem_of_mem hu
   exact hall j hj hj h0 hne))
 have hlt:=xk h1
 have hui:=List.getElem_mem hlt
 have next:(w.U[i].inn=0->w.U[i].id≠id->zam q (kRad k) w.U[i].pos (kRad w.U[i].kind)=true)->∀j,(hj:j<w.U.length)->j<i+1->w.U[j].inn=0->w.U[j].id≠id->zam q (kRad k) w.U[j].pos (kRad w.U[j].kind)=true:=fun hh j hj hji=>by
  by_cases e:j=i
  ·subst e;exact hh
  ·exact hall j hj (by omega)
 refine⟨i,rfl,za _ (zj hlt) ?_⟩
 refine Qc zc yrq ?_
 refine bceq (fun c6=>?_) (fun c6=>?_)
 rotate_left
 ·refine⟨⟨Qe,?_⟩,Tv⟩
  refine⟨⟨Tv,?_⟩,Tv⟩
  refine Qd ?_
  refine⟨i+1,?_,⟨by omega,rfl,next fun h0=>absurd h0 c6⟩,⟨Tq,Tq,Tq,Tq,Tq,Tv⟩,⟨rfl,rfl,rfl,Tv⟩⟩
  show w.U.length-(i+1)<w.U.length-i
  omega
 refine bcne (fun c7=>?_) (fun c7=>?_)
 rotate_left
 ·refine⟨⟨Qe,?_⟩,Tv⟩
  refine⟨⟨Tv,?_⟩,Tv⟩
  refine Qd ?_
  refine⟨i+1,?_,⟨by omega,rfl,next fun _ hne=>absurd c7 hne⟩,⟨Tq,Tq,Tq,Tq,Tq,Tv⟩,⟨rfl,rfl,rfl,Tv⟩⟩
  show w.U.length-(i+1)<w.U.length-i
  omega
 have hr2:=zb5 w.U[i].kind
 refine⟨ve w.U[i].kind (hk _ hui) _ _ ⟨Qe,?_⟩,Tv⟩
 refine⟨zq7 q (kRad k) w.U[i].pos (kRad w.U[i].kind) hq (hn _ hui) ⟨hr.1,by omega⟩ ⟨hr2.1,by omega⟩ _ _ ⟨Tv,?_⟩,Tv⟩
 refine yo ?_
 refine ze (fun c8=>?_) (fun c8=>ret (no fun hh=>by have:=hh.2 _ hui c6 c7;rw[this]at c8;cases c8))
 refine Qd ?_
 refine⟨i+1,?_,⟨by omega,rfl,next fun _ _=>c8⟩,⟨Tq,Tq,Tq,Tq,Tq,Tv⟩,⟨rfl,rfl,rfl,Tv⟩⟩
 show w.U.length-(i+1)<w.U.length-i
 omega
theorem stOf{s g:Int}:(!((s==1)==(g !=-1)))=false↔(s=1↔g≠-1):=by
 by_cases h1:s=1<;>by_cases h2:g=-1<;>simp[bne,beqD,h1,h2]
theorem yat(k:Int)(st:Store)(R:AV->Store->Prop)(h:∀z a b c d e,(z=true↔zca k)->R (.tup [.agg [int a,int b,int c,int d,int e],V.bool z]) st):ACalls Tryz.prog 61 [int k] st R:=
 zua k st R (fun hk=>h true _ _ _ _ _ (by simp only[true_iff];exact hk)) (fun hk=>h false 0 0 0 0 0 (by simp only[Bool.false_eq_true,false_iff];exact hk))
set_option maxHeartbeats 4000000 in
set_option maxRecDepth 20000 in
theorem zvr(w:Wld)(hw:w.fits)(st:Store)(R:AV->Store->Prop)(h:∀z:Bool,(z=true↔zo9 w/\zdv w)->R (V.bool z) st):ACalls Tryz.prog 55 [.agg (wldC w)] st R:=by
 obtain⟨hw1,hw2,hw3⟩:=hw
 have no:¬(zo9 w/\zdv w)->R (V.bool false) st:=fun hh=>h false (by simp only[Bool.false_eq_true,false_iff];exact hh)
 refine Qa (c:=cfg 218) zc Tryz.func55 ?_
 refine zz7 w.tick 1099511627776 _ _ (fun z hz=>?_)
 refine yo ?_
 refine ze (fun c0=>?_) (fun c0=>ret (no fun q=>by have:=hz.2 q.1.1.1;rw[this]at c0;cases c0))
 have htick:=hz.1 c0
 refine bcd (fun c1=>ret (no fun q=>by have:=q.1.1;omega)) (fun c1=>?_)
 refine bcd (fun c2=>ret (no fun q=>by have:=q.1.1;omega)) (fun c2=>?_)
 refine bcd (fun c3=>ret (no fun q=>by have:=q.1.1;omega)) (fun c3=>?_)
 refine bcd (fun c4=>ret (no fun q=>by have:=q.1.1;omega)) (fun c4=>?_)
 refine zjt w.G hw1 w.B hw2 _ _ (fun z hz=>?_)
 refine yo ?_
 refine ze (fun c5=>?_) (fun c5=>ret (no fun q=>by have:=hz.2 ⟨q.1.2.1.1,q.1.2.1.2.1⟩;rw[this]at c5;cases c5))
 obtain⟨hg,hbl⟩:=hz.1 c5
 have hBl:w.B.length<=256:=hbl.1
 have hUl:((rws untC w.U).length:Int)=(w.U.length:Int):=by rw[zk]
 refine bcd (fun c6=>ret (no fun q=>by have:=q.1.2.1.2.2;omega)) (fun c6=>?_)
 refine AWp.loop (σ:=Nat) ⟨fun i=>[(1,.bx 1 0),(3,.av (int (i:Nat)))],fun _=>[(1,wldC w)],
  fun i st'=>i<=w.B.length/\st'=st/\∀j,(hj:j<w.B.length)->j<i->w.B[j].owner<=w.players/\w.B[j].id<w.next,fun i=>w.B.length-i⟩ zc ?_ ?_
 ·exact⟨0,Tv,⟨Nat.zero_le _,rfl,fun j _ hj=>by omega⟩,⟨Tq,Tq,Tv⟩,⟨rfl,Tv⟩⟩
 rintro i st' ⟨hi,rfl,hall⟩
 refine ze (fun h1=>?_) (fun h1=>?_)
 ·have hlt:=xk h1
  refine Qc zc yrr ?_
  refine⟨i,rfl,za _ (zj hlt) ?_⟩
  refine bcd (fun c7=>ret (no fun q=>by have:=q.1.2.2 _ (List.getElem_mem hlt);omega)) (fun c7=>?_)
  refine⟨i,rfl,za _ (zj hlt) ?_⟩
  refine bcd (fun c8=>ret (no fun q=>by have:=q.1.2.2 _ (List.getElem_mem hlt);omega)) (fun c8=>?_)
  refine Qd ?_
  refine⟨i+1,?_,⟨by omega,rfl,fun j hj hji=>?_⟩,⟨Tq,Tq,Tv⟩,⟨rfl,Tv⟩⟩
  ·show w.B.length-(i+1)<w.B.length-i
   omega
  ·by_cases e:j=i
   ·subst e;omega
   ·exact hall j hj (by omega)
 have hie:i=w.B.length:=ja h1 hi
 subst hie
 have hhead:zo9 w:=⟨⟨htick,by omega⟩,⟨hg,hbl,by omega⟩,fun b hb=>by
  obtain⟨j,hj,rfl⟩:=List.getElem_of_mem hb
  exact hall j hj hj⟩
 refine AWp.loop (σ:=Nat) ⟨fun i=>[(1,.bx 1 0),(4,.av (int (i:Nat)))],fun _=>[(1,wldC w)],
  fun i st2=>i<=w.U.length/\st2=st'/\znr w i,fun i=>w.U.length-i⟩ zc ?_ ?_
 ·exact⟨0,Tv,⟨Nat.zero_le _,rfl,fun j _ hj=>by omega⟩,⟨Tq,Tq,Tv⟩,⟨rfl,Tv⟩⟩
 rintro i st2 ⟨hi,rfl,hup⟩
 refine ze (fun h2=>?_) (fun h2=>?_)
 rotate_left
 ·have:i=w.U.length:=ja h2 hi
  subst this
  exact ret (h true (by simp only[true_iff];exact⟨hhead,znq hup⟩))
 have hlt:=xk h2
 have nou:¬((untP w w.U[i]/\∀b∈w.B,b.id≠w.U[i].id)/\(0<i->(w.U[i-1]'(by omega)).id<w.U[i].id))->R (V.bool false) st2:=fun hq=>no fun q=>hq (zs1 q.2 (i+1) i hlt (by omega))
 refine⟨i,rfl,za _ (zj hlt) ?_⟩
 refine yat w.U[i].kind _ _ (fun kz ka kb kc kd ke hk=>?_)
 refine Qc zc ykj ?_
 have skip2:∀{p q:Prop},¬((untP w w.U[i]/\∀b∈w.B,b.id≠w.U[i].id)/\(0<i->(w.U[i-1]'(by omega)).id<w.U[i].id))->∃r st',AV.le (V.bool false) r/\st2.Has st'/\R r st':=fun hq=>ret (nou hq)
 refine bcd (fun c7=>⟨⟨Tv,⟨⟨Tv,ret (nou fun q=>by have:=q.1.1.1;omega)⟩,Tv⟩⟩,Tv⟩) (fun c7=>?_)
 refine bcd (fun c8=>⟨⟨Tv,⟨⟨Tv,ret (nou fun q=>by have:=q.1.1.1;omega)⟩,Tv⟩⟩,Tv⟩) (fun c8=>?_)
 refine bcd (fun c9=>?_) (fun c9=>?_)
 refine Qd ?_
 refine⟨i-1,by omega,za _ (zj (show i-1<w.U.length by omega)) ?_⟩
 refine bcd (fun c9b=>⟨⟨Tv,⟨⟨Tv,ret (nou fun q=>by have:=q.2 (by omega);omega)⟩,Tv⟩⟩,Tv⟩) (fun c9b=>?_)
 have hrise:0<i->(w.U[i-1]'(by omega)).id<w.U[i].id:=fun _=>by omega
 rotate_left
 have hrise:0<i->(w.U[i-1]'(by omega)).id<w.U[i].id:=fun h0=>absurd h0 (by omega)
 all_goals
  refine bcd (fun c10=>⟨⟨Tv,⟨⟨Tv,ret (nou fun q=>by have:=q.1.1.1.2.1;omega)⟩,Tv⟩⟩,Tv⟩) (fun c10=>?_)
  refine bcd (fun c11=>⟨⟨Tv,⟨⟨Tv,ret (nou fun q=>by have:=q.1.1.1.2.1;omega)⟩,Tv⟩⟩,Tv⟩) (fun c11=>?_)
  refine yo ?_
  refine ze (fun ck=>?_) (fun ck=>⟨⟨Tv,⟨⟨Tv,ret (nou fun q=>by have:=hk.2 q.1.1.1.2.2;rw[this]at ck;cases ck)⟩,Tv⟩⟩,Tv⟩)
  have hkind:=hk.1 ck
  refine bcne (fun c12=>?_) (fun c12=>?_)
  refine⟨zkd w.G w.U[i].goal hg _ _ (fun z1 hz1=>⟨Tv,?_⟩),Tv⟩
  refine yo ?_
  refine ze (fun c12b=>?_) (fun c12b=>⟨⟨Tv,ret (nou fun q=>by have:=q.1.1.2.1.1;unfold zbm at this;have:=hz1.2 (this.resolve_left c12);rw[this]at c12b;cases c12b)⟩,Tv⟩)
  have ht1:zbm w.G w.U[i].goal:=.inr (hz1.1 c12b)
  rotate_left
  refine⟨⟨Tv,?_⟩,Tv⟩
  have ht1:zbm w.G w.U[i].goal:=.inl c12
  all_goals
   refine bcne (fun c13=>?_) (fun c13=>?_)
   refine⟨zkd w.G w.U[i].next hg _ _ (fun z2 hz2=>⟨Tv,?_⟩),Tv⟩
   refine yo ?_
   refine ze (fun c14=>?_) (fun c14=>ret (nou fun q=>by have:=q.1.1.2.1.2.1;unfold zbm at this;have:=hz2.2 (this.resolve_left c13);rw[this]at c14;cases c14))
   have ht2:zbm w.G w.U[i].next:=.inr (hz2.1 c14)
   rotate_left
   refine⟨⟨Tv,?_⟩,Tv⟩
   have ht2:zbm w.G w.U[i].next:=.inl c13
   all_goals
    refine bcd (fun d1=>ret (nou fun q=>by have:=q.1.1.2.1.2.2;omega)) (fun d1=>?_)
    refine bcd (fun d2=>ret (nou fun q=>by have:=q.1.1.2.1.2.2;omega)) (fun d2=>?_)
    refine bcd (fun d3=>ret (nou fun q=>by have:=q.1.1.2.2.1.1;omega)) (fun d3=>?_)
    refine bcd (fun d4=>ret (nou fun q=>by have:=q.1.1.2.2.1.1;omega)) (fun d4=>?_)
    refine ze (fun d5=>ret (nou fun q=>by have:=stOf.2 q.1.1.2.2.1.2;rw[this]at d5;cases d5)) (fun d5=>?_)
    have hst:=stOf.1 d5
    have go:(w.U[i].goal=-1->w.U[i].next=-1/\w.U[i].stuck=0)->untP w w.U[i]:=fun hq=>⟨⟨by omega,by omega,hkind⟩,⟨ht1,ht2,by omega⟩,⟨by omega,hst⟩,hq⟩
    refine bceq (fun d6=>?_) (fun d6=>?_)
    refine bcne (fun d7=>ret (nou fun q=>d7 (q.1.1.2.2.2 d6).1)) (fun d7=>?_)
    refine bcne (fun d8=>ret (nou fun q=>d8 (q.1.1.2.2.2 d6).2)) (fun d8=>?_)
    have hunt:=go fun _=>⟨d7,d8⟩
    rotate_left
    have hunt:=go fun e=>absurd e d6
    all_goals
     refine AWp.loop (σ:=Nat) ⟨fun k=>[(1,.bx 1 0),(4,.av (int (i:Nat))),(5,.bx 5 0),(8,.av (int (k:Nat)))],fun _=>[(1,wldC w),(5,untC w.U[i])],
      fun k st3=>k<=w.B.length/\st3=st2/\∀j,(hj:j<w.B.length)->j<k->w.B[j].id≠w.U[i].id,fun k=>w.B.length-k⟩ zc ?_ ?_
     ·exact⟨0,Tv,⟨Nat.zero_le _,rfl,fun j _ hj=>by omega⟩,⟨Tq,Tq,Tq,Tq,Tv⟩,⟨rfl,rfl,Tv⟩⟩
     rintro k st3 ⟨hk3,rfl,hne⟩
     refine ze (fun e1=>?_) (fun e1=>?_)
     ·have hkl:=xk e1
      refine Qc zc yki ?_
      refine⟨k,rfl,za _ (zj hkl) ?_⟩
      refine bceq (fun e2=>ret (nou fun q=>q.1.2 _ (List.getElem_mem hkl) e2)) (fun e2=>?_)
      refine Qd ?_
      refine⟨k+1,?_,⟨by omega,rfl,fun j hj hjk=>?_⟩,⟨Tq,Tq,Tq,Tq,Tv⟩,⟨rfl,rfl,Tv⟩⟩
      ·show w.B.length-(k+1)<w.B.length-k
       omega
      ·by_cases e:j=k
       ·subst e;exact e2
       ·exact hne j hj (by omega)
     have hke:k=w.B.length:=ja e1 hk3
     subst hke
     refine Qd ?_
     refine⟨i+1,?_,⟨by omega,rfl,fun j hj hji=>?_⟩,⟨Tq,Tq,Tv⟩,⟨rfl,Tv⟩⟩
     ·show w.U.length-(i+1)<w.U.length-i
      omega
     ·by_cases e:j=i
      ·subst e
       refine⟨⟨hunt,fun b hb=>?_⟩,hrise⟩
       obtain⟨m,hm,rfl⟩:=List.getElem_of_mem hb
       exact hne m hm hm
      ·exact hup j hj (by omega)
set_option maxHeartbeats 4000000 in
set_option maxRecDepth 20000 in
theorem zob(w:Wld)(hw:w.fits)(hn:∀u∈w.U,u.pos.ok)(st:Store)(R:AV->Store->Prop)(h:∀z:Bool,(z=true↔mayP w)->R (V.bool z) st):ACalls Tryz.prog 20 [.agg (wldC w)] st R:=by
 have no:¬mayP w->R (V.bool false) st:=fun hh=>h false (by simp only[Bool.false_eq_true,false_iff];exact hh)
 refine Qa (c:=cfg 98) zc Tryz.func20 ?_
 refine zvr w hw _ _ (fun z hz=>?_)
 refine yo ?_
 refine ze (fun c1=>?_) (fun c1=>ret (no fun q=>by have:=hz.2 q.1;rw[this]at c1;cases c1))
 obtain⟨hh,hok⟩:=hz.1 c1
 have hg:=hh.2.1.1
 have hbl:=hh.2.1.2.1
 have hBl:w.B.length<=256:=hbl.1
 have hU:w.U.length<=4096:=hh.2.1.2.2
 have hbb:∀b∈w.B,bldP b/\onP w.G b:=fun b hb=>⟨(hbl.2.2.1 b hb).1,(hbl.2.2.1 b hb).2.1⟩
 have hkk:∀u∈w.U,zca u.kind:=fun u hu=>(hok.2 u hu).1.1.2.2
 refine AWp.loop (σ:=Nat) ⟨fun i=>[(1,.bx 1 0),(3,.av (int (i:Nat)))],fun _=>[(1,wldC w)],
  fun i st'=>i<=w.U.length/\st'=st/\∀j,(hj:j<w.U.length)->j<i->(w.U[j].inn=0->yv w w.U[j].id w.U[j].kind w.U[j].pos)/\(w.U[j].inn≠0->zdl w w.U[j]),fun i=>w.U.length-i⟩ zc ?_ ?_
 ·exact⟨0,Tv,⟨Nat.zero_le _,rfl,fun j _ hj=>by omega⟩,⟨Tq,Tq,Tv⟩,⟨rfl,Tv⟩⟩
 rintro i st' ⟨hi,rfl,hall⟩
 refine ze (fun h1=>?_) (fun h1=>?_)
 rotate_left
 ·have:i=w.U.length:=ja h1 hi
  subst this
  refine ret (h true (by
   simp only[true_iff]
   refine⟨⟨hh,hok⟩,fun u hu h0=>?_,fun u hu h0=>?_⟩
   ·obtain⟨j,hj,rfl⟩:=List.getElem_of_mem hu
    exact(hall j hj hj).1 h0
   ·obtain⟨j,hj,rfl⟩:=List.getElem_of_mem hu
    exact(hall j hj hj).2 h0))
 have hlt:=xk h1
 have hui:=List.getElem_mem hlt
 have next:((w.U[i].inn=0->yv w w.U[i].id w.U[i].kind w.U[i].pos)/\(w.U[i].inn≠0->zdl w w.U[i]))->∀j,(hj:j<w.U.length)->j<i+1->(w.U[j].inn=0->yv w w.U[j].id w.U[j].kind w.U[j].pos)/\(w.U[j].inn≠0->zdl w w.U[j]):=fun hq j hj hji=>by
  by_cases e:j=i
  ·subst e;exact hq
  ·exact hall j hj (by omega)
 refine⟨i,rfl,za _ (zj hlt) ?_⟩
 refine bceq (fun c2=>?_) (fun c2=>?_)
 ·refine zih w hg (by omega) hbb (by omega) hn hkk w.U[i].id w.U[i].kind (hkk _ hui) w.U[i].pos (hn _ hui) _ _ (fun z hz=>?_)
  refine yo ?_
  refine ze (fun c3=>?_) (fun c3=>ret (no fun q=>by have:=hz.2 (q.2.1 _ hui c2);rw[this]at c3;cases c3))
  refine Qd ?_
  refine⟨i+1,?_,⟨by omega,rfl,next ⟨fun _=>hz.1 c3,fun hne=>absurd c2 hne⟩⟩,⟨Tq,Tq,Tv⟩,⟨rfl,Tv⟩⟩
  show w.U.length-(i+1)<w.U.length-i
  omega
 have nou:¬zdl w w.U[i]->R (V.bool false) st':=fun hq=>no fun q=>hq (q.2.2 _ hui c2)
 refine zkp w (by omega) w.U[i].inn _ _ ?_
 cases hf:w.U.findIdx? fun u=>decide (u.id=w.U[i].inn)with
 |none=>
  have hno:¬zdl w w.U[i]:=fun⟨x,hx,e,_⟩=>by
   rw[List.findIdx?_eq_none_iff]at hf
   have:=hf x hx
   rw[decide_eq_false_iff_not]at this
   exact this e
  refine Qc zc zth ?_
  exact⟨⟨Qe,⟨⟨Qe,⟨⟨Qe,ret (nou hno)⟩,Tv⟩⟩,Tv⟩⟩,Tv⟩
 |some k=>
  rw[List.findIdx?_eq_some_iff_getElem]at hf
  obtain⟨hkl,hkid,_⟩:=hf
  have hkid:=of_decide_eq_true hkid
  have uniq:zdl w w.U[i]->(w.U[k].inn=0/\w.U[k].owner=w.U[i].owner)/\((inOf w.U w.U[i].inn).length:Int)<=zbj w.U[k].kind:=fun⟨x,hx,e,e2,e3,_⟩=>by
   have:=vf hok.1 hx (List.getElem_mem hkl) (by rw[e,hkid])
   subst this
   exact⟨e2,e3⟩
  refine Qc zc zth ?_
  refine⟨k,rfl,za _ (zj hkl) ?_⟩
  refine bcne (fun c4=>⟨⟨Qe,⟨⟨Qe,⟨⟨Qe,ret (nou (fun q=>c4 (uniq q).1.1))⟩,Tv⟩⟩,Tv⟩⟩,Tv⟩) (fun c4=>?_)
  refine⟨k,rfl,za _ (zj hkl) ?_⟩
  refine bcne (fun c5=>⟨⟨Qe,⟨⟨Qe,⟨⟨Qe,ret (nou (fun q=>c5 (uniq q).1.2))⟩,Tv⟩⟩,Tv⟩⟩,Tv⟩) (fun c5=>?_)
  refine⟨ve w.U[i].kind (hkk _ hui) _ _ ⟨Qe,?_⟩,Tv⟩
  refine bcd (fun c6=>⟨⟨Qe,⟨⟨Qe,ret (nou (fun⟨x,_,_,_,_,e,_⟩=>by omega))⟩,Tv⟩⟩,Tv⟩) (fun c6=>?_)
  have hroom:zbj w.U[i].kind=0:=by have:=zrq w.U[i].kind;omega
  refine⟨k,rfl,za _ (zj hkl) ?_⟩
  refine⟨zn7 w (by omega) w.U[i].inn _ _ ⟨?_,?_⟩,Tv⟩
  ·repeat(first|exact Tv|refine⟨rfl,?_⟩|refine⟨⟨k,rfl,za _ (zj hkl) rfl⟩,?_⟩)
  refine⟨ve w.U[k].kind (hkk _ (List.getElem_mem hkl)) _ _ ⟨?_,?_⟩,Tv⟩
  ·repeat(first|exact Tv|refine⟨rfl,?_⟩)
  have hrl:((rws intC (inOf w.U w.U[i].inn)).length:Int)=((inOf w.U w.U[i].inn).length:Int):=by rw[zk]
  refine bcd (fun c7=>ret (nou fun q=>by have:=(uniq q).2;omega)) (fun c7=>?_)
  refine yo ?_
  refine ze (fun c8=>?_) (fun c8=>ret (nou fun⟨x,_,_,_,_,_,e,_⟩=>by rw[e]at c8;cases c8))
  have hpos:w.U[i].pos=(0,0):=by
   have:(w.U[i].pos.1==0&&(w.U[i].pos.2==0&&true))=true:=c8
   simp at this
   exact Prod.ext this.1 this.2
  refine bcne (fun c9=>ret (nou fun⟨x,_,_,_,_,_,_,e,_⟩=>c9 e)) (fun c9=>?_)
  refine bcne (fun c10=>ret (nou fun⟨x,_,_,_,_,_,_,_,e⟩=>c10 e)) (fun c10=>?_)
  refine Qd ?_
  refine⟨i+1,?_,⟨by omega,rfl,next ⟨fun h0=>absurd h0 c2,fun _=>⟨w.U[k],List.getElem_mem hkl,hkid,⟨c4,c5⟩,by omega,hroom,hpos,c9,c10⟩⟩⟩,⟨Tq,Tq,Tv⟩,⟨rfl,Tv⟩⟩
  show w.U.length-(i+1)<w.U.length-i
  omega
theorem zj2(l:List UInt8)(hl:l.length<=1000000000000)(st:Store)(R:AV->Store->Prop)(h:R (lst 1 u8C l) st):ACalls Tryz.prog 85 [lst 1 u8C l] st R:=by
 refine Qa (c:=cfg 19) zc Tryz.func85 ?_
 refine AWp.loop (σ:=Nat×AV) ⟨fun s=>[(0,.av (lst 1 u8C l)),(3,.av s.2),(4,.av (int s.1))],fun _=>[],fun s st'=>s.1<=l.length/\App 1 st s.2 (rws u8C (l.take s.1)) st',fun s=>l.length-s.1⟩ zc ?_ ?_
 ·exact⟨(0,_),Tv,⟨Nat.zero_le _,App.start 1 st⟩,⟨Tq,Tq,Tq,Tv⟩,Tv⟩
 ·rintro⟨i,v⟩ st' ⟨hi,ha⟩
  simp only at hi
  refine ze (fun h1=>?_) (fun h1=>?_)
  ·have hlt:i<l.length:=xk h1
   refine⟨i,rfl,za _ (zj hlt) ?_⟩
   refine⟨by decide,?_⟩
   refine xi (ie:=ti5) (rows':=[u8C l[i]]) ha ?_ ?_ ⟨?_,?_⟩ (fun v2 st2 ha2=>?_)
   ·rfl
   ·rfl
   ·simp[zk,ti5];omega
   ·simp[zk];omega
   ·refine⟨⟨by omega,by omega⟩,?_⟩
    refine⟨(i+1,v2),?_,⟨hlt,?_⟩,⟨Tq,Tq,Tq,Tv⟩,Tv⟩
    ·show l.length-(i+1)<l.length-i
     omega
    ·rw[<-zl5 hlt];exact ha2
  ·have hge:i=l.length:=ja h1 hi
   subst hge
   refine⟨_,st,AV.le_trans ha.le ?_,ha.has,h⟩
   rw[List.take_length]
   exact Tt
theorem zby(l:List Bld)(hl:l.length<=1000000000000)(st:Store)(R:AV->Store->Prop)(h:R (lst 6 bldC l) st):ACalls Tryz.prog 41 [lst 6 bldC l] st R:=by
 refine Qa (c:=cfg 19) zc Tryz.func41 ?_
 refine AWp.loop (σ:=Nat×AV) ⟨fun s=>[(0,.av (lst 6 bldC l)),(3,.av s.2),(4,.av (int s.1))],fun _=>[],fun s st'=>s.1<=l.length/\App 6 st s.2 (rws bldC (l.take s.1)) st',fun s=>l.length-s.1⟩ zc ?_ ?_
 ·exact⟨(0,_),Tv,⟨Nat.zero_le _,App.start 6 st⟩,⟨Tq,Tq,Tq,Tv⟩,Tv⟩
 ·rintro⟨i,v⟩ st' ⟨hi,ha⟩
  simp only at hi
  refine ze (fun h1=>?_) (fun h1=>?_)
  ·have hlt:i<l.length:=xk h1
   refine⟨i,rfl,za _ (zj hlt) ?_⟩
   refine⟨by decide,?_⟩
   refine xi (ie:=ti144) (rows':=[bldC l[i]]) ha ?_ ?_ ⟨?_,?_⟩ (fun v2 st2 ha2=>?_)
   ·rfl
   ·rfl
   ·simp[zk,ti144];omega
   ·simp[zk];omega
   ·refine⟨⟨by omega,by omega⟩,?_⟩
    refine⟨(i+1,v2),?_,⟨hlt,?_⟩,⟨Tq,Tq,Tq,Tv⟩,Tv⟩
    ·show l.length-(i+1)<l.length-i
     omega
    ·rw[<-zl5 hlt];exact ha2
  ·have hge:i=l.length:=ja h1 hi
   subst hge
   refine⟨_,st,AV.le_trans ha.le ?_,ha.has,h⟩
   rw[List.take_length]
   exact Tt
theorem zmv(l:List Unt)(hl:l.length<=1000000000000)(st:Store)(R:AV->Store->Prop)(h:R (lst 10 untC l) st):ACalls Tryz.prog 42 [lst 10 untC l] st R:=by
 refine Qa (c:=cfg 19) zc Tryz.func42 ?_
 refine AWp.loop (σ:=Nat×AV) ⟨fun s=>[(0,.av (lst 10 untC l)),(3,.av s.2),(4,.av (int s.1))],fun _=>[],fun s st'=>s.1<=l.length/\App 10 st s.2 (rws untC (l.take s.1)) st',fun s=>l.length-s.1⟩ zc ?_ ?_
 ·exact⟨(0,_),Tv,⟨Nat.zero_le _,App.start 10 st⟩,⟨Tq,Tq,Tq,Tv⟩,Tv⟩
 ·rintro⟨i,v⟩ st' ⟨hi,ha⟩
  simp only at hi
  refine ze (fun h1=>?_) (fun h1=>?_)
  ·have hlt:i<l.length:=xk h1
   refine⟨i,rfl,za _ (zj hlt) ?_⟩
   refine⟨by decide,?_⟩
   refine xi (ie:=ti50) (rows':=[untC l[i]]) ha ?_ ?_ ⟨?_,?_⟩ (fun v2 st2 ha2=>?_)
   ·rfl
   ·rfl
   ·simp[zk,ti50];omega
   ·simp[zk];omega
   ·refine⟨⟨by omega,by omega⟩,?_⟩
    refine⟨(i+1,v2),?_,⟨hlt,?_⟩,⟨Tq,Tq,Tq,Tv⟩,Tv⟩
    ·show l.length-(i+1)<l.length-i
     omega
    ·rw[<-zl5 hlt];exact ha2
  ·have hge:i=l.length:=ja h1 hi
   subst hge
   refine⟨_,st,AV.le_trans ha.le ?_,ha.has,h⟩
   rw[List.take_length]
   exact Tt
theorem zaj(g:Gnd)(hg:g.fits)(st:Store)(R:AV->Store->Prop)(h:R (.agg (gndC g)) st):ACalls Tryz.prog 40 [.agg (gndC g)] st R:=by
 refine Qa (c:=cfg 10) zc Tryz.func40 ?_
 refine zj2 g.T hg _ _ ?_
 exact ret h
theorem za3(w:Wld)(hw:w.fits)(st:Store)(R:AV->Store->Prop)(h:R (.agg (wldC w)) st):ACalls Tryz.prog 13 [.agg (wldC w)] st R:=by
 refine Qa (c:=cfg 18) zc Tryz.func13 ?_
 refine zaj w.G hw.1 _ _ ?_
 refine zby w.B hw.2.1 _ _ ?_
 refine zmv w.U hw.2.2 _ _ ?_
 exact ret h
theorem zpt(a b:List UInt8)(ha:a.length<=1000000000000)(st:Store)(R:AV->Store->Prop)(h:R (bool (decide (a=b))) st):ACalls Tryz.prog 90 [lst 1 u8C a,lst 1 u8C b] st R:=by
 refine Qa (c:=cfg 26) zc Tryz.func90 ?_
 refine ze (fun h1=>?_) (fun h1=>?_)
 ·have:a≠b:=fun h2=>yae h1 (by rw[h2])
  rw[show decide (a=b)=false by simp[this]]at h
  exact⟨_,st,Tt,Store.Has.refl st,h⟩
 ·have hl:a.length=b.length:=zps h1
  refine AWp.loop (σ:=Nat) ⟨fun i=>[(0,.av (lst 1 u8C a)),(1,.av (lst 1 u8C b)),(5,.av (int i))],fun _=>[],fun i st'=>i<=a.length/\a.take i=b.take i/\st'=st,fun i=>a.length-i⟩ zc ?_ ?_
  ·exact⟨0,Tv,⟨Nat.zero_le _,rfl,rfl⟩,⟨Tq,Tq,Tq,Tv⟩,Tv⟩
  ·rintro i st' ⟨hi,heq,hst⟩
   refine ze (fun h2=>?_) (fun h2=>?_)
   ·have hlt:i<a.length:=xk h2
    have hltb:i<b.length:=by omega
    refine Qc zc yrg ?_
    refine⟨i,rfl,za _ (zj hlt) ?_⟩
    refine⟨i,rfl,za _ (zj hltb) ?_⟩
    refine ze (fun h3=>?_) (fun h3=>?_)
    ·have hne:a[i]≠b[i]:=by
      intro h4
      rw[h4]at h3
      simp at h3
     have:a≠b:=by
      intro h4
      subst h4
      exact hne rfl
     rw[show decide (a=b)=false by simp[this]]at h
     subst hst
     exact⟨_,st',Tt,Store.Has.refl st',h⟩
    ·refine⟨⟨by omega,by omega⟩,?_⟩
     refine⟨i+1,?_,⟨hlt,?_,hst⟩,⟨Tq,Tq,Tq,Tv⟩,Tv⟩
     ·show a.length-(i+1)<a.length-i
      omega
     ·rw[List.take_succ_eq_append_getElem hlt,List.take_succ_eq_append_getElem hltb,heq]
      have:a[i]=b[i]:=UInt8.toNat_inj.1 (by have:=h3;simp at this;omega)
      rw[this]
   ·have hge:i=a.length:=ja h2 hi
    subst hge hst
    have:a=b:=by
     rw[List.take_length,hl,List.take_length]at heq
     exact heq
    rw[show decide (a=b)=true by simp[this]]at h
    exact⟨_,st',Tt,Store.Has.refl st',h⟩
theorem zr9(a b:List Bld)(ha:a.length<=1000000000000)(st:Store)(R:AV->Store->Prop)(h:R (bool (decide (a=b))) st):ACalls Tryz.prog 46 [lst 6 bldC a,lst 6 bldC b] st R:=by
 refine Qa (c:=cfg 26) zc Tryz.func46 ?_
 refine ze (fun h1=>?_) (fun h1=>?_)
 ·have:a≠b:=fun h2=>yae h1 (by rw[h2])
  rw[show decide (a=b)=false by simp[this]]at h
  exact⟨_,st,Tt,Store.Has.refl st,h⟩
 ·have hl:a.length=b.length:=zps h1
  refine AWp.loop (σ:=Nat) ⟨fun i=>[(0,.av (lst 6 bldC a)),(1,.av (lst 6 bldC b)),(5,.av (int i))],fun _=>[],fun i st'=>i<=a.length/\a.take i=b.take i/\st'=st,fun i=>a.length-i⟩ zc ?_ ?_
  ·exact⟨0,Tv,⟨Nat.zero_le _,rfl,rfl⟩,⟨Tq,Tq,Tq,Tv⟩,Tv⟩
  ·rintro i st' ⟨hi,heq,hst⟩
   refine ze (fun h2=>?_) (fun h2=>?_)
   ·have hlt:i<a.length:=xk h2
    have hltb:i<b.length:=by omega
    refine Qc zc yrx ?_
    refine⟨i,rfl,za _ (zj hlt) ?_⟩
    refine⟨i,rfl,za _ (zj hltb) ?_⟩
    refine ze (fun h3=>?_) (fun h3=>?_)
    ·have hne:a[i]≠b[i]:=by
      intro h4
      rw[h4]at h3
      simp at h3
     have:a≠b:=by
      intro h4
      subst h4
      exact hne rfl
     rw[show decide (a=b)=false by simp[this]]at h
     subst hst
     exact⟨_,st',Tt,Store.Has.refl st',h⟩
    ·refine⟨⟨by omega,by omega⟩,?_⟩
     refine⟨i+1,?_,⟨hlt,?_,hst⟩,⟨Tq,Tq,Tq,Tv⟩,Tv⟩
     ·show a.length-(i+1)<a.length-i
      omega
     ·rw[List.take_succ_eq_append_getElem hlt,List.take_succ_eq_append_getElem hltb,heq]
      have:a[i]=b[i]:=by cases hx:a[i];cases hy:b[i];rw[hx,hy]at h3;simp at h3;simp[h3]
      rw[this]
   ·have hge:i=a.length:=ja h2 hi
    subst hge hst
    have:a=b:=by
     rw[List.take_length,hl,List.take_length]at heq
     exact heq
    rw[show decide (a=b)=true by simp[this]]at h
    exact⟨_,st',Tt,Store.Has.refl st',h⟩
theorem zr7(a b:List Unt)(ha:a.length<=1000000000000)(st:Store)(R:AV->Store->Prop)(h:R (bool (decide (a=b))) st):ACalls Tryz.prog 47 [lst 10 untC a,lst 10 untC b] st R:=by
 refine Qa (c:=cfg 26) zc Tryz.func47 ?_
 refine ze (fun h1=>?_) (fun h1=>?_)
 ·have:a≠b:=fun h2=>yae h1 (by rw[h2])
  rw[show decide (a=b)=false by simp[this]]at h
  exact⟨_,st,Tt,Store.Has.refl st,h⟩
 ·have hl:a.length=b.length:=zps h1
  refine AWp.loop (σ:=Nat) ⟨fun i=>[(0,.av (lst 10 untC a)),(1,.av (lst 10 untC b)),(5,.av (int i))],fun _=>[],fun i st'=>i<=a.length/\a.take i=b.take i/\st'=st,fun i=>a.length-i⟩ zc ?_ ?_
  ·exact⟨0,Tv,⟨Nat.zero_le _,rfl,rfl⟩,⟨Tq,Tq,Tq,Tv⟩,Tv⟩
  ·rintro i st' ⟨hi,heq,hst⟩
   refine ze (fun h2=>?_) (fun h2=>?_)
   ·have hlt:i<a.length:=xk h2
    have hltb:i<b.length:=by omega
    refine Qc zc yrw ?_
    refine⟨i,rfl,za _ (zj hlt) ?_⟩
    refine⟨i,rfl,za _ (zj hltb) ?_⟩
    refine ze (fun h3=>?_) (fun h3=>?_)
    ·have hne:a[i]≠b[i]:=by
      intro h4
      rw[h4]at h3
      simp at h3
     have:a≠b:=by
      intro h4
      subst h4
      exact hne rfl
     rw[show decide (a=b)=false by simp[this]]at h
     subst hst
     exact⟨_,st',Tt,Store.Has.refl st',h⟩
    ·refine⟨⟨by omega,by omega⟩,?_⟩
     refine⟨i+1,?_,⟨hlt,?_,hst⟩,⟨Tq,Tq,Tq,Tv⟩,Tv⟩
     ·show a.length-(i+1)<a.length-i
      omega
     ·rw[List.take_succ_eq_append_getElem hlt,List.take_succ_eq_append_getElem hltb,heq]
      have:a[i]=b[i]:=by cases hx:a[i];cases hy:b[i];rw[hx,hy]at h3;simp at h3;simp[h3,Prod.ext_iff]
      rw[this]
   ·have hge:i=a.length:=ja h2 hi
    subst hge hst
    have:a=b:=by
     rw[List.take_length,hl,List.take_length]at heq
     exact heq
    rw[show decide (a=b)=true by simp[this]]at h
    exact⟨_,st',Tt,Store.Has.refl st',h⟩
theorem zmq(a b:Gnd)(ha:a.fits)(st:Store)(R:AV->Store->Prop)(h:R (V.bool (decide (a=b))) st):ACalls Tryz.prog 45 [.agg (gndC a),.agg (gndC b)] st R:=by
 refine Qa (c:=cfg 24) zc Tryz.func45 ?_
 refine ze (fun h1=>?_) (fun h1=>⟨_,st,Tt,Store.Has.refl st,isF h (decide_eq_false fun e=>by subst e;simp at h1)⟩)
 refine ze (fun h2=>?_) (fun h1=>⟨_,st,Tt,Store.Has.refl st,isF h (decide_eq_false fun e=>by subst e;simp at h1)⟩)
 refine zpt a.T b.T ha _ _ ?_
 refine⟨_,st,Tt,Store.Has.refl st,?_⟩
 have e:decide (a.T=b.T)=decide (a=b):=by
  rw[Bool.eq_iff_iff]
  simp only[beq_iff_eq,decide_eq_true_eq]at*
  constructor
  ·intro h9
   cases a;cases b
   simp_all
  ·rintro rfl
   rfl
 rw[<-e]at h
 exact h
theorem zgs(w:Wld)(hw:w.fits)(st:Store)(R:AV->Store->Prop)(h:R (V.bool true) st):ACalls Tryz.prog 17 [.agg (wldC w),.agg (wldC w)] st R:=by
 refine Qa (c:=cfg 45) zc Tryz.func17 ?_
 refine bceq (fun h1=>?_) (fun h1=>absurd rfl h1)
 refine bceq (fun h2=>?_) (fun h1=>absurd rfl h1)
 refine bceq (fun h3=>?_) (fun h1=>absurd rfl h1)
 refine zmq w.G w.G hw.1 _ _ ?_
 rw[show decide (w.G=w.G)=true by simp]
 refine zr9 w.B w.B hw.2.1 _ _ ?_
 rw[show decide (w.B=w.B)=true by simp]
 refine zr7 w.U w.U hw.2.2 _ _ ?_
 rw[show decide (w.U=w.U)=true by simp]
 exact ret h
theorem ymq(g:Gnd)(hg:gndP g)(t:Nat)(ht:(t:Int)<g.W*g.H)(st:Store)(R:AV->Store->Prop)(h:R (.agg (vecC (tx g t+32768,ty g t+32768))) st):ACalls Tryz.prog 141 [.agg (gndC g),int (t:Nat)] st R:=by
 have htb:=zcf hg ht
 have hq:=trem (t:=t) hg.1.1
 have hq2:=tquo (t:=t) hg.1.1
 have hg1:=hg.1
 have hg2:=hg.2.1
 unfold tx ty at h
 refine Qa (c:=cfg 18) zc Tryz.func141 ?_
 refine Qc zc ylp ?_
 refine⟨by omega,?_⟩
 refine in64 (by rw[hq];omega) ?_
 refine in64 (by rw[hq];omega) ?_
 refine⟨by omega,?_⟩
 refine in64 (by rw[hq2];omega) ?_
 refine in64 (by rw[hq2];omega) ?_
 refine in64 (by rw[hq2];omega) ?_
 refine⟨⟨Qe,?_⟩,Tv⟩
 rw[<-hq,<-hq2]at h
 exact ret h
theorem yaj(g:Gnd)(hg:gndP g)(t:Nat)(ht:(t:Int)<g.W*g.H)(x:Int)(hx:x=(t:Int))(st:Store)(R:AV->Store->Prop)(h:R (.agg (vecC (tx g t+32768,ty g t+32768))) st):ACalls Tryz.prog 141 [.agg (gndC g),int x] st R:=by
 subst hx
 exact ymq g hg t ht st R h
theorem zcm(g:Gnd)(hg:gndP g)(t:Nat)(ht:t<g.T.length)(x:Int)(hx:x=(t:Int))(st:Store)(R:AV->Store->Prop)(h:R (.agg (vecC (cenV g t))) st):ACalls Tryz.prog 141 [.agg (gndC g),int x] st R:=
 yaj g hg t (by have:=zr hg;omega) x hx st R h
theorem vk(g:Gnd)(hg:gndP g)(t:Nat)(ht:t<g.T.length)(tI:Int)(htI:tI=(t:Int))(st:Store)(R:AV->Store->Prop)(h:R (.agg (vecC (cenV g t))) st):ACalls Tryz.prog 28 [.agg (gndC g),int tI] st R:=by
 subst htI
 have ha:=zr hg
 have htb:=zcf hg (t:=t) (by omega)
 have hq:=trem (t:=t) hg.1.1
 have hq2:=tquo (t:=t) hg.1.1
 have hg1:=hg.1
 have hg2:=hg.2.1
 unfold cenV tx ty at h
 rw[<-hq,<-hq2]at h
 refine Qa (c:=cfg 18) zc Tryz.func28 ?_
 refine Qc zc yr2 ?_
 refine⟨by omega,?_⟩
 refine Qd ?_
 refine Qd ?_
 refine⟨by omega,?_⟩
 refine Qd ?_
 refine Qd ?_
 refine Qd ?_
 refine⟨⟨Qe,?_⟩,Tv⟩
 exact ret h
theorem ymd(g:Gnd)(hg:gndP g)(p:Vc)(h0:(0<=p.1/\p.1<g.W*65536)/\(0<=p.2/\p.2<g.H*65536))(st:Store)(R:AV->Store->Prop)(h:R (int (ql g p:Nat)) st):ACalls Tryz.prog 25 [.agg (gndC g),.agg (vecC p)] st R:=by
 have hs:=hg.1
 have hs2:=hg.2.1
 obtain⟨e1,e2,_⟩:=zhx hg h0
 have ha:=zr hg
 refine Qa (c:=cfg 39) zc Tryz.func25 ?_
 refine bcd (fun c1=>absurd c1 (by omega)) (fun c1=>?_)
 refine Qd ?_
 refine bcd (fun c1=>absurd c1 (by omega)) (fun c1=>?_)
 refine bcd (fun c1=>absurd c1 (by omega)) (fun c1=>?_)
 refine Qd ?_
 refine bcd (fun c1=>absurd c1 (by omega)) (fun c1=>?_)
 have q1:p.1.tdiv 65536=p.1/65536:=Int.tdiv_eq_ediv_of_nonneg (by omega)
 have q2:p.2.tdiv 65536=p.2/65536:=Int.tdiv_eq_ediv_of_nonneg (by omega)
 have hx:0<=p.1/65536/\p.1/65536<=128:=by omega
 have hy:0<=p.2/65536/\p.2/65536<=128:=by omega
 have hm:0<=g.W*(p.2/65536)/\g.W*(p.2/65536)<=128*128:=⟨Int.mul_nonneg (by omega) hy.1,Int.mul_le_mul hs.2 hy.2 hy.1 (by decide)⟩
 refine⟨by decide,?_⟩
 refine in64 (by rw[q1];omega) ?_
 refine⟨by decide,?_⟩
 refine in64 (by rw[q2];omega) ?_
 refine in64 (by rw[q2];omega) ?_
 refine in64 (by rw[q1,q2];omega) ?_
 rw[q1,q2,<-e1]
 exact ret h
theorem zj9(g:Gnd)(hg:gndP g)(p:Vc)(h0:(0<=p.1/\p.1<g.W*65536)/\(0<=p.2/\p.2<g.H*65536))(st:Store)(R:AV->Store->Prop)(h:R (int (ql g p:Nat)) st):ACalls Tryz.prog 143 [.agg (gndC g),.agg (vecC p)] st R:=by
 have hs:=hg.1
 have hs2:=hg.2.1
 obtain⟨e1,e2,_⟩:=zhx hg h0
 have ha:=zr hg
 refine Qa (c:=cfg 39) zc Tryz.func143 ?_
 refine bcd (fun c1=>absurd c1 (by omega)) (fun c1=>?_)
 refine Qd ?_
 refine bcd (fun c1=>absurd c1 (by omega)) (fun c1=>?_)
 refine bcd (fun c1=>absurd c1 (by omega)) (fun c1=>?_)
 refine Qd ?_
 refine bcd (fun c1=>absurd c1 (by omega)) (fun c1=>?_)
 have q1:p.1.tdiv 65536=p.1/65536:=Int.tdiv_eq_ediv_of_nonneg (by omega)
 have q2:p.2.tdiv 65536=p.2/65536:=Int.tdiv_eq_ediv_of_nonneg (by omega)
 have hx:0<=p.1/65536/\p.1/65536<=128:=by omega
 have hy:0<=p.2/65536/\p.2/65536<=128:=by omega
 have hm:0<=g.W*(p.2/65536)/\g.W*(p.2/65536)<=128*128:=⟨Int.mul_nonneg (by omega) hy.1,Int.mul_le_mul hs.2 hy.2 hy.1 (by decide)⟩
 refine⟨by decide,?_⟩
 refine in64 (by rw[q1];omega) ?_
 refine⟨by decide,?_⟩
 refine in64 (by rw[q2];omega) ?_
 refine in64 (by rw[q2];omega) ?_
 refine in64 (by rw[q1,q2];omega) ?_
 rw[q1,q2,<-e1]
 exact ret h
end Go.Proofs
