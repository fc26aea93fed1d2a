/- Ground of laws of thronglaw25: contracts and plain lemmas; no condition beyond the row's own. -/
import Derived.Test.YthjfdaifoocijaaGreatKZ
set_option linter.unusedSimpArgs false
set_option linter.unusedVariables false
set_option linter.defProp false
namespace Go.Proofs
open Go Go.V
set_option maxRecDepth 20000
set_option maxHeartbeats 4000000
section
variable {i j:Nat} {S:Store} {w:Wld} {v:AV}
def Qar{p:Prop}(h:p:=by repeat(first|exact Tv|refine⟨rfl,?_⟩|refine⟨zoo hp rfl,?_⟩|refine⟨⟨i,rfl,za _ (zn hlt) rfl⟩,?_⟩|refine⟨⟨iu,rfl,hiu,rfl⟩,?_⟩|refine⟨zoo hob (yq (i:=ti36) (row:=zf w.U[iu]) rfl rfl (xt yn hiu) rfl),?_⟩|refine⟨ze (by rw[zl];omega) rfl,?_⟩)):p:=h
def Qas{p:Prop}(h:p:=by repeat(first|exact Tv|refine⟨rfl,?_⟩|refine⟨zoo hp rfl,?_⟩|refine⟨⟨ix,rfl,hix,rfl⟩,?_⟩|refine⟨zoo hob (yq (i:=ti36) (row:=zf w.U[ix]) rfl rfl (xt yn hix) rfl),?_⟩)):p:=h
def Qat{p:Prop}(h:p:=by rw[Cw hlt hall (by rw[hA];decide),hA];decide):p:=h
def Qau{p:Prop}(h:p:=by rw[Faf];exact hi2):p:=h
def Qav{p:Prop}(h:p:=by rw[Fbm];rfl):p:=h
theorem Qaw{p:Prop}(h:p:=by rw[hA];decide):p:=h
def Va{U:List Unt}{J:List AV}(hi:i<U.length)(hj:j<10){y:AV}(hy:(zf U[i])[j]?=some y):(((rws zf U).flatten++J).drop (0+i*10+j)).head?=some y:=ψ4
def rq(hv:RowsQ 10 zf S v w.U)(hU:w.U.length<=1000000)(id:Int)(R:Ja)(h:R (y9 (z8 w.U id)) S):Jb 49 [.agg (zz w v),int id] S R:=by
 obtain⟨oa,cap,e,hget⟩:=hv.form;subst e;refine Qy 32 Tryz.func49 ?_
 refine AWp.loop (σ:=Nat×AV) ⟨λx=>[(1,.av (int id)),(2,.bx 2 0),(5,.av x.2),(6,.av (int (x.1:Nat)))],λ_=>[(2,zz w (.s (.slice oa w.U.length cap)))],
  λx st'=>x.1<=w.U.length/\App 1 S x.2 (rws zx (z8 (w.U.take x.1) id)) st',λx=>w.U.length-x.1⟩ zb ?_ ?_
 ·exact⟨(0,_),Tv,⟨Fad _,App.start 1 S⟩,⟨Tq,Tq,Tq,Tq,Tv⟩,⟨rfl,Tv⟩⟩
 rintro⟨i,v2⟩ st' ⟨hi,ha⟩;dsimp only at hi ha⊢;refine bcd (λh1=>?_) λh1=>?_;rotate_left
 ·have:i=w.U.length:=θ;subst this;rw[Fak]at ha;exact⟨_,_,ha.le,ha.has,h⟩
 have hlt:i<w.U.length:=θ;have hs:=f0 hlt id;have hl1:(z8 (w.U.take i) id).length<=1000000:=by have h1:=O6 (l:=w.U) i id;have h2:(z8 w.U id).length<=w.U.length:=θk;omega
 obtain⟨b,J,e2,hob⟩:=hget i hlt;have hob:st'.obj b=some (.cells ((rws zf w.U).flatten++J)):=by rw[ha.obj];exact hob
 subst e2;refine⟨i,rfl,hlt,Qbs (za (o:=List.head? _) (int w.U[i].inn) (Va (j:=8) hlt ψ rfl) (zt (λc1=>?_) λc1=>?_))⟩
 ·rw[if_pos c1]at hs;refine⟨i,rfl,hlt,Qbs (za (o:=List.head? _) (int w.U[i].id) (Va (j:=0) hlt ψ rfl) ?_)⟩;refine⟨ψ,Ba (ie:=ti2) (rows':=[zx w.U[i].id]) ha ?_ ?_ ⟨?_,?_⟩ λv3 st3 ha3=>?_⟩
  ·rfl
  ·rfl
  ·simp only[zl,Fao,ti2];omega
  ·simp only[zl,Fao];omega
  refine Qd ⟨(i+1,v3),?_,⟨ζ,?_⟩,Qbn,⟨rfl,Tv⟩⟩
  ·show w.U.length-(i+1)<w.U.length-i;omega
  ·dsimp only;rw[hs];unfold rws at ha3⊢;rw[Fa8];exact ha3
 ·rw[if_neg c1,Fbl]at hs;refine Qd ⟨(i+1,v2),?_,⟨ζ,?_⟩,Qbn,⟨rfl,Tv⟩⟩
  ·show w.U.length-(i+1)<w.U.length-i;omega
  ·dsimp only;rw[hs];exact ha
def ycx(hv:RowsQ 10 zf S v w.U)(hU:w.U.length<=1000000)(P id:Int)(R:Ja)(h:R (int (xm w P id)) S):Jb 175 [.agg (zz w v),int P,int id] S R:=
 ACalls.read (ys:=[.agg (zp w),int P,int id]) (Q:=λr=>r=int (xm w P id)) (λOth M W vs sto hr=>by
  obtain⟨hl,h2⟩:=hr
  match vs,hl with
  |[a,b,c],_=>exact Reads.cons (Dh hv sto (h2 0 _ a rfl rfl)) (Reads.cons (qv (h2 1 _ b rfl rfl)) (Reads.cons (qv (h2 2 _ c rfl rfl)) Reads.nil))) (de w hU P id _ _ rfl) (λr hr=>hr▸Cu _) λr hr=>hr▸h
def ycs(w:Wld)(hU:w.U.length<=1000000)(hk:∀u∈w.U,kr u.kind)(c:Cmd)(st:Store)(R:Ja)(h:R (int (vj w c.P c.N)) st):Jb 179 [.agg (zp w),.agg (yh c)] st R:=by
 unfold vj at h;refine Qy 29 Tryz.func179 ?_;refine de w hU c.P c.N _ _ ?_;refine Qc zb zx2 (zt (λc1=>?_) λc1=>?_);rotate_left
 ·rw[if_neg c1]at h;exact Qbq (Qbq (ret h))
 rw[if_pos c1]at h;obtain⟨i,hi,hf,hid,hu,_,_⟩:=Ce c1;rw[hu]at h;refine⟨cu w hU c.N _ _ ⟨Qe,?_⟩,Tv⟩;rw[hf];refine⟨i,rfl,za _ (zn hi) ⟨Cn w.U[i].kind (hk _ (Faa hi)) _ _ ⟨Qe,zt (λc2=>?_) λc2=>?_⟩,Tv⟩⟩
 ·rw[if_pos c2]at h;exact ret h
 ·rw[if_neg c2]at h;rw[<-c1]at h;exact ret h
def sk(hv:RowsQ 10 zf S v w.U)(hU:w.U.length<=1000000)(hk:∀u∈w.U,kr u.kind)(c:Cmd)(R:Ja)(h:R (int (vj w c.P c.N)) S):Jb 179 [.agg (zz w v),.agg (yh c)] S R:=
 ACalls.read (ys:=[.agg (zp w),.agg (yh c)]) (Q:=λr=>r=int (vj w c.P c.N)) (λOth M W vs sto hr=>θ7) (ycs w hU hk c _ _ rfl) (λr hr=>hr▸Cu _) λr hr=>hr▸h
def C8{b:Nat}{U:List Unt}{J:List AV}{x':Unt}{ys:List AV}(ho:S.obj b=some (.cells ((rws zf U).flatten++J)))(hi:i<U.length)(hj:j+ys.length<=10)(hx:zf x'=zv (zf U[i]) j ys):(S.sO b (.cells (zv ((rws zf U).flatten++J) (0+i*10+j) ys))).obj b=some (.cells ((rws zf (U.set i x')).flatten++J)):=by rw[zd,Fbg,Gz (f:=zf) (k:=10) (x':=x') yn hi hj hx]
def ybn{p:Nat}(hp:S.obj p=some (.cells (zz w v)))(hv:RowsQ 10 zf S v w.U)(hoff:xz v p)(hmp:ya w)(hn:∀u∈w.U,u.pos.ok)(c:Cmd)(hcU:c.U.length<=64)(hN:1<=c.N)(R:Ja)
  (h:∀S',ldE w c≠0->R (int (ldE w c)) S') (h0:ldE w c=0->∀S' v',S'.obj p=some (.cells (zz (ldW w c) v'))->RowsQ 10 zf S' v' (ldW w c).U->R (int 0) S'):Jb 118 [ptr p,.agg (yh c)] S R:=by
 have hm:=xh hmp;have hU:=hm.hU;obtain⟨oa,cap,e,hget⟩:=hv.form;subst e;refine Qb (c:=cfg 135) zb Tryz.func118 ?_;refine AWp.seq (AWp.of_vc zb ?_);refine AWp.seq (AWp.of_vc zb ?_);refine Qc zb zzv (Qbs ?_);refine⟨sk hv θ hm.hk c _ ⟨Qe,Qbr (AWp.seq (AWp.of_vc zb (qd (λc1=>?_) λc1=>?_)))⟩,Tv⟩
 ·have:=zav c1;rw[this]at h;exact ret (h _ c1)
 obtain⟨hask,hroom⟩:=Pk c1;obtain⟨ix,hix,hfx,hidx,hux,_,_⟩:=Ce hask;rw[hux]at hroom;have hkb:=K7 w.U[ix].kind;have hin:(z8 w.U c.N).length<=w.U.length:=θk;refine AWp.meetA (σ:=Unit) ⟨λ_=>[(0,.av (ptr p)),(3,.bx 3 0),(6,.bx 6 0)],λ_=>[(3,yh c),(6,zf w.U[ix])],λ_ st'=>st'=S⟩ ?_ ?_
 ·refine AWp.of_vc zb (Qc zb zzr (Qbs (Qbs ?_)));obtain⟨b,J,e2,hob⟩:=hget ix hix;subst e2;refine⟨Gc hv θ c.N _ ⟨Qas,?_⟩,⟨Qas,?_⟩,Tv⟩
  ·rw[hfx];refine⟨ix,rfl,hix,Qbs (yq (i:=ti36) (row:=zf w.U[ix]) rfl rfl (xt yn hix) ?_)⟩;exact⟨⟨Qas,Qbr ⟨(),rfl,Qbn,⟨rfl,rfl,Tv⟩⟩⟩,Tv⟩
  ·refine⟨Gc hv θ c.N _ ⟨Qas,?_⟩,Tv⟩;rw[hfx];refine⟨ix,rfl,hix,Qbs (yq (i:=ti36) (row:=zf w.U[ix]) rfl rfl (xt yn hix) (Qbr ?_))⟩;exact⟨(),rfl,Qbn,⟨rfl,rfl,Tv⟩⟩
 rintro _ S rfl;refine AWp.of_vc zb ?_
 refine AWp.loop (σ:=Nat) ⟨λi=>[(0,.av (ptr p)),(3,.bx 3 0),(6,.bx 6 0),(7,.av (int (i:Nat)))],λ_=>[(3,yh c),(6,zf w.U[ix])],
  λi st'=>i<=c.U.length/\st'=S/\∀j,(hj:j<c.U.length)->j<i->ldA w c.P c.N c.U[j]=0,λi=>c.U.length-i⟩ zb ?_ ?_
 ·exact⟨0,Tv,⟨Fad _,rfl,λj _ hj=>θ⟩,Qbn,⟨rfl,rfl,Tv⟩⟩
 rintro i S ⟨hi,rfl,hall⟩;refine zh (λh1=>?_) λh1=>?_
 ·have hlt:=qn h1;refine Qc zb zzq (Qbs ?_);refine⟨i,rfl,za _ (zn hlt) ⟨ycx hv θ c.P c.U[i] _ ⟨Qe,Qbr (qd (λc2=>?_) λc2=>?_)⟩,Tv⟩⟩
  ·have hA:ldA w c.P c.N c.U[i]=xm w c.P c.U[i]:=by unfold ldA;rw[if_neg c2]
   have e5:=Mp c1 (by rw[Cw hlt hall (by rw[hA];exact c2),hA];exact c2);rw[Cw hlt hall (by rw[hA];exact c2),hA]at e5;rw[e5]at h;exact ret (h _ c2)
  obtain⟨iu,hiu,hfu,hidu,huu,_,_⟩:=Ce c2;have hA:ldA w c.P c.N c.U[i]=Ag w.U[ix] w.U[iu]:=by unfold ldA;rw[if_pos c2,hux,huu]
  obtain⟨b,J,e2,hob⟩:=hget iu hiu;subst e2;refine Qc zb zzu (Qbs (Qbs ?_));refine⟨i,rfl,za _ (zn hlt) ⟨Gc hv θ c.U[i] _ ⟨Qar,?_⟩,⟨Qar,?_⟩,Tv⟩⟩
  ·rw[hfu];refine⟨iu,rfl,hiu,Qbs (yq (i:=ti36) (row:=zf w.U[iu]) rfl rfl (xt yn hiu) ?_)⟩;refine⟨⟨Qar,Qbr (Cn w.U[iu].kind (hm.hk _ (Faa hiu)) _ _ (bcd (λc3=>?_) λc3=>?_))⟩,Tv⟩
   ·have hmo:Ag w.U[ix] w.U[iu]=7:=by unfold Ag;rw[if_pos c3]
    rw[hmo]at hA;have e5:=Mp c1 Qat;rw[Cw hlt hall Qaw,hA]at e5;rw[e5]at h;exact ret (h _ ψ)
   refine cw w.U[iu].pos w.U[ix].pos (hn _ (Faa hiu)) (hn _ (Faa hix)) _ _ (bcd (λc4=>?_) λc4=>?_)
   ·have hmo:Ag w.U[ix] w.U[iu]=8:=by unfold Ag;rw[if_neg c3,if_pos c4]
    rw[hmo]at hA;have e5:=Mp c1 Qat;rw[Cw hlt hall Qaw,hA]at e5;rw[e5]at h;exact ret (h _ ψ)
   have hmo:Ag w.U[ix] w.U[iu]=0:=by unfold Ag;rw[if_neg c3,if_neg c4]
   rw[hmo]at hA;refine Qd ⟨i+1,?_,⟨θ,rfl,λj hj hji=>?_⟩,Qbn,⟨rfl,rfl,Tv⟩⟩
   ·show c.U.length-(i+1)<c.U.length-i;omega
   ·by_cases e:j=i
    ·subst e;exact hA
    ·exact hall j hj θ
  ·refine⟨Gc hv θ c.U[i] _ ⟨Qar,?_⟩,Tv⟩;rw[hfu];refine⟨iu,rfl,hiu,Qbs (yq (i:=ti36) (row:=zf w.U[iu]) rfl rfl (xt yn hiu) (Qbr (Cn w.U[iu].kind (hm.hk _ (Faa hiu)) _ _ (bcd (λc3=>?_) λc3=>?_))))⟩
   ·have hmo:Ag w.U[ix] w.U[iu]=7:=by unfold Ag;rw[if_pos c3]
    rw[hmo]at hA;have e5:=Mp c1 Qat;rw[Cw hlt hall Qaw,hA]at e5;rw[e5]at h;exact ret (h _ ψ)
   refine cw w.U[iu].pos w.U[ix].pos (hn _ (Faa hiu)) (hn _ (Faa hix)) _ _ (bcd (λc4=>?_) λc4=>?_)
   ·have hmo:Ag w.U[ix] w.U[iu]=8:=by unfold Ag;rw[if_neg c3,if_pos c4]
    rw[hmo]at hA;have e5:=Mp c1 Qat;rw[Cw hlt hall Qaw,hA]at e5;rw[e5]at h;exact ret (h _ ψ)
   have hmo:Ag w.U[ix] w.U[iu]=0:=by unfold Ag;rw[if_neg c3,if_neg c4]
   rw[hmo]at hA;refine Qd ⟨i+1,?_,⟨θ,rfl,λj hj hji=>?_⟩,Qbn,⟨rfl,rfl,Tv⟩⟩
   ·show c.U.length-(i+1)<c.U.length-i;omega
   ·by_cases e:j=i
    ·subst e;exact hA
    ·exact hall j hj θ
 have:i=c.U.length:=qw h1 hi;subst this;have hzero:jk (ldA w c.P c.N) c.U=0:=Pq λj hj=>hall j hj hj;have e5:=zau c1 hzero;rw[hux]at e5;have hall:=Gu hzero;refine Qc zb zzt (Qbs ?_);refine⟨rq hv θ c.N _ ⟨Qe,ze (by rw[zl,zl];omega) ⟨Cn w.U[ix].kind (hm.hk _ (Faa hix)) _ _ ⟨Qe,bcd (λh2=>?_) λh2=>?_⟩,Tv⟩⟩,Tv⟩
 ·rw[zl,zl]at h2;rw[if_pos h2]at e5;rw[e5]at h;exact ret (h _ ψ)
 rw[zl,zl]at h2;rw[if_neg h2]at e5
 refine AWp.loop (σ:=Nat×Store) ⟨λx=>[(0,.av (ptr p)),(3,.bx 3 0),(9,.av (int (x.1:Nat)))],λ_=>[(3,yh c)],
  λx st'=>x.1<=c.U.length/\st'=x.2/\x.2.obj p=some (.cells (zz w (.s (.slice oa w.U.length cap))))/\RowsQ 10 zf x.2 (.s (.slice oa w.U.length cap)) (yx (c.U.take x.1) (ldU c.N) w.U),λx=>c.U.length-x.1⟩ zb ?_ ?_
 ·refine⟨(0,S),Tv,⟨Fad _,rfl,hp,?_⟩,Qbn,⟨rfl,Tv⟩⟩;dsimp only;rw[Fcj,Ma];exact hv
 rintro⟨k,S0⟩ S1 ⟨hk,rfl,hp1,hr1⟩;dsimp only at hk hp1 hr1⊢;refine zh (λh1=>?_) λh1=>?_;rotate_left
 ·have hkl:k=c.U.length:=qw h1 hk;subst hkl;rw[Fak]at hr1;exact ret (h0 e5 _ _ hp1 hr1)
 have hlt:=qn h1;obtain⟨iu,hiu,hfu,hidu,huu,_,_⟩:=Ce (fj (hall c.U[k] (Faa hlt))).1;have hi2:iu<(yx (c.U.take k) (ldU c.N) w.U).length:=by rw[wd];exact hiu
 have hf2:qa (yx (c.U.take k) (ldU c.N) w.U) c.U[k]=some iu:=by rw[zb4 (g:=ldU c.N) (λ_=>rfl)];exact hfu
 rcases hr1 with(⟨_,hl0⟩|⟨b,cap',J,e,ho,hc1,hc2,hc3⟩)|⟨_,_,_,hl0⟩
 ·rw[hl0]at hi2;exact absurd hi2 (Fau iu)
 rotate_left
 ·rw[hl0]at hi2;exact absurd hi2 (Fau iu)
 simp only[AV.s.injEq,Value.slice.injEq]at e;obtain⟨rfl,e7,rfl⟩:=e;have hcap:0<cap:=θ;have hbp:b≠p:=hoff b _ _ rfl hcap;refine Qc zb zzs (Qbs (Qbs ?_));refine⟨k,rfl,za _ (zn hlt) ⟨Gc (w:={w with U:=yx (c.U.take k) (ldU c.N) w.U}) (.inl (.inr ⟨b,cap,J,by rw[e7],ho,hc1,hc2,hc3⟩)) (by rw[wd];omega) c.U[k] _ ⟨Qe,?_⟩,Tv⟩⟩;dsimp only;rw[hf2];refine⟨iu,rfl,hiu,Qbr ?_⟩;have e8:(yx (c.U.take k) (ldU c.N) w.U).length=w.U.length:=wd _ _ _;have hidk:(yx (c.U.take k) (ldU c.N) w.U).set iu (ldU c.N (yx (c.U.take k) (ldU c.N) w.U)[iu])=yx (c.U.take (k+1)) (ldU c.N) w.U:=by
  have e5:c.U.take k++[w.U[iu].id]=c.U.take (k+1):=by rw[Fab hlt,hidu]
  have e6:ldU c.N ((yx (c.U.take k) (ldU c.N) w.U)[iu])=ldU c.N w.U[iu]:=by rw[Mb hiu];split<;>rfl
  rw[e6,Rm hm.hr hiu,e5]
 generalize hgU:yx (c.U.take k) (ldU c.N) w.U=U1 at*;refine xo (i:=ti2) (v:=int c.N) (b:=b) (o:=0+iu*10+8) (l:=(rws zf (U1)).flatten++J) rfl rfl rfl ho (show 0+iu*10+8+1<=_ by rw[Fae,qr yn,e8];omega) ?_;have q1:=C8 (x':={U1[iu]with inn:=c.N}) (ys:=[int c.N]) (j:=8) ho hi2 (show 8+1<=10 by decide) rfl;have p1:=(zj (st:=S1) (x:=.cells (zv ((rws zf (U1)).flatten++J) (0+iu*10+8) [int c.N])) (Ne.symm hbp)).trans hp1;generalize S1.sO b _=S2 at q1 p1⊢;refine jq (i:=ti33) (v:=.agg [int 0,int 0]) (xs:=[int 0,int 0]) (b:=b) (o:=0+iu*10+3) (l:=(rws zf (U1.set iu {U1[iu]with inn:=c.N})).flatten++J) rfl rfl rfl q1 (show 0+iu*10+3+2<=_ by rw[Fae,qr yn,Faf,e8];omega) ?_;have q2:=C8 (x':={U1[iu]with inn:=c.N,pos:=(0,0)}) (ys:=[int 0,int 0]) (j:=3) q1 Qau ψ Qav;rw[Fbr]at q2;have p2:=(zj (st:=S2) (x:=.cells (zv ((rws zf (U1.set iu {U1[iu]with inn:=c.N})).flatten++J) (0+iu*10+3) [int 0,int 0])) (Ne.symm hbp)).trans p1;generalize S2.sO b _=S3 at q2 p2⊢;refine xo (i:=ti2) (v:=int (-1)) (b:=b) (o:=0+iu*10+5) (l:=(rws zf (U1.set iu {U1[iu]with inn:=c.N,pos:=(0,0)})).flatten++J) rfl rfl rfl q2 (show 0+iu*10+5+1<=_ by rw[Fae,qr yn,Faf,e8];omega) ?_;have q3:=C8 (x':={U1[iu]with inn:=c.N,pos:=(0,0),goal:=-1}) (ys:=[int (-1)]) (j:=5) q2 Qau ψ Qav;rw[Fbr]at q3;have p3:=(zj (st:=S3) (x:=.cells (zv ((rws zf (U1.set iu {U1[iu]with inn:=c.N,pos:=(0,0)})).flatten++J) (0+iu*10+5) [int (-1)])) (Ne.symm hbp)).trans p2;generalize S3.sO b _=S4 at q3 p3⊢;refine xo (i:=ti2) (v:=int (-1)) (b:=b) (o:=0+iu*10+6) (l:=(rws zf (U1.set iu {U1[iu]with inn:=c.N,pos:=(0,0),goal:=-1})).flatten++J) rfl rfl rfl q3 (show 0+iu*10+6+1<=_ by rw[Fae,qr yn,Faf,e8];omega) ?_;have q4:=C8 (x':={U1[iu]with inn:=c.N,pos:=(0,0),goal:=-1,next:=-1}) (ys:=[int (-1)]) (j:=6) q3 Qau ψ Qav;rw[Fbr]at q4;have p4:=(zj (st:=S4) (x:=.cells (zv ((rws zf (U1.set iu {U1[iu]with inn:=c.N,pos:=(0,0),goal:=-1})).flatten++J) (0+iu*10+6) [int (-1)])) (Ne.symm hbp)).trans p3;generalize S4.sO b _=S5 at q4 p4⊢;refine xo (i:=ti2) (v:=int 0) (b:=b) (o:=0+iu*10+7) (l:=(rws zf (U1.set iu {U1[iu]with inn:=c.N,pos:=(0,0),goal:=-1,next:=-1})).flatten++J) rfl rfl rfl q4 (show 0+iu*10+7+1<=_ by rw[Fae,qr yn,Faf,e8];omega) ?_;have q5:=C8 (x':={U1[iu]with inn:=c.N,pos:=(0,0),goal:=-1,next:=-1,stuck:=0}) (ys:=[int 0]) (j:=7) q4 Qau ψ Qav;rw[Fbr]at q5;have p5:=(zj (st:=S5) (x:=.cells (zv ((rws zf (U1.set iu {U1[iu]with inn:=c.N,pos:=(0,0),goal:=-1,next:=-1})).flatten++J) (0+iu*10+7) [int 0])) (Ne.symm hbp)).trans p4;generalize S5.sO b _=S6 at q5 p5⊢;refine xo (i:=ti2) (v:=int 0) (b:=b) (o:=0+iu*10+9) (l:=(rws zf (U1.set iu {U1[iu]with inn:=c.N,pos:=(0,0),goal:=-1,next:=-1,stuck:=0})).flatten++J) rfl rfl rfl q5 (show 0+iu*10+9+1<=_ by rw[Fae,qr yn,Faf,e8];omega) ?_;have q6:=C8 (x':=ldU c.N U1[iu]) (ys:=[int 0]) (j:=9) q5 Qau ψ Qav;rw[Fbr]at q6;have p6:=(zj (st:=S6) (x:=.cells (zv ((rws zf (U1.set iu {U1[iu]with inn:=c.N,pos:=(0,0),goal:=-1,next:=-1,stuck:=0})).flatten++J) (0+iu*10+9) [int 0])) (Ne.symm hbp)).trans p5;generalize S6.sO b _=S7 at q6 p6⊢;rw[hidk]at q6;refine Qd ?_;have e9:(yx (c.U.take (k+1)) (ldU c.N) w.U).length=w.U.length:=wd _ _ _;refine⟨(k+1,S7),?_,⟨ζ,rfl,p6,.inl (.inr ⟨b,cap,J,by rw[e9],q6,by rw[e9,<-e8];exact hc1,by rw[e9,<-e8];exact hc2,hc3⟩)⟩,Qbn,⟨rfl,Tv⟩⟩;show c.U.length-(k+1)<c.U.length-k;omega
def yc0(w:Wld)(hw:w.fits)(hn:∀u∈w.U,u.pos.ok)(hU:w.U.length<=1000000)(c:Cmd)(hc:c.fits)(hK:c.K=6):Jb 72 [.agg (zp w),.agg (yh c)] Store.empty (DoQ ldE ldW w c):=by
 refine Qa (c:=cfg 97 [6] []) zb Tryz.func72 ?_;have bad:(¬ya w\/¬js c\/w.players<c.P)->DoQ ldE ldW w c (.tup [.agg (zp w),int 1]) Store.empty:=λhb=>by have he:=Gq (E:=ldE) (w:=w) (c:=c) hb;exact .inl ⟨θa,by rw[he]⟩
 refine Ga w hw hn _ _ λz hz=>ye (zh (λc1=>?_) λc1=>?_);rotate_left
 ·exact ret (bad (.inl λhh=>θg))
 refine I3 c hc _ _ λzc hzc=>ye (zh (λc2=>?_) λc2=>?_);rotate_left
 ·exact ret (bad (.inr (.inl λhh=>θr)))
 refine bcd (λc3=>?_) λc3=>?_
 ·exact ret (bad (.inr (.inr θ)))
 have hm:=hz.1 c1;have hcp:=hzc.1 c2;have he:=Hp (E:=ldE) hm hcp (show c.P<=w.players by omega);have hok:=(Cmd.ok6 hK).1 hcp.1;refine I2 w hw hU _ _ λv N hv _=>?_;rw[Bc];have hv:=hv.q;have hoff:=λ(p:Nat) (hp:Fresh N p)=>Cp hv (k8 (fresh_iff.1 hp)).1;obtain⟨oa,cap,e,_⟩:=hv.form;subst e;refine λp hp=>jq (i:=ti27) (v:=.agg (zz w (.s (.slice oa w.U.length cap)))) (xs:=zz w (.s (.slice oa w.U.length cap))) (b:=p) (o:=0) (l:=_) rfl rfl rfl (zd _ _ _) (show 0+8<=8 by decide) ?_;generalize hS:(N.sO p _).sO p _=S;have hp2:S.obj p=some (.cells (zz w (.s (.slice oa w.U.length cap)))):=θs;have hr2:RowsQ 10 zf S (.s (.slice oa w.U.length cap)) w.U:=θt;refine zt (λh=>absurd (hK.symm.trans h) ψ) λ_=>zt (λh=>absurd (hK.symm.trans h) ψ) λ_=>zt (λh=>absurd (hK.symm.trans h) ψ) λ_=>zt (λh=>absurd (hK.symm.trans h) ψ) λ_=>zt (λh=>absurd (hK.symm.trans h) ψ) λ_=>zt (λ_=>ybn hp2 hr2 (hoff p hp) hm hn c hok.1.1.2 hok.2.1 _ (λS' hE=>?_) λhE S' v' g1 g2=>?_) λh=>absurd hK h
 ·exact qd (λ_=>ret (.inl ⟨θu,by rw[he];rfl⟩)) λh=>absurd h hE
 ·obtain⟨oa2,cap2,e2,_⟩:=g2.form;subst e2;refine Qbs ?_;exact ret (.inr ⟨he.trans hE,_,g2,rfl⟩)
def ycc:Kf 6 ldE ldW:=λw hw hn hU c hc hK R h=>Lf (yc0 w hw hn hU c hc hK) R h
end
theorem max2_eq(a b:Int):max2 a b=max a b:=by
 unfold max2;by_cases h:b>a
 ·rw[decide_eq_true h];show b=_;omega
 ·rw[decide_eq_false h];show a=_;omega
def za3{f:FuncId}{xs:List AV}{l:List Int}(h0:Jb f xs Store.empty λr S=>RowsQ 1 zx S r l)(st:Store)(R:Ja)(h:R (y9 l) st):Jb f xs st R:=by
 have h1:=h0.frozen (R:=λr=>r=y9 l) (by rintro r S hv;exact⟨_,rfl,λOth M w' v' sto hx=>RowsQ.borrow (f:=zx) (k:=1) (λ_=>rfl) (λx y hy=>by simp[zx]at hy;exact⟨_,hy,rfl⟩) hv sto hx⟩)
 have h2:Jb f xs Store.empty λr S=>r=y9 l/\S=Store.empty:=
  h1.post (Store.Le.refl _) λr st' hr=>⟨r,Store.empty,AV.le_refl r,(Ca st').toLe,hr,rfl⟩
 rw[<-xr st];exact ACalls.frame (Dd st) h2 λr S ⟨e,e2⟩ hd=>by subst e e2;rw[xr];exact h
def rr{α:Type}{k:Nat}{f:α->List AV}(S:Store):RowsQ k f S (.s (.slice none 0 0)) ([]:List α):=.inl (.inl ⟨rfl,rfl⟩)
def yoq(g:Gnd)(hg:zw g)(f:Nat->Bool)(size:Int)(hs:0<=size/\size<=3)(t:Nat)(ht:t<g.T.length)(n:Nat)(hn:n<=1000):
  Jb 301 [.agg (zq g),lst 1 ji (blL g.T.length f),int size,int t,int n] Store.empty λr S=>RowsQ 1 zx S r (yz (Dl g f size (t:Int) n)):=by
 have hm:=qg hg;have hg1:=hg.1;have hg2:=hg.2.1;have hdone:=λ(d:Nat) hh=>o9 hg (f:=f) (size:=size) (goal:=(t:Int)) (d:=d) (n:=n) ⟨θ,θ⟩ hh;have hstep:=λ(x y:Int) (k d:Nat) hk hd=>zuy (g:=g) (f:=f) (x:=x) (y:=y) (k:=k) (d:=d) hk hd;obtain⟨k,hk⟩:∃k:Nat,2*size+1=(k:Int):=⟨(2*size+1).toNat,θ⟩
 rw[hk]at hdone;have ring:=ybr g hg t ht;generalize hx:(t:Int)%g.W=x at*;generalize hy:(t:Int)/g.W=y at*;refine Qy 60 Tryz.func301 ?_;refine Qd ?_;refine Qd ?_
 refine AWp.loop (σ:=Nat×AV) ⟨λs=>[(1,.av (lst 1 ji (blL g.T.length f))),(3,.av (int (t:Nat))),(4,.av (int (n:Nat))),(5,.bx 5 0),(10,.av s.2),(11,.av (int (k:Nat))),(12,.av (int ((s.1*k:Nat))))],λ_=>[(5,zq g)],
  λs st'=>s.1*k<=200/\RowsQ 1 zx st' s.2 (yz ((jg g f x y k (s.1*k)).take n)),λs=>300-s.1*k⟩ zb ?_ ?_
 ·refine⟨(0,_),Tv,⟨ζ,?_⟩,⟨Tq,Tq,Tq,Tq,Tq,?_,?_,Tv⟩,⟨rfl,Tv⟩⟩
  ·dsimp only;rw[Nat.zero_mul];show RowsQ 1 zx _ _ (yz (([]:List Nat).take n));rw[List.take_nil];exact rr _
  ·rw[<-hk];exact Tq
  ·dsimp only;rw[Nat.zero_mul];exact Tq
 rintro⟨m,v⟩ st' ⟨hm2,hap⟩;dsimp only at hm2 hap⊢;obtain⟨d,hd⟩:∃d:Nat,m*k=d:=⟨_,rfl⟩
 have hdv:k∣d:=⟨m,by rw[Nat.mul_comm];exact hd.symm⟩
 have hm1:(m+1)*k=d+k:=by rw[Fch,Nat.one_mul,hd]
 rw[hd]at hm2 hap⊢;obtain⟨oa,cap,e,_⟩:=hap.form;subst e;have hlenT:(yz ((jg g f x y k d).take n)).length=((jg g f x y k d).take n).length:=By _;refine bcd (λh1=>?_) λh1=>?_;rotate_left
 ·rw[max2_eq]at h1;have e:=hdone d (.inr θ);exact ret (by rw[<-e];exact hap)
 refine bcd (λh2=>?_) λh2=>?_;rotate_left
 ·rw[hlenT,Fam]at h2;have e:=hdone d (.inl θ);exact ret (by rw[<-e];exact hap)
 have h1:(d:Int)<=max g.W g.H:=by rw[max2_eq]at h1;exact h1
 refine ring d k ⟨θ,θ⟩ ⟨θ,θ⟩ _ _ ?_;have hstep:=hstep x y k d θ hdv;have hL:∀u∈Fb g x y k d,u<g.T.length:=λu hu=>Fbd.1 (Fb4.1 hu).1;have hLl:(Fb g x y k d).length<=g.T.length:=by have:=Fbk (j8 g x y k d) (List.range g.T.length);rw[Fds]at this;exact this
 have hslot:Bj g f x y k d=(Fb g x y k d).filter f:=rfl;rw[hslot]at hstep;generalize Fb g x y k d=L at*;generalize hA:jg g f x y k d=A at*
 refine AWp.loop (σ:=Nat×AV) ⟨λs=>[(1,.av (lst 1 ji (blL g.T.length f))),(3,.av (int (t:Nat))),(4,.av (int (n:Nat))),(5,.bx 5 0),(10,.av s.2),(11,.av (int (k:Nat))),(12,.av (int (d:Nat))),(38,.av (y9 (yz L))),(39,.av (int (L.length:Nat))),(40,.av (int (s.1:Nat)))],λ_=>[(5,zq g)],
  λs st'=>s.1<=L.length/\RowsQ 1 zx st' s.2 (yz ((A++(L.take s.1).filter f).take n)),λs=>L.length-s.1⟩ zb ?_ ?_
 ·refine⟨(0,_),Tv,⟨Fad _,?_⟩,⟨Tq,Tq,Tq,Tq,Tq,Tq,Tq,Tq,?_,Tq,Tv⟩,⟨rfl,Tv⟩⟩
  ·dsimp only;rw[Fcj,List.filter_nil,Fbl];exact hap
  ·show LV.le (.av (int ((rws zx (yz L)).length:Nat))) (.av (int (L.length:Nat)));rw[zl,By];exact Tq
 rintro⟨i,v2⟩ st2 ⟨hi,hap2⟩;dsimp only at hi hap2⊢;refine bcd (λh3=>?_) λh3=>?_;rotate_left
 ·have:i=L.length:=θ;subst this;rw[Fak,<-hstep]at hap2;refine Qd ⟨(m+1,v2),?_,⟨ζ,?_⟩,⟨Tq,Tq,Tq,Tq,Tq,Tq,?_,Tv⟩,⟨rfl,Tv⟩⟩
  ·show 300-(m+1)*k<300-m*k;omega
  ·dsimp only;rw[hm1];exact hap2
  ·dsimp only;rw[hm1,Int.natCast_add];exact Tq
 have hlt:i<L.length:=θ;have hlt2:i<(yz L).length:=by rw[By];exact hlt
 have hu:=hL _ (Faa hlt);have hnat:(yz L)[i]'hlt2=((L[i]'hlt:Nat):Int):=Fbp ..;have hu2:L[i]<(blL g.T.length f).length:=by rw[xx];exact hu
 have htk:(L.take (i+1)).filter f=(L.take i).filter f++[L[i]].filter f:=by rw[Fab hlt,Fcr]
 obtain⟨oa2,cap2,e2,_⟩:=hap2.form;subst e2;have hlenT2:(yz ((A++(L.take i).filter f).take n)).length=((A++(L.take i).filter f).take n).length:=By _;have hdec:L.length-(i+1)<L.length-i:=θ;refine⟨i,rfl,za _ (zn hlt2) ⟨L[i],hnat,za _ (zn hu2) ?_⟩⟩;rw[Br hu];refine zh (λc1=>?_) λc1=>?_;rotate_left
 ·have e:[L[i]].filter f=[]:=by simp[c1]
  rw[e,Fbl]at htk;exact Qd ⟨(i+1,_),hdec,⟨ζ,by dsimp only;rw[htk];exact hap2⟩,⟨Tq,Tq,Tq,Tq,Tq,Tq,Tq,Tq,Tq,Tq,Tv⟩,⟨rfl,Tv⟩⟩
 have e:[L[i]].filter f=[L[i]]:=by simp[c1]
 rw[e]at htk;have hsn:=n8 (A++(L.take i).filter f) L[i] n;rw[Faw,<-htk]at hsn;refine bcd (λc2=>?_) λc2=>?_
 ·have c2:(A++(L.take i).filter f).length<n:=(bh _ _).1 (by rw[hlenT2]at c2;omega);rw[if_pos c2]at hsn;refine⟨ψ,?_⟩;have hTl:((A++(L.take i).filter f).take n).length<=1000:=by rw[Fam];omega
  refine ww (ie:=ti2) rfl (λ_=>rfl) ψ hap2 ((yz L)[i]'hlt2) rfl (by rw[hlenT2];omega) λb cap3 L3 q1 q2 q3 q4=>?_;have h3:RowsQ 1 zx (st2.sO b _) _ _:=.inl (.inr ⟨b,cap3,L3,rfl,zd _ _ _,q2,q3,q4⟩);refine Qd ⟨(i+1,_),hdec,⟨ζ,?_⟩,⟨Tq,Tq,Tq,Tq,Tq,Tq,Tq,Tq,Tq,Tq,Tv⟩,⟨rfl,Tv⟩⟩;dsimp only;rw[hsn,ef,show yz [L[i]]=[(yz L)[i]'hlt2] by rw[hnat];rfl];exact h3
 ·have c2:¬(A++(L.take i).filter f).length<n:=λhh=>c2 (by have:=(bh (A++(L.take i).filter f) n).2 hh;rw[hlenT2];omega);rw[if_neg c2]at hsn;refine Qd ⟨(i+1,_),hdec,⟨ζ,?_⟩,⟨Tq,Tq,Tq,Tq,Tq,Tq,Tq,Tq,Tq,Tq,Tv⟩,⟨rfl,Tv⟩⟩;dsimp only;rw[hsn];exact hap2
def yop(g:Gnd)(hg:zw g)(f:Nat->Bool)(size:Int)(hs:0<=size/\size<=3)(t:Nat)(ht:t<g.T.length)(n:Nat)(hn:n<=1000)(st:Store)(R:Ja)(h:R (y9 (yz (Dl g f size (t:Int) n))) st):
  Jb 301 [.agg (zq g),lst 1 ji (blL g.T.length f),int size,int t,int n] st R:=
 za3 (yoq g hg f size hs t ht n hn) st R h
def zam(i j:Int):max2 (max2 i (0-i)) (max2 j (0-j))=Bs i j:=by rw[max2_eq,max2_eq,max2_eq];unfold Bs;omega
def zcb(p:Nat->Bool)(i:Nat):∀e:Nat,∃m,(List.range (i+e)).filter p=(List.range i).filter p++m
 |0=>⟨[],φ⟩
 |e+1=>by obtain⟨m,hm⟩:=zcb p i e;rw[show i+(e+1)=(i+e)+1 by omega,Fdc,Fcr,hm,Faw];exact⟨_,rfl⟩
theorem zuz(g:Gnd)(f:Nat->Bool)(x y k d:Int):Bj g f x y k d=(List.range g.T.length).filter (λt=>j8 g x y k d t&&f t):=by unfold Bj Fb;rw[List.filter_filter];refine Fei λt _=>?_;rw[Bool.and_comm]
def yau(g:Gnd)(hg:zw g)(l:List Bld)(hl:l.length<=1000000000000)(hb:∀b∈l,yi b/\onP g b)(c:Int)(hc:c=0\/c=1\/c=2)(size:Int)(hs:0<=size/\size<=3)(goal:Nat)(hgl:goal<g.T.length)(n:Nat)(hn:n<=1000):
  Jb 174 [.agg (zq g),lst 6 zi l,int c,int size,int goal,int n] Store.empty λr S=>RowsQ 1 zx S r (yz (Dl g (zo g l c size) size (goal:Int) n)):=by
 have hm:=qg hg;have hg1:=hg.1;have hg2:=hg.2.1;have htb:=Ck hg (t:=goal) θ;have hq:=D6 (t:=goal) hg.1.1;have hq2:=D7 (t:=goal) hg.1.1;have hdone:=λ(d:Nat) hh=>o9 hg (f:=zo g l c size) (size:=size) (goal:=(goal:Int)) (d:=d) (n:=n) ⟨θ,θ⟩ hh;have hend:Dl g (zo g l c size) size (goal:Int) n=(jg g (zo g l c size) ((goal:Int)%g.W) ((goal:Int)/g.W) (2*size+1) (g.W+g.H+1).toNat).take n:=rfl;have rg:=cr g hg l hl hb c hc size hs.1;unfold Dx at rg;generalize zo g l c size=f at*;refine Qy 111 Tryz.func174 ?_;refine rg _ _ ?_;obtain⟨k,hk⟩:∃k:Int,2*size+1=k:=⟨_,rfl⟩
 refine Qd (Qd (Qc zb zx7 ⟨θ,⟨θ,Qd (Qbq (Qbr ?_))⟩⟩));rw[hk]at hdone hend;generalize hx:(goal:Int)%g.W=x at*;generalize hy:(goal:Int)/g.W=y at*
 refine AWp.loop (σ:=Nat×AV) ⟨λs=>[(5,.av (int (n:Nat))),(6,.bx 6 0),(13,.av (lst 1 ji (blL g.T.length f))),(14,.av s.2),(15,.av (int k)),(16,.av (int x)),(17,.av (int y)),(18,.av (int (s.1:Nat)))],λ_=>[(6,zq g)],
  λs st'=>(s.1:Int)<=g.W+g.H+1/\RowsQ 1 zx st' s.2 (yz ((jg g f x y k s.1).take n)),λs=>400-s.1⟩ zb ?_ ?_
 ·refine⟨(0,_),Tv,⟨ζ,?_⟩,⟨Tq,Tq,Tq,Tq,?_,?_,?_,Tq,Tv⟩,⟨rfl,Tv⟩⟩
  ·dsimp only;show RowsQ 1 zx _ _ (yz (([]:List Nat).take n));rw[List.take_nil];exact rr _
  ·rw[<-hk];exact Tq
  ·rw[<-hq];exact Tq
  ·rw[<-hq2];exact Tq
 rintro⟨d,v⟩ st' ⟨hd,hap⟩;dsimp only at hd hap⊢;obtain⟨oa,cap,e,_⟩:=hap.form;subst e;have hlenT:(yz ((jg g f x y k d).take n)).length=((jg g f x y k d).take n).length:=By _;refine Qd (bcd (λh1=>?_) λh1=>?_);rotate_left
 ·have e:(g.W+g.H+1).toNat=d:=θ;rw[e]at hend;exact ret (by rw[hend];exact hap)
 refine bcd (λh2=>?_) λh2=>?_;rotate_left
 ·have e:=hdone d (.inl (by rw[hlenT,Fam]at h2;omega));exact ret (by rw[<-e];exact hap)
 have hstep:jg g f x y k (d+1)=jg g f x y k d++(List.range g.T.length).filter (λt=>j8 g x y k d t&&f t):=by rw[<-zuz];rfl
 generalize hA:jg g f x y k d=A at*
 refine AWp.loop (σ:=Nat×AV) ⟨λs=>[(5,.av (int (n:Nat))),(6,.bx 6 0),(13,.av (lst 1 ji (blL g.T.length f))),(14,.av s.2),(15,.av (int k)),(16,.av (int x)),(17,.av (int y)),(18,.av (int (d:Nat))),(19,.av (int (s.1:Nat)))],λ_=>[(6,zq g)],
  λs st'=>s.1<=g.T.length/\RowsQ 1 zx st' s.2 (yz ((A++(List.range s.1).filter λt=>j8 g x y k d t&&f t).take n)),λs=>g.T.length-s.1⟩ zb ?_ ?_
 ·refine⟨(0,_),Tv,⟨Fad _,?_⟩,⟨Tq,Tq,Tq,Tq,Tq,Tq,Tq,Tq,Tq,Tv⟩,⟨rfl,Tv⟩⟩;dsimp only;rw[List.range_zero,List.filter_nil,Fbl];exact hap
 rintro⟨i,v2⟩ st2 ⟨hi,hap2⟩;dsimp only at hi hap2⊢;obtain⟨oa2,cap2,e2,_⟩:=hap2.form;subst e2;have hlenT2:(yz ((A++(List.range i).filter λt=>j8 g x y k d t&&f t).take n)).length=((A++(List.range i).filter λt=>j8 g x y k d t&&f t).take n).length:=By _;have hTl:((A++(List.range i).filter λt=>j8 g x y k d t&&f t).take n).length<=1000:=θe;have done:(A++(List.range i).filter λt=>j8 g x y k d t&&f t).take n=(jg g f x y k (d+1)).take n->RowsQ 1 zx st2 (.s (.slice oa2 (yz ((A++(List.range i).filter λt=>j8 g x y k d t&&f t).take n)).length cap2)) (yz ((jg g f x y k (d+1)).take n)):=λe=>by rw[<-e];exact hap2
 have hdec0:400-(d+1)<400-d:=θ;refine bcd (λh3=>?_) λh3=>?_;rotate_left
 ·rw[zl,xx]at h3;have hin:i=g.T.length:=θ;exact Qd ⟨(d+1,_),hdec0,⟨ζ,done (by rw[hstep,hin])⟩,⟨Tq,Tq,Tq,Tq,Tq,Tq,Tq,Tq,Tv⟩,⟨rfl,Tv⟩⟩
 rw[zl,xx]at h3;have hlt:i<g.T.length:=θ;refine bcd (λh4=>?_) λh4=>?_;rotate_left
 ·refine Qd ⟨(d+1,_),hdec0,⟨ζ,done ?_⟩,⟨Tq,Tq,Tq,Tq,Tq,Tq,Tq,Tq,Tv⟩,⟨rfl,Tv⟩⟩;obtain⟨m,hm2⟩:=zcb (λt=>j8 g x y k d t&&f t) i (g.T.length-i);rw[show i+(g.T.length-i)=g.T.length by omega]at hm2;rw[hlenT2,Fam]at h4;rw[hstep,hm2,<-Faw];exact(Fbu θ).symm
 rw[hlenT2]at h4;have htb2:=Ck hg (t:=i) θ;have hp:=D6 (t:=i) hg.1.1;have hp2:=D7 (t:=i) hg.1.1;have hrb:j8 g x y k d i=decide (Bs ((i:Int)%g.W-x) ((i:Int)/g.W-y)=d/\((i:Int)%g.W-x).tmod k=0/\((i:Int)/g.W-y).tmod k=0):=rfl;rw[<-hp,<-hp2]at hrb htb2;have hrs:=Fdc (n:=i);have hsucc:(List.range (i+1)).filter (λt=>j8 g x y k d t&&f t)=(List.range i).filter (λt=>j8 g x y k d t&&f t)++[i].filter (λt=>j8 g x y k d t&&f t):=by rw[hrs,Fcr]
 have hdec:g.T.length-(i+1)<g.T.length-i:=θ;have no:(j8 g x y k d i&&f i)=false->RowsQ 1 zx st2 (.s (.slice oa2 (yz ((A++(List.range i).filter λt=>j8 g x y k d t&&f t).take n)).length cap2)) (yz ((A++(List.range (i+1)).filter λt=>j8 g x y k d t&&f t).take n)):=λhn=>by rw[hsucc,show [i].filter (λt=>j8 g x y k d t&&f t)=[] by simp[hn],Fbl];exact hap2
 have hlt2:i<(blL g.T.length f).length:=by rw[xx];exact hlt
 refine Qc zb zx8 ⟨θ,Qd ⟨θ,Qd (Qd (Qbq (Qbr ?_)))⟩⟩;have hbd:(-128<=((i:Nat):Int).tmod g.W-x/\((i:Nat):Int).tmod g.W-x<=128)/\(-128<=((i:Nat):Int).tdiv g.W-y/\((i:Nat):Int).tdiv g.W-y<=128):=θ;generalize((i:Nat):Int).tmod g.W-x=dx at*;generalize((i:Nat):Int).tdiv g.W-y=dy at*;refine Qd (Qd (zt (λc1=>?_) λc1=>?_));rotate_left
 ·have c1:¬Bs dx dy=d:=λe=>c1 ((zam dx dy).trans e);exact Qd ⟨(i+1,_),hdec,⟨ζ,no (by rw[hrb,decide_eq_false λhh=>c1 hh.1,Fdx])⟩,⟨Tq,Tq,Tq,Tq,Tq,Tq,Tq,Tq,Tq,Tv⟩,⟨rfl,Tv⟩⟩
 have c1:Bs dx dy=d:=(zam dx dy).symm.trans c1;refine⟨θ,zt (λc2=>?_) λc2=>?_⟩;rotate_left
 ·exact Qd ⟨(i+1,_),hdec,⟨ζ,no (by rw[hrb,decide_eq_false λhh=>c2 hh.2.1,Fdx])⟩,⟨Tq,Tq,Tq,Tq,Tq,Tq,Tq,Tq,Tq,Tv⟩,⟨rfl,Tv⟩⟩
 refine⟨θ,zt (λc3=>?_) λc3=>?_⟩;rotate_left
 ·exact Qd ⟨(i+1,_),hdec,⟨ζ,no (by rw[hrb,decide_eq_false λhh=>c3 hh.2.2,Fdx])⟩,⟨Tq,Tq,Tq,Tq,Tq,Tq,Tq,Tq,Tq,Tv⟩,⟨rfl,Tv⟩⟩
 refine⟨i,rfl,za _ (zn hlt2) ?_⟩;rw[Br hlt];refine zh (λc4=>?_) λc4=>?_;rotate_left
 ·exact Qd ⟨(i+1,_),hdec,⟨ζ,no (by rw[c4,Fed])⟩,⟨Tq,Tq,Tq,Tq,Tq,Tq,Tq,Tq,Tq,Tv⟩,⟨rfl,Tv⟩⟩
 have hyes:(j8 g x y k d i&&f i)=true:=by rw[hrb,decide_eq_true ⟨c1,c2,c3⟩,c4];rfl
 have hsn:=n8 (A++(List.range i).filter λt=>j8 g x y k d t&&f t) i n;rw[if_pos ((bh _ _).1 θ),Faw,show [i]=[i].filter (λt=>j8 g x y k d t&&f t) by simp[hyes],<-hsucc,show [i].filter (λt=>j8 g x y k d t&&f t)=[i] by simp[hyes]]at hsn;refine⟨ψ,ww (ie:=ti2) rfl (λ_=>rfl) ψ hap2 (i:Int) rfl (by rw[hlenT2];omega) λb cap3 L3 q1 q2 q3 q4=>?_⟩;have h9:RowsQ 1 zx (st2.sO b _) _ _:=.inl (.inr ⟨b,cap3,L3,rfl,zd _ _ _,q2,q3,q4⟩);refine Qd ⟨(i+1,_),hdec,⟨ζ,?_⟩,⟨Tq,Tq,Tq,Tq,Tq,Tq,Tq,Tq,Tq,Tv⟩,⟨rfl,Tv⟩⟩;dsimp only;rw[hsn,ef,show yz [i]=[(i:Int)]from rfl];exact h9
def yat(g:Gnd)(hg:zw g)(l:List Bld)(hl:l.length<=1000000000000)(hb:∀b∈l,yi b/\onP g b)(c:Int)(hc:c=0\/c=1\/c=2)(size:Int)(hs:0<=size/\size<=3)(goal:Nat)(hgl:goal<g.T.length)(n:Nat)(hn:n<=1000)(st:Store)(R:Ja)(h:R (y9 (yz (Dl g (zo g l c size) size (goal:Int) n))) st):
  Jb 174 [.agg (zq g),lst 6 zi l,int c,int size,int goal,int n] st R:=
 za3 (yau g hg l hl hb c hc size hs goal hgl n hn) st R h
def yeh(g:Gnd)(hg:zw g)(a b:Bld)(ha:yi a/\onP g a)(hb:yi b/\onP g b)(st:Store)(R:Ja)(h:R (V.bool (decide (j9 a b))) st):Jb 304 [.agg (zi a),.agg (zi b)] st R:=by
 unfold yi onP at ha hb;unfold zw at hg;have hh:∀z:Bool,(z=true↔j9 a b)->R (V.bool z) st:=λz hz=>by
  have:z=decide (j9 a b):=by rw[Fbq,decide_eq_true_iff];exact hz
  rw[this];exact h
 unfold j9 at hh;refine Qy 43 Tryz.func304 ?_;refine Qd (bcd (λc1=>Qd (bcd (λc2=>Qd (bcd (λc3=>Qd ?_) λc3=>ret (hh _ χ))) λc2=>ret (hh _ χ))) λc1=>ret (hh _ χ));exact ret (hh _ (by rw[decide_eq_true_iff];omega))
def ydy(g:Gnd)(hg:zw g)(b x:Bld)(hb:yi b/\onP g b)(hx:yi x/\onP g x)(p:Nat)(st:Store)(hp:st.obj p=some (.cells (zi b)))(R:Ja)(h:R (V.bool (decide (j9 x b))) st):Jb 303 ([.agg (zi x)]++[ptr p]) st R:=by refine Qy 7 Tryz.func303 ?_;exact za _ hp (yeh g hg x b hx hb _ _ (ret h))
def yjt(b:Bld)(id:Int)(st:Store)(R:Ja)(h:R (int (Hq b.id id)) st):Jb 346 [.agg (zi b),int id] st R:=by refine Qy 9 Tryz.func346 ?_;exact zdb b.id id _ _ (ret h)
def ym2(l:List Bld)(hl:l.length<=1000000000000)(id:Int)(hid:∀b∈l,b.id<id)(st:Store)(R:Ja)(h:R (.tup [int (l.length:Nat),V.bool false]) st):
  Jb 345 [lst 6 zi l,int id,.clos 346 []] st R:=by
 refine Qy 49 Tryz.func345 ?_
 refine AWp.loop (σ:=Nat) ⟨λs=>[(0,.av (lst 6 zi l)),(1,.av (int id)),(2,.av (.clos 346 [])),(8,.av (int (l.length:Nat))),(9,.av (int (s:Nat))),(10,.av (int (l.length:Nat)))],λ_=>[],
  λs st'=>st'=st/\s<=l.length,λs=>l.length-s⟩ zb ?_ ?_
 ·refine⟨0,Tv,⟨rfl,Fad _⟩,⟨Tq,Tq,Tq,?_,Tq,?_,Tv⟩,Tv⟩
  ·rw[<-zl (f:=zi) l];exact Tq
  ·rw[<-zl (f:=zi) l];exact Tq
 rintro i st' ⟨rfl,hi⟩;dsimp only at hi⊢;refine bcd (λh1=>?_) λh1=>?_;rotate_left
 ·have e:i=l.length:=θ;subst e;refine bcd (λh2=>?_) λh2=>?_
  ·omega
  ·exact ret h
 refine Qd ⟨ψ,?_⟩;have hmid:(IntKind.u64.wrap ((i:Int)+(l.length:Int))).fdiv (2^(min (1:Int).toNat IntKind.u64.bits))=(((i+l.length)/2:Nat):Int):=by
  have e1:IntKind.u64.wrap ((i:Int)+(l.length:Int))=((i+l.length:Nat):Int):=by simp[IntKind.wrap,IntKind.bits,IntKind.signed];omega
  have e2:(2:Int)^(min (1:Int).toNat IntKind.u64.bits)=2:=rfl;have e3:(((i+l.length:Nat):Int)).fdiv 2=(((i+l.length)/2:Nat):Int):=by rw[Fcz _ ψ];rfl
  rw[e1,e2,e3]
 have hkl:(i+l.length)/2<l.length:=θ;refine⟨by rw[hmid];exact⟨θ,θ⟩,⟨(i+l.length)/2,hmid,za _ (zn hkl) (yjt l[(i+l.length)/2] id _ _ ?_)⟩⟩;have hc:Hq l[(i+l.length)/2].id id<0:=by have:=hid _ (Faa hkl);unfold Hq;rw[if_pos θ];decide
 refine bcd (λh2=>ze (by rw[hmid];omega) ⟨(i+l.length)/2+1,?_,⟨rfl,θ⟩,⟨Tq,Tq,Tq,Tq,?_,Tq,Tv⟩,Tv⟩) λh2=>absurd hc h2
 ·show l.length-((i+l.length)/2+1)<l.length-i;omega
 ·exact(congrArg (λn:Int=>LV.le (jm .i64 (n+1)) (.av (int (((i+l.length)/2+1:Nat):Int)))) hmid).mpr (Tq)
def ynf(l:List Bld)(hl:l.length<=1000000000000)(id:Int)(hid:∀b∈l,b.id<id)(st:Store)(R:Ja)(h:R (.tup [int (l.length:Nat),V.bool false]) st):Jb 302 [lst 6 zi l,int id] st R:=by refine Qy 11 Tryz.func302 ?_;exact ym2 l hl id hid _ _ (ret h)
def yg3{N:Store}{v:AV}{l:List Bld}(hv:RowsQ 6 zi N v l)(hl:l.length<=1000000)(x:Bld)(R:Ja)(h:∀v' N',RowsQ 6 zi N' v' (l++[x])->R v' N'):Jb 305 [v,int (l.length:Nat),lst 6 zi [x]] N R:=by
 have hv2:=hv;rcases hv with(⟨rfl,rfl⟩|⟨b,cap,L,rfl,ho,hc1,hc2,hc3⟩)|⟨a,ha,rfl,rfl⟩
 ·refine Qy 95 Tryz.func305 ?_;refine⟨rfl,rfl,ww (ie:=ti163) rfl jb ψ hv2 x rfl ψ λb cap2 L2 q1 q2 q3 q4=>ret (h _ _ (.inl (.inr ⟨b,cap2,L2,rfl,zd _ _ _,q2,q3,q4⟩)))⟩
 ·refine Qy 95 Tryz.func305 ?_;by_cases hc:l.length<cap
  ·refine⟨l.length,l.length,rfl,rfl,Fal _,hc1,.inl ⟨hc,zt (λ_=>ww (ie:=ti163) rfl jb ψ hv2 x rfl θ λb cap2 L2 q1 q2 q3 q4=>ret (h _ _ (.inl (.inr ⟨b,cap2,L2,rfl,zd _ _ _,q2,q3,q4⟩)))) λh=>absurd rfl h⟩⟩
  ·refine⟨l.length,l.length,rfl,rfl,Fal _,hc1,.inr ⟨θ,zt (λ_=>ww (ie:=ti163) rfl jb ψ hv2 x rfl θ λb cap2 L2 q1 q2 q3 q4=>ret (h _ _ (.inl (.inr ⟨b,cap2,L2,rfl,zd _ _ _,q2,q3,q4⟩)))) λh=>absurd rfl h⟩⟩
 ·cases a with
  |none=>
   refine Qy 95 Tryz.func305 ?_;refine⟨rfl,rfl,ww (ie:=ti163) rfl jb ψ hv2 x rfl ψ λb cap2 L2 q1 q2 q3 q4=>ret (h _ _ (.inl (.inr ⟨b,cap2,L2,rfl,zd _ _ _,q2,q3,q4⟩)))⟩
  |some y=>
   obtain⟨yb,yo,ys⟩:=y;have:=ha _ rfl;dsimp only at this;subst this;refine Qy 95 Tryz.func305 ?_;refine⟨0,0,rfl,rfl,Fal _,Fal _,.inr ⟨rfl,ww (ie:=ti163) rfl jb ψ hv2 x rfl ψ λb cap2 L2 q1 q2 q3 q4=>ret (h _ _ (.inl (.inr ⟨b,cap2,L2,rfl,zd _ _ _,q2,q3,q4⟩)))⟩⟩
def ff{N:Store}{v:AV}{l:List Bld}(hv:RowsQ 6 zi N v l){Oth M:BB}{w:World}(sto:StoreOK N Oth M w){x:Value}(hx:VRel w (λb o=>M b o\/Oth b o) v x):VRel w (λb o=>(M b o\/Oth b o)/\N.obj b=none) (lst 6 zi l) x:=hv.borrow jb Nf sto hx
def ym5(g:Gnd)(hg:zw g)(l:List Bld)(hl:l.length<=256)(hlb:∀b∈l,yi b/\onP g b)(b:Bld)(hb:yi b)(hid:∀x∈l,x.id<b.id):
  Jb 240 [.agg (zq g),lst 6 zi l,.agg (zi b)] Store.empty λr S=>(ql g l b≠0/\r=.tup [.s (.slice none 0 0),int (ql g l b)])\/(ql g l b=0/\∃v,RowsQ 6 zi S v (l++[b])/\r=.tup [v,int 0]):=by
 refine Qa (c:=cfg 48 [5] []) zb Tryz.func240 ?_;intro p hp;have ho:(Store.empty.sO p (.cells (zi b))).obj p=some (.cells (zi b)):=zd _ _ _
 have bad:∀n:Int,n≠0->ql g l b=n->∃r st',AV.le (.tup [.s (.slice none 0 0),int n]) r/\(Store.empty.sO p (.cells (zi b))).Has st'/\((ql g l b≠0/\r=.tup [.s (.slice none 0 0),int (ql g l b)])\/(ql g l b=0/\∃v,RowsQ 6 zi st' v (l++[b])/\r=.tup [v,int 0])):=λn hn e=>
  ret (.inl ⟨by rw[e];exact hn,by rw[e]⟩)
 refine za _ ho (ynf l θ b.id hid _ _ (za _ ho (zd6 b _ _ (λz hz=>ye (zh (λc1=>za _ ho (zdz g b hg hb _ _ λz hz=>ye (zh (λc2=>?_) λc2=>?_))) (λc1=>by have:=hz.2 hb;rw[this]at c1;cases c1))))));rotate_left
 ·have hno:¬onP g b:=λhh=>by have:=hz.2 hh;rw[this]at c2;cases c2
  exact bad 3 ψ (by unfold ql;rw[if_pos hno])
 have hon:=hz.1 c2;refine zd2 l θ _ _ (λx=>decide (j9 x b)) _ (λx hx R h=>ydy g hg b x ⟨hb,hon⟩ (hlb x hx) p _ ho R h) _ (zh (λc3=>?_) λc3=>?_)
 ·have hex:∃x∈l,j9 x b:=by
   obtain⟨x,hx,h2⟩:=Fdn.1 c3;exact⟨x,hx,of_decide_eq_true h2⟩
  exact bad 12 ψ (by unfold ql;rw[if_neg λh=>h hon,if_pos hex])
 have hnex:¬∃x∈l,j9 x b:=λ⟨x,hx,h2⟩=>by have:l.any (λx=>decide (j9 x b))=true:=Fdn.2 ⟨x,hx,decide_eq_true h2⟩;rw[this]at c3;cases c3
 refine za _ ho (zd7 g hg b ⟨hb,hon⟩ _ _ λz hz=>ye (zh (λc4=>?_) λc4=>?_));rotate_left
 ·have hno:¬C9 g b:=λhh=>by have:=hz.2 hh;rw[this]at c4;cases c4
  exact bad 5 ψ (by unfold ql;rw[if_neg λh=>h hon,if_neg hnex,if_pos hno])
 have hfi:=hz.1 c4;have hlen:((rws zi l).length:Int)=(l.length:Int):=by rw[zl]
 refine zt (λc5=>?_) λc5=>?_
 ·exact bad 4 ψ ψ5
 have h0:ql g l b=0:=ψ6;refine Qc zb zxc (zoo ho ⟨ψ,⟨V2 l θ _ _ λv N hv hd=>⟨?_,?_⟩,Tv⟩⟩)
 ·repeat(first|exact Tv|refine⟨rfl,?_⟩|refine⟨zoo (zg ho) rfl,?_⟩)
 exact⟨yg3 (hv.unL hd) θ b _ λv' N' hv'=>⟨Tv,Qbr (Qbr (ret (.inr ⟨h0,_,hv',rfl⟩)))⟩,Tv⟩
def ym4(g:Gnd)(hg:zw g)(l:List Bld)(hl:l.length<=256)(hlb:∀b∈l,yi b/\onP g b)(b:Bld)(hb:yi b)(hid:∀x∈l,x.id<b.id)(st:Store)(R:Ja)
  (h:ql g l b≠0->R (.tup [.s (.slice none 0 0),int (ql g l b)]) st) (h0:ql g l b=0->R (.tup [lst 6 zi (l++[b]),int 0]) st):Jb 240 [.agg (zq g),lst 6 zi l,.agg (zi b)] st R:=by
 have h1:=(ym5 g hg l hl hlb b hb hid).frozen (R:=λr=>(ql g l b≠0/\r=.tup [.s (.slice none 0 0),int (ql g l b)])\/(ql g l b=0/\r=.tup [lst 6 zi (l++[b]),int 0])) (by
  rintro r S (⟨h1,rfl⟩|⟨h1,v,hv,rfl⟩)
  ·exact⟨_,.inl ⟨h1,rfl⟩,λOth M w' v' sto hx=>qv hx⟩
  ·refine⟨_,.inr ⟨h1,rfl⟩,λOth M w' v' sto hx=>?_⟩;cases hx with
   |tup _ c2 hl hc2=>
    refine .tup _ c2 hl λi x y hx hy=>?_
    match i with
    |0=>simp only[Fan,Faj]at hx;subst hx;exact ff hv sto (hc2 0 _ y rfl hy)
    |1=>simp only[Faq,Fan,Faj]at hx;subst hx;exact qv (hc2 1 _ y rfl hy)
    |i+2=>simp at hx)
 have h2:Jb 240 [.agg (zq g),lst 6 zi l,.agg (zi b)] Store.empty λr S=>((ql g l b≠0/\r=.tup [.s (.slice none 0 0),int (ql g l b)])\/(ql g l b=0/\r=.tup [lst 6 zi (l++[b]),int 0]))/\S=Store.empty:=
  h1.post (Store.Le.refl _) λr st' hr=>⟨r,Store.empty,AV.le_refl r,(Ca st').toLe,hr,rfl⟩
 rw[<-xr st];exact ACalls.frame (Dd st) h2 λr S ⟨e,e2⟩ hd=>by
  subst e2;rw[xr];rcases e with⟨q,rfl⟩|⟨q,rfl⟩
  ·exact h q
  ·exact h0 q
def t8{w:Wld}(hm:ya w):∀u∈w.U,u.inn=0->qs u.pos.1 u.pos.2:=λu hu h0=>by have hg:=(xh hm).hg;have hcl:=hm.2.1 u hu h0;have h1:=hcl.1.1;have hr:=Bm u.kind;have h2:=hg.1;have h3:=hg.2.1;unfold qs;omega
def zfh{F G:Store}{xw s p:Nat}{w:Wld}{v:AV}{L:List Ent}{o0 o1 o2:AV}{c:Cmd}{fv:AV}(hW:Work F G xw s p w v L o0 o1 o2 c fv)(hm:MayF w)(hn:∀u∈w.U,u.pos.ok)(hpl:∀u∈w.U,u.inn=0->qs u.pos.1 u.pos.2)(b:Bld)(hb:yi b/\onP w.G b)(R:Ja)
  (h:∀z F',(z=true↔Gi w b)->StandR F' G s p w v L o0 o1 o2->R (V.bool z) (F'.un (svS G s w v o0 o1 o2 p))):Jb 241 [ptr xw,.agg (zi b)] (F.un (svS G s w v o0 o1 o2 p)) R:=by
 have hU:=hm.hU;have hx:=hW.x (F':=F) (q0:=o0) (q1:=o1) (q2:=o2);have hs:=hW.s (F':=F) (q0:=o0) (q1:=o1) (q2:=o2);obtain⟨oa,cap,e,hget⟩:=hW.S.hu.form;subst e;refine Qy 62 Tryz.func241 ?_;refine Qc zb zxb (zoo hx (zoo hs ?_));refine⟨Rc w.G hm.hg b hb _ _ ⟨Qe,?_⟩,Tv⟩;have hmem:=Hc hm.hg hb.1 hb.2;have hts:=bc w.G.W hb.1;have hmw:Gi w b↔∃t∈Ao w.G.W b,∃u∈w.U,u.inn=0/\ja w.G t.toNat u.pos (z6 u.kind):=by
  unfold Gi;constructor
  ·rintro⟨t,⟨h1,h2⟩,u,hu,h3⟩;exact⟨(t:Int),(hmem _).2 ⟨t,rfl,h1,h2⟩,u,hu,by rw[Fa0];exact h3⟩
  ·rintro⟨t,ht,u,hu,h3⟩;obtain⟨n,rfl,h1,h2⟩:=(hmem t).1 ht;rw[Fa0]at h3;exact⟨n,⟨h1,h2⟩,u,hu,h3⟩
 generalize Ao w.G.W b=ts at*
 refine AWp.loop (σ:=Nat×Store) ⟨λx=>[(0,.av (ptr xw)),(18,.av (y9 ts)),(19,.av (int (ts.length:Nat))),(20,.av (int (x.1:Nat)))],λ_=>[],
  λx st'=>x.1<=ts.length/\st'=x.2.un (svS G s w (.s (.slice oa w.U.length cap)) o0 o1 o2 p)/\StandR x.2 G s p w (.s (.slice oa w.U.length cap)) L o0 o1 o2/\∀j,(hj:j<ts.length)->j<x.1->∀u∈w.U,u.inn=0->¬ja w.G ts[j].toNat u.pos (z6 u.kind),λx=>ts.length-x.1⟩ zb ?_ ?_
 ·refine⟨(0,F),Tv,⟨Fad _,rfl,hW.S,λj _ hj=>θ⟩,⟨Tq,Tq,?_,Tq,Tv⟩,Tv⟩;rw[<-zl (f:=zx) ts];exact Tq
 rintro⟨i,F1⟩ st' ⟨hi,rfl,hS1,hno⟩;dsimp only at hi hS1 hno⊢;refine bcd (λh1=>?_) λh1=>?_;rotate_left
 ·refine ret (h false F1 ?_ hS1);simp only[Fah,false_iff];rw[hmw];rintro⟨t,ht,u,hu,h0,hh⟩;obtain⟨j,hj,rfl⟩:=Fai ht;exact hno j hj θ u hu h0 hh
 have hlt:i<ts.length:=θ;obtain⟨n,hn1,hn2,hn3⟩:=(hmem ts[i]).1 (Faa hlt);have hx1:=hW.x (F':=F1) (q0:=o0) (q1:=o1) (q2:=o2);have hs1:=hW.s (F':=F1) (q0:=o0) (q1:=o1) (q2:=o2);refine⟨i,rfl,za _ (zn hlt) (Qc zb zxa (zoo hx1 (zoo hx1 (zoo hs1 ⟨Si w.G hm.hg n hn2 ts[i] hn1 _ _ ⟨?_,?_⟩,Tv⟩))))⟩
 ·repeat(first|exact Tv|refine⟨rfl,?_⟩|refine⟨zoo hx1 rfl,?_⟩|refine⟨zoo hs1 rfl,?_⟩)
 have htb:=Lw hm.hg hn2;refine⟨o8 hS1 hm.hr θ hn hW.hL hW.hF (tx w.G n+32768,ty w.G n+32768) ⟨⟨ζ,ζ⟩,⟨ζ,ζ⟩⟩ 65536 ψ _ λF2 us hS2 hus hul=>⟨?_,?_⟩,Tv⟩
 ·repeat(first|exact Tv|refine⟨rfl,?_⟩)
 have hx2:=hW.x (F':=F2) (q0:=o0) (q1:=o1) (q2:=o2);have hs2:=hW.s (F':=F2) (q0:=o0) (q1:=o1) (q2:=o2)
 refine AWp.loop (σ:=Nat) ⟨λk=>[(0,.av (ptr xw)),(6,.av (int ts[i])),(18,.av (y9 ts)),(19,.av (int (ts.length:Nat))),(20,.av (int (i:Nat))),(38,.av (lst 10 zf us)),(39,.av (int (us.length:Nat))),(40,.av (int (k:Nat)))],λ_=>[],
  λk st'=>k<=us.length/\st'=F2.un (svS G s w (.s (.slice oa w.U.length cap)) o0 o1 o2 p)/\∀j,(hj:j<us.length)->j<k->¬ja w.G n us[j].pos (z6 us[j].kind),λk=>us.length-k⟩ zb ?_ ?_
 ·refine⟨0,Tv,⟨Fad _,rfl,λj _ hj=>θ⟩,⟨Tq,Tq,Tq,Tq,Tq,Tq,?_,Tq,Tv⟩,Tv⟩;rw[<-zl (f:=zf) us];exact Tq
 rintro k st' ⟨hk,rfl,hnk⟩;refine bcd (λh2=>?_) λh2=>?_;rotate_left
 ·refine Qd ⟨(i+1,F2),?_,⟨ζ,rfl,hS2,λj hj hji u hu h0 hh=>?_⟩,Qbn,Tv⟩
  ·show ts.length-(i+1)<ts.length-i;omega
  ·by_cases e:j=i
   ·subst e;rw[hn1,Fa0]at hh;have hnear:=yhn hm.hg hn2 (hpl u hu h0) (Bm u.kind) hh;have hmu:=(hus u).2 ⟨⟨hu,h0⟩,hnear⟩;obtain⟨m,hm2,rfl⟩:=Fai hmu;exact hnk m hm2 θ hh
   ·exact hno j hj ψh u hu h0 hh
 have hkl:k<us.length:=θ;have huk:=(hus us[k]).1 (Faa hkl);refine⟨k,rfl,za _ (zn hkl) (Qc zb zw9 (zoo hx2 (zoo hs2 ⟨kj us[k].kind _ _ ⟨?_,?_⟩,Tv⟩)))⟩
 ·repeat(first|exact Tv|refine⟨rfl,?_⟩|refine⟨zoo hx2 rfl,?_⟩|refine⟨zoo hs2 rfl,?_⟩)
 have hkr:=Bm us[k].kind;refine⟨zbf w.G hm.hg n hn2 ts[i] hn1 us[k].pos (hpl _ huk.1.1 huk.1.2) (z6 us[k].kind) ⟨hkr.1,θ⟩ _ _ ⟨Tv,bcd (λh3=>?_) λh3=>?_⟩,Tv⟩
 ·refine ret (h true F2 ?_ hS2);simp only[true_iff];exact hmw.2 ⟨ts[i],Faa hlt,us[k],huk.1.1,huk.1.2,by rw[hn1,Fa0];exact h3⟩
 refine Qd ⟨k+1,?_,⟨θ,rfl,λj hj hjk=>?_⟩,Qbn,Tv⟩
 ·show us.length-(k+1)<us.length-k;omega
 ·by_cases e:j=k
  ·subst e;exact h3
  ·exact hnk j hj θ
def Sb(w:Wld)(i t:Nat)(hi:i<w.U.length):Wld:={w with U:=w.U.set i (w9 w.U[i] (yf w.G t))}
section
variable {i:Nat} {u:Unt} {w:Wld}
def et{U:List Unt}{x:Unt}(h:u∈U.set i x):u=x\/u∈U:=by
 rcases List.mem_or_eq_of_mem_set h with h|h
 ·exact .inr h
 ·exact .inl h
def zak(h:MayF w)(hi:i<w.U.length)(hid:w.U[i].id=u.id)(hk:kr u.kind):MayF {w with U:=w.U.set i u}:=
 ⟨h.hg,h.hB,by show(w.U.set i u).length<=_;rw[Faf];exact h.hU,h.hT,h.hb,λx hx=>by
  rcases et (show x∈w.U.set i u from hx)with rfl|hx
  ·exact hk
  ·exact h.hk x hx,Rw h.hr hi hid,h.hn1,h.hn2⟩
def nh{c:Cmd}(h:vj w c.P c.N≠0):ulE w c=vj w c.P c.N:=by unfold ulE;rw[if_neg h]
def ng{c:Cmd}(h:vj w c.P c.N=0)(h2:¬(0<=c.T/\c.T<w.G.W*w.G.H)):ulE w c=3:=by unfold ulE;rw[if_pos h,if_neg h2]
def nf{c:Cmd}(h:vj w c.P c.N=0)(h2:0<=c.T/\c.T<w.G.W*w.G.H)(h3:Dz (yf w.G c.T.toNat) (uAt w c.N).pos):ulE w c=8:=by unfold ulE;rw[if_pos h,if_pos h2,if_pos h3]
def nc{c:Cmd}(h:vj w c.P c.N=0)(h2:0<=c.T/\c.T<w.G.W*w.G.H)(h3:¬Dz (yf w.G c.T.toNat) (uAt w c.N).pos)(h4:unl c.T (z8 w.U c.N) w=none):ulE w c=5:=by unfold ulE;rw[if_pos h,if_pos h2,if_neg h3,h4]
def na{c:Cmd}(h:vj w c.P c.N=0)(h2:0<=c.T/\c.T<w.G.W*w.G.H)(h3:¬Dz (yf w.G c.T.toNat) (uAt w c.N).pos){x:Wld}(h4:unl c.T (z8 w.U c.N) w=some x):ulE w c=0/\ulW w c=x:=by unfold ulE ulW;rw[if_pos h,if_pos h2,if_neg h3,h4];exact⟨rfl,rfl⟩
def za6(hr:yr w.U){n id:Int}(h:id∈z8 w.U n):∃i,∃hi:i<w.U.length,qa w.U id=some i:=by unfold z8 at h;obtain⟨u,hu,rfl⟩:=Fag.1 h;obtain⟨hu,_⟩:=Fb4.1 hu;obtain⟨i,hi,rfl⟩:=Fai hu;exact⟨i,hi,Lc hr hi rfl⟩
end
section
variable {w:Wld} {F G:Store} {s p m:Nat} {v o0 o1 o2:AV}
def slO(cs:List (Int×List Nat))(bs:List Nat)(clk:Nat):AObj:=.map (cs.map (qb λl=>y9 (yz l))) bs clk
def slV(m:Nat):AV:=.s (.map (some m))
def pi(w:Wld)(c:Cmd)(cs:List (Int×List Nat)):Prop:=∀kd l,qc cs kd=some l->l=qi w kd c.T c.U.length
structure MvS(F G G0:Store)(xw s p m:Nat)(w:Wld)(v:AV)(L:List Ent)(n:Nat)(o0 o1 o2:AV)(c:Cmd)(k:Nat)(cs:List (Int×List Nat))(bs:List Nat)(clk:Nat):Prop where
 S:StandR F G s p {w with U:=mvL w c k} v L o0 o1 o2
 keep:∀q,xz v q->q≠m->G.obj q=G0.obj q
 hm:G.obj m=some (slO cs bs clk)
 hl:L.length<=n+k
 ok:∀e∈L,e.2.ok
 sl:pi w c cs
def yf7(hm:MayF w)(c:Cmd)(k:Nat):MayF {w with U:=mvL w c k}:=
 ⟨hm.hg,hm.hB,by show(mvL w c k).length<=_;rw[Af];exact hm.hU,hm.hT,hm.hb,λu hu=>by obtain⟨x,hx,_,_,e,_⟩:=ux hu;rw[e];exact hm.hk x hx,Sh hm.hr c k,hm.hn1,hm.hn2⟩
theorem H3{x:AObj}(h:G.obj m=some x)(hms:m≠s):(F.un (svS G s w v o0 o1 o2 p)).obj m=some x:=zg (by show(G.sO s _).obj m=_;rw[zj hms];exact h)
def MvS.upd{G0:Store}{xw:Nat}{L:List Ent}{n:Nat}{c:Cmd}{k:Nat}{cs:List (Int×List Nat)}{bs:List Nat}{clk:Nat}(h:MvS F G G0 xw s p m w v L n o0 o1 o2 c k cs bs clk)(hms:m≠s)(hoff:xz v m){cs':List (Int×List Nat)}(bs':List Nat)(clk':Nat)(hs:pi w c cs'):
  MvS F (G.sO m (slO cs' bs' clk')) G0 xw s p m w v L n o0 o1 o2 c k cs' bs' clk'/\(F.un (svS G s {w with U:=mvL w c k} v o0 o1 o2 p)).sO m (slO cs' bs' clk')=F.un (svS (G.sO m (slO cs' bs' clk')) s {w with U:=mvL w c k} v o0 o1 o2 p):=by
 refine⟨⟨⟨h.S.hc,λi h1 h2=>h.S.hd i h1 (svS_has.2 ?_),?_,h.S.hu.set hoff _,h.S.h0,h.S.h1,h.S.h2⟩,λq h1 h2=>?_,zd _ _ _,h.hl,h.ok,hs⟩,?_⟩
 ·rcases svS_has.1 h2 with h2|h2
  ·exact .inl h2
  ·rcases has_setObj_iff.1 h2 with rfl|h2
   ·exact .inr (xf h.hm)
   ·exact .inr h2
 ·rw[zj (Ne.symm hms)];exact h.S.hs
 ·rw[zj h2];exact h.keep q h1 h2
 ·rw[yd];unfold svS;rw[F7 hms]
end
section
variable {S N:Store} {fb kc:Nat} {room:Int} {w:Wld}
def yi5{kc:Nat}(hd:zk S N)(hF:FldAny fb room (kc:Nat) N)(hm:MayF w)(c s:Int)(hc:Gr c)(hs:0<=s/\s<=3)(R:Ja)
  (h:∀b N',zk S N'->FldAny fb room (kc:Nat) N'->N'.obj b=some (.cells (jd w.G w.B c s))->R (ptr b) (S.un N')):Jb 70 [ptr fb,.agg (zq w.G),lst 6 zi w.B,int c,int s] (S.un N) R:=by
 have hB:=hm.hB;have ha:=qg hm.hg;rw[un_comm hd];refine ACalls.frame (Dc hd) (ed hF w.G hm.hg θ w.B θ hm.hb c s hc hs (λr S=>∃b,r=ptr b/\FldAny fb room (kc:Nat) S/\S.obj b=some (.cells (jd w.G w.B c s))) λNc Nr cc nm wm cs ks ns ws made cnt d hI hd ho=>⟨d,rfl,.inl ⟨_,_,Nc,Nr,cc,nm,wm,cs,ks,ns,ws,made,cnt,rfl,hI⟩,zg ho⟩) ?_;rintro r a' ⟨b,rfl,h1,h2⟩ hd2;rw[un_comm hd2];exact h b a' (Dc hd2) h1 h2
def mg{xw s p:Nat}{kc:Nat}{v o0 o1 o2:AV}{c:Cmd}(ha:AtW S xw s p w v o0 o1 o2 c (jy fb))(hd:zk S N)(hF:FldAny fb room (kc:Nat) N)(hm:MayF w)(k:Int)(t:Nat)(ht:t<w.G.T.length)(tI:Int)(htI:tI=(t:Int))(n:Nat)(hn:n<=1000)(R:Ja)
  (h:∀N',zk S N'->FldAny fb room (kc:Nat) N'->R (y9 (yz (qi w k tI n))) (S.un N')):Jb 239 [ptr xw,int k,int tI,int n] (S.un N) R:=by
 subst htI;obtain⟨hx,hs,hv⟩:=ha;obtain⟨oa,cap,e,hget⟩:=hv.form;subst e;have hx1:(S.un N).obj xw=_:=yg hd hx;have hs1:(S.un N).obj s=_:=yg hd hs;refine Qy 53 Tryz.func239 ?_;refine kj k _ _ ?_;refine Qc zb zxd (zoo hx1 (zoo hs1 (zoo hx1 (zoo hx1 (zoo hs1 (zoo hx1 (zoo hs1 ?_)))))));refine⟨yi5 hd hF hm (yl k) (qm k) (Gk k) (Im k) _ λb N' hd' hF' hb=>?_,Tv⟩;have hx2:(S.un N').obj xw=_:=yg hd' hx;have hs2:(S.un N').obj s=_:=yg hd' hs;refine⟨?_,?_⟩
 ·repeat(first|exact Tv|refine⟨rfl,?_⟩|refine⟨zoo hx2 rfl,?_⟩|refine⟨zoo hs2 rfl,?_⟩)
 exact zoo (zg hb) ⟨yop w.G hm.hg (zo w.G w.B (yl k) (qm k)) (qm k) (Im k) t ht n hn _ _ ⟨Qe,Qbr (ret (h N' hd' hF'))⟩,Tv⟩
end
def Qax{p:Prop}(h:p:=by show(mvL w c k).length<=_;rw[Af];omega):p:=h
def zfg{F G N:Store}{xw s p fb:Nat}{room:Int}{kc:Nat}{w:Wld}{v:AV}{L:List Ent}{o0 o1 o2:AV}{c:Cmd}(hW:Work F G xw s p w v L o0 o1 o2 c (jy fb))(hdN:zk (F.un (svS G s w v o0 o1 o2 p)) N)(hF:FldAny fb room (kc:Nat) N)(hm:MayF w)(hn:∀u∈w.U,u.pos.ok)(hcU:c.U.length<=64)(R:Ja)
  (h:∀S' N',mvE w c≠0->zk S' N'->FldAny fb room (kc:Nat) N'->R (int (mvE w c)) (S'.un N')) (h0:mvE w c=0->∀S' N',Df S' xw s c (jy fb) (mvW w c)->zk S' N'->FldAny fb room (kc:Nat) N'->R (int 0) (S'.un N')):Jb 160 [ptr xw] ((F.un (svS G s w v o0 o1 o2 p)).un N) R:=by
 have hU:=hm.hU;have hx:=yg hdN (hW.x (F':=F) (q0:=o0) (q1:=o1) (q2:=o2));have hs:=yg hdN (hW.s (F':=F) (q0:=o0) (q1:=o1) (q2:=o2));have hr:=(hW.r (F':=F) (q0:=o0) (q1:=o1) (q2:=o2)).unL hdN;obtain⟨oa,cap,e,hget⟩:=hW.S.hu.form;subst e;have ha:=qg hm.hg;refine Qb (c:=cfg 94) zb Tryz.func160 ?_;refine AWp.seq (AWp.of_vc zb ?_);refine AWp.seq (AWp.of_vc zb ?_);refine Qc zb zyl ?_;refine zoo hx (zoo hs (zoo hx ?_));refine⟨Sp w.G c.T hm.hg _ _ λz hz=>⟨Tv,ye (zh (λc2=>?_) λc2=>?_)⟩,Tv⟩;rotate_left
 ·have:=eo (w:=w) (c:=c) λhh=>ψl;rw[this]at h;exact ret (h _ _ ψ hdN hF)
 have htile:=hz.1 c2;have htn:c.T=((c.T.toNat:Nat):Int):=θ;have htl:c.T.toNat<w.G.T.length:=θ;have hE:=el htile;rw[hE]at h h0;refine AWp.seq (AWp.of_vc zb (all_nil ⟨hx,hs,hr⟩ hm.hr θ θ _ (λhe=>?_) λhe=>?_));rotate_left
 ·exact AWp.of_vc zb (qd (λc3=>ret (h _ _ he hdN hF)) λc3=>absurd c3 he)
 have hzero:=Gu he;refine AWp.seq (AWp.of_vc zb (AWp.seq (AWp.of_vc zb (Ht rfl λm hmf=>?_))));have hmf0:=fresh_iff.1 hmf;have hmN:¬N.has m:=λhh=>hmf0 (un_has.2 (.inr hh));obtain⟨hW1,e1,off1,hms⟩:=hW.add (fresh_iff.2 λhh=>hmf0 (un_has.2 (.inl hh))) (slO [] [] 0);have hmx:m≠xw:=λe=>by have:=hmf.1;rw[e,hx]at this;cases this
 have e1':((F.un (svS G s w (.s (.slice oa w.U.length cap)) o0 o1 o2 p)).un N).sO m (.map [] [] 0)=(F.un (svS (G.sO m (slO [] [] 0)) s w (.s (.slice oa w.U.length cap)) o0 o1 o2 p)).un N:=by rw[Al hmN];exact congrArg (Store.un · N) e1
 rw[e1'];have hdN1:zk (F.un (svS (G.sO m (slO [] [] 0)) s w (.s (.slice oa w.U.length cap)) o0 o1 o2 p)) N:=by rw[<-e1];exact Bq hdN hmN
 have hmv0:MvS F (G.sO m (slO [] [] 0)) (G.sO m (slO [] [] 0)) xw s p m w (.s (.slice oa w.U.length cap)) L L.length o0 o1 o2 c 0 [] [] 0:=⟨hW1.S,λ_ _ _=>rfl,zd _ _ _,θ,Kw hW.hF hn,λkd l hh=>by cases hh⟩
 have hx0:=hW1.hx;have hox:=hW1.ox;have hos:=hW1.os;have hxs:=hW1.ne;have hLl:=hW.hL;generalize G.sO m (slO [] [] 0)=G0 at*;clear hx hs hr hdN e1 e1' hmf hmf0;refine AWp.meetA (σ:=Unit) ⟨λ_=>[],λ_=>[],λ_ st'=>∃S' N',st'=Store.un S' N'/\Df S' xw s c (jy fb) (mvW w c)/\zk S' N'/\FldAny fb room (kc:Nat) N'⟩ ?_ ?_;rotate_left
 ·rintro _ st' ⟨S',N',rfl,hd1,hd2,hd3⟩;exact AWp.of_vc zb (ret (h0 he _ _ hd1 hd2 hd3))
 refine AWp.seq (AWp.of_vc zb (AWp.block ?_))
 refine AWp.loopA (σ:=Nat×Store×Store×List Ent×List (Int×List Nat)×List Nat×Nat×Store) ⟨λx=>[(0,.av (ptr xw)),(3,.av (lst 10 zf (c.U.map (uAt w)))),(5,.av (slV m)),(35,.av (lst 10 zf (c.U.map (uAt w)))),(36,.av (int (c.U.length:Nat))),(37,.av (int (x.1:Nat)))],λ_=>[],
  λx st'=>x.1<=c.U.length/\st'=(x.2.1.un (svS x.2.2.1 s {w with U:=mvL w c x.1} (.s (.slice oa w.U.length cap)) o0 o1 o2 p)).un x.2.2.2.2.2.2.2/\(zk (x.2.1.un (svS x.2.2.1 s {w with U:=mvL w c x.1} (.s (.slice oa w.U.length cap)) o0 o1 o2 p)) x.2.2.2.2.2.2.2/\FldAny fb room (kc:Nat) x.2.2.2.2.2.2.2)/\MvS x.2.1 x.2.2.1 G0 xw s p m w (.s (.slice oa w.U.length cap)) x.2.2.2.1 L.length o0 o1 o2 c x.1 x.2.2.2.2.1 x.2.2.2.2.2.1 x.2.2.2.2.2.2.1,λx=>c.U.length-x.1⟩ ?_ ?_
 ·refine⟨(0,F,G0,L,[],[],0,N),Tv,⟨Fad _,rfl,⟨hdN1,hF⟩,hmv0⟩,⟨Tq,Tq,Tq,Tq,?_,Tq,Tv⟩,Tv⟩;show LV.le (.av (int ((rws zf (c.U.map (uAt w))).length:Nat))) (.av (int (c.U.length:Nat)));rw[zl,Fas];exact Tq
 clear hdN1 hF;rintro⟨k,F1,G1,L1,cs,bs,clk,N1⟩ st' ⟨hk,rfl,⟨hdN,hF⟩,hS⟩;dsimp only at hk hdN hF hS⊢;refine AWp.seq (AWp.of_vc zb (AWp.seq (AWp.of_vc zb (bcd (λh1=>?_) λh1=>?_))));rotate_left
 ·have:k=c.U.length:=θ;subst this;have hxk:G1.obj xw=some (.cells (wkC s c (jy fb))):=by rw[hS.keep xw hox (Ne.symm hmx)];exact hx0
  exact⟨(),⟨_,N1,rfl,⟨_,o0,o1,o2,p,H3 hxk hxs,zg (Bd _ _ _ _ _ _ _ _),(H2 hS.S.hs hS.S.hu).un⟩,hdN,hF⟩,Tv,Tv⟩
 have hlt:k<c.U.length:=θ;obtain⟨i,hi,hf,hid,hu,how,hin⟩:=Ce (hzero c.U[k] (Faa hlt));have hlm:k<(c.U.map (uAt w)).length:=by rw[Fas];exact hlt
 have hgm:(c.U.map (uAt w))[k]=w.U[i]:=by rw[Fbp,hu]
 have hlU:(c.U.map (uAt w)).length=c.U.length:=Fas ..;have hsu:∀kd n,qi {w with U:=mvL w c k} kd c.T n=qi w kd c.T n:=λ_ _=>rfl;have hm1:=yf7 hm c k;refine AWp.seq (AWp.block (AWp.seq (AWp.of_vc zb ⟨k,rfl,za _ (zn hlm) ?_⟩)));rw[hgm]
 refine AWp.meetA (σ:=Store×List (Int×List Nat)×List Nat×Nat×Store) ⟨λ_=>[(0,.av (ptr xw)),(3,.av (lst 10 zf (c.U.map (uAt w)))),(5,.av (slV m)),(6,.av (int (k:Nat))),(7,.bx 7 0),(35,.av (lst 10 zf (c.U.map (uAt w)))),(36,.av (int (c.U.length:Nat))),(37,.av (int (k:Nat)))],λ_=>[(7,zf w.U[i])],
  λx st'=>st'=(F1.un (svS x.1 s {w with U:=mvL w c k} (.s (.slice oa w.U.length cap)) o0 o1 o2 p)).un x.2.2.2.2/\(zk (F1.un (svS x.1 s {w with U:=mvL w c k} (.s (.slice oa w.U.length cap)) o0 o1 o2 p)) x.2.2.2.2/\FldAny fb room (kc:Nat) x.2.2.2.2)/\MvS F1 x.1 G0 xw s p m w (.s (.slice oa w.U.length cap)) L1 L.length o0 o1 o2 c k x.2.1 x.2.2.1 x.2.2.2.1/\qc x.2.1 w.U[i].kind=some (qi w w.U[i].kind c.T c.U.length)⟩ ?_ ?_
 ·have hmo:((F1.un (svS G1 s {w with U:=mvL w c k} (.s (.slice oa w.U.length cap)) o0 o1 o2 p)).un N1).obj m=some (slO cs bs clk):=yg hdN (H3 hS.hm hms);have hxk:G1.obj xw=some (.cells (wkC s c (jy fb))):=by rw[hS.keep xw hox (Ne.symm hmx)];exact hx0
  have hx1:(F1.un (svS G1 s {w with U:=mvL w c k} (.s (.slice oa w.U.length cap)) o0 o1 o2 p)).obj xw=some (.cells (wkC s c (jy fb))):=H3 hxk hxs;have hs1:(F1.un (svS G1 s {w with U:=mvL w c k} (.s (.slice oa w.U.length cap)) o0 o1 o2 p)).obj s=some (.cells (svC {w with U:=mvL w c k} (.s (.slice oa w.U.length cap)) o0 o1 o2 p)):=zg (Bd _ _ _ _ _ _ _ _);have hr1:RowsQ 10 zf (F1.un (svS G1 s {w with U:=mvL w c k} (.s (.slice oa w.U.length cap)) o0 o1 o2 p)) (.s (.slice oa w.U.length cap)) (mvL w c k):=(H2 hS.S.hs hS.S.hu).un;refine AWp.of_vc zb (Ak rfl (it:=ti316) (ie:=ti29) (ik:=ti2) rfl rfl rfl rfl hmo rfl (qA w.U[i].kind) (λe he=>?_) ?_)
  ·obtain⟨e,_,rfl⟩:=Fag.1 he;rfl
  rw[ygc];cases hg:qc cs w.U[i].kind with
  |some l=>
   have hl:=hS.sl _ _ hg;rw[hl]at hg;exact⟨(G1,cs,bs,clk,N1),⟨rfl,⟨hdN,hF⟩,hS,hg⟩,Qbn,⟨rfl,Tv⟩⟩
  |none=>
   dsimp only;refine Qc zb zyk (zoo (yg hdN hx1) ⟨mg ⟨hx1,hs1,hr1⟩ hdN hF hm1 w.U[i].kind c.T.toNat htl c.T htn (rws zf (c.U.map (uAt w))).length (by rw[zl,hlU];omega) _ λN2 hdN2 hF2=>⟨?_,?_⟩,Tv⟩)
   ·repeat(first|exact Tv|refine⟨rfl,?_⟩|refine⟨zoo (yg hdN2 hx1) rfl,?_⟩)
   have hmo:((F1.un (svS G1 s {w with U:=mvL w c k} (.s (.slice oa w.U.length cap)) o0 o1 o2 p)).un N2).obj m=some (slO cs bs clk):=yg hdN2 (H3 hS.hm hms);rw[hsu,zl,hlU];refine⟨D3 (.inl rfl) rfl (it:=ti316) (ik:=ti2) rfl rfl rfl (es:=cs.map (qb λl=>y9 (yz l))) (bs:=bs) (clk:=clk) (k:=int w.U[i].kind) (v:=y9 (yz (qi w w.U[i].kind c.T c.U.length))) hmo rfl rfl (qA w.U[i].kind) (λe he=>?_) (λe1 he hq=>?_) ?_,Tv⟩
   ·obtain⟨e,_,rfl⟩:=Fag.1 he;rfl
   ·obtain⟨g1,_,rfl⟩:=Fag.1 he;have:w.U[i].kind=g1.1:=by simpa [qA,qb,int]using hq
    show int g1.1=_;rw[this]
   obtain⟨bs',clk',hput⟩:=K3 (λl=>y9 (yz l)) cs bs clk w.U[i].kind (qi w w.U[i].kind c.T c.U.length);have hput:wg (cs.map (qb λl=>y9 (yz l))) bs clk (qA w.U[i].kind) (int w.U[i].kind) (y9 (yz (qi w w.U[i].kind c.T c.U.length)))=slO (yw cs w.U[i].kind (qi w w.U[i].kind c.T c.U.length)) bs' clk':=hput;obtain⟨u1,u2⟩:=hS.upd hms off1 (cs':=yw cs w.U[i].kind (qi w w.U[i].kind c.T c.U.length)) bs' clk' (λkd l hh=>by
    rw[Ct]at hh;by_cases e:kd=w.U[i].kind
    ·rw[if_pos e]at hh;rw[e];exact(Option.some.inj hh).symm
    ·rw[if_neg e]at hh;exact hS.sl kd l hh)
   have hdj:=Bq (x:=slO (yw cs w.U[i].kind (qi w w.U[i].kind c.T c.U.length)) bs' clk') hdN2 (hdN2 m (xf (H3 hS.hm hms)));rw[u2]at hdj;rw[hput,Al (hdN2 m (xf (H3 hS.hm hms))),u2];refine⟨Tv,(_,_,_,_,N2),⟨rfl,⟨hdj,hF2⟩,u1,?_⟩,⟨Tq,Tq,Tq,Tq,Tq,Tq,Tq,Tq,Tv⟩,⟨rfl,Tv⟩⟩;rw[Ct,if_pos rfl]
 clear hdN hF;rintro⟨G2,cs2,bs2,clk2,N2⟩ _ ⟨rfl,⟨hdN,hF⟩,hS2,hg2⟩;dsimp only at hdN hF hS2 hg2⊢;have hmo:((F1.un (svS G2 s {w with U:=mvL w c k} (.s (.slice oa w.U.length cap)) o0 o1 o2 p)).un N2).obj m=some (slO cs2 bs2 clk2):=yg hdN (H3 hS2.hm hms);have hxk:G2.obj xw=some (.cells (wkC s c (jy fb))):=by rw[hS2.keep xw hox (Ne.symm hmx)];exact hx0
 have hx1:((F1.un (svS G2 s {w with U:=mvL w c k} (.s (.slice oa w.U.length cap)) o0 o1 o2 p)).un N2).obj xw=some (.cells (wkC s c (jy fb))):=yg hdN (H3 hxk hxs);have hiL:i<(mvL w c k).length:=by rw[Af];exact hi
 refine AWp.of_vc zb (zoo hx1 (Ak rfl (it:=ti316) (ie:=ti29) (ik:=ti2) rfl rfl rfl rfl hmo rfl (qA w.U[i].kind) (λe he=>?_) ?_))
 ·obtain⟨e,_,rfl⟩:=Fag.1 he;rfl
 rw[Hd,hg2];have hput:∀g,g=wu w c k w.U[i].kind->(mvL w c k).set i (mvG g w.U[i])=mvL w c (k+1):=λg hg=>by rw[eh hlt hf hi,hg]
 have hlen:=By (qi w w.U[i].kind c.T c.U.length);have hid':(mvL w c k)[i].id=w.U[i].id:=Oy w c k i hi
 have fin:∀{F3 G3 L3},StandR F3 G3 s p {w with U:=mvL w c (k+1)} (.s (.slice oa w.U.length cap)) L3 o0 o1 o2->(∀q,xz (.s (.slice oa w.U.length cap)) q->G3.obj q=G2.obj q)->L3.length<=L1.length+1->(∀e∈L3,e.2.ok)->MvS F3 G3 G0 xw s p m w (.s (.slice oa w.U.length cap)) L3 L.length o0 o1 o2 c (k+1) cs2 bs2 clk2:=λg1 g2 g3 g4=>
  ⟨g1,λq h1 h2=>(g2 q h1).trans (hS2.keep q h1 h2),(g2 m off1).trans hS2.hm,by have:=hS2.hl;omega,g4,hS2.sl⟩
 have hdec:c.U.length-(k+1)<c.U.length-k:=θ;have hL1:=hS2.hl;refine bcd (λc5=>?_) λc5=>?_
 ·rw[zl,hlen]at c5;have hk2:k<(yz (qi w w.U[i].kind c.T c.U.length)).length:=by rw[hlen];omega
  have hk3:k<(qi w w.U[i].kind c.T c.U.length).length:=θ;have hg9:(yz (qi w w.U[i].kind c.T c.U.length))[k]=wu w c k w.U[i].kind:=by rw[ei hk3];exact Fbp ..
  refine⟨k,rfl,za _ (zn hk2) (Qc zb pz (zoo hx1 ?_))⟩;have hpt:=R4 hS2.S hos (Sh hm.hr c k) Qax θ hS2.ok hiL (mvG ((yz (qi w w.U[i].kind c.T c.U.length))[k]'hk2) w.U[i]) hid' (show w.U[i].pos.ok from hn _ (Faa hi)) (λr S=>r=.tup []/\∃F3 G3 L3,S=F3.un (svS G3 s {w with U:=(mvL w c k).set i (mvG ((yz (qi w w.U[i].kind c.T c.U.length))[k]'hk2) w.U[i])} (.s (.slice oa w.U.length cap)) o0 o1 o2 p)/\StandR F3 G3 s p {w with U:=(mvL w c k).set i (mvG ((yz (qi w w.U[i].kind c.T c.U.length))[k]'hk2) w.U[i])} (.s (.slice oa w.U.length cap)) L3 o0 o1 o2/\(∀q,xz (.s (.slice oa w.U.length cap)) q->G3.obj q=G2.obj q)/\L3.length<=L1.length+1/\∀e∈L3,e.2.ok) λF3 G3 L3 g1 g2 g3 g4=>⟨rfl,F3,G3,L3,rfl,g1,g2,g3,g4⟩;refine⟨ACalls.frame hdN hpt ?_,Tv⟩;rintro _ _ ⟨rfl,F3,G3,L3,rfl,g1,g2,g3,g4⟩ hdN3;refine⟨Tv,?_⟩;dsimp only at g1 hdN3⊢;rw[hput _ hg9]at g1 hdN3⊢;exact AWp.of_vc zb (Qd ⟨(k+1,F3,G3,L3,cs2,bs2,clk2,N2),hdec,⟨ζ,rfl,⟨hdN3,hF⟩,fin g1 g2 g3 g4⟩,Qbn,Tv⟩)
 ·rw[zl,hlen]at c5;have hk3:¬k<(qi w w.U[i].kind c.T c.U.length).length:=θ;have hg9:c.T=wu w c k w.U[i].kind:=(ek hk3).symm;refine Qc zb pz (zoo hx1 ?_);have hpt:=R4 hS2.S hos (Sh hm.hr c k) Qax θ hS2.ok hiL (mvG c.T w.U[i]) hid' (show w.U[i].pos.ok from hn _ (Faa hi)) (λr S=>r=.tup []/\∃F3 G3 L3,S=F3.un (svS G3 s {w with U:=(mvL w c k).set i (mvG c.T w.U[i])} (.s (.slice oa w.U.length cap)) o0 o1 o2 p)/\StandR F3 G3 s p {w with U:=(mvL w c k).set i (mvG c.T w.U[i])} (.s (.slice oa w.U.length cap)) L3 o0 o1 o2/\(∀q,xz (.s (.slice oa w.U.length cap)) q->G3.obj q=G2.obj q)/\L3.length<=L1.length+1/\∀e∈L3,e.2.ok) λF3 G3 L3 g1 g2 g3 g4=>⟨rfl,F3,G3,L3,rfl,g1,g2,g3,g4⟩;refine⟨ACalls.frame hdN hpt ?_,Tv⟩;rintro _ _ ⟨rfl,F3,G3,L3,rfl,g1,g2,g3,g4⟩ hdN3;refine⟨Tv,?_⟩;dsimp only at g1 hdN3⊢;rw[hput _ hg9]at g1 hdN3⊢;exact AWp.of_vc zb (Qd ⟨(k+1,F3,G3,L3,cs2,bs2,clk2,N2),hdec,⟨ζ,rfl,⟨hdN3,hF⟩,fin g1 g2 g3 g4⟩,Qbn,Tv⟩)
section
variable {F G N:Store} {xw s p fb kc:Nat} {room:Int} {w:Wld} {v o0 o1 o2:AV}
def Qay{p:Prop}(h:p:=by repeat(first|exact Tv|refine⟨rfl,?_⟩|refine⟨zoo hx rfl,?_⟩|refine⟨zoo hs rfl,?_⟩)):p:=h
def ze9{kc:Nat}{L:List Ent}{c:Cmd}(hW:Work F G xw s p w v L o0 o1 o2 c (jy fb))(hdN:zk (F.un (svS G s w v o0 o1 o2 p)) N)(hFN:FldAny fb room (kc:Nat) N)(hm:MayF w)(hn:∀u∈w.U,u.pos.ok){i:Nat}(hi:i<w.U.length)(t:Nat)(ht:t<w.G.T.length)(htI:c.T=(t:Int))(R:Ja)
  (h:∀S' N',Co w w.U[i] c.T=none->zk S' N'->FldAny fb room (kc:Nat) N'->R (V.bool false) (S'.un N'))
  (h1:∀t2,Co w w.U[i] c.T=some t2->t2<w.G.T.length->∀F' G' L' q0 q1 q2 N',Work F' G' xw s p (Sb w i t2 hi) v L' q0 q1 q2 c (jy fb)->zk (F'.un (svS G' s (Sb w i t2 hi) v q0 q1 q2 p)) N'->FldAny fb room (kc:Nat) N'->R (V.bool true) ((F'.un (svS G' s (Sb w i t2 hi) v q0 q1 q2 p)).un N')):Jb 247 [ptr xw,.agg (zf w.U[i])] ((F.un (svS G s w v o0 o1 o2 p)).un N) R:=by
 have hU:=hm.hU;have hB:=hm.hB;have hx:=hW.x (F':=F) (q0:=o0) (q1:=o1) (q2:=o2);have hs:=hW.s (F':=F) (q0:=o0) (q1:=o1) (q2:=o2);have hr:=hW.r (F':=F) (q0:=o0) (q1:=o1) (q2:=o2);obtain⟨oa,cap,e,hget⟩:=hW.S.hu.form;subst e;refine Qy 52 Tryz.func247 ?_;refine Qc zb zw6 (zoo (yg hdN hx) ?_);refine⟨mg ⟨hx,hs,hr⟩ hdN hFN hm w.U[i].kind t ht c.T htI 64 ψ _ λN1 hd1 hF1=>⟨?_,?_⟩,Tv⟩
 ·repeat(first|exact Tv|refine⟨rfl,?_⟩|refine⟨zoo (yg hd1 hx) rfl,?_⟩)
 have hlen:=pd w w.U[i].kind c.T 64;have hlt3:=λ(t2:Nat) (h2:t2∈qi w w.U[i].kind c.T 64)=>(Rl h2).1;have hsome:=λ(j:Nat) (hj:j<(qi w (w.U[i]'hi).kind c.T 64).length)=>th (w:=w) (u:=w.U[i]'hi) (tile:=c.T) (j:=j) hj;have hnone:=ti (w:=w) (u:=w.U[i]'hi) (tile:=c.T);generalize qi w w.U[i].kind c.T 64=sl at*
 refine AWp.loop (σ:=Nat×Store×AV×AV×AV) ⟨λx=>[(0,.av (ptr xw)),(3,.bx 3 0),(16,.av (y9 (yz sl))),(17,.av (int (sl.length:Nat))),(18,.av (int (x.1:Nat)))],λ_=>[(3,zf w.U[i])],
  λx st'=>x.1<=sl.length/\st'=(x.2.1.un (svS G s w (.s (.slice oa w.U.length cap)) x.2.2.1 x.2.2.2.1 x.2.2.2.2 p)).un N1/\zk (x.2.1.un (svS G s w (.s (.slice oa w.U.length cap)) x.2.2.1 x.2.2.2.1 x.2.2.2.2 p)) N1/\StandR x.2.1 G s p w (.s (.slice oa w.U.length cap)) L x.2.2.1 x.2.2.2.1 x.2.2.2.2/\∀j,(hj:j<sl.length)->j<x.1->¬qh w w.U[i].id w.U[i].kind (yf w.G sl[j]),λx=>sl.length-x.1⟩ zb ?_ ?_
 ·refine⟨(0,F,o0,o1,o2),Tv,⟨Fad _,rfl,hd1,hW.S,λj _ hj=>by dsimp only at hj;omega⟩,⟨Tq,Tq,Tq,?_,Tq,Tv⟩,⟨rfl,Tv⟩⟩;show LV.le (.av (int ((rws zx (yz sl)).length:Nat))) (.av (int (sl.length:Nat)));rw[zl,By];exact Tq
 rintro⟨j,F1,q0,q1,q2⟩ st' ⟨hj,rfl,hd2,hS1,hall⟩;dsimp only at hj hd2 hS1 hall⊢;refine bcd (λc1=>?_) λc1=>?_;rotate_left
 ·exact ret (h _ _ (hnone λj' hj'=>hall j' hj' θ) hd2 hF1)
 have hlt:j<sl.length:=θ;have hlt2:j<(yz sl).length:=by rw[By];exact hlt
 have hsl:=hlt3 _ (Faa hlt);have hnat:(yz sl)[j]'hlt2=((sl[j]:Nat):Int):=Fbp ..;have hx1:=hW.x (F':=F1) (q0:=q0) (q1:=q1) (q2:=q2);have hs1:=hW.s (F':=F1) (q0:=q0) (q1:=q1) (q2:=q2);have ha:=qg hm.hg;refine⟨j,rfl,za _ (zn hlt2) (zoo (yg hd2 hx1) (zoo (yg hd2 hs1) (Si w.G hm.hg sl[j] θ _ hnat _ _ (Qc zb zw5 (zoo (yg hd2 hx1) ?_)))))⟩;have hpl:=bu hS1 hm.hg θ hm.hb hm.hr θ hn hW.hL hW.hF w.U[i].id w.U[i].kind (yf w.G sl[j]) (I7 hm.hg hsl) (λr S=>∃z F2 a0 a1 a2,r=V.bool z/\S=F2.un (svS G s w (.s (.slice oa w.U.length cap)) a0 a1 a2 p)/\(z=true↔qh w w.U[i].id w.U[i].kind (yf w.G sl[j]))/\StandR F2 G s p w (.s (.slice oa w.U.length cap)) L a0 a1 a2) λz F2 a0 a1 a2 hz hS2=>⟨z,F2,a0,a1,a2,rfl,rfl,hz,hS2⟩;refine⟨ACalls.frame hd2 hpl ?_,Tv⟩;rintro _ _ ⟨z,F2,a0,a1,a2,rfl,rfl,hz,hS2⟩ hd3;have hx2:=hW.x (F':=F2) (q0:=a0) (q1:=a1) (q2:=a2);have hs2:=hW.s (F':=F2) (q0:=a0) (q1:=a1) (q2:=a2);refine⟨Tv,zh (λc2=>?_) λc2=>?_⟩;rotate_left
 ·refine Qd ⟨(j+1,F2,a0,a1,a2),?_,⟨ζ,rfl,hd3,hS2,λj' hj' hjj=>?_⟩,Qbn,⟨rfl,Tv⟩⟩
  ·show sl.length-(j+1)<sl.length-j;omega
  ·by_cases e:j'=j
   ·subst e;intro hh;have:=hz.2 hh;rw[this]at c2;cases c2
   ·exact hall j' hj' (by dsimp only at hjj;omega)
 have hcl:=hz.1 c2;have hout:=hsome j hlt (λi' hi' hii=>hall i' hi' hii) hcl;refine Qc zb zw4 (Qbq (Qbr (Qc zb zw3 (zoo (yg hd3 hx2) ?_))));have hpt:=dm hS2 hW.os hm.hr θ (by have:=hW.hL;omega) (Kw hW.hF hn) hi (w9 w.U[i] (yf w.G sl[j])) rfl (I7 hm.hg hsl) (λr S=>r=.tup []/\∃F3 G3,S=F3.un (svS G3 s {w with U:=w.U.set i (w9 w.U[i] (yf w.G sl[j]))} (.s (.slice oa w.U.length cap)) a0 a1 a2 p)/\StandR F3 G3 s p {w with U:=w.U.set i (w9 w.U[i] (yf w.G sl[j]))} (.s (.slice oa w.U.length cap)) (D2 L (w9 w.U[i] (yf w.G sl[j]))) a0 a1 a2/\∀q,xz (.s (.slice oa w.U.length cap)) q->G3.obj q=G.obj q) λF3 G3 g1 g2=>⟨rfl,F3,G3,rfl,g1,g2⟩;refine⟨ACalls.frame hd3 hpt ?_,Tv⟩;rintro _ _ ⟨rfl,F3,G3,rfl,g1,g2⟩ hd4;refine⟨Tv,?_⟩;have hF3:=uc hW.hF hm.hr hi (u:=w9 w.U[i] (yf w.G sl[j])) rfl;refine ret (h1 sl[j] hout hsl F3 G3 _ a0 a1 a2 N1 ⟨g1,by rw[g2 xw hW.ox];exact hW.hx,hW.ox,hW.os,?_,hF3⟩ hd4 hF1);obtain⟨_,_,_,_,_,_,_,_,inv⟩:=g1.hc;exact ud inv.n1 hF3
def zez{kc:Nat}{L:List Ent}{c:Cmd}(hW:Work F G xw s p w v L o0 o1 o2 c (jy fb))(hdN:zk (F.un (svS G s w v o0 o1 o2 p)) N)(hFN:FldAny fb room (kc:Nat) N)(hm:MayF w)(hn:∀u∈w.U,u.pos.ok)(R:Ja)
  (h:∀S' N',ulE w c≠0->zk S' N'->FldAny fb room (kc:Nat) N'->R (int (ulE w c)) (S'.un N')) (h0:ulE w c=0->∀S' N',Df S' xw s c (jy fb) (ulW w c)->zk S' N'->FldAny fb room (kc:Nat) N'->R (int 0) (S'.un N')):Jb 165 [ptr xw] ((F.un (svS G s w v o0 o1 o2 p)).un N) R:=by
 have hU:=hm.hU;have hx:=yg hdN (hW.x (F':=F) (q0:=o0) (q1:=o1) (q2:=o2));have hs:=yg hdN (hW.s (F':=F) (q0:=o0) (q1:=o1) (q2:=o2));have hr:=(hW.r (F':=F) (q0:=o0) (q1:=o1) (q2:=o2)).unL hdN;obtain⟨oa,cap,e,hget⟩:=hW.S.hu.form;subst e;have ha:=qg hm.hg;refine Qy 96 Tryz.func165 ?_;refine zds ⟨hx,hs,hr⟩ hm.hr θ _ (qd (λc1=>?_) λc1=>?_)
 ·have:=nh c1;rw[this]at h;exact ret (h _ _ c1 hdN hFN)
 obtain⟨hask,hroom⟩:=Pk c1;obtain⟨ix,hix,hfx,hidx,hux,_,_⟩:=Ce hask;refine Qc zb zyb (zoo hx (zoo hs (zoo hx ⟨Sp w.G c.T hm.hg _ _ λz hz=>⟨Tv,Qbr (ye (zh (λc2=>?_) λc2=>?_))⟩,Tv⟩)));rotate_left
 ·have:=ng c1 λhh=>ψl;rw[this]at h;exact ret (h _ _ ψ hdN hFN)
 have htile:=hz.1 c2;have htn:c.T=((c.T.toNat:Nat):Int):=θ;have htl:c.T.toNat<w.G.T.length:=θ;have hup:(uAt w c.N).pos.ok:=ni hn c.N;refine Qc zb zya (zoo hx (zoo hs (zoo hx ⟨Si w.G hm.hg c.T.toNat θ _ htn _ _ ⟨?_,?_⟩,Tv⟩)))
 ·repeat(first|exact Tv|refine⟨rfl,?_⟩|refine⟨zoo hx rfl,?_⟩|refine⟨zoo hs rfl,?_⟩)
 refine⟨zcd (yf w.G c.T.toNat) (uAt w c.N).pos (I7 hm.hg htl) hup _ _ ⟨Qay,Qbr (bcd (λc3=>?_) λc3=>?_)⟩,Tv⟩
 ·have:=nf c1 htile c3;rw[this]at h;exact ret (h _ _ ψ hdN hFN)
 refine Qc zb zx9 (zoo hx (zoo hs ?_));rw[hux,hidx];refine⟨za4 hr θ c.N _ ⟨Qay,?_⟩,Tv⟩;have e4:=λh4=>nc (w:=w) (c:=c) c1 htile c3 h4;have e5:=λx h4=>na (w:=w) (c:=c) c1 htile c3 (x:=x) h4;have hids:=λid (hid:id∈z8 w.U c.N)=>za6 (w:=w) hm.hr hid;have hin:(z8 w.U c.N).length<=w.U.length:=θk;generalize z8 w.U c.N=ids at*
 refine AWp.loop (σ:=Nat×Wld×Store×Store×List Ent×AV×AV×AV×Store) ⟨λx=>[(0,.av (ptr xw)),(62,.av (y9 ids)),(63,.av (int (ids.length:Nat))),(64,.av (int (x.1:Nat)))],λ_=>[],
  λx st'=>x.1<=ids.length/\st'=(x.2.2.1.un (svS x.2.2.2.1 s x.2.1 (.s (.slice oa w.U.length cap)) x.2.2.2.2.2.1 x.2.2.2.2.2.2.1 x.2.2.2.2.2.2.2.1 p)).un x.2.2.2.2.2.2.2.2/\(zk (x.2.2.1.un (svS x.2.2.2.1 s x.2.1 (.s (.slice oa w.U.length cap)) x.2.2.2.2.2.1 x.2.2.2.2.2.2.1 x.2.2.2.2.2.2.2.1 p)) x.2.2.2.2.2.2.2.2/\FldAny fb room (kc:Nat) x.2.2.2.2.2.2.2.2)/\Work x.2.2.1 x.2.2.2.1 xw s p x.2.1 (.s (.slice oa w.U.length cap)) x.2.2.2.2.1 x.2.2.2.2.2.1 x.2.2.2.2.2.2.1 x.2.2.2.2.2.2.2.1 c (jy fb)/\unl c.T (ids.drop x.1) x.2.1=unl c.T ids w/\MayF x.2.1/\(∀u∈x.2.1.U,u.pos.ok)/\x.2.1.U.length=w.U.length/\x.2.1.G=w.G/\∀id,qa x.2.1.U id=qa w.U id,λx=>ids.length-x.1⟩ zb ?_ ?_
 ·refine⟨(0,w,F,G,L,o0,o1,o2,N),Tv,⟨Fad _,rfl,⟨hdN,hFN⟩,hW,by rw[Fcb],hm,hn,rfl,rfl,λ_=>rfl⟩,⟨Tq,Tq,?_,Tq,Tv⟩,Tv⟩;show LV.le (.av (int ((rws zx ids).length:Nat))) (.av (int (ids.length:Nat)));rw[zl];exact Tq
 clear hdN hFN hx hs hr;rintro⟨k,wc,F1,G1,L1,q0,q1,q2,N1⟩ st' ⟨hk,rfl,⟨hdN,hFN⟩,hW1,hun,hm1,hn1,hl1,hG1,hf1⟩;dsimp only at hk hdN hFN hW1 hun hm1 hn1 hl1 hG1 hf1⊢;have hx0:=hW1.x (F':=F1) (q0:=q0) (q1:=q1) (q2:=q2);have hs0:=hW1.s (F':=F1) (q0:=q0) (q1:=q1) (q2:=q2);have hr0:=hW1.r (F':=F1) (q0:=q0) (q1:=q1) (q2:=q2);have hx1:=yg hdN hx0;have hs1:=yg hdN hs0;have hr1:=hr0.unL hdN;refine bcd (λh1=>?_) λh1=>?_;rotate_left
 ·have:k=ids.length:=θ;subst this;rw[List.drop_length]at hun;obtain⟨g1,g2⟩:=e5 wc hun.symm;rw[g2]at h0;exact ret (h0 g1 _ N1 ⟨_,q0,q1,q2,p,hx0,hs0,hr0⟩ hdN hFN)
 have hlt:k<ids.length:=θ;obtain⟨iu,hiu,hfu⟩:=hids _ (Faa hlt);have hiu1:iu<wc.U.length:=θ;have hfu1:qa wc.U ids[k]=some iu:=by rw[hf1];exact hfu
 rw[Fdj hlt]at hun;refine⟨k,rfl,za _ (zn hlt) (zoo hx1 (zoo hs1 (Wc hr1 θ hm1.hr ids[k] _ λi hi z hz=>?_)))⟩;obtain⟨g1,g2⟩:=zb7 hm1.hr hz hi;have hzi:i=iu:=by
  cases z with
  |false=>rw[g2 rfl]at hfu1;cases hfu1
  |true=>rw[g1 rfl]at hfu1;exact Option.some.inj hfu1
 subst hzi;refine zoo hx1 (zoo hs1 ?_);have hget1:=hr1.form;obtain⟨oa2,cap2,e2,hget1⟩:=hget1;simp only[AV.s.injEq,Value.slice.injEq]at e2;obtain⟨rfl,_,rfl⟩:=e2;obtain⟨b,J,rfl,hob⟩:=hget1 i hiu1;refine⟨i,rfl,hiu,zoo hob (yq (i:=ti36) (row:=zf wc.U[i]) rfl rfl (xt yn hiu1) (ze9 hW1 hdN hFN hm1 hn1 hiu1 c.T.toNat (by rw[hG1];exact htl) htn _ (λS' N2 hno hd2 hF2=>?_) λt2 hso ht2 F2 G2 L2 a0 a1 a2 N2 hW2 hd2 hF2=>?_))⟩
 ·rw[P5 hiu1 hfu1 hno]at hun;have g5:=e4 hun.symm;rw[g5]at h;exact ret (h _ _ ψ hd2 hF2)
 ·rw[P4 hiu1 hfu1 hso]at hun;refine Qd ⟨(k+1,Sb wc i t2 hiu1,F2,G2,L2,a0,a1,a2,N2),?_,⟨ζ,rfl,⟨hd2,hF2⟩,hW2,hun,zak hm1 hiu1 rfl (show kr wc.U[i].kind from hm1.hk _ (Faa hiu1)),λu hu=>?_,?_,hG1,λid=>?_⟩,Qbn,Tv⟩
  ·show ids.length-(k+1)<ids.length-k;omega
  ·rcases et (show u∈wc.U.set i _ from hu)with rfl|hu
   ·exact I7 hm1.hg ht2
   ·exact hn1 u hu
  ·show(wc.U.set i _).length=_;rw[Faf];exact hl1
  ·show qa (wc.U.set i (w9 wc.U[i] (yf wc.G t2))) id=_;rw[zb5 hm1.hr hiu1 (u:=w9 wc.U[i] (yf wc.G t2)) rfl];exact hf1 id
end
def Qaz{p:Prop}(h:p:=by repeat(first|exact Tv|refine⟨rfl,?_⟩|refine⟨zoo hp rfl,?_⟩|refine⟨⟨ix,rfl,hix,rfl⟩,?_⟩|refine⟨zoo hob (yq (i:=ti36) (row:=zf w.U[ix]) rfl rfl (xt yn hix) rfl),?_⟩)):p:=h
def ro(g:Gnd)(hg:zw g)(l:List Bld)(hl:l.length<=1000000000000)(hb:∀b∈l,yi b/\onP g b)(c:Int)(hc:c=0\/c=1\/c=2)(size:Int)(hs:0<=size/\size<=3)(goal:Nat)(hgl:goal<g.T.length)(tI:Int)(htI:tI=(goal:Int))(n:Nat)(hn:n<=1000)(st:Store)(R:Ja)(h:R (y9 (yz (Dl g (zo g l c size) size tI n))) st):
  Jb 174 [.agg (zq g),lst 6 zi l,int c,int size,int tI,int n] st R:=by
 subst htI;exact yat g hg l hl hb c hc size hs goal hgl n hn st R h
def yaf{S:Store}{p:Nat}{w:Wld}{v:AV}(hp:S.obj p=some (.cells (zz w v)))(hv:RowsQ 10 zf S v w.U)(hoff:xz v p)(hm:MayF w)(hn:∀u∈w.U,u.pos.ok)(c:Cmd)(R:Ja)
  (h:∀S',ulE w c≠0->R (int (ulE w c)) S') (h0:ulE w c=0->∀S' v',S'.obj p=some (.cells (zz (ulW w c) v'))->RowsQ 10 zf S' v' (ulW w c).U->R (int 0) S'):Jb 119 [ptr p,.agg (yh c)] S R:=by
 have hU:=hm.hU;have hB:=hm.hB;obtain⟨oa,cap,e,hget⟩:=hv.form;subst e;have ha:=qg hm.hg;refine Qb (c:=cfg 146) zb Tryz.func119 ?_;refine AWp.seq (AWp.of_vc zb ?_);refine AWp.seq (AWp.of_vc zb ?_);refine Qc zb zzp (Qbs ?_);refine⟨sk hv θ hm.hk c _ ⟨Qe,Qbr (AWp.seq (AWp.of_vc zb (qd (λc1=>?_) λc1=>?_)))⟩,Tv⟩
 ·have:=nh c1;rw[this]at h;exact ret (h _ c1)
 obtain⟨hask,hroom⟩:=Pk c1;obtain⟨ix,hix,hfx,hidx,hux,_,_⟩:=Ce hask;refine AWp.seq (AWp.of_vc zb (Qc zb zzl (Qbs ?_)));refine⟨Ns w.G c.T hm.hg _ _ λz hz=>⟨Tv,ye (zh (λc2=>?_) λc2=>?_)⟩,Tv⟩;rotate_left
 ·have:=ng c1 λhh=>ψl;rw[this]at h;exact ret (h _ ψ)
 have htile:=hz.1 c2;have htn:c.T=((c.T.toNat:Nat):Int):=θ;have htl:c.T.toNat<w.G.T.length:=θ;refine AWp.meetA (σ:=Unit) ⟨λ_=>[(0,.av (ptr p)),(3,.bx 3 0),(6,.bx 6 0)],λ_=>[(3,yh c),(6,zf w.U[ix])],λ_ st'=>st'=S⟩ ?_ ?_
 ·refine AWp.of_vc zb (Qc zb zzk (Qbs (Qbs ?_)));obtain⟨b,J,e2,hob⟩:=hget ix hix;subst e2;refine⟨Gc hv θ c.N _ ⟨Qaz,?_⟩,⟨Qaz,?_⟩,Tv⟩
  ·rw[hfx];refine⟨ix,rfl,hix,Qbs (yq (i:=ti36) (row:=zf w.U[ix]) rfl rfl (xt yn hix) ?_)⟩;exact⟨⟨Qaz,Qbr ⟨(),rfl,Qbn,⟨rfl,rfl,Tv⟩⟩⟩,Tv⟩
  ·refine⟨Gc hv θ c.N _ ⟨Qaz,?_⟩,Tv⟩;rw[hfx];refine⟨ix,rfl,hix,Qbs (yq (i:=ti36) (row:=zf w.U[ix]) rfl rfl (xt yn hix) (Qbr ?_))⟩;exact⟨(),rfl,Qbn,⟨rfl,rfl,Tv⟩⟩
 rintro _ S rfl;refine AWp.of_vc zb (Qc zb zzj (Qbs ?_));refine⟨I6 w.G hm.hg c.T.toNat htl _ htn _ _ ⟨Qe,⟨cw (yf w.G c.T.toNat) w.U[ix].pos (I7 hm.hg htl) (hn _ (Faa hix)) _ _ ⟨Tv,bcd (λc3=>?_) λc3=>?_⟩,Tv⟩⟩,Tv⟩
 ·have:=nf c1 htile (by rw[hux];exact c3);rw[this]at h;exact ret (h _ ψ)
 have e4:=λh4=>nc (w:=w) (c:=c) c1 htile (by rw[hux];exact c3) h4;have e5:=λx h4=>na (w:=w) (c:=c) c1 htile (by rw[hux];exact c3) (x:=x) h4;have hids:=λid (hid:id∈z8 w.U c.N)=>za6 (w:=w) hm.hr hid;have hin:(z8 w.U c.N).length<=w.U.length:=θk;refine Qc zb zzi (Qbs ?_);refine⟨rq hv θ c.N _ ⟨Qe,Qbr ?_⟩,Tv⟩;generalize z8 w.U c.N=ids at*
 refine AWp.loop (σ:=Nat×Wld×Store) ⟨λx=>[(0,.av (ptr p)),(3,.bx 3 0),(7,.av (y9 ids)),(8,.av (int (x.1:Nat)))],λ_=>[(3,yh c)],
  λx st'=>x.1<=ids.length/\st'=x.2.2/\x.2.2.obj p=some (.cells (zz x.2.1 (.s (.slice oa w.U.length cap))))/\RowsQ 10 zf x.2.2 (.s (.slice oa w.U.length cap)) x.2.1.U/\unl c.T (ids.drop x.1) x.2.1=unl c.T ids w/\MayF x.2.1/\(∀u∈x.2.1.U,u.pos.ok)/\x.2.1.U.length=w.U.length/\x.2.1.G=w.G/\∀id,qa x.2.1.U id=qa w.U id,λx=>ids.length-x.1⟩ zb ?_ ?_
 ·exact⟨(0,w,S),Tv,⟨Fad _,rfl,hp,hv,by rw[Fcb],hm,hn,rfl,rfl,λ_=>rfl⟩,Qbn,⟨rfl,Tv⟩⟩
 rintro⟨k,wc,S0⟩ S1 ⟨hk,rfl,hp1,hr1,hun,hm1,hn1,hl1,hG1,hf1⟩;dsimp only at hk hp1 hr1 hun hm1 hn1 hl1 hG1 hf1⊢;refine zh (λh1=>?_) λh1=>?_;rotate_left
 ·have hkl:k=ids.length:=qw h1 hk;subst hkl;rw[List.drop_length]at hun;obtain⟨g1,g2⟩:=e5 wc hun.symm;rw[g2]at h0;exact ret (h0 g1 _ _ hp1 hr1)
 have hlt:=qn h1;obtain⟨iu,hiu,hfu⟩:=hids _ (Faa hlt);have hiu1:iu<wc.U.length:=θ;have hfu1:qa wc.U ids[k]=some iu:=by rw[hf1];exact hfu
 rw[Fdj hlt]at hun;have hr9:=hr1;rcases hr1 with(⟨_,hl0⟩|⟨b,cap',J,e,ho,hc1,hc2,hc3⟩)|⟨_,_,_,hl0⟩
 ·rw[hl0]at hiu1;exact absurd hiu1 (Fau iu)
 rotate_left
 ·rw[hl0]at hiu1;exact absurd hiu1 (Fau iu)
 simp only[AV.s.injEq,Value.slice.injEq]at e;obtain⟨rfl,e7,rfl⟩:=e;have hcap:0<cap:=θ;have hbp:b≠p:=hoff b _ _ rfl hcap;refine Qc zb zzo (Qbs (Qbs ?_));refine⟨k,rfl,za _ (zn hlt) ⟨Gc hr9 θ ids[k] _ ⟨Qe,?_⟩,Tv⟩⟩;rw[hfu1];refine⟨iu,rfl,hiu,Qbr ?_⟩;have fld:∀j,(hj:j<10)->∀{y:AV},(zf wc.U[iu])[j]?=some y->(((rws zf wc.U).flatten++J).drop (0+iu*10+j)).head?=some y:=λj hj y hy=>Va hiu1 hj hy;refine Qbs (za (o:=List.head? _) (int wc.U[iu].kind) (fld 2 ψ rfl) (Cn wc.U[iu].kind (hm1.hk _ (Faa hiu1)) _ _ ?_));refine Qc zb zzn (Qbs (Qbs ?_));refine⟨ro wc.G hm1.hg wc.B (by have:=hm1.hB;omega) hm1.hb (yl wc.U[iu].kind) (Gk _) (qm wc.U[iu].kind) (Im _) c.T.toNat (by rw[hG1];exact htl) c.T htn 64 ψ _ _ ⟨Qe,Qbr ?_⟩,Tv⟩;have hsu:Dl wc.G (zo wc.G wc.B (yl wc.U[iu].kind) (qm wc.U[iu].kind)) (qm wc.U[iu].kind) c.T 64=qi wc (wc.U[iu]'hiu1).kind c.T 64:=rfl;rw[hsu];have hlen:=pd wc wc.U[iu].kind c.T 64;have hlt3:=λ(t2:Nat) (h2:t2∈qi wc wc.U[iu].kind c.T 64)=>(Rl h2).1;have hsome:=λ(j:Nat) (hj:j<(qi wc (wc.U[iu]'hiu1).kind c.T 64).length)=>th (w:=wc) (u:=wc.U[iu]'hiu1) (tile:=c.T) (j:=j) hj;have hnone:=ti (w:=wc) (u:=wc.U[iu]'hiu1) (tile:=c.T);generalize qi wc wc.U[iu].kind c.T 64=sl at*
 refine AWp.loop (σ:=Nat×Int) ⟨λx=>[(0,.av (ptr p)),(3,.bx 3 0),(7,.av (y9 ids)),(8,.av (int (k:Nat))),(9,.av (.s (.pointer (some ⟨b,0+iu*10,none⟩)))),(11,.av (y9 (yz sl))),(12,.av (int x.2)),(13,.av (int (x.1:Nat)))],λ_=>[(3,yh c)],
  λx st'=>x.1<=sl.length/\st'=S1/\((x.2=-1/\∀j,(hj:j<sl.length)->j<x.1->¬qh wc wc.U[iu].id wc.U[iu].kind (yf wc.G sl[j]))\/∃t2:Nat,x.2=t2/\t2<wc.G.T.length/\Co wc wc.U[iu] c.T=some t2),λx=>sl.length-x.1⟩ zb ?_ ?_
 ·exact⟨(0,-1),Tv,⟨Fad _,rfl,.inl ⟨rfl,λj _ hj=>by dsimp only at hj;omega⟩⟩,Qbn,⟨rfl,Tv⟩⟩
 rintro⟨j,at1⟩ S1 ⟨hj,rfl,hat⟩;dsimp only at hj hat⊢;rcases hat with⟨rfl,hall⟩|⟨t2,rfl,ht2,hso⟩
 ·refine bcd (λc5=>?_) λc5=>?_;rotate_left
  ·rw[zl,By]at c5;have hno:=hnone λj' hj'=>hall j' hj' θ;rw[P5 hiu1 hfu1 hno]at hun;have g5:=e4 hun.symm;rw[g5]at h;exact ret (h _ ψ)
  rw[zl,By]at c5;have hjl:j<sl.length:=θ;have hjl2:j<(yz sl).length:=by rw[By];exact hjl
  have hsl:=hlt3 _ (Faa hjl);have hnat:(yz sl)[j]'hjl2=((sl[j]:Nat):Int):=Fbp ..;have hdec:sl.length-(j+1)<sl.length-j:=θ;refine Qc zb zzm ?_;refine Qbs ?_;refine Qbs ?_;refine za (o:=List.head? _) (int wc.U[iu].id) (fld 0 ψ rfl) ?_;refine Qbs ?_;refine za (o:=List.head? _) (int wc.U[iu].kind) (fld 2 ψ rfl) ?_;refine Qbs ?_;refine⟨j,rfl,za _ (zn hjl2) ?_⟩;refine⟨I6 wc.G hm1.hg sl[j] hsl _ hnat _ _ ⟨(by repeat(first|exact Tv|refine⟨rfl,?_⟩|refine⟨za (o:=S1.obj p) _ hp1 rfl,?_⟩|refine⟨za (o:=S1.obj b) _ ho (za (o:=List.head? _) _ (fld 0 ψ rfl) rfl),?_⟩|refine⟨za (o:=S1.obj b) _ ho (za (o:=List.head? _) _ (fld 2 ψ rfl) rfl),?_⟩|refine⟨⟨j,rfl,za _ (zn hjl2) rfl⟩,?_⟩)),?_⟩,Tv⟩;refine⟨sj hr9 hm1 hn1 wc.U[iu].id wc.U[iu].kind (hm1.hk _ (Faa hiu1)) (yf wc.G sl[j]) (I7 hm1.hg hsl) _ λz hz=>⟨Tv,zh (λc6=>?_) λc6=>?_⟩,Tv⟩
  ·refine⟨j,rfl,za _ (zn hjl2) ?_⟩;have hout:=hsome j hjl (λi' hi' hii=>hall i' hi' hii) (hz.1 c6);exact Qd ⟨(j+1,(yz sl)[j]'hjl2),hdec,⟨ζ,rfl,.inr ⟨sl[j],hnat,hsl,hout⟩⟩,Qbn,⟨rfl,Tv⟩⟩
  ·refine Qd ⟨(j+1,-1),hdec,⟨ζ,rfl,.inl ⟨rfl,λj' hj' hjj=>?_⟩⟩,Qbn,⟨rfl,Tv⟩⟩;by_cases e:j'=j
   ·subst e;intro hh;have:=hz.2 hh;rw[this]at c6;cases c6
   ·exact hall j' hj' (by dsimp only at hjj;omega)
 ·rw[P4 hiu1 hfu1 hso]at hun;have hk1:MayF {wc with U:=wc.U.set iu (w9 wc.U[iu] (yf wc.G t2))}:=zak hm1 hiu1 rfl (show kr wc.U[iu].kind from hm1.hk _ (Faa hiu1));have hnn:∀u∈wc.U.set iu (w9 wc.U[iu] (yf wc.G t2)),u.pos.ok:=λu hu=>by
   rcases et hu with rfl|hu
   ·exact I7 hm1.hg ht2
   ·exact hn1 u hu
  have hff:∀id,qa (wc.U.set iu (w9 wc.U[iu] (yf wc.G t2))) id=qa w.U id:=λid=>by rw[zb5 hm1.hr hiu1 (u:=w9 wc.U[iu] (yf wc.G t2)) rfl];exact hf1 id
  have hll:(wc.U.set iu (w9 wc.U[iu] (yf wc.G t2))).length=w.U.length:=by rw[Faf];exact hl1
  have u1:RowsQ 10 zf S1 (.s (.slice (some ⟨b,0,none⟩) w.U.length cap)) wc.U:=hr9;refine bcd (λc5=>?_) λc5=>?_
  all_goals
   refine Qbs (I6 wc.G hm1.hg t2 ht2 _ rfl _ _ (xo (i:=ti2) (v:=int 0) (b:=b) (o:=0+iu*10+8) (l:=(rws zf wc.U).flatten++J) rfl rfl rfl ho (show 0+iu*10+8+1<=_ by rw[Fae,qr yn];omega) ?_));have q1:=C8 (x':={wc.U[iu]with inn:=0}) (ys:=[int 0]) (j:=8) ho hiu1 ψ rfl;have p1:=(zj (st:=S1) (x:=.cells (zv ((rws zf wc.U).flatten++J) (0+iu*10+8) [int 0])) (Ne.symm hbp)).trans hp1;generalize S1.sO b _=S2 at q1 p1⊢;refine jq (i:=ti33) (v:=.agg (zu (yf wc.G t2))) (xs:=zu (yf wc.G t2)) (b:=b) (o:=0+iu*10+3) (l:=(rws zf (wc.U.set iu {wc.U[iu]with inn:=0})).flatten++J) rfl rfl rfl q1 (show 0+iu*10+3+2<=_ by rw[Fae,qr yn,Faf];omega) ?_;have q2:=C8 (x':=w9 wc.U[iu] (yf wc.G t2)) (ys:=zu (yf wc.G t2)) (j:=3) q1 (by rw[Faf];exact hiu1) (show 3+2<=10 by decide) (by rw[Fbm];rfl);rw[Fbr]at q2;have p2:=(zj (st:=S2) (x:=.cells (zv ((rws zf (wc.U.set iu {wc.U[iu]with inn:=0})).flatten++J) (0+iu*10+3) (zu (yf wc.G t2)))) (Ne.symm hbp)).trans p1;generalize S2.sO b _=S3 at q2 p2⊢;refine Qd ⟨(k+1,{wc with U:=wc.U.set iu (w9 wc.U[iu] (yf wc.G t2))},S3),?_,⟨ζ,rfl,p2,.inl (.inr ⟨b,cap,J,by rw[hll],q2,by rw[Faf];exact hc1,by rw[Faf];exact hc2,hc3⟩),hun,hk1,hnn,hll,hG1,hff⟩,Qbn,⟨rfl,Tv⟩⟩;show ids.length-(k+1)<ids.length-k;omega
def ycz(w:Wld)(hw:w.fits)(hn:∀u∈w.U,u.pos.ok)(hU:w.U.length<=1000000)(c:Cmd)(hc:c.fits)(hK:c.K=7):Jb 72 [.agg (zp w),.agg (yh c)] Store.empty (DoQ ulE ulW w c):=by
 refine Qa (c:=cfg 97 [6] []) zb Tryz.func72 ?_;have bad:(¬ya w\/¬js c\/w.players<c.P)->DoQ ulE ulW w c (.tup [.agg (zp w),int 1]) Store.empty:=λhb=>by have he:=Gq (E:=ulE) (w:=w) (c:=c) hb;exact .inl ⟨θa,by rw[he]⟩
 refine Ga w hw hn _ _ λz hz=>ye (zh (λc1=>?_) λc1=>?_);rotate_left
 ·exact ret (bad (.inl λhh=>θg))
 refine I3 c hc _ _ λzc hzc=>ye (zh (λc2=>?_) λc2=>?_);rotate_left
 ·exact ret (bad (.inr (.inl λhh=>θr)))
 refine bcd (λc3=>?_) λc3=>?_
 ·exact ret (bad (.inr (.inr θ)))
 have hm:=hz.1 c1;have hcp:=hzc.1 c2;have he:=Hp (E:=ulE) hm hcp (show c.P<=w.players by omega);refine I2 w hw hU _ _ λv N hv _=>?_;rw[Bc];have hv:=hv.q;have hoff:=λ(p:Nat) (hp:Fresh N p)=>Cp hv (k8 (fresh_iff.1 hp)).1;obtain⟨oa,cap,e,_⟩:=hv.form;subst e;refine λp hp=>jq (i:=ti27) (v:=.agg (zz w (.s (.slice oa w.U.length cap)))) (xs:=zz w (.s (.slice oa w.U.length cap))) (b:=p) (o:=0) (l:=_) rfl rfl rfl (zd _ _ _) (show 0+8<=8 by decide) ?_;generalize hS:(N.sO p _).sO p _=S;have hp2:S.obj p=some (.cells (zz w (.s (.slice oa w.U.length cap)))):=θs;have hr2:RowsQ 10 zf S (.s (.slice oa w.U.length cap)) w.U:=θt;refine zt (λh=>absurd (hK.symm.trans h) ψ) λ_=>zt (λh=>absurd (hK.symm.trans h) ψ) λ_=>zt (λh=>absurd (hK.symm.trans h) ψ) λ_=>zt (λh=>absurd (hK.symm.trans h) ψ) λ_=>zt (λh=>absurd (hK.symm.trans h) ψ) λ_=>zt (λh=>absurd (hK.symm.trans h) ψ) λ_=>zt (λ_=>yaf hp2 hr2 (hoff p hp) (xh hm) hn c _ (λS' hE=>?_) λhE S' v' g1 g2=>?_) λh=>absurd hK h
 ·exact qd (λ_=>ret (.inl ⟨θu,by rw[he];rfl⟩)) λh=>absurd h hE
 ·obtain⟨oa2,cap2,e2,_⟩:=g2.form;subst e2;refine Qbs ?_;exact ret (.inr ⟨he.trans hE,_,g2,rfl⟩)
def ycb:Kf 7 ulE ulW:=λw hw hn hU c hc hK R h=>Lf (ycz w hw hn hU c hc hK) R h
def Qba{p:Prop}(h:p:=by rw[Faf];exact hiL):p:=h
def Qbb{p:Prop}(h:p:=by rw[Fbm];rfl):p:=h
def ybm{S:Store}{p:Nat}{w:Wld}{v:AV}(hp:S.obj p=some (.cells (zz w v)))(hv:RowsQ 10 zf S v w.U)(hoff:xz v p)(hm:MayF w)(hn:∀u∈w.U,u.pos.ok)(c:Cmd)(hcU:c.U.length<=64)(R:Ja)
  (h:∀S',mvE w c≠0->R (int (mvE w c)) S') (h0:mvE w c=0->∀S' v',S'.obj p=some (.cells (zz (mvW w c) v'))->RowsQ 10 zf S' v' (mvW w c).U->R (int 0) S'):Jb 114 [ptr p,.agg (yh c)] S R:=by
 have hU:=hm.hU;have hB:=hm.hB;obtain⟨oa,cap,e,hget⟩:=hv.form;subst e;have ha:=qg hm.hg;refine Qy 95 Tryz.func114 ?_;refine Qc zb zz6 (Qbs ?_);refine⟨Ns w.G c.T hm.hg _ _ λz hz=>⟨Tv,ye (zh (λc2=>?_) λc2=>?_)⟩,Tv⟩;rotate_left
 ·have:=eo (w:=w) (c:=c) λhh=>ψl;rw[this]at h;exact ret (h _ ψ)
 have htile:=hz.1 c2;have htn:c.T=((c.T.toNat:Nat):Int):=θ;have htl:c.T.toNat<w.G.T.length:=θ;have hE:=el htile;rw[hE]at h h0;refine Qc zb zz4 (Qbs ?_);refine⟨sr hv θ c θ _ ⟨Qe,Qbr (qd (λc3=>?_) λc3=>?_)⟩,Tv⟩
 ·exact ret (h _ c3)
 have hzero:=Gu c3
 refine AWp.loop (σ:=Nat×Store) ⟨λx=>[(0,.av (ptr p)),(3,.bx 3 0),(6,.av (int (x.1:Nat)))],λ_=>[(3,yh c)],
  λx st'=>x.1<=c.U.length/\st'=x.2/\x.2.obj p=some (.cells (zz w (.s (.slice oa w.U.length cap))))/\RowsQ 10 zf x.2 (.s (.slice oa w.U.length cap)) (mvL w c x.1),λx=>c.U.length-x.1⟩ zb ?_ ?_
 ·exact⟨(0,S),Tv,⟨Fad _,rfl,hp,hv⟩,Qbn,⟨rfl,Tv⟩⟩
 rintro⟨k,S0⟩ S1 ⟨hk,rfl,hp1,hr1⟩;dsimp only at hk hp1 hr1⊢;refine zh (λh1=>?_) λh1=>?_;rotate_left
 ·have hkl:k=c.U.length:=qw h1 hk;subst hkl;exact ret (h0 c3 _ _ hp1 hr1)
 have hlt:=qn h1;obtain⟨i,hi,hf,hid,hu,how,hin⟩:=Ce (hzero c.U[k] (Faa hlt));obtain⟨U1,hgU⟩:∃U1,U1=mvL w c k:=⟨_,rfl⟩
 have hiL:i<U1.length:=by rw[hgU,Af];exact hi
 have hf2:qa U1 c.U[k]=some i:=by rw[hgU,yfi hm.hr];exact hf
 have hstep:mvL w c (k+1)=U1.set i (mvG (wu w c k w.U[i].kind) w.U[i]):=by rw[hgU];exact eh hlt hf hi
 have hcore:mvG 0 U1[i]=mvG 0 w.U[i]:=by subst hgU;exact Ox w c k i hi
 have hlL:U1.length=w.U.length:=by rw[hgU];exact Af w c k
 have hlL2:=Af w c (k+1);have hkd:U1[i].kind=w.U[i].kind:=(Ij hcore).2.2.1;rw[<-hgU]at hr1;clear hgU;have hr9:=hr1;rcases hr1 with(⟨_,hl0⟩|⟨b,cap',J,e,ho,hc1,hc2,hc3⟩)|⟨_,_,_,hl0⟩
 ·rw[hl0]at hiL;exact absurd hiL (Fau i)
 rotate_left
 ·rw[hl0]at hiL;exact absurd hiL (Fau i)
 simp only[AV.s.injEq,Value.slice.injEq]at e;obtain⟨rfl,e7,rfl⟩:=e;have hcap:0<cap:=θ;have hbp:b≠p:=hoff b _ _ rfl hcap;refine Qc zb zz3 (Qbs (Qbs ?_));refine⟨k,rfl,za _ (zn hlt) ⟨Gc (w:={w with U:=U1}) hr9 ζ c.U[k] _ ⟨Qe,?_⟩,Tv⟩⟩;dsimp only;rw[hf2];refine⟨i,rfl,hi,Qbr ?_⟩;have fld:∀j,(hj:j<10)->∀{y:AV},(zf U1[i])[j]?=some y->(((rws zf U1).flatten++J).drop (0+i*10+j)).head?=some y:=λj hj y hy=>Va hiL hj hy;refine Qbs (za (o:=List.head? _) (int U1[i].kind) (fld 2 ψ rfl) ?_);rw[hkd];refine Cn w.U[i].kind (hm.hk _ (Faa hi)) _ _ (Qc zb zz5 (Qbs (Qbs ?_)));refine⟨ro w.G hm.hg w.B θ hm.hb (yl w.U[i].kind) (Gk _) (qm w.U[i].kind) (Im _) c.T.toNat htl c.T htn (rws zx c.U).length θi _ _ ⟨Qe,Qbr ?_⟩,Tv⟩;have hsu:Dl w.G (zo w.G w.B (yl w.U[i].kind) (qm w.U[i].kind)) (qm w.U[i].kind) c.T (rws zx c.U).length=qi w w.U[i].kind c.T c.U.length:=by rw[zl];rfl
 rw[hsu];have e8:U1.length=w.U.length:=hlL;refine xo (i:=ti2) (v:=int c.T) (b:=b) (o:=0+i*10+5) (l:=(rws zf U1).flatten++J) rfl rfl rfl ho (show 0+i*10+5+1<=_ by rw[Fae,qr yn];omega) ?_;have q1:=C8 (x':={U1[i]with goal:=c.T}) (ys:=[int c.T]) (j:=5) ho hiL (show 5+1<=10 by decide) rfl;have p1:=(zj (st:=S1) (x:=.cells (zv ((rws zf U1).flatten++J) (0+i*10+5) [int c.T])) (Ne.symm hbp)).trans hp1;generalize S1.sO b _=S2 at q1 p1⊢;refine xo (i:=ti2) (v:=int (-1)) (b:=b) (o:=0+i*10+6) (l:=(rws zf (U1.set i {U1[i]with goal:=c.T})).flatten++J) rfl rfl rfl q1 (show 0+i*10+6+1<=_ by rw[Fae,qr yn,Faf];omega) ?_;have q2:=C8 (x':={U1[i]with goal:=c.T,next:=-1}) (ys:=[int (-1)]) (j:=6) q1 Qba ψ Qbb;rw[Fbr]at q2;have p2:=(zj (st:=S2) (x:=.cells (zv ((rws zf (U1.set i {U1[i]with goal:=c.T})).flatten++J) (0+i*10+6) [int (-1)])) (Ne.symm hbp)).trans p1;generalize S2.sO b _=S3 at q2 p2⊢;refine xo (i:=ti2) (v:=int 0) (b:=b) (o:=0+i*10+7) (l:=(rws zf (U1.set i {U1[i]with goal:=c.T,next:=-1})).flatten++J) rfl rfl rfl q2 (show 0+i*10+7+1<=_ by rw[Fae,qr yn,Faf];omega) ?_;have q3:=C8 (x':={U1[i]with goal:=c.T,next:=-1,stuck:=0}) (ys:=[int 0]) (j:=7) q2 Qba ψ Qbb;rw[Fbr]at q3;have p3:=(zj (st:=S3) (x:=.cells (zv ((rws zf (U1.set i {U1[i]with goal:=c.T,next:=-1})).flatten++J) (0+i*10+7) [int 0])) (Ne.symm hbp)).trans p2;generalize S3.sO b _=S4 at q3 p3⊢;refine xo (i:=ti2) (v:=int 1) (b:=b) (o:=0+i*10+9) (l:=(rws zf (U1.set i {U1[i]with goal:=c.T,next:=-1,stuck:=0})).flatten++J) rfl rfl rfl q3 (show 0+i*10+9+1<=_ by rw[Fae,qr yn,Faf];omega) ?_;have q4:=C8 (x':=mvG c.T U1[i]) (ys:=[int 1]) (j:=9) q3 Qba ψ Qbb;rw[Fbr]at q4;have p4:=(zj (st:=S4) (x:=.cells (zv ((rws zf (U1.set i {U1[i]with goal:=c.T,next:=-1,stuck:=0})).flatten++J) (0+i*10+9) [int 1])) (Ne.symm hbp)).trans p3;generalize S4.sO b _=S5 at q4 p4⊢;have hlen:=By (qi w w.U[i].kind c.T c.U.length);have fin:∀g,g=wu w c k w.U[i].kind->U1.set i (mvG g U1[i])=mvL w c (k+1):=λg hg=>by rw[hstep,yfk hcore,hg]
 have hdec:c.U.length-(k+1)<c.U.length-k:=θ;refine bcd (λc5=>?_) λc5=>?_
 ·rw[zl,hlen]at c5;have hk2:k<(yz (qi w w.U[i].kind c.T c.U.length)).length:=by rw[hlen];omega
  have hk3:k<(qi w w.U[i].kind c.T c.U.length).length:=θ;have hg9:(yz (qi w w.U[i].kind c.T c.U.length))[k]=wu w c k w.U[i].kind:=by rw[ei hk3];exact Fbp ..
  refine⟨k,rfl,za _ (zn hk2) ?_⟩;rw[hg9];refine xo (i:=ti2) (v:=int (wu w c k w.U[i].kind)) (b:=b) (o:=0+i*10+5) (l:=(rws zf (U1.set i (mvG c.T U1[i]))).flatten++J) rfl rfl rfl q4 (show 0+i*10+5+1<=_ by rw[Fae,qr yn,Faf];omega) ?_;have q5:=C8 (x':=mvG (wu w c k w.U[i].kind) U1[i]) (ys:=[int (wu w c k w.U[i].kind)]) (j:=5) q4 Qba (show 5+1<=10 by decide) Qbb;rw[Fbr,fin _ rfl]at q5;have p5:=(zj (st:=S5) (x:=.cells (zv ((rws zf (U1.set i (mvG c.T U1[i]))).flatten++J) (0+i*10+5) [int (wu w c k w.U[i].kind)])) (Ne.symm hbp)).trans p4;generalize S5.sO b _=S6 at q5 p5⊢;exact Qd ⟨(k+1,S6),hdec,⟨ζ,rfl,p5,.inl (.inr ⟨b,cap,J,by rw[hlL2],q5,by rw[hlL2];omega,by rw[hlL2,<-e8];exact hc2,hc3⟩)⟩,Qbn,⟨rfl,Tv⟩⟩
 ·rw[zl,hlen]at c5;have hk3:¬k<(qi w w.U[i].kind c.T c.U.length).length:=θ;rw[fin _ (ek hk3).symm]at q4;exact Qd ⟨(k+1,S5),hdec,⟨ζ,rfl,p4,.inl (.inr ⟨b,cap,J,by rw[hlL2],q4,by rw[hlL2];omega,by rw[hlL2,<-e8];exact hc2,hc3⟩)⟩,Qbn,⟨rfl,Tv⟩⟩
def yc4(w:Wld)(hw:w.fits)(hn:∀u∈w.U,u.pos.ok)(hU:w.U.length<=1000000)(c:Cmd)(hc:c.fits)(hK:c.K=2):Jb 72 [.agg (zp w),.agg (yh c)] Store.empty (DoQ mvE mvW w c):=by
 refine Qa (c:=cfg 97 [6] []) zb Tryz.func72 ?_;have bad:(¬ya w\/¬js c\/w.players<c.P)->DoQ mvE mvW w c (.tup [.agg (zp w),int 1]) Store.empty:=λhb=>by have he:=Gq (E:=mvE) (w:=w) (c:=c) hb;exact .inl ⟨θa,by rw[he]⟩
 refine Ga w hw hn _ _ λz hz=>ye (zh (λc1=>?_) λc1=>?_);rotate_left
 ·exact ret (bad (.inl λhh=>θg))
 refine I3 c hc _ _ λzc hzc=>ye (zh (λc2=>?_) λc2=>?_);rotate_left
 ·exact ret (bad (.inr (.inl λhh=>θr)))
 refine bcd (λc3=>?_) λc3=>?_
 ·exact ret (bad (.inr (.inr θ)))
 have hm:=hz.1 c1;have hcp:=hzc.1 c2;have he:=Hp (E:=mvE) hm hcp (show c.P<=w.players by omega);refine I2 w hw hU _ _ λv N hv _=>?_;rw[Bc];have hv:=hv.q;have hoff:=λ(p:Nat) (hp:Fresh N p)=>Cp hv (k8 (fresh_iff.1 hp)).1;obtain⟨oa,cap,e,_⟩:=hv.form;subst e;refine λp hp=>jq (i:=ti27) (v:=.agg (zz w (.s (.slice oa w.U.length cap)))) (xs:=zz w (.s (.slice oa w.U.length cap))) (b:=p) (o:=0) (l:=_) rfl rfl rfl (zd _ _ _) (show 0+8<=8 by decide) ?_;generalize hS:(N.sO p _).sO p _=S;have hp2:S.obj p=some (.cells (zz w (.s (.slice oa w.U.length cap)))):=θs;have hr2:RowsQ 10 zf S (.s (.slice oa w.U.length cap)) w.U:=θt;refine zt (λh=>absurd (hK.symm.trans h) ψ) λ_=>zt (λ_=>ybm hp2 hr2 (hoff p hp) (xh hm) hn c ((Cmd.ok2 hK).1 hcp.1).1.1.2 _ (λS' hE=>?_) λhE S' v' g1 g2=>?_) λh=>absurd hK h
 ·exact qd (λ_=>ret (.inl ⟨θu,by rw[he];rfl⟩)) λh=>absurd h hE
 ·obtain⟨oa2,cap2,e2,_⟩:=g2.form;subst e2;refine Qbs ?_;exact ret (.inr ⟨he.trans hE,_,g2,rfl⟩)
def ycg:Kf 2 mvE mvW:=λw hw hn hU c hc hK R h=>Lf (yc4 w hw hn hU c hc hK) R h
def zea{w:Wld}(hm:ya w){c:Cmd}(hc:js c)(hk:c.K=4)(hn:¬1099511627776<=w.next):yi (bdB w c)/\∀x∈w.B,x.id<(bdB w c).id:=by have hok:=(Cmd.ok4 hk).1 hc.1;have mf:=xh hm;have:=mf.hn1;have hP:=hc.2.1;refine⟨⟨by unfold bdB;dsimp only;omega,hP,hok.2.1,hok.2.2⟩,λx hx=>?_⟩;have:=(hm.1.1.2.2 x hx).2;exact this
def zfn{F G:Store}{xw s p:Nat}{w:Wld}{v:AV}{L:List Ent}{o0 o1 o2:AV}{c:Cmd}{fv:AV}(hW:Work F G xw s p w v L o0 o1 o2 c fv)(hm:ya w)(hn:∀u∈w.U,u.pos.ok)(hc:js c)(hk:c.K=4)(R:Ja)
  (h:∀S',bdE w c≠0->R (int (bdE w c)) S') (h0:bdE w c=0->∀S',Df S' xw s c fv (bdW w c)->R (int 0) S'):Jb 162 [ptr xw] (F.un (svS G s w v o0 o1 o2 p)) R:=by
 have mf:=xh hm;have hg:=mf.hg;have hg1:=hg.1;have hg2:=hg.2.1;have hn2:=mf.hn2;have hn1:=mf.hn1;have hok:=(Cmd.ok4 hk).1 hc.1;have hT:=hok.1;unfold kx at hT;have hx:=hW.x (F':=F) (q0:=o0) (q1:=o1) (q2:=o2);have hs:=hW.s (F':=F) (q0:=o0) (q1:=o1) (q2:=o2);obtain⟨oa,cap,e,hget⟩:=hW.S.hu.form;subst e;have hq:c.T.tmod w.G.W=c.T%w.G.W:=Fcl hT.1;have hq2:c.T.tdiv w.G.W=c.T/w.G.W:=Faz hT.1;have hq3:0<=c.T/w.G.W/\c.T/w.G.W<=c.T:=⟨Fb2 hT.1 θ,Fc0 _ hT.1⟩
 have bad:∀n:Int,n≠0->bdE w c=n->∀S,R (int n) S:=λn hn e S=>by have:=h S (by rw[e];exact hn);rw[e]at this;exact this
 refine Qy 116 Tryz.func162 ?_;refine zoo hx (zoo hs ?_);refine Qc zb zyi (zoo hx ?_);refine⟨Sp w.G c.T hg _ _ λz hz=>⟨?_,?_⟩,Tv⟩
 ·repeat(first|exact Tv|refine⟨rfl,?_⟩|refine⟨zoo hx rfl,?_⟩)
 refine Qbr (ye (zh (λc1=>?_) λc1=>?_));rotate_left
 ·have hno:¬(0<=c.T/\c.T<w.G.W*w.G.H):=λhh=>by have:=hz.2 hh;rw[this]at c1;cases c1
  exact ret (bad 3 ψ (by unfold bdE;rw[if_pos hno]) _)
 have ht:=hz.1 c1;refine zoo hx (zoo hs (zt (λc2=>?_) λc2=>?_))
 ·exact ret (bad 4 ψ (by unfold bdE;rw[if_neg λhh=>hh ht,if_pos θ]) _)
 have hnx:¬1099511627776<=w.next:=θ;obtain⟨hbp,hid⟩:=zea hm hc hk hnx;refine Qc zb zyh (zoo hx (zoo hs (zoo hx (zoo hx ⟨θ,zoo hx ⟨θ,ze θl (zoo hx (zoo hx ⟨⟨?_,?_⟩,Tv⟩))⟩⟩))))
 ·repeat(first|exact Tv|refine⟨rfl,?_⟩|refine⟨zoo hx rfl,?_⟩|refine⟨zoo hs rfl,?_⟩|refine⟨⟨θ,rfl⟩,?_⟩|refine⟨⟨θ,ze θl rfl⟩,?_⟩)
 refine Qbr (Qc zb zyg (zoo hx (zoo hs ⟨ym4 w.G hg w.B mf.hB mf.hb (bdB w c) hbp hid _ _ (λhe=>⟨?_,?_⟩) λhe=>⟨?_,?_⟩,Tv⟩)))
 ·repeat(first|exact Tv|refine⟨rfl,?_⟩|refine⟨zoo hx rfl,?_⟩|refine⟨zoo hs rfl,?_⟩)
 ·refine Qbr (Qbr (qd (λ_=>?_) λhh=>absurd hh he));have e1:bdE w c=ql w.G w.B (bdB w c):=by unfold bdE;rw[if_neg λhh=>hh ht,if_neg hnx,if_neg he]
  have:=h (F.un (svS G s w (.s (.slice oa w.U.length cap)) o0 o1 o2 p)) (by rw[e1];exact he);rw[e1]at this;exact ret this
 ·repeat(first|exact Tv|refine⟨rfl,?_⟩|refine⟨zoo hx rfl,?_⟩|refine⟨zoo hs rfl,?_⟩)
 refine Qbr (Qbr ?_);have hon:onP w.G (bdB w c):=Classical.byContradiction λhh=>by unfold ql at he;rw[if_pos hh]at he;cases he
 have e1:bdE w c=(by classical exact if Gi w (bdB w c)then 5 else 0):=by unfold bdE;rw[if_neg λhh=>hh ht,if_neg hnx,if_pos he]
 refine zfh hW mf hn (t8 hm) (bdB w c) ⟨hbp,hon⟩ _ λz F2 hz hS2=>zh (λc3=>?_) λc3=>?_
 ·exact ret (bad 5 ψ (by rw[e1,if_pos (hz.1 c3)]) _)
 have hnm:¬Gi w (bdB w c):=λhh=>by have:=hz.2 hh;rw[this]at c3;cases c3
 have hz0:bdE w c=0:=by rw[e1,if_neg hnm]
 have hx2:=hW.x (F':=F2) (q0:=o0) (q1:=o1) (q2:=o2);have hs2:=hW.s (F':=F2) (q0:=o0) (q1:=o1) (q2:=o2);have hr2:=hW.r (F':=F2) (q0:=o0) (q1:=o1) (q2:=o2);have hos:=hW.os;have hxs:=hW.ne;generalize F2.un (svS G s w _ o0 o1 o2 p)=S at hx2 hs2 hr2⊢;refine Qbs (xo (i:=ti25) (v:=lst 6 zi (w.B++[bdB w c])) (b:=s) (o:=6) (l:=svC w (.s (.slice oa w.U.length cap)) o0 o1 o2 p) rfl rfl rfl hs2 (show 6+1<=12 by decide) ?_);have hs3:(S.sO s (.cells (zv (svC w (.s (.slice oa w.U.length cap)) o0 o1 o2 p) 6 [lst 6 zi (w.B++[bdB w c])]))).obj s=some (.cells (svC {w with B:=w.B++[bdB w c]} (.s (.slice oa w.U.length cap)) o0 o1 o2 p)):=zd _ _ _;have hx3:=(zj (st:=S) (x:=.cells (zv (svC w (.s (.slice oa w.U.length cap)) o0 o1 o2 p) 6 [lst 6 zi (w.B++[bdB w c])])) hxs).trans hx2;have hr3:=hr2.set hos (.cells (zv (svC w (.s (.slice oa w.U.length cap)) o0 o1 o2 p) 6 [lst 6 zi (w.B++[bdB w c])]));generalize S.sO s _=S2 at hs3 hx3 hr3⊢;refine Qbs ?_;refine Qbs ?_;exact ze ζ (xo (i:=ti2) (v:=int (w.next+1)) (b:=s) (o:=2) (l:=svC {w with B:=w.B++[bdB w c]} (.s (.slice oa w.U.length cap)) o0 o1 o2 p) rfl rfl rfl hs3 (show 2+1<=12 by decide) (ret (h0 hz0 _ ⟨_,o0,o1,o2,p,(zj hxs).trans hx3,zd _ _ _,hr3.set hos _⟩)))
def yl6(l:List Bld)(hl:l.length<=1000000)(R:Ja)(h:∀v N,RowsO 6 zi N v l->R v N):Jb 45 [lst 6 zi l] Store.empty R:=by
 refine Qy 19 Tryz.func45 ?_;refine AWp.loop (σ:=Nat×AV×Store) ⟨λs=>[(0,.av (lst 6 zi l)),(3,.av s.2.1),(4,.av (int s.1))],λ_=>[],λs st'=>s.1<=l.length/\st'=s.2.2/\RowsO 6 zi s.2.2 s.2.1 (l.take s.1),λs=>l.length-s.1⟩ zb ?_ ?_
 ·exact⟨(0,_,Store.empty),Tv,⟨Fad _,rfl,.inl ⟨rfl,rfl⟩⟩,⟨Tq,Tq,Tq,Tv⟩,Tv⟩
 ·rintro⟨i,v,N⟩ st' ⟨hi,rfl,ha⟩;dsimp only at hi ha⊢;refine zh (λh1=>?_) λh1=>?_
  ·have hlt:i<l.length:=qn h1;refine⟨i,rfl,za _ (zn hlt) ⟨ψ,Ni (ie:=ti163) rfl (λ_=>rfl) ψ ha l[i] rfl θe λb cap L q1 q2 q3 q4=>⟨⟨θ,θ⟩,⟨(i+1,_,_),?_,⟨hlt,rfl,?_⟩,⟨Tq,Tq,Tq,Tv⟩,Tv⟩⟩⟩⟩
   ·show l.length-(i+1)<l.length-i;omega
   ·dsimp only;rw[Fab hlt];exact .inr ⟨b,cap,L,rfl,zd _ _ _,q2,q3,q4⟩
  ·have hge:i=l.length:=qw h1 hi;subst hge;rw[Fak]at ha;exact ret (h _ _ ha)
def iq(l:List Bld)(hl:l.length<=1000000)(st:Store)(R:Ja)(h:∀v N,RowsO 6 zi N v l->zk N st->R v (N.un st)):Jb 45 [lst 6 zi l] st R:=by rw[<-xr st];exact ACalls.frame (Dd st) (yl6 l hl (λv N=>RowsO 6 zi N v l) λv N hv=>hv) λv N hv hd=>h v N hv hd
def zao{f:FuncId}{xs:List AV}{q:Prop}{a b:Value}{l2:List Bld}(h0:Jb f xs Store.empty λr S=>(¬q/\r=.tup [.s (.slice none 0 0),.s a])\/(q/\∃v,RowsQ 6 zi S v l2/\r=.tup [v,.s b]))(st:Store)(R:Ja)
  (h:¬q->R (.tup [.s (.slice none 0 0),.s a]) st) (hq:q->R (.tup [lst 6 zi l2,.s b]) st):Jb f xs st R:=by
 have h1:=h0.frozen (R:=λr=>(¬q/\r=.tup [.s (.slice none 0 0),.s a])\/(q/\r=.tup [lst 6 zi l2,.s b])) (by
  rintro r S (⟨h1,rfl⟩|⟨h1,v,hv,rfl⟩)
  ·exact⟨_,.inl ⟨h1,rfl⟩,λOth M w' v' sto hx=>qv hx⟩
  ·refine⟨_,.inr ⟨h1,rfl⟩,λOth M w' v' sto hx=>?_⟩;cases hx with
   |tup _ c2 hl hc2=>
    refine .tup _ c2 hl λi x y hx hy=>?_
    match i with
    |0=>simp only[Fan,Faj]at hx;subst hx;exact ff hv sto (hc2 0 _ y rfl hy)
    |1=>simp only[Faq,Fan,Faj]at hx;subst hx;exact qv (hc2 1 _ y rfl hy)
    |i+2=>simp at hx)
 have h2:Jb f xs Store.empty λr S=>((¬q/\r=.tup [.s (.slice none 0 0),.s a])\/(q/\r=.tup [lst 6 zi l2,.s b]))/\S=Store.empty:=
  h1.post (Store.Le.refl _) λr st' hr=>⟨r,Store.empty,AV.le_refl r,(Ca st').toLe,hr,rfl⟩
 rw[<-xr st];exact ACalls.frame (Dd st) h2 λr S ⟨e,e2⟩ hd=>by
  subst e2;rw[xr];rcases e with⟨q,rfl⟩|⟨q,rfl⟩
  ·exact h q
  ·exact hq q
def ydb(g:Gnd)(hg:zw g)(l:List Bld)(hl:l.length<=256)(hlb:∀b∈l,yi b/\onP g b)(b:Bld)(hb:yi b)(hid:∀x∈l,x.id<b.id):
  Jb 176 [.agg (zq g),lst 6 zi l,.agg (zi b)] Store.empty λr S=>(¬ql g l b=0/\r=.tup [.s (.slice none 0 0),.s (.int .i64 (ql g l b))])\/(ql g l b=0/\∃v,RowsQ 6 zi S v (l++[b])/\r=.tup [v,.s (.int .i64 0)]):=by
 have bad:∀n:Int,n≠0->ql g l b=n->∀st,∃r st',AV.le (.tup [.s (.slice none 0 0),int n]) r/\Store.Has st st'/\((¬ql g l b=0/\r=.tup [.s (.slice none 0 0),.s (.int .i64 (ql g l b))])\/(ql g l b=0/\∃v,RowsQ 6 zi st' v (l++[b])/\r=.tup [v,.s (.int .i64 0)])):=λn hn e st=>
  ret (.inl ⟨by rw[e];exact hn,by rw[e];rfl⟩)
 refine Qy 75 Tryz.func176 ?_;refine pj b _ _ λz hz=>?_;refine ye (zh (λc1=>r9 g b hg hb _ _ λz hz=>ye ?_) (λc1=>by have:=hz.2 hb;rw[this]at c1;cases c1));refine zh (λc2=>?_) λc2=>?_;rotate_left
 ·have hno:¬onP g b:=λhh=>by have:=hz.2 hh;rw[this]at c2;cases c2
  exact bad 3 ψ (by unfold ql;rw[if_pos hno]) _
 have hon:=hz.1 c2
 refine AWp.loop (σ:=Nat) ⟨λi=>[(1,.av (lst 6 zi l)),(3,.bx 3 0),(5,.bx 5 0),(8,.av (int (i:Nat)))],λ_=>[(3,zq g),(5,zi b)],
  λi st'=>i<=l.length/\st'=Store.empty/\∀j,(hj:j<l.length)->j<i->¬j9 l[j] b,λi=>l.length-i⟩ zb ?_ ?_
 ·exact⟨0,Tv,⟨Fad _,rfl,λj _ hj=>θ⟩,Qbn,⟨rfl,rfl,Tv⟩⟩
 rintro i st' ⟨hi,rfl,hno⟩;refine zh (λh1=>?_) λh1=>?_
 ·have hlt:=qn h1;have hbi:=hlb l[i] (Faa hlt);have hidi:=hid l[i] (Faa hlt);refine Qc zb zx4 ⟨i,rfl,za _ (zn hlt) (zt (λc3=>absurd c3 θ) λc3=>⟨i,rfl,za _ (zn hlt) ⟨zab g hg l[i] b hbi ⟨hb,hon⟩ _ _ λz hz=>⟨Tv,zh (λc4=>?_) λc4=>?_⟩,Tv⟩⟩)⟩
  ·have hex:∃x∈l,j9 x b:=⟨l[i],Faa hlt,hz.1 c4⟩
   exact bad 12 ψ (by unfold ql;rw[if_neg λh=>h hon,if_pos hex]) _
  refine Qd ⟨i+1,?_,⟨θ,rfl,λj hj hji=>?_⟩,Qbn,⟨rfl,rfl,Tv⟩⟩
  ·show l.length-(i+1)<l.length-i;omega
  ·by_cases e:j=i
   ·subst e;exact λhh=>by have:=hz.2 hh;rw[this]at c4;cases c4
   ·exact hno j hj θ
 have hil:i=l.length:=qw h1 hi;subst hil;have hnex:¬∃x∈l,j9 x b:=λ⟨x,hx,h2⟩=>by obtain⟨j,hj,rfl⟩:=Fai hx;exact hno j hj hj h2
 refine sb g hg b ⟨hb,hon⟩ _ _ λz hz=>ye (zh (λc4=>?_) λc4=>?_);rotate_left
 ·have hno:¬C9 g b:=λhh=>by have:=hz.2 hh;rw[this]at c4;cases c4
  exact bad 5 ψ (by unfold ql;rw[if_neg λh=>h hon,if_neg hnex,if_pos hno]) _
 have hfi:=hz.1 c4;have hlen:((rws zi l).length:Int)=(l.length:Int):=by rw[zl]
 refine bcd (λc5=>?_) λc5=>?_
 ·exact bad 4 ψ ψ5 _
 have h0:ql g l b=0:=ψ6
 refine AWp.loop (σ:=Nat) ⟨λi=>[(1,.av (lst 6 zi l)),(5,.bx 5 0),(9,.av (int (i:Nat)))],λ_=>[(5,zi b)],
  λi st'=>i<=l.length/\st'=Store.empty,λi=>l.length-i⟩ zb ?_ ?_
 ·exact⟨0,Tv,⟨Fad _,rfl⟩,Qbn,⟨rfl,Tv⟩⟩
 rintro i st' ⟨hi,rfl⟩;refine Qc zb zx6 (zh (λh1=>?_) λh1=>?_)
 ·have hlt:=qn h1;have hidi:=hid l[i] (Faa hlt);refine⟨i,rfl,za _ (zn hlt) (bcd (λc6=>Qd ⟨i+1,?_,⟨θ,rfl⟩,Qbn,⟨rfl,Tv⟩⟩) λc6=>absurd hidi c6)⟩;show l.length-(i+1)<l.length-i;omega
 have hil:i=l.length:=qw h1 hi;subst hil;refine Qc zb zx5 ⟨0,l.length,rfl,rfl,Fad _,by rw[zl];exact Fal _,⟨ψ,⟨ACalls.le (ys:=[lst 6 zi l]) ⟨by rw[Fcb,<-zl (f:=zi) l,Fak];exact Tt,Tv⟩ (iq l θ _ _ λv N hv hd=>⟨Qe,?_⟩),Tv⟩⟩⟩;have hvQ:RowsQ 6 zi (N.un Store.empty) v l:=hv.q.unL hd;refine⟨ww (ie:=ti163) rfl jb ψ hvQ b rfl θ λb2 cap2 L2 q1 q2 q3 q4=>⟨Tv,?_⟩,Tv⟩;have hv2:RowsQ 6 zi ((N.un Store.empty).sO b2 (.cells ((rws zi (l++[b])).flatten++L2))) (.s (.slice (some ⟨b2,0,none⟩) (l++[b]).length cap2)) (l++[b]):=.inl (.inr ⟨b2,cap2,L2,rfl,zd _ _ _,q2,q3,q4⟩);refine Qbr ⟨l.length,l.length,rfl,by rw[zl];rfl,Fal _,by rw[zl];exact Fal _,ynu (ie:=ti163) rfl jb ψ hv2 φ ?_ (by rw[Fae,Fao];omega) λv' st' hv'=>?_⟩
 ·rw[Fcm (by rw[Fam,zl];omega)];rfl
 exact ret (.inr ⟨h0,_,hv',rfl⟩)
def ycv(g:Gnd)(hg:zw g)(l:List Bld)(hl:l.length<=256)(hlb:∀b∈l,yi b/\onP g b)(b:Bld)(hb:yi b)(hid:∀x∈l,x.id<b.id)(st:Store)(R:Ja)
  (h:¬ql g l b=0->R (.tup [.s (.slice none 0 0),int (ql g l b)]) st) (h0:ql g l b=0->R (.tup [lst 6 zi (l++[b]),int 0]) st):Jb 176 [.agg (zq g),lst 6 zi l,.agg (zi b)] st R:=
 zao (ydb g hg l hl hlb b hb hid) st R h h0
end Go.Proofs
