/- Lemmas of thronglaw29; no conditions. -/
import Derived.Test.YtphhbmaalpdnoaaGreatKW
set_option linter.unusedSimpArgs false
set_option linter.unusedVariables false
set_option linter.defProp false
open List renaming length→Γ
open Option renaming some→Δ,none→Θ
namespace Go.Proofs
open Go Go.V Tryz
set_option maxRecDepth 20000
set_option maxHeartbeats 4000000
section
variable {S:Store} {w:Wld} {v:AV}
def Qao{p:Prop}(h:p:=by rw[Faf];exact hi2):p:=h
def Qap{p:Prop}(h:p:=by rw[Fbi];rfl):p:=h
def Qaq{p:Prop}(h:p:=by rw[Faf];exact e8):p:=h
def im(w:Wld)(b:Γ w.U<=1000000)(id:Int)(a:Store)(R:Ja)(h:R (int (Dp (qc w.U id))) a):Jb 33 [.agg (zo w),int id] a R:=Pw w b id a R h
def He(hv:RowsQ 10 zf S v w.U)(a:Γ w.U<=1000000)(id:Int)(R:Ja)(h:R (int (Dp (qc w.U id))) S):Jb 33 [.agg (zy w v),int id] S R:=
 ACalls.read (λb M W c sto hr=>θ9) (im w a id _ _ rfl) (λr hr=>hr▸Ht _) (λr hr=>hr▸h)
def iw(w:Wld)(f:Γ w.U<=1000000)(P id:Int)(st:Store)(R:Ja)(h:R (int (xu w P id)) st):Jb 323 [.agg (zo w),int P,int id] st R:=by
 refine Qy 28 func323 ?_;refine im w f id _ _ ?_;refine bcd (λa=>?_) (λa=>?_)
 .cases hf:qc w.U id with
  |none=>
   rw[(dr hf).1]at h;exact ret h
  |some i=>rw[hf]at a;exact absurd a (by show¬((i:Int)<0);omega)
 cases hf:qc w.U id with
 |none=>rw[hf]at a;exact absurd (show(-1)<0 by decide) a
 |some i=>
  obtain⟨b,e,g⟩:=O9 hf;rw[ra hf b]at h;refine⟨i,rfl,J _ (zm b) ?_⟩;refine qd (λd=>?_) (λd=>?_)
  .rw[if_neg d]at h;exact ret h
  rw[if_pos d]at h;refine⟨i,rfl,J _ (zm b) ?_⟩;refine qd (λc=>?_) (λc=>?_)
  .rw[if_neg c]at h;exact ret h
  .rw[if_pos c]at h;exact ret h
def yjp(w:Wld)(o:Γ w.U<=1000000)(c:Cmd)(p:Γ c.U<=1000000)(st:Store)(R:Ja)(h:R (int (jy (xu w c.P) c.U)) st):Jb 231 [.agg (zo w),.agg (yg c)] st R:=by
 refine Qy 26 func231 ?_
 refine AWp.loop (σ:=Nat) ⟨λi=>[(2,.bx 2 0),(3,.bx 3 0),(5,.av (int (i)))],λ_=>[(2,zo w),(3,yg c)],
  λi d=>i<=Γ c.U/\d=st/\∀j,(b:j<Γ c.U)->j<i->xu w c.P c.U[j]=0,λi=>Γ c.U-i⟩ zb ?_ ?_
 .exact⟨0,O,⟨Fae _,rfl,λj _ b=>Z⟩,Qbt,⟨rfl,rfl,O⟩⟩
 rintro i d ⟨n,rfl,a⟩;refine zg (λg=>?_) (λg=>?_);rotate_left
 .have:i=Γ c.U:=qr g n;subst this;rw[Sn λj b=>a j b b]at h;exact ret h
 have f:=ql g;refine Qc zb yej ?_;refine⟨i,rfl,J _ (zm f) ?_⟩;refine⟨iw w o c.P c.U[i] _ _ ⟨O,?_⟩,O⟩;refine Qbx ?_;refine qd (λk=>?_) (λk=>?_)
 .rw[Dt f a k]at h;exact ret h
 refine Qd ?_;refine⟨i+1,?_,⟨Z,rfl,λj b l=>?_⟩,Qbt,⟨rfl,rfl,O⟩⟩
 .show Γ c.U-(i+1)<Γ c.U-i;omega
 .by_cases e:j=i
  .subst e;exact k
  .exact a j b Z
def zb3(hv:RowsQ 10 zf S v w.U)(b:Γ w.U<=1000000)(c:Cmd)(a:Γ c.U<=1000000)(R:Ja)(h:R (int (jy (xu w c.P) c.U)) S):Jb 231 [.agg (zy w v),.agg (yg c)] S R:=
 ACalls.read (λd M W e sto hr=>θ9) (yjp w b c a _ _ rfl) (λr hr=>hr▸Ht _) (λr hr=>hr▸h)
def bu{b i j:Nat}{U:List Unt}{a:List AV}{x':Unt}{y:AV}(f:S.obj b=Δ (.cells ((rws zf U).flatten++a)))(e:i<Γ U)(d:j+1<=10)(c:zf x'=zu (zf U[i]) j [y]):(S.sO b (.cells (zu ((rws zf U).flatten++a) (0+i*10+j) [y]))).obj b=Δ (.cells ((rws zf (U.set i x')).flatten++a)):=by rw[zd,Fbd,Lm yx e d c]
def zin:List AV:=[int 0,int 0,int 0,int 0,int 0,.s (.slice Θ 0 0),.s (.slice Θ 0 0),.s (.slice Θ 0 0)]
theorem zfq{l:List Int}{g:Unt->Unt}(a:∀u,(g u).id=u.id)(U:List Unt)(id:Int):qc (y9 l g U) id=qc U id:=by
 unfold qc y9;rw[Fek]
 congr 1
 funext u
 simp only[Function.comp];split
 .rw[a]
 .rfl
def yjj(w:Wld)(hw:w.fits)(hn:∀u∈w.U,u.pos.ok)(hU:Γ w.U<=1000000)(c:Cmd)(hc:c.fits)(W:c.K=3):Jb 150 [.agg (zo w),.agg (yg c)] Store.empty (DoQ stE stW w c):=by
 refine Qa (c:=cfg 97 [6] []) zb func150 ?_;have bad:(¬yd w\/¬jh c\/w.players<c.P)->DoQ stE stW w c (.tup [.agg (zo w),int 1]) Store.empty:=λhb=>by have he:=Hw (E:=stE) (w:=w) (c:=c) hb;exact .inl ⟨γ,by rw[he]⟩
 refine Kd w hw hn _ _ (λz hz=>?_);refine ya ?_;refine zg (λc1=>?_) (λc1=>?_);rotate_left
 .exact ret (bad (.inl λhh=>θo))
 refine Iv c hc _ _ (λzc hzc=>?_);refine ya ?_;refine zg (λc2=>?_) (λc2=>?_);rotate_left
 .exact ret (bad (.inr (.inl λhh=>θu)))
 refine bcd (λc3=>?_) (λc3=>?_)
 .exact ret (bad (.inr (.inr Z)))
 have hm:=hz.1 c1;have H:=hzc.1 c2;have mf:=xr hm;have he:=Ir (E:=stE) hm H (show c.P<=w.players by omega);have ν:=(Cmd.ok3 W).1 H.1;have hcU:=ν.1.2;refine Kv w hw hU _ _ (λv N hv _=>?_);rw[Dx];have hv:=hv.q;have hoff:=λ(p:Nat) (hp:Fresh N p)=>Dj hv (jt (fresh_iff.1 hp)).1;obtain⟨D,d,e,_⟩:=hv.form;subst e;refine λp hp=>?_;refine kh (i:=ti27) (v:=.agg (zy w (.s (.slice D (Γ w.U) d)))) (xs:=zy w (.s (.slice D (Γ w.U) d))) (b:=p) (o:=0) (l:=_) rfl rfl rfl (zd _ _ _) (show 0+8<=8 by decide) ?_;generalize hS:(N.sO p _).sO p _=S;have ι:S.obj p=Δ (.cells (zy w (.s (.slice D (Γ w.U) d)))):=θv;have G:RowsQ 10 zf S (.s (.slice D (Γ w.U) d)) w.U:=θw;have hofp:=hoff p hp;clear hS;refine zp (λh=>absurd (W.symm.trans h) ψ) (λ_=>?_);refine zp (λh=>absurd (W.symm.trans h) ψ) (λ_=>?_);refine zp (λ_=>?_) (λh=>absurd W h);refine Qby ?_;refine zb3 G hU c Z _ ?_;have η:jy (xu w c.P) c.U=stE w c:=rfl;rw[η]
 refine AWp.loop (σ:=Nat×Store) ⟨λx=>[(2,.bx 2 0),(3,.bx 3 0),(4,.bx 4 0),(6,.av (ptr p)),(7,.av (int (stE w c))),(8,.av (int (x.1:Nat)))],λ_=>[(2,zo w),(3,yg c),(4,zin)],
  λx ε=>x.1<=Γ c.U/\(stE w c≠0->x.1=0)/\ε=x.2/\x.2.obj p=Δ (.cells (zy w (.s (.slice D (Γ w.U) d))))/\RowsQ 10 zf x.2 (.s (.slice D (Γ w.U) d)) (y9 (c.U.take x.1) kj w.U),λx=>Γ c.U-x.1⟩ zb ?_ ?_
 .refine⟨(0,S),O,⟨Fae _,λ_=>rfl,rfl,ι,?_⟩,Qbt,⟨rfl,rfl,rfl,O⟩⟩;dsimp only;rw[Fcp,Nd];exact G
 rintro⟨k,S0⟩ S1 ⟨hk,B,rfl,hp1,t⟩;dsimp only at hk B hp1 t⊢;have fin:k=Γ c.U->stE w c=0->DoQ stE stW w c (.tup [.agg (zy (stW w c) (.s (.slice D (Γ w.U) d))),int 0]) S1:=λe n=>by subst e;rw[Fal]at t;exact .inr ⟨he.trans n,_,t,rfl⟩
 by_cases n:stE w c=0;rotate_left
 .have B:=B n;subst B;have out:DoQ stE stW w c (.tup [.agg (zo w),int (stE w c)]) S1:=.inl ⟨by rw[he];exact n,by rw[he]⟩;refine zg (λQ=>?_) (λQ=>?_)
  .refine zp (λh2=>absurd h2 n) (λ_=>?_);refine qd (λ_=>?_) (λh=>absurd h n);exact ret out
  .refine qd (λ_=>?_) (λh=>absurd h n);exact ret out
 rw[n];refine zg (λQ=>?_) (λQ=>?_);rotate_left
 .have τ:k=Γ c.U:=qr Q hk;refine Qby ?_;exact ret (fin τ n)
 have hlt:=ql Q;obtain⟨i,V,hf,ο,hu,ς,hin⟩:=C8 (H0 n c.U[k] (Faa hlt));have hi2:i<(y9 (c.U.take k) kj w.U).length:=by rw[wy];exact V
 have π:qc (y9 (c.U.take k) kj w.U) c.U[k]=Δ i:=by rw[zfq (g:=kj) (λ_=>rfl)];exact hf
 rcases t with(⟨_,A⟩|⟨b,cap',a,e,ho,M,L,I⟩)|⟨_,_,_,A⟩
 .rw[A]at hi2;exact absurd hi2 (Fav i)
 rotate_left
 .rw[A]at hi2;exact absurd hi2 (Fav i)
 simp only[AV.s.injEq,Value.slice.injEq]at e;obtain⟨rfl,e7,rfl⟩:=e;have hcap:0<d:=Z;have C:b≠p:=hofp b _ _ rfl hcap;refine Qc zb yf1 ?_;refine Qby ?_;refine Qby ?_;refine⟨k,rfl,J _ (zm hlt) ?_⟩;refine⟨He (w:={w with U:=y9 (c.U.take k) kj w.U}) (.inl (.inr ⟨b,d,a,by rw[e7],ho,M,L,I⟩)) (by rw[wy];exact hU) c.U[k] _ ⟨ψp,?_⟩,O⟩;dsimp only;rw[π];refine⟨i,rfl,V,?_⟩;refine Qbx ?_;have hlen:∀U2:List Unt,Γ U2=Γ w.U->i*10+10<=((rws zf U2).flatten++a).length:=λU2 h=>by rw[Fad,qu yx];omega
 have e8:(y9 (c.U.take k) kj w.U).length=Γ w.U:=wy _ _ _;have A:=hlen _ e8;have hidk:(y9 (c.U.take k) kj w.U).set i (kj (y9 (c.U.take k) kj w.U)[i])=y9 (c.U.take (k+1)) kj w.U:=by
  have e5:c.U.take k++[w.U[i].id]=c.U.take (k+1):=by rw[Fab hlt,ο]
  have e6:kj ((y9 (c.U.take k) kj w.U)[i])=kj w.U[i]:=by rw[Nf V];split<;>rfl
  rw[e6,Vs mf.hr V,e5]
 generalize hgU:y9 (c.U.take k) kj w.U=f at*;refine xh (i:=ti2) (v:=int (-1)) (b:=b) (o:=0+i*10+5) (l:=(rws zf f).flatten++a) rfl rfl rfl ho (show 0+i*10+5+1<=_ by omega) ?_;have q1:=bu (x':={f[i]with goal:=-1}) (y:=int (-1)) (j:=5) ho hi2 ψ rfl;have p1:=(zi (st:=S1) (x:=.cells (zu ((rws zf f).flatten++a) (0+i*10+5) [int (-1)])) (Ne.symm C)).trans hp1;generalize S1.sO b _=S2 at q1 p1⊢;have hl1:=hlen (f.set i {f[i]with goal:=-1}) Qaq;refine xh (i:=ti2) (v:=int (-1)) (b:=b) (o:=0+i*10+6) (l:=_) rfl rfl rfl q1 (show 0+i*10+6+1<=_ by omega) ?_;have T:=bu (x':={f[i]with goal:=-1,next:=-1}) (y:=int (-1)) (j:=6) q1 Qao ψ Qap;rw[Fbr]at T;have p2:=(zi (st:=S2) (x:=.cells (zu ((rws zf (f.set i {f[i]with goal:=-1})).flatten++a) (0+i*10+6) [int (-1)])) (Ne.symm C)).trans p1;generalize S2.sO b _=S3 at T p2⊢;have hl2:=hlen (f.set i {f[i]with goal:=-1,next:=-1}) Qaq;refine xh (i:=ti2) (v:=int 0) (b:=b) (o:=0+i*10+7) (l:=_) rfl rfl rfl T (show 0+i*10+7+1<=_ by omega) ?_;have R:=bu (x':={f[i]with goal:=-1,next:=-1,stuck:=0}) (y:=int 0) (j:=7) T Qao ψ Qap;rw[Fbr]at R;have p3:=(zi (st:=S3) (x:=.cells (zu ((rws zf (f.set i {f[i]with goal:=-1,next:=-1})).flatten++a) (0+i*10+7) [int 0])) (Ne.symm C)).trans p2;generalize S3.sO b _=S4 at R p3⊢;have υ:=hlen (f.set i {f[i]with goal:=-1,next:=-1,stuck:=0}) Qaq;refine xh (i:=ti2) (v:=int 0) (b:=b) (o:=0+i*10+9) (l:=_) rfl rfl rfl R Z ?_;have q4:=bu (x':=kj f[i]) (y:=int 0) (j:=9) R Qao ψ Qap;rw[Fbr,hidk]at q4;have p4:=(zi (st:=S4) (x:=.cells (zu ((rws zf (f.set i {f[i]with goal:=-1,next:=-1,stuck:=0})).flatten++a) (0+i*10+9) [int 0])) (Ne.symm C)).trans p3;generalize S4.sO b _=S5 at q4 p4⊢;refine Qd ?_;have e9:(y9 (c.U.take (k+1)) kj w.U).length=Γ w.U:=wy _ _ _;refine⟨(k+1,S5),?_,⟨ζ,λh=>absurd rfl h,rfl,p4,.inl (.inr ⟨b,d,a,by rw[e9],q4,by rw[e9,<-e8];exact M,by rw[e9,<-e8];exact L,I⟩)⟩,⟨Y,Y,Y,Y,?_,Y,O⟩,⟨rfl,rfl,rfl,O⟩⟩
 .show Γ c.U-(k+1)<Γ c.U-k;omega
 .exact Y
def yiq:K8 3 stE stW:=λw a b e c d f R h=>Mj (yjj w a b e c d f) R h
end
end Go.Proofs
namespace Go.Proofs
open Go Go.V
set_option maxRecDepth 20000
set_option maxHeartbeats 4000000
end Go.Proofs
namespace Go.Proofs
open Go Go.V Tryz
set_option maxRecDepth 20000
set_option maxHeartbeats 4000000
section
variable {i j:Nat} {S:Store} {w:Wld} {v:AV}
def Qar{p:Prop}(h:p:=by repeat(first|exact O|refine⟨rfl,?_⟩|refine⟨J (o:=S.obj p) _ hp rfl,?_⟩|refine⟨⟨i,rfl,J _ (zm hlt) rfl⟩,?_⟩|refine⟨⟨iu,rfl,hiu,rfl⟩,?_⟩|refine⟨J (o:=S.obj b) _ hob (yv (i:=ti72) (row:=zf w.U[iu]) rfl rfl (xx yx hiu) rfl),?_⟩|refine⟨ze (by rw[zj];omega) rfl,?_⟩)):p:=h
def Qas{p:Prop}(h:p:=by repeat(first|exact O|refine⟨rfl,?_⟩|refine⟨J (o:=S.obj p) _ hp rfl,?_⟩|refine⟨⟨ix,rfl,hix,rfl⟩,?_⟩|refine⟨J (o:=S.obj b) _ hob (yv (i:=ti72) (row:=zf w.U[ix]) rfl rfl (xx yx hix) rfl),?_⟩)):p:=h
def Qat{p:Prop}(h:p:=by rw[Dt hlt hall (by rw[hA];decide),hA];decide):p:=h
def Qau{p:Prop}(h:p:=by rw[Faf];exact hi2):p:=h
def Qav{p:Prop}(h:p:=by rw[Fbi];rfl):p:=h
theorem Qaw{p:Prop}(h:p:=by rw[hA];decide):p:=h
def bh{U:List Unt}{J:List AV}(hi:i<Γ U)(hj:j<10){y:AV}(hy:(zf U[i])[j]?=Δ y):(((rws zf U).flatten++J).drop (0+i*10+j)).head?=Δ y:=φa
def zbd(B:RowsQ 10 zf S v w.U)(G:Γ w.U<=1000000)(id:Int)(R:Ja)(h:R (yq (z6 w.U id)) S):Jb 45 [.agg (zy w v),int id] S R:=by
 obtain⟨A,p,e,g⟩:=B.form;subst e;refine Qy 32 func45 ?_
 refine AWp.loop (σ:=Nat×AV) ⟨λx=>[(1,.av (int id)),(2,.bx 2 0),(5,.av x.2),(6,.av (int (x.1:Nat)))],λ_=>[(2,zy w (.s (.slice A (Γ w.U) p)))],
  λx st'=>x.1<=Γ w.U/\App 1 S x.2 (rws zx (z6 (w.U.take x.1) id)) st',λx=>Γ w.U-x.1⟩ zb ?_ ?_
 .exact⟨(0,_),O,⟨Fae _,App.start 1 S⟩,⟨Y,Y,Y,Y,O⟩,⟨rfl,O⟩⟩
 rintro⟨i,v2⟩ st' ⟨D,d⟩;dsimp only at D d⊢;refine bcd (λu=>?_) (λu=>?_);rotate_left
 .have:i=Γ w.U:=Z;subst this;rw[Fal]at d;exact⟨_,_,d.le,d.has,h⟩
 have c:i<Γ w.U:=Z;have n:=nh c id;have C:(z6 (w.U.take i) id).length<=1000000:=by have u:=Rv (l:=w.U) i id;have H:(z6 w.U id).length<=Γ w.U:=θl;omega
 obtain⟨b,a,E,f⟩:=g i c;have f:st'.obj b=Δ (.cells ((rws zf w.U).flatten++a)):=by rw[d.obj];exact f
 subst E;refine⟨i,rfl,c,?_⟩;refine Qby ?_;refine J (o:=List.head? _) (int w.U[i].inn) (bh (j:=8) c ψ rfl) ?_;refine zp (λt=>?_) (λt=>?_)
 .rw[if_pos t]at n;refine⟨i,rfl,c,?_⟩;refine Qby ?_;refine J (o:=List.head? _) (int w.U[i].id) (bh (j:=0) c ψ rfl) ?_;refine⟨ψ,?_⟩;refine Af (ie:=ti2) (rows':=[zx w.U[i].id]) d ?_ ?_ ⟨?_,?_⟩ (λy z k=>?_)
  .rfl
  .rfl
  .simp only[zj,Fao,ti2];omega
  .simp only[zj,Fao];omega
  refine Qd ?_;refine⟨(i+1,y),?_,⟨ζ,?_⟩,Qbt,⟨rfl,O⟩⟩
  .show Γ w.U-(i+1)<Γ w.U-i;omega
  .dsimp only;rw[n];unfold rws at k⊢;rw[Fa8];exact k
 .rw[if_neg t,Fbq]at n;refine Qd ?_;refine⟨(i+1,v2),?_,⟨ζ,?_⟩,Qbt,⟨rfl,O⟩⟩
  .show Γ w.U-(i+1)<Γ w.U-i;omega
  .dsimp only;rw[n];exact d
def yjd(g:RowsQ 10 zf S v w.U)(l:Γ w.U<=1000000)(P id:Int)(R:Ja)(h:R (int (xu w P id)) S):Jb 323 [.agg (zy w v),int P,int id] S R:=
 ACalls.read (ys:=[.agg (zo w),int P,int id]) (Q:=λr=>r=int (xu w P id)) (λn M W f sto d=>by
  obtain⟨k,e⟩:=d
  match f,k with
  |[a,b,c],_=>exact Reads.cons (Fe g sto (e 0 _ a rfl rfl)) (Reads.cons (qq (e 1 _ b rfl rfl)) (Reads.cons (qq (e 2 _ c rfl rfl)) Reads.nil))) (iw w l P id _ _ rfl) (λr d=>d▸Ht _) (λr d=>d▸h)
def yi4(w:Wld)(e:Γ w.U<=1000000)(g:∀u∈w.U,vd u.kind)(c:Cmd)(st:Store)(R:Ja)(h:R (int (wd w c.P c.N)) st):Jb 326 [.agg (zo w),.agg (yg c)] st R:=by
 unfold wd at h;refine Qy 29 func326 ?_;refine iw w e c.P c.N _ _ ?_;refine Qc zb yb7 ?_;refine zp (λa=>?_) (λa=>?_);rotate_left
 .rw[if_neg a]at h;refine Qbw ?_;refine Qbw ?_;exact ret h
 rw[if_pos a]at h;obtain⟨i,d,hf,k,f,_,_⟩:=C8 a;rw[f]at h;refine⟨im w e c.N _ _ ⟨Qe,?_⟩,O⟩;rw[hf];refine⟨i,rfl,J _ (zm d) ?_⟩;refine⟨Df w.U[i].kind (g _ (Faa d)) _ _ ⟨Qe,?_⟩,O⟩;refine zp (λb=>?_) (λb=>?_)
 .rw[if_pos b]at h;exact ret h
 .rw[if_neg b]at h;rw[<-a]at h;exact ret h
def zb0(hv:RowsQ 10 zf S v w.U)(b:Γ w.U<=1000000)(a:∀u∈w.U,vd u.kind)(c:Cmd)(R:Ja)(h:R (int (wd w c.P c.N)) S):Jb 326 [.agg (zy w v),.agg (yg c)] S R:=
 ACalls.read (ys:=[.agg (zo w),.agg (yg c)]) (Q:=λr=>r=int (wd w c.P c.N)) (λd M W f sto hr=>θ9) (yi4 w b a c _ _ rfl) (λr hr=>hr▸Ht _) (λr hr=>hr▸h)
def D8{b:Nat}{U:List Unt}{a:List AV}{x':Unt}{ys:List AV}(g:S.obj b=Δ (.cells ((rws zf U).flatten++a)))(e:i<Γ U)(d:j+Γ ys<=10)(c:zf x'=zu (zf U[i]) j ys):(S.sO b (.cells (zu ((rws zf U).flatten++a) (0+i*10+j) ys))).obj b=Δ (.cells ((rws zf (U.set i x')).flatten++a)):=by rw[zd,Fbd,Lm (f:=zf) (k:=10) (x':=x') yx e d c]
def yhs{p:Nat}(hp:S.obj p=Δ (.cells (zy w v)))(hv:RowsQ 10 zf S v w.U)(η:jf v p)(ς:yd w)(hn:∀u∈w.U,u.pos.ok)(c:Cmd)(hcU:Γ c.U<=64)(hN:1<=c.N)(R:Ja)
  (h:∀S',ldE w c≠0->R (int (ldE w c)) S') (h0:ldE w c=0->∀S' v',S'.obj p=Δ (.cells (zy (ldW w c) v'))->RowsQ 10 zf S' v' (ldW w c).U->R (int 0) S'):Jb 234 [ptr p,.agg (yg c)] S R:=by
 have hm:=xr ς;have hU:=hm.hU;obtain⟨oa,z,e,H⟩:=hv.form;subst e;refine Qb (c:=cfg 135) zb func234 ?_;refine AWp.seq (AWp.of_vc zb ?_);refine AWp.seq (AWp.of_vc zb ?_);refine Qc zb yec ?_;refine Qby ?_;refine⟨zb0 hv Z hm.hk c _ ⟨Qe,?_⟩,O⟩;refine Qbx ?_;refine AWp.seq (AWp.of_vc zb ?_);refine qd (λA=>?_) (λA=>?_)
 .have:=zd8 A;rw[this]at h;exact ret (h _ A)
 obtain⟨π,M⟩:=Sg A;obtain⟨ix,hix,ι,hidx,L,_,_⟩:=C8 π;rw[L]at M;have hkb:=Mc w.U[ix].kind;have hin:(z6 w.U c.N).length<=Γ w.U:=θl;refine AWp.meetA (σ:=Unit) ⟨λ_=>[(0,.av (ptr p)),(3,.bx 3 0),(6,.bx 6 0)],λ_=>[(3,yg c),(6,zf w.U[ix])],λ_ y=>y=S⟩ ?_ ?_
 .refine AWp.of_vc zb ?_;refine Qc zb yd8 ?_;refine Qby ?_;refine Qby ?_;obtain⟨b,a,e2,hob⟩:=H ix hix;subst e2;refine⟨He hv Z c.N _ ⟨Qas,?_⟩,⟨Qas,?_⟩,O⟩
  .rw[ι];refine⟨ix,rfl,hix,?_⟩;refine Qby ?_;refine yv (i:=ti72) (row:=zf w.U[ix]) rfl rfl (xx yx hix) ?_;refine⟨⟨Qas,?_⟩,O⟩;refine Qbx ?_;exact⟨(),rfl,Qbt,⟨rfl,rfl,O⟩⟩
  .refine⟨He hv Z c.N _ ⟨Qas,?_⟩,O⟩;rw[ι];refine⟨ix,rfl,hix,?_⟩;refine Qby ?_;refine yv (i:=ti72) (row:=zf w.U[ix]) rfl rfl (xx yx hix) ?_;refine Qbx ?_;exact⟨(),rfl,Qbt,⟨rfl,rfl,O⟩⟩
 rintro _ S rfl;refine AWp.of_vc zb ?_
 refine AWp.loop (σ:=Nat) ⟨λi=>[(0,.av (ptr p)),(3,.bx 3 0),(6,.bx 6 0),(7,.av (int (i:Nat)))],λ_=>[(3,yg c),(6,zf w.U[ix])],
  λi y=>i<=Γ c.U/\y=S/\∀j,(E:j<Γ c.U)->j<i->ldA w c.P c.N c.U[j]=0,λi=>Γ c.U-i⟩ zb ?_ ?_
 .exact⟨0,O,⟨Fae _,rfl,λj _ E=>Z⟩,Qbt,⟨rfl,rfl,O⟩⟩
 rintro i S ⟨hi,rfl,hall⟩;refine zg (λT=>?_) (λT=>?_)
 .have hlt:=ql T;refine Qc zb yd7 ?_;refine Qby ?_;refine⟨i,rfl,J _ (zm hlt) ?_⟩;refine⟨yjd hv Z c.P c.U[i] _ ⟨(by repeat(first|exact O|refine⟨rfl,?_⟩|refine⟨J (o:=S.obj p) _ hp rfl,?_⟩|refine⟨⟨i,rfl,J _ (zm hlt) rfl⟩,?_⟩)),?_⟩,O⟩;refine Qbx ?_;refine qd (λK=>?_) (λK=>?_)
  .have hA:ldA w c.P c.N c.U[i]=xu w c.P c.U[i]:=by unfold ldA;rw[if_neg K]
   have n:=N6 A (by rw[Dt hlt hall (by rw[hA];exact K),hA];exact K);rw[Dt hlt hall (by rw[hA];exact K),hA]at n;rw[n]at h;exact ret (h _ K)
  obtain⟨iu,hiu,C,G,ε,_,_⟩:=C8 K;have hA:ldA w c.P c.N c.U[i]=Bd w.U[ix] w.U[iu]:=by unfold ldA;rw[if_pos K,L,ε]
  obtain⟨b,a,e2,hob⟩:=H iu hiu;subst e2;refine Qc zb yeb ?_;refine Qby ?_;refine Qby ?_;refine⟨i,rfl,J _ (zm hlt) ?_⟩;refine⟨He hv Z c.U[i] _ ⟨Qar,?_⟩,⟨Qar,?_⟩,O⟩
  .rw[C];refine⟨iu,rfl,hiu,?_⟩;refine Qby ?_;refine yv (i:=ti72) (row:=zf w.U[iu]) rfl rfl (xx yx hiu) ?_;refine⟨⟨Qar,?_⟩,O⟩;refine Qbx ?_;refine Df w.U[iu].kind (hm.hk _ (Faa hiu)) _ _ ?_;refine bcd (λD=>?_) (λD=>?_)
   .have f:Bd w.U[ix] w.U[iu]=7:=by unfold Bd;rw[if_pos D]
    rw[f]at hA;have n:=N6 A Qat;rw[Dt hlt hall Qaw,hA]at n;rw[n]at h;exact ret (h _ ψ)
   refine io w.U[iu].pos w.U[ix].pos (hn _ (Faa hiu)) (hn _ (Faa hix)) _ _ ?_;refine bcd (λV=>?_) (λV=>?_)
   .have f:Bd w.U[ix] w.U[iu]=8:=by unfold Bd;rw[if_neg D,if_pos V]
    rw[f]at hA;have n:=N6 A Qat;rw[Dt hlt hall Qaw,hA]at n;rw[n]at h;exact ret (h _ ψ)
   have f:Bd w.U[ix] w.U[iu]=0:=by unfold Bd;rw[if_neg D,if_neg V]
   rw[f]at hA;refine Qd ?_;refine⟨i+1,?_,⟨Z,rfl,λj E hji=>?_⟩,Qbt,⟨rfl,rfl,O⟩⟩
   .show Γ c.U-(i+1)<Γ c.U-i;omega
   .by_cases e:j=i
    .subst e;exact hA
    .exact hall j E Z
  .refine⟨He hv Z c.U[i] _ ⟨Qar,?_⟩,O⟩;rw[C];refine⟨iu,rfl,hiu,?_⟩;refine Qby ?_;refine yv (i:=ti72) (row:=zf w.U[iu]) rfl rfl (xx yx hiu) ?_;refine Qbx ?_;refine Df w.U[iu].kind (hm.hk _ (Faa hiu)) _ _ ?_;refine bcd (λD=>?_) (λD=>?_)
   .have f:Bd w.U[ix] w.U[iu]=7:=by unfold Bd;rw[if_pos D]
    rw[f]at hA;have n:=N6 A Qat;rw[Dt hlt hall Qaw,hA]at n;rw[n]at h;exact ret (h _ ψ)
   refine io w.U[iu].pos w.U[ix].pos (hn _ (Faa hiu)) (hn _ (Faa hix)) _ _ ?_;refine bcd (λV=>?_) (λV=>?_)
   .have f:Bd w.U[ix] w.U[iu]=8:=by unfold Bd;rw[if_neg D,if_pos V]
    rw[f]at hA;have n:=N6 A Qat;rw[Dt hlt hall Qaw,hA]at n;rw[n]at h;exact ret (h _ ψ)
   have f:Bd w.U[ix] w.U[iu]=0:=by unfold Bd;rw[if_neg D,if_neg V]
   rw[f]at hA;refine Qd ?_;refine⟨i+1,?_,⟨Z,rfl,λj E hji=>?_⟩,Qbt,⟨rfl,rfl,O⟩⟩
   .show Γ c.U-(i+1)<Γ c.U-i;omega
   .by_cases e:j=i
    .subst e;exact hA
    .exact hall j E Z
 have:i=Γ c.U:=qr T hi;subst this;have hzero:jy (ldA w c.P c.N) c.U=0:=Sn λj E=>hall j E E;have n:=zd7 A hzero;rw[L]at n;have hall:=H0 hzero;refine Qc zb yea ?_;refine Qby ?_;refine⟨zbd hv Z c.N _ ⟨Qe,?_⟩,O⟩;refine ze (by rw[zj,zj];omega) ?_;refine⟨Df w.U[ix].kind (hm.hk _ (Faa hix)) _ _ ⟨Qe,?_⟩,O⟩;refine bcd (λh2=>?_) (λh2=>?_)
 .rw[zj,zj]at h2;rw[if_pos h2]at n;rw[n]at h;exact ret (h _ ψ)
 rw[zj,zj]at h2;rw[if_neg h2]at n
 refine AWp.loop (σ:=Nat×Store) ⟨λx=>[(0,.av (ptr p)),(3,.bx 3 0),(9,.av (int (x.1:Nat)))],λ_=>[(3,yg c)],
  λx y=>x.1<=Γ c.U/\y=x.2/\x.2.obj p=Δ (.cells (zy w (.s (.slice oa (Γ w.U) z))))/\RowsQ 10 zf x.2 (.s (.slice oa (Γ w.U) z)) (y9 (c.U.take x.1) (ldU c.N) w.U),λx=>Γ c.U-x.1⟩ zb ?_ ?_
 .refine⟨(0,S),O,⟨Fae _,rfl,hp,?_⟩,Qbt,⟨rfl,O⟩⟩;dsimp only;rw[Fcp,Nd];exact hv
 rintro⟨k,S0⟩ S1 ⟨W,rfl,hp1,B⟩;dsimp only at W hp1 B⊢;refine zg (λT=>?_) (λT=>?_);rotate_left
 .have υ:k=Γ c.U:=qr T W;subst υ;rw[Fal]at B;exact ret (h0 n _ _ hp1 B)
 have hlt:=ql T;obtain⟨iu,hiu,C,G,ε,_,_⟩:=C8 (my (hall c.U[k] (Faa hlt))).1;have hi2:iu<(y9 (c.U.take k) (ldU c.N) w.U).length:=by rw[wy];exact hiu
 have hf2:qc (y9 (c.U.take k) (ldU c.N) w.U) c.U[k]=Δ iu:=by rw[zfq (g:=ldU c.N) (λ_=>rfl)];exact C
 rcases B with(⟨_,Q⟩|⟨b,cap',a,e,ho,ο,τ,ν⟩)|⟨_,_,_,Q⟩
 .rw[Q]at hi2;exact absurd hi2 (Fav iu)
 rotate_left
 .rw[Q]at hi2;exact absurd hi2 (Fav iu)
 simp only[AV.s.injEq,Value.slice.injEq]at e;obtain⟨rfl,e7,rfl⟩:=e;have hcap:0<z:=Z;have t:b≠p:=η b _ _ rfl hcap;refine Qc zb yd9 ?_;refine Qby ?_;refine Qby ?_;refine⟨k,rfl,J _ (zm hlt) ?_⟩;refine⟨He (w:={w with U:=y9 (c.U.take k) (ldU c.N) w.U}) (.inl (.inr ⟨b,z,a,by rw[e7],ho,ο,τ,ν⟩)) (by rw[wy];omega) c.U[k] _ ⟨ψp,?_⟩,O⟩;dsimp only;rw[hf2];refine⟨iu,rfl,hiu,?_⟩;refine Qbx ?_;have I:(y9 (c.U.take k) (ldU c.N) w.U).length=Γ w.U:=wy _ _ _;have hidk:(y9 (c.U.take k) (ldU c.N) w.U).set iu (ldU c.N (y9 (c.U.take k) (ldU c.N) w.U)[iu])=y9 (c.U.take (k+1)) (ldU c.N) w.U:=by
  have n:c.U.take k++[w.U[iu].id]=c.U.take (k+1):=by rw[Fab hlt,G]
  have e6:ldU c.N ((y9 (c.U.take k) (ldU c.N) w.U)[iu])=ldU c.N w.U[iu]:=by rw[Nf hiu];split<;>rfl
  rw[e6,Vs hm.hr hiu,n]
 generalize hgU:y9 (c.U.take k) (ldU c.N) w.U=d at*;refine xh (i:=ti2) (v:=int c.N) (b:=b) (o:=0+iu*10+8) (l:=(rws zf (d)).flatten++a) rfl rfl rfl ho (show 0+iu*10+8+1<=_ by rw[Fad,qu yx,I];omega) ?_;have q1:=D8 (x':={d[iu]with inn:=c.N}) (ys:=[int c.N]) (j:=8) ho hi2 (show 8+1<=10 by decide) rfl;have p1:=(zi (st:=S1) (x:=.cells (zu ((rws zf (d)).flatten++a) (0+iu*10+8) [int c.N])) (Ne.symm t)).trans hp1;generalize S1.sO b _=S2 at q1 p1⊢;refine kh (i:=ti64) (v:=.agg [int 0,int 0]) (xs:=[int 0,int 0]) (b:=b) (o:=0+iu*10+3) (l:=(rws zf (d.set iu {d[iu]with inn:=c.N})).flatten++a) rfl rfl rfl q1 (show 0+iu*10+3+2<=_ by rw[Fad,qu yx,Faf,I];omega) ?_;have q2:=D8 (x':={d[iu]with inn:=c.N,pos:=(0,0)}) (ys:=[int 0,int 0]) (j:=3) q1 Qau ψ Qav;rw[Fbr]at q2;have p2:=(zi (st:=S2) (x:=.cells (zu ((rws zf (d.set iu {d[iu]with inn:=c.N})).flatten++a) (0+iu*10+3) [int 0,int 0])) (Ne.symm t)).trans p1;generalize S2.sO b _=S3 at q2 p2⊢;refine xh (i:=ti2) (v:=int (-1)) (b:=b) (o:=0+iu*10+5) (l:=(rws zf (d.set iu {d[iu]with inn:=c.N,pos:=(0,0)})).flatten++a) rfl rfl rfl q2 (show 0+iu*10+5+1<=_ by rw[Fad,qu yx,Faf,I];omega) ?_;have q3:=D8 (x':={d[iu]with inn:=c.N,pos:=(0,0),goal:=-1}) (ys:=[int (-1)]) (j:=5) q2 Qau ψ Qav;rw[Fbr]at q3;have p3:=(zi (st:=S3) (x:=.cells (zu ((rws zf (d.set iu {d[iu]with inn:=c.N,pos:=(0,0)})).flatten++a) (0+iu*10+5) [int (-1)])) (Ne.symm t)).trans p2;generalize S3.sO b _=S4 at q3 p3⊢;refine xh (i:=ti2) (v:=int (-1)) (b:=b) (o:=0+iu*10+6) (l:=(rws zf (d.set iu {d[iu]with inn:=c.N,pos:=(0,0),goal:=-1})).flatten++a) rfl rfl rfl q3 (show 0+iu*10+6+1<=_ by rw[Fad,qu yx,Faf,I];omega) ?_;have q4:=D8 (x':={d[iu]with inn:=c.N,pos:=(0,0),goal:=-1,next:=-1}) (ys:=[int (-1)]) (j:=6) q3 Qau ψ Qav;rw[Fbr]at q4;have p4:=(zi (st:=S4) (x:=.cells (zu ((rws zf (d.set iu {d[iu]with inn:=c.N,pos:=(0,0),goal:=-1})).flatten++a) (0+iu*10+6) [int (-1)])) (Ne.symm t)).trans p3;generalize S4.sO b _=S5 at q4 p4⊢;refine xh (i:=ti2) (v:=int 0) (b:=b) (o:=0+iu*10+7) (l:=(rws zf (d.set iu {d[iu]with inn:=c.N,pos:=(0,0),goal:=-1,next:=-1})).flatten++a) rfl rfl rfl q4 (show 0+iu*10+7+1<=_ by rw[Fad,qu yx,Faf,I];omega) ?_;have q5:=D8 (x':={d[iu]with inn:=c.N,pos:=(0,0),goal:=-1,next:=-1,stuck:=0}) (ys:=[int 0]) (j:=7) q4 Qau ψ Qav;rw[Fbr]at q5;have p5:=(zi (st:=S5) (x:=.cells (zu ((rws zf (d.set iu {d[iu]with inn:=c.N,pos:=(0,0),goal:=-1,next:=-1})).flatten++a) (0+iu*10+7) [int 0])) (Ne.symm t)).trans p4;generalize S5.sO b _=S6 at q5 p5⊢;refine xh (i:=ti2) (v:=int 0) (b:=b) (o:=0+iu*10+9) (l:=(rws zf (d.set iu {d[iu]with inn:=c.N,pos:=(0,0),goal:=-1,next:=-1,stuck:=0})).flatten++a) rfl rfl rfl q5 (show 0+iu*10+9+1<=_ by rw[Fad,qu yx,Faf,I];omega) ?_;have q6:=D8 (x':=ldU c.N d[iu]) (ys:=[int 0]) (j:=9) q5 Qau ψ Qav;rw[Fbr]at q6;have p6:=(zi (st:=S6) (x:=.cells (zu ((rws zf (d.set iu {d[iu]with inn:=c.N,pos:=(0,0),goal:=-1,next:=-1,stuck:=0})).flatten++a) (0+iu*10+9) [int 0])) (Ne.symm t)).trans p5;generalize S6.sO b _=S7 at q6 p6⊢;rw[hidk]at q6;refine Qd ?_;have e9:(y9 (c.U.take (k+1)) (ldU c.N) w.U).length=Γ w.U:=wy _ _ _;refine⟨(k+1,S7),?_,⟨ζ,rfl,p6,.inl (.inr ⟨b,z,a,by rw[e9],q6,by rw[e9,<-I];exact ο,by rw[e9,<-I];exact τ,ν⟩)⟩,Qbt,⟨rfl,O⟩⟩;show Γ c.U-(k+1)<Γ c.U-k;omega
def yjg(w:Wld)(y:w.fits)(A:∀u∈w.U,u.pos.ok)(L:Γ w.U<=1000000)(c:Cmd)(H:c.fits)(d:c.K=6):Jb 150 [.agg (zo w),.agg (yg c)] Store.empty (DoQ ldE ldW w c):=by
 refine Qa (c:=cfg 97 [6] []) zb func150 ?_;have bad:(¬yd w\/¬jh c\/w.players<c.P)->DoQ ldE ldW w c (.tup [.agg (zo w),int 1]) Store.empty:=λI=>by have he:=Hw (E:=ldE) (w:=w) (c:=c) I;exact .inl ⟨γ,by rw[he]⟩
 refine Kd w y A _ _ (λz hz=>?_);refine ya ?_;refine zg (λc1=>?_) (λc1=>?_);rotate_left
 .exact ret (bad (.inl λhh=>θo))
 refine Iv c H _ _ (λT hzc=>?_);refine ya ?_;refine zg (λc2=>?_) (λc2=>?_);rotate_left
 .exact ret (bad (.inr (.inl λhh=>θu)))
 refine bcd (λQ=>?_) (λQ=>?_)
 .exact ret (bad (.inr (.inr Z)))
 have B:=hz.1 c1;have g:=hzc.1 c2;have he:=Ir (E:=ldE) B g (show c.P<=w.players by omega);have f:=(Cmd.ok6 d).1 g.1;refine Kv w y L _ _ (λv N hv _=>?_);rw[Dx];have hv:=hv.q;have hoff:=λ(p:Nat) (hp:Fresh N p)=>Dj hv (jt (fresh_iff.1 hp)).1;obtain⟨k,a,e,_⟩:=hv.form;subst e;refine λp hp=>?_;refine kh (i:=ti27) (v:=.agg (zy w (.s (.slice k (Γ w.U) a)))) (xs:=zy w (.s (.slice k (Γ w.U) a))) (b:=p) (o:=0) (l:=_) rfl rfl rfl (zd _ _ _) (show 0+8<=8 by decide) ?_;generalize hS:(N.sO p _).sO p _=S;have t:S.obj p=Δ (.cells (zy w (.s (.slice k (Γ w.U) a)))):=θv;have n:RowsQ 10 zf S (.s (.slice k (Γ w.U) a)) w.U:=θw;refine zp (λh=>absurd (d.symm.trans h) ψ) (λ_=>?_);refine zp (λh=>absurd (d.symm.trans h) ψ) (λ_=>?_);refine zp (λh=>absurd (d.symm.trans h) ψ) (λ_=>?_);refine zp (λh=>absurd (d.symm.trans h) ψ) (λ_=>?_);refine zp (λh=>absurd (d.symm.trans h) ψ) (λ_=>?_);refine zp (λ_=>?_) (λh=>absurd d h);refine yhs t n (hoff p hp) B A c f.1.1.2 f.2.1 _ (λR hE=>?_) (λhE R W X C=>?_)
 .refine qd (λ_=>?_) (λh=>absurd h hE);exact ret (.inl ⟨θx,by rw[he];rfl⟩)
 .obtain⟨G,D,M,_⟩:=C.form;subst M;refine Qby ?_;exact ret (.inr ⟨he.trans hE,_,C,rfl⟩)
def yin:K8 6 ldE ldW:=λw a b e c d f R h=>Mj (yjg w a b e c d f) R h
end
theorem max2_eq(a b:Int):max2 a b=max a b:=by
 unfold max2;by_cases h:b>a
 .rw[decide_eq_true h];show b=_;omega
 .rw[decide_eq_false h];show a=_;omega
def zeg{f:FuncId}{xs:List AV}{l:List Int}(n:Jb f xs Store.empty λr S=>RowsQ 1 zx S r l)(a:Store)(R:Ja)(h:R (yq l) a):Jb f xs a R:=by
 have k:=n.frozen (R:=λr=>r=yq l) (by rintro r S g;exact⟨_,rfl,λp M t u sto d=>RowsQ.borrow (f:=zx) (λ_=>rfl) (λx y c=>by simp[zx]at c;exact⟨_,c,rfl⟩) g sto d⟩)
 have j:Jb f xs Store.empty λr S=>r=yq l/\S=Store.empty:=
  k.post (Store.Le.refl _) λr b i=>⟨r,Store.empty,AV.le_refl r,(Oc b).toLe,i,rfl⟩
 rw[<-jx a];exact ACalls.frame (F4 a) j λr S ⟨e,o⟩ v=>by subst e o;rw[jx];exact h
def zbe{α:Type}{k:Nat}{f:α->List AV}(S:Store):RowsQ k f S (.s (.slice Θ 0 0)) ([]:List α):=.inl (.inl ⟨rfl,rfl⟩)
def yvn(g:Gnd)(B:zt g)(f:Nat->Bool)(a:Int)(hs:0<=a/\a<=3)(t:Nat)(ht:t<Γ g.T)(n:Nat)(hn:n<=1000):
  Jb 73 [.agg (zq g),lst 1 jm (blL (Γ g.T) f),int a,int t,int n] Store.empty λr S=>RowsQ 1 zx S r (qb (Fi g f a (t:Int) n)):=by
 have hm:=qg B;have ι:=B.1;have η:=B.2.1;have hdone:=λ(d:Nat) M=>uy B (f:=f) (size:=a) (goal:=(t:Int)) (d:=d) (n:=n) ⟨Z,Z⟩ M;have hstep:=λ(x y:Int) (k d:Nat) I C=>yao (g:=g) (f:=f) (x:=x) (y:=y) (k:=k) (d:=d) I C;obtain⟨k,I⟩:∃k:Nat,2*a+1=(k:Int):=⟨(2*a+1).toNat,Z⟩
 rw[I]at hdone;have ring:=yhw g B t ht;generalize hx:(t:Int)%g.W=x at*;generalize hy:(t:Int)/g.W=y at*;refine Qy 60 func73 ?_;refine Qd ?_;refine Qd ?_
 refine AWp.loop (σ:=Nat×AV) ⟨λs=>[(1,.av (lst 1 jm (blL (Γ g.T) f))),(3,.av (int (t:Nat))),(4,.av (int (n:Nat))),(5,.bx 5 0),(10,.av s.2),(11,.av (int (k:Nat))),(12,.av (int ((s.1*k:Nat))))],λ_=>[(5,zq g)],
  λs j=>s.1*k<=200/\RowsQ 1 zx j s.2 (qb ((jk g f x y k (s.1*k)).take n)),λs=>300-s.1*k⟩ zb ?_ ?_
 .refine⟨(0,_),O,⟨ζ,?_⟩,⟨Y,Y,Y,Y,Y,?_,?_,O⟩,⟨rfl,O⟩⟩
  .dsimp only;rw[Nat.zero_mul];show RowsQ 1 zx _ _ (qb (([]:List Nat).take n));rw[List.take_nil];exact zbe _
  .rw[<-I];exact Y
  .dsimp only;rw[Nat.zero_mul];exact Y
 rintro⟨m,v⟩ j ⟨w,c⟩;dsimp only at w c⊢;obtain⟨d,C⟩:∃d:Nat,m*k=d:=⟨_,rfl⟩
 have P:k∣d:=⟨m,by rw[Nat.mul_comm];exact C.symm⟩
 have z:(m+1)*k=d+k:=by rw[Fch,Nat.one_mul,C]
 rw[C]at w c⊢;obtain⟨oa,ο,e,_⟩:=c.form;subst e;have hlenT:(qb ((jk g f x y k d).take n)).length=((jk g f x y k d).take n).length:=Cv _;refine bcd (λD=>?_) (λD=>?_);rotate_left
 .rw[max2_eq]at D;have e:=hdone d (.inr Z);exact ret (by rw[<-e];exact c)
 refine bcd (λU=>?_) (λU=>?_);rotate_left
 .rw[hlenT,Fah]at U;have e:=hdone d (.inl Z);exact ret (by rw[<-e];exact c)
 have D:(d:Int)<=max g.W g.H:=by rw[max2_eq]at D;exact D
 refine ring d k ⟨Z,Z⟩ ⟨Z,Z⟩ _ _ ?_;have hstep:=hstep x y k d Z P;have hL:∀u∈Gg g x y k d,u<Γ g.T:=λu G=>Fbe.1 (Fcc.1 G).1;have τ:(Gg g x y k d).length<=Γ g.T:=by have:=Fbl (kl g x y k d) (List.range (Γ g.T));rw[Fds]at this;exact this
 have hslot:Cd g f x y k d=(Gg g x y k d).filter f:=rfl;rw[hslot]at hstep;generalize Gg g x y k d=L at*;generalize hA:jk g f x y k d=A at*
 refine AWp.loop (σ:=Nat×AV) ⟨λs=>[(1,.av (lst 1 jm (blL (Γ g.T) f))),(3,.av (int (t:Nat))),(4,.av (int (n:Nat))),(5,.bx 5 0),(10,.av s.2),(11,.av (int (k:Nat))),(12,.av (int (d:Nat))),(38,.av (yq (qb L))),(39,.av (int (Γ L:Nat))),(40,.av (int (s.1:Nat)))],λ_=>[(5,zq g)],
  λs j=>s.1<=Γ L/\RowsQ 1 zx j s.2 (qb ((A++(L.take s.1).filter f).take n)),λs=>Γ L-s.1⟩ zb ?_ ?_
 .refine⟨(0,_),O,⟨Fae _,?_⟩,⟨Y,Y,Y,Y,Y,Y,Y,Y,?_,Y,O⟩,⟨rfl,O⟩⟩
  .dsimp only;rw[Fcp,List.filter_nil,Fbq];exact c
  .show LV.le (.av (int ((rws zx (qb L)).length:Nat))) (.av (int (Γ L:Nat)));rw[zj,Cv];exact Y
 rintro⟨i,X⟩ st2 ⟨hi,hap2⟩;dsimp only at hi hap2⊢;refine bcd (λQ=>?_) (λQ=>?_);rotate_left
 .have:i=Γ L:=Z;subst this;rw[Fal,<-hstep]at hap2;refine Qd ?_;refine⟨(m+1,X),?_,⟨ζ,?_⟩,⟨Y,Y,Y,Y,Y,Y,?_,O⟩,⟨rfl,O⟩⟩
  .show 300-(m+1)*k<300-m*k;omega
  .dsimp only;rw[z];exact hap2
  .dsimp only;rw[z,Int.natCast_add];exact Y
 have o:i<Γ L:=Z;have hlt2:i<(qb L).length:=by rw[Cv];exact o
 have G:=hL _ (Faa o);have hnat:(qb L)[i]'hlt2=((L[i]'o:Nat):Int):=Fbj ..;have K:L[i]<(blL (Γ g.T) f).length:=by rw[jd];exact G
 have l:(L.take (i+1)).filter f=(L.take i).filter f++[L[i]].filter f:=by rw[Fab o,Fcu]
 obtain⟨ε,V,e2,_⟩:=hap2.form;subst e2;have hlenT2:(qb ((A++(L.take i).filter f).take n)).length=((A++(L.take i).filter f).take n).length:=Cv _;have hdec:Γ L-(i+1)<Γ L-i:=Z;refine⟨i,rfl,J _ (zm hlt2) ?_⟩;refine⟨L[i],hnat,J _ (zm K) ?_⟩;rw[Cm G];refine zg (λR=>?_) (λR=>?_);rotate_left
 .have e:[L[i]].filter f=[]:=by simp[R]
  rw[e,Fbq]at l;refine Qd ?_;exact⟨(i+1,_),hdec,⟨ζ,by dsimp only;rw[l];exact hap2⟩,⟨Y,Y,Y,Y,Y,Y,Y,Y,Y,Y,O⟩,⟨rfl,O⟩⟩
 have e:[L[i]].filter f=[L[i]]:=by simp[R]
 rw[e]at l;have h:=tv (A++(L.take i).filter f) L[i] n;rw[Faq,<-l]at h;refine bcd (λp=>?_) (λp=>?_)
 .have p:(A++(L.take i).filter f).length<n:=(f9 _ _).1 (by rw[hlenT2]at p;omega);rw[if_pos p]at h;refine⟨ψ,?_⟩;have ν:((A++(L.take i).filter f).take n).length<=1000:=Z;refine G6 (ie:=ti2) rfl (λ_=>rfl) ψ hap2 ((qb L)[i]'hlt2) rfl (by rw[hlenT2];omega) (λb E L3 q1 q2 q3 q4=>?_);have Q:RowsQ 1 zx (st2.sO b _) _ _:=.inl (.inr ⟨b,E,L3,rfl,zd _ _ _,q2,q3,q4⟩);refine Qd ?_;refine⟨(i+1,_),hdec,⟨ζ,?_⟩,⟨Y,Y,Y,Y,Y,Y,Y,Y,Y,Y,O⟩,⟨rfl,O⟩⟩;dsimp only;rw[h,lz,show qb [L[i]]=[(qb L)[i]'hlt2] by rw[hnat];rfl];exact Q
 .have p:¬(A++(L.take i).filter f).length<n:=λM=>p (by have:=(f9 (A++(L.take i).filter f) n).2 M;rw[hlenT2];omega);rw[if_neg p]at h;refine Qd ?_;refine⟨(i+1,_),hdec,⟨ζ,?_⟩,⟨Y,Y,Y,Y,Y,Y,Y,Y,Y,Y,O⟩,⟨rfl,O⟩⟩;dsimp only;rw[h];exact hap2
def yvm(g:Gnd)(i:zt g)(f:Nat->Bool)(a:Int)(d:0<=a/\a<=3)(t:Nat)(c:t<Γ g.T)(n:Nat)(e:n<=1000)(b:Store)(R:Ja)(h:R (yq (qb (Fi g f a (t:Int) n))) b):
  Jb 73 [.agg (zq g),lst 1 jm (blL (Γ g.T) f),int a,int t,int n] b R:=
 zeg (yvn g i f a d t c n e) b R h
def zdx(i j:Int):max2 (max2 i (0-i)) (max2 j (0-j))=Cn i j:=by rw[max2_eq,max2_eq,max2_eq];unfold Cn;omega
def zfx(p:Nat->Bool)(i:Nat):∀e:Nat,∃m,(List.range (i+e)).filter p=(List.range i).filter p++m
 |0=>⟨[],φ⟩
 |e+1=>by obtain⟨m,a⟩:=zfx p i e;rw[show i+(e+1)=(i+e)+1 by omega,Fdp,Fcu,a,Faq];exact⟨_,rfl⟩
theorem yap(g:Gnd)(f:Nat->Bool)(x y k d:Int):Cd g f x y k d=(List.range (Γ g.T)).filter (λt=>kl g x y k d t&&f t):=by unfold Cd Gg;rw[List.filter_filter];refine Fel λt _=>?_;rw[Bool.and_comm]
def ygu(g:Gnd)(o:zt g)(l:List Bld)(hl:Γ l<=1000000000000)(hb:∀b∈l,yh b/\onP g b)(c:Int)(hc:c=0\/c=1\/c=2)(a:Int)(hs:0<=a/\a<=3)(h:Nat)(η:h<Γ g.T)(n:Nat)(hn:n<=1000):
  Jb 322 [.agg (zq g),lst 6 zk l,int c,int a,int h,int n] Store.empty λr S=>RowsQ 1 zx S r (qb (Fi g (zn g l c a) a (h:Int) n)):=by
 have hm:=qg o;have ν:=o.1;have ι:=o.2.1;have ε:=Dc o (t:=h) Z;have hq:=Ga (t:=h) o.1.1;have L:=Gb (t:=h) o.1.1;have hdone:=λ(d:Nat) z=>uy o (f:=zn g l c a) (size:=a) (goal:=(h:Int)) (d:=d) (n:=n) ⟨Z,Z⟩ z;have hend:Fi g (zn g l c a) a (h:Int) n=(jk g (zn g l c a) ((h:Int)%g.W) ((h:Int)/g.W) (2*a+1) (g.W+g.H+1).toNat).take n:=rfl;have rg:=ij g o l hl hb c hc a hs.1;unfold Fw at rg;generalize zn g l c a=f at*;refine Qy 111 func322 ?_;refine rg _ _ ?_;obtain⟨k,hk⟩:∃k:Int,2*a+1=k:=⟨_,rfl⟩
 refine Qd ?_;refine Qd ?_;refine Qc zb ycb ?_;refine⟨Z,?_⟩;refine⟨Z,?_⟩;refine Qd ?_;refine Qbw ?_;refine Qbx ?_;rw[hk]at hdone hend;generalize hx:(h:Int)%g.W=x at*;generalize hy:(h:Int)/g.W=y at*
 refine AWp.loop (σ:=Nat×AV) ⟨λs=>[(5,.av (int (n:Nat))),(6,.bx 6 0),(13,.av (lst 1 jm (blL (Γ g.T) f))),(14,.av s.2),(15,.av (int k)),(16,.av (int x)),(17,.av (int y)),(18,.av (int (s.1:Nat)))],λ_=>[(6,zq g)],
  λs u=>(s.1:Int)<=g.W+g.H+1/\RowsQ 1 zx u s.2 (qb ((jk g f x y k s.1).take n)),λs=>400-s.1⟩ zb ?_ ?_
 .refine⟨(0,_),O,⟨ζ,?_⟩,⟨Y,Y,Y,Y,?_,?_,?_,Y,O⟩,⟨rfl,O⟩⟩
  .dsimp only;show RowsQ 1 zx _ _ (qb (([]:List Nat).take n));rw[List.take_nil];exact zbe _
  .rw[<-hk];exact Y
  .rw[<-hq];exact Y
  .rw[<-L];exact Y
 rintro⟨d,v⟩ u ⟨hd,p⟩;dsimp only at hd p⊢;obtain⟨oa,π,e,_⟩:=p.form;subst e;have hlenT:(qb ((jk g f x y k d).take n)).length=((jk g f x y k d).take n).length:=Cv _;refine Qd ?_;refine bcd (λh1=>?_) (λh1=>?_);rotate_left
 .have e:(g.W+g.H+1).toNat=d:=Z;rw[e]at hend;exact ret (by rw[hend];exact p)
 refine bcd (λh2=>?_) (λh2=>?_);rotate_left
 .have e:=hdone d (.inl (by rw[hlenT,Fah]at h2;omega));exact ret (by rw[<-e];exact p)
 have hstep:jk g f x y k (d+1)=jk g f x y k d++(List.range (Γ g.T)).filter (λt=>kl g x y k d t&&f t):=by rw[<-yap];rfl
 generalize hA:jk g f x y k d=A at*
 refine AWp.loop (σ:=Nat×AV) ⟨λs=>[(5,.av (int (n:Nat))),(6,.bx 6 0),(13,.av (lst 1 jm (blL (Γ g.T) f))),(14,.av s.2),(15,.av (int k)),(16,.av (int x)),(17,.av (int y)),(18,.av (int (d:Nat))),(19,.av (int (s.1:Nat)))],λ_=>[(6,zq g)],
  λs u=>s.1<=Γ g.T/\RowsQ 1 zx u s.2 (qb ((A++(List.range s.1).filter (λt=>kl g x y k d t&&f t)).take n)),λs=>Γ g.T-s.1⟩ zb ?_ ?_
 .refine⟨(0,_),O,⟨Fae _,?_⟩,⟨Y,Y,Y,Y,Y,Y,Y,Y,Y,O⟩,⟨rfl,O⟩⟩;dsimp only;rw[List.range_zero,List.filter_nil,Fbq];exact p
 rintro⟨i,v2⟩ st2 ⟨hi,hap2⟩;dsimp only at hi hap2⊢;obtain⟨C,w,e2,_⟩:=hap2.form;subst e2;have hlenT2:(qb ((A++(List.range i).filter (λt=>kl g x y k d t&&f t)).take n)).length=((A++(List.range i).filter (λt=>kl g x y k d t&&f t)).take n).length:=Cv _;have ο:((A++(List.range i).filter (λt=>kl g x y k d t&&f t)).take n).length<=1000:=θd;have done:(A++(List.range i).filter (λt=>kl g x y k d t&&f t)).take n=(jk g f x y k (d+1)).take n->RowsQ 1 zx st2 (.s (.slice C (qb ((A++(List.range i).filter (λt=>kl g x y k d t&&f t)).take n)).length w)) (qb ((jk g f x y k (d+1)).take n)):=λe=>by rw[<-e];exact hap2
 have hdec0:400-(d+1)<400-d:=Z;refine bcd (λR=>?_) (λR=>?_);rotate_left
 .rw[zj,jd]at R;have P:i=Γ g.T:=Z;refine Qd ?_;exact⟨(d+1,_),hdec0,⟨ζ,done (by rw[hstep,P])⟩,⟨Y,Y,Y,Y,Y,Y,Y,Y,O⟩,⟨rfl,O⟩⟩
 rw[zj,jd]at R;have G:i<Γ g.T:=Z;refine bcd (λQ=>?_) (λQ=>?_);rotate_left
 .refine Qd ?_;refine⟨(d+1,_),hdec0,⟨ζ,done ?_⟩,⟨Y,Y,Y,Y,Y,Y,Y,Y,O⟩,⟨rfl,O⟩⟩;obtain⟨m,E⟩:=zfx (λt=>kl g x y k d t&&f t) i (Γ g.T-i);rw[show i+(Γ g.T-i)=Γ g.T by omega]at E;rw[hlenT2,Fah]at Q;rw[hstep,E,<-Faq];exact(Fb6 Z).symm
 rw[hlenT2]at Q;have htb2:=Dc o (t:=i) Z;have hp:=Ga (t:=i) o.1.1;have M:=Gb (t:=i) o.1.1;have j:kl g x y k d i=decide (Cn ((i:Int)%g.W-x) ((i:Int)/g.W-y)=d/\((i:Int)%g.W-x).tmod k=0/\((i:Int)/g.W-y).tmod k=0):=rfl;rw[<-hp,<-M]at j htb2;have K:=Fdp (n:=i);have hsucc:(List.range (i+1)).filter (λt=>kl g x y k d t&&f t)=(List.range i).filter (λt=>kl g x y k d t&&f t)++[i].filter (λt=>kl g x y k d t&&f t):=by rw[K,Fcu]
 have hdec:Γ g.T-(i+1)<Γ g.T-i:=Z;have no:(kl g x y k d i&&f i)=false->RowsQ 1 zx st2 (.s (.slice C (qb ((A++(List.range i).filter (λt=>kl g x y k d t&&f t)).take n)).length w)) (qb ((A++(List.range (i+1)).filter (λt=>kl g x y k d t&&f t)).take n)):=λhn=>by rw[hsucc,show [i].filter (λt=>kl g x y k d t&&f t)=[] by simp[hn],Fbq];exact hap2
 have hlt2:i<(blL (Γ g.T) f).length:=by rw[jd];exact G
 refine Qc zb ycc ?_;refine⟨Z,?_⟩;refine Qd ?_;refine⟨Z,?_⟩;refine Qd ?_;refine Qd ?_;refine Qbw ?_;refine Qbx ?_;have τ:(-128<=((i:Nat):Int).tmod g.W-x/\((i:Nat):Int).tmod g.W-x<=128)/\(-128<=((i:Nat):Int).tdiv g.W-y/\((i:Nat):Int).tdiv g.W-y<=128):=Z;generalize((i:Nat):Int).tmod g.W-x=dx at*;generalize((i:Nat):Int).tdiv g.W-y=dy at*;refine Qd ?_;refine Qd ?_;refine zp (λB=>?_) (λB=>?_);rotate_left
 .have B:¬Cn dx dy=d:=λe=>B ((zdx dx dy).trans e);refine Qd ?_;exact⟨(i+1,_),hdec,⟨ζ,no (by rw[j,decide_eq_false (λz=>B z.1),Fdz])⟩,⟨Y,Y,Y,Y,Y,Y,Y,Y,Y,O⟩,⟨rfl,O⟩⟩
 have B:Cn dx dy=d:=(zdx dx dy).symm.trans B;refine⟨Z,?_⟩;refine zp (λX=>?_) (λX=>?_);rotate_left
 .refine Qd ?_;exact⟨(i+1,_),hdec,⟨ζ,no (by rw[j,decide_eq_false (λz=>X z.2.1),Fdz])⟩,⟨Y,Y,Y,Y,Y,Y,Y,Y,Y,O⟩,⟨rfl,O⟩⟩
 refine⟨Z,?_⟩;refine zp (λV=>?_) (λV=>?_);rotate_left
 .refine Qd ?_;exact⟨(i+1,_),hdec,⟨ζ,no (by rw[j,decide_eq_false (λz=>V z.2.2),Fdz])⟩,⟨Y,Y,Y,Y,Y,Y,Y,Y,Y,O⟩,⟨rfl,O⟩⟩
 refine⟨i,rfl,J _ (zm hlt2) ?_⟩;rw[Cm G];refine zg (λU=>?_) (λU=>?_);rotate_left
 .refine Qd ?_;exact⟨(i+1,_),hdec,⟨ζ,no (by rw[U,Feg])⟩,⟨Y,Y,Y,Y,Y,Y,Y,Y,Y,O⟩,⟨rfl,O⟩⟩
 have hyes:(kl g x y k d i&&f i)=true:=by rw[j,decide_eq_true ⟨B,X,V⟩,U];rfl
 have D:=tv (A++(List.range i).filter (λt=>kl g x y k d t&&f t)) i n;rw[if_pos ((f9 _ _).1 Z),Faq,show [i]=[i].filter (λt=>kl g x y k d t&&f t) by simp[hyes],<-hsucc,show [i].filter (λt=>kl g x y k d t&&f t)=[i] by simp[hyes]]at D;refine⟨ψ,?_⟩;refine G6 (ie:=ti2) rfl (λ_=>rfl) ψ hap2 (i:Int) rfl (by rw[hlenT2];omega) (λb I L3 q1 q2 q3 q4=>?_);have h9:RowsQ 1 zx (st2.sO b _) _ _:=.inl (.inr ⟨b,I,L3,rfl,zd _ _ _,q2,q3,q4⟩);refine Qd ?_;refine⟨(i+1,_),hdec,⟨ζ,?_⟩,⟨Y,Y,Y,Y,Y,Y,Y,Y,Y,O⟩,⟨rfl,O⟩⟩;dsimp only;rw[D,lz];exact h9
def ygt(g:Gnd)(o:zt g)(l:List Bld)(k:Γ l<=1000000000000)(t:∀b∈l,yh b/\onP g b)(c:Int)(p:c=0\/c=1\/c=2)(a:Int)(i:0<=a/\a<=3)(d:Nat)(f:d<Γ g.T)(n:Nat)(j:n<=1000)(e:Store)(R:Ja)(h:R (yq (qb (Fi g (zn g l c a) a (d:Int) n))) e):
  Jb 322 [.agg (zq g),lst 6 zk l,int c,int a,int d,int n] e R:=
 zeg (ygu g o l k t c p a i d f n j) e R h
def ykv(g:Gnd)(d:zt g)(a b:Bld)(e:yh a/\onP g a)(hb:yh b/\onP g b)(st:Store)(R:Ja)(h:R (V.bool (decide (vy a b))) st):Jb 376 [.agg (zk a),.agg (zk b)] st R:=by unfold yh onP at e hb;unfold zt at d;have c:∀z:Bool,(z=true↔vy a b)->R (V.bool z) st:=λz k=>δ;unfold vy at c;refine Qy 43 func376 ?_;refine Qd ?_;refine bcd (λj=>?_) (λj=>ret (c _ χ));refine Qd ?_;refine bcd (λi=>?_) (λi=>ret (c _ χ));refine Qd ?_;refine bcd (λf=>?_) (λf=>ret (c _ χ));refine Qd ?_;exact ret (c _ (by rw[decide_eq_true_iff];omega))
def ykf(g:Gnd)(d:zt g)(b x:Bld)(hb:yh b/\onP g b)(a:yh x/\onP g x)(p:Nat)(st:Store)(c:st.obj p=Δ (.cells (zk b)))(R:Ja)(h:R (V.bool (decide (vy x b))) st):Jb 375 ([.agg (zk x)]++[ptr p]) st R:=by refine Qy 7 func375 ?_;refine J _ c ?_;exact ykv g d x b a hb _ _ (ret h)
def yqt(b:Bld)(id:Int)(st:Store)(R:Ja)(h:R (int (vf b.id id)) st):Jb 426 [.agg (zk b),int id] st R:=by refine Qy 9 func426 ?_;exact cx b.id id _ _ (ret h)
def ytz(l:List Bld)(hl:Γ l<=1000000000000)(id:Int)(f:∀b∈l,b.id<id)(st:Store)(R:Ja)(h:R (.tup [int (Γ l:Nat),V.bool false]) st):
  Jb 425 [lst 6 zk l,int id,.clos 426 []] st R:=by
 refine Qy 49 func425 ?_
 refine AWp.loop (σ:=Nat) ⟨λs=>[(0,.av (lst 6 zk l)),(1,.av (int id)),(2,.av (.clos 426 [])),(8,.av (int (Γ l:Nat))),(9,.av (int (s))),(10,.av (int (Γ l)))],λ_=>[],
  λs a=>a=st/\s<=Γ l,λs=>Γ l-s⟩ zb ?_ ?_
 .refine⟨0,O,⟨rfl,Fae _⟩,⟨Y,Y,Y,?_,Y,?_,O⟩,O⟩
  .rw[<-zj l];exact Y
  .rw[<-zj l];exact Y
 rintro i a ⟨rfl,k⟩;refine bcd (λj=>?_) (λj=>?_);rotate_left
 .have e:i=Γ l:=Z;subst e;refine bcd (λc=>?_) (λc=>?_)
  .omega
  .exact ret h
 refine Qd ?_;refine⟨ψ,?_⟩;have hmid:(IntKind.u64.wrap ((i)+(Γ l))).fdiv (2^(min (1:Int).toNat IntKind.u64.bits))=(((i+Γ l)/2)):=by
  have p:IntKind.u64.wrap ((i)+(Γ l))=((i+Γ l)):=by grind[IntKind.wrap,IntKind.bits]
  have o:(2)^(min (1:Int).toNat IntKind.u64.bits)=2:=rfl;grind
 have d:(i+Γ l)/2<Γ l:=Z;refine⟨by exact⟨Z,Z⟩,?_⟩;refine⟨(i+Γ l)/2,hmid,J _ (zm d) ?_⟩;refine yqt l[(i+Γ l)/2] id _ _ ?_;have g:vf l[(i+Γ l)/2].id id<0:=by simp_all[vf]
 refine bcd (λc=>?_) (λc=>absurd g c);refine Qd ?_;refine⟨(i+Γ l)/2+1,?_,⟨rfl,Z⟩,⟨Y,Y,Y,Y,?_,Y,O⟩,O⟩
 .grind
 .exact(congrArg (λn:Int=>LV.le (jq .i64 (n+1)) (.av (int (((i+Γ l)/2+1))))) hmid).mpr (Y)
def yt9(l:List Bld)(hl:Γ l<=1000000000000)(id:Int)(a:∀b∈l,b.id<id)(st:Store)(R:Ja)(h:R (.tup [int (Γ l:Nat),V.bool false]) st):Jb 374 [lst 6 zk l,int id] st R:=by refine Qy 11 func374 ?_;exact ytz l hl id a _ _ (ret h)
def ynp{N:Store}{v:AV}{l:List Bld}(p:RowsQ 6 zk N v l)(hl:Γ l<=1000000)(x:Bld)(R:Ja)(h:∀o t,RowsQ 6 zk t o (l++[x])->R o t):Jb 377 [v,int (Γ l:Nat),lst 6 zk [x]] N R:=by
 have d:=p;rcases p with(⟨rfl,rfl⟩|⟨b,n,L,rfl,E,j,w,u⟩)|⟨a,A,rfl,rfl⟩
 .refine Qy 95 func377 ?_;refine⟨rfl,rfl,?_⟩;refine G6 rfl kr ψ d x rfl ψ (λb c i k g f e=>ret (h _ _ (.inl (.inr ⟨b,c,i,rfl,zd _ _ _,g,f,e⟩))))
 .refine Qy 95 func377 ?_;by_cases z:Γ l<n
  .refine⟨Γ l,Γ l,rfl,rfl,Fai _,j,.inl ⟨z,?_⟩⟩;refine zp (λ_=>?_) (λh=>absurd rfl h);refine G6 rfl kr ψ d x rfl Z (λb c i k g f e=>ret (h _ _ (.inl (.inr ⟨b,c,i,rfl,zd _ _ _,g,f,e⟩))))
  .refine⟨Γ l,Γ l,rfl,rfl,Fai _,j,.inr ⟨Z,?_⟩⟩;refine zp (λ_=>?_) (λh=>absurd rfl h);refine G6 rfl kr ψ d x rfl Z (λb c i k g f e=>ret (h _ _ (.inl (.inr ⟨b,c,i,rfl,zd _ _ _,g,f,e⟩))))
 .cases a with
  |none=>
   refine Qy 95 func377 ?_;refine⟨rfl,rfl,?_⟩;refine G6 rfl kr ψ d x rfl ψ (λb c i k g f e=>ret (h _ _ (.inl (.inr ⟨b,c,i,rfl,zd _ _ _,g,f,e⟩))))
  |some y=>
   obtain⟨D,C,B⟩:=y;have:=A _ rfl;subst this;refine Qy 95 func377 ?_;refine⟨0,0,rfl,rfl,Fai _,Fai _,.inr ⟨rfl,?_⟩⟩;refine G6 rfl kr ψ d x rfl ψ (λb c i k g f e=>ret (h _ _ (.inl (.inr ⟨b,c,i,rfl,zd _ _ _,g,f,e⟩))))
def mq{N:Store}{v:AV}{l:List Bld}(d:RowsQ 6 zk N v l){a M:BB}{w:World}(sto:StoreOK N a M w){x:Value}(c:VRel w (λb o=>M b o\/a b o) v x):VRel w (λb o=>(M b o\/a b o)/\N.obj b=Θ) (lst 6 zk l) x:=d.borrow kr Sj sto c
def yt2(g:Gnd)(w:zt g)(l:List Bld)(Q:Γ l<=256)(t:∀b∈l,yh b/\onP g b)(b:Bld)(y:yh b)(u:∀x∈l,x.id<b.id):
  Jb 288 [.agg (zq g),lst 6 zk l,.agg (zk b)] Store.empty λr S=>(qm g l b≠0/\r=.tup [.s (.slice Θ 0 0),int (qm g l b)])\/(qm g l b=0/\∃v,RowsQ 6 zk S v (l++[b])/\r=.tup [v,int 0]):=by
 refine Qa (c:=cfg 48 [5] []) zb func288 ?_;intro p P;have a:(Store.empty.sO p (.cells (zk b))).obj p=Δ (.cells (zk b)):=zd _ _ _
 have bad:∀n:Int,n≠0->qm g l b=n->∃r d,AV.le (.tup [.s (.slice Θ 0 0),int n]) r/\(Store.empty.sO p (.cells (zk b))).Has d/\((qm g l b≠0/\r=.tup [.s (.slice Θ 0 0),int (qm g l b)])\/(qm g l b=0/\∃v,RowsQ 6 zk d v (l++[b])/\r=.tup [v,int 0])):=λn C e=>
  ret (.inl ⟨by rw[e];exact C,by rw[e]⟩)
 refine J _ a ?_;refine yt9 l Z b.id u _ _ ?_;refine J _ a ?_;refine zhu b _ _ (λz i=>?_);refine ya ?_;refine zg (λL=>?_) (λL=>δ);refine J _ a ?_;refine zhn g b w y _ _ (λz i=>?_);refine ya ?_;refine zg (λA=>?_) (λA=>?_);rotate_left
 .have k:¬onP g b:=λT=>by grind
  exact bad 3 ψ (by unfold qm;rw[if_pos k])
 have f:=i.1 A;refine zhq l Z _ _ (λx=>decide (vy x b)) _ (λx B R h=>ykf g w b x ⟨y,f⟩ (t x B) p _ a R h) _ ?_;refine zg (λK=>?_) (λK=>?_)
 .have D:∃x∈l,vy x b:=by grind
  exact bad 12 ψ (by simp_all[qm])
 refine J _ a ?_;refine zhv g w b ⟨y,f⟩ _ _ (λz i=>?_);refine ya ?_;refine zg (λI=>?_) (λI=>?_);rotate_left
 .exact bad 5 ψ (by simp_all[qm])
 have hlen:((rws zk l).length)=(Γ l):=by rw[zj]
 refine zp (λH=>?_) (λH=>?_)
 .exact bad 4 ψ (by unfold qm;grind)
 have G:qm g l b=0:=by unfold qm;grind
 refine Qc zb yc8 ?_;refine J (o:=(Store.empty.sO p (.cells (zk b))).obj p) _ a ?_;refine⟨ψ,?_⟩;refine⟨dc l Z _ _ (λv N hv E=>⟨?_,?_⟩),O⟩
 .repeat(first|exact O|refine⟨rfl,?_⟩|refine⟨J (o:=(N.un (Store.empty.sO p (.cells (zk b)))).obj p) _ (zh a) rfl,?_⟩)
 refine⟨ynp (hv.unL E) Z b _ (λM U j=>⟨O,?_⟩),O⟩;refine Qbx ?_;refine Qbx ?_;exact ret (.inr ⟨G,_,j,rfl⟩)
def yt1(g:Gnd)(w:zt g)(l:List Bld)(n:Γ l<=256)(k:∀b∈l,yh b/\onP g b)(b:Bld)(z:yh b)(o:∀x∈l,x.id<b.id)(c:Store)(R:Ja)
  (h:qm g l b≠0->R (.tup [.s (.slice Θ 0 0),int (qm g l b)]) c) (I:qm g l b=0->R (.tup [lst 6 zk (l++[b]),int 0]) c):Jb 288 [.agg (zq g),lst 6 zk l,.agg (zk b)] c R:=by
 have f:=(yt2 g w l n k b z o).frozen (R:=λr=>(qm g l b≠0/\r=.tup [.s (.slice Θ 0 0),int (qm g l b)])\/(qm g l b=0/\r=.tup [lst 6 zk (l++[b]),int 0])) (by
  rintro r S (⟨f,rfl⟩|⟨f,v,t,rfl⟩)
  .simp_all[qq]
  .refine⟨_,.inr ⟨f,rfl⟩,λD M E G sto a=>?_⟩;cases a with
   |tup _ C n d=>
    refine .tup _ C n λi x y a p=>?_
    match i with
    |0=>simp only[Fam,Fak]at a;subst a;exact mq t sto (d 0 _ y rfl p)
    |1=>simp only[Fap,Fam,Fak]at a;subst a;exact qq (d 1 _ y rfl p)
    |i+2=>simp at a)
 have A:Jb 288 [.agg (zq g),lst 6 zk l,.agg (zk b)] Store.empty λr S=>((qm g l b≠0/\r=.tup [.s (.slice Θ 0 0),int (qm g l b)])\/(qm g l b=0/\r=.tup [lst 6 zk (l++[b]),int 0]))/\S=Store.empty:=
  f.post (Store.Le.refl _) λr j u=>⟨r,Store.empty,AV.le_refl r,(Oc j).toLe,u,rfl⟩
 rw[<-jx c];exact ACalls.frame (F4 c) A λr S ⟨e,B⟩ H=>by subst B;rw[jx];grind
def zcy{w:Wld}(c:yd w):∀u∈w.U,u.inn=0->qv u.pos.1 u.pos.2:=λu d e=>by have a:=(xr c).hg;have b:=c.2.1 u d e;have i:=b.1.1;have f:=Cg u.kind;have h:=a.1;have g:=a.2.1;unfold qv;omega
def zi8{F G:Store}{A s p:Nat}{w:Wld}{v:AV}{L:List Ent}{g d a:AV}{c:Cmd}{fv:AV}(C:Work F G A s p w v L g d a c fv)(hm:MayF w)(hn:∀u∈w.U,u.pos.ok)(ς:∀u∈w.U,u.inn=0->qv u.pos.1 u.pos.2)(b:Bld)(hb:yh b/\onP w.G b)(R:Ja)
  (h:∀z Q,(z=true↔Hm w b)->StandR Q G s p w v L g d a->R (V.bool z) (Q.un (svS G s w v g d a p))):Jb 289 [ptr A,.agg (zk b)] (F.un (svS G s w v g d a p)) R:=by
 have hU:=hm.hU;have hx:=C.x (F':=F) (q0:=g) (q1:=d) (q2:=a);have hs:=C.s (F':=F) (q0:=g) (q1:=d) (q2:=a);obtain⟨oa,ι,e,hget⟩:=C.S.hu.form;subst e;refine Qy 62 func289 ?_;refine Qc zb yc7 ?_;refine J (o:=(F.un (svS G s w _ g d a p)).obj A) _ hx ?_;refine J (o:=(F.un (svS G s w _ g d a p)).obj s) _ hs ?_;refine⟨Vg w.G hm.hg b hb _ _ ⟨Qe,?_⟩,O⟩;have hmem:=Ic hm.hg hb.1 hb.2;have hts:=fz w.G.W hb.1;have hmw:Hm w b↔∃t∈Bk w.G.W b,∃u∈w.U,u.inn=0/\jg w.G t.toNat u.pos (zw u.kind):=by
  unfold Hm;constructor
  .rintro⟨t,⟨h1,h2⟩,u,B,M⟩;exact⟨(t:Int),(hmem _).2 ⟨t,rfl,h1,h2⟩,u,B,by rw[Faz];exact M⟩
  .rintro⟨t,ht,u,B,M⟩;obtain⟨n,rfl,h1,h2⟩:=(hmem t).1 ht;rw[Faz]at M;exact⟨n,⟨h1,h2⟩,u,B,M⟩
 generalize Bk w.G.W b=ts at*
 refine AWp.loop (σ:=Nat×Store) ⟨λx=>[(0,.av (ptr A)),(18,.av (yq ts)),(19,.av (int (Γ ts:Nat))),(20,.av (int (x.1:Nat)))],λ_=>[],
  λx y=>x.1<=Γ ts/\y=x.2.un (svS G s w (.s (.slice oa (Γ w.U) ι)) g d a p)/\StandR x.2 G s p w (.s (.slice oa (Γ w.U) ι)) L g d a/\∀j,(I:j<Γ ts)->j<x.1->∀u∈w.U,u.inn=0->¬jg w.G ts[j].toNat u.pos (zw u.kind),λx=>Γ ts-x.1⟩ zb ?_ ?_
 .refine⟨(0,F),O,⟨Fae _,rfl,C.S,λj _ I=>Z⟩,⟨Y,Y,?_,Y,O⟩,O⟩;rw[<-zj (f:=zx) ts];exact Y
 rintro⟨i,P⟩ y ⟨hi,rfl,η,X⟩;dsimp only at hi η X⊢;refine bcd (λh1=>?_) (λh1=>?_);rotate_left
 .refine ret (h false P ?_ η);simp only[Fan,false_iff];rw[hmw];rintro⟨t,ht,u,B,h0,hh⟩;obtain⟨j,I,rfl⟩:=Faj ht;exact X j I Z u B h0 hh
 have ε:i<Γ ts:=Z;obtain⟨n,H,E,hn3⟩:=(hmem ts[i]).1 (Faa ε);have T:=C.x (F':=P) (q0:=g) (q1:=d) (q2:=a);have π:=C.s (F':=P) (q0:=g) (q1:=d) (q2:=a);refine⟨i,rfl,J _ (zm ε) ?_⟩;refine Qc zb yc6 ?_;refine J (o:=(P.un (svS G s w _ g d a p)).obj A) _ T ?_;refine J (o:=(P.un (svS G s w _ g d a p)).obj A) _ T ?_;refine J (o:=(P.un (svS G s w _ g d a p)).obj s) _ π ?_;refine⟨Wt w.G hm.hg n E ts[i] H _ _ ⟨?_,?_⟩,O⟩
 .repeat(first|exact O|refine⟨rfl,?_⟩|refine⟨J (o:=(P.un (svS G s w _ g d a p)).obj A) _ T rfl,?_⟩|refine⟨J (o:=(P.un (svS G s w _ g d a p)).obj s) _ π rfl,?_⟩)
 have htb:=Mx hm.hg E;refine⟨ux η hm.hr Z hn C.hL C.hF (tx w.G n+32768,ty w.G n+32768) ⟨⟨ζ,ζ⟩,⟨ζ,ζ⟩⟩ 65536 ψ _ (λK l hS2 τ hul=>⟨?_,?_⟩),O⟩
 .repeat(first|exact O|refine⟨rfl,?_⟩)
 have ν:=C.x (F':=K) (q0:=g) (q1:=d) (q2:=a);have ο:=C.s (F':=K) (q0:=g) (q1:=d) (q2:=a)
 refine AWp.loop (σ:=Nat) ⟨λk=>[(0,.av (ptr A)),(6,.av (int ts[i])),(18,.av (yq ts)),(19,.av (int (Γ ts:Nat))),(20,.av (int (i:Nat))),(38,.av (lst 10 zf l)),(39,.av (int (Γ l:Nat))),(40,.av (int (k:Nat)))],λ_=>[],
  λk y=>k<=Γ l/\y=K.un (svS G s w (.s (.slice oa (Γ w.U) ι)) g d a p)/\∀j,(I:j<Γ l)->j<k->¬jg w.G n l[j].pos (zw l[j].kind),λk=>Γ l-k⟩ zb ?_ ?_
 .refine⟨0,O,⟨Fae _,rfl,λj _ I=>Z⟩,⟨Y,Y,Y,Y,Y,Y,?_,Y,O⟩,O⟩;rw[<-zj (f:=zf) l];exact Y
 rintro k y ⟨hk,rfl,υ⟩;refine bcd (λh2=>?_) (λh2=>?_);rotate_left
 .refine Qd ?_;refine⟨(i+1,K),?_,⟨ζ,rfl,hS2,λj I hji u B h0 hh=>?_⟩,Qbt,O⟩
  .show Γ ts-(i+1)<Γ ts-i;omega
  .by_cases e:j=i
   .subst e;rw[H,Faz]at hh;have hnear:=yoa hm.hg E (ς u B h0) (Cg u.kind) hh;have hmu:=(τ u).2 ⟨⟨B,h0⟩,hnear⟩;obtain⟨m,hm2,rfl⟩:=Faj hmu;exact υ m hm2 Z hh
   .exact X j I ψl u B h0 hh
 have hkl:k<Γ l:=Z;have D:=(τ l[k]).1 (Faa hkl);refine⟨k,rfl,J _ (zm hkl) ?_⟩;refine Qc zb yc5 ?_;refine J (o:=(K.un (svS G s w _ g d a p)).obj A) _ ν ?_;refine J (o:=(K.un (svS G s w _ g d a p)).obj s) _ ο ?_;refine⟨ky l[k].kind _ _ ⟨?_,?_⟩,O⟩
 .repeat(first|exact O|refine⟨rfl,?_⟩|refine⟨J (o:=(K.un (svS G s w _ g d a p)).obj A) _ ν rfl,?_⟩|refine⟨J (o:=(K.un (svS G s w _ g d a p)).obj s) _ ο rfl,?_⟩)
 have hkr:=Cg l[k].kind;refine⟨zes w.G hm.hg n E ts[i] H l[k].pos (ς _ D.1.1 D.1.2) (zw l[k].kind) ⟨hkr.1,Z⟩ _ _ ⟨O,?_⟩,O⟩;refine bcd (λM=>?_) (λM=>?_)
 .refine ret (h true K ?_ hS2);simp only[true_iff];exact hmw.2 ⟨ts[i],Faa ε,l[k],D.1.1,D.1.2,by rw[H,Faz];exact M⟩
 refine Qd ?_;refine⟨k+1,?_,⟨Z,rfl,λj I hjk=>?_⟩,Qbt,O⟩
 .show Γ l-(k+1)<Γ l-k;omega
 .by_cases e:j=k
  .subst e;exact M
  .exact υ j I Z
end Go.Proofs
namespace Go.Proofs
open Go Go.V
set_option maxRecDepth 20000
set_option maxHeartbeats 4000000
def Wl(w:Wld)(i t:Nat)(a:i<Γ w.U):Wld:={w with U:=w.U.set i (Ax w.U[i] (ye w.G t))}
section
variable {i:Nat} {u:Unt} {w:Wld}
def mj{U:List Unt}{x:Unt}(h:u∈U.set i x):u=x\/u∈U:=by
 rcases List.mem_or_eq_of_mem_set h with h|h
 .exact .inr h
 .exact .inl h
def zdv(h:MayF w)(d:i<Γ w.U)(b:w.U[i].id=u.id)(c:vd u.kind):MayF {w with U:=w.U.set i u}:=
 ⟨h.hg,h.hB,by rw[Faf];exact h.hU,h.hT,h.hb,λx a=>by
  rcases mj (a)with rfl|a
  .exact c
  .exact h.hk x a,V3 h.hr d b,h.hn1,h.hn2⟩
def tc{c:Cmd}(h:wd w c.P c.N≠0):ulE w c=wd w c.P c.N:=by unfold ulE;rw[if_neg h]
def tb{c:Cmd}(h:wd w c.P c.N=0)(a:¬(0<=c.T/\c.T<w.G.W*w.G.H)):ulE w c=3:=by unfold ulE;rw[if_pos h,if_neg a]
def ta{c:Cmd}(h:wd w c.P c.N=0)(b:0<=c.T/\c.T<w.G.W*w.G.H)(a:Fz (ye w.G c.T.toNat) (uAt w c.N).pos):ulE w c=8:=by unfold ulE;rw[if_pos h,if_pos b,if_pos a]
def s9{c:Cmd}(h:wd w c.P c.N=0)(d:0<=c.T/\c.T<w.G.W*w.G.H)(b:¬Fz (ye w.G c.T.toNat) (uAt w c.N).pos)(a:unl c.T (z6 w.U c.N) w=Θ):ulE w c=5:=by unfold ulE;rw[if_pos h,if_pos d,if_neg b,a]
def s8{c:Cmd}(h:wd w c.P c.N=0)(d:0<=c.T/\c.T<w.G.W*w.G.H)(b:¬Fz (ye w.G c.T.toNat) (uAt w c.N).pos){x:Wld}(a:unl c.T (z6 w.U c.N) w=Δ x):ulE w c=0/\ulW w c=x:=by unfold ulE ulW;rw[if_pos h,if_pos d,if_neg b,a];exact⟨rfl,rfl⟩
def zek(c:yw w.U){n id:Int}(h:id∈z6 w.U n):∃i,∃b:i<Γ w.U,qc w.U id=Δ i:=by obtain⟨u,a,rfl⟩:=Fag.1 h;obtain⟨a,_⟩:=Fcc.1 a;obtain⟨i,b,rfl⟩:=Faj a;exact⟨i,b,Mg c b rfl⟩
end
section
variable {w:Wld} {F G:Store} {s p m:Nat} {v o0 o1 o2:AV}
def slO(b:List (Int×List Nat))(c:List Nat)(a:Nat):AObj:=.map (b.map (qa λl=>yq (qb l))) c a
def slV(m:Nat):AV:=.s (.map (Δ m))
def zab(w:Wld)(c:Cmd)(b:List (Int×List Nat)):Prop:=∀a l,qe b a=Δ l->l=qj w a c.T (Γ c.U)
structure MvS(F G G0:Store)(xw s p m:Nat)(w:Wld)(v:AV)(L:List Ent)(n:Nat)(o0 o1 o2:AV)(c:Cmd)(k:Nat)(cs:List (Int×List Nat))(bs:List Nat)(clk:Nat):Prop where
 S:StandR F G s p {w with U:=mvL w c k} v L o0 o1 o2
 keep:∀q,jf v q->q≠m->G.obj q=G0.obj q
 hm:G.obj m=Δ (slO cs bs clk)
 hl:Γ L<=n+k
 ok:∀e∈L,e.2.ok
 sl:zab w c cs
def yml(a:MayF w)(c:Cmd)(k:Nat):MayF {w with U:=mvL w c k}:=
 ⟨a.hg,a.hB,by rw[Bc];exact a.hU,a.hT,a.hb,λu d=>by obtain⟨x,b,_,_,e,_⟩:=zdh d;rw[e];exact a.hk x b,Ws a.hr c k,a.hn1,a.hn2⟩
theorem I6{x:AObj}(h:G.obj m=Δ x)(a:m≠s):(F.un (svS G s w v o0 o1 o2 p)).obj m=Δ x:=zh (by show(G.sO s _).obj m=_;rw[zi a];exact h)
def MvS.upd{t:Store}{l:Nat}{L:List Ent}{n:Nat}{c:Cmd}{k:Nat}{u:List (Int×List Nat)}{y:List Nat}{j:Nat}(h:MvS F G t l s p m w v L n o0 o1 o2 c k u y j)(f:m≠s)(e:jf v m){cs':List (Int×List Nat)}(d:List Nat)(a:Nat)(o:zab w c cs'):
  MvS F (G.sO m (slO cs' d a)) t l s p m w v L n o0 o1 o2 c k cs' d a/\(F.un (svS G s {w with U:=mvL w c k} v o0 o1 o2 p)).sO m (slO cs' d a)=F.un (svS (G.sO m (slO cs' d a)) s {w with U:=mvL w c k} v o0 o1 o2 p):=by
 refine⟨⟨⟨h.S.hc,λi g b=>h.S.hd i g (svS_has.2 ?_),?_,h.S.hu.set e _,h.S.h0,h.S.h1,h.S.h2⟩,λq g b=>?_,zd _ _ _,h.hl,h.ok,o⟩,?_⟩
 .rcases svS_has.1 b with b|b
  .exact .inl b
  .rcases has_setObj_iff.1 b with rfl|b
   .exact .inr (xk h.hm)
   .exact .inr b
 .rw[zi (Ne.symm f)];exact h.S.hs
 .rw[zi b];exact h.keep q g b
 .rw[z8];unfold svS;rw[Fj f]
end
end Go.Proofs
namespace Go.Proofs
open Go Go.V Tryz
set_option maxRecDepth 20000
set_option maxHeartbeats 4000000
section
variable {S N:Store} {fb kc:Nat} {room:Int} {w:Wld}
def yp8{kc:Nat}(i:zl S N)(z:FldAny fb room (kc:Nat) N)(f:MayF w)(c s:Int)(v:Hx c)(t:0<=s/\s<=3)(R:Ja)
  (h:∀b g,zl S g->FldAny fb room (kc:Nat) g->g.obj b=Δ (.cells (jl w.G w.B c s))->R (ptr b) (S.un g)):Jb 62 [ptr fb,.agg (zq w.G),lst 6 zk w.B,int c,int s] (S.un N) R:=by
 have A:=f.hB;have M:=qg f.hg;rw[H3 i];refine ACalls.frame (Iu i) (lw z w.G f.hg Z w.B Z f.hb c s v t (λr S=>∃b,r=ptr b/\FldAny fb room (kc) S/\S.obj b=Δ (.cells (jl w.G w.B c s))) (λL K H o l E p n k a j d y i u=>⟨d,rfl,.inl ⟨_,_,L,K,H,o,l,E,p,n,k,a,j,rfl,y⟩,zh u⟩)) ?_;rintro r I ⟨b,rfl,D,C⟩ e;rw[H3 e];exact h b I (Iu e) D C
def sa{i s p:Nat}{kc:Nat}{v I H E:AV}{c:Cmd}(L:AtW S i s p w v I H E c (j3 fb))(z:zl S N)(M:FldAny fb room (kc:Nat) N)(hm:MayF w)(k:Int)(t:Nat)(K:t<Γ w.G.T)(j:Int)(u:j=(t:Int))(n:Nat)(hn:n<=1000)(R:Ja)
  (h:∀a,zl S a->FldAny fb room (kc:Nat) a->R (yq (qb (qj w k j n))) (S.un a)):Jb 286 [ptr i,int k,int j,int n] (S.un N) R:=by
 subst u;obtain⟨C,hs,hv⟩:=L;obtain⟨Q,P,e,D⟩:=hv.form;subst e;have d:(S.un N).obj i=_:=yf z C;have f:(S.un N).obj s=_:=yf z hs;refine Qy 53 func286 ?_;refine ky k _ _ ?_;refine Qc zb ydd ?_;refine J (o:=(S.un N).obj i) _ d ?_;refine J (o:=(S.un N).obj s) _ f ?_;refine J _ d ?_;refine J _ d ?_;refine J _ f ?_;refine J _ d ?_;refine J _ f ?_;refine⟨yp8 z M hm (yk k) (qn k) (Hp k) (Kl k) _ (λb a g A hb=>?_),O⟩;have l:(S.un a).obj i=_:=yf g C;have y:(S.un a).obj s=_:=yf g hs;refine⟨?_,?_⟩
 .repeat(first|exact O|refine⟨rfl,?_⟩|refine⟨J (o:=(S.un a).obj i) _ l rfl,?_⟩|refine⟨J (o:=(S.un a).obj s) _ y rfl,?_⟩)
 refine J (o:=(S.un a).obj b) _ (zh hb) ?_;refine⟨yvm w.G hm.hg (zn w.G w.B (yk k) (qn k)) (qn k) (Kl k) t K n hn _ _ ⟨Qe,?_⟩,O⟩;refine Qbx ?_;exact ret (h a g A)
end
def zi7{F G N:Store}{y s p X:Nat}{room:Int}{kc:Nat}{w:Wld}{v:AV}{L:List Ent}{j f d:AV}{c:Cmd}(hW:Work F G y s p w v L j f d c (j3 X))(b:zl (F.un (svS G s w v j f d p)) N)(Q:FldAny X room (kc:Nat) N)(hm:MayF w)(hn:∀u∈w.U,u.pos.ok)(hcU:Γ c.U<=64)(R:Ja)
  (h:∀S' N',mvE w c≠0->zl S' N'->FldAny X room (kc:Nat) N'->R (int (mvE w c)) (S'.un N')) (h0:mvE w c=0->∀S' N',Fb S' y s c (j3 X) (mvW w c)->zl S' N'->FldAny X room (kc:Nat) N'->R (int 0) (S'.un N')):Jb 195 [ptr y] ((F.un (svS G s w v j f d p)).un N) R:=by
 have hU:=hm.hU;have hx:=yf b (hW.x (F':=F) (q0:=j) (q1:=f) (q2:=d));have hs:=yf b (hW.s (F':=F) (q0:=j) (q1:=f) (q2:=d));have hr:=(hW.r (F':=F) (q0:=j) (q1:=f) (q2:=d)).unL b;obtain⟨t,a,e,hget⟩:=hW.S.hu.form;subst e;have ha:=qg hm.hg;refine Qb (c:=cfg 94) zb func195 ?_;refine AWp.seq (AWp.of_vc zb ?_);refine AWp.seq (AWp.of_vc zb ?_);refine Qc zb yfg ?_;refine J (o:=((F.un (svS G s w _ j f d p)).un N).obj y) _ hx ?_;refine J (o:=((F.un (svS G s w _ j f d p)).un N).obj s) _ hs ?_;refine J (o:=((F.un (svS G s w _ j f d p)).un N).obj y) _ hx ?_;refine⟨W4 w.G c.T hm.hg _ _ (λz hz=>⟨O,?_⟩),O⟩;refine ya ?_;refine zg (λc2=>?_) (λc2=>?_);rotate_left
 .have:=l9 (w:=w) (c:=c) (λhh=>ψq);rw[this]at h;exact ret (h _ _ ψ b Q)
 have htile:=hz.1 c2;have htn:c.T=((c.T.toNat:Nat):Int):=Z;have htl:c.T.toNat<Γ w.G.T:=Z;have hE:=l8 htile;rw[hE]at h h0;refine AWp.seq (AWp.of_vc zb ?_);refine all_nil ⟨hx,hs,hr⟩ hm.hr Z Z _ (λhe=>?_) (λhe=>?_);rotate_left
 .refine AWp.of_vc zb ?_;refine qd (λc3=>?_) (λc3=>absurd c3 he);exact ret (h _ _ he b Q)
 have hzero:=H0 he;refine AWp.seq (AWp.of_vc zb ?_);refine AWp.seq (AWp.of_vc zb ?_);refine Iy rfl (λm hmf=>?_);have hmf0:=fresh_iff.1 hmf;have hmN:¬N.has m:=λhh=>hmf0 (un_has.2 (.inr hh));obtain⟨ν,e1,π,ε⟩:=hW.add (fresh_iff.2 λhh=>hmf0 (un_has.2 (.inl hh))) (slO [] [] 0);have hmx:m≠y:=λe=>by have:=hmf.1;rw[e,hx]at this;cases this
 have e1':((F.un (svS G s w (.s (.slice t (Γ w.U) a)) j f d p)).un N).sO m (.map [] [] 0)=(F.un (svS (G.sO m (slO [] [] 0)) s w (.s (.slice t (Γ w.U) a)) j f d p)).un N:=by rw[Bx hmN];exact congrArg (Store.un · N) e1
 rw[e1'];have hdN1:zl (F.un (svS (G.sO m (slO [] [] 0)) s w (.s (.slice t (Γ w.U) a)) j f d p)) N:=by rw[<-e1];exact Cl b hmN
 have hmv0:MvS F (G.sO m (slO [] [] 0)) (G.sO m (slO [] [] 0)) y s p m w (.s (.slice t (Γ w.U) a)) L (Γ L) j f d c 0 [] [] 0:=⟨ν.S,λ_ _ _=>rfl,zd _ _ _,Z,Lu hW.hF hn,λkd l hh=>by cases hh⟩
 have υ:=ν.hx;have hox:=ν.ox;have hos:=ν.os;have ς:=ν.ne;have hLl:=hW.hL;generalize G.sO m (slO [] [] 0)=G0 at*;clear hx hs hr b e1 e1' hmf hmf0;refine AWp.meetA (σ:=Unit) ⟨λ_=>[],λ_=>[],λ_ K=>∃S' N',K=Store.un S' N'/\Fb S' y s c (j3 X) (mvW w c)/\zl S' N'/\FldAny X room (kc:Nat) N'⟩ ?_ ?_;rotate_left
 .rintro _ K ⟨S',N',rfl,hd1,hd2,hd3⟩;refine AWp.of_vc zb ?_;exact ret (h0 he _ _ hd1 hd2 hd3)
 refine AWp.seq (AWp.of_vc zb ?_);refine AWp.block ?_
 refine AWp.loopA (σ:=Nat×Store×Store×List Ent×List (Int×List Nat)×List Nat×Nat×Store) ⟨λx=>[(0,.av (ptr y)),(3,.av (lst 10 zf (c.U.map (uAt w)))),(5,.av (slV m)),(35,.av (lst 10 zf (c.U.map (uAt w)))),(36,.av (int (Γ c.U:Nat))),(37,.av (int (x.1:Nat)))],λ_=>[],
  λx K=>x.1<=Γ c.U/\K=(x.2.1.un (svS x.2.2.1 s {w with U:=mvL w c x.1} (.s (.slice t (Γ w.U) a)) j f d p)).un x.2.2.2.2.2.2.2/\(zl (x.2.1.un (svS x.2.2.1 s {w with U:=mvL w c x.1} (.s (.slice t (Γ w.U) a)) j f d p)) x.2.2.2.2.2.2.2/\FldAny X room (kc:Nat) x.2.2.2.2.2.2.2)/\MvS x.2.1 x.2.2.1 G0 y s p m w (.s (.slice t (Γ w.U) a)) x.2.2.2.1 (Γ L) j f d c x.1 x.2.2.2.2.1 x.2.2.2.2.2.1 x.2.2.2.2.2.2.1,λx=>Γ c.U-x.1⟩ ?_ ?_
 .refine⟨(0,F,G0,L,[],[],0,N),O,⟨Fae _,rfl,⟨hdN1,Q⟩,hmv0⟩,⟨Y,Y,Y,Y,?_,Y,O⟩,O⟩;show LV.le (.av (int ((rws zf (c.U.map (uAt w))).length:Nat))) (.av (int (Γ c.U:Nat)));rw[zj,Fas];exact Y
 clear hdN1 Q;rintro⟨k,W,G1,L1,cs,bs,clk,N1⟩ K ⟨hk,rfl,⟨b,Q⟩,P⟩;dsimp only at hk b Q P⊢;refine AWp.seq (AWp.of_vc zb ?_);refine AWp.seq (AWp.of_vc zb ?_);refine bcd (λh1=>?_) (λh1=>?_);rotate_left
 .have:k=Γ c.U:=Z;subst this;have η:G1.obj y=Δ (.cells (wkC s c (j3 X))):=by rw[P.keep y hox (Ne.symm hmx)];exact υ
  exact⟨(),⟨_,N1,rfl,⟨_,j,f,d,p,I6 η ς,zh (By _ _ _ _ _ _ _ _),(I5 P.S.hs P.S.hu).un⟩,b,Q⟩,O,O⟩
 have hlt:k<Γ c.U:=Z;obtain⟨i,hi,hf,hid,hu,how,hin⟩:=C8 (hzero c.U[k] (Faa hlt));have hlm:k<(c.U.map (uAt w)).length:=by rw[Fas];exact hlt
 have hgm:(c.U.map (uAt w))[k]=w.U[i]:=by rw[Fbj,hu]
 have hlU:(c.U.map (uAt w)).length=Γ c.U:=Fas ..;have hsu:∀kd n,qj {w with U:=mvL w c k} kd c.T n=qj w kd c.T n:=λ_ _=>rfl;have hm1:=yml hm c k;refine AWp.seq (AWp.block ?_);refine AWp.seq (AWp.of_vc zb ?_);refine⟨k,rfl,J _ (zm hlm) ?_⟩;rw[hgm]
 refine AWp.meetA (σ:=Store×List (Int×List Nat)×List Nat×Nat×Store) ⟨λ_=>[(0,.av (ptr y)),(3,.av (lst 10 zf (c.U.map (uAt w)))),(5,.av (slV m)),(6,.av (int (k:Nat))),(7,.bx 7 0),(35,.av (lst 10 zf (c.U.map (uAt w)))),(36,.av (int (Γ c.U:Nat))),(37,.av (int (k:Nat)))],λ_=>[(7,zf w.U[i])],
  λx K=>K=(W.un (svS x.1 s {w with U:=mvL w c k} (.s (.slice t (Γ w.U) a)) j f d p)).un x.2.2.2.2/\(zl (W.un (svS x.1 s {w with U:=mvL w c k} (.s (.slice t (Γ w.U) a)) j f d p)) x.2.2.2.2/\FldAny X room (kc:Nat) x.2.2.2.2)/\MvS W x.1 G0 y s p m w (.s (.slice t (Γ w.U) a)) L1 (Γ L) j f d c k x.2.1 x.2.2.1 x.2.2.2.1/\qe x.2.1 w.U[i].kind=Δ (qj w w.U[i].kind c.T (Γ c.U))⟩ ?_ ?_
 .have ι:((W.un (svS G1 s {w with U:=mvL w c k} (.s (.slice t (Γ w.U) a)) j f d p)).un N1).obj m=Δ (slO cs bs clk):=yf b (I6 P.hm ε);have η:G1.obj y=Δ (.cells (wkC s c (j3 X))):=by rw[P.keep y hox (Ne.symm hmx)];exact υ
  have M:(W.un (svS G1 s {w with U:=mvL w c k} (.s (.slice t (Γ w.U) a)) j f d p)).obj y=Δ (.cells (wkC s c (j3 X))):=I6 η ς;have hs1:(W.un (svS G1 s {w with U:=mvL w c k} (.s (.slice t (Γ w.U) a)) j f d p)).obj s=Δ (.cells (svC {w with U:=mvL w c k} (.s (.slice t (Γ w.U) a)) j f d p)):=zh (By _ _ _ _ _ _ _ _);have hr1:RowsQ 10 zf (W.un (svS G1 s {w with U:=mvL w c k} (.s (.slice t (Γ w.U) a)) j f d p)) (.s (.slice t (Γ w.U) a)) (mvL w c k):=(I5 P.S.hs P.S.hu).un;refine AWp.of_vc zb ?_;refine Bi rfl (it:=ti270) (ie:=ti63) (ik:=ti2) rfl rfl rfl rfl ι rfl (qA w.U[i].kind) (λe he=>?_) ?_
  .obtain⟨e,_,rfl⟩:=Fag.1 he;rfl
  rw[ymu];cases hg:qe cs w.U[i].kind with
  |some l=>
   have hl:=P.sl _ _ hg;rw[hl]at hg;exact⟨(G1,cs,bs,clk,N1),⟨rfl,⟨b,Q⟩,P,hg⟩,Qbt,⟨rfl,O⟩⟩
  |none=>
   dsimp only;refine Qc zb yff ?_;refine J (o:=((W.un (svS G1 s _ _ j f d p)).un N1).obj y) _ (yf b M) ?_;refine⟨sa ⟨M,hs1,hr1⟩ b Q hm1 w.U[i].kind c.T.toNat htl c.T htn (rws zf (c.U.map (uAt w))).length (by rw[zj,hlU];omega) _ (λN2 H hF2=>⟨?_,?_⟩),O⟩
   .repeat(first|exact O|refine⟨rfl,?_⟩|refine⟨J (o:=((W.un (svS G1 s _ _ j f d p)).un N2).obj y) _ (yf H M) rfl,?_⟩)
   have ι:((W.un (svS G1 s {w with U:=mvL w c k} (.s (.slice t (Γ w.U) a)) j f d p)).un N2).obj m=Δ (slO cs bs clk):=yf H (I6 P.hm ε);rw[hsu,zj,hlU];refine⟨F6 (.inl rfl) rfl (it:=ti270) (ik:=ti2) rfl rfl rfl (es:=cs.map (qa λl=>yq (qb l))) (bs:=bs) (clk:=clk) (k:=int w.U[i].kind) (v:=yq (qb (qj w w.U[i].kind c.T (Γ c.U)))) ι rfl rfl (qA w.U[i].kind) (λe he=>?_) (λe1 he hq=>?_) ?_,O⟩
   .obtain⟨e,_,rfl⟩:=Fag.1 he;rfl
   .obtain⟨V,_,rfl⟩:=Fag.1 he;have:w.U[i].kind=V.1:=by simpa [qA,qa,int]using hq
    show int V.1=_;rw[this]
   obtain⟨bs',τ,B⟩:=L8 (λl=>yq (qb l)) cs bs clk w.U[i].kind (qj w w.U[i].kind c.T (Γ c.U));have B:Aa (cs.map (qa λl=>yq (qb l))) bs clk (qA w.U[i].kind) (int w.U[i].kind) (yq (qb (qj w w.U[i].kind c.T (Γ c.U))))=slO (yz cs w.U[i].kind (qj w w.U[i].kind c.T (Γ c.U))) bs' τ:=B;obtain⟨u1,u2⟩:=P.upd ε π (cs':=yz cs w.U[i].kind (qj w w.U[i].kind c.T (Γ c.U))) bs' τ (λkd l hh=>by
    rw[Dr]at hh;by_cases e:kd=w.U[i].kind
    .rw[if_pos e]at hh;rw[e];exact(Option.some.inj hh).symm
    .rw[if_neg e]at hh;exact P.sl kd l hh)
   have hdj:=Cl (x:=slO (yz cs w.U[i].kind (qj w w.U[i].kind c.T (Γ c.U))) bs' τ) H (H m (xk (I6 P.hm ε)));rw[u2]at hdj;rw[B,Bx (H m (xk (I6 P.hm ε))),u2];refine⟨O,(_,_,_,_,N2),⟨rfl,⟨hdj,hF2⟩,u1,?_⟩,⟨Y,Y,Y,Y,Y,Y,Y,Y,O⟩,⟨rfl,O⟩⟩;rw[Dr,if_pos rfl]
 clear b Q;rintro⟨G2,cs2,bs2,clk2,N2⟩ _ ⟨rfl,⟨b,Q⟩,A,hg2⟩;dsimp only at b Q A hg2⊢;have ι:((W.un (svS G2 s {w with U:=mvL w c k} (.s (.slice t (Γ w.U) a)) j f d p)).un N2).obj m=Δ (slO cs2 bs2 clk2):=yf b (I6 A.hm ε);have η:G2.obj y=Δ (.cells (wkC s c (j3 X))):=by rw[A.keep y hox (Ne.symm hmx)];exact υ
 have M:((W.un (svS G2 s {w with U:=mvL w c k} (.s (.slice t (Γ w.U) a)) j f d p)).un N2).obj y=Δ (.cells (wkC s c (j3 X))):=yf b (I6 η ς);have hiL:i<(mvL w c k).length:=by rw[Bc];exact hi
 refine AWp.of_vc zb ?_;refine J (o:=((W.un (svS G2 s _ _ j f d p)).un N2).obj y) _ M ?_;refine Bi rfl (it:=ti270) (ie:=ti63) (ik:=ti2) rfl rfl rfl rfl ι rfl (qA w.U[i].kind) (λe he=>?_) ?_
 .obtain⟨e,_,rfl⟩:=Fag.1 he;rfl
 rw[Ie,hg2];have B:∀g,g=Ao w c k w.U[i].kind->(mvL w c k).set i (mvG g w.U[i])=mvL w c (k+1):=λg hg=>by rw[l5 hlt hf hi,hg]
 have hlen:=Cv (qj w w.U[i].kind c.T (Γ c.U));have hid':(mvL w c k)[i].id=w.U[i].id:=Rn w c k i hi
 have fin:∀{I E D},StandR I E s p {w with U:=mvL w c (k+1)} (.s (.slice t (Γ w.U) a)) D j f d->(∀q,jf (.s (.slice t (Γ w.U) a)) q->E.obj q=G2.obj q)->Γ D<=Γ L1+1->(∀e∈D,e.2.ok)->MvS I E G0 y s p m w (.s (.slice t (Γ w.U) a)) D (Γ L) j f d c (k+1) cs2 bs2 clk2:=λV g2 g3 g4=>
  ⟨V,λq h1 h2=>(g2 q h1).trans (A.keep q h1 h2),(g2 m π).trans A.hm,by have:=A.hl;omega,g4,A.sl⟩
 have hdec:Γ c.U-(k+1)<Γ c.U-k:=Z;have hL1:=A.hl;refine bcd (λc5=>?_) (λc5=>?_)
 .rw[zj,hlen]at c5;have ο:k<(qb (qj w w.U[i].kind c.T (Γ c.U))).length:=by rw[hlen];omega
  have hk3:k<(qj w w.U[i].kind c.T (Γ c.U)).length:=Z;have hg9:(qb (qj w w.U[i].kind c.T (Γ c.U)))[k]=Ao w c k w.U[i].kind:=by rw[l6 hk3];exact Fbj ..
  refine⟨k,rfl,J _ (zm ο) ?_⟩;refine Qc zb zar ?_;refine J (o:=((W.un (svS G2 s _ _ j f d p)).un N2).obj y) _ M ?_;have hpt:=Wb A.S hos (Ws hm.hr c k) (by show(mvL w c k).length<=_;rw[Bc];omega) Z A.ok hiL (mvG ((qb (qj w w.U[i].kind c.T (Γ c.U)))[k]'ο) w.U[i]) hid' (show w.U[i].pos.ok from hn _ (Faa hi)) (λr S=>r=.tup []/\∃I E D,S=I.un (svS E s {w with U:=(mvL w c k).set i (mvG ((qb (qj w w.U[i].kind c.T (Γ c.U)))[k]'ο) w.U[i])} (.s (.slice t (Γ w.U) a)) j f d p)/\StandR I E s p {w with U:=(mvL w c k).set i (mvG ((qb (qj w w.U[i].kind c.T (Γ c.U)))[k]'ο) w.U[i])} (.s (.slice t (Γ w.U) a)) D j f d/\(∀q,jf (.s (.slice t (Γ w.U) a)) q->E.obj q=G2.obj q)/\Γ D<=Γ L1+1/\∀e∈D,e.2.ok) (λI E D V g2 g3 g4=>⟨rfl,I,E,D,rfl,V,g2,g3,g4⟩);refine⟨ACalls.frame b hpt ?_,O⟩;rintro _ _ ⟨rfl,I,E,D,rfl,V,g2,g3,g4⟩ C;refine⟨O,?_⟩;dsimp only at V C⊢;rw[B _ hg9]at V C⊢;refine AWp.of_vc zb ?_;refine Qd ?_;exact⟨(k+1,I,E,D,cs2,bs2,clk2,N2),hdec,⟨ζ,rfl,⟨C,Q⟩,fin V g2 g3 g4⟩,Qbt,O⟩
 .rw[zj,hlen]at c5;have hk3:¬k<(qj w w.U[i].kind c.T (Γ c.U)).length:=Z;have hg9:c.T=Ao w c k w.U[i].kind:=(l7 hk3).symm;refine Qc zb zar ?_;refine J (o:=((W.un (svS G2 s _ _ j f d p)).un N2).obj y) _ M ?_;have hpt:=Wb A.S hos (Ws hm.hr c k) (by rw[Bc];omega) Z A.ok hiL (mvG c.T w.U[i]) hid' (show w.U[i].pos.ok from hn _ (Faa hi)) (λr S=>r=.tup []/\∃I E D,S=I.un (svS E s {w with U:=(mvL w c k).set i (mvG c.T w.U[i])} (.s (.slice t (Γ w.U) a)) j f d p)/\StandR I E s p {w with U:=(mvL w c k).set i (mvG c.T w.U[i])} (.s (.slice t (Γ w.U) a)) D j f d/\(∀q,jf (.s (.slice t (Γ w.U) a)) q->E.obj q=G2.obj q)/\Γ D<=Γ L1+1/\∀e∈D,e.2.ok) (λI E D V g2 g3 g4=>⟨rfl,I,E,D,rfl,V,g2,g3,g4⟩);refine⟨ACalls.frame b hpt ?_,O⟩;rintro _ _ ⟨rfl,I,E,D,rfl,V,g2,g3,g4⟩ C;refine⟨O,?_⟩;rw[B _ hg9]at V C⊢;refine AWp.of_vc zb ?_;refine Qd ?_;exact⟨(k+1,I,E,D,cs2,bs2,clk2,N2),hdec,⟨ζ,rfl,⟨C,Q⟩,fin V g2 g3 g4⟩,Qbt,O⟩
section
variable {F G N:Store} {xw s p fb kc:Nat} {room:Int} {w:Wld} {v o0 o1 o2:AV}
def Qax{p:Prop}(h:p:=by repeat(first|exact O|refine⟨rfl,?_⟩|refine⟨J (o:=((F.un (svS G s w _ o0 o1 o2 p)).un N).obj xw) _ hx rfl,?_⟩|refine⟨J (o:=((F.un (svS G s w _ o0 o1 o2 p)).un N).obj s) _ hs rfl,?_⟩)):p:=h
def zi2{kc:Nat}{L:List Ent}{c:Cmd}(a:Work F G xw s p w v L o0 o1 o2 c (j3 fb))(ι:zl (F.un (svS G s w v o0 o1 o2 p)) N)(hFN:FldAny fb room (kc:Nat) N)(hm:MayF w)(hn:∀u∈w.U,u.pos.ok){i:Nat}(C:i<Γ w.U)(t:Nat)(ht:t<Γ w.G.T)(htI:c.T=(t:Int))(R:Ja)
  (h:∀S' P,Di w w.U[i] c.T=Θ->zl S' P->FldAny fb room (kc:Nat) P->R (V.bool false) (S'.un P))
  (h1:∀E,Di w w.U[i] c.T=Δ E->E<Γ w.G.T->∀n G' L' g f d P,Work n G' xw s p (Wl w i E C) v L' g f d c (j3 fb)->zl (n.un (svS G' s (Wl w i E C) v g f d p)) P->FldAny fb room (kc:Nat) P->R (V.bool true) ((n.un (svS G' s (Wl w i E C) v g f d p)).un P)):Jb 297 [ptr xw,.agg (zf w.U[i])] ((F.un (svS G s w v o0 o1 o2 p)).un N) R:=by
 have hU:=hm.hU;have hB:=hm.hB;have hx:=a.x (F':=F) (q0:=o0) (q1:=o1) (q2:=o2);have hs:=a.s (F':=F) (q0:=o0) (q1:=o1) (q2:=o2);have hr:=a.r (F':=F) (q0:=o0) (q1:=o1) (q2:=o2);obtain⟨B,b,e,hget⟩:=a.S.hu.form;subst e;refine Qy 52 func297 ?_;refine Qc zb yc0 ?_;refine J (o:=((F.un (svS G s w _ o0 o1 o2 p)).un N).obj xw) _ (yf ι hx) ?_;refine⟨sa ⟨hx,hs,hr⟩ ι hFN hm w.U[i].kind t ht c.T htI 64 ψ _ (λD ν π=>⟨?_,?_⟩),O⟩
 .repeat(first|exact O|refine⟨rfl,?_⟩|refine⟨J (o:=((F.un (svS G s w _ o0 o1 o2 p)).un D).obj xw) _ (yf ν hx) rfl,?_⟩)
 have hlen:=uz w w.U[i].kind c.T 64;have hlt3:=λ(E:Nat) (h2:E∈qj w w.U[i].kind c.T 64)=>(Vr h2).1;have hsome:=λ(j:Nat) (W:j<(qj w (w.U[i]'C).kind c.T 64).length)=>zcm (w:=w) (u:=w.U[i]'C) (tile:=c.T) (j:=j) W;have hnone:=zcn (w:=w) (u:=w.U[i]'C) (tile:=c.T);generalize qj w w.U[i].kind c.T 64=sl at*
 refine AWp.loop (σ:=Nat×Store×AV×AV×AV) ⟨λx=>[(0,.av (ptr xw)),(3,.bx 3 0),(16,.av (yq (qb sl))),(17,.av (int (Γ sl:Nat))),(18,.av (int (x.1:Nat)))],λ_=>[(3,zf w.U[i])],
  λx ε=>x.1<=Γ sl/\ε=(x.2.1.un (svS G s w (.s (.slice B (Γ w.U) b)) x.2.2.1 x.2.2.2.1 x.2.2.2.2 p)).un D/\zl (x.2.1.un (svS G s w (.s (.slice B (Γ w.U) b)) x.2.2.1 x.2.2.2.1 x.2.2.2.2 p)) D/\StandR x.2.1 G s p w (.s (.slice B (Γ w.U) b)) L x.2.2.1 x.2.2.2.1 x.2.2.2.2/\∀j,(W:j<Γ sl)->j<x.1->¬qi w w.U[i].id w.U[i].kind (ye w.G sl[j]),λx=>Γ sl-x.1⟩ zb ?_ ?_
 .refine⟨(0,F,o0,o1,o2),O,⟨Fae _,rfl,ν,a.S,λj _ W=>by dsimp only at W;omega⟩,⟨Y,Y,Y,?_,Y,O⟩,⟨rfl,O⟩⟩;show LV.le (.av (int ((rws zx (qb sl)).length:Nat))) (.av (int (Γ sl:Nat)));rw[zj,Cv];exact Y
 rintro⟨j,F1,g,f,d⟩ ε ⟨W,rfl,k,τ,hall⟩;dsimp only at W k τ hall⊢;refine bcd (λc1=>?_) (λc1=>?_);rotate_left
 .exact ret (h _ _ (hnone λj' K=>hall j' K Z) k π)
 have I:j<Γ sl:=Z;have hlt2:j<(qb sl).length:=by rw[Cv];exact I
 have H:=hlt3 _ (Faa I);have hnat:(qb sl)[j]'hlt2=((sl[j]:Nat):Int):=Fbj ..;have η:=a.x (F':=F1) (q0:=g) (q1:=f) (q2:=d);have hs1:=a.s (F':=F1) (q0:=g) (q1:=f) (q2:=d);have ha:=qg hm.hg;refine⟨j,rfl,J _ (zm hlt2) ?_⟩;refine J (o:=((F1.un (svS G s w _ g f d p)).un D).obj xw) _ (yf k η) ?_;refine J (o:=((F1.un (svS G s w _ g f d p)).un D).obj s) _ (yf k hs1) ?_;refine Wt w.G hm.hg sl[j] Z _ hnat _ _ ?_;refine Qc zb ycz ?_;refine J (o:=((F1.un (svS G s w _ g f d p)).un D).obj xw) _ (yf k η) ?_;have hpl:=gk τ hm.hg Z hm.hb hm.hr Z hn a.hL a.hF w.U[i].id w.U[i].kind (ye w.G sl[j]) (Ky hm.hg H) (λr S=>∃z A l a1 a2,r=V.bool z/\S=A.un (svS G s w (.s (.slice B (Γ w.U) b)) l a1 a2 p)/\(z=true↔qi w w.U[i].id w.U[i].kind (ye w.G sl[j]))/\StandR A G s p w (.s (.slice B (Γ w.U) b)) L l a1 a2) (λz A l a1 a2 hz y=>⟨z,A,l,a1,a2,rfl,rfl,hz,y⟩);refine⟨ACalls.frame k hpl ?_,O⟩;rintro _ _ ⟨z,A,l,a1,a2,rfl,rfl,hz,y⟩ M;have υ:=a.x (F':=A) (q0:=l) (q1:=a1) (q2:=a2);have hs2:=a.s (F':=A) (q0:=l) (q1:=a1) (q2:=a2);refine⟨O,?_⟩;refine zg (λc2=>?_) (λc2=>?_);rotate_left
 .refine Qd ?_;refine⟨(j+1,A,l,a1,a2),?_,⟨ζ,rfl,M,y,λj' K hjj=>?_⟩,Qbt,⟨rfl,O⟩⟩
  .show Γ sl-(j+1)<Γ sl-j;omega
  .by_cases e:j'=j
   .subst e;intro hh;have:=hz.2 hh;rw[this]at c2;cases c2
   .exact hall j' K (by dsimp only at hjj;omega)
 have hcl:=hz.1 c2;have hout:=hsome j I (λi' hi' hii=>hall i' hi' hii) hcl;refine Qc zb ycy ?_;refine Qbw ?_;refine Qbx ?_;refine Qc zb ycx ?_;refine J (o:=((A.un (svS G s w _ l a1 a2 p)).un D).obj xw) _ (yf M υ) ?_;have hpt:=la y a.os hm.hr Z (by have:=a.hL;omega) (Lu a.hF hn) C (Ax w.U[i] (ye w.G sl[j])) rfl (Ky hm.hg H) (λr S=>r=.tup []/\∃X Q,S=X.un (svS Q s {w with U:=w.U.set i (Ax w.U[i] (ye w.G sl[j]))} (.s (.slice B (Γ w.U) b)) l a1 a2 p)/\StandR X Q s p {w with U:=w.U.set i (Ax w.U[i] (ye w.G sl[j]))} (.s (.slice B (Γ w.U) b)) (F0 L (Ax w.U[i] (ye w.G sl[j]))) l a1 a2/\∀q,jf (.s (.slice B (Γ w.U) b)) q->Q.obj q=G.obj q) (λX Q g1 g2=>⟨rfl,X,Q,rfl,g1,g2⟩);refine⟨ACalls.frame M hpt ?_,O⟩;rintro _ _ ⟨rfl,X,Q,rfl,g1,g2⟩ hd4;refine⟨O,?_⟩;have ο:=zcz a.hF hm.hr C (u:=Ax w.U[i] (ye w.G sl[j])) rfl;refine ret (h1 sl[j] hout H X Q _ l a1 a2 D ⟨g1,by rw[g2 xw a.ox];exact a.hx,a.ox,a.os,?_,ο⟩ hd4 π);obtain⟨_,_,_,_,_,_,_,_,ς⟩:=g1.hc;exact zc0 ς.n1 ο
def zis{kc:Nat}{L:List Ent}{c:Cmd}(hW:Work F G xw s p w v L o0 o1 o2 c (j3 fb))(d:zl (F.un (svS G s w v o0 o1 o2 p)) N)(f:FldAny fb room (kc:Nat) N)(hm:MayF w)(hn:∀u∈w.U,u.pos.ok)(R:Ja)
  (h:∀V W,ulE w c≠0->zl V W->FldAny fb room (kc:Nat) W->R (int (ulE w c)) (V.un W)) (h0:ulE w c=0->∀V W,Fb V xw s c (j3 fb) (ulW w c)->zl V W->FldAny fb room (kc:Nat) W->R (int 0) (V.un W)):Jb 200 [ptr xw] ((F.un (svS G s w v o0 o1 o2 p)).un N) R:=by
 have hU:=hm.hU;have hx:=yf d (hW.x (F':=F) (q0:=o0) (q1:=o1) (q2:=o2));have hs:=yf d (hW.s (F':=F) (q0:=o0) (q1:=o1) (q2:=o2));have B:=(hW.r (F':=F) (q0:=o0) (q1:=o1) (q2:=o2)).unL d;obtain⟨oa,Q,e,hget⟩:=hW.S.hu.form;subst e;have ha:=qg hm.hg;refine Qy 96 func200 ?_;refine zhd ⟨hx,hs,B⟩ hm.hr Z _ ?_;refine qd (λC=>?_) (λC=>?_)
 .have:=tc C;rw[this]at h;exact ret (h _ _ C d f)
 obtain⟨hask,hroom⟩:=Sg C;obtain⟨ix,hix,hfx,hidx,hux,_,_⟩:=C8 hask;refine Qc zb ye6 ?_;refine J (o:=((F.un (svS G s w _ o0 o1 o2 p)).un N).obj xw) _ hx ?_;refine J (o:=((F.un (svS G s w _ o0 o1 o2 p)).un N).obj s) _ hs ?_;refine J (o:=((F.un (svS G s w _ o0 o1 o2 p)).un N).obj xw) _ hx ?_;refine⟨W4 w.G c.T hm.hg _ _ (λz hz=>⟨O,?_⟩),O⟩;refine Qbx ?_;refine ya ?_;refine zg (λc2=>?_) (λc2=>?_);rotate_left
 .have:=tb C (λhh=>ψq);rw[this]at h;exact ret (h _ _ ψ d f)
 have htile:=hz.1 c2;have ν:c.T=((c.T.toNat:Nat):Int):=Z;have τ:c.T.toNat<Γ w.G.T:=Z;have hup:(uAt w c.N).pos.ok:=td hn c.N;refine Qc zb ye5 ?_;refine J (o:=((F.un (svS G s w _ o0 o1 o2 p)).un N).obj xw) _ hx ?_;refine J (o:=((F.un (svS G s w _ o0 o1 o2 p)).un N).obj s) _ hs ?_;refine J (o:=((F.un (svS G s w _ o0 o1 o2 p)).un N).obj xw) _ hx ?_;refine⟨Wt w.G hm.hg c.T.toNat Z _ ν _ _ ⟨?_,?_⟩,O⟩
 .repeat(first|exact O|refine⟨rfl,?_⟩|refine⟨J (o:=((F.un (svS G s w _ o0 o1 o2 p)).un N).obj xw) _ hx rfl,?_⟩|refine⟨J (o:=((F.un (svS G s w _ o0 o1 o2 p)).un N).obj s) _ hs rfl,?_⟩)
 refine⟨zfz (ye w.G c.T.toNat) (uAt w c.N).pos (Ky hm.hg τ) hup _ _ ⟨Qax,?_⟩,O⟩;refine Qbx ?_;refine bcd (λc3=>?_) (λc3=>?_)
 .have:=ta C htile c3;rw[this]at h;exact ret (h _ _ ψ d f)
 refine Qc zb ye4 ?_;refine J (o:=((F.un (svS G s w _ o0 o1 o2 p)).un N).obj xw) _ hx ?_;refine J (o:=((F.un (svS G s w _ o0 o1 o2 p)).un N).obj s) _ hs ?_;rw[hux,hidx];refine⟨zei B Z c.N _ ⟨Qax,?_⟩,O⟩;have e4:=λh4=>s9 (w:=w) (c:=c) C htile c3 h4;have e5:=λx h4=>s8 (w:=w) (c:=c) C htile c3 (x:=x) h4;have hids:=λid (hid:id∈z6 w.U c.N)=>zek (w:=w) hm.hr hid;have hin:(z6 w.U c.N).length<=Γ w.U:=θl;generalize z6 w.U c.N=ids at*
 refine AWp.loop (σ:=Nat×Wld×Store×Store×List Ent×AV×AV×AV×Store) ⟨λx=>[(0,.av (ptr xw)),(62,.av (yq ids)),(63,.av (int (Γ ids:Nat))),(64,.av (int (x.1:Nat)))],λ_=>[],
  λx ε=>x.1<=Γ ids/\ε=(x.2.2.1.un (svS x.2.2.2.1 s x.2.1 (.s (.slice oa (Γ w.U) Q)) x.2.2.2.2.2.1 x.2.2.2.2.2.2.1 x.2.2.2.2.2.2.2.1 p)).un x.2.2.2.2.2.2.2.2/\(zl (x.2.2.1.un (svS x.2.2.2.1 s x.2.1 (.s (.slice oa (Γ w.U) Q)) x.2.2.2.2.2.1 x.2.2.2.2.2.2.1 x.2.2.2.2.2.2.2.1 p)) x.2.2.2.2.2.2.2.2/\FldAny fb room (kc:Nat) x.2.2.2.2.2.2.2.2)/\Work x.2.2.1 x.2.2.2.1 xw s p x.2.1 (.s (.slice oa (Γ w.U) Q)) x.2.2.2.2.1 x.2.2.2.2.2.1 x.2.2.2.2.2.2.1 x.2.2.2.2.2.2.2.1 c (j3 fb)/\unl c.T (ids.drop x.1) x.2.1=unl c.T ids w/\MayF x.2.1/\(∀u∈x.2.1.U,u.pos.ok)/\Γ x.2.1.U=Γ w.U/\x.2.1.G=w.G/\∀id,qc x.2.1.U id=qc w.U id,λx=>Γ ids-x.1⟩ zb ?_ ?_
 .refine⟨(0,w,F,G,L,o0,o1,o2,N),O,⟨Fae _,rfl,⟨d,f⟩,hW,by rw[Fcr],hm,hn,rfl,rfl,λ_=>rfl⟩,⟨Y,Y,?_,Y,O⟩,O⟩;show LV.le (.av (int ((rws zx ids).length:Nat))) (.av (int (Γ ids:Nat)));rw[zj];exact Y
 clear d f hx hs B;rintro⟨k,wc,D,G1,L1,t,n,l,X⟩ ε ⟨hk,rfl,⟨d,f⟩,A,g,j,E,hl1,M,I⟩;dsimp only at hk d f A g j E hl1 M I⊢;have ι:=A.x (F':=D) (q0:=t) (q1:=n) (q2:=l);have π:=A.s (F':=D) (q0:=t) (q1:=n) (q2:=l);have υ:=A.r (F':=D) (q0:=t) (q1:=n) (q2:=l);have η:=yf d ι;have ο:=yf d π;have ς:=υ.unL d;refine bcd (λh1=>?_) (λh1=>?_);rotate_left
 .have:k=Γ ids:=Z;subst this;rw[Fen]at g;obtain⟨g1,g2⟩:=e5 wc g.symm;rw[g2]at h0;exact ret (h0 g1 _ X ⟨_,t,n,l,p,ι,π,υ⟩ d f)
 have H:k<Γ ids:=Z;obtain⟨iu,hiu,hfu⟩:=hids _ (Faa H);have hiu1:iu<Γ wc.U:=Z;have hfu1:qc wc.U ids[k]=Δ iu:=by rw[I];exact hfu
 rw[Fcs H]at g;refine⟨k,rfl,J _ (zm H) ?_⟩;refine J (o:=((D.un (svS G1 s wc _ t n l p)).un X).obj xw) _ η ?_;refine J (o:=((D.un (svS G1 s wc _ t n l p)).un X).obj s) _ ο ?_;refine dq ς Z j.hr ids[k] _ (λi hi z hz=>?_);obtain⟨g1,g2⟩:=zft j.hr hz hi;have hzi:i=iu:=by
  cases z with
  |false=>rw[g2 rfl]at hfu1;cases hfu1
  |true=>rw[g1 rfl]at hfu1;exact Option.some.inj hfu1
 subst hzi;refine J (o:=((D.un (svS G1 s wc _ t n l p)).un X).obj xw) _ η ?_;refine J (o:=((D.un (svS G1 s wc _ t n l p)).un X).obj s) _ ο ?_;have y:=ς.form;obtain⟨oa2,cap2,e2,y⟩:=y;simp only[AV.s.injEq,Value.slice.injEq]at e2;obtain⟨rfl,_,rfl⟩:=e2;obtain⟨b,a,rfl,hob⟩:=y i hiu1;refine⟨i,rfl,hiu,?_⟩;refine J (o:=((D.un (svS G1 s wc _ t n l p)).un X).obj b) _ hob ?_;refine yv (i:=ti72) (row:=zf wc.U[i]) rfl rfl (xx yx hiu1) ?_;refine zi2 A d f j E hiu1 c.T.toNat (by rw[M];exact τ) ν _ (λV N2 hno K P=>?_) (λt2 hso ht2 F2 G2 L2 a0 a1 a2 N2 hW2 K P=>?_)
 .rw[Va hiu1 hfu1 hno]at g;have g5:=e4 g.symm;rw[g5]at h;exact ret (h _ _ ψ K P)
 .rw[S9 hiu1 hfu1 hso]at g;refine Qd ?_;refine⟨(k+1,Wl wc i t2 hiu1,F2,G2,L2,a0,a1,a2,N2),?_,⟨ζ,rfl,⟨K,P⟩,hW2,g,zdv j hiu1 rfl (show vd wc.U[i].kind from j.hk _ (Faa hiu1)),λu hu=>?_,?_,M,λid=>?_⟩,Qbt,O⟩
  .show Γ ids-(k+1)<Γ ids-k;omega
  .rcases mj (show u∈wc.U.set i _ from hu)with rfl|hu
   .exact Ky j.hg ht2
   .exact E u hu
  .show(wc.U.set i _).length=_;rw[Faf];exact hl1
  .show qc (wc.U.set i (Ax wc.U[i] (ye wc.G t2))) id=_;rw[zfr j.hr hiu1 (u:=Ax wc.U[i] (ye wc.G t2)) rfl];exact I id
end
def Qay{p:Prop}(h:p:=by repeat(first|exact O|refine⟨rfl,?_⟩|refine⟨J (o:=S.obj p) _ hp rfl,?_⟩|refine⟨⟨ix,rfl,hix,rfl⟩,?_⟩|refine⟨J (o:=S.obj b) _ hob (yv (i:=ti72) (row:=zf w.U[ix]) rfl rfl (xx yx hix) rfl),?_⟩)):p:=h
def zba(g:Gnd)(t:zt g)(l:List Bld)(p:Γ l<=1000000000000)(v:∀b∈l,yh b/\onP g b)(c:Int)(u:c=0\/c=1\/c=2)(a:Int)(k:0<=a/\a<=3)(d:Nat)(j:d<Γ g.T)(e:Int)(i:e=(d:Int))(n:Nat)(o:n<=1000)(f:Store)(R:Ja)(h:R (yq (qb (Fi g (zn g l c a) a e n))) f):
  Jb 322 [.agg (zq g),lst 6 zk l,int c,int a,int e,int n] f R:=by
 subst i;exact ygt g t l p v c u a k d j n o f R h
def ygf{S:Store}{p:Nat}{w:Wld}{v:AV}(hp:S.obj p=Δ (.cells (zy w v)))(hv:RowsQ 10 zf S v w.U)(ι:jf v p)(hm:MayF w)(hn:∀u∈w.U,u.pos.ok)(c:Cmd)(R:Ja)
  (h:∀S',ulE w c≠0->R (int (ulE w c)) S') (h0:ulE w c=0->∀S' v',S'.obj p=Δ (.cells (zy (ulW w c) v'))->RowsQ 10 zf S' v' (ulW w c).U->R (int 0) S'):Jb 235 [ptr p,.agg (yg c)] S R:=by
 have hU:=hm.hU;have hB:=hm.hB;obtain⟨oa,A,e,ο⟩:=hv.form;subst e;have ha:=qg hm.hg;refine Qb (c:=cfg 146) zb func235 ?_;refine AWp.seq (AWp.of_vc zb ?_);refine AWp.seq (AWp.of_vc zb ?_);refine Qc zb yd6 ?_;refine Qby ?_;refine⟨zb0 hv Z hm.hk c _ ⟨Qe,?_⟩,O⟩;refine Qbx ?_;refine AWp.seq (AWp.of_vc zb ?_);refine qd (λE=>?_) (λE=>?_)
 .have:=tc E;rw[this]at h;exact ret (h _ E)
 obtain⟨hask,hroom⟩:=Sg E;obtain⟨ix,hix,π,hidx,H,_,_⟩:=C8 hask;refine AWp.seq (AWp.of_vc zb ?_);refine Qc zb yd2 ?_;refine Qby ?_;refine⟨Pe w.G c.T hm.hg _ _ (λz hz=>⟨O,?_⟩),O⟩;refine ya ?_;refine zg (λc2=>?_) (λc2=>?_);rotate_left
 .have:=tb E (λhh=>ψq);rw[this]at h;exact ret (h _ ψ)
 have htile:=hz.1 c2;have ε:c.T=((c.T.toNat:Nat):Int):=Z;have I:c.T.toNat<Γ w.G.T:=Z;refine AWp.meetA (σ:=Unit) ⟨λ_=>[(0,.av (ptr p)),(3,.bx 3 0),(6,.bx 6 0)],λ_=>[(3,yg c),(6,zf w.U[ix])],λ_ t=>t=S⟩ ?_ ?_
 .refine AWp.of_vc zb ?_;refine Qc zb yd1 ?_;refine Qby ?_;refine Qby ?_;obtain⟨b,a,e2,hob⟩:=ο ix hix;subst e2;refine⟨He hv Z c.N _ ⟨Qay,?_⟩,⟨Qay,?_⟩,O⟩
  .rw[π];refine⟨ix,rfl,hix,?_⟩;refine Qby ?_;refine yv (i:=ti72) (row:=zf w.U[ix]) rfl rfl (xx yx hix) ?_;refine⟨⟨Qay,?_⟩,O⟩;refine Qbx ?_;exact⟨(),rfl,Qbt,⟨rfl,rfl,O⟩⟩
  .refine⟨He hv Z c.N _ ⟨Qay,?_⟩,O⟩;rw[π];refine⟨ix,rfl,hix,?_⟩;refine Qby ?_;refine yv (i:=ti72) (row:=zf w.U[ix]) rfl rfl (xx yx hix) ?_;refine Qbx ?_;exact⟨(),rfl,Qbt,⟨rfl,rfl,O⟩⟩
 rintro _ S rfl;refine AWp.of_vc zb ?_;refine Qc zb yd0 ?_;refine Qby ?_;refine⟨Kx w.G hm.hg c.T.toNat I _ ε _ _ ⟨Qe,?_⟩,O⟩;refine⟨io (ye w.G c.T.toNat) w.U[ix].pos (Ky hm.hg I) (hn _ (Faa hix)) _ _ ⟨O,?_⟩,O⟩;refine bcd (λc3=>?_) (λc3=>?_)
 .have:=ta E htile (by rw[H];exact c3);rw[this]at h;exact ret (h _ ψ)
 have e4:=λh4=>s9 (w:=w) (c:=c) E htile (by rw[H];exact c3) h4;have e5:=λx h4=>s8 (w:=w) (c:=c) E htile (by rw[H];exact c3) (x:=x) h4;have hids:=λid (hid:id∈z6 w.U c.N)=>zek (w:=w) hm.hr hid;have hin:(z6 w.U c.N).length<=Γ w.U:=θl;refine Qc zb ydz ?_;refine Qby ?_;refine⟨zbd hv Z c.N _ ⟨Qe,?_⟩,O⟩;refine Qbx ?_;generalize z6 w.U c.N=ids at*
 refine AWp.loop (σ:=Nat×Wld×Store) ⟨λx=>[(0,.av (ptr p)),(3,.bx 3 0),(7,.av (yq ids)),(8,.av (int (x.1:Nat)))],λ_=>[(3,yg c)],
  λx t=>x.1<=Γ ids/\t=x.2.2/\x.2.2.obj p=Δ (.cells (zy x.2.1 (.s (.slice oa (Γ w.U) A))))/\RowsQ 10 zf x.2.2 (.s (.slice oa (Γ w.U) A)) x.2.1.U/\unl c.T (ids.drop x.1) x.2.1=unl c.T ids w/\MayF x.2.1/\(∀u∈x.2.1.U,u.pos.ok)/\Γ x.2.1.U=Γ w.U/\x.2.1.G=w.G/\∀id,qc x.2.1.U id=qc w.U id,λx=>Γ ids-x.1⟩ zb ?_ ?_
 .exact⟨(0,w,S),O,⟨Fae _,rfl,hp,hv,by rw[Fcr],hm,hn,rfl,rfl,λ_=>rfl⟩,Qbt,⟨rfl,O⟩⟩
 rintro⟨k,wc,S0⟩ S1 ⟨hk,rfl,hp1,C,n,f,M,τ,X,W⟩;dsimp only at hk hp1 C n f M τ X W⊢;refine zg (λh1=>?_) (λh1=>?_);rotate_left
 .have hkl:k=Γ ids:=qr h1 hk;subst hkl;rw[Fen]at n;obtain⟨g1,g2⟩:=e5 wc n.symm;rw[g2]at h0;exact ret (h0 g1 _ _ hp1 C)
 have hlt:=ql h1;obtain⟨d,hiu,hfu⟩:=hids _ (Faa hlt);have hiu1:d<Γ wc.U:=Z;have hfu1:qc wc.U ids[k]=Δ d:=by rw[W];exact hfu
 rw[Fcs hlt]at n;have L:=C;rcases C with(⟨_,P⟩|⟨b,cap',a,e,ho,hc1,hc2,hc3⟩)|⟨_,_,_,P⟩
 .rw[P]at hiu1;exact absurd hiu1 (Fav d)
 rotate_left
 .rw[P]at hiu1;exact absurd hiu1 (Fav d)
 simp only[AV.s.injEq,Value.slice.injEq]at e;obtain⟨rfl,e7,rfl⟩:=e;have hcap:0<A:=Z;have ς:b≠p:=ι b _ _ rfl hcap;refine Qc zb yd5 ?_;refine Qby ?_;refine Qby ?_;refine⟨k,rfl,J _ (zm hlt) ?_⟩;refine⟨He L Z ids[k] _ ⟨ψp,?_⟩,O⟩;rw[hfu1];refine⟨d,rfl,hiu,?_⟩;refine Qbx ?_;have fld:∀j,(D:j<10)->∀{y:AV},(zf wc.U[d])[j]?=Δ y->(((rws zf wc.U).flatten++a).drop (0+d*10+j)).head?=Δ y:=λj D y hy=>bh hiu1 D hy;refine Qby ?_;refine J (o:=List.head? _) (int wc.U[d].kind) (fld 2 ψ rfl) ?_;refine Df wc.U[d].kind (f.hk _ (Faa hiu1)) _ _ ?_;refine Qc zb yd4 ?_;refine Qby ?_;refine Qby ?_;refine⟨zba wc.G f.hg wc.B (by have:=f.hB;omega) f.hb (yk wc.U[d].kind) (Hp _) (qn wc.U[d].kind) (Kl _) c.T.toNat (by rw[X];exact I) c.T ε 64 ψ _ _ ⟨Qe,?_⟩,O⟩;refine Qbx ?_;have hsu:Fi wc.G (zn wc.G wc.B (yk wc.U[d].kind) (qn wc.U[d].kind)) (qn wc.U[d].kind) c.T 64=qj wc (wc.U[d]'hiu1).kind c.T 64:=rfl;rw[hsu];have hlen:=uz wc wc.U[d].kind c.T 64;have hlt3:=λ(g:Nat) (h2:g∈qj wc wc.U[d].kind c.T 64)=>(Vr h2).1;have hsome:=λ(j:Nat) (D:j<(qj wc (wc.U[d]'hiu1).kind c.T 64).length)=>zcm (w:=wc) (u:=wc.U[d]'hiu1) (tile:=c.T) (j:=j) D;have hnone:=zcn (w:=wc) (u:=wc.U[d]'hiu1) (tile:=c.T);generalize qj wc wc.U[d].kind c.T 64=sl at*
 refine AWp.loop (σ:=Nat×Int) ⟨λx=>[(0,.av (ptr p)),(3,.bx 3 0),(7,.av (yq ids)),(8,.av (int (k:Nat))),(9,.av (.s (.pointer (Δ ⟨b,0+d*10,Θ⟩)))),(11,.av (yq (qb sl))),(12,.av (int x.2)),(13,.av (int (x.1:Nat)))],λ_=>[(3,yg c)],
  λx t=>x.1<=Γ sl/\t=S1/\((x.2=-1/\∀j,(D:j<Γ sl)->j<x.1->¬qi wc wc.U[d].id wc.U[d].kind (ye wc.G sl[j]))\/∃g:Nat,x.2=g/\g<Γ wc.G.T/\Di wc wc.U[d] c.T=Δ g),λx=>Γ sl-x.1⟩ zb ?_ ?_
 .exact⟨(0,-1),O,⟨Fae _,rfl,.inl ⟨rfl,λj _ D=>by dsimp only at D;omega⟩⟩,Qbt,⟨rfl,O⟩⟩
 rintro⟨j,at1⟩ S1 ⟨D,rfl,υ⟩;dsimp only at D υ⊢;rcases υ with⟨rfl,hall⟩|⟨g,rfl,η,hso⟩
 .refine bcd (λc5=>?_) (λc5=>?_);rotate_left
  .rw[zj,Cv]at c5;have hno:=hnone λj' V=>hall j' V Z;rw[Va hiu1 hfu1 hno]at n;have g5:=e4 n.symm;rw[g5]at h;exact ret (h _ ψ)
  rw[zj,Cv]at c5;have Q:j<Γ sl:=Z;have hjl2:j<(qb sl).length:=by rw[Cv];exact Q
  have K:=hlt3 _ (Faa Q);have hnat:(qb sl)[j]'hjl2=((sl[j]:Nat):Int):=Fbj ..;have hdec:Γ sl-(j+1)<Γ sl-j:=Z;refine Qc zb yd3 ?_;refine Qby ?_;refine Qby ?_;refine J (o:=List.head? _) (int wc.U[d].id) (fld 0 ψ rfl) ?_;refine Qby ?_;refine J (o:=List.head? _) (int wc.U[d].kind) (fld 2 ψ rfl) ?_;refine Qby ?_;refine⟨j,rfl,J _ (zm hjl2) ?_⟩;refine⟨Kx wc.G f.hg sl[j] K _ hnat _ _ ⟨(by repeat(first|exact O|refine⟨rfl,?_⟩|refine⟨J (o:=S1.obj p) _ hp1 rfl,?_⟩|refine⟨J (o:=S1.obj b) _ ho (J (o:=List.head? _) _ (fld 0 ψ rfl) rfl),?_⟩|refine⟨J (o:=S1.obj b) _ ho (J (o:=List.head? _) _ (fld 2 ψ rfl) rfl),?_⟩|refine⟨⟨j,rfl,J _ (zm hjl2) rfl⟩,?_⟩)),?_⟩,O⟩;refine⟨zbz L f M wc.U[d].id wc.U[d].kind (f.hk _ (Faa hiu1)) (ye wc.G sl[j]) (Ky f.hg K) _ (λz hz=>⟨O,?_⟩),O⟩;refine zg (λc6=>?_) (λc6=>?_)
  .refine⟨j,rfl,J _ (zm hjl2) ?_⟩;have hout:=hsome j Q (λi' hi' hii=>hall i' hi' hii) (hz.1 c6);refine Qd ?_;exact⟨(j+1,(qb sl)[j]'hjl2),hdec,⟨ζ,rfl,.inr ⟨sl[j],hnat,K,hout⟩⟩,Qbt,⟨rfl,O⟩⟩
  .refine Qd ?_;refine⟨(j+1,-1),hdec,⟨ζ,rfl,.inl ⟨rfl,λj' V hjj=>?_⟩⟩,Qbt,⟨rfl,O⟩⟩;by_cases e:j'=j
   .subst e;intro hh;have:=hz.2 hh;rw[this]at c6;cases c6
   .exact hall j' V (by dsimp only at hjj;omega)
 .rw[S9 hiu1 hfu1 hso]at n;have hk1:MayF {wc with U:=wc.U.set d (Ax wc.U[d] (ye wc.G g))}:=zdv f hiu1 rfl (show vd wc.U[d].kind from f.hk _ (Faa hiu1));have hnn:∀u∈wc.U.set d (Ax wc.U[d] (ye wc.G g)),u.pos.ok:=λu hu=>by
   rcases mj hu with rfl|hu
   .exact Ky f.hg η
   .exact M u hu
  have hff:∀id,qc (wc.U.set d (Ax wc.U[d] (ye wc.G g))) id=qc w.U id:=λid=>by rw[zfr f.hr hiu1 (u:=Ax wc.U[d] (ye wc.G g)) rfl];exact W id
  have ν:(wc.U.set d (Ax wc.U[d] (ye wc.G g))).length=Γ w.U:=by rw[Faf];exact τ
  have u1:RowsQ 10 zf S1 (.s (.slice (Δ ⟨b,0,Θ⟩) (Γ w.U) A)) wc.U:=L;refine bcd (λc5=>?_) (λc5=>?_)
  all_goals
   refine Qby ?_;refine Kx wc.G f.hg g η _ rfl _ _ ?_;refine xh (i:=ti2) (v:=int 0) (b:=b) (o:=0+d*10+8) (l:=(rws zf wc.U).flatten++a) rfl rfl rfl ho (show 0+d*10+8+1<=_ by rw[Fad,qu yx];omega) ?_;have q1:=D8 (x':={wc.U[d]with inn:=0}) (ys:=[int 0]) (j:=8) ho hiu1 ψ rfl;have p1:=(zi (st:=S1) (x:=.cells (zu ((rws zf wc.U).flatten++a) (0+d*10+8) [int 0])) (Ne.symm ς)).trans hp1;generalize S1.sO b _=S2 at q1 p1⊢;refine kh (i:=ti64) (v:=.agg (zr (ye wc.G g))) (xs:=zr (ye wc.G g)) (b:=b) (o:=0+d*10+3) (l:=(rws zf (wc.U.set d {wc.U[d]with inn:=0})).flatten++a) rfl rfl rfl q1 (show 0+d*10+3+2<=_ by rw[Fad,qu yx,Faf];omega) ?_;have q2:=D8 (x':=Ax wc.U[d] (ye wc.G g)) (ys:=zr (ye wc.G g)) (j:=3) q1 (by rw[Faf];exact hiu1) (show 3+2<=10 by decide) (by rw[Fbi];rfl);rw[Fbr]at q2;have p2:=(zi (st:=S2) (x:=.cells (zu ((rws zf (wc.U.set d {wc.U[d]with inn:=0})).flatten++a) (0+d*10+3) (zr (ye wc.G g)))) (Ne.symm ς)).trans p1;generalize S2.sO b _=S3 at q2 p2⊢;refine Qd ?_;refine⟨(k+1,{wc with U:=wc.U.set d (Ax wc.U[d] (ye wc.G g))},S3),?_,⟨ζ,rfl,p2,.inl (.inr ⟨b,A,a,by rw[ν],q2,by rw[Faf];exact hc1,by rw[Faf];exact hc2,hc3⟩),n,hk1,hnn,ν,X,hff⟩,Qbt,⟨rfl,O⟩⟩;show Γ ids-(k+1)<Γ ids-k;omega
def yjf(w:Wld)(k:w.fits)(l:∀u∈w.U,u.pos.ok)(C:Γ w.U<=1000000)(c:Cmd)(A:c.fits)(a:c.K=7):Jb 150 [.agg (zo w),.agg (yg c)] Store.empty (DoQ ulE ulW w c):=by
 refine Qa (c:=cfg 97 [6] []) zb func150 ?_;have bad:(¬yd w\/¬jh c\/w.players<c.P)->DoQ ulE ulW w c (.tup [.agg (zo w),int 1]) Store.empty:=λB=>by have he:=Hw (E:=ulE) (w:=w) (c:=c) B;exact .inl ⟨γ,by rw[he]⟩
 refine Kd w k l _ _ (λz hz=>?_);refine ya ?_;refine zg (λc1=>?_) (λc1=>?_);rotate_left
 .exact ret (bad (.inl λhh=>θo))
 refine Iv c A _ _ (λL hzc=>?_);refine ya ?_;refine zg (λc2=>?_) (λc2=>?_);rotate_left
 .exact ret (bad (.inr (.inl λhh=>θu)))
 refine bcd (λH=>?_) (λH=>?_)
 .exact ret (bad (.inr (.inr Z)))
 have n:=hz.1 c1;have j:=hzc.1 c2;have he:=Ir (E:=ulE) n j (show c.P<=w.players by omega);refine Kv w k C _ _ (λv N hv _=>?_);rw[Dx];have hv:=hv.q;have hoff:=λ(p) (hp:Fresh N p)=>Dj hv (jt (fresh_iff.1 hp)).1;obtain⟨d,b,e,_⟩:=hv.form;subst e;refine λp hp=>?_;refine kh (i:=ti27) (v:=.agg (zy w (.s (.slice d (Γ w.U) b)))) rfl rfl rfl (zd _ _ _) (show 0+8<=8 by decide) ?_;generalize hS:(N.sO p _).sO p _=S;have g:S.obj p=Δ (.cells (zy w (.s (.slice d (Γ w.U) b)))):=θv;have f:RowsQ 10 zf S (.s (.slice d (Γ w.U) b)) w.U:=θw;refine zp (λh=>absurd (a.symm.trans h) ψ) (λ_=>?_);refine zp (λh=>absurd (a.symm.trans h) ψ) (λ_=>?_);refine zp (λh=>absurd (a.symm.trans h) ψ) (λ_=>?_);refine zp (λh=>absurd (a.symm.trans h) ψ) (λ_=>?_);refine zp (λh=>absurd (a.symm.trans h) ψ) (λ_=>?_);refine zp (λh=>absurd (a.symm.trans h) ψ) (λ_=>?_);refine zp (λ_=>?_) (λh=>absurd a h);refine ygf g f (hoff p hp) (xr n) l c _ (λI hE=>?_) (λhE I M D o=>?_)
 .refine qd (λ_=>?_) (λh=>absurd h hE);exact ret (.inl ⟨θx,by rw[he];rfl⟩)
 .obtain⟨y,t,G,_⟩:=o.form;subst G;refine J _ D ?_;exact ret (.inr ⟨he.trans hE,_,o,rfl⟩)
def yim:K8 7 ulE ulW:=λw a b e c d f R h=>Mj (yjf w a b e c d f) R h
def Qaz{p:Prop}(h:p:=by rw[Faf];exact hiL):p:=h
def Qba{p:Prop}(h:p:=by rw[Fbi];rfl):p:=h
def yhr{S:Store}{p:Nat}{w:Wld}{v:AV}(hp:S.obj p=Δ (.cells (zy w v)))(hv:RowsQ 10 zf S v w.U)(H:jf v p)(hm:MayF w)(hn:∀u∈w.U,u.pos.ok)(c:Cmd)(hcU:Γ c.U<=64)(R:Ja)
  (h:∀M,mvE w c≠0->R (int (mvE w c)) M) (h0:mvE w c=0->∀M v',M.obj p=Δ (.cells (zy (mvW w c) v'))->RowsQ 10 zf M v' (mvW w c).U->R (int 0) M):Jb 230 [ptr p,.agg (yg c)] S R:=by
 have hU:=hm.hU;have hB:=hm.hB;obtain⟨oa,A,e,hget⟩:=hv.form;subst e;have ha:=qg hm.hg;refine Qy 95 func230 ?_;refine Qc zb yen ?_;refine Qby ?_;refine⟨Pe w.G c.T hm.hg _ _ (λz hz=>⟨O,?_⟩),O⟩;refine ya ?_;refine zg (λc2=>?_) (λc2=>?_);rotate_left
 .have:=l9 (w:=w) (c:=c) (λhh=>ψq);rw[this]at h;exact ret (h _ ψ)
 have htile:=hz.1 c2;have η:c.T=((c.T.toNat:Nat):Int):=Z;have ι:c.T.toNat<Γ w.G.T:=Z;have hE:=l8 htile;rw[hE]at h h0;refine Qc zb yel ?_;refine Qby ?_;refine⟨zb3 hv Z c Z _ ⟨Qe,?_⟩,O⟩;refine Qbx ?_;refine qd (λc3=>?_) (λc3=>?_)
 .exact ret (h _ c3)
 have hzero:=H0 c3
 refine AWp.loop (σ:=Nat×Store) ⟨λx=>[(0,.av (ptr p)),(3,.bx 3 0),(6,.av (int (x.1:Nat)))],λ_=>[(3,yg c)],
  λx ε=>x.1<=Γ c.U/\ε=x.2/\x.2.obj p=Δ (.cells (zy w (.s (.slice oa (Γ w.U) A))))/\RowsQ 10 zf x.2 (.s (.slice oa (Γ w.U) A)) (mvL w c x.1),λx=>Γ c.U-x.1⟩ zb ?_ ?_
 .exact⟨(0,S),O,⟨Fae _,rfl,hp,hv⟩,Qbt,⟨rfl,O⟩⟩
 rintro⟨k,S0⟩ S1 ⟨hk,rfl,hp1,n⟩;dsimp only at hk hp1 n⊢;refine zg (λh1=>?_) (λh1=>?_);rotate_left
 .have π:k=Γ c.U:=qr h1 hk;subst π;exact ret (h0 c3 _ _ hp1 n)
 have hlt:=ql h1;obtain⟨i,I,hf,hid,hu,how,hin⟩:=C8 (hzero c.U[k] (Faa hlt));obtain⟨d,f⟩:∃d,d=mvL w c k:=⟨_,rfl⟩
 have hiL:i<Γ d:=by rw[f,Bc];exact I
 have hf2:qc d c.U[k]=Δ i:=by rw[f,ylv hm.hr];exact hf
 have hstep:mvL w c (k+1)=d.set i (mvG (Ao w c k w.U[i].kind) w.U[i]):=by rw[f];exact l5 hlt hf I
 have hcore:mvG 0 d[i]=mvG 0 w.U[i]:=by subst f;exact Rm w c k i I
 have ο:Γ d=Γ w.U:=by rw[f];exact Bc w c k
 have hlL2:=Bc w c (k+1);have ς:d[i].kind=w.U[i].kind:=(Kh hcore).2.2.1;rw[<-f]at n;clear f;have τ:=n;rcases n with(⟨_,C⟩|⟨b,cap',a,e,ho,hc1,L,K⟩)|⟨_,_,_,C⟩
 .rw[C]at hiL;exact absurd hiL (Fav i)
 rotate_left
 .rw[C]at hiL;exact absurd hiL (Fav i)
 simp only[AV.s.injEq,Value.slice.injEq]at e;obtain⟨rfl,e7,rfl⟩:=e;have hcap:0<A:=Z;have t:b≠p:=H b _ _ rfl hcap;refine Qc zb yek ?_;refine Qby ?_;refine Qby ?_;refine⟨k,rfl,J _ (zm hlt) ?_⟩;refine⟨He (w:={w with U:=d}) τ ζ c.U[k] _ ⟨ψp,?_⟩,O⟩;dsimp only;rw[hf2];refine⟨i,rfl,I,?_⟩;refine Qbx ?_;have fld:∀j,(hj:j<10)->∀{y:AV},(zf d[i])[j]?=Δ y->(((rws zf d).flatten++a).drop (0+i*10+j)).head?=Δ y:=λj hj y hy=>bh hiL hj hy;refine Qby ?_;refine J (o:=List.head? _) (int d[i].kind) (fld 2 ψ rfl) ?_;rw[ς];refine Df w.U[i].kind (hm.hk _ (Faa I)) _ _ ?_;refine Qc zb yem ?_;refine Qby ?_;refine Qby ?_;refine⟨zba w.G hm.hg w.B Z hm.hb (yk w.U[i].kind) (Hp _) (qn w.U[i].kind) (Kl _) c.T.toNat ι c.T η (rws zx c.U).length θg _ _ ⟨Qe,?_⟩,O⟩;refine Qbx ?_;have ν:Fi w.G (zn w.G w.B (yk w.U[i].kind) (qn w.U[i].kind)) (qn w.U[i].kind) c.T (rws zx c.U).length=qj w w.U[i].kind c.T (Γ c.U):=by rw[zj];rfl
 rw[ν];have e8:Γ d=Γ w.U:=ο;refine xh (i:=ti2) (v:=int c.T) (b:=b) (o:=0+i*10+5) (l:=(rws zf d).flatten++a) rfl rfl rfl ho (show 0+i*10+5+1<=_ by rw[Fad,qu yx];omega) ?_;have q1:=D8 (x':={d[i]with goal:=c.T}) (ys:=[int c.T]) (j:=5) ho hiL (show 5+1<=10 by decide) rfl;have p1:=(zi (st:=S1) (x:=.cells (zu ((rws zf d).flatten++a) (0+i*10+5) [int c.T])) (Ne.symm t)).trans hp1;generalize S1.sO b _=S2 at q1 p1⊢;refine xh (i:=ti2) (v:=int (-1)) (b:=b) (o:=0+i*10+6) (l:=(rws zf (d.set i {d[i]with goal:=c.T})).flatten++a) rfl rfl rfl q1 (show 0+i*10+6+1<=_ by rw[Fad,qu yx,Faf];omega) ?_;have W:=D8 (x':={d[i]with goal:=c.T,next:=-1}) (ys:=[int (-1)]) (j:=6) q1 Qaz ψ Qba;rw[Fbr]at W;have p2:=(zi (st:=S2) (x:=.cells (zu ((rws zf (d.set i {d[i]with goal:=c.T})).flatten++a) (0+i*10+6) [int (-1)])) (Ne.symm t)).trans p1;generalize S2.sO b _=S3 at W p2⊢;refine xh (i:=ti2) (v:=int 0) (b:=b) (o:=0+i*10+7) (l:=(rws zf (d.set i {d[i]with goal:=c.T,next:=-1})).flatten++a) rfl rfl rfl W (show 0+i*10+7+1<=_ by rw[Fad,qu yx,Faf];omega) ?_;have V:=D8 (x':={d[i]with goal:=c.T,next:=-1,stuck:=0}) (ys:=[int 0]) (j:=7) W Qaz ψ Qba;rw[Fbr]at V;have p3:=(zi (st:=S3) (x:=.cells (zu ((rws zf (d.set i {d[i]with goal:=c.T,next:=-1})).flatten++a) (0+i*10+7) [int 0])) (Ne.symm t)).trans p2;generalize S3.sO b _=S4 at V p3⊢;refine xh (i:=ti2) (v:=int 1) (b:=b) (o:=0+i*10+9) (l:=(rws zf (d.set i {d[i]with goal:=c.T,next:=-1,stuck:=0})).flatten++a) rfl rfl rfl V (show 0+i*10+9+1<=_ by rw[Fad,qu yx,Faf];omega) ?_;have E:=D8 (x':=mvG c.T d[i]) (ys:=[int 1]) (j:=9) V Qaz ψ Qba;rw[Fbr]at E;have p4:=(zi (st:=S4) (x:=.cells (zu ((rws zf (d.set i {d[i]with goal:=c.T,next:=-1,stuck:=0})).flatten++a) (0+i*10+9) [int 1])) (Ne.symm t)).trans p3;generalize S4.sO b _=S5 at E p4⊢;have hlen:=Cv (qj w w.U[i].kind c.T (Γ c.U));have fin:∀g,g=Ao w c k w.U[i].kind->d.set i (mvG g d[i])=mvL w c (k+1):=λg X=>by rw[hstep,ylx hcore,X]
 have hdec:Γ c.U-(k+1)<Γ c.U-k:=Z;refine bcd (λc5=>?_) (λc5=>?_)
 .rw[zj,hlen]at c5;have υ:k<(qb (qj w w.U[i].kind c.T (Γ c.U))).length:=by rw[hlen];omega
  have D:k<(qj w w.U[i].kind c.T (Γ c.U)).length:=Z;have hg9:(qb (qj w w.U[i].kind c.T (Γ c.U)))[k]=Ao w c k w.U[i].kind:=by rw[l6 D];exact Fbj ..
  refine⟨k,rfl,J _ (zm υ) ?_⟩;rw[hg9];refine xh (i:=ti2) (v:=int (Ao w c k w.U[i].kind)) (b:=b) (o:=0+i*10+5) (l:=(rws zf (d.set i (mvG c.T d[i]))).flatten++a) rfl rfl rfl E (show 0+i*10+5+1<=_ by rw[Fad,qu yx,Faf];omega) ?_;have q5:=D8 (x':=mvG (Ao w c k w.U[i].kind) d[i]) (ys:=[int (Ao w c k w.U[i].kind)]) (j:=5) E Qaz (show 5+1<=10 by decide) Qba;rw[Fbr,fin _ rfl]at q5;have p5:=(zi (st:=S5) (x:=.cells (zu ((rws zf (d.set i (mvG c.T d[i]))).flatten++a) (0+i*10+5) [int (Ao w c k w.U[i].kind)])) (Ne.symm t)).trans p4;generalize S5.sO b _=S6 at q5 p5⊢;refine Qd ?_;exact⟨(k+1,S6),hdec,⟨ζ,rfl,p5,.inl (.inr ⟨b,A,a,by rw[hlL2],q5,by rw[hlL2];omega,by rw[hlL2,<-e8];exact L,K⟩)⟩,Qbt,⟨rfl,O⟩⟩
 .rw[zj,hlen]at c5;have D:¬k<(qj w w.U[i].kind c.T (Γ c.U)).length:=Z;rw[fin _ (l7 D).symm]at E;refine Qd ?_;exact⟨(k+1,S5),hdec,⟨ζ,rfl,p4,.inl (.inr ⟨b,A,a,by rw[hlL2],E,by rw[hlL2];omega,by rw[hlL2,<-e8];exact L,K⟩)⟩,Qbt,⟨rfl,O⟩⟩
def yjk(w:Wld)(k:w.fits)(l:∀u∈w.U,u.pos.ok)(C:Γ w.U<=1000000)(c:Cmd)(A:c.fits)(j:c.K=2):Jb 150 [.agg (zo w),.agg (yg c)] Store.empty (DoQ mvE mvW w c):=by
 refine Qa (c:=cfg 97 [6] []) zb func150 ?_;have bad:(¬yd w\/¬jh c\/w.players<c.P)->DoQ mvE mvW w c (.tup [.agg (zo w),int 1]) Store.empty:=λB=>by have he:=Hw (E:=mvE) (w:=w) (c:=c) B;exact .inl ⟨γ,by rw[he]⟩
 refine Kd w k l _ _ (λz hz=>?_);refine ya ?_;refine zg (λc1=>?_) (λc1=>?_);rotate_left
 .exact ret (bad (.inl λhh=>θo))
 refine Iv c A _ _ (λL hzc=>?_);refine ya ?_;refine zg (λc2=>?_) (λc2=>?_);rotate_left
 .exact ret (bad (.inr (.inl λhh=>θu)))
 refine bcd (λH=>?_) (λH=>?_)
 .exact ret (bad (.inr (.inr Z)))
 have n:=hz.1 c1;have b:=hzc.1 c2;have he:=Ir (E:=mvE) n b Z;refine Kv w k C _ _ (λv N hv _=>?_);rw[Dx];have hv:=hv.q;have hoff:=λ(p) (hp:Fresh N p)=>Dj hv (jt (fresh_iff.1 hp)).1;obtain⟨d,a,e,_⟩:=hv.form;subst e;refine λp hp=>?_;refine kh (i:=ti27) (v:=.agg (zy w (.s (.slice d (Γ w.U) a)))) rfl rfl rfl (zd _ _ _) (show 0+8<=8 by decide) ?_;generalize hS:(N.sO p _).sO p _=S;have g:S.obj p=Δ (.cells (zy w (.s (.slice d (Γ w.U) a)))):=θv;have f:RowsQ 10 zf S (.s (.slice d (Γ w.U) a)) w.U:=θw;refine zp (λh=>absurd (j.symm.trans h) ψ) (λ_=>?_);refine zp (λ_=>?_) (λh=>absurd j h);refine yhr g f (hoff p hp) (xr n) l c ((Cmd.ok2 j).1 b.1).1.1.2 _ (λI hE=>?_) (λhE I M D o=>?_)
 .refine qd (λ_=>?_) (λh=>absurd h hE);exact ret (.inl ⟨θx,by rw[he];rfl⟩)
 .obtain⟨y,t,G,_⟩:=o.form;subst G;refine J _ D ?_;exact ret (.inr ⟨he.trans hE,_,o,rfl⟩)
def yir:K8 2 mvE mvW:=λw a b e c d f R h=>Mj (yjk w a b e c d f) R h
def zhz{w:Wld}(b:yd w){c:Cmd}(d:jh c)(f:c.K=4)(h:¬1099511627776<=w.next):yh (bdB w c)/\∀x∈w.B,x.id<(bdB w c).id:=by have a:=(Cmd.ok4 f).1 d.1;have mf:=xr b;have:=mf.hn1;have g:=d.2.1;refine⟨⟨by unfold bdB;dsimp only;omega,g,a.2.1,a.2.2⟩,λx e=>?_⟩;have:=(b.1.1.2.2 x e).2;exact this
def zje{F G:Store}{g s p:Nat}{w:Wld}{v:AV}{L:List Ent}{f d a:AV}{c:Cmd}{fv:AV}(y:Work F G g s p w v L f d a c fv)(hm:yd w)(hn:∀u∈w.U,u.pos.ok)(hc:jh c)(hk:c.K=4)(R:Ja)
  (h:∀S',bdE w c≠0->R (int (bdE w c)) S') (h0:bdE w c=0->∀S',Fb S' g s c fv (bdW w c)->R (int 0) S'):Jb 197 [ptr g] (F.un (svS G s w v f d a p)) R:=by
 have mf:=xr hm;have hg:=mf.hg;have hg1:=hg.1;have hg2:=hg.2.1;have υ:=mf.hn2;have hn1:=mf.hn1;have ο:=(Cmd.ok4 hk).1 hc.1;have hT:=ο.1;unfold vh at hT;have j:=y.x (F':=F) (q0:=f) (q1:=d) (q2:=a);have hs:=y.s (F':=F) (q0:=f) (q1:=d) (q2:=a);obtain⟨D,t,e,hget⟩:=y.S.hu.form;subst e;have hq:c.T.tmod w.G.W=c.T%w.G.W:=Fcn hT.1;have hq2:c.T.tdiv w.G.W=c.T/w.G.W:=Fat hT.1;have hq3:0<=c.T/w.G.W/\c.T/w.G.W<=c.T:=⟨Fb3 hT.1 Z,Fc0 _ hT.1⟩
 have bad:∀n:Int,n≠0->bdE w c=n->∀S,R (int n) S:=λn hn e S=>by have:=h S (by rw[e];exact hn);rw[e]at this;exact this
 refine Qy 116 func197 ?_;refine J (o:=(F.un (svS G s w _ f d a p)).obj g) _ j ?_;refine J (o:=(F.un (svS G s w _ f d a p)).obj s) _ hs ?_;refine Qc zb yfd ?_;refine J (o:=(F.un (svS G s w _ f d a p)).obj g) _ j ?_;refine⟨W4 w.G c.T hg _ _ (λz E=>⟨?_,?_⟩),O⟩
 .repeat(first|exact O|refine⟨rfl,?_⟩|refine⟨J (o:=(F.un (svS G s w _ f d a p)).obj g) _ j rfl,?_⟩)
 refine Qbx ?_;refine ya ?_;refine zg (λc1=>?_) (λc1=>?_);rotate_left
 .have π:¬(0<=c.T/\c.T<w.G.W*w.G.H):=λk=>by have:=E.2 k;rw[this]at c1;cases c1
  exact ret (bad 3 ψ (by unfold bdE;rw[if_pos π]) _)
 have ht:=E.1 c1;refine J (o:=(F.un (svS G s w _ f d a p)).obj g) _ j ?_;refine J (o:=(F.un (svS G s w _ f d a p)).obj s) _ hs ?_;refine zp (λc2=>?_) (λc2=>?_)
 .exact ret (bad 4 ψ (by unfold bdE;rw[if_neg (λk=>k ht),if_pos Z]) _)
 have C:¬1099511627776<=w.next:=Z;obtain⟨ι,hid⟩:=zhz hm hc hk C;refine Qc zb yfc ?_;refine J (o:=(F.un (svS G s w _ f d a p)).obj g) _ j ?_;refine J (o:=(F.un (svS G s w _ f d a p)).obj s) _ hs ?_;refine J (o:=(F.un (svS G s w _ f d a p)).obj g) _ j ?_;refine J (o:=(F.un (svS G s w _ f d a p)).obj g) _ j ?_;refine⟨Z,?_⟩;refine J (o:=(F.un (svS G s w _ f d a p)).obj g) _ j ?_;refine⟨Z,?_⟩;refine ze θm ?_;refine J (o:=(F.un (svS G s w _ f d a p)).obj g) _ j ?_;refine J (o:=(F.un (svS G s w _ f d a p)).obj g) _ j ?_;refine⟨⟨?_,?_⟩,O⟩
 .repeat(first|exact O|refine⟨rfl,?_⟩|refine⟨J (o:=(F.un (svS G s w _ f d a p)).obj g) _ j rfl,?_⟩|refine⟨J (o:=(F.un (svS G s w _ f d a p)).obj s) _ hs rfl,?_⟩|refine⟨⟨Z,rfl⟩,?_⟩|refine⟨⟨Z,ze θm rfl⟩,?_⟩)
 refine Qbx ?_;refine Qc zb yfb ?_;refine J (o:=(F.un (svS G s w _ f d a p)).obj g) _ j ?_;refine J (o:=(F.un (svS G s w _ f d a p)).obj s) _ hs ?_;refine⟨yt1 w.G hg w.B mf.hB mf.hb (bdB w c) ι hid _ _ (λA=>⟨?_,?_⟩) (λA=>⟨?_,?_⟩),O⟩
 .repeat(first|exact O|refine⟨rfl,?_⟩|refine⟨J (o:=(F.un (svS G s w _ f d a p)).obj g) _ j rfl,?_⟩|refine⟨J (o:=(F.un (svS G s w _ f d a p)).obj s) _ hs rfl,?_⟩)
 .refine Qbx ?_;refine Qbx ?_;refine qd (λ_=>?_) (λk=>absurd k A);have e1:bdE w c=qm w.G w.B (bdB w c):=by unfold bdE;rw[if_neg (λk=>k ht),if_neg C,if_neg A]
  have:=h (F.un (svS G s w (.s (.slice D (Γ w.U) t)) f d a p)) (by rw[e1];exact A);rw[e1]at this;exact ret this
 .repeat(first|exact O|refine⟨rfl,?_⟩|refine⟨J (o:=(F.un (svS G s w _ f d a p)).obj g) _ j rfl,?_⟩|refine⟨J (o:=(F.un (svS G s w _ f d a p)).obj s) _ hs rfl,?_⟩)
 refine Qbx ?_;refine Qbx ?_;have τ:onP w.G (bdB w c):=Classical.byContradiction λk=>by unfold qm at A;rw[if_pos k]at A;cases A
 have e1:bdE w c=(by classical exact if Hm w (bdB w c)then 5 else 0):=by unfold bdE;rw[if_neg (λk=>k ht),if_neg C,if_pos A]
 refine zi8 y mf hn (zcy hm) (bdB w c) ⟨ι,τ⟩ _ (λz F2 E hS2=>?_);refine zg (λc3=>?_) (λc3=>?_)
 .exact ret (bad 5 ψ (by rw[e1,if_pos (E.1 c3)]) _)
 have ς:¬Hm w (bdB w c):=λk=>by have:=E.2 k;rw[this]at c3;cases c3
 have ν:bdE w c=0:=by rw[e1,if_neg ς]
 have P:=y.x (F':=F2) (q0:=f) (q1:=d) (q2:=a);have V:=y.s (F':=F2) (q0:=f) (q1:=d) (q2:=a);have ε:=y.r (F':=F2) (q0:=f) (q1:=d) (q2:=a);have η:=y.os;have I:=y.ne;generalize F2.un (svS G s w _ f d a p)=S at P V ε⊢;refine Qby ?_;refine xh (i:=ti25) (v:=lst 6 zk (w.B++[bdB w c])) (b:=s) (o:=6) (l:=svC w (.s (.slice D (Γ w.U) t)) f d a p) rfl rfl rfl V (show 6+1<=12 by decide) ?_;have Q:(S.sO s (.cells (zu (svC w (.s (.slice D (Γ w.U) t)) f d a p) 6 [lst 6 zk (w.B++[bdB w c])]))).obj s=Δ (.cells (svC {w with B:=w.B++[bdB w c]} (.s (.slice D (Γ w.U) t)) f d a p)):=zd _ _ _;have M:=(zi (st:=S) (x:=.cells (zu (svC w (.s (.slice D (Γ w.U) t)) f d a p) 6 [lst 6 zk (w.B++[bdB w c])])) I).trans P;have X:=ε.set η (.cells (zu (svC w (.s (.slice D (Γ w.U) t)) f d a p) 6 [lst 6 zk (w.B++[bdB w c])]));generalize S.sO s _=S2 at Q M X⊢;refine Qby ?_;refine Qby ?_;refine ze ζ ?_;refine xh (i:=ti2) (v:=int (w.next+1)) (b:=s) (o:=2) rfl rfl rfl Q (show 2+1<=12 by decide) ?_;exact ret (h0 ν _ ⟨_,f,d,a,p,(zi I).trans M,zd _ _ _,X.set η _⟩)
end Go.Proofs
