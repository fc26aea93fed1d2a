/- Lemmas of thronglaw29; no conditions. -/
import Derived.Test.YtphhbmaalpdnoaaGreatKP
import Derived.Test.YtphhbmaalpdnoaaGreatKO
set_option linter.unusedSimpArgs false
set_option linter.unusedVariables false
set_option linter.defProp false
open List renaming length→Γ
open Option renaming some→Δ,none→Θ
namespace Go.Proofs
open Go Go.V Tryz
set_option maxRecDepth 20000
set_option maxHeartbeats 4000000
def ll(g:Gnd)(x y:Int)(st:Store)(R:Ja)(h:∀z:Bool,(z=true↔onG g x y)->R (bool z) st):Jb 209 [.agg (zq g),int x,int y] st R:=by
 refine Qy 25 func209 ?_;repeat' (first|refine bcd (λ_=>?_) (λ_=>?_)|refine zg (λ_=>?_) (λ_=>?_)|refine Qd ?_|fail)
 all_goals
  refine ret (h _ ?_);unfold onG;simp only[decide_eq_true_eq,decide_eq_false_iff_not,Fan,false_iff,true_iff,beq_iff_eq,bne_iff_ne,beq_eq_false_iff_ne,ne_eq,reduceCtorEq]at*;omega
theorem min2_eq(a b:Int):min2 a b=min a b:=by
 unfold min2;by_cases h:b<a
 .rw[decide_eq_true h];show b=_;omega
 .rw[decide_eq_false h];show a=_;omega
def zcj(g:Gnd)(c:zt g)(f:Nat->Int)(hf:∀t,t<Γ g.T->0<=f t/\f t<=128)(t:Nat)(e:t<Γ g.T)(a:List (Int×Int))(P:∀d∈a,(d.1≠0\/d.2≠0)/\(-1<=d.1/\d.1<=1)/\(-1<=d.2/\d.2<=1))(M:Γ a<=100)(b:Nat)(st:Store)(R:Ja)
  (h:R (.tup []) (st.sO b (.cells (il (Γ g.T) (Mz g f a t))))):Jb 208 [.agg (zq g),blV b (Γ g.T),int t,lst 2 Lb a] (st.sO b (.cells (il (Γ g.T) f))) R:=by
 have hm:=qg c;have G:=Dc c (t:=t) Z;have K:=Ga (t:=t) c.1.1;have A:=Gb (t:=t) c.1.1;have V:=c.1;have U:=c.2.1;unfold Mz at h;have w:∃x,x=(t:Int)%g.W:=⟨_,rfl⟩
 have u:∃y,y=(t:Int)/g.W:=⟨_,rfl⟩
 obtain⟨x,w⟩:=w;obtain⟨y,u⟩:=u;rw[<-w,<-u]at h G;rw[<-w]at K;rw[<-u]at A;refine Qy 63 func208 ?_;refine Qc zb yew ?_;refine⟨Z,?_⟩;refine⟨Z,?_⟩;refine Qd ?_;refine Qbw ?_;refine Qbx ?_
 refine AWp.loop (σ:=Nat) ⟨λi=>[(1,.av (blV b (Γ g.T))),(2,.av (int (t:Nat))),(4,.bx 4 0),(8,.av (int x)),(9,.av (int y)),(21,.av (lst 2 Lb a)),(22,.av (int (Γ a:Nat))),(23,.av (int (i:Nat)))],λ_=>[(4,zq g)],
  λi p=>i<=Γ a/\p=st.sO b (.cells (il (Γ g.T) (setI f t (Bp g f x y (f t) (a.take i))))),λi=>Γ a-i⟩ zb ?_ ?_
 .refine⟨0,O,⟨Fae _,?_⟩,⟨Y,Y,Y,?_,?_,Y,?_,Y,O⟩,⟨rfl,O⟩⟩
  .rw[Fcp];show _=st.sO b (.cells (il (Γ g.T) (setI f t (f t))));rw[ya1]
  .rw[<-K];exact Y
  .rw[<-A];exact Y
  .rw[<-zj (f:=Lb) a];exact Y
 rintro i p ⟨hi,rfl⟩;refine bcd (λh1=>?_) (λh1=>?_);rotate_left
 .have:i=Γ a:=Z;subst this;rw[Fal];exact ret h
 have n:i<Γ a:=Z;have X:=P _ (Faa n);have hv:=li c hf x y (a.take i) (f t) (hf t e);have H:=ykq g f x y (f t) a n;have C:=yoj c f (t:=t) (Bp g f x y (f t) (a.take i)) X.1;rw[<-w,<-u]at C;generalize hV:Bp g f x y (f t) (a.take i)=j at*;have B:(st.sO b (.cells (il (Γ g.T) (setI f t j)))).obj b=Δ (.cells (il (Γ g.T) (setI f t j))):=zd _ _ _;refine⟨i,rfl,J _ (zm n) ?_⟩;refine⟨0,rfl,ψ,?_⟩;refine Qd ?_;refine⟨1,rfl,ψ,?_⟩;refine Qd ?_;refine ll g (x+a[i].1) (y+a[i].2) _ _ (λz I=>?_);have S:=zey c hf (x+a[i].1) (y+a[i].2);have fin:min j (gv g f (x+a[i].1) (y+a[i].2)+1)=Bp g f x y (f t) (a.take (i+1)):=H.symm;refine zg (λD=>?_) (λD=>?_)
 .have k:=I.1 D;obtain⟨e1,L,e3,e4⟩:=Db c k;have hpos:0<=g.W*(y+a[i].2):=Fax Z (by have:=k.2.1;omega);have hval:setI f t j (tl g (x+a[i].1) (y+a[i].2))=gv g f (x+a[i].1) (y+a[i].2):=by
   rw[<-C];unfold gv;rw[if_pos k]
  refine⟨0,rfl,ψ,?_⟩;refine Qd ?_;refine⟨1,rfl,ψ,?_⟩;refine Qd ?_;refine Qd ?_;refine Qd ?_;refine⟨tl g (x+a[i].1) (y+a[i].2),e1.symm,L,?_⟩;refine J _ B (J _ (vk L) ?_);rw[hval];refine⟨t,rfl,e,?_⟩;refine J _ B (J _ (vk e) ?_);rw[Ng];refine Qd ?_;refine⟨t,rfl,e,?_⟩;refine yu (i:=ti2) (v:=int (min2 j (gv g f (x+a[i].1) (y+a[i].2)+1))) (b:=b) (o:=0+t*1) (l:=il (Γ g.T) (setI f t j)) (st2:=st.sO b (.cells (il (Γ g.T) (setI f t (Bp g f x y (f t) (a.take (i+1))))))) rfl rfl rfl B θa ?_ ?_
  .rw[ym,show 0+t*1=t by omega,Ij e,gr,min2_eq,fin]
  refine Qd ?_;refine⟨i+1,?_,⟨Z,rfl⟩,Qbt,⟨rfl,O⟩⟩;show Γ a-(i+1)<Γ a-i;omega
 .have hoff:¬onG g (x+a[i].1) (y+a[i].2):=λQ=>by have:=I.2 Q;rw[this]at D;cases D
  have E:gv g f (x+a[i].1) (y+a[i].2)=0:=if_neg hoff;rw[E]at fin;refine⟨t,rfl,e,?_⟩;refine J _ B (J _ (vk e) ?_);rw[Ng];refine Qd ?_;refine⟨t,rfl,e,?_⟩;refine yu (i:=ti2) (v:=int (min2 j (0+1))) (b:=b) (o:=0+t*1) (l:=il (Γ g.T) (setI f t j)) (st2:=st.sO b (.cells (il (Γ g.T) (setI f t (Bp g f x y (f t) (a.take (i+1))))))) rfl rfl rfl B θa ?_ ?_
  .rw[ym,show 0+t*1=t by omega,Ij e,gr,min2_eq,fin]
  refine Qd ?_;refine⟨i+1,?_,⟨Z,rfl⟩,Qbt,⟨rfl,O⟩⟩;show Γ a-(i+1)<Γ a-i;omega
def Ct(o:Nat->Bool)(t:Nat):Int:=if o t then 128 else 0
def Fm(o:Nat->Bool)(i t:Nat):Int:=if t<i then Ct o t else 0
def zcu(o:Nat->Bool)(n:Nat):∀t,t<n->0<=Ct o t/\Ct o t<=128:=λt _=>by unfold Ct;split<;>decide
def zbl(g:Gnd)(l:List Bld)(c:Int):AV:=lst 1 zx (ilL (Γ g.T) (Ge g (yp g l c)))
def yhn(g:Gnd)(u:zt g)(l:List Bld)(P:Γ l<=1000000000000)(S:∀b∈l,yh b/\onP g b)(c:Int)(p:Store)(R:Ja)(h:R (zbl g l c) p):
  Jb 133 [.agg (zq g),lst 6 zk l,int c] p R:=by
 have W:=qg u;have fwd_ok:∀d∈Oh,(d.1≠0\/d.2≠0)/\(-1<=d.1/\d.1<=1)/\(-1<=d.2/\d.2<=1):=ψ;have bwd_ok:∀d∈Mn,(d.1≠0\/d.2≠0)/\(-1<=d.1/\d.1<=1)/\(-1<=d.2/\d.2<=1):=ψ;refine Qb (c:=cfg 63) zb func133 ?_;refine AWp.seq (AWp.of_vc zb ?_);refine AWp.seq (AWp.of_vc zb ?_);refine Fa rfl (it:=ti63) (ie:=ti2) rfl rfl rfl rfl rfl (n:=(rws u8C g.T).length) ?_ ?_ (λb K=>?_)
 .rw[zj];show 8*_<=_;omega
 .rw[zj];omega
 rw[zj,Rw];refine AWp.meetA (σ:=Unit) ⟨λ_=>[(3,.bx 3 0),(7,.av (blV b (Γ g.T)))],λ_=>[(3,zq g)],λ_ a=>a=p.sO b (.cells (il (Γ g.T) (Ct (yp g l c))))⟩ ?_ ?_
 .refine AWp.of_vc zb ?_;refine Mm g u l P S c _ _ ?_
  refine AWp.loop (σ:=Nat) ⟨λi=>[(3,.bx 3 0),(7,.av (blV b (Γ g.T))),(19,.av (opV g l c)),(20,.av (int (Γ g.T:Nat))),(21,.av (int (i:Nat)))],λ_=>[(3,zq g)],
   λi a=>i<=Γ g.T/\a=p.sO b (.cells (il (Γ g.T) (Fm (yp g l c) i))),λi=>Γ g.T-i⟩ zb ?_ ?_
  .refine⟨0,O,⟨Fae _,?_⟩,⟨Y,Y,Y,?_,Y,O⟩,⟨rfl,O⟩⟩
   .rw[show Fm (yp g l c) 0=λ_=>0 from funext λt=>if_neg (Fav t)]
   .show LV.le (.av (int ((rws jm (blL (Γ g.T) (yp g l c))).length:Nat))) (.av (int (Γ g.T:Nat)));rw[zj,jd];exact Y
  rintro i a ⟨I,rfl⟩;refine bcd (λz=>?_) (λz=>?_);rotate_left
  .have:i=Γ g.T:=Z;subst this;refine⟨(),?_,⟨Y,Y,O⟩,⟨rfl,O⟩⟩;show p.sO b (.cells (il (Γ g.T) (Fm (yp g l c) (Γ g.T))))=p.sO b (.cells (il (Γ g.T) (Ct (yp g l c))));rw[Ik (f:=Fm (yp g l c) (Γ g.T)) (g:=Ct (yp g l c)) λt L=>if_pos L]
  have e:i<Γ g.T:=Z;have M:(p.sO b (.cells (il (Γ g.T) (Fm (yp g l c) i)))).obj b=Δ (.cells (il (Γ g.T) (Fm (yp g l c) i))):=zd _ _ _;have hlt2:i<(blL (Γ g.T) (yp g l c)).length:=by rw[jd];exact e
  have E:∀s,s≠i->Fm (yp g l c) (i+1) s=Fm (yp g l c) i s:=λs V=>by
   unfold Fm;by_cases w:s<i
   .rw[if_pos w,if_pos Z]
   .rw[if_neg w,if_neg Z]
  have G:Fm (yp g l c) (i+1) i=Ct (yp g l c) i:=if_pos Z;refine⟨i,rfl,J _ (zm hlt2) ?_⟩;refine zg (λA=>?_) (λA=>?_)
  .rw[Cm e]at A;refine⟨i,rfl,e,?_⟩;refine yu (i:=ti2) (v:=int 128) (b:=b) (o:=0+i*1) (l:=_) (st2:=p.sO b (.cells (il (Γ g.T) (Fm (yp g l c) (i+1))))) rfl rfl rfl M θa ?_ ?_
   .rw[ym,show 0+i*1=i by omega,<-zel e _ E,G];unfold Ct;rw[if_pos A]
   refine Qd ?_;refine⟨i+1,?_,⟨Z,rfl⟩,Qbt,⟨rfl,O⟩⟩;show Γ g.T-(i+1)<Γ g.T-i;omega
  .rw[Cm e]at A;refine Qd ?_;refine⟨i+1,?_,⟨Z,?_⟩,Qbt,⟨rfl,O⟩⟩
   .show Γ g.T-(i+1)<Γ g.T-i;omega
   .refine congrArg (λf=>p.sO b (.cells (il (Γ g.T) f))) (funext λs=>?_);by_cases w:s=i
    .subst w;rw[G];unfold Ct Fm;rw[if_neg Z,if_neg (by rw[A];decide)]
    .exact(E s w).symm
 rintro _ _ rfl;refine AWp.meetA (σ:=Unit) ⟨λ_=>[(3,.bx 3 0),(7,.av (blV b (Γ g.T)))],λ_=>[(3,zq g)],λ_ a=>a=p.sO b (.cells (il (Γ g.T) (Bl g (Ct (yp g l c)) (Γ g.T))))⟩ ?_ ?_
 .refine AWp.of_vc zb ?_
  refine AWp.loop (σ:=Nat) ⟨λi=>[(3,.bx 3 0),(7,.av (blV b (Γ g.T))),(32,.av (int (Γ g.T:Nat))),(33,.av (int (i:Nat)))],λ_=>[(3,zq g)],
   λi a=>i<=Γ g.T/\a=p.sO b (.cells (il (Γ g.T) (Bl g (Ct (yp g l c)) i))),λi=>Γ g.T-i⟩ zb ?_ ?_
  .exact⟨0,O,⟨Fae _,rfl⟩,Qbt,⟨rfl,O⟩⟩
  rintro i a ⟨I,rfl⟩;refine bcd (λz=>?_) (λz=>?_);rotate_left
  .have:i=Γ g.T:=Z;subst this;exact⟨(),rfl,⟨Y,Y,O⟩,⟨rfl,O⟩⟩
  have e:i<Γ g.T:=Z;refine⟨ψ,?_⟩;refine zcj g u (Bl g (Ct (yp g l c)) i) (ga u (zcu _ _) i I) i e Oh fwd_ok ψ b _ _ ?_;refine Qd ?_;refine⟨i+1,?_,⟨Z,rfl⟩,Qbt,⟨rfl,O⟩⟩;show Γ g.T-(i+1)<Γ g.T-i;omega
 rintro _ _ rfl;have D:=ga u (zcu (yp g l c) (Γ g.T)) (Γ g.T) (Fai _);have hroom:Ge g (yp g l c)=De g (Bl g (Ct (yp g l c)) (Γ g.T)) (Γ g.T) (Γ g.T):=rfl;generalize Bl g (Ct (yp g l c)) (Γ g.T)=FA at*;refine AWp.meetA (σ:=Unit) ⟨λ_=>[(7,.av (blV b (Γ g.T)))],λ_=>[],λ_ a=>a=p.sO b (.cells (il (Γ g.T) (Ge g (yp g l c))))⟩ ?_ ?_
 .refine AWp.of_vc zb ?_;refine Qd ?_
  refine AWp.loop (σ:=Nat) ⟨λj=>[(3,.bx 3 0),(7,.av (blV b (Γ g.T))),(11,.av (int ((Γ g.T:Int)-1-(j:Nat))))],λ_=>[(3,zq g)],
   λj a=>j<=Γ g.T/\a=p.sO b (.cells (il (Γ g.T) (De g FA (Γ g.T) j))),λj=>Γ g.T-j⟩ zb ?_ ?_
  .refine⟨0,O,⟨Fae _,rfl⟩,⟨Y,Y,?_,O⟩,⟨rfl,O⟩⟩;rw[show(Γ g.T:Int)-1-((0:Nat):Int)=(Γ g.T:Int)-1 by omega];exact Y
  rintro j a ⟨Q,rfl⟩;refine bcd (λz=>?_) (λz=>?_);rotate_left
  .have:j=Γ g.T:=Z;subst this;exact⟨(),by rw[hroom],⟨Y,O⟩,O⟩
  have e:j<Γ g.T:=Z;refine⟨ψ,?_⟩;refine ACalls.le (ys:=[.agg (zq g),blV b (Γ g.T),int ((Γ g.T-1-j:Nat):Int),lst 2 Lb Mn]) ⟨Tt,Tt,by rw[show(Γ g.T:Int)-1-(j:Int)=((Γ g.T-1-j:Nat):Int) by omega];exact Tt,Tt,O⟩ ?_;refine zcj g u (De g FA (Γ g.T) j) (t8 u D j Q) (Γ g.T-1-j) Z Mn bwd_ok ψ b _ _ ?_;refine Qd ?_;refine⟨j+1,?_,⟨Z,rfl⟩,⟨Y,Y,?_,O⟩,⟨rfl,O⟩⟩
  .show Γ g.T-(j+1)<Γ g.T-j;omega
  .rw[show(Γ g.T:Int)-1-((j+1:Nat):Int)=(Γ g.T:Int)-1-(j:Nat)-1 by omega];exact Y
 rintro _ _ rfl;refine AWp.freeze (d:=7) (b:=b) (k:=1) (n:=Γ g.T) (rows:=rws zx (ilL (Γ g.T) (Ge g (yp g l c)))) (pad:=[]) rfl ?_ ?_ ?_ (Fai _) ?_ ?_ ?_
 .rw[Fbq,zem];exact zd _ _ _
 .exact K.2
 .rw[zj,Gq]
 .intro B C;obtain⟨x,_,rfl⟩:=Fag.1 C;rfl
 .intro B C y H;obtain⟨x,_,rfl⟩:=Fag.1 C;simp[zx]at H;exact⟨_,H,rfl⟩
 rw[Ml K.1];refine AWp.of_vc zb ?_;exact ret h
def Qai{p:Prop}(h:p:=by repeat(first|exact O|refine⟨rfl,?_⟩|refine⟨⟨i,rfl,hlt,rfl⟩,?_⟩|refine⟨J (o:=List.head? _) _ hx5 rfl,?_⟩|refine⟨J (o:=List.head? _) _ hx6 rfl,?_⟩|refine⟨ze Z rfl,?_⟩|refine⟨⟨Z,rfl⟩,?_⟩)):p:=h
def Ar(g:Gnd)(l:List Bld)(c s:Int)(i t:Nat):Bool:=if t<i then zn g l c s t else false
def yql(g:Gnd)(z:zt g)(l:List Bld)(D:Γ l<=1000000000000)(E:∀b∈l,yh b/\onP g b)(c s:Int)(K:0<=s/\s<=3)(e:Store)(R:Ja)(h:R (Fw g l c s) e):
  Jb 71 [.agg (zq g),lst 6 zk l,int c,int s] e R:=by
 have P:=qg z;refine Qb (c:=cfg 34) zb func71 ?_;refine AWp.seq (AWp.of_vc zb ?_);refine AWp.seq (AWp.of_vc zb ?_);refine Fa rfl (it:=ti68) (ie:=ti4) rfl rfl rfl rfl rfl (n:=(rws u8C g.T).length) ?_ ?_ (λb A=>?_)
 .rw[zj];show 1*_<=_;omega
 .rw[zj];omega
 rw[zj,Kz];refine AWp.meetA (σ:=Unit) ⟨λ_=>[(9,.av (blV b (Γ g.T)))],λ_=>[],λ_ a=>a=e.sO b (.cells (bl (Γ g.T) (zn g l c s)))⟩ ?_ ?_
 .refine AWp.of_vc zb ?_;refine yhn g z l D E c _ _ ?_
  refine AWp.loop (σ:=Nat) ⟨λi=>[(3,.av (int s)),(9,.av (blV b (Γ g.T))),(19,.av (zbl g l c)),(20,.av (int (Γ g.T:Nat))),(21,.av (int (i:Nat)))],λ_=>[],
   λi a=>i<=Γ g.T/\a=e.sO b (.cells (bl (Γ g.T) (Ar g l c s i))),λi=>Γ g.T-i⟩ zb ?_ ?_
  .refine⟨0,O,⟨Fae _,?_⟩,⟨Y,Y,Y,?_,Y,O⟩,O⟩
   .trivial
   .show LV.le (.av (int ((rws zx (ilL (Γ g.T) (Ge g (yp g l c)))).length:Nat))) (.av (int (Γ g.T:Nat)));rw[zj,Gq];exact Y
  rintro i a ⟨M,rfl⟩;refine bcd (λG=>?_) (λG=>?_);rotate_left
  .have:i=Γ g.T:=Z;subst this;refine⟨(),?_,⟨Y,O⟩,O⟩;rw[py (f:=Ar g l c s (Γ g.T)) λt B=>if_pos B]
  have j:i<Γ g.T:=Z;have C:(e.sO b (.cells (bl (Γ g.T) (Ar g l c s i)))).obj b=Δ (.cells (bl (Γ g.T) (Ar g l c s i))):=zd _ _ _;have hlt2:i<(ilL (Γ g.T) (Ge g (yp g l c))).length:=by rw[Gq];exact j
  have H:∀q,q≠i->Ar g l c s (i+1) q=Ar g l c s i q:=λq L=>by unfold Ar;grind
  have I:Ar g l c s (i+1) i=zn g l c s i:=if_pos Z;refine⟨i,rfl,J _ (zm hlt2) ?_⟩;refine⟨i,rfl,j,?_⟩;refine yu (i:=ti4) (v:=V.bool (decide (s<(ilL (Γ g.T) (Ge g (yp g l c)))[i]))) (o:=0+i*1) (st2:=e.sO b (.cells (bl (Γ g.T) (Ar g l c s (i+1))))) rfl rfl rfl C θf ?_ ?_
  .grind[ym,G4,zeo,yoz]
  refine Qd ?_;refine⟨i+1,?_,⟨Z,rfl⟩,Qbt,O⟩;grind
 rintro _ _ rfl;refine AWp.freeze (d:=9) (k:=1) (rows:=rws jm (blL (Γ g.T) (zn g l c s))) (pad:=[]) rfl ?_ ?_ ?_ (Fai _) ?_ ?_ ?_
 .rw[Rg];exact zd _ _ _
 .exact A.2
 .rw[zj,jd]
 .intro p u;obtain⟨x,_,rfl⟩:=Fag.1 u;rfl
 .intro p u y w;obtain⟨x,_,rfl⟩:=Fag.1 u;simp[jm]at w;exact⟨_,w,rfl⟩
 rw[Ml A.1];refine AWp.of_vc zb ?_;exact ret h
def jl(g:Gnd)(l:List Bld)(c s:Int):List AV:=zq g++[int c,Fw g l c s]
def yp1(g:Gnd)(d:zt g)(l:List Bld)(a:Γ l<=1000000000000)(f:∀b∈l,yh b/\onP g b)(c s:Int)(hs:0<=s/\s<=3)(st:Store)(R:Ja)(h:∀b,Fresh st b->R (ptr b) (st.sO b (.cells (jl g l c s)))):
  Jb 74 [.agg (zq g),lst 6 zk l,int c,int s] st R:=by
 refine Qa (c:=cfg 18 [17] []) zb func74 ?_;refine Qc zb ya7 ?_;refine⟨yql g d l a f c s hs _ _ ⟨Qe,?_⟩,O⟩;refine⟨λb e=>⟨Qe,?_⟩,O⟩;refine Qbx ?_;exact ret (h b e)
def Pu(g:Gnd)(f:zt g)(t:Nat)(M:t<Γ g.T)(st:Store)(R:Ja)(h:R (yq (j4 g t)) st):Jb 335 [.agg (zq g),int t] st R:=by
 have hm:=qg f;have u:=Dc f (t:=t) Z;have w:=Ga (t:=t) f.1.1;have o:=Gb (t:=t) f.1.1;have B:=f.1;have A:=f.2.1;unfold j4 at h;generalize(t:Int)%g.W=x at*;generalize(t:Int)/g.W=y at*;have D:∀i,(j:i<8)->-1<=(dirL[i]'j).1/\(dirL[i]'j).1<=1/\-1<=(dirL[i]'j).2/\(dirL[i]'j).2<=1:=ψ;refine Qy 64 func335 ?_
 refine AWp.loop (σ:=Nat×AV) ⟨λs=>[(1,.av (int (t:Nat))),(2,.bx 2 0),(5,.bx 5 0),(6,.bx 6 0),(7,.av s.2),(8,.av (int (s.1:Nat)))],λ_=>[(2,zq g),(5,dirL.map λd=>int d.1),(6,dirL.map λd=>int d.2)],
  λs st'=>s.1<=8/\App 1 st s.2 (rws zx ((dirL.take s.1).map (w9 g x y))) st',λs=>8-s.1⟩ zb ?_ ?_
 .exact⟨(0,_),O,⟨Fae _,App.start 1 st⟩,⟨Y,Y,Y,Y,Y,Y,O⟩,⟨rfl,rfl,rfl,O⟩⟩
 rintro⟨i,v⟩ st' ⟨j,n⟩;dsimp only at j n⊢;refine bcd (λG=>?_) (λG=>?_);rotate_left
 .have:i=8:=Z;subst this;exact⟨_,st,AV.le_trans n.le (Tt),n.has,h⟩
 have hlt:i<8:=Z;have C:=D i hlt;have hx5:((dirL.map λd=>int d.1).drop (0+i*1)).head?=Δ (int (dirL[i]'hlt).1):=by rw[Fb0,show 0+i*1=i by omega,Fau,Fac hlt];rfl
 have hx6:((dirL.map λd=>int d.2).drop (0+i*1)).head?=Δ (int (dirL[i]'hlt).2):=by rw[Fb0,show 0+i*1=i by omega,Fau,Fac hlt];rfl
 have hstep:(dirL.take (i+1)).map (w9 g x y)=(dirL.take i).map (w9 g x y)++[w9 g x y (dirL[i]'hlt)]:=by rw[Fab hlt,Fa8];rfl
 have hlen:((dirL.take i).map (w9 g x y)).length<=8:=by rw[Fas,Fah];exact Nat.min_le_right _ _
 have l:w9 g x y (dirL[i]'hlt)=if onG g (x+(dirL[i]'hlt).1) (y+(dirL[i]'hlt).2)then x+(dirL[i]'hlt).1+g.W*(y+(dirL[i]'hlt).2)else -1:=rfl
 generalize P:dirL[i]'hlt=d at*;refine Qc zb yb2 ?_;refine⟨Z,?_⟩;refine⟨i,rfl,hlt,?_⟩;refine J _ hx5 ?_;refine Qd ?_;refine⟨Z,?_⟩;refine Qd ?_;refine⟨i,rfl,hlt,?_⟩;refine J _ hx6 ?_;refine Qd ?_;refine⟨⟨Qai,?_⟩,O⟩;refine⟨⟨Qai,?_⟩,O⟩;rw[w,o];have app:∀z,z=w9 g x y d->∀v2 st2,App 1 st v2 (rws zx ((dirL.take i).map (w9 g x y))++[zx z]) st2->App 1 st v2 (rws zx ((dirL.take (i+1)).map (w9 g x y))) st2:=λz p v2 st2 a=>by rw[hstep,<-Ni];subst p;exact a
 have out:¬onG g (x+d.1) (y+d.2)->w9 g x y d=-1:=λhn=>by rw[l,if_neg hn]
 have rest:∀{Q:Ja},(∀v2 st2,App 1 st v2 (rws zx ((dirL.take (i+1)).map (w9 g x y))) st2->Q v2 st2)->¬onG g (x+d.1) (y+d.2)->appendK Tryz.prog (cfg 64) st' 3 (.av v) (.av (.lst 1 [[int (-1)]] Θ)) Q:=λE hn=>
  Af (ie:=ti2) (rows':=[zx (-1)]) n rfl rfl ⟨by simp only[zj,Fao,ti2];omega,by simp only[zj,Fao];omega⟩ (λv2 st2 a=>E v2 st2 (app (-1) (out hn).symm v2 st2 a))
 have next:∀v2 st2,App 1 st v2 (rws zx ((dirL.take (i+1)).map (w9 g x y))) st2->∃s:Nat×AV,8-s.1<8-i/\(s.1<=8/\App 1 st s.2 (rws zx ((dirL.take s.1).map (w9 g x y))) st2)/\s=(i+1,v2):=λv2 st2 a=>⟨(i+1,v2),ζ,⟨ζ,a⟩,rfl⟩
 refine bcd (λL=>?_) (λL=>?_)
 .refine⟨ψ,?_⟩;refine rest (λv2 st2 a=>?_) (λe=>by have:=e.1.1;omega);obtain⟨s,c,b,rfl⟩:=next v2 st2 a
  refine Qd ?_;exact⟨(i+1,v2),c,b,Qbt,⟨rfl,rfl,rfl,O⟩⟩
 refine bcd (λK=>?_) (λK=>?_)
 .refine⟨ψ,?_⟩;refine rest (λv2 st2 a=>?_) (λe=>by have:=e.1.2;omega);obtain⟨s,c,b,rfl⟩:=next v2 st2 a
  refine Qd ?_;exact⟨(i+1,v2),c,b,Qbt,⟨rfl,rfl,rfl,O⟩⟩
 refine bcd (λI=>?_) (λI=>?_)
 .refine⟨ψ,?_⟩;refine rest (λv2 st2 a=>?_) (λe=>by have:=e.2.1;omega);obtain⟨s,c,b,rfl⟩:=next v2 st2 a
  refine Qd ?_;exact⟨(i+1,v2),c,b,Qbt,⟨rfl,rfl,rfl,O⟩⟩
 refine bcd (λH=>?_) (λH=>?_)
 .refine⟨ψ,?_⟩;refine rest (λv2 st2 a=>?_) (λe=>by have:=e.2.2;omega);obtain⟨s,c,b,rfl⟩:=next v2 st2 a
  refine Qd ?_;exact⟨(i+1,v2),c,b,Qbt,⟨rfl,rfl,rfl,O⟩⟩
 have k:onG g (x+d.1) (y+d.2):=⟨⟨Z,Z⟩,Z,Z⟩
 obtain⟨U,S,_,_⟩:=Db f k;have hpos:0<=g.W*(y+d.2):=Fax Z Z;refine Qd ?_;refine Qd ?_;refine⟨ψ,?_⟩;refine Af (ie:=ti2) (rows':=[zx (x+d.1+g.W*(y+d.2))]) n ?_ ?_ ⟨?_,?_⟩ (λv2 st2 a=>?_)
 .rfl
 .rfl
 .simp only[zj,Fao,ti2];omega
 .simp only[zj,Fao];omega
 obtain⟨s,c,b,rfl⟩:=next v2 st2 (app _ (by rw[l,if_pos k]) v2 st2 a)
 refine Qd ?_;exact⟨(i+1,v2),c,b,Qbt,⟨rfl,rfl,rfl,O⟩⟩
def Qaj{p:Prop}(h:p:=by rw[wq];omega):p:=h
def inV(g:Gnd)(o:Nat->Bool)(r:Nat):AV:=lst 1 jm (blL (Γ g.T) (sqT g o r))
def gS(a:Store)(g:Gnd)(d c:Nat)(f:Nat->Int)(b:Nat->Bool):Store:=(a.sO d (.cells (il (Γ g.T) f))).sO c (.cells (bl (Γ g.T) b))
def yia(g:Gnd)(S:zt g)(l:List Bld)(hl:Γ l<=1000000000000)(hb:∀b∈l,yh b/\onP g b)(c:Int)(hc:c=0\/c=1\/c=2)(z:Store)(R:Ja)
  (h:∀f,bk g (yp g l c) f->R (lst 1 zx (ilL (Γ g.T) f)) z):Jb 403 [.agg (zq g),lst 6 zk l,int c] z R:=by
 have ha:=qg S;refine Qb (c:=cfg 79) zb func403 ?_;refine AWp.seq (AWp.of_vc zb ?_);refine AWp.seq (AWp.of_vc zb ?_);refine zbi g S l hl hb c hc _ _ ?_;generalize ho:yp g l c=o at*;have hopV:opV g l c=inV g o 0:=by simp_all[opV,inV,yt7,zz7]
 refine AWp.seq (AWp.of_vc zb ?_);refine Fa rfl (it:=ti63) (ie:=ti2) rfl rfl rfl rfl rfl (n:=(rws jm (blL (Γ g.T) (yp g l c))).length) ?_ ?_ (λw ν=>?_)
 .rw[zj,jd];show 8*_<=_;omega
 .rw[zj,jd];omega
 rw[zj,jd,Rw];refine AWp.meetA (σ:=Nat->Int) ⟨λ_=>[(8,.av (blV w (Γ g.T)))],λ_=>[],λf p=>bk g o f/\p=z.sO w (.cells (il (Γ g.T) f))⟩ ?_ ?_
 .refine AWp.seq (AWp.of_vc zb ?_);refine AWp.block ?_
  refine AWp.loopA (σ:=Nat×Bool×(Nat->Int)) ⟨λs=>[(3,.bx 3 0),(7,.av (inV g o s.1)),(8,.av (blV w (Γ g.T))),(9,.av (V.bool s.2.1))],λ_=>[(3,zq g)],
   λs p=>p=z.sO w (.cells (il (Γ g.T) s.2.2))/\Fv g o s.1 0 s.2.2/\s.1<=64/\(s.2.1=true->s.1<=63)/\(s.2.1=false->∀t,t<Γ g.T->sqT g o s.1 t=false),λs=>200-s.1⟩ ?_ ?_
  .refine⟨(0,true,λ_=>0),O,⟨rfl,yop g o,ψ,λ_=>ψ,λC=>by cases C⟩,⟨Y,?_,Y,Y,O⟩,⟨rfl,O⟩⟩;dsimp only;rw[<-hopV];exact Y
  rintro⟨r,left,f⟩ p ⟨rfl,P,G,ι,η⟩;dsimp only at P G ι η⊢;refine AWp.seq (AWp.of_vc zb ?_);refine zg (λc1=>?_) (λc1=>?_);rotate_left
  .exact⟨f,⟨yot P (η c1),rfl⟩,⟨Y,O⟩,O⟩
  have hr63:=ι c1;refine AWp.block ?_;refine AWp.seq (AWp.of_vc zb ?_);refine AWp.seq (AWp.of_vc zb ?_);refine Fa rfl (it:=ti68) (ie:=ti4) rfl rfl rfl rfl rfl (n:=(rws jm (blL (Γ g.T) (sqT g o r))).length) ?_ ?_ (λj Q=>?_)
  .rw[zj,jd];show 1*_<=_;omega
  .rw[zj,jd];omega
  rw[zj,jd,Kz];have L:j≠w:=λe=>by have:=Q.1;grind[zd]
  refine AWp.meetA (σ:=Nat->Int) ⟨λ_=>[(3,.bx 3 0),(8,.av (blV w (Γ g.T))),(9,.av (V.bool (D5 g o r (Γ g.T)))),(10,.av (blV j (Γ g.T)))],λ_=>[(3,zq g)],
   λf p=>Fv g o (r+1) 0 f/\p=gS z g w j f (sqT g o (r+1))⟩ ?_ ?_
  .refine AWp.of_vc zb ?_
   refine AWp.loop (σ:=Nat×(Nat->Int)) ⟨λs=>[(3,.bx 3 0),(7,.av (inV g o r)),(8,.av (blV w (Γ g.T))),(9,.av (V.bool (D5 g o r s.1))),(10,.av (blV j (Γ g.T))),(11,.av (int (s.1:Nat)))],λ_=>[(3,zq g)],
    λs p=>s.1<=Γ g.T/\Fv g o r s.1 s.2/\p=gS z g w j s.2 (nxF g o r s.1 false),λs=>Γ g.T-s.1⟩ zb ?_ ?_
   .exact⟨(0,f),O,⟨Fae _,P,by unfold gS;rw[ylb]⟩,Qbt,⟨rfl,O⟩⟩
   rintro⟨t,D⟩ p ⟨ht,hgp1,rfl⟩;dsimp only at ht hgp1⊢;refine bcd (λh1=>?_) (λh1=>?_);rotate_left
   .rw[zj,jd]at h1;have:t=Γ g.T:=Z;subst this;refine⟨D,⟨yos hgp1,?_⟩,Qbt,⟨rfl,O⟩⟩;grind[gS,py,yld]
   rw[zj,jd]at h1;have a:t<Γ g.T:=Z;have hlt2:t<(blL (Γ g.T) (sqT g o r)).length:=by rw[jd];exact a
   have K:=zz9 S (o:=o) (r:=r) a;have ε:=ym2 g o r t;refine⟨t,rfl,J _ (zm hlt2) ?_⟩;rw[Cm a];refine ya ?_;refine zg (λc2=>?_) (λc2=>?_);rotate_left
   .rw[c2,Fdz]at K;refine Qd ?_;refine⟨(t+1,D),?_,⟨ζ,yor hgp1 c2,?_⟩,⟨Y,Y,Y,?_,Y,Y,O⟩,⟨rfl,O⟩⟩
    .grind
    .grind[zc4]
    .show LV.le (.av (V.bool (D5 g o r t))) (.av (V.bool (D5 g o r (t+1))));simp_all[LV.le_refl]
   rw[c2,Bool.true_and]at K;have hgp2:=yoq hgp1 a c2;have τ:=you hgp1 a;have X:(gS z g w j D (nxF g o r t false)).obj w=Δ (.cells (il (Γ g.T) D)):=(zi (Ne.symm L)).trans (zd _ _ _);refine⟨t,rfl,a,?_⟩;refine J _ X (J _ (vk a) ?_);refine Qd ?_;refine⟨t,rfl,a,?_⟩;refine yu (i:=ti2) (v:=int (D t+1)) (b:=w) (o:=0+t*1) (l:=il (Γ g.T) D) (st2:=gS z g w j (setI D t (D t+1)) (nxF g o r t false)) rfl rfl rfl X θa ?_ ?_
   .simp_all[gS,Fj,Ne.symm,ym,Ij]
   generalize setI D t (D t+1)=B at*;have hx:∀v,(gS z g w j B (nxF g o r t v)).obj j=Δ (.cells (bl (Γ g.T) (nxF g o r t v))):=λv=>zd _ _ _;have W:∀v u,(gS z g w j B (nxF g o r t v)).sO j (.cells (zu (bl (Γ g.T) (nxF g o r t v)) (0+t*1) [V.bool u]))=gS z g w j B (nxF g o r t u):=λv u=>by grind[G4,ylc,zc5,gS,ym]
   refine⟨t,rfl,a,?_⟩;refine yu (i:=ti4) (v:=V.bool true) (b:=j) (o:=0+t*1) (l:=bl (Γ g.T) (nxF g o r t false)) (st2:=gS z g w j B (nxF g o r t true)) rfl rfl rfl (hx _) Qaj (W _ _) ?_;refine Pu g S t a _ _ ?_;have ς:∀i,(hi:i<(j4 g t).length)->(j4 g t)[i]=-1\/∃m:Nat,(j4 g t)[i]=m/\m<Γ g.T:=λi hi=>zda S (Faa hi);have hn8:=L6 g t;generalize hN:j4 g t=N at*
   refine AWp.loop (σ:=Nat) ⟨λi=>[(3,.bx 3 0),(7,.av (inV g o r)),(8,.av (blV w (Γ g.T))),(9,.av (V.bool (D5 g o r t))),(10,.av (blV j (Γ g.T))),(11,.av (int (t:Nat))),(12,.av (yq N)),(13,.av (int (i:Nat)))],λ_=>[(3,zq g)],
    λi p=>i<=8/\p=gS z g w j B (nxF g o r t ((N.take i).all (okB g o r))),λi=>8-i⟩ zb ?_ ?_
   .exact⟨0,O,⟨Fae _,by rw[Fcp];rfl⟩,Qbt,⟨rfl,O⟩⟩
   rintro i p ⟨hi,rfl⟩;refine bcd (λh2=>?_) (λh2=>?_);rotate_left
   .have:i=8:=Z;subst this;have ο:N.take 8=N:=by grind
    rw[ο,<-K];have fin:∀b9:AV,b9=V.bool (D5 g o r (t+1))->LV.le (.av b9) (.av (V.bool (D5 g o r (t+1)))):=λb9 e=>by rw[e];exact Y
    have eS:gS z g w j B (nxF g o r t (sqT g o (r+1) t))=gS z g w j B (nxF g o r (t+1) false):=by rw[zc4]
    have E:=hx (sqT g o (r+1) t);have hdec:Γ g.T-(t+1)<Γ g.T-t:=Z;refine zg (λc3=>?_) (λc3=>?_)
    .refine Qd ?_;exact⟨(t+1,B),hdec,⟨ζ,hgp2,eS⟩,⟨Y,Y,Y,fin _ (by rw[ε,c3,Bool.true_or];rfl),Y,Y,O⟩,⟨rfl,O⟩⟩
    .refine⟨t,rfl,a,?_⟩;refine J _ E (J _ (dk a) ?_);refine Qd ?_;exact⟨(t+1,B),hdec,⟨ζ,hgp2,eS⟩,⟨Y,Y,Y,fin _ (by rw[ε,c3,Fd7,zc5]),Y,Y,O⟩,⟨rfl,O⟩⟩
   have M:i<Γ N:=Z;have A:(N.take (i+1)).all (okB g o r)=((N.take i).all (okB g o r)&&okB g o r N[i]):=by grind[List.take_succ_eq_append_getElem]
   have E:=hx ((N.take i).all (okB g o r));have hst9:=W ((N.take i).all (okB g o r)) false;have hdec:8-(i+1)<8-i:=Z;refine⟨i,rfl,J _ (zm M) ?_⟩;refine bcd (λc3=>?_) (λc3=>?_)
   .have H:okB g o r N[i]=false:=by
     unfold okB;rw[decide_eq_false Z,Fdz]
    rw[H,Feg]at A;refine⟨t,rfl,a,?_⟩;refine yu (i:=ti4) (v:=V.bool false) (b:=j) (o:=0+t*1) (l:=_) (st2:=gS z g w j B (nxF g o r t false)) rfl rfl rfl E Qaj hst9 ?_;refine Qd ?_;exact⟨i+1,hdec,⟨Z,by rw[A]⟩,Qbt,⟨rfl,O⟩⟩
   rcases ς i M with q|⟨m,q1,q2⟩
   .omega
   have υ:m<(blL (Γ g.T) (sqT g o r)).length:=by rw[jd];exact q2
   have H:okB g o r N[i]=sqT g o r m:=by unfold okB;rw[decide_eq_true Z,Bool.true_and,q1,Faz]
   refine⟨i,rfl,J _ (zm M) ?_⟩;refine⟨m,q1,J _ (zm υ) ?_⟩;rw[Cm q2];refine ya ?_;refine zg (λc4=>?_) (λc4=>?_)
   .rw[H,c4,Bool.and_true]at A;refine Qd ?_;exact⟨i+1,hdec,⟨Z,by rw[A]⟩,Qbt,⟨rfl,O⟩⟩
   .rw[H,c4,Feg]at A;refine⟨t,rfl,a,?_⟩;refine yu (i:=ti4) (v:=V.bool false) (b:=j) (o:=0+t*1) (l:=_) (st2:=gS z g w j B (nxF g o r t false)) rfl rfl rfl E Qaj hst9 ?_;refine Qd ?_;exact⟨i+1,hdec,⟨Z,by rw[A]⟩,Qbt,⟨rfl,O⟩⟩
  .rintro f3 _ ⟨hq,rfl⟩;have hb3:=hq;have τ:(z.sO w (.cells (il (Γ g.T) f3))).obj j=Θ:=by rw[zi L];have:=Q.1;rwa [zi L]at this
   refine AWp.freeze (d:=10) (b:=j) (k:=1) (n:=Γ g.T) (cap:=Γ g.T) (rows:=rws jm (blL (Γ g.T) (sqT g o (r+1)))) (pad:=[]) rfl ?_ ?_ ?_ (Fai _) ?_ ?_ ?_
   .rw[Rg];exact zd _ _ _
   .exact Q.2
   .rw[zj,jd]
   .intro I G;obtain⟨x,_,rfl⟩:=Fag.1 G;rfl
   .intro I G y U;obtain⟨x,_,rfl⟩:=Fag.1 G;simp[jm]at U;exact⟨_,U,rfl⟩
   unfold gS;rw[Ml τ];refine AWp.of_vc zb ?_;refine⟨(r+1,D5 g o r (Γ g.T),f3),?_,⟨rfl,hq,ζ,λC=>?_,λC=>?_⟩,Qbt,⟨rfl,O⟩⟩
   .show 200-(r+1)<200-r;omega
   .dsimp only at C⊢;unfold D5 at C;obtain⟨t,_,π⟩:=Feo.1 C;exact zz8 S π
   .dsimp only at C⊢;unfold D5 at C;rw[Fdi]at C;intro t ht;exact Bool.eq_false_iff.2 (C t (Fbe.2 ht))
 .rintro f _ ⟨hq,rfl⟩;refine AWp.freeze (d:=8) (b:=w) (k:=1) (n:=Γ g.T) (cap:=Γ g.T) (rows:=rws zx (ilL (Γ g.T) f)) (pad:=[]) rfl ?_ ?_ ?_ (Fai _) ?_ ?_ ?_
  .rw[Fbq,zem];exact zd _ _ _
  .exact ν.2
  .rw[zj,Gq]
  .intro I G;obtain⟨x,_,rfl⟩:=Fag.1 G;rfl
  .intro I G y U;obtain⟨x,_,rfl⟩:=Fag.1 G;simp[zx]at U;exact⟨_,U,rfl⟩
  rw[Ml ν.1];refine AWp.of_vc zb ?_;exact ret (h f hq)
def ij(g:Gnd)(B:zt g)(l:List Bld)(L:Γ l<=1000000000000)(P:∀b∈l,yh b/\onP g b)(c:Int)(M:c=0\/c=1\/c=2)(s:Int)(I:0<=s)(j:Store)(R:Ja)(h:R (Fw g l c s) j):
  Jb 333 [.agg (zq g),lst 6 zk l,int c,int s] j R:=by
 have S:=qg B;refine Qb (c:=cfg 35) zb func333 ?_;refine AWp.seq (AWp.of_vc zb ?_);refine AWp.seq (AWp.of_vc zb ?_);refine yia g B l L P c M _ _ (λf A=>?_);refine AWp.seq (AWp.of_vc zb ?_);refine Fa rfl (it:=ti68) (ie:=ti4) rfl rfl rfl rfl rfl (n:=(rws zx (ilL (Γ g.T) f)).length) ?_ ?_ (λb C=>?_)
 .rw[zj,Gq];show 1*_<=_;omega
 .rw[zj,Gq];omega
 rw[zj,Gq,Kz];refine AWp.meetA (σ:=Unit) ⟨λ_=>[(10,.av (blV b (Γ g.T)))],λ_=>[],λ_ e=>e=j.sO b (.cells (bl (Γ g.T) (zn g l c s)))⟩ ?_ ?_
 .refine AWp.of_vc zb ?_
  refine AWp.loop (σ:=Nat) ⟨λi=>[(3,.av (int s)),(9,.av (lst 1 zx (ilL (Γ g.T) f))),(10,.av (blV b (Γ g.T))),(11,.av (int (i:Nat)))],λ_=>[],
   λi e=>i<=Γ g.T/\e=j.sO b (.cells (bl (Γ g.T) (Ar g l c s i))),λi=>Γ g.T-i⟩ zb ?_ ?_
  .refine⟨0,O,⟨Fae _,?_⟩,Qbt,O⟩;rw[show Ar g l c s 0=λ_=>false from funext λt=>if_neg (Fav t)]
  rintro i e ⟨Q,rfl⟩;refine bcd (λw=>?_) (λw=>?_);rotate_left
  .rw[zj,Gq]at w;have:i=Γ g.T:=Z;subst this;refine⟨(),?_,⟨Y,O⟩,O⟩;show j.sO b (.cells (bl (Γ g.T) (Ar g l c s (Γ g.T))))=j.sO b (.cells (bl (Γ g.T) (zn g l c s)));rw[py (f:=Ar g l c s (Γ g.T)) (g:=zn g l c s) λt H=>if_pos H]
  rw[zj,Gq]at w;have a:i<Γ g.T:=Z;have K:(j.sO b (.cells (bl (Γ g.T) (Ar g l c s i)))).obj b=Δ (.cells (bl (Γ g.T) (Ar g l c s i))):=zd _ _ _;have hlt2:i<(ilL (Γ g.T) f).length:=by rw[Gq];exact a
  have E:∀q,q≠i->Ar g l c s (i+1) q=Ar g l c s i q:=λq A=>by
   unfold Ar;by_cases D:q<i
   .rw[if_pos D,if_pos Z]
   .rw[if_neg D,if_neg Z]
  have G:Ar g l c s (i+1) i=zn g l c s i:=if_pos Z;refine⟨i,rfl,J _ (zm hlt2) ?_⟩;refine⟨i,rfl,a,?_⟩;refine yu (i:=ti4) (v:=V.bool (decide (s<(ilL (Γ g.T) f)[i]))) (o:=0+i*1) (st2:=j.sO b (.cells (bl (Γ g.T) (Ar g l c s (i+1))))) rfl rfl rfl K Qaj ?_ ?_
  .rw[ym,show 0+i*1=i by omega,<-G4 a _ E,G,zeo a,yoo A I a]
  refine Qd ?_;refine⟨i+1,?_,⟨Z,rfl⟩,Qbt,O⟩;show Γ g.T-(i+1)<Γ g.T-i;omega
 rintro _ _ rfl;refine AWp.freeze (d:=10) (k:=1) (rows:=rws jm (blL (Γ g.T) (zn g l c s))) (pad:=[]) rfl ?_ ?_ ?_ (Fai _) ?_ ?_ ?_
 .rw[Rg];exact zd _ _ _
 .exact C.2
 .rw[zj,jd]
 .intro p u;obtain⟨x,_,rfl⟩:=Fag.1 u;rfl
 .intro p u y z;obtain⟨x,_,rfl⟩:=Fag.1 u;simp[jm]at z;exact⟨_,z,rfl⟩
 rw[Ml C.1];refine AWp.of_vc zb ?_;exact ret h
def zho{m n:Nat}{p:Prop}(h:m<=n)(k:p):(bif Nat.ble m n then p else False):=by have:Nat.ble m n=true:=Nat.ble_eq▸h;rw[this];exact k
def yl0(x y:Int)(d:0<=x)(b:x<18446744073709551616)(c:0<=y)(a:y<18446744073709551616)(st:Store)(R:Ja)(h:R (.tup (ji (x*y))) st):
  Jb 240 [u64 x,u64 y] st R:=by
 refine Qy 30 func240 ?_;refine mg x y d b c a _ _ ?_;exact ret h
def zbv(v:Int)(n:Nat)(c:1<=n)(hn:n<=1000000)(st:Store)(R:Ja)(h:∀b,Fresh st b->R (.s (.slice (Δ ⟨b,0,Θ⟩) n n)) (st.sO b (.cells (il n λ_=>v)))):
  Jb 156 [lst 1 zx [v],int (n:Nat)] st R:=by
 refine Qy 48 func156 ?_;have f:IntKind.u64.wrap (n:Int)=n:=kx Z Z;have g:IntKind.u64.wrap ((rws zx [v]).length:Nat)=1:=rfl;show ACalls _ _ [u64 (IntKind.u64.wrap _),u64 (IntKind.u64.wrap (n:Int))] _ _;rw[f,g];refine yl0 1 n Z Z Z Z _ _ ?_;have u:(1*(n:Int))=n:=Int.one_mul _;rw[u];have p:ji (n:Int)=[u64 0,u64 n]:=by unfold ji;rw[Fb9 Z Z,Fc7 Z Z]
 rw[p];refine bcd (λe=>absurd e Z) (λe=>?_);refine Qd ?_;refine Fa rfl (it:=ti63) (ie:=ti2) rfl rfl rfl rfl rfl (n:=n) ?_ ?_ (λb hf=>?_)
 .show 8*_<=_;omega
 .omega
 rw[Rw];refine zif rfl rfl rfl rfl (it:=ti63) (ie:=ti2) rfl rfl rfl (src:=lst 1 zx [v]) (SrcN.rows (rows:=rws zx [v]) rfl) (n:=1) (by show 1=min 1 n;omega) (zd _ _ _) (by rw[xi];show 0+1*1<=n;omega) ?_;rw[ym];have o:zu (il n λ_=>0) 0 (rws zx [v]).flatten=il n (ww v 1):=by
  show zu (il n λ_=>0) 0 [int v]=_;rw[Ij (t:=0) Z];refine Ik λt z=>?_;unfold setI ww;by_cases c:t=0
  .rw[if_pos c,if_pos Z]
  .rw[if_neg c,if_neg Z]
 rw[o]
 refine AWp.loop (σ:=Nat) ⟨λk=>[(7,.av (.s (.slice (Δ ⟨b,0,Θ⟩) n n))),(8,.av (int (k:Nat)))],λ_=>[],
  λk a=>1<=k/\k<=n/\a=st.sO b (.cells (il n (ww v k))),λk=>n-k⟩ zb ?_ ?_
 .exact⟨1,O,⟨Fai _,c,rfl⟩,⟨Y,Y,O⟩,O⟩
 rintro k a ⟨j,A,rfl⟩;refine bcd (λw=>?_) (λw=>?_);rotate_left
 .have:k=n:=Z;subst this;rw[zen];exact ret (h b hf)
 have d:k<n:=Z;have hb:(st.sO b (.cells (il n (ww v k)))).obj b=Δ (.cells (il n (ww v k))):=zd _ _ _;obtain⟨m,hm⟩:∃m,m=min k (n-k):=⟨_,rfl⟩
 refine Qc zb yfz ?_;refine⟨k,n,rfl,rfl,Z,Fai _,.inl ⟨d,?_⟩⟩;refine⟨0,k,rfl,rfl,Fae _,Z,.inl ⟨Z,?_⟩⟩;refine⟨zif rfl rfl rfl rfl rfl rfl rfl (SrcN.obj hb (by rw[xi];show 0+0*1+m*1<=n;omega) (λy i=>by have:=List.mem_of_mem_drop (Fcf i);obtain⟨t,_,rfl⟩:=Fag.1 this;rfl)) (hm.trans (by rw[Nat.sub_zero])) hb (by rw[xi];show 0+k*1+m*1<=n;omega) ⟨O,?_⟩,O⟩;rw[ym];refine Qd ?_;refine Qbx ?_;refine⟨k+m,?_,⟨Z,Z,?_⟩,⟨Y,Y,O⟩,O⟩
 .show n-(k+m)<n-k;omega
 .exact congrArg (λl=>st.sO b (.cells l)) (yii Z Z)
def oo(u:Int)(st:Store)(R:Ja)(h:R (V.bool true) st):Jb 511 [int u] st R:=by refine Qy 3 func511 ?_;exact ret h
def ypo(w:Nat)(c:4<=w)(b:w<8)(st:Store)(R:Ja)(h:R (.tup [int (H6 w:Nat),int (H5 w:Nat)]) st):Jb 397 [int (w:Nat)] st R:=by
 have a:w=4\/w=5\/w=6\/w=7:=Z;rcases a with rfl|rfl|rfl|rfl
 all_goals
  refine Qy 10 func397 ?_;refine Qc zb ybw ?_;refine⟨_,rfl,ψ,?_⟩;refine⟨_,rfl,ψ,?_⟩;refine⟨⟨Qe,⟨⟨O,?_⟩,O⟩⟩,O⟩;exact ret h
def zjf(st:Store)(R:Ja)(h:R (.agg dirC) st):Jb 396 [] st R:=by refine Qy 10 func396 ?_;exact ret h
def dm(g:Gnd)(c:zt g)(t:Nat)(H:t<Γ g.T)(st:Store)(R:Ja)(h:R (Oz g t) st):Jb 318 [.agg (zq g),int (t:Nat)] st R:=by
 have hm:=qg c;have n:=Dc c (t:=t) Z;have v:=Ga (t:=t) c.1.1;have hq2:=Gb (t:=t) c.1.1;have E:=c.1;have D:=c.2.1;have hbes:=λ(i:Nat) (w:i<8)=>yud g t w;obtain⟨x,u⟩:∃x,x=(t:Int)%g.W:=⟨_,rfl⟩
 obtain⟨y,p⟩:∃y,y=(t:Int)/g.W:=⟨_,rfl⟩
 rw[<-u,<-p]at n hbes;rw[<-u]at v;rw[<-p]at hq2;refine Qy 50 func318 ?_;refine Qc zb ycg ?_;refine⟨Z,?_⟩;refine⟨Z,?_⟩;refine ze θm ?_;refine⟨⟨?_,⟨⟨O,?_⟩,O⟩⟩,O⟩
 .exact⟨rfl,O⟩
 rw[v,hq2];refine zjf _ _ ?_
 refine AWp.loop (σ:=Nat) ⟨λi=>[(2,.bx 2 0),(4,.bx 4 0),(5,.av (int x)),(6,.av (int y)),(17,.av (.agg dirC)),(18,.av (int (i:Nat)))],λi=>[(2,zq g),(4,il 8 (G5 g t i))],
  λi f=>i<=8/\f=st,λi=>8-i⟩ zb ?_ ?_
 .exact⟨0,O,⟨Fae _,rfl⟩,Qbt,⟨rfl,rfl,O⟩⟩
 rintro i f ⟨w,rfl⟩;refine bcd (λG=>?_) (λG=>?_);rotate_left
 .have:i=8:=Z;subst this;refine ret ?_;have e:AV.agg (il 8 (G5 g t 8))=Oz g t:=congrArg AV.agg (yuc g t);rw[<-e]at h;exact h
 have a:i<8:=Z;have B:=ysa a;have I:=yr9 a;have k:=hbes i a;have j:=yub g t (i:=i);generalize dirL.getD i (0,0)=d at*;refine⟨i,rfl,a,?_⟩;refine yv (i:=ti324) (row:=Lb d) rfl rfl B ?_;refine⟨i,rfl,a,?_⟩;refine zho (by rw[xi];show 0+i*1+1<=8;omega) ?_;refine Cz ?_;refine⟨0,rfl,ψ,?_⟩;refine Qd ?_;refine⟨1,rfl,ψ,?_⟩;refine Qd ?_;refine ll _ _ _ _ _ (λz o=>?_);refine zg (λl=>?_) (λl=>?_)
 .have b:=o.1 l;obtain⟨L,K,_,_⟩:=Db c b;have hpos:0<=g.W*(y+d.2):=Fax Z (by have:=b.2.1;omega);refine⟨0,rfl,ψ,?_⟩;refine Qd ?_;refine⟨1,rfl,ψ,?_⟩;refine Qd ?_;refine Qd ?_;refine Qd ?_;refine⟨i,rfl,a,?_⟩;refine zho (by
   show 0+i*1+1<=(zu (il 8 (G5 g t i)) (0+i*1) [int (-1)]).length;rw[show 0+i*1=i by omega,Ij a,xi];omega) ?_
  refine Cz ?_;refine Qd ?_;refine⟨i+1,?_,⟨Z,rfl⟩,Qbt,⟨rfl,?_,O⟩⟩
  .show 8-(i+1)<8-i;omega
  .show Δ (zu (zu (il 8 (G5 g t i)) (0+i*1) [int (-1)]) (0+i*1) [int (x+d.1+g.W*(y+d.2))])=Δ (il 8 (G5 g t (i+1)));rw[show 0+i*1=i by omega,Ij a,Ij a,gr,j];rw[k];unfold w9;rw[if_pos b]
 .have b:¬onG g (x+d.1) (y+d.2):=λC=>by rw[o.2 C]at l;cases l
  refine Qd ?_;refine⟨i+1,?_,⟨Z,rfl⟩,Qbt,⟨rfl,?_,O⟩⟩
  .show 8-(i+1)<8-i;omega
  .show Δ (zu (il 8 (G5 g t i)) (0+i*1) [int (-1)])=Δ (il 8 (G5 g t (i+1)));rw[show 0+i*1=i by omega,Ij a,j];rw[k];unfold w9;rw[if_neg b]
section
variable {g:Gnd} {t w:Nat} {c:Int}
def cq(b:zt g)(a:t<Γ g.T):g.T[t].toNat<=5:=b.2.2.2 _ (Faa a)
theorem cr(g:Gnd)(c:Int)(a:t<Γ g.T):Gx g c t=Bo c g.T[t].toNat:=by unfold Gx;rw[Fbo,Fac a];rfl
def K0(b:zt g)(t:Nat)(a:w<8):yi g t w<0\/∃u:Nat,yi g t w=(u:Int)/\u<Γ g.T:=by
 rcases dp b (t:=t) a with h|h
 .exact .inl Z
 .exact .inr h
theorem Pg{ok:Nat->Bool}(h:vz ok (yi g t w)=false):qk g ok c t w=0:=by unfold qk;rw[h];simp
def ui{ok:Nat->Bool}(h:vz ok (yi g t w)=true)(a:w<4):qk g ok c t w=5*(Gx g c t+Gx g c (yi g t w).toNat):=by unfold qk;rw[if_pos h,if_pos a]
def uk{ok:Nat->Bool}(h:vz ok (yi g t w)=true)(a:¬w<4)(d:vz ok (yi g t (H6 w))=true)(b:vz ok (yi g t (H5 w))=true):qk g ok c t w=7*(Gx g c t+Gx g c (yi g t w).toNat):=by unfold qk;rw[if_pos h,if_neg a,if_pos ⟨d,b⟩]
def uj{ok:Nat->Bool}(e:¬w<4)(a:vz ok (yi g t (H6 w))=false\/vz ok (yi g t (H5 w))=false):qk g ok c t w=0:=by
 unfold qk;rw[if_neg e];split
 .rw[if_neg];rintro⟨d,b⟩;rcases a with a|a
  .rw[a]at d;cases d
  .rw[a]at b;cases b
 .rfl
theorem Ks{ok:Nat->Bool}{u:Int}(h:u<0):vz ok u=false:=by unfold vz;rw[decide_eq_false Z];rfl
theorem Hq(ok:Nat->Bool)(u:Nat):vz ok (u:Int)=ok u:=by unfold vz;rw[decide_eq_true Z,Faz];rfl
def ug{S:Store}{H:Nat}(C:zt g){l:List Bld}{s:Int}(hn:S.obj H=Δ (.cells (jl g l c s)))(t:Nat)(I:t<Γ g.T)(way:Nat)(G:way<8)(R:Ja)
  (h:R (int (qk g (zn g l c s) c t way)) S):Jb 319 [ptr H,int (t:Nat),Oz g t,int (way:Nat),.clos 511 []] S R:=by
 have p:∀u,u<Γ g.T->u<(blL (Γ g.T) (zn g l c s)).length:=λu hu=>by rw[jd];exact hu
 have p1:=Nn c (g.T[t]).toNat;refine Qy 124 func319 ?_;refine⟨way,rfl,G,?_⟩;refine J _ (vk G) ?_;have K:=K0 C t G;have j:=λh=>ui (g:=g) (ok:=zn g l c s) (c:=c) (t:=t) (w:=way) h;have e:=λh=>uk (g:=g) (ok:=zn g l c s) (c:=c) (t:=t) (w:=way) h;have B:=Pg (g:=g) (ok:=zn g l c s) (c:=c) (t:=t) (w:=way);have k:=λh=>uj (g:=g) (ok:=zn g l c s) (c:=c) (t:=t) (w:=way) h;generalize qk g (zn g l c s) c t way=E at*;generalize hU:yi g t way=U at*;refine bcd (λW=>?_) (λW=>?_)
 .rw[B (Ks W)]at h;exact ret h
 obtain⟨u,rfl,a⟩:∃u:Nat,U=(u:Int)/\u<Γ g.T:=by
  rcases K with i|i
  .exact absurd i W
  .exact i
 refine Qby ?_;refine⟨u,rfl,J _ (zm (p u a)) ?_⟩;rw[Cm a];refine ya ?_;refine zg (λV=>?_) (λV=>?_);rotate_left
 .rw[B (by rw[Hq,V])]at h;exact ret h
 refine oo _ _ _ ?_;have D:vz (zn g l c s) (u:Int)=true:=by rw[Hq,V]
 rw[Faz]at j e;rw[cr g c I,cr g c a]at j e;have p2:=Nn c (g.T[u]).toNat;refine Qc zb ycf ?_;refine Qby ?_;refine Qby ?_;refine⟨t,rfl,J _ (zm I) ?_⟩;refine Qby ?_;refine Qby ?_;refine⟨u,rfl,J _ (zm a) ?_⟩;refine⟨lc c g.T[t] (cq C I) _ _ ⟨?_,?_⟩,O⟩
 .repeat(first|exact O|refine⟨rfl,?_⟩|refine⟨J (o:=S.obj H) _ hn rfl,?_⟩)
 refine⟨lc c g.T[u] (cq C a) _ _ ⟨Qe,?_⟩,O⟩;refine Qd ?_;refine Qbx ?_;generalize Bo c g.T[t].toNat=P1 at*;generalize Bo c g.T[u].toNat=P2 at*;refine bcd (λc3=>?_) (λc3=>?_)
 .refine Qd ?_;rw[j D Z]at h;exact ret h
 have X:¬way<4:=Z;have d:H6 way<8:=by unfold H6;omega
 have b:H5 way<8:=by unfold H5;omega
 refine ypo way Z G _ _ ?_;have hora:=K0 C t d;have horb:=K0 C t b;have e:=e D X;have k:=k X;have y:=vk (n:=8) (f:=yi g t) d;have v:=vk (n:=8) (f:=yi g t) b;generalize hA:H6 way=wa at*;generalize hB:H5 way=wb at*;generalize η:yi g t wa=ua at*;generalize ε:yi g t wb=ub at*;refine Qc zb yce ?_;refine⟨wa,rfl,d,?_⟩;refine J _ y ?_;have no:vz (zn g l c s) ua=false\/vz (zn g l c s) ub=false->R (int 0) S:=λhh=>by rw[k hh]at h;exact h
 refine bcd (λQ=>?_) (λQ=>?_)
 .refine Qbx ?_;refine Qbx ?_;exact ret (no (.inl (Ks Q)))
 obtain⟨va,rfl,A⟩:∃u:Nat,ua=(u:Int)/\u<Γ g.T:=by
  rcases hora with i|i
  .exact absurd i Q
  .exact i
 refine⟨wb,rfl,b,?_⟩;refine J _ v ?_;refine bcd (λP=>?_) (λP=>?_)
 .refine Qbx ?_;refine Qbx ?_;exact ret (no (.inr (Ks P)))
 obtain⟨vb,rfl,z⟩:∃u:Nat,ub=(u:Int)/\u<Γ g.T:=by
  rcases horb with i|i
  .exact absurd i P
  .exact i
 refine Qby ?_;refine⟨wa,rfl,d,?_⟩;refine J _ y ?_;refine⟨va,rfl,J _ (zm (p va A)) ?_⟩;rw[Cm A];refine ya ?_;refine zg (λM=>?_) (λM=>?_);rotate_left
 .refine Qbx ?_;refine Qbx ?_;exact ret (no (.inl (by rw[Hq,M])))
 refine Qby ?_;refine⟨wb,rfl,b,?_⟩;refine J _ v ?_;refine⟨vb,rfl,J _ (zm (p vb z)) ?_⟩;rw[Cm z];refine ya ?_;refine zg (λL=>?_) (λL=>?_);rotate_left
 .refine Qbx ?_;refine Qbx ?_;exact ret (no (.inr (by rw[Hq,L])))
 refine⟨wa,rfl,d,?_⟩;refine J _ y ?_;refine⟨oo _ _ _ ⟨O,?_⟩,O⟩;refine⟨wb,rfl,b,?_⟩;refine J _ v ?_;refine⟨oo _ _ _ ⟨O,?_⟩,O⟩;refine Qd ?_;rw[e (by rw[Hq,M]) (by rw[Hq,L])]at h;exact ret h
end
section
variable {G F:Store} {p:Nat}
def yj2(R:Ja)(h:∀F p,QOf F p []->zl F G->R (ptr p) (F.un G)):Jb 137 [] G R:=by
 have:=ACalls.frame (a:=Store.empty) (g:=G) (λi b=>by rcases b with b|b<;>exact absurd rfl b) (yj1 Store.empty (λr c=>∃p,r=ptr p/\QOf c p []) (λp j=>⟨p,rfl,.inl ⟨zd _ _ _,rfl⟩⟩)) (R':=R) (λr c ⟨p,e,f⟩ d=>e▸h c p f d)
 rwa [jx]at this
def iz{l:List (Int×Int)}(j:QOf F p l)(k:Γ l<=1000000)(n:Au l)(c:zl F G)(x:Int×Int)(R:Ja)
  (h:∀b a,QOf b p a->Au a->a.Perm (x::l)->zl b G->R (.tup []) (b.un G)):Jb 223 [ptr p,int x.1,int x.2] (F.un G) R:=
 ACalls.frame c (yjt j k n x (λr i=>r=.tup []/\∃a,QOf i p a/\Au a/\a.Perm (x::l)) (λb a g f d=>⟨rfl,a,g,f,d⟩)) (R':=R) (λr i ⟨e,a,g,f,d⟩ c=>e▸h i a g f d c)
def i8{l:List (Int×Int)}(j:QOf F p l)(n:Γ l<=1000000)(k:Au l)(c:zl F G)(R:Ja)
  (h:∀b o a,QOf b p a->Au a->zl b G->l.Perm (o.toList++a)->(∀x,o=Δ x->∀e∈x::a,¬qlt e x)->(o=Θ->a=[])->R (.tup [int (mz o),int (Sy o),V.bool o.isSome]) (b.un G)):Jb 142 [ptr p] (F.un G) R:=
 ACalls.frame c (yjw j n k (λr i=>∃o a,r=.tup [int (mz o),int (Sy o),V.bool o.isSome]/\QOf i p a/\Au a/\l.Perm (o.toList++a)/\(∀x,o=Δ x->∀e∈x::a,¬qlt e x)/\(o=Θ->a=[]))
  (λe=>⟨Θ,[],rfl,e▸j,e▸k,δ,λx h=>ω,λ_=>rfl⟩)
  (λv b a g f d=>⟨Δ (qat l 0),a,rfl,g,f,d,λx e=>by grind[yjy],λh=>ω⟩)) (R':=R) (λr i ⟨o,a,e,g,f,d,u,t⟩ c=>e▸h i o a g f c d u t)
def ypp{S:Store}{nb:Nat}{g:Gnd}(hg:zt g){l:List Bld}{c s:Int}(hn:S.obj nb=Δ (.cells (jl g l c s)))(f:Nat)(I:f<Γ g.T)(R:Ja)
  (h:∀b,Fresh S b->(∀u,-1<=jc g (zn g l c s) c f u/\jc g (zn g l c s) c f u<=2000000)->R (.s (.slice (Δ ⟨b,0,Θ⟩) (Γ g.T) (Γ g.T))) (S.sO b (.cells (il (Γ g.T) (jc g (zn g l c s) c f))))):
  Jb 216 [ptr nb,int (f:Nat),.clos 511 []] S R:=by
 have ha:=qg hg;have hT:Γ g.T<=16384:=Z;have hgl:∀u,u<Γ g.T->u<(blL (Γ g.T) (zn g l c s)).length:=λu hu=>by rw[jd];exact hu
 refine Qy 121 func216 ?_;refine⟨ψ,?_⟩;refine Qby ?_;show ACalls _ _ [_,int ((rws u8C g.T).length:Nat)] _ _;rw[zj];refine zbv (-1) (Γ g.T) Z Z _ _ (λb hf=>?_);have hnb:nb≠b:=λe=>by rw[e,hf.1]at hn;cases hn
 have hn1:(S.sO b (.cells (il (Γ g.T) λ_=>-1))).obj nb=Δ (.cells (jl g l c s)):=(zi hnb).trans hn;refine J (o:=(S.sO b _).obj nb) _ hn1 ?_;refine⟨f,rfl,J _ (zm (hgl f I)) ?_⟩;rw[Cm I];refine ya ?_;refine zg (λc1=>?_) (λc1=>?_);rotate_left
 .rw[zf0 c1]at h;exact ret (h b hf λu=>⟨Fcw (-1),show(-1:Int)<=2000000 by decide⟩)
 refine Fa rfl (it:=ti68) (ie:=ti4) rfl rfl rfl rfl rfl (n:=Γ g.T) ?_ ?_ (λB π=>?_)
 .show 1*_<=_;omega
 .omega
 rw[Kz];have W:b≠B:=λe=>by have:=π.1;grind[zd]
 have hst0:(S.sO b (.cells (il (Γ g.T) λ_=>-1))).sO B (.cells (bl (Γ g.T) λ_=>false))=xm S b B (Γ g.T) (λ_=>-1) (λ_=>false):=rfl;rw[hst0];refine⟨f,rfl,I,?_⟩;refine yu (i:=ti2) (v:=int 0) (b:=b) (o:=0+f*1) (l:=il (Γ g.T) λ_=>-1) (st2:=xm S b B (Γ g.T) (zz (λ_=>-1) f 0) (λ_=>false)) rfl rfl rfl (zfl W _ _) θa ?_ ?_
 .rw[Ii _ _ _ _ I,zfk W]
 refine yj2 _ (λF p H a=>?_);refine iz H φ (λj h0 hj=>by simp at hj) a (0,(f:Int)) _ (λF l1 H L hP a=>?_);have K:∀u,zz (λ_=>(-1:Int)) f 0 u=if u=f then 0 else -1:=λu=>rfl
 have z:=yry (jo g (zn g l c s) c) I K;have A:=zgs I K;have hback:∀F d k,(Store.un F (xm S b B (Γ g.T) d k)).Has (S.sO b (.cells (il (Γ g.T) d))):=λF d k=>yqf hf π W;have hlen:Γ l1<=1000000:=by rw[hP.length_eq];simp
 have hlen1:Γ l1=1:=by rw[hP.length_eq];simp
 have hfo:=λd k=>yqc (n:=Γ g.T) hf π hn d k;have ε:=λd k=>zfl (S:=S) (n:=Γ g.T) W d k;have ο:=λd k=>yqd (S:=S) (b:=b) (b2:=B) (n:=Γ g.T) d k;have hsd:=λd d' k=>zfk (S:=S) (n:=Γ g.T) W d d' k;have hsn:=λd k η=>yqb (S:=S) (b:=b) (b2:=B) (n:=Γ g.T) d k η;have υ:=λ(F:Store) d d' k η (h:zl F (xm S b B (Γ g.T) d k))=>yqe (d':=d') (dn':=η) h;generalize hd1:zz (λ_=>(-1:Int)) f 0=d at*;refine i8 H hlen L a _ (λF' o l' g1 g2 g3 X g5 g6=>?_)
 refine AWp.loop (σ:=(Nat->Int)×(Nat->Bool)×Store×Option (Int×Int)×List (Int×Int)×Int) ⟨λq=>[(0,.av (ptr nb)),(2,.av (.clos 511 [])),(7,.av (.s (.slice (Δ ⟨b,0,Θ⟩) (Γ g.T) (Γ g.T)))),(8,.av (.s (.slice (Δ ⟨B,0,Θ⟩) (Γ g.T) (Γ g.T)))),(9,.av (ptr p)),(10,.av (int (mz q.2.2.2.1))),(11,.av (int (Sy q.2.2.2.1))),(12,.av (V.bool q.2.2.2.1.isSome))],λ_=>[],
  λq M=>M=q.2.2.1.un (xm S b B (Γ g.T) q.1 q.2.1)/\QOf q.2.2.1 p q.2.2.2.2.1/\Au q.2.2.2.2.1/\zl q.2.2.1 (xm S b B (Γ g.T) q.1 q.2.1)/\DJ (jo g (zn g l c s) c) (Γ g.T) f q.1 q.2.1 (q.2.2.2.1.toList++q.2.2.2.2.1) q.2.2.2.2.2 Fq∧
   (∀x,q.2.2.2.1=Δ x->∀e∈x::q.2.2.2.2.1,¬qlt e x)/\(q.2.2.2.1=Θ->q.2.2.2.2.1=[])/\Gy (Γ g.T) q.1/\9*Gh (Γ g.T) q.2.1+(q.2.2.2.1.toList++q.2.2.2.2.1).length<=9*Γ g.T+1,λq=>9*Gh (Γ g.T) q.2.1+(q.2.2.2.1.toList++q.2.2.2.2.1).length⟩ zb ?_ ?_
 .refine⟨(d,λ_=>false,F',o,l',0),O,⟨rfl,g1,g2,g3,ow z (hP.symm.trans X),g5,g6,A,?_⟩,Qbt,O⟩;have:=yk6 (Γ g.T) λ_=>false;dsimp only;rw[<-X.length_eq];omega
 clear a;clear g1 g2 g3 X g5 g6 z A H L hP hlen hlen1 K hd1;rintro⟨d,k,F,o,q,cur⟩ M ⟨rfl,H,L,a,z,hmin,hnil,A,hmu⟩;dsimp only at H L a z hmin hnil A hmu⊢;cases o with
 |none=>
  have:q=[]:=hnil rfl;subst this;have e:=zf1 c1 (yrz z);refine Dg (Tt) (hback F d k) ?_;have:=h b hf;rw[e]at this;exact this λu=>by have h1:=z.lab u;have h2:=Ou A u;omega
 |some x=>
 obtain⟨t,ht,E,K,hdx,hcx⟩:=z.ent x φ;have hmin:=hmin x rfl;have hlen:Γ q<=1000000:=δ;have hxt:Sy (Δ x)=(t:Int):=ht;have τ:(Option.toList (Δ x)++q).length=Γ q+1:=φ;rw[τ]at hmu;rw[hxt];refine⟨t,rfl,E,?_⟩;refine J (o:=(F.un (xm S b B (Γ g.T) d k)).obj B) _ (zh (ο d k)) ?_;refine J _ (dk E) ?_;cases ς:k t with
 |true=>
  have hDJ2:=yrw (q':=q) z ht (List.Perm.refl _) ς;refine i8 H hlen L a _ (λF' o l' g1 g2 g3 X g5 g6=>?_);refine⟨(d,k,F',o,l',cur),?_,⟨rfl,g1,g2,g3,ow (hDJ2) X,g5,g6,A,?_⟩,Qbt,O⟩
  .show 9*Gh (Γ g.T) (k)+(o.toList++l').length<9*Gh (Γ g.T) k+(Option.toList (Δ x)++q).length;rw[<-X.length_eq,τ];omega
  .dsimp only;rw[<-X.length_eq];omega
 |false=>
 obtain⟨hk,ι⟩:=yrv (q':=q) z ht (List.Perm.refl _) hmin ς;have hopen:=yk5 E ς;have hokt:=yrx z c1 K;refine⟨t,rfl,E,?_⟩;refine yu (i:=ti4) (v:=V.bool true) (b:=B) (o:=0+t*1) (l:=bl (Γ g.T) k) (st2:=F.un (xm S b B (Γ g.T) d (zz k t true))) rfl rfl rfl (zh (ο d k)) θf ?_ ?_
 .rw[pw _ _ _ _ E,z8,hsn]
 refine J (o:=(F.un (xm S b B (Γ g.T) d (zz k t true))).obj nb) _ (zh (hfo _ _)) ?_;refine dm g hg t E _ _ ?_;have a:=υ F d d k (zz k t true) a;have z:=zjm ι;have hdn1:zz k t true t=true:=wg _ _ _;have hbig:=Ou A t;have hbn:=λ(w:Nat) (hw:w<8)=>dp hg (t:=t) hw
 refine AWp.loop (σ:=Nat×(Nat->Int)×Store×List (Int×Int)) ⟨λy=>[(0,.av (ptr nb)),(2,.av (.clos 511 [])),(7,.av (.s (.slice (Δ ⟨b,0,Θ⟩) (Γ g.T) (Γ g.T)))),(8,.av (.s (.slice (Δ ⟨B,0,Θ⟩) (Γ g.T) (Γ g.T)))),(9,.av (ptr p)),(10,.av (int x.1)),(11,.av (int (t:Nat))),(13,.bx 13 0),(70,.av (Oz g t)),(71,.av (int (y.1:Nat)))],λ_=>[(13,il 8 (yi g t))],
  λy M=>y.1<=8/\M=y.2.2.1.un (xm S b B (Γ g.T) y.2.1 (zz k t true))/\QOf y.2.2.1 p y.2.2.2/\Au y.2.2.2/\zl y.2.2.1 (xm S b B (Γ g.T) y.2.1 (zz k t true))/\DJ (jo g (zn g l c s) c) (Γ g.T) f y.2.1 (zz k t true) y.2.2.2 x.1 (C9 g (zn g l c s) c t y.1)/\y.2.1 t=x.1/\Gy (Γ g.T) y.2.1/\Γ y.2.2.2<=Γ q+y.1,λy=>8-y.1⟩ zb ?_ ?_
 .exact⟨(0,d,F,q),O,⟨Fae _,rfl,H,L,a,z,hk.symm,A,Fai _⟩,Qbt,⟨rfl,O⟩⟩
 have hx0:0<=x.1:=Z;have hx1:x.1<=84*(Γ g.T:Int):=Z;clear H L a z ι A hbig hmin hnil K hdx;rintro⟨i,d,F,m⟩ M ⟨hi,rfl,H,L,a,z,hdt1,A,hml⟩;dsimp only at hi H L a z hdt1 A hml⊢;refine bcd (λc2=>?_) (λc2=>?_);rotate_left
 .have:i=8:=Z;subst this;have hlen:Γ m<=1000000:=Z;have hDJ2:=zjn z;refine i8 H hlen L a _ (λF' o l' g1 g2 g3 X g5 g6=>?_);refine⟨(d,zz k t true,F',o,l',x.1),?_,⟨rfl,g1,g2,g3,ow (hDJ2) X,g5,g6,A,?_⟩,Qbt,O⟩
  .show 9*Gh (Γ g.T) (zz k t true)+(o.toList++l').length<9*Gh (Γ g.T) k+(Option.toList (Δ x)++q).length;rw[<-X.length_eq,τ];omega
  .dsimp only;rw[<-X.length_eq];omega
 have Q:i<8:=Z;refine⟨i,rfl,Q,?_⟩;refine J _ (ba Q) ?_;refine ug hg (zh (hfo _ _)) t E i Q _ ?_;have hsb:=Vq g (zn g l c s) c t i;have hskip:=eo z;have hedge:=zgc (g:=g) (ok:=zn g l c s) (c:=c) (t:=t) (way:=i) hokt E Q;have hor:=hbn i Q;have hfr:0<qk g (zn g l c s) c t i->0<=yi g t i:=λhp=>(n9 (ge (g:=g) (ok:=zn g l c s) (c:=c) (t:=t) (way:=i) Z)).1;generalize hC:qk g (zn g l c s) c t i=C at*;generalize hU:yi g t i=U at*
 -- nothing to note:on with the next way
 have next:(0<C->∀u:Nat,U=u->0<=d u/\d u<=d t+C)->∃y:Nat×(Nat->Int)×Store×List (Int×Int),8-y.1<8-i/\(y.1<=8/\F.un (xm S b B (Γ g.T) d (zz k t true))=y.2.2.1.un (xm S b B (Γ g.T) y.2.1 (zz k t true))/\QOf y.2.2.1 p y.2.2.2/\Au y.2.2.2/\zl y.2.2.1 (xm S b B (Γ g.T) y.2.1 (zz k t true))/\DJ (jo g (zn g l c s) c) (Γ g.T) f y.2.1 (zz k t true) y.2.2.2 x.1 (C9 g (zn g l c s) c t y.1)/\y.2.1 t=x.1/\Gy (Γ g.T) y.2.1/\Γ y.2.2.2<=Γ q+y.1)/\y=(i+1,d,F,m):=λhp=>
  ⟨(i+1,d,F,m),ζ,⟨ζ,rfl,H,L,a,hskip (λu hu hc=>hp hc u hu),hdt1,A,ζ⟩,rfl⟩
 refine bcd (λc3=>?_) (λc3=>?_);rotate_left
 .obtain⟨y,f1,f2,rfl⟩:=next (λhc=>absurd hc c3)
  refine Qd ?_;exact⟨(i+1,d,F,m),f1,f2,Qbt,⟨rfl,O⟩⟩
 have hU0:=hfr c3;obtain⟨u,rfl,D⟩:∃u:Nat,U=(u:Int)/\u<Γ g.T:=by
  rcases hor with h1|h1
  .omega
  .exact h1
 rw[Faz]at hedge;have hedge:=hedge c3;refine⟨u,rfl,D,?_⟩;refine J (o:=(F.un (xm S b B (Γ g.T) d (zz k t true))).obj B) _ (zh (ο d _)) ?_;refine J _ (dk D) ?_;refine ya ?_;refine zg (λc4=>?_) (λc4=>?_)
 .obtain⟨y,f1,f2,rfl⟩:=next (λhc v hv=>by
   have:v=u:=Z;subst this;have:=z.mono v c4;omega)
  refine Qd ?_;exact⟨(i+1,d,F,m),f1,f2,Qbt,⟨rfl,O⟩⟩
 refine⟨u,rfl,D,?_⟩;refine J (o:=(F.un (xm S b B (Γ g.T) d (zz k t true))).obj b) _ (zh (ε d _)) ?_;refine J _ (vk D) ?_;refine bcd (λc5=>?_) (λc5=>?_)
 .skip;have hlow:d u<0\/d t+C<d u:=Or.inl c5;have hcb2:=ct A D (t:=t) (u:=u) (c:=C) Z Z hlow;rw[hdt1]at hcb2 hlow;refine Qd ?_;refine⟨u,rfl,D,?_⟩;refine yu (i:=ti2) (v:=int (x.1+C)) (b:=b) (o:=0+u*1) (l:=il (Γ g.T) d) (st2:=F.un (xm S b B (Γ g.T) (zz d u (x.1+C)) (zz k t true))) rfl rfl rfl (zh (ε d _)) θa ?_ ?_
  .rw[Ii _ _ _ _ D,z8,hsd]
  refine Qd ?_;refine iz H Z L (υ F d (zz d u (x.1+C)) _ _ a) (x.1+C,(u:Int)) _ (λF' m' e1 e2 e3 e4=>?_);have hnote:=zgj Oo z hdn1 hdt1 D hedge c4 hlow e3;have P:t≠u:=λe=>by subst e;rw[hdn1]at c4;cases c4
  have hC:=hC.symm;refine Qd ?_;refine⟨(i+1,zz d u (x.1+C),F',m'),?_,⟨ζ,rfl,e1,e2,e4,?_,?_,hcb2,?_⟩,Qbt,⟨rfl,O⟩⟩
  .show 8-(i+1)<8-i;omega
  .refine eo hnote (λv hv hc=>?_);have ν:v=u:=by
    rw[hU]at hv;omega
   subst ν;dsimp only;rw[wg,js P,hdt1,<-hC];omega
  .dsimp only;rw[js P];exact hdt1
  .dsimp only;rw[e3.length_eq,Fbb];omega
 have hbig:=Ou A u;refine Qd ?_;refine⟨u,rfl,D,?_⟩;refine J (o:=(F.un (xm S b B (Γ g.T) d (zz k t true))).obj b) _ (zh (ε d _)) ?_;refine J _ (vk D) ?_;refine bcd (λc6=>?_) (λc6=>?_)
 .skip;have hlow:d u<0\/d t+C<d u:=Or.inr (show d t+C<d u by omega);have hcb2:=ct A D (t:=t) (u:=u) (c:=C) Z Z hlow;rw[hdt1]at hcb2 hlow;refine Qd ?_;refine⟨u,rfl,D,?_⟩;refine yu (i:=ti2) (v:=int (x.1+C)) (b:=b) (o:=0+u*1) (l:=il (Γ g.T) d) (st2:=F.un (xm S b B (Γ g.T) (zz d u (x.1+C)) (zz k t true))) rfl rfl rfl (zh (ε d _)) θa ?_ ?_
  .rw[Ii _ _ _ _ D,z8,hsd]
  refine Qd ?_;refine iz H Z L (υ F d (zz d u (x.1+C)) _ _ a) (x.1+C,(u:Int)) _ (λF' m' e1 e2 e3 e4=>?_);have hnote:=zgj Oo z hdn1 hdt1 D hedge c4 hlow e3;have P:t≠u:=λe=>by subst e;rw[hdn1]at c4;cases c4
  have hC:=hC.symm;refine Qd ?_;refine⟨(i+1,zz d u (x.1+C),F',m'),?_,⟨ζ,rfl,e1,e2,e4,?_,?_,hcb2,?_⟩,Qbt,⟨rfl,O⟩⟩
  .show 8-(i+1)<8-i;omega
  .refine eo hnote (λv hv hc=>?_);have ν:v=u:=by
    rw[hU]at hv;omega
   subst ν;dsimp only;rw[wg,js P,hdt1,<-hC];omega
  .dsimp only;rw[js P];exact hdt1
  .dsimp only;rw[e3.length_eq,Fbb];omega
 obtain⟨y,f1,f2,rfl⟩:=next (λhc v hv=>by have:v=u:=Z;subst this;omega)
 refine Qd ?_;exact⟨(i+1,d,F,m),f1,f2,Qbt,⟨rfl,O⟩⟩
end
def zkp{S:Store}{M:Nat}{g:Gnd}(P:zt g){l:List Bld}{c s:Int}(hn:S.obj M=Δ (.cells (jl g l c s)))(p:Nat)(ι:p<Γ g.T)(R:Ja)
  (h:∀b,Fresh S b->R (.s (.slice (Δ ⟨b,0,Θ⟩) (Γ g.T) (Γ g.T))) (S.sO b (.cells (il (Γ g.T) (xe g (zn g l c s) c (jc g (zn g l c s) c p)))))):
  Jb 506 [ptr M,int (p:Nat)] S R:=by
 have ha:=qg P;have hT:Γ g.T<=16384:=Z;refine Qy 71 func506 ?_;refine ypp P hn p ι _ (λb hf ο=>?_);generalize jc g (zn g l c s) c p=d at*;refine⟨ψ,?_⟩;refine zbv (-1) (Γ g.T) Z Z _ _ (λa K=>?_);have L:b≠a:=λe=>by have:=K.1;rw[<-e,zd]at this;cases this
 rw[<-zji g (zn g l c s) c d];have Q:=λf=>zka (n:=Γ g.T) hf K hn d f;have I:=λf=>zkd (S:=S) (n:=Γ g.T) L d f;have ε:=λf f'=>zj9 (S:=S) (b:=b) (b2:=a) (n:=Γ g.T) d f f';have τ:=λf=>zkc (S:=S) (b:=b) (b2:=a) (n:=Γ g.T) d f
 refine AWp.loop (σ:=Nat) ⟨λi=>[(0,.av (ptr M)),(5,.av (.s (.slice (Δ ⟨b,0,Θ⟩) (Γ g.T) (Γ g.T)))),(6,.av (.s (.slice (Δ ⟨a,0,Θ⟩) (Γ g.T) (Γ g.T)))),(20,.av (.s (.slice (Δ ⟨b,0,Θ⟩) (Γ g.T) (Γ g.T)))),(21,.av (int (Γ g.T:Nat))),(22,.av (int (i:Nat)))],λ_=>[],
  λi z=>i<=Γ g.T/\z=Ai S b a (Γ g.T) d (Cb g (zn g l c s) c d i),λi=>Γ g.T-i⟩ zb ?_ ?_
 .exact⟨0,O,⟨Fae _,rfl⟩,Qbt,O⟩
 rintro i z ⟨hi,rfl⟩;refine bcd (λc1=>?_) (λc1=>?_);rotate_left
 .have:i=Γ g.T:=Z;subst this;refine Dg (Tt) (zke hf L _ _) ?_;rw[zjj];exact h a (zkb L K)
 have y:i<Γ g.T:=Z
 -- on with the next tile
 have next:∀f,f=Cb g (zn g l c s) c d (i+1)->∃k:Nat,Γ g.T-k<Γ g.T-i/\(k<=Γ g.T/\Ai S b a (Γ g.T) d f=Ai S b a (Γ g.T) d (Cb g (zn g l c s) c d k))/\k=i+1:=λf e=>⟨i+1,Z,⟨Z,by rw[e]⟩,rfl⟩
 refine⟨i,rfl,y,?_⟩;refine J (o:=(Ai S b a (Γ g.T) d _).obj b) _ (I _) ?_;refine J _ (vk y) ?_;refine bcd (λX=>?_) (λX=>?_)
 .obtain⟨k,D,B,rfl⟩:=next _ (rp (rv X)).symm
  refine Qd ?_;exact⟨i+1,D,B,Qbt,O⟩
 refine J (o:=(Ai S b a (Γ g.T) d _).obj M) _ (Q _) ?_;refine dm g P i y _ _ ?_
 refine AWp.loop (σ:=Nat) ⟨λj=>[(0,.av (ptr M)),(5,.av (.s (.slice (Δ ⟨b,0,Θ⟩) (Γ g.T) (Γ g.T)))),(6,.av (.s (.slice (Δ ⟨a,0,Θ⟩) (Γ g.T) (Γ g.T)))),(7,.av (int (i:Nat))),(8,.av (int (d i))),(9,.bx 9 0),(20,.av (.s (.slice (Δ ⟨b,0,Θ⟩) (Γ g.T) (Γ g.T)))),(21,.av (int (Γ g.T:Nat))),(22,.av (int (i:Nat))),(35,.av (Oz g i)),(36,.av (int (j:Nat)))],λ_=>[(9,il 8 (yi g i))],
  λj z=>j<=8/\z=Ai S b a (Γ g.T) d (Cb g (zn g l c s) c d i)/\∀w,w<j->¬Ad g (zn g l c s) c d i w,λj=>8-j⟩ zb ?_ ?_
 .exact⟨0,O,⟨Fae _,rfl,λw V=>absurd V (Fav w)⟩,Qbt,⟨rfl,O⟩⟩
 rintro j z ⟨hj,rfl,H⟩;refine bcd (λc3=>?_) (λc3=>?_);rotate_left
 .have:j=8:=Z;subst this;obtain⟨k,D,B,rfl⟩:=next _ (rp (ru X H)).symm
  refine Qd ?_;exact⟨i+1,D,B,Qbt,O⟩
 have A:j<8:=Z;have hskip:¬Ad g (zn g l c s) c d i j->∃k:Nat,8-k<8-j/\(k<=8/\Ai S b a (Γ g.T) d (Cb g (zn g l c s) c d i)=Ai S b a (Γ g.T) d (Cb g (zn g l c s) c d i)/\∀w,w<k->¬Ad g (zn g l c s) c d i w)/\k=j+1:=λG=>⟨j+1,Z,⟨Z,rfl,λw V=>by
  by_cases e:w=j
  .subst e;exact G
  .exact H w Z⟩,rfl⟩
 have hyes:Ad g (zn g l c s) c d i j->xe g (zn g l c s) c d i=(j:Int):=λG=>rt X A G H;refine⟨j,rfl,A,?_⟩;refine J _ (ba A) ?_;refine ug P (Q _) i y j A _ ?_;have π:=Vq g (zn g l c s) c i j;have η:=dp P (t:=i) A;have ν:0<qk g (zn g l c s) c i j->0<=yi g i j:=λhp=>(n9 (ge (g:=g) (ok:=zn g l c s) (c:=c) (t:=i) (way:=j) Z)).1;unfold Ad at hskip hyes;generalize qk g (zn g l c s) c i j=C at*;generalize yi g i j=U at*;refine bcd (λW=>?_) (λW=>?_);rotate_left
 .obtain⟨k,D,B,rfl⟩:=hskip (λG=>W G.1);refine Qd ?_;exact⟨j+1,D,B,Qbt,⟨rfl,O⟩⟩
 have υ:=ν W;obtain⟨u,rfl,E⟩:∃u:Nat,U=(u:Int)/\u<Γ g.T:=by
  rcases η with h1|h1
  .omega
  .exact h1
 rw[Faz]at hskip hyes;have ς:=ο u;refine⟨u,rfl,E,?_⟩;refine J (o:=(Ai S b a (Γ g.T) d _).obj b) _ (I _) ?_;refine J _ (vk E) ?_;refine bcd (λc5=>?_) (λc5=>?_);rotate_left
 .obtain⟨k,D,B,rfl⟩:=hskip (λG=>c5 G.2.1);refine Qd ?_;exact⟨j+1,D,B,Qbt,⟨rfl,O⟩⟩
 refine⟨u,rfl,E,?_⟩;refine J (o:=(Ai S b a (Γ g.T) d _).obj b) _ (I _) ?_;refine J _ (vk E) ?_;refine Qd ?_;refine zp (λc6=>?_) (λc6=>?_);rotate_left
 .obtain⟨k,D,B,rfl⟩:=hskip (λG=>c6 G.2.2);refine Qd ?_;exact⟨j+1,D,B,Qbt,⟨rfl,O⟩⟩
 have V:=hyes ⟨W,c5,c6⟩;refine⟨i,rfl,y,?_⟩;refine yu (i:=ti2) (v:=int (j:Nat)) (b:=a) (o:=0+i*1) (l:=il (Γ g.T) (Cb g (zn g l c s) c d i)) (st2:=Ai S b a (Γ g.T) d (Cb g (zn g l c s) c d (i+1))) rfl rfl rfl (τ _) θa ?_ ?_
 .rw[Ii _ _ _ _ y,ε,rq,V]
 obtain⟨k,D,B,rfl⟩:=next _ rfl
 refine Qd ?_;exact⟨i+1,D,B,Qbt,O⟩
structure MoverG(gv:AV)(F G:Store)(mb s p:Nat)(w:Wld)(v:AV)(L:List Ent)(o0 o1 o2:AV):Prop where
 S:StandR F G s p w v L o0 o1 o2
 hx:G.obj mb=Δ (.cells [ptr s,gv])
 ox:jf v mb
 os:jf v s
 hL:Γ L<=Γ w.U
 hF:Fp w L
section
variable {gv v o0 o1 o2 q0 q1 q2:AV} {F G F':Store} {mb p i:Nat} {w:Wld}
theorem MoverG.ne{s:Nat}{L:List Ent}(h:MoverG gv F G mb s p w v L o0 o1 o2):mb≠s:=λe=>by have:=h.S.hs;rw[<-e,h.hx]at this;cases this
theorem MoverG.m{s:Nat}{a:Wld}{L:List Ent}(h:MoverG gv F G mb s p w v L o0 o1 o2):(F'.un (svS G s a v q0 q1 q2 p)).obj mb=Δ (.cells [ptr s,gv]):=
 zh (by show(G.sO s _).obj mb=_;rw[zi h.ne];exact h.hx)
theorem MoverG.s{s:Nat}{L:List Ent}(h:MoverG gv F G mb s p w v L o0 o1 o2):(F'.un (svS G s w v q0 q1 q2 p)).obj s=Δ (.cells (svC w v q0 q1 q2 p)):=zh (By _ _ _ _ _ _ _ _)
theorem MoverG.put{d:Store}{s:Nat}{L:List Ent}(h:MoverG gv F G mb s p w v L o0 o1 o2)(e:yw w.U)(f:i<Γ w.U){u:Unt}(a:w.U[i].id=u.id)(g:StandR F' d s p {w with U:=w.U.set i u} v (F0 L u) q0 q1 q2)
  (j:∀q,jf v q->d.obj q=G.obj q):MoverG gv F' d mb s p (yj w u) v (F0 L u) q0 q1 q2:=by
 rw[Cf e f a.symm];have b:=zcz h.hF e f a;refine⟨g,by rw[j mb h.ox];exact h.hx,h.ox,h.os,?_,b⟩;obtain⟨_,_,_,_,_,_,_,_,c⟩:=g.hc;exact zc0 c.n1 b
def mh{s:Nat}{L:List Ent}(b:MoverG gv F G mb s p w v L o0 o1 o2)(c:MayF w)(j:∀u∈w.U,u.pos.ok)(f:i<Γ w.U)(u:Unt)(a:w.U[i].id=u.id)(g:u.pos.ok)(R:Ja)
  (h:∀F' d o,MoverG gv F' d mb s p (yj w u) v o o0 o1 o2->R (.tup []) (F'.un (svS d s (yj w u) v o0 o1 o2 p))):
  Jb 287 [ptr s,.agg (zf u)] (F.un (svS G s w v o0 o1 o2 p)) R:=by
 have k:=c.hU;refine la b.S b.os c.hr Z (by have:=b.hL;omega) (Lu b.hF j) f u a g R λF' d n l=>?_;have e:=Cf c.hr f a.symm;have:=h F' d _ (b.put c.hr f a n l);exact this
def tg{s:Nat}{L:List Ent}(c:MoverG gv F G mb s p w v L o0 o1 o2)(hm:MayF w)(hn:∀u∈w.U,u.pos.ok)(hi:i<Γ w.U)(d:Vc)(hd:d.ok)(R:Ja)
  (h:∀F' G' L' q0 q1 q2,MoverG gv F' G' mb s p (xj w w.U[i] d) v L' q0 q1 q2->R (int (Bj w w.U[i] d)) (F'.un (svS G' s (xj w w.U[i] d) v q0 q1 q2 p))):
  Jb 306 [ptr mb,.agg (zf w.U[i]),.agg (zr d)] (F.un (svS G s w v o0 o1 o2 p)) R:=by
 have hU:=hm.hU;have hB:=hm.hB;have T:=sf hd;have Q:=hn _ (Faa hi);unfold xj Bj at h;have hhalf:=λk=>zex T k;have hzero:=λn k=>zki (w:=w) (u:=w.U[i]) (v:=qy d) (n:=n) (k:=k);have hnext:=λn k=>zkk (w:=w) (u:=w.U[i]) (v:=qy d) (n:=n) (k:=k);have hsome:=λn k=>zkj (w:=w) (u:=w.U[i]) (v:=qy d) (n:=n) (k:=k);have X:∀k,vn (qy d) k=((qy d).1.tdiv ((2^k:Nat):Int),(qy d).2.tdiv ((2^k:Nat):Int)):=λk=>rfl;refine Qy 53 func306 ?_;refine sg d _ _ ?_;generalize qy d=nd at*
 refine AWp.loop (σ:=Nat×Store×AV×AV×AV) ⟨λx=>[(0,.av (ptr mb)),(4,.bx 4 0),(5,.bx 5 0),(12,.av (int (x.1:Nat)))],λ_=>[(4,zf w.U[i]),(5,zr nd)],
  λx y=>x.1<=5/\y=x.2.1.un (svS G s w v x.2.2.1 x.2.2.2.1 x.2.2.2.2 p)/\StandR x.2.1 G s p w v L x.2.2.1 x.2.2.2.1 x.2.2.2.2/\qo w w.U[i] nd 5 0=qo w w.U[i] nd (5-x.1) x.1,λx=>5-x.1⟩ zb ?_ ?_
 .exact⟨(0,F,o0,o1,o2),O,⟨Fae _,rfl,c.S,rfl⟩,Qbt,⟨rfl,rfl,O⟩⟩
 rintro⟨k,F1,q0,q1,q2⟩ y ⟨hk,rfl,t,g⟩;dsimp only at hk t g⊢;refine bcd (λc1=>?_) (λc1=>?_);rotate_left
 .have:k=5:=Z;subst this;have g:qo w w.U[i] nd 5 0=Θ:=g;rw[g]at h;exact ret (h F1 G L q0 q1 q2 ⟨t,c.hx,c.ox,c.os,c.hL,c.hF⟩)
 have W:k<5:=Z;obtain⟨n,V⟩:∃n,5-k=n+1:=⟨4-k,Z⟩
 rw[V]at g;have P:=zaf W;have hkv:=X k;have hh:=hhalf k;have f:((2^k:Nat):Int)≠0:=by have:0<2^k:=Nat.pow_pos ψ;omega
 rw[<-P]at hkv f;have E:yr (nd.1.tdiv (IntKind.i64.wrap (1*2^(min ((k:Int)).toNat IntKind.i64.bits)))):=ψ8;have D:yr (nd.2.tdiv (IntKind.i64.wrap (1*2^(min ((k:Int)).toNat IntKind.i64.bits)))):=ψ9;have A:=hzero n k;have l:=hnext n k;have j:=hsome n k;refine Qc zb ycr ?_;refine⟨Z,?_⟩;refine⟨f,ze E ?_⟩;refine⟨Z,?_⟩;refine⟨f,ze D ?_⟩;refine⟨⟨?_,?_⟩,O⟩
 .repeat(first|exact O|refine⟨rfl,?_⟩|refine⟨⟨Z,rfl⟩,?_⟩|refine⟨⟨f,ze E rfl⟩,?_⟩|refine⟨⟨f,ze D rfl⟩,?_⟩)
 refine Qbx ?_;rw[hkv]at A l j hh;generalize nd.1.tdiv (IntKind.i64.wrap (1*2^(min ((k:Int)).toNat IntKind.i64.bits)))=a at*;generalize nd.2.tdiv (IntKind.i64.wrap (1*2^(min ((k:Int)).toNat IntKind.i64.bits)))=b at*;refine zg (λI=>?_) (λI=>?_)
 .have e:(a,b)=((0:Int),(0:Int)):=by
   simp only[Fay,beq_iff_eq]at I;exact Prod.ext I.1 I.2.1
  rw[A e]at g;rw[g]at h;exact ret (h F1 G L q0 q1 q2 ⟨t,c.hx,c.ox,c.os,c.hL,c.hF⟩)
 have C:(a,b)≠((0:Int),(0:Int)):=λe=>by cases e;exact absurd I ψ
 refine sn w.U[i].pos (a,b) Q (Wr hh) _ _ ?_;have B:=Wr (zdf w.U[i].pos (a,b));have l:=l C;have j:=j C;generalize xp w.U[i].pos (a,b)=np at*;refine Qc zb ycq ?_;refine J (o:=(F1.un (svS G s w v q0 q1 q2 p)).obj mb) _ c.m ?_;refine⟨gk t hm.hg Z hm.hb hm.hr Z hn c.hL c.hF w.U[i].id w.U[i].kind np B _ (λz F2 M a1 a2 hz H=>⟨O,?_⟩),O⟩;refine zg (λK=>?_) (λK=>?_);rotate_left
 .rw[l (λhh=>by rw[hz.2 hh]at K;cases K)]at g;refine Qd ?_;refine⟨(k+1,F2,M,a1,a2),?_,⟨ζ,rfl,H,?_⟩,Qbt,⟨rfl,rfl,O⟩⟩
  .show 5-(k+1)<5-k;omega
  .rw[g]
   congr 1
   omega
 rw[j (hz.1 K)]at g;rw[g]at h;have η:MoverG gv F2 G mb s p w v L M a1 a2:=⟨H,c.hx,c.ox,c.os,c.hL,c.hF⟩
 refine Qc zb ycs ?_;refine J (o:=(F2.un (svS G s w v M a1 a2 p)).obj mb) _ c.m ?_;refine⟨mh η hm hn hi {w.U[i]with pos:=np} rfl B _ (λF3 G3 L3 ε=>⟨O,?_⟩),O⟩;exact ret (h F3 G3 L3 M a1 a2 ε)
end
section
variable {gv v o0 o1 o2:AV} {F G:Store} {mb s p i:Nat} {w:Wld}
def yrg{L:List Ent}(c:MoverG gv F G mb s p w v L o0 o1 o2)(hm:MayF w)(hn:∀u∈w.U,u.pos.ok)(g:i<Γ w.U)(u:Unt)(a:w.U[i].id=u.id)(f:u.pos.ok)(z:Int)(R:Ja)
  (h:∀e d k,MoverG gv e d mb s p (yj w (j7 z u)) v k o0 o1 o2->R (.tup []) (e.un (svS d s (yj w (j7 z u)) v o0 o1 o2 p))):
  Jb 308 [ptr mb,.agg (zf u),int z] (F.un (svS G s w v o0 o1 o2 p)) R:=by
 refine Qy 17 func308 ?_;refine Qc zb yco ?_;refine J (o:=(F.un (svS G s w v o0 o1 o2 p)).obj mb) _ c.m ?_;refine⟨mh c hm hn g (j7 z u) a f _ (λn l j b=>⟨O,?_⟩),O⟩;exact ret (h n l j b)
def yn4{L:List Ent}(e:MoverG gv F G mb s p w v L o0 o1 o2)(hm:MayF w)(hn:∀u∈w.U,u.pos.ok)(b:∀u∈w.U,u.inn=0->xt u.pos)(Q:i<Γ w.U)(h0:w.U[i].inn=0)(R:Ja)
  (h:∀X V L' P M K,MoverG gv X V mb s p (Gr w w.U[i]) v L' P M K->R (.tup []) (X.un (svS V s (Gr w w.U[i]) v P M K p))):
  Jb 204 [ptr mb,.agg (zf w.U[i])] (F.un (svS G s w v o0 o1 o2 p)) R:=by
 have T:=hm.hU;have d:=b _ (Faa Q) h0;have τ:=Cg w.U[i].kind;have ν:=Na w.U[i].kind;have htiny:=zep d (λx j H=>b x j H) T;have hidl:=λ(a:List Unt) (H:L5 w w.U[i].pos (zw w.U[i].kind+16384+81920) a) h2=>yn3 (u:=w.U[i]) hm.hr H h2;unfold Gr at h;refine Qy 55 func204 ?_;refine ky _ _ _ ?_;refine Qc zb ye3 ?_;refine J (o:=(F.un (svS G s w v o0 o1 o2 p)).obj mb) _ e.m ?_;refine Qd ?_;refine⟨uw e.S hm.hr Z hn e.hL e.hF w.U[i].pos (Be d) (zw w.U[i].kind+16384) Z _ (λW a E l y ε=>⟨O,?_⟩),O⟩;have D:MoverG gv W G mb s p w v L o0 o1 o2:=⟨E,e.hx,e.ox,e.os,e.hL,e.hF⟩
 have B:=hidl a l y;have z:∀k,nV ((a.take k).foldl (Bn w.U[i]) (0,0)):=λk=>zdd _ ⟨⟨ψ,ψ⟩,⟨ψ,ψ⟩⟩
 refine AWp.loop (σ:=Nat) ⟨λk=>[(0,.av (ptr mb)),(3,.bx 3 0),(4,.bx 4 0),(5,.bx 5 0),(20,.av (lst 10 zf a)),(21,.av (int (Γ a:Nat))),(22,.av (int (k:Nat)))],λk=>[(3,zf w.U[i]),(4,D6 w.U[i].kind),(5,zr ((a.take k).foldl (Bn w.U[i]) (0,0)))],
  λk g=>k<=Γ a/\g=W.un (svS G s w v o0 o1 o2 p),λk=>Γ a-k⟩ zb ?_ ?_
 .refine⟨0,O,⟨Fae _,rfl⟩,⟨Y,Y,Y,Y,Y,?_,Y,O⟩,⟨rfl,rfl,rfl,O⟩⟩;exact LV.le_int (by rw[zj])
 rintro k g ⟨hk,rfl⟩;refine bcd (λc1=>?_) (λc1=>?_);rotate_left
 .have:k=Γ a:=Z;have hv:(a.take k).foldl (Bn w.U[i]) (0,0)=Bz w w.U[i]:=by
   rw[this,Fal,B]
  rw[<-hv]at h htiny;have n:(xa w.U[i].kind).tdiv 4=xa w.U[i].kind/4:=Fat Z;refine Qc zb ye1 ?_;refine⟨ψ,ze (by rw[n];omega) ?_⟩;refine⟨de ((a.take k).foldl (Bn w.U[i]) (0,0)) ((xa w.U[i].kind).tdiv 4) htiny (by rw[n];omega) _ _ ⟨Qe,?_⟩,O⟩;refine⟨tg D hm hn Q _ (Ld htiny) _ (λF3 G3 L3 a0 a1 a2 C=>⟨O,?_⟩),O⟩;exact ret (h F3 G3 L3 a0 a1 a2 C)
 have c:k<Γ a:=Z;have j:=(l a[k]).1 (Faa c);have t:=b _ j.1.1 j.1.2;have ι:=Cg a[k].kind;refine⟨k,rfl,J _ (zm c) ?_⟩;have hstep:(a.take (k+1)).foldl (Bn w.U[i]) (0,0)=Bn w.U[i] ((a.take k).foldl (Bn w.U[i]) (0,0)) a[k]:=by rw[Fab c,Fdu];rfl
 refine qd (λI=>?_) (λI=>?_);rotate_left
 .have f:(a.take (k+1)).foldl (Bn w.U[i]) (0,0)=(a.take k).foldl (Bn w.U[i]) (0,0):=by
   rw[hstep];unfold Bn;rw[if_neg (λhh=>hh I)]
  refine Qd ?_;refine⟨k+1,?_,⟨c,rfl⟩,Qbt,⟨rfl,rfl,congrArg (λx=>Δ (zr x)) f.symm,O⟩⟩;show Γ a-(k+1)<Γ a-k;omega
 have f:(a.take (k+1)).foldl (Bn w.U[i]) (0,0)=xp ((a.take k).foldl (Bn w.U[i]) (0,0)) (vj w.U[i].pos (zw w.U[i].kind+zw a[k].kind+16384) a[k].pos):=by rw[hstep];unfold Bn;rw[if_pos I]
 have η:=Wh d t (r:=zw w.U[i].kind+zw a[k].kind+16384) Z;have A:=z k;refine Qc zb ye2 ?_;refine⟨ky _ _ _ ⟨Qe,?_⟩,O⟩;refine Qd ?_;refine Qd ?_;refine⟨yay w.U[i].pos (zw w.U[i].kind+zw a[k].kind+16384) a[k].pos d t Z _ _ ⟨Qe,?_⟩,O⟩;refine⟨sn _ _ (Wr A) ⟨⟨Z,Z⟩,⟨Z,Z⟩⟩ _ _ ⟨Qe,?_⟩,O⟩;refine Qbw ?_;refine Qd ?_;refine⟨k+1,?_,⟨c,rfl⟩,Qbt,⟨rfl,rfl,congrArg (λx=>Δ (zr x)) f.symm,O⟩⟩;show Γ a-(k+1)<Γ a-k;omega
end
end Go.Proofs
namespace Go.Proofs
open Go Go.V
set_option maxRecDepth 20000
set_option maxHeartbeats 4000000
end Go.Proofs
namespace Go.Proofs
open Go Go.V Tryz
set_option maxRecDepth 20000
set_option maxHeartbeats 4000000
def ynt{S:Store}{b n:Nat}{f:Nat->Int}(hb:S.obj b=Δ (.cells (il n f)))(hn:n<=1000000)(x:Int)(R:Ja)(h:∀r:Int,((0:Int)<=r↔(List.range n).any (λj=>f j==x)=true)->R (int r) S):
  Jb 439 [.s (.slice (Δ ⟨b,0,Θ⟩) n n),int x] S R:=by
 refine Qy 19 func439 ?_
 refine AWp.loop (σ:=Nat) ⟨λi=>[(0,.av (.s (.slice (Δ ⟨b,0,Θ⟩) n n))),(1,.av (int x)),(7,.av (int (n:Nat))),(8,.av (int (i:Nat)))],λ_=>[],
  λi d=>i<=n/\d=S/\∀j,j<i->(f j==x)=false,λi=>n-i⟩ zb ?_ ?_
 .exact⟨0,O,⟨Fae _,rfl,λj k=>absurd k (Fav j)⟩,Qbt,O⟩
 rintro i d ⟨o,rfl,a⟩;refine bcd (λl=>?_) (λl=>?_);rotate_left
 .have:i=n:=Z;subst this;refine ret (h (-1) ?_);rw[yu2 a];simp
 have c:i<n:=Z;refine⟨i,rfl,c,?_⟩;refine Qby ?_;refine J _ (vk c) ?_;refine zp (λg=>?_) (λg=>?_)
 .refine ret (h i ?_);rw[yu3 c (by rw[g];simp)];simp
 .refine Qd ?_;refine⟨i+1,?_,⟨Z,rfl,λj k=>?_⟩,Qbt,O⟩
  .show n-(i+1)<n-i;omega
  .by_cases e:j=i
   .subst e;rw[beq_eq_false_iff_ne];exact λe=>g e.symm
   .exact a j Z
def ys6{S:Store}{b n:Nat}{f:Nat->Int}(hb:S.obj b=Δ (.cells (il n f)))(hn:n<=1000000)(x:Int)(R:Ja)(h:R (V.bool ((List.range n).any (λj=>f j==x))) S):
  Jb 385 [.s (.slice (Δ ⟨b,0,Θ⟩) n n),int x] S R:=by
 refine Qy 9 func385 ?_;refine ynt hb hn x _ (λr a=>?_);have e:decide (r>=0)=(List.range n).any (λj=>f j==x):=by rw[Fbm,decide_eq_true_iff];exact a
 rw[<-e]at h;exact ret h
end Go.Proofs
namespace Go.Proofs
open Go Go.V
set_option maxRecDepth 20000
set_option maxHeartbeats 4000000
def My{g:Gnd}(a:zt g){t:Int}(h:Ak g t):t=-1\/∃k:Nat,t=k/\k<Γ g.T:=by
 rcases h with h|⟨b,c⟩
 .exact .inl h
 .obtain⟨k,rfl⟩:=Fbk b;exact .inr ⟨k,rfl,by have:=a.2.2.1;omega⟩
theorem zkh{w:Wld}{u:Unt}{d:Vc}(h:¬Bj w u d<5):xj w u d=w:=by
 unfold Bj at h;unfold xj;cases a:qo w u (qy d) 5 0 with
 |none=>rfl
 |some r=>
  rw[a]at h;obtain⟨k,q⟩:=r;have:=(Ve _ _ a).2.1.2;dsimp only at this h;exact absurd Z h
end Go.Proofs
namespace Go.Proofs
open Go Go.V Tryz
set_option maxRecDepth 20000
set_option maxHeartbeats 4000000
section
variable {a g X N:Store} {gx:Value} {M n mb p:Nat} {w:Wld} {c:Int} {v o0 o1 o2:AV}
abbrev gvOf(gt:TypeId)(gx:Value):AV:=.s (.iface gt gx)
theorem H3(d:zl a g):a.un g=g.un a:=by
 show Store.mk _ _=Store.mk _ _
 congr 1
 .funext i
  show(match g.obj i with|some x=>Δ x|none=>a.obj i)=match a.obj i with|some x=>Δ x|none=>g.obj i
  cases b:a.obj i with
  |none=>cases g.obj i<;>rfl
  |some x=>rw[(jt (d i (xk b))).1]
 .funext i
  show(match g.tok i with|some x=>Δ x|none=>a.tok i)=match a.tok i with|some x=>Δ x|none=>g.tok i
  cases b:a.tok i with
  |none=>cases g.tok i<;>rfl
  |some x=>rw[(jt (d i (Ry b))).2]
def Iu(h:zl a g):zl g a:=λb e d=>h b d e
structure GuideK(gt:TypeId)(gx:Value)(K:Nat->Store->Prop)(M:Nat)(w:Wld):Prop where
 net:∀{n:Nat} {N:Store} {c s:Int},K n N->(c=0\/c=1\/c=2)->(0<=s/\s<=3)->∀R:AV->Store->Prop,(∀b N',K n N'->N'.obj b=Δ (.cells (jl w.G w.B c s))->R (ptr b) N')->
  ∃ g x, Meets Tryz.prog gt gx "Net" g x /\ Jb g [x, .agg (zq w.G), lst 6 zk w.B, int c, int s] N R
 ways:∀{n:Nat} {N:Store} {c s:Int},K n N->n<M->(c=0\/c=1\/c=2)->(0<=s/\s<=3)->∀goal:Nat,goal<Γ w.G.T->∀R:AV->Store->Prop,
  (∀b N',K (n+1) N'->N'.obj b=Δ (.cells (il (Γ w.G.T) (xe w.G (zn w.G w.B c s) c (jc w.G (zn w.G w.B c s) c goal))))->R (.s (.slice (Δ ⟨b,0,Θ⟩) (Γ w.G.T) (Γ w.G.T))) N')->
  ∃ g x, Meets Tryz.prog gt gx "Ways" g x /\ Jb g [x, .agg (zq w.G), lst 6 zk w.B, int c, int s, int (goal : Nat)] N R
def GuideK.netX{l:TypeId}{K:Nat->Store->Prop}(z:GuideK l gx K M w)(k:zl X N)(y:K n N){s:Int}(u:c=0\/c=1\/c=2)(o:0<=s/\s<=3)(R:Ja)
  (h : ∀ b e, zl X e -> K n e -> e.obj b = Δ (.cells (jl w.G w.B c s)) -> R (ptr b) (X.un e)) : ∃ g x, Meets Tryz.prog l gx "Net" g x /\ Jb g [x, .agg (zq w.G), lst 6 zk w.B, int c, int s] (X.un N) R := by
 obtain⟨g,x,t,f⟩:=z.net y u o (λr S=>∃b,r=ptr b/\K n S/\S.obj b=Δ (.cells (jl w.G w.B c s))) (λb C j i=>⟨b,rfl,j,i⟩);refine⟨g,x,t,?_⟩;rw[H3 k];refine ACalls.frame (Iu k) f ?_;rintro r A ⟨b,rfl,j,i⟩ d;rw[H3 d];exact h b A (Iu d) j i
def GuideK.waysX{t:TypeId}{K:Nat->Store->Prop}(D:GuideK t gx K M w)(o:zl X N)(C:K n N)(y:n<M){s:Int}(A:c=0\/c=1\/c=2)(u:0<=s/\s<=3)(d:Nat)(i:d<Γ w.G.T)(R:Ja)
  (h:∀b f,zl X f->K (n+1) f->f.obj b=Δ (.cells (il (Γ w.G.T) (xe w.G (zn w.G w.B c s) c (jc w.G (zn w.G w.B c s) c d))))->R (.s (.slice (Δ ⟨b,0,Θ⟩) (Γ w.G.T) (Γ w.G.T))) (X.un f)):
  ∃ g x, Meets Tryz.prog t gx "Ways" g x /\ Jb g [x, .agg (zq w.G), lst 6 zk w.B, int c, int s, int (d : Nat)] (X.un N) R := by
 obtain⟨g,x,z,j⟩:=D.ways C y A u d i (λr S=>∃b,r=.s (.slice (Δ ⟨b,0,Θ⟩) (Γ w.G.T) (Γ w.G.T))/\K (n+1) S/\S.obj b=Δ (.cells (il (Γ w.G.T) (xe w.G (zn w.G w.B c s) c (jc w.G (zn w.G w.B c s) c d))))) (λb H l k=>⟨b,rfl,l,k⟩);refine⟨g,x,z,?_⟩;rw[H3 o];refine ACalls.frame (Iu o) j ?_;rintro r E ⟨b,rfl,l,k⟩ e;rw[H3 e];exact h b E (Iu e) l k
def ymt{gt:TypeId}{K:Nat->Store->Prop}(hG:GuideK gt gx K M w)(C:zl X N)(hK:K n N){s:Nat}(A:X.obj mb=Δ (.cells [ptr s,gvOf gt gx]))(I:X.obj s=Δ (.cells (svC w v o0 o1 o2 p)))(hm:MayF w)(u:Unt)(L:u.next=-1\/∃t:Nat,u.next=t/\t<Γ w.G.T)(own:Nat)(ho:own<Γ w.G.T)(R:Ja)
  (h:∀o,zl X o->K n o->R (V.bool (Bs w u own)) (X.un o)):Jb 310 [ptr mb,.agg (zf u),int (own:Nat)] (X.un N) R:=by
 obtain⟨S,f⟩:∃S,X.un N=S:=⟨_,rfl⟩
 have η:S.obj mb=Δ (.cells [ptr s,gvOf gt gx]):=f▸yf C A;have hs:S.obj s=Δ (.cells (svC w v o0 o1 o2 p)):=f▸yf C I;rw[f];have hB:=hm.hB;unfold Bs okU at h;refine Qb (c:=cfg 77 [9] []) zb func310 ?_;refine AWp.seq (AWp.of_vc zb ?_);refine AWp.meet (σ:=Unit) ⟨λ_=>[(0,.av (ptr mb)),(2,.av (int (own:Nat))),(4,.bx 4 0),(7,.bx 7 0),(8,.bx 8 0)],λ_=>[(4,zf u),(7,zq w.G),(8,D6 u.kind)],λ_ z=>z=S⟩ zb ?_ ?_
 .refine Qc zb ycm ?_;refine Qby ?_;refine Qby ?_;exact⟨ky _ _ _ ⟨Qe,⟨⟨Qe,⟨⟨Qe,⟨⟨O,⟨⟨O,⟨(),rfl,Qbt,⟨rfl,rfl,rfl,O⟩⟩⟩,O⟩⟩,O⟩⟩,O⟩⟩,⟨⟨Qe,⟨⟨Qe,⟨⟨O,⟨⟨O,⟨(),rfl,Qbt,⟨rfl,rfl,rfl,O⟩⟩⟩,O⟩⟩,O⟩⟩,O⟩⟩,O⟩⟩⟩,⟨⟨Qe,⟨ky _ _ _ ⟨Qe,⟨⟨Qe,⟨⟨O,⟨⟨O,⟨(),rfl,Qbt,⟨rfl,rfl,rfl,O⟩⟩⟩,O⟩⟩,O⟩⟩,O⟩⟩,⟨⟨Qe,⟨ky _ _ _ ⟨Qe,⟨⟨O,⟨⟨O,⟨(),rfl,Qbt,⟨rfl,rfl,rfl,O⟩⟩⟩,O⟩⟩,O⟩⟩,O⟩⟩,O⟩⟩⟩,⟨⟨Qe,⟨ky _ _ _ ⟨Qe,⟨⟨Qe,⟨⟨O,⟨⟨O,⟨(),rfl,Qbt,⟨rfl,rfl,rfl,O⟩⟩⟩,O⟩⟩,O⟩⟩,O⟩⟩,⟨⟨Qe,⟨ky _ _ _ ⟨Qe,⟨⟨O,⟨⟨O,⟨(),rfl,Qbt,⟨rfl,rfl,rfl,O⟩⟩⟩,O⟩⟩,O⟩⟩,O⟩⟩,O⟩⟩⟩,O⟩⟩⟩
 rintro _ z rfl;refine AWp.of_vc zb ?_;have hk:=Kl u.kind;refine Qc zb ycl ?_;refine zp (λD=>?_) (λD=>?_)
 .refine Qbw ?_;refine Qbw ?_;rw[decide_eq_true D]at h;have d:=h N C hK;rw[f]at d;exact ret d
 obtain⟨t,y,k⟩:∃t:Nat,u.next=t/\t<Γ w.G.T:=by
  rcases L with h1|h1
  .exact absurd h1 D
  .exact h1
 rw[decide_eq_false D,y,Faz]at h;refine⟨Wu w.G hm.hg t k u.next y _ _ ⟨Qe,?_⟩,O⟩;refine zg (λj=>?_) (λj=>?_)
 .refine Qbw ?_;have e:u.pos=ye w.G t:=by
   simp only[Fay,beq_iff_eq]at j;exact Prod.ext j.1 j.2.1
  rw[decide_eq_true e]at h;have d:=h N C hK;rw[f]at d;exact ret d
 have e:¬u.pos=ye w.G t:=λe=>by
  simp only[e,Fc3,beq_eq_false_iff_ne]at j;rcases j with j|j|j
  .exact j rfl
  .exact j rfl
  .cases j
 rw[decide_eq_false e]at h;refine Qby ?_;refine Qby ?_;refine Qby ?_;subst f;refine⟨hG.netX C hK (Hp u.kind) hk _ (λb o U ε W=>⟨Qe,?_⟩),O⟩;have hmb2:(X.un o).obj b=Δ (.cells (jl w.G w.B (yk u.kind) (qn u.kind))):=zh W;have d:=h o U ε;generalize X.un o=H at*;refine Qby ?_;have htl2:t<(blL (Γ w.G.T) (zn w.G w.B (yk u.kind) (qn u.kind))).length:=by rw[jd];exact k
 refine⟨t,y,J _ (zm htl2) ?_⟩;rw[Cm k];refine ya ?_;refine zg (λc3=>?_) (λc3=>?_);rotate_left
 .rw[c3]at d;exact ret d
 rw[c3]at d;refine dm w.G hm.hg own ho _ _ ?_;intro E Q;have e9:zu (List.replicate 8 (int 0)) 0 (il 8 (yi w.G own))=il 8 (yi w.G own):=by unfold zu;rw[xi];simp
 refine kh (i:=ti422) (v:=Oz w.G own) (xs:=il 8 (yi w.G own)) (l:=List.replicate 8 (int 0)) rfl rfl rfl (zd _ _ _) (by rw[xi,Fbh];decide) ?_;rw[e9,ym];have h9:(H.sO E (.cells (il 8 (yi w.G own)))).obj E=Δ (.cells (il 8 (yi w.G own))):=zd _ _ _;have hback2:(H.sO E (.cells (il 8 (yi w.G own)))).Has H:=Cw Q.1;generalize H.sO E (.cells (il 8 (yi w.G own)))=S3 at*;rw[ylu]at d;refine Qc zb yck ?_;refine qd (λc4=>?_) (λc4=>?_);rotate_left
 .refine Qbw ?_;refine Qbx ?_;rw[decide_eq_false (λP=>P (y.symm.trans c4))]at d;exact Dg (Tt) hback2 d
 refine⟨ys6 h9 ψ u.next _ ⟨Qe,?_⟩,O⟩;refine Qbx ?_;rw[decide_eq_true (show(t:Int)≠(own:Int)from λP=>c4 (y.trans P))]at d;rw[y];exact Dg (Tt) hback2 d
def ylm{U:TypeId}{K:Nat->Store->Prop}(hG:GuideK U gx K M w)(E:n<M)(C:zl X N)(hK:K n N){s:Nat}(y:X.obj mb=Δ (.cells [ptr s,gvOf U gx]))(D:X.obj s=Δ (.cells (svC w v o0 o1 o2 p)))(hm:MayF w)(u:Unt)(d:Nat)(z:u.goal=d)(I:d<Γ w.G.T)(own:Nat)(A:own<Γ w.G.T)(R:Ja)
  (h:∀n2 o,n2<=n+1->zl X o->K n2 o->R (int (Bb w u own)) (X.un o)):Jb 311 [ptr mb,.agg (zf u),int (own:Nat)] (X.un N) R:=by
 obtain⟨S,k⟩:∃S,X.un N=S:=⟨_,rfl⟩
 have ε:S.obj mb=Δ (.cells [ptr s,gvOf U gx]):=k▸yf C y;have hs:S.obj s=Δ (.cells (svC w v o0 o1 o2 p)):=k▸yf C D;rw[k];have hB:=hm.hB;unfold Bb okU at h;have hk:=Kl u.kind;rw[z,Faz]at h;refine Qb (c:=cfg 60) zb func311 ?_;refine AWp.seq (AWp.of_vc zb ?_);refine AWp.meet (σ:=Unit) ⟨λ_=>[(0,.av (ptr mb)),(2,.av (int (own:Nat))),(4,.bx 4 0),(7,.bx 7 0),(8,.bx 8 0)],λ_=>[(4,zf u),(7,zq w.G),(8,D6 u.kind)],λ_ t=>t=S⟩ zb ?_ ?_
 .refine Qc zb ycj ?_;refine Qby ?_;refine Qby ?_;exact⟨ky _ _ _ ⟨Qe,⟨⟨Qe,⟨⟨Qe,⟨⟨O,⟨⟨O,⟨(),rfl,Qbt,⟨rfl,rfl,rfl,O⟩⟩⟩,O⟩⟩,O⟩⟩,O⟩⟩,⟨⟨Qe,⟨⟨Qe,⟨⟨O,⟨⟨O,⟨(),rfl,Qbt,⟨rfl,rfl,rfl,O⟩⟩⟩,O⟩⟩,O⟩⟩,O⟩⟩,O⟩⟩⟩,⟨⟨Qe,⟨ky _ _ _ ⟨Qe,⟨⟨Qe,⟨⟨O,⟨⟨O,⟨(),rfl,Qbt,⟨rfl,rfl,rfl,O⟩⟩⟩,O⟩⟩,O⟩⟩,O⟩⟩,⟨⟨Qe,⟨ky _ _ _ ⟨Qe,⟨⟨O,⟨⟨O,⟨(),rfl,Qbt,⟨rfl,rfl,rfl,O⟩⟩⟩,O⟩⟩,O⟩⟩,O⟩⟩,O⟩⟩⟩,⟨⟨Qe,⟨ky _ _ _ ⟨Qe,⟨⟨Qe,⟨⟨O,⟨⟨O,⟨(),rfl,Qbt,⟨rfl,rfl,rfl,O⟩⟩⟩,O⟩⟩,O⟩⟩,O⟩⟩,⟨⟨Qe,⟨ky _ _ _ ⟨Qe,⟨⟨O,⟨⟨O,⟨(),rfl,Qbt,⟨rfl,rfl,rfl,O⟩⟩⟩,O⟩⟩,O⟩⟩,O⟩⟩,O⟩⟩⟩,O⟩⟩⟩
 rintro _ t rfl;refine AWp.of_vc zb ?_;refine Qc zb yci ?_;refine⟨Wu w.G hm.hg own A (own:Nat) rfl _ _ ⟨Qe,?_⟩,O⟩;refine ya ?_;refine zg (λi=>?_) (λi=>?_);rotate_left
 .have e:u.pos≠ye w.G own:=λe=>by
   simp only[e,Fc3,beq_eq_false_iff_ne]at i;rcases i with i|i|i
   .exact i rfl
   .exact i rfl
   .cases i
  rw[if_pos e]at h;have l:=h n N (Fdd n) C hK;rw[k]at l;exact ret l
 have e:¬u.pos≠ye w.G own:=λe=>e (by simp only[Fay,beq_iff_eq]at i;exact Prod.ext i.1 i.2.1);rw[if_neg e]at h;dsimp only at h;refine Qc zb ych ?_;refine Qby ?_;refine Qby ?_;refine Qby ?_;refine⟨?_,O⟩;subst k;show∃g x,Meets _ _ _ _ g x/\ACalls _ g [x,_,_,_,_,int u.goal] _ _;rw[z];refine hG.waysX C hK E (Hp u.kind) hk d I _ (λb o L Q P=>⟨Qe,?_⟩);have hmb2:(X.un o).obj b=Δ (.cells (il (Γ w.G.T) (xe w.G (zn w.G w.B (yk u.kind) (qn u.kind)) (yk u.kind) (jc w.G (zn w.G w.B (yk u.kind) (qn u.kind)) (yk u.kind) d)))):=zh P;have l:=h (n+1) o (Fai _) L Q;generalize X.un o=S2 at*;have hway:=zjo w.G (zn w.G w.B (yk u.kind) (qn u.kind)) (yk u.kind) (jc w.G (zn w.G w.B (yk u.kind) (qn u.kind)) (yk u.kind) d) own;have H:=vk (f:=xe w.G (zn w.G w.B (yk u.kind) (qn u.kind)) (yk u.kind) (jc w.G (zn w.G w.B (yk u.kind) (qn u.kind)) (yk u.kind) d)) A;refine⟨own,rfl,A,?_⟩;refine Qby ?_;refine J _ H ?_;generalize xe w.G (zn w.G w.B (yk u.kind) (qn u.kind)) (yk u.kind) (jc w.G (zn w.G w.B (yk u.kind) (qn u.kind)) (yk u.kind) d) own=W at*;refine Qbx ?_;refine bcd (λV=>?_) (λV=>?_)
 .rw[if_pos V]at l;exact ret l
 rw[if_neg V]at l;obtain⟨j,hj,rfl⟩:∃j:Nat,j<8/\W=(j:Int):=by
  rcases hway with h1|⟨j,h1,h2,_⟩
  .omega
  .exact⟨j,h1,h2⟩
 rw[Faz]at l;refine dm w.G hm.hg own A _ _ ?_;refine⟨j,rfl,hj,?_⟩;refine J _ (ba hj) ?_;exact ret l
end
section
variable {gv v o0 o1 o2:AV} {F G N:Store} {mb s p i M n:Nat} {w:Wld} {gx:Value}
def zdk{L:List Ent}(o:MoverG gv F G mb s p w v L o0 o1 o2)(l:zl (F.un (svS G s w v o0 o1 o2 p)) N)(j:MayF w)(g:∀u∈w.U,u.pos.ok)(k:i<Γ w.U)(u:Unt)(d:w.U[i].id=u.id)(f:u.pos.ok)(R:Ja)
  (h:∀b a c,MoverG gv b a mb s p (yj w u) v c o0 o1 o2->zl (b.un (svS a s (yj w u) v o0 o1 o2 p)) N->R (.tup []) ((b.un (svS a s (yj w u) v o0 o1 o2 p)).un N)):Jb 287 [ptr s,.agg (zf u)] ((F.un (svS G s w v o0 o1 o2 p)).un N) R:=by
 refine ACalls.frame l (mh o j g k u d f (λr S=>∃b a c,MoverG gv b a mb s p (yj w u) v c o0 o1 o2/\S=b.un (svS a s (yj w u) v o0 o1 o2 p)/\r=.tup []) (λb a c h=>⟨b,a,c,h,rfl,rfl⟩)) ?_;rintro r y ⟨b,a,c,t,rfl,rfl⟩ e;exact h b a c t e
def ou{L:List Ent}(o:MoverG gv F G mb s p w v L o0 o1 o2)(l:zl (F.un (svS G s w v o0 o1 o2 p)) N)(j:MayF w)(g:∀u∈w.U,u.pos.ok)(k:i<Γ w.U)(u:Unt)(d:w.U[i].id=u.id)(f:u.pos.ok)(z:Int)(R:Ja)
  (h:∀b a c,MoverG gv b a mb s p (yj w (j7 z u)) v c o0 o1 o2->zl (b.un (svS a s (yj w (j7 z u)) v o0 o1 o2 p)) N->R (.tup []) ((b.un (svS a s (yj w (j7 z u)) v o0 o1 o2 p)).un N)):Jb 308 [ptr mb,.agg (zf u),int z] ((F.un (svS G s w v o0 o1 o2 p)).un N) R:=by
 refine ACalls.frame l (yrg o j g k u d f z (λr S=>∃b a c,MoverG gv b a mb s p (yj w (j7 z u)) v c o0 o1 o2/\S=b.un (svS a s (yj w (j7 z u)) v o0 o1 o2 p)/\r=.tup []) (λb a c h=>⟨b,a,c,h,rfl,rfl⟩)) ?_;rintro r y ⟨b,a,c,t,rfl,rfl⟩ e;exact h b a c t e
def zkm{L:List Ent}(z:MoverG gv F G mb s p w v L o0 o1 o2)(y:zl (F.un (svS G s w v o0 o1 o2 p)) N)(o:MayF w)(l:∀u∈w.U,u.pos.ok)(t:i<Γ w.U)(d:Vc)(j:d.ok)(R:Ja)
  (h:∀f e g c b a,MoverG gv f e mb s p (xj w w.U[i] d) v g c b a->zl (f.un (svS e s (xj w w.U[i] d) v c b a p)) N->R (int (Bj w w.U[i] d)) ((f.un (svS e s (xj w w.U[i] d) v c b a p)).un N)):Jb 306 [ptr mb,.agg (zf w.U[i]),.agg (zr d)] ((F.un (svS G s w v o0 o1 o2 p)).un N) R:=by
 refine ACalls.frame y (tg z o l t d j (λr S=>∃f e g c b a,MoverG gv f e mb s p (xj w w.U[i] d) v g c b a/\S=f.un (svS e s (xj w w.U[i] d) v c b a p)/\r=int (Bj w w.U[i] d)) (λf e g c b a h=>⟨f,e,g,c,b,a,h,rfl,rfl⟩)) ?_;rintro r B ⟨f,e,g,c,b,a,A,rfl,rfl⟩ k;exact h f e g c b a A k
def yn8{L:List Ent}(y:MoverG gv F G mb s p w v L o0 o1 o2)(t:zl (F.un (svS G s w v o0 o1 o2 p)) N)(l:MayF w)(k:∀u∈w.U,u.pos.ok)(g:∀u∈w.U,u.inn=0->xt u.pos)(o:i<Γ w.U)(A:w.U[i].inn=0)(R:Ja)
  (h:∀e d f c b a,MoverG gv e d mb s p (Gr w w.U[i]) v f c b a->zl (e.un (svS d s (Gr w w.U[i]) v c b a p)) N->R (.tup []) ((e.un (svS d s (Gr w w.U[i]) v c b a p)).un N)):Jb 204 [ptr mb,.agg (zf w.U[i])] ((F.un (svS G s w v o0 o1 o2 p)).un N) R:=by
 refine ACalls.frame t (yn4 y l k g o A (λr S=>∃e d f c b a,MoverG gv e d mb s p (Gr w w.U[i]) v f c b a/\S=e.un (svS d s (Gr w w.U[i]) v c b a p)/\r=.tup []) (λe d f c b a h=>⟨e,d,f,c,b,a,h,rfl,rfl⟩)) ?_;rintro r B ⟨e,d,f,c,b,a,z,rfl,rfl⟩ j;exact h e d f c b a z j
def ypg{gt:TypeId}{K:Nat->Store->Prop}(hG:GuideK gt gx K M w)(hnM:n<M){L:List Ent}(C:MoverG (gvOf gt gx) F G mb s p w v L o0 o1 o2)(P:zl (F.un (svS G s w v o0 o1 o2 p)) N)(Q:K n N)(b:yd w)(hn:∀u∈w.U,u.pos.ok)(B:i<Γ w.U)(h0:w.U[i].inn=0)(ς:w.U[i].goal≠-1)(R:Ja)
  (h:∀F' G' L' q0 q1 q2 n2 A,n2<=n+1->MoverG (gvOf gt gx) F' G' mb s p (Cx w w.U[i]) v L' q0 q1 q2->zl (F'.un (svS G' s (Cx w w.U[i]) v q0 q1 q2 p)) A->K n2 A->R (.tup []) ((F'.un (svS G' s (Cx w w.U[i]) v q0 q1 q2 p)).un A)):
  Jb 205 [ptr mb,.agg (zf w.U[i])] ((F.un (svS G s w v o0 o1 o2 p)).un N) R:=by
 have hm:=xr b;have E:=Sz b B;have hon:=lm b B h0;have hown:=Wj b B h0;have g:=Hn b (Faa B) h0;obtain⟨goal,X,υ⟩:∃k:Nat,w.U[i].goal=k/\k<Γ w.G.T:=by
  rcases My hm.hg E.2.1.1 with D|D
  .exact absurd D ς
  .exact D
 have ι:=My hm.hg E.2.1.2.1;have hstk:=E.2.1.2.2;have ν:=lu (w:=w) hm.hg (u:=w.U[i]) hown;have hgoes:Cx w w.U[i]=if w.U[i].pos=ye w.G goal then yj w (j7 2 w.U[i])else if Bs w w.U[i] (wh w.G w.U[i].pos)then(if Bb w w.U[i] (wh w.G w.U[i].pos)<0 then yj w (j7 3 w.U[i])else Ay w {w.U[i]with next:=Bb w w.U[i] (wh w.G w.U[i].pos)})else Ay w w.U[i]:=by
  have e:w.U[i].goal.toNat=goal:=by rw[X,Faz]
  unfold Cx;rw[e]
 have hlook1:Bs w w.U[i] (wh w.G w.U[i].pos)=false->w.U[i].next≠-1:=λhh e=>by unfold Bs at hh;rw[decide_eq_true e]at hh;simp at hh
 obtain⟨own,hownE⟩:∃own,wh w.G w.U[i].pos=own:=⟨_,rfl⟩
 rw[hownE]at hown ν hgoes hlook1;refine Qb (c:=cfg 84) zb func205 ?_;refine AWp.seq (AWp.of_vc zb ?_);refine AWp.seq (AWp.of_vc zb ?_);refine J (o:=((F.un (svS G s w v o0 o1 o2 p)).un N).obj mb) _ (yf P C.m) ?_;refine J (o:=((F.un (svS G s w v o0 o1 o2 p)).un N).obj s) _ (yf P C.s) ?_;refine AWp.seq (AWp.of_vc zb ?_);refine Qc zb yex ?_;refine⟨Wu w.G hm.hg goal υ w.U[i].goal X _ _ ⟨Qe,?_⟩,O⟩;refine zg (λy=>?_) (λy=>?_)
 .have e:w.U[i].pos=ye w.G goal:=by
   simp only[Fay,beq_iff_eq]at y;exact Prod.ext y.1 y.2.1
  rw[if_pos e]at hgoes;rw[hgoes]at h;refine ou C P hm hn B w.U[i] rfl (Be g) 2 _ (λF3 G3 L3 d a=>?_);exact ret (h F3 G3 L3 o0 o1 o2 n N (Fdd n) d a Q)
 have e:¬w.U[i].pos=ye w.G goal:=λe=>by
  simp only[e,Fc3,beq_eq_false_iff_ne]at y;rcases y with y|y|y
  .exact y rfl
  .exact y rfl
  .cases y
 rw[if_neg e]at hgoes;refine AWp.meet (σ:=Nat×Nat×Store) ⟨λq=>[(0,.av (ptr mb)),(3,.bx 3 0),(4,.bx 4 0)],λq=>[(3,zf {w.U[i]with next:=(q.1:Int)}),(4,zq w.G)],λq ε=>ε=(F.un (svS G s w v o0 o1 o2 p)).un q.2.2/\q.1<Γ w.G.T/\Cx w w.U[i]=Ay w {w.U[i]with next:=(q.1:Int)}/\q.2.1<=n+1/\zl (F.un (svS G s w v o0 o1 o2 p)) q.2.2/\K q.2.1 q.2.2⟩ zb ?_ ?_
 .refine zj5 w.G hm.hg w.U[i].pos hon _ _ ?_;rw[hownE];refine ymt hG P Q C.m C.s hm w.U[i] ι own hown _ (λA l hK2=>?_);refine zg (λc2=>?_) (λc2=>?_);rotate_left
  .rw[if_neg (by rw[c2];decide)]at hgoes;obtain⟨t,ht,f⟩:∃k:Nat,w.U[i].next=k/\k<Γ w.G.T:=by
    rcases ι with D|D
    .exact absurd D (hlook1 c2)
    .exact D
   have e2:{w.U[i]with next:=(t:Int)}=w.U[i]:=by rw[<-ht]
   refine⟨(t,n,A),⟨rfl,f,by dsimp only;rw[e2];exact hgoes,Fdd n,l,hK2⟩,Qbt,⟨?_,rfl,O⟩⟩;dsimp only;rw[e2];rfl
  rw[if_pos c2]at hgoes;refine ylm hG hnM l hK2 C.m C.s hm w.U[i] goal X υ own hown _ (λn3 N3 τ a hK3=>?_);generalize Bb w w.U[i] own=nx at*;refine bcd (λc3=>?_) (λc3=>?_)
  .rw[if_pos c3]at hgoes;rw[hgoes]at h;refine ou C a hm hn B {w.U[i]with next:=nx} rfl (Be g) 3 _ (λF3 G3 L3 d hd4=>?_);exact ret (h F3 G3 L3 o0 o1 o2 n3 N3 τ d hd4 hK3)
  rw[if_neg c3]at hgoes;obtain⟨t,rfl,f⟩:∃k:Nat,nx=k/\k<Γ w.G.T:=by
   rcases My hm.hg ν with D|D
   .omega
   .exact D
  exact⟨(t,n3,N3),⟨rfl,f,hgoes,τ,a,hK3⟩,Qbt,⟨rfl,rfl,O⟩⟩
 clear P Q;rintro⟨t,n2,A⟩ ε ⟨rfl,f,hgoes,H,P,Q⟩;dsimp only at f hgoes H P Q⊢;rw[hgoes]at h;have π:({w.U[i]with next:=(t:Int),stuck:=0}:Unt).id=w.U[i].id:=rfl;have hmay1:yd (yj w {w.U[i]with next:=(t:Int),stuck:=0}):=Rp b B h0 rfl (O7 E ς (Vi hm.hg f) Z);obtain⟨W,I⟩:=Wf hm.hr B π;have S:∀x∈(yj w {w.U[i]with next:=(t:Int),stuck:=0}).U,x.pos.ok:=λx hx=>by
  obtain⟨j,hj,rfl⟩:=Faj hx;rw[Wd]at hj;by_cases ο:j=i
  .subst ο;rw[I];exact Be g
  .rw[zca hm.hr B π hj ο];exact hn _ (Faa hj)
 have hks:=Na w.U[i].kind;have hcm:=pm hm.hg f;have hway:=La g hcm;unfold Ay at h;dsimp only at h;rw[Faz]at h;have η:∀x:Unt,x.id=w.U[i].id->yj (yj w {w.U[i]with next:=(t:Int),stuck:=0}) x=yj w x:=λx hx=>Wc w hx.symm;refine AWp.of_vc zb ?_;refine Qc zb ye0 ?_;refine J (o:=((F.un (svS G s w v o0 o1 o2 p)).un A).obj mb) _ (yf P C.m) ?_;refine⟨zdk C P hm hn B {w.U[i]with next:=(t:Int),stuck:=0} rfl (Be g) _ (λF1 G1 L1 hW1 hd1=>⟨O,?_⟩),O⟩;generalize hw1:yj w {w.U[i]with next:=(t:Int),stuck:=0}=w1 at*;have V:=xr hmay1;have hG1:w1.G=w.G:=by rw[<-hw1];rfl
 have htry:=zkm hW1 hd1 V S W;rw[I]at htry;refine Qc zb yez ?_;refine⟨Wu w.G hm.hg t f (t:Nat) rfl _ _ ⟨Qe,?_⟩,O⟩;refine⟨ky _ _ _ ⟨Qe,?_⟩,O⟩;refine⟨zkq w.U[i].pos (ye w.G t) (xa w.U[i].kind) g hcm Z _ _ ⟨Qe,?_⟩,O⟩;refine⟨htry (Cc w.U[i].pos (ye w.G t) (xa w.U[i].kind)) (Ld hway) _ (λF2 G2 L2 a0 a1 a2 z l=>⟨Qe,?_⟩),O⟩;refine bcd (λc4=>?_) (λc4=>?_)
 .rw[if_pos c4]at h;exact ret (h F2 G2 L2 a0 a1 a2 n2 A H z l Q)
 rw[if_neg c4]at h;rw[zkh c4]at z l⊢;refine ze (v:=w.U[i].stuck+1) Z ?_;refine zp (λc5=>?_) (λc5=>?_)
 .rw[if_pos c5]at h;refine ou z l V S W {w.U[i]with next:=-1,stuck:=w.U[i].stuck+1} (by rw[I]) (Be g) 4 _ (λF3 G3 L3 d a=>?_);have e3:=η (j7 4 {w.U[i]with next:=-1,stuck:=w.U[i].stuck+1}) rfl;rw[e3]at d a⊢;exact ret (h F3 G3 L3 a0 a1 a2 n2 A H d a Q)
 rw[if_neg c5]at h;refine Qc zb yey ?_;refine J (o:=((F2.un (svS G2 s w1 v a0 a1 a2 p)).un A).obj mb) _ (yf l z.m) ?_;refine⟨zdk z l V S W {w.U[i]with next:=-1,stuck:=w.U[i].stuck+1} (by rw[I]) (Be g) _ (λF3 G3 L3 d a=>⟨O,?_⟩),O⟩;have e3:=η {w.U[i]with next:=-1,stuck:=w.U[i].stuck+1} rfl;rw[e3]at d a⊢;exact ret (h F3 G3 L3 a0 a1 a2 n2 A H d a Q)
def zj4{y:TypeId}{K:Nat->Store->Prop}(V:GuideK y gx K M w)(l:n<M){L:List Ent}(P:MoverG (gvOf y gx) F G mb s p w v L o0 o1 o2)(I:zl (F.un (svS G s w v o0 o1 o2 p)) N)(Q:K n N)(a:yd w)(hn:∀u∈w.U,u.pos.ok)(H:i<Γ w.U)(S:w.U[i].inn=0)(R:Ja)
  (h:∀E C X k j g e d,e<=n+1->MoverG (gvOf y gx) E C mb s p (vr w w.U[i]) v X k j g->zl (E.un (svS C s (vr w w.U[i]) v k j g p)) d->K e d->R (.tup []) ((E.un (svS C s (vr w w.U[i]) v k j g p)).un d)):
  Jb 127 [ptr mb,.agg (zf w.U[i])] ((F.un (svS G s w v o0 o1 o2 p)).un N) R:=by
 unfold vr at h;refine Qy 13 func127 ?_;refine zp (λf=>?_) (λf=>?_)
 .rw[if_pos f]at h;exact yn8 P I (xr a) hn (λu T W=>Hn a T W) H S _ (λD B A z a1 a2 c b=>ret (h D B A z a1 a2 n N (Fdd n) c b Q))
 .rw[if_neg f]at h;exact ypg V l P I Q a hn H S f _ (λD B A z a1 a2 e d o c b t=>ret (h D B A z a1 a2 e d o c b t))
end
end Go.Proofs
