/- Lemmas of thronglaw29; no conditions. -/
import Derived.Test.YtphhbmaalpdnoaaGreatKX
set_option linter.unusedSimpArgs false
set_option linter.unusedVariables false
set_option linter.defProp false
open List renaming length→Γ
open Option renaming some→Δ,none→Θ
namespace Go.Proofs
open Go Go.V Tryz
set_option maxRecDepth 20000
set_option maxHeartbeats 4000000
def ys5(l:List Bld)(hl:Γ l<=1000000)(R:Ja)(h:∀v N,RowsO 6 zk N v l->R v N):Jb 320 [lst 6 zk l] Store.empty R:=by
 refine Qy 19 func320 ?_;refine AWp.loop (σ:=Nat×AV×Store) ⟨λs=>[(0,.av (lst 6 zk l)),(3,.av s.2.1),(4,.av (int s.1))],λ_=>[],λs c=>s.1<=Γ l/\c=s.2.2/\RowsO 6 zk s.2.2 s.2.1 (l.take s.1),λs=>Γ l-s.1⟩ zb ?_ ?_
 .exact⟨(0,_,Store.empty),O,⟨Fae _,rfl,.inl ⟨rfl,rfl⟩⟩,⟨Y,Y,Y,O⟩,O⟩
 .rintro⟨i,v,N⟩ c ⟨o,rfl,e⟩;refine zg (λf=>?_) (λf=>?_)
  .have a:i<Γ l:=ql f;refine⟨i,rfl,J _ (zm a) ?_⟩;refine⟨ψ,?_⟩;refine O3 rfl (λ_=>rfl) ψ e l[i] rfl θd (λb g L p n k j=>?_);refine⟨⟨Z,Z⟩,?_⟩;refine⟨(i+1,_,_),?_,⟨a,rfl,?_⟩,⟨Y,Y,Y,O⟩,O⟩
   .show Γ l-(i+1)<Γ l-i;omega
   .rw[Fab a];exact .inr ⟨b,g,L,rfl,zd _ _ _,n,k,j⟩
  .have d:i=Γ l:=qr f o;subst d;rw[Fal]at e;exact ret (h _ _ e)
def zgu(l:List Bld)(c:Γ l<=1000000)(a:Store)(R:Ja)(h:∀v N,RowsO 6 zk N v l->zl N a->R v (N.un a)):Jb 320 [lst 6 zk l] a R:=by rw[<-jx a];exact ACalls.frame (F4 a) (ys5 l c (λv N=>RowsO 6 zk N v l) λv N b=>b) λv N b d=>h v N b d
def zd1{f:FuncId}{xs:List AV}{q:Prop}{a b:Value}{k:List Bld}(C:Jb f xs Store.empty λr S=>(¬q/\r=.tup [.s (.slice Θ 0 0),.s a])\/(q/\∃v,RowsQ 6 zk S v k/\r=.tup [v,.s b]))(d:Store)(R:Ja)
  (h:¬q->R (.tup [.s (.slice Θ 0 0),.s a]) d) (z:q->R (.tup [lst 6 zk k,.s b]) d):Jb f xs d R:=by
 have j:=C.frozen (R:=λr=>(¬q/\r=.tup [.s (.slice Θ 0 0),.s a])\/(q/\r=.tup [lst 6 zk k,.s b])) (by
  rintro r S (⟨j,rfl⟩|⟨j,v,u,rfl⟩)
  .exact⟨_,.inl ⟨j,rfl⟩,λn M p t sto c=>qq c⟩
  .refine⟨_,.inr ⟨j,rfl⟩,λn M p t sto c=>?_⟩;cases c with
   |tup _ E A g=>
    refine .tup _ E A λi x y c o=>?_
    match i with
    |0=>simp only[Fam,Fak]at c;subst c;exact mq u sto (g 0 _ y rfl o)
    |1=>simp only[Fap,Fam,Fak]at c;subst c;exact qq (g 1 _ y rfl o)
    |i+2=>simp at c)
 have B:Jb f xs Store.empty λr S=>((¬q/\r=.tup [.s (.slice Θ 0 0),.s a])\/(q/\r=.tup [lst 6 zk k,.s b]))/\S=Store.empty:=
  j.post (Store.Le.refl _) λr l w=>⟨r,Store.empty,AV.le_refl r,(Oc l).toLe,w,rfl⟩
 rw[<-jx d];exact ACalls.frame (F4 d) B λr S ⟨e,D⟩ G=>by
  subst D;rw[jx];rcases e with⟨q,rfl⟩|⟨q,rfl⟩
  .exact h q
  .exact z q
def yjr(g:Gnd)(L:zt g)(l:List Bld)(hl:Γ l<=256)(I:∀b∈l,yh b/\onP g b)(b:Bld)(hb:yh b)(A:∀x∈l,x.id<b.id):
  Jb 324 [.agg (zq g),lst 6 zk l,.agg (zk b)] Store.empty λr S=>(¬qm g l b=0/\r=.tup [.s (.slice Θ 0 0),.s (.int .i64 (qm g l b))])\/(qm g l b=0/\∃v,RowsQ 6 zk S v (l++[b])/\r=.tup [v,.s (.int .i64 0)]):=by
 have bad:∀n:Int,n≠0->qm g l b=n->∀st,∃r a,AV.le (.tup [.s (.slice Θ 0 0),int n]) r/\Store.Has st a/\((¬qm g l b=0/\r=.tup [.s (.slice Θ 0 0),.s (.int .i64 (qm g l b))])\/(qm g l b=0/\∃v,RowsQ 6 zk a v (l++[b])/\r=.tup [v,.s (.int .i64 0)])):=λn hn e st=>
  ret (.inl ⟨by rw[e];exact hn,by rw[e];rfl⟩)
 refine Qy 75 func324 ?_;refine zac b _ _ (λz o=>?_);refine ya ?_;refine zg (λQ=>?_) (λQ=>by have:=o.2 hb;rw[this]at Q;cases Q);refine zbm g b L hb _ _ (λz o=>?_);refine ya ?_;refine zg (λD=>?_) (λD=>?_);rotate_left
 .have k:¬onP g b:=λB=>by have:=o.2 B;rw[this]at D;cases D
  exact bad 3 ψ (by unfold qm;rw[if_pos k]) _
 have d:=o.1 D
 refine AWp.loop (σ:=Nat) ⟨λi=>[(1,.av (lst 6 zk l)),(3,.bx 3 0),(5,.bx 5 0),(8,.av (int (i:Nat)))],λ_=>[(3,zq g),(5,zk b)],
  λi a=>i<=Γ l/\a=Store.empty/\∀j,(y:j<Γ l)->j<i->¬vy l[j] b,λi=>Γ l-i⟩ zb ?_ ?_
 .exact⟨0,O,⟨Fae _,rfl,λj _ y=>Z⟩,Qbt,⟨rfl,rfl,O⟩⟩
 rintro i a ⟨K,rfl,k⟩;refine zg (λw=>?_) (λw=>?_)
 .have c:=ql w;have P:=I l[i] (Faa c);have hidi:=A l[i] (Faa c);refine Qc zb yb8 ?_;refine⟨i,rfl,J _ (zm c) ?_⟩;refine zp (λU=>absurd U Z) (λU=>?_);refine⟨i,rfl,J _ (zm c) ?_⟩;refine⟨zdn g L l[i] b P ⟨hb,d⟩ _ _ (λz o=>⟨O,?_⟩),O⟩;refine zg (λp=>?_) (λp=>?_)
  .have M:∃x∈l,vy x b:=⟨l[i],Faa c,o.1 p⟩
   exact bad 12 ψ (by unfold qm;rw[if_neg (λh=>h d),if_pos M]) _
  refine Qd ?_;refine⟨i+1,?_,⟨Z,rfl,λj y ε=>?_⟩,Qbt,⟨rfl,rfl,O⟩⟩
  .show Γ l-(i+1)<Γ l-i;omega
  .by_cases e:j=i
   .subst e;exact λB=>by have:=o.2 B;rw[this]at p;cases p
   .exact k j y Z
 have u:i=Γ l:=qr w K;subst u;have hnex:¬∃x∈l,vy x b:=λ⟨x,hx,h2⟩=>by obtain⟨j,y,rfl⟩:=Faj hx;exact k j y y h2
 refine zbo g L b ⟨hb,d⟩ _ _ (λz o=>?_);refine ya ?_;refine zg (λp=>?_) (λp=>?_);rotate_left
 .have k:¬Fy g b:=λB=>by have:=o.2 B;rw[this]at p;cases p
  exact bad 5 ψ (by unfold qm;rw[if_neg (λh=>h d),if_neg hnex,if_pos k]) _
 have C:=o.1 p;have hlen:((rws zk l).length:Int)=(Γ l:Int):=by rw[zj]
 refine bcd (λc5=>?_) (λc5=>?_)
 .exact bad 4 ψ (by unfold qm;rw[if_neg (λh=>h d),if_neg hnex,if_neg (λh=>h C),if_pos Z]) _
 have h0:qm g l b=0:=by unfold qm;rw[if_neg (λh=>h d),if_neg hnex,if_neg (λh=>h C),if_neg Z]
 refine AWp.loop (σ:=Nat) ⟨λi=>[(1,.av (lst 6 zk l)),(5,.bx 5 0),(9,.av (int (i:Nat)))],λ_=>[(5,zk b)],
  λi a=>i<=Γ l/\a=Store.empty,λi=>Γ l-i⟩ zb ?_ ?_
 .exact⟨0,O,⟨Fae _,rfl⟩,Qbt,⟨rfl,O⟩⟩
 rintro i a ⟨K,rfl⟩;refine Qc zb yca ?_;refine zg (λw=>?_) (λw=>?_)
 .have c:=ql w;have hidi:=A l[i] (Faa c);refine⟨i,rfl,J _ (zm c) ?_⟩;refine bcd (λT=>?_) (λT=>absurd hidi T);refine Qd ?_;refine⟨i+1,?_,⟨Z,rfl⟩,Qbt,⟨rfl,O⟩⟩;show Γ l-(i+1)<Γ l-i;omega
 have u:i=Γ l:=qr w K;subst u;refine Qc zb yb9 ?_;refine⟨0,Γ l,rfl,rfl,Fae _,ψb,?_⟩;refine⟨ψ,?_⟩;refine⟨ACalls.le (ys:=[lst 6 zk l]) ⟨by rw[Fcr,<-zj (f:=zk) l,Fal];exact Tt,O⟩ (zgu l Z _ _ (λv N hv hd=>⟨Qe,?_⟩)),O⟩;have E:RowsQ 6 zk (N.un Store.empty) v l:=hv.q.unL hd;refine⟨G6 (ie:=ti61) rfl kr ψ E b rfl Z (λR t V q1 q2 X W=>⟨O,?_⟩),O⟩;have G:RowsQ 6 zk ((N.un Store.empty).sO R (.cells ((rws zk (l++[b])).flatten++V))) (.s (.slice (Δ ⟨R,0,Θ⟩) (l++[b]).length t)) (l++[b]):=.inl (.inr ⟨R,t,V,rfl,zd _ _ _,q2,X,W⟩);refine Qbx ?_;refine⟨Γ l,Γ l,rfl,by rw[zj];rfl,Fai _,ψb,?_⟩;refine yur (ie:=ti61) rfl kr ψ G φ ?_ (by rw[Fad,Fao];omega) (λv' a H=>?_)
 .rw[Fcy (by rw[Fah,zj];omega)];rfl
 exact ret (.inr ⟨h0,_,H,rfl⟩)
def yi9(g:Gnd)(f:zt g)(l:List Bld)(e:Γ l<=256)(c:∀b∈l,yh b/\onP g b)(b:Bld)(i:yh b)(d:∀x∈l,x.id<b.id)(a:Store)(R:Ja)
  (h:¬qm g l b=0->R (.tup [.s (.slice Θ 0 0),int (qm g l b)]) a) (j:qm g l b=0->R (.tup [lst 6 zk (l++[b]),int 0]) a):Jb 324 [.agg (zq g),lst 6 zk l,.agg (zk b)] a R:=
 zd1 (yjr g f l e c b i d) a R h j
def yi6{S:Store}{p:Nat}{w:Wld}{v:AV}(hp:S.obj p=Δ (.cells (zy w v)))(hv:RowsQ 10 zf S v w.U)(D:jf v p)(hm:yd w)(hn:∀u∈w.U,u.pos.ok)(c:Cmd)(hc:jh c)(hk:c.K=4)(R:Ja)
  (h:∀S',bdE w c≠0->R (int (bdE w c)) S') (h0:bdE w c=0->∀S' v',S'.obj p=Δ (.cells (zy (bdW w c) v'))->RowsQ 10 zf S' v' (bdW w c).U->R (int 0) S'):Jb 232 [ptr p,.agg (yg c)] S R:=by
 have mf:=xr hm;have I:=mf.hg;have hg1:=I.1;have hg2:=I.2.1;have hn2:=mf.hn2;have hn1:=mf.hn1;have hU:=mf.hU;have υ:=zcy hm;have hok:=(Cmd.ok4 hk).1 hc.1;have hT:=hok.1;unfold vh at hT;have ha:=qg I;obtain⟨oa,k,e,π⟩:=hv.form;subst e;have hq2:c.T.tdiv w.G.W=c.T/w.G.W:=Fat hT.1;have hq3:0<=c.T/w.G.W/\c.T/w.G.W<=c.T:=⟨Fb3 hT.1 Z,Fc0 _ hT.1⟩
 have bad:∀n:Int,n≠0->bdE w c=n->∀S,R (int n) S:=λn hn e S=>by have:=h S (by rw[e];exact hn);rw[e]at this;exact this
 refine Qy 116 func232 ?_;refine Qby ?_;refine Pe w.G c.T I _ _ (λz hz=>?_);refine ya ?_;refine zg (λc1=>?_) (λc1=>?_);rotate_left
 .have y:¬(0<=c.T/\c.T<w.G.W*w.G.H):=λd=>by have:=hz.2 d;rw[this]at c1;cases c1
  exact ret (bad 3 ψ (by unfold bdE;rw[if_pos y]) _)
 have ht:=hz.1 c1;refine Qby ?_;refine bcd (λc2=>?_) (λc2=>?_)
 .exact ret (bad 4 ψ (by unfold bdE;rw[if_neg (λd=>d ht),if_pos Z]) _)
 have P:¬1099511627776<=w.next:=Z;obtain⟨Q,ο⟩:=zhz hm hc hk P;refine Qc zb yeh ?_;refine Qby ?_;refine⟨Z,?_⟩;refine⟨Z,?_⟩;refine ze θm ?_;refine⟨⟨?_,?_⟩,O⟩
 .repeat(first|exact O|refine⟨rfl,?_⟩|refine⟨J (o:=S.obj p) _ hp rfl,?_⟩|refine⟨⟨Z,rfl⟩,?_⟩|refine⟨⟨Z,ze θm rfl⟩,?_⟩)
 refine Qbx ?_;refine Qc zb yeg ?_;refine Qby ?_;refine⟨yi9 w.G I w.B mf.hB mf.hb (bdB w c) Q ο _ _ (λC=>⟨?_,?_⟩) (λC=>⟨?_,?_⟩),O⟩
 .repeat(first|exact O|refine⟨rfl,?_⟩|refine⟨J (o:=S.obj p) _ hp rfl,?_⟩)
 .refine Qbx ?_;refine Qbx ?_;refine qd (λ_=>?_) (λd=>absurd d C);have V:bdE w c=qm w.G w.B (bdB w c):=by unfold bdE;rw[if_neg (λd=>d ht),if_neg P,if_neg C]
  have:=h S (by rw[V];exact C);rw[V]at this;exact ret this
 .repeat(first|exact O|refine⟨rfl,?_⟩|refine⟨J (o:=S.obj p) _ hp rfl,?_⟩)
 refine Qbx ?_;refine Qbx ?_;have ν:onP w.G (bdB w c):=Classical.byContradiction λd=>by unfold qm at C;rw[if_pos d]at C;cases C
 have V:bdE w c=(by classical exact if Hm w (bdB w c)then 5 else 0):=by unfold bdE;rw[if_neg (λd=>d ht),if_neg P,if_pos C]
 obtain⟨b,hB⟩:∃b,bdB w c=b:=⟨_,rfl⟩
 rw[hB]at Q ο ν C V;have yes:Hm w b->R (int 5) S:=λd=>bad 5 ψ (by rw[V,if_pos d]) _
 refine AWp.loop (σ:=Nat) ⟨λt=>[(0,.av (ptr p)),(5,.bx 5 0),(6,.bx 6 0),(7,.av (lst 6 zk (w.B++[b]))),(9,.av (int (t:Nat)))],λ_=>[(5,zq w.G),(6,zk b)],
  λt g=>(t:Int)<=w.G.W*w.G.H/\g=S/\∀f,f<t->ve w.G b f->∀u∈w.U,u.inn=0->¬jg w.G f u.pos (zw u.kind),λt=>Γ w.G.T-t⟩ zb ?_ ?_
 .exact⟨0,O,⟨Z,rfl,λf ε=>absurd ε (Fav _)⟩,⟨Y,Y,Y,by rw[<-hB];exact Y,Y,O⟩,⟨rfl,by rw[<-hB];rfl,O⟩⟩
 rintro t g ⟨htl,rfl,y⟩;refine Qd ?_;refine bcd (λh1=>?_) (λh1=>?_);rotate_left
 .have hnm:¬Hm w b:=by
   rintro⟨f,⟨h2,h3⟩,u,hu,h4,h5⟩;exact y f Z h3 u hu h4 h5
  have ς:bdE w c=0:=by rw[V,if_neg hnm]
  refine xh (i:=ti25) (v:=lst 6 zk (w.B++[b])) (b:=p) (o:=6) (l:=zy w (.s (.slice oa (Γ w.U) k))) rfl rfl rfl hp (show 6+1<=8 by decide) ?_;have ι:(g.sO p (.cells (zu (zy w (.s (.slice oa (Γ w.U) k))) 6 [lst 6 zk (w.B++[b])]))).obj p=Δ (.cells (zy {w with B:=w.B++[b]} (.s (.slice oa (Γ w.U) k)))):=zd _ _ _;have η:=hv.set D (.cells (zu (zy w (.s (.slice oa (Γ w.U) k))) 6 [lst 6 zk (w.B++[b])]));generalize g.sO p _=S2 at ι η⊢;refine Qby ?_;refine ze ζ ?_;refine xh (i:=ti2) (v:=int (w.next+1)) (b:=p) (o:=2) (l:=zy {w with B:=w.B++[b]} (.s (.slice oa (Γ w.U) k))) rfl rfl rfl ι (show 2+1<=8 by decide) ?_;subst hB;exact ret (h0 ς _ _ (zd _ _ _) (η.set D _))
 have M:(t:Int)<w.G.W*w.G.H:=h1
 refine AWp.loop (σ:=Nat) ⟨λi=>[(0,.av (ptr p)),(5,.bx 5 0),(6,.bx 6 0),(7,.av (lst 6 zk (w.B++[b]))),(9,.av (int (t:Nat))),(10,.av (int (i:Nat)))],λ_=>[(5,zq w.G),(6,zk b)],
  λi X=>i<=Γ w.U/\X=g/\(0<i->ve w.G b t)/\∀j,(E:j<Γ w.U)->j<i->w.U[j].inn=0->¬jg w.G t w.U[j].pos (zw w.U[j].kind),λi=>Γ w.U-i⟩ zb ?_ ?_
 .exact⟨0,O,⟨Fae _,rfl,λd=>absurd d (Fdo _),λj _ E=>absurd E (Fav _)⟩,Qbt,⟨rfl,rfl,O⟩⟩
 rintro i X ⟨hi,rfl,hhas,τ⟩;have next:(ve w.G b t->∀u∈w.U,u.inn=0->¬jg w.G t u.pos (zw u.kind))->∀f,f<t+1->ve w.G b f->∀u∈w.U,u.inn=0->¬jg w.G f u.pos (zw u.kind):=λd f ε=>by
  by_cases e:f=t
  .subst e;exact d
  .exact y f Z
 refine Qby ?_;refine bcd (λh2=>?_) (λh2=>?_);rotate_left
 .have hil:i=Γ w.U:=Z;subst hil;refine Qd ?_;refine⟨t+1,?_,⟨Z,rfl,next λ_ u hu h3 h4=>?_⟩,Qbt,⟨rfl,rfl,O⟩⟩
  .show Γ w.G.T-(t+1)<Γ w.G.T-t;omega
  .obtain⟨j,E,rfl⟩:=Faj hu;exact τ j E E h3 h4
 have A:i<Γ w.U:=Z;refine zev w.G I b ⟨Q,ν⟩ t M _ _ (λz hz=>?_);refine zg (λc4=>?_) (λc4=>?_);rotate_left
 .have hnh:¬ve w.G b t:=λd=>by have:=hz.2 d;rw[this]at c4;cases c4
  refine Qd ?_;refine⟨t+1,?_,⟨Z,rfl,next λd=>absurd d hnh⟩,Qbt,⟨rfl,rfl,O⟩⟩;show Γ w.G.T-(t+1)<Γ w.G.T-t;omega
 have d:=hz.1 c4;obtain⟨bb,a,rfl,hob⟩:=π i A;refine Qby ?_;refine⟨i,rfl,A,?_⟩;refine Qby ?_;refine yv (i:=ti72) (row:=zf w.U[i]) rfl rfl (xx yx A) ?_;have step:(w.U[i].inn=0->¬jg w.G t w.U[i].pos (zw w.U[i].kind))->∀j,(E:j<Γ w.U)->j<i+1->w.U[j].inn=0->¬jg w.G t w.U[j].pos (zw w.U[j].kind):=λq j E hji=>by
  by_cases e:j=i
  .subst e;exact q
  .exact τ j E Z
 have L:=Faa A;have hkr:=Cg w.U[i].kind;refine Qc zb yei ?_;refine zp (λc5=>?_) (λc5=>?_)
 .refine⟨Df w.U[i].kind (mf.hk _ L) _ _ ⟨Qe,?_⟩,O⟩;refine⟨zdm w.G I t M w.U[i].pos (υ _ L c5) (zw w.U[i].kind) ⟨hkr.1,Z⟩ _ _ ⟨O,?_⟩,O⟩;refine bcd (λc6=>?_) (λc6=>?_)
  .exact ret (yes ⟨t,⟨M,d⟩,w.U[i],L,c5,c6⟩)
  refine Qd ?_;refine⟨i+1,?_,⟨Z,rfl,λ_=>d,step λ_=>c6⟩,Qbt,⟨rfl,rfl,O⟩⟩;show Γ w.U-(i+1)<Γ w.U-i;omega
 .refine Qbw ?_;refine Qbx ?_;refine Qd ?_;refine⟨i+1,?_,⟨Z,rfl,λ_=>d,step λq=>absurd q c5⟩,Qbt,⟨rfl,rfl,O⟩⟩;show Γ w.U-(i+1)<Γ w.U-i;omega
def yji(w:Wld)(n:w.fits)(t:∀u∈w.U,u.pos.ok)(H:Γ w.U<=1000000)(c:Cmd)(D:c.fits)(f:c.K=4):Jb 150 [.agg (zo w),.agg (yg c)] Store.empty (DoQ bdE bdW w c):=by
 refine Qa (c:=cfg 97 [6] []) zb func150 ?_;have bad:(¬yd w\/¬jh c\/w.players<c.P)->DoQ bdE bdW w c (.tup [.agg (zo w),int 1]) Store.empty:=λG=>by have he:=Hw (E:=bdE) (w:=w) (c:=c) G;exact .inl ⟨γ,by rw[he]⟩
 refine Kd w n t _ _ (λz hz=>?_);refine ya ?_;refine zg (λc1=>?_) (λc1=>?_);rotate_left
 .exact ret (bad (.inl λhh=>θo))
 refine Iv c D _ _ (λQ hzc=>?_);refine ya ?_;refine zg (λc2=>?_) (λc2=>?_);rotate_left
 .exact ret (bad (.inr (.inl λhh=>θu)))
 refine bcd (λL=>?_) (λL=>?_)
 .exact ret (bad (.inr (.inr Z)))
 have y:=hz.1 c1;have d:=hzc.1 c2;have he:=Ir (E:=bdE) y d (show c.P<=w.players by omega);refine Kv w n H _ _ (λv N hv _=>?_);rw[Dx];have hv:=hv.q;have hoff:=λ(p:Nat) (hp:Fresh N p)=>Dj hv (jt (fresh_iff.1 hp)).1;obtain⟨g,a,e,_⟩:=hv.form;subst e;refine λp hp=>?_;refine kh (i:=ti27) (v:=.agg (zy w (.s (.slice g (Γ w.U) a)))) (xs:=zy w (.s (.slice g (Γ w.U) a))) (b:=p) (o:=0) (l:=_) rfl rfl rfl (zd _ _ _) (show 0+8<=8 by decide) ?_;generalize hS:(N.sO p _).sO p _=S;have k:S.obj p=Δ (.cells (zy w (.s (.slice g (Γ w.U) a)))):=θv;have j:RowsQ 10 zf S (.s (.slice g (Γ w.U) a)) w.U:=θw;refine zp (λh=>absurd (f.symm.trans h) ψ) (λ_=>?_);refine zp (λh=>absurd (f.symm.trans h) ψ) (λ_=>?_);refine zp (λh=>absurd (f.symm.trans h) ψ) (λ_=>?_);refine zp (λ_=>?_) (λh=>absurd f h);refine yi6 k j (hoff p hp) y t c d f _ (λM hE=>?_) (λhE M T V A=>?_)
 .refine qd (λ_=>?_) (λh=>absurd h hE);exact ret (.inl ⟨θx,by rw[he];rfl⟩)
 .obtain⟨C,B,I,_⟩:=A.form;subst I;refine Qby ?_;exact ret (.inr ⟨he.trans hE,_,A,rfl⟩)
def yip:K8 4 bdE bdW:=λw a b e c d f R h=>Mj (yji w a b e c d f) R h
def Sr:List AV:=[int 0,int 0,int 0,int 0,int 0,int 0]
def yt4(b:Bld):∀y∈zk b,y.one=true:=by intro y a;obtain⟨x,rfl,h⟩:=Sj b y a;exact h
def yge(l:List Bld):∀y∈(rws zk l).flatten,y.one=true:=by intro y a;obtain⟨r,c,a⟩:=List.mem_flatten.1 a;obtain⟨b,_,rfl⟩:=Fag.1 c;exact yt4 b y a
def yru{N:Store}{v:AV}{l:List Bld}(hv:RowsQ 6 zk N v l)(hl:Γ l<=256){i:Nat}(p:i<Γ l)(R:Ja)(h:∀D E,RowsQ 6 zk E D (l.eraseIdx i)->R D E):Jb 291 [v,int (i:Nat),int ((i:Int)+1)] N R:=by
 rcases hv with(⟨_,g⟩|⟨b,a,L,rfl,w,e,u,t⟩)|⟨_,_,_,g⟩
 .subst g;exact absurd p (Fav _)
 rotate_left
 .subst g;exact absurd p (Fav _)
 refine Qy 33 func291 ?_;refine yvb (i:=i) (j:=i+1) (m:=Γ l) rfl rfl rfl rfl Z Z e Z ?_;refine zp (λz=>absurd z Z) (λ_=>?_);refine Qc zb yc2 ?_;refine⟨0,i,rfl,rfl,Fae _,Z,.inl ⟨Z,?_⟩⟩;by_cases I:i+1<a
 .refine⟨i+1,Γ l,rfl,rfl,Z,e,.inl ⟨I,?_⟩⟩;refine⟨⟨.inr ⟨_,_,rfl,rfl,zh7 (ie:=ti61) (n:=i) (m:=Γ l-(i+1)) (xs:=(rws zk (l.drop (i+1))).flatten) rfl w (by rw[Fad,qu kr];exact u) Z (by have:=SrcOK.obj (P:=Tryz.prog) (k:=6) (m:=Γ l-(i+1)) (o:=0+(i+1)*6) (cp:=a-(i+1)) w (by rw[Fad,qu kr];omega) (by rw[Fbd,zgd kr Z];exact yge _);rw[Fbd,zgd kr Z]at this;rw[Fbd];exact this) ⟨by show(i+(Γ l-(i+1)))*48<=_;omega,Z⟩ (λ_=>⟨O,?_⟩) (λz=>Z)⟩⟩,O⟩;rw[show zu ((rws zk l).flatten++L) (i*ti61.size) (rws zk (l.drop (i+1))).flatten=(rws zk (l.eraseIdx i)).flatten++(zk l[Γ l-1]++L)from zf4 kr p L];have d:=zf5 p;have c:(N.sO b (.cells ((rws zk (l.eraseIdx i)).flatten++(zk l[Γ l-1]++L)))).obj b=Δ (.cells ((rws zk (l.eraseIdx i)).flatten++(zk l[Γ l-1]++L))):=zd _ _ _;generalize N.sO b _=M at c⊢;refine Qbx ?_;refine⟨i+(Γ l-(i+1)),Γ l,rfl,rfl,Z,e,.inl ⟨Z,?_⟩⟩;refine zig (ie:=ti61) (b:=b) (off:=0+(i+(Γ l-(i+1)))*ti61.size) (l:=(rws zk (l.eraseIdx i)).flatten++(zk l[Γ l-1]++L)) rfl rfl rfl rfl rfl rfl rfl Z c (by rw[Fad,qu kr,d,Fad,kr];show 0+(i+(Γ l-(i+1)))*6+6<=_;omega) ψ ?_;have C:zu ((rws zk (l.eraseIdx i)).flatten++(zk l[Γ l-1]++L)) (0+(i+(Γ l-(i+1)))*ti61.size) (ti61.zero.map AV.s)=(rws zk (l.eraseIdx i)).flatten++(Sr++L):=by
   have A:(rws zk (l.eraseIdx i)).flatten.length=0+(i+(Γ l-(i+1)))*ti61.size:=by rw[qu kr,d];show _=0+(i+(Γ l-(i+1)))*6;omega
   rw[Fh A,Faq];rfl
  rw[C];have B:i+(Γ l-(i+1))=(l.eraseIdx i).length:=Z;refine ret (h _ _ (.inl (.inr ⟨b,a,Sr++L,by rw[<-B];rfl,zd _ _ _,Z,by rw[Fad];show a*6<=_*6+(6+Γ L);omega,t⟩)))
 .refine⟨i+1,Γ l,rfl,rfl,Z,e,.inr ⟨Z,?_⟩⟩;have K:l.drop (i+1)=[]:=Fcy Z;have f:=zf4 kr p L;rw[K]at f;have f:zu ((rws zk l).flatten++L) (i*6) []=(rws zk (l.eraseIdx i)).flatten++(zk l[Γ l-1]++L):=f;have hsrc:SrcOK Tryz.prog N 6 0 (.s (.slice (Δ ⟨b,0,Θ⟩) 0 0)) []:=by
   have:=SrcOK.obj (P:=Tryz.prog) (k:=6) (m:=0) (o:=0) (cp:=0) w Z (λy H=>by simp at H);simpa using this
  refine⟨⟨.inr ⟨_,_,rfl,rfl,zh7 (ie:=ti61) (n:=i) (m:=0) (xs:=[]) rfl w (by rw[Fad,qu kr];exact u) Z hsrc ⟨by show(i+(0))*48<=_;omega,Z⟩ (λ_=>⟨O,?_⟩) (λz=>Z)⟩⟩,O⟩;rw[show zu ((rws zk l).flatten++L) (i*ti61.size) []=(rws zk (l.eraseIdx i)).flatten++(zk l[Γ l-1]++L)from f];have d:=zf5 p;have c:(N.sO b (.cells ((rws zk (l.eraseIdx i)).flatten++(zk l[Γ l-1]++L)))).obj b=Δ (.cells ((rws zk (l.eraseIdx i)).flatten++(zk l[Γ l-1]++L))):=zd _ _ _;generalize N.sO b _=M at c⊢;refine Qbx ?_;refine⟨i+(0),Γ l,rfl,rfl,Z,e,.inl ⟨Z,?_⟩⟩;refine zig (ie:=ti61) (b:=b) (off:=0+(i+(0))*ti61.size) (l:=(rws zk (l.eraseIdx i)).flatten++(zk l[Γ l-1]++L)) rfl rfl rfl rfl rfl rfl rfl Z c (by rw[Fad,qu kr,d,Fad,kr];show 0+(i+(0))*6+6<=_;omega) ψ ?_;have C:zu ((rws zk (l.eraseIdx i)).flatten++(zk l[Γ l-1]++L)) (0+(i+(0))*ti61.size) (ti61.zero.map AV.s)=(rws zk (l.eraseIdx i)).flatten++(Sr++L):=by
   have A:(rws zk (l.eraseIdx i)).flatten.length=0+(i+(0))*ti61.size:=by rw[qu kr,d];show _=0+(i+(0))*6;omega
   rw[Fh A,Faq];rfl
  rw[C];have B:i+(0)=(l.eraseIdx i).length:=Z;refine ret (h _ _ (.inl (.inr ⟨b,a,Sr++L,by rw[<-B];rfl,zd _ _ _,Z,by rw[Fad];show a*6<=_*6+(6+Γ L);omega,t⟩)))
section
variable {v:AV} {i:Nat} {w:Wld}
def yrt{N S:Store}(u:zl N S){l:List Bld}(g:RowsQ 6 zk N v l)(k:Γ l<=256)(n:i<Γ l)(R:Ja)(h:R (lst 6 zk (l.eraseIdx i)) S):Jb 291 [v,int (i:Nat),int ((i:Int)+1)] (N.un S) R:=by
 have y:Jb 291 [v,int (i),int ((i)+1)] N λr d=>r=lst 6 zk (l.eraseIdx i)/\d=Store.empty:=
  ACalls.frozenTo (yru g k n (λr a=>RowsQ 6 zk a r (l.eraseIdx i)) λf a h=>h) λr a j=>
   ⟨_,Store.empty,⟨rfl,rfl⟩,(λb x hx=>θc),(λb x hx=>θc),λA M w f sto hx=>by refine(mq j sto hx).mono λb o c=>?_;exact⟨c.1,c.2.resolve_right λp=>p rfl⟩⟩
 exact ACalls.frame u y λr d ⟨e,z⟩ t=>by subst e z;rw[jx];exact h
def yrk(b:Bld)(d a s:Nat)(c:Cmd)(f:AV)(st:Store)(hb:st.obj d=Δ (.cells [ptr a]))(e:st.obj a=Δ (.cells (wkC s c f)))(R:Ja)(h:R (V.bool (decide (b.id=c.N))) st):Jb 290 ([.agg (zk b)]++[ptr d]) st R:=by
 refine Qy 12 func290 ?_;refine Qc zb yc3 ?_;refine Qby ?_;refine J _ e ?_;refine⟨⟨?_,?_⟩,O⟩
 .repeat(first|exact O|refine⟨rfl,?_⟩|refine⟨J _ hb rfl,?_⟩|refine⟨J _ e rfl,?_⟩)
 exact ret h
def zgf{c:Cmd}(h:Ca w.B c.N=Δ i)(a:i<Γ w.B):drE w c=if w.B[i].owner=c.P then 0 else 6:=by unfold drE;rw[h];simp[a]
def yqu{l:List Bld}{id:Int}(h:Ca l id=Δ i):∃c:i<Γ l,l[i].id=id:=by unfold Ca at h;rw[Fa5]at h;obtain⟨b,a,_⟩:=h;exact⟨b,of_decide_eq_true a⟩
def zjd{F G:Store}{a s p:Nat}{L:List Ent}{k j g:AV}{c:Cmd}{fv:AV}(y:Work F G a s p w v L k j g c fv)(hm:MayF w)(R:Ja)
  (h:∀H,drE w c≠0->R (int (drE w c)) H) (h0:drE w c=0->∀H,Fb H a s c fv (drW w c)->R (int 0) H):Jb 198 [ptr a] (F.un (svS G s w v k j g p)) R:=by
 have f:=y.x (F':=F) (q0:=k) (q1:=j) (q2:=g);have hs:=y.s (F':=F) (q0:=k) (q1:=j) (q2:=g);have A:=y.r (F':=F) (q0:=k) (q1:=j) (q2:=g);have I:=y.ne;have V:=y.os;have hB:=hm.hB;obtain⟨z,l,e,ι⟩:=y.S.hu.form;subst e;generalize F.un (svS G s w _ k j g p)=S at f hs A⊢;refine Qa (c:=cfg 56 [1] []) zb func198 ?_;intro d t;have X:a≠d:=λe=>by subst e;have:=t.1;rw[f]at this;cases this
 have C:s≠d:=λe=>by subst e;have:=t.1;rw[hs]at this;cases this
 have n:(S.sO d (.cells [ptr a])).obj d=Δ (.cells [ptr a]):=zd _ _ _;have f:=(zi (st:=S) (x:=.cells [ptr a]) X).trans f;have hs:=(zi (st:=S) (x:=.cells [ptr a]) C).trans hs;have A:=A.set (Dj A t.1) (.cells [ptr a]);refine J (o:=(S.sO d (.cells [ptr a])).obj d) _ n ?_;refine J (o:=(S.sO d (.cells [ptr a])).obj a) _ f ?_;refine J (o:=(S.sO d (.cells [ptr a])).obj s) _ hs ?_;refine zhp w.B Z _ _ (λb=>decide (b.id=c.N)) _ (λb _ R h=>yrk b d a s c fv _ n f R h) _ ?_;have W:(w.B.findIdx? λb=>decide (b.id=c.N))=Ca w.B c.N:=rfl;rw[W];refine bcd (λD=>?_) (λD=>?_)
 .cases u:Ca w.B c.N with
  |some i=>rw[u]at D;exact absurd D (by show¬((i:Int)<0);omega)
  |none=>
   have he:drE w c=3:=by unfold drE;rw[u]
   have:=h (S.sO d (.cells [ptr a])) γ;rw[he]at this;exact ret this
 cases u:Ca w.B c.N with
 |none=>rw[u]at D;exact absurd (show(-1:Int)<0 by decide) D
 |some i=>
 obtain⟨E,τ⟩:=yqu u;have he:=zgf u E;refine Qc zb yfa ?_;refine J (o:=(S.sO d (.cells [ptr a])).obj d) _ n ?_;refine J (o:=(S.sO d (.cells [ptr a])).obj a) _ f ?_;refine J (o:=(S.sO d (.cells [ptr a])).obj s) _ hs ?_;refine⟨i,rfl,J _ (zm E) ?_⟩;refine J (o:=(S.sO d (.cells [ptr a])).obj d) _ n ?_;refine J (o:=(S.sO d (.cells [ptr a])).obj a) _ f ?_;refine⟨⟨?_,?_⟩,O⟩
 .repeat(first|exact O|refine⟨rfl,?_⟩|refine⟨J (o:=(S.sO d (.cells [ptr a])).obj d) _ n rfl,?_⟩|refine⟨J (o:=(S.sO d (.cells [ptr a])).obj a) _ f rfl,?_⟩|refine⟨J (o:=(S.sO d (.cells [ptr a])).obj s) _ hs rfl,?_⟩|refine⟨⟨i,rfl,J _ (zm E) rfl⟩,?_⟩)
 refine qd (λc2=>?_) (λc2=>?_)
 .rw[if_neg c2]at he;have:=h (S.sO d (.cells [ptr a])) γ;rw[he]at this;exact ret this
 rw[if_pos c2]at he;have η:drW w c={w with B:=w.B.eraseIdx i}:=by unfold drW;rw[u]
 refine Qc zb ye9 ?_;refine J (o:=(S.sO d (.cells [ptr a])).obj d) _ n ?_;refine J (o:=(S.sO d (.cells [ptr a])).obj a) _ f ?_;refine J (o:=(S.sO d (.cells [ptr a])).obj d) _ n ?_;refine J (o:=(S.sO d (.cells [ptr a])).obj a) _ f ?_;refine J (o:=(S.sO d (.cells [ptr a])).obj s) _ hs ?_;refine ze (by show -9223372036854775808<=((i:Nat):Int)+1/\((i:Nat):Int)+1<=9223372036854775807;omega) ?_;refine⟨dc w.B Z _ _ (λv2 N P hd=>⟨?_,?_⟩),O⟩
 .have ε:(N.un (S.sO d (.cells [ptr a]))).obj d=_:=zh n;have M:(N.un (S.sO d (.cells [ptr a]))).obj a=_:=zh f;repeat(first|exact O|refine⟨rfl,?_⟩|refine⟨J (o:=(N.un (S.sO d (.cells [ptr a]))).obj d) _ ε rfl,?_⟩|refine⟨J (o:=(N.un (S.sO d (.cells [ptr a]))).obj a) _ M rfl,?_⟩|refine⟨J _ ν rfl,?_⟩)
 refine⟨yrt hd P Z E _ ⟨?_,?_⟩,O⟩
 .repeat(first|exact O|refine⟨rfl,?_⟩|refine⟨J (o:=(S.sO d (.cells [ptr a])).obj d) _ n rfl,?_⟩|refine⟨J (o:=(S.sO d (.cells [ptr a])).obj a) _ f rfl,?_⟩|refine⟨J _ hs rfl,?_⟩)
 refine⟨?_,O⟩;refine J _ rfl (ju rfl (jr rfl rfl rfl rfl ?_));refine xh (i:=ti25) (b:=s) (o:=6) rfl rfl rfl hs (show 6+1<=12 by decide) ?_;have Q:((S.sO d (.cells [ptr a])).sO s (.cells (zu (svC w (.s (.slice z (Γ w.U) l)) k j g p) 6 [lst 6 zk (w.B.eraseIdx i)]))).obj s=Δ (.cells (svC {w with B:=w.B.eraseIdx i} (.s (.slice z (Γ w.U) l)) k j g p)):=zd _ _ _;have K:=(zi (x:=.cells (zu (svC w (.s (.slice z (Γ w.U) l)) k j g p) 6 [lst 6 zk (w.B.eraseIdx i)])) I).trans f;have T:=A.set V (.cells (zu (svC w (.s (.slice z (Γ w.U) l)) k j g p) 6 [lst 6 zk (w.B.eraseIdx i)]));have ο:=(zi (x:=.cells (zu (svC w (.s (.slice z (Γ w.U) l)) k j g p) 6 [lst 6 zk (w.B.eraseIdx i)])) (Ne.symm C)).trans n;refine⟨O,?_⟩;exact ret (h0 he _ (by rw[η];exact⟨_,k,j,g,p,K,Q,T⟩))
end
def yiz(l:List Bld)(hl:Γ l<=256)(id:Int)(i:Nat)(hf:Ca l id=Δ i):Jb 325 [lst 6 zk l,int id] Store.empty λr S=>∃v,RowsQ 6 zk S v (l.eraseIdx i)/\r=.tup [v,.s (.bool true)]:=by
 have c:=hf;unfold Ca at c;rw[Fa5]at c;obtain⟨t,n,a⟩:=c;refine Qy 31 func325 ?_
 refine AWp.loop (σ:=Nat) ⟨λk=>[(0,.av (lst 6 zk l)),(1,.av (int id)),(6,.av (int (k)))],λ_=>[],
  λk b=>k<=i/\b=Store.empty,λk=>Γ l-k⟩ zb ?_ ?_
 .exact⟨0,O,⟨Fae _,rfl⟩,Qbt,O⟩
 rintro k b ⟨z,rfl⟩;have j:k<Γ l:=Z;refine zg (λg=>?_) (λg=>?_);rotate_left
 .have g:=of_decide_eq_false g;rw[zj]at g;omega
 refine⟨k,rfl,J _ (zm j) ?_⟩;refine zp (λo=>?_) (λo=>?_)
 .have f:k=i:=by
   by_cases e:k=i
   .exact e
   .exact absurd (decide_eq_true o) (a k Z)
  subst f;refine⟨0,k,rfl,rfl,Fae _,θg,?_⟩;refine ACalls.le (ys:=[lst 6 zk (l.take k)]) ⟨by unfold lst rws;rw[List.map_take];exact Tt,O⟩ (zgu (l.take k) θd _ _ (λv N p u=>?_));have h:RowsQ 6 zk (N.un Store.empty) v (l.take k):=p.q.unL u;refine Qd ?_;refine⟨k+1,Γ l,rfl,by rw[zj];rfl,Z,ψb,?_⟩;refine yuq rfl kr ψ h (l.drop (k+1)) ?_ (by rw[Fah,Fc8];omega) (λy b d=>?_)
  .rw[Fbz ψb];unfold rws;rw[List.map_drop];rfl
  rw[<-Fdv]at d;exact ret ⟨_,d,rfl⟩
 .have f:k≠i:=λe=>by
   subst e;exact o (of_decide_eq_true n)
  refine Qd ?_;refine⟨k+1,?_,⟨Z,rfl⟩,Qbt,O⟩;show Γ l-(k+1)<Γ l-k;omega
def yiy(l:List Bld)(d:Γ l<=256)(id:Int)(i:Nat)(f:Ca l id=Δ i)(b:Store)(R:Ja)(h:R (.tup [lst 6 zk (l.eraseIdx i),V.bool true]) b):Jb 325 [lst 6 zk l,int id] b R:=
 zd1 (a:=.bool false) ((yiz l d id i f).imp λr S c=>.inr ⟨O,c⟩) b R (λe=>absurd trivial e) (λ_=>h)
def yix{S:Store}{p:Nat}{w:Wld}{v:AV}(E:S.obj p=Δ (.cells (zy w v)))(hv:RowsQ 10 zf S v w.U)(k:jf v p)(hm:MayF w)(c:Cmd)(R:Ja)
  (h:∀n,drE w c≠0->R (int (drE w c)) n) (M:drE w c=0->∀n D,n.obj p=Δ (.cells (zy (drW w c) D))->RowsQ 10 zf n D (drW w c).U->R (int 0) n):Jb 233 [ptr p,.agg (yg c)] S R:=by
 have H:=hm.hB;obtain⟨o,g,e,G⟩:=hv.form;subst e;refine Qy 50 func233 ?_
 refine AWp.loop (σ:=Nat) ⟨λi=>[(0,.av (ptr p)),(3,.bx 3 0),(5,.av (int (i:Nat)))],λ_=>[(3,yg c)],
  λi a=>i<=Γ w.B/\a=S/\∀j,(d:j<Γ w.B)->j<i->w.B[j].id≠c.N,λi=>Γ w.B-i⟩ zb ?_ ?_
 .exact⟨0,O,⟨Fae _,rfl,λj _ d=>Z⟩,Qbt,⟨rfl,O⟩⟩
 rintro i a ⟨L,rfl,f⟩;refine Qby ?_;refine zg (λz=>?_) (λz=>?_);rotate_left
 .have y:i=Γ w.B:=qr z L;subst y;have hf:Ca w.B c.N=Θ:=by
   unfold Ca;rw[Fbx];intro x I;obtain⟨j,d,rfl⟩:=Faj I;exact decide_eq_false (f j d d)
  have he:drE w c=3:=by unfold drE;rw[hf]
  have:=h a γ;rw[he]at this;exact ret this
 have b:=ql z;refine Qc zb yef ?_;refine Qby ?_;refine⟨i,rfl,J _ (zm b) ?_⟩;refine qd (λC=>?_) (λC=>?_)
 .refine Qd ?_;refine⟨i+1,?_,⟨Z,rfl,λj d K=>?_⟩,Qbt,⟨rfl,O⟩⟩
  .show Γ w.B-(i+1)<Γ w.B-i;omega
  .by_cases e:j=i
   .subst e;exact C
   .exact f j d Z
 have hf:Ca w.B c.N=Δ i:=by unfold Ca;rw[Fa5];exact⟨b,decide_eq_true C,λj d=>by simpa using f j Z d⟩
 have he:=zgf hf b;refine Qc zb yee ?_;refine Qby ?_;refine⟨i,rfl,J _ (zm b) ?_⟩;refine qd (λA=>?_) (λA=>?_)
 .rw[if_neg A]at he;have:=h a γ;rw[he]at this;exact ret this
 rw[if_pos A]at he;have l:drW w c={w with B:=w.B.eraseIdx i}:=by unfold drW;rw[hf]
 refine Qc zb yed ?_;refine Qby ?_;refine⟨yiy w.B H c.N i hf _ _ ⟨?_,?_⟩,O⟩
 .repeat(first|exact O|refine⟨rfl,?_⟩|refine⟨J _ E rfl,?_⟩)
 refine⟨?_,O⟩;refine J _ rfl (ju rfl (jr rfl rfl rfl rfl ?_));refine xh rfl rfl rfl E (show 6+1<=8 by decide) ?_;have u:(a.sO p (.cells (zu (zy w (.s (.slice o (Γ w.U) g))) 6 [lst 6 zk (w.B.eraseIdx i)]))).obj p=Δ (.cells (zy {w with B:=w.B.eraseIdx i} (.s (.slice o (Γ w.U) g)))):=zd _ _ _;have t:=hv.set k (.cells (zu (zy w (.s (.slice o (Γ w.U) g))) 6 [lst 6 zk (w.B.eraseIdx i)]));refine⟨O,?_⟩;exact ret (M he _ _ (by rw[l];exact u) (by rw[l];exact t))
def yjh(w:Wld)(k:w.fits)(y:∀u∈w.U,u.pos.ok)(C:Γ w.U<=1000000)(c:Cmd)(A:c.fits)(b:c.K=5):Jb 150 [.agg (zo w),.agg (yg c)] Store.empty (DoQ drE drW w c):=by
 refine Qa (c:=cfg 97 [6] []) zb func150 ?_;have bad:(¬yd w\/¬jh c\/w.players<c.P)->DoQ drE drW w c (.tup [.agg (zo w),int 1]) Store.empty:=λB=>by have he:=Hw (E:=drE) (w:=w) (c:=c) B;exact .inl ⟨γ,by rw[he]⟩
 refine Kd w k y _ _ (λz hz=>?_);refine ya ?_;refine zg (λc1=>?_) (λc1=>?_);rotate_left
 .exact ret (bad (.inl λhh=>θo))
 refine Iv c A _ _ (λL hzc=>?_);refine ya ?_;refine zg (λc2=>?_) (λc2=>?_);rotate_left
 .exact ret (bad (.inr (.inl λhh=>θu)))
 refine bcd (λH=>?_) (λH=>?_)
 .exact ret (bad (.inr (.inr Z)))
 have l:=hz.1 c1;have j:=hzc.1 c2;have he:=Ir (E:=drE) l j Z;refine Kv w k C _ _ (λv N hv _=>?_);rw[Dx];have hv:=hv.q;have hoff:=λ(p) (hp:Fresh N p)=>Dj hv (jt (fresh_iff.1 hp)).1;obtain⟨d,a,e,_⟩:=hv.form;subst e;refine λp hp=>?_;refine kh (i:=ti27) (v:=.agg (zy w (.s (.slice d (Γ w.U) a)))) rfl rfl rfl (zd _ _ _) (show 0+8<=8 by decide) ?_;generalize hS:(N.sO p _).sO p _=S;have g:S.obj p=Δ (.cells (zy w (.s (.slice d (Γ w.U) a)))):=θv;have f:RowsQ 10 zf S (.s (.slice d (Γ w.U) a)) w.U:=θw;refine zp (λh=>absurd (b.symm.trans h) ψ) (λ_=>?_);refine zp (λh=>absurd (b.symm.trans h) ψ) (λ_=>?_);refine zp (λh=>absurd (b.symm.trans h) ψ) (λ_=>?_);refine zp (λh=>absurd (b.symm.trans h) ψ) (λ_=>?_);refine zp (λ_=>?_) (λh=>absurd b h);refine yix g f (hoff p hp) (xr l) c _ (λI hE=>?_) (λhE I M D n=>?_)
 .refine qd (λ_=>?_) (λh=>absurd h hE);exact ret (.inl ⟨θx,by rw[he];rfl⟩)
 .obtain⟨t,o,G,_⟩:=n.form;subst G;refine J _ D ?_;exact ret (.inr ⟨he.trans hE,_,n,rfl⟩)
def yio:K8 5 drE drW:=λw a b e c d f R h=>Mj (yjh w a b e c d f) R h
def yjm(w:Wld)(f:w.fits)(g:∀u∈w.U,u.pos.ok)(l:Γ w.U<=1000000)(c:Cmd)(h:c.fits)(d:¬jh c):Jb 150 [.agg (zo w),.agg (yg c)] Store.empty λr S=>r=.tup [.agg (zo (doW aE aW w c)),int (doE aE w c)]/\S=Store.empty:=by
 have he:=Hw (E:=aE) (w:=w) (c:=c) (.inr (.inl d));have b:doW aE aW w c=w:=Sa γ;rw[he,b];refine Qa (c:=cfg 97 [6] []) zb func150 ?_;refine Kd w f g _ _ (λz k=>?_);refine ya ?_;refine zg (λi=>?_) (λi=>?_);rotate_left
 .exact ret ⟨rfl,rfl⟩
 refine Iv c h _ _ (λj a=>?_);refine ya ?_;refine zg (λe=>absurd (a.1 e) d) (λe=>?_);exact ret ⟨rfl,rfl⟩
def yil(k:Int):K8 k aE aW:=by
 intro w d e g c f j R h;by_cases i:jh c
 .rcases W3 i with q|q|q|q|q|q|q
  .obtain⟨b,a⟩:=Mk (a1 (w:=w) q);rw[b,a]at h;exact yis w d e g c f q R h
  .obtain⟨b,a⟩:=Mk (a2 (w:=w) q);rw[b,a]at h;exact yir w d e g c f q R h
  .obtain⟨b,a⟩:=Mk (a3 (w:=w) q);rw[b,a]at h;exact yiq w d e g c f q R h
  .obtain⟨b,a⟩:=Mk (a4 (w:=w) q);rw[b,a]at h;exact yip w d e g c f q R h
  .obtain⟨b,a⟩:=Mk (a5 (w:=w) q);rw[b,a]at h;exact yio w d e g c f q R h
  .obtain⟨b,a⟩:=Mk (a6 (w:=w) q);rw[b,a]at h;exact yin w d e g c f q R h
  .obtain⟨b,a⟩:=Mk (a7 (w:=w) q);rw[b,a]at h;exact yim w d e g c f q R h
 .exact(yjm w d e g c f i).imp λr S ⟨b,a⟩=>by subst b a;exact h
def yrp{F G N:Store}{C s p B:Nat}{room:Int}{X:Nat}{w:Wld}{v:AV}{L:List Ent}{T Q M:AV}{c:Cmd}(I:Work F G C s p w v L T Q M c (j3 B))(D:zl (F.un (svS G s w v T Q M p)) N)(H:FldAny B room (X:Nat) N)(hm:yd w)(hn:∀u∈w.U,u.pos.ok)(V:jh c)(hp:c.P<=w.players)(R:Ja)
  (h:∀e g,aE w c≠0->zl e g->FldAny B room (X:Nat) g->R (int (aE w c)) (e.un g)) (A:aE w c=0->∀e g,Fb e C s c (j3 B) (aW w c)->zl e g->FldAny B room (X:Nat) g->R (int 0) (e.un g)):
  Jb 123 [ptr C] ((F.un (svS G s w v T Q M p)).un N) R:=by
 have hx:=yf D (I.x (F':=F) (q0:=T) (q1:=Q) (q2:=M));refine Qy 34 func123 ?_;refine J (o:=((F.un (svS G s w v T Q M p)).un N).obj C) _ hx ?_
 have lift:∀{f:FuncId} {E:Int} {W:Wld},(∀R:AV->Store->Prop,(∀e,E≠0->R (int E) e)->(E=0->∀e,Fb e C s c (j3 B) W->R (int 0) e)->Jb f [ptr C] (F.un (svS G s w v T Q M p)) R)->E=aE w c->W=aW w c->
   ∀K:AV->Store->Prop,(∀e g,aE w c≠0->zl e g->FldAny B room (X:Nat) g->K (int (aE w c)) (e.un g))->(aE w c=0->∀e g,Fb e C s c (j3 B) (aW w c)->zl e g->FldAny B room (X:Nat) g->K (int 0) (e.un g))->
   Jb f [ptr C] ((F.un (svS G s w v T Q M p)).un N) K:=λ{f E W} hf l k K k1 k2=>by
  subst l k;refine ACalls.frame D (hf (λr S=>(aE w c≠0/\r=int (aE w c))\/(aE w c=0/\r=int 0/\Fb S C s c (j3 B) (aW w c))) (λe i=>.inl ⟨i,rfl⟩) (λi e j=>.inr ⟨i,rfl,j⟩)) ?_;rintro r S (⟨i,rfl⟩|⟨i,rfl,j⟩) ε
  .exact k1 S N i ε H
  .exact k2 i S N j ε H
 rcases W3 V with q|q|q|q|q|q|q
 .obtain⟨l,k⟩:=a1 (w:=w) q;refine zp (λ_=>?_) (λd=>absurd q d);refine lift (λR a b=>ziu I (xr hm) hn (zgy ((Cmd.ok1 q).1 V.1).2) R a b) l.symm k.symm _ (λe g i j n=>ret (h e g i j n)) (λi e g z y t=>ret (A i e g z y t))
 .obtain⟨l,k⟩:=a2 (w:=w) q;refine zp (λd=>absurd (q.symm.trans d) ψ) (λ_=>?_);refine zp (λ_=>?_) (λd=>absurd q d);rw[l]at h A;rw[k]at A;refine zi7 I D H (xr hm) hn ((Cmd.ok2 q).1 V.1).1.1.2 _ (λe g i j n=>ret (h e g i j n)) (λi e g z y t=>ret (A i e g z y t))
 .obtain⟨l,k⟩:=a3 q;refine zp (λd=>absurd (q.symm.trans d) ψ) (λ_=>?_);refine zp (λd=>absurd (q.symm.trans d) ψ) (λ_=>?_);refine zp (λ_=>?_) (λd=>absurd q d);refine lift (λR a b=>zit I (xr hm) hn ((Cmd.ok3 q).1 V.1).1.2 R a b) l.symm k.symm _ (λe g i j n=>ret (h e g i j n)) (λi e g z y t=>ret (A i e g z y t))
 .obtain⟨l,k⟩:=a4 q;refine zp (λd=>absurd (q.symm.trans d) ψ) (λ_=>?_);refine zp (λd=>absurd (q.symm.trans d) ψ) (λ_=>?_);refine zp (λd=>absurd (q.symm.trans d) ψ) (λ_=>?_);refine zp (λ_=>?_) (λd=>absurd q d);refine lift (λR a b=>zje I hm hn V q R a b) l.symm k.symm _ (λe g i j n=>ret (h e g i j n)) (λi e g z y t=>ret (A i e g z y t))
 .obtain⟨l,k⟩:=a5 q;refine zp (λd=>absurd (q.symm.trans d) ψ) (λ_=>?_);refine zp (λd=>absurd (q.symm.trans d) ψ) (λ_=>?_);refine zp (λd=>absurd (q.symm.trans d) ψ) (λ_=>?_);refine zp (λd=>absurd (q.symm.trans d) ψ) (λ_=>?_);refine zp (λ_=>?_) (λd=>absurd q d);refine lift (λR a b=>zjd I (xr hm) R a b) l.symm k.symm _ (λe g i j n=>ret (h e g i j n)) (λi e g z y t=>ret (A i e g z y t))
 .obtain⟨l,k⟩:=a6 q;refine zp (λd=>absurd (q.symm.trans d) ψ) (λ_=>?_);refine zp (λd=>absurd (q.symm.trans d) ψ) (λ_=>?_);refine zp (λd=>absurd (q.symm.trans d) ψ) (λ_=>?_);refine zp (λd=>absurd (q.symm.trans d) ψ) (λ_=>?_);refine zp (λd=>absurd (q.symm.trans d) ψ) (λ_=>?_);refine zp (λ_=>?_) (λd=>absurd q d);refine lift (λR a b=>zi9 I hm hn ((Cmd.ok6 q).1 V.1).1.1.2 ((Cmd.ok6 q).1 V.1).2.1 R a b) l.symm k.symm _ (λe g i j n=>ret (h e g i j n)) (λi e g z y t=>ret (A i e g z y t))
 .obtain⟨l,k⟩:=a7 q;refine zp (λd=>absurd (q.symm.trans d) ψ) (λ_=>?_);refine zp (λd=>absurd (q.symm.trans d) ψ) (λ_=>?_);refine zp (λd=>absurd (q.symm.trans d) ψ) (λ_=>?_);refine zp (λd=>absurd (q.symm.trans d) ψ) (λ_=>?_);refine zp (λd=>absurd (q.symm.trans d) ψ) (λ_=>?_);refine zp (λd=>absurd (q.symm.trans d) ψ) (λ_=>?_);rw[l]at h A;rw[k]at A;refine zis I D H (xr hm) hn _ (λe g i j n=>ret (h e g i j n)) (λi e g z y t=>ret (A i e g z y t))
def yrr{N:Store}{k:Nat}{room:Int}{D:Nat}(hF:FldAny k room (D:Nat) N)(w:Wld)(hm:yd w)(hn:∀u∈w.U,u.pos.ok)(c:Cmd)(hc:c.fits):Jb 61 [.agg (zo w),.agg (yg c),j3 k] N λr S=>
  (r=.tup [.agg (zo (doW aE aW w c)),int (doE aE w c)]/\FldAny k room (D:Nat) S)\/∃X y v,RowsQ 10 zf X v (doW aE aW w c).U/\zl X y/\FldAny k room (D:Nat) y/\S=X.un y/\r=.tup [.agg (zy (doW aE aW w c) v),int (doE aE w c)]:=by
 have mf:=xr hm;have hU:=mf.hU;have hB:=mf.hB;have hT:=mf.hT;refine Qa (c:=cfg 41 [27] []) zb func61 ?_;refine zgz c hc _ _ (λzc z=>?_);have bad:(¬jh c\/w.players<c.P)->∀X:Prop,((.tup [.agg (zo w),int 1]:AV)=.tup [.agg (zo (doW aE aW w c)),int (doE aE w c)]/\FldAny k room (D:Nat) N)\/X:=λhb X=>by have he:=Hw (E:=aE) (w:=w) (c:=c) (.inr hb);rw[Sa γ,he];exact .inl ⟨rfl,hF⟩
 refine ya ?_;refine zg (λG=>?_) (λG=>?_);rotate_left
 .exact ret (bad (.inl λhh=>by have:=z.2 hh;rw[this]at G;cases G) _)
 refine bcd (λc2=>?_) (λc2=>?_)
 .exact ret (bad (.inr Z) _)
 clear bad;have C:=z.1 G;have he:=Ir (E:=aE) hm C (show c.P<=w.players by omega);have hown:∀R:AV->Store->Prop,(∀v X,RowsQ 10 zf X v w.U->zl X N->R (.agg (zy w v)) (X.un N))->Jb 48 [.agg (zo w)] N R:=λR h=>by rw[<-jx N];refine ACalls.frame (F4 _) (zcl w Z Z Z (λr S=>∃v,RowsQ 10 zf S v w.U/\r=.agg (zy w v)) (λv N h=>⟨v,h,rfl⟩)) ?_;rintro r a' ⟨v,a,rfl⟩ f;exact h v a' a f
 refine Qc zb ya8 ?_;refine⟨hown _ (λv X hv T=>⟨Qe,?_⟩),O⟩
 have hopen:=ACalls.frame T (zct w v X hv Z hn (λr S=>∃F s p L o0 o1 o2,r=ptr s/\S=F.un (svS X s w v o0 o1 o2 p)/\Fresh X s/\StandR F X s p w v L o0 o1 o2/\Γ L<=Γ w.U/\(yw w.U->∀e,e∈L↔∃u∈w.U,u.inn=0/\e=(u.id,u.pos))) (λF s p L o0 o1 o2 a d h3 W=>⟨F,s,p,L,o0,o1,o2,rfl,rfl,a,d,h3,W⟩))
  (R':=λr S=>∃F s p L o0 o1 o2,r=ptr s/\S=(F.un (svS X s w v o0 o1 o2 p)).un N/\zl (F.un (svS X s w v o0 o1 o2 p)) N/\StandR F X s p w v L o0 o1 o2/\Γ L<=Γ w.U/\(yw w.U->∀e,e∈L↔∃u∈w.U,u.inn=0/\e=(u.id,u.pos)))
  (λr a' ⟨F,s,p,L,o0,o1,o2,a,d,h3,W,h5,h6⟩ Q=>⟨F,s,p,L,o0,o1,o2,a,by rw[d],d▸Q,W,h5,h6⟩)
 refine⟨hopen.imp ?_,O⟩;rintro _ _ ⟨F,s,p,L,o0,o1,o2,rfl,rfl,o,l,V,hL⟩;refine⟨Qe,?_⟩;refine⟨λg j=>⟨Qe,?_⟩,O⟩;refine Qbx ?_;have j:=fresh_iff.1 j;have n:¬F.has g/\¬(svS X s w v o0 o1 o2 p).has g:=⟨λh=>j (un_has.2 (.inl (un_has.2 (.inl h)))),λh=>j (un_has.2 (.inl (un_has.2 (.inr h))))⟩
 have A:¬N.has g:=λh=>j (un_has.2 (.inr h));have B:g≠s:=λe=>n.2 (svS_has.2 (.inl e));have H:¬X.has g:=λh=>n.2 (svS_has.2 (.inr h));have e0:((F.un (svS X s w v o0 o1 o2 p)).un N).sO g (.cells (wkC s c (j3 k)))=(F.un (svS (X.sO g (.cells (wkC s c (j3 k)))) s w v o0 o1 o2 p)).un N:=by rw[Bx A,z8];unfold svS;rw[Fj B]
 have M:zl (F.un (svS (X.sO g (.cells (wkC s c (j3 k)))) s w v o0 o1 o2 p)) N:=λi a d=>by
  rcases un_has.1 a with a|a
  .exact o i (un_has.2 (.inl a)) d
  .rcases svS_has.1 a with a|a
   .exact o i (un_has.2 (.inr (svS_has.2 (.inl a)))) d
   .rcases has_setObj_iff.1 a with rfl|a
    .exact A d
    .exact o i (un_has.2 (.inr (svS_has.2 (.inr a)))) d
 have offx:=Dj hv (jt H).1;have offs:=Dj hv l.hs;have hW:Work F (X.sO g (.cells (wkC s c (j3 k)))) g s p w v L o0 o1 o2 c (j3 k):=by
  refine⟨⟨l.hc,λi a d=>?_,?_,hv.set offx _,l.h0,l.h1,l.h2⟩,zd _ _ _,offx,offs,V,hL mf.hr⟩
  .rcases svS_has.1 d with rfl|d
   .exact l.hd _ a (svS_has.2 (.inl rfl))
   .rcases has_setObj_iff.1 d with rfl|d
    .exact n.1 a
    .exact l.hd _ a (svS_has.2 (.inr d))
  .rw[zi (Ne.symm B)];exact l.hs
 refine cast (congrArg (λst=>Jb 123 [ptr g] st _) e0.symm) ?_;refine yrp hW M hF hm hn C Z _ (λS' y hE f t=>?_) (λhE S' y K f t=>?_)
 .refine qd (λ_=>?_) (λh=>absurd h hE);rw[he,Sa θx];exact⟨_,y,Tt,⟨λb x I=>zh I,λb x I=>H2 I⟩,.inl ⟨rfl,t⟩⟩
 .obtain⟨v2,q0,q1,q2,p2,g1,g2,g3⟩:=K;obtain⟨oa,ε,e2,_⟩:=g3.form;subst e2;refine J _ (yf f g1) ?_;refine J _ (yf f g2) ?_;rw[he,ov (he.trans hE),hE];exact ret (.inr ⟨S',y,_,g3,f,t,rfl,rfl⟩)
def yrs:DoC:=λz room k N w c u j n R h=>by
 refine(yrr u w j.1 j.2 c n).frozenTo ?_;rintro r S (⟨rfl,a⟩|⟨X,i,v,p,g,a,rfl,rfl⟩)
 .exact⟨_,S.objs,h _ a.objs,λb x hx=>hx,λb x hx=>θc,λe M W x sto hx=>hx.mono λb o t=>t.1⟩
 .refine⟨_,i.objs,h _ a.objs,λb x hx=>zh hx,λb x hx=>θc,λe M W x sto hx=>?_⟩;have sX:StoreOK X e M W:=sto.weaken ⟨λb y f=>yf g f,λb y f=>Lh g f⟩;have l:∀b,((X.un i).obj b=Θ\/i.objs.obj b≠Θ)->X.obj b=Θ:=λb d=>by
   rcases d with d|d
   .exact(Lv d).1
   .cases hx:X.obj b with
    |none=>rfl
    |some y=>exact absurd (jt (g b (xk hx))).1 d
  exact VRel.mono (λb o h=>⟨h.1,l b h.2⟩) (hx.tup2 (λx hx=>Fe p sX hx) (λx hx=>qq hx))
end Go.Proofs
namespace Go.Proofs
open Go Go.V
set_option maxRecDepth 20000
set_option maxHeartbeats 4000000
end Go.Proofs
namespace Go.Proofs
open Go Go.V Tryz
set_option maxRecDepth 20000
set_option maxHeartbeats 4000000
def yq1{eb:Nat}{room:Int}{k:Nat}{w:Wld}{S:Store}(c:EngR eb room k w S)(b:w.tick=1099511627776)(l:List Cmd)(R:Ja)(h:R (.tup [nil,int 10]) S):Jb 15 [ptr eb,lst 10 yg l] S R:=by obtain⟨N,e,rfl,hn,d⟩:=c.out;refine Qy 74 func15 ?_;refine J _ (zd _ _ _) ?_;refine zp (λa=>?_) (λa=>absurd b a);exact ret h
section
variable {eb:Nat} {room:Int} {k:Nat} {w:Wld} {S G:Store}
def zi4(b:playW w)(d:1<=room/\room<=4096)(R:Ja)(h:∀eb S,EngR eb room 0 w S->zl S G->R (.tup [ptr eb,int 0]) (S.un G)):Jb 9 [.agg (zo w),int room] G R:=by
 have c:=b.sizes;have:=ACalls.frame (F4 G) (zi3 w (xr b.1).fits b.2 c.1 c.2.1 c.2.2 room d (λr S=>∃eb,r=.tup [ptr eb,int 0]/\EngR eb room 0 w S) (λh=>absurd b.1 h) (λ_ eb S h=>⟨eb,rfl,h⟩)) λr a ⟨eb,g,f⟩ e=>by subst g;exact h eb a f e
 rwa [jx]at this
end
end Go.Proofs
namespace Go.Proofs
open Go Go.V
set_option maxRecDepth 20000
set_option maxHeartbeats 4000000
end Go.Proofs
namespace Go.Proofs
open Go Go.V
set_option maxRecDepth 20000
set_option maxHeartbeats 4000000
end Go.Proofs
namespace Go.Proofs
open Go Go.V
set_option maxRecDepth 20000
set_option maxHeartbeats 4000000
end Go.Proofs
