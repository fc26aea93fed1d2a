/- Ground of laws of throngtop: contracts and plain lemmas; no condition beyond the row's own. -/
import Derived.Test.YtkahacegdhllcaaGreatLF
import Derived.Test.YtkahacegdhllcaaGreatLE
set_option linter.unusedSimpArgs false
set_option linter.unusedVariables false
set_option linter.defProp false
namespace Go.Proofs
open Go Go.V
set_option maxRecDepth 20000
set_option maxHeartbeats 4000000
def zaz{P:Program}{l:Nat}{args:List AV}{st:Store}{R R':Ja}(h:AYield P l args st R)(hR:∀r s,R r s->R' r s):AYield P l args st R':=ψ9
def ytv(v:AV)(U:List Unt)(hv:v=lst 10 zm U)(st:Store)(R:Ja)(h:∀p,Fresh st p->R (.clos 77 [ptr p]) (st.sO p (.cells [v]))):
  Jb 35 [v] st R:=by
 subst hv;refine Qa (c:=cfg 4 [1] []) zb Tryz.func35 ?_;intro p hp;exact ret (h p hp)
def ytw(U:List Unt)(hU:U.length<=1000000000)(p l:Nat)(I:Nat->Store->Prop)(hp:∀i S,I i S->S.obj p=some (.cells [lst 10 zm U]))
  (hy:∀i S (hi:i<U.length),I (i+1) S->AYield Tryz.prog l [int (i:Nat),.agg (zm U[i])] S λr S'=>r=V.bool true/\I i S')
  (st:Store) (h0:I U.length st) (R:Ja) (h:∀S,I 0 S->R (.tup []) S):Jb 77 [.s (.func (.yield l) #[] #[]),ptr p] st R:=by
 refine Qy 19 Tryz.func77 ?_;refine za (o:=st.obj p) _ (hp _ _ h0) ?_;refine ze θe (AWp.loop (σ:=Nat×Int) ⟨λi=>[(0,.av (.s (.func (.yield l) #[] #[]))),(1,.av (ptr p)),(3,.av (int i.2))],λ_=>[],λi st'=>i.1<=U.length/\i.2=(i.1:Int)-1/\I i.1 st',λi=>i.1⟩ zb ?_ ?_)
 ·exact⟨(U.length,_),Tv,⟨Fah _,by rw[zi],h0⟩,⟨Tq,Tq,Tq,Tv⟩,Tv⟩
 rintro⟨i,j⟩ st' ⟨hi,hj,hI⟩;dsimp only at hi hj hI⊢;subst hj;refine bcd (λc1=>?_) (λc1=>?_);rotate_left
 ·have:i=0:=θ;subst this;exact ret (h _ hI)
 obtain⟨k,rfl⟩:∃k,i=k+1:=⟨i-1,θ⟩
 refine za (o:=st'.obj p) _ (hp _ _ hI) ⟨k,θ,za _ (zp (show k<U.length by omega)) ?_⟩;have hk:k<U.length:=θ;have he:(((k+1:Nat):Int)-1)=(k:Nat):=θ;rw[he];refine zaz (hy k st' hk hI) ?_;rintro r S' ⟨rfl,hI2⟩;exact Qd ⟨(k,_),(show k<k+1 by omega),⟨ξ,rfl,hI2⟩,⟨Tq,Tq,Tq,Tv⟩,Tv⟩
def ysw(v:Value)(hv:∃a n c,v=.slice a n c)(W:Nat)(hW:1<=W)(Wi:Int)(hWi:Wi=(W:Nat))(st:Store)(R:Ja)(h:∀p q,Fresh st p->Fresh (st.sO p (.cells [.s v])) q->R (.clos 78 [ptr p,ptr q]) ((st.sO p (.cells [.s v])).sO q (.cells [int (W:Nat)]))):
  Jb 38 [.s v,int Wi] st R:=by
 subst hWi;obtain⟨a,n,c,rfl⟩:=hv;refine Qa (c:=cfg 9 [2,3] []) zb Tryz.func38 ?_;intro p hp q hq;exact za (o:=((st.sO p (.cells [.s (.slice a n c)])).sO q (.cells [int (W:Nat)])).obj q) _ (zd _ _ _) (bcd (λc1=>absurd c1 θ) (λc1=>ret (h p q hp hq)))
def ysv(W H bb:Nat)(hW:1<=W)(hn:H*W<=1000000000)(p q l:Nat)(I:Nat->Store->Prop)(hp:∀k S,I k S->S.obj p=some (.cells [.s (.slice (some ⟨bb,0,none⟩) (H*W) (H*W))])/\S.obj q=some (.cells [int (W:Nat)]))
  (hy:∀k S (hi:k<H),I k S->AYield Tryz.prog l [.s (.slice (some ⟨bb,0+k*W*1,none⟩) W W)] S λr S'=>r=V.bool true/\I (k+1) S')
  (st:Store) (h0:I 0 st) (R:Ja) (h:∀S,I H S->R (.tup []) S):Jb 78 [.s (.func (.yield l) #[] #[]),ptr p,ptr q] st R:=by
 refine Qy 31 Tryz.func78 ?_;refine AWp.loop (σ:=Nat×Int) ⟨λi=>[(0,.av (.s (.func (.yield l) #[] #[]))),(1,.av (ptr p)),(2,.av (ptr q)),(4,.av (int i.2))],λ_=>[],λi st'=>i.1<=H/\i.2=((i.1*W:Nat):Int)/\I i.1 st',λi=>H-i.1⟩ zb ?_ ?_
 ·exact⟨(0,_),Tv,⟨Fae _,φ,h0⟩,⟨Tq,Tq,Tq,Tq,Tv⟩,Tv⟩
 rintro⟨k,j⟩ st' ⟨hi,hj,hI⟩;dsimp only at hi hj hI⊢;subst hj;have⟨h1,h2⟩:=hp _ _ hI;refine Qbc (bcd (λc1=>?_) (λc1=>?_));rotate_left
 ·have:k=H:=by
   rcases Nat.lt_or_ge k H with hlt|hge
   ·have:=Fa2 W (show k+1<=H from hlt);rw[Fb8]at this;omega
   ·omega
  subst this;exact ret (h _ hI)
 have hkH:k<H:=by
  rcases Nat.lt_or_ge k H with hlt|hge
  ·exact hlt
  ·have:=Fa2 W hge;omega
 have hle:k*W+W<=H*W:=by have:=Fa2 W (show k+1<=H from hkH);rw[Fb8]at this;omega
 refine Qc zb ybu ?_;refine Qbc ?_;refine Qbc ?_;refine⟨k*W,H*W,rfl,rfl,θ,Fah _,.inl ⟨θ,?_⟩⟩;have hm:min2 ((W:Nat):Int) ((H*W-k*W:Nat):Int)=((W:Nat):Int):=by unfold min2;rw[decide_eq_false θ];rfl
 refine Qbb (Qbc ?_);rw[hm];refine Qd (Qd (zaq rfl (it:=ti22) (ie:=ti5) rfl rfl rfl (i:=k*W) (j:=k*W+W) (m:=k*W+W) θ (Fah _) hle θ ?_));rw[show k*W+W-k*W=W by omega];refine zaz (hy k st' hkH hI) ?_;rintro r S' ⟨rfl,hI2⟩;refine za (o:=S'.obj q) _ (hp _ _ hI2).2 (Qd ⟨(k+1,_),ϑ,⟨hkH,?_,hI2⟩,⟨Tq,Tq,Tq,Tq,Tv⟩,Tv⟩);dsimp only;rw[Fb8,Nat.one_mul];omega
def zax(S:Store)(v:AV)(rows:List (List AV)):Prop:=(v=.s (.slice none 0 0)/\rows=[])\/(rows≠[]/\∃b,v=.lst 1 rows (some b)/\S.obj b=none/\S.tok b=some (rows.length*1))
def ynr{P:Program}{c:Cfg}{S:Store}{e:TypeId}{ie:TI}{v:AV}{x:LV}{K:Ja}{rows rows':List (List AV)}(h:zax S v rows)(hie:c.I e=some ie)(h1:ie.size=1)(hx:kh ie.size x=some rows')(hne:rows'≠[])
  (hroom:room (rows.length+rows'.length) ie.bytes) (hK:∀b st2,(∀i,st2.obj i=S.obj i)->st2.obj b=none->st2.tok b=some ((rows++rows').length*1)->K (.lst 1 (rows++rows') (some b)) st2):appendK P c S e (.av v) x K:=by
 have fin:∀(base:Store),(∀i,base.obj i=S.obj i)->∀v2 st2,App ie.size base v2 (rows++rows') st2->K v2 st2:=by
  intro base hb v2 st2 ha;rw[h1]at ha;rcases ha with⟨_,e,_⟩|⟨_,e,_⟩|⟨_,b,hf,rfl,rfl⟩
  ·simp[hne]at e
  ·simp[hne]at e
  ·exact hK b _ hb hf.1 (by simp[Store.sT])
 rcases h with⟨rfl,rfl⟩|⟨hr,b,rfl,hob,htok⟩
 ·exact jy (st:=S) (rows:=[]) (.inl ⟨rfl,rfl,rfl⟩) hie hx hroom (fin S λ_=>rfl) (by rw[h1];rfl)
 ·have hS:S=(S.sT b none).sT b (some (rows.length*1)):=by
   show S=Store.mk S.obj (λi=>bif Nat.beq i b then some (rows.length*1)else(bif Nat.beq i b then none else S.tok i));have:S.tok=λi=>bif Nat.beq i b then some (rows.length*1)else(bif Nat.beq i b then none else S.tok i):=by
    funext i
    by_cases hi:i=b
    ·subst hi;simp[htok]
    ·simp[y9 hi]
   rw[<-this]
  refine jy (st:=S.sT b none) (rows:=rows) (.inr (.inr ⟨hr,b,⟨hob,by simp[Store.sT]⟩,by rw[h1],by rw[h1];exact hS⟩)) hie hx hroom (fin _ λ_=>rfl) (by rw[h1];rfl)
theorem dne9{S:Store}{p b:Nat}(h:p≠b):(S.dO b).obj p=S.obj p:=by show(bif Nat.beq p b then none else S.obj p)=_;rw[y9 h];rfl
def ylr{a c b:AV}(h:AV.le a c):AV.le (.tup [a,b]) (.tup [c,b]):=by
 intro w T v hv;cases hv with
 |tup _ cs hl hc=>
  refine .tup _ cs hl λi x y hx hy=>?_
  match i,hx with
  |0,hx=>cases hx;exact h w T y (hc 0 _ _ rfl hy)
  |1,hx=>cases hx;exact hc 1 _ _ rfl hy
  |i+2,hx=>cases hx
def fne{S:Store}{p b:Nat}{x:AObj}(hf:Fresh S b)(h:S.obj p=some x):p≠b:=λe=>by subst e;rw[hf.1]at h;cases h
theorem zms{α:Type}(d:Nat->α)(u:Nat)(x y:α):yh (yh d u x) u y=yh d u y:=funext λt=>by unfold yh;split<;>rfl
def ya7(u:Unt)(hk:Gb u.kind)(st:Store)(R:Ja)(h:R (.s (.int .u8 (Nf u))) st):Jb 36 [.agg (zm u)] st R:=by
 have⟨id,owner,kind,pos,goal,next,stuck,inn,state⟩:=u;unfold Nf at h;dsimp only at h hk;refine Qy 13 Tryz.func36 ?_;have hk4:kind=0\/kind=1\/kind=2\/kind=3:=by unfold Gb at hk;omega
 rcases hk4 with rfl|rfl|rfl|rfl
 ·refine⟨0,rfl,za (x:=115) rfl (qi (λd1=>?_) (λd1=>?_))⟩
  ·rw[if_neg d1]at h;exact ret h
  ·rw[if_pos d1]at h;exact ret h
 ·refine⟨1,rfl,za (x:=119) rfl (qi (λd1=>?_) (λd1=>?_))⟩
  ·rw[if_neg d1]at h;exact ret h
  ·rw[if_pos d1]at h;exact ret h
 ·refine⟨2,rfl,za (x:=103) rfl (qi (λd1=>?_) (λd1=>?_))⟩
  ·rw[if_neg d1]at h;exact ret h
  ·rw[if_pos d1]at h;exact ret h
 ·refine⟨3,rfl,za (x:=99) rfl (qi (λd1=>?_) (λd1=>?_))⟩
  ·rw[if_neg d1]at h;exact ret h
  ·rw[if_pos d1]at h;exact ret h
def yq1(w:Wld)(hf:w.fits)(hn:∀u∈w.U,u.pos.ok):Jb 11 [.agg (zr w)] Store.empty λr S=>(¬z8 w/\r=.tup [nil,int 1])\/(z8 w/\∃b,r=.tup [.lst 1 (rws ki (jg w)) (some b),int 0]/\S.tok b=some ((rws ki (jg w)).length*1)):=by
 refine Qb (c:=cfg 75 [1,2,4] []) zb Tryz.func11 (AWp.seq (AWp.of_vc zb ?_));intro p1 f1 p2 f2;have n12:p2≠p1:=λe=>by subst e;have:=f2.1;rw[zd]at this;cases this
 have o1:((Store.empty.sO p1 (.cells (zr w))).sO p2 (.cells [.s (.slice none 0 0)])).obj p1=some (.cells (zr w)):=(zf (Ne.symm n12)).trans (zd _ _ _);have o2:((Store.empty.sO p1 (.cells (zr w))).sO p2 (.cells [.s (.slice none 0 0)])).obj p2=some (.cells [.s (.slice none 0 0)]):=zd _ _ _;generalize(Store.empty.sO p1 (.cells (zr w))).sO p2 (.cells [.s (.slice none 0 0)])=S at*;refine AWp.seq (AWp.seq (AWp.of_vc zb (Qbc (zgd w hf hn _ _ (λz hz=>(AWp.cond (!z) rfl (yj (zk (λc1=>?_) (λc1=>?_)))))))));rotate_left
 ·have hno:¬z8 w:=λhh=>by have:=hz.2 hh;rw[this]at c1;cases c1
  exact AWp.of_vc zb (ye (i:=ti41) (v:=.s (.slice none 0 0)) (b:=p2) (o:=0) (l:=[.s (.slice none 0 0)]) (st2:=S.sO p2 (.cells [.s (.slice none 0 0)])) rfl rfl rfl o2 ψ rfl (za (o:=(S.sO p2 (.cells [.s (.slice none 0 0)])).obj p2) _ (zd _ _ _) (ret (.inl ⟨hno,rfl⟩))))
 have hm:=hz.1 c1;have fm:=ww hm;have hT:=fm.hT;have ha:=xj fm.hg;have hTl:((rws u8C w.G.T).length:Int)=(w.G.T.length:Int):=by rw[zi]
 refine AWp.of_vc zb (AWp.seq (AWp.of_vc zb (Qbc (K1 rfl (it:=ti22) (ie:=ti5) rfl rfl rfl rfl rfl (n:=(rws u8C w.G.T).length) ?_ ?_ (λbb hfb=>?_)))))
 ·rw[zi];show 1*_<=_;omega
 ·rw[zi];omega
 rw[zi,zm7,zm6 w];have m1:p1≠bb:=λe=>by subst e;rw[hfb.1]at o1;cases o1
 have m2:p2≠bb:=λe=>by subst e;rw[hfb.1]at o2;cases o2
 have q1:(S.sO bb (.cells (ul w.G.T.length (vy w 0)))).obj p1=_:=(zf m1).trans o1;have q2:(S.sO bb (.cells (ul w.G.T.length (vy w 0)))).obj p2=_:=(zf m2).trans o2;have qb:(S.sO bb (.cells (ul w.G.T.length (vy w 0)))).obj bb=_:=zd _ _ _;clear o1 o2 hfb;generalize S.sO bb (.cells (ul w.G.T.length (vy w 0)))=S1 at*;intro p4 f4;have n41:p1≠p4:=λe=>by subst e;rw[f4.1]at q1;cases q1
 have n42:p2≠p4:=λe=>by subst e;rw[f4.1]at q2;cases q2
 have n4b:bb≠p4:=λe=>by subst e;rw[f4.1]at qb;cases qb
 refine ye (i:=ti22) (v:=.s (.slice (some ⟨bb,0,none⟩) w.G.T.length w.G.T.length)) (b:=p4) (o:=0) (l:=[.s (.slice none 0 0)]) (st2:=S1.sO p4 (.cells [.s (.slice (some ⟨bb,0,none⟩) w.G.T.length w.G.T.length)])) rfl rfl rfl (zd _ _ _) ψ (by rw[yw];rfl) ?_;have r1:(S1.sO p4 (.cells [.s (.slice (some ⟨bb,0,none⟩) w.G.T.length w.G.T.length)])).obj p1=_:=(zf n41).trans q1;have r2:(S1.sO p4 (.cells [.s (.slice (some ⟨bb,0,none⟩) w.G.T.length w.G.T.length)])).obj p2=_:=(zf n42).trans q2;have rb:(S1.sO p4 (.cells [.s (.slice (some ⟨bb,0,none⟩) w.G.T.length w.G.T.length)])).obj bb=_:=(zf n4b).trans qb;have r4:(S1.sO p4 (.cells [.s (.slice (some ⟨bb,0,none⟩) w.G.T.length w.G.T.length)])).obj p4=_:=zd _ _ _;clear q1 q2 qb f4;generalize S1.sO p4 (.cells [.s (.slice (some ⟨bb,0,none⟩) w.G.T.length w.G.T.length)])=S2 at*;refine AWp.seq (AWp.of_vc zb ?_);refine Qbc ?_;refine Qbc (zi6 w.G fm.hg w.B (by have:=fm.hB;omega) fm.hb _ _ (λbc hfc=>?_));have t1:(S2.sO bc (.cells (bl w.G.T.length (xo w.G w.B)))).obj p1=_:=(zf (fne hfc r1)).trans r1;have t2:(S2.sO bc (.cells (bl w.G.T.length (xo w.G w.B)))).obj p2=_:=(zf (fne hfc r2)).trans r2;have t4:(S2.sO bc (.cells (bl w.G.T.length (xo w.G w.B)))).obj p4=_:=(zf (fne hfc r4)).trans r4;have tb:(S2.sO bc (.cells (bl w.G.T.length (xo w.G w.B)))).obj bb=_:=(zf (fne hfc rb)).trans rb;have tc:(S2.sO bc (.cells (bl w.G.T.length (xo w.G w.B)))).obj bc=_:=zd _ _ _;have nbc:bb≠bc:=fne hfc rb;clear r1 r2 r4 rb hfc;generalize S2.sO bc (.cells (bl w.G.T.length (xo w.G w.B)))=S3 at*;refine AWp.seq (AWp.seq (AWp.of_vc zb (Qbc (AWp.of_vc zb ?_))))
 refine AWp.loop (σ:=Nat) ⟨λt=>[(1,.av (ptr p1)),(2,.av (ptr p2)),(3,.av (int 0)),(4,.av (ptr p4)),(5,.av (blV bc w.G.T.length)),(26,.av (qa w.G.T)),(27,.av (int (w.G.T.length:Nat))),(28,.av (int (t:Nat)))],λ_=>[],
  λt S'=>t<=w.G.T.length/\(S'.obj p1=some (.cells (zr w))/\S'.obj p2=some (.cells [.s (.slice none 0 0)])/\S'.obj p4=some (.cells [.s (.slice (some ⟨bb,0,none⟩) w.G.T.length w.G.T.length)]))/\S'.obj bc=some (.cells (bl w.G.T.length (xo w.G w.B)))/\S'.obj bb=some (.cells (ul w.G.T.length (vy w t))),λt=>w.G.T.length-t⟩ zb ?_ ?_
 ·refine⟨0,Tv,⟨Fae _,⟨t1,t2,t4⟩,tc,tb⟩,⟨Tq,Tq,Tq,Tq,Tq,Tq,?_,Tq,Tv⟩,Tv⟩;rw[<-hTl];exact Tq
 clear t1 t2 t4 tc tb;rintro t S' ⟨hi,⟨t1,t2,t4⟩,tc,tb⟩;refine bcd (λh1=>?_) (λh1=>?_)
 ·have hlt:t<w.G.T.length:=θ;have⟨ch,hc,hcv⟩:=zz2 (m:=(w.G.T[t]).toNat) (by have:=fm.hg.2.2.2 _ (Faa hlt);omega);have htS:Ld w t=if xo w.G w.B t then 35 else((ch.toNat:Nat):Int):=by
   unfold Ld;rw[hcv,Fao (l:=w.G.T),Fab hlt];rfl
  have hbh:=zaa (f:=xo w.G w.B) hlt;refine⟨t,rfl,za _ (zp hlt) (Qc zb yfe (Qbc ?_))⟩;refine⟨(w.G.T[t]).toNat,rfl,za ch hc ⟨t,rfl,hlt,⟨za _ rfl (xf rfl (q9 (v:=.s (.int .u8 ((ch.toNat:Nat):Int))) rfl rfl rfl rfl (ye (i:=ti5) (v:=.s (.int .u8 ((ch.toNat:Nat):Int))) (b:=bb) (o:=0+t*1) (l:=ul w.G.T.length (vy w t)) (st2:=S'.sO bb (.cells (ul w.G.T.length (yh (vy w t) t ((ch.toNat:Nat):Int))))) rfl rfl rfl tb (by rw[Ng];omega) (by rw[show 0+t*1=t by omega,iw hlt]) ⟨Tv,?_⟩))),Tv⟩⟩⟩;have s1:(S'.sO bb (.cells (ul w.G.T.length (yh (vy w t) t ((ch.toNat:Nat):Int))))).obj p1=_:=(zf m1).trans t1;have s2:(S'.sO bb (.cells (ul w.G.T.length (yh (vy w t) t ((ch.toNat:Nat):Int))))).obj p2=_:=(zf m2).trans t2;have s4:(S'.sO bb (.cells (ul w.G.T.length (yh (vy w t) t ((ch.toNat:Nat):Int))))).obj p4=_:=(zf (Ne.symm n4b)).trans t4;have sc:(S'.sO bb (.cells (ul w.G.T.length (yh (vy w t) t ((ch.toNat:Nat):Int))))).obj bc=_:=(zf (Ne.symm nbc)).trans tc;have sb:(S'.sO bb (.cells (ul w.G.T.length (yh (vy w t) t ((ch.toNat:Nat):Int))))).obj bb=_:=zd _ _ _;clear t1 t2 t4 tc tb;generalize S'.sO bb (.cells (ul w.G.T.length (yh (vy w t) t ((ch.toNat:Nat):Int))))=S5 at*;refine⟨t,rfl,hlt,Qbc (za _ hbh (zk (λd1=>?_) (λd1=>?_)))⟩
  ·rw[if_pos d1]at htS;refine Qbc ?_;exact⟨t,rfl,hlt,ye (i:=ti5) (v:=.s (.int .u8 35)) (b:=bb) (o:=0+t*1) (l:=ul w.G.T.length (yh (vy w t) t ((ch.toNat:Nat):Int))) (st2:=S5.sO bb (.cells (ul w.G.T.length (vy w (t+1))))) rfl rfl rfl sb (by rw[Ng];omega) (by rw[show 0+t*1=t by omega,iw hlt,zms,zcq,htS]) (Qd ⟨t+1,ϑ,⟨hlt,⟨(zf m1).trans s1,(zf m2).trans s2,(zf (Ne.symm n4b)).trans s4⟩,(zf (Ne.symm nbc)).trans sc,zd _ _ _⟩,Qax,Tv⟩)⟩
  ·rw[if_neg (by rw[d1];decide)]at htS;exact Qd ⟨t+1,ϑ,⟨hlt,⟨s1,s2,s4⟩,sc,by rw[zcq,htS];exact sb⟩,Qax,Tv⟩
 have:t=w.G.T.length:=θ;subst this;rw[zm8,<-yq5 w]at tb;clear tc h1 hi nbc;refine AWp.seq (AWp.seq (AWp.of_vc zb (Qbc (ytv (lst 10 zm w.U) w.U rfl _ _ (λpb hfb=>?_)))));have s1:(S'.sO pb (.cells [lst 10 zm w.U])).obj p1=_:=(zf (fne hfb t1)).trans t1;have s2:(S'.sO pb (.cells [lst 10 zm w.U])).obj p2=_:=(zf (fne hfb t2)).trans t2;have s4:(S'.sO pb (.cells [lst 10 zm w.U])).obj p4=_:=(zf (fne hfb t4)).trans t4;have sb:(S'.sO pb (.cells [lst 10 zm w.U])).obj bb=_:=(zf (fne hfb tb)).trans tb;have sp:(S'.sO pb (.cells [lst 10 zm w.U])).obj pb=_:=zd _ _ _;have k1:=fne hfb t1;have k2:=fne hfb t2;have k4:=fne hfb t4;have kb:=fne hfb tb;clear t1 t2 t4 tb hfb;generalize S'.sO pb (.cells [lst 10 zm w.U])=S6 at*;refine AWp.block (AWp.rangeFunc rfl rfl Tryz.func77 ζ ζ [(1,ptr p1),(4,ptr p4)] (λp hp=>?_) (λq hq=>?_) ψ ψ (λl X Y hfl hround=>?_))
 ·simp only[Faw,Fbs,or_false]at hp;rcases hp with rfl|rfl<;>rfl
 ·simp only[Faw,Fbs,or_false]at hq;rcases hq with rfl|rfl<;>simp
 have l1:=fne hfl s1;have l2:=fne hfl s2;have l4:=fne hfl s4;have lb:=fne hfl sb;have lp:=fne hfl sp;refine ytw w.U (by have:=fm.hU;omega) pb l (λk S=>S.obj l=some X/\(S.obj p1=some (.cells (zr w))/\S.obj p2=some (.cells [.s (.slice none 0 0)])/\S.obj p4=some (.cells [.s (.slice (some ⟨bb,0,none⟩) w.G.T.length w.G.T.length)]))/\S.obj pb=some (.cells [lst 10 zm w.U])/\S.obj bb=some (.cells (ul w.G.T.length (Gh w k)))) (λk S h=>h.2.2.1) ?_ _ ?_ _ ?_
 ·rintro k S hk ⟨hX,⟨a1,a2,a4⟩,ap,ab⟩;refine hround S _ _ hX rfl (AWp.of_vc zb ⟨rfl,hX,AWp.of_vc zb ?_⟩);have c1:(S.sO l Y).obj p1=_:=(zf l1).trans a1;have c2:(S.sO l Y).obj p2=_:=(zf l2).trans a2;have c4:(S.sO l Y).obj p4=_:=(zf l4).trans a4;have cp:(S.sO l Y).obj pb=_:=(zf lp).trans ap;have cb:(S.sO l Y).obj bb=_:=(zf lb).trans ab;have cY:(S.sO l Y).obj l=_:=zd _ _ _;clear a1 a2 a4 ap ab hX hround;generalize S.sO l Y=S7 at*;have hdr:=yq4 hk;refine zu (λd1=>?_) (λd1=>?_)
  ·have d1:w.U[k].inn=0:=d1;rw[if_pos d1]at hdr;have hown:=bf hm hk d1;refine Qc zb yff ?_;refine Qbc ?_;refine Qbc ?_;exact⟨zbp w.G fm.hg w.U[k].pos (oj hm hk d1) _ _ ⟨⟨za (o:=S7.obj p4) _ c4 rfl,rfl,Tv⟩,⟨ya7 w.U[k] (fm.hk _ (Faa hk)) _ _ ⟨⟨za (o:=S7.obj p4) _ c4 rfl,Tv⟩,⟨kz w.G w.U[k].pos,rfl,hown,⟨za _ rfl (xf rfl (q9 (v:=.s (.int .u8 (Nf w.U[k]))) rfl rfl rfl rfl (ye (i:=ti5) (v:=.s (.int .u8 (Nf w.U[k]))) (b:=bb) (o:=0+kz w.G w.U[k].pos*1) (l:=ul w.G.T.length (Gh w (k+1))) (st2:=S7.sO bb (.cells (ul w.G.T.length (Gh w k)))) rfl rfl rfl cb (by rw[Ng];omega) (by rw[show 0+kz w.G w.U[k].pos*1=kz w.G w.U[k].pos by omega,iw hown,hdr]) ⟨Tv,⟨rfl,(zf (Ne.symm lb)).trans cY,rfl,zd _ _ _,⟨(zf l1).trans ((zf m1).trans c1),(zf l2).trans ((zf m2).trans c2),(zf l4).trans ((zf (Ne.symm n4b)).trans c4)⟩,(zf lp).trans ((zf (Ne.symm kb)).trans cp),(zf lb).trans (zd _ _ _)⟩⟩))),Tv⟩⟩⟩,Tv⟩⟩,Tv⟩
  ·have d1:¬w.U[k].inn=0:=d1;rw[if_neg d1]at hdr;exact⟨rfl,cY,rfl,zd _ _ _,⟨(zf l1).trans c1,(zf l2).trans c2,(zf l4).trans c4⟩,(zf lp).trans cp,(zf lb).trans (by rw[hdr];exact cb)⟩
 ·exact⟨zd _ _ _,⟨(zf l1).trans s1,(zf l2).trans s2,(zf l4).trans s4⟩,(zf lp).trans sp,(zf lb).trans sb⟩
 rintro S ⟨hX,⟨a1,a2,a4⟩,ap,ab⟩;refine⟨hX,?_⟩;have e1:(S.dO l).obj p1=_:=(dne9 l1).trans a1;have e2:(S.dO l).obj p2=_:=(dne9 l2).trans a2;have e4:(S.dO l).obj p4=_:=(dne9 l4).trans a4;have eb:(S.dO l).obj bb=_:=(dne9 lb).trans ab;clear a1 a2 a4 ap ab hX hround hfl l1 l2 l4 lb lp k1 k2 k4 kb s1 s2 s4 sb sp;generalize S.dO l=S8 at*;clear S;have⟨⟨hW1,hW2⟩,⟨hH1,hH2⟩,hTT,_⟩:=fm.hg;obtain⟨Wn,hWn⟩:∃n:Nat,w.G.W=(n:Int):=⟨w.G.W.toNat,θ⟩
 obtain⟨Hn,hHn⟩:∃n:Nat,w.G.H=(n:Int):=⟨w.G.H.toNat,θ⟩
 have hTn:w.G.T.length=Hn*Wn:=by
  rw[hWn,hHn]at hTT;have:(w.G.T.length:Int)=((Wn*Hn:Nat):Int):=by rw[hTT];simp
  rw[Nat.mul_comm];omega
 have hWi:(zr w).drop 3=int (Wn:Nat)::(zr w).drop 4:=by rw[<-hWn];rfl
 refine AWp.seq (AWp.seq (AWp.of_vc zb ?_));refine Qbc ?_;refine Qbc (ysw (.slice (some ⟨bb,0,none⟩) w.G.T.length w.G.T.length) ⟨_,_,_,rfl⟩ Wn θ w.G.W hWn _ _ (λpc pq hfc hfq=>?_));have c2:(S8.sO pc (.cells [.s (.slice (some ⟨bb,0,none⟩) w.G.T.length w.G.T.length)])).obj p2=_:=(zf (fne hfc e2)).trans e2;have cb:(S8.sO pc (.cells [.s (.slice (some ⟨bb,0,none⟩) w.G.T.length w.G.T.length)])).obj bb=_:=(zf (fne hfc eb)).trans eb;have cc:(S8.sO pc (.cells [.s (.slice (some ⟨bb,0,none⟩) w.G.T.length w.G.T.length)])).obj pc=_:=zd _ _ _;have h2c:=fne hfc e2;have h2q:=fne hfq c2;clear e1 e2 e4 eb hfc;generalize S8.sO pc (.cells [.s (.slice (some ⟨bb,0,none⟩) w.G.T.length w.G.T.length)])=S9 at*;have d2:(S9.sO pq (.cells [int (Wn:Nat)])).obj p2=_:=(zf h2q).trans c2;have db:(S9.sO pq (.cells [int (Wn:Nat)])).obj bb=_:=(zf (fne hfq cb)).trans cb;have dc:(S9.sO pq (.cells [int (Wn:Nat)])).obj pc=_:=(zf (fne hfq cc)).trans cc;have dq:(S9.sO pq (.cells [int (Wn:Nat)])).obj pq=_:=zd _ _ _;clear c2 cb cc hfq;generalize S9.sO pq (.cells [int (Wn:Nat)])=S10 at*;rw[hTn]at dc;refine AWp.block (AWp.rangeFunc rfl rfl Tryz.func78 ζ ζ [(2,ptr p2)] (λp hp=>?_) (λq hq=>?_) ψ ψ (λl X Y hfl hround=>?_))
 ·simp only[Faw,Fbs,or_false]at hp;rcases hp with rfl;rfl
 ·simp only[Faw,Fbs,or_false]at hq;rcases hq with rfl;simp
 have l2:=fne hfl d2;have lb:=fne hfl db;have lc:=fne hfl dc;have lq:=fne hfl dq;refine ysv Wn Hn bb θ θ pc pq l (λk S=>S.obj l=some X/\(S.obj pc=some (.cells [.s (.slice (some ⟨bb,0,none⟩) (Hn*Wn) (Hn*Wn))])/\S.obj pq=some (.cells [int (Wn:Nat)]))/\S.obj bb=some (.cells (ul w.G.T.length (Gh w 0)))/\∃v,S.obj p2=some (.cells [v])/\zax S v (rws ki ((jg w).take k))) (λk S h=>h.2.1) ?_ _ ?_ _ ?_
 ·rintro k S hk ⟨hX,⟨ac,aq⟩,ab,v,av,hv⟩;refine hround S _ _ hX rfl (AWp.of_vc zb ⟨rfl,hX,AWp.of_vc zb ?_⟩);have g2:(S.sO l Y).obj p2=_:=(zf l2).trans av;have gb:(S.sO l Y).obj bb=_:=(zf lb).trans ab;have gc:(S.sO l Y).obj pc=_:=(zf lc).trans ac;have gq:(S.sO l Y).obj pq=_:=(zf lq).trans aq;have gY:(S.sO l Y).obj l=_:=zd _ _ _;have gv:zax (S.sO l Y) v (rws ki ((jg w).take k)):=by
   rcases hv with h|⟨h1,b,h2,h3,h4⟩
   ·exact .inl h
   ·have hbl:b≠l:=λe=>by subst e;rw[hX]at h3;cases h3
    exact .inr ⟨h1,b,h2,(zf hbl).trans h3,h4⟩
  clear av ab ac aq hX hv hround;generalize S.sO l Y=S7 at*;refine Qbc ?_;have hkW:k*Wn+Wn<=w.G.T.length:=by have:=Fa2 Wn (show k+1<=Hn from hk);rw[Fb8]at this;omega
  have hrow:((ul w.G.T.length (Gh w 0)).drop (0+k*Wn*1)).take Wn=Mt (Lr w k):=by rw[zm9 hkW];unfold Lr;rw[hWn,Fbc]
  refine yur rfl (is:=ti22) (ie:=ti5) (it:=ti9) rfl rfl rfl rfl rfl rfl rfl gb (by unfold Lr;simp[hWn]) hrow ⟨ψ,?_⟩;have hll:(jg w).length=Hn:=by unfold jg;simp[hHn]
  have hkl:k<(jg w).length:=θ;have hlk:(jg w)[k]=Lf (Lr w k):=by simp[jg]
  have hrl:(rws ki ((jg w).take k)).length=k:=by rw[zi,Fai];omega
  refine ynr (ie:=ti9) (rows':=[ki (Lf (Lr w k))]) gv rfl rfl rfl φ ⟨?_,?_⟩ (λb st2 ho hb ht=>?_)
  ·rw[hrl];show(k+1)*16<=_;omega
  ·rw[hrl];show k+1<=_;omega
  have hs:rws ki ((jg w).take k)++[ki (Lf (Lr w k))]=rws ki ((jg w).take (k+1)):=by rw[<-hlk];exact Rf hkl
  have nb2:b≠p2:=λe=>by subst e;rw[ho,g2]at hb;cases hb
  have nbl:b≠l:=λe=>by subst e;rw[ho,gY]at hb;cases hb
  have j2:=(ho p2).trans g2;have jb:=(ho bb).trans gb;have jc:=(ho pc).trans gc;have jq:=(ho pq).trans gq;have jl:=(ho l).trans gY;rw[hs]at ht⊢;clear ho gv g2 gb gc gq gY;have nb:bb≠p2:=Ne.symm m2;have nc:pc≠p2:=Ne.symm h2c;have nq:pq≠p2:=Ne.symm h2q;refine ye (i:=ti41) (v:=.lst 1 (rws ki ((jg w).take (k+1))) (some b)) (b:=p2) (o:=0) (l:=[v]) (st2:=st2.sO p2 (.cells [.lst 1 (rws ki ((jg w).take (k+1))) (some b)])) rfl rfl rfl j2 (Fah 1) rfl ⟨rfl,(zf (Ne.symm l2)).trans jl,rfl,zd _ _ _,⟨(zf lc).trans ((zf nc).trans jc),(zf lq).trans ((zf nq).trans jq)⟩,(zf lb).trans ((zf nb).trans jb),_,(zf l2).trans (zd _ _ _),.inr ⟨?_,b,rfl,(zf nbl).trans ((zf nb2).trans hb),ht⟩⟩;rw[<-hs];simp
 ·exact⟨zd _ _ _,⟨(zf lc).trans dc,(zf lq).trans dq⟩,(zf lb).trans db,_,(zf l2).trans d2,.inl ⟨rfl,rfl⟩⟩
 rintro S ⟨hX,⟨ac,aq⟩,ab,v,av,hv⟩;refine⟨hX,?_⟩;have f2:(S.dO l).obj p2=_:=(dne9 l2).trans av;have hfull:(jg w).take Hn=jg w:=Fck (by unfold jg;simp;omega);rw[hfull]at hv;refine AWp.of_vc zb ?_;rcases hv with⟨_,e⟩|⟨_,b,rfl,_,htk⟩
 ·have hll:(jg w).length=Hn:=by unfold jg;simp[hHn]
  have:=congrArg List.length e;rw[zi,hll,Fdb]at this;omega
 exact za (o:=(S.dO l).obj p2) _ f2 (ye (i:=ti41) (v:=.lst 1 (rws ki (jg w)) (some b)) (b:=p2) (o:=0) (l:=[.lst 1 (rws ki (jg w)) (some b)]) (st2:=(S.dO l).sO p2 (.cells [.lst 1 (rws ki (jg w)) (some b)])) rfl rfl rfl f2 (Fah 1) rfl (za (o:=((S.dO l).sO p2 (.cells [.lst 1 (rws ki (jg w)) (some b)])).obj p2) _ (zd _ _ _) ⟨_,_,Tt,Store.Has.refl _,.inr ⟨hm,b,rfl,htk⟩⟩))
def yq2(w:Wld)(hf:w.fits)(hn:∀u∈w.U,u.pos.ok):Jb 11 [.agg (zr w)] Store.empty λr _=>(¬z8 w/\r=.tup [nil,int 1])\/(z8 w/\r=.tup [lst 1 ki (jg w),int 0]):=by
 refine ACalls.post (yq1 w hf hn) (Store.Le.refl _) λr S h=>?_;rcases h with⟨h1,rfl⟩|⟨h1,b,rfl,_⟩
 ·exact⟨_,S,Tt,Store.Le.refl _,.inl ⟨h1,rfl⟩⟩
 ·exact⟨_,S,ylr (AV.le_tok _ _ _),Store.Le.refl _,.inr ⟨h1,rfl⟩⟩
def yq0(w:Wld)(hf:w.fits)(hn:∀u∈w.U,u.pos.ok)(st:Store)(R:Ja)(hno:¬z8 w->R (.tup [nil,int 1]) st)(hok:z8 w->R (.tup [lst 1 ki (jg w),int 0]) st):Jb 11 [.agg (zr w)] st R:=
 Dn (yq2 w hf hn) st R λr h=>by
  rcases h with⟨h1,rfl⟩|⟨h1,rfl⟩
  ·exact hno h1
  ·exact hok h1
def yra{w:Wld}(c:Cmd)(hr:yl w.U):(doW aE aW w c).G=w.G:=by
 unfold doW;split
 ·unfold aW;repeat' split
  ·rfl
  ·rfl
  ·rfl
  ·rfl
  ·exact(zis w c).2.2.2.1
  ·rfl
  ·exact(iy hr).2.2.2.1
 ·rfl
def zjk:∀(l:List Cmd) {w:Wld},playW w->(kr w l).G=w.G
 |[],_,_=>rfl
 |c::l,w,h=>(zjk l (ny h c)).trans (yra c h.1.1.2.1)
def yjg{w:Wld}(h:playW w)(l:List Cmd):(Dj w l).G=w.G:=by
 unfold Dj;split
 ·rfl
 ·exact(Sh (Ro l h) _).2.2.1.trans (zjk l h)
def zba{g:Gnd}{n:Nat}{A:Nat->List Inp}(hp:xu g n):∀t,playW (wA g n A t)/\(wA g n A t).G=g
 |0=>⟨nw hp,rfl⟩
 |t+1=>by have⟨h1,h2⟩:=zba (A:=A) hp t;exact⟨nu h1 _,(yjg h1 _).trans h2⟩
def yqt{g:Gnd}{n d:Int}(hp:xu g n)(hd:1<=d/\d<=8)(l:List Act30){i:Nat}{a:Pee}(ha:(Aa g n d l).X[i]?=some a):a.w.G=g:=by
 obtain⟨m,rfl⟩:∃m:Nat,n=m:=⟨n.toNat,by have:=hp.2;omega⟩
 have⟨A,hA⟩:=zat l (Oe hp hd) (zfo hp);rw[(hA.peer i a ha).w];exact(zba hp _).2
def yae(s:ByteArray):(s==s)=true:=by rw[zck];simp
def yp8(l:List ByteArray)(hl:l.length<=1000000000)(st:Store)(R:Ja)(h:R (V.bool true) st):Jb 12 [lst 1 ki l,lst 1 ki l] st R:=by
 refine Qy 26 Tryz.func12 ?_;refine qi (λc=>absurd rfl c) (λ_=>?_);refine AWp.loop (σ:=Nat) ⟨λi=>[(0,.av (lst 1 ki l)),(1,.av (lst 1 ki l)),(5,.av (int (i:Nat)))],λ_=>[],λi S=>i<=l.length/\S=st,λi=>l.length-i⟩ zb ?_ ?_
 ·exact⟨0,Tv,⟨Fae _,rfl⟩,Qax,Tv⟩
 rintro i S ⟨hi,rfl⟩;refine zk (λc=>?_) (λc=>ret h);have hlt:=k9 c;exact Qc zb yfa ⟨i,rfl,za _ (zp hlt) ⟨i,rfl,za _ (zp hlt) (yj (zk (λ_=>Qd ⟨i+1,ϑ,⟨hlt,rfl⟩,Qax,Tv⟩) (λe=>absurd (yae l[i]) (by rw[e];decide))))⟩⟩
def yp9{a b:List ByteArray}(e:a=b)(hl:a.length<=1000000000)(st:Store)(R:Ja)(h:R (V.bool true) st):Jb 12 [lst 1 ki a,lst 1 ki b] st R:=by subst e;exact yp8 a hl st R h
def zde{q:Prop}(h:q:=by repeat(first|exact Tv|refine⟨rfl,?_⟩|refine⟨⟨i,rfl,za _ (rwm (λo:Pee=>o.p.turn) hlt) rfl⟩,?_⟩|refine⟨⟨k,rfl,za _ (rwm (λo:Pee=>o.p.turn) hkx) rfl⟩,?_⟩)):q:=h
def zdd{q:Prop}(h:q:=by exact⟨k+1,ϑ,⟨rfl,(show k+1<=i by omega)⟩,Qax,⟨rfl,rfl,Tv⟩⟩):q:=h
def zns(p:Scr30)(hp:p.good)(st:Store)(R:Ja)(h:R (V.bool true) st):Jb 3 [.agg (Ah p)] st R:=by
 refine Qb (c:=cfg 110) zb Tryz.func3 (AWp.seq (AWp.of_vc zb ?_));refine AWp.seq (AWp.of_vc zb (zgg p hp _ _ (λz hz=>?_)));refine yj (zk (λc=>?_) (λc=>ret h));have⟨hl,hm⟩:=hz c;have hT:=hl.2.1;have hgf:p.G.fits:=θ9;have hnp:xu p.G p.P:=⟨hm.1,hm.2.1⟩
 refine AWp.meet (σ:=Pty) ⟨λ_=>[(1,.bx 1 0),(3,.bx 3 0),(4,.av (int 0))],fun σ=>[(1,Ah p),(3,C6 σ)],fun σ st'=>st'=st/\∃l,l.length<=60/\σ=Aa p.G p.P p.D l⟩ zb ?_ ?_
 ·refine Qc zb yb8 ?_
  have run:∀(l:List Act30) (q1:l.length<=60) (q2:∀a∈l,small a.C) (R2:Ja),R2 (.tup [.agg (C6 (Aa p.G p.P p.D l)),int 0]) st->Jb 8 [.agg (zw p.G),int p.P,int p.D,int p.R,lst 5 wl l] st R2:=λl q1 q2 R2 hR2=>
   V9 fg p.G hgf θ p.P p.D p.R hp.2.1.1 (by have:=hm.2.2.1;omega) hm.2.2.2 l θ q2 st R2 (λhh=>absurd ⟨hnp,hm.2.2.1⟩ hh) λ_=>hR2
  refine⟨zau p hl _ _ (λl q1 q2=>⟨Du,⟨run l q1 q2 _ ⟨Du,⟨⟨Du,⟨⟨Du,⟨⟨Du,⟨_,⟨rfl,l,q1,rfl⟩,⟨Tq,Tq,Tq,Tv⟩,⟨rfl,rfl,Tv⟩⟩⟩,Tv⟩⟩,Tv⟩⟩,Tv⟩⟩,⟨⟨Du,⟨run l q1 q2 _ ⟨Du,⟨⟨Du,⟨⟨Du,⟨_,⟨rfl,l,q1,rfl⟩,⟨Tq,Tq,Tq,Tv⟩,⟨rfl,rfl,Tv⟩⟩⟩,Tv⟩⟩,Tv⟩⟩,Tv⟩⟩,Tv⟩⟩⟩),⟨⟨Du,⟨zau p hl _ _ (λl q1 q2=>⟨Du,⟨run l q1 q2 _ ⟨Du,⟨⟨Du,⟨⟨Du,⟨_,⟨rfl,l,q1,rfl⟩,⟨Tq,Tq,Tq,Tv⟩,⟨rfl,rfl,Tv⟩⟩⟩,Tv⟩⟩,Tv⟩⟩,Tv⟩⟩),Tv⟩⟩,Tv⟩⟩
 rintro⟨X,m,log⟩ st' ⟨rfl,l,hl60,hσ⟩;refine AWp.seq (AWp.of_vc zb ?_);have hok:=ez hnp hm.2.2.1 l;have hagr:=λ{i k:Nat} {a b:Pee}=>zio (g:=p.G) (n:=p.P) (d:=p.D) hnp hm.2.2.1 l (i:=i) (k:=k) (a:=a) (b:=b);have hgr:=λ{i:Nat} {a:Pee}=>yqt (g:=p.G) (n:=p.P) (d:=p.D) hnp hm.2.2.1 l (i:=i) (a:=a);rw[<-hσ]at hok hagr hgr;have hlen:(X.length:Int)=p.P:=hok.len;have hn:=hm.2.1;have at1:∀{i:Nat} (hi:i<X.length),X[i]?=some X[i]:=λhi=>Fab hi;have draw:∀{i:Nat} (hi:i<X.length) (R2:Ja),R2 (.tup [lst 1 ki (jg X[i].w),int 0]) st'->Jb 11 [.agg (zr X[i].w)] st' R2:=λ{i} hi R2 hR2=>by have hw:=(hok.peer i X[i] (at1 hi)).2.2.1;have hz:=hw.sizes;exact yq0 X[i].w ⟨θ9,θ,θ⟩ hw.2 st' R2 (λhh=>absurd hw.1 hh) λ_=>hR2
 have hll:∀{i:Nat} (hi:i<X.length),((jg X[i].w).length:Int)=p.G.H:=λ{i} hi=>by unfold jg;rw[Fal,Fcd,hgr (at1 hi)];have:=hm.1.2.1;omega
 refine Kj _ _ _ ?_;have e1:∀{α:Type} (f:α->List AV) (k:List α),k.length=X.length->((rws f k).length:Int)=p.P:=λf k hk=>by rw[zi,hk];exact hlen
 refine qi (λc=>absurd (e1 _ _ (Fal ..)) c) (λ_=>qi (λc=>absurd (e1 _ _ (Fal ..)) c) (λ_=>AWp.seq (AWp.of_vc zb (AWp.loop (σ:=Nat) ⟨λi=>[(1,.bx 1 0),(3,.bx 3 0),(5,.av (int (i:Nat)))],λ_=>[(1,Ah p),(3,C6 ⟨X,m,log⟩)],λi S=>S=st'/\i<=X.length,λi=>X.length-i⟩ zb ?_ ?_))))
 ·exact⟨0,Tv,⟨rfl,Fae _⟩,Qax,⟨rfl,rfl,Tv⟩⟩
 rintro i S ⟨rfl,hi⟩;refine bcd (λc3=>?_) (λc3=>?_)
 ·have hlt:i<X.length:=θ;refine⟨i,rfl,za _ (rwm (λo:Pee=>o.w) hlt) (draw hlt _ (Kj _ _ _ (qi (λc=>absurd (by rw[zi];exact hll hlt) c) (λ_=>AWp.loop (σ:=Nat) ⟨λk=>[(1,.bx 1 0),(3,.bx 3 0),(5,.av (int (i:Nat))),(6,.av (lst 1 ki (jg X[i].w))),(8,.av (int (k:Nat)))],λ_=>[(1,Ah p),(3,C6 ⟨X,m,log⟩)],λk S2=>S2=S/\k<=i,λk=>i-k⟩ zb ?_ ?_))))⟩
  ·exact⟨0,Tv,⟨rfl,Fae _⟩,Qax,⟨rfl,rfl,Tv⟩⟩
  rintro k S2 ⟨rfl,hk⟩;refine bcd (λc4=>?_) (λc4=>?_)
  ·have hkx:k<X.length:=θ;have⟨_,_,_,_,g5⟩:=hagr (at1 hlt) (at1 hkx);refine⟨k,rfl,za _ (rwm (λo:Pee=>o.w) hkx) (draw hkx _ (Qc zb yb9 ⟨Kj _ _ _ ⟨Tv,⟨i,rfl,za _ (rwm (λo:Pee=>o.p.turn) hlt) ⟨k,rfl,za _ (rwm (λo:Pee=>o.p.turn) hkx) (zu (λc5=>?_) (λc5=>?_))⟩⟩⟩,Tv⟩))⟩
   ·exact⟨za _ rfl (yp9 (congrArg jg (g5 c5)) (by have:=hll hlt;have:=hm.1.2.1;omega) _ _ ⟨zde,Qd zdd⟩),Tv⟩
   ·exact⟨za _ rfl ⟨zde,Qd zdd⟩,Tv⟩
  ·exact Qd ⟨i+1,ϑ,⟨rfl,hlt⟩,Qax,⟨rfl,rfl,Tv⟩⟩
 ·exact AWp.of_vc zb (za8 _ _ (ret h))
end Go.Proofs
