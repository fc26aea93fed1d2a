/- Ground of laws of throngtop: contracts and plain lemmas; no condition beyond the row's own. -/
import Derived.Test.YtkahacegdhllcaaGreatKL
import Derived.Test.YtkahacegdhllcaaGreatKQ
set_option linter.unusedSimpArgs false
set_option linter.unusedVariables false
set_option linter.defProp false
namespace Go.Proofs
open Go Go.V
set_option maxRecDepth 20000
set_option maxHeartbeats 4000000
def ykl(g:Gnd)(hg:zv g)(t:Nat)(ht:(t:Int)<g.W*g.H)(st:Store)(R:Ja)(h:R (.agg (yp (tx g t+32768,ty g t+32768))) st):Jb 266 [.agg (zw g),int (t:Nat)] st R:=by have htb:=I7 hg ht;have hq:=Ps (t:=t) hg.1.1;have hq2:=Pt (t:=t) hg.1.1;have hg1:=hg.1;have hg2:=hg.2.1;unfold tx ty at h;refine Qy 18 Tryz.func266 ?_;refine Qc zb ydc ?_;refine⟨θ,ze (by rw[hq];omega) (ze (by rw[hq];omega) ⟨θ,ze θ0 (ze θ0 (ze θ0 (Qba ?_)))⟩)⟩;rw[<-hq,<-hq2]at h;exact ret h
def cd(g:Gnd)(hg:zv g)(t:Nat)(ht:(t:Int)<g.W*g.H)(x:Int)(hx:x=(t:Int))(st:Store)(R:Ja)(h:R (.agg (yp (tx g t+32768,ty g t+32768))) st):Jb 266 [.agg (zw g),int x] st R:=by subst hx;exact ykl g hg t ht st R h
def ce(g:Gnd)(hg:zv g)(t:Nat)(ht:t<g.T.length)(x:Int)(hx:x=(t:Int))(st:Store)(R:Ja)(h:R (.agg (yp (qg g t))) st):Jb 266 [.agg (zw g),int x] st R:=
 cd g hg t (by have:=xj hg;omega) x hx st R h
def zbp(g:Gnd)(hg:zv g)(p:Vc)(h0:(0<=p.1/\p.1<g.W*65536)/\(0<=p.2/\p.2<g.H*65536))(st:Store)(R:Ja)(h:R (int (kz g p:Nat)) st):Jb 37 [.agg (zw g),.agg (yp p)] st R:=by
 have hs:=hg.1;have hs2:=hg.2.1;have⟨e1,e2,_⟩:=zb5 hg h0;have ha:=xj hg;refine Qy 39 Tryz.func37 ?_;refine bcd (λc1=>absurd c1 θ) (λc1=>?_);refine Qd (bcd (λc1=>absurd c1 θ) (λc1=>bcd (λc1=>absurd c1 θ) (λc1=>?_)));refine Qd (bcd (λc1=>absurd c1 θ) (λc1=>?_));have q1:p.1.tdiv 65536=p.1/65536:=Fbg θ;have q2:p.2.tdiv 65536=p.2/65536:=Fbg θ;have hx:0<=p.1/65536/\p.1/65536<=128:=θ;have hy:0<=p.2/65536/\p.2/65536<=128:=θ;have hm:0<=g.W*(p.2/65536)/\g.W*(p.2/65536)<=128*128:=⟨Fa8 θ hy.1,Fbo hs.2 hy.2 hy.1 ψ⟩
 refine⟨ψ,ze (by rw[q1];omega) ⟨ψ,ze (by rw[q2];omega) (ze (by rw[q2];omega) (ze (by rw[q1,q2];omega) ?_))⟩⟩;rw[q1,q2,<-e1];exact ret h
section
variable {F G:Store} {s p i:Nat} {w:Wld} {v o0 o1 o2:AV}
def ng{L:List Ent}(hS:StandR F G s p w v L o0 o1 o2)(hos:kl v s)(hr:yl w.U)(hU:w.U.length<=1000000)(hL:L.length<=1000000)(hok:∀e∈L,e.2.ok)(hi:i<w.U.length)(u:Unt)(hid:w.U[i].id=u.id)(hp:u.pos.ok)(R:Ja)
  (h:∀F' G',StandR F' G' s p {w with U:=w.U.set i u} v (Gf L u) o0 o1 o2->(∀q,kl v q->G'.obj q=G.obj q)->R (.tup []) (F'.un (svS G' s {w with U:=w.U.set i u} v o0 o1 o2 p))):
  Jb 257 [ptr s,.agg (zm u)] (F.un (svS G s w v o0 o1 o2 p)) R:=by
 have hrow:RowsQ 10 zm (F.un (svS G s w v o0 o1 o2 p)) v w.U:=(Ka hS.hs hS.hu).un;have hs0:(F.un (svS G s w v o0 o1 o2 p)).obj s=some (.cells (svC w v o0 o1 o2 p)):=zg (Br _ _ _ _ _ _ _ _);rcases hS.hu with(⟨_,hl0⟩|⟨b,cap,J,rfl,ho,hc1,hc2,hc3⟩)|⟨_,_,_,hl0⟩
 ·rw[hl0]at hi;exact absurd hi (Fa3 i)
 rotate_left
 ·rw[hl0]at hi;exact absurd hi (Fa3 i)
 have hbs:b≠s:=hos b _ _ rfl θ;have hob:(F.un (svS G s w (.s (.slice (some ⟨b,0,none⟩) w.U.length cap)) o0 o1 o2 p)).obj b=some (.cells ((rws zm w.U).flatten++J)):=zg (by show(G.sO s _).obj b=_;rw[zf hbs];exact ho);refine Qy 44 Tryz.func257 ?_;refine Qc zb ydm (za (o:=(F.un (svS G s w _ o0 o1 o2 p)).obj s) _ hs0 ?_);refine⟨gg hrow θ hr u.id _ (λk hk z hz=>⟨Qe,?_⟩),Tv⟩;have hki:k=i:=by
  by_cases h1:k<i
  ·have:=hk.2.2 k θ (Fah _);have:=Wq hr h1 hi;omega
  ·by_cases h2:i<k
   ·have:=hk.2.1 i hi h2;omega
   ·omega
 subst hki;refine Qbb (Qbb (Qc zb ydl (za (o:=(F.un (svS G s w _ o0 o1 o2 p)).obj s) _ hs0 ⟨k,rfl,hi,⟨za _ rfl (xf rfl (q9 (v:=.agg (zm u)) rfl rfl rfl rfl (k8 (i:=ti93) (v:=.agg (zm u)) (xs:=zm u) (b:=b) (o:=0+k*10) (l:=(rws zm w.U).flatten++J) rfl rfl rfl hob (by rw[Fac,qc Cy,Cy];omega) ?_))),Tv⟩⟩)));have e0:(F.un (svS G s w (.s (.slice (some ⟨b,0,none⟩) w.U.length cap)) o0 o1 o2 p)).sO b (.cells (zq ((rws zm w.U).flatten++J) (0+k*10) (zm u)))=F.un (svS (G.sO b (.cells ((rws zm (w.U.set k u)).flatten++J))) s {w with U:=w.U.set k u} (.s (.slice (some ⟨b,0,none⟩) w.U.length cap)) o0 o1 o2 p):=by rw[Fa9,Nx Cy hi u J,zy];unfold svS;rw[Ic hbs];rfl
 rw[e0];have hG:∀q,q≠b->(G.sO b (.cells ((rws zm (w.U.set k u)).flatten++J))).obj q=G.obj q:=λq hq=>zf hq;have hS':StandR F (G.sO b (.cells ((rws zm (w.U.set k u)).flatten++J))) s p {w with U:=w.U.set k u} (.s (.slice (some ⟨b,0,none⟩) w.U.length cap)) L o0 o1 o2:=by
  refine⟨hS.hc,λj h1 h2=>hS.hd j h1 (svS_has.2 ?_),?_,.inl (.inr ⟨b,cap,J,by rw[Fak],zd _ _ _,by rw[Fak];exact hc1,by rw[Fak];exact hc2,hc3⟩),hS.h0,hS.h1,hS.h2⟩
  ·rcases svS_has.1 h2 with h2|h2
   ·exact .inl h2
   ·rcases has_setObj_iff.1 h2 with rfl|h2
    ·exact .inr (j6 ho)
    ·exact .inr h2
  ·rw[hG s (Ne.symm hbs)];exact hS.hs
 have hoffG:∀q,kl (.s (.slice (some ⟨b,0,none⟩) w.U.length cap)) q->(G.sO b (.cells ((rws zm (w.U.set k u)).flatten++J))).obj q=G.obj q:=λq hq=>hG q (Ne.symm (hq b _ _ rfl θ));generalize G.sO b _=G1 at hS' hoffG⊢;have hs1:(F.un (svS G1 s {w with U:=w.U.set k u} (.s (.slice (some ⟨b,0,none⟩) w.U.length cap)) o0 o1 o2 p)).obj s=some (.cells (svC w (.s (.slice (some ⟨b,0,none⟩) w.U.length cap)) o0 o1 o2 p)):=zg (Br _ _ _ _ _ _ _ _);refine⟨Tv,zu (λc1=>?_) (λc1=>?_)⟩
 ·refine Qc zb ydk (za (o:=(F.un (svS G1 s _ _ o0 o1 o2 p)).obj s) _ hs1 ⟨uu hS'.hc hS'.hd θ hok u.id u.pos hp _ (λF2 h2 h3=>⟨Tv,?_⟩),Tv⟩);have e9:Gf L u=qt L u.id++[(u.id,u.pos)]:=if_pos c1;exact ret (h F2 G1 ⟨by rw[e9];exact h2,h3,hS'.hs,hS'.hu,hS'.h0,hS'.h1,hS'.h2⟩ hoffG)
 ·refine Qc zb ydj (za (o:=(F.un (svS G1 s _ _ o0 o1 o2 p)).obj s) _ hs1 ⟨ys7 hS'.hc hS'.hd θ hok u.id _ (λF2 h2 h3=>⟨Tv,?_⟩),Tv⟩);have e9:Gf L u=qt L u.id:=if_neg c1;exact ret (h F2 G1 ⟨by rw[e9];exact h2,h3,hS'.hs,hS'.hu,hS'.h0,hS'.h1,hS'.h2⟩ hoffG)
def Wz{L:List Ent}(hS:StandR F G s p w v L o0 o1 o2)(hos:kl v s)(hr:yl w.U)(hU:w.U.length<=1000000)(hL:L.length<=1000000)(hok:∀e∈L,e.2.ok)(hi:i<w.U.length)(u:Unt)(hid:w.U[i].id=u.id)(hp:u.pos.ok)(R:Ja)
  (h:∀F' G' L',StandR F' G' s p {w with U:=w.U.set i u} v L' o0 o1 o2->(∀q,kl v q->G'.obj q=G.obj q)->L'.length<=L.length+1->(∀e∈L',e.2.ok)->R (.tup []) (F'.un (svS G' s {w with U:=w.U.set i u} v o0 o1 o2 p))):
  Jb 257 [ptr s,.agg (zm u)] (F.un (svS G s w v o0 o1 o2 p)) R:=
 ng hS hos hr hU hL hok hi u hid hp R λF' G' h1 h2=>h F' G' _ h1 h2 (yqq L u) (yqp hok hp)
end
def ygi(m:Int)(hm:0<=m)(st:Store)(R:Ja)(h:∀r,Gw m r->R (int r) st):Jb 310 [.agg (Bm m)] st R:=by
 refine Qy 22 Tryz.func310 ?_
 refine AWp.loop (σ:=Nat×Int) ⟨λx=>[(1,.bx 1 0),(3,.av (u64 x.2)),(4,.av (int ((x.1:Int)-1)))],λ_=>[(1,Bm m)],
  λx st'=>x.1<=63/\st'=st/\Kg m x.2 x.1,λx=>x.1⟩ zb ?_ ?_
 ·exact⟨(63,0),Tv,⟨Fah _,rfl,ygm hm⟩,Qax,⟨rfl,Tv⟩⟩
 rintro⟨k,r⟩ st' ⟨hk,rfl,hr⟩;dsimp only at hk hr⊢;refine bcd (λh1=>?_) (λh1=>?_);rotate_left
 ·have:k=0:=θ;subst this;have hi:=ygo hr;have h2:=h r hi;have hi0:=hi.1;exact⟨⟨θ,hi.2.1⟩,ret h2⟩
 cases k with
 |zero=>omega
 |succ k=>
  have⟨e1,e2,e3,e4⟩:=ygp hr;have e5:((k+1:Nat):Int)-1=(k:Int):=θ;refine⟨θ,?_⟩;have e7:vr .or .u64 r (IntKind.u64.wrap (1*2^(min (((k+1:Nat):Int)-1).toNat IntKind.u64.bits)))=r+2^k:=by rw[e5,ybc θ,e1]
  have e8:∀X,X=r+2^k->0<=X/\X<18446744073709551616/\0<=X*X:=λX hX=>by subst hX;exact⟨θ,θ,Fa8 θ θ⟩
  have e8:=e8 _ e7;refine Qc zb ycm ⟨du _ e8.1 e8.2.1 _ _ ⟨Qe,⟨zkl m _ hm e8.2.2 _ _ ⟨Qe,?_⟩,Tv⟩⟩,Tv⟩;have no:=λhh=>ygn hr hh;have yes:=λhh=>ygl hr hh;rw[<-e7]at no yes;generalize vr .or .u64 r (IntKind.u64.wrap (1*2^(min (((k+1:Nat):Int)-1).toNat IntKind.u64.bits)))=X at*;refine yj (bcd (λc1=>?_) (λc1=>?_))
  ·refine⟨by unfold yu;omega,⟨(k,r),?_,⟨ξ,rfl,no c1⟩,⟨Tq,Tq,?_,Tv⟩,⟨rfl,Tv⟩⟩⟩
   ·show k<k+1;omega
   ·rw[e5];exact Tq
  ·refine⟨by unfold yu;omega,⟨(k,X),?_,⟨ξ,rfl,yes θ⟩,⟨Tq,Tq,?_,Tv⟩,⟨rfl,Tv⟩⟩⟩
   ·show k<k+1;omega
   ·rw[e5];exact Tq
def rc(v:Vc)(hv:v.ok)(st:Store)(R:Ja)(h:∀r,Gw (sqr v) r->R (int r) st):Jb 294 [.agg (yp v)] st R:=by have hb:=l8 hv;refine Qy 6 Tryz.func294 ?_;exact zcv v hv _ _ (ygi (sqr v) (by unfold sqr;omega) _ _ (λr hr=>ret (h r hr)))
def zif(p q:Vc)(hp:p.ok)(hq:q.ok)(st:Store)(R:Ja)(h:R (V.bool (decide (Hy p q))) st):Jb 265 [.agg (yp p),.agg (yp q)] st R:=by refine Qy 10 Tryz.func265 ?_;refine Vq p q hp hq _ _ (rc _ (Vr p q) _ _ (λr hr=>ret ?_));rw[show decide (Hy p q)=decide (131072<r)from by rw[Fb9];simp only[decide_eq_true_eq];exact(ygk hr).symm]at h;exact h
def zbe(v:Vc)(st:Store)(R:Ja)(h:R (.agg (yp (wn v))) st):Jb 300 [.agg (yp v)] st R:=by refine Qy 10 Tryz.func300 ?_;refine Qc zb ycq ?_;exact⟨L6 v.1 _ _ ⟨Qe,⟨L6 v.2 _ _ ⟨Qe,Qba (ret h)⟩,Tv⟩⟩,Tv⟩
def zbk(a b:Vc)(ha:a.ok)(hb:b.ok)(st:Store)(R:Ja)(h:R (.agg (yp (kx a b))) st):Jb 275 [.agg (yp a),.agg (yp b)] st R:=by refine Qy 16 Tryz.func275 ?_;refine Qc zb yc4 ?_;exact⟨K3 a.1 b.1 ha.1 hb.1 _ _ ⟨Qe,⟨K3 a.2 b.2 ha.2 hb.2 _ _ ⟨Qe,Qba (ret h)⟩,Tv⟩⟩,Tv⟩
def yrk(lo y:Int)(h0:0<=lo)(h1:lo<18446744073709551616)(h2:0<y)(h3:y<18446744073709551616)(st:Store)(R:Ja)(h:R (.tup [u64 (lo/y),u64 (lo%y)]) st):Jb 320 [u64 0,u64 lo,u64 y] st R:=by
 have e1:lo.tdiv y=lo/y:=Fbg h0;have e2:lo.tmod y=lo%y:=Fdt h0;have b1:lo/y<=lo:=Int.ediv_le_self _ h0;have b0:0<=lo/y:=Fcz h0 θ;have w:IntKind.u64.wrap (lo.tdiv y)=lo/y:=by rw[e1];exact H8 b0 θ
 refine Qy 135 Tryz.func320 ?_;refine zu (λc1=>absurd c1 θ) (λc1=>bcd (λc2=>absurd c2 θ) (λc2=>?_));refine Qc zb ycl ?_;refine⟨θ,⟨θ,⟨⟨Qe,⟨⟨Tv,?_⟩,Tv⟩⟩,Tv⟩⟩⟩;rw[w,e2];exact ret h
def nrm_lt{n:Int}:nrm n<0↔n<0:=by unfold nrm;split<;>omega
def yt0{c:Int}(h:-4611686018427387904<=c/\c<=4611686018427387904):asz c=if c<0 then -c else c:=by unfold asz;rw[Hl θ]
def ze0(c most long:Int)(hc:-1099511627776<=c/\c<=1099511627776)(hm:0<=most/\most<=1048576)(hl:0<long/\long<9223372036854775808)(st:Store)(R:Ja)(h:R (int (Ix c most long)) st):
  Jb 301 [int c,int most,int long] st R:=by
 have hasz:=yt0 (c:=c) θ;obtain⟨x,hx⟩:∃x,x=asz c:=⟨_,rfl⟩
 have hx0:0<=x/\x<=1099511627776:=by rw[hx,hasz];split<;>omega
 have hp0:0<=x*most:=Fa8 hx0.1 hm.1;have hp1:x*most<=1099511627776*1048576:=Fbo hx0.2 hm.2 hm.1 θ;have hq1:x*most/long<=x*most:=Int.ediv_le_self _ hp0;have hq0:0<=x*most/long:=Fcz hp0 θ;have w1:IntKind.u64.wrap most=most:=H8 θ θ;have w2:IntKind.u64.wrap long=long:=H8 θ θ;refine Qy 39 Tryz.func301 ?_;refine zaw c ⟨θ,θ⟩ _ _ ?_;rw[<-hx];show ACalls _ _ [u64 x,u64 (IntKind.u64.wrap most)] _ _;rw[w1];refine pj x most hx0.1 θ hm.1 θ _ _ ?_;have e2:Bm (x*most)=[u64 0,u64 (x*most)]:=by unfold Bm;rw[Fd5 hp0 θ,Fet hp0 θ]
 rw[e2];show ACalls _ _ [u64 0,u64 (x*most),u64 (IntKind.u64.wrap long)] _ _;rw[w2];refine yrk _ _ hp0 θ hl.1 θ _ _ ?_;unfold Ix at h;refine bcd (λc1=>?_) (λc1=>?_)
 ·have c1:=nrm_lt.1 c1;rw[if_pos c1]at h;rw[if_pos c1]at hasz;refine Qd (Qd ?_);have e:0-x*most/long=-(-c*most/long):=by rw[hx,hasz];omega
  rw[e];exact ret h
 ·have c1:¬c<0:=λhh=>c1 (nrm_lt.2 hh);rw[if_neg c1]at h;rw[if_neg c1]at hasz;refine Qd ?_;rw[hx,hasz];exact ret h
def zmk{v:Vc}(h:Cf v):wn v=v:=(Lj (Lb h)).2.1
def fx(v:Vc)(most:Int)(hv:Cf v)(hm:-9223372036854775808<=most/\most<=1048576)(st:Store)(R:Ja)(h:R (.agg (yp (ku v most))) st):
  Jb 278 [.agg (yp v),int most] st R:=by
 have hn:=zmk hv;have hsq:=(Lj (Lb hv)).2.2.1;have hri:=Ny hsq;unfold ku at h;rw[<-max2_eq]at h;have hmx:0<=max2 most 0/\max2 most 0<=1048576:=by rw[max2_eq];omega
 have⟨r0,r1,_,_⟩:=hri;refine Qy 27 Tryz.func278 ?_;refine zbe v _ _ ?_;rw[hn]at h⊢;refine rc v (zny hv) _ _ (λr hr=>?_);have hr:=zd4 hsq hr;subst hr;generalize max2 most 0=m at*;generalize vz (sqr v)=L at*;refine bcd (λc1=>?_) (λc1=>?_)
 ·rw[if_pos c1]at h;exact ret h
 rw[if_neg c1]at h;have e1:nrm v.1=v.1:=congrArg Prod.fst hn;have e2:nrm v.2=v.2:=congrArg Prod.snd hn;rw[e1,e2]at h;exact Qc zb yc0 ⟨ze0 v.1 m L hv.1 hmx θ _ _ ⟨Qe,⟨ze0 v.2 m L hv.2 hmx θ _ _ ⟨Qe,Qba (ret h)⟩,Tv⟩⟩,Tv⟩
def znr(p q:Vc)(s:Int)(hp:jm p)(hq:jm q)(hs:0<=s/\s<=1048576)(st:Store)(R:Ja)(h:R (.agg (yp (Ni p q s))) st):Jb 282 [.agg (yp p),.agg (yp q),int s] st R:=by
 have hp':p.ok:=by unfold jm at hp;exact⟨⟨θ,θ⟩,⟨θ,θ⟩⟩
 have hq':q.ok:=by unfold jm at hq;exact⟨⟨θ,θ⟩,⟨θ,θ⟩⟩
 refine Qy 12 Tryz.func282 ?_;exact Vq q p hq' hp' _ _ (fx _ s (Vp hp hq) θ _ _ (ret h))
def Rl(a b:Int×Int)(st:Store)(R:Ja)(h:∀z:Bool,(z=true↔qlt a b)->R (bool z) st):Jb 368 [.agg (itC a),.agg (itC b)] st R:=by
 refine Qy 24 Tryz.func368 ?_;repeat' (first|refine bcd (λ_=>?_) (λ_=>?_)|refine zk (λ_=>?_) (λ_=>?_)|refine Qd ?_|fail)
 all_goals
  refine ret (h _ ?_);unfold qlt;simp only[decide_eq_true_eq,decide_eq_false_iff_not,Fap,false_iff,true_iff,beq_iff_eq,bne_iff_ne,beq_eq_false_iff_ne,ne_eq,reduceCtorEq]at*;omega
def yhu(S:Store)(R:Ja)(h:∀p,Fresh S p->R (ptr p) (S.sO p (.cells [.s (.slice none 0 0)]))):Jb 364 [] S R:=by refine Qa (c:=cfg 3 [2] []) zb Tryz.func364 ?_;intro p hp;exact ret (h p hp)
def yhm{F:Store}{p:Nat}{l:List (Int×Int)}(hq:QOf F p l)(hl:l.length<=1000000)(hh:Ad l)(x:Int×Int)(R:Ja)
  (h:∀F' l',QOf F' p l'->Ad l'->l'.Perm (x::l)->R (.tup []) F'):Jb 365 [ptr p,int x.1,int x.2] F R:=by
 have⟨v,hp,hr,hne⟩:=hq.rows;refine Qy 74 Tryz.func365 ?_;refine Qbc ?_;refine⟨ψ,yt4 (ie:=ti452) rfl Mi ψ hr x rfl θ (λb cap L q1 q2 q3 q4=>?_)⟩;have hbp:b≠p:=by
  rcases q1 with q1|⟨c0,q1⟩
  ·exact λe=>by have:=q1.1;rw[e,hp]at this;cases this
  ·exact hne b c0 q1
 have hp2:(F.sO b (.cells ((rws itC (l++[x])).flatten++L))).obj p=some (.cells [v]):=by rw[zf (Ne.symm hbp)];exact hp
 refine Ch (i:=ti449) (v:=.s (.slice (some ⟨b,0,none⟩) (l++[x]).length cap)) (b:=p) (o:=0) (l:=[v]) rfl rfl rfl hp2 (Fah 1) ?_
 have hQ:QAt ((F.sO b (.cells ((rws itC (l++[x])).flatten++L))).sO p (.cells (zq [v] 0 [.s (.slice (some ⟨b,0,none⟩) (l++[x]).length cap)]))) p b cap (l++[x]) L:=
  ⟨zd _ _ _,by rw[zf hbp];exact zd _ _ _,hbp,q2,q3,q4⟩
 have hU:=yho hh x;have hP:=yhn l x;have hlen:(l++[x]).length=l.length+1:=φ;generalize hm:l++[x]=m at hQ hU hP hlen⊢;generalize(F.sO b (.cells ((rws itC m).flatten++L))).sO p _=F1 at hQ⊢;refine za (o:=F1.obj p) _ hQ.hp (Qd ?_)
 refine AWp.loop (σ:=Nat×Store×List (Int×Int)) ⟨λq=>[(0,.av (ptr p)),(6,.av (int (q.1:Nat)))],λ_=>[],
  λq st'=>st'=q.2.1/\QAt q.2.1 p b cap q.2.2 L/\UpF (qat q.2.2) q.2.2.length q.1/\q.2.2.Perm (x::l)/\q.2.2.length=l.length+1/\q.1<q.2.2.length,λq=>q.1⟩ zb ?_ ?_
 ·refine⟨(l.length,F1,m),Tv,⟨rfl,hQ,hU,hP,hlen,ξ⟩,⟨Tq,?_,Tv⟩,Tv⟩;show LV.le (.av (int ((m.length:Int)-1))) (.av (int (l.length:Nat)));rw[show(m.length:Int)-1=(l.length:Nat) by omega];exact Tq
 rintro⟨i,F2',m2⟩ F2 ⟨rfl,hQ,hU,hP,hlen,hi⟩;dsimp only at hQ hU hP hlen hi⊢;refine bcd (λc1=>?_) (λc1=>?_);rotate_left
 ·have:i=0:=θ;subst this;exact ret (h F2 m2 (.inr ⟨b,cap,L,hQ⟩) (zeg hU (.inl rfl)) hP)
 have hpar:((i:Int)-1).tdiv 2=(par i:Nat):=by unfold par;rw[Fbg θ];omega
 have hpl:par i<m2.length:=by have:=D6 (show 0<i by omega);omega
 refine Qd ⟨ψ,ze (by rw[hpar];omega) (Qc zb yce (za (o:=F2.obj p) _ hQ.hp ⟨i,rfl,hi,za (o:=F2.obj b) _ hQ.hb (xr (i:=ti452) (row:=itC (qat m2 i)) rfl rfl (wy hi) (za (o:=F2.obj p) _ hQ.hp ⟨par i,hpar,hpl,za (o:=F2.obj b) _ hQ.hb (xr (i:=ti452) (row:=itC (qat m2 (par i))) rfl rfl (wy hpl) ⟨Rl _ _ _ _ (λz hz=>⟨Tv,yj (zk (λc2=>?_) (λc2=>?_))⟩),Tv⟩)⟩))⟩))⟩;rotate_left
 ·exact ret (h F2 m2 (.inr ⟨b,cap,L,hQ⟩) (zeg hU (.inr λhh=>ψk)) hP)
 have⟨hU2,hP2⟩:=yhl hU θ hi (hz.1 c2);have hS1:=hQ.set hi (qat m2 (par i));have hpl2:par i<(m2.set i (qat m2 (par i))).length:=by rw[Fak];exact hpl
 have hS2:=hS1.set hpl2 (qat m2 i);refine Qc zb ycd (za (o:=F2.obj p) _ hQ.hp (za (o:=F2.obj p) _ hQ.hp (za (o:=F2.obj p) _ hQ.hp ⟨par i,hpar,hpl,za (o:=F2.obj b) _ hQ.hb (xr (i:=ti452) (row:=itC (qat m2 (par i))) rfl rfl (wy hpl) (za (o:=F2.obj p) _ hQ.hp ⟨i,rfl,hi,za (o:=F2.obj b) _ hQ.hb (xr (i:=ti452) (row:=itC (qat m2 i)) rfl rfl (wy hi) ⟨i,rfl,hi,⟨za _ rfl (xf rfl (q9 (v:=.agg (itC (qat m2 (par i)))) rfl rfl rfl rfl (k8 (i:=ti452) (xs:=itC (qat m2 (par i))) rfl rfl rfl hQ.hb (Iq hi _) ⟨Tv,⟨par i,hpar,hpl,⟨za _ rfl (xf rfl (q9 (v:=.agg (itC (qat m2 i))) rfl rfl rfl rfl (k8 (i:=ti452) (xs:=itC (qat m2 i)) rfl rfl rfl hS1.hb (Iq hpl2 _) ⟨Tv,?_⟩))),Tv⟩⟩⟩))),Tv⟩⟩)⟩))⟩)));have hlen2:(wt m2 i (par i)).length=m2.length:=Nl _ _ _;refine⟨(par i,_,wt m2 i (par i)),?_,⟨rfl,hS2,hU2,hP2.trans hP,ξ,ξ⟩,⟨Tq,?_,Tv⟩,Tv⟩
 ·show par i<i;exact D6 θ
 ·rw[hpar];exact Tq
def LV.le_int{a b:Int}(h:a=b):LV.le (.av (int a)) (.av (int b)):=by subst h;exact Tq
def yhp{F:Store}{p:Nat}{l:List (Int×Int)}(hq:QOf F p l)(hl:l.length<=1000000)(hh:Ad l)(R:Ja)
  (h0:l=[]->R (.tup [int 0,int 0,V.bool false]) F)
  (h1:0<l.length->∀F' l',QOf F' p l'->Ad l'->l.Perm (qat l 0::l')->R (.tup [int (qat l 0).1,int (qat l 0).2,V.bool true]) F'):Jb 366 [ptr p] F R:=by
 by_cases hz:l.length=0
 ·have hnil:l=[]:=Fa0 hz;have⟨v,hp,hr,hne⟩:=hq.rows;have hv:∃a c,v=.s (.slice a 0 c):=by
   rcases hr with⟨rfl,_⟩|⟨b,cap,L,rfl,_⟩
   ·exact⟨_,_,rfl⟩
   ·exact⟨_,_,by rw[hz]⟩
  obtain⟨a,c,rfl⟩:=hv;refine Qy 121 Tryz.func366 ?_;refine Qbc ?_;exact Qd (ret (h0 hnil))
 have⟨b,cap,L,hQ⟩:=hq.pos θ;obtain⟨n,hn⟩:∃n,l.length=n+1:=⟨l.length-1,θ⟩
 have hc1:=hQ.h1;have h0l:0<l.length:=θ;have hnl:n<l.length:=θ;have hnI:(l.length:Int)-1=(n:Nat):=θ;refine Qy 121 Tryz.func366 ?_;refine za (o:=F.obj p) _ hQ.hp ?_;refine Qd (bcd (λc1=>absurd c1 θ) (λc1=>za (o:=F.obj p) _ hQ.hp ?_));refine⟨0,rfl,h0l,za (o:=F.obj b) _ hQ.hb (xr (i:=ti452) (row:=itC (qat l 0)) rfl rfl (wy h0l) (Qc zb ycb (za (o:=F.obj p) _ hQ.hp (za (o:=F.obj p) _ hQ.hp ⟨n,hnI,hnl,za (o:=F.obj b) _ hQ.hb (xr (i:=ti452) (row:=itC (qat l n)) rfl rfl (wy hnl) ⟨0,rfl,h0l,⟨za _ rfl (xf rfl (q9 (v:=.agg (itC (qat l n))) rfl rfl rfl rfl (k8 (i:=ti452) (xs:=itC (qat l n)) rfl rfl rfl hQ.hb (Iq h0l _) ⟨Tv,?_⟩))),Tv⟩⟩)⟩))))⟩;have hQ1:=hQ.set h0l (qat l n);have hls:(l.set 0 (qat l n)).length=n+1:=by rw[Fak];exact hn
 refine za _ hQ1.hp ⟨0,n,rfl,hnI,Fae _,θ,.inl ⟨θ,Ch (i:=ti449) (v:=.s (.slice (some ⟨b,0,none⟩) n cap)) (b:=p) (o:=0) (l:=[.s (.slice (some ⟨b,0,none⟩) (l.set 0 (qat l n)).length cap)]) rfl rfl rfl hQ1.hp (Fah 1) ?_⟩⟩;have hQ2:=hQ1.cut (n:=n) θ;have hD:=yhs hn hh;have hpm:=yhq hn;have hln:((l.set 0 (qat l n)).take n).length=n:=θq;have hfin:∀F' l',QOf F' p l'->Ad l'->l'.Perm ((l.set 0 (qat l n)).take n)->R (.tup [int (qat l 0).1,int (qat l 0).2,V.bool true]) F':=λF' l' g1 g2 g3=>h1 h0l F' l' g1 g2 (hpm.trans (List.Perm.cons _ g3.symm));generalize(rws itC ((l.set 0 (qat l n)).drop n)).flatten++L=L2 at hQ2;generalize((l.set 0 (qat l n)).take n)=m0 at hQ2 hD hln hfin
 refine AWp.loop (σ:=Nat×Store×List (Int×Int)) ⟨λq=>[(0,.av (ptr p)),(5,.av (int (n:Nat))),(6,.bx 6 0),(7,.av (int (q.1:Nat)))],λ_=>[(6,itC (qat l 0))],
  λq st'=>st'=q.2.1/\QAt q.2.1 p b cap q.2.2 L2/\I1 (qat q.2.2) q.2.2.length q.1/\q.2.2.Perm m0/\q.2.2.length=n/\q.1<=n,λq=>n-q.1⟩ zb ?_ ?_
 ·exact⟨(0,_,m0),Tv,⟨rfl,hQ2,hD,List.Perm.refl _,hln,Fae _⟩,⟨Tq,LV.le_int hnI,Tq,Tq,Tv⟩,⟨rfl,Tv⟩⟩
 rintro⟨i,F2',m⟩ F2 ⟨rfl,hQ,hD,hP,hlen,hin⟩;dsimp only at hQ hD hP hlen hin⊢;refine Qd (Qd (bcd (λc1=>?_) (λc1=>?_)))
 ·have hF:=hfin F2 m (.inr ⟨b,cap,_,hQ⟩) (yht hD θ) hP;exact Qc zb Wh ⟨⟨⟨rfl,Tv⟩,⟨⟨Tv,⟨⟨Tv,ret hF⟩,Tv⟩⟩,Tv⟩⟩,Tv⟩
 have hil:i<m.length:=θ;refine Qc zb ycc (Qd (bcd (λc3=>?_) (λc3=>?_)));rotate_left
 ·refine Qbb ?_;have hkl:2*i+1<m.length:=θ;have hki:par (2*i+1)=i:=(Rr θ).2 (.inl rfl);have hmin:=ui (f:=qat m) (n:=m.length) (i:=i) (k:=2*i+1) (.inl ⟨rfl,λhx=>θ⟩);refine Qc zb mo (za (o:=F2.obj p) _ hQ.hp ⟨2*i+1,θ,hkl,za (o:=F2.obj b) _ hQ.hb (xr (i:=ti452) (row:=itC (qat m (2*i+1))) rfl rfl (wy hkl) (za (o:=F2.obj p) _ hQ.hp ⟨i,rfl,hil,za (o:=F2.obj b) _ hQ.hb (xr (i:=ti452) (row:=itC (qat m i)) rfl rfl (wy hil) ⟨Rl _ _ _ _ (λz hz=>⟨Tv,yj (zk (λc2=>?_) (λc2=>?_))⟩),Tv⟩)⟩))⟩);rotate_left
  ·have hF:=hfin F2 m (.inr ⟨b,cap,_,hQ⟩) (m7 hD hmin (λhh=>ψk)) hP;exact Qc zb Wh ⟨⟨⟨rfl,Tv⟩,⟨⟨Tv,⟨⟨Tv,ret hF⟩,Tv⟩⟩,Tv⟩⟩,Tv⟩
  have⟨hD2,hP2⟩:=m8 hD θ hkl hki hmin (hz.1 c2);have hS1:=hQ.set hil (qat m (2*i+1));have hkl2:2*i+1<(m.set i (qat m (2*i+1))).length:=by rw[Fak];exact hkl
  have hS2:=hS1.set hkl2 (qat m i);refine Qc zb mn (za (o:=F2.obj p) _ hQ.hp (za (o:=F2.obj p) _ hQ.hp (za (o:=F2.obj p) _ hQ.hp ⟨2*i+1,θ,hkl,za (o:=F2.obj b) _ hQ.hb (xr (i:=ti452) (row:=itC (qat m (2*i+1))) rfl rfl (wy hkl) (za (o:=F2.obj p) _ hQ.hp ⟨i,rfl,hil,za (o:=F2.obj b) _ hQ.hb (xr (i:=ti452) (row:=itC (qat m i)) rfl rfl (wy hil) ⟨i,rfl,hil,⟨za _ rfl (xf rfl (q9 (v:=.agg (itC (qat m (2*i+1)))) rfl rfl rfl rfl (k8 (i:=ti452) (xs:=itC (qat m (2*i+1))) rfl rfl rfl hQ.hb (Iq hil _) ⟨Tv,⟨2*i+1,θ,hkl,⟨za _ rfl (xf rfl (q9 (v:=.agg (itC (qat m i))) rfl rfl rfl rfl (k8 (i:=ti452) (xs:=itC (qat m i)) rfl rfl rfl hS1.hb (Iq hkl2 _) ⟨Tv,?_⟩))),Tv⟩⟩⟩))),Tv⟩⟩)⟩))⟩)));have hlen2:(wt m i (2*i+1)).length=m.length:=Nl _ _ _;refine⟨(2*i+1,_,wt m i (2*i+1)),?_,⟨rfl,hS2,hD2,hP2.trans hP,ξ,ξ⟩,⟨Tq,Tq,Tq,?_,Tv⟩,⟨rfl,Tv⟩⟩
  ·show n-(2*i+1)<n-i;omega
  ·exact LV.le_int θ
 refine za (o:=F2.obj p) _ hQ.hp (Qd ?_);have hkl1:2*i+2<m.length:=θ;have hkl0:2*i+1<m.length:=θ;refine⟨2*i+2,θ,hkl1,za (o:=F2.obj b) _ hQ.hb (xr (i:=ti452) (row:=itC (qat m (2*i+2))) rfl rfl (wy hkl1) (za (o:=F2.obj p) _ hQ.hp ⟨2*i+1,θ,hkl0,za (o:=F2.obj b) _ hQ.hb (xr (i:=ti452) (row:=itC (qat m (2*i+1))) rfl rfl (wy hkl0) ⟨Rl _ _ _ _ (λz hz1=>⟨Tv,zk (λc4=>?_) (λc4=>?_)⟩),Tv⟩)⟩))⟩
 ·refine Qd ?_;have hkl:2*i+2<m.length:=hkl1;have hki:par (2*i+2)=i:=(Rr θ).2 (.inr rfl);have hmin:=ui (f:=qat m) (n:=m.length) (i:=i) (k:=2*i+2) (.inr ⟨rfl,hz1.1 c4⟩);refine Qc zb mo (za (o:=F2.obj p) _ hQ.hp ⟨2*i+2,θ,hkl,za (o:=F2.obj b) _ hQ.hb (xr (i:=ti452) (row:=itC (qat m (2*i+2))) rfl rfl (wy hkl) (za (o:=F2.obj p) _ hQ.hp ⟨i,rfl,hil,za (o:=F2.obj b) _ hQ.hb (xr (i:=ti452) (row:=itC (qat m i)) rfl rfl (wy hil) ⟨Rl _ _ _ _ (λz hz=>⟨Tv,yj (zk (λc2=>?_) (λc2=>?_))⟩),Tv⟩)⟩))⟩);rotate_left
  ·have hF:=hfin F2 m (.inr ⟨b,cap,_,hQ⟩) (m7 hD hmin (λhh=>ψk)) hP;exact Qc zb Wh ⟨⟨⟨rfl,Tv⟩,⟨⟨Tv,⟨⟨Tv,ret hF⟩,Tv⟩⟩,Tv⟩⟩,Tv⟩
  have⟨hD2,hP2⟩:=m8 hD θ hkl hki hmin (hz.1 c2);have hS1:=hQ.set hil (qat m (2*i+2));have hkl2:2*i+2<(m.set i (qat m (2*i+2))).length:=by rw[Fak];exact hkl
  have hS2:=hS1.set hkl2 (qat m i);refine Qc zb mn (za (o:=F2.obj p) _ hQ.hp (za (o:=F2.obj p) _ hQ.hp (za (o:=F2.obj p) _ hQ.hp ⟨2*i+2,θ,hkl,za (o:=F2.obj b) _ hQ.hb (xr (i:=ti452) (row:=itC (qat m (2*i+2))) rfl rfl (wy hkl) (za (o:=F2.obj p) _ hQ.hp ⟨i,rfl,hil,za (o:=F2.obj b) _ hQ.hb (xr (i:=ti452) (row:=itC (qat m i)) rfl rfl (wy hil) ⟨i,rfl,hil,⟨za _ rfl (xf rfl (q9 (v:=.agg (itC (qat m (2*i+2)))) rfl rfl rfl rfl (k8 (i:=ti452) (xs:=itC (qat m (2*i+2))) rfl rfl rfl hQ.hb (Iq hil _) ⟨Tv,⟨2*i+2,θ,hkl,⟨za _ rfl (xf rfl (q9 (v:=.agg (itC (qat m i))) rfl rfl rfl rfl (k8 (i:=ti452) (xs:=itC (qat m i)) rfl rfl rfl hS1.hb (Iq hkl2 _) ⟨Tv,?_⟩))),Tv⟩⟩⟩))),Tv⟩⟩)⟩))⟩)));have hlen2:(wt m i (2*i+2)).length=m.length:=Nl _ _ _;refine⟨(2*i+2,_,wt m i (2*i+2)),?_,⟨rfl,hS2,hD2,hP2.trans hP,ξ,ξ⟩,⟨Tq,Tq,Tq,?_,Tv⟩,⟨rfl,Tv⟩⟩
  ·show n-(2*i+2)<n-i;omega
  ·exact LV.le_int θ
 ·have hkl:2*i+1<m.length:=hkl0;have hki:par (2*i+1)=i:=(Rr θ).2 (.inl rfl);have hmin:=ui (f:=qat m) (n:=m.length) (i:=i) (k:=2*i+1) (.inl ⟨rfl,λhx hh=>by rw[hz1.2 hh]at c4;cases c4⟩);refine Qc zb mo (za (o:=F2.obj p) _ hQ.hp ⟨2*i+1,θ,hkl,za (o:=F2.obj b) _ hQ.hb (xr (i:=ti452) (row:=itC (qat m (2*i+1))) rfl rfl (wy hkl) (za (o:=F2.obj p) _ hQ.hp ⟨i,rfl,hil,za (o:=F2.obj b) _ hQ.hb (xr (i:=ti452) (row:=itC (qat m i)) rfl rfl (wy hil) ⟨Rl _ _ _ _ (λz hz=>⟨Tv,yj (zk (λc2=>?_) (λc2=>?_))⟩),Tv⟩)⟩))⟩);rotate_left
  ·have hF:=hfin F2 m (.inr ⟨b,cap,_,hQ⟩) (m7 hD hmin (λhh=>ψk)) hP;exact Qc zb Wh ⟨⟨⟨rfl,Tv⟩,⟨⟨Tv,⟨⟨Tv,ret hF⟩,Tv⟩⟩,Tv⟩⟩,Tv⟩
  have⟨hD2,hP2⟩:=m8 hD θ hkl hki hmin (hz.1 c2);have hS1:=hQ.set hil (qat m (2*i+1));have hkl2:2*i+1<(m.set i (qat m (2*i+1))).length:=by rw[Fak];exact hkl
  have hS2:=hS1.set hkl2 (qat m i);refine Qc zb mn (za (o:=F2.obj p) _ hQ.hp (za (o:=F2.obj p) _ hQ.hp (za (o:=F2.obj p) _ hQ.hp ⟨2*i+1,θ,hkl,za (o:=F2.obj b) _ hQ.hb (xr (i:=ti452) (row:=itC (qat m (2*i+1))) rfl rfl (wy hkl) (za (o:=F2.obj p) _ hQ.hp ⟨i,rfl,hil,za (o:=F2.obj b) _ hQ.hb (xr (i:=ti452) (row:=itC (qat m i)) rfl rfl (wy hil) ⟨i,rfl,hil,⟨za _ rfl (xf rfl (q9 (v:=.agg (itC (qat m (2*i+1)))) rfl rfl rfl rfl (k8 (i:=ti452) (xs:=itC (qat m (2*i+1))) rfl rfl rfl hQ.hb (Iq hil _) ⟨Tv,⟨2*i+1,θ,hkl,⟨za _ rfl (xf rfl (q9 (v:=.agg (itC (qat m i))) rfl rfl rfl rfl (k8 (i:=ti452) (xs:=itC (qat m i)) rfl rfl rfl hS1.hb (Iq hkl2 _) ⟨Tv,?_⟩))),Tv⟩⟩⟩))),Tv⟩⟩)⟩))⟩)));have hlen2:(wt m i (2*i+1)).length=m.length:=Nl _ _ _;refine⟨(2*i+1,_,wt m i (2*i+1)),?_,⟨rfl,hS2,hD2,hP2.trans hP,ξ,ξ⟩,⟨Tq,Tq,Tq,?_,Tv⟩,⟨rfl,Tv⟩⟩
  ·show n-(2*i+1)<n-i;omega
  ·exact LV.le_int θ
def Gs{p:Vc}(h:jm p):p.ok:=by unfold jm at h;exact⟨⟨θ,θ⟩,⟨θ,θ⟩⟩
def yia{p q:Vc}(hp:jm p)(hq:jm q):Cf (if jd p q=(0,0)then(65536,0)else jd p q):=by
 split
 ·unfold Cf;decide
 ·exact Vp hq hp
def ygj{v:Vc}(h:Cf v):0<=vz (sqr v):=(Ny (Lj (Lb h)).2.2.1).1
def ybd(p:Vc)(r:Int)(q:Vc)(hp:jm p)(hq:jm q)(hr:0<=r/\r<=1048576)(st:Store)(R:Ja)(h:R (.agg (yp (Bv p r q))) st):
  Jb 276 [.agg (yp p),int r,.agg (yp q)] st R:=by
 have ht:=Vp hq hp;have hsq:=(Lj (Lb ht)).2.2.1;have hr0:=ygj ht;have harg:=yia hp hq;have hri:=Ny hsq;unfold Bv at h;refine Qy 29 Tryz.func276 ?_;refine Vo p q r (Gs hp) (Gs hq) θ _ _ (yj (zk (λc1=>?_) (λc1=>?_)));rotate_left
 ·rw[if_neg (by rw[c1];decide)]at h;exact ret h
 rw[if_pos c1]at h;refine Vq p q (Gs hp) (Gs hq) _ _ (rc _ (Vr p q) _ _ (λL hL=>?_));have hL2:=zd4 hsq hL;subst hL2;have hLb:vz (sqr (jd p q))<=1099511627776*2:=by
  have⟨_,_,h3,_⟩:=hri;have e:=(Lj (Lb ht)).1;unfold Cf at ht;generalize vz (sqr (jd p q))=L at*;by_cases hh:L<=1099511627776*2
  ·exact hh
  ·exfalso;have h4:(1099511627776*2+1)*(1099511627776*2+1)<=L*L:=Fbo θ θ θ θ;have h5:(jd p q).1*(jd p q).1<=1099511627776*1099511627776:=by
    rw[Ph];exact Fbo θ θ θ θ
   have h6:(jd p q).2*(jd p q).2<=1099511627776*1099511627776:=by rw[Ph];exact Fbo θ θ θ θ
   omega
 have hfs:qf r (vz (sqr (jd p q)))=r-vz (sqr (jd p q)):=by unfold qf;rw[Hl θ,Sr θ θ];omega
 refine Kc _ _ ⟨θ,θ⟩ ⟨θ,θ⟩ _ _ ?_;rw[hfs];generalize vz (sqr (jd p q))=L at*;generalize jd p q=d at*;refine zk (λc2=>?_) (λc2=>?_)
 ·have c2:d=(0,0):=by
   simp only[Fa6,beq_iff_eq]at c2;exact Prod.ext c2.1 c2.2.1
  rw[if_pos c2]at h harg;subst c2;exact fx (65536,0) (r-L) harg θ _ _ (ret h)
 ·have c2:¬d=(0,0):=λe=>by
   rw[e]at c2;exact absurd c2 ψ
  rw[if_neg c2]at h harg;exact fx d (r-L) harg θ _ _ (ret h)
def zbf{v:Vc}{m:Int}(hs:Cf v):(ku v m).ok:=by
 by_cases hm:0<=m
 ·have:=(zjr (Lb hs) hm).1;unfold Bs at this;exact⟨⟨θ,θ⟩,⟨θ,θ⟩⟩
 ·have e:ku v m=ku v 0:=by
   unfold ku;rw[show max m 0=max 0 0 by omega]
  rw[e];have:=(zjr (Lb hs) (Fcr 0)).1;unfold Bs at this;exact⟨⟨θ,θ⟩,⟨θ,θ⟩⟩
end Go.Proofs
