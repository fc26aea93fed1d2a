/- Ground of laws of throngtop: contracts and plain lemmas; no condition beyond the row's own. -/
import Derived.Test.YtphhbmaalpdnoaaGreatKM
import Derived.Test.YtphhbmaalpdnoaaGreatKR
set_option linter.unusedSimpArgs false
set_option linter.unusedVariables false
set_option linter.defProp false
namespace Go.Proofs
open Go Go.V
set_option maxRecDepth 20000
set_option maxHeartbeats 4000000
theorem yi8(g:Gnd)(hg:zt g)(t:Nat)(ht:(t:Int)<g.W*g.H)(st:Store)(R:Ja)(h:R (.agg (yd (tx g t+32768,ty g t+32768))) st):Jb 296 [.agg (zu g),int (t:Nat)] st R:=by have htb:=Gc hg ht;have hq:=Kg (t:=t) hg.1.1;have hq2:=Kh (t:=t) hg.1.1;have hg1:=hg.1;have hg2:=hg.2.1;unfold tx ty at h;refine Qa (c:=cfg 18) zb Tryz.func296 ?_;refine Qc zb ybm ?_;refine⟨θ,?_⟩;refine ze (by rw[hq];omega) ?_;refine ze (by rw[hq];omega) ?_;refine⟨θ,?_⟩;refine ze θw ?_;refine ze θw ?_;refine ze θw ?_;refine Qat ?_;rw[<-hq,<-hq2]at h;exact ret h
theorem V4(g:Gnd)(hg:zt g)(t:Nat)(ht:(t:Int)<g.W*g.H)(x:Int)(hx:x=(t:Int))(st:Store)(R:Ja)(h:R (.agg (yd (tx g t+32768,ty g t+32768))) st):Jb 296 [.agg (zu g),int x] st R:=by subst hx;exact yi8 g hg t ht st R h
theorem V5(g:Gnd)(hg:zt g)(t:Nat)(ht:t<g.T.length)(x:Int)(hx:x=(t:Int))(st:Store)(R:Ja)(h:R (.agg (yd (qc g t))) st):Jb 296 [.agg (zu g),int x] st R:=
 V4 g hg t (by have:=qm hg;omega) x hx st R h
theorem ziy(g:Gnd)(hg:zt g)(p:Vc)(h0:(0<=p.1/\p.1<g.W*65536)/\(0<=p.2/\p.2<g.H*65536))(st:Store)(R:Ja)(h:R (int (Bd g p:Nat)) st):Jb 309 [.agg (zu g),.agg (yd p)] st R:=by
 have hs:=hg.1;have hs2:=hg.2.1;obtain⟨e1,e2,_⟩:=sf hg h0;have ha:=qm hg;refine Qa (c:=cfg 39) zb Tryz.func309 ?_;refine bcd (λc1=>absurd c1 θ) (λc1=>?_);refine Qd ?_;refine bcd (λc1=>absurd c1 θ) (λc1=>?_);refine bcd (λc1=>absurd c1 θ) (λc1=>?_);refine Qd ?_;refine bcd (λc1=>absurd c1 θ) (λc1=>?_);have q1:p.1.tdiv 65536=p.1/65536:=Fa1 θ;have q2:p.2.tdiv 65536=p.2/65536:=Fa1 θ;have hx:0<=p.1/65536/\p.1/65536<=128:=θ;have hy:0<=p.2/65536/\p.2/65536<=128:=θ;have hm:0<=g.W*(p.2/65536)/\g.W*(p.2/65536)<=128*128:=⟨Faw θ hy.1,Fbc hs.2 hy.2 hy.1 ψ⟩
 refine⟨ψ,?_⟩;refine ze (by rw[q1];omega) ?_;refine⟨ψ,?_⟩;refine ze (by rw[q2];omega) ?_;refine ze (by rw[q2];omega) ?_;refine ze (by rw[q1,q2];omega) ?_;rw[q1,q2,<-e1];exact ret h
section
variable {F G:Store} {s p i:Nat} {w:Wld} {v o0 o1 o2:AV}
theorem f9{L:List Ent}(hS:StandR F G s p w v L o0 o1 o2)(hos:j5 v s)(hr:yl w.U)(hU:w.U.length<=1000000)(hL:L.length<=1000000)(hok:∀e∈L,e.2.ok)(hi:i<w.U.length)(u:Unt)(hid:w.U[i].id=u.id)(hp:u.pos.ok)(R:Ja)
  (h:∀F' G',StandR F' G' s p {w with U:=w.U.set i u} v (Fb L u) o0 o1 o2->(∀q,j5 v q->G'.obj q=G.obj q)->R (.tup []) (F'.un (svS G' s {w with U:=w.U.set i u} v o0 o1 o2 p))):
  Jb 287 [ptr s,.agg (zn u)] (F.un (svS G s w v o0 o1 o2 p)) R:=by
 have hrow:RowsQ 10 zn (F.un (svS G s w v o0 o1 o2 p)) v w.U:=(H3 hS.hs hS.hu).un;have hs0:(F.un (svS G s w v o0 o1 o2 p)).obj s=some (.cells (svC w v o0 o1 o2 p)):=zf (Be _ _ _ _ _ _ _ _);rcases hS.hu with(⟨_,hl0⟩|⟨b,cap,J,rfl,ho,hc1,hc2,hc3⟩)|⟨_,_,_,hl0⟩
 ·rw[hl0]at hi;exact absurd hi (Fa3 i)
 rotate_left
 ·rw[hl0]at hi;exact absurd hi (Fa3 i)
 have hbs:b≠s:=hos b _ _ rfl θ;have hob:(F.un (svS G s w (.s (.slice (some ⟨b,0,none⟩) w.U.length cap)) o0 o1 o2 p)).obj b=some (.cells ((rws zn w.U).flatten++J)):=zf (by show(G.sO s _).obj b=_;rw[zg hbs];exact ho);refine Qa (c:=cfg 44) zb Tryz.func287 ?_;refine Qc zb ybw ?_;refine za (o:=(F.un (svS G s w _ o0 o1 o2 p)).obj s) _ hs0 ?_;refine⟨bz hrow θ hr u.id _ (λk hk z hz=>⟨Qe,?_⟩),Tv⟩;have hki:k=i:=by
  by_cases h1:k<i
  ·have:=hk.2.2 k θ (Fak _);have:=Sy hr h1 hi;omega
  ·by_cases h2:i<k
   ·have:=hk.2.1 i hi h2;omega
   ·omega
 subst hki;refine Qau ?_;refine Qau ?_;refine Qc zb ybv ?_;refine za (o:=(F.un (svS G s w _ o0 o1 o2 p)).obj s) _ hs0 ?_;refine⟨k,rfl,hi,?_⟩;refine⟨?_,Tv⟩;refine za _ rfl (xp rfl (xl (v:=.agg (zn u)) rfl rfl rfl rfl ?_));refine Aa (i:=ti72) (v:=.agg (zn u)) (xs:=zn u) (b:=b) (o:=0+k*10) (l:=(rws zn w.U).flatten++J) rfl rfl rfl hob (by rw[Fad,wj Bb,Bb];omega) ?_;have e0:(F.un (svS G s w (.s (.slice (some ⟨b,0,none⟩) w.U.length cap)) o0 o1 o2 p)).sO b (.cells (zp ((rws zn w.U).flatten++J) (0+k*10) (zn u)))=F.un (svS (G.sO b (.cells ((rws zn (w.U.set k u)).flatten++J))) s {w with U:=w.U.set k u} (.s (.slice (some ⟨b,0,none⟩) w.U.length cap)) o0 o1 o2 p):=by rw[Fbi,yek Bb hi u J,zz];unfold svS;rw[Ge hbs];rfl
 rw[e0];have hG:∀q,q≠b->(G.sO b (.cells ((rws zn (w.U.set k u)).flatten++J))).obj q=G.obj q:=λq hq=>zg hq;have hS':StandR F (G.sO b (.cells ((rws zn (w.U.set k u)).flatten++J))) s p {w with U:=w.U.set k u} (.s (.slice (some ⟨b,0,none⟩) w.U.length cap)) L o0 o1 o2:=by
  refine⟨hS.hc,λj h1 h2=>hS.hd j h1 (svS_has.2 ?_),?_,.inl (.inr ⟨b,cap,J,by rw[Faz],zd _ _ _,by rw[Faz];exact hc1,by rw[Faz];exact hc2,hc3⟩),hS.h0,hS.h1,hS.h2⟩
  ·rcases svS_has.1 h2 with h2|h2
   ·exact .inl h2
   ·rcases has_setObj_iff.1 h2 with rfl|h2
    ·exact .inr (k9 ho)
    ·exact .inr h2
  ·rw[hG s (Ne.symm hbs)];exact hS.hs
 have hoffG:∀q,j5 (.s (.slice (some ⟨b,0,none⟩) w.U.length cap)) q->(G.sO b (.cells ((rws zn (w.U.set k u)).flatten++J))).obj q=G.obj q:=λq hq=>hG q (Ne.symm (hq b _ _ rfl θ));generalize G.sO b _=G1 at hS' hoffG⊢;have hs1:(F.un (svS G1 s {w with U:=w.U.set k u} (.s (.slice (some ⟨b,0,none⟩) w.U.length cap)) o0 o1 o2 p)).obj s=some (.cells (svC w (.s (.slice (some ⟨b,0,none⟩) w.U.length cap)) o0 o1 o2 p)):=zf (Be _ _ _ _ _ _ _ _);refine⟨Tv,?_⟩;refine zw (λc1=>?_) (λc1=>?_)
 ·refine Qc zb ybu ?_;refine za (o:=(F.un (svS G1 s _ _ o0 o1 o2 p)).obj s) _ hs1 ?_;refine⟨oj hS'.hc hS'.hd θ hok u.id u.pos hp _ (λF2 h2 h3=>⟨Tv,?_⟩),Tv⟩;have e9:Fb L u=qn L u.id++[(u.id,u.pos)]:=if_pos c1;exact ret (h F2 G1 ⟨by rw[e9];exact h2,h3,hS'.hs,hS'.hu,hS'.h0,hS'.h1,hS'.h2⟩ hoffG)
 ·refine Qc zb ybt ?_;refine za (o:=(F.un (svS G1 s _ _ o0 o1 o2 p)).obj s) _ hs1 ?_;refine⟨yrb hS'.hc hS'.hd θ hok u.id _ (λF2 h2 h3=>⟨Tv,?_⟩),Tv⟩;have e9:Fb L u=qn L u.id:=if_neg c1;exact ret (h F2 G1 ⟨by rw[e9];exact h2,h3,hS'.hs,hS'.hu,hS'.h0,hS'.h1,hS'.h2⟩ hoffG)
theorem Vh{L:List Ent}(hS:StandR F G s p w v L o0 o1 o2)(hos:j5 v s)(hr:yl w.U)(hU:w.U.length<=1000000)(hL:L.length<=1000000)(hok:∀e∈L,e.2.ok)(hi:i<w.U.length)(u:Unt)(hid:w.U[i].id=u.id)(hp:u.pos.ok)(R:Ja)
  (h:∀F' G' L',StandR F' G' s p {w with U:=w.U.set i u} v L' o0 o1 o2->(∀q,j5 v q->G'.obj q=G.obj q)->L'.length<=L.length+1->(∀e∈L',e.2.ok)->R (.tup []) (F'.un (svS G' s {w with U:=w.U.set i u} v o0 o1 o2 p))):
  Jb 287 [ptr s,.agg (zn u)] (F.un (svS G s w v o0 o1 o2 p)) R:=
 f9 hS hos hr hU hL hok hi u hid hp R λF' G' h1 h2=>h F' G' _ h1 h2 (yo7 L u) (yo6 hok hp)
end
theorem yeq(m:Int)(hm:0<=m)(st:Store)(R:Ja)(h:∀r,Fx m r->R (int r) st):Jb 429 [.agg (j3 m)] st R:=by
 refine Qa (c:=cfg 22) zb Tryz.func429 ?_
 refine AWp.loop (σ:=Nat×Int) ⟨λx=>[(1,.bx 1 0),(3,.av (u64 x.2)),(4,.av (int ((x.1:Int)-1)))],λ_=>[(1,j3 m)],
  λx st'=>x.1<=63/\st'=st/\Ib m x.2 x.1,λx=>x.1⟩ zb ?_ ?_
 ·exact⟨(63,0),Tv,⟨Fak _,rfl,yew hm⟩,Qaq,⟨rfl,Tv⟩⟩
 rintro⟨k,r⟩ st' ⟨hk,rfl,hr⟩;dsimp only at hk hr⊢;refine bcd (λh1=>?_) (λh1=>?_);rotate_left
 ·have:k=0:=θ;subst this;have hi:=yey hr;have h2:=h r hi;have hi0:=hi.1;exact⟨⟨θ,hi.2.1⟩,ret h2⟩
 cases k with
 |zero=>omega
 |succ k=>
  obtain⟨e1,e2,e3,e4⟩:=yez hr;have e5:((k+1:Nat):Int)-1=(k:Int):=θ;refine⟨θ,?_⟩;have e7:jk .or .u64 r (IntKind.u64.wrap (1*2^(min (((k+1:Nat):Int)-1).toNat IntKind.u64.bits)))=r+2^k:=by rw[e5,zzs θ,e1]
  have e8:∀X,X=r+2^k->0<=X/\X<18446744073709551616/\0<=X*X:=λX hX=>by subst hX;exact⟨θ,θ,Faw θ θ⟩
  have e8:=e8 _ e7;refine Qc zb yak ?_;refine⟨Wu _ e8.1 e8.2.1 _ _ ⟨Qe,?_⟩,Tv⟩;refine⟨zgf m _ hm e8.2.2 _ _ ⟨Qe,?_⟩,Tv⟩;have no:=λhh=>yex hr hh;have yes:=λhh=>yev hr hh;rw[<-e7]at no yes;generalize jk .or .u64 r (IntKind.u64.wrap (1*2^(min (((k+1:Nat):Int)-1).toNat IntKind.u64.bits)))=X at*;refine yi ?_;refine bcd (λc1=>?_) (λc1=>?_)
  ·refine⟨by unfold yg;omega,?_⟩;refine⟨(k,r),?_,⟨ζ,rfl,no c1⟩,⟨Tq,Tq,?_,Tv⟩,⟨rfl,Tv⟩⟩
   ·show k<k+1;omega
   ·rw[e5];exact Tq
  ·refine⟨by unfold yg;omega,?_⟩;refine⟨(k,X),?_,⟨ζ,rfl,yes θ⟩,⟨Tq,Tq,?_,Tv⟩,⟨rfl,Tv⟩⟩
   ·show k<k+1;omega
   ·rw[e5];exact Tq
theorem lc(v:Vc)(hv:v.ok)(st:Store)(R:Ja)(h:∀r,Fx (sqr v) r->R (int r) st):Jb 378 [.agg (yd v)] st R:=by have hb:=Oi hv;refine Qa (c:=cfg 6) zb Tryz.func378 ?_;refine te v hv _ _ ?_;refine yeq (sqr v) (by unfold sqr;omega) _ _ (λr hr=>?_);exact ret (h r hr)
theorem zec(p q:Vc)(hp:p.ok)(hq:q.ok)(st:Store)(R:Ja)(h:R (V.bool (decide (Gy p q))) st):Jb 295 [.agg (yd p),.agg (yd q)] st R:=by refine Qa (c:=cfg 10) zb Tryz.func295 ?_;refine Rx p q hp hq _ _ ?_;refine lc _ (Lw p q) _ _ (λr hr=>?_);refine ret ?_;rw[show decide (Gy p q)=decide (131072<r)from by rw[Fbu];simp only[decide_eq_true_eq];exact(yeu hr).symm]at h;exact h
theorem rb(v:Vc)(st:Store)(R:Ja)(h:R (.agg (yd (vy v))) st):Jb 383 [.agg (yd v)] st R:=by refine Qa (c:=cfg 10) zb Tryz.func383 ?_;refine Qc zb yao ?_;refine⟨K1 v.1 _ _ ⟨Qe,?_⟩,Tv⟩;refine⟨K1 v.2 _ _ ⟨Qe,?_⟩,Tv⟩;refine Qat ?_;exact ret h
theorem rk(a b:Vc)(ha:a.ok)(hb:b.ok)(st:Store)(R:Ja)(h:R (.agg (yd (j9 a b))) st):Jb 304 [.agg (yd a),.agg (yd b)] st R:=by refine Qa (c:=cfg 16) zb Tryz.func304 ?_;refine Qc zb ybe ?_;refine⟨I8 a.1 b.1 ha.1 hb.1 _ _ ⟨Qe,?_⟩,Tv⟩;refine⟨I8 a.2 b.2 ha.2 hb.2 _ _ ⟨Qe,?_⟩,Tv⟩;refine Qat ?_;exact ret h
theorem ypu(lo y:Int)(h0:0<=lo)(h1:lo<18446744073709551616)(h2:0<y)(h3:y<18446744073709551616)(st:Store)(R:Ja)(h:R (.tup [u64 (lo/y),u64 (lo%y)]) st):Jb 438 [u64 0,u64 lo,u64 y] st R:=by
 have e1:lo.tdiv y=lo/y:=Fa1 h0;have e2:lo.tmod y=lo%y:=Fbz h0;have b1:lo/y<=lo:=Int.ediv_le_self _ h0;have b0:0<=lo/y:=Fcg h0 θ;have w:IntKind.u64.wrap (lo.tdiv y)=lo/y:=by rw[e1];exact Cp b0 θ
 refine Qa (c:=cfg 135) zb Tryz.func438 ?_;refine zw (λc1=>absurd c1 θ) (λc1=>?_);refine bcd (λc2=>absurd c2 θ) (λc2=>?_);refine Qc zb yaj ?_;refine⟨θ,?_⟩;refine⟨θ,?_⟩;refine⟨⟨Qe,⟨⟨Tv,?_⟩,Tv⟩⟩,Tv⟩;rw[w,e2];exact ret h
theorem nrm_lt{n:Int}:nrm n<0↔n<0:=by unfold nrm;split<;>omega
theorem ysa{c:Int}(h:-4611686018427387904<=c/\c<=4611686018427387904):asz c=if c<0 then -c else c:=by unfold asz;rw[Fm θ]
theorem zbb(c most long:Int)(hc:-1099511627776<=c/\c<=1099511627776)(hm:0<=most/\most<=1048576)(hl:0<long/\long<9223372036854775808)(st:Store)(R:Ja)(h:R (int (Hr c most long)) st):
  Jb 384 [int c,int most,int long] st R:=by
 have hasz:=ysa (c:=c) θ;obtain⟨x,hx⟩:∃x,x=asz c:=⟨_,rfl⟩
 have hx0:0<=x/\x<=1099511627776:=by rw[hx,hasz];split<;>omega
 have hp0:0<=x*most:=Faw hx0.1 hm.1;have hp1:x*most<=1099511627776*1048576:=Fbc hx0.2 hm.2 hm.1 θ;have hq1:x*most/long<=x*most:=Int.ediv_le_self _ hp0;have hq0:0<=x*most/long:=Fcg hp0 θ;have w1:IntKind.u64.wrap most=most:=Cp θ θ;have w2:IntKind.u64.wrap long=long:=Cp θ θ;refine Qa (c:=cfg 39) zb Tryz.func384 ?_;refine pm c ⟨θ,θ⟩ _ _ ?_;rw[<-hx];show ACalls _ _ [u64 x,u64 (IntKind.u64.wrap most)] _ _;rw[w1];refine iq x most hx0.1 θ hm.1 θ _ _ ?_;have e2:j3 (x*most)=[u64 0,u64 (x*most)]:=by unfold j3;rw[Fdm hp0 θ,Feb hp0 θ]
 rw[e2];show ACalls _ _ [u64 0,u64 (x*most),u64 (IntKind.u64.wrap long)] _ _;rw[w2];refine ypu _ _ hp0 θ hl.1 θ _ _ ?_;unfold Hr at h;refine bcd (λc1=>?_) (λc1=>?_)
 ·have c1:=nrm_lt.1 c1;rw[if_pos c1]at h;rw[if_pos c1]at hasz;refine Qd ?_;refine Qd ?_;have e:0-x*most/long=-(-c*most/long):=by rw[hx,hasz];omega
  rw[e];exact ret h
 ·have c1:¬c<0:=λhh=>c1 (nrm_lt.2 hh);rw[if_neg c1]at h;rw[if_neg c1]at hasz;refine Qd ?_;rw[hx,hasz];exact ret h
theorem zid{v:Vc}(h:Br v):vy v=v:=(Kl (Ki h)).2.1
theorem bk(v:Vc)(most:Int)(hv:Br v)(hm:-9223372036854775808<=most/\most<=1048576)(st:Store)(R:Ja)(h:R (.agg (yd (j8 v most))) st):
  Jb 307 [.agg (yd v),int most] st R:=by
 have hn:=zid hv;have hsq:=(Kl (Ki hv)).2.2.1;have hri:=Mi hsq;unfold j8 at h;rw[<-max2_eq]at h;have hmx:0<=max2 most 0/\max2 most 0<=1048576:=by rw[max2_eq];omega
 obtain⟨r0,r1,_,_⟩:=hri;refine Qa (c:=cfg 27) zb Tryz.func307 ?_;refine rb v _ _ ?_;rw[hn]at h⊢;refine lc v (zjq hv) _ _ (λr hr=>?_);have hr:=zac hsq hr;subst hr;generalize max2 most 0=m at*;generalize vk (sqr v)=L at*;refine bcd (λc1=>?_) (λc1=>?_)
 ·rw[if_pos c1]at h;exact ret h
 rw[if_neg c1]at h;have e1:nrm v.1=v.1:=congrArg Prod.fst hn;have e2:nrm v.2=v.2:=congrArg Prod.snd hn;rw[e1,e2]at h;refine Qc zb yba ?_;refine⟨zbb v.1 m L hv.1 hmx θ _ _ ⟨Qe,?_⟩,Tv⟩;refine⟨zbb v.2 m L hv.2 hmx θ _ _ ⟨Qe,?_⟩,Tv⟩;refine Qat ?_;exact ret h
theorem zjj(p q:Vc)(s:Int)(hp:xm p)(hq:xm q)(hs:0<=s/\s<=1048576)(st:Store)(R:Ja)(h:R (.agg (yd (L6 p q s))) st):Jb 312 [.agg (yd p),.agg (yd q),int s] st R:=by
 have hp':p.ok:=by unfold xm at hp;exact⟨⟨θ,θ⟩,⟨θ,θ⟩⟩
 have hq':q.ok:=by unfold xm at hq;exact⟨⟨θ,θ⟩,⟨θ,θ⟩⟩
 refine Qa (c:=cfg 12) zb Tryz.func312 ?_;refine Rx q p hq' hp' _ _ ?_;refine bk _ s (Rw hp hq) θ _ _ ?_;exact ret h
theorem O4(a b:Int×Int)(st:Store)(R:Ja)(h:∀z:Bool,(z=true↔qlt a b)->R (bool z) st):Jb 224 [.agg (itC a),.agg (itC b)] st R:=by
 refine Qa (c:=cfg 24) zb Tryz.func224 ?_;repeat' (first|refine bcd (λ_=>?_) (λ_=>?_)|refine zk (λ_=>?_) (λ_=>?_)|refine Qd ?_|fail)
 all_goals
  refine ret (h _ ?_);unfold qlt;simp only[decide_eq_true_eq,decide_eq_false_iff_not,Fah,false_iff,true_iff,beq_iff_eq,bne_iff_ne,beq_eq_false_iff_ne,ne_eq,reduceCtorEq]at*;omega
theorem ygn(S:Store)(R:Ja)(h:∀p,Fresh S p->R (ptr p) (S.sO p (.cells [.s (.slice none 0 0)]))):Jb 137 [] S R:=by refine Qa (c:=cfg 3 [2] []) zb Tryz.func137 ?_;intro p hp;exact ret (h p hp)
theorem ygf{F:Store}{p:Nat}{l:List (Int×Int)}(hq:QOf F p l)(hl:l.length<=1000000)(hh:wy l)(x:Int×Int)(R:Ja)
  (h:∀F' l',QOf F' p l'->wy l'->l'.Perm (x::l)->R (.tup []) F'):Jb 223 [ptr p,int x.1,int x.2] F R:=by
 obtain⟨v,hp,hr,hne⟩:=hq.rows;refine Qa (c:=cfg 74) zb Tryz.func223 ?_;refine Qav ?_;refine⟨ψ,?_⟩;refine pi (ie:=ti340) rfl Ld ψ hr x rfl θ (λb cap L q1 q2 q3 q4=>?_);have hbp:b≠p:=by
  rcases q1 with q1|⟨c0,q1⟩
  ·exact λe=>by have:=q1.1;rw[e,hp]at this;cases this
  ·exact hne b c0 q1
 have hp2:(F.sO b (.cells ((rws itC (l++[x])).flatten++L))).obj p=some (.cells [v]):=by rw[zg (Ne.symm hbp)];exact hp
 refine j4 (i:=ti331) (v:=.s (.slice (some ⟨b,0,none⟩) (l++[x]).length cap)) (b:=p) (o:=0) (l:=[v]) rfl rfl rfl hp2 (Fak 1) ?_
 have hQ:QAt ((F.sO b (.cells ((rws itC (l++[x])).flatten++L))).sO p (.cells (zp [v] 0 [.s (.slice (some ⟨b,0,none⟩) (l++[x]).length cap)]))) p b cap (l++[x]) L:=
  ⟨zd _ _ _,by rw[zg hbp];exact zd _ _ _,hbp,q2,q3,q4⟩
 have hU:=ygh hh x;have hP:=ygg l x;have hlen:(l++[x]).length=l.length+1:=φ;generalize hm:l++[x]=m at hQ hU hP hlen⊢;generalize(F.sO b (.cells ((rws itC m).flatten++L))).sO p _=F1 at hQ⊢;refine za (o:=F1.obj p) _ hQ.hp ?_;refine Qd ?_
 refine AWp.loop (σ:=Nat×Store×List (Int×Int)) ⟨λq=>[(0,.av (ptr p)),(6,.av (int (q.1:Nat)))],λ_=>[],
  λq st'=>st'=q.2.1/\QAt q.2.1 p b cap q.2.2 L/\UpF (qat q.2.2) q.2.2.length q.1/\q.2.2.Perm (x::l)/\q.2.2.length=l.length+1/\q.1<q.2.2.length,λq=>q.1⟩ zb ?_ ?_
 ·refine⟨(l.length,F1,m),Tv,⟨rfl,hQ,hU,hP,hlen,ζ⟩,⟨Tq,?_,Tv⟩,Tv⟩;show LV.le (.av (int ((m.length:Int)-1))) (.av (int (l.length:Nat)));rw[show(m.length:Int)-1=(l.length:Nat) by omega];exact Tq
 rintro⟨i,F2',m2⟩ F2 ⟨rfl,hQ,hU,hP,hlen,hi⟩;dsimp only at hQ hU hP hlen hi⊢;refine bcd (λc1=>?_) (λc1=>?_);rotate_left
 ·have:i=0:=θ;subst this;exact ret (h F2 m2 (.inr ⟨b,cap,L,hQ⟩) (zar hU (.inl rfl)) hP)
 have hpar:((i:Int)-1).tdiv 2=(par i:Nat):=by unfold par;rw[Fa1 θ];omega
 have hpl:par i<m2.length:=by have:=Df (show 0<i by omega);omega
 refine Qd ?_;refine⟨ψ,?_⟩;refine ze (by rw[hpar];omega) ?_;refine Qc zb yci ?_;refine za (o:=F2.obj p) _ hQ.hp ?_;refine⟨i,rfl,hi,?_⟩;refine za (o:=F2.obj b) _ hQ.hb ?_;refine jc (i:=ti340) (row:=itC (qat m2 i)) rfl rfl (wt hi) ?_;refine za (o:=F2.obj p) _ hQ.hp ?_;refine⟨par i,hpar,hpl,?_⟩;refine za (o:=F2.obj b) _ hQ.hb ?_;refine jc (i:=ti340) (row:=itC (qat m2 (par i))) rfl rfl (wt hpl) ?_;refine⟨O4 _ _ _ _ (λz hz=>⟨Tv,?_⟩),Tv⟩;refine yi ?_;refine zk (λc2=>?_) (λc2=>?_);rotate_left
 ·exact ret (h F2 m2 (.inr ⟨b,cap,L,hQ⟩) (zar hU (.inr λhh=>ψf)) hP)
 obtain⟨hU2,hP2⟩:=yge hU θ hi (hz.1 c2);have hS1:=hQ.set hi (qat m2 (par i));have hpl2:par i<(m2.set i (qat m2 (par i))).length:=by rw[Faz];exact hpl
 have hS2:=hS1.set hpl2 (qat m2 i);refine Qc zb ych ?_;refine za (o:=F2.obj p) _ hQ.hp ?_;refine za (o:=F2.obj p) _ hQ.hp ?_;refine za (o:=F2.obj p) _ hQ.hp ?_;refine⟨par i,hpar,hpl,?_⟩;refine za (o:=F2.obj b) _ hQ.hb ?_;refine jc (i:=ti340) (row:=itC (qat m2 (par i))) rfl rfl (wt hpl) ?_;refine za (o:=F2.obj p) _ hQ.hp ?_;refine⟨i,rfl,hi,?_⟩;refine za (o:=F2.obj b) _ hQ.hb ?_;refine jc (i:=ti340) (row:=itC (qat m2 i)) rfl rfl (wt hi) ?_;refine⟨i,rfl,hi,?_⟩;refine⟨?_,Tv⟩;refine za _ rfl (xp rfl (xl (v:=.agg (itC (qat m2 (par i)))) rfl rfl rfl rfl ?_));refine Aa (i:=ti340) (xs:=itC (qat m2 (par i))) rfl rfl rfl hQ.hb (Hm hi _) ?_;refine⟨Tv,?_⟩;refine⟨par i,hpar,hpl,?_⟩;refine⟨?_,Tv⟩;refine za _ rfl (xp rfl (xl (v:=.agg (itC (qat m2 i))) rfl rfl rfl rfl ?_));refine Aa (i:=ti340) (xs:=itC (qat m2 i)) rfl rfl rfl hS1.hb (Hm hpl2 _) ?_;refine⟨Tv,?_⟩;have hlen2:(wh m2 i (par i)).length=m2.length:=L9 _ _ _;refine⟨(par i,_,wh m2 i (par i)),?_,⟨rfl,hS2,hU2,hP2.trans hP,ζ,ζ⟩,⟨Tq,?_,Tv⟩,Tv⟩
 ·show par i<i;exact Df θ
 ·rw[hpar];exact Tq
theorem LV.le_int{a b:Int}(h:a=b):LV.le (.av (int a)) (.av (int b)):=by subst h;exact Tq
theorem ygi{F:Store}{p:Nat}{l:List (Int×Int)}(hq:QOf F p l)(hl:l.length<=1000000)(hh:wy l)(R:Ja)
  (h0:l=[]->R (.tup [int 0,int 0,V.bool false]) F)
  (h1:0<l.length->∀F' l',QOf F' p l'->wy l'->l.Perm (qat l 0::l')->R (.tup [int (qat l 0).1,int (qat l 0).2,V.bool true]) F'):Jb 142 [ptr p] F R:=by
 by_cases hz:l.length=0
 ·have hnil:l=[]:=Far hz;obtain⟨v,hp,hr,hne⟩:=hq.rows;have hv:∃a c,v=.s (.slice a 0 c):=by
   rcases hr with⟨rfl,_⟩|⟨b,cap,L,rfl,_⟩
   ·exact⟨_,_,rfl⟩
   ·exact⟨_,_,by rw[hz]⟩
  obtain⟨a,c,rfl⟩:=hv;refine Qa (c:=cfg 121) zb Tryz.func142 ?_;refine Qav ?_;refine Qd ?_;exact ret (h0 hnil)
 obtain⟨b,cap,L,hQ⟩:=hq.pos θ;obtain⟨n,hn⟩:∃n,l.length=n+1:=⟨l.length-1,θ⟩
 have hc1:=hQ.h1;have h0l:0<l.length:=θ;have hnl:n<l.length:=θ;have hnI:(l.length:Int)-1=(n:Nat):=θ;refine Qa (c:=cfg 121) zb Tryz.func142 ?_;refine za (o:=F.obj p) _ hQ.hp ?_;refine Qd ?_;refine bcd (λc1=>absurd c1 θ) (λc1=>?_);refine za (o:=F.obj p) _ hQ.hp ?_;refine⟨0,rfl,h0l,?_⟩;refine za (o:=F.obj b) _ hQ.hb ?_;refine jc (i:=ti340) (row:=itC (qat l 0)) rfl rfl (wt h0l) ?_;refine Qc zb ydo ?_;refine za (o:=F.obj p) _ hQ.hp ?_;refine za (o:=F.obj p) _ hQ.hp ?_;refine⟨n,hnI,hnl,?_⟩;refine za (o:=F.obj b) _ hQ.hb ?_;refine jc (i:=ti340) (row:=itC (qat l n)) rfl rfl (wt hnl) ?_;refine⟨0,rfl,h0l,?_⟩;refine⟨?_,Tv⟩;refine za _ rfl (xp rfl (xl (v:=.agg (itC (qat l n))) rfl rfl rfl rfl ?_));refine Aa (i:=ti340) (xs:=itC (qat l n)) rfl rfl rfl hQ.hb (Hm h0l _) ?_;refine⟨Tv,?_⟩;have hQ1:=hQ.set h0l (qat l n);have hls:(l.set 0 (qat l n)).length=n+1:=by rw[Faz];exact hn
 refine za _ hQ1.hp ?_;refine⟨0,n,rfl,hnI,Fae _,θ,.inl ⟨θ,?_⟩⟩;refine j4 (i:=ti331) (v:=.s (.slice (some ⟨b,0,none⟩) n cap)) (b:=p) (o:=0) (l:=[.s (.slice (some ⟨b,0,none⟩) (l.set 0 (qat l n)).length cap)]) rfl rfl rfl hQ1.hp (Fak 1) ?_;have hQ2:=hQ1.cut (n:=n) θ;have hD:=ygl hn hh;have hpm:=ygj hn;have hln:((l.set 0 (qat l n)).take n).length=n:=θs;have hfin:∀F' l',QOf F' p l'->wy l'->l'.Perm ((l.set 0 (qat l n)).take n)->R (.tup [int (qat l 0).1,int (qat l 0).2,V.bool true]) F':=λF' l' g1 g2 g3=>h1 h0l F' l' g1 g2 (hpm.trans (List.Perm.cons _ g3.symm));generalize(rws itC ((l.set 0 (qat l n)).drop n)).flatten++L=L2 at hQ2;generalize((l.set 0 (qat l n)).take n)=m0 at hQ2 hD hln hfin
 refine AWp.loop (σ:=Nat×Store×List (Int×Int)) ⟨λq=>[(0,.av (ptr p)),(5,.av (int (n:Nat))),(6,.bx 6 0),(7,.av (int (q.1:Nat)))],λ_=>[(6,itC (qat l 0))],
  λq st'=>st'=q.2.1/\QAt q.2.1 p b cap q.2.2 L2/\Hx (qat q.2.2) q.2.2.length q.1/\q.2.2.Perm m0/\q.2.2.length=n/\q.1<=n,λq=>n-q.1⟩ zb ?_ ?_
 ·exact⟨(0,_,m0),Tv,⟨rfl,hQ2,hD,List.Perm.refl _,hln,Fae _⟩,⟨Tq,LV.le_int hnI,Tq,Tq,Tv⟩,⟨rfl,Tv⟩⟩
 rintro⟨i,F2',m⟩ F2 ⟨rfl,hQ,hD,hP,hlen,hin⟩;dsimp only at hQ hD hP hlen hin⊢;refine Qd ?_;refine Qd ?_;refine bcd (λc1=>?_) (λc1=>?_)
 ·have hF:=hfin F2 m (.inr ⟨b,cap,_,hQ⟩) (ygm hD θ) hP;refine Qc zb Sl ?_;refine⟨⟨⟨rfl,Tv⟩,⟨⟨Tv,⟨⟨Tv,?_⟩,Tv⟩⟩,Tv⟩⟩,Tv⟩;exact ret hF
 have hil:i<m.length:=θ;refine Qc zb ydp ?_;refine Qd ?_;refine bcd (λc3=>?_) (λc3=>?_);rotate_left
 ·refine Qau ?_;have hkl:2*i+1<m.length:=θ;have hki:par (2*i+1)=i:=(O6 θ).2 (.inl rfl);have hmin:=ny (f:=qat m) (n:=m.length) (i:=i) (k:=2*i+1) (.inl ⟨rfl,λhx=>θ⟩);refine Qc zb fg ?_;refine za (o:=F2.obj p) _ hQ.hp ?_;refine⟨2*i+1,θ,hkl,?_⟩;refine za (o:=F2.obj b) _ hQ.hb ?_;refine jc (i:=ti340) (row:=itC (qat m (2*i+1))) rfl rfl (wt hkl) ?_;refine za (o:=F2.obj p) _ hQ.hp ?_;refine⟨i,rfl,hil,?_⟩;refine za (o:=F2.obj b) _ hQ.hb ?_;refine jc (i:=ti340) (row:=itC (qat m i)) rfl rfl (wt hil) ?_;refine⟨O4 _ _ _ _ (λz hz=>⟨Tv,?_⟩),Tv⟩;refine yi ?_;refine zk (λc2=>?_) (λc2=>?_);rotate_left
  ·have hF:=hfin F2 m (.inr ⟨b,cap,_,hQ⟩) (fz hD hmin (λhh=>ψf)) hP;refine Qc zb Sl ?_;refine⟨⟨⟨rfl,Tv⟩,⟨⟨Tv,⟨⟨Tv,?_⟩,Tv⟩⟩,Tv⟩⟩,Tv⟩;exact ret hF
  obtain⟨hD2,hP2⟩:=f0 hD θ hkl hki hmin (hz.1 c2);have hS1:=hQ.set hil (qat m (2*i+1));have hkl2:2*i+1<(m.set i (qat m (2*i+1))).length:=by rw[Faz];exact hkl
  have hS2:=hS1.set hkl2 (qat m i);refine Qc zb ff ?_;refine za (o:=F2.obj p) _ hQ.hp ?_;refine za (o:=F2.obj p) _ hQ.hp ?_;refine za (o:=F2.obj p) _ hQ.hp ?_;refine⟨2*i+1,θ,hkl,?_⟩;refine za (o:=F2.obj b) _ hQ.hb ?_;refine jc (i:=ti340) (row:=itC (qat m (2*i+1))) rfl rfl (wt hkl) ?_;refine za (o:=F2.obj p) _ hQ.hp ?_;refine⟨i,rfl,hil,?_⟩;refine za (o:=F2.obj b) _ hQ.hb ?_;refine jc (i:=ti340) (row:=itC (qat m i)) rfl rfl (wt hil) ?_;refine⟨i,rfl,hil,?_⟩;refine⟨?_,Tv⟩;refine za _ rfl (xp rfl (xl (v:=.agg (itC (qat m (2*i+1)))) rfl rfl rfl rfl ?_));refine Aa (i:=ti340) (xs:=itC (qat m (2*i+1))) rfl rfl rfl hQ.hb (Hm hil _) ?_;refine⟨Tv,?_⟩;refine⟨2*i+1,θ,hkl,?_⟩;refine⟨?_,Tv⟩;refine za _ rfl (xp rfl (xl (v:=.agg (itC (qat m i))) rfl rfl rfl rfl ?_));refine Aa (i:=ti340) (xs:=itC (qat m i)) rfl rfl rfl hS1.hb (Hm hkl2 _) ?_;refine⟨Tv,?_⟩;have hlen2:(wh m i (2*i+1)).length=m.length:=L9 _ _ _;refine⟨(2*i+1,_,wh m i (2*i+1)),?_,⟨rfl,hS2,hD2,hP2.trans hP,ζ,ζ⟩,⟨Tq,Tq,Tq,?_,Tv⟩,⟨rfl,Tv⟩⟩
  ·show n-(2*i+1)<n-i;omega
  ·exact LV.le_int θ
 refine za (o:=F2.obj p) _ hQ.hp ?_;refine Qd ?_;have hkl1:2*i+2<m.length:=θ;have hkl0:2*i+1<m.length:=θ;refine⟨2*i+2,θ,hkl1,?_⟩;refine za (o:=F2.obj b) _ hQ.hb ?_;refine jc (i:=ti340) (row:=itC (qat m (2*i+2))) rfl rfl (wt hkl1) ?_;refine za (o:=F2.obj p) _ hQ.hp ?_;refine⟨2*i+1,θ,hkl0,?_⟩;refine za (o:=F2.obj b) _ hQ.hb ?_;refine jc (i:=ti340) (row:=itC (qat m (2*i+1))) rfl rfl (wt hkl0) ?_;refine⟨O4 _ _ _ _ (λz hz1=>⟨Tv,?_⟩),Tv⟩;refine zk (λc4=>?_) (λc4=>?_)
 ·refine Qd ?_;have hkl:2*i+2<m.length:=hkl1;have hki:par (2*i+2)=i:=(O6 θ).2 (.inr rfl);have hmin:=ny (f:=qat m) (n:=m.length) (i:=i) (k:=2*i+2) (.inr ⟨rfl,hz1.1 c4⟩);refine Qc zb fg ?_;refine za (o:=F2.obj p) _ hQ.hp ?_;refine⟨2*i+2,θ,hkl,?_⟩;refine za (o:=F2.obj b) _ hQ.hb ?_;refine jc (i:=ti340) (row:=itC (qat m (2*i+2))) rfl rfl (wt hkl) ?_;refine za (o:=F2.obj p) _ hQ.hp ?_;refine⟨i,rfl,hil,?_⟩;refine za (o:=F2.obj b) _ hQ.hb ?_;refine jc (i:=ti340) (row:=itC (qat m i)) rfl rfl (wt hil) ?_;refine⟨O4 _ _ _ _ (λz hz=>⟨Tv,?_⟩),Tv⟩;refine yi ?_;refine zk (λc2=>?_) (λc2=>?_);rotate_left
  ·have hF:=hfin F2 m (.inr ⟨b,cap,_,hQ⟩) (fz hD hmin (λhh=>ψf)) hP;refine Qc zb Sl ?_;refine⟨⟨⟨rfl,Tv⟩,⟨⟨Tv,⟨⟨Tv,?_⟩,Tv⟩⟩,Tv⟩⟩,Tv⟩;exact ret hF
  obtain⟨hD2,hP2⟩:=f0 hD θ hkl hki hmin (hz.1 c2);have hS1:=hQ.set hil (qat m (2*i+2));have hkl2:2*i+2<(m.set i (qat m (2*i+2))).length:=by rw[Faz];exact hkl
  have hS2:=hS1.set hkl2 (qat m i);refine Qc zb ff ?_;refine za (o:=F2.obj p) _ hQ.hp ?_;refine za (o:=F2.obj p) _ hQ.hp ?_;refine za (o:=F2.obj p) _ hQ.hp ?_;refine⟨2*i+2,θ,hkl,?_⟩;refine za (o:=F2.obj b) _ hQ.hb ?_;refine jc (i:=ti340) (row:=itC (qat m (2*i+2))) rfl rfl (wt hkl) ?_;refine za (o:=F2.obj p) _ hQ.hp ?_;refine⟨i,rfl,hil,?_⟩;refine za (o:=F2.obj b) _ hQ.hb ?_;refine jc (i:=ti340) (row:=itC (qat m i)) rfl rfl (wt hil) ?_;refine⟨i,rfl,hil,?_⟩;refine⟨?_,Tv⟩;refine za _ rfl (xp rfl (xl (v:=.agg (itC (qat m (2*i+2)))) rfl rfl rfl rfl ?_));refine Aa (i:=ti340) (xs:=itC (qat m (2*i+2))) rfl rfl rfl hQ.hb (Hm hil _) ?_;refine⟨Tv,?_⟩;refine⟨2*i+2,θ,hkl,?_⟩;refine⟨?_,Tv⟩;refine za _ rfl (xp rfl (xl (v:=.agg (itC (qat m i))) rfl rfl rfl rfl ?_));refine Aa (i:=ti340) (xs:=itC (qat m i)) rfl rfl rfl hS1.hb (Hm hkl2 _) ?_;refine⟨Tv,?_⟩;have hlen2:(wh m i (2*i+2)).length=m.length:=L9 _ _ _;refine⟨(2*i+2,_,wh m i (2*i+2)),?_,⟨rfl,hS2,hD2,hP2.trans hP,ζ,ζ⟩,⟨Tq,Tq,Tq,?_,Tv⟩,⟨rfl,Tv⟩⟩
  ·show n-(2*i+2)<n-i;omega
  ·exact LV.le_int θ
 ·have hkl:2*i+1<m.length:=hkl0;have hki:par (2*i+1)=i:=(O6 θ).2 (.inl rfl);have hmin:=ny (f:=qat m) (n:=m.length) (i:=i) (k:=2*i+1) (.inl ⟨rfl,λhx hh=>by rw[hz1.2 hh]at c4;cases c4⟩);refine Qc zb fg ?_;refine za (o:=F2.obj p) _ hQ.hp ?_;refine⟨2*i+1,θ,hkl,?_⟩;refine za (o:=F2.obj b) _ hQ.hb ?_;refine jc (i:=ti340) (row:=itC (qat m (2*i+1))) rfl rfl (wt hkl) ?_;refine za (o:=F2.obj p) _ hQ.hp ?_;refine⟨i,rfl,hil,?_⟩;refine za (o:=F2.obj b) _ hQ.hb ?_;refine jc (i:=ti340) (row:=itC (qat m i)) rfl rfl (wt hil) ?_;refine⟨O4 _ _ _ _ (λz hz=>⟨Tv,?_⟩),Tv⟩;refine yi ?_;refine zk (λc2=>?_) (λc2=>?_);rotate_left
  ·have hF:=hfin F2 m (.inr ⟨b,cap,_,hQ⟩) (fz hD hmin (λhh=>ψf)) hP;refine Qc zb Sl ?_;refine⟨⟨⟨rfl,Tv⟩,⟨⟨Tv,⟨⟨Tv,?_⟩,Tv⟩⟩,Tv⟩⟩,Tv⟩;exact ret hF
  obtain⟨hD2,hP2⟩:=f0 hD θ hkl hki hmin (hz.1 c2);have hS1:=hQ.set hil (qat m (2*i+1));have hkl2:2*i+1<(m.set i (qat m (2*i+1))).length:=by rw[Faz];exact hkl
  have hS2:=hS1.set hkl2 (qat m i);refine Qc zb ff ?_;refine za (o:=F2.obj p) _ hQ.hp ?_;refine za (o:=F2.obj p) _ hQ.hp ?_;refine za (o:=F2.obj p) _ hQ.hp ?_;refine⟨2*i+1,θ,hkl,?_⟩;refine za (o:=F2.obj b) _ hQ.hb ?_;refine jc (i:=ti340) (row:=itC (qat m (2*i+1))) rfl rfl (wt hkl) ?_;refine za (o:=F2.obj p) _ hQ.hp ?_;refine⟨i,rfl,hil,?_⟩;refine za (o:=F2.obj b) _ hQ.hb ?_;refine jc (i:=ti340) (row:=itC (qat m i)) rfl rfl (wt hil) ?_;refine⟨i,rfl,hil,?_⟩;refine⟨?_,Tv⟩;refine za _ rfl (xp rfl (xl (v:=.agg (itC (qat m (2*i+1)))) rfl rfl rfl rfl ?_));refine Aa (i:=ti340) (xs:=itC (qat m (2*i+1))) rfl rfl rfl hQ.hb (Hm hil _) ?_;refine⟨Tv,?_⟩;refine⟨2*i+1,θ,hkl,?_⟩;refine⟨?_,Tv⟩;refine za _ rfl (xp rfl (xl (v:=.agg (itC (qat m i))) rfl rfl rfl rfl ?_));refine Aa (i:=ti340) (xs:=itC (qat m i)) rfl rfl rfl hS1.hb (Hm hkl2 _) ?_;refine⟨Tv,?_⟩;have hlen2:(wh m i (2*i+1)).length=m.length:=L9 _ _ _;refine⟨(2*i+1,_,wh m i (2*i+1)),?_,⟨rfl,hS2,hD2,hP2.trans hP,ζ,ζ⟩,⟨Tq,Tq,Tq,?_,Tv⟩,⟨rfl,Tv⟩⟩
  ·show n-(2*i+1)<n-i;omega
  ·exact LV.le_int θ
theorem Fs{p:Vc}(h:xm p):p.ok:=by unfold xm at h;exact⟨⟨θ,θ⟩,⟨θ,θ⟩⟩
theorem yg2{p q:Vc}(hp:xm p)(hq:xm q):Br (if xc p q=(0,0)then(65536,0)else xc p q):=by
 split
 ·unfold Br;decide
 ·exact Rw hq hp
theorem yer{v:Vc}(h:Br v):0<=vk (sqr v):=(Mi (Kl (Ki h)).2.2.1).1
theorem zzt(p:Vc)(r:Int)(q:Vc)(hp:xm p)(hq:xm q)(hr:0<=r/\r<=1048576)(st:Store)(R:Ja)(h:R (.agg (yd (Bi p r q))) st):
  Jb 305 [.agg (yd p),int r,.agg (yd q)] st R:=by
 have ht:=Rw hq hp;have hsq:=(Kl (Ki ht)).2.2.1;have hr0:=yer ht;have harg:=yg2 hp hq;have hri:=Mi hsq;unfold Bi at h;refine Qa (c:=cfg 29) zb Tryz.func305 ?_;refine Ru p q r (Fs hp) (Fs hq) θ _ _ ?_;refine yi ?_;refine zk (λc1=>?_) (λc1=>?_);rotate_left
 ·rw[if_neg (by rw[c1];decide)]at h;exact ret h
 rw[if_pos c1]at h;refine Rx p q (Fs hp) (Fs hq) _ _ ?_;refine lc _ (Lw p q) _ _ (λL hL=>?_);have hL2:=zac hsq hL;subst hL2;have hLb:vk (sqr (xc p q))<=1099511627776*2:=by
  obtain⟨_,_,h3,_⟩:=hri;have e:=(Kl (Ki ht)).1;unfold Br at ht;generalize vk (sqr (xc p q))=L at*;by_cases hh:L<=1099511627776*2
  ·exact hh
  ·exfalso;have h4:(1099511627776*2+1)*(1099511627776*2+1)<=L*L:=Fbc θ θ θ θ;have h5:(xc p q).1*(xc p q).1<=1099511627776*1099511627776:=by
    rw[Nz];exact Fbc θ θ θ θ
   have h6:(xc p q).2*(xc p q).2<=1099511627776*1099511627776:=by rw[Nz];exact Fbc θ θ θ θ
   omega
 have hfs:qa r (vk (sqr (xc p q)))=r-vk (sqr (xc p q)):=by unfold qa;rw[Fm θ,Py θ θ];omega
 refine H5 _ _ ⟨θ,θ⟩ ⟨θ,θ⟩ _ _ ?_;rw[hfs];generalize vk (sqr (xc p q))=L at*;generalize xc p q=d at*;refine zk (λc2=>?_) (λc2=>?_)
 ·have c2:d=(0,0):=by
   simp only[Fay,beq_iff_eq]at c2;exact Prod.ext c2.1 c2.2.1
  rw[if_pos c2]at h harg;subst c2;refine bk (65536,0) (r-L) harg θ _ _ ?_;exact ret h
 ·have c2:¬d=(0,0):=λe=>by
   rw[e]at c2;exact absurd c2 ψ
  rw[if_neg c2]at h harg;refine bk d (r-L) harg θ _ _ ?_;exact ret h
theorem rf{v:Vc}{m:Int}(hs:Br v):(j8 v m).ok:=by
 by_cases hm:0<=m
 ·have:=(zfj (Ki hs) hm).1;unfold Bf at this;exact⟨⟨θ,θ⟩,⟨θ,θ⟩⟩
 ·have e:j8 v m=j8 v 0:=by
   unfold j8;rw[show max m 0=max 0 0 by omega]
  rw[e];have:=(zfj (Ki hs) (Fcj 0)).1;unfold Bf at this;exact⟨⟨θ,θ⟩,⟨θ,θ⟩⟩
end Go.Proofs
