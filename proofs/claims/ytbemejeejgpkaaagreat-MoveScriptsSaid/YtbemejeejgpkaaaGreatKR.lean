/- Ground of laws of thronglaw24: contracts and plain lemmas; no condition beyond the row's own. -/
import Derived.Test.YtbemejeejgpkaaaGreatKN
import Derived.Test.YtbemejeejgpkaaaGreatKQ
set_option linter.unusedSimpArgs false
set_option linter.unusedVariables false
namespace Go.Proofs
open Go Go.V
set_option maxRecDepth 20000
set_option maxHeartbeats 4000000
theorem Qaf{p:Prop}(h:p:=by rw[q2];omega):p:=h
theorem zx4(g:Gnd)(hg:zr g)(t:Nat)(ht:(t:Int)<g.W*g.H)(st:Store)(R:Ja)(h:R (.agg (zo (tx g t+32768,ty g t+32768))) st):Jb 141 [.agg (zp g),int (t:Nat)] st R:=by
 have htb:=Bw hg ht
 have hq:=D4 (t:=t) hg.1.1
 have hq2:=D5 (t:=t) hg.1.1
 have hg1:=hg.1
 have hg2:=hg.2.1
 unfold tx ty at h
 refine Qa (c:=cfg 18) zb Tryz.func141 ?_
 refine Qc zb zr7 ?_
 refine⟨by omega,?_⟩
 refine ze (by rw[hq];omega) ?_
 refine ze (by rw[hq];omega) ?_
 refine⟨by omega,?_⟩
 refine ze (by rw[hq2];omega) ?_
 refine ze (by rw[hq2];omega) ?_
 refine ze (by rw[hq2];omega) ?_
 refine Qbk ?_
 rw[<-hq,<-hq2]at h
 exact ret h
theorem zx3(g:Gnd)(hg:zr g)(t:Nat)(ht:(t:Int)<g.W*g.H)(x:Int)(hx:x=(t:Int))(st:Store)(R:Ja)(h:R (.agg (zo (tx g t+32768,ty g t+32768))) st):Jb 141 [.agg (zp g),int x] st R:=by
 subst hx
 exact zx4 g hg t ht st R h
theorem Ps(g:Gnd)(hg:zr g)(t:Nat)(ht:t<g.T.length)(x:Int)(hx:x=(t:Int))(st:Store)(R:Ja)(h:R (.agg (zo (ya g t))) st):Jb 141 [.agg (zp g),int x] st R:=
 zx3 g hg t (by have:=qe hg;omega) x hx st R h
theorem Gp(g:Gnd)(hg:zr g)(t:Nat)(ht:t<g.T.length)(tI:Int)(htI:tI=(t:Int))(st:Store)(R:Ja)(h:R (.agg (zo (ya g t))) st):Jb 28 [.agg (zp g),int tI] st R:=by
 subst htI
 have ha:=qe hg
 have htb:=Bw hg (t:=t) (by omega)
 have hq:=D4 (t:=t) hg.1.1
 have hq2:=D5 (t:=t) hg.1.1
 have hg1:=hg.1
 have hg2:=hg.2.1
 unfold ya tx ty at h
 rw[<-hq,<-hq2]at h
 refine Qa (c:=cfg 18) zb Tryz.func28 ?_
 refine Qc zb zqw ?_
 refine⟨by omega,?_⟩
 refine Qd ?_
 refine Qd ?_
 refine⟨by omega,?_⟩
 refine Qd ?_
 refine Qd ?_
 refine Qd ?_
 refine Qbk ?_
 exact ret h
theorem zu7(g:Gnd)(hg:zr g)(p:Vc)(h0:(0<=p.1/\p.1<g.W*65536)/\(0<=p.2/\p.2<g.H*65536))(st:Store)(R:Ja)(h:R (int (js g p:Nat)) st):Jb 25 [.agg (zp g),.agg (zo p)] st R:=by
 have hs:=hg.1
 have hs2:=hg.2.1
 obtain⟨e1,e2,_⟩:=Vg hg h0
 have ha:=qe hg
 refine Qa (c:=cfg 39) zb Tryz.func25 ?_
 refine bcd (λc1=>absurd c1 (by omega)) (λc1=>?_)
 refine Qd ?_
 refine bcd (λc1=>absurd c1 (by omega)) (λc1=>?_)
 refine bcd (λc1=>absurd c1 (by omega)) (λc1=>?_)
 refine Qd ?_
 refine bcd (λc1=>absurd c1 (by omega)) (λc1=>?_)
 have q1:p.1.tdiv 65536=p.1/65536:=Fa7 (by omega)
 have q2:p.2.tdiv 65536=p.2/65536:=Fa7 (by omega)
 have hx:0<=p.1/65536/\p.1/65536<=128:=by omega
 have hy:0<=p.2/65536/\p.2/65536<=128:=by omega
 have hm:0<=g.W*(p.2/65536)/\g.W*(p.2/65536)<=128*128:=⟨Fax (by omega) hy.1,Fbg hs.2 hy.2 hy.1 (by decide)⟩
 refine⟨by decide,?_⟩
 refine ze (by rw[q1];omega) ?_
 refine⟨by decide,?_⟩
 refine ze Qaf ?_
 refine ze Qaf ?_
 refine ze (by rw[q1,q2];omega) ?_
 rw[q1,q2,<-e1]
 exact ret h
theorem zdh(g:Gnd)(hg:zr g)(p:Vc)(h0:(0<=p.1/\p.1<g.W*65536)/\(0<=p.2/\p.2<g.H*65536))(st:Store)(R:Ja)(h:R (int (js g p:Nat)) st):Jb 143 [.agg (zp g),.agg (zo p)] st R:=by
 have hs:=hg.1
 have hs2:=hg.2.1
 obtain⟨e1,e2,_⟩:=Vg hg h0
 have ha:=qe hg
 refine Qa (c:=cfg 39) zb Tryz.func143 ?_
 refine bcd (λc1=>absurd c1 (by omega)) (λc1=>?_)
 refine Qd ?_
 refine bcd (λc1=>absurd c1 (by omega)) (λc1=>?_)
 refine bcd (λc1=>absurd c1 (by omega)) (λc1=>?_)
 refine Qd ?_
 refine bcd (λc1=>absurd c1 (by omega)) (λc1=>?_)
 have q1:p.1.tdiv 65536=p.1/65536:=Fa7 (by omega)
 have q2:p.2.tdiv 65536=p.2/65536:=Fa7 (by omega)
 have hx:0<=p.1/65536/\p.1/65536<=128:=by omega
 have hy:0<=p.2/65536/\p.2/65536<=128:=by omega
 have hm:0<=g.W*(p.2/65536)/\g.W*(p.2/65536)<=128*128:=⟨Fax (by omega) hy.1,Fbg hs.2 hy.2 hy.1 (by decide)⟩
 refine⟨by decide,?_⟩
 refine ze (by rw[q1];omega) ?_
 refine⟨by decide,?_⟩
 refine ze Qaf ?_
 refine ze Qaf ?_
 refine ze (by rw[q1,q2];omega) ?_
 rw[q1,q2,<-e1]
 exact ret h
theorem zv3{F G:Store}{s p:Nat}{w:Wld}{v:AV}{L:List Ent}{o0 o1 o2:AV}(hS:StandR F G s p w v L o0 o1 o2)(hos:wj v s)(hr:yq w.U)(hU:w.U.length<=1000000)(hL:L.length<=1000000)(hok:∀e∈L,e.2.ok){i:Nat}(hi:i<w.U.length)(u:Unt)(hid:w.U[i].id=u.id)(hp:u.pos.ok)(R:Ja)
  (h:∀F' G',StandR F' G' s p {w with U:=w.U.set i u} v (Hn L u) o0 o1 o2->(∀q,wj v q->G'.obj q=G.obj q)->R (.tup []) (F'.un (svS G' s {w with U:=w.U.set i u} v o0 o1 o2 p))):
  Jb 111 [ptr s,.agg (zf u)] (F.un (svS G s w v o0 o1 o2 p)) R:=by
 have hrow:RowsQ 10 zf (F.un (svS G s w v o0 o1 o2 p)) v w.U:=(Ov hS.hs hS.hu).un
 have hs0:(F.un (svS G s w v o0 o1 o2 p)).obj s=some (.cells (svC w v o0 o1 o2 p)):=zg (Co _ _ _ _ _ _ _ _)
 rcases hS.hu with(⟨_,hl0⟩|⟨b,cap,J,rfl,ho,hc1,hc2,hc3⟩)|⟨_,_,_,hl0⟩
 ·rw[hl0]at hi;exact absurd hi (Fa2 i)
 rotate_left
 ·rw[hl0]at hi;exact absurd hi (Fa2 i)
 have hbs:b≠s:=hos b _ _ rfl (by omega)
 have hob:(F.un (svS G s w (.s (.slice (some ⟨b,0,none⟩) w.U.length cap)) o0 o1 o2 p)).obj b=some (.cells ((rws zf w.U).flatten++J)):=zg (by
  show(G.sO s _).obj b=_
  rw[zi hbs];exact ho)
 refine Qa (c:=cfg 44) zb Tryz.func111 ?_
 refine Qc zb zsp ?_
 refine za (o:=(F.un (svS G s w _ o0 o1 o2 p)).obj s) _ hs0 ?_
 refine⟨zbf hrow (by omega) hr u.id _ (λk hk z hz=>⟨Qe,?_⟩),Tv⟩
 have hki:k=i:=by
  by_cases h1:k<i
  ·have:=hk.2.2 k (by omega) (Faj _)
   have:=Vy hr h1 hi
   omega
  ·by_cases h2:i<k
   ·have:=hk.2.1 i hi h2;omega
   ·omega
 subst hki
 refine Qbl ?_
 refine Qbl ?_
 refine Qc zb zso ?_
 refine za (o:=(F.un (svS G s w _ o0 o1 o2 p)).obj s) _ hs0 ?_
 refine⟨k,rfl,hi,?_⟩
 refine⟨?_,Tv⟩
 refine za _ rfl (j5 rfl (jz (v:=.agg (zf u)) rfl rfl rfl rfl ?_))
 refine j2 (i:=ti50) (v:=.agg (zf u)) (xs:=zf u) (b:=b) (o:=0+k*10) (l:=(rws zf w.U).flatten++J) rfl rfl rfl hob (by rw[Fad,ja yo,yo];omega) ?_
 have e0:(F.un (svS G s w (.s (.slice (some ⟨b,0,none⟩) w.U.length cap)) o0 o1 o2 p)).sO b (.cells (zu ((rws zf w.U).flatten++J) (0+k*10) (zf u)))=F.un (svS (G.sO b (.cells ((rws zf (w.U.set k u)).flatten++J))) s {w with U:=w.U.set k u} (.s (.slice (some ⟨b,0,none⟩) w.U.length cap)) o0 o1 o2 p):=by
  rw[Fbe,ztg yo hi u J,z7]
  unfold svS
  rw[Ia hbs]
  rfl
 rw[e0]
 have hG:∀q,q≠b->(G.sO b (.cells ((rws zf (w.U.set k u)).flatten++J))).obj q=G.obj q:=λq hq=>zi hq
 have hS':StandR F (G.sO b (.cells ((rws zf (w.U.set k u)).flatten++J))) s p {w with U:=w.U.set k u} (.s (.slice (some ⟨b,0,none⟩) w.U.length cap)) L o0 o1 o2:=by
  refine⟨hS.hc,λj h1 h2=>hS.hd j h1 (svS_has.2 ?_),?_,.inl (.inr ⟨b,cap,J,by rw[Faf],zd _ _ _,by rw[Faf];exact hc1,by rw[Faf];exact hc2,hc3⟩),hS.h0,hS.h1,hS.h2⟩
  ·rcases svS_has.1 h2 with h2|h2
   ·exact .inl h2
   ·rcases has_setObj_iff.1 h2 with rfl|h2
    ·exact .inr (ji ho)
    ·exact .inr h2
  ·rw[hG s (Ne.symm hbs)];exact hS.hs
 have hoffG:∀q,wj (.s (.slice (some ⟨b,0,none⟩) w.U.length cap)) q->(G.sO b (.cells ((rws zf (w.U.set k u)).flatten++J))).obj q=G.obj q:=λq hq=>hG q (Ne.symm (hq b _ _ rfl (by omega)))
 generalize G.sO b _=G1 at hS' hoffG⊢
 have hs1:(F.un (svS G1 s {w with U:=w.U.set k u} (.s (.slice (some ⟨b,0,none⟩) w.U.length cap)) o0 o1 o2 p)).obj s=some (.cells (svC w (.s (.slice (some ⟨b,0,none⟩) w.U.length cap)) o0 o1 o2 p)):=zg (Co _ _ _ _ _ _ _ _)
 refine⟨Tv,?_⟩
 refine zy (λc1=>?_) (λc1=>?_)
 ·refine Qc zb zsn ?_
  refine za (o:=(F.un (svS G1 s _ _ o0 o1 o2 p)).obj s) _ hs1 ?_
  refine⟨dl hS'.hc hS'.hd (by omega) hok u.id u.pos hp _ (λF2 h2 h3=>⟨Tv,?_⟩),Tv⟩
  have e9:Hn L u=qo L u.id++[(u.id,u.pos)]:=if_pos c1
  exact ret (h F2 G1 ⟨by rw[e9];exact h2,h3,hS'.hs,hS'.hu,hS'.h0,hS'.h1,hS'.h2⟩ hoffG)
 ·refine Qc zb zsm ?_
  refine za (o:=(F.un (svS G1 s _ _ o0 o1 o2 p)).obj s) _ hs1 ?_
  refine⟨yeg hS'.hc hS'.hd (by omega) hok u.id _ (λF2 h2 h3=>⟨Tv,?_⟩),Tv⟩
  have e9:Hn L u=qo L u.id:=if_neg c1
  exact ret (h F2 G1 ⟨by rw[e9];exact h2,h3,hS'.hs,hS'.hu,hS'.h0,hS'.h1,hS'.h2⟩ hoffG)
theorem ztn(m:Int)(hm:0<=m)(st:Store)(R:Ja)(h:∀r,Bm m r->R (int r) st):Jb 213 [.agg (xk m)] st R:=by
 refine Qa (c:=cfg 22) zb Tryz.func213 ?_
 refine AWp.loop (σ:=Nat×Int) ⟨λx=>[(1,.bx 1 0),(3,.av (u64 x.2)),(4,.av (int ((x.1:Int)-1)))],λ_=>[(1,xk m)],
  λx st'=>x.1<=63/\st'=st/\G5 m x.2 x.1,λx=>x.1⟩ zb ?_ ?_
 ·exact⟨(63,0),Tv,⟨Faj _,rfl,ztr hm⟩,Qbh,⟨rfl,Tv⟩⟩
 rintro⟨k,r⟩ st' ⟨hk,rfl,hr⟩
 dsimp only at hk hr⊢
 refine bcd (λh1=>?_) (λh1=>?_)
 rotate_left
 ·have:k=0:=by omega
  subst this
  have hi:=ztt hr
  have h2:=h r hi
  have hi0:=hi.1
  exact⟨⟨by omega,hi.2.1⟩,ret h2⟩
 cases k with
 |zero=>omega
 |succ k=>
  obtain⟨e1,e2,e3,e4⟩:=ztu hr
  have e5:((k+1:Nat):Int)-1=(k:Int):=by omega
  refine⟨by omega,?_⟩
  have e7:jl .or .u64 r (IntKind.u64.wrap (1*2^(min (((k+1:Nat):Int)-1).toNat IntKind.u64.bits)))=r+2^k:=by rw[e5,zoq (by omega),e1]
  have e8:∀X,X=r+2^k->0<=X/\X<18446744073709551616/\0<=X*X:=λX hX=>by subst hX;exact⟨by omega,by omega,Fax (by omega) (by omega)⟩
  have e8:=e8 _ e7
  refine Qc zb zq9 ?_
  refine⟨Rd _ e8.1 e8.2.1 _ _ ⟨Qe,?_⟩,Tv⟩
  refine⟨zbd m _ hm e8.2.2 _ _ ⟨Qe,?_⟩,Tv⟩
  have no:=λhh=>zts hr hh
  have yes:=λhh=>ztq hr hh
  rw[<-e7]at no yes
  generalize jl .or .u64 r (IntKind.u64.wrap (1*2^(min (((k+1:Nat):Int)-1).toNat IntKind.u64.bits)))=X at*
  refine yd ?_
  refine bcd (λc1=>?_) (λc1=>?_)
  ·refine⟨by unfold yl;omega,?_⟩
   refine⟨(k,r),?_,⟨by dsimp only;omega,rfl,no c1⟩,⟨Tq,Tq,?_,Tv⟩,⟨rfl,Tv⟩⟩
   ·show k<k+1
    omega
   ·rw[e5];exact Tq
  ·refine⟨by unfold yl;omega,?_⟩
   refine⟨(k,X),?_,⟨by dsimp only;omega,rfl,yes (by omega)⟩,⟨Tq,Tq,?_,Tv⟩,⟨rfl,Tv⟩⟩
   ·show k<k+1
    omega
   ·rw[e5];exact Tq
theorem zta(m:Int)(hm:0<=m)(st:Store)(R:Ja)(h:∀r,Bm m r->R (u64 r) st):Jb 58 [.agg (xk m),u64 9223372036854775807] st R:=by
 refine Qa (c:=cfg 28) zb Tryz.func58 ?_
 refine AWp.loop (σ:=Int×Int) ⟨λx=>[(2,.bx 2 0),(5,.av (u64 x.1)),(6,.av (u64 x.2))],λ_=>[(2,xk m)],
  λx st'=>st'=st/\Ie m x.1 x.2,λx=>(x.2-x.1).toNat⟩ zb ?_ ?_
 ·exact⟨(0,9223372036854775807),Tv,⟨rfl,ztv hm⟩,Qbh,⟨rfl,Tv⟩⟩
 rintro⟨l,u⟩ st' ⟨rfl,hr⟩
 dsimp only at hr⊢
 refine bcd (λh1=>?_) (λh1=>?_)
 rotate_left
 ·exact ret (h l (zty hr h1))
 have b1:=hr.1
 have b2:=hr.2.2.1
 have w1:IntKind.u64.wrap (u-l)=u-l:=jm (by omega) (by omega)
 have w2:IntKind.u64.wrap (u-l+1)=u-l+1:=jm (by omega) (by omega)
 have hd:0<=(u-l+1)/2/\(u-l+1)/2<=u-l/\1<=(u-l+1)/2:=by omega
 have w3:IntKind.u64.wrap ((u-l+1)/2)=(u-l+1)/2:=jm (by omega) (by omega)
 have w4:IntKind.u64.wrap (l+(u-l+1)/2)=l+(u-l+1)/2:=jm (by omega) (by omega)
 have wX:IntKind.u64.wrap (l+IntKind.u64.wrap ((IntKind.u64.wrap (IntKind.u64.wrap (u-l)+1)).tdiv 2))=l+(u-l+1)/2:=by
  rw[w1,w2,show(u-l+1).tdiv 2=(u-l+1)/2 from Fa7 (by omega),w3,w4]
 have e8:∀X,X=l+(u-l+1)/2->0<=X/\X<18446744073709551616/\0<=X*X/\l<X/\X<=u:=λX hX=>by
  have h0:0<=X:=by omega
  exact⟨h0,by omega,Fax h0 h0,by omega,by omega⟩
 have e8:=e8 _ wX
 refine⟨by decide,?_⟩
 refine Qc zb zp9 ?_
 refine⟨Ma _ _ e8.1 e8.2.1 e8.1 e8.2.1 _ _ ⟨Qe,?_⟩,Tv⟩
 refine⟨rv m _ hm e8.2.2.1 _ _ ⟨Qe,?_⟩,Tv⟩
 generalize IntKind.u64.wrap (l+IntKind.u64.wrap ((IntKind.u64.wrap (IntKind.u64.wrap (u-l)+1)).tdiv 2))=X at*
 refine bcd (λc1=>?_) (λc1=>?_)
 ·have w5:IntKind.u64.wrap (X-1)=X-1:=jm (by omega) (by omega)
  refine⟨(l,X-1),?_,⟨rfl,ztx hr e8.2.2.2.1 e8.2.2.2.2 c1⟩,⟨Tq,Tq,?_,Tv⟩,⟨rfl,Tv⟩⟩
  ·show(X-1-l).toNat<(u-l).toNat
   omega
  ·show LV.le (.av (u64 (IntKind.u64.wrap (X-1)))) (.av (u64 (X-1)))
   rw[w5]
   exact Tq
 ·refine⟨(X,u),?_,⟨rfl,ztw hr e8.2.2.2.1 e8.2.2.2.2 (Int.not_lt.1 c1)⟩,Qbh,⟨rfl,Tv⟩⟩
  show(u-X).toNat<(u-l).toNat
  omega
theorem rx(v:Vc)(hv:v.ok)(st:Store)(R:Ja)(h:∀r,Bm (sqr v) r->R (int r) st):Jb 184 [.agg (zo v)] st R:=by
 have hb:=Kp hv
 refine Qa (c:=cfg 6) zb Tryz.func184 ?_
 refine iw v hv _ _ ?_
 refine ztn (sqr v) (by unfold sqr;omega) _ _ (λr hr=>?_)
 exact ret (h r hr)
theorem O9(v:Vc)(hv:v.ok)(st:Store)(R:Ja)(h:∀r,Bm (sqr v) r->R (int r) st):Jb 21 [.agg (zo v)] st R:=by
 have hb:=Kp hv
 refine Qa (c:=cfg 7) zb Tryz.func21 ?_
 refine mn v hv _ _ ?_
 refine zta (sqr v) (by unfold sqr;omega) _ _ (λr hr=>?_)
 have h0:=hr.1
 exact⟨⟨by omega,hr.2.1⟩,ret (h r hr)⟩
theorem V4(p q:Vc)(hp:p.ok)(hq:q.ok)(st:Store)(R:Ja)(h:R (V.bool (decide (Fp p q))) st):Jb 131 [.agg (zo p),.agg (zo q)] st R:=by
 refine Qa (c:=cfg 10) zb Tryz.func131 ?_
 refine Mi p q hp hq _ _ ?_
 refine O9 _ (H2 p q) _ _ (λr hr=>?_)
 refine ret ?_
 rw[show decide (Fp p q)=decide (131072<r)from by rw[Fbq];simp only[decide_eq_true_eq];exact(ztp hr).symm]at h
 exact h
theorem fo(v:Vc)(st:Store)(R:Ja)(h:R (.agg (zo (qm v))) st):Jb 108 [.agg (zo v)] st R:=by
 refine Qa (c:=cfg 10) zb Tryz.func108 ?_
 refine Qc zb zsr ?_
 refine⟨Ii v.1 _ _ ⟨Qe,?_⟩,Tv⟩
 refine⟨Ii v.2 _ _ ⟨Qe,?_⟩,Tv⟩
 refine Qbk ?_
 exact ret h
theorem fz(a b:Vc)(ha:a.ok)(hb:b.ok)(st:Store)(R:Ja)(h:R (.agg (zo (q9 a b))) st):Jb 109 [.agg (zo a),.agg (zo b)] st R:=by
 refine Qa (c:=cfg 16) zb Tryz.func109 ?_
 refine Qc zb zsq ?_
 refine⟨Hx a.1 b.1 ha.1 hb.1 _ _ ⟨Qe,?_⟩,Tv⟩
 refine⟨Hx a.2 b.2 ha.2 hb.2 _ _ ⟨Qe,?_⟩,Tv⟩
 refine Qbk ?_
 exact ret h
theorem Mj(a b:Vc)(ha:a.ok)(hb:b.ok)(st:Store)(R:Ja)(h:R (.agg (zo (q9 a b))) st):Jb 66 [.agg (zo a),.agg (zo b)] st R:=by
 refine Qa (c:=cfg 16) zb Tryz.func66 ?_
 refine Qc zb zp3 ?_
 refine⟨V9 a.1 b.1 ha.1 hb.1 _ _ ⟨Qe,?_⟩,Tv⟩
 refine⟨V9 a.2 b.2 ha.2 hb.2 _ _ ⟨Qe,?_⟩,Tv⟩
 refine Qbk ?_
 exact ret h
theorem ycw(lo y:Int)(h0:0<=lo)(h1:lo<18446744073709551616)(h2:0<y)(h3:y<18446744073709551616)(st:Store)(R:Ja)(h:R (.tup [u64 (lo/y),u64 (lo%y)]) st):Jb 216 [u64 0,u64 lo,u64 y] st R:=by
 have e1:lo.tdiv y=lo/y:=Fa7 h0
 have e2:lo.tmod y=lo%y:=Fdw h0
 have b1:lo/y<=lo:=Fdj _ h0
 have b0:0<=lo/y:=Fcb h0 (by omega)
 have w:IntKind.u64.wrap (lo.tdiv y)=lo/y:=by rw[e1];exact jm b0 (by omega)
 refine Qa (c:=cfg 135) zb Tryz.func216 ?_
 refine zy (λc1=>absurd c1 (by omega)) (λc1=>?_)
 refine bcd (λc2=>absurd c2 (by omega)) (λc2=>?_)
 refine Qc zb zq8 ?_
 refine⟨by omega,?_⟩
 refine⟨by omega,?_⟩
 refine⟨⟨Qe,⟨⟨Tv,?_⟩,Tv⟩⟩,Tv⟩
 rw[w,e2]
 exact ret h
theorem nrm_lt{n:Int}:nrm n<0↔n<0:=by unfold nrm;split<;>omega
theorem zbi{c:Int}(h:-4611686018427387904<=c/\c<=4611686018427387904):asz c=if c<0 then -c else c:=by
 unfold asz
 rw[j3 (by omega)]
theorem oe(c most long:Int)(hc:-1099511627776<=c/\c<=1099511627776)(hm:0<=most/\most<=1048576)(hl:0<long/\long<9223372036854775808)(st:Store)(R:Ja)(h:R (int (Dt c most long)) st):
  Jb 185 [int c,int most,int long] st R:=by
 have hasz:=zbi (c:=c) (by omega)
 obtain⟨x,hx⟩:∃x,x=asz c:=⟨_,rfl⟩
 have hx0:0<=x/\x<=1099511627776:=by rw[hx,hasz];split<;>omega
 have hp0:0<=x*most:=Fax hx0.1 hm.1
 have hp1:x*most<=1099511627776*1048576:=Fbg hx0.2 hm.2 hm.1 (by omega)
 have hq1:x*most/long<=x*most:=Fdj _ hp0
 have hq0:0<=x*most/long:=Fcb hp0 (by omega)
 have w1:IntKind.u64.wrap most=most:=jm (by omega) (by omega)
 have w2:IntKind.u64.wrap long=long:=jm (by omega) (by omega)
 refine Qa (c:=cfg 39) zb Tryz.func185 ?_
 refine ei c ⟨by omega,by omega⟩ _ _ ?_
 rw[<-hx]
 show ACalls _ _ [u64 x,u64 (IntKind.u64.wrap most)] _ _
 rw[w1]
 refine Wq x most hx0.1 (by omega) hm.1 (by omega) _ _ ?_
 have e2:xk (x*most)=[u64 0,u64 (x*most)]:=by
  unfold xk
  rw[Fce hp0 (by omega),Fdd hp0 (by omega)]
 rw[e2]
 show ACalls _ _ [u64 0,u64 (x*most),u64 (IntKind.u64.wrap long)] _ _
 rw[w2]
 refine ycw _ _ hp0 (by omega) hl.1 (by omega) _ _ ?_
 unfold Dt at h
 refine bcd (λc1=>?_) (λc1=>?_)
 ·have c1:=nrm_lt.1 c1
  rw[if_pos c1]at h
  rw[if_pos c1]at hasz
  refine Qd ?_
  refine Qd ?_
  have e:0-x*most/long=-(-c*most/long):=by rw[hx,hasz];omega
  rw[e]
  exact ret h
 ·have c1:¬c<0:=λhh=>c1 (nrm_lt.2 hh)
  rw[if_neg c1]at h
  rw[if_neg c1]at hasz
  refine Qd ?_
  rw[hx,hasz]
  exact ret h
theorem fk{v:Vc}(h:vq v):qm v=v:=(D7 (Cm h)).2.1
theorem Ru(v:Vc)(most:Int)(hv:vq v)(hm:-9223372036854775808<=most/\most<=1048576)(st:Store)(R:Ja)(h:R (.agg (zo (xh v most))) st):
  Jb 140 [.agg (zo v),int most] st R:=by
 have hn:=fk hv
 have hsq:=(D7 (Cm hv)).2.2.1
 have hri:=F6 hsq
 unfold xh at h
 rw[<-max2_eq]at h
 have hmx:0<=max2 most 0/\max2 most 0<=1048576:=by rw[max2_eq];omega
 obtain⟨r0,r1,_,_⟩:=hri
 refine Qa (c:=cfg 27) zb Tryz.func140 ?_
 refine fo v _ _ ?_
 rw[hn]at h⊢
 refine rx v (Va hv) _ _ (λr hr=>?_)
 have hr:=Mm hsq hr
 subst hr
 generalize max2 most 0=m at*
 generalize jb (sqr v)=L at*
 refine bcd (λc1=>?_) (λc1=>?_)
 ·rw[if_pos c1]at h
  exact ret h
 rw[if_neg c1]at h
 have e1:nrm v.1=v.1:=congrArg Prod.fst hn
 have e2:nrm v.2=v.2:=congrArg Prod.snd hn
 rw[e1,e2]at h
 refine Qc zb zr8 ?_
 refine⟨oe v.1 m L hv.1 hmx (by omega) _ _ ⟨Qe,?_⟩,Tv⟩
 refine⟨oe v.2 m L hv.2 hmx (by omega) _ _ ⟨Qe,?_⟩,Tv⟩
 refine Qbk ?_
 exact ret h
theorem zd6(p q:Vc)(s:Int)(hp:xc p)(hq:xc q)(hs:0<=s/\s<=1048576)(st:Store)(R:Ja)(h:R (.agg (zo (Am p q s))) st):Jb 146 [.agg (zo p),.agg (zo q),int s] st R:=by
 have hp':p.ok:=by unfold xc at hp;exact⟨⟨by omega,by omega⟩,⟨by omega,by omega⟩⟩
 have hq':q.ok:=by unfold xc at hq;exact⟨⟨by omega,by omega⟩,⟨by omega,by omega⟩⟩
 refine Qa (c:=cfg 12) zb Tryz.func146 ?_
 refine Sk q p hq' hp' _ _ ?_
 refine Ru _ s (H0 hp hq) (by omega) _ _ ?_
 exact ret h
theorem Ms(a b:Int×Int)(st:Store)(R:Ja)(h:∀z:Bool,(z=true↔qlt a b)->R (bool z) st):Jb 308 [.agg (itC a),.agg (itC b)] st R:=by
 refine Qa (c:=cfg 24) zb Tryz.func308 ?_
 repeat' (first|refine bcd (λ_=>?_) (λ_=>?_)|refine zh (λ_=>?_) (λ_=>?_)|refine Qd ?_|fail)
 all_goals
  refine ret (h _ ?_)
  unfold qlt
  simp only[decide_eq_true_eq,decide_eq_false_iff_not,Fah,false_iff,true_iff,beq_iff_eq,bne_iff_ne,beq_eq_false_iff_ne,ne_eq,reduceCtorEq]at*
  omega
theorem zvw(S:Store)(R:Ja)(h:∀p,Fresh S p->R (ptr p) (S.sO p (.cells [.s (.slice none 0 0)]))):Jb 298 [] S R:=by
 refine Qa (c:=cfg 3 [2] []) zb Tryz.func298 ?_
 intro p hp
 exact ret (h p hp)
theorem zvo{F:Store}{p:Nat}{l:List (Int×Int)}(hq:QOf F p l)(hl:l.length<=1000000)(hh:we l)(x:Int×Int)(R:Ja)
  (h:∀F' l',QOf F' p l'->we l'->l'.Perm (x::l)->R (.tup []) F'):Jb 299 [ptr p,int x.1,int x.2] F R:=by
 obtain⟨v,hp,hr,hne⟩:=hq.rows
 refine Qa (c:=cfg 74) zb Tryz.func299 ?_
 refine Qbm ?_
 refine⟨by decide,?_⟩
 refine N6 (ie:=ti340) rfl Ip (by decide) hr x rfl (by omega) (λb cap L q1 q2 q3 q4=>?_)
 have hbp:b≠p:=by
  rcases q1 with q1|⟨c0,q1⟩
  ·exact λe=>by have:=q1.1;rw[e,hp]at this;cases this
  ·exact hne b c0 q1
 have hp2:(F.sO b (.cells ((rws itC (l++[x])).flatten++L))).obj p=some (.cells [v]):=by rw[zi (Ne.symm hbp)];exact hp
 refine jf (i:=ti337) (v:=.s (.slice (some ⟨b,0,none⟩) (l++[x]).length cap)) (b:=p) (o:=0) (l:=[v]) rfl rfl rfl hp2 (Faj 1) ?_
 have hQ:QAt ((F.sO b (.cells ((rws itC (l++[x])).flatten++L))).sO p (.cells (zu [v] 0 [.s (.slice (some ⟨b,0,none⟩) (l++[x]).length cap)]))) p b cap (l++[x]) L:=
  ⟨zd _ _ _,by rw[zi hbp];exact zd _ _ _,hbp,q2,q3,q4⟩
 have hU:=zvq hh x
 have hP:=zvp l x
 have hlen:(l++[x]).length=l.length+1:=by simp
 generalize hm:l++[x]=m at hQ hU hP hlen⊢
 generalize(F.sO b (.cells ((rws itC m).flatten++L))).sO p _=F1 at hQ⊢
 refine za (o:=F1.obj p) _ hQ.hp ?_
 refine Qd ?_
 refine AWp.loop (σ:=Nat×Store×List (Int×Int)) ⟨λq=>[(0,.av (ptr p)),(6,.av (int (q.1:Nat)))],λ_=>[],
  λq st'=>st'=q.2.1/\QAt q.2.1 p b cap q.2.2 L/\UpF (qat q.2.2) q.2.2.length q.1/\q.2.2.Perm (x::l)/\q.2.2.length=l.length+1/\q.1<q.2.2.length,λq=>q.1⟩ zb ?_ ?_
 ·refine⟨(l.length,F1,m),Tv,⟨rfl,hQ,hU,hP,hlen,by dsimp only;omega⟩,⟨Tq,?_,Tv⟩,Tv⟩
  show LV.le (.av (int ((m.length:Int)-1))) (.av (int (l.length:Nat)))
  rw[show(m.length:Int)-1=(l.length:Nat) by omega]
  exact Tq
 rintro⟨i,F2',m2⟩ F2 ⟨rfl,hQ,hU,hP,hlen,hi⟩
 dsimp only at hQ hU hP hlen hi⊢
 refine bcd (λc1=>?_) (λc1=>?_)
 rotate_left
 ·have:i=0:=by omega
  subst this
  exact ret (h F2 m2 (.inr ⟨b,cap,L,hQ⟩) (nk hU (.inl rfl)) hP)
 have hpar:((i:Int)-1).tdiv 2=(par i:Nat):=by
  unfold par
  rw[Fa7 (by omega)]
  omega
 have hpl:par i<m2.length:=by have:=Bk (show 0<i by omega);omega
 refine Qd ?_
 refine⟨by decide,?_⟩
 refine ze (by rw[hpar];omega) ?_
 refine Qc zb zqu ?_
 refine za (o:=F2.obj p) _ hQ.hp ?_
 refine⟨i,rfl,hi,?_⟩
 refine za (o:=F2.obj b) _ hQ.hb ?_
 refine yk (i:=ti340) (row:=itC (qat m2 i)) rfl rfl (v8 hi) ?_
 refine za (o:=F2.obj p) _ hQ.hp ?_
 refine⟨par i,hpar,hpl,?_⟩
 refine za (o:=F2.obj b) _ hQ.hb ?_
 refine yk (i:=ti340) (row:=itC (qat m2 (par i))) rfl rfl (v8 hpl) ?_
 refine⟨Ms _ _ _ _ (λz hz=>⟨Tv,?_⟩),Tv⟩
 refine yd ?_
 refine zh (λc2=>?_) (λc2=>?_)
 rotate_left
 ·exact ret (h F2 m2 (.inr ⟨b,cap,L,hQ⟩) (nk hU (.inr λhh=>by rw[hz.2 hh]at c2;cases c2)) hP)
 obtain⟨hU2,hP2⟩:=zvn hU (by omega) hi (hz.1 c2)
 have hS1:=hQ.set hi (qat m2 (par i))
 have hpl2:par i<(m2.set i (qat m2 (par i))).length:=by rw[Faf];exact hpl
 have hS2:=hS1.set hpl2 (qat m2 i)
 refine Qc zb zqt ?_
 refine za (o:=F2.obj p) _ hQ.hp ?_
 refine za (o:=F2.obj p) _ hQ.hp ?_
 refine za (o:=F2.obj p) _ hQ.hp ?_
 refine⟨par i,hpar,hpl,?_⟩
 refine za (o:=F2.obj b) _ hQ.hb ?_
 refine yk (i:=ti340) (row:=itC (qat m2 (par i))) rfl rfl (v8 hpl) ?_
 refine za (o:=F2.obj p) _ hQ.hp ?_
 refine⟨i,rfl,hi,?_⟩
 refine za (o:=F2.obj b) _ hQ.hb ?_
 refine yk (i:=ti340) (row:=itC (qat m2 i)) rfl rfl (v8 hi) ?_
 refine⟨i,rfl,hi,?_⟩
 refine⟨?_,Tv⟩
 refine za _ rfl (j5 rfl (jz (v:=.agg (itC (qat m2 (par i)))) rfl rfl rfl rfl ?_))
 refine j2 (i:=ti340) (xs:=itC (qat m2 (par i))) rfl rfl rfl hQ.hb (Ge hi _) ?_
 refine⟨Tv,?_⟩
 refine⟨par i,hpar,hpl,?_⟩
 refine⟨?_,Tv⟩
 refine za _ rfl (j5 rfl (jz (v:=.agg (itC (qat m2 i))) rfl rfl rfl rfl ?_))
 refine j2 (i:=ti340) (xs:=itC (qat m2 i)) rfl rfl rfl hS1.hb (Ge hpl2 _) ?_
 refine⟨Tv,?_⟩
 have hlen2:(vr m2 i (par i)).length=m2.length:=Kn _ _ _
 refine⟨(par i,_,vr m2 i (par i)),?_,⟨rfl,hS2,hU2,hP2.trans hP,by dsimp only;omega,by dsimp only;omega⟩,⟨Tq,?_,Tv⟩,Tv⟩
 ·show par i<i
  exact Bk (by omega)
 ·rw[hpar];exact Tq
theorem LV.le_int{a b:Int}(h:a=b):LV.le (.av (int a)) (.av (int b)):=by subst h;exact Tq
theorem zvr{F:Store}{p:Nat}{l:List (Int×Int)}(hq:QOf F p l)(hl:l.length<=1000000)(hh:we l)(R:Ja)
  (h0:l=[]->R (.tup [int 0,int 0,V.bool false]) F)
  (h1:0<l.length->∀F' l',QOf F' p l'->we l'->l.Perm (qat l 0::l')->R (.tup [int (qat l 0).1,int (qat l 0).2,V.bool true]) F'):Jb 300 [ptr p] F R:=by
 by_cases hz:l.length=0
 ·have hnil:l=[]:=Faw hz
  obtain⟨v,hp,hr,hne⟩:=hq.rows
  have hv:∃a c,v=.s (.slice a 0 c):=by
   rcases hr with⟨rfl,_⟩|⟨b,cap,L,rfl,_⟩
   ·exact⟨_,_,rfl⟩
   ·exact⟨_,_,by rw[hz]⟩
  obtain⟨a,c,rfl⟩:=hv
  refine Qa (c:=cfg 121) zb Tryz.func300 ?_
  refine Qbm ?_
  refine Qd ?_
  exact ret (h0 hnil)
 obtain⟨b,cap,L,hQ⟩:=hq.pos (by omega)
 obtain⟨n,hn⟩:∃n,l.length=n+1:=⟨l.length-1,by omega⟩
 have hc1:=hQ.h1
 have h0l:0<l.length:=by omega
 have hnl:n<l.length:=by omega
 have hnI:(l.length:Int)-1=(n:Nat):=by omega
 refine Qa (c:=cfg 121) zb Tryz.func300 ?_
 refine za (o:=F.obj p) _ hQ.hp ?_
 refine Qd ?_
 refine bcd (λc1=>absurd c1 (by omega)) (λc1=>?_)
 refine za (o:=F.obj p) _ hQ.hp ?_
 refine⟨0,rfl,h0l,?_⟩
 refine za (o:=F.obj b) _ hQ.hb ?_
 refine yk (i:=ti340) (row:=itC (qat l 0)) rfl rfl (v8 h0l) ?_
 refine Qc zb zqr ?_
 refine za (o:=F.obj p) _ hQ.hp ?_
 refine za (o:=F.obj p) _ hQ.hp ?_
 refine⟨n,hnI,hnl,?_⟩
 refine za (o:=F.obj b) _ hQ.hb ?_
 refine yk (i:=ti340) (row:=itC (qat l n)) rfl rfl (v8 hnl) ?_
 refine⟨0,rfl,h0l,?_⟩
 refine⟨?_,Tv⟩
 refine za _ rfl (j5 rfl (jz (v:=.agg (itC (qat l n))) rfl rfl rfl rfl ?_))
 refine j2 (i:=ti340) (xs:=itC (qat l n)) rfl rfl rfl hQ.hb (Ge h0l _) ?_
 refine⟨Tv,?_⟩
 have hQ1:=hQ.set h0l (qat l n)
 have hls:(l.set 0 (qat l n)).length=n+1:=by rw[Faf];exact hn
 refine za _ hQ1.hp ?_
 refine⟨0,n,rfl,hnI,Fag _,by omega,.inl ⟨by omega,?_⟩⟩
 refine jf (i:=ti337) (v:=.s (.slice (some ⟨b,0,none⟩) n cap)) (b:=p) (o:=0) (l:=[.s (.slice (some ⟨b,0,none⟩) (l.set 0 (qat l n)).length cap)]) rfl rfl rfl hQ1.hp (Faj 1) ?_
 have hQ2:=hQ1.cut (n:=n) (by omega)
 have hD:=zvu hn hh
 have hpm:=zvs hn
 have hln:((l.set 0 (qat l n)).take n).length=n:=by rw[Fao];omega
 have hfin:∀F' l',QOf F' p l'->we l'->l'.Perm ((l.set 0 (qat l n)).take n)->R (.tup [int (qat l 0).1,int (qat l 0).2,V.bool true]) F':=λF' l' g1 g2 g3=>h1 h0l F' l' g1 g2 (hpm.trans (List.Perm.cons _ g3.symm))
 generalize(rws itC ((l.set 0 (qat l n)).drop n)).flatten++L=L2 at hQ2
 generalize((l.set 0 (qat l n)).take n)=m0 at hQ2 hD hln hfin
 refine AWp.loop (σ:=Nat×Store×List (Int×Int)) ⟨λq=>[(0,.av (ptr p)),(5,.av (int (n:Nat))),(6,.bx 6 0),(7,.av (int (q.1:Nat)))],λ_=>[(6,itC (qat l 0))],
  λq st'=>st'=q.2.1/\QAt q.2.1 p b cap q.2.2 L2/\Gs (qat q.2.2) q.2.2.length q.1/\q.2.2.Perm m0/\q.2.2.length=n/\q.1<=n,λq=>n-q.1⟩ zb ?_ ?_
 ·exact⟨(0,_,m0),Tv,⟨rfl,hQ2,hD,List.Perm.refl _,hln,Fag _⟩,⟨Tq,LV.le_int hnI,Tq,Tq,Tv⟩,⟨rfl,Tv⟩⟩
 rintro⟨i,F2',m⟩ F2 ⟨rfl,hQ,hD,hP,hlen,hin⟩
 dsimp only at hQ hD hP hlen hin⊢
 refine Qd ?_
 refine Qd ?_
 refine bcd (λc1=>?_) (λc1=>?_)
 ·have hF:=hfin F2 m (.inr ⟨b,cap,_,hQ⟩) (zvv hD (by omega)) hP
  refine Qc zb O3 ?_
  refine⟨⟨⟨rfl,Tv⟩,⟨⟨Tv,⟨⟨Tv,?_⟩,Tv⟩⟩,Tv⟩⟩,Tv⟩
  exact ret hF
 have hil:i<m.length:=by omega
 refine Qc zb zqs ?_
 refine Qd ?_
 refine bcd (λc3=>?_) (λc3=>?_)
 rotate_left
 ·refine Qbl ?_
  have hkl:2*i+1<m.length:=by omega
  have hki:par (2*i+1)=i:=(Mv (by omega)).2 (.inl rfl)
  have hmin:=dc (f:=qat m) (n:=m.length) (i:=i) (k:=2*i+1) (.inl ⟨rfl,λhx=>by omega⟩)
  refine Qc zb Vu ?_
  refine za (o:=F2.obj p) _ hQ.hp ?_
  refine⟨2*i+1,by omega,hkl,?_⟩
  refine za (o:=F2.obj b) _ hQ.hb ?_
  refine yk (i:=ti340) (row:=itC (qat m (2*i+1))) rfl rfl (v8 hkl) ?_
  refine za (o:=F2.obj p) _ hQ.hp ?_
  refine⟨i,rfl,hil,?_⟩
  refine za (o:=F2.obj b) _ hQ.hb ?_
  refine yk (i:=ti340) (row:=itC (qat m i)) rfl rfl (v8 hil) ?_
  refine⟨Ms _ _ _ _ (λz hz=>⟨Tv,?_⟩),Tv⟩
  refine yd ?_
  refine zh (λc2=>?_) (λc2=>?_)
  rotate_left
  ·have hF:=hfin F2 m (.inr ⟨b,cap,_,hQ⟩) (Wb hD hmin (λhh=>by rw[hz.2 hh]at c2;cases c2)) hP
   refine Qc zb O3 ?_
   refine⟨⟨⟨rfl,Tv⟩,⟨⟨Tv,⟨⟨Tv,?_⟩,Tv⟩⟩,Tv⟩⟩,Tv⟩
   exact ret hF
  obtain⟨hD2,hP2⟩:=Wc hD (by omega) hkl hki hmin (hz.1 c2)
  have hS1:=hQ.set hil (qat m (2*i+1))
  have hkl2:2*i+1<(m.set i (qat m (2*i+1))).length:=by rw[Faf];exact hkl
  have hS2:=hS1.set hkl2 (qat m i)
  refine Qc zb Vt ?_
  refine za (o:=F2.obj p) _ hQ.hp ?_
  refine za (o:=F2.obj p) _ hQ.hp ?_
  refine za (o:=F2.obj p) _ hQ.hp ?_
  refine⟨2*i+1,by omega,hkl,?_⟩
  refine za (o:=F2.obj b) _ hQ.hb ?_
  refine yk (i:=ti340) (row:=itC (qat m (2*i+1))) rfl rfl (v8 hkl) ?_
  refine za (o:=F2.obj p) _ hQ.hp ?_
  refine⟨i,rfl,hil,?_⟩
  refine za (o:=F2.obj b) _ hQ.hb ?_
  refine yk (i:=ti340) (row:=itC (qat m i)) rfl rfl (v8 hil) ?_
  refine⟨i,rfl,hil,?_⟩
  refine⟨?_,Tv⟩
  refine za _ rfl (j5 rfl (jz (v:=.agg (itC (qat m (2*i+1)))) rfl rfl rfl rfl ?_))
  refine j2 (i:=ti340) (xs:=itC (qat m (2*i+1))) rfl rfl rfl hQ.hb (Ge hil _) ?_
  refine⟨Tv,?_⟩
  refine⟨2*i+1,by omega,hkl,?_⟩
  refine⟨?_,Tv⟩
  refine za _ rfl (j5 rfl (jz (v:=.agg (itC (qat m i))) rfl rfl rfl rfl ?_))
  refine j2 (i:=ti340) (xs:=itC (qat m i)) rfl rfl rfl hS1.hb (Ge hkl2 _) ?_
  refine⟨Tv,?_⟩
  have hlen2:(vr m i (2*i+1)).length=m.length:=Kn _ _ _
  refine⟨(2*i+1,_,vr m i (2*i+1)),?_,⟨rfl,hS2,hD2,hP2.trans hP,by dsimp only;omega,by dsimp only;omega⟩,⟨Tq,Tq,Tq,?_,Tv⟩,⟨rfl,Tv⟩⟩
  ·show n-(2*i+1)<n-i
   omega
  ·exact LV.le_int (by omega)
 refine za (o:=F2.obj p) _ hQ.hp ?_
 refine Qd ?_
 have hkl1:2*i+2<m.length:=by omega
 have hkl0:2*i+1<m.length:=by omega
 refine⟨2*i+2,by omega,hkl1,?_⟩
 refine za (o:=F2.obj b) _ hQ.hb ?_
 refine yk (i:=ti340) (row:=itC (qat m (2*i+2))) rfl rfl (v8 hkl1) ?_
 refine za (o:=F2.obj p) _ hQ.hp ?_
 refine⟨2*i+1,by omega,hkl0,?_⟩
 refine za (o:=F2.obj b) _ hQ.hb ?_
 refine yk (i:=ti340) (row:=itC (qat m (2*i+1))) rfl rfl (v8 hkl0) ?_
 refine⟨Ms _ _ _ _ (λz hz1=>⟨Tv,?_⟩),Tv⟩
 refine zh (λc4=>?_) (λc4=>?_)
 ·refine Qd ?_
  have hkl:2*i+2<m.length:=hkl1
  have hki:par (2*i+2)=i:=(Mv (by omega)).2 (.inr rfl)
  have hmin:=dc (f:=qat m) (n:=m.length) (i:=i) (k:=2*i+2) (.inr ⟨rfl,hz1.1 c4⟩)
  refine Qc zb Vu ?_
  refine za (o:=F2.obj p) _ hQ.hp ?_
  refine⟨2*i+2,by omega,hkl,?_⟩
  refine za (o:=F2.obj b) _ hQ.hb ?_
  refine yk (i:=ti340) (row:=itC (qat m (2*i+2))) rfl rfl (v8 hkl) ?_
  refine za (o:=F2.obj p) _ hQ.hp ?_
  refine⟨i,rfl,hil,?_⟩
  refine za (o:=F2.obj b) _ hQ.hb ?_
  refine yk (i:=ti340) (row:=itC (qat m i)) rfl rfl (v8 hil) ?_
  refine⟨Ms _ _ _ _ (λz hz=>⟨Tv,?_⟩),Tv⟩
  refine yd ?_
  refine zh (λc2=>?_) (λc2=>?_)
  rotate_left
  ·have hF:=hfin F2 m (.inr ⟨b,cap,_,hQ⟩) (Wb hD hmin (λhh=>by rw[hz.2 hh]at c2;cases c2)) hP
   refine Qc zb O3 ?_
   refine⟨⟨⟨rfl,Tv⟩,⟨⟨Tv,⟨⟨Tv,?_⟩,Tv⟩⟩,Tv⟩⟩,Tv⟩
   exact ret hF
  obtain⟨hD2,hP2⟩:=Wc hD (by omega) hkl hki hmin (hz.1 c2)
  have hS1:=hQ.set hil (qat m (2*i+2))
  have hkl2:2*i+2<(m.set i (qat m (2*i+2))).length:=by rw[Faf];exact hkl
  have hS2:=hS1.set hkl2 (qat m i)
  refine Qc zb Vt ?_
  refine za (o:=F2.obj p) _ hQ.hp ?_
  refine za (o:=F2.obj p) _ hQ.hp ?_
  refine za (o:=F2.obj p) _ hQ.hp ?_
  refine⟨2*i+2,by omega,hkl,?_⟩
  refine za (o:=F2.obj b) _ hQ.hb ?_
  refine yk (i:=ti340) (row:=itC (qat m (2*i+2))) rfl rfl (v8 hkl) ?_
  refine za (o:=F2.obj p) _ hQ.hp ?_
  refine⟨i,rfl,hil,?_⟩
  refine za (o:=F2.obj b) _ hQ.hb ?_
  refine yk (i:=ti340) (row:=itC (qat m i)) rfl rfl (v8 hil) ?_
  refine⟨i,rfl,hil,?_⟩
  refine⟨?_,Tv⟩
  refine za _ rfl (j5 rfl (jz (v:=.agg (itC (qat m (2*i+2)))) rfl rfl rfl rfl ?_))
  refine j2 (i:=ti340) (xs:=itC (qat m (2*i+2))) rfl rfl rfl hQ.hb (Ge hil _) ?_
  refine⟨Tv,?_⟩
  refine⟨2*i+2,by omega,hkl,?_⟩
  refine⟨?_,Tv⟩
  refine za _ rfl (j5 rfl (jz (v:=.agg (itC (qat m i))) rfl rfl rfl rfl ?_))
  refine j2 (i:=ti340) (xs:=itC (qat m i)) rfl rfl rfl hS1.hb (Ge hkl2 _) ?_
  refine⟨Tv,?_⟩
  have hlen2:(vr m i (2*i+2)).length=m.length:=Kn _ _ _
  refine⟨(2*i+2,_,vr m i (2*i+2)),?_,⟨rfl,hS2,hD2,hP2.trans hP,by dsimp only;omega,by dsimp only;omega⟩,⟨Tq,Tq,Tq,?_,Tv⟩,⟨rfl,Tv⟩⟩
  ·show n-(2*i+2)<n-i
   omega
  ·exact LV.le_int (by omega)
 ·have hkl:2*i+1<m.length:=hkl0
  have hki:par (2*i+1)=i:=(Mv (by omega)).2 (.inl rfl)
  have hmin:=dc (f:=qat m) (n:=m.length) (i:=i) (k:=2*i+1) (.inl ⟨rfl,λhx hh=>by rw[hz1.2 hh]at c4;cases c4⟩)
  refine Qc zb Vu ?_
  refine za (o:=F2.obj p) _ hQ.hp ?_
  refine⟨2*i+1,by omega,hkl,?_⟩
  refine za (o:=F2.obj b) _ hQ.hb ?_
  refine yk (i:=ti340) (row:=itC (qat m (2*i+1))) rfl rfl (v8 hkl) ?_
  refine za (o:=F2.obj p) _ hQ.hp ?_
  refine⟨i,rfl,hil,?_⟩
  refine za (o:=F2.obj b) _ hQ.hb ?_
  refine yk (i:=ti340) (row:=itC (qat m i)) rfl rfl (v8 hil) ?_
  refine⟨Ms _ _ _ _ (λz hz=>⟨Tv,?_⟩),Tv⟩
  refine yd ?_
  refine zh (λc2=>?_) (λc2=>?_)
  rotate_left
  ·have hF:=hfin F2 m (.inr ⟨b,cap,_,hQ⟩) (Wb hD hmin (λhh=>by rw[hz.2 hh]at c2;cases c2)) hP
   refine Qc zb O3 ?_
   refine⟨⟨⟨rfl,Tv⟩,⟨⟨Tv,⟨⟨Tv,?_⟩,Tv⟩⟩,Tv⟩⟩,Tv⟩
   exact ret hF
  obtain⟨hD2,hP2⟩:=Wc hD (by omega) hkl hki hmin (hz.1 c2)
  have hS1:=hQ.set hil (qat m (2*i+1))
  have hkl2:2*i+1<(m.set i (qat m (2*i+1))).length:=by rw[Faf];exact hkl
  have hS2:=hS1.set hkl2 (qat m i)
  refine Qc zb Vt ?_
  refine za (o:=F2.obj p) _ hQ.hp ?_
  refine za (o:=F2.obj p) _ hQ.hp ?_
  refine za (o:=F2.obj p) _ hQ.hp ?_
  refine⟨2*i+1,by omega,hkl,?_⟩
  refine za (o:=F2.obj b) _ hQ.hb ?_
  refine yk (i:=ti340) (row:=itC (qat m (2*i+1))) rfl rfl (v8 hkl) ?_
  refine za (o:=F2.obj p) _ hQ.hp ?_
  refine⟨i,rfl,hil,?_⟩
  refine za (o:=F2.obj b) _ hQ.hb ?_
  refine yk (i:=ti340) (row:=itC (qat m i)) rfl rfl (v8 hil) ?_
  refine⟨i,rfl,hil,?_⟩
  refine⟨?_,Tv⟩
  refine za _ rfl (j5 rfl (jz (v:=.agg (itC (qat m (2*i+1)))) rfl rfl rfl rfl ?_))
  refine j2 (i:=ti340) (xs:=itC (qat m (2*i+1))) rfl rfl rfl hQ.hb (Ge hil _) ?_
  refine⟨Tv,?_⟩
  refine⟨2*i+1,by omega,hkl,?_⟩
  refine⟨?_,Tv⟩
  refine za _ rfl (j5 rfl (jz (v:=.agg (itC (qat m i))) rfl rfl rfl rfl ?_))
  refine j2 (i:=ti340) (xs:=itC (qat m i)) rfl rfl rfl hS1.hb (Ge hkl2 _) ?_
  refine⟨Tv,?_⟩
  have hlen2:(vr m i (2*i+1)).length=m.length:=Kn _ _ _
  refine⟨(2*i+1,_,vr m i (2*i+1)),?_,⟨rfl,hS2,hD2,hP2.trans hP,by dsimp only;omega,by dsimp only;omega⟩,⟨Tq,Tq,Tq,?_,Tv⟩,⟨rfl,Tv⟩⟩
  ·show n-(2*i+1)<n-i
   omega
  ·exact LV.le_int (by omega)
section
variable {m x:Int} {i:Nat}
theorem vy{p:Vc}(h:xc p):p.ok:=by
 unfold xc at h
 exact⟨⟨by omega,by omega⟩,⟨by omega,by omega⟩⟩
theorem n8{p q:Vc}(hp:xc p)(hq:xc q):vq (if qp p q=(0,0)then(65536,0)else qp p q):=by
 split
 ·unfold vq;decide
 ·exact H0 hq hp
theorem mw{v:Vc}(h:vq v):0<=jb (sqr v):=(F6 (D7 (Cm h)).2.2.1).1
theorem zor(p:Vc)(r:Int)(q:Vc)(hp:xc p)(hq:xc q)(hr:0<=r/\r<=1048576)(st:Store)(R:Ja)(h:R (.agg (zo (ju p r q))) st):
  Jb 139 [.agg (zo p),int r,.agg (zo q)] st R:=by
 have ht:=H0 hq hp
 have hsq:=(D7 (Cm ht)).2.2.1
 have hr0:=mw ht
 have harg:=n8 hp hq
 have hri:=F6 hsq
 unfold ju at h
 refine Qa (c:=cfg 29) zb Tryz.func139 ?_
 refine Oe p q r (vy hp) (vy hq) (by omega) _ _ ?_
 refine yd ?_
 refine zh (λc1=>?_) (λc1=>?_)
 rotate_left
 ·rw[if_neg (by rw[c1];decide)]at h
  exact ret h
 rw[if_pos c1]at h
 refine Sk p q (vy hp) (vy hq) _ _ ?_
 refine rx _ (H2 p q) _ _ (λL hL=>?_)
 have hL2:=Mm hsq hL
 subst hL2
 have hLb:jb (sqr (qp p q))<=1099511627776*2:=by
  obtain⟨_,_,h3,_⟩:=hri
  have e:=(D7 (Cm ht)).1
  unfold vq at ht
  generalize jb (sqr (qp p q))=L at*
  by_cases hh:L<=1099511627776*2
  ·exact hh
  ·exfalso
   have h4:(1099511627776*2+1)*(1099511627776*2+1)<=L*L:=Fbg (by omega) (by omega) (by omega) (by omega)
   have h5:(qp p q).1*(qp p q).1<=1099511627776*1099511627776:=by
    rw[Hy]
    exact Fbg (by omega) (by omega) (by omega) (by omega)
   have h6:(qp p q).2*(qp p q).2<=1099511627776*1099511627776:=by
    rw[Hy]
    exact Fbg (by omega) (by omega) (by omega) (by omega)
   omega
 have hfs:yz r (jb (sqr (qp p q)))=r-jb (sqr (qp p q)):=by
  unfold yz
  rw[j3 (by omega),Ix (by omega) (by omega)]
  omega
 refine G0 _ _ ⟨by omega,by omega⟩ ⟨by omega,by omega⟩ _ _ ?_
 rw[hfs]
 generalize jb (sqr (qp p q))=L at*
 generalize qp p q=d at*
 refine zh (λc2=>?_) (λc2=>?_)
 ·have c2:d=(0,0):=by
   simp only[Fav,beq_iff_eq]at c2
   exact Prod.ext c2.1 c2.2.1
  rw[if_pos c2]at h harg
  subst c2
  refine Ru (65536,0) (r-L) harg (by omega) _ _ ?_
  exact ret h
 ·have c2:¬d=(0,0):=λe=>by
   rw[e]at c2
   exact absurd c2 (by decide)
  rw[if_neg c2]at h harg
  refine Ru d (r-L) harg (by omega) _ _ ?_
  exact ret h
theorem yex(h0:0<=m)(h1:m<18446744073709551616)(hi:i<64):jl .and .u64 (m.fdiv (2^(min ((i:Int).tmod 64).toNat IntKind.u64.bits))) 1=(m/2^i)%2:=by
 have e:min ((i:Int).tmod 64).toNat IntKind.u64.bits=i:=by
  have:(i:Int).tmod 64=i:=by rw[Fdw (by omega)];omega
  rw[this]
  show min ((i:Int)).toNat 64=i
  omega
 have hp:(0:Int)<2^i:=Fec (by decide)
 rw[e,Fc1 _ (by omega)]
 exact yfv (Fcb h0 (by omega)) (by have:=Fdj (2^i) h0;omega)
theorem zbb(h0:0<=m)(h1:m<18446744073709551616)(hi:64<=i):m/2^i=0:=by
 have h2:(2:Int)^64<=2^i:=by exact_mod_cast Nat.pow_le_pow_right (by decide) hi
 have h3:(2:Int)^64=18446744073709551616:=by decide
 exact Fce h0 (by omega)
theorem zz3(i:Nat):m/2^i=2*(m/2^(i+1))+(m/2^i)%2:=by
 have h:m/2^(i+1)=m/2^i/2:=by
  have hp:(0:Int)<2^i:=Fec (by decide)
  rw[Int.pow_succ,Int.ediv_ediv,if_neg (λhh=>by omega),Int.sub_zero]
 rw[h]
 have:=Feh (m/2^i) 2
 omega
theorem oj{b:Int}(h0:0<=x)(h1:2*x+1<18446744073709551616)(hb:b=0\/b=1):jl .or .u64 (IntKind.u64.wrap (x*2^(min (1:Int).toNat IntKind.u64.bits))) b=2*x+b:=by
 obtain⟨n,rfl⟩:=Fb3 h0
 have e:min (1:Int).toNat IntKind.u64.bits=1:=rfl
 rw[e,jm (by omega) (by omega)]
 have:=ol (n:=b) (q:=n) (m:=1) (by omega) (by omega) (by omega)
 rw[this]
 omega
theorem gy(h0:0<=x)(h1:x<9223372036854775808):x.fdiv (2^(min (63:Int).toNat IntKind.u64.bits))=0:=by
 have e:min (63:Int).toNat IntKind.u64.bits=63:=rfl
 rw[e,Fc1 _ (by decide)]
 exact Fce h0 (by omega)
theorem zwo(m b:Int)(h0:0<=m)(h1:m<9223372036854775808)(hb:0<b)(hb2:b<9223372036854775808)(st:Store)(R:Ja)(h:∀z,R (.tup [u64 (m/b),V.bool z]) st):
  Jb 147 [.agg (xk m),u64 b] st R:=by
 have hw:xk m=[u64 0,u64 m]:=by
  unfold xk
  rw[Fce h0 (by omega),Fdd h0 (by omega)]
 rw[hw]
 refine Qa (c:=cfg 59) zb Tryz.func147 ?_
 refine AWp.loop (σ:=Nat×Int) ⟨λk=>[(1,.av (u64 b)),(2,.bx 2 0),(6,.av (u64 (m/2^k.1/b))),(7,.av (u64 (m/2^k.1%b))),(8,.av (V.bool false)),(9,.av (int ((k.1:Int)-1)))],λ_=>[(2,[u64 0,u64 m])],
  λk st'=>k.1<=128/\st'=st,λk=>k.1⟩ zb ?_ ?_
 ·have e:m/2^128=0:=zbb h0 (by omega) (by decide)
  refine⟨(128,0),Tv,⟨Faj _,rfl⟩,⟨Tq,Tq,?_,?_,Tq,Tq,Tv⟩,⟨rfl,Tv⟩⟩
  ·show LV.le (.av (u64 0)) (.av (u64 (m/2^128/b)))
   rw[e,Int.zero_ediv]
   exact Tq
  ·show LV.le (.av (u64 0)) (.av (u64 (m/2^128%b)))
   rw[e,Int.zero_emod]
   exact Tq
 rintro⟨k,_⟩ st' ⟨hk,rfl⟩
 dsimp only at hk⊢
 cases k with
 |zero=>
  have e:m/2^0=m:=by rw[Int.pow_zero,Int.ediv_one]
  have h2:=h (decide (m/2^0%b>0))
  rw[show m/b=m/2^0/b by rw[e]]at h2
  exact ret h2
 |succ i=>
 have hi:i<128:=by omega
 have hk0:((i+1:Nat):Int)-1=i:=by omega
 have hA:=zz3 (m:=m) i
 have ht:(m/2^i)%2=0\/(m/2^i)%2=1:=by omega
 have hp:(0:Int)<2^(i+1):=Fec (by decide)
 have hp0:(0:Int)<2^i:=Fec (by decide)
 have hA0:0<=m/2^(i+1):=Fcb h0 (by omega)
 have hA1:m/2^(i+1)<4611686018427387904:=by
  have h2:m/2^i<=m:=Fdj _ h0
  omega
 have hq0:0<=m/2^(i+1)/b:=Fcb hA0 (by omega)
 have hq1:m/2^(i+1)/b<=m/2^(i+1):=Fdj _ hA0
 have hr0:0<=m/2^(i+1)%b:=Fco _ (by omega)
 have hr1:m/2^(i+1)%b<b:=Fdo _ hb
 have hr2:m/2^(i+1)%b<=m/2^(i+1):=by
  have h2:=Feh (m/2^(i+1)) b
  have h3:=Fax (show 0<=b by omega) hq0
  omega
 have hlo:=λ(t:Int) (x:0<=t)=>ycu (A:=m/2^(i+1)) (b:=b) (t:=t) hb x
 have hhi:=λ(t:Int) (x:0<=t) (y:t<=1)=>ycv (A:=m/2^(i+1)) (b:=b) (t:=t) hb x y
 have hbl:i<64->jl .and .u64 (m.fdiv (2^(min ((((i+1:Nat):Int)-1).tmod 64).toNat IntKind.u64.bits))) 1=(m/2^i)%2:=λh=>by rw[hk0];exact yex h0 (by omega) h
 have hbh:64<=i->(m/2^i)%2=0:=λh=>by rw[zbb h0 (by omega) h];rfl
 have hz:∀y:Int,jl .and .u64 ((0:Int).fdiv y) 1=0:=λy=>by rw[Int.zero_fdiv];rfl
 have hmod:0<=(((i+1:Nat):Int)-1).tmod 64:=by rw[hk0];exact Int.tmod_nonneg _ (by omega)
 have hone:jl .or .u64 (IntKind.u64.wrap (m/2^(i+1)/b*2^(min (1:Int).toNat IntKind.u64.bits))) 1=2*(m/2^(i+1)/b)+1:=oj hq0 (by omega) (.inr rfl)
 have hdbl:IntKind.u64.wrap (m/2^(i+1)/b*2^(min (1:Int).toNat IntKind.u64.bits))=2*(m/2^(i+1)/b):=by
  have e:min (1:Int).toNat IntKind.u64.bits=1:=rfl
  rw[e,jm (by omega) (by omega)]
  omega
 have hor:∀t:Int,t=0\/t=1->jl .or .u64 (IntKind.u64.wrap (m/2^(i+1)%b*2^(min (1:Int).toNat IntKind.u64.bits))) t=2*(m/2^(i+1)%b)+t:=λt ht=>oj hr0 (by omega) ht
 have htq:(m/2^(i+1)/b).fdiv (2^(min (63:Int).toNat IntKind.u64.bits))=0:=gy hq0 (by omega)
 have htr:(m/2^(i+1)%b).fdiv (2^(min (63:Int).toNat IntKind.u64.bits))=0:=gy hr0 (by omega)
 have fin:∀t,t=(m/2^i)%2->∀(q' r':Int),(b<=2*(m/2^(i+1)%b)+t->q'=2*(m/2^(i+1)/b)+1/\r'=2*(m/2^(i+1)%b)+t-b)->(¬b<=2*(m/2^(i+1)%b)+t->q'=2*(m/2^(i+1)/b)/\r'=2*(m/2^(i+1)%b)+t)->q'=m/2^i/b/\r'=m/2^i%b:=λt e q' r' k1 k2=>by
  subst e
  by_cases hc:b<=2*(m/2^(i+1)%b)+(m/2^i)%2
  ·obtain⟨e1,e2⟩:=k1 hc
   obtain⟨e3,e4⟩:=hhi ((m/2^i)%2) (by omega) (by omega) hc
   rw[<-hA]at e3 e4
   exact⟨by rw[e1,e3],by rw[e2,e4]⟩
  ·obtain⟨e1,e2⟩:=k2 hc
   obtain⟨e3,e4⟩:=hlo ((m/2^i)%2) (by omega) (by omega)
   rw[<-hA]at e3 e4
   exact⟨by rw[e1,e3],by rw[e2,e4]⟩
 refine bcd (λc1=>?_) (λc1=>absurd (by omega) c1)
 refine⟨by decide,?_⟩
 refine⟨hmod,?_⟩
 -- the rest of the round,for the bit t
 refine bcd (λc2=>?_) (λc2=>?_)
 ·refine⟨by decide,?_⟩
  refine⟨hmod,?_⟩
  have ht0:(m/2^i)%2=0:=hbh (by omega)
  refine⟨by decide,?_⟩
  refine⟨by decide,?_⟩
  refine⟨by decide,?_⟩
  refine zy (λc3=>absurd (htq.symm.trans c3) (by decide)) (λc3=>?_)
  refine⟨by decide,?_⟩
  refine zy (λc4=>absurd (htr.symm.trans c4) (by decide)) (λc4=>?_)
  rw[hz,hor 0 (.inl rfl)]
  refine bcd (λc5=>?_) (λc5=>?_)
  ·have wr:IntKind.u64.wrap ((2*(m/2^(i+1)%b)+(0))-b)=(2*(m/2^(i+1)%b)+(0))-b:=jm (by omega) (by omega)
   refine Qd ?_
   refine⟨(i,0),Fcp i,⟨by dsimp only;omega,rfl⟩,⟨Tq,Tq,?_,?_,Tq,?_,Tv⟩,⟨rfl,Tv⟩⟩
   ·show LV.le (.av (u64 (jl .or .u64 (IntKind.u64.wrap (m/2^(i+1)/b*2^(min (1:Int).toNat IntKind.u64.bits))) 1))) (.av (u64 (m/2^i/b)))
    rw[hone,(fin (0) (by omega) _ _ (λhh=>⟨rfl,rfl⟩) (λhh=>absurd c5 hh)).1]
    exact Tq
   ·show LV.le (.av (u64 (IntKind.u64.wrap ((2*(m/2^(i+1)%b)+(0))-b)))) (.av (u64 (m/2^i%b)))
    rw[wr,(fin (0) (by omega) _ _ (λhh=>⟨rfl,rfl⟩) (λhh=>absurd c5 hh)).2]
    exact Tq
   ·exact LV.le_int (by omega)
  ·skip
   refine Qd ?_
   refine⟨(i,0),Fcp i,⟨by dsimp only;omega,rfl⟩,⟨Tq,Tq,?_,?_,Tq,?_,Tv⟩,⟨rfl,Tv⟩⟩
   ·show LV.le (.av (u64 (IntKind.u64.wrap (m/2^(i+1)/b*2^(min (1:Int).toNat IntKind.u64.bits))))) (.av (u64 (m/2^i/b)))
    rw[hdbl,(fin (0) (by omega) _ _ (λhh=>absurd hh (by omega)) (λhh=>⟨rfl,rfl⟩)).1]
    exact Tq
   ·show LV.le (.av (u64 (2*(m/2^(i+1)%b)+(0)))) (.av (u64 (m/2^i%b)))
    rw[(fin (0) (by omega) _ _ (λhh=>absurd hh (by omega)) (λhh=>⟨rfl,rfl⟩)).2]
    exact Tq
   ·exact LV.le_int (by omega)
 ·refine⟨by decide,?_⟩
  refine⟨by decide,?_⟩
  refine⟨by decide,?_⟩
  refine zy (λc3=>absurd (htq.symm.trans c3) (by decide)) (λc3=>?_)
  refine⟨by decide,?_⟩
  refine zy (λc4=>absurd (htr.symm.trans c4) (by decide)) (λc4=>?_)
  rw[hbl (by omega),hor _ ht]
  refine bcd (λc5=>?_) (λc5=>?_)
  ·have wr:IntKind.u64.wrap ((2*(m/2^(i+1)%b)+((m/2^i)%2))-b)=(2*(m/2^(i+1)%b)+((m/2^i)%2))-b:=jm (by omega) (by omega)
   refine Qd ?_
   refine⟨(i,0),Fcp i,⟨by dsimp only;omega,rfl⟩,⟨Tq,Tq,?_,?_,Tq,?_,Tv⟩,⟨rfl,Tv⟩⟩
   ·show LV.le (.av (u64 (jl .or .u64 (IntKind.u64.wrap (m/2^(i+1)/b*2^(min (1:Int).toNat IntKind.u64.bits))) 1))) (.av (u64 (m/2^i/b)))
    rw[hone,(fin ((m/2^i)%2) (rfl) _ _ (λhh=>⟨rfl,rfl⟩) (λhh=>absurd c5 hh)).1]
    exact Tq
   ·show LV.le (.av (u64 (IntKind.u64.wrap ((2*(m/2^(i+1)%b)+((m/2^i)%2))-b)))) (.av (u64 (m/2^i%b)))
    rw[wr,(fin ((m/2^i)%2) (rfl) _ _ (λhh=>⟨rfl,rfl⟩) (λhh=>absurd c5 hh)).2]
    exact Tq
   ·exact LV.le_int (by omega)
  ·skip
   refine Qd ?_
   refine⟨(i,0),Fcp i,⟨by dsimp only;omega,rfl⟩,⟨Tq,Tq,?_,?_,Tq,?_,Tv⟩,⟨rfl,Tv⟩⟩
   ·show LV.le (.av (u64 (IntKind.u64.wrap (m/2^(i+1)/b*2^(min (1:Int).toNat IntKind.u64.bits))))) (.av (u64 (m/2^i/b)))
    rw[hdbl,(fin ((m/2^i)%2) (rfl) _ _ (λhh=>absurd hh (by omega)) (λhh=>⟨rfl,rfl⟩)).1]
    exact Tq
   ·show LV.le (.av (u64 (2*(m/2^(i+1)%b)+((m/2^i)%2)))) (.av (u64 (m/2^i%b)))
    rw[(fin ((m/2^i)%2) (rfl) _ _ (λhh=>absurd hh (by omega)) (λhh=>⟨rfl,rfl⟩)).2]
    exact Tq
   ·exact LV.le_int (by omega)
end
theorem zoo(q:Int)(h0:0<=q)(h1:q<9223372036854775808)(neg:Bool)(st:Store)(R:Ja)(h:R (int (if neg=true then -q else q)) st):Jb 148 [u64 q,V.bool neg,V.bool false] st R:=by
 refine Qa (c:=cfg 25) zb Tryz.func148 ?_
 refine zh (λc1=>?_) (λc1=>?_)
 ·subst c1
  refine bcd (λc2=>absurd c2 (by omega)) (λc2=>?_)
  refine Qd ?_
  refine Qd ?_
  have e:0-q=-q:=by omega
  rw[e]
  exact ret h
 ·subst c1
  refine bcd (λc2=>absurd c2 (by omega)) (λc2=>?_)
  refine Qd ?_
  exact ret h
theorem O6(c most long:Int)(hc:-1099511627776<=c/\c<=1099511627776)(hm:0<=most/\most<=1048576)(hl:0<long/\long<9223372036854775808)(st:Store)(R:Ja)(h:R (int (Dt c most long)) st):
  Jb 91 [int c,int most,int long] st R:=by
 have hasz:=zbi (c:=c) (by omega)
 obtain⟨x,hx⟩:∃x,x=asz c:=⟨_,rfl⟩
 have hx0:0<=x/\x<=1099511627776:=by rw[hx,hasz];split<;>omega
 have hp0:0<=x*most:=Fax hx0.1 hm.1
 have hp1:x*most<=1099511627776*1048576:=Fbg hx0.2 hm.2 hm.1 (by omega)
 have hq1:x*most/long<=x*most:=Fdj _ hp0
 have hq0:0<=x*most/long:=Fcb hp0 (by omega)
 have w1:IntKind.u64.wrap most=most:=jm (by omega) (by omega)
 have w2:IntKind.u64.wrap long=long:=jm (by omega) (by omega)
 refine Qa (c:=cfg 24) zb Tryz.func91 ?_
 refine Vx c (by omega) _ _ ?_
 rw[<-hx]
 show ACalls _ _ [u64 x,u64 (IntKind.u64.wrap most)] _ _
 rw[w1]
 refine Ma x most hx0.1 (by omega) hm.1 (by omega) _ _ ?_
 show ACalls _ _ [.agg (xk (x*most)),u64 (IntKind.u64.wrap long)] _ _
 rw[w2]
 refine zwo _ _ hp0 (by omega) hl.1 hl.2 _ _ (λz=>?_)
 refine zoo _ hq0 (by omega) (decide (c<0)) _ _ ?_
 unfold Dt at h
 by_cases c1:c<0
 ·rw[if_pos (decide_eq_true c1)]
  rw[if_pos c1]at h hasz
  rw[<-hasz,<-hx]at h
  exact ret h
 ·rw[if_neg (by rw[decide_eq_false c1];decide)]
  rw[if_neg c1]at h hasz
  rw[hx,hasz]
  exact ret h
theorem Mr(v:Vc)(most:Int)(hv:vq v)(hm:-9223372036854775808<=most/\most<=1048576)(st:Store)(R:Ja)(h:R (.agg (zo (xh v most))) st):
  Jb 48 [.agg (zo v),int most] st R:=by
 have hn:=fk hv
 have hsq:=(D7 (Cm hv)).2.2.1
 have hri:=F6 hsq
 have e1:nrm v.1=v.1:=congrArg Prod.fst hn
 have e2:nrm v.2=v.2:=congrArg Prod.snd hn
 unfold xh at h
 rw[hn,e1,e2]at h
 obtain⟨r0,r1,_,_⟩:=hri
 have key:∀m:Int,m=max most 0->0<=m/\m<=1048576:=λm e=>by omega
 refine Qa (c:=cfg 32) zb Tryz.func48 ?_
 refine Qc zb zqh ?_
 refine⟨Fa v.1 _ _ ⟨Qe,?_⟩,Tv⟩
 refine⟨Fa v.2 _ _ ⟨Qe,?_⟩,Tv⟩
 refine Qbk ?_
 rw[e1,e2]
 have rest:=λ(m:Int) (hm:m=max most 0)=>key m hm
 refine bcd (λc0=>?_) (λc0=>?_)
 ·have hm0:(0:Int)=max most 0:=by omega
  have hmx:=rest 0 hm0
  rw[<-hm0]at h
  refine O9 v (Va hv) _ _ (λr hr=>?_)
  have hr:=Mm hsq hr
  subst hr
  generalize jb (sqr v)=L at*
  refine bcd (λc1=>?_) (λc1=>?_)
  ·rw[if_pos c1]at h
   exact ret h
  rw[if_neg c1]at h
  refine Qc zb ly ?_
  refine⟨O6 v.1 0 L hv.1 hmx (by omega) _ _ ⟨Qe,?_⟩,Tv⟩
  refine⟨O6 v.2 0 L hv.2 hmx (by omega) _ _ ⟨Qe,?_⟩,Tv⟩
  refine Qbk ?_
  exact ret h
 ·have hm0:most=max most 0:=by omega
  have hmx:=rest most hm0
  rw[<-hm0]at h
  refine O9 v (Va hv) _ _ (λr hr=>?_)
  have hr:=Mm hsq hr
  subst hr
  generalize jb (sqr v)=L at*
  refine bcd (λc1=>?_) (λc1=>?_)
  ·rw[if_pos c1]at h
   exact ret h
  rw[if_neg c1]at h
  refine Qc zb ly ?_
  refine⟨O6 v.1 most L hv.1 hmx (by omega) _ _ ⟨Qe,?_⟩,Tv⟩
  refine⟨O6 v.2 most L hv.2 hmx (by omega) _ _ ⟨Qe,?_⟩,Tv⟩
  refine Qbk ?_
  exact ret h
theorem Vw(p q:Vc)(s:Int)(hp:xc p)(hq:xc q)(hs:0<=s/\s<=1048576)(st:Store)(R:Ja)(h:R (.agg (zo (Am p q s))) st):Jb 54 [.agg (zo p),.agg (zo q),int s] st R:=by
 refine Qa (c:=cfg 12) zb Tryz.func54 ?_
 refine Mi q p (vy hq) (vy hp) _ _ ?_
 refine Mr _ s (H0 hp hq) (by omega) _ _ ?_
 exact ret h
theorem H3{v:Vc}{m:Int}(hs:vq v):(xh v m).ok:=by
 by_cases hm:0<=m
 ·have:=(Rv (Cm hs) hm).1
  unfold vd at this
  exact⟨⟨by omega,by omega⟩,⟨by omega,by omega⟩⟩
 ·have e:xh v m=xh v 0:=by
   unfold xh
   rw[show max m 0=max 0 0 by omega]
  rw[e]
  have:=(Rv (Cm hs) (Fcn 0)).1
  unfold vd at this
  exact⟨⟨by omega,by omega⟩,⟨by omega,by omega⟩⟩
theorem Qag{p:Prop}(h:p:=by repeat(first|exact Tv|refine⟨rfl,?_⟩|refine⟨⟨0,rfl,za _ rfl rfl⟩,?_⟩)):p:=h
theorem Sq{x:Vc}(h:vd x):q9 (0,0) x=x:=by
 unfold vd at h
 unfold q9
 rw[Ix (by omega) (by omega),Ix (by omega) (by omega)]
 simp
theorem Sm{v:Vc}{m:Int}(hs:vq v):vd (xh v m):=by
 by_cases hm:0<=m
 ·exact(Rv (Cm hs) hm).1
 ·have e:xh v m=xh v 0:=by
   unfold xh
   rw[show max m 0=max 0 0 by omega]
  rw[e]
  exact(Rv (Cm hs) (Fcn 0)).1
def n9(p:Vc)(r:Int)(q:Vc):Nat->Vc
 |0=>(0,0)
 |_=>ju p r q
theorem ztc(p:Vc)(r:Int)(q:Vc)(hp:xc p)(hq:xc q)(hr:0<=r/\r<=1048576)(st:Store)(R:Ja)(h:R (.agg (zo (ju p r q))) st):
  Jb 92 [.agg (zo p),int r,lst 2 zo [q]] st R:=by
 have ht:=H0 hq hp
 have hsq:=(D7 (Cm ht)).2.2.1
 have hr0:=mw ht
 have harg:=n8 hp hq
 have hri:=F6 hsq
 refine Qa (c:=cfg 50) zb Tryz.func92 ?_
 refine AWp.loop (σ:=Nat) ⟨λi=>[(1,.av (int r)),(2,.av (lst 2 zo [q])),(3,.bx 3 0),(6,.bx 6 0),(7,.bx 7 0),(8,.av (int (i:Nat)))],λi=>[(3,zo p),(6,[int 0,int 0]),(7,zo (n9 p r q i))],
  λi st'=>i<=1/\st'=st,λi=>1-i⟩ zb ?_ ?_
 ·exact⟨0,Tv,⟨Fag _,rfl⟩,Qbh,⟨rfl,rfl,rfl,Tv⟩⟩
 rintro i st' ⟨hi,rfl⟩
 have hi2:i=0\/i=1:=by omega
 rcases hi2 with rfl|rfl
 rotate_left
 ·exact ret h
 have next:∀x:Vc,x=ju p r q->∃k:Nat,1-k<1-0/\(k<=1/\st'=st')/\k=1/\zo (n9 p r q k)=zo x:=λx e=>⟨1,by decide,⟨Faj _,rfl⟩,rfl,by rw[e];rfl⟩
 unfold ju at next
 refine Qc zb zo1 ?_
 refine⟨0,rfl,za _ rfl ?_⟩
 refine⟨mc p q r (vy hp) (vy hq) ⟨by omega,by omega⟩ _ _ ⟨Qe,?_⟩,Tv⟩
 refine yd ?_
 refine zh (λc1=>?_) (λc1=>?_)
 rotate_left
 ·rw[if_neg (by rw[c1];decide)]at next
  obtain⟨k,f1,f2,rfl,f3⟩:=next _ rfl
  refine Qd ?_
  exact⟨1,f1,f2,Qbh,⟨rfl,rfl,congrArg some f3.symm,Tv⟩⟩
 rw[if_pos c1]at next
 refine Qc zb zo0 ?_
 refine⟨0,rfl,za _ rfl ?_⟩
 refine⟨Mi p q (vy hp) (vy hq) _ _ ⟨Tv,⟨⟨Qag,⟨⟨Tv,?_⟩,Tv⟩⟩,Tv⟩⟩,⟨⟨Qag,⟨Mi p q (vy hp) (vy hq) _ _ ⟨Tv,⟨⟨Tv,?_⟩,Tv⟩⟩,Tv⟩⟩,Tv⟩⟩
 all_goals
  refine O9 _ (H2 p q) _ _ (λL hL=>?_)
  have hL2:=Mm hsq hL
  subst hL2
  have hLb:jb (sqr (qp p q))<=9223372036854775807-1048576-1048576:=by
   have h3:=zto (Cm ht) (m:=4398046511104) (by decide) (by
    unfold vq at ht
    have h5:(qp p q).1*(qp p q).1<=1099511627776*1099511627776:=by
     rw[Hy]
     exact Fbg (by omega) (by omega) (by omega) (by omega)
    have h6:(qp p q).2*(qp p q).2<=1099511627776*1099511627776:=by
     rw[Hy]
     exact Fbg (by omega) (by omega) (by omega) (by omega)
    omega)
   omega
  generalize jb (sqr (qp p q))=L at*
  generalize qp p q=d at*
  refine zy (λc2=>?_) (λc2=>?_)
  ·refine zy (λc3=>?_) (λc3=>?_)
   ·have e:d=(0,0):=Prod.ext c2 c3
    rw[if_pos e]at next harg
    refine Qc zb Vs ?_
    refine Qd ?_
    refine⟨Mr (65536,0) (r-L) harg (by omega) _ _ ⟨Qe,?_⟩,Tv⟩
    refine⟨Mj (0,0) _ ⟨⟨by decide,by decide⟩,⟨by decide,by decide⟩⟩ (H3 harg) _ _ ⟨Qe,?_⟩,Tv⟩
    refine Qbk ?_
    obtain⟨k,f1,f2,rfl,f3⟩:=next _ (Sq (Sm harg))
    refine Qd ?_
    exact⟨1,f1,f2,Qbh,⟨rfl,rfl,congrArg some f3.symm,Tv⟩⟩
   ·have e:¬d=(0,0):=λe=>c3 (by rw[e])
    rw[if_neg e]at next harg
    refine Qc zb Vs ?_
    refine Qd ?_
    refine⟨Mr d (r-L) harg (by omega) _ _ ⟨Qe,?_⟩,Tv⟩
    refine⟨Mj (0,0) _ ⟨⟨by decide,by decide⟩,⟨by decide,by decide⟩⟩ (H3 harg) _ _ ⟨Qe,?_⟩,Tv⟩
    refine Qbk ?_
    obtain⟨k,f1,f2,rfl,f3⟩:=next _ (Sq (Sm harg))
    refine Qd ?_
    exact⟨1,f1,f2,Qbh,⟨rfl,rfl,congrArg some f3.symm,Tv⟩⟩
  ·have e:¬d=(0,0):=λe=>c2 (by rw[e])
   rw[if_neg e]at next harg
   refine Qc zb Vs ?_
   refine Qd ?_
   refine⟨Mr d (r-L) harg (by omega) _ _ ⟨Qe,?_⟩,Tv⟩
   refine⟨Mj (0,0) _ ⟨⟨by decide,by decide⟩,⟨by decide,by decide⟩⟩ (H3 harg) _ _ ⟨Qe,?_⟩,Tv⟩
   refine Qbk ?_
   obtain⟨k,f1,f2,rfl,f3⟩:=next _ (Sq (Sm harg))
   refine Qd ?_
   exact⟨1,f1,f2,Qbh,⟨rfl,rfl,congrArg some f3.symm,Tv⟩⟩
end Go.Proofs
