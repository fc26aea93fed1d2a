/- Ground of laws of thronglaw30: contracts and plain lemmas; no condition beyond the row's own. -/
import Derived.Test.YtieceacpbjcddaaGreatKL
import Derived.Test.YtieceacpbjcddaaGreatKQ
set_option linter.unusedSimpArgs false
set_option linter.unusedVariables false
set_option linter.defProp false
namespace Go.Proofs
open Go Go.V
set_option maxRecDepth 20000
set_option maxHeartbeats 4000000
theorem zwu(g:Gnd)(hg:zp g)(t:Nat)(ht:(t:Int)<g.W*g.H)(st:Store)(R:Ja)(h:R (.agg (z6 (tx g t+32768,ty g t+32768))) st):Jb 145 [.agg (zn g),int (t:Nat)] st R:=by
 have htb:=Gj hg ht
 have hq:=Mv (t:=t) hg.1.1
 have hq2:=Mw (t:=t) hg.1.1
 have hg1:=hg.1
 have hg2:=hg.2.1
 unfold tx ty at h
 refine Qa (c:=cfg 18) zb Tryz.func145 ?_
 refine Qc zb zso ?_
 refine⟨by omega,?_⟩
 refine ze (by rw[hq];omega) ?_
 refine ze (by rw[hq];omega) ?_
 refine⟨by omega,?_⟩
 refine ze (by rw[hq2];omega) ?_
 refine ze (by rw[hq2];omega) ?_
 refine ze (by rw[hq2];omega) ?_
 refine Qar ?_
 rw[<-hq,<-hq2]at h
 exact ret h
theorem zwt(g:Gnd)(hg:zp g)(t:Nat)(ht:(t:Int)<g.W*g.H)(x:Int)(hx:x=(t:Int))(st:Store)(R:Ja)(h:R (.agg (z6 (tx g t+32768,ty g t+32768))) st):Jb 145 [.agg (zn g),int x] st R:=by
 subst hx
 exact zwu g hg t ht st R h
theorem Ob(g:Gnd)(hg:zp g)(t:Nat)(ht:t<g.T.length)(x:Int)(hx:x=(t:Int))(st:Store)(R:Ja)(h:R (.agg (z6 (qn g t))) st):Jb 145 [.agg (zn g),int x] st R:=
 zwt g hg t (by have:=qr hg;omega) x hx st R h
theorem za4(g:Gnd)(hg:zp g)(p:Vc)(h0:(0<=p.1/\p.1<g.W*65536)/\(0<=p.2/\p.2<g.H*65536))(st:Store)(R:Ja)(h:R (int (kr g p:Nat)) st):Jb 147 [.agg (zn g),.agg (z6 p)] st R:=by
 have hs:=hg.1
 have hs2:=hg.2.1
 obtain⟨e1,e2,_⟩:=et hg h0
 have ha:=qr hg
 refine Qa (c:=cfg 39) zb Tryz.func147 ?_
 refine bcd (λc1=>absurd c1 (by omega)) (λc1=>?_)
 refine Qd ?_
 refine bcd (λc1=>absurd c1 (by omega)) (λc1=>?_)
 refine bcd (λc1=>absurd c1 (by omega)) (λc1=>?_)
 refine Qd ?_
 refine bcd (λc1=>absurd c1 (by omega)) (λc1=>?_)
 have q1:p.1.tdiv 65536=p.1/65536:=Fa4 (by omega)
 have q2:p.2.tdiv 65536=p.2/65536:=Fa4 (by omega)
 have hx:0<=p.1/65536/\p.1/65536<=128:=by omega
 have hy:0<=p.2/65536/\p.2/65536<=128:=by omega
 have hm:0<=g.W*(p.2/65536)/\g.W*(p.2/65536)<=128*128:=⟨Fa1 (by omega) hy.1,Fbj hs.2 hy.2 hy.1 (by decide)⟩
 refine⟨by decide,?_⟩
 refine ze (by rw[q1];omega) ?_
 refine⟨by decide,?_⟩
 refine ze (by rw[q2];omega) ?_
 refine ze (by rw[q2];omega) ?_
 refine ze (by rw[q1,q2];omega) ?_
 rw[q1,q2,<-e1]
 exact ret h
theorem zuh{F G:Store}{s p:Nat}{w:Wld}{v:AV}{L:List Ent}{o0 o1 o2:AV}(hS:StandR F G s p w v L o0 o1 o2)(hos:Cu v s)(hr:yi w.U)(hU:w.U.length<=1000000)(hL:L.length<=1000000)(hok:∀e∈L,e.2.ok){i:Nat}(hi:i<w.U.length)(u:Unt)(hid:w.U[i].id=u.id)(hp:u.pos.ok)(R:Ja)
  (h:∀F' G',StandR F' G' s p {w with U:=w.U.set i u} v (Hh L u) o0 o1 o2->(∀q,Cu v q->G'.obj q=G.obj q)->R (.tup []) (F'.un (svS G' s {w with U:=w.U.set i u} v o0 o1 o2 p))):
  Jb 150 [ptr s,.agg (zl u)] (F.un (svS G s w v o0 o1 o2 p)) R:=by
 have hrow:RowsQ 10 zl (F.un (svS G s w v o0 o1 o2 p)) v w.U:=(R9 hS.hs hS.hu).un
 have hs0:(F.un (svS G s w v o0 o1 o2 p)).obj s=some (.cells (svC w v o0 o1 o2 p)):=zd (Ay _ _ _ _ _ _ _ _)
 rcases hS.hu with(⟨_,hl0⟩|⟨b,cap,J,rfl,ho,hc1,hc2,hc3⟩)|⟨_,_,_,hl0⟩
 ·rw[hl0]at hi;exact absurd hi (Fa7 i)
 rotate_left
 ·rw[hl0]at hi;exact absurd hi (Fa7 i)
 have hbs:b≠s:=hos b _ _ rfl (by omega)
 have hob:(F.un (svS G s w (.s (.slice (some ⟨b,0,none⟩) w.U.length cap)) o0 o1 o2 p)).obj b=some (.cells ((rws zl w.U).flatten++J)):=zd (by
  show(G.sO s _).obj b=_
  rw[zf hbs];exact ho)
 refine Qa (c:=cfg 44) zb Tryz.func150 ?_
 refine Qc zb zsg ?_
 refine za (o:=(F.un (svS G s w _ o0 o1 o2 p)).obj s) _ hs0 ?_
 refine⟨s9 hrow (by omega) hr u.id _ (λk hk z hz=>⟨Qe,?_⟩),Tv⟩
 have hki:k=i:=by
  by_cases h1:k<i
  ·have:=hk.2.2 k (by omega) (Fah _)
   have:=So hr h1 hi
   omega
  ·by_cases h2:i<k
   ·have:=hk.2.1 i hi h2;omega
   ·omega
 subst hki
 refine Qas ?_
 refine Qas ?_
 refine Qc zb zsf ?_
 refine za (o:=(F.un (svS G s w _ o0 o1 o2 p)).obj s) _ hs0 ?_
 refine⟨k,rfl,hi,?_⟩
 refine⟨?_,Tv⟩
 refine za _ rfl (qy rfl (qw (v:=.agg (zl u)) rfl rfl rfl rfl ?_))
 refine ku (i:=ti37) (v:=.agg (zl u)) (xs:=zl u) (b:=b) (o:=0+k*10) (l:=(rws zl w.U).flatten++J) rfl rfl rfl hob (by rw[Fad,Fi Cn,Cn];omega) ?_
 have e0:(F.un (svS G s w (.s (.slice (some ⟨b,0,none⟩) w.U.length cap)) o0 o1 o2 p)).sO b (.cells (zt ((rws zl w.U).flatten++J) (0+k*10) (zl u)))=F.un (svS (G.sO b (.cells ((rws zl (w.U.set k u)).flatten++J))) s {w with U:=w.U.set k u} (.s (.slice (some ⟨b,0,none⟩) w.U.length cap)) o0 o1 o2 p):=by
  rw[Fbm,ztb Cn hi u J,zo]
  unfold svS
  rw[H4 hbs]
  rfl
 rw[e0]
 have hG:∀q,q≠b->(G.sO b (.cells ((rws zl (w.U.set k u)).flatten++J))).obj q=G.obj q:=λq hq=>zf hq
 have hS':StandR F (G.sO b (.cells ((rws zl (w.U.set k u)).flatten++J))) s p {w with U:=w.U.set k u} (.s (.slice (some ⟨b,0,none⟩) w.U.length cap)) L o0 o1 o2:=by
  refine⟨hS.hc,λj h1 h2=>hS.hd j h1 (svS_has.2 ?_),?_,.inl (.inr ⟨b,cap,J,by rw[Faw],zc _ _ _,by rw[Faw];exact hc1,by rw[Faw];exact hc2,hc3⟩),hS.h0,hS.h1,hS.h2⟩
  ·rcases svS_has.1 h2 with h2|h2
   ·exact .inl h2
   ·rcases has_setObj_iff.1 h2 with rfl|h2
    ·exact .inr (k9 ho)
    ·exact .inr h2
  ·rw[hG s (Ne.symm hbs)];exact hS.hs
 have hoffG:∀q,Cu (.s (.slice (some ⟨b,0,none⟩) w.U.length cap)) q->(G.sO b (.cells ((rws zl (w.U.set k u)).flatten++J))).obj q=G.obj q:=λq hq=>hG q (Ne.symm (hq b _ _ rfl (by omega)))
 generalize G.sO b _=G1 at hS' hoffG⊢
 have hs1:(F.un (svS G1 s {w with U:=w.U.set k u} (.s (.slice (some ⟨b,0,none⟩) w.U.length cap)) o0 o1 o2 p)).obj s=some (.cells (svC w (.s (.slice (some ⟨b,0,none⟩) w.U.length cap)) o0 o1 o2 p)):=zd (Ay _ _ _ _ _ _ _ _)
 refine⟨Tv,?_⟩
 refine qf (λc1=>?_) (λc1=>?_)
 ·refine Qc zb zse ?_
  refine za (o:=(F.un (svS G1 s _ _ o0 o1 o2 p)).obj s) _ hs1 ?_
  refine⟨bq hS'.hc hS'.hd (by omega) hok u.id u.pos hp _ (λF2 h2 h3=>⟨Tv,?_⟩),Tv⟩
  have e9:Hh L u=yz L u.id++[(u.id,u.pos)]:=if_pos c1
  exact ret (h F2 G1 ⟨by rw[e9];exact h2,h3,hS'.hs,hS'.hu,hS'.h0,hS'.h1,hS'.h2⟩ hoffG)
 ·refine Qc zb zsd ?_
  refine za (o:=(F.un (svS G1 s _ _ o0 o1 o2 p)).obj s) _ hs1 ?_
  refine⟨ydb hS'.hc hS'.hd (by omega) hok u.id _ (λF2 h2 h3=>⟨Tv,?_⟩),Tv⟩
  have e9:Hh L u=yz L u.id:=if_neg c1
  exact ret (h F2 G1 ⟨by rw[e9];exact h2,h3,hS'.hs,hS'.hu,hS'.h0,hS'.h1,hS'.h2⟩ hoffG)
theorem ztg(m:Int)(hm:0<=m)(st:Store)(R:Ja)(h:∀r,Dv m r->R (int r) st):Jb 311 [.agg (kl m)] st R:=by
 refine Qa (c:=cfg 22) zb Tryz.func311 ?_
 refine AWp.loop (σ:=Nat×Int) ⟨λx=>[(1,.bx 1 0),(3,.av (u64 x.2)),(4,.av (int ((x.1:Int)-1)))],λ_=>[(1,kl m)],
  λx st'=>x.1<=63/\st'=st/\Fj m x.2 x.1,λx=>x.1⟩ zb ?_ ?_
 ·exact⟨(63,0),Tv,⟨Fah _,rfl,ztj hm⟩,Qao,⟨rfl,Tv⟩⟩
 rintro⟨k,r⟩ st' ⟨hk,rfl,hr⟩
 dsimp only at hk hr⊢
 refine bcd (λh1=>?_) (λh1=>?_)
 rotate_left
 ·have:k=0:=by omega
  subst this
  have hi:=ztl hr
  have h2:=h r hi
  have hi0:=hi.1
  exact⟨⟨by omega,hi.2.1⟩,ret h2⟩
 cases k with
 |zero=>omega
 |succ k=>
  obtain⟨e1,e2,e3,e4⟩:=ztm hr
  have e5:((k+1:Nat):Int)-1=(k:Int):=by omega
  refine⟨by omega,?_⟩
  have e7:vd .or .u64 r (IntKind.u64.wrap (1*2^(min (((k+1:Nat):Int)-1).toNat IntKind.u64.bits)))=r+2^k:=by rw[e5,zp8 (by omega),e1]
  have e8:∀X,X=r+2^k->0<=X/\X<18446744073709551616/\0<=X*X:=λX hX=>by subst hX;exact⟨by omega,by omega,Fa1 (by omega) (by omega)⟩
  have e8:=e8 _ e7
  refine Qc zb zre ?_
  refine⟨O0 _ e8.1 e8.2.1 _ _ ⟨Qe,?_⟩,Tv⟩
  refine⟨s7 m _ hm e8.2.2 _ _ ⟨Qe,?_⟩,Tv⟩
  have no:=λhh=>ztk hr hh
  have yes:=λhh=>zti hr hh
  rw[<-e7]at no yes
  generalize vd .or .u64 r (IntKind.u64.wrap (1*2^(min (((k+1:Nat):Int)-1).toNat IntKind.u64.bits)))=X at*
  refine yp ?_
  refine bcd (λc1=>?_) (λc1=>?_)
  ·refine⟨by unfold zy;omega,?_⟩
   refine⟨(k,r),?_,⟨by dsimp only;omega,rfl,no c1⟩,⟨Tq,Tq,?_,Tv⟩,⟨rfl,Tv⟩⟩
   ·show k<k+1
    omega
   ·rw[e5];exact Tq
  ·refine⟨by unfold zy;omega,?_⟩
   refine⟨(k,X),?_,⟨by dsimp only;omega,rfl,yes (by omega)⟩,⟨Tq,Tq,?_,Tv⟩,⟨rfl,Tv⟩⟩
   ·show k<k+1
    omega
   ·rw[e5];exact Tq
theorem nf(v:Vc)(hv:v.ok)(st:Store)(R:Ja)(h:∀r,Dv (sqr v) r->R (int r) st):Jb 231 [.agg (z6 v)] st R:=by
 have hb:=Se hv
 refine Qa (c:=cfg 6) zb Tryz.func231 ?_
 refine fq v hv _ _ ?_
 refine ztg (sqr v) (by unfold sqr;omega) _ _ (λr hr=>?_)
 exact ret (h r hr)
theorem df(v:Vc)(st:Store)(R:Ja)(h:R (.agg (z6 (jf v))) st):Jb 232 [.agg (z6 v)] st R:=by
 refine Qa (c:=cfg 10) zb Tryz.func232 ?_
 refine Qc zb zrw ?_
 refine⟨Gz v.1 _ _ ⟨Qe,?_⟩,Tv⟩
 refine⟨Gz v.2 _ _ ⟨Qe,?_⟩,Tv⟩
 refine Qar ?_
 exact ret h
theorem dm(a b:Vc)(ha:a.ok)(hb:b.ok)(st:Store)(R:Ja)(h:R (.agg (z6 (xp a b))) st):Jb 141 [.agg (z6 a),.agg (z6 b)] st R:=by
 refine Qa (c:=cfg 16) zb Tryz.func141 ?_
 refine Qc zb zst ?_
 refine⟨Gb a.1 b.1 ha.1 hb.1 _ _ ⟨Qe,?_⟩,Tv⟩
 refine⟨Gb a.2 b.2 ha.2 hb.2 _ _ ⟨Qe,?_⟩,Tv⟩
 refine Qar ?_
 exact ret h
theorem ybx(lo y:Int)(h0:0<=lo)(h1:lo<18446744073709551616)(h2:0<y)(h3:y<18446744073709551616)(st:Store)(R:Ja)(h:R (.tup [u64 (lo/y),u64 (lo%y)]) st):Jb 313 [u64 0,u64 lo,u64 y] st R:=by
 have e1:lo.tdiv y=lo/y:=Fa4 h0
 have e2:lo.tmod y=lo%y:=Int.tmod_eq_emod_of_nonneg h0
 have b1:lo/y<=lo:=Int.ediv_le_self _ h0
 have b0:0<=lo/y:=Fci h0 (by omega)
 have w:IntKind.u64.wrap (lo.tdiv y)=lo/y:=by rw[e1];exact Dk b0 (by omega)
 refine Qa (c:=cfg 135) zb Tryz.func313 ?_
 refine qf (λc1=>absurd c1 (by omega)) (λc1=>?_)
 refine bcd (λc2=>absurd c2 (by omega)) (λc2=>?_)
 refine Qc zb zrd ?_
 refine⟨by omega,?_⟩
 refine⟨by omega,?_⟩
 refine⟨⟨Qe,⟨⟨Tv,?_⟩,Tv⟩⟩,Tv⟩
 rw[w,e2]
 exact ret h
theorem nrm_lt{n:Int}:nrm n<0↔n<0:=by unfold nrm;split<;>omega
theorem yd2{c:Int}(h:-4611686018427387904<=c/\c<=4611686018427387904):asz c=if c<0 then -c else c:=by
 unfold asz
 rw[Cw (by omega)]
theorem ln(c most long:Int)(hc:-1099511627776<=c/\c<=1099511627776)(hm:0<=most/\most<=1048576)(hl:0<long/\long<9223372036854775808)(st:Store)(R:Ja)(h:R (int (D4 c most long)) st):
  Jb 233 [int c,int most,int long] st R:=by
 have hasz:=yd2 (c:=c) (by omega)
 obtain⟨x,hx⟩:∃x,x=asz c:=⟨_,rfl⟩
 have hx0:0<=x/\x<=1099511627776:=by rw[hx,hasz];split<;>omega
 have hp0:0<=x*most:=Fa1 hx0.1 hm.1
 have hp1:x*most<=1099511627776*1048576:=Fbj hx0.2 hm.2 hm.1 (by omega)
 have hq1:x*most/long<=x*most:=Int.ediv_le_self _ hp0
 have hq0:0<=x*most/long:=Fci hp0 (by omega)
 have w1:IntKind.u64.wrap most=most:=Dk (by omega) (by omega)
 have w2:IntKind.u64.wrap long=long:=Dk (by omega) (by omega)
 refine Qa (c:=cfg 39) zb Tryz.func233 ?_
 refine cn c ⟨by omega,by omega⟩ _ _ ?_
 rw[<-hx]
 show ACalls _ _ [u64 x,u64 (IntKind.u64.wrap most)] _ _
 rw[w1]
 refine Vr x most hx0.1 (by omega) hm.1 (by omega) _ _ ?_
 have e2:kl (x*most)=[u64 0,u64 (x*most)]:=by
  unfold kl
  rw[Fc5 hp0 (by omega),Fdv hp0 (by omega)]
 rw[e2]
 show ACalls _ _ [u64 0,u64 (x*most),u64 (IntKind.u64.wrap long)] _ _
 rw[w2]
 refine ybx _ _ hp0 (by omega) hl.1 (by omega) _ _ ?_
 unfold D4 at h
 refine bcd (λc1=>?_) (λc1=>?_)
 ·have c1:=nrm_lt.1 c1
  rw[if_pos c1]at h
  rw[if_pos c1]at hasz
  refine Qd ?_
  refine Qd ?_
  have e:0-x*most/long=-(-c*most/long):=by rw[hx,hasz];omega
  rw[e]
  exact ret h
 ·have c1:¬c<0:=λhh=>c1 (nrm_lt.2 hh)
  rw[if_neg c1]at h
  rw[if_neg c1]at hasz
  refine Qd ?_
  rw[hx,hasz]
  exact ret h
theorem zam{v:Vc}(h:vo v):jf v=v:=(Gm (Gi h)).2.1
theorem Pm(v:Vc)(most:Int)(hv:vo v)(hm:-9223372036854775808<=most/\most<=1048576)(st:Store)(R:Ja)(h:R (.agg (z6 (xo v most))) st):
  Jb 144 [.agg (z6 v),int most] st R:=by
 have hn:=zam hv
 have hsq:=(Gm (Gi hv)).2.2.1
 have hri:=H8 hsq
 unfold xo at h
 rw[<-max2_eq]at h
 have hmx:0<=max2 most 0/\max2 most 0<=1048576:=by rw[max2_eq];omega
 obtain⟨r0,r1,_,_⟩:=hri
 refine Qa (c:=cfg 27) zb Tryz.func144 ?_
 refine df v _ _ ?_
 rw[hn]at h⊢
 refine nf v (zbp hv) _ _ (λr hr=>?_)
 have hr:=ib hsq hr
 subst hr
 generalize max2 most 0=m at*
 generalize jb (sqr v)=L at*
 refine bcd (λc1=>?_) (λc1=>?_)
 ·rw[if_pos c1]at h
  exact ret h
 rw[if_neg c1]at h
 have e1:nrm v.1=v.1:=congrArg Prod.fst hn
 have e2:nrm v.2=v.2:=congrArg Prod.snd hn
 rw[e1,e2]at h
 refine Qc zb zsp ?_
 refine⟨ln v.1 m L hv.1 hmx (by omega) _ _ ⟨Qe,?_⟩,Tv⟩
 refine⟨ln v.2 m L hv.2 hmx (by omega) _ _ ⟨Qe,?_⟩,Tv⟩
 refine Qar ?_
 exact ret h
theorem zbk(p q:Vc)(s:Int)(hp:qp p)(hq:qp q)(hs:0<=s/\s<=1048576)(st:Store)(R:Ja)(h:R (.agg (z6 (Hw p q s))) st):Jb 151 [.agg (z6 p),.agg (z6 q),int s] st R:=by
 have hp':p.ok:=by unfold qp at hp;exact⟨⟨by omega,by omega⟩,⟨by omega,by omega⟩⟩
 have hq':q.ok:=by unfold qp at hq;exact⟨⟨by omega,by omega⟩,⟨by omega,by omega⟩⟩
 refine Qa (c:=cfg 12) zb Tryz.func151 ?_
 refine Rn q p hq' hp' _ _ ?_
 refine Pm _ s (Mo hp hq) (by omega) _ _ ?_
 exact ret h
theorem K5(a b:Int×Int)(st:Store)(R:Ja)(h:∀z:Bool,(z=true↔qlt a b)->R (bool z) st):Jb 458 [.agg (itC a),.agg (itC b)] st R:=by
 refine Qa (c:=cfg 24) zb Tryz.func458 ?_
 repeat' (first|refine bcd (λ_=>?_) (λ_=>?_)|refine zi (λ_=>?_) (λ_=>?_)|refine Qd ?_|fail)
 all_goals
  refine ret (h _ ?_)
  unfold qlt
  simp only[decide_eq_true_eq,decide_eq_false_iff_not,Fai,false_iff,true_iff,beq_iff_eq,bne_iff_ne,beq_eq_false_iff_ne,ne_eq,reduceCtorEq]at*
  omega
theorem zue(S:Store)(R:Ja)(h:∀p,Fresh S p->R (ptr p) (S.sO p (.cells [.s (.slice none 0 0)]))):Jb 454 [] S R:=by
 refine Qa (c:=cfg 3 [2] []) zb Tryz.func454 ?_
 intro p hp
 exact ret (h p hp)
theorem zt6{F:Store}{p:Nat}{l:List (Int×Int)}(hq:QOf F p l)(hl:l.length<=1000000)(hh:jq l)(x:Int×Int)(R:Ja)
  (h:∀F' l',QOf F' p l'->jq l'->l'.Perm (x::l)->R (.tup []) F'):Jb 455 [ptr p,int x.1,int x.2] F R:=by
 obtain⟨v,hp,hr,hne⟩:=hq.rows
 refine Qa (c:=cfg 74) zb Tryz.func455 ?_
 refine Qat ?_
 refine⟨by decide,?_⟩
 refine yd9 (ie:=ti506) rfl Hc (by decide) hr x rfl (by omega) (λb cap L q1 q2 q3 q4=>?_)
 have hbp:b≠p:=by
  rcases q1 with q1|⟨c0,q1⟩
  ·exact λe=>by have:=q1.1;rw[e,hp]at this;cases this
  ·exact hne b c0 q1
 have hp2:(F.sO b (.cells ((rws itC (l++[x])).flatten++L))).obj p=some (.cells [v]):=by rw[zf (Ne.symm hbp)];exact hp
 refine Bs (i:=ti503) (v:=.s (.slice (some ⟨b,0,none⟩) (l++[x]).length cap)) (b:=p) (o:=0) (l:=[v]) rfl rfl rfl hp2 (Fah 1) ?_
 have hQ:QAt ((F.sO b (.cells ((rws itC (l++[x])).flatten++L))).sO p (.cells (zt [v] 0 [.s (.slice (some ⟨b,0,none⟩) (l++[x]).length cap)]))) p b cap (l++[x]) L:=
  ⟨zc _ _ _,by rw[zf hbp];exact zc _ _ _,hbp,q2,q3,q4⟩
 have hU:=zt8 hh x
 have hP:=zt7 l x
 have hlen:(l++[x]).length=l.length+1:=by simp
 generalize hm:l++[x]=m at hQ hU hP hlen⊢
 generalize(F.sO b (.cells ((rws itC m).flatten++L))).sO p _=F1 at hQ⊢
 refine za (o:=F1.obj p) _ hQ.hp ?_
 refine Qd ?_
 refine AWp.loop (σ:=Nat×Store×List (Int×Int)) ⟨λq=>[(0,.av (ptr p)),(6,.av (int (q.1:Nat)))],λ_=>[],
  λq st'=>st'=q.2.1/\QAt q.2.1 p b cap q.2.2 L/\UpF (qat q.2.2) q.2.2.length q.1/\q.2.2.Perm (x::l)/\q.2.2.length=l.length+1/\q.1<q.2.2.length,λq=>q.1⟩ zb ?_ ?_
 ·refine⟨(l.length,F1,m),Tv,⟨rfl,hQ,hU,hP,hlen,by dsimp only;omega⟩,⟨Tq,?_,Tv⟩,Tv⟩
  show LV.le (.av (int ((m.length:Int)-1))) (.av (int (l.length:Nat)))
  rw[show(m.length:Int)-1=(l.length:Nat) by omega]
  exact Tq
 rintro⟨i,F2',m2⟩ F2 ⟨rfl,hQ,hU,hP,hlen,hi⟩
 dsimp only at hQ hU hP hlen hi⊢
 refine bcd (λc1=>?_) (λc1=>?_)
 rotate_left
 ·have:i=0:=by omega
  subst this
  exact ret (h F2 m2 (.inr ⟨b,cap,L,hQ⟩) (iw hU (.inl rfl)) hP)
 have hpar:((i:Int)-1).tdiv 2=(par i:Nat):=by
  unfold par
  rw[Fa4 (by omega)]
  omega
 have hpl:par i<m2.length:=by have:=Ad (show 0<i by omega);omega
 refine Qd ?_
 refine⟨by decide,?_⟩
 refine ze (by rw[hpar];omega) ?_
 refine Qc zb zq5 ?_
 refine za (o:=F2.obj p) _ hQ.hp ?_
 refine⟨i,rfl,hi,?_⟩
 refine za (o:=F2.obj b) _ hQ.hb ?_
 refine xm (i:=ti506) (row:=itC (qat m2 i)) rfl rfl (jm hi) ?_
 refine za (o:=F2.obj p) _ hQ.hp ?_
 refine⟨par i,hpar,hpl,?_⟩
 refine za (o:=F2.obj b) _ hQ.hb ?_
 refine xm (i:=ti506) (row:=itC (qat m2 (par i))) rfl rfl (jm hpl) ?_
 refine⟨K5 _ _ _ _ (λz hz=>⟨Tv,?_⟩),Tv⟩
 refine yp ?_
 refine zi (λc2=>?_) (λc2=>?_)
 rotate_left
 ·exact ret (h F2 m2 (.inr ⟨b,cap,L,hQ⟩) (iw hU (.inr λhh=>by rw[hz.2 hh]at c2;cases c2)) hP)
 obtain⟨hU2,hP2⟩:=zt5 hU (by omega) hi (hz.1 c2)
 have hS1:=hQ.set hi (qat m2 (par i))
 have hpl2:par i<(m2.set i (qat m2 (par i))).length:=by rw[Faw];exact hpl
 have hS2:=hS1.set hpl2 (qat m2 i)
 refine Qc zb zq4 ?_
 refine za (o:=F2.obj p) _ hQ.hp ?_
 refine za (o:=F2.obj p) _ hQ.hp ?_
 refine za (o:=F2.obj p) _ hQ.hp ?_
 refine⟨par i,hpar,hpl,?_⟩
 refine za (o:=F2.obj b) _ hQ.hb ?_
 refine xm (i:=ti506) (row:=itC (qat m2 (par i))) rfl rfl (jm hpl) ?_
 refine za (o:=F2.obj p) _ hQ.hp ?_
 refine⟨i,rfl,hi,?_⟩
 refine za (o:=F2.obj b) _ hQ.hb ?_
 refine xm (i:=ti506) (row:=itC (qat m2 i)) rfl rfl (jm hi) ?_
 refine⟨i,rfl,hi,?_⟩
 refine⟨?_,Tv⟩
 refine za _ rfl (qy rfl (qw (v:=.agg (itC (qat m2 (par i)))) rfl rfl rfl rfl ?_))
 refine ku (i:=ti506) (xs:=itC (qat m2 (par i))) rfl rfl rfl hQ.hb (Du hi _) ?_
 refine⟨Tv,?_⟩
 refine⟨par i,hpar,hpl,?_⟩
 refine⟨?_,Tv⟩
 refine za _ rfl (qy rfl (qw (v:=.agg (itC (qat m2 i))) rfl rfl rfl rfl ?_))
 refine ku (i:=ti506) (xs:=itC (qat m2 i)) rfl rfl rfl hS1.hb (Du hpl2 _) ?_
 refine⟨Tv,?_⟩
 have hlen2:(ji m2 i (par i)).length=m2.length:=Hz _ _ _
 refine⟨(par i,_,ji m2 i (par i)),?_,⟨rfl,hS2,hU2,hP2.trans hP,by dsimp only;omega,by dsimp only;omega⟩,⟨Tq,?_,Tv⟩,Tv⟩
 ·show par i<i
  exact Ad (by omega)
 ·rw[hpar];exact Tq
theorem LV.le_int{a b:Int}(h:a=b):LV.le (.av (int a)) (.av (int b)):=by subst h;exact Tq
theorem zt9{F:Store}{p:Nat}{l:List (Int×Int)}(hq:QOf F p l)(hl:l.length<=1000000)(hh:jq l)(R:Ja)
  (h0:l=[]->R (.tup [int 0,int 0,V.bool false]) F)
  (h1:0<l.length->∀F' l',QOf F' p l'->jq l'->l.Perm (qat l 0::l')->R (.tup [int (qat l 0).1,int (qat l 0).2,V.bool true]) F'):Jb 456 [ptr p] F R:=by
 by_cases hz:l.length=0
 ·have hnil:l=[]:=Fat hz
  obtain⟨v,hp,hr,hne⟩:=hq.rows
  have hv:∃a c,v=.s (.slice a 0 c):=by
   rcases hr with⟨rfl,_⟩|⟨b,cap,L,rfl,_⟩
   ·exact⟨_,_,rfl⟩
   ·exact⟨_,_,by rw[hz]⟩
  obtain⟨a,c,rfl⟩:=hv
  refine Qa (c:=cfg 121) zb Tryz.func456 ?_
  refine Qat ?_
  refine Qd ?_
  exact ret (h0 hnil)
 obtain⟨b,cap,L,hQ⟩:=hq.pos (by omega)
 obtain⟨n,hn⟩:∃n,l.length=n+1:=⟨l.length-1,by omega⟩
 have hc1:=hQ.h1
 have h0l:0<l.length:=by omega
 have hnl:n<l.length:=by omega
 have hnI:(l.length:Int)-1=(n:Nat):=by omega
 refine Qa (c:=cfg 121) zb Tryz.func456 ?_
 refine za (o:=F.obj p) _ hQ.hp ?_
 refine Qd ?_
 refine bcd (λc1=>absurd c1 (by omega)) (λc1=>?_)
 refine za (o:=F.obj p) _ hQ.hp ?_
 refine⟨0,rfl,h0l,?_⟩
 refine za (o:=F.obj b) _ hQ.hb ?_
 refine xm (i:=ti506) (row:=itC (qat l 0)) rfl rfl (jm h0l) ?_
 refine Qc zb zq2 ?_
 refine za (o:=F.obj p) _ hQ.hp ?_
 refine za (o:=F.obj p) _ hQ.hp ?_
 refine⟨n,hnI,hnl,?_⟩
 refine za (o:=F.obj b) _ hQ.hb ?_
 refine xm (i:=ti506) (row:=itC (qat l n)) rfl rfl (jm hnl) ?_
 refine⟨0,rfl,h0l,?_⟩
 refine⟨?_,Tv⟩
 refine za _ rfl (qy rfl (qw (v:=.agg (itC (qat l n))) rfl rfl rfl rfl ?_))
 refine ku (i:=ti506) (xs:=itC (qat l n)) rfl rfl rfl hQ.hb (Du h0l _) ?_
 refine⟨Tv,?_⟩
 have hQ1:=hQ.set h0l (qat l n)
 have hls:(l.set 0 (qat l n)).length=n+1:=by rw[Faw];exact hn
 refine za _ hQ1.hp ?_
 refine⟨0,n,rfl,hnI,Faf _,by omega,.inl ⟨by omega,?_⟩⟩
 refine Bs (i:=ti503) (v:=.s (.slice (some ⟨b,0,none⟩) n cap)) (b:=p) (o:=0) (l:=[.s (.slice (some ⟨b,0,none⟩) (l.set 0 (qat l n)).length cap)]) rfl rfl rfl hQ1.hp (Fah 1) ?_
 have hQ2:=hQ1.cut (n:=n) (by omega)
 have hD:=zuc hn hh
 have hpm:=zua hn
 have hln:((l.set 0 (qat l n)).take n).length=n:=by rw[Fal];omega
 have hfin:∀F' l',QOf F' p l'->jq l'->l'.Perm ((l.set 0 (qat l n)).take n)->R (.tup [int (qat l 0).1,int (qat l 0).2,V.bool true]) F':=λF' l' g1 g2 g3=>h1 h0l F' l' g1 g2 (hpm.trans (List.Perm.cons _ g3.symm))
 generalize(rws itC ((l.set 0 (qat l n)).drop n)).flatten++L=L2 at hQ2
 generalize((l.set 0 (qat l n)).take n)=m0 at hQ2 hD hln hfin
 refine AWp.loop (σ:=Nat×Store×List (Int×Int)) ⟨λq=>[(0,.av (ptr p)),(5,.av (int (n:Nat))),(6,.bx 6 0),(7,.av (int (q.1:Nat)))],λ_=>[(6,itC (qat l 0))],
  λq st'=>st'=q.2.1/\QAt q.2.1 p b cap q.2.2 L2/\D7 (qat q.2.2) q.2.2.length q.1/\q.2.2.Perm m0/\q.2.2.length=n/\q.1<=n,λq=>n-q.1⟩ zb ?_ ?_
 ·exact⟨(0,_,m0),Tv,⟨rfl,hQ2,hD,List.Perm.refl _,hln,Faf _⟩,⟨Tq,LV.le_int hnI,Tq,Tq,Tv⟩,⟨rfl,Tv⟩⟩
 rintro⟨i,F2',m⟩ F2 ⟨rfl,hQ,hD,hP,hlen,hin⟩
 dsimp only at hQ hD hP hlen hin⊢
 refine Qd ?_
 refine Qd ?_
 refine bcd (λc1=>?_) (λc1=>?_)
 ·have hF:=hfin F2 m (.inr ⟨b,cap,_,hQ⟩) (zud hD (by omega)) hP
  refine Qc zb M9 ?_
  refine⟨⟨⟨rfl,Tv⟩,⟨⟨Tv,⟨⟨Tv,?_⟩,Tv⟩⟩,Tv⟩⟩,Tv⟩
  exact ret hF
 have hil:i<m.length:=by omega
 refine Qc zb zq3 ?_
 refine Qd ?_
 refine bcd (λc3=>?_) (λc3=>?_)
 rotate_left
 ·refine Qas ?_
  have hkl:2*i+1<m.length:=by omega
  have hki:par (2*i+1)=i:=(K8 (by omega)).2 (.inl rfl)
  have hmin:=bj (f:=qat m) (n:=m.length) (i:=i) (k:=2*i+1) (.inl ⟨rfl,λhx=>by omega⟩)
  refine Qc zb Sj ?_
  refine za (o:=F2.obj p) _ hQ.hp ?_
  refine⟨2*i+1,by omega,hkl,?_⟩
  refine za (o:=F2.obj b) _ hQ.hb ?_
  refine xm (i:=ti506) (row:=itC (qat m (2*i+1))) rfl rfl (jm hkl) ?_
  refine za (o:=F2.obj p) _ hQ.hp ?_
  refine⟨i,rfl,hil,?_⟩
  refine za (o:=F2.obj b) _ hQ.hb ?_
  refine xm (i:=ti506) (row:=itC (qat m i)) rfl rfl (jm hil) ?_
  refine⟨K5 _ _ _ _ (λz hz=>⟨Tv,?_⟩),Tv⟩
  refine yp ?_
  refine zi (λc2=>?_) (λc2=>?_)
  rotate_left
  ·have hF:=hfin F2 m (.inr ⟨b,cap,_,hQ⟩) (Sv hD hmin (λhh=>by rw[hz.2 hh]at c2;cases c2)) hP
   refine Qc zb M9 ?_
   refine⟨⟨⟨rfl,Tv⟩,⟨⟨Tv,⟨⟨Tv,?_⟩,Tv⟩⟩,Tv⟩⟩,Tv⟩
   exact ret hF
  obtain⟨hD2,hP2⟩:=Sw hD (by omega) hkl hki hmin (hz.1 c2)
  have hS1:=hQ.set hil (qat m (2*i+1))
  have hkl2:2*i+1<(m.set i (qat m (2*i+1))).length:=by rw[Faw];exact hkl
  have hS2:=hS1.set hkl2 (qat m i)
  refine Qc zb Si ?_
  refine za (o:=F2.obj p) _ hQ.hp ?_
  refine za (o:=F2.obj p) _ hQ.hp ?_
  refine za (o:=F2.obj p) _ hQ.hp ?_
  refine⟨2*i+1,by omega,hkl,?_⟩
  refine za (o:=F2.obj b) _ hQ.hb ?_
  refine xm (i:=ti506) (row:=itC (qat m (2*i+1))) rfl rfl (jm hkl) ?_
  refine za (o:=F2.obj p) _ hQ.hp ?_
  refine⟨i,rfl,hil,?_⟩
  refine za (o:=F2.obj b) _ hQ.hb ?_
  refine xm (i:=ti506) (row:=itC (qat m i)) rfl rfl (jm hil) ?_
  refine⟨i,rfl,hil,?_⟩
  refine⟨?_,Tv⟩
  refine za _ rfl (qy rfl (qw (v:=.agg (itC (qat m (2*i+1)))) rfl rfl rfl rfl ?_))
  refine ku (i:=ti506) (xs:=itC (qat m (2*i+1))) rfl rfl rfl hQ.hb (Du hil _) ?_
  refine⟨Tv,?_⟩
  refine⟨2*i+1,by omega,hkl,?_⟩
  refine⟨?_,Tv⟩
  refine za _ rfl (qy rfl (qw (v:=.agg (itC (qat m i))) rfl rfl rfl rfl ?_))
  refine ku (i:=ti506) (xs:=itC (qat m i)) rfl rfl rfl hS1.hb (Du hkl2 _) ?_
  refine⟨Tv,?_⟩
  have hlen2:(ji m i (2*i+1)).length=m.length:=Hz _ _ _
  refine⟨(2*i+1,_,ji m i (2*i+1)),?_,⟨rfl,hS2,hD2,hP2.trans hP,by dsimp only;omega,by dsimp only;omega⟩,⟨Tq,Tq,Tq,?_,Tv⟩,⟨rfl,Tv⟩⟩
  ·show n-(2*i+1)<n-i
   omega
  ·exact LV.le_int (by omega)
 refine za (o:=F2.obj p) _ hQ.hp ?_
 refine Qd ?_
 have hkl1:2*i+2<m.length:=by omega
 have hkl0:2*i+1<m.length:=by omega
 refine⟨2*i+2,by omega,hkl1,?_⟩
 refine za (o:=F2.obj b) _ hQ.hb ?_
 refine xm (i:=ti506) (row:=itC (qat m (2*i+2))) rfl rfl (jm hkl1) ?_
 refine za (o:=F2.obj p) _ hQ.hp ?_
 refine⟨2*i+1,by omega,hkl0,?_⟩
 refine za (o:=F2.obj b) _ hQ.hb ?_
 refine xm (i:=ti506) (row:=itC (qat m (2*i+1))) rfl rfl (jm hkl0) ?_
 refine⟨K5 _ _ _ _ (λz hz1=>⟨Tv,?_⟩),Tv⟩
 refine zi (λc4=>?_) (λc4=>?_)
 ·refine Qd ?_
  have hkl:2*i+2<m.length:=hkl1
  have hki:par (2*i+2)=i:=(K8 (by omega)).2 (.inr rfl)
  have hmin:=bj (f:=qat m) (n:=m.length) (i:=i) (k:=2*i+2) (.inr ⟨rfl,hz1.1 c4⟩)
  refine Qc zb Sj ?_
  refine za (o:=F2.obj p) _ hQ.hp ?_
  refine⟨2*i+2,by omega,hkl,?_⟩
  refine za (o:=F2.obj b) _ hQ.hb ?_
  refine xm (i:=ti506) (row:=itC (qat m (2*i+2))) rfl rfl (jm hkl) ?_
  refine za (o:=F2.obj p) _ hQ.hp ?_
  refine⟨i,rfl,hil,?_⟩
  refine za (o:=F2.obj b) _ hQ.hb ?_
  refine xm (i:=ti506) (row:=itC (qat m i)) rfl rfl (jm hil) ?_
  refine⟨K5 _ _ _ _ (λz hz=>⟨Tv,?_⟩),Tv⟩
  refine yp ?_
  refine zi (λc2=>?_) (λc2=>?_)
  rotate_left
  ·have hF:=hfin F2 m (.inr ⟨b,cap,_,hQ⟩) (Sv hD hmin (λhh=>by rw[hz.2 hh]at c2;cases c2)) hP
   refine Qc zb M9 ?_
   refine⟨⟨⟨rfl,Tv⟩,⟨⟨Tv,⟨⟨Tv,?_⟩,Tv⟩⟩,Tv⟩⟩,Tv⟩
   exact ret hF
  obtain⟨hD2,hP2⟩:=Sw hD (by omega) hkl hki hmin (hz.1 c2)
  have hS1:=hQ.set hil (qat m (2*i+2))
  have hkl2:2*i+2<(m.set i (qat m (2*i+2))).length:=by rw[Faw];exact hkl
  have hS2:=hS1.set hkl2 (qat m i)
  refine Qc zb Si ?_
  refine za (o:=F2.obj p) _ hQ.hp ?_
  refine za (o:=F2.obj p) _ hQ.hp ?_
  refine za (o:=F2.obj p) _ hQ.hp ?_
  refine⟨2*i+2,by omega,hkl,?_⟩
  refine za (o:=F2.obj b) _ hQ.hb ?_
  refine xm (i:=ti506) (row:=itC (qat m (2*i+2))) rfl rfl (jm hkl) ?_
  refine za (o:=F2.obj p) _ hQ.hp ?_
  refine⟨i,rfl,hil,?_⟩
  refine za (o:=F2.obj b) _ hQ.hb ?_
  refine xm (i:=ti506) (row:=itC (qat m i)) rfl rfl (jm hil) ?_
  refine⟨i,rfl,hil,?_⟩
  refine⟨?_,Tv⟩
  refine za _ rfl (qy rfl (qw (v:=.agg (itC (qat m (2*i+2)))) rfl rfl rfl rfl ?_))
  refine ku (i:=ti506) (xs:=itC (qat m (2*i+2))) rfl rfl rfl hQ.hb (Du hil _) ?_
  refine⟨Tv,?_⟩
  refine⟨2*i+2,by omega,hkl,?_⟩
  refine⟨?_,Tv⟩
  refine za _ rfl (qy rfl (qw (v:=.agg (itC (qat m i))) rfl rfl rfl rfl ?_))
  refine ku (i:=ti506) (xs:=itC (qat m i)) rfl rfl rfl hS1.hb (Du hkl2 _) ?_
  refine⟨Tv,?_⟩
  have hlen2:(ji m i (2*i+2)).length=m.length:=Hz _ _ _
  refine⟨(2*i+2,_,ji m i (2*i+2)),?_,⟨rfl,hS2,hD2,hP2.trans hP,by dsimp only;omega,by dsimp only;omega⟩,⟨Tq,Tq,Tq,?_,Tv⟩,⟨rfl,Tv⟩⟩
  ·show n-(2*i+2)<n-i
   omega
  ·exact LV.le_int (by omega)
 ·have hkl:2*i+1<m.length:=hkl0
  have hki:par (2*i+1)=i:=(K8 (by omega)).2 (.inl rfl)
  have hmin:=bj (f:=qat m) (n:=m.length) (i:=i) (k:=2*i+1) (.inl ⟨rfl,λhx hh=>by rw[hz1.2 hh]at c4;cases c4⟩)
  refine Qc zb Sj ?_
  refine za (o:=F2.obj p) _ hQ.hp ?_
  refine⟨2*i+1,by omega,hkl,?_⟩
  refine za (o:=F2.obj b) _ hQ.hb ?_
  refine xm (i:=ti506) (row:=itC (qat m (2*i+1))) rfl rfl (jm hkl) ?_
  refine za (o:=F2.obj p) _ hQ.hp ?_
  refine⟨i,rfl,hil,?_⟩
  refine za (o:=F2.obj b) _ hQ.hb ?_
  refine xm (i:=ti506) (row:=itC (qat m i)) rfl rfl (jm hil) ?_
  refine⟨K5 _ _ _ _ (λz hz=>⟨Tv,?_⟩),Tv⟩
  refine yp ?_
  refine zi (λc2=>?_) (λc2=>?_)
  rotate_left
  ·have hF:=hfin F2 m (.inr ⟨b,cap,_,hQ⟩) (Sv hD hmin (λhh=>by rw[hz.2 hh]at c2;cases c2)) hP
   refine Qc zb M9 ?_
   refine⟨⟨⟨rfl,Tv⟩,⟨⟨Tv,⟨⟨Tv,?_⟩,Tv⟩⟩,Tv⟩⟩,Tv⟩
   exact ret hF
  obtain⟨hD2,hP2⟩:=Sw hD (by omega) hkl hki hmin (hz.1 c2)
  have hS1:=hQ.set hil (qat m (2*i+1))
  have hkl2:2*i+1<(m.set i (qat m (2*i+1))).length:=by rw[Faw];exact hkl
  have hS2:=hS1.set hkl2 (qat m i)
  refine Qc zb Si ?_
  refine za (o:=F2.obj p) _ hQ.hp ?_
  refine za (o:=F2.obj p) _ hQ.hp ?_
  refine za (o:=F2.obj p) _ hQ.hp ?_
  refine⟨2*i+1,by omega,hkl,?_⟩
  refine za (o:=F2.obj b) _ hQ.hb ?_
  refine xm (i:=ti506) (row:=itC (qat m (2*i+1))) rfl rfl (jm hkl) ?_
  refine za (o:=F2.obj p) _ hQ.hp ?_
  refine⟨i,rfl,hil,?_⟩
  refine za (o:=F2.obj b) _ hQ.hb ?_
  refine xm (i:=ti506) (row:=itC (qat m i)) rfl rfl (jm hil) ?_
  refine⟨i,rfl,hil,?_⟩
  refine⟨?_,Tv⟩
  refine za _ rfl (qy rfl (qw (v:=.agg (itC (qat m (2*i+1)))) rfl rfl rfl rfl ?_))
  refine ku (i:=ti506) (xs:=itC (qat m (2*i+1))) rfl rfl rfl hQ.hb (Du hil _) ?_
  refine⟨Tv,?_⟩
  refine⟨2*i+1,by omega,hkl,?_⟩
  refine⟨?_,Tv⟩
  refine za _ rfl (qy rfl (qw (v:=.agg (itC (qat m i))) rfl rfl rfl rfl ?_))
  refine ku (i:=ti506) (xs:=itC (qat m i)) rfl rfl rfl hS1.hb (Du hkl2 _) ?_
  refine⟨Tv,?_⟩
  have hlen2:(ji m i (2*i+1)).length=m.length:=Hz _ _ _
  refine⟨(2*i+1,_,ji m i (2*i+1)),?_,⟨rfl,hS2,hD2,hP2.trans hP,by dsimp only;omega,by dsimp only;omega⟩,⟨Tq,Tq,Tq,?_,Tv⟩,⟨rfl,Tv⟩⟩
  ·show n-(2*i+1)<n-i
   omega
  ·exact LV.le_int (by omega)
theorem Ca{p:Vc}(h:qp p):p.ok:=by
 unfold qp at h
 exact⟨⟨by omega,by omega⟩,⟨by omega,by omega⟩⟩
theorem zut{p q:Vc}(hp:qp p)(hq:qp q):vo (if qo p q=(0,0)then(65536,0)else qo p q):=by
 split
 ·unfold vo;decide
 ·exact Mo hq hp
theorem zth{v:Vc}(h:vo v):0<=jb (sqr v):=(H8 (Gm (Gi h)).2.2.1).1
theorem zp9(p:Vc)(r:Int)(q:Vc)(hp:qp p)(hq:qp q)(hr:0<=r/\r<=1048576)(st:Store)(R:Ja)(h:R (.agg (z6 (ky p r q))) st):
  Jb 142 [.agg (z6 p),int r,.agg (z6 q)] st R:=by
 have ht:=Mo hq hp
 have hsq:=(Gm (Gi ht)).2.2.1
 have hr0:=zth ht
 have harg:=zut hp hq
 have hri:=H8 hsq
 unfold ky at h
 refine Qa (c:=cfg 29) zb Tryz.func142 ?_
 refine Mn p q r (Ca hp) (Ca hq) (by omega) _ _ ?_
 refine yp ?_
 refine zi (λc1=>?_) (λc1=>?_)
 rotate_left
 ·rw[if_neg (by rw[c1];decide)]at h
  exact ret h
 rw[if_pos c1]at h
 refine Rn p q (Ca hp) (Ca hq) _ _ ?_
 refine nf _ (Ro p q) _ _ (λL hL=>?_)
 have hL2:=ib hsq hL
 subst hL2
 have hLb:jb (sqr (qo p q))<=1099511627776*2:=by
  obtain⟨_,_,h3,_⟩:=hri
  have e:=(Gm (Gi ht)).1
  unfold vo at ht
  generalize jb (sqr (qo p q))=L at*
  by_cases hh:L<=1099511627776*2
  ·exact hh
  ·exfalso
   have h4:(1099511627776*2+1)*(1099511627776*2+1)<=L*L:=Fbj (by omega) (by omega) (by omega) (by omega)
   have h5:(qo p q).1*(qo p q).1<=1099511627776*1099511627776:=by
    rw[Ke]
    exact Fbj (by omega) (by omega) (by omega) (by omega)
   have h6:(qo p q).2*(qo p q).2<=1099511627776*1099511627776:=by
    rw[Ke]
    exact Fbj (by omega) (by omega) (by omega) (by omega)
   omega
 have hfs:yj r (jb (sqr (qo p q)))=r-jb (sqr (qo p q)):=by
  unfold yj
  rw[Cw (by omega),Lx (by omega) (by omega)]
  omega
 refine Ff _ _ ⟨by omega,by omega⟩ ⟨by omega,by omega⟩ _ _ ?_
 rw[hfs]
 generalize jb (sqr (qo p q))=L at*
 generalize qo p q=d at*
 refine zi (λc2=>?_) (λc2=>?_)
 ·have c2:d=(0,0):=by
   simp only[Fau,beq_iff_eq]at c2
   exact Prod.ext c2.1 c2.2.1
  rw[if_pos c2]at h harg
  subst c2
  refine Pm (65536,0) (r-L) harg (by omega) _ _ ?_
  exact ret h
 ·have c2:¬d=(0,0):=λe=>by
   rw[e]at c2
   exact absurd c2 (by decide)
  rw[if_neg c2]at h harg
  refine Pm d (r-L) harg (by omega) _ _ ?_
  exact ret h
theorem dg{v:Vc}{m:Int}(hs:vo v):(xo v m).ok:=by
 by_cases hm:0<=m
 ·have:=(sb (Gi hs) hm).1
  unfold kx at this
  exact⟨⟨by omega,by omega⟩,⟨by omega,by omega⟩⟩
 ·have e:xo v m=xo v 0:=by
   unfold xo
   rw[show max m 0=max 0 0 by omega]
  rw[e]
  have:=(sb (Gi hs) (Fcc 0)).1
  unfold kx at this
  exact⟨⟨by omega,by omega⟩,⟨by omega,by omega⟩⟩
end Go.Proofs
