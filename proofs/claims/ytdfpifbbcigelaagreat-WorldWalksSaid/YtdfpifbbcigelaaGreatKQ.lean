/- Ground of laws of thronglaw25: contracts and plain lemmas; no condition beyond the row's own. -/
import Derived.Test.YtdfpifbbcigelaaGreatKM
import Derived.Test.YtdfpifbbcigelaaGreatKP
set_option linter.unusedSimpArgs false
set_option linter.unusedVariables false
namespace Go.Proofs
open Go Go.V
set_option maxRecDepth 20000
set_option maxHeartbeats 4000000
theorem zy3(g:Gnd)(hg:zn g)(t:Nat)(ht:(t:Int)<g.W*g.H)(st:Store)(R:Ja)(h:R (.agg (zy (tx g t+32768,ty g t+32768))) st):Jb 212 [.agg (zo g),int (t:Nat)] st R:=by
 have htb:=Cm hg ht
 have hq:=Fx (t:=t) hg.1.1
 have hq2:=Fy (t:=t) hg.1.1
 have hg1:=hg.1
 have hg2:=hg.2.1
 unfold tx ty at h
 refine Qa (c:=cfg 18) zb Tryz.func212 ?_
 refine Qc zb zun ?_
 refine⟨by omega,?_⟩
 refine ze (by rw[hq];omega) ?_
 refine ze (by rw[hq];omega) ?_
 refine⟨by omega,?_⟩
 refine ze (by rw[hq2];omega) ?_
 refine ze (by rw[hq2];omega) ?_
 refine ze (by rw[hq2];omega) ?_
 refine Qao ?_
 rw[<-hq,<-hq2]at h
 exact ret h
theorem Oo(g:Gnd)(hg:zn g)(t:Nat)(ht:(t:Int)<g.W*g.H)(x:Int)(hx:x=(t:Int))(st:Store)(R:Ja)(h:R (.agg (zy (tx g t+32768,ty g t+32768))) st):Jb 212 [.agg (zo g),int x] st R:=by
 subst hx
 exact zy3 g hg t ht st R h
theorem Oq(g:Gnd)(hg:zn g)(t:Nat)(ht:t<g.T.length)(x:Int)(hx:x=(t:Int))(st:Store)(R:Ja)(h:R (.agg (zy (ye g t))) st):Jb 212 [.agg (zo g),int x] st R:=
 Oo g hg t (by have:=qi hg;omega) x hx st R h
theorem ta(g:Gnd)(hg:zn g)(t:Nat)(ht:t<g.T.length)(tI:Int)(htI:tI=(t:Int))(st:Store)(R:Ja)(h:R (.agg (zy (ye g t))) st):Jb 13 [.agg (zo g),int tI] st R:=by
 subst htI
 have ha:=qi hg
 have htb:=Cm hg (t:=t) (by omega)
 have hq:=Fx (t:=t) hg.1.1
 have hq2:=Fy (t:=t) hg.1.1
 have hg1:=hg.1
 have hg2:=hg.2.1
 unfold ye tx ty at h
 rw[<-hq,<-hq2]at h
 refine Qa (c:=cfg 18) zb Tryz.func13 ?_
 refine Qc zb zuz ?_
 refine⟨by omega,?_⟩
 refine Qd ?_
 refine Qd ?_
 refine⟨by omega,?_⟩
 refine Qd ?_
 refine Qd ?_
 refine Qd ?_
 refine Qao ?_
 exact ret h
theorem zca(g:Gnd)(hg:zn g)(p:Vc)(h0:(0<=p.1/\p.1<g.W*65536)/\(0<=p.2/\p.2<g.H*65536))(st:Store)(R:Ja)(h:R (int (jg g p:Nat)) st):Jb 214 [.agg (zo g),.agg (zy p)] st R:=by
 have hs:=hg.1
 have hs2:=hg.2.1
 obtain⟨e1,e2,_⟩:=er hg h0
 have ha:=qi hg
 refine Qa (c:=cfg 39) zb Tryz.func214 ?_
 refine bcd (λc1=>absurd c1 (by omega)) (λc1=>?_)
 refine Qd ?_
 refine bcd (λc1=>absurd c1 (by omega)) (λc1=>?_)
 refine bcd (λc1=>absurd c1 (by omega)) (λc1=>?_)
 refine Qd ?_
 refine bcd (λc1=>absurd c1 (by omega)) (λc1=>?_)
 have q1:p.1.tdiv 65536=p.1/65536:=Fba (by omega)
 have q2:p.2.tdiv 65536=p.2/65536:=Fba (by omega)
 have hx:0<=p.1/65536/\p.1/65536<=128:=by omega
 have hy:0<=p.2/65536/\p.2/65536<=128:=by omega
 have hm:0<=g.W*(p.2/65536)/\g.W*(p.2/65536)<=128*128:=⟨Fay (by omega) hy.1,Fbk hs.2 hy.2 hy.1 (by decide)⟩
 refine⟨by decide,?_⟩
 refine ze (by rw[q1];omega) ?_
 refine⟨by decide,?_⟩
 refine ze (by rw[q2];omega) ?_
 refine ze (by rw[q2];omega) ?_
 refine ze (by rw[q1,q2];omega) ?_
 rw[q1,q2,<-e1]
 exact ret h
section
variable {F G:Store} {s p i:Nat} {w:Wld} {v o0 o1 o2:AV}
theorem Sy{L:List Ent}(hS:StandR F G s p w v L o0 o1 o2)(hos:ja v s)(hr:yg w.U)(hU:w.U.length<=1000000)(hL:L.length<=1000000)(hok:∀e∈L,e.2.ok)(hi:i<w.U.length)(u:Unt)(hid:w.U[i].id=u.id)(hp:u.pos.ok)(R:Ja)
  (h:∀F' G',StandR F' G' s p {w with U:=w.U.set i u} v (Bl L u) o0 o1 o2->(∀q,ja v q->G'.obj q=G.obj q)->R (.tup []) (F'.un (svS G' s {w with U:=w.U.set i u} v o0 o1 o2 p))):
  Jb 134 [ptr s,.agg (zk u)] (F.un (svS G s w v o0 o1 o2 p)) R:=by
 have hrow:RowsQ 10 zk (F.un (svS G s w v o0 o1 o2 p)) v w.U:=(F5 hS.hs hS.hu).un
 have hs0:(F.un (svS G s w v o0 o1 o2 p)).obj s=some (.cells (svC w v o0 o1 o2 p)):=zf (wg _ _ _ _ _ _ _ _)
 rcases hS.hu with(⟨_,hl0⟩|⟨b,cap,J,rfl,ho,hc1,hc2,hc3⟩)|⟨_,_,_,hl0⟩
 ·rw[hl0]at hi;exact absurd hi (Fbf i)
 rotate_left
 ·rw[hl0]at hi;exact absurd hi (Fbf i)
 have hbs:b≠s:=hos b _ _ rfl (by omega)
 have hob:(F.un (svS G s w (.s (.slice (some ⟨b,0,none⟩) w.U.length cap)) o0 o1 o2 p)).obj b=some (.cells ((rws zk w.U).flatten++J)):=zf (by
  show(G.sO s _).obj b=_
  rw[zg hbs];exact ho)
 refine Qa (c:=cfg 44) zb Tryz.func134 ?_
 refine Qc zb zu3 ?_
 refine za (o:=(F.un (svS G s w _ o0 o1 o2 p)).obj s) _ hs0 ?_
 refine⟨P8 hrow (by omega) hr u.id _ (λk hk z hz=>⟨Qe,?_⟩),Tv⟩
 have hki:k=i:=by
  by_cases h1:k<i
  ·have:=hk.2.2 k (by omega) (Fak _)
   have:=Nw hr h1 hi
   omega
  ·by_cases h2:i<k
   ·have:=hk.2.1 i hi h2;omega
   ·omega
 subst hki
 refine Qap ?_
 refine Qap ?_
 refine Qc zb zu2 ?_
 refine za (o:=(F.un (svS G s w _ o0 o1 o2 p)).obj s) _ hs0 ?_
 refine⟨k,rfl,hi,?_⟩
 refine⟨?_,Tv⟩
 refine za _ rfl (ju rfl (jo (v:=.agg (zk u)) rfl rfl rfl rfl ?_))
 refine wt (i:=ti36) (v:=.agg (zk u)) (xs:=zk u) (b:=b) (o:=0+k*10) (l:=(rws zk w.U).flatten++J) rfl rfl rfl hob (by rw[Fag,kr w9,w9];omega) ?_
 have e0:(F.un (svS G s w (.s (.slice (some ⟨b,0,none⟩) w.U.length cap)) o0 o1 o2 p)).sO b (.cells (zu ((rws zk w.U).flatten++J) (0+k*10) (zk u)))=F.un (svS (G.sO b (.cells ((rws zk (w.U.set k u)).flatten++J))) s {w with U:=w.U.set k u} (.s (.slice (some ⟨b,0,none⟩) w.U.length cap)) o0 o1 o2 p):=by
  rw[Fbd,zvw w9 hi u J,zt]
  unfold svS
  rw[D5 hbs]
  rfl
 rw[e0]
 have hG:∀q,q≠b->(G.sO b (.cells ((rws zk (w.U.set k u)).flatten++J))).obj q=G.obj q:=λq hq=>zg hq
 have hS':StandR F (G.sO b (.cells ((rws zk (w.U.set k u)).flatten++J))) s p {w with U:=w.U.set k u} (.s (.slice (some ⟨b,0,none⟩) w.U.length cap)) L o0 o1 o2:=by
  refine⟨hS.hc,λj h1 h2=>hS.hd j h1 (svS_has.2 ?_),?_,.inl (.inr ⟨b,cap,J,by rw[Fa8],zd _ _ _,by rw[Fa8];exact hc1,by rw[Fa8];exact hc2,hc3⟩),hS.h0,hS.h1,hS.h2⟩
  ·rcases svS_has.1 h2 with h2|h2
   ·exact .inl h2
   ·rcases has_setObj_iff.1 h2 with rfl|h2
    ·exact .inr (jb ho)
    ·exact .inr h2
  ·rw[hG s (Ne.symm hbs)];exact hS.hs
 have hoffG:∀q,ja (.s (.slice (some ⟨b,0,none⟩) w.U.length cap)) q->(G.sO b (.cells ((rws zk (w.U.set k u)).flatten++J))).obj q=G.obj q:=λq hq=>hG q (Ne.symm (hq b _ _ rfl (by omega)))
 generalize G.sO b _=G1 at hS' hoffG⊢
 have hs1:(F.un (svS G1 s {w with U:=w.U.set k u} (.s (.slice (some ⟨b,0,none⟩) w.U.length cap)) o0 o1 o2 p)).obj s=some (.cells (svC w (.s (.slice (some ⟨b,0,none⟩) w.U.length cap)) o0 o1 o2 p)):=zf (wg _ _ _ _ _ _ _ _)
 refine⟨Tv,?_⟩
 refine z6 (λc1=>?_) (λc1=>?_)
 ·refine Qc zb zu1 ?_
  refine za (o:=(F.un (svS G1 s _ _ o0 o1 o2 p)).obj s) _ hs1 ?_
  refine⟨bh hS'.hc hS'.hd (by omega) hok u.id u.pos hp _ (λF2 h2 h3=>⟨Tv,?_⟩),Tv⟩
  have e9:Bl L u=qb L u.id++[(u.id,u.pos)]:=if_pos c1
  exact ret (h F2 G1 ⟨by rw[e9];exact h2,h3,hS'.hs,hS'.hu,hS'.h0,hS'.h1,hS'.h2⟩ hoffG)
 ·refine Qc zb zu0 ?_
  refine za (o:=(F.un (svS G1 s _ _ o0 o1 o2 p)).obj s) _ hs1 ?_
  refine⟨yfr hS'.hc hS'.hd (by omega) hok u.id _ (λF2 h2 h3=>⟨Tv,?_⟩),Tv⟩
  have e9:Bl L u=qb L u.id:=if_neg c1
  exact ret (h F2 G1 ⟨by rw[e9];exact h2,h3,hS'.hs,hS'.hu,hS'.h0,hS'.h1,hS'.h2⟩ hoffG)
theorem N7{L:List Ent}(hS:StandR F G s p w v L o0 o1 o2)(hos:ja v s)(hr:yg w.U)(hU:w.U.length<=1000000)(hL:L.length<=1000000)(hok:∀e∈L,e.2.ok)(hi:i<w.U.length)(u:Unt)(hid:w.U[i].id=u.id)(hp:u.pos.ok)(R:Ja)
  (h:∀F' G' L',StandR F' G' s p {w with U:=w.U.set i u} v L' o0 o1 o2->(∀q,ja v q->G'.obj q=G.obj q)->L'.length<=L.length+1->(∀e∈L',e.2.ok)->R (.tup []) (F'.un (svS G' s {w with U:=w.U.set i u} v o0 o1 o2 p))):
  Jb 134 [ptr s,.agg (zk u)] (F.un (svS G s w v o0 o1 o2 p)) R:=
 Sy hS hos hr hU hL hok hi u hid hp R λF' G' h1 h2=>h F' G' _ h1 h2 (ydn L u) (ydm hok hp)
end
theorem zv2(m:Int)(hm:0<=m)(st:Store)(R:Ja)(h:∀r,Cx m r->R (int r) st):Jb 370 [.agg (xz m)] st R:=by
 refine Qa (c:=cfg 22) zb Tryz.func370 ?_
 refine AWp.loop (σ:=Nat×Int) ⟨λx=>[(1,.bx 1 0),(3,.av (u64 x.2)),(4,.av (int ((x.1:Int)-1)))],λ_=>[(1,xz m)],
  λx st'=>x.1<=63/\st'=st/\Ga m x.2 x.1,λx=>x.1⟩ zb ?_ ?_
 ·exact⟨(63,0),Tv,⟨Fak _,rfl,zv6 hm⟩,Qal,⟨rfl,Tv⟩⟩
 rintro⟨k,r⟩ st' ⟨hk,rfl,hr⟩
 dsimp only at hk hr⊢
 refine bcd (λh1=>?_) (λh1=>?_)
 rotate_left
 ·have:k=0:=by omega
  subst this
  have hi:=zv8 hr
  have h2:=h r hi
  have hi0:=hi.1
  exact⟨⟨by omega,hi.2.1⟩,ret h2⟩
 cases k with
 |zero=>omega
 |succ k=>
  obtain⟨e1,e2,e3,e4⟩:=zv9 hr
  have e5:((k+1:Nat):Int)-1=(k:Int):=by omega
  refine⟨by omega,?_⟩
  have e7:xp .or .u64 r (IntKind.u64.wrap (1*2^(min (((k+1:Nat):Int)-1).toNat IntKind.u64.bits)))=r+2^k:=by rw[e5,zr0 (by omega),e1]
  have e8:∀X,X=r+2^k->0<=X/\X<18446744073709551616/\0<=X*X:=λX hX=>by subst hX;exact⟨by omega,by omega,Fay (by omega) (by omega)⟩
  have e8:=e8 _ e7
  refine Qc zb zs1 ?_
  refine⟨Pg _ e8.1 e8.2.1 _ _ ⟨Qe,?_⟩,Tv⟩
  refine⟨uh m _ hm e8.2.2 _ _ ⟨Qe,?_⟩,Tv⟩
  have no:=λhh=>zv7 hr hh
  have yes:=λhh=>zv5 hr hh
  rw[<-e7]at no yes
  generalize xp .or .u64 r (IntKind.u64.wrap (1*2^(min (((k+1:Nat):Int)-1).toNat IntKind.u64.bits)))=X at*
  refine ym ?_
  refine bcd (λc1=>?_) (λc1=>?_)
  ·refine⟨by unfold ya;omega,?_⟩
   refine⟨(k,r),?_,⟨by dsimp only;omega,rfl,no c1⟩,⟨Tq,Tq,?_,Tv⟩,⟨rfl,Tv⟩⟩
   ·show k<k+1
    omega
   ·rw[e5];exact Tq
  ·refine⟨by unfold ya;omega,?_⟩
   refine⟨(k,X),?_,⟨by dsimp only;omega,rfl,yes (by omega)⟩,⟨Tq,Tq,?_,Tv⟩,⟨rfl,Tv⟩⟩
   ·show k<k+1
    omega
   ·rw[e5];exact Tq
theorem Vw(v:Vc)(hv:v.ok)(st:Store)(R:Ja)(h:∀r,Cx (sqr v) r->R (int r) st):Jb 304 [.agg (zy v)] st R:=by
 have hb:=K6 hv
 refine Qa (c:=cfg 6) zb Tryz.func304 ?_
 refine ft v hv _ _ ?_
 refine zv2 (sqr v) (by unfold sqr;omega) _ _ (λr hr=>?_)
 exact ret (h r hr)
theorem p7(p q:Vc)(hp:p.ok)(hq:q.ok)(st:Store)(R:Ja)(h:R (V.bool (decide (Ce p q))) st):Jb 320 [.agg (zy p),.agg (zy q)] st R:=by
 refine Qa (c:=cfg 10) zb Tryz.func320 ?_
 refine Mz p q hp hq _ _ ?_
 refine Vw _ (Ia p q) _ _ (λr hr=>?_)
 refine ret ?_
 rw[show decide (Ce p q)=decide (131072<r)from by rw[Fbr];simp only[decide_eq_true_eq];exact(zv4 hr).symm]at h
 exact h
theorem de(v:Vc)(st:Store)(R:Ja)(h:R (.agg (zy (j9 v))) st):Jb 132 [.agg (zy v)] st R:=by
 refine Qa (c:=cfg 10) zb Tryz.func132 ?_
 refine Qc zb zu5 ?_
 refine⟨Hi v.1 _ _ ⟨Qe,?_⟩,Tv⟩
 refine⟨Hi v.2 _ _ ⟨Qe,?_⟩,Tv⟩
 refine Qao ?_
 exact ret h
theorem dm(a b:Vc)(ha:a.ok)(hb:b.ok)(st:Store)(R:Ja)(h:R (.agg (zy (jf a b))) st):Jb 133 [.agg (zy a),.agg (zy b)] st R:=by
 refine Qa (c:=cfg 16) zb Tryz.func133 ?_
 refine Qc zb zu4 ?_
 refine⟨Gw a.1 b.1 ha.1 hb.1 _ _ ⟨Qe,?_⟩,Tv⟩
 refine⟨Gw a.2 b.2 ha.2 hb.2 _ _ ⟨Qe,?_⟩,Tv⟩
 refine Qao ?_
 exact ret h
theorem yea(lo y:Int)(h0:0<=lo)(h1:lo<18446744073709551616)(h2:0<y)(h3:y<18446744073709551616)(st:Store)(R:Ja)(h:R (.tup [u64 (lo/y),u64 (lo%y)]) st):Jb 372 [u64 0,u64 lo,u64 y] st R:=by
 have e1:lo.tdiv y=lo/y:=Fba h0
 have e2:lo.tmod y=lo%y:=Fej h0
 have b1:lo/y<=lo:=Int.ediv_le_self _ h0
 have b0:0<=lo/y:=Fcs h0 (by omega)
 have w:IntKind.u64.wrap (lo.tdiv y)=lo/y:=by rw[e1];exact Bc b0 (by omega)
 refine Qa (c:=cfg 135) zb Tryz.func372 ?_
 refine z6 (λc1=>absurd c1 (by omega)) (λc1=>?_)
 refine bcd (λc2=>absurd c2 (by omega)) (λc2=>?_)
 refine Qc zb zs0 ?_
 refine⟨by omega,?_⟩
 refine⟨by omega,?_⟩
 refine⟨⟨Qe,⟨⟨Tv,?_⟩,Tv⟩⟩,Tv⟩
 rw[w,e2]
 exact ret h
theorem nrm_lt{n:Int}:nrm n<0↔n<0:=by unfold nrm;split<;>omega
theorem ygh{c:Int}(h:-4611686018427387904<=c/\c<=4611686018427387904):asz c=if c<0 then -c else c:=by
 unfold asz
 rw[ji (by omega)]
theorem ln(c most long:Int)(hc:-1099511627776<=c/\c<=1099511627776)(hm:0<=most/\most<=1048576)(hl:0<long/\long<9223372036854775808)(st:Store)(R:Ja)(h:R (int (Fl c most long)) st):
  Jb 305 [int c,int most,int long] st R:=by
 have hasz:=ygh (c:=c) (by omega)
 obtain⟨x,hx⟩:∃x,x=asz c:=⟨_,rfl⟩
 have hx0:0<=x/\x<=1099511627776:=by rw[hx,hasz];split<;>omega
 have hp0:0<=x*most:=Fay hx0.1 hm.1
 have hp1:x*most<=1099511627776*1048576:=Fbk hx0.2 hm.2 hm.1 (by omega)
 have hq1:x*most/long<=x*most:=Int.ediv_le_self _ hp0
 have hq0:0<=x*most/long:=Fcs hp0 (by omega)
 have w1:IntKind.u64.wrap most=most:=Bc (by omega) (by omega)
 have w2:IntKind.u64.wrap long=long:=Bc (by omega) (by omega)
 refine Qa (c:=cfg 39) zb Tryz.func305 ?_
 refine cf c ⟨by omega,by omega⟩ _ _ ?_
 rw[<-hx]
 show ACalls _ _ [u64 x,u64 (IntKind.u64.wrap most)] _ _
 rw[w1]
 refine Vn x most hx0.1 (by omega) hm.1 (by omega) _ _ ?_
 have e2:xz (x*most)=[u64 0,u64 (x*most)]:=by
  unfold xz
  rw[Fd3 hp0 (by omega),Feq hp0 (by omega)]
 rw[e2]
 show ACalls _ _ [u64 0,u64 (x*most),u64 (IntKind.u64.wrap long)] _ _
 rw[w2]
 refine yea _ _ hp0 (by omega) hl.1 (by omega) _ _ ?_
 unfold Fl at h
 refine bcd (λc1=>?_) (λc1=>?_)
 ·have c1:=nrm_lt.1 c1
  rw[if_pos c1]at h
  rw[if_pos c1]at hasz
  refine Qd ?_
  refine Qd ?_
  have e:0-x*most/long=-(-c*most/long):=by rw[hx,hasz];omega
  rw[e]
  exact ret h
 ·have c1:¬c<0:=λhh=>c1 (nrm_lt.2 hh)
  rw[if_neg c1]at h
  rw[if_neg c1]at hasz
  refine Qd ?_
  rw[hx,hasz]
  exact ret h
theorem zbs{v:Vc}(h:wq v):j9 v=v:=(Ha (G7 h)).2.1
theorem Py(v:Vc)(most:Int)(hv:wq v)(hm:-9223372036854775808<=most/\most<=1048576)(st:Store)(R:Ja)(h:R (.agg (zy (je v most))) st):
  Jb 211 [.agg (zy v),int most] st R:=by
 have hn:=zbs hv
 have hsq:=(Ha (G7 hv)).2.2.1
 have hri:=Iw hsq
 unfold je at h
 rw[<-max2_eq]at h
 have hmx:0<=max2 most 0/\max2 most 0<=1048576:=by rw[max2_eq];omega
 obtain⟨r0,r1,_,_⟩:=hri
 refine Qa (c:=cfg 27) zb Tryz.func211 ?_
 refine de v _ _ ?_
 rw[hn]at h⊢
 refine Vw v (zc1 hv) _ _ (λr hr=>?_)
 have hr:=im hsq hr
 subst hr
 generalize max2 most 0=m at*
 generalize j1 (sqr v)=L at*
 refine bcd (λc1=>?_) (λc1=>?_)
 ·rw[if_pos c1]at h
  exact ret h
 rw[if_neg c1]at h
 have e1:nrm v.1=v.1:=congrArg Prod.fst hn
 have e2:nrm v.2=v.2:=congrArg Prod.snd hn
 rw[e1,e2]at h
 refine Qc zb zuo ?_
 refine⟨ln v.1 m L hv.1 hmx (by omega) _ _ ⟨Qe,?_⟩,Tv⟩
 refine⟨ln v.2 m L hv.2 hmx (by omega) _ _ ⟨Qe,?_⟩,Tv⟩
 refine Qao ?_
 exact ret h
theorem zcw(p q:Vc)(s:Int)(hp:qw p)(hq:qw q)(hs:0<=s/\s<=1048576)(st:Store)(R:Ja)(h:R (.agg (zy (G6 p q s))) st):Jb 217 [.agg (zy p),.agg (zy q),int s] st R:=by
 have hp':p.ok:=by unfold qw at hp;exact⟨⟨by omega,by omega⟩,⟨by omega,by omega⟩⟩
 have hq':q.ok:=by unfold qw at hq;exact⟨⟨by omega,by omega⟩,⟨by omega,by omega⟩⟩
 refine Qa (c:=cfg 12) zb Tryz.func217 ?_
 refine Mz q p hq' hp' _ _ ?_
 refine Py _ s (My hp hq) (by omega) _ _ ?_
 exact ret h
theorem Li(a b:Int×Int)(st:Store)(R:Ja)(h:∀z:Bool,(z=true↔qlt a b)->R (bool z) st):Jb 494 [.agg (itC a),.agg (itC b)] st R:=by
 refine Qa (c:=cfg 24) zb Tryz.func494 ?_
 repeat' (first|refine bcd (λ_=>?_) (λ_=>?_)|refine zj (λ_=>?_) (λ_=>?_)|refine Qd ?_|fail)
 all_goals
  refine ret (h _ ?_)
  unfold qlt
  simp only[decide_eq_true_eq,decide_eq_false_iff_not,Fad,false_iff,true_iff,beq_iff_eq,bne_iff_ne,beq_eq_false_iff_ne,ne_eq,reduceCtorEq]at*
  omega
theorem zxf(S:Store)(R:Ja)(h:∀p,Fresh S p->R (ptr p) (S.sO p (.cells [.s (.slice none 0 0)]))):Jb 490 [] S R:=by
 refine Qa (c:=cfg 3 [2] []) zb Tryz.func490 ?_
 intro p hp
 exact ret (h p hp)
theorem zw7{F:Store}{p:Nat}{l:List (Int×Int)}(hq:QOf F p l)(hl:l.length<=1000000)(hh:vf l)(x:Int×Int)(R:Ja)
  (h:∀F' l',QOf F' p l'->vf l'->l'.Perm (x::l)->R (.tup []) F'):Jb 491 [ptr p,int x.1,int x.2] F R:=by
 obtain⟨v,hp,hr,hne⟩:=hq.rows
 refine Qa (c:=cfg 74) zb Tryz.func491 ?_
 refine Qaq ?_
 refine⟨by decide,?_⟩
 refine ygm (ie:=ti538) rfl Hr (by decide) hr x rfl (by omega) (λb cap L q1 q2 q3 q4=>?_)
 have hbp:b≠p:=by
  rcases q1 with q1|⟨c0,q1⟩
  ·exact λe=>by have:=q1.1;rw[e,hp]at this;cases this
  ·exact hne b c0 q1
 have hp2:(F.sO b (.cells ((rws itC (l++[x])).flatten++L))).obj p=some (.cells [v]):=by rw[zg (Ne.symm hbp)];exact hp
 refine Bs (i:=ti535) (v:=.s (.slice (some ⟨b,0,none⟩) (l++[x]).length cap)) (b:=p) (o:=0) (l:=[v]) rfl rfl rfl hp2 (Fak 1) ?_
 have hQ:QAt ((F.sO b (.cells ((rws itC (l++[x])).flatten++L))).sO p (.cells (zu [v] 0 [.s (.slice (some ⟨b,0,none⟩) (l++[x]).length cap)]))) p b cap (l++[x]) L:=
  ⟨zd _ _ _,by rw[zg hbp];exact zd _ _ _,hbp,q2,q3,q4⟩
 have hU:=zw9 hh x
 have hP:=zw8 l x
 have hlen:(l++[x]).length=l.length+1:=by simp
 generalize hm:l++[x]=m at hQ hU hP hlen⊢
 generalize(F.sO b (.cells ((rws itC m).flatten++L))).sO p _=F1 at hQ⊢
 refine za (o:=F1.obj p) _ hQ.hp ?_
 refine Qd ?_
 refine AWp.loop (σ:=Nat×Store×List (Int×Int)) ⟨λq=>[(0,.av (ptr p)),(6,.av (int (q.1:Nat)))],λ_=>[],
  λq st'=>st'=q.2.1/\QAt q.2.1 p b cap q.2.2 L/\UpF (qat q.2.2) q.2.2.length q.1/\q.2.2.Perm (x::l)/\q.2.2.length=l.length+1/\q.1<q.2.2.length,λq=>q.1⟩ zb ?_ ?_
 ·refine⟨(l.length,F1,m),Tv,⟨rfl,hQ,hU,hP,hlen,by dsimp only;omega⟩,⟨Tq,?_,Tv⟩,Tv⟩
  show LV.le (.av (int ((m.length:Int)-1))) (.av (int (l.length:Nat)))
  rw[show(m.length:Int)-1=(l.length:Nat) by omega]
  exact Tq
 rintro⟨i,F2',m2⟩ F2 ⟨rfl,hQ,hU,hP,hlen,hi⟩
 dsimp only at hQ hU hP hlen hi⊢
 refine bcd (λc1=>?_) (λc1=>?_)
 rotate_left
 ·have:i=0:=by omega
  subst this
  exact ret (h F2 m2 (.inr ⟨b,cap,L,hQ⟩) (i6 hU (.inl rfl)) hP)
 have hpar:((i:Int)-1).tdiv 2=(par i:Nat):=by
  unfold par
  rw[Fba (by omega)]
  omega
 have hpl:par i<m2.length:=by have:=Ar (show 0<i by omega);omega
 refine Qd ?_
 refine⟨by decide,?_⟩
 refine ze (by rw[hpar];omega) ?_
 refine Qc zb zsn ?_
 refine za (o:=F2.obj p) _ hQ.hp ?_
 refine⟨i,rfl,hi,?_⟩
 refine za (o:=F2.obj b) _ hQ.hb ?_
 refine xg (i:=ti538) (row:=itC (qat m2 i)) rfl rfl (kx hi) ?_
 refine za (o:=F2.obj p) _ hQ.hp ?_
 refine⟨par i,hpar,hpl,?_⟩
 refine za (o:=F2.obj b) _ hQ.hb ?_
 refine xg (i:=ti538) (row:=itC (qat m2 (par i))) rfl rfl (kx hpl) ?_
 refine⟨Li _ _ _ _ (λz hz=>⟨Tv,?_⟩),Tv⟩
 refine ym ?_
 refine zj (λc2=>?_) (λc2=>?_)
 rotate_left
 ·exact ret (h F2 m2 (.inr ⟨b,cap,L,hQ⟩) (i6 hU (.inr λhh=>by rw[hz.2 hh]at c2;cases c2)) hP)
 obtain⟨hU2,hP2⟩:=zw6 hU (by omega) hi (hz.1 c2)
 have hS1:=hQ.set hi (qat m2 (par i))
 have hpl2:par i<(m2.set i (qat m2 (par i))).length:=by rw[Fa8];exact hpl
 have hS2:=hS1.set hpl2 (qat m2 i)
 refine Qc zb zsm ?_
 refine za (o:=F2.obj p) _ hQ.hp ?_
 refine za (o:=F2.obj p) _ hQ.hp ?_
 refine za (o:=F2.obj p) _ hQ.hp ?_
 refine⟨par i,hpar,hpl,?_⟩
 refine za (o:=F2.obj b) _ hQ.hb ?_
 refine xg (i:=ti538) (row:=itC (qat m2 (par i))) rfl rfl (kx hpl) ?_
 refine za (o:=F2.obj p) _ hQ.hp ?_
 refine⟨i,rfl,hi,?_⟩
 refine za (o:=F2.obj b) _ hQ.hb ?_
 refine xg (i:=ti538) (row:=itC (qat m2 i)) rfl rfl (kx hi) ?_
 refine⟨i,rfl,hi,?_⟩
 refine⟨?_,Tv⟩
 refine za _ rfl (ju rfl (jo (v:=.agg (itC (qat m2 (par i)))) rfl rfl rfl rfl ?_))
 refine wt (i:=ti538) (xs:=itC (qat m2 (par i))) rfl rfl rfl hQ.hb (Fg hi _) ?_
 refine⟨Tv,?_⟩
 refine⟨par i,hpar,hpl,?_⟩
 refine⟨?_,Tv⟩
 refine za _ rfl (ju rfl (jo (v:=.agg (itC (qat m2 i))) rfl rfl rfl rfl ?_))
 refine wt (i:=ti538) (xs:=itC (qat m2 i)) rfl rfl rfl hS1.hb (Fg hpl2 _) ?_
 refine⟨Tv,?_⟩
 have hlen2:(kl m2 i (par i)).length=m2.length:=Ii _ _ _
 refine⟨(par i,_,kl m2 i (par i)),?_,⟨rfl,hS2,hU2,hP2.trans hP,by dsimp only;omega,by dsimp only;omega⟩,⟨Tq,?_,Tv⟩,Tv⟩
 ·show par i<i
  exact Ar (by omega)
 ·rw[hpar];exact Tq
theorem LV.le_int{a b:Int}(h:a=b):LV.le (.av (int a)) (.av (int b)):=by subst h;exact Tq
theorem zxa{F:Store}{p:Nat}{l:List (Int×Int)}(hq:QOf F p l)(hl:l.length<=1000000)(hh:vf l)(R:Ja)
  (h0:l=[]->R (.tup [int 0,int 0,V.bool false]) F)
  (h1:0<l.length->∀F' l',QOf F' p l'->vf l'->l.Perm (qat l 0::l')->R (.tup [int (qat l 0).1,int (qat l 0).2,V.bool true]) F'):Jb 492 [ptr p] F R:=by
 by_cases hz:l.length=0
 ·have hnil:l=[]:=Fa0 hz
  obtain⟨v,hp,hr,hne⟩:=hq.rows
  have hv:∃a c,v=.s (.slice a 0 c):=by
   rcases hr with⟨rfl,_⟩|⟨b,cap,L,rfl,_⟩
   ·exact⟨_,_,rfl⟩
   ·exact⟨_,_,by rw[hz]⟩
  obtain⟨a,c,rfl⟩:=hv
  refine Qa (c:=cfg 121) zb Tryz.func492 ?_
  refine Qaq ?_
  refine Qd ?_
  exact ret (h0 hnil)
 obtain⟨b,cap,L,hQ⟩:=hq.pos (by omega)
 obtain⟨n,hn⟩:∃n,l.length=n+1:=⟨l.length-1,by omega⟩
 have hc1:=hQ.h1
 have h0l:0<l.length:=by omega
 have hnl:n<l.length:=by omega
 have hnI:(l.length:Int)-1=(n:Nat):=by omega
 refine Qa (c:=cfg 121) zb Tryz.func492 ?_
 refine za (o:=F.obj p) _ hQ.hp ?_
 refine Qd ?_
 refine bcd (λc1=>absurd c1 (by omega)) (λc1=>?_)
 refine za (o:=F.obj p) _ hQ.hp ?_
 refine⟨0,rfl,h0l,?_⟩
 refine za (o:=F.obj b) _ hQ.hb ?_
 refine xg (i:=ti538) (row:=itC (qat l 0)) rfl rfl (kx h0l) ?_
 refine Qc zb zsk ?_
 refine za (o:=F.obj p) _ hQ.hp ?_
 refine za (o:=F.obj p) _ hQ.hp ?_
 refine⟨n,hnI,hnl,?_⟩
 refine za (o:=F.obj b) _ hQ.hb ?_
 refine xg (i:=ti538) (row:=itC (qat l n)) rfl rfl (kx hnl) ?_
 refine⟨0,rfl,h0l,?_⟩
 refine⟨?_,Tv⟩
 refine za _ rfl (ju rfl (jo (v:=.agg (itC (qat l n))) rfl rfl rfl rfl ?_))
 refine wt (i:=ti538) (xs:=itC (qat l n)) rfl rfl rfl hQ.hb (Fg h0l _) ?_
 refine⟨Tv,?_⟩
 have hQ1:=hQ.set h0l (qat l n)
 have hls:(l.set 0 (qat l n)).length=n+1:=by rw[Fa8];exact hn
 refine za _ hQ1.hp ?_
 refine⟨0,n,rfl,hnI,Faj _,by omega,.inl ⟨by omega,?_⟩⟩
 refine Bs (i:=ti535) (v:=.s (.slice (some ⟨b,0,none⟩) n cap)) (b:=p) (o:=0) (l:=[.s (.slice (some ⟨b,0,none⟩) (l.set 0 (qat l n)).length cap)]) rfl rfl rfl hQ1.hp (Fak 1) ?_
 have hQ2:=hQ1.cut (n:=n) (by omega)
 have hD:=zxd hn hh
 have hpm:=zxb hn
 have hln:((l.set 0 (qat l n)).take n).length=n:=by rw[Fao];omega
 have hfin:∀F' l',QOf F' p l'->vf l'->l'.Perm ((l.set 0 (qat l n)).take n)->R (.tup [int (qat l 0).1,int (qat l 0).2,V.bool true]) F':=λF' l' g1 g2 g3=>h1 h0l F' l' g1 g2 (hpm.trans (List.Perm.cons _ g3.symm))
 generalize(rws itC ((l.set 0 (qat l n)).drop n)).flatten++L=L2 at hQ2
 generalize((l.set 0 (qat l n)).take n)=m0 at hQ2 hD hln hfin
 refine AWp.loop (σ:=Nat×Store×List (Int×Int)) ⟨λq=>[(0,.av (ptr p)),(5,.av (int (n:Nat))),(6,.bx 6 0),(7,.av (int (q.1:Nat)))],λ_=>[(6,itC (qat l 0))],
  λq st'=>st'=q.2.1/\QAt q.2.1 p b cap q.2.2 L2/\Ft (qat q.2.2) q.2.2.length q.1/\q.2.2.Perm m0/\q.2.2.length=n/\q.1<=n,λq=>n-q.1⟩ zb ?_ ?_
 ·exact⟨(0,_,m0),Tv,⟨rfl,hQ2,hD,List.Perm.refl _,hln,Faj _⟩,⟨Tq,LV.le_int hnI,Tq,Tq,Tv⟩,⟨rfl,Tv⟩⟩
 rintro⟨i,F2',m⟩ F2 ⟨rfl,hQ,hD,hP,hlen,hin⟩
 dsimp only at hQ hD hP hlen hin⊢
 refine Qd ?_
 refine Qd ?_
 refine bcd (λc1=>?_) (λc1=>?_)
 ·have hF:=hfin F2 m (.inr ⟨b,cap,_,hQ⟩) (zxe hD (by omega)) hP
  refine Qc zb Nn ?_
  refine⟨⟨⟨rfl,Tv⟩,⟨⟨Tv,⟨⟨Tv,?_⟩,Tv⟩⟩,Tv⟩⟩,Tv⟩
  exact ret hF
 have hil:i<m.length:=by omega
 refine Qc zb zsl ?_
 refine Qd ?_
 refine bcd (λc3=>?_) (λc3=>?_)
 rotate_left
 ·refine Qap ?_
  have hkl:2*i+1<m.length:=by omega
  have hki:par (2*i+1)=i:=(Lm (by omega)).2 (.inl rfl)
  have hmin:=W9 (f:=qat m) (n:=m.length) (i:=i) (k:=2*i+1) (.inl ⟨rfl,λhx=>by omega⟩)
  refine Qc zb So ?_
  refine za (o:=F2.obj p) _ hQ.hp ?_
  refine⟨2*i+1,by omega,hkl,?_⟩
  refine za (o:=F2.obj b) _ hQ.hb ?_
  refine xg (i:=ti538) (row:=itC (qat m (2*i+1))) rfl rfl (kx hkl) ?_
  refine za (o:=F2.obj p) _ hQ.hp ?_
  refine⟨i,rfl,hil,?_⟩
  refine za (o:=F2.obj b) _ hQ.hb ?_
  refine xg (i:=ti538) (row:=itC (qat m i)) rfl rfl (kx hil) ?_
  refine⟨Li _ _ _ _ (λz hz=>⟨Tv,?_⟩),Tv⟩
  refine ym ?_
  refine zj (λc2=>?_) (λc2=>?_)
  rotate_left
  ·have hF:=hfin F2 m (.inr ⟨b,cap,_,hQ⟩) (Su hD hmin (λhh=>by rw[hz.2 hh]at c2;cases c2)) hP
   refine Qc zb Nn ?_
   refine⟨⟨⟨rfl,Tv⟩,⟨⟨Tv,⟨⟨Tv,?_⟩,Tv⟩⟩,Tv⟩⟩,Tv⟩
   exact ret hF
  obtain⟨hD2,hP2⟩:=Sv hD (by omega) hkl hki hmin (hz.1 c2)
  have hS1:=hQ.set hil (qat m (2*i+1))
  have hkl2:2*i+1<(m.set i (qat m (2*i+1))).length:=by rw[Fa8];exact hkl
  have hS2:=hS1.set hkl2 (qat m i)
  refine Qc zb Sn ?_
  refine za (o:=F2.obj p) _ hQ.hp ?_
  refine za (o:=F2.obj p) _ hQ.hp ?_
  refine za (o:=F2.obj p) _ hQ.hp ?_
  refine⟨2*i+1,by omega,hkl,?_⟩
  refine za (o:=F2.obj b) _ hQ.hb ?_
  refine xg (i:=ti538) (row:=itC (qat m (2*i+1))) rfl rfl (kx hkl) ?_
  refine za (o:=F2.obj p) _ hQ.hp ?_
  refine⟨i,rfl,hil,?_⟩
  refine za (o:=F2.obj b) _ hQ.hb ?_
  refine xg (i:=ti538) (row:=itC (qat m i)) rfl rfl (kx hil) ?_
  refine⟨i,rfl,hil,?_⟩
  refine⟨?_,Tv⟩
  refine za _ rfl (ju rfl (jo (v:=.agg (itC (qat m (2*i+1)))) rfl rfl rfl rfl ?_))
  refine wt (i:=ti538) (xs:=itC (qat m (2*i+1))) rfl rfl rfl hQ.hb (Fg hil _) ?_
  refine⟨Tv,?_⟩
  refine⟨2*i+1,by omega,hkl,?_⟩
  refine⟨?_,Tv⟩
  refine za _ rfl (ju rfl (jo (v:=.agg (itC (qat m i))) rfl rfl rfl rfl ?_))
  refine wt (i:=ti538) (xs:=itC (qat m i)) rfl rfl rfl hS1.hb (Fg hkl2 _) ?_
  refine⟨Tv,?_⟩
  have hlen2:(kl m i (2*i+1)).length=m.length:=Ii _ _ _
  refine⟨(2*i+1,_,kl m i (2*i+1)),?_,⟨rfl,hS2,hD2,hP2.trans hP,by dsimp only;omega,by dsimp only;omega⟩,⟨Tq,Tq,Tq,?_,Tv⟩,⟨rfl,Tv⟩⟩
  ·show n-(2*i+1)<n-i
   omega
  ·exact LV.le_int (by omega)
 refine za (o:=F2.obj p) _ hQ.hp ?_
 refine Qd ?_
 have hkl1:2*i+2<m.length:=by omega
 have hkl0:2*i+1<m.length:=by omega
 refine⟨2*i+2,by omega,hkl1,?_⟩
 refine za (o:=F2.obj b) _ hQ.hb ?_
 refine xg (i:=ti538) (row:=itC (qat m (2*i+2))) rfl rfl (kx hkl1) ?_
 refine za (o:=F2.obj p) _ hQ.hp ?_
 refine⟨2*i+1,by omega,hkl0,?_⟩
 refine za (o:=F2.obj b) _ hQ.hb ?_
 refine xg (i:=ti538) (row:=itC (qat m (2*i+1))) rfl rfl (kx hkl0) ?_
 refine⟨Li _ _ _ _ (λz hz1=>⟨Tv,?_⟩),Tv⟩
 refine zj (λc4=>?_) (λc4=>?_)
 ·refine Qd ?_
  have hkl:2*i+2<m.length:=hkl1
  have hki:par (2*i+2)=i:=(Lm (by omega)).2 (.inr rfl)
  have hmin:=W9 (f:=qat m) (n:=m.length) (i:=i) (k:=2*i+2) (.inr ⟨rfl,hz1.1 c4⟩)
  refine Qc zb So ?_
  refine za (o:=F2.obj p) _ hQ.hp ?_
  refine⟨2*i+2,by omega,hkl,?_⟩
  refine za (o:=F2.obj b) _ hQ.hb ?_
  refine xg (i:=ti538) (row:=itC (qat m (2*i+2))) rfl rfl (kx hkl) ?_
  refine za (o:=F2.obj p) _ hQ.hp ?_
  refine⟨i,rfl,hil,?_⟩
  refine za (o:=F2.obj b) _ hQ.hb ?_
  refine xg (i:=ti538) (row:=itC (qat m i)) rfl rfl (kx hil) ?_
  refine⟨Li _ _ _ _ (λz hz=>⟨Tv,?_⟩),Tv⟩
  refine ym ?_
  refine zj (λc2=>?_) (λc2=>?_)
  rotate_left
  ·have hF:=hfin F2 m (.inr ⟨b,cap,_,hQ⟩) (Su hD hmin (λhh=>by rw[hz.2 hh]at c2;cases c2)) hP
   refine Qc zb Nn ?_
   refine⟨⟨⟨rfl,Tv⟩,⟨⟨Tv,⟨⟨Tv,?_⟩,Tv⟩⟩,Tv⟩⟩,Tv⟩
   exact ret hF
  obtain⟨hD2,hP2⟩:=Sv hD (by omega) hkl hki hmin (hz.1 c2)
  have hS1:=hQ.set hil (qat m (2*i+2))
  have hkl2:2*i+2<(m.set i (qat m (2*i+2))).length:=by rw[Fa8];exact hkl
  have hS2:=hS1.set hkl2 (qat m i)
  refine Qc zb Sn ?_
  refine za (o:=F2.obj p) _ hQ.hp ?_
  refine za (o:=F2.obj p) _ hQ.hp ?_
  refine za (o:=F2.obj p) _ hQ.hp ?_
  refine⟨2*i+2,by omega,hkl,?_⟩
  refine za (o:=F2.obj b) _ hQ.hb ?_
  refine xg (i:=ti538) (row:=itC (qat m (2*i+2))) rfl rfl (kx hkl) ?_
  refine za (o:=F2.obj p) _ hQ.hp ?_
  refine⟨i,rfl,hil,?_⟩
  refine za (o:=F2.obj b) _ hQ.hb ?_
  refine xg (i:=ti538) (row:=itC (qat m i)) rfl rfl (kx hil) ?_
  refine⟨i,rfl,hil,?_⟩
  refine⟨?_,Tv⟩
  refine za _ rfl (ju rfl (jo (v:=.agg (itC (qat m (2*i+2)))) rfl rfl rfl rfl ?_))
  refine wt (i:=ti538) (xs:=itC (qat m (2*i+2))) rfl rfl rfl hQ.hb (Fg hil _) ?_
  refine⟨Tv,?_⟩
  refine⟨2*i+2,by omega,hkl,?_⟩
  refine⟨?_,Tv⟩
  refine za _ rfl (ju rfl (jo (v:=.agg (itC (qat m i))) rfl rfl rfl rfl ?_))
  refine wt (i:=ti538) (xs:=itC (qat m i)) rfl rfl rfl hS1.hb (Fg hkl2 _) ?_
  refine⟨Tv,?_⟩
  have hlen2:(kl m i (2*i+2)).length=m.length:=Ii _ _ _
  refine⟨(2*i+2,_,kl m i (2*i+2)),?_,⟨rfl,hS2,hD2,hP2.trans hP,by dsimp only;omega,by dsimp only;omega⟩,⟨Tq,Tq,Tq,?_,Tv⟩,⟨rfl,Tv⟩⟩
  ·show n-(2*i+2)<n-i
   omega
  ·exact LV.le_int (by omega)
 ·have hkl:2*i+1<m.length:=hkl0
  have hki:par (2*i+1)=i:=(Lm (by omega)).2 (.inl rfl)
  have hmin:=W9 (f:=qat m) (n:=m.length) (i:=i) (k:=2*i+1) (.inl ⟨rfl,λhx hh=>by rw[hz1.2 hh]at c4;cases c4⟩)
  refine Qc zb So ?_
  refine za (o:=F2.obj p) _ hQ.hp ?_
  refine⟨2*i+1,by omega,hkl,?_⟩
  refine za (o:=F2.obj b) _ hQ.hb ?_
  refine xg (i:=ti538) (row:=itC (qat m (2*i+1))) rfl rfl (kx hkl) ?_
  refine za (o:=F2.obj p) _ hQ.hp ?_
  refine⟨i,rfl,hil,?_⟩
  refine za (o:=F2.obj b) _ hQ.hb ?_
  refine xg (i:=ti538) (row:=itC (qat m i)) rfl rfl (kx hil) ?_
  refine⟨Li _ _ _ _ (λz hz=>⟨Tv,?_⟩),Tv⟩
  refine ym ?_
  refine zj (λc2=>?_) (λc2=>?_)
  rotate_left
  ·have hF:=hfin F2 m (.inr ⟨b,cap,_,hQ⟩) (Su hD hmin (λhh=>by rw[hz.2 hh]at c2;cases c2)) hP
   refine Qc zb Nn ?_
   refine⟨⟨⟨rfl,Tv⟩,⟨⟨Tv,⟨⟨Tv,?_⟩,Tv⟩⟩,Tv⟩⟩,Tv⟩
   exact ret hF
  obtain⟨hD2,hP2⟩:=Sv hD (by omega) hkl hki hmin (hz.1 c2)
  have hS1:=hQ.set hil (qat m (2*i+1))
  have hkl2:2*i+1<(m.set i (qat m (2*i+1))).length:=by rw[Fa8];exact hkl
  have hS2:=hS1.set hkl2 (qat m i)
  refine Qc zb Sn ?_
  refine za (o:=F2.obj p) _ hQ.hp ?_
  refine za (o:=F2.obj p) _ hQ.hp ?_
  refine za (o:=F2.obj p) _ hQ.hp ?_
  refine⟨2*i+1,by omega,hkl,?_⟩
  refine za (o:=F2.obj b) _ hQ.hb ?_
  refine xg (i:=ti538) (row:=itC (qat m (2*i+1))) rfl rfl (kx hkl) ?_
  refine za (o:=F2.obj p) _ hQ.hp ?_
  refine⟨i,rfl,hil,?_⟩
  refine za (o:=F2.obj b) _ hQ.hb ?_
  refine xg (i:=ti538) (row:=itC (qat m i)) rfl rfl (kx hil) ?_
  refine⟨i,rfl,hil,?_⟩
  refine⟨?_,Tv⟩
  refine za _ rfl (ju rfl (jo (v:=.agg (itC (qat m (2*i+1)))) rfl rfl rfl rfl ?_))
  refine wt (i:=ti538) (xs:=itC (qat m (2*i+1))) rfl rfl rfl hQ.hb (Fg hil _) ?_
  refine⟨Tv,?_⟩
  refine⟨2*i+1,by omega,hkl,?_⟩
  refine⟨?_,Tv⟩
  refine za _ rfl (ju rfl (jo (v:=.agg (itC (qat m i))) rfl rfl rfl rfl ?_))
  refine wt (i:=ti538) (xs:=itC (qat m i)) rfl rfl rfl hS1.hb (Fg hkl2 _) ?_
  refine⟨Tv,?_⟩
  have hlen2:(kl m i (2*i+1)).length=m.length:=Ii _ _ _
  refine⟨(2*i+1,_,kl m i (2*i+1)),?_,⟨rfl,hS2,hD2,hP2.trans hP,by dsimp only;omega,by dsimp only;omega⟩,⟨Tq,Tq,Tq,?_,Tv⟩,⟨rfl,Tv⟩⟩
  ·show n-(2*i+1)<n-i
   omega
  ·exact LV.le_int (by omega)
theorem Cs{p:Vc}(h:qw p):p.ok:=by
 unfold qw at h
 exact⟨⟨by omega,by omega⟩,⟨by omega,by omega⟩⟩
theorem zxq{p q:Vc}(hp:qw p)(hq:qw q):wq (if qq p q=(0,0)then(65536,0)else qq p q):=by
 split
 ·unfold wq;decide
 ·exact My hq hp
theorem zv3{v:Vc}(h:wq v):0<=j1 (sqr v):=(Iw (Ha (G7 h)).2.2.1).1
theorem zr1(p:Vc)(r:Int)(q:Vc)(hp:qw p)(hq:qw q)(hr:0<=r/\r<=1048576)(st:Store)(R:Ja)(h:R (.agg (zy (wi p r q))) st):
  Jb 210 [.agg (zy p),int r,.agg (zy q)] st R:=by
 have ht:=My hq hp
 have hsq:=(Ha (G7 ht)).2.2.1
 have hr0:=zv3 ht
 have harg:=zxq hp hq
 have hri:=Iw hsq
 unfold wi at h
 refine Qa (c:=cfg 29) zb Tryz.func210 ?_
 refine Mw p q r (Cs hp) (Cs hq) (by omega) _ _ ?_
 refine ym ?_
 refine zj (λc1=>?_) (λc1=>?_)
 rotate_left
 ·rw[if_neg (by rw[c1];decide)]at h
  exact ret h
 rw[if_pos c1]at h
 refine Mz p q (Cs hp) (Cs hq) _ _ ?_
 refine Vw _ (Ia p q) _ _ (λL hL=>?_)
 have hL2:=im hsq hL
 subst hL2
 have hLb:j1 (sqr (qq p q))<=1099511627776*2:=by
  obtain⟨_,_,h3,_⟩:=hri
  have e:=(Ha (G7 ht)).1
  unfold wq at ht
  generalize j1 (sqr (qq p q))=L at*
  by_cases hh:L<=1099511627776*2
  ·exact hh
  ·exfalso
   have h4:(1099511627776*2+1)*(1099511627776*2+1)<=L*L:=Fbk (by omega) (by omega) (by omega) (by omega)
   have h5:(qq p q).1*(qq p q).1<=1099511627776*1099511627776:=by
    rw[Kx]
    exact Fbk (by omega) (by omega) (by omega) (by omega)
   have h6:(qq p q).2*(qq p q).2<=1099511627776*1099511627776:=by
    rw[Kx]
    exact Fbk (by omega) (by omega) (by omega) (by omega)
   omega
 have hfs:yn r (j1 (sqr (qq p q)))=r-j1 (sqr (qq p q)):=by
  unfold yn
  rw[ji (by omega),Ma (by omega) (by omega)]
  omega
 refine F7 _ _ ⟨by omega,by omega⟩ ⟨by omega,by omega⟩ _ _ ?_
 rw[hfs]
 generalize j1 (sqr (qq p q))=L at*
 generalize qq p q=d at*
 refine zj (λc2=>?_) (λc2=>?_)
 ·have c2:d=(0,0):=by
   simp only[Fax,beq_iff_eq]at c2
   exact Prod.ext c2.1 c2.2.1
  rw[if_pos c2]at h harg
  subst c2
  refine Py (65536,0) (r-L) harg (by omega) _ _ ?_
  exact ret h
 ·have c2:¬d=(0,0):=λe=>by
   rw[e]at c2
   exact absurd c2 (by decide)
  rw[if_neg c2]at h harg
  refine Py d (r-L) harg (by omega) _ _ ?_
  exact ret h
theorem dg{v:Vc}{m:Int}(hs:wq v):(je v m).ok:=by
 by_cases hm:0<=m
 ·have:=(sx (G7 hs) hm).1
  unfold wh at this
  exact⟨⟨by omega,by omega⟩,⟨by omega,by omega⟩⟩
 ·have e:je v m=je v 0:=by
   unfold je
   rw[show max m 0=max 0 0 by omega]
  rw[e]
  have:=(sx (G7 hs) (Fcx 0)).1
  unfold wh at this
  exact⟨⟨by omega,by omega⟩,⟨by omega,by omega⟩⟩
end Go.Proofs
