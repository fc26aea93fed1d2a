/- Ground of laws of thronglaw25: contracts and plain lemmas; no condition beyond the row's own. -/
import Derived.Test.YtdfpifbbcigelaaGreatKX
import Derived.Test.YtdfpifbbcigelaaGreatKW
set_option linter.unusedSimpArgs false
set_option linter.unusedVariables false
namespace Go.Proofs
open Go Go.V
set_option maxRecDepth 20000
set_option maxHeartbeats 4000000
end Go.Proofs
namespace Go.Proofs
open Go Go.V
set_option maxRecDepth 20000
set_option maxHeartbeats 4000000
end Go.Proofs
namespace Go.Proofs
open Go Go.V
set_option maxRecDepth 20000
set_option maxHeartbeats 4000000
end Go.Proofs
namespace Go.Proofs
open Go Go.V
set_option maxRecDepth 20000
set_option maxHeartbeats 4000000
end Go.Proofs
namespace Go.Proofs
open Go Go.V
set_option maxRecDepth 20000
set_option maxHeartbeats 4000000
theorem zr3{Nu N:Store}{w:Wld}{v:AV}(hu:RowsQ 10 zj Nu v w.U)(hp:playW w)(hd:zh Nu N){fb:Nat}{room:Int}{k:Nat}(hF:FldAny fb room (k:Nat) N)(hk:k<=1000000000000000000)(R:Ja)
  (h:∀X N',RowsQ 10 zj X v (xe w).U->zh X N'->FldAny fb room ((k+w.U.length:Nat):Int) N'->R (.agg (qp (xe w) v)) (X.un N')):Jb 95 [.agg (qp w v),ptr fb] (Nu.un N) R:=by
 have hm:=Cj hp.1
 have hU:=hm.hU
 obtain⟨oa,cap,ev,hget⟩:=hu.form
 subst ev
 refine Qa (c:=cfg 45 [13] []) zb Tryz.func95 ?_
 refine ACalls.frame hd (zq3 w _ Nu hu (by omega) hp.2 (λr S=>∃F s p L o0 o1 o2,r=ptr s/\S=F.un (svS Nu s w (.s (.slice oa w.U.length cap)) o0 o1 o2 p)/\Fresh Nu s/\StandR F Nu s p w (.s (.slice oa w.U.length cap)) L o0 o1 o2/\L.length<=w.U.length/\(yh w.U->∀e,e∈L↔∃u∈w.U,u.inn=0/\e=(u.id,u.pos))) (λF s p L o0 o1 o2 h1 h2 h3 h4=>⟨F,s,p,L,o0,o1,o2,rfl,rfl,h1,h2,h3,h4⟩)) ?_
 rintro r S ⟨F,s,p,L,o0,o1,o2,rfl,rfl,hs,hS,hLl,hmem⟩ hd1
 refine zzk rfl (it:=ti162) rfl rfl ?_
 intro mb hmb
 have hmbF:=fresh_un hmb
 have hnF:¬F.has mb/\¬(svS Nu s w (.s (.slice oa w.U.length cap)) o0 o1 o2 p).has mb:=by
  have:=fresh_iff.1 hmbF.1
  exact⟨λhh=>this (un_has.2 (.inl hh)),λhh=>this (un_has.2 (.inr hh))⟩
 have hmN2:¬N.has mb:=fresh_iff.1 hmbF.2
 have hms:mb≠s:=λe=>hnF.2 (svS_has.2 (.inl e))
 have hmN:¬Nu.has mb:=λhh=>hnF.2 (svS_has.2 (.inr hh))
 have hmN0:Nu.obj mb=none:=(vo hmN).1
 have omb:w9 (.s (.slice oa w.U.length cap)) mb:=Px hu hmN0
 have oms:w9 (.s (.slice oa w.U.length cap)) s:=Px hu hS.hs
 have e0:((F.un (svS Nu s w (.s (.slice oa w.U.length cap)) o0 o1 o2 p)).un N).sO mb (AObj.cells [AV.s (Value.pointer (some {block:=s,off:=0})),AV.s (Value.iface 162 (Value.pointer (some {block:=fb,off:=0})))])=(F.un (svS (Nu.sO mb (.cells [ptr s,Kg fb])) s w (.s (.slice oa w.U.length cap)) o0 o1 o2 p)).un N:=by
  rw[K6 hmN2,zm]
  unfold svS
  rw[Gw hms]
  rfl
 have hW:MoverG (Kg fb) F (Nu.sO mb (.cells [ptr s,Kg fb])) mb s p w (.s (.slice oa w.U.length cap)) L o0 o1 o2:=
  ⟨⟨hS.hc,λi h1 h2=>by
    rcases svS_has.1 h2 with h2|h2
    ·exact hS.hd i h1 (svS_has.2 (.inl h2))
    ·rcases has_setObj_iff.1 h2 with h2|h2
     ·subst h2;exact hnF.1 h1
     ·exact hS.hd i h1 (svS_has.2 (.inr h2)),by rw[ze (Ne.symm hms)];exact hS.hs,hu.set omb _,hS.h0,hS.h1,hS.h2⟩,zc _ _ _,omb,oms,hLl,hmem hp.1.1.2.1⟩
 have hd2:zh (F.un (svS (Nu.sO mb (.cells [ptr s,Kg fb])) s w (.s (.slice oa w.U.length cap)) o0 o1 o2 p)) N:=λi h1 h2=>by
  rcases un_has.1 h1 with h1|h1
  ·exact hd1 i (un_has.2 (.inl h1)) h2
  ·rcases svS_has.1 h1 with h1|h1
   ·exact hd1 i (un_has.2 (.inr (svS_has.2 (.inl h1)))) h2
   ·rcases has_setObj_iff.1 h1 with h1|h1
    ·subst h1;exact hmN2 h2
    ·exact hd1 i (un_has.2 (.inr (svS_has.2 (.inr h1)))) h2
 rw[e0]
 clear e0 hmbF hmb hnF hd1 hS hs hLl hmem
 refine AWp.loop (σ:=Nat) ⟨λi=>[(5,.av (ptr mb)),(16,.av (int (w.U.length:Nat))),(17,.av (int (i:Nat))),(4,.bx 4 0)],λ_=>[(4,Aj)],
  λi S=>i<=w.U.length/\∃F G L q0 q1 q2 n N,S=(F.un (svS G s (goN w i) (.s (.slice oa w.U.length cap)) q0 q1 q2 p)).un N/\MoverG (Kg fb) F G mb s p (goN w i) (.s (.slice oa w.U.length cap)) L q0 q1 q2/\zh (F.un (svS G s (goN w i) (.s (.slice oa w.U.length cap)) q0 q1 q2 p)) N/\FldAny fb room ((k+n:Nat):Int) N/\n<=i,λi=>w.U.length-i⟩ zb ?_ ?_
 ·exact⟨0,Tv,⟨Faq _,F,_,L,o0,o1,o2,0,N,rfl,hW,hd2,hF,Fak _⟩,⟨Tq,Tq,Tq,Tq,Tv⟩,⟨rfl,Tv⟩⟩
 clear hW hd2 hF hd hmN2 hmN hmN0 hms omb oms hu hget
 rintro i S ⟨hi,F1,G1,L1,q0,q1,q2,n,N1,rfl,hW,hd1,hF,hn⟩
 obtain⟨hpi,hli,_,_⟩:=Ms hp i
 have hmi:=Cj hpi.1
 refine bcd (λh1=>?_) (λh1=>?_)
 ·have hlt:i<w.U.length:=by omega
  have hil:i<(goN w i).U.length:=by omega
  obtain⟨oa2,cap2,ev2,hget2⟩:=hW.S.hu.form
  obtain⟨b,J,hoa,hob0⟩:=hget2 i hil
  have hoa3:oa=some ⟨b,0,none⟩:=by
   simp only[AV.s.injEq,Value.slice.injEq]at ev2
   rw[ev2.1,hoa]
  subst hoa3
  have hbs:b≠s:=λe=>by rw[e,hW.S.hs]at hob0;cases hob0
  have hob:((F1.un (svS G1 s (goN w i) (.s (.slice (some ⟨b,0,none⟩) w.U.length cap)) q0 q1 q2 p)).un N1).obj b=some (.cells ((rws zj (goN w i).U).flatten++J)):=yn hd1 (zd (by
   show(G1.sO s _).obj b=_
   rw[ze hbs];exact hob0))
  refine za (o:=((F1.un (svS G1 s (goN w i) (.s (.slice (some ⟨b,0,none⟩) w.U.length cap)) q0 q1 q2 p)).un N1).obj mb) _ (yn hd1 hW.m) ?_
  refine za (o:=((F1.un (svS G1 s (goN w i) (.s (.slice (some ⟨b,0,none⟩) w.U.length cap)) q0 q1 q2 p)).un N1).obj s) _ (yn hd1 hW.s) ?_
  refine⟨i,rfl,hlt,?_⟩
  refine za (o:=((F1.un (svS G1 s (goN w i) (.s (.slice (some ⟨b,0,none⟩) w.U.length cap)) q0 q1 q2 p)).un N1).obj b) _ hob ?_
  refine qx (i:=ti36) (row:=zj (goN w i).U[i]) rfl rfl (Pd Bg hil) ?_
  refine qs (λc1=>?_) (λc1=>?_)
  ·have hg:=zum hil c1
   refine pq (ztv hmi fb room k (n+1) (by omega)) (Nat.lt_succ_self n) hW hd1 hF hpi.1 hpi.2 hil c1 _ (λF2 G2 L2 a0 a1 a2 n2 N2 hn2 hW2 hd2 hF2=>?_)
   refine Qd ?_
   refine⟨i+1,(show w.U.length-(i+1)<w.U.length-i by omega),⟨hlt,F2,G2,L2,a0,a1,a2,n2,N2,?_,?_,?_,hF2,by omega⟩,Qaf,⟨rfl,Tv⟩⟩
   ·rw[hg]
   ·rw[hg];exact hW2
   ·rw[hg];exact hd2
  ·have hg:=zul hil c1
   refine Qd ?_
   refine⟨i+1,(show w.U.length-(i+1)<w.U.length-i by omega),⟨hlt,F1,G1,L1,q0,q1,q2,n,N1,?_,?_,?_,hF,by omega⟩,Qaf,⟨rfl,Tv⟩⟩
   ·rw[hg]
   ·rw[hg];exact hW
   ·rw[hg];exact hd1
 ·have:i=w.U.length:=by omega
  subst this
  obtain⟨oa2,cap2,ev2,_⟩:=hW.S.hu.form
  refine za (o:=((F1.un (svS G1 s (goN w w.U.length) (.s (.slice oa w.U.length cap)) q0 q1 q2 p)).un N1).obj mb) _ (yn hd1 hW.m) ?_
  refine za (o:=((F1.un (svS G1 s (goN w w.U.length) (.s (.slice oa w.U.length cap)) q0 q1 q2 p)).un N1).obj s) _ (yn hd1 hW.s) ?_
  exact ret (h _ _ (Lf hW.S.hs hW.S.hu).un hd1 (hF.mono (by omega)))
def wh(g:Gnd)(n:Int):Wld:=⟨0,n,1,g,[],[]⟩
def vd(g:Gnd)(n:Int):Prop:=zp g/\1<=n/\n<=8
theorem Vj{G:Store}{g:Gnd}{v:AV}(n:Int)(hn:ya n)
  (hMay:∀R:AV->Store->Prop,(∀b:Bool,(b=true↔zp g)->R (V.bool b) G)->Jb 88 [.agg [int g.W,int g.H,v]] G R)
  (hOwn:∀R:AV->Store->Prop,(∀vT N,RowsQ 1 u8C N vT g.T->zh N G->R (.agg [int g.W,int g.H,vT]) (N.un G))->Jb 89 [.agg [int g.W,int g.H,v]] G R):
  Jb 39 [.agg [int g.W,int g.H,v],int n] G λr S=>(¬vd g n/\r=.tup [.agg Aj,int 1]/\S=G)∨
   (vd g n/\∃vT N,RowsQ 1 u8C N vT g.T/\zh N G/\r=.tup [.agg [int 0,int n,int 1,int g.W,int g.H,vT,nil,nil],int 0]/\S=N.un G):=by
 refine Qa (c:=cfg 22) zb Tryz.func39 ?_
 refine hMay _ (λz hz=>?_)
 have bad:¬vd g n->(¬vd g n/\(.tup [.agg Aj,int 1]:AV)=.tup [.agg Aj,int 1]/\G=G)∨
   (vd g n/\∃vT N,RowsQ 1 u8C N vT g.T/\zh N G/\(.tup [.agg Aj,int 1]:AV)=.tup [.agg [int 0,int n,int 1,int g.W,int g.H,vT,nil,nil],int 0]/\G=N.un G):=λh=>.inl ⟨h,rfl,rfl⟩
 refine qd ?_
 refine zk (λc1=>?_) (λc1=>?_)
 rotate_left
 ·exact ret (bad λhh=>by have:=hz.2 hh.1;rw[this]at c1;cases c1)
 refine bcd (λc2=>?_) (λc2=>?_)
 ·exact ret (bad λhh=>by have:=hh.2;omega)
 refine bcd (λc3=>?_) (λc3=>?_)
 ·exact ret (bad λhh=>by have:=hh.2;omega)
 refine hOwn _ (λvT N hv hd=>?_)
 have hform:=hv.form
 obtain⟨oa,cap,rfl,_⟩:=hform
 exact ret (.inr ⟨⟨hz.1 c1,by omega,by omega⟩,_,N,hv,hd,rfl,rfl⟩)
theorem nr(g:Gnd)(hg:g.fits)(hT:g.T.length<=1000000000)(n:Int)(hn:ya n)(st:Store)(R:Ja)
  (hbad:¬vd g n->R (.tup [.agg Aj,int 1]) st) (hok:vd g n->R (.tup [.agg (zu (wh g n)),int 0]) st):Jb 39 [.agg (zo g),int n] st R:=by
 refine Fp (Q:=λr=>(¬vd g n/\r=.tup [.agg Aj,int 1])\/(vd g n/\r=.tup [.agg (zu (wh g n)),int 0])) ?_ st R λr hr=>?_
 ·refine(Vj (G:=Store.empty) (v:=qk g.T) n hn (λR h=>Rv g hg _ R h) (λR h=>Mr g hT _ R h)).frozen ?_
  rintro r S (⟨h1,rfl,rfl⟩|⟨h1,vT,N,hv,hd,rfl,rfl⟩)
  ·exact⟨_,.inl ⟨h1,rfl⟩,λOth M w v sto hx=>xk hx⟩
  ·refine⟨_,.inr ⟨h1,rfl⟩,λOth M w v sto hx=>hx.tup2 (λx hx=>?_) (λx hx=>xk hx)⟩
   have ho:OwnQ (N.un Store.empty) (wh g n) vT nil nil N Store.empty Store.empty:=⟨by rw[vf,vf,ky],hv,.inl (.inl ⟨rfl,rfl⟩),.inl (.inl ⟨rfl,rfl⟩),F5 _,F5 _⟩
   exact L4 ho sto hx
 ·rcases hr with⟨h1,rfl⟩|⟨h1,rfl⟩
  ·exact hbad h1
  ·exact hok h1
def Ba(w:Wld)(fb:Nat):List AV:=zu w++[ptr fb]
structure EngR(eb:Nat)(room:Int)(k:Nat)(w:Wld)(S:Store):Prop where
 out:∃N fb,S=N.sO eb (.cells (Ba w fb))/\¬N.has eb/\FldAny fb room (k:Nat) N
theorem FldAny.objs0{fb:Nat}{room k:Int}{N:Store}(h:FldAny fb room k N):FldAny fb room k N.objs0:=h.objs
theorem nn(w:Wld)(hw:w.fits)(hn:∀u∈w.U,u.pos.ok)(hT:w.G.T.length<=1000000)(hB:w.B.length<=1000000)(hU:w.U.length<=1000000)(room:Int)(hr:1<=room/\room<=4096)(R:Ja)
  (hbad:¬zw w->R (.tup [.s (.pointer none),int 1]) Store.empty) (hok:zw w->∀eb S,EngR eb room 0 w S->R (.tup [ptr eb,int 0]) S):Jb 43 [.agg (zu w),int room] Store.empty R:=by
 have key:Jb 43 [.agg (zu w),int room] Store.empty λr S=>(¬zw w/\r=.tup [.s (.pointer none),int 1])∨
   (zw w/\∃X N eb fb vT vB vU NT NB NU,OwnQ X w vT vB vU NT NB NU/\zh X N/\¬X.has eb/\¬N.has eb/\FldAny fb room ((0:Nat):Int) N/\r=.tup [ptr eb,int 0]/\S=(X.un N).sO eb (.cells (Cx w vT vB vU++[ptr fb]))):=by
  refine Qa (c:=cfg 25 [24] []) zb Tryz.func43 ?_
  refine zu2 room hr _ (λN fb hF=>?_)
  refine zr8 w hw hn _ _ (λz hz=>?_)
  refine qd ?_
  refine zk (λc1=>?_) (λc1=>?_)
  rotate_left
  ·exact ret (.inl ⟨λhh=>(by have:=hz.2 hh;rw[this]at c1;cases c1),rfl⟩)
  have hown:Jb 91 [.agg (zu w)] (Store.empty.un N) λr S=>∃X vT vB vU NT NB NU,OwnQ X w vT vB vU NT NB NU/\zh X N/\r=.agg (Cx w vT vB vU)/\S=X.un N:=
   ACalls.frame (Sg N) (Pt w (by omega) (by omega) (by omega) (λr S=>∃vT vB vU NT NB NU,OwnQ S w vT vB vU NT NB NU/\r=.agg (Cx w vT vB vU)) (λS vT vB vU NT NB NU h=>⟨vT,vB,vU,NT,NB,NU,h,rfl⟩)) (λr a' ⟨vT,vB,vU,NT,NB,NU,h1,h2⟩ hd=>⟨a',vT,vB,vU,NT,NB,NU,h1,hd,h2,rfl⟩)
  rw[vf]at hown
  refine hown.imp ?_
  rintro r S ⟨X,vT,vB,vU,NT,NB,NU,ho,hd,rfl,rfl⟩
  obtain⟨rT,rB,rU⟩:=Pu ho
  obtain⟨_,_,e1,_⟩:=rT.form
  obtain⟨_,_,e2,_⟩:=rB.form
  obtain⟨_,_,e3,_⟩:=rU.form
  subst e1 e2 e3
  intro eb heb
  have heb:=fresh_iff.1 heb
  exact ret (.inr ⟨hz.1 c1,X,N,eb,fb,_,_,_,NT,NB,NU,ho,hd,λh=>heb (un_has.2 (.inl h)),λh=>heb (un_has.2 (.inr h)),hF,rfl,rfl⟩)
 refine key.frozenEng ?_
 rintro r S (⟨h1,rfl⟩|⟨hm,X,N,eb,fb,vT,vB,vU,NT,NB,NU,ho,hd,h1,h2,hF,rfl,rfl⟩)
 ·exact .inl (hbad h1)
 ·refine .inr ⟨_,X,N,eb,Cx w vT vB vU,zu w,_,hd,h1,h2,rfl,rfl,hok hm eb _ ⟨_,fb,rfl,?_,hF.objs0⟩,λOth M W sto=>⟨λx hx=>L4 ho sto hx,λx hx=>xk hx⟩⟩
  exact λh=>h2 (h.elim .inl λh=>absurd rfl h)
section
variable {eb k:Nat} {room:Int} {w:Wld} {S:Store}
theorem Qad{p:Prop}(h:p:=by repeat(first|exact Tv|refine⟨rfl,?_⟩|refine⟨za (o:=(qr _ Nt eb fb W).obj eb) _ (By _ _ _ _ _) rfl,?_⟩)):p:=h
def dk(fb:Nat):AV:=.s (.func (.func 94) #[.pointer (some ⟨fb,0,none⟩)] #[])
def DoC:Prop:=∀(fb:Nat) (room:Int) (k:Nat) (N:Store) (w:Wld) (c:Cmd),FldAny fb room (k:Nat) N->playW w->c.fits->∀R:AV->Store->Prop,(∀N',FldAny fb room (k:Nat) N'->R (.tup [.agg (zu (doW aE aW w c)),int (doE aE w c)]) N')->
 Jb 93 [.agg (zu w),.agg (vg c),dk fb] N R
def qr(N Nt:Store)(eb fb:Nat)(w:Wld):Store:=N.un (Nt.sO eb (.cells (Ba w fb)))
theorem By(N Nt:Store)(eb fb:Nat)(w:Wld):(qr N Nt eb fb w).obj eb=some (.cells (Ba w fb)):=zd (zc _ _ _)
theorem M8{a g:Store}{b:Nat}{x y:AObj}(h:zh a (g.sO b x)):zh a (g.sO b y):=λi h1 h2=>h i h1 (has_setObj_iff.2 (has_setObj_iff.1 h2))
theorem zmb(hE:EngR eb room k w S)(hw:playW w)(l:List Cmd)(hl:l=[]\/DoC)(hf:∀c∈l,c.fits)(hl2:l.length<=512)(ht:w.tick<1099511627776)(hk:k<=100000000000000000):
  Jb 47 [ptr eb,lst 10 vg l] S λr S'=>∃(N:Store) (fb:Nat) (X Nt:Store) (v vt:AV),r=.tup [vt,int 0]/\S'=(X.un N).un (Nt.sO eb (.cells (qp (F4 w l) v++[ptr fb])))∧
   RowsQ 10 zj X v (F4 w l).U/\RowsQ 1 yo Nt vt (kr w l)/\zh X N/\zh (X.un N) (Nt.sO eb (.cells []))/\¬Nt.has eb/\FldAny fb room ((k+4096:Nat):Int) N:=by
 obtain⟨N,fb,rfl,hn,hF⟩:=hE.out
 refine Qa (c:=cfg 74) zb Tryz.func47 ?_
 refine za (o:=(N.sO eb _).obj eb) _ (zc _ _ _) ?_
 refine qs (λc1=>absurd c1 (by omega)) (λ_=>?_)
 refine bcd (λc2=>absurd c2 (by rw[zr];omega)) (λ_=>?_)
 have e0:N.sO eb (.cells (Ba w fb))=qr N Store.empty eb fb w:=by
  unfold qr
  rw[<-zm,ky]
 have hd0:zh N (Store.empty.sO eb (.cells [])):=λi h1 h2=>by
  rcases has_setObj_iff.1 h2 with rfl|h2
  ·exact hn h1
  ·exact h2.elim (λh=>h rfl) (λh=>h rfl)
 rw[e0]
 refine AWp.loop (σ:=Nat×Store×Store×AV) ⟨λx=>[(0,.av (ptr eb)),(6,.av x.2.2.2),(22,.av (lst 10 vg l)),(23,.av (int (l.length:Nat))),(24,.av (int (x.1:Nat)))],λ_=>[],
  λx st'=>x.1<=l.length/\st'=qr x.2.1 x.2.2.1 eb fb (xc w (l.take x.1))/\RowsQ 1 yo x.2.2.1 x.2.2.2 (kr w (l.take x.1))/\zh x.2.1 (x.2.2.1.sO eb (.cells []))/\¬x.2.2.1.has eb/\FldAny fb room (k:Nat) x.2.1,λx=>l.length-x.1⟩ zb ?_ ?_
 ·refine⟨(0,N,Store.empty,.s (.slice none 0 0)),Tv,⟨Faq _,rfl,.inl (.inl ⟨rfl,rfl⟩),hd0,λh=>h.elim (λh=>h rfl) (λh=>h rfl),hF⟩,⟨Tq,Tq,Tq,?_,Tq,Tv⟩,Tv⟩
  show LV.le (.av (int ((rws vg l).length:Nat))) (.av (int (l.length:Nat)))
  rw[zr];exact Tq
 clear e0 hd0 hF hn hE
 rintro⟨i,N,Nt,vt⟩ st' ⟨hi,rfl,hvt,hd,hnt,hF⟩
 dsimp only at hi hvt hd hnt hF⊢
 refine bcd (λh1=>?_) (λh1=>?_)
 ·have hlt:i<l.length:=by omega
  obtain⟨q1,q2⟩:=zxd (w:=w) hlt
  have hp:=Pq (l.take i) hw
  refine⟨i,rfl,za _ (yd hlt) ?_⟩
  rcases hl with rfl|hDo
  ·exact absurd hlt (Fbh i)
  have hcall:∀R:AV->Store->Prop,(∀N',FldAny fb room (k:Nat) N'->zh N' (Nt.sO eb (.cells []))->R (.tup [.agg (zu (doW aE aW (xc w (l.take i)) l[i])),int (doE aE (xc w (l.take i)) l[i])]) (qr N' Nt eb fb (xc w (l.take i))))->
    Jb 93 [.agg (zu (xc w (l.take i))),.agg (vg l[i]),dk fb] (qr N Nt eb fb (xc w (l.take i))) R:=λR h=>
   ACalls.frame (M8 hd) (hDo fb room k N (xc w (l.take i)) l[i] hF hp (hf _ (Fab hlt)) (λr S=>FldAny fb room (k:Nat) S/\r=.tup [.agg (zu (doW aE aW (xc w (l.take i)) l[i])),int (doE aE (xc w (l.take i)) l[i])]) (λN' h=>⟨h,rfl⟩))
    λr a' ⟨h1,h2⟩ hd'=>h2▸h a' h1 (M8 hd')
  have hTl:(kr w (l.take i)).length<=i:=by rw[lg,Fat];omega
  have hoff:=Px hvt (vo hnt).1
  generalize xc w (l.take i)=W at*
  generalize kr w (l.take i)=T at*
  generalize doW aE aW W l[i]=W2 at*
  generalize doE aE W l[i]=e2 at*
  refine Qc zb znk ?_
  refine za (o:=(qr N Nt eb fb W).obj eb) _ (By _ _ _ _ _) ?_
  refine za (o:=(qr N Nt eb fb W).obj eb) _ (By _ _ _ _ _) ?_
  refine⟨hcall _ λN' hF' hd'=>⟨Tv,⟨⟨Qad,⟨⟨Tv,⟨⟨Tv,?_⟩,Tv⟩⟩,Tv⟩⟩,Tv⟩⟩,⟨⟨Qad,⟨hcall _ λN' hF' hd'=>⟨Tv,⟨⟨Tv,⟨⟨Tv,?_⟩,Tv⟩⟩,Tv⟩⟩,Tv⟩⟩,Tv⟩⟩
  all_goals
   refine Qc zb znm ?_
   have hvtN:RowsQ 1 yo (qr N' Nt eb fb W) vt T:=(hvt.set hoff _).un
   refine⟨by decide,Np (ie:=ti2) rfl Mi (by decide) (v:=vt) (l:=T) hvtN e2 rfl (by omega) (λb cap L h5 h6 h7 h8=>?_),Tv⟩
   have hbe:b≠eb:=by
    rcases h5 with h5|⟨c0,h0,h5⟩
    ·exact λe=>fresh_iff.1 h5 (by rw[e];exact xq (By _ _ _ _ _))
    ·exact hoff b _ c0 h5 h0
   have hbN:¬N'.has b:=by
    rcases h5 with h5|⟨c0,h0,h5⟩
    ·exact λe=>fresh_iff.1 h5 (un_has.2 (.inl e))
    ·exact λe=>hd' b e (has_setObj_iff.2 (.inr (hvt.has h5 h0)))
   have e1:(qr N' Nt eb fb W).sO b (.cells ((rws yo (T++[e2])).flatten++L))=qr N' (Nt.sO b (.cells ((rws yo (T++[e2])).flatten++L))) eb fb W:=by
    unfold qr
    rw[zm,Gw hbe]
   rw[e1]
   refine⟨?_,?_⟩
   ·first|exact rfl|(repeat(first|exact Tv|refine⟨rfl,?_⟩))
   refine⟨?_,Tv⟩
   refine za _ rfl (je rfl (xy (v:=.agg (zu W2)) rfl rfl rfl rfl ?_))
   refine kz (i:=ti27) (v:=.agg (zu W2)) (xs:=zu W2) (b:=eb) (o:=0) (l:=Ba W fb) rfl rfl rfl (By _ _ _ _ _) (show 0+8<=9 by decide) ⟨Tv,?_⟩
   refine Qaj ?_
   refine Qd ?_
   have e3:(qr N' (Nt.sO b (.cells ((rws yo (T++[e2])).flatten++L))) eb fb W).sO eb (.cells (Ba W2 fb))=qr N' (Nt.sO b (.cells ((rws yo (T++[e2])).flatten++L))) eb fb W2:=by
    unfold qr
    rw[zm,yk]
   refine⟨(i+1,N',Nt.sO b (.cells ((rws yo (T++[e2])).flatten++L)),_),(show l.length-(i+1)<l.length-i by omega),⟨by dsimp only;omega,?_,?_,?_,?_,hF'⟩,⟨Tq,Tq,Tq,Tq,Tq,Tv⟩,Tv⟩
   ·dsimp only;rw[q1];exact e3
   ·dsimp only;rw[q2];exact .inl (.inr ⟨b,cap,L,rfl,zc _ _ _,h6,h7,h8⟩)
   ·intro j h1 h2
    dsimp only at h1 h2
    rw[Gw (Ne.symm hbe)]at h2
    rcases has_setObj_iff.1 h2 with rfl|h2
    ·exact hbN h1
    ·exact hd' j h1 h2
   ·dsimp only
    intro h
    rcases has_setObj_iff.1 h with h|h
    ·exact hbe h.symm
    ·exact hnt h
 ·have:i=l.length:=by omega
  subst this
  rw[Fax]at hvt⊢
  have hp:=Pq l hw
  have htk:=lf l hw
  have hsz:=hp.sizes
  have hU:=(Cj hp.1).hU
  have heng:F4 w l=Gp (xc w l):=rfl
  generalize F4 w l=We at*
  generalize xc w l=W at*
  generalize kr w l=T at*
  have hown:∀R:AV->Store->Prop,(∀v X,RowsQ 10 zj X v W.U->zh X (qr N Nt eb fb W)->R (.agg (qp W v)) (X.un (qr N Nt eb fb W)))->Jb 91 [.agg (zu W)] (qr N Nt eb fb W) R:=λR h=>by
   rw[<-vf (qr N Nt eb fb W)]
   refine ACalls.frame (Sg _) (zqw W (by omega) (by omega) (by omega) (λr S=>∃v,RowsQ 10 zj S v W.U/\r=.agg (qp W v)) (λv N h=>⟨v,h,rfl⟩)) ?_
   rintro r a' ⟨v,h1,rfl⟩ hd'
   exact h v a' h1 hd'
  refine Qc zb znl ?_
  refine za (o:=(qr N Nt eb fb W).obj eb) _ (By _ _ _ _ _) ?_
  refine za (o:=(qr N Nt eb fb W).obj eb) _ (By _ _ _ _ _) ?_
  refine⟨hown _ (λv X hX hdX=>⟨(by repeat(first|exact rfl|exact Tv|refine⟨rfl,?_⟩|refine⟨za (o:=(X.un (qr N Nt eb fb W)).obj eb) _ (zd (By _ _ _ _ _)) rfl,?_⟩|refine za (o:=(X.un (qr N Nt eb fb W)).obj eb) _ (zd (By _ _ _ _ _)) rfl)),?_⟩),Tv⟩
  have hXN:zh X N:=λi h1 h2=>hdX i h1 (un_has.2 (.inl h2))
  have hXG:zh (X.un N) (Nt.sO eb (.cells (Ba W fb))):=disj_un.2 ⟨λi h1 h2=>hdX i h1 (un_has.2 (.inr h2)),M8 hd⟩
  have e1:X.un (qr N Nt eb fb W)=(X.un N).un (Nt.sO eb (.cells (Ba W fb))):=(H9 _ _ _).symm
  rw[e1]
  have hgo:=ACalls.frame hXG (zr3 hX hp hXN hF (by omega) (λr S=>∃Y N',RowsQ 10 zj Y v (xe W).U/\zh Y N'/\FldAny fb room ((k+W.U.length:Nat):Int) N'/\r=.agg (qp (xe W) v)/\S=Y.un N') (λY N' h1 h2 h3=>⟨Y,N',h1,h2,h3,rfl,rfl⟩)) (R':=λr S=>∃Y N',RowsQ 10 zj Y v (xe W).U/\zh Y N'/\FldAny fb room ((k+W.U.length:Nat):Int) N'/\r=.agg (qp (xe W) v)/\S=(Y.un N').un (Nt.sO eb (.cells (Ba W fb)))/\zh (Y.un N') (Nt.sO eb (.cells (Ba W fb)))) (λr a' ⟨Y,N',h1,h2,h3,h4,h5⟩ hd'=>⟨Y,N',h1,h2,h3,h4,by rw[h5],h5▸hd'⟩)
  refine⟨hgo.imp ?_,Tv⟩
  rintro r S ⟨Y,N',hY,hYN,hF',rfl,rfl,hdY⟩
  obtain⟨oa,cap,e2,_⟩:=hY.form
  subst e2
  refine⟨Tv,?_⟩
  refine⟨?_,Tv⟩
  refine za _ rfl (je rfl (xy (v:=.agg (qp (xe W) (.s (.slice oa (xe W).U.length cap)))) rfl rfl rfl rfl ?_))
  refine kz (i:=ti27) (v:=.agg (qp (xe W) (.s (.slice oa (xe W).U.length cap)))) (xs:=qp (xe W) (.s (.slice oa (xe W).U.length cap))) (b:=eb) (o:=0) (l:=Ba W fb) rfl rfl rfl (zd (zc _ _ _)) (show 0+8<=9 by decide) ⟨Tv,?_⟩
  rw[zm,yk]
  have hat:(xe W).tick=W.tick:=Hh W _
  have hw0:0<=w.tick:=hw.1.1.1.1.1.1
  refine za (o:=((Y.un N').un (Nt.sO eb _)).obj eb) _ (zd (zc _ _ _)) ?_
  refine Qd ?_
  refine C9 (i:=ti2) (v:=int ((xe W).tick+1)) (b:=eb) (o:=0) (l:=qp (xe W) (.s (.slice oa (xe W).U.length cap))++[ptr fb]) rfl rfl rfl (zd (zc _ _ _)) (show 0+1<=9 by decide) ?_
  rw[zm,yk]
  obtain⟨oc,cc,e4,_⟩:=hvt.form
  subst e4
  exact ret ⟨N',fb,Y,Nt,_,_,rfl,by rw[heng];rfl,by rw[heng];exact hY,hvt,hYN,M8 hdY,hnt,hF'.mono (by omega)⟩
theorem zvs(hE:EngR eb room k w S)(hw:playW w)(l:List Cmd)(hl:l=[]\/DoC)(hf:∀c∈l,c.fits)(hl2:l.length<=512)(ht:w.tick<1099511627776)(hk:k<=100000000000000000)(R:Ja)
  (h:∀S',EngR eb room (k+4096) (F4 w l) S'->R (.tup [lst 1 yo (kr w l),int 0]) S'):Jb 47 [ptr eb,lst 10 vg l] S R:=by
 refine(zmb hE hw l hl hf hl2 ht hk).frozenEng ?_
 rintro r S' ⟨N,fb,X,Nt,v,vt,rfl,rfl,hX,hvt,hXN,hd,hnt,hF⟩
 obtain⟨d1,d2⟩:=disj_un.1 hd
 have sub:∀{a:Store},zh a (Nt.sO eb (.cells []))->zh a Nt/\¬a.has eb:=λh=>⟨λi h1 h2=>h i h1 (has_setObj_iff.2 (.inr h2)),λh1=>h eb h1 (has_setObj_iff.2 (.inl rfl))⟩
 obtain⟨d3,d4⟩:=sub d1
 obtain⟨d5,d6⟩:=sub d2
 refine .inr ⟨.tup [lst 1 yo (kr w l),int 0],X.un Nt,N,eb,qp (F4 w l) v,zu (F4 w l),_,disj_un.2 ⟨hXN,Kp d5⟩,λh=>(un_has.1 h).elim d4 hnt,d6,?_,rfl,h _ ⟨_,fb,rfl,?_,hF.objs0⟩,λOth M W sto=>⟨λx hx=>?_,λx hx=>?_⟩⟩
 ·rw[<-zm,H9,H9,un_comm d5]
  rfl
 ·exact λh=>d6 (h.elim .inl λh=>absurd rfl h)
 ·exact nu (hX.unL d3) sto hx
 ·exact hx.tup2 (λx hx=>(hvt.un (a:=X)).borrow Mi Rq sto hx) λx hx=>xk hx
theorem zqx(w:Wld)(hT:w.G.T.length<=1000000000)(hB:w.B.length<=1000000000)(hU:w.U.length<=1000000000)(st:Store)(R:Ja)(h:R (.agg (zu w)) st):Jb 91 [.agg (zu w)] st R:=by
 refine Fp (Q:=λr=>r=.agg (zu w)) ?_ st R λr hr=>hr▸h
 refine(Pt w hT hB hU (λr S=>∃vT vB vU NT NB NU,OwnQ S w vT vB vU NT NB NU/\r=.agg (Cx w vT vB vU)) (λS vT vB vU NT NB NU h=>⟨vT,vB,vU,NT,NB,NU,h,rfl⟩)).frozen ?_
 rintro r S ⟨vT,vB,vU,NT,NB,NU,ho,rfl⟩
 exact⟨_,rfl,λOth M w' v' sto hx=>L4 ho sto hx⟩
theorem zvr(hE:EngR eb room k w S)(hs:w.G.T.length<=1000000/\w.B.length<=1000000/\w.U.length<=1000000)(R:Ja)(h:R (.agg (zu w)) S):Jb 51 [ptr eb] S R:=by
 obtain⟨N,fb,rfl,hn,hF⟩:=hE.out
 refine Qa (c:=cfg 8) zb Tryz.func51 ?_
 refine za (o:=(N.sO eb _).obj eb) _ (zc _ _ _) ?_
 refine zqx w (by omega) (by omega) (by omega) _ _ ?_
 exact ret h
end
section
variable {g:Gnd} {n:Int}
theorem Qae{p:Prop}(h:p:=by unfold ya;omega):p:=h
theorem zw8(l:List UInt8)(hl:l.length<=1000000)(R:Ja)(h:∀v N,RowsO 1 u8C N v l->R v N):Jb 87 [lst 1 u8C l] Store.empty R:=by
 refine Qa (c:=cfg 19) zb Tryz.func87 ?_
 refine AWp.loop (σ:=Nat×AV×Store) ⟨λs=>[(0,.av (lst 1 u8C l)),(3,.av s.2.1),(4,.av (int s.1))],λ_=>[],λs st'=>s.1<=l.length/\st'=s.2.2/\RowsO 1 u8C s.2.2 s.2.1 (l.take s.1),λs=>l.length-s.1⟩ zb ?_ ?_
 ·exact⟨(0,_,Store.empty),Tv,⟨Faq _,rfl,.inl ⟨rfl,rfl⟩⟩,⟨Tq,Tq,Tq,Tv⟩,Tv⟩
 ·rintro⟨i,v,N⟩ st' ⟨hi,rfl,ha⟩
  dsimp only at hi ha⊢
  refine zk (λh1=>?_) (λh1=>?_)
  ·have hlt:i<l.length:=Av h1
   refine⟨i,rfl,za _ (yd hlt) ?_⟩
   refine⟨by decide,?_⟩
   refine mp (ie:=ti5) rfl (λ_=>rfl) (by decide) ha l[i] rfl (by rw[Fat];omega) (λb cap L q1 q2 q3 q4=>?_)
   refine⟨⟨by omega,by omega⟩,?_⟩
   refine⟨(i+1,_,_),?_,⟨hlt,rfl,?_⟩,⟨Tq,Tq,Tq,Tv⟩,Tv⟩
   ·show l.length-(i+1)<l.length-i
    omega
   ·dsimp only
    rw[Fac hlt]
    exact .inr ⟨b,cap,L,rfl,zc _ _ _,q2,q3,q4⟩
  ·have hge:i=l.length:=Bu h1 hi
   subst hge
   rw[Fax]at ha
   exact ret (h _ _ ha)
theorem zw9(l:List UInt8)(hl:l.length<=1000000)(st:Store)(R:Ja)(h:∀v N,RowsO 1 u8C N v l->zh N st->R v (N.un st)):Jb 87 [lst 1 u8C l] st R:=by
 rw[<-vf st]
 exact ACalls.frame (Sg st) (zw8 l hl (λv N=>RowsO 1 u8C N v l) λv N hv=>hv) λv N hv hd=>h v N hv hd
theorem Na(g:Gnd)(hg:g.T.length<=1000000)(st:Store)(R:Ja)(h:∀v N,RowsO 1 u8C N v g.T->zh N st->R (.agg [int g.W,int g.H,v]) (N.un st)):Jb 38 [.agg (zo g)] st R:=by
 refine Qa (c:=cfg 10) zb Tryz.func38 ?_
 refine zw9 g.T hg _ _ (λv N hv hd=>?_)
 obtain⟨oa,cap,e,_⟩:=hv.q.form
 subst e
 exact ret (h _ N hv hd)
theorem Fi(e:Int)(st:Store)(R:Ja)(h:R (int e) st):Jb 41 [int e] st R:=by
 refine Qa (c:=cfg 4) zb Tryz.func41 ?_
 exact ret h
theorem zps(g:Gnd)(hg:g.fits)(n:Int)(st:Store)(R:Ja)(h:R (.agg (zu (wh g n))) st):Jb 37 [.agg (zo g),int n] st R:=by
 refine Qa (c:=cfg 9) zb Tryz.func37 ?_
 refine zw6 g hg _ _ ?_
 exact⟨.agg (zu (wh g n)),st,AV.le_aggL ⟨Tt,Tt,Tt,Tt,Tt,Tt,AV.le_nil 6,AV.le_nil 10,Tv⟩,Store.Has.refl _,h⟩
theorem K1{G:Store}{v:AV}(hv:RowsO 1 u8C G v g.T)(hg:g.fits)(hT:g.T.length<=1000000)(n:Int)(hn:ya n)(R:Ja)
  (hbad:¬vd g n->R (.tup [.agg Aj,int 1]) G.objs0) (hok:vd g n->R (.tup [.agg (zu (wh g n)),int 0]) G.objs0):Jb 39 [.agg [int g.W,int g.H,v],int n] G R:=by
 have hb:∀(Oth M:Nat->Nat->Prop) (w:World) (vs:List Value),StoreOK G Oth M w->Reads w (λb o=>M b o\/Oth b o) [.agg [int g.W,int g.H,v]] vs->Reads w (λb o=>(M b o\/Oth b o)/\G.obj b=none) [.agg (zo g)] vs:=λOth M w vs sto hr=>by
  obtain⟨h1,h2⟩:=hr
  refine⟨h1,λi x y hx hy=>?_⟩
  match i with
  |0=>
   cases hx
   cases h2 0 _ y rfl hy with
   |agg _ c hl hc=>
    refine .agg _ c hl λi x y hx hy=>?_
    match i with
    |0=>cases hx;exact xk (hc 0 _ y rfl hy)
    |1=>cases hx;exact xk (hc 1 _ y rfl hy)
    |2=>cases hx;exact hv.q.borrow Bh Ia sto (hc 2 _ y rfl hy)
    |i+3=>cases hx
  |i+1=>cases hx
 refine(Vj (G:=G) (v:=v) n hn (λR h=>?_) (λR h=>?_)).frozenTo ?_
 ·exact ACalls.read (Q:=λr=>∃b:Bool,(b=true↔zp g)/\r=V.bool b) hb (Rv g hg _ _ λb hb=>⟨b,hb,rfl⟩) (λr ⟨b,_,e⟩=>e▸Fz _) λr ⟨b,h1,e⟩=>e▸h b h1
 ·refine ACalls.readOwn (Q:=λr N=>∃vT,RowsQ 1 u8C N vT g.T/\Bx vT/\(∀b x,N.obj b=some x->Kh x)/\r=.agg [int g.W,int g.H,vT]) hb ?_ (λr N ⟨vT,h1,h2,h3,e⟩=>⟨?_,h3⟩) (λr N ⟨vT,h1,h2,h3,e⟩ hd=>e▸h vT N h1 hd)
  ·refine(Mr g (by omega) Store.empty (λr S=>∃vT N,RowsQ 1 u8C N vT g.T/\r=.agg [int g.W,int g.H,vT]/\S=N) (λv N h1 h2=>⟨v,N,h1,rfl,ky N⟩)).post (Store.Le.refl _) ?_
   rintro r S ⟨vT,N,h1,rfl,rfl⟩
   obtain⟨N2,k1,k2,k3,k4⟩:=h1.flatten Ia
   exact⟨_,N2,Tt,k1,vT,k2,k3,k4,rfl⟩
  ·subst e
   intro w T w' T' x hx
   cases hx with
   |agg _ c hl hc=>
    refine .agg _ c hl λi x y hx hy=>?_
    match i with
    |0=>cases hx;exact Fz _ _ _ _ _ _ (hc 0 _ y rfl hy)
    |1=>cases hx;exact Fz _ _ _ _ _ _ (hc 1 _ y rfl hy)
    |2=>cases hx;exact h2 _ _ _ _ _ (hc 2 _ y rfl hy)
    |i+3=>cases hx
 ·rintro r S (⟨h1,rfl,rfl⟩|⟨h1,vT,N,hvT,hd,rfl,rfl⟩)
  ·exact⟨_,_,hbad h1,λb x hx=>hx,λb x hx=>(by cases hx),λOth M W x sto hx=>hx.mono λb o h=>h.1⟩
  ·refine⟨_,_,hok h1,λb x hx=>zd hx,λb x hx=>(by cases hx),λOth M W x sto hx=>?_⟩
   have sN:StoreOK N Oth M W:=sto.weaken ⟨λb y hy=>yn hd hy,λb y hy=>H8 hd hy⟩
   have ht:∀b,((N.un G).obj b=none\/G.objs0.obj b≠none)->N.obj b=none:=λb hb=>by
    rcases hb with hb|hb
    ·exact(G8 hb).1
    ·cases hx:N.obj b with
     |none=>rfl
     |some y=>exact absurd (vo (hd b (xq hx))).1 hb
   have ho:OwnQ N (wh g n) vT nil nil N Store.empty Store.empty:=⟨by rw[vf,vf],hvT,.inl (.inl ⟨rfl,rfl⟩),.inl (.inl ⟨rfl,rfl⟩),F5 _,F5 _⟩
   exact VRel.mono (λb o h=>⟨h.1,ht b h.2⟩) (hx.tup2 (λx hx=>L4 ho sN hx) (λx hx=>xk hx))
theorem ei(h:vd g n):zw (wh g n):=
 ⟨⟨⟨⟨⟨Fcl _,show(0:Int)<=1099511627776 by decide⟩,h.2,⟨Fcl _,show(1:Int)<=1099511627776 by decide⟩⟩,⟨h.1,⟨Faq _,λj hj=>absurd hj (Fbh j),λb hb=>(by cases hb),λj hj=>absurd hj (Fbh j)⟩,Faq _⟩,λb hb=>(by cases hb)⟩,
  λj hj=>absurd hj (Fbh j),λu hu=>(by cases hu)⟩,λu hu=>(by cases hu),λu hu=>(by cases hu)⟩
theorem zqr(h:vd g n):playW (wh g n):=⟨ei h,λu hu=>(by cases hu)⟩
def Gg:Gnd:=⟨1,1,[0]⟩
theorem Vk:vd Gg 1:=by
 refine⟨⟨by decide,by decide,by decide,?_⟩,by decide,by decide⟩
 decide
theorem zrd{eb:Nat}{room:Int}{k:Nat}{w:Wld}{S:Store}(hE:EngR eb room k w S)(hw:playW w)(ht:w.tick<1099511627776)(hk:k<=100000000000000000)(R:Ja)
  (h:∀S',EngR eb room (k+4096) (Gp w) S'->R (.tup [lst 1 yo [],int 0]) S'):Jb 47 [ptr eb,.s (.slice none 0 0)] S R:=
 ACalls.le (ys:=[ptr eb,lst 10 vg []]) ⟨Tt,AV.le_nil 10,Tv⟩ (zvs hE hw [] (.inl rfl) (λc hc=>by cases hc) (by decide) ht hk R h)
theorem oo(st:Store)(R:Ja)(h:R (V.bool true) st):Jb 42 [] st R:=by
 refine Fp (Q:=λr=>r=V.bool true) ?_ st R λr hr=>hr▸h
 have hp:=zqr Vk
 refine Qa (c:=cfg 49) zb Tryz.func42 ?_
 refine⟨by decide,?_⟩
 refine ACalls.le (ys:=[.agg (zo Gg),int 1]) ⟨Tt,Tt,Tv⟩ (nr Gg (by unfold Gnd.fits;decide) (by decide) 1 (by unfold ya;decide) _ _ (λh=>absurd Vk h) (λ_=>?_))
 refine nn (wh Gg 1) (Cj hp.1).fits hp.2 (by decide) (by decide) (by decide) 1 (by decide) _ (λh=>absurd hp.1 h) (λ_ eb S hE=>?_)
 refine Fi _ _ _ ?_
 refine Fi _ _ _ ?_
 refine zrd hE hp (by decide) (by decide) _ (λS' hE'=>?_)
 refine Fi _ _ _ ?_
 have hp2:=zqq hp (by decide)
 have ht:=rp (wh Gg 1)
 refine zvr hE' hp2.sizes _ ?_
 generalize Gp (wh Gg 1)=W at*
 have e:W.tick=1:=ht
 refine⟨_,S',?_,Store.Has.refl _,rfl⟩
 rw[e]
 exact Tt
def w00:Wld:=⟨0,0,0,⟨0,0,[]⟩,[],[]⟩
theorem Vn:AV.le (.agg Aj) (.agg (zu w00)):=AV.le_aggL ⟨Tt,Tt,Tt,Tt,Tt,AV.le_nil 1,AV.le_nil 6,AV.le_nil 10,Tv⟩
theorem oq:w00.fits:=⟨by unfold Gnd.fits;decide,by decide,by decide⟩
theorem nl(a:Ask25)(hn:∀u∈a.S.W.U,u.pos.ok)(hfs:∀c∈a.S.L,c.sized):Jb 6 [.agg (Dx a)] Store.empty λr _=>r=V.bool true:=by
 refine Qa (c:=cfg 61) zb Tryz.func6 ?_
 refine ztr a.S hfs _ _ (λz hz=>?_)
 refine zk (λc1=>ret rfl) (λc1=>?_)
 have hg:=hz c1
 have hgT:a.S.W.G.T.length<=1000000:=by
  have:=hg.1
  unfold Kc at this
  omega
 have hgf:a.S.W.G.fits:=by unfold Gnd.fits;omega
 clear hg hz
 have e0:∀g:Gnd,Dx a=Dx a:=λ_=>rfl
 refine AWp.loop (σ:=Nat) ⟨λi=>[(1,.bx 1 0),(3,.av (int ((i:Int)-1)))],λi=>[(1,Dx a)],λi st'=>i<=11/\st'=Store.empty,λi=>11-i⟩ zb ?_ ?_
 ·exact⟨0,Tv,⟨Faq _,rfl⟩,⟨Tq,Tq,Tv⟩,⟨rfl,Tv⟩⟩
 rintro i st' ⟨hi,rfl⟩
 dsimp only at hi⊢
 refine bcd (λh1=>?_) (λh1=>?_)
 rotate_left
 ·refine oo _ _ ?_
  exact ret rfl
 have hwc:Dx a=[int a.S.W.tick,int a.S.W.players,int a.S.W.next,int a.S.W.G.W,int a.S.W.G.H,qk a.S.W.G.T,lst 6 zn a.S.W.B,lst 10 zj a.S.W.U,lst 10 vg a.S.L,int a.room,int a.n]:=rfl
 refine zty a.S.W.G hgf _ _ (λzg hzg=>?_)
 have e9:((i:Int)-1+1)=(((i+1:Nat):Int)-1):=by omega
 by_cases hP:vd a.S.W.G ((i:Int)-1)
 ·refine zk (λc2=>?_) (λc2=>absurd (hzg.2 hP.1) (by rw[c2];decide))
  refine bcd (λc3=>?_) (λc3=>absurd hP.2.1 (by omega))
  refine bcd (λc4=>?_) (λc4=>absurd hP.2.2 (by omega))
  refine zps a.S.W.G hgf _ _ _ ?_
  refine Na a.S.W.G hgT _ _ (λv N hv _=>?_)
  obtain⟨oa,cap,e,_⟩:=hv.q.form
  subst e
  rw[ky]
  refine K1 hv hgf hgT ((i:Int)-1) Qae _ (λh=>absurd hP h) (λ_=>?_)
  refine Lh (show RowsQ 1 u8C N.objs0 _ _ from hv.q) hgT _ ?_
  refine Fi _ _ _ ?_
  refine ig (wh a.S.W.G ((i:Int)-1)) (Cj (ei hP)).fits _ _ ?_
  refine Qd ?_
  exact⟨i+1,(show 11-(i+1)<11-i by omega),⟨by omega,rfl⟩,⟨Tq,e9▸Tq,Tv⟩,⟨rfl,Tv⟩⟩
 ·have go:=λ(R:Ja) (h:R (V.bool true) Store.empty)=>ACalls.le (xs:=[.agg Aj,.agg Aj]) (ys:=[.agg (zu w00),.agg (zu w00)]) ⟨Vn,Vn,Tv⟩ (ig w00 oq Store.empty R h)
  have bad:∀p:Prop,(p->¬zp a.S.W.G\/¬1<=(i:Int)-1\/¬(i:Int)-1<=8)->True:=λ_ _=>Tv
  refine zk (λc2=>?_) (λc2=>?_)
  ·refine bcd (λc3=>?_) (λc3=>?_)
   ·refine bcd (λc4=>absurd ⟨hzg.1 c2,c3,c4⟩ hP) (λc4=>?_)
    refine Na a.S.W.G hgT _ _ (λv N hv _=>?_)
    obtain⟨oa,cap,e,_⟩:=hv.q.form
    subst e
    rw[ky]
    refine K1 hv hgf hgT ((i:Int)-1) Qae _ (λ_=>?_) (λh=>absurd h hP)
    refine Lh (show RowsQ 1 u8C N.objs0 _ _ from hv.q) hgT _ ?_
    refine Fi _ _ _ ?_
    refine go _ ?_
    refine Qd ?_
    exact⟨i+1,(show 11-(i+1)<11-i by omega),⟨by omega,rfl⟩,⟨Tq,e9▸Tq,Tv⟩,⟨rfl,Tv⟩⟩
   ·refine Na a.S.W.G hgT _ _ (λv N hv _=>?_)
    obtain⟨oa,cap,e,_⟩:=hv.q.form
    subst e
    rw[ky]
    refine K1 hv hgf hgT ((i:Int)-1) Qae _ (λ_=>?_) (λh=>absurd h hP)
    refine Lh (show RowsQ 1 u8C N.objs0 _ _ from hv.q) hgT _ ?_
    refine Fi _ _ _ ?_
    refine go _ ?_
    refine Qd ?_
    exact⟨i+1,(show 11-(i+1)<11-i by omega),⟨by omega,rfl⟩,⟨Tq,e9▸Tq,Tv⟩,⟨rfl,Tv⟩⟩
  ·refine Na a.S.W.G hgT _ _ (λv N hv _=>?_)
   obtain⟨oa,cap,e,_⟩:=hv.q.form
   subst e
   rw[ky]
   refine K1 hv hgf hgT ((i:Int)-1) Qae _ (λ_=>?_) (λh=>absurd h hP)
   refine Lh (show RowsQ 1 u8C N.objs0 _ _ from hv.q) hgT _ ?_
   refine Fi _ _ _ ?_
   refine go _ ?_
   refine Qd ?_
   exact⟨i+1,(show 11-(i+1)<11-i by omega),⟨by omega,rfl⟩,⟨Tq,e9▸Tq,Tv⟩,⟨rfl,Tv⟩⟩
theorem nk(a:Ask25)(hn:∀u∈a.S.W.U,u.pos.ok)(hfs:∀c∈a.S.L,c.sized)(st:Store)(R:Ja)(h:R (V.bool true) st):Jb 6 [.agg (Dx a)] st R:=
 Fp (nl a hn hfs) st R λr hr=>hr▸h
end
end Go.Proofs
