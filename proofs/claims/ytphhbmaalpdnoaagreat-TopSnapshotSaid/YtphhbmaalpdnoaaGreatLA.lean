/- Ground of laws of throngtop: contracts and plain lemmas; no condition beyond the row's own. -/
import Derived.Test.YtphhbmaalpdnoaaGreatKZ
import Derived.Test.YtphhbmaalpdnoaaGreatKY
import Derived.Test.YtphhbmaalpdnoaaGreatKF
set_option linter.unusedSimpArgs false
set_option linter.unusedVariables false
set_option linter.defProp false
namespace Go.Proofs
open Go Go.V
set_option maxRecDepth 20000
set_option maxHeartbeats 4000000
end Go.Proofs
namespace Go.Proofs
open Go Go.V
set_option maxRecDepth 20000
set_option maxHeartbeats 4000000
end Go.Proofs
namespace Go.Proofs
open Go Go.V
set_option maxRecDepth 20000
set_option maxHeartbeats 4000000
end Go.Proofs
namespace Go.Proofs
open Go Go.V
set_option maxRecDepth 20000
set_option maxHeartbeats 4000000
end Go.Proofs
namespace Go.Proofs
open Go Go.V
set_option maxRecDepth 20000
set_option maxHeartbeats 4000000
theorem yja{Nu N:Store}{w:Wld}{v:AV}(hu:RowsQ 10 zn Nu v w.U)(hp:playW w)(hd:zh Nu N){fb:Nat}{room:Int}{k:Nat}(hF:FldAny fb room (k:Nat) N)(hk:k<=1000000000000000000)(R:Ja)
  (h:∀X N',RowsQ 10 zn X v (kr w).U->zh X N'->FldAny fb room ((k+w.U.length:Nat):Int) N'->R (.agg (xk (kr w) v)) (X.un N')):Jb 63 [.agg (xk w v),ptr fb] (Nu.un N) R:=by
 have hm:=wn hp.1;have hU:=hm.hU;obtain⟨oa,cap,ev,hget⟩:=hu.form;subst ev;refine Qa (c:=cfg 45 [13] []) zb Tryz.func63 ?_;refine ACalls.frame hd (zbf w _ Nu hu θ hp.2 (λr S=>∃F s p L o0 o1 o2,r=ptr s/\S=F.un (svS Nu s w (.s (.slice oa w.U.length cap)) o0 o1 o2 p)/\Fresh Nu s/\StandR F Nu s p w (.s (.slice oa w.U.length cap)) L o0 o1 o2/\L.length<=w.U.length/\(yl w.U->∀e,e∈L↔∃u∈w.U,u.inn=0/\e=(u.id,u.pos))) (λF s p L o0 o1 o2 h1 h2 h3 h4=>⟨F,s,p,L,o0,o1,o2,rfl,rfl,h1,h2,h3,h4⟩)) ?_;rintro r S ⟨F,s,p,L,o0,o1,o2,rfl,rfl,hs,hS,hLl,hmem⟩ hd1;refine ys1 rfl (it:=ti119) rfl rfl ?_;intro mb hmb;have hmbF:=fresh_un hmb;have hnF:¬F.has mb/\¬(svS Nu s w (.s (.slice oa w.U.length cap)) o0 o1 o2 p).has mb:=by have:=fresh_iff.1 hmbF.1;exact⟨λhh=>this (un_has.2 (.inl hh)),λhh=>this (un_has.2 (.inr hh))⟩
 have hmN2:¬N.has mb:=fresh_iff.1 hmbF.2;have hms:mb≠s:=λe=>hnF.2 (svS_has.2 (.inl e));have hmN:¬Nu.has mb:=λhh=>hnF.2 (svS_has.2 (.inr hh));have hmN0:Nu.obj mb=none:=(wl hmN).1;have omb:j5 (.s (.slice oa w.U.length cap)) mb:=Kx hu hmN0;have oms:j5 (.s (.slice oa w.U.length cap)) s:=Kx hu hS.hs;have e0:((F.un (svS Nu s w (.s (.slice oa w.U.length cap)) o0 o1 o2 p)).un N).sO mb (AObj.cells [AV.s (Value.pointer (some {block:=s,off:=0})),AV.s (Value.iface 119 (Value.pointer (some {block:=fb,off:=0})))])=(F.un (svS (Nu.sO mb (.cells [ptr s,Pv fb])) s w (.s (.slice oa w.U.length cap)) o0 o1 o2 p)).un N:=by rw[Gb hmN2,zz];unfold svS;rw[Ge hms];rfl
 have hW:MoverG (Pv fb) F (Nu.sO mb (.cells [ptr s,Pv fb])) mb s p w (.s (.slice oa w.U.length cap)) L o0 o1 o2:=
  ⟨⟨hS.hc,λi h1 h2=>by
    rcases svS_has.1 h2 with h2|h2
    ·exact hS.hd i h1 (svS_has.2 (.inl h2))
    ·rcases has_setObj_iff.1 h2 with h2|h2
     ·subst h2;exact hnF.1 h1
     ·exact hS.hd i h1 (svS_has.2 (.inr h2)),by rw[zg (Ne.symm hms)];exact hS.hs,hu.set omb _,hS.h0,hS.h1,hS.h2⟩,zd _ _ _,omb,oms,hLl,hmem hp.1.1.2.1⟩
 have hd2:zh (F.un (svS (Nu.sO mb (.cells [ptr s,Pv fb])) s w (.s (.slice oa w.U.length cap)) o0 o1 o2 p)) N:=λi h1 h2=>by
  rcases un_has.1 h1 with h1|h1
  ·exact hd1 i (un_has.2 (.inl h1)) h2
  ·rcases svS_has.1 h1 with h1|h1
   ·exact hd1 i (un_has.2 (.inr (svS_has.2 (.inl h1)))) h2
   ·rcases has_setObj_iff.1 h1 with h1|h1
    ·subst h1;exact hmN2 h2
    ·exact hd1 i (un_has.2 (.inr (svS_has.2 (.inr h1)))) h2
 rw[e0];clear e0 hmbF hmb hnF hd1 hS hs hLl hmem
 refine AWp.loop (σ:=Nat) ⟨λi=>[(5,.av (ptr mb)),(16,.av (int (w.U.length:Nat))),(17,.av (int (i:Nat))),(4,.bx 4 0)],λ_=>[(4,I9)],
  λi S=>i<=w.U.length/\∃F G L q0 q1 q2 n N,S=(F.un (svS G s (goN w i) (.s (.slice oa w.U.length cap)) q0 q1 q2 p)).un N/\MoverG (Pv fb) F G mb s p (goN w i) (.s (.slice oa w.U.length cap)) L q0 q1 q2/\zh (F.un (svS G s (goN w i) (.s (.slice oa w.U.length cap)) q0 q1 q2 p)) N/\FldAny fb room ((k+n:Nat):Int) N/\n<=i,λi=>w.U.length-i⟩ zb ?_ ?_
 ·exact⟨0,Tv,⟨Fae _,F,_,L,o0,o1,o2,0,N,rfl,hW,hd2,hF,Fak _⟩,⟨Tq,Tq,Tq,Tq,Tv⟩,⟨rfl,Tv⟩⟩
 clear hW hd2 hF hd hmN2 hmN hmN0 hms omb oms hu hget;rintro i S ⟨hi,F1,G1,L1,q0,q1,q2,n,N1,rfl,hW,hd1,hF,hn⟩;obtain⟨hpi,hli,_,_⟩:=Ws hp i;have hmi:=wn hpi.1;refine bcd (λh1=>?_) (λh1=>?_)
 ·have hlt:i<w.U.length:=θ;have hil:i<(goN w i).U.length:=θ;obtain⟨oa2,cap2,ev2,hget2⟩:=hW.S.hu.form;obtain⟨b,J,hoa,hob0⟩:=hget2 i hil;have hoa3:oa=some ⟨b,0,none⟩:=by
   simp only[AV.s.injEq,Value.slice.injEq]at ev2;rw[ev2.1,hoa]
  subst hoa3;have hbs:b≠s:=λe=>by rw[e,hW.S.hs]at hob0;cases hob0
  have hob:((F1.un (svS G1 s (goN w i) (.s (.slice (some ⟨b,0,none⟩) w.U.length cap)) q0 q1 q2 p)).un N1).obj b=some (.cells ((rws zn (goN w i).U).flatten++J)):=yj hd1 (zf (by show(G1.sO s _).obj b=_;rw[zg hbs];exact hob0));refine za (o:=((F1.un (svS G1 s (goN w i) (.s (.slice (some ⟨b,0,none⟩) w.U.length cap)) q0 q1 q2 p)).un N1).obj mb) _ (yj hd1 hW.m) ?_;refine za (o:=((F1.un (svS G1 s (goN w i) (.s (.slice (some ⟨b,0,none⟩) w.U.length cap)) q0 q1 q2 p)).un N1).obj s) _ (yj hd1 hW.s) ?_;refine⟨i,rfl,hlt,?_⟩;refine za (o:=((F1.un (svS G1 s (goN w i) (.s (.slice (some ⟨b,0,none⟩) w.U.length cap)) q0 q1 q2 p)).un N1).obj b) _ hob ?_;refine jc (i:=ti72) (row:=zn (goN w i).U[i]) rfl rfl (Mh Bb hil) ?_;refine zw (λc1=>?_) (λc1=>?_)
  ·have hg:=ym8 hil c1;refine zix (ymh hmi fb room k (n+1) θ) (Nat.lt_succ_self n) hW hd1 hF hpi.1 hpi.2 hil c1 _ (λF2 G2 L2 a0 a1 a2 n2 N2 hn2 hW2 hd2 hF2=>?_);refine Qd ?_;refine⟨i+1,(show w.U.length-(i+1)<w.U.length-i by omega),⟨hlt,F2,G2,L2,a0,a1,a2,n2,N2,?_,?_,?_,hF2,θ⟩,Qaq,⟨rfl,Tv⟩⟩
   ·rw[hg]
   ·rw[hg];exact hW2
   ·rw[hg];exact hd2
  ·have hg:=ym7 hil c1;refine Qd ?_;refine⟨i+1,(show w.U.length-(i+1)<w.U.length-i by omega),⟨hlt,F1,G1,L1,q0,q1,q2,n,N1,?_,?_,?_,hF,θ⟩,Qaq,⟨rfl,Tv⟩⟩
   ·rw[hg]
   ·rw[hg];exact hW
   ·rw[hg];exact hd1
 ·have:i=w.U.length:=θ;subst this;obtain⟨oa2,cap2,ev2,_⟩:=hW.S.hu.form;refine za (o:=((F1.un (svS G1 s (goN w w.U.length) (.s (.slice oa w.U.length cap)) q0 q1 q2 p)).un N1).obj mb) _ (yj hd1 hW.m) ?_;refine za (o:=((F1.un (svS G1 s (goN w w.U.length) (.s (.slice oa w.U.length cap)) q0 q1 q2 p)).un N1).obj s) _ (yj hd1 hW.s) ?_;exact ret (h _ _ (H3 hW.S.hs hW.S.hu).un hd1 (hF.mono θ))
def Hf(g:Gnd)(n:Int):Wld:=⟨0,n,1,g,[],[]⟩
def Bv(g:Gnd)(n:Int):Prop:=zt g/\1<=n/\n<=8
theorem zhq{G:Store}{g:Gnd}{v:AV}(n:Int)(hn:yg n)
  (hMay:∀R:AV->Store->Prop,(∀b:Bool,(b=true↔zt g)->R (V.bool b) G)->Jb 68 [.agg [int g.W,int g.H,v]] G R)
  (hOwn:∀R:AV->Store->Prop,(∀vT N,RowsQ 1 u8C N vT g.T->zh N G->R (.agg [int g.W,int g.H,vT]) (N.un G))->Jb 69 [.agg [int g.W,int g.H,v]] G R):
  Jb 21 [.agg [int g.W,int g.H,v],int n] G λr S=>(¬Bv g n/\r=.tup [.agg I9,int 1]/\S=G)∨
   (Bv g n/\∃vT N,RowsQ 1 u8C N vT g.T/\zh N G/\r=.tup [.agg [int 0,int n,int 1,int g.W,int g.H,vT,nil,nil],int 0]/\S=N.un G):=by
 refine Qa (c:=cfg 22) zb Tryz.func21 ?_;refine hMay _ (λz hz=>?_)
 have bad:¬Bv g n->(¬Bv g n/\(.tup [.agg I9,int 1]:AV)=.tup [.agg I9,int 1]/\G=G)∨
   (Bv g n/\∃vT N,RowsQ 1 u8C N vT g.T/\zh N G/\(.tup [.agg I9,int 1]:AV)=.tup [.agg [int 0,int n,int 1,int g.W,int g.H,vT,nil,nil],int 0]/\G=N.un G):=λh=>.inl ⟨h,rfl,rfl⟩
 refine yi ?_;refine zk (λc1=>?_) (λc1=>?_);rotate_left
 ·exact ret (bad λhh=>ψn)
 refine bcd (λc2=>?_) (λc2=>?_)
 ·exact ret (bad λhh=>by have:=hh.2;omega)
 refine bcd (λc3=>?_) (λc3=>?_)
 ·exact ret (bad λhh=>by have:=hh.2;omega)
 refine hOwn _ (λvT N hv hd=>?_);have hform:=hv.form;obtain⟨oa,cap,rfl,_⟩:=hform;exact ret (.inr ⟨⟨hz.1 c1,θ,θ⟩,_,N,hv,hd,rfl,rfl⟩)
theorem zhp(g:Gnd)(hg:g.fits)(hT:g.T.length<=1000000000)(n:Int)(hn:yg n)(st:Store)(R:Ja)
  (hbad:¬Bv g n->R (.tup [.agg I9,int 1]) st) (hok:Bv g n->R (.tup [.agg (zo (Hf g n)),int 0]) st):Jb 21 [.agg (zu g),int n] st R:=by
 refine Fv (Q:=λr=>(¬Bv g n/\r=.tup [.agg I9,int 1])\/(Bv g n/\r=.tup [.agg (zo (Hf g n)),int 0])) ?_ st R λr hr=>?_
 ·refine(zhq (G:=Store.empty) (v:=ya g.T) n hn (λR h=>zdj g hg _ R h) (λR h=>lw g hT _ R h)).frozen ?_;rintro r S (⟨h1,rfl,rfl⟩|⟨h1,vT,N,hv,hd,rfl,rfl⟩)
  ·exact⟨_,.inl ⟨h1,rfl⟩,λOth M w v sto hx=>xg hx⟩
  ·refine⟨_,.inr ⟨h1,rfl⟩,λOth M w v sto hx=>hx.tup2 (λx hx=>?_) (λx hx=>xg hx)⟩;have ho:OwnQ (N.un Store.empty) (Hf g n) vT nil nil N Store.empty Store.empty:=⟨by rw[Ag,Ag,Du],hv,.inl (.inl ⟨rfl,rfl⟩),.inl (.inl ⟨rfl,rfl⟩),Rc _,Rc _⟩
   exact gn ho sto hx
 ·rcases hr with⟨h1,rfl⟩|⟨h1,rfl⟩
  ·exact hbad h1
  ·exact hok h1
def F4(w:Wld)(fb:Nat):List AV:=zo w++[ptr fb]
structure EngR(eb:Nat)(room:Int)(k:Nat)(w:Wld)(S:Store):Prop where
 out:∃N fb,S=N.sO eb (.cells (F4 w fb))/\¬N.has eb/\FldAny fb room (k:Nat) N
theorem FldAny.objs0{fb:Nat}{room k:Int}{N:Store}(h:FldAny fb room k N):FldAny fb room k N.objs0:=h.objs
theorem zho(w:Wld)(hw:w.fits)(hn:∀u∈w.U,u.pos.ok)(hT:w.G.T.length<=1000000)(hB:w.B.length<=1000000)(hU:w.U.length<=1000000)(room:Int)(hr:1<=room/\room<=4096)(R:Ja)
  (hbad:¬z7 w->R (.tup [.s (.pointer none),int 1]) Store.empty) (hok:z7 w->∀eb S,EngR eb room 0 w S->R (.tup [ptr eb,int 0]) S):Jb 9 [.agg (zo w),int room] Store.empty R:=by
 have key:Jb 9 [.agg (zo w),int room] Store.empty λr S=>(¬z7 w/\r=.tup [.s (.pointer none),int 1])∨
   (z7 w/\∃X N eb fb vT vB vU NT NB NU,OwnQ X w vT vB vU NT NB NU/\zh X N/\¬X.has eb/\¬N.has eb/\FldAny fb room ((0:Nat):Int) N/\r=.tup [ptr eb,int 0]/\S=(X.un N).sO eb (.cells (Hy w vT vB vU++[ptr fb]))):=by
  refine Qa (c:=cfg 25 [24] []) zb Tryz.func9 ?_;refine yny room hr _ (λN fb hF=>?_);refine iy w hw hn _ _ (λz hz=>?_);refine yi ?_;refine zk (λc1=>?_) (λc1=>?_);rotate_left
  ·exact ret (.inl ⟨λhh=>ψp,rfl⟩)
  have hown:Jb 48 [.agg (zo w)] (Store.empty.un N) λr S=>∃X vT vB vU NT NB NU,OwnQ X w vT vB vU NT NB NU/\zh X N/\r=.agg (Hy w vT vB vU)/\S=X.un N:=
   ACalls.frame (Nj N) (gk w θ θ θ (λr S=>∃vT vB vU NT NB NU,OwnQ S w vT vB vU NT NB NU/\r=.agg (Hy w vT vB vU)) (λS vT vB vU NT NB NU h=>⟨vT,vB,vU,NT,NB,NU,h,rfl⟩)) (λr a' ⟨vT,vB,vU,NT,NB,NU,h1,h2⟩ hd=>⟨a',vT,vB,vU,NT,NB,NU,h1,hd,h2,rfl⟩)
  rw[Ag]at hown;refine hown.imp ?_;rintro r S ⟨X,vT,vB,vU,NT,NB,NU,ho,hd,rfl,rfl⟩;obtain⟨rT,rB,rU⟩:=gm ho;obtain⟨_,_,e1,_⟩:=rT.form;obtain⟨_,_,e2,_⟩:=rB.form;obtain⟨_,_,e3,_⟩:=rU.form;subst e1 e2 e3;intro eb heb;have heb:=fresh_iff.1 heb;exact ret (.inr ⟨hz.1 c1,X,N,eb,fb,_,_,_,NT,NB,NU,ho,hd,λh=>heb (un_has.2 (.inl h)),λh=>heb (un_has.2 (.inr h)),hF,rfl,rfl⟩)
 refine key.frozenEng ?_;rintro r S (⟨h1,rfl⟩|⟨hm,X,N,eb,fb,vT,vB,vU,NT,NB,NU,ho,hd,h1,h2,hF,rfl,rfl⟩)
 ·exact .inl ⟨Store.empty,hbad h1,λb x hx=>θa,λb=>rfl⟩
 ·refine .inr ⟨_,X,N,eb,Hy w vT vB vU,zo w,_,hd,h1,h2,rfl,rfl,hok hm eb _ ⟨_,fb,rfl,?_,hF.objs0⟩,λOth M W sto=>⟨λx hx=>gn ho sto hx,λx hx=>xg hx⟩⟩;exact λh=>h2 (h.elim .inl λh=>absurd rfl h)
section
variable {eb k:Nat} {room:Int} {w:Wld} {S:Store}
theorem Qai{p:Prop}(h:p:=by repeat(first|exact Tv|refine⟨rfl,?_⟩|refine⟨za (o:=(js _ Nt eb fb W).obj eb) _ (Gz _ _ _ _ _) rfl,?_⟩)):p:=h
def jd(fb:Nat):AV:=.s (.func (.func 62) #[.pointer (some ⟨fb,0,none⟩)] #[])
def DoC:Prop:=∀(fb:Nat) (room:Int) (k:Nat) (N:Store) (w:Wld) (c:Cmd),FldAny fb room (k:Nat) N->playW w->c.fits->∀R:AV->Store->Prop,(∀N',FldAny fb room (k:Nat) N'->R (.tup [.agg (zo (doW aE aW w c)),int (doE aE w c)]) N')->
 Jb 61 [.agg (zo w),.agg (yz c),jd fb] N R
def js(N Nt:Store)(eb fb:Nat)(w:Wld):Store:=N.un (Nt.sO eb (.cells (F4 w fb)))
theorem Gz(N Nt:Store)(eb fb:Nat)(w:Wld):(js N Nt eb fb w).obj eb=some (.cells (F4 w fb)):=zf (zd _ _ _)
theorem ba{a g:Store}{b:Nat}{x y:AObj}(h:zh a (g.sO b x)):zh a (g.sO b y):=λi h1 h2=>h i h1 (has_setObj_iff.2 (has_setObj_iff.1 h2))
theorem zyy(hE:EngR eb room k w S)(hw:playW w)(l:List Cmd)(hl:l=[]\/DoC)(hf:∀c∈l,c.fits)(hl2:l.length<=512)(ht:w.tick<1099511627776)(hk:k<=100000000000000000):
  Jb 15 [ptr eb,lst 10 yz l] S λr S'=>∃(N:Store) (fb:Nat) (X Nt:Store) (v vt:AV),r=.tup [vt,int 0]/\S'=(X.un N).un (Nt.sO eb (.cells (xk (Fc w l) v++[ptr fb])))∧
   RowsQ 10 zn X v (Fc w l).U/\RowsQ 1 zv Nt vt (ww w l)/\zh X N/\zh (X.un N) (Nt.sO eb (.cells []))/\¬Nt.has eb/\FldAny fb room ((k+4096:Nat):Int) N:=by
 obtain⟨N,fb,rfl,hn,hF⟩:=hE.out;refine Qa (c:=cfg 74) zb Tryz.func15 ?_;refine za (o:=(N.sO eb _).obj eb) _ (zd _ _ _) ?_;refine zw (λc1=>absurd c1 θ) (λ_=>?_);refine bcd (λc2=>absurd c2 θf) (λ_=>?_);have e0:N.sO eb (.cells (F4 w fb))=js N Store.empty eb fb w:=by unfold js;rw[<-zz,Du]
 have hd0:zh N (Store.empty.sO eb (.cells [])):=λi h1 h2=>by
  rcases has_setObj_iff.1 h2 with rfl|h2
  ·exact hn h1
  ·exact h2.elim (λh=>h rfl) (λh=>h rfl)
 rw[e0]
 refine AWp.loop (σ:=Nat×Store×Store×AV) ⟨λx=>[(0,.av (ptr eb)),(6,.av x.2.2.2),(22,.av (lst 10 yz l)),(23,.av (int (l.length:Nat))),(24,.av (int (x.1:Nat)))],λ_=>[],
  λx st'=>x.1<=l.length/\st'=js x.2.1 x.2.2.1 eb fb (kl w (l.take x.1))/\RowsQ 1 zv x.2.2.1 x.2.2.2 (ww w (l.take x.1))/\zh x.2.1 (x.2.2.1.sO eb (.cells []))/\¬x.2.2.1.has eb/\FldAny fb room (k:Nat) x.2.1,λx=>l.length-x.1⟩ zb ?_ ?_
 ·refine⟨(0,N,Store.empty,.s (.slice none 0 0)),Tv,⟨Fae _,rfl,.inl (.inl ⟨rfl,rfl⟩),hd0,λh=>h.elim (λh=>h rfl) (λh=>h rfl),hF⟩,⟨Tq,Tq,Tq,?_,Tq,Tv⟩,Tv⟩;show LV.le (.av (int ((rws yz l).length:Nat))) (.av (int (l.length:Nat)));rw[zj];exact Tq
 clear e0 hd0 hF hn hE;rintro⟨i,N,Nt,vt⟩ st' ⟨hi,rfl,hvt,hd,hnt,hF⟩;dsimp only at hi hvt hd hnt hF⊢;refine bcd (λh1=>?_) (λh1=>?_)
 ·have hlt:i<l.length:=θ;obtain⟨q1,q2⟩:=yqn (w:=w) hlt;have hp:=Vo (l.take i) hw;refine⟨i,rfl,za _ (zq hlt) ?_⟩;rcases hl with rfl|hDo
  ·exact absurd hlt (Fa3 i)
  have hcall:∀R:AV->Store->Prop,(∀N',FldAny fb room (k:Nat) N'->zh N' (Nt.sO eb (.cells []))->R (.tup [.agg (zo (doW aE aW (kl w (l.take i)) l[i])),int (doE aE (kl w (l.take i)) l[i])]) (js N' Nt eb fb (kl w (l.take i))))->
    Jb 61 [.agg (zo (kl w (l.take i))),.agg (yz l[i]),jd fb] (js N Nt eb fb (kl w (l.take i))) R:=λR h=>
   ACalls.frame (ba hd) (hDo fb room k N (kl w (l.take i)) l[i] hF hp (hf _ (Faa hlt)) (λr S=>FldAny fb room (k:Nat) S/\r=.tup [.agg (zo (doW aE aW (kl w (l.take i)) l[i])),int (doE aE (kl w (l.take i)) l[i])]) (λN' h=>⟨h,rfl⟩))
    λr a' ⟨h1,h2⟩ hd'=>h2▸h a' h1 (ba hd')
  have hTl:(ww w (l.take i)).length<=i:=by rw[nt,Fam];omega
  have hoff:=Kx hvt (wl hnt).1;generalize kl w (l.take i)=W at*;generalize ww w (l.take i)=T at*;generalize doW aE aW W l[i]=W2 at*;generalize doE aE W l[i]=e2 at*;refine Qc zb ydj ?_;refine za (o:=(js N Nt eb fb W).obj eb) _ (Gz _ _ _ _ _) ?_;refine za (o:=(js N Nt eb fb W).obj eb) _ (Gz _ _ _ _ _) ?_;refine⟨hcall _ λN' hF' hd'=>⟨Tv,⟨⟨Qai,⟨⟨Tv,⟨⟨Tv,?_⟩,Tv⟩⟩,Tv⟩⟩,Tv⟩⟩,⟨⟨Qai,⟨hcall _ λN' hF' hd'=>⟨Tv,⟨⟨Tv,⟨⟨Tv,?_⟩,Tv⟩⟩,Tv⟩⟩,Tv⟩⟩,Tv⟩⟩
  all_goals
   refine Qc zb ydl ?_;have hvtN:RowsQ 1 zv (js N' Nt eb fb W) vt T:=(hvt.set hoff _).un;refine⟨ψ,Hv (ie:=ti2) rfl Lf ψ (v:=vt) (l:=T) hvtN e2 rfl θ (λb cap L h5 h6 h7 h8=>?_),Tv⟩;have hbe:b≠eb:=by
    rcases h5 with h5|⟨c0,h0,h5⟩
    ·exact λe=>fresh_iff.1 h5 (by rw[e];exact k9 (Gz _ _ _ _ _))
    ·exact hoff b _ c0 h5 h0
   have hbN:¬N'.has b:=by
    rcases h5 with h5|⟨c0,h0,h5⟩
    ·exact λe=>fresh_iff.1 h5 (un_has.2 (.inl e))
    ·exact λe=>hd' b e (has_setObj_iff.2 (.inr (hvt.has h5 h0)))
   have e1:(js N' Nt eb fb W).sO b (.cells ((rws zv (T++[e2])).flatten++L))=js N' (Nt.sO b (.cells ((rws zv (T++[e2])).flatten++L))) eb fb W:=by unfold js;rw[zz,Ge hbe]
   rw[e1];refine⟨?_,?_⟩
   ·first|exact rfl|(repeat(first|exact Tv|refine⟨rfl,?_⟩))
   refine⟨?_,Tv⟩;refine za _ rfl (xp rfl (xl (v:=.agg (zo W2)) rfl rfl rfl rfl ?_));refine Aa (i:=ti27) (v:=.agg (zo W2)) (xs:=zo W2) (b:=eb) (o:=0) (l:=F4 W fb) rfl rfl rfl (Gz _ _ _ _ _) (show 0+8<=9 by decide) ⟨Tv,?_⟩;refine Qau ?_;refine Qd ?_;have e3:(js N' (Nt.sO b (.cells ((rws zv (T++[e2])).flatten++L))) eb fb W).sO eb (.cells (F4 W2 fb))=js N' (Nt.sO b (.cells ((rws zv (T++[e2])).flatten++L))) eb fb W2:=by unfold js;rw[zz,ym]
   refine⟨(i+1,N',Nt.sO b (.cells ((rws zv (T++[e2])).flatten++L)),_),(show l.length-(i+1)<l.length-i by omega),⟨ζ,?_,?_,?_,?_,hF'⟩,⟨Tq,Tq,Tq,Tq,Tq,Tv⟩,Tv⟩
   ·dsimp only;rw[q1];exact e3
   ·dsimp only;rw[q2];exact .inl (.inr ⟨b,cap,L,rfl,zd _ _ _,h6,h7,h8⟩)
   ·intro j h1 h2;dsimp only at h1 h2;rw[Ge (Ne.symm hbe)]at h2;rcases has_setObj_iff.1 h2 with rfl|h2
    ·exact hbN h1
    ·exact hd' j h1 h2
   ·dsimp only;intro h;rcases has_setObj_iff.1 h with h|h
    ·exact hbe h.symm
    ·exact hnt h
 ·have:i=l.length:=θ;subst this;rw[Fal]at hvt⊢;have hp:=Vo l hw;have htk:=nr l hw;have hsz:=hp.sizes;have hU:=(wn hp.1).hU;have heng:Fc w l=ed (kl w l):=rfl;generalize Fc w l=We at*;generalize kl w l=W at*;generalize ww w l=T at*;have hown:∀R:AV->Store->Prop,(∀v X,RowsQ 10 zn X v W.U->zh X (js N Nt eb fb W)->R (.agg (xk W v)) (X.un (js N Nt eb fb W)))->Jb 48 [.agg (zo W)] (js N Nt eb fb W) R:=λR h=>by
   rw[<-Ag (js N Nt eb fb W)];refine ACalls.frame (Nj _) (zbc W θ θ θ (λr S=>∃v,RowsQ 10 zn S v W.U/\r=.agg (xk W v)) (λv N h=>⟨v,h,rfl⟩)) ?_;rintro r a' ⟨v,h1,rfl⟩ hd';exact h v a' h1 hd'
  refine Qc zb ydk ?_;refine za (o:=(js N Nt eb fb W).obj eb) _ (Gz _ _ _ _ _) ?_;refine za (o:=(js N Nt eb fb W).obj eb) _ (Gz _ _ _ _ _) ?_;refine⟨hown _ (λv X hX hdX=>⟨(by repeat(first|exact rfl|exact Tv|refine⟨rfl,?_⟩|refine⟨za (o:=(X.un (js N Nt eb fb W)).obj eb) _ (zf (Gz _ _ _ _ _)) rfl,?_⟩|refine za (o:=(X.un (js N Nt eb fb W)).obj eb) _ (zf (Gz _ _ _ _ _)) rfl)),?_⟩),Tv⟩;have hXN:zh X N:=λi h1 h2=>hdX i h1 (un_has.2 (.inl h2));have hXG:zh (X.un N) (Nt.sO eb (.cells (F4 W fb))):=disj_un.2 ⟨λi h1 h2=>hdX i h1 (un_has.2 (.inr h2)),ba hd⟩;have e1:X.un (js N Nt eb fb W)=(X.un N).un (Nt.sO eb (.cells (F4 W fb))):=(Kd _ _ _).symm;rw[e1];have hgo:=ACalls.frame hXG (yja hX hp hXN hF θ (λr S=>∃Y N',RowsQ 10 zn Y v (kr W).U/\zh Y N'/\FldAny fb room ((k+W.U.length:Nat):Int) N'/\r=.agg (xk (kr W) v)/\S=Y.un N') (λY N' h1 h2 h3=>⟨Y,N',h1,h2,h3,rfl,rfl⟩)) (R':=λr S=>∃Y N',RowsQ 10 zn Y v (kr W).U/\zh Y N'/\FldAny fb room ((k+W.U.length:Nat):Int) N'/\r=.agg (xk (kr W) v)/\S=(Y.un N').un (Nt.sO eb (.cells (F4 W fb)))/\zh (Y.un N') (Nt.sO eb (.cells (F4 W fb)))) (λr a' ⟨Y,N',h1,h2,h3,h4,h5⟩ hd'=>⟨Y,N',h1,h2,h3,h4,by rw[h5],h5▸hd'⟩);refine⟨hgo.imp ?_,Tv⟩;rintro r S ⟨Y,N',hY,hYN,hF',rfl,rfl,hdY⟩;obtain⟨oa,cap,e2,_⟩:=hY.form;subst e2;refine⟨Tv,?_⟩;refine⟨?_,Tv⟩;refine za _ rfl (xp rfl (xl (v:=.agg (xk (kr W) (.s (.slice oa (kr W).U.length cap)))) rfl rfl rfl rfl ?_));refine Aa (i:=ti27) (v:=.agg (xk (kr W) (.s (.slice oa (kr W).U.length cap)))) (xs:=xk (kr W) (.s (.slice oa (kr W).U.length cap))) (b:=eb) (o:=0) (l:=F4 W fb) rfl rfl rfl (zf (zd _ _ _)) (show 0+8<=9 by decide) ⟨Tv,?_⟩;rw[zz,ym];have hat:(kr W).tick=W.tick:=Pq W _;have hw0:0<=w.tick:=hw.1.1.1.1.1.1;refine za (o:=((Y.un N').un (Nt.sO eb _)).obj eb) _ (zf (zd _ _ _)) ?_;refine Qd ?_;refine j4 (i:=ti2) (v:=int ((kr W).tick+1)) (b:=eb) (o:=0) (l:=xk (kr W) (.s (.slice oa (kr W).U.length cap))++[ptr fb]) rfl rfl rfl (zf (zd _ _ _)) (show 0+1<=9 by decide) ?_;rw[zz,ym];obtain⟨oc,cc,e4,_⟩:=hvt.form;subst e4;exact ret ⟨N',fb,Y,Nt,_,_,rfl,by rw[heng];rfl,by rw[heng];exact hY,hvt,hYN,ba hdY,hnt,hF'.mono θ⟩
theorem zef(hE:EngR eb room k w S)(hw:playW w)(l:List Cmd)(hl:l=[]\/DoC)(hf:∀c∈l,c.fits)(hl2:l.length<=512)(ht:w.tick<1099511627776)(hk:k<=100000000000000000)(R:Ja)
  (h:∀S',EngR eb room (k+4096) (Fc w l) S'->R (.tup [lst 1 zv (ww w l),int 0]) S'):Jb 15 [ptr eb,lst 10 yz l] S R:=by
 refine(zyy hE hw l hl hf hl2 ht hk).frozenEng ?_;rintro r S' ⟨N,fb,X,Nt,v,vt,rfl,rfl,hX,hvt,hXN,hd,hnt,hF⟩;obtain⟨d1,d2⟩:=disj_un.1 hd;have sub:∀{a:Store},zh a (Nt.sO eb (.cells []))->zh a Nt/\¬a.has eb:=λh=>⟨λi h1 h2=>h i h1 (has_setObj_iff.2 (.inr h2)),λh1=>h eb h1 (has_setObj_iff.2 (.inl rfl))⟩
 obtain⟨d3,d4⟩:=sub d1;obtain⟨d5,d6⟩:=sub d2;refine .inr ⟨.tup [lst 1 zv (ww w l),int 0],X.un Nt,N,eb,xk (Fc w l) v,zo (Fc w l),_,disj_un.2 ⟨hXN,Fe d5⟩,λh=>(un_has.1 h).elim d4 hnt,d6,?_,rfl,h _ ⟨_,fb,rfl,?_,hF.objs0⟩,λOth M W sto=>⟨λx hx=>?_,λx hx=>?_⟩⟩
 ·rw[<-zz,Kd,Kd,H0 d5];rfl
 ·exact λh=>d6 (h.elim .inl λh=>absurd rfl h)
 ·exact py (hX.unL d3) sto hx
 ·exact hx.tup2 (λx hx=>(hvt.un (a:=X)).borrow Lf Ph sto hx) λx hx=>xg hx
theorem yhl(w:Wld)(hT:w.G.T.length<=1000000000)(hB:w.B.length<=1000000000)(hU:w.U.length<=1000000000)(st:Store)(R:Ja)(h:R (.agg (zo w)) st):Jb 48 [.agg (zo w)] st R:=by refine Fv (Q:=λr=>r=.agg (zo w)) ?_ st R λr hr=>hr▸h;refine(gk w hT hB hU (λr S=>∃vT vB vU NT NB NU,OwnQ S w vT vB vU NT NB NU/\r=.agg (Hy w vT vB vU)) (λS vT vB vU NT NB NU h=>⟨vT,vB,vU,NT,NB,NU,h,rfl⟩)).frozen ?_;rintro r S ⟨vT,vB,vU,NT,NB,NU,ho,rfl⟩;exact⟨_,rfl,λOth M w' v' sto hx=>gn ho sto hx⟩
theorem mz(hE:EngR eb room k w S)(hs:w.G.T.length<=1000000/\w.B.length<=1000000/\w.U.length<=1000000)(R:Ja)(h:R (.agg (zo w)) S):Jb 12 [ptr eb] S R:=by obtain⟨N,fb,rfl,hn,hF⟩:=hE.out;refine Qa (c:=cfg 8) zb Tryz.func12 ?_;refine za (o:=(N.sO eb _).obj eb) _ (zd _ _ _) ?_;refine yhl w θ θ θ _ _ ?_;exact ret h
end
theorem yjk{g:Gnd}{n:Int}(h:Bv g n):z7 (Hf g n):=
 ⟨⟨⟨⟨⟨Fcj _,show(0:Int)<=1099511627776 by decide⟩,h.2,⟨Fcj _,show(1:Int)<=1099511627776 by decide⟩⟩,⟨h.1,⟨Fae _,λj hj=>absurd hj (Fa3 j),λb hb=>(by cases hb),λj hj=>absurd hj (Fa3 j)⟩,Fae _⟩,λb hb=>(by cases hb)⟩,
  λj hj=>absurd hj (Fa3 j),λu hu=>(by cases hu)⟩,λu hu=>(by cases hu),λu hu=>(by cases hu)⟩
theorem za6{g:Gnd}{n:Int}(h:Bv g n):playW (Hf g n):=⟨yjk h,λu hu=>(by cases hu)⟩
theorem zci(i j:Int):max2 (max2 (max2 i (0-i)) j) (0-j)=F8 i j:=by
 have e:∀a b:Int,max2 a b=max a b:=λa b=>by
  unfold max2;by_cases h:b>a
  ·rw[decide_eq_true h];show b=_;omega
  ·rw[decide_eq_false h];show a=_;omega
 rw[e,e,e];unfold F8;omega
theorem yfe(g:Gnd)(x y k d j i:Int):(Ch g x y k d j i).length<=g.T.length:=by have:=Fbh (λt=>Ox g x y k d t&&zgg g x y j i t) (List.range g.T.length);rw[Fdo]at this;exact this
theorem Hh(l:List Nat):(qh l).length=l.length:=Fap ..
theorem ye9(g:Gnd)(hg:zt g)(t:Nat)(ht:t<g.T.length)(d k:Int)(hd:0<=d/\d<=300)(hk:1<=k/\k<=7)(st:Store)(R:Ja)(h:R (yh (qh (Gh g ((t:Int)%g.W) ((t:Int)/g.W) k d))) st):
  Jb 134 [.agg (zu g),int t,int d,int k] st R:=by
 have hm:=qm hg;have htb:=Gc hg (t:=t) θ;have hq:=Kg (t:=t) hg.1.1;have hq2:=Kh (t:=t) hg.1.1;have hg1:=hg.1;have hg2:=hg.2.1;generalize(t:Int)%g.W=x at*;generalize(t:Int)/g.W=y at*;refine Qa (c:=cfg 80) zb Tryz.func134 ?_;refine Qc zb ydt ?_;refine⟨θ,?_⟩;refine⟨θ,?_⟩;refine Qd ?_;refine Qat ?_;refine Qau ?_;refine Qd ?_
 refine AWp.loop (σ:=Nat×AV) ⟨λs=>[(2,.av (int d)),(3,.av (int k)),(4,.bx 4 0),(8,.av s.2),(9,.av (int x)),(10,.av (int y)),(11,.av (int ((s.1:Nat)-d)))],λ_=>[(4,zu g)],
  λs st'=>(s.1:Int)<=2*d+1/\App 1 st s.2 (rws zv (qh (Ch g x y k d ((s.1:Nat)-d) (-d)))) st',λs=>700-s.1⟩ zb ?_ ?_
 ·refine⟨(0,_),Tv,⟨ζ,?_⟩,⟨Tq,Tq,Tq,Tq,?_,?_,?_,Tv⟩,⟨rfl,Tv⟩⟩
  ·dsimp only;rw[show((0:Nat):Int)-d=-d by omega,yfb];exact App.start 1 st
  ·rw[<-hq];exact Tq
  ·rw[<-hq2];exact Tq
  ·dsimp only;rw[show((0:Nat):Int)-d=0-d by omega];exact Tq
 rintro⟨a,v⟩ st' ⟨ha,hap⟩;dsimp only at ha hap⊢;refine bcd (λh1=>?_) (λh1=>?_);rotate_left
 ·rw[show(a:Int)-d=d+1 by omega,yff]at hap;exact⟨_,st,AV.le_trans hap.le (Tt),hap.has,h⟩
 refine Qd ?_;have hj:∃j:Int,(a:Int)-d=j:=⟨_,rfl⟩
 obtain⟨j,hj⟩:=hj;rw[hj]at hap h1⊢
 refine AWp.loop (σ:=Nat×AV) ⟨λs=>[(2,.av (int d)),(3,.av (int k)),(4,.bx 4 0),(8,.av s.2),(9,.av (int x)),(10,.av (int y)),(11,.av (int j)),(12,.av (int ((s.1:Nat)-d)))],λ_=>[(4,zu g)],
  λs st'=>(s.1:Int)<=2*d+1/\App 1 st s.2 (rws zv (qh (Ch g x y k d j ((s.1:Nat)-d)))) st',λs=>700-s.1⟩ zb ?_ ?_
 ·refine⟨(0,v),Tv,⟨ζ,?_⟩,⟨Tq,Tq,Tq,Tq,Tq,Tq,Tq,?_,Tv⟩,⟨rfl,Tv⟩⟩
  ·dsimp only;rw[show((0:Nat):Int)-d=-d by omega];exact hap
  ·dsimp only;rw[show((0:Nat):Int)-d=0-d by omega];exact Tq
 rintro⟨b,v2⟩ st2 ⟨hb,hap2⟩;dsimp only at hb hap2⊢;have hi:∃i:Int,(b:Int)-d=i:=⟨_,rfl⟩
 obtain⟨i,hi⟩:=hi;rw[hi]at hap2⊢;refine bcd (λh2=>?_) (λh2=>?_);rotate_left
 ·rw[show i=d+1 by omega,yfc]at hap2;refine Qd ?_;refine⟨(a+1,v2),?_,⟨ζ,?_⟩,⟨Tq,Tq,Tq,Tq,Tq,Tq,?_,Tv⟩,⟨rfl,Tv⟩⟩
  ·show 700-(a+1)<700-a;omega
  ·dsimp only;rw[show((a+1:Nat):Int)-d=j+1 by omega];exact hap2
  ·dsimp only;rw[show((a+1:Nat):Int)-d=j+1 by omega];exact Tq
 have next:∀v3 st3,App 1 st v3 (rws zv (qh (Ch g x y k d j (i+1)))) st3->∃s:Nat×AV,700-s.1<700-b/\((s.1:Int)<=2*d+1/\App 1 st s.2 (rws zv (qh (Ch g x y k d j ((s.1:Nat)-d)))) st3)/\s=(b+1,v3)/\((s.1:Nat):Int)-d=i+1:=λv3 st3 h3=>
  ⟨(b+1,v3),ζ,⟨ζ,by dsimp only;rw[show((b+1:Nat):Int)-d=i+1 by omega];exact h3⟩,rfl,ζ⟩
 have no:¬(F8 i j=d/\i.tmod k=0/\j.tmod k=0/\onG g (x+i) (y+j))->App 1 st v2 (rws zv (qh (Ch g x y k d j (i+1)))) st2:=λhn=>by rw[yfd hg hn];exact hap2
 refine Qd ?_;refine Qd ?_;refine zw (λc1=>?_) (λc1=>?_);rotate_left
 ·have c1:¬F8 i j=d:=λe=>c1 ((zci i j).trans e);obtain⟨s,f1,f2,rfl,f3⟩:=next v2 st2 (no λhh=>c1 hh.1)
  refine Qd ?_;exact⟨(b+1,v2),f1,f2,⟨Tq,Tq,Tq,Tq,Tq,Tq,Tq,θ3,Tv⟩,⟨rfl,Tv⟩⟩
 have c1:F8 i j=d:=(zci i j).symm.trans c1;refine⟨θ,?_⟩;refine zw (λc2=>?_) (λc2=>?_);rotate_left
 ·obtain⟨s,f1,f2,rfl,f3⟩:=next v2 st2 (no λhh=>c2 hh.2.1)
  refine Qd ?_;exact⟨(b+1,v2),f1,f2,⟨Tq,Tq,Tq,Tq,Tq,Tq,Tq,θ3,Tv⟩,⟨rfl,Tv⟩⟩
 refine⟨θ,?_⟩;refine zw (λc3=>?_) (λc3=>?_);rotate_left
 ·obtain⟨s,f1,f2,rfl,f3⟩:=next v2 st2 (no λhh=>c3 hh.2.2.1)
  refine Qd ?_;exact⟨(b+1,v2),f1,f2,⟨Tq,Tq,Tq,Tq,Tq,Tq,Tq,θ3,Tv⟩,⟨rfl,Tv⟩⟩
 refine Qd ?_;refine Qd ?_;refine gr g (x+i) (y+j) _ _ (λz hz=>?_);refine zk (λc4=>?_) (λc4=>?_);rotate_left
 ·obtain⟨s,f1,f2,rfl,f3⟩:=next v2 st2 (no λhh=>by have:=hz.2 hh.2.2.2;rw[this]at c4;cases c4)
  refine Qd ?_;exact⟨(b+1,v2),f1,f2,⟨Tq,Tq,Tq,Tq,Tq,Tq,Tq,θ3,Tv⟩,⟨rfl,Tv⟩⟩
 have hon:=hz.1 c4;obtain⟨e1,e2,_,_⟩:=Dv hg hon;have hon2:=hon;unfold onG at hon2;have hpos:0<=g.W*(y+j):=Faw θ θ;have hrl:=yfe g x y k d j i;refine Qd ?_;refine Qd ?_;refine Qd ?_;refine Qd ?_;refine⟨ψ,?_⟩;refine Bj (ie:=ti2) (rows':=[zv (x+i+g.W*(y+j))]) hap2 ?_ ?_ ⟨?_,?_⟩ (λv3 st3 h3=>?_)
 ·rfl
 ·rfl
 ·simp only[zj,Hh,Fas,ti2];omega
 ·simp only[zj,Hh,Fas];omega
 obtain⟨s,f1,f2,rfl,f3⟩:=next v3 st3 (by rw[yfa hg hon c1 c2 c3,zbu,<-Ia,show qh [tl g (x+i) (y+j)]=[x+i+g.W*(y+j)] by unfold qh;rw[Fb7,e1];rfl];exact h3)
 refine Qd ?_;exact⟨(b+1,v3),f1,f2,⟨Tq,Tq,Tq,Tq,Tq,Tq,Tq,θ3,Tv⟩,⟨rfl,Tv⟩⟩
section
variable {S:Store} {xw s p:Nat} {w:Wld} {v o0 o1 o2 fv:AV}
theorem zd5{l:List Unt}(hr:yl l){id:Int}{i:Nat}{z:Bool}(h:z=true↔∃hi:i<l.length,l[i].id=id)(hat:Mx l id i):(z=true->qq l id=some i)/\(z=false->qq l id=none):=by
 refine⟨λhz=>?_,λhz=>?_⟩
 ·obtain⟨hi,e⟩:=h.1 hz;exact Pw hr hi e
 ·cases hf:qq l id with
  |none=>rfl
  |some k=>
   obtain⟨hk,e⟩:=Li hf;have hno:¬∃hi:i<l.length,l[i].id=id:=λhh=>by rw[h.2 hh]at hz;cases hz
   by_cases h1:k<i
   ·have:=hat.2.1 k hk h1;omega
   ·have hil:i<l.length:=θ;have:=hat.2.2 i hil (Fak _);by_cases h2:i<k
    ·have:=Sy hr h2 hk;omega
    ·have e3:k=i:=θ;subst e3;exact absurd ⟨hk,e⟩ hno
structure AtW(S:Store)(xw s p:Nat)(w:Wld)(v o0 o1 o2:AV)(c:Cmd)(fv:AV):Prop where
 hx:S.obj xw=some (.cells (wkC s c fv))
 hs:S.obj s=some (.cells (svC w v o0 o1 o2 p))
 hr:RowsQ 10 zn S v w.U
theorem o6{c:Cmd}(ha:AtW S xw s p w v o0 o1 o2 c fv)(hr:yl w.U)(hU:w.U.length<=1000000)(id:Int)(R:Ja)(h:R (.tup [.agg (zn (uAt w id)),int (j2 w c.P id)]) S):Jb 373 [ptr xw,int id] S R:=by
 obtain⟨hx,hs,hv⟩:=ha;obtain⟨oa,cap,e,hget⟩:=hv.form;subst e;refine Qa (c:=cfg 52) zb Tryz.func373 ?_;refine Qav ?_;refine Qav ?_;refine bz hv θ hr id _ (λi hi z hz=>?_);obtain⟨g1,g2⟩:=zd5 hr hz hi;cases z with
 |false=>
  obtain⟨e1,e2⟩:=o7 (w:=w) (P:=c.P) (g2 rfl);rw[e1,e2]at h;exact ret h
 |true=>
  obtain⟨hil,hid⟩:=hz.1 rfl;obtain⟨_,_,e2⟩:=R2 (w:=w) (g1 rfl);rw[e2,zgl (P:=c.P) (g1 rfl) hil]at h;refine Qav ?_;refine Qav ?_;obtain⟨b,J,rfl,hob⟩:=hget i hil;refine⟨i,rfl,hil,?_⟩;refine Qav ?_;refine jc (i:=ti72) (row:=zn w.U[i]) rfl rfl (Mh Bb hil) ?_;refine Qc zb yap ?_;refine Qav ?_;refine Qat ?_;refine qf (λc1=>?_) (λc1=>?_)
  ·rw[if_neg c1]at h;exact ret h
  rw[if_pos c1]at h;refine qf (λc2=>?_) (λc2=>?_)
  ·rw[if_neg c2]at h;exact ret h
  ·rw[if_pos c2]at h;exact ret h
theorem all_nil{c:Cmd}(ha:AtW S xw s p w v o0 o1 o2 c fv)(hr:yl w.U)(hU:w.U.length<=1000000)(hc:c.U.length<=1000000)(R:Ja)
  (h:allE (j2 w c.P) c.U=0->R (.tup [lst 10 zn (c.U.map (uAt w)),int 0]) S) (h':allE (j2 w c.P) c.U≠0->R (.tup [.s (.slice none 0 0),int (allE (j2 w c.P) c.U)]) S):Jb 285 [ptr xw,.s .nilFunc] S R:=by
 refine Qa (c:=cfg 44) zb Tryz.func285 ?_;refine za (o:=S.obj xw) _ ha.hx ?_
 refine AWp.loop (σ:=Nat×AV) ⟨λx=>[(0,.av (ptr xw)),(1,.av (.s .nilFunc)),(4,.av x.2),(14,.av (yh c.U)),(15,.av (int (c.U.length:Nat))),(16,.av (int (x.1:Nat)))],λ_=>[],
  λx st'=>x.1<=c.U.length/\App 10 S x.2 (rws zn ((c.U.take x.1).map (uAt w))) st'/\∀j,(hj:j<c.U.length)->j<x.1->j2 w c.P c.U[j]=0,λx=>c.U.length-x.1⟩ zb ?_ ?_
 ·refine⟨(0,_),Tv,⟨Fae _,App.start 10 S,λj _ hj=>θ⟩,⟨Tq,Tq,Tq,Tq,?_,Tq,Tv⟩,Tv⟩;rw[<-zj (f:=zv) c.U];exact Tq
 rintro⟨i,v2⟩ st' ⟨hi,hap,hall⟩;dsimp only at hi hap hall⊢;refine bcd (λh1=>?_) (λh1=>?_);rotate_left
 ·have:i=c.U.length:=θ;subst this;rw[Fal]at hap;exact⟨_,_,AV.le_tupL (xs:=[v2,int 0]) (ys:=[lst 10 zn (c.U.map (uAt w)),int 0]) ⟨AV.le_trans hap.le (Tt),Tt,Tv⟩,hap.has,h (pk λj hj=>hall j hj hj)⟩
 have hlt:i<c.U.length:=θ;have ha':AtW st' xw s p w v o0 o1 o2 c fv:=⟨by rw[hap.obj];exact ha.hx,by rw[hap.obj];exact ha.hs,ha.hr.sub λ_ _ _ _=>by rw[hap.obj]⟩
 refine⟨i,rfl,za _ (zq hlt) ?_⟩;refine o6 ha' hr hU c.U[i] _ ?_;refine zw (λc1=>?_) (λc1=>?_);rotate_left
 ·refine qf (λc2=>?_) (λc2=>absurd c2 c1);have e:=pj hlt hall c1;have:=h' (by rw[e];exact c1);rw[e]at this;exact⟨_,_,Tt,hap.has,this⟩
 refine qf (λc2=>absurd c1 c2) (λc2=>?_);refine⟨ψ,?_⟩;refine Bj (ie:=ti72) (rows':=[zn (uAt w c.U[i])]) hap ?_ ?_ ⟨?_,?_⟩ (λv3 st3 ha3=>?_)
 ·rfl
 ·rfl
 ·simp only[zj,Fap,Fam,Fas,ti72];omega
 ·simp only[zj,Fap,Fam,Fas];omega
 refine Qd ?_;refine⟨(i+1,v3),?_,⟨ζ,?_,λj hj hji=>?_⟩,Qaq,Tv⟩
 ·show c.U.length-(i+1)<c.U.length-i;omega
 ·dsimp only;rw[Fab hlt,Fax];unfold rws at ha3⊢;rw[Fax];exact ha3
 ·by_cases e:j=i
  ·subst e;exact c1
  ·exact hall j hj ψc
end
theorem zhe{F G:Store}{xw s p:Nat}{w:Wld}{v:AV}{L:List Ent}{o0 o1 o2:AV}{c:Cmd}{fv:AV}(hW:Work F G xw s p w v L o0 o1 o2 c fv)(hm:MayF w)(hn:∀u∈w.U,u.pos.ok)(hc:c.U.length<=64)(R:Ja)
  (h:∀S',stE w c≠0->R (int (stE w c)) S') (h0:stE w c=0->∀S',Dp S' xw s c fv (stW w c)->R (int 0) S'):Jb 196 [ptr xw] (F.un (svS G s w v o0 o1 o2 p)) R:=by
 have hU:=hm.hU;have hLl:=hW.hL;refine Qa (c:=cfg 27) zb Tryz.func196 ?_;refine all_nil ⟨hW.x,hW.s,hW.r⟩ hm.hr θ θ _ (λhe=>?_) (λhe=>?_);rotate_left
 ·refine AWp.loop (σ:=Unit) ⟨λx=>[(4,.av (int (stE w c))),(13,.av (int 0)),(14,.av (int 0))],λ_=>[],λx st'=>True,λx=>0⟩ zb ?_ ?_
  ·exact⟨(),Tv,Tv,Qaq,Tv⟩
  rintro⟨⟩ st' _;exact ret (h _ he)
 have hzero:=Lp he;have hhe:stE w c=0:=he
 refine AWp.loop (σ:=Nat×Store×Store×List Ent) ⟨λx=>[(0,.av (ptr xw)),(4,.av (int 0)),(12,.av (lst 10 zn (c.U.map (uAt w)))),(13,.av (int (c.U.length:Nat))),(14,.av (int (x.1:Nat)))],λ_=>[],
  λx st'=>x.1<=c.U.length/\st'=x.2.1.un (svS x.2.2.1 s {w with U:=qs (c.U.take x.1) Gf w.U} v o0 o1 o2 p)/\StandR x.2.1 x.2.2.1 s p {w with U:=qs (c.U.take x.1) Gf w.U} v x.2.2.2 o0 o1 o2/\(∀q,j5 v q->x.2.2.1.obj q=G.obj q)/\x.2.2.2.length<=L.length+x.1/\∀e∈x.2.2.2,e.2.ok,λx=>c.U.length-x.1⟩ zb ?_ ?_
 ·refine⟨(0,F,G,L),Tv,⟨Fae _,?_,?_,λ_ _=>rfl,ζ,Kw hW.hF hn⟩,⟨Tq,Tq,Tq,?_,Tq,Tv⟩,Tv⟩
  ·dsimp only;rw[Fc1,Sh]
  ·dsimp only;rw[Fc1,Sh];exact hW.S
  ·have e:(c.U.length:Int)=((rws zn (c.U.map (uAt w))).length:Int):=by rw[zj,Fap]
   rw[e];exact Tq
 rintro⟨k,F1,G1,L1⟩ st' ⟨hk,rfl,hS,hG,hL,hok⟩;dsimp only at hk hS hG hL hok⊢;have hx:(F1.un (svS G1 s {w with U:=qs (c.U.take k) Gf w.U} v o0 o1 o2 p)).obj xw=some (.cells (wkC s c fv)):=zf (by show(G1.sO s _).obj xw=_;rw[zg hW.ne,hG xw hW.ox];exact hW.hx);refine bcd (λh1=>?_) (λh1=>?_);rotate_left
 ·have:k=c.U.length:=θ;subst this;rw[Fal]at hS hx⊢;exact ret (h0 hhe _ ⟨v,o0,o1,o2,p,hx,zf (Be _ _ _ _ _ _ _ _),(H3 hS.hs hS.hu).un⟩)
 have hlt:k<c.U.length:=θ;obtain⟨i,hi,hf,hid,hu,how,hin⟩:=I6 (hzero c.U[k] (Faa hlt));have hlm:k<(c.U.map (uAt w)).length:=by rw[Fap];exact hlt
 refine⟨k,rfl,za _ (zq hlm) ?_⟩;have hgm:(c.U.map (uAt w))[k]=w.U[i]:=by rw[Fbw,hu]
 rw[hgm];refine Qc zb yc1 ?_;refine za (o:=(F1.un (svS G1 s _ v o0 o1 o2 p)).obj xw) _ hx ?_;refine⟨fw w.U[i] _ _ ⟨(by repeat(first|exact Tv|refine⟨rfl,?_⟩|refine⟨za (o:=(F1.un (svS G1 s _ v o0 o1 o2 p)).obj xw) _ hx rfl,?_⟩)),?_⟩,Tv⟩;have hi2:i<(qs (c.U.take k) Gf w.U).length:=by rw[Dc];exact hi
 refine⟨Vh hS hW.os (fa (g:=Gf) (λ_=>rfl) hm.hr) (by rw[Dc];omega) θ hok hi2 (Gf w.U[i]) (Si (g:=Gf) (λ_=>rfl) hi) (hn w.U[i] (Faa hi)) _ (λF2 G2 L2 g1 g2 g3 g4=>⟨Tv,?_⟩),Tv⟩;have e5:c.U.take k++[w.U[i].id]=c.U.take (k+1):=by rw[Fab hlt,hid]
 dsimp only at g1⊢;rw[ud hm.hr hi,e5]at g1⊢;refine Qd ?_;refine⟨(k+1,F2,G2,L2),?_,⟨ζ,rfl,g1,λq hq=>(g2 q hq).trans (hG q hq),ζ,g4⟩,Qaq,Tv⟩;show c.U.length-(k+1)<c.U.length-k;omega
section
variable {S:Store} {v o0 o1 o2 fv:AV} {xw s p:Nat} {w:Wld}
theorem zc3{U:List Unt}(hv:RowsQ 10 zn S v U)(hl:U.length<=1000000)(id:Int)(R:Ja)(h:R (yh (z8 U id)) S):Jb 293 [v,int id] S R:=by
 obtain⟨oa,cap,e,hget⟩:=hv.form;subst e;refine Qa (c:=cfg 24) zb Tryz.func293 ?_
 refine AWp.loop (σ:=Nat×AV) ⟨λx=>[(1,.av (int id)),(4,.av x.2),(7,.av (.s (.slice oa U.length cap))),(8,.av (int (U.length:Nat))),(9,.av (int (x.1:Nat)))],λ_=>[],
  λx st'=>x.1<=U.length/\App 1 S x.2 (rws zv (z8 (U.take x.1) id)) st',λx=>U.length-x.1⟩ zb ?_ ?_
 ·exact⟨(0,_),Tv,⟨Fae _,App.start 1 S⟩,⟨Tq,Tq,Tq,Tq,Tq,Tv⟩,Tv⟩
 rintro⟨i,v2⟩ st' ⟨hi,hap⟩;dsimp only at hi hap⊢;refine bcd (λh1=>?_) (λh1=>?_);rotate_left
 ·have:i=U.length:=θ;subst this;rw[Fal]at hap;exact⟨_,_,hap.le,hap.has,h⟩
 have hlt:i<U.length:=θ;have hs:=zc4 hlt id;have hl1:(z8 (U.take i) id).length<=1000000:=by have h1:=Wh (l:=U) i id;have h2:(z8 U id).length<=U.length:=θ2;omega
 obtain⟨b,J,e2,hob⟩:=hget i hlt;have hob:st'.obj b=some (.cells ((rws zn U).flatten++J)):=by rw[hap.obj];exact hob
 subst e2;refine⟨i,rfl,hlt,?_⟩;refine Qav ?_;refine jc (i:=ti72) (row:=zn U[i]) rfl rfl (Mh Bb hlt) ?_;refine zw (λc1=>?_) (λc1=>?_)
 ·rw[if_pos c1]at hs;refine⟨ψ,?_⟩;refine Bj (ie:=ti2) (rows':=[zv U[i].id]) hap ?_ ?_ ⟨?_,?_⟩ (λv3 st3 ha3=>?_)
  ·rfl
  ·rfl
  ·simp only[zj,Fas,ti2];omega
  ·simp only[zj,Fas];omega
  refine Qd ?_;refine⟨(i+1,v3),?_,⟨ζ,?_⟩,Qaq,Tv⟩
  ·show U.length-(i+1)<U.length-i;omega
  ·dsimp only;rw[hs];unfold rws at ha3⊢;rw[Fax];exact ha3
 ·rw[if_neg c1,Fbn]at hs;refine Qd ?_;refine⟨(i+1,v2),?_,⟨ζ,?_⟩,Qaq,Tv⟩
  ·show U.length-(i+1)<U.length-i;omega
  ·dsimp only;rw[hs];exact hap
theorem ysu{c:Cmd}(ha:AtW S xw s p w v o0 o1 o2 c fv)(hr:yl w.U)(hU:w.U.length<=1000000)(hc:c.U.length<=1000000)(fn:FuncId)(cap:List AV)(more:Unt->Int)
  (hf:∀id,j2 w c.P id=0->∀st',(∀q,st'.obj q=S.obj q)->∀R:AV->Store->Prop,R (int (more (uAt w id))) st'->Jb fn ([.agg (zn (uAt w id))]++cap) st' R) (E:Int->Int) (hE:∀id,E id=if j2 w c.P id=0 then more (uAt w id)else j2 w c.P id) (R:Ja)
  (h:allE E c.U=0->R (.tup [lst 10 zn (c.U.map (uAt w)),int 0]) S) (h':allE E c.U≠0->R (.tup [.s (.slice none 0 0),int (allE E c.U)]) S):Jb 285 [ptr xw,.clos fn cap] S R:=by
 refine Qa (c:=cfg 44) zb Tryz.func285 ?_;refine za (o:=S.obj xw) _ ha.hx ?_
 refine AWp.loop (σ:=Nat×AV) ⟨λx=>[(0,.av (ptr xw)),(1,.av (.clos fn cap)),(4,.av x.2),(14,.av (yh c.U)),(15,.av (int (c.U.length:Nat))),(16,.av (int (x.1:Nat)))],λ_=>[],
  λx st'=>x.1<=c.U.length/\App 10 S x.2 (rws zn ((c.U.take x.1).map (uAt w))) st'/\∀j,(hj:j<c.U.length)->j<x.1->E c.U[j]=0,λx=>c.U.length-x.1⟩ zb ?_ ?_
 ·refine⟨(0,_),Tv,⟨Fae _,App.start 10 S,λj _ hj=>θ⟩,⟨Tq,Tq,Tq,Tq,?_,Tq,Tv⟩,Tv⟩;rw[<-zj (f:=zv) c.U];exact Tq
 rintro⟨i,v2⟩ st' ⟨hi,hap,hall⟩;dsimp only at hi hap hall⊢;refine bcd (λh1=>?_) (λh1=>?_);rotate_left
 ·have:i=c.U.length:=θ;subst this;rw[Fal]at hap;exact⟨_,_,AV.le_tupL (xs:=[v2,int 0]) (ys:=[lst 10 zn (c.U.map (uAt w)),int 0]) ⟨AV.le_trans hap.le (Tt),Tt,Tv⟩,hap.has,h (pk λj hj=>hall j hj hj)⟩
 have hlt:i<c.U.length:=θ;have hEi:=hE c.U[i];have ha':AtW st' xw s p w v o0 o1 o2 c fv:=⟨by rw[hap.obj];exact ha.hx,by rw[hap.obj];exact ha.hs,ha.hr.sub λ_ _ _ _=>by rw[hap.obj]⟩
 have bad:E c.U[i]≠0->R (.tup [.s (.slice none 0 0),int (E c.U[i])]) S:=λhne=>by have e:=pj hlt hall hne;have:=h' (by rw[e];exact hne);rw[e]at this;exact this
 refine⟨i,rfl,za _ (zq hlt) ?_⟩;refine o6 ha' hr hU c.U[i] _ ?_;refine zw (λc1=>?_) (λc1=>?_);rotate_left
 ·rw[if_neg c1]at hEi;rw[hEi]at bad;refine qf (λc2=>?_) (λc2=>absurd c2 c1);exact⟨_,_,Tt,hap.has,bad c1⟩
 rw[if_pos c1]at hEi;refine hf c.U[i] c1 st' (λq=>by rw[hap.obj]) _ ?_;rw[hEi]at bad;refine qf (λc2=>?_) (λc2=>?_)
 ·exact⟨_,_,Tt,hap.has,bad c2⟩
 rw[c2]at hEi;refine⟨ψ,?_⟩;refine Bj (ie:=ti72) (rows':=[zn (uAt w c.U[i])]) hap ?_ ?_ ⟨?_,?_⟩ (λv3 st3 ha3=>?_)
 ·rfl
 ·rfl
 ·simp only[zj,Fap,Fam,Fas,ti72];omega
 ·simp only[zj,Fap,Fam,Fas];omega
 refine Qd ?_;refine⟨(i+1,v3),?_,⟨ζ,?_,λj hj hji=>?_⟩,Qaq,Tv⟩
 ·show c.U.length-(i+1)<c.U.length-i;omega
 ·dsimp only;rw[Fab hlt,Fax];unfold rws at ha3⊢;rw[Fax];exact ha3
 ·by_cases e:j=i
  ·subst e;exact hEi
  ·exact hall j hj ψc
theorem zfu{c:Cmd}(ha:AtW S xw s p w v o0 o1 o2 c fv)(hr:yl w.U)(hU:w.U.length<=1000000)(R:Ja)(h:R (.tup [.agg (zn (uAt w c.N)),int (Aj w c.P c.N)]) S):Jb 292 [ptr xw] S R:=by
 unfold Aj at h;refine Qa (c:=cfg 27) zb Tryz.func292 ?_;refine za (o:=S.obj xw) _ ha.hx ?_;refine o6 ha hr hU c.N _ ?_;refine zw (λc1=>?_) (λc1=>?_)
 ·rw[if_pos c1]at h;refine ju _ _ _ ?_;refine zw (λc2=>?_) (λc2=>?_)
  ·rw[if_pos c2]at h;exact ret h
  ·rw[if_neg c2]at h;rw[<-c1]at h;exact ret h
 ·rw[if_neg c1]at h;exact ret h
theorem ykd(x u:Unt)(hx:x.pos.ok)(hu:u.pos.ok)(pb:Nat)(st:Store)(hb:st.obj pb=some (.cells (zn x)))(R:Ja)(h:R (int (Ms x u)) st):Jb 294 ([.agg (zn u)]++[ptr pb]) st R:=by
 unfold Ms at h;refine Qa (c:=cfg 16) zb Tryz.func294 ?_;refine ju _ _ _ ?_;refine bcd (λc1=>?_) (λc1=>?_)
 ·rw[if_pos c1]at h;exact ret h
 rw[if_neg c1]at h;refine Qav ?_;refine zec u.pos x.pos hu hx _ _ ?_;refine bcd (λc2=>?_) (λc2=>?_)
 ·rw[if_pos c2]at h;exact ret h
 ·rw[if_neg c2]at h;exact ret h
end
section
variable {F G:Store} {xw s p:Nat} {w:Wld} {v o0 o1 o2 fv:AV}
theorem Work.add{L:List Ent}{c:Cmd}(h:Work F G xw s p w v L o0 o1 o2 c fv){pb:Nat}(hpb:Fresh (F.un (svS G s w v o0 o1 o2 p)) pb)(z:AObj):
  Work F (G.sO pb z) xw s p w v L o0 o1 o2 c fv/\(F.un (svS G s w v o0 o1 o2 p)).sO pb z=F.un (svS (G.sO pb z) s w v o0 o1 o2 p)/\j5 v pb/\pb≠s:=by
 have hx1:¬F.has pb/\¬(svS G s w v o0 o1 o2 p).has pb:=by have:=fresh_iff.1 hpb;exact⟨λh=>this (un_has.2 (.inl h)),λh=>this (un_has.2 (.inr h))⟩
 have hne:pb≠s:=λe=>hx1.2 (svS_has.2 (.inl e));have hxN:¬G.has pb:=λh=>hx1.2 (svS_has.2 (.inr h));have hxw:pb≠xw:=λe=>hxN (by rw[e];exact k9 h.hx);have off:=Kx h.S.hu (wl hxN).1;refine⟨⟨⟨h.S.hc,λi h1 h2=>?_,?_,h.S.hu.set off _,h.S.h0,h.S.h1,h.S.h2⟩,?_,h.ox,h.os,h.hL,h.hF⟩,?_,off,hne⟩
 ·rcases svS_has.1 h2 with rfl|h2
  ·exact h.S.hd _ h1 (svS_has.2 (.inl rfl))
  ·by_cases hi:i=pb
   ·subst hi;exact hx1.1 h1
   ·refine h.S.hd _ h1 (svS_has.2 (.inr ?_));rcases h2 with h2|h2
    ·rw[zg hi]at h2;exact .inl h2
    ·exact .inr h2
 ·rw[zg (Ne.symm hne)];exact h.S.hs
 ·rw[zg (Ne.symm hxw)];exact h.hx
 ·rw[zz];unfold svS;rw[Ge hne]
theorem ykn{c:Cmd}(h:Aj w c.P c.N≠0):ldE w c=Aj w c.P c.N:=by unfold ldE;rw[if_neg h]
theorem ykm{c:Cmd}(h:Aj w c.P c.N=0)(h2:allE (ldA w c.P c.N) c.U≠0):ldE w c=allE (ldA w c.P c.N) c.U:=by unfold ldE;rw[if_pos h,if_neg h2]
theorem ykl{c:Cmd}(h:Aj w c.P c.N=0)(h2:allE (ldA w c.P c.N) c.U=0):ldE w c=if jh (uAt w c.N).kind<((z8 w.U c.N).length:Int)+(c.U.length:Int)then 4 else 0:=by unfold ldE;rw[if_pos h,if_pos h2]
theorem zht{L:List Ent}{c:Cmd}(hW:Work F G xw s p w v L o0 o1 o2 c fv)(hmp:z7 w)(hn:∀u∈w.U,u.pos.ok)(hc:c.U.length<=64)(hN:1<=c.N)(R:Ja)
  (h:∀S',ldE w c≠0->R (int (ldE w c)) S') (h0:ldE w c=0->∀S',Dp S' xw s c fv (ldW w c)->R (int 0) S'):Jb 199 [ptr xw] (F.un (svS G s w v o0 o1 o2 p)) R:=by
 have hm:=wn hmp;have hU:=hm.hU;have hLl:=hW.hL;obtain⟨oa,cap,e,hget⟩:=hW.S.hu.form;subst e;refine Qa (c:=cfg 65 [3] []) zb Tryz.func199 ?_;refine zfu ⟨hW.x,hW.s,hW.r⟩ hm.hr θ _ ?_;intro pb hpb;refine Aa (i:=ti72) (v:=.agg (zn (uAt w c.N))) (xs:=zn (uAt w c.N)) (b:=pb) (o:=0) (l:=_) rfl rfl rfl (zd _ _ _) (show 0+10<=10 by decide) ?_;obtain⟨hW1,e1,off1,hps⟩:=hW.add hpb (.cells (zn (uAt w c.N)));have e3:∀l:List AV,l.length=10->zp l 0 (zn (uAt w c.N))=zn (uAt w c.N):=λl hl=>by unfold zp;rw[Fc1,Fdh,Fbi,Bb,Fc2 θ,Fbn]
 rw[ym,e3 _ (by simp[ti72]),e1];have hx:=hW1.x (F':=F) (q0:=o0) (q1:=o1) (q2:=o2);have hs:=hW1.s (F':=F) (q0:=o0) (q1:=o1) (q2:=o2);have hr:=hW1.r (F':=F) (q0:=o0) (q1:=o1) (q2:=o2);have hgb:(G.sO pb (.cells (zn (uAt w c.N)))).obj pb=some (.cells (zn (uAt w c.N))):=zd _ _ _;generalize G.sO pb (.cells (zn (uAt w c.N)))=G0 at*;have hb:(F.un (svS G0 s w (.s (.slice oa w.U.length cap)) o0 o1 o2 p)).obj pb=some (.cells (zn (uAt w c.N))):=zf (by show(G0.sO s _).obj pb=_;rw[zg hps];exact hgb);refine qf (λc1=>?_) (λc1=>?_)
 ·have:=ykn c1;rw[this]at h;exact ret (h _ c1)
 obtain⟨hask,hroom⟩:=oi c1;obtain⟨ix,hix,hfx,hidx,hux,_,_⟩:=I6 hask;have hrm:=yll hmp hix θ;rw[hidx]at hrm;rw[hux]at hroom hb;have hkb:=Mv w.U[ix].kind;have hin:(z8 w.U c.N).length<=w.U.length:=θ2;rw[hux];refine Qc zb ycu ?_;refine za (o:=(F.un (svS G0 s w _ o0 o1 o2 p)).obj pb) _ hb ?_;refine za (o:=(F.un (svS G0 s w _ o0 o1 o2 p)).obj xw) _ hx ?_;refine za (o:=(F.un (svS G0 s w _ o0 o1 o2 p)).obj s) _ hs ?_;refine za (o:=(F.un (svS G0 s w _ o0 o1 o2 p)).obj pb) _ hb ?_;refine⟨ju _ _ _ ⟨(by repeat(first|exact Tv|refine⟨rfl,?_⟩|refine⟨za (o:=(F.un (svS G0 s w _ o0 o1 o2 p)).obj pb) _ hb rfl,?_⟩|refine⟨za (o:=(F.un (svS G0 s w _ o0 o1 o2 p)).obj xw) _ hx rfl,?_⟩|refine⟨za (o:=(F.un (svS G0 s w _ o0 o1 o2 p)).obj s) _ hs rfl,?_⟩)),?_⟩,Tv⟩;rw[hidx];refine⟨zc3 hr θ c.N _ ⟨Qe,?_⟩,Tv⟩;refine ze θf ?_;refine Qau ?_;rw[zj];refine ysu ⟨hx,hs,hr⟩ hm.hr θ θ _ _ (Ms w.U[ix]) (λid hid st' ho R h=>ykd w.U[ix] (uAt w id) (hn _ (Faa hix)) (rv hn id) pb st' (by rw[ho];exact hb) R h) (ldA w c.P c.N) (λid=>by unfold ldA;rw[hux]) _ (λhe=>?_) (λhe=>?_);rotate_left
 ·have e5:=ykm c1 he;refine bcd (λh1=>absurd h1 θ) (λ_=>?_);refine AWp.loop (σ:=Unit) ⟨λx=>[(4,.av (int (ldE w c))),(45,.av (int 0)),(46,.av (int 0))],λ_=>[],λx st'=>True,λx=>0⟩ zb ?_ ?_
  ·refine⟨(),Tv,Tv,⟨?_,Tq,Tq,Tv⟩,Tv⟩;rw[e5];exact Tq
  rintro⟨⟩ st' _;exact ret (h _ (by rw[e5];exact he))
 have hzero:=Lp he;have e5:=ykl c1 he;rw[hux]at e5;refine bcd (λh1=>?_) (λh1=>?_)
 ·rw[zj,Fap]at h1;rw[if_pos θ]at e5;rw[e5]at h;exact ret (h _ ψ)
 rw[zj,Fap]at h1;rw[if_neg θ]at e5
 refine AWp.loop (σ:=Nat×Store×Store×List Ent) ⟨λx=>[(0,.av (ptr xw)),(3,.av (ptr pb)),(4,.av (int 0)),(44,.av (lst 10 zn (c.U.map (uAt w)))),(45,.av (int (c.U.length:Nat))),(46,.av (int (x.1:Nat)))],λ_=>[],
  λx st'=>x.1<=c.U.length/\st'=x.2.1.un (svS x.2.2.1 s {w with U:=qs (c.U.take x.1) (ldU c.N) w.U} (.s (.slice oa w.U.length cap)) o0 o1 o2 p)/\StandR x.2.1 x.2.2.1 s p {w with U:=qs (c.U.take x.1) (ldU c.N) w.U} (.s (.slice oa w.U.length cap)) x.2.2.2 o0 o1 o2/\(∀q,j5 (.s (.slice oa w.U.length cap)) q->x.2.2.1.obj q=G0.obj q)/\x.2.2.2.length<=L.length+x.1/\∀e∈x.2.2.2,e.2.ok,λx=>c.U.length-x.1⟩ zb ?_ ?_
 ·refine⟨(0,F,G0,L),Tv,⟨Fae _,?_,?_,λ_ _=>rfl,ζ,Kw hW.hF hn⟩,⟨Tq,Tq,Tq,Tq,?_,Tq,Tv⟩,Tv⟩
  ·dsimp only;rw[Fc1,Sh]
  ·dsimp only;rw[Fc1,Sh];exact hW1.S
  ·have e:(c.U.length:Int)=((rws zn (c.U.map (uAt w))).length:Int):=by rw[zj,Fap]
   rw[e];exact Tq
 rintro⟨k,F1,G1,L1⟩ st' ⟨hk,rfl,hS,hG,hL,hok⟩;dsimp only at hk hS hG hL hok⊢;have hx2:(F1.un (svS G1 s {w with U:=qs (c.U.take k) (ldU c.N) w.U} (.s (.slice oa w.U.length cap)) o0 o1 o2 p)).obj xw=some (.cells (wkC s c fv)):=zf (by show(G1.sO s _).obj xw=_;rw[zg hW1.ne,hG xw hW1.ox];exact hW1.hx);have hb2:(F1.un (svS G1 s {w with U:=qs (c.U.take k) (ldU c.N) w.U} (.s (.slice oa w.U.length cap)) o0 o1 o2 p)).obj pb=some (.cells (zn w.U[ix])):=zf (by show(G1.sO s _).obj pb=_;rw[zg hps,hG pb off1,hgb,hux]);refine bcd (λh1=>?_) (λh1=>?_);rotate_left
 ·have:k=c.U.length:=θ;subst this;rw[Fal]at hS hx2⊢;exact ret (h0 e5 _ ⟨_,o0,o1,o2,p,hx2,zf (Be _ _ _ _ _ _ _ _),(H3 hS.hs hS.hu).un⟩)
 have hlt:k<c.U.length:=θ;obtain⟨i,hi,hf,hid,hu,how,hin⟩:=I6 (zcs (hzero c.U[k] (Faa hlt))).1;have hlm:k<(c.U.map (uAt w)).length:=by rw[Fap];exact hlt
 refine⟨k,rfl,za _ (zq hlm) ?_⟩;have hgm:(c.U.map (uAt w))[k]=w.U[i]:=by rw[Fbw,hu]
 rw[hgm];refine fw w.U[i] _ _ ?_;refine za (o:=(F1.un (svS G1 s _ _ o0 o1 o2 p)).obj pb) _ hb2 ?_;refine Qc zb ycv ?_;refine za (o:=(F1.un (svS G1 s _ _ o0 o1 o2 p)).obj xw) _ hx2 ?_;have hi2:i<(qs (c.U.take k) (ldU c.N) w.U).length:=by rw[Dc];exact hi
 refine⟨Vh hS hW1.os (fa (g:=ldU c.N) (λ_=>rfl) hm.hr) (by rw[Dc];omega) θ hok hi2 (ldU w.U[ix].id w.U[i]) (Si (g:=ldU c.N) (λ_=>rfl) hi) (show Vc.ok (0,0) by unfold Vc.ok yg;decide) _ (λF2 G2 L2 g1 g2 g3 g4=>⟨Tv,?_⟩),Tv⟩;have e6:c.U.take k++[w.U[i].id]=c.U.take (k+1):=by rw[Fab hlt,hid]
 dsimp only at g1⊢;rw[hidx,ud hm.hr hi,e6]at g1⊢;refine Qd ?_;refine⟨(k+1,F2,G2,L2),?_,⟨ζ,rfl,g1,λq hq=>(g2 q hq).trans (hG q hq),ζ,g4⟩,Qaq,Tv⟩;show c.U.length-(k+1)<c.U.length-k;omega
end
end Go.Proofs
namespace Go.Proofs
open Go Go.V
set_option maxRecDepth 20000
set_option maxHeartbeats 4000000
theorem max2_eq(a b:Int):max2 a b=max a b:=by
 unfold max2;by_cases h:b>a
 ·rw[decide_eq_true h];show b=_;omega
 ·rw[decide_eq_false h];show a=_;omega
theorem yk4{f:FuncId}{xs:List AV}{l:List Int}(h0:Jb f xs Store.empty λr S=>RowsQ 1 zv S r l)(st:Store)(R:Ja)(h:R (yh l) st):Jb f xs st R:=by
 have h1:=h0.frozen (R:=λr=>r=yh l) (by rintro r S hv;exact⟨_,rfl,λOth M w' v' sto hx=>RowsQ.borrow (f:=zv) (k:=1) (λ_=>rfl) (λx y hy=>by simp[zv]at hy;exact⟨_,hy,rfl⟩) hv sto hx⟩)
 have h2:Jb f xs Store.empty λr S=>r=yh l/\S=Store.empty:=
  h1.post (Store.Le.refl _) λr st' hr=>⟨r,Store.empty,AV.le_refl r,(Wq st').toLe,hr,rfl⟩
 rw[<-Ag st];exact ACalls.frame (Nj st) h2 λr S ⟨e,e2⟩ hd=>by subst e e2;rw[Ag];exact h
theorem yel{α:Type}{k:Nat}{f:α->List AV}(S:Store):RowsQ k f S (.s (.slice none 0 0)) ([]:List α):=.inl (.inl ⟨rfl,rfl⟩)
theorem ytb(g:Gnd)(hg:zt g)(f:Nat->Bool)(size:Int)(hs:0<=size/\size<=3)(t:Nat)(ht:t<g.T.length)(n:Nat)(hn:n<=1000):
  Jb 73 [.agg (zu g),lst 1 qv (blL g.T.length f),int size,int t,int n] Store.empty λr S=>RowsQ 1 zv S r (qh (Mc g f size (t:Int) n)):=by
 have hm:=qm hg;have hg1:=hg.1;have hg2:=hg.2.1;have hdone:=λ(d:Nat) hh=>zzi hg (f:=f) (size:=size) (goal:=(t:Int)) (d:=d) (n:=n) ⟨θ,θ⟩ hh;have hstep:=λ(x y:Int) (k d:Nat) hk hd=>zzk (g:=g) (f:=f) (x:=x) (y:=y) (k:=k) (d:=d) hk hd;obtain⟨k,hk⟩:∃k:Nat,2*size+1=(k:Int):=⟨(2*size+1).toNat,θ⟩
 rw[hk]at hdone;have ring:=ye9 g hg t ht;generalize hx:(t:Int)%g.W=x at*;generalize hy:(t:Int)/g.W=y at*;refine Qa (c:=cfg 60) zb Tryz.func73 ?_;refine Qd ?_;refine Qd ?_
 refine AWp.loop (σ:=Nat×AV) ⟨λs=>[(1,.av (lst 1 qv (blL g.T.length f))),(3,.av (int (t:Nat))),(4,.av (int (n:Nat))),(5,.bx 5 0),(10,.av s.2),(11,.av (int (k:Nat))),(12,.av (int ((s.1*k:Nat))))],λ_=>[(5,zu g)],
  λs st'=>s.1*k<=200/\RowsQ 1 zv st' s.2 (qh ((wi g f x y k (s.1*k)).take n)),λs=>300-s.1*k⟩ zb ?_ ?_
 ·refine⟨(0,_),Tv,⟨ζ,?_⟩,⟨Tq,Tq,Tq,Tq,Tq,?_,?_,Tv⟩,⟨rfl,Tv⟩⟩
  ·dsimp only;rw[Nat.zero_mul];show RowsQ 1 zv _ _ (qh (([]:List Nat).take n));rw[List.take_nil];exact yel _
  ·rw[<-hk];exact Tq
  ·dsimp only;rw[Nat.zero_mul];exact Tq
 rintro⟨m,v⟩ st' ⟨hm2,hap⟩;dsimp only at hm2 hap⊢;obtain⟨d,hd⟩:∃d:Nat,m*k=d:=⟨_,rfl⟩
 have hdv:k∣d:=⟨m,by rw[Nat.mul_comm];exact hd.symm⟩
 have hm1:(m+1)*k=d+k:=by rw[Fcw,Nat.one_mul,hd]
 rw[hd]at hm2 hap⊢;obtain⟨oa,cap,e,_⟩:=hap.form;subst e;have hlenT:(qh ((wi g f x y k d).take n)).length=((wi g f x y k d).take n).length:=Hh _;refine bcd (λh1=>?_) (λh1=>?_);rotate_left
 ·rw[max2_eq]at h1;have e:=hdone d (.inr θ);exact ret (by rw[<-e];exact hap)
 refine bcd (λh2=>?_) (λh2=>?_);rotate_left
 ·rw[hlenT,Fam]at h2;have e:=hdone d (.inl θ);exact ret (by rw[<-e];exact hap)
 have h1:(d:Int)<=max g.W g.H:=by rw[max2_eq]at h1;exact h1
 refine ring d k ⟨θ,θ⟩ ⟨θ,θ⟩ _ _ ?_;have hstep:=hstep x y k d θ hdv;have hL:∀u∈Gh g x y k d,u<g.T.length:=λu hu=>Fbe.1 (Fbx.1 hu).1;have hLl:(Gh g x y k d).length<=g.T.length:=by have:=Fbh (Ox g x y k d) (List.range g.T.length);rw[Fdo]at this;exact this
 have hslot:Cu g f x y k d=(Gh g x y k d).filter f:=rfl;rw[hslot]at hstep;generalize Gh g x y k d=L at*;generalize hA:wi g f x y k d=A at*
 refine AWp.loop (σ:=Nat×AV) ⟨λs=>[(1,.av (lst 1 qv (blL g.T.length f))),(3,.av (int (t:Nat))),(4,.av (int (n:Nat))),(5,.bx 5 0),(10,.av s.2),(11,.av (int (k:Nat))),(12,.av (int (d:Nat))),(38,.av (yh (qh L))),(39,.av (int (L.length:Nat))),(40,.av (int (s.1:Nat)))],λ_=>[(5,zu g)],
  λs st'=>s.1<=L.length/\RowsQ 1 zv st' s.2 (qh ((A++(L.take s.1).filter f).take n)),λs=>L.length-s.1⟩ zb ?_ ?_
 ·refine⟨(0,_),Tv,⟨Fae _,?_⟩,⟨Tq,Tq,Tq,Tq,Tq,Tq,Tq,Tq,?_,Tq,Tv⟩,⟨rfl,Tv⟩⟩
  ·dsimp only;rw[Fc1,List.filter_nil,Fbn];exact hap
  ·show LV.le (.av (int ((rws zv (qh L)).length:Nat))) (.av (int (L.length:Nat)));rw[zj,Hh];exact Tq
 rintro⟨i,v2⟩ st2 ⟨hi,hap2⟩;dsimp only at hi hap2⊢;refine bcd (λh3=>?_) (λh3=>?_);rotate_left
 ·have:i=L.length:=θ;subst this;rw[Fal,<-hstep]at hap2;refine Qd ?_;refine⟨(m+1,v2),?_,⟨ζ,?_⟩,⟨Tq,Tq,Tq,Tq,Tq,Tq,?_,Tv⟩,⟨rfl,Tv⟩⟩
  ·show 300-(m+1)*k<300-m*k;omega
  ·dsimp only;rw[hm1];exact hap2
  ·dsimp only;rw[hm1,Int.natCast_add];exact Tq
 have hlt:i<L.length:=θ;have hlt2:i<(qh L).length:=by rw[Hh];exact hlt
 have hu:=hL _ (Faa hlt);have hnat:(qh L)[i]'hlt2=((L[i]'hlt:Nat):Int):=Fbw ..;have hu2:L[i]<(blL g.T.length f).length:=by rw[C8];exact hu
 have htk:(L.take (i+1)).filter f=(L.take i).filter f++[L[i]].filter f:=by rw[Fab hlt,Fch]
 obtain⟨oa2,cap2,e2,_⟩:=hap2.form;subst e2;have hlenT2:(qh ((A++(L.take i).filter f).take n)).length=((A++(L.take i).filter f).take n).length:=Hh _;have hdec:L.length-(i+1)<L.length-i:=θ;refine⟨i,rfl,za _ (zq hlt2) ?_⟩;refine⟨L[i],hnat,za _ (zq hu2) ?_⟩;rw[I4 hu];refine zk (λc1=>?_) (λc1=>?_);rotate_left
 ·have e:[L[i]].filter f=[]:=by simp[c1]
  rw[e,Fbn]at htk;refine Qd ?_;exact⟨(i+1,_),hdec,⟨ζ,by dsimp only;rw[htk];exact hap2⟩,⟨Tq,Tq,Tq,Tq,Tq,Tq,Tq,Tq,Tq,Tq,Tv⟩,⟨rfl,Tv⟩⟩
 have e:[L[i]].filter f=[L[i]]:=by simp[c1]
 rw[e]at htk;have hsn:=zys (A++(L.take i).filter f) L[i] n;rw[Fao,<-htk]at hsn;refine bcd (λc2=>?_) (λc2=>?_)
 ·have c2:(A++(L.take i).filter f).length<n:=(si _ _).1 (by rw[hlenT2]at c2;omega);rw[if_pos c2]at hsn;refine⟨ψ,?_⟩;have hTl:((A++(L.take i).filter f).take n).length<=1000:=by rw[Fam];omega
  refine Hv (ie:=ti2) rfl (λ_=>rfl) ψ hap2 ((qh L)[i]'hlt2) rfl (by rw[hlenT2];omega) (λb cap3 L3 q1 q2 q3 q4=>?_);have h3:RowsQ 1 zv (st2.sO b _) _ _:=.inl (.inr ⟨b,cap3,L3,rfl,zd _ _ _,q2,q3,q4⟩);refine Qd ?_;refine⟨(i+1,_),hdec,⟨ζ,?_⟩,⟨Tq,Tq,Tq,Tq,Tq,Tq,Tq,Tq,Tq,Tq,Tv⟩,⟨rfl,Tv⟩⟩;dsimp only;rw[hsn,zbu,show qh [L[i]]=[(qh L)[i]'hlt2] by rw[hnat];rfl];exact h3
 ·have c2:¬(A++(L.take i).filter f).length<n:=λhh=>c2 (by have:=(si (A++(L.take i).filter f) n).2 hh;rw[hlenT2];omega);rw[if_neg c2]at hsn;refine Qd ?_;refine⟨(i+1,_),hdec,⟨ζ,?_⟩,⟨Tq,Tq,Tq,Tq,Tq,Tq,Tq,Tq,Tq,Tq,Tv⟩,⟨rfl,Tv⟩⟩;dsimp only;rw[hsn];exact hap2
theorem yta(g:Gnd)(hg:zt g)(f:Nat->Bool)(size:Int)(hs:0<=size/\size<=3)(t:Nat)(ht:t<g.T.length)(n:Nat)(hn:n<=1000)(st:Store)(R:Ja)(h:R (yh (qh (Mc g f size (t:Int) n))) st):
  Jb 73 [.agg (zu g),lst 1 qv (blL g.T.length f),int size,int t,int n] st R:=
 yk4 (ytb g hg f size hs t ht n hn) st R h
end Go.Proofs
namespace Go.Proofs
open Go Go.V
set_option maxRecDepth 20000
set_option maxHeartbeats 4000000
theorem yhm(g:Gnd)(hg:zt g)(a b:Bld)(ha:yk a/\onP g a)(hb:yk b/\onP g b)(st:Store)(R:Ja)(h:R (V.bool (decide (vo a b))) st):Jb 376 [.agg (zi a),.agg (zi b)] st R:=by unfold yk onP at ha hb;unfold zt at hg;have hh:∀z:Bool,(z=true↔vo a b)->R (V.bool z) st:=λz hz=>δ;unfold vo at hh;refine Qa (c:=cfg 43) zb Tryz.func376 ?_;refine Qd ?_;refine bcd (λc1=>?_) (λc1=>ret (hh _ χ));refine Qd ?_;refine bcd (λc2=>?_) (λc2=>ret (hh _ χ));refine Qd ?_;refine bcd (λc3=>?_) (λc3=>ret (hh _ χ));refine Qd ?_;exact ret (hh _ (by rw[decide_eq_true_iff];omega))
theorem ygz(g:Gnd)(hg:zt g)(b x:Bld)(hb:yk b/\onP g b)(hx:yk x/\onP g x)(p:Nat)(st:Store)(hp:st.obj p=some (.cells (zi b)))(R:Ja)(h:R (V.bool (decide (vo x b))) st):Jb 375 ([.agg (zi x)]++[ptr p]) st R:=by refine Qa (c:=cfg 7) zb Tryz.func375 ?_;refine za _ hp ?_;exact yhm g hg x b hx hb _ _ (ret h)
theorem yol(b:Bld)(id:Int)(st:Store)(R:Ja)(h:R (int (Ah b.id id)) st):Jb 426 [.agg (zi b),int id] st R:=by refine Qa (c:=cfg 9) zb Tryz.func426 ?_;exact bg b.id id _ _ (ret h)
theorem yrn(l:List Bld)(hl:l.length<=1000000000000)(id:Int)(hid:∀b∈l,b.id<id)(st:Store)(R:Ja)(h:R (.tup [int (l.length:Nat),V.bool false]) st):
  Jb 425 [lst 6 zi l,int id,.clos 426 []] st R:=by
 refine Qa (c:=cfg 49) zb Tryz.func425 ?_
 refine AWp.loop (σ:=Nat) ⟨λs=>[(0,.av (lst 6 zi l)),(1,.av (int id)),(2,.av (.clos 426 [])),(8,.av (int (l.length:Nat))),(9,.av (int (s:Nat))),(10,.av (int (l.length:Nat)))],λ_=>[],
  λs st'=>st'=st/\s<=l.length,λs=>l.length-s⟩ zb ?_ ?_
 ·refine⟨0,Tv,⟨rfl,Fae _⟩,⟨Tq,Tq,Tq,?_,Tq,?_,Tv⟩,Tv⟩
  ·rw[<-zj (f:=zi) l];exact Tq
  ·rw[<-zj (f:=zi) l];exact Tq
 rintro i st' ⟨rfl,hi⟩;dsimp only at hi⊢;refine bcd (λh1=>?_) (λh1=>?_);rotate_left
 ·have e:i=l.length:=θ;subst e;refine bcd (λh2=>?_) (λh2=>?_)
  ·omega
  ·exact ret h
 refine Qd ?_;refine⟨ψ,?_⟩;have hmid:(IntKind.u64.wrap ((i:Int)+(l.length:Int))).fdiv (2^(min (1:Int).toNat IntKind.u64.bits))=(((i+l.length)/2:Nat):Int):=by
  have e1:IntKind.u64.wrap ((i:Int)+(l.length:Int))=((i+l.length:Nat):Int):=by grind[IntKind.wrap,IntKind.bits]
  have e2:(2:Int)^(min (1:Int).toNat IntKind.u64.bits)=2:=rfl;grind
 have hkl:(i+l.length)/2<l.length:=θ;refine⟨by rw[hmid];exact⟨θ,θ⟩,?_⟩;refine⟨(i+l.length)/2,hmid,za _ (zq hkl) ?_⟩;refine yol l[(i+l.length)/2] id _ _ ?_;have hc:Ah l[(i+l.length)/2].id id<0:=by simp_all[Ah]
 refine bcd (λh2=>?_) (λh2=>absurd hc h2);refine ze (by rw[hmid];omega) ?_;refine⟨(i+l.length)/2+1,?_,⟨rfl,θ⟩,⟨Tq,Tq,Tq,Tq,?_,Tq,Tv⟩,Tv⟩
 ·grind
 ·exact(congrArg (λn:Int=>LV.le (xr .i64 (n+1)) (.av (int (((i+l.length)/2+1:Nat):Int)))) hmid).mpr (Tq)
theorem yr2(l:List Bld)(hl:l.length<=1000000000000)(id:Int)(hid:∀b∈l,b.id<id)(st:Store)(R:Ja)(h:R (.tup [int (l.length:Nat),V.bool false]) st):Jb 374 [lst 6 zi l,int id] st R:=by refine Qa (c:=cfg 11) zb Tryz.func374 ?_;exact yrn l hl id hid _ _ (ret h)
theorem yle{N:Store}{v:AV}{l:List Bld}(hv:RowsQ 6 zi N v l)(hl:l.length<=1000000)(x:Bld)(R:Ja)(h:∀v' N',RowsQ 6 zi N' v' (l++[x])->R v' N'):Jb 377 [v,int (l.length:Nat),lst 6 zi [x]] N R:=by
 have hv2:=hv;rcases hv with(⟨rfl,rfl⟩|⟨b,cap,L,rfl,ho,hc1,hc2,hc3⟩)|⟨a,ha,rfl,rfl⟩
 ·refine Qa (c:=cfg 95) zb Tryz.func377 ?_;refine⟨rfl,rfl,?_⟩;refine Hv (ie:=ti61) rfl ko ψ hv2 x rfl ψ (λb cap2 L2 q1 q2 q3 q4=>ret (h _ _ (.inl (.inr ⟨b,cap2,L2,rfl,zd _ _ _,q2,q3,q4⟩))))
 ·refine Qa (c:=cfg 95) zb Tryz.func377 ?_;by_cases hc:l.length<cap
  ·refine⟨l.length,l.length,rfl,rfl,Fak _,hc1,.inl ⟨hc,?_⟩⟩;refine zw (λ_=>?_) (λh=>absurd rfl h);refine Hv (ie:=ti61) rfl ko ψ hv2 x rfl θ (λb cap2 L2 q1 q2 q3 q4=>ret (h _ _ (.inl (.inr ⟨b,cap2,L2,rfl,zd _ _ _,q2,q3,q4⟩))))
  ·refine⟨l.length,l.length,rfl,rfl,Fak _,hc1,.inr ⟨θ,?_⟩⟩;refine zw (λ_=>?_) (λh=>absurd rfl h);refine Hv (ie:=ti61) rfl ko ψ hv2 x rfl θ (λb cap2 L2 q1 q2 q3 q4=>ret (h _ _ (.inl (.inr ⟨b,cap2,L2,rfl,zd _ _ _,q2,q3,q4⟩))))
 ·cases a with
  |none=>
   refine Qa (c:=cfg 95) zb Tryz.func377 ?_;refine⟨rfl,rfl,?_⟩;refine Hv (ie:=ti61) rfl ko ψ hv2 x rfl ψ (λb cap2 L2 q1 q2 q3 q4=>ret (h _ _ (.inl (.inr ⟨b,cap2,L2,rfl,zd _ _ _,q2,q3,q4⟩))))
  |some y=>
   obtain⟨yb,yo,ys⟩:=y;have:=ha _ rfl;dsimp only at this;subst this;refine Qa (c:=cfg 95) zb Tryz.func377 ?_;refine⟨0,0,rfl,rfl,Fak _,Fak _,.inr ⟨rfl,?_⟩⟩;refine Hv (ie:=ti61) rfl ko ψ hv2 x rfl ψ (λb cap2 L2 q1 q2 q3 q4=>ret (h _ _ (.inl (.inr ⟨b,cap2,L2,rfl,zd _ _ _,q2,q3,q4⟩))))
theorem zcn{N:Store}{v:AV}{l:List Bld}(hv:RowsQ 6 zi N v l){Oth M:Nat->Nat->Prop}{w:World}(sto:StoreOK N Oth M w){x:Value}(hx:VRel w (λb o=>M b o\/Oth b o) v x):VRel w (λb o=>(M b o\/Oth b o)/\N.obj b=none) (lst 6 zi l) x:=hv.borrow ko Rj sto hx
theorem yrq(g:Gnd)(hg:zt g)(l:List Bld)(hl:l.length<=256)(hlb:∀b∈l,yk b/\onP g b)(b:Bld)(hb:yk b)(hid:∀x∈l,x.id<b.id):
  Jb 288 [.agg (zu g),lst 6 zi l,.agg (zi b)] Store.empty λr S=>(xt g l b≠0/\r=.tup [.s (.slice none 0 0),int (xt g l b)])\/(xt g l b=0/\∃v,RowsQ 6 zi S v (l++[b])/\r=.tup [v,int 0]):=by
 refine Qa (c:=cfg 48 [5] []) zb Tryz.func288 ?_;intro p hp;have ho:(Store.empty.sO p (.cells (zi b))).obj p=some (.cells (zi b)):=zd _ _ _
 have bad:∀n:Int,n≠0->xt g l b=n->∃r st',AV.le (.tup [.s (.slice none 0 0),int n]) r/\(Store.empty.sO p (.cells (zi b))).Has st'/\((xt g l b≠0/\r=.tup [.s (.slice none 0 0),int (xt g l b)])\/(xt g l b=0/\∃v,RowsQ 6 zi st' v (l++[b])/\r=.tup [v,int 0])):=λn hn e=>
  ret (.inl ⟨by rw[e];exact hn,by rw[e]⟩)
 refine za _ ho ?_;refine yr2 l θ b.id hid _ _ ?_;refine za _ ho ?_;refine zgd b _ _ (λz hz=>?_);refine yi ?_;refine zk (λc1=>?_) (λc1=>δ);refine za _ ho ?_;refine zf4 g b hg hb _ _ (λz hz=>?_);refine yi ?_;refine zk (λc2=>?_) (λc2=>?_);rotate_left
 ·have hno:¬onP g b:=λhh=>by grind
  exact bad 3 ψ (by unfold xt;rw[if_pos hno])
 have hon:=hz.1 c2;refine zf8 l θ _ _ (λx=>decide (vo x b)) _ (λx hx R h=>ygz g hg b x ⟨hb,hon⟩ (hlb x hx) p _ ho R h) _ ?_;refine zk (λc3=>?_) (λc3=>?_)
 ·have hex:∃x∈l,vo x b:=by grind
  exact bad 12 ψ (by simp_all[xt])
 have hnex:¬∃x∈l,vo x b:=λ⟨x,hx,h2⟩=>δ;refine za _ ho ?_;refine zge g hg b ⟨hb,hon⟩ _ _ (λz hz=>?_);refine yi ?_;refine zk (λc4=>?_) (λc4=>?_);rotate_left
 ·have hno:¬Fa g b:=λhh=>by grind
  exact bad 5 ψ (by simp_all[xt])
 have hfi:=hz.1 c4;have hlen:((rws zi l).length:Int)=(l.length:Int):=θc;refine zw (λc5=>?_) (λc5=>?_)
 ·exact bad 4 ψ (by unfold xt;grind)
 have h0:xt g l b=0:=by unfold xt;grind
 refine Qc zb ybs ?_;refine za (o:=(Store.empty.sO p (.cells (zi b))).obj p) _ ho ?_;refine⟨ψ,?_⟩;refine⟨bj l θ _ _ (λv N hv hd=>⟨?_,?_⟩),Tv⟩
 ·repeat(first|exact Tv|refine⟨rfl,?_⟩|refine⟨za (o:=(N.un (Store.empty.sO p (.cells (zi b)))).obj p) _ (zf ho) rfl,?_⟩)
 refine⟨yle (hv.unL hd) θ b _ (λv' N' hv'=>⟨Tv,?_⟩),Tv⟩;refine Qau ?_;refine Qau ?_;exact ret (.inr ⟨h0,_,hv',rfl⟩)
theorem yrp(g:Gnd)(hg:zt g)(l:List Bld)(hl:l.length<=256)(hlb:∀b∈l,yk b/\onP g b)(b:Bld)(hb:yk b)(hid:∀x∈l,x.id<b.id)(st:Store)(R:Ja)
  (h:xt g l b≠0->R (.tup [.s (.slice none 0 0),int (xt g l b)]) st) (h0:xt g l b=0->R (.tup [lst 6 zi (l++[b]),int 0]) st):Jb 288 [.agg (zu g),lst 6 zi l,.agg (zi b)] st R:=by
 have h1:=(yrq g hg l hl hlb b hb hid).frozen (R:=λr=>(xt g l b≠0/\r=.tup [.s (.slice none 0 0),int (xt g l b)])\/(xt g l b=0/\r=.tup [lst 6 zi (l++[b]),int 0])) (by
  rintro r S (⟨h1,rfl⟩|⟨h1,v,hv,rfl⟩)
  ·simp_all[xg]
  ·refine⟨_,.inr ⟨h1,rfl⟩,λOth M w' v' sto hx=>?_⟩;cases hx with
   |tup _ c2 hl hc2=>
    refine .tup _ c2 hl λi x y hx hy=>?_
    match i with
    |0=>simp only[Fag,Faf]at hx;subst hx;exact zcn hv sto (hc2 0 _ y rfl hy)
    |1=>simp only[Fan,Fag,Faf]at hx;subst hx;exact xg (hc2 1 _ y rfl hy)
    |i+2=>simp at hx)
 have h2:Jb 288 [.agg (zu g),lst 6 zi l,.agg (zi b)] Store.empty λr S=>((xt g l b≠0/\r=.tup [.s (.slice none 0 0),int (xt g l b)])\/(xt g l b=0/\r=.tup [lst 6 zi (l++[b]),int 0]))/\S=Store.empty:=
  h1.post (Store.Le.refl _) λr st' hr=>⟨r,Store.empty,AV.le_refl r,(Wq st').toLe,hr,rfl⟩
 rw[<-Ag st];exact ACalls.frame (Nj st) h2 λr S ⟨e,e2⟩ hd=>by subst e2;rw[Ag];grind
theorem yh5{w:Wld}(hm:z7 w):∀u∈w.U,u.inn=0->qt u.pos.1 u.pos.2:=λu hu h0=>by have hg:=(wn hm).hg;have hcl:=hm.2.1 u hu h0;have h1:=hcl.1.1;have hr:=Dk u.kind;have h2:=hg.1;have h3:=hg.2.1;unfold qt;omega
theorem zhs{F G:Store}{xw s p:Nat}{w:Wld}{v:AV}{L:List Ent}{o0 o1 o2:AV}{c:Cmd}{fv:AV}(hW:Work F G xw s p w v L o0 o1 o2 c fv)(hm:MayF w)(hn:∀u∈w.U,u.pos.ok)(hpl:∀u∈w.U,u.inn=0->qt u.pos.1 u.pos.2)(b:Bld)(hb:yk b/\onP w.G b)(R:Ja)
  (h:∀z F',(z=true↔K7 w b)->StandR F' G s p w v L o0 o1 o2->R (V.bool z) (F'.un (svS G s w v o0 o1 o2 p))):Jb 289 [ptr xw,.agg (zi b)] (F.un (svS G s w v o0 o1 o2 p)) R:=by
 have hU:=hm.hU;have hx:=hW.x (F':=F) (q0:=o0) (q1:=o1) (q2:=o2);have hs:=hW.s (F':=F) (q0:=o0) (q1:=o1) (q2:=o2);obtain⟨oa,cap,e,hget⟩:=hW.S.hu.form;subst e;refine Qa (c:=cfg 62) zb Tryz.func289 ?_;refine Qc zb ybr ?_;refine za (o:=(F.un (svS G s w _ o0 o1 o2 p)).obj xw) _ hx ?_;refine za (o:=(F.un (svS G s w _ o0 o1 o2 p)).obj s) _ hs ?_;refine⟨R6 w.G hm.hg b hb _ _ ⟨Qe,?_⟩,Tv⟩;have hmem:=Hj hm.hg hb.1 hb.2;have hts:=dz w.G.W hb.1;have hmw:K7 w b↔∃t∈Am w.G.W b,∃u∈w.U,u.inn=0/\jz w.G t.toNat u.pos (zx u.kind):=by
  unfold K7;constructor
  ·rintro⟨t,⟨h1,h2⟩,u,hu,h3⟩;exact⟨(t:Int),(hmem _).2 ⟨t,rfl,h1,h2⟩,u,hu,by rw[Fa8];exact h3⟩
  ·rintro⟨t,ht,u,hu,h3⟩;obtain⟨n,rfl,h1,h2⟩:=(hmem t).1 ht;rw[Fa8]at h3;exact⟨n,⟨h1,h2⟩,u,hu,h3⟩
 generalize Am w.G.W b=ts at*
 refine AWp.loop (σ:=Nat×Store) ⟨λx=>[(0,.av (ptr xw)),(18,.av (yh ts)),(19,.av (int (ts.length:Nat))),(20,.av (int (x.1:Nat)))],λ_=>[],
  λx st'=>x.1<=ts.length/\st'=x.2.un (svS G s w (.s (.slice oa w.U.length cap)) o0 o1 o2 p)/\StandR x.2 G s p w (.s (.slice oa w.U.length cap)) L o0 o1 o2/\∀j,(hj:j<ts.length)->j<x.1->∀u∈w.U,u.inn=0->¬jz w.G ts[j].toNat u.pos (zx u.kind),λx=>ts.length-x.1⟩ zb ?_ ?_
 ·refine⟨(0,F),Tv,⟨Fae _,rfl,hW.S,λj _ hj=>θ⟩,⟨Tq,Tq,?_,Tq,Tv⟩,Tv⟩;rw[<-zj (f:=zv) ts];exact Tq
 rintro⟨i,F1⟩ st' ⟨hi,rfl,hS1,hno⟩;dsimp only at hi hS1 hno⊢;refine bcd (λh1=>?_) (λh1=>?_);rotate_left
 ·refine ret (h false F1 ?_ hS1);simp only[Fah,false_iff];rw[hmw];rintro⟨t,ht,u,hu,h0,hh⟩;obtain⟨j,hj,rfl⟩:=Faj ht;exact hno j hj θ u hu h0 hh
 have hlt:i<ts.length:=θ;obtain⟨n,hn1,hn2,hn3⟩:=(hmem ts[i]).1 (Faa hlt);have hx1:=hW.x (F':=F1) (q0:=o0) (q1:=o1) (q2:=o2);have hs1:=hW.s (F':=F1) (q0:=o0) (q1:=o1) (q2:=o2);refine⟨i,rfl,za _ (zq hlt) ?_⟩;refine Qc zb ybq ?_;refine za (o:=(F1.un (svS G s w _ o0 o1 o2 p)).obj xw) _ hx1 ?_;refine za (o:=(F1.un (svS G s w _ o0 o1 o2 p)).obj xw) _ hx1 ?_;refine za (o:=(F1.un (svS G s w _ o0 o1 o2 p)).obj s) _ hs1 ?_;refine⟨V4 w.G hm.hg n hn2 ts[i] hn1 _ _ ⟨?_,?_⟩,Tv⟩
 ·repeat(first|exact Tv|refine⟨rfl,?_⟩|refine⟨za (o:=(F1.un (svS G s w _ o0 o1 o2 p)).obj xw) _ hx1 rfl,?_⟩|refine⟨za (o:=(F1.un (svS G s w _ o0 o1 o2 p)).obj s) _ hs1 rfl,?_⟩)
 have htb:=L5 hm.hg hn2;refine⟨tp hS1 hm.hr θ hn hW.hL hW.hF (tx w.G n+32768,ty w.G n+32768) ⟨⟨ζ,ζ⟩,⟨ζ,ζ⟩⟩ 65536 ψ _ (λF2 us hS2 hus hul=>⟨?_,?_⟩),Tv⟩
 ·repeat(first|exact Tv|refine⟨rfl,?_⟩)
 have hx2:=hW.x (F':=F2) (q0:=o0) (q1:=o1) (q2:=o2);have hs2:=hW.s (F':=F2) (q0:=o0) (q1:=o1) (q2:=o2)
 refine AWp.loop (σ:=Nat) ⟨λk=>[(0,.av (ptr xw)),(6,.av (int ts[i])),(18,.av (yh ts)),(19,.av (int (ts.length:Nat))),(20,.av (int (i:Nat))),(38,.av (lst 10 zn us)),(39,.av (int (us.length:Nat))),(40,.av (int (k:Nat)))],λ_=>[],
  λk st'=>k<=us.length/\st'=F2.un (svS G s w (.s (.slice oa w.U.length cap)) o0 o1 o2 p)/\∀j,(hj:j<us.length)->j<k->¬jz w.G n us[j].pos (zx us[j].kind),λk=>us.length-k⟩ zb ?_ ?_
 ·refine⟨0,Tv,⟨Fae _,rfl,λj _ hj=>θ⟩,⟨Tq,Tq,Tq,Tq,Tq,Tq,?_,Tq,Tv⟩,Tv⟩;rw[<-zj (f:=zn) us];exact Tq
 rintro k st' ⟨hk,rfl,hnk⟩;refine bcd (λh2=>?_) (λh2=>?_);rotate_left
 ·refine Qd ?_;refine⟨(i+1,F2),?_,⟨ζ,rfl,hS2,λj hj hji u hu h0 hh=>?_⟩,Qaq,Tv⟩
  ·show ts.length-(i+1)<ts.length-i;omega
  ·by_cases e:j=i
   ·subst e;rw[hn1,Fa8]at hh;have hnear:=yl8 hm.hg hn2 (hpl u hu h0) (Dk u.kind) hh;have hmu:=(hus u).2 ⟨⟨hu,h0⟩,hnear⟩;obtain⟨m,hm2,rfl⟩:=Faj hmu;exact hnk m hm2 θ hh
   ·exact hno j hj ψc u hu h0 hh
 have hkl:k<us.length:=θ;have huk:=(hus us[k]).1 (Faa hkl);refine⟨k,rfl,za _ (zq hkl) ?_⟩;refine Qc zb ybp ?_;refine za (o:=(F2.un (svS G s w _ o0 o1 o2 p)).obj xw) _ hx2 ?_;refine za (o:=(F2.un (svS G s w _ o0 o1 o2 p)).obj s) _ hs2 ?_;refine⟨ju us[k].kind _ _ ⟨?_,?_⟩,Tv⟩
 ·repeat(first|exact Tv|refine⟨rfl,?_⟩|refine⟨za (o:=(F2.un (svS G s w _ o0 o1 o2 p)).obj xw) _ hx2 rfl,?_⟩|refine⟨za (o:=(F2.un (svS G s w _ o0 o1 o2 p)).obj s) _ hs2 rfl,?_⟩)
 have hkr:=Dk us[k].kind;refine⟨zdc w.G hm.hg n hn2 ts[i] hn1 us[k].pos (hpl _ huk.1.1 huk.1.2) (zx us[k].kind) ⟨hkr.1,θ⟩ _ _ ⟨Tv,?_⟩,Tv⟩;refine bcd (λh3=>?_) (λh3=>?_)
 ·refine ret (h true F2 ?_ hS2);simp only[true_iff];exact hmw.2 ⟨ts[i],Faa hlt,us[k],huk.1.1,huk.1.2,by rw[hn1,Fa8];exact h3⟩
 refine Qd ?_;refine⟨k+1,?_,⟨θ,rfl,λj hj hjk=>?_⟩,Qaq,Tv⟩
 ·show us.length-(k+1)<us.length-k;omega
 ·by_cases e:j=k
  ·subst e;exact h3
  ·exact hnk j hj θ
def Vr(w:Wld)(i t:Nat)(hi:i<w.U.length):Wld:={w with U:=w.U.set i (Ds w.U[i] (qc w.G t))}
section
variable {i:Nat} {u:Unt} {w:Wld}
theorem zca{U:List Unt}{x:Unt}(h:u∈U.set i x):u=x\/u∈U:=by
 rcases List.mem_or_eq_of_mem_set h with h|h
 ·exact .inr h
 ·exact .inl h
theorem yjt(h:MayF w)(hi:i<w.U.length)(hid:w.U[i].id=u.id)(hk:Av u.kind):MayF {w with U:=w.U.set i u}:=
 ⟨h.hg,h.hB,by show(w.U.set i u).length<=_;rw[Faz];exact h.hU,h.hT,h.hb,λx hx=>by
  rcases zca (show x∈w.U.set i u from hx)with rfl|hx
  ·exact hk
  ·exact h.hk x hx,Sx h.hr hi hid,h.hn1,h.hn2⟩
theorem zi5{c:Cmd}(h:Aj w c.P c.N≠0):ulE w c=Aj w c.P c.N:=by unfold ulE;rw[if_neg h]
theorem zi4{c:Cmd}(h:Aj w c.P c.N=0)(h2:¬(0<=c.T/\c.T<w.G.W*w.G.H)):ulE w c=3:=by unfold ulE;rw[if_pos h,if_neg h2]
theorem zi3{c:Cmd}(h:Aj w c.P c.N=0)(h2:0<=c.T/\c.T<w.G.W*w.G.H)(h3:Gy (qc w.G c.T.toNat) (uAt w c.N).pos):ulE w c=8:=by unfold ulE;rw[if_pos h,if_pos h2,if_pos h3]
theorem zi2{c:Cmd}(h:Aj w c.P c.N=0)(h2:0<=c.T/\c.T<w.G.W*w.G.H)(h3:¬Gy (qc w.G c.T.toNat) (uAt w c.N).pos)(h4:unl c.T (z8 w.U c.N) w=none):ulE w c=5:=by unfold ulE;rw[if_pos h,if_pos h2,if_neg h3,h4]
theorem zi1{c:Cmd}(h:Aj w c.P c.N=0)(h2:0<=c.T/\c.T<w.G.W*w.G.H)(h3:¬Gy (qc w.G c.T.toNat) (uAt w c.N).pos){x:Wld}(h4:unl c.T (z8 w.U c.N) w=some x):ulE w c=0/\ulW w c=x:=by unfold ulE ulW;rw[if_pos h,if_pos h2,if_neg h3,h4];exact⟨rfl,rfl⟩
theorem ylo(hr:yl w.U){n id:Int}(h:id∈z8 w.U n):∃i,∃hi:i<w.U.length,qq w.U id=some i:=by unfold z8 at h;obtain⟨u,hu,rfl⟩:=Fai.1 h;obtain⟨hu,_⟩:=Fbx.1 hu;obtain⟨i,hi,rfl⟩:=Faj hu;exact⟨i,hi,Pw hr hi rfl⟩
end
section
variable {w:Wld} {F G:Store} {s p m:Nat} {v o0 o1 o2:AV}
def slO(cs:List (Int×List Nat))(bs:List Nat)(clk:Nat):AObj:=.map (cs.map (yu λl=>yh (qh l))) bs clk
def slV(m:Nat):AV:=.s (.map (some m))
def tu(w:Wld)(c:Cmd)(cs:List (Int×List Nat)):Prop:=∀kd l,yw cs kd=some l->l=qr w kd c.T c.U.length
structure MvS(F G G0:Store)(xw s p m:Nat)(w:Wld)(v:AV)(L:List Ent)(n:Nat)(o0 o1 o2:AV)(c:Cmd)(k:Nat)(cs:List (Int×List Nat))(bs:List Nat)(clk:Nat):Prop where
 S:StandR F G s p {w with U:=mvL w c k} v L o0 o1 o2
 keep:∀q,j5 v q->q≠m->G.obj q=G0.obj q
 hm:G.obj m=some (slO cs bs clk)
 hl:L.length<=n+k
 ok:∀e∈L,e.2.ok
 sl:tu w c cs
theorem yju(hm:MayF w)(c:Cmd)(k:Nat):MayF {w with U:=mvL w c k}:=
 ⟨hm.hg,hm.hB,by show(mvL w c k).length<=_;rw[Cx];exact hm.hU,hm.hT,hm.hb,λu hu=>by obtain⟨x,hx,_,_,e,_⟩:=zb0 hu;rw[e];exact hm.hk x hx,ij hm.hr c k,hm.hn1,hm.hn2⟩
theorem H4{x:AObj}(h:G.obj m=some x)(hms:m≠s):(F.un (svS G s w v o0 o1 o2 p)).obj m=some x:=zf (by show(G.sO s _).obj m=_;rw[zg hms];exact h)
theorem MvS.upd{G0:Store}{xw:Nat}{L:List Ent}{n:Nat}{c:Cmd}{k:Nat}{cs:List (Int×List Nat)}{bs:List Nat}{clk:Nat}(h:MvS F G G0 xw s p m w v L n o0 o1 o2 c k cs bs clk)(hms:m≠s)(hoff:j5 v m){cs':List (Int×List Nat)}(bs':List Nat)(clk':Nat)(hs:tu w c cs'):
  MvS F (G.sO m (slO cs' bs' clk')) G0 xw s p m w v L n o0 o1 o2 c k cs' bs' clk'/\(F.un (svS G s {w with U:=mvL w c k} v o0 o1 o2 p)).sO m (slO cs' bs' clk')=F.un (svS (G.sO m (slO cs' bs' clk')) s {w with U:=mvL w c k} v o0 o1 o2 p):=by
 refine⟨⟨⟨h.S.hc,λi h1 h2=>h.S.hd i h1 (svS_has.2 ?_),?_,h.S.hu.set hoff _,h.S.h0,h.S.h1,h.S.h2⟩,λq h1 h2=>?_,zd _ _ _,h.hl,h.ok,hs⟩,?_⟩
 ·rcases svS_has.1 h2 with h2|h2
  ·exact .inl h2
  ·rcases has_setObj_iff.1 h2 with rfl|h2
   ·exact .inr (k9 h.hm)
   ·exact .inr h2
 ·rw[zg (Ne.symm hms)];exact h.S.hs
 ·rw[zg h2];exact h.keep q h1 h2
 ·rw[zz];unfold svS;rw[Ge hms]
end
section
variable {S N:Store} {fb kc:Nat} {room:Int} {w:Wld}
theorem yn1{kc:Nat}(hd:zh S N)(hF:FldAny fb room (kc:Nat) N)(hm:MayF w)(c s:Int)(hc:G4 c)(hs:0<=s/\s<=3)(R:Ja)
  (h:∀b N',zh S N'->FldAny fb room (kc:Nat) N'->N'.obj b=some (.cells (xj w.G w.B c s))->R (ptr b) (S.un N')):Jb 62 [ptr fb,.agg (zu w.G),lst 6 zi w.B,int c,int s] (S.un N) R:=by
 have hB:=hm.hB;have ha:=qm hm.hg;rw[H0 hd];refine ACalls.frame (Fe hd) (ib hF w.G hm.hg θ w.B θ hm.hb c s hc hs (λr S=>∃b,r=ptr b/\FldAny fb room (kc:Nat) S/\S.obj b=some (.cells (xj w.G w.B c s))) (λNc Nr cc nm wm cs ks ns ws made cnt d hI hd ho=>⟨d,rfl,.inl ⟨_,_,Nc,Nr,cc,nm,wm,cs,ks,ns,ws,made,cnt,rfl,hI⟩,zf ho⟩)) ?_;rintro r a' ⟨b,rfl,h1,h2⟩ hd2;rw[H0 hd2];exact h b a' (Fe hd2) h1 h2
theorem p7{xw s p:Nat}{kc:Nat}{v o0 o1 o2:AV}{c:Cmd}(ha:AtW S xw s p w v o0 o1 o2 c (jd fb))(hd:zh S N)(hF:FldAny fb room (kc:Nat) N)(hm:MayF w)(k:Int)(t:Nat)(ht:t<w.G.T.length)(tI:Int)(htI:tI=(t:Int))(n:Nat)(hn:n<=1000)(R:Ja)
  (h:∀N',zh S N'->FldAny fb room (kc:Nat) N'->R (yh (qh (qr w k tI n))) (S.un N')):Jb 286 [ptr xw,int k,int tI,int n] (S.un N) R:=by
 subst htI;obtain⟨hx,hs,hv⟩:=ha;obtain⟨oa,cap,e,hget⟩:=hv.form;subst e;have hx1:(S.un N).obj xw=_:=yj hd hx;have hs1:(S.un N).obj s=_:=yj hd hs;refine Qa (c:=cfg 53) zb Tryz.func286 ?_;refine ju k _ _ ?_;refine Qc zb ybx ?_;refine za (o:=(S.un N).obj xw) _ hx1 ?_;refine za (o:=(S.un N).obj s) _ hs1 ?_;refine za (o:=(S.un N).obj xw) _ hx1 ?_;refine za (o:=(S.un N).obj xw) _ hx1 ?_;refine za (o:=(S.un N).obj s) _ hs1 ?_;refine za (o:=(S.un N).obj xw) _ hx1 ?_;refine za (o:=(S.un N).obj s) _ hs1 ?_;refine⟨yn1 hd hF hm (qi k) (kj k) (Mw k) (Wb k) _ (λb N' hd' hF' hb=>?_),Tv⟩;have hx2:(S.un N').obj xw=_:=yj hd' hx;have hs2:(S.un N').obj s=_:=yj hd' hs;refine⟨?_,?_⟩
 ·repeat(first|exact Tv|refine⟨rfl,?_⟩|refine⟨za (o:=(S.un N').obj xw) _ hx2 rfl,?_⟩|refine⟨za (o:=(S.un N').obj s) _ hs2 rfl,?_⟩)
 refine za (o:=(S.un N').obj b) _ (zf hb) ?_;refine⟨yta w.G hm.hg (yf w.G w.B (qi k) (kj k)) (kj k) (Wb k) t ht n hn _ _ ⟨Qe,?_⟩,Tv⟩;refine Qau ?_;exact ret (h N' hd' hF')
end
theorem Qaj{p:Prop}(h:p:=by show(mvL w c k).length<=_;rw[Cx];omega):p:=h
theorem zhr{F G N:Store}{xw s p fb:Nat}{room:Int}{kc:Nat}{w:Wld}{v:AV}{L:List Ent}{o0 o1 o2:AV}{c:Cmd}(hW:Work F G xw s p w v L o0 o1 o2 c (jd fb))(hdN:zh (F.un (svS G s w v o0 o1 o2 p)) N)(hF:FldAny fb room (kc:Nat) N)(hm:MayF w)(hn:∀u∈w.U,u.pos.ok)(hcU:c.U.length<=64)(R:Ja)
  (h:∀S' N',mvE w c≠0->zh S' N'->FldAny fb room (kc:Nat) N'->R (int (mvE w c)) (S'.un N')) (h0:mvE w c=0->∀S' N',Dp S' xw s c (jd fb) (mvW w c)->zh S' N'->FldAny fb room (kc:Nat) N'->R (int 0) (S'.un N')):Jb 195 [ptr xw] ((F.un (svS G s w v o0 o1 o2 p)).un N) R:=by
 have hU:=hm.hU;have hx:=yj hdN (hW.x (F':=F) (q0:=o0) (q1:=o1) (q2:=o2));have hs:=yj hdN (hW.s (F':=F) (q0:=o0) (q1:=o1) (q2:=o2));have hr:=(hW.r (F':=F) (q0:=o0) (q1:=o1) (q2:=o2)).unL hdN;obtain⟨oa,cap,e,hget⟩:=hW.S.hu.form;subst e;have ha:=qm hm.hg;refine Qb (c:=cfg 94) zb Tryz.func195 ?_;refine AWp.seq (AWp.of_vc zb ?_);refine AWp.seq (AWp.of_vc zb ?_);refine Qc zb yc3 ?_;refine za (o:=((F.un (svS G s w _ o0 o1 o2 p)).un N).obj xw) _ hx ?_;refine za (o:=((F.un (svS G s w _ o0 o1 o2 p)).un N).obj s) _ hs ?_;refine za (o:=((F.un (svS G s w _ o0 o1 o2 p)).un N).obj xw) _ hx ?_;refine⟨Wc w.G c.T hm.hg _ _ (λz hz=>⟨Tv,?_⟩),Tv⟩;refine yi ?_;refine zk (λc2=>?_) (λc2=>?_);rotate_left
 ·have:=zb4 (w:=w) (c:=c) (λhh=>by have:=hz.2 hh;rw[this]at c2;cases c2);rw[this]at h;exact ret (h _ _ ψ hdN hF)
 have htile:=hz.1 c2;have htn:c.T=((c.T.toNat:Nat):Int):=θ;have htl:c.T.toNat<w.G.T.length:=θ;have hE:=zb3 htile;rw[hE]at h h0;refine AWp.seq (AWp.of_vc zb ?_);refine all_nil ⟨hx,hs,hr⟩ hm.hr θ θ _ (λhe=>?_) (λhe=>?_);rotate_left
 ·refine AWp.of_vc zb ?_;refine qf (λc3=>?_) (λc3=>absurd c3 he);exact ret (h _ _ he hdN hF)
 have hzero:=Lp he;refine AWp.seq (AWp.of_vc zb ?_);refine AWp.seq (AWp.of_vc zb ?_);refine Hw rfl (λm hmf=>?_);have hmf0:=fresh_iff.1 hmf;have hmN:¬N.has m:=λhh=>hmf0 (un_has.2 (.inr hh));obtain⟨hW1,e1,off1,hms⟩:=hW.add (fresh_iff.2 λhh=>hmf0 (un_has.2 (.inl hh))) (slO [] [] 0);have hmx:m≠xw:=λe=>by have:=hmf.1;rw[e,hx]at this;cases this
 have e1':((F.un (svS G s w (.s (.slice oa w.U.length cap)) o0 o1 o2 p)).un N).sO m (.map [] [] 0)=(F.un (svS (G.sO m (slO [] [] 0)) s w (.s (.slice oa w.U.length cap)) o0 o1 o2 p)).un N:=by rw[Gb hmN];exact congrArg (Store.un · N) e1
 rw[e1'];have hdN1:zh (F.un (svS (G.sO m (slO [] [] 0)) s w (.s (.slice oa w.U.length cap)) o0 o1 o2 p)) N:=by rw[<-e1];exact nh hdN hmN
 have hmv0:MvS F (G.sO m (slO [] [] 0)) (G.sO m (slO [] [] 0)) xw s p m w (.s (.slice oa w.U.length cap)) L L.length o0 o1 o2 c 0 [] [] 0:=⟨hW1.S,λ_ _ _=>rfl,zd _ _ _,θ,Kw hW.hF hn,λkd l hh=>by cases hh⟩
 have hx0:=hW1.hx;have hox:=hW1.ox;have hos:=hW1.os;have hxs:=hW1.ne;have hLl:=hW.hL;generalize G.sO m (slO [] [] 0)=G0 at*;clear hx hs hr hdN e1 e1' hmf hmf0;refine AWp.meetA (σ:=Unit) ⟨λ_=>[],λ_=>[],λ_ st'=>∃S' N',st'=Store.un S' N'/\Dp S' xw s c (jd fb) (mvW w c)/\zh S' N'/\FldAny fb room (kc:Nat) N'⟩ ?_ ?_;rotate_left
 ·rintro _ st' ⟨S',N',rfl,hd1,hd2,hd3⟩;refine AWp.of_vc zb ?_;exact ret (h0 he _ _ hd1 hd2 hd3)
 refine AWp.seq (AWp.of_vc zb ?_);refine AWp.block ?_
 refine AWp.loopA (σ:=Nat×Store×Store×List Ent×List (Int×List Nat)×List Nat×Nat×Store) ⟨λx=>[(0,.av (ptr xw)),(3,.av (lst 10 zn (c.U.map (uAt w)))),(5,.av (slV m)),(35,.av (lst 10 zn (c.U.map (uAt w)))),(36,.av (int (c.U.length:Nat))),(37,.av (int (x.1:Nat)))],λ_=>[],
  λx st'=>x.1<=c.U.length/\st'=(x.2.1.un (svS x.2.2.1 s {w with U:=mvL w c x.1} (.s (.slice oa w.U.length cap)) o0 o1 o2 p)).un x.2.2.2.2.2.2.2/\(zh (x.2.1.un (svS x.2.2.1 s {w with U:=mvL w c x.1} (.s (.slice oa w.U.length cap)) o0 o1 o2 p)) x.2.2.2.2.2.2.2/\FldAny fb room (kc:Nat) x.2.2.2.2.2.2.2)/\MvS x.2.1 x.2.2.1 G0 xw s p m w (.s (.slice oa w.U.length cap)) x.2.2.2.1 L.length o0 o1 o2 c x.1 x.2.2.2.2.1 x.2.2.2.2.2.1 x.2.2.2.2.2.2.1,λx=>c.U.length-x.1⟩ ?_ ?_
 ·refine⟨(0,F,G0,L,[],[],0,N),Tv,⟨Fae _,rfl,⟨hdN1,hF⟩,hmv0⟩,⟨Tq,Tq,Tq,Tq,?_,Tq,Tv⟩,Tv⟩;show LV.le (.av (int ((rws zn (c.U.map (uAt w))).length:Nat))) (.av (int (c.U.length:Nat)));rw[zj,Fap];exact Tq
 clear hdN1 hF;rintro⟨k,F1,G1,L1,cs,bs,clk,N1⟩ st' ⟨hk,rfl,⟨hdN,hF⟩,hS⟩;dsimp only at hk hdN hF hS⊢;refine AWp.seq (AWp.of_vc zb ?_);refine AWp.seq (AWp.of_vc zb ?_);refine bcd (λh1=>?_) (λh1=>?_);rotate_left
 ·have:k=c.U.length:=θ;subst this;have hxk:G1.obj xw=some (.cells (wkC s c (jd fb))):=by rw[hS.keep xw hox (Ne.symm hmx)];exact hx0
  exact⟨(),⟨_,N1,rfl,⟨_,o0,o1,o2,p,H4 hxk hxs,zf (Be _ _ _ _ _ _ _ _),(H3 hS.S.hs hS.S.hu).un⟩,hdN,hF⟩,Tv,Tv⟩
 have hlt:k<c.U.length:=θ;obtain⟨i,hi,hf,hid,hu,how,hin⟩:=I6 (hzero c.U[k] (Faa hlt));have hlm:k<(c.U.map (uAt w)).length:=by rw[Fap];exact hlt
 have hgm:(c.U.map (uAt w))[k]=w.U[i]:=by rw[Fbw,hu]
 have hlU:(c.U.map (uAt w)).length=c.U.length:=Fap ..;have hsu:∀kd n,qr {w with U:=mvL w c k} kd c.T n=qr w kd c.T n:=λ_ _=>rfl;have hm1:=yju hm c k;refine AWp.seq (AWp.block ?_);refine AWp.seq (AWp.of_vc zb ?_);refine⟨k,rfl,za _ (zq hlm) ?_⟩;rw[hgm]
 refine AWp.meetA (σ:=Store×List (Int×List Nat)×List Nat×Nat×Store) ⟨λ_=>[(0,.av (ptr xw)),(3,.av (lst 10 zn (c.U.map (uAt w)))),(5,.av (slV m)),(6,.av (int (k:Nat))),(7,.bx 7 0),(35,.av (lst 10 zn (c.U.map (uAt w)))),(36,.av (int (c.U.length:Nat))),(37,.av (int (k:Nat)))],λ_=>[(7,zn w.U[i])],
  λx st'=>st'=(F1.un (svS x.1 s {w with U:=mvL w c k} (.s (.slice oa w.U.length cap)) o0 o1 o2 p)).un x.2.2.2.2/\(zh (F1.un (svS x.1 s {w with U:=mvL w c k} (.s (.slice oa w.U.length cap)) o0 o1 o2 p)) x.2.2.2.2/\FldAny fb room (kc:Nat) x.2.2.2.2)/\MvS F1 x.1 G0 xw s p m w (.s (.slice oa w.U.length cap)) L1 L.length o0 o1 o2 c k x.2.1 x.2.2.1 x.2.2.2.1/\yw x.2.1 w.U[i].kind=some (qr w w.U[i].kind c.T c.U.length)⟩ ?_ ?_
 ·have hmo:((F1.un (svS G1 s {w with U:=mvL w c k} (.s (.slice oa w.U.length cap)) o0 o1 o2 p)).un N1).obj m=some (slO cs bs clk):=yj hdN (H4 hS.hm hms);have hxk:G1.obj xw=some (.cells (wkC s c (jd fb))):=by rw[hS.keep xw hox (Ne.symm hmx)];exact hx0
  have hx1:(F1.un (svS G1 s {w with U:=mvL w c k} (.s (.slice oa w.U.length cap)) o0 o1 o2 p)).obj xw=some (.cells (wkC s c (jd fb))):=H4 hxk hxs;have hs1:(F1.un (svS G1 s {w with U:=mvL w c k} (.s (.slice oa w.U.length cap)) o0 o1 o2 p)).obj s=some (.cells (svC {w with U:=mvL w c k} (.s (.slice oa w.U.length cap)) o0 o1 o2 p)):=zf (Be _ _ _ _ _ _ _ _);have hr1:RowsQ 10 zn (F1.un (svS G1 s {w with U:=mvL w c k} (.s (.slice oa w.U.length cap)) o0 o1 o2 p)) (.s (.slice oa w.U.length cap)) (mvL w c k):=(H3 hS.S.hs hS.S.hu).un;refine AWp.of_vc zb ?_;refine Ak rfl (it:=ti270) (ie:=ti63) (ik:=ti2) rfl rfl rfl rfl hmo rfl (qA w.U[i].kind) (λe he=>?_) ?_
  ·obtain⟨e,_,rfl⟩:=Fai.1 he;rfl
  rw[yka];cases hg:yw cs w.U[i].kind with
  |some l=>
   have hl:=hS.sl _ _ hg;rw[hl]at hg;exact⟨(G1,cs,bs,clk,N1),⟨rfl,⟨hdN,hF⟩,hS,hg⟩,Qaq,⟨rfl,Tv⟩⟩
  |none=>
   dsimp only;refine Qc zb yc2 ?_;refine za (o:=((F1.un (svS G1 s _ _ o0 o1 o2 p)).un N1).obj xw) _ (yj hdN hx1) ?_;refine⟨p7 ⟨hx1,hs1,hr1⟩ hdN hF hm1 w.U[i].kind c.T.toNat htl c.T htn (rws zn (c.U.map (uAt w))).length (by rw[zj,hlU];omega) _ (λN2 hdN2 hF2=>⟨?_,?_⟩),Tv⟩
   ·repeat(first|exact Tv|refine⟨rfl,?_⟩|refine⟨za (o:=((F1.un (svS G1 s _ _ o0 o1 o2 p)).un N2).obj xw) _ (yj hdN2 hx1) rfl,?_⟩)
   have hmo:((F1.un (svS G1 s {w with U:=mvL w c k} (.s (.slice oa w.U.length cap)) o0 o1 o2 p)).un N2).obj m=some (slO cs bs clk):=yj hdN2 (H4 hS.hm hms);rw[hsu,zj,hlU];refine⟨Fg (.inl rfl) rfl (it:=ti270) (ik:=ti2) rfl rfl rfl (es:=cs.map (yu λl=>yh (qh l))) (bs:=bs) (clk:=clk) (k:=int w.U[i].kind) (v:=yh (qh (qr w w.U[i].kind c.T c.U.length))) hmo rfl rfl (qA w.U[i].kind) (λe he=>?_) (λe1 he hq=>?_) ?_,Tv⟩
   ·obtain⟨e,_,rfl⟩:=Fai.1 he;rfl
   ·obtain⟨g1,_,rfl⟩:=Fai.1 he;have:w.U[i].kind=g1.1:=by simpa [qA,yu,int]using hq
    show int g1.1=_;rw[this]
   obtain⟨bs',clk',hput⟩:=K8 (λl=>yh (qh l)) cs bs clk w.U[i].kind (qr w w.U[i].kind c.T c.U.length);have hput:vq (cs.map (yu λl=>yh (qh l))) bs clk (qA w.U[i].kind) (int w.U[i].kind) (yh (qh (qr w w.U[i].kind c.T c.U.length)))=slO (yp cs w.U[i].kind (qr w w.U[i].kind c.T c.U.length)) bs' clk':=hput;obtain⟨u1,u2⟩:=hS.upd hms off1 (cs':=yp cs w.U[i].kind (qr w w.U[i].kind c.T c.U.length)) bs' clk' (λkd l hh=>by
    rw[C7]at hh;by_cases e:kd=w.U[i].kind
    ·rw[if_pos e]at hh;rw[e];exact(Option.some.inj hh).symm
    ·rw[if_neg e]at hh;exact hS.sl kd l hh)
   have hdj:=nh (x:=slO (yp cs w.U[i].kind (qr w w.U[i].kind c.T c.U.length)) bs' clk') hdN2 (hdN2 m (k9 (H4 hS.hm hms)));rw[u2]at hdj;rw[hput,Gb (hdN2 m (k9 (H4 hS.hm hms))),u2];refine⟨Tv,(_,_,_,_,N2),⟨rfl,⟨hdj,hF2⟩,u1,?_⟩,⟨Tq,Tq,Tq,Tq,Tq,Tq,Tq,Tq,Tv⟩,⟨rfl,Tv⟩⟩;rw[C7,if_pos rfl]
 clear hdN hF;rintro⟨G2,cs2,bs2,clk2,N2⟩ _ ⟨rfl,⟨hdN,hF⟩,hS2,hg2⟩;dsimp only at hdN hF hS2 hg2⊢;have hmo:((F1.un (svS G2 s {w with U:=mvL w c k} (.s (.slice oa w.U.length cap)) o0 o1 o2 p)).un N2).obj m=some (slO cs2 bs2 clk2):=yj hdN (H4 hS2.hm hms);have hxk:G2.obj xw=some (.cells (wkC s c (jd fb))):=by rw[hS2.keep xw hox (Ne.symm hmx)];exact hx0
 have hx1:((F1.un (svS G2 s {w with U:=mvL w c k} (.s (.slice oa w.U.length cap)) o0 o1 o2 p)).un N2).obj xw=some (.cells (wkC s c (jd fb))):=yj hdN (H4 hxk hxs);have hiL:i<(mvL w c k).length:=by rw[Cx];exact hi
 refine AWp.of_vc zb ?_;refine za (o:=((F1.un (svS G2 s _ _ o0 o1 o2 p)).un N2).obj xw) _ hx1 ?_;refine Ak rfl (it:=ti270) (ie:=ti63) (ik:=ti2) rfl rfl rfl rfl hmo rfl (qA w.U[i].kind) (λe he=>?_) ?_
 ·obtain⟨e,_,rfl⟩:=Fai.1 he;rfl
 rw[Hk,hg2];have hput:∀g,g=Di w c k w.U[i].kind->(mvL w c k).set i (mvG g w.U[i])=mvL w c (k+1):=λg hg=>by rw[zby hlt hf hi,hg]
 have hlen:=Hh (qr w w.U[i].kind c.T c.U.length);have hid':(mvL w c k)[i].id=w.U[i].id:=im w c k i hi
 have fin:∀{F3 G3 L3},StandR F3 G3 s p {w with U:=mvL w c (k+1)} (.s (.slice oa w.U.length cap)) L3 o0 o1 o2->(∀q,j5 (.s (.slice oa w.U.length cap)) q->G3.obj q=G2.obj q)->L3.length<=L1.length+1->(∀e∈L3,e.2.ok)->MvS F3 G3 G0 xw s p m w (.s (.slice oa w.U.length cap)) L3 L.length o0 o1 o2 c (k+1) cs2 bs2 clk2:=λg1 g2 g3 g4=>
  ⟨g1,λq h1 h2=>(g2 q h1).trans (hS2.keep q h1 h2),(g2 m off1).trans hS2.hm,by have:=hS2.hl;omega,g4,hS2.sl⟩
 have hdec:c.U.length-(k+1)<c.U.length-k:=θ;have hL1:=hS2.hl;refine bcd (λc5=>?_) (λc5=>?_)
 ·rw[zj,hlen]at c5;have hk2:k<(qh (qr w w.U[i].kind c.T c.U.length)).length:=by rw[hlen];omega
  have hk3:k<(qr w w.U[i].kind c.T c.U.length).length:=θ;have hg9:(qh (qr w w.U[i].kind c.T c.U.length))[k]=Di w c k w.U[i].kind:=by rw[zb1 hk3];exact Fbw ..
  refine⟨k,rfl,za _ (zq hk2) ?_⟩;refine Qc zb uj ?_;refine za (o:=((F1.un (svS G2 s _ _ o0 o1 o2 p)).un N2).obj xw) _ hx1 ?_;have hpt:=Vh hS2.S hos (ij hm.hr c k) Qaj θ hS2.ok hiL (mvG ((qh (qr w w.U[i].kind c.T c.U.length))[k]'hk2) w.U[i]) hid' (show w.U[i].pos.ok from hn _ (Faa hi)) (λr S=>r=.tup []/\∃F3 G3 L3,S=F3.un (svS G3 s {w with U:=(mvL w c k).set i (mvG ((qh (qr w w.U[i].kind c.T c.U.length))[k]'hk2) w.U[i])} (.s (.slice oa w.U.length cap)) o0 o1 o2 p)/\StandR F3 G3 s p {w with U:=(mvL w c k).set i (mvG ((qh (qr w w.U[i].kind c.T c.U.length))[k]'hk2) w.U[i])} (.s (.slice oa w.U.length cap)) L3 o0 o1 o2/\(∀q,j5 (.s (.slice oa w.U.length cap)) q->G3.obj q=G2.obj q)/\L3.length<=L1.length+1/\∀e∈L3,e.2.ok) (λF3 G3 L3 g1 g2 g3 g4=>⟨rfl,F3,G3,L3,rfl,g1,g2,g3,g4⟩);refine⟨ACalls.frame hdN hpt ?_,Tv⟩;rintro _ _ ⟨rfl,F3,G3,L3,rfl,g1,g2,g3,g4⟩ hdN3;refine⟨Tv,?_⟩;dsimp only at g1 hdN3⊢;rw[hput _ hg9]at g1 hdN3⊢;refine AWp.of_vc zb ?_;refine Qd ?_;exact⟨(k+1,F3,G3,L3,cs2,bs2,clk2,N2),hdec,⟨ζ,rfl,⟨hdN3,hF⟩,fin g1 g2 g3 g4⟩,Qaq,Tv⟩
 ·rw[zj,hlen]at c5;have hk3:¬k<(qr w w.U[i].kind c.T c.U.length).length:=θ;have hg9:c.T=Di w c k w.U[i].kind:=(zb2 hk3).symm;refine Qc zb uj ?_;refine za (o:=((F1.un (svS G2 s _ _ o0 o1 o2 p)).un N2).obj xw) _ hx1 ?_;have hpt:=Vh hS2.S hos (ij hm.hr c k) Qaj θ hS2.ok hiL (mvG c.T w.U[i]) hid' (show w.U[i].pos.ok from hn _ (Faa hi)) (λr S=>r=.tup []/\∃F3 G3 L3,S=F3.un (svS G3 s {w with U:=(mvL w c k).set i (mvG c.T w.U[i])} (.s (.slice oa w.U.length cap)) o0 o1 o2 p)/\StandR F3 G3 s p {w with U:=(mvL w c k).set i (mvG c.T w.U[i])} (.s (.slice oa w.U.length cap)) L3 o0 o1 o2/\(∀q,j5 (.s (.slice oa w.U.length cap)) q->G3.obj q=G2.obj q)/\L3.length<=L1.length+1/\∀e∈L3,e.2.ok) (λF3 G3 L3 g1 g2 g3 g4=>⟨rfl,F3,G3,L3,rfl,g1,g2,g3,g4⟩);refine⟨ACalls.frame hdN hpt ?_,Tv⟩;rintro _ _ ⟨rfl,F3,G3,L3,rfl,g1,g2,g3,g4⟩ hdN3;refine⟨Tv,?_⟩;dsimp only at g1 hdN3⊢;rw[hput _ hg9]at g1 hdN3⊢;refine AWp.of_vc zb ?_;refine Qd ?_;exact⟨(k+1,F3,G3,L3,cs2,bs2,clk2,N2),hdec,⟨ζ,rfl,⟨hdN3,hF⟩,fin g1 g2 g3 g4⟩,Qaq,Tv⟩
section
variable {F G N:Store} {xw s p fb kc:Nat} {room:Int} {w:Wld} {v o0 o1 o2:AV}
theorem Qak{p:Prop}(h:p:=by repeat(first|exact Tv|refine⟨rfl,?_⟩|refine⟨za (o:=((F.un (svS G s w _ o0 o1 o2 p)).un N).obj xw) _ hx rfl,?_⟩|refine⟨za (o:=((F.un (svS G s w _ o0 o1 o2 p)).un N).obj s) _ hs rfl,?_⟩)):p:=h
theorem zhn{kc:Nat}{L:List Ent}{c:Cmd}(hW:Work F G xw s p w v L o0 o1 o2 c (jd fb))(hdN:zh (F.un (svS G s w v o0 o1 o2 p)) N)(hFN:FldAny fb room (kc:Nat) N)(hm:MayF w)(hn:∀u∈w.U,u.pos.ok){i:Nat}(hi:i<w.U.length)(t:Nat)(ht:t<w.G.T.length)(htI:c.T=(t:Int))(R:Ja)
  (h:∀S' N',Dg w w.U[i] c.T=none->zh S' N'->FldAny fb room (kc:Nat) N'->R (V.bool false) (S'.un N'))
  (h1:∀t2,Dg w w.U[i] c.T=some t2->t2<w.G.T.length->∀F' G' L' q0 q1 q2 N',Work F' G' xw s p (Vr w i t2 hi) v L' q0 q1 q2 c (jd fb)->zh (F'.un (svS G' s (Vr w i t2 hi) v q0 q1 q2 p)) N'->FldAny fb room (kc:Nat) N'->R (V.bool true) ((F'.un (svS G' s (Vr w i t2 hi) v q0 q1 q2 p)).un N')):Jb 297 [ptr xw,.agg (zn w.U[i])] ((F.un (svS G s w v o0 o1 o2 p)).un N) R:=by
 have hU:=hm.hU;have hB:=hm.hB;have hx:=hW.x (F':=F) (q0:=o0) (q1:=o1) (q2:=o2);have hs:=hW.s (F':=F) (q0:=o0) (q1:=o1) (q2:=o2);have hr:=hW.r (F':=F) (q0:=o0) (q1:=o1) (q2:=o2);obtain⟨oa,cap,e,hget⟩:=hW.S.hu.form;subst e;refine Qa (c:=cfg 52) zb Tryz.func297 ?_;refine Qc zb ybl ?_;refine za (o:=((F.un (svS G s w _ o0 o1 o2 p)).un N).obj xw) _ (yj hdN hx) ?_;refine⟨p7 ⟨hx,hs,hr⟩ hdN hFN hm w.U[i].kind t ht c.T htI 64 ψ _ (λN1 hd1 hF1=>⟨?_,?_⟩),Tv⟩
 ·repeat(first|exact Tv|refine⟨rfl,?_⟩|refine⟨za (o:=((F.un (svS G s w _ o0 o1 o2 p)).un N1).obj xw) _ (yj hd1 hx) rfl,?_⟩)
 have hlen:=zzj w w.U[i].kind c.T 64;have hlt3:=λ(t2:Nat) (h2:t2∈qr w w.U[i].kind c.T 64)=>(ez h2).1;have hsome:=λ(j:Nat) (hj:j<(qr w (w.U[i]'hi).kind c.T 64).length)=>yhn (w:=w) (u:=w.U[i]'hi) (tile:=c.T) (j:=j) hj;have hnone:=yho (w:=w) (u:=w.U[i]'hi) (tile:=c.T);generalize qr w w.U[i].kind c.T 64=sl at*
 refine AWp.loop (σ:=Nat×Store×AV×AV×AV) ⟨λx=>[(0,.av (ptr xw)),(3,.bx 3 0),(16,.av (yh (qh sl))),(17,.av (int (sl.length:Nat))),(18,.av (int (x.1:Nat)))],λ_=>[(3,zn w.U[i])],
  λx st'=>x.1<=sl.length/\st'=(x.2.1.un (svS G s w (.s (.slice oa w.U.length cap)) x.2.2.1 x.2.2.2.1 x.2.2.2.2 p)).un N1/\zh (x.2.1.un (svS G s w (.s (.slice oa w.U.length cap)) x.2.2.1 x.2.2.2.1 x.2.2.2.2 p)) N1/\StandR x.2.1 G s p w (.s (.slice oa w.U.length cap)) L x.2.2.1 x.2.2.2.1 x.2.2.2.2/\∀j,(hj:j<sl.length)->j<x.1->¬qu w w.U[i].id w.U[i].kind (qc w.G sl[j]),λx=>sl.length-x.1⟩ zb ?_ ?_
 ·refine⟨(0,F,o0,o1,o2),Tv,⟨Fae _,rfl,hd1,hW.S,λj _ hj=>by dsimp only at hj;omega⟩,⟨Tq,Tq,Tq,?_,Tq,Tv⟩,⟨rfl,Tv⟩⟩;show LV.le (.av (int ((rws zv (qh sl)).length:Nat))) (.av (int (sl.length:Nat)));rw[zj,Hh];exact Tq
 rintro⟨j,F1,q0,q1,q2⟩ st' ⟨hj,rfl,hd2,hS1,hall⟩;dsimp only at hj hd2 hS1 hall⊢;refine bcd (λc1=>?_) (λc1=>?_);rotate_left
 ·exact ret (h _ _ (hnone λj' hj'=>hall j' hj' θ) hd2 hF1)
 have hlt:j<sl.length:=θ;have hlt2:j<(qh sl).length:=by rw[Hh];exact hlt
 have hsl:=hlt3 _ (Faa hlt);have hnat:(qh sl)[j]'hlt2=((sl[j]:Nat):Int):=Fbw ..;have hx1:=hW.x (F':=F1) (q0:=q0) (q1:=q1) (q2:=q2);have hs1:=hW.s (F':=F1) (q0:=q0) (q1:=q1) (q2:=q2);have ha:=qm hm.hg;refine⟨j,rfl,za _ (zq hlt2) ?_⟩;refine za (o:=((F1.un (svS G s w _ q0 q1 q2 p)).un N1).obj xw) _ (yj hd2 hx1) ?_;refine za (o:=((F1.un (svS G s w _ q0 q1 q2 p)).un N1).obj s) _ (yj hd2 hs1) ?_;refine V4 w.G hm.hg sl[j] θ _ hnat _ _ ?_;refine Qc zb ybk ?_;refine za (o:=((F1.un (svS G s w _ q0 q1 q2 p)).un N1).obj xw) _ (yj hd2 hx1) ?_;have hpl:=ew hS1 hm.hg θ hm.hb hm.hr θ hn hW.hL hW.hF w.U[i].id w.U[i].kind (qc w.G sl[j]) (Rf hm.hg hsl) (λr S=>∃z F2 a0 a1 a2,r=V.bool z/\S=F2.un (svS G s w (.s (.slice oa w.U.length cap)) a0 a1 a2 p)/\(z=true↔qu w w.U[i].id w.U[i].kind (qc w.G sl[j]))/\StandR F2 G s p w (.s (.slice oa w.U.length cap)) L a0 a1 a2) (λz F2 a0 a1 a2 hz hS2=>⟨z,F2,a0,a1,a2,rfl,rfl,hz,hS2⟩);refine⟨ACalls.frame hd2 hpl ?_,Tv⟩;rintro _ _ ⟨z,F2,a0,a1,a2,rfl,rfl,hz,hS2⟩ hd3;have hx2:=hW.x (F':=F2) (q0:=a0) (q1:=a1) (q2:=a2);have hs2:=hW.s (F':=F2) (q0:=a0) (q1:=a1) (q2:=a2);refine⟨Tv,?_⟩;refine zk (λc2=>?_) (λc2=>?_);rotate_left
 ·refine Qd ?_;refine⟨(j+1,F2,a0,a1,a2),?_,⟨ζ,rfl,hd3,hS2,λj' hj' hjj=>?_⟩,Qaq,⟨rfl,Tv⟩⟩
  ·show sl.length-(j+1)<sl.length-j;omega
  ·by_cases e:j'=j
   ·subst e;intro hh;have:=hz.2 hh;rw[this]at c2;cases c2
   ·exact hall j' hj' (by dsimp only at hjj;omega)
 have hcl:=hz.1 c2;have hout:=hsome j hlt (λi' hi' hii=>hall i' hi' hii) hcl;refine Qc zb ybj ?_;refine Qat ?_;refine Qau ?_;refine Qc zb ybi ?_;refine za (o:=((F2.un (svS G s w _ a0 a1 a2 p)).un N1).obj xw) _ (yj hd3 hx2) ?_;have hpt:=f9 hS2 hW.os hm.hr θ (by have:=hW.hL;omega) (Kw hW.hF hn) hi (Ds w.U[i] (qc w.G sl[j])) rfl (Rf hm.hg hsl) (λr S=>r=.tup []/\∃F3 G3,S=F3.un (svS G3 s {w with U:=w.U.set i (Ds w.U[i] (qc w.G sl[j]))} (.s (.slice oa w.U.length cap)) a0 a1 a2 p)/\StandR F3 G3 s p {w with U:=w.U.set i (Ds w.U[i] (qc w.G sl[j]))} (.s (.slice oa w.U.length cap)) (Fb L (Ds w.U[i] (qc w.G sl[j]))) a0 a1 a2/\∀q,j5 (.s (.slice oa w.U.length cap)) q->G3.obj q=G.obj q) (λF3 G3 g1 g2=>⟨rfl,F3,G3,rfl,g1,g2⟩);refine⟨ACalls.frame hd3 hpt ?_,Tv⟩;rintro _ _ ⟨rfl,F3,G3,rfl,g1,g2⟩ hd4;refine⟨Tv,?_⟩;have hF3:=zbl hW.hF hm.hr hi (u:=Ds w.U[i] (qc w.G sl[j])) rfl;refine ret (h1 sl[j] hout hsl F3 G3 _ a0 a1 a2 N1 ⟨g1,by rw[g2 xw hW.ox];exact hW.hx,hW.ox,hW.os,?_,hF3⟩ hd4 hF1);obtain⟨_,_,_,_,_,_,_,_,inv⟩:=g1.hc;exact zbm inv.n1 hF3
theorem zhd{kc:Nat}{L:List Ent}{c:Cmd}(hW:Work F G xw s p w v L o0 o1 o2 c (jd fb))(hdN:zh (F.un (svS G s w v o0 o1 o2 p)) N)(hFN:FldAny fb room (kc:Nat) N)(hm:MayF w)(hn:∀u∈w.U,u.pos.ok)(R:Ja)
  (h:∀S' N',ulE w c≠0->zh S' N'->FldAny fb room (kc:Nat) N'->R (int (ulE w c)) (S'.un N')) (h0:ulE w c=0->∀S' N',Dp S' xw s c (jd fb) (ulW w c)->zh S' N'->FldAny fb room (kc:Nat) N'->R (int 0) (S'.un N')):Jb 200 [ptr xw] ((F.un (svS G s w v o0 o1 o2 p)).un N) R:=by
 have hU:=hm.hU;have hx:=yj hdN (hW.x (F':=F) (q0:=o0) (q1:=o1) (q2:=o2));have hs:=yj hdN (hW.s (F':=F) (q0:=o0) (q1:=o1) (q2:=o2));have hr:=(hW.r (F':=F) (q0:=o0) (q1:=o1) (q2:=o2)).unL hdN;obtain⟨oa,cap,e,hget⟩:=hW.S.hu.form;subst e;have ha:=qm hm.hg;refine Qa (c:=cfg 96) zb Tryz.func200 ?_;refine zfu ⟨hx,hs,hr⟩ hm.hr θ _ ?_;refine qf (λc1=>?_) (λc1=>?_)
 ·have:=zi5 c1;rw[this]at h;exact ret (h _ _ c1 hdN hFN)
 obtain⟨hask,hroom⟩:=oi c1;obtain⟨ix,hix,hfx,hidx,hux,_,_⟩:=I6 hask;refine Qc zb yct ?_;refine za (o:=((F.un (svS G s w _ o0 o1 o2 p)).un N).obj xw) _ hx ?_;refine za (o:=((F.un (svS G s w _ o0 o1 o2 p)).un N).obj s) _ hs ?_;refine za (o:=((F.un (svS G s w _ o0 o1 o2 p)).un N).obj xw) _ hx ?_;refine⟨Wc w.G c.T hm.hg _ _ (λz hz=>⟨Tv,?_⟩),Tv⟩;refine Qau ?_;refine yi ?_;refine zk (λc2=>?_) (λc2=>?_);rotate_left
 ·have:=zi4 c1 (λhh=>by have:=hz.2 hh;rw[this]at c2;cases c2);rw[this]at h;exact ret (h _ _ ψ hdN hFN)
 have htile:=hz.1 c2;have htn:c.T=((c.T.toNat:Nat):Int):=θ;have htl:c.T.toNat<w.G.T.length:=θ;have hup:(uAt w c.N).pos.ok:=rv hn c.N;refine Qc zb ycs ?_;refine za (o:=((F.un (svS G s w _ o0 o1 o2 p)).un N).obj xw) _ hx ?_;refine za (o:=((F.un (svS G s w _ o0 o1 o2 p)).un N).obj s) _ hs ?_;refine za (o:=((F.un (svS G s w _ o0 o1 o2 p)).un N).obj xw) _ hx ?_;refine⟨V4 w.G hm.hg c.T.toNat θ _ htn _ _ ⟨?_,?_⟩,Tv⟩
 ·repeat(first|exact Tv|refine⟨rfl,?_⟩|refine⟨za (o:=((F.un (svS G s w _ o0 o1 o2 p)).un N).obj xw) _ hx rfl,?_⟩|refine⟨za (o:=((F.un (svS G s w _ o0 o1 o2 p)).un N).obj s) _ hs rfl,?_⟩)
 refine⟨zec (qc w.G c.T.toNat) (uAt w c.N).pos (Rf hm.hg htl) hup _ _ ⟨Qak,?_⟩,Tv⟩;refine Qau ?_;refine bcd (λc3=>?_) (λc3=>?_)
 ·have:=zi3 c1 htile c3;rw[this]at h;exact ret (h _ _ ψ hdN hFN)
 refine Qc zb ycr ?_;refine za (o:=((F.un (svS G s w _ o0 o1 o2 p)).un N).obj xw) _ hx ?_;refine za (o:=((F.un (svS G s w _ o0 o1 o2 p)).un N).obj s) _ hs ?_;rw[hux,hidx];refine⟨zc3 hr θ c.N _ ⟨Qak,?_⟩,Tv⟩;have e4:=λh4=>zi2 (w:=w) (c:=c) c1 htile c3 h4;have e5:=λx h4=>zi1 (w:=w) (c:=c) c1 htile c3 (x:=x) h4;have hids:=λid (hid:id∈z8 w.U c.N)=>ylo (w:=w) hm.hr hid;have hin:(z8 w.U c.N).length<=w.U.length:=θ2;generalize z8 w.U c.N=ids at*
 refine AWp.loop (σ:=Nat×Wld×Store×Store×List Ent×AV×AV×AV×Store) ⟨λx=>[(0,.av (ptr xw)),(62,.av (yh ids)),(63,.av (int (ids.length:Nat))),(64,.av (int (x.1:Nat)))],λ_=>[],
  λx st'=>x.1<=ids.length/\st'=(x.2.2.1.un (svS x.2.2.2.1 s x.2.1 (.s (.slice oa w.U.length cap)) x.2.2.2.2.2.1 x.2.2.2.2.2.2.1 x.2.2.2.2.2.2.2.1 p)).un x.2.2.2.2.2.2.2.2/\(zh (x.2.2.1.un (svS x.2.2.2.1 s x.2.1 (.s (.slice oa w.U.length cap)) x.2.2.2.2.2.1 x.2.2.2.2.2.2.1 x.2.2.2.2.2.2.2.1 p)) x.2.2.2.2.2.2.2.2/\FldAny fb room (kc:Nat) x.2.2.2.2.2.2.2.2)/\Work x.2.2.1 x.2.2.2.1 xw s p x.2.1 (.s (.slice oa w.U.length cap)) x.2.2.2.2.1 x.2.2.2.2.2.1 x.2.2.2.2.2.2.1 x.2.2.2.2.2.2.2.1 c (jd fb)/\unl c.T (ids.drop x.1) x.2.1=unl c.T ids w/\MayF x.2.1/\(∀u∈x.2.1.U,u.pos.ok)/\x.2.1.U.length=w.U.length/\x.2.1.G=w.G/\∀id,qq x.2.1.U id=qq w.U id,λx=>ids.length-x.1⟩ zb ?_ ?_
 ·refine⟨(0,w,F,G,L,o0,o1,o2,N),Tv,⟨Fae _,rfl,⟨hdN,hFN⟩,hW,by rw[Fcm],hm,hn,rfl,rfl,λ_=>rfl⟩,⟨Tq,Tq,?_,Tq,Tv⟩,Tv⟩;show LV.le (.av (int ((rws zv ids).length:Nat))) (.av (int (ids.length:Nat)));rw[zj];exact Tq
 clear hdN hFN hx hs hr;rintro⟨k,wc,F1,G1,L1,q0,q1,q2,N1⟩ st' ⟨hk,rfl,⟨hdN,hFN⟩,hW1,hun,hm1,hn1,hl1,hG1,hf1⟩;dsimp only at hk hdN hFN hW1 hun hm1 hn1 hl1 hG1 hf1⊢;have hx0:=hW1.x (F':=F1) (q0:=q0) (q1:=q1) (q2:=q2);have hs0:=hW1.s (F':=F1) (q0:=q0) (q1:=q1) (q2:=q2);have hr0:=hW1.r (F':=F1) (q0:=q0) (q1:=q1) (q2:=q2);have hx1:=yj hdN hx0;have hs1:=yj hdN hs0;have hr1:=hr0.unL hdN;refine bcd (λh1=>?_) (λh1=>?_);rotate_left
 ·have:k=ids.length:=θ;subst this;rw[List.drop_length]at hun;obtain⟨g1,g2⟩:=e5 wc hun.symm;rw[g2]at h0;exact ret (h0 g1 _ N1 ⟨_,q0,q1,q2,p,hx0,hs0,hr0⟩ hdN hFN)
 have hlt:k<ids.length:=θ;obtain⟨iu,hiu,hfu⟩:=hids _ (Faa hlt);have hiu1:iu<wc.U.length:=θ;have hfu1:qq wc.U ids[k]=some iu:=by rw[hf1];exact hfu
 rw[Fcx hlt]at hun;refine⟨k,rfl,za _ (zq hlt) ?_⟩;refine za (o:=((F1.un (svS G1 s wc _ q0 q1 q2 p)).un N1).obj xw) _ hx1 ?_;refine za (o:=((F1.un (svS G1 s wc _ q0 q1 q2 p)).un N1).obj s) _ hs1 ?_;refine bz hr1 θ hm1.hr ids[k] _ (λi hi z hz=>?_);obtain⟨g1,g2⟩:=zd5 hm1.hr hz hi;have hzi:i=iu:=by
  cases z with
  |false=>rw[g2 rfl]at hfu1;cases hfu1
  |true=>rw[g1 rfl]at hfu1;exact Option.some.inj hfu1
 subst hzi;refine za (o:=((F1.un (svS G1 s wc _ q0 q1 q2 p)).un N1).obj xw) _ hx1 ?_;refine za (o:=((F1.un (svS G1 s wc _ q0 q1 q2 p)).un N1).obj s) _ hs1 ?_;have hget1:=hr1.form;obtain⟨oa2,cap2,e2,hget1⟩:=hget1;simp only[AV.s.injEq,Value.slice.injEq]at e2;obtain⟨rfl,_,rfl⟩:=e2;obtain⟨b,J,rfl,hob⟩:=hget1 i hiu1;refine⟨i,rfl,hiu,?_⟩;refine za (o:=((F1.un (svS G1 s wc _ q0 q1 q2 p)).un N1).obj b) _ hob ?_;refine jc (i:=ti72) (row:=zn wc.U[i]) rfl rfl (Mh Bb hiu1) ?_;refine zhn hW1 hdN hFN hm1 hn1 hiu1 c.T.toNat (by rw[hG1];exact htl) htn _ (λS' N2 hno hd2 hF2=>?_) (λt2 hso ht2 F2 G2 L2 a0 a1 a2 N2 hW2 hd2 hF2=>?_)
 ·rw[dk hiu1 hfu1 hno]at hun;have g5:=e4 hun.symm;rw[g5]at h;exact ret (h _ _ ψ hd2 hF2)
 ·rw[di hiu1 hfu1 hso]at hun;refine Qd ?_;refine⟨(k+1,Vr wc i t2 hiu1,F2,G2,L2,a0,a1,a2,N2),?_,⟨ζ,rfl,⟨hd2,hF2⟩,hW2,hun,yjt hm1 hiu1 rfl (show Av wc.U[i].kind from hm1.hk _ (Faa hiu1)),λu hu=>?_,?_,hG1,λid=>?_⟩,Qaq,Tv⟩
  ·show ids.length-(k+1)<ids.length-k;omega
  ·rcases zca (show u∈wc.U.set i _ from hu)with rfl|hu
   ·exact Rf hm1.hg ht2
   ·exact hn1 u hu
  ·show(wc.U.set i _).length=_;rw[Faz];exact hl1
  ·show qq (wc.U.set i (Ds wc.U[i] (qc wc.G t2))) id=_;rw[yoi hm1.hr hiu1 (u:=Ds wc.U[i] (qc wc.G t2)) rfl];exact hf1 id
end
end Go.Proofs
namespace Go.Proofs
open Go Go.V
set_option maxRecDepth 20000
set_option maxHeartbeats 4000000
theorem yr6{w:Wld}(hm:z7 w){c:Cmd}(hc:Ai c)(hk:c.K=4)(hn:¬1099511627776<=w.next):yk (bdB w c)/\∀x∈w.B,x.id<(bdB w c).id:=by have hok:=(Cmd.ok4 hk).1 hc.1;have mf:=wn hm;have:=mf.hn1;have hP:=hc.2.1;refine⟨⟨by unfold bdB;dsimp only;omega,hP,hok.2.1,hok.2.2⟩,λx hx=>?_⟩;have:=(hm.1.1.2.2 x hx).2;exact this
theorem zhy{F G:Store}{xw s p:Nat}{w:Wld}{v:AV}{L:List Ent}{o0 o1 o2:AV}{c:Cmd}{fv:AV}(hW:Work F G xw s p w v L o0 o1 o2 c fv)(hm:z7 w)(hn:∀u∈w.U,u.pos.ok)(hc:Ai c)(hk:c.K=4)(R:Ja)
  (h:∀S',bdE w c≠0->R (int (bdE w c)) S') (h0:bdE w c=0->∀S',Dp S' xw s c fv (bdW w c)->R (int 0) S'):Jb 197 [ptr xw] (F.un (svS G s w v o0 o1 o2 p)) R:=by
 have mf:=wn hm;have hg:=mf.hg;have hg1:=hg.1;have hg2:=hg.2.1;have hn2:=mf.hn2;have hn1:=mf.hn1;have hok:=(Cmd.ok4 hk).1 hc.1;have hT:=hok.1;unfold we at hT;have hx:=hW.x (F':=F) (q0:=o0) (q1:=o1) (q2:=o2);have hs:=hW.s (F':=F) (q0:=o0) (q1:=o1) (q2:=o2);obtain⟨oa,cap,e,hget⟩:=hW.S.hu.form;subst e;have hq:c.T.tmod w.G.W=c.T%w.G.W:=Fbz hT.1;have hq2:c.T.tdiv w.G.W=c.T/w.G.W:=Fa1 hT.1;have hq3:0<=c.T/w.G.W/\c.T/w.G.W<=c.T:=⟨Fcg hT.1 θ,Int.ediv_le_self _ hT.1⟩
 have bad:∀n:Int,n≠0->bdE w c=n->∀S,R (int n) S:=λn hn e S=>by have:=h S (by rw[e];exact hn);rw[e]at this;exact this
 refine Qa (c:=cfg 116) zb Tryz.func197 ?_;refine za (o:=(F.un (svS G s w _ o0 o1 o2 p)).obj xw) _ hx ?_;refine za (o:=(F.un (svS G s w _ o0 o1 o2 p)).obj s) _ hs ?_;refine Qc zb yc0 ?_;refine za (o:=(F.un (svS G s w _ o0 o1 o2 p)).obj xw) _ hx ?_;refine⟨Wc w.G c.T hg _ _ (λz hz=>⟨?_,?_⟩),Tv⟩
 ·repeat(first|exact Tv|refine⟨rfl,?_⟩|refine⟨za (o:=(F.un (svS G s w _ o0 o1 o2 p)).obj xw) _ hx rfl,?_⟩)
 refine Qau ?_;refine yi ?_;refine zk (λc1=>?_) (λc1=>?_);rotate_left
 ·have hno:¬(0<=c.T/\c.T<w.G.W*w.G.H):=λhh=>by have:=hz.2 hh;rw[this]at c1;cases c1
  exact ret (bad 3 ψ (by unfold bdE;rw[if_pos hno]) _)
 have ht:=hz.1 c1;refine za (o:=(F.un (svS G s w _ o0 o1 o2 p)).obj xw) _ hx ?_;refine za (o:=(F.un (svS G s w _ o0 o1 o2 p)).obj s) _ hs ?_;refine zw (λc2=>?_) (λc2=>?_)
 ·exact ret (bad 4 ψ (by unfold bdE;rw[if_neg (λhh=>hh ht),if_pos θ]) _)
 have hnx:¬1099511627776<=w.next:=θ;obtain⟨hbp,hid⟩:=yr6 hm hc hk hnx;refine Qc zb ycz ?_;refine za (o:=(F.un (svS G s w _ o0 o1 o2 p)).obj xw) _ hx ?_;refine za (o:=(F.un (svS G s w _ o0 o1 o2 p)).obj s) _ hs ?_;refine za (o:=(F.un (svS G s w _ o0 o1 o2 p)).obj xw) _ hx ?_;refine za (o:=(F.un (svS G s w _ o0 o1 o2 p)).obj xw) _ hx ?_;refine⟨θ,?_⟩;refine za (o:=(F.un (svS G s w _ o0 o1 o2 p)).obj xw) _ hx ?_;refine⟨θ,?_⟩;refine ze θw ?_;refine za (o:=(F.un (svS G s w _ o0 o1 o2 p)).obj xw) _ hx ?_;refine za (o:=(F.un (svS G s w _ o0 o1 o2 p)).obj xw) _ hx ?_;refine⟨⟨?_,?_⟩,Tv⟩
 ·repeat(first|exact Tv|refine⟨rfl,?_⟩|refine⟨za (o:=(F.un (svS G s w _ o0 o1 o2 p)).obj xw) _ hx rfl,?_⟩|refine⟨za (o:=(F.un (svS G s w _ o0 o1 o2 p)).obj s) _ hs rfl,?_⟩|refine⟨⟨θ,rfl⟩,?_⟩|refine⟨⟨θ,ze θw rfl⟩,?_⟩)
 refine Qau ?_;refine Qc zb ycy ?_;refine za (o:=(F.un (svS G s w _ o0 o1 o2 p)).obj xw) _ hx ?_;refine za (o:=(F.un (svS G s w _ o0 o1 o2 p)).obj s) _ hs ?_;refine⟨yrp w.G hg w.B mf.hB mf.hb (bdB w c) hbp hid _ _ (λhe=>⟨?_,?_⟩) (λhe=>⟨?_,?_⟩),Tv⟩
 ·repeat(first|exact Tv|refine⟨rfl,?_⟩|refine⟨za (o:=(F.un (svS G s w _ o0 o1 o2 p)).obj xw) _ hx rfl,?_⟩|refine⟨za (o:=(F.un (svS G s w _ o0 o1 o2 p)).obj s) _ hs rfl,?_⟩)
 ·refine Qau ?_;refine Qau ?_;refine qf (λ_=>?_) (λhh=>absurd hh he);have e1:bdE w c=xt w.G w.B (bdB w c):=by unfold bdE;rw[if_neg (λhh=>hh ht),if_neg hnx,if_neg he]
  have:=h (F.un (svS G s w (.s (.slice oa w.U.length cap)) o0 o1 o2 p)) (by rw[e1];exact he);rw[e1]at this;exact ret this
 ·repeat(first|exact Tv|refine⟨rfl,?_⟩|refine⟨za (o:=(F.un (svS G s w _ o0 o1 o2 p)).obj xw) _ hx rfl,?_⟩|refine⟨za (o:=(F.un (svS G s w _ o0 o1 o2 p)).obj s) _ hs rfl,?_⟩)
 refine Qau ?_;refine Qau ?_;have hon:onP w.G (bdB w c):=Classical.byContradiction λhh=>by unfold xt at he;rw[if_pos hh]at he;cases he
 have e1:bdE w c=(by classical exact if K7 w (bdB w c)then 5 else 0):=by unfold bdE;rw[if_neg (λhh=>hh ht),if_neg hnx,if_pos he]
 refine zhs hW mf hn (yh5 hm) (bdB w c) ⟨hbp,hon⟩ _ (λz F2 hz hS2=>?_);refine zk (λc3=>?_) (λc3=>?_)
 ·exact ret (bad 5 ψ (by rw[e1,if_pos (hz.1 c3)]) _)
 have hnm:¬K7 w (bdB w c):=λhh=>by have:=hz.2 hh;rw[this]at c3;cases c3
 have hz0:bdE w c=0:=by rw[e1,if_neg hnm]
 have hx2:=hW.x (F':=F2) (q0:=o0) (q1:=o1) (q2:=o2);have hs2:=hW.s (F':=F2) (q0:=o0) (q1:=o1) (q2:=o2);have hr2:=hW.r (F':=F2) (q0:=o0) (q1:=o1) (q2:=o2);have hos:=hW.os;have hxs:=hW.ne;generalize F2.un (svS G s w _ o0 o1 o2 p)=S at hx2 hs2 hr2⊢;refine Qav ?_;refine j4 (i:=ti25) (v:=lst 6 zi (w.B++[bdB w c])) (b:=s) (o:=6) (l:=svC w (.s (.slice oa w.U.length cap)) o0 o1 o2 p) rfl rfl rfl hs2 (show 6+1<=12 by decide) ?_;have hs3:(S.sO s (.cells (zp (svC w (.s (.slice oa w.U.length cap)) o0 o1 o2 p) 6 [lst 6 zi (w.B++[bdB w c])]))).obj s=some (.cells (svC {w with B:=w.B++[bdB w c]} (.s (.slice oa w.U.length cap)) o0 o1 o2 p)):=zd _ _ _;have hx3:=(zg (st:=S) (x:=.cells (zp (svC w (.s (.slice oa w.U.length cap)) o0 o1 o2 p) 6 [lst 6 zi (w.B++[bdB w c])])) hxs).trans hx2;have hr3:=hr2.set hos (.cells (zp (svC w (.s (.slice oa w.U.length cap)) o0 o1 o2 p) 6 [lst 6 zi (w.B++[bdB w c])]));generalize S.sO s _=S2 at hs3 hx3 hr3⊢;refine Qav ?_;refine Qav ?_;refine ze ζ ?_;refine j4 (i:=ti2) (v:=int (w.next+1)) (b:=s) (o:=2) (l:=svC {w with B:=w.B++[bdB w c]} (.s (.slice oa w.U.length cap)) o0 o1 o2 p) rfl rfl rfl hs3 (show 2+1<=12 by decide) ?_;exact ret (h0 hz0 _ ⟨_,o0,o1,o2,p,(zg hxs).trans hx3,zd _ _ _,hr3.set hos _⟩)
end Go.Proofs
namespace Go.Proofs
open Go Go.V
set_option maxRecDepth 20000
set_option maxHeartbeats 4000000
end Go.Proofs
