/- Ground of laws of thronglaw25: contracts and plain lemmas; no condition beyond the row's own. -/
import Derived.Test.YtdfpifbbcigelaaGreatKX
import Derived.Test.YtdfpifbbcigelaaGreatKW
set_option linter.unusedSimpArgs false
set_option linter.unusedVariables false
namespace Go.Proofs
open Go Go.V
set_option maxRecDepth 20000
set_option maxHeartbeats 4000000
end Go.Proofs
namespace Go.Proofs
open Go Go.V
set_option maxRecDepth 20000
set_option maxHeartbeats 4000000
end Go.Proofs
namespace Go.Proofs
open Go Go.V
set_option maxRecDepth 20000
set_option maxHeartbeats 4000000
end Go.Proofs
namespace Go.Proofs
open Go Go.V
set_option maxRecDepth 20000
set_option maxHeartbeats 4000000
end Go.Proofs
namespace Go.Proofs
open Go Go.V
set_option maxRecDepth 20000
set_option maxHeartbeats 4000000
theorem zy5{Nu N:Store}{w:Wld}{v:AV}(hu:RowsQ 10 zk Nu v w.U)(hp:playW w)(hd:zh Nu N){fb:Nat}{room:Int}{k:Nat}(hF:FldAny fb room (k:Nat) N)(hk:k<=1000000000000000000)(R:Ja)
  (h:∀X N',RowsQ 10 zk X v (jc w).U->zh X N'->FldAny fb room ((k+w.U.length:Nat):Int) N'->R (.agg (qv (jc w) v)) (X.un N')):Jb 95 [.agg (qv w v),ptr fb] (Nu.un N) R:=by
 have hm:=ku hp.1
 have hU:=hm.hU
 obtain⟨oa,cap,ev,hget⟩:=hu.form
 subst ev
 refine Qa (c:=cfg 45 [13] []) zb Tryz.func95 ?_
 refine ACalls.frame hd (lu w _ Nu hu (by omega) hp.2 (λr S=>∃F s p L o0 o1 o2,r=ptr s/\S=F.un (svS Nu s w (.s (.slice oa w.U.length cap)) o0 o1 o2 p)/\Fresh Nu s/\StandR F Nu s p w (.s (.slice oa w.U.length cap)) L o0 o1 o2/\L.length<=w.U.length/\(yg w.U->∀e,e∈L↔∃u∈w.U,u.inn=0/\e=(u.id,u.pos))) (λF s p L o0 o1 o2 h1 h2 h3 h4=>⟨F,s,p,L,o0,o1,o2,rfl,rfl,h1,h2,h3,h4⟩)) ?_
 rintro r S ⟨F,s,p,L,o0,o1,o2,rfl,rfl,hs,hS,hLl,hmem⟩ hd1
 refine yg8 rfl (it:=ti162) rfl rfl ?_
 intro mb hmb
 have hmbF:=fresh_un hmb
 have hnF:¬F.has mb/\¬(svS Nu s w (.s (.slice oa w.U.length cap)) o0 o1 o2 p).has mb:=by
  have:=fresh_iff.1 hmbF.1
  exact⟨λhh=>this (un_has.2 (.inl hh)),λhh=>this (un_has.2 (.inr hh))⟩
 have hmN2:¬N.has mb:=fresh_iff.1 hmbF.2
 have hms:mb≠s:=λe=>hnF.2 (svS_has.2 (.inl e))
 have hmN:¬Nu.has mb:=λhh=>hnF.2 (svS_has.2 (.inr hh))
 have hmN0:Nu.obj mb=none:=(ww hmN).1
 have omb:ja (.s (.slice oa w.U.length cap)) mb:=Hh hu hmN0
 have oms:ja (.s (.slice oa w.U.length cap)) s:=Hh hu hS.hs
 have e0:((F.un (svS Nu s w (.s (.slice oa w.U.length cap)) o0 o1 o2 p)).un N).sO mb (AObj.cells [AV.s (Value.pointer (some {block:=s,off:=0})),AV.s (Value.iface 162 (Value.pointer (some {block:=fb,off:=0})))])=(F.un (svS (Nu.sO mb (.cells [ptr s,L5 fb])) s w (.s (.slice oa w.U.length cap)) o0 o1 o2 p)).un N:=by
  rw[G4 hmN2,zt]
  unfold svS
  rw[D5 hms]
  rfl
 have hW:MoverG (L5 fb) F (Nu.sO mb (.cells [ptr s,L5 fb])) mb s p w (.s (.slice oa w.U.length cap)) L o0 o1 o2:=
  ⟨⟨hS.hc,λi h1 h2=>by
    rcases svS_has.1 h2 with h2|h2
    ·exact hS.hd i h1 (svS_has.2 (.inl h2))
    ·rcases has_setObj_iff.1 h2 with h2|h2
     ·subst h2;exact hnF.1 h1
     ·exact hS.hd i h1 (svS_has.2 (.inr h2)),by rw[zg (Ne.symm hms)];exact hS.hs,hu.set omb _,hS.h0,hS.h1,hS.h2⟩,zd _ _ _,omb,oms,hLl,hmem hp.1.1.2.1⟩
 have hd2:zh (F.un (svS (Nu.sO mb (.cells [ptr s,L5 fb])) s w (.s (.slice oa w.U.length cap)) o0 o1 o2 p)) N:=λi h1 h2=>by
  rcases un_has.1 h1 with h1|h1
  ·exact hd1 i (un_has.2 (.inl h1)) h2
  ·rcases svS_has.1 h1 with h1|h1
   ·exact hd1 i (un_has.2 (.inr (svS_has.2 (.inl h1)))) h2
   ·rcases has_setObj_iff.1 h1 with h1|h1
    ·subst h1;exact hmN2 h2
    ·exact hd1 i (un_has.2 (.inr (svS_has.2 (.inr h1)))) h2
 rw[e0]
 clear e0 hmbF hmb hnF hd1 hS hs hLl hmem
 refine AWp.loop (σ:=Nat) ⟨λi=>[(5,.av (ptr mb)),(16,.av (int (w.U.length:Nat))),(17,.av (int (i:Nat))),(4,.bx 4 0)],λ_=>[(4,Gx)],
  λi S=>i<=w.U.length/\∃F G L q0 q1 q2 n N,S=(F.un (svS G s (goN w i) (.s (.slice oa w.U.length cap)) q0 q1 q2 p)).un N/\MoverG (L5 fb) F G mb s p (goN w i) (.s (.slice oa w.U.length cap)) L q0 q1 q2/\zh (F.un (svS G s (goN w i) (.s (.slice oa w.U.length cap)) q0 q1 q2 p)) N/\FldAny fb room ((k+n:Nat):Int) N/\n<=i,λi=>w.U.length-i⟩ zb ?_ ?_
 ·exact⟨0,Tv,⟨Faj _,F,_,L,o0,o1,o2,0,N,rfl,hW,hd2,hF,Fak _⟩,⟨Tq,Tq,Tq,Tq,Tv⟩,⟨rfl,Tv⟩⟩
 clear hW hd2 hF hd hmN2 hmN hmN0 hms omb oms hu hget
 rintro i S ⟨hi,F1,G1,L1,q0,q1,q2,n,N1,rfl,hW,hd1,hF,hn⟩
 obtain⟨hpi,hli,_,_⟩:=Pf hp i
 have hmi:=ku hpi.1
 refine bcd (λh1=>?_) (λh1=>?_)
 ·have hlt:i<w.U.length:=by omega
  have hil:i<(goN w i).U.length:=by omega
  obtain⟨oa2,cap2,ev2,hget2⟩:=hW.S.hu.form
  obtain⟨b,J,hoa,hob0⟩:=hget2 i hil
  have hoa3:oa=some ⟨b,0,none⟩:=by
   simp only[AV.s.injEq,Value.slice.injEq]at ev2
   rw[ev2.1,hoa]
  subst hoa3
  have hbs:b≠s:=λe=>by rw[e,hW.S.hs]at hob0;cases hob0
  have hob:((F1.un (svS G1 s (goN w i) (.s (.slice (some ⟨b,0,none⟩) w.U.length cap)) q0 q1 q2 p)).un N1).obj b=some (.cells ((rws zk (goN w i).U).flatten++J)):=z8 hd1 (zf (by
   show(G1.sO s _).obj b=_
   rw[zg hbs];exact hob0))
  refine za (o:=((F1.un (svS G1 s (goN w i) (.s (.slice (some ⟨b,0,none⟩) w.U.length cap)) q0 q1 q2 p)).un N1).obj mb) _ (z8 hd1 hW.m) ?_
  refine za (o:=((F1.un (svS G1 s (goN w i) (.s (.slice (some ⟨b,0,none⟩) w.U.length cap)) q0 q1 q2 p)).un N1).obj s) _ (z8 hd1 hW.s) ?_
  refine⟨i,rfl,hlt,?_⟩
  refine za (o:=((F1.un (svS G1 s (goN w i) (.s (.slice (some ⟨b,0,none⟩) w.U.length cap)) q0 q1 q2 p)).un N1).obj b) _ hob ?_
  refine xg (i:=ti36) (row:=zk (goN w i).U[i]) rfl rfl (Iu w9 hil) ?_
  refine z6 (λc1=>?_) (λc1=>?_)
  ·have hg:=yb6 hil c1
   refine zb9 (ybf hmi fb room k (n+1) (by omega)) (Nat.lt_succ_self n) hW hd1 hF hpi.1 hpi.2 hil c1 _ (λF2 G2 L2 a0 a1 a2 n2 N2 hn2 hW2 hd2 hF2=>?_)
   refine Qd ?_
   refine⟨i+1,(show w.U.length-(i+1)<w.U.length-i by omega),⟨hlt,F2,G2,L2,a0,a1,a2,n2,N2,?_,?_,?_,hF2,by omega⟩,Qal,⟨rfl,Tv⟩⟩
   ·rw[hg]
   ·rw[hg];exact hW2
   ·rw[hg];exact hd2
  ·have hg:=yb5 hil c1
   refine Qd ?_
   refine⟨i+1,(show w.U.length-(i+1)<w.U.length-i by omega),⟨hlt,F1,G1,L1,q0,q1,q2,n,N1,?_,?_,?_,hF,by omega⟩,Qal,⟨rfl,Tv⟩⟩
   ·rw[hg]
   ·rw[hg];exact hW
   ·rw[hg];exact hd1
 ·have:i=w.U.length:=by omega
  subst this
  obtain⟨oa2,cap2,ev2,_⟩:=hW.S.hu.form
  refine za (o:=((F1.un (svS G1 s (goN w w.U.length) (.s (.slice oa w.U.length cap)) q0 q1 q2 p)).un N1).obj mb) _ (z8 hd1 hW.m) ?_
  refine za (o:=((F1.un (svS G1 s (goN w w.U.length) (.s (.slice oa w.U.length cap)) q0 q1 q2 p)).un N1).obj s) _ (z8 hd1 hW.s) ?_
  exact ret (h _ _ (F5 hW.S.hs hW.S.hu).un hd1 (hF.mono (by omega)))
def Cq(g:Gnd)(n:Int):Wld:=⟨0,n,1,g,[],[]⟩
def Bh(g:Gnd)(n:Int):Prop:=zn g/\1<=n/\n<=8
theorem zay{G:Store}{g:Gnd}{v:AV}(n:Int)(hn:ya n)
  (hMay:∀R:AV->Store->Prop,(∀b:Bool,(b=true↔zn g)->R (V.bool b) G)->Jb 88 [.agg [int g.W,int g.H,v]] G R)
  (hOwn:∀R:AV->Store->Prop,(∀vT N,RowsQ 1 u8C N vT g.T->zh N G->R (.agg [int g.W,int g.H,vT]) (N.un G))->Jb 89 [.agg [int g.W,int g.H,v]] G R):
  Jb 39 [.agg [int g.W,int g.H,v],int n] G λr S=>(¬Bh g n/\r=.tup [.agg Gx,int 1]/\S=G)∨
   (Bh g n/\∃vT N,RowsQ 1 u8C N vT g.T/\zh N G/\r=.tup [.agg [int 0,int n,int 1,int g.W,int g.H,vT,nil,nil],int 0]/\S=N.un G):=by
 refine Qa (c:=cfg 22) zb Tryz.func39 ?_
 refine hMay _ (λz hz=>?_)
 have bad:¬Bh g n->(¬Bh g n/\(.tup [.agg Gx,int 1]:AV)=.tup [.agg Gx,int 1]/\G=G)∨
   (Bh g n/\∃vT N,RowsQ 1 u8C N vT g.T/\zh N G/\(.tup [.agg Gx,int 1]:AV)=.tup [.agg [int 0,int n,int 1,int g.W,int g.H,vT,nil,nil],int 0]/\G=N.un G):=λh=>.inl ⟨h,rfl,rfl⟩
 refine ym ?_
 refine zj (λc1=>?_) (λc1=>?_)
 rotate_left
 ·exact ret (bad λhh=>by have:=hz.2 hh.1;rw[this]at c1;cases c1)
 refine bcd (λc2=>?_) (λc2=>?_)
 ·exact ret (bad λhh=>by have:=hh.2;omega)
 refine bcd (λc3=>?_) (λc3=>?_)
 ·exact ret (bad λhh=>by have:=hh.2;omega)
 refine hOwn _ (λvT N hv hd=>?_)
 have hform:=hv.form
 obtain⟨oa,cap,rfl,_⟩:=hform
 exact ret (.inr ⟨⟨hz.1 c1,by omega,by omega⟩,_,N,hv,hd,rfl,rfl⟩)
theorem co(g:Gnd)(hg:g.fits)(hT:g.T.length<=1000000000)(n:Int)(hn:ya n)(st:Store)(R:Ja)
  (hbad:¬Bh g n->R (.tup [.agg Gx,int 1]) st) (hok:Bh g n->R (.tup [.agg (zw (Cq g n)),int 0]) st):Jb 39 [.agg (zo g),int n] st R:=by
 refine Ho (Q:=λr=>(¬Bh g n/\r=.tup [.agg Gx,int 1])\/(Bh g n/\r=.tup [.agg (zw (Cq g n)),int 0])) ?_ st R λr hr=>?_
 ·refine(zay (G:=Store.empty) (v:=xc g.T) n hn (λR h=>o5 g hg _ R h) (λR h=>V9 g hT _ R h)).frozen ?_
  rintro r S (⟨h1,rfl,rfl⟩|⟨h1,vT,N,hv,hd,rfl,rfl⟩)
  ·exact⟨_,.inl ⟨h1,rfl⟩,λOth M w v sto hx=>jr hx⟩
  ·refine⟨_,.inr ⟨h1,rfl⟩,λOth M w v sto hx=>hx.tup2 (λx hx=>?_) (λx hx=>jr hx)⟩
   have ho:OwnQ (N.un Store.empty) (Cq g n) vT nil nil N Store.empty Store.empty:=⟨by rw[vm,vm,Dg],hv,.inl (.inl ⟨rfl,rfl⟩),.inl (.inl ⟨rfl,rfl⟩),Mf _,Mf _⟩
   exact Vd ho sto hx
 ·rcases hr with⟨h1,rfl⟩|⟨h1,rfl⟩
  ·exact hbad h1
  ·exact hok h1
def C8(w:Wld)(fb:Nat):List AV:=zw w++[ptr fb]
structure EngR(eb:Nat)(room:Int)(k:Nat)(w:Wld)(S:Store):Prop where
 out:∃N fb,S=N.sO eb (.cells (C8 w fb))/\¬N.has eb/\FldAny fb room (k:Nat) N
theorem FldAny.objs0{fb:Nat}{room k:Int}{N:Store}(h:FldAny fb room k N):FldAny fb room k N.objs0:=h.objs
theorem cn(w:Wld)(hw:w.fits)(hn:∀u∈w.U,u.pos.ok)(hT:w.G.T.length<=1000000)(hB:w.B.length<=1000000)(hU:w.U.length<=1000000)(room:Int)(hr:1<=room/\room<=4096)(R:Ja)
  (hbad:¬z7 w->R (.tup [.s (.pointer none),int 1]) Store.empty) (hok:z7 w->∀eb S,EngR eb room 0 w S->R (.tup [ptr eb,int 0]) S):Jb 43 [.agg (zw w),int room] Store.empty R:=by
 have key:Jb 43 [.agg (zw w),int room] Store.empty λr S=>(¬z7 w/\r=.tup [.s (.pointer none),int 1])∨
   (z7 w/\∃X N eb fb vT vB vU NT NB NU,OwnQ X w vT vB vU NT NB NU/\zh X N/\¬X.has eb/\¬N.has eb/\FldAny fb room ((0:Nat):Int) N/\r=.tup [ptr eb,int 0]/\S=(X.un N).sO eb (.cells (Fu w vT vB vU++[ptr fb]))):=by
  refine Qa (c:=cfg 25 [24] []) zb Tryz.func43 ?_
  refine ycm room hr _ (λN fb hF=>?_)
  refine zzd w hw hn _ _ (λz hz=>?_)
  refine ym ?_
  refine zj (λc1=>?_) (λc1=>?_)
  rotate_left
  ·exact ret (.inl ⟨λhh=>(by have:=hz.2 hh;rw[this]at c1;cases c1),rfl⟩)
  have hown:Jb 91 [.agg (zw w)] (Store.empty.un N) λr S=>∃X vT vB vU NT NB NU,OwnQ X w vT vB vU NT NB NU/\zh X N/\r=.agg (Fu w vT vB vU)/\S=X.un N:=
   ACalls.frame (Kn N) (Va w (by omega) (by omega) (by omega) (λr S=>∃vT vB vU NT NB NU,OwnQ S w vT vB vU NT NB NU/\r=.agg (Fu w vT vB vU)) (λS vT vB vU NT NB NU h=>⟨vT,vB,vU,NT,NB,NU,h,rfl⟩)) (λr a' ⟨vT,vB,vU,NT,NB,NU,h1,h2⟩ hd=>⟨a',vT,vB,vU,NT,NB,NU,h1,hd,h2,rfl⟩)
  rw[vm]at hown
  refine hown.imp ?_
  rintro r S ⟨X,vT,vB,vU,NT,NB,NU,ho,hd,rfl,rfl⟩
  obtain⟨rT,rB,rU⟩:=Vb ho
  obtain⟨_,_,e1,_⟩:=rT.form
  obtain⟨_,_,e2,_⟩:=rB.form
  obtain⟨_,_,e3,_⟩:=rU.form
  subst e1 e2 e3
  intro eb heb
  have heb:=fresh_iff.1 heb
  exact ret (.inr ⟨hz.1 c1,X,N,eb,fb,_,_,_,NT,NB,NU,ho,hd,λh=>heb (un_has.2 (.inl h)),λh=>heb (un_has.2 (.inr h)),hF,rfl,rfl⟩)
 refine key.frozenEng ?_
 rintro r S (⟨h1,rfl⟩|⟨hm,X,N,eb,fb,vT,vB,vU,NT,NB,NU,ho,hd,h1,h2,hF,rfl,rfl⟩)
 ·exact .inl (hbad h1)
 ·refine .inr ⟨_,X,N,eb,Fu w vT vB vU,zw w,_,hd,h1,h2,rfl,rfl,hok hm eb _ ⟨_,fb,rfl,?_,hF.objs0⟩,λOth M W sto=>⟨λx hx=>Vd ho sto hx,λx hx=>jr hx⟩⟩
  exact λh=>h2 (h.elim .inl λh=>absurd rfl h)
section
variable {eb k:Nat} {room:Int} {w:Wld} {S:Store}
theorem Qai{p:Prop}(h:p:=by repeat(first|exact Tv|refine⟨rfl,?_⟩|refine⟨za (o:=(xn _ Nt eb fb W).obj eb) _ (Dv _ _ _ _ _) rfl,?_⟩)):p:=h
def xh(fb:Nat):AV:=.s (.func (.func 94) #[.pointer (some ⟨fb,0,none⟩)] #[])
def DoC:Prop:=∀(fb:Nat) (room:Int) (k:Nat) (N:Store) (w:Wld) (c:Cmd),FldAny fb room (k:Nat) N->playW w->c.fits->∀R:AV->Store->Prop,(∀N',FldAny fb room (k:Nat) N'->R (.tup [.agg (zw (doW aE aW w c)),int (doE aE w c)]) N')->
 Jb 93 [.agg (zw w),.agg (qu c),xh fb] N R
def xn(N Nt:Store)(eb fb:Nat)(w:Wld):Store:=N.un (Nt.sO eb (.cells (C8 w fb)))
theorem Dv(N Nt:Store)(eb fb:Nat)(w:Wld):(xn N Nt eb fb w).obj eb=some (.cells (C8 w fb)):=zf (zd _ _ _)
theorem Pt{a g:Store}{b:Nat}{x y:AObj}(h:zh a (g.sO b x)):zh a (g.sO b y):=λi h1 h2=>h i h1 (has_setObj_iff.2 (has_setObj_iff.1 h2))
theorem zra(hE:EngR eb room k w S)(hw:playW w)(l:List Cmd)(hl:l=[]\/DoC)(hf:∀c∈l,c.fits)(hl2:l.length<=512)(ht:w.tick<1099511627776)(hk:k<=100000000000000000):
  Jb 47 [ptr eb,lst 10 qu l] S λr S'=>∃(N:Store) (fb:Nat) (X Nt:Store) (v vt:AV),r=.tup [vt,int 0]/\S'=(X.un N).un (Nt.sO eb (.cells (qv (Cg w l) v++[ptr fb])))∧
   RowsQ 10 zk X v (Cg w l).U/\RowsQ 1 zz Nt vt (k9 w l)/\zh X N/\zh (X.un N) (Nt.sO eb (.cells []))/\¬Nt.has eb/\FldAny fb room ((k+4096:Nat):Int) N:=by
 obtain⟨N,fb,rfl,hn,hF⟩:=hE.out
 refine Qa (c:=cfg 74) zb Tryz.func47 ?_
 refine za (o:=(N.sO eb _).obj eb) _ (zd _ _ _) ?_
 refine z6 (λc1=>absurd c1 (by omega)) (λ_=>?_)
 refine bcd (λc2=>absurd c2 (by rw[zm];omega)) (λ_=>?_)
 have e0:N.sO eb (.cells (C8 w fb))=xn N Store.empty eb fb w:=by
  unfold xn
  rw[<-zt,Dg]
 have hd0:zh N (Store.empty.sO eb (.cells [])):=λi h1 h2=>by
  rcases has_setObj_iff.1 h2 with rfl|h2
  ·exact hn h1
  ·exact h2.elim (λh=>h rfl) (λh=>h rfl)
 rw[e0]
 refine AWp.loop (σ:=Nat×Store×Store×AV) ⟨λx=>[(0,.av (ptr eb)),(6,.av x.2.2.2),(22,.av (lst 10 qu l)),(23,.av (int (l.length:Nat))),(24,.av (int (x.1:Nat)))],λ_=>[],
  λx st'=>x.1<=l.length/\st'=xn x.2.1 x.2.2.1 eb fb (xy w (l.take x.1))/\RowsQ 1 zz x.2.2.1 x.2.2.2 (k9 w (l.take x.1))/\zh x.2.1 (x.2.2.1.sO eb (.cells []))/\¬x.2.2.1.has eb/\FldAny fb room (k:Nat) x.2.1,λx=>l.length-x.1⟩ zb ?_ ?_
 ·refine⟨(0,N,Store.empty,.s (.slice none 0 0)),Tv,⟨Faj _,rfl,.inl (.inl ⟨rfl,rfl⟩),hd0,λh=>h.elim (λh=>h rfl) (λh=>h rfl),hF⟩,⟨Tq,Tq,Tq,?_,Tq,Tv⟩,Tv⟩
  show LV.le (.av (int ((rws qu l).length:Nat))) (.av (int (l.length:Nat)))
  rw[zm];exact Tq
 clear e0 hd0 hF hn hE
 rintro⟨i,N,Nt,vt⟩ st' ⟨hi,rfl,hvt,hd,hnt,hF⟩
 dsimp only at hi hvt hd hnt hF⊢
 refine bcd (λh1=>?_) (λh1=>?_)
 ·have hlt:i<l.length:=by omega
  obtain⟨q1,q2⟩:=ye4 (w:=w) hlt
  have hp:=Oc (l.take i) hw
  refine⟨i,rfl,za _ (zr hlt) ?_⟩
  rcases hl with rfl|hDo
  ·exact absurd hlt (Fbf i)
  have hcall:∀R:AV->Store->Prop,(∀N',FldAny fb room (k:Nat) N'->zh N' (Nt.sO eb (.cells []))->R (.tup [.agg (zw (doW aE aW (xy w (l.take i)) l[i])),int (doE aE (xy w (l.take i)) l[i])]) (xn N' Nt eb fb (xy w (l.take i))))->
    Jb 93 [.agg (zw (xy w (l.take i))),.agg (qu l[i]),xh fb] (xn N Nt eb fb (xy w (l.take i))) R:=λR h=>
   ACalls.frame (Pt hd) (hDo fb room k N (xy w (l.take i)) l[i] hF hp (hf _ (Faa hlt)) (λr S=>FldAny fb room (k:Nat) S/\r=.tup [.agg (zw (doW aE aW (xy w (l.take i)) l[i])),int (doE aE (xy w (l.take i)) l[i])]) (λN' h=>⟨h,rfl⟩))
    λr a' ⟨h1,h2⟩ hd'=>h2▸h a' h1 (Pt hd')
  have hTl:(k9 w (l.take i)).length<=i:=by rw[sn,Fao];omega
  have hoff:=Hh hvt (ww hnt).1
  generalize xy w (l.take i)=W at*
  generalize k9 w (l.take i)=T at*
  generalize doW aE aW W l[i]=W2 at*
  generalize doE aE W l[i]=e2 at*
  refine Qc zb zsq ?_
  refine za (o:=(xn N Nt eb fb W).obj eb) _ (Dv _ _ _ _ _) ?_
  refine za (o:=(xn N Nt eb fb W).obj eb) _ (Dv _ _ _ _ _) ?_
  refine⟨hcall _ λN' hF' hd'=>⟨Tv,⟨⟨Qai,⟨⟨Tv,⟨⟨Tv,?_⟩,Tv⟩⟩,Tv⟩⟩,Tv⟩⟩,⟨⟨Qai,⟨hcall _ λN' hF' hd'=>⟨Tv,⟨⟨Tv,⟨⟨Tv,?_⟩,Tv⟩⟩,Tv⟩⟩,Tv⟩⟩,Tv⟩⟩
  all_goals
   refine Qc zb zss ?_
   have hvtN:RowsQ 1 zz (xn N' Nt eb fb W) vt T:=(hvt.set hoff _).un
   refine⟨by decide,Gu (ie:=ti2) rfl O3 (by decide) (v:=vt) (l:=T) hvtN e2 rfl (by omega) (λb cap L h5 h6 h7 h8=>?_),Tv⟩
   have hbe:b≠eb:=by
    rcases h5 with h5|⟨c0,h0,h5⟩
    ·exact λe=>fresh_iff.1 h5 (by rw[e];exact jb (Dv _ _ _ _ _))
    ·exact hoff b _ c0 h5 h0
   have hbN:¬N'.has b:=by
    rcases h5 with h5|⟨c0,h0,h5⟩
    ·exact λe=>fresh_iff.1 h5 (un_has.2 (.inl e))
    ·exact λe=>hd' b e (has_setObj_iff.2 (.inr (hvt.has h5 h0)))
   have e1:(xn N' Nt eb fb W).sO b (.cells ((rws zz (T++[e2])).flatten++L))=xn N' (Nt.sO b (.cells ((rws zz (T++[e2])).flatten++L))) eb fb W:=by
    unfold xn
    rw[zt,D5 hbe]
   rw[e1]
   refine⟨?_,?_⟩
   ·first|exact rfl|(repeat(first|exact Tv|refine⟨rfl,?_⟩))
   refine⟨?_,Tv⟩
   refine za _ rfl (ju rfl (jo (v:=.agg (zw W2)) rfl rfl rfl rfl ?_))
   refine wt (i:=ti27) (v:=.agg (zw W2)) (xs:=zw W2) (b:=eb) (o:=0) (l:=C8 W fb) rfl rfl rfl (Dv _ _ _ _ _) (show 0+8<=9 by decide) ⟨Tv,?_⟩
   refine Qap ?_
   refine Qd ?_
   have e3:(xn N' (Nt.sO b (.cells ((rws zz (T++[e2])).flatten++L))) eb fb W).sO eb (.cells (C8 W2 fb))=xn N' (Nt.sO b (.cells ((rws zz (T++[e2])).flatten++L))) eb fb W2:=by
    unfold xn
    rw[zt,yq]
   refine⟨(i+1,N',Nt.sO b (.cells ((rws zz (T++[e2])).flatten++L)),_),(show l.length-(i+1)<l.length-i by omega),⟨by dsimp only;omega,?_,?_,?_,?_,hF'⟩,⟨Tq,Tq,Tq,Tq,Tq,Tv⟩,Tv⟩
   ·dsimp only;rw[q1];exact e3
   ·dsimp only;rw[q2];exact .inl (.inr ⟨b,cap,L,rfl,zd _ _ _,h6,h7,h8⟩)
   ·intro j h1 h2
    dsimp only at h1 h2
    rw[D5 (Ne.symm hbe)]at h2
    rcases has_setObj_iff.1 h2 with rfl|h2
    ·exact hbN h1
    ·exact hd' j h1 h2
   ·dsimp only
    intro h
    rcases has_setObj_iff.1 h with h|h
    ·exact hbe h.symm
    ·exact hnt h
 ·have:i=l.length:=by omega
  subst this
  rw[Faz]at hvt⊢
  have hp:=Oc l hw
  have htk:=sm l hw
  have hsz:=hp.sizes
  have hU:=(ku hp.1).hU
  have heng:Cg w l=Fz (xy w l):=rfl
  generalize Cg w l=We at*
  generalize xy w l=W at*
  generalize k9 w l=T at*
  have hown:∀R:AV->Store->Prop,(∀v X,RowsQ 10 zk X v W.U->zh X (xn N Nt eb fb W)->R (.agg (qv W v)) (X.un (xn N Nt eb fb W)))->Jb 91 [.agg (zw W)] (xn N Nt eb fb W) R:=λR h=>by
   rw[<-vm (xn N Nt eb fb W)]
   refine ACalls.frame (Kn _) (lp W (by omega) (by omega) (by omega) (λr S=>∃v,RowsQ 10 zk S v W.U/\r=.agg (qv W v)) (λv N h=>⟨v,h,rfl⟩)) ?_
   rintro r a' ⟨v,h1,rfl⟩ hd'
   exact h v a' h1 hd'
  refine Qc zb zsr ?_
  refine za (o:=(xn N Nt eb fb W).obj eb) _ (Dv _ _ _ _ _) ?_
  refine za (o:=(xn N Nt eb fb W).obj eb) _ (Dv _ _ _ _ _) ?_
  refine⟨hown _ (λv X hX hdX=>⟨(by repeat(first|exact rfl|exact Tv|refine⟨rfl,?_⟩|refine⟨za (o:=(X.un (xn N Nt eb fb W)).obj eb) _ (zf (Dv _ _ _ _ _)) rfl,?_⟩|refine za (o:=(X.un (xn N Nt eb fb W)).obj eb) _ (zf (Dv _ _ _ _ _)) rfl)),?_⟩),Tv⟩
  have hXN:zh X N:=λi h1 h2=>hdX i h1 (un_has.2 (.inl h2))
  have hXG:zh (X.un N) (Nt.sO eb (.cells (C8 W fb))):=disj_un.2 ⟨λi h1 h2=>hdX i h1 (un_has.2 (.inr h2)),Pt hd⟩
  have e1:X.un (xn N Nt eb fb W)=(X.un N).un (Nt.sO eb (.cells (C8 W fb))):=(K2 _ _ _).symm
  rw[e1]
  have hgo:=ACalls.frame hXG (zy5 hX hp hXN hF (by omega) (λr S=>∃Y N',RowsQ 10 zk Y v (jc W).U/\zh Y N'/\FldAny fb room ((k+W.U.length:Nat):Int) N'/\r=.agg (qv (jc W) v)/\S=Y.un N') (λY N' h1 h2 h3=>⟨Y,N',h1,h2,h3,rfl,rfl⟩)) (R':=λr S=>∃Y N',RowsQ 10 zk Y v (jc W).U/\zh Y N'/\FldAny fb room ((k+W.U.length:Nat):Int) N'/\r=.agg (qv (jc W) v)/\S=(Y.un N').un (Nt.sO eb (.cells (C8 W fb)))/\zh (Y.un N') (Nt.sO eb (.cells (C8 W fb)))) (λr a' ⟨Y,N',h1,h2,h3,h4,h5⟩ hd'=>⟨Y,N',h1,h2,h3,h4,by rw[h5],h5▸hd'⟩)
  refine⟨hgo.imp ?_,Tv⟩
  rintro r S ⟨Y,N',hY,hYN,hF',rfl,rfl,hdY⟩
  obtain⟨oa,cap,e2,_⟩:=hY.form
  subst e2
  refine⟨Tv,?_⟩
  refine⟨?_,Tv⟩
  refine za _ rfl (ju rfl (jo (v:=.agg (qv (jc W) (.s (.slice oa (jc W).U.length cap)))) rfl rfl rfl rfl ?_))
  refine wt (i:=ti27) (v:=.agg (qv (jc W) (.s (.slice oa (jc W).U.length cap)))) (xs:=qv (jc W) (.s (.slice oa (jc W).U.length cap))) (b:=eb) (o:=0) (l:=C8 W fb) rfl rfl rfl (zf (zd _ _ _)) (show 0+8<=9 by decide) ⟨Tv,?_⟩
  rw[zt,yq]
  have hat:(jc W).tick=W.tick:=Kd W _
  have hw0:0<=w.tick:=hw.1.1.1.1.1.1
  refine za (o:=((Y.un N').un (Nt.sO eb _)).obj eb) _ (zf (zd _ _ _)) ?_
  refine Qd ?_
  refine Bs (i:=ti2) (v:=int ((jc W).tick+1)) (b:=eb) (o:=0) (l:=qv (jc W) (.s (.slice oa (jc W).U.length cap))++[ptr fb]) rfl rfl rfl (zf (zd _ _ _)) (show 0+1<=9 by decide) ?_
  rw[zt,yq]
  obtain⟨oc,cc,e4,_⟩:=hvt.form
  subst e4
  exact ret ⟨N',fb,Y,Nt,_,_,rfl,by rw[heng];rfl,by rw[heng];exact hY,hvt,hYN,Pt hdY,hnt,hF'.mono (by omega)⟩
theorem rd(hE:EngR eb room k w S)(hw:playW w)(l:List Cmd)(hl:l=[]\/DoC)(hf:∀c∈l,c.fits)(hl2:l.length<=512)(ht:w.tick<1099511627776)(hk:k<=100000000000000000)(R:Ja)
  (h:∀S',EngR eb room (k+4096) (Cg w l) S'->R (.tup [lst 1 zz (k9 w l),int 0]) S'):Jb 47 [ptr eb,lst 10 qu l] S R:=by
 refine(zra hE hw l hl hf hl2 ht hk).frozenEng ?_
 rintro r S' ⟨N,fb,X,Nt,v,vt,rfl,rfl,hX,hvt,hXN,hd,hnt,hF⟩
 obtain⟨d1,d2⟩:=disj_un.1 hd
 have sub:∀{a:Store},zh a (Nt.sO eb (.cells []))->zh a Nt/\¬a.has eb:=λh=>⟨λi h1 h2=>h i h1 (has_setObj_iff.2 (.inr h2)),λh1=>h eb h1 (has_setObj_iff.2 (.inl rfl))⟩
 obtain⟨d3,d4⟩:=sub d1
 obtain⟨d5,d6⟩:=sub d2
 refine .inr ⟨.tup [lst 1 zz (k9 w l),int 0],X.un Nt,N,eb,qv (Cg w l) v,zw (Cg w l),_,disj_un.2 ⟨hXN,Hy d5⟩,λh=>(un_has.1 h).elim d4 hnt,d6,?_,rfl,h _ ⟨_,fb,rfl,?_,hF.objs0⟩,λOth M W sto=>⟨λx hx=>?_,λx hx=>?_⟩⟩
 ·rw[<-zt,K2,K2,un_comm d5]
  rfl
 ·exact λh=>d6 (h.elim .inl λh=>absurd rfl h)
 ·exact cq (hX.unL d3) sto hx
 ·exact hx.tup2 (λx hx=>(hvt.un (a:=X)).borrow O3 V5 sto hx) λx hx=>jr hx
theorem zxz(w:Wld)(hT:w.G.T.length<=1000000000)(hB:w.B.length<=1000000000)(hU:w.U.length<=1000000000)(st:Store)(R:Ja)(h:R (.agg (zw w)) st):Jb 91 [.agg (zw w)] st R:=by
 refine Ho (Q:=λr=>r=.agg (zw w)) ?_ st R λr hr=>hr▸h
 refine(Va w hT hB hU (λr S=>∃vT vB vU NT NB NU,OwnQ S w vT vB vU NT NB NU/\r=.agg (Fu w vT vB vU)) (λS vT vB vU NT NB NU h=>⟨vT,vB,vU,NT,NB,NU,h,rfl⟩)).frozen ?_
 rintro r S ⟨vT,vB,vU,NT,NB,NU,ho,rfl⟩
 exact⟨_,rfl,λOth M w' v' sto hx=>Vd ho sto hx⟩
theorem rb(hE:EngR eb room k w S)(hs:w.G.T.length<=1000000/\w.B.length<=1000000/\w.U.length<=1000000)(R:Ja)(h:R (.agg (zw w)) S):Jb 51 [ptr eb] S R:=by
 obtain⟨N,fb,rfl,hn,hF⟩:=hE.out
 refine Qa (c:=cfg 8) zb Tryz.func51 ?_
 refine za (o:=(N.sO eb _).obj eb) _ (zd _ _ _) ?_
 refine zxz w (by omega) (by omega) (by omega) _ _ ?_
 exact ret h
end
theorem Gd(e:Int)(st:Store)(R:Ja)(h:R (int e) st):Jb 41 [int e] st R:=by
 refine Qa (c:=cfg 4) zb Tryz.func41 ?_
 exact ret h
theorem zzf{g:Gnd}{n:Int}(h:Bh g n):z7 (Cq g n):=
 ⟨⟨⟨⟨⟨Fcx _,show(0:Int)<=1099511627776 by decide⟩,h.2,⟨Fcx _,show(1:Int)<=1099511627776 by decide⟩⟩,⟨h.1,⟨Faj _,λj hj=>absurd hj (Fbf j),λb hb=>(by cases hb),λj hj=>absurd hj (Fbf j)⟩,Faj _⟩,λb hb=>(by cases hb)⟩,
  λj hj=>absurd hj (Fbf j),λu hu=>(by cases hu)⟩,λu hu=>(by cases hu),λu hu=>(by cases hu)⟩
theorem lk{g:Gnd}{n:Int}(h:Bh g n):playW (Cq g n):=⟨zzf h,λu hu=>(by cases hu)⟩
def H7:Gnd:=⟨1,1,[0]⟩
theorem ct:Bh H7 1:=by
 refine⟨⟨by decide,by decide,by decide,?_⟩,by decide,by decide⟩
 decide
theorem zyl{eb:Nat}{room:Int}{k:Nat}{w:Wld}{S:Store}(hE:EngR eb room k w S)(hw:playW w)(ht:w.tick<1099511627776)(hk:k<=100000000000000000)(R:Ja)
  (h:∀S',EngR eb room (k+4096) (Fz w) S'->R (.tup [lst 1 zz [],int 0]) S'):Jb 47 [ptr eb,.s (.slice none 0 0)] S R:=
 ACalls.le (ys:=[ptr eb,lst 10 qu []]) ⟨Tt,AV.le_nil 10,Tv⟩ (rd hE hw [] (.inl rfl) (λc hc=>by cases hc) (by decide) ht hk R h)
theorem zbq(st:Store)(R:Ja)(h:R (V.bool true) st):Jb 42 [] st R:=by
 refine Ho (Q:=λr=>r=V.bool true) ?_ st R λr hr=>hr▸h
 have hp:=lk ct
 refine Qa (c:=cfg 49) zb Tryz.func42 ?_
 refine⟨by decide,?_⟩
 refine ACalls.le (ys:=[.agg (zo H7),int 1]) ⟨Tt,Tt,Tv⟩ (co H7 (by unfold Gnd.fits;decide) (by decide) 1 (by unfold ya;decide) _ _ (λh=>absurd ct h) (λ_=>?_))
 refine cn (Cq H7 1) (ku hp.1).fits hp.2 (by decide) (by decide) (by decide) 1 (by decide) _ (λh=>absurd hp.1 h) (λ_ eb S hE=>?_)
 refine Gd _ _ _ ?_
 refine Gd _ _ _ ?_
 refine zyl hE hp (by decide) (by decide) _ (λS' hE'=>?_)
 refine Gd _ _ _ ?_
 have hp2:=S6 hp (by decide)
 have ht:=zc6 (Cq H7 1)
 refine rb hE' hp2.sizes _ ?_
 generalize Fz (Cq H7 1)=W at*
 have e:W.tick=1:=ht
 refine⟨_,S',?_,Store.Has.refl _,rfl⟩
 rw[e]
 exact Tt
theorem nh(i j:Int):max2 (max2 (max2 i (0-i)) j) (0-j)=Dc i j:=by
 have e:∀a b:Int,max2 a b=max a b:=λa b=>by
  unfold max2
  by_cases h:b>a
  ·rw[decide_eq_true h];show b=_;omega
  ·rw[decide_eq_false h];show a=_;omega
 rw[e,e,e]
 unfold Dc
 omega
theorem zwn(g:Gnd)(x y k d j i:Int):(Aa g x y k d j i).length<=g.T.length:=by
 have:=Fbz (λt=>Lf g x y k d t&&ui g x y j i t) (List.range g.T.length)
 rw[Fdj]at this
 exact this
theorem D9(l:List Nat):(y9 l).length=l.length:=Faq ..
theorem zwi(g:Gnd)(hg:zn g)(t:Nat)(ht:t<g.T.length)(d k:Int)(hd:0<=d/\d<=300)(hk:1<=k/\k<=7)(st:Store)(R:Ja)(h:R (qa (y9 (Dk g ((t:Int)%g.W) ((t:Int)/g.W) k d))) st):
  Jb 410 [.agg (zo g),int t,int d,int k] st R:=by
 have hm:=qi hg
 have htb:=Cm hg (t:=t) (by omega)
 have hq:=Fx (t:=t) hg.1.1
 have hq2:=Fy (t:=t) hg.1.1
 have hg1:=hg.1
 have hg2:=hg.2.1
 generalize(t:Int)%g.W=x at*
 generalize(t:Int)/g.W=y at*
 refine Qa (c:=cfg 80) zb Tryz.func410 ?_
 refine Qc zb zsw ?_
 refine⟨by omega,?_⟩
 refine⟨by omega,?_⟩
 refine Qd ?_
 refine Qao ?_
 refine Qap ?_
 refine Qd ?_
 refine AWp.loop (σ:=Nat×AV) ⟨λs=>[(2,.av (int d)),(3,.av (int k)),(4,.bx 4 0),(8,.av s.2),(9,.av (int x)),(10,.av (int y)),(11,.av (int ((s.1:Nat)-d)))],λ_=>[(4,zo g)],
  λs st'=>(s.1:Int)<=2*d+1/\App 1 st s.2 (rws zz (y9 (Aa g x y k d ((s.1:Nat)-d) (-d)))) st',λs=>700-s.1⟩ zb ?_ ?_
 ·refine⟨(0,_),Tv,⟨by dsimp only;omega,?_⟩,⟨Tq,Tq,Tq,Tq,?_,?_,?_,Tv⟩,⟨rfl,Tv⟩⟩
  ·dsimp only
   rw[show((0:Nat):Int)-d=-d by omega,zwk]
   exact App.start 1 st
  ·rw[<-hq];exact Tq
  ·rw[<-hq2];exact Tq
  ·dsimp only
   rw[show((0:Nat):Int)-d=0-d by omega];exact Tq
 rintro⟨a,v⟩ st' ⟨ha,hap⟩
 dsimp only at ha hap⊢
 refine bcd (λh1=>?_) (λh1=>?_)
 rotate_left
 ·rw[show(a:Int)-d=d+1 by omega,zwo]at hap
  exact⟨_,st,AV.le_trans hap.le (Tt),hap.has,h⟩
 refine Qd ?_
 have hj:∃j:Int,(a:Int)-d=j:=⟨_,rfl⟩
 obtain⟨j,hj⟩:=hj
 rw[hj]at hap h1⊢
 refine AWp.loop (σ:=Nat×AV) ⟨λs=>[(2,.av (int d)),(3,.av (int k)),(4,.bx 4 0),(8,.av s.2),(9,.av (int x)),(10,.av (int y)),(11,.av (int j)),(12,.av (int ((s.1:Nat)-d)))],λ_=>[(4,zo g)],
  λs st'=>(s.1:Int)<=2*d+1/\App 1 st s.2 (rws zz (y9 (Aa g x y k d j ((s.1:Nat)-d)))) st',λs=>700-s.1⟩ zb ?_ ?_
 ·refine⟨(0,v),Tv,⟨by dsimp only;omega,?_⟩,⟨Tq,Tq,Tq,Tq,Tq,Tq,Tq,?_,Tv⟩,⟨rfl,Tv⟩⟩
  ·dsimp only
   rw[show((0:Nat):Int)-d=-d by omega]
   exact hap
  ·dsimp only
   rw[show((0:Nat):Int)-d=0-d by omega];exact Tq
 rintro⟨b,v2⟩ st2 ⟨hb,hap2⟩
 dsimp only at hb hap2⊢
 have hi:∃i:Int,(b:Int)-d=i:=⟨_,rfl⟩
 obtain⟨i,hi⟩:=hi
 rw[hi]at hap2⊢
 refine bcd (λh2=>?_) (λh2=>?_)
 rotate_left
 ·rw[show i=d+1 by omega,zwl]at hap2
  refine Qd ?_
  refine⟨(a+1,v2),?_,⟨by dsimp only;omega,?_⟩,⟨Tq,Tq,Tq,Tq,Tq,Tq,?_,Tv⟩,⟨rfl,Tv⟩⟩
  ·show 700-(a+1)<700-a
   omega
  ·dsimp only
   rw[show((a+1:Nat):Int)-d=j+1 by omega]
   exact hap2
  ·dsimp only
   rw[show((a+1:Nat):Int)-d=j+1 by omega];exact Tq
 have next:∀v3 st3,App 1 st v3 (rws zz (y9 (Aa g x y k d j (i+1)))) st3->∃s:Nat×AV,700-s.1<700-b/\((s.1:Int)<=2*d+1/\App 1 st s.2 (rws zz (y9 (Aa g x y k d j ((s.1:Nat)-d)))) st3)/\s=(b+1,v3)/\((s.1:Nat):Int)-d=i+1:=λv3 st3 h3=>
  ⟨(b+1,v3),by dsimp only;omega,⟨by dsimp only;omega,by dsimp only;rw[show((b+1:Nat):Int)-d=i+1 by omega];exact h3⟩,rfl,by dsimp only;omega⟩
 have no:¬(Dc i j=d/\i.tmod k=0/\j.tmod k=0/\onG g (x+i) (y+j))->App 1 st v2 (rws zz (y9 (Aa g x y k d j (i+1)))) st2:=λhn=>by
  rw[zwm hg hn];exact hap2
 refine Qd ?_
 refine Qd ?_
 refine z6 (λc1=>?_) (λc1=>?_)
 rotate_left
 ·have c1:¬Dc i j=d:=λe=>c1 ((nh i j).trans e)
  obtain⟨s,f1,f2,rfl,f3⟩:=next v2 st2 (no λhh=>c1 hh.1)
  refine Qd ?_
  exact⟨(b+1,v2),f1,f2,⟨Tq,Tq,Tq,Tq,Tq,Tq,Tq,by dsimp only at f3⊢;rw[f3];exact Tq,Tv⟩,⟨rfl,Tv⟩⟩
 have c1:Dc i j=d:=(nh i j).symm.trans c1
 refine⟨by omega,?_⟩
 refine z6 (λc2=>?_) (λc2=>?_)
 rotate_left
 ·obtain⟨s,f1,f2,rfl,f3⟩:=next v2 st2 (no λhh=>c2 hh.2.1)
  refine Qd ?_
  exact⟨(b+1,v2),f1,f2,⟨Tq,Tq,Tq,Tq,Tq,Tq,Tq,by dsimp only at f3⊢;rw[f3];exact Tq,Tv⟩,⟨rfl,Tv⟩⟩
 refine⟨by omega,?_⟩
 refine z6 (λc3=>?_) (λc3=>?_)
 rotate_left
 ·obtain⟨s,f1,f2,rfl,f3⟩:=next v2 st2 (no λhh=>c3 hh.2.2.1)
  refine Qd ?_
  exact⟨(b+1,v2),f1,f2,⟨Tq,Tq,Tq,Tq,Tq,Tq,Tq,by dsimp only at f3⊢;rw[f3];exact Tq,Tv⟩,⟨rfl,Tv⟩⟩
 refine Qd ?_
 refine Qd ?_
 refine Vg g (x+i) (y+j) _ _ (λz hz=>?_)
 refine zj (λc4=>?_) (λc4=>?_)
 rotate_left
 ·obtain⟨s,f1,f2,rfl,f3⟩:=next v2 st2 (no λhh=>by have:=hz.2 hh.2.2.2;rw[this]at c4;cases c4)
  refine Qd ?_
  exact⟨(b+1,v2),f1,f2,⟨Tq,Tq,Tq,Tq,Tq,Tq,Tq,by dsimp only at f3⊢;rw[f3];exact Tq,Tv⟩,⟨rfl,Tv⟩⟩
 have hon:=hz.1 c4
 obtain⟨e1,e2,_,_⟩:=Br hg hon
 have hon2:=hon
 unfold onG at hon2
 have hpos:0<=g.W*(y+j):=Fay (by omega) (by omega)
 have hrl:=zwn g x y k d j i
 refine Qd ?_
 refine Qd ?_
 refine Qd ?_
 refine Qd ?_
 refine⟨by decide,?_⟩
 refine Gt (ie:=ti2) (rows':=[zz (x+i+g.W*(y+j))]) hap2 ?_ ?_ ⟨?_,?_⟩ (λv3 st3 h3=>?_)
 ·rfl
 ·rfl
 ·simp only[zm,D9,Fa1,ti2];omega
 ·simp only[zm,D9,Fa1];omega
 obtain⟨s,f1,f2,rfl,f3⟩:=next v3 st3 (by
  rw[zwj hg hon c1 c2 c3,mh,<-g9,show y9 [tl g (x+i) (y+j)]=[x+i+g.W*(y+j)] by unfold y9;rw[Fb6,e1];rfl]
  exact h3)
 refine Qd ?_
 exact⟨(b+1,v3),f1,f2,⟨Tq,Tq,Tq,Tq,Tq,Tq,Tq,by dsimp only at f3⊢;rw[f3];exact Tq,Tv⟩,⟨rfl,Tv⟩⟩
section
variable {S:Store} {xw s p:Nat} {w:Wld} {v o0 o1 o2 fv:AV}
theorem pw{l:List Unt}(hr:yg l){id:Int}{i:Nat}{z:Bool}(h:z=true↔∃hi:i<l.length,l[i].id=id)(hat:Ka l id i):(z=true->yw l id=some i)/\(z=false->yw l id=none):=by
 refine⟨λhz=>?_,λhz=>?_⟩
 ·obtain⟨hi,e⟩:=h.1 hz
  exact L7 hr hi e
 ·cases hf:yw l id with
  |none=>rfl
  |some k=>
   obtain⟨hk,e⟩:=Gm hf
   have hno:¬∃hi:i<l.length,l[i].id=id:=λhh=>by rw[h.2 hh]at hz;cases hz
   by_cases h1:k<i
   ·have:=hat.2.1 k hk h1;omega
   ·have hil:i<l.length:=by omega
    have:=hat.2.2 i hil (Fak _)
    by_cases h2:i<k
    ·have:=Nw hr h2 hk;omega
    ·have e3:k=i:=by omega
     subst e3
     exact absurd ⟨hk,e⟩ hno
structure AtW(S:Store)(xw s p:Nat)(w:Wld)(v o0 o1 o2:AV)(c:Cmd)(fv:AV):Prop where
 hx:S.obj xw=some (.cells (wkC s c fv))
 hs:S.obj s=some (.cells (svC w v o0 o1 o2 p))
 hr:RowsQ 10 zk S v w.U
theorem bq{c:Cmd}(ha:AtW S xw s p w v o0 o1 o2 c fv)(hr:yg w.U)(hU:w.U.length<=1000000)(id:Int)(R:Ja)(h:R (.tup [.agg (zk (uAt w id)),int (xj w c.P id)]) S):Jb 376 [ptr xw,int id] S R:=by
 obtain⟨hx,hs,hv⟩:=ha
 obtain⟨oa,cap,e,hget⟩:=hv.form
 subst e
 refine Qa (c:=cfg 52) zb Tryz.func376 ?_
 refine Qaq ?_
 refine Qaq ?_
 refine P8 hv (by omega) hr id _ (λi hi z hz=>?_)
 obtain⟨g1,g2⟩:=pw hr hz hi
 cases z with
 |false=>
  obtain⟨e1,e2⟩:=br (w:=w) (P:=c.P) (g2 rfl)
  rw[e1,e2]at h
  exact ret h
 |true=>
  obtain⟨hil,hid⟩:=hz.1 rfl
  obtain⟨_,_,e2⟩:=M7 (w:=w) (g1 rfl)
  rw[e2,uo (P:=c.P) (g1 rfl) hil]at h
  refine Qaq ?_
  refine Qaq ?_
  obtain⟨b,J,rfl,hob⟩:=hget i hil
  refine⟨i,rfl,hil,?_⟩
  refine Qaq ?_
  refine xg (i:=ti36) (row:=zk w.U[i]) rfl rfl (Iu w9 hil) ?_
  refine Qc zb zsy ?_
  refine Qaq ?_
  refine Qao ?_
  refine qr (λc1=>?_) (λc1=>?_)
  ·rw[if_neg c1]at h
   exact ret h
  rw[if_pos c1]at h
  refine qr (λc2=>?_) (λc2=>?_)
  ·rw[if_neg c2]at h
   exact ret h
  ·rw[if_pos c2]at h
   exact ret h
theorem all_nil{c:Cmd}(ha:AtW S xw s p w v o0 o1 o2 c fv)(hr:yg w.U)(hU:w.U.length<=1000000)(hc:c.U.length<=1000000)(R:Ja)
  (h:jd (xj w c.P) c.U=0->R (.tup [lst 10 zk (c.U.map (uAt w)),int 0]) S) (h':jd (xj w c.P) c.U≠0->R (.tup [.s (.slice none 0 0),int (jd (xj w c.P) c.U)]) S):Jb 312 [ptr xw,.s .nilFunc] S R:=by
 refine Qa (c:=cfg 44) zb Tryz.func312 ?_
 refine za (o:=S.obj xw) _ ha.hx ?_
 refine AWp.loop (σ:=Nat×AV) ⟨λx=>[(0,.av (ptr xw)),(1,.av (.s .nilFunc)),(4,.av x.2),(14,.av (qa c.U)),(15,.av (int (c.U.length:Nat))),(16,.av (int (x.1:Nat)))],λ_=>[],
  λx st'=>x.1<=c.U.length/\App 10 S x.2 (rws zk ((c.U.take x.1).map (uAt w))) st'/\∀j,(hj:j<c.U.length)->j<x.1->xj w c.P c.U[j]=0,λx=>c.U.length-x.1⟩ zb ?_ ?_
 ·refine⟨(0,_),Tv,⟨Faj _,App.start 10 S,λj _ hj=>by omega⟩,⟨Tq,Tq,Tq,Tq,?_,Tq,Tv⟩,Tv⟩
  rw[<-zm (f:=zz) c.U];exact Tq
 rintro⟨i,v2⟩ st' ⟨hi,hap,hall⟩
 dsimp only at hi hap hall⊢
 refine bcd (λh1=>?_) (λh1=>?_)
 rotate_left
 ·have:i=c.U.length:=by omega
  subst this
  rw[Faz]at hap
  exact⟨_,_,AV.le_tupL (xs:=[v2,int 0]) (ys:=[lst 10 zk (c.U.map (uAt w)),int 0]) ⟨AV.le_trans hap.le (Tt),Tt,Tv⟩,hap.has,h (ce λj hj=>hall j hj hj)⟩
 have hlt:i<c.U.length:=by omega
 have ha':AtW st' xw s p w v o0 o1 o2 c fv:=⟨by rw[hap.obj];exact ha.hx,by rw[hap.obj];exact ha.hs,ha.hr.sub λ_ _ _ _=>by rw[hap.obj]⟩
 refine⟨i,rfl,za _ (zr hlt) ?_⟩
 refine bq ha' hr hU c.U[i] _ ?_
 refine z6 (λc1=>?_) (λc1=>?_)
 rotate_left
 ·refine qr (λc2=>?_) (λc2=>absurd c2 c1)
  have e:=cd hlt hall c1
  have:=h' (by rw[e];exact c1)
  rw[e]at this
  exact⟨_,_,Tt,hap.has,this⟩
 refine qr (λc2=>absurd c1 c2) (λc2=>?_)
 refine⟨by decide,?_⟩
 refine Gt (ie:=ti36) (rows':=[zk (uAt w c.U[i])]) hap ?_ ?_ ⟨?_,?_⟩ (λv3 st3 ha3=>?_)
 ·rfl
 ·rfl
 ·simp only[zm,Faq,Fao,Fa1,ti36];omega
 ·simp only[zm,Faq,Fao,Fa1];omega
 refine Qd ?_
 refine⟨(i+1,v3),?_,⟨by dsimp only;omega,?_,λj hj hji=>?_⟩,Qal,Tv⟩
 ·show c.U.length-(i+1)<c.U.length-i
  omega
 ·dsimp only
  rw[Fae hlt,Fbe]
  unfold rws at ha3⊢
  rw[Fbe]
  exact ha3
 ·by_cases e:j=i
  ·subst e;exact c1
  ·exact hall j hj (by dsimp only at hji;omega)
end
theorem zam{F G:Store}{xw s p:Nat}{w:Wld}{v:AV}{L:List Ent}{o0 o1 o2:AV}{c:Cmd}{fv:AV}(hW:Work F G xw s p w v L o0 o1 o2 c fv)(hm:MayF w)(hn:∀u∈w.U,u.pos.ok)(hc:c.U.length<=64)(R:Ja)
  (h:∀S',stE w c≠0->R (int (stE w c)) S') (h0:stE w c=0->∀S',Bn S' xw s c fv (stW w c)->R (int 0) S'):Jb 227 [ptr xw] (F.un (svS G s w v o0 o1 o2 p)) R:=by
 have hU:=hm.hU
 have hLl:=hW.hL
 refine Qa (c:=cfg 27) zb Tryz.func227 ?_
 refine all_nil ⟨hW.x,hW.s,hW.r⟩ hm.hr (by omega) (by omega) _ (λhe=>?_) (λhe=>?_)
 rotate_left
 ·refine AWp.loop (σ:=Unit) ⟨λx=>[(4,.av (int (stE w c))),(13,.av (int 0)),(14,.av (int 0))],λ_=>[],λx st'=>True,λx=>0⟩ zb ?_ ?_
  ·exact⟨(),Tv,Tv,Qal,Tv⟩
  rintro⟨⟩ st' _
  exact ret (h _ he)
 have hzero:=H4 he
 have hhe:stE w c=0:=he
 refine AWp.loop (σ:=Nat×Store×Store×List Ent) ⟨λx=>[(0,.av (ptr xw)),(4,.av (int 0)),(12,.av (lst 10 zk (c.U.map (uAt w)))),(13,.av (int (c.U.length:Nat))),(14,.av (int (x.1:Nat)))],λ_=>[],
  λx st'=>x.1<=c.U.length/\st'=x.2.1.un (svS x.2.2.1 s {w with U:=qk (c.U.take x.1) Di w.U} v o0 o1 o2 p)/\StandR x.2.1 x.2.2.1 s p {w with U:=qk (c.U.take x.1) Di w.U} v x.2.2.2 o0 o1 o2/\(∀q,ja v q->x.2.2.1.obj q=G.obj q)/\x.2.2.2.length<=L.length+x.1/\∀e∈x.2.2.2,e.2.ok,λx=>c.U.length-x.1⟩ zb ?_ ?_
 ·refine⟨(0,F,G,L),Tv,⟨Faj _,?_,?_,λ_ _=>rfl,by dsimp only;omega,Hg hW.hF hn⟩,⟨Tq,Tq,Tq,?_,Tq,Tv⟩,Tv⟩
  ·dsimp only
   rw[Fch,Nj]
  ·dsimp only
   rw[Fch,Nj]
   exact hW.S
  ·have e:(c.U.length:Int)=((rws zk (c.U.map (uAt w))).length:Int):=by rw[zm,Faq]
   rw[e];exact Tq
 rintro⟨k,F1,G1,L1⟩ st' ⟨hk,rfl,hS,hG,hL,hok⟩
 dsimp only at hk hS hG hL hok⊢
 have hx:(F1.un (svS G1 s {w with U:=qk (c.U.take k) Di w.U} v o0 o1 o2 p)).obj xw=some (.cells (wkC s c fv)):=zf (by
  show(G1.sO s _).obj xw=_
  rw[zg hW.ne,hG xw hW.ox]
  exact hW.hx)
 refine bcd (λh1=>?_) (λh1=>?_)
 rotate_left
 ·have:k=c.U.length:=by omega
  subst this
  rw[Faz]at hS hx⊢
  exact ret (h0 hhe _ ⟨v,o0,o1,o2,p,hx,zf (wg _ _ _ _ _ _ _ _),(F5 hS.hs hS.hu).un⟩)
 have hlt:k<c.U.length:=by omega
 obtain⟨i,hi,hf,hid,hu,how,hin⟩:=Gs (hzero c.U[k] (Faa hlt))
 have hlm:k<(c.U.map (uAt w)).length:=by rw[Faq];exact hlt
 refine⟨k,rfl,za _ (zr hlm) ?_⟩
 have hgm:(c.U.map (uAt w))[k]=w.U[i]:=by rw[Fbx,hu]
 rw[hgm]
 refine Qc zb zt1 ?_
 refine za (o:=(F1.un (svS G1 s _ v o0 o1 o2 p)).obj xw) _ hx ?_
 refine⟨Sr w.U[i] _ _ ⟨(by repeat(first|exact Tv|refine⟨rfl,?_⟩|refine⟨za (o:=(F1.un (svS G1 s _ v o0 o1 o2 p)).obj xw) _ hx rfl,?_⟩)),?_⟩,Tv⟩
 have hi2:i<(qk (c.U.take k) Di w.U).length:=by rw[Be];exact hi
 refine⟨N7 hS hW.os (Sj (g:=Di) (λ_=>rfl) hm.hr) (by rw[Be];omega) (by omega) hok hi2 (Di w.U[i]) (Nk (g:=Di) (λ_=>rfl) hi) (hn w.U[i] (Faa hi)) _ (λF2 G2 L2 g1 g2 g3 g4=>⟨Tv,?_⟩),Tv⟩
 have e5:c.U.take k++[w.U[i].id]=c.U.take (k+1):=by rw[Fae hlt,hid]
 dsimp only at g1⊢
 rw[gj hm.hr hi,e5]at g1⊢
 refine Qd ?_
 refine⟨(k+1,F2,G2,L2),?_,⟨by dsimp only;omega,rfl,g1,λq hq=>(g2 q hq).trans (hG q hq),by dsimp only;omega,g4⟩,Qal,Tv⟩
 show c.U.length-(k+1)<c.U.length-k
 omega
section
variable {S:Store} {v o0 o1 o2 fv:AV} {xw s p:Nat} {w:Wld}
theorem oe{U:List Unt}(hv:RowsQ 10 zk S v U)(hl:U.length<=1000000)(id:Int)(R:Ja)(h:R (qa (zv U id)) S):Jb 66 [v,int id] S R:=by
 obtain⟨oa,cap,e,hget⟩:=hv.form
 subst e
 refine Qa (c:=cfg 24) zb Tryz.func66 ?_
 refine AWp.loop (σ:=Nat×AV) ⟨λx=>[(1,.av (int id)),(4,.av x.2),(7,.av (.s (.slice oa U.length cap))),(8,.av (int (U.length:Nat))),(9,.av (int (x.1:Nat)))],λ_=>[],
  λx st'=>x.1<=U.length/\App 1 S x.2 (rws zz (zv (U.take x.1) id)) st',λx=>U.length-x.1⟩ zb ?_ ?_
 ·exact⟨(0,_),Tv,⟨Faj _,App.start 1 S⟩,⟨Tq,Tq,Tq,Tq,Tq,Tv⟩,Tv⟩
 rintro⟨i,v2⟩ st' ⟨hi,hap⟩
 dsimp only at hi hap⊢
 refine bcd (λh1=>?_) (λh1=>?_)
 rotate_left
 ·have:i=U.length:=by omega
  subst this
  rw[Faz]at hap
  exact⟨_,_,hap.le,hap.has,h⟩
 have hlt:i<U.length:=by omega
 have hs:=og hlt id
 have hl1:(zv (U.take i) id).length<=1000000:=by
  have h1:=O4 (l:=U) i id
  have h2:(zv U id).length<=U.length:=by unfold zv;rw[Faq];exact Fbz _ _
  omega
 obtain⟨b,J,e2,hob⟩:=hget i hlt
 have hob:st'.obj b=some (.cells ((rws zk U).flatten++J)):=by rw[hap.obj];exact hob
 subst e2
 refine⟨i,rfl,hlt,?_⟩
 refine Qaq ?_
 refine xg (i:=ti36) (row:=zk U[i]) rfl rfl (Iu w9 hlt) ?_
 refine z6 (λc1=>?_) (λc1=>?_)
 ·rw[if_pos c1]at hs
  refine⟨by decide,?_⟩
  refine Gt (ie:=ti2) (rows':=[zz U[i].id]) hap ?_ ?_ ⟨?_,?_⟩ (λv3 st3 ha3=>?_)
  ·rfl
  ·rfl
  ·simp only[zm,Fa1,ti2];omega
  ·simp only[zm,Fa1];omega
  refine Qd ?_
  refine⟨(i+1,v3),?_,⟨by dsimp only;omega,?_⟩,Qal,Tv⟩
  ·show U.length-(i+1)<U.length-i
   omega
  ·dsimp only
   rw[hs]
   unfold rws at ha3⊢
   rw[Fbe]
   exact ha3
 ·rw[if_neg c1,Fbp]at hs
  refine Qd ?_
  refine⟨(i+1,v2),?_,⟨by dsimp only;omega,?_⟩,Qal,Tv⟩
  ·show U.length-(i+1)<U.length-i
   omega
  ·dsimp only
   rw[hs]
   exact hap
theorem yg2{c:Cmd}(ha:AtW S xw s p w v o0 o1 o2 c fv)(hr:yg w.U)(hU:w.U.length<=1000000)(hc:c.U.length<=1000000)(fn:FuncId)(cap:List AV)(more:Unt->Int)
  (hf:∀id,xj w c.P id=0->∀st',(∀q,st'.obj q=S.obj q)->∀R:AV->Store->Prop,R (int (more (uAt w id))) st'->Jb fn ([.agg (zk (uAt w id))]++cap) st' R) (E:Int->Int) (hE:∀id,E id=if xj w c.P id=0 then more (uAt w id)else xj w c.P id) (R:Ja)
  (h:jd E c.U=0->R (.tup [lst 10 zk (c.U.map (uAt w)),int 0]) S) (h':jd E c.U≠0->R (.tup [.s (.slice none 0 0),int (jd E c.U)]) S):Jb 312 [ptr xw,.clos fn cap] S R:=by
 refine Qa (c:=cfg 44) zb Tryz.func312 ?_
 refine za (o:=S.obj xw) _ ha.hx ?_
 refine AWp.loop (σ:=Nat×AV) ⟨λx=>[(0,.av (ptr xw)),(1,.av (.clos fn cap)),(4,.av x.2),(14,.av (qa c.U)),(15,.av (int (c.U.length:Nat))),(16,.av (int (x.1:Nat)))],λ_=>[],
  λx st'=>x.1<=c.U.length/\App 10 S x.2 (rws zk ((c.U.take x.1).map (uAt w))) st'/\∀j,(hj:j<c.U.length)->j<x.1->E c.U[j]=0,λx=>c.U.length-x.1⟩ zb ?_ ?_
 ·refine⟨(0,_),Tv,⟨Faj _,App.start 10 S,λj _ hj=>by omega⟩,⟨Tq,Tq,Tq,Tq,?_,Tq,Tv⟩,Tv⟩
  rw[<-zm (f:=zz) c.U];exact Tq
 rintro⟨i,v2⟩ st' ⟨hi,hap,hall⟩
 dsimp only at hi hap hall⊢
 refine bcd (λh1=>?_) (λh1=>?_)
 rotate_left
 ·have:i=c.U.length:=by omega
  subst this
  rw[Faz]at hap
  exact⟨_,_,AV.le_tupL (xs:=[v2,int 0]) (ys:=[lst 10 zk (c.U.map (uAt w)),int 0]) ⟨AV.le_trans hap.le (Tt),Tt,Tv⟩,hap.has,h (ce λj hj=>hall j hj hj)⟩
 have hlt:i<c.U.length:=by omega
 have hEi:=hE c.U[i]
 have ha':AtW st' xw s p w v o0 o1 o2 c fv:=⟨by rw[hap.obj];exact ha.hx,by rw[hap.obj];exact ha.hs,ha.hr.sub λ_ _ _ _=>by rw[hap.obj]⟩
 have bad:E c.U[i]≠0->R (.tup [.s (.slice none 0 0),int (E c.U[i])]) S:=λhne=>by
  have e:=cd hlt hall hne
  have:=h' (by rw[e];exact hne)
  rw[e]at this
  exact this
 refine⟨i,rfl,za _ (zr hlt) ?_⟩
 refine bq ha' hr hU c.U[i] _ ?_
 refine z6 (λc1=>?_) (λc1=>?_)
 rotate_left
 ·rw[if_neg c1]at hEi
  rw[hEi]at bad
  refine qr (λc2=>?_) (λc2=>absurd c2 c1)
  exact⟨_,_,Tt,hap.has,bad c1⟩
 rw[if_pos c1]at hEi
 refine hf c.U[i] c1 st' (λq=>by rw[hap.obj]) _ ?_
 rw[hEi]at bad
 refine qr (λc2=>?_) (λc2=>?_)
 ·exact⟨_,_,Tt,hap.has,bad c2⟩
 rw[c2]at hEi
 refine⟨by decide,?_⟩
 refine Gt (ie:=ti36) (rows':=[zk (uAt w c.U[i])]) hap ?_ ?_ ⟨?_,?_⟩ (λv3 st3 ha3=>?_)
 ·rfl
 ·rfl
 ·simp only[zm,Faq,Fao,Fa1,ti36];omega
 ·simp only[zm,Faq,Fao,Fa1];omega
 refine Qd ?_
 refine⟨(i+1,v3),?_,⟨by dsimp only;omega,?_,λj hj hji=>?_⟩,Qal,Tv⟩
 ·show c.U.length-(i+1)<c.U.length-i
  omega
 ·dsimp only
  rw[Fae hlt,Fbe]
  unfold rws at ha3⊢
  rw[Fbe]
  exact ha3
 ·by_cases e:j=i
  ·subst e;exact hEi
  ·exact hall j hj (by dsimp only at hji;omega)
theorem th{c:Cmd}(ha:AtW S xw s p w v o0 o1 o2 c fv)(hr:yg w.U)(hU:w.U.length<=1000000)(R:Ja)(h:R (.tup [.agg (zk (uAt w c.N)),int (jv w c.P c.N)]) S):Jb 318 [ptr xw] S R:=by
 unfold jv at h
 refine Qa (c:=cfg 27) zb Tryz.func318 ?_
 refine za (o:=S.obj xw) _ ha.hx ?_
 refine bq ha hr hU c.N _ ?_
 refine z6 (λc1=>?_) (λc1=>?_)
 ·rw[if_pos c1]at h
  refine xq _ _ _ ?_
  refine z6 (λc2=>?_) (λc2=>?_)
  ·rw[if_pos c2]at h
   exact ret h
  ·rw[if_neg c2]at h
   rw[<-c1]at h
   exact ret h
 ·rw[if_neg c1]at h
  exact ret h
theorem zzw(x u:Unt)(hx:x.pos.ok)(hu:u.pos.ok)(pb:Nat)(st:Store)(hb:st.obj pb=some (.cells (zk x)))(R:Ja)(h:R (int (I5 x u)) st):Jb 319 ([.agg (zk u)]++[ptr pb]) st R:=by
 unfold I5 at h
 refine Qa (c:=cfg 16) zb Tryz.func319 ?_
 refine xq _ _ _ ?_
 refine bcd (λc1=>?_) (λc1=>?_)
 ·rw[if_pos c1]at h
  exact ret h
 rw[if_neg c1]at h
 refine Qaq ?_
 refine p7 u.pos x.pos hu hx _ _ ?_
 refine bcd (λc2=>?_) (λc2=>?_)
 ·rw[if_pos c2]at h
  exact ret h
 ·rw[if_neg c2]at h
  exact ret h
end
section
variable {F G:Store} {xw s p:Nat} {w:Wld} {v o0 o1 o2 fv:AV}
theorem Work.add{L:List Ent}{c:Cmd}(h:Work F G xw s p w v L o0 o1 o2 c fv){pb:Nat}(hpb:Fresh (F.un (svS G s w v o0 o1 o2 p)) pb)(z:AObj):
  Work F (G.sO pb z) xw s p w v L o0 o1 o2 c fv/\(F.un (svS G s w v o0 o1 o2 p)).sO pb z=F.un (svS (G.sO pb z) s w v o0 o1 o2 p)/\ja v pb/\pb≠s:=by
 have hx1:¬F.has pb/\¬(svS G s w v o0 o1 o2 p).has pb:=by
  have:=fresh_iff.1 hpb
  exact⟨λh=>this (un_has.2 (.inl h)),λh=>this (un_has.2 (.inr h))⟩
 have hne:pb≠s:=λe=>hx1.2 (svS_has.2 (.inl e))
 have hxN:¬G.has pb:=λh=>hx1.2 (svS_has.2 (.inr h))
 have hxw:pb≠xw:=λe=>hxN (by rw[e];exact jb h.hx)
 have off:=Hh h.S.hu (ww hxN).1
 refine⟨⟨⟨h.S.hc,λi h1 h2=>?_,?_,h.S.hu.set off _,h.S.h0,h.S.h1,h.S.h2⟩,?_,h.ox,h.os,h.hL,h.hF⟩,?_,off,hne⟩
 ·rcases svS_has.1 h2 with rfl|h2
  ·exact h.S.hd _ h1 (svS_has.2 (.inl rfl))
  ·by_cases hi:i=pb
   ·subst hi;exact hx1.1 h1
   ·refine h.S.hd _ h1 (svS_has.2 (.inr ?_))
    rcases h2 with h2|h2
    ·rw[zg hi]at h2;exact .inl h2
    ·exact .inr h2
 ·rw[zg (Ne.symm hne)];exact h.S.hs
 ·rw[zg (Ne.symm hxw)];exact h.hx
 ·rw[zt]
  unfold svS
  rw[D5 hne]
theorem zz5{c:Cmd}(h:jv w c.P c.N≠0):ldE w c=jv w c.P c.N:=by unfold ldE;rw[if_neg h]
theorem zz4{c:Cmd}(h:jv w c.P c.N=0)(h2:jd (ldA w c.P c.N) c.U≠0):ldE w c=jd (ldA w c.P c.N) c.U:=by unfold ldE;rw[if_pos h,if_neg h2]
theorem zz3{c:Cmd}(h:jv w c.P c.N=0)(h2:jd (ldA w c.P c.N) c.U=0):ldE w c=if xi (uAt w c.N).kind<((zv w.U c.N).length:Int)+(c.U.length:Int)then 4 else 0:=by unfold ldE;rw[if_pos h,if_pos h2]
theorem za1{L:List Ent}{c:Cmd}(hW:Work F G xw s p w v L o0 o1 o2 c fv)(hmp:z7 w)(hn:∀u∈w.U,u.pos.ok)(hc:c.U.length<=64)(hN:1<=c.N)(R:Ja)
  (h:∀S',ldE w c≠0->R (int (ldE w c)) S') (h0:ldE w c=0->∀S',Bn S' xw s c fv (ldW w c)->R (int 0) S'):Jb 230 [ptr xw] (F.un (svS G s w v o0 o1 o2 p)) R:=by
 have hm:=ku hmp
 have hU:=hm.hU
 have hLl:=hW.hL
 obtain⟨oa,cap,e,hget⟩:=hW.S.hu.form
 subst e
 refine Qa (c:=cfg 65 [3] []) zb Tryz.func230 ?_
 refine th ⟨hW.x,hW.s,hW.r⟩ hm.hr (by omega) _ ?_
 intro pb hpb
 refine wt (i:=ti36) (v:=.agg (zk (uAt w c.N))) (xs:=zk (uAt w c.N)) (b:=pb) (o:=0) (l:=_) rfl rfl rfl (zd _ _ _) (show 0+10<=10 by decide) ?_
 obtain⟨hW1,e1,off1,hps⟩:=hW.add hpb (.cells (zk (uAt w c.N)))
 have e3:∀l:List AV,l.length=10->zu l 0 (zk (uAt w c.N))=zk (uAt w c.N):=λl hl=>by
  unfold zu
  rw[Fch,Fc0,Fbd,w9,Fc1 (by omega),Fbp]
 rw[yq,e3 _ (by simp[ti36]),e1]
 have hx:=hW1.x (F':=F) (q0:=o0) (q1:=o1) (q2:=o2)
 have hs:=hW1.s (F':=F) (q0:=o0) (q1:=o1) (q2:=o2)
 have hr:=hW1.r (F':=F) (q0:=o0) (q1:=o1) (q2:=o2)
 have hgb:(G.sO pb (.cells (zk (uAt w c.N)))).obj pb=some (.cells (zk (uAt w c.N))):=zd _ _ _
 generalize G.sO pb (.cells (zk (uAt w c.N)))=G0 at*
 have hb:(F.un (svS G0 s w (.s (.slice oa w.U.length cap)) o0 o1 o2 p)).obj pb=some (.cells (zk (uAt w c.N))):=zf (by
  show(G0.sO s _).obj pb=_
  rw[zg hps];exact hgb)
 refine qr (λc1=>?_) (λc1=>?_)
 ·have:=zz5 c1
  rw[this]at h
  exact ret (h _ c1)
 obtain⟨hask,hroom⟩:=bg c1
 obtain⟨ix,hix,hfx,hidx,hux,_,_⟩:=Gs hask
 have hrm:=yau hmp hix (by omega)
 rw[hidx]at hrm
 rw[hux]at hroom hb
 have hkb:=I8 w.U[ix].kind
 have hin:(zv w.U c.N).length<=w.U.length:=by unfold zv;rw[Faq];exact Fbz _ _
 rw[hux]
 refine Qc zb ztu ?_
 refine za (o:=(F.un (svS G0 s w _ o0 o1 o2 p)).obj pb) _ hb ?_
 refine za (o:=(F.un (svS G0 s w _ o0 o1 o2 p)).obj xw) _ hx ?_
 refine za (o:=(F.un (svS G0 s w _ o0 o1 o2 p)).obj s) _ hs ?_
 refine za (o:=(F.un (svS G0 s w _ o0 o1 o2 p)).obj pb) _ hb ?_
 refine⟨xq _ _ _ ⟨(by repeat(first|exact Tv|refine⟨rfl,?_⟩|refine⟨za (o:=(F.un (svS G0 s w _ o0 o1 o2 p)).obj pb) _ hb rfl,?_⟩|refine⟨za (o:=(F.un (svS G0 s w _ o0 o1 o2 p)).obj xw) _ hx rfl,?_⟩|refine⟨za (o:=(F.un (svS G0 s w _ o0 o1 o2 p)).obj s) _ hs rfl,?_⟩)),?_⟩,Tv⟩
 rw[hidx]
 refine⟨oe hr (by omega) c.N _ ⟨Qe,?_⟩,Tv⟩
 refine ze (by rw[zm];omega) ?_
 refine Qap ?_
 rw[zm]
 refine yg2 ⟨hx,hs,hr⟩ hm.hr (by omega) (by omega) _ _ (I5 w.U[ix]) (λid hid st' ho R h=>zzw w.U[ix] (uAt w id) (hn _ (Faa hix)) (d9 hn id) pb st' (by rw[ho];exact hb) R h) (ldA w c.P c.N) (λid=>by unfold ldA;rw[hux]) _ (λhe=>?_) (λhe=>?_)
 rotate_left
 ·have e5:=zz4 c1 he
  refine bcd (λh1=>absurd h1 (by omega)) (λ_=>?_)
  refine AWp.loop (σ:=Unit) ⟨λx=>[(4,.av (int (ldE w c))),(45,.av (int 0)),(46,.av (int 0))],λ_=>[],λx st'=>True,λx=>0⟩ zb ?_ ?_
  ·refine⟨(),Tv,Tv,⟨?_,Tq,Tq,Tv⟩,Tv⟩
   rw[e5];exact Tq
  rintro⟨⟩ st' _
  exact ret (h _ (by rw[e5];exact he))
 have hzero:=H4 he
 have e5:=zz3 c1 he
 rw[hux]at e5
 refine bcd (λh1=>?_) (λh1=>?_)
 ·rw[zm,Faq]at h1
  rw[if_pos (by omega)]at e5
  rw[e5]at h
  exact ret (h _ (by decide))
 rw[zm,Faq]at h1
 rw[if_neg (by omega)]at e5
 refine AWp.loop (σ:=Nat×Store×Store×List Ent) ⟨λx=>[(0,.av (ptr xw)),(3,.av (ptr pb)),(4,.av (int 0)),(44,.av (lst 10 zk (c.U.map (uAt w)))),(45,.av (int (c.U.length:Nat))),(46,.av (int (x.1:Nat)))],λ_=>[],
  λx st'=>x.1<=c.U.length/\st'=x.2.1.un (svS x.2.2.1 s {w with U:=qk (c.U.take x.1) (ldU c.N) w.U} (.s (.slice oa w.U.length cap)) o0 o1 o2 p)/\StandR x.2.1 x.2.2.1 s p {w with U:=qk (c.U.take x.1) (ldU c.N) w.U} (.s (.slice oa w.U.length cap)) x.2.2.2 o0 o1 o2/\(∀q,ja (.s (.slice oa w.U.length cap)) q->x.2.2.1.obj q=G0.obj q)/\x.2.2.2.length<=L.length+x.1/\∀e∈x.2.2.2,e.2.ok,λx=>c.U.length-x.1⟩ zb ?_ ?_
 ·refine⟨(0,F,G0,L),Tv,⟨Faj _,?_,?_,λ_ _=>rfl,by dsimp only;omega,Hg hW.hF hn⟩,⟨Tq,Tq,Tq,Tq,?_,Tq,Tv⟩,Tv⟩
  ·dsimp only
   rw[Fch,Nj]
  ·dsimp only
   rw[Fch,Nj]
   exact hW1.S
  ·have e:(c.U.length:Int)=((rws zk (c.U.map (uAt w))).length:Int):=by rw[zm,Faq]
   rw[e];exact Tq
 rintro⟨k,F1,G1,L1⟩ st' ⟨hk,rfl,hS,hG,hL,hok⟩
 dsimp only at hk hS hG hL hok⊢
 have hx2:(F1.un (svS G1 s {w with U:=qk (c.U.take k) (ldU c.N) w.U} (.s (.slice oa w.U.length cap)) o0 o1 o2 p)).obj xw=some (.cells (wkC s c fv)):=zf (by
  show(G1.sO s _).obj xw=_
  rw[zg hW1.ne,hG xw hW1.ox]
  exact hW1.hx)
 have hb2:(F1.un (svS G1 s {w with U:=qk (c.U.take k) (ldU c.N) w.U} (.s (.slice oa w.U.length cap)) o0 o1 o2 p)).obj pb=some (.cells (zk w.U[ix])):=zf (by
  show(G1.sO s _).obj pb=_
  rw[zg hps,hG pb off1,hgb,hux])
 refine bcd (λh1=>?_) (λh1=>?_)
 rotate_left
 ·have:k=c.U.length:=by omega
  subst this
  rw[Faz]at hS hx2⊢
  exact ret (h0 e5 _ ⟨_,o0,o1,o2,p,hx2,zf (wg _ _ _ _ _ _ _ _),(F5 hS.hs hS.hu).un⟩)
 have hlt:k<c.U.length:=by omega
 obtain⟨i,hi,hf,hid,hu,how,hin⟩:=Gs (nu (hzero c.U[k] (Faa hlt))).1
 have hlm:k<(c.U.map (uAt w)).length:=by rw[Faq];exact hlt
 refine⟨k,rfl,za _ (zr hlm) ?_⟩
 have hgm:(c.U.map (uAt w))[k]=w.U[i]:=by rw[Fbx,hu]
 rw[hgm]
 refine Sr w.U[i] _ _ ?_
 refine za (o:=(F1.un (svS G1 s _ _ o0 o1 o2 p)).obj pb) _ hb2 ?_
 refine Qc zb ztv ?_
 refine za (o:=(F1.un (svS G1 s _ _ o0 o1 o2 p)).obj xw) _ hx2 ?_
 have hi2:i<(qk (c.U.take k) (ldU c.N) w.U).length:=by rw[Be];exact hi
 refine⟨N7 hS hW1.os (Sj (g:=ldU c.N) (λ_=>rfl) hm.hr) (by rw[Be];omega) (by omega) hok hi2 (ldU w.U[ix].id w.U[i]) (Nk (g:=ldU c.N) (λ_=>rfl) hi) (show Vc.ok (0,0) by unfold Vc.ok ya;decide) _ (λF2 G2 L2 g1 g2 g3 g4=>⟨Tv,?_⟩),Tv⟩
 have e6:c.U.take k++[w.U[i].id]=c.U.take (k+1):=by rw[Fae hlt,hid]
 dsimp only at g1⊢
 rw[hidx,gj hm.hr hi,e6]at g1⊢
 refine Qd ?_
 refine⟨(k+1,F2,G2,L2),?_,⟨by dsimp only;omega,rfl,g1,λq hq=>(g2 q hq).trans (hG q hq),by dsimp only;omega,g4⟩,Qal,Tv⟩
 show c.U.length-(k+1)<c.U.length-k
 omega
end
end Go.Proofs
namespace Go.Proofs
open Go Go.V
set_option maxRecDepth 20000
set_option maxHeartbeats 4000000
theorem max2_eq(a b:Int):max2 a b=max a b:=by
 unfold max2
 by_cases h:b>a
 ·rw[decide_eq_true h];show b=_;omega
 ·rw[decide_eq_false h];show a=_;omega
theorem yai{f:FuncId}{xs:List AV}{l:List Int}(h0:Jb f xs Store.empty λr S=>RowsQ 1 zz S r l)(st:Store)(R:Ja)(h:R (qa l) st):Jb f xs st R:=by
 have h1:=h0.frozen (R:=λr=>r=qa l) (by
  rintro r S hv
  exact⟨_,rfl,λOth M w' v' sto hx=>RowsQ.borrow (f:=zz) (k:=1) (λ_=>rfl) (λx y hy=>by simp[zz]at hy;exact⟨_,hy,rfl⟩) hv sto hx⟩)
 have h2:Jb f xs Store.empty λr S=>r=qa l/\S=Store.empty:=
  h1.post (Store.Le.refl _) λr st' hr=>⟨r,Store.empty,AV.le_refl r,(Pc st').toLe,hr,rfl⟩
 rw[<-vm st]
 exact ACalls.frame (Kn st) h2 λr S ⟨e,e2⟩ hd=>by subst e e2;rw[vm];exact h
theorem zvx{α:Type}{k:Nat}{f:α->List AV}(S:Store):RowsQ k f S (.s (.slice none 0 0)) ([]:List α):=.inl (.inl ⟨rfl,rfl⟩)
theorem yhh(g:Gnd)(hg:zn g)(f:Nat->Bool)(size:Int)(hs:0<=size/\size<=3)(t:Nat)(ht:t<g.T.length)(n:Nat)(hn:n<=1000):
  Jb 377 [.agg (zo g),lst 1 vd (blL g.T.length f),int size,int t,int n] Store.empty λr S=>RowsQ 1 zz S r (y9 (Im g f size (t:Int) n)):=by
 have hm:=qi hg
 have hg1:=hg.1
 have hg2:=hg.2.1
 have hdone:=λ(d:Nat) hh=>zrs hg (f:=f) (size:=size) (goal:=(t:Int)) (d:=d) (n:=n) ⟨by omega,by omega⟩ hh
 have hstep:=λ(x y:Int) (k d:Nat) hk hd=>zru (g:=g) (f:=f) (x:=x) (y:=y) (k:=k) (d:=d) hk hd
 obtain⟨k,hk⟩:∃k:Nat,2*size+1=(k:Int):=⟨(2*size+1).toNat,by omega⟩
 rw[hk]at hdone
 have ring:=zwi g hg t ht
 generalize hx:(t:Int)%g.W=x at*
 generalize hy:(t:Int)/g.W=y at*
 refine Qa (c:=cfg 60) zb Tryz.func377 ?_
 refine Qd ?_
 refine Qd ?_
 refine AWp.loop (σ:=Nat×AV) ⟨λs=>[(1,.av (lst 1 vd (blL g.T.length f))),(3,.av (int (t:Nat))),(4,.av (int (n:Nat))),(5,.bx 5 0),(10,.av s.2),(11,.av (int (k:Nat))),(12,.av (int ((s.1*k:Nat))))],λ_=>[(5,zo g)],
  λs st'=>s.1*k<=200/\RowsQ 1 zz st' s.2 (y9 ((ko g f x y k (s.1*k)).take n)),λs=>300-s.1*k⟩ zb ?_ ?_
 ·refine⟨(0,_),Tv,⟨by dsimp only;omega,?_⟩,⟨Tq,Tq,Tq,Tq,Tq,?_,?_,Tv⟩,⟨rfl,Tv⟩⟩
  ·dsimp only
   rw[Nat.zero_mul]
   show RowsQ 1 zz _ _ (y9 (([]:List Nat).take n))
   rw[List.take_nil]
   exact zvx _
  ·rw[<-hk];exact Tq
  ·dsimp only
   rw[Nat.zero_mul];exact Tq
 rintro⟨m,v⟩ st' ⟨hm2,hap⟩
 dsimp only at hm2 hap⊢
 obtain⟨d,hd⟩:∃d:Nat,m*k=d:=⟨_,rfl⟩
 have hdv:k∣d:=⟨m,by rw[Nat.mul_comm];exact hd.symm⟩
 have hm1:(m+1)*k=d+k:=by rw[Fb2,Nat.one_mul,hd]
 rw[hd]at hm2 hap⊢
 obtain⟨oa,cap,e,_⟩:=hap.form
 subst e
 have hlenT:(y9 ((ko g f x y k d).take n)).length=((ko g f x y k d).take n).length:=D9 _
 refine bcd (λh1=>?_) (λh1=>?_)
 rotate_left
 ·rw[max2_eq]at h1
  have e:=hdone d (.inr (by omega))
  exact ret (by rw[<-e];exact hap)
 refine bcd (λh2=>?_) (λh2=>?_)
 rotate_left
 ·rw[hlenT,Fao]at h2
  have e:=hdone d (.inl (by omega))
  exact ret (by rw[<-e];exact hap)
 have h1:(d:Int)<=max g.W g.H:=by rw[max2_eq]at h1;exact h1
 refine ring d k ⟨by omega,by omega⟩ ⟨by omega,by omega⟩ _ _ ?_
 have hstep:=hstep x y k d (by omega) hdv
 have hL:∀u∈Dk g x y k d,u<g.T.length:=λu hu=>Fa4.1 (Fbo.1 hu).1
 have hLl:(Dk g x y k d).length<=g.T.length:=by
  have:=Fbz (Lf g x y k d) (List.range g.T.length)
  rw[Fdj]at this
  exact this
 have hslot:Ao g f x y k d=(Dk g x y k d).filter f:=rfl
 rw[hslot]at hstep
 generalize Dk g x y k d=L at*
 generalize hA:ko g f x y k d=A at*
 refine AWp.loop (σ:=Nat×AV) ⟨λs=>[(1,.av (lst 1 vd (blL g.T.length f))),(3,.av (int (t:Nat))),(4,.av (int (n:Nat))),(5,.bx 5 0),(10,.av s.2),(11,.av (int (k:Nat))),(12,.av (int (d:Nat))),(38,.av (qa (y9 L))),(39,.av (int (L.length:Nat))),(40,.av (int (s.1:Nat)))],λ_=>[(5,zo g)],
  λs st'=>s.1<=L.length/\RowsQ 1 zz st' s.2 (y9 ((A++(L.take s.1).filter f).take n)),λs=>L.length-s.1⟩ zb ?_ ?_
 ·refine⟨(0,_),Tv,⟨Faj _,?_⟩,⟨Tq,Tq,Tq,Tq,Tq,Tq,Tq,Tq,?_,Tq,Tv⟩,⟨rfl,Tv⟩⟩
  ·dsimp only
   rw[Fch,List.filter_nil,Fbp]
   exact hap
  ·show LV.le (.av (int ((rws zz (y9 L)).length:Nat))) (.av (int (L.length:Nat)))
   rw[zm,D9];exact Tq
 rintro⟨i,v2⟩ st2 ⟨hi,hap2⟩
 dsimp only at hi hap2⊢
 refine bcd (λh3=>?_) (λh3=>?_)
 rotate_left
 ·have:i=L.length:=by omega
  subst this
  rw[Faz,<-hstep]at hap2
  refine Qd ?_
  refine⟨(m+1,v2),?_,⟨by dsimp only;omega,?_⟩,⟨Tq,Tq,Tq,Tq,Tq,Tq,?_,Tv⟩,⟨rfl,Tv⟩⟩
  ·show 300-(m+1)*k<300-m*k
   omega
  ·dsimp only
   rw[hm1];exact hap2
  ·dsimp only
   rw[hm1,Int.natCast_add];exact Tq
 have hlt:i<L.length:=by omega
 have hlt2:i<(y9 L).length:=by rw[D9];exact hlt
 have hu:=hL _ (Faa hlt)
 have hnat:(y9 L)[i]'hlt2=((L[i]'hlt:Nat):Int):=Fbx ..
 have hu2:L[i]<(blL g.T.length f).length:=by rw[Ba];exact hu
 have htk:(L.take (i+1)).filter f=(L.take i).filter f++[L[i]].filter f:=by rw[Fae hlt,Fc5]
 obtain⟨oa2,cap2,e2,_⟩:=hap2.form
 subst e2
 have hlenT2:(y9 ((A++(L.take i).filter f).take n)).length=((A++(L.take i).filter f).take n).length:=D9 _
 have hdec:L.length-(i+1)<L.length-i:=by omega
 refine⟨i,rfl,za _ (zr hlt2) ?_⟩
 refine⟨L[i],hnat,za _ (zr hu2) ?_⟩
 rw[Gq hu]
 refine zj (λc1=>?_) (λc1=>?_)
 rotate_left
 ·have e:[L[i]].filter f=[]:=by simp[c1]
  rw[e,Fbp]at htk
  refine Qd ?_
  exact⟨(i+1,_),hdec,⟨by dsimp only;omega,by dsimp only;rw[htk];exact hap2⟩,⟨Tq,Tq,Tq,Tq,Tq,Tq,Tq,Tq,Tq,Tq,Tv⟩,⟨rfl,Tv⟩⟩
 have e:[L[i]].filter f=[L[i]]:=by simp[c1]
 rw[e]at htk
 have hsn:=zq5 (A++(L.take i).filter f) L[i] n
 rw[Fas,<-htk]at hsn
 refine bcd (λc2=>?_) (λc2=>?_)
 ·have c2:(A++(L.take i).filter f).length<n:=(fa _ _).1 (by rw[hlenT2]at c2;omega)
  rw[if_pos c2]at hsn
  refine⟨by decide,?_⟩
  have hTl:((A++(L.take i).filter f).take n).length<=1000:=by rw[Fao];omega
  refine Gu (ie:=ti2) rfl (λ_=>rfl) (by decide) hap2 ((y9 L)[i]'hlt2) rfl (by rw[hlenT2];omega) (λb cap3 L3 q1 q2 q3 q4=>?_)
  have h3:RowsQ 1 zz (st2.sO b _) _ _:=.inl (.inr ⟨b,cap3,L3,rfl,zd _ _ _,q2,q3,q4⟩)
  refine Qd ?_
  refine⟨(i+1,_),hdec,⟨by dsimp only;omega,?_⟩,⟨Tq,Tq,Tq,Tq,Tq,Tq,Tq,Tq,Tq,Tq,Tv⟩,⟨rfl,Tv⟩⟩
  dsimp only
  rw[hsn,mh,show y9 [L[i]]=[(y9 L)[i]'hlt2] by rw[hnat];rfl]
  exact h3
 ·have c2:¬(A++(L.take i).filter f).length<n:=λhh=>c2 (by have:=(fa (A++(L.take i).filter f) n).2 hh;rw[hlenT2];omega)
  rw[if_neg c2]at hsn
  refine Qd ?_
  refine⟨(i+1,_),hdec,⟨by dsimp only;omega,?_⟩,⟨Tq,Tq,Tq,Tq,Tq,Tq,Tq,Tq,Tq,Tq,Tv⟩,⟨rfl,Tv⟩⟩
  dsimp only
  rw[hsn];exact hap2
theorem yhg(g:Gnd)(hg:zn g)(f:Nat->Bool)(size:Int)(hs:0<=size/\size<=3)(t:Nat)(ht:t<g.T.length)(n:Nat)(hn:n<=1000)(st:Store)(R:Ja)(h:R (qa (y9 (Im g f size (t:Int) n))) st):
  Jb 377 [.agg (zo g),lst 1 vd (blL g.T.length f),int size,int t,int n] st R:=
 yai (yhh g hg f size hs t ht n hn) st R h
end Go.Proofs
namespace Go.Proofs
open Go Go.V
set_option maxRecDepth 20000
set_option maxHeartbeats 4000000
theorem zx0(g:Gnd)(hg:zn g)(a b:Bld)(ha:yc a/\onP g a)(hb:yc b/\onP g b)(st:Store)(R:Ja)(h:R (V.bool (decide (xu a b))) st):Jb 380 [.agg (zi a),.agg (zi b)] st R:=by
 unfold yc onP at ha hb
 unfold zn at hg
 have hh:∀z:Bool,(z=true↔xu a b)->R (V.bool z) st:=λz hz=>by
  have:z=decide (xu a b):=by rw[Fbr,decide_eq_true_iff];exact hz
  rw[this];exact h
 unfold xu at hh
 refine Qa (c:=cfg 43) zb Tryz.func380 ?_
 refine Qd ?_
 refine bcd (λc1=>?_) (λc1=>ret (hh _ (by simp;omega)))
 refine Qd ?_
 refine bcd (λc2=>?_) (λc2=>ret (hh _ (by simp;omega)))
 refine Qd ?_
 refine bcd (λc3=>?_) (λc3=>ret (hh _ (by simp;omega)))
 refine Qd ?_
 exact ret (hh _ (by rw[decide_eq_true_iff];omega))
theorem zxm(g:Gnd)(hg:zn g)(b x:Bld)(hb:yc b/\onP g b)(hx:yc x/\onP g x)(p:Nat)(st:Store)(hp:st.obj p=some (.cells (zi b)))(R:Ja)(h:R (V.bool (decide (xu x b))) st):Jb 379 ([.agg (zi x)]++[ptr p]) st R:=by
 refine Qa (c:=cfg 7) zb Tryz.func379 ?_
 refine za _ hp ?_
 exact zx0 g hg x b hx hb _ _ (ret h)
theorem yc8(b:Bld)(id:Int)(st:Store)(R:Ja)(h:R (int (Fm b.id id)) st):Jb 412 [.agg (zi b),int id] st R:=by
 refine Qa (c:=cfg 9) zb Tryz.func412 ?_
 exact sj b.id id _ _ (ret h)
theorem yfx(l:List Bld)(hl:l.length<=1000000000000)(id:Int)(hid:∀b∈l,b.id<id)(st:Store)(R:Ja)(h:R (.tup [int (l.length:Nat),V.bool false]) st):
  Jb 411 [lst 6 zi l,int id,.clos 412 []] st R:=by
 refine Qa (c:=cfg 49) zb Tryz.func411 ?_
 refine AWp.loop (σ:=Nat) ⟨λs=>[(0,.av (lst 6 zi l)),(1,.av (int id)),(2,.av (.clos 412 [])),(8,.av (int (l.length:Nat))),(9,.av (int (s:Nat))),(10,.av (int (l.length:Nat)))],λ_=>[],
  λs st'=>st'=st/\s<=l.length,λs=>l.length-s⟩ zb ?_ ?_
 ·refine⟨0,Tv,⟨rfl,Faj _⟩,⟨Tq,Tq,Tq,?_,Tq,?_,Tv⟩,Tv⟩
  ·rw[<-zm (f:=zi) l];exact Tq
  ·rw[<-zm (f:=zi) l];exact Tq
 rintro i st' ⟨rfl,hi⟩
 dsimp only at hi⊢
 refine bcd (λh1=>?_) (λh1=>?_)
 rotate_left
 ·have e:i=l.length:=by omega
  subst e
  refine bcd (λh2=>?_) (λh2=>?_)
  ·omega
  ·exact ret h
 refine Qd ?_
 refine⟨by decide,?_⟩
 have hmid:(IntKind.u64.wrap ((i:Int)+(l.length:Int))).fdiv (2^(min (1:Int).toNat IntKind.u64.bits))=(((i+l.length)/2:Nat):Int):=by
  have e1:IntKind.u64.wrap ((i:Int)+(l.length:Int))=((i+l.length:Nat):Int):=by
   simp[IntKind.wrap,IntKind.bits,IntKind.signed];omega
  have e2:(2:Int)^(min (1:Int).toNat IntKind.u64.bits)=2:=rfl
  have e3:(((i+l.length:Nat):Int)).fdiv 2=(((i+l.length)/2:Nat):Int):=by
   rw[Fdo _ (by decide)];rfl
  rw[e1,e2,e3]
 have hkl:(i+l.length)/2<l.length:=by omega
 refine⟨by rw[hmid];exact⟨by omega,by omega⟩,?_⟩
 refine⟨(i+l.length)/2,hmid,za _ (zr hkl) ?_⟩
 refine yc8 l[(i+l.length)/2] id _ _ ?_
 have hc:Fm l[(i+l.length)/2].id id<0:=by
  have:=hid _ (Faa hkl)
  unfold Fm
  rw[if_pos (by omega)]
  decide
 refine bcd (λh2=>?_) (λh2=>absurd hc h2)
 refine ze (by rw[hmid];omega) ?_
 refine⟨(i+l.length)/2+1,?_,⟨rfl,by omega⟩,⟨Tq,Tq,Tq,Tq,?_,Tq,Tv⟩,Tv⟩
 ·show l.length-((i+l.length)/2+1)<l.length-i
  omega
 ·exact(congrArg (λn:Int=>LV.le (qz .i64 (n+1)) (.av (int (((i+l.length)/2+1:Nat):Int)))) hmid).mpr (Tq)
theorem yf8(l:List Bld)(hl:l.length<=1000000000000)(id:Int)(hid:∀b∈l,b.id<id)(st:Store)(R:Ja)(h:R (.tup [int (l.length:Nat),V.bool false]) st):Jb 378 [lst 6 zi l,int id] st R:=by
 refine Qa (c:=cfg 11) zb Tryz.func378 ?_
 exact yfx l hl id hid _ _ (ret h)
theorem yao{N:Store}{v:AV}{l:List Bld}(hv:RowsQ 6 zi N v l)(hl:l.length<=1000000)(x:Bld)(R:Ja)(h:∀v' N',RowsQ 6 zi N' v' (l++[x])->R v' N'):Jb 381 [v,int (l.length:Nat),lst 6 zi [x]] N R:=by
 have hv2:=hv
 rcases hv with(⟨rfl,rfl⟩|⟨b,cap,L,rfl,ho,hc1,hc2,hc3⟩)|⟨a,ha,rfl,rfl⟩
 ·refine Qa (c:=cfg 95) zb Tryz.func381 ?_
  refine⟨rfl,rfl,?_⟩
  refine Gu (ie:=ti197) rfl jl (by decide) hv2 x rfl (by decide) (λb cap2 L2 q1 q2 q3 q4=>ret (h _ _ (.inl (.inr ⟨b,cap2,L2,rfl,zd _ _ _,q2,q3,q4⟩))))
 ·refine Qa (c:=cfg 95) zb Tryz.func381 ?_
  by_cases hc:l.length<cap
  ·refine⟨l.length,l.length,rfl,rfl,Fak _,hc1,.inl ⟨hc,?_⟩⟩
   refine z6 (λ_=>?_) (λh=>absurd rfl h)
   refine Gu (ie:=ti197) rfl jl (by decide) hv2 x rfl (by omega) (λb cap2 L2 q1 q2 q3 q4=>ret (h _ _ (.inl (.inr ⟨b,cap2,L2,rfl,zd _ _ _,q2,q3,q4⟩))))
  ·refine⟨l.length,l.length,rfl,rfl,Fak _,hc1,.inr ⟨by omega,?_⟩⟩
   refine z6 (λ_=>?_) (λh=>absurd rfl h)
   refine Gu (ie:=ti197) rfl jl (by decide) hv2 x rfl (by omega) (λb cap2 L2 q1 q2 q3 q4=>ret (h _ _ (.inl (.inr ⟨b,cap2,L2,rfl,zd _ _ _,q2,q3,q4⟩))))
 ·cases a with
  |none=>
   refine Qa (c:=cfg 95) zb Tryz.func381 ?_
   refine⟨rfl,rfl,?_⟩
   refine Gu (ie:=ti197) rfl jl (by decide) hv2 x rfl (by decide) (λb cap2 L2 q1 q2 q3 q4=>ret (h _ _ (.inl (.inr ⟨b,cap2,L2,rfl,zd _ _ _,q2,q3,q4⟩))))
  |some y=>
   obtain⟨yb,yo,ys⟩:=y
   have:=ha _ rfl
   dsimp only at this
   subst this
   refine Qa (c:=cfg 95) zb Tryz.func381 ?_
   refine⟨0,0,rfl,rfl,Fak _,Fak _,.inr ⟨rfl,?_⟩⟩
   refine Gu (ie:=ti197) rfl jl (by decide) hv2 x rfl (by decide) (λb cap2 L2 q1 q2 q3 q4=>ret (h _ _ (.inl (.inr ⟨b,cap2,L2,rfl,zd _ _ _,q2,q3,q4⟩))))
theorem nk{N:Store}{v:AV}{l:List Bld}(hv:RowsQ 6 zi N v l){Oth M:Nat->Nat->Prop}{w:World}(sto:StoreOK N Oth M w){x:Value}(hx:VRel w (λb o=>M b o\/Oth b o) v x):VRel w (λb o=>(M b o\/Oth b o)/\N.obj b=none) (lst 6 zi l) x:=hv.borrow jl Mm sto hx
theorem yf0(g:Gnd)(hg:zn g)(l:List Bld)(hl:l.length<=256)(hlb:∀b∈l,yc b/\onP g b)(b:Bld)(hb:yc b)(hid:∀x∈l,x.id<b.id):
  Jb 314 [.agg (zo g),lst 6 zi l,.agg (zi b)] Store.empty λr S=>(qs g l b≠0/\r=.tup [.s (.slice none 0 0),int (qs g l b)])\/(qs g l b=0/\∃v,RowsQ 6 zi S v (l++[b])/\r=.tup [v,int 0]):=by
 refine Qa (c:=cfg 48 [5] []) zb Tryz.func314 ?_
 intro p hp
 have ho:(Store.empty.sO p (.cells (zi b))).obj p=some (.cells (zi b)):=zd _ _ _
 have bad:∀n:Int,n≠0->qs g l b=n->∃r st',AV.le (.tup [.s (.slice none 0 0),int n]) r/\(Store.empty.sO p (.cells (zi b))).Has st'/\((qs g l b≠0/\r=.tup [.s (.slice none 0 0),int (qs g l b)])\/(qs g l b=0/\∃v,RowsQ 6 zi st' v (l++[b])/\r=.tup [v,int 0])):=λn hn e=>
  ret (.inl ⟨by rw[e];exact hn,by rw[e]⟩)
 refine za _ ho ?_
 refine yf8 l (by omega) b.id hid _ _ ?_
 refine za _ ho ?_
 refine uf b _ _ (λz hz=>?_)
 refine ym ?_
 refine zj (λc1=>?_) (λc1=>by have:=hz.2 hb;rw[this]at c1;cases c1)
 refine za _ ho ?_
 refine tv g b hg hb _ _ (λz hz=>?_)
 refine ym ?_
 refine zj (λc2=>?_) (λc2=>?_)
 rotate_left
 ·have hno:¬onP g b:=λhh=>by have:=hz.2 hh;rw[this]at c2;cases c2
  exact bad 3 (by decide) (by unfold qs;rw[if_pos hno])
 have hon:=hz.1 c2
 refine t8 l (by omega) _ _ (λx=>decide (xu x b)) _ (λx hx R h=>zxm g hg b x ⟨hb,hon⟩ (hlb x hx) p _ ho R h) _ ?_
 refine zj (λc3=>?_) (λc3=>?_)
 ·have hex:∃x∈l,xu x b:=by
   obtain⟨x,hx,h2⟩:=Fcl.1 c3
   exact⟨x,hx,of_decide_eq_true h2⟩
  exact bad 12 (by decide) (by unfold qs;rw[if_neg (λh=>h hon),if_pos hex])
 have hnex:¬∃x∈l,xu x b:=λ⟨x,hx,h2⟩=>by
  have:l.any (λx=>decide (xu x b))=true:=Fcl.2 ⟨x,hx,decide_eq_true h2⟩
  rw[this]at c3;cases c3
 refine za _ ho ?_
 refine ug g hg b ⟨hb,hon⟩ _ _ (λz hz=>?_)
 refine ym ?_
 refine zj (λc4=>?_) (λc4=>?_)
 rotate_left
 ·have hno:¬Az g b:=λhh=>by have:=hz.2 hh;rw[this]at c4;cases c4
  exact bad 5 (by decide) (by unfold qs;rw[if_neg (λh=>h hon),if_neg hnex,if_pos hno])
 have hfi:=hz.1 c4
 have hlen:((rws zi l).length:Int)=(l.length:Int):=by rw[zm]
 refine z6 (λc5=>?_) (λc5=>?_)
 ·exact bad 4 (by decide) (by unfold qs;rw[if_neg (λh=>h hon),if_neg hnex,if_neg (λh=>h hfi),if_pos (by omega)])
 have h0:qs g l b=0:=by unfold qs;rw[if_neg (λh=>h hon),if_neg hnex,if_neg (λh=>h hfi),if_neg (by omega)]
 refine Qc zb ztf ?_
 refine za (o:=(Store.empty.sO p (.cells (zi b))).obj p) _ ho ?_
 refine⟨by decide,?_⟩
 refine⟨Px l (by omega) _ _ (λv N hv hd=>⟨?_,?_⟩),Tv⟩
 ·repeat(first|exact Tv|refine⟨rfl,?_⟩|refine⟨za (o:=(N.un (Store.empty.sO p (.cells (zi b)))).obj p) _ (zf ho) rfl,?_⟩)
 refine⟨yao (hv.unL hd) (by omega) b _ (λv' N' hv'=>⟨Tv,?_⟩),Tv⟩
 refine Qap ?_
 refine Qap ?_
 exact ret (.inr ⟨h0,_,hv',rfl⟩)
theorem yfz(g:Gnd)(hg:zn g)(l:List Bld)(hl:l.length<=256)(hlb:∀b∈l,yc b/\onP g b)(b:Bld)(hb:yc b)(hid:∀x∈l,x.id<b.id)(st:Store)(R:Ja)
  (h:qs g l b≠0->R (.tup [.s (.slice none 0 0),int (qs g l b)]) st) (h0:qs g l b=0->R (.tup [lst 6 zi (l++[b]),int 0]) st):Jb 314 [.agg (zo g),lst 6 zi l,.agg (zi b)] st R:=by
 have h1:=(yf0 g hg l hl hlb b hb hid).frozen (R:=λr=>(qs g l b≠0/\r=.tup [.s (.slice none 0 0),int (qs g l b)])\/(qs g l b=0/\r=.tup [lst 6 zi (l++[b]),int 0])) (by
  rintro r S (⟨h1,rfl⟩|⟨h1,v,hv,rfl⟩)
  ·exact⟨_,.inl ⟨h1,rfl⟩,λOth M w' v' sto hx=>jr hx⟩
  ·refine⟨_,.inr ⟨h1,rfl⟩,λOth M w' v' sto hx=>?_⟩
   cases hx with
   |tup _ c2 hl hc2=>
    refine .tup _ c2 hl λi x y hx hy=>?_
    match i with
    |0=>simp only[Fan,Fah]at hx;subst hx;exact nk hv sto (hc2 0 _ y rfl hy)
    |1=>simp only[Far,Fan,Fah]at hx;subst hx;exact jr (hc2 1 _ y rfl hy)
    |i+2=>simp at hx)
 have h2:Jb 314 [.agg (zo g),lst 6 zi l,.agg (zi b)] Store.empty λr S=>((qs g l b≠0/\r=.tup [.s (.slice none 0 0),int (qs g l b)])\/(qs g l b=0/\r=.tup [lst 6 zi (l++[b]),int 0]))/\S=Store.empty:=
  h1.post (Store.Le.refl _) λr st' hr=>⟨r,Store.empty,AV.le_refl r,(Pc st').toLe,hr,rfl⟩
 rw[<-vm st]
 exact ACalls.frame (Kn st) h2 λr S ⟨e,e2⟩ hd=>by
  subst e2
  rw[vm]
  rcases e with⟨q,rfl⟩|⟨q,rfl⟩
  ·exact h q
  ·exact h0 q
theorem zye{w:Wld}(hm:z7 w):∀u∈w.U,u.inn=0->qm u.pos.1 u.pos.2:=λu hu h0=>by
 have hg:=(ku hm).hg
 have hcl:=hm.2.1 u hu h0
 have h1:=hcl.1.1
 have hr:=Bi u.kind
 have h2:=hg.1
 have h3:=hg.2.1
 unfold qm
 omega
theorem za0{F G:Store}{xw s p:Nat}{w:Wld}{v:AV}{L:List Ent}{o0 o1 o2:AV}{c:Cmd}{fv:AV}(hW:Work F G xw s p w v L o0 o1 o2 c fv)(hm:MayF w)(hn:∀u∈w.U,u.pos.ok)(hpl:∀u∈w.U,u.inn=0->qm u.pos.1 u.pos.2)(b:Bld)(hb:yc b/\onP w.G b)(R:Ja)
  (h:∀z F',(z=true↔Dr w b)->StandR F' G s p w v L o0 o1 o2->R (V.bool z) (F'.un (svS G s w v o0 o1 o2 p))):Jb 315 [ptr xw,.agg (zi b)] (F.un (svS G s w v o0 o1 o2 p)) R:=by
 have hU:=hm.hU
 have hx:=hW.x (F':=F) (q0:=o0) (q1:=o1) (q2:=o2)
 have hs:=hW.s (F':=F) (q0:=o0) (q1:=o1) (q2:=o2)
 obtain⟨oa,cap,e,hget⟩:=hW.S.hu.form
 subst e
 refine Qa (c:=cfg 62) zb Tryz.func315 ?_
 refine Qc zb zte ?_
 refine za (o:=(F.un (svS G s w _ o0 o1 o2 p)).obj xw) _ hx ?_
 refine za (o:=(F.un (svS G s w _ o0 o1 o2 p)).obj s) _ hs ?_
 refine⟨Nb w.G hm.hg b hb _ _ ⟨Qe,?_⟩,Tv⟩
 have hmem:=Fa hm.hg hb.1 hb.2
 have hts:=R6 w.G.W hb.1
 have hmw:Dr w b↔∃t∈vp w.G.W b,∃u∈w.U,u.inn=0/\xm w.G t.toNat u.pos (zp u.kind):=by
  unfold Dr
  constructor
  ·rintro⟨t,⟨h1,h2⟩,u,hu,h3⟩
   exact⟨(t:Int),(hmem _).2 ⟨t,rfl,h1,h2⟩,u,hu,by rw[Fa9];exact h3⟩
  ·rintro⟨t,ht,u,hu,h3⟩
   obtain⟨n,rfl,h1,h2⟩:=(hmem t).1 ht
   rw[Fa9]at h3
   exact⟨n,⟨h1,h2⟩,u,hu,h3⟩
 generalize vp w.G.W b=ts at*
 refine AWp.loop (σ:=Nat×Store) ⟨λx=>[(0,.av (ptr xw)),(18,.av (qa ts)),(19,.av (int (ts.length:Nat))),(20,.av (int (x.1:Nat)))],λ_=>[],
  λx st'=>x.1<=ts.length/\st'=x.2.un (svS G s w (.s (.slice oa w.U.length cap)) o0 o1 o2 p)/\StandR x.2 G s p w (.s (.slice oa w.U.length cap)) L o0 o1 o2/\∀j,(hj:j<ts.length)->j<x.1->∀u∈w.U,u.inn=0->¬xm w.G ts[j].toNat u.pos (zp u.kind),λx=>ts.length-x.1⟩ zb ?_ ?_
 ·refine⟨(0,F),Tv,⟨Faj _,rfl,hW.S,λj _ hj=>by omega⟩,⟨Tq,Tq,?_,Tq,Tv⟩,Tv⟩
  rw[<-zm (f:=zz) ts];exact Tq
 rintro⟨i,F1⟩ st' ⟨hi,rfl,hS1,hno⟩
 dsimp only at hi hS1 hno⊢
 refine bcd (λh1=>?_) (λh1=>?_)
 rotate_left
 ·refine ret (h false F1 ?_ hS1)
  simp only[Fad,false_iff]
  rw[hmw]
  rintro⟨t,ht,u,hu,h0,hh⟩
  obtain⟨j,hj,rfl⟩:=Fai ht
  exact hno j hj (by omega) u hu h0 hh
 have hlt:i<ts.length:=by omega
 obtain⟨n,hn1,hn2,hn3⟩:=(hmem ts[i]).1 (Faa hlt)
 have hx1:=hW.x (F':=F1) (q0:=o0) (q1:=o1) (q2:=o2)
 have hs1:=hW.s (F':=F1) (q0:=o0) (q1:=o1) (q2:=o2)
 refine⟨i,rfl,za _ (zr hlt) ?_⟩
 refine Qc zb ztd ?_
 refine za (o:=(F1.un (svS G s w _ o0 o1 o2 p)).obj xw) _ hx1 ?_
 refine za (o:=(F1.un (svS G s w _ o0 o1 o2 p)).obj xw) _ hx1 ?_
 refine za (o:=(F1.un (svS G s w _ o0 o1 o2 p)).obj s) _ hs1 ?_
 refine⟨Oo w.G hm.hg n hn2 ts[i] hn1 _ _ ⟨?_,?_⟩,Tv⟩
 ·repeat(first|exact Tv|refine⟨rfl,?_⟩|refine⟨za (o:=(F1.un (svS G s w _ o0 o1 o2 p)).obj xw) _ hx1 rfl,?_⟩|refine⟨za (o:=(F1.un (svS G s w _ o0 o1 o2 p)).obj s) _ hs1 rfl,?_⟩)
 have htb:=Ie hm.hg hn2
 refine⟨f9 hS1 hm.hr (by omega) hn hW.hL hW.hF (tx w.G n+32768,ty w.G n+32768) ⟨⟨by dsimp only;omega,by dsimp only;omega⟩,⟨by dsimp only;omega,by dsimp only;omega⟩⟩ 65536 (by decide) _ (λF2 us hS2 hus hul=>⟨?_,?_⟩),Tv⟩
 ·repeat(first|exact Tv|refine⟨rfl,?_⟩)
 have hx2:=hW.x (F':=F2) (q0:=o0) (q1:=o1) (q2:=o2)
 have hs2:=hW.s (F':=F2) (q0:=o0) (q1:=o1) (q2:=o2)
 refine AWp.loop (σ:=Nat) ⟨λk=>[(0,.av (ptr xw)),(6,.av (int ts[i])),(18,.av (qa ts)),(19,.av (int (ts.length:Nat))),(20,.av (int (i:Nat))),(38,.av (lst 10 zk us)),(39,.av (int (us.length:Nat))),(40,.av (int (k:Nat)))],λ_=>[],
  λk st'=>k<=us.length/\st'=F2.un (svS G s w (.s (.slice oa w.U.length cap)) o0 o1 o2 p)/\∀j,(hj:j<us.length)->j<k->¬xm w.G n us[j].pos (zp us[j].kind),λk=>us.length-k⟩ zb ?_ ?_
 ·refine⟨0,Tv,⟨Faj _,rfl,λj _ hj=>by omega⟩,⟨Tq,Tq,Tq,Tq,Tq,Tq,?_,Tq,Tv⟩,Tv⟩
  rw[<-zm (f:=zk) us];exact Tq
 rintro k st' ⟨hk,rfl,hnk⟩
 refine bcd (λh2=>?_) (λh2=>?_)
 rotate_left
 ·refine Qd ?_
  refine⟨(i+1,F2),?_,⟨by dsimp only;omega,rfl,hS2,λj hj hji u hu h0 hh=>?_⟩,Qal,Tv⟩
  ·show ts.length-(i+1)<ts.length-i
   omega
  ·by_cases e:j=i
   ·subst e
    rw[hn1,Fa9]at hh
    have hnear:=ya9 hm.hg hn2 (hpl u hu h0) (Bi u.kind) hh
    have hmu:=(hus u).2 ⟨⟨hu,h0⟩,hnear⟩
    obtain⟨m,hm2,rfl⟩:=Fai hmu
    exact hnk m hm2 (by omega) hh
   ·exact hno j hj (by dsimp only at hji;omega) u hu h0 hh
 have hkl:k<us.length:=by omega
 have huk:=(hus us[k]).1 (Faa hkl)
 refine⟨k,rfl,za _ (zr hkl) ?_⟩
 refine Qc zb ztc ?_
 refine za (o:=(F2.un (svS G s w _ o0 o1 o2 p)).obj xw) _ hx2 ?_
 refine za (o:=(F2.un (svS G s w _ o0 o1 o2 p)).obj s) _ hs2 ?_
 refine⟨xq us[k].kind _ _ ⟨?_,?_⟩,Tv⟩
 ·repeat(first|exact Tv|refine⟨rfl,?_⟩|refine⟨za (o:=(F2.un (svS G s w _ o0 o1 o2 p)).obj xw) _ hx2 rfl,?_⟩|refine⟨za (o:=(F2.un (svS G s w _ o0 o1 o2 p)).obj s) _ hs2 rfl,?_⟩)
 have hkr:=Bi us[k].kind
 refine⟨oq w.G hm.hg n hn2 ts[i] hn1 us[k].pos (hpl _ huk.1.1 huk.1.2) (zp us[k].kind) ⟨hkr.1,by omega⟩ _ _ ⟨Tv,?_⟩,Tv⟩
 refine bcd (λh3=>?_) (λh3=>?_)
 ·refine ret (h true F2 ?_ hS2)
  simp only[true_iff]
  exact hmw.2 ⟨ts[i],Faa hlt,us[k],huk.1.1,huk.1.2,by rw[hn1,Fa9];exact h3⟩
 refine Qd ?_
 refine⟨k+1,?_,⟨by omega,rfl,λj hj hjk=>?_⟩,Qal,Tv⟩
 ·show us.length-(k+1)<us.length-k
  omega
 ·by_cases e:j=k
  ·subst e;exact h3
  ·exact hnk j hj (by omega)
def Od(w:Wld)(i t:Nat)(hi:i<w.U.length):Wld:={w with U:=w.U.set i (wo w.U[i] (ye w.G t))}
section
variable {i:Nat} {u:Unt} {w:Wld}
theorem m3{U:List Unt}{x:Unt}(h:u∈U.set i x):u=x\/u∈U:=by
 rcases List.mem_or_eq_of_mem_set h with h|h
 ·exact .inr h
 ·exact .inl h
theorem zzn(h:MayF w)(hi:i<w.U.length)(hid:w.U[i].id=u.id)(hk:vy u.kind):MayF {w with U:=w.U.set i u}:=
 ⟨h.hg,h.hB,by show(w.U.set i u).length<=_;rw[Fa8];exact h.hU,h.hT,h.hb,λx hx=>by
  rcases m3 (show x∈w.U.set i u from hx)with rfl|hx
  ·exact hk
  ·exact h.hk x hx,Nv h.hr hi hid,h.hn1,h.hn2⟩
theorem zcj{c:Cmd}(h:jv w c.P c.N≠0):ulE w c=jv w c.P c.N:=by unfold ulE;rw[if_neg h]
theorem zci{c:Cmd}(h:jv w c.P c.N=0)(h2:¬(0<=c.T/\c.T<w.G.W*w.G.H)):ulE w c=3:=by unfold ulE;rw[if_pos h,if_neg h2]
theorem zch{c:Cmd}(h:jv w c.P c.N=0)(h2:0<=c.T/\c.T<w.G.W*w.G.H)(h3:Ce (ye w.G c.T.toNat) (uAt w c.N).pos):ulE w c=8:=by unfold ulE;rw[if_pos h,if_pos h2,if_pos h3]
theorem zcg{c:Cmd}(h:jv w c.P c.N=0)(h2:0<=c.T/\c.T<w.G.W*w.G.H)(h3:¬Ce (ye w.G c.T.toNat) (uAt w c.N).pos)(h4:unl c.T (zv w.U c.N) w=none):ulE w c=5:=by unfold ulE;rw[if_pos h,if_pos h2,if_neg h3,h4]
theorem zcf{c:Cmd}(h:jv w c.P c.N=0)(h2:0<=c.T/\c.T<w.G.W*w.G.H)(h3:¬Ce (ye w.G c.T.toNat) (uAt w c.N).pos){x:Wld}(h4:unl c.T (zv w.U c.N) w=some x):ulE w c=0/\ulW w c=x:=by
 unfold ulE ulW
 rw[if_pos h,if_pos h2,if_neg h3,h4]
 exact⟨rfl,rfl⟩
theorem yaw(hr:yg w.U){n id:Int}(h:id∈zv w.U n):∃i,∃hi:i<w.U.length,yw w.U id=some i:=by
 unfold zv at h
 obtain⟨u,hu,rfl⟩:=Fac.1 h
 obtain⟨hu,_⟩:=Fbo.1 hu
 obtain⟨i,hi,rfl⟩:=Fai hu
 exact⟨i,hi,L7 hr hi rfl⟩
end
section
variable {w:Wld} {F G:Store} {s p m:Nat} {v o0 o1 o2:AV}
def slO(cs:List (Int×List Nat))(bs:List Nat)(clk:Nat):AObj:=.map (cs.map (yk λl=>qa (y9 l))) bs clk
def slV(m:Nat):AV:=.s (.map (some m))
def ge(w:Wld)(c:Cmd)(cs:List (Int×List Nat)):Prop:=∀kd l,yl cs kd=some l->l=qh w kd c.T c.U.length
structure MvS(F G G0:Store)(xw s p m:Nat)(w:Wld)(v:AV)(L:List Ent)(n:Nat)(o0 o1 o2:AV)(c:Cmd)(k:Nat)(cs:List (Int×List Nat))(bs:List Nat)(clk:Nat):Prop where
 S:StandR F G s p {w with U:=mvL w c k} v L o0 o1 o2
 keep:∀q,ja v q->q≠m->G.obj q=G0.obj q
 hm:G.obj m=some (slO cs bs clk)
 hl:L.length<=n+k
 ok:∀e∈L,e.2.ok
 sl:ge w c cs
theorem zzo(hm:MayF w)(c:Cmd)(k:Nat):MayF {w with U:=mvL w c k}:=
 ⟨hm.hg,hm.hB,by show(mvL w c k).length<=_;rw[Ae];exact hm.hU,hm.hT,hm.hb,λu hu=>by
  obtain⟨x,hx,_,_,e,_⟩:=mp hu
  rw[e];exact hm.hk x hx,Vl hm.hr c k,hm.hn1,hm.hn2⟩
theorem F6{x:AObj}(h:G.obj m=some x)(hms:m≠s):(F.un (svS G s w v o0 o1 o2 p)).obj m=some x:=zf (by
 show(G.sO s _).obj m=_
 rw[zg hms];exact h)
theorem MvS.upd{G0:Store}{xw:Nat}{L:List Ent}{n:Nat}{c:Cmd}{k:Nat}{cs:List (Int×List Nat)}{bs:List Nat}{clk:Nat}(h:MvS F G G0 xw s p m w v L n o0 o1 o2 c k cs bs clk)(hms:m≠s)(hoff:ja v m){cs':List (Int×List Nat)}(bs':List Nat)(clk':Nat)(hs:ge w c cs'):
  MvS F (G.sO m (slO cs' bs' clk')) G0 xw s p m w v L n o0 o1 o2 c k cs' bs' clk'/\(F.un (svS G s {w with U:=mvL w c k} v o0 o1 o2 p)).sO m (slO cs' bs' clk')=F.un (svS (G.sO m (slO cs' bs' clk')) s {w with U:=mvL w c k} v o0 o1 o2 p):=by
 refine⟨⟨⟨h.S.hc,λi h1 h2=>h.S.hd i h1 (svS_has.2 ?_),?_,h.S.hu.set hoff _,h.S.h0,h.S.h1,h.S.h2⟩,λq h1 h2=>?_,zd _ _ _,h.hl,h.ok,hs⟩,?_⟩
 ·rcases svS_has.1 h2 with h2|h2
  ·exact .inl h2
  ·rcases has_setObj_iff.1 h2 with rfl|h2
   ·exact .inr (jb h.hm)
   ·exact .inr h2
 ·rw[zg (Ne.symm hms)];exact h.S.hs
 ·rw[zg h2];exact h.keep q h1 h2
 ·rw[zt]
  unfold svS
  rw[D5 hms]
end
section
variable {S N:Store} {fb kc xw s p:Nat} {room:Int} {w:Wld} {v o0 o1 o2:AV}
theorem ycp{kc:Nat}(hd:zh S N)(hF:FldAny fb room (kc:Nat) N)(hm:MayF w)(c s:Int)(hc:Dx c)(hs:0<=s/\s<=3)(R:Ja)
  (h:∀b N',zh S N'->FldAny fb room (kc:Nat) N'->N'.obj b=some (.cells (qt w.G w.B c s))->R (ptr b) (S.un N')):Jb 94 [ptr fb,.agg (zo w.G),lst 6 zi w.B,int c,int s] (S.un N) R:=by
 have hB:=hm.hB
 have ha:=qi hm.hg
 rw[un_comm hd]
 refine ACalls.frame (Hy hd) (Vj hF w.G hm.hg (by omega) w.B (by omega) hm.hb c s hc hs (λr S=>∃b,r=ptr b/\FldAny fb room (kc:Nat) S/\S.obj b=some (.cells (qt w.G w.B c s))) (λNc Nr cc nm wm cs ks ns ws made cnt d hI hd ho=>⟨d,rfl,.inl ⟨_,_,Nc,Nr,cc,nm,wm,cs,ks,ns,ws,made,cnt,rfl,hI⟩,zf ho⟩)) ?_
 rintro r a' ⟨b,rfl,h1,h2⟩ hd2
 rw[un_comm hd2]
 exact h b a' (Hy hd2) h1 h2
theorem AtW.unL{c:Cmd}{fv:AV}(ha:AtW S xw s p w v o0 o1 o2 c fv)(hd:zh S N):AtW (S.un N) xw s p w v o0 o1 o2 c fv:=⟨z8 hd ha.hx,z8 hd ha.hs,ha.hr.unL hd⟩
theorem cx{kc:Nat}{c:Cmd}(ha:AtW S xw s p w v o0 o1 o2 c (xh fb))(hd:zh S N)(hF:FldAny fb room (kc:Nat) N)(hm:MayF w)(k:Int)(t:Nat)(ht:t<w.G.T.length)(tI:Int)(htI:tI=(t:Int))(n:Nat)(hn:n<=1000)(R:Ja)
  (h:∀N',zh S N'->FldAny fb room (kc:Nat) N'->R (qa (y9 (qh w k tI n))) (S.un N')):Jb 313 [ptr xw,int k,int tI,int n] (S.un N) R:=by
 subst htI
 obtain⟨hx,hs,hv⟩:=ha
 obtain⟨oa,cap,e,hget⟩:=hv.form
 subst e
 have hx1:(S.un N).obj xw=_:=z8 hd hx
 have hs1:(S.un N).obj s=_:=z8 hd hs
 refine Qa (c:=cfg 53) zb Tryz.func313 ?_
 refine xq k _ _ ?_
 refine Qc zb ztg ?_
 refine za (o:=(S.un N).obj xw) _ hx1 ?_
 refine za (o:=(S.un N).obj s) _ hs1 ?_
 refine za (o:=(S.un N).obj xw) _ hx1 ?_
 refine za (o:=(S.un N).obj xw) _ hx1 ?_
 refine za (o:=(S.un N).obj s) _ hs1 ?_
 refine za (o:=(S.un N).obj xw) _ hx1 ?_
 refine za (o:=(S.un N).obj s) _ hs1 ?_
 refine⟨ycp hd hF hm (yu k) (xx k) (I9 k) (Oy k) _ (λb N' hd' hF' hb=>?_),Tv⟩
 have hx2:(S.un N').obj xw=_:=z8 hd' hx
 have hs2:(S.un N').obj s=_:=z8 hd' hs
 refine⟨?_,?_⟩
 ·repeat(first|exact Tv|refine⟨rfl,?_⟩|refine⟨za (o:=(S.un N').obj xw) _ hx2 rfl,?_⟩|refine⟨za (o:=(S.un N').obj s) _ hs2 rfl,?_⟩)
 refine za (o:=(S.un N').obj b) _ (zf hb) ?_
 refine⟨yhg w.G hm.hg (zx w.G w.B (yu k) (xx k)) (xx k) (Oy k) t ht n hn _ _ ⟨Qe,?_⟩,Tv⟩
 refine Qap ?_
 exact ret (h N' hd' hF')
end
theorem Qaj{p:Prop}(h:p:=by show(mvL w c k).length<=_;rw[Ae];omega):p:=h
theorem zaz{F G N:Store}{xw s p fb:Nat}{room:Int}{kc:Nat}{w:Wld}{v:AV}{L:List Ent}{o0 o1 o2:AV}{c:Cmd}(hW:Work F G xw s p w v L o0 o1 o2 c (xh fb))(hdN:zh (F.un (svS G s w v o0 o1 o2 p)) N)(hF:FldAny fb room (kc:Nat) N)(hm:MayF w)(hn:∀u∈w.U,u.pos.ok)(hcU:c.U.length<=64)(R:Ja)
  (h:∀S' N',mvE w c≠0->zh S' N'->FldAny fb room (kc:Nat) N'->R (int (mvE w c)) (S'.un N')) (h0:mvE w c=0->∀S' N',Bn S' xw s c (xh fb) (mvW w c)->zh S' N'->FldAny fb room (kc:Nat) N'->R (int 0) (S'.un N')):Jb 226 [ptr xw] ((F.un (svS G s w v o0 o1 o2 p)).un N) R:=by
 have hU:=hm.hU
 have hx:=z8 hdN (hW.x (F':=F) (q0:=o0) (q1:=o1) (q2:=o2))
 have hs:=z8 hdN (hW.s (F':=F) (q0:=o0) (q1:=o1) (q2:=o2))
 have hr:=(hW.r (F':=F) (q0:=o0) (q1:=o1) (q2:=o2)).unL hdN
 obtain⟨oa,cap,e,hget⟩:=hW.S.hu.form
 subst e
 have ha:=qi hm.hg
 refine Qb (c:=cfg 94) zb Tryz.func226 ?_
 refine AWp.seq (AWp.of_vc zb ?_)
 refine AWp.seq (AWp.of_vc zb ?_)
 refine Qc zb zt3 ?_
 refine za (o:=((F.un (svS G s w _ o0 o1 o2 p)).un N).obj xw) _ hx ?_
 refine za (o:=((F.un (svS G s w _ o0 o1 o2 p)).un N).obj s) _ hs ?_
 refine za (o:=((F.un (svS G s w _ o0 o1 o2 p)).un N).obj xw) _ hx ?_
 refine⟨Oz w.G c.T hm.hg _ _ (λz hz=>⟨Tv,?_⟩),Tv⟩
 refine ym ?_
 refine zj (λc2=>?_) (λc2=>?_)
 rotate_left
 ·have:=mw (w:=w) (c:=c) (λhh=>by have:=hz.2 hh;rw[this]at c2;cases c2)
  rw[this]at h
  exact ret (h _ _ (by decide) hdN hF)
 have htile:=hz.1 c2
 have htn:c.T=((c.T.toNat:Nat):Int):=by omega
 have htl:c.T.toNat<w.G.T.length:=by omega
 have hE:=mv htile
 rw[hE]at h h0
 refine AWp.seq (AWp.of_vc zb ?_)
 refine all_nil ⟨hx,hs,hr⟩ hm.hr (by omega) (by omega) _ (λhe=>?_) (λhe=>?_)
 rotate_left
 ·refine AWp.of_vc zb ?_
  refine qr (λc3=>?_) (λc3=>absurd c3 he)
  exact ret (h _ _ he hdN hF)
 have hzero:=H4 he
 refine AWp.seq (AWp.of_vc zb ?_)
 refine AWp.seq (AWp.of_vc zb ?_)
 refine Fs rfl (λm hmf=>?_)
 have hmf0:=fresh_iff.1 hmf
 have hmN:¬N.has m:=λhh=>hmf0 (un_has.2 (.inr hh))
 obtain⟨hW1,e1,off1,hms⟩:=hW.add (fresh_iff.2 λhh=>hmf0 (un_has.2 (.inl hh))) (slO [] [] 0)
 have hmx:m≠xw:=λe=>by
  have:=hmf.1
  rw[e,hx]at this;cases this
 have e1':((F.un (svS G s w (.s (.slice oa w.U.length cap)) o0 o1 o2 p)).un N).sO m (.map [] [] 0)=(F.un (svS (G.sO m (slO [] [] 0)) s w (.s (.slice oa w.U.length cap)) o0 o1 o2 p)).un N:=by
  rw[G4 hmN]
  exact congrArg (Store.un · N) e1
 rw[e1']
 have hdN1:zh (F.un (svS (G.sO m (slO [] [] 0)) s w (.s (.slice oa w.U.length cap)) o0 o1 o2 p)) N:=by
  rw[<-e1];exact W0 hdN hmN
 have hmv0:MvS F (G.sO m (slO [] [] 0)) (G.sO m (slO [] [] 0)) xw s p m w (.s (.slice oa w.U.length cap)) L L.length o0 o1 o2 c 0 [] [] 0:=⟨hW1.S,λ_ _ _=>rfl,zd _ _ _,by omega,Hg hW.hF hn,λkd l hh=>by cases hh⟩
 have hx0:=hW1.hx
 have hox:=hW1.ox
 have hos:=hW1.os
 have hxs:=hW1.ne
 have hLl:=hW.hL
 generalize G.sO m (slO [] [] 0)=G0 at*
 clear hx hs hr hdN e1 e1' hmf hmf0
 refine AWp.meetA (σ:=Unit) ⟨λ_=>[],λ_=>[],λ_ st'=>∃S' N',st'=Store.un S' N'/\Bn S' xw s c (xh fb) (mvW w c)/\zh S' N'/\FldAny fb room (kc:Nat) N'⟩ ?_ ?_
 rotate_left
 ·rintro _ st' ⟨S',N',rfl,hd1,hd2,hd3⟩
  refine AWp.of_vc zb ?_
  exact ret (h0 he _ _ hd1 hd2 hd3)
 refine AWp.seq (AWp.of_vc zb ?_)
 refine AWp.block ?_
 refine AWp.loopA (σ:=Nat×Store×Store×List Ent×List (Int×List Nat)×List Nat×Nat×Store) ⟨λx=>[(0,.av (ptr xw)),(3,.av (lst 10 zk (c.U.map (uAt w)))),(5,.av (slV m)),(35,.av (lst 10 zk (c.U.map (uAt w)))),(36,.av (int (c.U.length:Nat))),(37,.av (int (x.1:Nat)))],λ_=>[],
  λx st'=>x.1<=c.U.length/\st'=(x.2.1.un (svS x.2.2.1 s {w with U:=mvL w c x.1} (.s (.slice oa w.U.length cap)) o0 o1 o2 p)).un x.2.2.2.2.2.2.2/\(zh (x.2.1.un (svS x.2.2.1 s {w with U:=mvL w c x.1} (.s (.slice oa w.U.length cap)) o0 o1 o2 p)) x.2.2.2.2.2.2.2/\FldAny fb room (kc:Nat) x.2.2.2.2.2.2.2)/\MvS x.2.1 x.2.2.1 G0 xw s p m w (.s (.slice oa w.U.length cap)) x.2.2.2.1 L.length o0 o1 o2 c x.1 x.2.2.2.2.1 x.2.2.2.2.2.1 x.2.2.2.2.2.2.1,λx=>c.U.length-x.1⟩ ?_ ?_
 ·refine⟨(0,F,G0,L,[],[],0,N),Tv,⟨Faj _,rfl,⟨hdN1,hF⟩,hmv0⟩,⟨Tq,Tq,Tq,Tq,?_,Tq,Tv⟩,Tv⟩
  show LV.le (.av (int ((rws zk (c.U.map (uAt w))).length:Nat))) (.av (int (c.U.length:Nat)))
  rw[zm,Faq];exact Tq
 clear hdN1 hF
 rintro⟨k,F1,G1,L1,cs,bs,clk,N1⟩ st' ⟨hk,rfl,⟨hdN,hF⟩,hS⟩
 dsimp only at hk hdN hF hS⊢
 refine AWp.seq (AWp.of_vc zb ?_)
 refine AWp.seq (AWp.of_vc zb ?_)
 refine bcd (λh1=>?_) (λh1=>?_)
 rotate_left
 ·have:k=c.U.length:=by omega
  subst this
  have hxk:G1.obj xw=some (.cells (wkC s c (xh fb))):=by rw[hS.keep xw hox (Ne.symm hmx)];exact hx0
  exact⟨(),⟨_,N1,rfl,⟨_,o0,o1,o2,p,F6 hxk hxs,zf (wg _ _ _ _ _ _ _ _),(F5 hS.S.hs hS.S.hu).un⟩,hdN,hF⟩,Tv,Tv⟩
 have hlt:k<c.U.length:=by omega
 obtain⟨i,hi,hf,hid,hu,how,hin⟩:=Gs (hzero c.U[k] (Faa hlt))
 have hlm:k<(c.U.map (uAt w)).length:=by rw[Faq];exact hlt
 have hgm:(c.U.map (uAt w))[k]=w.U[i]:=by rw[Fbx,hu]
 have hlU:(c.U.map (uAt w)).length=c.U.length:=Faq ..
 have hsu:∀kd n,qh {w with U:=mvL w c k} kd c.T n=qh w kd c.T n:=λ_ _=>rfl
 have hm1:=zzo hm c k
 refine AWp.seq (AWp.block ?_)
 refine AWp.seq (AWp.of_vc zb ?_)
 refine⟨k,rfl,za _ (zr hlm) ?_⟩
 rw[hgm]
 refine AWp.meetA (σ:=Store×List (Int×List Nat)×List Nat×Nat×Store) ⟨λ_=>[(0,.av (ptr xw)),(3,.av (lst 10 zk (c.U.map (uAt w)))),(5,.av (slV m)),(6,.av (int (k:Nat))),(7,.bx 7 0),(35,.av (lst 10 zk (c.U.map (uAt w)))),(36,.av (int (c.U.length:Nat))),(37,.av (int (k:Nat)))],λ_=>[(7,zk w.U[i])],
  λx st'=>st'=(F1.un (svS x.1 s {w with U:=mvL w c k} (.s (.slice oa w.U.length cap)) o0 o1 o2 p)).un x.2.2.2.2/\(zh (F1.un (svS x.1 s {w with U:=mvL w c k} (.s (.slice oa w.U.length cap)) o0 o1 o2 p)) x.2.2.2.2/\FldAny fb room (kc:Nat) x.2.2.2.2)/\MvS F1 x.1 G0 xw s p m w (.s (.slice oa w.U.length cap)) L1 L.length o0 o1 o2 c k x.2.1 x.2.2.1 x.2.2.2.1/\yl x.2.1 w.U[i].kind=some (qh w w.U[i].kind c.T c.U.length)⟩ ?_ ?_
 ·have hmo:((F1.un (svS G1 s {w with U:=mvL w c k} (.s (.slice oa w.U.length cap)) o0 o1 o2 p)).un N1).obj m=some (slO cs bs clk):=z8 hdN (F6 hS.hm hms)
  have hxk:G1.obj xw=some (.cells (wkC s c (xh fb))):=by rw[hS.keep xw hox (Ne.symm hmx)];exact hx0
  have hx1:(F1.un (svS G1 s {w with U:=mvL w c k} (.s (.slice oa w.U.length cap)) o0 o1 o2 p)).obj xw=some (.cells (wkC s c (xh fb))):=F6 hxk hxs
  have hs1:(F1.un (svS G1 s {w with U:=mvL w c k} (.s (.slice oa w.U.length cap)) o0 o1 o2 p)).obj s=some (.cells (svC {w with U:=mvL w c k} (.s (.slice oa w.U.length cap)) o0 o1 o2 p)):=zf (wg _ _ _ _ _ _ _ _)
  have hr1:RowsQ 10 zk (F1.un (svS G1 s {w with U:=mvL w c k} (.s (.slice oa w.U.length cap)) o0 o1 o2 p)) (.s (.slice oa w.U.length cap)) (mvL w c k):=(F5 hS.S.hs hS.S.hu).un
  refine AWp.of_vc zb ?_
  refine vo rfl (it:=ti390) (ie:=ti29) (ik:=ti2) rfl rfl rfl rfl hmo rfl (qA w.U[i].kind) (λe he=>?_) ?_
  ·obtain⟨e,_,rfl⟩:=Fac.1 he
   rfl
  rw[zzt]
  cases hg:yl cs w.U[i].kind with
  |some l=>
   have hl:=hS.sl _ _ hg
   rw[hl]at hg
   exact⟨(G1,cs,bs,clk,N1),⟨rfl,⟨hdN,hF⟩,hS,hg⟩,Qal,⟨rfl,Tv⟩⟩
  |none=>
   dsimp only
   refine Qc zb zt2 ?_
   refine za (o:=((F1.un (svS G1 s _ _ o0 o1 o2 p)).un N1).obj xw) _ (z8 hdN hx1) ?_
   refine⟨cx ⟨hx1,hs1,hr1⟩ hdN hF hm1 w.U[i].kind c.T.toNat htl c.T htn (rws zk (c.U.map (uAt w))).length (by rw[zm,hlU];omega) _ (λN2 hdN2 hF2=>⟨?_,?_⟩),Tv⟩
   ·repeat(first|exact Tv|refine⟨rfl,?_⟩|refine⟨za (o:=((F1.un (svS G1 s _ _ o0 o1 o2 p)).un N2).obj xw) _ (z8 hdN2 hx1) rfl,?_⟩)
   have hmo:((F1.un (svS G1 s {w with U:=mvL w c k} (.s (.slice oa w.U.length cap)) o0 o1 o2 p)).un N2).obj m=some (slO cs bs clk):=z8 hdN2 (F6 hS.hm hms)
   rw[hsu,zm,hlU]
   refine⟨Ci (.inl rfl) rfl (it:=ti390) (ik:=ti2) rfl rfl rfl (es:=cs.map (yk λl=>qa (y9 l))) (bs:=bs) (clk:=clk) (k:=int w.U[i].kind) (v:=qa (y9 (qh w w.U[i].kind c.T c.U.length))) hmo rfl rfl (qA w.U[i].kind) (λe he=>?_) (λe1 he hq=>?_) ?_,Tv⟩
   ·obtain⟨e,_,rfl⟩:=Fac.1 he
    rfl
   ·obtain⟨g1,_,rfl⟩:=Fac.1 he
    have:w.U[i].kind=g1.1:=by simpa [qA,yk,int]using hq
    show int g1.1=_
    rw[this]
   obtain⟨bs',clk',hput⟩:=Hn (λl=>qa (y9 l)) cs bs clk w.U[i].kind (qh w w.U[i].kind c.T c.U.length)
   have hput:j3 (cs.map (yk λl=>qa (y9 l))) bs clk (qA w.U[i].kind) (int w.U[i].kind) (qa (y9 (qh w w.U[i].kind c.T c.U.length)))=slO (yh cs w.U[i].kind (qh w w.U[i].kind c.T c.U.length)) bs' clk':=hput
   obtain⟨u1,u2⟩:=hS.upd hms off1 (cs':=yh cs w.U[i].kind (qh w w.U[i].kind c.T c.U.length)) bs' clk' (λkd l hh=>by
    rw[Ax]at hh
    by_cases e:kd=w.U[i].kind
    ·rw[if_pos e]at hh
     rw[e];exact(Option.some.inj hh).symm
    ·rw[if_neg e]at hh
     exact hS.sl kd l hh)
   have hdj:=W0 (x:=slO (yh cs w.U[i].kind (qh w w.U[i].kind c.T c.U.length)) bs' clk') hdN2 (hdN2 m (jb (F6 hS.hm hms)))
   rw[u2]at hdj
   rw[hput,G4 (hdN2 m (jb (F6 hS.hm hms))),u2]
   refine⟨Tv,(_,_,_,_,N2),⟨rfl,⟨hdj,hF2⟩,u1,?_⟩,⟨Tq,Tq,Tq,Tq,Tq,Tq,Tq,Tq,Tv⟩,⟨rfl,Tv⟩⟩
   rw[Ax,if_pos rfl]
 clear hdN hF
 rintro⟨G2,cs2,bs2,clk2,N2⟩ _ ⟨rfl,⟨hdN,hF⟩,hS2,hg2⟩
 dsimp only at hdN hF hS2 hg2⊢
 have hmo:((F1.un (svS G2 s {w with U:=mvL w c k} (.s (.slice oa w.U.length cap)) o0 o1 o2 p)).un N2).obj m=some (slO cs2 bs2 clk2):=z8 hdN (F6 hS2.hm hms)
 have hxk:G2.obj xw=some (.cells (wkC s c (xh fb))):=by rw[hS2.keep xw hox (Ne.symm hmx)];exact hx0
 have hx1:((F1.un (svS G2 s {w with U:=mvL w c k} (.s (.slice oa w.U.length cap)) o0 o1 o2 p)).un N2).obj xw=some (.cells (wkC s c (xh fb))):=z8 hdN (F6 hxk hxs)
 have hiL:i<(mvL w c k).length:=by rw[Ae];exact hi
 refine AWp.of_vc zb ?_
 refine za (o:=((F1.un (svS G2 s _ _ o0 o1 o2 p)).un N2).obj xw) _ hx1 ?_
 refine vo rfl (it:=ti390) (ie:=ti29) (ik:=ti2) rfl rfl rfl rfl hmo rfl (qA w.U[i].kind) (λe he=>?_) ?_
 ·obtain⟨e,_,rfl⟩:=Fac.1 he
  rfl
 rw[Fe,hg2]
 have hput:∀g,g=At w c k w.U[i].kind->(mvL w c k).set i (mvG g w.U[i])=mvL w c (k+1):=λg hg=>by
  rw[mn hlt hf hi,hg]
 have hlen:=D9 (qh w w.U[i].kind c.T c.U.length)
 have hid':(mvL w c k)[i].id=w.U[i].id:=Vm w c k i hi
 have fin:∀{F3 G3 L3},StandR F3 G3 s p {w with U:=mvL w c (k+1)} (.s (.slice oa w.U.length cap)) L3 o0 o1 o2->(∀q,ja (.s (.slice oa w.U.length cap)) q->G3.obj q=G2.obj q)->L3.length<=L1.length+1->(∀e∈L3,e.2.ok)->MvS F3 G3 G0 xw s p m w (.s (.slice oa w.U.length cap)) L3 L.length o0 o1 o2 c (k+1) cs2 bs2 clk2:=λg1 g2 g3 g4=>
  ⟨g1,λq h1 h2=>(g2 q h1).trans (hS2.keep q h1 h2),(g2 m off1).trans hS2.hm,by have:=hS2.hl;omega,g4,hS2.sl⟩
 have hdec:c.U.length-(k+1)<c.U.length-k:=by omega
 have hL1:=hS2.hl
 refine bcd (λc5=>?_) (λc5=>?_)
 ·rw[zm,hlen]at c5
  have hk2:k<(y9 (qh w w.U[i].kind c.T c.U.length)).length:=by rw[hlen];omega
  have hk3:k<(qh w w.U[i].kind c.T c.U.length).length:=by omega
  have hg9:(y9 (qh w w.U[i].kind c.T c.U.length))[k]=At w c k w.U[i].kind:=by
   rw[mq hk3];exact Fbx ..
  refine⟨k,rfl,za _ (zr hk2) ?_⟩
  refine Qc zb gp ?_
  refine za (o:=((F1.un (svS G2 s _ _ o0 o1 o2 p)).un N2).obj xw) _ hx1 ?_
  have hpt:=N7 hS2.S hos (Vl hm.hr c k) Qaj (by omega) hS2.ok hiL (mvG ((y9 (qh w w.U[i].kind c.T c.U.length))[k]'hk2) w.U[i]) hid' (show w.U[i].pos.ok from hn _ (Faa hi)) (λr S=>r=.tup []/\∃F3 G3 L3,S=F3.un (svS G3 s {w with U:=(mvL w c k).set i (mvG ((y9 (qh w w.U[i].kind c.T c.U.length))[k]'hk2) w.U[i])} (.s (.slice oa w.U.length cap)) o0 o1 o2 p)/\StandR F3 G3 s p {w with U:=(mvL w c k).set i (mvG ((y9 (qh w w.U[i].kind c.T c.U.length))[k]'hk2) w.U[i])} (.s (.slice oa w.U.length cap)) L3 o0 o1 o2/\(∀q,ja (.s (.slice oa w.U.length cap)) q->G3.obj q=G2.obj q)/\L3.length<=L1.length+1/\∀e∈L3,e.2.ok) (λF3 G3 L3 g1 g2 g3 g4=>⟨rfl,F3,G3,L3,rfl,g1,g2,g3,g4⟩)
  refine⟨ACalls.frame hdN hpt ?_,Tv⟩
  rintro _ _ ⟨rfl,F3,G3,L3,rfl,g1,g2,g3,g4⟩ hdN3
  refine⟨Tv,?_⟩
  dsimp only at g1 hdN3⊢
  rw[hput _ hg9]at g1 hdN3⊢
  refine AWp.of_vc zb ?_
  refine Qd ?_
  exact⟨(k+1,F3,G3,L3,cs2,bs2,clk2,N2),hdec,⟨by dsimp only;omega,rfl,⟨hdN3,hF⟩,fin g1 g2 g3 g4⟩,Qal,Tv⟩
 ·rw[zm,hlen]at c5
  have hk3:¬k<(qh w w.U[i].kind c.T c.U.length).length:=by omega
  have hg9:c.T=At w c k w.U[i].kind:=(mr hk3).symm
  refine Qc zb gp ?_
  refine za (o:=((F1.un (svS G2 s _ _ o0 o1 o2 p)).un N2).obj xw) _ hx1 ?_
  have hpt:=N7 hS2.S hos (Vl hm.hr c k) Qaj (by omega) hS2.ok hiL (mvG c.T w.U[i]) hid' (show w.U[i].pos.ok from hn _ (Faa hi)) (λr S=>r=.tup []/\∃F3 G3 L3,S=F3.un (svS G3 s {w with U:=(mvL w c k).set i (mvG c.T w.U[i])} (.s (.slice oa w.U.length cap)) o0 o1 o2 p)/\StandR F3 G3 s p {w with U:=(mvL w c k).set i (mvG c.T w.U[i])} (.s (.slice oa w.U.length cap)) L3 o0 o1 o2/\(∀q,ja (.s (.slice oa w.U.length cap)) q->G3.obj q=G2.obj q)/\L3.length<=L1.length+1/\∀e∈L3,e.2.ok) (λF3 G3 L3 g1 g2 g3 g4=>⟨rfl,F3,G3,L3,rfl,g1,g2,g3,g4⟩)
  refine⟨ACalls.frame hdN hpt ?_,Tv⟩
  rintro _ _ ⟨rfl,F3,G3,L3,rfl,g1,g2,g3,g4⟩ hdN3
  refine⟨Tv,?_⟩
  dsimp only at g1 hdN3⊢
  rw[hput _ hg9]at g1 hdN3⊢
  refine AWp.of_vc zb ?_
  refine Qd ?_
  exact⟨(k+1,F3,G3,L3,cs2,bs2,clk2,N2),hdec,⟨by dsimp only;omega,rfl,⟨hdN3,hF⟩,fin g1 g2 g3 g4⟩,Qal,Tv⟩
section
variable {F G N:Store} {xw s p fb kc:Nat} {room:Int} {w:Wld} {v o0 o1 o2:AV}
theorem Qak{p:Prop}(h:p:=by repeat(first|exact Tv|refine⟨rfl,?_⟩|refine⟨za (o:=((F.un (svS G s w _ o0 o1 o2 p)).un N).obj xw) _ hx rfl,?_⟩|refine⟨za (o:=((F.un (svS G s w _ o0 o1 o2 p)).un N).obj s) _ hs rfl,?_⟩)):p:=h
theorem zau{kc:Nat}{L:List Ent}{c:Cmd}(hW:Work F G xw s p w v L o0 o1 o2 c (xh fb))(hdN:zh (F.un (svS G s w v o0 o1 o2 p)) N)(hFN:FldAny fb room (kc:Nat) N)(hm:MayF w)(hn:∀u∈w.U,u.pos.ok){i:Nat}(hi:i<w.U.length)(t:Nat)(ht:t<w.G.T.length)(htI:c.T=(t:Int))(R:Ja)
  (h:∀S' N',Ab w w.U[i] c.T=none->zh S' N'->FldAny fb room (kc:Nat) N'->R (V.bool false) (S'.un N'))
  (h1:∀t2,Ab w w.U[i] c.T=some t2->t2<w.G.T.length->∀F' G' L' q0 q1 q2 N',Work F' G' xw s p (Od w i t2 hi) v L' q0 q1 q2 c (xh fb)->zh (F'.un (svS G' s (Od w i t2 hi) v q0 q1 q2 p)) N'->FldAny fb room (kc:Nat) N'->R (V.bool true) ((F'.un (svS G' s (Od w i t2 hi) v q0 q1 q2 p)).un N')):Jb 321 [ptr xw,.agg (zk w.U[i])] ((F.un (svS G s w v o0 o1 o2 p)).un N) R:=by
 have hU:=hm.hU
 have hB:=hm.hB
 have hx:=hW.x (F':=F) (q0:=o0) (q1:=o1) (q2:=o2)
 have hs:=hW.s (F':=F) (q0:=o0) (q1:=o1) (q2:=o2)
 have hr:=hW.r (F':=F) (q0:=o0) (q1:=o1) (q2:=o2)
 obtain⟨oa,cap,e,hget⟩:=hW.S.hu.form
 subst e
 refine Qa (c:=cfg 52) zb Tryz.func321 ?_
 refine Qc zb zs9 ?_
 refine za (o:=((F.un (svS G s w _ o0 o1 o2 p)).un N).obj xw) _ (z8 hdN hx) ?_
 refine⟨cx ⟨hx,hs,hr⟩ hdN hFN hm w.U[i].kind t ht c.T htI 64 (by decide) _ (λN1 hd1 hF1=>⟨?_,?_⟩),Tv⟩
 ·repeat(first|exact Tv|refine⟨rfl,?_⟩|refine⟨za (o:=((F.un (svS G s w _ o0 o1 o2 p)).un N1).obj xw) _ (z8 hd1 hx) rfl,?_⟩)
 have hlen:=zrt w w.U[i].kind c.T 64
 have hlt3:=λ(t2:Nat) (h2:t2∈qh w w.U[i].kind c.T 64)=>(Si h2).1
 have hsome:=λ(j:Nat) (hj:j<(qh w (w.U[i]'hi).kind c.T 64).length)=>zx1 (w:=w) (u:=w.U[i]'hi) (tile:=c.T) (j:=j) hj
 have hnone:=zx2 (w:=w) (u:=w.U[i]'hi) (tile:=c.T)
 generalize qh w w.U[i].kind c.T 64=sl at*
 refine AWp.loop (σ:=Nat×Store×AV×AV×AV) ⟨λx=>[(0,.av (ptr xw)),(3,.bx 3 0),(16,.av (qa (y9 sl))),(17,.av (int (sl.length:Nat))),(18,.av (int (x.1:Nat)))],λ_=>[(3,zk w.U[i])],
  λx st'=>x.1<=sl.length/\st'=(x.2.1.un (svS G s w (.s (.slice oa w.U.length cap)) x.2.2.1 x.2.2.2.1 x.2.2.2.2 p)).un N1/\zh (x.2.1.un (svS G s w (.s (.slice oa w.U.length cap)) x.2.2.1 x.2.2.2.1 x.2.2.2.2 p)) N1/\StandR x.2.1 G s p w (.s (.slice oa w.U.length cap)) L x.2.2.1 x.2.2.2.1 x.2.2.2.2/\∀j,(hj:j<sl.length)->j<x.1->¬qf w w.U[i].id w.U[i].kind (ye w.G sl[j]),λx=>sl.length-x.1⟩ zb ?_ ?_
 ·refine⟨(0,F,o0,o1,o2),Tv,⟨Faj _,rfl,hd1,hW.S,λj _ hj=>by dsimp only at hj;omega⟩,⟨Tq,Tq,Tq,?_,Tq,Tv⟩,⟨rfl,Tv⟩⟩
  show LV.le (.av (int ((rws zz (y9 sl)).length:Nat))) (.av (int (sl.length:Nat)))
  rw[zm,D9];exact Tq
 rintro⟨j,F1,q0,q1,q2⟩ st' ⟨hj,rfl,hd2,hS1,hall⟩
 dsimp only at hj hd2 hS1 hall⊢
 refine bcd (λc1=>?_) (λc1=>?_)
 rotate_left
 ·exact ret (h _ _ (hnone λj' hj'=>hall j' hj' (by omega)) hd2 hF1)
 have hlt:j<sl.length:=by omega
 have hlt2:j<(y9 sl).length:=by rw[D9];exact hlt
 have hsl:=hlt3 _ (Faa hlt)
 have hnat:(y9 sl)[j]'hlt2=((sl[j]:Nat):Int):=Fbx ..
 have hx1:=hW.x (F':=F1) (q0:=q0) (q1:=q1) (q2:=q2)
 have hs1:=hW.s (F':=F1) (q0:=q0) (q1:=q1) (q2:=q2)
 have ha:=qi hm.hg
 refine⟨j,rfl,za _ (zr hlt2) ?_⟩
 refine za (o:=((F1.un (svS G s w _ q0 q1 q2 p)).un N1).obj xw) _ (z8 hd2 hx1) ?_
 refine za (o:=((F1.un (svS G s w _ q0 q1 q2 p)).un N1).obj s) _ (z8 hd2 hs1) ?_
 refine Oo w.G hm.hg sl[j] (by omega) _ hnat _ _ ?_
 refine Qc zb zs8 ?_
 refine za (o:=((F1.un (svS G s w _ q0 q1 q2 p)).un N1).obj xw) _ (z8 hd2 hx1) ?_
 have hpl:=Sg hS1 hm.hg (by omega) hm.hb hm.hr (by omega) hn hW.hL hW.hF w.U[i].id w.U[i].kind (ye w.G sl[j]) (Mi hm.hg hsl) (λr S=>∃z F2 a0 a1 a2,r=V.bool z/\S=F2.un (svS G s w (.s (.slice oa w.U.length cap)) a0 a1 a2 p)/\(z=true↔qf w w.U[i].id w.U[i].kind (ye w.G sl[j]))/\StandR F2 G s p w (.s (.slice oa w.U.length cap)) L a0 a1 a2) (λz F2 a0 a1 a2 hz hS2=>⟨z,F2,a0,a1,a2,rfl,rfl,hz,hS2⟩)
 refine⟨ACalls.frame hd2 hpl ?_,Tv⟩
 rintro _ _ ⟨z,F2,a0,a1,a2,rfl,rfl,hz,hS2⟩ hd3
 have hx2:=hW.x (F':=F2) (q0:=a0) (q1:=a1) (q2:=a2)
 have hs2:=hW.s (F':=F2) (q0:=a0) (q1:=a1) (q2:=a2)
 refine⟨Tv,?_⟩
 refine zj (λc2=>?_) (λc2=>?_)
 rotate_left
 ·refine Qd ?_
  refine⟨(j+1,F2,a0,a1,a2),?_,⟨by dsimp only;omega,rfl,hd3,hS2,λj' hj' hjj=>?_⟩,Qal,⟨rfl,Tv⟩⟩
  ·show sl.length-(j+1)<sl.length-j
   omega
  ·by_cases e:j'=j
   ·subst e
    intro hh
    have:=hz.2 hh
    rw[this]at c2;cases c2
   ·exact hall j' hj' (by dsimp only at hjj;omega)
 have hcl:=hz.1 c2
 have hout:=hsome j hlt (λi' hi' hii=>hall i' hi' hii) hcl
 refine Qc zb zs7 ?_
 refine Qao ?_
 refine Qap ?_
 refine Qc zb zs6 ?_
 refine za (o:=((F2.un (svS G s w _ a0 a1 a2 p)).un N1).obj xw) _ (z8 hd3 hx2) ?_
 have hpt:=Sy hS2 hW.os hm.hr (by omega) (by have:=hW.hL;omega) (Hg hW.hF hn) hi (wo w.U[i] (ye w.G sl[j])) rfl (Mi hm.hg hsl) (λr S=>r=.tup []/\∃F3 G3,S=F3.un (svS G3 s {w with U:=w.U.set i (wo w.U[i] (ye w.G sl[j]))} (.s (.slice oa w.U.length cap)) a0 a1 a2 p)/\StandR F3 G3 s p {w with U:=w.U.set i (wo w.U[i] (ye w.G sl[j]))} (.s (.slice oa w.U.length cap)) (Bl L (wo w.U[i] (ye w.G sl[j]))) a0 a1 a2/\∀q,ja (.s (.slice oa w.U.length cap)) q->G3.obj q=G.obj q) (λF3 G3 g1 g2=>⟨rfl,F3,G3,rfl,g1,g2⟩)
 refine⟨ACalls.frame hd3 hpt ?_,Tv⟩
 rintro _ _ ⟨rfl,F3,G3,rfl,g1,g2⟩ hd4
 refine⟨Tv,?_⟩
 have hF3:=l4 hW.hF hm.hr hi (u:=wo w.U[i] (ye w.G sl[j])) rfl
 refine ret (h1 sl[j] hout hsl F3 G3 _ a0 a1 a2 N1 ⟨g1,by rw[g2 xw hW.ox];exact hW.hx,hW.ox,hW.os,?_,hF3⟩ hd4 hF1)
 obtain⟨_,_,_,_,_,_,_,_,inv⟩:=g1.hc
 exact l5 inv.n1 hF3
theorem zal{kc:Nat}{L:List Ent}{c:Cmd}(hW:Work F G xw s p w v L o0 o1 o2 c (xh fb))(hdN:zh (F.un (svS G s w v o0 o1 o2 p)) N)(hFN:FldAny fb room (kc:Nat) N)(hm:MayF w)(hn:∀u∈w.U,u.pos.ok)(R:Ja)
  (h:∀S' N',ulE w c≠0->zh S' N'->FldAny fb room (kc:Nat) N'->R (int (ulE w c)) (S'.un N')) (h0:ulE w c=0->∀S' N',Bn S' xw s c (xh fb) (ulW w c)->zh S' N'->FldAny fb room (kc:Nat) N'->R (int 0) (S'.un N')):Jb 231 [ptr xw] ((F.un (svS G s w v o0 o1 o2 p)).un N) R:=by
 have hU:=hm.hU
 have hx:=z8 hdN (hW.x (F':=F) (q0:=o0) (q1:=o1) (q2:=o2))
 have hs:=z8 hdN (hW.s (F':=F) (q0:=o0) (q1:=o1) (q2:=o2))
 have hr:=(hW.r (F':=F) (q0:=o0) (q1:=o1) (q2:=o2)).unL hdN
 obtain⟨oa,cap,e,hget⟩:=hW.S.hu.form
 subst e
 have ha:=qi hm.hg
 refine Qa (c:=cfg 96) zb Tryz.func231 ?_
 refine th ⟨hx,hs,hr⟩ hm.hr (by omega) _ ?_
 refine qr (λc1=>?_) (λc1=>?_)
 ·have:=zcj c1
  rw[this]at h
  exact ret (h _ _ c1 hdN hFN)
 obtain⟨hask,hroom⟩:=bg c1
 obtain⟨ix,hix,hfx,hidx,hux,_,_⟩:=Gs hask
 refine Qc zb ztt ?_
 refine za (o:=((F.un (svS G s w _ o0 o1 o2 p)).un N).obj xw) _ hx ?_
 refine za (o:=((F.un (svS G s w _ o0 o1 o2 p)).un N).obj s) _ hs ?_
 refine za (o:=((F.un (svS G s w _ o0 o1 o2 p)).un N).obj xw) _ hx ?_
 refine⟨Oz w.G c.T hm.hg _ _ (λz hz=>⟨Tv,?_⟩),Tv⟩
 refine Qap ?_
 refine ym ?_
 refine zj (λc2=>?_) (λc2=>?_)
 rotate_left
 ·have:=zci c1 (λhh=>by have:=hz.2 hh;rw[this]at c2;cases c2)
  rw[this]at h
  exact ret (h _ _ (by decide) hdN hFN)
 have htile:=hz.1 c2
 have htn:c.T=((c.T.toNat:Nat):Int):=by omega
 have htl:c.T.toNat<w.G.T.length:=by omega
 have hup:(uAt w c.N).pos.ok:=d9 hn c.N
 refine Qc zb zts ?_
 refine za (o:=((F.un (svS G s w _ o0 o1 o2 p)).un N).obj xw) _ hx ?_
 refine za (o:=((F.un (svS G s w _ o0 o1 o2 p)).un N).obj s) _ hs ?_
 refine za (o:=((F.un (svS G s w _ o0 o1 o2 p)).un N).obj xw) _ hx ?_
 refine⟨Oo w.G hm.hg c.T.toNat (by omega) _ htn _ _ ⟨?_,?_⟩,Tv⟩
 ·repeat(first|exact Tv|refine⟨rfl,?_⟩|refine⟨za (o:=((F.un (svS G s w _ o0 o1 o2 p)).un N).obj xw) _ hx rfl,?_⟩|refine⟨za (o:=((F.un (svS G s w _ o0 o1 o2 p)).un N).obj s) _ hs rfl,?_⟩)
 refine⟨p7 (ye w.G c.T.toNat) (uAt w c.N).pos (Mi hm.hg htl) hup _ _ ⟨Qak,?_⟩,Tv⟩
 refine Qap ?_
 refine bcd (λc3=>?_) (λc3=>?_)
 ·have:=zch c1 htile c3
  rw[this]at h
  exact ret (h _ _ (by decide) hdN hFN)
 refine Qc zb ztr ?_
 refine za (o:=((F.un (svS G s w _ o0 o1 o2 p)).un N).obj xw) _ hx ?_
 refine za (o:=((F.un (svS G s w _ o0 o1 o2 p)).un N).obj s) _ hs ?_
 rw[hux,hidx]
 refine⟨oe hr (by omega) c.N _ ⟨Qak,?_⟩,Tv⟩
 have e4:=λh4=>zcg (w:=w) (c:=c) c1 htile c3 h4
 have e5:=λx h4=>zcf (w:=w) (c:=c) c1 htile c3 (x:=x) h4
 have hids:=λid (hid:id∈zv w.U c.N)=>yaw (w:=w) hm.hr hid
 have hin:(zv w.U c.N).length<=w.U.length:=by unfold zv;rw[Faq];exact Fbz _ _
 generalize zv w.U c.N=ids at*
 refine AWp.loop (σ:=Nat×Wld×Store×Store×List Ent×AV×AV×AV×Store) ⟨λx=>[(0,.av (ptr xw)),(62,.av (qa ids)),(63,.av (int (ids.length:Nat))),(64,.av (int (x.1:Nat)))],λ_=>[],
  λx st'=>x.1<=ids.length/\st'=(x.2.2.1.un (svS x.2.2.2.1 s x.2.1 (.s (.slice oa w.U.length cap)) x.2.2.2.2.2.1 x.2.2.2.2.2.2.1 x.2.2.2.2.2.2.2.1 p)).un x.2.2.2.2.2.2.2.2/\(zh (x.2.2.1.un (svS x.2.2.2.1 s x.2.1 (.s (.slice oa w.U.length cap)) x.2.2.2.2.2.1 x.2.2.2.2.2.2.1 x.2.2.2.2.2.2.2.1 p)) x.2.2.2.2.2.2.2.2/\FldAny fb room (kc:Nat) x.2.2.2.2.2.2.2.2)/\Work x.2.2.1 x.2.2.2.1 xw s p x.2.1 (.s (.slice oa w.U.length cap)) x.2.2.2.2.1 x.2.2.2.2.2.1 x.2.2.2.2.2.2.1 x.2.2.2.2.2.2.2.1 c (xh fb)/\unl c.T (ids.drop x.1) x.2.1=unl c.T ids w/\MayF x.2.1/\(∀u∈x.2.1.U,u.pos.ok)/\x.2.1.U.length=w.U.length/\x.2.1.G=w.G/\∀id,yw x.2.1.U id=yw w.U id,λx=>ids.length-x.1⟩ zb ?_ ?_
 ·refine⟨(0,w,F,G,L,o0,o1,o2,N),Tv,⟨Faj _,rfl,⟨hdN,hFN⟩,hW,by rw[Fce],hm,hn,rfl,rfl,λ_=>rfl⟩,⟨Tq,Tq,?_,Tq,Tv⟩,Tv⟩
  show LV.le (.av (int ((rws zz ids).length:Nat))) (.av (int (ids.length:Nat)))
  rw[zm];exact Tq
 clear hdN hFN hx hs hr
 rintro⟨k,wc,F1,G1,L1,q0,q1,q2,N1⟩ st' ⟨hk,rfl,⟨hdN,hFN⟩,hW1,hun,hm1,hn1,hl1,hG1,hf1⟩
 dsimp only at hk hdN hFN hW1 hun hm1 hn1 hl1 hG1 hf1⊢
 have hx0:=hW1.x (F':=F1) (q0:=q0) (q1:=q1) (q2:=q2)
 have hs0:=hW1.s (F':=F1) (q0:=q0) (q1:=q1) (q2:=q2)
 have hr0:=hW1.r (F':=F1) (q0:=q0) (q1:=q1) (q2:=q2)
 have hx1:=z8 hdN hx0
 have hs1:=z8 hdN hs0
 have hr1:=hr0.unL hdN
 refine bcd (λh1=>?_) (λh1=>?_)
 rotate_left
 ·have:k=ids.length:=by omega
  subst this
  rw[List.drop_length]at hun
  obtain⟨g1,g2⟩:=e5 wc hun.symm
  rw[g2]at h0
  exact ret (h0 g1 _ N1 ⟨_,q0,q1,q2,p,hx0,hs0,hr0⟩ hdN hFN)
 have hlt:k<ids.length:=by omega
 obtain⟨iu,hiu,hfu⟩:=hids _ (Faa hlt)
 have hiu1:iu<wc.U.length:=by omega
 have hfu1:yw wc.U ids[k]=some iu:=by rw[hf1];exact hfu
 rw[Fen hlt]at hun
 refine⟨k,rfl,za _ (zr hlt) ?_⟩
 refine za (o:=((F1.un (svS G1 s wc _ q0 q1 q2 p)).un N1).obj xw) _ hx1 ?_
 refine za (o:=((F1.un (svS G1 s wc _ q0 q1 q2 p)).un N1).obj s) _ hs1 ?_
 refine P8 hr1 (by omega) hm1.hr ids[k] _ (λi hi z hz=>?_)
 obtain⟨g1,g2⟩:=pw hm1.hr hz hi
 have hzi:i=iu:=by
  cases z with
  |false=>rw[g2 rfl]at hfu1;cases hfu1
  |true=>rw[g1 rfl]at hfu1;exact Option.some.inj hfu1
 subst hzi
 refine za (o:=((F1.un (svS G1 s wc _ q0 q1 q2 p)).un N1).obj xw) _ hx1 ?_
 refine za (o:=((F1.un (svS G1 s wc _ q0 q1 q2 p)).un N1).obj s) _ hs1 ?_
 have hget1:=hr1.form
 obtain⟨oa2,cap2,e2,hget1⟩:=hget1
 simp only[AV.s.injEq,Value.slice.injEq]at e2
 obtain⟨rfl,_,rfl⟩:=e2
 obtain⟨b,J,rfl,hob⟩:=hget1 i hiu1
 refine⟨i,rfl,hiu,?_⟩
 refine za (o:=((F1.un (svS G1 s wc _ q0 q1 q2 p)).un N1).obj b) _ hob ?_
 refine xg (i:=ti36) (row:=zk wc.U[i]) rfl rfl (Iu w9 hiu1) ?_
 refine zau hW1 hdN hFN hm1 hn1 hiu1 c.T.toNat (by rw[hG1];exact htl) htn _ (λS' N2 hno hd2 hF2=>?_) (λt2 hso ht2 F2 G2 L2 a0 a1 a2 N2 hW2 hd2 hF2=>?_)
 ·rw[Rv hiu1 hfu1 hno]at hun
  have g5:=e4 hun.symm
  rw[g5]at h
  exact ret (h _ _ (by decide) hd2 hF2)
 ·rw[Ru hiu1 hfu1 hso]at hun
  refine Qd ?_
  refine⟨(k+1,Od wc i t2 hiu1,F2,G2,L2,a0,a1,a2,N2),?_,⟨by dsimp only;omega,rfl,⟨hd2,hF2⟩,hW2,hun,zzn hm1 hiu1 rfl (show vy wc.U[i].kind from hm1.hk _ (Faa hiu1)),λu hu=>?_,?_,hG1,λid=>?_⟩,Qal,Tv⟩
  ·show ids.length-(k+1)<ids.length-k
   omega
  ·rcases m3 (show u∈wc.U.set i _ from hu)with rfl|hu
   ·exact Mi hm1.hg ht2
   ·exact hn1 u hu
  ·show(wc.U.set i _).length=_
   rw[Fa8];exact hl1
  ·show yw (wc.U.set i (wo wc.U[i] (ye wc.G t2))) id=_
   rw[yc7 hm1.hr hiu1 (u:=wo wc.U[i] (ye wc.G t2)) rfl]
   exact hf1 id
end
end Go.Proofs
namespace Go.Proofs
open Go Go.V
set_option maxRecDepth 20000
set_option maxHeartbeats 4000000
end Go.Proofs
