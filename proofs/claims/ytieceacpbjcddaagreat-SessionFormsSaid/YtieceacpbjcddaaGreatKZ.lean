/- Ground of laws of thronglaw30: contracts and plain lemmas; no condition beyond the row's own. -/
import Derived.Test.YtieceacpbjcddaaGreatKY
import Derived.Test.YtieceacpbjcddaaGreatKX
import Derived.Test.YtieceacpbjcddaaGreatKP
set_option linter.unusedSimpArgs false
set_option linter.unusedVariables false
set_option linter.defProp false
namespace Go.Proofs
open Go Go.V
set_option maxRecDepth 20000
set_option maxHeartbeats 4000000
end Go.Proofs
namespace Go.Proofs
open Go Go.V
set_option maxRecDepth 20000
set_option maxHeartbeats 4000000
end Go.Proofs
namespace Go.Proofs
open Go Go.V
set_option maxRecDepth 20000
set_option maxHeartbeats 4000000
end Go.Proofs
namespace Go.Proofs
open Go Go.V
set_option maxRecDepth 20000
set_option maxHeartbeats 4000000
end Go.Proofs
namespace Go.Proofs
open Go Go.V
set_option maxRecDepth 20000
set_option maxHeartbeats 4000000
theorem zwv{Nu N:Store}{w:Wld}{v:AV}(hu:RowsQ 10 zl Nu v w.U)(hp:playW w)(hd:zg Nu N){fb:Nat}{room:Int}{k:Nat}(hF:FldAny fb room (k:Nat) N)(hk:k<=1000000000000000000)(R:Ja)
  (h:∀X N',RowsQ 10 zl X v (xt w).U->zg X N'->FldAny fb room ((k+w.U.length:Nat):Int) N'->R (.agg (q9 (xt w) v)) (X.un N')):Jb 86 [.agg (q9 w v),ptr fb] (Nu.un N) R:=by
 have hm:=Ds hp.1
 have hU:=hm.hU
 obtain⟨oa,cap,ev,hget⟩:=hu.form
 subst ev
 refine Qa (c:=cfg 45 [13] []) zb Tryz.func86 ?_
 refine ACalls.frame hd (zvk w _ Nu hu (by omega) hp.2 (λr S=>∃F s p L o0 o1 o2,r=ptr s/\S=F.un (svS Nu s w (.s (.slice oa w.U.length cap)) o0 o1 o2 p)/\Fresh Nu s/\StandR F Nu s p w (.s (.slice oa w.U.length cap)) L o0 o1 o2/\L.length<=w.U.length/\(yi w.U->∀e,e∈L↔∃u∈w.U,u.inn=0/\e=(u.id,u.pos))) (λF s p L o0 o1 o2 h1 h2 h3 h4=>⟨F,s,p,L,o0,o1,o2,rfl,rfl,h1,h2,h3,h4⟩)) ?_
 rintro r S ⟨F,s,p,L,o0,o1,o2,rfl,rfl,hs,hS,hLl,hmem⟩ hd1
 refine yew rfl (it:=ti166) rfl rfl ?_
 intro mb hmb
 have hmbF:=fresh_un hmb
 have hnF:¬F.has mb/\¬(svS Nu s w (.s (.slice oa w.U.length cap)) o0 o1 o2 p).has mb:=by
  have:=fresh_iff.1 hmbF.1
  exact⟨λhh=>this (un_has.2 (.inl hh)),λhh=>this (un_has.2 (.inr hh))⟩
 have hmN2:¬N.has mb:=fresh_iff.1 hmbF.2
 have hms:mb≠s:=λe=>hnF.2 (svS_has.2 (.inl e))
 have hmN:¬Nu.has mb:=λhh=>hnF.2 (svS_has.2 (.inr hh))
 have hmN0:Nu.obj mb=none:=(kz hmN).1
 have omb:Cu (.s (.slice oa w.U.length cap)) mb:=Vj hu hmN0
 have oms:Cu (.s (.slice oa w.U.length cap)) s:=Vj hu hS.hs
 have e0:((F.un (svS Nu s w (.s (.slice oa w.U.length cap)) o0 o1 o2 p)).un N).sO mb (AObj.cells [AV.s (Value.pointer (some {block:=s,off:=0})),AV.s (Value.iface 166 (Value.pointer (some {block:=fb,off:=0})))])=(F.un (svS (Nu.sO mb (.cells [ptr s,Lu fb])) s w (.s (.slice oa w.U.length cap)) o0 o1 o2 p)).un N:=by
  rw[Gf hmN2,zo]
  unfold svS
  rw[H4 hms]
  rfl
 have hW:MoverG (Lu fb) F (Nu.sO mb (.cells [ptr s,Lu fb])) mb s p w (.s (.slice oa w.U.length cap)) L o0 o1 o2:=
  ⟨⟨hS.hc,λi h1 h2=>by
    rcases svS_has.1 h2 with h2|h2
    ·exact hS.hd i h1 (svS_has.2 (.inl h2))
    ·rcases has_setObj_iff.1 h2 with h2|h2
     ·subst h2;exact hnF.1 h1
     ·exact hS.hd i h1 (svS_has.2 (.inr h2)),by rw[zf (Ne.symm hms)];exact hS.hs,hu.set omb _,hS.h0,hS.h1,hS.h2⟩,zc _ _ _,omb,oms,hLl,hmem hp.1.1.2.1⟩
 have hd2:zg (F.un (svS (Nu.sO mb (.cells [ptr s,Lu fb])) s w (.s (.slice oa w.U.length cap)) o0 o1 o2 p)) N:=λi h1 h2=>by
  rcases un_has.1 h1 with h1|h1
  ·exact hd1 i (un_has.2 (.inl h1)) h2
  ·rcases svS_has.1 h1 with h1|h1
   ·exact hd1 i (un_has.2 (.inr (svS_has.2 (.inl h1)))) h2
   ·rcases has_setObj_iff.1 h1 with h1|h1
    ·subst h1;exact hmN2 h2
    ·exact hd1 i (un_has.2 (.inr (svS_has.2 (.inr h1)))) h2
 rw[e0]
 clear e0 hmbF hmb hnF hd1 hS hs hLl hmem
 refine AWp.loop (σ:=Nat) ⟨λi=>[(5,.av (ptr mb)),(16,.av (int (w.U.length:Nat))),(17,.av (int (i:Nat))),(4,.bx 4 0)],λ_=>[(4,Gc)],
  λi S=>i<=w.U.length/\∃F G L q0 q1 q2 n N,S=(F.un (svS G s (goN w i) (.s (.slice oa w.U.length cap)) q0 q1 q2 p)).un N/\MoverG (Lu fb) F G mb s p (goN w i) (.s (.slice oa w.U.length cap)) L q0 q1 q2/\zg (F.un (svS G s (goN w i) (.s (.slice oa w.U.length cap)) q0 q1 q2 p)) N/\FldAny fb room ((k+n:Nat):Int) N/\n<=i,λi=>w.U.length-i⟩ zb ?_ ?_
 ·exact⟨0,Tv,⟨Faf _,F,_,L,o0,o1,o2,0,N,rfl,hW,hd2,hF,Fah _⟩,⟨Tq,Tq,Tq,Tq,Tv⟩,⟨rfl,Tv⟩⟩
 clear hW hd2 hF hd hmN2 hmN hmN0 hms omb oms hu hget
 rintro i S ⟨hi,F1,G1,L1,q0,q1,q2,n,N1,rfl,hW,hd1,hF,hn⟩
 obtain⟨hpi,hli,_,_⟩:=Oz hp i
 have hmi:=Ds hpi.1
 refine bcd (λh1=>?_) (λh1=>?_)
 ·have hlt:i<w.U.length:=by omega
  have hil:i<(goN w i).U.length:=by omega
  obtain⟨oa2,cap2,ev2,hget2⟩:=hW.S.hu.form
  obtain⟨b,J,hoa,hob0⟩:=hget2 i hil
  have hoa3:oa=some ⟨b,0,none⟩:=by
   simp only[AV.s.injEq,Value.slice.injEq]at ev2
   rw[ev2.1,hoa]
  subst hoa3
  have hbs:b≠s:=λe=>by rw[e,hW.S.hs]at hob0;cases hob0
  have hob:((F1.un (svS G1 s (goN w i) (.s (.slice (some ⟨b,0,none⟩) w.U.length cap)) q0 q1 q2 p)).un N1).obj b=some (.cells ((rws zl (goN w i).U).flatten++J)):=yr hd1 (zd (by
   show(G1.sO s _).obj b=_
   rw[zf hbs];exact hob0))
  refine za (o:=((F1.un (svS G1 s (goN w i) (.s (.slice (some ⟨b,0,none⟩) w.U.length cap)) q0 q1 q2 p)).un N1).obj mb) _ (yr hd1 hW.m) ?_
  refine za (o:=((F1.un (svS G1 s (goN w i) (.s (.slice (some ⟨b,0,none⟩) w.U.length cap)) q0 q1 q2 p)).un N1).obj s) _ (yr hd1 hW.s) ?_
  refine⟨i,rfl,hlt,?_⟩
  refine za (o:=((F1.un (svS G1 s (goN w i) (.s (.slice (some ⟨b,0,none⟩) w.U.length cap)) q0 q1 q2 p)).un N1).obj b) _ hob ?_
  refine xm (i:=ti37) (row:=zl (goN w i).U[i]) rfl rfl (Sm Cn hil) ?_
  refine qf (λc1=>?_) (λc1=>?_)
  ·have hg:=zzv hil c1
   refine za3 (zy6 hmi fb room k (n+1) (by omega)) (Nat.lt_succ_self n) hW hd1 hF hpi.1 hpi.2 hil c1 _ (λF2 G2 L2 a0 a1 a2 n2 N2 hn2 hW2 hd2 hF2=>?_)
   refine Qd ?_
   refine⟨i+1,(show w.U.length-(i+1)<w.U.length-i by omega),⟨hlt,F2,G2,L2,a0,a1,a2,n2,N2,?_,?_,?_,hF2,by omega⟩,Qao,⟨rfl,Tv⟩⟩
   ·rw[hg]
   ·rw[hg];exact hW2
   ·rw[hg];exact hd2
  ·have hg:=zzu hil c1
   refine Qd ?_
   refine⟨i+1,(show w.U.length-(i+1)<w.U.length-i by omega),⟨hlt,F1,G1,L1,q0,q1,q2,n,N1,?_,?_,?_,hF,by omega⟩,Qao,⟨rfl,Tv⟩⟩
   ·rw[hg]
   ·rw[hg];exact hW
   ·rw[hg];exact hd1
 ·have:i=w.U.length:=by omega
  subst this
  obtain⟨oa2,cap2,ev2,_⟩:=hW.S.hu.form
  refine za (o:=((F1.un (svS G1 s (goN w w.U.length) (.s (.slice oa w.U.length cap)) q0 q1 q2 p)).un N1).obj mb) _ (yr hd1 hW.m) ?_
  refine za (o:=((F1.un (svS G1 s (goN w w.U.length) (.s (.slice oa w.U.length cap)) q0 q1 q2 p)).un N1).obj s) _ (yr hd1 hW.s) ?_
  exact ret (h _ _ (R9 hW.S.hs hW.S.hu).un hd1 (hF.mono (by omega)))
def j9(g:Gnd)(n:Int):Wld:=⟨0,n,1,g,[],[]⟩
def qx(g:Gnd)(n:Int):Prop:=zp g/\1<=n/\n<=8
theorem ut{G:Store}{g:Gnd}{v:AV}(n:Int)(hn:zy n)
  (hMay:∀R:AV->Store->Prop,(∀b:Bool,(b=true↔zp g)->R (V.bool b) G)->Jb 80 [.agg [int g.W,int g.H,v]] G R)
  (hOwn:∀R:AV->Store->Prop,(∀vT N,RowsQ 1 u8C N vT g.T->zg N G->R (.agg [int g.W,int g.H,vT]) (N.un G))->Jb 82 [.agg [int g.W,int g.H,v]] G R):
  Jb 45 [.agg [int g.W,int g.H,v],int n] G λr S=>(¬qx g n/\r=.tup [.agg Gc,int 1]/\S=G)∨
   (qx g n/\∃vT N,RowsQ 1 u8C N vT g.T/\zg N G/\r=.tup [.agg [int 0,int n,int 1,int g.W,int g.H,vT,nil,nil],int 0]/\S=N.un G):=by
 refine Qa (c:=cfg 22) zb Tryz.func45 ?_
 refine hMay _ (λz hz=>?_)
 have bad:¬qx g n->(¬qx g n/\(.tup [.agg Gc,int 1]:AV)=.tup [.agg Gc,int 1]/\G=G)∨
   (qx g n/\∃vT N,RowsQ 1 u8C N vT g.T/\zg N G/\(.tup [.agg Gc,int 1]:AV)=.tup [.agg [int 0,int n,int 1,int g.W,int g.H,vT,nil,nil],int 0]/\G=N.un G):=λh=>.inl ⟨h,rfl,rfl⟩
 refine yp ?_
 refine zi (λc1=>?_) (λc1=>?_)
 rotate_left
 ·exact ret (bad λhh=>by have:=hz.2 hh.1;rw[this]at c1;cases c1)
 refine bcd (λc2=>?_) (λc2=>?_)
 ·exact ret (bad λhh=>by have:=hh.2;omega)
 refine bcd (λc3=>?_) (λc3=>?_)
 ·exact ret (bad λhh=>by have:=hh.2;omega)
 refine hOwn _ (λvT N hv hd=>?_)
 have hform:=hv.form
 obtain⟨oa,cap,rfl,_⟩:=hform
 exact ret (.inr ⟨⟨hz.1 c1,by omega,by omega⟩,_,N,hv,hd,rfl,rfl⟩)
theorem Ml(g:Gnd)(hg:g.fits)(hT:g.T.length<=1000000000)(n:Int)(hn:zy n)(st:Store)(R:Ja)
  (hbad:¬qx g n->R (.tup [.agg Gc,int 1]) st) (hok:qx g n->R (.tup [.agg (zk (j9 g n)),int 0]) st):Jb 45 [.agg (zn g),int n] st R:=by
 refine C7 (Q:=λr=>(¬qx g n/\r=.tup [.agg Gc,int 1])\/(qx g n/\r=.tup [.agg (zk (j9 g n)),int 0])) ?_ st R λr hr=>?_
 ·refine(ut (G:=Store.empty) (v:=qc g.T) n hn (λR h=>ot g hg _ R h) (λR h=>Wg g hT _ R h)).frozen ?_
  rintro r S (⟨h1,rfl,rfl⟩|⟨h1,vT,N,hv,hd,rfl,rfl⟩)
  ·exact⟨_,.inl ⟨h1,rfl⟩,λOth M w v sto hx=>jk hx⟩
  ·refine⟨_,.inr ⟨h1,rfl⟩,λOth M w v sto hx=>hx.tup2 (λx hx=>?_) (λx hx=>jk hx)⟩
   have ho:OwnQ (N.un Store.empty) (j9 g n) vT nil nil N Store.empty Store.empty:=⟨by rw[Al,Al,Ax],hv,.inl (.inl ⟨rfl,rfl⟩),.inl (.inl ⟨rfl,rfl⟩),L6 _,L6 _⟩
   exact Vg ho sto hx
 ·rcases hr with⟨h1,rfl⟩|⟨h1,rfl⟩
  ·exact hbad h1
  ·exact hok h1
def Cg(w:Wld)(fb:Nat):List AV:=zk w++[ptr fb]
structure EngR(eb:Nat)(room:Int)(k:Nat)(w:Wld)(S:Store):Prop where
 out:∃N fb,S=N.sO eb (.cells (Cg w fb))/\¬N.has eb/\FldAny fb room (k:Nat) N
theorem FldAny.objs0{fb:Nat}{room k:Int}{N:Store}(h:FldAny fb room k N):FldAny fb room k N.objs0:=h.objs
theorem ur(w:Wld)(hw:w.fits)(hn:∀u∈w.U,u.pos.ok)(hT:w.G.T.length<=1000000)(hB:w.B.length<=1000000)(hU:w.U.length<=1000000)(room:Int)(hr:1<=room/\room<=4096)(R:Ja)
  (hbad:¬zx w->R (.tup [.s (.pointer none),int 1]) Store.empty) (hok:zx w->∀eb S,EngR eb room 0 w S->R (.tup [ptr eb,int 0]) S):Jb 46 [.agg (zk w),int room] Store.empty R:=by
 have key:Jb 46 [.agg (zk w),int room] Store.empty λr S=>(¬zx w/\r=.tup [.s (.pointer none),int 1])∨
   (zx w/\∃X N eb fb vT vB vU NT NB NU,OwnQ X w vT vB vU NT NB NU/\zg X N/\¬X.has eb/\¬N.has eb/\FldAny fb room ((0:Nat):Int) N/\r=.tup [ptr eb,int 0]/\S=(X.un N).sO eb (.cells (D9 w vT vB vU++[ptr fb]))):=by
  refine Qa (c:=cfg 25 [24] []) zb Tryz.func46 ?_
  refine yae room hr _ (λN fb hF=>?_)
  refine zw2 w hw hn _ _ (λz hz=>?_)
  refine yp ?_
  refine zi (λc1=>?_) (λc1=>?_)
  rotate_left
  ·exact ret (.inl ⟨λhh=>(by have:=hz.2 hh;rw[this]at c1;cases c1),rfl⟩)
  have hown:Jb 74 [.agg (zk w)] (Store.empty.un N) λr S=>∃X vT vB vU NT NB NU,OwnQ X w vT vB vU NT NB NU/\zg X N/\r=.agg (D9 w vT vB vU)/\S=X.un N:=
   ACalls.frame (W7 N) (Ve w (by omega) (by omega) (by omega) (λr S=>∃vT vB vU NT NB NU,OwnQ S w vT vB vU NT NB NU/\r=.agg (D9 w vT vB vU)) (λS vT vB vU NT NB NU h=>⟨vT,vB,vU,NT,NB,NU,h,rfl⟩)) (λr a' ⟨vT,vB,vU,NT,NB,NU,h1,h2⟩ hd=>⟨a',vT,vB,vU,NT,NB,NU,h1,hd,h2,rfl⟩)
  rw[Al]at hown
  refine hown.imp ?_
  rintro r S ⟨X,vT,vB,vU,NT,NB,NU,ho,hd,rfl,rfl⟩
  obtain⟨rT,rB,rU⟩:=Vf ho
  obtain⟨_,_,e1,_⟩:=rT.form
  obtain⟨_,_,e2,_⟩:=rB.form
  obtain⟨_,_,e3,_⟩:=rU.form
  subst e1 e2 e3
  intro eb heb
  have heb:=fresh_iff.1 heb
  exact ret (.inr ⟨hz.1 c1,X,N,eb,fb,_,_,_,NT,NB,NU,ho,hd,λh=>heb (un_has.2 (.inl h)),λh=>heb (un_has.2 (.inr h)),hF,rfl,rfl⟩)
 refine key.frozenEng ?_
 rintro r S (⟨h1,rfl⟩|⟨hm,X,N,eb,fb,vT,vB,vU,NT,NB,NU,ho,hd,h1,h2,hF,rfl,rfl⟩)
 ·exact .inl ⟨Store.empty,hbad h1,λb x hx=>(by cases hx),λb=>rfl⟩
 ·refine .inr ⟨_,X,N,eb,D9 w vT vB vU,zk w,_,hd,h1,h2,rfl,rfl,hok hm eb _ ⟨_,fb,rfl,?_,hF.objs0⟩,λOth M W sto=>⟨λx hx=>Vg ho sto hx,λx hx=>jk hx⟩⟩
  exact λh=>h2 (h.elim .inl λh=>absurd rfl h)
section
variable {eb k:Nat} {room:Int} {w:Wld} {S:Store}
theorem Qag{p:Prop}(h:p:=by repeat(first|exact Tv|refine⟨rfl,?_⟩|refine⟨za (o:=(xf _ Nt eb fb W).obj eb) _ (De _ _ _ _ _) rfl,?_⟩)):p:=h
def l8(fb:Nat):AV:=.s (.func (.func 85) #[.pointer (some ⟨fb,0,none⟩)] #[])
def DoC:Prop:=∀(fb:Nat) (room:Int) (k:Nat) (N:Store) (w:Wld) (c:Cmd),FldAny fb room (k:Nat) N->playW w->c.fits->∀R:AV->Store->Prop,(∀N',FldAny fb room (k:Nat) N'->R (.tup [.agg (zk (doW aE aW w c)),int (doE aE w c)]) N')->
 Jb 84 [.agg (zk w),.agg (yo c),l8 fb] N R
def xf(N Nt:Store)(eb fb:Nat)(w:Wld):Store:=N.un (Nt.sO eb (.cells (Cg w fb)))
theorem De(N Nt:Store)(eb fb:Nat)(w:Wld):(xf N Nt eb fb w).obj eb=some (.cells (Cg w fb)):=zd (zc _ _ _)
theorem Pg{a g:Store}{b:Nat}{x y:AObj}(h:zg a (g.sO b x)):zg a (g.sO b y):=λi h1 h2=>h i h1 (has_setObj_iff.2 (has_setObj_iff.1 h2))
theorem zpf(hE:EngR eb room k w S)(hw:playW w)(l:List Cmd)(hl:l=[]\/DoC)(hf:∀c∈l,c.fits)(hl2:l.length<=512)(ht:w.tick<1099511627776)(hk:k<=100000000000000000):
  Jb 47 [ptr eb,lst 10 yo l] S λr S'=>∃(N:Store) (fb:Nat) (X Nt:Store) (v vt:AV),r=.tup [vt,int 0]/\S'=(X.un N).un (Nt.sO eb (.cells (q9 (Dd w l) v++[ptr fb])))∧
   RowsQ 10 zl X v (Dd w l).U/\RowsQ 1 zu Nt vt (kc w l)/\zg X N/\zg (X.un N) (Nt.sO eb (.cells []))/\¬Nt.has eb/\FldAny fb room ((k+4096:Nat):Int) N:=by
 obtain⟨N,fb,rfl,hn,hF⟩:=hE.out
 refine Qa (c:=cfg 74) zb Tryz.func47 ?_
 refine za (o:=(N.sO eb _).obj eb) _ (zc _ _ _) ?_
 refine qf (λc1=>absurd c1 (by omega)) (λ_=>?_)
 refine bcd (λc2=>absurd c2 (by rw[zh];omega)) (λ_=>?_)
 have e0:N.sO eb (.cells (Cg w fb))=xf N Store.empty eb fb w:=by
  unfold xf
  rw[<-zo,Ax]
 have hd0:zg N (Store.empty.sO eb (.cells [])):=λi h1 h2=>by
  rcases has_setObj_iff.1 h2 with rfl|h2
  ·exact hn h1
  ·exact h2.elim (λh=>h rfl) (λh=>h rfl)
 rw[e0]
 refine AWp.loop (σ:=Nat×Store×Store×AV) ⟨λx=>[(0,.av (ptr eb)),(6,.av x.2.2.2),(22,.av (lst 10 yo l)),(23,.av (int (l.length:Nat))),(24,.av (int (x.1:Nat)))],λ_=>[],
  λx st'=>x.1<=l.length/\st'=xf x.2.1 x.2.2.1 eb fb (xr w (l.take x.1))/\RowsQ 1 zu x.2.2.1 x.2.2.2 (kc w (l.take x.1))/\zg x.2.1 (x.2.2.1.sO eb (.cells []))/\¬x.2.2.1.has eb/\FldAny fb room (k:Nat) x.2.1,λx=>l.length-x.1⟩ zb ?_ ?_
 ·refine⟨(0,N,Store.empty,.s (.slice none 0 0)),Tv,⟨Faf _,rfl,.inl (.inl ⟨rfl,rfl⟩),hd0,λh=>h.elim (λh=>h rfl) (λh=>h rfl),hF⟩,⟨Tq,Tq,Tq,?_,Tq,Tv⟩,Tv⟩
  show LV.le (.av (int ((rws yo l).length:Nat))) (.av (int (l.length:Nat)))
  rw[zh];exact Tq
 clear e0 hd0 hF hn hE
 rintro⟨i,N,Nt,vt⟩ st' ⟨hi,rfl,hvt,hd,hnt,hF⟩
 dsimp only at hi hvt hd hnt hF⊢
 refine bcd (λh1=>?_) (λh1=>?_)
 ·have hlt:i<l.length:=by omega
  obtain⟨q1,q2⟩:=ycm (w:=w) hlt
  have hp:=Nw (l.take i) hw
  refine⟨i,rfl,za _ (zw hlt) ?_⟩
  rcases hl with rfl|hDo
  ·exact absurd hlt (Fa7 i)
  have hcall:∀R:AV->Store->Prop,(∀N',FldAny fb room (k:Nat) N'->zg N' (Nt.sO eb (.cells []))->R (.tup [.agg (zk (doW aE aW (xr w (l.take i)) l[i])),int (doE aE (xr w (l.take i)) l[i])]) (xf N' Nt eb fb (xr w (l.take i))))->
    Jb 84 [.agg (zk (xr w (l.take i))),.agg (yo l[i]),l8 fb] (xf N Nt eb fb (xr w (l.take i))) R:=λR h=>
   ACalls.frame (Pg hd) (hDo fb room k N (xr w (l.take i)) l[i] hF hp (hf _ (Faa hlt)) (λr S=>FldAny fb room (k:Nat) S/\r=.tup [.agg (zk (doW aE aW (xr w (l.take i)) l[i])),int (doE aE (xr w (l.take i)) l[i])]) (λN' h=>⟨h,rfl⟩))
    λr a' ⟨h1,h2⟩ hd'=>h2▸h a' h1 (Pg hd')
  have hTl:(kc w (l.take i)).length<=i:=by rw[rx,Fal];omega
  have hoff:=Vj hvt (kz hnt).1
  generalize xr w (l.take i)=W at*
  generalize kc w (l.take i)=T at*
  generalize doW aE aW W l[i]=W2 at*
  generalize doE aE W l[i]=e2 at*
  refine Qc zb zqv ?_
  refine za (o:=(xf N Nt eb fb W).obj eb) _ (De _ _ _ _ _) ?_
  refine za (o:=(xf N Nt eb fb W).obj eb) _ (De _ _ _ _ _) ?_
  refine⟨hcall _ λN' hF' hd'=>⟨Tv,⟨⟨Qag,⟨⟨Tv,⟨⟨Tv,?_⟩,Tv⟩⟩,Tv⟩⟩,Tv⟩⟩,⟨⟨Qag,⟨hcall _ λN' hF' hd'=>⟨Tv,⟨⟨Tv,⟨⟨Tv,?_⟩,Tv⟩⟩,Tv⟩⟩,Tv⟩⟩,Tv⟩⟩
  all_goals
   refine Qc zb zqx ?_
   have hvtN:RowsQ 1 zu (xf N' Nt eb fb W) vt T:=(hvt.set hoff _).un
   refine⟨by decide,ti (ie:=ti2) rfl Hd (by decide) (v:=vt) (l:=T) hvtN e2 rfl (by omega) (λb cap L h5 h6 h7 h8=>?_),Tv⟩
   have hbe:b≠eb:=by
    rcases h5 with h5|⟨c0,h0,h5⟩
    ·exact λe=>fresh_iff.1 h5 (by rw[e];exact k9 (De _ _ _ _ _))
    ·exact hoff b _ c0 h5 h0
   have hbN:¬N'.has b:=by
    rcases h5 with h5|⟨c0,h0,h5⟩
    ·exact λe=>fresh_iff.1 h5 (un_has.2 (.inl e))
    ·exact λe=>hd' b e (has_setObj_iff.2 (.inr (hvt.has h5 h0)))
   have e1:(xf N' Nt eb fb W).sO b (.cells ((rws zu (T++[e2])).flatten++L))=xf N' (Nt.sO b (.cells ((rws zu (T++[e2])).flatten++L))) eb fb W:=by
    unfold xf
    rw[zo,H4 hbe]
   rw[e1]
   refine⟨?_,?_⟩
   ·first|exact rfl|(repeat(first|exact Tv|refine⟨rfl,?_⟩))
   refine⟨?_,Tv⟩
   refine za _ rfl (qy rfl (qw (v:=.agg (zk W2)) rfl rfl rfl rfl ?_))
   refine ku (i:=ti27) (v:=.agg (zk W2)) (xs:=zk W2) (b:=eb) (o:=0) (l:=Cg W fb) rfl rfl rfl (De _ _ _ _ _) (show 0+8<=9 by decide) ⟨Tv,?_⟩
   refine Qas ?_
   refine Qd ?_
   have e3:(xf N' (Nt.sO b (.cells ((rws zu (T++[e2])).flatten++L))) eb fb W).sO eb (.cells (Cg W2 fb))=xf N' (Nt.sO b (.cells ((rws zu (T++[e2])).flatten++L))) eb fb W2:=by
    unfold xf
    rw[zo,yl]
   refine⟨(i+1,N',Nt.sO b (.cells ((rws zu (T++[e2])).flatten++L)),_),(show l.length-(i+1)<l.length-i by omega),⟨by dsimp only;omega,?_,?_,?_,?_,hF'⟩,⟨Tq,Tq,Tq,Tq,Tq,Tv⟩,Tv⟩
   ·dsimp only;rw[q1];exact e3
   ·dsimp only;rw[q2];exact .inl (.inr ⟨b,cap,L,rfl,zc _ _ _,h6,h7,h8⟩)
   ·intro j h1 h2
    dsimp only at h1 h2
    rw[H4 (Ne.symm hbe)]at h2
    rcases has_setObj_iff.1 h2 with rfl|h2
    ·exact hbN h1
    ·exact hd' j h1 h2
   ·dsimp only
    intro h
    rcases has_setObj_iff.1 h with h|h
    ·exact hbe h.symm
    ·exact hnt h
 ·have:i=l.length:=by omega
  subst this
  rw[Fap]at hvt⊢
  have hp:=Nw l hw
  have htk:=bf l hw
  have hsz:=hp.sizes
  have hU:=(Ds hp.1).hU
  have heng:Dd w l=R7 (xr w l):=rfl
  generalize Dd w l=We at*
  generalize xr w l=W at*
  generalize kc w l=T at*
  have hown:∀R:AV->Store->Prop,(∀v X,RowsQ 10 zl X v W.U->zg X (xf N Nt eb fb W)->R (.agg (q9 W v)) (X.un (xf N Nt eb fb W)))->Jb 74 [.agg (zk W)] (xf N Nt eb fb W) R:=λR h=>by
   rw[<-Al (xf N Nt eb fb W)]
   refine ACalls.frame (W7 _) (zu9 W (by omega) (by omega) (by omega) (λr S=>∃v,RowsQ 10 zl S v W.U/\r=.agg (q9 W v)) (λv N h=>⟨v,h,rfl⟩)) ?_
   rintro r a' ⟨v,h1,rfl⟩ hd'
   exact h v a' h1 hd'
  refine Qc zb zqw ?_
  refine za (o:=(xf N Nt eb fb W).obj eb) _ (De _ _ _ _ _) ?_
  refine za (o:=(xf N Nt eb fb W).obj eb) _ (De _ _ _ _ _) ?_
  refine⟨hown _ (λv X hX hdX=>⟨(by repeat(first|exact rfl|exact Tv|refine⟨rfl,?_⟩|refine⟨za (o:=(X.un (xf N Nt eb fb W)).obj eb) _ (zd (De _ _ _ _ _)) rfl,?_⟩|refine za (o:=(X.un (xf N Nt eb fb W)).obj eb) _ (zd (De _ _ _ _ _)) rfl)),?_⟩),Tv⟩
  have hXN:zg X N:=λi h1 h2=>hdX i h1 (un_has.2 (.inl h2))
  have hXG:zg (X.un N) (Nt.sO eb (.cells (Cg W fb))):=disj_un.2 ⟨λi h1 h2=>hdX i h1 (un_has.2 (.inr h2)),Pg hd⟩
  have e1:X.un (xf N Nt eb fb W)=(X.un N).un (Nt.sO eb (.cells (Cg W fb))):=(Kk _ _ _).symm
  rw[e1]
  have hgo:=ACalls.frame hXG (zwv hX hp hXN hF (by omega) (λr S=>∃Y N',RowsQ 10 zl Y v (xt W).U/\zg Y N'/\FldAny fb room ((k+W.U.length:Nat):Int) N'/\r=.agg (q9 (xt W) v)/\S=Y.un N') (λY N' h1 h2 h3=>⟨Y,N',h1,h2,h3,rfl,rfl⟩)) (R':=λr S=>∃Y N',RowsQ 10 zl Y v (xt W).U/\zg Y N'/\FldAny fb room ((k+W.U.length:Nat):Int) N'/\r=.agg (q9 (xt W) v)/\S=(Y.un N').un (Nt.sO eb (.cells (Cg W fb)))/\zg (Y.un N') (Nt.sO eb (.cells (Cg W fb)))) (λr a' ⟨Y,N',h1,h2,h3,h4,h5⟩ hd'=>⟨Y,N',h1,h2,h3,h4,by rw[h5],h5▸hd'⟩)
  refine⟨hgo.imp ?_,Tv⟩
  rintro r S ⟨Y,N',hY,hYN,hF',rfl,rfl,hdY⟩
  obtain⟨oa,cap,e2,_⟩:=hY.form
  subst e2
  refine⟨Tv,?_⟩
  refine⟨?_,Tv⟩
  refine za _ rfl (qy rfl (qw (v:=.agg (q9 (xt W) (.s (.slice oa (xt W).U.length cap)))) rfl rfl rfl rfl ?_))
  refine ku (i:=ti27) (v:=.agg (q9 (xt W) (.s (.slice oa (xt W).U.length cap)))) (xs:=q9 (xt W) (.s (.slice oa (xt W).U.length cap))) (b:=eb) (o:=0) (l:=Cg W fb) rfl rfl rfl (zd (zc _ _ _)) (show 0+8<=9 by decide) ⟨Tv,?_⟩
  rw[zo,yl]
  have hat:(xt W).tick=W.tick:=Lp W _
  have hw0:0<=w.tick:=hw.1.1.1.1.1.1
  refine za (o:=((Y.un N').un (Nt.sO eb _)).obj eb) _ (zd (zc _ _ _)) ?_
  refine Qd ?_
  refine Bs (i:=ti2) (v:=int ((xt W).tick+1)) (b:=eb) (o:=0) (l:=q9 (xt W) (.s (.slice oa (xt W).U.length cap))++[ptr fb]) rfl rfl rfl (zd (zc _ _ _)) (show 0+1<=9 by decide) ?_
  rw[zo,yl]
  obtain⟨oc,cc,e4,_⟩:=hvt.form
  subst e4
  exact ret ⟨N',fb,Y,Nt,_,_,rfl,by rw[heng];rfl,by rw[heng];exact hY,hvt,hYN,Pg hdY,hnt,hF'.mono (by omega)⟩
theorem ya5(hE:EngR eb room k w S)(hw:playW w)(l:List Cmd)(hl:l=[]\/DoC)(hf:∀c∈l,c.fits)(hl2:l.length<=512)(ht:w.tick<1099511627776)(hk:k<=100000000000000000)(R:Ja)
  (h:∀S',EngR eb room (k+4096) (Dd w l) S'->R (.tup [lst 1 zu (kc w l),int 0]) S'):Jb 47 [ptr eb,lst 10 yo l] S R:=by
 refine(zpf hE hw l hl hf hl2 ht hk).frozenEng ?_
 rintro r S' ⟨N,fb,X,Nt,v,vt,rfl,rfl,hX,hvt,hXN,hd,hnt,hF⟩
 obtain⟨d1,d2⟩:=disj_un.1 hd
 have sub:∀{a:Store},zg a (Nt.sO eb (.cells []))->zg a Nt/\¬a.has eb:=λh=>⟨λi h1 h2=>h i h1 (has_setObj_iff.2 (.inr h2)),λh1=>h eb h1 (has_setObj_iff.2 (.inl rfl))⟩
 obtain⟨d3,d4⟩:=sub d1
 obtain⟨d5,d6⟩:=sub d2
 refine .inr ⟨.tup [lst 1 zu (kc w l),int 0],X.un Nt,N,eb,q9 (Dd w l) v,zk (Dd w l),_,disj_un.2 ⟨hXN,L4 d5⟩,λh=>(un_has.1 h).elim d4 hnt,d6,?_,rfl,h _ ⟨_,fb,rfl,?_,hF.objs0⟩,λOth M W sto=>⟨λx hx=>?_,λx hx=>?_⟩⟩
 ·rw[<-zo,Kk,Kk,Kj d5]
  rfl
 ·exact λh=>d6 (h.elim .inl λh=>absurd rfl h)
 ·exact uu (hX.unL d3) sto hx
 ·exact hx.tup2 (λx hx=>(hvt.un (a:=X)).borrow Hd Lj sto hx) λx hx=>jk hx
theorem zva(w:Wld)(hT:w.G.T.length<=1000000000)(hB:w.B.length<=1000000000)(hU:w.U.length<=1000000000)(st:Store)(R:Ja)(h:R (.agg (zk w)) st):Jb 74 [.agg (zk w)] st R:=by
 refine C7 (Q:=λr=>r=.agg (zk w)) ?_ st R λr hr=>hr▸h
 refine(Ve w hT hB hU (λr S=>∃vT vB vU NT NB NU,OwnQ S w vT vB vU NT NB NU/\r=.agg (D9 w vT vB vU)) (λS vT vB vU NT NB NU h=>⟨vT,vB,vU,NT,NB,NU,h,rfl⟩)).frozen ?_
 rintro r S ⟨vT,vB,vU,NT,NB,NU,ho,rfl⟩
 exact⟨_,rfl,λOth M w' v' sto hx=>Vg ho sto hx⟩
theorem p4(hE:EngR eb room k w S)(hs:w.G.T.length<=1000000/\w.B.length<=1000000/\w.U.length<=1000000)(R:Ja)(h:R (.agg (zk w)) S):Jb 49 [ptr eb] S R:=by
 obtain⟨N,fb,rfl,hn,hF⟩:=hE.out
 refine Qa (c:=cfg 8) zb Tryz.func49 ?_
 refine za (o:=(N.sO eb _).obj eb) _ (zc _ _ _) ?_
 refine zva w (by omega) (by omega) (by omega) _ _ ?_
 exact ret h
end
theorem zw4{g:Gnd}{n:Int}(h:qx g n):zx (j9 g n):=
 ⟨⟨⟨⟨⟨Fcc _,show(0:Int)<=1099511627776 by decide⟩,h.2,⟨Fcc _,show(1:Int)<=1099511627776 by decide⟩⟩,⟨h.1,⟨Faf _,λj hj=>absurd hj (Fa7 j),λb hb=>(by cases hb),λj hj=>absurd hj (Fa7 j)⟩,Faf _⟩,λb hb=>(by cases hb)⟩,
  λj hj=>absurd hj (Fa7 j),λu hu=>(by cases hu)⟩,λu hu=>(by cases hu),λu hu=>(by cases hu)⟩
theorem Va{g:Gnd}{n:Int}(h:qx g n):playW (j9 g n):=⟨zw4 h,λu hu=>(by cases hu)⟩
end Go.Proofs
namespace Go.Proofs
open Go Go.V
set_option maxRecDepth 20000
set_option maxHeartbeats 4000000
end Go.Proofs
namespace Go.Proofs
open Go Go.V
set_option maxRecDepth 20000
set_option maxHeartbeats 4000000
end Go.Proofs
namespace Go.Proofs
open Go Go.V
set_option maxRecDepth 20000
set_option maxHeartbeats 4000000
end Go.Proofs
namespace Go.Proofs
open Go Go.V
set_option maxRecDepth 20000
set_option maxHeartbeats 4000000
theorem max2_eq(a b:Int):max2 a b=max a b:=by
 unfold max2
 by_cases h:b>a
 ·rw[decide_eq_true h];show b=_;omega
 ·rw[decide_eq_false h];show a=_;omega
end Go.Proofs
namespace Go.Proofs
open Go Go.V
set_option maxRecDepth 20000
set_option maxHeartbeats 4000000
end Go.Proofs
namespace Go.Proofs
open Go Go.V
set_option maxRecDepth 20000
set_option maxHeartbeats 4000000
end Go.Proofs
namespace Go.Proofs
open Go Go.V
set_option maxRecDepth 20000
set_option maxHeartbeats 4000000
end Go.Proofs
namespace Go.Proofs
open Go Go.V
set_option maxRecDepth 20000
set_option maxHeartbeats 4000000
end Go.Proofs
namespace Go.Proofs
open Go Go.V
set_option maxRecDepth 20000
set_option maxHeartbeats 4000000
end Go.Proofs
namespace Go.Proofs
open Go Go.V
set_option maxRecDepth 20000
set_option maxHeartbeats 4000000
end Go.Proofs
namespace Go.Proofs
open Go Go.V
set_option maxRecDepth 20000
set_option maxHeartbeats 4000000
end Go.Proofs
namespace Go.Proofs
open Go Go.V
set_option maxRecDepth 20000
set_option maxHeartbeats 4000000
end Go.Proofs
namespace Go.Proofs
open Go Go.V
set_option maxRecDepth 20000
set_option maxHeartbeats 4000000
end Go.Proofs
namespace Go.Proofs
open Go Go.V
set_option maxRecDepth 20000
set_option maxHeartbeats 4000000
end Go.Proofs
namespace Go.Proofs
open Go Go.V
set_option maxRecDepth 20000
set_option maxHeartbeats 4000000
theorem ya6{eb:Nat}{room:Int}{k:Nat}{w:Wld}{S:Store}(hE:EngR eb room k w S)(ht:w.tick=1099511627776)(l:List Cmd)(R:Ja)(h:R (.tup [nil,int 10]) S):Jb 47 [ptr eb,lst 10 yo l] S R:=by
 obtain⟨N,fb,rfl,hn,hF⟩:=hE.out
 refine Qa (c:=cfg 74) zb Tryz.func47 ?_
 refine za (o:=(N.sO eb _).obj eb) _ (zc _ _ _) ?_
 refine qf (λc1=>?_) (λc1=>absurd ht c1)
 exact ret h
section
variable {eb:Nat} {room:Int} {k:Nat} {w:Wld} {S G:Store}
theorem cw(hp:playW w)(hr:1<=room/\room<=4096)(R:Ja)(h:∀eb S,EngR eb room 0 w S->zg S G->R (.tup [ptr eb,int 0]) (S.un G)):Jb 46 [.agg (zk w),int room] G R:=by
 have hs:=hp.sizes
 have:=ACalls.frame (W7 G) (ur w (Ds hp.1).fits hp.2 hs.1 hs.2.1 hs.2.2 room hr (λr S=>∃eb,r=.tup [ptr eb,int 0]/\EngR eb room 0 w S) (λh=>absurd hp.1 h) (λ_ eb S h=>⟨eb,rfl,h⟩)) (R':=R) λr a ⟨eb,h1,h2⟩ hd=>by subst h1;exact h eb a h2 hd
 rwa [Al]at this
end
theorem ztq(l:List Inp)(hl:l.length<=1000000000)(hf:∀i∈l,i.fits)(st:Store)(R:Ja)(h:∀b:Bool,(b=true↔Nh l)->R (V.bool b) st):Jb 198 [lst 3 yy l] st R:=by
 refine Qa (c:=cfg 30) zb Tryz.func198 ?_
 have no:¬Nh l->R (V.bool false) st:=λhn=>h false (by simp[hn])
 refine AWp.loop (σ:=Nat) ⟨λi=>[(0,.av (lst 3 yy l)),(5,.av (lst 3 yy l)),(6,.av (int (l.length:Nat))),(7,.av (int (i:Nat)))],λ_=>[],
  λi st'=>st'=st/\i<=l.length/\∀j,(hj:j<l.length)->j<i->Fw l[j]/\(0<j->Ft (l[j-1]'(by omega)) l[j]),λi=>l.length-i⟩ zb ?_ ?_
 ·refine⟨0,Tv,⟨rfl,Faf _,λj _ hj=>absurd hj (Fa7 j)⟩,⟨Tq,Tq,?_,Tq,Tv⟩,Tv⟩
  rw[<-zh (f:=yy) l];exact Tq
 rintro i st' ⟨rfl,hi,hall⟩
 refine bcd (λc1=>?_) (λc1=>?_)
 rotate_left
 ·have:i=l.length:=by omega
  subst this
  exact ret (h true (by simp only[true_iff];exact λj hj=>hall j hj hj))
 have hlt:i<l.length:=by omega
 have go:(Fw l[i]/\(0<i->Ft (l[i-1]'(by omega)) l[i]))->∀j,(hj:j<l.length)->j<i+1->Fw l[j]/\(0<j->Ft (l[j-1]'(by omega)) l[j]):=λhh j hj hji=>by
  by_cases e:j=i
  ·subst e;exact hh
  ·exact hall j hj (by omega)
 refine⟨i,rfl,za _ (zw hlt) ?_⟩
 refine Qc zb zr8 ?_
 refine⟨el l[i] (hf _ (Faa hlt)) _ _ (λz hz=>⟨Tv,?_⟩),Tv⟩
 refine yp ?_
 refine zi (λc2=>?_) (λc2=>?_)
 rotate_left
 ·refine Qas ?_
  exact ret (no λhh=>by have:=hz.2 (hh i hlt).1;rw[this]at c2;cases c2)
 have hip:=hz.1 c2
 refine bcd (λc3=>?_) (λc3=>?_)
 ·refine Qd ?_
  have hi1:i-1<l.length:=by omega
  refine⟨i-1,by omega,za _ (zw hi1) ?_⟩
  refine⟨zxq _ _ _ _ ⟨Tv,?_⟩,Tv⟩
  refine bcd (λc4=>?_) (λc4=>?_)
  ·exact ret (no λhh=>by have:=ordI_neg.2 ((hh i hlt).2 (by omega));omega)
  ·refine Qd ?_
   exact⟨i+1,(show l.length-(i+1)<l.length-i by omega),⟨rfl,by omega,go ⟨hip,λ_=>ordI_neg.1 (by omega)⟩⟩,Qao,Tv⟩
 ·refine Qas ?_
  refine Qd ?_
  exact⟨i+1,(show l.length-(i+1)<l.length-i by omega),⟨rfl,by omega,go ⟨hip,λhh=>absurd hh (by omega)⟩⟩,Qao,Tv⟩
theorem zu0{α:Type}{k:Nat}{f:α->List AV}{F:FuncId}{l:List α}(hf:∀x,(f x).length=k)(hs:∀x,∀y∈f x,∃u,y=AV.s u/\ql u=true)
  (hraw:∀R:AV->Store->Prop,(∀v N,RowsQ k f N v l->R v N)->Jb F [lst k f l] Store.empty R) (st:Store) (R:Ja) (h:R (lst k f l) st):Jb F [lst k f l] st R:=by
 refine C7 (Q:=λr=>r=lst k f l) ?_ st R λr hr=>hr▸h
 refine(hraw (λr S=>RowsQ k f S r l) λv N hv=>hv).frozen ?_
 exact λr S hr=>⟨_,rfl,λOth M w v sto hx=>hr.borrow hf hs sto hx⟩
theorem Wf(n:Int):(yu n).length=1:=rfl
theorem zy4(n:Int):∀y∈yu n,∃u,y=AV.s u/\ql u=true:=λy hy=>by
 rw[Fbx.1 hy];exact⟨_,rfl,rfl⟩
theorem bg(l:List Int)(hl:l.length<=1000000000)(st:Store)(R:Ja)(h:R (yg l) st):Jb 347 [yg l] st R:=by
 refine zu0 Hd Lj (λR h=>?_) st R h
 refine Qa (c:=cfg 8) zb Tryz.func347 ?_
 intro b hb
 cases b with
 |true=>
  have:l=[]:=by
   have:=congrArg List.length (hb rfl)
   rw[zh]at this
   exact Fat this
  subst this
  exact ret (h (.s (.slice none 0 0)) Store.empty (.inl (.inl ⟨rfl,rfl⟩)))
 |false=>
  refine⟨by decide,?_⟩
  exact Md (ie:=ti2) rfl Hd (by decide) hl (λv N hv hd=>ret (h v _ (by rw[Ax];exact hv)))
theorem ycb(c:Cmd)(hc:c.U.length<=1000000000)(st:Store)(R:Ja)(h:R (.agg (yo c)) st):Jb 274 [.agg (yo c)] st R:=by
 refine Qa (c:=cfg 8) zb Tryz.func274 ?_
 refine bg c.U hc _ _ ?_
 exact ret h
def small(l:List Cmd):Prop:=l.length<=1000000/\∀c∈l,c.U.length<=1000000
theorem rl(l:List Cmd)(hl:small l)(st:Store)(R:Ja)(h:R (lst 10 yo l) st):Jb 200 [lst 10 yo l] st R:=by
 have hlen:=hl.1
 refine Qa (c:=cfg 18) zb Tryz.func200 ?_
 refine AWp.loop (σ:=Nat×AV) ⟨λx=>[(2,.av x.2),(5,.av (lst 10 yo l)),(6,.av (int (l.length:Nat))),(7,.av (int (x.1:Nat)))],λ_=>[],λx st'=>x.1<=l.length/\App 10 st x.2 (rws yo (l.take x.1)) st',λx=>l.length-x.1⟩ zb ?_ ?_
 ·refine⟨(0,_),Tv,⟨Faf _,App.start 10 st⟩,⟨Tq,Tq,?_,Tq,Tv⟩,Tv⟩
  rw[<-zh (f:=yo) l];exact Tq
 rintro⟨i,v⟩ st' ⟨hi,ha⟩
 dsimp only at hi ha⊢
 refine bcd (λc1=>?_) (λc1=>?_)
 rotate_left
 ·have:i=l.length:=by omega
  subst this
  rw[Fap]at ha
  exact⟨_,st,ha.le,ha.has,h⟩
 have hlt:i<l.length:=by omega
 refine⟨i,rfl,za _ (zw hlt) ?_⟩
 refine ycb l[i] (by have:=hl.2 _ (Faa hlt);omega) _ _ ?_
 refine⟨by decide,?_⟩
 refine Bo (ie:=ti121) (rows':=[yo l[i]]) ha ?_ ?_ ⟨?_,?_⟩ (λv2 st2 ha2=>?_)
 ·rfl
 ·rfl
 ·simp[zh,ti121];omega
 ·simp[zh];omega
 refine Qd ?_
 refine⟨(i+1,v2),(show l.length-(i+1)<l.length-i by omega),⟨hlt,?_⟩,Qao,Tv⟩
 dsimp only
 rw[<-g8 hlt];exact ha2
theorem R1(i:Inp)(hi:small i.C)(st:Store)(R:Ja)(h:R (.agg (yy i)) st):Jb 278 [.agg (yy i)] st R:=by
 refine Qa (c:=cfg 8) zb Tryz.func278 ?_
 refine rl i.C hi _ _ ?_
 exact ret h
def Fg(l:List Inp):Prop:=l.length<=1000000/\∀i∈l,small i.C
theorem ek(l:List Inp)(hl:Fg l)(st:Store)(R:Ja)(h:R (lst 3 yy l) st):Jb 348 [lst 3 yy l] st R:=by
 have hlen:=hl.1
 refine Qa (c:=cfg 18) zb Tryz.func348 ?_
 refine AWp.loop (σ:=Nat×AV) ⟨λx=>[(2,.av x.2),(5,.av (lst 3 yy l)),(6,.av (int (l.length:Nat))),(7,.av (int (x.1:Nat)))],λ_=>[],λx st'=>x.1<=l.length/\App 3 st x.2 (rws yy (l.take x.1)) st',λx=>l.length-x.1⟩ zb ?_ ?_
 ·refine⟨(0,_),Tv,⟨Faf _,App.start 3 st⟩,⟨Tq,Tq,?_,Tq,Tv⟩,Tv⟩
  rw[<-zh (f:=yy) l];exact Tq
 rintro⟨i,v⟩ st' ⟨hi,ha⟩
 dsimp only at hi ha⊢
 refine bcd (λc1=>?_) (λc1=>?_)
 rotate_left
 ·have:i=l.length:=by omega
  subst this
  rw[Fap]at ha
  exact⟨_,st,ha.le,ha.has,h⟩
 have hlt:i<l.length:=by omega
 refine⟨i,rfl,za _ (zw hlt) ?_⟩
 refine R1 l[i] (hl.2 _ (Faa hlt)) _ _ ?_
 refine⟨by decide,?_⟩
 refine Bo (ie:=ti300) (rows':=[yy l[i]]) ha ?_ ?_ ⟨?_,?_⟩ (λv2 st2 ha2=>?_)
 ·rfl
 ·rfl
 ·simp[zh,ti300];omega
 ·simp[zh];omega
 refine Qd ?_
 refine⟨(i+1,v2),(show l.length-(i+1)<l.length-i by omega),⟨hlt,?_⟩,Qao,Tv⟩
 dsimp only
 rw[<-g8 hlt];exact ha2
def Ar(l:List Inp):List Cmd:=l.flatMap (·.C)
theorem zpa(l:List Inp)(hl:Fg l)(hn:(Ar l).length<=1000000)(st:Store)(R:Ja)(h:R (lst 10 yo (Ar l)) st):Jb 354 [lst 3 yy l] st R:=by
 have hlen:=hl.1
 refine Qa (c:=cfg 18) zb Tryz.func354 ?_
 refine AWp.loop (σ:=Nat×AV) ⟨λx=>[(2,.av x.2),(5,.av (lst 3 yy l)),(6,.av (int (l.length:Nat))),(7,.av (int (x.1:Nat)))],λ_=>[],λx st'=>x.1<=l.length/\App 10 st x.2 (rws yo (Ar (l.take x.1))) st',λx=>l.length-x.1⟩ zb ?_ ?_
 ·refine⟨(0,_),Tv,⟨Faf _,App.start 10 st⟩,⟨Tq,Tq,?_,Tq,Tv⟩,Tv⟩
  rw[<-zh (f:=yy) l];exact Tq
 rintro⟨i,v⟩ st' ⟨hi,ha⟩
 dsimp only at hi ha⊢
 refine bcd (λc1=>?_) (λc1=>?_)
 rotate_left
 ·have:i=l.length:=by omega
  subst this
  rw[Fap]at ha
  exact⟨_,st,ha.le,ha.has,h⟩
 have hlt:i<l.length:=by omega
 have hstep:Ar (l.take (i+1))=Ar (l.take i)++l[i].C:=by
  unfold Ar
  rw[Fac hlt,List.flatMap_append]
  simp
 have hle:(Ar (l.take (i+1))).length<=(Ar l).length:=by
  have:Ar l=Ar (l.take (i+1))++Ar (l.drop (i+1)):=by
   unfold Ar
   rw[<-List.flatMap_append,Fb1]
  rw[this,Fad];omega
 rw[hstep,Fad]at hle
 refine⟨i,rfl,za _ (zw hlt) ?_⟩
 refine rl l[i].C (hl.2 _ (Faa hlt)) _ _ ?_
 refine Bo (ie:=ti121) (rows':=rws yo l[i].C) ha ?_ ?_ ⟨?_,?_⟩ (λv2 st2 ha2=>?_)
 ·rfl
 ·rfl
 ·simp[zh,ti121];omega
 ·simp[zh];omega
 refine Qd ?_
 refine⟨(i+1,v2),(show l.length-(i+1)<l.length-i by omega),⟨hlt,?_⟩,Qao,Tv⟩
 dsimp only
 rw[hstep,<-Gt];exact ha2
theorem zqc{st:Store}{p q:Nat}{x y:Option Nat}(h:q≠p):(st.sT p x).sT q y=(st.sT q y).sT p x:=by
 unfold Store.sT
 congr 1
 funext i
 by_cases hp:i=p
 ·subst hp
  simp[ym (Ne.symm h)]
 ·simp[ym hp]
theorem te{k1 k2:Nat}{st st1 st2:Store}{v1 v2:AV}{r1 r2:List (List AV)}(h1:App k1 st v1 r1 st1)(h2:App k2 st1 v2 r2 st2):∃s,App k2 st v2 r2 s/\App k1 s v1 r1 st2:=by
 rcases h1 with⟨rfl,rfl,rfl⟩|⟨rfl,rfl,rfl⟩|⟨n1,b1,f1,rfl,rfl⟩
 ·exact⟨st2,h2,.inl ⟨rfl,rfl,rfl⟩⟩
 ·exact⟨st2,h2,.inr (.inl ⟨rfl,rfl,rfl⟩)⟩
 ·rcases h2 with⟨rfl,rfl,rfl⟩|⟨rfl,rfl,rfl⟩|⟨n2,b2,f2,rfl,rfl⟩
  ·exact⟨st,.inl ⟨rfl,rfl,rfl⟩,.inr (.inr ⟨n1,b1,f1,rfl,rfl⟩)⟩
  ·exact⟨st,.inr (.inl ⟨rfl,rfl,rfl⟩),.inr (.inr ⟨n1,b1,f1,rfl,rfl⟩)⟩
  ·have hne:b2≠b1:=λe=>by
    have:=f2.2
    rw[e,H3]at this
    cases this
   have f2':Fresh st b2:=⟨f2.1,by have:=f2.2;rwa [Sg hne]at this⟩
   refine⟨_,.inr (.inr ⟨n2,b2,f2',rfl,rfl⟩),.inr (.inr ⟨n1,b1,⟨f1.1,by rw[Sg (Ne.symm hne)];exact f1.2⟩,rfl,zqc hne⟩)⟩
def ofT(t:Int)(l:List Inp):List Inp:=l.filter λi=>i.t==t
def Bw(t:Int)(l:List Inp):List Inp:=l.filter λi=> !(i.t==t)
theorem zvs{t:Int}{l:List Inp}{i:Nat}(h:i<l.length):ofT t (l.take (i+1))=(if l[i].t=t then ofT t (l.take i)++[l[i]]else ofT t (l.take i))/\Bw t (l.take (i+1))=(if l[i].t=t then Bw t (l.take i)else Bw t (l.take i)++[l[i]]):=by
 unfold ofT Bw
 rw[Fac h,Fdp,Fdp]
 by_cases e:l[i].t=t
 ·rw[if_pos e,if_pos e]
  simp[List.filter,e]
 ·rw[if_neg e,if_neg e]
  have:(l[i].t==t)=false:=by simpa using e
  simp[List.filter,this]
theorem zvu(t:Int)(l:List Inp)(i:Nat):(ofT t (l.take i)).length<=l.length/\(Bw t (l.take i)).length<=l.length:=by
 have h1:=Fb2 (λi:Inp=>i.t==t) (l.take i)
 have h2:=Fb2 (λi:Inp=> !(i.t==t)) (l.take i)
 rw[Fal]at h1 h2
 unfold ofT Bw
 omega
theorem ei(l:List Inp)(hl:Fg l)(t:Int)(st:Store)(R:Ja)(h:R (.tup [lst 3 yy (ofT t l),lst 3 yy (Bw t l)]) st):Jb 353 [lst 3 yy l,int t] st R:=by
 have hlen:=hl.1
 refine Qa (c:=cfg 31) zb Tryz.func353 ?_
 refine AWp.loop (σ:=Nat×AV×AV×Store) ⟨λx=>[(1,.av (int t)),(4,.av x.2.1),(5,.av x.2.2.1),(8,.av (lst 3 yy l)),(9,.av (int (l.length:Nat))),(10,.av (int (x.1:Nat)))],λ_=>[],
  λx st'=>x.1<=l.length/\App 3 st x.2.1 (rws yy (ofT t (l.take x.1))) x.2.2.2/\App 3 x.2.2.2 x.2.2.1 (rws yy (Bw t (l.take x.1))) st',λx=>l.length-x.1⟩ zb ?_ ?_
 ·refine⟨(0,.s (.slice none 0 0),.s (.slice none 0 0),st),Tv,⟨Faf _,App.start 3 st,App.start 3 st⟩,⟨Tq,Tq,Tq,Tq,?_,Tq,Tv⟩,Tv⟩
  rw[<-zh (f:=yy) l];exact Tq
 rintro⟨i,v1,v2,s1⟩ st' ⟨hi,ha1,ha2⟩
 dsimp only at hi ha1 ha2⊢
 refine bcd (λc1=>?_) (λc1=>?_)
 rotate_left
 ·have:i=l.length:=by omega
  subst this
  rw[Fap]at ha1 ha2
  exact⟨.tup [lst 3 yy (ofT t l),lst 3 yy (Bw t l)],st,AV.le_tupL ⟨ha1.le,ha2.le,Tv⟩,ha2.has.trans ha1.has,h⟩
 have hlt:i<l.length:=by omega
 obtain⟨q1,q2⟩:=zvs (t:=t) hlt
 obtain⟨n1,n2⟩:=zvu t l i
 refine⟨i,rfl,za _ (zw hlt) ?_⟩
 refine qf (λc2=>?_) (λc2=>?_)
 ·rw[if_pos c2]at q1 q2
  refine R1 l[i] (hl.2 _ (Faa hlt)) _ _ ?_
  refine⟨by decide,?_⟩
  obtain⟨s2,hb2,hb1⟩:=te ha1 ha2
  refine Bo (ie:=ti300) (rows':=[yy l[i]]) hb1 ?_ ?_ ⟨?_,?_⟩ (λv3 st3 hb3=>?_)
  ·rfl
  ·rfl
  ·simp[zh,ti300];omega
  ·simp[zh];omega
  obtain⟨s3,hc1,hc2⟩:=te hb2 hb3
  refine Qd ?_
  refine⟨(i+1,v3,v2,s3),(show l.length-(i+1)<l.length-i by omega),⟨hlt,?_,?_⟩,Qao,Tv⟩
  ·dsimp only;rw[q1,<-Gt];exact hc1
  ·dsimp only;rw[q2];exact hc2
 ·rw[if_neg c2]at q1 q2
  refine R1 l[i] (hl.2 _ (Faa hlt)) _ _ ?_
  refine⟨by decide,?_⟩
  refine Bo (ie:=ti300) (rows':=[yy l[i]]) ha2 ?_ ?_ ⟨?_,?_⟩ (λv3 st3 hb3=>?_)
  ·rfl
  ·rfl
  ·simp[zh,ti300];omega
  ·simp[zh];omega
  refine Qd ?_
  refine⟨(i+1,v1,v3,s1),(show l.length-(i+1)<l.length-i by omega),⟨hlt,?_,?_⟩,Qao,Tv⟩
  ·dsimp only;rw[q1];exact ha1
  ·dsimp only;rw[q2,<-Gt];exact hb3
theorem Vv(l:List Int)(hl:l.length<=1000000000)(hne:0<l.length)(st:Store)(R:Ja)(h:R (int (Af l)) st):Jb 195 [yg l] st R:=by
 refine Qa (c:=cfg 25) zb Tryz.func195 ?_
 refine zi (λh1=>?_) (λh1=>?_)
 ·rw[zh]at h1
  simp at h1
  omega
 refine⟨0,rfl,za _ (zw hne) ?_⟩
 refine AWp.loop (σ:=Nat) ⟨λi=>[(0,.av (yg l)),(3,.av (int (Af (l.take i)))),(4,.av (int (i:Nat)))],λ_=>[],
  λi st'=>(1<=i/\i<=l.length)/\st'=st,λi=>l.length-i⟩ zb ?_ ?_
 ·refine⟨1,Tv,⟨⟨Fah _,hne⟩,rfl⟩,⟨Tq,?_,Tq,Tv⟩,Tv⟩
  rw[zws hne];exact Tq
 rintro i st' ⟨⟨hi1,hi⟩,rfl⟩
 refine bcd (λc1=>?_) (λc1=>?_)
 ·have hlt:i<l.length:=by rw[zh]at c1;omega
  refine⟨i,rfl,za _ (zw hlt) ?_⟩
  refine Qd ?_
  refine⟨i+1,(show l.length-(i+1)<l.length-i by omega),⟨⟨by omega,hlt⟩,rfl⟩,⟨Tq,?_,Tq,Tv⟩,Tv⟩
  show LV.le (.av (int (min2 (Af (l.take i)) l[i]))) (.av (int (Af (l.take (i+1)))))
  rw[min2_eq,zwr hlt hi1];exact Tq
 ·have:i=l.length:=by rw[zh]at c1;omega
  subst this
  have e:l.take l.length=l:=Fap
  rw[<-e]at h
  exact ret h
theorem zxf(l:List Int)(hl:l.length<=1000000000)(hne:0<l.length)(st:Store)(R:Ja)(h:R (int (Cz l)) st):Jb 196 [yg l] st R:=by
 refine Qa (c:=cfg 25) zb Tryz.func196 ?_
 refine zi (λh1=>?_) (λh1=>?_)
 ·rw[zh]at h1
  simp at h1
  omega
 refine⟨0,rfl,za _ (zw hne) ?_⟩
 refine AWp.loop (σ:=Nat) ⟨λi=>[(0,.av (yg l)),(3,.av (int (Cz (l.take i)))),(4,.av (int (i:Nat)))],λ_=>[],
  λi st'=>(1<=i/\i<=l.length)/\st'=st,λi=>l.length-i⟩ zb ?_ ?_
 ·refine⟨1,Tv,⟨⟨Fah _,hne⟩,rfl⟩,⟨Tq,?_,Tq,Tv⟩,Tv⟩
  rw[zxd hne];exact Tq
 rintro i st' ⟨⟨hi1,hi⟩,rfl⟩
 refine bcd (λc1=>?_) (λc1=>?_)
 ·have hlt:i<l.length:=by rw[zh]at c1;omega
  refine⟨i,rfl,za _ (zw hlt) ?_⟩
  refine Qd ?_
  refine⟨i+1,(show l.length-(i+1)<l.length-i by omega),⟨⟨by omega,hlt⟩,rfl⟩,⟨Tq,?_,Tq,Tv⟩,Tv⟩
  show LV.le (.av (int (max2 (Cz (l.take i)) l[i]))) (.av (int (Cz (l.take (i+1)))))
  rw[max2_eq,zxc hlt hi1];exact Tq
 ·have:i=l.length:=by rw[zh]at c1;omega
  subst this
  have e:l.take l.length=l:=Fap
  rw[<-e]at h
  exact ret h
theorem rp(p:Per)(hp:Mb p)(l:List Int)(hl:l.length<=1000000000)(st:Store)(R:Ja)(h:∀b:Bool,(b=true↔countsP p l)->R (V.bool b) st):Jb 194 [.agg (zz p),yg l] st R:=by
 obtain⟨⟨hp1,hp2⟩,⟨hi1,hi2⟩,⟨hd1,hd2⟩,ht1,ht2⟩:=hp
 simp only[maxT]at ht2
 have no:¬countsP p l->R (V.bool false) st:=λhn=>h false (by simp[hn])
 refine Qa (c:=cfg 46) zb Tryz.func194 ?_
 refine AWp.loop (σ:=Nat) ⟨λi=>[(1,.av (yg l)),(2,.bx 2 0),(7,.av (yg l)),(8,.av (int (l.length:Nat))),(9,.av (int (i:Nat)))],λ_=>[(2,zz p)],
  λi st'=>st'=st/\i<=l.length/\∀j,(hj:j<l.length)->j<i->p.delay-1<=l[j]/\l[j]<=p.turn+16/\l[j]<=maxT,λi=>l.length-i⟩ zb ?_ ?_
 ·refine⟨0,Tv,⟨rfl,Faf _,λj _ hj=>absurd hj (Fa7 j)⟩,⟨Tq,Tq,Tq,?_,Tq,Tv⟩,⟨rfl,Tv⟩⟩
  rw[<-zh (f:=zu) l];exact Tq
 rintro i st' ⟨rfl,hi,hall⟩
 refine bcd (λc1=>?_) (λc1=>?_)
 rotate_left
 ·have:i=l.length:=by omega
  subst this
  refine Qc zb zsa ?_
  refine qf (λc2=>?_) (λc2=>?_)
  rotate_left
  ·rw[zh]at c2
   refine Qas ?_
   exact ret (no λhh=>c2 hh.2.1)
  rw[zh]at c2
  refine Qd ?_
  have hx:(p.id-1).toNat<l.length:=by omega
  have hx2:(((p.id-1).toNat:Nat):Int)=p.id-1:=by omega
  refine⟨(p.id-1).toNat,by rw[hx2],za _ (zw hx) ?_⟩
  refine Qas ?_
  refine ret (h _ ?_)
  rw[beq_iff_eq]
  exact⟨λhh=>⟨λj hj=>hall j hj hj,c2,λ_=>hh⟩,λhh=>hh.2.2 hx⟩
 have hlt:i<l.length:=by omega
 refine⟨i,rfl,za _ (zw hlt) ?_⟩
 refine Qd ?_
 refine bcd (λc2=>ret (no λhh=>by have:=(hh.1 i hlt).1;omega)) (λc2=>?_)
 refine Qd ?_
 refine bcd (λc3=>ret (no λhh=>by have:=(hh.1 i hlt).2.1;omega)) (λc3=>?_)
 refine bcd (λc4=>ret (no λhh=>by have:=(hh.1 i hlt).2.2;simp only[maxT]at this;omega)) (λc4=>?_)
 refine Qd ?_
 refine⟨i+1,(show l.length-(i+1)<l.length-i by omega),⟨rfl,hlt,λj hj hji=>?_⟩,Qao,⟨rfl,Tv⟩⟩
 by_cases e:j=i
 ·subst e;simp only[maxT];omega
 ·exact hall j hj (by omega)
theorem zwq(p:Per)(hp:Mb p)(hs:p.delay-1<=p.said/\p.said<=maxT)(ha:countsP p p.acked)(hf:p.mine.length<=1000000000/\∀i∈p.mine,i.fits)(hk:p.acked.length<=1000000000)(st:Store)(R:Ja)(h:∀b:Bool,(b=true↔Vu p)->R (V.bool b) st):Jb 197 [.agg (zz p)] st R:=by
 obtain⟨⟨hp1,hp2⟩,⟨hi1,hi2⟩,⟨hd1,hd2⟩,ht1,ht2⟩:=hp
 simp only[maxT]at ht2 hs
 have hne:0<p.acked.length:=by have:=ha.2.1;omega
 have hmn:=ha.mem (mr hne)
 have no:¬Vu p->R (V.bool false) st:=λhn=>h false (by simp[hn])
 refine Qa (c:=cfg 48) zb Tryz.func197 ?_
 refine Qc zb zr9 ?_
 refine⟨Vv p.acked hk hne _ _ ⟨Qe,?_⟩,Tv⟩
 refine Qd ?_
 refine wl (λc1=>?_) (λc1=>?_)
 ·rw[zh]at c1
  exact ret (no λhh=>c1 hh.1)
 rw[zh]at c1
 have hlen:=hf.1
 refine AWp.loop (σ:=Nat) ⟨λi=>[(1,.bx 1 0),(16,.av (lst 3 yy p.mine)),(17,.av (int (p.mine.length:Nat))),(18,.av (int (i:Nat)))],λ_=>[(1,zz p)],
  λi st'=>st'=st/\i<=p.mine.length/\∀j,(hj:j<p.mine.length)->j<i->Fw p.mine[j]/\p.mine[j].p=p.id/\p.mine[j].t=p.said-p.mine.length+1+j,λi=>p.mine.length-i⟩ zb ?_ ?_
 ·refine⟨0,Tv,⟨rfl,Faf _,λj _ hj=>absurd hj (Fa7 j)⟩,⟨Tq,Tq,?_,Tq,Tv⟩,⟨rfl,Tv⟩⟩
  rw[<-zh (f:=yy) p.mine];exact Tq
 rintro i st' ⟨rfl,hi,hall⟩
 refine bcd (λc2=>?_) (λc2=>?_)
 rotate_left
 ·have:i=p.mine.length:=by omega
  subst this
  exact ret (h true (by simp only[true_iff];exact⟨c1,λj hj=>hall j hj hj⟩))
 have hlt:i<p.mine.length:=by omega
 refine⟨i,rfl,za _ (zw hlt) ?_⟩
 refine el p.mine[i] (hf.2 _ (Faa hlt)) _ _ (λz hz=>?_)
 refine yp ?_
 refine zi (λc3=>?_) (λc3=>?_)
 rotate_left
 ·exact ret (no λhh=>by have:=hz.2 (hh.2 i hlt).1;rw[this]at c3;cases c3)
 have hip:=hz.1 c3
 refine wl (λc4=>ret (no λhh=>c4 (hh.2 i hlt).2.1)) (λc4=>?_)
 have hr:((rws yy p.mine).length:Int)=p.mine.length:=by rw[zh]
 refine Qd ?_
 refine Qd ?_
 refine Qd ?_
 refine wl (λc5=>ret (no λhh=>by have:=(hh.2 i hlt).2.2;omega)) (λc5=>?_)
 refine Qd ?_
 refine⟨i+1,(show p.mine.length-(i+1)<p.mine.length-i by omega),⟨rfl,hlt,λj hj hji=>?_⟩,Qao,⟨rfl,Tv⟩⟩
 by_cases e:j=i
 ·subst e;exact⟨hip,c4,by omega⟩
 ·exact hall j hj (by omega)
theorem zyd(p:Per)(hp:Mb p)(ha:countsP p p.has)(hr:Nh p.inputs)(hf:p.inputs.length<=1000000000)(st:Store)(R:Ja)(h:∀b:Bool,(b=true↔Wb p)->R (V.bool b) st):Jb 199 [.agg (zz p)] st R:=by
 obtain⟨⟨hp1,hp2⟩,⟨hi1,hi2⟩,⟨hd1,hd2⟩,ht1,ht2⟩:=hp
 simp only[maxT]at ht2
 have no:¬Wb p->R (V.bool false) st:=λhn=>h false (by simp[hn])
 refine Qa (c:=cfg 37) zb Tryz.func199 ?_
 refine AWp.loop (σ:=Nat) ⟨λi=>[(1,.bx 1 0),(6,.av (lst 3 yy p.inputs)),(7,.av (int (p.inputs.length:Nat))),(8,.av (int (i:Nat)))],λ_=>[(1,zz p)],
  λi st'=>st'=st/\i<=p.inputs.length/\∀j,(hj:j<p.inputs.length)->j<i->p.turn<=p.inputs[j].t/\p.inputs[j].p<=p.players/\∀h:(p.inputs[j].p-1).toNat<p.has.length,p.inputs[j].t<=p.has[(p.inputs[j].p-1).toNat],λi=>p.inputs.length-i⟩ zb ?_ ?_
 ·refine⟨0,Tv,⟨rfl,Faf _,λj _ hj=>absurd hj (Fa7 j)⟩,⟨Tq,Tq,?_,Tq,Tv⟩,⟨rfl,Tv⟩⟩
  rw[<-zh (f:=yy) p.inputs];exact Tq
 rintro i st' ⟨rfl,hi,hall⟩
 refine bcd (λc2=>?_) (λc2=>?_)
 rotate_left
 ·have:i=p.inputs.length:=by omega
  subst this
  exact ret (h true (by simp only[true_iff];exact λj hj=>hall j hj hj))
 have hlt:i<p.inputs.length:=by omega
 refine⟨i,rfl,za _ (zw hlt) ?_⟩
 have hip:=(hr i hlt).1.2.1
 refine Qc zb zr7 ?_
 refine bcd (λc3=>ret (no λhh=>by have:=(hh i hlt).1;omega)) (λc3=>?_)
 refine bcd (λc4=>ret (no λhh=>by have:=(hh i hlt).2.1;omega)) (λc4=>?_)
 refine Qd ?_
 have hln:=ha.2.1
 have hx:(p.inputs[i].p-1).toNat<p.has.length:=by omega
 refine⟨(p.inputs[i].p-1).toNat,by omega,za _ (zw hx) ?_⟩
 refine bcd (λc5=>ret (no λhh=>by have:=(hh i hlt).2.2 hx;omega)) (λc5=>?_)
 refine Qd ?_
 refine⟨i+1,(show p.inputs.length-(i+1)<p.inputs.length-i by omega),⟨rfl,hlt,λj hj hji=>?_⟩,Qao,⟨rfl,Tv⟩⟩
 by_cases e:j=i
 ·subst e;exact⟨by omega,by omega,λ_=>by omega⟩
 ·exact hall j hj (by omega)
theorem Ic(p:Per)(hf:p.fits)(st:Store)(R:Ja)(h:∀b:Bool,(b=true↔wg p)->R (V.bool b) st):Jb 114 [.agg (zz p)] st R:=by
 have no:¬wg p->R (V.bool false) st:=λhn=>h false (by simp[hn])
 obtain⟨hf1,hf2,hf3,hf4,hf5⟩:=hf
 refine Qa (c:=cfg 119) zb Tryz.func114 ?_
 refine bcd (λc1=>ret (no λhh=>by have:=hh.1.1.1;omega)) (λc1=>?_)
 refine bcd (λc2=>ret (no λhh=>by have:=hh.1.1.2;omega)) (λc2=>?_)
 refine bcd (λc3=>ret (no λhh=>by have:=hh.1.2.1.1;omega)) (λc3=>?_)
 refine bcd (λc4=>ret (no λhh=>by have:=hh.1.2.1.2;omega)) (λc4=>?_)
 refine bcd (λc5=>ret (no λhh=>by have:=hh.1.2.2.1.1;omega)) (λc5=>?_)
 refine bcd (λc6=>ret (no λhh=>by have:=hh.1.2.2.1.2;omega)) (λc6=>?_)
 refine bcd (λc7=>ret (no λhh=>by have:=hh.1.2.2.2.1;omega)) (λc7=>?_)
 refine bcd (λc8=>ret (no λhh=>by have:=hh.1.2.2.2.2;simp only[maxT]at this;omega)) (λc8=>?_)
 have hb:Mb p:=⟨⟨by omega,by omega⟩,⟨by omega,by omega⟩,⟨by omega,by omega⟩,by omega,by simp only[maxT];omega⟩
 refine Qd ?_
 refine bcd (λd1=>ret (no λhh=>by have:=hh.2.1.1;omega)) (λd1=>?_)
 refine Qd ?_
 refine Qd ?_
 refine bcd (λd2=>ret (no λhh=>by have:=hh.2.1.2.1;omega)) (λd2=>?_)
 refine bcd (λd3=>ret (no λhh=>by have:=hh.2.1.2.2;simp only[maxT]at this;omega)) (λd3=>?_)
 refine rp p hb p.has hf3 _ _ (λz1 hz1=>?_)
 refine yp ?_
 refine zi (λd4=>?_) (λd4=>?_)
 rotate_left
 ·exact ret (no λhh=>by have:=hz1.2 hh.2.2.1;rw[this]at d4;cases d4)
 have ha:=hz1.1 d4
 refine rp p hb p.acked hf4 _ _ (λz2 hz2=>?_)
 refine yp ?_
 refine zi (λd5=>?_) (λd5=>?_)
 rotate_left
 ·exact ret (no λhh=>by have:=hz2.2 hh.2.2.2.1;rw[this]at d5;cases d5)
 have hk:=hz2.1 d5
 have hl1:0<p.has.length:=by have:=ha.2.1;omega
 have hl2:0<p.acked.length:=by have:=hk.2.1;omega
 refine Qc zb zsx ?_
 refine Qd ?_
 refine⟨Vv p.has hf3 hl1 _ _ ⟨Qe,?_⟩,Tv⟩
 refine bcd (λe1=>?_) (λe1=>?_)
 ·refine Qar ?_
  exact ret (no λhh=>by have:=hh.2.2.2.2.1;omega)
 refine⟨zxf p.acked hf4 hl2 _ _ ⟨Qe,?_⟩,Tv⟩
 refine bcd (λe2=>ret (no λhh=>by have:=hh.2.2.2.2.2.1;omega)) (λe2=>?_)
 have hrl:((rws yu p.hashes).length:Int)=p.hashes.length:=by rw[zh]
 refine bcd (λe3=>ret (no λhh=>by have:=hh.2.2.2.2.2.2.1;omega)) (λe3=>?_)
 refine bcd (λe4=>ret (no λhh=>by have:=hh.2.2.2.2.2.2.2.1;omega)) (λe4=>?_)
 refine zwq p hb ⟨by omega,by simp only[maxT];omega⟩ hk hf1 hf4 _ _ (λz3 hz3=>?_)
 refine zi (λe5=>?_) (λe5=>?_)
 rotate_left
 ·exact ret (no λhh=>by have:=hz3.2 hh.2.2.2.2.2.2.2.2.1;rw[this]at e5;cases e5)
 refine ztq p.inputs hf2.1 hf2.2 _ _ (λz4 hz4=>?_)
 refine zi (λe6=>?_) (λe6=>?_)
 rotate_left
 ·exact ret (no λhh=>by have:=hz4.2 hh.2.2.2.2.2.2.2.2.2.1;rw[this]at e6;cases e6)
 refine zyd p hb ha (hz4.1 e6) hf2.1 _ _ (λz5 hz5=>?_)
 refine ret (h z5 ?_)
 refine⟨λhh=>⟨hb,⟨by omega,by omega,by simp only[maxT];omega⟩,ha,hk,by omega,by omega,by omega,by omega,hz3.1 e5,hz4.1 e6,hz5.1 hh⟩,λhh=>hz5.2 hh.2.2.2.2.2.2.2.2.2.2⟩
def Dh(p:Per):Prop:=p.turn<=Af p.has/\p.turn<maxT
instance(p:Per):Decidable (Dh p):=by unfold Dh;infer_instance
theorem sm(p:Per)(hne:0<p.has.length)(hl:p.has.length<=1000000000)(st:Store)(R:Ja)(h:∀b:Bool,(b=true↔Dh p)->R (V.bool b) st):Jb 352 [.agg (zz p)] st R:=by
 refine Qa (c:=cfg 14) zb Tryz.func352 ?_
 refine Qc zb zq9 ?_
 refine⟨Vv p.has hl hne _ _ ⟨Qe,?_⟩,Tv⟩
 refine bcd (λc1=>?_) (λc1=>?_)
 rotate_left
 ·refine Qar ?_
  exact ret (h false (by simp;exact λhh=>c1 hh.1))
 refine Qar ?_
 refine ret (h _ ?_)
 rw[decide_eq_true_eq]
 exact⟨λhh=>⟨c1,hh⟩,λhh=>hh.2⟩
theorem yct(l:List Int)(hl:l.length<=1000000000)(R:Ja)(h:∀v N,RowsQ 1 yu N v l->R v N):Jb 349 [lst 1 yu l] Store.empty R:=by
 refine Qa (c:=cfg 8) zb Tryz.func349 ?_
 intro b hb
 cases b with
 |true=>
  have:l=[]:=by
   have:=congrArg List.length (hb rfl)
   rw[zh]at this
   exact Fat this
  subst this
  exact ret (h (.s (.slice none 0 0)) Store.empty (.inl (.inl ⟨rfl,rfl⟩)))
 |false=>
  refine⟨by decide,?_⟩
  exact Md (ie:=ti12) rfl Wf (by decide) hl (λv N hv hd=>ret (h v _ (by rw[Ax];exact hv)))
def Nx(p:Per)(v:AV):List AV:=[int p.id,int p.players,int p.delay,int p.turn,int p.said,lst 3 yy p.mine,lst 3 yy p.inputs,yg p.has,yg p.acked,v,V.bool p.split]
def Gn(p:Per):Prop:=Fg p.mine/\Fg p.inputs/\p.has.length<=1000000000/\p.acked.length<=1000000000/\p.hashes.length<=1000000000
theorem zuv(p:Per)(hs:Gn p)(R:Ja)(h:∀v N,RowsQ 1 yu N v p.hashes->R (.agg (Nx p v)) N):Jb 276 [.agg (zz p)] Store.empty R:=by
 obtain⟨h1,h2,h3,h4,h5⟩:=hs
 refine Qa (c:=cfg 24) zb Tryz.func276 ?_
 refine Qc zb zrn ?_
 refine⟨ek p.mine h1 _ _ ⟨Qe,?_⟩,Tv⟩
 refine⟨ek p.inputs h2 _ _ ⟨Qe,?_⟩,Tv⟩
 refine Qar ?_
 refine Qar ?_
 refine Qc zb zrm ?_
 refine⟨bg p.has h3 _ _ ⟨Qe,?_⟩,Tv⟩
 refine⟨bg p.acked h4 _ _ ⟨Qe,?_⟩,Tv⟩
 refine⟨yct p.hashes h5 _ (λv N hv=>?_),Tv⟩
 have hv2:=hv
 obtain⟨oa,cap,rfl,_⟩:=hv2.form
 refine⟨Qe,?_⟩
 refine Qar ?_
 refine Qar ?_
 refine Qar ?_
 exact ret (h _ N hv)
theorem zvt{t:Int}{l:List Inp}(h:Fg l):Fg (ofT t l)/\Fg (Bw t l):=by
 refine⟨⟨Fcj (Fb2 _ _) h.1,λi hi=>h.2 i (Fbt.1 hi).1⟩,⟨Fcj (Fb2 _ _) h.1,λi hi=>h.2 i (Fbt.1 hi).1⟩⟩
def jc(p:Per):List Cmd:=Ar (ofT p.turn p.inputs)
theorem zt0(p:Per)(hf:p.fits)(hs:Gn p)(hn:(jc p).length<=1000000)(st:Store)(R:Ja)
  (h1:¬wg p->R (.tup [.s (.slice none 0 0),V.bool false,int 1]) st) (h2:wg p->¬Dh p->R (.tup [.s (.slice none 0 0),V.bool false,int 0]) st)
  (h3:wg p->Dh p->R (.tup [lst 10 yo (jc p),V.bool true,int 0]) st):Jb 281 [.agg (zz p)] st R:=by
 obtain⟨s1,s2,s3,s4,s5⟩:=hs
 refine Qa (c:=cfg 25) zb Tryz.func281 ?_
 refine Ic p hf _ _ (λz hz=>?_)
 refine yp ?_
 refine zi (λc1=>?_) (λc1=>?_)
 rotate_left
 ·exact ret (h1 λhh=>by have:=hz.2 hh;rw[this]at c1;cases c1)
 have hp:=hz.1 c1
 have hne:0<p.has.length:=by have:=hp.2.2.1.2.1;have:=hp.1.1.1;omega
 refine sm p hne s3 _ _ (λz2 hz2=>?_)
 refine yp ?_
 refine zi (λc2=>?_) (λc2=>?_)
 rotate_left
 ·exact ret (h2 hp λhh=>by have:=hz2.2 hh;rw[this]at c2;cases c2)
 refine ei p.inputs s2 p.turn _ _ ?_
 refine zpa (ofT p.turn p.inputs) (zvt s2).1 hn _ _ ?_
 exact ret (h3 hp (hz2.1 c2))
def qj(p:Per)(n:Int):Per:={p with inputs:=Bw p.turn p.inputs,turn:=p.turn+1,hashes:=if 16<p.hashes.length+1 then(p.hashes++[n]).drop 1 else p.hashes++[n]}
theorem zt4(p:Per)(n:Int)(hf:p.fits)(hs:Gn p)(hp:wg p)(hc:Dh p)(hh:p.hashes.length<16)(R:Ja)
  (h:∀v N,RowsQ 1 yu N v (p.hashes++[n])->R (.tup [.agg (Nx (qj p n) v),int 0]) N):Jb 282 [.agg (zz p),u64 n] Store.empty R:=by
 obtain⟨s1,s2,s3,s4,s5⟩:=hs
 refine Qa (c:=cfg 46) zb Tryz.func282 ?_
 refine Ic p hf _ _ (λz hz=>?_)
 refine yp ?_
 refine zi (λc1=>?_) (λc1=>?_)
 rotate_left
 ·have:=hz.2 hp;rw[this]at c1;cases c1
 have hne:0<p.has.length:=by have:=hp.2.2.1.2.1;have:=hp.1.1.1;omega
 refine sm p hne s3 _ _ (λz2 hz2=>?_)
 refine yp ?_
 refine zi (λc2=>?_) (λc2=>?_)
 rotate_left
 ·have:=hz2.2 hc;rw[this]at c2;cases c2
 refine zuv p ⟨s1,s2,s3,s4,s5⟩ _ (λv N hv=>?_)
 have hv2:=hv
 obtain⟨oa,cap,rfl,_⟩:=hv2.form
 refine ei p.inputs s2 p.turn _ _ ?_
 have hpt:0<=p.turn/\p.turn<1099511627776:=⟨hp.1.2.2.2.1,hc.2⟩
 refine Qd ?_
 refine⟨by decide,?_⟩
 refine ti (ie:=ti12) rfl Wf (by decide) hv n rfl s5 (λb cap2 L2 q1 q2 q3 q4=>?_)
 refine bcd (λc3=>?_) (λc3=>?_)
 ·simp at c3;omega
 exact ret (h _ _ (.inl (.inr ⟨b,cap2,L2,rfl,zc _ _ _,q2,q3,q4⟩)))
theorem iv(p:Per)(n:Int)(hf:p.fits)(hs:Gn p)(hp:wg p)(hc:Dh p)(hh:p.hashes.length<16)(st:Store)(R:Ja)
  (h:R (.tup [.agg (zz (qj p n)),int 0]) st):Jb 282 [.agg (zz p),u64 n] st R:=by
 refine C7 (Q:=λr=>r=.tup [.agg (zz (qj p n)),int 0]) ?_ st R λr hr=>hr▸h
 refine(zt4 p n hf hs hp hc hh (λr S=>∃v,RowsQ 1 yu S v (p.hashes++[n])/\r=.tup [.agg (Nx (qj p n) v),int 0]) λv N hv=>⟨v,hv,rfl⟩).frozen ?_
 rintro r S ⟨v,hv,rfl⟩
 refine⟨_,rfl,λOth M W x sto hx=>?_⟩
 have e:(qj p n).hashes=p.hashes++[n]:=by unfold qj;exact if_neg (by omega)
 refine VRel.tup2 hx (λy hy=>?_) (λy hy=>jk hy)
 have e1:Nx (qj p n) v=(zz (qj p n)).set 9 v:=rfl
 have e2:zz (qj p n)=(zz (qj p n)).set 9 (lst 1 yu (p.hashes++[n])):=by rw[<-e];rfl
 rw[e1]at hy
 rw[e2]
 exact yep (λb o hb=>hb.1) hy λz hz=>hv.borrow Wf zy4 sto hz
theorem zym(n:Nat)(v:Int):(il n λ_=>v)=(rws zu (List.replicate n v)).flatten:=by
 unfold il rws
 induction n with
 |zero=>rfl
 |succ n ih=>simp[List.range_succ,List.replicate_succ',ih,zu]
theorem ztx(v:Int)(n:Nat)(h0:1<=n)(hn:n<=1000000)(st:Store)(R:Ja)(h:R (yg (List.replicate n v)) st):
  Jb 113 [lst 1 zu [v],int (n:Nat)] st R:=by
 refine C7 (Q:=λr=>r=yg (List.replicate n v)) ?_ st R λr hr=>hr▸h
 refine(Ss v n h0 hn Store.empty (λr S=>RowsQ 1 zu S r (List.replicate n v)) λb hf=>?_).frozen ?_
 ·refine .inl (.inr ⟨b,n,[],by rw[Fao],?_,?_,?_,?_⟩)
  ·rw[zc,Fc0,zym]
  ·rw[Fao];exact Fah _
  ·rw[Fao];exact Fah _
  ·omega
 ·exact λr S hr=>⟨_,rfl,λOth M w v sto hx=>hr.borrow Hd Lj sto hx⟩
def qs(id n d:Int):Per:=⟨id,n,d,0,d-1,[],[],if 1<=n/\n<=8 then List.replicate n.toNat (d-1)else [],if 1<=n/\n<=8 then List.replicate n.toNat (d-1)else [],[],false⟩
def Ie:Per:=⟨0,0,0,0,0,[],[],[],[],[],false⟩
theorem l7(id n d:Int):(qs id n d).fits:=by
 have hl:(qs id n d).has.length<=8:=by
  show(if 1<=n/\n<=8 then List.replicate n.toNat (d-1)else []).length<=8
  split
  ·rw[Fao];omega
  ·exact Faf _
 have hl2:(qs id n d).acked.length<=8:=hl
 exact⟨⟨by simp[qs],by simp[qs]⟩,⟨by simp[qs],by simp[qs]⟩,by omega,by omega,by simp[qs]⟩
theorem zv4(id n d:Int)(x y:AV):AV.le (.agg [int id,int n,int d,int 0,int (d-1),.s (.slice none 0 0),.s (.slice none 0 0),x,y,.s (.slice none 0 0),V.bool false]) (.agg [int id,int n,int d,int 0,int (d-1),lst 3 yy [],lst 3 yy [],x,y,lst 1 yu [],V.bool false]):=
 AV.le_aggL ⟨Tt,Tt,Tt,Tt,Tt,AV.le_nil 3,AV.le_nil 3,Tt,Tt,AV.le_nil 1,Tt,Tv⟩
theorem N9(id n d:Int):AV.le (.agg [int id,int n,int d,int 0,int (d-1),.s (.slice none 0 0),.s (.slice none 0 0),.s (.slice none 0 0),.s (.slice none 0 0),.s (.slice none 0 0),V.bool false]) (.agg (zz ⟨id,n,d,0,d-1,[],[],[],[],[],false⟩)):=
 AV.le_aggL ⟨Tt,Tt,Tt,Tt,Tt,AV.le_nil 3,AV.le_nil 3,AV.le_nil 1,AV.le_nil 1,AV.le_nil 1,Tt,Tv⟩
theorem Rg:AV.le (.agg [int 0,int 0,int 0,int 0,int 0,.s (.slice none 0 0),.s (.slice none 0 0),.s (.slice none 0 0),.s (.slice none 0 0),.s (.slice none 0 0),V.bool false]) (.agg (zz Ie)):=
 AV.le_aggL ⟨Tt,Tt,Tt,Tt,Tt,AV.le_nil 3,AV.le_nil 3,AV.le_nil 1,AV.le_nil 1,AV.le_nil 1,Tt,Tv⟩
theorem li(id n d:Int)(hd:-1000000<=d/\d<=1000000)(st:Store)(R:Ja)
  (h1:¬wg (qs id n d)->R (.tup [.agg (zz Ie),int 1]) st) (h2:wg (qs id n d)->R (.tup [.agg (zz (qs id n d)),int 0]) st):Jb 59 [int id,int n,int d] st R:=by
 refine Qa (c:=cfg 38) zb Tryz.func59 ?_
 refine Qd ?_
 have mid:∀q:Per,q=qs id n d->∀z:Bool,(z=true↔wg q)->(z=true->R (.tup [.agg (zz q),int 0]) st)/\(z=false->R (.tup [.agg (zz Ie),int 1]) st):=λq hq z hz=>by
  subst hq
  exact⟨λe=>h2 (hz.1 e),λe=>h1 λhh=>by rw[hz.2 hh]at e;cases e⟩
 have hf:=l7 id n d
 refine bcd (λc1=>?_) (λc1=>?_)
 ·refine bcd (λc2=>?_) (λc2=>?_)
  ·have hn:((n.toNat:Nat):Int)=n:=by omega
   have e:qs id n d=⟨id,n,d,0,d-1,[],[],List.replicate n.toNat (d-1),List.replicate n.toNat (d-1),[],false⟩:=by
    unfold qs
    rw[if_pos ⟨c1,c2⟩]
   refine Qd ?_
   refine⟨by decide,?_⟩
   have hr:=λ(R':Ja) (hh:R' (yg (List.replicate n.toNat (d-1))) st)=>ztx (d-1) n.toNat (by omega) (by omega) st R' hh
   rw[hn]at hr
   refine hr _ ?_
   refine Qd ?_
   refine⟨by decide,?_⟩
   refine hr _ ?_
   rw[e]at hf
   have hle:AV.le _ (.agg (zz ⟨id,n,d,0,d-1,[],[],List.replicate n.toNat (d-1),List.replicate n.toNat (d-1),[],false⟩)):=zv4 id n d (yg (List.replicate n.toNat (d-1))) (yg (List.replicate n.toNat (d-1)))
   refine ACalls.le (xs:=[_]) (ys:=[_]) ⟨hle,Tv⟩ (Ic _ hf _ _ (λz hz=>?_))
   obtain⟨m1,m2⟩:=mid _ e.symm z hz
   refine yp ?_
   refine zi (λc3=>?_) (λc3=>?_)
   ·exact⟨.tup [.agg (zz _),int 0],st,AV.le_tupL (xs:=[.agg [int id,int n,int d,int 0,int (d-1),.s (.slice none 0 0),.s (.slice none 0 0),yg (List.replicate n.toNat (d-1)),yg (List.replicate n.toNat (d-1)),.s (.slice none 0 0),V.bool false],int 0]) (ys:=[.agg (zz _),int 0]) ⟨hle,Tt,Tv⟩,Store.Has.refl st,m1 c3⟩
   ·exact⟨.tup [.agg (zz _),int 1],st,AV.le_tupL (xs:=[.agg [int 0,int 0,int 0,int 0,int 0,.s (.slice none 0 0),.s (.slice none 0 0),.s (.slice none 0 0),.s (.slice none 0 0),.s (.slice none 0 0),V.bool false],int 1]) (ys:=[.agg (zz Ie),int 1]) ⟨Rg,Tt,Tv⟩,Store.Has.refl st,m2 c3⟩
  ·have e:qs id n d=⟨id,n,d,0,d-1,[],[],[],[],[],false⟩:=by
    unfold qs
    rw[if_neg (by omega)]
   rw[e]at hf
   refine ACalls.le (xs:=[_]) (ys:=[_]) ⟨N9 id n d,Tv⟩ (Ic _ hf _ _ (λz hz=>?_))
   obtain⟨m1,m2⟩:=mid _ e.symm z hz
   refine yp ?_
   refine zi (λc3=>?_) (λc3=>?_)
   ·exact⟨.tup [.agg (zz _),int 0],st,AV.le_tupL (xs:=[.agg [int id,int n,int d,int 0,int (d-1),.s (.slice none 0 0),.s (.slice none 0 0),.s (.slice none 0 0),.s (.slice none 0 0),.s (.slice none 0 0),V.bool false],int 0]) (ys:=[.agg (zz _),int 0]) ⟨N9 id n d,Tt,Tv⟩,Store.Has.refl st,m1 c3⟩
   ·exact⟨.tup [.agg (zz _),int 1],st,AV.le_tupL (xs:=[.agg [int 0,int 0,int 0,int 0,int 0,.s (.slice none 0 0),.s (.slice none 0 0),.s (.slice none 0 0),.s (.slice none 0 0),.s (.slice none 0 0),V.bool false],int 1]) (ys:=[.agg (zz Ie),int 1]) ⟨Rg,Tt,Tv⟩,Store.Has.refl st,m2 c3⟩
 ·have e:qs id n d=⟨id,n,d,0,d-1,[],[],[],[],[],false⟩:=by
   unfold qs
   rw[if_neg (by omega)]
  rw[e]at hf
  refine ACalls.le (xs:=[_]) (ys:=[_]) ⟨N9 id n d,Tv⟩ (Ic _ hf _ _ (λz hz=>?_))
  obtain⟨m1,m2⟩:=mid _ e.symm z hz
  refine yp ?_
  refine zi (λc3=>?_) (λc3=>?_)
  ·exact⟨.tup [.agg (zz _),int 0],st,AV.le_tupL (xs:=[.agg [int id,int n,int d,int 0,int (d-1),.s (.slice none 0 0),.s (.slice none 0 0),.s (.slice none 0 0),.s (.slice none 0 0),.s (.slice none 0 0),V.bool false],int 0]) (ys:=[.agg (zz _),int 0]) ⟨N9 id n d,Tt,Tv⟩,Store.Has.refl st,m1 c3⟩
  ·exact⟨.tup [.agg (zz _),int 1],st,AV.le_tupL (xs:=[.agg [int 0,int 0,int 0,int 0,int 0,.s (.slice none 0 0),.s (.slice none 0 0),.s (.slice none 0 0),.s (.slice none 0 0),.s (.slice none 0 0),V.bool false],int 1]) (ys:=[.agg (zz Ie),int 1]) ⟨Rg,Tt,Tv⟩,Store.Has.refl st,m2 c3⟩
theorem zvx(p:Per)(hf:p.fits)(hp:wg p)(h1:p.players=1)(st:Store)(R:Ja)(h:R (.tup [.s (.slice none 0 0),int 0]) st):Jb 202 [.agg (zz p)] st R:=by
 have hid:p.id=1:=by have:=hp.1.2.1;omega
 refine Qa (c:=cfg 67) zb Tryz.func202 ?_
 refine Ic p hf _ _ (λb hb=>?_)
 rw[hb.2 hp]
 refine AWp.loop (σ:=Nat) ⟨λn=>[(1,.bx 1 0),(2,.av (.s (.slice none 0 0))),(3,.av (int 0)),(4,.bx 4 0)],λn=>[(1,zz p),(4,[int ((n+1:Nat):Int)])],λn S=>n<=1/\S=st,λn=>1-n⟩ zb ?_ ?_
 ·exact⟨0,Tv,⟨by decide,rfl⟩,Qao,⟨rfl,rfl,Tv⟩⟩
 rintro n S ⟨hn,rfl⟩
 refine bcd (λc1=>?_) (λc1=>?_)
 rotate_left
 ·exact ret h
 refine qf (λc2=>?_) (λc2=>?_)
 ·refine Qd ?_
  exact⟨n+1,(show 1-(n+1)<1-n by omega),⟨by omega,rfl⟩,Qao,⟨rfl,rfl,Tv⟩⟩
 ·exact absurd (show((n+1:Nat):Int)=p.id by omega) c2
end Go.Proofs
