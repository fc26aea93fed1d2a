/- Ground of laws of throngtop: contracts and plain lemmas; no condition beyond the row's own. -/
import Derived.Test.YtkahacegdhllcaaGreatKY
import Derived.Test.YtkahacegdhllcaaGreatKX
set_option linter.unusedSimpArgs false
set_option linter.unusedVariables false
set_option linter.defProp false
namespace Go.Proofs
open Go Go.V
set_option maxRecDepth 20000
set_option maxHeartbeats 4000000
end Go.Proofs
namespace Go.Proofs
open Go Go.V
set_option maxRecDepth 20000
set_option maxHeartbeats 4000000
end Go.Proofs
namespace Go.Proofs
open Go Go.V
set_option maxRecDepth 20000
set_option maxHeartbeats 4000000
end Go.Proofs
namespace Go.Proofs
open Go Go.V
set_option maxRecDepth 20000
set_option maxHeartbeats 4000000
end Go.Proofs
namespace Go.Proofs
open Go Go.V
set_option maxRecDepth 20000
set_option maxHeartbeats 4000000
def ykm{Nu N:Store}{w:Wld}{v:AV}(hu:RowsQ 10 zm Nu v w.U)(hp:playW w)(hd:zj Nu N){fb:Nat}{room:Int}{k:Nat}(hF:FldAny fb room (k:Nat) N)(hk:k<=1000000000000000000)(R:Ja)
  (h:∀X N',RowsQ 10 zm X v (vf w).U->zj X N'->FldAny fb room ((k+w.U.length:Nat):Int) N'->R (.agg (jh (vf w) v)) (X.un N')):Jb 176 [.agg (jh w v),ptr fb] (Nu.un N) R:=by
 have hm:=ww hp.1;have hU:=hm.hU;have⟨oa,cap,ev,hget⟩:=hu.form;subst ev;refine Qa (c:=cfg 45 [13] []) zb Tryz.func176 ?_;refine ACalls.frame hd (ze5 w _ Nu hu θ hp.2 (λr S=>∃F s p L o0 o1 o2,r=ptr s/\S=F.un (svS Nu s w (.s (.slice oa w.U.length cap)) o0 o1 o2 p)/\Fresh Nu s/\StandR F Nu s p w (.s (.slice oa w.U.length cap)) L o0 o1 o2/\L.length<=w.U.length/\(yl w.U->∀e,e∈L↔∃u∈w.U,u.inn=0/\e=(u.id,u.pos))) (λF s p L o0 o1 o2 h1 h2 h3 h4=>⟨F,s,p,L,o0,o1,o2,rfl,rfl,h1,h2,h3,h4⟩)) ?_;rintro r S ⟨F,s,p,L,o0,o1,o2,rfl,rfl,hs,hS,hLl,hmem⟩ hd1;refine yuv rfl (it:=ti128) rfl rfl ?_;intro mb hmb;have hmbF:=fresh_un hmb;have hnF:¬F.has mb/\¬(svS Nu s w (.s (.slice oa w.U.length cap)) o0 o1 o2 p).has mb:=by have:=fresh_iff.1 hmbF.1;exact⟨λhh=>this (un_has.2 (.inl hh)),λhh=>this (un_has.2 (.inr hh))⟩
 have hmN2:¬N.has mb:=fresh_iff.1 hmbF.2;have hms:mb≠s:=λe=>hnF.2 (svS_has.2 (.inl e));have hmN:¬Nu.has mb:=λhh=>hnF.2 (svS_has.2 (.inr hh));have hmN0:Nu.obj mb=none:=(vj hmN).1;have omb:kl (.s (.slice oa w.U.length cap)) mb:=Lz hu hmN0;have oms:kl (.s (.slice oa w.U.length cap)) s:=Lz hu hS.hs;have e0:((F.un (svS Nu s w (.s (.slice oa w.U.length cap)) o0 o1 o2 p)).un N).sO mb (AObj.cells [AV.s (Value.pointer (some {block:=s,off:=0})),AV.s (Value.iface 128 (Value.pointer (some {block:=fb,off:=0})))])=(F.un (svS (Nu.sO mb (.cells [ptr s,Sm fb])) s w (.s (.slice oa w.U.length cap)) o0 o1 o2 p)).un N:=by rw[Fs hmN2,zy];unfold svS;rw[Ic hms];rfl
 have hW:MoverG (Sm fb) F (Nu.sO mb (.cells [ptr s,Sm fb])) mb s p w (.s (.slice oa w.U.length cap)) L o0 o1 o2:=
  ⟨⟨hS.hc,λi h1 h2=>by
    rcases svS_has.1 h2 with h2|h2
    ·exact hS.hd i h1 (svS_has.2 (.inl h2))
    ·rcases has_setObj_iff.1 h2 with h2|h2
     ·subst h2;exact hnF.1 h1
     ·exact hS.hd i h1 (svS_has.2 (.inr h2)),by rw[zf (Ne.symm hms)];exact hS.hs,hu.set omb _,hS.h0,hS.h1,hS.h2⟩,zd _ _ _,omb,oms,hLl,hmem hp.1.1.2.1⟩
 have hd2:zj (F.un (svS (Nu.sO mb (.cells [ptr s,Sm fb])) s w (.s (.slice oa w.U.length cap)) o0 o1 o2 p)) N:=λi h1 h2=>by
  rcases un_has.1 h1 with h1|h1
  ·exact hd1 i (un_has.2 (.inl h1)) h2
  ·rcases svS_has.1 h1 with h1|h1
   ·exact hd1 i (un_has.2 (.inr (svS_has.2 (.inl h1)))) h2
   ·rcases has_setObj_iff.1 h1 with h1|h1
    ·subst h1;exact hmN2 h2
    ·exact hd1 i (un_has.2 (.inr (svS_has.2 (.inr h1)))) h2
 rw[e0];clear e0 hmbF hmb hnF hd1 hS hs hLl hmem
 refine AWp.loop (σ:=Nat) ⟨λi=>[(5,.av (ptr mb)),(16,.av (int (w.U.length:Nat))),(17,.av (int (i:Nat))),(4,.bx 4 0)],λ_=>[(4,K4)],
  λi S=>i<=w.U.length/\∃F G L q0 q1 q2 n N,S=(F.un (svS G s (goN w i) (.s (.slice oa w.U.length cap)) q0 q1 q2 p)).un N/\MoverG (Sm fb) F G mb s p (goN w i) (.s (.slice oa w.U.length cap)) L q0 q1 q2/\zj (F.un (svS G s (goN w i) (.s (.slice oa w.U.length cap)) q0 q1 q2 p)) N/\FldAny fb room ((k+n:Nat):Int) N/\n<=i,λi=>w.U.length-i⟩ zb ?_ ?_
 ·exact⟨0,Tv,⟨Fae _,F,_,L,o0,o1,o2,0,N,rfl,hW,hd2,hF,Fah _⟩,⟨Tq,Tq,Tq,Tq,Tv⟩,⟨rfl,Tv⟩⟩
 clear hW hd2 hF hd hmN2 hmN hmN0 hms omb oms hu hget;rintro i S ⟨hi,F1,G1,L1,q0,q1,q2,n,N1,rfl,hW,hd1,hF,hn⟩;have⟨hpi,hli,_,_⟩:=Sh hp i;have hmi:=ww hpi.1;refine bcd (λh1=>?_) (λh1=>?_)
 ·have hlt:i<w.U.length:=θ;have hil:i<(goN w i).U.length:=θ;have⟨oa2,cap2,ev2,hget2⟩:=hW.S.hu.form;have⟨b,J,hoa,hob0⟩:=hget2 i hil;have hoa3:oa=some ⟨b,0,none⟩:=by
   simp only[AV.s.injEq,Value.slice.injEq]at ev2;rw[ev2.1,hoa]
  subst hoa3;have hbs:b≠s:=λe=>by rw[e,hW.S.hs]at hob0;cases hob0
  have hob:((F1.un (svS G1 s (goN w i) (.s (.slice (some ⟨b,0,none⟩) w.U.length cap)) q0 q1 q2 p)).un N1).obj b=some (.cells ((rws zm (goN w i).U).flatten++J)):=yf hd1 (zg (by show(G1.sO s _).obj b=_;rw[zf hbs];exact hob0));refine za (o:=((F1.un (svS G1 s (goN w i) (.s (.slice (some ⟨b,0,none⟩) w.U.length cap)) q0 q1 q2 p)).un N1).obj mb) _ (yf hd1 hW.m) (za (o:=((F1.un (svS G1 s (goN w i) (.s (.slice (some ⟨b,0,none⟩) w.U.length cap)) q0 q1 q2 p)).un N1).obj s) _ (yf hd1 hW.s) ⟨i,rfl,hlt,za (o:=((F1.un (svS G1 s (goN w i) (.s (.slice (some ⟨b,0,none⟩) w.U.length cap)) q0 q1 q2 p)).un N1).obj b) _ hob (xr (i:=ti93) (row:=zm (goN w i).U[i]) rfl rfl (D3 Cy hil) (zu (λc1=>?_) (λc1=>?_)))⟩)
  ·have hg:=yoi hil c1;refine zm3 (ynq hmi fb room k (n+1) θ) (Nat.lt_succ_self n) hW hd1 hF hpi.1 hpi.2 hil c1 _ (λF2 G2 L2 a0 a1 a2 n2 N2 hn2 hW2 hd2 hF2=>Qd ⟨i+1,ϑ,⟨hlt,F2,G2,L2,a0,a1,a2,n2,N2,?_,?_,?_,hF2,θ⟩,Qax,⟨rfl,Tv⟩⟩)
   ·rw[hg]
   ·rw[hg];exact hW2
   ·rw[hg];exact hd2
  ·have hg:=yoh hil c1;refine Qd ⟨i+1,ϑ,⟨hlt,F1,G1,L1,q0,q1,q2,n,N1,?_,?_,?_,hF,θ⟩,Qax,⟨rfl,Tv⟩⟩
   ·rw[hg]
   ·rw[hg];exact hW
   ·rw[hg];exact hd1
 ·have:i=w.U.length:=θ;subst this;have⟨oa2,cap2,ev2,_⟩:=hW.S.hu.form;exact za (o:=((F1.un (svS G1 s (goN w w.U.length) (.s (.slice oa w.U.length cap)) q0 q1 q2 p)).un N1).obj mb) _ (yf hd1 hW.m) (za (o:=((F1.un (svS G1 s (goN w w.U.length) (.s (.slice oa w.U.length cap)) q0 q1 q2 p)).un N1).obj s) _ (yf hd1 hW.s) (ret (h _ _ (Ka hW.S.hs hW.S.hu).un hd1 (hF.mono θ))))
def F7(g:Gnd)(n:Int):Wld:=⟨0,n,1,g,[],[]⟩
def xu(g:Gnd)(n:Int):Prop:=zv g/\1<=n/\n<=8
def zlx{G:Store}{g:Gnd}{v:AV}(n:Int)(hn:yu n)
  (hMay:∀R:AV->Store->Prop,(∀b:Bool,(b=true↔zv g)->R (V.bool b) G)->Jb 39 [.agg [int g.W,int g.H,v]] G R)
  (hOwn:∀R:AV->Store->Prop,(∀vT N,RowsQ 1 u8C N vT g.T->zj N G->R (.agg [int g.W,int g.H,vT]) (N.un G))->Jb 61 [.agg [int g.W,int g.H,v]] G R):
  Jb 27 [.agg [int g.W,int g.H,v],int n] G λr S=>(¬xu g n/\r=.tup [.agg K4,int 1]/\S=G)∨
   (xu g n/\∃vT N,RowsQ 1 u8C N vT g.T/\zj N G/\r=.tup [.agg [int 0,int n,int 1,int g.W,int g.H,vT,nil,nil],int 0]/\S=N.un G):=by
 refine Qy 22 Tryz.func27 ?_;refine hMay _ (λz hz=>?_)
 have bad:¬xu g n->(¬xu g n/\(.tup [.agg K4,int 1]:AV)=.tup [.agg K4,int 1]/\G=G)∨
   (xu g n/\∃vT N,RowsQ 1 u8C N vT g.T/\zj N G/\(.tup [.agg K4,int 1]:AV)=.tup [.agg [int 0,int n,int 1,int g.W,int g.H,vT,nil,nil],int 0]/\G=N.un G):=λh=>.inl ⟨h,rfl,rfl⟩
 refine yj (zk (λc1=>?_) (λc1=>?_));rotate_left
 ·exact ret (bad λhh=>ψt)
 refine bcd (λc2=>?_) (λc2=>?_)
 ·exact ret (bad λhh=>by have:=hh.2;omega)
 refine bcd (λc3=>?_) (λc3=>?_)
 ·exact ret (bad λhh=>by have:=hh.2;omega)
 refine hOwn _ (λvT N hv hd=>?_);have hform:=hv.form;obtain⟨oa,cap,rfl,_⟩:=hform;exact ret (.inr ⟨⟨hz.1 c1,θ,θ⟩,_,N,hv,hd,rfl,rfl⟩)
def zlw(g:Gnd)(hg:g.fits)(hT:g.T.length<=1000000000)(n:Int)(hn:yu n)(st:Store)(R:Ja)
  (hbad:¬xu g n->R (.tup [.agg K4,int 1]) st) (hok:xu g n->R (.tup [.agg (zr (F7 g n)),int 0]) st):Jb 27 [.agg (zw g),int n] st R:=by
 refine Dn (Q:=λr=>(¬xu g n/\r=.tup [.agg K4,int 1])\/(xu g n/\r=.tup [.agg (zr (F7 g n)),int 0])) ?_ st R λr hr=>?_
 ·refine(zlx (G:=Store.empty) (v:=qa g.T) n hn (λR h=>rz g hg _ R h) (λR h=>r9 g hT _ R h)).frozen ?_;rintro r S (⟨h1,rfl,rfl⟩|⟨h1,vT,N,hv,hd,rfl,rfl⟩)
  ·exact⟨_,.inl ⟨h1,rfl⟩,λOth M w v sto hx=>qv hx⟩
  ·refine⟨_,.inr ⟨h1,rfl⟩,λOth M w v sto hx=>hx.tup2 (λx hx=>?_) (λx hx=>qv hx)⟩;have ho:OwnQ (N.un Store.empty) (F7 g n) vT nil nil N Store.empty Store.empty:=⟨by rw[vo,vo,Bn],hv,.inl (.inl ⟨rfl,rfl⟩),.inl (.inl ⟨rfl,rfl⟩),Su _,Su _⟩
   exact og ho sto hx
 ·rcases hr with⟨h1,rfl⟩|⟨h1,rfl⟩
  ·exact hbad h1
  ·exact hok h1
def Gz(w:Wld)(fb:Nat):List AV:=zr w++[ptr fb]
structure EngR(eb:Nat)(room:Int)(k:Nat)(w:Wld)(S:Store):Prop where
 out:∃N fb,S=N.sO eb (.cells (Gz w fb))/\¬N.has eb/\FldAny fb room (k:Nat) N
def FldAny.objs0{fb:Nat}{room k:Int}{N:Store}(h:FldAny fb room k N):FldAny fb room k N.objs0:=h.objs
def zlv(w:Wld)(hw:w.fits)(hn:∀u∈w.U,u.pos.ok)(hT:w.G.T.length<=1000000)(hB:w.B.length<=1000000)(hU:w.U.length<=1000000)(room:Int)(hr:1<=room/\room<=4096)(R:Ja)
  (hbad:¬z8 w->R (.tup [.s (.pointer none),int 1]) Store.empty) (hok:z8 w->∀eb S,EngR eb room 0 w S->R (.tup [ptr eb,int 0]) S):Jb 29 [.agg (zr w),int room] Store.empty R:=by
 have key:Jb 29 [.agg (zr w),int room] Store.empty λr S=>(¬z8 w/\r=.tup [.s (.pointer none),int 1])∨
   (z8 w/\∃X N eb fb vT vB vU NT NB NU,OwnQ X w vT vB vU NT NB NU/\zj X N/\¬X.has eb/\¬N.has eb/\FldAny fb room ((0:Nat):Int) N/\r=.tup [ptr eb,int 0]/\S=(X.un N).sO eb (.cells (I3 w vT vB vU++[ptr fb]))):=by
  refine Qa (c:=cfg 25 [24] []) zb Tryz.func29 ?_;refine yo4 room hr _ (λN fb hF=>?_);refine zgd w hw hn _ _ (λz hz=>yj (zk (λc1=>?_) (λc1=>?_)));rotate_left
  ·exact ret (.inl ⟨λhh=>ψw,rfl⟩)
  have hown:Jb 65 [.agg (zr w)] (Store.empty.un N) λr S=>∃X vT vB vU NT NB NU,OwnQ X w vT vB vU NT NB NU/\zj X N/\r=.agg (I3 w vT vB vU)/\S=X.un N:=
   ACalls.frame (Kw N) (n9 w θ θ θ (λr S=>∃vT vB vU NT NB NU,OwnQ S w vT vB vU NT NB NU/\r=.agg (I3 w vT vB vU)) (λS vT vB vU NT NB NU h=>⟨vT,vB,vU,NT,NB,NU,h,rfl⟩)) (λr a' ⟨vT,vB,vU,NT,NB,NU,h1,h2⟩ hd=>⟨a',vT,vB,vU,NT,NB,NU,h1,hd,h2,rfl⟩)
  rw[vo]at hown;refine hown.imp ?_;rintro r S ⟨X,vT,vB,vU,NT,NB,NU,ho,hd,rfl,rfl⟩;have⟨rT,rB,rU⟩:=od ho;have⟨_,_,e1,_⟩:=rT.form;have⟨_,_,e2,_⟩:=rB.form;have⟨_,_,e3,_⟩:=rU.form;subst e1 e2 e3;intro eb heb;have heb:=fresh_iff.1 heb;exact ret (.inr ⟨hz.1 c1,X,N,eb,fb,_,_,_,NT,NB,NU,ho,hd,λh=>heb (un_has.2 (.inl h)),λh=>heb (un_has.2 (.inr h)),hF,rfl,rfl⟩)
 refine key.frozenEng ?_;rintro r S (⟨h1,rfl⟩|⟨hm,X,N,eb,fb,vT,vB,vU,NT,NB,NU,ho,hd,h1,h2,hF,rfl,rfl⟩)
 ·exact .inl ⟨Store.empty,hbad h1,λb x hx=>γ,λb=>rfl⟩
 ·exact .inr ⟨_,X,N,eb,I3 w vT vB vU,zr w,_,hd,h1,h2,rfl,rfl,hok hm eb _ ⟨_,fb,rfl,λh=>h2 (h.elim .inl λh=>absurd rfl h),hF.objs0⟩,λOth M W sto=>⟨λx hx=>og ho sto hx,λx hx=>qv hx⟩⟩
section
variable {eb k:Nat} {room:Int} {w:Wld} {S:Store}
def Qag{p:Prop}(h:p:=by repeat(first|exact Tv|refine⟨rfl,?_⟩|refine⟨za (o:=(j8 _ Nt eb fb W).obj eb) _ (Hz _ _ _ _ _) rfl,?_⟩)):p:=h
def jx(fb:Nat):AV:=.s (.func (.func 175) #[.pointer (some ⟨fb,0,none⟩)] #[])
def DoC:Prop:=∀(fb:Nat) (room:Int) (k:Nat) (N:Store) (w:Wld) (c:Cmd),FldAny fb room (k:Nat) N->playW w->c.fits->∀R:AV->Store->Prop,(∀N',FldAny fb room (k:Nat) N'->R (.tup [.agg (zr (doW aE aW w c)),int (doE aE w c)]) N')->
 Jb 174 [.agg (zr w),.agg (zz c),jx fb] N R
def j8(N Nt:Store)(eb fb:Nat)(w:Wld):Store:=N.un (Nt.sO eb (.cells (Gz w fb)))
def Hz(N Nt:Store)(eb fb:Nat)(w:Wld):(j8 N Nt eb fb w).obj eb=some (.cells (Gz w fb)):=zg (zd _ _ _)
def fh{a g:Store}{b:Nat}{x y:AObj}(h:zj a (g.sO b x)):zj a (g.sO b y):=λi h1 h2=>h i h1 (has_setObj_iff.2 (has_setObj_iff.1 h2))
def yaj(hE:EngR eb room k w S)(hw:playW w)(l:List Cmd)(hl:l=[]\/DoC)(hf:∀c∈l,c.fits)(hl2:l.length<=512)(ht:w.tick<1099511627776)(hk:k<=100000000000000000):
  Jb 136 [ptr eb,lst 10 zz l] S λr S'=>∃(N:Store) (fb:Nat) (X Nt:Store) (v vt:AV),r=.tup [vt,int 0]/\S'=(X.un N).un (Nt.sO eb (.cells (jh (Gg w l) v++[ptr fb])))∧
   RowsQ 10 zm X v (Gg w l).U/\RowsQ 1 zn Nt vt (Bi w l)/\zj X N/\zj (X.un N) (Nt.sO eb (.cells []))/\¬Nt.has eb/\FldAny fb room ((k+4096:Nat):Int) N:=by
 obtain⟨N,fb,rfl,hn,hF⟩:=hE.out;refine Qy 74 Tryz.func136 ?_;refine za (o:=(N.sO eb _).obj eb) _ (zd _ _ _) ?_;refine zu (λc1=>absurd c1 θ) (λ_=>?_);refine bcd (λc2=>absurd c2 θe) (λ_=>?_);have e0:N.sO eb (.cells (Gz w fb))=j8 N Store.empty eb fb w:=by unfold j8;rw[<-zy,Bn]
 have hd0:zj N (Store.empty.sO eb (.cells [])):=λi h1 h2=>by
  rcases has_setObj_iff.1 h2 with rfl|h2
  ·exact hn h1
  ·exact h2.elim (λh=>h rfl) (λh=>h rfl)
 rw[e0]
 refine AWp.loop (σ:=Nat×Store×Store×AV) ⟨λx=>[(0,.av (ptr eb)),(6,.av x.2.2.2),(22,.av (lst 10 zz l)),(23,.av (int (l.length:Nat))),(24,.av (int (x.1:Nat)))],λ_=>[],
  λx st'=>x.1<=l.length/\st'=j8 x.2.1 x.2.2.1 eb fb (kr w (l.take x.1))/\RowsQ 1 zn x.2.2.1 x.2.2.2 (Bi w (l.take x.1))/\zj x.2.1 (x.2.2.1.sO eb (.cells []))/\¬x.2.2.1.has eb/\FldAny fb room (k:Nat) x.2.1,λx=>l.length-x.1⟩ zb ?_ ?_
 ·refine⟨(0,N,Store.empty,.s (.slice none 0 0)),Tv,⟨Fae _,rfl,.inl (.inl ⟨rfl,rfl⟩),hd0,λh=>h.elim (λh=>h rfl) (λh=>h rfl),hF⟩,⟨Tq,Tq,Tq,?_,Tq,Tv⟩,Tv⟩;show LV.le (.av (int ((rws zz l).length:Nat))) (.av (int (l.length:Nat)));rw[zi];exact Tq
 clear e0 hd0 hF hn hE;rintro⟨i,N,Nt,vt⟩ st' ⟨hi,rfl,hvt,hd,hnt,hF⟩;dsimp only at hi hvt hd hnt hF⊢;refine bcd (λh1=>?_) (λh1=>?_)
 ·have hlt:i<l.length:=θ;have⟨q1,q2⟩:=ysf (w:=w) hlt;have hp:=Ro (l.take i) hw;refine⟨i,rfl,za _ (zp hlt) ?_⟩;rcases hl with rfl|hDo
  ·exact absurd hlt (Fa3 i)
  have hcall:∀R:AV->Store->Prop,(∀N',FldAny fb room (k:Nat) N'->zj N' (Nt.sO eb (.cells []))->R (.tup [.agg (zr (doW aE aW (kr w (l.take i)) l[i])),int (doE aE (kr w (l.take i)) l[i])]) (j8 N' Nt eb fb (kr w (l.take i))))->
    Jb 174 [.agg (zr (kr w (l.take i))),.agg (zz l[i]),jx fb] (j8 N Nt eb fb (kr w (l.take i))) R:=λR h=>
   ACalls.frame (fh hd) (hDo fb room k N (kr w (l.take i)) l[i] hF hp (hf _ (Faa hlt)) (λr S=>FldAny fb room (k:Nat) S/\r=.tup [.agg (zr (doW aE aW (kr w (l.take i)) l[i])),int (doE aE (kr w (l.take i)) l[i])]) (λN' h=>⟨h,rfl⟩))
    λr a' ⟨h1,h2⟩ hd'=>h2▸h a' h1 (fh hd')
  have hTl:(Bi w (l.take i)).length<=i:=by rw[zjl,Fai];omega
  have hoff:=Lz hvt (vj hnt).1;generalize kr w (l.take i)=W at*;generalize Bi w (l.take i)=T at*;generalize doW aE aW W l[i]=W2 at*;generalize doE aE W l[i]=e2 at*;refine Qc zb ye6 (za (o:=(j8 N Nt eb fb W).obj eb) _ (Hz _ _ _ _ _) (za (o:=(j8 N Nt eb fb W).obj eb) _ (Hz _ _ _ _ _) ⟨hcall _ λN' hF' hd'=>⟨Tv,⟨⟨Qag,⟨⟨Tv,⟨⟨Tv,?_⟩,Tv⟩⟩,Tv⟩⟩,Tv⟩⟩,⟨⟨Qag,⟨hcall _ λN' hF' hd'=>⟨Tv,⟨⟨Tv,⟨⟨Tv,?_⟩,Tv⟩⟩,Tv⟩⟩,Tv⟩⟩,Tv⟩⟩))
  all_goals
   refine Qc zb ye8 ?_;have hvtN:RowsQ 1 zn (j8 N' Nt eb fb W) vt T:=(hvt.set hoff _).un;refine⟨ψ,Dt (ie:=ti2) rfl Mj ψ (v:=vt) (l:=T) hvtN e2 rfl θ (λb cap L h5 h6 h7 h8=>?_),Tv⟩;have hbe:b≠eb:=by
    rcases h5 with h5|⟨c0,h0,h5⟩
    ·exact λe=>fresh_iff.1 h5 (by rw[e];exact j6 (Hz _ _ _ _ _))
    ·exact hoff b _ c0 h5 h0
   have hbN:¬N'.has b:=by
    rcases h5 with h5|⟨c0,h0,h5⟩
    ·exact λe=>fresh_iff.1 h5 (un_has.2 (.inl e))
    ·exact λe=>hd' b e (has_setObj_iff.2 (.inr (hvt.has h5 h0)))
   have e1:(j8 N' Nt eb fb W).sO b (.cells ((rws zn (T++[e2])).flatten++L))=j8 N' (Nt.sO b (.cells ((rws zn (T++[e2])).flatten++L))) eb fb W:=by unfold j8;rw[zy,Ic hbe]
   rw[e1];refine⟨?_,?_⟩
   ·first|exact rfl|(repeat(first|exact Tv|refine⟨rfl,?_⟩))
   refine⟨za _ rfl (xf rfl (q9 (v:=.agg (zr W2)) rfl rfl rfl rfl (k8 (i:=ti46) (v:=.agg (zr W2)) (xs:=zr W2) (b:=eb) (o:=0) (l:=Gz W fb) rfl rfl rfl (Hz _ _ _ _ _) (show 0+8<=9 by decide) ⟨Tv,Qbb (Qd ?_)⟩))),Tv⟩;have e3:(j8 N' (Nt.sO b (.cells ((rws zn (T++[e2])).flatten++L))) eb fb W).sO eb (.cells (Gz W2 fb))=j8 N' (Nt.sO b (.cells ((rws zn (T++[e2])).flatten++L))) eb fb W2:=by unfold j8;rw[zy,yw]
   refine⟨(i+1,N',Nt.sO b (.cells ((rws zn (T++[e2])).flatten++L)),_),ϑ,⟨ξ,?_,?_,?_,?_,hF'⟩,⟨Tq,Tq,Tq,Tq,Tq,Tv⟩,Tv⟩
   ·dsimp only;rw[q1];exact e3
   ·dsimp only;rw[q2];exact .inl (.inr ⟨b,cap,L,rfl,zd _ _ _,h6,h7,h8⟩)
   ·intro j h1 h2;dsimp only at h1 h2;rw[Ic (Ne.symm hbe)]at h2;rcases has_setObj_iff.1 h2 with rfl|h2
    ·exact hbN h1
    ·exact hd' j h1 h2
   ·dsimp only;intro h;rcases has_setObj_iff.1 h with h|h
    ·exact hbe h.symm
    ·exact hnt h
 ·have:i=l.length:=θ;subst this;rw[Faj]at hvt⊢;have hp:=Ro l hw;have htk:=ft l hw;have hsz:=hp.sizes;have hU:=(ww hp.1).hU;have heng:Gg w l=V3 (kr w l):=rfl;generalize Gg w l=We at*;generalize kr w l=W at*;generalize Bi w l=T at*;have hown:∀R:AV->Store->Prop,(∀v X,RowsQ 10 zm X v W.U->zj X (j8 N Nt eb fb W)->R (.agg (jh W v)) (X.un (j8 N Nt eb fb W)))->Jb 65 [.agg (zr W)] (j8 N Nt eb fb W) R:=λR h=>by
   rw[<-vo (j8 N Nt eb fb W)];refine ACalls.frame (Kw _) (ze1 W θ θ θ (λr S=>∃v,RowsQ 10 zm S v W.U/\r=.agg (jh W v)) (λv N h=>⟨v,h,rfl⟩)) ?_;rintro r a' ⟨v,h1,rfl⟩ hd';exact h v a' h1 hd'
  refine Qc zb ye7 (za (o:=(j8 N Nt eb fb W).obj eb) _ (Hz _ _ _ _ _) (za (o:=(j8 N Nt eb fb W).obj eb) _ (Hz _ _ _ _ _) ⟨hown _ (λv X hX hdX=>⟨(by repeat(first|exact rfl|exact Tv|refine⟨rfl,?_⟩|refine⟨za (o:=(X.un (j8 N Nt eb fb W)).obj eb) _ (zg (Hz _ _ _ _ _)) rfl,?_⟩|refine za (o:=(X.un (j8 N Nt eb fb W)).obj eb) _ (zg (Hz _ _ _ _ _)) rfl)),?_⟩),Tv⟩));have hXN:zj X N:=λi h1 h2=>hdX i h1 (un_has.2 (.inl h2));have hXG:zj (X.un N) (Nt.sO eb (.cells (Gz W fb))):=disj_un.2 ⟨λi h1 h2=>hdX i h1 (un_has.2 (.inr h2)),fh hd⟩;have e1:X.un (j8 N Nt eb fb W)=(X.un N).un (Nt.sO eb (.cells (Gz W fb))):=(Pn _ _ _).symm;rw[e1];have hgo:=ACalls.frame hXG (ykm hX hp hXN hF θ (λr S=>∃Y N',RowsQ 10 zm Y v (vf W).U/\zj Y N'/\FldAny fb room ((k+W.U.length:Nat):Int) N'/\r=.agg (jh (vf W) v)/\S=Y.un N') (λY N' h1 h2 h3=>⟨Y,N',h1,h2,h3,rfl,rfl⟩)) (R':=λr S=>∃Y N',RowsQ 10 zm Y v (vf W).U/\zj Y N'/\FldAny fb room ((k+W.U.length:Nat):Int) N'/\r=.agg (jh (vf W) v)/\S=(Y.un N').un (Nt.sO eb (.cells (Gz W fb)))/\zj (Y.un N') (Nt.sO eb (.cells (Gz W fb)))) (λr a' ⟨Y,N',h1,h2,h3,h4,h5⟩ hd'=>⟨Y,N',h1,h2,h3,h4,by rw[h5],h5▸hd'⟩);refine⟨hgo.imp ?_,Tv⟩;rintro r S ⟨Y,N',hY,hYN,hF',rfl,rfl,hdY⟩;have⟨oa,cap,e2,_⟩:=hY.form;subst e2;refine⟨Tv,⟨za _ rfl (xf rfl (q9 (v:=.agg (jh (vf W) (.s (.slice oa (vf W).U.length cap)))) rfl rfl rfl rfl (k8 (i:=ti46) (v:=.agg (jh (vf W) (.s (.slice oa (vf W).U.length cap)))) (xs:=jh (vf W) (.s (.slice oa (vf W).U.length cap))) (b:=eb) (o:=0) (l:=Gz W fb) rfl rfl rfl (zg (zd _ _ _)) (show 0+8<=9 by decide) ⟨Tv,?_⟩))),Tv⟩⟩;rw[zy,yw];have hat:(vf W).tick=W.tick:=Ot W _;have hw0:0<=w.tick:=hw.1.1.1.1.1.1;refine za (o:=((Y.un N').un (Nt.sO eb _)).obj eb) _ (zg (zd _ _ _)) (Qd (Ch (i:=ti2) (v:=int ((vf W).tick+1)) (b:=eb) (o:=0) (l:=jh (vf W) (.s (.slice oa (vf W).U.length cap))++[ptr fb]) rfl rfl rfl (zg (zd _ _ _)) (show 0+1<=9 by decide) ?_));rw[zy,yw];have⟨oc,cc,e4,_⟩:=hvt.form;subst e4;exact ret ⟨N',fb,Y,Nt,_,_,rfl,by rw[heng];rfl,by rw[heng];exact hY,hvt,hYN,fh hdY,hnt,hF'.mono θ⟩
def yp0(hE:EngR eb room k w S)(hw:playW w)(l:List Cmd)(hl:l=[]\/DoC)(hf:∀c∈l,c.fits)(hl2:l.length<=512)(ht:w.tick<1099511627776)(hk:k<=100000000000000000)(R:Ja)
  (h:∀S',EngR eb room (k+4096) (Gg w l) S'->R (.tup [lst 1 zn (Bi w l),int 0]) S'):Jb 136 [ptr eb,lst 10 zz l] S R:=by
 refine(yaj hE hw l hl hf hl2 ht hk).frozenEng ?_;rintro r S' ⟨N,fb,X,Nt,v,vt,rfl,rfl,hX,hvt,hXN,hd,hnt,hF⟩;have⟨d1,d2⟩:=disj_un.1 hd;have sub:∀{a:Store},zj a (Nt.sO eb (.cells []))->zj a Nt/\¬a.has eb:=λh=>⟨λi h1 h2=>h i h1 (has_setObj_iff.2 (.inr h2)),λh1=>h eb h1 (has_setObj_iff.2 (.inl rfl))⟩
 have⟨d3,d4⟩:=sub d1;have⟨d5,d6⟩:=sub d2;refine .inr ⟨.tup [lst 1 zn (Bi w l),int 0],X.un Nt,N,eb,jh (Gg w l) v,zr (Gg w l),_,disj_un.2 ⟨hXN,Mq d5⟩,λh=>(un_has.1 h).elim d4 hnt,d6,?_,rfl,h _ ⟨_,fb,rfl,?_,hF.objs0⟩,λOth M W sto=>⟨λx hx=>?_,λx hx=>?_⟩⟩
 ·rw[<-zy,Pn,Pn,un_comm d5];rfl
 ·exact λh=>d6 (h.elim .inl λh=>absurd rfl h)
 ·exact za5 (hX.unL d3) sto hx
 ·exact hx.tup2 (λx hx=>(hvt.un (a:=X)).borrow Mj Sb sto hx) λx hx=>qv hx
def yit(w:Wld)(hT:w.G.T.length<=1000000000)(hB:w.B.length<=1000000000)(hU:w.U.length<=1000000000)(st:Store)(R:Ja)(h:R (.agg (zr w)) st):Jb 65 [.agg (zr w)] st R:=by refine Dn (Q:=λr=>r=.agg (zr w)) ((n9 w hT hB hU (λr S=>∃vT vB vU NT NB NU,OwnQ S w vT vB vU NT NB NU/\r=.agg (I3 w vT vB vU)) (λS vT vB vU NT NB NU h=>⟨vT,vB,vU,NT,NB,NU,h,rfl⟩)).frozen ?_) st R λr hr=>hr▸h;rintro r S ⟨vT,vB,vU,NT,NB,NU,ho,rfl⟩;exact⟨_,rfl,λOth M w' v' sto hx=>og ho sto hx⟩
def zij(hE:EngR eb room k w S)(hs:w.G.T.length<=1000000/\w.B.length<=1000000/\w.U.length<=1000000)(R:Ja)(h:R (.agg (zr w)) S):Jb 31 [ptr eb] S R:=by obtain⟨N,fb,rfl,hn,hF⟩:=hE.out;refine Qy 8 Tryz.func31 ?_;exact za (o:=(N.sO eb _).obj eb) _ (zd _ _ _) (yit w θ θ θ _ _ (ret h))
end
def yku{g:Gnd}{n:Int}(h:xu g n):z8 (F7 g n):=
 ⟨⟨⟨⟨⟨Fcr _,show(0:Int)<=1099511627776 by decide⟩,h.2,⟨Fcr _,show(1:Int)<=1099511627776 by decide⟩⟩,⟨h.1,⟨Fae _,λj hj=>absurd hj (Fa3 j),λb hb=>(by cases hb),λj hj=>absurd hj (Fa3 j)⟩,Fae _⟩,λb hb=>(by cases hb)⟩,
  λj hj=>absurd hj (Fa3 j),λu hu=>(by cases hu)⟩,λu hu=>(by cases hu),λu hu=>(by cases hu)⟩
def nw{g:Gnd}{n:Int}(h:xu g n):playW (F7 g n):=⟨yku h,λu hu=>(by cases hu)⟩
def zgj(i j:Int):max2 (max2 (max2 i (0-i)) j) (0-j)=G7 i j:=by
 have e:∀a b:Int,max2 a b=max a b:=λa b=>by
  unfold max2;by_cases h:b>a
  ·rw[decide_eq_true h];show b=_;omega
  ·rw[decide_eq_false h];show a=_;omega
 rw[e,e,e];unfold G7;omega
def yg3(g:Gnd)(x y k d j i:Int):(C0 g x y k d j i).length<=g.T.length:=by have:=Fbv (λt=>Rh g x y k d t&&zkm g x y j i t) (List.range g.T.length);rw[Fcd]at this;exact this
theorem Ij(l:List Nat):(qo l).length=l.length:=Fal ..
def ygy(g:Gnd)(hg:zv g)(t:Nat)(ht:t<g.T.length)(d k:Int)(hd:0<=d/\d<=300)(hk:1<=k/\k<=7)(st:Store)(R:Ja)(h:R (yc (qo (He g ((t:Int)%g.W) ((t:Int)/g.W) k d))) st):
  Jb 305 [.agg (zw g),int t,int d,int k] st R:=by
 have hm:=xj hg;have htb:=I7 hg (t:=t) θ;have hq:=Ps (t:=t) hg.1.1;have hq2:=Pt (t:=t) hg.1.1;have hg1:=hg.1;have hg2:=hg.2.1;generalize(t:Int)%g.W=x at*;generalize(t:Int)/g.W=y at*;refine Qy 80 Tryz.func305 ?_;refine Qc zb yco ?_;refine⟨θ,⟨θ,Qd (Qba (Qbb (Qd ?_)))⟩⟩
 refine AWp.loop (σ:=Nat×AV) ⟨λs=>[(2,.av (int d)),(3,.av (int k)),(4,.bx 4 0),(8,.av s.2),(9,.av (int x)),(10,.av (int y)),(11,.av (int ((s.1:Nat)-d)))],λ_=>[(4,zw g)],
  λs st'=>(s.1:Int)<=2*d+1/\App 1 st s.2 (rws zn (qo (C0 g x y k d ((s.1:Nat)-d) (-d)))) st',λs=>700-s.1⟩ zb ?_ ?_
 ·refine⟨(0,_),Tv,⟨ξ,?_⟩,⟨Tq,Tq,Tq,Tq,?_,?_,?_,Tv⟩,⟨rfl,Tv⟩⟩
  ·dsimp only;rw[show((0:Nat):Int)-d=-d by omega,yg0];exact App.start 1 st
  ·rw[<-hq];exact Tq
  ·rw[<-hq2];exact Tq
  ·dsimp only;rw[show((0:Nat):Int)-d=0-d by omega];exact Tq
 rintro⟨a,v⟩ st' ⟨ha,hap⟩;dsimp only at ha hap⊢;refine bcd (λh1=>?_) (λh1=>?_);rotate_left
 ·rw[show(a:Int)-d=d+1 by omega,yg4]at hap;exact⟨_,st,AV.le_trans hap.le (Tt),hap.has,h⟩
 refine Qd ?_;have hj:∃j:Int,(a:Int)-d=j:=⟨_,rfl⟩
 have⟨j,hj⟩:=hj;rw[hj]at hap h1⊢
 refine AWp.loop (σ:=Nat×AV) ⟨λs=>[(2,.av (int d)),(3,.av (int k)),(4,.bx 4 0),(8,.av s.2),(9,.av (int x)),(10,.av (int y)),(11,.av (int j)),(12,.av (int ((s.1:Nat)-d)))],λ_=>[(4,zw g)],
  λs st'=>(s.1:Int)<=2*d+1/\App 1 st s.2 (rws zn (qo (C0 g x y k d j ((s.1:Nat)-d)))) st',λs=>700-s.1⟩ zb ?_ ?_
 ·refine⟨(0,v),Tv,⟨ξ,?_⟩,⟨Tq,Tq,Tq,Tq,Tq,Tq,Tq,?_,Tv⟩,⟨rfl,Tv⟩⟩
  ·dsimp only;rw[show((0:Nat):Int)-d=-d by omega];exact hap
  ·dsimp only;rw[show((0:Nat):Int)-d=0-d by omega];exact Tq
 rintro⟨b,v2⟩ st2 ⟨hb,hap2⟩;dsimp only at hb hap2⊢;have hi:∃i:Int,(b:Int)-d=i:=⟨_,rfl⟩
 have⟨i,hi⟩:=hi;rw[hi]at hap2⊢;refine bcd (λh2=>?_) (λh2=>?_);rotate_left
 ·rw[show i=d+1 by omega,yg1]at hap2;refine Qd ⟨(a+1,v2),?_,⟨ξ,?_⟩,⟨Tq,Tq,Tq,Tq,Tq,Tq,?_,Tv⟩,⟨rfl,Tv⟩⟩
  ·show 700-(a+1)<700-a;omega
  ·dsimp only;rw[show((a+1:Nat):Int)-d=j+1 by omega];exact hap2
  ·dsimp only;rw[show((a+1:Nat):Int)-d=j+1 by omega];exact Tq
 have next:∀v3 st3,App 1 st v3 (rws zn (qo (C0 g x y k d j (i+1)))) st3->∃s:Nat×AV,700-s.1<700-b/\((s.1:Int)<=2*d+1/\App 1 st s.2 (rws zn (qo (C0 g x y k d j ((s.1:Nat)-d)))) st3)/\s=(b+1,v3)/\((s.1:Nat):Int)-d=i+1:=λv3 st3 h3=>
  ⟨(b+1,v3),ξ,⟨ξ,by dsimp only;rw[show((b+1:Nat):Int)-d=i+1 by omega];exact h3⟩,rfl,ξ⟩
 have no:¬(G7 i j=d/\i.tmod k=0/\j.tmod k=0/\onG g (x+i) (y+j))->App 1 st v2 (rws zn (qo (C0 g x y k d j (i+1)))) st2:=λhn=>by rw[yg2 hg hn];exact hap2
 refine Qd (Qd (zu (λc1=>?_) (λc1=>?_)));rotate_left
 ·have c1:¬G7 i j=d:=λe=>c1 ((zgj i j).trans e);obtain⟨s,f1,f2,rfl,f3⟩:=next v2 st2 (no λhh=>c1 hh.1)
  exact Qd ⟨(b+1,v2),f1,f2,⟨Tq,Tq,Tq,Tq,Tq,Tq,Tq,θ7,Tv⟩,⟨rfl,Tv⟩⟩
 have c1:G7 i j=d:=(zgj i j).symm.trans c1;refine⟨θ,zu (λc2=>?_) (λc2=>?_)⟩;rotate_left
 ·obtain⟨s,f1,f2,rfl,f3⟩:=next v2 st2 (no λhh=>c2 hh.2.1)
  exact Qd ⟨(b+1,v2),f1,f2,⟨Tq,Tq,Tq,Tq,Tq,Tq,Tq,θ7,Tv⟩,⟨rfl,Tv⟩⟩
 refine⟨θ,zu (λc3=>?_) (λc3=>?_)⟩;rotate_left
 ·obtain⟨s,f1,f2,rfl,f3⟩:=next v2 st2 (no λhh=>c3 hh.2.2.1)
  exact Qd ⟨(b+1,v2),f1,f2,⟨Tq,Tq,Tq,Tq,Tq,Tq,Tq,θ7,Tv⟩,⟨rfl,Tv⟩⟩
 refine Qd (Qd (oi g (x+i) (y+j) _ _ (λz hz=>zk (λc4=>?_) (λc4=>?_))));rotate_left
 ·obtain⟨s,f1,f2,rfl,f3⟩:=next v2 st2 (no λhh=>by have:=hz.2 hh.2.2.2;rw[this]at c4;cases c4)
  exact Qd ⟨(b+1,v2),f1,f2,⟨Tq,Tq,Tq,Tq,Tq,Tq,Tq,θ7,Tv⟩,⟨rfl,Tv⟩⟩
 have hon:=hz.1 c4;have⟨e1,e2,_,_⟩:=Fu hg hon;have hon2:=hon;unfold onG at hon2;have hpos:0<=g.W*(y+j):=Fa8 θ θ;have hrl:=yg3 g x y k d j i;refine Qd (Qd (Qd (Qd ⟨ψ,jy (ie:=ti2) (rows':=[zn (x+i+g.W*(y+j))]) hap2 ?_ ?_ ⟨?_,?_⟩ (λv3 st3 h3=>?_)⟩)))
 ·rfl
 ·rfl
 ·simp only[zi,Ij,Fan,ti2];omega
 ·simp only[zi,Ij,Fan];omega
 obtain⟨s,f1,f2,rfl,f3⟩:=next v3 st3 (by rw[ygz hg hon c1 c2 c3,zfs,<-Ke,show qo [tl g (x+i) (y+j)]=[x+i+g.W*(y+j)] by unfold qo;rw[Fci,e1];rfl];exact h3)
 exact Qd ⟨(b+1,v3),f1,f2,⟨Tq,Tq,Tq,Tq,Tq,Tq,Tq,θ7,Tv⟩,⟨rfl,Tv⟩⟩
section
variable {S:Store} {xw s p:Nat} {w:Wld} {v o0 o1 o2 fv:AV}
def zh9{l:List Unt}(hr:yl l){id:Int}{i:Nat}{z:Bool}(h:z=true↔∃hi:i<l.length,l[i].id=id)(hat:Ok l id i):(z=true->qw l id=some i)/\(z=false->qw l id=none):=by
 refine⟨λhz=>?_,λhz=>?_⟩
 ·have⟨hi,e⟩:=h.1 hz;exact So hr hi e
 ·cases hf:qw l id with
  |none=>rfl
  |some k=>
   have⟨hk,e⟩:=Mo hf;have hno:¬∃hi:i<l.length,l[i].id=id:=λhh=>by rw[h.2 hh]at hz;cases hz
   by_cases h1:k<i
   ·have:=hat.2.1 k hk h1;omega
   ·have hil:i<l.length:=θ;have:=hat.2.2 i hil (Fah _);by_cases h2:i<k
    ·have:=Wq hr h2 hk;omega
    ·have e3:k=i:=θ;subst e3;exact absurd ⟨hk,e⟩ hno
structure AtW(S:Store)(xw s p:Nat)(w:Wld)(v o0 o1 o2:AV)(c:Cmd)(fv:AV):Prop where
 hx:S.obj xw=some (.cells (wkC s c fv))
 hs:S.obj s=some (.cells (svC w v o0 o1 o2 p))
 hr:RowsQ 10 zm S v w.U
def zae{c:Cmd}(ha:AtW S xw s p w v o0 o1 o2 c fv)(hr:yl w.U)(hU:w.U.length<=1000000)(id:Int)(R:Ja)(h:R (.tup [.agg (zm (uAt w id)),int (kj w c.P id)]) S):Jb 288 [ptr xw,int id] S R:=by
 have⟨hx,hs,hv⟩:=ha;have⟨oa,cap,e,hget⟩:=hv.form;subst e;refine Qy 52 Tryz.func288 ?_;refine Qbc (Qbc (gg hv θ hr id _ (λi hi z hz=>?_)));have⟨g1,g2⟩:=zh9 hr hz hi;cases z with
 |false=>
  have⟨e1,e2⟩:=zaf (w:=w) (P:=c.P) (g2 rfl);rw[e1,e2]at h;exact ret h
 |true=>
  have⟨hil,hid⟩:=hz.1 rfl;have⟨_,_,e2⟩:=Vu (w:=w) (g1 rfl);rw[e2,zkq (P:=c.P) (g1 rfl) hil]at h;refine Qbc (Qbc ?_);obtain⟨b,J,rfl,hob⟩:=hget i hil;refine⟨i,rfl,hil,Qbc (xr (i:=ti93) (row:=zm w.U[i]) rfl rfl (D3 Cy hil) ?_)⟩;refine Qc zb ycs ?_;refine Qbc (Qba (qi (λc1=>?_) (λc1=>?_)))
  ·rw[if_neg c1]at h;exact ret h
  rw[if_pos c1]at h;refine qi (λc2=>?_) (λc2=>?_)
  ·rw[if_neg c2]at h;exact ret h
  ·rw[if_pos c2]at h;exact ret h
theorem all_nil{c:Cmd}(ha:AtW S xw s p w v o0 o1 o2 c fv)(hr:yl w.U)(hU:w.U.length<=1000000)(hc:c.U.length<=1000000)(R:Ja)
  (h:allE (kj w c.P) c.U=0->R (.tup [lst 10 zm (c.U.map (uAt w)),int 0]) S) (h':allE (kj w c.P) c.U≠0->R (.tup [.s (.slice none 0 0),int (allE (kj w c.P) c.U)]) S):Jb 255 [ptr xw,.s .nilFunc] S R:=by
 refine Qy 44 Tryz.func255 ?_;refine za (o:=S.obj xw) _ ha.hx ?_
 refine AWp.loop (σ:=Nat×AV) ⟨λx=>[(0,.av (ptr xw)),(1,.av (.s .nilFunc)),(4,.av x.2),(14,.av (yc c.U)),(15,.av (int (c.U.length:Nat))),(16,.av (int (x.1:Nat)))],λ_=>[],
  λx st'=>x.1<=c.U.length/\App 10 S x.2 (rws zm ((c.U.take x.1).map (uAt w))) st'/\∀j,(hj:j<c.U.length)->j<x.1->kj w c.P c.U[j]=0,λx=>c.U.length-x.1⟩ zb ?_ ?_
 ·refine⟨(0,_),Tv,⟨Fae _,App.start 10 S,λj _ hj=>θ⟩,⟨Tq,Tq,Tq,Tq,?_,Tq,Tv⟩,Tv⟩;rw[<-zi (f:=zn) c.U];exact Tq
 rintro⟨i,v2⟩ st' ⟨hi,hap,hall⟩;dsimp only at hi hap hall⊢;refine bcd (λh1=>?_) (λh1=>?_);rotate_left
 ·have:i=c.U.length:=θ;subst this;rw[Faj]at hap;exact⟨_,_,AV.le_tupL (xs:=[v2,int 0]) (ys:=[lst 10 zm (c.U.map (uAt w)),int 0]) ⟨AV.le_trans hap.le (Tt),Tt,Tv⟩,hap.has,h (zao λj hj=>hall j hj hj)⟩
 have hlt:i<c.U.length:=θ;have ha':AtW st' xw s p w v o0 o1 o2 c fv:=⟨by rw[hap.obj];exact ha.hx,by rw[hap.obj];exact ha.hs,ha.hr.sub λ_ _ _ _=>by rw[hap.obj]⟩
 refine⟨i,rfl,za _ (zp hlt) (zae ha' hr hU c.U[i] _ (zu (λc1=>?_) (λc1=>?_)))⟩;rotate_left
 ·refine qi (λc2=>?_) (λc2=>absurd c2 c1);have e:=zan hlt hall c1;have:=h' (by rw[e];exact c1);rw[e]at this;exact⟨_,_,Tt,hap.has,this⟩
 refine qi (λc2=>absurd c1 c2) (λc2=>⟨ψ,jy (ie:=ti93) (rows':=[zm (uAt w c.U[i])]) hap ?_ ?_ ⟨?_,?_⟩ (λv3 st3 ha3=>?_)⟩)
 ·rfl
 ·rfl
 ·simp only[zi,Fal,Fai,Fan,ti93];omega
 ·simp only[zi,Fal,Fai,Fan];omega
 refine Qd ⟨(i+1,v3),?_,⟨ξ,?_,λj hj hji=>?_⟩,Qax,Tv⟩
 ·show c.U.length-(i+1)<c.U.length-i;omega
 ·dsimp only;rw[Fad hlt,Fav];unfold rws at ha3⊢;rw[Fav];exact ha3
 ·by_cases e:j=i
  ·subst e;exact c1
  ·exact hall j hj ψg
end
def zll{F G:Store}{xw s p:Nat}{w:Wld}{v:AV}{L:List Ent}{o0 o1 o2:AV}{c:Cmd}{fv:AV}(hW:Work F G xw s p w v L o0 o1 o2 c fv)(hm:MayF w)(hn:∀u∈w.U,u.pos.ok)(hc:c.U.length<=64)(R:Ja)
  (h:∀S',stE w c≠0->R (int (stE w c)) S') (h0:stE w c=0->∀S',Fl S' xw s c fv (stW w c)->R (int 0) S'):Jb 230 [ptr xw] (F.un (svS G s w v o0 o1 o2 p)) R:=by
 have hU:=hm.hU;have hLl:=hW.hL;refine Qy 27 Tryz.func230 ?_;refine all_nil ⟨hW.x,hW.s,hW.r⟩ hm.hr θ θ _ (λhe=>?_) (λhe=>?_);rotate_left
 ·refine AWp.loop (σ:=Unit) ⟨λx=>[(4,.av (int (stE w c))),(13,.av (int 0)),(14,.av (int 0))],λ_=>[],λx st'=>True,λx=>0⟩ zb ?_ ?_
  ·exact⟨(),Tv,Tv,Qax,Tv⟩
  rintro⟨⟩ st' _;exact ret (h _ he)
 have hzero:=M5 he;have hhe:stE w c=0:=he
 refine AWp.loop (σ:=Nat×Store×Store×List Ent) ⟨λx=>[(0,.av (ptr xw)),(4,.av (int 0)),(12,.av (lst 10 zm (c.U.map (uAt w)))),(13,.av (int (c.U.length:Nat))),(14,.av (int (x.1:Nat)))],λ_=>[],
  λx st'=>x.1<=c.U.length/\st'=x.2.1.un (svS x.2.2.1 s {w with U:=xa (c.U.take x.1) Hc w.U} v o0 o1 o2 p)/\StandR x.2.1 x.2.2.1 s p {w with U:=xa (c.U.take x.1) Hc w.U} v x.2.2.2 o0 o1 o2/\(∀q,kl v q->x.2.2.1.obj q=G.obj q)/\x.2.2.2.length<=L.length+x.1/\∀e∈x.2.2.2,e.2.ok,λx=>c.U.length-x.1⟩ zb ?_ ?_
 ·refine⟨(0,F,G,L),Tv,⟨Fae _,?_,?_,λ_ _=>rfl,ξ,Lx hW.hF hn⟩,⟨Tq,Tq,Tq,?_,Tq,Tv⟩,Tv⟩
  ·dsimp only;rw[Fdf,Wc]
  ·dsimp only;rw[Fdf,Wc];exact hW.S
  ·have e:(c.U.length:Int)=((rws zm (c.U.map (uAt w))).length:Int):=by rw[zi,Fal]
   rw[e];exact Tq
 rintro⟨k,F1,G1,L1⟩ st' ⟨hk,rfl,hS,hG,hL,hok⟩;dsimp only at hk hS hG hL hok⊢;have hx:(F1.un (svS G1 s {w with U:=xa (c.U.take k) Hc w.U} v o0 o1 o2 p)).obj xw=some (.cells (wkC s c fv)):=zg (by show(G1.sO s _).obj xw=_;rw[zf hW.ne,hG xw hW.ox];exact hW.hx);refine bcd (λh1=>?_) (λh1=>?_);rotate_left
 ·have:k=c.U.length:=θ;subst this;rw[Faj]at hS hx⊢;exact ret (h0 hhe _ ⟨v,o0,o1,o2,p,hx,zg (Br _ _ _ _ _ _ _ _),(Ka hS.hs hS.hu).un⟩)
 have hlt:k<c.U.length:=θ;have⟨i,hi,hf,hid,hu,how,hin⟩:=K0 (hzero c.U[k] (Faa hlt));have hlm:k<(c.U.map (uAt w)).length:=by rw[Fal];exact hlt
 refine⟨k,rfl,za _ (zp hlm) ?_⟩;have hgm:(c.U.map (uAt w))[k]=w.U[i]:=by rw[Fb0,hu]
 rw[hgm];refine Qc zb yd6 (za (o:=(F1.un (svS G1 s _ v o0 o1 o2 p)).obj xw) _ hx ⟨mz w.U[i] _ _ ⟨(by repeat(first|exact Tv|refine⟨rfl,?_⟩|refine⟨za (o:=(F1.un (svS G1 s _ v o0 o1 o2 p)).obj xw) _ hx rfl,?_⟩)),?_⟩,Tv⟩);have hi2:i<(xa (c.U.take k) Hc w.U).length:=by rw[Dz];exact hi
 refine⟨Wz hS hW.os (mh (g:=Hc) (λ_=>rfl) hm.hr) (by rw[Dz];omega) θ hok hi2 (Hc w.U[i]) (Wd (g:=Hc) (λ_=>rfl) hi) (hn w.U[i] (Faa hi)) _ (λF2 G2 L2 g1 g2 g3 g4=>⟨Tv,?_⟩),Tv⟩;have e5:c.U.take k++[w.U[i].id]=c.U.take (k+1):=by rw[Fad hlt,hid]
 dsimp only at g1⊢;rw[zc9 hm.hr hi,e5]at g1⊢;refine Qd ⟨(k+1,F2,G2,L2),?_,⟨ξ,rfl,g1,λq hq=>(g2 q hq).trans (hG q hq),ξ,g4⟩,Qax,Tv⟩;show c.U.length-(k+1)<c.U.length-k;omega
section
variable {S:Store} {v o0 o1 o2 fv:AV} {xw s p:Nat} {w:Wld}
def zg9{U:List Unt}(hv:RowsQ 10 zm S v U)(hl:U.length<=1000000)(id:Int)(R:Ja)(h:R (yc (ya U id)) S):Jb 263 [v,int id] S R:=by
 have⟨oa,cap,e,hget⟩:=hv.form;subst e;refine Qy 24 Tryz.func263 ?_
 refine AWp.loop (σ:=Nat×AV) ⟨λx=>[(1,.av (int id)),(4,.av x.2),(7,.av (.s (.slice oa U.length cap))),(8,.av (int (U.length:Nat))),(9,.av (int (x.1:Nat)))],λ_=>[],
  λx st'=>x.1<=U.length/\App 1 S x.2 (rws zn (ya (U.take x.1) id)) st',λx=>U.length-x.1⟩ zb ?_ ?_
 ·exact⟨(0,_),Tv,⟨Fae _,App.start 1 S⟩,⟨Tq,Tq,Tq,Tq,Tq,Tv⟩,Tv⟩
 rintro⟨i,v2⟩ st' ⟨hi,hap⟩;dsimp only at hi hap⊢;refine bcd (λh1=>?_) (λh1=>?_);rotate_left
 ·have:i=U.length:=θ;subst this;rw[Faj]at hap;exact⟨_,_,hap.le,hap.has,h⟩
 have hlt:i<U.length:=θ;have hs:=ymu hlt id;have hl1:(ya (U.take i) id).length<=1000000:=by have h1:=rt (l:=U) i id;have h2:(ya U id).length<=U.length:=ψh;omega
 have⟨b,J,e2,hob⟩:=hget i hlt;have hob:st'.obj b=some (.cells ((rws zm U).flatten++J)):=by rw[hap.obj];exact hob
 subst e2;refine⟨i,rfl,hlt,Qbc (xr (i:=ti93) (row:=zm U[i]) rfl rfl (D3 Cy hlt) (zu (λc1=>?_) (λc1=>?_)))⟩
 ·rw[if_pos c1]at hs;refine⟨ψ,jy (ie:=ti2) (rows':=[zn U[i].id]) hap ?_ ?_ ⟨?_,?_⟩ (λv3 st3 ha3=>?_)⟩
  ·rfl
  ·rfl
  ·simp only[zi,Fan,ti2];omega
  ·simp only[zi,Fan];omega
  refine Qd ⟨(i+1,v3),?_,⟨ξ,?_⟩,Qax,Tv⟩
  ·show U.length-(i+1)<U.length-i;omega
  ·dsimp only;rw[hs];unfold rws at ha3⊢;rw[Fav];exact ha3
 ·rw[if_neg c1,Fbi]at hs;refine Qd ⟨(i+1,v2),?_,⟨ξ,?_⟩,Qax,Tv⟩
  ·show U.length-(i+1)<U.length-i;omega
  ·dsimp only;rw[hs];exact hap
def yul{c:Cmd}(ha:AtW S xw s p w v o0 o1 o2 c fv)(hr:yl w.U)(hU:w.U.length<=1000000)(hc:c.U.length<=1000000)(fn:FuncId)(cap:List AV)(more:Unt->Int)
  (hf:∀id,kj w c.P id=0->∀st',(∀q,st'.obj q=S.obj q)->∀R:AV->Store->Prop,R (int (more (uAt w id))) st'->Jb fn ([.agg (zm (uAt w id))]++cap) st' R) (E:Int->Int) (hE:∀id,E id=if kj w c.P id=0 then more (uAt w id)else kj w c.P id) (R:Ja)
  (h:allE E c.U=0->R (.tup [lst 10 zm (c.U.map (uAt w)),int 0]) S) (h':allE E c.U≠0->R (.tup [.s (.slice none 0 0),int (allE E c.U)]) S):Jb 255 [ptr xw,.clos fn cap] S R:=by
 refine Qy 44 Tryz.func255 ?_;refine za (o:=S.obj xw) _ ha.hx ?_
 refine AWp.loop (σ:=Nat×AV) ⟨λx=>[(0,.av (ptr xw)),(1,.av (.clos fn cap)),(4,.av x.2),(14,.av (yc c.U)),(15,.av (int (c.U.length:Nat))),(16,.av (int (x.1:Nat)))],λ_=>[],
  λx st'=>x.1<=c.U.length/\App 10 S x.2 (rws zm ((c.U.take x.1).map (uAt w))) st'/\∀j,(hj:j<c.U.length)->j<x.1->E c.U[j]=0,λx=>c.U.length-x.1⟩ zb ?_ ?_
 ·refine⟨(0,_),Tv,⟨Fae _,App.start 10 S,λj _ hj=>θ⟩,⟨Tq,Tq,Tq,Tq,?_,Tq,Tv⟩,Tv⟩;rw[<-zi (f:=zn) c.U];exact Tq
 rintro⟨i,v2⟩ st' ⟨hi,hap,hall⟩;dsimp only at hi hap hall⊢;refine bcd (λh1=>?_) (λh1=>?_);rotate_left
 ·have:i=c.U.length:=θ;subst this;rw[Faj]at hap;exact⟨_,_,AV.le_tupL (xs:=[v2,int 0]) (ys:=[lst 10 zm (c.U.map (uAt w)),int 0]) ⟨AV.le_trans hap.le (Tt),Tt,Tv⟩,hap.has,h (zao λj hj=>hall j hj hj)⟩
 have hlt:i<c.U.length:=θ;have hEi:=hE c.U[i];have ha':AtW st' xw s p w v o0 o1 o2 c fv:=⟨by rw[hap.obj];exact ha.hx,by rw[hap.obj];exact ha.hs,ha.hr.sub λ_ _ _ _=>by rw[hap.obj]⟩
 have bad:E c.U[i]≠0->R (.tup [.s (.slice none 0 0),int (E c.U[i])]) S:=λhne=>by have e:=zan hlt hall hne;have:=h' (by rw[e];exact hne);rw[e]at this;exact this
 refine⟨i,rfl,za _ (zp hlt) (zae ha' hr hU c.U[i] _ (zu (λc1=>?_) (λc1=>?_)))⟩;rotate_left
 ·rw[if_neg c1]at hEi;rw[hEi]at bad;exact qi (λc2=>⟨_,_,Tt,hap.has,bad c1⟩) (λc2=>absurd c2 c1)
 rw[if_pos c1]at hEi;refine hf c.U[i] c1 st' (λq=>by rw[hap.obj]) _ ?_;rw[hEi]at bad;refine qi (λc2=>?_) (λc2=>?_)
 ·exact⟨_,_,Tt,hap.has,bad c2⟩
 rw[c2]at hEi;refine⟨ψ,jy (ie:=ti93) (rows':=[zm (uAt w c.U[i])]) hap ?_ ?_ ⟨?_,?_⟩ (λv3 st3 ha3=>?_)⟩
 ·rfl
 ·rfl
 ·simp only[zi,Fal,Fai,Fan,ti93];omega
 ·simp only[zi,Fal,Fai,Fan];omega
 refine Qd ⟨(i+1,v3),?_,⟨ξ,?_,λj hj hji=>?_⟩,Qax,Tv⟩
 ·show c.U.length-(i+1)<c.U.length-i;omega
 ·dsimp only;rw[Fad hlt,Fav];unfold rws at ha3⊢;rw[Fav];exact ha3
 ·by_cases e:j=i
  ·subst e;exact hEi
  ·exact hall j hj ψg
def zj2{c:Cmd}(ha:AtW S xw s p w v o0 o1 o2 c fv)(hr:yl w.U)(hU:w.U.length<=1000000)(R:Ja)(h:R (.tup [.agg (zm (uAt w c.N)),int (Ao w c.P c.N)]) S):Jb 262 [ptr xw] S R:=by
 unfold Ao at h;refine Qy 27 Tryz.func262 ?_;refine za (o:=S.obj xw) _ ha.hx (zae ha hr hU c.N _ (zu (λc1=>?_) (λc1=>?_)))
 ·rw[if_pos c1]at h;refine j9 _ _ _ (zu (λc2=>?_) (λc2=>?_))
  ·rw[if_pos c2]at h;exact ret h
  ·rw[if_neg c2]at h;rw[<-c1]at h;exact ret h
 ·rw[if_neg c1]at h;exact ret h
def yll(x u:Unt)(hx:x.pos.ok)(hu:u.pos.ok)(pb:Nat)(st:Store)(hb:st.obj pb=some (.cells (zm x)))(R:Ja)(h:R (int (Og x u)) st):Jb 264 ([.agg (zm u)]++[ptr pb]) st R:=by
 unfold Og at h;refine Qy 16 Tryz.func264 ?_;refine j9 _ _ _ (bcd (λc1=>?_) (λc1=>?_))
 ·rw[if_pos c1]at h;exact ret h
 rw[if_neg c1]at h;refine Qbc (zif u.pos x.pos hu hx _ _ (bcd (λc2=>?_) (λc2=>?_)))
 ·rw[if_pos c2]at h;exact ret h
 ·rw[if_neg c2]at h;exact ret h
end
section
variable {F G:Store} {xw s p:Nat} {w:Wld} {v o0 o1 o2 fv:AV}
theorem Work.add{L:List Ent}{c:Cmd}(h:Work F G xw s p w v L o0 o1 o2 c fv){pb:Nat}(hpb:Fresh (F.un (svS G s w v o0 o1 o2 p)) pb)(z:AObj):
  Work F (G.sO pb z) xw s p w v L o0 o1 o2 c fv/\(F.un (svS G s w v o0 o1 o2 p)).sO pb z=F.un (svS (G.sO pb z) s w v o0 o1 o2 p)/\kl v pb/\pb≠s:=by
 have hx1:¬F.has pb/\¬(svS G s w v o0 o1 o2 p).has pb:=by have:=fresh_iff.1 hpb;exact⟨λh=>this (un_has.2 (.inl h)),λh=>this (un_has.2 (.inr h))⟩
 have hne:pb≠s:=λe=>hx1.2 (svS_has.2 (.inl e));have hxN:¬G.has pb:=λh=>hx1.2 (svS_has.2 (.inr h));have hxw:pb≠xw:=λe=>hxN (by rw[e];exact j6 h.hx);have off:=Lz h.S.hu (vj hxN).1;refine⟨⟨⟨h.S.hc,λi h1 h2=>?_,?_,h.S.hu.set off _,h.S.h0,h.S.h1,h.S.h2⟩,?_,h.ox,h.os,h.hL,h.hF⟩,?_,off,hne⟩
 ·rcases svS_has.1 h2 with rfl|h2
  ·exact h.S.hd _ h1 (svS_has.2 (.inl rfl))
  ·by_cases hi:i=pb
   ·subst hi;exact hx1.1 h1
   ·refine h.S.hd _ h1 (svS_has.2 (.inr ?_));rcases h2 with h2|h2
    ·rw[zf hi]at h2;exact .inl h2
    ·exact .inr h2
 ·rw[zf (Ne.symm hne)];exact h.S.hs
 ·rw[zf (Ne.symm hxw)];exact h.hx
 ·rw[zy];unfold svS;rw[Ic hne]
def ylv{c:Cmd}(h:Ao w c.P c.N≠0):ldE w c=Ao w c.P c.N:=by unfold ldE;rw[if_neg h]
def ylu{c:Cmd}(h:Ao w c.P c.N=0)(h2:allE (ldA w c.P c.N) c.U≠0):ldE w c=allE (ldA w c.P c.N) c.U:=by unfold ldE;rw[if_pos h,if_neg h2]
def ylt{c:Cmd}(h:Ao w c.P c.N=0)(h2:allE (ldA w c.P c.N) c.U=0):ldE w c=if ko (uAt w c.N).kind<((ya w.U c.N).length:Int)+(c.U.length:Int)then 4 else 0:=by unfold ldE;rw[if_pos h,if_pos h2]
def zl0{L:List Ent}{c:Cmd}(hW:Work F G xw s p w v L o0 o1 o2 c fv)(hmp:z8 w)(hn:∀u∈w.U,u.pos.ok)(hc:c.U.length<=64)(hN:1<=c.N)(R:Ja)
  (h:∀S',ldE w c≠0->R (int (ldE w c)) S') (h0:ldE w c=0->∀S',Fl S' xw s c fv (ldW w c)->R (int 0) S'):Jb 233 [ptr xw] (F.un (svS G s w v o0 o1 o2 p)) R:=by
 have hm:=ww hmp;have hU:=hm.hU;have hLl:=hW.hL;have⟨oa,cap,e,hget⟩:=hW.S.hu.form;subst e;refine Qa (c:=cfg 65 [3] []) zb Tryz.func233 ?_;refine zj2 ⟨hW.x,hW.s,hW.r⟩ hm.hr θ _ ?_;intro pb hpb;refine k8 (i:=ti93) (v:=.agg (zm (uAt w c.N))) (xs:=zm (uAt w c.N)) (b:=pb) (o:=0) (l:=_) rfl rfl rfl (zd _ _ _) (show 0+10<=10 by decide) ?_;have⟨hW1,e1,off1,hps⟩:=hW.add hpb (.cells (zm (uAt w c.N)));have e3:∀l:List AV,l.length=10->zq l 0 (zm (uAt w c.N))=zm (uAt w c.N):=λl hl=>by unfold zq;rw[Fdf,Fdo,Fa9,Cy,Fc5 θ,Fbi]
 rw[yw,e3 _ (by simp[ti93]),e1];have hx:=hW1.x (F':=F) (q0:=o0) (q1:=o1) (q2:=o2);have hs:=hW1.s (F':=F) (q0:=o0) (q1:=o1) (q2:=o2);have hr:=hW1.r (F':=F) (q0:=o0) (q1:=o1) (q2:=o2);have hgb:(G.sO pb (.cells (zm (uAt w c.N)))).obj pb=some (.cells (zm (uAt w c.N))):=zd _ _ _;generalize G.sO pb (.cells (zm (uAt w c.N)))=G0 at*;have hb:(F.un (svS G0 s w (.s (.slice oa w.U.length cap)) o0 o1 o2 p)).obj pb=some (.cells (zm (uAt w c.N))):=zg (by show(G0.sO s _).obj pb=_;rw[zf hps];exact hgb);refine qi (λc1=>?_) (λc1=>?_)
 ·have:=ylv c1;rw[this]at h;exact ret (h _ c1)
 have⟨hask,hroom⟩:=uq c1;have⟨ix,hix,hfx,hidx,hux,_,_⟩:=K0 hask;have hrm:=ymv hmp hix θ;rw[hidx]at hrm;rw[hux]at hroom hb;have hkb:=R8 w.U[ix].kind;have hin:(ya w.U c.N).length<=w.U.length:=ψh;rw[hux];refine Qc zb ydz (za (o:=(F.un (svS G0 s w _ o0 o1 o2 p)).obj pb) _ hb (za (o:=(F.un (svS G0 s w _ o0 o1 o2 p)).obj xw) _ hx (za (o:=(F.un (svS G0 s w _ o0 o1 o2 p)).obj s) _ hs (za (o:=(F.un (svS G0 s w _ o0 o1 o2 p)).obj pb) _ hb ⟨j9 _ _ _ ⟨(by repeat(first|exact Tv|refine⟨rfl,?_⟩|refine⟨za (o:=(F.un (svS G0 s w _ o0 o1 o2 p)).obj pb) _ hb rfl,?_⟩|refine⟨za (o:=(F.un (svS G0 s w _ o0 o1 o2 p)).obj xw) _ hx rfl,?_⟩|refine⟨za (o:=(F.un (svS G0 s w _ o0 o1 o2 p)).obj s) _ hs rfl,?_⟩)),?_⟩,Tv⟩))));rw[hidx];refine⟨zg9 hr θ c.N _ ⟨Qe,ze θe (Qbb ?_)⟩,Tv⟩;rw[zi];refine yul ⟨hx,hs,hr⟩ hm.hr θ θ _ _ (Og w.U[ix]) (λid hid st' ho R h=>yll w.U[ix] (uAt w id) (hn _ (Faa hix)) (zbt hn id) pb st' (by rw[ho];exact hb) R h) (ldA w c.P c.N) (λid=>by unfold ldA;rw[hux]) _ (λhe=>?_) (λhe=>?_);rotate_left
 ·have e5:=ylu c1 he;refine bcd (λh1=>absurd h1 θ) (λ_=>AWp.loop (σ:=Unit) ⟨λx=>[(4,.av (int (ldE w c))),(45,.av (int 0)),(46,.av (int 0))],λ_=>[],λx st'=>True,λx=>0⟩ zb ?_ ?_)
  ·refine⟨(),Tv,Tv,⟨?_,Tq,Tq,Tv⟩,Tv⟩;rw[e5];exact Tq
  rintro⟨⟩ st' _;exact ret (h _ (by rw[e5];exact he))
 have hzero:=M5 he;have e5:=ylt c1 he;rw[hux]at e5;refine bcd (λh1=>?_) (λh1=>?_)
 ·rw[zi,Fal]at h1;rw[if_pos θ]at e5;rw[e5]at h;exact ret (h _ ψ)
 rw[zi,Fal]at h1;rw[if_neg θ]at e5
 refine AWp.loop (σ:=Nat×Store×Store×List Ent) ⟨λx=>[(0,.av (ptr xw)),(3,.av (ptr pb)),(4,.av (int 0)),(44,.av (lst 10 zm (c.U.map (uAt w)))),(45,.av (int (c.U.length:Nat))),(46,.av (int (x.1:Nat)))],λ_=>[],
  λx st'=>x.1<=c.U.length/\st'=x.2.1.un (svS x.2.2.1 s {w with U:=xa (c.U.take x.1) (ldU c.N) w.U} (.s (.slice oa w.U.length cap)) o0 o1 o2 p)/\StandR x.2.1 x.2.2.1 s p {w with U:=xa (c.U.take x.1) (ldU c.N) w.U} (.s (.slice oa w.U.length cap)) x.2.2.2 o0 o1 o2/\(∀q,kl (.s (.slice oa w.U.length cap)) q->x.2.2.1.obj q=G0.obj q)/\x.2.2.2.length<=L.length+x.1/\∀e∈x.2.2.2,e.2.ok,λx=>c.U.length-x.1⟩ zb ?_ ?_
 ·refine⟨(0,F,G0,L),Tv,⟨Fae _,?_,?_,λ_ _=>rfl,ξ,Lx hW.hF hn⟩,⟨Tq,Tq,Tq,Tq,?_,Tq,Tv⟩,Tv⟩
  ·dsimp only;rw[Fdf,Wc]
  ·dsimp only;rw[Fdf,Wc];exact hW1.S
  ·have e:(c.U.length:Int)=((rws zm (c.U.map (uAt w))).length:Int):=by rw[zi,Fal]
   rw[e];exact Tq
 rintro⟨k,F1,G1,L1⟩ st' ⟨hk,rfl,hS,hG,hL,hok⟩;dsimp only at hk hS hG hL hok⊢;have hx2:(F1.un (svS G1 s {w with U:=xa (c.U.take k) (ldU c.N) w.U} (.s (.slice oa w.U.length cap)) o0 o1 o2 p)).obj xw=some (.cells (wkC s c fv)):=zg (by show(G1.sO s _).obj xw=_;rw[zf hW1.ne,hG xw hW1.ox];exact hW1.hx);have hb2:(F1.un (svS G1 s {w with U:=xa (c.U.take k) (ldU c.N) w.U} (.s (.slice oa w.U.length cap)) o0 o1 o2 p)).obj pb=some (.cells (zm w.U[ix])):=zg (by show(G1.sO s _).obj pb=_;rw[zf hps,hG pb off1,hgb,hux]);refine bcd (λh1=>?_) (λh1=>?_);rotate_left
 ·have:k=c.U.length:=θ;subst this;rw[Faj]at hS hx2⊢;exact ret (h0 e5 _ ⟨_,o0,o1,o2,p,hx2,zg (Br _ _ _ _ _ _ _ _),(Ka hS.hs hS.hu).un⟩)
 have hlt:k<c.U.length:=θ;have⟨i,hi,hf,hid,hu,how,hin⟩:=K0 (zgu (hzero c.U[k] (Faa hlt))).1;have hlm:k<(c.U.map (uAt w)).length:=by rw[Fal];exact hlt
 refine⟨k,rfl,za _ (zp hlm) ?_⟩;have hgm:(c.U.map (uAt w))[k]=w.U[i]:=by rw[Fb0,hu]
 rw[hgm];refine mz w.U[i] _ _ (za (o:=(F1.un (svS G1 s _ _ o0 o1 o2 p)).obj pb) _ hb2 (Qc zb yd0 (za (o:=(F1.un (svS G1 s _ _ o0 o1 o2 p)).obj xw) _ hx2 ?_)));have hi2:i<(xa (c.U.take k) (ldU c.N) w.U).length:=by rw[Dz];exact hi
 refine⟨Wz hS hW1.os (mh (g:=ldU c.N) (λ_=>rfl) hm.hr) (by rw[Dz];omega) θ hok hi2 (ldU w.U[ix].id w.U[i]) (Wd (g:=ldU c.N) (λ_=>rfl) hi) (show Vc.ok (0,0) by unfold Vc.ok yu;decide) _ (λF2 G2 L2 g1 g2 g3 g4=>⟨Tv,?_⟩),Tv⟩;have e6:c.U.take k++[w.U[i].id]=c.U.take (k+1):=by rw[Fad hlt,hid]
 dsimp only at g1⊢;rw[hidx,zc9 hm.hr hi,e6]at g1⊢;refine Qd ⟨(k+1,F2,G2,L2),?_,⟨ξ,rfl,g1,λq hq=>(g2 q hq).trans (hG q hq),ξ,g4⟩,Qax,Tv⟩;show c.U.length-(k+1)<c.U.length-k;omega
end
end Go.Proofs
namespace Go.Proofs
open Go Go.V
set_option maxRecDepth 20000
set_option maxHeartbeats 4000000
theorem max2_eq(a b:Int):max2 a b=max a b:=by
 unfold max2;by_cases h:b>a
 ·rw[decide_eq_true h];show b=_;omega
 ·rw[decide_eq_false h];show a=_;omega
def yl9{f:FuncId}{xs:List AV}{l:List Int}(h0:Jb f xs Store.empty λr S=>RowsQ 1 zn S r l)(st:Store)(R:Ja)(h:R (yc l) st):Jb f xs st R:=by
 have h1:=h0.frozen (R:=λr=>r=yc l) (by rintro r S hv;exact⟨_,rfl,λOth M w' v' sto hx=>RowsQ.borrow (f:=zn) (k:=1) (λ_=>rfl) (λx y hy=>by simp[zn]at hy;exact⟨_,hy,rfl⟩) hv sto hx⟩)
 have h2:Jb f xs Store.empty λr S=>r=yc l/\S=Store.empty:=
  h1.post (Store.Le.refl _) λr st' hr=>⟨r,Store.empty,AV.le_refl r,(hasE st').toLe,hr,rfl⟩
 rw[<-vo st];exact ACalls.frame (Kw st) h2 λr S ⟨e,e2⟩ hd=>by subst e e2;rw[vo];exact h
def yge{α:Type}{k:Nat}{f:α->List AV}(S:Store):RowsQ k f S (.s (.slice none 0 0)) ([]:List α):=.inl (.inl ⟨rfl,rfl⟩)
def yve(g:Gnd)(hg:zv g)(f:Nat->Bool)(size:Int)(hs:0<=size/\size<=3)(t:Nat)(ht:t<g.T.length)(n:Nat)(hn:n<=1000):
  Jb 289 [.agg (zw g),lst 1 qu (blL g.T.length f),int size,int t,int n] Store.empty λr S=>RowsQ 1 zn S r (qo (No g f size (t:Int) n)):=by
 have hm:=xj hg;have hg1:=hg.1;have hg2:=hg.2.1;have hdone:=λ(d:Nat) hh=>ya2 hg (f:=f) (size:=size) (goal:=(t:Int)) (d:=d) (n:=n) ⟨θ,θ⟩ hh;have hstep:=λ(x y:Int) (k d:Nat) hk hd=>ya4 (g:=g) (f:=f) (x:=x) (y:=y) (k:=k) (d:=d) hk hd;obtain⟨k,hk⟩:∃k:Nat,2*size+1=(k:Int):=⟨(2*size+1).toNat,θ⟩
 rw[hk]at hdone;have ring:=ygy g hg t ht;generalize hx:(t:Int)%g.W=x at*;generalize hy:(t:Int)/g.W=y at*;refine Qy 60 Tryz.func289 ?_;refine Qd ?_;refine Qd ?_
 refine AWp.loop (σ:=Nat×AV) ⟨λs=>[(1,.av (lst 1 qu (blL g.T.length f))),(3,.av (int (t:Nat))),(4,.av (int (n:Nat))),(5,.bx 5 0),(10,.av s.2),(11,.av (int (k:Nat))),(12,.av (int ((s.1*k:Nat))))],λ_=>[(5,zw g)],
  λs st'=>s.1*k<=200/\RowsQ 1 zn st' s.2 (qo ((wv g f x y k (s.1*k)).take n)),λs=>300-s.1*k⟩ zb ?_ ?_
 ·refine⟨(0,_),Tv,⟨ξ,?_⟩,⟨Tq,Tq,Tq,Tq,Tq,?_,?_,Tv⟩,⟨rfl,Tv⟩⟩
  ·dsimp only;rw[Nat.zero_mul];show RowsQ 1 zn _ _ (qo (([]:List Nat).take n));rw[List.take_nil];exact yge _
  ·rw[<-hk];exact Tq
  ·dsimp only;rw[Nat.zero_mul];exact Tq
 rintro⟨m,v⟩ st' ⟨hm2,hap⟩;dsimp only at hm2 hap⊢;obtain⟨d,hd⟩:∃d:Nat,m*k=d:=⟨_,rfl⟩
 have hdv:k∣d:=⟨m,by rw[Nat.mul_comm];exact hd.symm⟩
 have hm1:(m+1)*k=d+k:=by rw[Fb8,Nat.one_mul,hd]
 rw[hd]at hm2 hap⊢;have⟨oa,cap,e,_⟩:=hap.form;subst e;have hlenT:(qo ((wv g f x y k d).take n)).length=((wv g f x y k d).take n).length:=Ij _;refine bcd (λh1=>?_) (λh1=>?_);rotate_left
 ·rw[max2_eq]at h1;have e:=hdone d (.inr θ);exact ret (by rw[<-e];exact hap)
 refine bcd (λh2=>?_) (λh2=>?_);rotate_left
 ·rw[hlenT,Fai]at h2;have e:=hdone d (.inl θ);exact ret (by rw[<-e];exact hap)
 have h1:(d:Int)<=max g.W g.H:=by rw[max2_eq]at h1;exact h1
 refine ring d k ⟨θ,θ⟩ ⟨θ,θ⟩ _ _ ?_;have hstep:=hstep x y k d θ hdv;have hL:∀u∈He g x y k d,u<g.T.length:=λu hu=>Fbj.1 (Fbd.1 hu).1;have hLl:(He g x y k d).length<=g.T.length:=by have:=Fbv (Rh g x y k d) (List.range g.T.length);rw[Fcd]at this;exact this
 have hslot:Dg g f x y k d=(He g x y k d).filter f:=rfl;rw[hslot]at hstep;generalize He g x y k d=L at*;generalize hA:wv g f x y k d=A at*
 refine AWp.loop (σ:=Nat×AV) ⟨λs=>[(1,.av (lst 1 qu (blL g.T.length f))),(3,.av (int (t:Nat))),(4,.av (int (n:Nat))),(5,.bx 5 0),(10,.av s.2),(11,.av (int (k:Nat))),(12,.av (int (d:Nat))),(38,.av (yc (qo L))),(39,.av (int (L.length:Nat))),(40,.av (int (s.1:Nat)))],λ_=>[(5,zw g)],
  λs st'=>s.1<=L.length/\RowsQ 1 zn st' s.2 (qo ((A++(L.take s.1).filter f).take n)),λs=>L.length-s.1⟩ zb ?_ ?_
 ·refine⟨(0,_),Tv,⟨Fae _,?_⟩,⟨Tq,Tq,Tq,Tq,Tq,Tq,Tq,Tq,?_,Tq,Tv⟩,⟨rfl,Tv⟩⟩
  ·dsimp only;rw[Fdf,List.filter_nil,Fbi];exact hap
  ·show LV.le (.av (int ((rws zn (qo L)).length:Nat))) (.av (int (L.length:Nat)));rw[zi,Ij];exact Tq
 rintro⟨i,v2⟩ st2 ⟨hi,hap2⟩;dsimp only at hi hap2⊢;refine bcd (λh3=>?_) (λh3=>?_);rotate_left
 ·have:i=L.length:=θ;subst this;rw[Faj,<-hstep]at hap2;refine Qd ⟨(m+1,v2),?_,⟨ξ,?_⟩,⟨Tq,Tq,Tq,Tq,Tq,Tq,?_,Tv⟩,⟨rfl,Tv⟩⟩
  ·show 300-(m+1)*k<300-m*k;omega
  ·dsimp only;rw[hm1];exact hap2
  ·dsimp only;rw[hm1,Int.natCast_add];exact Tq
 have hlt:i<L.length:=θ;have hlt2:i<(qo L).length:=by rw[Ij];exact hlt
 have hu:=hL _ (Faa hlt);have hnat:(qo L)[i]'hlt2=((L[i]'hlt:Nat):Int):=Fb0 ..;have hu2:L[i]<(blL g.T.length f).length:=by rw[H6];exact hu
 have htk:(L.take (i+1)).filter f=(L.take i).filter f++[L[i]].filter f:=by rw[Fad hlt,Fca]
 have⟨oa2,cap2,e2,_⟩:=hap2.form;subst e2;have hlenT2:(qo ((A++(L.take i).filter f).take n)).length=((A++(L.take i).filter f).take n).length:=Ij _;have hdec:L.length-(i+1)<L.length-i:=θ;refine⟨i,rfl,za _ (zp hlt2) ⟨L[i],hnat,za _ (zp hu2) ?_⟩⟩;rw[Kz hu];refine zk (λc1=>?_) (λc1=>?_);rotate_left
 ·have e:[L[i]].filter f=[]:=by simp[c1]
  rw[e,Fbi]at htk;exact Qd ⟨(i+1,_),hdec,⟨ξ,by dsimp only;rw[htk];exact hap2⟩,⟨Tq,Tq,Tq,Tq,Tq,Tq,Tq,Tq,Tq,Tq,Tv⟩,⟨rfl,Tv⟩⟩
 have e:[L[i]].filter f=[L[i]]:=by simp[c1]
 rw[e]at htk;have hsn:=zz4 (A++(L.take i).filter f) L[i] n;rw[Fas,<-htk]at hsn;refine bcd (λc2=>?_) (λc2=>?_)
 ·have c2:(A++(L.take i).filter f).length<n:=(zcb _ _).1 (by rw[hlenT2]at c2;omega);rw[if_pos c2]at hsn;refine⟨ψ,?_⟩;have hTl:((A++(L.take i).filter f).take n).length<=1000:=by rw[Fai];omega
  refine Dt (ie:=ti2) rfl (λ_=>rfl) ψ hap2 ((qo L)[i]'hlt2) rfl (by rw[hlenT2];omega) (λb cap3 L3 q1 q2 q3 q4=>?_);have h3:RowsQ 1 zn (st2.sO b _) _ _:=.inl (.inr ⟨b,cap3,L3,rfl,zd _ _ _,q2,q3,q4⟩);refine Qd ⟨(i+1,_),hdec,⟨ξ,?_⟩,⟨Tq,Tq,Tq,Tq,Tq,Tq,Tq,Tq,Tq,Tq,Tv⟩,⟨rfl,Tv⟩⟩;dsimp only;rw[hsn,zfs,show qo [L[i]]=[(qo L)[i]'hlt2] by rw[hnat];rfl];exact h3
 ·have c2:¬(A++(L.take i).filter f).length<n:=λhh=>c2 (by have:=(zcb (A++(L.take i).filter f) n).2 hh;rw[hlenT2];omega);rw[if_neg c2]at hsn;refine Qd ⟨(i+1,_),hdec,⟨ξ,?_⟩,⟨Tq,Tq,Tq,Tq,Tq,Tq,Tq,Tq,Tq,Tq,Tv⟩,⟨rfl,Tv⟩⟩;dsimp only;rw[hsn];exact hap2
def yvd(g:Gnd)(hg:zv g)(f:Nat->Bool)(size:Int)(hs:0<=size/\size<=3)(t:Nat)(ht:t<g.T.length)(n:Nat)(hn:n<=1000)(st:Store)(R:Ja)(h:R (yc (qo (No g f size (t:Int) n))) st):
  Jb 289 [.agg (zw g),lst 1 qu (blL g.T.length f),int size,int t,int n] st R:=
 yl9 (yve g hg f size hs t ht n hn) st R h
end Go.Proofs
namespace Go.Proofs
open Go Go.V
set_option maxRecDepth 20000
set_option maxHeartbeats 4000000
def yiu(g:Gnd)(hg:zv g)(a b:Bld)(ha:qh a/\onP g a)(hb:qh b/\onP g b)(st:Store)(R:Ja)(h:R (V.bool (decide (Bb a b))) st):Jb 292 [.agg (zl a),.agg (zl b)] st R:=by unfold qh onP at ha hb;unfold zv at hg;have hh:∀z:Bool,(z=true↔Bb a b)->R (V.bool z) st:=λz hz=>δ;unfold Bb at hh;refine Qy 43 Tryz.func292 ?_;refine Qd (bcd (λc1=>Qd (bcd (λc2=>Qd (bcd (λc3=>Qd ?_) (λc3=>ret (hh _ χ)))) (λc2=>ret (hh _ χ)))) (λc1=>ret (hh _ χ)));exact ret (hh _ (by rw[decide_eq_true_iff];omega))
def yh7(g:Gnd)(hg:zv g)(b x:Bld)(hb:qh b/\onP g b)(hx:qh x/\onP g x)(p:Nat)(st:Store)(hp:st.obj p=some (.cells (zl b)))(R:Ja)(h:R (V.bool (decide (Bb x b))) st):Jb 291 ([.agg (zl x)]++[ptr p]) st R:=by refine Qy 7 Tryz.func291 ?_;exact za _ hp (yiu g hg x b hx hb _ _ (ret h))
def ypt(b:Bld)(id:Int)(st:Store)(R:Ja)(h:R (int (Ac b.id id)) st):Jb 307 [.agg (zl b),int id] st R:=by refine Qy 9 Tryz.func307 ?_;exact fo b.id id _ _ (ret h)
def ytg(l:List Bld)(hl:l.length<=1000000000000)(id:Int)(hid:∀b∈l,b.id<id)(st:Store)(R:Ja)(h:R (.tup [int (l.length:Nat),V.bool false]) st):
  Jb 306 [lst 6 zl l,int id,.clos 307 []] st R:=by
 refine Qy 49 Tryz.func306 ?_
 refine AWp.loop (σ:=Nat) ⟨λs=>[(0,.av (lst 6 zl l)),(1,.av (int id)),(2,.av (.clos 307 [])),(8,.av (int (l.length:Nat))),(9,.av (int (s:Nat))),(10,.av (int (l.length:Nat)))],λ_=>[],
  λs st'=>st'=st/\s<=l.length,λs=>l.length-s⟩ zb ?_ ?_
 ·refine⟨0,Tv,⟨rfl,Fae _⟩,⟨Tq,Tq,Tq,?_,Tq,?_,Tv⟩,Tv⟩
  ·rw[<-zi (f:=zl) l];exact Tq
  ·rw[<-zi (f:=zl) l];exact Tq
 rintro i st' ⟨rfl,hi⟩;dsimp only at hi⊢;refine bcd (λh1=>?_) (λh1=>?_);rotate_left
 ·have e:i=l.length:=θ;subst e;refine bcd (λh2=>?_) (λh2=>?_)
  ·omega
  ·exact ret h
 refine Qd ⟨ψ,?_⟩;have hmid:(IntKind.u64.wrap ((i:Int)+(l.length:Int))).fdiv (2^(min (1:Int).toNat IntKind.u64.bits))=(((i+l.length)/2:Nat):Int):=by
  have e1:IntKind.u64.wrap ((i:Int)+(l.length:Int))=((i+l.length:Nat):Int):=by grind[IntKind.wrap,IntKind.bits]
  have e2:(2:Int)^(min (1:Int).toNat IntKind.u64.bits)=2:=rfl;grind
 have hkl:(i+l.length)/2<l.length:=θ;refine⟨by rw[hmid];exact⟨θ,θ⟩,⟨(i+l.length)/2,hmid,za _ (zp hkl) (ypt l[(i+l.length)/2] id _ _ ?_)⟩⟩;have hc:Ac l[(i+l.length)/2].id id<0:=by simp_all[Ac]
 refine bcd (λh2=>ze (by rw[hmid];omega) ⟨(i+l.length)/2+1,?_,⟨rfl,θ⟩,⟨Tq,Tq,Tq,Tq,?_,Tq,Tv⟩,Tv⟩) (λh2=>absurd hc h2)
 ·grind
 ·exact(congrArg (λn:Int=>LV.le (je .i64 (n+1)) (.av (int (((i+l.length)/2+1:Nat):Int)))) hmid).mpr (Tq)
def ytq(l:List Bld)(hl:l.length<=1000000000000)(id:Int)(hid:∀b∈l,b.id<id)(st:Store)(R:Ja)(h:R (.tup [int (l.length:Nat),V.bool false]) st):Jb 290 [lst 6 zl l,int id] st R:=by refine Qy 11 Tryz.func290 ?_;exact ytg l hl id hid _ _ (ret h)
def ymg{N:Store}{v:AV}{l:List Bld}(hv:RowsQ 6 zl N v l)(hl:l.length<=1000000)(x:Bld)(R:Ja)(h:∀v' N',RowsQ 6 zl N' v' (l++[x])->R v' N'):Jb 293 [v,int (l.length:Nat),lst 6 zl [x]] N R:=by
 have hv2:=hv;rcases hv with(⟨rfl,rfl⟩|⟨b,cap,L,rfl,ho,hc1,hc2,hc3⟩)|⟨a,ha,rfl,rfl⟩
 ·refine Qy 95 Tryz.func293 ?_;refine⟨rfl,rfl,Dt (ie:=ti140) rfl ve ψ hv2 x rfl ψ (λb cap2 L2 q1 q2 q3 q4=>ret (h _ _ (.inl (.inr ⟨b,cap2,L2,rfl,zd _ _ _,q2,q3,q4⟩))))⟩
 ·refine Qy 95 Tryz.func293 ?_;by_cases hc:l.length<cap
  ·refine⟨l.length,l.length,rfl,rfl,Fah _,hc1,.inl ⟨hc,zu (λ_=>Dt (ie:=ti140) rfl ve ψ hv2 x rfl θ (λb cap2 L2 q1 q2 q3 q4=>ret (h _ _ (.inl (.inr ⟨b,cap2,L2,rfl,zd _ _ _,q2,q3,q4⟩))))) (λh=>absurd rfl h)⟩⟩
  ·refine⟨l.length,l.length,rfl,rfl,Fah _,hc1,.inr ⟨θ,zu (λ_=>Dt (ie:=ti140) rfl ve ψ hv2 x rfl θ (λb cap2 L2 q1 q2 q3 q4=>ret (h _ _ (.inl (.inr ⟨b,cap2,L2,rfl,zd _ _ _,q2,q3,q4⟩))))) (λh=>absurd rfl h)⟩⟩
 ·cases a with
  |none=>
   refine Qy 95 Tryz.func293 ?_;refine⟨rfl,rfl,Dt (ie:=ti140) rfl ve ψ hv2 x rfl ψ (λb cap2 L2 q1 q2 q3 q4=>ret (h _ _ (.inl (.inr ⟨b,cap2,L2,rfl,zd _ _ _,q2,q3,q4⟩))))⟩
  |some y=>
   have⟨yb,yo,ys⟩:=y;have:=ha _ rfl;dsimp only at this;subst this;refine Qy 95 Tryz.func293 ?_;refine⟨0,0,rfl,rfl,Fah _,Fah _,.inr ⟨rfl,Dt (ie:=ti140) rfl ve ψ hv2 x rfl ψ (λb cap2 L2 q1 q2 q3 q4=>ret (h _ _ (.inl (.inr ⟨b,cap2,L2,rfl,zd _ _ _,q2,q3,q4⟩))))⟩⟩
def zgo{N:Store}{v:AV}{l:List Bld}(hv:RowsQ 6 zl N v l){Oth M:BB}{w:World}(sto:StoreOK N Oth M w){x:Value}(hx:VRel w (λb o=>M b o\/Oth b o) v x):VRel w (λb o=>(M b o\/Oth b o)/\N.obj b=none) (lst 6 zl l) x:=hv.borrow ve Va sto hx
def ytj(g:Gnd)(hg:zv g)(l:List Bld)(hl:l.length<=256)(hlb:∀b∈l,qh b/\onP g b)(b:Bld)(hb:qh b)(hid:∀x∈l,x.id<b.id):
  Jb 258 [.agg (zw g),lst 6 zl l,.agg (zl b)] Store.empty λr S=>(js g l b≠0/\r=.tup [.s (.slice none 0 0),int (js g l b)])\/(js g l b=0/\∃v,RowsQ 6 zl S v (l++[b])/\r=.tup [v,int 0]):=by
 refine Qa (c:=cfg 48 [5] []) zb Tryz.func258 ?_;intro p hp;have ho:(Store.empty.sO p (.cells (zl b))).obj p=some (.cells (zl b)):=zd _ _ _
 have bad:∀n:Int,n≠0->js g l b=n->∃r st',AV.le (.tup [.s (.slice none 0 0),int n]) r/\(Store.empty.sO p (.cells (zl b))).Has st'/\((js g l b≠0/\r=.tup [.s (.slice none 0 0),int (js g l b)])\/(js g l b=0/\∃v,RowsQ 6 zl st' v (l++[b])/\r=.tup [v,int 0])):=λn hn e=>
  ret (.inl ⟨by rw[e];exact hn,by rw[e]⟩)
 refine za _ ho (ytq l θ b.id hid _ _ (za _ ho (zki b _ _ (λz hz=>yj (zk (λc1=>za _ ho (zkc g b hg hb _ _ (λz hz=>yj (zk (λc2=>?_) (λc2=>?_))))) (λc1=>δ))))));rotate_left
 ·have hno:¬onP g b:=λhh=>by grind
  exact bad 3 ψ (by unfold js;rw[if_pos hno])
 have hon:=hz.1 c2;refine zkf l θ _ _ (λx=>decide (Bb x b)) _ (λx hx R h=>yh7 g hg b x ⟨hb,hon⟩ (hlb x hx) p _ ho R h) _ (zk (λc3=>?_) (λc3=>?_))
 ·have hex:∃x∈l,Bb x b:=by grind
  exact bad 12 ψ (by simp_all[js])
 have hnex:¬∃x∈l,Bb x b:=λ⟨x,hx,h2⟩=>δ;refine za _ ho (zkj g hg b ⟨hb,hon⟩ _ _ (λz hz=>yj (zk (λc4=>?_) (λc4=>?_))));rotate_left
 ·have hno:¬Hw g b:=λhh=>by grind
  exact bad 5 ψ (by simp_all[js])
 have hfi:=hz.1 c4;have hlen:((rws zl l).length:Int)=(l.length:Int):=by rw[zi]
 refine zu (λc5=>?_) (λc5=>?_)
 ·exact bad 4 ψ (by unfold js;grind)
 have h0:js g l b=0:=by unfold js;grind
 refine Qc zb ydi (za (o:=(Store.empty.sO p (.cells (zl b))).obj p) _ ho ⟨ψ,⟨fw l θ _ _ (λv N hv hd=>⟨?_,?_⟩),Tv⟩⟩)
 ·repeat(first|exact Tv|refine⟨rfl,?_⟩|refine⟨za (o:=(N.un (Store.empty.sO p (.cells (zl b)))).obj p) _ (zg ho) rfl,?_⟩)
 exact⟨ymg (hv.unL hd) θ b _ (λv' N' hv'=>⟨Tv,Qbb (Qbb (ret (.inr ⟨h0,_,hv',rfl⟩)))⟩),Tv⟩
def yti(g:Gnd)(hg:zv g)(l:List Bld)(hl:l.length<=256)(hlb:∀b∈l,qh b/\onP g b)(b:Bld)(hb:qh b)(hid:∀x∈l,x.id<b.id)(st:Store)(R:Ja)
  (h:js g l b≠0->R (.tup [.s (.slice none 0 0),int (js g l b)]) st) (h0:js g l b=0->R (.tup [lst 6 zl (l++[b]),int 0]) st):Jb 258 [.agg (zw g),lst 6 zl l,.agg (zl b)] st R:=by
 have h1:=(ytj g hg l hl hlb b hb hid).frozen (R:=λr=>(js g l b≠0/\r=.tup [.s (.slice none 0 0),int (js g l b)])\/(js g l b=0/\r=.tup [lst 6 zl (l++[b]),int 0])) (by
  rintro r S (⟨h1,rfl⟩|⟨h1,v,hv,rfl⟩)
  ·simp_all[qv]
  ·refine⟨_,.inr ⟨h1,rfl⟩,λOth M w' v' sto hx=>?_⟩;cases hx with
   |tup _ c2 hl hc2=>
    refine .tup _ c2 hl λi x y hx hy=>?_
    match i with
    |0=>simp only[Fat,Fam]at hx;subst hx;exact zgo hv sto (hc2 0 _ y rfl hy)
    |1=>simp only[Fay,Fat,Fam]at hx;subst hx;exact qv (hc2 1 _ y rfl hy)
    |i+2=>simp at hx)
 have h2:Jb 258 [.agg (zw g),lst 6 zl l,.agg (zl b)] Store.empty λr S=>((js g l b≠0/\r=.tup [.s (.slice none 0 0),int (js g l b)])\/(js g l b=0/\r=.tup [lst 6 zl (l++[b]),int 0]))/\S=Store.empty:=
  h1.post (Store.Le.refl _) λr st' hr=>⟨r,Store.empty,AV.le_refl r,(hasE st').toLe,hr,rfl⟩
 rw[<-vo st];exact ACalls.frame (Kw st) h2 λr S ⟨e,e2⟩ hd=>by subst e2;rw[vo];grind
def yjb{w:Wld}(hm:z8 w):∀u∈w.U,u.inn=0->jv u.pos.1 u.pos.2:=λu hu h0=>by have hg:=(ww hm).hg;have hcl:=hm.2.1 u hu h0;have h1:=hcl.1.1;have hr:=Gv u.kind;have h2:=hg.1;have h3:=hg.2.1;unfold jv;omega
def zlz{F G:Store}{xw s p:Nat}{w:Wld}{v:AV}{L:List Ent}{o0 o1 o2:AV}{c:Cmd}{fv:AV}(hW:Work F G xw s p w v L o0 o1 o2 c fv)(hm:MayF w)(hn:∀u∈w.U,u.pos.ok)(hpl:∀u∈w.U,u.inn=0->jv u.pos.1 u.pos.2)(b:Bld)(hb:qh b/\onP w.G b)(R:Ja)
  (h:∀z F',(z=true↔Mb w b)->StandR F' G s p w v L o0 o1 o2->R (V.bool z) (F'.un (svS G s w v o0 o1 o2 p))):Jb 259 [ptr xw,.agg (zl b)] (F.un (svS G s w v o0 o1 o2 p)) R:=by
 have hU:=hm.hU;have hx:=hW.x (F':=F) (q0:=o0) (q1:=o1) (q2:=o2);have hs:=hW.s (F':=F) (q0:=o0) (q1:=o1) (q2:=o2);have⟨oa,cap,e,hget⟩:=hW.S.hu.form;subst e;refine Qy 62 Tryz.func259 ?_;refine Qc zb ydh (za (o:=(F.un (svS G s w _ o0 o1 o2 p)).obj xw) _ hx (za (o:=(F.un (svS G s w _ o0 o1 o2 p)).obj s) _ hs ?_));refine⟨Vz w.G hm.hg b hb _ _ ⟨Qe,?_⟩,Tv⟩;have hmem:=Il hm.hg hb.1 hb.2;have hts:=lr w.G.W hb.1;have hmw:Mb w b↔∃t∈Au w.G.W b,∃u∈w.U,u.inn=0/\wz w.G t.toNat u.pos (z6 u.kind):=by
  unfold Mb;constructor
  ·rintro⟨t,⟨h1,h2⟩,u,hu,h3⟩;exact⟨(t:Int),(hmem _).2 ⟨t,rfl,h1,h2⟩,u,hu,by rw[Fbc];exact h3⟩
  ·rintro⟨t,ht,u,hu,h3⟩;obtain⟨n,rfl,h1,h2⟩:=(hmem t).1 ht;rw[Fbc]at h3;exact⟨n,⟨h1,h2⟩,u,hu,h3⟩
 generalize Au w.G.W b=ts at*
 refine AWp.loop (σ:=Nat×Store) ⟨λx=>[(0,.av (ptr xw)),(18,.av (yc ts)),(19,.av (int (ts.length:Nat))),(20,.av (int (x.1:Nat)))],λ_=>[],
  λx st'=>x.1<=ts.length/\st'=x.2.un (svS G s w (.s (.slice oa w.U.length cap)) o0 o1 o2 p)/\StandR x.2 G s p w (.s (.slice oa w.U.length cap)) L o0 o1 o2/\∀j,(hj:j<ts.length)->j<x.1->∀u∈w.U,u.inn=0->¬wz w.G ts[j].toNat u.pos (z6 u.kind),λx=>ts.length-x.1⟩ zb ?_ ?_
 ·refine⟨(0,F),Tv,⟨Fae _,rfl,hW.S,λj _ hj=>θ⟩,⟨Tq,Tq,?_,Tq,Tv⟩,Tv⟩;rw[<-zi (f:=zn) ts];exact Tq
 rintro⟨i,F1⟩ st' ⟨hi,rfl,hS1,hno⟩;dsimp only at hi hS1 hno⊢;refine bcd (λh1=>?_) (λh1=>?_);rotate_left
 ·refine ret (h false F1 ?_ hS1);simp only[Fap,false_iff];rw[hmw];rintro⟨t,ht,u,hu,h0,hh⟩;obtain⟨j,hj,rfl⟩:=Faf ht;exact hno j hj θ u hu h0 hh
 have hlt:i<ts.length:=θ;have⟨n,hn1,hn2,hn3⟩:=(hmem ts[i]).1 (Faa hlt);have hx1:=hW.x (F':=F1) (q0:=o0) (q1:=o1) (q2:=o2);have hs1:=hW.s (F':=F1) (q0:=o0) (q1:=o1) (q2:=o2);refine⟨i,rfl,za _ (zp hlt) (Qc zb ydg (za (o:=(F1.un (svS G s w _ o0 o1 o2 p)).obj xw) _ hx1 (za (o:=(F1.un (svS G s w _ o0 o1 o2 p)).obj xw) _ hx1 (za (o:=(F1.un (svS G s w _ o0 o1 o2 p)).obj s) _ hs1 ⟨cd w.G hm.hg n hn2 ts[i] hn1 _ _ ⟨?_,?_⟩,Tv⟩))))⟩
 ·repeat(first|exact Tv|refine⟨rfl,?_⟩|refine⟨za (o:=(F1.un (svS G s w _ o0 o1 o2 p)).obj xw) _ hx1 rfl,?_⟩|refine⟨za (o:=(F1.un (svS G s w _ o0 o1 o2 p)).obj s) _ hs1 rfl,?_⟩)
 have htb:=Pq hm.hg hn2;refine⟨zc3 hS1 hm.hr θ hn hW.hL hW.hF (tx w.G n+32768,ty w.G n+32768) ⟨⟨ξ,ξ⟩,⟨ξ,ξ⟩⟩ 65536 ψ _ (λF2 us hS2 hus hul=>⟨?_,?_⟩),Tv⟩
 ·repeat(first|exact Tv|refine⟨rfl,?_⟩)
 have hx2:=hW.x (F':=F2) (q0:=o0) (q1:=o1) (q2:=o2);have hs2:=hW.s (F':=F2) (q0:=o0) (q1:=o1) (q2:=o2)
 refine AWp.loop (σ:=Nat) ⟨λk=>[(0,.av (ptr xw)),(6,.av (int ts[i])),(18,.av (yc ts)),(19,.av (int (ts.length:Nat))),(20,.av (int (i:Nat))),(38,.av (lst 10 zm us)),(39,.av (int (us.length:Nat))),(40,.av (int (k:Nat)))],λ_=>[],
  λk st'=>k<=us.length/\st'=F2.un (svS G s w (.s (.slice oa w.U.length cap)) o0 o1 o2 p)/\∀j,(hj:j<us.length)->j<k->¬wz w.G n us[j].pos (z6 us[j].kind),λk=>us.length-k⟩ zb ?_ ?_
 ·refine⟨0,Tv,⟨Fae _,rfl,λj _ hj=>θ⟩,⟨Tq,Tq,Tq,Tq,Tq,Tq,?_,Tq,Tv⟩,Tv⟩;rw[<-zi (f:=zm) us];exact Tq
 rintro k st' ⟨hk,rfl,hnk⟩;refine bcd (λh2=>?_) (λh2=>?_);rotate_left
 ·refine Qd ⟨(i+1,F2),?_,⟨ξ,rfl,hS2,λj hj hji u hu h0 hh=>?_⟩,Qax,Tv⟩
  ·show ts.length-(i+1)<ts.length-i;omega
  ·by_cases e:j=i
   ·subst e;rw[hn1,Fbc]at hh;have hnear:=yni hm.hg hn2 (hpl u hu h0) (Gv u.kind) hh;have hmu:=(hus u).2 ⟨⟨hu,h0⟩,hnear⟩;obtain⟨m,hm2,rfl⟩:=Faf hmu;exact hnk m hm2 θ hh
   ·exact hno j hj ψg u hu h0 hh
 have hkl:k<us.length:=θ;have huk:=(hus us[k]).1 (Faa hkl);refine⟨k,rfl,za _ (zp hkl) (Qc zb ydf (za (o:=(F2.un (svS G s w _ o0 o1 o2 p)).obj xw) _ hx2 (za (o:=(F2.un (svS G s w _ o0 o1 o2 p)).obj s) _ hs2 ⟨j9 us[k].kind _ _ ⟨?_,?_⟩,Tv⟩)))⟩
 ·repeat(first|exact Tv|refine⟨rfl,?_⟩|refine⟨za (o:=(F2.un (svS G s w _ o0 o1 o2 p)).obj xw) _ hx2 rfl,?_⟩|refine⟨za (o:=(F2.un (svS G s w _ o0 o1 o2 p)).obj s) _ hs2 rfl,?_⟩)
 have hkr:=Gv us[k].kind;refine⟨zhf w.G hm.hg n hn2 ts[i] hn1 us[k].pos (hpl _ huk.1.1 huk.1.2) (z6 us[k].kind) ⟨hkr.1,θ⟩ _ _ ⟨Tv,bcd (λh3=>?_) (λh3=>?_)⟩,Tv⟩
 ·refine ret (h true F2 ?_ hS2);simp only[true_iff];exact hmw.2 ⟨ts[i],Faa hlt,us[k],huk.1.1,huk.1.2,by rw[hn1,Fbc];exact h3⟩
 refine Qd ⟨k+1,?_,⟨θ,rfl,λj hj hjk=>?_⟩,Qax,Tv⟩
 ·show us.length-(k+1)<us.length-k;omega
 ·by_cases e:j=k
  ·subst e;exact h3
  ·exact hnk j hj θ
def bg(w:Wld)(i t:Nat)(hi:i<w.U.length):Wld:={w with U:=w.U.set i (Fq w.U[i] (qg w.G t))}
section
variable {i:Nat} {u:Unt} {w:Wld}
def zf7{U:List Unt}{x:Unt}(h:u∈U.set i x):u=x\/u∈U:=by
 rcases Fep h with h|h
 ·exact .inr h
 ·exact .inl h
def yk3(h:MayF w)(hi:i<w.U.length)(hid:w.U[i].id=u.id)(hk:Gb u.kind):MayF {w with U:=w.U.set i u}:=
 ⟨h.hg,h.hB,by show(w.U.set i u).length<=_;rw[Fak];exact h.hU,h.hT,h.hb,λx hx=>by
  rcases zf7 (show x∈w.U.set i u from hx)with rfl|hx
  ·exact hk
  ·exact h.hk x hx,Wp h.hr hi hid,h.hn1,h.hn2⟩
def zne{c:Cmd}(h:Ao w c.P c.N≠0):ulE w c=Ao w c.P c.N:=by unfold ulE;rw[if_neg h]
def znd{c:Cmd}(h:Ao w c.P c.N=0)(h2:¬(0<=c.T/\c.T<w.G.W*w.G.H)):ulE w c=3:=by unfold ulE;rw[if_pos h,if_neg h2]
def znc{c:Cmd}(h:Ao w c.P c.N=0)(h2:0<=c.T/\c.T<w.G.W*w.G.H)(h3:Hy (qg w.G c.T.toNat) (uAt w c.N).pos):ulE w c=8:=by unfold ulE;rw[if_pos h,if_pos h2,if_pos h3]
def znb{c:Cmd}(h:Ao w c.P c.N=0)(h2:0<=c.T/\c.T<w.G.W*w.G.H)(h3:¬Hy (qg w.G c.T.toNat) (uAt w c.N).pos)(h4:unl c.T (ya w.U c.N) w=none):ulE w c=5:=by unfold ulE;rw[if_pos h,if_pos h2,if_neg h3,h4]
def zna{c:Cmd}(h:Ao w c.P c.N=0)(h2:0<=c.T/\c.T<w.G.W*w.G.H)(h3:¬Hy (qg w.G c.T.toNat) (uAt w c.N).pos){x:Wld}(h4:unl c.T (ya w.U c.N) w=some x):ulE w c=0/\ulW w c=x:=by unfold ulE ulW;rw[if_pos h,if_pos h2,if_neg h3,h4];exact⟨rfl,rfl⟩
def ymy(hr:yl w.U){n id:Int}(h:id∈ya w.U n):∃i,∃hi:i<w.U.length,qw w.U id=some i:=by unfold ya at h;obtain⟨u,hu,rfl⟩:=Fag.1 h;have⟨hu,_⟩:=Fbd.1 hu;obtain⟨i,hi,rfl⟩:=Faf hu;exact⟨i,hi,So hr hi rfl⟩
end
section
variable {w:Wld} {F G:Store} {s p m:Nat} {v o0 o1 o2:AV}
def slO(cs:List (Int×List Nat))(bs:List Nat)(clk:Nat):AObj:=.map (cs.map (yv λl=>yc (qo l))) bs clk
def slV(m:Nat):AV:=.s (.map (some m))
def zc6(w:Wld)(c:Cmd)(cs:List (Int×List Nat)):Prop:=∀kd l,yx cs kd=some l->l=qx w kd c.T c.U.length
structure MvS(F G G0:Store)(xw s p m:Nat)(w:Wld)(v:AV)(L:List Ent)(n:Nat)(o0 o1 o2:AV)(c:Cmd)(k:Nat)(cs:List (Int×List Nat))(bs:List Nat)(clk:Nat):Prop where
 S:StandR F G s p {w with U:=mvL w c k} v L o0 o1 o2
 keep:∀q,kl v q->q≠m->G.obj q=G0.obj q
 hm:G.obj m=some (slO cs bs clk)
 hl:L.length<=n+k
 ok:∀e∈L,e.2.ok
 sl:zc6 w c cs
def yk4(hm:MayF w)(c:Cmd)(k:Nat):MayF {w with U:=mvL w c k}:=
 ⟨hm.hg,hm.hB,by show(mvL w c k).length<=_;rw[Dm];exact hm.hU,hm.hT,hm.hb,λu hu=>by have⟨x,hx,_,_,e,_⟩:=zfy hu;rw[e];exact hm.hk x hx,pe hm.hr c k,hm.hn1,hm.hn2⟩
theorem Kb{x:AObj}(h:G.obj m=some x)(hms:m≠s):(F.un (svS G s w v o0 o1 o2 p)).obj m=some x:=zg (by show(G.sO s _).obj m=_;rw[zf hms];exact h)
def MvS.upd{G0:Store}{xw:Nat}{L:List Ent}{n:Nat}{c:Cmd}{k:Nat}{cs:List (Int×List Nat)}{bs:List Nat}{clk:Nat}(h:MvS F G G0 xw s p m w v L n o0 o1 o2 c k cs bs clk)(hms:m≠s)(hoff:kl v m){cs':List (Int×List Nat)}(bs':List Nat)(clk':Nat)(hs:zc6 w c cs'):
  MvS F (G.sO m (slO cs' bs' clk')) G0 xw s p m w v L n o0 o1 o2 c k cs' bs' clk'/\(F.un (svS G s {w with U:=mvL w c k} v o0 o1 o2 p)).sO m (slO cs' bs' clk')=F.un (svS (G.sO m (slO cs' bs' clk')) s {w with U:=mvL w c k} v o0 o1 o2 p):=by
 refine⟨⟨⟨h.S.hc,λi h1 h2=>h.S.hd i h1 (svS_has.2 ?_),?_,h.S.hu.set hoff _,h.S.h0,h.S.h1,h.S.h2⟩,λq h1 h2=>?_,zd _ _ _,h.hl,h.ok,hs⟩,?_⟩
 ·rcases svS_has.1 h2 with h2|h2
  ·exact .inl h2
  ·rcases has_setObj_iff.1 h2 with rfl|h2
   ·exact .inr (j6 h.hm)
   ·exact .inr h2
 ·rw[zf (Ne.symm hms)];exact h.S.hs
 ·rw[zf h2];exact h.keep q h1 h2
 ·rw[zy];unfold svS;rw[Ic hms]
end
section
variable {S N:Store} {fb kc xw s p:Nat} {room:Int} {w:Wld} {v o0 o1 o2:AV}
def yo7{kc:Nat}(hd:zj S N)(hF:FldAny fb room (kc:Nat) N)(hm:MayF w)(c s:Int)(hc:H2 c)(hs:0<=s/\s<=3)(R:Ja)
  (h:∀b N',zj S N'->FldAny fb room (kc:Nat) N'->N'.obj b=some (.cells (jf w.G w.B c s))->R (ptr b) (S.un N')):Jb 175 [ptr fb,.agg (zw w.G),lst 6 zl w.B,int c,int s] (S.un N) R:=by
 have hB:=hm.hB;have ha:=xj hm.hg;rw[un_comm hd];refine ACalls.frame (Mq hd) (o8 hF w.G hm.hg θ w.B θ hm.hb c s hc hs (λr S=>∃b,r=ptr b/\FldAny fb room (kc:Nat) S/\S.obj b=some (.cells (jf w.G w.B c s))) (λNc Nr cc nm wm cs ks ns ws made cnt d hI hd ho=>⟨d,rfl,.inl ⟨_,_,Nc,Nr,cc,nm,wm,cs,ks,ns,ws,made,cnt,rfl,hI⟩,zg ho⟩)) ?_;rintro r a' ⟨b,rfl,h1,h2⟩ hd2;rw[un_comm hd2];exact h b a' (Mq hd2) h1 h2
def AtW.unL{c:Cmd}{fv:AV}(ha:AtW S xw s p w v o0 o1 o2 c fv)(hd:zj S N):AtW (S.un N) xw s p w v o0 o1 o2 c fv:=⟨yf hd ha.hx,yf hd ha.hs,ha.hr.unL hd⟩
def za9{kc:Nat}{c:Cmd}(ha:AtW S xw s p w v o0 o1 o2 c (jx fb))(hd:zj S N)(hF:FldAny fb room (kc:Nat) N)(hm:MayF w)(k:Int)(t:Nat)(ht:t<w.G.T.length)(tI:Int)(htI:tI=(t:Int))(n:Nat)(hn:n<=1000)(R:Ja)
  (h:∀N',zj S N'->FldAny fb room (kc:Nat) N'->R (yc (qo (qx w k tI n))) (S.un N')):Jb 256 [ptr xw,int k,int tI,int n] (S.un N) R:=by
 subst htI;have⟨hx,hs,hv⟩:=ha;have⟨oa,cap,e,hget⟩:=hv.form;subst e;have hx1:(S.un N).obj xw=_:=yf hd hx;have hs1:(S.un N).obj s=_:=yf hd hs;refine Qy 53 Tryz.func256 ?_;refine j9 k _ _ ?_;refine Qc zb ydn (za (o:=(S.un N).obj xw) _ hx1 (za (o:=(S.un N).obj s) _ hs1 (za (o:=(S.un N).obj xw) _ hx1 (za (o:=(S.un N).obj xw) _ hx1 (za (o:=(S.un N).obj s) _ hs1 (za (o:=(S.un N).obj xw) _ hx1 (za (o:=(S.un N).obj s) _ hs1 ?_)))))));refine⟨yo7 hd hF hm (qp k) (vn k) (R9 k) (cr k) _ (λb N' hd' hF' hb=>?_),Tv⟩;have hx2:(S.un N').obj xw=_:=yf hd' hx;have hs2:(S.un N').obj s=_:=yf hd' hs;refine⟨?_,?_⟩
 ·repeat(first|exact Tv|refine⟨rfl,?_⟩|refine⟨za (o:=(S.un N').obj xw) _ hx2 rfl,?_⟩|refine⟨za (o:=(S.un N').obj s) _ hs2 rfl,?_⟩)
 exact za (o:=(S.un N').obj b) _ (zg hb) ⟨yvd w.G hm.hg (yd w.G w.B (qp k) (vn k)) (vn k) (cr k) t ht n hn _ _ ⟨Qe,Qbb (ret (h N' hd' hF'))⟩,Tv⟩
end
def Qah{p:Prop}(h:p:=by show(mvL w c k).length<=_;rw[Dm];omega):p:=h
def zly{F G N:Store}{xw s p fb:Nat}{room:Int}{kc:Nat}{w:Wld}{v:AV}{L:List Ent}{o0 o1 o2:AV}{c:Cmd}(hW:Work F G xw s p w v L o0 o1 o2 c (jx fb))(hdN:zj (F.un (svS G s w v o0 o1 o2 p)) N)(hF:FldAny fb room (kc:Nat) N)(hm:MayF w)(hn:∀u∈w.U,u.pos.ok)(hcU:c.U.length<=64)(R:Ja)
  (h:∀S' N',mvE w c≠0->zj S' N'->FldAny fb room (kc:Nat) N'->R (int (mvE w c)) (S'.un N')) (h0:mvE w c=0->∀S' N',Fl S' xw s c (jx fb) (mvW w c)->zj S' N'->FldAny fb room (kc:Nat) N'->R (int 0) (S'.un N')):Jb 229 [ptr xw] ((F.un (svS G s w v o0 o1 o2 p)).un N) R:=by
 have hU:=hm.hU;have hx:=yf hdN (hW.x (F':=F) (q0:=o0) (q1:=o1) (q2:=o2));have hs:=yf hdN (hW.s (F':=F) (q0:=o0) (q1:=o1) (q2:=o2));have hr:=(hW.r (F':=F) (q0:=o0) (q1:=o1) (q2:=o2)).unL hdN;have⟨oa,cap,e,hget⟩:=hW.S.hu.form;subst e;have ha:=xj hm.hg;refine Qb (c:=cfg 94) zb Tryz.func229 ?_;refine AWp.seq (AWp.of_vc zb ?_);refine AWp.seq (AWp.of_vc zb ?_);refine Qc zb yd8 ?_;refine za (o:=((F.un (svS G s w _ o0 o1 o2 p)).un N).obj xw) _ hx (za (o:=((F.un (svS G s w _ o0 o1 o2 p)).un N).obj s) _ hs (za (o:=((F.un (svS G s w _ o0 o1 o2 p)).un N).obj xw) _ hx ?_));refine⟨ct w.G c.T hm.hg _ _ (λz hz=>⟨Tv,yj (zk (λc2=>?_) (λc2=>?_))⟩),Tv⟩;rotate_left
 ·have:=zf2 (w:=w) (c:=c) (λhh=>by have:=hz.2 hh;rw[this]at c2;cases c2);rw[this]at h;exact ret (h _ _ ψ hdN hF)
 have htile:=hz.1 c2;have htn:c.T=((c.T.toNat:Nat):Int):=θ;have htl:c.T.toNat<w.G.T.length:=θ;have hE:=zf1 htile;rw[hE]at h h0;refine AWp.seq (AWp.of_vc zb (all_nil ⟨hx,hs,hr⟩ hm.hr θ θ _ (λhe=>?_) (λhe=>?_)));rotate_left
 ·exact AWp.of_vc zb (qi (λc3=>ret (h _ _ he hdN hF)) (λc3=>absurd c3 he))
 have hzero:=M5 he;refine AWp.seq (AWp.of_vc zb (AWp.seq (AWp.of_vc zb (I0 rfl (λm hmf=>?_)))));have hmf0:=fresh_iff.1 hmf;have hmN:¬N.has m:=λhh=>hmf0 (un_has.2 (.inr hh));have⟨hW1,e1,off1,hms⟩:=hW.add (fresh_iff.2 λhh=>hmf0 (un_has.2 (.inl hh))) (slO [] [] 0);have hmx:m≠xw:=λe=>by have:=hmf.1;rw[e,hx]at this;cases this
 have e1':((F.un (svS G s w (.s (.slice oa w.U.length cap)) o0 o1 o2 p)).un N).sO m (.map [] [] 0)=(F.un (svS (G.sO m (slO [] [] 0)) s w (.s (.slice oa w.U.length cap)) o0 o1 o2 p)).un N:=by rw[Fs hmN];exact congrArg (Store.un · N) e1
 rw[e1'];have hdN1:zj (F.un (svS (G.sO m (slO [] [] 0)) s w (.s (.slice oa w.U.length cap)) o0 o1 o2 p)) N:=by rw[<-e1];exact tv hdN hmN
 have hmv0:MvS F (G.sO m (slO [] [] 0)) (G.sO m (slO [] [] 0)) xw s p m w (.s (.slice oa w.U.length cap)) L L.length o0 o1 o2 c 0 [] [] 0:=⟨hW1.S,λ_ _ _=>rfl,zd _ _ _,θ,Lx hW.hF hn,λkd l hh=>by cases hh⟩
 have hx0:=hW1.hx;have hox:=hW1.ox;have hos:=hW1.os;have hxs:=hW1.ne;have hLl:=hW.hL;generalize G.sO m (slO [] [] 0)=G0 at*;clear hx hs hr hdN e1 e1' hmf hmf0;refine AWp.meetA (σ:=Unit) ⟨λ_=>[],λ_=>[],λ_ st'=>∃S' N',st'=Store.un S' N'/\Fl S' xw s c (jx fb) (mvW w c)/\zj S' N'/\FldAny fb room (kc:Nat) N'⟩ ?_ ?_;rotate_left
 ·rintro _ st' ⟨S',N',rfl,hd1,hd2,hd3⟩;exact AWp.of_vc zb (ret (h0 he _ _ hd1 hd2 hd3))
 refine AWp.seq (AWp.of_vc zb (AWp.block ?_))
 refine AWp.loopA (σ:=Nat×Store×Store×List Ent×List (Int×List Nat)×List Nat×Nat×Store) ⟨λx=>[(0,.av (ptr xw)),(3,.av (lst 10 zm (c.U.map (uAt w)))),(5,.av (slV m)),(35,.av (lst 10 zm (c.U.map (uAt w)))),(36,.av (int (c.U.length:Nat))),(37,.av (int (x.1:Nat)))],λ_=>[],
  λx st'=>x.1<=c.U.length/\st'=(x.2.1.un (svS x.2.2.1 s {w with U:=mvL w c x.1} (.s (.slice oa w.U.length cap)) o0 o1 o2 p)).un x.2.2.2.2.2.2.2/\(zj (x.2.1.un (svS x.2.2.1 s {w with U:=mvL w c x.1} (.s (.slice oa w.U.length cap)) o0 o1 o2 p)) x.2.2.2.2.2.2.2/\FldAny fb room (kc:Nat) x.2.2.2.2.2.2.2)/\MvS x.2.1 x.2.2.1 G0 xw s p m w (.s (.slice oa w.U.length cap)) x.2.2.2.1 L.length o0 o1 o2 c x.1 x.2.2.2.2.1 x.2.2.2.2.2.1 x.2.2.2.2.2.2.1,λx=>c.U.length-x.1⟩ ?_ ?_
 ·refine⟨(0,F,G0,L,[],[],0,N),Tv,⟨Fae _,rfl,⟨hdN1,hF⟩,hmv0⟩,⟨Tq,Tq,Tq,Tq,?_,Tq,Tv⟩,Tv⟩;show LV.le (.av (int ((rws zm (c.U.map (uAt w))).length:Nat))) (.av (int (c.U.length:Nat)));rw[zi,Fal];exact Tq
 clear hdN1 hF;rintro⟨k,F1,G1,L1,cs,bs,clk,N1⟩ st' ⟨hk,rfl,⟨hdN,hF⟩,hS⟩;dsimp only at hk hdN hF hS⊢;refine AWp.seq (AWp.of_vc zb (AWp.seq (AWp.of_vc zb (bcd (λh1=>?_) (λh1=>?_)))));rotate_left
 ·have:k=c.U.length:=θ;subst this;have hxk:G1.obj xw=some (.cells (wkC s c (jx fb))):=by rw[hS.keep xw hox (Ne.symm hmx)];exact hx0
  exact⟨(),⟨_,N1,rfl,⟨_,o0,o1,o2,p,Kb hxk hxs,zg (Br _ _ _ _ _ _ _ _),(Ka hS.S.hs hS.S.hu).un⟩,hdN,hF⟩,Tv,Tv⟩
 have hlt:k<c.U.length:=θ;have⟨i,hi,hf,hid,hu,how,hin⟩:=K0 (hzero c.U[k] (Faa hlt));have hlm:k<(c.U.map (uAt w)).length:=by rw[Fal];exact hlt
 have hgm:(c.U.map (uAt w))[k]=w.U[i]:=by rw[Fb0,hu]
 have hlU:(c.U.map (uAt w)).length=c.U.length:=Fal ..;have hsu:∀kd n,qx {w with U:=mvL w c k} kd c.T n=qx w kd c.T n:=λ_ _=>rfl;have hm1:=yk4 hm c k;refine AWp.seq (AWp.block (AWp.seq (AWp.of_vc zb ⟨k,rfl,za _ (zp hlm) ?_⟩)));rw[hgm]
 refine AWp.meetA (σ:=Store×List (Int×List Nat)×List Nat×Nat×Store) ⟨λ_=>[(0,.av (ptr xw)),(3,.av (lst 10 zm (c.U.map (uAt w)))),(5,.av (slV m)),(6,.av (int (k:Nat))),(7,.bx 7 0),(35,.av (lst 10 zm (c.U.map (uAt w)))),(36,.av (int (c.U.length:Nat))),(37,.av (int (k:Nat)))],λ_=>[(7,zm w.U[i])],
  λx st'=>st'=(F1.un (svS x.1 s {w with U:=mvL w c k} (.s (.slice oa w.U.length cap)) o0 o1 o2 p)).un x.2.2.2.2/\(zj (F1.un (svS x.1 s {w with U:=mvL w c k} (.s (.slice oa w.U.length cap)) o0 o1 o2 p)) x.2.2.2.2/\FldAny fb room (kc:Nat) x.2.2.2.2)/\MvS F1 x.1 G0 xw s p m w (.s (.slice oa w.U.length cap)) L1 L.length o0 o1 o2 c k x.2.1 x.2.2.1 x.2.2.2.1/\yx x.2.1 w.U[i].kind=some (qx w w.U[i].kind c.T c.U.length)⟩ ?_ ?_
 ·have hmo:((F1.un (svS G1 s {w with U:=mvL w c k} (.s (.slice oa w.U.length cap)) o0 o1 o2 p)).un N1).obj m=some (slO cs bs clk):=yf hdN (Kb hS.hm hms);have hxk:G1.obj xw=some (.cells (wkC s c (jx fb))):=by rw[hS.keep xw hox (Ne.symm hmx)];exact hx0
  have hx1:(F1.un (svS G1 s {w with U:=mvL w c k} (.s (.slice oa w.U.length cap)) o0 o1 o2 p)).obj xw=some (.cells (wkC s c (jx fb))):=Kb hxk hxs;have hs1:(F1.un (svS G1 s {w with U:=mvL w c k} (.s (.slice oa w.U.length cap)) o0 o1 o2 p)).obj s=some (.cells (svC {w with U:=mvL w c k} (.s (.slice oa w.U.length cap)) o0 o1 o2 p)):=zg (Br _ _ _ _ _ _ _ _);have hr1:RowsQ 10 zm (F1.un (svS G1 s {w with U:=mvL w c k} (.s (.slice oa w.U.length cap)) o0 o1 o2 p)) (.s (.slice oa w.U.length cap)) (mvL w c k):=(Ka hS.S.hs hS.S.hu).un;refine AWp.of_vc zb (Ar rfl (it:=ti344) (ie:=ti29) (ik:=ti2) rfl rfl rfl rfl hmo rfl (qA w.U[i].kind) (λe he=>?_) ?_)
  ·obtain⟨e,_,rfl⟩:=Fag.1 he;rfl
  rw[yli];cases hg:yx cs w.U[i].kind with
  |some l=>
   have hl:=hS.sl _ _ hg;rw[hl]at hg;exact⟨(G1,cs,bs,clk,N1),⟨rfl,⟨hdN,hF⟩,hS,hg⟩,Qax,⟨rfl,Tv⟩⟩
  |none=>
   dsimp only;refine Qc zb yd7 (za (o:=((F1.un (svS G1 s _ _ o0 o1 o2 p)).un N1).obj xw) _ (yf hdN hx1) ⟨za9 ⟨hx1,hs1,hr1⟩ hdN hF hm1 w.U[i].kind c.T.toNat htl c.T htn (rws zm (c.U.map (uAt w))).length (by rw[zi,hlU];omega) _ (λN2 hdN2 hF2=>⟨?_,?_⟩),Tv⟩)
   ·repeat(first|exact Tv|refine⟨rfl,?_⟩|refine⟨za (o:=((F1.un (svS G1 s _ _ o0 o1 o2 p)).un N2).obj xw) _ (yf hdN2 hx1) rfl,?_⟩)
   have hmo:((F1.un (svS G1 s {w with U:=mvL w c k} (.s (.slice oa w.U.length cap)) o0 o1 o2 p)).un N2).obj m=some (slO cs bs clk):=yf hdN2 (Kb hS.hm hms);rw[hsu,zi,hlU];refine⟨Gi (.inl rfl) rfl (it:=ti344) (ik:=ti2) rfl rfl rfl (es:=cs.map (yv λl=>yc (qo l))) (bs:=bs) (clk:=clk) (k:=int w.U[i].kind) (v:=yc (qo (qx w w.U[i].kind c.T c.U.length))) hmo rfl rfl (qA w.U[i].kind) (λe he=>?_) (λe1 he hq=>?_) ?_,Tv⟩
   ·obtain⟨e,_,rfl⟩:=Fag.1 he;rfl
   ·obtain⟨g1,_,rfl⟩:=Fag.1 he;have:w.U[i].kind=g1.1:=by simpa [qA,yv,int]using hq
    show int g1.1=_;rw[this]
   have⟨bs',clk',hput⟩:=Mc (λl=>yc (qo l)) cs bs clk w.U[i].kind (qx w w.U[i].kind c.T c.U.length);have hput:wd (cs.map (yv λl=>yc (qo l))) bs clk (qA w.U[i].kind) (int w.U[i].kind) (yc (qo (qx w w.U[i].kind c.T c.U.length)))=slO (yr cs w.U[i].kind (qx w w.U[i].kind c.T c.U.length)) bs' clk':=hput;have⟨u1,u2⟩:=hS.upd hms off1 (cs':=yr cs w.U[i].kind (qx w w.U[i].kind c.T c.U.length)) bs' clk' (λkd l hh=>by
    rw[Dr]at hh;by_cases e:kd=w.U[i].kind
    ·rw[if_pos e]at hh;rw[e];exact(Option.some.inj hh).symm
    ·rw[if_neg e]at hh;exact hS.sl kd l hh)
   have hdj:=tv (x:=slO (yr cs w.U[i].kind (qx w w.U[i].kind c.T c.U.length)) bs' clk') hdN2 (hdN2 m (j6 (Kb hS.hm hms)));rw[u2]at hdj;rw[hput,Fs (hdN2 m (j6 (Kb hS.hm hms))),u2];refine⟨Tv,(_,_,_,_,N2),⟨rfl,⟨hdj,hF2⟩,u1,?_⟩,⟨Tq,Tq,Tq,Tq,Tq,Tq,Tq,Tq,Tv⟩,⟨rfl,Tv⟩⟩;rw[Dr,if_pos rfl]
 clear hdN hF;rintro⟨G2,cs2,bs2,clk2,N2⟩ _ ⟨rfl,⟨hdN,hF⟩,hS2,hg2⟩;dsimp only at hdN hF hS2 hg2⊢;have hmo:((F1.un (svS G2 s {w with U:=mvL w c k} (.s (.slice oa w.U.length cap)) o0 o1 o2 p)).un N2).obj m=some (slO cs2 bs2 clk2):=yf hdN (Kb hS2.hm hms);have hxk:G2.obj xw=some (.cells (wkC s c (jx fb))):=by rw[hS2.keep xw hox (Ne.symm hmx)];exact hx0
 have hx1:((F1.un (svS G2 s {w with U:=mvL w c k} (.s (.slice oa w.U.length cap)) o0 o1 o2 p)).un N2).obj xw=some (.cells (wkC s c (jx fb))):=yf hdN (Kb hxk hxs);have hiL:i<(mvL w c k).length:=by rw[Dm];exact hi
 refine AWp.of_vc zb (za (o:=((F1.un (svS G2 s _ _ o0 o1 o2 p)).un N2).obj xw) _ hx1 (Ar rfl (it:=ti344) (ie:=ti29) (ik:=ti2) rfl rfl rfl rfl hmo rfl (qA w.U[i].kind) (λe he=>?_) ?_))
 ·obtain⟨e,_,rfl⟩:=Fag.1 he;rfl
 rw[Io,hg2];have hput:∀g,g=Fb w c k w.U[i].kind->(mvL w c k).set i (mvG g w.U[i])=mvL w c (k+1):=λg hg=>by rw[zfw hlt hf hi,hg]
 have hlen:=Ij (qx w w.U[i].kind c.T c.U.length);have hid':(mvL w c k)[i].id=w.U[i].id:=ph w c k i hi
 have fin:∀{F3 G3 L3},StandR F3 G3 s p {w with U:=mvL w c (k+1)} (.s (.slice oa w.U.length cap)) L3 o0 o1 o2->(∀q,kl (.s (.slice oa w.U.length cap)) q->G3.obj q=G2.obj q)->L3.length<=L1.length+1->(∀e∈L3,e.2.ok)->MvS F3 G3 G0 xw s p m w (.s (.slice oa w.U.length cap)) L3 L.length o0 o1 o2 c (k+1) cs2 bs2 clk2:=λg1 g2 g3 g4=>
  ⟨g1,λq h1 h2=>(g2 q h1).trans (hS2.keep q h1 h2),(g2 m off1).trans hS2.hm,by have:=hS2.hl;omega,g4,hS2.sl⟩
 have hdec:c.U.length-(k+1)<c.U.length-k:=θ;have hL1:=hS2.hl;refine bcd (λc5=>?_) (λc5=>?_)
 ·rw[zi,hlen]at c5;have hk2:k<(qo (qx w w.U[i].kind c.T c.U.length)).length:=by rw[hlen];omega
  have hk3:k<(qx w w.U[i].kind c.T c.U.length).length:=θ;have hg9:(qo (qx w w.U[i].kind c.T c.U.length))[k]=Fb w c k w.U[i].kind:=by rw[zfz hk3];exact Fb0 ..
  refine⟨k,rfl,za _ (zp hk2) (Qc zb zdk (za (o:=((F1.un (svS G2 s _ _ o0 o1 o2 p)).un N2).obj xw) _ hx1 ?_))⟩;have hpt:=Wz hS2.S hos (pe hm.hr c k) Qah θ hS2.ok hiL (mvG ((qo (qx w w.U[i].kind c.T c.U.length))[k]'hk2) w.U[i]) hid' (show w.U[i].pos.ok from hn _ (Faa hi)) (λr S=>r=.tup []/\∃F3 G3 L3,S=F3.un (svS G3 s {w with U:=(mvL w c k).set i (mvG ((qo (qx w w.U[i].kind c.T c.U.length))[k]'hk2) w.U[i])} (.s (.slice oa w.U.length cap)) o0 o1 o2 p)/\StandR F3 G3 s p {w with U:=(mvL w c k).set i (mvG ((qo (qx w w.U[i].kind c.T c.U.length))[k]'hk2) w.U[i])} (.s (.slice oa w.U.length cap)) L3 o0 o1 o2/\(∀q,kl (.s (.slice oa w.U.length cap)) q->G3.obj q=G2.obj q)/\L3.length<=L1.length+1/\∀e∈L3,e.2.ok) (λF3 G3 L3 g1 g2 g3 g4=>⟨rfl,F3,G3,L3,rfl,g1,g2,g3,g4⟩);refine⟨ACalls.frame hdN hpt ?_,Tv⟩;rintro _ _ ⟨rfl,F3,G3,L3,rfl,g1,g2,g3,g4⟩ hdN3;refine⟨Tv,?_⟩;dsimp only at g1 hdN3⊢;rw[hput _ hg9]at g1 hdN3⊢;exact AWp.of_vc zb (Qd ⟨(k+1,F3,G3,L3,cs2,bs2,clk2,N2),hdec,⟨ξ,rfl,⟨hdN3,hF⟩,fin g1 g2 g3 g4⟩,Qax,Tv⟩)
 ·rw[zi,hlen]at c5;have hk3:¬k<(qx w w.U[i].kind c.T c.U.length).length:=θ;have hg9:c.T=Fb w c k w.U[i].kind:=(zf0 hk3).symm;refine Qc zb zdk (za (o:=((F1.un (svS G2 s _ _ o0 o1 o2 p)).un N2).obj xw) _ hx1 ?_);have hpt:=Wz hS2.S hos (pe hm.hr c k) Qah θ hS2.ok hiL (mvG c.T w.U[i]) hid' (show w.U[i].pos.ok from hn _ (Faa hi)) (λr S=>r=.tup []/\∃F3 G3 L3,S=F3.un (svS G3 s {w with U:=(mvL w c k).set i (mvG c.T w.U[i])} (.s (.slice oa w.U.length cap)) o0 o1 o2 p)/\StandR F3 G3 s p {w with U:=(mvL w c k).set i (mvG c.T w.U[i])} (.s (.slice oa w.U.length cap)) L3 o0 o1 o2/\(∀q,kl (.s (.slice oa w.U.length cap)) q->G3.obj q=G2.obj q)/\L3.length<=L1.length+1/\∀e∈L3,e.2.ok) (λF3 G3 L3 g1 g2 g3 g4=>⟨rfl,F3,G3,L3,rfl,g1,g2,g3,g4⟩);refine⟨ACalls.frame hdN hpt ?_,Tv⟩;rintro _ _ ⟨rfl,F3,G3,L3,rfl,g1,g2,g3,g4⟩ hdN3;refine⟨Tv,?_⟩;dsimp only at g1 hdN3⊢;rw[hput _ hg9]at g1 hdN3⊢;exact AWp.of_vc zb (Qd ⟨(k+1,F3,G3,L3,cs2,bs2,clk2,N2),hdec,⟨ξ,rfl,⟨hdN3,hF⟩,fin g1 g2 g3 g4⟩,Qax,Tv⟩)
section
variable {F G N:Store} {xw s p fb kc:Nat} {room:Int} {w:Wld} {v o0 o1 o2:AV}
def Qai{p:Prop}(h:p:=by repeat(first|exact Tv|refine⟨rfl,?_⟩|refine⟨za (o:=((F.un (svS G s w _ o0 o1 o2 p)).un N).obj xw) _ hx rfl,?_⟩|refine⟨za (o:=((F.un (svS G s w _ o0 o1 o2 p)).un N).obj s) _ hs rfl,?_⟩)):p:=h
def zlt{kc:Nat}{L:List Ent}{c:Cmd}(hW:Work F G xw s p w v L o0 o1 o2 c (jx fb))(hdN:zj (F.un (svS G s w v o0 o1 o2 p)) N)(hFN:FldAny fb room (kc:Nat) N)(hm:MayF w)(hn:∀u∈w.U,u.pos.ok){i:Nat}(hi:i<w.U.length)(t:Nat)(ht:t<w.G.T.length)(htI:c.T=(t:Int))(R:Ja)
  (h:∀S' N',D8 w w.U[i] c.T=none->zj S' N'->FldAny fb room (kc:Nat) N'->R (V.bool false) (S'.un N'))
  (h1:∀t2,D8 w w.U[i] c.T=some t2->t2<w.G.T.length->∀F' G' L' q0 q1 q2 N',Work F' G' xw s p (bg w i t2 hi) v L' q0 q1 q2 c (jx fb)->zj (F'.un (svS G' s (bg w i t2 hi) v q0 q1 q2 p)) N'->FldAny fb room (kc:Nat) N'->R (V.bool true) ((F'.un (svS G' s (bg w i t2 hi) v q0 q1 q2 p)).un N')):Jb 267 [ptr xw,.agg (zm w.U[i])] ((F.un (svS G s w v o0 o1 o2 p)).un N) R:=by
 have hU:=hm.hU;have hB:=hm.hB;have hx:=hW.x (F':=F) (q0:=o0) (q1:=o1) (q2:=o2);have hs:=hW.s (F':=F) (q0:=o0) (q1:=o1) (q2:=o2);have hr:=hW.r (F':=F) (q0:=o0) (q1:=o1) (q2:=o2);have⟨oa,cap,e,hget⟩:=hW.S.hu.form;subst e;refine Qy 52 Tryz.func267 ?_;refine Qc zb ydb (za (o:=((F.un (svS G s w _ o0 o1 o2 p)).un N).obj xw) _ (yf hdN hx) ?_);refine⟨za9 ⟨hx,hs,hr⟩ hdN hFN hm w.U[i].kind t ht c.T htI 64 ψ _ (λN1 hd1 hF1=>⟨?_,?_⟩),Tv⟩
 ·repeat(first|exact Tv|refine⟨rfl,?_⟩|refine⟨za (o:=((F.un (svS G s w _ o0 o1 o2 p)).un N1).obj xw) _ (yf hd1 hx) rfl,?_⟩)
 have hlen:=ya3 w w.U[i].kind c.T 64;have hlt3:=λ(t2:Nat) (h2:t2∈qx w w.U[i].kind c.T 64)=>(mg h2).1;have hsome:=λ(j:Nat) (hj:j<(qx w (w.U[i]'hi).kind c.T 64).length)=>yiw (w:=w) (u:=w.U[i]'hi) (tile:=c.T) (j:=j) hj;have hnone:=yix (w:=w) (u:=w.U[i]'hi) (tile:=c.T);generalize qx w w.U[i].kind c.T 64=sl at*
 refine AWp.loop (σ:=Nat×Store×AV×AV×AV) ⟨λx=>[(0,.av (ptr xw)),(3,.bx 3 0),(16,.av (yc (qo sl))),(17,.av (int (sl.length:Nat))),(18,.av (int (x.1:Nat)))],λ_=>[(3,zm w.U[i])],
  λx st'=>x.1<=sl.length/\st'=(x.2.1.un (svS G s w (.s (.slice oa w.U.length cap)) x.2.2.1 x.2.2.2.1 x.2.2.2.2 p)).un N1/\zj (x.2.1.un (svS G s w (.s (.slice oa w.U.length cap)) x.2.2.1 x.2.2.2.1 x.2.2.2.2 p)) N1/\StandR x.2.1 G s p w (.s (.slice oa w.U.length cap)) L x.2.2.1 x.2.2.2.1 x.2.2.2.2/\∀j,(hj:j<sl.length)->j<x.1->¬xz w w.U[i].id w.U[i].kind (qg w.G sl[j]),λx=>sl.length-x.1⟩ zb ?_ ?_
 ·refine⟨(0,F,o0,o1,o2),Tv,⟨Fae _,rfl,hd1,hW.S,λj _ hj=>by dsimp only at hj;omega⟩,⟨Tq,Tq,Tq,?_,Tq,Tv⟩,⟨rfl,Tv⟩⟩;show LV.le (.av (int ((rws zn (qo sl)).length:Nat))) (.av (int (sl.length:Nat)));rw[zi,Ij];exact Tq
 rintro⟨j,F1,q0,q1,q2⟩ st' ⟨hj,rfl,hd2,hS1,hall⟩;dsimp only at hj hd2 hS1 hall⊢;refine bcd (λc1=>?_) (λc1=>?_);rotate_left
 ·exact ret (h _ _ (hnone λj' hj'=>hall j' hj' θ) hd2 hF1)
 have hlt:j<sl.length:=θ;have hlt2:j<(qo sl).length:=by rw[Ij];exact hlt
 have hsl:=hlt3 _ (Faa hlt);have hnat:(qo sl)[j]'hlt2=((sl[j]:Nat):Int):=Fb0 ..;have hx1:=hW.x (F':=F1) (q0:=q0) (q1:=q1) (q2:=q2);have hs1:=hW.s (F':=F1) (q0:=q0) (q1:=q1) (q2:=q2);have ha:=xj hm.hg;refine⟨j,rfl,za _ (zp hlt2) (za (o:=((F1.un (svS G s w _ q0 q1 q2 p)).un N1).obj xw) _ (yf hd2 hx1) (za (o:=((F1.un (svS G s w _ q0 q1 q2 p)).un N1).obj s) _ (yf hd2 hs1) (cd w.G hm.hg sl[j] θ _ hnat _ _ (Qc zb yda (za (o:=((F1.un (svS G s w _ q0 q1 q2 p)).un N1).obj xw) _ (yf hd2 hx1) ?_)))))⟩;have hpl:=mc hS1 hm.hg θ hm.hb hm.hr θ hn hW.hL hW.hF w.U[i].id w.U[i].kind (qg w.G sl[j]) (Sw hm.hg hsl) (λr S=>∃z F2 a0 a1 a2,r=V.bool z/\S=F2.un (svS G s w (.s (.slice oa w.U.length cap)) a0 a1 a2 p)/\(z=true↔xz w w.U[i].id w.U[i].kind (qg w.G sl[j]))/\StandR F2 G s p w (.s (.slice oa w.U.length cap)) L a0 a1 a2) (λz F2 a0 a1 a2 hz hS2=>⟨z,F2,a0,a1,a2,rfl,rfl,hz,hS2⟩);refine⟨ACalls.frame hd2 hpl ?_,Tv⟩;rintro _ _ ⟨z,F2,a0,a1,a2,rfl,rfl,hz,hS2⟩ hd3;have hx2:=hW.x (F':=F2) (q0:=a0) (q1:=a1) (q2:=a2);have hs2:=hW.s (F':=F2) (q0:=a0) (q1:=a1) (q2:=a2);refine⟨Tv,zk (λc2=>?_) (λc2=>?_)⟩;rotate_left
 ·refine Qd ⟨(j+1,F2,a0,a1,a2),?_,⟨ξ,rfl,hd3,hS2,λj' hj' hjj=>?_⟩,Qax,⟨rfl,Tv⟩⟩
  ·show sl.length-(j+1)<sl.length-j;omega
  ·by_cases e:j'=j
   ·subst e;intro hh;have:=hz.2 hh;rw[this]at c2;cases c2
   ·exact hall j' hj' (by dsimp only at hjj;omega)
 have hcl:=hz.1 c2;have hout:=hsome j hlt (λi' hi' hii=>hall i' hi' hii) hcl;refine Qc zb yc9 (Qba (Qbb (Qc zb yc8 (za (o:=((F2.un (svS G s w _ a0 a1 a2 p)).un N1).obj xw) _ (yf hd3 hx2) ?_))));have hpt:=ng hS2 hW.os hm.hr θ (by have:=hW.hL;omega) (Lx hW.hF hn) hi (Fq w.U[i] (qg w.G sl[j])) rfl (Sw hm.hg hsl) (λr S=>r=.tup []/\∃F3 G3,S=F3.un (svS G3 s {w with U:=w.U.set i (Fq w.U[i] (qg w.G sl[j]))} (.s (.slice oa w.U.length cap)) a0 a1 a2 p)/\StandR F3 G3 s p {w with U:=w.U.set i (Fq w.U[i] (qg w.G sl[j]))} (.s (.slice oa w.U.length cap)) (Gf L (Fq w.U[i] (qg w.G sl[j]))) a0 a1 a2/\∀q,kl (.s (.slice oa w.U.length cap)) q->G3.obj q=G.obj q) (λF3 G3 g1 g2=>⟨rfl,F3,G3,rfl,g1,g2⟩);refine⟨ACalls.frame hd3 hpt ?_,Tv⟩;rintro _ _ ⟨rfl,F3,G3,rfl,g1,g2⟩ hd4;refine⟨Tv,?_⟩;have hF3:=zfb hW.hF hm.hr hi (u:=Fq w.U[i] (qg w.G sl[j])) rfl;refine ret (h1 sl[j] hout hsl F3 G3 _ a0 a1 a2 N1 ⟨g1,by rw[g2 xw hW.ox];exact hW.hx,hW.ox,hW.os,?_,hF3⟩ hd4 hF1);have⟨_,_,_,_,_,_,_,_,inv⟩:=g1.hc;exact zfc inv.n1 hF3
def zlk{kc:Nat}{L:List Ent}{c:Cmd}(hW:Work F G xw s p w v L o0 o1 o2 c (jx fb))(hdN:zj (F.un (svS G s w v o0 o1 o2 p)) N)(hFN:FldAny fb room (kc:Nat) N)(hm:MayF w)(hn:∀u∈w.U,u.pos.ok)(R:Ja)
  (h:∀S' N',ulE w c≠0->zj S' N'->FldAny fb room (kc:Nat) N'->R (int (ulE w c)) (S'.un N')) (h0:ulE w c=0->∀S' N',Fl S' xw s c (jx fb) (ulW w c)->zj S' N'->FldAny fb room (kc:Nat) N'->R (int 0) (S'.un N')):Jb 234 [ptr xw] ((F.un (svS G s w v o0 o1 o2 p)).un N) R:=by
 have hU:=hm.hU;have hx:=yf hdN (hW.x (F':=F) (q0:=o0) (q1:=o1) (q2:=o2));have hs:=yf hdN (hW.s (F':=F) (q0:=o0) (q1:=o1) (q2:=o2));have hr:=(hW.r (F':=F) (q0:=o0) (q1:=o1) (q2:=o2)).unL hdN;have⟨oa,cap,e,hget⟩:=hW.S.hu.form;subst e;have ha:=xj hm.hg;refine Qy 96 Tryz.func234 ?_;refine zj2 ⟨hx,hs,hr⟩ hm.hr θ _ (qi (λc1=>?_) (λc1=>?_))
 ·have:=zne c1;rw[this]at h;exact ret (h _ _ c1 hdN hFN)
 have⟨hask,hroom⟩:=uq c1;have⟨ix,hix,hfx,hidx,hux,_,_⟩:=K0 hask;refine Qc zb ydy (za (o:=((F.un (svS G s w _ o0 o1 o2 p)).un N).obj xw) _ hx (za (o:=((F.un (svS G s w _ o0 o1 o2 p)).un N).obj s) _ hs (za (o:=((F.un (svS G s w _ o0 o1 o2 p)).un N).obj xw) _ hx ⟨ct w.G c.T hm.hg _ _ (λz hz=>⟨Tv,Qbb (yj (zk (λc2=>?_) (λc2=>?_)))⟩),Tv⟩)));rotate_left
 ·have:=znd c1 (λhh=>by have:=hz.2 hh;rw[this]at c2;cases c2);rw[this]at h;exact ret (h _ _ ψ hdN hFN)
 have htile:=hz.1 c2;have htn:c.T=((c.T.toNat:Nat):Int):=θ;have htl:c.T.toNat<w.G.T.length:=θ;have hup:(uAt w c.N).pos.ok:=zbt hn c.N;refine Qc zb ydx (za (o:=((F.un (svS G s w _ o0 o1 o2 p)).un N).obj xw) _ hx (za (o:=((F.un (svS G s w _ o0 o1 o2 p)).un N).obj s) _ hs (za (o:=((F.un (svS G s w _ o0 o1 o2 p)).un N).obj xw) _ hx ⟨cd w.G hm.hg c.T.toNat θ _ htn _ _ ⟨?_,?_⟩,Tv⟩)))
 ·repeat(first|exact Tv|refine⟨rfl,?_⟩|refine⟨za (o:=((F.un (svS G s w _ o0 o1 o2 p)).un N).obj xw) _ hx rfl,?_⟩|refine⟨za (o:=((F.un (svS G s w _ o0 o1 o2 p)).un N).obj s) _ hs rfl,?_⟩)
 refine⟨zif (qg w.G c.T.toNat) (uAt w c.N).pos (Sw hm.hg htl) hup _ _ ⟨Qai,Qbb (bcd (λc3=>?_) (λc3=>?_))⟩,Tv⟩
 ·have:=znc c1 htile c3;rw[this]at h;exact ret (h _ _ ψ hdN hFN)
 refine Qc zb ydw (za (o:=((F.un (svS G s w _ o0 o1 o2 p)).un N).obj xw) _ hx (za (o:=((F.un (svS G s w _ o0 o1 o2 p)).un N).obj s) _ hs ?_));rw[hux,hidx];refine⟨zg9 hr θ c.N _ ⟨Qai,?_⟩,Tv⟩;have e4:=λh4=>znb (w:=w) (c:=c) c1 htile c3 h4;have e5:=λx h4=>zna (w:=w) (c:=c) c1 htile c3 (x:=x) h4;have hids:=λid (hid:id∈ya w.U c.N)=>ymy (w:=w) hm.hr hid;have hin:(ya w.U c.N).length<=w.U.length:=ψh;generalize ya w.U c.N=ids at*
 refine AWp.loop (σ:=Nat×Wld×Store×Store×List Ent×AV×AV×AV×Store) ⟨λx=>[(0,.av (ptr xw)),(62,.av (yc ids)),(63,.av (int (ids.length:Nat))),(64,.av (int (x.1:Nat)))],λ_=>[],
  λx st'=>x.1<=ids.length/\st'=(x.2.2.1.un (svS x.2.2.2.1 s x.2.1 (.s (.slice oa w.U.length cap)) x.2.2.2.2.2.1 x.2.2.2.2.2.2.1 x.2.2.2.2.2.2.2.1 p)).un x.2.2.2.2.2.2.2.2/\(zj (x.2.2.1.un (svS x.2.2.2.1 s x.2.1 (.s (.slice oa w.U.length cap)) x.2.2.2.2.2.1 x.2.2.2.2.2.2.1 x.2.2.2.2.2.2.2.1 p)) x.2.2.2.2.2.2.2.2/\FldAny fb room (kc:Nat) x.2.2.2.2.2.2.2.2)/\Work x.2.2.1 x.2.2.2.1 xw s p x.2.1 (.s (.slice oa w.U.length cap)) x.2.2.2.2.1 x.2.2.2.2.2.1 x.2.2.2.2.2.2.1 x.2.2.2.2.2.2.2.1 c (jx fb)/\unl c.T (ids.drop x.1) x.2.1=unl c.T ids w/\MayF x.2.1/\(∀u∈x.2.1.U,u.pos.ok)/\x.2.1.U.length=w.U.length/\x.2.1.G=w.G/\∀id,qw x.2.1.U id=qw w.U id,λx=>ids.length-x.1⟩ zb ?_ ?_
 ·refine⟨(0,w,F,G,L,o0,o1,o2,N),Tv,⟨Fae _,rfl,⟨hdN,hFN⟩,hW,by rw[Fda],hm,hn,rfl,rfl,λ_=>rfl⟩,⟨Tq,Tq,?_,Tq,Tv⟩,Tv⟩;show LV.le (.av (int ((rws zn ids).length:Nat))) (.av (int (ids.length:Nat)));rw[zi];exact Tq
 clear hdN hFN hx hs hr;rintro⟨k,wc,F1,G1,L1,q0,q1,q2,N1⟩ st' ⟨hk,rfl,⟨hdN,hFN⟩,hW1,hun,hm1,hn1,hl1,hG1,hf1⟩;dsimp only at hk hdN hFN hW1 hun hm1 hn1 hl1 hG1 hf1⊢;have hx0:=hW1.x (F':=F1) (q0:=q0) (q1:=q1) (q2:=q2);have hs0:=hW1.s (F':=F1) (q0:=q0) (q1:=q1) (q2:=q2);have hr0:=hW1.r (F':=F1) (q0:=q0) (q1:=q1) (q2:=q2);have hx1:=yf hdN hx0;have hs1:=yf hdN hs0;have hr1:=hr0.unL hdN;refine bcd (λh1=>?_) (λh1=>?_);rotate_left
 ·have:k=ids.length:=θ;subst this;rw[Fdy]at hun;have⟨g1,g2⟩:=e5 wc hun.symm;rw[g2]at h0;exact ret (h0 g1 _ N1 ⟨_,q0,q1,q2,p,hx0,hs0,hr0⟩ hdN hFN)
 have hlt:k<ids.length:=θ;have⟨iu,hiu,hfu⟩:=hids _ (Faa hlt);have hiu1:iu<wc.U.length:=θ;have hfu1:qw wc.U ids[k]=some iu:=by rw[hf1];exact hfu
 rw[Fcl hlt]at hun;refine⟨k,rfl,za _ (zp hlt) (za (o:=((F1.un (svS G1 s wc _ q0 q1 q2 p)).un N1).obj xw) _ hx1 (za (o:=((F1.un (svS G1 s wc _ q0 q1 q2 p)).un N1).obj s) _ hs1 (gg hr1 θ hm1.hr ids[k] _ (λi hi z hz=>?_))))⟩;have⟨g1,g2⟩:=zh9 hm1.hr hz hi;have hzi:i=iu:=by
  cases z with
  |false=>rw[g2 rfl]at hfu1;cases hfu1
  |true=>rw[g1 rfl]at hfu1;exact Option.some.inj hfu1
 subst hzi;refine za (o:=((F1.un (svS G1 s wc _ q0 q1 q2 p)).un N1).obj xw) _ hx1 (za (o:=((F1.un (svS G1 s wc _ q0 q1 q2 p)).un N1).obj s) _ hs1 ?_);have hget1:=hr1.form;have⟨oa2,cap2,e2,hget1⟩:=hget1;simp only[AV.s.injEq,Value.slice.injEq]at e2;obtain⟨rfl,_,rfl⟩:=e2;obtain⟨b,J,rfl,hob⟩:=hget1 i hiu1;refine⟨i,rfl,hiu,za (o:=((F1.un (svS G1 s wc _ q0 q1 q2 p)).un N1).obj b) _ hob (xr (i:=ti93) (row:=zm wc.U[i]) rfl rfl (D3 Cy hiu1) (zlt hW1 hdN hFN hm1 hn1 hiu1 c.T.toNat (by rw[hG1];exact htl) htn _ (λS' N2 hno hd2 hF2=>?_) (λt2 hso ht2 F2 G2 L2 a0 a1 a2 N2 hW2 hd2 hF2=>?_)))⟩
 ·rw[ir hiu1 hfu1 hno]at hun;have g5:=e4 hun.symm;rw[g5]at h;exact ret (h _ _ ψ hd2 hF2)
 ·rw[iq hiu1 hfu1 hso]at hun;refine Qd ⟨(k+1,bg wc i t2 hiu1,F2,G2,L2,a0,a1,a2,N2),?_,⟨ξ,rfl,⟨hd2,hF2⟩,hW2,hun,yk3 hm1 hiu1 rfl (show Gb wc.U[i].kind from hm1.hk _ (Faa hiu1)),λu hu=>?_,?_,hG1,λid=>?_⟩,Qax,Tv⟩
  ·show ids.length-(k+1)<ids.length-k;omega
  ·rcases zf7 (show u∈wc.U.set i _ from hu)with rfl|hu
   ·exact Sw hm1.hg ht2
   ·exact hn1 u hu
  ·show(wc.U.set i _).length=_;rw[Fak];exact hl1
  ·show qw (wc.U.set i (Fq wc.U[i] (qg wc.G t2))) id=_;rw[ypq hm1.hr hiu1 (u:=Fq wc.U[i] (qg wc.G t2)) rfl];exact hf1 id
end
end Go.Proofs
namespace Go.Proofs
open Go Go.V
set_option maxRecDepth 20000
set_option maxHeartbeats 4000000
def ytu{w:Wld}(hm:z8 w){c:Cmd}(hc:vq c)(hk:c.K=4)(hn:¬1099511627776<=w.next):qh (bdB w c)/\∀x∈w.B,x.id<(bdB w c).id:=by have hok:=(Cmd.ok4 hk).1 hc.1;have mf:=ww hm;have:=mf.hn1;have hP:=hc.2.1;refine⟨⟨by unfold bdB;dsimp only;omega,hP,hok.2.1,hok.2.2⟩,λx hx=>?_⟩;have:=(hm.1.1.2.2 x hx).2;exact this
def zl5{F G:Store}{xw s p:Nat}{w:Wld}{v:AV}{L:List Ent}{o0 o1 o2:AV}{c:Cmd}{fv:AV}(hW:Work F G xw s p w v L o0 o1 o2 c fv)(hm:z8 w)(hn:∀u∈w.U,u.pos.ok)(hc:vq c)(hk:c.K=4)(R:Ja)
  (h:∀S',bdE w c≠0->R (int (bdE w c)) S') (h0:bdE w c=0->∀S',Fl S' xw s c fv (bdW w c)->R (int 0) S'):Jb 231 [ptr xw] (F.un (svS G s w v o0 o1 o2 p)) R:=by
 have mf:=ww hm;have hg:=mf.hg;have hg1:=hg.1;have hg2:=hg.2.1;have hn2:=mf.hn2;have hn1:=mf.hn1;have hok:=(Cmd.ok4 hk).1 hc.1;have hT:=hok.1;unfold ky at hT;have hx:=hW.x (F':=F) (q0:=o0) (q1:=o1) (q2:=o2);have hs:=hW.s (F':=F) (q0:=o0) (q1:=o1) (q2:=o2);have⟨oa,cap,e,hget⟩:=hW.S.hu.form;subst e;have hq:c.T.tmod w.G.W=c.T%w.G.W:=Fdt hT.1;have hq2:c.T.tdiv w.G.W=c.T/w.G.W:=Fbg hT.1;have hq3:0<=c.T/w.G.W/\c.T/w.G.W<=c.T:=⟨Fcz hT.1 θ,Int.ediv_le_self _ hT.1⟩
 have bad:∀n:Int,n≠0->bdE w c=n->∀S,R (int n) S:=λn hn e S=>by have:=h S (by rw[e];exact hn);rw[e]at this;exact this
 refine Qy 116 Tryz.func231 ?_;refine za (o:=(F.un (svS G s w _ o0 o1 o2 p)).obj xw) _ hx (za (o:=(F.un (svS G s w _ o0 o1 o2 p)).obj s) _ hs ?_);refine Qc zb yd5 (za (o:=(F.un (svS G s w _ o0 o1 o2 p)).obj xw) _ hx ?_);refine⟨ct w.G c.T hg _ _ (λz hz=>⟨?_,?_⟩),Tv⟩
 ·repeat(first|exact Tv|refine⟨rfl,?_⟩|refine⟨za (o:=(F.un (svS G s w _ o0 o1 o2 p)).obj xw) _ hx rfl,?_⟩)
 refine Qbb (yj (zk (λc1=>?_) (λc1=>?_)));rotate_left
 ·have hno:¬(0<=c.T/\c.T<w.G.W*w.G.H):=λhh=>by have:=hz.2 hh;rw[this]at c1;cases c1
  exact ret (bad 3 ψ (by unfold bdE;rw[if_pos hno]) _)
 have ht:=hz.1 c1;refine za (o:=(F.un (svS G s w _ o0 o1 o2 p)).obj xw) _ hx (za (o:=(F.un (svS G s w _ o0 o1 o2 p)).obj s) _ hs (zu (λc2=>?_) (λc2=>?_)))
 ·exact ret (bad 4 ψ (by unfold bdE;rw[if_neg (λhh=>hh ht),if_pos θ]) _)
 have hnx:¬1099511627776<=w.next:=θ;have⟨hbp,hid⟩:=ytu hm hc hk hnx;refine Qc zb yd4 (za (o:=(F.un (svS G s w _ o0 o1 o2 p)).obj xw) _ hx (za (o:=(F.un (svS G s w _ o0 o1 o2 p)).obj s) _ hs (za (o:=(F.un (svS G s w _ o0 o1 o2 p)).obj xw) _ hx (za (o:=(F.un (svS G s w _ o0 o1 o2 p)).obj xw) _ hx ⟨θ,za (o:=(F.un (svS G s w _ o0 o1 o2 p)).obj xw) _ hx ⟨θ,ze θ0 (za (o:=(F.un (svS G s w _ o0 o1 o2 p)).obj xw) _ hx (za (o:=(F.un (svS G s w _ o0 o1 o2 p)).obj xw) _ hx ⟨⟨?_,?_⟩,Tv⟩))⟩⟩))))
 ·repeat(first|exact Tv|refine⟨rfl,?_⟩|refine⟨za (o:=(F.un (svS G s w _ o0 o1 o2 p)).obj xw) _ hx rfl,?_⟩|refine⟨za (o:=(F.un (svS G s w _ o0 o1 o2 p)).obj s) _ hs rfl,?_⟩|refine⟨⟨θ,rfl⟩,?_⟩|refine⟨⟨θ,ze θ0 rfl⟩,?_⟩)
 refine Qbb (Qc zb yd3 (za (o:=(F.un (svS G s w _ o0 o1 o2 p)).obj xw) _ hx (za (o:=(F.un (svS G s w _ o0 o1 o2 p)).obj s) _ hs ⟨yti w.G hg w.B mf.hB mf.hb (bdB w c) hbp hid _ _ (λhe=>⟨?_,?_⟩) (λhe=>⟨?_,?_⟩),Tv⟩)))
 ·repeat(first|exact Tv|refine⟨rfl,?_⟩|refine⟨za (o:=(F.un (svS G s w _ o0 o1 o2 p)).obj xw) _ hx rfl,?_⟩|refine⟨za (o:=(F.un (svS G s w _ o0 o1 o2 p)).obj s) _ hs rfl,?_⟩)
 ·refine Qbb (Qbb (qi (λ_=>?_) (λhh=>absurd hh he)));have e1:bdE w c=js w.G w.B (bdB w c):=by unfold bdE;rw[if_neg (λhh=>hh ht),if_neg hnx,if_neg he]
  have:=h (F.un (svS G s w (.s (.slice oa w.U.length cap)) o0 o1 o2 p)) (by rw[e1];exact he);rw[e1]at this;exact ret this
 ·repeat(first|exact Tv|refine⟨rfl,?_⟩|refine⟨za (o:=(F.un (svS G s w _ o0 o1 o2 p)).obj xw) _ hx rfl,?_⟩|refine⟨za (o:=(F.un (svS G s w _ o0 o1 o2 p)).obj s) _ hs rfl,?_⟩)
 refine Qbb (Qbb ?_);have hon:onP w.G (bdB w c):=Classical.byContradiction λhh=>by unfold js at he;rw[if_pos hh]at he;cases he
 have e1:bdE w c=(by classical exact if Mb w (bdB w c)then 5 else 0):=by unfold bdE;rw[if_neg (λhh=>hh ht),if_neg hnx,if_pos he]
 refine zlz hW mf hn (yjb hm) (bdB w c) ⟨hbp,hon⟩ _ (λz F2 hz hS2=>zk (λc3=>?_) (λc3=>?_))
 ·exact ret (bad 5 ψ (by rw[e1,if_pos (hz.1 c3)]) _)
 have hnm:¬Mb w (bdB w c):=λhh=>by have:=hz.2 hh;rw[this]at c3;cases c3
 have hz0:bdE w c=0:=by rw[e1,if_neg hnm]
 have hx2:=hW.x (F':=F2) (q0:=o0) (q1:=o1) (q2:=o2);have hs2:=hW.s (F':=F2) (q0:=o0) (q1:=o1) (q2:=o2);have hr2:=hW.r (F':=F2) (q0:=o0) (q1:=o1) (q2:=o2);have hos:=hW.os;have hxs:=hW.ne;generalize F2.un (svS G s w _ o0 o1 o2 p)=S at hx2 hs2 hr2⊢;refine Qbc (Ch (i:=ti44) (v:=lst 6 zl (w.B++[bdB w c])) (b:=s) (o:=6) (l:=svC w (.s (.slice oa w.U.length cap)) o0 o1 o2 p) rfl rfl rfl hs2 (show 6+1<=12 by decide) ?_);have hs3:(S.sO s (.cells (zq (svC w (.s (.slice oa w.U.length cap)) o0 o1 o2 p) 6 [lst 6 zl (w.B++[bdB w c])]))).obj s=some (.cells (svC {w with B:=w.B++[bdB w c]} (.s (.slice oa w.U.length cap)) o0 o1 o2 p)):=zd _ _ _;have hx3:=(zf (st:=S) (x:=.cells (zq (svC w (.s (.slice oa w.U.length cap)) o0 o1 o2 p) 6 [lst 6 zl (w.B++[bdB w c])])) hxs).trans hx2;have hr3:=hr2.set hos (.cells (zq (svC w (.s (.slice oa w.U.length cap)) o0 o1 o2 p) 6 [lst 6 zl (w.B++[bdB w c])]));generalize S.sO s _=S2 at hs3 hx3 hr3⊢;refine Qbc ?_;refine Qbc ?_;exact ze ξ (Ch (i:=ti2) (v:=int (w.next+1)) (b:=s) (o:=2) (l:=svC {w with B:=w.B++[bdB w c]} (.s (.slice oa w.U.length cap)) o0 o1 o2 p) rfl rfl rfl hs3 (show 2+1<=12 by decide) (ret (h0 hz0 _ ⟨_,o0,o1,o2,p,(zf hxs).trans hx3,zd _ _ _,hr3.set hos _⟩)))
end Go.Proofs
namespace Go.Proofs
open Go Go.V
set_option maxRecDepth 20000
set_option maxHeartbeats 4000000
end Go.Proofs
namespace Go.Proofs
open Go Go.V
set_option maxRecDepth 20000
set_option maxHeartbeats 4000000
def Vk:List AV:=[int 0,int 0,int 0,int 0,int 0,int 0]
def ytk(b:Bld):∀y∈zl b,y.one=true:=by intro y hy;obtain⟨x,rfl,h⟩:=Va b y hy;exact h
def yf4(l:List Bld):∀y∈(rws zl l).flatten,y.one=true:=by intro y hy;have⟨r,hr,hy⟩:=Fdw.1 hy;obtain⟨b,_,rfl⟩:=Fag.1 hr;exact ytk b y hy
def yre{N:Store}{v:AV}{l:List Bld}(hv:RowsQ 6 zl N v l)(hl:l.length<=256){i:Nat}(hi:i<l.length)(R:Ja)(h:∀v' N',RowsQ 6 zl N' v' (l.eraseIdx i)->R v' N'):Jb 261 [v,int (i:Nat),int ((i:Int)+1)] N R:=by
 rcases hv with(⟨_,hl0⟩|⟨b,cap,L,rfl,ho,hc1,hc2,hc3⟩)|⟨_,_,_,hl0⟩
 ·subst hl0;exact absurd hi (Fa3 _)
 rotate_left
 ·subst hl0;exact absurd hi (Fa3 _)
 refine Qy 33 Tryz.func261 ?_;refine zaq (i:=i) (j:=i+1) (m:=l.length) rfl rfl rfl rfl θ θ hc1 θ ?_;refine zu (λhh=>absurd hh θ) (λ_=>?_);refine Qc zb ydd ?_;refine⟨0,i,rfl,rfl,Fae _,θ,.inl ⟨θ,?_⟩⟩;by_cases hc:i+1<cap
 ·refine⟨i+1,l.length,rfl,rfl,θ,hc1,.inl ⟨hc,⟨⟨.inr ⟨_,_,rfl,rfl,Vb (ie:=ti140) (n:=i) (m:=l.length-(i+1)) (xs:=(rws zl (l.drop (i+1))).flatten) rfl ho (by rw[Fac,qc ve];exact hc2) θ (by have:=SrcOK.obj (P:=Tryz.prog) (k:=6) (m:=l.length-(i+1)) (o:=0+(i+1)*6) (cp:=cap-(i+1)) ho (by rw[Fac,qc ve];omega) (by rw[Fa9,fe ve θ];exact yf4 _);rw[Fa9,fe ve θ]at this;rw[Fa9];exact this) ⟨by show(i+(l.length-(i+1)))*48<=_;omega,θ⟩ (λ_=>⟨Tv,?_⟩) (λhh=>θ)⟩⟩,Tv⟩⟩⟩;rw[show zq ((rws zl l).flatten++L) (i*ti140.size) (rws zl (l.drop (i+1))).flatten=(rws zl (l.eraseIdx i)).flatten++(zl l[l.length-1]++L)from eo ve hi L];have hel:=ep hi;have ho2:(N.sO b (.cells ((rws zl (l.eraseIdx i)).flatten++(zl l[l.length-1]++L)))).obj b=some (.cells ((rws zl (l.eraseIdx i)).flatten++(zl l[l.length-1]++L))):=zd _ _ _;generalize N.sO b _=N2 at ho2⊢;refine Qbb ⟨i+(l.length-(i+1)),l.length,rfl,rfl,θ,hc1,.inl ⟨θ,gp (ie:=ti140) (b:=b) (off:=0+(i+(l.length-(i+1)))*ti140.size) (l:=(rws zl (l.eraseIdx i)).flatten++(zl l[l.length-1]++L)) rfl rfl rfl rfl rfl rfl rfl θ ho2 (by rw[Fac,qc ve,hel,Fac,ve];show 0+(i+(l.length-(i+1)))*6+6<=_;omega) ψ ?_⟩⟩;have e3:zq ((rws zl (l.eraseIdx i)).flatten++(zl l[l.length-1]++L)) (0+(i+(l.length-(i+1)))*ti140.size) (ti140.zero.map AV.s)=(rws zl (l.eraseIdx i)).flatten++(Vk++L):=by
   have h1:(rws zl (l.eraseIdx i)).flatten.length=0+(i+(l.length-(i+1)))*ti140.size:=by rw[qc ve,hel];show _=0+(i+(l.length-(i+1)))*6;omega
   rw[wu h1,Fas];rfl
  rw[e3];have e4:i+(l.length-(i+1))=(l.eraseIdx i).length:=θ;refine ret (h _ _ (.inl (.inr ⟨b,cap,Vk++L,by rw[<-e4];rfl,zd _ _ _,θ,by rw[Fac];show cap*6<=_*6+(6+L.length);omega,hc3⟩)))
 ·refine⟨i+1,l.length,rfl,rfl,θ,hc1,.inr ⟨θ,?_⟩⟩;have e1:l.drop (i+1)=[]:=Fc5 θ;have hsp:=eo ve hi L;rw[e1]at hsp;have hsp:zq ((rws zl l).flatten++L) (i*6) []=(rws zl (l.eraseIdx i)).flatten++(zl l[l.length-1]++L):=hsp;have hsrc:SrcOK Tryz.prog N 6 0 (.s (.slice (some ⟨b,0,none⟩) 0 0)) []:=by
   have:=SrcOK.obj (P:=Tryz.prog) (k:=6) (m:=0) (o:=0) (cp:=0) ho θ (λy hy=>by simp at hy);simpa using this
  refine⟨⟨.inr ⟨_,_,rfl,rfl,Vb (ie:=ti140) (n:=i) (m:=0) (xs:=[]) rfl ho (by rw[Fac,qc ve];exact hc2) θ hsrc ⟨by show(i+(0))*48<=_;omega,θ⟩ (λ_=>⟨Tv,?_⟩) (λhh=>θ)⟩⟩,Tv⟩;rw[show zq ((rws zl l).flatten++L) (i*ti140.size) []=(rws zl (l.eraseIdx i)).flatten++(zl l[l.length-1]++L)from hsp];have hel:=ep hi;have ho2:(N.sO b (.cells ((rws zl (l.eraseIdx i)).flatten++(zl l[l.length-1]++L)))).obj b=some (.cells ((rws zl (l.eraseIdx i)).flatten++(zl l[l.length-1]++L))):=zd _ _ _;generalize N.sO b _=N2 at ho2⊢;refine Qbb ⟨i+(0),l.length,rfl,rfl,θ,hc1,.inl ⟨θ,gp (ie:=ti140) (b:=b) (off:=0+(i+(0))*ti140.size) (l:=(rws zl (l.eraseIdx i)).flatten++(zl l[l.length-1]++L)) rfl rfl rfl rfl rfl rfl rfl θ ho2 (by rw[Fac,qc ve,hel,Fac,ve];show 0+(i+(0))*6+6<=_;omega) ψ ?_⟩⟩;have e3:zq ((rws zl (l.eraseIdx i)).flatten++(zl l[l.length-1]++L)) (0+(i+(0))*ti140.size) (ti140.zero.map AV.s)=(rws zl (l.eraseIdx i)).flatten++(Vk++L):=by
   have h1:(rws zl (l.eraseIdx i)).flatten.length=0+(i+(0))*ti140.size:=by rw[qc ve,hel];show _=0+(i+(0))*6;omega
   rw[wu h1,Fas];rfl
  rw[e3];have e4:i+(0)=(l.eraseIdx i).length:=θ;refine ret (h _ _ (.inl (.inr ⟨b,cap,Vk++L,by rw[<-e4];rfl,zd _ _ _,θ,by rw[Fac];show cap*6<=_*6+(6+L.length);omega,hc3⟩)))
end Go.Proofs
