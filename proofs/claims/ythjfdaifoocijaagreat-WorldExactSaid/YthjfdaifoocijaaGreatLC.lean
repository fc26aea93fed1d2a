/- Ground of laws of thronglaw25: contracts and plain lemmas; no condition beyond the row's own. -/
import Derived.Test.YthjfdaifoocijaaGreatLB
set_option linter.unusedSimpArgs false
set_option linter.unusedVariables false
set_option linter.defProp false
namespace Go.Proofs
open Go Go.V
set_option maxRecDepth 20000
set_option maxHeartbeats 4000000
def Qbm{p:Prop}(h:p:=by repeat(first|exact Tv|refine⟨rfl,?_⟩|refine⟨⟨i,rfl,za _ (zn hlt) rfl⟩,?_⟩)):p:=h
def zfd{G NT NB NU:Store}{w:Wld}{vT vB vU:AV}(ho:OwnQ G w vT vB vU NT NB NU)(hw:w.fits)(hn:∀u∈w.U,u.pos.ok)(hs:w.G.T.length<=1000000/\w.B.length<=1000000/\w.U.length<=1000000)(room:Int)(R:Ja)
  (hbad:¬(ya w/\1<=room/\room<=4096)->∀S:Store,(∀b x,G.obj b=some x->S.obj b=some x)->R (.tup [.s (.pointer none),int 1]) S)
  (hok:ya w->1<=room/\room<=4096->∀eb S,EngR eb room 0 w S->zk S G.objs0->R (.tup [ptr eb,int 0]) (S.un G.objs0)):Jb 25 [.agg (jf w vT vB vU),int room] G R:=by
 obtain⟨rT,rB,rU⟩:=Ic ho;obtain⟨aT,kT,e1,_⟩:=rT.form;obtain⟨aB,kB,e2,_⟩:=rB.form;obtain⟨aU,kU,e3,_⟩:=rU.form;by_cases hr:1<=room/\room<=4096;rotate_left
 ·subst e1 e2 e3;refine Qa (c:=cfg 25 [24] []) zb Tryz.func25 ?_;exact yi2 room hr _ _ (ret (hbad (λh=>hr h.2) G λb x h=>h))
 have key:Jb 25 [.agg (jf w vT vB vU),int room] G λr S=>(¬ya w/\r=.tup [.s (.pointer none),int 1]/\∃N,zk N G/\S=N.un G)∨
   (ya w/\∃X N eb fb uT uB uU MT MB MU,OwnQ X w uT uB uU MT MB MU/\zk X (N.un G)/\zk N G/\¬X.has eb/\¬(N.un G).has eb/\FldAny fb room ((0:Nat):Int) N/\r=.tup [ptr eb,int 0]/\S=(X.un (N.un G)).sO eb (.cells (jf w uT uB uU++[ptr fb]))):=by
  subst e1 e2 e3;refine Qa (c:=cfg 25 [24] []) zb Tryz.func25 ?_;have hnew:=ACalls.frame (Dd G) (zbx room hr (λr S=>∃fb,r=.tup [ptr fb,int 0]/\FldAny fb room 0 S) λN fb h=>⟨fb,rfl,h⟩) (R':=λr S=>∃fb N,r=.tup [ptr fb,int 0]/\FldAny fb room 0 N/\zk N G/\S=N.un G) λr a ⟨fb,h1,h2⟩ hd=>⟨fb,a,h1,h2,hd,rfl⟩;rw[xr]at hnew;refine hnew.imp ?_;rintro _ _ ⟨fb,N,rfl,hF,hNG,rfl⟩;have hmay:∀R:AV->Store->Prop,(∀b:Bool,(b=true↔ya w)->R (V.bool b) (N.un G))->Jb 40 [.agg (jf w (.s (.slice aT w.G.T.length kT)) (.s (.slice aB w.B.length kB)) (.s (.slice aU w.U.length kU)))] (N.un G) R:=λR h=>by rw[un_comm hNG];refine ACalls.frame (Dc hNG) (yf6 ho hw hn (λr S=>∃b:Bool,(b=true↔ya w)/\r=V.bool b/\S=G) λb hb=>⟨b,hb,rfl,rfl⟩) ?_;rintro r a ⟨b,hb,rfl,rfl⟩ _;rw[<-un_comm hNG];exact h b hb
  refine hmay _ λz hz=>ye (zh (λc1=>?_) λc1=>?_);rotate_left
  ·exact ret (.inl ⟨λhh=>θg,rfl,N,hNG,rfl⟩)
  have hown:∀R:AV->Store->Prop,(∀X uT uB uU MT MB MU,OwnQ X w uT uB uU MT MB MU->zk X (N.un G)->R (.agg (jf w uT uB uU)) (X.un (N.un G)))->Jb 65 [.agg (jf w (.s (.slice aT w.G.T.length kT)) (.s (.slice aB w.B.length kB)) (.s (.slice aU w.U.length kU)))] (N.un G) R:=λR h=>by rw[un_comm hNG];refine ACalls.frame (Dc hNG) (yeg ho hs (λr S=>∃X uT uB uU MT MB MU,OwnQ X w uT uB uU MT MB MU/\zk X G/\r=.agg (jf w uT uB uU)/\S=X.un G) λX uT uB uU MT MB MU h1 h2=>⟨X,uT,uB,uU,MT,MB,MU,h1,h2,rfl,rfl⟩) ?_;rintro r a ⟨X,uT,uB,uU,MT,MB,MU,h1,h2,rfl,rfl⟩ hd;have hXN:zk X N:=λi h3 h4=>hd i (un_has.2 (.inl h3)) h4;rw[Kl,<-un_comm hNG];exact h X uT uB uU MT MB MU h1 λi h3 h4=>(un_has.1 h4).elim (hXN i h3) (h2 i h3)
  refine hown _ λX uT uB uU MT MB MU hX hd=>?_;obtain⟨qT,qB,qU⟩:=Ic hX;obtain⟨_,_,f1,_⟩:=qT.form;obtain⟨_,_,f2,_⟩:=qB.form;obtain⟨_,_,f3,_⟩:=qU.form;subst f1 f2 f3;intro eb heb;have heb:=fresh_iff.1 heb;exact ret (.inr ⟨hz.1 c1,X,N,eb,fb,_,_,_,MT,MB,MU,hX,hd,hNG,λh=>heb (un_has.2 (.inl h)),λh=>heb (un_has.2 (.inr h)),hF,rfl,rfl⟩)
 refine key.frozenEng ?_;rintro r S (⟨h1,rfl,N,hNG,rfl⟩|⟨hm,X,N,eb,fb,uT,uB,uU,MT,MB,MU,hX,hd,hNG,h1,h2,hF,rfl,rfl⟩)
 ·exact .inl ⟨(N.un G).objs0,hbad (λh=>h1 h.1) _ λb x h=>zg h,λb x h=>h,λb=>rfl⟩
 ·refine .inr ⟨_,X,N.un G,eb,jf w uT uB uU,zp w,_,hd,h1,h2,rfl,rfl,?_,λOth M W sto=>⟨λx hx=>Kv hX sto hx,λx hx=>qv hx⟩⟩;have hN2:¬N.objs0.has eb:=λh=>h2 (un_has.2 (.inl (h.elim .inl λh=>absurd rfl h)));have hG2:¬G.objs0.has eb:=λh=>h2 (un_has.2 (.inr (h.elim .inl λh=>absurd rfl h)));have e:(N.un G).objs0.sO eb (.cells (zp w++[ptr fb]))=(N.objs0.sO eb (.cells (Bp w fb))).un G.objs0:=by
   rw[<-Al hG2];rfl
  have:=hok hm hr eb (N.objs0.sO eb (.cells (Bp w fb))) ⟨_,fb,rfl,hN2,hF.objs0⟩ (λi h3 h4=>by
   rcases has_setObj_iff.1 h3 with rfl|h3
   ·exact hG2 h4
   ·exact hNG i (h3.elim .inl λh=>absurd rfl h) (h4.elim .inl λh=>absurd rfl h))
  rw[<-e]at this;exact this
def yed{S NT NB NU:Store}{w:Wld}{vT vB vU:AV}(h:OwnQ S w vT vB vU NT NB NU):OwnQ S.objs0 w vT vB vU NT.objs0 NB.objs0 NU.objs0:=by
 have hh:∀{N:Store} {b},N.objs0.has b->N.has b:=λh=>h.elim .inl λh=>absurd rfl h;refine⟨by rw[h.e];rfl,h.rT,h.rB,h.rU,λi h1 h2=>h.dB i (hh h1) (hh h2),λi h1 h2=>h.dU i (hh h1) ?_⟩;rcases un_has.1 h2 with h2|h2
 ·exact un_has.2 (.inl (hh h2))
 ·exact un_has.2 (.inr (hh h2))
section
variable {eb:Nat} {room:Int} {k:Nat} {w:Wld} {S G:Store}
def yjy(hE:EngR eb room k w S)(hd:zk S G)(hp:playW w)(R:Ja)(h:∀X vT vB vU NT NB NU,OwnQ X w vT vB vU NT NB NU->zk X (S.un G)->R (.agg (jf w vT vB vU)) (X.un (S.un G))):Jb 35 [ptr eb] (S.un G) R:=by have hs:=hp.sizes;obtain⟨N,fb,rfl,hn,hF⟩:=hE.out;refine Qy 8 Tryz.func35 ?_;refine zoo (yg hd (zd _ _ _)) ?_;have hown:=ACalls.frame (Dd ((N.sO eb (.cells (Bp w fb))).un G)) (Oq w θ θ θ (λr S=>∃vT vB vU NT NB NU,OwnQ S w vT vB vU NT NB NU/\r=.agg (jf w vT vB vU)) λS vT vB vU NT NB NU h=>⟨vT,vB,vU,NT,NB,NU,h,rfl⟩) (R':=λr S=>∃X vT vB vU NT NB NU,OwnQ X w vT vB vU NT NB NU/\zk X ((N.sO eb (.cells (Bp w fb))).un G)/\r=.agg (jf w vT vB vU)/\S=X.un ((N.sO eb (.cells (Bp w fb))).un G)) λr a ⟨vT,vB,vU,NT,NB,NU,h1,h2⟩ hd=>⟨a,vT,vB,vU,NT,NB,NU,h1,hd,h2,rfl⟩;rw[xr]at hown;refine hown.imp ?_;rintro _ _ ⟨X,vT,vB,vU,NT,NB,NU,ho,hd2,rfl,rfl⟩;obtain⟨qT,qB,qU⟩:=Ic ho;obtain⟨_,_,f1,_⟩:=qT.form;obtain⟨_,_,f2,_⟩:=qB.form;obtain⟨_,_,f3,_⟩:=qU.form;subst f1 f2 f3;exact ret (h X _ _ _ NT NB NU ho hd2)
end
def zfb(a:Ask25)(hn:∀u∈a.S.W.U,u.pos.ok)(hfs:∀c∈a.S.L,c.sized):Jb 5 [.agg (Lm a)] Store.empty λr _=>r=V.bool true:=by
 refine Qy 134 Tryz.func5 ?_;refine yho a.S hfs _ _ λz hz=>?_;refine zh (λc1=>ret rfl) λc1=>?_;obtain⟨hgr,hL,hcf⟩:=hz c1;have hsz:a.S.W.G.T.length<=1000000/\a.S.W.B.length<=1000000/\a.S.W.U.length<=1000000:=by unfold O9 at hgr;omega
 have hfit:a.S.W.fits:=⟨by unfold Gnd.fits;omega,θ,θ⟩
 clear hz hgr c1;refine ylv a.S.W hsz.1 hsz.2.1 hsz.2.2 _ λG vT vB vU NT NB NU ho=>?_;obtain⟨qT,qB,qU⟩:=Ic ho;obtain⟨_,_,f1,_⟩:=qT.form;obtain⟨_,_,f2,_⟩:=qB.form;obtain⟨_,_,f3,_⟩:=qU.form;subst f1 f2 f3;have hoO:=yed ho;refine zfd ho hfit hn hsz a.room _ (λhno S hS=>?_) λhm hr eb S hE hd=>?_
 ·refine ACalls.weak (st0:=G.objs0) ⟨hS,λb x hx=>γ⟩ (bt hoO hsz.1 hsz.2.1 hsz.2.2 _ (Ga a.S.W hfit hn _ _ λzm hzm=>?_));cases zm with
  |false=>
   exact Ha _ _ _ (Ha _ _ _ (Ws _ _ (ret rfl)))
  |true=>
   refine rp a.room _ _ λzr hzr=>?_;have ezr:zr=false:=by
    cases zr with
    |false=>rfl
    |true=>exact absurd ⟨hzm.1 rfl,hzr.1 rfl⟩ hno
   subst ezr;exact Ha _ _ _ (Ha _ _ _ (Ws _ _ (ret rfl)))
 have hp:playW a.S.W:=⟨hm,hn⟩
 rw[un_comm hd];refine ACalls.frame (Dc hd) (bt hoO hsz.1 hsz.2.1 hsz.2.2 (λr S=>r=.tup []/\S=Store.empty) ⟨rfl,rfl⟩) ?_;rintro _ _ ⟨rfl,rfl⟩ _;rw[xr];refine Ga a.S.W hfit hn _ _ λzm hzm=>?_;have ezm:zm=true:=hzm.2 hm;subst ezm;refine rp a.room _ _ λzr hzr=>?_;have ezr:zr=true:=hzr.2 hr;subst ezr;refine Ha _ _ _ (ylt a.S.W hfit _ _ (zt6 a θ _ _ λn hn1 hn4=>?_));have hT:∀cs∈Kn a.S.L n,cs.length<=4/\∀c∈cs,c.fits:=λcs hcs=>⟨by have:=(nk hcs).1;omega,λc hc=>hcf c ((nk hcs).2 c hc)⟩
 have hTl:=zgo a.S.L n;clear hzm hzr hoO qT qB qU ho hd;generalize Kn a.S.L n=T at*;generalize a.S.W=w0 at*
 refine AWp.loop (σ:=Nat×Wld×Nat×Store) ⟨λx=>[(4,.av (ptr eb)),(7,.bx 7 0),(8,.av (lst 1 Pg T)),(9,.av (int (x.1:Nat)))],λx=>[(7,zp x.2.1)],
  λx st'=>x.1<=8/\st'=x.2.2.2.un Store.empty/\zk x.2.2.2 Store.empty/\EngR eb a.room x.2.2.1 x.2.1 x.2.2.2/\x.2.2.1<=x.1*4096/\playW x.2.1,λx=>8-x.1⟩ zb ?_ ?_
 ·exact⟨(0,w0,0,S),Tv,⟨Fad _,rfl,Dc (M7 S),hE,Fad _,hp⟩,Qbn,⟨rfl,Tv⟩⟩
 clear hE hp;rintro⟨i,w,k,S⟩ st' ⟨hi,rfl,hd,hE,hk,hp⟩;dsimp only at hi hd hE hk hp⊢;have hfw:=(xh hp.1).fits;refine bcd (λc1=>?_) λc1=>?_;rotate_left
 ·exact Qc zb zvr ⟨yjz hE hd hp _ ⟨Qe,⟨zcp w hfw _ _ ⟨Tv,⟨Ws _ _ ⟨Tv,Qbr (ret rfl)⟩,Tv⟩⟩,Tv⟩⟩,Tv⟩
 have hlt:i<T.length:=by rw[zl]at c1;omega
 obtain⟨hcl,hcf1⟩:=hT _ (Faa hlt);refine⟨i,rfl,za _ (zn hlt) (yl2 T[i] θ hcf1 _ _ (yj1 hE hd hp T[i] hcf1 θ θ _ λk2 S2 hk2 hE2 hd2=>?_))⟩;have hst:=λ(R:Ja) (h:R (.tup [.agg (zp (Ig w T[i])),lst 1 zx (Ih w T[i]),int (Ky w)]) (S2.un Store.empty))=>yaq w hp T[i] hcf1 θ (S2.un Store.empty) R h;have hp2:=yd4 hp T[i];have hl2:=yex w T[i];have hf2:=(xh hp2.1).fits;have hs2:=hp2.sizes;generalize Ig w T[i]=W2 at*;generalize Ih w T[i]=t2 at*;generalize Ky w=e2 at*;refine Qc zb zvs ⟨i,rfl,za _ (zn hlt) ⟨hst _ ⟨Tv,⟨⟨Qbm,⟨⟨Tv,⟨⟨Tv,⟨⟨Tv,?_⟩,Tv⟩⟩,Tv⟩⟩,Tv⟩⟩,Tv⟩⟩,⟨⟨Qbm,⟨hst _ ⟨Tv,⟨⟨Tv,⟨⟨Tv,⟨⟨Tv,?_⟩,Tv⟩⟩,Tv⟩⟩,Tv⟩⟩,Tv⟩⟩,Tv⟩⟩⟩
 all_goals
  refine Ha _ _ _ (qd (λc2=>absurd rfl c2) λ_=>ykc _ θ _ _ ⟨i,rfl,za _ (zn hlt) (ykd T[i] T[i] θ hcf1 _ _ ?_)⟩);rw[decide_eq_true rfl];refine yjy hE2 hd2 hp2 _ λX uT uB uU MT MB MU hX hdX=>?_;obtain⟨qT,qB,qU⟩:=Ic hX;obtain⟨_,_,f1,_⟩:=qT.form;obtain⟨_,_,f2,_⟩:=qB.form;obtain⟨_,_,f3,_⟩:=qU.form;subst f1 f2 f3;refine ACalls.frame hdX (yj4 hX hf2 (λr S=>r=V.bool true/\S=X) ⟨rfl,rfl⟩) ?_;rintro _ _ ⟨rfl,rfl⟩ _;refine ACalls.frame hdX (bt hX hs2.1 hs2.2.1 hs2.2.2 (λr S=>r=.tup []/\S=Store.empty) ⟨rfl,rfl⟩) ?_;rintro _ _ ⟨rfl,rfl⟩ _;rw[xr];exact Qd ⟨(i+1,W2,k2,S2),(show 8-(i+1)<8-i by omega),⟨ζ,rfl,hd2,hE2,ζ,hp2⟩,Qbn,⟨rfl,Tv⟩⟩
def zfa(a:Ask25)(hn:∀u∈a.S.W.U,u.pos.ok)(hfs:∀c∈a.S.L,c.sized)(st:Store)(R:Ja)(h:R (V.bool true) st):Jb 5 [.agg (Lm a)] st R:=
 Fl (zfb a hn hfs) st R λr hr=>hr▸h
end Go.Proofs
