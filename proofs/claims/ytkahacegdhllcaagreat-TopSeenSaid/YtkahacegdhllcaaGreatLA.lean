/- Ground of laws of throngtop: contracts and plain lemmas; no condition beyond the row's own. -/
import Derived.Lib.Overlaps
import Derived.Shelf.Spec.SlicesInsert
import Derived.Test.YtkahacegdhllcaaGreatKZ
import Derived.Test.YtkahacegdhllcaaGreatKP
set_option linter.unusedSimpArgs false
set_option linter.unusedVariables false
set_option linter.defProp false
namespace Go.Proofs
open Go Go.V
set_option maxRecDepth 20000
set_option maxHeartbeats 4000000
section
variable {v:AV} {i:Nat} {w:Wld}
def yrd{N S:Store}(hd:zj N S){l:List Bld}(hv:RowsQ 6 zl N v l)(hl:l.length<=256)(hi:i<l.length)(R:Ja)(h:R (lst 6 zl (l.eraseIdx i)) S):Jb 261 [v,int (i:Nat),int ((i:Int)+1)] (N.un S) R:=by
 have h1:Jb 261 [v,int (i:Nat),int ((i:Int)+1)] N λr S2=>r=lst 6 zl (l.eraseIdx i)/\S2=Store.empty:=
  ACalls.frozenTo (yre hv hl hi (λr N'=>RowsQ 6 zl N' r (l.eraseIdx i)) λv' N' h=>h) λr N' hr=>
   ⟨_,Store.empty,⟨rfl,rfl⟩,(λb x hx=>γ),(λb x hx=>γ),λOth M w v' sto hx=>by refine(zgo hr sto hx).mono λb o hT=>?_;exact⟨hT.1,hT.2.resolve_right λhh=>hh rfl⟩⟩
 exact ACalls.frame hd h1 λr S2 ⟨e,e2⟩ hd2=>by subst e e2;rw[vo];exact h
def yqy(b:Bld)(pb xw s:Nat)(c:Cmd)(fv:AV)(st:Store)(hb:st.obj pb=some (.cells [ptr xw]))(hx:st.obj xw=some (.cells (wkC s c fv)))(R:Ja)(h:R (V.bool (decide (b.id=c.N))) st):Jb 260 ([.agg (zl b)]++[ptr pb]) st R:=by
 rw[<-zkk]at h;refine Qy 12 Tryz.func260 ?_;refine Qc zb yde (Qbc (Qbc ?_));refine⟨⟨?_,?_⟩,Tv⟩
 ·repeat(first|exact Tv|refine⟨rfl,?_⟩|refine⟨za (o:=st.obj pb) _ hb rfl,?_⟩|refine⟨za (o:=st.obj xw) _ hx rfl,?_⟩)
 exact ret h
def yq6{c:Cmd}(h:Hx w.B c.N=some i)(hi:i<w.B.length):drE w c=if w.B[i].owner=c.P then 0 else 6:=by unfold drE;rw[h];simp[Fao,hi]
def ypu{l:List Bld}{id:Int}(h:Hx l id=some i):∃hi:i<l.length,l[i].id=id:=by unfold Hx at h;rw[Fba]at h;have⟨h1,h2,_⟩:=h;exact⟨h1,of_decide_eq_true h2⟩
def zl4{F G:Store}{xw s p:Nat}{L:List Ent}{o0 o1 o2:AV}{c:Cmd}{fv:AV}(hW:Work F G xw s p w v L o0 o1 o2 c fv)(hm:MayF w)(R:Ja)
  (h:∀S',drE w c≠0->R (int (drE w c)) S') (h0:drE w c=0->∀S',Fl S' xw s c fv (drW w c)->R (int 0) S'):Jb 232 [ptr xw] (F.un (svS G s w v o0 o1 o2 p)) R:=by
 have hx:=hW.x (F':=F) (q0:=o0) (q1:=o1) (q2:=o2);have hs:=hW.s (F':=F) (q0:=o0) (q1:=o1) (q2:=o2);have hr:=hW.r (F':=F) (q0:=o0) (q1:=o1) (q2:=o2);have hxs:=hW.ne;have hos:=hW.os;have hB:=hm.hB;have⟨oa,cap,e,hget⟩:=hW.S.hu.form;subst e;generalize F.un (svS G s w _ o0 o1 o2 p)=S at hx hs hr⊢;refine Qa (c:=cfg 56 [1] []) zb Tryz.func232 ?_;intro pb hpb;have hbx:xw≠pb:=λe=>by subst e;have:=hpb.1;rw[hx]at this;cases this
 have hbs:s≠pb:=λe=>by subst e;have:=hpb.1;rw[hs]at this;cases this
 have hb:(S.sO pb (.cells [ptr xw])).obj pb=some (.cells [ptr xw]):=zd _ _ _;have hx:=(zf (st:=S) (x:=.cells [ptr xw]) hbx).trans hx;have hs:=(zf (st:=S) (x:=.cells [ptr xw]) hbs).trans hs;have hr:=hr.set (Lz hr hpb.1) (.cells [ptr xw]);refine za (o:=(S.sO pb (.cells [ptr xw])).obj pb) _ hb (za (o:=(S.sO pb (.cells [ptr xw])).obj xw) _ hx (za (o:=(S.sO pb (.cells [ptr xw])).obj s) _ hs (zke w.B θ _ _ (λb=>decide (b.id=c.N)) _ (λb _ R h=>yqy b pb xw s c fv _ hb hx R h) _ ?_)));have hfb:(w.B.findIdx? λb=>decide (b.id=c.N))=Hx w.B c.N:=rfl;rw[hfb];refine bcd (λc1=>?_) (λc1=>?_)
 ·cases hf:Hx w.B c.N with
  |some i=>rw[hf]at c1;exact absurd c1 (by show¬((i:Int)<0);omega)
  |none=>
   have he:drE w c=3:=by unfold drE;rw[hf]
   have:=h (S.sO pb (.cells [ptr xw])) θy;rw[he]at this;exact ret this
 cases hf:Hx w.B c.N with
 |none=>rw[hf]at c1;exact absurd (show(-1:Int)<0 by decide) c1
 |some i=>
 have⟨hi,hid⟩:=ypu hf;have he:=yq6 hf hi;refine Qc zb yd2 (za (o:=(S.sO pb (.cells [ptr xw])).obj pb) _ hb (za (o:=(S.sO pb (.cells [ptr xw])).obj xw) _ hx (za (o:=(S.sO pb (.cells [ptr xw])).obj s) _ hs ⟨i,rfl,za _ (zp hi) (za (o:=(S.sO pb (.cells [ptr xw])).obj pb) _ hb (za (o:=(S.sO pb (.cells [ptr xw])).obj xw) _ hx ⟨⟨?_,?_⟩,Tv⟩))⟩)))
 ·repeat(first|exact Tv|refine⟨rfl,?_⟩|refine⟨za (o:=(S.sO pb (.cells [ptr xw])).obj pb) _ hb rfl,?_⟩|refine⟨za (o:=(S.sO pb (.cells [ptr xw])).obj xw) _ hx rfl,?_⟩|refine⟨za (o:=(S.sO pb (.cells [ptr xw])).obj s) _ hs rfl,?_⟩|refine⟨⟨i,rfl,za _ (zp hi) rfl⟩,?_⟩)
 refine qi (λc2=>?_) (λc2=>?_)
 ·rw[if_neg c2]at he;have:=h (S.sO pb (.cells [ptr xw])) θy;rw[he]at this;exact ret this
 rw[if_pos c2]at he;have hW2:drW w c={w with B:=w.B.eraseIdx i}:=by unfold drW;rw[hf]
 refine Qc zb yd1 (za (o:=(S.sO pb (.cells [ptr xw])).obj pb) _ hb (za (o:=(S.sO pb (.cells [ptr xw])).obj xw) _ hx (za (o:=(S.sO pb (.cells [ptr xw])).obj pb) _ hb (za (o:=(S.sO pb (.cells [ptr xw])).obj xw) _ hx (za (o:=(S.sO pb (.cells [ptr xw])).obj s) _ hs (ze (by show -9223372036854775808<=((i:Nat):Int)+1/\((i:Nat):Int)+1<=9223372036854775807;omega) ⟨fw w.B θ _ _ (λv2 N hv2 hd=>⟨?_,?_⟩),Tv⟩))))))
 ·have hb2:(N.un (S.sO pb (.cells [ptr xw]))).obj pb=_:=zg hb;have hx2:(N.un (S.sO pb (.cells [ptr xw]))).obj xw=_:=zg hx;have hs2:(N.un (S.sO pb (.cells [ptr xw]))).obj s=_:=zg hs;repeat(first|exact Tv|refine⟨rfl,?_⟩|refine⟨za (o:=(N.un (S.sO pb (.cells [ptr xw]))).obj pb) _ hb2 rfl,?_⟩|refine⟨za (o:=(N.un (S.sO pb (.cells [ptr xw]))).obj xw) _ hx2 rfl,?_⟩|refine⟨za (o:=(N.un (S.sO pb (.cells [ptr xw]))).obj s) _ hs2 rfl,?_⟩)
 refine⟨yrd hd hv2 θ hi _ ⟨?_,?_⟩,Tv⟩
 ·repeat(first|exact Tv|refine⟨rfl,?_⟩|refine⟨za (o:=(S.sO pb (.cells [ptr xw])).obj pb) _ hb rfl,?_⟩|refine⟨za (o:=(S.sO pb (.cells [ptr xw])).obj xw) _ hx rfl,?_⟩|refine⟨za (o:=(S.sO pb (.cells [ptr xw])).obj s) _ hs rfl,?_⟩)
 refine⟨za _ rfl (xf rfl (q9 (v:=lst 6 zl (w.B.eraseIdx i)) rfl rfl rfl rfl (Ch (i:=ti44) (v:=lst 6 zl (w.B.eraseIdx i)) (b:=s) (o:=6) (l:=svC w (.s (.slice oa w.U.length cap)) o0 o1 o2 p) rfl rfl rfl hs (show 6+1<=12 by decide) ?_))),Tv⟩;have hs3:((S.sO pb (.cells [ptr xw])).sO s (.cells (zq (svC w (.s (.slice oa w.U.length cap)) o0 o1 o2 p) 6 [lst 6 zl (w.B.eraseIdx i)]))).obj s=some (.cells (svC {w with B:=w.B.eraseIdx i} (.s (.slice oa w.U.length cap)) o0 o1 o2 p)):=zd _ _ _;have hx3:=(zf (st:=S.sO pb (.cells [ptr xw])) (x:=.cells (zq (svC w (.s (.slice oa w.U.length cap)) o0 o1 o2 p) 6 [lst 6 zl (w.B.eraseIdx i)])) hxs).trans hx;have hr3:=hr.set hos (.cells (zq (svC w (.s (.slice oa w.U.length cap)) o0 o1 o2 p) 6 [lst 6 zl (w.B.eraseIdx i)]));have hb3:=(zf (st:=S.sO pb (.cells [ptr xw])) (x:=.cells (zq (svC w (.s (.slice oa w.U.length cap)) o0 o1 o2 p) 6 [lst 6 zl (w.B.eraseIdx i)])) (Ne.symm hbs)).trans hb;exact⟨Tv,ret (h0 he _ (by rw[hW2];exact⟨_,o0,o1,o2,p,hx3,hs3,hr3⟩))⟩
end
end Go.Proofs
namespace Go.Proofs
open Go Go.V
set_option maxRecDepth 20000
set_option maxHeartbeats 4000000
def smallW(w:Wld):Prop:=(∀u∈w.U,u.pos.ok)/\w.G.T.length<=1000000/\w.B.length<=1000000/\w.U.length<=1000000
theorem smallW.fits{w:Wld}(h:smallW w):w.fits:=⟨by unfold Gnd.fits;have:=h.2.1;omega,by have:=h.2.2.1;omega,by have:=h.2.2.2;omega⟩
def yq8{F G N:Store}{xw s p fb:Nat}{room:Int}{kc:Nat}{w:Wld}{v:AV}{L:List Ent}{o0 o1 o2:AV}{c:Cmd}(hW:Work F G xw s p w v L o0 o1 o2 c (jx fb))(hdN:zj (F.un (svS G s w v o0 o1 o2 p)) N)(hFN:FldAny fb room (kc:Nat) N)(hm:z8 w)(hn:∀u∈w.U,u.pos.ok)(hc:vq c)(hp:c.P<=w.players)(R:Ja)
  (h:∀S' N',aE w c≠0->zj S' N'->FldAny fb room (kc:Nat) N'->R (int (aE w c)) (S'.un N')) (h0:aE w c=0->∀S' N',Fl S' xw s c (jx fb) (aW w c)->zj S' N'->FldAny fb room (kc:Nat) N'->R (int 0) (S'.un N')):
  Jb 205 [ptr xw] ((F.un (svS G s w v o0 o1 o2 p)).un N) R:=by
 have hx:=yf hdN (hW.x (F':=F) (q0:=o0) (q1:=o1) (q2:=o2));refine Qy 34 Tryz.func205 ?_;refine za (o:=((F.un (svS G s w v o0 o1 o2 p)).un N).obj xw) _ hx ?_
 have lift:∀{f:FuncId} {E:Int} {W:Wld},(∀R:AV->Store->Prop,(∀S',E≠0->R (int E) S')->(E=0->∀S',Fl S' xw s c (jx fb) W->R (int 0) S')->Jb f [ptr xw] (F.un (svS G s w v o0 o1 o2 p)) R)->E=aE w c->W=aW w c->
   ∀K:AV->Store->Prop,(∀S' N',aE w c≠0->zj S' N'->FldAny fb room (kc:Nat) N'->K (int (aE w c)) (S'.un N'))->(aE w c=0->∀S' N',Fl S' xw s c (jx fb) (aW w c)->zj S' N'->FldAny fb room (kc:Nat) N'->K (int 0) (S'.un N'))->
   Jb f [ptr xw] ((F.un (svS G s w v o0 o1 o2 p)).un N) K:=λ{f E W} hf e1 e2 K k1 k2=>by
  subst e1 e2;refine ACalls.frame hdN (hf (λr S=>(aE w c≠0/\r=int (aE w c))\/(aE w c=0/\r=int 0/\Fl S xw s c (jx fb) (aW w c))) (λS' he=>.inl ⟨he,rfl⟩) (λhe S' hd=>.inr ⟨he,rfl,hd⟩)) ?_;rintro r S (⟨he,rfl⟩|⟨he,rfl,hd⟩) hd'
  ·exact k1 S N he hd' hFN
  ·exact k2 he S N hd hd' hFN
 rcases rj hc with q|q|q|q|q|q|q
 ·have⟨e1,e2⟩:=a1 (w:=w) q;refine zu (λ_=>lift (λR a b=>zlm hW (ww hm) hn (cmd_ok ((Cmd.ok1 q).1 hc.1).2) R a b) e1.symm e2.symm _ (λS' N' he hd hF=>ret (h S' N' he hd hF)) (λhe S' N' h1 h2 h3=>ret (h0 he S' N' h1 h2 h3))) (λc1=>absurd q c1)
 ·have⟨e1,e2⟩:=a2 (w:=w) q;refine zu (λc1=>absurd (q.symm.trans c1) ψ) (λ_=>zu (λ_=>?_) (λc1=>absurd q c1));rw[e1]at h h0;rw[e2]at h0;refine zly hW hdN hFN (ww hm) hn ((Cmd.ok2 q).1 hc.1).1.1.2 _ (λS' N' he hd hF=>ret (h S' N' he hd hF)) (λhe S' N' h1 h2 h3=>ret (h0 he S' N' h1 h2 h3))
 ·have⟨e1,e2⟩:=a3 (w:=w) q;refine zu (λc1=>absurd (q.symm.trans c1) ψ) (λ_=>zu (λc1=>absurd (q.symm.trans c1) ψ) (λ_=>zu (λ_=>lift (λR a b=>zll hW (ww hm) hn ((Cmd.ok3 q).1 hc.1).1.2 R a b) e1.symm e2.symm _ (λS' N' he hd hF=>ret (h S' N' he hd hF)) (λhe S' N' h1 h2 h3=>ret (h0 he S' N' h1 h2 h3))) (λc1=>absurd q c1)))
 ·have⟨e1,e2⟩:=a4 (w:=w) q;refine zu (λc1=>absurd (q.symm.trans c1) ψ) (λ_=>zu (λc1=>absurd (q.symm.trans c1) ψ) (λ_=>zu (λc1=>absurd (q.symm.trans c1) ψ) (λ_=>zu (λ_=>lift (λR a b=>zl5 hW hm hn hc q R a b) e1.symm e2.symm _ (λS' N' he hd hF=>ret (h S' N' he hd hF)) (λhe S' N' h1 h2 h3=>ret (h0 he S' N' h1 h2 h3))) (λc1=>absurd q c1))))
 ·have⟨e1,e2⟩:=a5 (w:=w) q;refine zu (λc1=>absurd (q.symm.trans c1) ψ) (λ_=>zu (λc1=>absurd (q.symm.trans c1) ψ) (λ_=>zu (λc1=>absurd (q.symm.trans c1) ψ) (λ_=>zu (λc1=>absurd (q.symm.trans c1) ψ) (λ_=>zu (λ_=>lift (λR a b=>zl4 hW (ww hm) R a b) e1.symm e2.symm _ (λS' N' he hd hF=>ret (h S' N' he hd hF)) (λhe S' N' h1 h2 h3=>ret (h0 he S' N' h1 h2 h3))) (λc1=>absurd q c1)))))
 ·have⟨e1,e2⟩:=a6 (w:=w) q;refine zu (λc1=>absurd (q.symm.trans c1) ψ) (λ_=>zu (λc1=>absurd (q.symm.trans c1) ψ) (λ_=>zu (λc1=>absurd (q.symm.trans c1) ψ) (λ_=>zu (λc1=>absurd (q.symm.trans c1) ψ) (λ_=>zu (λc1=>absurd (q.symm.trans c1) ψ) (λ_=>zu (λ_=>lift (λR a b=>zl0 hW hm hn ((Cmd.ok6 q).1 hc.1).1.1.2 ((Cmd.ok6 q).1 hc.1).2.1 R a b) e1.symm e2.symm _ (λS' N' he hd hF=>ret (h S' N' he hd hF)) (λhe S' N' h1 h2 h3=>ret (h0 he S' N' h1 h2 h3))) (λc1=>absurd q c1))))))
 ·have⟨e1,e2⟩:=a7 (w:=w) q;refine zu (λc1=>absurd (q.symm.trans c1) ψ) (λ_=>zu (λc1=>absurd (q.symm.trans c1) ψ) (λ_=>zu (λc1=>absurd (q.symm.trans c1) ψ) (λ_=>zu (λc1=>absurd (q.symm.trans c1) ψ) (λ_=>zu (λc1=>absurd (q.symm.trans c1) ψ) (λ_=>zu (λc1=>absurd (q.symm.trans c1) ψ) (λ_=>?_))))));rw[e1]at h h0;rw[e2]at h0;refine zlk hW hdN hFN (ww hm) hn _ (λS' N' he hd hF=>ret (h S' N' he hd hF)) (λhe S' N' h1 h2 h3=>ret (h0 he S' N' h1 h2 h3))
def yrb{N:Store}{fb:Nat}{room:Int}{kc:Nat}(hF:FldAny fb room (kc:Nat) N)(w:Wld)(hm:z8 w)(hn:∀u∈w.U,u.pos.ok)(c:Cmd)(hc:c.fits):Jb 174 [.agg (zr w),.agg (zz c),jx fb] N λr S=>
  (r=.tup [.agg (zr (doW aE aW w c)),int (doE aE w c)]/\FldAny fb room (kc:Nat) S)\/∃X N' v,RowsQ 10 zm X v (doW aE aW w c).U/\zj X N'/\FldAny fb room (kc:Nat) N'/\S=X.un N'/\r=.tup [.agg (jh (doW aE aW w c) v),int (doE aE w c)]:=by
 have mf:=ww hm;have hU:=mf.hU;have hB:=mf.hB;have hT:=mf.hT;refine Qa (c:=cfg 41 [27] []) zb Tryz.func174 ?_;refine zjm c hc _ _ (λzc hzc=>?_);have bad:(¬vq c\/w.players<c.P)->∀X:Prop,((.tup [.agg (zr w),int 1]:AV)=.tup [.agg (zr (doW aE aW w c)),int (doE aE w c)]/\FldAny fb room (kc:Nat) N)\/X:=λhb X=>by have he:=ziy (E:=aE) (w:=w) (c:=c) (.inr hb);rw[tj θy,he];exact .inl ⟨rfl,hF⟩
 refine yj (zk (λc1=>?_) (λc1=>?_));rotate_left
 ·exact ret (bad (.inl λhh=>by have:=hzc.2 hh;rw[this]at c1;cases c1) _)
 refine bcd (λc2=>?_) (λc2=>?_)
 ·exact ret (bad (.inr θ) _)
 clear bad;have hcp:=hzc.1 c1;have he:=zix (E:=aE) hm hcp (show c.P<=w.players by omega);have hown:∀R:AV->Store->Prop,(∀v X,RowsQ 10 zm X v w.U->zj X N->R (.agg (jh w v)) (X.un N))->Jb 65 [.agg (zr w)] N R:=λR h=>by rw[<-vo N];refine ACalls.frame (Kw _) (ze1 w θ θ θ (λr S=>∃v,RowsQ 10 zm S v w.U/\r=.agg (jh w v)) (λv N h=>⟨v,h,rfl⟩)) ?_;rintro r a' ⟨v,h1,rfl⟩ hd';exact h v a' h1 hd'
 refine Qc zb yel ⟨hown _ (λv X hv hXN=>⟨Qe,?_⟩),Tv⟩
 have hopen:=ACalls.frame hXN (ze5 w v X hv θ hn (λr S=>∃F s p L o0 o1 o2,r=ptr s/\S=F.un (svS X s w v o0 o1 o2 p)/\Fresh X s/\StandR F X s p w v L o0 o1 o2/\L.length<=w.U.length/\(yl w.U->∀e,e∈L↔∃u∈w.U,u.inn=0/\e=(u.id,u.pos))) (λF s p L o0 o1 o2 h1 h2 h3 h4=>⟨F,s,p,L,o0,o1,o2,rfl,rfl,h1,h2,h3,h4⟩))
  (R':=λr S=>∃F s p L o0 o1 o2,r=ptr s/\S=(F.un (svS X s w v o0 o1 o2 p)).un N/\zj (F.un (svS X s w v o0 o1 o2 p)) N/\StandR F X s p w v L o0 o1 o2/\L.length<=w.U.length/\(yl w.U->∀e,e∈L↔∃u∈w.U,u.inn=0/\e=(u.id,u.pos)))
  (λr a' ⟨F,s,p,L,o0,o1,o2,h1,h2,h3,h4,h5,h6⟩ hd=>⟨F,s,p,L,o0,o1,o2,h1,by rw[h2],h2▸hd,h4,h5,h6⟩)
 refine⟨hopen.imp ?_,Tv⟩;rintro _ _ ⟨F,s,p,L,o0,o1,o2,rfl,rfl,hdN,hS,hLl,hL⟩;refine⟨Qe,⟨λxw hxw=>⟨Qe,Qbb ?_⟩,Tv⟩⟩;have hxw:=fresh_iff.1 hxw;have hx1:¬F.has xw/\¬(svS X s w v o0 o1 o2 p).has xw:=⟨λh=>hxw (un_has.2 (.inl (un_has.2 (.inl h)))),λh=>hxw (un_has.2 (.inl (un_has.2 (.inr h))))⟩
 have hxN:¬N.has xw:=λh=>hxw (un_has.2 (.inr h));have hne:xw≠s:=λe=>hx1.2 (svS_has.2 (.inl e));have hxX:¬X.has xw:=λh=>hx1.2 (svS_has.2 (.inr h));have e0:((F.un (svS X s w v o0 o1 o2 p)).un N).sO xw (.cells (wkC s c (jx fb)))=(F.un (svS (X.sO xw (.cells (wkC s c (jx fb)))) s w v o0 o1 o2 p)).un N:=by rw[Fs hxN,zy];unfold svS;rw[Ic hne]
 have hdW:zj (F.un (svS (X.sO xw (.cells (wkC s c (jx fb)))) s w v o0 o1 o2 p)) N:=λi h1 h2=>by
  rcases un_has.1 h1 with h1|h1
  ·exact hdN i (un_has.2 (.inl h1)) h2
  ·rcases svS_has.1 h1 with h1|h1
   ·exact hdN i (un_has.2 (.inr (svS_has.2 (.inl h1)))) h2
   ·rcases has_setObj_iff.1 h1 with rfl|h1
    ·exact hxN h2
    ·exact hdN i (un_has.2 (.inr (svS_has.2 (.inr h1)))) h2
 have offx:=Lz hv (vj hxX).1;have offs:=Lz hv hS.hs;have hW:Work F (X.sO xw (.cells (wkC s c (jx fb)))) xw s p w v L o0 o1 o2 c (jx fb):=by
  refine⟨⟨hS.hc,λi h1 h2=>?_,?_,hv.set offx _,hS.h0,hS.h1,hS.h2⟩,zd _ _ _,offx,offs,hLl,hL mf.hr⟩
  ·rcases svS_has.1 h2 with rfl|h2
   ·exact hS.hd _ h1 (svS_has.2 (.inl rfl))
   ·rcases has_setObj_iff.1 h2 with rfl|h2
    ·exact hx1.1 h1
    ·exact hS.hd _ h1 (svS_has.2 (.inr h2))
  ·rw[zf (Ne.symm hne)];exact hS.hs
 refine cast (congrArg (λst=>Jb 205 [ptr xw] st _) e0.symm) (yq8 hW hdW hF hm hn hcp θ _ (λS' N' hE hd' hF'=>?_) (λhE S' N' hdn hd' hF'=>?_))
 ·refine qi (λ_=>?_) (λh=>absurd h hE);rw[he,tj (by rw[he];exact hE)];exact⟨_,N',Tt,⟨λb x hx=>zg hx,λb x hx=>Ft hx⟩,.inl ⟨rfl,hF'⟩⟩
 ·have⟨v2,q0,q1,q2,p2,g1,g2,g3⟩:=hdn;have⟨oa,cap,e2,_⟩:=g3.form;subst e2;refine za (o:=(S'.un N').obj xw) _ (yf hd' g1) (za (o:=(S'.un N').obj s) _ (yf hd' g2) ?_);rw[he,ziv (he.trans hE),hE];exact ret (.inr ⟨S',N',_,g3,hd',hF',rfl,rfl⟩)
def fg:DoC:=λfb room k N w c hF hw hc R h=>by
 refine(yrb hF w hw.1 hw.2 c hc).frozenTo ?_;rintro r S (⟨rfl,hF'⟩|⟨X,N',v,hX,hd,hF',rfl,rfl⟩)
 ·exact⟨_,S.objs,h _ hF'.objs,λb x hx=>hx,λb x hx=>γ,λOth M W x sto hx=>hx.mono λb o hT=>hT.1⟩
 ·refine⟨_,N'.objs,h _ hF'.objs,λb x hx=>zg hx,λb x hx=>γ,λOth M W x sto hx=>?_⟩;have sX:StoreOK X Oth M W:=sto.weaken ⟨λb y hy=>yf hd hy,λb y hy=>K7 hd hy⟩;have ht:∀b,((X.un N').obj b=none\/N'.objs.obj b≠none)->X.obj b=none:=λb hb=>by
   rcases hb with hb|hb
   ·exact(Oc hb).1
   ·cases hx:X.obj b with
    |none=>rfl
    |some y=>exact absurd (vj (hd b (j6 hx))).1 hb
  exact VRel.mono (λb o h=>⟨h.1,ht b h.2⟩) (hx.tup2 (λx hx=>za5 hX sX hx) (λx hx=>qv hx))
end Go.Proofs
namespace Go.Proofs
open Go Go.V
set_option maxRecDepth 20000
set_option maxHeartbeats 4000000
def yp1{eb:Nat}{room:Int}{k:Nat}{w:Wld}{S:Store}(hE:EngR eb room k w S)(ht:w.tick=1099511627776)(l:List Cmd)(R:Ja)(h:R (.tup [nil,int 10]) S):Jb 136 [ptr eb,lst 10 zz l] S R:=by obtain⟨N,fb,rfl,hn,hF⟩:=hE.out;refine Qy 74 Tryz.func136 ?_;exact za (o:=(N.sO eb _).obj eb) _ (zd _ _ _) (zu (λc1=>ret h) (λc1=>absurd ht c1))
section
variable {eb:Nat} {room:Int} {k:Nat} {w:Wld} {S G:Store}
def za4(hp:playW w)(hr:1<=room/\room<=4096)(R:Ja)(h:∀eb S,EngR eb room 0 w S->zj S G->R (.tup [ptr eb,int 0]) (S.un G)):Jb 29 [.agg (zr w),int room] G R:=by
 have hs:=hp.sizes;have:=ACalls.frame (Kw G) (zlv w (ww hp.1).fits hp.2 hs.1 hs.2.1 hs.2.2 room hr (λr S=>∃eb,r=.tup [ptr eb,int 0]/\EngR eb room 0 w S) (λh=>absurd hp.1 h) (λ_ eb S h=>⟨eb,rfl,h⟩)) (R':=R) λr a ⟨eb,h1,h2⟩ hd=>by subst h1;exact h eb a h2 hd
 rwa [vo]at this
end
def ygv(l:List Inp)(hl:l.length<=1000000000)(hf:∀i∈l,i.fits)(st:Store)(R:Ja)(h:∀b:Bool,(b=true↔Di l)->R (V.bool b) st):Jb 95 [lst 3 zh l] st R:=by
 refine Qy 30 Tryz.func95 ?_;have no:¬Di l->R (V.bool false) st:=λhn=>h false θg
 refine AWp.loop (σ:=Nat) ⟨λi=>[(0,.av (lst 3 zh l)),(5,.av (lst 3 zh l)),(6,.av (int (l.length:Nat))),(7,.av (int (i:Nat)))],λ_=>[],
  λi st'=>st'=st/\i<=l.length/\∀j,(hj:j<l.length)->j<i->Bd l[j]/\(0<j->qy (l[j-1]'θ) l[j]),λi=>l.length-i⟩ zb ?_ ?_
 ·refine⟨0,Tv,⟨rfl,Fae _,λj _ hj=>absurd hj (Fa3 j)⟩,⟨Tq,Tq,?_,Tq,Tv⟩,Tv⟩;rw[<-zi (f:=zh) l];exact Tq
 rintro i st' ⟨rfl,hi,hall⟩;refine bcd (λc1=>?_) (λc1=>?_);rotate_left
 ·have:i=l.length:=θ;subst this;exact ret (h true (by simp only[true_iff];exact λj hj=>hall j hj hj))
 have hlt:i<l.length:=θ;have go:(Bd l[i]/\(0<i->qy (l[i-1]'θ) l[i]))->∀j,(hj:j<l.length)->j<i+1->Bd l[j]/\(0<j->qy (l[j-1]'θ) l[j]):=λhh j hj hji=>by
  by_cases e:j=i
  ·subst e;exact hh
  ·exact hall j hj θ
 refine⟨i,rfl,za _ (zp hlt) (Qc zb ybm ⟨lj l[i] (hf _ (Faa hlt)) _ _ (λz hz=>⟨Tv,yj (zk (λc2=>?_) (λc2=>?_))⟩),Tv⟩)⟩;rotate_left
 ·exact Qbb (ret (no λhh=>by have:=hz.2 (hh i hlt).1;rw[this]at c2;cases c2))
 have hip:=hz.1 c2;refine bcd (λc3=>?_) (λc3=>?_)
 ·refine Qd ?_;have hi1:i-1<l.length:=θ;refine⟨i-1,θ,za _ (zp hi1) ⟨p8 _ _ _ _ ⟨Tv,bcd (λc4=>?_) (λc4=>?_)⟩,Tv⟩⟩
  ·exact ret (no λhh=>by have:=ordI_neg.2 ((hh i hlt).2 θ);omega)
  ·exact Qd ⟨i+1,ϑ,⟨rfl,θ,go ⟨hip,λ_=>ordI_neg.1 θ⟩⟩,Qax,Tv⟩
 ·exact Qbb (Qd ⟨i+1,ϑ,⟨rfl,θ,go ⟨hip,λhh=>absurd hh θ⟩⟩,Qax,Tv⟩)
def zew{α:Type}{k:Nat}{f:α->List AV}{F:FuncId}{l:List α}(hf:∀x,(f x).length=k)(hs:∀x,∀y∈f x,∃u,y=AV.s u/\xe u=true)
  (hraw:∀R:AV->Store->Prop,(∀v N,RowsQ k f N v l->R v N)->Jb F [lst k f l] Store.empty R) (st:Store) (R:Ja) (h:R (lst k f l) st):Jb F [lst k f l] st R:=by
 refine Dn (Q:=λr=>r=lst k f l) ((hraw (λr S=>RowsQ k f S r l) λv N hv=>hv).frozen ?_) st R λr hr=>hr▸h;exact λr S hr=>⟨_,rfl,λOth M w v sto hx=>hr.borrow hf hs sto hx⟩
def Mn(n:Int):(ym n).length=1:=rfl
def ry(n:Int):∀y∈ym n,∃u,y=AV.s u/\xe u=true:=λy hy=>by rw[Fbl.1 hy];exact⟨_,rfl,rfl⟩
def ug(l:List Int)(hl:l.length<=1000000000)(st:Store)(R:Ja)(h:R (yc l) st):Jb 165 [yc l] st R:=by
 refine zew Mj Sb (λR h=>Qy 8 Tryz.func165 ?_) st R h;intro b hb;cases b with
 |true=>
  have:l=[]:=θt;subst this;exact ret (h (.s (.slice none 0 0)) Store.empty (.inl (.inl ⟨rfl,rfl⟩)))
 |false=>
  exact⟨ψ,M4 (ie:=ti2) rfl Mj ψ hl (λv N hv hd=>ret (h v _ θ2))⟩
def ysn(l:List Int)(hl:l.length<=1000000000)(st:Store)(R:Ja)(h:R (lst 1 ym l) st):Jb 168 [lst 1 ym l] st R:=by
 refine zew Mn ry (λR h=>Qy 8 Tryz.func168 ?_) st R h;intro b hb;cases b with
 |true=>
  have:l=[]:=θt;subst this;exact ret (h (.s (.slice none 0 0)) Store.empty (.inl (.inl ⟨rfl,rfl⟩)))
 |false=>
  exact⟨ψ,M4 (ie:=ti12) rfl Mn ψ hl (λv N hv hd=>ret (h v _ θ2))⟩
def zi4(c:Cmd)(hc:c.U.length<=1000000000)(st:Store)(R:Ja)(h:R (.agg (zz c)) st):Jb 128 [.agg (zz c)] st R:=by refine Qy 8 Tryz.func128 ?_;exact ug c.U hc _ _ (ret h)
def small(l:List Cmd):Prop:=l.length<=1000000/\∀c∈l,c.U.length<=1000000
def zi5(l:List Cmd)(hl:small l)(st:Store)(R:Ja)(h:R (lst 10 zz l) st):Jb 101 [lst 10 zz l] st R:=by
 have hlen:=hl.1;refine Qy 18 Tryz.func101 ?_;refine AWp.loop (σ:=Nat×AV) ⟨λx=>[(2,.av x.2),(5,.av (lst 10 zz l)),(6,.av (int (l.length:Nat))),(7,.av (int (x.1:Nat)))],λ_=>[],λx st'=>x.1<=l.length/\App 10 st x.2 (rws zz (l.take x.1)) st',λx=>l.length-x.1⟩ zb ?_ ?_
 ·refine⟨(0,_),Tv,⟨Fae _,App.start 10 st⟩,⟨Tq,Tq,?_,Tq,Tv⟩,Tv⟩;rw[<-zi (f:=zz) l];exact Tq
 rintro⟨i,v⟩ st' ⟨hi,ha⟩;dsimp only at hi ha⊢;refine bcd (λc1=>?_) (λc1=>?_);rotate_left
 ·have:i=l.length:=θ;subst this;rw[Faj]at ha;exact⟨_,st,ha.le,ha.has,h⟩
 have hlt:i<l.length:=θ;refine⟨i,rfl,za _ (zp hlt) (zi4 l[i] (by have:=hl.2 _ (Faa hlt);omega) _ _ ⟨ψ,jy (ie:=ti136) (rows':=[zz l[i]]) ha ?_ ?_ ⟨?_,?_⟩ (λv2 st2 ha2=>?_)⟩)⟩
 ·rfl
 ·rfl
 ·simp[zi,ti136];omega
 ·simp[zi];omega
 refine Qd ⟨(i+1,v2),ϑ,⟨hlt,?_⟩,Qax,Tv⟩;dsimp only;rw[<-Rf hlt];exact ha2
def I6(i:Inp)(hi:small i.C)(st:Store)(R:Ja)(h:R (.agg (zh i)) st):Jb 132 [.agg (zh i)] st R:=by refine Qy 8 Tryz.func132 ?_;exact zi5 i.C hi _ _ (ret h)
def Dy(l:List Inp):Prop:=l.length<=1000000/\∀i∈l,small i.C
def li(l:List Inp)(hl:Dy l)(st:Store)(R:Ja)(h:R (lst 3 zh l) st):Jb 167 [lst 3 zh l] st R:=by
 have hlen:=hl.1;refine Qy 18 Tryz.func167 ?_;refine AWp.loop (σ:=Nat×AV) ⟨λx=>[(2,.av x.2),(5,.av (lst 3 zh l)),(6,.av (int (l.length:Nat))),(7,.av (int (x.1:Nat)))],λ_=>[],λx st'=>x.1<=l.length/\App 3 st x.2 (rws zh (l.take x.1)) st',λx=>l.length-x.1⟩ zb ?_ ?_
 ·refine⟨(0,_),Tv,⟨Fae _,App.start 3 st⟩,⟨Tq,Tq,?_,Tq,Tv⟩,Tv⟩;rw[<-zi (f:=zh) l];exact Tq
 rintro⟨i,v⟩ st' ⟨hi,ha⟩;dsimp only at hi ha⊢;refine bcd (λc1=>?_) (λc1=>?_);rotate_left
 ·have:i=l.length:=θ;subst this;rw[Faj]at ha;exact⟨_,st,ha.le,ha.has,h⟩
 have hlt:i<l.length:=θ;refine⟨i,rfl,za _ (zp hlt) (I6 l[i] (hl.2 _ (Faa hlt)) _ _ ⟨ψ,jy (ie:=ti123) (rows':=[zh l[i]]) ha ?_ ?_ ⟨?_,?_⟩ (λv2 st2 ha2=>?_)⟩)⟩
 ·rfl
 ·rfl
 ·simp[zi,ti123];omega
 ·simp[zi];omega
 refine Qd ⟨(i+1,v2),ϑ,⟨hlt,?_⟩,Qax,Tv⟩;dsimp only;rw[<-Rf hlt];exact ha2
def Aq(l:List Inp):List Cmd:=l.flatMap (·.C)
def zz3(l:List Inp)(hl:Dy l)(hn:(Aq l).length<=1000000)(st:Store)(R:Ja)(h:R (lst 10 zz (Aq l)) st):Jb 173 [lst 3 zh l] st R:=by
 have hlen:=hl.1;refine Qy 18 Tryz.func173 ?_;refine AWp.loop (σ:=Nat×AV) ⟨λx=>[(2,.av x.2),(5,.av (lst 3 zh l)),(6,.av (int (l.length:Nat))),(7,.av (int (x.1:Nat)))],λ_=>[],λx st'=>x.1<=l.length/\App 10 st x.2 (rws zz (Aq (l.take x.1))) st',λx=>l.length-x.1⟩ zb ?_ ?_
 ·refine⟨(0,_),Tv,⟨Fae _,App.start 10 st⟩,⟨Tq,Tq,?_,Tq,Tv⟩,Tv⟩;rw[<-zi (f:=zh) l];exact Tq
 rintro⟨i,v⟩ st' ⟨hi,ha⟩;dsimp only at hi ha⊢;refine bcd (λc1=>?_) (λc1=>?_);rotate_left
 ·have:i=l.length:=θ;subst this;rw[Faj]at ha;exact⟨_,st,ha.le,ha.has,h⟩
 have hlt:i<l.length:=θ;have hstep:Aq (l.take (i+1))=Aq (l.take i)++l[i].C:=by unfold Aq;rw[Fad hlt,List.flatMap_append];simp
 have hle:(Aq (l.take (i+1))).length<=(Aq l).length:=by
  have:Aq l=Aq (l.take (i+1))++Aq (l.drop (i+1)):=by unfold Aq;rw[<-List.flatMap_append,Fbu]
  rw[this,Fac];omega
 rw[hstep,Fac]at hle;refine⟨i,rfl,za _ (zp hlt) (zi5 l[i].C (hl.2 _ (Faa hlt)) _ _ (jy (ie:=ti136) (rows':=rws zz l[i].C) ha ?_ ?_ ⟨?_,?_⟩ (λv2 st2 ha2=>?_)))⟩
 ·rfl
 ·rfl
 ·simp[zi,ti136];omega
 ·simp[zi];omega
 refine Qd ⟨(i+1,v2),ϑ,⟨hlt,?_⟩,Qax,Tv⟩;dsimp only;rw[hstep,<-Ke];exact ha2
def setTok_comm{st:Store}{p q:Nat}{x y:Option Nat}(h:q≠p):(st.sT p x).sT q y=(st.sT q y).sT p x:=by
 unfold Store.sT
 congr 1
 funext i
 by_cases hp:i=p
 ·subst hp;simp[y9 (Ne.symm h)]
 ·simp[y9 hp]
def zku{k1 k2:Nat}{st st1 st2:Store}{v1 v2:AV}{r1 r2:List (List AV)}(h1:App k1 st v1 r1 st1)(h2:App k2 st1 v2 r2 st2):∃s,App k2 st v2 r2 s/\App k1 s v1 r1 st2:=by
 rcases h1 with⟨rfl,rfl,rfl⟩|⟨rfl,rfl,rfl⟩|⟨n1,b1,f1,rfl,rfl⟩
 ·exact⟨st2,h2,.inl ⟨rfl,rfl,rfl⟩⟩
 ·exact⟨st2,h2,.inr (.inl ⟨rfl,rfl,rfl⟩)⟩
 ·rcases h2 with⟨rfl,rfl,rfl⟩|⟨rfl,rfl,rfl⟩|⟨n2,b2,f2,rfl,rfl⟩
  ·exact⟨st,.inl ⟨rfl,rfl,rfl⟩,.inr (.inr ⟨n1,b1,f1,rfl,rfl⟩)⟩
  ·exact⟨st,.inr (.inl ⟨rfl,rfl,rfl⟩),.inr (.inr ⟨n1,b1,f1,rfl,rfl⟩)⟩
  ·have hne:b2≠b1:=λe=>by
    have:=f2.2;rw[e,Kd]at this;cases this
   have f2':Fresh st b2:=⟨f2.1,by have:=f2.2;rwa [Rc hne]at this⟩
   refine⟨_,.inr (.inr ⟨n2,b2,f2',rfl,rfl⟩),.inr (.inr ⟨n1,b1,⟨f1.1,by rw[Rc (Ne.symm hne)];exact f1.2⟩,rfl,setTok_comm hne⟩)⟩
def ofT(t:Int)(l:List Inp):List Inp:=l.filter λi=>i.t==t
def Dk(t:Int)(l:List Inp):List Inp:=l.filter λi=> !(i.t==t)
def yjd{t:Int}{l:List Inp}{i:Nat}(h:i<l.length):ofT t (l.take (i+1))=(if l[i].t=t then ofT t (l.take i)++[l[i]]else ofT t (l.take i))/\Dk t (l.take (i+1))=(if l[i].t=t then Dk t (l.take i)else Dk t (l.take i)++[l[i]]):=by
 unfold ofT Dk;rw[Fad h,Fca,Fca];by_cases e:l[i].t=t
 ·rw[if_pos e,if_pos e];simp[List.filter,e]
 ·rw[if_neg e,if_neg e];have:(l[i].t==t)=false:=by simpa using e
  simp[List.filter,this]
def yjf(t:Int)(l:List Inp)(i:Nat):(ofT t (l.take i)).length<=l.length/\(Dk t (l.take i)).length<=l.length:=by have h1:=Fbv (λi:Inp=>i.t==t) (l.take i);have h2:=Fbv (λi:Inp=> !(i.t==t)) (l.take i);rw[Fai]at h1 h2;unfold ofT Dk;omega
def lg(l:List Inp)(hl:Dy l)(t:Int)(st:Store)(R:Ja)(h:R (.tup [lst 3 zh (ofT t l),lst 3 zh (Dk t l)]) st):Jb 172 [lst 3 zh l,int t] st R:=by
 have hlen:=hl.1;refine Qy 31 Tryz.func172 ?_
 refine AWp.loop (σ:=Nat×AV×AV×Store) ⟨λx=>[(1,.av (int t)),(4,.av x.2.1),(5,.av x.2.2.1),(8,.av (lst 3 zh l)),(9,.av (int (l.length:Nat))),(10,.av (int (x.1:Nat)))],λ_=>[],
  λx st'=>x.1<=l.length/\App 3 st x.2.1 (rws zh (ofT t (l.take x.1))) x.2.2.2/\App 3 x.2.2.2 x.2.2.1 (rws zh (Dk t (l.take x.1))) st',λx=>l.length-x.1⟩ zb ?_ ?_
 ·refine⟨(0,.s (.slice none 0 0),.s (.slice none 0 0),st),Tv,⟨Fae _,App.start 3 st,App.start 3 st⟩,⟨Tq,Tq,Tq,Tq,?_,Tq,Tv⟩,Tv⟩;rw[<-zi (f:=zh) l];exact Tq
 rintro⟨i,v1,v2,s1⟩ st' ⟨hi,ha1,ha2⟩;dsimp only at hi ha1 ha2⊢;refine bcd (λc1=>?_) (λc1=>?_);rotate_left
 ·have:i=l.length:=θ;subst this;rw[Faj]at ha1 ha2;exact⟨.tup [lst 3 zh (ofT t l),lst 3 zh (Dk t l)],st,AV.le_tupL ⟨ha1.le,ha2.le,Tv⟩,ha2.has.trans ha1.has,h⟩
 have hlt:i<l.length:=θ;have⟨q1,q2⟩:=yjd (t:=t) hlt;have⟨n1,n2⟩:=yjf t l i;refine⟨i,rfl,za _ (zp hlt) (zu (λc2=>?_) (λc2=>?_))⟩
 ·rw[if_pos c2]at q1 q2;refine I6 l[i] (hl.2 _ (Faa hlt)) _ _ ⟨ψ,?_⟩;have⟨s2,hb2,hb1⟩:=zku ha1 ha2;refine jy (ie:=ti123) (rows':=[zh l[i]]) hb1 ?_ ?_ ⟨?_,?_⟩ (λv3 st3 hb3=>?_)
  ·rfl
  ·rfl
  ·simp[zi,ti123];omega
  ·simp[zi];omega
  have⟨s3,hc1,hc2⟩:=zku hb2 hb3;refine Qd ⟨(i+1,v3,v2,s3),ϑ,⟨hlt,?_,?_⟩,Qax,Tv⟩
  ·dsimp only;rw[q1,<-Ke];exact hc1
  ·dsimp only;rw[q2];exact hc2
 ·rw[if_neg c2]at q1 q2;refine I6 l[i] (hl.2 _ (Faa hlt)) _ _ ⟨ψ,jy (ie:=ti123) (rows':=[zh l[i]]) ha2 ?_ ?_ ⟨?_,?_⟩ (λv3 st3 hb3=>?_)⟩
  ·rfl
  ·rfl
  ·simp[zi,ti123];omega
  ·simp[zi];omega
  refine Qd ⟨(i+1,v1,v3,s1),ϑ,⟨hlt,?_,?_⟩,Qax,Tv⟩
  ·dsimp only;rw[q1];exact ha1
  ·dsimp only;rw[q2,<-Ke];exact hb3
def b8(l:List Int)(hl:l.length<=1000000000)(hne:0<l.length)(st:Store)(R:Ja)(h:R (int (yy l)) st):Jb 92 [yc l] st R:=by
 refine Qy 25 Tryz.func92 ?_;refine zk (λh1=>?_) (λh1=>?_)
 ·rw[zi]at h1;simp at h1;omega
 refine⟨0,rfl,za _ (zp hne) ?_⟩
 refine AWp.loop (σ:=Nat) ⟨λi=>[(0,.av (yc l)),(3,.av (int (yy (l.take i)))),(4,.av (int (i:Nat)))],λ_=>[],
  λi st'=>(1<=i/\i<=l.length)/\st'=st,λi=>l.length-i⟩ zb ?_ ?_
 ·refine⟨1,Tv,⟨⟨Fah _,hne⟩,rfl⟩,⟨Tq,?_,Tq,Tv⟩,Tv⟩;rw[ykk hne];exact Tq
 rintro i st' ⟨⟨hi1,hi⟩,rfl⟩;refine bcd (λc1=>?_) (λc1=>?_)
 ·have hlt:i<l.length:=by rw[zi]at c1;omega
  refine⟨i,rfl,za _ (zp hlt) (Qd ⟨i+1,ϑ,⟨⟨θ,hlt⟩,rfl⟩,⟨Tq,?_,Tq,Tv⟩,Tv⟩)⟩;show LV.le (.av (int (min2 (yy (l.take i)) l[i]))) (.av (int (yy (l.take (i+1)))));rw[min2_eq,yki hlt hi1];exact Tq
 ·have:i=l.length:=by rw[zi]at c1;omega
  subst this;have e:l.take l.length=l:=Faj;rw[<-e]at h;exact ret h
def yk8(l:List Int)(hl:l.length<=1000000000)(hne:0<l.length)(st:Store)(R:Ja)(h:R (int (F9 l)) st):Jb 93 [yc l] st R:=by
 refine Qy 25 Tryz.func93 ?_;refine zk (λh1=>?_) (λh1=>?_)
 ·rw[zi]at h1;simp at h1;omega
 refine⟨0,rfl,za _ (zp hne) ?_⟩
 refine AWp.loop (σ:=Nat) ⟨λi=>[(0,.av (yc l)),(3,.av (int (F9 (l.take i)))),(4,.av (int (i:Nat)))],λ_=>[],
  λi st'=>(1<=i/\i<=l.length)/\st'=st,λi=>l.length-i⟩ zb ?_ ?_
 ·refine⟨1,Tv,⟨⟨Fah _,hne⟩,rfl⟩,⟨Tq,?_,Tq,Tv⟩,Tv⟩;rw[yk7 hne];exact Tq
 rintro i st' ⟨⟨hi1,hi⟩,rfl⟩;refine bcd (λc1=>?_) (λc1=>?_)
 ·have hlt:i<l.length:=by rw[zi]at c1;omega
  refine⟨i,rfl,za _ (zp hlt) (Qd ⟨i+1,ϑ,⟨⟨θ,hlt⟩,rfl⟩,⟨Tq,?_,Tq,Tv⟩,Tv⟩)⟩;show LV.le (.av (int (max2 (F9 (l.take i)) l[i]))) (.av (int (F9 (l.take (i+1)))));rw[max2_eq,yk6 hlt hi1];exact Tq
 ·have:i=l.length:=by rw[zi]at c1;omega
  subst this;have e:l.take l.length=l:=Faj;rw[<-e]at h;exact ret h
def zja(p:Per)(hp:Mw p)(l:List Int)(hl:l.length<=1000000000)(st:Store)(R:Ja)(h:∀b:Bool,(b=true↔countsP p l)->R (V.bool b) st):Jb 91 [.agg (zo p),yc l] st R:=by
 have⟨⟨hp1,hp2⟩,⟨hi1,hi2⟩,⟨hd1,hd2⟩,ht1,ht2⟩:=hp;simp only[maxT]at ht2;have no:¬countsP p l->R (V.bool false) st:=λhn=>h false θg;refine Qy 46 Tryz.func91 ?_
 refine AWp.loop (σ:=Nat) ⟨λi=>[(1,.av (yc l)),(2,.bx 2 0),(7,.av (yc l)),(8,.av (int (l.length:Nat))),(9,.av (int (i:Nat)))],λ_=>[(2,zo p)],
  λi st'=>st'=st/\i<=l.length/\∀j,(hj:j<l.length)->j<i->p.delay-1<=l[j]/\l[j]<=p.turn+16/\l[j]<=maxT,λi=>l.length-i⟩ zb ?_ ?_
 ·refine⟨0,Tv,⟨rfl,Fae _,λj _ hj=>absurd hj (Fa3 j)⟩,⟨Tq,Tq,Tq,?_,Tq,Tv⟩,⟨rfl,Tv⟩⟩;rw[<-zi (f:=zn) l];exact Tq
 rintro i st' ⟨rfl,hi,hall⟩;refine bcd (λc1=>?_) (λc1=>?_);rotate_left
 ·have:i=l.length:=θ;subst this;refine Qc zb ybo (zu (λc2=>?_) (λc2=>?_));rotate_left
  ·rw[zi]at c2;exact Qbb (ret (no λhh=>c2 hh.2.1))
  rw[zi]at c2;refine Qd ?_;have hx:(p.id-1).toNat<l.length:=θ;have hx2:(((p.id-1).toNat:Nat):Int)=p.id-1:=θ;refine⟨(p.id-1).toNat,by rw[hx2],za _ (zp hx) (Qbb (ret (h _ ?_)))⟩;rw[beq_iff_eq];exact⟨λhh=>⟨λj hj=>hall j hj hj,c2,λ_=>hh⟩,λhh=>hh.2.2 hx⟩
 have hlt:i<l.length:=θ;refine⟨i,rfl,za _ (zp hlt) (Qd (bcd (λc2=>ret (no λhh=>by have:=(hh.1 i hlt).1;omega)) (λc2=>Qd (bcd (λc3=>ret (no λhh=>by have:=(hh.1 i hlt).2.1;omega)) (λc3=>bcd (λc4=>ret (no λhh=>by have:=(hh.1 i hlt).2.2;simp only[maxT]at this;omega)) (λc4=>Qd ⟨i+1,ϑ,⟨rfl,hlt,λj hj hji=>?_⟩,Qax,⟨rfl,Tv⟩⟩))))))⟩;by_cases e:j=i
 ·subst e;simp only[maxT];omega
 ·exact hall j hj θ
def ykg(p:Per)(hp:Mw p)(hs:p.delay-1<=p.said/\p.said<=maxT)(ha:countsP p p.acked)(hf:p.mine.length<=1000000000/\∀i∈p.mine,i.fits)(hk:p.acked.length<=1000000000)(st:Store)(R:Ja)(h:∀b:Bool,(b=true↔pm p)->R (V.bool b) st):Jb 94 [.agg (zo p)] st R:=by
 have⟨⟨hp1,hp2⟩,⟨hi1,hi2⟩,⟨hd1,hd2⟩,ht1,ht2⟩:=hp;simp only[maxT]at ht2 hs;have hne:0<p.acked.length:=θ8;have hmn:=ha.mem (R0 hne);have no:¬pm p->R (V.bool false) st:=λhn=>h false θg;refine Qy 48 Tryz.func94 ?_;refine Qc zb ybn ?_;refine⟨b8 p.acked hk hne _ _ ⟨Qe,Qd (qi (λc1=>?_) (λc1=>?_))⟩,Tv⟩
 ·rw[zi]at c1;exact ret (no λhh=>c1 hh.1)
 rw[zi]at c1;have hlen:=hf.1
 refine AWp.loop (σ:=Nat) ⟨λi=>[(1,.bx 1 0),(16,.av (lst 3 zh p.mine)),(17,.av (int (p.mine.length:Nat))),(18,.av (int (i:Nat)))],λ_=>[(1,zo p)],
  λi st'=>st'=st/\i<=p.mine.length/\∀j,(hj:j<p.mine.length)->j<i->Bd p.mine[j]/\p.mine[j].p=p.id/\p.mine[j].t=p.said-p.mine.length+1+j,λi=>p.mine.length-i⟩ zb ?_ ?_
 ·refine⟨0,Tv,⟨rfl,Fae _,λj _ hj=>absurd hj (Fa3 j)⟩,⟨Tq,Tq,?_,Tq,Tv⟩,⟨rfl,Tv⟩⟩;rw[<-zi (f:=zh) p.mine];exact Tq
 rintro i st' ⟨rfl,hi,hall⟩;refine bcd (λc2=>?_) (λc2=>?_);rotate_left
 ·have:i=p.mine.length:=θ;subst this;exact ret (h true (by simp only[true_iff];exact⟨c1,λj hj=>hall j hj hj⟩))
 have hlt:i<p.mine.length:=θ;refine⟨i,rfl,za _ (zp hlt) (lj p.mine[i] (hf.2 _ (Faa hlt)) _ _ (λz hz=>yj (zk (λc3=>?_) (λc3=>?_))))⟩;rotate_left
 ·exact ret (no λhh=>by have:=hz.2 (hh.2 i hlt).1;rw[this]at c3;cases c3)
 have hip:=hz.1 c3;refine qi (λc4=>ret (no λhh=>c4 (hh.2 i hlt).2.1)) (λc4=>?_);have hr:((rws zh p.mine).length:Int)=p.mine.length:=by rw[zi]
 refine Qd (Qd (Qd (qi (λc5=>ret (no λhh=>by have:=(hh.2 i hlt).2.2;omega)) (λc5=>Qd ⟨i+1,ϑ,⟨rfl,hlt,λj hj hji=>?_⟩,Qax,⟨rfl,Tv⟩⟩))));by_cases e:j=i
 ·subst e;exact⟨hip,c4,θ⟩
 ·exact hall j hj θ
def ymn(p:Per)(hp:Mw p)(ha:countsP p p.has)(hr:Di p.inputs)(hf:p.inputs.length<=1000000000)(st:Store)(R:Ja)(h:∀b:Bool,(b=true↔cz p)->R (V.bool b) st):Jb 96 [.agg (zo p)] st R:=by
 have⟨⟨hp1,hp2⟩,⟨hi1,hi2⟩,⟨hd1,hd2⟩,ht1,ht2⟩:=hp;simp only[maxT]at ht2;have no:¬cz p->R (V.bool false) st:=λhn=>h false θg;refine Qy 37 Tryz.func96 ?_
 refine AWp.loop (σ:=Nat) ⟨λi=>[(1,.bx 1 0),(6,.av (lst 3 zh p.inputs)),(7,.av (int (p.inputs.length:Nat))),(8,.av (int (i:Nat)))],λ_=>[(1,zo p)],
  λi st'=>st'=st/\i<=p.inputs.length/\∀j,(hj:j<p.inputs.length)->j<i->p.turn<=p.inputs[j].t/\p.inputs[j].p<=p.players/\∀h:(p.inputs[j].p-1).toNat<p.has.length,p.inputs[j].t<=p.has[(p.inputs[j].p-1).toNat],λi=>p.inputs.length-i⟩ zb ?_ ?_
 ·refine⟨0,Tv,⟨rfl,Fae _,λj _ hj=>absurd hj (Fa3 j)⟩,⟨Tq,Tq,?_,Tq,Tv⟩,⟨rfl,Tv⟩⟩;rw[<-zi (f:=zh) p.inputs];exact Tq
 rintro i st' ⟨rfl,hi,hall⟩;refine bcd (λc2=>?_) (λc2=>?_);rotate_left
 ·have:i=p.inputs.length:=θ;subst this;exact ret (h true (by simp only[true_iff];exact λj hj=>hall j hj hj))
 have hlt:i<p.inputs.length:=θ;refine⟨i,rfl,za _ (zp hlt) ?_⟩;have hip:=(hr i hlt).1.2.1;refine Qc zb ybl (bcd (λc3=>ret (no λhh=>by have:=(hh i hlt).1;omega)) (λc3=>bcd (λc4=>ret (no λhh=>by have:=(hh i hlt).2.1;omega)) (λc4=>Qd ?_)));have hln:=ha.2.1;have hx:(p.inputs[i].p-1).toNat<p.has.length:=θ;refine⟨(p.inputs[i].p-1).toNat,θ,za _ (zp hx) (bcd (λc5=>ret (no λhh=>by have:=(hh i hlt).2.2 hx;omega)) (λc5=>Qd ⟨i+1,ϑ,⟨rfl,hlt,λj hj hji=>?_⟩,Qax,⟨rfl,Tv⟩⟩))⟩;by_cases e:j=i
 ·subst e;exact⟨θ,θ,λ_=>θ⟩
 ·exact hall j hj θ
def Ii(p:Per)(hf:p.fits)(st:Store)(R:Ja)(h:∀b:Bool,(b=true↔qj p)->R (V.bool b) st):Jb 63 [.agg (zo p)] st R:=by
 have no:¬qj p->R (V.bool false) st:=λhn=>h false θg;have⟨hf1,hf2,hf3,hf4,hf5⟩:=hf;refine Qy 119 Tryz.func63 ?_;refine bcd (λc1=>ret (no λhh=>by have:=hh.1.1.1;omega)) (λc1=>bcd (λc2=>ret (no λhh=>by have:=hh.1.1.2;omega)) (λc2=>bcd (λc3=>ret (no λhh=>by have:=hh.1.2.1.1;omega)) (λc3=>bcd (λc4=>ret (no λhh=>by have:=hh.1.2.1.2;omega)) (λc4=>bcd (λc5=>ret (no λhh=>by have:=hh.1.2.2.1.1;omega)) (λc5=>bcd (λc6=>ret (no λhh=>by have:=hh.1.2.2.1.2;omega)) (λc6=>bcd (λc7=>ret (no λhh=>by have:=hh.1.2.2.2.1;omega)) (λc7=>bcd (λc8=>ret (no λhh=>by have:=hh.1.2.2.2.2;simp only[maxT]at this;omega)) (λc8=>?_))))))));have hb:Mw p:=⟨⟨θ,θ⟩,⟨θ,θ⟩,⟨θ,θ⟩,θ,by simp only[maxT];omega⟩
 refine Qd (bcd (λd1=>ret (no λhh=>by have:=hh.2.1.1;omega)) (λd1=>Qd (Qd (bcd (λd2=>ret (no λhh=>by have:=hh.2.1.2.1;omega)) (λd2=>bcd (λd3=>ret (no λhh=>by have:=hh.2.1.2.2;simp only[maxT]at this;omega)) (λd3=>zja p hb p.has hf3 _ _ (λz1 hz1=>yj (zk (λd4=>?_) (λd4=>?_)))))))));rotate_left
 ·exact ret (no λhh=>by have:=hz1.2 hh.2.2.1;rw[this]at d4;cases d4)
 have ha:=hz1.1 d4;refine zja p hb p.acked hf4 _ _ (λz2 hz2=>yj (zk (λd5=>?_) (λd5=>?_)));rotate_left
 ·exact ret (no λhh=>by have:=hz2.2 hh.2.2.2.1;rw[this]at d5;cases d5)
 have hk:=hz2.1 d5;have hl1:0<p.has.length:=θ8;have hl2:0<p.acked.length:=by have:=hk.2.1;omega
 refine Qc zb yb0 (Qd ⟨b8 p.has hf3 hl1 _ _ ⟨Qe,bcd (λe1=>?_) (λe1=>?_)⟩,Tv⟩)
 ·exact Qba (ret (no λhh=>by have:=hh.2.2.2.2.1;omega))
 refine⟨yk8 p.acked hf4 hl2 _ _ ⟨Qe,bcd (λe2=>ret (no λhh=>by have:=hh.2.2.2.2.2.1;omega)) (λe2=>?_)⟩,Tv⟩;have hrl:((rws ym p.hashes).length:Int)=p.hashes.length:=by rw[zi]
 refine bcd (λe3=>ret (no λhh=>by have:=hh.2.2.2.2.2.2.1;omega)) (λe3=>bcd (λe4=>ret (no λhh=>by have:=hh.2.2.2.2.2.2.2.1;omega)) (λe4=>ykg p hb ⟨θ,by simp only[maxT];omega⟩ hk hf1 hf4 _ _ (λz3 hz3=>zk (λe5=>?_) (λe5=>?_))));rotate_left
 ·exact ret (no λhh=>by have:=hz3.2 hh.2.2.2.2.2.2.2.2.1;rw[this]at e5;cases e5)
 refine ygv p.inputs hf2.1 hf2.2 _ _ (λz4 hz4=>zk (λe6=>?_) (λe6=>?_));rotate_left
 ·exact ret (no λhh=>by have:=hz4.2 hh.2.2.2.2.2.2.2.2.2.1;rw[this]at e6;cases e6)
 refine ymn p hb ha (hz4.1 e6) hf2.1 _ _ (λz5 hz5=>ret (h z5 ⟨λhh=>⟨hb,⟨θ,θ,by simp only[maxT];omega⟩,ha,hk,θ,θ,θ,θ,hz3.1 e5,hz4.1 e6,hz5.1 hh⟩,λhh=>hz5.2 hh.2.2.2.2.2.2.2.2.2.2⟩))
def Cr(p:Per):Prop:=p.turn<=yy p.has/\p.turn<maxT
instance(p:Per):Decidable (Cr p):=by unfold Cr;infer_instance
def ur(p:Per)(hne:0<p.has.length)(hl:p.has.length<=1000000000)(st:Store)(R:Ja)(h:∀b:Bool,(b=true↔Cr p)->R (V.bool b) st):Jb 171 [.agg (zo p)] st R:=by
 refine Qy 14 Tryz.func171 ?_;refine Qc zb yem ?_;refine⟨b8 p.has hl hne _ _ ⟨Qe,bcd (λc1=>?_) (λc1=>?_)⟩,Tv⟩;rotate_left
 ·exact Qba (ret (h false (by simp;exact λhh=>c1 hh.1)))
 refine Qba (ret (h _ ?_));rw[decide_eq_true_eq];exact⟨λhh=>⟨c1,hh⟩,λhh=>hh.2⟩
def yso(l:List Int)(hl:l.length<=1000000000)(R:Ja)(h:∀v N,RowsQ 1 ym N v l->R v N):Jb 168 [lst 1 ym l] Store.empty R:=by
 refine Qy 8 Tryz.func168 ?_;intro b hb;cases b with
 |true=>
  have:l=[]:=θt;subst this;exact ret (h (.s (.slice none 0 0)) Store.empty (.inl (.inl ⟨rfl,rfl⟩)))
 |false=>
  exact⟨ψ,M4 (ie:=ti12) rfl Mn ψ hl (λv N hv hd=>ret (h v _ θ2))⟩
def Lw(p:Per)(v:AV):List AV:=[int p.id,int p.players,int p.delay,int p.turn,int p.said,lst 3 zh p.mine,lst 3 zh p.inputs,yc p.has,yc p.acked,v,V.bool p.split]
def Ag(p:Per):Prop:=Dy p.mine/\Dy p.inputs/\p.has.length<=1000000000/\p.acked.length<=1000000000/\p.hashes.length<=1000000000
def zet(p:Per)(hs:Ag p)(R:Ja)(h:∀v N,RowsQ 1 ym N v p.hashes->R (.agg (Lw p v)) N):Jb 130 [.agg (zo p)] Store.empty R:=by have⟨h1,h2,h3,h4,h5⟩:=hs;refine Qy 24 Tryz.func130 ?_;refine Qc zb zdm ?_;refine⟨li p.mine h1 _ _ ⟨Qe,⟨li p.inputs h2 _ _ ⟨Qe,Qba (Qba (Qc zb zdl ⟨ug p.has h3 _ _ ⟨Qe,⟨ug p.acked h4 _ _ ⟨Qe,⟨yso p.hashes h5 _ (λv N hv=>?_),Tv⟩⟩,Tv⟩⟩,Tv⟩))⟩,Tv⟩⟩,Tv⟩;have hv2:=hv;obtain⟨oa,cap,rfl,_⟩:=hv2.form;exact⟨Qe,Qba (Qba (Qba (ret (h _ N hv))))⟩
def yje{t:Int}{l:List Inp}(h:Dy l):Dy (ofT t l)/\Dy (Dk t l):=by refine⟨⟨Fbx (Fbv _ _) h.1,λi hi=>h.2 i (Fbd.1 hi).1⟩,⟨Fbx (Fbv _ _) h.1,λi hi=>h.2 i (Fbd.1 hi).1⟩⟩
def nextC(p:Per):List Cmd:=Aq (ofT p.turn p.inputs)
def yhb(p:Per)(hf:p.fits)(hs:Ag p)(hn:(nextC p).length<=1000000)(st:Store)(R:Ja)
  (h1:¬qj p->R (.tup [.s (.slice none 0 0),V.bool false,int 1]) st) (h2:qj p->¬Cr p->R (.tup [.s (.slice none 0 0),V.bool false,int 0]) st)
  (h3:qj p->Cr p->R (.tup [lst 10 zz (nextC p),V.bool true,int 0]) st):Jb 135 [.agg (zo p)] st R:=by
 have⟨s1,s2,s3,s4,s5⟩:=hs;refine Qy 25 Tryz.func135 ?_;refine Ii p hf _ _ (λz hz=>?_);refine yj (zk (λc1=>?_) (λc1=>?_));rotate_left
 ·exact ret (h1 λhh=>ψw)
 have hp:=hz.1 c1;have hne:0<p.has.length:=ψx;refine ur p hne s3 _ _ (λz2 hz2=>yj (zk (λc2=>?_) (λc2=>?_)));rotate_left
 ·exact ret (h2 hp λhh=>by have:=hz2.2 hh;rw[this]at c2;cases c2)
 exact lg p.inputs s2 p.turn _ _ (zz3 (ofT p.turn p.inputs) (yje s2).1 hn _ _ (ret (h3 hp (hz2.1 c2))))
def qk(p:Per)(n:Int):Per:={p with inputs:=Dk p.turn p.inputs,turn:=p.turn+1,hashes:=if 16<p.hashes.length+1 then(p.hashes++[n]).drop 1 else p.hashes++[n]}
def yhj(p:Per)(n:Int)(hf:p.fits)(hs:Ag p)(hp:qj p)(hc:Cr p)(hh:p.hashes.length<16)(R:Ja)
  (h:∀v N,RowsQ 1 ym N v (p.hashes++[n])->R (.tup [.agg (Lw (qk p n) v),int 0]) N):Jb 138 [.agg (zo p),u64 n] Store.empty R:=by
 have⟨s1,s2,s3,s4,s5⟩:=hs;refine Qy 46 Tryz.func138 ?_;refine Ii p hf _ _ (λz hz=>?_);refine yj (zk (λc1=>?_) (λc1=>?_));rotate_left
 ·have:=hz.2 hp;rw[this]at c1;cases c1
 have hne:0<p.has.length:=ψx;refine ur p hne s3 _ _ (λz2 hz2=>yj (zk (λc2=>?_) (λc2=>?_)));rotate_left
 ·have:=hz2.2 hc;rw[this]at c2;cases c2
 refine zet p ⟨s1,s2,s3,s4,s5⟩ _ (λv N hv=>?_);have hv2:=hv;obtain⟨oa,cap,rfl,_⟩:=hv2.form;refine lg p.inputs s2 p.turn _ _ ?_;have hpt:0<=p.turn/\p.turn<1099511627776:=⟨hp.1.2.2.2.1,hc.2⟩
 refine Qd ⟨ψ,Dt (ie:=ti12) rfl Mn ψ hv n rfl s5 (λb cap2 L2 q1 q2 q3 q4=>bcd (λc3=>?_) (λc3=>?_))⟩
 ·simp at c3;omega
 exact ret (h _ _ (.inl (.inr ⟨b,cap2,L2,rfl,zd _ _ _,q2,q3,q4⟩)))
def yhh(p:Per)(n:Int)(hf:p.fits)(hs:Ag p)(hp:qj p)(hc:Cr p)(hh:p.hashes.length<16)(st:Store)(R:Ja)
  (h:R (.tup [.agg (zo (qk p n)),int 0]) st):Jb 138 [.agg (zo p),u64 n] st R:=by
 refine Dn (Q:=λr=>r=.tup [.agg (zo (qk p n)),int 0]) ((yhj p n hf hs hp hc hh (λr S=>∃v,RowsQ 1 ym S v (p.hashes++[n])/\r=.tup [.agg (Lw (qk p n) v),int 0]) λv N hv=>⟨v,hv,rfl⟩).frozen ?_) st R λr hr=>hr▸h;rintro r S ⟨v,hv,rfl⟩;refine⟨_,rfl,λOth M W x sto hx=>?_⟩;have e:(qk p n).hashes=p.hashes++[n]:=by unfold qk;exact if_neg θ
 refine VRel.tup2 hx (λy hy=>?_) (λy hy=>qv hy);have e1:Lw (qk p n) v=(zo (qk p n)).set 9 v:=rfl;have e2:zo (qk p n)=(zo (qk p n)).set 9 (lst 1 ym (p.hashes++[n])):=by rw[<-e];rfl
 rw[e1]at hy;rw[e2];exact zap (λb o hb=>hb.1) hy λz hz=>hv.borrow Mn ry sto hz
def ytf(l:List Inp)(hl:l.length<=1000000000000)(hr:Di l)(x:Inp)(fv:AV)(hfv:fv=.clos 126 [])(st:Store)(R:Ja)
  (h:∀i,cu l x i->∀z:Bool,(z=true↔Cn l x)->R (.tup [int (i:Nat),V.bool z]) st):Jb 169 [lst 3 zh l,.agg (zh x),fv] st R:=by
 subst hfv;refine Qy 49 Tryz.func169 ?_
 refine AWp.loop (σ:=Nat×Nat) ⟨λs=>[(0,.av (lst 3 zh l)),(4,.bx 4 0),(2,.av (.clos 126 [])),(8,.av (int (l.length:Nat))),(9,.av (int (s.1:Nat))),(10,.av (int (s.2:Nat)))],λ_=>[(4,zh x)],
  λs st'=>st'=st/\s.1<=s.2/\s.2<=l.length/\(∀j,(h:j<l.length)->j<s.1->qy l[j] x)/\∀j,(h:j<l.length)->s.2<=j->¬qy l[j] x,λs=>s.2-s.1⟩ zb ?_ ?_
 ·refine⟨(0,l.length),Tv,⟨rfl,Fae _,Fah _,λj _ hj=>θ,λj hj hj2=>θ⟩,⟨Tq,Tq,Tq,?_,Tq,?_,Tv⟩,⟨rfl,Tv⟩⟩
  ·rw[<-zi (f:=zh) l];exact Tq
  ·rw[<-zi (f:=zh) l];exact Tq
 rintro⟨i,j⟩ st' ⟨rfl,hij,hj,hlo,hhi⟩;dsimp only at hij hj hlo hhi⊢;refine bcd (λh1=>?_) (λh1=>?_);rotate_left
 ·have e:i=j:=θ;subst e;have hat:cu l x i:=⟨hj,hlo,hhi⟩
  have hhas:=ynn hr hat;refine Qc zb yeq (bcd (λh2=>?_) (λh2=>?_))
  ·have hlt:i<l.length:=θ;refine⟨i,rfl,za _ (zp hlt) ⟨p8 l[i] x _ _ ⟨Qe,Qbb (Qbb (ret (h i hat _ ?_)))⟩,Tv⟩⟩;rw[hhas,beq_iff_eq];exact⟨λe=>⟨hlt,e⟩,λ⟨_,e⟩=>e⟩
  ·exact Qbb (Qbb (Qbb (ret (h i hat false (by rw[hhas];exact⟨λe=>(by cases e),λ⟨hi,_⟩=>absurd (show(i:Int)<(l.length:Nat) by omega) h2⟩)))))
 refine Qd ⟨ψ,?_⟩;have hmid:(IntKind.u64.wrap ((i:Int)+(j:Int))).fdiv (2^(min (1:Int).toNat IntKind.u64.bits))=(((i+j)/2:Nat):Int):=by
  have e1:IntKind.u64.wrap ((i:Int)+(j:Int))=((i+j:Nat):Int):=by simp[IntKind.wrap,IntKind.bits,IntKind.signed];omega
  have e2:(2:Int)^(min (1:Int).toNat IntKind.u64.bits)=2:=rfl;have e3:(((i+j:Nat):Int)).fdiv 2=(((i+j)/2:Nat):Int):=by rw[Int.fdiv_eq_ediv_of_nonneg _ ψ];rfl
  rw[e1,e2,e3]
 have hk1:(i+j)/2<j:=θ;have hk2:i<=(i+j)/2:=θ;have hkl:(i+j)/2<l.length:=θ;refine⟨by rw[hmid];exact⟨θ,θ⟩,Qc zb yer ⟨(i+j)/2,hmid,za _ (zp hkl) ⟨p8 l[(i+j)/2] x _ _ ⟨Qe,bcd (λh2=>?_) (λh2=>?_)⟩,Tv⟩⟩⟩
 ·have hl2:=ordI_neg.1 h2;refine ze (by rw[hmid];omega) ⟨((i+j)/2+1,j),(by show j-((i+j)/2+1)<j-i;omega),⟨rfl,ξ,hj,λk hk hk2=>?_,hhi⟩,⟨Tq,Tq,Tq,Tq,?_,Tq,Tv⟩,⟨rfl,Tv⟩⟩
  ·dsimp only at hk2;by_cases e:k=(i+j)/2
   ·subst e;exact hl2
   ·exact R5 (Wr hr hkl θ) hl2
  ·exact(congrArg (λn:Int=>LV.le (je .i64 (n+1)) (.av (int (((i+j)/2+1:Nat):Int)))) hmid).mpr (Tq)
 ·have hl2:¬qy l[(i+j)/2] x:=λhh=>h2 (ordI_neg.2 hh);refine⟨(i,(i+j)/2),(by show(i+j)/2-i<j-i;omega),⟨rfl,hk2,ξ,hlo,λk hk hk2=>?_⟩,⟨Tq,Tq,Tq,Tq,Tq,?_,Tv⟩,⟨rfl,Tv⟩⟩
  ·dsimp only at hk2;by_cases e:k=(i+j)/2
   ·subst e;exact hl2
   ·exact λhh=>hl2 (R5 (Wr hr hk θ) hh)
  ·exact(congrArg (λn:Int=>LV.le (je .i64 n) (.av (int (((i+j)/2:Nat):Int)))) hmid).mpr (Tq)
def zb0(l:List Inp)(hl:Dy l)(R:Ja)(h:∀v N,RowsQ 3 zh N v l->R v N):Jb 167 [lst 3 zh l] Store.empty R:=by
 have hlen:=hl.1;refine Qy 18 Tryz.func167 ?_;refine AWp.loop (σ:=Nat×AV) ⟨λx=>[(2,.av x.2),(5,.av (lst 3 zh l)),(6,.av (int (l.length:Nat))),(7,.av (int (x.1:Nat)))],λ_=>[],λx st'=>x.1<=l.length/\RowsQ 3 zh st' x.2 (l.take x.1),λx=>l.length-x.1⟩ zb ?_ ?_
 ·refine⟨(0,_),Tv,⟨Fae _,.inl (.inl ⟨rfl,rfl⟩)⟩,⟨Tq,Tq,?_,Tq,Tv⟩,Tv⟩;rw[<-zi (f:=zh) l];exact Tq
 rintro⟨i,v⟩ st' ⟨hi,ha⟩;dsimp only at hi ha⊢;refine bcd (λc1=>?_) (λc1=>?_);rotate_left
 ·have:i=l.length:=θ;subst this;rw[Faj]at ha;exact ret (h _ _ ha)
 have hlt:i<l.length:=θ;refine⟨i,rfl,za _ (zp hlt) (I6 l[i] (hl.2 _ (Faa hlt)) _ _ ⟨ψ,Dt (ie:=ti123) rfl (λ_=>rfl) ψ ha l[i] rfl θq (λb cap L h5 h6 h7 h8=>Qd ⟨(i+1,_),ϑ,⟨hlt,?_⟩,⟨Tq,Tq,Tq,Tq,Tv⟩,Tv⟩)⟩)⟩;dsimp only;rw[Fad hlt];exact .inl (.inr ⟨b,cap,L,rfl,zd _ _ _,h6,h7,h8⟩)
def Qaj{p:Prop}(h:p:=by exact ϑ):p:=h
def zg7(l:List Inp)(hl:l.length<=1000000000000)(fn:FuncId)(cap:List AV)(q:Inp->Bool)(st:Store)(hf:∀x∈l,∀R:AV->Store->Prop,R (bool (q x)) st->Jb fn ([.agg (zh x)]++cap) st R)
  (R:Ja) (h:R (int (Cl (l.findIdx? q))) st):Jb 133 [lst 3 zh l,.clos fn cap] st R:=by
 refine Qy 19 Tryz.func133 ?_
 refine AWp.loop (σ:=Nat) ⟨λi=>[(0,.av (lst 3 zh l)),(1,.av (.clos fn cap)),(7,.av (int (l.length:Nat))),(8,.av (int (i:Nat)))],λ_=>[],
  λi st'=>i<=l.length/\st'=st/\∀j,(hj:j<l.length)->j<i->q l[j]=false,λi=>l.length-i⟩ zb ?_ ?_
 ·refine⟨0,Tv,⟨Fae _,rfl,λj _ hj=>θ⟩,⟨Tq,Tq,?_,Tq,Tv⟩,Tv⟩;rw[<-zi (f:=zh) l];exact Tq
 rintro i st' ⟨hi,rfl,hall⟩;refine bcd (λh1=>?_) (λh1=>?_);rotate_left
 ·have e:l.findIdx? q=none:=by
   rw[Fb7];intro x hx;obtain⟨j,hj,rfl⟩:=Faf hx;exact hall j hj θ
  rw[e]at h;exact ret h
 have hlt:i<l.length:=θ;refine⟨i,rfl,za _ (zp hlt) (hf l[i] (Faa hlt) _ (zk (λh2=>?_) (λh2=>?_)))⟩
 ·have e:l.findIdx? q=some i:=by
   rw[Fba];exact⟨hlt,h2,λj hj=>ψf⟩
  rw[e]at h;exact ret h
 ·refine Qd ⟨i+1,?_,⟨θ,rfl,λj hj hj2=>?_⟩,Qax,Tv⟩
  ·show l.length-(i+1)<l.length-i;omega
  ·by_cases e:j=i
   ·subst e;exact h2
   ·exact hall j hj θ
def inp0:Inp:=⟨-1,0,[]⟩
def Fo(p:Per)(to:Nat):Inp->Bool:=λi=>i.t==p.acked.getD (to-1) 0+1
def F6(p:Per)(to:Nat):Nte:=
 ⟨p.id,to,(p.mine.find? (Fo p to)).getD inp0,if p.hashes=[]then -1 else p.turn-1,p.hashes.getLastD 0,p.has.getD (to-1) 0⟩
def j4(p:Per):Nat->List Nte
 |0=>[]
 |n+1=>j4 p n++(if((n+1:Nat):Int)=p.id then []else [F6 p (n+1)])
def Ru(p:Per):∀n,(j4 p n).length<=n
 |0=>Fah _
 |n+1=>by have:=Ru p n;unfold j4;rw[Fac];split<;>simp<;>omega
def zfi{S:Store}{b1 b4:Nat}{p:Per}{to:Nat}(h1:S.obj b1=some (.cells (zo p)))(h4:S.obj b4=some (.cells [int (to:Nat)]))(ht:1<=to/\to<=p.acked.length)(hl:p.acked.length<=1000000)(ha:∀x∈p.acked,-1000000000000000<=x/\x<=1000000000000000)(i:Inp)(R:Ja)(h:R (V.bool (Fo p to i)) S):
  Jb 134 ([.agg (zh i)]++[ptr b1,ptr b4]) S R:=by
 have hto:(((to:Nat):Int)-1)=((to-1:Nat):Int):=θ;have hlt:to-1<p.acked.length:=θ;have hv:p.acked.getD (to-1) 0=p.acked[to-1]:=by rw[Fao,Fab hlt];rfl
 have hb:=ha _ (Faa hlt);refine Qy 15 Tryz.func134 ?_;refine Qc zb ye9 ?_;refine Qbc (Qbc ?_);refine Qd ?_;refine⟨to-1,hto,za _ (zp hlt) (Qd (Qbb ?_))⟩;unfold Fo at h;rw[hv]at h;exact ret h
theorem App.box{k q:Nat}{st st':Store}{v:AV}{rows:List (List AV)}(h:App k st v rows st')(hq:Fresh st' q)(x:AObj):App k (st.sO q x) v rows (st'.sO q x):=by
 rcases h with⟨rfl,rfl,rfl⟩|⟨rfl,rfl,rfl⟩|⟨hn,b,hf,rfl,rfl⟩
 ·exact .inl ⟨rfl,rfl,rfl⟩
 ·exact .inr (.inl ⟨rfl,rfl,rfl⟩)
 ·have hne:b≠q:=λe=>by
   have:=hq.2;rw[<-e,Kd]at this;cases this
  exact .inr (.inr ⟨hn,b,si hf hne,rfl,rfl⟩)
theorem found{l:List Inp}{q:Inp->Bool}(h:(Cl (l.findIdx? q))>=0):∃x k,∃h:k<l.length,l[k]=x/\Cl (l.findIdx? q)=(k:Nat)/\l.find? q=some x:=by
 cases e:l.findIdx? q with
 |none=>rw[e]at h;exact absurd h ψ
 |some k=>
  have⟨hk,h1,h2⟩:=Fba.1 e;refine⟨l[k],k,hk,rfl,rfl,?_⟩;rw[List.find?_eq_some_iff_getElem];exact⟨h1,k,hk,rfl,λj hj=>by simpa using h2 j hj⟩
def zgp{l:List Inp}{q:Inp->Bool}(h:¬(Cl (l.findIdx? q))>=0):l.find? q=none:=by
 cases e:l.findIdx? q with
 |none=>simpa using e
 |some k=>rw[e]at h;exact absurd (Int.natCast_nonneg k) h
def L5{q:Prop}(h:q:=by
 refine⟨ψ,jy (ie:=ti183) (rows':=[rr]) ha ?_ ?_ ⟨?_,?_⟩ (λv2 st2 ha2=>?_)⟩
 ·rfl
 ·rfl
 ·simp[ti183];omega
 ·simp;omega
 have ob2:st2.obj b1=some (.cells (zo p)):=((ha2.obj b1).trans (ha.obj b1).symm).trans ob;have oq2:st2.obj q=some (.cells [int ((n+1:Nat):Int)]):=((ha2.obj q).trans (ha.obj q).symm).trans oq;refine Qbc ?_;intro q2 hq2;have hbq2:b1≠q2:=λe=>by have:=hq2.1;rw[<-e,ob2]at this;cases this
 refine ye (i:=ti2) (v:=int ((n+1:Nat):Int)) (b:=q2) (o:=0) (st2:=st2.sO q2 (.cells [int ((n+1:Nat):Int)])) rfl rfl rfl (zd _ _ _) (show 0+1<=1 by decide) (yw _ _ _ _) (za (o:=(st2.sO q2 _).obj q2) _ (zd _ _ _) (Qd (ye (i:=ti2) (v:=int (((n+1:Nat):Int)+1)) (b:=q2) (o:=0) (st2:=st2.sO q2 (.cells [int (((n+1:Nat):Int)+1)])) rfl rfl rfl (zd _ _ _) (show 0+1<=1 by decide) (yw _ _ _ _) ⟨(n+1,q2,v2),Qaj,⟨ξ,(zf hbq2).trans ob2,zd _ _ _,hbq2,S0.sO q2 (.cells [int (((n+1:Nat):Int)+1)]),_,App.box ha2 hq2 _,?_⟩,⟨Tq,Tq,Tq,Tq,Tv⟩,Tv⟩)));dsimp only;have e:rws yg (j4 p (n+1))=rws yg (j4 p n)++[yg (F6 p (n+1))]:=by show rws yg (j4 p n++_)=_;rw[if_neg c2];simp[rws]
 rw[e];refine zgt hle ?_;unfold F6 yg;rw[hfi,hhE,hgE,hasE];exact⟨Tt,Tt,Tt,Tt,by first|exact Tt|exact AV.le_nil 10,Tt,Tt,Tt,Tv⟩):q:=h
def yjm(p:Per)(hf:p.fits)(hp:qj p)(hs:Ag p):Jb 103 [.agg (zo p)] Store.empty λr _=>r=.tup [lst 8 yg (j4 p p.players.toNat),int 0]:=by
 refine Qa (c:=cfg 67 [1,4] []) zb Tryz.func103 ?_;intro b1 hb1;have o1:(Store.empty.sO b1 (.cells (zo p))).obj b1=some (.cells (zo p)):=zd _ _ _;have⟨s1,s2,s3,s4,s5⟩:=hs;refine za (o:=(Store.empty.sO b1 _).obj b1) _ o1 (Ii p hf _ _ (λz hz=>?_));rw[hz.2 hp];intro b4 hb4;have hne:b1≠b4:=λe=>by have:=hb4.1;rw[<-e,o1]at this;cases this
 have hpl:=hp.1.1;have hid:=hp.1.2.1;have hha:=hp.2.2.1.2.1;have hac:=hp.2.2.2.1.2.1;have hml:p.mine.length<=1000000000000:=by have:=s1.1;omega
 have hab:∀x∈p.acked,-1000000000000000<=x/\x<=1000000000000000:=by intro x hx;obtain⟨j,hj,rfl⟩:=List.mem_iff_getElem.1 hx;have h1:=hp.1;have h2:=hp.2.2.2.1.1 j hj;unfold Mw maxT at h1;omega
 refine ye (i:=ti2) (v:=int 1) (b:=b4) (o:=0) rfl rfl rfl (zd _ _ _) (show 0+1<=1 by decide) rfl ?_
 refine AWp.loop (σ:=Nat×Nat×AV) ⟨λx=>[(1,.av (ptr b1)),(2,.av x.2.2),(3,.av (int 0)),(4,.av (ptr x.2.1))],λ_=>[],
  λx S=>x.1<=p.players.toNat/\S.obj b1=some (.cells (zo p))/\S.obj x.2.1=some (.cells [int ((x.1+1:Nat):Int)])/\b1≠x.2.1/\∃S0 rows,App 8 S0 x.2.2 rows S/\leQ rows (rws yg (j4 p x.1)),λx=>p.players.toNat-x.1⟩ zb ?_ ?_
 ·exact⟨(0,b4,_),Tv,⟨Fae _,(zf hne).trans ((zf hne).trans o1),zd _ _ _,hne,_,_,App.start 8 _,Tv⟩,⟨Tq,Tq,Tq,Tq,Tv⟩,Tv⟩
 rintro⟨n,q,v⟩ S ⟨hn,ob,oq,hbq,S0,rows,ha,hle⟩;dsimp only at hn ob oq hbq ha hle⊢;refine Qbc ?_;refine Qbc (bcd (λc1=>?_) (λc1=>?_));rotate_left
 ·have:n=p.players.toNat:=θ;subst this;exact⟨.tup [lst 8 yg (j4 p p.players.toNat),int 0],S,rf (AV.le_trans ha.le (co hle)) (Tt),Store.Has.refl _,rfl⟩
 refine Qbc ?_;refine Qbc (zu (λc2=>?_) (λc2=>?_))
 ·refine Qbc ?_;intro q2 hq2;have hbq2:b1≠q2:=λe=>by
   have:=hq2.1;rw[<-e,ob]at this;cases this
  refine ye (i:=ti2) (v:=int ((n+1:Nat):Int)) (b:=q2) (o:=0) (st2:=S.sO q2 (.cells [int ((n+1:Nat):Int)])) rfl rfl rfl (zd _ _ _) (show 0+1<=1 by decide) (yw _ _ _ _) (za (o:=(S.sO q2 _).obj q2) _ (zd _ _ _) (Qd (ye (i:=ti2) (v:=int (((n+1:Nat):Int)+1)) (b:=q2) (o:=0) (st2:=S.sO q2 (.cells [int (((n+1:Nat):Int)+1)])) rfl rfl rfl (zd _ _ _) (show 0+1<=1 by decide) (yw _ _ _ _) ⟨(n+1,q2,v),Qaj,⟨ξ,(zf hbq2).trans ob,zd _ _ _,hbq2,S0.sO q2 (.cells [int (((n+1:Nat):Int)+1)]),rows,App.box ha hq2 _,?_⟩,Qax,Tv⟩)));dsimp only;have e:j4 p (n+1)=j4 p n:=by show j4 p n++_=_;rw[if_pos c2,Fbi]
  rw[e];exact hle
 have hnp:n<p.players.toNat:=θ;have hrl:rows.length<=n:=by rw[(ri hle).1,zi];exact Ru p n
 have hlh:n<p.has.length:=θ;have hasE:p.has.getD (n+1-1) 0=p.has[n]:=by simp[hlh]
 have hto:(((n+1:Nat):Int)-1)=((n:Nat):Int):=θ;refine Qc zb yfo (Qbc ?_);refine Qbc ?_;refine Qbc (Qbc ?_);refine Qd ?_;refine⟨n,hto,za _ (zp hlh) ⟨⟨⟨rfl,za (o:=S.obj b1) _ ob rfl,za (o:=S.obj q) _ oq rfl,rfl,rfl,za (o:=S.obj b1) _ ob rfl,za (o:=S.obj q) _ oq rfl,ze θ rfl,⟨n,hto,za (o:=(rws zn p.has)[n]?) _ (zp hlh) rfl⟩,rfl,rfl,Tv⟩,Qbb (Qbc ?_)⟩,Tv⟩⟩;have hln:(rws ym p.hashes).length=p.hashes.length:=θi;refine bcd (λc3=>?_) (λc3=>?_)
 ·rw[hln]at c3;have hk:p.hashes.length-1<p.hashes.length:=θ;have hki:((((rws ym p.hashes).length:Nat):Int)-1)=((p.hashes.length-1:Nat):Int):=by rw[hln];omega
  have htu:=hp.1;refine Qc zb yfp (Qbc ?_);refine ze (by unfold Mw maxT at htu;omega) (Qbc ?_);refine Qd ?_;refine⟨p.hashes.length-1,hki,za _ (zp hk) ⟨⟨⟨za (o:=S.obj b1) _ ob rfl,rfl,Tv⟩,Qbb (Qbc (zg7 p.mine hml _ _ (Fo p (n+1)) _ (λx hx R h=>zfi ob oq θ θ hab x R h) _ ?_))⟩,Tv⟩⟩;have hh:p.hashes≠[]:=λe=>by rw[e]at hk;exact absurd hk ψ
  have hhE:(if p.hashes=[]then -1 else p.turn-1)=p.turn-1:=if_neg hh;have hgE:p.hashes.getLastD 0=p.hashes[p.hashes.length-1]:=by rw[Feq,Fer,Fab hk];rfl
  refine bcd (λc4=>?_) (λc4=>?_)
  ·obtain⟨x,k,hkl,rfl,he,hfi⟩:=found c4;rw[he];refine Qbc ?_;refine⟨k,rfl,za _ (zp hkl) (I6 p.mine[k] (s1.2 _ (Faa hkl)) _ _ ?_)⟩
   let rr:List AV:=[int p.id,int ((n+1:Nat):Int),int p.mine[k].t,int p.mine[k].p,lst 10 zz p.mine[k].C,int (p.turn-1),u64 p.hashes[p.hashes.length-1],int p.has[n]]
   exact L5
  ·have hfi:=zgp c4
   let rr:List AV:=[int p.id,int ((n+1:Nat):Int),int (-1),int 0,nil,int (p.turn-1),u64 p.hashes[p.hashes.length-1],int p.has[n]]
   exact L5
 ·have hh:p.hashes=[]:=by
   rw[hln]at c3;exact Fex.1 θ
  have hhE:(if p.hashes=[]then -1 else p.turn-1)=-1:=if_pos hh;have hgE:p.hashes.getLastD 0=0:=by rw[hh];rfl
  refine Qbc (zg7 p.mine hml _ _ (Fo p (n+1)) _ (λx hx R h=>zfi ob oq θ θ hab x R h) _ (bcd (λc4=>?_) (λc4=>?_)))
  ·obtain⟨x,k,hkl,rfl,he,hfi⟩:=found c4;rw[he];refine Qbc ?_;refine⟨k,rfl,za _ (zp hkl) (I6 p.mine[k] (s1.2 _ (Faa hkl)) _ _ ?_)⟩
   let rr:List AV:=[int p.id,int ((n+1:Nat):Int),int p.mine[k].t,int p.mine[k].p,lst 10 zz p.mine[k].C,int (-1),u64 0,int p.has[n]]
   exact L5
  ·have hfi:=zgp c4
   let rr:List AV:=[int p.id,int ((n+1:Nat):Int),int (-1),int 0,nil,int (-1),u64 0,int p.has[n]]
   exact L5
def yjl(p:Per)(hf:p.fits)(hp:qj p)(hs:Ag p)(st:Store)(R:Ja)(h:R (.tup [lst 8 yg (j4 p p.players.toNat),int 0]) st):Jb 103 [.agg (zo p)] st R:=by
 have h2:Jb 103 [.agg (zo p)] Store.empty λr S=>r=.tup [lst 8 yg (j4 p p.players.toNat),int 0]/\S=Store.empty:=
  (yjm p hf hp hs).post (Store.Le.refl _) λr st' hr=>⟨r,Store.empty,AV.le_refl r,(hasE st').toLe,hr,rfl⟩
 rw[<-vo st];exact ACalls.frame (Kw st) h2 λr S ⟨e,e2⟩ hd=>by subst e2;rw[vo,e];exact h
abbrev plrP(x:Int):Prop:=1<=x/\x<=8
abbrev trnP(x:Int):Prop:=-1<=x/\x<=maxT
def Ck(n:Nte):Prop:=plrP n.src/\plrP n.dst/\n.src≠n.dst/\trnP n.done/\trnP n.have_/\¬(n.done=-1/\n.hash≠0)∧
 (if n.inp.t=-1 then n.inp.p=0/\n.inp.C=[]else Bd n.inp/\n.inp.p=n.src)
def zev(x:Int)(st:Store)(R:Ja)(h:∀b:Bool,(b=true↔plrP x)->R (V.bool b) st):Jb 214 [int x] st R:=by refine Qy 9 Tryz.func214 ?_;refine bcd (λc1=>?_) (λc1=>ret (h false χ));exact ret (h _ χ)
def zbz(x:Int)(st:Store)(R:Ja)(h:∀b:Bool,(b=true↔trnP x)->R (V.bool b) st):Jb 215 [int x] st R:=by refine Qy 9 Tryz.func215 ?_;refine bcd (λc1=>?_) (λc1=>ret (h false χ));exact ret (h _ χ)
def zzKx{q:Prop}(h:q:=by
 refine zu (λc7=>?_) (λc7=>?_)
 ·refine zu (λc8=>ret (h _ ?_)) (λc8=>ret (no λhh=>by have:=hh.2.2.2.2.2.2;rw[if_pos c7]at this;exact c8 this.1));rw[beq_iff_eq];unfold Ck;rw[if_pos c7];have hl:(((rws zz n.inp.C).length:Nat):Int)=0↔n.inp.C=[]:=by rw[zi];simp
  refine⟨λhh=>⟨p1,p2,c3,p4,p5,hq,c8,hl.1 hh⟩,λhh=>hl.2 hh.2.2.2.2.2.2.2⟩
 ·refine lj n.inp hf _ _ (λz7 h7=>zk (λc8=>?_) (λc8=>?_));rotate_left
  ·exact ret (no λhh=>by have:=hh.2.2.2.2.2.2;rw[if_neg c7]at this;have:=h7.2 this.1;rw[this]at c8;cases c8)
  refine ret (h _ ?_);rw[beq_iff_eq];unfold Ck;rw[if_neg c7];exact⟨λhh=>⟨p1,p2,c3,p4,p5,hq,h7.1 c8,hh⟩,λhh=>hh.2.2.2.2.2.2.2⟩):q:=h
def Ib(p:Per)(d k:Int):Bool:=decide (d<p.turn/\0<=(p.hashes.length:Int)-(p.turn-d)/\p.hashes.getD ((p.hashes.length:Int)-(p.turn-d)).toNat 0≠k)
def yk2(n:Nte)(hf:n.inp.fits)(st:Store)(R:Ja)(h:∀b:Bool,(b=true↔Ck n)->R (V.bool b) st):Jb 178 [.agg (yg n)] st R:=by
 have no:¬Ck n->R (V.bool false) st:=λhn=>h false θg;refine Qy 68 Tryz.func178 ?_;refine zev _ _ _ (λz1 h1=>?_);refine yj (zk (λc1=>?_) (λc1=>?_));rotate_left
 ·exact ret (no λhh=>by have:=h1.2 hh.1;rw[this]at c1;cases c1)
 have p1:=h1.1 c1;refine zev _ _ _ (λz2 h2=>yj (zk (λc2=>?_) (λc2=>?_)));rotate_left
 ·exact ret (no λhh=>by have:=h2.2 hh.2.1;rw[this]at c2;cases c2)
 have p2:=h2.1 c2;refine zu (λc3=>ret (no λhh=>hh.2.2.1 c3)) (λc3=>zbz _ _ _ (λz4 h4=>yj (zk (λc4=>?_) (λc4=>?_))));rotate_left
 ·exact ret (no λhh=>by have:=h4.2 hh.2.2.2.1;rw[this]at c4;cases c4)
 have p4:=h4.1 c4;refine zbz _ _ _ (λz5 h5=>yj (zk (λc5=>?_) (λc5=>?_)));rotate_left
 ·exact ret (no λhh=>by have:=h5.2 hh.2.2.2.2.1;rw[this]at c5;cases c5)
 have p5:=h5.1 c5;refine zu (λc6=>?_) (λc6=>?_)
 ·refine qi (λc=>ret (no λhh=>hh.2.2.2.2.2.1 ⟨c6,c⟩)) (λc=>?_);have hq:¬(n.done=-1/\n.hash≠0):=λhh=>hh.2 c;exact zzKx
 ·have hq:¬(n.done=-1/\n.hash≠0):=λhh=>c6 hh.1;exact zzKx
def Rj{P:Program}{f:FuncId}{xs:List AV}{Q:Ja}(h:ACalls P f xs Store.empty Q)(S:Store)(R:Ja)(hR:∀v N,Q v N->zj N S->R v (N.un S)):ACalls P f xs S R:=by rw[<-vo S];exact ACalls.frame (Kw S) h λr N hq hd=>hR r N hq hd
def zjo(l:List Int)(hl:l.length<=1000000000)(R:Ja)(h:∀v N,RowsQ 1 zn N v l->R v N):Jb 165 [yc l] Store.empty R:=by
 refine Qy 8 Tryz.func165 ?_;intro b hb;cases b with
 |true=>
  have:l=[]:=θt;subst this;exact ret (h (.s (.slice none 0 0)) Store.empty (.inl (.inl ⟨rfl,rfl⟩)))
 |false=>
  exact⟨ψ,M4 (ie:=ti2) rfl (λ_=>rfl) ψ hl (λv N hv hd=>ret (h v _ θ2))⟩
def ql(p:Per)(vm vh va:AV):List AV:=[int p.id,int p.players,int p.delay,int p.turn,int p.said,vm,lst 3 zh p.inputs,vh,va,lst 1 ym p.hashes,V.bool p.split]
def D7(p:Per)(vm vh va:AV):List (Store->Prop):=[λa=>RowsQ 1 zn a va p.acked,λa=>RowsQ 1 zn a vh p.has,λa=>RowsQ 3 zh a vm p.mine]
def zes(p:Per)(hs:Ag p)(R:Ja)(h:∀vm vh va N,Sp (D7 p vm vh va) N->R (.agg (ql p vm vh va)) N):Jb 130 [.agg (zo p)] Store.empty R:=by have⟨h1,h2,h3,h4,h5⟩:=hs;refine Qy 24 Tryz.func130 ?_;refine Qc zb zdm ?_;refine⟨zb0 p.mine h1 _ (λvm N1 hm=>?_),Tv⟩;have hm2:=hm;obtain⟨oa,cap,rfl,_⟩:=hm2.form;refine⟨Qe,⟨li p.inputs h2 _ _ ⟨Qe,Qba (Qba (Qc zb zdl ⟨Rj (zjo p.has h3 (λv N=>RowsQ 1 zn N v p.has) λ_ _ q=>q) _ _ (λvh N2 hh d2=>?_),Tv⟩))⟩,Tv⟩⟩;have hh2:=hh;obtain⟨ob,capb,rfl,_⟩:=hh2.form;refine⟨Qe,⟨Rj (zjo p.acked h4 (λv N=>RowsQ 1 zn N v p.acked) λ_ _ q=>q) _ _ (λva N3 ha d3=>?_),Tv⟩⟩;have ha2:=ha;obtain⟨oc,capc,rfl,_⟩:=ha2.form;exact⟨Qe,⟨ysn p.hashes h5 _ _ ⟨Qe,Qba (Qba (Qba (ret (h _ _ _ _ ⟨N3,_,rfl,d3,ha,N2,_,rfl,d2,hh,N1,Store.empty,(Bn N1).symm,xy (O4 N1),hm,rfl⟩))))⟩,Tv⟩⟩
def Qak{p:Prop}(h:p:=by exact ϑ):p:=h
def ymo(l:List Inp)(hl:l.length<=1000000)(fn:FuncId)(caps:List AV)(q:Inp->Bool)(st:Store){b cap:Nat}{L:List AV}(ho:st.obj b=some (.cells ((rws zh l).flatten++L)))(hf:∀x∈l,∀R:AV->Store->Prop,R (V.bool (q x)) st->Jb fn ([.agg (zh x)]++caps) st R)
  (R:Ja) (h:R (int (Cl (l.findIdx? q))) st):Jb 133 [.s (.slice (some ⟨b,0,none⟩) l.length cap),.clos fn caps] st R:=by
 refine Qy 19 Tryz.func133 ?_
 refine AWp.loop (σ:=Nat) ⟨λi=>[(0,.av (.s (.slice (some ⟨b,0,none⟩) l.length cap))),(1,.av (.clos fn caps)),(7,.av (int (l.length:Nat))),(8,.av (int (i:Nat)))],λ_=>[],
  λi st'=>i<=l.length/\st'=st/\∀j,(hj:j<l.length)->j<i->q l[j]=false,λi=>l.length-i⟩ zb ?_ ?_
 ·exact⟨0,Tv,⟨Fae _,rfl,λj _ hj=>θ⟩,Qax,Tv⟩
 rintro i st' ⟨hi,rfl,hall⟩;refine bcd (λh1=>?_) (λh1=>?_);rotate_left
 ·have e:l.findIdx? q=none:=by
   rw[Fb7];intro x hx;obtain⟨j,hj,rfl⟩:=Faf hx;exact hall j hj θ
  rw[e]at h;exact ret h
 have hlt:i<l.length:=θ;refine⟨i,rfl,hlt,Qbc (xr (i:=ti123) (row:=zh l[i]) rfl rfl (D3 (f:=zh) (k:=3) (λ_=>rfl) hlt) (hf l[i] (Faa hlt) _ (zk (λh2=>?_) (λh2=>?_))))⟩
 ·have e:l.findIdx? q=some i:=by
   rw[Fba];exact⟨hlt,h2,λj hj=>ψf⟩
  rw[e]at h;exact ret h
 ·refine Qd ⟨i+1,?_,⟨θ,rfl,λj hj hj2=>?_⟩,Qax,Tv⟩
  ·show l.length-(i+1)<l.length-i;omega
  ·by_cases e:j=i
   ·subst e;exact h2
   ·exact hall j hj θ
def nq(q:Inp->Bool)(x:Inp):Bool:= !q x
def yru{N:Store}{b cap:Nat}{L:List AV}{l:List Inp}(ho:N.obj b=some (.cells ((rws zh l).flatten++L)))(hc1:l.length<=cap)(hc2:cap*3<=l.length*3+L.length)(hc3:cap<=9223372036854775807)(hl:l.length<=1000000)(fn:FuncId)(caps:List AV)(q:Inp->Bool)(G:Store->Prop)(hG0:G N)(hG:∀S x,G S->G (S.sO b x))
  (hf:∀S,G S->∀x∈l,∀R:AV->Store->Prop,R (V.bool (q x)) S->Jb fn ([.agg (zh x)]++caps) S R) (R:Ja)
  (h:∀N' L',N'.obj b=some (.cells ((rws zh (l.filter (nq q))).flatten++L'))->(l.filter (nq q)).length<=cap->cap*3<=(l.filter (nq q)).length*3+L'.length->(N'=N\/∃x,N'=N.sO b x)->R (.s (.slice (some ⟨b,0,none⟩) (l.filter (nq q)).length cap)) N'):Jb 216 [.s (.slice (some ⟨b,0,none⟩) l.length cap),.clos fn caps] N R:=by
 refine Qy 42 Tryz.func216 ?_;refine ymo l hl fn caps q _ ho (hf N hG0) _ (zu (λc1=>?_) (λc1=>?_))
 ·have e:l.filter (nq q)=l:=by
   rw[Feh];intro x hx;cases e:l.findIdx? q with
   |none=>
    rw[Fb7]at e;simp[nq,e x hx]
   |some k=>rw[e]at c1;exact absurd c1 (by show((k:Nat):Int)≠-1;omega)
  rw[e]at h;exact ret (h N L ho hc1 hc2 (.inl rfl))
 obtain⟨i0,hi0,e0,hq0,hlo⟩:∃i0,∃hi:i0<l.length,Cl (l.findIdx? q)=(i0:Nat)/\q l[i0]=true/\∀j,(hj:j<l.length)->j<i0->q l[j]=false:=by
  cases e:l.findIdx? q with
  |none=>rw[e]at c1;exact absurd rfl c1
  |some k=>
   have⟨hk,h1,h2⟩:=Fba.1 e;exact⟨k,hk,rfl,h1,λj hj hj2=>by simpa using h2 j hj2⟩
 rw[e0];refine Qd ?_;have hfl:(l.take (i0+1)).filter (nq q)=l.take i0:=by
  rw[Fad hi0,Fca];have h1:(l.take i0).filter (nq q)=l.take i0:=by rw[Feh];intro x hx;obtain⟨j,hj,rfl⟩:=Faf hx;rw[Fai]at hj;rw[Fdr];simp[nq,hlo j θ θ]
  rw[h1];simp[nq,hq0]
 refine AWp.loop (σ:=Nat×Nat×List Inp) ⟨λx=>[(0,.av (.s (.slice (some ⟨b,0,none⟩) l.length cap))),(1,.av (.clos fn caps)),(5,.av (int (x.1:Nat))),(6,.av (int (x.2.1:Nat)))],λ_=>[],
  λx S=>x.1<x.2.1/\x.2.1<=l.length/\x.2.2.length=l.length/\x.2.2.take x.1=(l.take x.2.1).filter (nq q)/\x.2.2.drop x.2.1=l.drop x.2.1/\S.obj b=some (.cells ((rws zh x.2.2).flatten++L))/\G S/\(S=N\/∃x,S=N.sO b x),λx=>l.length-x.2.1⟩ zb ?_ ?_
 ·exact⟨(i0,i0+1,l),Tv,⟨Nat.lt_succ_self _,hi0,rfl,hfl.symm,rfl,ho,hG0,.inl rfl⟩,Qax,Tv⟩
 rintro⟨i,j,cur⟩ S ⟨hij,hj,hcl,hta,hdr,ob,hg,hN⟩;dsimp only at hij hj hcl hta hdr ob⊢;have hlen:((rws zh cur).flatten++L).length=l.length*3+L.length:=by rw[Fac,qc (k:=3) (λ_=>rfl),hcl]
 refine bcd (λc2=>?_) (λc2=>?_);rotate_left
 ·have:j=l.length:=θ;subst this;rw[Faj]at hta;have hfi:(l.filter (nq q)).length=i:=by rw[<-hta,Fai];omega
  refine⟨i,l.length,rfl,rfl,θ,hc1,.inl ⟨θ,?_⟩⟩;have hzl:((List.replicate (l.length-i) ti123.zero).flatten.map AV.s).length=(l.length-i)*3:=by rw[Fal,show∀(m:Nat) (z:List Value),(List.replicate m z).flatten.length=m*z.length from λm z=>φ];rfl
  refine yuy (ie:=ti123) (b:=b) (off:=0+i*3) (m:=l.length-i) (l:=(rws zh cur).flatten++L) rfl rfl rfl rfl rfl rfl rfl θ ob (by rw[hlen];show 0+i*3+(l.length-i)*3<=_;omega) ψ ?_;generalize(List.replicate (l.length-i) ti123.zero).flatten.map AV.s=Z at hzl⊢;have e:zq ((rws zh cur).flatten++L) (0+i*3) Z=(rws zh (l.filter (nq q))).flatten++(Z++L):=by
   have h1:(rws zh (cur.take i)).flatten.length=0+i*3:=ψy;have h2:(rws zh (cur.drop i)).flatten.length=Z.length:=by rw[qc (k:=3) (λ_=>rfl),Fbk,hzl,hcl]
   have h3:(rws zh cur).flatten=(rws zh (cur.take i)).flatten++(rws zh (cur.drop i)).flatten:=by rw[<-Fc4,show rws zh (cur.take i)++rws zh (cur.drop i)=rws zh (cur.take i++cur.drop i)from(Fav ..).symm,Fbu]
   rw[h3,Fas,wu h1,<-h2,Fdg,hta,Fas]
  rw[e];refine⟨0,i,rfl,rfl,θ,θ,.inl ⟨θ,ret ?_⟩⟩;have:=h (S.sO b (.cells ((rws zh (l.filter (nq q))).flatten++(Z++L)))) (Z++L) (zd _ _ _) θ (by rw[Fac,hzl,hfi];omega) (.inr (hN.elim (λe=>⟨_,by rw[e]⟩) (λ⟨x,e⟩=>⟨_,by rw[e,yw]⟩)));rw[hfi]at this;exact this
 have hlt:j<l.length:=θ;have hltc:j<cur.length:=θ;have hcj:cur[j]=l[j]:=by
  have h1:(cur.drop j)[0]?=(l.drop j)[0]?:=by rw[hdr]
  rw[Fbq,Fbq,Nat.add_zero,Fab hltc,Fab hlt]at h1;exact Option.some.inj h1
 refine⟨j,rfl,hlt,Qbc (xr (i:=ti123) (row:=zh cur[j]) rfl rfl (D3 (f:=zh) (k:=3) (λ_=>rfl) hltc) ?_)⟩;rw[hcj];refine hf S hg l[j] (Faa hlt) _ ?_;have hdr1:cur.drop (j+1)=l.drop (j+1):=by rw[<-Fdh,<-Fdh,hdr]
 refine zk (λc3=>?_) (λc3=>?_)
 ·have hic:i<cur.length:=θ;refine⟨i,rfl,θ,k8 (i:=ti123) (v:=.agg (zh l[j])) (xs:=zh l[j]) (b:=b) (o:=0+i*3) (l:=(rws zh cur).flatten++L) rfl rfl rfl ob (by rw[hlen];show 0+i*3+3<=_;omega) ?_⟩;rw[show zq ((rws zh cur).flatten++L) (0+i*3) (zh l[j])=(rws zh (cur.set i l[j])).flatten++L from by rw[Fa9];exact Nx (f:=zh) (k:=3) (λ_=>rfl) hic l[j] L];refine Qd (Qd ⟨(i+1,j+1,cur.set i l[j]),Qak,⟨ξ,hlt,by rw[Fak];exact hcl,?_,?_,zd _ _ _,hG _ _ hg,.inr (hN.elim (λe=>⟨_,by rw[e]⟩) (λ⟨x,e⟩=>⟨_,by rw[e,yw]⟩))⟩,⟨Tq,Tq,Tq,Tq,Tv⟩,Tv⟩)
  ·dsimp only;rw[Fad (by rw[Fak];exact hic),Fcx,List.take_set_of_le (Fah i),hta,Fad hlt,Fca]
   congr 1
   simp[nq,c3]at c3⊢
  ·dsimp only;rw[List.drop_set_of_lt θ];exact hdr1
 ·refine Qd ⟨(i,j+1,cur),Qak,⟨ξ,hlt,hcl,?_,hdr1,ob,hg,hN⟩,Qax,Tv⟩;dsimp only;rw[hta,Fad hlt,Fca];simp at c3;simp[nq,c3]
def n7{i:TI}{cells rest:List AV}{x:AV}{K:LV->Prop}(ha:Da i.ty=false)(hc:cells=x::rest)(h:K (.av x)):partK i cells K:=by subst hc;unfold partK;rw[ha];exact h
def ybf{N:Store}{b:Nat}{x:AObj}(h:N.obj b=some x):N.sO b x=N:=by
 unfold Store.sO
 congr 1
 funext i
 by_cases e:i=b
 ·subst e;simp[h]
 ·simp[y9 e]
def ymp(a:Option Addr)(cap:Nat)(fn:FuncId)(caps:List AV)(st:Store)(R:Ja)(h:R (int (-1)) st):Jb 133 [.s (.slice a 0 cap),.clos fn caps] st R:=by
 refine Qy 19 Tryz.func133 ?_
 refine AWp.loop (σ:=Nat) ⟨λi=>[(0,.av (.s (.slice a 0 cap))),(1,.av (.clos fn caps)),(7,.av (int ((0:Nat):Nat))),(8,.av (int (i:Nat)))],λ_=>[],
  λi st'=>i=0/\st'=st,λi=>0⟩ zb ?_ ?_
 ·exact⟨0,Tv,⟨rfl,rfl⟩,Qax,Tv⟩
 rintro i st' ⟨rfl,rfl⟩;exact ret h
def yrv(a:Option Addr)(cap:Nat)(fn:FuncId)(caps:List AV)(st:Store)(R:Ja)(h:R (.s (.slice a 0 cap)) st):Jb 216 [.s (.slice a 0 cap),.clos fn caps] st R:=by refine Qy 42 Tryz.func216 ?_;exact ymp a cap fn caps _ _ (ret h)
def ykh{g:Store}{v:AV}{l:List Int}(hv:RowsQ 1 zn g v l)(hl:l.length<=1000000000)(hne:0<l.length)(R:Ja)(h:R (int (yy l)) g):Jb 92 [v] g R:=
 ACalls.read (ys:=[yc l]) (Q:=λr=>r=int (yy l)) (λOth M W vs sto hr=>by obtain⟨x,rfl,h1⟩:=Kh hr;exact Reads.cons (RowsQ.borrow (k:=1) (f:=zn) (λ_=>rfl) (λx y hy=>by exact⟨_,Fbl.1 hy,rfl⟩) hv sto h1) Reads.nil) (b8 l hl hne _ _ rfl) (λr e=>e▸Sn _) (λr e=>e▸h)
def yu9{S:Store}{q6:Nat}{m:Int}(h6:S.obj q6=some (.cells [int m]))(i:Inp)(R:Ja)(h:R (V.bool (decide (i.t<=m))) S):Jb 217 ([.agg (zh i)]++[ptr q6]) S R:=by refine Qy 8 Tryz.func217 ?_;exact Qbc (ret h)
def xg(p:Per)(f:Nat)(x:Int):Per:=if x<=p.acked.getD f 0\/x>p.said then p else
 {p with acked:=p.acked.set f x,mine:=p.mine.filter (nq λi=>decide (i.t<=yy (p.acked.set f x)))}
def yu7(p:Per){q:Nat}{vm vh va:AV}{S:Store}(hS:Sp (ja q (ql p vm vh va)::D7 p vm vh va) S)(f:Nat)(hf:f<p.acked.length)(h1:Dy p.mine)(h4:p.acked.length<=1000000000)(x:Int)(R:Ja)
  (h:∀vm' S',Sp (ja q (ql (xg p f x) vm' vh va)::D7 (xg p f x) vm' vh va) S'->R (.tup []) S'):Jb 179 [ptr q,int ((f+1:Nat):Int),int x] S R:=by
 have hq:=(hS.at 0 rfl).obj;obtain⟨ba,ca,La,rfl,oa,a1,a2,a3,aK⟩:=Foc.row (k:=1) (f:=zn) (l:=p.acked) (v:=va) (hS.at 1 rfl) (Fdv θ);have hto:(((f+1:Nat):Int)-1)=((f:Nat):Int):=θ;have hga:p.acked.getD f 0=p.acked[f]:=by rw[Fao,Fab hf];rfl
 refine Qa (c:=cfg 47 [6] []) zb Tryz.func179 ?_;refine Qbc ?_;refine Qd ?_;refine⟨f,hto,θ,Qbc (n7 (i:=ti2) (x:=int p.acked[f]) rfl (D3 (f:=zn) (k:=1) (λ_=>rfl) hf) (bcd (λc1=>?_) (λc1=>?_)))⟩
 ·have e:xg p f x=p:=if_pos (.inl (by rw[hga];exact c1));exact ret (h _ S (by rw[e];exact hS))
 refine Qbc (bcd (λc2=>?_) (λc2=>?_))
 ·have e:xg p f x=p:=if_pos (.inr c2);exact ret (h _ S (by rw[e];exact hS))
 have e:xg p f x={p with acked:=p.acked.set f x,mine:=p.mine.filter (nq λi=>decide (i.t<=yy (p.acked.set f x)))}:=if_neg (by rw[hga];omega);rw[e]at h;refine Qbc ?_;refine Qd ?_;refine⟨f,hto,θ,ye (i:=ti2) (v:=int x) (b:=ba) (o:=0+f*1) (st2:=S.sO ba (.cells ((rws zn (p.acked.set f x)).flatten++La))) rfl rfl rfl oa (by rw[Fac,qc (k:=1) (λ_=>rfl)];omega) (by rw[Fa9];exact congrArg _ (congrArg _ (Nx (f:=zn) (k:=1) (λ_=>rfl) hf x La))) ?_⟩;have hS2:=aK (λa=>RowsQ 1 zn a (.s (.slice (some ⟨ba,0,none⟩) p.acked.length ca)) (p.acked.set f x)) (.cells ((rws zn (p.acked.set f x)).flatten++La)) (λa ha=>.inl (.inr ⟨ba,ca,La,by rw[Fak],ha,by rw[Fak];exact a1,by rw[Fak];exact a2,a3⟩));generalize S.sO ba _=S2 at hS2⊢;have hq2:=(hS2.at 0 rfl).obj;refine Qbc (Foc.look (hS2.at 1 rfl) (int (yy (p.acked.set f x))) (λa ha T hT=>ykh ha (by rw[Fak];omega) (by rw[Fak];omega) T hT) ?_);intro q6 hq6;have hS3:=hS2.new hq6 [int (yy (p.acked.set f x))];refine ye (i:=ti2) (v:=int (yy (p.acked.set f x))) (b:=q6) (o:=0) (st2:=S2.sO q6 (.cells [int (yy (p.acked.set f x))])) rfl rfl rfl (zd _ _ _) (show 0+1<=1 by decide) (yw _ _ _ _) ?_;generalize S2.sO q6 _=S3 at hS3⊢;have h6:=(hS3.at 0 rfl).obj;have hq3:=(hS3.at 1 rfl).obj;refine Qbc ?_
 have fin:∀v' old S4,Sp [ja q6 [int (yy (p.acked.set f x))],ja q old,λa=>RowsQ 1 zn a (.s (.slice (some ⟨ba,0,none⟩) p.acked.length ca)) (p.acked.set f x),λa=>RowsQ 1 zn a vh p.has,λa=>RowsQ 3 zh a v' (p.mine.filter (nq λi=>decide (i.t<=yy (p.acked.set f x))))] S4->
   ∀new,new=ql {p with acked:=p.acked.set f x,mine:=p.mine.filter (nq λi=>decide (i.t<=yy (p.acked.set f x)))} v' vh (.s (.slice (some ⟨ba,0,none⟩) p.acked.length ca))->∃r st',AV.le (.tup []) r/\(S4.sO q (.cells new)).Has st'/\R r st':=by
  intro v' old S4 hS4 new hn;have hS5:=(hS4.at 1 rfl).store new;have⟨a,S6,e,hd,ha,hr⟩:=hS5;rw[e];rw[hn]at hr;exact Bu (Tt) ⟨λb x hx=>zg hx,λb y hy=>Ft hy⟩ (h v' S6 hr)
 by_cases hne:p.mine=[]
 ·have⟨a,g,_,_,hP⟩:=Foc.look1 (hS3.at 4 rfl);obtain⟨oa2,cap2,rfl,_⟩:=RowsQ.form (k:=3) (f:=zh) (l:=p.mine) hP;have hl0:p.mine.length=0:=by rw[hne];rfl
  have hfe:p.mine.filter (nq λi=>decide (i.t<=yy (p.acked.set f x)))=p.mine:=by rw[hne];rfl
  rw[hfe]at fin;have hd:=yrv oa2 cap2;rw[<-hl0]at hd;refine hd _ _ _ _ ?_;have hS4:=hS3;generalize S3=S4 at hS4⊢;refine ye (i:=ti62) (v:=.s (.slice oa2 p.mine.length cap2)) (b:=q) (o:=0+5) (l:=ql p _ _ _) rfl rfl rfl (hS4.at 1 rfl).obj (show 0+5+1<=11 by decide) rfl ?_;have e2:(p.mine.filter (nq λi=>decide (i.t<=yy (p.acked.set f x))))=p.mine:=hfe;exact fin _ _ _ hS4 _ rfl
 obtain⟨bm,cm,Lm,rfl,om,m1,m2,m3,mK⟩:=Foc.row (k:=3) (f:=zh) (l:=p.mine) (v:=vm) (hS3.at 4 rfl) hne;have hb6:bm≠q6:=λe=>by have h0:=Fcu.2 hne;rw[<-e,om]at h6;have h7:=congrArg List.length (AObj.cells.inj (Option.some.inj h6));rw[Fac,qc (k:=3) (λ_=>rfl)]at h7;simp at h7;omega
 refine yru om m1 m2 m3 h1.1 _ _ (λi=>decide (i.t<=yy (p.acked.set f x))) (λS=>S.obj q6=some (.cells [int (yy (p.acked.set f x))])) h6 (λS x hg=>(zf (Ne.symm hb6)).trans hg) (λS hg i hi R hR=>yu9 hg i R hR) _ (λN' L' o1 o2 o3 o4=>?_);obtain⟨y,rfl⟩:∃y,N'=S3.sO bm y:=o4.elim (λe=>⟨_,by rw[e];exact(ybf om).symm⟩) id;have hS4:=mK (λa=>RowsQ 3 zh a (.s (.slice (some ⟨bm,0,none⟩) (p.mine.filter (nq λi=>decide (i.t<=yy (p.acked.set f x)))).length cm)) (p.mine.filter (nq λi=>decide (i.t<=yy (p.acked.set f x))))) y (λa ha=>.inl (.inr ⟨bm,cm,L',rfl,ha.trans ((zd _ _ _).symm.trans o1),o2,o3,m3⟩));generalize S3.sO bm _=S4 at hS4⊢;exact ye (i:=ti62) (v:=.s (.slice (some ⟨bm,0,none⟩) (p.mine.filter (nq λi=>decide (i.t<=yy (p.acked.set f x)))).length cm)) (b:=q) (o:=0+5) (l:=ql p _ _ _) rfl rfl rfl (hS4.at 1 rfl).obj (show 0+5+1<=11 by decide) rfl (fin _ _ _ hS4 _ rfl)
def ylf{w:World}{T:BB}{k:Nat}{rows:List (List AV)}{b off n cap:Nat}(d:Nat)(hd:d<rows.length)(hn:n=rows.length)(h:VRel w T (.lst k rows none) (.slice (some ⟨b,off,none⟩) n cap)):
  VRel w T (.lst k (rows.drop d) none) (.slice (some ⟨b,off+d*k,none⟩) (n-d) (cap-d)):=by
 subst hn;generalize hx:(Value.slice (some ⟨b,off,none⟩) rows.length cap)=x at h;generalize hy:AV.lst k rows none=y at h;cases h with
 |lst rows2 tok b2 off2 cap2 k2 c hcap hk htok hc h1 hxx=>
  cases hy;cases hx;have e1:rows.length-d=(rows.drop d).length:=by rw[Fbk]
  have ix:∀i j,(d+i)*k+j=d*k+(i*k+j):=λi j=>by rw[Fb8,Nat.add_assoc]
  rw[e1];refine .lst (rows.drop d) none b (off+d*k) (cap-d) k (λi=>c (d*k+i)) (by rw[Fbk];omega) (λi row hi=>hk (d+i) row (by rw[Fbq]at hi;exact hi)) (λ_ h=>ω) (λi row j x hi hj=>?_) (λi row j x hi hj=>?_) (λi row j x hi hj=>?_)
  ·rw[Fbq]at hi;have:=hc (d+i) row j x hi hj;rw[ix,<-Nat.add_assoc off]at this;exact this
  ·rw[Fbq]at hi;have:=h1 (d+i) row j x hi hj;rw[ix]at this;exact this
  ·rw[Fbq]at hi;have:=hxx (d+i) row j x hi hj;rw[ix]at this;exact this
 |_=>first|(cases hy;exact absurd hd (Fa3 _))|(cases hy;done)|(cases hx;done)
def yhi(p:Per)(n:Int)(hf:p.fits)(hs:Ag p)(hp:qj p)(hc:Cr p)(hh:p.hashes.length=16)(R:Ja)
  (h:∀b cap N,RowsQ 1 ym N (.s (.slice (some ⟨b,0,none⟩) 17 cap)) (p.hashes++[n])->R (.tup [.agg (Lw (qk p n) (.s (.slice (some ⟨b,0+1*1,none⟩) (17-1) (cap-1)))),int 0]) N):Jb 138 [.agg (zo p),u64 n] Store.empty R:=by
 have⟨s1,s2,s3,s4,s5⟩:=hs;refine Qy 46 Tryz.func138 ?_;refine Ii p hf _ _ (λz hz=>?_);refine yj (zk (λc1=>?_) (λc1=>?_));rotate_left
 ·have:=hz.2 hp;rw[this]at c1;cases c1
 have hne:0<p.has.length:=ψx;refine ur p hne s3 _ _ (λz2 hz2=>yj (zk (λc2=>?_) (λc2=>?_)));rotate_left
 ·have:=hz2.2 hc;rw[this]at c2;cases c2
 refine zet p ⟨s1,s2,s3,s4,s5⟩ _ (λv N hv=>?_);have hv2:=hv;obtain⟨oa,cap,rfl,_⟩:=hv2.form;refine lg p.inputs s2 p.turn _ _ ?_;have hpt:0<=p.turn/\p.turn<1099511627776:=⟨hp.1.2.2.2.1,hc.2⟩
 refine Qd ⟨ψ,Dt (ie:=ti12) rfl Mn ψ hv n rfl s5 (λb cap2 L2 q1 q2 q3 q4=>?_)⟩;have hl17:(p.hashes++[n]).length=17:=by rw[Fac,hh];rfl
 have hr:RowsQ 1 ym ((N.sO b (.cells ((rws ym (p.hashes++[n])).flatten++L2)))) (.s (.slice (some ⟨b,0,none⟩) (p.hashes++[n]).length cap2)) (p.hashes++[n]):=.inl (.inr ⟨b,cap2,L2,rfl,zd _ _ _,q2,q3,q4⟩);rw[hl17]at hr⊢;exact⟨1,17,rfl,rfl,ψ,θ,.inl ⟨θ,ret (h _ _ _ hr)⟩⟩
def zef(p:Per)(n:Int)(hf:p.fits)(hs:Ag p)(hp:qj p)(hc:Cr p)(st:Store)(R:Ja)
  (h:R (.tup [.agg (zo (qk p n)),int 0]) st):Jb 138 [.agg (zo p),u64 n] st R:=by
 by_cases hh:p.hashes.length<16
 ·exact yhh p n hf hs hp hc hh st R h
 have hh:p.hashes.length=16:=by have:=hp.2.2.2.2.2.2.1;omega
 refine Dn (Q:=λr=>r=.tup [.agg (zo (qk p n)),int 0]) ((yhi p n hf hs hp hc hh (λr S=>∃b cap,RowsQ 1 ym S (.s (.slice (some ⟨b,0,none⟩) 17 cap)) (p.hashes++[n])/\r=.tup [.agg (Lw (qk p n) (.s (.slice (some ⟨b,0+1*1,none⟩) (17-1) (cap-1)))),int 0]) λb cap N hv=>⟨b,cap,hv,rfl⟩).frozen ?_) st R λr hr=>hr▸h;rintro r S ⟨b,cap,hv,rfl⟩;refine⟨_,rfl,λOth M W x sto hx=>?_⟩;have e:(qk p n).hashes=(p.hashes++[n]).drop 1:=by unfold qk;exact if_pos θ
 refine VRel.tup2 hx (λy hy=>?_) (λy hy=>qv hy);have e2:zo (qk p n)=(zo (qk p n)).set 9 (lst 1 ym ((p.hashes++[n]).drop 1)):=by rw[<-e];rfl
 have e1:Lw (qk p n) (.s (.slice (some ⟨b,0+1*1,none⟩) (17-1) (cap-1)))=(zo (qk p n)).set 9 (.s (.slice (some ⟨b,0+1*1,none⟩) (17-1) (cap-1))):=rfl;rw[e1]at hy;rw[e2];refine zap (λb o hb=>hb.1) hy λz hz=>?_;have hz:=VRel.eq_s hz;subst hz;have hb:=hv.borrow Mn ry sto (.s _);have:=ylf 1 (by rw[zi,Fac,hh];show 1<16+1;decide) (by rw[zi,Fac,hh];rfl) hb;have e3:(rws ym (p.hashes++[n])).drop 1=rws ym ((p.hashes++[n]).drop 1):=List.map_drop.symm;rw[e3]at this;exact this
def yiv{S:Store}{a b oa ob la lb ca cb:Nat}{x y:List AV}(ha:S.obj a=some (.cells x))(hb:S.obj b=some (.cells y))(hne:a≠b)(hy:y≠[])(R:Ja)(h:R (V.bool false) S):
  Jb 203 [.s (.slice (some ⟨a,oa,none⟩) la ca),.s (.slice (some ⟨b,ob,none⟩) lb cb)] S R:=
 ACalls.of_value λOth M w vs sto hr=>by
  obtain⟨u,v,rfl,h1,h2⟩:=zks hr;have h1:=VRel.eq_s h1;have h2:=VRel.eq_s h2;subst h1 h2;have⟨c1,e1,fr1,g1,g2,g3,_⟩:=(sto.obj a _ ha).1;have⟨c2,e2,fr2,k1,k2,k3,_⟩:=(sto.obj b _ hb).1;have hit:=zb 62 ti62 rfl;have hie:=zb 124 ti123 rfl;refine⟨.bool false,w,?_,_,S,M,h,.s _,sto,Chg.refl _ _⟩
  rw[run_callFunc_extern Tryz.func203 ζ ζ ζ (e:=Extern.SlicesOverlaps.overlaps #[62,62] #[4]) ζ,
   Lib.run_overlaps_apart w 62 4 124 (xq hit rfl) 3 (Go.V.run_sizeOf hie) ⟨a,oa,none⟩ ⟨b,ob,none⟩ la ca lb cb hne e1 e2 c1.size c2.size (by simp[World.shape?,g1]) (by simp[World.shape?,k1]) (by rw[<-k3];exact λe=>hy (Fex.1 e)) (by simp[World.frozen?,g1];omega) (by simp[World.frozen?,g1];omega)]
  rfl
def df(l:List Inp):∀y∈(rws zh l).flatten,y.one=true:=by intro y hy;have⟨r,hr,hy⟩:=Fdw.1 hy;obtain⟨b,_,rfl⟩:=Fag.1 hr;simp only[zh,Faw,Fbs,or_false]at hy;rcases hy with rfl|rfl|rfl<;>rfl
def zcu{S:Store}{vb:Nat}{x:Inp}(hv:S.obj vb=some (.cells (zh x))):SrcN Tryz.prog S 3 1 1 (.s (.slice (some ⟨vb,0,none⟩) 1 1)) (zh x):=by have:=SrcN.obj (P:=Tryz.prog) (k:=3) (m:=1) (n:=1) (o:=0) (cp:=1) hv (show 0+1*3<=3 by decide) (λy hy=>df [x] y (by show y∈zh x++[];rw[Fbi];exact List.mem_of_mem_drop (Fcs hy)));exact this
theorem mq(l:List Inp)(i:Nat):(rws zh l).flatten=(rws zh (l.take i)).flatten++(rws zh (l.drop i)).flatten:=by rw[<-Fc4,show rws zh (l.take i)++rws zh (l.drop i)=rws zh (l.take i++l.drop i)from(Fav ..).symm,Fbu]
def zcs{S:Store}{b m i cp:Nat}{l:List Inp}{L:List AV}(ho:S.obj b=some (.cells ((rws zh l).flatten++L)))(hi:i<=l.length):SrcN Tryz.prog S 3 m (l.length-i) (.s (.slice (some ⟨b,0+i*3,none⟩) m cp)) (rws zh (l.drop i)).flatten:=by
 have hA:(rws zh (l.take i)).flatten.length=0+i*3:=ψy;have hD:(rws zh (l.drop i)).flatten.length=(l.length-i)*3:=ψm;have e:(((rws zh l).flatten++L).drop (0+i*3)).take ((l.length-i)*3)=(rws zh (l.drop i)).flatten:=by rw[mq l i,Fas,<-hA,Fdg,<-hD,Feo]
 have:=SrcN.obj (P:=Tryz.prog) (k:=3) (m:=m) (n:=l.length-i) (o:=0+i*3) (cp:=cp) ho (by rw[Fac,qc (k:=3) (λ_=>rfl)];omega) (by rw[e];exact df _);rw[e]at this;exact this
def ymk{N:Store}{b cap vb i:Nat}{L:List AV}{l:List Inp}(ho:N.obj b=some (.cells ((rws zh l).flatten++L)))(hc1:l.length<=cap)(hc2:cap*3<=l.length*3+L.length)(hc3:cap<=9223372036854775807)(hl:l.length<=1000000)(hi:i<l.length)(x:Inp)(hv:N.obj vb=some (.cells (zh x)))(hne:vb≠b)(R:Ja)
  (h:∀b' cap' L' N',N'.obj b'=some (.cells ((rws zh (l.take i++x::l.drop i)).flatten++L'))->l.length+1<=cap'->cap'*3<=(l.length+1)*3+L'.length->cap'<=9223372036854775807->R (.s (.slice (some ⟨b',0,none⟩) (l.length+1) cap')) N'):Jb 170 [.s (.slice (some ⟨b,0,none⟩) l.length cap),int (i:Nat),.s (.slice (some ⟨vb,0,none⟩) 1 1)] N R:=by
 refine Qy 95 Tryz.func170 ?_;refine⟨i,l.length,rfl,rfl,θ,hc1,.inl ⟨θ,zu (λc1=>absurd c1 θ) (λc1=>Qd (bcd (λc2=>?_) (λc2=>?_)))⟩⟩
 ·refine⟨0,i,rfl,rfl,Fae _,θ,.inl ⟨θ,?_⟩⟩;refine Qd (Qd (yu0 rfl rfl rfl rfl (it:=ti62) (itn:=ti2) (ie:=ti123) rfl rfl rfl rfl rfl (n:=i) (m:=l.length+1-i) (cap:=cap) ho (by rw[Fac,qc (k:=3) (λ_=>rfl)];show cap*3<=_;omega) θ θ θ ψ θ ⟨by show(i+(l.length+1-i))*40<=_;omega,θ⟩ (λb2 cap2 f1 f2 f3=>?_)));have hvb2:vb≠b2:=λe=>by
   have:=f1.1;rw[<-e,hv]at this;cases this
  have hbb2:b≠b2:=λe=>by have:=f1.1;rw[<-e,ho]at this;cases this
  have e1:((rws zh l).flatten++L).take (i*ti123.size)=(rws zh (l.take i)).flatten:=by
   have hA:(rws zh (l.take i)).flatten.length=i*ti123.size:=by rw[qc (k:=3) (λ_=>rfl),Fai];show _=i*3;omega
   rw[mq l i,Fas,<-hA,Feo]
  rw[e1];have ob2:=zd N b2 (.cells ((rws zh (l.take i)).flatten++List.replicate ((cap2-i)*ti123.size) .any));have hv2:=(zf (x:=.cells ((rws zh (l.take i)).flatten++List.replicate ((cap2-i)*ti123.size) .any)) hvb2).trans hv;have hb2:=(zf (x:=.cells ((rws zh (l.take i)).flatten++List.replicate ((cap2-i)*ti123.size) .any)) hbb2).trans ho;generalize N.sO b2 _=N1 at ob2 hv2 hb2⊢;refine⟨i,i+(l.length+1-i),rfl,rfl,θ,θ,.inl ⟨θ,?_⟩⟩;have hA:(rws zh (l.take i)).flatten.length=0+i*ti123.size:=by rw[qc (k:=3) (λ_=>rfl),Fai];show _=0+i*3;omega
  refine Pf rfl rfl rfl rfl (it:=ti62) (ie:=ti123) rfl rfl rfl (zcu hv2) (n:=1) θ ob2 (by rw[Fac,hA,Faz];show 0+i*3+1*3<=0+i*3+(cap2-i)*3;omega) ?_;rw[wu hA,Fei];have ob3:=zd N1 b2 (.cells ((rws zh (l.take i)).flatten++zh x++List.replicate ((cap2-i)*ti123.size-(zh x).length) .any));have hb3:=(zf (x:=.cells ((rws zh (l.take i)).flatten++zh x++List.replicate ((cap2-i)*ti123.size-(zh x).length) .any)) hbb2).trans hb2;generalize N1.sO b2 _=N2 at ob3 hb3⊢;refine Qc zb yeo (Qd ⟨i+1,i+(l.length+1-i),rfl,rfl,θ,θ,.inl ⟨θ,⟨i,l.length,rfl,rfl,θ,θ,.inl ⟨θ,?_⟩⟩⟩⟩);have hA1:((rws zh (l.take i)).flatten++zh x).length=0+(i+1)*ti123.size:=by rw[Fac,hA];show 0+i*3+3=0+(i+1)*3;omega
  have hD:(rws zh (l.drop i)).flatten.length=(l.length-i)*3:=ψm;refine⟨Pf rfl rfl rfl rfl (it:=ti62) (ie:=ti123) rfl rfl rfl (zcs hb3 θ) (n:=l.length-i) θ ob3 (by rw[Fac,hA1,Faz];show 0+(i+1)*3+(l.length-i)*3<=0+(i+1)*3+((cap2-i)*3-3);omega) ?_,Tv⟩;rw[wu hA1,Fei];refine⟨Tv,ret ?_⟩;have e2:(rws zh (l.take i)).flatten++zh x++(rws zh (l.drop i)).flatten=(rws zh (l.take i++x::l.drop i)).flatten:=θi;rw[e2];have:=h b2 cap2 (List.replicate ((cap2-i)*ti123.size-(zh x).length-(rws zh (l.drop i)).flatten.length) .any) _ (zd N2 b2 _) θ (by rw[Faz,hD];show cap2*3<=(l.length+1)*3+((cap2-i)*3-3-(l.length-i)*3);omega) f3;rw[show i+(l.length+1-i)=l.length+1 by omega];exact this
 ·refine Qd ⟨0,l.length+1,rfl,rfl,θ,θ,.inl ⟨θ,Qd ⟨i+1,l.length+1,rfl,rfl,θ,θ,.inl ⟨θ,?_⟩⟩⟩⟩;refine yiv hv ho hne (λe=>by
   have h1:=congrArg List.length e;rw[Fac,qc (k:=3) (λ_=>rfl)]at h1;simp at h1;omega) _ ?_
  refine Qc zb yen (Qd ⟨i+1,l.length+1,rfl,rfl,θ,θ,.inl ⟨θ,⟨i,l.length+1,rfl,rfl,θ,θ,.inl ⟨θ,?_⟩⟩⟩⟩);have hX:((rws zh l).flatten++L).length=l.length*3+L.length:=by rw[Fac,qc (k:=3) (λ_=>rfl)]
  have hA:(rws zh (l.take i)).flatten.length=i*3:=ψy;have hD:(rws zh (l.drop i)).flatten.length=(l.length-i)*3:=ψm;have hD1:(rws zh (l.drop (i+1))).flatten.length=(l.length-(i+1))*3:=ψm;have hA1:(rws zh (l.take (i+1))).flatten=(rws zh (l.take i)).flatten++zh l[i]:=by rw[Fad hi,Gm];show _++(zh l[i]++[])=_;rw[Fbi]
  have e3:zq ((rws zh l).flatten++L) (0+0*ti123.size+(i+1)*ti123.size) (rws zh (l.drop i)).flatten=(rws zh (l.take i)).flatten++(zh l[i]++((rws zh (l.drop i)).flatten++L.drop 3)):=by rw[mq l (i+1),Fas,wu (by rw[hA1,Fac,hA];show i*3+3=0+0*3+(i+1)*3;omega),show(rws zh (l.drop i)).flatten.length=(rws zh (l.drop (i+1))).flatten.length+3 by rw[hD,hD1];omega,<-Fdh,Fdg,hA1];simp only[Fas]
  refine⟨Pf rfl rfl rfl rfl (it:=ti62) (ie:=ti123) rfl rfl rfl (zcs ho θ) (n:=l.length-i) θ ho (by rw[hX];show 0+0*3+(i+1)*3+(l.length-i)*3<=_;omega) ?_,Tv⟩;rw[e3];have ob3:=zd N b (.cells ((rws zh (l.take i)).flatten++(zh l[i]++((rws zh (l.drop i)).flatten++L.drop 3))));have hv3:=(zf (x:=.cells ((rws zh (l.take i)).flatten++(zh l[i]++((rws zh (l.drop i)).flatten++L.drop 3)))) hne).trans hv;generalize N.sO b _=N2 at ob3 hv3⊢;refine⟨Tv,⟨i,l.length+1,rfl,rfl,θ,θ,.inl ⟨θ,Pf rfl rfl rfl rfl (it:=ti62) (ie:=ti123) rfl rfl rfl (zcu hv3) (n:=1) θ ob3 (by rw[Fac,hA,Fac];show 0+0*3+i*3+1*3<=i*3+(3+_);omega) ?_⟩⟩⟩;rw[wu (show(rws zh (l.take i)).flatten.length=0+0*ti123.size+i*ti123.size by rw[hA];show i*3=0+0*3+i*3;omega),show(zh x).length=(zh l[i]).length from rfl,Fdg];refine ret ?_;have e2:(rws zh (l.take i)).flatten++zh x++((rws zh (l.drop i)).flatten++L.drop 3)=(rws zh (l.take i++x::l.drop i)).flatten++L.drop 3:=θi;rw[e2];exact h b cap (L.drop 3) _ (zd N2 b _) θ (by rw[Fbk];omega) hc3
section
variable {vb:Nat} {N:Store}
def zct{S:Store}{x:Inp}(hv:S.obj vb=some (.cells (zh x))):SrcOK Tryz.prog S 3 1 (.s (.slice (some ⟨vb,0,none⟩) 1 1)) (zh x):=by have:=SrcOK.obj (P:=Tryz.prog) (k:=3) (m:=1) (o:=0) (cp:=1) hv (show 0+1*3<=3 by decide) (λy hy=>df [x] y (by show y∈zh x++[];rw[Fbi];exact List.mem_of_mem_drop (Fcs hy)));exact this
def zg3{q:Prop}(h:q:=by
 refine⟨.inr ⟨_,_,rfl,rfl,Vb (ie:=ti123) (n:=l.length) (m:=1) (xs:=zh x) rfl ho (by rw[hX];exact hc2) hc1 (zct hv) ⟨by show(l.length+1)*40<=_;omega,θ⟩ (λhr=>?_) (λhr b' cap' hb h1 h2=>?_)⟩⟩
 ·refine ret (h b cap (L.drop 3) _ ?_ hr ?_ hc3)
  ·rw[zd];have e4:zq ((rws zh l).flatten++L) (l.length*3) (zh x)=(rws zh (l++[x])).flatten++L.drop 3:=by
    rw[wu hA,e2];rfl
   exact congrArg (λz=>some (AObj.cells z)) e4
  ·rw[Fbk];omega
 ·refine ret (h b' cap' (List.replicate ((cap'-(l.length+1))*3) .any) _ ?_ h1 ?_ h2)
  ·rw[zd];have e1:((rws zh l).flatten++L).take (l.length*3)=(rws zh l).flatten:=by rw[<-hA,Feo]
   have e3:((rws zh l).flatten++L).take (l.length*3)++zh x=(rws zh (l++[x])).flatten:=by rw[e1,e2]
   exact congrArg (λz=>some (AObj.cells (z++List.replicate ((cap'-(l.length+1))*3) .any))) e3
  ·rw[Faz];omega):q:=h
def ymm{b cap:Nat}{L:List AV}{l:List Inp}(ho:N.obj b=some (.cells ((rws zh l).flatten++L)))(hc1:l.length<=cap)(hc2:cap*3<=l.length*3+L.length)(hc3:cap<=9223372036854775807)(hl:l.length<=1000000)(x:Inp)(hv:N.obj vb=some (.cells (zh x)))(R:Ja)
  (h:∀b' cap' L' N',N'.obj b'=some (.cells ((rws zh (l++[x])).flatten++L'))->l.length+1<=cap'->cap'*3<=(l.length+1)*3+L'.length->cap'<=9223372036854775807->R (.s (.slice (some ⟨b',0,none⟩) (l.length+1) cap')) N'):Jb 170 [.s (.slice (some ⟨b,0,none⟩) l.length cap),int (l.length:Nat),.s (.slice (some ⟨vb,0,none⟩) 1 1)] N R:=by
 have hX:((rws zh l).flatten++L).length=l.length*3+L.length:=by rw[Fac,qc (k:=3) (λ_=>rfl)]
 have hA:(rws zh l).flatten.length=l.length*3:=qc (k:=3) (λ_=>rfl) l;have e2:(rws zh l).flatten++zh x=(rws zh (l++[x])).flatten:=by rw[Gm];show _=_++(zh x++[]);rw[Fbi]
 refine Qy 95 Tryz.func170 ?_;have tl:∀z:AV,z=z->True:=λ_ _=>Tv;by_cases hc:l.length<cap
 ·exact⟨l.length,l.length,rfl,rfl,Fah _,hc1,.inl ⟨hc,zu (λ_=>zg3) (λc1=>absurd rfl c1)⟩⟩
 ·exact⟨l.length,l.length,rfl,rfl,Fah _,hc1,.inr ⟨θ,zu (λ_=>zg3) (λc1=>absurd rfl c1)⟩⟩
def zg2{q:Prop}(h:q:=by
 refine⟨.inr ⟨_,_,rfl,rfl,zkv (ie:=ti123) (m:=1) (xs:=zh x) rfl (zct hv) ⟨by show 1*40<=_;omega,θ⟩ ψ (λb' cap' hb h1 h2=>ret (h b' cap' (List.replicate ((cap'-1)*3) .any) _ ?_ h1 ?_ h2))⟩⟩
 ·rw[zd];rfl
 ·rw[Faz];omega):q:=h
def ymj{a:Option Addr}(hsp:Ia a)(x:Inp)(hv:N.obj vb=some (.cells (zh x)))(R:Ja)
  (h:∀b' cap' L' N',N'.obj b'=some (.cells ((rws zh [x]).flatten++L'))->1<=cap'->cap'*3<=1*3+L'.length->cap'<=9223372036854775807->R (.s (.slice (some ⟨b',0,none⟩) 1 cap')) N'):Jb 170 [.s (.slice a 0 0),int ((0:Nat):Nat),.s (.slice (some ⟨vb,0,none⟩) 1 1)] N R:=by
 refine Qy 95 Tryz.func170 ?_;rcases a with _|⟨b,o,v⟩
 ·exact⟨rfl,rfl,zg2⟩
 ·have hs:v=none:=hsp _ rfl;subst hs;exact⟨0,0,rfl,rfl,Fah _,Fah _,.inr ⟨rfl,zg2⟩⟩
end
def ymh{N0:Store}{v:AV}{l:List Inp}(hr:RowsQ 3 zh N0 v l)(hl:l.length<=1000000){vb i:Nat}(hf:Fresh N0 vb)(hi:i<=l.length)(x:Inp)(R:Ja)
  (h:∀v' N',RowsQ 3 zh N' v' (l.take i++x::l.drop i)->R v' N'):Jb 170 [v,int (i:Nat),.s (.slice (some ⟨vb,0,none⟩) 1 1)] (N0.sO vb (.cells (zh x))) R:=by
 have hv:=zd N0 vb (.cells (zh x));have hlen:(l.take i++x::l.drop i).length=l.length+1:=by rw[Fac,Fbf,Fai,Fbk];omega
 have nil:∀a,Ia a->l=[]->v=.s (.slice a 0 0)->Jb 170 [v,int (i:Nat),.s (.slice (some ⟨vb,0,none⟩) 1 1)] (N0.sO vb (.cells (zh x))) R:=λa ha e1 e2=>by subst e1 e2;have:i=0:=Nat.le_zero.1 hi;subst this;refine ymj ha x hv R λb' cap' L' N' o1 o2 o3 o4=>h _ N' (.inl (.inr ⟨b',cap',L',rfl,o1,o2,o3,o4⟩))
 rcases hr with(⟨e1,e2⟩|⟨b,cap,L,rfl,ho,h1,h2,h3⟩)|⟨a,ha,e1,e2⟩
 ·exact nil none (λ_ h=>ω) e2 e1
 ·have hbv:b≠vb:=λe=>by
   have:=hf.1;rw[<-e,ho]at this;cases this
  have ho:=(zf (x:=.cells (zh x)) hbv).trans ho;by_cases e:i<l.length
  ·refine ymk ho h1 h2 h3 hl e x hv (Ne.symm hbv) R λb' cap' L' N' o1 o2 o3 o4=>h _ N' (.inl (.inr ⟨b',cap',L',by rw[hlen],o1,by rw[hlen];exact o2,by rw[hlen];exact o3,o4⟩))
  ·have:i=l.length:=θ;subst this;rw[Faj,Fdy]at h hlen;refine ymm ho h1 h2 h3 hl x hv R λb' cap' L' N' o1 o2 o3 o4=>h _ N' (.inl (.inr ⟨b',cap',L',by rw[hlen],o1,by rw[hlen];exact o2,by rw[hlen];exact o3,o4⟩))
 ·exact nil a ha e2 e1
def ybk:V.Sched:=(sv [0,2,3] (.e 1 [3] (.e 4 [] (.e 5 [] (.e 6 [] (.e 7 [] (.e 8 [] .done .stop) .stop) .stop) .stop) .stop) .stop))
def znz(l:List Inp)(hl:Dy l)(hr:Di l)(x:Inp)(hx:small x.C)(R:Ja)(hno:Cn l x->R (.tup [.s (.slice none 0 0),V.bool false]) Store.empty)
  (h:¬Cn l x->∀v N,RowsQ 3 zh N v (j5 l x)->R (.tup [v,V.bool true]) N):Jb 131 [lst 3 zh l,.agg (zh x)] Store.empty R:=by
 have hlen:=hl.1;refine Qa (c:=cfg 22 [20,1000020] []) zb Tryz.func131 ?_;refine ytf l θ hr x _ rfl _ _ (λi hi z hz=>?_);refine zk (λc1=>?_) (λc1=>?_)
 ·exact ret (hno (hz.1 c1))
 have hn:¬Cn l x:=λhh=>ψw;refine Qc zb ybk ⟨zb0 l hl _ (λv N hv=>?_),Tv⟩;have hv2:=hv;obtain⟨oa,cap,rfl,_⟩:=hv2.form;refine⟨Qe,⟨I6 x hx _ _ ⟨Tv,⟨⟨ψ,λvb hvb=>⟨Tv,⟨ymh hv hlen hvb hi.1 x _ (λv' N' hv'=>⟨Tv,?_⟩),Tv⟩⟩⟩,Tv⟩⟩,Tv⟩⟩;have hv3:=hv';obtain⟨oa',cap',rfl,_⟩:=hv3.form;refine Qbb (Qbb (ret (h hn _ N' ?_)));rw[yml hi];exact hv'
def zg8(x:Inp):∀y∈zh x,y.one=true:=λy hy=>df [x] y (by show y∈zh x++[];rw[Fbi];exact hy)
def zb3(l:List Inp)(hl:Dy l)(hr:Di l)(x:Inp)(hx:small x.C)(st:Store)(R:Ja)(hno:Cn l x->R (.tup [.s (.slice none 0 0),V.bool false]) st)
  (h:¬Cn l x->R (.tup [lst 3 zh (j5 l x),V.bool true]) st):Jb 131 [lst 3 zh l,.agg (zh x)] st R:=by
 refine Dn (Q:=λr=>(Cn l x/\r=.tup [.s (.slice none 0 0),V.bool false])\/(¬Cn l x/\r=.tup [lst 3 zh (j5 l x),V.bool true])) ?_ st R λr hr=>?_
 ·refine(znz l hl hr x hx (λr S=>(Cn l x/\r=.tup [.s (.slice none 0 0),V.bool false])\/(¬Cn l x/\∃v,RowsQ 3 zh S v (j5 l x)/\r=.tup [v,V.bool true])) (λhh=>.inl ⟨hh,rfl⟩) λhh v N hv=>.inr ⟨hh,v,hv,rfl⟩).frozen ?_;rintro r S (⟨hh,rfl⟩|⟨hh,v,hv,rfl⟩)
  ·exact⟨_,.inl ⟨hh,rfl⟩,λOth M W y sto hy=>qv hy⟩
  ·exact⟨_,.inr ⟨hh,rfl⟩,λOth M W y sto hy=>VRel.tup2 hy (λz hz=>RowsQ.borrowL (k:=3) (f:=zh) (λ_=>rfl) zg8 hv sto hz) (λz hz=>qv hz)⟩
 ·rcases hr with⟨hh,rfl⟩|⟨hh,rfl⟩
  ·exact hno hh
  ·exact h hh
theorem ym1(n:Nat)(v:Int):(il n λ_=>v)=(rws zn (List.replicate n v)).flatten:=by
 unfold il rws;induction n with
 |zero=>rfl
 |succ n ih=>simp[Fcw,List.replicate_succ',ih,zn]
def yg8(v:Int)(n:Nat)(h0:1<=n)(hn:n<=1000000)(st:Store)(R:Ja)(h:R (yc (List.replicate n v)) st):
  Jb 62 [lst 1 zn [v],int (n:Nat)] st R:=by
 refine Dn (Q:=λr=>r=yc (List.replicate n v)) ((m4 v n h0 hn Store.empty (λr S=>RowsQ 1 zn S r (List.replicate n v)) λb hf=>?_).frozen ?_) st R λr hr=>hr▸h
 ·refine .inl (.inr ⟨b,n,[],by rw[Faz],?_,?_,?_,?_⟩)
  ·rw[zd,Fbi,ym1]
  ·rw[Faz];exact Fah _
  ·rw[Faz];exact Fah _
  ·omega
 ·exact λr S hr=>⟨_,rfl,λOth M w v sto hx=>hr.borrow Mj Sb sto hx⟩
def xt(id n d:Int):Per:=⟨id,n,d,0,d-1,[],[],if 1<=n/\n<=8 then List.replicate n.toNat (d-1)else [],if 1<=n/\n<=8 then List.replicate n.toNat (d-1)else [],[],false⟩
def Az:Per:=⟨0,0,0,0,0,[],[],[],[],[],false⟩
def yjv(id n d:Int):(xt id n d).fits:=by
 have hl:(xt id n d).has.length<=8:=by
  show(if 1<=n/\n<=8 then List.replicate n.toNat (d-1)else []).length<=8;split
  ·rw[Faz];omega
  ·exact Fae _
 have hl2:(xt id n d).acked.length<=8:=hl;exact⟨⟨by simp[xt],by simp[xt]⟩,⟨by simp[xt],by simp[xt]⟩,θ,θ,by simp[xt]⟩
def yjw(id n d:Int)(x y:AV):AV.le (.agg [int id,int n,int d,int 0,int (d-1),.s (.slice none 0 0),.s (.slice none 0 0),x,y,.s (.slice none 0 0),V.bool false]) (.agg [int id,int n,int d,int 0,int (d-1),lst 3 zh [],lst 3 zh [],x,y,lst 1 ym [],V.bool false]):=
 AV.le_aggL ⟨Tt,Tt,Tt,Tt,Tt,AV.le_nil 3,AV.le_nil 3,Tt,Tt,AV.le_nil 1,Tt,Tv⟩
def bv(id n d:Int):AV.le (.agg [int id,int n,int d,int 0,int (d-1),.s (.slice none 0 0),.s (.slice none 0 0),.s (.slice none 0 0),.s (.slice none 0 0),.s (.slice none 0 0),V.bool false]) (.agg (zo ⟨id,n,d,0,d-1,[],[],[],[],[],false⟩)):=
 AV.le_aggL ⟨Tt,Tt,Tt,Tt,Tt,AV.le_nil 3,AV.le_nil 3,AV.le_nil 1,AV.le_nil 1,AV.le_nil 1,Tt,Tv⟩
def Pi:AV.le (.agg [int 0,int 0,int 0,int 0,int 0,.s (.slice none 0 0),.s (.slice none 0 0),.s (.slice none 0 0),.s (.slice none 0 0),.s (.slice none 0 0),V.bool false]) (.agg (zo Az)):=
 AV.le_aggL ⟨Tt,Tt,Tt,Tt,Tt,AV.le_nil 3,AV.le_nil 3,AV.le_nil 1,AV.le_nil 1,AV.le_nil 1,Tt,Tv⟩
def yii(id n d:Int)(hd:-1000000<=d/\d<=1000000)(st:Store)(R:Ja)
  (h1:¬qj (xt id n d)->R (.tup [.agg (zo Az),int 1]) st) (h2:qj (xt id n d)->R (.tup [.agg (zo (xt id n d)),int 0]) st):Jb 28 [int id,int n,int d] st R:=by
 refine Qy 38 Tryz.func28 ?_;refine Qd ?_;have mid:∀q:Per,q=xt id n d->∀z:Bool,(z=true↔qj q)->(z=true->R (.tup [.agg (zo q),int 0]) st)/\(z=false->R (.tup [.agg (zo Az),int 1]) st):=λq hq z hz=>by subst hq;exact⟨λe=>h2 (hz.1 e),λe=>h1 λhh=>by rw[hz.2 hh]at e;cases e⟩
 have hf:=yjv id n d;refine bcd (λc1=>?_) (λc1=>?_)
 ·refine bcd (λc2=>?_) (λc2=>?_)
  ·have hn:((n.toNat:Nat):Int)=n:=θ;have e:xt id n d=⟨id,n,d,0,d-1,[],[],List.replicate n.toNat (d-1),List.replicate n.toNat (d-1),[],false⟩:=by
    unfold xt;rw[if_pos ⟨c1,c2⟩]
   refine Qd ⟨ψ,?_⟩;have hr:=λ(R':Ja) (hh:R' (yc (List.replicate n.toNat (d-1))) st)=>yg8 (d-1) n.toNat θ θ st R' hh;rw[hn]at hr;refine hr _ (Qd ⟨ψ,hr _ ?_⟩);rw[e]at hf;have hle:AV.le _ (.agg (zo ⟨id,n,d,0,d-1,[],[],List.replicate n.toNat (d-1),List.replicate n.toNat (d-1),[],false⟩)):=yjw id n d (yc (List.replicate n.toNat (d-1))) (yc (List.replicate n.toNat (d-1)));refine ACalls.le (xs:=[_]) (ys:=[_]) ⟨hle,Tv⟩ (Ii _ hf _ _ (λz hz=>?_));have⟨m1,m2⟩:=mid _ e.symm z hz;refine yj (zk (λc3=>?_) (λc3=>?_))
   ·exact⟨.tup [.agg (zo _),int 0],st,AV.le_tupL (xs:=[.agg [int id,int n,int d,int 0,int (d-1),.s (.slice none 0 0),.s (.slice none 0 0),yc (List.replicate n.toNat (d-1)),yc (List.replicate n.toNat (d-1)),.s (.slice none 0 0),V.bool false],int 0]) (ys:=[.agg (zo _),int 0]) ⟨hle,Tt,Tv⟩,Store.Has.refl st,m1 c3⟩
   ·exact⟨.tup [.agg (zo _),int 1],st,AV.le_tupL (xs:=[.agg [int 0,int 0,int 0,int 0,int 0,.s (.slice none 0 0),.s (.slice none 0 0),.s (.slice none 0 0),.s (.slice none 0 0),.s (.slice none 0 0),V.bool false],int 1]) (ys:=[.agg (zo Az),int 1]) ⟨Pi,Tt,Tv⟩,Store.Has.refl st,m2 c3⟩
  ·have e:xt id n d=⟨id,n,d,0,d-1,[],[],[],[],[],false⟩:=by
    unfold xt;rw[if_neg θ]
   rw[e]at hf;refine ACalls.le (xs:=[_]) (ys:=[_]) ⟨bv id n d,Tv⟩ (Ii _ hf _ _ (λz hz=>?_));have⟨m1,m2⟩:=mid _ e.symm z hz;refine yj (zk (λc3=>?_) (λc3=>?_))
   ·exact⟨.tup [.agg (zo _),int 0],st,AV.le_tupL (xs:=[.agg [int id,int n,int d,int 0,int (d-1),.s (.slice none 0 0),.s (.slice none 0 0),.s (.slice none 0 0),.s (.slice none 0 0),.s (.slice none 0 0),V.bool false],int 0]) (ys:=[.agg (zo _),int 0]) ⟨bv id n d,Tt,Tv⟩,Store.Has.refl st,m1 c3⟩
   ·exact⟨.tup [.agg (zo _),int 1],st,AV.le_tupL (xs:=[.agg [int 0,int 0,int 0,int 0,int 0,.s (.slice none 0 0),.s (.slice none 0 0),.s (.slice none 0 0),.s (.slice none 0 0),.s (.slice none 0 0),V.bool false],int 1]) (ys:=[.agg (zo Az),int 1]) ⟨Pi,Tt,Tv⟩,Store.Has.refl st,m2 c3⟩
 ·have e:xt id n d=⟨id,n,d,0,d-1,[],[],[],[],[],false⟩:=by
   unfold xt;rw[if_neg θ]
  rw[e]at hf;refine ACalls.le (xs:=[_]) (ys:=[_]) ⟨bv id n d,Tv⟩ (Ii _ hf _ _ (λz hz=>?_));have⟨m1,m2⟩:=mid _ e.symm z hz;refine yj (zk (λc3=>?_) (λc3=>?_))
  ·exact⟨.tup [.agg (zo _),int 0],st,AV.le_tupL (xs:=[.agg [int id,int n,int d,int 0,int (d-1),.s (.slice none 0 0),.s (.slice none 0 0),.s (.slice none 0 0),.s (.slice none 0 0),.s (.slice none 0 0),V.bool false],int 0]) (ys:=[.agg (zo _),int 0]) ⟨bv id n d,Tt,Tv⟩,Store.Has.refl st,m1 c3⟩
  ·exact⟨.tup [.agg (zo _),int 1],st,AV.le_tupL (xs:=[.agg [int 0,int 0,int 0,int 0,int 0,.s (.slice none 0 0),.s (.slice none 0 0),.s (.slice none 0 0),.s (.slice none 0 0),.s (.slice none 0 0),V.bool false],int 1]) (ys:=[.agg (zo Az),int 1]) ⟨Pi,Tt,Tv⟩,Store.Has.refl st,m2 c3⟩
end Go.Proofs
