/- Ground of laws of throngtop: contracts and plain lemmas; no condition beyond the row's own. -/
import Derived.Test.YtphhbmaalpdnoaaGreatLA
import Derived.Test.YtphhbmaalpdnoaaGreatKQ
set_option linter.unusedSimpArgs false
set_option linter.unusedVariables false
set_option linter.defProp false
namespace Go.Proofs
open Go Go.V
set_option maxRecDepth 20000
set_option maxHeartbeats 4000000
def Rr:List AV:=[int 0,int 0,int 0,int 0,int 0,int 0]
theorem yrx(b:Bld):∀y∈zi b,y.one=true:=by intro y hy;obtain⟨x,rfl,h⟩:=Rj b y hy;exact h
theorem yd7(l:List Bld):∀y∈(rws zi l).flatten,y.one=true:=by intro y hy;obtain⟨r,hr,hy⟩:=List.mem_flatten.1 hy;obtain⟨b,_,rfl⟩:=Fai.1 hr;exact yrx b y hy
theorem ypo{N:Store}{v:AV}{l:List Bld}(hv:RowsQ 6 zi N v l)(hl:l.length<=256){i:Nat}(hi:i<l.length)(R:Ja)(h:∀v' N',RowsQ 6 zi N' v' (l.eraseIdx i)->R v' N'):Jb 291 [v,int (i:Nat),int ((i:Int)+1)] N R:=by
 rcases hv with(⟨_,hl0⟩|⟨b,cap,L,rfl,ho,hc1,hc2,hc3⟩)|⟨_,_,_,hl0⟩
 ·subst hl0;exact absurd hi (Fa3 _)
 rotate_left
 ·subst hl0;exact absurd hi (Fa3 _)
 refine Qa (c:=cfg 33) zb Tryz.func291 ?_;refine ysy (i:=i) (j:=i+1) (m:=l.length) rfl rfl rfl rfl θ θ hc1 θ ?_;refine zw (λhh=>absurd hh θ) (λ_=>?_);refine Qc zb ybn ?_;refine⟨0,i,rfl,rfl,Fae _,θ,.inl ⟨θ,?_⟩⟩;by_cases hc:i+1<cap
 ·refine⟨i+1,l.length,rfl,rfl,θ,hc1,.inl ⟨hc,?_⟩⟩;refine⟨⟨.inr ⟨_,_,rfl,rfl,zgp (ie:=ti61) (n:=i) (m:=l.length-(i+1)) (xs:=(rws zi (l.drop (i+1))).flatten) rfl ho (by rw[Fad,wj ko];exact hc2) θ (by have:=SrcOK.obj (P:=Tryz.prog) (k:=6) (m:=l.length-(i+1)) (o:=0+(i+1)*6) (cp:=cap-(i+1)) ho (by rw[Fad,wj ko];omega) (by rw[Fbi,zeq ko θ];exact yd7 _);rw[Fbi,zeq ko θ]at this;rw[Fbi];exact this) ⟨by show(i+(l.length-(i+1)))*48<=_;omega,θ⟩ (λ_=>⟨Tv,?_⟩) (λhh=>θ)⟩⟩,Tv⟩;rw[show zp ((rws zi l).flatten++L) (i*ti61.size) (rws zi (l.drop (i+1))).flatten=(rws zi (l.eraseIdx i)).flatten++(zi l[l.length-1]++L)from zej ko hi L];have hel:=zek hi;have ho2:(N.sO b (.cells ((rws zi (l.eraseIdx i)).flatten++(zi l[l.length-1]++L)))).obj b=some (.cells ((rws zi (l.eraseIdx i)).flatten++(zi l[l.length-1]++L))):=zd _ _ _;generalize N.sO b _=N2 at ho2⊢;refine Qau ?_;refine⟨i+(l.length-(i+1)),l.length,rfl,rfl,θ,hc1,.inl ⟨θ,?_⟩⟩;refine zg1 (ie:=ti61) (b:=b) (off:=0+(i+(l.length-(i+1)))*ti61.size) (l:=(rws zi (l.eraseIdx i)).flatten++(zi l[l.length-1]++L)) rfl rfl rfl rfl rfl rfl rfl θ ho2 (by rw[Fad,wj ko,hel,Fad,ko];show 0+(i+(l.length-(i+1)))*6+6<=_;omega) ψ ?_;have e3:zp ((rws zi (l.eraseIdx i)).flatten++(zi l[l.length-1]++L)) (0+(i+(l.length-(i+1)))*ti61.size) (ti61.zero.map AV.s)=(rws zi (l.eraseIdx i)).flatten++(Rr++L):=by
   have h1:(rws zi (l.eraseIdx i)).flatten.length=0+(i+(l.length-(i+1)))*ti61.size:=by rw[wj ko,hel];show _=0+(i+(l.length-(i+1)))*6;omega
   rw[Gd h1,Fao];rfl
  rw[e3];have e4:i+(l.length-(i+1))=(l.eraseIdx i).length:=θ;refine ret (h _ _ (.inl (.inr ⟨b,cap,Rr++L,by rw[<-e4];rfl,zd _ _ _,θ,by rw[Fad];show cap*6<=_*6+(6+L.length);omega,hc3⟩)))
 ·refine⟨i+1,l.length,rfl,rfl,θ,hc1,.inr ⟨θ,?_⟩⟩;have e1:l.drop (i+1)=[]:=Fc2 θ;have hsp:=zej ko hi L;rw[e1]at hsp;have hsp:zp ((rws zi l).flatten++L) (i*6) []=(rws zi (l.eraseIdx i)).flatten++(zi l[l.length-1]++L):=hsp;have hsrc:SrcOK Tryz.prog N 6 0 (.s (.slice (some ⟨b,0,none⟩) 0 0)) []:=by
   have:=SrcOK.obj (P:=Tryz.prog) (k:=6) (m:=0) (o:=0) (cp:=0) ho θ (λy hy=>by simp at hy);simpa using this
  refine⟨⟨.inr ⟨_,_,rfl,rfl,zgp (ie:=ti61) (n:=i) (m:=0) (xs:=[]) rfl ho (by rw[Fad,wj ko];exact hc2) θ hsrc ⟨by show(i+(0))*48<=_;omega,θ⟩ (λ_=>⟨Tv,?_⟩) (λhh=>θ)⟩⟩,Tv⟩;rw[show zp ((rws zi l).flatten++L) (i*ti61.size) []=(rws zi (l.eraseIdx i)).flatten++(zi l[l.length-1]++L)from hsp];have hel:=zek hi;have ho2:(N.sO b (.cells ((rws zi (l.eraseIdx i)).flatten++(zi l[l.length-1]++L)))).obj b=some (.cells ((rws zi (l.eraseIdx i)).flatten++(zi l[l.length-1]++L))):=zd _ _ _;generalize N.sO b _=N2 at ho2⊢;refine Qau ?_;refine⟨i+(0),l.length,rfl,rfl,θ,hc1,.inl ⟨θ,?_⟩⟩;refine zg1 (ie:=ti61) (b:=b) (off:=0+(i+(0))*ti61.size) (l:=(rws zi (l.eraseIdx i)).flatten++(zi l[l.length-1]++L)) rfl rfl rfl rfl rfl rfl rfl θ ho2 (by rw[Fad,wj ko,hel,Fad,ko];show 0+(i+(0))*6+6<=_;omega) ψ ?_;have e3:zp ((rws zi (l.eraseIdx i)).flatten++(zi l[l.length-1]++L)) (0+(i+(0))*ti61.size) (ti61.zero.map AV.s)=(rws zi (l.eraseIdx i)).flatten++(Rr++L):=by
   have h1:(rws zi (l.eraseIdx i)).flatten.length=0+(i+(0))*ti61.size:=by rw[wj ko,hel];show _=0+(i+(0))*6;omega
   rw[Gd h1,Fao];rfl
  rw[e3];have e4:i+(0)=(l.eraseIdx i).length:=θ;refine ret (h _ _ (.inl (.inr ⟨b,cap,Rr++L,by rw[<-e4];rfl,zd _ _ _,θ,by rw[Fad];show cap*6<=_*6+(6+L.length);omega,hc3⟩)))
section
variable {v:AV} {i:Nat} {w:Wld}
theorem ypn{N S:Store}(hd:zh N S){l:List Bld}(hv:RowsQ 6 zi N v l)(hl:l.length<=256)(hi:i<l.length)(R:Ja)(h:R (lst 6 zi (l.eraseIdx i)) S):Jb 291 [v,int (i:Nat),int ((i:Int)+1)] (N.un S) R:=by
 have h1:Jb 291 [v,int (i:Nat),int ((i:Int)+1)] N λr S2=>r=lst 6 zi (l.eraseIdx i)/\S2=Store.empty:=
  ACalls.frozenTo (ypo hv hl hi (λr N'=>RowsQ 6 zi N' r (l.eraseIdx i)) λv' N' h=>h) λr N' hr=>
   ⟨_,Store.empty,⟨rfl,rfl⟩,(λb x hx=>θa),(λb x hx=>θa),λOth M w v' sto hx=>by refine(zcn hr sto hx).mono λb o hT=>?_;exact⟨hT.1,hT.2.resolve_right λhh=>hh rfl⟩⟩
 exact ACalls.frame hd h1 λr S2 ⟨e,e2⟩ hd2=>by subst e e2;rw[Ag];exact h
theorem ypd(b:Bld)(pb xw s:Nat)(c:Cmd)(fv:AV)(st:Store)(hb:st.obj pb=some (.cells [ptr xw]))(hx:st.obj xw=some (.cells (wkC s c fv)))(R:Ja)(h:R (V.bool (decide (b.id=c.N))) st):Jb 290 ([.agg (zi b)]++[ptr pb]) st R:=by
 rw[<-bv]at h;refine Qa (c:=cfg 12) zb Tryz.func290 ?_;refine Qc zb ybo ?_;refine Qav ?_;refine Qav ?_;refine⟨⟨?_,?_⟩,Tv⟩
 ·repeat(first|exact Tv|refine⟨rfl,?_⟩|refine⟨za (o:=st.obj pb) _ hb rfl,?_⟩|refine⟨za (o:=st.obj xw) _ hx rfl,?_⟩)
 exact ret h
theorem yph{c:Cmd}(h:Gx w.B c.N=some i)(hi:i<w.B.length):drE w c=if w.B[i].owner=c.P then 0 else 6:=by unfold drE;rw[h];simp[Fbk,hi]
theorem yom{l:List Bld}{id:Int}(h:Gx l id=some i):∃hi:i<l.length,l[i].id=id:=by unfold Gx at h;rw[Fbb]at h;obtain⟨h1,h2,_⟩:=h;exact⟨h1,of_decide_eq_true h2⟩
theorem zhx{F G:Store}{xw s p:Nat}{L:List Ent}{o0 o1 o2:AV}{c:Cmd}{fv:AV}(hW:Work F G xw s p w v L o0 o1 o2 c fv)(hm:MayF w)(R:Ja)
  (h:∀S',drE w c≠0->R (int (drE w c)) S') (h0:drE w c=0->∀S',Dp S' xw s c fv (drW w c)->R (int 0) S'):Jb 198 [ptr xw] (F.un (svS G s w v o0 o1 o2 p)) R:=by
 have hx:=hW.x (F':=F) (q0:=o0) (q1:=o1) (q2:=o2);have hs:=hW.s (F':=F) (q0:=o0) (q1:=o1) (q2:=o2);have hr:=hW.r (F':=F) (q0:=o0) (q1:=o1) (q2:=o2);have hxs:=hW.ne;have hos:=hW.os;have hB:=hm.hB;obtain⟨oa,cap,e,hget⟩:=hW.S.hu.form;subst e;generalize F.un (svS G s w _ o0 o1 o2 p)=S at hx hs hr⊢;refine Qa (c:=cfg 56 [1] []) zb Tryz.func198 ?_;intro pb hpb;have hbx:xw≠pb:=λe=>by subst e;have:=hpb.1;rw[hx]at this;cases this
 have hbs:s≠pb:=λe=>by subst e;have:=hpb.1;rw[hs]at this;cases this
 have hb:(S.sO pb (.cells [ptr xw])).obj pb=some (.cells [ptr xw]):=zd _ _ _;have hx:=(zg (st:=S) (x:=.cells [ptr xw]) hbx).trans hx;have hs:=(zg (st:=S) (x:=.cells [ptr xw]) hbs).trans hs;have hr:=hr.set (Kx hr hpb.1) (.cells [ptr xw]);refine za (o:=(S.sO pb (.cells [ptr xw])).obj pb) _ hb ?_;refine za (o:=(S.sO pb (.cells [ptr xw])).obj xw) _ hx ?_;refine za (o:=(S.sO pb (.cells [ptr xw])).obj s) _ hs ?_;refine zf7 w.B θ _ _ (λb=>decide (b.id=c.N)) _ (λb _ R h=>ypd b pb xw s c fv _ hb hx R h) _ ?_;have hfb:(w.B.findIdx? λb=>decide (b.id=c.N))=Gx w.B c.N:=rfl;rw[hfb];refine bcd (λc1=>?_) (λc1=>?_)
 ·cases hf:Gx w.B c.N with
  |some i=>rw[hf]at c1;exact absurd c1 (by show¬((i:Int)<0);omega)
  |none=>
   have he:drE w c=3:=by unfold drE;rw[hf]
   have:=h (S.sO pb (.cells [ptr xw])) θu;rw[he]at this;exact ret this
 cases hf:Gx w.B c.N with
 |none=>rw[hf]at c1;exact absurd (show(-1:Int)<0 by decide) c1
 |some i=>
 obtain⟨hi,hid⟩:=yom hf;have he:=yph hf hi;refine Qc zb ycx ?_;refine za (o:=(S.sO pb (.cells [ptr xw])).obj pb) _ hb ?_;refine za (o:=(S.sO pb (.cells [ptr xw])).obj xw) _ hx ?_;refine za (o:=(S.sO pb (.cells [ptr xw])).obj s) _ hs ?_;refine⟨i,rfl,za _ (zq hi) ?_⟩;refine za (o:=(S.sO pb (.cells [ptr xw])).obj pb) _ hb ?_;refine za (o:=(S.sO pb (.cells [ptr xw])).obj xw) _ hx ?_;refine⟨⟨?_,?_⟩,Tv⟩
 ·repeat(first|exact Tv|refine⟨rfl,?_⟩|refine⟨za (o:=(S.sO pb (.cells [ptr xw])).obj pb) _ hb rfl,?_⟩|refine⟨za (o:=(S.sO pb (.cells [ptr xw])).obj xw) _ hx rfl,?_⟩|refine⟨za (o:=(S.sO pb (.cells [ptr xw])).obj s) _ hs rfl,?_⟩|refine⟨⟨i,rfl,za _ (zq hi) rfl⟩,?_⟩)
 refine qf (λc2=>?_) (λc2=>?_)
 ·rw[if_neg c2]at he;have:=h (S.sO pb (.cells [ptr xw])) θu;rw[he]at this;exact ret this
 rw[if_pos c2]at he;have hW2:drW w c={w with B:=w.B.eraseIdx i}:=by unfold drW;rw[hf]
 refine Qc zb ycw ?_;refine za (o:=(S.sO pb (.cells [ptr xw])).obj pb) _ hb ?_;refine za (o:=(S.sO pb (.cells [ptr xw])).obj xw) _ hx ?_;refine za (o:=(S.sO pb (.cells [ptr xw])).obj pb) _ hb ?_;refine za (o:=(S.sO pb (.cells [ptr xw])).obj xw) _ hx ?_;refine za (o:=(S.sO pb (.cells [ptr xw])).obj s) _ hs ?_;refine ze (by show -9223372036854775808<=((i:Nat):Int)+1/\((i:Nat):Int)+1<=9223372036854775807;omega) ?_;refine⟨bj w.B θ _ _ (λv2 N hv2 hd=>⟨?_,?_⟩),Tv⟩
 ·have hb2:(N.un (S.sO pb (.cells [ptr xw]))).obj pb=_:=zf hb;have hx2:(N.un (S.sO pb (.cells [ptr xw]))).obj xw=_:=zf hx;have hs2:(N.un (S.sO pb (.cells [ptr xw]))).obj s=_:=zf hs;repeat(first|exact Tv|refine⟨rfl,?_⟩|refine⟨za (o:=(N.un (S.sO pb (.cells [ptr xw]))).obj pb) _ hb2 rfl,?_⟩|refine⟨za (o:=(N.un (S.sO pb (.cells [ptr xw]))).obj xw) _ hx2 rfl,?_⟩|refine⟨za (o:=(N.un (S.sO pb (.cells [ptr xw]))).obj s) _ hs2 rfl,?_⟩)
 refine⟨ypn hd hv2 θ hi _ ⟨?_,?_⟩,Tv⟩
 ·repeat(first|exact Tv|refine⟨rfl,?_⟩|refine⟨za (o:=(S.sO pb (.cells [ptr xw])).obj pb) _ hb rfl,?_⟩|refine⟨za (o:=(S.sO pb (.cells [ptr xw])).obj xw) _ hx rfl,?_⟩|refine⟨za (o:=(S.sO pb (.cells [ptr xw])).obj s) _ hs rfl,?_⟩)
 refine⟨?_,Tv⟩;refine za _ rfl (xp rfl (xl (v:=lst 6 zi (w.B.eraseIdx i)) rfl rfl rfl rfl ?_));refine j4 (i:=ti25) (v:=lst 6 zi (w.B.eraseIdx i)) (b:=s) (o:=6) (l:=svC w (.s (.slice oa w.U.length cap)) o0 o1 o2 p) rfl rfl rfl hs (show 6+1<=12 by decide) ?_;have hs3:((S.sO pb (.cells [ptr xw])).sO s (.cells (zp (svC w (.s (.slice oa w.U.length cap)) o0 o1 o2 p) 6 [lst 6 zi (w.B.eraseIdx i)]))).obj s=some (.cells (svC {w with B:=w.B.eraseIdx i} (.s (.slice oa w.U.length cap)) o0 o1 o2 p)):=zd _ _ _;have hx3:=(zg (st:=S.sO pb (.cells [ptr xw])) (x:=.cells (zp (svC w (.s (.slice oa w.U.length cap)) o0 o1 o2 p) 6 [lst 6 zi (w.B.eraseIdx i)])) hxs).trans hx;have hr3:=hr.set hos (.cells (zp (svC w (.s (.slice oa w.U.length cap)) o0 o1 o2 p) 6 [lst 6 zi (w.B.eraseIdx i)]));have hb3:=(zg (st:=S.sO pb (.cells [ptr xw])) (x:=.cells (zp (svC w (.s (.slice oa w.U.length cap)) o0 o1 o2 p) 6 [lst 6 zi (w.B.eraseIdx i)])) (Ne.symm hbs)).trans hb;refine⟨Tv,?_⟩;exact ret (h0 he _ (by rw[hW2];exact⟨_,o0,o1,o2,p,hx3,hs3,hr3⟩))
end
end Go.Proofs
namespace Go.Proofs
open Go Go.V
set_option maxRecDepth 20000
set_option maxHeartbeats 4000000
theorem ypj{F G N:Store}{xw s p fb:Nat}{room:Int}{kc:Nat}{w:Wld}{v:AV}{L:List Ent}{o0 o1 o2:AV}{c:Cmd}(hW:Work F G xw s p w v L o0 o1 o2 c (jd fb))(hdN:zh (F.un (svS G s w v o0 o1 o2 p)) N)(hFN:FldAny fb room (kc:Nat) N)(hm:z7 w)(hn:∀u∈w.U,u.pos.ok)(hc:Ai c)(hp:c.P<=w.players)(R:Ja)
  (h:∀S' N',aE w c≠0->zh S' N'->FldAny fb room (kc:Nat) N'->R (int (aE w c)) (S'.un N')) (h0:aE w c=0->∀S' N',Dp S' xw s c (jd fb) (aW w c)->zh S' N'->FldAny fb room (kc:Nat) N'->R (int 0) (S'.un N')):
  Jb 123 [ptr xw] ((F.un (svS G s w v o0 o1 o2 p)).un N) R:=by
 have hx:=yj hdN (hW.x (F':=F) (q0:=o0) (q1:=o1) (q2:=o2));refine Qa (c:=cfg 34) zb Tryz.func123 ?_;refine za (o:=((F.un (svS G s w v o0 o1 o2 p)).un N).obj xw) _ hx ?_
 have lift:∀{f:FuncId} {E:Int} {W:Wld},(∀R:AV->Store->Prop,(∀S',E≠0->R (int E) S')->(E=0->∀S',Dp S' xw s c (jd fb) W->R (int 0) S')->Jb f [ptr xw] (F.un (svS G s w v o0 o1 o2 p)) R)->E=aE w c->W=aW w c->
   ∀K:AV->Store->Prop,(∀S' N',aE w c≠0->zh S' N'->FldAny fb room (kc:Nat) N'->K (int (aE w c)) (S'.un N'))->(aE w c=0->∀S' N',Dp S' xw s c (jd fb) (aW w c)->zh S' N'->FldAny fb room (kc:Nat) N'->K (int 0) (S'.un N'))->
   Jb f [ptr xw] ((F.un (svS G s w v o0 o1 o2 p)).un N) K:=λ{f E W} hf e1 e2 K k1 k2=>by
  subst e1 e2;refine ACalls.frame hdN (hf (λr S=>(aE w c≠0/\r=int (aE w c))\/(aE w c=0/\r=int 0/\Dp S xw s c (jd fb) (aW w c))) (λS' he=>.inl ⟨he,rfl⟩) (λhe S' hd=>.inr ⟨he,rfl,hd⟩)) ?_;rintro r S (⟨he,rfl⟩|⟨he,rfl,hd⟩) hd'
  ·exact k1 S N he hd' hFN
  ·exact k2 he S N hd hd' hFN
 rcases li hc with q|q|q|q|q|q|q
 ·obtain⟨e1,e2⟩:=a1 (w:=w) q;refine zw (λ_=>?_) (λc1=>absurd q c1);refine lift (λR a b=>zhf hW (wn hm) hn (yqp ((Cmd.ok1 q).1 hc.1).2) R a b) e1.symm e2.symm _ (λS' N' he hd hF=>ret (h S' N' he hd hF)) (λhe S' N' h1 h2 h3=>ret (h0 he S' N' h1 h2 h3))
 ·obtain⟨e1,e2⟩:=a2 (w:=w) q;refine zw (λc1=>absurd (q.symm.trans c1) ψ) (λ_=>?_);refine zw (λ_=>?_) (λc1=>absurd q c1);rw[e1]at h h0;rw[e2]at h0;refine zhr hW hdN hFN (wn hm) hn ((Cmd.ok2 q).1 hc.1).1.1.2 _ (λS' N' he hd hF=>ret (h S' N' he hd hF)) (λhe S' N' h1 h2 h3=>ret (h0 he S' N' h1 h2 h3))
 ·obtain⟨e1,e2⟩:=a3 (w:=w) q;refine zw (λc1=>absurd (q.symm.trans c1) ψ) (λ_=>?_);refine zw (λc1=>absurd (q.symm.trans c1) ψ) (λ_=>?_);refine zw (λ_=>?_) (λc1=>absurd q c1);refine lift (λR a b=>zhe hW (wn hm) hn ((Cmd.ok3 q).1 hc.1).1.2 R a b) e1.symm e2.symm _ (λS' N' he hd hF=>ret (h S' N' he hd hF)) (λhe S' N' h1 h2 h3=>ret (h0 he S' N' h1 h2 h3))
 ·obtain⟨e1,e2⟩:=a4 (w:=w) q;refine zw (λc1=>absurd (q.symm.trans c1) ψ) (λ_=>?_);refine zw (λc1=>absurd (q.symm.trans c1) ψ) (λ_=>?_);refine zw (λc1=>absurd (q.symm.trans c1) ψ) (λ_=>?_);refine zw (λ_=>?_) (λc1=>absurd q c1);refine lift (λR a b=>zhy hW hm hn hc q R a b) e1.symm e2.symm _ (λS' N' he hd hF=>ret (h S' N' he hd hF)) (λhe S' N' h1 h2 h3=>ret (h0 he S' N' h1 h2 h3))
 ·obtain⟨e1,e2⟩:=a5 (w:=w) q;refine zw (λc1=>absurd (q.symm.trans c1) ψ) (λ_=>?_);refine zw (λc1=>absurd (q.symm.trans c1) ψ) (λ_=>?_);refine zw (λc1=>absurd (q.symm.trans c1) ψ) (λ_=>?_);refine zw (λc1=>absurd (q.symm.trans c1) ψ) (λ_=>?_);refine zw (λ_=>?_) (λc1=>absurd q c1);refine lift (λR a b=>zhx hW (wn hm) R a b) e1.symm e2.symm _ (λS' N' he hd hF=>ret (h S' N' he hd hF)) (λhe S' N' h1 h2 h3=>ret (h0 he S' N' h1 h2 h3))
 ·obtain⟨e1,e2⟩:=a6 (w:=w) q;refine zw (λc1=>absurd (q.symm.trans c1) ψ) (λ_=>?_);refine zw (λc1=>absurd (q.symm.trans c1) ψ) (λ_=>?_);refine zw (λc1=>absurd (q.symm.trans c1) ψ) (λ_=>?_);refine zw (λc1=>absurd (q.symm.trans c1) ψ) (λ_=>?_);refine zw (λc1=>absurd (q.symm.trans c1) ψ) (λ_=>?_);refine zw (λ_=>?_) (λc1=>absurd q c1);refine lift (λR a b=>zht hW hm hn ((Cmd.ok6 q).1 hc.1).1.1.2 ((Cmd.ok6 q).1 hc.1).2.1 R a b) e1.symm e2.symm _ (λS' N' he hd hF=>ret (h S' N' he hd hF)) (λhe S' N' h1 h2 h3=>ret (h0 he S' N' h1 h2 h3))
 ·obtain⟨e1,e2⟩:=a7 (w:=w) q;refine zw (λc1=>absurd (q.symm.trans c1) ψ) (λ_=>?_);refine zw (λc1=>absurd (q.symm.trans c1) ψ) (λ_=>?_);refine zw (λc1=>absurd (q.symm.trans c1) ψ) (λ_=>?_);refine zw (λc1=>absurd (q.symm.trans c1) ψ) (λ_=>?_);refine zw (λc1=>absurd (q.symm.trans c1) ψ) (λ_=>?_);refine zw (λc1=>absurd (q.symm.trans c1) ψ) (λ_=>?_);rw[e1]at h h0;rw[e2]at h0;refine zhd hW hdN hFN (wn hm) hn _ (λS' N' he hd hF=>ret (h S' N' he hd hF)) (λhe S' N' h1 h2 h3=>ret (h0 he S' N' h1 h2 h3))
theorem ypl{N:Store}{fb:Nat}{room:Int}{kc:Nat}(hF:FldAny fb room (kc:Nat) N)(w:Wld)(hm:z7 w)(hn:∀u∈w.U,u.pos.ok)(c:Cmd)(hc:c.fits):Jb 61 [.agg (zo w),.agg (yz c),jd fb] N λr S=>
  (r=.tup [.agg (zo (doW aE aW w c)),int (doE aE w c)]/\FldAny fb room (kc:Nat) S)\/∃X N' v,RowsQ 10 zn X v (doW aE aW w c).U/\zh X N'/\FldAny fb room (kc:Nat) N'/\S=X.un N'/\r=.tup [.agg (xk (doW aE aW w c) v),int (doE aE w c)]:=by
 have mf:=wn hm;have hU:=mf.hU;have hB:=mf.hB;have hT:=mf.hT;refine Qa (c:=cfg 41 [27] []) zb Tryz.func61 ?_;refine zff c hc _ _ (λzc hzc=>?_);have bad:(¬Ai c\/w.players<c.P)->∀X:Prop,((.tup [.agg (zo w),int 1]:AV)=.tup [.agg (zo (doW aE aW w c)),int (doE aE w c)]/\FldAny fb room (kc:Nat) N)\/X:=λhb X=>by have he:=zex (E:=aE) (w:=w) (c:=c) (.inr hb);rw[m9 θu,he];exact .inl ⟨rfl,hF⟩
 refine yi ?_;refine zk (λc1=>?_) (λc1=>?_);rotate_left
 ·exact ret (bad (.inl λhh=>by have:=hzc.2 hh;rw[this]at c1;cases c1) _)
 refine bcd (λc2=>?_) (λc2=>?_)
 ·exact ret (bad (.inr θ) _)
 clear bad;have hcp:=hzc.1 c1;have he:=zew (E:=aE) hm hcp (show c.P<=w.players by omega);have hown:∀R:AV->Store->Prop,(∀v X,RowsQ 10 zn X v w.U->zh X N->R (.agg (xk w v)) (X.un N))->Jb 48 [.agg (zo w)] N R:=λR h=>by rw[<-Ag N];refine ACalls.frame (Nj _) (zbc w θ θ θ (λr S=>∃v,RowsQ 10 zn S v w.U/\r=.agg (xk w v)) (λv N h=>⟨v,h,rfl⟩)) ?_;rintro r a' ⟨v,h1,rfl⟩ hd';exact h v a' h1 hd'
 refine Qc zb zz7 ?_;refine⟨hown _ (λv X hv hXN=>⟨Qe,?_⟩),Tv⟩
 have hopen:=ACalls.frame hXN (zbf w v X hv θ hn (λr S=>∃F s p L o0 o1 o2,r=ptr s/\S=F.un (svS X s w v o0 o1 o2 p)/\Fresh X s/\StandR F X s p w v L o0 o1 o2/\L.length<=w.U.length/\(yl w.U->∀e,e∈L↔∃u∈w.U,u.inn=0/\e=(u.id,u.pos))) (λF s p L o0 o1 o2 h1 h2 h3 h4=>⟨F,s,p,L,o0,o1,o2,rfl,rfl,h1,h2,h3,h4⟩))
  (R':=λr S=>∃F s p L o0 o1 o2,r=ptr s/\S=(F.un (svS X s w v o0 o1 o2 p)).un N/\zh (F.un (svS X s w v o0 o1 o2 p)) N/\StandR F X s p w v L o0 o1 o2/\L.length<=w.U.length/\(yl w.U->∀e,e∈L↔∃u∈w.U,u.inn=0/\e=(u.id,u.pos)))
  (λr a' ⟨F,s,p,L,o0,o1,o2,h1,h2,h3,h4,h5,h6⟩ hd=>⟨F,s,p,L,o0,o1,o2,h1,by rw[h2],h2▸hd,h4,h5,h6⟩)
 refine⟨hopen.imp ?_,Tv⟩;rintro _ _ ⟨F,s,p,L,o0,o1,o2,rfl,rfl,hdN,hS,hLl,hL⟩;refine⟨Qe,?_⟩;refine⟨λxw hxw=>⟨Qe,?_⟩,Tv⟩;refine Qau ?_;have hxw:=fresh_iff.1 hxw;have hx1:¬F.has xw/\¬(svS X s w v o0 o1 o2 p).has xw:=⟨λh=>hxw (un_has.2 (.inl (un_has.2 (.inl h)))),λh=>hxw (un_has.2 (.inl (un_has.2 (.inr h))))⟩
 have hxN:¬N.has xw:=λh=>hxw (un_has.2 (.inr h));have hne:xw≠s:=λe=>hx1.2 (svS_has.2 (.inl e));have hxX:¬X.has xw:=λh=>hx1.2 (svS_has.2 (.inr h));have e0:((F.un (svS X s w v o0 o1 o2 p)).un N).sO xw (.cells (wkC s c (jd fb)))=(F.un (svS (X.sO xw (.cells (wkC s c (jd fb)))) s w v o0 o1 o2 p)).un N:=by rw[Gb hxN,zz];unfold svS;rw[Ge hne]
 have hdW:zh (F.un (svS (X.sO xw (.cells (wkC s c (jd fb)))) s w v o0 o1 o2 p)) N:=λi h1 h2=>by
  rcases un_has.1 h1 with h1|h1
  ·exact hdN i (un_has.2 (.inl h1)) h2
  ·rcases svS_has.1 h1 with h1|h1
   ·exact hdN i (un_has.2 (.inr (svS_has.2 (.inl h1)))) h2
   ·rcases has_setObj_iff.1 h1 with rfl|h1
    ·exact hxN h2
    ·exact hdN i (un_has.2 (.inr (svS_has.2 (.inr h1)))) h2
 have offx:=Kx hv (wl hxX).1;have offs:=Kx hv hS.hs;have hW:Work F (X.sO xw (.cells (wkC s c (jd fb)))) xw s p w v L o0 o1 o2 c (jd fb):=by
  refine⟨⟨hS.hc,λi h1 h2=>?_,?_,hv.set offx _,hS.h0,hS.h1,hS.h2⟩,zd _ _ _,offx,offs,hLl,hL mf.hr⟩
  ·rcases svS_has.1 h2 with rfl|h2
   ·exact hS.hd _ h1 (svS_has.2 (.inl rfl))
   ·rcases has_setObj_iff.1 h2 with rfl|h2
    ·exact hx1.1 h1
    ·exact hS.hd _ h1 (svS_has.2 (.inr h2))
  ·rw[zg (Ne.symm hne)];exact hS.hs
 refine cast (congrArg (λst=>Jb 123 [ptr xw] st _) e0.symm) ?_;refine ypj hW hdW hF hm hn hcp θ _ (λS' N' hE hd' hF'=>?_) (λhE S' N' hdn hd' hF'=>?_)
 ·refine qf (λ_=>?_) (λh=>absurd h hE);rw[he,m9 (by rw[he];exact hE)];exact⟨_,N',Tt,⟨λb x hx=>zf hx,λb x hx=>Ha hx⟩,.inl ⟨rfl,hF'⟩⟩
 ·obtain⟨v2,q0,q1,q2,p2,g1,g2,g3⟩:=hdn;obtain⟨oa,cap,e2,_⟩:=g3.form;subst e2;refine za (o:=(S'.un N').obj xw) _ (yj hd' g1) ?_;refine za (o:=(S'.un N').obj s) _ (yj hd' g2) ?_;rw[he,zeu (he.trans hE),hE];exact ret (.inr ⟨S',N',_,g3,hd',hF',rfl,rfl⟩)
theorem ypm:DoC:=λfb room k N w c hF hw hc R h=>by
 refine(ypl hF w hw.1 hw.2 c hc).frozenTo ?_;rintro r S (⟨rfl,hF'⟩|⟨X,N',v,hX,hd,hF',rfl,rfl⟩)
 ·exact⟨_,S.objs,h _ hF'.objs,λb x hx=>hx,λb x hx=>θa,λOth M W x sto hx=>hx.mono λb o hT=>hT.1⟩
 ·refine⟨_,N'.objs,h _ hF'.objs,λb x hx=>zf hx,λb x hx=>θa,λOth M W x sto hx=>?_⟩;have sX:StoreOK X Oth M W:=sto.weaken ⟨λb y hy=>yj hd hy,λb y hy=>Lz hd hy⟩;have ht:∀b,((X.un N').obj b=none\/N'.objs.obj b≠none)->X.obj b=none:=λb hb=>by
   rcases hb with hb|hb
   ·exact(Mp hb).1
   ·cases hx:X.obj b with
    |none=>rfl
    |some y=>exact absurd (wl (hd b (k9 hx))).1 hb
  exact VRel.mono (λb o h=>⟨h.1,ht b h.2⟩) (hx.tup2 (λx hx=>py hX sX hx) (λx hx=>xg hx))
theorem zhv(i n:Int)(hn:0<n)(hn2:n<=1000)(st:Store)(R:Ja)(h:∀k:Int,0<=k->k<n->R (int k) st):Jb 14 [int i,int n] st R:=by
 refine Qa (c:=cfg 11) zb Tryz.func14 ?_;have e1:IntKind.u64.wrap n=n:=Cp θ θ;have h0:0<=IntKind.u64.wrap i:=by rw[Ls];omega
 refine⟨by rw[e1];omega,?_⟩;have h1:(IntKind.u64.wrap i).tmod n=(IntKind.u64.wrap i)%n:=Fbz h0;have h2:=Fcn (IntKind.u64.wrap i) (show n≠0 by omega);have h3:=Fc3 (IntKind.u64.wrap i) hn;refine⟨by rw[e1,h1];exact⟨θ,θ⟩,?_⟩;rw[e1,h1];exact ret (h _ h2 h3)
theorem Ob{a b:Store}(h:zh a b)(c:Store):a.un (b.un c)=b.un (a.un c):=by rw[<-Kd,H0 h,Kd]
theorem zeg{eb:Nat}{room:Int}{k:Nat}{w:Wld}{S:Store}(hE:EngR eb room k w S)(ht:w.tick=1099511627776)(l:List Cmd)(R:Ja)(h:R (.tup [nil,int 10]) S):Jb 15 [ptr eb,lst 10 yz l] S R:=by obtain⟨N,fb,rfl,hn,hF⟩:=hE.out;refine Qa (c:=cfg 74) zb Tryz.func15 ?_;refine za (o:=(N.sO eb _).obj eb) _ (zd _ _ _) ?_;refine zw (λc1=>?_) (λc1=>absurd ht c1);exact ret h
section
variable {eb:Nat} {room:Int} {k:Nat} {w:Wld} {S G:Store}
theorem m3(hE:EngR eb room k w S)(hd:zh S G)(hp:playW w)(R:Ja)(h:R (.agg (zo w)) (S.un G)):Jb 12 [ptr eb] (S.un G) R:=
 ACalls.frame hd (mz hE hp.sizes (λr S'=>r=.agg (zo w)/\S'=S) ⟨rfl,rfl⟩) λr a ⟨h1,h2⟩ _=>by subst h1 h2;exact h
theorem yos{St:Store}(hE:EngR eb room k w S)(hd:zh S G)(hp:playW w)(e:St=S.un G)(R:Ja)(h:R (.agg (zo w)) St):Jb 12 [ptr eb] St R:=by subst e;exact m3 hE hd hp R h
theorem zei(hE:EngR eb room k w S)(hd:zh S G)(hp:playW w)(l:List Cmd)(hf:∀c∈l,c.fits)(hl:l.length<=512)(hk:k<=100000000000000000)(R:Ja)
  (hmax:w.tick=1099511627776->R (.tup [nil,int 10]) (S.un G))
  (h:w.tick<1099511627776->∀S',EngR eb room (k+4096) (Fc w l) S'->zh S' G->R (.tup [lst 1 zv (ww w l),int 0]) (S'.un G)):Jb 15 [ptr eb,lst 10 yz l] (S.un G) R:=by
 have ht:=hp.1.1.1.1.1.2;by_cases e:w.tick=1099511627776
 ·refine ACalls.frame hd (zeg hE e l (λr S'=>r=.tup [nil,int 10]/\S'=S) ⟨rfl,rfl⟩) λr a ⟨h1,h2⟩ _=>by subst h1 h2;exact hmax e
 ·refine ACalls.frame hd (zef hE hp l (.inr ypm) hf hl θ hk (λr S'=>r=.tup [lst 1 zv (ww w l),int 0]/\EngR eb room (k+4096) (Fc w l) S') λS' h=>⟨rfl,h⟩) λr a ⟨h1,h2⟩ hd'=>by subst h1;exact h θ a h2 hd'
theorem Rt(hp:playW w)(hr:1<=room/\room<=4096)(R:Ja)(h:∀eb S,EngR eb room 0 w S->zh S G->R (.tup [ptr eb,int 0]) (S.un G)):Jb 9 [.agg (zo w),int room] G R:=by
 have hs:=hp.sizes;have:=ACalls.frame (Nj G) (zho w (wn hp.1).fits hp.2 hs.1 hs.2.1 hs.2.2 room hr (λr S=>∃eb,r=.tup [ptr eb,int 0]/\EngR eb room 0 w S) (λh=>absurd hp.1 h) (λ_ eb S h=>⟨eb,rfl,h⟩)) (R':=R) λr a ⟨eb,h1,h2⟩ hd=>by subst h1;exact h eb a h2 hd
 rwa [Ag]at this
theorem zeh(hE:EngR eb room k w S)(hd:zh S G)(hp:playW w)(l:List Cmd)(hf:∀c∈l,c.fits)(hl:l.length<=512)(hk:k<=100000000000000000)(R:Ja)
  (h:∀k' S',k'<=k+4096->EngR eb room k' (Gn w l) S'->zh S' G->R (.tup [lst 1 zv (Mq w l),int (Vw w)]) (S'.un G)):Jb 15 [ptr eb,lst 10 yz l] (S.un G) R:=by
 by_cases e:w.tick=1099511627776
 ·obtain⟨e1,e2,e3⟩:=O8 e l;have:=h k S θ (e1.symm▸hE) hd;rw[e2,e3]at this;refine(zei hE hd hp l hf hl hk (λr S'=>r=.tup [nil,int 10]/\S'=S.un G) (λ_=>⟨rfl,rfl⟩) (λh=>absurd e θ)).post (Store.Le.refl _) ?_;rintro r S' ⟨rfl,rfl⟩;refine⟨_,_,λW T v hv=>?_,Store.Le.refl _,this⟩;exact hv.tup2 (λx hx=>AV.le_nil 1 _ _ _ hx) λx hx=>hx
 ·obtain⟨e1,e2,e3⟩:=O9 e l;rw[e1,e2,e3]at h;exact zei hE hd hp l hf hl hk R (λhm=>absurd hm e) λ_ S' h1 h2=>h (k+4096) S' (Fak _) h1 h2
end
theorem yo2(a b:List Int)(ha:a.length<=1000000000000)(st:Store)(R:Ja)(h:R (bool (decide (a=b))) st):Jb 16 [lst 1 zv a,lst 1 zv b] st R:=by
 refine Qa (c:=cfg 26) zb Tryz.func16 ?_;refine zk (λh1=>?_) (λh1=>?_)
 ·have:a≠b:=λh2=>V1 h1 (by rw[h2]);rw[show decide (a=b)=false by simp[this]]at h;exact⟨_,st,Tt,Store.Has.refl st,h⟩
 ·have hl:a.length=b.length:=Nh h1;refine AWp.loop (σ:=Nat) ⟨λi=>[(0,.av (lst 1 zv a)),(1,.av (lst 1 zv b)),(5,.av (int i))],λ_=>[],λi st'=>i<=a.length/\a.take i=b.take i/\st'=st,λi=>a.length-i⟩ zb ?_ ?_
  ·exact⟨0,Tv,⟨Fae _,rfl,rfl⟩,Qaq,Tv⟩
  ·rintro i st' ⟨hi,heq,hst⟩;refine zk (λh2=>?_) (λh2=>?_)
   ·have hlt:i<a.length:=wo h2;have hltb:i<b.length:=θ;refine Qc zb ydh ?_;refine⟨i,rfl,za _ (zq hlt) ?_⟩;refine⟨i,rfl,za _ (zq hltb) ?_⟩;refine zk (λh3=>?_) (λh3=>?_)
    ·have hne:a[i]≠b[i]:=by
      intro h4;rw[h4]at h3;simp at h3
     have:a≠b:=ψe;rw[show decide (a=b)=false by simp[this]]at h;subst hst;exact⟨_,st',Tt,Store.Has.refl st',h⟩
    ·refine⟨⟨θ,θ⟩,?_⟩;refine⟨i+1,?_,⟨hlt,?_,hst⟩,Qaq,Tv⟩
     ·show a.length-(i+1)<a.length-i;omega
     ·rw[Fab hlt,Fab hltb,heq];have:a[i]=b[i]:=by simpa using h3
      rw[this]
   ·have hge:i=a.length:=Aw h2 hi;subst hge hst;have:a=b:=by
     rw[Fal,hl,Fal]at heq;exact heq
    rw[show decide (a=b)=true by simp[this]]at h;exact⟨_,st',Tt,Store.Has.refl st',h⟩
theorem yo3(l:List Int)(hl:l.length<=1000)(st:Store)(R:Ja)(h:R (V.bool true) st):Jb 16 [lst 1 zv l,lst 1 zv l] st R:=
 yo2 l l θ st R (by rw[decide_eq_true rfl];exact h)
theorem ye6(l:List Inp)(hl:l.length<=1000000000)(hf:∀i∈l,i.fits)(st:Store)(R:Ja)(h:∀b:Bool,(b=true↔Sz l)->R (V.bool b) st):Jb 245 [lst 3 qp l] st R:=by
 refine Qa (c:=cfg 30) zb Tryz.func245 ?_;have no:¬Sz l->R (V.bool false) st:=λhn=>h false (by simp[hn])
 refine AWp.loop (σ:=Nat) ⟨λi=>[(0,.av (lst 3 qp l)),(5,.av (lst 3 qp l)),(6,.av (int (l.length:Nat))),(7,.av (int (i:Nat)))],λ_=>[],
  λi st'=>st'=st/\i<=l.length/\∀j,(hj:j<l.length)->j<i->Iq l[j]/\(0<j->Ip (l[j-1]'θ) l[j]),λi=>l.length-i⟩ zb ?_ ?_
 ·refine⟨0,Tv,⟨rfl,Fae _,λj _ hj=>absurd hj (Fa3 j)⟩,⟨Tq,Tq,?_,Tq,Tv⟩,Tv⟩;rw[<-zj (f:=qp) l];exact Tq
 rintro i st' ⟨rfl,hi,hall⟩;refine bcd (λc1=>?_) (λc1=>?_);rotate_left
 ·have:i=l.length:=θ;subst this;exact ret (h true (by simp only[true_iff];exact λj hj=>hall j hj hj))
 have hlt:i<l.length:=θ;have go:(Iq l[i]/\(0<i->Ip (l[i-1]'θ) l[i]))->∀j,(hj:j<l.length)->j<i+1->Iq l[j]/\(0<j->Ip (l[j-1]'θ) l[j]):=λhh j hj hji=>by
  by_cases e:j=i
  ·subst e;exact hh
  ·exact hall j hj θ
 refine⟨i,rfl,za _ (zq hlt) ?_⟩;refine Qc zb yce ?_;refine⟨sc l[i] (hf _ (Faa hlt)) _ _ (λz hz=>⟨Tv,?_⟩),Tv⟩;refine yi ?_;refine zk (λc2=>?_) (λc2=>?_);rotate_left
 ·refine Qau ?_;exact ret (no λhh=>by have:=hz.2 (hh i hlt).1;rw[this]at c2;cases c2)
 have hip:=hz.1 c2;refine bcd (λc3=>?_) (λc3=>?_)
 ·refine Qd ?_;have hi1:i-1<l.length:=θ;refine⟨i-1,θ,za _ (zq hi1) ?_⟩;refine⟨ykh _ _ _ _ ⟨Tv,?_⟩,Tv⟩;refine bcd (λc4=>?_) (λc4=>?_)
  ·exact ret (no λhh=>by have:=ordI_neg.2 ((hh i hlt).2 θ);omega)
  ·refine Qd ?_;exact⟨i+1,(show l.length-(i+1)<l.length-i by omega),⟨rfl,θ,go ⟨hip,λ_=>ordI_neg.1 θ⟩⟩,Qaq,Tv⟩
 ·refine Qau ?_;refine Qd ?_;exact⟨i+1,(show l.length-(i+1)<l.length-i by omega),⟨rfl,θ,go ⟨hip,λhh=>absurd hh θ⟩⟩,Qaq,Tv⟩
theorem yhc{α:Type}{k:Nat}{f:α->List AV}{F:FuncId}{l:List α}(hf:∀x,(f x).length=k)(hs:∀x,∀y∈f x,∃u,y=AV.s u/\qw u=true)
  (hraw:∀R:AV->Store->Prop,(∀v N,RowsQ k f N v l->R v N)->Jb F [lst k f l] Store.empty R) (st:Store) (R:Ja) (h:R (lst k f l) st):Jb F [lst k f l] st R:=by
 refine Fv (Q:=λr=>r=lst k f l) ?_ st R λr hr=>hr▸h;refine(hraw (λr S=>RowsQ k f S r l) λv N hv=>hv).frozen ?_;exact λr S hr=>⟨_,rfl,λOth M w v sto hx=>hr.borrow hf hs sto hx⟩
theorem lv(n:Int):(xh n).length=1:=rfl
theorem ymf(n:Int):∀y∈xh n,∃u,y=AV.s u/\qw u=true:=λy hy=>by rw[Fbt.1 hy];exact⟨_,rfl,rfl⟩
theorem nu(l:List Int)(hl:l.length<=1000000000)(st:Store)(R:Ja)(h:R (yh l) st):Jb 222 [yh l] st R:=by
 refine yhc Lf Ph (λR h=>?_) st R h;refine Qa (c:=cfg 8) zb Tryz.func222 ?_;intro b hb;cases b with
 |true=>
  have:l=[]:=θt;subst this;exact ret (h (.s (.slice none 0 0)) Store.empty (.inl (.inl ⟨rfl,rfl⟩)))
 |false=>
  refine⟨ψ,?_⟩;exact Rm (ie:=ti2) rfl Lf ψ hl (λv N hv hd=>ret (h v _ (by rw[Du];exact hv)))
theorem yp8(c:Cmd)(hc:c.U.length<=1000000000)(st:Store)(R:Ja)(h:R (.agg (yz c)) st):Jb 344 [.agg (yz c)] st R:=by refine Qa (c:=cfg 8) zb Tryz.func344 ?_;refine nu c.U hc _ _ ?_;exact ret h
def small(l:List Cmd):Prop:=l.length<=1000000/\∀c∈l,c.U.length<=1000000
theorem ze4(l:List Cmd)(hl:small l)(st:Store)(R:Ja)(h:R (lst 10 yz l) st):Jb 247 [lst 10 yz l] st R:=by
 have hlen:=hl.1;refine Qa (c:=cfg 18) zb Tryz.func247 ?_;refine AWp.loop (σ:=Nat×AV) ⟨λx=>[(2,.av x.2),(5,.av (lst 10 yz l)),(6,.av (int (l.length:Nat))),(7,.av (int (x.1:Nat)))],λ_=>[],λx st'=>x.1<=l.length/\App 10 st x.2 (rws yz (l.take x.1)) st',λx=>l.length-x.1⟩ zb ?_ ?_
 ·refine⟨(0,_),Tv,⟨Fae _,App.start 10 st⟩,⟨Tq,Tq,?_,Tq,Tv⟩,Tv⟩;rw[<-zj (f:=yz) l];exact Tq
 rintro⟨i,v⟩ st' ⟨hi,ha⟩;dsimp only at hi ha⊢;refine bcd (λc1=>?_) (λc1=>?_);rotate_left
 ·have:i=l.length:=θ;subst this;rw[Fal]at ha;exact⟨_,st,ha.le,ha.has,h⟩
 have hlt:i<l.length:=θ;refine⟨i,rfl,za _ (zq hlt) ?_⟩;refine yp8 l[i] (by have:=hl.2 _ (Faa hlt);omega) _ _ ?_;refine⟨ψ,?_⟩;refine Bj (ie:=ti66) (rows':=[yz l[i]]) ha ?_ ?_ ⟨?_,?_⟩ (λv2 st2 ha2=>?_)
 ·rfl
 ·rfl
 ·simp[zj,ti66];omega
 ·simp[zj];omega
 refine Qd ?_;refine⟨(i+1,v2),(show l.length-(i+1)<l.length-i by omega),⟨hlt,?_⟩,Qaq,Tv⟩;dsimp only;rw[<-ut hlt];exact ha2
theorem dt(i:Inp)(hi:small i.C)(st:Store)(R:Ja)(h:R (.agg (qp i)) st):Jb 348 [.agg (qp i)] st R:=by refine Qa (c:=cfg 8) zb Tryz.func348 ?_;refine ze4 i.C hi _ _ ?_;exact ret h
def H7(l:List Inp):Prop:=l.length<=1000000/\∀i∈l,small i.C
theorem sb(l:List Inp)(hl:H7 l)(st:Store)(R:Ja)(h:R (lst 3 qp l) st):Jb 406 [lst 3 qp l] st R:=by
 have hlen:=hl.1;refine Qa (c:=cfg 18) zb Tryz.func406 ?_;refine AWp.loop (σ:=Nat×AV) ⟨λx=>[(2,.av x.2),(5,.av (lst 3 qp l)),(6,.av (int (l.length:Nat))),(7,.av (int (x.1:Nat)))],λ_=>[],λx st'=>x.1<=l.length/\App 3 st x.2 (rws qp (l.take x.1)) st',λx=>l.length-x.1⟩ zb ?_ ?_
 ·refine⟨(0,_),Tv,⟨Fae _,App.start 3 st⟩,⟨Tq,Tq,?_,Tq,Tv⟩,Tv⟩;rw[<-zj (f:=qp) l];exact Tq
 rintro⟨i,v⟩ st' ⟨hi,ha⟩;dsimp only at hi ha⊢;refine bcd (λc1=>?_) (λc1=>?_);rotate_left
 ·have:i=l.length:=θ;subst this;rw[Fal]at ha;exact⟨_,st,ha.le,ha.has,h⟩
 have hlt:i<l.length:=θ;refine⟨i,rfl,za _ (zq hlt) ?_⟩;refine dt l[i] (hl.2 _ (Faa hlt)) _ _ ?_;refine⟨ψ,?_⟩;refine Bj (ie:=ti364) (rows':=[qp l[i]]) ha ?_ ?_ ⟨?_,?_⟩ (λv2 st2 ha2=>?_)
 ·rfl
 ·rfl
 ·simp[zj,ti364];omega
 ·simp[zj];omega
 refine Qd ?_;refine⟨(i+1,v2),(show l.length-(i+1)<l.length-i by omega),⟨hlt,?_⟩,Qaq,Tv⟩;dsimp only;rw[<-ut hlt];exact ha2
def Dn(l:List Inp):List Cmd:=l.flatMap (·.C)
theorem zyr(l:List Inp)(hl:H7 l)(hn:(Dn l).length<=1000000)(st:Store)(R:Ja)(h:R (lst 10 yz (Dn l)) st):Jb 412 [lst 3 qp l] st R:=by
 have hlen:=hl.1;refine Qa (c:=cfg 18) zb Tryz.func412 ?_;refine AWp.loop (σ:=Nat×AV) ⟨λx=>[(2,.av x.2),(5,.av (lst 3 qp l)),(6,.av (int (l.length:Nat))),(7,.av (int (x.1:Nat)))],λ_=>[],λx st'=>x.1<=l.length/\App 10 st x.2 (rws yz (Dn (l.take x.1))) st',λx=>l.length-x.1⟩ zb ?_ ?_
 ·refine⟨(0,_),Tv,⟨Fae _,App.start 10 st⟩,⟨Tq,Tq,?_,Tq,Tv⟩,Tv⟩;rw[<-zj (f:=qp) l];exact Tq
 rintro⟨i,v⟩ st' ⟨hi,ha⟩;dsimp only at hi ha⊢;refine bcd (λc1=>?_) (λc1=>?_);rotate_left
 ·have:i=l.length:=θ;subst this;rw[Fal]at ha;exact⟨_,st,ha.le,ha.has,h⟩
 have hlt:i<l.length:=θ;have hstep:Dn (l.take (i+1))=Dn (l.take i)++l[i].C:=by unfold Dn;rw[Fab hlt,List.flatMap_append];simp
 have hle:(Dn (l.take (i+1))).length<=(Dn l).length:=by
  have:Dn l=Dn (l.take (i+1))++Dn (l.drop (i+1)):=by unfold Dn;rw[<-List.flatMap_append,Fbs]
  rw[this,Fad];omega
 rw[hstep,Fad]at hle;refine⟨i,rfl,za _ (zq hlt) ?_⟩;refine ze4 l[i].C (hl.2 _ (Faa hlt)) _ _ ?_;refine Bj (ie:=ti66) (rows':=rws yz l[i].C) ha ?_ ?_ ⟨?_,?_⟩ (λv2 st2 ha2=>?_)
 ·rfl
 ·rfl
 ·simp[zj,ti66];omega
 ·simp[zj];omega
 refine Qd ?_;refine⟨(i+1,v2),(show l.length-(i+1)<l.length-i by omega),⟨hlt,?_⟩,Qaq,Tv⟩;dsimp only;rw[hstep,<-Ia];exact ha2
theorem zzv{st:Store}{p q:Nat}{x y:Option Nat}(h:q≠p):(st.sT p x).sT q y=(st.sT q y).sT p x:=by
 unfold Store.sT
 congr 1
 funext i
 by_cases hp:i=p
 ·subst hp;simp[qe (Ne.symm h)]
 ·simp[qe hp]
theorem zgo{k1 k2:Nat}{st st1 st2:Store}{v1 v2:AV}{r1 r2:List (List AV)}(h1:App k1 st v1 r1 st1)(h2:App k2 st1 v2 r2 st2):∃s,App k2 st v2 r2 s/\App k1 s v1 r1 st2:=by
 rcases h1 with⟨rfl,rfl,rfl⟩|⟨rfl,rfl,rfl⟩|⟨n1,b1,f1,rfl,rfl⟩
 ·exact⟨st2,h2,.inl ⟨rfl,rfl,rfl⟩⟩
 ·exact⟨st2,h2,.inr (.inl ⟨rfl,rfl,rfl⟩)⟩
 ·rcases h2 with⟨rfl,rfl,rfl⟩|⟨rfl,rfl,rfl⟩|⟨n2,b2,f2,rfl,rfl⟩
  ·exact⟨st,.inl ⟨rfl,rfl,rfl⟩,.inr (.inr ⟨n1,b1,f1,rfl,rfl⟩)⟩
  ·exact⟨st,.inr (.inl ⟨rfl,rfl,rfl⟩),.inr (.inr ⟨n1,b1,f1,rfl,rfl⟩)⟩
  ·have hne:b2≠b1:=λe=>by
    have:=f2.2;rw[e,H8]at this;cases this
   have f2':Fresh st b2:=⟨f2.1,by have:=f2.2;rwa [Oq hne]at this⟩
   refine⟨_,.inr (.inr ⟨n2,b2,f2',rfl,rfl⟩),.inr (.inr ⟨n1,b1,⟨f1.1,by rw[Oq (Ne.symm hne)];exact f1.2⟩,rfl,zzv hne⟩)⟩
def ofT(t:Int)(l:List Inp):List Inp:=l.filter λi=>i.t==t
def Fo(t:Int)(l:List Inp):List Inp:=l.filter λi=> !(i.t==t)
theorem yh7{t:Int}{l:List Inp}{i:Nat}(h:i<l.length):ofT t (l.take (i+1))=(if l[i].t=t then ofT t (l.take i)++[l[i]]else ofT t (l.take i))/\Fo t (l.take (i+1))=(if l[i].t=t then Fo t (l.take i)else Fo t (l.take i)++[l[i]]):=by
 unfold ofT Fo;rw[Fab h,Fch,Fch];by_cases e:l[i].t=t
 ·rw[if_pos e,if_pos e];simp[List.filter,e]
 ·rw[if_neg e,if_neg e];have:(l[i].t==t)=false:=by simpa using e
  simp[List.filter,this]
theorem yh9(t:Int)(l:List Inp)(i:Nat):(ofT t (l.take i)).length<=l.length/\(Fo t (l.take i)).length<=l.length:=by have h1:=Fbh (λi:Inp=>i.t==t) (l.take i);have h2:=Fbh (λi:Inp=> !(i.t==t)) (l.take i);rw[Fam]at h1 h2;unfold ofT Fo;omega
theorem sa(l:List Inp)(hl:H7 l)(t:Int)(st:Store)(R:Ja)(h:R (.tup [lst 3 qp (ofT t l),lst 3 qp (Fo t l)]) st):Jb 411 [lst 3 qp l,int t] st R:=by
 have hlen:=hl.1;refine Qa (c:=cfg 31) zb Tryz.func411 ?_
 refine AWp.loop (σ:=Nat×AV×AV×Store) ⟨λx=>[(1,.av (int t)),(4,.av x.2.1),(5,.av x.2.2.1),(8,.av (lst 3 qp l)),(9,.av (int (l.length:Nat))),(10,.av (int (x.1:Nat)))],λ_=>[],
  λx st'=>x.1<=l.length/\App 3 st x.2.1 (rws qp (ofT t (l.take x.1))) x.2.2.2/\App 3 x.2.2.2 x.2.2.1 (rws qp (Fo t (l.take x.1))) st',λx=>l.length-x.1⟩ zb ?_ ?_
 ·refine⟨(0,.s (.slice none 0 0),.s (.slice none 0 0),st),Tv,⟨Fae _,App.start 3 st,App.start 3 st⟩,⟨Tq,Tq,Tq,Tq,?_,Tq,Tv⟩,Tv⟩;rw[<-zj (f:=qp) l];exact Tq
 rintro⟨i,v1,v2,s1⟩ st' ⟨hi,ha1,ha2⟩;dsimp only at hi ha1 ha2⊢;refine bcd (λc1=>?_) (λc1=>?_);rotate_left
 ·have:i=l.length:=θ;subst this;rw[Fal]at ha1 ha2;exact⟨.tup [lst 3 qp (ofT t l),lst 3 qp (Fo t l)],st,AV.le_tupL ⟨ha1.le,ha2.le,Tv⟩,ha2.has.trans ha1.has,h⟩
 have hlt:i<l.length:=θ;obtain⟨q1,q2⟩:=yh7 (t:=t) hlt;obtain⟨n1,n2⟩:=yh9 t l i;refine⟨i,rfl,za _ (zq hlt) ?_⟩;refine zw (λc2=>?_) (λc2=>?_)
 ·rw[if_pos c2]at q1 q2;refine dt l[i] (hl.2 _ (Faa hlt)) _ _ ?_;refine⟨ψ,?_⟩;obtain⟨s2,hb2,hb1⟩:=zgo ha1 ha2;refine Bj (ie:=ti364) (rows':=[qp l[i]]) hb1 ?_ ?_ ⟨?_,?_⟩ (λv3 st3 hb3=>?_)
  ·rfl
  ·rfl
  ·simp[zj,ti364];omega
  ·simp[zj];omega
  obtain⟨s3,hc1,hc2⟩:=zgo hb2 hb3;refine Qd ?_;refine⟨(i+1,v3,v2,s3),(show l.length-(i+1)<l.length-i by omega),⟨hlt,?_,?_⟩,Qaq,Tv⟩
  ·dsimp only;rw[q1,<-Ia];exact hc1
  ·dsimp only;rw[q2];exact hc2
 ·rw[if_neg c2]at q1 q2;refine dt l[i] (hl.2 _ (Faa hlt)) _ _ ?_;refine⟨ψ,?_⟩;refine Bj (ie:=ti364) (rows':=[qp l[i]]) ha2 ?_ ?_ ⟨?_,?_⟩ (λv3 st3 hb3=>?_)
  ·rfl
  ·rfl
  ·simp[zj,ti364];omega
  ·simp[zj];omega
  refine Qd ?_;refine⟨(i+1,v1,v3,s1),(show l.length-(i+1)<l.length-i by omega),⟨hlt,?_,?_⟩,Qaq,Tv⟩
  ·dsimp only;rw[q1];exact ha1
  ·dsimp only;rw[q2,<-Ia];exact hb3
theorem iw(l:List Int)(hl:l.length<=1000000000)(hne:0<l.length)(st:Store)(R:Ja)(h:R (int (Dj l)) st):Jb 242 [yh l] st R:=by
 refine Qa (c:=cfg 25) zb Tryz.func242 ?_;refine zk (λh1=>?_) (λh1=>?_)
 ·rw[zj]at h1;simp at h1;omega
 refine⟨0,rfl,za _ (zq hne) ?_⟩
 refine AWp.loop (σ:=Nat) ⟨λi=>[(0,.av (yh l)),(3,.av (int (Dj (l.take i)))),(4,.av (int (i:Nat)))],λ_=>[],
  λi st'=>(1<=i/\i<=l.length)/\st'=st,λi=>l.length-i⟩ zb ?_ ?_
 ·refine⟨1,Tv,⟨⟨Fak _,hne⟩,rfl⟩,⟨Tq,?_,Tq,Tv⟩,Tv⟩;rw[yi7 hne];exact Tq
 rintro i st' ⟨⟨hi1,hi⟩,rfl⟩;refine bcd (λc1=>?_) (λc1=>?_)
 ·have hlt:i<l.length:=by rw[zj]at c1;omega
  refine⟨i,rfl,za _ (zq hlt) ?_⟩;refine Qd ?_;refine⟨i+1,(show l.length-(i+1)<l.length-i by omega),⟨⟨θ,hlt⟩,rfl⟩,⟨Tq,?_,Tq,Tv⟩,Tv⟩;show LV.le (.av (int (min2 (Dj (l.take i)) l[i]))) (.av (int (Dj (l.take (i+1)))));rw[min2_eq,yi6 hlt hi1];exact Tq
 ·have:i=l.length:=by rw[zj]at c1;omega
  subst this;have e:l.take l.length=l:=Fal;rw[<-e]at h;exact ret h
theorem yjy(l:List Int)(hl:l.length<=1000000000)(hne:0<l.length)(st:Store)(R:Ja)(h:R (int (Gq l)) st):Jb 243 [yh l] st R:=by
 refine Qa (c:=cfg 25) zb Tryz.func243 ?_;refine zk (λh1=>?_) (λh1=>?_)
 ·rw[zj]at h1;simp at h1;omega
 refine⟨0,rfl,za _ (zq hne) ?_⟩
 refine AWp.loop (σ:=Nat) ⟨λi=>[(0,.av (yh l)),(3,.av (int (Gq (l.take i)))),(4,.av (int (i:Nat)))],λ_=>[],
  λi st'=>(1<=i/\i<=l.length)/\st'=st,λi=>l.length-i⟩ zb ?_ ?_
 ·refine⟨1,Tv,⟨⟨Fak _,hne⟩,rfl⟩,⟨Tq,?_,Tq,Tv⟩,Tv⟩;rw[yjw hne];exact Tq
 rintro i st' ⟨⟨hi1,hi⟩,rfl⟩;refine bcd (λc1=>?_) (λc1=>?_)
 ·have hlt:i<l.length:=by rw[zj]at c1;omega
  refine⟨i,rfl,za _ (zq hlt) ?_⟩;refine Qd ?_;refine⟨i+1,(show l.length-(i+1)<l.length-i by omega),⟨⟨θ,hlt⟩,rfl⟩,⟨Tq,?_,Tq,Tv⟩,Tv⟩;show LV.le (.av (int (max2 (Gq (l.take i)) l[i]))) (.av (int (Gq (l.take (i+1)))));rw[max2_eq,yjv hlt hi1];exact Tq
 ·have:i=l.length:=by rw[zj]at c1;omega
  subst this;have e:l.take l.length=l:=Fal;rw[<-e]at h;exact ret h
theorem ze8(p:Per)(hp:Rl p)(l:List Int)(hl:l.length<=1000000000)(st:Store)(R:Ja)(h:∀b:Bool,(b=true↔countsP p l)->R (V.bool b) st):Jb 241 [.agg (yx p),yh l] st R:=by
 obtain⟨⟨hp1,hp2⟩,⟨hi1,hi2⟩,⟨hd1,hd2⟩,ht1,ht2⟩:=hp;simp only[maxT]at ht2;have no:¬countsP p l->R (V.bool false) st:=λhn=>h false (by simp[hn]);refine Qa (c:=cfg 46) zb Tryz.func241 ?_
 refine AWp.loop (σ:=Nat) ⟨λi=>[(1,.av (yh l)),(2,.bx 2 0),(7,.av (yh l)),(8,.av (int (l.length:Nat))),(9,.av (int (i:Nat)))],λ_=>[(2,yx p)],
  λi st'=>st'=st/\i<=l.length/\∀j,(hj:j<l.length)->j<i->p.delay-1<=l[j]/\l[j]<=p.turn+16/\l[j]<=maxT,λi=>l.length-i⟩ zb ?_ ?_
 ·refine⟨0,Tv,⟨rfl,Fae _,λj _ hj=>absurd hj (Fa3 j)⟩,⟨Tq,Tq,Tq,?_,Tq,Tv⟩,⟨rfl,Tv⟩⟩;rw[<-zj (f:=zv) l];exact Tq
 rintro i st' ⟨rfl,hi,hall⟩;refine bcd (λc1=>?_) (λc1=>?_);rotate_left
 ·have:i=l.length:=θ;subst this;refine Qc zb ycg ?_;refine zw (λc2=>?_) (λc2=>?_);rotate_left
  ·rw[zj]at c2;refine Qau ?_;exact ret (no λhh=>c2 hh.2.1)
  rw[zj]at c2;refine Qd ?_;have hx:(p.id-1).toNat<l.length:=θ;have hx2:(((p.id-1).toNat:Nat):Int)=p.id-1:=θ;refine⟨(p.id-1).toNat,by rw[hx2],za _ (zq hx) ?_⟩;refine Qau ?_;refine ret (h _ ?_);rw[beq_iff_eq];exact⟨λhh=>⟨λj hj=>hall j hj hj,c2,λ_=>hh⟩,λhh=>hh.2.2 hx⟩
 have hlt:i<l.length:=θ;refine⟨i,rfl,za _ (zq hlt) ?_⟩;refine Qd ?_;refine bcd (λc2=>ret (no λhh=>by have:=(hh.1 i hlt).1;omega)) (λc2=>?_);refine Qd ?_;refine bcd (λc3=>ret (no λhh=>by have:=(hh.1 i hlt).2.1;omega)) (λc3=>?_);refine bcd (λc4=>ret (no λhh=>by have:=(hh.1 i hlt).2.2;simp only[maxT]at this;omega)) (λc4=>?_);refine Qd ?_;refine⟨i+1,(show l.length-(i+1)<l.length-i by omega),⟨rfl,hlt,λj hj hji=>?_⟩,Qaq,⟨rfl,Tv⟩⟩;by_cases e:j=i
 ·subst e;simp only[maxT];omega
 ·exact hall j hj θ
theorem yi5(p:Per)(hp:Rl p)(hs:p.delay-1<=p.said/\p.said<=maxT)(ha:countsP p p.acked)(hf:p.mine.length<=1000000000/\∀i∈p.mine,i.fits)(hk:p.acked.length<=1000000000)(st:Store)(R:Ja)(h:∀b:Bool,(b=true↔iv p)->R (V.bool b) st):Jb 244 [.agg (yx p)] st R:=by
 obtain⟨⟨hp1,hp2⟩,⟨hi1,hi2⟩,⟨hd1,hd2⟩,ht1,ht2⟩:=hp;simp only[maxT]at ht2 hs;have hne:0<p.acked.length:=by have:=ha.2.1;omega
 have hmn:=ha.mem (zb9 hne);have no:¬iv p->R (V.bool false) st:=λhn=>h false (by simp[hn]);refine Qa (c:=cfg 48) zb Tryz.func244 ?_;refine Qc zb ycf ?_;refine⟨iw p.acked hk hne _ _ ⟨Qe,?_⟩,Tv⟩;refine Qd ?_;refine qf (λc1=>?_) (λc1=>?_)
 ·rw[zj]at c1;exact ret (no λhh=>c1 hh.1)
 rw[zj]at c1;have hlen:=hf.1
 refine AWp.loop (σ:=Nat) ⟨λi=>[(1,.bx 1 0),(16,.av (lst 3 qp p.mine)),(17,.av (int (p.mine.length:Nat))),(18,.av (int (i:Nat)))],λ_=>[(1,yx p)],
  λi st'=>st'=st/\i<=p.mine.length/\∀j,(hj:j<p.mine.length)->j<i->Iq p.mine[j]/\p.mine[j].p=p.id/\p.mine[j].t=p.said-p.mine.length+1+j,λi=>p.mine.length-i⟩ zb ?_ ?_
 ·refine⟨0,Tv,⟨rfl,Fae _,λj _ hj=>absurd hj (Fa3 j)⟩,⟨Tq,Tq,?_,Tq,Tv⟩,⟨rfl,Tv⟩⟩;rw[<-zj (f:=qp) p.mine];exact Tq
 rintro i st' ⟨rfl,hi,hall⟩;refine bcd (λc2=>?_) (λc2=>?_);rotate_left
 ·have:i=p.mine.length:=θ;subst this;exact ret (h true (by simp only[true_iff];exact⟨c1,λj hj=>hall j hj hj⟩))
 have hlt:i<p.mine.length:=θ;refine⟨i,rfl,za _ (zq hlt) ?_⟩;refine sc p.mine[i] (hf.2 _ (Faa hlt)) _ _ (λz hz=>?_);refine yi ?_;refine zk (λc3=>?_) (λc3=>?_);rotate_left
 ·exact ret (no λhh=>by have:=hz.2 (hh.2 i hlt).1;rw[this]at c3;cases c3)
 have hip:=hz.1 c3;refine qf (λc4=>ret (no λhh=>c4 (hh.2 i hlt).2.1)) (λc4=>?_);have hr:((rws qp p.mine).length:Int)=p.mine.length:=θc;refine Qd ?_;refine Qd ?_;refine Qd ?_;refine qf (λc5=>ret (no λhh=>by have:=(hh.2 i hlt).2.2;omega)) (λc5=>?_);refine Qd ?_;refine⟨i+1,(show p.mine.length-(i+1)<p.mine.length-i by omega),⟨rfl,hlt,λj hj hji=>?_⟩,Qaq,⟨rfl,Tv⟩⟩;by_cases e:j=i
 ·subst e;exact⟨hip,c4,θ⟩
 ·exact hall j hj θ
theorem ylg(p:Per)(hp:Rl p)(ha:countsP p p.has)(hr:Sz p.inputs)(hf:p.inputs.length<=1000000000)(st:Store)(R:Ja)(h:∀b:Bool,(b=true↔lq p)->R (V.bool b) st):Jb 246 [.agg (yx p)] st R:=by
 obtain⟨⟨hp1,hp2⟩,⟨hi1,hi2⟩,⟨hd1,hd2⟩,ht1,ht2⟩:=hp;simp only[maxT]at ht2;have no:¬lq p->R (V.bool false) st:=λhn=>h false (by simp[hn]);refine Qa (c:=cfg 37) zb Tryz.func246 ?_
 refine AWp.loop (σ:=Nat) ⟨λi=>[(1,.bx 1 0),(6,.av (lst 3 qp p.inputs)),(7,.av (int (p.inputs.length:Nat))),(8,.av (int (i:Nat)))],λ_=>[(1,yx p)],
  λi st'=>st'=st/\i<=p.inputs.length/\∀j,(hj:j<p.inputs.length)->j<i->p.turn<=p.inputs[j].t/\p.inputs[j].p<=p.players/\∀h:(p.inputs[j].p-1).toNat<p.has.length,p.inputs[j].t<=p.has[(p.inputs[j].p-1).toNat],λi=>p.inputs.length-i⟩ zb ?_ ?_
 ·refine⟨0,Tv,⟨rfl,Fae _,λj _ hj=>absurd hj (Fa3 j)⟩,⟨Tq,Tq,?_,Tq,Tv⟩,⟨rfl,Tv⟩⟩;rw[<-zj (f:=qp) p.inputs];exact Tq
 rintro i st' ⟨rfl,hi,hall⟩;refine bcd (λc2=>?_) (λc2=>?_);rotate_left
 ·have:i=p.inputs.length:=θ;subst this;exact ret (h true (by simp only[true_iff];exact λj hj=>hall j hj hj))
 have hlt:i<p.inputs.length:=θ;refine⟨i,rfl,za _ (zq hlt) ?_⟩;have hip:=(hr i hlt).1.2.1;refine Qc zb ycd ?_;refine bcd (λc3=>ret (no λhh=>by have:=(hh i hlt).1;omega)) (λc3=>?_);refine bcd (λc4=>ret (no λhh=>by have:=(hh i hlt).2.1;omega)) (λc4=>?_);refine Qd ?_;have hln:=ha.2.1;have hx:(p.inputs[i].p-1).toNat<p.has.length:=θ;refine⟨(p.inputs[i].p-1).toNat,θ,za _ (zq hx) ?_⟩;refine bcd (λc5=>ret (no λhh=>by have:=(hh i hlt).2.2 hx;omega)) (λc5=>?_);refine Qd ?_;refine⟨i+1,(show p.inputs.length-(i+1)<p.inputs.length-i by omega),⟨rfl,hlt,λj hj hji=>?_⟩,Qaq,⟨rfl,Tv⟩⟩;by_cases e:j=i
 ·subst e;exact⟨θ,θ,λ_=>θ⟩
 ·exact hall j hj θ
theorem Ml(p:Per)(hf:p.fits)(st:Store)(R:Ja)(h:∀b:Bool,(b=true↔Ci p)->R (V.bool b) st):Jb 157 [.agg (yx p)] st R:=by
 have no:¬Ci p->R (V.bool false) st:=λhn=>h false (by simp[hn]);obtain⟨hf1,hf2,hf3,hf4,hf5⟩:=hf;refine Qa (c:=cfg 119) zb Tryz.func157 ?_;refine bcd (λc1=>ret (no λhh=>by have:=hh.1.1.1;omega)) (λc1=>?_);refine bcd (λc2=>ret (no λhh=>by have:=hh.1.1.2;omega)) (λc2=>?_);refine bcd (λc3=>ret (no λhh=>by have:=hh.1.2.1.1;omega)) (λc3=>?_);refine bcd (λc4=>ret (no λhh=>by have:=hh.1.2.1.2;omega)) (λc4=>?_);refine bcd (λc5=>ret (no λhh=>by have:=hh.1.2.2.1.1;omega)) (λc5=>?_);refine bcd (λc6=>ret (no λhh=>by have:=hh.1.2.2.1.2;omega)) (λc6=>?_);refine bcd (λc7=>ret (no λhh=>by have:=hh.1.2.2.2.1;omega)) (λc7=>?_);refine bcd (λc8=>ret (no λhh=>by have:=hh.1.2.2.2.2;simp only[maxT]at this;omega)) (λc8=>?_);have hb:Rl p:=⟨⟨θ,θ⟩,⟨θ,θ⟩,⟨θ,θ⟩,θ,by simp only[maxT];omega⟩
 refine Qd ?_;refine bcd (λd1=>ret (no λhh=>by have:=hh.2.1.1;omega)) (λd1=>?_);refine Qd ?_;refine Qd ?_;refine bcd (λd2=>ret (no λhh=>by have:=hh.2.1.2.1;omega)) (λd2=>?_);refine bcd (λd3=>ret (no λhh=>by have:=hh.2.1.2.2;simp only[maxT]at this;omega)) (λd3=>?_);refine ze8 p hb p.has hf3 _ _ (λz1 hz1=>?_);refine yi ?_;refine zk (λd4=>?_) (λd4=>?_);rotate_left
 ·exact ret (no λhh=>by have:=hz1.2 hh.2.2.1;rw[this]at d4;cases d4)
 have ha:=hz1.1 d4;refine ze8 p hb p.acked hf4 _ _ (λz2 hz2=>?_);refine yi ?_;refine zk (λd5=>?_) (λd5=>?_);rotate_left
 ·exact ret (no λhh=>by have:=hz2.2 hh.2.2.2.1;rw[this]at d5;cases d5)
 have hk:=hz2.1 d5;have hl1:0<p.has.length:=by have:=ha.2.1;omega
 have hl2:0<p.acked.length:=by have:=hk.2.1;omega
 refine Qc zb ydm ?_;refine Qd ?_;refine⟨iw p.has hf3 hl1 _ _ ⟨Qe,?_⟩,Tv⟩;refine bcd (λe1=>?_) (λe1=>?_)
 ·refine Qat ?_;exact ret (no λhh=>by have:=hh.2.2.2.2.1;omega)
 refine⟨yjy p.acked hf4 hl2 _ _ ⟨Qe,?_⟩,Tv⟩;refine bcd (λe2=>ret (no λhh=>by have:=hh.2.2.2.2.2.1;omega)) (λe2=>?_);have hrl:((rws xh p.hashes).length:Int)=p.hashes.length:=θc;refine bcd (λe3=>ret (no λhh=>by have:=hh.2.2.2.2.2.2.1;omega)) (λe3=>?_);refine bcd (λe4=>ret (no λhh=>by have:=hh.2.2.2.2.2.2.2.1;omega)) (λe4=>?_);refine yi5 p hb ⟨θ,by simp only[maxT];omega⟩ hk hf1 hf4 _ _ (λz3 hz3=>?_);refine zk (λe5=>?_) (λe5=>?_);rotate_left
 ·exact ret (no λhh=>by have:=hz3.2 hh.2.2.2.2.2.2.2.2.1;rw[this]at e5;cases e5)
 refine ye6 p.inputs hf2.1 hf2.2 _ _ (λz4 hz4=>?_);refine zk (λe6=>?_) (λe6=>?_);rotate_left
 ·exact ret (no λhh=>by have:=hz4.2 hh.2.2.2.2.2.2.2.2.2.1;rw[this]at e6;cases e6)
 refine ylg p hb ha (hz4.1 e6) hf2.1 _ _ (λz5 hz5=>?_);refine ret (h z5 ?_);refine⟨λhh=>⟨hb,⟨θ,θ,by simp only[maxT];omega⟩,ha,hk,θ,θ,θ,θ,hz3.1 e5,hz4.1 e6,hz5.1 hh⟩,λhh=>hz5.2 hh.2.2.2.2.2.2.2.2.2.2⟩
def G6(p:Per):Prop:=p.turn<=Dj p.has/\p.turn<maxT
instance(p:Per):Decidable (G6 p):=by unfold G6;infer_instance
theorem zfv(p:Per)(hne:0<p.has.length)(hl:p.has.length<=1000000000)(st:Store)(R:Ja)(h:∀b:Bool,(b=true↔G6 p)->R (V.bool b) st):Jb 410 [.agg (yx p)] st R:=by
 refine Qa (c:=cfg 14) zb Tryz.func410 ?_;refine Qc zb yal ?_;refine⟨iw p.has hl hne _ _ ⟨Qe,?_⟩,Tv⟩;refine bcd (λc1=>?_) (λc1=>?_);rotate_left
 ·refine Qat ?_;exact ret (h false (by simp;exact λhh=>c1 hh.1))
 refine Qat ?_;refine ret (h _ ?_);rw[decide_eq_true_eq];exact⟨λhh=>⟨c1,hh⟩,λhh=>hh.2⟩
theorem yqu(l:List Int)(hl:l.length<=1000000000)(R:Ja)(h:∀v N,RowsQ 1 xh N v l->R v N):Jb 407 [lst 1 xh l] Store.empty R:=by
 refine Qa (c:=cfg 8) zb Tryz.func407 ?_;intro b hb;cases b with
 |true=>
  have:l=[]:=θt;subst this;exact ret (h (.s (.slice none 0 0)) Store.empty (.inl (.inl ⟨rfl,rfl⟩)))
 |false=>
  refine⟨ψ,?_⟩;exact Rm (ie:=ti12) rfl lv ψ hl (λv N hv hd=>ret (h v _ (by rw[Du];exact hv)))
def Vp(p:Per)(v:AV):List AV:=[int p.id,int p.players,int p.delay,int p.turn,int p.said,lst 3 qp p.mine,lst 3 qp p.inputs,yh p.has,yh p.acked,v,V.bool p.split]
def Km(p:Per):Prop:=H7 p.mine/\H7 p.inputs/\p.has.length<=1000000000/\p.acked.length<=1000000000/\p.hashes.length<=1000000000
theorem yg6(p:Per)(hs:Km p)(R:Ja)(h:∀v N,RowsQ 1 xh N v p.hashes->R (.agg (Vp p v)) N):Jb 346 [.agg (yx p)] Store.empty R:=by obtain⟨h1,h2,h3,h4,h5⟩:=hs;refine Qa (c:=cfg 24) zb Tryz.func346 ?_;refine Qc zb yax ?_;refine⟨sb p.mine h1 _ _ ⟨Qe,?_⟩,Tv⟩;refine⟨sb p.inputs h2 _ _ ⟨Qe,?_⟩,Tv⟩;refine Qat ?_;refine Qat ?_;refine Qc zb yaw ?_;refine⟨nu p.has h3 _ _ ⟨Qe,?_⟩,Tv⟩;refine⟨nu p.acked h4 _ _ ⟨Qe,?_⟩,Tv⟩;refine⟨yqu p.hashes h5 _ (λv N hv=>?_),Tv⟩;have hv2:=hv;obtain⟨oa,cap,rfl,_⟩:=hv2.form;refine⟨Qe,?_⟩;refine Qat ?_;refine Qat ?_;refine Qat ?_;exact ret (h _ N hv)
theorem yh8{t:Int}{l:List Inp}(h:H7 l):H7 (ofT t l)/\H7 (Fo t l):=by refine⟨⟨Fbv (Fbh _ _) h.1,λi hi=>h.2 i (Fbx.1 hi).1⟩,⟨Fbv (Fbh _ _) h.1,λi hi=>h.2 i (Fbx.1 hi).1⟩⟩
def vn(p:Per):List Cmd:=Dn (ofT p.turn p.inputs)
theorem yfx(p:Per)(hf:p.fits)(hs:Km p)(hn:(vn p).length<=1000000)(st:Store)(R:Ja)
  (h1:¬Ci p->R (.tup [.s (.slice none 0 0),V.bool false,int 1]) st) (h2:Ci p->¬G6 p->R (.tup [.s (.slice none 0 0),V.bool false,int 0]) st)
  (h3:Ci p->G6 p->R (.tup [lst 10 yz (vn p),V.bool true,int 0]) st):Jb 351 [.agg (yx p)] st R:=by
 obtain⟨s1,s2,s3,s4,s5⟩:=hs;refine Qa (c:=cfg 25) zb Tryz.func351 ?_;refine Ml p hf _ _ (λz hz=>?_);refine yi ?_;refine zk (λc1=>?_) (λc1=>?_);rotate_left
 ·exact ret (h1 λhh=>ψp)
 have hp:=hz.1 c1;have hne:0<p.has.length:=by have:=hp.2.2.1.2.1;have:=hp.1.1.1;omega
 refine zfv p hne s3 _ _ (λz2 hz2=>?_);refine yi ?_;refine zk (λc2=>?_) (λc2=>?_);rotate_left
 ·exact ret (h2 hp λhh=>by have:=hz2.2 hh;rw[this]at c2;cases c2)
 refine sa p.inputs s2 p.turn _ _ ?_;refine zyr (ofT p.turn p.inputs) (yh8 s2).1 hn _ _ ?_;exact ret (h3 hp (hz2.1 c2))
def jm(p:Per)(n:Int):Per:={p with inputs:=Fo p.turn p.inputs,turn:=p.turn+1,hashes:=if 16<p.hashes.length+1 then(p.hashes++[n]).drop 1 else p.hashes++[n]}
theorem ygc(p:Per)(n:Int)(hf:p.fits)(hs:Km p)(hp:Ci p)(hc:G6 p)(hh:p.hashes.length<16)(R:Ja)
  (h:∀v N,RowsQ 1 xh N v (p.hashes++[n])->R (.tup [.agg (Vp (jm p n) v),int 0]) N):Jb 352 [.agg (yx p),u64 n] Store.empty R:=by
 obtain⟨s1,s2,s3,s4,s5⟩:=hs;refine Qa (c:=cfg 46) zb Tryz.func352 ?_;refine Ml p hf _ _ (λz hz=>?_);refine yi ?_;refine zk (λc1=>?_) (λc1=>?_);rotate_left
 ·have:=hz.2 hp;rw[this]at c1;cases c1
 have hne:0<p.has.length:=by have:=hp.2.2.1.2.1;have:=hp.1.1.1;omega
 refine zfv p hne s3 _ _ (λz2 hz2=>?_);refine yi ?_;refine zk (λc2=>?_) (λc2=>?_);rotate_left
 ·have:=hz2.2 hc;rw[this]at c2;cases c2
 refine yg6 p ⟨s1,s2,s3,s4,s5⟩ _ (λv N hv=>?_);have hv2:=hv;obtain⟨oa,cap,rfl,_⟩:=hv2.form;refine sa p.inputs s2 p.turn _ _ ?_;have hpt:0<=p.turn/\p.turn<1099511627776:=⟨hp.1.2.2.2.1,hc.2⟩
 refine Qd ?_;refine⟨ψ,?_⟩;refine Hv (ie:=ti12) rfl lv ψ hv n rfl s5 (λb cap2 L2 q1 q2 q3 q4=>?_);refine bcd (λc3=>?_) (λc3=>?_)
 ·simp at c3;omega
 exact ret (h _ _ (.inl (.inr ⟨b,cap2,L2,rfl,zd _ _ _,q2,q3,q4⟩)))
theorem ygb(p:Per)(n:Int)(hf:p.fits)(hs:Km p)(hp:Ci p)(hc:G6 p)(hh:p.hashes.length<16)(st:Store)(R:Ja)
  (h:R (.tup [.agg (yx (jm p n)),int 0]) st):Jb 352 [.agg (yx p),u64 n] st R:=by
 refine Fv (Q:=λr=>r=.tup [.agg (yx (jm p n)),int 0]) ?_ st R λr hr=>hr▸h;refine(ygc p n hf hs hp hc hh (λr S=>∃v,RowsQ 1 xh S v (p.hashes++[n])/\r=.tup [.agg (Vp (jm p n) v),int 0]) λv N hv=>⟨v,hv,rfl⟩).frozen ?_;rintro r S ⟨v,hv,rfl⟩;refine⟨_,rfl,λOth M W x sto hx=>?_⟩;have e:(jm p n).hashes=p.hashes++[n]:=by unfold jm;exact if_neg θ
 refine VRel.tup2 hx (λy hy=>?_) (λy hy=>xg hy);have e1:Vp (jm p n) v=(yx (jm p n)).set 9 v:=rfl;have e2:yx (jm p n)=(yx (jm p n)).set 9 (lst 1 xh (p.hashes++[n])):=by rw[<-e];rfl
 rw[e1]at hy;rw[e2];exact ysv (λb o hb=>hb.1) hy λz hz=>hv.borrow lv ymf sto hz
theorem ylv(n:Nat)(v:Int):(il n λ_=>v)=(rws zv (List.replicate n v)).flatten:=by
 unfold il rws;induction n with
 |zero=>rfl
 |succ n ih=>simp[List.range_succ,List.replicate_succ',ih,zv]
theorem yfp(v:Int)(n:Nat)(h0:1<=n)(hn:n<=1000000)(st:Store)(R:Ja)(h:R (yh (List.replicate n v)) st):
  Jb 156 [lst 1 zv [v],int (n:Nat)] st R:=by
 refine Fv (Q:=λr=>r=yh (List.replicate n v)) ?_ st R λr hr=>hr▸h;refine(fx v n h0 hn Store.empty (λr S=>RowsQ 1 zv S r (List.replicate n v)) λb hf=>?_).frozen ?_
 ·refine .inl (.inr ⟨b,n,[],by rw[Fa5],?_,?_,?_,?_⟩)
  ·rw[zd,Fbn,ylv]
  ·rw[Fa5];exact Fak _
  ·rw[Fa5];exact Fak _
  ·omega
 ·exact λr S hr=>⟨_,rfl,λOth M w v sto hx=>hr.borrow Lf Ph sto hx⟩
def xu(id n d:Int):Per:=⟨id,n,d,0,d-1,[],[],if 1<=n/\n<=8 then List.replicate n.toNat (d-1)else [],if 1<=n/\n<=8 then List.replicate n.toNat (d-1)else [],[],false⟩
def Mm:Per:=⟨0,0,0,0,0,[],[],[],[],[],false⟩
theorem zbr(id n d:Int):(xu id n d).fits:=by
 have hl:(xu id n d).has.length<=8:=by
  show(if 1<=n/\n<=8 then List.replicate n.toNat (d-1)else []).length<=8;split
  ·rw[Fa5];omega
  ·exact Fae _
 have hl2:(xu id n d).acked.length<=8:=hl;exact⟨⟨by simp[xu],by simp[xu]⟩,⟨by simp[xu],by simp[xu]⟩,θ,θ,by simp[xu]⟩
theorem yiq(id n d:Int)(x y:AV):AV.le (.agg [int id,int n,int d,int 0,int (d-1),.s (.slice none 0 0),.s (.slice none 0 0),x,y,.s (.slice none 0 0),V.bool false]) (.agg [int id,int n,int d,int 0,int (d-1),lst 3 qp [],lst 3 qp [],x,y,lst 1 xh [],V.bool false]):=
 AV.le_aggL ⟨Tt,Tt,Tt,Tt,Tt,AV.le_nil 3,AV.le_nil 3,Tt,Tt,AV.le_nil 1,Tt,Tv⟩
theorem Vy(id n d:Int):AV.le (.agg [int id,int n,int d,int 0,int (d-1),.s (.slice none 0 0),.s (.slice none 0 0),.s (.slice none 0 0),.s (.slice none 0 0),.s (.slice none 0 0),V.bool false]) (.agg (yx ⟨id,n,d,0,d-1,[],[],[],[],[],false⟩)):=
 AV.le_aggL ⟨Tt,Tt,Tt,Tt,Tt,AV.le_nil 3,AV.le_nil 3,AV.le_nil 1,AV.le_nil 1,AV.le_nil 1,Tt,Tv⟩
theorem cn:AV.le (.agg [int 0,int 0,int 0,int 0,int 0,.s (.slice none 0 0),.s (.slice none 0 0),.s (.slice none 0 0),.s (.slice none 0 0),.s (.slice none 0 0),V.bool false]) (.agg (yx Mm)):=
 AV.le_aggL ⟨Tt,Tt,Tt,Tt,Tt,AV.le_nil 3,AV.le_nil 3,AV.le_nil 1,AV.le_nil 1,AV.le_nil 1,Tt,Tv⟩
theorem yg9(id n d:Int)(hd:-1000000<=d/\d<=1000000)(st:Store)(R:Ja)
  (h1:¬Ci (xu id n d)->R (.tup [.agg (yx Mm),int 1]) st) (h2:Ci (xu id n d)->R (.tup [.agg (yx (xu id n d)),int 0]) st):Jb 90 [int id,int n,int d] st R:=by
 refine Qa (c:=cfg 38) zb Tryz.func90 ?_;refine Qd ?_;have mid:∀q:Per,q=xu id n d->∀z:Bool,(z=true↔Ci q)->(z=true->R (.tup [.agg (yx q),int 0]) st)/\(z=false->R (.tup [.agg (yx Mm),int 1]) st):=λq hq z hz=>by subst hq;exact⟨λe=>h2 (hz.1 e),λe=>h1 λhh=>by rw[hz.2 hh]at e;cases e⟩
 have hf:=zbr id n d;refine bcd (λc1=>?_) (λc1=>?_)
 ·refine bcd (λc2=>?_) (λc2=>?_)
  ·have hn:((n.toNat:Nat):Int)=n:=θ;have e:xu id n d=⟨id,n,d,0,d-1,[],[],List.replicate n.toNat (d-1),List.replicate n.toNat (d-1),[],false⟩:=by
    unfold xu;rw[if_pos ⟨c1,c2⟩]
   refine Qd ?_;refine⟨ψ,?_⟩;have hr:=λ(R':Ja) (hh:R' (yh (List.replicate n.toNat (d-1))) st)=>yfp (d-1) n.toNat θ θ st R' hh;rw[hn]at hr;refine hr _ ?_;refine Qd ?_;refine⟨ψ,?_⟩;refine hr _ ?_;rw[e]at hf;have hle:AV.le _ (.agg (yx ⟨id,n,d,0,d-1,[],[],List.replicate n.toNat (d-1),List.replicate n.toNat (d-1),[],false⟩)):=yiq id n d (yh (List.replicate n.toNat (d-1))) (yh (List.replicate n.toNat (d-1)));refine ACalls.le (xs:=[_]) (ys:=[_]) ⟨hle,Tv⟩ (Ml _ hf _ _ (λz hz=>?_));obtain⟨m1,m2⟩:=mid _ e.symm z hz;refine yi ?_;refine zk (λc3=>?_) (λc3=>?_)
   ·exact⟨.tup [.agg (yx _),int 0],st,AV.le_tupL (xs:=[.agg [int id,int n,int d,int 0,int (d-1),.s (.slice none 0 0),.s (.slice none 0 0),yh (List.replicate n.toNat (d-1)),yh (List.replicate n.toNat (d-1)),.s (.slice none 0 0),V.bool false],int 0]) (ys:=[.agg (yx _),int 0]) ⟨hle,Tt,Tv⟩,Store.Has.refl st,m1 c3⟩
   ·exact⟨.tup [.agg (yx _),int 1],st,AV.le_tupL (xs:=[.agg [int 0,int 0,int 0,int 0,int 0,.s (.slice none 0 0),.s (.slice none 0 0),.s (.slice none 0 0),.s (.slice none 0 0),.s (.slice none 0 0),V.bool false],int 1]) (ys:=[.agg (yx Mm),int 1]) ⟨cn,Tt,Tv⟩,Store.Has.refl st,m2 c3⟩
  ·have e:xu id n d=⟨id,n,d,0,d-1,[],[],[],[],[],false⟩:=by
    unfold xu;rw[if_neg θ]
   rw[e]at hf;refine ACalls.le (xs:=[_]) (ys:=[_]) ⟨Vy id n d,Tv⟩ (Ml _ hf _ _ (λz hz=>?_));obtain⟨m1,m2⟩:=mid _ e.symm z hz;refine yi ?_;refine zk (λc3=>?_) (λc3=>?_)
   ·exact⟨.tup [.agg (yx _),int 0],st,AV.le_tupL (xs:=[.agg [int id,int n,int d,int 0,int (d-1),.s (.slice none 0 0),.s (.slice none 0 0),.s (.slice none 0 0),.s (.slice none 0 0),.s (.slice none 0 0),V.bool false],int 0]) (ys:=[.agg (yx _),int 0]) ⟨Vy id n d,Tt,Tv⟩,Store.Has.refl st,m1 c3⟩
   ·exact⟨.tup [.agg (yx _),int 1],st,AV.le_tupL (xs:=[.agg [int 0,int 0,int 0,int 0,int 0,.s (.slice none 0 0),.s (.slice none 0 0),.s (.slice none 0 0),.s (.slice none 0 0),.s (.slice none 0 0),V.bool false],int 1]) (ys:=[.agg (yx Mm),int 1]) ⟨cn,Tt,Tv⟩,Store.Has.refl st,m2 c3⟩
 ·have e:xu id n d=⟨id,n,d,0,d-1,[],[],[],[],[],false⟩:=by
   unfold xu;rw[if_neg θ]
  rw[e]at hf;refine ACalls.le (xs:=[_]) (ys:=[_]) ⟨Vy id n d,Tv⟩ (Ml _ hf _ _ (λz hz=>?_));obtain⟨m1,m2⟩:=mid _ e.symm z hz;refine yi ?_;refine zk (λc3=>?_) (λc3=>?_)
  ·exact⟨.tup [.agg (yx _),int 0],st,AV.le_tupL (xs:=[.agg [int id,int n,int d,int 0,int (d-1),.s (.slice none 0 0),.s (.slice none 0 0),.s (.slice none 0 0),.s (.slice none 0 0),.s (.slice none 0 0),V.bool false],int 0]) (ys:=[.agg (yx _),int 0]) ⟨Vy id n d,Tt,Tv⟩,Store.Has.refl st,m1 c3⟩
  ·exact⟨.tup [.agg (yx _),int 1],st,AV.le_tupL (xs:=[.agg [int 0,int 0,int 0,int 0,int 0,.s (.slice none 0 0),.s (.slice none 0 0),.s (.slice none 0 0),.s (.slice none 0 0),.s (.slice none 0 0),V.bool false],int 1]) (ys:=[.agg (yx Mm),int 1]) ⟨cn,Tt,Tv⟩,Store.Has.refl st,m2 c3⟩
theorem yij(p:Per)(hf:p.fits)(hp:Ci p)(h1:p.players=1)(st:Store)(R:Ja)(h:R (.tup [.s (.slice none 0 0),int 0]) st):Jb 249 [.agg (yx p)] st R:=by
 have hid:p.id=1:=by have:=hp.1.2.1;omega
 refine Qa (c:=cfg 67) zb Tryz.func249 ?_;refine Ml p hf _ _ (λb hb=>?_);rw[hb.2 hp];refine AWp.loop (σ:=Nat) ⟨λn=>[(1,.bx 1 0),(2,.av (.s (.slice none 0 0))),(3,.av (int 0)),(4,.bx 4 0)],λn=>[(1,yx p),(4,[int ((n+1:Nat):Int)])],λn S=>n<=1/\S=st,λn=>1-n⟩ zb ?_ ?_
 ·exact⟨0,Tv,⟨ψ,rfl⟩,Qaq,⟨rfl,rfl,Tv⟩⟩
 rintro n S ⟨hn,rfl⟩;refine bcd (λc1=>?_) (λc1=>?_);rotate_left
 ·exact ret h
 refine zw (λc2=>?_) (λc2=>?_)
 ·refine Qd ?_;exact⟨n+1,(show 1-(n+1)<1-n by omega),⟨θ,rfl⟩,Qaq,⟨rfl,rfl,Tv⟩⟩
 ·exact absurd (show((n+1:Nat):Int)=p.id by omega) c2
section
variable {st0 st:Store} {v:AV}
theorem ep(st:Store)(R:Ja)(h:R (u64 14695981039346656037) st):Jb 52 [] st R:=by refine Qa (c:=cfg 1) zb Tryz.func52 ?_;exact⟨_,st,Tt,Store.Has.refl st,h⟩
theorem zhg(n:Int)(st0 st:Store)(v:AV)(rows:List (List AV))(ha:App 1 st0 v rows st)(hr:rows.length<=100000000000000)(hn:n<=9223372036854775807)(R:Ja)
  (h:∀v' st',App 1 st0 v' (rows++rowsB (yv n)) st'->R v' st'):Jb 95 [v,int n] st R:=by
 refine Qa (c:=cfg 20) zb Tryz.func95 ?_;refine AWp.loop (σ:=AV×Int×List (List AV)) ⟨λs=>[(0,.av s.1),(1,.av (int s.2.1))],λ_=>[],λs st'=>App 1 st0 s.1 s.2.2 st'/\s.2.2++rowsB (yv s.2.1)=rows++rowsB (yv n),λs=>s.2.1.toNat⟩ zb ?_ ?_
 ·exact⟨(v,n,rows),Tv,⟨ha,rfl⟩,⟨Tq,Tq,Tv⟩,Tv⟩
 ·rintro⟨v,m,rs⟩ st ⟨ha,heq⟩;simp only at ha heq;have hrs:rs.length<=rows.length+9:=by
   have h1:=congrArg List.length heq;simp only[Fad,zj]at h1;have:=De hn;omega
  refine zk (λh1=>?_) (λh1=>?_)
  ·have h1:128<=m:=by simpa using h1
   refine⟨ψ,?_⟩;refine Bj (ie:=ti5) (rows':=[[.s (.int .u8 (jk .or .u8 (IntKind.u8.wrap m) 128))]]) ha ?_ ?_ ⟨?_,?_⟩ (λv2 st2 ha2=>?_)
   ·rfl
   ·rfl
   ·simp[ti5];omega
   ·simp;omega
   ·refine⟨ψ,?_⟩;refine⟨(v2,m.fdiv (2^(min (7:Int).toNat IntKind.i64.bits)),_),?_,⟨ha2,?_⟩,⟨Tq,Tq,Tv⟩,Tv⟩
    ·show(m.fdiv (2^(min (7:Int).toNat IntKind.i64.bits))).toNat<m.toNat;rw[uc];omega
    ·show(rs++_)++rowsB (yv (m.fdiv (2^(min (7:Int).toNat IntKind.i64.bits))))=_;rw[uc,yhy,<-heq,ygt h1,Fao];rfl
  ·have h1:m<128:=by simpa using h1
   refine⟨ψ,?_⟩;refine Bj (ie:=ti5) (rows':=[[.s (.int .u8 (IntKind.u8.wrap m))]]) ha ?_ ?_ ⟨?_,?_⟩ (λv2 st2 ha2=>?_)
   ·rfl
   ·rfl
   ·simp[ti5];omega
   ·simp;omega
   ·refine⟨_,st2,Tt,Store.Has.refl st2,h _ _ ?_⟩;rw[<-heq,ygs h1];rw[lb]at ha2;exact ha2
theorem Mk(n:Int){bs:List UInt8}(ha:App 1 st0 v (rowsB bs) st)(hr:bs.length<=100000000000000)(hn:n<=9223372036854775807){R:Ja}
  (h:∀v' st',App 1 st0 v' (rowsB (bs++yv n)) st'->R v' st'):Jb 95 [v,int n] st R:=
 zhg n st0 st v _ ha (by rw[zj];exact hr) hn R λv' st' h'=>h v' st' (by rw[Ia]at h';exact h')
theorem appB{n:Nat}{G W:List Nat}{x:LV}{bs l:List UInt8}{K:Ja}(ha:App 1 st0 v (rowsB bs) st)(hx:Ab 1 x=some (rowsB l))(hr:bs.length+l.length<=100000000000010)
  (h:∀v' st',App 1 st0 v' (rowsB (bs++l)) st'->K v' st'):appendK Tryz.prog (cfg n G W) st 5 (.av v) x K:=by
 refine Bj (ie:=ti5) (rows':=rowsB l) ha ?_ hx ⟨?_,?_⟩ (λv2 st2 ha2=>?_)
 ·rfl
 ·simp[zj,ti5];omega
 ·simp[zj];omega
 ·rw[Ia]at ha2;exact h _ _ ha2
end
theorem zbp(a:Int):jo [a]=yv a:=by simp[jo]
theorem ynx(s:Int)(l:List UInt8)(hl:l.length<=1000000000000)(st:Store)(R:Ja)(h:R (u64 (xe s l)) st):Jb 51 [u64 s,ya l] st R:=by
 refine Qa (c:=cfg 20) zb Tryz.func51 ?_
 refine AWp.loop (σ:=Nat) ⟨λi=>[(0,.av (u64 (xe s (l.take i)))),(7,.av (ya l)),(8,.av (int l.length)),(9,.av (int (i:Nat)))],λ_=>[],
  λi st'=>i<=l.length/\st'=st,λi=>l.length-i⟩ zb ?_ ?_
 ·refine⟨0,Tv,⟨Fae _,rfl⟩,⟨Tq,Tq,?_,Tq,Tv⟩,Tv⟩;rw[<-zj (f:=u8C) l];exact Tq
 ·rintro i st' ⟨hi,rfl⟩;refine zk (λh1=>?_) (λh1=>?_)
  ·have hlt:i<l.length:=by simpa using h1
   refine⟨i,rfl,za _ (zq hlt) ?_⟩;refine⟨⟨θ,θ⟩,?_⟩;refine⟨i+1,?_,⟨hlt,rfl⟩,⟨?_,Tq,Tq,Tq,Tv⟩,Tv⟩
   ·show l.length-(i+1)<l.length-i;omega
   ·rw[ynw hlt];exact Tq
  ·have hge:i=l.length:=by
    have:¬i<l.length:=θg;omega
   subst hge;refine⟨_,st',Tt,Store.Has.refl st',?_⟩;rw[<-Fal (l:=l)]at h;exact h
theorem Pu(s:Int){l:List UInt8}{v:AV}(hv:AV.le v (ya l))(hl:l.length<=1000000000000){st:Store}{R:Ja}(h:R (u64 (xe s l)) st):Jb 51 [u64 s,v] st R:=
 ACalls.le (ys:=[u64 s,ya l]) ⟨Tt,hv,Tv⟩ (ynx s l hl st R h)
theorem Wx(s:Int)(st:Store)(R:Ja)(h:R (ya (xi s)) st):Jb 50 [u64 s] st R:=by
 refine Qa (c:=cfg 14) zb Tryz.func50 ?_
 refine AWp.loop (σ:=Nat×AV) ⟨λx=>[(0,.av (u64 (s/256^x.1))),(2,.av x.2),(3,.av (int (x.1:Nat)))],λ_=>[],
  λx st'=>x.1<=8/\App 1 st x.2 (rowsB ((xi s).take x.1)) st',λx=>8-x.1⟩ zb ?_ ?_
 ·refine⟨(0,_),Tv,⟨Fae _,App.start 1 st⟩,⟨?_,Tq,Tq,Tv⟩,Tv⟩;show LV.le (.av (u64 s)) (.av (u64 (s/256^0)));rw[Int.pow_zero,Int.ediv_one];exact Tq
 ·rintro⟨i,v⟩ st' ⟨hi,ha⟩;simp only at hi ha;refine zk (λh1=>?_) (λh1=>?_)
  ·have hlt:i<8:=by simp at h1;omega
   refine⟨ψ,?_⟩;refine Bj (ie:=ti5) (rows':=[[.s (.int .u8 (IntKind.u8.wrap (s/256^i)))]]) ha ?_ ?_ ⟨?_,?_⟩ (λv2 st2 ha2=>?_)
   ·rfl
   ·rfl
   ·simp[zj,ti5];omega
   ·simp[zj];omega
   ·refine⟨ψ,?_⟩;refine⟨⟨θ,θ⟩,?_⟩;refine⟨(i+1,v2),?_,⟨hlt,?_⟩,⟨?_,Tq,Tq,Tv⟩,Tv⟩
    ·show 8-(i+1)<8-i;omega
    ·show App 1 st v2 (rws u8C ((xi s).take (i+1))) st2;rw[<-yo9 s hlt,<-Ia];rw[lb]at ha2;exact ha2
    ·show LV.le (.av (u64 ((s/256^i).fdiv (2^(min (8:Int).toNat IntKind.u64.bits))))) _;rw[zzo];exact Tq
  ·have hge:i=8:=by simp at h1;omega
   subst hge;refine⟨_,st,AV.le_trans ha.le ?_,ha.has,h⟩;rw[Fcd (by rw[Lj];exact Fak _)];exact Tt
theorem eo(st:Store)(R:Ja)(h:R (u64 xy) st):Jb 52 [] st R:=ep st R h
theorem yf7(l:List UInt8)(hl:l.length<=1048576)(st:Store)(R:Ja)(h:R (.tup [ya (yv l.length++l),int 0]) st):Jb 93 [ya l] st R:=by
 refine Qa (c:=cfg 12) zb Tryz.func93 ?_;refine bcd (λh1=>?_) (λh1=>?_)
 ·rw[zj]at h1;omega
 refine Mk (bs:=[]) _ (App.start 1 st) φ θf (λv st1 ha=>?_);rw[zj]at ha;have:=De (n:=(l.length:Int)) θ;refine appB ha (l:=l) ξ χ (λv2 st2 ha2=>?_);exact Bg h ha2.has (AV.le_tupL ⟨ha2.le,Tt,Tv⟩)
theorem yk7(n:Int)(hn:I62 n)(st:Store)(R:Ja)(h:R (.tup [ya (vr n),int 0]) st):Jb 115 [int n] st R:=by
 refine Qa (c:=cfg 21) zb Tryz.func115 ?_;unfold I62 at hn;have fin:∀{v:AV} {st2:Store} {l:List UInt8},App 1 st v (rowsB ([]++l)) st2->l=vr n->∃r st',AV.le (.tup [v,int 0]) r/\st2.Has st'/\R r st':=by rintro v st2 l ha rfl;exact Bg h ha.has (AV.le_tupL ⟨ha.le,Tt,Tv⟩)
 refine bcd (λh1=>?_) (λh1=>?_)
 ·exact absurd h1 (Int.not_lt.2 (Int.le_of_lt hn.1))
 refine bcd (λh1=>absurd h1 (Int.not_le.2 hn.2)) (λh1=>?_);refine bcd (λh2=>?_) (λh2=>?_)
 ·have r1:yg ((-2:Int)*n):=⟨θ,θ⟩
  have r2:yg ((-2:Int)*n-1):=⟨θ,θ⟩
  refine⟨r1,r2,?_⟩;refine Mk (bs:=[]) ((-2:Int)*n-1) (App.start 1 st) φ θ (λv st1 ha=>?_);exact fin ha (by unfold vr;rw[if_pos h2])
 ·refine⟨⟨θ,θ⟩,?_⟩;refine Mk (bs:=[]) _ (App.start 1 st) φ θ (λv st1 ha=>?_);exact fin ha (by unfold vr;rw[if_neg h2])
theorem yj4(g:Gnd)(hg:zt g)(st:Store)(R:Ja)(h:R (ya (xx g)) st):Jb 94 [.agg (zu g)] st R:=by
 refine Qa (c:=cfg 21 [4] []) zb Tryz.func94 ?_;obtain⟨h1,h2,h3,_⟩:=hg;have hm:=Kn h1 h2;have hw:=De (n:=g.W) θ;have hh:=De (n:=g.H) θ;refine Qc zb zz1 ?_;refine⟨⟨ψ,λb hb=>⟨Qe,?_⟩⟩,Tv⟩;refine⟨optR (optR (optR (za _ (H8 _ _ _) ⟨Qe,?_⟩))),Tv⟩;refine⟨Mk (bs:=[84,71]) _ (pe hb (by simp[rws])) φ θ (λv st1 ha=>⟨Qe,?_⟩),Tv⟩;refine⟨Mk _ ha χ θ (λv st1 ha=>⟨Qe,?_⟩),Tv⟩;refine⟨appB ha (l:=g.T) ξ χ (λv st1 ha=>⟨Qe,?_⟩),Tv⟩;refine Qau ?_;refine ep _ _ ?_;have e:([84,71]++yv g.W++yv g.H++g.T)=kx g:=rfl;rw[e]at ha;have hl:(kx g).length<=20000:=by simp only[<-e,Fad,Fbd,Fc5];omega
 refine Pu _ ha.le θ ?_;refine Wx _ _ _ ?_;refine appB ha (l:=xi (xe xy (kx g))) ξ (by rw[Lj];omega) (λv st1 ha=>?_);exact Bg h ha.has ha.le
theorem Qal{p:Prop}(h:p:=by simp only[Fad,Fbd,Fc5];omega):p:=h
theorem Qam{p:Prop}(h:p:=by simp only[Fbt,forall_eq];rw[zj];unfold I64;omega):p:=h
theorem Qan{p:Prop}(h:p:=by rw[Fad];omega):p:=h
theorem M4(l:List Int)(hl:l.length<=64)(hn:∀n∈l,I64 n){p:Nat}{st0 st:Store}{v:AV}{bs:List UInt8}(ha:App 1 (st0.sO p (.cells [v])) v (rowsB bs) st)(hr:bs.length<=90000000000000){R:Ja}
  (h:∀v' st',App 1 (st0.sO p (.cells [v'])) v' (rowsB (bs++jo l)) st'->R (.tup []) st'):Jb 114 [yh l,.s (.pointer (some ⟨p,0,none⟩))] st R:=by
 refine Qa (c:=cfg 15) zb Tryz.func114 ?_;refine AWp.loop (σ:=Nat×AV) ⟨λs=>[(1,.av (.s (.pointer (some ⟨p,0,none⟩)))),(5,.av (yh l)),(6,.av (int l.length)),(7,.av (int s.1))],λ_=>[],λs st'=>s.1<=l.length/\App 1 (st0.sO p (.cells [s.2])) s.2 (rowsB (bs++jo (l.take s.1))) st',λs=>l.length-s.1⟩ zb ?_ ?_
 ·refine⟨(0,v),Tv,⟨Fae _,by simpa [jo]using ha⟩,⟨Tq,Tq,?_,Tq,Tv⟩,Tv⟩;rw[<-zj (f:=zv) l];exact Tq
 ·rintro⟨i,v⟩ st' ⟨hi,ha⟩;simp only at hi ha;refine bcd (λh1=>?_) (λh1=>?_)
  ·have hlt:i<l.length:=θ;refine⟨i,rfl,za _ (zq hlt) ?_⟩;refine za _ ha.read ?_;have hlen:=Ky (l:=l.take i) λn hn'=>(hn n (Fcl hn')).2;rw[Fam]at hlen;refine Mk _ ha χ (hn _ (Faa hlt)).2 (λv st1 ha=>?_);refine j4 ha.cells ha.one ξ ha.read (Fak _) ?_;refine⟨⟨θ,θ⟩,?_⟩;refine⟨(i+1,v),?_,⟨hlt,?_⟩,Qaq,Tv⟩
   ·show l.length-(i+1)<l.length-i;omega
   ·rw[yib hlt,<-Fao];exact ha.sO
  ·obtain rfl:i=l.length:=θ;rw[Fal]at ha;exact ret (h _ _ ha)
theorem mo{α:Type}(f:α->List UInt8){l:List α}{i:Nat}(h:i<l.length):(l.take (i+1)).flatMap f=(l.take i).flatMap f++f l[i]:=by rw[Fab h,List.flatMap_append,List.flatMap_singleton]
theorem Nd{α:Type}(f:α->List UInt8)(n:Nat):∀l:List α,(∀x∈l,(f x).length<=n)->(l.flatMap f).length<=n*l.length:=by
 intro l;induction l with
 |nil=>intro _;simp
 |cons a l ih=>
  intro h;have h1:=h a (Fa7 ..);have h2:=ih λx hx=>h x (Fav _ hx);rw[List.flatMap_cons,Fad,Fbd,Nat.mul_add];omega
theorem Bl{n:Int}(h:jt n):I64 n:=by unfold jt at h;unfold I64;omega
theorem oo{b:Bld}(h:bq b):(Ff b).length<=54:=by
 unfold Ff;refine Fbv (Ky λn hn=>?_) (show 9*6<=54 by decide);obtain⟨h1,h2,h3,h4,h5,h6⟩:=h;simp at hn;rcases hn with rfl|rfl|rfl|rfl|rfl|rfl
 ·exact h1.2
 ·exact h2.2
 ·exact h3.2
 ·exact h4.2
 ·exact h5.2
 ·exact h6.2
theorem ro{u:Unt}(h:R0 u):(Bp u).length<=90:=by
 obtain⟨h1,h2,h3,h4,h5,h6,h7,h8,h9,h10⟩:=h;have a1:(jo [u.id,u.owner,u.kind]).length<=9*3:=Ky λn hn=>by
  simp at hn;rcases hn with rfl|rfl|rfl
  ·exact h1.2
  ·exact h2.2
  ·exact h3.2
 have a2:(jo [u.goal+1,u.next+1,u.stuck,u.inn,u.state]).length<=9*5:=Ky λn hn=>by
  simp at hn;rcases hn with rfl|rfl|rfl|rfl|rfl
  ·exact h6.2
  ·exact h7.2
  ·exact h8.2
  ·exact h9.2
  ·exact h10.2
 have a3:=Wg h4;have a4:=Wg h5;unfold Bp;simp only[Fad];omega
theorem zc7(w:Wld)(hw:G8 w)(st:Store)(R:Ja)(h:∀v st',App 1 st v (rowsB (vi w)) st'->R v st'):Jb 49 [.agg (zo w)] st R:=by
 obtain⟨n1,n2,n3,hg,⟨hB,hbn⟩,hU,hun⟩:=hw;have hgl:=(lz hg).2;have hgp:(yv (xx w.G).length).length<=9:=De θ;have l0:(jo [w.tick,w.players,w.next]).length<=9*3:=Ky λn hn=>by
  simp at hn;rcases hn with rfl|rfl|rfl
  ·exact n1.2
  ·exact n2.2
  ·exact n3.2
 refine Qb (c:=cfg 126 [3,15] []) zb Tryz.func49 ?_;refine AWp.seq (AWp.of_vc zb ?_);refine AWp.seq (AWp.of_vc zb ?_);refine⟨ψ,λb hb=>?_⟩;refine optR (optR (optR (za _ (H8 _ _ _) ?_)));refine λp hp=>?_;have ha0:=(pe (k:=1) (rows:=rowsB [84,87]) hb (by simp[rws])).boxed hp (x:=.cells [.lst 1 (rowsB [84,87]) (some b)]);have h0:=(pe (k:=1) (rows:=rowsB [84,87]) hb (by simp[rws])).fresh hp;refine j4 (i:=ti22) ha0.cells ha0.one ξ (zd _ _ _) (Fak _) ?_;rw[ym];have ha0:App 1 (st.sO p (.cells [.lst 1 (rowsB [84,87]) (some b)])) (.lst 1 (rowsB [84,87]) (some b)) (rowsB [84,87]) ((st.sT b (some 2)).sO p (.cells [.lst 1 (rowsB [84,87]) (some b)])):=ha0;show Ba _ _ _ _ _ _ ((st.sT b (some 2)).sO p (.cells [.lst 1 (rowsB [84,87]) (some b)]));generalize(AV.lst 1 (rowsB [84,87]) (some b))=v0 at ha0;generalize(st.sT b (some 2)).sO p (.cells [v0])=st0 at ha0;refine AWp.seq (AWp.of_vc zb ?_);refine AWp.seq (AWp.of_vc zb ?_);refine⟨ψ,?_⟩;refine M4 [w.tick,w.players,w.next] φ (by simp;exact⟨Bl n1,Bl n2,Bl n3⟩) ha0 φ (λv1 st1 ha1=>?_);refine AWp.seq (AWp.of_vc zb ?_);refine yj4 w.G hg _ _ ?_;refine yf7 (xx w.G) θ _ _ ?_;refine AWp.seq (AWp.of_vc zb ?_);first|refine za _ (ha1.read) ?_|refine optR (za _ (ha1.read) ?_)|refine optR (optR (za _ (ha1.read) ?_))
 refine appB ha1 (l:=yv (xx w.G).length++xx w.G) ξ Qal (λv2 st2 ha2=>?_);refine j4 (i:=ti22) ha2.cells ha2.one ξ ha2.read (Fak _) ?_;have ha2:=ha2.sO (y:=.cells [v2]);refine AWp.seq (AWp.of_vc zb ?_);refine⟨ψ,?_⟩;have p1:(yv (w.B.length:Int)).length<=9:=De θ;refine M4 [((rws zi w.B).length:Int)] φ Qam ha2 Qal (λv3 st3 ha3=>?_);rw[zj,zbp]at ha3;generalize hpre:[84,87]++jo [w.tick,w.players,w.next]++(yv (xx w.G).length++xx w.G)++yv (w.B.length:Int)=pre at ha3;have hprel:pre.length<=17000:=by rw[<-hpre];simp only[Fad,Fbd,Fc5];omega
 refine AWp.meetA (σ:=AV) ⟨λv=>[(1,.bx 1 0),(3,.av (ptr p)),(4,.av (.clos 114 [ptr p]))],λ_=>[(1,zo w)],λv st'=>App 1 (st.sO p (.cells [v])) v (rowsB (pre++w.B.flatMap Ff)) st'⟩ ?_ ?_
 ·refine AWp.seq (AWp.of_vc zb ?_);refine AWp.of_vc zb ?_
  refine AWp.loop (σ:=Nat×AV) ⟨λx=>[(1,.bx 1 0),(3,.av (ptr p)),(4,.av (.clos 114 [ptr p])),(44,.av (lst 6 zi w.B)),(45,.av (int (w.B.length:Nat))),(46,.av (int (x.1:Nat)))],λ_=>[(1,zo w)],
   λx st'=>x.1<=w.B.length/\App 1 (st.sO p (.cells [x.2])) x.2 (rowsB (pre++(w.B.take x.1).flatMap Ff)) st',λx=>w.B.length-x.1⟩ zb ?_ ?_
  ·refine⟨(0,v3),Tv,⟨Fae _,by simpa using ha3⟩,⟨Tq,Tq,Tq,Tq,?_,Tq,Tv⟩,⟨rfl,Tv⟩⟩;rw[<-zj (f:=zi) w.B];exact Tq
  rintro⟨i,v⟩ st' ⟨hi,ha⟩;dsimp only at hi ha⊢;refine bcd (λh1=>?_) (λh1=>?_);rotate_left
  ·have:i=w.B.length:=θ;subst this;rw[Fal]at ha;exact⟨v,ha,Qaq,⟨rfl,Tv⟩⟩
  have hlt:i<w.B.length:=θ;obtain⟨b1,b2,b3,b4,b5,b6⟩:=hbn _ (Faa hlt);have hfl:=Nd Ff 54 (w.B.take i) λx hx=>oo (hbn x (Fcl hx));rw[Fam]at hfl;refine⟨i,rfl,za _ (zq hlt) ?_⟩;refine⟨ψ,?_⟩;refine M4 [w.B[i].id,w.B[i].owner,w.B[i].x,w.B[i].y,w.B[i].w,w.B[i].h] φ (by simp;exact⟨Bl b1,Bl b2,Bl b3,Bl b4,Bl b5,Bl b6⟩) ha Qan (λv4 st4 ha4=>?_);refine Qd ?_;refine⟨(i+1,v4),?_,⟨ζ,?_⟩,Qaq,⟨rfl,Tv⟩⟩
  ·show w.B.length-(i+1)<w.B.length-i;omega
  ·dsimp only;rw[mo Ff hlt,<-Fao];exact ha4
 rintro v5 st5 ha5;dsimp only at ha5⊢;have hfl:=Nd Ff 54 w.B λx hx=>oo (hbn x hx);have p2:(yv (w.U.length:Int)).length<=9:=De θ;refine AWp.seq (AWp.of_vc zb ?_);refine⟨ψ,?_⟩;refine M4 [((rws zn w.U).length:Int)] φ Qam ha5 Qan (λv6 st6 ha6=>?_);rw[zj,zbp]at ha6;generalize hpre2:pre++w.B.flatMap Ff++yv (w.U.length:Int)=pre2 at ha6;have hpre2l:pre2.length<=40000:=by rw[<-hpre2];simp only[Fad];omega
 refine AWp.meetA (σ:=AV) ⟨λv=>[(3,.av (ptr p))],λ_=>[],λv st'=>App 1 (st.sO p (.cells [v])) v (rowsB (pre2++w.U.flatMap Bp)) st'⟩ ?_ ?_
 ·refine AWp.seq (AWp.of_vc zb ?_);refine AWp.of_vc zb ?_
  refine AWp.loop (σ:=Nat×AV) ⟨λx=>[(1,.bx 1 0),(3,.av (ptr p)),(4,.av (.clos 114 [ptr p])),(73,.av (lst 10 zn w.U)),(74,.av (int (w.U.length:Nat))),(75,.av (int (x.1:Nat)))],λ_=>[(1,zo w)],
   λx st'=>x.1<=w.U.length/\App 1 (st.sO p (.cells [x.2])) x.2 (rowsB (pre2++(w.U.take x.1).flatMap Bp)) st',λx=>w.U.length-x.1⟩ zb ?_ ?_
  ·refine⟨(0,v6),Tv,⟨Fae _,by simpa using ha6⟩,⟨Tq,Tq,Tq,Tq,?_,Tq,Tv⟩,⟨rfl,Tv⟩⟩;rw[<-zj (f:=zn) w.U];exact Tq
  rintro⟨i,v⟩ st' ⟨hi,ha⟩;dsimp only at hi ha⊢;refine bcd (λh1=>?_) (λh1=>?_);rotate_left
  ·have:i=w.U.length:=θ;subst this;rw[Fal]at ha;exact⟨v,ha,⟨Tq,Tv⟩,Tv⟩
  have hlt:i<w.U.length:=θ;obtain⟨u1,u2,u3,u4,u5,u6,u7,u8,u9,u10⟩:=hun _ (Faa hlt);have hfl:=Nd Bp 90 (w.U.take i) λx hx=>ro (hun x (Fcl hx));rw[Fam]at hfl;refine⟨i,rfl,za _ (zq hlt) ?_⟩;refine⟨ψ,?_⟩;have q1:(jo [w.U[i].id,w.U[i].owner,w.U[i].kind]).length<=9*3:=Ky λn hn=>by
   simp at hn;rcases hn with rfl|rfl|rfl
   ·exact u1.2
   ·exact u2.2
   ·exact u3.2
  refine M4 [w.U[i].id,w.U[i].owner,w.U[i].kind] φ (by simp;exact⟨Bl u1,Bl u2,Bl u3⟩) ha Qan (λv7 st7 ha7=>?_);refine⟨ψ,?_⟩;obtain⟨pp,hpp,hpl,hall⟩:∃pp:List Int,[w.U[i].pos.1,w.U[i].pos.2]=pp/\pp.length=2/\∀x∈pp,I62 x:=⟨_,rfl,rfl,by simp;exact⟨u4,u5⟩⟩
  refine AWp.loop (σ:=Nat×AV) ⟨λx=>[(1,.bx 1 0),(3,.av (ptr p)),(4,.av (.clos 114 [ptr p])),(73,.av (lst 10 zn w.U)),(74,.av (int (w.U.length:Nat))),(75,.av (int (i:Nat))),(10,.bx 10 0),(94,.av (lst 1 zv pp)),(95,.av (int 2)),(96,.av (int (x.1:Nat)))],λ_=>[(1,zo w),(10,zn w.U[i])],
   λx st'=>x.1<=2/\App 1 (st.sO p (.cells [x.2])) x.2 (rowsB (pre2++(w.U.take i).flatMap Bp++jo [w.U[i].id,w.U[i].owner,w.U[i].kind]++(pp.take x.1).flatMap vr)) st',λx=>2-x.1⟩ zb ?_ ?_
  ·refine⟨(0,v7),Tv,⟨Fae _,by simpa using ha7⟩,⟨Tq,Tq,Tq,Tq,Tq,Tq,Tq,?_,Tq,Tq,Tv⟩,⟨rfl,rfl,Tv⟩⟩;rw[<-hpp];exact Tq
  rintro⟨j,v8⟩ st8 ⟨hj,ha8⟩;dsimp only at hj ha8⊢;have hifl:=Nd vr 9 (pp.take j) λx hx=>by obtain⟨m,hm,rfl⟩:=Faj (Fcl hx);exact Wg (hall _ (Faa hm))
  rw[Fam]at hifl;refine bcd (λh2=>?_) (λh2=>?_)
  ·have hj2:j<2:=θ;refine⟨j,rfl,za _ (zq (show j<pp.length by omega)) ?_⟩;refine yk7 pp[j] (hall _ (Faa _)) _ _ ?_;first|refine za _ (ha8.read) ?_|refine optR (za _ (ha8.read) ?_)|refine optR (optR (za _ (ha8.read) ?_))
   have hz:=Wg (hall pp[j] (Faa _));refine appB ha8 (l:=vr pp[j]) ξ (by simp only[Fad];omega) (λv9 st9 ha9=>?_);refine j4 (i:=ti22) ha9.cells ha9.one ξ ha9.read (Fak _) ?_;refine Qd ?_;refine⟨(j+1,v9),?_,⟨ζ,?_⟩,Qaq,⟨rfl,rfl,Tv⟩⟩
   ·show 2-(j+1)<2-j;omega
   ·dsimp only;rw[mo vr (show j<pp.length by omega),<-Fao];exact ha9.sO
  ·have:j=2:=θ;subst this;have e2:pp.take 2=pp:=Fcd θ;rw[e2,<-hpp]at ha8;rw[e2,<-hpp]at hifl;refine ze (by unfold jt at u6;omega) ?_;refine ze (by unfold jt at u7;omega) ?_;refine⟨ψ,?_⟩;refine M4 [w.U[i].goal+1,w.U[i].next+1,w.U[i].stuck,w.U[i].inn,w.U[i].state] φ (by simp;exact⟨Bl u6,Bl u7,Bl u8,Bl u9,Bl u10⟩) ha8 (by simp only[Fad];omega) (λv9 st9 ha9=>?_);refine Qd ?_;refine⟨(i+1,v9),?_,⟨ζ,?_⟩,Qaq,⟨rfl,Tv⟩⟩
   ·show w.U.length-(i+1)<w.U.length-i;omega
   ·dsimp only;rw[mo Bp hlt];have e:pre2++(w.U.take i).flatMap Bp++jo [w.U[i].id,w.U[i].owner,w.U[i].kind]++[w.U[i].pos.1,w.U[i].pos.2].flatMap vr++jo [w.U[i].goal+1,w.U[i].next+1,w.U[i].stuck,w.U[i].inn,w.U[i].state]=pre2++((w.U.take i).flatMap Bp++Bp w.U[i]):=by
     unfold Bp;simp
    rw[<-e];exact ha9
 rintro v10 st10 ha10;dsimp only at ha10⊢;refine AWp.of_vc zb ?_;first|refine za _ (ha10.read) ?_|refine optR (za _ (ha10.read) ?_)|refine optR (optR (za _ (ha10.read) ?_))
 have e:pre2++w.U.flatMap Bp=vi w:=by rw[<-hpre2,<-hpre];unfold vi;simp
 rw[e]at ha10;obtain⟨st3,h3,h4⟩:=ha10.dropObj h0;exact Bg (h _ _ h3) h4 (Tt)
end Go.Proofs
namespace Go.Proofs
open Go Go.V
set_option maxRecDepth 20000
set_option maxHeartbeats 4000000
theorem cu{w:Wld}(hw:G8 w):(vi w).length<=500000:=by
 obtain⟨n1,n2,n3,hg,⟨hB,hbn⟩,hU,hun⟩:=hw;have hgl:=(lz hg).2;have hgp:(yv (xx w.G).length).length<=9:=De θ;have l0:(jo [w.tick,w.players,w.next]).length<=9*3:=Ky λn hn=>by
  simp at hn;rcases hn with rfl|rfl|rfl
  ·exact n1.2
  ·exact n2.2
  ·exact n3.2
 have p1:(yv (w.B.length:Int)).length<=9:=De θ;have p2:(yv (w.U.length:Int)).length<=9:=De θ;have f1:=Nd Ff 54 w.B λx hx=>oo (hbn x hx);have f2:=Nd Bp 90 w.U λx hx=>ro (hun x hx);unfold vi;simp only[Fad,Fbd,Fc5];omega
theorem ykv(w:Wld)(hw:G8 w)(st:Store)(R:Ja)(h:R (u64 (xe xy (vi w))) st):Jb 80 [.agg (zo w)] st R:=by have hl:=cu hw;refine Qa (c:=cfg 7) zb Tryz.func80 ?_;refine Qc zb zz3 ?_;refine⟨eo _ _ ⟨Qe,?_⟩,Tv⟩;refine⟨zc7 w hw _ _ (λv st' ha=>⟨Tv,?_⟩),Tv⟩;refine⟨Pu _ ha.le θ ⟨Tv,?_⟩,Tv⟩;refine Qau ?_;exact Bg h ha.has (Tt)
theorem yl6(w:Wld)(hw:w.fits)(hn:∀u∈w.U,u.pos.ok)(st:Store)(R:Ja)(h0:¬z7 w->R (.tup [ya [],int 1]) st)(h1:z7 w->R (.tup [ya (Bx w),int 0]) st):Jb 11 [.agg (zo w)] st R:=by refine Qa (c:=cfg 16) zb Tryz.func11 ?_;refine iy w hw hn _ _ (pr (λhm=>?_) (λhm=>Bg (h0 hm) (Store.Has.refl _) (AV.le_tupL ⟨AV.le_nil 1,Tt,Tv⟩)));have hwn:=i6 hm;have hl:=cu hwn;refine zc7 w hwn _ _ (λv st' ha=>?_);refine eo _ _ ?_;refine Pu _ ha.le θ ?_;refine Wx _ _ _ ?_;refine appB ha (l:=xi (xe xy (vi w))) ξ (by rw[Lj];omega) (λv st1 ha=>?_);exact Bg (h1 hm) ha.has (AV.le_tupL ⟨ha.le,Tt,Tv⟩)
end Go.Proofs
namespace Go.Proofs
open Go Go.V
set_option maxRecDepth 20000
set_option maxHeartbeats 4000000
theorem Qao{p:Prop}(h:p:=by rw[ho]):p:=h
structure One where
 q:Nat
 eb:Nat
 k:Nat
 p:Per
 w:Wld
 h:List Int
 vh:AV
def q9(room:Int)(s hb:Nat)(X:List One)(vp vm vT vW vS vl:AV)(m:List Nte)(log:List Frm)(T:List Int)(W:List Wld)(D:List Bool):List (Store->Prop):=
 [λa=>RowsQ 8 gw a vm m,
  TokR 1 vT (rws zv T),
  TokR 8 vW (rws zo W),
  TokR 1 vS (rws qv D),
  TokR 3 vl (rws kk log),
  Sp (X.map λo=>TokR 1 o.vh (rws xh o.h)),
  Bm hb (X.map λo=>o.vh),
  Bm s [vp,vm,vT,.s (.slice (some ⟨hb,0,none⟩) X.length X.length),vW,vS,vl],
  TokR 1 vp (X.map λo=>[ptr o.q]),
  Sp (X.map λo=>Bm o.q (yx o.p++[ptr o.eb])),
  Sp (X.map λo=>EngR o.eb room o.k o.w)]
theorem yot{eb:Nat}{room:Int}{k:Nat}{w:Wld}{S:Store}(hE:EngR eb room k w S)(hp:playW w)(l:List Cmd)(hl:l=[]\/DoC)(hf:∀c∈l,c.fits)(hl2:l.length<=512)(hk:k<=100000000000000000)(R:Ja)
  (h:∀k' S',k'<=k+4096->EngR eb room k' (Gn w l) S'->R (.tup [lst 1 zv (Mq w l),int (Vw w)]) S'):Jb 15 [ptr eb,lst 10 yz l] S R:=by
 by_cases e:w.tick=1099511627776
 ·obtain⟨e1,e2,e3⟩:=O8 e l;have:=h k S θ (e1.symm▸hE);rw[e2,e3]at this;refine(zeg hE e l (λr S'=>r=.tup [nil,int 10]/\S'=S) ⟨rfl,rfl⟩).post (Store.Le.refl _) ?_;rintro r S' ⟨rfl,rfl⟩;refine⟨_,_,λW T v hv=>?_,Store.Le.refl _,this⟩;exact hv.tup2 (λx hx=>AV.le_nil 1 _ _ _ hx) λx hx=>hx
 ·obtain⟨e1,e2,e3⟩:=O9 e l;rw[e1,e2,e3]at h;have ht:=hp.1.1.1.1.1.2;exact zef hE hp l hl hf hl2 θ hk R λS' h1=>h (k+4096) S' (Fak _) h1
def Oh(w:Wld):Int:=xe xy (vi w)
section
variable {room:Int} {s hb:Nat} {X:List One} {vp vm vT vW vS vl:AV} {m:List Nte} {log:List Frm} {T:List Int} {W:List Wld} {D:List Bool} {S:Store}
theorem Gj(h:Sp (q9 room s hb X vp vm vT vW vS vl m log T W D) S):S.obj s=some (.cells [vp,vm,vT,.s (.slice (some ⟨hb,0,none⟩) X.length X.length),vW,vS,vl]):=(h.at 7 rfl).obj
theorem za1(h:Sp (q9 room s hb X vp vm vT vW vS vl m log T W D) S):S.obj hb=some (.cells (X.map λo=>o.vh)):=(h.at 6 rfl).obj
theorem Ku(h:Sp (q9 room s hb X vp vm vT vW vS vl m log T W D) S){i:Nat}(hi:i<X.length):S.obj X[i].q=some (.cells (yx X[i].p++[ptr X[i].eb])):=
 ((h.at 9 rfl).at (P:=Bm X[i].q (yx X[i].p++[ptr X[i].eb])) i (by rw[Faq,Fac hi];rfl)).obj
theorem Vl(h:Sp (q9 room s hb X vp vm vT vW vS vl m log T W D) S)(hne:X≠[]):∃t,vp=.lst 1 (X.map λo=>[ptr o.q]) (some t):=by
 obtain⟨a,g,_,_,ht,_⟩:=h.at 8 rfl;rcases ht with⟨e,_⟩|⟨_,t,e,_⟩
 ·exact absurd (Fde.1 e) hne
 ·exact⟨t,e⟩
end
theorem Gr{α β:Type}(f:α->β){l:List α}{i:Nat}(hi:i<l.length):(l.map f)[i]?=some (f l[i]):=by rw[Faq,Fac hi];rfl
theorem map_set_same{α β:Type}(f:α->β){l:List α}{i:Nat}{x:α}(hi:i<l.length)(h:f x=f l[i]):(l.set i x).map f=l.map f:=by
 rw[Fc4,h];refine Fcs φ λj h1 h2=>?_;rw[Fcr];split
 ·rename_i e;subst e;simp
 ·rfl
theorem zy8{l:List AV}{i:Nat}{v:AV}(h:i<l.length):zp l (0+i*1) [v]=l.set i v:=by rw[Fbi,Nat.mul_one];unfold zp;rw[List.set_eq_take_append_cons_drop,if_pos h];simp
theorem za4{w:Wld}(h:playW w)(l:List Cmd):playW (Gn w l):=by
 by_cases e:w.tick=1099511627776
 ·rw[(O8 e l).1];exact h
 ·rw[(O9 e l).1];have:=h.1.1.1.1.1.2;exact za7 h θ l
section
variable {room:Int} {s hb:Nat} {X:List One} {vp vm vT vW vS vl:AV} {m:List Nte} {log:List Frm} {T:List Int} {W:List Wld} {D:List Bool} {S:Store} {i:Nat} {o:One}
theorem yg3(hi:i<X.length)(p:Per)(ho:o={X[i]with p:=p})(h:Sp ((q9 room s hb X vp vm vT vW vS vl m log T W D).set 9 (Sp ((X.map λo=>Bm o.q (yx o.p++[ptr o.eb])).set i (Bm o.q (yx o.p++[ptr o.eb]))))) S):Sp (q9 room s hb (X.set i o) vp vm vT vW vS vl m log T W D) S:=by unfold q9;rw[map_set_same (λo=>o.vh) hi Qao,map_set_same (λo=>[ptr o.q]) hi Qao,map_set_same (λo=>TokR 1 o.vh (rws xh o.h)) hi Qao,map_set_same (λo=>EngR o.eb room o.k o.w) hi Qao,Fc4,Faz];exact h
theorem yg5(hi:i<X.length)(k:Nat)(w:Wld)(ho:o={X[i]with k:=k,w:=w})(h:Sp ((q9 room s hb X vp vm vT vW vS vl m log T W D).set 10 (Sp ((X.map λo=>EngR o.eb room o.k o.w).set i (EngR o.eb room o.k o.w)))) S):Sp (q9 room s hb (X.set i o) vp vm vT vW vS vl m log T W D) S:=by unfold q9;rw[map_set_same (λo=>o.vh) hi Qao,map_set_same (λo=>[ptr o.q]) hi Qao,map_set_same (λo=>TokR 1 o.vh (rws xh o.h)) hi Qao,map_set_same (λo=>Bm o.q (yx o.p++[ptr o.eb])) hi Qao,Fc4,Faz];exact h
theorem yg4(hi:i<X.length)(l:List Int)(v:AV)(ho:o={X[i]with h:=l,vh:=v})(h:Sp (((q9 room s hb X vp vm vT vW vS vl m log T W D).set 5 (Sp ((X.map λo=>TokR 1 o.vh (rws xh o.h)).set i (TokR 1 o.vh (rws xh o.h))))).set 6 (Bm hb ((X.map λo=>o.vh).set i o.vh))) S):Sp (q9 room s hb (X.set i o) vp vm vT vW vS vl m log T W D) S:=by unfold q9;rw[map_set_same (λo=>[ptr o.q]) hi Qao,map_set_same (λo=>Bm o.q (yx o.p++[ptr o.eb])) hi Qao,map_set_same (λo=>EngR o.eb room o.k o.w) hi Qao,Fc4,Fc4,Faz];exact h
end
def Su(o:One):Prop:=Ci o.p/\G6 o.p
noncomputable def Cv(o:One):Wld:=Gn o.w (vn o.p)
theorem uw{q:Prop}(h:q:=by
 have hq5:=Ku h5 hi1;rw[hg1,oq,op,oe]at hq5;refine za (o:=S4.obj X[i].q) _ hq5 ?_;refine ygb X[i].p hash hf hs hp hc hh _ _ ?_;refine Aa (i:=ti180) (v:=.agg (yx (jm X[i].p hash))) (xs:=yx (jm X[i].p hash)) (b:=X[i].q) (o:=0) (l:=yx X[i].p++[ptr X[i].eb]) rfl rfl rfl hq5 (show 0+11<=12 by decide) ?_;have h6:=((h5.at 9 rfl).at (P:=Bm X[i].q (yx X[i].p++[ptr X[i].eb])) i (by rw[Gr _ hi1,hg1,oq,op,oe])).store (yx (jm X[i].p hash)++[ptr X[i].eb]);have esp:zp (yx X[i].p++[ptr X[i].eb]) 0 (yx (jm X[i].p hash))=yx (jm X[i].p hash)++[ptr X[i].eb]:=rfl;rw[esp];generalize S4.sO X[i].q (.cells (yx (jm X[i].p hash)++[ptr X[i].eb]))=S5 at*;obtain⟨o2,ho2⟩:∃o2:One,o2={Y[i]with p:=jm X[i].p hash}:=⟨_,rfl⟩
 have h7:=yg3 (o:=o2) hi1 (jm X[i].p hash) ho2 (by rw[ho2,hg1];show Sp _ _;dsimp only;rw[oq,oe];exact h6);have hi2:i<(Y.set i o2).length:=by rw[Faz];exact hi1
 have hg2:(Y.set i o2)[i]=o2:=List.getElem_set_self ..;have hst2:∀o,(Y.set i o2).set i o=X.set i o:=λo=>(List.set_set ..).trans (hst o);have hxl2:(Y.set i o2).length=X.length:=Faz.trans hxl;have o2h:o2.h=X[i].h:=by rw[ho2,hg1];exact oh
 have o2v:o2.vh=X[i].vh:=by rw[ho2,hg1];exact ov
 generalize Y.set i o2=Y2 at*;have hs7:=Gj h7;have hb7:=za1 h7;refine Qc zb ycc ?_;refine Qav ?_;refine Qav ?_;have hv:((Y2.map λo=>o.vh).drop (0+i*1)).head?=some X[i].vh:=by rw[Fbi,Nat.mul_one,Fcc,Gr _ hi2,hg2,o2v]
 refine⟨i,rfl,θ,?_⟩;refine Qav ?_;refine za _ hv ?_;refine⟨ψ,?_⟩;refine⟨((h7.at 5 rfl).at (P:=TokR 1 X[i].vh (rws xh X[i].h)) i (by rw[Gr _ hi2,hg2,o2h,o2v])).app (ie:=ti12) rfl rfl (rows:=[xh hash]) rfl φ ?_ (λb S6 h8=>⟨?_,?_⟩),Tv⟩
 ·simp only[Fad,zj,Fas];show(X[i].h.length+1)*8<=_/\X[i].h.length+1<=_;omega
 ·have hs8:=(h8.at 7 rfl).obj;repeat(first|exact Tv|refine⟨rfl,?_⟩|refine⟨za (o:=S6.obj s) _ hs8 rfl,?_⟩)
 have hb8:=(h8.at 6 rfl).obj;refine⟨i,rfl,θ,?_⟩;refine⟨?_,Tv⟩;refine za _ rfl (xp rfl (xl (v:=.lst 1 (rws xh X[i].h++[xh hash]) (some b)) rfl rfl rfl rfl ?_));refine qd (i:=ti88) (v:=.lst 1 (rws xh X[i].h++[xh hash]) (some b)) (b:=hb) (o:=0+i*1) (l:=Y2.map λo=>o.vh) rfl rfl rfl hb8 (by rw[Fap];omega) rfl ?_;refine⟨Tv,?_⟩;rw[zy8 (by rw[Fap];omega)];have h9:=(h8.at 6 rfl).store ((Y2.map λo=>o.vh).set i (.lst 1 (rws xh X[i].h++[xh hash]) (some b)));obtain⟨o3,ho3⟩:∃o3:One,o3={Y2[i]with h:=X[i].h++[hash],vh:=.lst 1 (rws xh X[i].h++[xh hash]) (some b)}:=⟨_,rfl⟩
 have e3:rws xh (X[i].h++[hash])=rws xh X[i].h++[xh hash]:=Fax;have h10:=yg4 (o:=o3) hi2 _ _ ho3 (by rw[ho3];dsimp only;rw[e3];exact h9);rw[hst2]at h10;refine ret (hyes hrun o3 _ _ ?_ ?_ ?_ ?_ ?_ ?_ h10);all_goals rw[ho3,hg2]
 ·rw[ho2,hg1];exact oq
 ·rw[ho2,hg1];exact oe
 ·rw[ho2,hg1];exact ok
 ·rw[ho2]
 ·rw[ho2,hg1];exact ow):q:=h
theorem za2{room:Int}{s hb:Nat}{X:List One}{vp vm vT vW vS vl:AV}{m:List Nte}{log:List Frm}{T:List Int}{W:List Wld}{D:List Bool}{S:Store}(h:Sp (q9 room s hb X vp vm vT vW vS vl m log T W D) S){i:Nat}(hi:i<X.length)
  (hf:X[i].p.fits) (hs:Km X[i].p) (hnl:(vn X[i].p).length<=512) (hnf:∀c∈vn X[i].p,c.fits) (hdo:vn X[i].p=[]\/DoC) (hh:X[i].p.hashes.length<16) (hw:playW X[i].w) (hk:X[i].k<=100000000000000000) (hlog:log.length<=1000000) (hhl:X[i].h.length<=1000000) (hX:X.length<=8)
  (R:Ja) (hno:¬Su X[i]->R (V.bool false) S)
  (hyes:Su X[i]->∀(o:One) (vl2:AV) (S2:Store),o.q=X[i].q->o.eb=X[i].eb->o.k<=X[i].k+4096->o.p=jm X[i].p (Oh (Cv X[i]))->o.w=Cv X[i]->o.h=X[i].h++[Oh (Cv X[i])]->
   Sp (q9 room s hb (X.set i o) vp vm vT vW vS vl2 m (if i=0 then log++[⟨X[i].p.turn,vn X[i].p,Oh (Cv X[i])⟩]else log) T W D) S2->R (V.bool true) S2):
  Jb 250 [ptr s,int (i:Nat)] S R:=by
 obtain⟨t,rfl⟩:=Vl h (λe=>by rw[e]at hi;exact absurd hi (Fa3 i));have h0:=Gj h;have hq0:=Ku h hi;refine Qa (c:=cfg 95) zb Tryz.func250 ?_;refine Qav ?_;refine⟨i,rfl,za _ (Gr _ hi) ?_⟩;refine za (o:=S.obj X[i].q) _ hq0 ?_;refine yfx X[i].p hf hs θ _ _ (λhb=>?_) (λhp hc=>?_) (λhp hc=>?_)
 ·exact ret (hno λhh=>hb hh.1)
 ·exact ret (hno λhh=>hc hh.2)
 have hrun:Su X[i]:=⟨hp,hc⟩
 refine za (o:=S.obj X[i].q) _ hq0 ?_;have hFE:=(h.at 10 rfl).at (P:=EngR X[i].eb room X[i].k X[i].w) i (Gr _ hi);refine hFE.call (xs:=[ptr X[i].eb,lst 10 yz (vn X[i].p)]) (T:=λr S'=>∃k',k'<=X[i].k+4096/\EngR X[i].eb room k' (Cv X[i]) S') (λa ha=>yot ha hw _ hdo hnf hnl hk _ (λk' S' h1 h2=>⟨k',h1,h2⟩)) (λr a' ⟨k',hk',ha'⟩ S' hS'=>?_)
 -- the engine has stepped
 obtain⟨o1,ho1⟩:∃o1:One,o1={X[i]with k:=k',w:=Cv X[i]}:=⟨_,rfl⟩
 have h2:Sp (q9 room s hb (X.set i o1) (.lst 1 (X.map λo=>[ptr o.q]) (some t)) vm vT vW vS vl m log T W D) S':=by exact yg5 hi k' (Cv X[i]) ho1 (hS' (EngR o1.eb room o1.k o1.w) (by rw[ho1];exact ha'))
 have hi1:i<(X.set i o1).length:=by rw[Faz];exact hi
 have hg1:(X.set i o1)[i]=o1:=List.getElem_set_self ..;have hst:∀o,(X.set i o1).set i o=X.set i o:=λo=>List.set_set ..;have hxl:(X.set i o1).length=X.length:=Faz;generalize X.set i o1=Y at*;have hq1:=Ku h2 hi1;rw[hg1]at hq1;have oq:o1.q=X[i].q:=by rw[ho1]
 have op:o1.p=X[i].p:=by rw[ho1]
 have oe:o1.eb=X[i].eb:=by rw[ho1]
 have ow:o1.w=Cv X[i]:=by rw[ho1]
 have oh:o1.h=X[i].h:=by rw[ho1]
 have ok:o1.k<=X[i].k+4096:=by rw[ho1];exact hk'
 have ov:o1.vh=X[i].vh:=by rw[ho1]
 rw[oq,op,oe]at hq1;have hwp:playW (Cv X[i]):=za4 hw _;refine za (o:=S'.obj X[i].q) _ hq1 ?_;refine((h2.at 10 rfl).at (P:=EngR o1.eb room o1.k o1.w) i (by rw[Gr _ hi1,hg1])).look (xs:=[ptr X[i].eb]) (.agg (zo (Cv X[i]))) (λa ha T hT=>by rw[oe,ow]at ha;exact mz ha hwp.sizes T hT) ?_;refine ykv (Cv X[i]) (i6 hwp.1) _ _ ?_;have esum:xe xy (vi (Cv X[i]))=Oh (Cv X[i]):=rfl;rw[esum];generalize Oh (Cv X[i])=hash at*;have hs1:=Gj h2;refine zw (λc1=>?_) (λc1=>?_)
 ·have hi0:i=0:=θ;refine Qc zb ycb ?_;refine Qav ?_;refine za (o:=S'.obj X[i].q) _ hq1 ?_;refine⟨ψ,?_⟩;refine⟨(h2.at 4 rfl).app (ie:=ti97) rfl rfl (rows:=[kk ⟨X[i].p.turn,vn X[i].p,hash⟩]) rfl φ ?_ (λb S3 h3=>⟨Tv,?_⟩),Tv⟩
  ·simp only[Fad,zj,Fas];show(log.length+1)*40<=_/\log.length+1<=_;omega
  have hos:=(h3.at 7 rfl).obj;refine⟨?_,Tv⟩;refine za _ rfl (xp rfl (xl (v:=.lst 3 (rws kk log++[kk ⟨X[i].p.turn,vn X[i].p,hash⟩]) (some b)) rfl rfl rfl rfl ?_));refine qd (i:=ti83) (v:=.lst 3 (rws kk log++[kk ⟨X[i].p.turn,vn X[i].p,hash⟩]) (some b)) (b:=s) (o:=6) rfl rfl rfl hos (show 6+1<=7 by decide) rfl ?_;refine⟨Tv,?_⟩;have h4:=(h3.at 7 rfl).store [.lst 1 (X.map λo=>[ptr o.q]) (some t),vm,vT,.s (.slice (some ⟨hb,0,none⟩) Y.length Y.length),vW,vS,.lst 3 (rws kk log++[kk ⟨X[i].p.turn,vn X[i].p,hash⟩]) (some b)];have h5:Sp (q9 room s hb Y (.lst 1 (X.map λo=>[ptr o.q]) (some t)) vm vT vW vS (.lst 3 (rws kk log++[kk ⟨X[i].p.turn,vn X[i].p,hash⟩]) (some b)) m (if i=0 then log++[⟨X[i].p.turn,vn X[i].p,hash⟩]else log) T W D) (S3.sO s (.cells (zp [.lst 1 (X.map λo=>[ptr o.q]) (some t),vm,vT,.s (.slice (some ⟨hb,0,none⟩) Y.length Y.length),vW,vS,vl] 6 [.lst 3 (rws kk log++[kk ⟨X[i].p.turn,vn X[i].p,hash⟩]) (some b)]))):=by rw[if_pos hi0];have e:rws kk (log++[⟨X[i].p.turn,vn X[i].p,hash⟩])=rws kk log++[kk ⟨X[i].p.turn,vn X[i].p,hash⟩]:=Fax;unfold q9;rw[e];exact h4
  generalize Store.sO S3 s (.cells (zp [.lst 1 (X.map λo=>[ptr o.q]) (some t),vm,vT,.s (.slice (some ⟨hb,0,none⟩) Y.length Y.length),vW,vS,vl] 6 [.lst 3 (rws kk log++[kk ⟨X[i].p.turn,vn X[i].p,hash⟩]) (some b)]))=S4 at*;generalize AV.lst 3 (rws kk log++[kk ⟨X[i].p.turn,vn X[i].p,hash⟩]) (some b)=vl2 at*;exact uw
 ·have h5:Sp (q9 room s hb Y (.lst 1 (X.map λo=>[ptr o.q]) (some t)) vm vT vW vS vl m (if i=0 then log++[⟨X[i].p.turn,vn X[i].p,hash⟩]else log) T W D) S':=by
   rw[if_neg θ];exact h2
  generalize S'=S4 at*;exact uw
end Go.Proofs
