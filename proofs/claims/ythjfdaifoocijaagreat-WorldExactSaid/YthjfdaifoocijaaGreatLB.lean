/- Ground of laws of thronglaw25: contracts and plain lemmas; no condition beyond the row's own. -/
import Derived.Test.YthjfdaifoocijaaGreatLA
set_option linter.unusedSimpArgs false
set_option linter.unusedVariables false
set_option linter.defProp false
namespace Go.Proofs
open Go Go.V
set_option maxRecDepth 20000
set_option maxHeartbeats 4000000
def yct{S:Store}{p:Nat}{w:Wld}{v:AV}(hp:S.obj p=some (.cells (zz w v)))(hv:RowsQ 10 zf S v w.U)(hoff:xz v p)(hm:ya w)(hn:∀u∈w.U,u.pos.ok)(c:Cmd)(hc:js c)(hk:c.K=4)(R:Ja)
  (h:∀S',bdE w c≠0->R (int (bdE w c)) S') (h0:bdE w c=0->∀S' v',S'.obj p=some (.cells (zz (bdW w c) v'))->RowsQ 10 zf S' v' (bdW w c).U->R (int 0) S'):Jb 116 [ptr p,.agg (yh c)] S R:=by
 have mf:=xh hm;have hg:=mf.hg;have hg1:=hg.1;have hg2:=hg.2.1;have hn2:=mf.hn2;have hn1:=mf.hn1;have hU:=mf.hU;have hpl:=t8 hm;have hok:=(Cmd.ok4 hk).1 hc.1;have hT:=hok.1;unfold kx at hT;have ha:=qg hg;obtain⟨oa,cap,e,hget⟩:=hv.form;subst e;have hq2:c.T.tdiv w.G.W=c.T/w.G.W:=Faz hT.1;have hq3:0<=c.T/w.G.W/\c.T/w.G.W<=c.T:=⟨Fb2 hT.1 θ,Fc0 _ hT.1⟩
 have bad:∀n:Int,n≠0->bdE w c=n->∀S,R (int n) S:=λn hn e S=>by have:=h S (by rw[e];exact hn);rw[e]at this;exact this
 refine Qy 116 Tryz.func116 ?_;refine Qbs (Ns w.G c.T hg _ _ λz hz=>ye (zh (λc1=>?_) λc1=>?_));rotate_left
 ·have hno:¬(0<=c.T/\c.T<w.G.W*w.G.H):=λhh=>by have:=hz.2 hh;rw[this]at c1;cases c1
  exact ret (bad 3 ψ (by unfold bdE;rw[if_pos hno]) _)
 have ht:=hz.1 c1;refine Qbs (bcd (λc2=>?_) λc2=>?_)
 ·exact ret (bad 4 ψ (by unfold bdE;rw[if_neg λhh=>hh ht,if_pos θ]) _)
 have hnx:¬1099511627776<=w.next:=θ;obtain⟨hbp,hid⟩:=zea hm hc hk hnx;refine Qc zb zz0 (Qbs ?_);refine⟨θ,⟨θ,ze θl ⟨⟨?_,?_⟩,Tv⟩⟩⟩
 ·repeat(first|exact Tv|refine⟨rfl,?_⟩|refine⟨zoo hp rfl,?_⟩|refine⟨⟨θ,rfl⟩,?_⟩|refine⟨⟨θ,ze θl rfl⟩,?_⟩)
 refine Qbr (Qc zb zzz (Qbs ?_));refine⟨ycv w.G hg w.B mf.hB mf.hb (bdB w c) hbp hid _ _ (λhe=>⟨?_,?_⟩) λhe=>⟨?_,?_⟩,Tv⟩
 ·repeat(first|exact Tv|refine⟨rfl,?_⟩|refine⟨zoo hp rfl,?_⟩)
 ·refine Qbr (Qbr (qd (λ_=>?_) λhh=>absurd hh he));have e1:bdE w c=ql w.G w.B (bdB w c):=by unfold bdE;rw[if_neg λhh=>hh ht,if_neg hnx,if_neg he]
  have:=h S (by rw[e1];exact he);rw[e1]at this;exact ret this
 ·repeat(first|exact Tv|refine⟨rfl,?_⟩|refine⟨zoo hp rfl,?_⟩)
 refine Qbr (Qbr ?_);have hon:onP w.G (bdB w c):=Classical.byContradiction λhh=>by unfold ql at he;rw[if_pos hh]at he;cases he
 have e1:bdE w c=(by classical exact if Gi w (bdB w c)then 5 else 0):=by unfold bdE;rw[if_neg λhh=>hh ht,if_neg hnx,if_pos he]
 obtain⟨b,hB⟩:∃b,bdB w c=b:=⟨_,rfl⟩
 rw[hB]at hbp hid hon he e1;have yes:Gi w b->R (int 5) S:=λhh=>bad 5 ψ (by rw[e1,if_pos hh]) _
 refine AWp.loop (σ:=Nat) ⟨λt=>[(0,.av (ptr p)),(5,.bx 5 0),(6,.bx 6 0),(7,.av (lst 6 zi (w.B++[b]))),(9,.av (int (t:Nat)))],λ_=>[(5,zq w.G),(6,zi b)],
  λt st'=>(t:Int)<=w.G.W*w.G.H/\st'=S/\∀t',t'<t->ku w.G b t'->∀u∈w.U,u.inn=0->¬ja w.G t' u.pos (z6 u.kind),λt=>w.G.T.length-t⟩ zb ?_ ?_
 ·exact⟨0,Tv,⟨θ,rfl,λt' ht'=>absurd ht' (Fau _)⟩,⟨Tq,Tq,Tq,by rw[<-hB];exact Tq,Tq,Tv⟩,⟨rfl,by rw[<-hB];rfl,Tv⟩⟩
 rintro t st' ⟨htl,rfl,hno⟩;refine Qd (bcd (λh1=>?_) λh1=>?_);rotate_left
 ·have hnm:¬Gi w b:=by
   rintro⟨t',⟨h2,h3⟩,u,hu,h4,h5⟩;exact hno t' θ h3 u hu h4 h5
  have hz0:bdE w c=0:=by rw[e1,if_neg hnm]
  refine xo (i:=ti25) (v:=lst 6 zi (w.B++[b])) (b:=p) (o:=6) (l:=zz w (.s (.slice oa w.U.length cap))) rfl rfl rfl hp (show 6+1<=8 by decide) ?_;have hp2:(st'.sO p (.cells (zv (zz w (.s (.slice oa w.U.length cap))) 6 [lst 6 zi (w.B++[b])]))).obj p=some (.cells (zz {w with B:=w.B++[b]} (.s (.slice oa w.U.length cap)))):=zd _ _ _;have hr2:=hv.set hoff (.cells (zv (zz w (.s (.slice oa w.U.length cap))) 6 [lst 6 zi (w.B++[b])]));generalize st'.sO p _=S2 at hp2 hr2⊢;refine Qbs ?_;refine ze ζ (xo (i:=ti2) (v:=int (w.next+1)) (b:=p) (o:=2) (l:=zz {w with B:=w.B++[b]} (.s (.slice oa w.U.length cap))) rfl rfl rfl hp2 (show 2+1<=8 by decide) ?_);subst hB;exact ret (h0 hz0 _ _ (zd _ _ _) (hr2.set hoff _))
 have htW:(t:Int)<w.G.W*w.G.H:=h1
 refine AWp.loop (σ:=Nat) ⟨λi=>[(0,.av (ptr p)),(5,.bx 5 0),(6,.bx 6 0),(7,.av (lst 6 zi (w.B++[b]))),(9,.av (int (t:Nat))),(10,.av (int (i:Nat)))],λ_=>[(5,zq w.G),(6,zi b)],
  λi st2=>i<=w.U.length/\st2=st'/\(0<i->ku w.G b t)/\∀j,(hj:j<w.U.length)->j<i->w.U[j].inn=0->¬ja w.G t w.U[j].pos (z6 w.U[j].kind),λi=>w.U.length-i⟩ zb ?_ ?_
 ·exact⟨0,Tv,⟨Fad _,rfl,λhh=>absurd hh (Fdp _),λj _ hj=>absurd hj (Fau _)⟩,Qbn,⟨rfl,rfl,Tv⟩⟩
 rintro i st2 ⟨hi,rfl,hhas,hnk⟩;have next:(ku w.G b t->∀u∈w.U,u.inn=0->¬ja w.G t u.pos (z6 u.kind))->∀t',t'<t+1->ku w.G b t'->∀u∈w.U,u.inn=0->¬ja w.G t' u.pos (z6 u.kind):=λhh t' ht'=>by
  by_cases e:t'=t
  ·subst e;exact hh
  ·exact hno t' θ
 refine Qbs (bcd (λh2=>?_) λh2=>?_);rotate_left
 ·have hil:i=w.U.length:=θ;subst hil;refine Qd ⟨t+1,?_,⟨θ,rfl,next λ_ u hu h3 h4=>?_⟩,Qbn,⟨rfl,rfl,Tv⟩⟩
  ·show w.G.T.length-(t+1)<w.G.T.length-t;omega
  ·obtain⟨j,hj,rfl⟩:=Fai hu;exact hnk j hj hj h3 h4
 have hlt:i<w.U.length:=θ;refine zbh w.G hg b ⟨hbp,hon⟩ t htW _ _ λz hz=>zh (λc4=>?_) λc4=>?_;rotate_left
 ·have hnh:¬ku w.G b t:=λhh=>by have:=hz.2 hh;rw[this]at c4;cases c4
  refine Qd ⟨t+1,?_,⟨θ,rfl,next λhh=>absurd hh hnh⟩,Qbn,⟨rfl,rfl,Tv⟩⟩;show w.G.T.length-(t+1)<w.G.T.length-t;omega
 have hh:=hz.1 c4;obtain⟨bb,J,rfl,hob⟩:=hget i hlt;refine Qbs ?_;refine⟨i,rfl,hlt,Qbs (yq (i:=ti36) (row:=zf w.U[i]) rfl rfl (xt yn hlt) ?_)⟩;have step:(w.U[i].inn=0->¬ja w.G t w.U[i].pos (z6 w.U[i].kind))->∀j,(hj:j<w.U.length)->j<i+1->w.U[j].inn=0->¬ja w.G t w.U[j].pos (z6 w.U[j].kind):=λq j hj hji=>by
  by_cases e:j=i
  ·subst e;exact q
  ·exact hnk j hj θ
 have hui:=Faa hlt;have hkr:=Bm w.U[i].kind;refine Qc zb zz1 (zt (λc5=>?_) λc5=>?_)
 ·refine⟨Cn w.U[i].kind (mf.hk _ hui) _ _ ⟨Qe,⟨zaa w.G hg t htW w.U[i].pos (hpl _ hui c5) (z6 w.U[i].kind) ⟨hkr.1,θ⟩ _ _ ⟨Tv,bcd (λc6=>?_) λc6=>?_⟩,Tv⟩⟩,Tv⟩
  ·exact ret (yes ⟨t,⟨htW,hh⟩,w.U[i],hui,c5,c6⟩)
  refine Qd ⟨i+1,?_,⟨θ,rfl,λ_=>hh,step λ_=>c6⟩,Qbn,⟨rfl,rfl,Tv⟩⟩;show w.U.length-(i+1)<w.U.length-i;omega
 ·refine Qbq (Qbr (Qd ⟨i+1,?_,⟨θ,rfl,λ_=>hh,step λq=>absurd q c5⟩,Qbn,⟨rfl,rfl,Tv⟩⟩));show w.U.length-(i+1)<w.U.length-i;omega
def yc2(w:Wld)(hw:w.fits)(hn:∀u∈w.U,u.pos.ok)(hU:w.U.length<=1000000)(c:Cmd)(hc:c.fits)(hK:c.K=4):Jb 72 [.agg (zp w),.agg (yh c)] Store.empty (DoQ bdE bdW w c):=by
 refine Qa (c:=cfg 97 [6] []) zb Tryz.func72 ?_;have bad:(¬ya w\/¬js c\/w.players<c.P)->DoQ bdE bdW w c (.tup [.agg (zp w),int 1]) Store.empty:=λhb=>by have he:=Gq (E:=bdE) (w:=w) (c:=c) hb;exact .inl ⟨θa,by rw[he]⟩
 refine Ga w hw hn _ _ λz hz=>ye (zh (λc1=>?_) λc1=>?_);rotate_left
 ·exact ret (bad (.inl λhh=>θg))
 refine I3 c hc _ _ λzc hzc=>ye (zh (λc2=>?_) λc2=>?_);rotate_left
 ·exact ret (bad (.inr (.inl λhh=>θr)))
 refine bcd (λc3=>?_) λc3=>?_
 ·exact ret (bad (.inr (.inr θ)))
 have hm:=hz.1 c1;have hcp:=hzc.1 c2;have he:=Hp (E:=bdE) hm hcp (show c.P<=w.players by omega);refine I2 w hw hU _ _ λv N hv _=>?_;rw[Bc];have hv:=hv.q;have hoff:=λ(p:Nat) (hp:Fresh N p)=>Cp hv (k8 (fresh_iff.1 hp)).1;obtain⟨oa,cap,e,_⟩:=hv.form;subst e;refine λp hp=>jq (i:=ti27) (v:=.agg (zz w (.s (.slice oa w.U.length cap)))) (xs:=zz w (.s (.slice oa w.U.length cap))) (b:=p) (o:=0) (l:=_) rfl rfl rfl (zd _ _ _) (show 0+8<=8 by decide) ?_;generalize hS:(N.sO p _).sO p _=S;have hp2:S.obj p=some (.cells (zz w (.s (.slice oa w.U.length cap)))):=θs;have hr2:RowsQ 10 zf S (.s (.slice oa w.U.length cap)) w.U:=θt;refine zt (λh=>absurd (hK.symm.trans h) ψ) λ_=>zt (λh=>absurd (hK.symm.trans h) ψ) λ_=>zt (λh=>absurd (hK.symm.trans h) ψ) λ_=>zt (λ_=>yct hp2 hr2 (hoff p hp) hm hn c hcp hK _ (λS' hE=>?_) λhE S' v' g1 g2=>?_) λh=>absurd hK h
 ·exact qd (λ_=>ret (.inl ⟨θu,by rw[he];rfl⟩)) λh=>absurd h hE
 ·obtain⟨oa2,cap2,e2,_⟩:=g2.form;subst e2;refine Qbs ?_;exact ret (.inr ⟨he.trans hE,_,g2,rfl⟩)
def yce:Kf 4 bdE bdW:=λw hw hn hU c hc hK R h=>Lf (yc2 w hw hn hU c hc hK) R h
def Pu:List AV:=[int 0,int 0,int 0,int 0,int 0,int 0]
def ym9(b:Bld):∀y∈zi b,y.one=true:=by intro y hy;obtain⟨x,rfl,h⟩:=Nf b y hy;exact h
def yae(l:List Bld):∀y∈(rws zi l).flatten,y.one=true:=by intro y hy;obtain⟨r,hr,hy⟩:=List.mem_flatten.1 hy;obtain⟨b,_,rfl⟩:=Fag.1 hr;exact ym9 b y hy
def ykv{N:Store}{v:AV}{l:List Bld}(hv:RowsQ 6 zi N v l)(hl:l.length<=256){i:Nat}(hi:i<l.length)(R:Ja)(h:∀v' N',RowsQ 6 zi N' v' (l.eraseIdx i)->R v' N'):Jb 243 [v,int (i:Nat),int ((i:Int)+1)] N R:=by
 rcases hv with(⟨_,hl0⟩|⟨b,cap,L,rfl,ho,hc1,hc2,hc3⟩)|⟨_,_,_,hl0⟩
 ·subst hl0;exact absurd hi (Fau _)
 rotate_left
 ·subst hl0;exact absurd hi (Fau _)
 refine Qy 33 Tryz.func243 ?_;refine yod (i:=i) (j:=i+1) (m:=l.length) rfl rfl rfl rfl θ θ hc1 θ ?_;refine zt (λhh=>absurd hh θ) λ_=>?_;refine Qc zb zw7 ?_;refine⟨0,i,rfl,rfl,Fad _,θ,.inl ⟨θ,?_⟩⟩;by_cases hc:i+1<cap
 ·refine⟨i+1,l.length,rfl,rfl,θ,hc1,.inl ⟨hc,⟨⟨.inr ⟨_,_,rfl,rfl,zei (ie:=ti163) (n:=i) (m:=l.length-(i+1)) (xs:=(rws zi (l.drop (i+1))).flatten) rfl ho (by rw[Fae,qr jb];exact hc2) θ (by have:=SrcOK.obj (P:=Tryz.prog) (k:=6) (m:=l.length-(i+1)) (o:=0+(i+1)*6) (cp:=cap-(i+1)) ho (by rw[Fae,qr jb];omega) (by rw[Fbg,zct jb θ];exact yae _);rw[Fbg,zct jb θ]at this;rw[Fbg];exact this) ⟨by show(i+(l.length-(i+1)))*48<=_;omega,θ⟩ (λ_=>⟨Tv,?_⟩) λhh=>θ⟩⟩,Tv⟩⟩⟩;rw[show zv ((rws zi l).flatten++L) (i*ti163.size) (rws zi (l.drop (i+1))).flatten=(rws zi (l.eraseIdx i)).flatten++(zi l[l.length-1]++L)from zck jb hi L];have hel:=zcl hi;have ho2:(N.sO b (.cells ((rws zi (l.eraseIdx i)).flatten++(zi l[l.length-1]++L)))).obj b=some (.cells ((rws zi (l.eraseIdx i)).flatten++(zi l[l.length-1]++L))):=zd _ _ _;generalize N.sO b _=N2 at ho2⊢;refine Qbr ⟨i+(l.length-(i+1)),l.length,rfl,rfl,θ,hc1,.inl ⟨θ,zeq (ie:=ti163) (b:=b) (off:=0+(i+(l.length-(i+1)))*ti163.size) (l:=(rws zi (l.eraseIdx i)).flatten++(zi l[l.length-1]++L)) rfl rfl rfl rfl rfl rfl rfl θ ho2 (by rw[Fae,qr jb,hel,Fae,jb];show 0+(i+(l.length-(i+1)))*6+6<=_;omega) ψ ?_⟩⟩;have e3:zv ((rws zi (l.eraseIdx i)).flatten++(zi l[l.length-1]++L)) (0+(i+(l.length-(i+1)))*ti163.size) (ti163.zero.map AV.s)=(rws zi (l.eraseIdx i)).flatten++(Pu++L):=by
   have h1:(rws zi (l.eraseIdx i)).flatten.length=0+(i+(l.length-(i+1)))*ti163.size:=by rw[qr jb,hel];show _=0+(i+(l.length-(i+1)))*6;omega
   rw[Dk h1,Faw];rfl
  rw[e3];have e4:i+(l.length-(i+1))=(l.eraseIdx i).length:=θ;refine ret (h _ _ (.inl (.inr ⟨b,cap,Pu++L,by rw[<-e4];rfl,zd _ _ _,θ,by rw[Fae];show cap*6<=_*6+(6+L.length);omega,hc3⟩)))
 ·refine⟨i+1,l.length,rfl,rfl,θ,hc1,.inr ⟨θ,?_⟩⟩;have e1:l.drop (i+1)=[]:=Fcm θ;have hsp:=zck jb hi L;rw[e1]at hsp;have hsp:zv ((rws zi l).flatten++L) (i*6) []=(rws zi (l.eraseIdx i)).flatten++(zi l[l.length-1]++L):=hsp;have hsrc:SrcOK Tryz.prog N 6 0 (.s (.slice (some ⟨b,0,none⟩) 0 0)) []:=by
   have:=SrcOK.obj (P:=Tryz.prog) (k:=6) (m:=0) (o:=0) (cp:=0) ho θ (λy hy=>by simp at hy);simpa using this
  refine⟨⟨.inr ⟨_,_,rfl,rfl,zei (ie:=ti163) (n:=i) (m:=0) (xs:=[]) rfl ho (by rw[Fae,qr jb];exact hc2) θ hsrc ⟨by show(i+(0))*48<=_;omega,θ⟩ (λ_=>⟨Tv,?_⟩) λhh=>θ⟩⟩,Tv⟩;rw[show zv ((rws zi l).flatten++L) (i*ti163.size) []=(rws zi (l.eraseIdx i)).flatten++(zi l[l.length-1]++L)from hsp];have hel:=zcl hi;have ho2:(N.sO b (.cells ((rws zi (l.eraseIdx i)).flatten++(zi l[l.length-1]++L)))).obj b=some (.cells ((rws zi (l.eraseIdx i)).flatten++(zi l[l.length-1]++L))):=zd _ _ _;generalize N.sO b _=N2 at ho2⊢;refine Qbr ⟨i+(0),l.length,rfl,rfl,θ,hc1,.inl ⟨θ,zeq (ie:=ti163) (b:=b) (off:=0+(i+(0))*ti163.size) (l:=(rws zi (l.eraseIdx i)).flatten++(zi l[l.length-1]++L)) rfl rfl rfl rfl rfl rfl rfl θ ho2 (by rw[Fae,qr jb,hel,Fae,jb];show 0+(i+(0))*6+6<=_;omega) ψ ?_⟩⟩;have e3:zv ((rws zi (l.eraseIdx i)).flatten++(zi l[l.length-1]++L)) (0+(i+(0))*ti163.size) (ti163.zero.map AV.s)=(rws zi (l.eraseIdx i)).flatten++(Pu++L):=by
   have h1:(rws zi (l.eraseIdx i)).flatten.length=0+(i+(0))*ti163.size:=by rw[qr jb,hel];show _=0+(i+(0))*6;omega
   rw[Dk h1,Faw];rfl
  rw[e3];have e4:i+(0)=(l.eraseIdx i).length:=θ;refine ret (h _ _ (.inl (.inr ⟨b,cap,Pu++L,by rw[<-e4];rfl,zd _ _ _,θ,by rw[Fae];show cap*6<=_*6+(6+L.length);omega,hc3⟩)))
section
variable {v:AV} {i:Nat} {w:Wld}
def yku{N S:Store}(hd:zk N S){l:List Bld}(hv:RowsQ 6 zi N v l)(hl:l.length<=256)(hi:i<l.length)(R:Ja)(h:R (lst 6 zi (l.eraseIdx i)) S):Jb 243 [v,int (i:Nat),int ((i:Int)+1)] (N.un S) R:=by
 have h1:Jb 243 [v,int (i:Nat),int ((i:Int)+1)] N λr S2=>r=lst 6 zi (l.eraseIdx i)/\S2=Store.empty:=
  ACalls.frozenTo (ykv hv hl hi (λr N'=>RowsQ 6 zi N' r (l.eraseIdx i)) λv' N' h=>h) λr N' hr=>
   ⟨_,Store.empty,⟨rfl,rfl⟩,(λb x hx=>γ),(λb x hx=>γ),λOth M w v' sto hx=>by refine(ff hr sto hx).mono λb o hT=>?_;exact⟨hT.1,hT.2.resolve_right λhh=>hh rfl⟩⟩
 exact ACalls.frame hd h1 λr S2 ⟨e,e2⟩ hd2=>by subst e e2;rw[xr];exact h
def ykl(b:Bld)(pb xw s:Nat)(c:Cmd)(fv:AV)(st:Store)(hb:st.obj pb=some (.cells [ptr xw]))(hx:st.obj xw=some (.cells (wkC s c fv)))(R:Ja)(h:R (V.bool (decide (b.id=c.N))) st):Jb 242 ([.agg (zi b)]++[ptr pb]) st R:=by
 rw[<-lf]at h;refine Qy 12 Tryz.func242 ?_;refine Qc zb zw8 (Qbs (Qbs ?_));refine⟨⟨?_,?_⟩,Tv⟩
 ·repeat(first|exact Tv|refine⟨rfl,?_⟩|refine⟨zoo hb rfl,?_⟩|refine⟨zoo hx rfl,?_⟩)
 exact ret h
def zcv{c:Cmd}(h:Bf w.B c.N=some i)(hi:i<w.B.length):drE w c=if w.B[i].owner=c.P then 0 else 6:=by unfold drE;rw[h];simp[Fbb,hi]
def yju{l:List Bld}{id:Int}(h:Bf l id=some i):∃hi:i<l.length,l[i].id=id:=by unfold Bf at h;rw[Fa5]at h;obtain⟨h1,h2,_⟩:=h;exact⟨h1,of_decide_eq_true h2⟩
def zfm{F G:Store}{xw s p:Nat}{L:List Ent}{o0 o1 o2:AV}{c:Cmd}{fv:AV}(hW:Work F G xw s p w v L o0 o1 o2 c fv)(hm:MayF w)(R:Ja)
  (h:∀S',drE w c≠0->R (int (drE w c)) S') (h0:drE w c=0->∀S',Df S' xw s c fv (drW w c)->R (int 0) S'):Jb 163 [ptr xw] (F.un (svS G s w v o0 o1 o2 p)) R:=by
 have hx:=hW.x (F':=F) (q0:=o0) (q1:=o1) (q2:=o2);have hs:=hW.s (F':=F) (q0:=o0) (q1:=o1) (q2:=o2);have hr:=hW.r (F':=F) (q0:=o0) (q1:=o1) (q2:=o2);have hxs:=hW.ne;have hos:=hW.os;have hB:=hm.hB;obtain⟨oa,cap,e,hget⟩:=hW.S.hu.form;subst e;generalize F.un (svS G s w _ o0 o1 o2 p)=S at hx hs hr⊢;refine Qa (c:=cfg 56 [1] []) zb Tryz.func163 ?_;intro pb hpb;have hbx:xw≠pb:=λe=>by subst e;have:=hpb.1;rw[hx]at this;cases this
 have hbs:s≠pb:=λe=>by subst e;have:=hpb.1;rw[hs]at this;cases this
 have hb:(S.sO pb (.cells [ptr xw])).obj pb=some (.cells [ptr xw]):=zd _ _ _;have hx:=(zj (st:=S) (x:=.cells [ptr xw]) hbx).trans hx;have hs:=(zj (st:=S) (x:=.cells [ptr xw]) hbs).trans hs;have hr:=hr.set (Cp hr hpb.1) (.cells [ptr xw]);refine zoo hb (zoo hx (zoo hs (zd1 w.B θ _ _ (λb=>decide (b.id=c.N)) _ (λb _ R h=>ykl b pb xw s c fv _ hb hx R h) _ ?_)));have hfb:(w.B.findIdx? λb=>decide (b.id=c.N))=Bf w.B c.N:=rfl;rw[hfb];refine bcd (λc1=>?_) λc1=>?_
 ·cases hf:Bf w.B c.N with
  |some i=>rw[hf]at c1;exact absurd c1 (by show¬((i:Int)<0);omega)
  |none=>
   have he:drE w c=3:=by unfold drE;rw[hf]
   have:=h (S.sO pb (.cells [ptr xw])) θa;rw[he]at this;exact ret this
 cases hf:Bf w.B c.N with
 |none=>rw[hf]at c1;exact absurd (show(-1:Int)<0 by decide) c1
 |some i=>
 obtain⟨hi,hid⟩:=yju hf;have he:=zcv hf hi;refine Qc zb zyf (zoo hb (zoo hx (zoo hs ⟨i,rfl,za _ (zn hi) (zoo hb (zoo hx ⟨⟨?_,?_⟩,Tv⟩))⟩)))
 ·repeat(first|exact Tv|refine⟨rfl,?_⟩|refine⟨zoo hb rfl,?_⟩|refine⟨zoo hx rfl,?_⟩|refine⟨zoo hs rfl,?_⟩|refine⟨⟨i,rfl,za _ (zn hi) rfl⟩,?_⟩)
 refine qd (λc2=>?_) λc2=>?_
 ·rw[if_neg c2]at he;have:=h (S.sO pb (.cells [ptr xw])) θa;rw[he]at this;exact ret this
 rw[if_pos c2]at he;have hW2:drW w c={w with B:=w.B.eraseIdx i}:=by unfold drW;rw[hf]
 refine Qc zb zye (zoo hb (zoo hx (zoo hb (zoo hx (zoo hs (ze (by show -9223372036854775808<=((i:Nat):Int)+1/\((i:Nat):Int)+1<=9223372036854775807;omega) ⟨V2 w.B θ _ _ λv2 N hv2 hd=>⟨?_,?_⟩,Tv⟩))))))
 ·have hb2:(N.un (S.sO pb (.cells [ptr xw]))).obj pb=_:=zg hb;have hx2:(N.un (S.sO pb (.cells [ptr xw]))).obj xw=_:=zg hx;have hs2:(N.un (S.sO pb (.cells [ptr xw]))).obj s=_:=zg hs;repeat(first|exact Tv|refine⟨rfl,?_⟩|refine⟨zoo hb2 rfl,?_⟩|refine⟨zoo hx2 rfl,?_⟩|refine⟨zoo hs2 rfl,?_⟩)
 refine⟨yku hd hv2 θ hi _ ⟨?_,?_⟩,Tv⟩
 ·repeat(first|exact Tv|refine⟨rfl,?_⟩|refine⟨zoo hb rfl,?_⟩|refine⟨zoo hx rfl,?_⟩|refine⟨zoo hs rfl,?_⟩)
 refine⟨za _ rfl (j3 rfl (ju (v:=lst 6 zi (w.B.eraseIdx i)) rfl rfl rfl rfl (xo (i:=ti25) (v:=lst 6 zi (w.B.eraseIdx i)) (b:=s) (o:=6) (l:=svC w (.s (.slice oa w.U.length cap)) o0 o1 o2 p) rfl rfl rfl hs (show 6+1<=12 by decide) ?_))),Tv⟩;have hs3:((S.sO pb (.cells [ptr xw])).sO s (.cells (zv (svC w (.s (.slice oa w.U.length cap)) o0 o1 o2 p) 6 [lst 6 zi (w.B.eraseIdx i)]))).obj s=some (.cells (svC {w with B:=w.B.eraseIdx i} (.s (.slice oa w.U.length cap)) o0 o1 o2 p)):=zd _ _ _;have hx3:=(zj (st:=S.sO pb (.cells [ptr xw])) (x:=.cells (zv (svC w (.s (.slice oa w.U.length cap)) o0 o1 o2 p) 6 [lst 6 zi (w.B.eraseIdx i)])) hxs).trans hx;have hr3:=hr.set hos (.cells (zv (svC w (.s (.slice oa w.U.length cap)) o0 o1 o2 p) 6 [lst 6 zi (w.B.eraseIdx i)]));have hb3:=(zj (st:=S.sO pb (.cells [ptr xw])) (x:=.cells (zv (svC w (.s (.slice oa w.U.length cap)) o0 o1 o2 p) 6 [lst 6 zi (w.B.eraseIdx i)])) (Ne.symm hbs)).trans hb;exact⟨Tv,ret (h0 he _ (by rw[hW2];exact⟨_,o0,o1,o2,p,hx3,hs3,hr3⟩))⟩
end
def yco(l:List Bld)(hl:l.length<=256)(id:Int)(i:Nat)(hf:Bf l id=some i):Jb 178 [lst 6 zi l,int id] Store.empty λr S=>∃v,RowsQ 6 zi S v (l.eraseIdx i)/\r=.tup [v,.s (.bool true)]:=by
 have hf0:=hf;unfold Bf at hf0;rw[Fa5]at hf0;obtain⟨hil,hid,hbefore⟩:=hf0;refine Qy 31 Tryz.func178 ?_
 refine AWp.loop (σ:=Nat) ⟨λk=>[(0,.av (lst 6 zi l)),(1,.av (int id)),(6,.av (int (k:Nat)))],λ_=>[],
  λk st'=>k<=i/\st'=Store.empty,λk=>l.length-k⟩ zb ?_ ?_
 ·exact⟨0,Tv,⟨Fad _,rfl⟩,Qbn,Tv⟩
 rintro k st' ⟨hk,rfl⟩;have hlt:k<l.length:=θ;refine zh (λh1=>?_) λh1=>?_;rotate_left
 ·have h1:=of_decide_eq_false h1;rw[zl]at h1;omega
 refine⟨k,rfl,za _ (zn hlt) (zt (λc1=>?_) λc1=>?_)⟩
 ·have hki:k=i:=by
   by_cases e:k=i
   ·exact e
   ·exact absurd (decide_eq_true c1) (hbefore k θ)
  subst hki;refine⟨0,k,rfl,rfl,Fad _,θi,ACalls.le (ys:=[lst 6 zi (l.take k)]) ⟨by unfold lst rws;rw[Fcb,List.map_take];exact Tt,Tv⟩ (iq (l.take k) θe _ _ λv N hv hd=>?_)⟩;have hvQ:RowsQ 6 zi (N.un Store.empty) v (l.take k):=hv.q.unL hd;refine Qd ⟨k+1,l.length,rfl,by rw[zl];rfl,θ,by rw[zl];exact Fal _,ynt (ie:=ti163) rfl jb ψ hvQ (l.drop (k+1)) ?_ (by rw[Fam,Fcg];omega) λv' st' hv'=>?_⟩
  ·rw[Fce (by rw[zl];exact Fal _)];unfold rws;rw[List.map_drop];rfl
  rw[<-Fdu]at hv';exact ret ⟨_,hv',rfl⟩
 ·have hki:k≠i:=λe=>by
   subst e;exact c1 (of_decide_eq_true hid)
  refine Qd ⟨k+1,?_,⟨θ,rfl⟩,Qbn,Tv⟩;show l.length-(k+1)<l.length-k;omega
def ycn(l:List Bld)(hl:l.length<=256)(id:Int)(i:Nat)(hf:Bf l id=some i)(st:Store)(R:Ja)(h:R (.tup [lst 6 zi (l.eraseIdx i),V.bool true]) st):Jb 178 [lst 6 zi l,int id] st R:=
 zao (q:=True) (a:=.bool false) (b:=.bool true) ((yco l hl id i hf).imp λr S hr=>.inr ⟨Tv,hr⟩) st R (λhh=>absurd trivial hh) λ_=>h
def ycm{S:Store}{p:Nat}{w:Wld}{v:AV}(hp:S.obj p=some (.cells (zz w v)))(hv:RowsQ 10 zf S v w.U)(hoff:xz v p)(hm:MayF w)(c:Cmd)(R:Ja)
  (h:∀S',drE w c≠0->R (int (drE w c)) S') (h0:drE w c=0->∀S' v',S'.obj p=some (.cells (zz (drW w c) v'))->RowsQ 10 zf S' v' (drW w c).U->R (int 0) S'):Jb 117 [ptr p,.agg (yh c)] S R:=by
 have hB:=hm.hB;obtain⟨oa,cap,e,hget⟩:=hv.form;subst e;refine Qy 50 Tryz.func117 ?_
 refine AWp.loop (σ:=Nat) ⟨λi=>[(0,.av (ptr p)),(3,.bx 3 0),(5,.av (int (i:Nat)))],λ_=>[(3,yh c)],
  λi st'=>i<=w.B.length/\st'=S/\∀j,(hj:j<w.B.length)->j<i->w.B[j].id≠c.N,λi=>w.B.length-i⟩ zb ?_ ?_
 ·exact⟨0,Tv,⟨Fad _,rfl,λj _ hj=>θ⟩,Qbn,⟨rfl,Tv⟩⟩
 rintro i st' ⟨hi,rfl,hno⟩;refine Qbs (zh (λh1=>?_) λh1=>?_);rotate_left
 ·have hil:i=w.B.length:=qw h1 hi;subst hil;have hf:Bf w.B c.N=none:=by
   unfold Bf;rw[Fbn];intro x hx;obtain⟨j,hj,rfl⟩:=Fai hx;exact decide_eq_false (hno j hj hj)
  have he:drE w c=3:=by unfold drE;rw[hf]
  have:=h st' θa;rw[he]at this;exact ret this
 have hlt:=qn h1;refine Qc zb zzy (Qbs ?_);refine⟨i,rfl,za _ (zn hlt) (qd (λc1=>?_) λc1=>?_)⟩
 ·refine Qd ?_;refine⟨i+1,?_,⟨θ,rfl,λj hj hji=>?_⟩,Qbn,⟨rfl,Tv⟩⟩
  ·show w.B.length-(i+1)<w.B.length-i;omega
  ·by_cases e:j=i
   ·subst e;exact c1
   ·exact hno j hj θ
 have hf:Bf w.B c.N=some i:=by unfold Bf;rw[Fa5];exact⟨hlt,decide_eq_true c1,λj hj=>by simpa using hno j θ hj⟩
 have he:=zcv hf hlt;refine Qc zb zzx (Qbs ?_);refine⟨i,rfl,za _ (zn hlt) (qd (λc2=>?_) λc2=>?_)⟩
 ·rw[if_neg c2]at he;have:=h st' θa;rw[he]at this;exact ret this
 rw[if_pos c2]at he;have hW2:drW w c={w with B:=w.B.eraseIdx i}:=by unfold drW;rw[hf]
 refine Qc zb zzw (Qbs ?_);refine⟨ycn w.B hB c.N i hf _ _ ⟨?_,?_⟩,Tv⟩
 ·repeat(first|exact Tv|refine⟨rfl,?_⟩|refine⟨zoo hp rfl,?_⟩)
 refine⟨za _ rfl (j3 rfl (ju (v:=lst 6 zi (w.B.eraseIdx i)) rfl rfl rfl rfl (xo (i:=ti25) (v:=lst 6 zi (w.B.eraseIdx i)) (b:=p) (o:=6) (l:=zz w (.s (.slice oa w.U.length cap))) rfl rfl rfl hp (show 6+1<=8 by decide) ?_))),Tv⟩;have hp3:(st'.sO p (.cells (zv (zz w (.s (.slice oa w.U.length cap))) 6 [lst 6 zi (w.B.eraseIdx i)]))).obj p=some (.cells (zz {w with B:=w.B.eraseIdx i} (.s (.slice oa w.U.length cap)))):=zd _ _ _;have hr3:=hv.set hoff (.cells (zv (zz w (.s (.slice oa w.U.length cap))) 6 [lst 6 zi (w.B.eraseIdx i)]));exact⟨Tv,ret (h0 he _ _ (by rw[hW2];exact hp3) (by rw[hW2];exact hr3))⟩
def yc1(w:Wld)(hw:w.fits)(hn:∀u∈w.U,u.pos.ok)(hU:w.U.length<=1000000)(c:Cmd)(hc:c.fits)(hK:c.K=5):Jb 72 [.agg (zp w),.agg (yh c)] Store.empty (DoQ drE drW w c):=by
 refine Qa (c:=cfg 97 [6] []) zb Tryz.func72 ?_;have bad:(¬ya w\/¬js c\/w.players<c.P)->DoQ drE drW w c (.tup [.agg (zp w),int 1]) Store.empty:=λhb=>by have he:=Gq (E:=drE) (w:=w) (c:=c) hb;exact .inl ⟨θa,by rw[he]⟩
 refine Ga w hw hn _ _ λz hz=>ye (zh (λc1=>?_) λc1=>?_);rotate_left
 ·exact ret (bad (.inl λhh=>θg))
 refine I3 c hc _ _ λzc hzc=>ye (zh (λc2=>?_) λc2=>?_);rotate_left
 ·exact ret (bad (.inr (.inl λhh=>θr)))
 refine bcd (λc3=>?_) λc3=>?_
 ·exact ret (bad (.inr (.inr θ)))
 have hm:=hz.1 c1;have hcp:=hzc.1 c2;have he:=Hp (E:=drE) hm hcp (show c.P<=w.players by omega);refine I2 w hw hU _ _ λv N hv _=>?_;rw[Bc];have hv:=hv.q;have hoff:=λ(p:Nat) (hp:Fresh N p)=>Cp hv (k8 (fresh_iff.1 hp)).1;obtain⟨oa,cap,e,_⟩:=hv.form;subst e;refine λp hp=>jq (i:=ti27) (v:=.agg (zz w (.s (.slice oa w.U.length cap)))) (xs:=zz w (.s (.slice oa w.U.length cap))) (b:=p) (o:=0) (l:=_) rfl rfl rfl (zd _ _ _) (show 0+8<=8 by decide) ?_;generalize hS:(N.sO p _).sO p _=S;have hp2:S.obj p=some (.cells (zz w (.s (.slice oa w.U.length cap)))):=θs;have hr2:RowsQ 10 zf S (.s (.slice oa w.U.length cap)) w.U:=θt;refine zt (λh=>absurd (hK.symm.trans h) ψ) λ_=>zt (λh=>absurd (hK.symm.trans h) ψ) λ_=>zt (λh=>absurd (hK.symm.trans h) ψ) λ_=>zt (λh=>absurd (hK.symm.trans h) ψ) λ_=>zt (λ_=>ycm hp2 hr2 (hoff p hp) (xh hm) c _ (λS' hE=>?_) λhE S' v' g1 g2=>?_) λh=>absurd hK h
 ·exact qd (λ_=>ret (.inl ⟨θu,by rw[he];rfl⟩)) λh=>absurd h hE
 ·obtain⟨oa2,cap2,e2,_⟩:=g2.form;subst e2;refine Qbs ?_;exact ret (.inr ⟨he.trans hE,_,g2,rfl⟩)
def ycd:Kf 5 drE drW:=λw hw hn hU c hc hK R h=>Lf (yc1 w hw hn hU c hc hK) R h
def yc6(w:Wld)(hw:w.fits)(hn:∀u∈w.U,u.pos.ok)(hU:w.U.length<=1000000)(c:Cmd)(hc:c.fits)(hK:¬js c):Jb 72 [.agg (zp w),.agg (yh c)] Store.empty λr S=>r=.tup [.agg (zp (doW aE aW w c)),int (doE aE w c)]/\S=Store.empty:=by
 have he:=Gq (E:=aE) (w:=w) (c:=c) (.inr (.inl hK));have hw2:doW aE aW w c=w:=Pf θa;rw[he,hw2];refine Qa (c:=cfg 97 [6] []) zb Tryz.func72 ?_;refine Ga w hw hn _ _ λz hz=>?_;refine ye (zh (λc1=>?_) λc1=>?_);rotate_left
 ·exact ret ⟨rfl,rfl⟩
 exact I3 c hc _ _ λzc hzc=>ye (zh (λc2=>absurd (hzc.1 c2) hK) λc2=>ret ⟨rfl,rfl⟩)
def yca(k:Int):Kf k aE aW:=by
 intro w hw hn hU c hc hk R h;by_cases hcp:js c
 ·rcases So hcp with q|q|q|q|q|q|q
  ·obtain⟨e1,e2⟩:=Lg (a1 (w:=w) q);rw[e1,e2]at h;exact ych w hw hn hU c hc q R h
  ·obtain⟨e1,e2⟩:=Lg (a2 (w:=w) q);rw[e1,e2]at h;exact ycg w hw hn hU c hc q R h
  ·obtain⟨e1,e2⟩:=Lg (a3 (w:=w) q);rw[e1,e2]at h;exact ycf w hw hn hU c hc q R h
  ·obtain⟨e1,e2⟩:=Lg (a4 (w:=w) q);rw[e1,e2]at h;exact yce w hw hn hU c hc q R h
  ·obtain⟨e1,e2⟩:=Lg (a5 (w:=w) q);rw[e1,e2]at h;exact ycd w hw hn hU c hc q R h
  ·obtain⟨e1,e2⟩:=Lg (a6 (w:=w) q);rw[e1,e2]at h;exact ycc w hw hn hU c hc q R h
  ·obtain⟨e1,e2⟩:=Lg (a7 (w:=w) q);rw[e1,e2]at h;exact ycb w hw hn hU c hc q R h
 ·exact(yc6 w hw hn hU c hc hcp).imp λr S ⟨e1,e2⟩=>by subst e1 e2;exact h
def ykq{F G N:Store}{xw s p fb:Nat}{room:Int}{kc:Nat}{w:Wld}{v:AV}{L:List Ent}{o0 o1 o2:AV}{c:Cmd}(hW:Work F G xw s p w v L o0 o1 o2 c (jy fb))(hdN:zk (F.un (svS G s w v o0 o1 o2 p)) N)(hFN:FldAny fb room (kc:Nat) N)(hm:ya w)(hn:∀u∈w.U,u.pos.ok)(hc:js c)(hp:c.P<=w.players)(R:Ja)
  (h:∀S' N',aE w c≠0->zk S' N'->FldAny fb room (kc:Nat) N'->R (int (aE w c)) (S'.un N')) (h0:aE w c=0->∀S' N',Df S' xw s c (jy fb) (aW w c)->zk S' N'->FldAny fb room (kc:Nat) N'->R (int 0) (S'.un N')):
  Jb 107 [ptr xw] ((F.un (svS G s w v o0 o1 o2 p)).un N) R:=by
 have hx:=yg hdN (hW.x (F':=F) (q0:=o0) (q1:=o1) (q2:=o2));refine Qy 34 Tryz.func107 ?_;refine zoo hx ?_
 have lift:∀{f:FuncId} {E:Int} {W:Wld},(∀R:AV->Store->Prop,(∀S',E≠0->R (int E) S')->(E=0->∀S',Df S' xw s c (jy fb) W->R (int 0) S')->Jb f [ptr xw] (F.un (svS G s w v o0 o1 o2 p)) R)->E=aE w c->W=aW w c->
   ∀K:AV->Store->Prop,(∀S' N',aE w c≠0->zk S' N'->FldAny fb room (kc:Nat) N'->K (int (aE w c)) (S'.un N'))->(aE w c=0->∀S' N',Df S' xw s c (jy fb) (aW w c)->zk S' N'->FldAny fb room (kc:Nat) N'->K (int 0) (S'.un N'))->
   Jb f [ptr xw] ((F.un (svS G s w v o0 o1 o2 p)).un N) K:=λ{f E W} hf e1 e2 K k1 k2=>by
  subst e1 e2;refine ACalls.frame hdN (hf (λr S=>(aE w c≠0/\r=int (aE w c))\/(aE w c=0/\r=int 0/\Df S xw s c (jy fb) (aW w c))) (λS' he=>.inl ⟨he,rfl⟩) λhe S' hd=>.inr ⟨he,rfl,hd⟩) ?_;rintro r S (⟨he,rfl⟩|⟨he,rfl,hd⟩) hd'
  ·exact k1 S N he hd' hFN
  ·exact k2 he S N hd hd' hFN
 rcases So hc with q|q|q|q|q|q|q
 ·obtain⟨e1,e2⟩:=a1 (w:=w) q;refine zt (λ_=>lift (λR a b=>ze1 hW (xh hm) hn (zde ((Cmd.ok1 q).1 hc.1).2) R a b) e1.symm e2.symm _ (λS' N' he hd hF=>ret (h S' N' he hd hF)) λhe S' N' h1 h2 h3=>ret (h0 he S' N' h1 h2 h3)) λc1=>absurd q c1
 ·obtain⟨e1,e2⟩:=a2 (w:=w) q;refine zt (λc1=>absurd (q.symm.trans c1) ψ) λ_=>zt (λ_=>?_) λc1=>absurd q c1;rw[e1]at h h0;rw[e2]at h0;refine zfg hW hdN hFN (xh hm) hn ((Cmd.ok2 q).1 hc.1).1.1.2 _ (λS' N' he hd hF=>ret (h S' N' he hd hF)) λhe S' N' h1 h2 h3=>ret (h0 he S' N' h1 h2 h3)
 ·obtain⟨e1,e2⟩:=a3 (w:=w) q;refine zt (λc1=>absurd (q.symm.trans c1) ψ) λ_=>zt (λc1=>absurd (q.symm.trans c1) ψ) λ_=>zt (λ_=>lift (λR a b=>ze0 hW (xh hm) hn ((Cmd.ok3 q).1 hc.1).1.2 R a b) e1.symm e2.symm _ (λS' N' he hd hF=>ret (h S' N' he hd hF)) λhe S' N' h1 h2 h3=>ret (h0 he S' N' h1 h2 h3)) λc1=>absurd q c1
 ·obtain⟨e1,e2⟩:=a4 (w:=w) q;refine zt (λc1=>absurd (q.symm.trans c1) ψ) λ_=>zt (λc1=>absurd (q.symm.trans c1) ψ) λ_=>zt (λc1=>absurd (q.symm.trans c1) ψ) λ_=>zt (λ_=>lift (λR a b=>zfn hW hm hn hc q R a b) e1.symm e2.symm _ (λS' N' he hd hF=>ret (h S' N' he hd hF)) λhe S' N' h1 h2 h3=>ret (h0 he S' N' h1 h2 h3)) λc1=>absurd q c1
 ·obtain⟨e1,e2⟩:=a5 (w:=w) q;refine zt (λc1=>absurd (q.symm.trans c1) ψ) λ_=>zt (λc1=>absurd (q.symm.trans c1) ψ) λ_=>zt (λc1=>absurd (q.symm.trans c1) ψ) λ_=>zt (λc1=>absurd (q.symm.trans c1) ψ) λ_=>zt (λ_=>lift (λR a b=>zfm hW (xh hm) R a b) e1.symm e2.symm _ (λS' N' he hd hF=>ret (h S' N' he hd hF)) λhe S' N' h1 h2 h3=>ret (h0 he S' N' h1 h2 h3)) λc1=>absurd q c1
 ·obtain⟨e1,e2⟩:=a6 (w:=w) q;refine zt (λc1=>absurd (q.symm.trans c1) ψ) λ_=>zt (λc1=>absurd (q.symm.trans c1) ψ) λ_=>zt (λc1=>absurd (q.symm.trans c1) ψ) λ_=>zt (λc1=>absurd (q.symm.trans c1) ψ) λ_=>zt (λc1=>absurd (q.symm.trans c1) ψ) λ_=>zt (λ_=>lift (λR a b=>zfi hW hm hn ((Cmd.ok6 q).1 hc.1).1.1.2 ((Cmd.ok6 q).1 hc.1).2.1 R a b) e1.symm e2.symm _ (λS' N' he hd hF=>ret (h S' N' he hd hF)) λhe S' N' h1 h2 h3=>ret (h0 he S' N' h1 h2 h3)) λc1=>absurd q c1
 ·obtain⟨e1,e2⟩:=a7 (w:=w) q;refine zt (λc1=>absurd (q.symm.trans c1) ψ) λ_=>zt (λc1=>absurd (q.symm.trans c1) ψ) λ_=>zt (λc1=>absurd (q.symm.trans c1) ψ) λ_=>zt (λc1=>absurd (q.symm.trans c1) ψ) λ_=>zt (λc1=>absurd (q.symm.trans c1) ψ) λ_=>zt (λc1=>absurd (q.symm.trans c1) ψ) λ_=>?_;rw[e1]at h h0;rw[e2]at h0;refine zez hW hdN hFN (xh hm) hn _ (λS' N' he hd hF=>ret (h S' N' he hd hF)) λhe S' N' h1 h2 h3=>ret (h0 he S' N' h1 h2 h3)
def yks{N:Store}{fb:Nat}{room:Int}{kc:Nat}(hF:FldAny fb room (kc:Nat) N)(w:Wld)(hm:ya w)(hn:∀u∈w.U,u.pos.ok)(c:Cmd)(hc:c.fits):Jb 69 [.agg (zp w),.agg (yh c),jy fb] N λr S=>
  (r=.tup [.agg (zp (doW aE aW w c)),int (doE aE w c)]/\FldAny fb room (kc:Nat) S)\/∃X N' v,RowsQ 10 zf X v (doW aE aW w c).U/\zk X N'/\FldAny fb room (kc:Nat) N'/\S=X.un N'/\r=.tup [.agg (zz (doW aE aW w c) v),int (doE aE w c)]:=by
 have mf:=xh hm;have hU:=mf.hU;have hB:=mf.hB;have hT:=mf.hT;refine Qa (c:=cfg 41 [27] []) zb Tryz.func69 ?_;refine ymb c hc _ _ λzc hzc=>?_;have bad:(¬js c\/w.players<c.P)->∀X:Prop,((.tup [.agg (zp w),int 1]:AV)=.tup [.agg (zp (doW aE aW w c)),int (doE aE w c)]/\FldAny fb room (kc:Nat) N)\/X:=λhb X=>by have he:=Gq (E:=aE) (w:=w) (c:=c) (.inr hb);rw[Pf θa,he];exact .inl ⟨rfl,hF⟩
 refine ye (zh (λc1=>?_) λc1=>?_);rotate_left
 ·exact ret (bad (.inl λhh=>by have:=hzc.2 hh;rw[this]at c1;cases c1) _)
 refine bcd (λc2=>?_) λc2=>?_
 ·exact ret (bad (.inr θ) _)
 clear bad;have hcp:=hzc.1 c1;have he:=Hp (E:=aE) hm hcp (show c.P<=w.players by omega);have hown:∀R:AV->Store->Prop,(∀v X,RowsQ 10 zf X v w.U->zk X N->R (.agg (zz w v)) (X.un N))->Jb 65 [.agg (zp w)] N R:=λR h=>by rw[<-xr N];refine ACalls.frame (Dd _) (tg w θ θ θ (λr S=>∃v,RowsQ 10 zf S v w.U/\r=.agg (zz w v)) λv N h=>⟨v,h,rfl⟩) ?_;rintro r a' ⟨v,h1,rfl⟩ hd';exact h v a' h1 hd'
 refine Qc zb zvp ⟨hown _ λv X hv hXN=>⟨Qe,?_⟩,Tv⟩
 have hopen:=ACalls.frame hXN (tt w v X hv θ hn (λr S=>∃F s p L o0 o1 o2,r=ptr s/\S=F.un (svS X s w v o0 o1 o2 p)/\Fresh X s/\StandR F X s p w v L o0 o1 o2/\L.length<=w.U.length/\(yr w.U->∀e,e∈L↔∃u∈w.U,u.inn=0/\e=(u.id,u.pos))) λF s p L o0 o1 o2 h1 h2 h3 h4=>⟨F,s,p,L,o0,o1,o2,rfl,rfl,h1,h2,h3,h4⟩)
  (R':=λr S=>∃F s p L o0 o1 o2,r=ptr s/\S=(F.un (svS X s w v o0 o1 o2 p)).un N/\zk (F.un (svS X s w v o0 o1 o2 p)) N/\StandR F X s p w v L o0 o1 o2/\L.length<=w.U.length/\(yr w.U->∀e,e∈L↔∃u∈w.U,u.inn=0/\e=(u.id,u.pos)))
  (λr a' ⟨F,s,p,L,o0,o1,o2,h1,h2,h3,h4,h5,h6⟩ hd=>⟨F,s,p,L,o0,o1,o2,h1,by rw[h2],h2▸hd,h4,h5,h6⟩)
 refine⟨hopen.imp ?_,Tv⟩;rintro _ _ ⟨F,s,p,L,o0,o1,o2,rfl,rfl,hdN,hS,hLl,hL⟩;refine⟨Qe,⟨λxw hxw=>⟨Qe,Qbr ?_⟩,Tv⟩⟩;have hxw:=fresh_iff.1 hxw;have hx1:¬F.has xw/\¬(svS X s w v o0 o1 o2 p).has xw:=⟨λh=>hxw (un_has.2 (.inl (un_has.2 (.inl h)))),λh=>hxw (un_has.2 (.inl (un_has.2 (.inr h))))⟩
 have hxN:¬N.has xw:=λh=>hxw (un_has.2 (.inr h));have hne:xw≠s:=λe=>hx1.2 (svS_has.2 (.inl e));have hxX:¬X.has xw:=λh=>hx1.2 (svS_has.2 (.inr h));have e0:((F.un (svS X s w v o0 o1 o2 p)).un N).sO xw (.cells (wkC s c (jy fb)))=(F.un (svS (X.sO xw (.cells (wkC s c (jy fb)))) s w v o0 o1 o2 p)).un N:=by rw[Al hxN,yd];unfold svS;rw[F7 hne]
 have hdW:zk (F.un (svS (X.sO xw (.cells (wkC s c (jy fb)))) s w v o0 o1 o2 p)) N:=λi h1 h2=>by
  rcases un_has.1 h1 with h1|h1
  ·exact hdN i (un_has.2 (.inl h1)) h2
  ·rcases svS_has.1 h1 with h1|h1
   ·exact hdN i (un_has.2 (.inr (svS_has.2 (.inl h1)))) h2
   ·rcases has_setObj_iff.1 h1 with rfl|h1
    ·exact hxN h2
    ·exact hdN i (un_has.2 (.inr (svS_has.2 (.inr h1)))) h2
 have offx:=Cp hv (k8 hxX).1;have offs:=Cp hv hS.hs;have hW:Work F (X.sO xw (.cells (wkC s c (jy fb)))) xw s p w v L o0 o1 o2 c (jy fb):=by
  refine⟨⟨hS.hc,λi h1 h2=>?_,?_,hv.set offx _,hS.h0,hS.h1,hS.h2⟩,zd _ _ _,offx,offs,hLl,hL mf.hr⟩
  ·rcases svS_has.1 h2 with rfl|h2
   ·exact hS.hd _ h1 (svS_has.2 (.inl rfl))
   ·rcases has_setObj_iff.1 h2 with rfl|h2
    ·exact hx1.1 h1
    ·exact hS.hd _ h1 (svS_has.2 (.inr h2))
  ·rw[zj (Ne.symm hne)];exact hS.hs
 refine cast (congrArg (λst=>Jb 107 [ptr xw] st _) e0.symm) (ykq hW hdW hF hm hn hcp θ _ (λS' N' hE hd' hF'=>?_) λhE S' N' hdn hd' hF'=>?_)
 ·refine qd (λ_=>?_) λh=>absurd h hE;rw[he,Pf θu];exact⟨_,N',Tt,⟨λb x hx=>zg hx,λb x hx=>F5 hx⟩,.inl ⟨rfl,hF'⟩⟩
 ·obtain⟨v2,q0,q1,q2,p2,g1,g2,g3⟩:=hdn;obtain⟨oa,cap,e2,_⟩:=g3.form;subst e2;refine zoo (yg hd' g1) (zoo (yg hd' g2) ?_);rw[he,g9 (he.trans hE),hE];exact ret (.inr ⟨S',N',_,g3,hd',hF',rfl,rfl⟩)
def ykt:DoC:=λfb room k N w c hF hw hc R h=>by
 refine(yks hF w hw.1 hw.2 c hc).frozenTo ?_;rintro r S (⟨rfl,hF'⟩|⟨X,N',v,hX,hd,hF',rfl,rfl⟩)
 ·exact⟨_,S.objs,h _ hF'.objs,λb x hx=>hx,λb x hx=>γ,λOth M W x sto hx=>hx.mono λb o hT=>hT.1⟩
 ·refine⟨_,N'.objs,h _ hF'.objs,λb x hx=>zg hx,λb x hx=>γ,λOth M W x sto hx=>?_⟩;have sX:StoreOK X Oth M W:=sto.weaken ⟨λb y hy=>yg hd hy,λb y hy=>Kk hd hy⟩;have ht:∀b,((X.un N').obj b=none\/N'.objs.obj b≠none)->X.obj b=none:=λb hb=>by
   rcases hb with hb|hb
   ·exact(Kx hb).1
   ·cases hx:X.obj b with
    |none=>rfl
    |some y=>exact absurd (k8 (hd b (xf hx))).1 hb
  exact VRel.mono (λb o h=>⟨h.1,ht b h.2⟩) (hx.tup2 (λx hx=>Dh hX sX hx) λx hx=>qv hx)
def zfk(i n:Int)(hn:0<n)(hn2:n<=1000)(st:Store)(R:Ja)(h:∀k:Int,0<=k->k<n->R (int k) st):Jb 67 [int i,int n] st R:=by
 refine Qy 11 Tryz.func67 ?_;have e1:IntKind.u64.wrap n=n:=j6 θ θ;have h0:0<=IntKind.u64.wrap i:=by rw[Lp];omega
 refine⟨by rw[e1];omega,?_⟩;have h1:(IntKind.u64.wrap i).tmod n=(IntKind.u64.wrap i)%n:=Fcl h0;have h2:=Fcf (IntKind.u64.wrap i) (show n≠0 by omega);have h3:=Fcs (IntKind.u64.wrap i) hn;refine⟨by rw[e1,h1];exact⟨θ,θ⟩,?_⟩;rw[e1,h1];exact ret (h _ h2 h3)
def zt7(a:Ask25)(hl:a.S.L.length<=1000):Jb 29 [.agg (Lm a)] Store.empty λr _=>∃n:Nat,1<=n/\n<=4/\r=lst 1 Pg (Kn a.S.L n):=by
 refine Qy 44 Tryz.func29 ?_;refine zfk _ 4 ψ ψ _ _ λn0 h0 h4=>?_;refine Qd ?_;obtain⟨n,rfl⟩:∃n:Nat,n0=((n:Nat):Int)-1:=⟨(n0+1).toNat,θ⟩
 have hn:1<=n/\n<=4:=θ;clear h0 h4
 refine AWp.loop (σ:=Nat×AV) ⟨λx=>[(1,.bx 1 0),(3,.av (int (n:Nat))),(4,.av x.2),(5,.av (int (x.1:Nat)))],λx=>[(1,Lm a)],
  λx st'=>x.1<=8/\App 1 Store.empty x.2 (rws Pg ((List.range x.1).map (I4 a.S.L n))) st',λx=>8-x.1⟩ zb ?_ ?_
 ·refine⟨(0,.s (.slice none 0 0)),Tv,⟨Fad _,App.start 1 _⟩,⟨Tq,?_,Tq,Tq,Tv⟩,⟨rfl,Tv⟩⟩;have e:(1:Int)+((n:Int)-1)=(n:Nat):=θ;show LV.le (.av (int (1+((n:Int)-1)))) _;rw[e];exact Tq
 rintro⟨i,v⟩ st' ⟨hi,ha⟩;dsimp only at hi ha⊢;refine bcd (λc1=>?_) λc1=>?_;rotate_left
 ·have:i=8:=θ;subst this;exact⟨_,_,ha.le,ha.has,n,hn.1,hn.2,rfl⟩
 have hlt:i<8:=θ;have hm:i*n<=28:=by have:=Fcw (show i<=7 by omega) hn.2;omega
 have em:(i:Int)*(n:Int)=((i*n:Nat):Int):=θ;refine Qc zb zws (ze (by rw[em];omega) (ze (by rw[em];omega) (ze (by rw[em];omega) (Qbq (Qbr ?_)))));have hr:=zl (f:=yh) a.S.L;refine⟨min (i*n) a.S.L.length,min (i*n+n) a.S.L.length,?_,?_,θ,θ,?_⟩
 ·show min2 _ _=_;unfold min2;rw[hr,em];rw[Fc1];split<;>omega
 ·show min2 _ _=_;unfold min2;rw[hr,em];rw[Fc1];split<;>omega
 have erow:((rws yh a.S.L).take (min (i*n+n) a.S.L.length)).drop (min (i*n) a.S.L.length)=rws yh (I4 a.S.L n i):=by unfold rws I4;rw[<-List.map_take,<-List.map_drop]
 rw[erow];refine⟨ψ,Ba (ie:=ti61) (rows':=[Pg (I4 a.S.L n i)]) ha ?_ ?_ ⟨?_,?_⟩ λv2 st2 ha2=>?_⟩
 ·rfl
 ·rfl
 ·simp[zl,ti61];omega
 ·simp[zl];omega
 refine Qd ⟨(i+1,v2),(show 8-(i+1)<8-i by omega),⟨hlt,?_⟩,Qbn,⟨rfl,Tv⟩⟩;dsimp only;rw[Fdc,Fa8];unfold rws at ha2⊢;rw[Fa8];exact ha2
def zt6(a:Ask25)(hl:a.S.L.length<=1000)(st:Store)(R:Ja)(h:∀n:Nat,1<=n->n<=4->R (lst 1 Pg (Kn a.S.L n)) st):Jb 29 [.agg (Lm a)] st R:=
 Fl (zt7 a hl) st R λr ⟨n,h1,h2,e⟩=>e▸h n h1 h2
def ACalls.weak{f:FuncId}{xs:List AV}{st st0:Store}{R:Ja}(hh:st.Has st0)(h:Jb f xs st0 R):Jb f xs st R:=
 h.post hh.toLe λr st' h=>⟨r,st',Tt,Store.Le.refl _,h⟩
def yj0{eb:Nat}{room:Int}{k:Nat}{w:Wld}{S:Store}(hE:EngR eb room k w S)(ht:w.tick=1099511627776)(l:List Cmd)(R:Ja)(h:R (.tup [nil,int 10]) S):Jb 31 [ptr eb,lst 10 yh l] S R:=by obtain⟨N,fb,rfl,hn,hF⟩:=hE.out;refine Qy 74 Tryz.func31 ?_;exact zoo (zd _ _ _) (zt (λc1=>ret h) λc1=>absurd ht c1)
section
variable {eb:Nat} {room:Int} {k:Nat} {w:Wld} {S G:Store}
def yjz(hE:EngR eb room k w S)(hd:zk S G)(hp:playW w)(R:Ja)(h:R (.agg (zp w)) (S.un G)):Jb 35 [ptr eb] (S.un G) R:=
 ACalls.frame hd (zch hE hp.sizes (λr S'=>r=.agg (zp w)/\S'=S) ⟨rfl,rfl⟩) λr a ⟨h1,h2⟩ _=>by subst h1 h2;exact h
def zcj(hE:EngR eb room k w S)(hd:zk S G)(hp:playW w)(l:List Cmd)(hf:∀c∈l,c.fits)(hl:l.length<=512)(hk:k<=100000000000000000)(R:Ja)
  (hmax:w.tick=1099511627776->R (.tup [nil,int 10]) (S.un G))
  (h:w.tick<1099511627776->∀S',EngR eb room (k+4096) (Da w l) S'->zk S' G->R (.tup [lst 1 zx (ve w l),int 0]) (S'.un G)):Jb 31 [ptr eb,lst 10 yh l] (S.un G) R:=by
 have ht:=hp.1.1.1.1.1.2;by_cases e:w.tick=1099511627776
 ·refine ACalls.frame hd (yj0 hE e l (λr S'=>r=.tup [nil,int 10]/\S'=S) ⟨rfl,rfl⟩) λr a ⟨h1,h2⟩ _=>by subst h1 h2;exact hmax e
 ·refine ACalls.frame hd (zci hE hp l (.inr ykt) hf hl θ hk (λr S'=>r=.tup [lst 1 zx (ve w l),int 0]/\EngR eb room (k+4096) (Da w l) S') λS' h=>⟨rfl,h⟩) λr a ⟨h1,h2⟩ hd'=>by subst h1;exact h θ a h2 hd'
def yj1(hE:EngR eb room k w S)(hd:zk S G)(hp:playW w)(l:List Cmd)(hf:∀c∈l,c.fits)(hl:l.length<=512)(hk:k<=100000000000000000)(R:Ja)
  (h:∀k' S',k'<=k+4096->EngR eb room k' (Ig w l) S'->zk S' G->R (.tup [lst 1 zx (Ih w l),int (Ky w)]) (S'.un G)):Jb 31 [ptr eb,lst 10 yh l] (S.un G) R:=by
 by_cases e:w.tick=1099511627776
 ·obtain⟨e1,e2,e3⟩:=Se e l;have:=h k S θ (e1.symm▸hE) hd;rw[e2,e3]at this;refine(zcj hE hd hp l hf hl hk (λr S'=>r=.tup [nil,int 10]/\S'=S.un G) (λ_=>⟨rfl,rfl⟩) λh=>absurd e θ).post (Store.Le.refl _) ?_;rintro r S' ⟨rfl,rfl⟩;exact⟨_,_,λW T v hv=>hv.tup2 (λx hx=>AV.le_nil 1 _ _ _ hx) λx hx=>hx,Store.Le.refl _,this⟩
 ·obtain⟨e1,e2,e3⟩:=Sf e l;rw[e1,e2,e3]at h;exact zcj hE hd hp l hf hl hk R (λhm=>absurd hm e) λ_ S' h1 h2=>h (k+4096) S' (Fal _) h1 h2
end
def ykb(a b:List Int)(ha:a.length<=1000000000000)(st:Store)(R:Ja)(h:R (bool (decide (a=b))) st):Jb 33 [lst 1 zx a,lst 1 zx b] st R:=by
 refine Qy 26 Tryz.func33 ?_;refine zh (λh1=>?_) λh1=>?_
 ·have:a≠b:=λh2=>Mm h1 (by rw[h2]);rw[show decide (a=b)=false by simp[this]]at h;exact⟨_,st,Tt,Store.Has.refl st,h⟩
 ·have hl:a.length=b.length:=I0 h1;refine AWp.loop (σ:=Nat) ⟨λi=>[(0,.av (lst 1 zx a)),(1,.av (lst 1 zx b)),(5,.av (int i))],λ_=>[],λi st'=>i<=a.length/\a.take i=b.take i/\st'=st,λi=>a.length-i⟩ zb ?_ ?_
  ·exact⟨0,Tv,⟨Fad _,rfl,rfl⟩,Qbn,Tv⟩
  ·rintro i st' ⟨hi,heq,hst⟩;refine zh (λh2=>?_) λh2=>?_
   ·have hlt:i<a.length:=qn h2;have hltb:i<b.length:=θ;refine Qc zb zwh ⟨i,rfl,za _ (zn hlt) ⟨i,rfl,za _ (zn hltb) (zh (λh3=>?_) λh3=>?_)⟩⟩
    ·have hne:a[i]≠b[i]:=by
      intro h4;rw[h4]at h3;simp at h3
     have:a≠b:=θ1;rw[show decide (a=b)=false by simp[this]]at h;subst hst;exact⟨_,st',Tt,Store.Has.refl st',h⟩
    ·refine⟨⟨θ,θ⟩,⟨i+1,?_,⟨hlt,?_,hst⟩,Qbn,Tv⟩⟩
     ·show a.length-(i+1)<a.length-i;omega
     ·rw[Fab hlt,Fab hltb,heq];have:a[i]=b[i]:=by simpa using h3
      rw[this]
   ·have hge:i=a.length:=qw h2 hi;subst hge hst;have:a=b:=by
     rw[Fak,hl,Fak]at heq;exact heq
    rw[show decide (a=b)=true by simp[this]]at h;exact⟨_,st',Tt,Store.Has.refl st',h⟩
def ykc(l:List Int)(hl:l.length<=1000)(st:Store)(R:Ja)(h:R (V.bool true) st):Jb 33 [lst 1 zx l,lst 1 zx l] st R:=
 ykb l l θ st R (by rw[decide_eq_true rfl];exact h)
section
variable {fb n i b:Nat} {E S:Store} {v:AV}
def Qbc{p:Prop}(h:p:=by rw[<-e];exact Fa3 h2):p:=h
def Qbd{p:Prop}(h:p:=by rw[Fas];exact hlt):p:=h
def Qbe{p:Prop}(h:p:=by rw[Fas];omega):p:=h
def Qbf{p:Prop}(h:p:=by cases hx):p:=h
def Qbg{p:Prop}(h:p:=by rw[hob];simp):p:=h
def je:AV->Option Nat
 |.s (.slice (some ⟨b,0,none⟩) _ _)=>some b
 |_=>none
def dirC(n:Nat)(d:Nat):List AV:=[.s (.slice (some ⟨d,0,none⟩) n n)]
structure FlowP(fb:Nat)(g:Gnd)(l:List Bld)(E:Store)(v1 v2 v3 v4:AV)(q:List (Int×Int×Nat))(ds:List Nat):Prop where
 h0:E.obj fb=some (.cells [v1,v2,v3,v4])
 h1:Ints E v1 (q.map (·.1))
 h2:Ints E v2 (q.map (·.2.1))
 h3:Ints E v3 (q.map λx=>(x.2.2:Int))
 h4:RowsO 1 (dirC g.T.length) E v4 ds
 len:ds.length=q.length
 ok:∀(i:Nat) x d,q[i]?=some x->ds[i]?=some d->E.obj d=some (.cells (wayL g l x.1 x.2.1 x.2.2))
 o0:fb∉ds
 o1:∀x,je v1=some x->x≠fb/\x∉ds/\je v2≠some x/\je v3≠some x/\je v4≠some x
 o2:∀x,je v2=some x->x≠fb/\x∉ds/\je v3≠some x/\je v4≠some x
 o3:∀x,je v3=some x->x≠fb/\x∉ds/\je v4≠some x
 o4:∀x,je v4=some x->x≠fb/\x∉ds
def FlowK(fb:Nat)(g:Gnd)(l:List Bld)(k:Nat)(E:Store):Prop:=∃v1 v2 v3 v4 q ds,FlowP fb g l E v1 v2 v3 v4 q ds/\q.length<=k
def yi7(g:Gnd)(l:List Bld)(h:E.obj fb=some (.cells [nil,nil,nil,nil])):FlowK fb g l 0 E:=
 ⟨nil,nil,nil,nil,[],[],⟨h,.inl ⟨rfl,rfl⟩,.inl ⟨rfl,rfl⟩,.inl ⟨rfl,rfl⟩,.inl ⟨rfl,rfl⟩,rfl,λi x d hx=>Qbf,φ,λx hx=>Qbf,λx hx=>Qbf,λx hx=>Qbf,λx hx=>Qbf⟩,Fal _⟩
def fw{ns:List Int}(h:Ints S v ns):∃oa cap,v=.s (.slice oa ns.length cap)/\(∀x,je v=some x->S.obj x≠none)/\∀i,i<ns.length->∃b L,oa=some ⟨b,0,none⟩/\S.obj b=some (.cells (ns.map aI++L)):=by
 rcases h with⟨rfl,rfl⟩|⟨b,cap,L,rfl,hb,h1,h2,h3⟩
 ·exact⟨none,0,rfl,λx hx=>Qbf,λi hi=>(by simp at hi)⟩
 ·exact⟨_,cap,rfl,λx hx=>(by cases hx;rw[hb];simp),λi hi=>⟨b,L,rfl,hb⟩⟩
def ya3{ds:List Nat}(h:RowsO 1 (dirC n) S v ds):∃oa cap,v=.s (.slice oa ds.length cap)/\(∀x,je v=some x->S.obj x≠none)/\∀i,i<ds.length->∃b L,oa=some ⟨b,0,none⟩/\S.obj b=some (.cells ((rws (dirC n) ds).flatten++L)):=by
 rcases h with⟨rfl,rfl⟩|⟨b,cap,L,rfl,hb,h1,h2,h3⟩
 ·exact⟨none,0,rfl,λx hx=>Qbf,λi hi=>(by simp at hi)⟩
 ·exact⟨_,cap,rfl,λx hx=>(by cases hx;rw[hb];simp),λi hi=>⟨b,L,rfl,hb⟩⟩
def fx{ns:List Int}{L:List AV}(hi:i<ns.length):((ns.map aI++L).drop (0+i*1)).head?=some (int ns[i]):=by rw[Fbv,Fap χ,Far,Fbg,Fej];simp[hi];rfl
def yk7{ds:List Nat}{L:List AV}(hi:i<ds.length):(((rws (dirC n) ds).flatten++L).drop (0+i*1)).head?=some (.s (.slice (some ⟨ds[i],0,none⟩) n n)):=by have:=xt (f:=dirC n) (k:=1) (L:=L) (λ_=>rfl) hi;rw[this];rfl
def Av{p:Nat}(hb:Fresh S b\/∃c0,v=.s (.slice (some ⟨b,0,none⟩) n c0))(hp:S.obj p≠none)(ho:∀x,je v=some x->x≠p):b≠p:=by
 rcases hb with h|⟨c0,h⟩
 ·exact λe=>hp (e▸h.1)
 ·exact ho b (by rw[h];rfl)
def Ml{u:AV}(hb:Fresh S b\/∃c0,v=.s (.slice (some ⟨b,0,none⟩) n c0))(hu:∀x,je u=some x->S.obj x≠none)(ho:∀x,je v=some x->je u≠some x):je u≠some b:=λe=>by
 rcases hb with h|⟨c0,h⟩
 ·exact hu b e h.1
 ·exact ho b (by rw[h];rfl) e
def ft{ns:List Int}(h:Ints S v ns)(hb:je v≠some b)(x:AObj):Ints (S.sO b x) v ns:=
 Ss h (λb' n cap hv e=>hb (by rw[hv,e];rfl)) x
def Rt{ds:List Nat}(h:RowsO 1 (dirC n) S v ds)(hb:je v≠some b)(x:AObj):RowsO 1 (dirC n) (S.sO b x) v ds:=by
 rcases h with⟨rfl,rfl⟩|⟨b',cap,L,rfl,ho,h1⟩
 ·exact .inl ⟨rfl,rfl⟩
 ·refine .inr ⟨b',cap,L,rfl,?_,h1⟩;rw[zj (λe=>hb (by rw[e];rfl))];exact ho
def yjw{k:Nat}{w:Wld}(hm:ya w)(oa:Option Addr)(n0 c0:Nat)(hF:FlowK fb w.G w.B k E)(hk:k<=1000000000){c s:Int}(hc:c=0\/c=1\/c=2)(hs:0<=s)(goal:Nat)(hgo:goal<w.G.T.length)(R:Ja)
  (h:∀b E',FlowK fb w.G w.B (k+1) E'->E'.obj b=some (.cells (wayL w.G w.B c s goal))->R (.s (.slice (some ⟨b,0,none⟩) w.G.T.length w.G.T.length)) E'):
  Jb 188 [ptr fb,.agg (zz w (.s (.slice oa n0 c0))),int c,int s,int (goal:Nat)] E R:=by
 have f:=xh hm;have hB:=f.hB;obtain⟨v1,v2,v3,v4,q,ds,hP,hq⟩:=hF;obtain⟨a1,c1,rfl,m1,g1⟩:=fw hP.h1;obtain⟨a2,c2,rfl,m2,g2⟩:=fw hP.h2;obtain⟨a3,c3,rfl,m3,g3⟩:=fw hP.h3;obtain⟨a4,c4,rfl,m4,g4⟩:=ya3 hP.h4;simp only[Fas]at hP g1 g2 g3 m1 m2 m3;refine Qy 109 Tryz.func188 ?_
 refine AWp.loop (σ:=Nat) ⟨λi=>[(0,.av (ptr fb)),(2,.av (int c)),(3,.av (int s)),(4,.av (int (goal:Nat))),(6,.bx 6 0),(11,.av (int (i:Nat)))],λ_=>[(6,zz w (.s (.slice oa n0 c0)))],
  λi st'=>st'=E/\i<=q.length,λi=>q.length-i⟩ zb ?_ ?_
 ·exact⟨0,Tv,⟨rfl,Fad _⟩,Qbn,⟨rfl,Tv⟩⟩
 rintro i st' ⟨rfl,hi⟩;refine zoo hP.h0 (bcd (λd1=>?_) λd1=>?_)
 ·have hlt:i<q.length:=θ;obtain⟨b1,L1,e1,hb1⟩:=g1 i hlt;obtain⟨b2,L2,e2,hb2⟩:=g2 i hlt;obtain⟨b3,L3,e3,hb3⟩:=g3 i hlt;obtain⟨b4,L4,e4,hb4⟩:=g4 i (by have:=hP.len;omega);subst e1 e2 e3 e4;have hld:i<ds.length:=by have:=hP.len;omega
  have r1:=fx (ns:=q.map (·.1)) (L:=L1) (i:=i) Qbd;have r2:=fx (ns:=q.map (·.2.1)) (L:=L2) (i:=i) Qbd;have r3:=fx (ns:=q.map λx=>(x.2.2:Int)) (L:=L3) (i:=i) Qbd;have r4:=yk7 (n:=w.G.T.length) (L:=L4) hld;rw[Fbp]at r1 r2 r3;refine zoo hP.h0 ⟨i,rfl,hlt,Qbs (za _ r1 (zt (λk1=>?_) λk1=>?_))⟩;rotate_left
  ·exact Qd ⟨i+1,(show q.length-(i+1)<q.length-i by omega),⟨rfl,hlt⟩,Qbn,⟨rfl,Tv⟩⟩
  refine zoo hP.h0 ⟨i,rfl,hlt,Qbs (za _ r2 (zt (λk2=>?_) λk2=>?_))⟩;rotate_left
  ·exact Qd ⟨i+1,(show q.length-(i+1)<q.length-i by omega),⟨rfl,hlt⟩,Qbn,⟨rfl,Tv⟩⟩
  refine zoo hP.h0 ⟨i,rfl,hlt,Qbs (za _ r3 (zt (λk3=>?_) λk3=>?_))⟩;rotate_left
  ·exact Qd ⟨i+1,(show q.length-(i+1)<q.length-i by omega),⟨rfl,hlt⟩,Qbn,⟨rfl,Tv⟩⟩
  refine zoo hP.h0 ⟨i,rfl,hld,Qbs (za _ r4 (ret (h ds[i] st' ⟨_,_,_,_,q,ds,hP,θ⟩ ?_)))⟩;have:=hP.ok i q[i] ds[i] (Fac hlt) (Fac hld);have k1:q[i].1=c:=k1;have k2:q[i].2.1=s:=k2;have k3:(q[i].2.2:Int)=(goal:Int):=k3;have k3:q[i].2.2=goal:=θ;rw[k1,k2,k3]at this;exact this
 ·refine ycp f.hg θ f.hb hc hs goal hgo _ _ λb N hN hd=>?_;have hlq:i=q.length:=θ;have hbf:b≠fb:=λe=>hd b (xf hN) (by rw[e];exact xf hP.h0);have hbd:b∉ds:=λhh=>by
   obtain⟨j,hj,e⟩:=Fai hh;have hjq:j<q.length:=by have:=hP.len;omega
   have:=hP.ok j q[j] ds[j] (Fac hjq) (Fac hj);exact hd b (xf hN) (by rw[<-e];exact xf this)
  have hbn:∀{x:Nat},st'.obj x≠none->b≠x:=λ{x} hx e=>hd b (xf hN) (.inl (e▸hx));have hob:(N.un st').obj b=some (.cells (wayL w.G w.B c s goal)):=yg hd hN;have hk1:∀{x:Nat} {y:AObj},st'.obj x=some y->(N.un st').obj x=some y:=λhy=>zg hy;have hI:∀{v:AV} {ns:List Int},Ints st' v ns->Ints (N.un st') v ns:=λ{v ns} h=>by
   rcases h with h|⟨b,cap,L,h1,h2,h3⟩
   ·exact .inl h
   ·exact .inr ⟨b,cap,L,h1,zg h2,h3⟩
  have p0:=hk1 hP.h0;have p1:=hI hP.h1;have p2:=hI hP.h2;have p3:=hI hP.h3;have p4:RowsO 1 (dirC w.G.T.length) (N.un st') (.s (.slice a4 ds.length c4)) ds:=hP.h4.un;have pok:∀(i:Nat) x d,q[i]?=some x->ds[i]?=some d->(N.un st').obj d=some (.cells (wayL w.G w.B x.1 x.2.1 x.2.2)):=λi x d h1 h2=>zg (hP.ok i x d h1 h2);have hh:∀{x:Nat},st'.obj x≠none->(N.un st').obj x≠none:=λ{x} hx=>by
   cases hy:st'.obj x with
   |none=>exact absurd hy hx
   |some y=>rw[zg hy];simp
  have nb1:∀x,je (.s (.slice a1 q.length c1))=some x->x≠b:=λx hx=>Ne.symm (hbn (m1 x hx));have nb2:∀x,je (.s (.slice a2 q.length c2))=some x->x≠b:=λx hx=>Ne.symm (hbn (m2 x hx));have nb3:∀x,je (.s (.slice a3 q.length c3))=some x->x≠b:=λx hx=>Ne.symm (hbn (m3 x hx));have nb4:∀x,je (.s (.slice a4 ds.length c4))=some x->x≠b:=λx hx=>Ne.symm (hbn (m4 x hx));have m1:=λx hx=>hh (m1 x hx);have m2:=λx hx=>hh (m2 x hx);have m3:=λx hx=>hh (m3 x hx);have m4:=λx hx=>hh (m4 x hx);have o0:=hP.o0;have o1:=hP.o1;have o2:=hP.o2;have o3:=hP.o3;have o4:=hP.o4;have hlen:=hP.len;have pds:∀d,d∈ds->(N.un st').obj d≠none:=λd hd'=>by obtain⟨j,hj,e⟩:=Fai hd';have:=pok j q[j] ds[j] (Fac θ) (Fac hj);rw[<-e,this];simp
  clear hI hk1 hN hd hh hP g1 g2 g3 g4 hbn;generalize N.un st'=S at*;refine Qc zb zxy (Qbs ?_);refine⟨ψ,Qbs ?_⟩;refine⟨ψ,Qbs ?_⟩;refine⟨ψ,⟨Wg (ie:=ti2) (v:=(.s (.slice a1 q.length c1))) (ns:=q.map (·.1)) rfl rfl rfl p1 c Qbe λb1 n1 L1 hb1 q11 q12 q13=>?_,Tv⟩⟩;have ef1:fb≠b1:=Ne.symm (Av hb1 (by rw[p0];simp) λx hx=>(o1 x hx).1);have eb1:b≠b1:=Ne.symm (Av hb1 Qbg nb1);have ed1:b1∉ds:=λhh=>Av hb1 (pds _ hh) (λx hx e=>(o1 x hx).2.1 (e▸hh)) rfl;have ex12:je (.s (.slice a2 q.length c2))≠some b1:=Ml hb1 m2 λx hx=>(o1 x hx).2.2.1;have ex13:je (.s (.slice a3 q.length c3))≠some b1:=Ml hb1 m3 λx hx=>(o1 x hx).2.2.2.1;have ex14:je (.s (.slice a4 ds.length c4))≠some b1:=Ml hb1 m4 λx hx=>(o1 x hx).2.2.2.2;have kk:∀{y:Nat} {z:AObj},y≠b1->S.obj y=some z->(S.sO b1 (.cells (((q.map (·.1))++[c]).map aI++L1))).obj y=some z:=λh hy=>(zj h).trans hy;have hh:∀y,S.obj y≠none->(S.sO b1 (.cells (((q.map (·.1))++[c]).map aI++L1))).obj y≠none:=λy hy=>by
   by_cases e:y=b1
   ·rw[e,zd];simp
   ·rw[zj e];exact hy
  have p0:=kk ef1 p0;have hob:=kk eb1 hob;have pok:=λ(i:Nat) x d (h1:q[i]?=some x) (h2:ds[i]?=some d)=>kk (λ(e:d=b1)=>ed1 Qbc) (pok i x d h1 h2);have pds:=λd hd=>hh d (pds d hd);have z1:(S.sO b1 (.cells (((q.map (·.1))++[c]).map aI++L1))).obj b1=_:=zd _ _ _;have m2:=λx hx=>hh x (m2 x hx);have p2:=ft p2 ex12 (.cells (((q.map (·.1))++[c]).map aI++L1));have m3:=λx hx=>hh x (m3 x hx);have p3:=ft p3 ex13 (.cells (((q.map (·.1))++[c]).map aI++L1));have m4:=λx hx=>hh x (m4 x hx);have p4:=Rt p4 ex14 (.cells (((q.map (·.1))++[c]).map aI++L1));clear kk hh hb1;generalize(S.sO b1 (.cells (((q.map (·.1))++[c]).map aI++L1)))=S1 at*;refine⟨Qe,⟨Wg (ie:=ti2) (v:=(.s (.slice a2 q.length c2))) (ns:=q.map (·.2.1)) rfl rfl rfl p2 s Qbe λb2 n2 L2 hb2 q21 q22 q23=>?_,Tv⟩⟩;have ef2:fb≠b2:=Ne.symm (Av hb2 (by rw[p0];simp) λx hx=>(o2 x hx).1);have eb2:b≠b2:=Ne.symm (Av hb2 Qbg nb2);have ed2:b2∉ds:=λhh=>Av hb2 (pds _ hh) (λx hx e=>(o2 x hx).2.1 (e▸hh)) rfl;have ex23:je (.s (.slice a3 q.length c3))≠some b2:=Ml hb2 m3 λx hx=>(o2 x hx).2.2.1;have ex24:je (.s (.slice a4 ds.length c4))≠some b2:=Ml hb2 m4 λx hx=>(o2 x hx).2.2.2;have en21:b1≠b2:=Ne.symm (Av hb2 (by rw[z1];simp) λx hx e=>ex12 (e▸hx));have kk:∀{y:Nat} {z:AObj},y≠b2->S1.obj y=some z->(S1.sO b2 (.cells (((q.map (·.2.1))++[s]).map aI++L2))).obj y=some z:=λh hy=>(zj h).trans hy;have hh:∀y,S1.obj y≠none->(S1.sO b2 (.cells (((q.map (·.2.1))++[s]).map aI++L2))).obj y≠none:=λy hy=>by
   by_cases e:y=b2
   ·rw[e,zd];simp
   ·rw[zj e];exact hy
  have p0:=kk ef2 p0;have hob:=kk eb2 hob;have pok:=λ(i:Nat) x d (h1:q[i]?=some x) (h2:ds[i]?=some d)=>kk (λ(e:d=b2)=>ed2 Qbc) (pok i x d h1 h2);have pds:=λd hd=>hh d (pds d hd);have z1:=kk en21 z1;have z2:(S1.sO b2 (.cells (((q.map (·.2.1))++[s]).map aI++L2))).obj b2=_:=zd _ _ _;have m3:=λx hx=>hh x (m3 x hx);have p3:=ft p3 ex23 (.cells (((q.map (·.2.1))++[s]).map aI++L2));have m4:=λx hx=>hh x (m4 x hx);have p4:=Rt p4 ex24 (.cells (((q.map (·.2.1))++[s]).map aI++L2));clear kk hh hb2;generalize(S1.sO b2 (.cells (((q.map (·.2.1))++[s]).map aI++L2)))=S2 at*;refine⟨Qe,⟨Wg (ie:=ti2) (v:=(.s (.slice a3 q.length c3))) (ns:=q.map λx=>(x.2.2:Int)) rfl rfl rfl p3 (goal:Int) Qbe λb3 n3 L3 hb3 q31 q32 q33=>?_,Tv⟩⟩;have ef3:fb≠b3:=Ne.symm (Av hb3 (by rw[p0];simp) λx hx=>(o3 x hx).1);have eb3:b≠b3:=Ne.symm (Av hb3 Qbg nb3);have ed3:b3∉ds:=λhh=>Av hb3 (pds _ hh) (λx hx e=>(o3 x hx).2.1 (e▸hh)) rfl;have ex34:je (.s (.slice a4 ds.length c4))≠some b3:=Ml hb3 m4 λx hx=>(o3 x hx).2.2;have en31:b1≠b3:=Ne.symm (Av hb3 (by rw[z1];simp) λx hx e=>ex13 (e▸hx));have en32:b2≠b3:=Ne.symm (Av hb3 (by rw[z2];simp) λx hx e=>ex23 (e▸hx));have kk:∀{y:Nat} {z:AObj},y≠b3->S2.obj y=some z->(S2.sO b3 (.cells (((q.map λx=>(x.2.2:Int))++[(goal:Int)]).map aI++L3))).obj y=some z:=λh hy=>(zj h).trans hy;have hh:∀y,S2.obj y≠none->(S2.sO b3 (.cells (((q.map λx=>(x.2.2:Int))++[(goal:Int)]).map aI++L3))).obj y≠none:=λy hy=>by
   by_cases e:y=b3
   ·rw[e,zd];simp
   ·rw[zj e];exact hy
  have p0:=kk ef3 p0;have hob:=kk eb3 hob;have pok:=λ(i:Nat) x d (h1:q[i]?=some x) (h2:ds[i]?=some d)=>kk (λ(e:d=b3)=>ed3 Qbc) (pok i x d h1 h2);have pds:=λd hd=>hh d (pds d hd);have z1:=kk en31 z1;have z2:=kk en32 z2;have z3:(S2.sO b3 (.cells (((q.map λx=>(x.2.2:Int))++[(goal:Int)]).map aI++L3))).obj b3=_:=zd _ _ _;have m4:=λx hx=>hh x (m4 x hx);have p4:=Rt p4 ex34 (.cells (((q.map λx=>(x.2.2:Int))++[(goal:Int)]).map aI++L3));clear kk hh hb3;generalize(S2.sO b3 (.cells (((q.map λx=>(x.2.2:Int))++[(goal:Int)]).map aI++L3)))=S3 at*;refine⟨Qe,⟨za _ rfl (j3 rfl (ju (v:=(.s (.slice (some ⟨b1,0,none⟩) ((q.map (·.1))++[c]).length n1))) rfl rfl rfl rfl (yu (i:=ti29) (v:=(.s (.slice (some ⟨b1,0,none⟩) ((q.map (·.1))++[c]).length n1))) (b:=fb) (o:=0) (l:=[(.s (.slice a1 q.length c1)),(.s (.slice a2 q.length c2)),(.s (.slice a3 q.length c3)),(.s (.slice a4 ds.length c4))]) (st2:=S3.sO fb (.cells [(.s (.slice (some ⟨b1,0,none⟩) ((q.map (·.1))++[c]).length n1)),(.s (.slice a2 q.length c2)),(.s (.slice a3 q.length c3)),(.s (.slice a4 ds.length c4))])) rfl rfl rfl p0 (show 1<=4 by decide) rfl ⟨Qe,⟨za _ rfl (j3 rfl (ju (v:=(.s (.slice (some ⟨b2,0,none⟩) ((q.map (·.2.1))++[s]).length n2))) rfl rfl rfl rfl (yu (i:=ti29) (v:=(.s (.slice (some ⟨b2,0,none⟩) ((q.map (·.2.1))++[s]).length n2))) (b:=fb) (o:=1) (l:=[(.s (.slice (some ⟨b1,0,none⟩) ((q.map (·.1))++[c]).length n1)),(.s (.slice a2 q.length c2)),(.s (.slice a3 q.length c3)),(.s (.slice a4 ds.length c4))]) (st2:=S3.sO fb (.cells [(.s (.slice (some ⟨b1,0,none⟩) ((q.map (·.1))++[c]).length n1)),(.s (.slice (some ⟨b2,0,none⟩) ((q.map (·.2.1))++[s]).length n2)),(.s (.slice a3 q.length c3)),(.s (.slice a4 ds.length c4))])) rfl rfl rfl (zd _ _ _) (show 2<=4 by decide) (yy _ _ _ _) ⟨Qe,⟨za _ rfl (j3 rfl (ju (v:=(.s (.slice (some ⟨b3,0,none⟩) ((q.map λx=>(x.2.2:Int))++[(goal:Int)]).length n3))) rfl rfl rfl rfl (yu (i:=ti29) (v:=(.s (.slice (some ⟨b3,0,none⟩) ((q.map λx=>(x.2.2:Int))++[(goal:Int)]).length n3))) (b:=fb) (o:=2) (l:=[(.s (.slice (some ⟨b1,0,none⟩) ((q.map (·.1))++[c]).length n1)),(.s (.slice (some ⟨b2,0,none⟩) ((q.map (·.2.1))++[s]).length n2)),(.s (.slice a3 q.length c3)),(.s (.slice a4 ds.length c4))]) (st2:=S3.sO fb (.cells [(.s (.slice (some ⟨b1,0,none⟩) ((q.map (·.1))++[c]).length n1)),(.s (.slice (some ⟨b2,0,none⟩) ((q.map (·.2.1))++[s]).length n2)),(.s (.slice (some ⟨b3,0,none⟩) ((q.map λx=>(x.2.2:Int))++[(goal:Int)]).length n3)),(.s (.slice a4 ds.length c4))])) rfl rfl rfl (zd _ _ _) (show 3<=4 by decide) (yy _ _ _ _) ⟨Qe,?_⟩))),Tv⟩⟩))),Tv⟩⟩))),Tv⟩⟩;have kk:∀{y:Nat} {z:AObj},y≠fb->S3.obj y=some z->(S3.sO fb (.cells [(.s (.slice (some ⟨b1,0,none⟩) ((q.map (·.1))++[c]).length n1)),(.s (.slice (some ⟨b2,0,none⟩) ((q.map (·.2.1))++[s]).length n2)),(.s (.slice (some ⟨b3,0,none⟩) ((q.map λx=>(x.2.2:Int))++[(goal:Int)]).length n3)),(.s (.slice a4 ds.length c4))])).obj y=some z:=λh hy=>(zj h).trans hy;have hh:∀y,S3.obj y≠none->(S3.sO fb (.cells [(.s (.slice (some ⟨b1,0,none⟩) ((q.map (·.1))++[c]).length n1)),(.s (.slice (some ⟨b2,0,none⟩) ((q.map (·.2.1))++[s]).length n2)),(.s (.slice (some ⟨b3,0,none⟩) ((q.map λx=>(x.2.2:Int))++[(goal:Int)]).length n3)),(.s (.slice a4 ds.length c4))])).obj y≠none:=λy hy=>by
   by_cases e:y=fb
   ·rw[e,zd];simp
   ·rw[zj e];exact hy
  have p0:(S3.sO fb (.cells [(.s (.slice (some ⟨b1,0,none⟩) ((q.map (·.1))++[c]).length n1)),(.s (.slice (some ⟨b2,0,none⟩) ((q.map (·.2.1))++[s]).length n2)),(.s (.slice (some ⟨b3,0,none⟩) ((q.map λx=>(x.2.2:Int))++[(goal:Int)]).length n3)),(.s (.slice a4 ds.length c4))])).obj fb=_:=zd _ _ _;have hob:=kk hbf hob;have pok:=λ(i:Nat) x d (h1:q[i]?=some x) (h2:ds[i]?=some d)=>kk (λ(e:d=fb)=>o0 Qbc) (pok i x d h1 h2);have pds:=λd hd=>hh d (pds d hd);have z1:=kk (Ne.symm ef1) z1;have z2:=kk (Ne.symm ef2) z2;have z3:=kk (Ne.symm ef3) z3;have m4:=λx hx=>hh x (m4 x hx);have p4:=Rt p4 (b:=fb) (λe=>(o4 fb e).1 rfl) (.cells [(.s (.slice (some ⟨b1,0,none⟩) ((q.map (·.1))++[c]).length n1)),(.s (.slice (some ⟨b2,0,none⟩) ((q.map (·.2.1))++[s]).length n2)),(.s (.slice (some ⟨b3,0,none⟩) ((q.map λx=>(x.2.2:Int))++[(goal:Int)]).length n3)),(.s (.slice a4 ds.length c4))]);clear kk hh;generalize(S3.sO fb (.cells [(.s (.slice (some ⟨b1,0,none⟩) ((q.map (·.1))++[c]).length n1)),(.s (.slice (some ⟨b2,0,none⟩) ((q.map (·.2.1))++[s]).length n2)),(.s (.slice (some ⟨b3,0,none⟩) ((q.map λx=>(x.2.2:Int))++[(goal:Int)]).length n3)),(.s (.slice a4 ds.length c4))]))=S4 at*;refine Qbs ?_;refine⟨ψ,Ni (f:=dirC w.G.T.length) (ie:=ti29) (v:=(.s (.slice a4 ds.length c4))) (l:=ds) rfl (λ_=>rfl) ψ p4 b rfl θ λb4 n4 L4 hb4 q41 q42 q43=>?_⟩;have ef4:fb≠b4:=Ne.symm (Av hb4 (by rw[p0];simp) λx hx=>(o4 x hx).1);have eb4:b≠b4:=Ne.symm (Av hb4 Qbg nb4);have ed4:b4∉ds:=λhh=>Av hb4 (pds _ hh) (λx hx e=>(o4 x hx).2 (e▸hh)) rfl;have en41:b1≠b4:=Ne.symm (Av hb4 (by rw[z1];simp) λx hx e=>ex14 (e▸hx));have en42:b2≠b4:=Ne.symm (Av hb4 (by rw[z2];simp) λx hx e=>ex24 (e▸hx));have en43:b3≠b4:=Ne.symm (Av hb4 (by rw[z3];simp) λx hx e=>ex34 (e▸hx));refine yu (i:=ti222) (v:=.s (.slice (some ⟨b4,0,none⟩) (ds++[b]).length n4)) (b:=fb) (o:=3) (l:=[(.s (.slice (some ⟨b1,0,none⟩) ((q.map (·.1))++[c]).length n1)),(.s (.slice (some ⟨b2,0,none⟩) ((q.map (·.2.1))++[s]).length n2)),(.s (.slice (some ⟨b3,0,none⟩) ((q.map λx=>(x.2.2:Int))++[(goal:Int)]).length n3)),(.s (.slice a4 ds.length c4))]) (st2:=((S4.sO b4 (.cells ((rws (dirC w.G.T.length) (ds++[b])).flatten++L4))).sO fb (.cells [(.s (.slice (some ⟨b1,0,none⟩) ((q.map (·.1))++[c]).length n1)),(.s (.slice (some ⟨b2,0,none⟩) ((q.map (·.2.1))++[s]).length n2)),(.s (.slice (some ⟨b3,0,none⟩) ((q.map λx=>(x.2.2:Int))++[(goal:Int)]).length n3)),(.s (.slice (some ⟨b4,0,none⟩) (ds++[b]).length n4))]))) rfl rfl rfl ((zj ef4).trans p0) (show 4<=4 by decide) rfl ?_;have kk:∀{x:Nat} {y:AObj},x≠fb->x≠b4->S4.obj x=some y->((S4.sO b4 (.cells ((rws (dirC w.G.T.length) (ds++[b])).flatten++L4))).sO fb (.cells [(.s (.slice (some ⟨b1,0,none⟩) ((q.map (·.1))++[c]).length n1)),(.s (.slice (some ⟨b2,0,none⟩) ((q.map (·.2.1))++[s]).length n2)),(.s (.slice (some ⟨b3,0,none⟩) ((q.map λx=>(x.2.2:Int))++[(goal:Int)]).length n3)),(.s (.slice (some ⟨b4,0,none⟩) (ds++[b]).length n4))])).obj x=some y:=λh1 h2 hy=>(zj h1).trans ((zj h2).trans hy);have y0:((S4.sO b4 (.cells ((rws (dirC w.G.T.length) (ds++[b])).flatten++L4))).sO fb (.cells [(.s (.slice (some ⟨b1,0,none⟩) ((q.map (·.1))++[c]).length n1)),(.s (.slice (some ⟨b2,0,none⟩) ((q.map (·.2.1))++[s]).length n2)),(.s (.slice (some ⟨b3,0,none⟩) ((q.map λx=>(x.2.2:Int))++[(goal:Int)]).length n3)),(.s (.slice (some ⟨b4,0,none⟩) (ds++[b]).length n4))])).obj fb=_:=zd _ _ _;have y1:=kk (Ne.symm ef1) en41 z1;have y2:=kk (Ne.symm ef2) en42 z2;have y3:=kk (Ne.symm ef3) en43 z3;have y4:((S4.sO b4 (.cells ((rws (dirC w.G.T.length) (ds++[b])).flatten++L4))).sO fb (.cells [(.s (.slice (some ⟨b1,0,none⟩) ((q.map (·.1))++[c]).length n1)),(.s (.slice (some ⟨b2,0,none⟩) ((q.map (·.2.1))++[s]).length n2)),(.s (.slice (some ⟨b3,0,none⟩) ((q.map λx=>(x.2.2:Int))++[(goal:Int)]).length n3)),(.s (.slice (some ⟨b4,0,none⟩) (ds++[b]).length n4))])).obj b4=_:=(zj (Ne.symm ef4)).trans (zd _ _ _);have yb:=kk hbf eb4 hob;have yok:=λ(i:Nat) x d (h1:q[i]?=some x) (h2:ds[i]?=some d)=>kk (λ(e:d=fb)=>o0 Qbc) (λ(e:d=b4)=>ed4 Qbc) (pok i x d h1 h2)
  generalize((S4.sO b4 (.cells ((rws (dirC w.G.T.length) (ds++[b])).flatten++L4))).sO fb (.cells [(.s (.slice (some ⟨b1,0,none⟩) ((q.map (·.1))++[c]).length n1)),(.s (.slice (some ⟨b2,0,none⟩) ((q.map (·.2.1))++[s]).length n2)),(.s (.slice (some ⟨b3,0,none⟩) ((q.map λx=>(x.2.2:Int))++[(goal:Int)]).length n3)),(.s (.slice (some ⟨b4,0,none⟩) (ds++[b]).length n4))]))=S6 at*;have hm1:(q++[(c,s,goal)]).map (·.1)=q.map (·.1)++[c]:=φ;have hm2:(q++[(c,s,goal)]).map (·.2.1)=q.map (·.2.1)++[s]:=φ;have hm3:((q++[(c,s,goal)]).map λx=>(x.2.2:Int))=(q.map λx=>(x.2.2:Int))++[(goal:Int)]:=φ;have hnd:∀{x:Nat},x∉ds->x≠b->x∉ds++[b]:=λ{x} h1 h2 hh=>by
   rcases Fat.1 hh with hh|hh
   ·exact h1 hh
   ·exact h2 (Fc3.1 hh)
  have hsb:∀{x y n c:Nat},x≠y->je (.s (.slice (some ⟨x,0,none⟩) n c))≠some y:=λ{x y n c} h e=>h (Option.some.inj e);refine ret (h b S6 ⟨_,_,_,_,q++[(c,s,goal)],ds++[b],⟨y0,?_,?_,?_,?_,?_,?_,?_,?_,?_,?_,?_⟩,?_⟩ yb)
  ·rw[hm1];exact .inr ⟨b1,n1,L1,rfl,y1,q11,q12,q13⟩
  ·rw[hm2];exact .inr ⟨b2,n2,L2,rfl,y2,q21,q22,q23⟩
  ·rw[hm3];exact .inr ⟨b3,n3,L3,rfl,y3,q31,q32,q33⟩
  ·exact .inr ⟨b4,n4,L4,rfl,y4,q41,q42,q43⟩
  ·rw[Fae,Fae,hlen];rfl
  ·intro j x d h1 h2;rcases Nat.lt_or_ge j q.length with hj|hj
   ·rw[Fap hj]at h1;rw[Fap θ]at h2;exact yok j x d h1 h2
   ·rw[Fa2 hj]at h1;rw[Fa2 θ]at h2;have hj0:j-q.length=0:=by
     have:=(Fax.1 h1).1;simp at this;omega
    rw[hj0]at h1;rw[show j-ds.length=0 by omega]at h2;cases h1;cases h2;exact yb
  ·exact hnd o0 (Ne.symm hbf)
  ·intro x hx;cases hx;exact⟨Ne.symm ef1,hnd ed1 (Ne.symm eb1),hsb (Ne.symm en21),hsb (Ne.symm en31),hsb (Ne.symm en41)⟩
  ·intro x hx;cases hx;exact⟨Ne.symm ef2,hnd ed2 (Ne.symm eb2),hsb (Ne.symm en32),hsb (Ne.symm en42)⟩
  ·intro x hx;cases hx;exact⟨Ne.symm ef3,hnd ed3 (Ne.symm eb3),hsb (Ne.symm en43)⟩
  ·intro x hx;cases hx;exact⟨Ne.symm ef4,hnd ed4 (Ne.symm eb4)⟩
  ·rw[Fae,Fao];omega
end
section
variable {fb i:Nat} {E:Store}
def Qbh{p:Prop}(h:p:=by repeat(first|exact Tv|refine⟨rfl,?_⟩|refine⟨zoo hob (yq (i:=ti33) (row:=zu w.U[i].pos) rfl rfl hpd rfl),?_⟩|refine⟨zoo hob (za _ hnx rfl),?_⟩)):p:=h
def Qbi{p:Prop}(h:p:=by repeat(first|exact Tv|refine⟨rfl,?_⟩|refine⟨zoo hoS (yq (i:=ti33) (row:=zu w.U[i].pos) rfl rfl (Ib hi) rfl),?_⟩)):p:=h
def Qbj{p:Prop}(h:p:=by rw[Faf];simp only[List.length_nil];omega):p:=h
def FlowK.mono{k k':Nat}{g:Gnd}{l:List Bld}(h:FlowK fb g l k E)(hk:k<=k'):FlowK fb g l k' E:=by obtain⟨v1,v2,v3,v4,q,ds,h1,h2⟩:=h;exact⟨v1,v2,v3,v4,q,ds,h1,Fcx h2 hk⟩
def rk{A:Store}{w:Wld}{v:AV}(hv:RowsQ 10 zf A v w.U)(hdE:zk A E)(hw:playW w)(hi:i<w.U.length)(h0:w.U[i].inn=0)(d:Vc)(hd:d.ok)(R:Ja)
  (h:∀v2 (N:Store),RowsQ 10 zf (N.un A) v2 (xk w w.U[i] d).U->zk (N.un A) E->R (.tup [.agg (zz (xk w w.U[i] d) v2),int (Am w w.U[i] d)]) ((N.un A).un E)):
  Jb 21 [.agg (zz w v),int w.U[i].id,.agg (zu d)] (A.un E) R:=by
 refine ACalls.frame hdE (yap hv hw hi h0 d hd (λr S=>∃v2,∃N:Store,RowsQ 10 zf (N.un A) v2 (xk w w.U[i] d).U/\r=.tup [.agg (zz (xk w w.U[i] d) v2),int (Am w w.U[i] d)]/\S=N.un A) λv2 N h1 h2=>⟨v2,N,h1,rfl,rfl⟩) ?_;rintro r a' ⟨v2,N,h1,rfl,rfl⟩ hd2;exact h v2 N h1 hd2
def yah{k0:Nat}(w:Wld)(hE0:FlowK fb w.G w.B k0 E)(hk0:k0<=1000000000)(hw:playW w)(hi:i<w.U.length)(h0:w.U[i].inn=0)(R:Ja)
  (h:∀A v E',RowsQ 10 zf A v (vf w w.U[i]).U->zk A E'->FlowK fb w.G w.B (k0+1) E'->R (.agg (zz (vf w w.U[i]) v)) (A.un E')):
  Jb 120 [.agg (zp w),int w.U[i].id,ptr fb] E R:=by
 have f:=xh hw.1;have hU:=f.hU;have hkk:=f.hk _ (Faa hi);have hE1:FlowK fb w.G w.B (k0+1) E:=hE0.mono (Fdb k0);refine Qb (c:=cfg 225) zb Tryz.func120 (AWp.seq (AWp.of_vc zb ?_));refine AWp.seq (AWp.of_vc zb (I2 w f.fits θ _ _ λv N hv hd=>?_));rcases hv with⟨_,e⟩|⟨b,cap,L,rfl,ho,g1,g2,g3⟩
 ·rw[e]at hi;exact absurd hi (Fau i)
 have hvQ:RowsQ 10 zf (N.un E) (.s (.slice (some ⟨b,0,none⟩) w.U.length cap)) w.U:=RowsO.q ((show RowsO 10 zf N _ w.U from .inr ⟨b,cap,L,rfl,ho,g1,g2,g3⟩).unL hd);have hoS:(N.un E).obj b=_:=yg hd ho;have hvN:RowsQ 10 zf N (.s (.slice (some ⟨b,0,none⟩) w.U.length cap)) w.U:=RowsO.q (.inr ⟨b,cap,L,rfl,ho,g1,g2,g3⟩);have hEb:¬E.has b:=hd b (xf ho);refine AWp.seq (AWp.of_vc zb (sc hvQ hw hi w.U[i].id rfl _ (AWp.seq (AWp.of_vc zb ⟨i,rfl,hi,?_⟩))));have hdr:=xt (L:=L) yn hi;refine AWp.seq (AWp.of_vc zb (zoo hoS (za _ (Cs hi (j:=2) ψ rfl) (Cn w.U[i].kind hkk _ _ (AWp.seq (AWp.of_vc zb (zoo hoS (za _ (Cs hi (j:=5) ψ rfl) ?_))))))));unfold vf at h;refine zt (λc1=>?_) λc1=>?_
 ·rw[if_pos c1]at h;have hsp:=L9 w.U[i].kind;have e4:(xa w.U[i].kind).tdiv 4=xa w.U[i].kind/4:=Faz θ;have hq4:ym ((xa w.U[i].kind).tdiv 4):=⟨θ,θ⟩
  have ht:wo (Be w w.U[i]):=zbb (Gj hw.1 (Faa hi) h0) (λx hx h1=>Gj hw.1 hx h1) hU;have hcl:=λst2 R2=>Oi (Be w w.U[i]) ((xa w.U[i].kind).tdiv 4) ht θ st2 R2;refine Qc zb zzb ⟨ψ,ze hq4 ⟨sn hvQ hw hi h0 _ ⟨Qe,?_⟩,⟨⟨Qe,⟨sn hvQ hw hi h0 _ ⟨Qe,?_⟩,Tv⟩⟩,Tv⟩⟩⟩;refine⟨hcl _ _ ⟨Qe,⟨⟨Qe,⟨⟨Qe,?_⟩,Tv⟩⟩,Tv⟩⟩,⟨⟨Qe,⟨hcl _ _ ⟨Qe,⟨⟨Qe,?_⟩,Tv⟩⟩,Tv⟩⟩,Tv⟩⟩;rotate_left 2;refine⟨hcl _ _ ⟨Qe,⟨⟨Qe,?_⟩,Tv⟩⟩,Tv⟩
  all_goals
   have hidle:Fp w w.U[i]=xk w w.U[i] (xy (Be w w.U[i]) ((xa w.U[i].kind).tdiv 4)):=rfl;have hvo:=Ki (m:=(xa w.U[i].kind).tdiv 4) ht;rw[hidle]at h;clear hidle hcl;generalize xy (Be w w.U[i]) ((xa w.U[i].kind).tdiv 4)=dv at*;obtain⟨dx,dy⟩:=dv;have hTry:=λR2 h2=>rk hvN hd hw hi h0 (dx,dy) hvo R2 h2;refine zt (λc2=>?_) λc2=>?_;refine zt (λc3=>?_) λc3=>?_
   ·have e2:dx=0:=c2;have e3:dy=0:=c3;subst e2 e3;rw[(zgp w w.U[i]).2]at h;exact ret (h N _ E hvN hd hE1)
   all_goals
    refine hTry _ λv2 N2 hv2 hd2=>?_;have hv3:=hv2;obtain⟨oa2,cp2,rfl,_⟩:=hv3.form;exact ret (h (N2.un N) _ E hv2 hd2 hE1)
 rw[if_neg c1]at h;have hut:=P0 hw.1 hi;obtain⟨goal,hgq,hgl⟩:∃k:Nat,w.U[i].goal=k/\k<w.G.T.length:=by
  rcases Lx f.hg hut.2.1.1 with h1|h1
  ·exact absurd h1 c1
  ·exact h1
 have hgoes:Cb w w.U[i]=if w.U[i].pos=yf w.G goal then yk w (j4 2 w.U[i])else if Aw w w.U[i] (vm w.G w.U[i].pos)then(if Ae w w.U[i] (vm w.G w.U[i].pos)<0 then yk w (j4 3 w.U[i])else Ab w {w.U[i]with next:=Ae w w.U[i] (vm w.G w.U[i].pos)})else Ab w w.U[i]:=by
  have e:w.U[i].goal.toNat=goal:=by rw[hgq,Fa0]
  unfold Cb;rw[e]
 rw[hgoes]at h;have hset:∀(S:Store) (u':Unt),S.obj b=some (.cells ((rws zf (w.U.set i u')).flatten++L))->RowsQ 10 zf S (.s (.slice (some ⟨b,0,none⟩) w.U.length cap)) (w.U.set i u'):=λS u' hS=>RowsO.q (.inr ⟨b,cap,L,by rw[Faf],hS,by rw[Faf];exact g1,by rw[Faf];exact g2,g3⟩);refine AWp.seq (AWp.of_vc zb (AWp.seq (AWp.of_vc zb (Qc zb zzh (zoo hoS (yq (i:=ti33) (row:=zu w.U[i].pos) rfl rfl (Ib hi) (zoo hoS (za _ (Cs hi (j:=5) ψ rfl) ⟨I6 w.G f.hg goal hgl w.U[i].goal hgq _ _ ⟨Qbi,zh (λc2=>?_) λc2=>?_⟩,Tv⟩))))))))
 ·have e:w.U[i].pos=yf w.G goal:=by
   simp only[Fay,beq_iff_eq]at c2;exact Prod.ext c2.1 c2.2.1
  rw[if_pos e,Bl hw.1.1.2.1 hi (u:=j4 2 w.U[i]) rfl]at h;refine cz hoS hi 2 _ ?_;rw[Al hEb];exact ret (h _ _ E (hset _ _ (zd _ _ _)) (Bq hd hEb) hE1)
 have e:¬w.U[i].pos=yf w.G goal:=λe=>by
  simp only[e,Fc4,beq_eq_false_iff_ne]at c2;rcases c2 with c2|c2|c2
  ·exact c2 rfl
  ·exact c2 rfl
  ·cases c2
 rw[if_neg e]at h;have hon:=dw hw.1 hi h0;have hown:=Sa hw.1 hi h0;refine AWp.seq (AWp.of_vc zb (Qc zb zzg (zoo hoS (yq (i:=ti33) (row:=zu w.U[i].pos) rfl rfl (Ib hi) ⟨ycw w.G f.hg w.U[i].pos hon _ _ ⟨Qbi,Qbr ?_⟩,Tv⟩))));generalize vm w.G w.U[i].pos=own at*
 refine AWp.meetA (σ:=Nat) ⟨λ_=>[(1,.av (int w.U[i].id)),(3,.bx 3 0),(6,.bx 6 0),(7,.av (int (i:Nat))),(8,.av (.s (.pointer (some ⟨b,0+i*10,none⟩)))),(9,.bx 9 0),(13,.bx 13 0)],λ_=>[(3,zz w (.s (.slice (some ⟨b,0,none⟩) w.U.length cap))),(6,Cx),(9,C7 w.U[i].kind),(13,zq w.G)],
  λt st'=>(∃A E',st'=A.un E'/\zk A E'/\FlowK fb w.G w.B (k0+1) E'/\A.obj b=some (.cells ((rws zf (w.U.set i {w.U[i]with next:=(t:Int)})).flatten++L)))/\t<w.G.T.length/\Cb w w.U[i]=Ab w {w.U[i]with next:=(t:Int)}⟩ ?_ ?_
 ·refine AWp.meet (σ:=Unit) ⟨λ_=>[(1,.av (int w.U[i].id)),(2,.av (ptr fb)),(3,.bx 3 0),(6,.bx 6 0),(7,.av (int (i:Nat))),(8,.av (.s (.pointer (some ⟨b,0+i*10,none⟩)))),(9,.bx 9 0),(13,.bx 13 0),(14,.av (int (own:Nat))),(137,.av (V.bool (Aw w w.U[i] own)))],λ_=>[(3,zz w (.s (.slice (some ⟨b,0,none⟩) w.U.length cap))),(6,Cx),(9,C7 w.U[i].kind),(13,zq w.G)],
   λ_ st'=>st'=N.un E⟩ zb ?_ ?_
  ·refine Qc zb zzf (zoo hoS (za _ (Cs hi (j:=6) ψ rfl) (zt (λd1=>?_) λd1=>?_)))
   ·have hlk:Aw w w.U[i] own=true:=by
     have d1:w.U[i].next=-1:=d1;unfold Aw;rw[d1];rfl
    rw[hlk];exact⟨⟨⟨rfl,Tv⟩,⟨⟨⟨rfl,Tv⟩,⟨⟨⟨rfl,Tv⟩,Qbr ⟨(),rfl,Qbn,⟨rfl,rfl,rfl,rfl,Tv⟩⟩⟩,Tv⟩⟩,Tv⟩⟩,Tv⟩
   have d1:¬w.U[i].next=-1:=d1;obtain⟨nx,hnq,hnl⟩:∃k:Nat,w.U[i].next=k/\k<w.G.T.length:=by
    rcases Lx f.hg hut.2.1.2.1 with h1|h1
    ·exact absurd h1 d1
    ·exact h1
   have hlk:Aw w w.U[i] own=(decide (w.U[i].pos=yf w.G nx)|| !okU w w.U[i] nx||(decide (w.U[i].next≠own)&& !(jz w.G own).contains w.U[i].next)):=by unfold Aw;rw[decide_eq_false d1,show w.U[i].next.toNat=nx by rw[hnq,Fa0]];rfl
   refine zoo hoS (yq (i:=ti33) (row:=zu w.U[i].pos) rfl rfl (Ib hi) (zoo hoS (za _ (Cs hi (j:=6) ψ rfl) ⟨I6 w.G f.hg nx hnl w.U[i].next hnq _ _ ⟨⟨zoo hoS (yq (i:=ti33) (row:=zu w.U[i].pos) rfl rfl (Ib hi) rfl),Tv⟩,zh (λd2=>?_) λd2=>?_⟩,Tv⟩)))
   ·have e2:w.U[i].pos=yf w.G nx:=by
     simp only[Fay,beq_iff_eq]at d2;exact Prod.ext d2.1 d2.2.1
    rw[hlk,decide_eq_true e2,Bool.true_or,Bool.true_or];exact⟨⟨⟨rfl,Tv⟩,⟨⟨⟨rfl,Tv⟩,Qbr ⟨(),rfl,Qbn,⟨rfl,rfl,rfl,rfl,Tv⟩⟩⟩,Tv⟩⟩,Tv⟩
   have e2:¬w.U[i].pos=yf w.G nx:=λe=>by
    simp only[e,Fc4,beq_eq_false_iff_ne]at d2;rcases d2 with d2|d2|d2
    ·exact d2 rfl
    ·exact d2 rfl
    ·cases d2
   rw[decide_eq_false e2,Fdr]at hlk;refine zoo hoS (za _ (Cs hi (j:=6) ψ rfl) ?_);have hgl:nx<(blL w.G.T.length (zo w.G w.B (yl w.U[i].kind) (qm w.U[i].kind))).length:=by rw[xx];exact hnl
   refine⟨cr w.G f.hg w.B (by have:=f.hB;omega) f.hb (yl w.U[i].kind) (Gk _) (qm w.U[i].kind) (Im _).1 _ _ ⟨⟨zoo hoS (za _ (Cs hi (j:=6) ψ rfl) rfl),Tv⟩,⟨nx,hnq,za _ (zn hgl) ?_⟩⟩,Tv⟩;rw[Br hnl];refine ye (zh (λd3=>?_) λd3=>?_);rotate_left
   ·have e3:okU w w.U[i] nx=false:=d3;rw[hlk,e3];exact⟨⟨⟨rfl,Tv⟩,Qbr ⟨(),rfl,Qbn,⟨rfl,rfl,rfl,rfl,Tv⟩⟩⟩,Tv⟩
   have e3:okU w w.U[i] nx=true:=d3;rw[e3]at hlk;refine zoo hoS (za _ (Cs hi (j:=6) ψ rfl) (qd (λd4=>?_) λd4=>?_));rotate_left
   ·have e4:Aw w w.U[i] own=false:=by
     have d4:w.U[i].next=own:=d4;rw[hlk,decide_eq_false (by rw[d4];exact λh=>h rfl)];rfl
    rw[e4];exact⟨⟨⟨rfl,Tv⟩,Qbr ⟨(),rfl,Qbn,⟨rfl,rfl,rfl,rfl,Tv⟩⟩⟩,Tv⟩
   have d4:w.U[i].next≠own:=d4;rw[decide_eq_true d4,Bool.not_true,Fdr,Fel]at hlk;refine zoo hoS (za _ (Cs hi (j:=6) ψ rfl) ⟨Oe w.G f.hg own hown _ _ ⟨⟨zoo hoS (za _ (Cs hi (j:=6) ψ rfl) rfl),Tv⟩,⟨yby (jz w.G own) (by rw[K1];decide) w.U[i].next _ _ λz hz=>⟨Tv,?_⟩,Tv⟩⟩,Tv⟩);have e5:Aw w w.U[i] own=decide (z<0):=by
    rw[hlk];cases hc:(jz w.G own).contains w.U[i].next with
    |true=>rw[decide_eq_false (λh=>by have:=hz.1 h;rw[hc]at this;cases this)];rfl
    |false=>rw[decide_eq_true (hz.2 hc)];rfl
   rw[e5];exact⟨(),rfl,Qbn,⟨rfl,rfl,rfl,rfl,Tv⟩⟩
  ·rintro _ st' rfl;have e1:=F8 (L:=L) hi (j:=6) ψ (y:=int (own:Nat)) (u':={w.U[i]with next:=(own:Int)}) rfl;have hi1:i<(w.U.set i {w.U[i]with next:=(own:Int)}).length:=by rw[Faf];exact hi
   have hg1:(w.U.set i {w.U[i]with next:=(own:Int)})[i]={w.U[i]with next:=(own:Int)}:=Fbm ..;refine AWp.cond (Aw w w.U[i] own) rfl (zh (λl1=>?_) λl1=>?_);rotate_left
   ·refine AWp.of_vc zb ?_;have hn1:w.U[i].next≠-1:=λh1=>by
     have:Aw w w.U[i] own=true:=by unfold Aw;rw[h1];rfl
     rw[this]at l1;cases l1
    obtain⟨nx,hnq,hnl⟩:∃k:Nat,w.U[i].next=k/\k<w.G.T.length:=by
     rcases Lx f.hg hut.2.1.2.1 with h1|h1
     ·exact absurd h1 hn1
     ·exact h1
    have hself:({w.U[i]with next:=(nx:Int)}:Unt)=w.U[i]:=by rw[<-hnq]
    refine⟨nx,⟨?_,hnl,?_⟩,Qbn,⟨rfl,rfl,rfl,rfl,Tv⟩⟩
    ·exact⟨N,E,rfl,hd,hE1,by rw[hself,List.set_getElem_self];exact ho⟩
    ·rw[hself,hgoes,if_neg e,if_neg (by rw[l1];decide)]
   rw[if_neg e,if_pos l1]at hgoes;rw[if_pos l1]at h;refine AWp.seq (AWp.of_vc zb (yu (i:=ti2) (v:=int (own:Nat)) (b:=b) (o:=0+i*10+6) (l:=(rws zf w.U).flatten++L) (st2:=(N.sO b (.cells ((rws zf (w.U.set i {w.U[i]with next:=(own:Int)})).flatten++L))).un E) rfl rfl rfl hoS (G7 hi ψ) (by rw[e1,Al hEb]) ?_));have hoA:=zd N b (.cells ((rws zf (w.U.set i {w.U[i]with next:=(own:Int)})).flatten++L));have hdA:zk (N.sO b (.cells ((rws zf (w.U.set i {w.U[i]with next:=(own:Int)})).flatten++L))) E:=Bq hd hEb;generalize N.sO b (.cells ((rws zf (w.U.set i {w.U[i]with next:=(own:Int)})).flatten++L))=A1 at*;have hoS1:(A1.un E).obj b=_:=yg hdA hoA;obtain⟨S1,hS1⟩:∃S1,A1.un E=S1:=⟨_,rfl⟩
   rw[hS1]at hoS1⊢;have hpd:=Ib (J:=L) hi1;rw[hg1]at hpd;refine AWp.seq (AWp.of_vc zb (Qc zb zze (Qbs (yq (i:=ti33) (row:=zu w.U[i].pos) rfl rfl hpd ?_))));refine⟨I6 w.G f.hg own hown _ rfl _ _ ⟨⟨zoo hoS1 (yq (i:=ti33) (row:=zu w.U[i].pos) rfl rfl hpd rfl),Tv⟩,AWp.cond _ rfl (zh (λl2=>?_) λl2=>?_)⟩,Tv⟩;rotate_left
   ·refine AWp.of_vc zb ?_;have e6:w.U[i].pos≠yf w.G own:=λe=>by
     simp only[e,Fc4,beq_eq_false_iff_ne]at l2;rcases l2 with l2|l2|l2
     ·exact l2 rfl
     ·exact l2 rfl
     ·cases l2
    have hnt:Ae w w.U[i] own=own:=by unfold Ae;rw[if_pos e6]
    rw[hnt,if_neg θ]at hgoes;exact⟨own,⟨⟨A1,E,hS1.symm,hdA,hE1,hoA⟩,hown,hgoes⟩,Qbn,⟨rfl,rfl,rfl,rfl,Tv⟩⟩
   have e6:¬w.U[i].pos≠yf w.G own:=λh=>h (by simp only[Fay,beq_iff_eq]at l2;exact Prod.ext l2.1 l2.2.1);have hnt:Ae w w.U[i] own=if xc w.G (zo w.G w.B (yl w.U[i].kind) (qm w.U[i].kind)) (yl w.U[i].kind) (xu w.G (zo w.G w.B (yl w.U[i].kind) (qm w.U[i].kind)) (yl w.U[i].kind) goal) own<0 then -1 else yj w.G own (xc w.G (zo w.G w.B (yl w.U[i].kind) (qm w.U[i].kind)) (yl w.U[i].kind) (xu w.G (zo w.G w.B (yl w.U[i].kind) (qm w.U[i].kind)) (yl w.U[i].kind) goal) own).toNat:=by unfold Ae;rw[if_neg e6,show w.U[i].goal.toNat=goal by rw[hgq,Fa0]];rfl
   rw[hnt]at hgoes h;refine AWp.seq (AWp.of_vc zb (Qc zb zzd (Qbs (za (x:=int (goal:Nat)) (by have:=Cs (J:=L) hi1 (j:=5) ψ (y:=int (goal:Nat)) (by rw[hg1];exact congrArg (λx=>some (int x)) hgq);exact this) ?_))))
   have hcall:∀R',(∀b2 E2,zk A1 E2->FlowK fb w.G w.B (k0+1) E2->E2.obj b2=some (.cells (wayL w.G w.B (yl w.U[i].kind) (qm w.U[i].kind) goal))->R' (.s (.slice (some ⟨b2,0,none⟩) w.G.T.length w.G.T.length)) (A1.un E2))->
     Jb 188 [ptr fb,.agg (zz w (.s (.slice (some ⟨b,0,none⟩) w.U.length cap))),int (yl w.U[i].kind),int (qm w.U[i].kind),int (goal:Nat)] S1 R':=λR' hR'=>by
    rw[<-hS1,un_comm hdA];refine ACalls.frame (Dc hdA) (yjw hw.1 _ _ _ hE0 hk0 (Gk _) (Im _).1 goal hgl (λr S=>∃b2,r=.s (.slice (some ⟨b2,0,none⟩) w.G.T.length w.G.T.length)/\FlowK fb w.G w.B (k0+1) S/\S.obj b2=some (.cells (wayL w.G w.B (yl w.U[i].kind) (qm w.U[i].kind) goal))) λb2 S2 h1 h2=>⟨b2,rfl,h1,h2⟩) ?_;rintro r a' ⟨b2,rfl,h1,h2⟩ hd2;rw[un_comm hd2];exact hR' b2 _ (Dc hd2) h1 h2
   have hway:=l8 w.G (zo w.G w.B (yl w.U[i].kind) (qm w.U[i].kind)) (yl w.U[i].kind) (xu w.G (zo w.G w.B (yl w.U[i].kind) (qm w.U[i].kind)) (yl w.U[i].kind) goal) own;have hhd:=k9 (f:=xc w.G (zo w.G w.B (yl w.U[i].kind) (qm w.U[i].kind)) (yl w.U[i].kind) (xu w.G (zo w.G w.B (yl w.U[i].kind) (qm w.U[i].kind)) (yl w.U[i].kind) goal)) hown;refine⟨hcall _ λb2 E2 hdE hK2 h2=>⟨Tv,?_⟩,Tv⟩;have hb2:(A1.un E2).obj b=_:=yg hdE hoA;have hE2b:¬E2.has b:=hdE b (xf hoA);refine⟨own,rfl,hown,zoo (zg h2) (za _ hhd ?_)⟩;clear hcall h2 hhd;generalize xc w.G (zo w.G w.B (yl w.U[i].kind) (qm w.U[i].kind)) (yl w.U[i].kind) (xu w.G (zo w.G w.B (yl w.U[i].kind) (qm w.U[i].kind)) (yl w.U[i].kind) goal) own=way at*;refine Qbr (AWp.of_vc zb (bcd (λc5=>?_) λc5=>?_))
   ·rw[if_pos c5,if_pos ψ,Bl hw.1.1.2.1 hi (u:=j4 3 w.U[i]) rfl]at h;refine cz hb2 hi1 3 _ ?_;rw[Al hE2b];have hset1:=hset (A1.sO b (.cells ((rws zf ((w.U.set i {w.U[i]with next:=(own:Int)}).set i (j4 3 (w.U.set i {w.U[i]with next:=(own:Int)})[i]))).flatten++L))) (j4 3 w.U[i]) (by
     rw[zd,hg1,Fbr];rfl)
    exact ret (h _ _ E2 hset1 (Bq hdE hE2b) hK2)
   obtain⟨j,hj,rfl,hst⟩:∃j:Nat,j<8/\way=(j:Int)/\0<qj w.G (zo w.G w.B (yl w.U[i].kind) (qm w.U[i].kind)) (yl w.U[i].kind) own j:=by
    rcases hway with h1|⟨j,h1,h2,h3⟩
    ·omega
    ·exact⟨j,h1,h2,h3⟩
   rw[if_neg c5,Fa0]at hgoes;obtain⟨t,htq,htl⟩:∃t:Nat,yj w.G own j=(t:Int)/\t<w.G.T.length:=by
    rcases I9 f.hg own hj with h1|h1
    ·rw[Nv (Ix h1)]at hst;omega
    ·exact h1
   have e7:=F8 (L:=L) hi1 (j:=6) ψ (y:=int (t:Nat)) (u':={w.U[i]with next:=(t:Int)}) (by rw[hg1];rfl);rw[Fbr]at e7;refine Oe w.G f.hg own hown _ _ ⟨j,rfl,za _ (Ow hj) ?_⟩;rw[htq]at hgoes⊢;refine yu (i:=ti2) (v:=int (t:Nat)) (b:=b) (o:=0+i*10+6) (l:=(rws zf (w.U.set i {w.U[i]with next:=(own:Int)})).flatten++L) (st2:=(A1.sO b (.cells ((rws zf (w.U.set i {w.U[i]with next:=(t:Int)})).flatten++L))).un E2) rfl rfl rfl hb2 (G7 hi1 ψ) (by rw[e7,Al hE2b]) ?_;rw[if_neg θ]at hgoes;exact⟨t,⟨⟨_,E2,rfl,Bq hdE hE2b,hK2,zd _ _ _⟩,htl,hgoes⟩,⟨Tq,Tq,Tq,Tq,Tq,Tq,Tq,Tv⟩,⟨rfl,rfl,rfl,rfl,Tv⟩⟩
 clear hE1 hvN hEb hd hoS hvQ;rintro t st' ⟨⟨A,E',rfl,hdA,hK',hobA⟩,htl,hgo⟩;have hob:(A.un E').obj b=_:=yg hdA hobA;rw[hgoes,if_neg e]at hgo;rw[hgo]at h;clear hgo hgoes hset;have e0:=F8 (L:=L) hi (j:=6) ψ (y:=int (t:Nat)) (u':={w.U[i]with next:=(t:Int)}) rfl;have hi1:i<(w.U.set i {w.U[i]with next:=(t:Int)}).length:=θh;have hg1:(w.U.set i {w.U[i]with next:=(t:Int)})[i]={w.U[i]with next:=(t:Int)}:=Fbm ..;have hpd:=Ib (J:=L) hi1;rw[hg1]at hpd;have hnx:(((rws zf (w.U.set i {w.U[i]with next:=(t:Int)})).flatten++L).drop (0+i*10+6)).head?=some (int (t:Nat)):=Cs hi1 ψ (by rw[hg1];rfl);have hmp:=Gj hw.1 (Faa hi) h0;have hcm:=i6 f.hg htl;have hks:=L9 w.U[i].kind;have hway:=Kg hmp hcm;have hmay1:ya {w with U:=w.U.set i {w.U[i]with next:=(t:Int)}}:=by rw[<-Bl hw.1.1.2.1 hi (u:={w.U[i]with next:=(t:Int)}) rfl];exact O0 hw.1 hi h0 rfl (Nl hut c1 (Rd f.hg htl) hut.2.1.2.2)
 have hplay:playW {w with U:=w.U.set i {w.U[i]with next:=(t:Int)}}:=⟨hmay1,λx hx=>by
  rcases List.mem_or_eq_of_mem_set hx with h1|h1
  ·exact hw.2 x h1
  ·subst h1;show w.U[i].pos.ok;exact hw.2 _ (Faa hi)⟩
 have hvS:RowsQ 10 zf A (.s (.slice (some ⟨b,0,none⟩) w.U.length cap)) (w.U.set i {w.U[i]with next:=(t:Int)}):=RowsO.q (.inr ⟨b,cap,L,by rw[Faf],hobA,by rw[Faf];exact g1,by rw[Faf];exact g2,g3⟩);have htry:=λR'=>rk (w:={w with U:=w.U.set i {w.U[i]with next:=(t:Int)}}) hvS hdA hplay hi1 (by show(w.U.set i {w.U[i]with next:=(t:Int)})[i].inn=0;rw[hg1];exact h0) (Bi w.U[i].pos (yf w.G t) (xa w.U[i].kind)) (Ki hway) R';have hput:=Bl hw.1.1.2.1 hi (u:={w.U[i]with next:=(t:Int)}) rfl;have htp:=zgq (w:=w) (u:={w.U[i]with next:=(t:Int)}) (d:=Bi w.U[i].pos (yf w.G t) (xa w.U[i].kind));have hsp:=zt9 (w:=w) (u:={w.U[i]with next:=(t:Int)}) (d:=Bi w.U[i].pos (yf w.G t) (xa w.U[i].kind)) (by show Bi _ (yf w.G (Int.toNat (t:Int))) _=_;rw[Fa0]);rw[hput]at htp;simp only[hg1]at htry
 refine AWp.meet (σ:=AV) ⟨λv2=>[(6,.bx 6 0),(7,.av (int (i:Nat))),(16,.bx 16 0),(17,.av (int (Am {w with U:=w.U.set i {w.U[i]with next:=(t:Int)}} {w.U[i]with next:=(t:Int)} (Bi w.U[i].pos (yf w.G t) (xa w.U[i].kind)))))],λv2=>[(6,Cx),(16,zz (xk {w with U:=w.U.set i {w.U[i]with next:=(t:Int)}} {w.U[i]with next:=(t:Int)} (Bi w.U[i].pos (yf w.G t) (xa w.U[i].kind))) v2)],
  λv2 st2=>∃A E',st2=A.un E'/\zk A E'/\FlowK fb w.G w.B (k0+1) E'/\RowsQ 10 zf A v2 (xk {w with U:=w.U.set i {w.U[i]with next:=(t:Int)}} {w.U[i]with next:=(t:Int)} (Bi w.U[i].pos (yf w.G t) (xa w.U[i].kind))).U⟩ zb ?_ ?_
 ·refine Qc zb zzc (zoo hob (yq (i:=ti33) (row:=zu w.U[i].pos) rfl rfl hpd (zoo hob (za _ hnx ⟨I6 w.G f.hg t htl _ rfl _ _ ⟨Qbh,⟨cm w.U[i].pos (yf w.G t) (xa w.U[i].kind) hmp hcm θ _ _ ⟨Qbh,⟨htry _ (λv2 N2 hv2 hd2=>⟨Tv,⟨⟨(by repeat(first|exact Tv|refine⟨rfl,?_⟩|refine⟨za (o:=((N2.un A).un E').obj b) _ (yg hd2 (zg hobA)) (yq (i:=ti33) (row:=zu w.U[i].pos) rfl rfl hpd rfl),?_⟩|refine⟨za (o:=((N2.un A).un E').obj b) _ (yg hd2 (zg hobA)) (za _ hnx rfl),?_⟩)),?_⟩,Tv⟩⟩),⟨⟨Qbh,⟨htry _ λv2 N2 hv2 hd2=>⟨Tv,?_⟩,Tv⟩⟩,Tv⟩⟩⟩,⟨⟨Qbh,⟨cm w.U[i].pos (yf w.G t) (xa w.U[i].kind) hmp hcm θ _ _ ⟨Qbh,⟨htry _ λv2 N2 hv2 hd2=>⟨Tv,?_⟩,Tv⟩⟩,Tv⟩⟩,Tv⟩⟩⟩,⟨⟨Qbh,⟨I6 w.G f.hg t htl _ rfl _ _ ⟨Qbh,⟨cm w.U[i].pos (yf w.G t) (xa w.U[i].kind) hmp hcm θ _ _ ⟨Qbh,⟨htry _ λv2 N2 hv2 hd2=>⟨Tv,?_⟩,Tv⟩⟩,Tv⟩⟩,Tv⟩⟩,Tv⟩⟩))))
  all_goals
   have hv3:=hv2;obtain⟨oa2,cp2,rfl,_⟩:=hv3.form;exact Qbr (Qbr ⟨_,⟨_,E',rfl,hd2,hK',hv2⟩,⟨Tq,Tq,Tq,Tq,Tv⟩,⟨rfl,rfl,Tv⟩⟩)
 rintro v2 st2 ⟨A2,E2,rfl,hd2,hK2,hv2⟩;rcases hL:qk w {w.U[i]with next:=(t:Int)} (qu (Bi w.U[i].pos (yf w.G t) (xa w.U[i].kind))) 5 0 with _|⟨k,p⟩
 ·obtain⟨hK,hW⟩:=htp.1 hL;have hst:=hsp.1 hL;rw[hW]at hv2;rw[hK,hW];rw[hst]at h;clear hst htp hsp hK hW htry hmay1 hplay;rcases hv2 with(⟨_,e⟩|⟨b3,cap3,L3,rfl,ho3,k1,k2,k3⟩)|⟨_,_,_,e⟩
  ·exact absurd (congrArg List.length e) Qbj
  rotate_left
  ·exact absurd (congrArg List.length e) Qbj
  have hst8:=hut.2.1.2.2;have hiA:i<(w.U.set i {w.U[i]with next:=(t:Int)}).length:=θh;have hqA:(w.U.set i {w.U[i]with next:=(t:Int)})[i]={w.U[i]with next:=(t:Int)}:=Fbm ..;have erA:=F8 (L:=L3) hiA (j:=7) ψ (y:=int (w.U[i].stuck+1)) (u':={w.U[i]with next:=(t:Int),stuck:=w.U[i].stuck+1}) (by rw[hqA];rfl);rw[Fbr]at erA;have hiB:i<(w.U.set i {w.U[i]with next:=(t:Int),stuck:=w.U[i].stuck+1}).length:=θh;have hqB:(w.U.set i {w.U[i]with next:=(t:Int),stuck:=w.U[i].stuck+1})[i]={w.U[i]with next:=(t:Int),stuck:=w.U[i].stuck+1}:=Fbm ..;have erB:=F8 (L:=L3) hiB (j:=6) ψ (y:=int (-1)) (u':={w.U[i]with next:=-1,stuck:=w.U[i].stuck+1}) (by rw[hqB];rfl);rw[Fbr]at erB;have hldA:(((rws zf (w.U.set i {w.U[i]with next:=(t:Int)})).flatten++L3).drop (0+i*10+7)).head?=some (int w.U[i].stuck):=Cs hiA ψ (by rw[hqA];rfl);have hiC:i<(w.U.set i {w.U[i]with next:=-1,stuck:=w.U[i].stuck+1}).length:=θh;have hqC:(w.U.set i {w.U[i]with next:=-1,stuck:=w.U[i].stuck+1})[i]={w.U[i]with next:=-1,stuck:=w.U[i].stuck+1}:=Fbm ..;have hldC:(((rws zf (w.U.set i {w.U[i]with next:=-1,stuck:=w.U[i].stuck+1})).flatten++L3).drop (0+i*10+7)).head?=some (int (w.U[i].stuck+1)):=Cs hiC ψ (by rw[hqC];rfl);have hE3:¬E2.has b3:=hd2 b3 (xf ho3);refine AWp.of_vc zb ⟨i,rfl,hiA,zoo (yg hd2 ho3) (za _ hldA ⟨⟨θ,θ⟩,yu (i:=ti2) (v:=int (w.U[i].stuck+1)) (b:=b3) (o:=0+i*10+7) (l:=(rws zf (w.U.set i {w.U[i]with next:=(t:Int)})).flatten++L3) (st2:=(A2.sO b3 (.cells ((rws zf (w.U.set i {w.U[i]with next:=(t:Int),stuck:=w.U[i].stuck+1})).flatten++L3))).un E2) rfl rfl rfl (yg hd2 ho3) (G7 hiA ψ) (by rw[erA,Al hE3]) (yu (i:=ti2) (v:=int (-1)) (b:=b3) (o:=0+i*10+6) (l:=(rws zf (w.U.set i {w.U[i]with next:=(t:Int),stuck:=w.U[i].stuck+1})).flatten++L3) (st2:=(A2.sO b3 (.cells ((rws zf (w.U.set i {w.U[i]with next:=-1,stuck:=w.U[i].stuck+1})).flatten++L3))).un E2) rfl rfl rfl (yg (Bq hd2 hE3) (zd _ _ _)) (G7 hiB ψ) (by rw[erB,Al hE3,yy]) (zoo (yg (Bq hd2 hE3) (zd _ _ _)) (za _ hldC (zt (λc6=>?_) λc6=>?_))))⟩)⟩
  ·have c6:w.U[i].stuck+1=8:=c6;rw[if_pos c6,Bl hw.1.1.2.1 hi (u:=j4 4 {w.U[i]with next:=(t:Int)}) rfl]at h;refine cz (yg (Bq hd2 hE3) (zd _ _ _)) hiC 4 _ ?_;rw[Al hE3,yy,hqC,Fbr];exact ret (h _ _ E2 (RowsO.q (.inr ⟨b3,cap3,L3,by rw[Faf,Faf],zd _ _ _,by rw[Faf]at k1⊢;exact k1,by rw[Faf]at k2⊢;exact k2,k3⟩)) (Bq hd2 hE3) hK2)
  ·have c6:¬w.U[i].stuck+1=8:=c6;rw[if_neg c6,Bl hw.1.1.2.1 hi (u:={w.U[i]with next:=-1,stuck:=w.U[i].stuck+1}) rfl]at h;exact ret (h _ _ E2 (RowsO.q (.inr ⟨b3,cap3,L3,by rw[Faf,Faf],zd _ _ _,by rw[Faf]at k1⊢;exact k1,by rw[Faf]at k2⊢;exact k2,k3⟩)) (Bq hd2 hE3) hK2)
 ·obtain⟨hK,hk5,hW⟩:=htp.2 k p hL;have hst:=hsp.2 k p hL;rw[Bl hw.1.1.2.1 hi (u:={w.U[i]with next:=(t:Int),pos:=p}) rfl]at hW;rw[hW]at hv2;rw[hK,hW];rw[hst,Bl hw.1.1.2.1 hi (u:={w.U[i]with next:=(t:Int),pos:=p,stuck:=0}) rfl]at h;clear hst htp hsp hK hW htry hmay1 hplay;rcases hv2 with(⟨_,e⟩|⟨b3,cap3,L3,rfl,ho3,k1,k2,k3⟩)|⟨_,_,_,e⟩
  ·exact absurd (congrArg List.length e) Qbj
  rotate_left
  ·exact absurd (congrArg List.length e) Qbj
  have hiA:i<(w.U.set i {w.U[i]with next:=(t:Int),pos:=p}).length:=θh;have hqA:(w.U.set i {w.U[i]with next:=(t:Int),pos:=p})[i]={w.U[i]with next:=(t:Int),pos:=p}:=Fbm ..;have erA:=F8 (L:=L3) hiA (j:=7) ψ (y:=int (0)) (u':={w.U[i]with next:=(t:Int),pos:=p,stuck:=0}) (by rw[hqA];rfl);rw[Fbr]at erA;have hE3:¬E2.has b3:=hd2 b3 (xf ho3);refine AWp.of_vc zb ⟨i,rfl,hiA,bcd (λc5=>?_) λc5=>?_⟩;rotate_left
  ·exact absurd (show(k:Int)<5 by omega) c5
  exact yu (i:=ti2) (v:=int (0)) (b:=b3) (o:=0+i*10+7) (l:=(rws zf (w.U.set i {w.U[i]with next:=(t:Int),pos:=p})).flatten++L3) (st2:=(A2.sO b3 (.cells ((rws zf (w.U.set i {w.U[i]with next:=(t:Int),pos:=p,stuck:=0})).flatten++L3))).un E2) rfl rfl rfl (yg hd2 ho3) (G7 hiA ψ) (by rw[erA,Al hE3]) (ret (h _ _ E2 (RowsO.q (.inr ⟨b3,cap3,L3,by rw[Faf,Faf],zd _ _ _,by rw[Faf]at k1⊢;exact k1,by rw[Faf]at k2⊢;exact k2,k3⟩)) (Bq hd2 hE3) hK2))
end
def Qbk{p:Prop}(h:p:=by repeat(first|exact Tv|refine⟨rfl,?_⟩|refine⟨⟨i,rfl,za _ (zn hil) rfl⟩,?_⟩)):p:=h
def FlowK.objs{fb k:Nat}{g:Gnd}{l:List Bld}{E:Store}(h:FlowK fb g l k E):FlowK fb g l k E.objs:=by obtain⟨v1,v2,v3,v4,q,ds,h1,h2⟩:=h;exact⟨v1,v2,v3,v4,q,ds,⟨h1.h0,h1.h1,h1.h2,h1.h3,h1.h4,h1.len,h1.ok,h1.o0,h1.o1,h1.o2,h1.o3,h1.o4⟩,h2⟩
def yag{fb k0:Nat}{E:Store}(w:Wld)(hE0:FlowK fb w.G w.B k0 E)(hk0:k0<=1000000000)(hw:playW w){i:Nat}(hi:i<w.U.length)(h0:w.U[i].inn=0)(R:Ja)
  (h:∀E',FlowK fb w.G w.B (k0+1) E'->R (.agg (zp (vf w w.U[i]))) E'):Jb 120 [.agg (zp w),int w.U[i].id,ptr fb] E R:=by
 refine ACalls.frozenTo (yah w hE0 hk0 hw hi h0 (λr S=>∃A v E',RowsQ 10 zf A v (vf w w.U[i]).U/\zk A E'/\FlowK fb w.G w.B (k0+1) E'/\r=.agg (zz (vf w w.U[i]) v)/\S=A.un E') λA v E' h1 h2 h3=>⟨A,v,E',h1,h2,h3,rfl,rfl⟩) ?_;rintro r S ⟨X,v,N',hX,hd,hF',rfl,rfl⟩;refine⟨.agg (zp (vf w w.U[i])),N'.objs,h _ hF'.objs,λb x hx=>zg hx,λb x hx=>γ,λOth M W x sto hx=>?_⟩;have sX:StoreOK X Oth M W:=sto.weaken ⟨λb y hy=>yg hd hy,λb y hy=>Kk hd hy⟩;have ht:∀b,((X.un N').obj b=none\/N'.objs.obj b≠none)->X.obj b=none:=λb hb=>by
  rcases hb with hb|hb
  ·exact(Kx hb).1
  ·cases hx:X.obj b with
   |none=>rfl
   |some y=>exact absurd (k8 (hd b (xf hx))).1 hb
 exact(Dh hX sX hx).mono λb o hT=>⟨hT.1,ht b hT.2⟩
def yda(w:Wld)(hp:playW w)(st:Store)(R:Ja)(h:R (.agg (zp (ki w))) st):Jb 73 [.agg (zp w)] st R:=by
 have hm:=xh hp.1;have hU:=hm.hU;refine Fl (Q:=λr=>r=.agg (zp (ki w))) (Qa (c:=cfg 31 [6] []) zb Tryz.func73 ?_) st R λr hr=>hr▸h;intro fb hfb;refine AWp.loop (σ:=Nat) ⟨λi=>[(1,.bx 1 0),(2,.bx 2 0),(3,.av (ptr fb)),(4,.av (int (i:Nat)))],λi=>[(1,zp (goN w i)),(2,Cx)],λi S=>i<=w.U.length/\FlowK fb w.G w.B i S,λi=>w.U.length-i⟩ zb ?_ ?_
 ·exact⟨0,Tv,⟨Fad _,yi7 _ _ (zd _ _ _)⟩,Qbn,⟨rfl,rfl,Tv⟩⟩
 rintro i S ⟨hi,hF⟩;obtain⟨hpi,hli,hGi,hBi⟩:=Pa hp i;refine zh (λh1=>?_) λh1=>?_
 ·have hil:i<(goN w i).U.length:=qn h1;have hlt:i<w.U.length:=θ;refine⟨i,rfl,za _ (zn hil) (zt (λc1=>?_) λc1=>?_)⟩
  ·have hg:=zbq hil c1;refine Qc zb zvn ⟨i,rfl,za _ (zn hil) ?_⟩;have hcall:=λR' h'=>yag (E:=S) (k0:=i) (fb:=fb) (goN w i) (by rw[hGi,hBi];exact hF) θ hpi hil c1 R' h';rw[<-hg,hGi,hBi]at hcall;exact⟨hcall _ (λE' hF'=>⟨Qbk,⟨⟨Qbk,Qd ⟨i+1,(show w.U.length-(i+1)<w.U.length-i by omega),⟨hlt,hF'⟩,Qbn,⟨rfl,rfl,Tv⟩⟩⟩,Tv⟩⟩),Tv⟩
  ·have hg:=zbp hil c1;exact Qd ⟨i+1,(show w.U.length-(i+1)<w.U.length-i by omega),⟨hlt,hF.mono (Fdb i)⟩,Qbn,⟨by rw[hg];rfl,rfl,Tv⟩⟩
 ·have hge:=qw h1 θ;have:i=w.U.length:=θ;subst this;exact ret rfl
def Qbl{p:Prop}(h:p:=by repeat(first|exact Tv|refine⟨rfl,?_⟩|refine⟨⟨i,rfl,za _ (zn hlt) rfl⟩,?_⟩)):p:=h
def ycy(w:Wld)(hw:w.fits)(hn:∀u∈w.U,u.pos.ok)(hU:w.U.length<=1000000)(c:Cmd)(hc:c.fits)(st:Store)(R:Ja)(h:R (.tup [.agg (zp (doW aE aW w c)),int (doE aE w c)]) st):Jb 72 [.agg (zp w),.agg (yh c)] st R:=
 Fl (Q:=λr=>r=.tup [.agg (zp (doW aE aW w c)),int (doE aE w c)]) (yca c.K w hw hn hU c hc rfl (λr _=>r=.tup [.agg (zp (doW aE aW w c)),int (doE aE w c)]) rfl) st R λr hr=>hr▸h
def yar(w:Wld)(hp:playW w)(l:List Cmd)(hf:∀c∈l,c.fits)(hl:l.length<=512):Jb 32 [.agg (zp w),lst 10 yh l] Store.empty λr _=>r=.tup [.agg (zp (Ig w l)),lst 1 zx (Ih w l),int (Ky w)]:=by
 have ht:=hp.1.1.1.1.1;refine Qy 47 Tryz.func32 ?_;refine bcd (λc1=>?_) λc1=>?_
 ·obtain⟨e1,e2,e3⟩:=Se (w:=w) θ l;rw[e1,e2,e3];exact⟨.tup [.agg (zp w),lst 1 zx [],int 10],Store.empty,AV.le_tupL ⟨Tt,AV.le_nil 1,Tt,Tv⟩,Store.Has.refl _,rfl⟩
 obtain⟨e1,e2,e3⟩:=Sf (w:=w) θ l;rw[e1,e2,e3];refine bcd (λc2=>absurd c2 θi) λ_=>?_
 refine AWp.loop (σ:=Nat×AV) ⟨λx=>[(1,.av (lst 10 yh l)),(2,.bx 2 0),(4,.bx 4 0),(7,.av x.2),(8,.av (int (x.1:Nat)))],λx=>[(2,zp (j5 w (l.take x.1))),(4,Cx)],
  λx st'=>x.1<=l.length/\App 1 Store.empty x.2 (rws zx (ve w (l.take x.1))) st',λx=>l.length-x.1⟩ zb ?_ ?_
 ·exact⟨(0,.s (.slice none 0 0)),Tv,⟨Fad _,App.start 1 _⟩,Qbn,⟨rfl,rfl,Tv⟩⟩
 rintro⟨i,v⟩ st' ⟨hi,ha⟩;dsimp only at hi ha⊢;have hpi:=Ol (l.take i) hp;have hsz:=hpi.sizes;have hfw:=(xh hpi.1).fits;refine bcd (λc3=>?_) λc3=>?_
 ·have hlt:i<l.length:=by rw[zl]at c3;omega
  obtain⟨q1,q2⟩:=zdc (w:=w) hlt;have hTl:(ve w (l.take i)).length<=i:=by rw[V1,Fam];omega
  have hn:=hpi.2;generalize j5 w (l.take i)=W at*;generalize ve w (l.take i)=T at*;have hap:=λ(R:Ja) (h:R (.tup [.agg (zp (doW aE aW W l[i])),int (doE aE W l[i])]) st')=>ycy W hfw hn hsz.2.2 l[i] (hf _ (Faa hlt)) st' R h;generalize doW aE aW W l[i]=W2 at*;generalize doE aE W l[i]=e2 at*;refine Qc zb zwj ⟨i,rfl,za _ (zn hlt) ⟨hap _ ⟨Tv,⟨⟨Qbl,⟨⟨Tv,⟨⟨Tv,?_⟩,Tv⟩⟩,Tv⟩⟩,Tv⟩⟩,⟨⟨Qbl,⟨hap _ ⟨Tv,⟨⟨Tv,⟨⟨Tv,?_⟩,Tv⟩⟩,Tv⟩⟩,Tv⟩⟩,Tv⟩⟩⟩
  all_goals
   refine⟨ψ,Ba (ie:=ti2) (rows':=[zx e2]) ha ?_ ?_ ⟨?_,?_⟩ λv2 st2 ha2=>?_⟩
   ·rfl
   ·rfl
   ·simp only[zl,Fao,ti2];omega
   ·simp only[zl,Fao];omega
   refine Qd ⟨(i+1,v2),(show l.length-(i+1)<l.length-i by omega),⟨ζ,?_⟩,Qbn,⟨by dsimp only;rw[q1];rfl,rfl,Tv⟩⟩;dsimp only;rw[q2];unfold rws at ha2⊢;rw[Fa8];exact ha2
 ·have:i=l.length:=by rw[zl]at c3;omega
  subst this;rw[Fak]at hpi hsz hfw ha⊢;have htk:=Vz l hp;have heng:Da w l=Hz (j5 w l):=rfl;rw[heng];generalize j5 w l=W at*;generalize ve w l=T at*;refine yda W hpi _ _ ?_;have hat:(ki W).tick=W.tick:=La W _;exact Qd ⟨.tup [.agg (zp (Hz W)),lst 1 zx T,int 0],Store.empty,AV.le_tupL ⟨Tt,ha.le,Tt,Tv⟩,ha.has,rfl⟩
def yaq(w:Wld)(hp:playW w)(l:List Cmd)(hf:∀c∈l,c.fits)(hl:l.length<=512)(st:Store)(R:Ja)(h:R (.tup [.agg (zp (Ig w l)),lst 1 zx (Ih w l),int (Ky w)]) st):Jb 32 [.agg (zp w),lst 10 yh l] st R:=
 Fl (yar w hp l hf hl) st R λr hr=>hr▸h
def yl2(l:List Cmd)(hl:l.length<=1000000000000)(hf:∀x∈l,Cmd.fits x)(st:Store)(R:Ja)(h:R (lst 10 yh l) st):Jb 30 [lst 10 yh l] st R:=by
 refine Qy 20 Tryz.func30 ?_;refine AWp.loop (σ:=Nat×AV) ⟨λs=>[(0,.av (lst 10 yh l)),(3,.av s.2),(4,.av (int s.1))],λ_=>[],λs st'=>s.1<=l.length/\App 10 st s.2 (rws yh (l.take s.1)) st',λs=>l.length-s.1⟩ zb ?_ ?_
 ·exact⟨(0,_),Tv,⟨Fad _,App.start 10 st⟩,⟨Tq,Tq,Tq,Tv⟩,Tv⟩
 ·rintro⟨i,v⟩ st' ⟨hi,ha⟩;simp only at hi;refine zh (λh1=>?_) λh1=>?_
  ·have hlt:i<l.length:=qn h1;refine⟨i,rfl,za _ (zn hlt) (yl1 l[i] (hf _ (Faa hlt)) st' _ ⟨ψ,Ba (ie:=ti138) (rows':=[yh l[i]]) ha ?_ ?_ ⟨?_,?_⟩ λv2 st2 ha2=>?_⟩)⟩
   ·rfl
   ·rfl
   ·simp[zl,ti138];omega
   ·simp[zl];omega
   ·refine⟨⟨θ,θ⟩,⟨(i+1,v2),?_,⟨hlt,?_⟩,Qbn,Tv⟩⟩
    ·show l.length-(i+1)<l.length-i;omega
    ·rw[<-N9 hlt];exact ha2
  ·have hge:i=l.length:=qw h1 hi;subst hge;refine⟨_,st,AV.le_trans ha.le ?_,ha.has,h⟩;rw[Fak];exact Tt
def ykd(a b:List Cmd)(ha:a.length<=1000000000000)(hf:∀x∈a,Cmd.fits x)(st:Store)(R:Ja)(h:R (bool (decide (a=b))) st):Jb 34 [lst 10 yh a,lst 10 yh b] st R:=by
 refine Qy 27 Tryz.func34 ?_;refine zh (λh1=>?_) λh1=>?_
 ·have:a≠b:=λh2=>Mm h1 (by rw[h2]);rw[show decide (a=b)=false by simp[this]]at h;exact⟨_,st,Tt,Store.Has.refl st,h⟩
 ·have hl:a.length=b.length:=I0 h1;refine AWp.loop (σ:=Nat) ⟨λi=>[(0,.av (lst 10 yh a)),(1,.av (lst 10 yh b)),(5,.av (int i))],λ_=>[],λi st'=>i<=a.length/\a.take i=b.take i/\st'=st,λi=>a.length-i⟩ zb ?_ ?_
  ·exact⟨0,Tv,⟨Fad _,rfl,rfl⟩,Qbn,Tv⟩
  ·rintro i st' ⟨hi,heq,hst⟩;refine zh (λh2=>?_) λh2=>?_
   ·have hlt:i<a.length:=qn h2;have hltb:i<b.length:=θ;refine Qc zb zwe ⟨i,rfl,za _ (zn hlt) ⟨i,rfl,za _ (zn hltb) ⟨I1 a[i] b[i] (hf _ (Faa hlt)) st' _ ⟨Tv,zh (λh3=>?_) λh3=>?_⟩,Tv⟩⟩⟩
    ·have hne:a[i]≠b[i]:=by simpa using h3
     have:a≠b:=θ1;rw[show decide (a=b)=false by simp[this]]at h;subst hst;exact⟨_,st',Tt,Store.Has.refl st',h⟩
    ·refine⟨⟨θ,θ⟩,⟨i+1,?_,⟨hlt,?_,hst⟩,Qbn,Tv⟩⟩
     ·show a.length-(i+1)<a.length-i;omega
     ·rw[Fab hlt,Fab hltb,heq];have:a[i]=b[i]:=by simpa using h3
      rw[this]
   ·have hge:i=a.length:=qw h2 hi;subst hge hst;have:a=b:=by
     rw[Fak,hl,Fak]at heq;exact heq
    rw[show decide (a=b)=true by simp[this]]at h;exact⟨_,st',Tt,Store.Has.refl st',h⟩
def rp(n:Int)(st:Store)(R:Ja)(h:∀b:Bool,(b=true↔1<=n/\n<=4096)->R (V.bool b) st):Jb 26 [int n] st R:=by
 refine Qy 9 Tryz.func26 ?_;refine bcd (λc1=>?_) λc1=>?_
 ·exact ret (h _ (by rw[decide_eq_true_eq];omega))
 ·exact ret (h false χ)
def yi2(n:Int)(hn:¬(1<=n/\n<=4096))(st:Store)(R:Ja)(h:R (.tup [.s (.pointer none),int 1]) st):Jb 64 [int n] st R:=by
 have hc:∀R:AV->Store->Prop,R (.tup [.s (.pointer none),int 1]) st->Jb 99 [int n] st R:=λR h=>by refine Qa (c:=cfg 14 [11,13] []) zb Tryz.func99 ?_;refine bcd (λc1=>ret h) λc1=>?_;refine bcd (λc2=>ret h) λc2=>absurd ⟨θ,θ⟩ hn
 refine Qa (c:=cfg 21 [17] []) zb Tryz.func64 ?_;exact hc _ (ret h)
def ylv(w:Wld)(hT:w.G.T.length<=1000000)(hB:w.B.length<=1000000)(hU:w.U.length<=1000000)(R:Ja)
  (h:∀S vT vB vU NT NB NU,OwnQ S w vT vB vU NT NB NU->R (.agg (jf w vT vB vU)) S):Jb 13 [.agg (zp w)] Store.empty R:=by
 refine Qy 18 Tryz.func13 ?_;refine yl0 w.G hT _ _ λvT NT rT _=>?_;obtain⟨_,_,e1,_⟩:=rT.q.form;subst e1;rw[Bc];refine iq w.B hB _ _ λvB NB rB dB=>?_;obtain⟨_,_,e2,_⟩:=rB.q.form;subst e2;refine zc9 w.U hU _ _ λvU NU rU dU=>?_;obtain⟨_,_,e3,_⟩:=rU.q.form;subst e3;exact ret (h _ _ _ _ _ _ _ ⟨rfl,rT.q,rB.q,rU.q,dB,dU⟩)
def yjh{l:List AV}(h:∀y∈l,flat y):flat (.agg l):=by
 intro w T w' T' v hv;cases hv with
 |agg _ c hl hc=>exact .agg _ c hl λi x y hx hy=>h x (Fa3 hx) _ _ _ _ _ (hc i x y hx hy)
theorem _root_.Go.V.Store.Le.has{S S2:Store}(h:S.Le S2){b:Nat}(hb:S2.has b):S.has b:=by
 rcases hb with hb|hb
 ·cases hx:S2.obj b with
  |none=>exact absurd hx hb
  |some y=>obtain⟨x,h1,_⟩:=h.obj b y hx;exact xf h1
 ·cases hx:S2.tok b with
  |none=>exact absurd hx hb
  |some y=>exact Iu (h.tok b y hx)
theorem _root_.Go.V.Store.Le.un{A B A2 B2:Store}(h:A.Le A2)(k:B.Le B2)(hd:zk A B):(A.un B).Le (A2.un B2):=by
 refine⟨λb y hy=>?_,λb x hx=>?_⟩
 ·rcases Lu hy with hy|⟨_,hy⟩
  ·obtain⟨x,h1,h2⟩:=k.obj b y hy;exact⟨x,zg h1,h2⟩
  ·obtain⟨x,h1,h2⟩:=h.obj b y hy;exact⟨x,yg hd h1,h2⟩
 ·rcases P6 hx with hx|⟨_,hx⟩
  ·exact F5 (k.tok b x hx)
  ·exact Kk hd (h.tok b x hx)
def yee{S NT NB NU:Store}{w:Wld}{vT vB vU:AV}(ho:OwnQ S w vT vB vU NT NB NU):
  ∃S2 NT2 NB2 NU2,S.Le S2/\OwnQ S2 w vT vB vU NT2 NB2 NU2/\flat (.agg (jf w vT vB vU))/\∀b x,S2.obj b=some x->My x:=by
 obtain⟨T2,a1,a2,a3,a4⟩:=ho.rT.flatten P7;obtain⟨B2,b1,b2,b3,b4⟩:=ho.rB.flatten Nf;obtain⟨U2,c1,c2,c3,c4⟩:=ho.rU.flatten P3;have hBT:=b1.un a1 ho.dB;refine⟨U2.un (B2.un T2),T2,B2,U2,?_,⟨rfl,a2,b2,c2,λi h1 h2=>ho.dB i (b1.has h1) (a1.has h2),λi h1 h2=>ho.dU i (c1.has h1) (hBT.has h2)⟩,yjh λy hy=>?_,λb x hx=>?_⟩
 ·rw[ho.e];exact c1.un hBT ho.dU
 ·simp only[jf,Fa7,Fca,or_false]at hy;rcases hy with rfl|rfl|rfl|rfl|rfl|rfl|rfl|rfl<;>first|exact Cu _|assumption
 ·rcases Lu hx with hx|⟨_,hx⟩
  ·rcases Lu hx with hx|⟨_,hx⟩
   ·exact a4 b x hx
   ·exact b4 b x hx
  ·exact c4 b x hx
section
variable {G NT NB NU:Store} {w:Wld} {vT vB vU:AV}
def yf6(ho:OwnQ G w vT vB vU NT NB NU)(hw:w.fits)(hn:∀u∈w.U,u.pos.ok)(R:Ja)(h:∀b:Bool,(b=true↔ya w)->R (V.bool b) G):Jb 40 [.agg (jf w vT vB vU)] G R:=
 ACalls.read (ys:=[.agg (zp w)]) (Q:=λr=>∃b:Bool,(b=true↔ya w)/\r=V.bool b) (λOth M W vs sto hr=>by obtain⟨x,rfl,h1⟩:=Ia hr;exact Reads.cons (Kv ho sto h1) Reads.nil) (zah w hw hn _ _ λb hb=>⟨b,hb,rfl⟩) (λr ⟨b,_,e⟩=>e▸Cu _) λr ⟨b,h1,e⟩=>e▸h b h1
def yeg(ho:OwnQ G w vT vB vU NT NB NU)(hs:w.G.T.length<=1000000/\w.B.length<=1000000/\w.U.length<=1000000)(R:Ja)
  (h:∀S vT vB vU NT NB NU,OwnQ S w vT vB vU NT NB NU->zk S G->R (.agg (jf w vT vB vU)) (S.un G)):Jb 65 [.agg (jf w vT vB vU)] G R:=
 ACalls.readOwn (ys:=[.agg (zp w)]) (Q:=λr S=>∃vT vB vU NT NB NU,OwnQ S w vT vB vU NT NB NU/\flat r/\(∀b x,S.obj b=some x->My x)/\r=.agg (jf w vT vB vU)) (λOth M W vs sto hr=>by
  obtain⟨x,rfl,h1⟩:=Ia hr;exact Reads.cons (Kv ho sto h1) Reads.nil)
  ((Oq w θ θ θ (λr S=>∃vT vB vU NT NB NU,OwnQ S w vT vB vU NT NB NU/\r=.agg (jf w vT vB vU)) λS a b c d e f h=>⟨a,b,c,d,e,f,h,rfl⟩).post (Store.Le.refl _) λr S ⟨a,b,c,d,e,f,h1,h2⟩=>by obtain⟨S2,d2,e2,f2,k1,k2,k3,k4⟩:=yee h1;exact⟨r,S2,Tt,k1,a,b,c,d2,e2,f2,k2,h2▸k3,k4,h2⟩)
  (λr S ⟨_,_,_,_,_,_,_,h1,h2,_⟩=>⟨h1,h2⟩) λr S ⟨a,b,c,d,e,f,h1,_,_,h2⟩ hd=>h2▸h S a b c d e f h1 hd
def yj4(ho:OwnQ G w vT vB vU NT NB NU)(hf:w.fits)(R:Ja)(h:R (V.bool true) G):Jb 20 [.agg (jf w vT vB vU),.agg (zp w)] G R:=
 ACalls.read (ys:=[.agg (zp w),.agg (zp w)]) (Q:=λr=>r=V.bool true) (λOth M W vs sto hr=>by obtain⟨x,y,rfl,h1,h2⟩:=Fc hr;exact Reads.cons (Kv ho sto h1) (Reads.cons (qv h2) Reads.nil)) (zcp w hf _ _ rfl) (λr e=>e▸Cu _) λr e=>e▸h
end
end Go.Proofs
