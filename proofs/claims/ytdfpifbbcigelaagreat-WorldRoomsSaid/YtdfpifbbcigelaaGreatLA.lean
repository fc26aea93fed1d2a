/- Ground of laws of thronglaw25: contracts and plain lemmas; no condition beyond the row's own. -/
import Derived.Test.YtdfpifbbcigelaaGreatKZ
set_option linter.unusedSimpArgs false
set_option linter.unusedVariables false
namespace Go.Proofs
open Go Go.V
set_option maxRecDepth 20000
set_option maxHeartbeats 4000000
theorem yfw{w:Wld}(hm:z8 w){c:Cmd}(hc:Ah c)(hk:c.K=4)(hn:¬1099511627776<=w.next):yc (bdB w c)/\∀x∈w.B,x.id<(bdB w c).id:=by
 have hok:=(Cmd.ok4 hk).1 hc.1
 have mf:=kh hm
 have:=mf.hn1
 have hP:=hc.2.1
 refine⟨⟨by unfold bdB;dsimp only;omega,hP,hok.2.1,hok.2.2⟩,λx hx=>?_⟩
 have:=(hm.1.1.2.2 x hx).2
 exact this
theorem zar{F G:Store}{xw s p:Nat}{w:Wld}{v:AV}{L:List Ent}{o0 o1 o2:AV}{c:Cmd}{fv:AV}(hW:Work F G xw s p w v L o0 o1 o2 c fv)(hm:z8 w)(hn:∀u∈w.U,u.pos.ok)(hc:Ah c)(hk:c.K=4)(R:Ja)
  (h:∀S',bdE w c≠0->R (int (bdE w c)) S') (h0:bdE w c=0->∀S',Bm S' xw s c fv (bdW w c)->R (int 0) S'):Jb 228 [ptr xw] (F.un (svS G s w v o0 o1 o2 p)) R:=by
 have mf:=kh hm
 have hg:=mf.hg
 have hg1:=hg.1
 have hg2:=hg.2.1
 have hn2:=mf.hn2
 have hn1:=mf.hn1
 have hok:=(Cmd.ok4 hk).1 hc.1
 have hT:=hok.1
 unfold j6 at hT
 have hx:=hW.x (F':=F) (q0:=o0) (q1:=o1) (q2:=o2)
 have hs:=hW.s (F':=F) (q0:=o0) (q1:=o1) (q2:=o2)
 obtain⟨oa,cap,e,hget⟩:=hW.S.hu.form
 subst e
 have hq:c.T.tmod w.G.W=c.T%w.G.W:=Fdo hT.1
 have hq2:c.T.tdiv w.G.W=c.T/w.G.W:=Fbc hT.1
 have hq3:0<=c.T/w.G.W/\c.T/w.G.W<=c.T:=⟨Fcr hT.1 (by omega),Int.ediv_le_self _ hT.1⟩
 have bad:∀n:Int,n≠0->bdE w c=n->∀S,R (int n) S:=λn hn e S=>by
  have:=h S (by rw[e];exact hn)
  rw[e]at this
  exact this
 refine Qa (c:=cfg 116) zb Tryz.func228 ?_
 refine za (o:=(F.un (svS G s w _ o0 o1 o2 p)).obj xw) _ hx ?_
 refine za (o:=(F.un (svS G s w _ o0 o1 o2 p)).obj s) _ hs ?_
 refine Qc zb ztg ?_
 refine za (o:=(F.un (svS G s w _ o0 o1 o2 p)).obj xw) _ hx ?_
 refine⟨Oz w.G c.T hg _ _ (λz hz=>⟨?_,?_⟩),Tv⟩
 ·repeat(first|exact Tv|refine⟨rfl,?_⟩|refine⟨za (o:=(F.un (svS G s w _ o0 o1 o2 p)).obj xw) _ hx rfl,?_⟩)
 refine Qap ?_
 refine yl ?_
 refine zj (λc1=>?_) (λc1=>?_)
 rotate_left
 ·have hno:¬(0<=c.T/\c.T<w.G.W*w.G.H):=λhh=>by have:=hz.2 hh;rw[this]at c1;cases c1
  exact ret (bad 3 (by decide) (by unfold bdE;rw[if_pos hno]) _)
 have ht:=hz.1 c1
 refine za (o:=(F.un (svS G s w _ o0 o1 o2 p)).obj xw) _ hx ?_
 refine za (o:=(F.un (svS G s w _ o0 o1 o2 p)).obj s) _ hs ?_
 refine zy (λc2=>?_) (λc2=>?_)
 ·exact ret (bad 4 (by decide) (by unfold bdE;rw[if_neg (λhh=>hh ht),if_pos (by omega)]) _)
 have hnx:¬1099511627776<=w.next:=by omega
 obtain⟨hbp,hid⟩:=yfw hm hc hk hnx
 refine Qc zb ztf ?_
 refine za (o:=(F.un (svS G s w _ o0 o1 o2 p)).obj xw) _ hx ?_
 refine za (o:=(F.un (svS G s w _ o0 o1 o2 p)).obj s) _ hs ?_
 refine za (o:=(F.un (svS G s w _ o0 o1 o2 p)).obj xw) _ hx ?_
 refine za (o:=(F.un (svS G s w _ o0 o1 o2 p)).obj xw) _ hx ?_
 refine⟨by omega,?_⟩
 refine za (o:=(F.un (svS G s w _ o0 o1 o2 p)).obj xw) _ hx ?_
 refine⟨by omega,?_⟩
 refine ze (by rw[hq2];omega) ?_
 refine za (o:=(F.un (svS G s w _ o0 o1 o2 p)).obj xw) _ hx ?_
 refine za (o:=(F.un (svS G s w _ o0 o1 o2 p)).obj xw) _ hx ?_
 refine⟨⟨?_,?_⟩,Tv⟩
 ·repeat(first|exact Tv|refine⟨rfl,?_⟩|refine⟨za (o:=(F.un (svS G s w _ o0 o1 o2 p)).obj xw) _ hx rfl,?_⟩|refine⟨za (o:=(F.un (svS G s w _ o0 o1 o2 p)).obj s) _ hs rfl,?_⟩|refine⟨⟨by omega,rfl⟩,?_⟩|refine⟨⟨by omega,ze (by rw[hq2];omega) rfl⟩,?_⟩)
 refine Qap ?_
 refine Qc zb zte ?_
 refine za (o:=(F.un (svS G s w _ o0 o1 o2 p)).obj xw) _ hx ?_
 refine za (o:=(F.un (svS G s w _ o0 o1 o2 p)).obj s) _ hs ?_
 refine⟨yfi w.G hg w.B mf.hB mf.hb (bdB w c) hbp hid _ _ (λhe=>⟨?_,?_⟩) (λhe=>⟨?_,?_⟩),Tv⟩
 ·repeat(first|exact Tv|refine⟨rfl,?_⟩|refine⟨za (o:=(F.un (svS G s w _ o0 o1 o2 p)).obj xw) _ hx rfl,?_⟩|refine⟨za (o:=(F.un (svS G s w _ o0 o1 o2 p)).obj s) _ hs rfl,?_⟩)
 ·refine Qap ?_
  refine Qap ?_
  refine qt (λ_=>?_) (λhh=>absurd hh he)
  have e1:bdE w c=q9 w.G w.B (bdB w c):=by unfold bdE;rw[if_neg (λhh=>hh ht),if_neg hnx,if_neg he]
  have:=h (F.un (svS G s w (.s (.slice oa w.U.length cap)) o0 o1 o2 p)) (by rw[e1];exact he)
  rw[e1]at this
  exact ret this
 ·repeat(first|exact Tv|refine⟨rfl,?_⟩|refine⟨za (o:=(F.un (svS G s w _ o0 o1 o2 p)).obj xw) _ hx rfl,?_⟩|refine⟨za (o:=(F.un (svS G s w _ o0 o1 o2 p)).obj s) _ hs rfl,?_⟩)
 refine Qap ?_
 refine Qap ?_
 have hon:onP w.G (bdB w c):=Classical.byContradiction λhh=>by
  unfold q9 at he
  rw[if_pos hh]at he
  cases he
 have e1:bdE w c=(by classical exact if Ho w (bdB w c)then 5 else 0):=by
  unfold bdE
  rw[if_neg (λhh=>hh ht),if_neg hnx,if_pos he]
 refine zal hW mf hn (zxu hm) (bdB w c) ⟨hbp,hon⟩ _ (λz F2 hz hS2=>?_)
 refine zj (λc3=>?_) (λc3=>?_)
 ·exact ret (bad 5 (by decide) (by rw[e1,if_pos (hz.1 c3)]) _)
 have hnm:¬Ho w (bdB w c):=λhh=>by have:=hz.2 hh;rw[this]at c3;cases c3
 have hz0:bdE w c=0:=by rw[e1,if_neg hnm]
 have hx2:=hW.x (F':=F2) (q0:=o0) (q1:=o1) (q2:=o2)
 have hs2:=hW.s (F':=F2) (q0:=o0) (q1:=o1) (q2:=o2)
 have hr2:=hW.r (F':=F2) (q0:=o0) (q1:=o1) (q2:=o2)
 have hos:=hW.os
 have hxs:=hW.ne
 generalize F2.un (svS G s w _ o0 o1 o2 p)=S at hx2 hs2 hr2⊢
 refine Qaq ?_
 refine Br (i:=ti25) (v:=lst 6 zi (w.B++[bdB w c])) (b:=s) (o:=6) (l:=svC w (.s (.slice oa w.U.length cap)) o0 o1 o2 p) rfl rfl rfl hs2 (show 6+1<=12 by decide) ?_
 have hs3:(S.sO s (.cells (zw (svC w (.s (.slice oa w.U.length cap)) o0 o1 o2 p) 6 [lst 6 zi (w.B++[bdB w c])]))).obj s=some (.cells (svC {w with B:=w.B++[bdB w c]} (.s (.slice oa w.U.length cap)) o0 o1 o2 p)):=zd _ _ _
 have hx3:=(zg (st:=S) (x:=.cells (zw (svC w (.s (.slice oa w.U.length cap)) o0 o1 o2 p) 6 [lst 6 zi (w.B++[bdB w c])])) hxs).trans hx2
 have hr3:=hr2.set hos (.cells (zw (svC w (.s (.slice oa w.U.length cap)) o0 o1 o2 p) 6 [lst 6 zi (w.B++[bdB w c])]))
 generalize S.sO s _=S2 at hs3 hx3 hr3⊢
 refine Qaq ?_
 refine Qaq ?_
 refine ze (by dsimp only;omega) ?_
 refine Br (i:=ti2) (v:=int (w.next+1)) (b:=s) (o:=2) (l:=svC {w with B:=w.B++[bdB w c]} (.s (.slice oa w.U.length cap)) o0 o1 o2 p) rfl rfl rfl hs3 (show 2+1<=12 by decide) ?_
 exact ret (h0 hz0 _ ⟨_,o0,o1,o2,p,(zg hxs).trans hx3,zd _ _ _,hr3.set hos _⟩)
end Go.Proofs
namespace Go.Proofs
open Go Go.V
set_option maxRecDepth 20000
set_option maxHeartbeats 4000000
end Go.Proofs
namespace Go.Proofs
open Go Go.V
set_option maxRecDepth 20000
set_option maxHeartbeats 4000000
def Mv:List AV:=[int 0,int 0,int 0,int 0,int 0,int 0]
theorem yfn(b:Bld):∀y∈zi b,y.one=true:=by
 intro y hy
 obtain⟨x,rfl,h⟩:=Mo b y hy
 exact h
theorem zuz(l:List Bld):∀y∈(rws zi l).flatten,y.one=true:=by
 intro y hy
 obtain⟨r,hr,hy⟩:=List.mem_flatten.1 hy
 obtain⟨b,_,rfl⟩:=Fad.1 hr
 exact yfn b y hy
theorem ydl{N:Store}{v:AV}{l:List Bld}(hv:RowsQ 6 zi N v l)(hl:l.length<=256){i:Nat}(hi:i<l.length)(R:Ja)(h:∀v' N',RowsQ 6 zi N' v' (l.eraseIdx i)->R v' N'):Jb 317 [v,int (i:Nat),int ((i:Int)+1)] N R:=by
 rcases hv with(⟨_,hl0⟩|⟨b,cap,L,rfl,ho,hc1,hc2,hc3⟩)|⟨_,_,_,hl0⟩
 ·subst hl0;exact absurd hi (Fbe _)
 rotate_left
 ·subst hl0;exact absurd hi (Fbe _)
 refine Qa (c:=cfg 33) zb Tryz.func317 ?_
 refine ygo (i:=i) (j:=i+1) (m:=l.length) rfl rfl rfl rfl (by omega) (by omega) hc1 (by omega) ?_
 refine zy (λhh=>absurd hh (by omega)) (λ_=>?_)
 refine Qc zb zsp ?_
 refine⟨0,i,rfl,rfl,Fai _,by omega,.inl ⟨by omega,?_⟩⟩
 by_cases hc:i+1<cap
 ·refine⟨i+1,l.length,rfl,rfl,by omega,hc1,.inl ⟨hc,?_⟩⟩
  refine⟨⟨.inr ⟨_,_,rfl,rfl,uc (ie:=ti197) (n:=i) (m:=l.length-(i+1)) (xs:=(rws zi (l.drop (i+1))).flatten) rfl ho (by rw[Fag,j9 jh];exact hc2) (by omega) (by have:=SrcOK.obj (P:=Tryz.prog) (k:=6) (m:=l.length-(i+1)) (o:=0+(i+1)*6) (cp:=cap-(i+1)) ho (by rw[Fag,j9 jh];omega) (by rw[Fbd,rf jh (by omega)];exact zuz _);rw[Fbd,rf jh (by omega)]at this;rw[Fbd];exact this) ⟨by show(i+(l.length-(i+1)))*48<=_;omega,by omega⟩ (λ_=>⟨Tv,?_⟩) (λhh=>by omega)⟩⟩,Tv⟩
  rw[show zw ((rws zi l).flatten++L) (i*ti197.size) (rws zi (l.drop (i+1))).flatten=(rws zi (l.eraseIdx i)).flatten++(zi l[l.length-1]++L)from p5 jh hi L]
  have hel:=p6 hi
  have ho2:(N.sO b (.cells ((rws zi (l.eraseIdx i)).flatten++(zi l[l.length-1]++L)))).obj b=some (.cells ((rws zi (l.eraseIdx i)).flatten++(zi l[l.length-1]++L))):=zd _ _ _
  generalize N.sO b _=N2 at ho2⊢
  refine Qap ?_
  refine⟨i+(l.length-(i+1)),l.length,rfl,rfl,by omega,hc1,.inl ⟨by omega,?_⟩⟩
  refine ul (ie:=ti197) (b:=b) (off:=0+(i+(l.length-(i+1)))*ti197.size) (l:=(rws zi (l.eraseIdx i)).flatten++(zi l[l.length-1]++L)) rfl rfl rfl rfl rfl rfl rfl (by omega) ho2 (by rw[Fag,j9 jh,hel,Fag,jh];show 0+(i+(l.length-(i+1)))*6+6<=_;omega) (by decide) ?_
  have e3:zw ((rws zi (l.eraseIdx i)).flatten++(zi l[l.length-1]++L)) (0+(i+(l.length-(i+1)))*ti197.size) (ti197.zero.map AV.s)=(rws zi (l.eraseIdx i)).flatten++(Mv++L):=by
   have h1:(rws zi (l.eraseIdx i)).flatten.length=0+(i+(l.length-(i+1)))*ti197.size:=by
    rw[j9 jh,hel]
    show _=0+(i+(l.length-(i+1)))*6
    omega
   rw[Cn h1,Fat]
   rfl
  rw[e3]
  have e4:i+(l.length-(i+1))=(l.eraseIdx i).length:=by omega
  refine ret (h _ _ (.inl (.inr ⟨b,cap,Mv++L,by rw[<-e4];rfl,zd _ _ _,by omega,by rw[Fag];show cap*6<=_*6+(6+L.length);omega,hc3⟩)))
 ·refine⟨i+1,l.length,rfl,rfl,by omega,hc1,.inr ⟨by omega,?_⟩⟩
  have e1:l.drop (i+1)=[]:=Fc1 (by omega)
  have hsp:=p5 jh hi L
  rw[e1]at hsp
  have hsp:zw ((rws zi l).flatten++L) (i*6) []=(rws zi (l.eraseIdx i)).flatten++(zi l[l.length-1]++L):=hsp
  have hsrc:SrcOK Tryz.prog N 6 0 (.s (.slice (some ⟨b,0,none⟩) 0 0)) []:=by
   have:=SrcOK.obj (P:=Tryz.prog) (k:=6) (m:=0) (o:=0) (cp:=0) ho (by omega) (λy hy=>by simp at hy)
   simpa using this
  refine⟨⟨.inr ⟨_,_,rfl,rfl,uc (ie:=ti197) (n:=i) (m:=0) (xs:=[]) rfl ho (by rw[Fag,j9 jh];exact hc2) (by omega) hsrc ⟨by show(i+(0))*48<=_;omega,by omega⟩ (λ_=>⟨Tv,?_⟩) (λhh=>by omega)⟩⟩,Tv⟩
  rw[show zw ((rws zi l).flatten++L) (i*ti197.size) []=(rws zi (l.eraseIdx i)).flatten++(zi l[l.length-1]++L)from hsp]
  have hel:=p6 hi
  have ho2:(N.sO b (.cells ((rws zi (l.eraseIdx i)).flatten++(zi l[l.length-1]++L)))).obj b=some (.cells ((rws zi (l.eraseIdx i)).flatten++(zi l[l.length-1]++L))):=zd _ _ _
  generalize N.sO b _=N2 at ho2⊢
  refine Qap ?_
  refine⟨i+(0),l.length,rfl,rfl,by omega,hc1,.inl ⟨by omega,?_⟩⟩
  refine ul (ie:=ti197) (b:=b) (off:=0+(i+(0))*ti197.size) (l:=(rws zi (l.eraseIdx i)).flatten++(zi l[l.length-1]++L)) rfl rfl rfl rfl rfl rfl rfl (by omega) ho2 (by rw[Fag,j9 jh,hel,Fag,jh];show 0+(i+(0))*6+6<=_;omega) (by decide) ?_
  have e3:zw ((rws zi (l.eraseIdx i)).flatten++(zi l[l.length-1]++L)) (0+(i+(0))*ti197.size) (ti197.zero.map AV.s)=(rws zi (l.eraseIdx i)).flatten++(Mv++L):=by
   have h1:(rws zi (l.eraseIdx i)).flatten.length=0+(i+(0))*ti197.size:=by
    rw[j9 jh,hel]
    show _=0+(i+(0))*6
    omega
   rw[Cn h1,Fat]
   rfl
  rw[e3]
  have e4:i+(0)=(l.eraseIdx i).length:=by omega
  refine ret (h _ _ (.inl (.inr ⟨b,cap,Mv++L,by rw[<-e4];rfl,zd _ _ _,by omega,by rw[Fag];show cap*6<=_*6+(6+L.length);omega,hc3⟩)))
section
variable {v:AV} {i:Nat} {w:Wld}
theorem ydk{N S:Store}(hd:zh N S){l:List Bld}(hv:RowsQ 6 zi N v l)(hl:l.length<=256)(hi:i<l.length)(R:Ja)(h:R (lst 6 zi (l.eraseIdx i)) S):Jb 317 [v,int (i:Nat),int ((i:Int)+1)] (N.un S) R:=by
 have h1:Jb 317 [v,int (i:Nat),int ((i:Int)+1)] N λr S2=>r=lst 6 zi (l.eraseIdx i)/\S2=Store.empty:=
  ACalls.frozenTo (ydl hv hl hi (λr N'=>RowsQ 6 zi N' r (l.eraseIdx i)) λv' N' h=>h) λr N' hr=>
   ⟨_,Store.empty,⟨rfl,rfl⟩,(λb x hx=>by cases hx),(λb x hx=>by cases hx),λOth M w v' sto hx=>by
    refine(nc hr sto hx).mono λb o hT=>?_
    exact⟨hT.1,hT.2.resolve_right λhh=>hh rfl⟩⟩
 exact ACalls.frame hd h1 λr S2 ⟨e,e2⟩ hd2=>by subst e e2;rw[vg];exact h
theorem yda(b:Bld)(pb xw s:Nat)(c:Cmd)(fv:AV)(st:Store)(hb:st.obj pb=some (.cells [ptr xw]))(hx:st.obj xw=some (.cells (wkC s c fv)))(R:Ja)(h:R (V.bool (decide (b.id=c.N))) st):Jb 316 ([.agg (zi b)]++[ptr pb]) st R:=by
 rw[<-br]at h
 refine Qa (c:=cfg 12) zb Tryz.func316 ?_
 refine Qc zb zsq ?_
 refine Qaq ?_
 refine Qaq ?_
 refine⟨⟨?_,?_⟩,Tv⟩
 ·repeat(first|exact Tv|refine⟨rfl,?_⟩|refine⟨za (o:=st.obj pb) _ hb rfl,?_⟩|refine⟨za (o:=st.obj xw) _ hx rfl,?_⟩)
 exact ret h
theorem yde{c:Cmd}(h:Cf w.B c.N=some i)(hi:i<w.B.length):drE w c=if w.B[i].owner=c.P then 0 else 6:=by
 unfold drE
 rw[h]
 simp[Fbb,hi]
theorem yco{l:List Bld}{id:Int}(h:Cf l id=some i):∃hi:i<l.length,l[i].id=id:=by
 unfold Cf at h
 rw[Fbg]at h
 obtain⟨h1,h2,_⟩:=h
 exact⟨h1,of_decide_eq_true h2⟩
theorem zaq{F G:Store}{xw s p:Nat}{L:List Ent}{o0 o1 o2:AV}{c:Cmd}{fv:AV}(hW:Work F G xw s p w v L o0 o1 o2 c fv)(hm:MayF w)(R:Ja)
  (h:∀S',drE w c≠0->R (int (drE w c)) S') (h0:drE w c=0->∀S',Bm S' xw s c fv (drW w c)->R (int 0) S'):Jb 229 [ptr xw] (F.un (svS G s w v o0 o1 o2 p)) R:=by
 have hx:=hW.x (F':=F) (q0:=o0) (q1:=o1) (q2:=o2)
 have hs:=hW.s (F':=F) (q0:=o0) (q1:=o1) (q2:=o2)
 have hr:=hW.r (F':=F) (q0:=o0) (q1:=o1) (q2:=o2)
 have hxs:=hW.ne
 have hos:=hW.os
 have hB:=hm.hB
 obtain⟨oa,cap,e,hget⟩:=hW.S.hu.form
 subst e
 generalize F.un (svS G s w _ o0 o1 o2 p)=S at hx hs hr⊢
 refine Qa (c:=cfg 56 [1] []) zb Tryz.func229 ?_
 intro pb hpb
 have hbx:xw≠pb:=λe=>by
  subst e
  have:=hpb.1
  rw[hx]at this
  cases this
 have hbs:s≠pb:=λe=>by
  subst e
  have:=hpb.1
  rw[hs]at this
  cases this
 have hb:(S.sO pb (.cells [ptr xw])).obj pb=some (.cells [ptr xw]):=zd _ _ _
 have hx:=(zg (st:=S) (x:=.cells [ptr xw]) hbx).trans hx
 have hs:=(zg (st:=S) (x:=.cells [ptr xw]) hbs).trans hs
 have hr:=hr.set (Hi hr hpb.1) (.cells [ptr xw])
 refine za (o:=(S.sO pb (.cells [ptr xw])).obj pb) _ hb ?_
 refine za (o:=(S.sO pb (.cells [ptr xw])).obj xw) _ hx ?_
 refine za (o:=(S.sO pb (.cells [ptr xw])).obj s) _ hs ?_
 refine td w.B (by omega) _ _ (λb=>decide (b.id=c.N)) _ (λb _ R h=>yda b pb xw s c fv _ hb hx R h) _ ?_
 have hfb:(w.B.findIdx? λb=>decide (b.id=c.N))=Cf w.B c.N:=rfl
 rw[hfb]
 refine bcd (λc1=>?_) (λc1=>?_)
 ·cases hf:Cf w.B c.N with
  |some i=>rw[hf]at c1;exact absurd c1 (by show¬((i:Int)<0);omega)
  |none=>
   have he:drE w c=3:=by unfold drE;rw[hf]
   have:=h (S.sO pb (.cells [ptr xw])) (by rw[he];decide)
   rw[he]at this
   exact ret this
 cases hf:Cf w.B c.N with
 |none=>rw[hf]at c1;exact absurd (show(-1:Int)<0 by decide) c1
 |some i=>
 obtain⟨hi,hid⟩:=yco hf
 have he:=yde hf hi
 refine Qc zb ztd ?_
 refine za (o:=(S.sO pb (.cells [ptr xw])).obj pb) _ hb ?_
 refine za (o:=(S.sO pb (.cells [ptr xw])).obj xw) _ hx ?_
 refine za (o:=(S.sO pb (.cells [ptr xw])).obj s) _ hs ?_
 refine⟨i,rfl,za _ (zq hi) ?_⟩
 refine za (o:=(S.sO pb (.cells [ptr xw])).obj pb) _ hb ?_
 refine za (o:=(S.sO pb (.cells [ptr xw])).obj xw) _ hx ?_
 refine⟨⟨?_,?_⟩,Tv⟩
 ·repeat(first|exact Tv|refine⟨rfl,?_⟩|refine⟨za (o:=(S.sO pb (.cells [ptr xw])).obj pb) _ hb rfl,?_⟩|refine⟨za (o:=(S.sO pb (.cells [ptr xw])).obj xw) _ hx rfl,?_⟩|refine⟨za (o:=(S.sO pb (.cells [ptr xw])).obj s) _ hs rfl,?_⟩|refine⟨⟨i,rfl,za _ (zq hi) rfl⟩,?_⟩)
 refine qt (λc2=>?_) (λc2=>?_)
 ·rw[if_neg c2]at he
  have:=h (S.sO pb (.cells [ptr xw])) (by rw[he];decide)
  rw[he]at this
  exact ret this
 rw[if_pos c2]at he
 have hW2:drW w c={w with B:=w.B.eraseIdx i}:=by unfold drW;rw[hf]
 refine Qc zb ztc ?_
 refine za (o:=(S.sO pb (.cells [ptr xw])).obj pb) _ hb ?_
 refine za (o:=(S.sO pb (.cells [ptr xw])).obj xw) _ hx ?_
 refine za (o:=(S.sO pb (.cells [ptr xw])).obj pb) _ hb ?_
 refine za (o:=(S.sO pb (.cells [ptr xw])).obj xw) _ hx ?_
 refine za (o:=(S.sO pb (.cells [ptr xw])).obj s) _ hs ?_
 refine ze (by show -9223372036854775808<=((i:Nat):Int)+1/\((i:Nat):Int)+1<=9223372036854775807;omega) ?_
 refine⟨Px w.B (by omega) _ _ (λv2 N hv2 hd=>⟨?_,?_⟩),Tv⟩
 ·have hb2:(N.un (S.sO pb (.cells [ptr xw]))).obj pb=_:=zf hb
  have hx2:(N.un (S.sO pb (.cells [ptr xw]))).obj xw=_:=zf hx
  have hs2:(N.un (S.sO pb (.cells [ptr xw]))).obj s=_:=zf hs
  repeat(first|exact Tv|refine⟨rfl,?_⟩|refine⟨za (o:=(N.un (S.sO pb (.cells [ptr xw]))).obj pb) _ hb2 rfl,?_⟩|refine⟨za (o:=(N.un (S.sO pb (.cells [ptr xw]))).obj xw) _ hx2 rfl,?_⟩|refine⟨za (o:=(N.un (S.sO pb (.cells [ptr xw]))).obj s) _ hs2 rfl,?_⟩)
 refine⟨ydk hd hv2 (by omega) hi _ ⟨?_,?_⟩,Tv⟩
 ·repeat(first|exact Tv|refine⟨rfl,?_⟩|refine⟨za (o:=(S.sO pb (.cells [ptr xw])).obj pb) _ hb rfl,?_⟩|refine⟨za (o:=(S.sO pb (.cells [ptr xw])).obj xw) _ hx rfl,?_⟩|refine⟨za (o:=(S.sO pb (.cells [ptr xw])).obj s) _ hs rfl,?_⟩)
 refine⟨?_,Tv⟩
 refine za _ rfl (jq rfl (jk (v:=lst 6 zi (w.B.eraseIdx i)) rfl rfl rfl rfl ?_))
 refine Br (i:=ti25) (v:=lst 6 zi (w.B.eraseIdx i)) (b:=s) (o:=6) (l:=svC w (.s (.slice oa w.U.length cap)) o0 o1 o2 p) rfl rfl rfl hs (show 6+1<=12 by decide) ?_
 have hs3:((S.sO pb (.cells [ptr xw])).sO s (.cells (zw (svC w (.s (.slice oa w.U.length cap)) o0 o1 o2 p) 6 [lst 6 zi (w.B.eraseIdx i)]))).obj s=some (.cells (svC {w with B:=w.B.eraseIdx i} (.s (.slice oa w.U.length cap)) o0 o1 o2 p)):=zd _ _ _
 have hx3:=(zg (st:=S.sO pb (.cells [ptr xw])) (x:=.cells (zw (svC w (.s (.slice oa w.U.length cap)) o0 o1 o2 p) 6 [lst 6 zi (w.B.eraseIdx i)])) hxs).trans hx
 have hr3:=hr.set hos (.cells (zw (svC w (.s (.slice oa w.U.length cap)) o0 o1 o2 p) 6 [lst 6 zi (w.B.eraseIdx i)]))
 have hb3:=(zg (st:=S.sO pb (.cells [ptr xw])) (x:=.cells (zw (svC w (.s (.slice oa w.U.length cap)) o0 o1 o2 p) 6 [lst 6 zi (w.B.eraseIdx i)])) (Ne.symm hbs)).trans hb
 refine⟨Tv,?_⟩
 exact ret (h0 he _ (by rw[hW2];exact⟨_,o0,o1,o2,p,hx3,hs3,hr3⟩))
end
end Go.Proofs
namespace Go.Proofs
open Go Go.V
set_option maxRecDepth 20000
set_option maxHeartbeats 4000000
def smallW(w:Wld):Prop:=(∀u∈w.U,u.pos.ok)/\w.G.T.length<=1000000/\w.B.length<=1000000/\w.U.length<=1000000
theorem smallW.fits{w:Wld}(h:smallW w):w.fits:=⟨by unfold Gnd.fits;have:=h.2.1;omega,by have:=h.2.2.1;omega,by have:=h.2.2.2;omega⟩
theorem ydg{F G N:Store}{xw s p fb:Nat}{room:Int}{kc:Nat}{w:Wld}{v:AV}{L:List Ent}{o0 o1 o2:AV}{c:Cmd}(hW:Work F G xw s p w v L o0 o1 o2 c (xh fb))(hdN:zh (F.un (svS G s w v o0 o1 o2 p)) N)(hFN:FldAny fb room (kc:Nat) N)(hm:z8 w)(hn:∀u∈w.U,u.pos.ok)(hc:Ah c)(hp:c.P<=w.players)(R:Ja)
  (h:∀S' N',aE w c≠0->zh S' N'->FldAny fb room (kc:Nat) N'->R (int (aE w c)) (S'.un N')) (h0:aE w c=0->∀S' N',Bm S' xw s c (xh fb) (aW w c)->zh S' N'->FldAny fb room (kc:Nat) N'->R (int 0) (S'.un N')):
  Jb 146 [ptr xw] ((F.un (svS G s w v o0 o1 o2 p)).un N) R:=by
 have hx:=ya hdN (hW.x (F':=F) (q0:=o0) (q1:=o1) (q2:=o2))
 refine Qa (c:=cfg 34) zb Tryz.func146 ?_
 refine za (o:=((F.un (svS G s w v o0 o1 o2 p)).un N).obj xw) _ hx ?_
 have lift:∀{f:FuncId} {E:Int} {W:Wld},(∀R:AV->Store->Prop,(∀S',E≠0->R (int E) S')->(E=0->∀S',Bm S' xw s c (xh fb) W->R (int 0) S')->Jb f [ptr xw] (F.un (svS G s w v o0 o1 o2 p)) R)->E=aE w c->W=aW w c->
   ∀K:AV->Store->Prop,(∀S' N',aE w c≠0->zh S' N'->FldAny fb room (kc:Nat) N'->K (int (aE w c)) (S'.un N'))->(aE w c=0->∀S' N',Bm S' xw s c (xh fb) (aW w c)->zh S' N'->FldAny fb room (kc:Nat) N'->K (int 0) (S'.un N'))->
   Jb f [ptr xw] ((F.un (svS G s w v o0 o1 o2 p)).un N) K:=λ{f E W} hf e1 e2 K k1 k2=>by
  subst e1 e2
  refine ACalls.frame hdN (hf (λr S=>(aE w c≠0/\r=int (aE w c))\/(aE w c=0/\r=int 0/\Bm S xw s c (xh fb) (aW w c))) (λS' he=>.inl ⟨he,rfl⟩) (λhe S' hd=>.inr ⟨he,rfl,hd⟩)) ?_
  rintro r S (⟨he,rfl⟩|⟨he,rfl,hd⟩) hd'
  ·exact k1 S N he hd' hFN
  ·exact k2 he S N hd hd' hFN
 rcases Vz hc with q|q|q|q|q|q|q
 ·obtain⟨e1,e2⟩:=a1 (w:=w) q
  refine zy (λ_=>?_) (λc1=>absurd q c1)
  refine lift (λR a b=>uz hW (kh hm) hn (yel ((Cmd.ok1 q).1 hc.1).2) R a b) e1.symm e2.symm _ (λS' N' he hd hF=>ret (h S' N' he hd hF)) (λhe S' N' h1 h2 h3=>ret (h0 he S' N' h1 h2 h3))
 ·obtain⟨e1,e2⟩:=a2 (w:=w) q
  refine zy (λc1=>absurd (q.symm.trans c1) (by decide)) (λ_=>?_)
  refine zy (λ_=>?_) (λc1=>absurd q c1)
  rw[e1]at h h0
  rw[e2]at h0
  refine zak hW hdN hFN (kh hm) hn ((Cmd.ok2 q).1 hc.1).1.1.2 _ (λS' N' he hd hF=>ret (h S' N' he hd hF)) (λhe S' N' h1 h2 h3=>ret (h0 he S' N' h1 h2 h3))
 ·obtain⟨e1,e2⟩:=a3 (w:=w) q
  refine zy (λc1=>absurd (q.symm.trans c1) (by decide)) (λ_=>?_)
  refine zy (λc1=>absurd (q.symm.trans c1) (by decide)) (λ_=>?_)
  refine zy (λ_=>?_) (λc1=>absurd q c1)
  refine lift (λR a b=>uy hW (kh hm) hn ((Cmd.ok3 q).1 hc.1).1.2 R a b) e1.symm e2.symm _ (λS' N' he hd hF=>ret (h S' N' he hd hF)) (λhe S' N' h1 h2 h3=>ret (h0 he S' N' h1 h2 h3))
 ·obtain⟨e1,e2⟩:=a4 (w:=w) q
  refine zy (λc1=>absurd (q.symm.trans c1) (by decide)) (λ_=>?_)
  refine zy (λc1=>absurd (q.symm.trans c1) (by decide)) (λ_=>?_)
  refine zy (λc1=>absurd (q.symm.trans c1) (by decide)) (λ_=>?_)
  refine zy (λ_=>?_) (λc1=>absurd q c1)
  refine lift (λR a b=>zar hW hm hn hc q R a b) e1.symm e2.symm _ (λS' N' he hd hF=>ret (h S' N' he hd hF)) (λhe S' N' h1 h2 h3=>ret (h0 he S' N' h1 h2 h3))
 ·obtain⟨e1,e2⟩:=a5 (w:=w) q
  refine zy (λc1=>absurd (q.symm.trans c1) (by decide)) (λ_=>?_)
  refine zy (λc1=>absurd (q.symm.trans c1) (by decide)) (λ_=>?_)
  refine zy (λc1=>absurd (q.symm.trans c1) (by decide)) (λ_=>?_)
  refine zy (λc1=>absurd (q.symm.trans c1) (by decide)) (λ_=>?_)
  refine zy (λ_=>?_) (λc1=>absurd q c1)
  refine lift (λR a b=>zaq hW (kh hm) R a b) e1.symm e2.symm _ (λS' N' he hd hF=>ret (h S' N' he hd hF)) (λhe S' N' h1 h2 h3=>ret (h0 he S' N' h1 h2 h3))
 ·obtain⟨e1,e2⟩:=a6 (w:=w) q
  refine zy (λc1=>absurd (q.symm.trans c1) (by decide)) (λ_=>?_)
  refine zy (λc1=>absurd (q.symm.trans c1) (by decide)) (λ_=>?_)
  refine zy (λc1=>absurd (q.symm.trans c1) (by decide)) (λ_=>?_)
  refine zy (λc1=>absurd (q.symm.trans c1) (by decide)) (λ_=>?_)
  refine zy (λc1=>absurd (q.symm.trans c1) (by decide)) (λ_=>?_)
  refine zy (λ_=>?_) (λc1=>absurd q c1)
  refine lift (λR a b=>zam hW hm hn ((Cmd.ok6 q).1 hc.1).1.1.2 ((Cmd.ok6 q).1 hc.1).2.1 R a b) e1.symm e2.symm _ (λS' N' he hd hF=>ret (h S' N' he hd hF)) (λhe S' N' h1 h2 h3=>ret (h0 he S' N' h1 h2 h3))
 ·obtain⟨e1,e2⟩:=a7 (w:=w) q
  refine zy (λc1=>absurd (q.symm.trans c1) (by decide)) (λ_=>?_)
  refine zy (λc1=>absurd (q.symm.trans c1) (by decide)) (λ_=>?_)
  refine zy (λc1=>absurd (q.symm.trans c1) (by decide)) (λ_=>?_)
  refine zy (λc1=>absurd (q.symm.trans c1) (by decide)) (λ_=>?_)
  refine zy (λc1=>absurd (q.symm.trans c1) (by decide)) (λ_=>?_)
  refine zy (λc1=>absurd (q.symm.trans c1) (by decide)) (λ_=>?_)
  rw[e1]at h h0
  rw[e2]at h0
  refine ux hW hdN hFN (kh hm) hn _ (λS' N' he hd hF=>ret (h S' N' he hd hF)) (λhe S' N' h1 h2 h3=>ret (h0 he S' N' h1 h2 h3))
theorem ydi{N:Store}{fb:Nat}{room:Int}{kc:Nat}(hF:FldAny fb room (kc:Nat) N)(w:Wld)(hm:z8 w)(hn:∀u∈w.U,u.pos.ok)(c:Cmd)(hc:c.fits):Jb 93 [.agg (zv w),.agg (qs c),xh fb] N λr S=>
  (r=.tup [.agg (zv (doW aE aW w c)),int (doE aE w c)]/\FldAny fb room (kc:Nat) S)\/∃X N' v,RowsQ 10 zk X v (doW aE aW w c).U/\zh X N'/\FldAny fb room (kc:Nat) N'/\S=X.un N'/\r=.tup [.agg (qv (doW aE aW w c) v),int (doE aE w c)]:=by
 have mf:=kh hm
 have hU:=mf.hU
 have hB:=mf.hB
 have hT:=mf.hT
 refine Qa (c:=cfg 41 [27] []) zb Tryz.func93 ?_
 refine yen c hc _ _ (λzc hzc=>?_)
 have bad:(¬Ah c\/w.players<c.P)->∀X:Prop,((.tup [.agg (zv w),int 1]:AV)=.tup [.agg (zv (doW aE aW w c)),int (doE aE w c)]/\FldAny fb room (kc:Nat) N)\/X:=λhb X=>by
  have he:=rm (E:=aE) (w:=w) (c:=c) (.inr hb)
  rw[Wx (by rw[he];decide),he]
  exact .inl ⟨rfl,hF⟩
 refine yl ?_
 refine zj (λc1=>?_) (λc1=>?_)
 rotate_left
 ·exact ret (bad (.inl λhh=>by have:=hzc.2 hh;rw[this]at c1;cases c1) _)
 refine bcd (λc2=>?_) (λc2=>?_)
 ·exact ret (bad (.inr (by omega)) _)
 clear bad
 have hcp:=hzc.1 c1
 have he:=rl (E:=aE) hm hcp (show c.P<=w.players by omega)
 have hown:∀R:AV->Store->Prop,(∀v X,RowsQ 10 zk X v w.U->zh X N->R (.agg (qv w v)) (X.un N))->Jb 91 [.agg (zv w)] N R:=λR h=>by
  rw[<-vg N]
  refine ACalls.frame (Ku _) (lk w (by omega) (by omega) (by omega) (λr S=>∃v,RowsQ 10 zk S v w.U/\r=.agg (qv w v)) (λv N h=>⟨v,h,rfl⟩)) ?_
  rintro r a' ⟨v,h1,rfl⟩ hd'
  exact h v a' h1 hd'
 refine Qc zb zrl ?_
 refine⟨hown _ (λv X hv hXN=>⟨Qe,?_⟩),Tv⟩
 have hopen:=ACalls.frame hXN (lp w v X hv (by omega) hn (λr S=>∃F s p L o0 o1 o2,r=ptr s/\S=F.un (svS X s w v o0 o1 o2 p)/\Fresh X s/\StandR F X s p w v L o0 o1 o2/\L.length<=w.U.length/\(yf w.U->∀e,e∈L↔∃u∈w.U,u.inn=0/\e=(u.id,u.pos))) (λF s p L o0 o1 o2 h1 h2 h3 h4=>⟨F,s,p,L,o0,o1,o2,rfl,rfl,h1,h2,h3,h4⟩))
  (R':=λr S=>∃F s p L o0 o1 o2,r=ptr s/\S=(F.un (svS X s w v o0 o1 o2 p)).un N/\zh (F.un (svS X s w v o0 o1 o2 p)) N/\StandR F X s p w v L o0 o1 o2/\L.length<=w.U.length/\(yf w.U->∀e,e∈L↔∃u∈w.U,u.inn=0/\e=(u.id,u.pos)))
  (λr a' ⟨F,s,p,L,o0,o1,o2,h1,h2,h3,h4,h5,h6⟩ hd=>⟨F,s,p,L,o0,o1,o2,h1,by rw[h2],h2▸hd,h4,h5,h6⟩)
 refine⟨hopen.imp ?_,Tv⟩
 rintro _ _ ⟨F,s,p,L,o0,o1,o2,rfl,rfl,hdN,hS,hLl,hL⟩
 refine⟨Qe,?_⟩
 refine⟨λxw hxw=>⟨Qe,?_⟩,Tv⟩
 refine Qap ?_
 have hxw:=fresh_iff.1 hxw
 have hx1:¬F.has xw/\¬(svS X s w v o0 o1 o2 p).has xw:=⟨λh=>hxw (un_has.2 (.inl (un_has.2 (.inl h)))),λh=>hxw (un_has.2 (.inl (un_has.2 (.inr h))))⟩
 have hxN:¬N.has xw:=λh=>hxw (un_has.2 (.inr h))
 have hne:xw≠s:=λe=>hx1.2 (svS_has.2 (.inl e))
 have hxX:¬X.has xw:=λh=>hx1.2 (svS_has.2 (.inr h))
 have e0:((F.un (svS X s w v o0 o1 o2 p)).un N).sO xw (.cells (wkC s c (xh fb)))=(F.un (svS (X.sO xw (.cells (wkC s c (xh fb)))) s w v o0 o1 o2 p)).un N:=by
  rw[Gx hxN,zu]
  unfold svS
  rw[D3 hne]
 have hdW:zh (F.un (svS (X.sO xw (.cells (wkC s c (xh fb)))) s w v o0 o1 o2 p)) N:=λi h1 h2=>by
  rcases un_has.1 h1 with h1|h1
  ·exact hdN i (un_has.2 (.inl h1)) h2
  ·rcases svS_has.1 h1 with h1|h1
   ·exact hdN i (un_has.2 (.inr (svS_has.2 (.inl h1)))) h2
   ·rcases has_setObj_iff.1 h1 with rfl|h1
    ·exact hxN h2
    ·exact hdN i (un_has.2 (.inr (svS_has.2 (.inr h1)))) h2
 have offx:=Hi hv (wu hxX).1
 have offs:=Hi hv hS.hs
 have hW:Work F (X.sO xw (.cells (wkC s c (xh fb)))) xw s p w v L o0 o1 o2 c (xh fb):=by
  refine⟨⟨hS.hc,λi h1 h2=>?_,?_,hv.set offx _,hS.h0,hS.h1,hS.h2⟩,zd _ _ _,offx,offs,hLl,hL mf.hr⟩
  ·rcases svS_has.1 h2 with rfl|h2
   ·exact hS.hd _ h1 (svS_has.2 (.inl rfl))
   ·rcases has_setObj_iff.1 h2 with rfl|h2
    ·exact hx1.1 h1
    ·exact hS.hd _ h1 (svS_has.2 (.inr h2))
  ·rw[zg (Ne.symm hne)];exact hS.hs
 refine cast (congrArg (λst=>Jb 146 [ptr xw] st _) e0.symm) ?_
 refine ydg hW hdW hF hm hn hcp (by omega) _ (λS' N' hE hd' hF'=>?_) (λhE S' N' hdn hd' hF'=>?_)
 ·refine qt (λ_=>?_) (λh=>absurd h hE)
  rw[he,Wx (by rw[he];exact hE)]
  exact⟨_,N',Tt,⟨λb x hx=>zf hx,λb x hx=>Dy hx⟩,.inl ⟨rfl,hF'⟩⟩
 ·obtain⟨v2,q0,q1,q2,p2,g1,g2,g3⟩:=hdn
  obtain⟨oa,cap,e2,_⟩:=g3.form
  subst e2
  refine za (o:=(S'.un N').obj xw) _ (ya hd' g1) ?_
  refine za (o:=(S'.un N').obj s) _ (ya hd' g2) ?_
  rw[he,rj (he.trans hE),hE]
  exact ret (.inr ⟨S',N',_,g3,hd',hF',rfl,rfl⟩)
theorem ydj:DoC:=λfb room k N w c hF hw hc R h=>by
 refine(ydi hF w hw.1 hw.2 c hc).frozenTo ?_
 rintro r S (⟨rfl,hF'⟩|⟨X,N',v,hX,hd,hF',rfl,rfl⟩)
 ·exact⟨_,S.objs,h _ hF'.objs,λb x hx=>hx,λb x hx=>(by cases hx),λOth M W x sto hx=>hx.mono λb o hT=>hT.1⟩
 ·refine⟨_,N'.objs,h _ hF'.objs,λb x hx=>zf hx,λb x hx=>(by cases hx),λOth M W x sto hx=>?_⟩
  have sX:StoreOK X Oth M W:=sto.weaken ⟨λb y hy=>ya hd hy,λb y hy=>K8 hd hy⟩
  have ht:∀b,((X.un N').obj b=none\/N'.objs.obj b≠none)->X.obj b=none:=λb hb=>by
   rcases hb with hb|hb
   ·exact(I8 hb).1
   ·cases hx:X.obj b with
    |none=>rfl
    |some y=>exact absurd (wu (hd b (xu hx))).1 hb
  exact VRel.mono (λb o h=>⟨h.1,ht b h.2⟩) (hx.tup2 (λx hx=>ct hX sX hx) (λx hx=>jm hx))
theorem zao(i n:Int)(hn:0<n)(hn2:n<=1000)(st:Store)(R:Ja)(h:∀k:Int,0<=k->k<n->R (int k) st):Jb 23 [int i,int n] st R:=by
 refine Qa (c:=cfg 11) zb Tryz.func23 ?_
 have e1:IntKind.u64.wrap n=n:=Aj (by omega) (by omega)
 have h0:0<=IntKind.u64.wrap i:=by rw[Ia];omega
 refine⟨by rw[e1];omega,?_⟩
 have h1:(IntKind.u64.wrap i).tmod n=(IntKind.u64.wrap i)%n:=Fdo h0
 have h2:=Fc0 (IntKind.u64.wrap i) (show n≠0 by omega)
 have h3:=Fdf (IntKind.u64.wrap i) hn
 refine⟨by rw[e1,h1];exact⟨by omega,by omega⟩,?_⟩
 rw[e1,h1]
 exact ret (h _ h2 h3)
theorem zqn(a:Ask25)(hl:a.S.L.length<=1000):Jb 45 [.agg (H4 a)] Store.empty λr _=>∃n:Nat,1<=n/\n<=4/\r=lst 1 Mi (G4 a.S.L n):=by
 refine Qa (c:=cfg 44) zb Tryz.func45 ?_
 refine zao _ 4 (by decide) (by decide) _ _ (λn0 h0 h4=>?_)
 refine Qd ?_
 obtain⟨n,rfl⟩:∃n:Nat,n0=((n:Nat):Int)-1:=⟨(n0+1).toNat,by omega⟩
 have hn:1<=n/\n<=4:=by omega
 clear h0 h4
 refine AWp.loop (σ:=Nat×AV) ⟨λx=>[(1,.bx 1 0),(3,.av (int (n:Nat))),(4,.av x.2),(5,.av (int (x.1:Nat)))],λx=>[(1,H4 a)],
  λx st'=>x.1<=8/\App 1 Store.empty x.2 (rws Mi ((List.range x.1).map (Gm a.S.L n))) st',λx=>8-x.1⟩ zb ?_ ?_
 ·refine⟨(0,.s (.slice none 0 0)),Tv,⟨Fai _,App.start 1 _⟩,⟨Tq,?_,Tq,Tq,Tv⟩,⟨rfl,Tv⟩⟩
  have e:(1:Int)+((n:Int)-1)=(n:Nat):=by omega
  show LV.le (.av (int (1+((n:Int)-1)))) _
  rw[e];exact Tq
 rintro⟨i,v⟩ st' ⟨hi,ha⟩
 dsimp only at hi ha⊢
 refine bcd (λc1=>?_) (λc1=>?_)
 rotate_left
 ·have:i=8:=by omega
  subst this
  exact⟨_,_,ha.le,ha.has,n,hn.1,hn.2,rfl⟩
 have hlt:i<8:=by omega
 have hm:i*n<=28:=by
  have:=Fdr (show i<=7 by omega) hn.2
  omega
 have em:(i:Int)*(n:Int)=((i*n:Nat):Int):=by omega
 refine Qc zb zsb ?_
 refine ze (by rw[em];omega) ?_
 refine ze (by rw[em];omega) ?_
 refine ze (by rw[em];omega) ?_
 refine Qao ?_
 refine Qap ?_
 have hr:=zl (f:=qs) a.S.L
 refine⟨min (i*n) a.S.L.length,min (i*n+n) a.S.L.length,?_,?_,by omega,by omega,?_⟩
 ·show min2 _ _=_
  unfold min2
  rw[hr,em]
  rw[Fc3]
  split<;>omega
 ·show min2 _ _=_
  unfold min2
  rw[hr,em]
  rw[Fc3]
  split<;>omega
 have erow:((rws qs a.S.L).take (min (i*n+n) a.S.L.length)).drop (min (i*n) a.S.L.length)=rws qs (Gm a.S.L n i):=by
  unfold rws Gm
  rw[<-List.map_take,<-List.map_drop]
 rw[erow]
 refine⟨by decide,?_⟩
 refine Fo (ie:=ti68) (rows':=[Mi (Gm a.S.L n i)]) ha ?_ ?_ ⟨?_,?_⟩ (λv2 st2 ha2=>?_)
 ·rfl
 ·rfl
 ·simp[zl,ti68];omega
 ·simp[zl];omega
 refine Qd ?_
 refine⟨(i+1,v2),(show 8-(i+1)<8-i by omega),⟨hlt,?_⟩,Qal,⟨rfl,Tv⟩⟩
 dsimp only
 rw[List.range_succ,Fa9]
 unfold rws at ha2⊢
 rw[Fa9]
 exact ha2
theorem zqm(a:Ask25)(hl:a.S.L.length<=1000)(st:Store)(R:Ja)(h:∀n:Nat,1<=n->n<=4->R (lst 1 Mi (G4 a.S.L n)) st):Jb 45 [.agg (H4 a)] st R:=
 Gb (zqn a hl) st R λr ⟨n,h1,h2,e⟩=>e▸h n h1 h2
theorem Dd{a b:Store}(h:zh a b)(c:Store):a.un (b.un c)=b.un (a.un c):=by
 rw[<-Gy,un_comm h,Gy]
theorem yct{eb:Nat}{room:Int}{k:Nat}{w:Wld}{S:Store}(hE:EngR eb room k w S)(ht:w.tick=1099511627776)(l:List Cmd)(R:Ja)(h:R (.tup [nil,int 10]) S):Jb 47 [ptr eb,lst 10 qs l] S R:=by
 obtain⟨N,fb,rfl,hn,hF⟩:=hE.out
 refine Qa (c:=cfg 74) zb Tryz.func47 ?_
 refine za (o:=(N.sO eb _).obj eb) _ (zd _ _ _) ?_
 refine zy (λc1=>?_) (λc1=>absurd ht c1)
 exact ret h
section
variable {eb:Nat} {room:Int} {k:Nat} {w:Wld} {S G:Store}
theorem py(hE:EngR eb room k w S)(hd:zh S G)(hp:playW w)(R:Ja)(h:R (.agg (zv w)) (S.un G)):Jb 51 [ptr eb] (S.un G) R:=
 ACalls.frame hd (pw hE hp.sizes (λr S'=>r=.agg (zv w)/\S'=S) ⟨rfl,rfl⟩) λr a ⟨h1,h2⟩ _=>by subst h1 h2;exact h
theorem Wr{St:Store}(hE:EngR eb room k w S)(hd:zh S G)(hp:playW w)(e:St=S.un G)(R:Ja)(h:R (.agg (zv w)) St):Jb 51 [ptr eb] St R:=by
 subst e
 exact py hE hd hp R h
theorem p4(hE:EngR eb room k w S)(hd:zh S G)(hp:playW w)(l:List Cmd)(hf:∀c∈l,c.fits)(hl:l.length<=512)(hk:k<=100000000000000000)(R:Ja)
  (hmax:w.tick=1099511627776->R (.tup [nil,int 10]) (S.un G))
  (h:w.tick<1099511627776->∀S',EngR eb room (k+4096) (Ch w l) S'->zh S' G->R (.tup [lst 1 z6 (ko w l),int 0]) (S'.un G)):Jb 47 [ptr eb,lst 10 qs l] (S.un G) R:=by
 have ht:=hp.1.1.1.1.1.2
 by_cases e:w.tick=1099511627776
 ·refine ACalls.frame hd (yct hE e l (λr S'=>r=.tup [nil,int 10]/\S'=S) ⟨rfl,rfl⟩) λr a ⟨h1,h2⟩ _=>by subst h1 h2;exact hmax e
 ·refine ACalls.frame hd (pz hE hp l (.inr ydj) hf hl (by omega) hk (λr S'=>r=.tup [lst 1 z6 (ko w l),int 0]/\EngR eb room (k+4096) (Ch w l) S') λS' h=>⟨rfl,h⟩) λr a ⟨h1,h2⟩ hd'=>by subst h1;exact h (by omega) a h2 hd'
theorem Rk(hp:playW w)(hr:1<=room/\room<=4096)(R:Ja)(h:∀eb S,EngR eb room 0 w S->zh S G->R (.tup [ptr eb,int 0]) (S.un G)):Jb 43 [.agg (zv w),int room] G R:=by
 have hs:=hp.sizes
 have:=ACalls.frame (Ku G) (cr w (kh hp.1).fits hp.2 hs.1 hs.2.1 hs.2.2 room hr (λr S=>∃eb,r=.tup [ptr eb,int 0]/\EngR eb room 0 w S) (λh=>absurd hp.1 h) (λ_ eb S h=>⟨eb,rfl,h⟩)) (R':=R) λr a ⟨eb,h1,h2⟩ hd=>by subst h1;exact h eb a h2 hd
 rwa [vg]at this
theorem Wu(hE:EngR eb room k w S)(hd:zh S G)(hp:playW w)(l:List Cmd)(hf:∀c∈l,c.fits)(hl:l.length<=512)(hk:k<=100000000000000000)(R:Ja)
  (h:∀k' S',k'<=k+4096->EngR eb room k' (F8 w l) S'->zh S' G->R (.tup [lst 1 z6 (Oi w l),int (Vh w)]) (S'.un G)):Jb 47 [ptr eb,lst 10 qs l] (S.un G) R:=by
 by_cases e:w.tick=1099511627776
 ·obtain⟨e1,e2,e3⟩:=Vf e l
  have:=h k S (by omega) (e1.symm▸hE) hd
  rw[e2,e3]at this
  refine(p4 hE hd hp l hf hl hk (λr S'=>r=.tup [nil,int 10]/\S'=S.un G) (λ_=>⟨rfl,rfl⟩) (λh=>absurd e (by omega))).post (Store.Le.refl _) ?_
  rintro r S' ⟨rfl,rfl⟩
  refine⟨_,_,λW T v hv=>?_,Store.Le.refl _,this⟩
  exact hv.tup2 (λx hx=>AV.le_nil 1 _ _ _ hx) λx hx=>hx
 ·obtain⟨e1,e2,e3⟩:=Vg e l
  rw[e1,e2,e3]at h
  exact p4 hE hd hp l hf hl hk R (λhm=>absurd hm e) λ_ S' h1 h2=>h (k+4096) S' (Fak _) h1 h2
end
theorem yc1(a b:List Int)(ha:a.length<=1000000000000)(st:Store)(R:Ja)(h:R (bool (decide (a=b))) st):Jb 49 [lst 1 z6 a,lst 1 z6 b] st R:=by
 refine Qa (c:=cfg 26) zb Tryz.func49 ?_
 refine zj (λh1=>?_) (λh1=>?_)
 ·have:a≠b:=λh2=>Ol h1 (by rw[h2])
  rw[show decide (a=b)=false by simp[this]]at h
  exact⟨_,st,Tt,Store.Has.refl st,h⟩
 ·have hl:a.length=b.length:=Ks h1
  refine AWp.loop (σ:=Nat) ⟨λi=>[(0,.av (lst 1 z6 a)),(1,.av (lst 1 z6 b)),(5,.av (int i))],λ_=>[],λi st'=>i<=a.length/\a.take i=b.take i/\st'=st,λi=>a.length-i⟩ zb ?_ ?_
  ·exact⟨0,Tv,⟨Fai _,rfl,rfl⟩,Qal,Tv⟩
  ·rintro i st' ⟨hi,heq,hst⟩
   refine zj (λh2=>?_) (λh2=>?_)
   ·have hlt:i<a.length:=ki h2
    have hltb:i<b.length:=by omega
    refine Qc zb zrx ?_
    refine⟨i,rfl,za _ (zq hlt) ?_⟩
    refine⟨i,rfl,za _ (zq hltb) ?_⟩
    refine zj (λh3=>?_) (λh3=>?_)
    ·have hne:a[i]≠b[i]:=by
      intro h4
      rw[h4]at h3
      simp at h3
     have:a≠b:=by
      intro h4
      subst h4
      exact hne rfl
     rw[show decide (a=b)=false by simp[this]]at h
     subst hst
     exact⟨_,st',Tt,Store.Has.refl st',h⟩
    ·refine⟨⟨by omega,by omega⟩,?_⟩
     refine⟨i+1,?_,⟨hlt,?_,hst⟩,Qal,Tv⟩
     ·show a.length-(i+1)<a.length-i
      omega
     ·rw[Fac hlt,Fac hltb,heq]
      have:a[i]=b[i]:=by simpa using h3
      rw[this]
   ·have hge:i=a.length:=vr h2 hi
    subst hge hst
    have:a=b:=by
     rw[Fas,hl,Fas]at heq
     exact heq
    rw[show decide (a=b)=true by simp[this]]at h
    exact⟨_,st',Tt,Store.Has.refl st',h⟩
theorem rb(l:List Int)(hl:l.length<=1000)(st:Store)(R:Ja)(h:R (V.bool true) st):Jb 49 [lst 1 z6 l,lst 1 z6 l] st R:=
 yc1 l l (by omega) st R (by rw[decide_eq_true rfl];exact h)
theorem zah(a:Ask25)(hn:∀u∈a.S.W.U,u.pos.ok)(hfs:∀c∈a.S.L,c.sized):Jb 8 [.agg (H4 a)] Store.empty λr _=>r=V.bool true:=by
 refine Qa (c:=cfg 146) zb Tryz.func8 ?_
 refine yap a.S hfs _ _ (λz hz=>?_)
 refine zj (λc1=>ret rfl) (λc1=>?_)
 obtain⟨hgr,hL,hcf⟩:=hz c1
 have hfit:a.S.W.fits:=by
  unfold L7 at hgr
  exact⟨by unfold Gnd.fits;omega,by omega,by omega⟩
 refine zvu a.S.W hfit hn _ _ (λzm hzm=>?_)
 refine yl ?_
 refine zj (λc2=>?_) (λc2=>ret rfl)
 have hp:playW a.S.W:=⟨hzm.1 c2,hn⟩
 clear hz hgr hfit hzm c1 c2
 refine Rk hp (by decide) _ (λea Sa hA hdA=>?_)
 refine Rk hp (by decide) _ (λeb Sb hB hdB=>?_)
 refine Dn _ _ _ ?_
 refine Dn _ _ _ ?_
 refine zqm a (by omega) _ _ (λn hn1 hn4=>?_)
 have hT:∀cs∈G4 a.S.L n,cs.length<=4/\∀c∈cs,c.fits:=λcs hcs=>⟨by have:=(ed hcs).1;omega,λc hc=>hcf c ((ed hcs).2 c hc)⟩
 have hTl:=zb1 a.S.L n
 have hdBA:zh Sb Sa:=λj h1 h2=>hdB j h1 (un_has.2 (.inl h2))
 rw[Dd hdBA]
 generalize G4 a.S.L n=T at*
 generalize a.S.W=w0 at*
 refine AWp.loop (σ:=Nat×Wld×Nat×Nat×Store×Store×Store) ⟨λx=>[(3,.av (ptr ea)),(5,.av (ptr eb)),(7,.av (lst 1 Mi T)),(8,.av (int (x.1:Nat)))],λ_=>[],
  λx st'=>x.1<=8/\st'=x.2.2.2.2.1.un (x.2.2.2.2.2.1.un x.2.2.2.2.2.2)/\(zh x.2.2.2.2.1 x.2.2.2.2.2.1/\zh x.2.2.2.2.1 x.2.2.2.2.2.2/\zh x.2.2.2.2.2.1 x.2.2.2.2.2.2)/\EngR ea 1 x.2.2.1 x.2.1 x.2.2.2.2.1/\EngR eb 4096 x.2.2.2.1 x.2.1 x.2.2.2.2.2.1/\(x.2.2.1<=x.1*4096/\x.2.2.2.1<=x.1*4096)/\playW x.2.1,λx=>8-x.1⟩ zb ?_ ?_
 ·exact⟨(0,w0,0,0,Sa,Sb,Store.empty),Tv,⟨Fai _,rfl,⟨vh hdBA,hdA,λj h1 h2=>hdB j h1 (un_has.2 (.inr h2))⟩,hA,hB,⟨Fai _,Fai _⟩,hp⟩,Qal,Tv⟩
 clear hA hB hdA hdB hdBA hp
 rintro⟨i,w,ka,kb,Sa,Sb,B⟩ st' ⟨hi,rfl,⟨hab,haB,hbB⟩,hA,hB,⟨hka,hkb⟩,hp⟩
 dsimp only at hi hab haB hbB hA hB hka hkb hp⊢
 refine bcd (λc1=>?_) (λc1=>?_)
 rotate_left
 ·refine za4 _ _ ?_
  exact ret rfl
 have hlt:i<T.length:=by rw[zl]at c1;omega
 obtain⟨hcl,hcf1⟩:=hT _ (Faa hlt)
 have un2:∀{x y z:Store},zh x y->zh x z->zh x (y.un z):=λh1 h2 j h3 h4=>(un_has.1 h4).elim (h1 j h3) (h2 j h3)
 have sp:∀{x y z:Store},zh x (y.un z)->zh x y/\zh x z:=λh=>⟨λj h1 h2=>h j h1 (un_has.2 (.inl h2)),λj h1 h2=>h j h1 (un_has.2 (.inr h2))⟩
 refine py hA (un2 hab haB) hp _ ?_
 refine Rk hp (by decide) _ (λec Sc hC hdC=>?_)
 obtain⟨hca,hcx⟩:=sp hdC
 obtain⟨hcb,hcB⟩:=sp hcx
 rw[Dd hca]
 refine Dn _ _ _ ?_
 refine⟨i,rfl,za _ (zq hlt) ?_⟩
 refine Wu hA (un2 (vh hca) (un2 hab haB)) hp T[i] hcf1 (by omega) (by omega) _ (λka2 Sa2 hka2 hA2 hdA2=>?_)
 obtain⟨hac2,hax⟩:=sp hdA2
 obtain⟨hab2,haB2⟩:=sp hax
 rw[Dd hcb,Dd hab2]
 refine⟨i,rfl,za _ (zq hlt) ?_⟩
 refine Wu hB (un2 (vh hab2) (un2 (vh hcb) hbB)) hp T[i] hcf1 (by omega) (by omega) _ (λkb2 Sb2 hkb2 hB2 hdB2=>?_)
 obtain⟨hba2,hbx⟩:=sp hdB2
 obtain⟨hbc2,hbB2⟩:=sp hbx
 rw[Dd hac2,Dd hbc2]
 refine⟨i,rfl,za _ (zq hlt) ?_⟩
 refine Wu hC (un2 (vh hbc2) (un2 (vh hac2) hcB)) hp T[i] hcf1 (by omega) (by omega) _ (λkc2 Sc2 hkc2 hC2 hdC2=>?_)
 obtain⟨hcb2,hcx2⟩:=sp hdC2
 obtain⟨hca2,hcB2⟩:=sp hcx2
 have hp2:=zw8 hp T[i]
 have hl2:=zxw w T[i]
 have hf2:=(kh hp2.1).fits
 have ebc:Sc2.un (Sb2.un (Sa2.un B))=Sb2.un (Sc2.un (Sa2.un B)):=Dd hcb2 _
 have eac:Sc2.un (Sb2.un (Sa2.un B))=Sa2.un (Sb2.un (Sc2.un B)):=by rw[Dd hba2,Dd hca2,Dd hcb2]
 have goA:=λ(R:Ja) (h:R (.agg (zv (F8 w T[i]))) (Sc2.un (Sb2.un (Sa2.un B))))=>Wr hA2 (un2 (vh hba2) (un2 (vh hca2) haB2)) hp2 eac R h
 have goB:=λ(R:Ja) (h:R (.agg (zv (F8 w T[i]))) (Sc2.un (Sb2.un (Sa2.un B))))=>Wr hB2 (un2 (vh hcb2) (un2 hba2 hbB2)) hp2 ebc R h
 have goC:=λ(R:Ja) (h:R (.agg (zv (F8 w T[i]))) (Sc2.un (Sb2.un (Sa2.un B))))=>Wr hC2 hdC2 hp2 rfl R h
 refine Dn _ _ _ ?_
 refine Dn _ _ _ ?_
 refine qt (λc2=>absurd rfl c2) (λ_=>?_)
 refine Dn _ _ _ ?_
 refine Dn _ _ _ ?_
 refine qt (λc2=>absurd rfl c2) (λ_=>?_)
 refine rb _ (by omega) _ _ ?_
 refine rb _ (by omega) _ _ ?_
 refine goA _ ?_
 refine goB _ ?_
 refine ra _ hf2 _ _ ?_
 refine goA _ ?_
 refine goC _ ?_
 refine ra _ hf2 _ _ ?_
 refine Qd ?_
 refine⟨(i+1,F8 w T[i],ka2,kb2,Sa2,Sb2,Sc2.un B),(show 8-(i+1)<8-i by omega),⟨by dsimp only;omega,eac,⟨vh hba2,un2 (vh hca2) haB2,un2 (vh hcb2) hbB2⟩,hA2,hB2,⟨by dsimp only;omega,by dsimp only;omega⟩,hp2⟩,Qal,Tv⟩
theorem zaf(a:Ask25)(hn:∀u∈a.S.W.U,u.pos.ok)(hfs:∀c∈a.S.L,c.sized)(st:Store)(R:Ja)(h:R (V.bool true) st):Jb 8 [.agg (H4 a)] st R:=
 Gb (zah a hn hfs) st R λr hr=>hr▸h
end Go.Proofs
