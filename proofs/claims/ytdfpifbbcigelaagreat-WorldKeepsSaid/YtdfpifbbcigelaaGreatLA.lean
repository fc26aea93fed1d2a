/- Ground of laws of thronglaw25: contracts and plain lemmas; no condition beyond the row's own. -/
import Derived.Test.YtdfpifbbcigelaaGreatKZ
set_option linter.unusedSimpArgs false
set_option linter.unusedVariables false
namespace Go.Proofs
open Go Go.V
set_option maxRecDepth 20000
set_option maxHeartbeats 4000000
theorem yfs{w:Wld}(hm:z7 w){c:Cmd}(hc:Ai c)(hk:c.K=4)(hn:¬1099511627776<=w.next):yc (bdB w c)/\∀x∈w.B,x.id<(bdB w c).id:=by
 have hok:=(Cmd.ok4 hk).1 hc.1
 have mf:=jy hm
 have:=mf.hn1
 have hP:=hc.2.1
 refine⟨⟨by unfold bdB;dsimp only;omega,hP,hok.2.1,hok.2.2⟩,λx hx=>?_⟩
 have:=(hm.1.1.2.2 x hx).2
 exact this
theorem zao{F G:Store}{xw s p:Nat}{w:Wld}{v:AV}{L:List Ent}{o0 o1 o2:AV}{c:Cmd}{fv:AV}(hW:Work F G xw s p w v L o0 o1 o2 c fv)(hm:z7 w)(hn:∀u∈w.U,u.pos.ok)(hc:Ai c)(hk:c.K=4)(R:Ja)
  (h:∀S',bdE w c≠0->R (int (bdE w c)) S') (h0:bdE w c=0->∀S',Bn S' xw s c fv (bdW w c)->R (int 0) S'):Jb 228 [ptr xw] (F.un (svS G s w v o0 o1 o2 p)) R:=by
 have mf:=jy hm
 have hg:=mf.hg
 have hg1:=hg.1
 have hg2:=hg.2.1
 have hn2:=mf.hn2
 have hn1:=mf.hn1
 have hok:=(Cmd.ok4 hk).1 hc.1
 have hT:=hok.1
 unfold j9 at hT
 have hx:=hW.x (F':=F) (q0:=o0) (q1:=o1) (q2:=o2)
 have hs:=hW.s (F':=F) (q0:=o0) (q1:=o1) (q2:=o2)
 obtain⟨oa,cap,e,hget⟩:=hW.S.hu.form
 subst e
 have hq:c.T.tmod w.G.W=c.T%w.G.W:=Fdo hT.1
 have hq2:c.T.tdiv w.G.W=c.T/w.G.W:=Fbc hT.1
 have hq3:0<=c.T/w.G.W/\c.T/w.G.W<=c.T:=⟨Fcr hT.1 (by omega),Int.ediv_le_self _ hT.1⟩
 have bad:∀n:Int,n≠0->bdE w c=n->∀S,R (int n) S:=λn hn e S=>by
  have:=h S (by rw[e];exact hn)
  rw[e]at this
  exact this
 refine Qa (c:=cfg 116) zb Tryz.func228 ?_
 refine za (o:=(F.un (svS G s w _ o0 o1 o2 p)).obj xw) _ hx ?_
 refine za (o:=(F.un (svS G s w _ o0 o1 o2 p)).obj s) _ hs ?_
 refine Qc zb ztd ?_
 refine za (o:=(F.un (svS G s w _ o0 o1 o2 p)).obj xw) _ hx ?_
 refine⟨Ow w.G c.T hg _ _ (λz hz=>⟨?_,?_⟩),Tv⟩
 ·repeat(first|exact Tv|refine⟨rfl,?_⟩|refine⟨za (o:=(F.un (svS G s w _ o0 o1 o2 p)).obj xw) _ hx rfl,?_⟩)
 refine Qap ?_
 refine yl ?_
 refine zj (λc1=>?_) (λc1=>?_)
 rotate_left
 ·have hno:¬(0<=c.T/\c.T<w.G.W*w.G.H):=λhh=>by have:=hz.2 hh;rw[this]at c1;cases c1
  exact ret (bad 3 (by decide) (by unfold bdE;rw[if_pos hno]) _)
 have ht:=hz.1 c1
 refine za (o:=(F.un (svS G s w _ o0 o1 o2 p)).obj xw) _ hx ?_
 refine za (o:=(F.un (svS G s w _ o0 o1 o2 p)).obj s) _ hs ?_
 refine zy (λc2=>?_) (λc2=>?_)
 ·exact ret (bad 4 (by decide) (by unfold bdE;rw[if_neg (λhh=>hh ht),if_pos (by omega)]) _)
 have hnx:¬1099511627776<=w.next:=by omega
 obtain⟨hbp,hid⟩:=yfs hm hc hk hnx
 refine Qc zb ztc ?_
 refine za (o:=(F.un (svS G s w _ o0 o1 o2 p)).obj xw) _ hx ?_
 refine za (o:=(F.un (svS G s w _ o0 o1 o2 p)).obj s) _ hs ?_
 refine za (o:=(F.un (svS G s w _ o0 o1 o2 p)).obj xw) _ hx ?_
 refine za (o:=(F.un (svS G s w _ o0 o1 o2 p)).obj xw) _ hx ?_
 refine⟨by omega,?_⟩
 refine za (o:=(F.un (svS G s w _ o0 o1 o2 p)).obj xw) _ hx ?_
 refine⟨by omega,?_⟩
 refine ze (by rw[hq2];omega) ?_
 refine za (o:=(F.un (svS G s w _ o0 o1 o2 p)).obj xw) _ hx ?_
 refine za (o:=(F.un (svS G s w _ o0 o1 o2 p)).obj xw) _ hx ?_
 refine⟨⟨?_,?_⟩,Tv⟩
 ·repeat(first|exact Tv|refine⟨rfl,?_⟩|refine⟨za (o:=(F.un (svS G s w _ o0 o1 o2 p)).obj xw) _ hx rfl,?_⟩|refine⟨za (o:=(F.un (svS G s w _ o0 o1 o2 p)).obj s) _ hs rfl,?_⟩|refine⟨⟨by omega,rfl⟩,?_⟩|refine⟨⟨by omega,ze (by rw[hq2];omega) rfl⟩,?_⟩)
 refine Qap ?_
 refine Qc zb ztb ?_
 refine za (o:=(F.un (svS G s w _ o0 o1 o2 p)).obj xw) _ hx ?_
 refine za (o:=(F.un (svS G s w _ o0 o1 o2 p)).obj s) _ hs ?_
 refine⟨yfe w.G hg w.B mf.hB mf.hb (bdB w c) hbp hid _ _ (λhe=>⟨?_,?_⟩) (λhe=>⟨?_,?_⟩),Tv⟩
 ·repeat(first|exact Tv|refine⟨rfl,?_⟩|refine⟨za (o:=(F.un (svS G s w _ o0 o1 o2 p)).obj xw) _ hx rfl,?_⟩|refine⟨za (o:=(F.un (svS G s w _ o0 o1 o2 p)).obj s) _ hs rfl,?_⟩)
 ·refine Qap ?_
  refine Qap ?_
  refine qu (λ_=>?_) (λhh=>absurd hh he)
  have e1:bdE w c=xc w.G w.B (bdB w c):=by unfold bdE;rw[if_neg (λhh=>hh ht),if_neg hnx,if_neg he]
  have:=h (F.un (svS G s w (.s (.slice oa w.U.length cap)) o0 o1 o2 p)) (by rw[e1];exact he)
  rw[e1]at this
  exact ret this
 ·repeat(first|exact Tv|refine⟨rfl,?_⟩|refine⟨za (o:=(F.un (svS G s w _ o0 o1 o2 p)).obj xw) _ hx rfl,?_⟩|refine⟨za (o:=(F.un (svS G s w _ o0 o1 o2 p)).obj s) _ hs rfl,?_⟩)
 refine Qap ?_
 refine Qap ?_
 have hon:onP w.G (bdB w c):=Classical.byContradiction λhh=>by
  unfold xc at he
  rw[if_pos hh]at he
  cases he
 have e1:bdE w c=(by classical exact if Hn w (bdB w c)then 5 else 0):=by
  unfold bdE
  rw[if_neg (λhh=>hh ht),if_neg hnx,if_pos he]
 refine zaj hW mf hn (zxp hm) (bdB w c) ⟨hbp,hon⟩ _ (λz F2 hz hS2=>?_)
 refine zj (λc3=>?_) (λc3=>?_)
 ·exact ret (bad 5 (by decide) (by rw[e1,if_pos (hz.1 c3)]) _)
 have hnm:¬Hn w (bdB w c):=λhh=>by have:=hz.2 hh;rw[this]at c3;cases c3
 have hz0:bdE w c=0:=by rw[e1,if_neg hnm]
 have hx2:=hW.x (F':=F2) (q0:=o0) (q1:=o1) (q2:=o2)
 have hs2:=hW.s (F':=F2) (q0:=o0) (q1:=o1) (q2:=o2)
 have hr2:=hW.r (F':=F2) (q0:=o0) (q1:=o1) (q2:=o2)
 have hos:=hW.os
 have hxs:=hW.ne
 generalize F2.un (svS G s w _ o0 o1 o2 p)=S at hx2 hs2 hr2⊢
 refine Qaq ?_
 refine Bs (i:=ti25) (v:=lst 6 zi (w.B++[bdB w c])) (b:=s) (o:=6) (l:=svC w (.s (.slice oa w.U.length cap)) o0 o1 o2 p) rfl rfl rfl hs2 (show 6+1<=12 by decide) ?_
 have hs3:(S.sO s (.cells (zv (svC w (.s (.slice oa w.U.length cap)) o0 o1 o2 p) 6 [lst 6 zi (w.B++[bdB w c])]))).obj s=some (.cells (svC {w with B:=w.B++[bdB w c]} (.s (.slice oa w.U.length cap)) o0 o1 o2 p)):=zd _ _ _
 have hx3:=(zg (st:=S) (x:=.cells (zv (svC w (.s (.slice oa w.U.length cap)) o0 o1 o2 p) 6 [lst 6 zi (w.B++[bdB w c])])) hxs).trans hx2
 have hr3:=hr2.set hos (.cells (zv (svC w (.s (.slice oa w.U.length cap)) o0 o1 o2 p) 6 [lst 6 zi (w.B++[bdB w c])]))
 generalize S.sO s _=S2 at hs3 hx3 hr3⊢
 refine Qaq ?_
 refine Qaq ?_
 refine ze (by dsimp only;omega) ?_
 refine Bs (i:=ti2) (v:=int (w.next+1)) (b:=s) (o:=2) (l:=svC {w with B:=w.B++[bdB w c]} (.s (.slice oa w.U.length cap)) o0 o1 o2 p) rfl rfl rfl hs3 (show 2+1<=12 by decide) ?_
 exact ret (h0 hz0 _ ⟨_,o0,o1,o2,p,(zg hxs).trans hx3,zd _ _ _,hr3.set hos _⟩)
end Go.Proofs
namespace Go.Proofs
open Go Go.V
set_option maxRecDepth 20000
set_option maxHeartbeats 4000000
end Go.Proofs
namespace Go.Proofs
open Go Go.V
set_option maxRecDepth 20000
set_option maxHeartbeats 4000000
def Mu:List AV:=[int 0,int 0,int 0,int 0,int 0,int 0]
theorem yfj(b:Bld):∀y∈zi b,y.one=true:=by
 intro y hy
 obtain⟨x,rfl,h⟩:=Mn b y hy
 exact h
theorem zuw(l:List Bld):∀y∈(rws zi l).flatten,y.one=true:=by
 intro y hy
 obtain⟨r,hr,hy⟩:=List.mem_flatten.1 hy
 obtain⟨b,_,rfl⟩:=Fad.1 hr
 exact yfj b y hy
theorem ydg{N:Store}{v:AV}{l:List Bld}(hv:RowsQ 6 zi N v l)(hl:l.length<=256){i:Nat}(hi:i<l.length)(R:Ja)(h:∀v' N',RowsQ 6 zi N' v' (l.eraseIdx i)->R v' N'):Jb 317 [v,int (i:Nat),int ((i:Int)+1)] N R:=by
 rcases hv with(⟨_,hl0⟩|⟨b,cap,L,rfl,ho,hc1,hc2,hc3⟩)|⟨_,_,_,hl0⟩
 ·subst hl0;exact absurd hi (Fbe _)
 rotate_left
 ·subst hl0;exact absurd hi (Fbe _)
 refine Qa (c:=cfg 33) zb Tryz.func317 ?_
 refine ygk (i:=i) (j:=i+1) (m:=l.length) rfl rfl rfl rfl (by omega) (by omega) hc1 (by omega) ?_
 refine zy (λhh=>absurd hh (by omega)) (λ_=>?_)
 refine Qc zb zsm ?_
 refine⟨0,i,rfl,rfl,Fai _,by omega,.inl ⟨by omega,?_⟩⟩
 by_cases hc:i+1<cap
 ·refine⟨i+1,l.length,rfl,rfl,by omega,hc1,.inl ⟨hc,?_⟩⟩
  refine⟨⟨.inr ⟨_,_,rfl,rfl,tz (ie:=ti197) (n:=i) (m:=l.length-(i+1)) (xs:=(rws zi (l.drop (i+1))).flatten) rfl ho (by rw[Fag,kj jj];exact hc2) (by omega) (by have:=SrcOK.obj (P:=Tryz.prog) (k:=6) (m:=l.length-(i+1)) (o:=0+(i+1)*6) (cp:=cap-(i+1)) ho (by rw[Fag,kj jj];omega) (by rw[Fbd,rd jj (by omega)];exact zuw _);rw[Fbd,rd jj (by omega)]at this;rw[Fbd];exact this) ⟨by show(i+(l.length-(i+1)))*48<=_;omega,by omega⟩ (λ_=>⟨Tv,?_⟩) (λhh=>by omega)⟩⟩,Tv⟩
  rw[show zv ((rws zi l).flatten++L) (i*ti197.size) (rws zi (l.drop (i+1))).flatten=(rws zi (l.eraseIdx i)).flatten++(zi l[l.length-1]++L)from p5 jj hi L]
  have hel:=p6 hi
  have ho2:(N.sO b (.cells ((rws zi (l.eraseIdx i)).flatten++(zi l[l.length-1]++L)))).obj b=some (.cells ((rws zi (l.eraseIdx i)).flatten++(zi l[l.length-1]++L))):=zd _ _ _
  generalize N.sO b _=N2 at ho2⊢
  refine Qap ?_
  refine⟨i+(l.length-(i+1)),l.length,rfl,rfl,by omega,hc1,.inl ⟨by omega,?_⟩⟩
  refine uj (ie:=ti197) (b:=b) (off:=0+(i+(l.length-(i+1)))*ti197.size) (l:=(rws zi (l.eraseIdx i)).flatten++(zi l[l.length-1]++L)) rfl rfl rfl rfl rfl rfl rfl (by omega) ho2 (by rw[Fag,kj jj,hel,Fag,jj];show 0+(i+(l.length-(i+1)))*6+6<=_;omega) (by decide) ?_
  have e3:zv ((rws zi (l.eraseIdx i)).flatten++(zi l[l.length-1]++L)) (0+(i+(l.length-(i+1)))*ti197.size) (ti197.zero.map AV.s)=(rws zi (l.eraseIdx i)).flatten++(Mu++L):=by
   have h1:(rws zi (l.eraseIdx i)).flatten.length=0+(i+(l.length-(i+1)))*ti197.size:=by
    rw[kj jj,hel]
    show _=0+(i+(l.length-(i+1)))*6
    omega
   rw[Cn h1,Fat]
   rfl
  rw[e3]
  have e4:i+(l.length-(i+1))=(l.eraseIdx i).length:=by omega
  refine ret (h _ _ (.inl (.inr ⟨b,cap,Mu++L,by rw[<-e4];rfl,zd _ _ _,by omega,by rw[Fag];show cap*6<=_*6+(6+L.length);omega,hc3⟩)))
 ·refine⟨i+1,l.length,rfl,rfl,by omega,hc1,.inr ⟨by omega,?_⟩⟩
  have e1:l.drop (i+1)=[]:=Fc1 (by omega)
  have hsp:=p5 jj hi L
  rw[e1]at hsp
  have hsp:zv ((rws zi l).flatten++L) (i*6) []=(rws zi (l.eraseIdx i)).flatten++(zi l[l.length-1]++L):=hsp
  have hsrc:SrcOK Tryz.prog N 6 0 (.s (.slice (some ⟨b,0,none⟩) 0 0)) []:=by
   have:=SrcOK.obj (P:=Tryz.prog) (k:=6) (m:=0) (o:=0) (cp:=0) ho (by omega) (λy hy=>by simp at hy)
   simpa using this
  refine⟨⟨.inr ⟨_,_,rfl,rfl,tz (ie:=ti197) (n:=i) (m:=0) (xs:=[]) rfl ho (by rw[Fag,kj jj];exact hc2) (by omega) hsrc ⟨by show(i+(0))*48<=_;omega,by omega⟩ (λ_=>⟨Tv,?_⟩) (λhh=>by omega)⟩⟩,Tv⟩
  rw[show zv ((rws zi l).flatten++L) (i*ti197.size) []=(rws zi (l.eraseIdx i)).flatten++(zi l[l.length-1]++L)from hsp]
  have hel:=p6 hi
  have ho2:(N.sO b (.cells ((rws zi (l.eraseIdx i)).flatten++(zi l[l.length-1]++L)))).obj b=some (.cells ((rws zi (l.eraseIdx i)).flatten++(zi l[l.length-1]++L))):=zd _ _ _
  generalize N.sO b _=N2 at ho2⊢
  refine Qap ?_
  refine⟨i+(0),l.length,rfl,rfl,by omega,hc1,.inl ⟨by omega,?_⟩⟩
  refine uj (ie:=ti197) (b:=b) (off:=0+(i+(0))*ti197.size) (l:=(rws zi (l.eraseIdx i)).flatten++(zi l[l.length-1]++L)) rfl rfl rfl rfl rfl rfl rfl (by omega) ho2 (by rw[Fag,kj jj,hel,Fag,jj];show 0+(i+(0))*6+6<=_;omega) (by decide) ?_
  have e3:zv ((rws zi (l.eraseIdx i)).flatten++(zi l[l.length-1]++L)) (0+(i+(0))*ti197.size) (ti197.zero.map AV.s)=(rws zi (l.eraseIdx i)).flatten++(Mu++L):=by
   have h1:(rws zi (l.eraseIdx i)).flatten.length=0+(i+(0))*ti197.size:=by
    rw[kj jj,hel]
    show _=0+(i+(0))*6
    omega
   rw[Cn h1,Fat]
   rfl
  rw[e3]
  have e4:i+(0)=(l.eraseIdx i).length:=by omega
  refine ret (h _ _ (.inl (.inr ⟨b,cap,Mu++L,by rw[<-e4];rfl,zd _ _ _,by omega,by rw[Fag];show cap*6<=_*6+(6+L.length);omega,hc3⟩)))
section
variable {v:AV} {i:Nat} {w:Wld}
theorem ydf{N S:Store}(hd:zh N S){l:List Bld}(hv:RowsQ 6 zi N v l)(hl:l.length<=256)(hi:i<l.length)(R:Ja)(h:R (lst 6 zi (l.eraseIdx i)) S):Jb 317 [v,int (i:Nat),int ((i:Int)+1)] (N.un S) R:=by
 have h1:Jb 317 [v,int (i:Nat),int ((i:Int)+1)] N λr S2=>r=lst 6 zi (l.eraseIdx i)/\S2=Store.empty:=
  ACalls.frozenTo (ydg hv hl hi (λr N'=>RowsQ 6 zi N' r (l.eraseIdx i)) λv' N' h=>h) λr N' hr=>
   ⟨_,Store.empty,⟨rfl,rfl⟩,(λb x hx=>by cases hx),(λb x hx=>by cases hx),λOth M w v' sto hx=>by
    refine(na hr sto hx).mono λb o hT=>?_
    exact⟨hT.1,hT.2.resolve_right λhh=>hh rfl⟩⟩
 exact ACalls.frame hd h1 λr S2 ⟨e,e2⟩ hd2=>by subst e e2;rw[vh];exact h
theorem yc5(b:Bld)(pb xw s:Nat)(c:Cmd)(fv:AV)(st:Store)(hb:st.obj pb=some (.cells [ptr xw]))(hx:st.obj xw=some (.cells (wkC s c fv)))(R:Ja)(h:R (V.bool (decide (b.id=c.N))) st):Jb 316 ([.agg (zi b)]++[ptr pb]) st R:=by
 rw[<-bk]at h
 refine Qa (c:=cfg 12) zb Tryz.func316 ?_
 refine Qc zb zsn ?_
 refine Qaq ?_
 refine Qaq ?_
 refine⟨⟨?_,?_⟩,Tv⟩
 ·repeat(first|exact Tv|refine⟨rfl,?_⟩|refine⟨za (o:=st.obj pb) _ hb rfl,?_⟩|refine⟨za (o:=st.obj xw) _ hx rfl,?_⟩)
 exact ret h
theorem yc9{c:Cmd}(h:Cg w.B c.N=some i)(hi:i<w.B.length):drE w c=if w.B[i].owner=c.P then 0 else 6:=by
 unfold drE
 rw[h]
 simp[Fbb,hi]
theorem ycj{l:List Bld}{id:Int}(h:Cg l id=some i):∃hi:i<l.length,l[i].id=id:=by
 unfold Cg at h
 rw[Fbh]at h
 obtain⟨h1,h2,_⟩:=h
 exact⟨h1,of_decide_eq_true h2⟩
theorem zan{F G:Store}{xw s p:Nat}{L:List Ent}{o0 o1 o2:AV}{c:Cmd}{fv:AV}(hW:Work F G xw s p w v L o0 o1 o2 c fv)(hm:MayF w)(R:Ja)
  (h:∀S',drE w c≠0->R (int (drE w c)) S') (h0:drE w c=0->∀S',Bn S' xw s c fv (drW w c)->R (int 0) S'):Jb 229 [ptr xw] (F.un (svS G s w v o0 o1 o2 p)) R:=by
 have hx:=hW.x (F':=F) (q0:=o0) (q1:=o1) (q2:=o2)
 have hs:=hW.s (F':=F) (q0:=o0) (q1:=o1) (q2:=o2)
 have hr:=hW.r (F':=F) (q0:=o0) (q1:=o1) (q2:=o2)
 have hxs:=hW.ne
 have hos:=hW.os
 have hB:=hm.hB
 obtain⟨oa,cap,e,hget⟩:=hW.S.hu.form
 subst e
 generalize F.un (svS G s w _ o0 o1 o2 p)=S at hx hs hr⊢
 refine Qa (c:=cfg 56 [1] []) zb Tryz.func229 ?_
 intro pb hpb
 have hbx:xw≠pb:=λe=>by
  subst e
  have:=hpb.1
  rw[hx]at this
  cases this
 have hbs:s≠pb:=λe=>by
  subst e
  have:=hpb.1
  rw[hs]at this
  cases this
 have hb:(S.sO pb (.cells [ptr xw])).obj pb=some (.cells [ptr xw]):=zd _ _ _
 have hx:=(zg (st:=S) (x:=.cells [ptr xw]) hbx).trans hx
 have hs:=(zg (st:=S) (x:=.cells [ptr xw]) hbs).trans hs
 have hr:=hr.set (Hh hr hpb.1) (.cells [ptr xw])
 refine za (o:=(S.sO pb (.cells [ptr xw])).obj pb) _ hb ?_
 refine za (o:=(S.sO pb (.cells [ptr xw])).obj xw) _ hx ?_
 refine za (o:=(S.sO pb (.cells [ptr xw])).obj s) _ hs ?_
 refine tb w.B (by omega) _ _ (λb=>decide (b.id=c.N)) _ (λb _ R h=>yc5 b pb xw s c fv _ hb hx R h) _ ?_
 have hfb:(w.B.findIdx? λb=>decide (b.id=c.N))=Cg w.B c.N:=rfl
 rw[hfb]
 refine bcd (λc1=>?_) (λc1=>?_)
 ·cases hf:Cg w.B c.N with
  |some i=>rw[hf]at c1;exact absurd c1 (by show¬((i:Int)<0);omega)
  |none=>
   have he:drE w c=3:=by unfold drE;rw[hf]
   have:=h (S.sO pb (.cells [ptr xw])) (by rw[he];decide)
   rw[he]at this
   exact ret this
 cases hf:Cg w.B c.N with
 |none=>rw[hf]at c1;exact absurd (show(-1:Int)<0 by decide) c1
 |some i=>
 obtain⟨hi,hid⟩:=ycj hf
 have he:=yc9 hf hi
 refine Qc zb zta ?_
 refine za (o:=(S.sO pb (.cells [ptr xw])).obj pb) _ hb ?_
 refine za (o:=(S.sO pb (.cells [ptr xw])).obj xw) _ hx ?_
 refine za (o:=(S.sO pb (.cells [ptr xw])).obj s) _ hs ?_
 refine⟨i,rfl,za _ (zq hi) ?_⟩
 refine za (o:=(S.sO pb (.cells [ptr xw])).obj pb) _ hb ?_
 refine za (o:=(S.sO pb (.cells [ptr xw])).obj xw) _ hx ?_
 refine⟨⟨?_,?_⟩,Tv⟩
 ·repeat(first|exact Tv|refine⟨rfl,?_⟩|refine⟨za (o:=(S.sO pb (.cells [ptr xw])).obj pb) _ hb rfl,?_⟩|refine⟨za (o:=(S.sO pb (.cells [ptr xw])).obj xw) _ hx rfl,?_⟩|refine⟨za (o:=(S.sO pb (.cells [ptr xw])).obj s) _ hs rfl,?_⟩|refine⟨⟨i,rfl,za _ (zq hi) rfl⟩,?_⟩)
 refine qu (λc2=>?_) (λc2=>?_)
 ·rw[if_neg c2]at he
  have:=h (S.sO pb (.cells [ptr xw])) (by rw[he];decide)
  rw[he]at this
  exact ret this
 rw[if_pos c2]at he
 have hW2:drW w c={w with B:=w.B.eraseIdx i}:=by unfold drW;rw[hf]
 refine Qc zb zs9 ?_
 refine za (o:=(S.sO pb (.cells [ptr xw])).obj pb) _ hb ?_
 refine za (o:=(S.sO pb (.cells [ptr xw])).obj xw) _ hx ?_
 refine za (o:=(S.sO pb (.cells [ptr xw])).obj pb) _ hb ?_
 refine za (o:=(S.sO pb (.cells [ptr xw])).obj xw) _ hx ?_
 refine za (o:=(S.sO pb (.cells [ptr xw])).obj s) _ hs ?_
 refine ze (by show -9223372036854775808<=((i:Nat):Int)+1/\((i:Nat):Int)+1<=9223372036854775807;omega) ?_
 refine⟨Py w.B (by omega) _ _ (λv2 N hv2 hd=>⟨?_,?_⟩),Tv⟩
 ·have hb2:(N.un (S.sO pb (.cells [ptr xw]))).obj pb=_:=zf hb
  have hx2:(N.un (S.sO pb (.cells [ptr xw]))).obj xw=_:=zf hx
  have hs2:(N.un (S.sO pb (.cells [ptr xw]))).obj s=_:=zf hs
  repeat(first|exact Tv|refine⟨rfl,?_⟩|refine⟨za (o:=(N.un (S.sO pb (.cells [ptr xw]))).obj pb) _ hb2 rfl,?_⟩|refine⟨za (o:=(N.un (S.sO pb (.cells [ptr xw]))).obj xw) _ hx2 rfl,?_⟩|refine⟨za (o:=(N.un (S.sO pb (.cells [ptr xw]))).obj s) _ hs2 rfl,?_⟩)
 refine⟨ydf hd hv2 (by omega) hi _ ⟨?_,?_⟩,Tv⟩
 ·repeat(first|exact Tv|refine⟨rfl,?_⟩|refine⟨za (o:=(S.sO pb (.cells [ptr xw])).obj pb) _ hb rfl,?_⟩|refine⟨za (o:=(S.sO pb (.cells [ptr xw])).obj xw) _ hx rfl,?_⟩|refine⟨za (o:=(S.sO pb (.cells [ptr xw])).obj s) _ hs rfl,?_⟩)
 refine⟨?_,Tv⟩
 refine za _ rfl (js rfl (jm (v:=lst 6 zi (w.B.eraseIdx i)) rfl rfl rfl rfl ?_))
 refine Bs (i:=ti25) (v:=lst 6 zi (w.B.eraseIdx i)) (b:=s) (o:=6) (l:=svC w (.s (.slice oa w.U.length cap)) o0 o1 o2 p) rfl rfl rfl hs (show 6+1<=12 by decide) ?_
 have hs3:((S.sO pb (.cells [ptr xw])).sO s (.cells (zv (svC w (.s (.slice oa w.U.length cap)) o0 o1 o2 p) 6 [lst 6 zi (w.B.eraseIdx i)]))).obj s=some (.cells (svC {w with B:=w.B.eraseIdx i} (.s (.slice oa w.U.length cap)) o0 o1 o2 p)):=zd _ _ _
 have hx3:=(zg (st:=S.sO pb (.cells [ptr xw])) (x:=.cells (zv (svC w (.s (.slice oa w.U.length cap)) o0 o1 o2 p) 6 [lst 6 zi (w.B.eraseIdx i)])) hxs).trans hx
 have hr3:=hr.set hos (.cells (zv (svC w (.s (.slice oa w.U.length cap)) o0 o1 o2 p) 6 [lst 6 zi (w.B.eraseIdx i)]))
 have hb3:=(zg (st:=S.sO pb (.cells [ptr xw])) (x:=.cells (zv (svC w (.s (.slice oa w.U.length cap)) o0 o1 o2 p) 6 [lst 6 zi (w.B.eraseIdx i)])) (Ne.symm hbs)).trans hb
 refine⟨Tv,?_⟩
 exact ret (h0 he _ (by rw[hW2];exact⟨_,o0,o1,o2,p,hx3,hs3,hr3⟩))
end
end Go.Proofs
namespace Go.Proofs
open Go Go.V
set_option maxRecDepth 20000
set_option maxHeartbeats 4000000
def smallW(w:Wld):Prop:=(∀u∈w.U,u.pos.ok)/\w.G.T.length<=1000000/\w.B.length<=1000000/\w.U.length<=1000000
theorem smallW.fits{w:Wld}(h:smallW w):w.fits:=⟨by unfold Gnd.fits;have:=h.2.1;omega,by have:=h.2.2.1;omega,by have:=h.2.2.2;omega⟩
theorem ydb{F G N:Store}{xw s p fb:Nat}{room:Int}{kc:Nat}{w:Wld}{v:AV}{L:List Ent}{o0 o1 o2:AV}{c:Cmd}(hW:Work F G xw s p w v L o0 o1 o2 c (xj fb))(hdN:zh (F.un (svS G s w v o0 o1 o2 p)) N)(hFN:FldAny fb room (kc:Nat) N)(hm:z7 w)(hn:∀u∈w.U,u.pos.ok)(hc:Ai c)(hp:c.P<=w.players)(R:Ja)
  (h:∀S' N',aE w c≠0->zh S' N'->FldAny fb room (kc:Nat) N'->R (int (aE w c)) (S'.un N')) (h0:aE w c=0->∀S' N',Bn S' xw s c (xj fb) (aW w c)->zh S' N'->FldAny fb room (kc:Nat) N'->R (int 0) (S'.un N')):
  Jb 146 [ptr xw] ((F.un (svS G s w v o0 o1 o2 p)).un N) R:=by
 have hx:=ya hdN (hW.x (F':=F) (q0:=o0) (q1:=o1) (q2:=o2))
 refine Qa (c:=cfg 34) zb Tryz.func146 ?_
 refine za (o:=((F.un (svS G s w v o0 o1 o2 p)).un N).obj xw) _ hx ?_
 have lift:∀{f:FuncId} {E:Int} {W:Wld},(∀R:AV->Store->Prop,(∀S',E≠0->R (int E) S')->(E=0->∀S',Bn S' xw s c (xj fb) W->R (int 0) S')->Jb f [ptr xw] (F.un (svS G s w v o0 o1 o2 p)) R)->E=aE w c->W=aW w c->
   ∀K:AV->Store->Prop,(∀S' N',aE w c≠0->zh S' N'->FldAny fb room (kc:Nat) N'->K (int (aE w c)) (S'.un N'))->(aE w c=0->∀S' N',Bn S' xw s c (xj fb) (aW w c)->zh S' N'->FldAny fb room (kc:Nat) N'->K (int 0) (S'.un N'))->
   Jb f [ptr xw] ((F.un (svS G s w v o0 o1 o2 p)).un N) K:=λ{f E W} hf e1 e2 K k1 k2=>by
  subst e1 e2
  refine ACalls.frame hdN (hf (λr S=>(aE w c≠0/\r=int (aE w c))\/(aE w c=0/\r=int 0/\Bn S xw s c (xj fb) (aW w c))) (λS' he=>.inl ⟨he,rfl⟩) (λhe S' hd=>.inr ⟨he,rfl,hd⟩)) ?_
  rintro r S (⟨he,rfl⟩|⟨he,rfl,hd⟩) hd'
  ·exact k1 S N he hd' hFN
  ·exact k2 he S N hd hd' hFN
 rcases Vw hc with q|q|q|q|q|q|q
 ·obtain⟨e1,e2⟩:=a1 (w:=w) q
  refine zy (λ_=>?_) (λc1=>absurd q c1)
  refine lift (λR a b=>ux hW (jy hm) hn (yeh ((Cmd.ok1 q).1 hc.1).2) R a b) e1.symm e2.symm _ (λS' N' he hd hF=>ret (h S' N' he hd hF)) (λhe S' N' h1 h2 h3=>ret (h0 he S' N' h1 h2 h3))
 ·obtain⟨e1,e2⟩:=a2 (w:=w) q
  refine zy (λc1=>absurd (q.symm.trans c1) (by decide)) (λ_=>?_)
  refine zy (λ_=>?_) (λc1=>absurd q c1)
  rw[e1]at h h0
  rw[e2]at h0
  refine zai hW hdN hFN (jy hm) hn ((Cmd.ok2 q).1 hc.1).1.1.2 _ (λS' N' he hd hF=>ret (h S' N' he hd hF)) (λhe S' N' h1 h2 h3=>ret (h0 he S' N' h1 h2 h3))
 ·obtain⟨e1,e2⟩:=a3 (w:=w) q
  refine zy (λc1=>absurd (q.symm.trans c1) (by decide)) (λ_=>?_)
  refine zy (λc1=>absurd (q.symm.trans c1) (by decide)) (λ_=>?_)
  refine zy (λ_=>?_) (λc1=>absurd q c1)
  refine lift (λR a b=>uw hW (jy hm) hn ((Cmd.ok3 q).1 hc.1).1.2 R a b) e1.symm e2.symm _ (λS' N' he hd hF=>ret (h S' N' he hd hF)) (λhe S' N' h1 h2 h3=>ret (h0 he S' N' h1 h2 h3))
 ·obtain⟨e1,e2⟩:=a4 (w:=w) q
  refine zy (λc1=>absurd (q.symm.trans c1) (by decide)) (λ_=>?_)
  refine zy (λc1=>absurd (q.symm.trans c1) (by decide)) (λ_=>?_)
  refine zy (λc1=>absurd (q.symm.trans c1) (by decide)) (λ_=>?_)
  refine zy (λ_=>?_) (λc1=>absurd q c1)
  refine lift (λR a b=>zao hW hm hn hc q R a b) e1.symm e2.symm _ (λS' N' he hd hF=>ret (h S' N' he hd hF)) (λhe S' N' h1 h2 h3=>ret (h0 he S' N' h1 h2 h3))
 ·obtain⟨e1,e2⟩:=a5 (w:=w) q
  refine zy (λc1=>absurd (q.symm.trans c1) (by decide)) (λ_=>?_)
  refine zy (λc1=>absurd (q.symm.trans c1) (by decide)) (λ_=>?_)
  refine zy (λc1=>absurd (q.symm.trans c1) (by decide)) (λ_=>?_)
  refine zy (λc1=>absurd (q.symm.trans c1) (by decide)) (λ_=>?_)
  refine zy (λ_=>?_) (λc1=>absurd q c1)
  refine lift (λR a b=>zan hW (jy hm) R a b) e1.symm e2.symm _ (λS' N' he hd hF=>ret (h S' N' he hd hF)) (λhe S' N' h1 h2 h3=>ret (h0 he S' N' h1 h2 h3))
 ·obtain⟨e1,e2⟩:=a6 (w:=w) q
  refine zy (λc1=>absurd (q.symm.trans c1) (by decide)) (λ_=>?_)
  refine zy (λc1=>absurd (q.symm.trans c1) (by decide)) (λ_=>?_)
  refine zy (λc1=>absurd (q.symm.trans c1) (by decide)) (λ_=>?_)
  refine zy (λc1=>absurd (q.symm.trans c1) (by decide)) (λ_=>?_)
  refine zy (λc1=>absurd (q.symm.trans c1) (by decide)) (λ_=>?_)
  refine zy (λ_=>?_) (λc1=>absurd q c1)
  refine lift (λR a b=>zak hW hm hn ((Cmd.ok6 q).1 hc.1).1.1.2 ((Cmd.ok6 q).1 hc.1).2.1 R a b) e1.symm e2.symm _ (λS' N' he hd hF=>ret (h S' N' he hd hF)) (λhe S' N' h1 h2 h3=>ret (h0 he S' N' h1 h2 h3))
 ·obtain⟨e1,e2⟩:=a7 (w:=w) q
  refine zy (λc1=>absurd (q.symm.trans c1) (by decide)) (λ_=>?_)
  refine zy (λc1=>absurd (q.symm.trans c1) (by decide)) (λ_=>?_)
  refine zy (λc1=>absurd (q.symm.trans c1) (by decide)) (λ_=>?_)
  refine zy (λc1=>absurd (q.symm.trans c1) (by decide)) (λ_=>?_)
  refine zy (λc1=>absurd (q.symm.trans c1) (by decide)) (λ_=>?_)
  refine zy (λc1=>absurd (q.symm.trans c1) (by decide)) (λ_=>?_)
  rw[e1]at h h0
  rw[e2]at h0
  refine uu hW hdN hFN (jy hm) hn _ (λS' N' he hd hF=>ret (h S' N' he hd hF)) (λhe S' N' h1 h2 h3=>ret (h0 he S' N' h1 h2 h3))
theorem ydd{N:Store}{fb:Nat}{room:Int}{kc:Nat}(hF:FldAny fb room (kc:Nat) N)(w:Wld)(hm:z7 w)(hn:∀u∈w.U,u.pos.ok)(c:Cmd)(hc:c.fits):Jb 93 [.agg (zx w),.agg (qo c),xj fb] N λr S=>
  (r=.tup [.agg (zx (doW aE aW w c)),int (doE aE w c)]/\FldAny fb room (kc:Nat) S)\/∃X N' v,RowsQ 10 zk X v (doW aE aW w c).U/\zh X N'/\FldAny fb room (kc:Nat) N'/\S=X.un N'/\r=.tup [.agg (qw (doW aE aW w c) v),int (doE aE w c)]:=by
 have mf:=jy hm
 have hU:=mf.hU
 have hB:=mf.hB
 have hT:=mf.hT
 refine Qa (c:=cfg 41 [27] []) zb Tryz.func93 ?_
 refine yej c hc _ _ (λzc hzc=>?_)
 have bad:(¬Ai c\/w.players<c.P)->∀X:Prop,((.tup [.agg (zx w),int 1]:AV)=.tup [.agg (zx (doW aE aW w c)),int (doE aE w c)]/\FldAny fb room (kc:Nat) N)\/X:=λhb X=>by
  have he:=rl (E:=aE) (w:=w) (c:=c) (.inr hb)
  rw[Pq (by rw[he];decide),he]
  exact .inl ⟨rfl,hF⟩
 refine yl ?_
 refine zj (λc1=>?_) (λc1=>?_)
 rotate_left
 ·exact ret (bad (.inl λhh=>by have:=hzc.2 hh;rw[this]at c1;cases c1) _)
 refine bcd (λc2=>?_) (λc2=>?_)
 ·exact ret (bad (.inr (by omega)) _)
 clear bad
 have hcp:=hzc.1 c1
 have he:=rk (E:=aE) hm hcp (show c.P<=w.players by omega)
 have hown:∀R:AV->Store->Prop,(∀v X,RowsQ 10 zk X v w.U->zh X N->R (.agg (qw w v)) (X.un N))->Jb 91 [.agg (zx w)] N R:=λR h=>by
  rw[<-vh N]
  refine ACalls.frame (Ks _) (lj w (by omega) (by omega) (by omega) (λr S=>∃v,RowsQ 10 zk S v w.U/\r=.agg (qw w v)) (λv N h=>⟨v,h,rfl⟩)) ?_
  rintro r a' ⟨v,h1,rfl⟩ hd'
  exact h v a' h1 hd'
 refine Qc zb zrj ?_
 refine⟨hown _ (λv X hv hXN=>⟨Qe,?_⟩),Tv⟩
 have hopen:=ACalls.frame hXN (ln w v X hv (by omega) hn (λr S=>∃F s p L o0 o1 o2,r=ptr s/\S=F.un (svS X s w v o0 o1 o2 p)/\Fresh X s/\StandR F X s p w v L o0 o1 o2/\L.length<=w.U.length/\(yf w.U->∀e,e∈L↔∃u∈w.U,u.inn=0/\e=(u.id,u.pos))) (λF s p L o0 o1 o2 h1 h2 h3 h4=>⟨F,s,p,L,o0,o1,o2,rfl,rfl,h1,h2,h3,h4⟩))
  (R':=λr S=>∃F s p L o0 o1 o2,r=ptr s/\S=(F.un (svS X s w v o0 o1 o2 p)).un N/\zh (F.un (svS X s w v o0 o1 o2 p)) N/\StandR F X s p w v L o0 o1 o2/\L.length<=w.U.length/\(yf w.U->∀e,e∈L↔∃u∈w.U,u.inn=0/\e=(u.id,u.pos)))
  (λr a' ⟨F,s,p,L,o0,o1,o2,h1,h2,h3,h4,h5,h6⟩ hd=>⟨F,s,p,L,o0,o1,o2,h1,by rw[h2],h2▸hd,h4,h5,h6⟩)
 refine⟨hopen.imp ?_,Tv⟩
 rintro _ _ ⟨F,s,p,L,o0,o1,o2,rfl,rfl,hdN,hS,hLl,hL⟩
 refine⟨Qe,?_⟩
 refine⟨λxw hxw=>⟨Qe,?_⟩,Tv⟩
 refine Qap ?_
 have hxw:=fresh_iff.1 hxw
 have hx1:¬F.has xw/\¬(svS X s w v o0 o1 o2 p).has xw:=⟨λh=>hxw (un_has.2 (.inl (un_has.2 (.inl h)))),λh=>hxw (un_has.2 (.inl (un_has.2 (.inr h))))⟩
 have hxN:¬N.has xw:=λh=>hxw (un_has.2 (.inr h))
 have hne:xw≠s:=λe=>hx1.2 (svS_has.2 (.inl e))
 have hxX:¬X.has xw:=λh=>hx1.2 (svS_has.2 (.inr h))
 have e0:((F.un (svS X s w v o0 o1 o2 p)).un N).sO xw (.cells (wkC s c (xj fb)))=(F.un (svS (X.sO xw (.cells (wkC s c (xj fb)))) s w v o0 o1 o2 p)).un N:=by
  rw[Gw hxN,zu]
  unfold svS
  rw[D3 hne]
 have hdW:zh (F.un (svS (X.sO xw (.cells (wkC s c (xj fb)))) s w v o0 o1 o2 p)) N:=λi h1 h2=>by
  rcases un_has.1 h1 with h1|h1
  ·exact hdN i (un_has.2 (.inl h1)) h2
  ·rcases svS_has.1 h1 with h1|h1
   ·exact hdN i (un_has.2 (.inr (svS_has.2 (.inl h1)))) h2
   ·rcases has_setObj_iff.1 h1 with rfl|h1
    ·exact hxN h2
    ·exact hdN i (un_has.2 (.inr (svS_has.2 (.inr h1)))) h2
 have offx:=Hh hv (wv hxX).1
 have offs:=Hh hv hS.hs
 have hW:Work F (X.sO xw (.cells (wkC s c (xj fb)))) xw s p w v L o0 o1 o2 c (xj fb):=by
  refine⟨⟨hS.hc,λi h1 h2=>?_,?_,hv.set offx _,hS.h0,hS.h1,hS.h2⟩,zd _ _ _,offx,offs,hLl,hL mf.hr⟩
  ·rcases svS_has.1 h2 with rfl|h2
   ·exact hS.hd _ h1 (svS_has.2 (.inl rfl))
   ·rcases has_setObj_iff.1 h2 with rfl|h2
    ·exact hx1.1 h1
    ·exact hS.hd _ h1 (svS_has.2 (.inr h2))
  ·rw[zg (Ne.symm hne)];exact hS.hs
 refine cast (congrArg (λst=>Jb 146 [ptr xw] st _) e0.symm) ?_
 refine ydb hW hdW hF hm hn hcp (by omega) _ (λS' N' hE hd' hF'=>?_) (λhE S' N' hdn hd' hF'=>?_)
 ·refine qu (λ_=>?_) (λh=>absurd h hE)
  rw[he,Pq (by rw[he];exact hE)]
  exact⟨_,N',Tt,⟨λb x hx=>zf hx,λb x hx=>Dy hx⟩,.inl ⟨rfl,hF'⟩⟩
 ·obtain⟨v2,q0,q1,q2,p2,g1,g2,g3⟩:=hdn
  obtain⟨oa,cap,e2,_⟩:=g3.form
  subst e2
  refine za (o:=(S'.un N').obj xw) _ (ya hd' g1) ?_
  refine za (o:=(S'.un N').obj s) _ (ya hd' g2) ?_
  rw[he,ri (he.trans hE),hE]
  exact ret (.inr ⟨S',N',_,g3,hd',hF',rfl,rfl⟩)
theorem yde:DoC:=λfb room k N w c hF hw hc R h=>by
 refine(ydd hF w hw.1 hw.2 c hc).frozenTo ?_
 rintro r S (⟨rfl,hF'⟩|⟨X,N',v,hX,hd,hF',rfl,rfl⟩)
 ·exact⟨_,S.objs,h _ hF'.objs,λb x hx=>hx,λb x hx=>(by cases hx),λOth M W x sto hx=>hx.mono λb o hT=>hT.1⟩
 ·refine⟨_,N'.objs,h _ hF'.objs,λb x hx=>zf hx,λb x hx=>(by cases hx),λOth M W x sto hx=>?_⟩
  have sX:StoreOK X Oth M W:=sto.weaken ⟨λb y hy=>ya hd hy,λb y hy=>K7 hd hy⟩
  have ht:∀b,((X.un N').obj b=none\/N'.objs.obj b≠none)->X.obj b=none:=λb hb=>by
   rcases hb with hb|hb
   ·exact(I7 hb).1
   ·cases hx:X.obj b with
    |none=>rfl
    |some y=>exact absurd (wv (hd b (xz hx))).1 hb
  exact VRel.mono (λb o h=>⟨h.1,ht b h.2⟩) (hx.tup2 (λx hx=>cn hX sX hx) (λx hx=>jq hx))
theorem cq(i n:Int)(hn:0<n)(hn2:n<=1000)(st:Store)(R:Ja)(h:∀k:Int,0<=k->k<n->R (int k) st):Jb 23 [int i,int n] st R:=by
 refine Qa (c:=cfg 11) zb Tryz.func23 ?_
 have e1:IntKind.u64.wrap n=n:=Ak (by omega) (by omega)
 have h0:0<=IntKind.u64.wrap i:=by rw[H9];omega
 refine⟨by rw[e1];omega,?_⟩
 have h1:(IntKind.u64.wrap i).tmod n=(IntKind.u64.wrap i)%n:=Fdo h0
 have h2:=Fc0 (IntKind.u64.wrap i) (show n≠0 by omega)
 have h3:=Fdf (IntKind.u64.wrap i) hn
 refine⟨by rw[e1,h1];exact⟨by omega,by omega⟩,?_⟩
 rw[e1,h1]
 exact ret (h _ h2 h3)
theorem zqj(a:Ask25)(hl:a.S.L.length<=1000):Jb 45 [.agg (H3 a)] Store.empty λr _=>∃n:Nat,1<=n/\n<=4/\r=lst 1 Kv (Gz a.S.L n):=by
 refine Qa (c:=cfg 44) zb Tryz.func45 ?_
 refine cq _ 4 (by decide) (by decide) _ _ (λn0 h0 h4=>?_)
 refine Qd ?_
 obtain⟨n,rfl⟩:∃n:Nat,n0=((n:Nat):Int)-1:=⟨(n0+1).toNat,by omega⟩
 have hn:1<=n/\n<=4:=by omega
 clear h0 h4
 refine AWp.loop (σ:=Nat×AV) ⟨λx=>[(1,.bx 1 0),(3,.av (int (n:Nat))),(4,.av x.2),(5,.av (int (x.1:Nat)))],λx=>[(1,H3 a)],
  λx st'=>x.1<=8/\App 1 Store.empty x.2 (rws Kv ((List.range x.1).map (Gl a.S.L n))) st',λx=>8-x.1⟩ zb ?_ ?_
 ·refine⟨(0,.s (.slice none 0 0)),Tv,⟨Fai _,App.start 1 _⟩,⟨Tq,?_,Tq,Tq,Tv⟩,⟨rfl,Tv⟩⟩
  have e:(1:Int)+((n:Int)-1)=(n:Nat):=by omega
  show LV.le (.av (int (1+((n:Int)-1)))) _
  rw[e];exact Tq
 rintro⟨i,v⟩ st' ⟨hi,ha⟩
 dsimp only at hi ha⊢
 refine bcd (λc1=>?_) (λc1=>?_)
 rotate_left
 ·have:i=8:=by omega
  subst this
  exact⟨_,_,ha.le,ha.has,n,hn.1,hn.2,rfl⟩
 have hlt:i<8:=by omega
 have hm:i*n<=28:=by
  have:=Fdr (show i<=7 by omega) hn.2
  omega
 have em:(i:Int)*(n:Int)=((i*n:Nat):Int):=by omega
 refine Qc zb zr8 ?_
 refine ze (by rw[em];omega) ?_
 refine ze (by rw[em];omega) ?_
 refine ze (by rw[em];omega) ?_
 refine Qao ?_
 refine Qap ?_
 have hr:=zl (f:=qo) a.S.L
 refine⟨min (i*n) a.S.L.length,min (i*n+n) a.S.L.length,?_,?_,by omega,by omega,?_⟩
 ·show min2 _ _=_
  unfold min2
  rw[hr,em]
  rw[Fc3]
  split<;>omega
 ·show min2 _ _=_
  unfold min2
  rw[hr,em]
  rw[Fc3]
  split<;>omega
 have erow:((rws qo a.S.L).take (min (i*n+n) a.S.L.length)).drop (min (i*n) a.S.L.length)=rws qo (Gl a.S.L n i):=by
  unfold rws Gl
  rw[<-List.map_take,<-List.map_drop]
 rw[erow]
 refine⟨by decide,?_⟩
 refine Dw (ie:=ti68) (rows':=[Kv (Gl a.S.L n i)]) ha ?_ ?_ ⟨?_,?_⟩ (λv2 st2 ha2=>?_)
 ·rfl
 ·rfl
 ·simp[zl,ti68];omega
 ·simp[zl];omega
 refine Qd ?_
 refine⟨(i+1,v2),(show 8-(i+1)<8-i by omega),⟨hlt,?_⟩,Qal,⟨rfl,Tv⟩⟩
 dsimp only
 rw[List.range_succ,Fa6]
 unfold rws at ha2⊢
 rw[Fa6]
 exact ha2
theorem zqi(a:Ask25)(hl:a.S.L.length<=1000)(st:Store)(R:Ja)(h:∀n:Nat,1<=n->n<=4->R (lst 1 Kv (Gz a.S.L n)) st):Jb 45 [.agg (H3 a)] st R:=
 F9 (zqj a hl) st R λr ⟨n,h1,h2,e⟩=>e▸h n h1 h2
theorem Rx{a b:Store}(h:zh a b)(c:Store):a.un (b.un c)=b.un (a.un c):=by
 rw[<-Gx,un_comm h,Gx]
theorem ACalls.weak{f:FuncId}{xs:List AV}{st st0:Store}{R:Ja}(hh:st.Has st0)(h:Jb f xs st0 R):Jb f xs st R:=
 h.post hh.toLe λr st' h=>⟨r,st',Tt,Store.Le.refl _,h⟩
theorem yco{eb:Nat}{room:Int}{k:Nat}{w:Wld}{S:Store}(hE:EngR eb room k w S)(ht:w.tick=1099511627776)(l:List Cmd)(R:Ja)(h:R (.tup [nil,int 10]) S):Jb 47 [ptr eb,lst 10 qo l] S R:=by
 obtain⟨N,fb,rfl,hn,hF⟩:=hE.out
 refine Qa (c:=cfg 74) zb Tryz.func47 ?_
 refine za (o:=(N.sO eb _).obj eb) _ (zd _ _ _) ?_
 refine zy (λc1=>?_) (λc1=>absurd ht c1)
 exact ret h
section
variable {eb:Nat} {room:Int} {k:Nat} {w:Wld} {S G:Store}
theorem Pn(hE:EngR eb room k w S)(hd:zh S G)(hp:playW w)(R:Ja)(h:R (.agg (zx w)) (S.un G)):Jb 51 [ptr eb] (S.un G) R:=
 ACalls.frame hd (py hE hp.sizes (λr S'=>r=.agg (zx w)/\S'=S) ⟨rfl,rfl⟩) λr a ⟨h1,h2⟩ _=>by subst h1 h2;exact h
theorem p4(hE:EngR eb room k w S)(hd:zh S G)(hp:playW w)(l:List Cmd)(hf:∀c∈l,c.fits)(hl:l.length<=512)(hk:k<=100000000000000000)(R:Ja)
  (hmax:w.tick=1099511627776->R (.tup [nil,int 10]) (S.un G))
  (h:w.tick<1099511627776->∀S',EngR eb room (k+4096) (vr w l) S'->zh S' G->R (.tup [lst 1 z8 (q9 w l),int 0]) (S'.un G)):Jb 47 [ptr eb,lst 10 qo l] (S.un G) R:=by
 have ht:=hp.1.1.1.1.1.2
 by_cases e:w.tick=1099511627776
 ·refine ACalls.frame hd (yco hE e l (λr S'=>r=.tup [nil,int 10]/\S'=S) ⟨rfl,rfl⟩) λr a ⟨h1,h2⟩ _=>by subst h1 h2;exact hmax e
 ·refine ACalls.frame hd (pz hE hp l (.inr yde) hf hl (by omega) hk (λr S'=>r=.tup [lst 1 z8 (q9 w l),int 0]/\EngR eb room (k+4096) (vr w l) S') λS' h=>⟨rfl,h⟩) λr a ⟨h1,h2⟩ hd'=>by subst h1;exact h (by omega) a h2 hd'
theorem cm(hp:playW w)(hr:1<=room/\room<=4096)(R:Ja)(h:∀eb S,EngR eb room 0 w S->zh S G->R (.tup [ptr eb,int 0]) (S.un G)):Jb 43 [.agg (zx w),int room] G R:=by
 have hs:=hp.sizes
 have:=ACalls.frame (Ks G) (cj w (jy hp.1).fits hp.2 hs.1 hs.2.1 hs.2.2 room hr (λr S=>∃eb,r=.tup [ptr eb,int 0]/\EngR eb room 0 w S) (λh=>absurd hp.1 h) (λ_ eb S h=>⟨eb,rfl,h⟩)) (R':=R) λr a ⟨eb,h1,h2⟩ hd=>by subst h1;exact h eb a h2 hd
 rwa [vh]at this
end
theorem zae(a:Ask25)(hn:∀u∈a.S.W.U,u.pos.ok)(hfs:∀c∈a.S.L,c.sized):Jb 9 [.agg (H3 a)] Store.empty λr _=>r=V.bool true:=by
 refine Qa (c:=cfg 150) zb Tryz.func9 ?_
 refine yaj a.S hfs _ _ (λz hz=>?_)
 refine zj (λc1=>ret rfl) (λc1=>?_)
 obtain⟨hgr,hL,hcf⟩:=hz c1
 have hfit:a.S.W.fits:=by
  unfold L6 at hgr
  exact⟨by unfold Gnd.fits;omega,by omega,by omega⟩
 refine ic a.S.W hfit hn _ _ (λzm hzm=>?_)
 refine yl ?_
 refine zj (λc2=>?_) (λc2=>ret rfl)
 have hp:playW a.S.W:=⟨hzm.1 c2,hn⟩
 clear hz hgr hfit hzm c1 c2
 refine Qc zb zrh ?_
 refine⟨cq _ 5 (by decide) (by decide) _ _ (λn0 h0 h5=>⟨Qe,?_⟩),Tv⟩
 refine Qd ?_
 refine⟨cm hp (by omega) _ (λeb S hE hd=>⟨Qe,?_⟩),Tv⟩
 refine Qap ?_
 refine Qap ?_
 refine Dm _ _ _ ?_
 refine zqi a (by omega) _ _ (λn hn1 hn4=>?_)
 have hT:∀cs∈Gz a.S.L n,cs.length<=4/\∀c∈cs,c.fits:=λcs hcs=>⟨by have:=(dz hcs).1;omega,λc hc=>hcf c ((dz hcs).2 c hc)⟩
 have hTl:=zby a.S.L n
 generalize Gz a.S.L n=T at*
 generalize a.S.W=w0 at*
 refine AWp.loop (σ:=Nat×Wld×Nat×Store×Store) ⟨λx=>[(3,.av (ptr eb)),(5,.av (lst 1 Kv T)),(6,.av (int (x.1:Nat)))],λ_=>[],
  λx st'=>x.1<=8/\st'=x.2.2.2.1.un x.2.2.2.2/\zh x.2.2.2.1 x.2.2.2.2/\EngR eb (1+n0) x.2.2.1 x.2.1 x.2.2.2.1/\x.2.2.1<=x.1*4096/\playW x.2.1,λx=>8-x.1⟩ zb ?_ ?_
 ·exact⟨(0,w0,0,S,Store.empty),Tv,⟨Fai _,rfl,hd,hE,Fai _,hp⟩,Qal,Tv⟩
 clear hE hd hp
 rintro⟨i,w,k,S,B⟩ st' ⟨hi,rfl,hd,hE,hk,hp⟩
 dsimp only at hi hd hE hk hp⊢
 refine bcd (λc1=>?_) (λc1=>?_)
 rotate_left
 ·refine za1 _ _ ?_
  exact ret rfl
 have hlt:i<T.length:=by rw[zl]at c1;omega
 have hfw:=(jy hp.1).fits
 obtain⟨hcl,hcf1⟩:=hT _ (Faa hlt)
 refine Pn hE hd hp _ ?_
 refine cm hp (by decide) _ (λyb Sy hy hdy=>?_)
 obtain⟨hdy1,hdy2⟩:zh Sy S/\zh Sy B:=⟨λj h1 h2=>hdy j h1 (un_has.2 (.inl h2)),λj h1 h2=>hdy j h1 (un_has.2 (.inr h2))⟩
 rw[Rx hdy1]
 have hdS:zh S (Sy.un B):=λj h1 h2=>(un_has.1 h2).elim (λh=>hdy1 j h h1) (hd j h1)
 refine⟨i,rfl,za _ (zq hlt) ?_⟩
 refine p4 hE hdS hp T[i] hcf1 (by omega) (by omega) _ (λhmax=>?_) (λhlt9 S2 hE2 hdS2=>?_)
 ·refine Pn hE hdS hp _ ?_
  refine Dm _ _ _ ?_
  refine ra w hfw _ _ ?_
  refine Qd ?_
  exact⟨(i+1,w,k,S,Sy.un B),(show 8-(i+1)<8-i by omega),⟨by dsimp only;omega,rfl,hdS,hE,by dsimp only;omega,hp⟩,Qal,Tv⟩
 have hp2:=zw5 hp hlt9 T[i]
 have htk:=yc0 hp T[i]
 have hf2:=(jy hp2.1).fits
 refine Pn hE2 hdS2 hp2 _ ?_
 refine Dm _ _ _ ?_
 refine Dm _ _ _ ?_
 refine Dm _ _ _ ?_
 refine ic (vr w T[i]) hf2 hp2.2 _ _ (λzm hzm=>?_)
 have ezm:zm=true:=hzm.2 hp2.1
 subst ezm
 have hw0:0<=w.tick:=hp.1.1.1.1.1.1
 refine Qd ?_
 refine qu (λc3=>absurd htk c3) (λ_=>?_)
 refine⟨i,rfl,za _ (zq hlt) ?_⟩
 have hle:=Px T[i] w
 refine qu (λc3=>absurd (show((rws z8 (q9 w T[i])).length:Int)=(rws qo T[i]).length by rw[zl,zl,hle]) c3) (λ_=>?_)
 have hgd:=oq T[i] w
 have hgl:=V9 T[i] w
 have hgm:=λc=>V8 (c:=c) T[i] w
 have hst:=λj (hj:j<T[i].length)=>yav (w:=w) hj
 have hge:=λj (hj:j<T[i].length) (hj2:j<(q9 w T[i]).length)=>yeg hj hj2
 refine AWp.loop (σ:=Nat×AV) ⟨λx=>[(3,.av (ptr eb)),(5,.av (lst 1 Kv T)),(6,.av (int (i:Nat))),(8,.av (ptr yb)),(10,.av (lst 1 z8 (q9 w T[i]))),(12,.bx 12 0),(13,.av x.2),(14,.av (int (x.1:Nat)))],λ_=>[(12,zx (vr w T[i]))],
  λx st'=>x.1<=T[i].length/\App 10 (S2.un (Sy.un B)) x.2 (rws qo (xn w (T[i].take x.1))) st',λx=>T[i].length-x.1⟩ zb ?_ ?_
 ·exact⟨(0,.s (.slice none 0 0)),Tv,⟨Fai _,App.start 10 _⟩,Qal,⟨rfl,Tv⟩⟩
 rintro⟨j,v⟩ st' ⟨hj,ha⟩
 dsimp only at hj ha⊢
 refine bcd (λc4=>?_) (λc4=>?_)
 ·have hjt:j<(q9 w T[i]).length:=by rw[zl]at c4;omega
  have hjl:j<T[i].length:=by omega
  refine⟨j,rfl,za _ (zq hjt) ?_⟩
  refine Dm _ _ _ ?_
  have hs1:=hst j hjl
  have hg1:=hge j hjl hjt
  refine zy (λc5=>?_) (λc5=>?_)
  ·rw[if_pos (by rw[<-hg1];exact c5)]at hs1
   refine⟨i,rfl,za _ (zq hlt) ?_⟩
   refine⟨j,rfl,za _ (zq hjl) ?_⟩
   refine⟨by decide,?_⟩
   have hgl1:=V9 (T[i].take j) w
   rw[Fam]at hgl1
   refine Dw (ie:=ti95) (rows':=[qo T[i][j]]) ha ?_ ?_ ⟨?_,?_⟩ (λv2 st2 ha2=>?_)
   ·rfl
   ·rfl
   ·simp only[zl,Fay,ti95];omega
   ·simp only[zl,Fay];omega
   refine Qd ?_
   refine⟨(j+1,v2),(show T[i].length-(j+1)<T[i].length-j by omega),⟨by dsimp only;omega,?_⟩,Qal,⟨rfl,Tv⟩⟩
   dsimp only
   rw[hs1]
   unfold rws at ha2⊢
   rw[Fa6]
   exact ha2
  ·rw[if_neg (by rw[<-hg1];exact c5)]at hs1
   refine Qd ?_
   exact⟨(j+1,v),(show T[i].length-(j+1)<T[i].length-j by omega),⟨by dsimp only;omega,by dsimp only;rw[hs1];exact ha⟩,Qal,⟨rfl,Tv⟩⟩
 have:j=T[i].length:=by rw[zl]at c4;omega
 subst this
 rw[Fas]at ha
 have hdy2':zh Sy (S2.un B):=λj h1 h2=>(un_has.1 h2).elim (λh=>hdS2 j h (un_has.2 (.inl h1))) (hdy2 j h1)
 refine ACalls.weak ha.has (ACalls.le (ys:=[ptr yb,lst 10 qo (xn w T[i])]) ⟨Tt,ha.le,Tv⟩ ?_)
 rw[Rx (Gk λj h1 h2=>hdS2 j h2 (un_has.2 (.inl h1)))]
 refine p4 hy hdy2' hp (xn w T[i]) (λc hc=>hcf1 c (hgm c hc)) (by omega) (by omega) _ (λhmax=>absurd hmax (by omega)) (λ_ S3 hy3 hd3=>?_)
 have eg:vr w (xn w T[i])=vr w T[i]:=by unfold vr;rw[hgd]
 rw[eg]at hy3
 refine Qc zb zri ?_
 refine⟨Dm _ _ _ ⟨Tv,?_⟩,Tv⟩
 refine⟨Pn hy3 hd3 hp2 _ ⟨Qe,?_⟩,Tv⟩
 refine⟨ra _ hf2 _ _ ⟨Tv,?_⟩,Tv⟩
 have hd32:zh S3 S2:=λj h1 h2=>hd3 j h1 (un_has.2 (.inl h2))
 refine Qd ?_
 refine⟨(i+1,vr w T[i],k+4096,S2,S3.un B),(show 8-(i+1)<8-i by omega),⟨by dsimp only;omega,Rx hd32 B,λj h1 h2=>(un_has.1 h2).elim (λh=>hd32 j h h1) (λh=>hdS2 j h1 (un_has.2 (.inr h))),hE2,by dsimp only;omega,hp2⟩,Qal,Tv⟩
theorem zad(a:Ask25)(hn:∀u∈a.S.W.U,u.pos.ok)(hfs:∀c∈a.S.L,c.sized)(st:Store)(R:Ja)(h:R (V.bool true) st):Jb 9 [.agg (H3 a)] st R:=
 F9 (zae a hn hfs) st R λr hr=>hr▸h
end Go.Proofs
