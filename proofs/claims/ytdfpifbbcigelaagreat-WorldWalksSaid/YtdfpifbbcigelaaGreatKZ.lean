/- Ground of laws of thronglaw25: contracts and plain lemmas; no condition beyond the row's own. -/
import Derived.Test.YtdfpifbbcigelaaGreatKY
set_option linter.unusedSimpArgs false
set_option linter.unusedVariables false
namespace Go.Proofs
open Go Go.V
set_option maxRecDepth 20000
set_option maxHeartbeats 4000000
theorem ygd{w:Wld}(hm:z7 w){c:Cmd}(hc:vn c)(hk:c.K=4)(hn:¬1099511627776<=w.next):yc (bdB w c)/\∀x∈w.B,x.id<(bdB w c).id:=by
 have hok:=(Cmd.ok4 hk).1 hc.1
 have mf:=ku hm
 have:=mf.hn1
 have hP:=hc.2.1
 refine⟨⟨by unfold bdB;dsimp only;omega,hP,hok.2.1,hok.2.2⟩,λx hx=>?_⟩
 have:=(hm.1.1.2.2 x hx).2
 exact this
theorem zbd{F G:Store}{xw s p:Nat}{w:Wld}{v:AV}{L:List Ent}{o0 o1 o2:AV}{c:Cmd}{fv:AV}(hW:Work F G xw s p w v L o0 o1 o2 c fv)(hm:z7 w)(hn:∀u∈w.U,u.pos.ok)(hc:vn c)(hk:c.K=4)(R:Ja)
  (h:∀S',bdE w c≠0->R (int (bdE w c)) S') (h0:bdE w c=0->∀S',Bn S' xw s c fv (bdW w c)->R (int 0) S'):Jb 228 [ptr xw] (F.un (svS G s w v o0 o1 o2 p)) R:=by
 have mf:=ku hm
 have hg:=mf.hg
 have hg1:=hg.1
 have hg2:=hg.2.1
 have hn2:=mf.hn2
 have hn1:=mf.hn1
 have hok:=(Cmd.ok4 hk).1 hc.1
 have hT:=hok.1
 unfold kk at hT
 have hx:=hW.x (F':=F) (q0:=o0) (q1:=o1) (q2:=o2)
 have hs:=hW.s (F':=F) (q0:=o0) (q1:=o1) (q2:=o2)
 obtain⟨oa,cap,e,hget⟩:=hW.S.hu.form
 subst e
 have hq:c.T.tmod w.G.W=c.T%w.G.W:=Fej hT.1
 have hq2:c.T.tdiv w.G.W=c.T/w.G.W:=Fba hT.1
 have hq3:0<=c.T/w.G.W/\c.T/w.G.W<=c.T:=⟨Fcs hT.1 (by omega),Int.ediv_le_self _ hT.1⟩
 have bad:∀n:Int,n≠0->bdE w c=n->∀S,R (int n) S:=λn hn e S=>by
  have:=h S (by rw[e];exact hn)
  rw[e]at this
  exact this
 refine Qa (c:=cfg 116) zb Tryz.func228 ?_
 refine za (o:=(F.un (svS G s w _ o0 o1 o2 p)).obj xw) _ hx ?_
 refine za (o:=(F.un (svS G s w _ o0 o1 o2 p)).obj s) _ hs ?_
 refine Qc zb zt0 ?_
 refine za (o:=(F.un (svS G s w _ o0 o1 o2 p)).obj xw) _ hx ?_
 refine⟨Oz w.G c.T hg _ _ (λz hz=>⟨?_,?_⟩),Tv⟩
 ·repeat(first|exact Tv|refine⟨rfl,?_⟩|refine⟨za (o:=(F.un (svS G s w _ o0 o1 o2 p)).obj xw) _ hx rfl,?_⟩)
 refine Qap ?_
 refine ym ?_
 refine zj (λc1=>?_) (λc1=>?_)
 rotate_left
 ·have hno:¬(0<=c.T/\c.T<w.G.W*w.G.H):=λhh=>by have:=hz.2 hh;rw[this]at c1;cases c1
  exact ret (bad 3 (by decide) (by unfold bdE;rw[if_pos hno]) _)
 have ht:=hz.1 c1
 refine za (o:=(F.un (svS G s w _ o0 o1 o2 p)).obj xw) _ hx ?_
 refine za (o:=(F.un (svS G s w _ o0 o1 o2 p)).obj s) _ hs ?_
 refine z6 (λc2=>?_) (λc2=>?_)
 ·exact ret (bad 4 (by decide) (by unfold bdE;rw[if_neg (λhh=>hh ht),if_pos (by omega)]) _)
 have hnx:¬1099511627776<=w.next:=by omega
 obtain⟨hbp,hid⟩:=ygd hm hc hk hnx
 refine Qc zb ztz ?_
 refine za (o:=(F.un (svS G s w _ o0 o1 o2 p)).obj xw) _ hx ?_
 refine za (o:=(F.un (svS G s w _ o0 o1 o2 p)).obj s) _ hs ?_
 refine za (o:=(F.un (svS G s w _ o0 o1 o2 p)).obj xw) _ hx ?_
 refine za (o:=(F.un (svS G s w _ o0 o1 o2 p)).obj xw) _ hx ?_
 refine⟨by omega,?_⟩
 refine za (o:=(F.un (svS G s w _ o0 o1 o2 p)).obj xw) _ hx ?_
 refine⟨by omega,?_⟩
 refine ze (by rw[hq2];omega) ?_
 refine za (o:=(F.un (svS G s w _ o0 o1 o2 p)).obj xw) _ hx ?_
 refine za (o:=(F.un (svS G s w _ o0 o1 o2 p)).obj xw) _ hx ?_
 refine⟨⟨?_,?_⟩,Tv⟩
 ·repeat(first|exact Tv|refine⟨rfl,?_⟩|refine⟨za (o:=(F.un (svS G s w _ o0 o1 o2 p)).obj xw) _ hx rfl,?_⟩|refine⟨za (o:=(F.un (svS G s w _ o0 o1 o2 p)).obj s) _ hs rfl,?_⟩|refine⟨⟨by omega,rfl⟩,?_⟩|refine⟨⟨by omega,ze (by rw[hq2];omega) rfl⟩,?_⟩)
 refine Qap ?_
 refine Qc zb zty ?_
 refine za (o:=(F.un (svS G s w _ o0 o1 o2 p)).obj xw) _ hx ?_
 refine za (o:=(F.un (svS G s w _ o0 o1 o2 p)).obj s) _ hs ?_
 refine⟨yfz w.G hg w.B mf.hB mf.hb (bdB w c) hbp hid _ _ (λhe=>⟨?_,?_⟩) (λhe=>⟨?_,?_⟩),Tv⟩
 ·repeat(first|exact Tv|refine⟨rfl,?_⟩|refine⟨za (o:=(F.un (svS G s w _ o0 o1 o2 p)).obj xw) _ hx rfl,?_⟩|refine⟨za (o:=(F.un (svS G s w _ o0 o1 o2 p)).obj s) _ hs rfl,?_⟩)
 ·refine Qap ?_
  refine Qap ?_
  refine qr (λ_=>?_) (λhh=>absurd hh he)
  have e1:bdE w c=qs w.G w.B (bdB w c):=by unfold bdE;rw[if_neg (λhh=>hh ht),if_neg hnx,if_neg he]
  have:=h (F.un (svS G s w (.s (.slice oa w.U.length cap)) o0 o1 o2 p)) (by rw[e1];exact he)
  rw[e1]at this
  exact ret this
 ·repeat(first|exact Tv|refine⟨rfl,?_⟩|refine⟨za (o:=(F.un (svS G s w _ o0 o1 o2 p)).obj xw) _ hx rfl,?_⟩|refine⟨za (o:=(F.un (svS G s w _ o0 o1 o2 p)).obj s) _ hs rfl,?_⟩)
 refine Qap ?_
 refine Qap ?_
 have hon:onP w.G (bdB w c):=Classical.byContradiction λhh=>by
  unfold qs at he
  rw[if_pos hh]at he
  cases he
 have e1:bdE w c=(by classical exact if Dr w (bdB w c)then 5 else 0):=by
  unfold bdE
  rw[if_neg (λhh=>hh ht),if_neg hnx,if_pos he]
 refine za0 hW mf hn (zye hm) (bdB w c) ⟨hbp,hon⟩ _ (λz F2 hz hS2=>?_)
 refine zj (λc3=>?_) (λc3=>?_)
 ·exact ret (bad 5 (by decide) (by rw[e1,if_pos (hz.1 c3)]) _)
 have hnm:¬Dr w (bdB w c):=λhh=>by have:=hz.2 hh;rw[this]at c3;cases c3
 have hz0:bdE w c=0:=by rw[e1,if_neg hnm]
 have hx2:=hW.x (F':=F2) (q0:=o0) (q1:=o1) (q2:=o2)
 have hs2:=hW.s (F':=F2) (q0:=o0) (q1:=o1) (q2:=o2)
 have hr2:=hW.r (F':=F2) (q0:=o0) (q1:=o1) (q2:=o2)
 have hos:=hW.os
 have hxs:=hW.ne
 generalize F2.un (svS G s w _ o0 o1 o2 p)=S at hx2 hs2 hr2⊢
 refine Qaq ?_
 refine Bs (i:=ti25) (v:=lst 6 zi (w.B++[bdB w c])) (b:=s) (o:=6) (l:=svC w (.s (.slice oa w.U.length cap)) o0 o1 o2 p) rfl rfl rfl hs2 (show 6+1<=12 by decide) ?_
 have hs3:(S.sO s (.cells (zu (svC w (.s (.slice oa w.U.length cap)) o0 o1 o2 p) 6 [lst 6 zi (w.B++[bdB w c])]))).obj s=some (.cells (svC {w with B:=w.B++[bdB w c]} (.s (.slice oa w.U.length cap)) o0 o1 o2 p)):=zd _ _ _
 have hx3:=(zg (st:=S) (x:=.cells (zu (svC w (.s (.slice oa w.U.length cap)) o0 o1 o2 p) 6 [lst 6 zi (w.B++[bdB w c])])) hxs).trans hx2
 have hr3:=hr2.set hos (.cells (zu (svC w (.s (.slice oa w.U.length cap)) o0 o1 o2 p) 6 [lst 6 zi (w.B++[bdB w c])]))
 generalize S.sO s _=S2 at hs3 hx3 hr3⊢
 refine Qaq ?_
 refine Qaq ?_
 refine ze (by dsimp only;omega) ?_
 refine Bs (i:=ti2) (v:=int (w.next+1)) (b:=s) (o:=2) (l:=svC {w with B:=w.B++[bdB w c]} (.s (.slice oa w.U.length cap)) o0 o1 o2 p) rfl rfl rfl hs3 (show 2+1<=12 by decide) ?_
 exact ret (h0 hz0 _ ⟨_,o0,o1,o2,p,(zg hxs).trans hx3,zd _ _ _,hr3.set hos _⟩)
end Go.Proofs
namespace Go.Proofs
open Go Go.V
set_option maxRecDepth 20000
set_option maxHeartbeats 4000000
end Go.Proofs
namespace Go.Proofs
open Go Go.V
set_option maxRecDepth 20000
set_option maxHeartbeats 4000000
def Mt:List AV:=[int 0,int 0,int 0,int 0,int 0,int 0]
theorem yf3(b:Bld):∀y∈zi b,y.one=true:=by
 intro y hy
 obtain⟨x,rfl,h⟩:=Mm b y hy
 exact h
theorem zvk(l:List Bld):∀y∈(rws zi l).flatten,y.one=true:=by
 intro y hy
 obtain⟨r,hr,hy⟩:=List.mem_flatten.1 hy
 obtain⟨b,_,rfl⟩:=Fac.1 hr
 exact yf3 b y hy
theorem yd4{N:Store}{v:AV}{l:List Bld}(hv:RowsQ 6 zi N v l)(hl:l.length<=256){i:Nat}(hi:i<l.length)(R:Ja)(h:∀v' N',RowsQ 6 zi N' v' (l.eraseIdx i)->R v' N'):Jb 317 [v,int (i:Nat),int ((i:Int)+1)] N R:=by
 rcases hv with(⟨_,hl0⟩|⟨b,cap,L,rfl,ho,hc1,hc2,hc3⟩)|⟨_,_,_,hl0⟩
 ·subst hl0;exact absurd hi (Fbf _)
 rotate_left
 ·subst hl0;exact absurd hi (Fbf _)
 refine Qa (c:=cfg 33) zb Tryz.func317 ?_
 refine yg5 (i:=i) (j:=i+1) (m:=l.length) rfl rfl rfl rfl (by omega) (by omega) hc1 (by omega) ?_
 refine z6 (λhh=>absurd hh (by omega)) (λ_=>?_)
 refine Qc zb zta ?_
 refine⟨0,i,rfl,rfl,Faj _,by omega,.inl ⟨by omega,?_⟩⟩
 by_cases hc:i+1<cap
 ·refine⟨i+1,l.length,rfl,rfl,by omega,hc1,.inl ⟨hc,?_⟩⟩
  refine⟨⟨.inr ⟨_,_,rfl,rfl,ut (ie:=ti197) (n:=i) (m:=l.length-(i+1)) (xs:=(rws zi (l.drop (i+1))).flatten) rfl ho (by rw[Fag,kr jl];exact hc2) (by omega) (by have:=SrcOK.obj (P:=Tryz.prog) (k:=6) (m:=l.length-(i+1)) (o:=0+(i+1)*6) (cp:=cap-(i+1)) ho (by rw[Fag,kr jl];omega) (by rw[Fbd,rn jl (by omega)];exact zvk _);rw[Fbd,rn jl (by omega)]at this;rw[Fbd];exact this) ⟨by show(i+(l.length-(i+1)))*48<=_;omega,by omega⟩ (λ_=>⟨Tv,?_⟩) (λhh=>by omega)⟩⟩,Tv⟩
  rw[show zu ((rws zi l).flatten++L) (i*ti197.size) (rws zi (l.drop (i+1))).flatten=(rws zi (l.eraseIdx i)).flatten++(zi l[l.length-1]++L)from rg jl hi L]
  have hel:=rh hi
  have ho2:(N.sO b (.cells ((rws zi (l.eraseIdx i)).flatten++(zi l[l.length-1]++L)))).obj b=some (.cells ((rws zi (l.eraseIdx i)).flatten++(zi l[l.length-1]++L))):=zd _ _ _
  generalize N.sO b _=N2 at ho2⊢
  refine Qap ?_
  refine⟨i+(l.length-(i+1)),l.length,rfl,rfl,by omega,hc1,.inl ⟨by omega,?_⟩⟩
  refine zac (ie:=ti197) (b:=b) (off:=0+(i+(l.length-(i+1)))*ti197.size) (l:=(rws zi (l.eraseIdx i)).flatten++(zi l[l.length-1]++L)) rfl rfl rfl rfl rfl rfl rfl (by omega) ho2 (by rw[Fag,kr jl,hel,Fag,jl];show 0+(i+(l.length-(i+1)))*6+6<=_;omega) (by decide) ?_
  have e3:zu ((rws zi (l.eraseIdx i)).flatten++(zi l[l.length-1]++L)) (0+(i+(l.length-(i+1)))*ti197.size) (ti197.zero.map AV.s)=(rws zi (l.eraseIdx i)).flatten++(Mt++L):=by
   have h1:(rws zi (l.eraseIdx i)).flatten.length=0+(i+(l.length-(i+1)))*ti197.size:=by
    rw[kr jl,hel]
    show _=0+(i+(l.length-(i+1)))*6
    omega
   rw[Cn h1,Fas]
   rfl
  rw[e3]
  have e4:i+(l.length-(i+1))=(l.eraseIdx i).length:=by omega
  refine ret (h _ _ (.inl (.inr ⟨b,cap,Mt++L,by rw[<-e4];rfl,zd _ _ _,by omega,by rw[Fag];show cap*6<=_*6+(6+L.length);omega,hc3⟩)))
 ·refine⟨i+1,l.length,rfl,rfl,by omega,hc1,.inr ⟨by omega,?_⟩⟩
  have e1:l.drop (i+1)=[]:=Fc1 (by omega)
  have hsp:=rg jl hi L
  rw[e1]at hsp
  have hsp:zu ((rws zi l).flatten++L) (i*6) []=(rws zi (l.eraseIdx i)).flatten++(zi l[l.length-1]++L):=hsp
  have hsrc:SrcOK Tryz.prog N 6 0 (.s (.slice (some ⟨b,0,none⟩) 0 0)) []:=by
   have:=SrcOK.obj (P:=Tryz.prog) (k:=6) (m:=0) (o:=0) (cp:=0) ho (by omega) (λy hy=>by simp at hy)
   simpa using this
  refine⟨⟨.inr ⟨_,_,rfl,rfl,ut (ie:=ti197) (n:=i) (m:=0) (xs:=[]) rfl ho (by rw[Fag,kr jl];exact hc2) (by omega) hsrc ⟨by show(i+(0))*48<=_;omega,by omega⟩ (λ_=>⟨Tv,?_⟩) (λhh=>by omega)⟩⟩,Tv⟩
  rw[show zu ((rws zi l).flatten++L) (i*ti197.size) []=(rws zi (l.eraseIdx i)).flatten++(zi l[l.length-1]++L)from hsp]
  have hel:=rh hi
  have ho2:(N.sO b (.cells ((rws zi (l.eraseIdx i)).flatten++(zi l[l.length-1]++L)))).obj b=some (.cells ((rws zi (l.eraseIdx i)).flatten++(zi l[l.length-1]++L))):=zd _ _ _
  generalize N.sO b _=N2 at ho2⊢
  refine Qap ?_
  refine⟨i+(0),l.length,rfl,rfl,by omega,hc1,.inl ⟨by omega,?_⟩⟩
  refine zac (ie:=ti197) (b:=b) (off:=0+(i+(0))*ti197.size) (l:=(rws zi (l.eraseIdx i)).flatten++(zi l[l.length-1]++L)) rfl rfl rfl rfl rfl rfl rfl (by omega) ho2 (by rw[Fag,kr jl,hel,Fag,jl];show 0+(i+(0))*6+6<=_;omega) (by decide) ?_
  have e3:zu ((rws zi (l.eraseIdx i)).flatten++(zi l[l.length-1]++L)) (0+(i+(0))*ti197.size) (ti197.zero.map AV.s)=(rws zi (l.eraseIdx i)).flatten++(Mt++L):=by
   have h1:(rws zi (l.eraseIdx i)).flatten.length=0+(i+(0))*ti197.size:=by
    rw[kr jl,hel]
    show _=0+(i+(0))*6
    omega
   rw[Cn h1,Fas]
   rfl
  rw[e3]
  have e4:i+(0)=(l.eraseIdx i).length:=by omega
  refine ret (h _ _ (.inl (.inr ⟨b,cap,Mt++L,by rw[<-e4];rfl,zd _ _ _,by omega,by rw[Fag];show cap*6<=_*6+(6+L.length);omega,hc3⟩)))
section
variable {v:AV} {i:Nat} {w:Wld}
theorem yd3{N S:Store}(hd:zh N S){l:List Bld}(hv:RowsQ 6 zi N v l)(hl:l.length<=256)(hi:i<l.length)(R:Ja)(h:R (lst 6 zi (l.eraseIdx i)) S):Jb 317 [v,int (i:Nat),int ((i:Int)+1)] (N.un S) R:=by
 have h1:Jb 317 [v,int (i:Nat),int ((i:Int)+1)] N λr S2=>r=lst 6 zi (l.eraseIdx i)/\S2=Store.empty:=
  ACalls.frozenTo (yd4 hv hl hi (λr N'=>RowsQ 6 zi N' r (l.eraseIdx i)) λv' N' h=>h) λr N' hr=>
   ⟨_,Store.empty,⟨rfl,rfl⟩,(λb x hx=>by cases hx),(λb x hx=>by cases hx),λOth M w v' sto hx=>by
    refine(nk hr sto hx).mono λb o hT=>?_
    exact⟨hT.1,hT.2.resolve_right λhh=>hh rfl⟩⟩
 exact ACalls.frame hd h1 λr S2 ⟨e,e2⟩ hd2=>by subst e e2;rw[vm];exact h
theorem yds(b:Bld)(pb xw s:Nat)(c:Cmd)(fv:AV)(st:Store)(hb:st.obj pb=some (.cells [ptr xw]))(hx:st.obj xw=some (.cells (wkC s c fv)))(R:Ja)(h:R (V.bool (decide (b.id=c.N))) st):Jb 316 ([.agg (zi b)]++[ptr pb]) st R:=by
 rw[<-bm]at h
 refine Qa (c:=cfg 12) zb Tryz.func316 ?_
 refine Qc zb ztb ?_
 refine Qaq ?_
 refine Qaq ?_
 refine⟨⟨?_,?_⟩,Tv⟩
 ·repeat(first|exact Tv|refine⟨rfl,?_⟩|refine⟨za (o:=st.obj pb) _ hb rfl,?_⟩|refine⟨za (o:=st.obj xw) _ hx rfl,?_⟩)
 exact ret h
theorem ydw{c:Cmd}(h:Cd w.B c.N=some i)(hi:i<w.B.length):drE w c=if w.B[i].owner=c.P then 0 else 6:=by
 unfold drE
 rw[h]
 simp[Fa6,hi]
theorem yc9{l:List Bld}{id:Int}(h:Cd l id=some i):∃hi:i<l.length,l[i].id=id:=by
 unfold Cd at h
 rw[Fbh]at h
 obtain⟨h1,h2,_⟩:=h
 exact⟨h1,of_decide_eq_true h2⟩
theorem zbc{F G:Store}{xw s p:Nat}{L:List Ent}{o0 o1 o2:AV}{c:Cmd}{fv:AV}(hW:Work F G xw s p w v L o0 o1 o2 c fv)(hm:MayF w)(R:Ja)
  (h:∀S',drE w c≠0->R (int (drE w c)) S') (h0:drE w c=0->∀S',Bn S' xw s c fv (drW w c)->R (int 0) S'):Jb 229 [ptr xw] (F.un (svS G s w v o0 o1 o2 p)) R:=by
 have hx:=hW.x (F':=F) (q0:=o0) (q1:=o1) (q2:=o2)
 have hs:=hW.s (F':=F) (q0:=o0) (q1:=o1) (q2:=o2)
 have hr:=hW.r (F':=F) (q0:=o0) (q1:=o1) (q2:=o2)
 have hxs:=hW.ne
 have hos:=hW.os
 have hB:=hm.hB
 obtain⟨oa,cap,e,hget⟩:=hW.S.hu.form
 subst e
 generalize F.un (svS G s w _ o0 o1 o2 p)=S at hx hs hr⊢
 refine Qa (c:=cfg 56 [1] []) zb Tryz.func229 ?_
 intro pb hpb
 have hbx:xw≠pb:=λe=>by
  subst e
  have:=hpb.1
  rw[hx]at this
  cases this
 have hbs:s≠pb:=λe=>by
  subst e
  have:=hpb.1
  rw[hs]at this
  cases this
 have hb:(S.sO pb (.cells [ptr xw])).obj pb=some (.cells [ptr xw]):=zd _ _ _
 have hx:=(zg (st:=S) (x:=.cells [ptr xw]) hbx).trans hx
 have hs:=(zg (st:=S) (x:=.cells [ptr xw]) hbs).trans hs
 have hr:=hr.set (Hh hr hpb.1) (.cells [ptr xw])
 refine za (o:=(S.sO pb (.cells [ptr xw])).obj pb) _ hb ?_
 refine za (o:=(S.sO pb (.cells [ptr xw])).obj xw) _ hx ?_
 refine za (o:=(S.sO pb (.cells [ptr xw])).obj s) _ hs ?_
 refine tz w.B (by omega) _ _ (λb=>decide (b.id=c.N)) _ (λb _ R h=>yds b pb xw s c fv _ hb hx R h) _ ?_
 have hfb:(w.B.findIdx? λb=>decide (b.id=c.N))=Cd w.B c.N:=rfl
 rw[hfb]
 refine bcd (λc1=>?_) (λc1=>?_)
 ·cases hf:Cd w.B c.N with
  |some i=>rw[hf]at c1;exact absurd c1 (by show¬((i:Int)<0);omega)
  |none=>
   have he:drE w c=3:=by unfold drE;rw[hf]
   have:=h (S.sO pb (.cells [ptr xw])) (by rw[he];decide)
   rw[he]at this
   exact ret this
 cases hf:Cd w.B c.N with
 |none=>rw[hf]at c1;exact absurd (show(-1:Int)<0 by decide) c1
 |some i=>
 obtain⟨hi,hid⟩:=yc9 hf
 have he:=ydw hf hi
 refine Qc zb ztx ?_
 refine za (o:=(S.sO pb (.cells [ptr xw])).obj pb) _ hb ?_
 refine za (o:=(S.sO pb (.cells [ptr xw])).obj xw) _ hx ?_
 refine za (o:=(S.sO pb (.cells [ptr xw])).obj s) _ hs ?_
 refine⟨i,rfl,za _ (zr hi) ?_⟩
 refine za (o:=(S.sO pb (.cells [ptr xw])).obj pb) _ hb ?_
 refine za (o:=(S.sO pb (.cells [ptr xw])).obj xw) _ hx ?_
 refine⟨⟨?_,?_⟩,Tv⟩
 ·repeat(first|exact Tv|refine⟨rfl,?_⟩|refine⟨za (o:=(S.sO pb (.cells [ptr xw])).obj pb) _ hb rfl,?_⟩|refine⟨za (o:=(S.sO pb (.cells [ptr xw])).obj xw) _ hx rfl,?_⟩|refine⟨za (o:=(S.sO pb (.cells [ptr xw])).obj s) _ hs rfl,?_⟩|refine⟨⟨i,rfl,za _ (zr hi) rfl⟩,?_⟩)
 refine qr (λc2=>?_) (λc2=>?_)
 ·rw[if_neg c2]at he
  have:=h (S.sO pb (.cells [ptr xw])) (by rw[he];decide)
  rw[he]at this
  exact ret this
 rw[if_pos c2]at he
 have hW2:drW w c={w with B:=w.B.eraseIdx i}:=by unfold drW;rw[hf]
 refine Qc zb ztw ?_
 refine za (o:=(S.sO pb (.cells [ptr xw])).obj pb) _ hb ?_
 refine za (o:=(S.sO pb (.cells [ptr xw])).obj xw) _ hx ?_
 refine za (o:=(S.sO pb (.cells [ptr xw])).obj pb) _ hb ?_
 refine za (o:=(S.sO pb (.cells [ptr xw])).obj xw) _ hx ?_
 refine za (o:=(S.sO pb (.cells [ptr xw])).obj s) _ hs ?_
 refine ze (by show -9223372036854775808<=((i:Nat):Int)+1/\((i:Nat):Int)+1<=9223372036854775807;omega) ?_
 refine⟨Px w.B (by omega) _ _ (λv2 N hv2 hd=>⟨?_,?_⟩),Tv⟩
 ·have hb2:(N.un (S.sO pb (.cells [ptr xw]))).obj pb=_:=zf hb
  have hx2:(N.un (S.sO pb (.cells [ptr xw]))).obj xw=_:=zf hx
  have hs2:(N.un (S.sO pb (.cells [ptr xw]))).obj s=_:=zf hs
  repeat(first|exact Tv|refine⟨rfl,?_⟩|refine⟨za (o:=(N.un (S.sO pb (.cells [ptr xw]))).obj pb) _ hb2 rfl,?_⟩|refine⟨za (o:=(N.un (S.sO pb (.cells [ptr xw]))).obj xw) _ hx2 rfl,?_⟩|refine⟨za (o:=(N.un (S.sO pb (.cells [ptr xw]))).obj s) _ hs2 rfl,?_⟩)
 refine⟨yd3 hd hv2 (by omega) hi _ ⟨?_,?_⟩,Tv⟩
 ·repeat(first|exact Tv|refine⟨rfl,?_⟩|refine⟨za (o:=(S.sO pb (.cells [ptr xw])).obj pb) _ hb rfl,?_⟩|refine⟨za (o:=(S.sO pb (.cells [ptr xw])).obj xw) _ hx rfl,?_⟩|refine⟨za (o:=(S.sO pb (.cells [ptr xw])).obj s) _ hs rfl,?_⟩)
 refine⟨?_,Tv⟩
 refine za _ rfl (ju rfl (jo (v:=lst 6 zi (w.B.eraseIdx i)) rfl rfl rfl rfl ?_))
 refine Bs (i:=ti25) (v:=lst 6 zi (w.B.eraseIdx i)) (b:=s) (o:=6) (l:=svC w (.s (.slice oa w.U.length cap)) o0 o1 o2 p) rfl rfl rfl hs (show 6+1<=12 by decide) ?_
 have hs3:((S.sO pb (.cells [ptr xw])).sO s (.cells (zu (svC w (.s (.slice oa w.U.length cap)) o0 o1 o2 p) 6 [lst 6 zi (w.B.eraseIdx i)]))).obj s=some (.cells (svC {w with B:=w.B.eraseIdx i} (.s (.slice oa w.U.length cap)) o0 o1 o2 p)):=zd _ _ _
 have hx3:=(zg (st:=S.sO pb (.cells [ptr xw])) (x:=.cells (zu (svC w (.s (.slice oa w.U.length cap)) o0 o1 o2 p) 6 [lst 6 zi (w.B.eraseIdx i)])) hxs).trans hx
 have hr3:=hr.set hos (.cells (zu (svC w (.s (.slice oa w.U.length cap)) o0 o1 o2 p) 6 [lst 6 zi (w.B.eraseIdx i)]))
 have hb3:=(zg (st:=S.sO pb (.cells [ptr xw])) (x:=.cells (zu (svC w (.s (.slice oa w.U.length cap)) o0 o1 o2 p) 6 [lst 6 zi (w.B.eraseIdx i)])) (Ne.symm hbs)).trans hb
 refine⟨Tv,?_⟩
 exact ret (h0 he _ (by rw[hW2];exact⟨_,o0,o1,o2,p,hx3,hs3,hr3⟩))
end
end Go.Proofs
namespace Go.Proofs
open Go Go.V
set_option maxRecDepth 20000
set_option maxHeartbeats 4000000
def smallW(w:Wld):Prop:=(∀u∈w.U,u.pos.ok)/\w.G.T.length<=1000000/\w.B.length<=1000000/\w.U.length<=1000000
theorem smallW.fits{w:Wld}(h:smallW w):w.fits:=⟨by unfold Gnd.fits;have:=h.2.1;omega,by have:=h.2.2.1;omega,by have:=h.2.2.2;omega⟩
theorem ydy{F G N:Store}{xw s p fb:Nat}{room:Int}{kc:Nat}{w:Wld}{v:AV}{L:List Ent}{o0 o1 o2:AV}{c:Cmd}(hW:Work F G xw s p w v L o0 o1 o2 c (xh fb))(hdN:zh (F.un (svS G s w v o0 o1 o2 p)) N)(hFN:FldAny fb room (kc:Nat) N)(hm:z7 w)(hn:∀u∈w.U,u.pos.ok)(hc:vn c)(hp:c.P<=w.players)(R:Ja)
  (h:∀S' N',aE w c≠0->zh S' N'->FldAny fb room (kc:Nat) N'->R (int (aE w c)) (S'.un N')) (h0:aE w c=0->∀S' N',Bn S' xw s c (xh fb) (aW w c)->zh S' N'->FldAny fb room (kc:Nat) N'->R (int 0) (S'.un N')):
  Jb 146 [ptr xw] ((F.un (svS G s w v o0 o1 o2 p)).un N) R:=by
 have hx:=z8 hdN (hW.x (F':=F) (q0:=o0) (q1:=o1) (q2:=o2))
 refine Qa (c:=cfg 34) zb Tryz.func146 ?_
 refine za (o:=((F.un (svS G s w v o0 o1 o2 p)).un N).obj xw) _ hx ?_
 have lift:∀{f:FuncId} {E:Int} {W:Wld},(∀R:AV->Store->Prop,(∀S',E≠0->R (int E) S')->(E=0->∀S',Bn S' xw s c (xh fb) W->R (int 0) S')->Jb f [ptr xw] (F.un (svS G s w v o0 o1 o2 p)) R)->E=aE w c->W=aW w c->
   ∀K:AV->Store->Prop,(∀S' N',aE w c≠0->zh S' N'->FldAny fb room (kc:Nat) N'->K (int (aE w c)) (S'.un N'))->(aE w c=0->∀S' N',Bn S' xw s c (xh fb) (aW w c)->zh S' N'->FldAny fb room (kc:Nat) N'->K (int 0) (S'.un N'))->
   Jb f [ptr xw] ((F.un (svS G s w v o0 o1 o2 p)).un N) K:=λ{f E W} hf e1 e2 K k1 k2=>by
  subst e1 e2
  refine ACalls.frame hdN (hf (λr S=>(aE w c≠0/\r=int (aE w c))\/(aE w c=0/\r=int 0/\Bn S xw s c (xh fb) (aW w c))) (λS' he=>.inl ⟨he,rfl⟩) (λhe S' hd=>.inr ⟨he,rfl,hd⟩)) ?_
  rintro r S (⟨he,rfl⟩|⟨he,rfl,hd⟩) hd'
  ·exact k1 S N he hd' hFN
  ·exact k2 he S N hd hd' hFN
 rcases Vy hc with q|q|q|q|q|q|q
 ·obtain⟨e1,e2⟩:=a1 (w:=w) q
  refine z6 (λ_=>?_) (λc1=>absurd q c1)
  refine lift (λR a b=>zan hW (ku hm) hn (ye6 ((Cmd.ok1 q).1 hc.1).2) R a b) e1.symm e2.symm _ (λS' N' he hd hF=>ret (h S' N' he hd hF)) (λhe S' N' h1 h2 h3=>ret (h0 he S' N' h1 h2 h3))
 ·obtain⟨e1,e2⟩:=a2 (w:=w) q
  refine z6 (λc1=>absurd (q.symm.trans c1) (by decide)) (λ_=>?_)
  refine z6 (λ_=>?_) (λc1=>absurd q c1)
  rw[e1]at h h0
  rw[e2]at h0
  refine zaz hW hdN hFN (ku hm) hn ((Cmd.ok2 q).1 hc.1).1.1.2 _ (λS' N' he hd hF=>ret (h S' N' he hd hF)) (λhe S' N' h1 h2 h3=>ret (h0 he S' N' h1 h2 h3))
 ·obtain⟨e1,e2⟩:=a3 (w:=w) q
  refine z6 (λc1=>absurd (q.symm.trans c1) (by decide)) (λ_=>?_)
  refine z6 (λc1=>absurd (q.symm.trans c1) (by decide)) (λ_=>?_)
  refine z6 (λ_=>?_) (λc1=>absurd q c1)
  refine lift (λR a b=>zam hW (ku hm) hn ((Cmd.ok3 q).1 hc.1).1.2 R a b) e1.symm e2.symm _ (λS' N' he hd hF=>ret (h S' N' he hd hF)) (λhe S' N' h1 h2 h3=>ret (h0 he S' N' h1 h2 h3))
 ·obtain⟨e1,e2⟩:=a4 (w:=w) q
  refine z6 (λc1=>absurd (q.symm.trans c1) (by decide)) (λ_=>?_)
  refine z6 (λc1=>absurd (q.symm.trans c1) (by decide)) (λ_=>?_)
  refine z6 (λc1=>absurd (q.symm.trans c1) (by decide)) (λ_=>?_)
  refine z6 (λ_=>?_) (λc1=>absurd q c1)
  refine lift (λR a b=>zbd hW hm hn hc q R a b) e1.symm e2.symm _ (λS' N' he hd hF=>ret (h S' N' he hd hF)) (λhe S' N' h1 h2 h3=>ret (h0 he S' N' h1 h2 h3))
 ·obtain⟨e1,e2⟩:=a5 (w:=w) q
  refine z6 (λc1=>absurd (q.symm.trans c1) (by decide)) (λ_=>?_)
  refine z6 (λc1=>absurd (q.symm.trans c1) (by decide)) (λ_=>?_)
  refine z6 (λc1=>absurd (q.symm.trans c1) (by decide)) (λ_=>?_)
  refine z6 (λc1=>absurd (q.symm.trans c1) (by decide)) (λ_=>?_)
  refine z6 (λ_=>?_) (λc1=>absurd q c1)
  refine lift (λR a b=>zbc hW (ku hm) R a b) e1.symm e2.symm _ (λS' N' he hd hF=>ret (h S' N' he hd hF)) (λhe S' N' h1 h2 h3=>ret (h0 he S' N' h1 h2 h3))
 ·obtain⟨e1,e2⟩:=a6 (w:=w) q
  refine z6 (λc1=>absurd (q.symm.trans c1) (by decide)) (λ_=>?_)
  refine z6 (λc1=>absurd (q.symm.trans c1) (by decide)) (λ_=>?_)
  refine z6 (λc1=>absurd (q.symm.trans c1) (by decide)) (λ_=>?_)
  refine z6 (λc1=>absurd (q.symm.trans c1) (by decide)) (λ_=>?_)
  refine z6 (λc1=>absurd (q.symm.trans c1) (by decide)) (λ_=>?_)
  refine z6 (λ_=>?_) (λc1=>absurd q c1)
  refine lift (λR a b=>za1 hW hm hn ((Cmd.ok6 q).1 hc.1).1.1.2 ((Cmd.ok6 q).1 hc.1).2.1 R a b) e1.symm e2.symm _ (λS' N' he hd hF=>ret (h S' N' he hd hF)) (λhe S' N' h1 h2 h3=>ret (h0 he S' N' h1 h2 h3))
 ·obtain⟨e1,e2⟩:=a7 (w:=w) q
  refine z6 (λc1=>absurd (q.symm.trans c1) (by decide)) (λ_=>?_)
  refine z6 (λc1=>absurd (q.symm.trans c1) (by decide)) (λ_=>?_)
  refine z6 (λc1=>absurd (q.symm.trans c1) (by decide)) (λ_=>?_)
  refine z6 (λc1=>absurd (q.symm.trans c1) (by decide)) (λ_=>?_)
  refine z6 (λc1=>absurd (q.symm.trans c1) (by decide)) (λ_=>?_)
  refine z6 (λc1=>absurd (q.symm.trans c1) (by decide)) (λ_=>?_)
  rw[e1]at h h0
  rw[e2]at h0
  refine zal hW hdN hFN (ku hm) hn _ (λS' N' he hd hF=>ret (h S' N' he hd hF)) (λhe S' N' h1 h2 h3=>ret (h0 he S' N' h1 h2 h3))
theorem yd1{N:Store}{fb:Nat}{room:Int}{kc:Nat}(hF:FldAny fb room (kc:Nat) N)(w:Wld)(hm:z7 w)(hn:∀u∈w.U,u.pos.ok)(c:Cmd)(hc:c.fits):Jb 93 [.agg (zw w),.agg (qu c),xh fb] N λr S=>
  (r=.tup [.agg (zw (doW aE aW w c)),int (doE aE w c)]/\FldAny fb room (kc:Nat) S)\/∃X N' v,RowsQ 10 zk X v (doW aE aW w c).U/\zh X N'/\FldAny fb room (kc:Nat) N'/\S=X.un N'/\r=.tup [.agg (qv (doW aE aW w c) v),int (doE aE w c)]:=by
 have mf:=ku hm
 have hU:=mf.hU
 have hB:=mf.hB
 have hT:=mf.hT
 refine Qa (c:=cfg 41 [27] []) zb Tryz.func93 ?_
 refine ye8 c hc _ _ (λzc hzc=>?_)
 have bad:(¬vn c\/w.players<c.P)->∀X:Prop,((.tup [.agg (zw w),int 1]:AV)=.tup [.agg (zw (doW aE aW w c)),int (doE aE w c)]/\FldAny fb room (kc:Nat) N)\/X:=λhb X=>by
  have he:=rx (E:=aE) (w:=w) (c:=c) (.inr hb)
  rw[Wv (by rw[he];decide),he]
  exact .inl ⟨rfl,hF⟩
 refine ym ?_
 refine zj (λc1=>?_) (λc1=>?_)
 rotate_left
 ·exact ret (bad (.inl λhh=>by have:=hzc.2 hh;rw[this]at c1;cases c1) _)
 refine bcd (λc2=>?_) (λc2=>?_)
 ·exact ret (bad (.inr (by omega)) _)
 clear bad
 have hcp:=hzc.1 c1
 have he:=ru (E:=aE) hm hcp (show c.P<=w.players by omega)
 have hown:∀R:AV->Store->Prop,(∀v X,RowsQ 10 zk X v w.U->zh X N->R (.agg (qv w v)) (X.un N))->Jb 91 [.agg (zw w)] N R:=λR h=>by
  rw[<-vm N]
  refine ACalls.frame (Kn _) (lp w (by omega) (by omega) (by omega) (λr S=>∃v,RowsQ 10 zk S v w.U/\r=.agg (qv w v)) (λv N h=>⟨v,h,rfl⟩)) ?_
  rintro r a' ⟨v,h1,rfl⟩ hd'
  exact h v a' h1 hd'
 refine Qc zb zr8 ?_
 refine⟨hown _ (λv X hv hXN=>⟨Qe,?_⟩),Tv⟩
 have hopen:=ACalls.frame hXN (lu w v X hv (by omega) hn (λr S=>∃F s p L o0 o1 o2,r=ptr s/\S=F.un (svS X s w v o0 o1 o2 p)/\Fresh X s/\StandR F X s p w v L o0 o1 o2/\L.length<=w.U.length/\(yg w.U->∀e,e∈L↔∃u∈w.U,u.inn=0/\e=(u.id,u.pos))) (λF s p L o0 o1 o2 h1 h2 h3 h4=>⟨F,s,p,L,o0,o1,o2,rfl,rfl,h1,h2,h3,h4⟩))
  (R':=λr S=>∃F s p L o0 o1 o2,r=ptr s/\S=(F.un (svS X s w v o0 o1 o2 p)).un N/\zh (F.un (svS X s w v o0 o1 o2 p)) N/\StandR F X s p w v L o0 o1 o2/\L.length<=w.U.length/\(yg w.U->∀e,e∈L↔∃u∈w.U,u.inn=0/\e=(u.id,u.pos)))
  (λr a' ⟨F,s,p,L,o0,o1,o2,h1,h2,h3,h4,h5,h6⟩ hd=>⟨F,s,p,L,o0,o1,o2,h1,by rw[h2],h2▸hd,h4,h5,h6⟩)
 refine⟨hopen.imp ?_,Tv⟩
 rintro _ _ ⟨F,s,p,L,o0,o1,o2,rfl,rfl,hdN,hS,hLl,hL⟩
 refine⟨Qe,?_⟩
 refine⟨λxw hxw=>⟨Qe,?_⟩,Tv⟩
 refine Qap ?_
 have hxw:=fresh_iff.1 hxw
 have hx1:¬F.has xw/\¬(svS X s w v o0 o1 o2 p).has xw:=⟨λh=>hxw (un_has.2 (.inl (un_has.2 (.inl h)))),λh=>hxw (un_has.2 (.inl (un_has.2 (.inr h))))⟩
 have hxN:¬N.has xw:=λh=>hxw (un_has.2 (.inr h))
 have hne:xw≠s:=λe=>hx1.2 (svS_has.2 (.inl e))
 have hxX:¬X.has xw:=λh=>hx1.2 (svS_has.2 (.inr h))
 have e0:((F.un (svS X s w v o0 o1 o2 p)).un N).sO xw (.cells (wkC s c (xh fb)))=(F.un (svS (X.sO xw (.cells (wkC s c (xh fb)))) s w v o0 o1 o2 p)).un N:=by
  rw[G4 hxN,zt]
  unfold svS
  rw[D5 hne]
 have hdW:zh (F.un (svS (X.sO xw (.cells (wkC s c (xh fb)))) s w v o0 o1 o2 p)) N:=λi h1 h2=>by
  rcases un_has.1 h1 with h1|h1
  ·exact hdN i (un_has.2 (.inl h1)) h2
  ·rcases svS_has.1 h1 with h1|h1
   ·exact hdN i (un_has.2 (.inr (svS_has.2 (.inl h1)))) h2
   ·rcases has_setObj_iff.1 h1 with rfl|h1
    ·exact hxN h2
    ·exact hdN i (un_has.2 (.inr (svS_has.2 (.inr h1)))) h2
 have offx:=Hh hv (ww hxX).1
 have offs:=Hh hv hS.hs
 have hW:Work F (X.sO xw (.cells (wkC s c (xh fb)))) xw s p w v L o0 o1 o2 c (xh fb):=by
  refine⟨⟨hS.hc,λi h1 h2=>?_,?_,hv.set offx _,hS.h0,hS.h1,hS.h2⟩,zd _ _ _,offx,offs,hLl,hL mf.hr⟩
  ·rcases svS_has.1 h2 with rfl|h2
   ·exact hS.hd _ h1 (svS_has.2 (.inl rfl))
   ·rcases has_setObj_iff.1 h2 with rfl|h2
    ·exact hx1.1 h1
    ·exact hS.hd _ h1 (svS_has.2 (.inr h2))
  ·rw[zg (Ne.symm hne)];exact hS.hs
 refine cast (congrArg (λst=>Jb 146 [ptr xw] st _) e0.symm) ?_
 refine ydy hW hdW hF hm hn hcp (by omega) _ (λS' N' hE hd' hF'=>?_) (λhE S' N' hdn hd' hF'=>?_)
 ·refine qr (λ_=>?_) (λh=>absurd h hE)
  rw[he,Wv (by rw[he];exact hE)]
  exact⟨_,N',Tt,⟨λb x hx=>zf hx,λb x hx=>D2 hx⟩,.inl ⟨rfl,hF'⟩⟩
 ·obtain⟨v2,q0,q1,q2,p2,g1,g2,g3⟩:=hdn
  obtain⟨oa,cap,e2,_⟩:=g3.form
  subst e2
  refine za (o:=(S'.un N').obj xw) _ (z8 hd' g1) ?_
  refine za (o:=(S'.un N').obj s) _ (z8 hd' g2) ?_
  rw[he,rr (he.trans hE),hE]
  exact ret (.inr ⟨S',N',_,g3,hd',hF',rfl,rfl⟩)
theorem yd2:DoC:=λfb room k N w c hF hw hc R h=>by
 refine(yd1 hF w hw.1 hw.2 c hc).frozenTo ?_
 rintro r S (⟨rfl,hF'⟩|⟨X,N',v,hX,hd,hF',rfl,rfl⟩)
 ·exact⟨_,S.objs,h _ hF'.objs,λb x hx=>hx,λb x hx=>(by cases hx),λOth M W x sto hx=>hx.mono λb o hT=>hT.1⟩
 ·refine⟨_,N'.objs,h _ hF'.objs,λb x hx=>zf hx,λb x hx=>(by cases hx),λOth M W x sto hx=>?_⟩
  have sX:StoreOK X Oth M W:=sto.weaken ⟨λb y hy=>z8 hd hy,λb y hy=>K1 hd hy⟩
  have ht:∀b,((X.un N').obj b=none\/N'.objs.obj b≠none)->X.obj b=none:=λb hb=>by
   rcases hb with hb|hb
   ·exact(I2 hb).1
   ·cases hx:X.obj b with
    |none=>rfl
    |some y=>exact absurd (ww (hd b (jb hx))).1 hb
  exact VRel.mono (λb o h=>⟨h.1,ht b h.2⟩) (hx.tup2 (λx hx=>cq hX sX hx) (λx hx=>jr hx))
end Go.Proofs
namespace Go.Proofs
open Go Go.V
set_option maxRecDepth 20000
set_option maxHeartbeats 4000000
theorem yde{eb:Nat}{room:Int}{k:Nat}{w:Wld}{S:Store}(hE:EngR eb room k w S)(ht:w.tick=1099511627776)(l:List Cmd)(R:Ja)(h:R (.tup [nil,int 10]) S):Jb 47 [ptr eb,lst 10 qu l] S R:=by
 obtain⟨N,fb,rfl,hn,hF⟩:=hE.out
 refine Qa (c:=cfg 74) zb Tryz.func47 ?_
 refine za (o:=(N.sO eb _).obj eb) _ (zd _ _ _) ?_
 refine z6 (λc1=>?_) (λc1=>absurd ht c1)
 exact ret h
section
variable {eb:Nat} {room:Int} {k:Nat} {w:Wld} {S G:Store}
theorem rc(hE:EngR eb room k w S)(hd:zh S G)(hp:playW w)(R:Ja)(h:R (.agg (zw w)) (S.un G)):Jb 51 [ptr eb] (S.un G) R:=
 ACalls.frame hd (rb hE hp.sizes (λr S'=>r=.agg (zw w)/\S'=S) ⟨rfl,rfl⟩) λr a ⟨h1,h2⟩ _=>by subst h1 h2;exact h
theorem rf(hE:EngR eb room k w S)(hd:zh S G)(hp:playW w)(l:List Cmd)(hf:∀c∈l,c.fits)(hl:l.length<=512)(hk:k<=100000000000000000)(R:Ja)
  (hmax:w.tick=1099511627776->R (.tup [nil,int 10]) (S.un G))
  (h:w.tick<1099511627776->∀S',EngR eb room (k+4096) (Cg w l) S'->zh S' G->R (.tup [lst 1 zz (k9 w l),int 0]) (S'.un G)):Jb 47 [ptr eb,lst 10 qu l] (S.un G) R:=by
 have ht:=hp.1.1.1.1.1.2
 by_cases e:w.tick=1099511627776
 ·refine ACalls.frame hd (yde hE e l (λr S'=>r=.tup [nil,int 10]/\S'=S) ⟨rfl,rfl⟩) λr a ⟨h1,h2⟩ _=>by subst h1 h2;exact hmax e
 ·refine ACalls.frame hd (rd hE hp l (.inr yd2) hf hl (by omega) hk (λr S'=>r=.tup [lst 1 zz (k9 w l),int 0]/\EngR eb room (k+4096) (Cg w l) S') λS' h=>⟨rfl,h⟩) λr a ⟨h1,h2⟩ hd'=>by subst h1;exact h (by omega) a h2 hd'
theorem zax(hp:playW w)(hr:1<=room/\room<=4096)(R:Ja)(h:∀eb S,EngR eb room 0 w S->zh S G->R (.tup [ptr eb,int 0]) (S.un G)):Jb 43 [.agg (zw w),int room] G R:=by
 have hs:=hp.sizes
 have:=ACalls.frame (Kn G) (cn w (ku hp.1).fits hp.2 hs.1 hs.2.1 hs.2.2 room hr (λr S=>∃eb,r=.tup [ptr eb,int 0]/\EngR eb room 0 w S) (λh=>absurd hp.1 h) (λ_ eb S h=>⟨eb,rfl,h⟩)) (R':=R) λr a ⟨eb,h1,h2⟩ hd=>by subst h1;exact h eb a h2 hd
 rwa [vm]at this
end
theorem ydk(a b:List Int)(ha:a.length<=1000000000000)(st:Store)(R:Ja)(h:R (bool (decide (a=b))) st):Jb 49 [lst 1 zz a,lst 1 zz b] st R:=by
 refine Qa (c:=cfg 26) zb Tryz.func49 ?_
 refine zj (λh1=>?_) (λh1=>?_)
 ·have:a≠b:=λh2=>zyy h1 (by rw[h2])
  rw[show decide (a=b)=false by simp[this]]at h
  exact⟨_,st,Tt,Store.Has.refl st,h⟩
 ·have hl:a.length=b.length:=Ws h1
  refine AWp.loop (σ:=Nat) ⟨λi=>[(0,.av (lst 1 zz a)),(1,.av (lst 1 zz b)),(5,.av (int i))],λ_=>[],λi st'=>i<=a.length/\a.take i=b.take i/\st'=st,λi=>a.length-i⟩ zb ?_ ?_
  ·exact⟨0,Tv,⟨Faj _,rfl,rfl⟩,Qal,Tv⟩
  ·rintro i st' ⟨hi,heq,hst⟩
   refine zj (λh2=>?_) (λh2=>?_)
   ·have hlt:i<a.length:=wj h2
    have hltb:i<b.length:=by omega
    refine Qc zb zsi ?_
    refine⟨i,rfl,za _ (zr hlt) ?_⟩
    refine⟨i,rfl,za _ (zr hltb) ?_⟩
    refine zj (λh3=>?_) (λh3=>?_)
    ·have hne:a[i]≠b[i]:=by
      intro h4
      rw[h4]at h3
      simp at h3
     have:a≠b:=by
      intro h4
      subst h4
      exact hne rfl
     rw[show decide (a=b)=false by simp[this]]at h
     subst hst
     exact⟨_,st',Tt,Store.Has.refl st',h⟩
    ·refine⟨⟨by omega,by omega⟩,?_⟩
     refine⟨i+1,?_,⟨hlt,?_,hst⟩,Qal,Tv⟩
     ·show a.length-(i+1)<a.length-i
      omega
     ·rw[Fae hlt,Fae hltb,heq]
      have:a[i]=b[i]:=by simpa using h3
      rw[this]
   ·have hge:i=a.length:=Af h2 hi
    subst hge hst
    have:a=b:=by
     rw[Faz,hl,Faz]at heq
     exact heq
    rw[show decide (a=b)=true by simp[this]]at h
    exact⟨_,st',Tt,Store.Has.refl st',h⟩
theorem ydl(l:List Int)(hl:l.length<=1000)(st:Store)(R:Ja)(h:R (V.bool true) st):Jb 49 [lst 1 zz l,lst 1 zz l] st R:=
 ydk l l (by omega) st R (by rw[decide_eq_true rfl];exact h)
def leR:List (List AV)->List (List AV)->Prop
 |[],[]=>True
 |x::xs,y::ys=>leL x y/\leR xs ys
 |_,_=>False
theorem nt:∀{xs ys:List (List AV)},leR xs ys->xs.length=ys.length/\∀(i:Nat) (y:List AV),ys[i]?=some y->∃x,xs[i]?=some x/\leL x y
 |[],[],_=>⟨rfl,λi y h=>by cases h⟩
 |x::xs,y::ys,h=>by
  obtain⟨h1,h2⟩:=nt h.2
  refine⟨by simp[h1],λi z hz=>?_⟩
  cases i with
  |zero=>cases hz;exact⟨x,rfl,h.1⟩
  |succ i=>exact h2 i z hz
theorem zz2{k:Nat}{xs ys:List (List AV)}(h:leR xs ys):AV.le (.lst k xs none) (.lst k ys none):=by
 obtain⟨h1,h2⟩:=nt h
 have at1:∀(i:Nat) (row:List AV) (j:Nat) (y:AV),ys[i]?=some row->row[j]?=some y->∃r x,xs[i]?=some r/\r[j]?=some x/\AV.le x y:=by
  intro i row j y hi hj
  obtain⟨r,hr,hl⟩:=h2 i row hi
  obtain⟨l1,l2⟩:=Lr hl
  have hlt:j<r.length:=by rw[l1];exact(Faf.1 hj).1
  exact⟨r,r[j],hr,by simp[hlt],l2 j _ _ (by simp[hlt]) hj⟩
 intro w T v h
 cases h with
 |nil _ a=>
  cases ys with
  |nil=>exact .nil k a
  |cons y ys=>cases h1
 |lst _ _ b off cap _ c hcap hkk htok hc h1' hx=>
  rw[h1]at hcap⊢
  refine .lst ys none b off cap k c hcap ?_ (λ_ h=>by cases h) (λi row j y hi hj=>?_) (λi row j y hi hj=>?_) (λi row j y hi hj=>?_)
  ·intro i row hi
   obtain⟨r,hr,hl⟩:=h2 i row hi
   rw[<-(Lr hl).1];exact hkk i r hr
  ·obtain⟨r,x,hr,hx1,_⟩:=at1 i row j y hi hj
   exact hc i r j x hr hx1
  ·obtain⟨r,x,hr,hx1,_⟩:=at1 i row j y hi hj
   exact h1' i r j x hr hx1
  ·obtain⟨r,x,hr,hx1,hle⟩:=at1 i row j y hi hj
   exact hle _ _ _ (hx i r j x hr hx1)
theorem u9(x:Int):0<=xp .and .i64 x 7/\xp .and .i64 x 7<=7:=by
 have h:(BitVec.ofInt IntKind.i64.bits x &&& BitVec.ofInt IntKind.i64.bits 7).toNat<=7:=by
  rw[BitVec.toNat_and]
  exact Nat.and_le_right
 show 0<=IntKind.i64.wrap _/\IntKind.i64.wrap _<=7
 generalize(BitVec.ofInt IntKind.i64.bits x &&& BitVec.ofInt IntKind.i64.bits 7).toNat=m at h
 have:∀m:Nat,m<=7->0<=IntKind.i64.wrap (m:Int)/\IntKind.i64.wrap (m:Int)<=7:=λm hm=>by
  have h2:∀k:Nat,k<8->0<=IntKind.i64.wrap (k:Int)/\IntKind.i64.wrap (k:Int)<=7:=by decide
  exact h2 m (by omega)
 exact this m h
theorem zaw(a:Ask25)(hn:∀u∈a.S.W.U,u.pos.ok)(hfs:∀c∈a.S.L,c.sized):Jb 10 [.agg (Rb a)] Store.empty λr _=>r=V.bool true:=by
 refine Qb (c:=cfg 145) zb Tryz.func10 ?_
 refine AWp.seq (AWp.of_vc zb ?_)
 refine AWp.seq (AWp.of_vc zb ?_)
 refine yba a.S hfs _ _ (λz hz=>?_)
 refine zj (λc1=>ret rfl) (λc1=>?_)
 clear hz c1
 refine AWp.seq (AWp.of_vc zb ?_)
 refine Gv rfl (it:=ti22) (ie:=ti5) rfl rfl rfl rfl rfl (n:=108) (by decide) (by decide) (λb hf=>?_)
 refine AWp.freezeBx (d:=3) (j:=2) (b:=b) (n:=108) (cap:=108) (k:=1) (rows:=rws u8C wlG.T) (pad:=[]) rfl rfl (zd _ _ _) hf.2 rfl (Fak _) ?_ ?_ ?_
 ·intro row hr
  obtain⟨x,_,rfl⟩:=Fac.1 hr
  rfl
 ·intro row hr y hy
  obtain⟨x,_,rfl⟩:=Fac.1 hr
  simp[u8C,u8]at hy
  exact⟨_,hy,rfl⟩
 rw[Mg hf.1]
 have hnp:Bh wlG 2:=⟨by decide+kernel,by decide,by decide⟩
 have hp:=lk hnp
 refine AWp.of_vc zb ?_
 refine co wlG (by unfold Gnd.fits;decide) (by decide) 2 (by unfold ya;decide) _ _ (λh=>absurd hnp h) (λ_=>?_)
 obtain⟨r0,r7⟩:=u9 a.n
 obtain⟨m0,m7⟩:=u9 a.room
 refine Qd ?_
 refine zax hp (by omega) _ (λeb S hE hd=>?_)
 refine Gd _ _ _ ?_
 refine Gd _ _ _ ?_
 refine Qd ?_
 obtain⟨n,en,hn8⟩:∃n:Nat,(2:Int)+xp .and .i64 a.room 7=((n+2:Nat):Int)/\n<8:=⟨(xp .and .i64 a.room 7).toNat,by omega,by omega⟩
 have hcen:=za6
 refine Qc zb zvg ?_
 refine⟨by decide,?_⟩
 refine⟨by decide,?_⟩
 refine⟨ta wlG hnp.1 0 (by decide) 0 rfl _ _ ⟨Qe,?_⟩,Tv⟩
 refine⟨ta wlG hnp.1 96 (by decide) 96 rfl _ _ ⟨Tv,?_⟩,Tv⟩
 refine⟨by decide,?_⟩
 have hfits:∀c∈wlC (n+2),c.fits:=λc hc=>by
  simp only[wlC,Fat,Fbw,or_false]at hc
  rcases hc with rfl|rfl|rfl|rfl<;>(unfold Cmd.fits;simp)
 obtain⟨hc1,hc2⟩:=sr (wlC (n+2)) wlN
 rw[za5 n hn8]at hc1 hc2
 have hstep:=λ(R:Ja) (h:∀S',EngR eb (1+xp .and .i64 a.n 7) (0+4096) (wlF (n+2) 1) S'->zh S' Store.empty->R (.tup [lst 1 zz [0,0,0,0],int 0]) (S'.un Store.empty))=>
  rf hE hd hp (wlC (n+2)) hfits (show 4<=512 by decide) (by decide) R (λh=>absurd (show(0:Int)=1099511627776 from h) (by decide)) (λ_ S' h1 h2=>by
   have e1:Cg (Cq wlG 2) (wlC (n+2))=wlF (n+2) 1:=by
    unfold Cg
    rw[show Cq wlG 2=wlN from rfl,hc1]
    exact Mv hn8 (by omega)
   rw[e1]at h1
   rw[show Cq wlG 2=wlN from rfl,hc2]
   exact h S' h1 h2)
 refine⟨ACalls.le (ys:=[ptr eb,lst 10 qu (wlC (n+2))]) ⟨Tt,zz2 ⟨?_,?_,?_,?_,Tv⟩,Tv⟩ (hstep _ (λS' hE' hd'=>⟨Tv,?_⟩)),Tv⟩
 ·exact⟨Tt,Tt,Tt,Tt,AV.le_nil 1,Tt,Tt,Tt,by rw[hcen.1];exact Tt,by rw[hcen.1];exact Tt,Tv⟩
 ·exact⟨Tt,Tt,Tt,Tt,AV.le_nil 1,Tt,Tt,Tt,by rw[hcen.2];exact Tt,by rw[hcen.2];exact Tt,Tv⟩
 ·exact⟨Tt,Tt,Tt,Tt,Tt,by rw[<-en];exact Tt,Tt,Tt,Tt,Tt,Tv⟩
 ·exact⟨Tt,Tt,Tt,Tt,Tt,Tt,Tt,Tt,Tt,Tt,Tv⟩
 refine Qap ?_
 refine Qap ?_
 refine Gd _ _ _ ?_
 refine⟨by decide,?_⟩
 refine ydl [0,0,0,0] (by decide) _ _ ?_
 have hplay:∀i,i<4*(n+2)+1->playW (wlF (n+2) (i+1)):=λi=>by
  induction i with
  |zero=>
   intro _
   have:=Oc (wlC (n+2)) (show playW wlN from hp)
   rw[hc1]at this
   have h2:=S6 this (show(0:Int)<1099511627776 by decide)
   rw[Mv hn8 (by omega)]at h2
   exact h2
  |succ i ih=>
   intro hi
   have h2:=S6 (ih (by omega)) (show((i+1:Nat):Int)<1099511627776 by omega)
   rw[Mv hn8 hi]at h2;exact h2
 clear hstep hc1 hc2 hfits hcen hd hE m0 m7
 refine AWp.loop (σ:=Nat×Store) ⟨λx=>[(6,.av (ptr eb)),(8,.av (int ((n+2:Nat):Int))),(10,.av (int (x.1:Nat)))],λ_=>[],
  λx st'=>(2<=x.1/\x.1<=4*(n+2)+1)/\st'=x.2.un Store.empty/\zh x.2 Store.empty/\∃k,k<=x.1*4096/\EngR eb (1+xp .and .i64 a.n 7) k (wlF (n+2) (x.1-1)) x.2,λx=>4*(n+2)+1-x.1⟩ zb ?_ ?_
 ·refine⟨(2,S'),Tv,⟨⟨Fak _,by omega⟩,rfl,hd',_,by omega,hE'⟩,⟨Tq,?_,Tq,Tv⟩,Tv⟩
  show LV.le (.av (int (2+xp .and .i64 a.room 7))) _
  rw[en];exact Tq
 clear hd' hE'
 rintro⟨i,S'⟩ st' ⟨⟨hi2,hi⟩,rfl,hd,k,hk,hE⟩
 dsimp only at hi2 hi hd hk hE⊢
 refine Qd ?_
 obtain⟨i,rfl⟩:∃j,i=j+2:=⟨i-2,by omega⟩
 have hE:EngR eb (1+xp .and .i64 a.n 7) k (wlF (n+2) (i+1)) S':=hE
 have hpi:=hplay i (by omega)
 have hst:=λ(R:Ja) (h:∀S2,EngR eb (1+xp .and .i64 a.n 7) (k+4096) (wlF (n+2) (i+2)) S2->zh S2 Store.empty->R (.tup [lst 1 zz [],int 0]) (S2.un Store.empty))=>
  ACalls.le (xs:=[ptr eb,.s (.slice none 0 0)]) (ys:=[ptr eb,lst 10 qu []]) ⟨Tt,AV.le_nil 10,Tv⟩ (rf hE hd hpi [] (λc hc=>by cases hc) (by decide) (by omega) R (λh=>absurd (show((i+1:Nat):Int)=1099511627776 from h) (by omega)) (λ_ S2 h1 h2=>by
   have e1:Cg (wlF (n+2) (i+1)) []=wlF (n+2) (i+2):=Mv hn8 (by omega)
   rw[e1]at h1
   exact h S2 h1 h2))
 have hp2:=hplay (i+1) (by omega)
 refine bcd (λc1=>?_) (λc1=>?_)
 ·refine hst _ (λS2 hE2 hd2=>?_)
  refine rc hE2 hd2 hp2 _ ?_
  refine Gd _ _ _ ?_
  have eA:wlA (n+2) (i+2)=⟨1,1,0,(32768+16384*((i+2:Nat):Int),32768),((n+2:Nat):Int),if i+2=0 then -1 else(((i+2-1)/4+1:Nat):Int),0,0,1⟩:=if_pos (by omega)
  generalize(if i+2=0 then -1 else(((i+2-1)/4+1:Nat):Int))=nx at eA
  have e4:(((i+2:Nat):Int)*65536).tdiv 4=16384*((i+2:Nat):Int):=by
   rw[Fba (by omega)]
   omega
  have hq:0<=16384*((i+2:Nat):Int)/\16384*((i+2:Nat):Int)<=1000000:=by omega
  generalize 16384*((i+2:Nat):Int)=q at eA e4 hq
  refine⟨0,rfl,za (zk ⟨1,1,0,(32768+q,32768),((n+2:Nat):Int),nx,0,0,1⟩) (by rw[<-eA];rfl) ?_⟩
  refine Qd ?_
  refine⟨by decide,?_⟩
  rw[e4]
  refine Qd ?_
  refine Qd ?_
  refine zj (λh=>absurd h (by simp)) (λ_=>?_)
  refine Qd ?_
  exact⟨(i+2+1,S2),(show 4*(n+2)+1-(i+2+1)<4*(n+2)+1-(i+2) by omega),⟨⟨by dsimp only;omega,by dsimp only;omega⟩,rfl,hd2,k+4096,by dsimp only;omega,hE2⟩,Qal,Tv⟩
 ·refine hst _ (λS2 hE2 hd2=>?_)
  refine rc hE2 hd2 hp2 _ ?_
  refine Gd _ _ _ ?_
  have ei:i=4*n+7:=by omega
  subst ei
  have eA:wlA (n+2) (4*n+7+2)=⟨1,1,0,(32768+65536*((n+2:Nat):Int),32768),-1,-1,0,0,2⟩:=if_neg (by omega)
  refine⟨0,rfl,za (zk ⟨1,1,0,(32768+65536*((n+2:Nat):Int),32768),-1,-1,0,0,2⟩) (by rw[<-eA];rfl) ?_⟩
  refine zwf (wlF (n+2) (4*n+7+2)) (ku hp2.1).fits hp2.2 _ _ (λz hz=>?_)
  have ez:z=true:=hz.2 hp2.1
  subst ez
  refine zbq _ _ ?_
  exact ret rfl
theorem zav(a:Ask25)(hn:∀u∈a.S.W.U,u.pos.ok)(hfs:∀c∈a.S.L,c.sized)(st:Store)(R:Ja)(h:R (V.bool true) st):Jb 10 [.agg (Rb a)] st R:=
 Ho (zaw a hn hfs) st R λr hr=>hr▸h
end Go.Proofs
