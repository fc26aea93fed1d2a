/- Ground of laws of thronglaw25: contracts and plain lemmas; no condition beyond the row's own. -/
import Derived.Test.YtdfpifbbcigelaaGreatKM
set_option linter.unusedSimpArgs false
set_option linter.unusedVariables false
namespace Go.Proofs
open Go Go.V
set_option maxRecDepth 20000
set_option maxHeartbeats 4000000
section
variable {F G F':Store} {xw p:Nat} {w:Wld} {v o0 o1 o2 fv q0 q1 q2:AV}
def wkC(s:Nat)(c:Cmd)(fv:AV):List AV:=ptr s::(qs c++[fv])
def Bm(S:Store)(xw s:Nat)(c:Cmd)(fv:AV)(w:Wld):Prop:=
 ∃v o0 o1 o2 p,S.obj xw=some (.cells (wkC s c fv))/\S.obj s=some (.cells (svC w v o0 o1 o2 p))/\RowsQ 10 zk S v w.U
structure Work(F G:Store)(xw s p:Nat)(w:Wld)(v:AV)(L:List Ent)(o0 o1 o2:AV)(c:Cmd)(fv:AV):Prop where
 S:StandR F G s p w v L o0 o1 o2
 hx:G.obj xw=some (.cells (wkC s c fv))
 ox:xt v xw
 os:xt v s
 hL:L.length<=w.U.length
 hF:Bx w L
theorem Work.ne{s:Nat}{L:List Ent}{c:Cmd}(h:Work F G xw s p w v L o0 o1 o2 c fv):xw≠s:=λe=>by
 have h1:=h.hx
 rw[e,h.S.hs]at h1
 cases h1
theorem Work.x{s:Nat}{L:List Ent}{c:Cmd}(h:Work F G xw s p w v L o0 o1 o2 c fv):(F'.un (svS G s w v q0 q1 q2 p)).obj xw=some (.cells (wkC s c fv)):=zf (by
 show(G.sO s _).obj xw=_
 rw[zg h.ne]
 exact h.hx)
theorem Work.s{s:Nat}{L:List Ent}{c:Cmd}(h:Work F G xw s p w v L o0 o1 o2 c fv):(F'.un (svS G s w v q0 q1 q2 p)).obj s=some (.cells (svC w v q0 q1 q2 p)):=zf (we _ _ _ _ _ _ _ _)
theorem Work.r{s:Nat}{L:List Ent}{c:Cmd}(h:Work F G xw s p w v L o0 o1 o2 c fv):RowsQ 10 zk (F'.un (svS G s w v q0 q1 q2 p)) v w.U:=(Fx h.S.hs h.S.hu).un
theorem Sq(u:Unt)(st:Store)(R:Ja)(h:R (.agg (zk {u with goal:=-1,next:=-1,stuck:=0,state:=0})) st):Jb 311 [.agg (zk u)] st R:=by
 refine Qa (c:=cfg 8) zb Tryz.func311 ?_
 exact ret h
theorem uz{s:Nat}{L:List Ent}{c:Cmd}(hW:Work F G xw s p w v L o0 o1 o2 c fv)(hm:MayF w)(hn:∀u∈w.U,u.pos.ok)(hq:Vc.ok (c.X,c.Y))(R:Ja)
  (h:∀S',spE w c≠0->R (int (spE w c)) S') (h0:spE w c=0->∀S',Bm S' xw s c fv (spW w c)->R (int 0) S'):Jb 225 [ptr xw] (F.un (svS G s w v o0 o1 o2 p)) R:=by
 obtain⟨oa,cap,e,hget⟩:=hW.S.hu.form
 subst e
 have hU:=hm.hU
 have hn2:=hm.hn2
 have hn1:=hm.hn1
 have hx:=hW.x (F':=F) (q0:=o0) (q1:=o1) (q2:=o2)
 have hs:=hW.s (F':=F) (q0:=o0) (q1:=o1) (q2:=o2)
 refine Qa (c:=cfg 96) zb Tryz.func225 ?_
 refine za (o:=(F.un (svS G s w _ _ _ _ p)).obj xw) _ hx ?_
 refine za (o:=(F.un (svS G s w _ _ _ _ p)).obj s) _ hs ?_
 refine zy (λc1=>?_) (λc1=>?_)
 ·have hf:Gi w:=.inl (by omega)
  have he:spE w c=4:=by unfold spE;rw[if_pos hf]
  have:=h Store.empty (by rw[he];decide)
  rw[he]at this
  exact Ar (Tt) (Pc _) this
 refine za (o:=(F.un (svS G s w _ _ _ _ p)).obj xw) _ hx ?_
 refine za (o:=(F.un (svS G s w _ _ _ _ p)).obj s) _ hs ?_
 refine zy (λc2=>?_) (λc2=>?_)
 ·have hf:Gi w:=.inr (by omega)
  have he:spE w c=4:=by unfold spE;rw[if_pos hf]
  have:=h Store.empty (by rw[he];decide)
  rw[he]at this
  exact Ar (Tt) (Pc _) this
 have hf:¬Gi w:=λhh=>by rcases hh with hh|hh<;>omega
 refine Qc zb ztl ?_
 refine za (o:=(F.un (svS G s w _ _ _ _ p)).obj xw) _ hx ?_
 refine za (o:=(F.un (svS G s w _ _ _ _ p)).obj xw) _ hx ?_
 refine za (o:=(F.un (svS G s w _ _ _ _ p)).obj xw) _ hx ?_
 refine⟨Sg hW.S hm.hg (by have:=hm.hB;omega) hm.hb hm.hr (by omega) hn hW.hL hW.hF 0 c.N (c.X,c.Y) hq _ (λz F2 q0 q1_ q2_ hz hS2=>⟨?_,?_⟩),Tv⟩
 ·have hx2:=hW.x (F':=F2) (q0:=q0) (q1:=q1_) (q2:=q2_)
  repeat(first|exact Tv|refine⟨rfl,?_⟩|refine⟨za (o:=(F2.un (svS G s w _ q0 q1_ q2_ p)).obj xw) _ hx2 rfl,?_⟩)
 have hx2:=hW.x (F':=F2) (q0:=q0) (q1:=q1_) (q2:=q2_)
 have hs2:=hW.s (F':=F2) (q0:=q0) (q1:=q1_) (q2:=q2_)
 have hr2:=hW.r (F':=F2) (q0:=q0) (q1:=q1_) (q2:=q2_)
 generalize F2.un (svS G s w _ q0 q1_ q2_ p)=S at hx2 hs2 hr2⊢
 refine Qao ?_
 refine yl ?_
 refine zj (λc3=>?_) (λc3=>?_)
 rotate_left
 ·have hncl:¬qm w 0 c.N (c.X,c.Y):=λhh=>by have:=hz.2 hh;rw[this]at c3;cases c3
  have he:spE w c=5:=by unfold spE;rw[if_neg hf,if_neg hncl]
  have:=h S (by rw[he];decide)
  rw[he]at this
  exact ret this
 have he:spE w c=0:=by unfold spE;rw[if_neg hf,if_pos (hz.1 c3)]
 have hxs:=hW.ne
 refine Qc zb ztk ?_
 refine Qaq ?_
 refine Qaq ?_
 refine Qaq ?_
 refine Qaq ?_
 refine Qaq ?_
 refine Qaq ?_
 refine Qaq ?_
 refine Qaq ?_
 refine⟨Sq ⟨w.next,c.P,c.N,(c.X,c.Y),0,0,0,0,0⟩ _ _ ⟨?_,?_⟩,Tv⟩
 ·repeat(first|exact Tv|refine⟨rfl,?_⟩|refine⟨za (o:=S.obj xw) _ hx2 rfl,?_⟩|refine⟨za (o:=S.obj s) _ hs2 rfl,?_⟩)
 refine⟨by decide,?_⟩
 refine⟨Gs (ie:=ti36) rfl w9 (by decide) hr2 (spU w c) rfl (by omega) (λb cap2 L2 q1 q2 q3 q4=>?_),Tv⟩
 have hbs:b≠s:=by
  rcases q1 with q1|⟨c0,q00,q1⟩
  ·exact q1.ne_obj hs2
  ·exact hW.os b _ _ q1 q00
 have hbx:b≠xw:=by
  rcases q1 with q1|⟨c0,q00,q1⟩
  ·exact q1.ne_obj hx2
  ·exact hW.ox b _ _ q1 q00
 have hx3:(S.sO b (.cells ((rws zk (w.U++[spU w c])).flatten++L2))).obj xw=some (.cells (wkC s c fv)):=by rw[zg (Ne.symm hbx)];exact hx2
 have hs3:(S.sO b (.cells ((rws zk (w.U++[spU w c])).flatten++L2))).obj s=some (.cells (svC w (.s (.slice oa w.U.length cap)) q0 q1_ q2_ p)):=by rw[zg (Ne.symm hbs)];exact hs2
 have hr3:RowsQ 10 zk (S.sO b (.cells ((rws zk (w.U++[spU w c])).flatten++L2))) (.s (.slice (some ⟨b,0,none⟩) (w.U++[spU w c]).length cap2)) (w.U++[spU w c]):=.inl (.inr ⟨b,cap2,L2,rfl,zd _ _ _,q2,q3,q4⟩)
 generalize S.sO b _=S3 at hx3 hs3 hr3⊢
 have hoff:∀{q},b≠q->xt (.s (.slice (some ⟨b,0,none⟩) (w.U++[spU w c]).length cap2)) q:=λhne b' n' c' e _=>by
  simp only[AV.s.injEq,Value.slice.injEq,Fah,Addr.mk.injEq]at e
  exact e.1.1▸hne
 refine⟨?_,?_⟩
 ·repeat(first|exact Tv|refine⟨rfl,?_⟩|refine⟨za (o:=S3.obj xw) _ hx3 rfl,?_⟩|refine⟨za (o:=S3.obj s) _ hs3 rfl,?_⟩)
 refine⟨?_,Tv⟩
 refine za _ rfl (jq rfl (jk (v:=.s (.slice (some ⟨b,0,none⟩) (w.U++[spU w c]).length cap2)) rfl rfl rfl rfl ?_))
 refine Br (i:=ti26) (v:=.s (.slice (some ⟨b,0,none⟩) (w.U++[spU w c]).length cap2)) (b:=s) (o:=7) (l:=svC w (.s (.slice oa w.U.length cap)) q0 q1_ q2_ p) rfl rfl rfl hs3 (show 7+1<=12 by decide) ?_
 have e3:zw (svC w (.s (.slice oa w.U.length cap)) q0 q1_ q2_ p) 7 [.s (.slice (some ⟨b,0,none⟩) (w.U++[spU w c]).length cap2)]=svC w (.s (.slice (some ⟨b,0,none⟩) (w.U++[spU w c]).length cap2)) q0 q1_ q2_ p:=rfl
 rw[e3]
 have hr4:=hr3.set (hoff hbs) (.cells (svC w (.s (.slice (some ⟨b,0,none⟩) (w.U++[spU w c]).length cap2)) q0 q1_ q2_ p))
 have hs4:(S3.sO s (.cells (svC w (.s (.slice (some ⟨b,0,none⟩) (w.U++[spU w c]).length cap2)) q0 q1_ q2_ p))).obj s=_:=zd _ _ _
 have hx4:(S3.sO s (.cells (svC w (.s (.slice (some ⟨b,0,none⟩) (w.U++[spU w c]).length cap2)) q0 q1_ q2_ p))).obj xw=_:=(zg hxs).trans hx3
 generalize S3.sO s _=S4 at hr4 hs4 hx4⊢
 refine⟨Tv,?_⟩
 refine Qaq ?_
 refine Qaq ?_
 refine Qd ?_
 refine Br (i:=ti2) (v:=int (w.next+1)) (b:=s) (o:=2) (l:=svC w (.s (.slice (some ⟨b,0,none⟩) (w.U++[spU w c]).length cap2)) q0 q1_ q2_ p) rfl rfl rfl hs4 (show 2+1<=12 by decide) ?_
 exact ret (h0 he _ ⟨_,q0,q1_,q2_,p,(zg hxs).trans hx4,zd _ _ _,hr4.set (hoff hbs) _⟩)
end
theorem yel{c:Cmd}(h:ql c.X c.Y):Vc.ok (c.X,c.Y):=by
 unfold ql at h
 unfold Vc.ok yd
 dsimp only
 omega
end Go.Proofs
namespace Go.Proofs
open Go Go.V
set_option maxRecDepth 20000
set_option maxHeartbeats 4000000
end Go.Proofs
namespace Go.Proofs
open Go Go.V
set_option maxRecDepth 20000
set_option maxHeartbeats 4000000
theorem yd1(l:List Cmd)(hl:l.length<=140737488355328)(hu:∀c∈l,c.sized)(st:Store)(R:Ja)
  (h:∀w:Int,l.length<=w->(w<1048576->∀c∈l,(c.U.length:Int)<=w)->w<=281474976710656->R (int w) st):Jb 86 [lst 10 qs l] st R:=by
 refine Qa (c:=cfg 26) zb Tryz.func86 ?_
 refine AWp.loop (σ:=Nat×Int) ⟨λs=>[(0,.av (lst 10 qs l)),(3,.av (int s.2)),(4,.av (int (s.1:Nat)))],λ_=>[],
  λs st'=>s.1<=l.length/\st'=st/\(l.length:Int)<=s.2/\s.2<=281474976710656/\(s.2<1048576->∀c∈l.take s.1,(c.U.length:Int)<=s.2),λs=>l.length-s.1⟩ zb ?_ ?_
 ·refine⟨(0,(l.length:Int)),Tv,⟨Fai _,rfl,Fcw _,by simp only;omega,λ_ c hc=>by simp at hc⟩,⟨Tq,?_,Tq,Tv⟩,Tv⟩
  rw[<-zl (f:=qs) l]
  exact Tq
 rintro⟨i,n⟩ st' ⟨hi,rfl,hn,hn2,hU⟩
 dsimp only at hi hn hn2 hU⊢
 refine zj (λh1=>?_) (λh1=>?_)
 ·have hlt:i<l.length:=ki h1
  have hsz:=hu _ (Faa hlt)
  unfold Cmd.sized at hsz
  refine bcd (λh2=>?_) (λh2=>?_)
  ·refine⟨i,rfl,za _ (zq hlt) ?_⟩
   refine⟨by rw[zl];exact⟨by omega,by omega⟩,?_⟩
   refine⟨⟨by omega,by omega⟩,?_⟩
   refine⟨(i+1,n+(l[i].U.length:Int)),?_,⟨hlt,rfl,by simp only;omega,by simp only;omega,λh3 c hc=>?_⟩,⟨Tq,?_,Tq,Tv⟩,Tv⟩
   ·show l.length-(i+1)<l.length-i
    omega
   ·simp only at h3⊢
    rw[Fac hlt]at hc
    rcases Fal.1 hc with hc|hc
    ·have:=hU (by omega) c hc;omega
    ·rw[Fcb]at hc
     subst hc;omega
   ·simp only
    rw[<-zl (f:=z6) l[i].U]
    exact Tq
  ·exact ret (h n hn (λh3=>absurd h3 h2) hn2)
 ·have hge:i=l.length:=vr h1 hi
  subst hge
  rw[Fas]at hU
  exact ret (h n hn hU hn2)
theorem yap(s:Scr)(hf:∀c∈s.L,c.sized)(st:Store)(R:Ja)(h:∀z:Bool,(z=false->¬L7 s.W/\s.L.length<=60/\∀c∈s.L,c.fits)->R (V.bool z) st):Jb 35 [.agg (Sl s)] st R:=by
 have yes:=h true (λhh=>by cases hh)
 refine Qa (c:=cfg 18) zb Tryz.func35 ?_
 refine yaz s.W _ _ (λz hz=>?_)
 refine zj (λc1=>ret yes) (λc1=>?_)
 have hng:¬L7 s.W:=λhh=>by have:=hz.2 hh;rw[this]at c1;cases c1
 refine zj (λc2=>ret yes) (λc2=>?_)
 have hl:s.L.length<=60:=by
  have c2:=of_decide_eq_false c2
  rw[zl]at c2
  omega
 refine yd1 s.L (by omega) hf _ _ (λn h1 h2 h3=>?_)
 refine ret (h _ λhz=>⟨hng,hl,λc hc=>?_⟩)
 have hz:=of_decide_eq_false hz
 have:=h2 (by omega) c hc
 unfold Cmd.fits
 omega
end Go.Proofs
