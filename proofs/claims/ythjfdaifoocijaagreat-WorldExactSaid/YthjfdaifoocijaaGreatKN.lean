/- Ground of laws of thronglaw25: contracts and plain lemmas; no condition beyond the row's own. -/
import Derived.Test.YthjfdaifoocijaaGreatKM
set_option linter.unusedSimpArgs false
set_option linter.unusedVariables false
set_option linter.defProp false
namespace Go.Proofs
open Go Go.V
set_option maxRecDepth 20000
set_option maxHeartbeats 4000000
section
variable {F G F':Store} {xw p:Nat} {w:Wld} {v o0 o1 o2 fv q0 q1 q2:AV}
def wkC(s:Nat)(c:Cmd)(fv:AV):List AV:=ptr s::(yh c++[fv])
def Df(S:Store)(xw s:Nat)(c:Cmd)(fv:AV)(w:Wld):Prop:=
 ∃v o0 o1 o2 p,S.obj xw=some (.cells (wkC s c fv))/\S.obj s=some (.cells (svC w v o0 o1 o2 p))/\RowsQ 10 zf S v w.U
structure Work(F G:Store)(xw s p:Nat)(w:Wld)(v:AV)(L:List Ent)(o0 o1 o2:AV)(c:Cmd)(fv:AV):Prop where
 S:StandR F G s p w v L o0 o1 o2
 hx:G.obj xw=some (.cells (wkC s c fv))
 ox:xz v xw
 os:xz v s
 hL:L.length<=w.U.length
 hF:Dr w L
theorem Work.ne{s:Nat}{L:List Ent}{c:Cmd}(h:Work F G xw s p w v L o0 o1 o2 c fv):xw≠s:=λe=>by have h1:=h.hx;rw[e,h.S.hs]at h1;cases h1
theorem Work.x{s:Nat}{L:List Ent}{c:Cmd}(h:Work F G xw s p w v L o0 o1 o2 c fv):(F'.un (svS G s w v q0 q1 q2 p)).obj xw=some (.cells (wkC s c fv)):=zg (by show(G.sO s _).obj xw=_;rw[zj h.ne];exact h.hx)
theorem Work.s{s:Nat}{L:List Ent}{c:Cmd}(h:Work F G xw s p w v L o0 o1 o2 c fv):(F'.un (svS G s w v q0 q1 q2 p)).obj s=some (.cells (svC w v q0 q1 q2 p)):=zg (Bd _ _ _ _ _ _ _ _)
theorem Work.r{s:Nat}{L:List Ent}{c:Cmd}(h:Work F G xw s p w v L o0 o1 o2 c fv):RowsQ 10 zf (F'.un (svS G s w v q0 q1 q2 p)) v w.U:=(H2 h.S.hs h.S.hu).un
def cy(u:Unt)(st:Store)(R:Ja)(h:R (.agg (zf {u with goal:=-1,next:=-1,stuck:=0,state:=0})) st):Jb 237 [.agg (zf u)] st R:=by refine Qy 8 Tryz.func237 ?_;exact ret h
def ze1{s:Nat}{L:List Ent}{c:Cmd}(hW:Work F G xw s p w v L o0 o1 o2 c fv)(hm:MayF w)(hn:∀u∈w.U,u.pos.ok)(hq:Vc.ok (c.X,c.Y))(R:Ja)
  (h:∀S',spE w c≠0->R (int (spE w c)) S') (h0:spE w c=0->∀S',Df S' xw s c fv (spW w c)->R (int 0) S'):Jb 159 [ptr xw] (F.un (svS G s w v o0 o1 o2 p)) R:=by
 obtain⟨oa,cap,e,hget⟩:=hW.S.hu.form;subst e;have hU:=hm.hU;have hn2:=hm.hn2;have hn1:=hm.hn1;have hx:=hW.x (F':=F) (q0:=o0) (q1:=o1) (q2:=o2);have hs:=hW.s (F':=F) (q0:=o0) (q1:=o1) (q2:=o2);refine Qy 96 Tryz.func159 ?_;refine zoo hx (zoo hs (zt (λc1=>?_) λc1=>?_))
 ·have hf:Fq w:=.inl θ;have he:spE w c=4:=by unfold spE;rw[if_pos hf]
  have:=h Store.empty θa;rw[he]at this;exact vh (Tt) (Ca _) this
 refine zoo hx (zoo hs (zt (λc2=>?_) λc2=>?_))
 ·have hf:Fq w:=.inr θ;have he:spE w c=4:=by unfold spE;rw[if_pos hf]
  have:=h Store.empty θa;rw[he]at this;exact vh (Tt) (Ca _) this
 have hf:¬Fq w:=λhh=>by rcases hh with hh|hh<;>omega
 refine Qc zb zyn (zoo hx (zoo hx (zoo hx ⟨bu hW.S hm.hg (by have:=hm.hB;omega) hm.hb hm.hr θ hn hW.hL hW.hF 0 c.N (c.X,c.Y) hq _ λz F2 q0 q1_ q2_ hz hS2=>⟨?_,?_⟩,Tv⟩)))
 ·have hx2:=hW.x (F':=F2) (q0:=q0) (q1:=q1_) (q2:=q2_);repeat(first|exact Tv|refine⟨rfl,?_⟩|refine⟨zoo hx2 rfl,?_⟩)
 have hx2:=hW.x (F':=F2) (q0:=q0) (q1:=q1_) (q2:=q2_);have hs2:=hW.s (F':=F2) (q0:=q0) (q1:=q1_) (q2:=q2_);have hr2:=hW.r (F':=F2) (q0:=q0) (q1:=q1_) (q2:=q2_);generalize F2.un (svS G s w _ q0 q1_ q2_ p)=S at hx2 hs2 hr2⊢;refine Qbq (ye (zh (λc3=>?_) λc3=>?_));rotate_left
 ·have hncl:¬qh w 0 c.N (c.X,c.Y):=λhh=>by have:=hz.2 hh;rw[this]at c3;cases c3
  have he:spE w c=5:=by unfold spE;rw[if_neg hf,if_neg hncl]
  have:=h S θa;rw[he]at this;exact ret this
 have he:spE w c=0:=by unfold spE;rw[if_neg hf,if_pos (hz.1 c3)]
 have hxs:=hW.ne;refine Qc zb zym ?_;refine Qbs ?_;refine Qbs ?_;refine Qbs ?_;refine Qbs ?_;refine Qbs ?_;refine Qbs ?_;refine Qbs ?_;refine Qbs ?_;refine⟨cy ⟨w.next,c.P,c.N,(c.X,c.Y),0,0,0,0,0⟩ _ _ ⟨?_,?_⟩,Tv⟩
 ·repeat(first|exact Tv|refine⟨rfl,?_⟩|refine⟨zoo hx2 rfl,?_⟩|refine⟨zoo hs2 rfl,?_⟩)
 refine⟨ψ,⟨ww (ie:=ti36) rfl yn ψ hr2 (spU w c) rfl θ λb cap2 L2 q1 q2 q3 q4=>?_,Tv⟩⟩;have hbs:b≠s:=by
  rcases q1 with q1|⟨c0,q00,q1⟩
  ·exact q1.ne_obj hs2
  ·exact hW.os b _ _ q1 q00
 have hbx:b≠xw:=by
  rcases q1 with q1|⟨c0,q00,q1⟩
  ·exact q1.ne_obj hx2
  ·exact hW.ox b _ _ q1 q00
 have hx3:(S.sO b (.cells ((rws zf (w.U++[spU w c])).flatten++L2))).obj xw=some (.cells (wkC s c fv)):=by rw[zj (Ne.symm hbx)];exact hx2
 have hs3:(S.sO b (.cells ((rws zf (w.U++[spU w c])).flatten++L2))).obj s=some (.cells (svC w (.s (.slice oa w.U.length cap)) q0 q1_ q2_ p)):=by rw[zj (Ne.symm hbs)];exact hs2
 have hr3:RowsQ 10 zf (S.sO b (.cells ((rws zf (w.U++[spU w c])).flatten++L2))) (.s (.slice (some ⟨b,0,none⟩) (w.U++[spU w c]).length cap2)) (w.U++[spU w c]):=.inl (.inr ⟨b,cap2,L2,rfl,zd _ _ _,q2,q3,q4⟩);generalize S.sO b _=S3 at hx3 hs3 hr3⊢;have hoff:∀{q},b≠q->xz (.s (.slice (some ⟨b,0,none⟩) (w.U++[spU w c]).length cap2)) q:=λhne b' n' c' e _=>by simp only[AV.s.injEq,Value.slice.injEq,Faj,Addr.mk.injEq]at e;exact e.1.1▸hne
 refine⟨?_,?_⟩
 ·repeat(first|exact Tv|refine⟨rfl,?_⟩|refine⟨zoo hx3 rfl,?_⟩|refine⟨zoo hs3 rfl,?_⟩)
 refine⟨za _ rfl (j3 rfl (ju (v:=.s (.slice (some ⟨b,0,none⟩) (w.U++[spU w c]).length cap2)) rfl rfl rfl rfl (xo (i:=ti26) (v:=.s (.slice (some ⟨b,0,none⟩) (w.U++[spU w c]).length cap2)) (b:=s) (o:=7) (l:=svC w (.s (.slice oa w.U.length cap)) q0 q1_ q2_ p) rfl rfl rfl hs3 (show 7+1<=12 by decide) ?_))),Tv⟩;have e3:zv (svC w (.s (.slice oa w.U.length cap)) q0 q1_ q2_ p) 7 [.s (.slice (some ⟨b,0,none⟩) (w.U++[spU w c]).length cap2)]=svC w (.s (.slice (some ⟨b,0,none⟩) (w.U++[spU w c]).length cap2)) q0 q1_ q2_ p:=rfl;rw[e3];have hr4:=hr3.set (hoff hbs) (.cells (svC w (.s (.slice (some ⟨b,0,none⟩) (w.U++[spU w c]).length cap2)) q0 q1_ q2_ p));have hs4:(S3.sO s (.cells (svC w (.s (.slice (some ⟨b,0,none⟩) (w.U++[spU w c]).length cap2)) q0 q1_ q2_ p))).obj s=_:=zd _ _ _;have hx4:(S3.sO s (.cells (svC w (.s (.slice (some ⟨b,0,none⟩) (w.U++[spU w c]).length cap2)) q0 q1_ q2_ p))).obj xw=_:=(zj hxs).trans hx3;generalize S3.sO s _=S4 at hr4 hs4 hx4⊢;refine⟨Tv,?_⟩;refine Qbs ?_;refine Qbs ?_;refine Qd ?_;refine xo (i:=ti2) (v:=int (w.next+1)) (b:=s) (o:=2) (l:=svC w (.s (.slice (some ⟨b,0,none⟩) (w.U++[spU w c]).length cap2)) q0 q1_ q2_ p) rfl rfl rfl hs4 (show 2+1<=12 by decide) ?_;exact ret (h0 he _ ⟨_,q0,q1_,q2_,p,(zj hxs).trans hx4,zd _ _ _,hr4.set (hoff hbs) _⟩)
end
def zde{c:Cmd}(h:qs c.X c.Y):Vc.ok (c.X,c.Y):=by unfold qs at h;unfold Vc.ok ym;dsimp only;omega
def DoQ(E:Wld->Cmd->Int)(W:Wld->Cmd->Wld)(w:Wld)(c:Cmd)(r:AV)(S:Store):Prop:=
 (doE E w c≠0/\r=.tup [.agg (zp w),int (doE E w c)])\/(doE E w c=0/\∃v,RowsQ 10 zf S v (W w c).U/\r=.tup [.agg (zz (W w c) v),int 0])
end Go.Proofs
namespace Go.Proofs
open Go Go.V
set_option maxRecDepth 20000
set_option maxHeartbeats 4000000
def ylx(l:List Unt)(hl:l.length<=1000000)(R:Ja)(h:∀v N,RowsO 10 zf N v l->R v N):Jb 12 [lst 10 zf l] Store.empty R:=by
 refine Qy 19 Tryz.func12 ?_;refine AWp.loop (σ:=Nat×AV×Store) ⟨λs=>[(0,.av (lst 10 zf l)),(3,.av s.2.1),(4,.av (int s.1))],λ_=>[],λs st'=>s.1<=l.length/\st'=s.2.2/\RowsO 10 zf s.2.2 s.2.1 (l.take s.1),λs=>l.length-s.1⟩ zb ?_ ?_
 ·exact⟨(0,_,Store.empty),Tv,⟨Fad _,rfl,.inl ⟨rfl,rfl⟩⟩,⟨Tq,Tq,Tq,Tv⟩,Tv⟩
 ·rintro⟨i,v,N⟩ st' ⟨hi,rfl,ha⟩;dsimp only at hi ha⊢;refine zh (λh1=>?_) λh1=>?_
  ·have hlt:i<l.length:=qn h1;refine⟨i,rfl,za _ (zn hlt) ⟨ψ,Ni (ie:=ti36) rfl (λ_=>rfl) ψ ha l[i] rfl θe λb cap L q1 q2 q3 q4=>⟨⟨θ,θ⟩,⟨(i+1,_,_),?_,⟨hlt,rfl,?_⟩,⟨Tq,Tq,Tq,Tv⟩,Tv⟩⟩⟩⟩
   ·show l.length-(i+1)<l.length-i;omega
   ·dsimp only;rw[Fab hlt];exact .inr ⟨b,cap,L,rfl,zd _ _ _,q2,q3,q4⟩
  ·have hge:i=l.length:=qw h1 hi;subst hge;rw[Fak]at ha;exact ret (h _ _ ha)
def zc9(l:List Unt)(hl:l.length<=1000000)(st:Store)(R:Ja)(h:∀v N,RowsO 10 zf N v l->zk N st->R v (N.un st)):Jb 12 [lst 10 zf l] st R:=by rw[<-xr st];exact ACalls.frame (Dd st) (ylx l hl (λv N=>RowsO 10 zf N v l) λv N hv=>hv) λv N hv hd=>h v N hv hd
def I2(w:Wld)(hw:w.fits)(hU:w.U.length<=1000000)(st:Store)(R:Ja)(h:∀v N,RowsO 10 zf N v w.U->zk N st->R (.agg (zz w v)) (N.un st)):Jb 13 [.agg (zp w)] st R:=by
 refine Qy 18 Tryz.func13 ?_;refine io w.G hw.1 _ _ (ip w.B hw.2.1 _ _ (zc9 w.U hU _ _ λv N hv hd=>?_));have hv2:=hv;rcases hv2 with⟨rfl,_⟩|⟨b,cap,L,rfl,_⟩
 ·exact ret (h _ N hv hd)
 ·exact ret (h _ N hv hd)
def ya2{g:Store}{b cap:Nat}{us:List Unt}{L:List AV}(h1:us.length<=cap)(h2:cap*10<=us.length*10+L.length)(h3:cap<=9223372036854775807){i j:Nat}(hi:i<us.length){ys:List AV}(hj:j+ys.length<=10){u':Unt}(hu:zf u'=zv (zf us[i]) j ys):
  RowsO 10 zf (g.sO b (.cells (zv ((rws zf us).flatten++L) (0+i*10+j) ys))) (.s (.slice (some ⟨b,0,none⟩) us.length cap)) (us.set i u'):=by
 refine .inr ⟨b,cap,L,by rw[Faf],?_,by rw[Faf];exact h1,by rw[Faf];exact h2,h3⟩;rw[zd,Fbg,Gz yn hi hj hu]
def yc5(w:Wld)(hw:w.fits)(hn:∀u∈w.U,u.pos.ok)(hU:w.U.length<=1000000)(c:Cmd)(hc:c.fits)(hK:c.K=1):Jb 72 [.agg (zp w),.agg (yh c)] Store.empty (DoQ spE spW w c):=by
 refine Qa (c:=cfg 97 [6] []) zb Tryz.func72 ?_;have bad:(¬ya w\/¬js c\/w.players<c.P)->DoQ spE spW w c (.tup [.agg (zp w),int 1]) Store.empty:=λhb=>by have he:=Gq (E:=spE) (w:=w) (c:=c) hb;exact .inl ⟨θa,by rw[he]⟩
 refine Ga w hw hn _ _ λz hz=>ye (zh (λc1=>?_) λc1=>?_);rotate_left
 ·exact ret (bad (.inl λhh=>θg))
 refine I3 c hc _ _ λzc hzc=>ye (zh (λc2=>?_) λc2=>?_);rotate_left
 ·exact ret (bad (.inr (.inl λhh=>θr)))
 refine bcd (λc3=>?_) λc3=>?_
 ·exact ret (bad (.inr (.inr θ)))
 have hm:=hz.1 c1;have hcp:=hzc.1 c2;have he:=Hp (E:=spE) hm hcp (show c.P<=w.players by omega);have hok:=(Cmd.ok1 hK).1 hcp.1;refine I2 w hw hU _ _ λv N hv _=>?_;rw[Bc];have hv:=hv.q;have hoff:=λ(p:Nat) (hp:Fresh N p)=>Cp hv (k8 (fresh_iff.1 hp)).1;obtain⟨oa,cap,e,_⟩:=hv.form;subst e;refine λp hp=>jq (i:=ti27) (v:=.agg (zz w (.s (.slice oa w.U.length cap)))) (xs:=zz w (.s (.slice oa w.U.length cap))) (b:=p) (o:=0) (l:=_) rfl rfl rfl (zd _ _ _) (show 0+8<=8 by decide) ?_;generalize hS:(N.sO p _).sO p _=S;have hp2:S.obj p=some (.cells (zz w (.s (.slice oa w.U.length cap)))):=θs;have hr2:RowsQ 10 zf S (.s (.slice oa w.U.length cap)) w.U:=θt;refine zt (λ_=>yas hp2 hr2 (hoff p hp) (xh hm) hn c hok.1 (zde hok.2) _ (λS' hE=>?_) λhE S' v' g1 g2=>?_) λh=>absurd hK h
 ·exact qd (λ_=>ret (.inl ⟨θu,by rw[he];rfl⟩)) λh=>absurd h hE
 ·obtain⟨oa2,cap2,e2,_⟩:=g2.form;subst e2;refine Qbs ?_;exact ret (.inr ⟨he.trans hE,_,g2,rfl⟩)
def Lf{E:Wld->Cmd->Int}{W:Wld->Cmd->Wld}{w:Wld}{c:Cmd}{f:FuncId}{xs:List AV}(h0:Jb f xs Store.empty (DoQ E W w c))(R:Ja)(h:R (.tup [.agg (zp (doW E W w c)),int (doE E w c)]) Store.empty):Jb f xs Store.empty R:=by
 have h1:=h0.frozen (R:=λr=>r=.tup [.agg (zp (doW E W w c)),int (doE E w c)]) (by
  rintro r S (⟨h1,rfl⟩|⟨h1,v,hv,rfl⟩)
  ·rw[Pf h1];exact⟨_,rfl,λOth M w' v' sto hx=>qv hx⟩
  ·rw[g9 h1,h1];refine⟨_,rfl,λOth M w' v' sto hx=>?_⟩;cases hx with
   |tup _ c2 hl hc2=>
    refine .tup _ c2 hl λi x y hx hy=>?_
    match i with
    |0=>simp only[Fan,Faj]at hx;subst hx;exact Dh hv sto (hc2 0 _ y rfl hy)
    |1=>simp only[Faq,Fan,Faj]at hx;subst hx;exact qv (hc2 1 _ y rfl hy)
    |i+2=>simp at hx)
 exact h1.post (Store.Le.refl _) λr st' hr=>⟨r,Store.empty,AV.le_refl r,(Ca st').toLe,by subst hr;exact h⟩
def Kf(k:Int)(E:Wld->Cmd->Int)(W:Wld->Cmd->Wld):Prop:=
 ∀w:Wld,w.fits->(∀u∈w.U,u.pos.ok)->w.U.length<=1000000->∀c:Cmd,c.fits->c.K=k->∀R:AV->Store->Prop,R (.tup [.agg (zp (doW E W w c)),int (doE E w c)]) Store.empty->Jb 72 [.agg (zp w),.agg (yh c)] Store.empty R
def ych:Kf 1 spE spW:=λw hw hn hU c hc hK R h=>Lf (yc5 w hw hn hU c hc hK) R h
end Go.Proofs
namespace Go.Proofs
open Go Go.V
set_option maxRecDepth 20000
set_option maxHeartbeats 4000000
def ylf(l:List Cmd)(hl:l.length<=140737488355328)(hu:∀c∈l,c.sized)(st:Store)(R:Ja)
  (h:∀w:Int,l.length<=w->(w<1048576->∀c∈l,(c.U.length:Int)<=w)->w<=281474976710656->R (int w) st):Jb 63 [lst 10 yh l] st R:=by
 refine Qy 26 Tryz.func63 ?_
 refine AWp.loop (σ:=Nat×Int) ⟨λs=>[(0,.av (lst 10 yh l)),(3,.av (int s.2)),(4,.av (int (s.1:Nat)))],λ_=>[],
  λs st'=>s.1<=l.length/\st'=st/\(l.length:Int)<=s.2/\s.2<=281474976710656/\(s.2<1048576->∀c∈l.take s.1,(c.U.length:Int)<=s.2),λs=>l.length-s.1⟩ zb ?_ ?_
 ·refine⟨(0,(l.length:Int)),Tv,⟨Fad _,rfl,Fcu _,by simp only;omega,λ_ c hc=>by simp at hc⟩,⟨Tq,?_,Tq,Tv⟩,Tv⟩;rw[<-zl (f:=yh) l];exact Tq
 rintro⟨i,n⟩ st' ⟨hi,rfl,hn,hn2,hU⟩;dsimp only at hi hn hn2 hU⊢;refine zh (λh1=>?_) λh1=>?_
 ·have hlt:i<l.length:=qn h1;have hsz:=hu _ (Faa hlt);unfold Cmd.sized at hsz;refine bcd (λh2=>?_) λh2=>?_
  ·refine⟨i,rfl,za _ (zn hlt) ⟨by rw[zl];exact⟨θ,θ⟩,⟨⟨θ,θ⟩,⟨(i+1,n+(l[i].U.length:Int)),?_,⟨hlt,rfl,by simp only;omega,by simp only;omega,λh3 c hc=>?_⟩,⟨Tq,?_,Tq,Tv⟩,Tv⟩⟩⟩⟩
   ·show l.length-(i+1)<l.length-i;omega
   ·simp only at h3⊢;rw[Fab hlt]at hc;rcases Fat.1 hc with hc|hc
    ·have:=hU θ c hc;omega
    ·rw[Fc3]at hc;subst hc;omega
   ·simp only;rw[<-zl (f:=zx) l[i].U];exact Tq
  ·exact ret (h n hn (λh3=>absurd h3 h2) hn2)
 ·have hge:i=l.length:=qw h1 hi;subst hge;rw[Fak]at hU;exact ret (h n hn hU hn2)
def yho(s:Scr)(hf:∀c∈s.L,c.sized)(st:Store)(R:Ja)(h:∀z:Bool,(z=false->¬O9 s.W/\s.L.length<=60/\∀c∈s.L,c.fits)->R (V.bool z) st):Jb 24 [.agg (ce s)] st R:=by
 have yes:=h true (λhh=>by cases hh);refine Qy 18 Tryz.func24 ?_;refine yh5 s.W _ _ λz hz=>?_;refine zh (λc1=>ret yes) λc1=>?_;have hng:¬O9 s.W:=λhh=>θg;refine zh (λc2=>ret yes) λc2=>?_;have hl:s.L.length<=60:=by have c2:=of_decide_eq_false c2;rw[zl]at c2;omega
 refine ylf s.L θ hf _ _ λn h1 h2 h3=>ret (h _ λhz=>⟨hng,hl,λc hc=>?_⟩);have hz:=of_decide_eq_false hz;have:=h2 θ c hc;unfold Cmd.fits;omega
end Go.Proofs
