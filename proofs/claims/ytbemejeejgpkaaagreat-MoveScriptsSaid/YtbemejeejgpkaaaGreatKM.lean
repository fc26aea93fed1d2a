/- Ground of laws of thronglaw24: contracts and plain lemmas; no condition beyond the row's own. -/
import Derived.Test.YtbemejeejgpkaaaGreatKL
set_option linter.unusedSimpArgs false
set_option linter.unusedVariables false
namespace Go.Proofs
open Go Go.V
set_option maxRecDepth 20000
set_option maxHeartbeats 4000000
section
variable {s p:Nat} {w:Wld} {o0 o1 o2:AV}
def stC(w:Wld)(o0 o1 o2:AV)(p:Nat):List AV:=zt w++[o0,o1,o2,ptr p]
def stS(s:Nat)(w:Wld)(o0 o1 o2:AV)(p:Nat):Store:=Store.empty.sO s (.cells (stC w o0 o1 o2 p))
def K2(w:Wld)(c:Int)(o:AV):Prop:=o=.s (.slice none 0 0)\/o=opV w.G w.B c
structure StandAt(F:Store)(s p:Nat)(w:Wld)(L:List Ent)(o0 o1 o2:AV):Prop where
 hc:ky F p L
 hd:zl F (stS s w o0 o1 o2 p)
 h0:K2 w 0 o0
 h1:K2 w 1 o1
 h2:K2 w 2 o2
theorem Fy(s:Nat)(w:Wld)(o0 o1 o2:AV)(p:Nat):(stS s w o0 o1 o2 p).obj s=some (.cells (stC w o0 o1 o2 p)):=zd _ _ _
theorem stS_has{i:Nat}:(stS s w o0 o1 o2 p).has i↔i=s:=by
 unfold Store.has stS
 constructor
 ·rintro(h|h)
  ·apply Decidable.byContradiction
   intro hn
   rw[zi hn]at h
   exact h rfl
  ·exact absurd rfl h
 ·rintro rfl
  exact .inl (by rw[zd];simp)
theorem cn{F:Store}{q0 q1 q2:AV}(h:zl F (stS s w o0 o1 o2 p)):zl F (stS s w q0 q1 q2 p):=λi h1 h2=>h i h1 (stS_has.2 (stS_has.1 h2))
theorem Vy{l:List Unt}(hr:yq l){a b:Nat}(hab:a<b)(hb:b<l.length):(l[a]'(by omega)).id<l[b].id:=by
 induction b with
 |zero=>omega
 |succ b ih=>
  have h3:=hr (b+1) hb (by omega)
  simp only[Fd4]at h3
  by_cases e:a=b
  ·subst e;exact h3
  ·have:=ih (by omega) (by omega)
   omega
theorem zwv(w:Wld)(hU:w.U.length<=1000000)(hn:∀u∈w.U,u.pos.ok)(R:Ja)
  (h:∀F s p L o0 o1 o2,StandAt F s p w L o0 o1 o2->L.length<=w.U.length->(yq w.U->∀e,e∈L↔∃u∈w.U,u.inn=0/\e=(u.id,u.pos))->R (ptr s) (F.un (stS s w o0 o1 o2 p))):Jb 86 [.agg (zt w)] Store.empty R:=by
 refine Qa (c:=cfg 31 [9] []) zb Tryz.func86 ?_
 refine Qc zb lr ?_
 refine⟨zax _ (λF p hc=>⟨Qe,?_⟩),Tv⟩
 refine⟨λs hs=>⟨Tv,?_⟩,Tv⟩
 refine Qbl ?_
 have e0:F.sO s (.cells (stC w (.s (.slice none 0 0)) (.s (.slice none 0 0)) (.s (.slice none 0 0)) p))=F.un (stS s w (.s (.slice none 0 0)) (.s (.slice none 0 0)) (.s (.slice none 0 0)) p):=by
  exact z7 F Store.empty s _
 have h0:StandAt F s p w [] (.s (.slice none 0 0)) (.s (.slice none 0 0)) (.s (.slice none 0 0)):=⟨hc,λi h1 h2=>by
  have:=stS_has.1 h2
  subst this
  exact(fresh_iff.1 hs) h1,.inl rfl,.inl rfl,.inl rfl⟩
 refine AWp.loop (σ:=Nat×Store×List Ent) ⟨λq=>[(3,.av (ptr s)),(11,.av (lst 10 zf w.U)),(12,.av (int (w.U.length:Nat))),(13,.av (int (q.1:Nat)))],λ_=>[],
  λq st'=>st'=q.2.1.un (stS s w (.s (.slice none 0 0)) (.s (.slice none 0 0)) (.s (.slice none 0 0)) p)/\StandAt q.2.1 s p w q.2.2 (.s (.slice none 0 0)) (.s (.slice none 0 0)) (.s (.slice none 0 0))/\q.1<=w.U.length/\q.2.2.length<=q.1/\(∀e∈q.2.2,e.2.ok)/\(yq w.U->∀e,e∈q.2.2↔∃u∈w.U.take q.1,u.inn=0/\e=(u.id,u.pos)),λq=>w.U.length-q.1⟩ zb ?_ ?_
 ·refine⟨(0,F,[]),Tv,⟨e0,h0,Fag _,Faj _,λe he=>(by cases he),λ_ e=>(by simp)⟩,⟨Tq,Tq,?_,Tq,Tv⟩,Tv⟩
  rw[<-zn (f:=zf) w.U];exact Tq
 rintro⟨i,F1,L⟩ st' ⟨rfl,hS,hi,hL,hok,hmem⟩
 dsimp only at hS hi hL hok hmem⊢
 refine bcd (λh1=>?_) (λh1=>?_)
 rotate_left
 ·have:i=w.U.length:=by omega
  subst this
  rw[Fap]at hmem
  exact ret (h F1 s p L _ _ _ hS hL hmem)
 have hlt:i<w.U.length:=by omega
 refine⟨i,rfl,za _ (zm hlt) ?_⟩
 have hn2:=hn w.U[i] (Faa hlt)
 refine zy (λc1=>?_) (λc1=>?_)
 ·refine Qc zb lp ?_
  refine za (o:=(F1.un (stS s w _ _ _ p)).obj s) _ (zg (Fy s w _ _ _ p)) ?_
  refine⟨dl hS.hc hS.hd (by omega) hok w.U[i].id w.U[i].pos hn2 _ (λF2 h2 h3=>⟨Tv,?_⟩),Tv⟩
  have hlen:(qo L w.U[i].id++[(w.U[i].id,w.U[i].pos)]).length<=i+1:=by
   rw[Fad]
   have:(qo L w.U[i].id).length<=L.length:=Fcj _ _
   simp only[Fas];omega
  refine Qd ?_
  refine⟨(i+1,F2,_),?_,⟨rfl,⟨h2,h3,.inl rfl,.inl rfl,.inl rfl⟩,by dsimp only;omega,hlen,λe he=>?_,λhr e=>?_⟩,⟨Tq,Tq,Tq,Tq,Tv⟩,Tv⟩
  ·show w.U.length-(i+1)<w.U.length-i
   omega
  ·rcases Fan.1 he with he|he
   ·exact hok e (mem_dropId.1 he).1
   ·simp at he;subst he;exact hn2
  ·dsimp only
   rw[Fac hlt,Fan,mem_dropId,hmem hr e]
   constructor
   ·rintro(⟨⟨u,hu,h4⟩,_⟩|he)
    ·exact⟨u,Fan.2 (.inl hu),h4⟩
    ·simp at he
     exact⟨w.U[i],Fan.2 (.inr (by simp)),c1,he⟩
   ·rintro⟨u,hu,h4,h5⟩
    rcases Fan.1 hu with hu|hu
    ·refine .inl ⟨⟨u,hu,h4,h5⟩,?_⟩
     obtain⟨j,hj,rfl⟩:=Fak hu
     rw[Fao]at hj
     rw[Fdt]at h5
     have:=Vy hr (a:=j) (b:=i) (by omega) hlt
     subst h5
     show w.U[j].id≠w.U[i].id
     omega
    ·simp at hu
     subst hu
     exact .inr (by simp[h5])
 ·refine Qd ?_
  refine⟨(i+1,F1,L),?_,⟨rfl,hS,by dsimp only;omega,by dsimp only;omega,hok,λhr e=>?_⟩,Qbh,Tv⟩
  ·show w.U.length-(i+1)<w.U.length-i
   omega
  ·dsimp only
   rw[hmem hr e,Fac hlt]
   constructor
   ·rintro⟨u,hu,h3⟩;exact⟨u,Fan.2 (.inl hu),h3⟩
   ·rintro⟨u,hu,h3,h4⟩
    rcases Fan.1 hu with hu|hu
    ·exact⟨u,hu,h3,h4⟩
    ·simp at hu
     subst hu
     exact absurd h3 c1
end
theorem Ct{g:Gnd}(hg:zr g)(l:List Bld)(c:Int):∃x y,opV g l c=.lst 1 (x::y) none:=by
 have ha:=qe hg
 unfold opV lst
 cases h:rws jt (blL g.T.length (yi g l c))with
 |nil=>
  have:=zn (f:=jt) (blL g.T.length (yi g l c))
  rw[h,xj]at this
  simp at this
  omega
 |cons x y=>exact⟨x,y,rfl⟩
theorem Lt{v:AV}(h:∃x y,v=.lst 1 (x::y) none):cellsOf v=some [v]/\v.one=true:=by
 obtain⟨x,y,rfl⟩:=h
 exact⟨rfl,rfl⟩
theorem znu{F:Store}{s p:Nat}{w:Wld}{L:List Ent}{o0 o1 o2:AV}(hS:StandAt F s p w L o0 o1 o2)(hg:zr w.G)(hB:w.B.length<=1000000000000)(hb:∀b∈w.B,yg b/\onP w.G b)(c:Int)(hc:c=0\/c=1\/c=2)(R:Ja)
  (h:∀q0 q1 q2,StandAt F s p w L q0 q1 q2->R (opV w.G w.B c) (F.un (stS s w q0 q1 q2 p))):Jb 162 [ptr s,int c] (F.un (stS s w o0 o1 o2 p)) R:=by
 have ho:=zg (a:=F) (Fy s w o0 o1 o2 p)
 obtain⟨x0,y0,hne0⟩:=Ct hg w.B 0
 obtain⟨x1,y1,hne1⟩:=Ct hg w.B 1
 obtain⟨x2,y2,hne2⟩:=Ct hg w.B 2
 rcases hc with rfl|rfl|rfl
 ·rcases hS.h0 with e|e
  ·subst e
   refine Qa (c:=cfg 35) zb Tryz.func162 ?_
   refine⟨0,rfl,by decide,?_⟩
   refine za (o:=(F.un (stS s w _ _ _ p)).obj s) _ ho ?_
   refine Qc zb Kw ?_
   refine za (o:=(F.un (stS s w _ _ _ p)).obj s) _ ho ?_
   refine za (o:=(F.un (stS s w _ _ _ p)).obj s) _ ho ?_
   refine⟨I3 w.G hg w.B hB hb 0 _ _ ⟨Tv,?_⟩,Tv⟩
   refine⟨0,rfl,by decide,?_⟩
   have ho2:=zg (a:=F) (Fy s w (opV w.G w.B 0) o1 o2 p)
   have hc2:=Lt (Ct hg w.B 0)
   refine⟨?_,Tv⟩
   refine za _ rfl (j5 rfl (jz (v:=opV w.G w.B 0) rfl rfl rfl rfl ?_))
   refine yj (i:=ti60) (v:=opV w.G w.B 0) (b:=s) (o:=0+8+0*ti60.size) (l:=stC w _ o1 o2 p) (st2:=F.un (stS s w (opV w.G w.B 0) o1 o2 p)) hc2.1 hc2.2 rfl ho (show 8+1<=12 by decide) ?_ ?_
   ·rw[z7]
    unfold stS
    rw[yp]
    rfl
   refine⟨Tv,?_⟩
   refine⟨0,rfl,by decide,?_⟩
   refine za (o:=(F.un (stS s w _ _ _ p)).obj s) _ ho2 ?_
   exact ret (h _ _ _ ⟨hS.hc,cn hS.hd,.inr rfl,hS.h1,hS.h2⟩)
  ·rw[hne0]at e
   subst e
   refine Qa (c:=cfg 35) zb Tryz.func162 ?_
   refine⟨0,rfl,by decide,?_⟩
   refine za (o:=(F.un (stS s w _ _ _ p)).obj s) _ ho ?_
   refine λbb hbb=>?_
   have hbf:bb=false:=by
    cases bb with
    |true=>cases hbb rfl
    |false=>rfl
   subst hbf
   refine⟨0,rfl,by decide,?_⟩
   refine za (o:=(F.un (stS s w _ _ _ p)).obj s) _ ho ?_
   refine ret ?_
   have:=h _ _ _ hS
   rw[hne0]at this
   exact this
 ·rcases hS.h1 with e|e
  ·subst e
   refine Qa (c:=cfg 35) zb Tryz.func162 ?_
   refine⟨1,rfl,by decide,?_⟩
   refine za (o:=(F.un (stS s w _ _ _ p)).obj s) _ ho ?_
   refine Qc zb Kw ?_
   refine za (o:=(F.un (stS s w _ _ _ p)).obj s) _ ho ?_
   refine za (o:=(F.un (stS s w _ _ _ p)).obj s) _ ho ?_
   refine⟨I3 w.G hg w.B hB hb 1 _ _ ⟨Tv,?_⟩,Tv⟩
   refine⟨1,rfl,by decide,?_⟩
   have ho2:=zg (a:=F) (Fy s w o0 (opV w.G w.B 1) o2 p)
   have hc2:=Lt (Ct hg w.B 1)
   refine⟨?_,Tv⟩
   refine za _ rfl (j5 rfl (jz (v:=opV w.G w.B 1) rfl rfl rfl rfl ?_))
   refine yj (i:=ti60) (v:=opV w.G w.B 1) (b:=s) (o:=0+8+1*ti60.size) (l:=stC w o0 _ o2 p) (st2:=F.un (stS s w o0 (opV w.G w.B 1) o2 p)) hc2.1 hc2.2 rfl ho (show 9+1<=12 by decide) ?_ ?_
   ·rw[z7]
    unfold stS
    rw[yp]
    rfl
   refine⟨Tv,?_⟩
   refine⟨1,rfl,by decide,?_⟩
   refine za (o:=(F.un (stS s w _ _ _ p)).obj s) _ ho2 ?_
   exact ret (h _ _ _ ⟨hS.hc,cn hS.hd,hS.h0,.inr rfl,hS.h2⟩)
  ·rw[hne1]at e
   subst e
   refine Qa (c:=cfg 35) zb Tryz.func162 ?_
   refine⟨1,rfl,by decide,?_⟩
   refine za (o:=(F.un (stS s w _ _ _ p)).obj s) _ ho ?_
   refine λbb hbb=>?_
   have hbf:bb=false:=by
    cases bb with
    |true=>cases hbb rfl
    |false=>rfl
   subst hbf
   refine⟨1,rfl,by decide,?_⟩
   refine za (o:=(F.un (stS s w _ _ _ p)).obj s) _ ho ?_
   refine ret ?_
   have:=h _ _ _ hS
   rw[hne1]at this
   exact this
 ·rcases hS.h2 with e|e
  ·subst e
   refine Qa (c:=cfg 35) zb Tryz.func162 ?_
   refine⟨2,rfl,by decide,?_⟩
   refine za (o:=(F.un (stS s w _ _ _ p)).obj s) _ ho ?_
   refine Qc zb Kw ?_
   refine za (o:=(F.un (stS s w _ _ _ p)).obj s) _ ho ?_
   refine za (o:=(F.un (stS s w _ _ _ p)).obj s) _ ho ?_
   refine⟨I3 w.G hg w.B hB hb 2 _ _ ⟨Tv,?_⟩,Tv⟩
   refine⟨2,rfl,by decide,?_⟩
   have ho2:=zg (a:=F) (Fy s w o0 o1 (opV w.G w.B 2) p)
   have hc2:=Lt (Ct hg w.B 2)
   refine⟨?_,Tv⟩
   refine za _ rfl (j5 rfl (jz (v:=opV w.G w.B 2) rfl rfl rfl rfl ?_))
   refine yj (i:=ti60) (v:=opV w.G w.B 2) (b:=s) (o:=0+8+2*ti60.size) (l:=stC w o0 o1 _ p) (st2:=F.un (stS s w o0 o1 (opV w.G w.B 2) p)) hc2.1 hc2.2 rfl ho (show 10+1<=12 by decide) ?_ ?_
   ·rw[z7]
    unfold stS
    rw[yp]
    rfl
   refine⟨Tv,?_⟩
   refine⟨2,rfl,by decide,?_⟩
   refine za (o:=(F.un (stS s w _ _ _ p)).obj s) _ ho2 ?_
   exact ret (h _ _ _ ⟨hS.hc,cn hS.hd,hS.h0,hS.h1,.inr rfl⟩)
  ·rw[hne2]at e
   subst e
   refine Qa (c:=cfg 35) zb Tryz.func162 ?_
   refine⟨2,rfl,by decide,?_⟩
   refine za (o:=(F.un (stS s w _ _ _ p)).obj s) _ ho ?_
   refine λbb hbb=>?_
   have hbf:bb=false:=by
    cases bb with
    |true=>cases hbb rfl
    |false=>rfl
   subst hbf
   refine⟨2,rfl,by decide,?_⟩
   refine za (o:=(F.un (stS s w _ _ _ p)).obj s) _ ho ?_
   refine ret ?_
   have:=h _ _ _ hS
   rw[hne2]at this
   exact this
section
variable {F:Store} {s p:Nat} {w:Wld} {o0 o1 o2:AV}
theorem zoh{L:List Ent}(hS:StandAt F s p w L o0 o1 o2)(hr:yq w.U)(hU:w.U.length<=1000000)(hn:∀u∈w.U,u.pos.ok)(hLl:L.length<=w.U.length)(hL:Dj w L)(q:Vc)(hq:q.ok)(r:Int)(hrr:0<r/\r<=262144)(R:Ja)
  (h:∀F' us,StandAt F' s p w L o0 o1 o2->Ij w q (r+81920) us->us.length<=1000000->R (lst 10 zf us) (F'.un (stS s w o0 o1 o2 p))):Jb 138 [ptr s,.agg (zo q),int r] (F.un (stS s w o0 o1 o2 p)) R:=by
 have ho:=zg (a:=F) (Fy s w o0 o1 o2 p)
 refine Qa (c:=cfg 47) zb Tryz.func138 ?_
 refine Qc zb l5 ?_
 refine za (o:=(F.un (stS s w _ _ _ p)).obj s) _ ho ?_
 refine Qd ?_
 refine⟨za2 hS.hc hS.hd (by omega) (Wl hL hn) hq (r:=r+81920) ⟨by omega,by omega⟩ _ (λF' N v ns g1 g2 g3 g4 g5 g6=>⟨Tv,?_⟩),Tv⟩
 have hS':StandAt F' s p w L o0 o1 o2:=⟨g1,g3,hS.h0,hS.h1,hS.h2⟩
 have ho':((F'.un N).un (stS s w o0 o1 o2 p)).obj s=some (.cells (stC w o0 o1 o2 p)):=zg (Fy s w o0 o1 o2 p)
 have g4':zl (F'.un N) (stS s w o0 o1 o2 p):=disj_un.2 ⟨g3,g4⟩
 have hv:∃oa cap,v=.s (.slice oa ns.length cap)/\∀i,i<ns.length->∃b J,oa=some ⟨b,0,none⟩/\((F'.un N).un (stS s w o0 o1 o2 p)).obj b=some (.cells (ns.map aI++J)):=by
  rcases Nd g5 with⟨rfl,rfl⟩|⟨b,cap,J,rfl,hob,_⟩
  ·exact⟨none,0,rfl,λi hi=>absurd hi (Fa2 i)⟩
  ·exact⟨_,cap,rfl,λi _=>⟨b,J,rfl,yr g4' (zg hob)⟩⟩
 obtain⟨oa,cap,rfl,hget⟩:=hv
 have hnl:ns.length<=w.U.length:=by
  have:=Fbz (l₂:=L.map (·.1)) (g6.1.imp λh=>by omega) (λid hid=>by
   obtain⟨e,he,h2,_⟩:=(g6.2 id).1 hid
   exact Fae.2 ⟨e,he,h2⟩)
  rw[Fa4]at this
  omega
 have hfin:∀us:List Unt,us.map (·.id)=ns->(∀u∈us,u∈w.U/\u.inn=0)->R (lst 10 zf us) (F'.un (stS s w o0 o1 o2 p)):=λus e1 e2=>
  h F' us hS' (pi hr hL g6 e1 e2) (by
   have:=congrArg List.length e1
   rw[Fa4]at this
   omega)
 have hback:=s7 (S:=stS s w o0 o1 o2 p) g2
 generalize(F'.un N).un (stS s w o0 o1 o2 p)=st1 at*
 refine AWp.loop (σ:=Nat×AV×List Unt) ⟨λx=>[(0,.av (ptr s)),(6,.av x.2.1),(18,.av (.s (.slice oa ns.length cap))),(19,.av (int (ns.length:Nat))),(20,.av (int (x.1:Nat)))],λ_=>[],
  λx st'=>x.1<=ns.length/\App 10 st1 x.2.1 (rws zf x.2.2) st'/\x.2.2.map (·.id)=ns.take x.1/\∀u∈x.2.2,u∈w.U/\u.inn=0,λx=>ns.length-x.1⟩ zb ?_ ?_
 ·exact⟨(0,_,[]),Tv,⟨Fag _,App.start 10 st1,rfl,λu hu=>(by cases hu)⟩,⟨Tq,Tq,Tq,Tq,Tq,Tv⟩,Tv⟩
 rintro⟨i,v2,us⟩ st' ⟨hi,ha,hus,hin⟩
 dsimp only at hi ha hus hin⊢
 refine bcd (λh1=>?_) (λh1=>?_)
 rotate_left
 ·have:i=ns.length:=by omega
  subst this
  rw[Fap]at hus
  exact⟨_,_,AV.le_trans ha.le (Tt),ha.has.trans hback,hfin us hus hin⟩
 have hlt:i<ns.length:=by omega
 obtain⟨b,J,rfl,hob⟩:=hget i hlt
 have hob':st'.obj b=some (.cells (ns.map aI++J)):=by rw[ha.obj];exact hob
 have hos:st'.obj s=some (.cells (stC w o0 o1 o2 p)):=by rw[ha.obj];exact ho'
 refine⟨i,rfl,hlt,?_⟩
 refine Qbm ?_
 refine za (o:=List.head? _) (int ns[i]) (by
  rw[Fb2,show 0+i*ti2.size=i from by show 0+i*1=i;omega,Fam (by simpa using hlt),Faq,Fab hlt];rfl) ?_
 refine Qbm ?_
 refine R5 w.U (by omega) hr ns[i] _ _ (λk hk z hz=>?_)
 obtain⟨e,he,hid,_⟩:=(g6.2 ns[i]).1 (Faa hlt)
 obtain⟨u,hu,hu0,rfl⟩:=(hL e).1 he
 have hfound:∃hk2:k<w.U.length,w.U[k].id=ns[i]:=by
  obtain⟨j,hj,rfl⟩:=Fak hu
  have h5:j>=k:=Decidable.byContradiction λhn2=>by
   have:=hk.2.1 j hj (by omega)
   have h6:(w.U[j]).id=ns[i]:=hid
   omega
  have h7:k<w.U.length:=by omega
  refine⟨h7,?_⟩
  have h8:=hk.2.2 k h7 (Faj _)
  have h6:(w.U[j]).id=ns[i]:=hid
  by_cases e:k=j
  ·subst e;exact h6
  ·have:=Fb hr (show k<j by omega) hj
   omega
 obtain⟨hk2,hk3⟩:=hfound
 refine Qbm ?_
 refine⟨k,rfl,za _ (zm hk2) ?_⟩
 refine⟨by decide,?_⟩
 have hul:us.length=i:=by
  have:=congrArg List.length hus
  rw[Fa4,Fao]at this
  omega
 refine Fu (ie:=ti50) (rows':=[zf w.U[k]]) ha ?_ ?_ ⟨?_,?_⟩ (λv3 st3 ha3=>?_)
 ·rfl
 ·rfl
 ·simp only[zn,Fas,ti50];omega
 ·simp only[zn,Fas];omega
 refine Qd ?_
 have huk:w.U[k]=u:=G6 hr (Faa hk2) hu (by rw[hk3];exact hid.symm)
 refine⟨(i+1,v3,us++[w.U[k]]),?_,⟨by dsimp only;omega,?_,?_,λu2 hu2=>?_⟩,Qbh,Tv⟩
 ·show ns.length-(i+1)<ns.length-i
  omega
 ·dsimp only
  unfold rws at ha3⊢
  rw[Fbk]
  exact ha3
 ·dsimp only
  rw[Fbk,hus,Fac hlt]
  simp[hk3]
 ·rcases Fan.1 hu2 with h9|h9
  ·exact hin u2 h9
  ·simp at h9
   subst h9
   rw[huk]
   exact⟨hu,hu0⟩
theorem zn7{L:List Ent}(hS:StandAt F s p w L o0 o1 o2)(hg:zr w.G)(hB:w.B.length<=1000000000000)(hb:∀b∈w.B,yg b/\onP w.G b)(hr:yq w.U)(hU:w.U.length<=1000000)(hn:∀u∈w.U,u.pos.ok)(hLl:L.length<=w.U.length)(hL:Dj w L)
  (id k:Int) (q:Vc) (hq:q.ok) (R:Ja)
  (h:∀z F' q0 q1 q2,(z=true↔qa w id k q)->StandAt F' s p w L q0 q1 q2->R (V.bool z) (F'.un (stS s w q0 q1 q2 p))):Jb 110 [ptr s,int id,int k,.agg (zo q)] (F.un (stS s w o0 o1 o2 p)) R:=by
 have ho:=zg (a:=F) (Fy s w o0 o1 o2 p)
 have hk:=Bl k
 have hc:=Gd k
 refine Qa (c:=cfg 56) zb Tryz.func110 ?_
 refine vm k _ _ ?_
 refine Qc zb l8 ?_
 refine za (o:=(F.un (stS s w _ _ _ p)).obj s) _ ho ?_
 refine⟨znu hS hg hB hb (yf k) hc _ (λa0 a1 a2 hS1=>⟨?_,?_⟩),Tv⟩
 ·have ho1:=zg (a:=F) (Fy s w a0 a1 a2 p)
  repeat(first|exact Tv|refine⟨rfl,?_⟩|refine⟨za (o:=(F.un (stS s w a0 a1 a2 p)).obj s) _ ho1 rfl,?_⟩)
 refine⟨tv w.G hg w.B (yf k) q hq (zv k) ⟨hk.1,by omega⟩ _ _ (λz hz=>⟨Tv,?_⟩),Tv⟩
 refine yd ?_
 refine zh (λc1=>?_) (λc1=>ret (h false _ _ _ _ (by simp only[Fah,false_iff];exact λhh=>by have:=hz.2 hh.1;rw[this]at c1;cases c1) hS1))
 have hfree:=hz.1 c1
 refine zoh hS1 hr hU hn hLl hL q hq (zv k) ⟨hk.1,by omega⟩ _ (λF' us hS2 hus hul=>?_)
 have hci:=zaq (id:=id) hfree hus
 have no:¬qa w id k q->R (V.bool false) (F'.un (stS s w a0 a1 a2 p)):=λhh=>h false _ _ _ _ (by simp only[Fah,false_iff];exact hh) hS2
 refine AWp.loop (σ:=Nat) ⟨λi=>[(1,.av (int id)),(7,.bx 7 0),(9,.bx 9 0),(32,.av (lst 10 zf us)),(33,.av (int (us.length:Nat))),(34,.av (int (i:Nat)))],λ_=>[(7,zo q),(9,Cb k)],
  λi st'=>st'=F'.un (stS s w a0 a1 a2 p)/\i<=us.length/\∀j,(hj:j<us.length)->j<i->us[j].id≠id->kx q (zv k) us[j].pos (zv us[j].kind)=true,λi=>us.length-i⟩ zb ?_ ?_
 ·refine⟨0,Tv,⟨rfl,Fag _,λj _ hj=>by omega⟩,⟨Tq,Tq,Tq,Tq,?_,Tq,Tv⟩,⟨rfl,rfl,Tv⟩⟩
  rw[<-zn (f:=zf) us];exact Tq
 rintro i st' ⟨rfl,hi,hall⟩
 refine bcd (λh1=>?_) (λh1=>?_)
 rotate_left
 ·refine ret (h true _ _ _ _ (by
   simp only[true_iff]
   refine hci.2 λu hu hne=>?_
   obtain⟨j,hj,rfl⟩:=Fak hu
   exact hall j hj (by omega) hne) hS2)
 have hlt:i<us.length:=by omega
 have hui:=(hus us[i]).1 (Faa hlt)
 have next:(us[i].id≠id->kx q (zv k) us[i].pos (zv us[i].kind)=true)->∀j,(hj:j<us.length)->j<i+1->us[j].id≠id->kx q (zv k) us[j].pos (zv us[j].kind)=true:=λhh j hj hji=>by
  by_cases e:j=i
  ·subst e;exact hh
  ·exact hall j hj (by omega)
 refine⟨i,rfl,za _ (zm hlt) ?_⟩
 refine Qc zb l7 ?_
 refine qj (λc2=>?_) (λc2=>?_)
 ·refine⟨vm us[i].kind _ _ ⟨Qe,?_⟩,Tv⟩
  have hk2:=Bl us[i].kind
  refine⟨zbp q (zv k) us[i].pos (zv us[i].kind) hq (hn _ hui.1.1) ⟨hk.1,by omega⟩ ⟨hk2.1,by omega⟩ _ _ ⟨Tv,?_⟩,Tv⟩
  refine yd ?_
  refine zh (λc3=>?_) (λc3=>?_)
  ·refine Qd ?_
   refine⟨i+1,?_,⟨rfl,by omega,next λ_=>c3⟩,Qbh,⟨rfl,rfl,Tv⟩⟩
   show us.length-(i+1)<us.length-i
   omega
  ·refine ret (no λhh=>?_)
   have:=hci.1 hh us[i] (Faa hlt) c2
   rw[this]at c3;cases c3
 ·refine Qbk ?_
  refine Qbl ?_
  refine Qd ?_
  refine⟨i+1,?_,⟨rfl,by omega,next λhne=>absurd c2 hne⟩,Qbh,⟨rfl,rfl,Tv⟩⟩
  show us.length-(i+1)<us.length-i
  omega
end
theorem zy7{R:Ja}{b:Bool}{st:Store}(h:R (V.bool b) st)(hb:b=true):R (V.bool true) st:=by rw[hb]at h;exact h
theorem ybc(w:Wld)(b:Bld)(p:Nat)(st:Store)(hp:st.obj p=some (.cells (zt w)))(R:Ja)(h:R (V.bool (decide (b.owner>w.players\/b.id>=w.next))) st):
  Jb 168 ([.agg (zk b)]++[ptr p]) st R:=by
 refine Qa (c:=cfg 16) zb Tryz.func168 ?_
 refine za _ hp ?_
 refine bcd (λc1=>ret (zy7 h (decide_eq_true (.inl c1)))) (λc1=>?_)
 refine za _ hp ?_
 refine ret ?_
 have e:decide (b.owner>w.players\/b.id>=w.next)=decide (b.id>=w.next):=by
  rw[Fbq,decide_eq_true_iff,decide_eq_true_iff];omega
 rw[e]at h
 exact h
theorem ybb(w:Wld)(hw:w.fits)(st:Store)(R:Ja)(h:∀z:Bool,(z=true↔Hh w)->R (V.bool z) st):Jb 113 [.agg (zt w)] st R:=by
 obtain⟨hw1,hw2,hw3⟩:=hw
 refine Qa (c:=cfg 54 [1] []) zb Tryz.func113 ?_
 intro p hp
 have ho:(st.sO p (.cells (zt w))).obj p=some (.cells (zt w)):=zd _ _ _
 have nof:¬Hh w->∃r st',AV.le (V.bool false) r/\(st.sO p (.cells (zt w))).Has st'/\R r st':=λhn=>By (Tt) (Fk hp.1) (h false (by simp only[Fah,false_iff];exact hn))
 refine za _ ho ?_
 refine bcd (λc1=>nof λq=>by have:=q.1;omega) (λc1=>?_)
 refine za _ ho ?_
 refine bcd (λc2=>nof λq=>by have:=q.1;omega) (λc2=>?_)
 refine za _ ho ?_
 refine bcd (λc3=>nof λq=>by have:=q.1;omega) (λc3=>?_)
 refine za _ ho ?_
 refine bcd (λc4=>nof λq=>by have:=q.1;omega) (λc4=>?_)
 refine za _ ho ?_
 refine bcd (λc5=>nof λq=>by have:=q.1;omega) (λc5=>?_)
 refine za _ ho ?_
 refine bcd (λc6=>nof λq=>by have:=q.1;omega) (λc6=>?_)
 refine za _ ho ?_
 refine zz8 w.G hw1 _ _ (λz hz=>?_)
 refine yd ?_
 refine zh (λc7=>?_) (λc7=>nof λq=>by have:=hz.2 q.2.1.1;rw[this]at c7;cases c7)
 have hg:=hz.1 c7
 refine za _ ho ?_
 refine za _ ho ?_
 refine yej w.G hg w.B hw2 _ _ (λz hz=>?_)
 refine yd ?_
 refine zh (λc8=>?_) (λc8=>nof λq=>by have:=hz.2 q.2.1.2.1;rw[this]at c8;cases c8)
 have hb:=hz.1 c8
 refine za _ ho ?_
 have hUl:((rws zf w.U).length:Int)=(w.U.length:Int):=by rw[zn]
 refine bcd (λc9=>nof λq=>by have:=q.2.1.2.2;omega) (λc9=>?_)
 refine za _ ho ?_
 refine yer w.B hw2 _ _ (λb=>decide (b.owner>w.players\/b.id>=w.next)) _ (λb hb R h=>ybc w b p _ ho R h) _ ?_
 refine By (Tt) (Fk hp.1) (h _ ?_)
 rw[Fbs,Fdc]
 constructor
 ·intro hh
  refine⟨by omega,⟨hg,hb,by omega⟩,λb hb2=>?_⟩
  have:=hh b hb2
  rw[decide_eq_true_iff]at this
  omega
 ·intro hh b hb2
  have:=hh.2.2 b hb2
  rw[decide_eq_true_iff]
  omega
def Lq(cs:List (Int×Int))(bs:List Nat)(clk:Nat):AObj:=.map (cs.map (yu int)) bs clk
def Rt(m:Nat):AV:=.s (.map (some m))
theorem zua(w:Wld)(hU:w.U.length<=1000000)(hr:yq w.U)(st:Store)(R:Ja)(h:∀z:Bool,(z=true↔∀u∈w.U,u.inn≠0->Aq w u)->R (V.bool z) st):Jb 115 [.agg (zt w)] st R:=by
 refine Qa (c:=cfg 85) zb Tryz.func115 ?_
 refine Hw rfl (λm hm=>?_)
 have hhas:∀x,(st.sO m x).Has st:=λx=>Fk hm.1
 have nof:∀x,¬(∀u∈w.U,u.inn≠0->Aq w u)->∃r st',AV.le (V.bool false) r/\(st.sO m x).Has st'/\R r st':=λx hn=>By (Tt) (hhas x) (h false (by simp only[Fah,false_iff];exact hn))
 refine AWp.loop (σ:=Nat×List (Int×Int)×List Nat×Nat) ⟨λx=>[(1,.bx 1 0),(3,.av (Rt m)),(11,.av (lst 10 zf w.U)),(12,.av (int (w.U.length:Nat))),(13,.av (int (x.1:Nat)))],λ_=>[(1,zt w)],
  λx st'=>x.1<=w.U.length/\st'=st.sO m (Lq x.2.1 x.2.2.1 x.2.2.2)/\(∀id,id≠0->(yw x.2.1 id).getD 0=((z8 (w.U.take x.1) id).length:Int))/\Vz w x.1,λx=>w.U.length-x.1⟩ zb ?_ ?_
 ·refine⟨(0,[],[],0),Tv,⟨Fag _,rfl,λid _=>rfl,λj _ hj=>by omega,λx _ _=>(Na _).1⟩,⟨Tq,Tq,Tq,?_,Tq,Tv⟩,⟨rfl,Tv⟩⟩
  rw[<-zn (f:=zf) w.U];exact Tq
 rintro⟨i,cs,bs,clk⟩ st' ⟨hi,rfl,hcnt,hup⟩
 dsimp only at hi hcnt hup⊢
 refine bcd (λh1=>?_) (λh1=>?_)
 rotate_left
 ·have:i=w.U.length:=by omega
  subst this
  exact By (Tt) (hhas _) (h true (by simp only[true_iff];exact zub hup))
 have hlt:i<w.U.length:=by omega
 have hui:=Faa hlt
 refine⟨i,rfl,za _ (zm hlt) ?_⟩
 refine zy (λc1=>?_) (λc1=>?_)
 ·refine Qd ?_
  refine⟨(i+1,cs,bs,clk),?_,⟨by dsimp only;omega,rfl,λid hid=>?_,λj hj hji hne=>?_,λx hx hx0=>?_⟩,Qbh,⟨rfl,Tv⟩⟩
  ·show w.U.length-(i+1)<w.U.length-i
   omega
  ·dsimp only
   rw[hcnt id hid,Nf hlt,if_neg (by rw[c1];omega)];omega
  ·by_cases e:j=i
   ·subst e;exact absurd c1 hne
   ·exact hup.1 j hj (by dsimp only at hji;omega) hne
  ·dsimp only
   rw[Nf hlt,if_neg (by rw[c1];omega)]
   have:=hup.2 x hx hx0
   omega
 refine R5 w.U (by omega) hr w.U[i].inn _ _ (λk hk z hz=>?_)
 have nou:∀x,¬Aq w w.U[i]->∃r st',AV.le (V.bool false) r/\(st.sO m x).Has st'/\R r st':=λx hn=>nof x λhh=>hn (hh _ hui c1)
 have found:Aq w w.U[i]->z=true:=λ⟨x,hx,e,_⟩=>by
  obtain⟨j,hj,rfl⟩:=Fak hx
  refine hz.2 ?_
  have h5:j>=k:=Decidable.byContradiction λhn2=>by
   have:=hk.2.1 j hj (by omega)
   omega
  have h7:k<w.U.length:=by omega
  refine⟨h7,?_⟩
  have h8:=hk.2.2 k h7 (Faj _)
  by_cases e2:k=j
  ·subst e2;exact e
  ·have:=Fb hr (show k<j by omega) hj
   omega
 refine yd ?_
 refine zh (λc2=>?_) (λc2=>nou _ λhh=>by rw[found hh]at c2;cases c2)
 obtain⟨hkl,hkid⟩:=hz.1 c2
 have uniq:Aq w w.U[i]->(w.U[k].inn=0/\w.U[k].owner=w.U[i].owner)/\((z8 w.U w.U[i].inn).length:Int)<=jg w.U[k].kind:=λ⟨x,hx,e,e2,e3,_⟩=>by
  have:=G6 hr hx (Faa hkl) (by rw[e,hkid])
  subst this
  exact⟨e2,e3⟩
 refine vm w.U[i].kind _ _ ?_
 refine bcd (λc3=>nou _ λ⟨x,_,_,_,_,e,_⟩=>by omega) (λc3=>?_)
 have hroom:jg w.U[i].kind=0:=by have:=Na w.U[i].kind;omega
 refine yd ?_
 refine zh (λc4=>?_) (λc4=>nou _ λ⟨x,_,_,_,_,_,e,_⟩=>by rw[e]at c4;cases c4)
 have hpos:w.U[i].pos=(0,0):=by
  have:(w.U[i].pos.1==0&&(w.U[i].pos.2==0&&true))=true:=c4
  simp at this
  exact Prod.ext this.1 this.2
 refine qj (λc5=>nou _ λ⟨x,_,_,_,_,_,_,e,_⟩=>c5 e) (λc5=>?_)
 refine qj (λc6=>nou _ λ⟨x,_,_,_,_,_,_,_,e⟩=>c6 e) (λc6=>?_)
 refine⟨k,rfl,za _ (zm hkl) ?_⟩
 have hmo:(st.sO m (Lq cs bs clk)).obj m=some (Lq cs bs clk):=zd _ _ _
 refine Aj rfl (it:=ti166) (ie:=ti2) (ik:=ti2) rfl rfl rfl rfl hmo rfl (qA w.U[k].id) (λe he=>?_) ?_
 ·obtain⟨e,_,rfl⟩:=Fae.1 he
  rfl
 rw[Hd]
 have hz0:w.U[k].id≠0:=by rw[hkid];exact c1
 have hcv:(Option.map int (yw cs w.U[k].id)).getD (Cg ti2)=int ((z8 (w.U.take i) w.U[k].id).length:Int):=by
  rw[<-hcnt _ hz0]
  cases yw cs w.U[k].id<;>rfl
 rw[hcv]
 have hcl:(z8 (w.U.take i) w.U[k].id).length<=1000000:=by
  have h1:=P0 (l:=w.U) i w.U[k].id
  have h2:(z8 w.U w.U[k].id).length<=w.U.length:=by unfold z8;rw[Fa4];exact Fcj _ _
  omega
 refine Qd ?_
 refine D2 (.inl rfl) rfl (it:=ti166) (ik:=ti2) rfl rfl rfl (es:=cs.map (yu int)) (bs:=bs) (clk:=clk) (k:=int w.U[k].id) (v:=int (((z8 (w.U.take i) w.U[k].id).length:Int)+1)) hmo rfl rfl (qA w.U[k].id) (λe he=>?_) (λe1 he hq=>?_) ?_
 ·obtain⟨e,_,rfl⟩:=Fae.1 he
  rfl
 ·obtain⟨g1,_,rfl⟩:=Fae.1 he
  have:w.U[k].id=g1.1:=by simpa [qA,yu,int]using hq
  show int g1.1=_
  rw[this]
 obtain⟨bs',clk',hput⟩:=K8 int cs bs clk w.U[k].id (((z8 (w.U.take i) w.U[k].id).length:Int)+1)
 have hput:vz (cs.map (yu int)) bs clk (qA w.U[k].id) (int w.U[k].id) (int (((z8 (w.U.take i) w.U[k].id).length:Int)+1))=Lq (yn cs w.U[k].id (((z8 (w.U.take i) w.U[k].id).length:Int)+1)) bs' clk':=hput
 rw[hput,yp]
 have hmo2:(st.sO m (Lq (yn cs w.U[k].id (((z8 (w.U.take i) w.U[k].id).length:Int)+1)) bs' clk')).obj m=some (Lq (yn cs w.U[k].id (((z8 (w.U.take i) w.U[k].id).length:Int)+1)) bs' clk'):=zd _ _ _
 have hlook:Fj false (Cg ti2) (((yn cs w.U[k].id (((z8 (w.U.take i) w.U[k].id).length:Int)+1)).map (yu int)).find? (qA w.U[k].id))=int (((z8 (w.U.take i) w.U[k].id).length:Int)+1):=by
  rw[Hd,C7,if_pos rfl];rfl
 have hsucc:=Nf hlt w.U[k].id
 rw[if_pos hkid.symm]at hsucc
 have hcnt2:∀id,id≠0->(yw (yn cs w.U[k].id (((z8 (w.U.take i) w.U[k].id).length:Int)+1)) id).getD 0=((z8 (w.U.take (i+1)) id).length:Int):=λid hid=>by
  rw[C7]
  by_cases e:id=w.U[k].id
  ·rw[if_pos e,e,hsucc];rfl
  ·rw[if_neg e,hcnt id hid,Nf hlt,if_neg (by rw[<-hkid];exact Ne.symm e)];omega
 generalize yn cs w.U[k].id (((z8 (w.U.take i) w.U[k].id).length:Int)+1)=cs2 at*
 have over:jg w.U[k].kind<((z8 (w.U.take i) w.U[k].id).length:Int)+1->¬Aq w w.U[i]:=λhh hp=>by
  have h2:=(uniq hp).2
  have h3:=P0 (l:=w.U) (i+1) w.U[k].id
  rw[<-hkid]at h2
  omega
 have good:w.U[k].inn=0->w.U[k].owner=w.U[i].owner->((z8 (w.U.take i) w.U[k].id).length:Int)+1<=jg w.U[k].kind->Vz w (i+1):=λe1 e2 e3=>by
  refine⟨λj hj hji hne=>?_,λx hx hx0=>?_⟩
  ·by_cases e:j=i
   ·subst e
    exact⟨w.U[k],Faa hkl,hkid,⟨e1,e2⟩,hroom,hpos,c5,c6⟩
   ·exact hup.1 j hj (by omega) hne
  ·by_cases e:x.id=w.U[k].id
   ·have:=G6 hr hx (Faa hkl) e
    subst this
    omega
   ·rw[Nf hlt,if_neg (by rw[<-hkid];exact Ne.symm e)]
    have:=hup.2 x hx hx0
    omega
 refine Qc zb zsl ?_
 refine qj (λc7=>?_) (λc7=>?_)
 ·refine⟨⟨Qe,⟨⟨Qe,nou _ (λhh=>c7 (uniq hh).1.1)⟩,Tv⟩⟩,⟨⟨Qe,⟨⟨Qe,nou _ (λhh=>c7 (uniq hh).1.1)⟩,Tv⟩⟩,Tv⟩⟩
 refine qj (λc8=>?_) (λc8=>?_)
 ·refine⟨⟨Qe,⟨⟨Qe,nou _ (λhh=>c8 (uniq hh).1.2)⟩,Tv⟩⟩,⟨⟨Qe,⟨⟨Qe,nou _ (λhh=>c8 (uniq hh).1.2)⟩,Tv⟩⟩,Tv⟩⟩
 refine⟨?_,?_,Tv⟩
 ·refine Aj rfl (it:=ti166) (ie:=ti2) (ik:=ti2) rfl rfl rfl rfl hmo2 rfl (qA w.U[k].id) (λe he=>by obtain⟨e,_,rfl⟩:=Fae.1 he;rfl) ?_
  rw[hlook]
  refine⟨Qe,?_⟩
  refine⟨vm w.U[k].kind _ _ ⟨Qe,?_⟩,Tv⟩
  refine bcd (λc9=>nou _ (over (by omega))) (λc9=>?_)
  refine Qd ?_
  refine⟨(i+1,cs2,bs',clk'),?_,⟨by dsimp only;omega,rfl,hcnt2,good c7 c8 (by omega)⟩,Qbh,⟨rfl,Tv⟩⟩
  show w.U.length-(i+1)<w.U.length-i
  omega
 ·refine vm w.U[k].kind _ _ ⟨Qe,?_⟩
  refine⟨?_,Tv⟩
  refine Aj rfl (it:=ti166) (ie:=ti2) (ik:=ti2) rfl rfl rfl rfl hmo2 rfl (qA w.U[k].id) (λe he=>by obtain⟨e,_,rfl⟩:=Fae.1 he;rfl) ?_
  rw[hlook]
  refine⟨Qe,?_⟩
  refine bcd (λc9=>nou _ (over (by omega))) (λc9=>?_)
  refine Qd ?_
  refine⟨(i+1,cs2,bs',clk'),?_,⟨by dsimp only;omega,rfl,hcnt2,good c7 c8 (by omega)⟩,Qbh,⟨rfl,Tv⟩⟩
  show w.U.length-(i+1)<w.U.length-i
  omega
def tkO(cs:List (Int×Bool))(bs:List Nat)(clk:Nat):AObj:=.map (cs.map (yu V.bool)) bs clk
theorem zye(w:Wld)(hw:w.fits)(hn:∀u∈w.U,u.pos.ok):Jb 72 [.agg (zt w)] Store.empty λr _=>∃z,r=V.bool z/\(z=true↔z6 w):=by
 have no:¬z6 w->∃z,V.bool false=V.bool z/\(z=true↔z6 w):=λhn=>⟨false,rfl,by simp only[Fah,false_iff];exact hn⟩
 refine Qb (c:=cfg 87) zb Tryz.func72 ?_
 refine AWp.seq (AWp.of_vc zb ?_)
 refine AWp.seq (AWp.of_vc zb ?_)
 refine ybb w hw _ _ (λz hz=>?_)
 refine yd ?_
 refine zh (λc1=>?_) (λc1=>ret (no λq=>by have:=hz.2 q.1.1;rw[this]at c1;cases c1))
 have hh:=hz.1 c1
 have hg:=hh.2.1.1
 have hbl:=hh.2.1.2.1
 have hBl:w.B.length<=256:=hbl.1
 have hU:w.U.length<=4096:=hh.2.1.2.2
 have hbb:∀b∈w.B,yg b/\onP w.G b:=λb hb=>⟨(hbl.2.2.1 b hb).1,(hbl.2.2.1 b hb).2.1⟩
 refine AWp.seq (AWp.of_vc zb ?_)
 refine Hw rfl (λm hm=>?_)
 refine AWp.meetA (σ:=List (Int×Bool)×List Nat×Nat) ⟨λ_=>[(1,.bx 1 0),(3,.av (Rt m))],λ_=>[(1,zt w)],λx st'=>st'=Store.empty.sO m (tkO x.1 x.2.1 x.2.2)/\∀id,(yw x.1 id).getD false=true↔∃b∈w.B,b.id=id⟩ ?_ ?_
 ·refine AWp.of_vc zb ?_
  refine AWp.loop (σ:=Nat×List (Int×Bool)×List Nat×Nat) ⟨λx=>[(1,.bx 1 0),(3,.av (Rt m)),(16,.av (lst 6 zk w.B)),(17,.av (int (w.B.length:Nat))),(18,.av (int (x.1:Nat)))],λ_=>[(1,zt w)],
   λx st'=>x.1<=w.B.length/\st'=Store.empty.sO m (tkO x.2.1 x.2.2.1 x.2.2.2)/\∀id,(yw x.2.1 id).getD false=true↔∃b∈w.B.take x.1,b.id=id,λx=>w.B.length-x.1⟩ zb ?_ ?_
  ·refine⟨(0,[],[],0),Tv,⟨Fag _,rfl,λid=>⟨λh=>(by cases h),λ⟨b,hb,_⟩=>(by simp at hb)⟩⟩,⟨Tq,Tq,Tq,?_,Tq,Tv⟩,⟨rfl,Tv⟩⟩
   rw[<-zn (f:=zk) w.B];exact Tq
  rintro⟨i,cs,bs,clk⟩ st' ⟨hi,rfl,htk⟩
  dsimp only at hi htk⊢
  refine bcd (λh1=>?_) (λh1=>?_)
  rotate_left
  ·have:i=w.B.length:=by omega
   subst this
   rw[Fap]at htk
   exact⟨(cs,bs,clk),⟨rfl,htk⟩,⟨Tq,Tq,Tv⟩,⟨rfl,Tv⟩⟩
  have hlt:i<w.B.length:=by omega
  refine⟨i,rfl,za _ (zm hlt) ?_⟩
  have hmo:(Store.empty.sO m (tkO cs bs clk)).obj m=some (tkO cs bs clk):=zd _ _ _
  refine D2 (.inl rfl) rfl (it:=ti169) (ik:=ti2) rfl rfl rfl (es:=cs.map (yu V.bool)) (bs:=bs) (clk:=clk) (k:=int w.B[i].id) (v:=V.bool true) hmo rfl rfl (qA w.B[i].id) (λe he=>?_) (λe1 he hq=>?_) ?_
  ·obtain⟨e,_,rfl⟩:=Fae.1 he
   rfl
  ·obtain⟨g1,_,rfl⟩:=Fae.1 he
   have:w.B[i].id=g1.1:=by simpa [qA,yu,int]using hq
   show int g1.1=_
   rw[this]
  obtain⟨bs',clk',hput⟩:=K8 V.bool cs bs clk w.B[i].id true
  have hput:vz (cs.map (yu V.bool)) bs clk (qA w.B[i].id) (int w.B[i].id) (V.bool true)=tkO (yn cs w.B[i].id true) bs' clk':=hput
  rw[hput,yp]
  refine Qd ?_
  refine⟨(i+1,yn cs w.B[i].id true,bs',clk'),?_,⟨by dsimp only;omega,rfl,λid=>?_⟩,Qbh,⟨rfl,Tv⟩⟩
  ·show w.B.length-(i+1)<w.B.length-i
   omega
  ·dsimp only
   rw[C7,Fac hlt]
   by_cases e:id=w.B[i].id
   ·rw[if_pos e]
    exact⟨λ_=>⟨w.B[i],Fan.2 (.inr (Fb1.2 rfl)),e.symm⟩,λ_=>rfl⟩
   ·rw[if_neg e,htk id]
    constructor
    ·rintro⟨b,hb,h3⟩;exact⟨b,Fan.2 (.inl hb),h3⟩
    ·rintro⟨b,hb,h3⟩
     rcases Fan.1 hb with hb|hb
     ·exact⟨b,hb,h3⟩
     ·simp at hb;subst hb;exact absurd h3.symm e
 rintro⟨cs,bs,clk⟩ st' ⟨rfl,htk⟩
 dsimp only at htk⊢
 have hmo:(Store.empty.sO m (tkO cs bs clk)).obj m=some (tkO cs bs clk):=zd _ _ _
 have hhas:(Store.empty.sO m (tkO cs bs clk)).Has Store.empty:=Fk rfl
 refine AWp.meetA (σ:=Unit) ⟨λ_=>[(1,.bx 1 0)],λ_=>[(1,zt w)],λ_ st'=>st'=Store.empty.sO m (tkO cs bs clk)/\Gw w w.U.length⟩ ?_ ?_
 ·refine AWp.of_vc zb ?_
  refine AWp.loop (σ:=Nat) ⟨λi=>[(1,.bx 1 0),(3,.av (Rt m)),(27,.av (lst 10 zf w.U)),(28,.av (int (w.U.length:Nat))),(29,.av (int (i:Nat)))],λ_=>[(1,zt w)],
   λi st'=>i<=w.U.length/\st'=Store.empty.sO m (tkO cs bs clk)/\Gw w i,λi=>w.U.length-i⟩ zb ?_ ?_
  ·refine⟨0,Tv,⟨Fag _,rfl,λj _ hj=>by omega⟩,⟨Tq,Tq,Tq,?_,Tq,Tv⟩,⟨rfl,Tv⟩⟩
   rw[<-zn (f:=zf) w.U];exact Tq
  rintro i st' ⟨hi,rfl,hup⟩
  refine bcd (λh1=>?_) (λh1=>?_)
  rotate_left
  ·have:i=w.U.length:=by omega
   subst this
   exact⟨(),⟨rfl,hup⟩,⟨Tq,Tv⟩,⟨rfl,Tv⟩⟩
  have hlt:i<w.U.length:=by omega
  have nou:¬((jq w w.U[i]/\∀b∈w.B,b.id≠w.U[i].id)/\(0<i->(w.U[i-1]'(by omega)).id<w.U[i].id))->∃z,V.bool false=V.bool z/\(z=true↔z6 w):=λhq=>no λq=>hq (f0 q.1.2 (i+1) i hlt (by omega))
  refine⟨i,rfl,za _ (zm hlt) ?_⟩
  refine Qc zb zp2 ?_
  refine⟨yfy w w.U[i] hg _ _ (λz hz=>⟨Tv,?_⟩),Tv⟩
  refine yd ?_
  refine zh (λc2=>?_) (λc2=>⟨⟨Tv,ret (nou λq=>by have:=hz.2 q.1.1;rw[this]at c2;cases c2)⟩,Tv⟩)
  have hunt:=hz.1 c2
  refine⟨Aj rfl (it:=ti169) (ie:=ti4) (ik:=ti2) rfl rfl rfl rfl hmo rfl (qA w.U[i].id) (λe he=>by obtain⟨e,_,rfl⟩:=Fae.1 he;rfl) ?_,Tv⟩
  rw[Hd]
  have hcv:(Option.map V.bool (yw cs w.U[i].id)).getD (Cg ti4)=V.bool ((yw cs w.U[i].id).getD false):=by
   cases yw cs w.U[i].id<;>rfl
  rw[hcv]
  have htki:=htk w.U[i].id
  generalize(yw cs w.U[i].id).getD false=tk at htki
  refine⟨Tv,?_⟩
  refine zh (λc3=>ret (nou λq=>by obtain⟨b,hb,e⟩:=htki.1 c3;exact q.1.2 b hb e)) (λc3=>?_)
  have hnb:∀b∈w.B,b.id≠w.U[i].id:=λb hb e=>by have:=htki.2 ⟨b,hb,e⟩;rw[this]at c3;cases c3
  have next:(0<i->(w.U[i-1]'(by omega)).id<w.U[i].id)->Gw w (i+1):=λhq j hj hji=>by
   by_cases e:j=i
   ·subst e;exact⟨⟨hunt,hnb⟩,hq⟩
   ·exact hup j hj (by omega)
  have fin:Gw w (i+1)->yl ((i:Int)+1)/\(i+1<=w.U.length/\Store.empty.sO m (tkO cs bs clk)=Store.empty.sO m (tkO cs bs clk)/\Gw w (i+1)):=λhq=>⟨⟨by omega,by omega⟩,by omega,rfl,hq⟩
  refine bcd (λc4=>?_) (λc4=>?_)
  ·have hi0:0<i:=by omega
   refine Qd ?_
   refine⟨i-1,by omega,za _ (zm (show i-1<w.U.length by omega)) ?_⟩
   refine bcd (λc5=>ret (nou λq=>by have:=q.2 hi0;omega)) (λc5=>?_)
   obtain⟨f1,f2⟩:=fin (next λ_=>by omega)
   refine⟨f1,?_⟩
   refine⟨i+1,?_,f2,Qbh,⟨rfl,Tv⟩⟩
   show w.U.length-(i+1)<w.U.length-i
   omega
  ·obtain⟨f1,f2⟩:=fin (next λh0=>absurd h0 (by omega))
   refine⟨f1,?_⟩
   refine⟨i+1,?_,f2,Qbh,⟨rfl,Tv⟩⟩
   show w.U.length-(i+1)<w.U.length-i
   omega
 rintro _ _ ⟨rfl,hall⟩
 have hok:=f7 hall
 refine AWp.leS hhas.toLe ?_
 refine AWp.seq (AWp.of_vc zb ?_)
 refine zwv w (by omega) hn _ (λF s p L o0 o1 o2 hS hLl hL=>?_)
 have hLm:=hL hok.1
 refine AWp.meetA (σ:=Unit) ⟨λ_=>[(1,.bx 1 0)],λ_=>[(1,zt w)],λ_ st'=>∀u∈w.U,u.inn=0->qa w u.id u.kind u.pos⟩ ?_ ?_
 ·refine AWp.of_vc zb ?_
  refine AWp.loop (σ:=Nat×Store×AV×AV×AV) ⟨λx=>[(1,.bx 1 0),(8,.av (ptr s)),(64,.av (lst 10 zf w.U)),(65,.av (int (w.U.length:Nat))),(66,.av (int (x.1:Nat)))],λ_=>[(1,zt w)],
   λx st'=>x.1<=w.U.length/\st'=x.2.1.un (stS s w x.2.2.1 x.2.2.2.1 x.2.2.2.2 p)/\StandAt x.2.1 s p w L x.2.2.1 x.2.2.2.1 x.2.2.2.2/\∀j,(hj:j<w.U.length)->j<x.1->w.U[j].inn=0->qa w w.U[j].id w.U[j].kind w.U[j].pos,λx=>w.U.length-x.1⟩ zb ?_ ?_
  ·refine⟨(0,F,o0,o1,o2),Tv,⟨Fag _,rfl,hS,λj _ hj=>by omega⟩,⟨Tq,Tq,Tq,?_,Tq,Tv⟩,⟨rfl,Tv⟩⟩
   rw[<-zn (f:=zf) w.U];exact Tq
  rintro⟨i,F1,a0,a1,a2⟩ st' ⟨hi,rfl,hS1,hcl⟩
  dsimp only at hi hS1 hcl⊢
  refine bcd (λh1=>?_) (λh1=>?_)
  rotate_left
  ·have:i=w.U.length:=by omega
   subst this
   refine⟨(),λu hu h0=>?_,⟨Tq,Tv⟩,⟨rfl,Tv⟩⟩
   obtain⟨j,hj,rfl⟩:=Fak hu
   exact hcl j hj hj h0
  have hlt:i<w.U.length:=by omega
  have hui:=Faa hlt
  have next:(w.U[i].inn=0->qa w w.U[i].id w.U[i].kind w.U[i].pos)->∀j,(hj:j<w.U.length)->j<i+1->w.U[j].inn=0->qa w w.U[j].id w.U[j].kind w.U[j].pos:=λhq j hj hji=>by
   by_cases e:j=i
   ·subst e;exact hq
   ·exact hcl j hj (by omega)
  refine⟨i,rfl,za _ (zm hlt) ?_⟩
  refine zy (λc2=>?_) (λc2=>?_)
  ·refine zn7 hS1 hg (by omega) hbb hok.1 (by omega) hn hLl hLm w.U[i].id w.U[i].kind w.U[i].pos (hn _ hui) _ (λz F2 b0 b1 b2 hz hS2=>?_)
   refine yd ?_
   refine zh (λc3=>?_) (λc3=>ret (no λq=>by have:=hz.2 (q.2.1 _ hui c2);rw[this]at c3;cases c3))
   refine Qd ?_
   refine⟨(i+1,F2,b0,b1,b2),?_,⟨by dsimp only;omega,rfl,hS2,next λ_=>hz.1 c3⟩,Qbh,⟨rfl,Tv⟩⟩
   show w.U.length-(i+1)<w.U.length-i
   omega
  ·refine Qd ?_
   refine⟨(i+1,F1,a0,a1,a2),?_,⟨by dsimp only;omega,rfl,hS1,next λh0=>absurd h0 c2⟩,Qbh,⟨rfl,Tv⟩⟩
   show w.U.length-(i+1)<w.U.length-i
   omega
 rintro _ st' hclear
 refine AWp.of_vc zb ?_
 refine zua w (by omega) hok.1 _ _ (λz hz=>?_)
 refine ret ⟨z,rfl,?_⟩
 rw[hz]
 exact⟨λhq=>⟨⟨hh,hok⟩,hclear,hq⟩,λhq=>hq.2.2⟩
theorem Il{f:FuncId}{xs:List AV}{Q:AV->Prop}(key:Jb f xs Store.empty λr _=>Q r)(st:Store)(R:Ja)(h:∀r,Q r->R r st):Jb f xs st R:=by
 rw[<-wu st]
 refine ACalls.post (ACalls.frame (R':=λr st'=>Q r/\∃a',st'=a'.un st) (λb hb=>?_) key λr a' h1 _=>⟨h1,a',rfl⟩) (Store.Le.refl _) λr st' ⟨h1,a',h2⟩=>⟨r,st,Tt,h2▸zdi,?_⟩
 ·exact(hb.elim (λh=>h rfl) (λh=>h rfl):False).elim
 ·exact h r h1
theorem rl(w:Wld)(hw:w.fits)(hn:∀u∈w.U,u.pos.ok)(st:Store)(R:Ja)(h:∀z:Bool,(z=true↔z6 w)->R (V.bool z) st):Jb 72 [.agg (zt w)] st R:=
 Il (zye w hw hn) st R λr ⟨z,e,hz⟩=>e▸h z hz
theorem V2(w:Wld)(hU:w.U.length<=1000000)(id:Int)(st:Store)(R:Ja)(h:R (int (Ay (w.U.findIdx? λu=>decide (u.id=id)))) st):Jb 29 [.agg (zt w),int id] st R:=by
 refine Qa (c:=cfg 22) zb Tryz.func29 ?_
 refine AWp.loop (σ:=Nat) ⟨λi=>[(1,.av (int id)),(2,.bx 2 0),(5,.av (int (i:Nat)))],λ_=>[(2,zt w)],
  λi st'=>i<=w.U.length/\st'=st/\∀j,(hj:j<w.U.length)->j<i->w.U[j].id≠id,λi=>w.U.length-i⟩ zb ?_ ?_
 ·exact⟨0,Tv,⟨Fag _,rfl,λj _ hj=>by omega⟩,Qbh,⟨rfl,Tv⟩⟩
 rintro i st' ⟨hi,rfl,hall⟩
 refine zh (λh1=>?_) (λh1=>?_)
 rotate_left
 ·have:i=w.U.length:=qv h1 hi
  subst this
  have e:(w.U.findIdx? λu=>decide (u.id=id))=none:=by
   rw[Fbo]
   intro x hx
   obtain⟨j,hj,rfl⟩:=Fak hx
   exact decide_eq_false (hall j hj hj)
  rw[e]at h
  exact ret h
 have hlt:=qq h1
 refine⟨i,rfl,za _ (zm hlt) ?_⟩
 refine zy (λc1=>?_) (λc1=>?_)
 ·have e:(w.U.findIdx? λu=>decide (u.id=id))=some i:=by
   rw[Fbd]
   exact⟨hlt,decide_eq_true c1,λj hj=>by simpa using hall j (by omega) hj⟩
  rw[e]at h
  exact ret h
 ·refine Qd ?_
  refine⟨i+1,?_,⟨by omega,rfl,λj hj hj2=>?_⟩,Qbh,⟨rfl,Tv⟩⟩
  ·show w.U.length-(i+1)<w.U.length-i
   omega
  ·by_cases e:j=i
   ·subst e;exact c1
   ·exact hall j hj (by omega)
theorem si{l:List Unt}{i:Nat}(hi:i<l.length)(id:Int):z8 (l.take (i+1)) id=z8 (l.take i) id++(if l[i].inn=id then [l[i].id]else []):=by
 unfold z8
 rw[Fac hi,Fdn,Fbk]
 by_cases h:l[i].inn=id<;>simp[h]
theorem ztb(w:Wld)(hU:w.U.length<=1000000)(id:Int)(st:Store)(R:Ja)(h:R (qn (z8 w.U id)) st):Jb 57 [.agg (zt w),int id] st R:=by
 refine Qa (c:=cfg 32) zb Tryz.func57 ?_
 refine AWp.loop (σ:=Nat×AV) ⟨λx=>[(1,.av (int id)),(2,.bx 2 0),(5,.av x.2),(6,.av (int (x.1:Nat)))],λ_=>[(2,zt w)],
  λx st'=>x.1<=w.U.length/\App 1 st x.2 (rws yh (z8 (w.U.take x.1) id)) st',λx=>w.U.length-x.1⟩ zb ?_ ?_
 ·exact⟨(0,_),Tv,⟨Fag _,App.start 1 st⟩,⟨Tq,Tq,Tq,Tq,Tv⟩,⟨rfl,Tv⟩⟩
 rintro⟨i,v⟩ st' ⟨hi,ha⟩
 dsimp only at hi ha⊢
 refine zh (λh1=>?_) (λh1=>?_)
 rotate_left
 ·have:i=w.U.length:=qv h1 hi
  subst this
  rw[Fap]at ha
  exact⟨_,st,AV.le_trans ha.le (Tt),ha.has,h⟩
 have hlt:=qq h1
 have hs:=si hlt id
 have hl1:(z8 (w.U.take i) id).length<=1000000:=by
  have h1:=P0 (l:=w.U) i id
  have h2:(z8 w.U id).length<=w.U.length:=by unfold z8;rw[Fa4];exact Fcj _ _
  omega
 refine⟨i,rfl,za _ (zm hlt) ?_⟩
 refine zy (λc1=>?_) (λc1=>?_)
 ·rw[if_pos c1]at hs
  refine⟨i,rfl,za _ (zm hlt) ?_⟩
  refine⟨by decide,?_⟩
  refine Fu (ie:=ti2) (rows':=[yh w.U[i].id]) ha ?_ ?_ ⟨?_,?_⟩ (λv3 st3 ha3=>?_)
  ·rfl
  ·rfl
  ·simp only[zn,Fas,ti2];omega
  ·simp only[zn,Fas];omega
  refine Qd ?_
  refine⟨(i+1,v3),?_,⟨by dsimp only;omega,?_⟩,Qbh,⟨rfl,Tv⟩⟩
  ·show w.U.length-(i+1)<w.U.length-i
   omega
  ·dsimp only
   rw[hs]
   unfold rws
   rw[Fbk]
   exact ha3
 ·rw[if_neg c1,Fbv]at hs
  refine Qd ?_
  refine⟨(i+1,v),?_,⟨by dsimp only;omega,?_⟩,Qbh,⟨rfl,Tv⟩⟩
  ·show w.U.length-(i+1)<w.U.length-i
   omega
  ·dsimp only
   rw[hs]
   exact ha
theorem V7(w:Wld)(hg:zr w.G)(hB:w.B.length<=1000000000000)(hb:∀b∈w.B,yg b/\onP w.G b)(hU:w.U.length<=1000000)(hn:∀u∈w.U,u.pos.ok)(hk:∀u∈w.U,jv u.kind)(id k:Int)(hkk:jv k)(q:Vc)(hq:q.ok)(st:Store)(R:Ja)
  (h:∀z:Bool,(z=true↔qa w id k q)->R (V.bool z) st):Jb 56 [.agg (zt w),int id,int k,.agg (zo q)] st R:=by
 have no:¬qa w id k q->R (V.bool false) st:=λhh=>h false (by simp only[Fah,false_iff];exact hh)
 have hr:=Bl k
 have hplace:qa w id k q->qw q.1 q.2:=λhh=>by
  have h1:=hh.1.1
  have h2:=hg.1
  have h3:=hg.2.1
  unfold qw
  omega
 refine Qa (c:=cfg 79) zb Tryz.func56 ?_
 refine Bj k hkk _ _ ?_
 refine bcd (λc1=>ret (no λhh=>by have:=hplace hh;unfold qw at this;omega)) (λc1=>?_)
 refine bcd (λc2=>ret (no λhh=>by have:=hplace hh;unfold qw at this;omega)) (λc2=>?_)
 refine bcd (λc3=>ret (no λhh=>by have:=hplace hh;unfold qw at this;omega)) (λc3=>?_)
 refine bcd (λc4=>ret (no λhh=>by have:=hplace hh;unfold qw at this;omega)) (λc4=>?_)
 have e1:Int.negSucc 1099511627775=-1099511627776:=rfl
 refine zue w.G hg w.B hB hb (yf k) (Gd k) q (by unfold qw;omega) (zv k) ⟨hr.1,by omega⟩ _ _ (λz hz=>?_)
 refine yd ?_
 refine zh (λc5=>?_) (λc5=>ret (no λhh=>by have:=hz.2 hh.1;rw[this]at c5;cases c5))
 have hfree:=hz.1 c5
 refine AWp.loop (σ:=Nat) ⟨λi=>[(1,.av (int id)),(4,.bx 4 0),(7,.bx 7 0),(9,.bx 9 0),(10,.av (int (i:Nat)))],λ_=>[(4,zt w),(7,zo q),(9,Cb k)],
  λi st'=>i<=w.U.length/\st'=st/\∀j,(hj:j<w.U.length)->j<i->w.U[j].inn=0->w.U[j].id≠id->kx q (zv k) w.U[j].pos (zv w.U[j].kind)=true,λi=>w.U.length-i⟩ zb ?_ ?_
 ·exact⟨0,Tv,⟨Fag _,rfl,λj _ hj=>by omega⟩,Qbh,⟨rfl,rfl,rfl,Tv⟩⟩
 rintro i st' ⟨hi,rfl,hall⟩
 refine zh (λh1=>?_) (λh1=>?_)
 rotate_left
 ·have:i=w.U.length:=qv h1 hi
  subst this
  refine ret (h true (by
   simp only[true_iff]
   refine⟨hfree,λu hu h0 hne=>?_⟩
   obtain⟨j,hj,rfl⟩:=Fak hu
   exact hall j hj hj h0 hne))
 have hlt:=qq h1
 have hui:=Faa hlt
 have next:(w.U[i].inn=0->w.U[i].id≠id->kx q (zv k) w.U[i].pos (zv w.U[i].kind)=true)->∀j,(hj:j<w.U.length)->j<i+1->w.U[j].inn=0->w.U[j].id≠id->kx q (zv k) w.U[j].pos (zv w.U[j].kind)=true:=λhh j hj hji=>by
  by_cases e:j=i
  ·subst e;exact hh
  ·exact hall j hj (by omega)
 refine⟨i,rfl,za _ (zm hlt) ?_⟩
 refine Qc zb zqa ?_
 refine zy (λc6=>?_) (λc6=>?_)
 rotate_left
 ·refine Qbk ?_
  refine Qbl ?_
  refine Qd ?_
  refine⟨i+1,?_,⟨by omega,rfl,next λh0=>absurd h0 c6⟩,Qbh,⟨rfl,rfl,rfl,Tv⟩⟩
  show w.U.length-(i+1)<w.U.length-i
  omega
 refine qj (λc7=>?_) (λc7=>?_)
 rotate_left
 ·refine Qbk ?_
  refine Qbl ?_
  refine Qd ?_
  refine⟨i+1,?_,⟨by omega,rfl,next λ_ hne=>absurd c7 hne⟩,Qbh,⟨rfl,rfl,rfl,Tv⟩⟩
  show w.U.length-(i+1)<w.U.length-i
  omega
 have hr2:=Bl w.U[i].kind
 refine⟨Bj w.U[i].kind (hk _ hui) _ _ ⟨Qe,?_⟩,Tv⟩
 refine⟨zvi q (zv k) w.U[i].pos (zv w.U[i].kind) hq (hn _ hui) ⟨hr.1,by omega⟩ ⟨hr2.1,by omega⟩ _ _ ⟨Tv,?_⟩,Tv⟩
 refine yd ?_
 refine zh (λc8=>?_) (λc8=>ret (no λhh=>by have:=hh.2 _ hui c6 c7;rw[this]at c8;cases c8))
 refine Qd ?_
 refine⟨i+1,?_,⟨by omega,rfl,next λ_ _=>c8⟩,Qbh,⟨rfl,rfl,rfl,Tv⟩⟩
 show w.U.length-(i+1)<w.U.length-i
 omega
theorem stOf{s g:Int}:(!((s==1)==(g !=-1)))=false↔(s=1↔g≠-1):=by
 by_cases h1:s=1<;>by_cases h2:g=-1<;>simp[bne,zbc,h1,h2]
theorem zy0(k:Int)(st:Store)(R:Ja)(h:∀z a b c d e,(z=true↔jv k)->R (.tup [.agg [int a,int b,int c,int d,int e],V.bool z]) st):Jb 61 [int k] st R:=
 r9 k st R (λhk=>h true _ _ _ _ _ (by simp only[true_iff];exact hk)) (λhk=>h false 0 0 0 0 0 (by simp only[Fah,false_iff];exact hk))
theorem zuc(w:Wld)(hw:w.fits)(st:Store)(R:Ja)(h:∀z:Bool,(z=true↔Hh w/\H4 w)->R (V.bool z) st):Jb 55 [.agg (zt w)] st R:=by
 obtain⟨hw1,hw2,hw3⟩:=hw
 have no:¬(Hh w/\H4 w)->R (V.bool false) st:=λhh=>h false (by simp only[Fah,false_iff];exact hh)
 refine Qa (c:=cfg 218) zb Tryz.func55 ?_
 refine zw7 w.tick 1099511627776 _ _ (λz hz=>?_)
 refine yd ?_
 refine zh (λc0=>?_) (λc0=>ret (no λq=>by have:=hz.2 q.1.1.1;rw[this]at c0;cases c0))
 have htick:=hz.1 c0
 refine bcd (λc1=>ret (no λq=>by have:=q.1.1;omega)) (λc1=>?_)
 refine bcd (λc2=>ret (no λq=>by have:=q.1.1;omega)) (λc2=>?_)
 refine bcd (λc3=>ret (no λq=>by have:=q.1.1;omega)) (λc3=>?_)
 refine bcd (λc4=>ret (no λq=>by have:=q.1.1;omega)) (λc4=>?_)
 refine zu5 w.G hw1 w.B hw2 _ _ (λz hz=>?_)
 refine yd ?_
 refine zh (λc5=>?_) (λc5=>ret (no λq=>by have:=hz.2 ⟨q.1.2.1.1,q.1.2.1.2.1⟩;rw[this]at c5;cases c5))
 obtain⟨hg,hbl⟩:=hz.1 c5
 have hBl:w.B.length<=256:=hbl.1
 have hUl:((rws zf w.U).length:Int)=(w.U.length:Int):=by rw[zn]
 refine bcd (λc6=>ret (no λq=>by have:=q.1.2.1.2.2;omega)) (λc6=>?_)
 refine AWp.loop (σ:=Nat) ⟨λi=>[(1,.bx 1 0),(3,.av (int (i:Nat)))],λ_=>[(1,zt w)],
  λi st'=>i<=w.B.length/\st'=st/\∀j,(hj:j<w.B.length)->j<i->w.B[j].owner<=w.players/\w.B[j].id<w.next,λi=>w.B.length-i⟩ zb ?_ ?_
 ·exact⟨0,Tv,⟨Fag _,rfl,λj _ hj=>by omega⟩,⟨Tq,Tq,Tv⟩,⟨rfl,Tv⟩⟩
 rintro i st' ⟨hi,rfl,hall⟩
 refine zh (λh1=>?_) (λh1=>?_)
 ·have hlt:=qq h1
  refine Qc zb zqb ?_
  refine⟨i,rfl,za _ (zm hlt) ?_⟩
  refine bcd (λc7=>ret (no λq=>by have:=q.1.2.2 _ (Faa hlt);omega)) (λc7=>?_)
  refine⟨i,rfl,za _ (zm hlt) ?_⟩
  refine bcd (λc8=>ret (no λq=>by have:=q.1.2.2 _ (Faa hlt);omega)) (λc8=>?_)
  refine Qd ?_
  refine⟨i+1,?_,⟨by omega,rfl,λj hj hji=>?_⟩,⟨Tq,Tq,Tv⟩,⟨rfl,Tv⟩⟩
  ·show w.B.length-(i+1)<w.B.length-i
   omega
  ·by_cases e:j=i
   ·subst e;omega
   ·exact hall j hj (by omega)
 have hie:i=w.B.length:=qv h1 hi
 subst hie
 have hhead:Hh w:=⟨⟨htick,by omega⟩,⟨hg,hbl,by omega⟩,λb hb=>by
  obtain⟨j,hj,rfl⟩:=Fak hb
  exact hall j hj hj⟩
 refine AWp.loop (σ:=Nat) ⟨λi=>[(1,.bx 1 0),(4,.av (int (i:Nat)))],λ_=>[(1,zt w)],
  λi st2=>i<=w.U.length/\st2=st'/\Gw w i,λi=>w.U.length-i⟩ zb ?_ ?_
 ·exact⟨0,Tv,⟨Fag _,rfl,λj _ hj=>by omega⟩,⟨Tq,Tq,Tv⟩,⟨rfl,Tv⟩⟩
 rintro i st2 ⟨hi,rfl,hup⟩
 refine zh (λh2=>?_) (λh2=>?_)
 rotate_left
 ·have:i=w.U.length:=qv h2 hi
  subst this
  exact ret (h true (by simp only[true_iff];exact⟨hhead,f7 hup⟩))
 have hlt:=qq h2
 have nou:¬((jq w w.U[i]/\∀b∈w.B,b.id≠w.U[i].id)/\(0<i->(w.U[i-1]'(by omega)).id<w.U[i].id))->R (V.bool false) st2:=λhq=>no λq=>hq (f0 q.2 (i+1) i hlt (by omega))
 refine⟨i,rfl,za _ (zm hlt) ?_⟩
 refine zy0 w.U[i].kind _ _ (λkz ka kb kc kd ke hk=>?_)
 refine Qc zb zqd ?_
 have skip2:∀{p q:Prop},¬((jq w w.U[i]/\∀b∈w.B,b.id≠w.U[i].id)/\(0<i->(w.U[i-1]'(by omega)).id<w.U[i].id))->∃r st',AV.le (V.bool false) r/\st2.Has st'/\R r st':=λhq=>ret (nou hq)
 refine bcd (λc7=>⟨⟨Tv,⟨⟨Tv,ret (nou λq=>by have:=q.1.1.1;omega)⟩,Tv⟩⟩,Tv⟩) (λc7=>?_)
 refine bcd (λc8=>⟨⟨Tv,⟨⟨Tv,ret (nou λq=>by have:=q.1.1.1;omega)⟩,Tv⟩⟩,Tv⟩) (λc8=>?_)
 refine bcd (λc9=>?_) (λc9=>?_)
 refine Qd ?_
 refine⟨i-1,by omega,za _ (zm (show i-1<w.U.length by omega)) ?_⟩
 refine bcd (λc9b=>⟨⟨Tv,⟨⟨Tv,ret (nou λq=>by have:=q.2 (by omega);omega)⟩,Tv⟩⟩,Tv⟩) (λc9b=>?_)
 have hrise:0<i->(w.U[i-1]'(by omega)).id<w.U[i].id:=λ_=>by omega
 rotate_left
 have hrise:0<i->(w.U[i-1]'(by omega)).id<w.U[i].id:=λh0=>absurd h0 (by omega)
 all_goals
  refine bcd (λc10=>⟨⟨Tv,⟨⟨Tv,ret (nou λq=>by have:=q.1.1.1.2.1;omega)⟩,Tv⟩⟩,Tv⟩) (λc10=>?_)
  refine bcd (λc11=>⟨⟨Tv,⟨⟨Tv,ret (nou λq=>by have:=q.1.1.1.2.1;omega)⟩,Tv⟩⟩,Tv⟩) (λc11=>?_)
  refine yd ?_
  refine zh (λck=>?_) (λck=>⟨⟨Tv,⟨⟨Tv,ret (nou λq=>by have:=hk.2 q.1.1.1.2.2;rw[this]at ck;cases ck)⟩,Tv⟩⟩,Tv⟩)
  have hkind:=hk.1 ck
  refine qj (λc12=>?_) (λc12=>?_)
  refine⟨Mb w.G w.U[i].goal hg _ _ (λz1 hz1=>⟨Tv,?_⟩),Tv⟩
  refine yd ?_
  refine zh (λc12b=>?_) (λc12b=>⟨⟨Tv,ret (nou λq=>by have:=q.1.1.2.1.1;unfold wg at this;have:=hz1.2 (this.resolve_left c12);rw[this]at c12b;cases c12b)⟩,Tv⟩)
  have ht1:wg w.G w.U[i].goal:=.inr (hz1.1 c12b)
  rotate_left
  refine Qbl ?_
  have ht1:wg w.G w.U[i].goal:=.inl c12
  all_goals
   refine qj (λc13=>?_) (λc13=>?_)
   refine⟨Mb w.G w.U[i].next hg _ _ (λz2 hz2=>⟨Tv,?_⟩),Tv⟩
   refine yd ?_
   refine zh (λc14=>?_) (λc14=>ret (nou λq=>by have:=q.1.1.2.1.2.1;unfold wg at this;have:=hz2.2 (this.resolve_left c13);rw[this]at c14;cases c14))
   have ht2:wg w.G w.U[i].next:=.inr (hz2.1 c14)
   rotate_left
   refine Qbl ?_
   have ht2:wg w.G w.U[i].next:=.inl c13
   all_goals
    refine bcd (λd1=>ret (nou λq=>by have:=q.1.1.2.1.2.2;omega)) (λd1=>?_)
    refine bcd (λd2=>ret (nou λq=>by have:=q.1.1.2.1.2.2;omega)) (λd2=>?_)
    refine bcd (λd3=>ret (nou λq=>by have:=q.1.1.2.2.1.1;omega)) (λd3=>?_)
    refine bcd (λd4=>ret (nou λq=>by have:=q.1.1.2.2.1.1;omega)) (λd4=>?_)
    refine zh (λd5=>ret (nou λq=>by have:=stOf.2 q.1.1.2.2.1.2;rw[this]at d5;cases d5)) (λd5=>?_)
    have hst:=stOf.1 d5
    have go:(w.U[i].goal=-1->w.U[i].next=-1/\w.U[i].stuck=0)->jq w w.U[i]:=λhq=>⟨⟨by omega,by omega,hkind⟩,⟨ht1,ht2,by omega⟩,⟨by omega,hst⟩,hq⟩
    refine zy (λd6=>?_) (λd6=>?_)
    refine qj (λd7=>ret (nou λq=>d7 (q.1.1.2.2.2 d6).1)) (λd7=>?_)
    refine qj (λd8=>ret (nou λq=>d8 (q.1.1.2.2.2 d6).2)) (λd8=>?_)
    have hunt:=go λ_=>⟨d7,d8⟩
    rotate_left
    have hunt:=go λe=>absurd e d6
    all_goals
     refine AWp.loop (σ:=Nat) ⟨λk=>[(1,.bx 1 0),(4,.av (int (i:Nat))),(5,.bx 5 0),(8,.av (int (k:Nat)))],λ_=>[(1,zt w),(5,zf w.U[i])],
      λk st3=>k<=w.B.length/\st3=st2/\∀j,(hj:j<w.B.length)->j<k->w.B[j].id≠w.U[i].id,λk=>w.B.length-k⟩ zb ?_ ?_
     ·exact⟨0,Tv,⟨Fag _,rfl,λj _ hj=>by omega⟩,Qbh,⟨rfl,rfl,Tv⟩⟩
     rintro k st3 ⟨hk3,rfl,hne⟩
     refine zh (λe1=>?_) (λe1=>?_)
     ·have hkl:=qq e1
      refine Qc zb zqc ?_
      refine⟨k,rfl,za _ (zm hkl) ?_⟩
      refine zy (λe2=>ret (nou λq=>q.1.2 _ (Faa hkl) e2)) (λe2=>?_)
      refine Qd ?_
      refine⟨k+1,?_,⟨by omega,rfl,λj hj hjk=>?_⟩,Qbh,⟨rfl,rfl,Tv⟩⟩
      ·show w.B.length-(k+1)<w.B.length-k
       omega
      ·by_cases e:j=k
       ·subst e;exact e2
       ·exact hne j hj (by omega)
     have hke:k=w.B.length:=qv e1 hk3
     subst hke
     refine Qd ?_
     refine⟨i+1,?_,⟨by omega,rfl,λj hj hji=>?_⟩,⟨Tq,Tq,Tv⟩,⟨rfl,Tv⟩⟩
     ·show w.U.length-(i+1)<w.U.length-i
      omega
     ·by_cases e:j=i
      ·subst e
       refine⟨⟨hunt,λb hb=>?_⟩,hrise⟩
       obtain⟨m,hm,rfl⟩:=Fak hb
       exact hne m hm hm
      ·exact hup j hj (by omega)
theorem F7(w:Wld)(hw:w.fits)(hn:∀u∈w.U,u.pos.ok)(st:Store)(R:Ja)(h:∀z:Bool,(z=true↔z6 w)->R (V.bool z) st):Jb 20 [.agg (zt w)] st R:=by
 have no:¬z6 w->R (V.bool false) st:=λhh=>h false (by simp only[Fah,false_iff];exact hh)
 refine Qa (c:=cfg 98) zb Tryz.func20 ?_
 refine zuc w hw _ _ (λz hz=>?_)
 refine yd ?_
 refine zh (λc1=>?_) (λc1=>ret (no λq=>by have:=hz.2 q.1;rw[this]at c1;cases c1))
 obtain⟨hh,hok⟩:=hz.1 c1
 have hg:=hh.2.1.1
 have hbl:=hh.2.1.2.1
 have hBl:w.B.length<=256:=hbl.1
 have hU:w.U.length<=4096:=hh.2.1.2.2
 have hbb:∀b∈w.B,yg b/\onP w.G b:=λb hb=>⟨(hbl.2.2.1 b hb).1,(hbl.2.2.1 b hb).2.1⟩
 have hkk:∀u∈w.U,jv u.kind:=λu hu=>(hok.2 u hu).1.1.2.2
 refine AWp.loop (σ:=Nat) ⟨λi=>[(1,.bx 1 0),(3,.av (int (i:Nat)))],λ_=>[(1,zt w)],
  λi st'=>i<=w.U.length/\st'=st/\∀j,(hj:j<w.U.length)->j<i->(w.U[j].inn=0->qa w w.U[j].id w.U[j].kind w.U[j].pos)/\(w.U[j].inn≠0->Aq w w.U[j]),λi=>w.U.length-i⟩ zb ?_ ?_
 ·exact⟨0,Tv,⟨Fag _,rfl,λj _ hj=>by omega⟩,⟨Tq,Tq,Tv⟩,⟨rfl,Tv⟩⟩
 rintro i st' ⟨hi,rfl,hall⟩
 refine zh (λh1=>?_) (λh1=>?_)
 rotate_left
 ·have:i=w.U.length:=qv h1 hi
  subst this
  refine ret (h true (by
   simp only[true_iff]
   refine⟨⟨hh,hok⟩,λu hu h0=>?_,λu hu h0=>?_⟩
   ·obtain⟨j,hj,rfl⟩:=Fak hu
    exact(hall j hj hj).1 h0
   ·obtain⟨j,hj,rfl⟩:=Fak hu
    exact(hall j hj hj).2 h0))
 have hlt:=qq h1
 have hui:=Faa hlt
 have next:((w.U[i].inn=0->qa w w.U[i].id w.U[i].kind w.U[i].pos)/\(w.U[i].inn≠0->Aq w w.U[i]))->∀j,(hj:j<w.U.length)->j<i+1->(w.U[j].inn=0->qa w w.U[j].id w.U[j].kind w.U[j].pos)/\(w.U[j].inn≠0->Aq w w.U[j]):=λhq j hj hji=>by
  by_cases e:j=i
  ·subst e;exact hq
  ·exact hall j hj (by omega)
 refine⟨i,rfl,za _ (zm hlt) ?_⟩
 refine zy (λc2=>?_) (λc2=>?_)
 ·refine V7 w hg (by omega) hbb (by omega) hn hkk w.U[i].id w.U[i].kind (hkk _ hui) w.U[i].pos (hn _ hui) _ _ (λz hz=>?_)
  refine yd ?_
  refine zh (λc3=>?_) (λc3=>ret (no λq=>by have:=hz.2 (q.2.1 _ hui c2);rw[this]at c3;cases c3))
  refine Qd ?_
  refine⟨i+1,?_,⟨by omega,rfl,next ⟨λ_=>hz.1 c3,λhne=>absurd c2 hne⟩⟩,⟨Tq,Tq,Tv⟩,⟨rfl,Tv⟩⟩
  show w.U.length-(i+1)<w.U.length-i
  omega
 have nou:¬Aq w w.U[i]->R (V.bool false) st':=λhq=>no λq=>hq (q.2.2 _ hui c2)
 refine V2 w (by omega) w.U[i].inn _ _ ?_
 cases hf:w.U.findIdx? λu=>decide (u.id=w.U[i].inn)with
 |none=>
  have hno:¬Aq w w.U[i]:=λ⟨x,hx,e,_⟩=>by
   rw[Fbo]at hf
   have:=hf x hx
   rw[decide_eq_false_iff_not]at this
   exact this e
  refine Qc zb l4 ?_
  exact⟨⟨Qe,⟨⟨Qe,⟨⟨Qe,ret (nou hno)⟩,Tv⟩⟩,Tv⟩⟩,Tv⟩
 |some k=>
  rw[Fbd]at hf
  obtain⟨hkl,hkid,_⟩:=hf
  have hkid:=of_decide_eq_true hkid
  have uniq:Aq w w.U[i]->(w.U[k].inn=0/\w.U[k].owner=w.U[i].owner)/\((z8 w.U w.U[i].inn).length:Int)<=jg w.U[k].kind:=λ⟨x,hx,e,e2,e3,_⟩=>by
   have:=G6 hok.1 hx (Faa hkl) (by rw[e,hkid])
   subst this
   exact⟨e2,e3⟩
  refine Qc zb l4 ?_
  refine⟨k,rfl,za _ (zm hkl) ?_⟩
  refine qj (λc4=>⟨⟨Qe,⟨⟨Qe,⟨⟨Qe,ret (nou (λq=>c4 (uniq q).1.1))⟩,Tv⟩⟩,Tv⟩⟩,Tv⟩) (λc4=>?_)
  refine⟨k,rfl,za _ (zm hkl) ?_⟩
  refine qj (λc5=>⟨⟨Qe,⟨⟨Qe,⟨⟨Qe,ret (nou (λq=>c5 (uniq q).1.2))⟩,Tv⟩⟩,Tv⟩⟩,Tv⟩) (λc5=>?_)
  refine⟨Bj w.U[i].kind (hkk _ hui) _ _ ⟨Qe,?_⟩,Tv⟩
  refine bcd (λc6=>⟨⟨Qe,⟨⟨Qe,ret (nou (λ⟨x,_,_,_,_,e,_⟩=>by omega))⟩,Tv⟩⟩,Tv⟩) (λc6=>?_)
  have hroom:jg w.U[i].kind=0:=by have:=Na w.U[i].kind;omega
  refine⟨k,rfl,za _ (zm hkl) ?_⟩
  refine⟨ztb w (by omega) w.U[i].inn _ _ ⟨?_,?_⟩,Tv⟩
  ·repeat(first|exact Tv|refine⟨rfl,?_⟩|refine⟨⟨k,rfl,za _ (zm hkl) rfl⟩,?_⟩)
  refine⟨Bj w.U[k].kind (hkk _ (Faa hkl)) _ _ ⟨?_,?_⟩,Tv⟩
  ·repeat(first|exact Tv|refine⟨rfl,?_⟩)
  have hrl:((rws yh (z8 w.U w.U[i].inn)).length:Int)=((z8 w.U w.U[i].inn).length:Int):=by rw[zn]
  refine bcd (λc7=>ret (nou λq=>by have:=(uniq q).2;omega)) (λc7=>?_)
  refine yd ?_
  refine zh (λc8=>?_) (λc8=>ret (nou λ⟨x,_,_,_,_,_,e,_⟩=>by rw[e]at c8;cases c8))
  have hpos:w.U[i].pos=(0,0):=by
   have:(w.U[i].pos.1==0&&(w.U[i].pos.2==0&&true))=true:=c8
   simp at this
   exact Prod.ext this.1 this.2
  refine qj (λc9=>ret (nou λ⟨x,_,_,_,_,_,_,e,_⟩=>c9 e)) (λc9=>?_)
  refine qj (λc10=>ret (nou λ⟨x,_,_,_,_,_,_,_,e⟩=>c10 e)) (λc10=>?_)
  refine Qd ?_
  refine⟨i+1,?_,⟨by omega,rfl,next ⟨λh0=>absurd h0 c2,λ_=>⟨w.U[k],Faa hkl,hkid,⟨c4,c5⟩,by omega,hroom,hpos,c9,c10⟩⟩⟩,⟨Tq,Tq,Tv⟩,⟨rfl,Tv⟩⟩
  show w.U.length-(i+1)<w.U.length-i
  omega
theorem ydr(l:List UInt8)(hl:l.length<=1000000000000)(st:Store)(R:Ja)(h:R (lst 1 u8C l) st):Jb 85 [lst 1 u8C l] st R:=by
 refine Qa (c:=cfg 19) zb Tryz.func85 ?_
 refine AWp.loop (σ:=Nat×AV) ⟨λs=>[(0,.av (lst 1 u8C l)),(3,.av s.2),(4,.av (int s.1))],λ_=>[],λs st'=>s.1<=l.length/\App 1 st s.2 (rws u8C (l.take s.1)) st',λs=>l.length-s.1⟩ zb ?_ ?_
 ·exact⟨(0,_),Tv,⟨Fag _,App.start 1 st⟩,⟨Tq,Tq,Tq,Tv⟩,Tv⟩
 ·rintro⟨i,v⟩ st' ⟨hi,ha⟩
  simp only at hi
  refine zh (λh1=>?_) (λh1=>?_)
  ·have hlt:i<l.length:=qq h1
   refine⟨i,rfl,za _ (zm hlt) ?_⟩
   refine⟨by decide,?_⟩
   refine Fu (ie:=ti5) (rows':=[u8C l[i]]) ha ?_ ?_ ⟨?_,?_⟩ (λv2 st2 ha2=>?_)
   ·rfl
   ·rfl
   ·simp[zn,ti5];omega
   ·simp[zn];omega
   ·refine⟨⟨by omega,by omega⟩,?_⟩
    refine⟨(i+1,v2),?_,⟨hlt,?_⟩,Qbh,Tv⟩
    ·show l.length-(i+1)<l.length-i
     omega
    ·rw[<-Vv hlt];exact ha2
  ·have hge:i=l.length:=qv h1 hi
   subst hge
   refine⟨_,st,AV.le_trans ha.le ?_,ha.has,h⟩
   rw[Fap]
   exact Tt
theorem cw(l:List Bld)(hl:l.length<=1000000000000)(st:Store)(R:Ja)(h:R (lst 6 zk l) st):Jb 41 [lst 6 zk l] st R:=by
 refine Qa (c:=cfg 19) zb Tryz.func41 ?_
 refine AWp.loop (σ:=Nat×AV) ⟨λs=>[(0,.av (lst 6 zk l)),(3,.av s.2),(4,.av (int s.1))],λ_=>[],λs st'=>s.1<=l.length/\App 6 st s.2 (rws zk (l.take s.1)) st',λs=>l.length-s.1⟩ zb ?_ ?_
 ·exact⟨(0,_),Tv,⟨Fag _,App.start 6 st⟩,⟨Tq,Tq,Tq,Tv⟩,Tv⟩
 ·rintro⟨i,v⟩ st' ⟨hi,ha⟩
  simp only at hi
  refine zh (λh1=>?_) (λh1=>?_)
  ·have hlt:i<l.length:=qq h1
   refine⟨i,rfl,za _ (zm hlt) ?_⟩
   refine⟨by decide,?_⟩
   refine Fu (ie:=ti144) (rows':=[zk l[i]]) ha ?_ ?_ ⟨?_,?_⟩ (λv2 st2 ha2=>?_)
   ·rfl
   ·rfl
   ·simp[zn,ti144];omega
   ·simp[zn];omega
   ·refine⟨⟨by omega,by omega⟩,?_⟩
    refine⟨(i+1,v2),?_,⟨hlt,?_⟩,Qbh,Tv⟩
    ·show l.length-(i+1)<l.length-i
     omega
    ·rw[<-Vv hlt];exact ha2
  ·have hge:i=l.length:=qv h1 hi
   subst hge
   refine⟨_,st,AV.le_trans ha.le ?_,ha.has,h⟩
   rw[Fap]
   exact Tt
theorem ydn(l:List Unt)(hl:l.length<=1000000000000)(st:Store)(R:Ja)(h:R (lst 10 zf l) st):Jb 42 [lst 10 zf l] st R:=by
 refine Qa (c:=cfg 19) zb Tryz.func42 ?_
 refine AWp.loop (σ:=Nat×AV) ⟨λs=>[(0,.av (lst 10 zf l)),(3,.av s.2),(4,.av (int s.1))],λ_=>[],λs st'=>s.1<=l.length/\App 10 st s.2 (rws zf (l.take s.1)) st',λs=>l.length-s.1⟩ zb ?_ ?_
 ·exact⟨(0,_),Tv,⟨Fag _,App.start 10 st⟩,⟨Tq,Tq,Tq,Tv⟩,Tv⟩
 ·rintro⟨i,v⟩ st' ⟨hi,ha⟩
  simp only at hi
  refine zh (λh1=>?_) (λh1=>?_)
  ·have hlt:i<l.length:=qq h1
   refine⟨i,rfl,za _ (zm hlt) ?_⟩
   refine⟨by decide,?_⟩
   refine Fu (ie:=ti50) (rows':=[zf l[i]]) ha ?_ ?_ ⟨?_,?_⟩ (λv2 st2 ha2=>?_)
   ·rfl
   ·rfl
   ·simp[zn,ti50];omega
   ·simp[zn];omega
   ·refine⟨⟨by omega,by omega⟩,?_⟩
    refine⟨(i+1,v2),?_,⟨hlt,?_⟩,Qbh,Tv⟩
    ·show l.length-(i+1)<l.length-i
     omega
    ·rw[<-Vv hlt];exact ha2
  ·have hge:i=l.length:=qv h1 hi
   subst hge
   refine⟨_,st,AV.le_trans ha.le ?_,ha.has,h⟩
   rw[Fap]
   exact Tt
theorem cu(g:Gnd)(hg:g.fits)(st:Store)(R:Ja)(h:R (.agg (zp g)) st):Jb 40 [.agg (zp g)] st R:=by
 refine Qa (c:=cfg 10) zb Tryz.func40 ?_
 refine ydr g.T hg _ _ ?_
 exact ret h
theorem zak(w:Wld)(hw:w.fits)(st:Store)(R:Ja)(h:R (.agg (zt w)) st):Jb 13 [.agg (zt w)] st R:=by
 refine Qa (c:=cfg 18) zb Tryz.func13 ?_
 refine cu w.G hw.1 _ _ ?_
 refine cw w.B hw.2.1 _ _ ?_
 refine ydn w.U hw.2.2 _ _ ?_
 exact ret h
theorem ycg(a b:List UInt8)(ha:a.length<=1000000000000)(st:Store)(R:Ja)(h:R (bool (decide (a=b))) st):Jb 90 [lst 1 u8C a,lst 1 u8C b] st R:=by
 refine Qa (c:=cfg 26) zb Tryz.func90 ?_
 refine zh (λh1=>?_) (λh1=>?_)
 ·have:a≠b:=λh2=>Pp h1 (by rw[h2])
  rw[show decide (a=b)=false by simp[this]]at h
  exact⟨_,st,Tt,Store.Has.refl st,h⟩
 ·have hl:a.length=b.length:=Ll h1
  refine AWp.loop (σ:=Nat) ⟨λi=>[(0,.av (lst 1 u8C a)),(1,.av (lst 1 u8C b)),(5,.av (int i))],λ_=>[],λi st'=>i<=a.length/\a.take i=b.take i/\st'=st,λi=>a.length-i⟩ zb ?_ ?_
  ·exact⟨0,Tv,⟨Fag _,rfl,rfl⟩,Qbh,Tv⟩
  ·rintro i st' ⟨hi,heq,hst⟩
   refine zh (λh2=>?_) (λh2=>?_)
   ·have hlt:i<a.length:=qq h2
    have hltb:i<b.length:=by omega
    refine Qc zb zo2 ?_
    refine⟨i,rfl,za _ (zm hlt) ?_⟩
    refine⟨i,rfl,za _ (zm hltb) ?_⟩
    refine zh (λh3=>?_) (λh3=>?_)
    ·have hne:a[i]≠b[i]:=by
      intro h4
      rw[h4]at h3
      simp at h3
     have:a≠b:=by
      intro h4
      subst h4
      exact hne rfl
     rw[show decide (a=b)=false by simp[this]]at h
     subst hst
     exact⟨_,st',Tt,Store.Has.refl st',h⟩
    ·refine⟨⟨by omega,by omega⟩,?_⟩
     refine⟨i+1,?_,⟨hlt,?_,hst⟩,Qbh,Tv⟩
     ·show a.length-(i+1)<a.length-i
      omega
     ·rw[Fac hlt,Fac hltb,heq]
      have:a[i]=b[i]:=UInt8.toNat_inj.1 (by have:=h3;simp at this;omega)
      rw[this]
   ·have hge:i=a.length:=qv h2 hi
    subst hge hst
    have:a=b:=by
     rw[Fap,hl,Fap]at heq
     exact heq
    rw[show decide (a=b)=true by simp[this]]at h
    exact⟨_,st',Tt,Store.Has.refl st',h⟩
theorem ych(a b:List Bld)(ha:a.length<=1000000000000)(st:Store)(R:Ja)(h:R (bool (decide (a=b))) st):Jb 46 [lst 6 zk a,lst 6 zk b] st R:=by
 refine Qa (c:=cfg 26) zb Tryz.func46 ?_
 refine zh (λh1=>?_) (λh1=>?_)
 ·have:a≠b:=λh2=>Pp h1 (by rw[h2])
  rw[show decide (a=b)=false by simp[this]]at h
  exact⟨_,st,Tt,Store.Has.refl st,h⟩
 ·have hl:a.length=b.length:=Ll h1
  refine AWp.loop (σ:=Nat) ⟨λi=>[(0,.av (lst 6 zk a)),(1,.av (lst 6 zk b)),(5,.av (int i))],λ_=>[],λi st'=>i<=a.length/\a.take i=b.take i/\st'=st,λi=>a.length-i⟩ zb ?_ ?_
  ·exact⟨0,Tv,⟨Fag _,rfl,rfl⟩,Qbh,Tv⟩
  ·rintro i st' ⟨hi,heq,hst⟩
   refine zh (λh2=>?_) (λh2=>?_)
   ·have hlt:i<a.length:=qq h2
    have hltb:i<b.length:=by omega
    refine Qc zb zqj ?_
    refine⟨i,rfl,za _ (zm hlt) ?_⟩
    refine⟨i,rfl,za _ (zm hltb) ?_⟩
    refine zh (λh3=>?_) (λh3=>?_)
    ·have hne:a[i]≠b[i]:=by
      intro h4
      rw[h4]at h3
      simp at h3
     have:a≠b:=by
      intro h4
      subst h4
      exact hne rfl
     rw[show decide (a=b)=false by simp[this]]at h
     subst hst
     exact⟨_,st',Tt,Store.Has.refl st',h⟩
    ·refine⟨⟨by omega,by omega⟩,?_⟩
     refine⟨i+1,?_,⟨hlt,?_,hst⟩,Qbh,Tv⟩
     ·show a.length-(i+1)<a.length-i
      omega
     ·rw[Fac hlt,Fac hltb,heq]
      have:a[i]=b[i]:=by cases hx:a[i];cases hy:b[i];rw[hx,hy]at h3;simp at h3;simp[h3]
      rw[this]
   ·have hge:i=a.length:=qv h2 hi
    subst hge hst
    have:a=b:=by
     rw[Fap,hl,Fap]at heq
     exact heq
    rw[show decide (a=b)=true by simp[this]]at h
    exact⟨_,st',Tt,Store.Has.refl st',h⟩
theorem yca(a b:List Unt)(ha:a.length<=1000000000000)(st:Store)(R:Ja)(h:R (bool (decide (a=b))) st):Jb 47 [lst 10 zf a,lst 10 zf b] st R:=by
 refine Qa (c:=cfg 26) zb Tryz.func47 ?_
 refine zh (λh1=>?_) (λh1=>?_)
 ·have:a≠b:=λh2=>Pp h1 (by rw[h2])
  rw[show decide (a=b)=false by simp[this]]at h
  exact⟨_,st,Tt,Store.Has.refl st,h⟩
 ·have hl:a.length=b.length:=Ll h1
  refine AWp.loop (σ:=Nat) ⟨λi=>[(0,.av (lst 10 zf a)),(1,.av (lst 10 zf b)),(5,.av (int i))],λ_=>[],λi st'=>i<=a.length/\a.take i=b.take i/\st'=st,λi=>a.length-i⟩ zb ?_ ?_
  ·exact⟨0,Tv,⟨Fag _,rfl,rfl⟩,Qbh,Tv⟩
  ·rintro i st' ⟨hi,heq,hst⟩
   refine zh (λh2=>?_) (λh2=>?_)
   ·have hlt:i<a.length:=qq h2
    have hltb:i<b.length:=by omega
    refine Qc zb zqi ?_
    refine⟨i,rfl,za _ (zm hlt) ?_⟩
    refine⟨i,rfl,za _ (zm hltb) ?_⟩
    refine zh (λh3=>?_) (λh3=>?_)
    ·have hne:a[i]≠b[i]:=by
      intro h4
      rw[h4]at h3
      simp at h3
     have:a≠b:=by
      intro h4
      subst h4
      exact hne rfl
     rw[show decide (a=b)=false by simp[this]]at h
     subst hst
     exact⟨_,st',Tt,Store.Has.refl st',h⟩
    ·refine⟨⟨by omega,by omega⟩,?_⟩
     refine⟨i+1,?_,⟨hlt,?_,hst⟩,Qbh,Tv⟩
     ·show a.length-(i+1)<a.length-i
      omega
     ·rw[Fac hlt,Fac hltb,heq]
      have:a[i]=b[i]:=by cases hx:a[i];cases hy:b[i];rw[hx,hy]at h3;simp at h3;simp[h3,Prod.ext_iff]
      rw[this]
   ·have hge:i=a.length:=qv h2 hi
    subst hge hst
    have:a=b:=by
     rw[Fap,hl,Fap]at heq
     exact heq
    rw[show decide (a=b)=true by simp[this]]at h
    exact⟨_,st',Tt,Store.Has.refl st',h⟩
theorem ycf(a b:Gnd)(ha:a.fits)(st:Store)(R:Ja)(h:R (V.bool (decide (a=b))) st):Jb 45 [.agg (zp a),.agg (zp b)] st R:=by
 refine Qa (c:=cfg 24) zb Tryz.func45 ?_
 refine zh (λh1=>?_) (λh1=>⟨_,st,Tt,Store.Has.refl st,isF h (decide_eq_false λe=>by subst e;simp at h1)⟩)
 refine zh (λh2=>?_) (λh1=>⟨_,st,Tt,Store.Has.refl st,isF h (decide_eq_false λe=>by subst e;simp at h1)⟩)
 refine ycg a.T b.T ha _ _ ?_
 refine⟨_,st,Tt,Store.Has.refl st,?_⟩
 have e:decide (a.T=b.T)=decide (a=b):=by
  rw[Fbq]
  simp only[beq_iff_eq,decide_eq_true_eq]at*
  constructor
  ·intro h9
   cases a;cases b
   simp_all
  ·rintro rfl
   rfl
 rw[<-e]at h
 exact h
theorem yb9(w:Wld)(hw:w.fits)(st:Store)(R:Ja)(h:R (V.bool true) st):Jb 17 [.agg (zt w),.agg (zt w)] st R:=by
 refine Qa (c:=cfg 45) zb Tryz.func17 ?_
 refine zy (λh1=>?_) (λh1=>absurd rfl h1)
 refine zy (λh2=>?_) (λh1=>absurd rfl h1)
 refine zy (λh3=>?_) (λh1=>absurd rfl h1)
 refine ycf w.G w.G hw.1 _ _ ?_
 rw[show decide (w.G=w.G)=true by simp]
 refine ych w.B w.B hw.2.1 _ _ ?_
 rw[show decide (w.B=w.B)=true by simp]
 refine yca w.U w.U hw.2.2 _ _ ?_
 rw[show decide (w.U=w.U)=true by simp]
 exact ret h
theorem I5(u:Bld):(zk u).length=6:=rfl
theorem dp(b:Bld):∀y∈zk b,∃x,y=AV.s x/\xa x=true:=by
 intro y hy
 simp[zk]at hy
 rcases hy with rfl|rfl|rfl|rfl|rfl|rfl<;>exact⟨_,rfl,rfl⟩
theorem Sx(c:UInt8):(u8C c).length=1:=rfl
theorem gm(c:UInt8):∀y∈u8C c,∃x,y=AV.s x/\xa x=true:=by
 intro y hy
 simp[u8C]at hy
 exact⟨_,hy,rfl⟩
theorem I2(st:Store):zl Store.empty st:=λb hb=>(hb.elim (λh=>h rfl) (λh=>h rfl):False).elim
theorem co(st:Store):zl Store.empty st:=λb hb=>(hb.elim (λh=>h rfl) (λh=>h rfl):False).elim
theorem yd0(l:List UInt8)(hl:l.length<=1000000000)(st:Store)(R:Ja)(h:∀v N,RowsQ 1 u8C N v l->zl N st->R v (N.un st)):Jb 171 [xu l] st R:=by
 refine Qa (c:=cfg 8) zb Tryz.func171 ?_
 intro b hb
 cases b with
 |true=>
  have:l=[]:=by
   have:=congrArg List.length (hb rfl)
   rw[zn]at this
   exact Faw this
  subst this
  have:=h (.s (.slice none 0 0)) Store.empty (.inl (.inl ⟨rfl,rfl⟩)) (co st)
  rw[wu]at this
  exact ret this
 |false=>
  refine⟨by decide,?_⟩
  exact ef (ie:=ti5) rfl Sx (by decide) hl (λv N hv hd=>ret (h v N hv hd))
theorem zan(l:List Bld)(hl:l.length<=1000000000)(st:Store)(R:Ja)(h:∀v N,RowsQ 6 zk N v l->zl N st->R v (N.un st)):Jb 117 [lst 6 zk l] st R:=by
 refine Qa (c:=cfg 8) zb Tryz.func117 ?_
 intro b hb
 cases b with
 |true=>
  have:l=[]:=by
   have:=congrArg List.length (hb rfl)
   rw[zn]at this
   exact Faw this
  subst this
  have:=h (.s (.slice none 0 0)) Store.empty (.inl (.inl ⟨rfl,rfl⟩)) (co st)
  rw[wu]at this
  exact ret this
 |false=>
  refine⟨by decide,?_⟩
  exact ef (ie:=ti144) rfl I5 (by decide) hl (λv N hv hd=>ret (h v N hv hd))
theorem ydz(l:List Unt)(hl:l.length<=1000000000)(st:Store)(R:Ja)(h:∀v N,RowsQ 10 zf N v l->zl N st->R v (N.un st)):Jb 118 [lst 10 zf l] st R:=by
 refine Qa (c:=cfg 8) zb Tryz.func118 ?_
 intro b hb
 cases b with
 |true=>
  have:l=[]:=by
   have:=congrArg List.length (hb rfl)
   rw[zn]at this
   exact Faw this
  subst this
  have:=h (.s (.slice none 0 0)) Store.empty (.inl (.inl ⟨rfl,rfl⟩)) (co st)
  rw[wu]at this
  exact ret this
 |false=>
  refine⟨by decide,?_⟩
  exact ef (ie:=ti50) rfl yo (by decide) hl (λv N hv hd=>ret (h v N hv hd))
theorem te(g:Gnd)(hg:g.T.length<=1000000000)(st:Store)(R:Ja)(h:∀v N,RowsQ 1 u8C N v g.T->zl N st->R (.agg [int g.W,int g.H,v]) (N.un st)):Jb 116 [.agg (zp g)] st R:=by
 refine Qa (c:=cfg 8) zb Tryz.func116 ?_
 refine yd0 g.T hg _ _ (λv N hv hd=>?_)
 obtain⟨oa,cap,hv2,_⟩:=hv.form
 subst hv2
 exact ret (h _ N hv hd)
def ep(w:Wld)(vT vB vU:AV):List AV:=[int w.tick,int w.players,int w.next,int w.G.W,int w.G.H,vT,vB,vU]
structure OwnQ(S:Store)(w:Wld)(vT vB vU:AV)(NT NB NU:Store):Prop where
 e:S=NU.un (NB.un NT)
 rT:RowsQ 1 u8C NT vT w.G.T
 rB:RowsQ 6 zk NB vB w.B
 rU:RowsQ 10 zf NU vU w.U
 dB:zl NB NT
 dU:zl NU (NB.un NT)
theorem zwm(w:Wld)(hT:w.G.T.length<=1000000000)(hB:w.B.length<=1000000000)(hU:w.U.length<=1000000000)(R:Ja)
  (h:∀S vT vB vU NT NB NU,OwnQ S w vT vB vU NT NB NU->R (.agg (ep w vT vB vU)) S):Jb 74 [.agg (zt w)] Store.empty R:=by
 refine Qa (c:=cfg 16) zb Tryz.func74 ?_
 refine Qc zb zp1 ?_
 refine⟨te w.G hT _ _ (λvT NT rT _=>⟨Qe,?_⟩),Tv⟩
 rw[Al]
 refine⟨zan w.B hB _ _ (λvB NB rB dB=>⟨Qe,?_⟩),Tv⟩
 refine⟨ydz w.U hU _ _ (λvU NU rU dU=>⟨Qe,?_⟩),Tv⟩
 have ho:OwnQ (NU.un (NB.un NT)) w vT vB vU NT NB NU:=⟨rfl,rT,rB,rU,dB,dU⟩
 obtain⟨_,_,e1,_⟩:=rT.form
 obtain⟨_,_,e2,_⟩:=rB.form
 obtain⟨_,_,e3,_⟩:=rU.form
 subst e1 e2 e3
 refine Qbk ?_
 refine Qbk ?_
 refine Qbk ?_
 exact ret (h _ _ _ _ _ _ _ ho)
theorem zwn{S NT NB NU:Store}{w:Wld}{vT vB vU:AV}(h:OwnQ S w vT vB vU NT NB NU):RowsQ 1 u8C S vT w.G.T/\RowsQ 6 zk S vB w.B/\RowsQ 10 zf S vU w.U:=by
 have h1:=h.rT
 have h2:=h.rB.unL h.dB
 rw[h.e]
 exact⟨(h1.un (a:=NB)).un,h2.un,h.rU.unL h.dU⟩
theorem Ih{a b:Store}{i:Nat}(h:(a.un b).obj i=none):a.obj i=none/\b.obj i=none:=by
 unfold Store.un at h
 dsimp only at h
 cases hb:b.obj i with
 |none=>rw[hb]at h;exact⟨h,rfl⟩
 |some y=>rw[hb]at h;cases h
theorem og(w:Wld)(hT:w.G.T.length<=1000000000)(hB:w.B.length<=1000000000)(hU:w.U.length<=1000000000)(R:Ja)
  (h:∀v N,RowsQ 10 zf N v w.U->R (.agg (zw w v)) N):Jb 74 [.agg (zt w)] Store.empty R:=by
 refine(zwm w hT hB hU (λr S=>∃vT vB vU NT NB NU,OwnQ S w vT vB vU NT NB NU/\r=.agg (ep w vT vB vU)) λS vT vB vU NT NB NU ho=>⟨vT,vB,vU,NT,NB,NU,ho,rfl⟩).frozenTo ?_
 rintro r S ⟨vT,vB,vU,NT,NB,NU,ho,rfl⟩
 have hk:∃N2:Store,RowsQ 10 zf N2 vU w.U/\(∀b x,N2.obj b=some x->NU.obj b=some x)/\(∀b x,N2.tok b≠some x):=by
  refine⟨⟨NU.obj,λ_=>none⟩,ho.rU.sub λ_ _ _ _=>rfl,λb x hx=>hx,λb x=>by simp⟩
 obtain⟨N2,hN,hsub,htok⟩:=hk
 refine⟨.agg (zw w vU),N2,h vU N2 hN,λb x hx=>?_,htok,λOth M W v sto hx=>?_⟩
 ·rw[ho.e]
  exact yr ho.dU (hsub b x hx)
 ·obtain⟨rT,rB,rU⟩:=zwn ho
  cases hx with
  |agg _ c hl hc=>
   have mono1:∀{x:AV} {v:Value},VRel W (λb o=>M b o\/Oth b o) x v->VRel W (λb o=>(M b o\/Oth b o)/\(S.obj b=none\/N2.obj b≠none)) x v:=λh=>h.mono λ_ _ h=>h.1
   have mono2:∀{x:AV} {v:Value} {Z:Store},(∀b,N2.obj b≠none->Z.obj b=none)->(∀b,S.obj b=none->Z.obj b=none)->VRel W (λb o=>(M b o\/Oth b o)/\Z.obj b=none) x v->VRel W (λb o=>(M b o\/Oth b o)/\(S.obj b=none\/N2.obj b≠none)) x v:=λhz1 hz2 h=>h.mono λb _ h=>⟨h.1,h.2.elim (hz2 b) (hz1 b)⟩
   have hS:∀b,S.obj b=none->NU.obj b=none/\NB.obj b=none/\NT.obj b=none:=λb hb=>by
    rw[ho.e]at hb
    obtain⟨h1,h2⟩:=Ih hb
    exact⟨h1,(Ih h2).1,(Ih h2).2⟩
   have hN2:∀b,N2.obj b≠none->NB.obj b=none/\NT.obj b=none:=λb hb=>by
    cases hx:N2.obj b with
    |none=>exact absurd hx hb
    |some y=>
     have h1:=ji (hsub b y hx)
     have h2:=vx (ho.dU b h1)
     exact⟨(Ih h2.1).1,(Ih h2.1).2⟩
   have sNB:StoreOK NB Oth M W:=sto.weaken ⟨λb x hx=>by rw[ho.e];exact zg (yr ho.dB hx),λb x hx=>by rw[ho.e];exact Gx (Kg ho.dB hx)⟩
   have sNT:StoreOK NT Oth M W:=sto.weaken ⟨λb x hx=>by rw[ho.e];exact zg (zg hx),λb x hx=>by rw[ho.e];exact Gx (Gx hx)⟩
   refine .agg _ c hl λi x y hx hy=>?_
   match i with
   |0=>simp only[zw,Far,Fal]at hx;subst hx;exact mono1 (hc 0 _ y rfl hy)
   |1=>simp only[zw,Faz,Far,Fal]at hx;subst hx;exact mono1 (hc 1 _ y rfl hy)
   |2=>simp only[zw,Faz,Far,Fal]at hx;subst hx;exact mono1 (hc 2 _ y rfl hy)
   |3=>simp only[zw,Faz,Far,Fal]at hx;subst hx;exact mono1 (hc 3 _ y rfl hy)
   |4=>simp only[zw,Faz,Far,Fal]at hx;subst hx;exact mono1 (hc 4 _ y rfl hy)
   |5=>simp only[zw,Faz,Far,Fal]at hx;subst hx;exact mono2 (λb hb=>(hN2 b hb).2) (λb hb=>(hS b hb).2.2) (ho.rT.borrow Sx gm sNT (hc 5 _ y rfl hy))
   |6=>simp only[zw,Faz,Far,Fal]at hx;subst hx;exact mono2 (λb hb=>(hN2 b hb).1) (λb hb=>(hS b hb).2.1) (ho.rB.borrow I5 dp sNB (hc 6 _ y rfl hy))
   |7=>simp only[zw,Faz,Far,Fal]at hx;subst hx;exact mono1 (hc 7 _ y rfl hy)
   |i+8=>simp[zw]at hx
theorem bf(st:Store):st.Has Store.empty:=⟨λb x h=>(by cases h),λb x h=>(by cases h)⟩
theorem Qae{p:Prop}(h:p:=by unfold qw;simp at h1⊢;omega):p:=h
theorem ycd(a b:List Int)(ha:a.length<=1000000000000)(st:Store)(R:Ja)(h:R (bool (decide (a=b))) st):Jb 174 [lst 1 yh a,lst 1 yh b] st R:=by
 refine Qa (c:=cfg 26) zb Tryz.func174 ?_
 refine zh (λh1=>?_) (λh1=>?_)
 ·have:a≠b:=λh2=>Pp h1 (by rw[h2])
  rw[show decide (a=b)=false by simp[this]]at h
  exact⟨_,st,Tt,Store.Has.refl st,h⟩
 ·have hl:a.length=b.length:=Ll h1
  refine AWp.loop (σ:=Nat) ⟨λi=>[(0,.av (lst 1 yh a)),(1,.av (lst 1 yh b)),(5,.av (int i))],λ_=>[],λi st'=>i<=a.length/\a.take i=b.take i/\st'=st,λi=>a.length-i⟩ zb ?_ ?_
  ·exact⟨0,Tv,⟨Fag _,rfl,rfl⟩,Qbh,Tv⟩
  ·rintro i st' ⟨hi,heq,hst⟩
   refine zh (λh2=>?_) (λh2=>?_)
   ·have hlt:i<a.length:=qq h2
    have hltb:i<b.length:=by omega
    refine Qc zb zrq ?_
    refine⟨i,rfl,za _ (zm hlt) ?_⟩
    refine⟨i,rfl,za _ (zm hltb) ?_⟩
    refine zh (λh3=>?_) (λh3=>?_)
    ·have hne:a[i]≠b[i]:=by
      intro h4
      rw[h4]at h3
      simp at h3
     have:a≠b:=by
      intro h4
      subst h4
      exact hne rfl
     rw[show decide (a=b)=false by simp[this]]at h
     subst hst
     exact⟨_,st',Tt,Store.Has.refl st',h⟩
    ·refine⟨⟨by omega,by omega⟩,?_⟩
     refine⟨i+1,?_,⟨hlt,?_,hst⟩,Qbh,Tv⟩
     ·show a.length-(i+1)<a.length-i
      omega
     ·rw[Fac hlt,Fac hltb,heq]
      have:a[i]=b[i]:=by simpa using h3
      rw[this]
   ·have hge:i=a.length:=qv h2 hi
    subst hge hst
    have:a=b:=by
     rw[Fap,hl,Fap]at heq
     exact heq
    rw[show decide (a=b)=true by simp[this]]at h
    exact⟨_,st',Tt,Store.Has.refl st',h⟩
theorem Iz(a b:Cmd)(ha:a.fits)(st:Store)(R:Ja)(h:R (bool (decide (a=b))) st):Jb 123 [.agg (qi a),.agg (qi b)] st R:=by
 refine Qa (c:=cfg 66) zb Tryz.func123 ?_
 refine zh (λh1=>?_) (λh1=>⟨_,st,Tt,Store.Has.refl st,isF h (decide_eq_false λe=>by subst e;simp at h1)⟩)
 refine zh (λh2=>?_) (λh1=>⟨_,st,Tt,Store.Has.refl st,isF h (decide_eq_false λe=>by subst e;simp at h1)⟩)
 refine zh (λh3=>?_) (λh1=>⟨_,st,Tt,Store.Has.refl st,isF h (decide_eq_false λe=>by subst e;simp at h1)⟩)
 refine zh (λh4=>?_) (λh1=>⟨_,st,Tt,Store.Has.refl st,isF h (decide_eq_false λe=>by subst e;simp at h1)⟩)
 refine ycd a.U b.U ha _ _ ?_
 refine zh (λh5=>?_) (λh1=>⟨_,st,Tt,Store.Has.refl st,isF h (decide_eq_false λe=>by subst e;simp at h1)⟩)
 refine zh (λh6=>?_) (λh1=>⟨_,st,Tt,Store.Has.refl st,isF h (decide_eq_false λe=>by subst e;simp at h1)⟩)
 refine zh (λh7=>?_) (λh1=>⟨_,st,Tt,Store.Has.refl st,isF h (decide_eq_false λe=>by subst e;simp at h1)⟩)
 refine zh (λh8=>?_) (λh1=>⟨_,st,Tt,Store.Has.refl st,isF h (decide_eq_false λe=>by subst e;simp at h1)⟩)
 refine⟨_,st,Tt,Store.Has.refl st,?_⟩
 have e:(a.X==b.X&&(a.Y==b.Y&&true))=decide (a=b):=by
  rw[Fbq]
  simp only[beq_iff_eq,decide_eq_true_eq,Fav,and_true]at*
  constructor
  ·rintro⟨h9,h10⟩
   cases a;cases b
   simp_all
  ·rintro rfl
   exact⟨rfl,rfl⟩
 rw[<-e]at h
 exact h
theorem o9(n hi:Int)(st:Store)(R:Ja)(h:∀b:Bool,(b=true↔0<=n/\n<=hi)->R (bool b) st):Jb 94 [int n,int hi] st R:=by
 refine Qa (c:=cfg 12) zb Tryz.func94 ?_
 refine zh (λh1=>?_) (λh1=>⟨_,st,Tt,Store.Has.refl st,h _ ?_⟩)
 ·refine⟨_,st,Tt,Store.Has.refl st,h _ ?_⟩
  simp at h1⊢;omega
 ·simp at h1⊢;omega
theorem Vf(n:Int)(st:Store)(R:Ja)(h:∀b:Bool,(b=true↔Cn n)->R (bool b) st):Jb 121 [int n] st R:=by
 refine Qa (c:=cfg 9) zb Tryz.func121 ?_
 refine zh (λh1=>?_) (λh1=>⟨_,st,Tt,Store.Has.refl st,h _ ?_⟩)
 ·refine⟨_,st,Tt,Store.Has.refl st,h _ ?_⟩
  unfold Cn
  simp at h1⊢;omega
 ·unfold Cn
  simp at h1⊢;omega
theorem bc(n:Int)(st:Store)(R:Ja)(h:∀b:Bool,(b=true↔idP n)->R (bool b) st):Jb 122 [int n] st R:=by
 refine Qa (c:=cfg 9) zb Tryz.func122 ?_
 refine zh (λh1=>?_) (λh1=>⟨_,st,Tt,Store.Has.refl st,h _ ?_⟩)
 ·refine⟨_,st,Tt,Store.Has.refl st,h _ ?_⟩
  unfold idP
  simp at h1⊢;omega
 ·unfold idP
  simp at h1⊢;omega
theorem zwi(x y:Int)(st:Store)(R:Ja)(h:∀b:Bool,(b=true↔qw x y)->R (bool b) st):Jb 119 [.agg [int x,int y],int 0] st R:=by
 refine Qa (c:=cfg 31) zb Tryz.func119 ?_
 refine zh (λh1=>?_) (λh1=>⟨_,st,Tt,Store.Has.refl st,h _ Qae⟩)
 refine zh (λh2=>?_) (λh1=>⟨_,st,Tt,Store.Has.refl st,h _ Qae⟩)
 refine zh (λh3=>?_) (λh1=>⟨_,st,Tt,Store.Has.refl st,h _ Qae⟩)
 refine⟨_,st,Tt,Store.Has.refl st,h _ ?_⟩
 unfold qw
 simp at h1 h2 h3⊢;omega
theorem zt5(l:List Int)(hl:l.length<=1000000000000)(st:Store)(R:Ja)(h:∀b:Bool,(b=true↔∀j,j<l.length->0<j->l.getD (j-1) 0<l.getD j 0)->R (bool b) st):Jb 172 [qn l] st R:=by
 refine Qa (c:=cfg 20) zb Tryz.func172 ?_
 refine AWp.loop (σ:=Nat) ⟨λi=>[(0,.av (qn l)),(3,.av (int (i:Nat)))],λ_=>[],
  λi st'=>1<=i/\(i<=l.length\/i=1)/\st'=st/\∀j,j<i->0<j->l.getD (j-1) 0<l.getD j 0,λi=>l.length-i⟩ zb ?_ ?_
 ·exact⟨1,Tv,⟨Faj _,.inr rfl,rfl,λj hj=>by omega⟩,⟨Tq,Tq,Tv⟩,Tv⟩
 ·rintro i st' ⟨hi1,hi,rfl,hall⟩
  refine zh (λh1=>?_) (λh1=>?_)
  ·have hlt:i<l.length:=qq h1
   have hget:l.getD i 0=l[i]:=by simp[hlt]
   have hget1:l.getD (i-1) 0=l[i-1]:=by simp[show i-1<l.length by omega]
   refine Qc zb zrr ?_
   refine⟨i,rfl,za _ (zm hlt) ?_⟩
   refine⟨⟨by omega,by omega⟩,?_⟩
   refine⟨i-1,by omega,za _ (zm (show i-1<l.length by omega)) ?_⟩
   refine zh (λh2=>⟨_,st',Tt,Store.Has.refl st',h _ ?_⟩) (λh2=>?_)
   ·simp only[Fah,false_iff]
    intro h3
    have:=h3 i hlt (by omega)
    rw[hget,hget1]at this
    simp at h2
    omega
   ·refine⟨⟨by omega,by omega⟩,?_⟩
    refine⟨i+1,?_,⟨by omega,.inl hlt,rfl,λj hj h0=>?_⟩,⟨Tq,Tq,Tv⟩,Tv⟩
    ·show l.length-(i+1)<l.length-i
     omega
    ·by_cases hji:j=i
     ·subst hji
      rw[hget,hget1]
      simp at h2
      omega
     ·exact hall j (by omega) h0
  ·have hge:¬i<l.length:=by
    rw[zn]at h1
    simpa using h1
   refine⟨_,st',Tt,Store.Has.refl st',h _ ?_⟩
   simp only[true_iff]
   intro j hj h0
   exact hall j (by omega) h0
theorem ye0(l:List Int)(lo hi:Int)(hl:l.length<=1000000000000)(st:Store)(R:Ja)(h:∀b:Bool,(b=true↔∀j,j<l.length->lo<=l.getD j 0/\l.getD j 0<=hi)->R (bool b) st):Jb 173 [qn l,int lo,int hi] st R:=by
 refine Qa (c:=cfg 28) zb Tryz.func173 ?_
 refine AWp.loop (σ:=Nat) ⟨λi=>[(0,.av (qn l)),(1,.av (int lo)),(2,.av (int hi)),(7,.av (int (i:Nat)))],λ_=>[],
  λi st'=>i<=l.length/\st'=st/\∀j,j<i->lo<=l.getD j 0/\l.getD j 0<=hi,λi=>l.length-i⟩ zb ?_ ?_
 ·exact⟨0,Tv,⟨Fag _,rfl,λj hj=>by omega⟩,Qbh,Tv⟩
 ·rintro i st' ⟨hi1,rfl,hall⟩
  refine zh (λh1=>?_) (λh1=>?_)
  ·have hlt:i<l.length:=qq h1
   have hget:l.getD i 0=l[i]:=by simp[hlt]
   refine⟨i,rfl,za _ (zm hlt) ?_⟩
   have bad:¬(lo<=l.getD i 0/\l.getD i 0<=hi)->∀b:Bool,b=false->(b=true↔∀j,j<l.length->lo<=l.getD j 0/\l.getD j 0<=hi):=by
    rintro hb _ rfl
    simp only[Fah,false_iff]
    exact λhu=>hb (hu i hlt)
   refine zh (λh2=>⟨_,st',Tt,Store.Has.refl st',h _ (bad (by rw[hget];simp at h2;omega) _ rfl)⟩) (λh2=>?_)
   refine⟨i,rfl,za _ (zm hlt) ?_⟩
   refine zh (λh3=>⟨_,st',Tt,Store.Has.refl st',h _ (bad (by rw[hget];simp at h3;omega) _ rfl)⟩) (λh3=>?_)
   refine⟨⟨by omega,by omega⟩,?_⟩
   refine⟨i+1,?_,⟨hlt,rfl,λj hj=>?_⟩,Qbh,Tv⟩
   ·show l.length-(i+1)<l.length-i
    omega
   ·by_cases hji:j=i
    ·subst hji
     rw[hget]
     simp at h2 h3
     omega
    ·exact hall j (by omega)
  ·have hge:i=l.length:=qv h1 hi1
   subst hge
   refine⟨_,st',Tt,Store.Has.refl st',h _ ?_⟩
   simp only[true_iff]
   exact hall
theorem ba(l:List Int)(hl:l.length<=1000000000000)(st:Store)(R:Ja)(h:∀b:Bool,(b=true↔Ck l)->R (bool b) st):Jb 120 [qn l] st R:=by
 refine Qa (c:=cfg 19) zb Tryz.func120 ?_
 refine zh (λh1=>?_) (λh1=>⟨_,st,Tt,Store.Has.refl st,h _ (by unfold Ck;rw[zn]at h1;simp at h1⊢;omega)⟩)
 refine zh (λh2=>?_) (λh2=>⟨_,st,Tt,Store.Has.refl st,h _ (by unfold Ck;rw[zn]at h2;simp at h2⊢;omega)⟩)
 rw[zn]at h1 h2
 simp at h1 h2
 refine zt5 l hl _ _ (λb hb=>?_)
 refine zh (λh3=>?_) (λh3=>⟨_,st,Tt,Store.Has.refl st,h _ ?_⟩)
 ·refine ye0 l 1 1099511627776 hl _ _ (λb2 hb2=>?_)
  refine⟨_,st,Tt,Store.Has.refl st,h _ ?_⟩
  rw[hb2]
  unfold Ck
  constructor
  ·intro h4
   exact⟨by omega,λj hj=>⟨h4 j hj,hb.1 h3 j hj⟩⟩
  ·intro h4 j hj
   exact(h4.2 j hj).1
 ·simp only[Fah,false_iff]
  intro h4
  have:=hb.2 λj hj h0=>(h4.2 j hj).2 h0
  rw[h3]at this
  cases this
end Go.Proofs
namespace Go.Proofs
open Go Go.V
set_option maxRecDepth 20000
set_option maxHeartbeats 4000000
theorem zwy{c:Cmd}(hc:c.fits):c.only.fits:=by
 unfold Cmd.fits at*
 unfold Cmd.only
 repeat' split
 all_goals first|exact hc|simp
theorem Hr(c:Cmd)(hc:c.fits)(st:Store)(R:Ja)(h:∀b:Bool,(b=true↔j8 c)->R (bool b) st):Jb 76 [.agg (qi c)] st R:=by
 refine Qb (c:=cfg 168) zb Tryz.func76 ?_
 have no:¬j8 c->R (bool false) st:=λhn=>h false (by simpa using hn)
 have fit:∀{o},c.only=o->c.only.fits:=λ_=>zwy hc
 refine AWp.seq (AWp.of_vc zb ?_)
 refine AWp.seq (AWp.of_vc zb ?_)
 refine AWp.meet (σ:=Bool) ⟨λb=>[(1,.bx 1 0),(3,.bx 3 0),(4,.av (bool b))],λ_=>[(1,qi c),(3,[int c.P,int c.S,int c.K,int 0,nil,int 0,int 0,int 0,int 0,int 0])],
  λb st'=>st'=st/\(b=true↔(1<=c.P/\c.P<=8)/\(0<=c.S/\c.S<=1099511627776))⟩ zb ?_ ?_
 ·refine zh (λh1=>?_) (λh1=>⟨_,⟨rfl,?_⟩,⟨Tq,Tq,Tq,Tv⟩,Qe⟩)
  ·refine zh (λh2=>?_) (λh2=>⟨_,⟨rfl,?_⟩,⟨Tq,Tq,Tq,Tv⟩,Qe⟩)
   ·refine o9 c.S 1099511627776 _ _ (λb hb=>⟨_,⟨rfl,?_⟩,⟨Tq,Tq,Tq,Tv⟩,Qe⟩)
    rw[hb]
    simp at h1 h2
    omega
   ·simp at h2⊢;omega
  ·simp at h1⊢;omega
 rintro b st' ⟨rfl,hb⟩
 refine AWp.of_vc zb ?_
 cases b with
 |false=>
  have nb:¬j8 c:=λhp=>by
   have:=hb.2 ⟨hp.2.1,hp.2.2.1⟩
   cases this
  have rf:=no nb
  refine zh (λk1=>?_) (λk1=>?_)
  ·refine Qc zb lu ?_
   refine Qbk ?_
   refine Qbl ?_
   exact⟨_,st',Tt,Store.Has.refl st',rf⟩
  refine zh (λk2=>?_) (λk2=>?_)
  ·refine Qc zb ls ?_
   refine Qbk ?_
   refine Qbl ?_
   exact⟨_,st',Tt,Store.Has.refl st',rf⟩
  refine zh (λk3=>?_) (λk3=>?_)
  ·exact⟨_,st',Tt,Store.Has.refl st',rf⟩
  refine zh (λk4=>?_) (λk4=>?_)
  ·refine Qc zb lx ?_
   refine Qbk ?_
   refine Qbk ?_
   refine Qbl ?_
   exact⟨_,st',Tt,Store.Has.refl st',rf⟩
  refine zh (λk5=>?_) (λk5=>?_)
  ·exact⟨_,st',Tt,Store.Has.refl st',rf⟩
  refine zh (λk6=>?_) (λk6=>?_)
  ·refine Qc zb lw ?_
   refine Qbk ?_
   refine Qbl ?_
   exact⟨_,st',Tt,Store.Has.refl st',rf⟩
  refine zh (λk7=>?_) (λk7=>?_)
  ·refine Qc zb lv ?_
   refine Qbk ?_
   refine Qbl ?_
   exact⟨_,st',Tt,Store.Has.refl st',rf⟩
  exact⟨_,st',Tt,Store.Has.refl st',rf⟩
 |true=>
 obtain⟨hP,hS⟩:=hb.1 rfl
 refine zh (λk1=>?_) (λk1=>?_)
 ·have k1:c.K=1:=by simpa using k1
  have fin:=λb=>h b
  refine Qc zb lu ?_
  refine Qbk ?_
  refine Qbl ?_
  have ok:=Cmd.ok1 k1
  have on:=Cmd.only1 k1
  refine o9 c.N 3 _ _ (λb0 hb0=>?_)
  cases b0 with
  |false=>exact⟨_,st',Tt,Store.Has.refl st',no (λhp=>by have:=hb0.2 (ok.1 hp.1).1;cases this)⟩
  |true=>
   refine zwi c.X c.Y _ _ (λb1 hb1=>?_)
   cases b1 with
   |false=>exact⟨_,st',Tt,Store.Has.refl st',no (λhp=>by have:=hb1.2 (ok.1 hp.1).2;cases this)⟩
   |true=>
    have okp:c.okP:=ok.2 ⟨hb0.1 rfl,hb1.1 rfl⟩
    have e2:=Iz c.only c (fit on) st'
    rw[on]at e2
    refine ACalls.le ?_ (e2 _ ?_)
    ·exact⟨AV.le_aggL ⟨Tt,Tt,Tt,Tt,AV.le_nil 1,Tt,Tt,Tt,Tt,Tt,Tv⟩,Tt,Tv⟩
    rw[<-on]
    refine⟨_,st',Tt,Store.Has.refl st',h _ ?_⟩
    rw[decide_eq_true_iff]
    exact⟨λe=>⟨okp,hP,hS,e⟩,λhp=>hp.2.2.2⟩
 have k1:c.K≠1:=by simpa using k1
 refine zh (λk2=>?_) (λk2=>?_)
 ·have k2:c.K=2:=by simpa using k2
  have fin:=λb=>h b
  refine Qc zb ls ?_
  refine Qbk ?_
  refine Qbl ?_
  have ok:=Cmd.ok2 k2
  have on:=Cmd.only2 k2
  refine ba c.U hc _ _ (λb0 hb0=>?_)
  cases b0 with
  |false=>exact⟨_,st',Tt,Store.Has.refl st',no (λhp=>by have:=hb0.2 (ok.1 hp.1).1;cases this)⟩
  |true=>
   refine Vf c.T _ _ (λb1 hb1=>?_)
   cases b1 with
   |false=>exact⟨_,st',Tt,Store.Has.refl st',no (λhp=>by have:=hb1.2 (ok.1 hp.1).2;cases this)⟩
   |true=>
    have okp:c.okP:=ok.2 ⟨hb0.1 rfl,hb1.1 rfl⟩
    have e2:=Iz c.only c (fit on) st'
    rw[on]at e2
    refine ACalls.le ?_ (e2 _ ?_)
    ·exact⟨AV.le_aggL ⟨Tt,Tt,Tt,Tt,Tt,Tt,Tt,Tt,Tt,Tt,Tv⟩,Tt,Tv⟩
    rw[<-on]
    refine⟨_,st',Tt,Store.Has.refl st',h _ ?_⟩
    rw[decide_eq_true_iff]
    exact⟨λe=>⟨okp,hP,hS,e⟩,λhp=>hp.2.2.2⟩
 have k2:c.K≠2:=by simpa using k2
 refine zh (λk3=>?_) (λk3=>?_)
 ·have k3:c.K=3:=by simpa using k3
  have fin:=λb=>h b
  have ok:=Cmd.ok3 k3
  have on:=Cmd.only3 k3
  refine ba c.U hc _ _ (λb0 hb0=>?_)
  cases b0 with
  |false=>exact⟨_,st',Tt,Store.Has.refl st',no (λhp=>by have:=hb0.2 (ok.1 hp.1);cases this)⟩
  |true=>
   have okp:c.okP:=ok.2 (hb0.1 rfl)
   have e2:=Iz c.only c (fit on) st'
   rw[on]at e2
   refine ACalls.le ?_ (e2 _ ?_)
   ·exact⟨AV.le_aggL ⟨Tt,Tt,Tt,Tt,Tt,Tt,Tt,Tt,Tt,Tt,Tv⟩,Tt,Tv⟩
   rw[<-on]
   refine⟨_,st',Tt,Store.Has.refl st',h _ ?_⟩
   rw[decide_eq_true_iff]
   exact⟨λe=>⟨okp,hP,hS,e⟩,λhp=>hp.2.2.2⟩
 have k3:c.K≠3:=by simpa using k3
 refine zh (λk4=>?_) (λk4=>?_)
 ·have k4:c.K=4:=by simpa using k4
  have fin:=λb=>h b
  refine Qc zb lx ?_
  refine Qbk ?_
  refine Qbk ?_
  refine Qbl ?_
  have ok:=Cmd.ok4 k4
  have on:=Cmd.only4 k4
  refine Vf c.T _ _ (λb0 hb0=>?_)
  cases b0 with
  |false=>exact⟨_,st',Tt,Store.Has.refl st',no (λhp=>by have:=hb0.2 (ok.1 hp.1).1;cases this)⟩
  |true=>
   refine zh (λw1=>?_) (λw1=>⟨_,st',Tt,Store.Has.refl st',no (λhp=>by have:=(ok.1 hp.1).2;simp at w1;omega)⟩)
   refine zh (λw2=>?_) (λw2=>⟨_,st',Tt,Store.Has.refl st',no (λhp=>by have:=(ok.1 hp.1).2;simp at w2;omega)⟩)
   refine zh (λw3=>?_) (λw3=>⟨_,st',Tt,Store.Has.refl st',no (λhp=>by have:=(ok.1 hp.1).2;simp at w3;omega)⟩)
   refine zh (λw4=>?_) (λw4=>⟨_,st',Tt,Store.Has.refl st',no (λhp=>by have:=(ok.1 hp.1).2;simp at w4;omega)⟩)
   have okp:c.okP:=ok.2 ⟨hb0.1 rfl,by simp at w1 w2;omega,by simp at w3 w4;omega⟩
   have e2:=Iz c.only c (fit on) st'
   rw[on]at e2
   refine ACalls.le ?_ (e2 _ ?_)
   ·exact⟨AV.le_aggL ⟨Tt,Tt,Tt,Tt,AV.le_nil 1,Tt,Tt,Tt,Tt,Tt,Tv⟩,Tt,Tv⟩
   rw[<-on]
   refine⟨_,st',Tt,Store.Has.refl st',h _ ?_⟩
   rw[decide_eq_true_iff]
   exact⟨λe=>⟨okp,hP,hS,e⟩,λhp=>hp.2.2.2⟩
 have k4:c.K≠4:=by simpa using k4
 refine zh (λk5=>?_) (λk5=>?_)
 ·have k5:c.K=5:=by simpa using k5
  have fin:=λb=>h b
  have ok:=Cmd.ok5 k5
  have on:=Cmd.only5 k5
  refine bc c.N _ _ (λb0 hb0=>?_)
  cases b0 with
  |false=>exact⟨_,st',Tt,Store.Has.refl st',no (λhp=>by have:=hb0.2 (ok.1 hp.1);cases this)⟩
  |true=>
   have okp:c.okP:=ok.2 (hb0.1 rfl)
   have e2:=Iz c.only c (fit on) st'
   rw[on]at e2
   refine ACalls.le ?_ (e2 _ ?_)
   ·exact⟨AV.le_aggL ⟨Tt,Tt,Tt,Tt,AV.le_nil 1,Tt,Tt,Tt,Tt,Tt,Tv⟩,Tt,Tv⟩
   rw[<-on]
   refine⟨_,st',Tt,Store.Has.refl st',h _ ?_⟩
   rw[decide_eq_true_iff]
   exact⟨λe=>⟨okp,hP,hS,e⟩,λhp=>hp.2.2.2⟩
 have k5:c.K≠5:=by simpa using k5
 refine zh (λk6=>?_) (λk6=>?_)
 ·have k6:c.K=6:=by simpa using k6
  have fin:=λb=>h b
  refine Qc zb lw ?_
  refine Qbk ?_
  refine Qbl ?_
  have ok:=Cmd.ok6 k6
  have on:=Cmd.only6 k6
  refine ba c.U hc _ _ (λb0 hb0=>?_)
  cases b0 with
  |false=>exact⟨_,st',Tt,Store.Has.refl st',no (λhp=>by have:=hb0.2 (ok.1 hp.1).1;cases this)⟩
  |true=>
   refine bc c.N _ _ (λb1 hb1=>?_)
   cases b1 with
   |false=>exact⟨_,st',Tt,Store.Has.refl st',no (λhp=>by have:=hb1.2 (ok.1 hp.1).2;cases this)⟩
   |true=>
    have okp:c.okP:=ok.2 ⟨hb0.1 rfl,hb1.1 rfl⟩
    have e2:=Iz c.only c (fit on) st'
    rw[on]at e2
    refine ACalls.le ?_ (e2 _ ?_)
    ·exact⟨AV.le_aggL ⟨Tt,Tt,Tt,Tt,Tt,Tt,Tt,Tt,Tt,Tt,Tv⟩,Tt,Tv⟩
    rw[<-on]
    refine⟨_,st',Tt,Store.Has.refl st',h _ ?_⟩
    rw[decide_eq_true_iff]
    exact⟨λe=>⟨okp,hP,hS,e⟩,λhp=>hp.2.2.2⟩
 have k6:c.K≠6:=by simpa using k6
 refine zh (λk7=>?_) (λk7=>?_)
 ·have k7:c.K=7:=by simpa using k7
  have fin:=λb=>h b
  refine Qc zb lv ?_
  refine Qbk ?_
  refine Qbl ?_
  have ok:=Cmd.ok7 k7
  have on:=Cmd.only7 k7
  refine bc c.N _ _ (λb0 hb0=>?_)
  cases b0 with
  |false=>exact⟨_,st',Tt,Store.Has.refl st',no (λhp=>by have:=hb0.2 (ok.1 hp.1).1;cases this)⟩
  |true=>
   refine Vf c.T _ _ (λb1 hb1=>?_)
   cases b1 with
   |false=>exact⟨_,st',Tt,Store.Has.refl st',no (λhp=>by have:=hb1.2 (ok.1 hp.1).2;cases this)⟩
   |true=>
    have okp:c.okP:=ok.2 ⟨hb0.1 rfl,hb1.1 rfl⟩
    have e2:=Iz c.only c (fit on) st'
    rw[on]at e2
    refine ACalls.le ?_ (e2 _ ?_)
    ·exact⟨AV.le_aggL ⟨Tt,Tt,Tt,Tt,AV.le_nil 1,Tt,Tt,Tt,Tt,Tt,Tv⟩,Tt,Tv⟩
    rw[<-on]
    refine⟨_,st',Tt,Store.Has.refl st',h _ ?_⟩
    rw[decide_eq_true_iff]
    exact⟨λe=>⟨okp,hP,hS,e⟩,λhp=>hp.2.2.2⟩
 have k7:c.K≠7:=by simpa using k7
 exact⟨_,st',Tt,Store.Has.refl st',no (λhp=>Cmd.ok0 k1 k2 k3 k4 k5 k6 k7 hp.1)⟩
section
variable {G:Store} {s p:Nat} {w:Wld} {v o0 o1 o2:AV}
theorem yk{i:TI}{cells row rest:List AV}{K:LV->Prop}(ha:Bn i.ty=true)(hs:i.size=row.length)(hc:cells=row++rest)(h:K (.av (.agg row))):partK i cells K:=by
 subst hc
 unfold partK
 rw[ha,cond_true,hs]
 have:Nat.ble row.length (row++rest).length=true:=by simp
 rw[this,cond_true]
 refine Iu ?_
 rw[Fbl (Faj _),Fap]
 exact h
theorem xn{α:Type}{k:Nat}{f:α->List AV}(hf:∀x,(f x).length=k){l:List α}{L:List AV}{i:Nat}(hi:i<l.length):List.drop (0+i*k) ((rws f l).flatten++L)=f l[i]++((rws f (l.drop (i+1))).flatten++L):=by
 have h1:(rws f (l.take i)).flatten.length=i*k:=by rw[ja hf,Fao,Nat.min_eq_left (by omega)]
 rw[Fbe,O4 hi,Fa3,<-h1,List.drop_left,Fa3]
theorem yeh{S:Store}(R:Ja)(h:∀F p,ky F p []->zl F S->R (ptr p) (F.un S)):Jb 132 [] S R:=by
 have:=ACalls.frame (a:=Store.empty) (g:=S) (λi h1=>by rcases h1 with h1|h1<;>exact absurd rfl h1) (zax (λr a'=>∃p,r=ptr p/\ky a' p []) (λa p h=>⟨p,rfl,h⟩)) (R':=R) (λr a' ⟨p,e,hc⟩ hd=>e▸h a' p hc hd)
 rwa [wu]at this
def svC(w:Wld)(v o0 o1 o2:AV)(p:Nat):List AV:=zw w v++[o0,o1,o2,ptr p]
def svS(G:Store)(s:Nat)(w:Wld)(v o0 o1 o2:AV)(p:Nat):Store:=G.sO s (.cells (svC w v o0 o1 o2 p))
structure StandR(F G:Store)(s p:Nat)(w:Wld)(v:AV)(L:List Ent)(o0 o1 o2:AV):Prop where
 hc:ky F p L
 hd:zl F (svS G s w v o0 o1 o2 p)
 hs:G.obj s=none
 hu:RowsQ 10 zf G v w.U
 h0:K2 w 0 o0
 h1:K2 w 1 o1
 h2:K2 w 2 o2
theorem Co(G:Store)(s:Nat)(w:Wld)(v o0 o1 o2:AV)(p:Nat):(svS G s w v o0 o1 o2 p).obj s=some (.cells (svC w v o0 o1 o2 p)):=zd _ _ _
theorem Ov{u:AV}{l:List Unt}(hs:G.obj s=none)(h:RowsQ 10 zf G u l):RowsQ 10 zf (svS G s w v o0 o1 o2 p) u l:=by
 rcases h with(h|⟨b,cap,L,h1,h2,h3⟩)|h
 ·exact .inl (.inl h)
 ·refine .inl (.inr ⟨b,cap,L,h1,?_,h3⟩)
  have:b≠s:=λe=>by subst e;rw[hs]at h2;cases h2
  show(G.sO s _).obj b=_
  rw[zi this]
  exact h2
 ·exact .inr h
theorem svS_has{i:Nat}:(svS G s w v o0 o1 o2 p).has i↔i=s\/G.has i:=by
 unfold svS Store.has
 by_cases hi:i=s
 ·subst hi
  simp[zd]
 ·rw[zi hi]
  simp[hi,Store.sO]
theorem cm{F:Store}{w':Wld}{v' q0 q1 q2:AV}(h:zl F (svS G s w v o0 o1 o2 p)):zl F (svS G s w' v' q0 q1 q2 p):=λi h1 h2=>h i h1 (svS_has.2 (svS_has.1 h2))
theorem oo(w:Wld)(v:AV)(G:Store)(hu:RowsQ 10 zf G v w.U)(hU:w.U.length<=1000000)(hn:∀u∈w.U,u.pos.ok)(R:Ja)
  (h:∀F s p L o0 o1 o2,Fresh G s->StandR F G s p w v L o0 o1 o2->L.length<=w.U.length->(yq w.U->∀e,e∈L↔∃u∈w.U,u.inn=0/\e=(u.id,u.pos))->R (ptr s) (F.un (svS G s w v o0 o1 o2 p))):Jb 86 [.agg (zw w v)] G R:=by
 obtain⟨oa,cap,hv,hget⟩:=hu.form
 subst hv
 refine Qa (c:=cfg 31 [9] []) zb Tryz.func86 ?_
 refine Qc zb lr ?_
 refine⟨yeh _ (λF p hc hdF=>⟨Qe,?_⟩),Tv⟩
 refine⟨λs hs=>⟨Tv,?_⟩,Tv⟩
 refine Qbl ?_
 have hs1:¬F.has s/\¬G.has s:=by
  have:=fresh_iff.1 hs
  exact⟨λh=>this (un_has.2 (.inl h)),λh=>this (un_has.2 (.inr h))⟩
 have hsG:G.obj s=none:=(vx hs1.2).1
 have e0:(F.un G).sO s (.cells (svC w (.s (.slice oa w.U.length cap)) (.s (.slice none 0 0)) (.s (.slice none 0 0)) (.s (.slice none 0 0)) p))=F.un (svS G s w (.s (.slice oa w.U.length cap)) (.s (.slice none 0 0)) (.s (.slice none 0 0)) (.s (.slice none 0 0)) p):=by
  exact z7 F G s _
 have h0:StandR F G s p w (.s (.slice oa w.U.length cap)) [] (.s (.slice none 0 0)) (.s (.slice none 0 0)) (.s (.slice none 0 0)):=⟨hc,λi h1 h2=>by
  rcases svS_has.1 h2 with rfl|h2
  ·exact hs1.1 h1
  ·exact hdF i h1 h2,hsG,hu,.inl rfl,.inl rfl,.inl rfl⟩
 have hsf:Fresh G s:=fresh_iff.2 hs1.2
 refine AWp.loop (σ:=Nat×Store×List Ent) ⟨λq=>[(3,.av (ptr s)),(11,.av (.s (.slice oa w.U.length cap))),(12,.av (int (w.U.length:Nat))),(13,.av (int (q.1:Nat)))],λ_=>[],
  λq st'=>st'=q.2.1.un (svS G s w (.s (.slice oa w.U.length cap)) (.s (.slice none 0 0)) (.s (.slice none 0 0)) (.s (.slice none 0 0)) p)/\StandR q.2.1 G s p w (.s (.slice oa w.U.length cap)) q.2.2 (.s (.slice none 0 0)) (.s (.slice none 0 0)) (.s (.slice none 0 0))/\q.1<=w.U.length/\q.2.2.length<=q.1/\(∀e∈q.2.2,e.2.ok)/\(yq w.U->∀e,e∈q.2.2↔∃u∈w.U.take q.1,u.inn=0/\e=(u.id,u.pos)),λq=>w.U.length-q.1⟩ zb ?_ ?_
 ·exact⟨(0,F,[]),Tv,⟨e0,h0,Fag _,Faj _,λe he=>(by cases he),λ_ e=>(by simp)⟩,Qbh,Tv⟩
 rintro⟨i,F1,L⟩ st' ⟨rfl,hS,hi,hL,hok,hmem⟩
 dsimp only at hS hi hL hok hmem⊢
 refine bcd (λh1=>?_) (λh1=>?_)
 rotate_left
 ·have:i=w.U.length:=by omega
  subst this
  rw[Fap]at hmem
  exact ret (h F1 s p L _ _ _ hsf hS hL hmem)
 have hlt:i<w.U.length:=by omega
 obtain⟨b,J,rfl,hob0⟩:=hget i hlt
 have hbs:b≠s:=λe=>by subst e;rw[hsG]at hob0;cases hob0
 have hob:(F1.un (svS G s w (.s (.slice (some ⟨b,0,none⟩) w.U.length cap)) (.s (.slice none 0 0)) (.s (.slice none 0 0)) (.s (.slice none 0 0)) p)).obj b=some (.cells ((rws zf w.U).flatten++J)):=zg (by
  show(G.sO s _).obj b=_
  rw[zi hbs];exact hob0)
 refine⟨i,rfl,hlt,?_⟩
 refine za (o:=(F1.un (svS G s w _ _ _ _ p)).obj b) _ hob ?_
 refine yk (i:=ti50) (row:=zf w.U[i]) rfl rfl (xn yo hlt) ?_
 have hn2:=hn w.U[i] (Faa hlt)
 refine zy (λc1=>?_) (λc1=>?_)
 ·refine Qc zb lp ?_
  refine za (o:=(F1.un (svS G s w _ _ _ _ p)).obj s) _ (zg (Co G s w _ _ _ _ p)) ?_
  refine⟨dl hS.hc hS.hd (by omega) hok w.U[i].id w.U[i].pos hn2 _ (λF2 h2 h3=>⟨Tv,?_⟩),Tv⟩
  have hlen:(qo L w.U[i].id++[(w.U[i].id,w.U[i].pos)]).length<=i+1:=by
   rw[Fad]
   have:(qo L w.U[i].id).length<=L.length:=Fcj _ _
   simp only[Fas];omega
  refine Qd ?_
  refine⟨(i+1,F2,_),?_,⟨rfl,⟨h2,h3,hsG,hu,.inl rfl,.inl rfl,.inl rfl⟩,by dsimp only;omega,hlen,λe he=>?_,λhr e=>?_⟩,⟨Tq,Tq,Tq,Tq,Tv⟩,Tv⟩
  ·show w.U.length-(i+1)<w.U.length-i
   omega
  ·rcases Fan.1 he with he|he
   ·exact hok e (mem_dropId.1 he).1
   ·simp at he;subst he;exact hn2
  ·dsimp only
   rw[Fac hlt,Fan,mem_dropId,hmem hr e]
   constructor
   ·rintro(⟨⟨u,hu,h4⟩,_⟩|he)
    ·exact⟨u,Fan.2 (.inl hu),h4⟩
    ·simp at he
     exact⟨w.U[i],Fan.2 (.inr (by simp)),c1,he⟩
   ·rintro⟨u,hu,h4,h5⟩
    rcases Fan.1 hu with hu|hu
    ·refine .inl ⟨⟨u,hu,h4,h5⟩,?_⟩
     obtain⟨j,hj,rfl⟩:=Fak hu
     rw[Fao]at hj
     rw[Fdt]at h5
     have:=Vy hr (a:=j) (b:=i) (by omega) hlt
     subst h5
     show w.U[j].id≠w.U[i].id
     omega
    ·simp at hu
     subst hu
     exact .inr (by simp[h5])
 ·refine Qd ?_
  refine⟨(i+1,F1,L),?_,⟨rfl,hS,by dsimp only;omega,by dsimp only;omega,hok,λhr e=>?_⟩,Qbh,Tv⟩
  ·show w.U.length-(i+1)<w.U.length-i
   omega
  ·dsimp only
   rw[hmem hr e,Fac hlt]
   constructor
   ·rintro⟨u,hu,h3⟩;exact⟨u,Fan.2 (.inl hu),h3⟩
   ·rintro⟨u,hu,h3,h4⟩
    rcases Fan.1 hu with hu|hu
    ·exact⟨u,hu,h3,h4⟩
    ·simp at hu
     subst hu
     exact absurd h3 c1
end
end Go.Proofs
