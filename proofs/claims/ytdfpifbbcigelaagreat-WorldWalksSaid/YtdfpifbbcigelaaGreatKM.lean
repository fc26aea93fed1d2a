/- Ground of laws of thronglaw25: contracts and plain lemmas; no condition beyond the row's own. -/
import Derived.Test.YtdfpifbbcigelaaGreatKL
import Derived.Test.YtdfpifbbcigelaaGreatKF
set_option linter.unusedSimpArgs false
set_option linter.unusedVariables false
namespace Go.Proofs
open Go Go.V
set_option maxRecDepth 20000
set_option maxHeartbeats 4000000
section
variable {s p:Nat} {w:Wld} {o0 o1 o2:AV}
def stC(w:Wld)(o0 o1 o2:AV)(p:Nat):List AV:=zw w++[o0,o1,o2,ptr p]
def stS(s:Nat)(w:Wld)(o0 o1 o2:AV)(p:Nat):Store:=Store.empty.sO s (.cells (stC w o0 o1 o2 p))
def I1(w:Wld)(c:Int)(o:AV):Prop:=o=.s (.slice none 0 0)\/o=opV w.G w.B c
structure StandAt(F:Store)(s p:Nat)(w:Wld)(L:List Ent)(o0 o1 o2:AV):Prop where
 hc:CellsOf F p L
 hd:zh F (stS s w o0 o1 o2 p)
 h0:I1 w 0 o0
 h1:I1 w 1 o1
 h2:I1 w 2 o2
theorem D4(s:Nat)(w:Wld)(o0 o1 o2:AV)(p:Nat):(stS s w o0 o1 o2 p).obj s=some (.cells (stC w o0 o1 o2 p)):=zd _ _ _
theorem stS_has{i:Nat}:(stS s w o0 o1 o2 p).has i↔i=s:=by
 unfold Store.has stS
 constructor
 ·rintro(h|h)
  ·apply Decidable.byContradiction
   intro hn
   rw[zg hn]at h
   exact h rfl
  ·exact absurd rfl h
 ·rintro rfl
  exact .inl (by rw[zd];simp)
theorem Wz{F:Store}{q0 q1 q2:AV}(h:zh F (stS s w o0 o1 o2 p)):zh F (stS s w q0 q1 q2 p):=λi h1 h2=>h i h1 (stS_has.2 (stS_has.1 h2))
theorem Nw{l:List Unt}(hr:yg l){a b:Nat}(hab:a<b)(hb:b<l.length):(l[a]'(by omega)).id<l[b].id:=by
 induction b with
 |zero=>omega
 |succ b ih=>
  have h3:=hr (b+1) hb (by omega)
  simp only[Fdv]at h3
  by_cases e:a=b
  ·subst e;exact h3
  ·have:=ih (by omega) (by omega)
   omega
theorem zx9(w:Wld)(hU:w.U.length<=1000000)(hn:∀u∈w.U,u.pos.ok)(R:Ja)
  (h:∀F s p L o0 o1 o2,StandAt F s p w L o0 o1 o2->L.length<=w.U.length->(yg w.U->∀e,e∈L↔∃u∈w.U,u.inn=0/\e=(u.id,u.pos))->R (ptr s) (F.un (stS s w o0 o1 o2 p))):Jb 114 [.agg (zw w)] Store.empty R:=by
 refine Qa (c:=cfg 31 [9] []) zb Tryz.func114 ?_
 refine Qc zb g8 ?_
 refine⟨td _ (λF p hc=>⟨Qe,?_⟩),Tv⟩
 refine⟨λs hs=>⟨Tv,?_⟩,Tv⟩
 refine Qap ?_
 have e0:F.sO s (.cells (stC w (.s (.slice none 0 0)) (.s (.slice none 0 0)) (.s (.slice none 0 0)) p))=F.un (stS s w (.s (.slice none 0 0)) (.s (.slice none 0 0)) (.s (.slice none 0 0)) p):=by
  exact zt F Store.empty s _
 have h0:StandAt F s p w [] (.s (.slice none 0 0)) (.s (.slice none 0 0)) (.s (.slice none 0 0)):=⟨hc,λi h1 h2=>by
  have:=stS_has.1 h2
  subst this
  exact(fresh_iff.1 hs) h1,.inl rfl,.inl rfl,.inl rfl⟩
 refine AWp.loop (σ:=Nat×Store×List Ent) ⟨λq=>[(3,.av (ptr s)),(11,.av (lst 10 zk w.U)),(12,.av (int (w.U.length:Nat))),(13,.av (int (q.1:Nat)))],λ_=>[],
  λq st'=>st'=q.2.1.un (stS s w (.s (.slice none 0 0)) (.s (.slice none 0 0)) (.s (.slice none 0 0)) p)/\StandAt q.2.1 s p w q.2.2 (.s (.slice none 0 0)) (.s (.slice none 0 0)) (.s (.slice none 0 0))/\q.1<=w.U.length/\q.2.2.length<=q.1/\(∀e∈q.2.2,e.2.ok)/\(yg w.U->∀e,e∈q.2.2↔∃u∈w.U.take q.1,u.inn=0/\e=(u.id,u.pos)),λq=>w.U.length-q.1⟩ zb ?_ ?_
 ·refine⟨(0,F,[]),Tv,⟨e0,h0,Faj _,Fak _,λe he=>(by cases he),λ_ e=>(by simp)⟩,⟨Tq,Tq,?_,Tq,Tv⟩,Tv⟩
  rw[<-zm (f:=zk) w.U];exact Tq
 rintro⟨i,F1,L⟩ st' ⟨rfl,hS,hi,hL,hok,hmem⟩
 dsimp only at hS hi hL hok hmem⊢
 refine bcd (λh1=>?_) (λh1=>?_)
 rotate_left
 ·have:i=w.U.length:=by omega
  subst this
  rw[Faz]at hmem
  exact ret (h F1 s p L _ _ _ hS hL hmem)
 have hlt:i<w.U.length:=by omega
 refine⟨i,rfl,za _ (zr hlt) ?_⟩
 have hn2:=hn w.U[i] (Faa hlt)
 refine z6 (λc1=>?_) (λc1=>?_)
 ·refine Qc zb gz ?_
  refine za (o:=(F1.un (stS s w _ _ _ p)).obj s) _ (zf (D4 s w _ _ _ p)) ?_
  refine⟨bh hS.hc hS.hd (by omega) hok w.U[i].id w.U[i].pos hn2 _ (λF2 h2 h3=>⟨Tv,?_⟩),Tv⟩
  have hlen:(qb L w.U[i].id++[(w.U[i].id,w.U[i].pos)]).length<=i+1:=by
   rw[Fag]
   have:(qb L w.U[i].id).length<=L.length:=Fbz _ _
   simp only[Fa1];omega
  refine Qd ?_
  refine⟨(i+1,F2,_),?_,⟨rfl,⟨h2,h3,.inl rfl,.inl rfl,.inl rfl⟩,by dsimp only;omega,hlen,λe he=>?_,λhr e=>?_⟩,⟨Tq,Tq,Tq,Tq,Tv⟩,Tv⟩
  ·show w.U.length-(i+1)<w.U.length-i
   omega
  ·rcases Fal.1 he with he|he
   ·exact hok e (mem_dropId.1 he).1
   ·simp at he;subst he;exact hn2
  ·dsimp only
   rw[Fae hlt,Fal,mem_dropId,hmem hr e]
   constructor
   ·rintro(⟨⟨u,hu,h4⟩,_⟩|he)
    ·exact⟨u,Fal.2 (.inl hu),h4⟩
    ·simp at he
     exact⟨w.U[i],Fal.2 (.inr (by simp)),c1,he⟩
   ·rintro⟨u,hu,h4,h5⟩
    rcases Fal.1 hu with hu|hu
    ·refine .inl ⟨⟨u,hu,h4,h5⟩,?_⟩
     obtain⟨j,hj,rfl⟩:=Fai hu
     rw[Fao]at hj
     rw[Fdk]at h5
     have:=Nw hr (a:=j) (b:=i) (by omega) hlt
     subst h5
     show w.U[j].id≠w.U[i].id
     omega
    ·simp at hu
     subst hu
     exact .inr (by simp[h5])
 ·refine Qd ?_
  refine⟨(i+1,F1,L),?_,⟨rfl,hS,by dsimp only;omega,by dsimp only;omega,hok,λhr e=>?_⟩,Qal,Tv⟩
  ·show w.U.length-(i+1)<w.U.length-i
   omega
  ·dsimp only
   rw[hmem hr e,Fae hlt]
   constructor
   ·rintro⟨u,hu,h3⟩;exact⟨u,Fal.2 (.inl hu),h3⟩
   ·rintro⟨u,hu,h3,h4⟩
    rcases Fal.1 hu with hu|hu
    ·exact⟨u,hu,h3,h4⟩
    ·simp at hu
     subst hu
     exact absurd h3 c1
end
theorem Bw{g:Gnd}(hg:zn g)(l:List Bld)(c:Int):∃x y,opV g l c=.lst 1 (x::y) none:=by
 have ha:=qi hg
 unfold opV lst
 cases h:rws vd (blL g.T.length (yi g l c))with
 |nil=>
  have:=zm (f:=vd) (blL g.T.length (yi g l c))
  rw[h,Ba]at this
  simp at this
  omega
 |cons x y=>exact⟨x,y,rfl⟩
theorem Kq{v:AV}(h:∃x y,v=.lst 1 (x::y) none):cellsOf v=some [v]/\v.one=true:=by
 obtain⟨x,y,rfl⟩:=h
 exact⟨rfl,rfl⟩
theorem zq8{F:Store}{s p:Nat}{w:Wld}{L:List Ent}{o0 o1 o2:AV}(hS:StandAt F s p w L o0 o1 o2)(hg:zn w.G)(hB:w.B.length<=1000000000000)(hb:∀b∈w.B,yc b/\onP w.G b)(c:Int)(hc:c=0\/c=1\/c=2)(R:Ja)
  (h:∀q0 q1 q2,StandAt F s p w L q0 q1 q2->R (opV w.G w.B c) (F.un (stS s w q0 q1 q2 p))):Jb 197 [ptr s,int c] (F.un (stS s w o0 o1 o2 p)) R:=by
 have ho:=zf (a:=F) (D4 s w o0 o1 o2 p)
 obtain⟨x0,y0,hne0⟩:=Bw hg w.B 0
 obtain⟨x1,y1,hne1⟩:=Bw hg w.B 1
 obtain⟨x2,y2,hne2⟩:=Bw hg w.B 2
 rcases hc with rfl|rfl|rfl
 ·rcases hS.h0 with e|e
  ·subst e
   refine Qa (c:=cfg 35) zb Tryz.func197 ?_
   refine⟨0,rfl,by decide,?_⟩
   refine za (o:=(F.un (stS s w _ _ _ p)).obj s) _ ho ?_
   refine Qc zb Ip ?_
   refine za (o:=(F.un (stS s w _ _ _ p)).obj s) _ ho ?_
   refine za (o:=(F.un (stS s w _ _ _ p)).obj s) _ ho ?_
   refine⟨Hz w.G hg w.B hB hb 0 _ _ ⟨Tv,?_⟩,Tv⟩
   refine⟨0,rfl,by decide,?_⟩
   have ho2:=zf (a:=F) (D4 s w (opV w.G w.B 0) o1 o2 p)
   have hc2:=Kq (Bw hg w.B 0)
   refine⟨?_,Tv⟩
   refine za _ rfl (ju rfl (jo (v:=opV w.G w.B 0) rfl rfl rfl rfl ?_))
   refine qj (i:=ti59) (v:=opV w.G w.B 0) (b:=s) (o:=0+8+0*ti59.size) (l:=stC w _ o1 o2 p) (st2:=F.un (stS s w (opV w.G w.B 0) o1 o2 p)) hc2.1 hc2.2 rfl ho (show 8+1<=12 by decide) ?_ ?_
   ·rw[zt]
    unfold stS
    rw[yq]
    rfl
   refine⟨Tv,?_⟩
   refine⟨0,rfl,by decide,?_⟩
   refine za (o:=(F.un (stS s w _ _ _ p)).obj s) _ ho2 ?_
   exact ret (h _ _ _ ⟨hS.hc,Wz hS.hd,.inr rfl,hS.h1,hS.h2⟩)
  ·rw[hne0]at e
   subst e
   refine Qa (c:=cfg 35) zb Tryz.func197 ?_
   refine⟨0,rfl,by decide,?_⟩
   refine za (o:=(F.un (stS s w _ _ _ p)).obj s) _ ho ?_
   refine λbb hbb=>?_
   have hbf:bb=false:=by
    cases bb with
    |true=>cases hbb rfl
    |false=>rfl
   subst hbf
   refine⟨0,rfl,by decide,?_⟩
   refine za (o:=(F.un (stS s w _ _ _ p)).obj s) _ ho ?_
   refine ret ?_
   have:=h _ _ _ hS
   rw[hne0]at this
   exact this
 ·rcases hS.h1 with e|e
  ·subst e
   refine Qa (c:=cfg 35) zb Tryz.func197 ?_
   refine⟨1,rfl,by decide,?_⟩
   refine za (o:=(F.un (stS s w _ _ _ p)).obj s) _ ho ?_
   refine Qc zb Ip ?_
   refine za (o:=(F.un (stS s w _ _ _ p)).obj s) _ ho ?_
   refine za (o:=(F.un (stS s w _ _ _ p)).obj s) _ ho ?_
   refine⟨Hz w.G hg w.B hB hb 1 _ _ ⟨Tv,?_⟩,Tv⟩
   refine⟨1,rfl,by decide,?_⟩
   have ho2:=zf (a:=F) (D4 s w o0 (opV w.G w.B 1) o2 p)
   have hc2:=Kq (Bw hg w.B 1)
   refine⟨?_,Tv⟩
   refine za _ rfl (ju rfl (jo (v:=opV w.G w.B 1) rfl rfl rfl rfl ?_))
   refine qj (i:=ti59) (v:=opV w.G w.B 1) (b:=s) (o:=0+8+1*ti59.size) (l:=stC w o0 _ o2 p) (st2:=F.un (stS s w o0 (opV w.G w.B 1) o2 p)) hc2.1 hc2.2 rfl ho (show 9+1<=12 by decide) ?_ ?_
   ·rw[zt]
    unfold stS
    rw[yq]
    rfl
   refine⟨Tv,?_⟩
   refine⟨1,rfl,by decide,?_⟩
   refine za (o:=(F.un (stS s w _ _ _ p)).obj s) _ ho2 ?_
   exact ret (h _ _ _ ⟨hS.hc,Wz hS.hd,hS.h0,.inr rfl,hS.h2⟩)
  ·rw[hne1]at e
   subst e
   refine Qa (c:=cfg 35) zb Tryz.func197 ?_
   refine⟨1,rfl,by decide,?_⟩
   refine za (o:=(F.un (stS s w _ _ _ p)).obj s) _ ho ?_
   refine λbb hbb=>?_
   have hbf:bb=false:=by
    cases bb with
    |true=>cases hbb rfl
    |false=>rfl
   subst hbf
   refine⟨1,rfl,by decide,?_⟩
   refine za (o:=(F.un (stS s w _ _ _ p)).obj s) _ ho ?_
   refine ret ?_
   have:=h _ _ _ hS
   rw[hne1]at this
   exact this
 ·rcases hS.h2 with e|e
  ·subst e
   refine Qa (c:=cfg 35) zb Tryz.func197 ?_
   refine⟨2,rfl,by decide,?_⟩
   refine za (o:=(F.un (stS s w _ _ _ p)).obj s) _ ho ?_
   refine Qc zb Ip ?_
   refine za (o:=(F.un (stS s w _ _ _ p)).obj s) _ ho ?_
   refine za (o:=(F.un (stS s w _ _ _ p)).obj s) _ ho ?_
   refine⟨Hz w.G hg w.B hB hb 2 _ _ ⟨Tv,?_⟩,Tv⟩
   refine⟨2,rfl,by decide,?_⟩
   have ho2:=zf (a:=F) (D4 s w o0 o1 (opV w.G w.B 2) p)
   have hc2:=Kq (Bw hg w.B 2)
   refine⟨?_,Tv⟩
   refine za _ rfl (ju rfl (jo (v:=opV w.G w.B 2) rfl rfl rfl rfl ?_))
   refine qj (i:=ti59) (v:=opV w.G w.B 2) (b:=s) (o:=0+8+2*ti59.size) (l:=stC w o0 o1 _ p) (st2:=F.un (stS s w o0 o1 (opV w.G w.B 2) p)) hc2.1 hc2.2 rfl ho (show 10+1<=12 by decide) ?_ ?_
   ·rw[zt]
    unfold stS
    rw[yq]
    rfl
   refine⟨Tv,?_⟩
   refine⟨2,rfl,by decide,?_⟩
   refine za (o:=(F.un (stS s w _ _ _ p)).obj s) _ ho2 ?_
   exact ret (h _ _ _ ⟨hS.hc,Wz hS.hd,hS.h0,hS.h1,.inr rfl⟩)
  ·rw[hne2]at e
   subst e
   refine Qa (c:=cfg 35) zb Tryz.func197 ?_
   refine⟨2,rfl,by decide,?_⟩
   refine za (o:=(F.un (stS s w _ _ _ p)).obj s) _ ho ?_
   refine λbb hbb=>?_
   have hbf:bb=false:=by
    cases bb with
    |true=>cases hbb rfl
    |false=>rfl
   subst hbf
   refine⟨2,rfl,by decide,?_⟩
   refine za (o:=(F.un (stS s w _ _ _ p)).obj s) _ ho ?_
   refine ret ?_
   have:=h _ _ _ hS
   rw[hne2]at this
   exact this
section
variable {F:Store} {s p:Nat} {w:Wld} {o0 o1 o2:AV}
theorem zrq{L:List Ent}(hS:StandAt F s p w L o0 o1 o2)(hr:yg w.U)(hU:w.U.length<=1000000)(hn:∀u∈w.U,u.pos.ok)(hLl:L.length<=w.U.length)(hL:Bx w L)(q:Vc)(hq:q.ok)(r:Int)(hrr:0<r/\r<=262144)(R:Ja)
  (h:∀F' us,StandAt F' s p w L o0 o1 o2->Hk w q (r+81920) us->us.length<=1000000->R (lst 10 zk us) (F'.un (stS s w o0 o1 o2 p))):Jb 198 [ptr s,.agg (zy q),int r] (F.un (stS s w o0 o1 o2 p)) R:=by
 have ho:=zf (a:=F) (D4 s w o0 o1 o2 p)
 refine Qa (c:=cfg 47) zb Tryz.func198 ?_
 refine Qc zb gr ?_
 refine za (o:=(F.un (stS s w _ _ _ p)).obj s) _ ho ?_
 refine Qd ?_
 refine⟨tj hS.hc hS.hd (by omega) (Hg hL hn) hq (r:=r+81920) ⟨by omega,by omega⟩ _ (λF' N v ns g1 g2 g3 g4 g5 g6=>⟨Tv,?_⟩),Tv⟩
 have hS':StandAt F' s p w L o0 o1 o2:=⟨g1,g3,hS.h0,hS.h1,hS.h2⟩
 have ho':((F'.un N).un (stS s w o0 o1 o2 p)).obj s=some (.cells (stC w o0 o1 o2 p)):=zf (D4 s w o0 o1 o2 p)
 have g4':zh (F'.un N) (stS s w o0 o1 o2 p):=disj_un.2 ⟨g3,g4⟩
 have hv:∃oa cap,v=.s (.slice oa ns.length cap)/\∀i,i<ns.length->∃b J,oa=some ⟨b,0,none⟩/\((F'.un N).un (stS s w o0 o1 o2 p)).obj b=some (.cells (ns.map aI++J)):=by
  rcases Lt g5 with⟨rfl,rfl⟩|⟨b,cap,J,rfl,hob,_⟩
  ·exact⟨none,0,rfl,λi hi=>absurd hi (Fbf i)⟩
  ·exact⟨_,cap,rfl,λi _=>⟨b,J,rfl,z8 g4' (zf hob)⟩⟩
 obtain⟨oa,cap,rfl,hget⟩:=hv
 have hnl:ns.length<=w.U.length:=by
  have:=Fbu (l₂:=L.map (·.1)) (g6.1.imp λh=>by omega) (λid hid=>by
   obtain⟨e,he,h2,_⟩:=(g6.2 id).1 hid
   exact Fac.2 ⟨e,he,h2⟩)
  rw[Faq]at this
  omega
 have hfin:∀us:List Unt,us.map (·.id)=ns->(∀u∈us,u∈w.U/\u.inn=0)->R (lst 10 zk us) (F'.un (stS s w o0 o1 o2 p)):=λus e1 e2=>
  h F' us hS' (mc hr hL g6 e1 e2) (by
   have:=congrArg List.length e1
   rw[Faq]at this
   omega)
 have hback:=ot (S:=stS s w o0 o1 o2 p) g2
 generalize(F'.un N).un (stS s w o0 o1 o2 p)=st1 at*
 refine AWp.loop (σ:=Nat×AV×List Unt) ⟨λx=>[(0,.av (ptr s)),(6,.av x.2.1),(18,.av (.s (.slice oa ns.length cap))),(19,.av (int (ns.length:Nat))),(20,.av (int (x.1:Nat)))],λ_=>[],
  λx st'=>x.1<=ns.length/\App 10 st1 x.2.1 (rws zk x.2.2) st'/\x.2.2.map (·.id)=ns.take x.1/\∀u∈x.2.2,u∈w.U/\u.inn=0,λx=>ns.length-x.1⟩ zb ?_ ?_
 ·exact⟨(0,_,[]),Tv,⟨Faj _,App.start 10 st1,rfl,λu hu=>(by cases hu)⟩,⟨Tq,Tq,Tq,Tq,Tq,Tv⟩,Tv⟩
 rintro⟨i,v2,us⟩ st' ⟨hi,ha,hus,hin⟩
 dsimp only at hi ha hus hin⊢
 refine bcd (λh1=>?_) (λh1=>?_)
 rotate_left
 ·have:i=ns.length:=by omega
  subst this
  rw[Faz]at hus
  exact⟨_,_,AV.le_trans ha.le (Tt),ha.has.trans hback,hfin us hus hin⟩
 have hlt:i<ns.length:=by omega
 obtain⟨b,J,rfl,hob⟩:=hget i hlt
 have hob':st'.obj b=some (.cells (ns.map aI++J)):=by rw[ha.obj];exact hob
 have hos:st'.obj s=some (.cells (stC w o0 o1 o2 p)):=by rw[ha.obj];exact ho'
 refine⟨i,rfl,hlt,?_⟩
 refine Qaq ?_
 refine za (o:=List.head? _) (int ns[i]) (by
  rw[Fci,show 0+i*ti2.size=i from by show 0+i*1=i;omega,Fam (by simpa using hlt),Fap,Fab hlt];rfl) ?_
 refine Qaq ?_
 refine bp w.U (by omega) hr ns[i] _ _ (λk hk z hz=>?_)
 obtain⟨e,he,hid,_⟩:=(g6.2 ns[i]).1 (Faa hlt)
 obtain⟨u,hu,hu0,rfl⟩:=(hL e).1 he
 have hfound:∃hk2:k<w.U.length,w.U[k].id=ns[i]:=by
  obtain⟨j,hj,rfl⟩:=Fai hu
  have h5:j>=k:=Decidable.byContradiction λhn2=>by
   have:=hk.2.1 j hj (by omega)
   have h6:(w.U[j]).id=ns[i]:=hid
   omega
  have h7:k<w.U.length:=by omega
  refine⟨h7,?_⟩
  have h8:=hk.2.2 k h7 (Fak _)
  have h6:(w.U[j]).id=ns[i]:=hid
  by_cases e:k=j
  ·subst e;exact h6
  ·have:=Dj hr (show k<j by omega) hj
   omega
 obtain⟨hk2,hk3⟩:=hfound
 refine Qaq ?_
 refine⟨k,rfl,za _ (zr hk2) ?_⟩
 refine⟨by decide,?_⟩
 have hul:us.length=i:=by
  have:=congrArg List.length hus
  rw[Faq,Fao]at this
  omega
 refine Gt (ie:=ti36) (rows':=[zk w.U[k]]) ha ?_ ?_ ⟨?_,?_⟩ (λv3 st3 ha3=>?_)
 ·rfl
 ·rfl
 ·simp only[zm,Fa1,ti36];omega
 ·simp only[zm,Fa1];omega
 refine Qd ?_
 have huk:w.U[k]=u:=Gb hr (Faa hk2) hu (by rw[hk3];exact hid.symm)
 refine⟨(i+1,v3,us++[w.U[k]]),?_,⟨by dsimp only;omega,?_,?_,λu2 hu2=>?_⟩,Qal,Tv⟩
 ·show ns.length-(i+1)<ns.length-i
  omega
 ·dsimp only
  unfold rws at ha3⊢
  rw[Fbe]
  exact ha3
 ·dsimp only
  rw[Fbe,hus,Fae hlt]
  simp[hk3]
 ·rcases Fal.1 hu2 with h9|h9
  ·exact hin u2 h9
  ·simp at h9
   subst h9
   rw[huk]
   exact⟨hu,hu0⟩
theorem zrk{L:List Ent}(hS:StandAt F s p w L o0 o1 o2)(hg:zn w.G)(hB:w.B.length<=1000000000000)(hb:∀b∈w.B,yc b/\onP w.G b)(hr:yg w.U)(hU:w.U.length<=1000000)(hn:∀u∈w.U,u.pos.ok)(hLl:L.length<=w.U.length)(hL:Bx w L)
  (id k:Int) (q:Vc) (hq:q.ok) (R:Ja)
  (h:∀z F' q0 q1 q2,(z=true↔qf w id k q)->StandAt F' s p w L q0 q1 q2->R (V.bool z) (F'.un (stS s w q0 q1 q2 p))):Jb 115 [ptr s,int id,int k,.agg (zy q)] (F.un (stS s w o0 o1 o2 p)) R:=by
 have ho:=zf (a:=F) (D4 s w o0 o1 o2 p)
 have hk:=Bi k
 have hc:=I9 k
 refine Qa (c:=cfg 56) zb Tryz.func115 ?_
 refine xq k _ _ ?_
 refine Qc zb gy ?_
 refine za (o:=(F.un (stS s w _ _ _ p)).obj s) _ ho ?_
 refine⟨zq8 hS hg hB hb (yu k) hc _ (λa0 a1 a2 hS1=>⟨?_,?_⟩),Tv⟩
 ·have ho1:=zf (a:=F) (D4 s w a0 a1 a2 p)
  repeat(first|exact Tv|refine⟨rfl,?_⟩|refine⟨za (o:=(F.un (stS s w a0 a1 a2 p)).obj s) _ ho1 rfl,?_⟩)
 refine⟨po w.G hg w.B (yu k) q hq (zp k) ⟨hk.1,by omega⟩ _ _ (λz hz=>⟨Tv,?_⟩),Tv⟩
 refine ym ?_
 refine zj (λc1=>?_) (λc1=>ret (h false _ _ _ _ (by simp only[Fad,false_iff];exact λhh=>by have:=hz.2 hh.1;rw[this]at c1;cases c1) hS1))
 have hfree:=hz.1 c1
 refine zrq hS1 hr hU hn hLl hL q hq (zp k) ⟨hk.1,by omega⟩ _ (λF' us hS2 hus hul=>?_)
 have hci:=sw (id:=id) hfree hus
 have no:¬qf w id k q->R (V.bool false) (F'.un (stS s w a0 a1 a2 p)):=λhh=>h false _ _ _ _ (by simp only[Fad,false_iff];exact hh) hS2
 refine AWp.loop (σ:=Nat) ⟨λi=>[(1,.av (int id)),(7,.bx 7 0),(9,.bx 9 0),(32,.av (lst 10 zk us)),(33,.av (int (us.length:Nat))),(34,.av (int (i:Nat)))],λ_=>[(7,zy q),(9,Cw k)],
  λi st'=>st'=F'.un (stS s w a0 a1 a2 p)/\i<=us.length/\∀j,(hj:j<us.length)->j<i->us[j].id≠id->jx q (zp k) us[j].pos (zp us[j].kind)=true,λi=>us.length-i⟩ zb ?_ ?_
 ·refine⟨0,Tv,⟨rfl,Faj _,λj _ hj=>by omega⟩,⟨Tq,Tq,Tq,Tq,?_,Tq,Tv⟩,⟨rfl,rfl,Tv⟩⟩
  rw[<-zm (f:=zk) us];exact Tq
 rintro i st' ⟨rfl,hi,hall⟩
 refine bcd (λh1=>?_) (λh1=>?_)
 rotate_left
 ·refine ret (h true _ _ _ _ (by
   simp only[true_iff]
   refine hci.2 λu hu hne=>?_
   obtain⟨j,hj,rfl⟩:=Fai hu
   exact hall j hj (by omega) hne) hS2)
 have hlt:i<us.length:=by omega
 have hui:=(hus us[i]).1 (Faa hlt)
 have next:(us[i].id≠id->jx q (zp k) us[i].pos (zp us[i].kind)=true)->∀j,(hj:j<us.length)->j<i+1->us[j].id≠id->jx q (zp k) us[j].pos (zp us[j].kind)=true:=λhh j hj hji=>by
  by_cases e:j=i
  ·subst e;exact hh
  ·exact hall j hj (by omega)
 refine⟨i,rfl,za _ (zr hlt) ?_⟩
 refine Qc zb gw ?_
 refine qr (λc2=>?_) (λc2=>?_)
 ·refine⟨xq us[i].kind _ _ ⟨Qe,?_⟩,Tv⟩
  have hk2:=Bi us[i].kind
  refine⟨ux q (zp k) us[i].pos (zp us[i].kind) hq (hn _ hui.1.1) ⟨hk.1,by omega⟩ ⟨hk2.1,by omega⟩ _ _ ⟨Tv,?_⟩,Tv⟩
  refine ym ?_
  refine zj (λc3=>?_) (λc3=>?_)
  ·refine Qd ?_
   refine⟨i+1,?_,⟨rfl,by omega,next λ_=>c3⟩,Qal,⟨rfl,rfl,Tv⟩⟩
   show us.length-(i+1)<us.length-i
   omega
  ·refine ret (no λhh=>?_)
   have:=hci.1 hh us[i] (Faa hlt) c2
   rw[this]at c3;cases c3
 ·refine Qao ?_
  refine Qap ?_
  refine Qd ?_
  refine⟨i+1,?_,⟨rfl,by omega,next λhne=>absurd c2 hne⟩,Qal,⟨rfl,rfl,Tv⟩⟩
  show us.length-(i+1)<us.length-i
  omega
end
theorem yad{R:Ja}{b:Bool}{st:Store}(h:R (V.bool b) st)(hb:b=true):R (V.bool true) st:=by rw[hb]at h;exact h
theorem ych(w:Wld)(b:Bld)(p:Nat)(st:Store)(hp:st.obj p=some (.cells (zw w)))(R:Ja)(h:R (V.bool (decide (b.owner>w.players\/b.id>=w.next))) st):
  Jb 190 ([.agg (zi b)]++[ptr p]) st R:=by
 refine Qa (c:=cfg 16) zb Tryz.func190 ?_
 refine za _ hp ?_
 refine bcd (λc1=>ret (yad h (decide_eq_true (.inl c1)))) (λc1=>?_)
 refine za _ hp ?_
 refine ret ?_
 have e:decide (b.owner>w.players\/b.id>=w.next)=decide (b.id>=w.next):=by
  rw[Fbr,decide_eq_true_iff,decide_eq_true_iff];omega
 rw[e]at h
 exact h
theorem ycg(w:Wld)(hw:w.fits)(st:Store)(R:Ja)(h:∀z:Bool,(z=true↔Gj w)->R (V.bool z) st):Jb 112 [.agg (zw w)] st R:=by
 obtain⟨hw1,hw2,hw3⟩:=hw
 refine Qa (c:=cfg 54 [1] []) zb Tryz.func112 ?_
 intro p hp
 have ho:(st.sO p (.cells (zw w))).obj p=some (.cells (zw w)):=zd _ _ _
 have nof:¬Gj w->∃r st',AV.le (V.bool false) r/\(st.sO p (.cells (zw w))).Has st'/\R r st':=λhn=>Aq (Tt) (Fh hp.1) (h false (by simp only[Fad,false_iff];exact hn))
 refine za _ ho ?_
 refine bcd (λc1=>nof λq=>by have:=q.1;omega) (λc1=>?_)
 refine za _ ho ?_
 refine bcd (λc2=>nof λq=>by have:=q.1;omega) (λc2=>?_)
 refine za _ ho ?_
 refine bcd (λc3=>nof λq=>by have:=q.1;omega) (λc3=>?_)
 refine za _ ho ?_
 refine bcd (λc4=>nof λq=>by have:=q.1;omega) (λc4=>?_)
 refine za _ ho ?_
 refine bcd (λc5=>nof λq=>by have:=q.1;omega) (λc5=>?_)
 refine za _ ho ?_
 refine bcd (λc6=>nof λq=>by have:=q.1;omega) (λc6=>?_)
 refine za _ ho ?_
 refine o5 w.G hw1 _ _ (λz hz=>?_)
 refine ym ?_
 refine zj (λc7=>?_) (λc7=>nof λq=>by have:=hz.2 q.2.1.1;rw[this]at c7;cases c7)
 have hg:=hz.1 c7
 refine za _ ho ?_
 refine za _ ho ?_
 refine yfu w.G hg w.B hw2 _ _ (λz hz=>?_)
 refine ym ?_
 refine zj (λc8=>?_) (λc8=>nof λq=>by have:=hz.2 q.2.1.2.1;rw[this]at c8;cases c8)
 have hb:=hz.1 c8
 refine za _ ho ?_
 have hUl:((rws zk w.U).length:Int)=(w.U.length:Int):=by rw[zm]
 refine bcd (λc9=>nof λq=>by have:=q.2.1.2.2;omega) (λc9=>?_)
 refine za _ ho ?_
 refine t8 w.B hw2 _ _ (λb=>decide (b.owner>w.players\/b.id>=w.next)) _ (λb hb R h=>ych w b p _ ho R h) _ ?_
 refine Aq (Tt) (Fh hp.1) (h _ ?_)
 rw[Fby,Fdm]
 constructor
 ·intro hh
  refine⟨by omega,⟨hg,hb,by omega⟩,λb hb2=>?_⟩
  have:=hh b hb2
  rw[decide_eq_true_iff]at this
  omega
 ·intro hh b hb2
  have:=hh.2.2 b hb2
  rw[decide_eq_true_iff]
  omega
def Ko(cs:List (Int×Int))(bs:List Nat)(clk:Nat):AObj:=.map (cs.map (yk int)) bs clk
def Pw(m:Nat):AV:=.s (.map (some m))
theorem zwq(w:Wld)(hU:w.U.length<=1000000)(hr:yg w.U)(st:Store)(R:Ja)(h:∀z:Bool,(z=true↔∀u∈w.U,u.inn≠0->wu w u)->R (V.bool z) st):Jb 116 [.agg (zw w)] st R:=by
 refine Qa (c:=cfg 85) zb Tryz.func116 ?_
 refine Fs rfl (λm hm=>?_)
 have hhas:∀x,(st.sO m x).Has st:=λx=>Fh hm.1
 have nof:∀x,¬(∀u∈w.U,u.inn≠0->wu w u)->∃r st',AV.le (V.bool false) r/\(st.sO m x).Has st'/\R r st':=λx hn=>Aq (Tt) (hhas x) (h false (by simp only[Fad,false_iff];exact hn))
 refine AWp.loop (σ:=Nat×List (Int×Int)×List Nat×Nat) ⟨λx=>[(1,.bx 1 0),(3,.av (Pw m)),(11,.av (lst 10 zk w.U)),(12,.av (int (w.U.length:Nat))),(13,.av (int (x.1:Nat)))],λ_=>[(1,zw w)],
  λx st'=>x.1<=w.U.length/\st'=st.sO m (Ko x.2.1 x.2.2.1 x.2.2.2)/\(∀id,id≠0->(yl x.2.1 id).getD 0=((zv (w.U.take x.1) id).length:Int))/\Sp w x.1,λx=>w.U.length-x.1⟩ zb ?_ ?_
 ·refine⟨(0,[],[],0),Tv,⟨Faj _,rfl,λid _=>rfl,λj _ hj=>by omega,λx _ _=>(I8 _).1⟩,⟨Tq,Tq,Tq,?_,Tq,Tv⟩,⟨rfl,Tv⟩⟩
  rw[<-zm (f:=zk) w.U];exact Tq
 rintro⟨i,cs,bs,clk⟩ st' ⟨hi,rfl,hcnt,hup⟩
 dsimp only at hi hcnt hup⊢
 refine bcd (λh1=>?_) (λh1=>?_)
 rotate_left
 ·have:i=w.U.length:=by omega
  subst this
  exact Aq (Tt) (hhas _) (h true (by simp only[true_iff];exact zwr hup))
 have hlt:i<w.U.length:=by omega
 have hui:=Faa hlt
 refine⟨i,rfl,za _ (zr hlt) ?_⟩
 refine z6 (λc1=>?_) (λc1=>?_)
 ·refine Qd ?_
  refine⟨(i+1,cs,bs,clk),?_,⟨by dsimp only;omega,rfl,λid hid=>?_,λj hj hji hne=>?_,λx hx hx0=>?_⟩,Qal,⟨rfl,Tv⟩⟩
  ·show w.U.length-(i+1)<w.U.length-i
   omega
  ·dsimp only
   rw[hcnt id hid,Lu hlt,if_neg (by rw[c1];omega)];omega
  ·by_cases e:j=i
   ·subst e;exact absurd c1 hne
   ·exact hup.1 j hj (by dsimp only at hji;omega) hne
  ·dsimp only
   rw[Lu hlt,if_neg (by rw[c1];omega)]
   have:=hup.2 x hx hx0
   omega
 refine bp w.U (by omega) hr w.U[i].inn _ _ (λk hk z hz=>?_)
 have nou:∀x,¬wu w w.U[i]->∃r st',AV.le (V.bool false) r/\(st.sO m x).Has st'/\R r st':=λx hn=>nof x λhh=>hn (hh _ hui c1)
 have found:wu w w.U[i]->z=true:=λ⟨x,hx,e,_⟩=>by
  obtain⟨j,hj,rfl⟩:=Fai hx
  refine hz.2 ?_
  have h5:j>=k:=Decidable.byContradiction λhn2=>by
   have:=hk.2.1 j hj (by omega)
   omega
  have h7:k<w.U.length:=by omega
  refine⟨h7,?_⟩
  have h8:=hk.2.2 k h7 (Fak _)
  by_cases e2:k=j
  ·subst e2;exact e
  ·have:=Dj hr (show k<j by omega) hj
   omega
 refine ym ?_
 refine zj (λc2=>?_) (λc2=>nou _ λhh=>by rw[found hh]at c2;cases c2)
 obtain⟨hkl,hkid⟩:=hz.1 c2
 have uniq:wu w w.U[i]->(w.U[k].inn=0/\w.U[k].owner=w.U[i].owner)/\((zv w.U w.U[i].inn).length:Int)<=xi w.U[k].kind:=λ⟨x,hx,e,e2,e3,_⟩=>by
  have:=Gb hr hx (Faa hkl) (by rw[e,hkid])
  subst this
  exact⟨e2,e3⟩
 refine xq w.U[i].kind _ _ ?_
 refine bcd (λc3=>nou _ λ⟨x,_,_,_,_,e,_⟩=>by omega) (λc3=>?_)
 have hroom:xi w.U[i].kind=0:=by have:=I8 w.U[i].kind;omega
 refine ym ?_
 refine zj (λc4=>?_) (λc4=>nou _ λ⟨x,_,_,_,_,_,e,_⟩=>by rw[e]at c4;cases c4)
 have hpos:w.U[i].pos=(0,0):=by
  have:(w.U[i].pos.1==0&&(w.U[i].pos.2==0&&true))=true:=c4
  simp at this
  exact Prod.ext this.1 this.2
 refine qr (λc5=>nou _ λ⟨x,_,_,_,_,_,_,e,_⟩=>c5 e) (λc5=>?_)
 refine qr (λc6=>nou _ λ⟨x,_,_,_,_,_,_,_,e⟩=>c6 e) (λc6=>?_)
 refine⟨k,rfl,za _ (zr hkl) ?_⟩
 have hmo:(st.sO m (Ko cs bs clk)).obj m=some (Ko cs bs clk):=zd _ _ _
 refine vo rfl (it:=ti295) (ie:=ti2) (ik:=ti2) rfl rfl rfl rfl hmo rfl (qA w.U[k].id) (λe he=>?_) ?_
 ·obtain⟨e,_,rfl⟩:=Fac.1 he
  rfl
 rw[Fe]
 have hz0:w.U[k].id≠0:=by rw[hkid];exact c1
 have hcv:(Option.map int (yl cs w.U[k].id)).getD (Bo ti2)=int ((zv (w.U.take i) w.U[k].id).length:Int):=by
  rw[<-hcnt _ hz0]
  cases yl cs w.U[k].id<;>rfl
 rw[hcv]
 have hcl:(zv (w.U.take i) w.U[k].id).length<=1000000:=by
  have h1:=O4 (l:=w.U) i w.U[k].id
  have h2:(zv w.U w.U[k].id).length<=w.U.length:=by unfold zv;rw[Faq];exact Fbz _ _
  omega
 refine Qd ?_
 refine Ci (.inl rfl) rfl (it:=ti295) (ik:=ti2) rfl rfl rfl (es:=cs.map (yk int)) (bs:=bs) (clk:=clk) (k:=int w.U[k].id) (v:=int (((zv (w.U.take i) w.U[k].id).length:Int)+1)) hmo rfl rfl (qA w.U[k].id) (λe he=>?_) (λe1 he hq=>?_) ?_
 ·obtain⟨e,_,rfl⟩:=Fac.1 he
  rfl
 ·obtain⟨g1,_,rfl⟩:=Fac.1 he
  have:w.U[k].id=g1.1:=by simpa [qA,yk,int]using hq
  show int g1.1=_
  rw[this]
 obtain⟨bs',clk',hput⟩:=Hn int cs bs clk w.U[k].id (((zv (w.U.take i) w.U[k].id).length:Int)+1)
 have hput:j3 (cs.map (yk int)) bs clk (qA w.U[k].id) (int w.U[k].id) (int (((zv (w.U.take i) w.U[k].id).length:Int)+1))=Ko (yh cs w.U[k].id (((zv (w.U.take i) w.U[k].id).length:Int)+1)) bs' clk':=hput
 rw[hput,yq]
 have hmo2:(st.sO m (Ko (yh cs w.U[k].id (((zv (w.U.take i) w.U[k].id).length:Int)+1)) bs' clk')).obj m=some (Ko (yh cs w.U[k].id (((zv (w.U.take i) w.U[k].id).length:Int)+1)) bs' clk'):=zd _ _ _
 have hlook:Ct false (Bo ti2) (((yh cs w.U[k].id (((zv (w.U.take i) w.U[k].id).length:Int)+1)).map (yk int)).find? (qA w.U[k].id))=int (((zv (w.U.take i) w.U[k].id).length:Int)+1):=by
  rw[Fe,Ax,if_pos rfl];rfl
 have hsucc:=Lu hlt w.U[k].id
 rw[if_pos hkid.symm]at hsucc
 have hcnt2:∀id,id≠0->(yl (yh cs w.U[k].id (((zv (w.U.take i) w.U[k].id).length:Int)+1)) id).getD 0=((zv (w.U.take (i+1)) id).length:Int):=λid hid=>by
  rw[Ax]
  by_cases e:id=w.U[k].id
  ·rw[if_pos e,e,hsucc];rfl
  ·rw[if_neg e,hcnt id hid,Lu hlt,if_neg (by rw[<-hkid];exact Ne.symm e)];omega
 generalize yh cs w.U[k].id (((zv (w.U.take i) w.U[k].id).length:Int)+1)=cs2 at*
 have over:xi w.U[k].kind<((zv (w.U.take i) w.U[k].id).length:Int)+1->¬wu w w.U[i]:=λhh hp=>by
  have h2:=(uniq hp).2
  have h3:=O4 (l:=w.U) (i+1) w.U[k].id
  rw[<-hkid]at h2
  omega
 have good:w.U[k].inn=0->w.U[k].owner=w.U[i].owner->((zv (w.U.take i) w.U[k].id).length:Int)+1<=xi w.U[k].kind->Sp w (i+1):=λe1 e2 e3=>by
  refine⟨λj hj hji hne=>?_,λx hx hx0=>?_⟩
  ·by_cases e:j=i
   ·subst e
    exact⟨w.U[k],Faa hkl,hkid,⟨e1,e2⟩,hroom,hpos,c5,c6⟩
   ·exact hup.1 j hj (by omega) hne
  ·by_cases e:x.id=w.U[k].id
   ·have:=Gb hr hx (Faa hkl) e
    subst this
    omega
   ·rw[Lu hlt,if_neg (by rw[<-hkid];exact Ne.symm e)]
    have:=hup.2 x hx hx0
    omega
 refine Qc zb zvf ?_
 refine qr (λc7=>?_) (λc7=>?_)
 ·refine⟨⟨Qe,⟨⟨Qe,nou _ (λhh=>c7 (uniq hh).1.1)⟩,Tv⟩⟩,⟨⟨Qe,⟨⟨Qe,nou _ (λhh=>c7 (uniq hh).1.1)⟩,Tv⟩⟩,Tv⟩⟩
 refine qr (λc8=>?_) (λc8=>?_)
 ·refine⟨⟨Qe,⟨⟨Qe,nou _ (λhh=>c8 (uniq hh).1.2)⟩,Tv⟩⟩,⟨⟨Qe,⟨⟨Qe,nou _ (λhh=>c8 (uniq hh).1.2)⟩,Tv⟩⟩,Tv⟩⟩
 refine⟨?_,?_,Tv⟩
 ·refine vo rfl (it:=ti295) (ie:=ti2) (ik:=ti2) rfl rfl rfl rfl hmo2 rfl (qA w.U[k].id) (λe he=>by obtain⟨e,_,rfl⟩:=Fac.1 he;rfl) ?_
  rw[hlook]
  refine⟨Qe,?_⟩
  refine⟨xq w.U[k].kind _ _ ⟨Qe,?_⟩,Tv⟩
  refine bcd (λc9=>nou _ (over (by omega))) (λc9=>?_)
  refine Qd ?_
  refine⟨(i+1,cs2,bs',clk'),?_,⟨by dsimp only;omega,rfl,hcnt2,good c7 c8 (by omega)⟩,Qal,⟨rfl,Tv⟩⟩
  show w.U.length-(i+1)<w.U.length-i
  omega
 ·refine xq w.U[k].kind _ _ ⟨Qe,?_⟩
  refine⟨?_,Tv⟩
  refine vo rfl (it:=ti295) (ie:=ti2) (ik:=ti2) rfl rfl rfl rfl hmo2 rfl (qA w.U[k].id) (λe he=>by obtain⟨e,_,rfl⟩:=Fac.1 he;rfl) ?_
  rw[hlook]
  refine⟨Qe,?_⟩
  refine bcd (λc9=>nou _ (over (by omega))) (λc9=>?_)
  refine Qd ?_
  refine⟨(i+1,cs2,bs',clk'),?_,⟨by dsimp only;omega,rfl,hcnt2,good c7 c8 (by omega)⟩,Qal,⟨rfl,Tv⟩⟩
  show w.U.length-(i+1)<w.U.length-i
  omega
def tkO(cs:List (Int×Bool))(bs:List Nat)(clk:Nat):AObj:=.map (cs.map (yk V.bool)) bs clk
theorem zzi(w:Wld)(hw:w.fits)(hn:∀u∈w.U,u.pos.ok):Jb 64 [.agg (zw w)] Store.empty λr _=>∃z,r=V.bool z/\(z=true↔z7 w):=by
 have no:¬z7 w->∃z,V.bool false=V.bool z/\(z=true↔z7 w):=λhn=>⟨false,rfl,by simp only[Fad,false_iff];exact hn⟩
 refine Qb (c:=cfg 87) zb Tryz.func64 ?_
 refine AWp.seq (AWp.of_vc zb ?_)
 refine AWp.seq (AWp.of_vc zb ?_)
 refine ycg w hw _ _ (λz hz=>?_)
 refine ym ?_
 refine zj (λc1=>?_) (λc1=>ret (no λq=>by have:=hz.2 q.1.1;rw[this]at c1;cases c1))
 have hh:=hz.1 c1
 have hg:=hh.2.1.1
 have hbl:=hh.2.1.2.1
 have hBl:w.B.length<=256:=hbl.1
 have hU:w.U.length<=4096:=hh.2.1.2.2
 have hbb:∀b∈w.B,yc b/\onP w.G b:=λb hb=>⟨(hbl.2.2.1 b hb).1,(hbl.2.2.1 b hb).2.1⟩
 refine AWp.seq (AWp.of_vc zb ?_)
 refine Fs rfl (λm hm=>?_)
 refine AWp.meetA (σ:=List (Int×Bool)×List Nat×Nat) ⟨λ_=>[(1,.bx 1 0),(3,.av (Pw m))],λ_=>[(1,zw w)],λx st'=>st'=Store.empty.sO m (tkO x.1 x.2.1 x.2.2)/\∀id,(yl x.1 id).getD false=true↔∃b∈w.B,b.id=id⟩ ?_ ?_
 ·refine AWp.of_vc zb ?_
  refine AWp.loop (σ:=Nat×List (Int×Bool)×List Nat×Nat) ⟨λx=>[(1,.bx 1 0),(3,.av (Pw m)),(16,.av (lst 6 zi w.B)),(17,.av (int (w.B.length:Nat))),(18,.av (int (x.1:Nat)))],λ_=>[(1,zw w)],
   λx st'=>x.1<=w.B.length/\st'=Store.empty.sO m (tkO x.2.1 x.2.2.1 x.2.2.2)/\∀id,(yl x.2.1 id).getD false=true↔∃b∈w.B.take x.1,b.id=id,λx=>w.B.length-x.1⟩ zb ?_ ?_
  ·refine⟨(0,[],[],0),Tv,⟨Faj _,rfl,λid=>⟨λh=>(by cases h),λ⟨b,hb,_⟩=>(by simp at hb)⟩⟩,⟨Tq,Tq,Tq,?_,Tq,Tv⟩,⟨rfl,Tv⟩⟩
   rw[<-zm (f:=zi) w.B];exact Tq
  rintro⟨i,cs,bs,clk⟩ st' ⟨hi,rfl,htk⟩
  dsimp only at hi htk⊢
  refine bcd (λh1=>?_) (λh1=>?_)
  rotate_left
  ·have:i=w.B.length:=by omega
   subst this
   rw[Faz]at htk
   exact⟨(cs,bs,clk),⟨rfl,htk⟩,⟨Tq,Tq,Tv⟩,⟨rfl,Tv⟩⟩
  have hlt:i<w.B.length:=by omega
  refine⟨i,rfl,za _ (zr hlt) ?_⟩
  have hmo:(Store.empty.sO m (tkO cs bs clk)).obj m=some (tkO cs bs clk):=zd _ _ _
  refine Ci (.inl rfl) rfl (it:=ti196) (ik:=ti2) rfl rfl rfl (es:=cs.map (yk V.bool)) (bs:=bs) (clk:=clk) (k:=int w.B[i].id) (v:=V.bool true) hmo rfl rfl (qA w.B[i].id) (λe he=>?_) (λe1 he hq=>?_) ?_
  ·obtain⟨e,_,rfl⟩:=Fac.1 he
   rfl
  ·obtain⟨g1,_,rfl⟩:=Fac.1 he
   have:w.B[i].id=g1.1:=by simpa [qA,yk,int]using hq
   show int g1.1=_
   rw[this]
  obtain⟨bs',clk',hput⟩:=Hn V.bool cs bs clk w.B[i].id true
  have hput:j3 (cs.map (yk V.bool)) bs clk (qA w.B[i].id) (int w.B[i].id) (V.bool true)=tkO (yh cs w.B[i].id true) bs' clk':=hput
  rw[hput,yq]
  refine Qd ?_
  refine⟨(i+1,yh cs w.B[i].id true,bs',clk'),?_,⟨by dsimp only;omega,rfl,λid=>?_⟩,Qal,⟨rfl,Tv⟩⟩
  ·show w.B.length-(i+1)<w.B.length-i
   omega
  ·dsimp only
   rw[Ax,Fae hlt]
   by_cases e:id=w.B[i].id
   ·rw[if_pos e]
    exact⟨λ_=>⟨w.B[i],Fal.2 (.inr (Fcb.2 rfl)),e.symm⟩,λ_=>rfl⟩
   ·rw[if_neg e,htk id]
    constructor
    ·rintro⟨b,hb,h3⟩;exact⟨b,Fal.2 (.inl hb),h3⟩
    ·rintro⟨b,hb,h3⟩
     rcases Fal.1 hb with hb|hb
     ·exact⟨b,hb,h3⟩
     ·simp at hb;subst hb;exact absurd h3.symm e
 rintro⟨cs,bs,clk⟩ st' ⟨rfl,htk⟩
 dsimp only at htk⊢
 have hmo:(Store.empty.sO m (tkO cs bs clk)).obj m=some (tkO cs bs clk):=zd _ _ _
 have hhas:(Store.empty.sO m (tkO cs bs clk)).Has Store.empty:=Fh rfl
 refine AWp.meetA (σ:=Unit) ⟨λ_=>[(1,.bx 1 0)],λ_=>[(1,zw w)],λ_ st'=>st'=Store.empty.sO m (tkO cs bs clk)/\Fw w w.U.length⟩ ?_ ?_
 ·refine AWp.of_vc zb ?_
  refine AWp.loop (σ:=Nat) ⟨λi=>[(1,.bx 1 0),(3,.av (Pw m)),(27,.av (lst 10 zk w.U)),(28,.av (int (w.U.length:Nat))),(29,.av (int (i:Nat)))],λ_=>[(1,zw w)],
   λi st'=>i<=w.U.length/\st'=Store.empty.sO m (tkO cs bs clk)/\Fw w i,λi=>w.U.length-i⟩ zb ?_ ?_
  ·refine⟨0,Tv,⟨Faj _,rfl,λj _ hj=>by omega⟩,⟨Tq,Tq,Tq,?_,Tq,Tv⟩,⟨rfl,Tv⟩⟩
   rw[<-zm (f:=zk) w.U];exact Tq
  rintro i st' ⟨hi,rfl,hup⟩
  refine bcd (λh1=>?_) (λh1=>?_)
  rotate_left
  ·have:i=w.U.length:=by omega
   subst this
   exact⟨(),⟨rfl,hup⟩,⟨Tq,Tv⟩,⟨rfl,Tv⟩⟩
  have hlt:i<w.U.length:=by omega
  have nou:¬((xt w w.U[i]/\∀b∈w.B,b.id≠w.U[i].id)/\(0<i->(w.U[i-1]'(by omega)).id<w.U[i].id))->∃z,V.bool false=V.bool z/\(z=true↔z7 w):=λhq=>no λq=>hq (dp q.1.2 (i+1) i hlt (by omega))
  refine⟨i,rfl,za _ (zr hlt) ?_⟩
  refine Qc zb zsh ?_
  refine⟨yg3 w w.U[i] hg _ _ (λz hz=>⟨Tv,?_⟩),Tv⟩
  refine ym ?_
  refine zj (λc2=>?_) (λc2=>⟨⟨Tv,ret (nou λq=>by have:=hz.2 q.1.1;rw[this]at c2;cases c2)⟩,Tv⟩)
  have hunt:=hz.1 c2
  refine⟨vo rfl (it:=ti196) (ie:=ti4) (ik:=ti2) rfl rfl rfl rfl hmo rfl (qA w.U[i].id) (λe he=>by obtain⟨e,_,rfl⟩:=Fac.1 he;rfl) ?_,Tv⟩
  rw[Fe]
  have hcv:(Option.map V.bool (yl cs w.U[i].id)).getD (Bo ti4)=V.bool ((yl cs w.U[i].id).getD false):=by
   cases yl cs w.U[i].id<;>rfl
  rw[hcv]
  have htki:=htk w.U[i].id
  generalize(yl cs w.U[i].id).getD false=tk at htki
  refine⟨Tv,?_⟩
  refine zj (λc3=>ret (nou λq=>by obtain⟨b,hb,e⟩:=htki.1 c3;exact q.1.2 b hb e)) (λc3=>?_)
  have hnb:∀b∈w.B,b.id≠w.U[i].id:=λb hb e=>by have:=htki.2 ⟨b,hb,e⟩;rw[this]at c3;cases c3
  have next:(0<i->(w.U[i-1]'(by omega)).id<w.U[i].id)->Fw w (i+1):=λhq j hj hji=>by
   by_cases e:j=i
   ·subst e;exact⟨⟨hunt,hnb⟩,hq⟩
   ·exact hup j hj (by omega)
  have fin:Fw w (i+1)->ya ((i:Int)+1)/\(i+1<=w.U.length/\Store.empty.sO m (tkO cs bs clk)=Store.empty.sO m (tkO cs bs clk)/\Fw w (i+1)):=λhq=>⟨⟨by omega,by omega⟩,by omega,rfl,hq⟩
  refine bcd (λc4=>?_) (λc4=>?_)
  ·have hi0:0<i:=by omega
   refine Qd ?_
   refine⟨i-1,by omega,za _ (zr (show i-1<w.U.length by omega)) ?_⟩
   refine bcd (λc5=>ret (nou λq=>by have:=q.2 hi0;omega)) (λc5=>?_)
   obtain⟨f1,f2⟩:=fin (next λ_=>by omega)
   refine⟨f1,?_⟩
   refine⟨i+1,?_,f2,Qal,⟨rfl,Tv⟩⟩
   show w.U.length-(i+1)<w.U.length-i
   omega
  ·obtain⟨f1,f2⟩:=fin (next λh0=>absurd h0 (by omega))
   refine⟨f1,?_⟩
   refine⟨i+1,?_,f2,Qal,⟨rfl,Tv⟩⟩
   show w.U.length-(i+1)<w.U.length-i
   omega
 rintro _ _ ⟨rfl,hall⟩
 have hok:=dq hall
 refine AWp.leS hhas.toLe ?_
 refine AWp.seq (AWp.of_vc zb ?_)
 refine zx9 w (by omega) hn _ (λF s p L o0 o1 o2 hS hLl hL=>?_)
 have hLm:=hL hok.1
 refine AWp.meetA (σ:=Unit) ⟨λ_=>[(1,.bx 1 0)],λ_=>[(1,zw w)],λ_ st'=>∀u∈w.U,u.inn=0->qf w u.id u.kind u.pos⟩ ?_ ?_
 ·refine AWp.of_vc zb ?_
  refine AWp.loop (σ:=Nat×Store×AV×AV×AV) ⟨λx=>[(1,.bx 1 0),(8,.av (ptr s)),(64,.av (lst 10 zk w.U)),(65,.av (int (w.U.length:Nat))),(66,.av (int (x.1:Nat)))],λ_=>[(1,zw w)],
   λx st'=>x.1<=w.U.length/\st'=x.2.1.un (stS s w x.2.2.1 x.2.2.2.1 x.2.2.2.2 p)/\StandAt x.2.1 s p w L x.2.2.1 x.2.2.2.1 x.2.2.2.2/\∀j,(hj:j<w.U.length)->j<x.1->w.U[j].inn=0->qf w w.U[j].id w.U[j].kind w.U[j].pos,λx=>w.U.length-x.1⟩ zb ?_ ?_
  ·refine⟨(0,F,o0,o1,o2),Tv,⟨Faj _,rfl,hS,λj _ hj=>by omega⟩,⟨Tq,Tq,Tq,?_,Tq,Tv⟩,⟨rfl,Tv⟩⟩
   rw[<-zm (f:=zk) w.U];exact Tq
  rintro⟨i,F1,a0,a1,a2⟩ st' ⟨hi,rfl,hS1,hcl⟩
  dsimp only at hi hS1 hcl⊢
  refine bcd (λh1=>?_) (λh1=>?_)
  rotate_left
  ·have:i=w.U.length:=by omega
   subst this
   refine⟨(),λu hu h0=>?_,⟨Tq,Tv⟩,⟨rfl,Tv⟩⟩
   obtain⟨j,hj,rfl⟩:=Fai hu
   exact hcl j hj hj h0
  have hlt:i<w.U.length:=by omega
  have hui:=Faa hlt
  have next:(w.U[i].inn=0->qf w w.U[i].id w.U[i].kind w.U[i].pos)->∀j,(hj:j<w.U.length)->j<i+1->w.U[j].inn=0->qf w w.U[j].id w.U[j].kind w.U[j].pos:=λhq j hj hji=>by
   by_cases e:j=i
   ·subst e;exact hq
   ·exact hcl j hj (by omega)
  refine⟨i,rfl,za _ (zr hlt) ?_⟩
  refine z6 (λc2=>?_) (λc2=>?_)
  ·refine zrk hS1 hg (by omega) hbb hok.1 (by omega) hn hLl hLm w.U[i].id w.U[i].kind w.U[i].pos (hn _ hui) _ (λz F2 b0 b1 b2 hz hS2=>?_)
   refine ym ?_
   refine zj (λc3=>?_) (λc3=>ret (no λq=>by have:=hz.2 (q.2.1 _ hui c2);rw[this]at c3;cases c3))
   refine Qd ?_
   refine⟨(i+1,F2,b0,b1,b2),?_,⟨by dsimp only;omega,rfl,hS2,next λ_=>hz.1 c3⟩,Qal,⟨rfl,Tv⟩⟩
   show w.U.length-(i+1)<w.U.length-i
   omega
  ·refine Qd ?_
   refine⟨(i+1,F1,a0,a1,a2),?_,⟨by dsimp only;omega,rfl,hS1,next λh0=>absurd h0 c2⟩,Qal,⟨rfl,Tv⟩⟩
   show w.U.length-(i+1)<w.U.length-i
   omega
 rintro _ st' hclear
 refine AWp.of_vc zb ?_
 refine zwq w (by omega) hok.1 _ _ (λz hz=>?_)
 refine ret ⟨z,rfl,?_⟩
 rw[hz]
 exact⟨λhq=>⟨⟨hh,hok⟩,hclear,hq⟩,λhq=>hq.2.2⟩
theorem Ho{f:FuncId}{xs:List AV}{Q:AV->Prop}(key:Jb f xs Store.empty λr _=>Q r)(st:Store)(R:Ja)(h:∀r,Q r->R r st):Jb f xs st R:=by
 rw[<-vm st]
 refine ACalls.post (ACalls.frame (R':=λr st'=>Q r/\∃a',st'=a'.un st) (λb hb=>?_) key λr a' h1 _=>⟨h1,a',rfl⟩) (Store.Le.refl _) λr st' ⟨h1,a',h2⟩=>⟨r,st,Tt,h2▸zcb,?_⟩
 ·exact(hb.elim (λh=>h rfl) (λh=>h rfl):False).elim
 ·exact h r h1
theorem zzd(w:Wld)(hw:w.fits)(hn:∀u∈w.U,u.pos.ok)(st:Store)(R:Ja)(h:∀z:Bool,(z=true↔z7 w)->R (V.bool z) st):Jb 64 [.agg (zw w)] st R:=
 Ho (zzi w hw hn) st R λr ⟨z,e,hz⟩=>e▸h z hz
theorem zwv(w:Wld)(hU:w.U.length<=1000000)(id:Int)(st:Store)(R:Ja)(h:R (int (C0 (w.U.findIdx? λu=>decide (u.id=id)))) st):Jb 59 [.agg (zw w),int id] st R:=by
 refine Qa (c:=cfg 22) zb Tryz.func59 ?_
 refine AWp.loop (σ:=Nat) ⟨λi=>[(1,.av (int id)),(2,.bx 2 0),(5,.av (int (i:Nat)))],λ_=>[(2,zw w)],
  λi st'=>i<=w.U.length/\st'=st/\∀j,(hj:j<w.U.length)->j<i->w.U[j].id≠id,λi=>w.U.length-i⟩ zb ?_ ?_
 ·exact⟨0,Tv,⟨Faj _,rfl,λj _ hj=>by omega⟩,Qal,⟨rfl,Tv⟩⟩
 rintro i st' ⟨hi,rfl,hall⟩
 refine zj (λh1=>?_) (λh1=>?_)
 rotate_left
 ·have:i=w.U.length:=Af h1 hi
  subst this
  have e:(w.U.findIdx? λu=>decide (u.id=id))=none:=by
   rw[Fbq]
   intro x hx
   obtain⟨j,hj,rfl⟩:=Fai hx
   exact decide_eq_false (hall j hj hj)
  rw[e]at h
  exact ret h
 have hlt:=wj h1
 refine⟨i,rfl,za _ (zr hlt) ?_⟩
 refine z6 (λc1=>?_) (λc1=>?_)
 ·have e:(w.U.findIdx? λu=>decide (u.id=id))=some i:=by
   rw[Fbh]
   exact⟨hlt,decide_eq_true c1,λj hj=>by simpa using hall j (by omega) hj⟩
  rw[e]at h
  exact ret h
 ·refine Qd ?_
  refine⟨i+1,?_,⟨by omega,rfl,λj hj hj2=>?_⟩,Qal,⟨rfl,Tv⟩⟩
  ·show w.U.length-(i+1)<w.U.length-i
   omega
  ·by_cases e:j=i
   ·subst e;exact c1
   ·exact hall j hj (by omega)
theorem og{l:List Unt}{i:Nat}(hi:i<l.length)(id:Int):zv (l.take (i+1)) id=zv (l.take i) id++(if l[i].inn=id then [l[i].id]else []):=by
 unfold zv
 rw[Fae hi,Fc5,Fbe]
 by_cases h:l[i].inn=id<;>simp[h]
theorem zvu(w:Wld)(hU:w.U.length<=1000000)(id:Int)(st:Store)(R:Ja)(h:R (qa (zv w.U id)) st):Jb 71 [.agg (zw w),int id] st R:=by
 refine Qa (c:=cfg 32) zb Tryz.func71 ?_
 refine AWp.loop (σ:=Nat×AV) ⟨λx=>[(1,.av (int id)),(2,.bx 2 0),(5,.av x.2),(6,.av (int (x.1:Nat)))],λ_=>[(2,zw w)],
  λx st'=>x.1<=w.U.length/\App 1 st x.2 (rws zz (zv (w.U.take x.1) id)) st',λx=>w.U.length-x.1⟩ zb ?_ ?_
 ·exact⟨(0,_),Tv,⟨Faj _,App.start 1 st⟩,⟨Tq,Tq,Tq,Tq,Tv⟩,⟨rfl,Tv⟩⟩
 rintro⟨i,v⟩ st' ⟨hi,ha⟩
 dsimp only at hi ha⊢
 refine zj (λh1=>?_) (λh1=>?_)
 rotate_left
 ·have:i=w.U.length:=Af h1 hi
  subst this
  rw[Faz]at ha
  exact⟨_,st,AV.le_trans ha.le (Tt),ha.has,h⟩
 have hlt:=wj h1
 have hs:=og hlt id
 have hl1:(zv (w.U.take i) id).length<=1000000:=by
  have h1:=O4 (l:=w.U) i id
  have h2:(zv w.U id).length<=w.U.length:=by unfold zv;rw[Faq];exact Fbz _ _
  omega
 refine⟨i,rfl,za _ (zr hlt) ?_⟩
 refine z6 (λc1=>?_) (λc1=>?_)
 ·rw[if_pos c1]at hs
  refine⟨i,rfl,za _ (zr hlt) ?_⟩
  refine⟨by decide,?_⟩
  refine Gt (ie:=ti2) (rows':=[zz w.U[i].id]) ha ?_ ?_ ⟨?_,?_⟩ (λv3 st3 ha3=>?_)
  ·rfl
  ·rfl
  ·simp only[zm,Fa1,ti2];omega
  ·simp only[zm,Fa1];omega
  refine Qd ?_
  refine⟨(i+1,v3),?_,⟨by dsimp only;omega,?_⟩,Qal,⟨rfl,Tv⟩⟩
  ·show w.U.length-(i+1)<w.U.length-i
   omega
  ·dsimp only
   rw[hs]
   unfold rws
   rw[Fbe]
   exact ha3
 ·rw[if_neg c1,Fbp]at hs
  refine Qd ?_
  refine⟨(i+1,v),?_,⟨by dsimp only;omega,?_⟩,Qal,⟨rfl,Tv⟩⟩
  ·show w.U.length-(i+1)<w.U.length-i
   omega
  ·dsimp only
   rw[hs]
   exact ha
theorem zw2(w:Wld)(hg:zn w.G)(hB:w.B.length<=1000000000000)(hb:∀b∈w.B,yc b/\onP w.G b)(hU:w.U.length<=1000000)(hn:∀u∈w.U,u.pos.ok)(hk:∀u∈w.U,vy u.kind)(id k:Int)(hkk:vy k)(q:Vc)(hq:q.ok)(st:Store)(R:Ja)
  (h:∀z:Bool,(z=true↔qf w id k q)->R (V.bool z) st):Jb 70 [.agg (zw w),int id,int k,.agg (zy q)] st R:=by
 have no:¬qf w id k q->R (V.bool false) st:=λhh=>h false (by simp only[Fad,false_iff];exact hh)
 have hr:=Bi k
 have hplace:qf w id k q->qm q.1 q.2:=λhh=>by
  have h1:=hh.1.1
  have h2:=hg.1
  have h3:=hg.2.1
  unfold qm
  omega
 refine Qa (c:=cfg 79) zb Tryz.func70 ?_
 refine Ns k hkk _ _ ?_
 refine bcd (λc1=>ret (no λhh=>by have:=hplace hh;unfold qm at this;omega)) (λc1=>?_)
 refine bcd (λc2=>ret (no λhh=>by have:=hplace hh;unfold qm at this;omega)) (λc2=>?_)
 refine bcd (λc3=>ret (no λhh=>by have:=hplace hh;unfold qm at this;omega)) (λc3=>?_)
 refine bcd (λc4=>ret (no λhh=>by have:=hplace hh;unfold qm at this;omega)) (λc4=>?_)
 have e1:Int.negSucc 1099511627775=-1099511627776:=rfl
 refine zwt w.G hg w.B hB hb (yu k) (I9 k) q (by unfold qm;omega) (zp k) ⟨hr.1,by omega⟩ _ _ (λz hz=>?_)
 refine ym ?_
 refine zj (λc5=>?_) (λc5=>ret (no λhh=>by have:=hz.2 hh.1;rw[this]at c5;cases c5))
 have hfree:=hz.1 c5
 refine AWp.loop (σ:=Nat) ⟨λi=>[(1,.av (int id)),(4,.bx 4 0),(7,.bx 7 0),(9,.bx 9 0),(10,.av (int (i:Nat)))],λ_=>[(4,zw w),(7,zy q),(9,Cw k)],
  λi st'=>i<=w.U.length/\st'=st/\∀j,(hj:j<w.U.length)->j<i->w.U[j].inn=0->w.U[j].id≠id->jx q (zp k) w.U[j].pos (zp w.U[j].kind)=true,λi=>w.U.length-i⟩ zb ?_ ?_
 ·exact⟨0,Tv,⟨Faj _,rfl,λj _ hj=>by omega⟩,Qal,⟨rfl,rfl,rfl,Tv⟩⟩
 rintro i st' ⟨hi,rfl,hall⟩
 refine zj (λh1=>?_) (λh1=>?_)
 rotate_left
 ·have:i=w.U.length:=Af h1 hi
  subst this
  refine ret (h true (by
   simp only[true_iff]
   refine⟨hfree,λu hu h0 hne=>?_⟩
   obtain⟨j,hj,rfl⟩:=Fai hu
   exact hall j hj hj h0 hne))
 have hlt:=wj h1
 have hui:=Faa hlt
 have next:(w.U[i].inn=0->w.U[i].id≠id->jx q (zp k) w.U[i].pos (zp w.U[i].kind)=true)->∀j,(hj:j<w.U.length)->j<i+1->w.U[j].inn=0->w.U[j].id≠id->jx q (zp k) w.U[j].pos (zp w.U[j].kind)=true:=λhh j hj hji=>by
  by_cases e:j=i
  ·subst e;exact hh
  ·exact hall j hj (by omega)
 refine⟨i,rfl,za _ (zr hlt) ?_⟩
 refine Qc zb zsd ?_
 refine z6 (λc6=>?_) (λc6=>?_)
 rotate_left
 ·refine Qao ?_
  refine Qap ?_
  refine Qd ?_
  refine⟨i+1,?_,⟨by omega,rfl,next λh0=>absurd h0 c6⟩,Qal,⟨rfl,rfl,rfl,Tv⟩⟩
  show w.U.length-(i+1)<w.U.length-i
  omega
 refine qr (λc7=>?_) (λc7=>?_)
 rotate_left
 ·refine Qao ?_
  refine Qap ?_
  refine Qd ?_
  refine⟨i+1,?_,⟨by omega,rfl,next λ_ hne=>absurd c7 hne⟩,Qal,⟨rfl,rfl,rfl,Tv⟩⟩
  show w.U.length-(i+1)<w.U.length-i
  omega
 have hr2:=Bi w.U[i].kind
 refine⟨Ns w.U[i].kind (hk _ hui) _ _ ⟨Qe,?_⟩,Tv⟩
 refine⟨zw4 q (zp k) w.U[i].pos (zp w.U[i].kind) hq (hn _ hui) ⟨hr.1,by omega⟩ ⟨hr2.1,by omega⟩ _ _ ⟨Tv,?_⟩,Tv⟩
 refine ym ?_
 refine zj (λc8=>?_) (λc8=>ret (no λhh=>by have:=hh.2 _ hui c6 c7;rw[this]at c8;cases c8))
 refine Qd ?_
 refine⟨i+1,?_,⟨by omega,rfl,next λ_ _=>c8⟩,Qal,⟨rfl,rfl,rfl,Tv⟩⟩
 show w.U.length-(i+1)<w.U.length-i
 omega
theorem stOf{s g:Int}:(!((s==1)==(g !=-1)))=false↔(s=1↔g≠-1):=by
 by_cases h1:s=1<;>by_cases h2:g=-1<;>simp[bne,bm,h1,h2]
theorem zz6(k:Int)(st:Store)(R:Ja)(h:∀z a b c d e,(z=true↔vy k)->R (.tup [.agg [int a,int b,int c,int d,int e],V.bool z]) st):Jb 67 [int k] st R:=
 nw k st R (λhk=>h true _ _ _ _ _ (by simp only[true_iff];exact hk)) (λhk=>h false 0 0 0 0 0 (by simp only[Fad,false_iff];exact hk))
theorem zws(w:Wld)(hw:w.fits)(st:Store)(R:Ja)(h:∀z:Bool,(z=true↔Gj w/\Gz w)->R (V.bool z) st):Jb 69 [.agg (zw w)] st R:=by
 obtain⟨hw1,hw2,hw3⟩:=hw
 have no:¬(Gj w/\Gz w)->R (V.bool false) st:=λhh=>h false (by simp only[Fad,false_iff];exact hh)
 refine Qa (c:=cfg 218) zb Tryz.func69 ?_
 refine zyg w.tick 1099511627776 _ _ (λz hz=>?_)
 refine ym ?_
 refine zj (λc0=>?_) (λc0=>ret (no λq=>by have:=hz.2 q.1.1.1;rw[this]at c0;cases c0))
 have htick:=hz.1 c0
 refine bcd (λc1=>ret (no λq=>by have:=q.1.1;omega)) (λc1=>?_)
 refine bcd (λc2=>ret (no λq=>by have:=q.1.1;omega)) (λc2=>?_)
 refine bcd (λc3=>ret (no λq=>by have:=q.1.1;omega)) (λc3=>?_)
 refine bcd (λc4=>ret (no λq=>by have:=q.1.1;omega)) (λc4=>?_)
 refine zw3 w.G hw1 w.B hw2 _ _ (λz hz=>?_)
 refine ym ?_
 refine zj (λc5=>?_) (λc5=>ret (no λq=>by have:=hz.2 ⟨q.1.2.1.1,q.1.2.1.2.1⟩;rw[this]at c5;cases c5))
 obtain⟨hg,hbl⟩:=hz.1 c5
 have hBl:w.B.length<=256:=hbl.1
 have hUl:((rws zk w.U).length:Int)=(w.U.length:Int):=by rw[zm]
 refine bcd (λc6=>ret (no λq=>by have:=q.1.2.1.2.2;omega)) (λc6=>?_)
 refine AWp.loop (σ:=Nat) ⟨λi=>[(1,.bx 1 0),(3,.av (int (i:Nat)))],λ_=>[(1,zw w)],
  λi st'=>i<=w.B.length/\st'=st/\∀j,(hj:j<w.B.length)->j<i->w.B[j].owner<=w.players/\w.B[j].id<w.next,λi=>w.B.length-i⟩ zb ?_ ?_
 ·exact⟨0,Tv,⟨Faj _,rfl,λj _ hj=>by omega⟩,⟨Tq,Tq,Tv⟩,⟨rfl,Tv⟩⟩
 rintro i st' ⟨hi,rfl,hall⟩
 refine zj (λh1=>?_) (λh1=>?_)
 ·have hlt:=wj h1
  refine Qc zb zse ?_
  refine⟨i,rfl,za _ (zr hlt) ?_⟩
  refine bcd (λc7=>ret (no λq=>by have:=q.1.2.2 _ (Faa hlt);omega)) (λc7=>?_)
  refine⟨i,rfl,za _ (zr hlt) ?_⟩
  refine bcd (λc8=>ret (no λq=>by have:=q.1.2.2 _ (Faa hlt);omega)) (λc8=>?_)
  refine Qd ?_
  refine⟨i+1,?_,⟨by omega,rfl,λj hj hji=>?_⟩,⟨Tq,Tq,Tv⟩,⟨rfl,Tv⟩⟩
  ·show w.B.length-(i+1)<w.B.length-i
   omega
  ·by_cases e:j=i
   ·subst e;omega
   ·exact hall j hj (by omega)
 have hie:i=w.B.length:=Af h1 hi
 subst hie
 have hhead:Gj w:=⟨⟨htick,by omega⟩,⟨hg,hbl,by omega⟩,λb hb=>by
  obtain⟨j,hj,rfl⟩:=Fai hb
  exact hall j hj hj⟩
 refine AWp.loop (σ:=Nat) ⟨λi=>[(1,.bx 1 0),(4,.av (int (i:Nat)))],λ_=>[(1,zw w)],
  λi st2=>i<=w.U.length/\st2=st'/\Fw w i,λi=>w.U.length-i⟩ zb ?_ ?_
 ·exact⟨0,Tv,⟨Faj _,rfl,λj _ hj=>by omega⟩,⟨Tq,Tq,Tv⟩,⟨rfl,Tv⟩⟩
 rintro i st2 ⟨hi,rfl,hup⟩
 refine zj (λh2=>?_) (λh2=>?_)
 rotate_left
 ·have:i=w.U.length:=Af h2 hi
  subst this
  exact ret (h true (by simp only[true_iff];exact⟨hhead,dq hup⟩))
 have hlt:=wj h2
 have nou:¬((xt w w.U[i]/\∀b∈w.B,b.id≠w.U[i].id)/\(0<i->(w.U[i-1]'(by omega)).id<w.U[i].id))->R (V.bool false) st2:=λhq=>no λq=>hq (dp q.2 (i+1) i hlt (by omega))
 refine⟨i,rfl,za _ (zr hlt) ?_⟩
 refine zz6 w.U[i].kind _ _ (λkz ka kb kc kd ke hk=>?_)
 refine Qc zb zsg ?_
 have skip2:∀{p q:Prop},¬((xt w w.U[i]/\∀b∈w.B,b.id≠w.U[i].id)/\(0<i->(w.U[i-1]'(by omega)).id<w.U[i].id))->∃r st',AV.le (V.bool false) r/\st2.Has st'/\R r st':=λhq=>ret (nou hq)
 refine bcd (λc7=>⟨⟨Tv,⟨⟨Tv,ret (nou λq=>by have:=q.1.1.1;omega)⟩,Tv⟩⟩,Tv⟩) (λc7=>?_)
 refine bcd (λc8=>⟨⟨Tv,⟨⟨Tv,ret (nou λq=>by have:=q.1.1.1;omega)⟩,Tv⟩⟩,Tv⟩) (λc8=>?_)
 refine bcd (λc9=>?_) (λc9=>?_)
 refine Qd ?_
 refine⟨i-1,by omega,za _ (zr (show i-1<w.U.length by omega)) ?_⟩
 refine bcd (λc9b=>⟨⟨Tv,⟨⟨Tv,ret (nou λq=>by have:=q.2 (by omega);omega)⟩,Tv⟩⟩,Tv⟩) (λc9b=>?_)
 have hrise:0<i->(w.U[i-1]'(by omega)).id<w.U[i].id:=λ_=>by omega
 rotate_left
 have hrise:0<i->(w.U[i-1]'(by omega)).id<w.U[i].id:=λh0=>absurd h0 (by omega)
 all_goals
  refine bcd (λc10=>⟨⟨Tv,⟨⟨Tv,ret (nou λq=>by have:=q.1.1.1.2.1;omega)⟩,Tv⟩⟩,Tv⟩) (λc10=>?_)
  refine bcd (λc11=>⟨⟨Tv,⟨⟨Tv,ret (nou λq=>by have:=q.1.1.1.2.1;omega)⟩,Tv⟩⟩,Tv⟩) (λc11=>?_)
  refine ym ?_
  refine zj (λck=>?_) (λck=>⟨⟨Tv,⟨⟨Tv,ret (nou λq=>by have:=hk.2 q.1.1.1.2.2;rw[this]at ck;cases ck)⟩,Tv⟩⟩,Tv⟩)
  have hkind:=hk.1 ck
  refine qr (λc12=>?_) (λc12=>?_)
  refine⟨et w.G w.U[i].goal hg _ _ (λz1 hz1=>⟨Tv,?_⟩),Tv⟩
  refine ym ?_
  refine zj (λc12b=>?_) (λc12b=>⟨⟨Tv,ret (nou λq=>by have:=q.1.1.2.1.1;unfold vg at this;have:=hz1.2 (this.resolve_left c12);rw[this]at c12b;cases c12b)⟩,Tv⟩)
  have ht1:vg w.G w.U[i].goal:=.inr (hz1.1 c12b)
  rotate_left
  refine Qap ?_
  have ht1:vg w.G w.U[i].goal:=.inl c12
  all_goals
   refine qr (λc13=>?_) (λc13=>?_)
   refine⟨et w.G w.U[i].next hg _ _ (λz2 hz2=>⟨Tv,?_⟩),Tv⟩
   refine ym ?_
   refine zj (λc14=>?_) (λc14=>ret (nou λq=>by have:=q.1.1.2.1.2.1;unfold vg at this;have:=hz2.2 (this.resolve_left c13);rw[this]at c14;cases c14))
   have ht2:vg w.G w.U[i].next:=.inr (hz2.1 c14)
   rotate_left
   refine Qap ?_
   have ht2:vg w.G w.U[i].next:=.inl c13
   all_goals
    refine bcd (λd1=>ret (nou λq=>by have:=q.1.1.2.1.2.2;omega)) (λd1=>?_)
    refine bcd (λd2=>ret (nou λq=>by have:=q.1.1.2.1.2.2;omega)) (λd2=>?_)
    refine bcd (λd3=>ret (nou λq=>by have:=q.1.1.2.2.1.1;omega)) (λd3=>?_)
    refine bcd (λd4=>ret (nou λq=>by have:=q.1.1.2.2.1.1;omega)) (λd4=>?_)
    refine zj (λd5=>ret (nou λq=>by have:=stOf.2 q.1.1.2.2.1.2;rw[this]at d5;cases d5)) (λd5=>?_)
    have hst:=stOf.1 d5
    have go:(w.U[i].goal=-1->w.U[i].next=-1/\w.U[i].stuck=0)->xt w w.U[i]:=λhq=>⟨⟨by omega,by omega,hkind⟩,⟨ht1,ht2,by omega⟩,⟨by omega,hst⟩,hq⟩
    refine z6 (λd6=>?_) (λd6=>?_)
    refine qr (λd7=>ret (nou λq=>d7 (q.1.1.2.2.2 d6).1)) (λd7=>?_)
    refine qr (λd8=>ret (nou λq=>d8 (q.1.1.2.2.2 d6).2)) (λd8=>?_)
    have hunt:=go λ_=>⟨d7,d8⟩
    rotate_left
    have hunt:=go λe=>absurd e d6
    all_goals
     refine AWp.loop (σ:=Nat) ⟨λk=>[(1,.bx 1 0),(4,.av (int (i:Nat))),(5,.bx 5 0),(8,.av (int (k:Nat)))],λ_=>[(1,zw w),(5,zk w.U[i])],
      λk st3=>k<=w.B.length/\st3=st2/\∀j,(hj:j<w.B.length)->j<k->w.B[j].id≠w.U[i].id,λk=>w.B.length-k⟩ zb ?_ ?_
     ·exact⟨0,Tv,⟨Faj _,rfl,λj _ hj=>by omega⟩,Qal,⟨rfl,rfl,Tv⟩⟩
     rintro k st3 ⟨hk3,rfl,hne⟩
     refine zj (λe1=>?_) (λe1=>?_)
     ·have hkl:=wj e1
      refine Qc zb zsf ?_
      refine⟨k,rfl,za _ (zr hkl) ?_⟩
      refine z6 (λe2=>ret (nou λq=>q.1.2 _ (Faa hkl) e2)) (λe2=>?_)
      refine Qd ?_
      refine⟨k+1,?_,⟨by omega,rfl,λj hj hjk=>?_⟩,Qal,⟨rfl,rfl,Tv⟩⟩
      ·show w.B.length-(k+1)<w.B.length-k
       omega
      ·by_cases e:j=k
       ·subst e;exact e2
       ·exact hne j hj (by omega)
     have hke:k=w.B.length:=Af e1 hk3
     subst hke
     refine Qd ?_
     refine⟨i+1,?_,⟨by omega,rfl,λj hj hji=>?_⟩,⟨Tq,Tq,Tv⟩,⟨rfl,Tv⟩⟩
     ·show w.U.length-(i+1)<w.U.length-i
      omega
     ·by_cases e:j=i
      ·subst e
       refine⟨⟨hunt,λb hb=>?_⟩,hrise⟩
       obtain⟨m,hm,rfl⟩:=Fai hb
       exact hne m hm hm
      ·exact hup j hj (by omega)
theorem zwf(w:Wld)(hw:w.fits)(hn:∀u∈w.U,u.pos.ok)(st:Store)(R:Ja)(h:∀z:Bool,(z=true↔z7 w)->R (V.bool z) st):Jb 20 [.agg (zw w)] st R:=by
 have no:¬z7 w->R (V.bool false) st:=λhh=>h false (by simp only[Fad,false_iff];exact hh)
 refine Qa (c:=cfg 98) zb Tryz.func20 ?_
 refine zws w hw _ _ (λz hz=>?_)
 refine ym ?_
 refine zj (λc1=>?_) (λc1=>ret (no λq=>by have:=hz.2 q.1;rw[this]at c1;cases c1))
 obtain⟨hh,hok⟩:=hz.1 c1
 have hg:=hh.2.1.1
 have hbl:=hh.2.1.2.1
 have hBl:w.B.length<=256:=hbl.1
 have hU:w.U.length<=4096:=hh.2.1.2.2
 have hbb:∀b∈w.B,yc b/\onP w.G b:=λb hb=>⟨(hbl.2.2.1 b hb).1,(hbl.2.2.1 b hb).2.1⟩
 have hkk:∀u∈w.U,vy u.kind:=λu hu=>(hok.2 u hu).1.1.2.2
 refine AWp.loop (σ:=Nat) ⟨λi=>[(1,.bx 1 0),(3,.av (int (i:Nat)))],λ_=>[(1,zw w)],
  λi st'=>i<=w.U.length/\st'=st/\∀j,(hj:j<w.U.length)->j<i->(w.U[j].inn=0->qf w w.U[j].id w.U[j].kind w.U[j].pos)/\(w.U[j].inn≠0->wu w w.U[j]),λi=>w.U.length-i⟩ zb ?_ ?_
 ·exact⟨0,Tv,⟨Faj _,rfl,λj _ hj=>by omega⟩,⟨Tq,Tq,Tv⟩,⟨rfl,Tv⟩⟩
 rintro i st' ⟨hi,rfl,hall⟩
 refine zj (λh1=>?_) (λh1=>?_)
 rotate_left
 ·have:i=w.U.length:=Af h1 hi
  subst this
  refine ret (h true (by
   simp only[true_iff]
   refine⟨⟨hh,hok⟩,λu hu h0=>?_,λu hu h0=>?_⟩
   ·obtain⟨j,hj,rfl⟩:=Fai hu
    exact(hall j hj hj).1 h0
   ·obtain⟨j,hj,rfl⟩:=Fai hu
    exact(hall j hj hj).2 h0))
 have hlt:=wj h1
 have hui:=Faa hlt
 have next:((w.U[i].inn=0->qf w w.U[i].id w.U[i].kind w.U[i].pos)/\(w.U[i].inn≠0->wu w w.U[i]))->∀j,(hj:j<w.U.length)->j<i+1->(w.U[j].inn=0->qf w w.U[j].id w.U[j].kind w.U[j].pos)/\(w.U[j].inn≠0->wu w w.U[j]):=λhq j hj hji=>by
  by_cases e:j=i
  ·subst e;exact hq
  ·exact hall j hj (by omega)
 refine⟨i,rfl,za _ (zr hlt) ?_⟩
 refine z6 (λc2=>?_) (λc2=>?_)
 ·refine zw2 w hg (by omega) hbb (by omega) hn hkk w.U[i].id w.U[i].kind (hkk _ hui) w.U[i].pos (hn _ hui) _ _ (λz hz=>?_)
  refine ym ?_
  refine zj (λc3=>?_) (λc3=>ret (no λq=>by have:=hz.2 (q.2.1 _ hui c2);rw[this]at c3;cases c3))
  refine Qd ?_
  refine⟨i+1,?_,⟨by omega,rfl,next ⟨λ_=>hz.1 c3,λhne=>absurd c2 hne⟩⟩,⟨Tq,Tq,Tv⟩,⟨rfl,Tv⟩⟩
  show w.U.length-(i+1)<w.U.length-i
  omega
 have nou:¬wu w w.U[i]->R (V.bool false) st':=λhq=>no λq=>hq (q.2.2 _ hui c2)
 refine zwv w (by omega) w.U[i].inn _ _ ?_
 cases hf:w.U.findIdx? λu=>decide (u.id=w.U[i].inn)with
 |none=>
  have hno:¬wu w w.U[i]:=λ⟨x,hx,e,_⟩=>by
   rw[Fbq]at hf
   have:=hf x hx
   rw[decide_eq_false_iff_not]at this
   exact this e
  refine Qc zb gq ?_
  exact⟨⟨Qe,⟨⟨Qe,⟨⟨Qe,ret (nou hno)⟩,Tv⟩⟩,Tv⟩⟩,Tv⟩
 |some k=>
  rw[Fbh]at hf
  obtain⟨hkl,hkid,_⟩:=hf
  have hkid:=of_decide_eq_true hkid
  have uniq:wu w w.U[i]->(w.U[k].inn=0/\w.U[k].owner=w.U[i].owner)/\((zv w.U w.U[i].inn).length:Int)<=xi w.U[k].kind:=λ⟨x,hx,e,e2,e3,_⟩=>by
   have:=Gb hok.1 hx (Faa hkl) (by rw[e,hkid])
   subst this
   exact⟨e2,e3⟩
  refine Qc zb gq ?_
  refine⟨k,rfl,za _ (zr hkl) ?_⟩
  refine qr (λc4=>⟨⟨Qe,⟨⟨Qe,⟨⟨Qe,ret (nou (λq=>c4 (uniq q).1.1))⟩,Tv⟩⟩,Tv⟩⟩,Tv⟩) (λc4=>?_)
  refine⟨k,rfl,za _ (zr hkl) ?_⟩
  refine qr (λc5=>⟨⟨Qe,⟨⟨Qe,⟨⟨Qe,ret (nou (λq=>c5 (uniq q).1.2))⟩,Tv⟩⟩,Tv⟩⟩,Tv⟩) (λc5=>?_)
  refine⟨Ns w.U[i].kind (hkk _ hui) _ _ ⟨Qe,?_⟩,Tv⟩
  refine bcd (λc6=>⟨⟨Qe,⟨⟨Qe,ret (nou (λ⟨x,_,_,_,_,e,_⟩=>by omega))⟩,Tv⟩⟩,Tv⟩) (λc6=>?_)
  have hroom:xi w.U[i].kind=0:=by have:=I8 w.U[i].kind;omega
  refine⟨k,rfl,za _ (zr hkl) ?_⟩
  refine⟨zvu w (by omega) w.U[i].inn _ _ ⟨?_,?_⟩,Tv⟩
  ·repeat(first|exact Tv|refine⟨rfl,?_⟩|refine⟨⟨k,rfl,za _ (zr hkl) rfl⟩,?_⟩)
  refine⟨Ns w.U[k].kind (hkk _ (Faa hkl)) _ _ ⟨?_,?_⟩,Tv⟩
  ·repeat(first|exact Tv|refine⟨rfl,?_⟩)
  have hrl:((rws zz (zv w.U w.U[i].inn)).length:Int)=((zv w.U w.U[i].inn).length:Int):=by rw[zm]
  refine bcd (λc7=>ret (nou λq=>by have:=(uniq q).2;omega)) (λc7=>?_)
  refine ym ?_
  refine zj (λc8=>?_) (λc8=>ret (nou λ⟨x,_,_,_,_,_,e,_⟩=>by rw[e]at c8;cases c8))
  have hpos:w.U[i].pos=(0,0):=by
   have:(w.U[i].pos.1==0&&(w.U[i].pos.2==0&&true))=true:=c8
   simp at this
   exact Prod.ext this.1 this.2
  refine qr (λc9=>ret (nou λ⟨x,_,_,_,_,_,_,e,_⟩=>c9 e)) (λc9=>?_)
  refine qr (λc10=>ret (nou λ⟨x,_,_,_,_,_,_,_,e⟩=>c10 e)) (λc10=>?_)
  refine Qd ?_
  refine⟨i+1,?_,⟨by omega,rfl,next ⟨λh0=>absurd h0 c2,λ_=>⟨w.U[k],Faa hkl,hkid,⟨c4,c5⟩,by omega,hroom,hpos,c9,c10⟩⟩⟩,⟨Tq,Tq,Tv⟩,⟨rfl,Tv⟩⟩
  show w.U.length-(i+1)<w.U.length-i
  omega
end Go.Proofs
namespace Go.Proofs
open Go Go.V
set_option maxRecDepth 20000
set_option maxHeartbeats 4000000
section
variable {NT NB NU:Store} {w:Wld} {vT vB vU:AV}
theorem jl(u:Bld):(zi u).length=6:=rfl
theorem Mm(b:Bld):∀y∈zi b,∃x,y=AV.s x/\qo x=true:=by
 intro y hy
 simp[zi]at hy
 rcases hy with rfl|rfl|rfl|rfl|rfl|rfl<;>exact⟨_,rfl,rfl⟩
theorem M8(c:UInt8):(u8C c).length=1:=rfl
theorem R0(c:UInt8):∀y∈u8C c,∃x,y=AV.s x/\qo x=true:=by
 intro y hy
 simp[u8C]at hy
 exact⟨_,hy,rfl⟩
theorem Kn(st:Store):zh Store.empty st:=λb hb=>(hb.elim (λh=>h rfl) (λh=>h rfl):False).elim
theorem Mf(st:Store):zh Store.empty st:=λb hb=>(hb.elim (λh=>h rfl) (λh=>h rfl):False).elim
theorem yfa(l:List UInt8)(hl:l.length<=1000000000)(st:Store)(R:Ja)(h:∀v N,RowsQ 1 u8C N v l->zh N st->R v (N.un st)):Jb 139 [xc l] st R:=by
 refine Qa (c:=cfg 8) zb Tryz.func139 ?_
 intro b hb
 cases b with
 |true=>
  have:l=[]:=by
   have:=congrArg List.length (hb rfl)
   rw[zm]at this
   exact Fa0 this
  subst this
  have:=h (.s (.slice none 0 0)) Store.empty (.inl (.inl ⟨rfl,rfl⟩)) (Mf st)
  rw[vm]at this
  exact ret this
 |false=>
  refine⟨by decide,?_⟩
  exact b8 (ie:=ti5) rfl M8 (by decide) hl (λv N hv hd=>ret (h v N hv hd))
theorem Px(l:List Bld)(hl:l.length<=1000000000)(st:Store)(R:Ja)(h:∀v N,RowsQ 6 zi N v l->zh N st->R v (N.un st)):Jb 142 [lst 6 zi l] st R:=by
 refine Qa (c:=cfg 8) zb Tryz.func142 ?_
 intro b hb
 cases b with
 |true=>
  have:l=[]:=by
   have:=congrArg List.length (hb rfl)
   rw[zm]at this
   exact Fa0 this
  subst this
  have:=h (.s (.slice none 0 0)) Store.empty (.inl (.inl ⟨rfl,rfl⟩)) (Mf st)
  rw[vm]at this
  exact ret this
 |false=>
  refine⟨by decide,?_⟩
  exact b8 (ie:=ti197) rfl jl (by decide) hl (λv N hv hd=>ret (h v N hv hd))
theorem ye9(l:List Unt)(hl:l.length<=1000000000)(st:Store)(R:Ja)(h:∀v N,RowsQ 10 zk N v l->zh N st->R v (N.un st)):Jb 143 [lst 10 zk l] st R:=by
 refine Qa (c:=cfg 8) zb Tryz.func143 ?_
 intro b hb
 cases b with
 |true=>
  have:l=[]:=by
   have:=congrArg List.length (hb rfl)
   rw[zm]at this
   exact Fa0 this
  subst this
  have:=h (.s (.slice none 0 0)) Store.empty (.inl (.inl ⟨rfl,rfl⟩)) (Mf st)
  rw[vm]at this
  exact ret this
 |false=>
  refine⟨by decide,?_⟩
  exact b8 (ie:=ti36) rfl w9 (by decide) hl (λv N hv hd=>ret (h v N hv hd))
theorem V9(g:Gnd)(hg:g.T.length<=1000000000)(st:Store)(R:Ja)(h:∀v N,RowsQ 1 u8C N v g.T->zh N st->R (.agg [int g.W,int g.H,v]) (N.un st)):Jb 89 [.agg (zo g)] st R:=by
 refine Qa (c:=cfg 8) zb Tryz.func89 ?_
 refine yfa g.T hg _ _ (λv N hv hd=>?_)
 obtain⟨oa,cap,hv2,_⟩:=hv.form
 subst hv2
 exact ret (h _ N hv hd)
def Fu(w:Wld)(vT vB vU:AV):List AV:=[int w.tick,int w.players,int w.next,int w.G.W,int w.G.H,vT,vB,vU]
structure OwnQ(S:Store)(w:Wld)(vT vB vU:AV)(NT NB NU:Store):Prop where
 e:S=NU.un (NB.un NT)
 rT:RowsQ 1 u8C NT vT w.G.T
 rB:RowsQ 6 zi NB vB w.B
 rU:RowsQ 10 zk NU vU w.U
 dB:zh NB NT
 dU:zh NU (NB.un NT)
theorem Va(w:Wld)(hT:w.G.T.length<=1000000000)(hB:w.B.length<=1000000000)(hU:w.U.length<=1000000000)(R:Ja)
  (h:∀S vT vB vU NT NB NU,OwnQ S w vT vB vU NT NB NU->R (.agg (Fu w vT vB vU)) S):Jb 91 [.agg (zw w)] Store.empty R:=by
 refine Qa (c:=cfg 16) zb Tryz.func91 ?_
 refine Qc zb zr9 ?_
 refine⟨V9 w.G hT _ _ (λvT NT rT _=>⟨Qe,?_⟩),Tv⟩
 rw[Dg]
 refine⟨Px w.B hB _ _ (λvB NB rB dB=>⟨Qe,?_⟩),Tv⟩
 refine⟨ye9 w.U hU _ _ (λvU NU rU dU=>⟨Qe,?_⟩),Tv⟩
 have ho:OwnQ (NU.un (NB.un NT)) w vT vB vU NT NB NU:=⟨rfl,rT,rB,rU,dB,dU⟩
 obtain⟨_,_,e1,_⟩:=rT.form
 obtain⟨_,_,e2,_⟩:=rB.form
 obtain⟨_,_,e3,_⟩:=rU.form
 subst e1 e2 e3
 refine Qao ?_
 refine Qao ?_
 refine Qao ?_
 exact ret (h _ _ _ _ _ _ _ ho)
theorem Vb{S:Store}(h:OwnQ S w vT vB vU NT NB NU):RowsQ 1 u8C S vT w.G.T/\RowsQ 6 zi S vB w.B/\RowsQ 10 zk S vU w.U:=by
 have h1:=h.rT
 have h2:=h.rB.unL h.dB
 rw[h.e]
 exact⟨(h1.un (a:=NB)).un,h2.un,h.rU.unL h.dU⟩
theorem Vd{st:Store}(h:OwnQ st w vT vB vU NT NB NU){Oth M:Nat->Nat->Prop}{W:World}(sto:StoreOK st Oth M W){x:Value}(hx:VRel W (λb o=>M b o\/Oth b o) (.agg (Fu w vT vB vU)) x):
  VRel W (λb o=>(M b o\/Oth b o)/\st.obj b=none) (.agg (zw w)) x:=by
 obtain⟨hT,hB,hU⟩:=Vb h
 cases hx with
 |agg _ c hl hc=>
  refine .agg _ c hl λi x y hx hy=>?_
  match i with
  |0=>simp only[zw,Fan,Fah]at hx;subst hx;exact jr (hc 0 _ y rfl hy)
  |1=>simp only[zw,Far,Fan,Fah]at hx;subst hx;exact jr (hc 1 _ y rfl hy)
  |2=>simp only[zw,Far,Fan,Fah]at hx;subst hx;exact jr (hc 2 _ y rfl hy)
  |3=>simp only[zw,Far,Fan,Fah]at hx;subst hx;exact jr (hc 3 _ y rfl hy)
  |4=>simp only[zw,Far,Fan,Fah]at hx;subst hx;exact jr (hc 4 _ y rfl hy)
  |5=>simp only[zw,Far,Fan,Fah]at hx;subst hx;exact hT.borrow M8 R0 sto (hc 5 _ y rfl hy)
  |6=>simp only[zw,Far,Fan,Fah]at hx;subst hx;exact hB.borrow jl Mm sto (hc 6 _ y rfl hy)
  |7=>simp only[zw,Far,Fan,Fah]at hx;subst hx;exact hU.borrow w9 Rt sto (hc 7 _ y rfl hy)
  |i+8=>simp[zw]at hx
theorem I2{a b:Store}{i:Nat}(h:(a.un b).obj i=none):a.obj i=none/\b.obj i=none:=by
 unfold Store.un at h
 dsimp only at h
 cases hb:b.obj i with
 |none=>rw[hb]at h;exact⟨h,rfl⟩
 |some y=>rw[hb]at h;cases h
theorem lp(w:Wld)(hT:w.G.T.length<=1000000000)(hB:w.B.length<=1000000000)(hU:w.U.length<=1000000000)(R:Ja)
  (h:∀v N,RowsQ 10 zk N v w.U->R (.agg (qv w v)) N):Jb 91 [.agg (zw w)] Store.empty R:=by
 refine(Va w hT hB hU (λr S=>∃vT vB vU NT NB NU,OwnQ S w vT vB vU NT NB NU/\r=.agg (Fu w vT vB vU)) λS vT vB vU NT NB NU ho=>⟨vT,vB,vU,NT,NB,NU,ho,rfl⟩).frozenTo ?_
 rintro r S ⟨vT,vB,vU,NT,NB,NU,ho,rfl⟩
 have hk:∃N2:Store,RowsQ 10 zk N2 vU w.U/\(∀b x,N2.obj b=some x->NU.obj b=some x)/\(∀b x,N2.tok b≠some x):=by
  refine⟨⟨NU.obj,λ_=>none⟩,ho.rU.sub λ_ _ _ _=>rfl,λb x hx=>hx,λb x=>by simp⟩
 obtain⟨N2,hN,hsub,htok⟩:=hk
 refine⟨.agg (qv w vU),N2,h vU N2 hN,λb x hx=>?_,htok,λOth M W v sto hx=>?_⟩
 ·rw[ho.e]
  exact z8 ho.dU (hsub b x hx)
 ·obtain⟨rT,rB,rU⟩:=Vb ho
  cases hx with
  |agg _ c hl hc=>
   have mono1:∀{x:AV} {v:Value},VRel W (λb o=>M b o\/Oth b o) x v->VRel W (λb o=>(M b o\/Oth b o)/\(S.obj b=none\/N2.obj b≠none)) x v:=λh=>h.mono λ_ _ h=>h.1
   have mono2:∀{x:AV} {v:Value} {Z:Store},(∀b,N2.obj b≠none->Z.obj b=none)->(∀b,S.obj b=none->Z.obj b=none)->VRel W (λb o=>(M b o\/Oth b o)/\Z.obj b=none) x v->VRel W (λb o=>(M b o\/Oth b o)/\(S.obj b=none\/N2.obj b≠none)) x v:=λhz1 hz2 h=>h.mono λb _ h=>⟨h.1,h.2.elim (hz2 b) (hz1 b)⟩
   have hS:∀b,S.obj b=none->NU.obj b=none/\NB.obj b=none/\NT.obj b=none:=λb hb=>by
    rw[ho.e]at hb
    obtain⟨h1,h2⟩:=I2 hb
    exact⟨h1,(I2 h2).1,(I2 h2).2⟩
   have hN2:∀b,N2.obj b≠none->NB.obj b=none/\NT.obj b=none:=λb hb=>by
    cases hx:N2.obj b with
    |none=>exact absurd hx hb
    |some y=>
     have h1:=jb (hsub b y hx)
     have h2:=ww (ho.dU b h1)
     exact⟨(I2 h2.1).1,(I2 h2.1).2⟩
   have sNB:StoreOK NB Oth M W:=sto.weaken ⟨λb x hx=>by rw[ho.e];exact zf (z8 ho.dB hx),λb x hx=>by rw[ho.e];exact D2 (K1 ho.dB hx)⟩
   have sNT:StoreOK NT Oth M W:=sto.weaken ⟨λb x hx=>by rw[ho.e];exact zf (zf hx),λb x hx=>by rw[ho.e];exact D2 (D2 hx)⟩
   refine .agg _ c hl λi x y hx hy=>?_
   match i with
   |0=>simp only[qv,Fan,Fah]at hx;subst hx;exact mono1 (hc 0 _ y rfl hy)
   |1=>simp only[qv,Far,Fan,Fah]at hx;subst hx;exact mono1 (hc 1 _ y rfl hy)
   |2=>simp only[qv,Far,Fan,Fah]at hx;subst hx;exact mono1 (hc 2 _ y rfl hy)
   |3=>simp only[qv,Far,Fan,Fah]at hx;subst hx;exact mono1 (hc 3 _ y rfl hy)
   |4=>simp only[qv,Far,Fan,Fah]at hx;subst hx;exact mono1 (hc 4 _ y rfl hy)
   |5=>simp only[qv,Far,Fan,Fah]at hx;subst hx;exact mono2 (λb hb=>(hN2 b hb).2) (λb hb=>(hS b hb).2.2) (ho.rT.borrow M8 R0 sNT (hc 5 _ y rfl hy))
   |6=>simp only[qv,Far,Fan,Fah]at hx;subst hx;exact mono2 (λb hb=>(hN2 b hb).1) (λb hb=>(hS b hb).2.1) (ho.rB.borrow jl Mm sNB (hc 6 _ y rfl hy))
   |7=>simp only[qv,Far,Fan,Fah]at hx;subst hx;exact mono1 (hc 7 _ y rfl hy)
   |i+8=>simp[qv]at hx
end
theorem Pc(st:Store):st.Has Store.empty:=⟨λb x h=>(by cases h),λb x h=>(by cases h)⟩
theorem Qae{p:Prop}(h:p:=by unfold qm;simp at h1⊢;omega):p:=h
theorem Dd(n lo hi:Int)(st:Store)(R:Ja)(h:∀b:Bool,(b=true↔lo<=n/\n<=hi)->R (bool b) st):Jb 224 [int n,int lo,int hi] st R:=by
 refine Qa (c:=cfg 15) zb Tryz.func224 ?_
 refine zj (λh1=>?_) (λh1=>⟨_,st,Tt,Store.Has.refl st,h _ ?_⟩)
 ·refine⟨_,st,Tt,Store.Has.refl st,h _ ?_⟩
  simp at h1⊢;omega
 ·simp at h1⊢;omega
theorem zz7(n:Int)(st:Store)(R:Ja)(h:∀b:Bool,(b=true↔0<=n/\n<=3)->R (bool b) st):Jb 191 [int n] st R:=by
 refine Qa (c:=cfg 9) zb Tryz.func191 ?_
 refine zj (λh1=>?_) (λh1=>⟨_,st,Tt,Store.Has.refl st,h _ ?_⟩)
 ·refine⟨_,st,Tt,Store.Has.refl st,h _ ?_⟩
  simp at h1⊢;omega
 ·simp at h1⊢;omega
theorem zxu(x y:Int)(st:Store)(R:Ja)(h:∀b:Bool,(b=true↔qm x y)->R (bool b) st):Jb 309 [.agg [int x,int y]] st R:=by
 refine Qa (c:=cfg 21) zb Tryz.func309 ?_
 refine zj (λh1=>?_) (λh1=>⟨_,st,Tt,Store.Has.refl st,h _ Qae⟩)
 refine zj (λh2=>?_) (λh1=>⟨_,st,Tt,Store.Has.refl st,h _ Qae⟩)
 refine zj (λh3=>?_) (λh1=>⟨_,st,Tt,Store.Has.refl st,h _ Qae⟩)
 refine⟨_,st,Tt,Store.Has.refl st,h _ ?_⟩
 unfold qm
 simp at h1 h2 h3⊢;omega
theorem Rx(l:List Int)(hl:l.length<=1000000000000)(st:Store)(R:Ja)(h:∀b:Bool,(b=true↔Bq l)->R (bool b) st):Jb 310 [qa l] st R:=by
 refine Qa (c:=cfg 40) zb Tryz.func310 ?_
 refine AWp.loop (σ:=Nat) ⟨λi=>[(0,.av (qa l)),(5,.av (qa l)),(6,.av (int l.length)),(7,.av (int i))],λ_=>[],
  λi st'=>i<=l.length/\st'=st/\∀j,j<i->(1<=l.getD j 0/\l.getD j 0<=1099511627776)/\(0<j->l.getD (j-1) 0<l.getD j 0),λi=>l.length-i⟩ zb ?_ ?_
 ·refine⟨0,Tv,⟨Faj _,rfl,λj hj=>by omega⟩,⟨Tq,Tq,?_,Tq,Tv⟩,Tv⟩
  rw[<-zm (f:=zz) l]
  exact Tq
 ·rintro i st' ⟨hi,rfl,hall⟩
  refine zj (λh1=>?_) (λh1=>?_)
  ·have hlt:i<l.length:=by simpa using h1
   have hget:l.getD i 0=l[i]:=by simp[hlt]
   refine⟨i,rfl,za _ (zr hlt) ?_⟩
   have bad:¬((1<=l.getD i 0/\l.getD i 0<=1099511627776)/\(0<i->l.getD (i-1) 0<l.getD i 0))->∀b:Bool,b=false->(b=true↔Bq l):=by
    rintro hb _ rfl
    simp only[Fad,false_iff]
    exact λhu=>hb (hu.2 i hlt)
   have go:((1<=l.getD i 0/\l.getD i 0<=1099511627776)/\(0<i->l.getD (i-1) 0<l.getD i 0))->∀j,j<i+1->(1<=l.getD j 0/\l.getD j 0<=1099511627776)/\(0<j->l.getD (j-1) 0<l.getD j 0):=by
    intro hb j hj
    by_cases hji:j=i
    ·subst hji;exact hb
    ·exact hall j (by omega)
   refine zj (λh2=>⟨_,st',Tt,Store.Has.refl st',h _ (bad (by rw[hget];simp at h2;omega) _ rfl)⟩) (λh2=>?_)
   refine zj (λh3=>⟨_,st',Tt,Store.Has.refl st',h _ (bad (by rw[hget];simp at h3;omega) _ rfl)⟩) (λh3=>?_)
   refine zj (λh4=>?_) (λh4=>?_)
   ·have h4:0<i:=by simpa using h4
    have hget1:l.getD (i-1) 0=l[i-1]:=by simp[show i-1<l.length by omega]
    refine⟨⟨by omega,by omega⟩,?_⟩
    refine⟨i-1,by omega,za _ (zr (show i-1<l.length by omega)) ?_⟩
    refine zj (λh5=>⟨_,st',Tt,Store.Has.refl st',h _ (bad (by rw[hget,hget1];simp at h5;omega) _ rfl)⟩) (λh5=>?_)
    refine⟨⟨by omega,by omega⟩,?_⟩
    refine⟨i+1,?_,⟨hlt,rfl,go (by rw[hget,hget1];simp at h2 h3 h5;omega)⟩,Qal,Tv⟩
    show l.length-(i+1)<l.length-i
    omega
   ·refine⟨⟨by omega,by omega⟩,?_⟩
    refine⟨i+1,?_,⟨hlt,rfl,go (by rw[hget];simp at h2 h3 h4;omega)⟩,Qal,Tv⟩
    show l.length-(i+1)<l.length-i
    omega
  ·have hge:i=l.length:=by
    have:¬i<l.length:=by simpa using h1
    omega
   subst hge
   refine zj (λh2=>⟨_,st',Tt,Store.Has.refl st',h _ ?_⟩) (λh2=>⟨_,st',Tt,Store.Has.refl st',h _ ?_⟩)
   ·rw[zm]at h2⊢
    unfold Bq
    simp only[decide_eq_true_eq]at h2⊢
    constructor
    ·intro h3
     exact⟨by omega,hall⟩
    ·intro h3
     omega
   ·rw[zm]at h2
    unfold Bq
    simp only[decide_eq_false_iff_not]at h2
    simp only[Fad,false_iff]
    intro h3
    omega
theorem Qaf{p:Prop}(h:p:=by simp only[Fad,false_iff]at hb0⊢;simp[kk,idP,hb0]):p:=h
theorem Qag{p:Prop}(h:p:=by have q0:=hb0.1 rfl;rw[hb1];simp[kk,idP,q0]):p:=h
theorem zyc(c:Cmd)(hc:c.fits)(st:Store)(R:Ja)(h:∀b:Bool,(b=true↔c.okP)->R (.tup [.agg (qu c.only),bool b]) st):Jb 223 [.agg (qu c)] st R:=by
 refine Qa (c:=cfg 119) zb Tryz.func223 ?_
 refine zj (λk1=>?_) (λk1=>?_)
 ·have k1:c.K=1:=by simpa using k1
  have fin:∀b:Bool,(b=true↔_)->R (.tup [.agg (qu _),bool b]) st:=λb hb=>h b (hb.trans (Cmd.ok1 k1).symm)
  rw[Cmd.only1 k1]at fin
  refine Qc zb zt7 ?_
  refine Qao ?_
  refine Qap ?_
  refine zz7 c.N _ _ (λb0 hb0=>?_)
  cases b0 with
  |false=>
   refine⟨_,st,?_,Store.Has.refl st,fin false Qaf⟩
   exact AV.le_tupL ⟨AV.le_aggL ⟨Tt,Tt,Tt,Tt,AV.le_nil 1,Tt,Tt,Tt,Tt,Tt,Tv⟩,Tt,Tv⟩
  |true=>
   refine zxu c.X c.Y _ _ (λb1 hb1=>?_)
   refine⟨_,st,?_,Store.Has.refl st,fin b1 Qag⟩
   exact AV.le_tupL ⟨AV.le_aggL ⟨Tt,Tt,Tt,Tt,AV.le_nil 1,Tt,Tt,Tt,Tt,Tt,Tv⟩,Tt,Tv⟩
 have k1:c.K≠1:=by simpa using k1
 refine zj (λk2=>?_) (λk2=>?_)
 ·have k2:c.K=2:=by simpa using k2
  have fin:∀b:Bool,(b=true↔_)->R (.tup [.agg (qu _),bool b]) st:=λb hb=>h b (hb.trans (Cmd.ok2 k2).symm)
  rw[Cmd.only2 k2]at fin
  refine Qc zb zt6 ?_
  refine Qao ?_
  refine Qap ?_
  refine Rx c.U hc _ _ (λb0 hb0=>?_)
  cases b0 with
  |false=>
   refine⟨_,st,?_,Store.Has.refl st,fin false Qaf⟩
   exact AV.le_tupL ⟨AV.le_aggL ⟨Tt,Tt,Tt,Tt,Tt,Tt,Tt,Tt,Tt,Tt,Tv⟩,Tt,Tv⟩
  |true=>
   refine Dd c.T 0 16383 _ _ (λb1 hb1=>?_)
   refine⟨_,st,?_,Store.Has.refl st,fin b1 Qag⟩
   exact AV.le_tupL ⟨AV.le_aggL ⟨Tt,Tt,Tt,Tt,Tt,Tt,Tt,Tt,Tt,Tt,Tv⟩,Tt,Tv⟩
 have k2:c.K≠2:=by simpa using k2
 refine zj (λk3=>?_) (λk3=>?_)
 ·have k3:c.K=3:=by simpa using k3
  have fin:∀b:Bool,(b=true↔_)->R (.tup [.agg (qu _),bool b]) st:=λb hb=>h b (hb.trans (Cmd.ok3 k3).symm)
  rw[Cmd.only3 k3]at fin
  refine Rx c.U hc _ _ (λb0 hb0=>?_)
  refine⟨_,st,?_,Store.Has.refl st,fin b0 (hb0)⟩
  exact AV.le_tupL ⟨AV.le_aggL ⟨Tt,Tt,Tt,Tt,Tt,Tt,Tt,Tt,Tt,Tt,Tv⟩,Tt,Tv⟩
 have k3:c.K≠3:=by simpa using k3
 refine zj (λk4=>?_) (λk4=>?_)
 ·have k4:c.K=4:=by simpa using k4
  have fin:∀b:Bool,(b=true↔_)->R (.tup [.agg (qu _),bool b]) st:=λb hb=>h b (hb.trans (Cmd.ok4 k4).symm)
  rw[Cmd.only4 k4]at fin
  refine Qc zb zua ?_
  refine Qao ?_
  refine Qao ?_
  refine Qap ?_
  refine Dd c.T 0 16383 _ _ (λb0 hb0=>?_)
  cases b0 with
  |false=>
   refine⟨_,st,?_,Store.Has.refl st,fin false Qaf⟩
   exact AV.le_tupL ⟨AV.le_aggL ⟨Tt,Tt,Tt,Tt,AV.le_nil 1,Tt,Tt,Tt,Tt,Tt,Tv⟩,Tt,Tv⟩
  |true=>
   refine Dd c.W 1 4 _ _ (λb1 hb1=>?_)
   cases b1 with
   |false=>
    refine⟨_,st,?_,Store.Has.refl st,fin false (by simp only[Fad,false_iff]at hb1⊢;simp[kk,idP,hb1])⟩
    exact AV.le_tupL ⟨AV.le_aggL ⟨Tt,Tt,Tt,Tt,AV.le_nil 1,Tt,Tt,Tt,Tt,Tt,Tv⟩,Tt,Tv⟩
   |true=>
    refine Dd c.H 1 4 _ _ (λb2 hb2=>?_)
    refine⟨_,st,?_,Store.Has.refl st,fin b2 (by have q0:=hb0.1 rfl;have q1:=hb1.1 rfl;rw[hb2];simp[kk,idP,q0,q1])⟩
    exact AV.le_tupL ⟨AV.le_aggL ⟨Tt,Tt,Tt,Tt,AV.le_nil 1,Tt,Tt,Tt,Tt,Tt,Tv⟩,Tt,Tv⟩
 have k4:c.K≠4:=by simpa using k4
 refine zj (λk5=>?_) (λk5=>?_)
 ·have k5:c.K=5:=by simpa using k5
  have fin:∀b:Bool,(b=true↔_)->R (.tup [.agg (qu _),bool b]) st:=λb hb=>h b (hb.trans (Cmd.ok5 k5).symm)
  rw[Cmd.only5 k5]at fin
  refine Dd c.N 1 1099511627776 _ _ (λb0 hb0=>?_)
  refine⟨_,st,?_,Store.Has.refl st,fin b0 (hb0)⟩
  exact AV.le_tupL ⟨AV.le_aggL ⟨Tt,Tt,Tt,Tt,AV.le_nil 1,Tt,Tt,Tt,Tt,Tt,Tv⟩,Tt,Tv⟩
 have k5:c.K≠5:=by simpa using k5
 refine zj (λk6=>?_) (λk6=>?_)
 ·have k6:c.K=6:=by simpa using k6
  have fin:∀b:Bool,(b=true↔_)->R (.tup [.agg (qu _),bool b]) st:=λb hb=>h b (hb.trans (Cmd.ok6 k6).symm)
  rw[Cmd.only6 k6]at fin
  refine Qc zb zt9 ?_
  refine Qao ?_
  refine Qap ?_
  refine Rx c.U hc _ _ (λb0 hb0=>?_)
  cases b0 with
  |false=>
   refine⟨_,st,?_,Store.Has.refl st,fin false Qaf⟩
   exact AV.le_tupL ⟨AV.le_aggL ⟨Tt,Tt,Tt,Tt,Tt,Tt,Tt,Tt,Tt,Tt,Tv⟩,Tt,Tv⟩
  |true=>
   refine Dd c.N 1 1099511627776 _ _ (λb1 hb1=>?_)
   refine⟨_,st,?_,Store.Has.refl st,fin b1 Qag⟩
   exact AV.le_tupL ⟨AV.le_aggL ⟨Tt,Tt,Tt,Tt,Tt,Tt,Tt,Tt,Tt,Tt,Tv⟩,Tt,Tv⟩
 have k6:c.K≠6:=by simpa using k6
 refine zj (λk7=>?_) (λk7=>?_)
 ·have k7:c.K=7:=by simpa using k7
  have fin:∀b:Bool,(b=true↔_)->R (.tup [.agg (qu _),bool b]) st:=λb hb=>h b (hb.trans (Cmd.ok7 k7).symm)
  rw[Cmd.only7 k7]at fin
  refine Qc zb zt8 ?_
  refine Qao ?_
  refine Qap ?_
  refine Dd c.N 1 1099511627776 _ _ (λb0 hb0=>?_)
  cases b0 with
  |false=>
   refine⟨_,st,?_,Store.Has.refl st,fin false Qaf⟩
   exact AV.le_tupL ⟨AV.le_aggL ⟨Tt,Tt,Tt,Tt,AV.le_nil 1,Tt,Tt,Tt,Tt,Tt,Tv⟩,Tt,Tv⟩
  |true=>
   refine Dd c.T 0 16383 _ _ (λb1 hb1=>?_)
   refine⟨_,st,?_,Store.Has.refl st,fin b1 Qag⟩
   exact AV.le_tupL ⟨AV.le_aggL ⟨Tt,Tt,Tt,Tt,AV.le_nil 1,Tt,Tt,Tt,Tt,Tt,Tv⟩,Tt,Tv⟩
 have k7:c.K≠7:=by simpa using k7
 have fin:R (.tup [.agg (qu c.only),bool false]) st:=h false (by simpa using Cmd.ok0 k1 k2 k3 k4 k5 k6 k7)
 rw[Cmd.only0 k1 k2 k3 k4 k5 k6 k7]at fin
 refine⟨_,st,?_,Store.Has.refl st,fin⟩
 exact AV.le_tupL ⟨AV.le_aggL ⟨Tt,Tt,Tt,Tt,AV.le_nil 1,Tt,Tt,Tt,Tt,Tt,Tv⟩,Tt,Tv⟩
theorem ye8(c:Cmd)(hc:c.fits)(st:Store)(R:Ja)(h:∀b:Bool,(b=true↔vn c)->R (bool b) st):Jb 145 [.agg (qu c)] st R:=by
 refine Qa (c:=cfg 65) zb Tryz.func145 ?_
 refine zyc c hc _ _ (λb hb=>?_)
 have no:¬vn c->R (bool false) st:=λhn=>h false (by simpa using hn)
 cases b with
 |false=>exact⟨_,st,Tt,Store.Has.refl st,no (λhp=>by have:=hb.2 hp.1;cases this)⟩
 |true=>
  refine Dd c.P 1 8 _ _ (λb1 hb1=>?_)
  cases b1 with
  |false=>exact⟨_,st,Tt,Store.Has.refl st,no (λhp=>by have:=hb1.2 hp.2.1;cases this)⟩
  |true=>
   refine Dd c.S 0 1099511627776 _ _ (λb2 hb2=>?_)
   cases b2 with
   |false=>exact⟨_,st,Tt,Store.Has.refl st,no (λhp=>by have:=hb2.2 hp.2.2.1;cases this)⟩
   |true=>
    have hP:c.only.P=c.P/\c.only.S=c.S/\c.only.K=c.K/\(c.only.U=c.U\/c.only.U=[]):=by
     unfold Cmd.only
     repeat' split
     all_goals exact⟨rfl,rfl,rfl,by simp⟩
    refine zj (λw1=>?_) (λw1=>⟨_,st,Tt,Store.Has.refl st,no (λhp=>by rw[hp.2.2.2]at w1;simp at w1)⟩)
    refine zj (λw2=>?_) (λw2=>⟨_,st,Tt,Store.Has.refl st,no (λhp=>by rw[hp.2.2.2]at w2;simp at w2)⟩)
    refine zj (λw3=>?_) (λw3=>⟨_,st,Tt,Store.Has.refl st,no (λhp=>by rw[hp.2.2.2]at w3;simp at w3)⟩)
    refine zj (λw4=>?_) (λw4=>⟨_,st,Tt,Store.Has.refl st,no (λhp=>by rw[hp.2.2.2]at w4;simp at w4)⟩)
    refine zj (λw5=>?_) (λw5=>⟨_,st,Tt,Store.Has.refl st,no (λhp=>by rw[hp.2.2.2]at w5;simp at w5)⟩)
    refine⟨_,st,Tt,Store.Has.refl st,h _ ?_⟩
    rw[zm,zm]
    constructor
    ·intro w6
     refine⟨hb.1 rfl,hb1.1 rfl,hb2.1 rfl,?_⟩
     have hU:c.only.U=c.U:=by
      rcases hP.2.2.2 with e|e
      ·exact e
      ·rw[e]at w6
       simp at w6
       rw[e,eq_comm,<-List.length_eq_zero_iff]
       omega
     simp only[beq_iff_eq,Fax,and_true]at w1 w2 w3 w4 w5
     exact Cmd.eq_of hP.1 hP.2.1 hP.2.2.1 w1 hU w3 w4 w5 w2.1 w2.2
    ·intro hp
     rw[hp.2.2.2]
     simp
section
variable {G:Store} {s p:Nat} {w:Wld} {v o0 o1 o2:AV}
theorem xg{i:TI}{cells row rest:List AV}{K:LV->Prop}(ha:Au i.ty=true)(hs:i.size=row.length)(hc:cells=row++rest)(h:K (.av (.agg row))):partK i cells K:=by
 subst hc
 unfold partK
 rw[ha,cond_true,hs]
 have:Nat.ble row.length (row++rest).length=true:=by simp
 rw[this,cond_true]
 refine Hv ?_
 rw[Fbv (Fak _),Faz]
 exact h
theorem Iu{α:Type}{k:Nat}{f:α->List AV}(hf:∀x,(f x).length=k){l:List α}{L:List AV}{i:Nat}(hi:i<l.length):List.drop (0+i*k) ((rws f l).flatten++L)=f l[i]++((rws f (l.drop (i+1))).flatten++L):=by
 have h1:(rws f (l.take i)).flatten.length=i*k:=by rw[kr hf,Fao,Fdu (by omega)]
 rw[Fbd,No hi,Fas,<-h1,Fd8,Fas]
theorem yfs{S:Store}(R:Ja)(h:∀F p,CellsOf F p []->zh F S->R (ptr p) (F.un S)):Jb 193 [] S R:=by
 have:=ACalls.frame (a:=Store.empty) (g:=S) (λi h1=>by rcases h1 with h1|h1<;>exact absurd rfl h1) (td (λr a'=>∃p,r=ptr p/\CellsOf a' p []) (λa p h=>⟨p,rfl,h⟩)) (R':=R) (λr a' ⟨p,e,hc⟩ hd=>e▸h a' p hc hd)
 rwa [vm]at this
def svC(w:Wld)(v o0 o1 o2:AV)(p:Nat):List AV:=qv w v++[o0,o1,o2,ptr p]
def svS(G:Store)(s:Nat)(w:Wld)(v o0 o1 o2:AV)(p:Nat):Store:=G.sO s (.cells (svC w v o0 o1 o2 p))
structure StandR(F G:Store)(s p:Nat)(w:Wld)(v:AV)(L:List Ent)(o0 o1 o2:AV):Prop where
 hc:CellsOf F p L
 hd:zh F (svS G s w v o0 o1 o2 p)
 hs:G.obj s=none
 hu:RowsQ 10 zk G v w.U
 h0:I1 w 0 o0
 h1:I1 w 1 o1
 h2:I1 w 2 o2
theorem wg(G:Store)(s:Nat)(w:Wld)(v o0 o1 o2:AV)(p:Nat):(svS G s w v o0 o1 o2 p).obj s=some (.cells (svC w v o0 o1 o2 p)):=zd _ _ _
theorem F5{u:AV}{l:List Unt}(hs:G.obj s=none)(h:RowsQ 10 zk G u l):RowsQ 10 zk (svS G s w v o0 o1 o2 p) u l:=by
 rcases h with(h|⟨b,cap,L,h1,h2,h3⟩)|h
 ·exact .inl (.inl h)
 ·refine .inl (.inr ⟨b,cap,L,h1,?_,h3⟩)
  have:b≠s:=λe=>by subst e;rw[hs]at h2;cases h2
  show(G.sO s _).obj b=_
  rw[zg this]
  exact h2
 ·exact .inr h
theorem svS_has{i:Nat}:(svS G s w v o0 o1 o2 p).has i↔i=s\/G.has i:=by
 unfold svS Store.has
 by_cases hi:i=s
 ·subst hi
  simp[zd]
 ·rw[zg hi]
  simp[hi,Store.sO]
theorem Wy{F:Store}{w':Wld}{v' q0 q1 q2:AV}(h:zh F (svS G s w v o0 o1 o2 p)):zh F (svS G s w' v' q0 q1 q2 p):=λi h1 h2=>h i h1 (svS_has.2 (svS_has.1 h2))
theorem lu(w:Wld)(v:AV)(G:Store)(hu:RowsQ 10 zk G v w.U)(hU:w.U.length<=1000000)(hn:∀u∈w.U,u.pos.ok)(R:Ja)
  (h:∀F s p L o0 o1 o2,Fresh G s->StandR F G s p w v L o0 o1 o2->L.length<=w.U.length->(yg w.U->∀e,e∈L↔∃u∈w.U,u.inn=0/\e=(u.id,u.pos))->R (ptr s) (F.un (svS G s w v o0 o1 o2 p))):Jb 114 [.agg (qv w v)] G R:=by
 obtain⟨oa,cap,hv,hget⟩:=hu.form
 subst hv
 refine Qa (c:=cfg 31 [9] []) zb Tryz.func114 ?_
 refine Qc zb g8 ?_
 refine⟨yfs _ (λF p hc hdF=>⟨Qe,?_⟩),Tv⟩
 refine⟨λs hs=>⟨Tv,?_⟩,Tv⟩
 refine Qap ?_
 have hs1:¬F.has s/\¬G.has s:=by
  have:=fresh_iff.1 hs
  exact⟨λh=>this (un_has.2 (.inl h)),λh=>this (un_has.2 (.inr h))⟩
 have hsG:G.obj s=none:=(ww hs1.2).1
 have e0:(F.un G).sO s (.cells (svC w (.s (.slice oa w.U.length cap)) (.s (.slice none 0 0)) (.s (.slice none 0 0)) (.s (.slice none 0 0)) p))=F.un (svS G s w (.s (.slice oa w.U.length cap)) (.s (.slice none 0 0)) (.s (.slice none 0 0)) (.s (.slice none 0 0)) p):=by
  exact zt F G s _
 have h0:StandR F G s p w (.s (.slice oa w.U.length cap)) [] (.s (.slice none 0 0)) (.s (.slice none 0 0)) (.s (.slice none 0 0)):=⟨hc,λi h1 h2=>by
  rcases svS_has.1 h2 with rfl|h2
  ·exact hs1.1 h1
  ·exact hdF i h1 h2,hsG,hu,.inl rfl,.inl rfl,.inl rfl⟩
 have hsf:Fresh G s:=fresh_iff.2 hs1.2
 refine AWp.loop (σ:=Nat×Store×List Ent) ⟨λq=>[(3,.av (ptr s)),(11,.av (.s (.slice oa w.U.length cap))),(12,.av (int (w.U.length:Nat))),(13,.av (int (q.1:Nat)))],λ_=>[],
  λq st'=>st'=q.2.1.un (svS G s w (.s (.slice oa w.U.length cap)) (.s (.slice none 0 0)) (.s (.slice none 0 0)) (.s (.slice none 0 0)) p)/\StandR q.2.1 G s p w (.s (.slice oa w.U.length cap)) q.2.2 (.s (.slice none 0 0)) (.s (.slice none 0 0)) (.s (.slice none 0 0))/\q.1<=w.U.length/\q.2.2.length<=q.1/\(∀e∈q.2.2,e.2.ok)/\(yg w.U->∀e,e∈q.2.2↔∃u∈w.U.take q.1,u.inn=0/\e=(u.id,u.pos)),λq=>w.U.length-q.1⟩ zb ?_ ?_
 ·exact⟨(0,F,[]),Tv,⟨e0,h0,Faj _,Fak _,λe he=>(by cases he),λ_ e=>(by simp)⟩,Qal,Tv⟩
 rintro⟨i,F1,L⟩ st' ⟨rfl,hS,hi,hL,hok,hmem⟩
 dsimp only at hS hi hL hok hmem⊢
 refine bcd (λh1=>?_) (λh1=>?_)
 rotate_left
 ·have:i=w.U.length:=by omega
  subst this
  rw[Faz]at hmem
  exact ret (h F1 s p L _ _ _ hsf hS hL hmem)
 have hlt:i<w.U.length:=by omega
 obtain⟨b,J,rfl,hob0⟩:=hget i hlt
 have hbs:b≠s:=λe=>by subst e;rw[hsG]at hob0;cases hob0
 have hob:(F1.un (svS G s w (.s (.slice (some ⟨b,0,none⟩) w.U.length cap)) (.s (.slice none 0 0)) (.s (.slice none 0 0)) (.s (.slice none 0 0)) p)).obj b=some (.cells ((rws zk w.U).flatten++J)):=zf (by
  show(G.sO s _).obj b=_
  rw[zg hbs];exact hob0)
 refine⟨i,rfl,hlt,?_⟩
 refine za (o:=(F1.un (svS G s w _ _ _ _ p)).obj b) _ hob ?_
 refine xg (i:=ti36) (row:=zk w.U[i]) rfl rfl (Iu w9 hlt) ?_
 have hn2:=hn w.U[i] (Faa hlt)
 refine z6 (λc1=>?_) (λc1=>?_)
 ·refine Qc zb gz ?_
  refine za (o:=(F1.un (svS G s w _ _ _ _ p)).obj s) _ (zf (wg G s w _ _ _ _ p)) ?_
  refine⟨bh hS.hc hS.hd (by omega) hok w.U[i].id w.U[i].pos hn2 _ (λF2 h2 h3=>⟨Tv,?_⟩),Tv⟩
  have hlen:(qb L w.U[i].id++[(w.U[i].id,w.U[i].pos)]).length<=i+1:=by
   rw[Fag]
   have:(qb L w.U[i].id).length<=L.length:=Fbz _ _
   simp only[Fa1];omega
  refine Qd ?_
  refine⟨(i+1,F2,_),?_,⟨rfl,⟨h2,h3,hsG,hu,.inl rfl,.inl rfl,.inl rfl⟩,by dsimp only;omega,hlen,λe he=>?_,λhr e=>?_⟩,⟨Tq,Tq,Tq,Tq,Tv⟩,Tv⟩
  ·show w.U.length-(i+1)<w.U.length-i
   omega
  ·rcases Fal.1 he with he|he
   ·exact hok e (mem_dropId.1 he).1
   ·simp at he;subst he;exact hn2
  ·dsimp only
   rw[Fae hlt,Fal,mem_dropId,hmem hr e]
   constructor
   ·rintro(⟨⟨u,hu,h4⟩,_⟩|he)
    ·exact⟨u,Fal.2 (.inl hu),h4⟩
    ·simp at he
     exact⟨w.U[i],Fal.2 (.inr (by simp)),c1,he⟩
   ·rintro⟨u,hu,h4,h5⟩
    rcases Fal.1 hu with hu|hu
    ·refine .inl ⟨⟨u,hu,h4,h5⟩,?_⟩
     obtain⟨j,hj,rfl⟩:=Fai hu
     rw[Fao]at hj
     rw[Fdk]at h5
     have:=Nw hr (a:=j) (b:=i) (by omega) hlt
     subst h5
     show w.U[j].id≠w.U[i].id
     omega
    ·simp at hu
     subst hu
     exact .inr (by simp[h5])
 ·refine Qd ?_
  refine⟨(i+1,F1,L),?_,⟨rfl,hS,by dsimp only;omega,by dsimp only;omega,hok,λhr e=>?_⟩,Qal,Tv⟩
  ·show w.U.length-(i+1)<w.U.length-i
   omega
  ·dsimp only
   rw[hmem hr e,Fae hlt]
   constructor
   ·rintro⟨u,hu,h3⟩;exact⟨u,Fal.2 (.inl hu),h3⟩
   ·rintro⟨u,hu,h3,h4⟩
    rcases Fal.1 hu with hu|hu
    ·exact⟨u,hu,h3,h4⟩
    ·simp at hu
     subst hu
     exact absurd h3 c1
end
section
variable {F G:Store} {s p:Nat} {w:Wld} {v o0 o1 o2:AV}
theorem zq9{L:List Ent}(hS:StandR F G s p w v L o0 o1 o2)(hg:zn w.G)(hB:w.B.length<=1000000000000)(hb:∀b∈w.B,yc b/\onP w.G b)(c:Int)(hc:c=0\/c=1\/c=2)(R:Ja)
  (h:∀q0 q1 q2,StandR F G s p w v L q0 q1 q2->R (opV w.G w.B c) (F.un (svS G s w v q0 q1 q2 p))):Jb 197 [ptr s,int c] (F.un (svS G s w v o0 o1 o2 p)) R:=by
 have ho:=zf (a:=F) (wg G s w v o0 o1 o2 p)
 obtain⟨x0,y0,hne0⟩:=Bw hg w.B 0
 obtain⟨x1,y1,hne1⟩:=Bw hg w.B 1
 obtain⟨x2,y2,hne2⟩:=Bw hg w.B 2
 rcases hc with rfl|rfl|rfl
 ·rcases hS.h0 with e|e
  ·subst e
   refine Qa (c:=cfg 35) zb Tryz.func197 ?_
   refine⟨0,rfl,by decide,?_⟩
   refine za (o:=(F.un (svS G s w v _ _ _ p)).obj s) _ ho ?_
   refine Qc zb Ip ?_
   refine za (o:=(F.un (svS G s w v _ _ _ p)).obj s) _ ho ?_
   refine za (o:=(F.un (svS G s w v _ _ _ p)).obj s) _ ho ?_
   refine⟨Hz w.G hg w.B hB hb 0 _ _ ⟨Tv,?_⟩,Tv⟩
   refine⟨0,rfl,by decide,?_⟩
   have ho2:=zf (a:=F) (wg G s w v (opV w.G w.B 0) o1 o2 p)
   have hc2:=Kq (Bw hg w.B 0)
   refine⟨?_,Tv⟩
   refine za _ rfl (ju rfl (jo (v:=opV w.G w.B 0) rfl rfl rfl rfl ?_))
   refine qj (i:=ti59) (v:=opV w.G w.B 0) (b:=s) (o:=0+8+0*ti59.size) (l:=svC w v _ o1 o2 p) (st2:=F.un (svS G s w v (opV w.G w.B 0) o1 o2 p)) hc2.1 hc2.2 rfl ho (show 8+1<=12 by decide) ?_ ?_
   ·rw[zt]
    unfold svS
    rw[yq]
    rfl
   refine⟨Tv,?_⟩
   refine⟨0,rfl,by decide,?_⟩
   refine za (o:=(F.un (svS G s w v _ _ _ p)).obj s) _ ho2 ?_
   exact ret (h _ _ _ ⟨hS.hc,Wy hS.hd,hS.hs,hS.hu,.inr rfl,hS.h1,hS.h2⟩)
  ·rw[hne0]at e
   subst e
   refine Qa (c:=cfg 35) zb Tryz.func197 ?_
   refine⟨0,rfl,by decide,?_⟩
   refine za (o:=(F.un (svS G s w v _ _ _ p)).obj s) _ ho ?_
   refine λbb hbb=>?_
   have hbf:bb=false:=by
    cases bb with
    |true=>cases hbb rfl
    |false=>rfl
   subst hbf
   refine⟨0,rfl,by decide,?_⟩
   refine za (o:=(F.un (svS G s w v _ _ _ p)).obj s) _ ho ?_
   refine ret ?_
   have:=h _ _ _ hS
   rw[hne0]at this
   exact this
 ·rcases hS.h1 with e|e
  ·subst e
   refine Qa (c:=cfg 35) zb Tryz.func197 ?_
   refine⟨1,rfl,by decide,?_⟩
   refine za (o:=(F.un (svS G s w v _ _ _ p)).obj s) _ ho ?_
   refine Qc zb Ip ?_
   refine za (o:=(F.un (svS G s w v _ _ _ p)).obj s) _ ho ?_
   refine za (o:=(F.un (svS G s w v _ _ _ p)).obj s) _ ho ?_
   refine⟨Hz w.G hg w.B hB hb 1 _ _ ⟨Tv,?_⟩,Tv⟩
   refine⟨1,rfl,by decide,?_⟩
   have ho2:=zf (a:=F) (wg G s w v o0 (opV w.G w.B 1) o2 p)
   have hc2:=Kq (Bw hg w.B 1)
   refine⟨?_,Tv⟩
   refine za _ rfl (ju rfl (jo (v:=opV w.G w.B 1) rfl rfl rfl rfl ?_))
   refine qj (i:=ti59) (v:=opV w.G w.B 1) (b:=s) (o:=0+8+1*ti59.size) (l:=svC w v o0 _ o2 p) (st2:=F.un (svS G s w v o0 (opV w.G w.B 1) o2 p)) hc2.1 hc2.2 rfl ho (show 9+1<=12 by decide) ?_ ?_
   ·rw[zt]
    unfold svS
    rw[yq]
    rfl
   refine⟨Tv,?_⟩
   refine⟨1,rfl,by decide,?_⟩
   refine za (o:=(F.un (svS G s w v _ _ _ p)).obj s) _ ho2 ?_
   exact ret (h _ _ _ ⟨hS.hc,Wy hS.hd,hS.hs,hS.hu,hS.h0,.inr rfl,hS.h2⟩)
  ·rw[hne1]at e
   subst e
   refine Qa (c:=cfg 35) zb Tryz.func197 ?_
   refine⟨1,rfl,by decide,?_⟩
   refine za (o:=(F.un (svS G s w v _ _ _ p)).obj s) _ ho ?_
   refine λbb hbb=>?_
   have hbf:bb=false:=by
    cases bb with
    |true=>cases hbb rfl
    |false=>rfl
   subst hbf
   refine⟨1,rfl,by decide,?_⟩
   refine za (o:=(F.un (svS G s w v _ _ _ p)).obj s) _ ho ?_
   refine ret ?_
   have:=h _ _ _ hS
   rw[hne1]at this
   exact this
 ·rcases hS.h2 with e|e
  ·subst e
   refine Qa (c:=cfg 35) zb Tryz.func197 ?_
   refine⟨2,rfl,by decide,?_⟩
   refine za (o:=(F.un (svS G s w v _ _ _ p)).obj s) _ ho ?_
   refine Qc zb Ip ?_
   refine za (o:=(F.un (svS G s w v _ _ _ p)).obj s) _ ho ?_
   refine za (o:=(F.un (svS G s w v _ _ _ p)).obj s) _ ho ?_
   refine⟨Hz w.G hg w.B hB hb 2 _ _ ⟨Tv,?_⟩,Tv⟩
   refine⟨2,rfl,by decide,?_⟩
   have ho2:=zf (a:=F) (wg G s w v o0 o1 (opV w.G w.B 2) p)
   have hc2:=Kq (Bw hg w.B 2)
   refine⟨?_,Tv⟩
   refine za _ rfl (ju rfl (jo (v:=opV w.G w.B 2) rfl rfl rfl rfl ?_))
   refine qj (i:=ti59) (v:=opV w.G w.B 2) (b:=s) (o:=0+8+2*ti59.size) (l:=svC w v o0 o1 _ p) (st2:=F.un (svS G s w v o0 o1 (opV w.G w.B 2) p)) hc2.1 hc2.2 rfl ho (show 10+1<=12 by decide) ?_ ?_
   ·rw[zt]
    unfold svS
    rw[yq]
    rfl
   refine⟨Tv,?_⟩
   refine⟨2,rfl,by decide,?_⟩
   refine za (o:=(F.un (svS G s w v _ _ _ p)).obj s) _ ho2 ?_
   exact ret (h _ _ _ ⟨hS.hc,Wy hS.hd,hS.hs,hS.hu,hS.h0,hS.h1,.inr rfl⟩)
  ·rw[hne2]at e
   subst e
   refine Qa (c:=cfg 35) zb Tryz.func197 ?_
   refine⟨2,rfl,by decide,?_⟩
   refine za (o:=(F.un (svS G s w v _ _ _ p)).obj s) _ ho ?_
   refine λbb hbb=>?_
   have hbf:bb=false:=by
    cases bb with
    |true=>cases hbb rfl
    |false=>rfl
   subst hbf
   refine⟨2,rfl,by decide,?_⟩
   refine za (o:=(F.un (svS G s w v _ _ _ p)).obj s) _ ho ?_
   refine ret ?_
   have:=h _ _ _ hS
   rw[hne2]at this
   exact this
theorem ycx(cs:List Value):flat (.tup (cs.map AV.s)):=by
 intro w T w' T' v h
 cases h with
 |tup _ c hl h=>
  refine .tup _ c hl λi x y hx hy=>?_
  rw[Fap]at hx
  cases hc:cs[i]? with
  |none=>rw[hc]at hx;cases hx
  |some z=>
   rw[hc]at hx
   cases hx
   have:=h i (.s z) y (by rw[Fap,hc];rfl) hy
   cases this
   exact .s _
theorem P8{g:Store}{l:List Unt}(hv:RowsQ 10 zk g v l)(hl:l.length<=1000000000000)(hr:yg l)(id:Int)(R:Ja)
  (h:∀i,Ka l id i->∀z:Bool,(z=true↔∃hi:i<l.length,l[i].id=id)->R (.tup [int (i:Nat),V.bool z]) g):Jb 65 [v,int id] g R:=
 ACalls.read (ys:=[lst 10 zk l,int id]) (Q:=λr=>∃(i:Nat) (z:Bool),r=.tup [int (i:Nat),V.bool z]/\Ka l id i/\(z=true↔∃hi:i<l.length,l[i].id=id)) (λOth M W vs sto hr=>by
  obtain⟨x,y,rfl,h1,h2⟩:=Lg hr
  exact Reads.cons (hv.borrow w9 Rt sto h1) (Reads.cons (jr h2) Reads.nil)) (bp l hl hr id _ _ λi hi z hz=>⟨i,z,rfl,hi,hz⟩) (λr ⟨i,z,e,_⟩=>e▸ycx [_,_]) (λr ⟨i,z,e,hi,hz⟩=>e▸h i hi z hz)
theorem f8{L:List Ent}(hS:StandR F G s p w v L o0 o1 o2)(hr:yg w.U)(hU:w.U.length<=1000000)(hn:∀u∈w.U,u.pos.ok)(hLl:L.length<=w.U.length)(hL:Bx w L)(q:Vc)(hq:q.ok)(r:Int)(hrr:0<r/\r<=262144)(R:Ja)
  (h:∀F' us,StandR F' G s p w v L o0 o1 o2->Hk w q (r+81920) us->(us.map (·.id)).Pairwise (·<·)->us.length<=1000000->R (lst 10 zk us) (F'.un (svS G s w v o0 o1 o2 p))):Jb 198 [ptr s,.agg (zy q),int r] (F.un (svS G s w v o0 o1 o2 p)) R:=by
 have ho:=zf (a:=F) (wg G s w v o0 o1 o2 p)
 refine Qa (c:=cfg 47) zb Tryz.func198 ?_
 refine Qc zb gr ?_
 refine za (o:=(F.un (svS G s w v _ _ _ p)).obj s) _ ho ?_
 refine Qd ?_
 refine⟨tj hS.hc hS.hd (by omega) (Hg hL hn) hq (r:=r+81920) ⟨by omega,by omega⟩ _ (λF' N nv ns g1 g2 g3 g4 g5 g6=>⟨Tv,?_⟩),Tv⟩
 have hS':StandR F' G s p w v L o0 o1 o2:=⟨g1,g3,hS.hs,hS.hu,hS.h0,hS.h1,hS.h2⟩
 have ho':((F'.un N).un (svS G s w v o0 o1 o2 p)).obj s=some (.cells (svC w v o0 o1 o2 p)):=zf (wg G s w v o0 o1 o2 p)
 have g4':zh (F'.un N) (svS G s w v o0 o1 o2 p):=disj_un.2 ⟨g3,g4⟩
 have hv:∃oa cap,nv=.s (.slice oa ns.length cap)/\∀i,i<ns.length->∃b J,oa=some ⟨b,0,none⟩/\((F'.un N).un (svS G s w v o0 o1 o2 p)).obj b=some (.cells (ns.map aI++J)):=by
  rcases Lt g5 with⟨rfl,rfl⟩|⟨b,cap,J,rfl,hob,_⟩
  ·exact⟨none,0,rfl,λi hi=>absurd hi (Fbf i)⟩
  ·exact⟨_,cap,rfl,λi _=>⟨b,J,rfl,z8 g4' (zf hob)⟩⟩
 obtain⟨oa,cap,rfl,hget⟩:=hv
 have hrow:RowsQ 10 zk ((F'.un N).un (svS G s w v o0 o1 o2 p)) v w.U:=(F5 hS.hs hS.hu).un
 have hnl:ns.length<=w.U.length:=by
  have:=Fbu (l₂:=L.map (·.1)) (g6.1.imp λh=>by omega) (λid hid=>by
   obtain⟨e,he,h2,_⟩:=(g6.2 id).1 hid
   exact Fac.2 ⟨e,he,h2⟩)
  rw[Faq]at this
  omega
 have hfin:∀us:List Unt,us.map (·.id)=ns->(∀u∈us,u∈w.U/\u.inn=0)->R (lst 10 zk us) (F'.un (svS G s w v o0 o1 o2 p)):=λus e1 e2=>
  h F' us hS' (mc hr hL g6 e1 e2) (by rw[e1];exact g6.1) (by
   have:=congrArg List.length e1
   rw[Faq]at this
   omega)
 have hback:=ot (S:=svS G s w v o0 o1 o2 p) g2
 generalize(F'.un N).un (svS G s w v o0 o1 o2 p)=st1 at*
 refine AWp.loop (σ:=Nat×AV×List Unt) ⟨λx=>[(0,.av (ptr s)),(6,.av x.2.1),(18,.av (.s (.slice oa ns.length cap))),(19,.av (int (ns.length:Nat))),(20,.av (int (x.1:Nat)))],λ_=>[],
  λx st'=>x.1<=ns.length/\App 10 st1 x.2.1 (rws zk x.2.2) st'/\x.2.2.map (·.id)=ns.take x.1/\∀u∈x.2.2,u∈w.U/\u.inn=0,λx=>ns.length-x.1⟩ zb ?_ ?_
 ·exact⟨(0,_,[]),Tv,⟨Faj _,App.start 10 st1,rfl,λu hu=>(by cases hu)⟩,⟨Tq,Tq,Tq,Tq,Tq,Tv⟩,Tv⟩
 rintro⟨i,v2,us⟩ st' ⟨hi,ha,hus,hin⟩
 dsimp only at hi ha hus hin⊢
 refine bcd (λh1=>?_) (λh1=>?_)
 rotate_left
 ·have:i=ns.length:=by omega
  subst this
  rw[Faz]at hus
  exact⟨_,_,AV.le_trans ha.le (Tt),ha.has.trans hback,hfin us hus hin⟩
 have hlt:i<ns.length:=by omega
 obtain⟨b,J,rfl,hob⟩:=hget i hlt
 have hob':st'.obj b=some (.cells (ns.map aI++J)):=by rw[ha.obj];exact hob
 have hrow':RowsQ 10 zk st' v w.U:=by
  exact hrow.sub λ_ _ _ _=>by rw[ha.obj]
 have hos:st'.obj s=some (.cells (svC w v o0 o1 o2 p)):=by rw[ha.obj];exact ho'
 refine⟨i,rfl,hlt,?_⟩
 refine Qaq ?_
 refine za (o:=List.head? _) (int ns[i]) (by
  rw[Fci,show 0+i*ti2.size=i from by show 0+i*1=i;omega,Fam (by simpa using hlt),Fap,Fab hlt];rfl) ?_
 refine Qaq ?_
 refine P8 hrow' (by omega) hr ns[i] _ (λk hk z hz=>?_)
 obtain⟨e,he,hid,_⟩:=(g6.2 ns[i]).1 (Faa hlt)
 obtain⟨u,hu,hu0,rfl⟩:=(hL e).1 he
 have hfound:∃hk2:k<w.U.length,w.U[k].id=ns[i]:=by
  obtain⟨j,hj,rfl⟩:=Fai hu
  have h5:j>=k:=Decidable.byContradiction λhn2=>by
   have:=hk.2.1 j hj (by omega)
   have h6:(w.U[j]).id=ns[i]:=hid
   omega
  have h7:k<w.U.length:=by omega
  refine⟨h7,?_⟩
  have h8:=hk.2.2 k h7 (Fak _)
  have h6:(w.U[j]).id=ns[i]:=hid
  by_cases e:k=j
  ·subst e;exact h6
  ·have:=Dj hr (show k<j by omega) hj
   omega
 obtain⟨hk2,hk3⟩:=hfound
 refine Qaq ?_
 obtain⟨oa2,cap2,hv2,hget2⟩:=hrow'.form
 obtain⟨b2,J2,rfl,hob2⟩:=hget2 k hk2
 subst hv2
 refine⟨k,rfl,hk2,?_⟩
 refine Qaq ?_
 refine xg (i:=ti36) (row:=zk w.U[k]) rfl rfl (Iu w9 hk2) ?_
 refine⟨by decide,?_⟩
 have hul:us.length=i:=by
  have:=congrArg List.length hus
  rw[Faq,Fao]at this
  omega
 refine Gt (ie:=ti36) (rows':=[zk w.U[k]]) ha ?_ ?_ ⟨?_,?_⟩ (λv3 st3 ha3=>?_)
 ·rfl
 ·rfl
 ·simp only[zm,Fa1,ti36];omega
 ·simp only[zm,Fa1];omega
 refine Qd ?_
 have huk:w.U[k]=u:=Gb hr (Faa hk2) hu (by rw[hk3];exact hid.symm)
 refine⟨(i+1,v3,us++[w.U[k]]),?_,⟨by dsimp only;omega,?_,?_,λu2 hu2=>?_⟩,Qal,Tv⟩
 ·show ns.length-(i+1)<ns.length-i
  omega
 ·dsimp only
  unfold rws at ha3⊢
  rw[Fbe]
  exact ha3
 ·dsimp only
  rw[Fbe,hus,Fae hlt]
  simp[hk3]
 ·rcases Fal.1 hu2 with h9|h9
  ·exact hin u2 h9
  ·simp at h9
   subst h9
   rw[huk]
   exact⟨hu,hu0⟩
theorem f9{L:List Ent}(hS:StandR F G s p w v L o0 o1 o2)(hr:yg w.U)(hU:w.U.length<=1000000)(hn:∀u∈w.U,u.pos.ok)(hLl:L.length<=w.U.length)(hL:Bx w L)(q:Vc)(hq:q.ok)(r:Int)(hrr:0<r/\r<=262144)(R:Ja)
  (h:∀F' us,StandR F' G s p w v L o0 o1 o2->Hk w q (r+81920) us->us.length<=1000000->R (lst 10 zk us) (F'.un (svS G s w v o0 o1 o2 p))):Jb 198 [ptr s,.agg (zy q),int r] (F.un (svS G s w v o0 o1 o2 p)) R:=
 f8 hS hr hU hn hLl hL q hq r hrr R λF' us a b _ d=>h F' us a b d
theorem Sg{L:List Ent}(hS:StandR F G s p w v L o0 o1 o2)(hg:zn w.G)(hB:w.B.length<=1000000000000)(hb:∀b∈w.B,yc b/\onP w.G b)(hr:yg w.U)(hU:w.U.length<=1000000)(hn:∀u∈w.U,u.pos.ok)(hLl:L.length<=w.U.length)(hL:Bx w L)
  (id k:Int) (q:Vc) (hq:q.ok) (R:Ja)
  (h:∀z F' q0 q1 q2,(z=true↔qf w id k q)->StandR F' G s p w v L q0 q1 q2->R (V.bool z) (F'.un (svS G s w v q0 q1 q2 p))):Jb 115 [ptr s,int id,int k,.agg (zy q)] (F.un (svS G s w v o0 o1 o2 p)) R:=by
 have ho:=zf (a:=F) (wg G s w v o0 o1 o2 p)
 have hk:=Bi k
 have hc:=I9 k
 refine Qa (c:=cfg 56) zb Tryz.func115 ?_
 refine xq k _ _ ?_
 refine Qc zb gy ?_
 refine za (o:=(F.un (svS G s w v _ _ _ p)).obj s) _ ho ?_
 refine⟨zq9 hS hg hB hb (yu k) hc _ (λa0 a1 a2 hS1=>⟨?_,?_⟩),Tv⟩
 ·have ho1:=zf (a:=F) (wg G s w v a0 a1 a2 p)
  repeat(first|exact Tv|refine⟨rfl,?_⟩|refine⟨za (o:=(F.un (svS G s w v a0 a1 a2 p)).obj s) _ ho1 rfl,?_⟩)
 refine⟨po w.G hg w.B (yu k) q hq (zp k) ⟨hk.1,by omega⟩ _ _ (λz hz=>⟨Tv,?_⟩),Tv⟩
 refine ym ?_
 refine zj (λc1=>?_) (λc1=>ret (h false _ _ _ _ (by simp only[Fad,false_iff];exact λhh=>by have:=hz.2 hh.1;rw[this]at c1;cases c1) hS1))
 have hfree:=hz.1 c1
 refine f9 hS1 hr hU hn hLl hL q hq (zp k) ⟨hk.1,by omega⟩ _ (λF' us hS2 hus hul=>?_)
 have hci:=sw (id:=id) hfree hus
 have no:¬qf w id k q->R (V.bool false) (F'.un (svS G s w v a0 a1 a2 p)):=λhh=>h false _ _ _ _ (by simp only[Fad,false_iff];exact hh) hS2
 refine AWp.loop (σ:=Nat) ⟨λi=>[(1,.av (int id)),(7,.bx 7 0),(9,.bx 9 0),(32,.av (lst 10 zk us)),(33,.av (int (us.length:Nat))),(34,.av (int (i:Nat)))],λ_=>[(7,zy q),(9,Cw k)],
  λi st'=>st'=F'.un (svS G s w v a0 a1 a2 p)/\i<=us.length/\∀j,(hj:j<us.length)->j<i->us[j].id≠id->jx q (zp k) us[j].pos (zp us[j].kind)=true,λi=>us.length-i⟩ zb ?_ ?_
 ·refine⟨0,Tv,⟨rfl,Faj _,λj _ hj=>by omega⟩,⟨Tq,Tq,Tq,Tq,?_,Tq,Tv⟩,⟨rfl,rfl,Tv⟩⟩
  rw[<-zm (f:=zk) us];exact Tq
 rintro i st' ⟨rfl,hi,hall⟩
 refine bcd (λh1=>?_) (λh1=>?_)
 rotate_left
 ·refine ret (h true _ _ _ _ (by
   simp only[true_iff]
   refine hci.2 λu hu hne=>?_
   obtain⟨j,hj,rfl⟩:=Fai hu
   exact hall j hj (by omega) hne) hS2)
 have hlt:i<us.length:=by omega
 have hui:=(hus us[i]).1 (Faa hlt)
 have next:(us[i].id≠id->jx q (zp k) us[i].pos (zp us[i].kind)=true)->∀j,(hj:j<us.length)->j<i+1->us[j].id≠id->jx q (zp k) us[j].pos (zp us[j].kind)=true:=λhh j hj hji=>by
  by_cases e:j=i
  ·subst e;exact hh
  ·exact hall j hj (by omega)
 refine⟨i,rfl,za _ (zr hlt) ?_⟩
 refine Qc zb gw ?_
 refine qr (λc2=>?_) (λc2=>?_)
 ·refine⟨xq us[i].kind _ _ ⟨Qe,?_⟩,Tv⟩
  have hk2:=Bi us[i].kind
  refine⟨ux q (zp k) us[i].pos (zp us[i].kind) hq (hn _ hui.1.1) ⟨hk.1,by omega⟩ ⟨hk2.1,by omega⟩ _ _ ⟨Tv,?_⟩,Tv⟩
  refine ym ?_
  refine zj (λc3=>?_) (λc3=>?_)
  ·refine Qd ?_
   refine⟨i+1,?_,⟨rfl,by omega,next λ_=>c3⟩,Qal,⟨rfl,rfl,Tv⟩⟩
   show us.length-(i+1)<us.length-i
   omega
  ·refine ret (no λhh=>?_)
   have:=hci.1 hh us[i] (Faa hlt) c2
   rw[this]at c3;cases c3
 ·refine Qao ?_
  refine Qap ?_
  refine Qd ?_
  refine⟨i+1,?_,⟨rfl,by omega,next λhne=>absurd c2 hne⟩,Qal,⟨rfl,rfl,Tv⟩⟩
  show us.length-(i+1)<us.length-i
  omega
end
end Go.Proofs
namespace Go.Proofs
open Go Go.V
set_option maxRecDepth 20000
set_option maxHeartbeats 4000000
section
variable {F G F':Store} {xw p:Nat} {w:Wld} {v o0 o1 o2 fv q0 q1 q2:AV}
def wkC(s:Nat)(c:Cmd)(fv:AV):List AV:=ptr s::(qu c++[fv])
def Bn(S:Store)(xw s:Nat)(c:Cmd)(fv:AV)(w:Wld):Prop:=
 ∃v o0 o1 o2 p,S.obj xw=some (.cells (wkC s c fv))/\S.obj s=some (.cells (svC w v o0 o1 o2 p))/\RowsQ 10 zk S v w.U
structure Work(F G:Store)(xw s p:Nat)(w:Wld)(v:AV)(L:List Ent)(o0 o1 o2:AV)(c:Cmd)(fv:AV):Prop where
 S:StandR F G s p w v L o0 o1 o2
 hx:G.obj xw=some (.cells (wkC s c fv))
 ox:ja v xw
 os:ja v s
 hL:L.length<=w.U.length
 hF:Bx w L
theorem Work.ne{s:Nat}{L:List Ent}{c:Cmd}(h:Work F G xw s p w v L o0 o1 o2 c fv):xw≠s:=λe=>by
 have h1:=h.hx
 rw[e,h.S.hs]at h1
 cases h1
theorem Work.x{s:Nat}{L:List Ent}{c:Cmd}(h:Work F G xw s p w v L o0 o1 o2 c fv):(F'.un (svS G s w v q0 q1 q2 p)).obj xw=some (.cells (wkC s c fv)):=zf (by
 show(G.sO s _).obj xw=_
 rw[zg h.ne]
 exact h.hx)
theorem Work.s{s:Nat}{L:List Ent}{c:Cmd}(h:Work F G xw s p w v L o0 o1 o2 c fv):(F'.un (svS G s w v q0 q1 q2 p)).obj s=some (.cells (svC w v q0 q1 q2 p)):=zf (wg _ _ _ _ _ _ _ _)
theorem Work.r{s:Nat}{L:List Ent}{c:Cmd}(h:Work F G xw s p w v L o0 o1 o2 c fv):RowsQ 10 zk (F'.un (svS G s w v q0 q1 q2 p)) v w.U:=(F5 h.S.hs h.S.hu).un
theorem Sr(u:Unt)(st:Store)(R:Ja)(h:R (.agg (zk {u with goal:=-1,next:=-1,stuck:=0,state:=0})) st):Jb 311 [.agg (zk u)] st R:=by
 refine Qa (c:=cfg 8) zb Tryz.func311 ?_
 exact ret h
theorem zan{s:Nat}{L:List Ent}{c:Cmd}(hW:Work F G xw s p w v L o0 o1 o2 c fv)(hm:MayF w)(hn:∀u∈w.U,u.pos.ok)(hq:Vc.ok (c.X,c.Y))(R:Ja)
  (h:∀S',spE w c≠0->R (int (spE w c)) S') (h0:spE w c=0->∀S',Bn S' xw s c fv (spW w c)->R (int 0) S'):Jb 225 [ptr xw] (F.un (svS G s w v o0 o1 o2 p)) R:=by
 obtain⟨oa,cap,e,hget⟩:=hW.S.hu.form
 subst e
 have hU:=hm.hU
 have hn2:=hm.hn2
 have hn1:=hm.hn1
 have hx:=hW.x (F':=F) (q0:=o0) (q1:=o1) (q2:=o2)
 have hs:=hW.s (F':=F) (q0:=o0) (q1:=o1) (q2:=o2)
 refine Qa (c:=cfg 96) zb Tryz.func225 ?_
 refine za (o:=(F.un (svS G s w _ _ _ _ p)).obj xw) _ hx ?_
 refine za (o:=(F.un (svS G s w _ _ _ _ p)).obj s) _ hs ?_
 refine z6 (λc1=>?_) (λc1=>?_)
 ·have hf:Ds w:=.inl (by omega)
  have he:spE w c=4:=by unfold spE;rw[if_pos hf]
  have:=h Store.empty (by rw[he];decide)
  rw[he]at this
  exact Aq (Tt) (Pc _) this
 refine za (o:=(F.un (svS G s w _ _ _ _ p)).obj xw) _ hx ?_
 refine za (o:=(F.un (svS G s w _ _ _ _ p)).obj s) _ hs ?_
 refine z6 (λc2=>?_) (λc2=>?_)
 ·have hf:Ds w:=.inr (by omega)
  have he:spE w c=4:=by unfold spE;rw[if_pos hf]
  have:=h Store.empty (by rw[he];decide)
  rw[he]at this
  exact Aq (Tt) (Pc _) this
 have hf:¬Ds w:=λhh=>by rcases hh with hh|hh<;>omega
 refine Qc zb zt5 ?_
 refine za (o:=(F.un (svS G s w _ _ _ _ p)).obj xw) _ hx ?_
 refine za (o:=(F.un (svS G s w _ _ _ _ p)).obj xw) _ hx ?_
 refine za (o:=(F.un (svS G s w _ _ _ _ p)).obj xw) _ hx ?_
 refine⟨Sg hW.S hm.hg (by have:=hm.hB;omega) hm.hb hm.hr (by omega) hn hW.hL hW.hF 0 c.N (c.X,c.Y) hq _ (λz F2 q0 q1_ q2_ hz hS2=>⟨?_,?_⟩),Tv⟩
 ·have hx2:=hW.x (F':=F2) (q0:=q0) (q1:=q1_) (q2:=q2_)
  repeat(first|exact Tv|refine⟨rfl,?_⟩|refine⟨za (o:=(F2.un (svS G s w _ q0 q1_ q2_ p)).obj xw) _ hx2 rfl,?_⟩)
 have hx2:=hW.x (F':=F2) (q0:=q0) (q1:=q1_) (q2:=q2_)
 have hs2:=hW.s (F':=F2) (q0:=q0) (q1:=q1_) (q2:=q2_)
 have hr2:=hW.r (F':=F2) (q0:=q0) (q1:=q1_) (q2:=q2_)
 generalize F2.un (svS G s w _ q0 q1_ q2_ p)=S at hx2 hs2 hr2⊢
 refine Qao ?_
 refine ym ?_
 refine zj (λc3=>?_) (λc3=>?_)
 rotate_left
 ·have hncl:¬qf w 0 c.N (c.X,c.Y):=λhh=>by have:=hz.2 hh;rw[this]at c3;cases c3
  have he:spE w c=5:=by unfold spE;rw[if_neg hf,if_neg hncl]
  have:=h S (by rw[he];decide)
  rw[he]at this
  exact ret this
 have he:spE w c=0:=by unfold spE;rw[if_neg hf,if_pos (hz.1 c3)]
 have hxs:=hW.ne
 refine Qc zb zt4 ?_
 refine Qaq ?_
 refine Qaq ?_
 refine Qaq ?_
 refine Qaq ?_
 refine Qaq ?_
 refine Qaq ?_
 refine Qaq ?_
 refine Qaq ?_
 refine⟨Sr ⟨w.next,c.P,c.N,(c.X,c.Y),0,0,0,0,0⟩ _ _ ⟨?_,?_⟩,Tv⟩
 ·repeat(first|exact Tv|refine⟨rfl,?_⟩|refine⟨za (o:=S.obj xw) _ hx2 rfl,?_⟩|refine⟨za (o:=S.obj s) _ hs2 rfl,?_⟩)
 refine⟨by decide,?_⟩
 refine⟨Gu (ie:=ti36) rfl w9 (by decide) hr2 (spU w c) rfl (by omega) (λb cap2 L2 q1 q2 q3 q4=>?_),Tv⟩
 have hbs:b≠s:=by
  rcases q1 with q1|⟨c0,q00,q1⟩
  ·exact q1.ne_obj hs2
  ·exact hW.os b _ _ q1 q00
 have hbx:b≠xw:=by
  rcases q1 with q1|⟨c0,q00,q1⟩
  ·exact q1.ne_obj hx2
  ·exact hW.ox b _ _ q1 q00
 have hx3:(S.sO b (.cells ((rws zk (w.U++[spU w c])).flatten++L2))).obj xw=some (.cells (wkC s c fv)):=by rw[zg (Ne.symm hbx)];exact hx2
 have hs3:(S.sO b (.cells ((rws zk (w.U++[spU w c])).flatten++L2))).obj s=some (.cells (svC w (.s (.slice oa w.U.length cap)) q0 q1_ q2_ p)):=by rw[zg (Ne.symm hbs)];exact hs2
 have hr3:RowsQ 10 zk (S.sO b (.cells ((rws zk (w.U++[spU w c])).flatten++L2))) (.s (.slice (some ⟨b,0,none⟩) (w.U++[spU w c]).length cap2)) (w.U++[spU w c]):=.inl (.inr ⟨b,cap2,L2,rfl,zd _ _ _,q2,q3,q4⟩)
 generalize S.sO b _=S3 at hx3 hs3 hr3⊢
 have hoff:∀{q},b≠q->ja (.s (.slice (some ⟨b,0,none⟩) (w.U++[spU w c]).length cap2)) q:=λhne b' n' c' e _=>by
  simp only[AV.s.injEq,Value.slice.injEq,Fah,Addr.mk.injEq]at e
  exact e.1.1▸hne
 refine⟨?_,?_⟩
 ·repeat(first|exact Tv|refine⟨rfl,?_⟩|refine⟨za (o:=S3.obj xw) _ hx3 rfl,?_⟩|refine⟨za (o:=S3.obj s) _ hs3 rfl,?_⟩)
 refine⟨?_,Tv⟩
 refine za _ rfl (ju rfl (jo (v:=.s (.slice (some ⟨b,0,none⟩) (w.U++[spU w c]).length cap2)) rfl rfl rfl rfl ?_))
 refine Bs (i:=ti26) (v:=.s (.slice (some ⟨b,0,none⟩) (w.U++[spU w c]).length cap2)) (b:=s) (o:=7) (l:=svC w (.s (.slice oa w.U.length cap)) q0 q1_ q2_ p) rfl rfl rfl hs3 (show 7+1<=12 by decide) ?_
 have e3:zu (svC w (.s (.slice oa w.U.length cap)) q0 q1_ q2_ p) 7 [.s (.slice (some ⟨b,0,none⟩) (w.U++[spU w c]).length cap2)]=svC w (.s (.slice (some ⟨b,0,none⟩) (w.U++[spU w c]).length cap2)) q0 q1_ q2_ p:=rfl
 rw[e3]
 have hr4:=hr3.set (hoff hbs) (.cells (svC w (.s (.slice (some ⟨b,0,none⟩) (w.U++[spU w c]).length cap2)) q0 q1_ q2_ p))
 have hs4:(S3.sO s (.cells (svC w (.s (.slice (some ⟨b,0,none⟩) (w.U++[spU w c]).length cap2)) q0 q1_ q2_ p))).obj s=_:=zd _ _ _
 have hx4:(S3.sO s (.cells (svC w (.s (.slice (some ⟨b,0,none⟩) (w.U++[spU w c]).length cap2)) q0 q1_ q2_ p))).obj xw=_:=(zg hxs).trans hx3
 generalize S3.sO s _=S4 at hr4 hs4 hx4⊢
 refine⟨Tv,?_⟩
 refine Qaq ?_
 refine Qaq ?_
 refine Qd ?_
 refine Bs (i:=ti2) (v:=int (w.next+1)) (b:=s) (o:=2) (l:=svC w (.s (.slice (some ⟨b,0,none⟩) (w.U++[spU w c]).length cap2)) q0 q1_ q2_ p) rfl rfl rfl hs4 (show 2+1<=12 by decide) ?_
 exact ret (h0 he _ ⟨_,q0,q1_,q2_,p,(zg hxs).trans hx4,zd _ _ _,hr4.set (hoff hbs) _⟩)
end
theorem ye6{c:Cmd}(h:qm c.X c.Y):Vc.ok (c.X,c.Y):=by
 unfold qm at h
 unfold Vc.ok ya
 dsimp only
 omega
end Go.Proofs
namespace Go.Proofs
open Go Go.V
set_option maxRecDepth 20000
set_option maxHeartbeats 4000000
end Go.Proofs
namespace Go.Proofs
open Go Go.V
set_option maxRecDepth 20000
set_option maxHeartbeats 4000000
theorem yek(l:List Cmd)(hl:l.length<=140737488355328)(hu:∀c∈l,c.sized)(st:Store)(R:Ja)
  (h:∀w:Int,l.length<=w->(w<1048576->∀c∈l,(c.U.length:Int)<=w)->w<=281474976710656->R (int w) st):Jb 86 [lst 10 qu l] st R:=by
 refine Qa (c:=cfg 26) zb Tryz.func86 ?_
 refine AWp.loop (σ:=Nat×Int) ⟨λs=>[(0,.av (lst 10 qu l)),(3,.av (int s.2)),(4,.av (int (s.1:Nat)))],λ_=>[],
  λs st'=>s.1<=l.length/\st'=st/\(l.length:Int)<=s.2/\s.2<=281474976710656/\(s.2<1048576->∀c∈l.take s.1,(c.U.length:Int)<=s.2),λs=>l.length-s.1⟩ zb ?_ ?_
 ·refine⟨(0,(l.length:Int)),Tv,⟨Faj _,rfl,Fcx _,by simp only;omega,λ_ c hc=>by simp at hc⟩,⟨Tq,?_,Tq,Tv⟩,Tv⟩
  rw[<-zm (f:=qu) l]
  exact Tq
 rintro⟨i,n⟩ st' ⟨hi,rfl,hn,hn2,hU⟩
 dsimp only at hi hn hn2 hU⊢
 refine zj (λh1=>?_) (λh1=>?_)
 ·have hlt:i<l.length:=wj h1
  have hsz:=hu _ (Faa hlt)
  unfold Cmd.sized at hsz
  refine bcd (λh2=>?_) (λh2=>?_)
  ·refine⟨i,rfl,za _ (zr hlt) ?_⟩
   refine⟨by rw[zm];exact⟨by omega,by omega⟩,?_⟩
   refine⟨⟨by omega,by omega⟩,?_⟩
   refine⟨(i+1,n+(l[i].U.length:Int)),?_,⟨hlt,rfl,by simp only;omega,by simp only;omega,λh3 c hc=>?_⟩,⟨Tq,?_,Tq,Tv⟩,Tv⟩
   ·show l.length-(i+1)<l.length-i
    omega
   ·simp only at h3⊢
    rw[Fae hlt]at hc
    rcases Fal.1 hc with hc|hc
    ·have:=hU (by omega) c hc;omega
    ·rw[Fcb]at hc
     subst hc;omega
   ·simp only
    rw[<-zm (f:=zz) l[i].U]
    exact Tq
  ·exact ret (h n hn (λh3=>absurd h3 h2) hn2)
 ·have hge:i=l.length:=Af h1 hi
  subst hge
  rw[Faz]at hU
  exact ret (h n hn hU hn2)
theorem yba(s:Scr)(hf:∀c∈s.L,c.sized)(st:Store)(R:Ja)(h:∀z:Bool,(z=false->¬Pe s.W/\s.L.length<=60/\∀c∈s.L,c.fits)->R (V.bool z) st):Jb 35 [.agg (Sm s)] st R:=by
 have yes:=h true (λhh=>by cases hh)
 refine Qa (c:=cfg 18) zb Tryz.func35 ?_
 refine ybk s.W _ _ (λz hz=>?_)
 refine zj (λc1=>ret yes) (λc1=>?_)
 have hng:¬Pe s.W:=λhh=>by have:=hz.2 hh;rw[this]at c1;cases c1
 refine zj (λc2=>ret yes) (λc2=>?_)
 have hl:s.L.length<=60:=by
  have c2:=of_decide_eq_false c2
  rw[zm]at c2
  omega
 refine yek s.L (by omega) hf _ _ (λn h1 h2 h3=>?_)
 refine ret (h _ λhz=>⟨hng,hl,λc hc=>?_⟩)
 have hz:=of_decide_eq_false hz
 have:=h2 (by omega) c hc
 unfold Cmd.fits
 omega
end Go.Proofs
