/- Ground of laws of thronglaw24: contracts and plain lemmas; no condition beyond the row's own. -/
import Derived.Test.YtbemejeejgpkaaaGreatKM
import Derived.Test.YtbemejeejgpkaaaGreatKF
set_option linter.unusedSimpArgs false
set_option linter.unusedVariables false
namespace Go.Proofs
open Go Go.V
set_option maxRecDepth 20000
set_option maxHeartbeats 4000000
section
variable {F G:Store} {s p:Nat} {w:Wld} {v o0 o1 o2:AV}
theorem znv{L:List Ent}(hS:StandR F G s p w v L o0 o1 o2)(hg:zr w.G)(hB:w.B.length<=1000000000000)(hb:∀b∈w.B,yg b/\onP w.G b)(c:Int)(hc:c=0\/c=1\/c=2)(R:Ja)
  (h:∀q0 q1 q2,StandR F G s p w v L q0 q1 q2->R (opV w.G w.B c) (F.un (svS G s w v q0 q1 q2 p))):Jb 162 [ptr s,int c] (F.un (svS G s w v o0 o1 o2 p)) R:=by
 have ho:=zg (a:=F) (Co G s w v o0 o1 o2 p)
 obtain⟨x0,y0,hne0⟩:=Ct hg w.B 0
 obtain⟨x1,y1,hne1⟩:=Ct hg w.B 1
 obtain⟨x2,y2,hne2⟩:=Ct hg w.B 2
 rcases hc with rfl|rfl|rfl
 ·rcases hS.h0 with e|e
  ·subst e
   refine Qa (c:=cfg 35) zb Tryz.func162 ?_
   refine⟨0,rfl,by decide,?_⟩
   refine za (o:=(F.un (svS G s w v _ _ _ p)).obj s) _ ho ?_
   refine Qc zb Kw ?_
   refine za (o:=(F.un (svS G s w v _ _ _ p)).obj s) _ ho ?_
   refine za (o:=(F.un (svS G s w v _ _ _ p)).obj s) _ ho ?_
   refine⟨I3 w.G hg w.B hB hb 0 _ _ ⟨Tv,?_⟩,Tv⟩
   refine⟨0,rfl,by decide,?_⟩
   have ho2:=zg (a:=F) (Co G s w v (opV w.G w.B 0) o1 o2 p)
   have hc2:=Lt (Ct hg w.B 0)
   refine⟨?_,Tv⟩
   refine za _ rfl (j5 rfl (jz (v:=opV w.G w.B 0) rfl rfl rfl rfl ?_))
   refine yj (i:=ti60) (v:=opV w.G w.B 0) (b:=s) (o:=0+8+0*ti60.size) (l:=svC w v _ o1 o2 p) (st2:=F.un (svS G s w v (opV w.G w.B 0) o1 o2 p)) hc2.1 hc2.2 rfl ho (show 8+1<=12 by decide) ?_ ?_
   ·rw[z7]
    unfold svS
    rw[yp]
    rfl
   refine⟨Tv,?_⟩
   refine⟨0,rfl,by decide,?_⟩
   refine za (o:=(F.un (svS G s w v _ _ _ p)).obj s) _ ho2 ?_
   exact ret (h _ _ _ ⟨hS.hc,cm hS.hd,hS.hs,hS.hu,.inr rfl,hS.h1,hS.h2⟩)
  ·rw[hne0]at e
   subst e
   refine Qa (c:=cfg 35) zb Tryz.func162 ?_
   refine⟨0,rfl,by decide,?_⟩
   refine za (o:=(F.un (svS G s w v _ _ _ p)).obj s) _ ho ?_
   refine λbb hbb=>?_
   have hbf:bb=false:=by
    cases bb with
    |true=>cases hbb rfl
    |false=>rfl
   subst hbf
   refine⟨0,rfl,by decide,?_⟩
   refine za (o:=(F.un (svS G s w v _ _ _ p)).obj s) _ ho ?_
   refine ret ?_
   have:=h _ _ _ hS
   rw[hne0]at this
   exact this
 ·rcases hS.h1 with e|e
  ·subst e
   refine Qa (c:=cfg 35) zb Tryz.func162 ?_
   refine⟨1,rfl,by decide,?_⟩
   refine za (o:=(F.un (svS G s w v _ _ _ p)).obj s) _ ho ?_
   refine Qc zb Kw ?_
   refine za (o:=(F.un (svS G s w v _ _ _ p)).obj s) _ ho ?_
   refine za (o:=(F.un (svS G s w v _ _ _ p)).obj s) _ ho ?_
   refine⟨I3 w.G hg w.B hB hb 1 _ _ ⟨Tv,?_⟩,Tv⟩
   refine⟨1,rfl,by decide,?_⟩
   have ho2:=zg (a:=F) (Co G s w v o0 (opV w.G w.B 1) o2 p)
   have hc2:=Lt (Ct hg w.B 1)
   refine⟨?_,Tv⟩
   refine za _ rfl (j5 rfl (jz (v:=opV w.G w.B 1) rfl rfl rfl rfl ?_))
   refine yj (i:=ti60) (v:=opV w.G w.B 1) (b:=s) (o:=0+8+1*ti60.size) (l:=svC w v o0 _ o2 p) (st2:=F.un (svS G s w v o0 (opV w.G w.B 1) o2 p)) hc2.1 hc2.2 rfl ho (show 9+1<=12 by decide) ?_ ?_
   ·rw[z7]
    unfold svS
    rw[yp]
    rfl
   refine⟨Tv,?_⟩
   refine⟨1,rfl,by decide,?_⟩
   refine za (o:=(F.un (svS G s w v _ _ _ p)).obj s) _ ho2 ?_
   exact ret (h _ _ _ ⟨hS.hc,cm hS.hd,hS.hs,hS.hu,hS.h0,.inr rfl,hS.h2⟩)
  ·rw[hne1]at e
   subst e
   refine Qa (c:=cfg 35) zb Tryz.func162 ?_
   refine⟨1,rfl,by decide,?_⟩
   refine za (o:=(F.un (svS G s w v _ _ _ p)).obj s) _ ho ?_
   refine λbb hbb=>?_
   have hbf:bb=false:=by
    cases bb with
    |true=>cases hbb rfl
    |false=>rfl
   subst hbf
   refine⟨1,rfl,by decide,?_⟩
   refine za (o:=(F.un (svS G s w v _ _ _ p)).obj s) _ ho ?_
   refine ret ?_
   have:=h _ _ _ hS
   rw[hne1]at this
   exact this
 ·rcases hS.h2 with e|e
  ·subst e
   refine Qa (c:=cfg 35) zb Tryz.func162 ?_
   refine⟨2,rfl,by decide,?_⟩
   refine za (o:=(F.un (svS G s w v _ _ _ p)).obj s) _ ho ?_
   refine Qc zb Kw ?_
   refine za (o:=(F.un (svS G s w v _ _ _ p)).obj s) _ ho ?_
   refine za (o:=(F.un (svS G s w v _ _ _ p)).obj s) _ ho ?_
   refine⟨I3 w.G hg w.B hB hb 2 _ _ ⟨Tv,?_⟩,Tv⟩
   refine⟨2,rfl,by decide,?_⟩
   have ho2:=zg (a:=F) (Co G s w v o0 o1 (opV w.G w.B 2) p)
   have hc2:=Lt (Ct hg w.B 2)
   refine⟨?_,Tv⟩
   refine za _ rfl (j5 rfl (jz (v:=opV w.G w.B 2) rfl rfl rfl rfl ?_))
   refine yj (i:=ti60) (v:=opV w.G w.B 2) (b:=s) (o:=0+8+2*ti60.size) (l:=svC w v o0 o1 _ p) (st2:=F.un (svS G s w v o0 o1 (opV w.G w.B 2) p)) hc2.1 hc2.2 rfl ho (show 10+1<=12 by decide) ?_ ?_
   ·rw[z7]
    unfold svS
    rw[yp]
    rfl
   refine⟨Tv,?_⟩
   refine⟨2,rfl,by decide,?_⟩
   refine za (o:=(F.un (svS G s w v _ _ _ p)).obj s) _ ho2 ?_
   exact ret (h _ _ _ ⟨hS.hc,cm hS.hd,hS.hs,hS.hu,hS.h0,hS.h1,.inr rfl⟩)
  ·rw[hne2]at e
   subst e
   refine Qa (c:=cfg 35) zb Tryz.func162 ?_
   refine⟨2,rfl,by decide,?_⟩
   refine za (o:=(F.un (svS G s w v _ _ _ p)).obj s) _ ho ?_
   refine λbb hbb=>?_
   have hbf:bb=false:=by
    cases bb with
    |true=>cases hbb rfl
    |false=>rfl
   subst hbf
   refine⟨2,rfl,by decide,?_⟩
   refine za (o:=(F.un (svS G s w v _ _ _ p)).obj s) _ ho ?_
   refine ret ?_
   have:=h _ _ _ hS
   rw[hne2]at this
   exact this
theorem ybq(cs:List Value):flat (.tup (cs.map AV.s)):=by
 intro w T w' T' v h
 cases h with
 |tup _ c hl h=>
  refine .tup _ c hl λi x y hx hy=>?_
  rw[Faq]at hx
  cases hc:cs[i]? with
  |none=>rw[hc]at hx;cases hx
  |some z=>
   rw[hc]at hx
   cases hx
   have:=h i (.s z) y (by rw[Faq,hc];rfl) hy
   cases this
   exact .s _
theorem zbf{g:Store}{l:List Unt}(hv:RowsQ 10 zf g v l)(hl:l.length<=1000000000000)(hr:yq l)(id:Int)(R:Ja)
  (h:∀i,Nb l id i->∀z:Bool,(z=true↔∃hi:i<l.length,l[i].id=id)->R (.tup [int (i:Nat),V.bool z]) g):Jb 87 [v,int id] g R:=
 ACalls.read (ys:=[lst 10 zf l,int id]) (Q:=λr=>∃(i:Nat) (z:Bool),r=.tup [int (i:Nat),V.bool z]/\Nb l id i/\(z=true↔∃hi:i<l.length,l[i].id=id)) (λOth M W vs sto hr=>by
  obtain⟨x,y,rfl,h1,h2⟩:=Ff hr
  exact Reads.cons (hv.borrow yo f8 sto h1) (Reads.cons (xp h2) Reads.nil)) (R5 l hl hr id _ _ λi hi z hz=>⟨i,z,rfl,hi,hz⟩) (λr ⟨i,z,e,_⟩=>e▸ybq [_,_]) (λr ⟨i,z,e,hi,hz⟩=>e▸h i hi z hz)
theorem la{L:List Ent}(hS:StandR F G s p w v L o0 o1 o2)(hr:yq w.U)(hU:w.U.length<=1000000)(hn:∀u∈w.U,u.pos.ok)(hLl:L.length<=w.U.length)(hL:Dj w L)(q:Vc)(hq:q.ok)(r:Int)(hrr:0<r/\r<=262144)(R:Ja)
  (h:∀F' us,StandR F' G s p w v L o0 o1 o2->Ij w q (r+81920) us->(us.map (·.id)).Pairwise (·<·)->us.length<=1000000->R (lst 10 zf us) (F'.un (svS G s w v o0 o1 o2 p))):Jb 138 [ptr s,.agg (zo q),int r] (F.un (svS G s w v o0 o1 o2 p)) R:=by
 have ho:=zg (a:=F) (Co G s w v o0 o1 o2 p)
 refine Qa (c:=cfg 47) zb Tryz.func138 ?_
 refine Qc zb l5 ?_
 refine za (o:=(F.un (svS G s w v _ _ _ p)).obj s) _ ho ?_
 refine Qd ?_
 refine⟨za2 hS.hc hS.hd (by omega) (Wl hL hn) hq (r:=r+81920) ⟨by omega,by omega⟩ _ (λF' N nv ns g1 g2 g3 g4 g5 g6=>⟨Tv,?_⟩),Tv⟩
 have hS':StandR F' G s p w v L o0 o1 o2:=⟨g1,g3,hS.hs,hS.hu,hS.h0,hS.h1,hS.h2⟩
 have ho':((F'.un N).un (svS G s w v o0 o1 o2 p)).obj s=some (.cells (svC w v o0 o1 o2 p)):=zg (Co G s w v o0 o1 o2 p)
 have g4':zl (F'.un N) (svS G s w v o0 o1 o2 p):=disj_un.2 ⟨g3,g4⟩
 have hv:∃oa cap,nv=.s (.slice oa ns.length cap)/\∀i,i<ns.length->∃b J,oa=some ⟨b,0,none⟩/\((F'.un N).un (svS G s w v o0 o1 o2 p)).obj b=some (.cells (ns.map aI++J)):=by
  rcases Nd g5 with⟨rfl,rfl⟩|⟨b,cap,J,rfl,hob,_⟩
  ·exact⟨none,0,rfl,λi hi=>absurd hi (Fa2 i)⟩
  ·exact⟨_,cap,rfl,λi _=>⟨b,J,rfl,yr g4' (zg hob)⟩⟩
 obtain⟨oa,cap,rfl,hget⟩:=hv
 have hrow:RowsQ 10 zf ((F'.un N).un (svS G s w v o0 o1 o2 p)) v w.U:=(Ov hS.hs hS.hu).un
 have hnl:ns.length<=w.U.length:=by
  have:=Fbz (l₂:=L.map (·.1)) (g6.1.imp λh=>by omega) (λid hid=>by
   obtain⟨e,he,h2,_⟩:=(g6.2 id).1 hid
   exact Fae.2 ⟨e,he,h2⟩)
  rw[Fa4]at this
  omega
 have hfin:∀us:List Unt,us.map (·.id)=ns->(∀u∈us,u∈w.U/\u.inn=0)->R (lst 10 zf us) (F'.un (svS G s w v o0 o1 o2 p)):=λus e1 e2=>
  h F' us hS' (pi hr hL g6 e1 e2) (by rw[e1];exact g6.1) (by
   have:=congrArg List.length e1
   rw[Fa4]at this
   omega)
 have hback:=s7 (S:=svS G s w v o0 o1 o2 p) g2
 generalize(F'.un N).un (svS G s w v o0 o1 o2 p)=st1 at*
 refine AWp.loop (σ:=Nat×AV×List Unt) ⟨λx=>[(0,.av (ptr s)),(6,.av x.2.1),(18,.av (.s (.slice oa ns.length cap))),(19,.av (int (ns.length:Nat))),(20,.av (int (x.1:Nat)))],λ_=>[],
  λx st'=>x.1<=ns.length/\App 10 st1 x.2.1 (rws zf x.2.2) st'/\x.2.2.map (·.id)=ns.take x.1/\∀u∈x.2.2,u∈w.U/\u.inn=0,λx=>ns.length-x.1⟩ zb ?_ ?_
 ·exact⟨(0,_,[]),Tv,⟨Fag _,App.start 10 st1,rfl,λu hu=>(by cases hu)⟩,⟨Tq,Tq,Tq,Tq,Tq,Tv⟩,Tv⟩
 rintro⟨i,v2,us⟩ st' ⟨hi,ha,hus,hin⟩
 dsimp only at hi ha hus hin⊢
 refine bcd (λh1=>?_) (λh1=>?_)
 rotate_left
 ·have:i=ns.length:=by omega
  subst this
  rw[Fap]at hus
  exact⟨_,_,AV.le_trans ha.le (Tt),ha.has.trans hback,hfin us hus hin⟩
 have hlt:i<ns.length:=by omega
 obtain⟨b,J,rfl,hob⟩:=hget i hlt
 have hob':st'.obj b=some (.cells (ns.map aI++J)):=by rw[ha.obj];exact hob
 have hrow':RowsQ 10 zf st' v w.U:=by
  exact hrow.sub λ_ _ _ _=>by rw[ha.obj]
 have hos:st'.obj s=some (.cells (svC w v o0 o1 o2 p)):=by rw[ha.obj];exact ho'
 refine⟨i,rfl,hlt,?_⟩
 refine Qbm ?_
 refine za (o:=List.head? _) (int ns[i]) (by
  rw[Fb2,show 0+i*ti2.size=i from by show 0+i*1=i;omega,Fam (by simpa using hlt),Faq,Fab hlt];rfl) ?_
 refine Qbm ?_
 refine zbf hrow' (by omega) hr ns[i] _ (λk hk z hz=>?_)
 obtain⟨e,he,hid,_⟩:=(g6.2 ns[i]).1 (Faa hlt)
 obtain⟨u,hu,hu0,rfl⟩:=(hL e).1 he
 have hfound:∃hk2:k<w.U.length,w.U[k].id=ns[i]:=by
  obtain⟨j,hj,rfl⟩:=Fak hu
  have h5:j>=k:=Decidable.byContradiction λhn2=>by
   have:=hk.2.1 j hj (by omega)
   have h6:(w.U[j]).id=ns[i]:=hid
   omega
  have h7:k<w.U.length:=by omega
  refine⟨h7,?_⟩
  have h8:=hk.2.2 k h7 (Faj _)
  have h6:(w.U[j]).id=ns[i]:=hid
  by_cases e:k=j
  ·subst e;exact h6
  ·have:=Fb hr (show k<j by omega) hj
   omega
 obtain⟨hk2,hk3⟩:=hfound
 refine Qbm ?_
 obtain⟨oa2,cap2,hv2,hget2⟩:=hrow'.form
 obtain⟨b2,J2,rfl,hob2⟩:=hget2 k hk2
 subst hv2
 refine⟨k,rfl,hk2,?_⟩
 refine Qbm ?_
 refine yk (i:=ti50) (row:=zf w.U[k]) rfl rfl (xn yo hk2) ?_
 refine⟨by decide,?_⟩
 have hul:us.length=i:=by
  have:=congrArg List.length hus
  rw[Fa4,Fao]at this
  omega
 refine Fu (ie:=ti50) (rows':=[zf w.U[k]]) ha ?_ ?_ ⟨?_,?_⟩ (λv3 st3 ha3=>?_)
 ·rfl
 ·rfl
 ·simp only[zn,Fas,ti50];omega
 ·simp only[zn,Fas];omega
 refine Qd ?_
 have huk:w.U[k]=u:=G6 hr (Faa hk2) hu (by rw[hk3];exact hid.symm)
 refine⟨(i+1,v3,us++[w.U[k]]),?_,⟨by dsimp only;omega,?_,?_,λu2 hu2=>?_⟩,Qbh,Tv⟩
 ·show ns.length-(i+1)<ns.length-i
  omega
 ·dsimp only
  unfold rws at ha3⊢
  rw[Fbk]
  exact ha3
 ·dsimp only
  rw[Fbk,hus,Fac hlt]
  simp[hk3]
 ·rcases Fan.1 hu2 with h9|h9
  ·exact hin u2 h9
  ·simp at h9
   subst h9
   rw[huk]
   exact⟨hu,hu0⟩
theorem zoi{L:List Ent}(hS:StandR F G s p w v L o0 o1 o2)(hr:yq w.U)(hU:w.U.length<=1000000)(hn:∀u∈w.U,u.pos.ok)(hLl:L.length<=w.U.length)(hL:Dj w L)(q:Vc)(hq:q.ok)(r:Int)(hrr:0<r/\r<=262144)(R:Ja)
  (h:∀F' us,StandR F' G s p w v L o0 o1 o2->Ij w q (r+81920) us->us.length<=1000000->R (lst 10 zf us) (F'.un (svS G s w v o0 o1 o2 p))):Jb 138 [ptr s,.agg (zo q),int r] (F.un (svS G s w v o0 o1 o2 p)) R:=
 la hS hr hU hn hLl hL q hq r hrr R λF' us a b _ d=>h F' us a b d
theorem zn8{L:List Ent}(hS:StandR F G s p w v L o0 o1 o2)(hg:zr w.G)(hB:w.B.length<=1000000000000)(hb:∀b∈w.B,yg b/\onP w.G b)(hr:yq w.U)(hU:w.U.length<=1000000)(hn:∀u∈w.U,u.pos.ok)(hLl:L.length<=w.U.length)(hL:Dj w L)
  (id k:Int) (q:Vc) (hq:q.ok) (R:Ja)
  (h:∀z F' q0 q1 q2,(z=true↔qa w id k q)->StandR F' G s p w v L q0 q1 q2->R (V.bool z) (F'.un (svS G s w v q0 q1 q2 p))):Jb 110 [ptr s,int id,int k,.agg (zo q)] (F.un (svS G s w v o0 o1 o2 p)) R:=by
 have ho:=zg (a:=F) (Co G s w v o0 o1 o2 p)
 have hk:=Bl k
 have hc:=Gd k
 refine Qa (c:=cfg 56) zb Tryz.func110 ?_
 refine vm k _ _ ?_
 refine Qc zb l8 ?_
 refine za (o:=(F.un (svS G s w v _ _ _ p)).obj s) _ ho ?_
 refine⟨znv hS hg hB hb (yf k) hc _ (λa0 a1 a2 hS1=>⟨?_,?_⟩),Tv⟩
 ·have ho1:=zg (a:=F) (Co G s w v a0 a1 a2 p)
  repeat(first|exact Tv|refine⟨rfl,?_⟩|refine⟨za (o:=(F.un (svS G s w v a0 a1 a2 p)).obj s) _ ho1 rfl,?_⟩)
 refine⟨tv w.G hg w.B (yf k) q hq (zv k) ⟨hk.1,by omega⟩ _ _ (λz hz=>⟨Tv,?_⟩),Tv⟩
 refine yd ?_
 refine zh (λc1=>?_) (λc1=>ret (h false _ _ _ _ (by simp only[Fah,false_iff];exact λhh=>by have:=hz.2 hh.1;rw[this]at c1;cases c1) hS1))
 have hfree:=hz.1 c1
 refine zoi hS1 hr hU hn hLl hL q hq (zv k) ⟨hk.1,by omega⟩ _ (λF' us hS2 hus hul=>?_)
 have hci:=zaq (id:=id) hfree hus
 have no:¬qa w id k q->R (V.bool false) (F'.un (svS G s w v a0 a1 a2 p)):=λhh=>h false _ _ _ _ (by simp only[Fah,false_iff];exact hh) hS2
 refine AWp.loop (σ:=Nat) ⟨λi=>[(1,.av (int id)),(7,.bx 7 0),(9,.bx 9 0),(32,.av (lst 10 zf us)),(33,.av (int (us.length:Nat))),(34,.av (int (i:Nat)))],λ_=>[(7,zo q),(9,Cb k)],
  λi st'=>st'=F'.un (svS G s w v a0 a1 a2 p)/\i<=us.length/\∀j,(hj:j<us.length)->j<i->us[j].id≠id->kx q (zv k) us[j].pos (zv us[j].kind)=true,λi=>us.length-i⟩ zb ?_ ?_
 ·refine⟨0,Tv,⟨rfl,Fag _,λj _ hj=>by omega⟩,⟨Tq,Tq,Tq,Tq,?_,Tq,Tv⟩,⟨rfl,rfl,Tv⟩⟩
  rw[<-zn (f:=zf) us];exact Tq
 rintro i st' ⟨rfl,hi,hall⟩
 refine bcd (λh1=>?_) (λh1=>?_)
 rotate_left
 ·refine ret (h true _ _ _ _ (by
   simp only[true_iff]
   refine hci.2 λu hu hne=>?_
   obtain⟨j,hj,rfl⟩:=Fak hu
   exact hall j hj (by omega) hne) hS2)
 have hlt:i<us.length:=by omega
 have hui:=(hus us[i]).1 (Faa hlt)
 have next:(us[i].id≠id->kx q (zv k) us[i].pos (zv us[i].kind)=true)->∀j,(hj:j<us.length)->j<i+1->us[j].id≠id->kx q (zv k) us[j].pos (zv us[j].kind)=true:=λhh j hj hji=>by
  by_cases e:j=i
  ·subst e;exact hh
  ·exact hall j hj (by omega)
 refine⟨i,rfl,za _ (zm hlt) ?_⟩
 refine Qc zb l7 ?_
 refine qj (λc2=>?_) (λc2=>?_)
 ·refine⟨vm us[i].kind _ _ ⟨Qe,?_⟩,Tv⟩
  have hk2:=Bl us[i].kind
  refine⟨zbp q (zv k) us[i].pos (zv us[i].kind) hq (hn _ hui.1.1) ⟨hk.1,by omega⟩ ⟨hk2.1,by omega⟩ _ _ ⟨Tv,?_⟩,Tv⟩
  refine yd ?_
  refine zh (λc3=>?_) (λc3=>?_)
  ·refine Qd ?_
   refine⟨i+1,?_,⟨rfl,by omega,next λ_=>c3⟩,Qbh,⟨rfl,rfl,Tv⟩⟩
   show us.length-(i+1)<us.length-i
   omega
  ·refine ret (no λhh=>?_)
   have:=hci.1 hh us[i] (Faa hlt) c2
   rw[this]at c3;cases c3
 ·refine Qbk ?_
  refine Qbl ?_
  refine Qd ?_
  refine⟨i+1,?_,⟨rfl,by omega,next λhne=>absurd c2 hne⟩,Qbh,⟨rfl,rfl,Tv⟩⟩
  show us.length-(i+1)<us.length-i
  omega
end
section
variable {S:Store} {w:Wld} {v:AV}
theorem ng(hv:RowsQ 10 zf S v w.U)(hm:MayF w)(hn:∀u∈w.U,u.pos.ok)(id k:Int)(hkk:jv k)(q:Vc)(hq:q.ok)(R:Ja)
  (h:∀z:Bool,(z=true↔qa w id k q)->R (V.bool z) S):Jb 56 [.agg (zw w v),int id,int k,.agg (zo q)] S R:=
 ACalls.read (ys:=[.agg (zt w),int id,int k,.agg (zo q)]) (Q:=λr=>∃z:Bool,r=V.bool z/\(z=true↔qa w id k q)) (λOth M W vs sto hr=>by
  obtain⟨hl,h2⟩:=hr
  match vs,hl with
  |[a,b,c,d],_=>exact Reads.cons (Ch hv sto (h2 0 _ a rfl rfl)) (Reads.cons (xp (h2 1 _ b rfl rfl)) (Reads.cons (xp (h2 2 _ c rfl rfl)) (Reads.cons (xp (h2 3 _ d rfl rfl)) Reads.nil))))
  (V7 w hm.hg (by have:=hm.hB;omega) hm.hb (by have:=hm.hU;omega) hn hm.hk id k hkk q hq _ _ λz hz=>⟨z,rfl,hz⟩) (λr ⟨z,e,_⟩=>e▸Iw _) (λr ⟨z,e,hz⟩=>e▸h z hz)
theorem zs7{p:Nat}(hp:S.obj p=some (.cells (zw w v)))(hv:RowsQ 10 zf S v w.U)(hoff:wj v p)(hm:MayF w)(hn:∀u∈w.U,u.pos.ok)(c:Cmd)(hkk:jv c.N)(hq:Vc.ok (c.X,c.Y))(R:Ja)
  (h:∀S',spE w c≠0->R (int (spE w c)) S') (h0:spE w c=0->∀S' v',S'.obj p=some (.cells (zw (spW w c) v'))->RowsQ 10 zf S' v' (spW w c).U->R (int 0) S'):Jb 77 [ptr p,.agg (qi c)] S R:=by
 obtain⟨oa,cap,e,hget⟩:=hv.form
 subst e
 have hU:=hm.hU
 have hn2:=hm.hn2
 have hn1:=hm.hn1
 refine Qa (c:=cfg 54) zb Tryz.func77 ?_
 refine Qbm ?_
 refine bcd (λc1=>?_) (λc1=>?_)
 ·have hf:Hj w:=.inl (by omega)
  have he:spE w c=4:=by unfold spE;rw[if_pos hf]
  have:=h S (by rw[he];decide)
  rw[he]at this
  exact ret this
 refine Qbm ?_
 refine bcd (λc2=>?_) (λc2=>?_)
 ·have hf:Hj w:=.inr (by omega)
  have he:spE w c=4:=by unfold spE;rw[if_pos hf]
  have:=h S (by rw[he];decide)
  rw[he]at this
  exact ret this
 have hf:¬Hj w:=λhh=>by rcases hh with hh|hh<;>omega
 refine Qc zb zp0 ?_
 refine Qbm ?_
 refine⟨ng hv hm hn 0 c.N hkk (c.X,c.Y) hq _ (λz hz=>⟨Tv,?_⟩),Tv⟩
 refine yd ?_
 refine zh (λc3=>?_) (λc3=>?_)
 rotate_left
 ·have hncl:¬qa w 0 c.N (c.X,c.Y):=λhh=>by have:=hz.2 hh;rw[this]at c3;cases c3
  have he:spE w c=5:=by unfold spE;rw[if_neg hf,if_neg hncl]
  have:=h S (by rw[he];decide)
  rw[he]at this
  exact ret this
 have he:spE w c=0:=by unfold spE;rw[if_neg hf,if_pos (hz.1 c3)]
 refine Qc zb zpz ?_
 refine Qbm ?_
 refine Qbm ?_
 refine⟨by decide,?_⟩
 refine⟨ee (ie:=ti50) rfl yo (by decide) hv (spU w c) rfl (by omega) (λb cap2 L q1 q2 q3 q4=>⟨Tv,?_⟩),Tv⟩
 have hbp:b≠p:=by
  rcases q1 with q1|⟨c0,q0,q1⟩
  ·exact q1.ne_obj hp
  ·exact hoff b _ _ q1 q0
 have hp2:(S.sO b (.cells ((rws zf (w.U++[spU w c])).flatten++L))).obj p=some (.cells (zw w (.s (.slice oa w.U.length cap)))):=by rw[zi (Ne.symm hbp)];exact hp
 have hr2:RowsQ 10 zf (S.sO b (.cells ((rws zf (w.U++[spU w c])).flatten++L))) (.s (.slice (some ⟨b,0,none⟩) (w.U++[spU w c]).length cap2)) (w.U++[spU w c]):=.inl (.inr ⟨b,cap2,L,rfl,zd _ _ _,q2,q3,q4⟩)
 generalize S.sO b _=S2 at hp2 hr2⊢
 generalize hv2:(.s (.slice (some ⟨b,0,none⟩) (w.U++[spU w c]).length cap2):AV)=v2 at*
 have hoff2:wj v2 p:=by
  rw[<-hv2]
  intro b' n' c' e _
  simp only[AV.s.injEq,Value.slice.injEq,Fal,Addr.mk.injEq]at e
  exact e.1.1▸hbp
 subst hv2
 refine⟨?_,Tv⟩
 refine za _ rfl (j5 rfl (jz (v:=.s (.slice (some ⟨b,0,none⟩) (w.U++[spU w c]).length cap2)) rfl rfl rfl rfl ?_))
 refine jf (i:=ti26) (v:=.s (.slice (some ⟨b,0,none⟩) (w.U++[spU w c]).length cap2)) (b:=p) (o:=7) (l:=zw w (.s (.slice oa w.U.length cap))) rfl rfl rfl hp2 (show 7+1<=8 by decide) ?_
 have e3:zu (zw w (.s (.slice oa w.U.length cap))) 7 [.s (.slice (some ⟨b,0,none⟩) (w.U++[spU w c]).length cap2)]=zw w (.s (.slice (some ⟨b,0,none⟩) (w.U++[spU w c]).length cap2)):=rfl
 rw[e3]
 have hr3:=hr2.set hoff2 (.cells (zw w (.s (.slice (some ⟨b,0,none⟩) (w.U++[spU w c]).length cap2))))
 have hp3:(S2.sO p (.cells (zw w (.s (.slice (some ⟨b,0,none⟩) (w.U++[spU w c]).length cap2))))).obj p=some (.cells (zw w (.s (.slice (some ⟨b,0,none⟩) (w.U++[spU w c]).length cap2)))):=zd _ _ _
 generalize S2.sO p _=S3 at hr3 hp3⊢
 refine⟨Tv,?_⟩
 refine Qbm ?_
 refine Qd ?_
 refine jf (i:=ti2) (v:=int (w.next+1)) (b:=p) (o:=2) (l:=zw w (.s (.slice (some ⟨b,0,none⟩) (w.U++[spU w c]).length cap2))) rfl rfl rfl hp3 (show 2+1<=8 by decide) ?_
 exact ret (h0 he _ _ (zd _ _ _) (hr3.set hoff2 _))
end
end Go.Proofs
namespace Go.Proofs
open Go Go.V
set_option maxRecDepth 20000
set_option maxHeartbeats 4000000
theorem ydx{c:Cmd}(h:qw c.X c.Y):Vc.ok (c.X,c.Y):=by
 unfold qw at h
 unfold Vc.ok yl
 dsimp only
 omega
def DoQ(E:Wld->Cmd->Int)(W:Wld->Cmd->Wld)(w:Wld)(c:Cmd)(r:AV)(S:Store):Prop:=
 (doE E w c≠0/\r=.tup [.agg (zt w),int (doE E w c)])\/(doE E w c=0/\∃v,RowsQ 10 zf S v (W w c).U/\r=.tup [.agg (zw (W w c) v),int 0])
end Go.Proofs
namespace Go.Proofs
open Go Go.V
set_option maxRecDepth 20000
set_option maxHeartbeats 4000000
theorem ydo(l:List Unt)(hl:l.length<=1000000)(R:Ja)(h:∀v N,RowsO 10 zf N v l->R v N):Jb 42 [lst 10 zf l] Store.empty R:=by
 refine Qa (c:=cfg 19) zb Tryz.func42 ?_
 refine AWp.loop (σ:=Nat×AV×Store) ⟨λs=>[(0,.av (lst 10 zf l)),(3,.av s.2.1),(4,.av (int s.1))],λ_=>[],λs st'=>s.1<=l.length/\st'=s.2.2/\RowsO 10 zf s.2.2 s.2.1 (l.take s.1),λs=>l.length-s.1⟩ zb ?_ ?_
 ·exact⟨(0,_,Store.empty),Tv,⟨Fag _,rfl,.inl ⟨rfl,rfl⟩⟩,⟨Tq,Tq,Tq,Tv⟩,Tv⟩
 ·rintro⟨i,v,N⟩ st' ⟨hi,rfl,ha⟩
  dsimp only at hi ha⊢
  refine zh (λh1=>?_) (λh1=>?_)
  ·have hlt:i<l.length:=qq h1
   refine⟨i,rfl,za _ (zm hlt) ?_⟩
   refine⟨by decide,?_⟩
   refine N6 (ie:=ti50) rfl (λ_=>rfl) (by decide) ha l[i] rfl (by rw[Fao];omega) (λb cap L q1 q2 q3 q4=>?_)
   refine⟨⟨by omega,by omega⟩,?_⟩
   refine⟨(i+1,_,_),?_,⟨hlt,rfl,?_⟩,⟨Tq,Tq,Tq,Tv⟩,Tv⟩
   ·show l.length-(i+1)<l.length-i
    omega
   ·dsimp only
    rw[Fac hlt]
    exact .inr ⟨b,cap,L,rfl,zd _ _ _,q2,q3,q4⟩
  ·have hge:i=l.length:=qv h1 hi
   subst hge
   rw[Fap]at ha
   exact ret (h _ _ ha)
theorem ydp(l:List Unt)(hl:l.length<=1000000)(st:Store)(R:Ja)(h:∀v N,RowsO 10 zf N v l->zl N st->R v (N.un st)):Jb 42 [lst 10 zf l] st R:=by
 rw[<-wu st]
 exact ACalls.frame (I2 st) (ydo l hl (λv N=>RowsO 10 zf N v l) λv N hv=>hv) λv N hv hd=>h v N hv hd
theorem Hq(w:Wld)(hw:w.fits)(hU:w.U.length<=1000000)(st:Store)(R:Ja)(h:∀v N,RowsO 10 zf N v w.U->zl N st->R (.agg (zw w v)) (N.un st)):Jb 13 [.agg (zt w)] st R:=by
 refine Qa (c:=cfg 18) zb Tryz.func13 ?_
 refine cu w.G hw.1 _ _ ?_
 refine cw w.B hw.2.1 _ _ ?_
 refine ydp w.U hU _ _ (λv N hv hd=>?_)
 have hv2:=hv
 rcases hv2 with⟨rfl,_⟩|⟨b,cap,L,rfl,_⟩
 ·exact ret (h _ N hv hd)
 ·exact ret (h _ N hv hd)
theorem zti{g:Store}{b cap:Nat}{us:List Unt}{L:List AV}(h1:us.length<=cap)(h2:cap*10<=us.length*10+L.length)(h3:cap<=9223372036854775807){i j:Nat}(hi:i<us.length){ys:List AV}(hj:j+ys.length<=10){u':Unt}(hu:zf u'=zu (zf us[i]) j ys):
  RowsO 10 zf (g.sO b (.cells (zu ((rws zf us).flatten++L) (0+i*10+j) ys))) (.s (.slice (some ⟨b,0,none⟩) us.length cap)) (us.set i u'):=by
 refine .inr ⟨b,cap,L,by rw[Faf],?_,by rw[Faf];exact h1,by rw[Faf];exact h2,h3⟩
 rw[zd,Fbe,Kr yo hi hj hu]
theorem zvg(w:Wld)(hw:w.fits)(hn:∀u∈w.U,u.pos.ok)(hU:w.U.length<=1000000)(c:Cmd)(hc:c.fits)(hK:c.K=1):Jb 38 [.agg (zt w),.agg (qi c)] Store.empty (DoQ spE spW w c):=by
 refine Qa (c:=cfg 97 [6] []) zb Tryz.func38 ?_
 have bad:(¬z6 w\/¬j8 c\/w.players<c.P)->DoQ spE spW w c (.tup [.agg (zt w),int 1]) Store.empty:=λhb=>by
  have he:=Gm (E:=spE) (w:=w) (c:=c) hb
  exact .inl ⟨by rw[he];decide,by rw[he]⟩
 refine F7 w hw hn _ _ (λz hz=>?_)
 refine yd ?_
 refine zh (λc1=>?_) (λc1=>?_)
 rotate_left
 ·exact ret (bad (.inl λhh=>by have:=hz.2 hh;rw[this]at c1;cases c1))
 refine Hr c hc _ _ (λzc hzc=>?_)
 refine yd ?_
 refine zh (λc2=>?_) (λc2=>?_)
 rotate_left
 ·exact ret (bad (.inr (.inl λhh=>by have:=hzc.2 hh;rw[this]at c2;cases c2)))
 refine bcd (λc3=>?_) (λc3=>?_)
 ·exact ret (bad (.inr (.inr (by omega))))
 have hm:=hz.1 c1
 have hcp:=hzc.1 c2
 have he:=Ho (E:=spE) hm hcp (show c.P<=w.players by omega)
 have hok:=(Cmd.ok1 hK).1 hcp.1
 refine Hq w hw hU _ _ (λv N hv _=>?_)
 rw[Al]
 have hv:=hv.q
 have hoff:=λ(p:Nat) (hp:Fresh N p)=>Dk hv (vx (fresh_iff.1 hp)).1
 obtain⟨oa,cap,e,_⟩:=hv.form
 subst e
 refine λp hp=>?_
 refine j2 (i:=ti27) (v:=.agg (zw w (.s (.slice oa w.U.length cap)))) (xs:=zw w (.s (.slice oa w.U.length cap))) (b:=p) (o:=0) (l:=_) rfl rfl rfl (zd _ _ _) (show 0+8<=8 by decide) ?_
 generalize hS:(N.sO p _).sO p _=S
 have hp2:S.obj p=some (.cells (zw w (.s (.slice oa w.U.length cap)))):=by rw[<-hS];exact zd _ _ _
 have hr2:RowsQ 10 zf S (.s (.slice oa w.U.length cap)) w.U:=by rw[<-hS];exact(hv.set (hoff p hp) _).set (hoff p hp) _
 refine zy (λ_=>?_) (λh=>absurd hK h)
 refine zs7 hp2 hr2 (hoff p hp) (jd hm) hn c hok.1 (ydx hok.2) _ (λS' hE=>?_) (λhE S' v' g1 g2=>?_)
 ·refine qj (λ_=>?_) (λh=>absurd h hE)
  exact ret (.inl ⟨by rw[he];exact hE,by rw[he];rfl⟩)
 ·obtain⟨oa2,cap2,e2,_⟩:=g2.form
  subst e2
  refine Qbm ?_
  exact ret (.inr ⟨he.trans hE,_,g2,rfl⟩)
theorem I0{E:Wld->Cmd->Int}{W:Wld->Cmd->Wld}{w:Wld}{c:Cmd}{f:FuncId}{xs:List AV}(h0:Jb f xs Store.empty (DoQ E W w c))(R:Ja)(h:R (.tup [.agg (zt (doW E W w c)),int (doE E w c)]) Store.empty):Jb f xs Store.empty R:=by
 have h1:=h0.frozen (R:=λr=>r=.tup [.agg (zt (doW E W w c)),int (doE E w c)]) (by
  rintro r S (⟨h1,rfl⟩|⟨h1,v,hv,rfl⟩)
  ·rw[cg h1]
   exact⟨_,rfl,λOth M w' v' sto hx=>xp hx⟩
  ·rw[uz h1,h1]
   refine⟨_,rfl,λOth M w' v' sto hx=>?_⟩
   cases hx with
   |tup _ c2 hl hc2=>
    refine .tup _ c2 hl λi x y hx hy=>?_
    match i with
    |0=>simp only[Far,Fal]at hx;subst hx;exact Ch hv sto (hc2 0 _ y rfl hy)
    |1=>simp only[Faz,Far,Fal]at hx;subst hx;exact xp (hc2 1 _ y rfl hy)
    |i+2=>simp at hx)
 exact h1.post (Store.Le.refl _) λr st' hr=>⟨r,Store.empty,AV.le_refl r,(bf st').toLe,by subst hr;exact h⟩
def Hz(k:Int)(E:Wld->Cmd->Int)(W:Wld->Cmd->Wld):Prop:=
 ∀w:Wld,w.fits->(∀u∈w.U,u.pos.ok)->w.U.length<=1000000->∀c:Cmd,c.fits->c.K=k->∀R:AV->Store->Prop,R (.tup [.agg (zt (doW E W w c)),int (doE E w c)]) Store.empty->Jb 38 [.agg (zt w),.agg (qi c)] Store.empty R
theorem zur:Hz 1 spE spW:=λw hw hn hU c hc hK R h=>I0 (zvg w hw hn hU c hc hK) R h
end Go.Proofs
namespace Go.Proofs
open Go Go.V
set_option maxRecDepth 20000
set_option maxHeartbeats 4000000
theorem yc8(l:List Cmd)(hl:l.length<=140737488355328)(hu:∀c∈l,c.sized)(st:Store)(R:Ja)
  (h:∀w:Int,l.length<=w->(w<1048576->∀c∈l,(c.U.length:Int)<=w)->w<=281474976710656->R (int w) st):Jb 75 [lst 10 qi l] st R:=by
 refine Qa (c:=cfg 26) zb Tryz.func75 ?_
 refine AWp.loop (σ:=Nat×Int) ⟨λs=>[(0,.av (lst 10 qi l)),(3,.av (int s.2)),(4,.av (int (s.1:Nat)))],λ_=>[],
  λs st'=>s.1<=l.length/\st'=st/\(l.length:Int)<=s.2/\s.2<=281474976710656/\(s.2<1048576->∀c∈l.take s.1,(c.U.length:Int)<=s.2),λs=>l.length-s.1⟩ zb ?_ ?_
 ·refine⟨(0,(l.length:Int)),Tv,⟨Fag _,rfl,Fcn _,by simp only;omega,λ_ c hc=>by simp at hc⟩,⟨Tq,?_,Tq,Tv⟩,Tv⟩
  rw[<-zn (f:=qi) l]
  exact Tq
 rintro⟨i,n⟩ st' ⟨hi,rfl,hn,hn2,hU⟩
 dsimp only at hi hn hn2 hU⊢
 refine zh (λh1=>?_) (λh1=>?_)
 ·have hlt:i<l.length:=qq h1
  have hsz:=hu _ (Faa hlt)
  unfold Cmd.sized at hsz
  refine bcd (λh2=>?_) (λh2=>?_)
  ·refine⟨i,rfl,za _ (zm hlt) ?_⟩
   refine⟨by rw[zn];exact⟨by omega,by omega⟩,?_⟩
   refine⟨⟨by omega,by omega⟩,?_⟩
   refine⟨(i+1,n+(l[i].U.length:Int)),?_,⟨hlt,rfl,by simp only;omega,by simp only;omega,λh3 c hc=>?_⟩,⟨Tq,?_,Tq,Tv⟩,Tv⟩
   ·show l.length-(i+1)<l.length-i
    omega
   ·simp only at h3⊢
    rw[Fac hlt]at hc
    rcases Fan.1 hc with hc|hc
    ·have:=hU (by omega) c hc;omega
    ·rw[Fb1]at hc
     subst hc;omega
   ·simp only
    rw[<-zn (f:=yh) l[i].U]
    exact Tq
  ·exact ret (h n hn (λh3=>absurd h3 h2) hn2)
 ·have hge:i=l.length:=qv h1 hi
  subst hge
  rw[Fap]at hU
  exact ret (h n hn hU hn2)
theorem zz1(s:Scr)(hf:∀c∈s.L,c.sized)(st:Store)(R:Ja)(h:∀z:Bool,(z=false->¬Nk s.W/\s.L.length<=60/\∀c∈s.L,c.fits)->R (V.bool z) st):Jb 37 [.agg (Kv s)] st R:=by
 have yes:=h true (λhh=>by cases hh)
 refine Qa (c:=cfg 18) zb Tryz.func37 ?_
 refine yai s.W _ _ (λz hz=>?_)
 refine zh (λc1=>ret yes) (λc1=>?_)
 have hng:¬Nk s.W:=λhh=>by have:=hz.2 hh;rw[this]at c1;cases c1
 refine zh (λc2=>ret yes) (λc2=>?_)
 have hl:s.L.length<=60:=by
  have c2:=of_decide_eq_false c2
  rw[zn]at c2
  omega
 refine yc8 s.L (by omega) hf _ _ (λn h1 h2 h3=>?_)
 refine ret (h _ λhz=>⟨hng,hl,λc hc=>?_⟩)
 have hz:=of_decide_eq_false hz
 have:=h2 (by omega) c hc
 unfold Cmd.fits
 omega
end Go.Proofs
