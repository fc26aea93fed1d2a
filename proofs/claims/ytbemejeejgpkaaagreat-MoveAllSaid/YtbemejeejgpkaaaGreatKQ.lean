/- The ground on which laws of thronglaw24 are proved: contracts of functions and plain lemmas; no condition beyond the row's own. -/
import Derived.Test.YtbemejeejgpkaaaGreatKF
import Derived.Test.YtbemejeejgpkaaaGreatKO
import Derived.Test.YtbemejeejgpkaaaGreatKE
import Derived.Test.YtbemejeejgpkaaaGreatKN
import Derived.Test.YtbemejeejgpkaaaGreatKI
import Derived.Test.YtbemejeejgpkaaaGreatKL
set_option linter.unusedSimpArgs false
set_option linter.unusedVariables false
namespace Go.Proofs
open Go Go.V
set_option maxRecDepth 4000
theorem zn{i:TI}{cells row rest:List AV}{K:LV->Prop}(ha:ko i.ty=true)(hs:i.size=row.length)(hc:cells=row++rest)(h:K (.av (.agg row))):zre i cells K:=by
 subst hc
 unfold zre
 rw[ha,cond_true,hs]
 have:Nat.ble row.length (row++rest).length=true:=by simp
 rw[this,cond_true]
 refine jb ?_
 rw[List.take_append_of_le_length (Nat.le_refl _),List.take_length]
 exact h
theorem kj{α:Type}{k:Nat}{f:α->List AV}(hf:∀x,(f x).length=k){l:List α}{L:List AV}{i:Nat}(hi:i<l.length):List.drop (0+i*k) ((rws f l).flatten++L)=f l[i]++((rws f (l.drop (i+1))).flatten++L):=by
 have h1:(rws f (l.take i)).flatten.length=i*k:=by rw[qp hf,List.length_take,Nat.min_eq_left (by omega)]
 rw[Nat.zero_add,zek hi,List.append_assoc,<-h1,List.drop_left,List.append_assoc]
theorem yu2{S:Store}(R:AV->Store->Prop)(h:∀F p,CellsOf F p []->Disj F S->R (ptr p) (F.un S)):ACalls Tryz.prog 132 [] S R:=by
 have:=ACalls.frame (a:=Store.empty) (g:=S) (fun i h1=>by rcases h1 with h1|h1<;>exact absurd rfl h1) (ze9 (fun r a'=>∃p,r=ptr p/\CellsOf a' p []) (fun a p h=>⟨p,rfl,h⟩)) (R':=R) (fun r a' ⟨p,e,hc⟩ hd=>e▸h a' p hc hd)
 rwa [xt]at this
def svC(w:Wld)(v o0 o1 o2:AV)(p:Nat):List AV:=wldV w v++[o0,o1,o2,ptr p]
def svS(G:Store)(s:Nat)(w:Wld)(v o0 o1 o2:AV)(p:Nat):Store:=G.setObj s (.cells (svC w v o0 o1 o2 p))
structure StandR(F G:Store)(s p:Nat)(w:Wld)(v:AV)(L:List Ent)(o0 o1 o2:AV):Prop where
 hc:CellsOf F p L
 hd:Disj F (svS G s w v o0 o1 o2 p)
 hs:G.obj s=none
 hu:RowsQ 10 untC G v w.U
 h0:opOK w 0 o0
 h1:opOK w 1 o1
 h2:opOK w 2 o2
theorem vz(G:Store)(s:Nat)(w:Wld)(v o0 o1 o2:AV)(p:Nat):(svS G s w v o0 o1 o2 p).obj s=some (.cells (svC w v o0 o1 o2 p)):=zb _ _ _
theorem zg7{G:Store}{s:Nat}{w:Wld}{v o0 o1 o2:AV}{p:Nat}{u:AV}{l:List Unt}(hs:G.obj s=none)(h:RowsQ 10 untC G u l):RowsQ 10 untC (svS G s w v o0 o1 o2 p) u l:=by
 rcases h with(h|⟨b,cap,L,h1,h2,h3⟩)|h
 ·exact .inl (.inl h)
 ·refine .inl (.inr ⟨b,cap,L,h1,?_,h3⟩)
  have:b≠s:=fun e=>by subst e;rw[hs]at h2;cases h2
  show(G.setObj s _).obj b=_
  rw[zd this]
  exact h2
 ·exact .inr h
theorem svS_has{G:Store}{s:Nat}{w:Wld}{v o0 o1 o2:AV}{p i:Nat}:(svS G s w v o0 o1 o2 p).has i↔i=s\/G.has i:=by
 unfold svS Store.has
 by_cases hi:i=s
 ·subst hi
  simp[zb]
 ·rw[zd hi]
  simp[hi,Store.setObj]
theorem zmr{F G:Store}{s:Nat}{w w':Wld}{v o0 o1 o2 v' q0 q1 q2:AV}{p:Nat}(h:Disj F (svS G s w v o0 o1 o2 p)):Disj F (svS G s w' v' q0 q1 q2 p):=fun i h1 h2=>h i h1 (svS_has.2 (svS_has.1 h2))
theorem zku(w:Wld)(v:AV)(G:Store)(hu:RowsQ 10 untC G v w.U)(hU:w.U.length<=1000000)(hn:∀u∈w.U,u.pos.ok)(R:AV->Store->Prop)
  (h:∀F s p L o0 o1 o2,Fresh G s->StandR F G s p w v L o0 o1 o2->L.length<=w.U.length->(yh w.U->∀e,e∈L↔∃u∈w.U,u.inn=0/\e=(u.id,u.pos))->R (ptr s) (F.un (svS G s w v o0 o1 o2 p))):ACalls Tryz.prog 86 [.agg (wldV w v)] G R:=by
 obtain⟨oa,cap,hv,hget⟩:=hu.form
 subst hv
 refine Qa (c:=cfg 31 [9] []) zc Tryz.func86 ?_
 refine Qc zc zyy ?_
 refine⟨yu2 _ (fun F p hc hdF=>⟨Qe,?_⟩),Tv⟩
 refine⟨fun s hs=>⟨Tv,?_⟩,Tv⟩
 refine⟨⟨Tv,?_⟩,Tv⟩
 have hs1:¬F.has s/\¬G.has s:=by
  have:=fresh_iff.1 hs
  exact⟨fun h=>this (un_has.2 (.inl h)),fun h=>this (un_has.2 (.inr h))⟩
 have hsG:G.obj s=none:=(vg hs1.2).1
 have e0:(F.un G).setObj s (.cells (svC w (.s (.slice oa w.U.length cap)) (.s (.slice none 0 0)) (.s (.slice none 0 0)) (.s (.slice none 0 0)) p))=F.un (svS G s w (.s (.slice oa w.U.length cap)) (.s (.slice none 0 0)) (.s (.slice none 0 0)) (.s (.slice none 0 0)) p):=by
  exact zi F G s _
 have h0:StandR F G s p w (.s (.slice oa w.U.length cap)) [] (.s (.slice none 0 0)) (.s (.slice none 0 0)) (.s (.slice none 0 0)):=⟨hc,fun i h1 h2=>by
  rcases svS_has.1 h2 with rfl|h2
  ·exact hs1.1 h1
  ·exact hdF i h1 h2,hsG,hu,.inl rfl,.inl rfl,.inl rfl⟩
 have hsf:Fresh G s:=fresh_iff.2 hs1.2
 refine AWp.loop (σ:=Nat×Store×List Ent) ⟨fun q=>[(3,.av (ptr s)),(11,.av (.s (.slice oa w.U.length cap))),(12,.av (int (w.U.length:Nat))),(13,.av (int (q.1:Nat)))],fun _=>[],
  fun q st'=>st'=q.2.1.un (svS G s w (.s (.slice oa w.U.length cap)) (.s (.slice none 0 0)) (.s (.slice none 0 0)) (.s (.slice none 0 0)) p)/\StandR q.2.1 G s p w (.s (.slice oa w.U.length cap)) q.2.2 (.s (.slice none 0 0)) (.s (.slice none 0 0)) (.s (.slice none 0 0))/\q.1<=w.U.length/\q.2.2.length<=q.1/\(∀e∈q.2.2,e.2.ok)/\(yh w.U->∀e,e∈q.2.2↔∃u∈w.U.take q.1,u.inn=0/\e=(u.id,u.pos)),fun q=>w.U.length-q.1⟩ zc ?_ ?_
 ·exact⟨(0,F,[]),Tv,⟨e0,h0,Nat.zero_le _,Nat.le_refl _,fun e he=>(by cases he),fun _ e=>(by simp)⟩,⟨Tq,Tq,Tq,Tq,Tv⟩,Tv⟩
 rintro⟨i,F1,L⟩ st' ⟨rfl,hS,hi,hL,hok,hmem⟩
 dsimp only at hS hi hL hok hmem⊢
 refine bcd (fun h1=>?_) (fun h1=>?_)
 rotate_left
 ·have:i=w.U.length:=by omega
  subst this
  rw[List.take_length]at hmem
  exact ret (h F1 s p L _ _ _ hsf hS hL hmem)
 have hlt:i<w.U.length:=by omega
 obtain⟨b,J,rfl,hob0⟩:=hget i hlt
 have hbs:b≠s:=fun e=>by subst e;rw[hsG]at hob0;cases hob0
 have hob:(F1.un (svS G s w (.s (.slice (some ⟨b,0,none⟩) w.U.length cap)) (.s (.slice none 0 0)) (.s (.slice none 0 0)) (.s (.slice none 0 0)) p)).obj b=some (.cells ((rws untC w.U).flatten++J)):=un_r (by
  show(G.setObj s _).obj b=_
  rw[zd hbs];exact hob0)
 refine⟨i,rfl,hlt,?_⟩
 refine za (o:=(F1.un (svS G s w _ _ _ _ p)).obj b) _ hob ?_
 refine zn (i:=ti50) (row:=untC w.U[i]) rfl rfl (kj qf hlt) ?_
 have hn2:=hn w.U[i] (List.getElem_mem hlt)
 refine bceq (fun c1=>?_) (fun c1=>?_)
 ·refine Qc zc zyx ?_
  refine za (o:=(F1.un (svS G s w _ _ _ _ p)).obj s) _ (un_r (vz G s w _ _ _ _ p)) ?_
  refine⟨ysz hS.hc hS.hd (by omega) hok w.U[i].id w.U[i].pos hn2 _ (fun F2 h2 h3=>⟨Tv,?_⟩),Tv⟩
  have hlen:(yn L w.U[i].id++[(w.U[i].id,w.U[i].pos)]).length<=i+1:=by
   rw[List.length_append]
   have:(yn L w.U[i].id).length<=L.length:=List.length_filter_le _ _
   simp only[List.length_singleton];omega
  refine Qd ?_
  refine⟨(i+1,F2,_),?_,⟨rfl,⟨h2,h3,hsG,hu,.inl rfl,.inl rfl,.inl rfl⟩,by dsimp only;omega,hlen,fun e he=>?_,fun hr e=>?_⟩,⟨Tq,Tq,Tq,Tq,Tv⟩,Tv⟩
  ·show w.U.length-(i+1)<w.U.length-i
   omega
  ·rcases List.mem_append.1 he with he|he
   ·exact hok e (mem_dropId.1 he).1
   ·simp at he;subst he;exact hn2
  ·dsimp only
   rw[List.take_succ_eq_append_getElem hlt,List.mem_append,mem_dropId,hmem hr e]
   constructor
   ·rintro(⟨⟨u,hu,h4⟩,_⟩|he)
    ·exact⟨u,List.mem_append.2 (.inl hu),h4⟩
    ·simp at he
     exact⟨w.U[i],List.mem_append.2 (.inr (by simp)),c1,he⟩
   ·rintro⟨u,hu,h4,h5⟩
    rcases List.mem_append.1 hu with hu|hu
    ·refine .inl ⟨⟨u,hu,h4,h5⟩,?_⟩
     obtain⟨j,hj,rfl⟩:=List.getElem_of_mem hu
     rw[List.length_take]at hj
     rw[List.getElem_take]at h5
     have:=zic hr (a:=j) (b:=i) (by omega) hlt
     subst h5
     show w.U[j].id≠w.U[i].id
     omega
    ·simp at hu
     subst hu
     exact .inr (by simp[h5])
 ·refine Qd ?_
  refine⟨(i+1,F1,L),?_,⟨rfl,hS,by dsimp only;omega,by dsimp only;omega,hok,fun hr e=>?_⟩,⟨Tq,Tq,Tq,Tq,Tv⟩,Tv⟩
  ·show w.U.length-(i+1)<w.U.length-i
   omega
  ·dsimp only
   rw[hmem hr e,List.take_succ_eq_append_getElem hlt]
   constructor
   ·rintro⟨u,hu,h3⟩;exact⟨u,List.mem_append.2 (.inl hu),h3⟩
   ·rintro⟨u,hu,h3,h4⟩
    rcases List.mem_append.1 hu with hu|hu
    ·exact⟨u,hu,h3,h4⟩
    ·simp at hu
     subst hu
     exact absurd h3 c1
theorem znx{F:Store}{s p:Nat}{G:Store}{w:Wld}{v:AV}{L:List Ent}{o0 o1 o2:AV}(hS:StandR F G s p w v L o0 o1 o2)(hg:gndP w.G)(hB:w.B.length<=1000000000000)(hb:∀b∈w.B,bldP b/\onP w.G b)(c:Int)(hc:c=0\/c=1\/c=2)(R:AV->Store->Prop)
  (h:∀q0 q1 q2,StandR F G s p w v L q0 q1 q2->R (opV w.G w.B c) (F.un (svS G s w v q0 q1 q2 p))):ACalls Tryz.prog 162 [ptr s,int c] (F.un (svS G s w v o0 o1 o2 p)) R:=by
 have ho:=un_r (a:=F) (vz G s w v o0 o1 o2 p)
 obtain⟨x0,y0,hne0⟩:=zb3 hg w.B 0
 obtain⟨x1,y1,hne1⟩:=zb3 hg w.B 1
 obtain⟨x2,y2,hne2⟩:=zb3 hg w.B 2
 rcases hc with rfl|rfl|rfl
 ·rcases hS.h0 with e|e
  ·subst e
   refine Qa (c:=cfg 35) zc Tryz.func162 ?_
   refine⟨0,rfl,by decide,?_⟩
   refine za (o:=(F.un (svS G s w v _ _ _ p)).obj s) _ ho ?_
   refine Qc zc zc4 ?_
   refine za (o:=(F.un (svS G s w v _ _ _ p)).obj s) _ ho ?_
   refine za (o:=(F.un (svS G s w v _ _ _ p)).obj s) _ ho ?_
   refine⟨jx w.G hg w.B hB hb 0 _ _ ⟨Tv,?_⟩,Tv⟩
   refine⟨0,rfl,by decide,?_⟩
   have ho2:=un_r (a:=F) (vz G s w v (opV w.G w.B 0) o1 o2 p)
   have hc2:=zdi (zb3 hg w.B 0)
   refine⟨?_,Tv⟩
   refine za _ rfl (zv rfl (zy (v:=opV w.G w.B 0) rfl rfl rfl rfl ?_))
   refine zh (i:=ti60) (v:=opV w.G w.B 0) (b:=s) (o:=0+8+0*ti60.size) (l:=svC w v _ o1 o2 p) (st2:=F.un (svS G s w v (opV w.G w.B 0) o1 o2 p)) hc2.1 hc2.2 rfl ho (show 8+1<=12 by decide) ?_ ?_
   ·rw[zi]
    unfold svS
    rw[zg]
    rfl
   refine⟨Tv,?_⟩
   refine⟨0,rfl,by decide,?_⟩
   refine za (o:=(F.un (svS G s w v _ _ _ p)).obj s) _ ho2 ?_
   exact ret (h _ _ _ ⟨hS.hc,zmr hS.hd,hS.hs,hS.hu,.inr rfl,hS.h1,hS.h2⟩)
  ·rw[hne0]at e
   subst e
   refine Qa (c:=cfg 35) zc Tryz.func162 ?_
   refine⟨0,rfl,by decide,?_⟩
   refine za (o:=(F.un (svS G s w v _ _ _ p)).obj s) _ ho ?_
   refine fun bb hbb=>?_
   have hbf:bb=false:=by
    cases bb with
    |true=>cases hbb rfl
    |false=>rfl
   subst hbf
   refine⟨0,rfl,by decide,?_⟩
   refine za (o:=(F.un (svS G s w v _ _ _ p)).obj s) _ ho ?_
   refine ret ?_
   have:=h _ _ _ hS
   rw[hne0]at this
   exact this
 ·rcases hS.h1 with e|e
  ·subst e
   refine Qa (c:=cfg 35) zc Tryz.func162 ?_
   refine⟨1,rfl,by decide,?_⟩
   refine za (o:=(F.un (svS G s w v _ _ _ p)).obj s) _ ho ?_
   refine Qc zc zc4 ?_
   refine za (o:=(F.un (svS G s w v _ _ _ p)).obj s) _ ho ?_
   refine za (o:=(F.un (svS G s w v _ _ _ p)).obj s) _ ho ?_
   refine⟨jx w.G hg w.B hB hb 1 _ _ ⟨Tv,?_⟩,Tv⟩
   refine⟨1,rfl,by decide,?_⟩
   have ho2:=un_r (a:=F) (vz G s w v o0 (opV w.G w.B 1) o2 p)
   have hc2:=zdi (zb3 hg w.B 1)
   refine⟨?_,Tv⟩
   refine za _ rfl (zv rfl (zy (v:=opV w.G w.B 1) rfl rfl rfl rfl ?_))
   refine zh (i:=ti60) (v:=opV w.G w.B 1) (b:=s) (o:=0+8+1*ti60.size) (l:=svC w v o0 _ o2 p) (st2:=F.un (svS G s w v o0 (opV w.G w.B 1) o2 p)) hc2.1 hc2.2 rfl ho (show 9+1<=12 by decide) ?_ ?_
   ·rw[zi]
    unfold svS
    rw[zg]
    rfl
   refine⟨Tv,?_⟩
   refine⟨1,rfl,by decide,?_⟩
   refine za (o:=(F.un (svS G s w v _ _ _ p)).obj s) _ ho2 ?_
   exact ret (h _ _ _ ⟨hS.hc,zmr hS.hd,hS.hs,hS.hu,hS.h0,.inr rfl,hS.h2⟩)
  ·rw[hne1]at e
   subst e
   refine Qa (c:=cfg 35) zc Tryz.func162 ?_
   refine⟨1,rfl,by decide,?_⟩
   refine za (o:=(F.un (svS G s w v _ _ _ p)).obj s) _ ho ?_
   refine fun bb hbb=>?_
   have hbf:bb=false:=by
    cases bb with
    |true=>cases hbb rfl
    |false=>rfl
   subst hbf
   refine⟨1,rfl,by decide,?_⟩
   refine za (o:=(F.un (svS G s w v _ _ _ p)).obj s) _ ho ?_
   refine ret ?_
   have:=h _ _ _ hS
   rw[hne1]at this
   exact this
 ·rcases hS.h2 with e|e
  ·subst e
   refine Qa (c:=cfg 35) zc Tryz.func162 ?_
   refine⟨2,rfl,by decide,?_⟩
   refine za (o:=(F.un (svS G s w v _ _ _ p)).obj s) _ ho ?_
   refine Qc zc zc4 ?_
   refine za (o:=(F.un (svS G s w v _ _ _ p)).obj s) _ ho ?_
   refine za (o:=(F.un (svS G s w v _ _ _ p)).obj s) _ ho ?_
   refine⟨jx w.G hg w.B hB hb 2 _ _ ⟨Tv,?_⟩,Tv⟩
   refine⟨2,rfl,by decide,?_⟩
   have ho2:=un_r (a:=F) (vz G s w v o0 o1 (opV w.G w.B 2) p)
   have hc2:=zdi (zb3 hg w.B 2)
   refine⟨?_,Tv⟩
   refine za _ rfl (zv rfl (zy (v:=opV w.G w.B 2) rfl rfl rfl rfl ?_))
   refine zh (i:=ti60) (v:=opV w.G w.B 2) (b:=s) (o:=0+8+2*ti60.size) (l:=svC w v o0 o1 _ p) (st2:=F.un (svS G s w v o0 o1 (opV w.G w.B 2) p)) hc2.1 hc2.2 rfl ho (show 10+1<=12 by decide) ?_ ?_
   ·rw[zi]
    unfold svS
    rw[zg]
    rfl
   refine⟨Tv,?_⟩
   refine⟨2,rfl,by decide,?_⟩
   refine za (o:=(F.un (svS G s w v _ _ _ p)).obj s) _ ho2 ?_
   exact ret (h _ _ _ ⟨hS.hc,zmr hS.hd,hS.hs,hS.hu,hS.h0,hS.h1,.inr rfl⟩)
  ·rw[hne2]at e
   subst e
   refine Qa (c:=cfg 35) zc Tryz.func162 ?_
   refine⟨2,rfl,by decide,?_⟩
   refine za (o:=(F.un (svS G s w v _ _ _ p)).obj s) _ ho ?_
   refine fun bb hbb=>?_
   have hbf:bb=false:=by
    cases bb with
    |true=>cases hbb rfl
    |false=>rfl
   subst hbf
   refine⟨2,rfl,by decide,?_⟩
   refine za (o:=(F.un (svS G s w v _ _ _ p)).obj s) _ ho ?_
   refine ret ?_
   have:=h _ _ _ hS
   rw[hne2]at this
   exact this
theorem ym5(cs:List Value):flat (.tup (cs.map AV.s)):=by
 intro w T w' T' v h
 cases h with
 |tup _ c hl h=>
  refine .tup _ c hl fun i x y hx hy=>?_
  rw[List.getElem?_map]at hx
  cases hc:cs[i]? with
  |none=>rw[hc]at hx;cases hx
  |some z=>
   rw[hc]at hx
   cases hx
   have:=h i (.s z) y (by rw[List.getElem?_map,hc];rfl) hy
   cases this
   exact .s _
theorem zul{g:Store}{v:AV}{l:List Unt}(hv:RowsQ 10 untC g v l)(hl:l.length<=1000000000000)(hr:yh l)(id:Int)(R:AV->Store->Prop)
  (h:∀i,isAt l id i->∀z:Bool,(z=true↔∃hi:i<l.length,l[i].id=id)->R (.tup [int (i:Nat),V.bool z]) g):ACalls Tryz.prog 87 [v,int id] g R:=
 ACalls.read (ys:=[lst 10 untC l,int id]) (Q:=fun r=>∃(i:Nat) (z:Bool),r=.tup [int (i:Nat),V.bool z]/\isAt l id i/\(z=true↔∃hi:i<l.length,l[i].id=id)) (fun Oth M W vs sto hr=>by
  obtain⟨x,y,rfl,h1,h2⟩:=zif hr
  exact Reads.cons (hv.borrow qf yny sto h1) (Reads.cons (z8 h2) Reads.nil)) (zm5 l hl hr id _ _ fun i hi z hz=>⟨i,z,rfl,hi,hz⟩) (fun r ⟨i,z,e,_⟩=>e▸ym5 [_,_]) (fun r ⟨i,z,e,hi,hz⟩=>e▸h i hi z hz)
theorem zh1{F:Store}{s p:Nat}{G:Store}{w:Wld}{v:AV}{L:List Ent}{o0 o1 o2:AV}(hS:StandR F G s p w v L o0 o1 o2)(hr:yh w.U)(hU:w.U.length<=1000000)(hn:∀u∈w.U,u.pos.ok)(hLl:L.length<=w.U.length)(hL:zab w L)(q:Vc)(hq:q.ok)(r:Int)(hrr:0<r/\r<=262144)(R:AV->Store->Prop)
  (h:∀F' us,StandR F' G s p w v L o0 o1 o2->zrj w q (r+81920) us->(us.map (·.id)).Pairwise (·<·)->us.length<=1000000->R (lst 10 untC us) (F'.un (svS G s w v o0 o1 o2 p))):ACalls Tryz.prog 138 [ptr s,.agg (vecC q),int r] (F.un (svS G s w v o0 o1 o2 p)) R:=by
 have ho:=un_r (a:=F) (vz G s w v o0 o1 o2 p)
 refine Qa (c:=cfg 47) zc Tryz.func138 ?_
 refine Qc zc zto ?_
 refine za (o:=(F.un (svS G s w v _ _ _ p)).obj s) _ ho ?_
 refine Qd ?_
 refine⟨yof hS.hc hS.hd (by omega) (zfr hL hn) hq (r:=r+81920) ⟨by omega,by omega⟩ _ (fun F' N nv ns g1 g2 g3 g4 g5 g6=>⟨Tv,?_⟩),Tv⟩
 have hS':StandR F' G s p w v L o0 o1 o2:=⟨g1,g3,hS.hs,hS.hu,hS.h0,hS.h1,hS.h2⟩
 have ho':((F'.un N).un (svS G s w v o0 o1 o2 p)).obj s=some (.cells (svC w v o0 o1 o2 p)):=un_r (vz G s w v o0 o1 o2 p)
 have g4':Disj (F'.un N) (svS G s w v o0 o1 o2 p):=disj_un.2 ⟨g3,g4⟩
 have hv:∃oa cap,nv=.s (.slice oa ns.length cap)/\∀i,i<ns.length->∃b J,oa=some ⟨b,0,none⟩/\((F'.un N).un (svS G s w v o0 o1 o2 p)).obj b=some (.cells (ns.map aI++J)):=by
  rcases zaf g5 with⟨rfl,rfl⟩|⟨b,cap,J,rfl,hob,_⟩
  ·exact⟨none,0,rfl,fun i hi=>absurd hi (Nat.not_lt_zero i)⟩
  ·exact⟨_,cap,rfl,fun i _=>⟨b,J,rfl,un_l g4' (un_r hob)⟩⟩
 obtain⟨oa,cap,rfl,hget⟩:=hv
 have hrow:RowsQ 10 untC ((F'.un N).un (svS G s w v o0 o1 o2 p)) v w.U:=(zg7 hS.hs hS.hu).un
 have hnl:ns.length<=w.U.length:=by
  have:=List.Nodup.length_le_of_subset (l₂:=L.map (·.1)) (g6.1.imp fun h=>by omega) (fun id hid=>by
   obtain⟨e,he,h2,_⟩:=(g6.2 id).1 hid
   exact List.mem_map.2 ⟨e,he,h2⟩)
  rw[List.length_map]at this
  omega
 have hfin:∀us:List Unt,us.map (·.id)=ns->(∀u∈us,u∈w.U/\u.inn=0)->R (lst 10 untC us) (F'.un (svS G s w v o0 o1 o2 p)):=fun us e1 e2=>
  h F' us hS' (zt1 hr hL g6 e1 e2) (by rw[e1];exact g6.1) (by
   have:=congrArg List.length e1
   rw[List.length_map]at this
   omega)
 have hback:=zpa (S:=svS G s w v o0 o1 o2 p) g2
 generalize(F'.un N).un (svS G s w v o0 o1 o2 p)=st1 at*
 refine AWp.loop (σ:=Nat×AV×List Unt) ⟨fun x=>[(0,.av (ptr s)),(6,.av x.2.1),(18,.av (.s (.slice oa ns.length cap))),(19,.av (int (ns.length:Nat))),(20,.av (int (x.1:Nat)))],fun _=>[],
  fun x st'=>x.1<=ns.length/\App 10 st1 x.2.1 (rws untC x.2.2) st'/\x.2.2.map (·.id)=ns.take x.1/\∀u∈x.2.2,u∈w.U/\u.inn=0,fun x=>ns.length-x.1⟩ zc ?_ ?_
 ·exact⟨(0,_,[]),Tv,⟨Nat.zero_le _,App.start 10 st1,rfl,fun u hu=>(by cases hu)⟩,⟨Tq,Tq,Tq,Tq,Tq,Tv⟩,Tv⟩
 rintro⟨i,v2,us⟩ st' ⟨hi,ha,hus,hin⟩
 dsimp only at hi ha hus hin⊢
 refine bcd (fun h1=>?_) (fun h1=>?_)
 rotate_left
 ·have:i=ns.length:=by omega
  subst this
  rw[List.take_length]at hus
  exact⟨_,_,AV.le_trans ha.le (Tt),ha.has.trans hback,hfin us hus hin⟩
 have hlt:i<ns.length:=by omega
 obtain⟨b,J,rfl,hob⟩:=hget i hlt
 have hob':st'.obj b=some (.cells (ns.map aI++J)):=by rw[ha.obj];exact hob
 have hrow':RowsQ 10 untC st' v w.U:=by
  exact hrow.sub fun _ _ _ _=>by rw[ha.obj]
 have hos:st'.obj s=some (.cells (svC w v o0 o1 o2 p)):=by rw[ha.obj];exact ho'
 refine⟨i,rfl,hlt,?_⟩
 refine za (o:=st'.obj b) _ hob' ?_
 refine za (o:=List.head? _) (int ns[i]) (by
  rw[List.head?_drop,show 0+i*ti2.size=i from by show 0+i*1=i;omega,List.getElem?_append_left (by simpa using hlt),List.getElem?_map,List.getElem?_eq_getElem hlt];rfl) ?_
 refine za (o:=st'.obj s) _ hos ?_
 refine zul hrow' (by omega) hr ns[i] _ (fun k hk z hz=>?_)
 obtain⟨e,he,hid,_⟩:=(g6.2 ns[i]).1 (List.getElem_mem hlt)
 obtain⟨u,hu,hu0,rfl⟩:=(hL e).1 he
 have hfound:∃hk2:k<w.U.length,w.U[k].id=ns[i]:=by
  obtain⟨j,hj,rfl⟩:=List.getElem_of_mem hu
  have h5:j>=k:=Decidable.byContradiction fun hn2=>by
   have:=hk.2.1 j hj (by omega)
   have h6:(w.U[j]).id=ns[i]:=hid
   omega
  have h7:k<w.U.length:=by omega
  refine⟨h7,?_⟩
  have h8:=hk.2.2 k h7 (Nat.le_refl _)
  have h6:(w.U[j]).id=ns[i]:=hid
  by_cases e:k=j
  ·subst e;exact h6
  ·have:=xe hr (show k<j by omega) hj
   omega
 obtain⟨hk2,hk3⟩:=hfound
 refine za (o:=st'.obj s) _ hos ?_
 obtain⟨oa2,cap2,hv2,hget2⟩:=hrow'.form
 obtain⟨b2,J2,rfl,hob2⟩:=hget2 k hk2
 subst hv2
 refine⟨k,rfl,hk2,?_⟩
 refine za (o:=st'.obj b2) _ hob2 ?_
 refine zn (i:=ti50) (row:=untC w.U[k]) rfl rfl (kj qf hk2) ?_
 refine⟨by decide,?_⟩
 have hul:us.length=i:=by
  have:=congrArg List.length hus
  rw[List.length_map,List.length_take]at this
  omega
 refine xi (ie:=ti50) (rows':=[untC w.U[k]]) ha ?_ ?_ ⟨?_,?_⟩ (fun v3 st3 ha3=>?_)
 ·rfl
 ·rfl
 ·simp only[zk,List.length_singleton,ti50];omega
 ·simp only[zk,List.length_singleton];omega
 refine Qd ?_
 have huk:w.U[k]=u:=vf hr (List.getElem_mem hk2) hu (by rw[hk3];exact hid.symm)
 refine⟨(i+1,v3,us++[w.U[k]]),?_,⟨by dsimp only;omega,?_,?_,fun u2 hu2=>?_⟩,⟨Tq,Tq,Tq,Tq,Tq,Tv⟩,Tv⟩
 ·show ns.length-(i+1)<ns.length-i
  omega
 ·dsimp only
  unfold rws at ha3⊢
  rw[List.map_append]
  exact ha3
 ·dsimp only
  rw[List.map_append,hus,List.take_succ_eq_append_getElem hlt]
  simp[hk3]
 ·rcases List.mem_append.1 hu2 with h9|h9
  ·exact hin u2 h9
  ·simp at h9
   subst h9
   rw[huk]
   exact⟨hu,hu0⟩
theorem zq0{F:Store}{s p:Nat}{G:Store}{w:Wld}{v:AV}{L:List Ent}{o0 o1 o2:AV}(hS:StandR F G s p w v L o0 o1 o2)(hr:yh w.U)(hU:w.U.length<=1000000)(hn:∀u∈w.U,u.pos.ok)(hLl:L.length<=w.U.length)(hL:zab w L)(q:Vc)(hq:q.ok)(r:Int)(hrr:0<r/\r<=262144)(R:AV->Store->Prop)
  (h:∀F' us,StandR F' G s p w v L o0 o1 o2->zrj w q (r+81920) us->us.length<=1000000->R (lst 10 untC us) (F'.un (svS G s w v o0 o1 o2 p))):ACalls Tryz.prog 138 [ptr s,.agg (vecC q),int r] (F.un (svS G s w v o0 o1 o2 p)) R:=
 zh1 hS hr hU hn hLl hL q hq r hrr R fun F' us a b _ d=>h F' us a b d
theorem zn2{F:Store}{s p:Nat}{G:Store}{w:Wld}{v:AV}{L:List Ent}{o0 o1 o2:AV}(hS:StandR F G s p w v L o0 o1 o2)(hg:gndP w.G)(hB:w.B.length<=1000000000000)(hb:∀b∈w.B,bldP b/\onP w.G b)(hr:yh w.U)(hU:w.U.length<=1000000)(hn:∀u∈w.U,u.pos.ok)(hLl:L.length<=w.U.length)(hL:zab w L)
  (id k:Int) (q:Vc) (hq:q.ok) (R:AV->Store->Prop)
  (h:∀z F' q0 q1 q2,(z=true↔yv w id k q)->StandR F' G s p w v L q0 q1 q2->R (V.bool z) (F'.un (svS G s w v q0 q1 q2 p))):ACalls Tryz.prog 110 [ptr s,int id,int k,.agg (vecC q)] (F.un (svS G s w v o0 o1 o2 p)) R:=by
 have ho:=un_r (a:=F) (vz G s w v o0 o1 o2 p)
 have hk:=zb5 k
 have hc:=zis k
 refine Qa (c:=cfg 56) zc Tryz.func110 ?_
 refine zq k _ _ ?_
 refine Qc zc ztr ?_
 refine za (o:=(F.un (svS G s w v _ _ _ p)).obj s) _ ho ?_
 refine⟨znx hS hg hB hb (kCls k) hc _ (fun a0 a1 a2 hS1=>⟨?_,?_⟩),Tv⟩
 ·have ho1:=un_r (a:=F) (vz G s w v a0 a1 a2 p)
  repeat(first|exact Tv|refine⟨rfl,?_⟩|refine⟨za (o:=(F.un (svS G s w v a0 a1 a2 p)).obj s) _ ho1 rfl,?_⟩)
 refine⟨zpn w.G hg w.B (kCls k) q hq (kRad k) ⟨hk.1,by omega⟩ _ _ (fun z hz=>⟨Tv,?_⟩),Tv⟩
 refine yo ?_
 refine ze (fun c1=>?_) (fun c1=>ret (h false _ _ _ _ (by simp only[Bool.false_eq_true,false_iff];exact fun hh=>by have:=hz.2 hh.1;rw[this]at c1;cases c1) hS1))
 have hfree:=hz.1 c1
 refine zq0 hS1 hr hU hn hLl hL q hq (kRad k) ⟨hk.1,by omega⟩ _ (fun F' us hS2 hus hul=>?_)
 have hci:=zp2 (id:=id) hfree hus
 have no:¬yv w id k q->R (V.bool false) (F'.un (svS G s w v a0 a1 a2 p)):=fun hh=>h false _ _ _ _ (by simp only[Bool.false_eq_true,false_iff];exact hh) hS2
 refine AWp.loop (σ:=Nat) ⟨fun i=>[(1,.av (int id)),(7,.bx 7 0),(9,.bx 9 0),(32,.av (lst 10 untC us)),(33,.av (int (us.length:Nat))),(34,.av (int (i:Nat)))],fun _=>[(7,vecC q),(9,zd0 k)],
  fun i st'=>st'=F'.un (svS G s w v a0 a1 a2 p)/\i<=us.length/\∀j,(hj:j<us.length)->j<i->us[j].id≠id->zam q (kRad k) us[j].pos (kRad us[j].kind)=true,fun i=>us.length-i⟩ zc ?_ ?_
 ·refine⟨0,Tv,⟨rfl,Nat.zero_le _,fun j _ hj=>by omega⟩,⟨Tq,Tq,Tq,Tq,?_,Tq,Tv⟩,⟨rfl,rfl,Tv⟩⟩
  rw[<-zk (f:=untC) us];exact Tq
 rintro i st' ⟨rfl,hi,hall⟩
 refine bcd (fun h1=>?_) (fun h1=>?_)
 rotate_left
 ·refine ret (h true _ _ _ _ (by
   simp only[true_iff]
   refine hci.2 fun u hu hne=>?_
   obtain⟨j,hj,rfl⟩:=List.getElem_of_mem hu
   exact hall j hj (by omega) hne) hS2)
 have hlt:i<us.length:=by omega
 have hui:=(hus us[i]).1 (List.getElem_mem hlt)
 have next:(us[i].id≠id->zam q (kRad k) us[i].pos (kRad us[i].kind)=true)->∀j,(hj:j<us.length)->j<i+1->us[j].id≠id->zam q (kRad k) us[j].pos (kRad us[j].kind)=true:=fun hh j hj hji=>by
  by_cases e:j=i
  ·subst e;exact hh
  ·exact hall j hj (by omega)
 refine⟨i,rfl,za _ (zj hlt) ?_⟩
 refine Qc zc ztq ?_
 refine bcne (fun c2=>?_) (fun c2=>?_)
 ·refine⟨zq us[i].kind _ _ ⟨Qe,?_⟩,Tv⟩
  have hk2:=zb5 us[i].kind
  refine⟨zlk q (kRad k) us[i].pos (kRad us[i].kind) hq (hn _ hui.1.1) ⟨hk.1,by omega⟩ ⟨hk2.1,by omega⟩ _ _ ⟨Tv,?_⟩,Tv⟩
  refine yo ?_
  refine ze (fun c3=>?_) (fun c3=>?_)
  ·refine Qd ?_
   refine⟨i+1,?_,⟨rfl,by omega,next fun _=>c3⟩,⟨Tq,Tq,Tq,Tq,Tq,Tq,Tv⟩,⟨rfl,rfl,Tv⟩⟩
   show us.length-(i+1)<us.length-i
   omega
  ·refine ret (no fun hh=>?_)
   have:=hci.1 hh us[i] (List.getElem_mem hlt) c2
   rw[this]at c3;cases c3
 ·refine⟨⟨Qe,?_⟩,Tv⟩
  refine⟨⟨Tv,?_⟩,Tv⟩
  refine Qd ?_
  refine⟨i+1,?_,⟨rfl,by omega,next fun hne=>absurd c2 hne⟩,⟨Tq,Tq,Tq,Tq,Tq,Tq,Tv⟩,⟨rfl,rfl,Tv⟩⟩
  show us.length-(i+1)<us.length-i
  omega
theorem ysb{F G:Store}{s p:Nat}{w:Wld}{v:AV}{L:List Ent}{o0 o1 o2:AV}(hS:StandR F G s p w v L o0 o1 o2)(hos:offB v s)(hr:yh w.U)(hU:w.U.length<=1000000)(hL:L.length<=1000000)(hok:∀e∈L,e.2.ok){i:Nat}(hi:i<w.U.length)(u:Unt)(hid:w.U[i].id=u.id)(hp:u.pos.ok)(R:AV->Store->Prop)
  (h:∀F' G',StandR F' G' s p {w with U:=w.U.set i u} v (entP L u) o0 o1 o2->(∀q,offB v q->G'.obj q=G.obj q)->R (.tup []) (F'.un (svS G' s {w with U:=w.U.set i u} v o0 o1 o2 p))):
  ACalls Tryz.prog 111 [ptr s,.agg (untC u)] (F.un (svS G s w v o0 o1 o2 p)) R:=by
 have hrow:RowsQ 10 untC (F.un (svS G s w v o0 o1 o2 p)) v w.U:=(zg7 hS.hs hS.hu).un
 have hs0:(F.un (svS G s w v o0 o1 o2 p)).obj s=some (.cells (svC w v o0 o1 o2 p)):=un_r (vz _ _ _ _ _ _ _ _)
 rcases hS.hu with(⟨_,hl0⟩|⟨b,cap,J,rfl,ho,hc1,hc2,hc3⟩)|⟨_,_,_,hl0⟩
 ·rw[hl0]at hi;exact absurd hi (Nat.not_lt_zero i)
 rotate_left
 ·rw[hl0]at hi;exact absurd hi (Nat.not_lt_zero i)
 have hbs:b≠s:=hos b _ _ rfl (by omega)
 have hob:(F.un (svS G s w (.s (.slice (some ⟨b,0,none⟩) w.U.length cap)) o0 o1 o2 p)).obj b=some (.cells ((rws untC w.U).flatten++J)):=un_r (by
  show(G.setObj s _).obj b=_
  rw[zd hbs];exact ho)
 refine Qa (c:=cfg 44) zc Tryz.func111 ?_
 refine Qc zc ylz ?_
 refine za (o:=(F.un (svS G s w _ o0 o1 o2 p)).obj s) _ hs0 ?_
 refine⟨zul hrow (by omega) hr u.id _ (fun k hk z hz=>⟨Qe,?_⟩),Tv⟩
 have hki:k=i:=by
  by_cases h1:k<i
  ·have:=hk.2.2 k (by omega) (Nat.le_refl _)
   have:=zic hr h1 hi
   omega
  ·by_cases h2:i<k
   ·have:=hk.2.1 i hi h2;omega
   ·omega
 subst hki
 refine⟨⟨Tv,?_⟩,Tv⟩
 refine⟨⟨Tv,?_⟩,Tv⟩
 refine Qc zc yly ?_
 refine za (o:=(F.un (svS G s w _ o0 o1 o2 p)).obj s) _ hs0 ?_
 refine⟨k,rfl,hi,?_⟩
 refine⟨?_,Tv⟩
 refine za _ rfl (zv rfl (zy (v:=.agg (untC u)) rfl rfl rfl rfl ?_))
 refine yk (i:=ti50) (v:=.agg (untC u)) (xs:=untC u) (b:=b) (o:=0+k*10) (l:=(rws untC w.U).flatten++J) rfl rfl rfl hob (by rw[List.length_append,qp qf,qf];omega) ?_
 have e0:(F.un (svS G s w (.s (.slice (some ⟨b,0,none⟩) w.U.length cap)) o0 o1 o2 p)).setObj b (.cells (zo ((rws untC w.U).flatten++J) (0+k*10) (untC u)))=F.un (svS (G.setObj b (.cells ((rws untC (w.U.set k u)).flatten++J))) s {w with U:=w.U.set k u} (.s (.slice (some ⟨b,0,none⟩) w.U.length cap)) o0 o1 o2 p):=by
  rw[Nat.zero_add,yl6 qf hi u J,zi]
  unfold svS
  rw[jt hbs]
  rfl
 rw[e0]
 have hG:∀q,q≠b->(G.setObj b (.cells ((rws untC (w.U.set k u)).flatten++J))).obj q=G.obj q:=fun q hq=>zd hq
 have hS':StandR F (G.setObj b (.cells ((rws untC (w.U.set k u)).flatten++J))) s p {w with U:=w.U.set k u} (.s (.slice (some ⟨b,0,none⟩) w.U.length cap)) L o0 o1 o2:=by
  refine⟨hS.hc,fun j h1 h2=>hS.hd j h1 (svS_has.2 ?_),?_,.inl (.inr ⟨b,cap,J,by rw[List.length_set],zb _ _ _,by rw[List.length_set];exact hc1,by rw[List.length_set];exact hc2,hc3⟩),hS.h0,hS.h1,hS.h2⟩
  ·rcases svS_has.1 h2 with h2|h2
   ·exact .inl h2
   ·rcases has_setObj_iff.1 h2 with rfl|h2
    ·exact .inr (yw ho)
    ·exact .inr h2
  ·rw[hG s (Ne.symm hbs)];exact hS.hs
 have hoffG:∀q,offB (.s (.slice (some ⟨b,0,none⟩) w.U.length cap)) q->(G.setObj b (.cells ((rws untC (w.U.set k u)).flatten++J))).obj q=G.obj q:=fun q hq=>hG q (Ne.symm (hq b _ _ rfl (by omega)))
 generalize G.setObj b _=G1 at hS' hoffG⊢
 have hs1:(F.un (svS G1 s {w with U:=w.U.set k u} (.s (.slice (some ⟨b,0,none⟩) w.U.length cap)) o0 o1 o2 p)).obj s=some (.cells (svC w (.s (.slice (some ⟨b,0,none⟩) w.U.length cap)) o0 o1 o2 p)):=un_r (vz _ _ _ _ _ _ _ _)
 refine⟨Tv,?_⟩
 refine bceq (fun c1=>?_) (fun c1=>?_)
 ·refine Qc zc ylx ?_
  refine za (o:=(F.un (svS G1 s _ _ o0 o1 o2 p)).obj s) _ hs1 ?_
  refine⟨ysz hS'.hc hS'.hd (by omega) hok u.id u.pos hp _ (fun F2 h2 h3=>⟨Tv,?_⟩),Tv⟩
  have e9:entP L u=yn L u.id++[(u.id,u.pos)]:=if_pos c1
  exact ret (h F2 G1 ⟨by rw[e9];exact h2,h3,hS'.hs,hS'.hu,hS'.h0,hS'.h1,hS'.h2⟩ hoffG)
 ·refine Qc zc ylw ?_
  refine za (o:=(F.un (svS G1 s _ _ o0 o1 o2 p)).obj s) _ hs1 ?_
  refine⟨yni hS'.hc hS'.hd (by omega) hok u.id _ (fun F2 h2 h3=>⟨Tv,?_⟩),Tv⟩
  have e9:entP L u=yn L u.id:=if_neg c1
  exact ret (h F2 G1 ⟨by rw[e9];exact h2,h3,hS'.hs,hS'.hu,hS'.h0,hS'.h1,hS'.h2⟩ hoffG)
theorem zy6(m:Int)(hm:0<=m)(st:Store)(R:AV->Store->Prop)(h:∀r,zb6 m r->R (int r) st):ACalls Tryz.prog 213 [.agg (j6 m)] st R:=by
 refine Qa (c:=cfg 22) zc Tryz.func213 ?_
 refine AWp.loop (σ:=Nat×Int) ⟨fun x=>[(1,.bx 1 0),(3,.av (u64 x.2)),(4,.av (int ((x.1:Int)-1)))],fun _=>[(1,j6 m)],
  fun x st'=>x.1<=63/\st'=st/\zgh m x.2 x.1,fun x=>x.1⟩ zc ?_ ?_
 ·exact⟨(63,0),Tv,⟨Nat.le_refl _,rfl,zn9 hm⟩,⟨Tq,Tq,Tq,Tv⟩,⟨rfl,Tv⟩⟩
 rintro⟨k,r⟩ st' ⟨hk,rfl,hr⟩
 dsimp only at hk hr⊢
 refine bcd (fun h1=>?_) (fun h1=>?_)
 rotate_left
 ·have:k=0:=by omega
  subst this
  have hi:=zvl hr
  have h2:=h r hi
  have hi0:=hi.1
  exact⟨⟨by omega,hi.2.1⟩,ret h2⟩
 cases k with
 |zero=>omega
 |succ k=>
  obtain⟨e1,e2,e3,e4⟩:=zvm hr
  have e5:((k+1:Nat):Int)-1=(k:Int):=by omega
  refine⟨by omega,?_⟩
  have e7:q9 .or .u64 r (IntKind.u64.wrap (1*2^(min (((k+1:Nat):Int)-1).toNat IntKind.u64.bits)))=r+2^k:=by rw[e5,shl1 (by omega),e1]
  have e8:∀X,X=r+2^k->0<=X/\X<18446744073709551616/\0<=X*X:=fun X hX=>by subst hX;exact⟨by omega,by omega,Int.mul_nonneg (by omega) (by omega)⟩
  have e8:=e8 _ e7
  refine Qc zc yk1 ?_
  refine⟨zaw _ e8.1 e8.2.1 _ _ ⟨Qe,?_⟩,Tv⟩
  refine⟨zli m _ hm e8.2.2 _ _ ⟨Qe,?_⟩,Tv⟩
  have no:=fun hh=>zy7 hr hh
  have yes:=fun hh=>zvk hr hh
  rw[<-e7]at no yes
  generalize q9 .or .u64 r (IntKind.u64.wrap (1*2^(min (((k+1:Nat):Int)-1).toNat IntKind.u64.bits)))=X at*
  refine yo ?_
  refine bcd (fun c1=>?_) (fun c1=>?_)
  ·refine⟨by unfold yq;omega,?_⟩
   refine⟨(k,r),?_,⟨by dsimp only;omega,rfl,no c1⟩,⟨Tq,Tq,?_,Tv⟩,⟨rfl,Tv⟩⟩
   ·show k<k+1
    omega
   ·rw[e5];exact Tq
  ·refine⟨by unfold yq;omega,?_⟩
   refine⟨(k,X),?_,⟨by dsimp only;omega,rfl,yes (by omega)⟩,⟨Tq,Tq,?_,Tv⟩,⟨rfl,Tv⟩⟩
   ·show k<k+1
    omega
   ·rw[e5];exact Tq
theorem zvg(m:Int)(hm:0<=m)(st:Store)(R:AV->Store->Prop)(h:∀r,zb6 m r->R (u64 r) st):ACalls Tryz.prog 58 [.agg (j6 m),u64 9223372036854775807] st R:=by
 refine Qa (c:=cfg 28) zc Tryz.func58 ?_
 refine AWp.loop (σ:=Int×Int) ⟨fun x=>[(2,.bx 2 0),(5,.av (u64 x.1)),(6,.av (u64 x.2))],fun _=>[(2,j6 m)],
  fun x st'=>st'=st/\zh8 m x.1 x.2,fun x=>(x.2-x.1).toNat⟩ zc ?_ ?_
 ·exact⟨(0,9223372036854775807),Tv,⟨rfl,zoa hm⟩,⟨Tq,Tq,Tq,Tv⟩,⟨rfl,Tv⟩⟩
 rintro⟨l,u⟩ st' ⟨rfl,hr⟩
 dsimp only at hr⊢
 refine bcd (fun h1=>?_) (fun h1=>?_)
 rotate_left
 ·exact ret (h l (zvn hr h1))
 have b1:=hr.1
 have b2:=hr.2.2.1
 have w1:IntKind.u64.wrap (u-l)=u-l:=ye (by omega) (by omega)
 have w2:IntKind.u64.wrap (u-l+1)=u-l+1:=ye (by omega) (by omega)
 have hd:0<=(u-l+1)/2/\(u-l+1)/2<=u-l/\1<=(u-l+1)/2:=by omega
 have w3:IntKind.u64.wrap ((u-l+1)/2)=(u-l+1)/2:=ye (by omega) (by omega)
 have w4:IntKind.u64.wrap (l+(u-l+1)/2)=l+(u-l+1)/2:=ye (by omega) (by omega)
 have wX:IntKind.u64.wrap (l+IntKind.u64.wrap ((IntKind.u64.wrap (IntKind.u64.wrap (u-l)+1)).tdiv 2))=l+(u-l+1)/2:=by
  rw[w1,w2,show(u-l+1).tdiv 2=(u-l+1)/2 from Int.tdiv_eq_ediv_of_nonneg (by omega),w3,w4]
 have e8:∀X,X=l+(u-l+1)/2->0<=X/\X<18446744073709551616/\0<=X*X/\l<X/\X<=u:=fun X hX=>by
  have h0:0<=X:=by omega
  exact⟨h0,by omega,Int.mul_nonneg h0 h0,by omega,by omega⟩
 have e8:=e8 _ wX
 refine⟨by decide,?_⟩
 refine Qc zc yrp ?_
 refine⟨za8 _ _ e8.1 e8.2.1 e8.1 e8.2.1 _ _ ⟨Qe,?_⟩,Tv⟩
 refine⟨zox m _ hm e8.2.2.1 _ _ ⟨Qe,?_⟩,Tv⟩
 generalize IntKind.u64.wrap (l+IntKind.u64.wrap ((IntKind.u64.wrap (IntKind.u64.wrap (u-l)+1)).tdiv 2))=X at*
 refine bcd (fun c1=>?_) (fun c1=>?_)
 ·have w5:IntKind.u64.wrap (X-1)=X-1:=ye (by omega) (by omega)
  refine⟨(l,X-1),?_,⟨rfl,zy9 hr e8.2.2.2.1 e8.2.2.2.2 c1⟩,⟨Tq,Tq,?_,Tv⟩,⟨rfl,Tv⟩⟩
  ·show(X-1-l).toNat<(u-l).toNat
   omega
  ·show LV.le (.av (u64 (IntKind.u64.wrap (X-1)))) (.av (u64 (X-1)))
   rw[w5]
   exact Tq
 ·refine⟨(X,u),?_,⟨rfl,zy8 hr e8.2.2.2.1 e8.2.2.2.2 (Int.not_lt.1 c1)⟩,⟨Tq,Tq,Tq,Tv⟩,⟨rfl,Tv⟩⟩
  show(u-X).toNat<(u-l).toNat
  omega
theorem zt8(v:Vc)(hv:v.ok)(st:Store)(R:AV->Store->Prop)(h:∀r,zb6 (sqr v) r->R (int r) st):ACalls Tryz.prog 184 [.agg (vecC v)] st R:=by
 have hb:=zu6 hv
 refine Qa (c:=cfg 6) zc Tryz.func184 ?_
 refine zhy v hv _ _ ?_
 refine zy6 (sqr v) (by unfold sqr;omega) _ _ (fun r hr=>?_)
 exact ret (h r hr)
theorem zia(v:Vc)(hv:v.ok)(st:Store)(R:AV->Store->Prop)(h:∀r,zb6 (sqr v) r->R (int r) st):ACalls Tryz.prog 21 [.agg (vecC v)] st R:=by
 have hb:=zu6 hv
 refine Qa (c:=cfg 7) zc Tryz.func21 ?_
 refine zeo v hv _ _ ?_
 refine zvg (sqr v) (by unfold sqr;omega) _ _ (fun r hr=>?_)
 have h0:=hr.1
 exact⟨⟨by omega,hr.2.1⟩,ret (h r hr)⟩
theorem zj7(v:Vc)(st:Store)(R:AV->Store->Prop)(h:R (.agg (vecC (vnrm v))) st):ACalls Tryz.prog 108 [.agg (vecC v)] st R:=by
 refine Qa (c:=cfg 10) zc Tryz.func108 ?_
 refine Qc zc yl1 ?_
 refine⟨zad v.1 _ _ ⟨Qe,?_⟩,Tv⟩
 refine⟨zad v.2 _ _ ⟨Qe,?_⟩,Tv⟩
 refine⟨⟨Qe,?_⟩,Tv⟩
 exact ret h
theorem zno(a b:Vc)(ha:a.ok)(hb:b.ok)(st:Store)(R:AV->Store->Prop)(h:R (.agg (vecC (vadd a b))) st):ACalls Tryz.prog 109 [.agg (vecC a),.agg (vecC b)] st R:=by
 refine Qa (c:=cfg 16) zc Tryz.func109 ?_
 refine Qc zc yl0 ?_
 refine⟨zax a.1 b.1 ha.1 hb.1 _ _ ⟨Qe,?_⟩,Tv⟩
 refine⟨zax a.2 b.2 ha.2 hb.2 _ _ ⟨Qe,?_⟩,Tv⟩
 refine⟨⟨Qe,?_⟩,Tv⟩
 exact ret h
theorem zbc(a b:Vc)(ha:a.ok)(hb:b.ok)(st:Store)(R:AV->Store->Prop)(h:R (.agg (vecC (vadd a b))) st):ACalls Tryz.prog 66 [.agg (vecC a),.agg (vecC b)] st R:=by
 refine Qa (c:=cfg 16) zc Tryz.func66 ?_
 refine Qc zc yrl ?_
 refine⟨zii a.1 b.1 ha.1 hb.1 _ _ ⟨Qe,?_⟩,Tv⟩
 refine⟨zii a.2 b.2 ha.2 hb.2 _ _ ⟨Qe,?_⟩,Tv⟩
 refine⟨⟨Qe,?_⟩,Tv⟩
 exact ret h
theorem zw7(lo y:Int)(h0:0<=lo)(h1:lo<18446744073709551616)(h2:0<y)(h3:y<18446744073709551616)(st:Store)(R:AV->Store->Prop)(h:R (.tup [u64 (lo/y),u64 (lo%y)]) st):ACalls Tryz.prog 216 [u64 0,u64 lo,u64 y] st R:=by
 have e1:lo.tdiv y=lo/y:=Int.tdiv_eq_ediv_of_nonneg h0
 have e2:lo.tmod y=lo%y:=Int.tmod_eq_emod_of_nonneg h0
 have b1:lo/y<=lo:=Int.ediv_le_self _ h0
 have b0:0<=lo/y:=Int.ediv_nonneg h0 (by omega)
 have w:IntKind.u64.wrap (lo.tdiv y)=lo/y:=by rw[e1];exact ye b0 (by omega)
 refine Qa (c:=cfg 135) zc Tryz.func216 ?_
 refine bceq (fun c1=>absurd c1 (by omega)) (fun c1=>?_)
 refine bcd (fun c2=>absurd c2 (by omega)) (fun c2=>?_)
 refine Qc zc yk0 ?_
 refine⟨by omega,?_⟩
 refine⟨by omega,?_⟩
 refine⟨⟨Qe,⟨⟨Tv,?_⟩,Tv⟩⟩,Tv⟩
 rw[w,e2]
 exact ret h
theorem nrm_lt{n:Int}:nrm n<0↔n<0:=by unfold nrm;split<;>omega
theorem ycm{c:Int}(h:-4611686018427387904<=c/\c<=4611686018427387904):asz c=if c<0 then -c else c:=by
 unfold asz
 rw[xz (by omega)]
theorem zom(c most long:Int)(hc:-1099511627776<=c/\c<=1099511627776)(hm:0<=most/\most<=1048576)(hl:0<long/\long<9223372036854775808)(st:Store)(R:AV->Store->Prop)(h:R (int (cutC c most long)) st):
  ACalls Tryz.prog 185 [int c,int most,int long] st R:=by
 have hasz:=ycm (c:=c) (by omega)
 obtain⟨x,hx⟩:∃x,x=asz c:=⟨_,rfl⟩
 have hx0:0<=x/\x<=1099511627776:=by rw[hx,hasz];split<;>omega
 have hp0:0<=x*most:=Int.mul_nonneg hx0.1 hm.1
 have hp1:x*most<=1099511627776*1048576:=Int.mul_le_mul hx0.2 hm.2 hm.1 (by omega)
 have hq1:x*most/long<=x*most:=Int.ediv_le_self _ hp0
 have hq0:0<=x*most/long:=Int.ediv_nonneg hp0 (by omega)
 have w1:IntKind.u64.wrap most=most:=ye (by omega) (by omega)
 have w2:IntKind.u64.wrap long=long:=ye (by omega) (by omega)
 refine Qa (c:=cfg 39) zc Tryz.func185 ?_
 refine zna c ⟨by omega,by omega⟩ _ _ ?_
 rw[<-hx]
 show ACalls _ _ [u64 x,u64 (IntKind.u64.wrap most)] _ _
 rw[w1]
 refine zfv x most hx0.1 (by omega) hm.1 (by omega) _ _ ?_
 have e2:j6 (x*most)=[u64 0,u64 (x*most)]:=by
  unfold j6
  rw[Int.ediv_eq_zero_of_lt hp0 (by omega),Int.emod_eq_of_lt hp0 (by omega)]
 rw[e2]
 show ACalls _ _ [u64 0,u64 (x*most),u64 (IntKind.u64.wrap long)] _ _
 rw[w2]
 refine zw7 _ _ hp0 (by omega) hl.1 (by omega) _ _ ?_
 unfold cutC at h
 refine bcd (fun c1=>?_) (fun c1=>?_)
 ·have c1:=nrm_lt.1 c1
  rw[if_pos c1]at h
  rw[if_pos c1]at hasz
  refine Qd ?_
  refine Qd ?_
  have e:0-x*most/long=-(-c*most/long):=by rw[hx,hasz];omega
  rw[e]
  exact ret h
 ·have c1:¬c<0:=fun hh=>c1 (nrm_lt.2 hh)
  rw[if_neg c1]at h
  rw[if_neg c1]at hasz
  refine Qd ?_
  rw[hx,hasz]
  exact ret h
theorem znl{v:Vc}(h:za7 v):vnrm v=v:=(jh (qn h)).2.1
theorem zdh(v:Vc)(most:Int)(hv:za7 v)(hm:-9223372036854775808<=most/\most<=1048576)(st:Store)(R:AV->Store->Prop)(h:R (.agg (vecC (qj v most))) st):
  ACalls Tryz.prog 140 [.agg (vecC v),int most] st R:=by
 have hn:=znl hv
 have hsq:=(jh (qn hv)).2.2.1
 have hri:=zbq hsq
 unfold qj at h
 rw[<-zfy]at h
 have hmx:0<=max2 most 0/\max2 most 0<=1048576:=by rw[zfy];omega
 obtain⟨r0,r1,_,_⟩:=hri
 refine Qa (c:=cfg 27) zc Tryz.func140 ?_
 refine zj7 v _ _ ?_
 rw[hn]at h⊢
 refine zt8 v (zqs hv) _ _ (fun r hr=>?_)
 have hr:=zh7 hsq hr
 subst hr
 generalize max2 most 0=m at*
 generalize vd (sqr v)=L at*
 refine bcd (fun c1=>?_) (fun c1=>?_)
 ·rw[if_pos c1]at h
  exact ret h
 rw[if_neg c1]at h
 have e1:nrm v.1=v.1:=congrArg Prod.fst hn
 have e2:nrm v.2=v.2:=congrArg Prod.snd hn
 rw[e1,e2]at h
 refine Qc zc ylq ?_
 refine⟨zom v.1 m L hv.1 hmx (by omega) _ _ ⟨Qe,?_⟩,Tv⟩
 refine⟨zom v.2 m L hv.2 hmx (by omega) _ _ ⟨Qe,?_⟩,Tv⟩
 refine⟨⟨Qe,?_⟩,Tv⟩
 exact ret h
theorem zec(p q:Vc)(s:Int)(hp:mapV p)(hq:mapV q)(hs:0<=s/\s<=1048576)(st:Store)(R:AV->Store->Prop)(h:R (.agg (vecC (xw p q s))) st):ACalls Tryz.prog 146 [.agg (vecC p),.agg (vecC q),int s] st R:=by
 have hp':p.ok:=by unfold mapV at hp;exact⟨⟨by omega,by omega⟩,⟨by omega,by omega⟩⟩
 have hq':q.ok:=by unfold mapV at hq;exact⟨⟨by omega,by omega⟩,⟨by omega,by omega⟩⟩
 refine Qa (c:=cfg 12) zc Tryz.func146 ?_
 refine zhk q p hq' hp' _ _ ?_
 refine zdh _ s (zan hp hq) (by omega) _ _ ?_
 exact ret h
set_option maxRecDepth 20000 in
theorem zbf(a b:Int×Int)(st:Store)(R:AV->Store->Prop)(h:∀z:Bool,(z=true↔qlt a b)->R (bool z) st):ACalls Tryz.prog 308 [.agg (itC a),.agg (itC b)] st R:=by
 refine Qa (c:=cfg 24) zc Tryz.func308 ?_
 repeat' (first|refine bcd (fun _=>?_) (fun _=>?_)|refine ze (fun _=>?_) (fun _=>?_)|refine Qd ?_|fail)
 all_goals
  refine ret (h _ ?_)
  unfold qlt
  simp only[decide_eq_true_eq,decide_eq_false_iff_not,Bool.false_eq_true,false_iff,true_iff,beq_iff_eq,bne_iff_ne,beq_eq_false_iff_ne,ne_eq,reduceCtorEq]at*
  omega
theorem zzp(S:Store)(R:AV->Store->Prop)(h:∀p,Fresh S p->R (ptr p) (S.setObj p (.cells [.s (.slice none 0 0)]))):ACalls Tryz.prog 298 [] S R:=by
 refine Qa (c:=cfg 3 [2] []) zc Tryz.func298 ?_
 intro p hp
 exact ret (h p hp)
set_option maxHeartbeats 1000000 in
theorem zvy{F:Store}{p:Nat}{l:List (Int×Int)}(hq:QOf F p l)(hl:l.length<=1000000)(hh:zbl l)(x:Int×Int)(R:AV->Store->Prop)
  (h:∀F' l',QOf F' p l'->zbl l'->l'.Perm (x::l)->R (.tup []) F'):ACalls Tryz.prog 299 [ptr p,int x.1,int x.2] F R:=by
 obtain⟨v,hp,hr,hne⟩:=hq.rows
 refine Qa (c:=cfg 74) zc Tryz.func299 ?_
 refine za (o:=F.obj p) _ hp ?_
 refine⟨by decide,?_⟩
 refine zm7 (ie:=ti340) rfl zd1 (by decide) hr x rfl (by omega) (fun b cap L q1 q2 q3 q4=>?_)
 have hbp:b≠p:=by
  rcases q1 with q1|⟨c0,q1⟩
  ·exact fun e=>by have:=q1.1;rw[e,hp]at this;cases this
  ·exact hne b c0 q1
 have hp2:(F.setObj b (.cells ((rws itC (l++[x])).flatten++L))).obj p=some (.cells [v]):=by rw[zd (Ne.symm hbp)];exact hp
 refine wq (i:=ti337) (v:=.s (.slice (some ⟨b,0,none⟩) (l++[x]).length cap)) (b:=p) (o:=0) (l:=[v]) rfl rfl rfl hp2 (Nat.le_refl 1) ?_
 have hQ:QAt ((F.setObj b (.cells ((rws itC (l++[x])).flatten++L))).setObj p (.cells (zo [v] 0 [.s (.slice (some ⟨b,0,none⟩) (l++[x]).length cap)]))) p b cap (l++[x]) L:=
  ⟨zb _ _ _,by rw[zd hbp];exact zb _ _ _,hbp,q2,q3,q4⟩
 have hU:=zv0 hh x
 have hP:=zvz l x
 have hlen:(l++[x]).length=l.length+1:=by simp
 generalize hm:l++[x]=m at hQ hU hP hlen⊢
 generalize(F.setObj b (.cells ((rws itC m).flatten++L))).setObj p _=F1 at hQ⊢
 refine za (o:=F1.obj p) _ hQ.hp ?_
 refine Qd ?_
 refine AWp.loop (σ:=Nat×Store×List (Int×Int)) ⟨fun q=>[(0,.av (ptr p)),(6,.av (int (q.1:Nat)))],fun _=>[],
  fun q st'=>st'=q.2.1/\QAt q.2.1 p b cap q.2.2 L/\UpF (qat q.2.2) q.2.2.length q.1/\q.2.2.Perm (x::l)/\q.2.2.length=l.length+1/\q.1<q.2.2.length,fun q=>q.1⟩ zc ?_ ?_
 ·refine⟨(l.length,F1,m),Tv,⟨rfl,hQ,hU,hP,hlen,by dsimp only;omega⟩,⟨Tq,?_,Tv⟩,Tv⟩
  show LV.le (.av (int ((m.length:Int)-1))) (.av (int (l.length:Nat)))
  rw[show(m.length:Int)-1=(l.length:Nat) by omega]
  exact Tq
 rintro⟨i,F2',m2⟩ F2 ⟨rfl,hQ,hU,hP,hlen,hi⟩
 dsimp only at hQ hU hP hlen hi⊢
 refine bcd (fun c1=>?_) (fun c1=>?_)
 rotate_left
 ·have:i=0:=by omega
  subst this
  exact ret (h F2 m2 (.inr ⟨b,cap,L,hQ⟩) (zkr hU (.inl rfl)) hP)
 have hpar:((i:Int)-1).tdiv 2=(par i:Nat):=by
  unfold par
  rw[Int.tdiv_eq_ediv_of_nonneg (by omega)]
  omega
 have hpl:par i<m2.length:=by have:=zat (show 0<i by omega);omega
 refine Qd ?_
 refine⟨by decide,?_⟩
 refine in64 (by rw[hpar];omega) ?_
 refine Qc zc yko ?_
 refine za (o:=F2.obj p) _ hQ.hp ?_
 refine⟨i,rfl,hi,?_⟩
 refine za (o:=F2.obj b) _ hQ.hb ?_
 refine zn (i:=ti340) (row:=itC (qat m2 i)) rfl rfl (qy hi) ?_
 refine za (o:=F2.obj p) _ hQ.hp ?_
 refine⟨par i,hpar,hpl,?_⟩
 refine za (o:=F2.obj b) _ hQ.hb ?_
 refine zn (i:=ti340) (row:=itC (qat m2 (par i))) rfl rfl (qy hpl) ?_
 refine⟨zbf _ _ _ _ (fun z hz=>⟨Tv,?_⟩),Tv⟩
 refine yo ?_
 refine ze (fun c2=>?_) (fun c2=>?_)
 rotate_left
 ·exact ret (h F2 m2 (.inr ⟨b,cap,L,hQ⟩) (zkr hU (.inr fun hh=>by rw[hz.2 hh]at c2;cases c2)) hP)
 obtain⟨hU2,hP2⟩:=zvx hU (by omega) hi (hz.1 c2)
 have hS1:=hQ.set hi (qat m2 (par i))
 have hpl2:par i<(m2.set i (qat m2 (par i))).length:=by rw[List.length_set];exact hpl
 have hS2:=hS1.set hpl2 (qat m2 i)
 refine Qc zc ykn ?_
 refine za (o:=F2.obj p) _ hQ.hp ?_
 refine za (o:=F2.obj p) _ hQ.hp ?_
 refine za (o:=F2.obj p) _ hQ.hp ?_
 refine⟨par i,hpar,hpl,?_⟩
 refine za (o:=F2.obj b) _ hQ.hb ?_
 refine zn (i:=ti340) (row:=itC (qat m2 (par i))) rfl rfl (qy hpl) ?_
 refine za (o:=F2.obj p) _ hQ.hp ?_
 refine⟨i,rfl,hi,?_⟩
 refine za (o:=F2.obj b) _ hQ.hb ?_
 refine zn (i:=ti340) (row:=itC (qat m2 i)) rfl rfl (qy hi) ?_
 refine⟨i,rfl,hi,?_⟩
 refine⟨?_,Tv⟩
 refine za _ rfl (zv rfl (zy (v:=.agg (itC (qat m2 (par i)))) rfl rfl rfl rfl ?_))
 refine yk (i:=ti340) (xs:=itC (qat m2 (par i))) rfl rfl rfl hQ.hb (zbs hi _) ?_
 refine⟨Tv,?_⟩
 refine⟨par i,hpar,hpl,?_⟩
 refine⟨?_,Tv⟩
 refine za _ rfl (zv rfl (zy (v:=.agg (itC (qat m2 i))) rfl rfl rfl rfl ?_))
 refine yk (i:=ti340) (xs:=itC (qat m2 i)) rfl rfl rfl hS1.hb (zbs hpl2 _) ?_
 refine⟨Tv,?_⟩
 have hlen2:(zba m2 i (par i)).length=m2.length:=za9 _ _ _
 refine⟨(par i,_,zba m2 i (par i)),?_,⟨rfl,hS2,hU2,hP2.trans hP,by dsimp only;omega,by dsimp only;omega⟩,⟨Tq,?_,Tv⟩,Tv⟩
 ·show par i<i
  exact zat (by omega)
 ·rw[hpar];exact Tq
theorem LV.le_int{a b:Int}(h:a=b):LV.le (.av (int a)) (.av (int b)):=by subst h;exact Tq
set_option maxHeartbeats 2000000 in
theorem zzl{F:Store}{p:Nat}{l:List (Int×Int)}(hq:QOf F p l)(hl:l.length<=1000000)(hh:zbl l)(R:AV->Store->Prop)
  (h0:l=[]->R (.tup [int 0,int 0,V.bool false]) F)
  (h1:0<l.length->∀F' l',QOf F' p l'->zbl l'->l.Perm (qat l 0::l')->R (.tup [int (qat l 0).1,int (qat l 0).2,V.bool true]) F'):ACalls Tryz.prog 300 [ptr p] F R:=by
 by_cases hz:l.length=0
 ·have hnil:l=[]:=List.eq_nil_of_length_eq_zero hz
  obtain⟨v,hp,hr,hne⟩:=hq.rows
  have hv:∃a c,v=.s (.slice a 0 c):=by
   rcases hr with⟨rfl,_⟩|⟨b,cap,L,rfl,_⟩
   ·exact⟨_,_,rfl⟩
   ·exact⟨_,_,by rw[hz]⟩
  obtain⟨a,c,rfl⟩:=hv
  refine Qa (c:=cfg 121) zc Tryz.func300 ?_
  refine za (o:=F.obj p) _ hp ?_
  refine Qd ?_
  exact ret (h0 hnil)
 obtain⟨b,cap,L,hQ⟩:=hq.pos (by omega)
 obtain⟨n,hn⟩:∃n,l.length=n+1:=⟨l.length-1,by omega⟩
 have hc1:=hQ.h1
 have h0l:0<l.length:=by omega
 have hnl:n<l.length:=by omega
 have hnI:(l.length:Int)-1=(n:Nat):=by omega
 refine Qa (c:=cfg 121) zc Tryz.func300 ?_
 refine za (o:=F.obj p) _ hQ.hp ?_
 refine Qd ?_
 refine bcd (fun c1=>absurd c1 (by omega)) (fun c1=>?_)
 refine za (o:=F.obj p) _ hQ.hp ?_
 refine⟨0,rfl,h0l,?_⟩
 refine za (o:=F.obj b) _ hQ.hb ?_
 refine zn (i:=ti340) (row:=itC (qat l 0)) rfl rfl (qy h0l) ?_
 refine Qc zc ykm ?_
 refine za (o:=F.obj p) _ hQ.hp ?_
 refine za (o:=F.obj p) _ hQ.hp ?_
 refine⟨n,hnI,hnl,?_⟩
 refine za (o:=F.obj b) _ hQ.hb ?_
 refine zn (i:=ti340) (row:=itC (qat l n)) rfl rfl (qy hnl) ?_
 refine⟨0,rfl,h0l,?_⟩
 refine⟨?_,Tv⟩
 refine za _ rfl (zv rfl (zy (v:=.agg (itC (qat l n))) rfl rfl rfl rfl ?_))
 refine yk (i:=ti340) (xs:=itC (qat l n)) rfl rfl rfl hQ.hb (zbs h0l _) ?_
 refine⟨Tv,?_⟩
 have hQ1:=hQ.set h0l (qat l n)
 have hls:(l.set 0 (qat l n)).length=n+1:=by rw[List.length_set];exact hn
 refine za _ hQ1.hp ?_
 refine⟨0,n,rfl,hnI,Nat.zero_le _,by omega,.inl ⟨by omega,?_⟩⟩
 refine wq (i:=ti337) (v:=.s (.slice (some ⟨b,0,none⟩) n cap)) (b:=p) (o:=0) (l:=[.s (.slice (some ⟨b,0,none⟩) (l.set 0 (qat l n)).length cap)]) rfl rfl rfl hQ1.hp (Nat.le_refl 1) ?_
 have hQ2:=hQ1.cut (n:=n) (by omega)
 have hD:=zzn hn hh
 have hpm:=zzm hn
 have hln:((l.set 0 (qat l n)).take n).length=n:=by rw[List.length_take];omega
 have hfin:∀F' l',QOf F' p l'->zbl l'->l'.Perm ((l.set 0 (qat l n)).take n)->R (.tup [int (qat l 0).1,int (qat l 0).2,V.bool true]) F':=fun F' l' g1 g2 g3=>h1 h0l F' l' g1 g2 (hpm.trans (List.Perm.cons _ g3.symm))
 generalize(rws itC ((l.set 0 (qat l n)).drop n)).flatten++L=L2 at hQ2
 generalize((l.set 0 (qat l n)).take n)=m0 at hQ2 hD hln hfin
 refine AWp.loop (σ:=Nat×Store×List (Int×Int)) ⟨fun q=>[(0,.av (ptr p)),(5,.av (int (n:Nat))),(6,.bx 6 0),(7,.av (int (q.1:Nat)))],fun _=>[(6,itC (qat l 0))],
  fun q st'=>st'=q.2.1/\QAt q.2.1 p b cap q.2.2 L2/\znb (qat q.2.2) q.2.2.length q.1/\q.2.2.Perm m0/\q.2.2.length=n/\q.1<=n,fun q=>n-q.1⟩ zc ?_ ?_
 ·exact⟨(0,_,m0),Tv,⟨rfl,hQ2,hD,List.Perm.refl _,hln,Nat.zero_le _⟩,⟨Tq,LV.le_int hnI,Tq,Tq,Tv⟩,⟨rfl,Tv⟩⟩
 rintro⟨i,F2',m⟩ F2 ⟨rfl,hQ,hD,hP,hlen,hin⟩
 dsimp only at hQ hD hP hlen hin⊢
 refine Qd ?_
 refine Qd ?_
 refine bcd (fun c1=>?_) (fun c1=>?_)
 ·have hF:=hfin F2 m (.inr ⟨b,cap,_,hQ⟩) (zzo hD (by omega)) hP
  refine Qc zc zej ?_
  refine⟨⟨⟨rfl,Tv⟩,⟨⟨Tv,⟨⟨Tv,?_⟩,Tv⟩⟩,Tv⟩⟩,Tv⟩
  exact ret hF
 have hil:i<m.length:=by omega
 refine Qc zc zy0 ?_
 refine Qd ?_
 refine bcd (fun c3=>?_) (fun c3=>?_)
 rotate_left
 ·refine⟨⟨Tv,?_⟩,Tv⟩
  have hkl:2*i+1<m.length:=by omega
  have hki:par (2*i+1)=i:=(zcj (by omega)).2 (.inl rfl)
  have hmin:=zje (f:=qat m) (n:=m.length) (i:=i) (k:=2*i+1) (.inl ⟨rfl,fun hx=>by omega⟩)
  refine Qc zc zh5 ?_
  refine za (o:=F2.obj p) _ hQ.hp ?_
  refine⟨2*i+1,by omega,hkl,?_⟩
  refine za (o:=F2.obj b) _ hQ.hb ?_
  refine zn (i:=ti340) (row:=itC (qat m (2*i+1))) rfl rfl (qy hkl) ?_
  refine za (o:=F2.obj p) _ hQ.hp ?_
  refine⟨i,rfl,hil,?_⟩
  refine za (o:=F2.obj b) _ hQ.hb ?_
  refine zn (i:=ti340) (row:=itC (qat m i)) rfl rfl (qy hil) ?_
  refine⟨zbf _ _ _ _ (fun z hz=>⟨Tv,?_⟩),Tv⟩
  refine yo ?_
  refine ze (fun c2=>?_) (fun c2=>?_)
  rotate_left
  ·have hF:=hfin F2 m (.inr ⟨b,cap,_,hQ⟩) (zij hD hmin (fun hh=>by rw[hz.2 hh]at c2;cases c2)) hP
   refine Qc zc zej ?_
   refine⟨⟨⟨rfl,Tv⟩,⟨⟨Tv,⟨⟨Tv,?_⟩,Tv⟩⟩,Tv⟩⟩,Tv⟩
   exact ret hF
  obtain⟨hD2,hP2⟩:=zik hD (by omega) hkl hki hmin (hz.1 c2)
  have hS1:=hQ.set hil (qat m (2*i+1))
  have hkl2:2*i+1<(m.set i (qat m (2*i+1))).length:=by rw[List.length_set];exact hkl
  have hS2:=hS1.set hkl2 (qat m i)
  refine Qc zc zh4 ?_
  refine za (o:=F2.obj p) _ hQ.hp ?_
  refine za (o:=F2.obj p) _ hQ.hp ?_
  refine za (o:=F2.obj p) _ hQ.hp ?_
  refine⟨2*i+1,by omega,hkl,?_⟩
  refine za (o:=F2.obj b) _ hQ.hb ?_
  refine zn (i:=ti340) (row:=itC (qat m (2*i+1))) rfl rfl (qy hkl) ?_
  refine za (o:=F2.obj p) _ hQ.hp ?_
  refine⟨i,rfl,hil,?_⟩
  refine za (o:=F2.obj b) _ hQ.hb ?_
  refine zn (i:=ti340) (row:=itC (qat m i)) rfl rfl (qy hil) ?_
  refine⟨i,rfl,hil,?_⟩
  refine⟨?_,Tv⟩
  refine za _ rfl (zv rfl (zy (v:=.agg (itC (qat m (2*i+1)))) rfl rfl rfl rfl ?_))
  refine yk (i:=ti340) (xs:=itC (qat m (2*i+1))) rfl rfl rfl hQ.hb (zbs hil _) ?_
  refine⟨Tv,?_⟩
  refine⟨2*i+1,by omega,hkl,?_⟩
  refine⟨?_,Tv⟩
  refine za _ rfl (zv rfl (zy (v:=.agg (itC (qat m i))) rfl rfl rfl rfl ?_))
  refine yk (i:=ti340) (xs:=itC (qat m i)) rfl rfl rfl hS1.hb (zbs hkl2 _) ?_
  refine⟨Tv,?_⟩
  have hlen2:(zba m i (2*i+1)).length=m.length:=za9 _ _ _
  refine⟨(2*i+1,_,zba m i (2*i+1)),?_,⟨rfl,hS2,hD2,hP2.trans hP,by dsimp only;omega,by dsimp only;omega⟩,⟨Tq,Tq,Tq,?_,Tv⟩,⟨rfl,Tv⟩⟩
  ·show n-(2*i+1)<n-i
   omega
  ·exact LV.le_int (by omega)
 refine za (o:=F2.obj p) _ hQ.hp ?_
 refine Qd ?_
 have hkl1:2*i+2<m.length:=by omega
 have hkl0:2*i+1<m.length:=by omega
 refine⟨2*i+2,by omega,hkl1,?_⟩
 refine za (o:=F2.obj b) _ hQ.hb ?_
 refine zn (i:=ti340) (row:=itC (qat m (2*i+2))) rfl rfl (qy hkl1) ?_
 refine za (o:=F2.obj p) _ hQ.hp ?_
 refine⟨2*i+1,by omega,hkl0,?_⟩
 refine za (o:=F2.obj b) _ hQ.hb ?_
 refine zn (i:=ti340) (row:=itC (qat m (2*i+1))) rfl rfl (qy hkl0) ?_
 refine⟨zbf _ _ _ _ (fun z hz1=>⟨Tv,?_⟩),Tv⟩
 refine ze (fun c4=>?_) (fun c4=>?_)
 ·refine Qd ?_
  have hkl:2*i+2<m.length:=hkl1
  have hki:par (2*i+2)=i:=(zcj (by omega)).2 (.inr rfl)
  have hmin:=zje (f:=qat m) (n:=m.length) (i:=i) (k:=2*i+2) (.inr ⟨rfl,hz1.1 c4⟩)
  refine Qc zc zh5 ?_
  refine za (o:=F2.obj p) _ hQ.hp ?_
  refine⟨2*i+2,by omega,hkl,?_⟩
  refine za (o:=F2.obj b) _ hQ.hb ?_
  refine zn (i:=ti340) (row:=itC (qat m (2*i+2))) rfl rfl (qy hkl) ?_
  refine za (o:=F2.obj p) _ hQ.hp ?_
  refine⟨i,rfl,hil,?_⟩
  refine za (o:=F2.obj b) _ hQ.hb ?_
  refine zn (i:=ti340) (row:=itC (qat m i)) rfl rfl (qy hil) ?_
  refine⟨zbf _ _ _ _ (fun z hz=>⟨Tv,?_⟩),Tv⟩
  refine yo ?_
  refine ze (fun c2=>?_) (fun c2=>?_)
  rotate_left
  ·have hF:=hfin F2 m (.inr ⟨b,cap,_,hQ⟩) (zij hD hmin (fun hh=>by rw[hz.2 hh]at c2;cases c2)) hP
   refine Qc zc zej ?_
   refine⟨⟨⟨rfl,Tv⟩,⟨⟨Tv,⟨⟨Tv,?_⟩,Tv⟩⟩,Tv⟩⟩,Tv⟩
   exact ret hF
  obtain⟨hD2,hP2⟩:=zik hD (by omega) hkl hki hmin (hz.1 c2)
  have hS1:=hQ.set hil (qat m (2*i+2))
  have hkl2:2*i+2<(m.set i (qat m (2*i+2))).length:=by rw[List.length_set];exact hkl
  have hS2:=hS1.set hkl2 (qat m i)
  refine Qc zc zh4 ?_
  refine za (o:=F2.obj p) _ hQ.hp ?_
  refine za (o:=F2.obj p) _ hQ.hp ?_
  refine za (o:=F2.obj p) _ hQ.hp ?_
  refine⟨2*i+2,by omega,hkl,?_⟩
  refine za (o:=F2.obj b) _ hQ.hb ?_
  refine zn (i:=ti340) (row:=itC (qat m (2*i+2))) rfl rfl (qy hkl) ?_
  refine za (o:=F2.obj p) _ hQ.hp ?_
  refine⟨i,rfl,hil,?_⟩
  refine za (o:=F2.obj b) _ hQ.hb ?_
  refine zn (i:=ti340) (row:=itC (qat m i)) rfl rfl (qy hil) ?_
  refine⟨i,rfl,hil,?_⟩
  refine⟨?_,Tv⟩
  refine za _ rfl (zv rfl (zy (v:=.agg (itC (qat m (2*i+2)))) rfl rfl rfl rfl ?_))
  refine yk (i:=ti340) (xs:=itC (qat m (2*i+2))) rfl rfl rfl hQ.hb (zbs hil _) ?_
  refine⟨Tv,?_⟩
  refine⟨2*i+2,by omega,hkl,?_⟩
  refine⟨?_,Tv⟩
  refine za _ rfl (zv rfl (zy (v:=.agg (itC (qat m i))) rfl rfl rfl rfl ?_))
  refine yk (i:=ti340) (xs:=itC (qat m i)) rfl rfl rfl hS1.hb (zbs hkl2 _) ?_
  refine⟨Tv,?_⟩
  have hlen2:(zba m i (2*i+2)).length=m.length:=za9 _ _ _
  refine⟨(2*i+2,_,zba m i (2*i+2)),?_,⟨rfl,hS2,hD2,hP2.trans hP,by dsimp only;omega,by dsimp only;omega⟩,⟨Tq,Tq,Tq,?_,Tv⟩,⟨rfl,Tv⟩⟩
  ·show n-(2*i+2)<n-i
   omega
  ·exact LV.le_int (by omega)
 ·have hkl:2*i+1<m.length:=hkl0
  have hki:par (2*i+1)=i:=(zcj (by omega)).2 (.inl rfl)
  have hmin:=zje (f:=qat m) (n:=m.length) (i:=i) (k:=2*i+1) (.inl ⟨rfl,fun hx hh=>by rw[hz1.2 hh]at c4;cases c4⟩)
  refine Qc zc zh5 ?_
  refine za (o:=F2.obj p) _ hQ.hp ?_
  refine⟨2*i+1,by omega,hkl,?_⟩
  refine za (o:=F2.obj b) _ hQ.hb ?_
  refine zn (i:=ti340) (row:=itC (qat m (2*i+1))) rfl rfl (qy hkl) ?_
  refine za (o:=F2.obj p) _ hQ.hp ?_
  refine⟨i,rfl,hil,?_⟩
  refine za (o:=F2.obj b) _ hQ.hb ?_
  refine zn (i:=ti340) (row:=itC (qat m i)) rfl rfl (qy hil) ?_
  refine⟨zbf _ _ _ _ (fun z hz=>⟨Tv,?_⟩),Tv⟩
  refine yo ?_
  refine ze (fun c2=>?_) (fun c2=>?_)
  rotate_left
  ·have hF:=hfin F2 m (.inr ⟨b,cap,_,hQ⟩) (zij hD hmin (fun hh=>by rw[hz.2 hh]at c2;cases c2)) hP
   refine Qc zc zej ?_
   refine⟨⟨⟨rfl,Tv⟩,⟨⟨Tv,⟨⟨Tv,?_⟩,Tv⟩⟩,Tv⟩⟩,Tv⟩
   exact ret hF
  obtain⟨hD2,hP2⟩:=zik hD (by omega) hkl hki hmin (hz.1 c2)
  have hS1:=hQ.set hil (qat m (2*i+1))
  have hkl2:2*i+1<(m.set i (qat m (2*i+1))).length:=by rw[List.length_set];exact hkl
  have hS2:=hS1.set hkl2 (qat m i)
  refine Qc zc zh4 ?_
  refine za (o:=F2.obj p) _ hQ.hp ?_
  refine za (o:=F2.obj p) _ hQ.hp ?_
  refine za (o:=F2.obj p) _ hQ.hp ?_
  refine⟨2*i+1,by omega,hkl,?_⟩
  refine za (o:=F2.obj b) _ hQ.hb ?_
  refine zn (i:=ti340) (row:=itC (qat m (2*i+1))) rfl rfl (qy hkl) ?_
  refine za (o:=F2.obj p) _ hQ.hp ?_
  refine⟨i,rfl,hil,?_⟩
  refine za (o:=F2.obj b) _ hQ.hb ?_
  refine zn (i:=ti340) (row:=itC (qat m i)) rfl rfl (qy hil) ?_
  refine⟨i,rfl,hil,?_⟩
  refine⟨?_,Tv⟩
  refine za _ rfl (zv rfl (zy (v:=.agg (itC (qat m (2*i+1)))) rfl rfl rfl rfl ?_))
  refine yk (i:=ti340) (xs:=itC (qat m (2*i+1))) rfl rfl rfl hQ.hb (zbs hil _) ?_
  refine⟨Tv,?_⟩
  refine⟨2*i+1,by omega,hkl,?_⟩
  refine⟨?_,Tv⟩
  refine za _ rfl (zv rfl (zy (v:=.agg (itC (qat m i))) rfl rfl rfl rfl ?_))
  refine yk (i:=ti340) (xs:=itC (qat m i)) rfl rfl rfl hS1.hb (zbs hkl2 _) ?_
  refine⟨Tv,?_⟩
  have hlen2:(zba m i (2*i+1)).length=m.length:=za9 _ _ _
  refine⟨(2*i+1,_,zba m i (2*i+1)),?_,⟨rfl,hS2,hD2,hP2.trans hP,by dsimp only;omega,by dsimp only;omega⟩,⟨Tq,Tq,Tq,?_,Tv⟩,⟨rfl,Tv⟩⟩
  ·show n-(2*i+1)<n-i
   omega
  ·exact LV.le_int (by omega)
theorem qz{p:Vc}(h:mapV p):p.ok:=by
 unfold mapV at h
 exact⟨⟨by omega,by omega⟩,⟨by omega,by omega⟩⟩
theorem ztv{p q:Vc}(hp:mapV p)(hq:mapV q):za7 (if vsub p q=(0,0)then(65536,0)else vsub p q):=by
 split
 ·unfold za7;decide
 ·exact zan hq hp
theorem zkn{v:Vc}(h:za7 v):0<=vd (sqr v):=(zbq (jh (qn h)).2.2.1).1
set_option maxRecDepth 10000 in
theorem zu9(p:Vc)(r:Int)(q:Vc)(hp:mapV p)(hq:mapV q)(hr:0<=r/\r<=1048576)(st:Store)(R:AV->Store->Prop)(h:R (.agg (vecC (we p r q))) st):
  ACalls Tryz.prog 139 [.agg (vecC p),int r,.agg (vecC q)] st R:=by
 have ht:=zan hq hp
 have hsq:=(jh (qn ht)).2.2.1
 have hr0:=zkn ht
 have harg:=ztv hp hq
 have hri:=zbq hsq
 unfold we at h
 refine Qa (c:=cfg 29) zc Tryz.func139 ?_
 refine zc0 p q r (qz hp) (qz hq) (by omega) _ _ ?_
 refine yo ?_
 refine ze (fun c1=>?_) (fun c1=>?_)
 rotate_left
 ·rw[if_neg (by rw[c1];decide)]at h
  exact ret h
 rw[if_pos c1]at h
 refine zhk p q (qz hp) (qz hq) _ _ ?_
 refine zt8 _ (zfg p q) _ _ (fun L hL=>?_)
 have hL2:=zh7 hsq hL
 subst hL2
 have hLb:vd (sqr (vsub p q))<=1099511627776*2:=by
  obtain⟨_,_,h3,_⟩:=hri
  have e:=(jh (qn ht)).1
  unfold za7 at ht
  generalize vd (sqr (vsub p q))=L at*
  by_cases hh:L<=1099511627776*2
  ·exact hh
  ·exfalso
   have h4:(1099511627776*2+1)*(1099511627776*2+1)<=L*L:=Int.mul_le_mul (by omega) (by omega) (by omega) (by omega)
   have h5:(vsub p q).1*(vsub p q).1<=1099511627776*1099511627776:=by
    rw[zgy]
    exact Int.mul_le_mul (by omega) (by omega) (by omega) (by omega)
   have h6:(vsub p q).2*(vsub p q).2<=1099511627776*1099511627776:=by
    rw[zgy]
    exact Int.mul_le_mul (by omega) (by omega) (by omega) (by omega)
   omega
 have hfs:fsub r (vd (sqr (vsub p q)))=r-vd (sqr (vsub p q)):=by
  unfold fsub
  rw[xz (by omega),vj (by omega) (by omega)]
  omega
 refine zar _ _ ⟨by omega,by omega⟩ ⟨by omega,by omega⟩ _ _ ?_
 rw[hfs]
 generalize vd (sqr (vsub p q))=L at*
 generalize vsub p q=d at*
 refine ze (fun c2=>?_) (fun c2=>?_)
 ·have c2:d=(0,0):=by
   simp only[Bool.and_eq_true,beq_iff_eq]at c2
   exact Prod.ext c2.1 c2.2.1
  rw[if_pos c2]at h harg
  subst c2
  refine zdh (65536,0) (r-L) harg (by omega) _ _ ?_
  exact ret h
 ·have c2:¬d=(0,0):=fun e=>by
   rw[e]at c2
   exact absurd c2 (by decide)
  rw[if_neg c2]at h harg
  refine zdh d (r-L) harg (by omega) _ _ ?_
  exact ret h
theorem yuh{m:Int}(h0:0<=m)(h1:m<18446744073709551616){i:Nat}(hi:i<64):q9 .and .u64 (m.fdiv (2^(min ((i:Int).tmod 64).toNat IntKind.u64.bits))) 1=(m/2^i)%2:=by
 have e:min ((i:Int).tmod 64).toNat IntKind.u64.bits=i:=by
  have:(i:Int).tmod 64=i:=by rw[Int.tmod_eq_emod_of_nonneg (by omega)];omega
  rw[this]
  show min ((i:Int)).toNat 64=i
  omega
 have hp:(0:Int)<2^i:=Int.pow_pos (by decide)
 rw[e,Int.fdiv_eq_ediv_of_nonneg _ (by omega)]
 exact yns (Int.ediv_nonneg h0 (by omega)) (by have:=Int.ediv_le_self (2^i) h0;omega)
theorem yog{m:Int}(h0:0<=m)(h1:m<18446744073709551616){i:Nat}(hi:64<=i):m/2^i=0:=by
 have h2:(2:Int)^64<=2^i:=by exact_mod_cast Nat.pow_le_pow_right (by decide) hi
 have h3:(2:Int)^64=18446744073709551616:=by decide
 exact Int.ediv_eq_zero_of_lt h0 (by omega)
theorem ya8{m:Int}(i:Nat):m/2^i=2*(m/2^(i+1))+(m/2^i)%2:=by
 have h:m/2^(i+1)=m/2^i/2:=by
  have hp:(0:Int)<2^i:=Int.pow_pos (by decide)
  rw[Int.pow_succ,Int.ediv_ediv,if_neg (fun hh=>by omega),Int.sub_zero]
 rw[h]
 have:=Int.mul_ediv_add_emod (m/2^i) 2
 omega
theorem yn7{x b:Int}(h0:0<=x)(h1:2*x+1<18446744073709551616)(hb:b=0\/b=1):q9 .or .u64 (IntKind.u64.wrap (x*2^(min (1:Int).toNat IntKind.u64.bits))) b=2*x+b:=by
 obtain⟨n,rfl⟩:=Int.eq_ofNat_of_zero_le h0
 have e:min (1:Int).toNat IntKind.u64.bits=1:=rfl
 rw[e,ye (by omega) (by omega)]
 have:=zz1 (n:=b) (q:=n) (m:=1) (by omega) (by omega) (by omega)
 rw[this]
 omega
theorem zym{x:Int}(h0:0<=x)(h1:x<9223372036854775808):x.fdiv (2^(min (63:Int).toNat IntKind.u64.bits))=0:=by
 have e:min (63:Int).toNat IntKind.u64.bits=63:=rfl
 rw[e,Int.fdiv_eq_ediv_of_nonneg _ (by decide)]
 exact Int.ediv_eq_zero_of_lt h0 (by omega)
set_option maxHeartbeats 2000000 in
set_option maxRecDepth 20000 in
theorem zzz(m b:Int)(h0:0<=m)(h1:m<9223372036854775808)(hb:0<b)(hb2:b<9223372036854775808)(st:Store)(R:AV->Store->Prop)(h:∀z,R (.tup [u64 (m/b),V.bool z]) st):
  ACalls Tryz.prog 147 [.agg (j6 m),u64 b] st R:=by
 have hw:j6 m=[u64 0,u64 m]:=by
  unfold j6
  rw[Int.ediv_eq_zero_of_lt h0 (by omega),Int.emod_eq_of_lt h0 (by omega)]
 rw[hw]
 refine Qa (c:=cfg 59) zc Tryz.func147 ?_
 refine AWp.loop (σ:=Nat×Int) ⟨fun k=>[(1,.av (u64 b)),(2,.bx 2 0),(6,.av (u64 (m/2^k.1/b))),(7,.av (u64 (m/2^k.1%b))),(8,.av (V.bool false)),(9,.av (int ((k.1:Int)-1)))],fun _=>[(2,[u64 0,u64 m])],
  fun k st'=>k.1<=128/\st'=st,fun k=>k.1⟩ zc ?_ ?_
 ·have e:m/2^128=0:=yog h0 (by omega) (by decide)
  refine⟨(128,0),Tv,⟨Nat.le_refl _,rfl⟩,⟨Tq,Tq,?_,?_,Tq,Tq,Tv⟩,⟨rfl,Tv⟩⟩
  ·show LV.le (.av (u64 0)) (.av (u64 (m/2^128/b)))
   rw[e,Int.zero_ediv]
   exact Tq
  ·show LV.le (.av (u64 0)) (.av (u64 (m/2^128%b)))
   rw[e,Int.zero_emod]
   exact Tq
 rintro⟨k,_⟩ st' ⟨hk,rfl⟩
 dsimp only at hk⊢
 cases k with
 |zero=>
  have e:m/2^0=m:=by rw[Int.pow_zero,Int.ediv_one]
  have h2:=h (decide (m/2^0%b>0))
  rw[show m/b=m/2^0/b by rw[e]]at h2
  exact ret h2
 |succ i=>
 have hi:i<128:=by omega
 have hk0:((i+1:Nat):Int)-1=i:=by omega
 have hA:=ya8 (m:=m) i
 have ht:(m/2^i)%2=0\/(m/2^i)%2=1:=by omega
 have hp:(0:Int)<2^(i+1):=Int.pow_pos (by decide)
 have hp0:(0:Int)<2^i:=Int.pow_pos (by decide)
 have hA0:0<=m/2^(i+1):=Int.ediv_nonneg h0 (by omega)
 have hA1:m/2^(i+1)<4611686018427387904:=by
  have h2:m/2^i<=m:=Int.ediv_le_self _ h0
  omega
 have hq0:0<=m/2^(i+1)/b:=Int.ediv_nonneg hA0 (by omega)
 have hq1:m/2^(i+1)/b<=m/2^(i+1):=Int.ediv_le_self _ hA0
 have hr0:0<=m/2^(i+1)%b:=Int.emod_nonneg _ (by omega)
 have hr1:m/2^(i+1)%b<b:=Int.emod_lt_of_pos _ hb
 have hr2:m/2^(i+1)%b<=m/2^(i+1):=by
  have h2:=Int.mul_ediv_add_emod (m/2^(i+1)) b
  have h3:=Int.mul_nonneg (show 0<=b by omega) hq0
  omega
 have hlo:=fun(t:Int) (x:0<=t)=>yue (A:=m/2^(i+1)) (b:=b) (t:=t) hb x
 have hhi:=fun(t:Int) (x:0<=t) (y:t<=1)=>yuf (A:=m/2^(i+1)) (b:=b) (t:=t) hb x y
 have hbl:i<64->q9 .and .u64 (m.fdiv (2^(min ((((i+1:Nat):Int)-1).tmod 64).toNat IntKind.u64.bits))) 1=(m/2^i)%2:=fun h=>by rw[hk0];exact yuh h0 (by omega) h
 have hbh:64<=i->(m/2^i)%2=0:=fun h=>by rw[yog h0 (by omega) h];rfl
 have hz:∀y:Int,q9 .and .u64 ((0:Int).fdiv y) 1=0:=fun y=>by rw[Int.zero_fdiv];rfl
 have hmod:0<=(((i+1:Nat):Int)-1).tmod 64:=by rw[hk0];exact Int.tmod_nonneg _ (by omega)
 have hone:q9 .or .u64 (IntKind.u64.wrap (m/2^(i+1)/b*2^(min (1:Int).toNat IntKind.u64.bits))) 1=2*(m/2^(i+1)/b)+1:=yn7 hq0 (by omega) (.inr rfl)
 have hdbl:IntKind.u64.wrap (m/2^(i+1)/b*2^(min (1:Int).toNat IntKind.u64.bits))=2*(m/2^(i+1)/b):=by
  have e:min (1:Int).toNat IntKind.u64.bits=1:=rfl
  rw[e,ye (by omega) (by omega)]
  omega
 have hor:∀t:Int,t=0\/t=1->q9 .or .u64 (IntKind.u64.wrap (m/2^(i+1)%b*2^(min (1:Int).toNat IntKind.u64.bits))) t=2*(m/2^(i+1)%b)+t:=fun t ht=>yn7 hr0 (by omega) ht
 have htq:(m/2^(i+1)/b).fdiv (2^(min (63:Int).toNat IntKind.u64.bits))=0:=zym hq0 (by omega)
 have htr:(m/2^(i+1)%b).fdiv (2^(min (63:Int).toNat IntKind.u64.bits))=0:=zym hr0 (by omega)
 have fin:∀t,t=(m/2^i)%2->∀(q' r':Int),(b<=2*(m/2^(i+1)%b)+t->q'=2*(m/2^(i+1)/b)+1/\r'=2*(m/2^(i+1)%b)+t-b)->(¬b<=2*(m/2^(i+1)%b)+t->q'=2*(m/2^(i+1)/b)/\r'=2*(m/2^(i+1)%b)+t)->q'=m/2^i/b/\r'=m/2^i%b:=fun t e q' r' k1 k2=>by
  subst e
  by_cases hc:b<=2*(m/2^(i+1)%b)+(m/2^i)%2
  ·obtain⟨e1,e2⟩:=k1 hc
   obtain⟨e3,e4⟩:=hhi ((m/2^i)%2) (by omega) (by omega) hc
   rw[<-hA]at e3 e4
   exact⟨by rw[e1,e3],by rw[e2,e4]⟩
  ·obtain⟨e1,e2⟩:=k2 hc
   obtain⟨e3,e4⟩:=hlo ((m/2^i)%2) (by omega) (by omega)
   rw[<-hA]at e3 e4
   exact⟨by rw[e1,e3],by rw[e2,e4]⟩
 refine bcd (fun c1=>?_) (fun c1=>absurd (by omega) c1)
 refine⟨by decide,?_⟩
 refine⟨hmod,?_⟩
 -- the rest of the round,for the bit t
 refine bcd (fun c2=>?_) (fun c2=>?_)
 ·refine⟨by decide,?_⟩
  refine⟨hmod,?_⟩
  have ht0:(m/2^i)%2=0:=hbh (by omega)
  refine⟨by decide,?_⟩
  refine⟨by decide,?_⟩
  refine⟨by decide,?_⟩
  refine bceq (fun c3=>absurd (htq.symm.trans c3) (by decide)) (fun c3=>?_)
  refine⟨by decide,?_⟩
  refine bceq (fun c4=>absurd (htr.symm.trans c4) (by decide)) (fun c4=>?_)
  rw[hz,hor 0 (.inl rfl)]
  refine bcd (fun c5=>?_) (fun c5=>?_)
  ·have wr:IntKind.u64.wrap ((2*(m/2^(i+1)%b)+(0))-b)=(2*(m/2^(i+1)%b)+(0))-b:=ye (by omega) (by omega)
   refine Qd ?_
   refine⟨(i,0),Nat.lt_succ_self i,⟨by dsimp only;omega,rfl⟩,⟨Tq,Tq,?_,?_,Tq,?_,Tv⟩,⟨rfl,Tv⟩⟩
   ·show LV.le (.av (u64 (q9 .or .u64 (IntKind.u64.wrap (m/2^(i+1)/b*2^(min (1:Int).toNat IntKind.u64.bits))) 1))) (.av (u64 (m/2^i/b)))
    rw[hone,(fin (0) (by omega) _ _ (fun hh=>⟨rfl,rfl⟩) (fun hh=>absurd c5 hh)).1]
    exact Tq
   ·show LV.le (.av (u64 (IntKind.u64.wrap ((2*(m/2^(i+1)%b)+(0))-b)))) (.av (u64 (m/2^i%b)))
    rw[wr,(fin (0) (by omega) _ _ (fun hh=>⟨rfl,rfl⟩) (fun hh=>absurd c5 hh)).2]
    exact Tq
   ·exact LV.le_int (by omega)
  ·skip
   refine Qd ?_
   refine⟨(i,0),Nat.lt_succ_self i,⟨by dsimp only;omega,rfl⟩,⟨Tq,Tq,?_,?_,Tq,?_,Tv⟩,⟨rfl,Tv⟩⟩
   ·show LV.le (.av (u64 (IntKind.u64.wrap (m/2^(i+1)/b*2^(min (1:Int).toNat IntKind.u64.bits))))) (.av (u64 (m/2^i/b)))
    rw[hdbl,(fin (0) (by omega) _ _ (fun hh=>absurd hh (by omega)) (fun hh=>⟨rfl,rfl⟩)).1]
    exact Tq
   ·show LV.le (.av (u64 (2*(m/2^(i+1)%b)+(0)))) (.av (u64 (m/2^i%b)))
    rw[(fin (0) (by omega) _ _ (fun hh=>absurd hh (by omega)) (fun hh=>⟨rfl,rfl⟩)).2]
    exact Tq
   ·exact LV.le_int (by omega)
 ·refine⟨by decide,?_⟩
  refine⟨by decide,?_⟩
  refine⟨by decide,?_⟩
  refine bceq (fun c3=>absurd (htq.symm.trans c3) (by decide)) (fun c3=>?_)
  refine⟨by decide,?_⟩
  refine bceq (fun c4=>absurd (htr.symm.trans c4) (by decide)) (fun c4=>?_)
  rw[hbl (by omega),hor _ ht]
  refine bcd (fun c5=>?_) (fun c5=>?_)
  ·have wr:IntKind.u64.wrap ((2*(m/2^(i+1)%b)+((m/2^i)%2))-b)=(2*(m/2^(i+1)%b)+((m/2^i)%2))-b:=ye (by omega) (by omega)
   refine Qd ?_
   refine⟨(i,0),Nat.lt_succ_self i,⟨by dsimp only;omega,rfl⟩,⟨Tq,Tq,?_,?_,Tq,?_,Tv⟩,⟨rfl,Tv⟩⟩
   ·show LV.le (.av (u64 (q9 .or .u64 (IntKind.u64.wrap (m/2^(i+1)/b*2^(min (1:Int).toNat IntKind.u64.bits))) 1))) (.av (u64 (m/2^i/b)))
    rw[hone,(fin ((m/2^i)%2) (rfl) _ _ (fun hh=>⟨rfl,rfl⟩) (fun hh=>absurd c5 hh)).1]
    exact Tq
   ·show LV.le (.av (u64 (IntKind.u64.wrap ((2*(m/2^(i+1)%b)+((m/2^i)%2))-b)))) (.av (u64 (m/2^i%b)))
    rw[wr,(fin ((m/2^i)%2) (rfl) _ _ (fun hh=>⟨rfl,rfl⟩) (fun hh=>absurd c5 hh)).2]
    exact Tq
   ·exact LV.le_int (by omega)
  ·skip
   refine Qd ?_
   refine⟨(i,0),Nat.lt_succ_self i,⟨by dsimp only;omega,rfl⟩,⟨Tq,Tq,?_,?_,Tq,?_,Tv⟩,⟨rfl,Tv⟩⟩
   ·show LV.le (.av (u64 (IntKind.u64.wrap (m/2^(i+1)/b*2^(min (1:Int).toNat IntKind.u64.bits))))) (.av (u64 (m/2^i/b)))
    rw[hdbl,(fin ((m/2^i)%2) (rfl) _ _ (fun hh=>absurd hh (by omega)) (fun hh=>⟨rfl,rfl⟩)).1]
    exact Tq
   ·show LV.le (.av (u64 (2*(m/2^(i+1)%b)+((m/2^i)%2)))) (.av (u64 (m/2^i%b)))
    rw[(fin ((m/2^i)%2) (rfl) _ _ (fun hh=>absurd hh (by omega)) (fun hh=>⟨rfl,rfl⟩)).2]
    exact Tq
   ·exact LV.le_int (by omega)
theorem zq1(q:Int)(h0:0<=q)(h1:q<9223372036854775808)(neg:Bool)(st:Store)(R:AV->Store->Prop)(h:R (int (if neg=true then -q else q)) st):ACalls Tryz.prog 148 [u64 q,V.bool neg,V.bool false] st R:=by
 refine Qa (c:=cfg 25) zc Tryz.func148 ?_
 refine ze (fun c1=>?_) (fun c1=>?_)
 ·subst c1
  refine bcd (fun c2=>absurd c2 (by omega)) (fun c2=>?_)
  refine Qd ?_
  refine Qd ?_
  have e:0-q=-q:=by omega
  rw[e]
  exact ret h
 ·subst c1
  refine bcd (fun c2=>absurd c2 (by omega)) (fun c2=>?_)
  refine Qd ?_
  exact ret h
theorem zc6(c most long:Int)(hc:-1099511627776<=c/\c<=1099511627776)(hm:0<=most/\most<=1048576)(hl:0<long/\long<9223372036854775808)(st:Store)(R:AV->Store->Prop)(h:R (int (cutC c most long)) st):
  ACalls Tryz.prog 91 [int c,int most,int long] st R:=by
 have hasz:=ycm (c:=c) (by omega)
 obtain⟨x,hx⟩:∃x,x=asz c:=⟨_,rfl⟩
 have hx0:0<=x/\x<=1099511627776:=by rw[hx,hasz];split<;>omega
 have hp0:0<=x*most:=Int.mul_nonneg hx0.1 hm.1
 have hp1:x*most<=1099511627776*1048576:=Int.mul_le_mul hx0.2 hm.2 hm.1 (by omega)
 have hq1:x*most/long<=x*most:=Int.ediv_le_self _ hp0
 have hq0:0<=x*most/long:=Int.ediv_nonneg hp0 (by omega)
 have w1:IntKind.u64.wrap most=most:=ye (by omega) (by omega)
 have w2:IntKind.u64.wrap long=long:=ye (by omega) (by omega)
 refine Qa (c:=cfg 24) zc Tryz.func91 ?_
 refine zfn c (by omega) _ _ ?_
 rw[<-hx]
 show ACalls _ _ [u64 x,u64 (IntKind.u64.wrap most)] _ _
 rw[w1]
 refine za8 x most hx0.1 (by omega) hm.1 (by omega) _ _ ?_
 show ACalls _ _ [.agg (j6 (x*most)),u64 (IntKind.u64.wrap long)] _ _
 rw[w2]
 refine zzz _ _ hp0 (by omega) hl.1 hl.2 _ _ (fun z=>?_)
 refine zq1 _ hq0 (by omega) (decide (c<0)) _ _ ?_
 unfold cutC at h
 by_cases c1:c<0
 ·rw[if_pos (decide_eq_true c1)]
  rw[if_pos c1]at h hasz
  rw[<-hasz,<-hx]at h
  exact ret h
 ·rw[if_neg (by rw[decide_eq_false c1];decide)]
  rw[if_neg c1]at h hasz
  rw[hx,hasz]
  exact ret h
theorem w9(v:Vc)(most:Int)(hv:za7 v)(hm:-9223372036854775808<=most/\most<=1048576)(st:Store)(R:AV->Store->Prop)(h:R (.agg (vecC (qj v most))) st):
  ACalls Tryz.prog 48 [.agg (vecC v),int most] st R:=by
 have hn:=znl hv
 have hsq:=(jh (qn hv)).2.2.1
 have hri:=zbq hsq
 have e1:nrm v.1=v.1:=congrArg Prod.fst hn
 have e2:nrm v.2=v.2:=congrArg Prod.snd hn
 unfold qj at h
 rw[hn,e1,e2]at h
 obtain⟨r0,r1,_,_⟩:=hri
 have key:∀m:Int,m=max most 0->0<=m/\m<=1048576:=fun m e=>by omega
 refine Qa (c:=cfg 32) zc Tryz.func48 ?_
 refine Qc zc yrv ?_
 refine⟨vn v.1 _ _ ⟨Qe,?_⟩,Tv⟩
 refine⟨vn v.2 _ _ ⟨Qe,?_⟩,Tv⟩
 refine⟨⟨Qe,?_⟩,Tv⟩
 rw[e1,e2]
 have rest:=fun(m:Int) (hm:m=max most 0)=>key m hm
 refine bcd (fun c0=>?_) (fun c0=>?_)
 ·have hm0:(0:Int)=max most 0:=by omega
  have hmx:=rest 0 hm0
  rw[<-hm0]at h
  refine zia v (zqs hv) _ _ (fun r hr=>?_)
  have hr:=zh7 hsq hr
  subst hr
  generalize vd (sqr v)=L at*
  refine bcd (fun c1=>?_) (fun c1=>?_)
  ·rw[if_pos c1]at h
   exact ret h
  rw[if_neg c1]at h
  refine Qc zc zyz ?_
  refine⟨zc6 v.1 0 L hv.1 hmx (by omega) _ _ ⟨Qe,?_⟩,Tv⟩
  refine⟨zc6 v.2 0 L hv.2 hmx (by omega) _ _ ⟨Qe,?_⟩,Tv⟩
  refine⟨⟨Qe,?_⟩,Tv⟩
  exact ret h
 ·have hm0:most=max most 0:=by omega
  have hmx:=rest most hm0
  rw[<-hm0]at h
  refine zia v (zqs hv) _ _ (fun r hr=>?_)
  have hr:=zh7 hsq hr
  subst hr
  generalize vd (sqr v)=L at*
  refine bcd (fun c1=>?_) (fun c1=>?_)
  ·rw[if_pos c1]at h
   exact ret h
  rw[if_neg c1]at h
  refine Qc zc zyz ?_
  refine⟨zc6 v.1 most L hv.1 hmx (by omega) _ _ ⟨Qe,?_⟩,Tv⟩
  refine⟨zc6 v.2 most L hv.2 hmx (by omega) _ _ ⟨Qe,?_⟩,Tv⟩
  refine⟨⟨Qe,?_⟩,Tv⟩
  exact ret h
theorem zch(p q:Vc)(s:Int)(hp:mapV p)(hq:mapV q)(hs:0<=s/\s<=1048576)(st:Store)(R:AV->Store->Prop)(h:R (.agg (vecC (xw p q s))) st):ACalls Tryz.prog 54 [.agg (vecC p),.agg (vecC q),int s] st R:=by
 refine Qa (c:=cfg 12) zc Tryz.func54 ?_
 refine zc5 q p (qz hq) (qz hp) _ _ ?_
 refine w9 _ s (zan hp hq) (by omega) _ _ ?_
 exact ret h
theorem vo{v:Vc}{m:Int}(hs:za7 v):(qj v m).ok:=by
 by_cases hm:0<=m
 ·have:=(ze8 (qn hs) hm).1
  unfold ji at this
  exact⟨⟨by omega,by omega⟩,⟨by omega,by omega⟩⟩
 ·have e:qj v m=qj v 0:=by
   unfold qj
   rw[show max m 0=max 0 0 by omega]
  rw[e]
  have:=(ze8 (qn hs) (Int.le_refl 0)).1
  unfold ji at this
  exact⟨⟨by omega,by omega⟩,⟨by omega,by omega⟩⟩
theorem zhn{x:Vc}(h:ji x):vadd (0,0) x=x:=by
 unfold ji at h
 unfold vadd
 rw[vj (by omega) (by omega),vj (by omega) (by omega)]
 simp
theorem zcc{v:Vc}{m:Int}(hs:za7 v):ji (qj v m):=by
 by_cases hm:0<=m
 ·exact(ze8 (qn hs) hm).1
 ·have e:qj v m=qj v 0:=by
   unfold qj
   rw[show max m 0=max 0 0 by omega]
  rw[e]
  exact(ze8 (qn hs) (Int.le_refl 0)).1
def yn6(p:Vc)(r:Int)(q:Vc):Nat->Vc
 |0=>(0,0)
 |_=>we p r q
set_option maxHeartbeats 2000000 in
set_option maxRecDepth 20000 in
theorem zvh(p:Vc)(r:Int)(q:Vc)(hp:mapV p)(hq:mapV q)(hr:0<=r/\r<=1048576)(st:Store)(R:AV->Store->Prop)(h:R (.agg (vecC (we p r q))) st):
  ACalls Tryz.prog 92 [.agg (vecC p),int r,lst 2 vecC [q]] st R:=by
 have ht:=zan hq hp
 have hsq:=(jh (qn ht)).2.2.1
 have hr0:=zkn ht
 have harg:=ztv hp hq
 have hri:=zbq hsq
 refine Qa (c:=cfg 50) zc Tryz.func92 ?_
 refine AWp.loop (σ:=Nat) ⟨fun i=>[(1,.av (int r)),(2,.av (lst 2 vecC [q])),(3,.bx 3 0),(6,.bx 6 0),(7,.bx 7 0),(8,.av (int (i:Nat)))],fun i=>[(3,vecC p),(6,[int 0,int 0]),(7,vecC (yn6 p r q i))],
  fun i st'=>i<=1/\st'=st,fun i=>1-i⟩ zc ?_ ?_
 ·exact⟨0,Tv,⟨Nat.zero_le _,rfl⟩,⟨Tq,Tq,Tq,Tq,Tq,Tq,Tv⟩,⟨rfl,rfl,rfl,Tv⟩⟩
 rintro i st' ⟨hi,rfl⟩
 have hi2:i=0\/i=1:=by omega
 rcases hi2 with rfl|rfl
 rotate_left
 ·exact ret h
 have next:∀x:Vc,x=we p r q->∃k:Nat,1-k<1-0/\(k<=1/\st'=st')/\k=1/\vecC (yn6 p r q k)=vecC x:=fun x e=>⟨1,by decide,⟨Nat.le_refl _,rfl⟩,rfl,by rw[e];rfl⟩
 unfold we at next
 refine Qc zc yrf ?_
 refine⟨0,rfl,za _ rfl ?_⟩
 refine⟨zgg p q r (qz hp) (qz hq) ⟨by omega,by omega⟩ _ _ ⟨Qe,?_⟩,Tv⟩
 refine yo ?_
 refine ze (fun c1=>?_) (fun c1=>?_)
 rotate_left
 ·rw[if_neg (by rw[c1];decide)]at next
  obtain⟨k,f1,f2,rfl,f3⟩:=next _ rfl
  refine Qd ?_
  exact⟨1,f1,f2,⟨Tq,Tq,Tq,Tq,Tq,Tq,Tv⟩,⟨rfl,rfl,congrArg some f3.symm,Tv⟩⟩
 rw[if_pos c1]at next
 refine Qc zc yre ?_
 refine⟨0,rfl,za _ rfl ?_⟩
 refine⟨zc5 p q (qz hp) (qz hq) _ _ ⟨Tv,⟨⟨(by repeat(first|exact Tv|refine⟨rfl,?_⟩|refine⟨⟨0,rfl,za _ rfl rfl⟩,?_⟩)),⟨⟨Tv,?_⟩,Tv⟩⟩,Tv⟩⟩,⟨⟨(by repeat(first|exact Tv|refine⟨rfl,?_⟩|refine⟨⟨0,rfl,za _ rfl rfl⟩,?_⟩)),⟨zc5 p q (qz hp) (qz hq) _ _ ⟨Tv,⟨⟨Tv,?_⟩,Tv⟩⟩,Tv⟩⟩,Tv⟩⟩
 all_goals
  refine zia _ (zfg p q) _ _ (fun L hL=>?_)
  have hL2:=zh7 hsq hL
  subst hL2
  have hLb:vd (sqr (vsub p q))<=9223372036854775807-1048576-1048576:=by
   have h3:=yr5 (qn ht) (m:=4398046511104) (by decide) (by
    unfold za7 at ht
    have h5:(vsub p q).1*(vsub p q).1<=1099511627776*1099511627776:=by
     rw[zgy]
     exact Int.mul_le_mul (by omega) (by omega) (by omega) (by omega)
    have h6:(vsub p q).2*(vsub p q).2<=1099511627776*1099511627776:=by
     rw[zgy]
     exact Int.mul_le_mul (by omega) (by omega) (by omega) (by omega)
    omega)
   omega
  generalize vd (sqr (vsub p q))=L at*
  generalize vsub p q=d at*
  refine bceq (fun c2=>?_) (fun c2=>?_)
  ·refine bceq (fun c3=>?_) (fun c3=>?_)
   ·have e:d=(0,0):=Prod.ext c2 c3
    rw[if_pos e]at next harg
    refine Qc zc zl4 ?_
    refine Qd ?_
    refine⟨w9 (65536,0) (r-L) harg (by omega) _ _ ⟨Qe,?_⟩,Tv⟩
    refine⟨zbc (0,0) _ ⟨⟨by decide,by decide⟩,⟨by decide,by decide⟩⟩ (vo harg) _ _ ⟨Qe,?_⟩,Tv⟩
    refine⟨⟨Qe,?_⟩,Tv⟩
    obtain⟨k,f1,f2,rfl,f3⟩:=next _ (zhn (zcc harg))
    refine Qd ?_
    exact⟨1,f1,f2,⟨Tq,Tq,Tq,Tq,Tq,Tq,Tv⟩,⟨rfl,rfl,congrArg some f3.symm,Tv⟩⟩
   ·have e:¬d=(0,0):=fun e=>c3 (by rw[e])
    rw[if_neg e]at next harg
    refine Qc zc zl4 ?_
    refine Qd ?_
    refine⟨w9 d (r-L) harg (by omega) _ _ ⟨Qe,?_⟩,Tv⟩
    refine⟨zbc (0,0) _ ⟨⟨by decide,by decide⟩,⟨by decide,by decide⟩⟩ (vo harg) _ _ ⟨Qe,?_⟩,Tv⟩
    refine⟨⟨Qe,?_⟩,Tv⟩
    obtain⟨k,f1,f2,rfl,f3⟩:=next _ (zhn (zcc harg))
    refine Qd ?_
    exact⟨1,f1,f2,⟨Tq,Tq,Tq,Tq,Tq,Tq,Tv⟩,⟨rfl,rfl,congrArg some f3.symm,Tv⟩⟩
  ·have e:¬d=(0,0):=fun e=>c2 (by rw[e])
   rw[if_neg e]at next harg
   refine Qc zc zl4 ?_
   refine Qd ?_
   refine⟨w9 d (r-L) harg (by omega) _ _ ⟨Qe,?_⟩,Tv⟩
   refine⟨zbc (0,0) _ ⟨⟨by decide,by decide⟩,⟨by decide,by decide⟩⟩ (vo harg) _ _ ⟨Qe,?_⟩,Tv⟩
   refine⟨⟨Qe,?_⟩,Tv⟩
   obtain⟨k,f1,f2,rfl,f3⟩:=next _ (zhn (zcc harg))
   refine Qd ?_
   exact⟨1,f1,f2,⟨Tq,Tq,Tq,Tq,Tq,Tq,Tv⟩,⟨rfl,rfl,congrArg some f3.symm,Tv⟩⟩
end Go.Proofs
