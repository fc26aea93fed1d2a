/- The ground on which laws of thronglaw24 are proved: contracts of functions and plain lemmas; no condition beyond the row's own. -/
import Derived.Test.YtbemejeejgpkaaaGreatKI
import Derived.Test.YtbemejeejgpkaaaGreatKY
import Derived.Test.YtbemejeejgpkaaaGreatKZ
import Derived.Test.YtbemejeejgpkaaaGreatKV
import Derived.Test.YtbemejeejgpkaaaGreatKU
import Derived.Test.YtbemejeejgpkaaaGreatKT
set_option linter.unusedSimpArgs false
set_option linter.unusedVariables false
namespace Go.Proofs
open Go Go.V
set_option maxRecDepth 4000
theorem FlowK.mono{fb k k':Nat}{g:Gnd}{l:List Bld}{E:Store}(h:FlowK fb g l k E)(hk:k<=k'):FlowK fb g l k' E:=by
 obtain⟨v1,v2,v3,v4,q,ds,h1,h2⟩:=h
 exact⟨v1,v2,v3,v4,q,ds,h1,Nat.le_trans h2 hk⟩
theorem zkj{A E:Store}{w:Wld}{v:AV}(hv:RowsQ 10 untC A v w.U)(hdE:Disj A E)(hw:playW w){i:Nat}(hi:i<w.U.length)(h0:w.U[i].inn=0)(d:Vc)(hd:d.ok)(R:AV->Store->Prop)
  (h:∀v2 (N:Store),RowsQ 10 untC (N.un A) v2 (tryW w w.U[i] d).U->Disj (N.un A) E->R (.tup [.agg (wldV (tryW w w.U[i] d) v2),int (tryK w w.U[i] d)]) ((N.un A).un E)):
  ACalls Tryz.prog 31 [.agg (wldV w v),int w.U[i].id,.agg (vecC d)] (A.un E) R:=by
 refine ACalls.frame hdE (zvf hv hw hi h0 d hd (fun r S=>∃v2,∃N:Store,RowsQ 10 untC (N.un A) v2 (tryW w w.U[i] d).U/\r=.tup [.agg (wldV (tryW w w.U[i] d) v2),int (tryK w w.U[i] d)]/\S=N.un A) (fun v2 N h1 h2=>⟨v2,N,h1,rfl,rfl⟩)) ?_
 rintro r a' ⟨v2,N,h1,rfl,rfl⟩ hd2
 exact h v2 N h1 hd2
set_option maxHeartbeats 4000000 in
set_option maxRecDepth 20000 in
theorem zvd{fb k0:Nat}{E:Store}(w:Wld)(hE0:FlowK fb w.G w.B k0 E)(hk0:k0<=1000000000)(hw:playW w){i:Nat}(hi:i<w.U.length)(h0:w.U[i].inn=0)(R:AV->Store->Prop)
  (h:∀A v E',RowsQ 10 untC A v (j9 w w.U[i]).U->Disj A E'->FlowK fb w.G w.B (k0+1) E'->R (.agg (wldV (j9 w w.U[i]) v)) (A.un E')):
  ACalls Tryz.prog 18 [.agg (wldC w),int w.U[i].id,ptr fb] E R:=by
 have f:=mayF hw.1
 have hU:=f.hU
 have hkk:=f.hk _ (List.getElem_mem hi)
 have hE1:FlowK fb w.G w.B (k0+1) E:=hE0.mono (Nat.le_succ k0)
 refine Qb (c:=cfg 225) zc Tryz.func18 ?_
 refine AWp.seq (AWp.of_vc zc ?_)
 refine AWp.seq (AWp.of_vc zc ?_)
 refine zjb w f.fits (by omega) _ _ (fun v N hv hd=>?_)
 rcases hv with⟨_,e⟩|⟨b,cap,L,rfl,ho,g1,g2,g3⟩
 ·rw[e]at hi;exact absurd hi (Nat.not_lt_zero i)
 have hvQ:RowsQ 10 untC (N.un E) (.s (.slice (some ⟨b,0,none⟩) w.U.length cap)) w.U:=RowsO.q ((show RowsO 10 untC N _ w.U from .inr ⟨b,cap,L,rfl,ho,g1,g2,g3⟩).unL hd)
 have hoS:(N.un E).obj b=_:=un_l hd ho
 have hvN:RowsQ 10 untC N (.s (.slice (some ⟨b,0,none⟩) w.U.length cap)) w.U:=RowsO.q (.inr ⟨b,cap,L,rfl,ho,g1,g2,g3⟩)
 have hEb:¬E.has b:=hd b (yw ho)
 refine AWp.seq (AWp.of_vc zc ?_)
 refine zeq hvQ hw hi w.U[i].id rfl _ ?_
 refine AWp.seq (AWp.of_vc zc ?_)
 refine⟨i,rfl,hi,?_⟩
 have hdr:=kj (L:=L) qf hi
 refine AWp.seq (AWp.of_vc zc ?_)
 refine za (o:=(N.un E).obj b) _ hoS ?_
 refine za _ (xr hi (j:=2) (by decide) rfl) ?_
 refine ve w.U[i].kind hkk _ _ ?_
 refine AWp.seq (AWp.of_vc zc ?_)
 refine za (o:=(N.un E).obj b) _ hoS ?_
 refine za _ (xr hi (j:=5) (by decide) rfl) ?_
 unfold j9 at h
 refine bceq (fun c1=>?_) (fun c1=>?_)
 ·rw[if_pos c1]at h
  have hsp:=zdx w.U[i].kind
  have e4:(yp w.U[i].kind).tdiv 4=yp w.U[i].kind/4:=Int.tdiv_eq_ediv_of_nonneg (by omega)
  have hq4:yq ((yp w.U[i].kind).tdiv 4):=⟨by omega,by omega⟩
  have ht:za7 (zcu w w.U[i]):=zo5 (zbi hw.1 (List.getElem_mem hi) h0) (fun x hx h1=>zbi hw.1 hx h1) hU
  have hcl:=fun st2 R2=>w9 (zcu w w.U[i]) ((yp w.U[i].kind).tdiv 4) ht (by omega) st2 R2
  refine Qc zc yr4 ?_
  refine⟨by decide,in64 hq4 ?_⟩
  refine⟨zdm hvQ hw hi h0 _ ⟨Qe,?_⟩,⟨⟨Qe,⟨zdm hvQ hw hi h0 _ ⟨Qe,?_⟩,Tv⟩⟩,Tv⟩⟩
  refine⟨hcl _ _ ⟨Qe,⟨⟨Qe,⟨⟨Qe,?_⟩,Tv⟩⟩,Tv⟩⟩,⟨⟨Qe,⟨hcl _ _ ⟨Qe,⟨⟨Qe,?_⟩,Tv⟩⟩,Tv⟩⟩,Tv⟩⟩
  rotate_left 2
  refine⟨hcl _ _ ⟨Qe,⟨⟨Qe,?_⟩,Tv⟩⟩,Tv⟩
  all_goals
   have hidle:zg3 w w.U[i]=tryW w w.U[i] (qj (zcu w w.U[i]) ((yp w.U[i].kind).tdiv 4)):=rfl
   have hvo:=vo (m:=(yp w.U[i].kind).tdiv 4) ht
   rw[hidle]at h
   clear hidle hcl
   generalize qj (zcu w w.U[i]) ((yp w.U[i].kind).tdiv 4)=dv at*
   obtain⟨dx,dy⟩:=dv
   have hTry:=fun R2 h2=>zkj hvN hd hw hi h0 (dx,dy) hvo R2 h2
   refine bceq (fun c2=>?_) (fun c2=>?_)
   refine bceq (fun c3=>?_) (fun c3=>?_)
   ·have e2:dx=0:=c2
    have e3:dy=0:=c3
    subst e2 e3
    rw[(yda w w.U[i]).2]at h
    exact ret (h N _ E hvN hd hE1)
   all_goals
    refine hTry _ (fun v2 N2 hv2 hd2=>?_)
    have hv3:=hv2
    obtain⟨oa2,cp2,rfl,_⟩:=hv3.form
    exact ret (h (N2.un N) _ E hv2 hd2 hE1)
 rw[if_neg c1]at h
 have hut:=znp hw.1 hi
 obtain⟨goal,hgq,hgl⟩:∃k:Nat,w.U[i].goal=k/\k<w.G.T.length:=by
  rcases wd f.hg hut.2.1.1 with h1|h1
  ·exact absurd h1 c1
  ·exact h1
 have hgoes:zbu w w.U[i]=if w.U[i].pos=cenV w.G goal then putU w (endU 2 w.U[i])else if xq w w.U[i] (ql w.G w.U[i].pos)then(if wg w w.U[i] (ql w.G w.U[i].pos)<0 then putU w (endU 3 w.U[i])else ww w {w.U[i]with next:=wg w w.U[i] (ql w.G w.U[i].pos)})else ww w w.U[i]:=by
  have e:w.U[i].goal.toNat=goal:=by rw[hgq,Int.toNat_natCast]
  unfold zbu
  rw[e]
 rw[hgoes]at h
 have hset:∀(S:Store) (u':Unt),S.obj b=some (.cells ((rws untC (w.U.set i u')).flatten++L))->RowsQ 10 untC S (.s (.slice (some ⟨b,0,none⟩) w.U.length cap)) (w.U.set i u'):=fun S u' hS=>RowsO.q (.inr ⟨b,cap,L,by rw[List.length_set],hS,by rw[List.length_set];exact g1,by rw[List.length_set];exact g2,g3⟩)
 refine AWp.seq (AWp.of_vc zc ?_)
 refine AWp.seq (AWp.of_vc zc ?_)
 refine Qc zc yla ?_
 refine za (o:=(N.un E).obj b) _ hoS ?_
 refine zn (i:=ti48) (row:=vecC w.U[i].pos) rfl rfl (zas hi) ?_
 refine za (o:=(N.un E).obj b) _ hoS ?_
 refine za _ (xr hi (j:=5) (by decide) rfl) ?_
 refine⟨vk w.G f.hg goal hgl w.U[i].goal hgq _ _ ⟨(by repeat(first|exact Tv|refine⟨rfl,?_⟩|refine⟨za (o:=(N.un E).obj b) _ hoS (zn (i:=ti48) (row:=vecC w.U[i].pos) rfl rfl (zas hi) rfl),?_⟩)),?_⟩,Tv⟩
 refine ze (fun c2=>?_) (fun c2=>?_)
 ·have e:w.U[i].pos=cenV w.G goal:=by
   simp only[Bool.and_eq_true,beq_iff_eq]at c2
   exact Prod.ext c2.1 c2.2.1
  rw[if_pos e,qw hw.1.1.2.1 hi (u:=endU 2 w.U[i]) rfl]at h
  refine zfp hoS hi 2 _ ?_
  rw[qb hEb]
  exact ret (h _ _ E (hset _ _ (zb _ _ _)) (qq hd hEb) hE1)
 have e:¬w.U[i].pos=cenV w.G goal:=fun e=>by
  simp only[e,Bool.and_eq_false_iff,beq_eq_false_iff_ne]at c2
  rcases c2 with c2|c2|c2
  ·exact c2 rfl
  ·exact c2 rfl
  ·cases c2
 rw[if_neg e]at h
 have hon:=ztw hw.1 hi h0
 have hown:=zon hw.1 hi h0
 refine AWp.seq (AWp.of_vc zc ?_)
 refine Qc zc yk9 ?_
 refine za (o:=(N.un E).obj b) _ hoS ?_
 refine zn (i:=ti48) (row:=vecC w.U[i].pos) rfl rfl (zas hi) ?_
 refine⟨ymd w.G f.hg w.U[i].pos hon _ _ ⟨(by repeat(first|exact Tv|refine⟨rfl,?_⟩|refine⟨za (o:=(N.un E).obj b) _ hoS (zn (i:=ti48) (row:=vecC w.U[i].pos) rfl rfl (zas hi) rfl),?_⟩)),?_⟩,Tv⟩
 refine⟨⟨Tv,?_⟩,Tv⟩
 generalize ql w.G w.U[i].pos=own at*
 refine AWp.meetA (σ:=Nat) ⟨fun _=>[(1,.av (int w.U[i].id)),(3,.bx 3 0),(6,.bx 6 0),(7,.av (int (i:Nat))),(8,.av (.s (.pointer (some ⟨b,0+i*10,none⟩)))),(9,.bx 9 0),(13,.bx 13 0)],fun _=>[(3,wldV w (.s (.slice (some ⟨b,0,none⟩) w.U.length cap))),(6,wld0),(9,zd0 w.U[i].kind),(13,gndC w.G)],
  fun t st'=>(∃A E',st'=A.un E'/\Disj A E'/\FlowK fb w.G w.B (k0+1) E'/\A.obj b=some (.cells ((rws untC (w.U.set i {w.U[i]with next:=(t:Int)})).flatten++L)))/\t<w.G.T.length/\zbu w w.U[i]=ww w {w.U[i]with next:=(t:Int)}⟩ ?_ ?_
 ·refine AWp.meet (σ:=Unit) ⟨fun _=>[(1,.av (int w.U[i].id)),(2,.av (ptr fb)),(3,.bx 3 0),(6,.bx 6 0),(7,.av (int (i:Nat))),(8,.av (.s (.pointer (some ⟨b,0+i*10,none⟩)))),(9,.bx 9 0),(13,.bx 13 0),(14,.av (int (own:Nat))),(137,.av (V.bool (xq w w.U[i] own)))],fun _=>[(3,wldV w (.s (.slice (some ⟨b,0,none⟩) w.U.length cap))),(6,wld0),(9,zd0 w.U[i].kind),(13,gndC w.G)],
   fun _ st'=>st'=N.un E⟩ zc ?_ ?_
  ·refine Qc zc yk8 ?_
   refine za (o:=(N.un E).obj b) _ hoS ?_
   refine za _ (xr hi (j:=6) (by decide) rfl) ?_
   refine bceq (fun d1=>?_) (fun d1=>?_)
   ·have hlk:xq w w.U[i] own=true:=by
     have d1:w.U[i].next=-1:=d1
     unfold xq
     rw[d1]
     rfl
    rw[hlk]
    refine⟨⟨⟨rfl,Tv⟩,?_⟩,Tv⟩
    refine⟨⟨⟨rfl,Tv⟩,?_⟩,Tv⟩
    refine⟨⟨⟨rfl,Tv⟩,?_⟩,Tv⟩
    refine⟨⟨Tv,?_⟩,Tv⟩
    exact⟨(),rfl,⟨Tq,Tq,Tq,Tq,Tq,Tq,Tq,Tq,Tq,Tq,Tv⟩,⟨rfl,rfl,rfl,rfl,Tv⟩⟩
   have d1:¬w.U[i].next=-1:=d1
   obtain⟨nx,hnq,hnl⟩:∃k:Nat,w.U[i].next=k/\k<w.G.T.length:=by
    rcases wd f.hg hut.2.1.2.1 with h1|h1
    ·exact absurd h1 d1
    ·exact h1
   have hlk:xq w w.U[i] own=(decide (w.U[i].pos=cenV w.G nx)|| !okU w w.U[i] nx||(decide (w.U[i].next≠own)&& !(vh w.G own).contains w.U[i].next)):=by
    unfold xq
    rw[decide_eq_false d1,show w.U[i].next.toNat=nx by rw[hnq,Int.toNat_natCast]]
    rfl
   refine za (o:=(N.un E).obj b) _ hoS ?_
   refine zn (i:=ti48) (row:=vecC w.U[i].pos) rfl rfl (zas hi) ?_
   refine za (o:=(N.un E).obj b) _ hoS ?_
   refine za _ (xr hi (j:=6) (by decide) rfl) ?_
   refine⟨vk w.G f.hg nx hnl w.U[i].next hnq _ _ ⟨⟨za (o:=(N.un E).obj b) _ hoS (zn (i:=ti48) (row:=vecC w.U[i].pos) rfl rfl (zas hi) rfl),Tv⟩,?_⟩,Tv⟩
   refine ze (fun d2=>?_) (fun d2=>?_)
   ·have e2:w.U[i].pos=cenV w.G nx:=by
     simp only[Bool.and_eq_true,beq_iff_eq]at d2
     exact Prod.ext d2.1 d2.2.1
    rw[hlk,decide_eq_true e2,Bool.true_or,Bool.true_or]
    refine⟨⟨⟨rfl,Tv⟩,?_⟩,Tv⟩
    refine⟨⟨⟨rfl,Tv⟩,?_⟩,Tv⟩
    refine⟨⟨Tv,?_⟩,Tv⟩
    exact⟨(),rfl,⟨Tq,Tq,Tq,Tq,Tq,Tq,Tq,Tq,Tq,Tq,Tv⟩,⟨rfl,rfl,rfl,rfl,Tv⟩⟩
   have e2:¬w.U[i].pos=cenV w.G nx:=fun e=>by
    simp only[e,Bool.and_eq_false_iff,beq_eq_false_iff_ne]at d2
    rcases d2 with d2|d2|d2
    ·exact d2 rfl
    ·exact d2 rfl
    ·cases d2
   rw[decide_eq_false e2,Bool.false_or]at hlk
   refine za (o:=(N.un E).obj b) _ hoS ?_
   refine za _ (xr hi (j:=6) (by decide) rfl) ?_
   have hgl:nx<(blL w.G.T.length (zl w.G w.B (kCls w.U[i].kind) (yy w.U[i].kind))).length:=by rw[yu];exact hnl
   refine⟨zko w.G f.hg w.B (by have:=f.hB;omega) f.hb (kCls w.U[i].kind) (zis _) (yy w.U[i].kind) (zf0 _).1 _ _ ⟨⟨za (o:=(N.un E).obj b) _ hoS (za _ (xr hi (j:=6) (by decide) rfl) rfl),Tv⟩,?_⟩,Tv⟩
   refine⟨nx,hnq,za _ (zj hgl) ?_⟩
   rw[jy hnl]
   refine yo ?_
   refine ze (fun d3=>?_) (fun d3=>?_)
   rotate_left
   ·have e3:okU w w.U[i] nx=false:=d3
    rw[hlk,e3]
    refine⟨⟨⟨rfl,Tv⟩,?_⟩,Tv⟩
    refine⟨⟨Tv,?_⟩,Tv⟩
    exact⟨(),rfl,⟨Tq,Tq,Tq,Tq,Tq,Tq,Tq,Tq,Tq,Tq,Tv⟩,⟨rfl,rfl,rfl,rfl,Tv⟩⟩
   have e3:okU w w.U[i] nx=true:=d3
   rw[e3]at hlk
   refine za (o:=(N.un E).obj b) _ hoS ?_
   refine za _ (xr hi (j:=6) (by decide) rfl) ?_
   refine bcne (fun d4=>?_) (fun d4=>?_)
   rotate_left
   ·have e4:xq w w.U[i] own=false:=by
     have d4:w.U[i].next=own:=d4
     rw[hlk,decide_eq_false (by rw[d4];exact fun h=>h rfl)]
     rfl
    rw[e4]
    refine⟨⟨⟨rfl,Tv⟩,?_⟩,Tv⟩
    refine⟨⟨Tv,?_⟩,Tv⟩
    exact⟨(),rfl,⟨Tq,Tq,Tq,Tq,Tq,Tq,Tq,Tq,Tq,Tq,Tv⟩,⟨rfl,rfl,rfl,rfl,Tv⟩⟩
   have d4:w.U[i].next≠own:=d4
   rw[decide_eq_true d4,Bool.not_true,Bool.false_or,Bool.true_and]at hlk
   refine za (o:=(N.un E).obj b) _ hoS ?_
   refine za _ (xr hi (j:=6) (by decide) rfl) ?_
   refine⟨zbe w.G f.hg own hown _ _ ⟨⟨za (o:=(N.un E).obj b) _ hoS (za _ (xr hi (j:=6) (by decide) rfl) rfl),Tv⟩,?_⟩,Tv⟩
   refine⟨zvp (vh w.G own) (by rw[zae];decide) w.U[i].next _ _ (fun z hz=>⟨Tv,?_⟩),Tv⟩
   have e5:xq w w.U[i] own=decide (z<0):=by
    rw[hlk]
    cases hc:(vh w.G own).contains w.U[i].next with
    |true=>rw[decide_eq_false (fun h=>by have:=hz.1 h;rw[hc]at this;cases this)];rfl
    |false=>rw[decide_eq_true (hz.2 hc)];rfl
   rw[e5]
   exact⟨(),rfl,⟨Tq,Tq,Tq,Tq,Tq,Tq,Tq,Tq,Tq,Tq,Tv⟩,⟨rfl,rfl,rfl,rfl,Tv⟩⟩
  ·rintro _ st' rfl
   have e1:=za0 (L:=L) hi (j:=6) (by decide) (y:=int (own:Nat)) (u':={w.U[i]with next:=(own:Int)}) rfl
   have hi1:i<(w.U.set i {w.U[i]with next:=(own:Int)}).length:=by rw[List.length_set];exact hi
   have hg1:(w.U.set i {w.U[i]with next:=(own:Int)})[i]={w.U[i]with next:=(own:Int)}:=List.getElem_set_self ..
   refine AWp.cond (xq w w.U[i] own) rfl (ze (fun l1=>?_) (fun l1=>?_))
   rotate_left
   ·refine AWp.of_vc zc ?_
    have hn1:w.U[i].next≠-1:=fun h1=>by
     have:xq w w.U[i] own=true:=by unfold xq;rw[h1];rfl
     rw[this]at l1;cases l1
    obtain⟨nx,hnq,hnl⟩:∃k:Nat,w.U[i].next=k/\k<w.G.T.length:=by
     rcases wd f.hg hut.2.1.2.1 with h1|h1
     ·exact absurd h1 hn1
     ·exact h1
    have hself:({w.U[i]with next:=(nx:Int)}:Unt)=w.U[i]:=by rw[<-hnq]
    refine⟨nx,⟨?_,hnl,?_⟩,⟨Tq,Tq,Tq,Tq,Tq,Tq,Tq,Tv⟩,⟨rfl,rfl,rfl,rfl,Tv⟩⟩
    ·exact⟨N,E,rfl,hd,hE1,by rw[hself,List.set_getElem_self];exact ho⟩
    ·rw[hself,hgoes,if_neg e,if_neg (by rw[l1];decide)]
   rw[if_neg e,if_pos l1]at hgoes
   rw[if_pos l1]at h
   refine AWp.seq (AWp.of_vc zc ?_)
   refine zh (i:=ti2) (v:=int (own:Nat)) (b:=b) (o:=0+i*10+6) (l:=(rws untC w.U).flatten++L) (st2:=(N.setObj b (.cells ((rws untC (w.U.set i {w.U[i]with next:=(own:Int)})).flatten++L))).un E) rfl rfl rfl hoS (zbp hi (by decide)) (by rw[e1,qb hEb]) ?_
   have hoA:=zb N b (.cells ((rws untC (w.U.set i {w.U[i]with next:=(own:Int)})).flatten++L))
   have hdA:Disj (N.setObj b (.cells ((rws untC (w.U.set i {w.U[i]with next:=(own:Int)})).flatten++L))) E:=qq hd hEb
   generalize N.setObj b (.cells ((rws untC (w.U.set i {w.U[i]with next:=(own:Int)})).flatten++L))=A1 at*
   have hoS1:(A1.un E).obj b=_:=un_l hdA hoA
   obtain⟨S1,hS1⟩:∃S1,A1.un E=S1:=⟨_,rfl⟩
   rw[hS1]at hoS1⊢
   have hpd:=zas (J:=L) hi1
   rw[hg1]at hpd
   refine AWp.seq (AWp.of_vc zc ?_)
   refine Qc zc yk7 ?_
   refine za (o:=S1.obj b) _ hoS1 ?_
   refine zn (i:=ti48) (row:=vecC w.U[i].pos) rfl rfl hpd ?_
   refine⟨vk w.G f.hg own hown _ rfl _ _ ⟨⟨za (o:=S1.obj b) _ hoS1 (zn (i:=ti48) (row:=vecC w.U[i].pos) rfl rfl hpd rfl),Tv⟩,?_⟩,Tv⟩
   refine AWp.cond _ rfl (ze (fun l2=>?_) (fun l2=>?_))
   rotate_left
   ·refine AWp.of_vc zc ?_
    have e6:w.U[i].pos≠cenV w.G own:=fun e=>by
     simp only[e,Bool.and_eq_false_iff,beq_eq_false_iff_ne]at l2
     rcases l2 with l2|l2|l2
     ·exact l2 rfl
     ·exact l2 rfl
     ·cases l2
    have hnt:wg w w.U[i] own=own:=by unfold wg;rw[if_pos e6]
    rw[hnt,if_neg (by omega)]at hgoes
    exact⟨own,⟨⟨A1,E,hS1.symm,hdA,hE1,hoA⟩,hown,hgoes⟩,⟨Tq,Tq,Tq,Tq,Tq,Tq,Tq,Tv⟩,⟨rfl,rfl,rfl,rfl,Tv⟩⟩
   have e6:¬w.U[i].pos≠cenV w.G own:=fun h=>h (by
    simp only[Bool.and_eq_true,beq_iff_eq]at l2
    exact Prod.ext l2.1 l2.2.1)
   have hnt:wg w w.U[i] own=if wayF w.G (zl w.G w.B (kCls w.U[i].kind) (yy w.U[i].kind)) (kCls w.U[i].kind) (farF w.G (zl w.G w.B (kCls w.U[i].kind) (yy w.U[i].kind)) (kCls w.U[i].kind) goal) own<0 then -1 else besN w.G own (wayF w.G (zl w.G w.B (kCls w.U[i].kind) (yy w.U[i].kind)) (kCls w.U[i].kind) (farF w.G (zl w.G w.B (kCls w.U[i].kind) (yy w.U[i].kind)) (kCls w.U[i].kind) goal) own).toNat:=by
    unfold wg
    rw[if_neg e6,show w.U[i].goal.toNat=goal by rw[hgq,Int.toNat_natCast]]
    rfl
   rw[hnt]at hgoes h
   refine AWp.seq (AWp.of_vc zc ?_)
   refine Qc zc yk6 ?_
   refine za (o:=S1.obj b) _ hoS1 ?_
   refine za (x:=int (goal:Nat)) (by have:=xr (J:=L) hi1 (j:=5) (by decide) (y:=int (goal:Nat)) (by rw[hg1];exact congrArg (fun x=>some (int x)) hgq);exact this) ?_
   have hcall:∀R',(∀b2 E2,Disj A1 E2->FlowK fb w.G w.B (k0+1) E2->E2.obj b2=some (.cells (wayL w.G w.B (kCls w.U[i].kind) (yy w.U[i].kind) goal))->R' (.s (.slice (some ⟨b2,0,none⟩) w.G.T.length w.G.T.length)) (A1.un E2))->
     ACalls Tryz.prog 53 [ptr fb,.agg (wldV w (.s (.slice (some ⟨b,0,none⟩) w.U.length cap))),int (kCls w.U[i].kind),int (yy w.U[i].kind),int (goal:Nat)] S1 R':=fun R' hR'=>by
    rw[<-hS1,un_comm hdA]
    refine ACalls.frame (zde hdA) (zr4 hw.1 _ _ _ hE0 hk0 (zis _) (zf0 _).1 goal hgl (fun r S=>∃b2,r=.s (.slice (some ⟨b2,0,none⟩) w.G.T.length w.G.T.length)/\FlowK fb w.G w.B (k0+1) S/\S.obj b2=some (.cells (wayL w.G w.B (kCls w.U[i].kind) (yy w.U[i].kind) goal))) (fun b2 S2 h1 h2=>⟨b2,rfl,h1,h2⟩)) ?_
    rintro r a' ⟨b2,rfl,h1,h2⟩ hd2
    rw[un_comm hd2]
    exact hR' b2 _ (zde hd2) h1 h2
   have hway:=ynw w.G (zl w.G w.B (kCls w.U[i].kind) (yy w.U[i].kind)) (kCls w.U[i].kind) (farF w.G (zl w.G w.B (kCls w.U[i].kind) (yy w.U[i].kind)) (kCls w.U[i].kind) goal) own
   have hhd:=qc (f:=wayF w.G (zl w.G w.B (kCls w.U[i].kind) (yy w.U[i].kind)) (kCls w.U[i].kind) (farF w.G (zl w.G w.B (kCls w.U[i].kind) (yy w.U[i].kind)) (kCls w.U[i].kind) goal)) hown
   refine⟨hcall _ (fun b2 E2 hdE hK2 h2=>⟨Tv,?_⟩),Tv⟩
   have hb2:(A1.un E2).obj b=_:=un_l hdE hoA
   have hE2b:¬E2.has b:=hdE b (yw hoA)
   refine⟨own,rfl,hown,?_⟩
   refine za (o:=(A1.un E2).obj b2) _ (un_r h2) ?_
   refine za _ hhd ?_
   clear hcall h2 hhd
   generalize wayF w.G (zl w.G w.B (kCls w.U[i].kind) (yy w.U[i].kind)) (kCls w.U[i].kind) (farF w.G (zl w.G w.B (kCls w.U[i].kind) (yy w.U[i].kind)) (kCls w.U[i].kind) goal) own=way at*
   refine⟨⟨Tv,?_⟩,Tv⟩
   refine AWp.of_vc zc ?_
   refine bcd (fun c5=>?_) (fun c5=>?_)
   ·rw[if_pos c5,if_pos (by decide),qw hw.1.1.2.1 hi (u:=endU 3 w.U[i]) rfl]at h
    refine zfp hb2 hi1 3 _ ?_
    rw[qb hE2b]
    have hset1:=hset (A1.setObj b (.cells ((rws untC ((w.U.set i {w.U[i]with next:=(own:Int)}).set i (endU 3 (w.U.set i {w.U[i]with next:=(own:Int)})[i]))).flatten++L))) (endU 3 w.U[i]) (by
     rw[zb,hg1,List.set_set]
     rfl)
    exact ret (h _ _ E2 hset1 (qq hdE hE2b) hK2)
   obtain⟨j,hj,rfl,hst⟩:∃j:Nat,j<8/\way=(j:Int)/\0<y9 w.G (zl w.G w.B (kCls w.U[i].kind) (yy w.U[i].kind)) (kCls w.U[i].kind) own j:=by
    rcases hway with h1|⟨j,h1,h2,h3⟩
    ·omega
    ·exact⟨j,h1,h2,h3⟩
   rw[if_neg c5,Int.toNat_natCast]at hgoes
   obtain⟨t,htq,htl⟩:∃t:Nat,besN w.G own j=(t:Int)/\t<w.G.T.length:=by
    rcases zgx f.hg own hj with h1|h1
    ·rw[zeg (vq h1)]at hst
     omega
    ·exact h1
   have e7:=za0 (L:=L) hi1 (j:=6) (by decide) (y:=int (t:Nat)) (u':={w.U[i]with next:=(t:Int)}) (by rw[hg1];rfl)
   rw[List.set_set]at e7
   refine zbe w.G f.hg own hown _ _ ?_
   refine⟨j,rfl,za _ (zin hj) ?_⟩
   rw[htq]at hgoes⊢
   refine zh (i:=ti2) (v:=int (t:Nat)) (b:=b) (o:=0+i*10+6) (l:=(rws untC (w.U.set i {w.U[i]with next:=(own:Int)})).flatten++L) (st2:=(A1.setObj b (.cells ((rws untC (w.U.set i {w.U[i]with next:=(t:Int)})).flatten++L))).un E2) rfl rfl rfl hb2 (zbp hi1 (by decide)) (by rw[e7,qb hE2b]) ?_
   rw[if_neg (by omega)]at hgoes
   exact⟨t,⟨⟨_,E2,rfl,qq hdE hE2b,hK2,zb _ _ _⟩,htl,hgoes⟩,⟨Tq,Tq,Tq,Tq,Tq,Tq,Tq,Tv⟩,⟨rfl,rfl,rfl,rfl,Tv⟩⟩
 clear hE1 hvN hEb hd hoS hvQ
 rintro t st' ⟨⟨A,E',rfl,hdA,hK',hobA⟩,htl,hgo⟩
 have hob:(A.un E').obj b=_:=un_l hdA hobA
 rw[hgoes,if_neg e]at hgo
 rw[hgo]at h
 clear hgo hgoes hset
 have e0:=za0 (L:=L) hi (j:=6) (by decide) (y:=int (t:Nat)) (u':={w.U[i]with next:=(t:Int)}) rfl
 have hi1:i<(w.U.set i {w.U[i]with next:=(t:Int)}).length:=by rw[List.length_set];exact hi
 have hg1:(w.U.set i {w.U[i]with next:=(t:Int)})[i]={w.U[i]with next:=(t:Int)}:=List.getElem_set_self ..
 have hpd:=zas (J:=L) hi1
 rw[hg1]at hpd
 have hnx:(((rws untC (w.U.set i {w.U[i]with next:=(t:Int)})).flatten++L).drop (0+i*10+6)).head?=some (int (t:Nat)):=xr hi1 (by decide) (by rw[hg1];rfl)
 have hmp:=zbi hw.1 (List.getElem_mem hi) h0
 have hcm:=zmz f.hg htl
 have hks:=zdx w.U[i].kind
 have hway:=zan hmp hcm
 have hmay1:mayP {w with U:=w.U.set i {w.U[i]with next:=(t:Int)}}:=by
  rw[<-qw hw.1.1.2.1 hi (u:={w.U[i]with next:=(t:Int)}) rfl]
  exact zfx hw.1 hi h0 rfl (zfh hut c1 (zhv f.hg htl) hut.2.1.2.2)
 have hplay:playW {w with U:=w.U.set i {w.U[i]with next:=(t:Int)}}:=⟨hmay1,fun x hx=>by
  rcases List.mem_or_eq_of_mem_set hx with h1|h1
  ·exact hw.2 x h1
  ·subst h1;show w.U[i].pos.ok;exact hw.2 _ (List.getElem_mem hi)⟩
 have hvS:RowsQ 10 untC A (.s (.slice (some ⟨b,0,none⟩) w.U.length cap)) (w.U.set i {w.U[i]with next:=(t:Int)}):=RowsO.q (.inr ⟨b,cap,L,by rw[List.length_set],hobA,by rw[List.length_set];exact g1,by rw[List.length_set];exact g2,g3⟩)
 have htry:=fun R'=>zkj (w:={w with U:=w.U.set i {w.U[i]with next:=(t:Int)}}) hvS hdA hplay hi1 (by show(w.U.set i {w.U[i]with next:=(t:Int)})[i].inn=0;rw[hg1];exact h0) (xw w.U[i].pos (cenV w.G t) (yp w.U[i].kind)) (vo hway) R'
 have hput:=qw hw.1.1.2.1 hi (u:={w.U[i]with next:=(t:Int)}) rfl
 have htp:=yor (w:=w) (u:={w.U[i]with next:=(t:Int)}) (d:=xw w.U[i].pos (cenV w.G t) (yp w.U[i].kind))
 have hsp:=yj5 (w:=w) (u:={w.U[i]with next:=(t:Int)}) (d:=xw w.U[i].pos (cenV w.G t) (yp w.U[i].kind)) (by show xw _ (cenV w.G (Int.toNat (t:Int))) _=_;rw[Int.toNat_natCast])
 rw[hput]at htp
 simp only[hg1]at htry
 refine AWp.meet (σ:=AV) ⟨fun v2=>[(6,.bx 6 0),(7,.av (int (i:Nat))),(16,.bx 16 0),(17,.av (int (tryK {w with U:=w.U.set i {w.U[i]with next:=(t:Int)}} {w.U[i]with next:=(t:Int)} (xw w.U[i].pos (cenV w.G t) (yp w.U[i].kind)))))],fun v2=>[(6,wld0),(16,wldV (tryW {w with U:=w.U.set i {w.U[i]with next:=(t:Int)}} {w.U[i]with next:=(t:Int)} (xw w.U[i].pos (cenV w.G t) (yp w.U[i].kind))) v2)],
  fun v2 st2=>∃A E',st2=A.un E'/\Disj A E'/\FlowK fb w.G w.B (k0+1) E'/\RowsQ 10 untC A v2 (tryW {w with U:=w.U.set i {w.U[i]with next:=(t:Int)}} {w.U[i]with next:=(t:Int)} (xw w.U[i].pos (cenV w.G t) (yp w.U[i].kind))).U⟩ zc ?_ ?_
 ·refine Qc zc yk5 ?_
  refine za (o:=(A.un E').obj b) _ hob ?_
  refine zn (i:=ti48) (row:=vecC w.U[i].pos) rfl rfl hpd ?_
  refine za (o:=(A.un E').obj b) _ hob ?_
  refine za _ hnx ?_
  refine⟨vk w.G f.hg t htl _ rfl _ _ ⟨(by repeat(first|exact Tv|refine⟨rfl,?_⟩|refine⟨za (o:=(A.un E').obj b) _ hob (zn (i:=ti48) (row:=vecC w.U[i].pos) rfl rfl hpd rfl),?_⟩|refine⟨za (o:=(A.un E').obj b) _ hob (za _ hnx rfl),?_⟩)),⟨zch w.U[i].pos (cenV w.G t) (yp w.U[i].kind) hmp hcm (by omega) _ _ ⟨(by repeat(first|exact Tv|refine⟨rfl,?_⟩|refine⟨za (o:=(A.un E').obj b) _ hob (zn (i:=ti48) (row:=vecC w.U[i].pos) rfl rfl hpd rfl),?_⟩|refine⟨za (o:=(A.un E').obj b) _ hob (za _ hnx rfl),?_⟩)),⟨htry _ (fun v2 N2 hv2 hd2=>⟨Tv,⟨⟨(by repeat(first|exact Tv|refine⟨rfl,?_⟩|refine⟨za (o:=((N2.un A).un E').obj b) _ (un_l hd2 (un_r hobA)) (zn (i:=ti48) (row:=vecC w.U[i].pos) rfl rfl hpd rfl),?_⟩|refine⟨za (o:=((N2.un A).un E').obj b) _ (un_l hd2 (un_r hobA)) (za _ hnx rfl),?_⟩)),?_⟩,Tv⟩⟩),⟨⟨(by repeat(first|exact Tv|refine⟨rfl,?_⟩|refine⟨za (o:=(A.un E').obj b) _ hob (zn (i:=ti48) (row:=vecC w.U[i].pos) rfl rfl hpd rfl),?_⟩|refine⟨za (o:=(A.un E').obj b) _ hob (za _ hnx rfl),?_⟩)),⟨htry _ (fun v2 N2 hv2 hd2=>⟨Tv,?_⟩),Tv⟩⟩,Tv⟩⟩⟩,⟨⟨(by repeat(first|exact Tv|refine⟨rfl,?_⟩|refine⟨za (o:=(A.un E').obj b) _ hob (zn (i:=ti48) (row:=vecC w.U[i].pos) rfl rfl hpd rfl),?_⟩|refine⟨za (o:=(A.un E').obj b) _ hob (za _ hnx rfl),?_⟩)),⟨zch w.U[i].pos (cenV w.G t) (yp w.U[i].kind) hmp hcm (by omega) _ _ ⟨(by repeat(first|exact Tv|refine⟨rfl,?_⟩|refine⟨za (o:=(A.un E').obj b) _ hob (zn (i:=ti48) (row:=vecC w.U[i].pos) rfl rfl hpd rfl),?_⟩|refine⟨za (o:=(A.un E').obj b) _ hob (za _ hnx rfl),?_⟩)),⟨htry _ (fun v2 N2 hv2 hd2=>⟨Tv,?_⟩),Tv⟩⟩,Tv⟩⟩,Tv⟩⟩⟩,⟨⟨(by repeat(first|exact Tv|refine⟨rfl,?_⟩|refine⟨za (o:=(A.un E').obj b) _ hob (zn (i:=ti48) (row:=vecC w.U[i].pos) rfl rfl hpd rfl),?_⟩|refine⟨za (o:=(A.un E').obj b) _ hob (za _ hnx rfl),?_⟩)),⟨vk w.G f.hg t htl _ rfl _ _ ⟨(by repeat(first|exact Tv|refine⟨rfl,?_⟩|refine⟨za (o:=(A.un E').obj b) _ hob (zn (i:=ti48) (row:=vecC w.U[i].pos) rfl rfl hpd rfl),?_⟩|refine⟨za (o:=(A.un E').obj b) _ hob (za _ hnx rfl),?_⟩)),⟨zch w.U[i].pos (cenV w.G t) (yp w.U[i].kind) hmp hcm (by omega) _ _ ⟨(by repeat(first|exact Tv|refine⟨rfl,?_⟩|refine⟨za (o:=(A.un E').obj b) _ hob (zn (i:=ti48) (row:=vecC w.U[i].pos) rfl rfl hpd rfl),?_⟩|refine⟨za (o:=(A.un E').obj b) _ hob (za _ hnx rfl),?_⟩)),⟨htry _ (fun v2 N2 hv2 hd2=>⟨Tv,?_⟩),Tv⟩⟩,Tv⟩⟩,Tv⟩⟩,Tv⟩⟩
  all_goals
   have hv3:=hv2
   obtain⟨oa2,cp2,rfl,_⟩:=hv3.form
   refine⟨⟨Tv,?_⟩,Tv⟩
   refine⟨⟨Tv,?_⟩,Tv⟩
   exact⟨_,⟨_,E',rfl,hd2,hK',hv2⟩,⟨Tq,Tq,Tq,Tq,Tv⟩,⟨rfl,rfl,Tv⟩⟩
 rintro v2 st2 ⟨A2,E2,rfl,hd2,hK2,hv2⟩
 rcases hL:tryL w {w.U[i]with next:=(t:Int)} (vnrm (xw w.U[i].pos (cenV w.G t) (yp w.U[i].kind))) 5 0 with _|⟨k,p⟩
 ·obtain⟨hK,hW⟩:=htp.1 hL
  have hst:=hsp.1 hL
  rw[hW]at hv2
  rw[hK,hW]
  rw[hst]at h
  clear hst htp hsp hK hW htry hmay1 hplay
  rcases hv2 with(⟨_,e⟩|⟨b3,cap3,L3,rfl,ho3,k1,k2,k3⟩)|⟨_,_,_,e⟩
  ·exact absurd (congrArg List.length e) (by rw[List.length_set];simp only[List.length_nil];omega)
  rotate_left
  ·exact absurd (congrArg List.length e) (by rw[List.length_set];simp only[List.length_nil];omega)
  have hst8:=hut.2.1.2.2
  have hiA:i<(w.U.set i {w.U[i]with next:=(t:Int)}).length:=by rw[List.length_set];exact hi
  have hqA:(w.U.set i {w.U[i]with next:=(t:Int)})[i]={w.U[i]with next:=(t:Int)}:=List.getElem_set_self ..
  have erA:=za0 (L:=L3) hiA (j:=7) (by decide) (y:=int (w.U[i].stuck+1)) (u':={w.U[i]with next:=(t:Int),stuck:=w.U[i].stuck+1}) (by rw[hqA];rfl)
  rw[List.set_set]at erA
  have hiB:i<(w.U.set i {w.U[i]with next:=(t:Int),stuck:=w.U[i].stuck+1}).length:=by rw[List.length_set];exact hi
  have hqB:(w.U.set i {w.U[i]with next:=(t:Int),stuck:=w.U[i].stuck+1})[i]={w.U[i]with next:=(t:Int),stuck:=w.U[i].stuck+1}:=List.getElem_set_self ..
  have erB:=za0 (L:=L3) hiB (j:=6) (by decide) (y:=int (-1)) (u':={w.U[i]with next:=-1,stuck:=w.U[i].stuck+1}) (by rw[hqB];rfl)
  rw[List.set_set]at erB
  have hldA:(((rws untC (w.U.set i {w.U[i]with next:=(t:Int)})).flatten++L3).drop (0+i*10+7)).head?=some (int w.U[i].stuck):=xr hiA (by decide) (by rw[hqA];rfl)
  have hiC:i<(w.U.set i {w.U[i]with next:=-1,stuck:=w.U[i].stuck+1}).length:=by rw[List.length_set];exact hi
  have hqC:(w.U.set i {w.U[i]with next:=-1,stuck:=w.U[i].stuck+1})[i]={w.U[i]with next:=-1,stuck:=w.U[i].stuck+1}:=List.getElem_set_self ..
  have hldC:(((rws untC (w.U.set i {w.U[i]with next:=-1,stuck:=w.U[i].stuck+1})).flatten++L3).drop (0+i*10+7)).head?=some (int (w.U[i].stuck+1)):=xr hiC (by decide) (by rw[hqC];rfl)
  have hE3:¬E2.has b3:=hd2 b3 (yw ho3)
  refine AWp.of_vc zc ?_
  refine⟨i,rfl,hiA,?_⟩
  refine za (o:=(A2.un E2).obj b3) _ (un_l hd2 ho3) ?_
  refine za _ hldA ?_
  refine⟨⟨by omega,by omega⟩,?_⟩
  refine zh (i:=ti2) (v:=int (w.U[i].stuck+1)) (b:=b3) (o:=0+i*10+7) (l:=(rws untC (w.U.set i {w.U[i]with next:=(t:Int)})).flatten++L3) (st2:=(A2.setObj b3 (.cells ((rws untC (w.U.set i {w.U[i]with next:=(t:Int),stuck:=w.U[i].stuck+1})).flatten++L3))).un E2) rfl rfl rfl (un_l hd2 ho3) (zbp hiA (by decide)) (by rw[erA,qb hE3]) ?_
  refine zh (i:=ti2) (v:=int (-1)) (b:=b3) (o:=0+i*10+6) (l:=(rws untC (w.U.set i {w.U[i]with next:=(t:Int),stuck:=w.U[i].stuck+1})).flatten++L3) (st2:=(A2.setObj b3 (.cells ((rws untC (w.U.set i {w.U[i]with next:=-1,stuck:=w.U[i].stuck+1})).flatten++L3))).un E2) rfl rfl rfl (un_l (qq hd2 hE3) (zb _ _ _)) (zbp hiB (by decide)) (by rw[erB,qb hE3,zg]) ?_
  refine za (o:=((A2.setObj b3 (.cells ((rws untC (w.U.set i {w.U[i]with next:=-1,stuck:=w.U[i].stuck+1})).flatten++L3))).un E2).obj b3) _ (un_l (qq hd2 hE3) (zb _ _ _)) ?_
  refine za _ hldC ?_
  refine bceq (fun c6=>?_) (fun c6=>?_)
  ·have c6:w.U[i].stuck+1=8:=c6
   rw[if_pos c6,qw hw.1.1.2.1 hi (u:=endU 4 {w.U[i]with next:=(t:Int)}) rfl]at h
   refine zfp (un_l (qq hd2 hE3) (zb _ _ _)) hiC 4 _ ?_
   rw[qb hE3,zg,hqC,List.set_set]
   exact ret (h _ _ E2 (RowsO.q (.inr ⟨b3,cap3,L3,by rw[List.length_set,List.length_set],zb _ _ _,by rw[List.length_set]at k1⊢;exact k1,by rw[List.length_set]at k2⊢;exact k2,k3⟩)) (qq hd2 hE3) hK2)
  ·have c6:¬w.U[i].stuck+1=8:=c6
   rw[if_neg c6,qw hw.1.1.2.1 hi (u:={w.U[i]with next:=-1,stuck:=w.U[i].stuck+1}) rfl]at h
   exact ret (h _ _ E2 (RowsO.q (.inr ⟨b3,cap3,L3,by rw[List.length_set,List.length_set],zb _ _ _,by rw[List.length_set]at k1⊢;exact k1,by rw[List.length_set]at k2⊢;exact k2,k3⟩)) (qq hd2 hE3) hK2)
 ·obtain⟨hK,hk5,hW⟩:=htp.2 k p hL
  have hst:=hsp.2 k p hL
  rw[qw hw.1.1.2.1 hi (u:={w.U[i]with next:=(t:Int),pos:=p}) rfl]at hW
  rw[hW]at hv2
  rw[hK,hW]
  rw[hst,qw hw.1.1.2.1 hi (u:={w.U[i]with next:=(t:Int),pos:=p,stuck:=0}) rfl]at h
  clear hst htp hsp hK hW htry hmay1 hplay
  rcases hv2 with(⟨_,e⟩|⟨b3,cap3,L3,rfl,ho3,k1,k2,k3⟩)|⟨_,_,_,e⟩
  ·exact absurd (congrArg List.length e) (by rw[List.length_set];simp only[List.length_nil];omega)
  rotate_left
  ·exact absurd (congrArg List.length e) (by rw[List.length_set];simp only[List.length_nil];omega)
  have hiA:i<(w.U.set i {w.U[i]with next:=(t:Int),pos:=p}).length:=by rw[List.length_set];exact hi
  have hqA:(w.U.set i {w.U[i]with next:=(t:Int),pos:=p})[i]={w.U[i]with next:=(t:Int),pos:=p}:=List.getElem_set_self ..
  have erA:=za0 (L:=L3) hiA (j:=7) (by decide) (y:=int (0)) (u':={w.U[i]with next:=(t:Int),pos:=p,stuck:=0}) (by rw[hqA];rfl)
  rw[List.set_set]at erA
  have hE3:¬E2.has b3:=hd2 b3 (yw ho3)
  refine AWp.of_vc zc ?_
  refine⟨i,rfl,hiA,?_⟩
  refine bcd (fun c5=>?_) (fun c5=>?_)
  rotate_left
  ·exact absurd (show(k:Int)<5 by omega) c5
  refine zh (i:=ti2) (v:=int (0)) (b:=b3) (o:=0+i*10+7) (l:=(rws untC (w.U.set i {w.U[i]with next:=(t:Int),pos:=p})).flatten++L3) (st2:=(A2.setObj b3 (.cells ((rws untC (w.U.set i {w.U[i]with next:=(t:Int),pos:=p,stuck:=0})).flatten++L3))).un E2) rfl rfl rfl (un_l hd2 ho3) (zbp hiA (by decide)) (by rw[erA,qb hE3]) ?_
  exact ret (h _ _ E2 (RowsO.q (.inr ⟨b3,cap3,L3,by rw[List.length_set,List.length_set],zb _ _ _,by rw[List.length_set]at k1⊢;exact k1,by rw[List.length_set]at k2⊢;exact k2,k3⟩)) (qq hd2 hE3) hK2)
theorem FlowK.objs{fb k:Nat}{g:Gnd}{l:List Bld}{E:Store}(h:FlowK fb g l k E):FlowK fb g l k E.objs:=by
 obtain⟨v1,v2,v3,v4,q,ds,h1,h2⟩:=h
 exact⟨v1,v2,v3,v4,q,ds,⟨h1.h0,h1.h1,h1.h2,h1.h3,h1.h4,h1.len,h1.ok,h1.o0,h1.o1,h1.o2,h1.o3,h1.o4⟩,h2⟩
theorem zq3{fb k0:Nat}{E:Store}(w:Wld)(hE0:FlowK fb w.G w.B k0 E)(hk0:k0<=1000000000)(hw:playW w){i:Nat}(hi:i<w.U.length)(h0:w.U[i].inn=0)(R:AV->Store->Prop)
  (h:∀E',FlowK fb w.G w.B (k0+1) E'->R (.agg (wldC (j9 w w.U[i]))) E'):ACalls Tryz.prog 18 [.agg (wldC w),int w.U[i].id,ptr fb] E R:=by
 refine ACalls.frozenTo (zvd w hE0 hk0 hw hi h0 (fun r S=>∃A v E',RowsQ 10 untC A v (j9 w w.U[i]).U/\Disj A E'/\FlowK fb w.G w.B (k0+1) E'/\r=.agg (wldV (j9 w w.U[i]) v)/\S=A.un E') (fun A v E' h1 h2 h3=>⟨A,v,E',h1,h2,h3,rfl,rfl⟩)) ?_
 rintro r S ⟨X,v,N',hX,hd,hF',rfl,rfl⟩
 refine⟨.agg (wldC (j9 w w.U[i])),N'.objs,h _ hF'.objs,fun b x hx=>un_r hx,fun b x hx=>(by cases hx),fun Oth M W x sto hx=>?_⟩
 have sX:StoreOK X Oth M W:=sto.weaken ⟨fun b y hy=>un_l hd hy,fun b y hy=>zyb hd hy⟩
 have ht:∀b,((X.un N').obj b=none\/N'.objs.obj b≠none)->X.obj b=none:=fun b hb=>by
  rcases hb with hb|hb
  ·exact(zac hb).1
  ·cases hx:X.obj b with
   |none=>rfl
   |some y=>exact absurd (vg (hd b (yw hx))).1 hb
 exact(k6 hX sX hx).mono fun b o hT=>⟨hT.1,ht b hT.2⟩
theorem zzj(w:Wld)(hp:playW w)(st:Store)(R:AV->Store->Prop)(h:R (.agg (wldC (allW w))) st):ACalls Tryz.prog 36 [.agg (wldC w)] st R:=by
 have hm:=mayF hp.1
 have hU:=hm.hU
 refine zwd (Q:=fun r=>r=.agg (wldC (allW w))) ?_ st R fun r hr=>hr▸h
 refine Qa (c:=cfg 31 [6] []) zc Tryz.func36 ?_
 intro fb hfb
 refine AWp.loop (σ:=Nat) ⟨fun i=>[(1,.bx 1 0),(2,.bx 2 0),(3,.av (ptr fb)),(4,.av (int (i:Nat)))],fun i=>[(1,wldC (goN w i)),(2,wld0)],fun i S=>i<=w.U.length/\FlowK fb w.G w.B i S,fun i=>w.U.length-i⟩ zc ?_ ?_
 ·exact⟨0,Tv,⟨Nat.zero_le _,yuy _ _ (zb _ _ _)⟩,⟨Tq,Tq,Tq,Tq,Tv⟩,⟨rfl,rfl,Tv⟩⟩
 rintro i S ⟨hi,hF⟩
 obtain⟨hpi,hli,hGi,hBi⟩:=ze1 hp i
 refine ze (fun h1=>?_) (fun h1=>?_)
 ·have hil:i<(goN w i).U.length:=xk h1
  have hlt:i<w.U.length:=by omega
  refine⟨i,rfl,za _ (zj hil) ?_⟩
  refine bceq (fun c1=>?_) (fun c1=>?_)
  ·have hg:=yoc hil c1
   refine Qc zc yrz ?_
   refine⟨i,rfl,za _ (zj hil) ?_⟩
   have hcall:=fun R' h'=>zq3 (E:=S) (k0:=i) (fb:=fb) (goN w i) (by rw[hGi,hBi];exact hF) (by omega) hpi hil c1 R' h'
   rw[<-hg,hGi,hBi]at hcall
   refine⟨hcall _ (fun E' hF'=>⟨(by repeat(first|exact Tv|refine⟨rfl,?_⟩|refine⟨⟨i,rfl,za _ (zj hil) rfl⟩,?_⟩)),?_⟩),Tv⟩
   refine⟨⟨(by repeat(first|exact Tv|refine⟨rfl,?_⟩|refine⟨⟨i,rfl,za _ (zj hil) rfl⟩,?_⟩)),?_⟩,Tv⟩
   refine Qd ?_
   exact⟨i+1,(show w.U.length-(i+1)<w.U.length-i by omega),⟨hlt,hF'⟩,⟨Tq,Tq,Tq,Tq,Tv⟩,⟨rfl,rfl,Tv⟩⟩
  ·have hg:=zuc hil c1
   refine Qd ?_
   exact⟨i+1,(show w.U.length-(i+1)<w.U.length-i by omega),⟨hlt,hF.mono (Nat.le_succ i)⟩,⟨Tq,Tq,Tq,Tq,Tv⟩,⟨by rw[hg];rfl,rfl,Tv⟩⟩
 ·have hge:=ja h1 (by omega)
  have:i=w.U.length:=by omega
  subst this
  exact ret rfl
theorem znf(i n:Int)(hn:0<n)(hn2:n<=1000)(st:Store)(R:AV->Store->Prop)(h:∀k:Int,0<=k->k<n->R (int k) st):ACalls Tryz.prog 24 [int i,int n] st R:=by
 refine Qa (c:=cfg 11) zc Tryz.func24 ?_
 have e1:IntKind.u64.wrap n=n:=ye (by omega) (by omega)
 have h0:0<=IntKind.u64.wrap i:=by rw[za5];omega
 refine⟨by rw[e1];omega,?_⟩
 have h1:(IntKind.u64.wrap i).tmod n=(IntKind.u64.wrap i)%n:=Int.tmod_eq_emod_of_nonneg h0
 have h2:=Int.emod_nonneg (IntKind.u64.wrap i) (show n≠0 by omega)
 have h3:=Int.emod_lt_of_pos (IntKind.u64.wrap i) hn
 refine⟨by rw[e1,h1];exact⟨by omega,by omega⟩,?_⟩
 rw[e1,h1]
 exact ret (h _ h2 h3)
def ytv(w:Wld):Prop:=(w.fits/\∀u∈w.U,u.pos.ok)/\w.U.length<=1000000
set_option maxHeartbeats 4000000 in
set_option maxRecDepth 20000 in
theorem zrl(s:Scr24)(hs:s.good):ACalls Tryz.prog 10 [.agg (zn5 s)] Store.empty fun r _=>r=V.bool true:=by
 refine Qa (c:=cfg 81) zc Tryz.func10 ?_
 refine zo8 s _ _ (fun z hz=>?_)
 refine ze (fun c1=>ret rfl) (fun c1=>?_)
 have hnh:¬zhc s:=fun hh=>by have:=hz.2 hh;rw[this]at c1;cases c1
 unfold zhc zpd at hnh
 have hfit:s.W.fits:=⟨by unfold Gnd.fits;omega,by omega,by omega⟩
 have hokW:ytv s.W:=⟨⟨hfit,hs.1⟩,by omega⟩
 clear hnh
 refine znf _ 4 (by decide) (by decide) _ _ (fun n hn0 hn4=>?_)
 refine Qd ?_
 refine ybo (1+n) (by omega) _ (fun N fb hF=>?_)
 refine zbh _ _ _ ?_
 refine za3 s.W hfit _ _ ?_
 refine AWp.loop (σ:=Nat×Wld) ⟨fun x=>[(3,.av (ptr fb)),(5,.bx 5 0),(6,.av (int (x.1:Nat)))],fun x=>[(5,wldC x.2)],fun x S=>x.1<=5/\ytv x.2/\∃k:Nat,FldAny fb (1+n) (k:Nat) S/\k<=x.1*1000000,fun x=>5-x.1⟩ zc ?_ ?_
 ·exact⟨(0,s.W),Tv,⟨Nat.zero_le _,hokW,0,hF,Nat.zero_le _⟩,⟨Tq,Tq,Tq,Tv⟩,⟨rfl,Tv⟩⟩
 clear hF
 rintro⟨i,w⟩ S ⟨hi,⟨⟨hwf,hwn⟩,hwU⟩,k,hF,hk⟩
 dsimp only at hi hwf hwn hwU hk⊢
 refine bcd (fun h1=>?_) (fun h1=>?_)
 rotate_left
 ·refine zov w _ _ ?_
  refine zbh _ _ _ ?_
  refine zgd _ _ ?_
  exact ret rfl
 have hlt:i<5:=by omega
 refine za3 w hwf _ _ ?_
 refine yap hwf hwn hF (by omega) _ (fun hno N' hF'=>?_) (fun hm N' hF'=>?_)
 ·refine zob w hwf hwn _ _ (fun y hy=>?_)
  refine yo ?_
  refine ze (fun c2=>absurd (hy.1 c2) hno) (fun c2=>?_)
  refine zbh _ _ _ ?_
  refine zgd _ _ ?_
  exact ret rfl
 ·have hpl:playW w:=⟨hm,hwn⟩
  obtain⟨hpa,hla⟩:=ynu hpl
  have hra:=fun st2 R2=>zzj w hpl st2 R2
  refine zob w hwf hwn _ _ (fun y hy=>?_)
  refine yo ?_
  refine ze (fun c2=>?_) (fun c2=>absurd (hy.2 hm) (by rw[c2];decide))
  generalize allW w=x at*
  refine hra _ _ ?_
  refine zbh _ _ _ ?_
  have hfx:=(mayF hpa.1).fits
  refine zgs x hfx _ _ ?_
  refine zgs w hwf _ _ ?_
  refine za3 x hfx _ _ ?_
  refine Qd ?_
  exact⟨(i+1,x),(show 5-(i+1)<5-i by omega),⟨hlt,⟨⟨hfx,hpa.2⟩,by dsimp only;omega⟩,_,hF',by dsimp only;omega⟩,⟨Tq,Tq,Tq,Tv⟩,⟨rfl,Tv⟩⟩
theorem zrk(s:Scr24)(hs:s.good)(st:Store)(R:AV->Store->Prop)(h:R (V.bool true) st):ACalls Tryz.prog 10 [.agg (zn5 s)] st R:=
 zwd (zrl s hs) st R fun r hr=>hr▸h
end Go.Proofs
