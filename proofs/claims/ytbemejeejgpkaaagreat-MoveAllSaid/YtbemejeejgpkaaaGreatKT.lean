/- The ground on which laws of thronglaw24 are proved: contracts of functions and plain lemmas; no condition beyond the row's own. -/
import Derived.Test.YtbemejeejgpkaaaGreatKS
import Derived.Test.YtbemejeejgpkaaaGreatKO
import Derived.Test.YtbemejeejgpkaaaGreatKE
import Derived.Test.YtbemejeejgpkaaaGreatKI
import Derived.Test.YtbemejeejgpkaaaGreatKF
set_option linter.unusedSimpArgs false
set_option linter.unusedVariables false
namespace Go.Proofs
open Go Go.V
set_option maxRecDepth 4000
theorem zya{F G:Store}{mb s p:Nat}{w:Wld}{v:AV}{L:List Ent}{o0 o1 o2:AV}(hW:Mover F G mb s p w v L o0 o1 o2)(hmay:mayP w)(hn:∀u∈w.U,u.pos.ok){i:Nat}(hi:i<w.U.length)(h0:w.U[i].inn=0)(R:AV->Store->Prop)
  (h:∀F' G' L' q0 q1 q2,Mover F' G' mb s p (j9 w w.U[i]) v L' q0 q1 q2->R (.tup []) (F'.un (svS G' s (j9 w w.U[i]) v q0 q1 q2 p))):
  ACalls Tryz.prog 44 [ptr mb,.agg (untC w.U[i])] (F.un (svS G s w v o0 o1 o2 p)) R:=by
 unfold j9 at h
 refine Qa (c:=cfg 13) zc Tryz.func44 ?_
 refine bceq (fun c1=>?_) (fun c1=>?_)
 ·rw[if_pos c1]at h
  exact zo6 hW (mayF hmay) hn (fun u hu h1=>zbi hmay hu h1) hi h0 _ (fun F3 G3 L3 a0 a1 a2 hW3=>ret (h F3 G3 L3 a0 a1 a2 hW3))
 ·rw[if_neg c1]at h
  exact ybi hW hmay hn hi h0 c1 _ (fun F3 G3 L3 a0 a1 a2 hW3=>ret (h F3 G3 L3 a0 a1 a2 hW3))
open Classical in
noncomputable def askM(w:Wld)(id:Int):Int:=if mayP w then(match w.U.find? (fun u=>u.id==id)with|none=>3|some u=>if u.inn=0 then 0 else 9)else 1
theorem ynn{w:Wld}{id:Int}(h:¬mayP w):askM w id=1:=by unfold askM;rw[if_neg h]
theorem ybs{l:List Unt}(hr:yh l){i:Nat}(hi:i<l.length):l.find? (fun u=>u.id==l[i].id)=some l[i]:=by
 rw[List.find?_eq_some_iff_getElem]
 refine⟨by simp,i,hi,rfl,fun j hj=>?_⟩
 have:=je hr hj hi
 rw[Bool.not_eq_true',beq_eq_false_iff_ne]
 omega
theorem zsp{w:Wld}(h:mayP w){i:Nat}(hi:i<w.U.length):askM w w.U[i].id=if w.U[i].inn=0 then 0 else 9:=by
 unfold askM
 rw[if_pos h,ybs h.1.2.1 hi]
theorem ycn{w:Wld}{id:Int}(h:mayP w)(hn:∀u∈w.U,u.id≠id):askM w id=3:=by
 unfold askM
 rw[if_pos h,List.find?_eq_none.2 (fun u hu=>by simpa using hn u hu)]
def unt0:List AV:=[int 0,int 0,int 0,int 0,int 0,int 0,int 0,int 0,int 0,int 0]
set_option maxHeartbeats 2000000 in
set_option maxRecDepth 20000 in
theorem zxj(w:Wld)(hw:w.fits)(hn:∀u∈w.U,u.pos.ok)(hT:w.G.T.length<=1000000)(hB:w.B.length<=1000000)(hU:w.U.length<=1000000)(id:Int)(R:AV->Store->Prop)
  (hbad:∀S,askM w id≠0->R (.tup [.s (.pointer none),.agg unt0,int (askM w id)]) S)
  (hok:∀i,(hi:i<w.U.length)->mayP w->w.U[i].id=id->w.U[i].inn=0->∀F G mb s p v L o0 o1 o2,Mover F G mb s p w v L o0 o1 o2->R (.tup [ptr mb,.agg (untC w.U[i]),int 0]) (F.un (svS G s w v o0 o1 o2 p))):
  ACalls Tryz.prog 43 [.agg (wldC w),int id] Store.empty R:=by
 refine Qa (c:=cfg 47 [20] []) zc Tryz.func43 ?_
 refine zt6 w hw hn _ _ (fun z hz=>?_)
 refine yo ?_
 refine ze (fun c1=>?_) (fun c1=>?_)
 rotate_left
 ·have hnm:¬mayP w:=fun hh=>by rw[hz.2 hh]at c1;cases c1
  have e:=ynn (id:=id) hnm
  have:=hbad Store.empty (by rw[e];decide)
  rw[e]at this
  exact ret this
 have hm:=hz.1 c1
 have hr:yh w.U:=hm.1.2.1
 refine zoo w (by omega) (by omega) (by omega) _ (fun v N hu=>?_)
 refine zku w v N hu hU hn _ (fun F s p L o0 o1 o2 hs hS hLl hmem=>?_)
 refine zst rfl (it:=ti127) rfl rfl ?_
 intro mb hmb
 have hnF:¬F.has mb/\¬(svS N s w v o0 o1 o2 p).has mb:=by
  have:=fresh_iff.1 hmb
  exact⟨fun hh=>this (un_has.2 (.inl hh)),fun hh=>this (un_has.2 (.inr hh))⟩
 have hms:mb≠s:=fun e=>hnF.2 (svS_has.2 (.inl e))
 have hmN:¬N.has mb:=fun hh=>hnF.2 (svS_has.2 (.inr hh))
 have hmN0:N.obj mb=none:=(vg hmN).1
 have omb:offB v mb:=zda hu hmN0
 have oms:offB v s:=zda hu hS.hs
 have e0:(F.un (svS N s w v o0 o1 o2 p)).setObj mb (.cells [ptr s,zdn])=F.un (svS (N.setObj mb (.cells [ptr s,zdn])) s w v o0 o1 o2 p):=by
  rw[zi]
  unfold svS
  rw[jt hms]
 have hW:Mover F (N.setObj mb (.cells [ptr s,zdn])) mb s p w v L o0 o1 o2:=
  ⟨⟨hS.hc,fun i h1 h2=>by
    rcases svS_has.1 h2 with h2|h2
    ·exact hS.hd i h1 (svS_has.2 (.inl h2))
    ·rcases has_setObj_iff.1 h2 with h2|h2
     ·subst h2;exact hnF.1 h1
     ·exact hS.hd i h1 (svS_has.2 (.inr h2)),by rw[zd (Ne.symm hms)];exact hS.hs,hu.set omb _,hS.h0,hS.h1,hS.h2⟩,zb _ _ _,omb,oms,hLl,hmem hr⟩
 have e1:(F.un (svS N s w v o0 o1 o2 p)).setObj mb (AObj.cells [AV.s (Value.pointer (some {block:=s,off:=0})),AV.s (Value.iface 147 (Value.agg #[]))])=F.un (svS (N.setObj mb (.cells [ptr s,zdn])) s w v o0 o1 o2 p):=e0
 refine zm5 w.U (by omega) hr id _ _ (fun i hi z hz2=>?_)
 rw[e1]
 refine yo ?_
 refine ze (fun c2=>?_) (fun c2=>?_)
 rotate_left
 ·have e:=ycn (id:=id) hm (fun u hu' e=>by
   obtain⟨j,hj,rfl⟩:=List.getElem_of_mem hu'
   have hij:i=j:=by
    by_cases h1:j<i
    ·have:=hi.2.1 j hj h1;omega
    ·by_cases h2:i<j
     ·have h3:=hi.2.2 i (by omega) (Nat.le_refl _)
      have:=je hr h2 hj
      omega
     ·omega
   subst hij
   rw[hz2.2 ⟨hj,e⟩]at c2
   cases c2)
  have:=hbad (F.un (svS (N.setObj mb (.cells [ptr s,zdn])) s w v o0 o1 o2 p)) (by rw[e];decide)
  rw[e]at this
  exact ret this
 obtain⟨hil,hid⟩:=hz2.1 c2
 have e:=zsp hm hil
 rw[hid]at e
 refine⟨i,rfl,za _ (zj hil) ?_⟩
 refine bcne (fun c3=>?_) (fun c3=>?_)
 ·rw[if_neg c3]at e
  have:=hbad (F.un (svS (N.setObj mb (.cells [ptr s,zdn])) s w v o0 o1 o2 p)) (by rw[e];decide)
  rw[e]at this
  exact ret this
 refine Qc zc yry ?_
 refine⟨i,rfl,za _ (zj hil) ?_⟩
 refine⟨⟨(by repeat(first|exact Tv|refine⟨rfl,?_⟩|refine⟨⟨i,rfl,za _ (zj hil) rfl⟩,?_⟩)),⟨⟨Tv,⟨⟨Tv,?_⟩,Tv⟩⟩,Tv⟩⟩,Tv⟩
 exact ret (hok i hil hm hid c3 F (N.setObj mb (.cells [ptr s,zdn])) mb s p v L o0 o1 o2 hW)
def wld0:List AV:=[int 0,int 0,int 0,int 0,int 0,nil,nil,nil]
open Classical in
noncomputable def zls(w:Wld)(id:Int):Wld:=match w.U.find? (fun u=>u.id==id)with|none=>w|some u=>j9 w u
theorem zs3{w:Wld}(hr:yh w.U){i:Nat}(hi:i<w.U.length):zls w w.U[i].id=j9 w w.U[i]:=by
 unfold zls
 rw[ybs hr hi]
set_option maxHeartbeats 2000000 in
theorem yag(w:Wld)(hw:w.fits)(hn:∀u∈w.U,u.pos.ok)(hT:w.G.T.length<=1000000)(hB:w.B.length<=1000000)(hU:w.U.length<=1000000)(id:Int)(R:AV->Store->Prop)
  (hbad:∀S,askM w id≠0->R (.tup [.agg wld0,int (askM w id)]) S)
  (hok:∀S v,askM w id=0->RowsQ 10 untC S v (zls w id).U->R (.tup [.agg (wldV (zls w id) v),int 0]) S):
  ACalls Tryz.prog 15 [.agg (wldC w),int id] Store.empty R:=by
 refine Qa (c:=cfg 30) zc Tryz.func15 ?_
 refine zxj w hw hn hT hB hU id _ (fun S he=>?_) (fun i hi hm hid h0 F G mb s p v L o0 o1 o2 hW=>?_)
 ·refine bcne (fun c1=>?_) (fun c1=>absurd c1 he)
  exact ret (hbad S he)
 have e:=zsp hm hi
 rw[if_pos h0,hid]at e
 have e2:=zs3 (w:=w) hm.1.2.1 hi
 rw[hid]at e2
 rw[e2]at hok
 refine zya hW hm hn hi h0 _ (fun F' G' L' q0 q1 q2 hW2=>?_)
 generalize j9 w w.U[i]=w2 at*
 obtain⟨oa,cap,ev,_⟩:=hW2.S.hu.form
 subst ev
 refine za (o:=(F'.un (svS G' s w2 _ q0 q1 q2 p)).obj mb) _ hW2.m ?_
 refine za (o:=(F'.un (svS G' s w2 _ q0 q1 q2 p)).obj s) _ hW2.s ?_
 exact ret (hok _ _ e (zg7 hW2.S.hs hW2.S.hu).un)
theorem yah(w:Wld)(hw:w.fits)(hn:∀u∈w.U,u.pos.ok)(hT:w.G.T.length<=1000000)(hB:w.B.length<=1000000)(hU:w.U.length<=1000000)(id:Int):
  ACalls Tryz.prog 15 [.agg (wldC w),int id] Store.empty fun r _=>(askM w id≠0/\r=.tup [.agg wld0,int (askM w id)])\/(askM w id=0/\r=.tup [.agg (wldC (zls w id)),int 0]):=by
 refine(yag w hw hn hT hB hU id (fun r S=>(askM w id≠0/\r=.tup [.agg wld0,int (askM w id)])\/(askM w id=0/\∃v,RowsQ 10 untC S v (zls w id).U/\r=.tup [.agg (wldV (zls w id) v),int 0])) (fun S he=>.inl ⟨he,rfl⟩) (fun S v he hv=>.inr ⟨he,v,hv,rfl⟩)).frozen ?_
 rintro r S (⟨he,rfl⟩|⟨he,v,hv,rfl⟩)
 ·exact⟨_,.inl ⟨he,rfl⟩,fun Oth M W x sto hx=>z8 hx⟩
 ·refine⟨_,.inr ⟨he,rfl⟩,fun Oth M W x sto hx=>?_⟩
  cases hx with
  |tup _ c hl hc=>
   refine .tup _ c hl fun i y z hy hz=>?_
   match i with
   |0=>simp only[List.getElem?_cons_zero,Option.some.injEq]at hy;subst hy;exact k6 hv sto (hc 0 _ z rfl hz)
   |1=>simp only[List.getElem?_cons_succ,List.getElem?_cons_zero,Option.some.injEq]at hy;subst hy;exact z8 (hc 1 _ z rfl hz)
   |i+2=>simp at hy
theorem zv6(w:Wld)(hw:w.fits)(hn:∀u∈w.U,u.pos.ok)(hT:w.G.T.length<=1000000)(hB:w.B.length<=1000000)(hU:w.U.length<=1000000)(id:Int)(st:Store)(R:AV->Store->Prop)
  (hbad:askM w id≠0->R (.tup [.agg wld0,int (askM w id)]) st) (hok:askM w id=0->R (.tup [.agg (wldC (zls w id)),int 0]) st):
  ACalls Tryz.prog 15 [.agg (wldC w),int id] st R:=
 zwd (yah w hw hn hT hB hU id) st R fun r hr=>by
  rcases hr with⟨he,rfl⟩|⟨he,rfl⟩
  ·exact hbad he
  ·exact hok he
theorem zbh(e:Int)(st:Store)(R:AV->Store->Prop)(h:R (int e) st):ACalls Tryz.prog 16 [int e] st R:=by
 refine Qa (c:=cfg 4) zc Tryz.func16 ?_
 exact ret h
theorem yol{n:Nat}(hn:n<6):∃h0:0<(wkS n).U.length,(wkS n).U[0]=oneU (wkS n):=by
 have e:=(zgc n hn).1
 have h0:0<(wkS n).U.length:=by rw[e];exact Nat.zero_lt_one
 refine⟨h0,?_⟩
 simp only[e]
 rfl
theorem ys9{n:Nat}(hn:n<6):askM (wkS n) 1=0:=by
 obtain⟨h0,e⟩:=yol hn
 obtain⟨_,h1,h2,_⟩:=zgc n hn
 have:=zsp (zsw n hn) h0
 rw[e,h1,if_pos h2]at this
 exact this
theorem yuj{n:Nat}(hn:n<5):zls (wkS n) 1=wkS (n+1):=by
 obtain⟨h0,e⟩:=yol (n:=n) (by omega)
 obtain⟨_,h1,_⟩:=zgc n (by omega)
 have:=zs3 (zsw n (by omega)).1.2.1 h0
 rw[e,h1,yoj hn]at this
 exact this
theorem ys5{n:Nat}(hn:n<6):∀u∈(wkS n).U,u.pos.ok:=fun u hu=>by
 obtain⟨_,h1,h2,h3,_⟩:=zgc n hn
 have hu2:u.inn=0:=by
  rw[(zgc n hn).1]at hu
  simp at hu
  rw[hu]
  exact h2
 exact qz (zbi (zsw n hn) hu hu2)
theorem zp6(g:Gnd)(hg:gndP g)(t:Nat)(ht:t<g.T.length)(tI:Int)(htI:tI=(t:Int)){x:Vc}(hx:cenV g t=x)(st:Store)(R:AV->Store->Prop)(h:R (.agg (vecC x)) st):ACalls Tryz.prog 28 [.agg (gndC g),int tI] st R:=
 vk g hg t ht tI htI st R (hx▸h)
def wldB(w:Wld)(b:AV):List AV:=[int w.tick,int w.players,int w.next,int w.G.W,int w.G.H,byts w.G.T,b,lst 10 untC w.U]
theorem yoi{w:Wld}{b:AV}(hb:AV.le b (lst 6 bldC w.B)):AV.le (.agg (wldB w b)) (.agg (wldC w)):=
 AV.le_aggL ⟨Tt,Tt,Tt,Tt,Tt,Tt,hb,Tt,Tv⟩
set_option maxHeartbeats 2000000 in
set_option maxRecDepth 20000 in
theorem zgd(st:Store)(R:AV->Store->Prop)(h:R (V.bool true) st):ACalls Tryz.prog 19 [] st R:=by
 refine Qb (c:=cfg 50) zc Tryz.func19 ?_
 refine AWp.seq (AWp.of_vc zc ?_)
 refine AWp.seq (AWp.of_vc zc ?_)
 refine qr rfl (it:=ti22) (ie:=ti5) rfl rfl rfl rfl rfl (n:=2) (by decide) (by decide) (fun b hf=>?_)
 refine AWp.freezeBx (d:=1) (j:=5) (b:=b) (n:=2) (cap:=2) (k:=1) (rows:=rws u8C wkG.T) (pad:=[]) rfl rfl (zb _ _ _) hf.2 rfl (Nat.le_refl _) ?_ ?_ ?_
 ·intro row hr
  obtain⟨x,_,rfl⟩:=List.mem_map.1 hr
  rfl
 ·intro row hr y hy
  obtain⟨x,_,rfl⟩:=List.mem_map.1 hr
  simp[u8C,u8]at hy
  exact⟨_,hy,rfl⟩
 rw[jc hf.1]
 refine AWp.of_vc zc ?_
 refine zp6 wkG ynv 0 (by decide) 0 rfl ys8 _ _ ?_
 refine⟨by decide,?_⟩
 refine AWp.loop (σ:=Nat×AV) ⟨fun x=>[(1,.bx 1 0),(2,.av (int (x.1:Nat)))],fun x=>[(1,wldB (wkS x.1) x.2)],
  fun x st'=>x.1<=5/\st'=st/\AV.le x.2 (lst 6 bldC (wkS x.1).B),fun x=>5-x.1⟩ zc ?_ ?_
 ·exact⟨(0,nil),Tv,⟨Nat.zero_le _,rfl,AV.le_nil 6⟩,⟨Tq,Tq,Tv⟩,⟨rfl,Tv⟩⟩
 rintro⟨i,bv⟩ st' ⟨hi,rfl,hb⟩
 dsimp only at hi hb⊢
 refine bcd (fun c1=>?_) (fun c1=>?_)
 ·have hi5:i<5:=by omega
  obtain⟨u1,u2,u3,u4,u5⟩:=zgc i (by omega)
  obtain⟨v1,v2,v3,v4,v5⟩:=zgc (i+1) (by omega)
  refine ACalls.le (show leL [.agg (wldB (wkS i) bv),int 1] [.agg (wldC (wkS i)),int 1]from⟨yoi hb,Tt,Tv⟩) (zv6 (wkS i) (mayF (zsw i (by omega))).fits (ys5 (by omega)) (by rw[u4];decide) (by rw[u5];decide) (by rw[u1];exact(by decide:1<=1000000)) 1 _ _ (fun he=>absurd (ys9 (by omega)) he) (fun _=>?_))
  rw[yuj hi5]
  refine zbh _ _ _ ?_
  refine bcne (fun c2=>absurd (show((rws untC (wkS (i+1)).U).length:Int)=1 by rw[zk,v1];rfl) c2) (fun c2=>?_)
  refine Qd ?_
  refine⟨(i+1,lst 6 bldC (wkS (i+1)).B),?_,⟨by dsimp only;omega,rfl,Tt⟩,⟨Tq,Tq,Tv⟩,⟨rfl,Tv⟩⟩
  show 5-(i+1)<5-i
  omega
 have:i=5:=by omega
 subst this
 obtain⟨h0,e0⟩:=yol (n:=5) (by decide)
 obtain⟨e1,e2⟩:=ys7
 obtain⟨u1,u2,u3,u4,u5⟩:=zgc 5 (by omega)
 refine Qc zc yk3 ?_
 refine⟨0,rfl,za _ (zj h0) ?_⟩
 refine⟨zp6 (wkS 5).G (u4▸ynv) 1 (by rw[u4];decide) 1 rfl rfl _ _ ⟨Qe,?_⟩,Tv⟩
 have hp:(wkS 5).U[0].pos=cenV (wkS 5).G 1:=by rw[e0,u4];exact e1
 have hs:(wkS 5).U[0].state=2:=by rw[e0];exact e2
 refine⟨0,rfl,za _ (zj h0) ?_⟩
 exact⟨⟨Tv,ret h⟩,Tv⟩
set_option maxRecDepth 20000 in
theorem zo8(a:Scr24)(st:Store)(R:AV->Store->Prop)(h:∀z:Bool,(z=true↔zhc a)->R (bool z) st):ACalls Tryz.prog 12 [.agg (zn5 a)] st R:=by
 refine Qa (c:=cfg 18) zc Tryz.func12 ?_
 repeat' (first|refine bcd (fun _=>?_) (fun _=>?_)|refine ze (fun _=>?_) (fun _=>?_)|refine Qd ?_|(refine ziw a.W _ _ ?_;rintro(_|_) hz)|fail)
 all_goals
  refine ret (h _ ?_)
  simp only[decide_eq_true_eq,decide_eq_false_iff_not,Bool.false_eq_true,false_iff,true_iff,beq_iff_eq,bne_iff_ne,beq_eq_false_iff_ne,ne_eq,reduceCtorEq,zk,zhc,zpd]at*
  omega
end Go.Proofs
namespace Go.Proofs
open Go Go.V
set_option maxRecDepth 4000
theorem zl6(w:Wld)(hw:playW w)(id k:Int)(hk:zca k)(q:Vc)(hq:q.ok)(st:Store)(R:AV->Store->Prop)
  (h:∀z:Bool,(z=true↔yv w id k q)->R (V.bool z) st):ACalls Tryz.prog 33 [.agg (wldC w),int id,int k,.agg (vecC q)] st R:=by
 have f:=mayF hw.1
 have hB:=f.hB
 have hU:=f.hU
 refine Qa (c:=cfg 14) zc Tryz.func33 ?_
 exact zih w f.hg (by omega) f.hb (by omega) hw.2 f.hk id k hk q hq _ _ fun z hz=>ret (h z hz)
theorem zod(w:Wld)(hU:w.U.length<=1000000)(id:Int)(st:Store)(R:AV->Store->Prop)(h:R (int (idxI (zi2 w.U id))) st):ACalls Tryz.prog 29 [.agg (wldC w),int id] st R:=zkp w hU id st R h
theorem zq6(w:Wld)(hw:playW w){i:Nat}(hi:i<w.U.length)(id:Int)(hid:w.U[i].id=id)(st:Store)(R:AV->Store->Prop)(h:R (int (i:Nat)) st):ACalls Tryz.prog 29 [.agg (wldC w),int id] st R:=
 zod w hw.sizes.2.2 id st R (by rw[ym9 hw.1.1.2.1 hi hid];exact h)
end Go.Proofs
