/- The ground on which laws of thronglaw24 are proved: contracts of functions and plain lemmas; no condition beyond the row's own. -/
import Derived.KernelRfl
import Derived.Test.YtbemejeejgpkaaaGreatKP
import Derived.Test.YtbemejeejgpkaaaGreatKF
import Derived.Test.YtbemejeejgpkaaaGreatKS
set_option linter.unusedSimpArgs false
set_option linter.unusedVariables false
namespace Go.Proofs
open Go Go.V
set_option maxRecDepth 4000
def fldV(fb:Nat):AV:=.s (.iface 69 (.pointer (some ⟨fb,0,none⟩)))
theorem zr1 : zgj Tryz.prog 69 "Net" 264 true = true := by kernel_rfl
theorem zpj : zgj Tryz.prog 69 "Ways" 265 true = true := by kernel_rfl
theorem zw0 (fb : Nat) : Meets Tryz.prog 69 (.pointer (some ⟨fb, 0, none⟩)) "Net" 264 (ptr fb) := Meets.ptrB zr1 fun w T => .s _
theorem zrz (fb : Nat) : Meets Tryz.prog 69 (.pointer (some ⟨fb, 0, none⟩)) "Ways" 265 (ptr fb) := Meets.ptrB zpj fun w T => .s _
theorem un_comm{a g:Store}(hd:Disj a g):a.un g=g.un a:=by
 show Store.mk _ _=Store.mk _ _
 congr 1
 ·funext i
  show(match g.obj i with|some x=>some x|none=>a.obj i)=match a.obj i with|some x=>some x|none=>g.obj i
  cases h1:a.obj i with
  |none=>cases g.obj i<;>rfl
  |some x=>rw[(vg (hd i (yw h1))).1]
 ·funext i
  show(match g.tok i with|some x=>some x|none=>a.tok i)=match a.tok i with|some x=>some x|none=>g.tok i
  cases h1:a.tok i with
  |none=>cases g.tok i<;>rfl
  |some x=>rw[(vg (hd i (zbt h1))).2]
theorem zde{a g:Store}(h:Disj a g):Disj g a:=fun b h1 h2=>h b h2 h1
structure GuideK(K:Nat->Store->Prop)(fb M:Nat)(w:Wld):Prop where
 net:∀{n:Nat} {N:Store} {c s:Int},K n N->(c=0\/c=1\/c=2)->(0<=s/\s<=3)->∀R:AV->Store->Prop,(∀b N',K n N'->N'.obj b=some (.cells (netC w.G w.B c s))->R (ptr b) N')->
  ACalls Tryz.prog 264 [ptr fb,.agg (gndC w.G),lst 6 bldC w.B,int c,int s] N R
 ways:∀{n:Nat} {N:Store} {c s:Int},K n N->n<M->(c=0\/c=1\/c=2)->(0<=s/\s<=3)->∀goal:Nat,goal<w.G.T.length->∀R:AV->Store->Prop,
  (∀b N',K (n+1) N'->N'.obj b=some (.cells (il w.G.T.length (wayF w.G (zl w.G w.B c s) c (farF w.G (zl w.G w.B c s) c goal))))->R (.s (.slice (some ⟨b,0,none⟩) w.G.T.length w.G.T.length)) N')->
  ACalls Tryz.prog 265 [ptr fb,.agg (gndC w.G),lst 6 bldC w.B,int c,int s,int (goal:Nat)] N R
theorem GuideK.netX{K:Nat->Store->Prop}{fb M n:Nat}{w:Wld}(hG:GuideK K fb M w){X N:Store}(hd:Disj X N)(hK:K n N){c s:Int}(hc:c=0\/c=1\/c=2)(hs:0<=s/\s<=3)(R:AV->Store->Prop)
  (h:∀b N2,Disj X N2->K n N2->N2.obj b=some (.cells (netC w.G w.B c s))->R (ptr b) (X.un N2)):ACalls Tryz.prog 264 [ptr fb,.agg (gndC w.G),lst 6 bldC w.B,int c,int s] (X.un N) R:=by
 rw[un_comm hd]
 refine ACalls.frame (zde hd) (hG.net hK hc hs (fun r S=>∃b,r=ptr b/\K n S/\S.obj b=some (.cells (netC w.G w.B c s))) (fun b N' h1 h2=>⟨b,rfl,h1,h2⟩)) ?_
 rintro r a' ⟨b,rfl,h1,h2⟩ hd2
 rw[un_comm hd2]
 exact h b a' (zde hd2) h1 h2
theorem GuideK.waysX{K:Nat->Store->Prop}{fb M n:Nat}{w:Wld}(hG:GuideK K fb M w){X N:Store}(hd:Disj X N)(hK:K n N)(hn:n<M){c s:Int}(hc:c=0\/c=1\/c=2)(hs:0<=s/\s<=3)(goal:Nat)(hgo:goal<w.G.T.length)(R:AV->Store->Prop)
  (h:∀b N2,Disj X N2->K (n+1) N2->N2.obj b=some (.cells (il w.G.T.length (wayF w.G (zl w.G w.B c s) c (farF w.G (zl w.G w.B c s) c goal))))->R (.s (.slice (some ⟨b,0,none⟩) w.G.T.length w.G.T.length)) (X.un N2)):
  ACalls Tryz.prog 265 [ptr fb,.agg (gndC w.G),lst 6 bldC w.B,int c,int s,int (goal:Nat)] (X.un N) R:=by
 rw[un_comm hd]
 refine ACalls.frame (zde hd) (hG.ways hK hn hc hs goal hgo (fun r S=>∃b,r=.s (.slice (some ⟨b,0,none⟩) w.G.T.length w.G.T.length)/\K (n+1) S/\S.obj b=some (.cells (il w.G.T.length (wayF w.G (zl w.G w.B c s) c (farF w.G (zl w.G w.B c s) c goal))))) (fun b N' h1 h2=>⟨b,rfl,h1,h2⟩)) ?_
 rintro r a' ⟨b,rfl,h1,h2⟩ hd2
 rw[un_comm hd2]
 exact h b a' (zde hd2) h1 h2
set_option maxHeartbeats 4000000 in
set_option maxRecDepth 20000 in
theorem zrp{K:Nat->Store->Prop}{fb M n:Nat}{w:Wld}(hG:GuideK K fb M w){X N:Store}(hd:Disj X N)(hK:K n N){mb s p:Nat}{v o0 o1 o2:AV}(hmbX:X.obj mb=some (.cells [ptr s,fldV fb]))(hsX:X.obj s=some (.cells (svC w v o0 o1 o2 p)))(hm:MayF w)(u:Unt)(hnx:u.next=-1\/∃t:Nat,u.next=t/\t<w.G.T.length)(own:Nat)(ho:own<w.G.T.length)(R:AV->Store->Prop)
  (h:∀N2,Disj X N2->K n N2->R (V.bool (xq w u own)) (X.un N2)):ACalls Tryz.prog 144 [ptr mb,.agg (untC u),int (own:Nat)] (X.un N) R:=by
 obtain⟨S,hSe⟩:∃S,X.un N=S:=⟨_,rfl⟩
 have hmb:S.obj mb=some (.cells [ptr s,fldV fb]):=hSe▸un_l hd hmbX
 have hs:S.obj s=some (.cells (svC w v o0 o1 o2 p)):=hSe▸un_l hd hsX
 rw[hSe]
 have hB:=hm.hB
 unfold xq okU at h
 refine Qb (c:=cfg 77 [9] []) zc Tryz.func144 ?_
 refine AWp.seq (AWp.of_vc zc ?_)
 refine AWp.meet (σ:=Unit) ⟨fun _=>[(0,.av (ptr mb)),(2,.av (int (own:Nat))),(4,.bx 4 0),(7,.bx 7 0),(8,.bx 8 0)],fun _=>[(4,untC u),(7,gndC w.G),(8,zd0 u.kind)],fun _ st'=>st'=S⟩ zc ?_ ?_
 ·refine Qc zc ztn ?_
  refine za (o:=S.obj mb) _ hmb ?_
  refine za (o:=S.obj s) _ hs ?_
  exact⟨zq _ _ _ ⟨Qe,⟨⟨Qe,⟨⟨Qe,⟨⟨Tv,⟨⟨Tv,⟨(),rfl,⟨Tq,Tq,Tq,Tq,Tq,Tv⟩,⟨rfl,rfl,rfl,Tv⟩⟩⟩,Tv⟩⟩,Tv⟩⟩,Tv⟩⟩,⟨⟨Qe,⟨⟨Qe,⟨⟨Tv,⟨⟨Tv,⟨(),rfl,⟨Tq,Tq,Tq,Tq,Tq,Tv⟩,⟨rfl,rfl,rfl,Tv⟩⟩⟩,Tv⟩⟩,Tv⟩⟩,Tv⟩⟩,Tv⟩⟩⟩,⟨⟨Qe,⟨zq _ _ _ ⟨Qe,⟨⟨Qe,⟨⟨Tv,⟨⟨Tv,⟨(),rfl,⟨Tq,Tq,Tq,Tq,Tq,Tv⟩,⟨rfl,rfl,rfl,Tv⟩⟩⟩,Tv⟩⟩,Tv⟩⟩,Tv⟩⟩,⟨⟨Qe,⟨zq _ _ _ ⟨Qe,⟨⟨Tv,⟨⟨Tv,⟨(),rfl,⟨Tq,Tq,Tq,Tq,Tq,Tv⟩,⟨rfl,rfl,rfl,Tv⟩⟩⟩,Tv⟩⟩,Tv⟩⟩,Tv⟩⟩,Tv⟩⟩⟩,⟨⟨Qe,⟨zq _ _ _ ⟨Qe,⟨⟨Qe,⟨⟨Tv,⟨⟨Tv,⟨(),rfl,⟨Tq,Tq,Tq,Tq,Tq,Tv⟩,⟨rfl,rfl,rfl,Tv⟩⟩⟩,Tv⟩⟩,Tv⟩⟩,Tv⟩⟩,⟨⟨Qe,⟨zq _ _ _ ⟨Qe,⟨⟨Tv,⟨⟨Tv,⟨(),rfl,⟨Tq,Tq,Tq,Tq,Tq,Tv⟩,⟨rfl,rfl,rfl,Tv⟩⟩⟩,Tv⟩⟩,Tv⟩⟩,Tv⟩⟩,Tv⟩⟩⟩,Tv⟩⟩⟩
 rintro _ st' rfl
 refine AWp.of_vc zc ?_
 have hk:=zf0 u.kind
 refine Qc zc ztm ?_
 refine bceq (fun c1=>?_) (fun c1=>?_)
 ·refine⟨⟨Qe,?_⟩,Tv⟩
  refine⟨⟨Qe,?_⟩,Tv⟩
  rw[decide_eq_true c1]at h
  have h0:=h N hd hK
  rw[hSe]at h0
  exact ret h0
 obtain⟨t,ht,htl⟩:∃t:Nat,u.next=t/\t<w.G.T.length:=by
  rcases hnx with h1|h1
  ·exact absurd h1 c1
  ·exact h1
 rw[decide_eq_false c1,ht,Int.toNat_natCast]at h
 refine⟨zcm w.G hm.hg t htl u.next ht _ _ ⟨Qe,?_⟩,Tv⟩
 refine ze (fun c2=>?_) (fun c2=>?_)
 ·refine⟨⟨Qe,?_⟩,Tv⟩
  have e:u.pos=cenV w.G t:=by
   simp only[Bool.and_eq_true,beq_iff_eq]at c2
   exact Prod.ext c2.1 c2.2.1
  rw[decide_eq_true e]at h
  have h0:=h N hd hK
  rw[hSe]at h0
  exact ret h0
 have e:¬u.pos=cenV w.G t:=fun e=>by
  simp only[e,Bool.and_eq_false_iff,beq_eq_false_iff_ne]at c2
  rcases c2 with c2|c2|c2
  ·exact c2 rfl
  ·exact c2 rfl
  ·cases c2
 rw[decide_eq_false e]at h
 refine za (o:=st'.obj mb) _ hmb ?_
 refine za (o:=st'.obj mb) _ hmb ?_
 refine za (o:=st'.obj s) _ hs ?_
 subst hSe
 refine⟨⟨_,_,zw0 fb,hG.netX hd hK (zis u.kind) hk _ (fun b N2 hd2 hK2 hb2=>⟨Qe,?_⟩)⟩,Tv⟩
 have hmb2:(X.un N2).obj b=some (.cells (netC w.G w.B (kCls u.kind) (yy u.kind))):=un_r hb2
 have h0:=h N2 hd2 hK2
 generalize X.un N2=S2 at*
 refine za (o:=S2.obj b) _ hmb2 ?_
 have htl2:t<(blL w.G.T.length (zl w.G w.B (kCls u.kind) (yy u.kind))).length:=by rw[yu];exact htl
 refine⟨t,ht,za _ (zj htl2) ?_⟩
 rw[jy htl]
 refine yo ?_
 refine ze (fun c3=>?_) (fun c3=>?_)
 rotate_left
 ·rw[c3]at h0
  exact ret h0
 rw[c3]at h0
 refine vl w.G hm.hg own ho _ _ ?_
 intro b9 hf9
 have e9:zo (List.replicate 8 (int 0)) 0 (il 8 (besN w.G own))=il 8 (besN w.G own):=by
  unfold zo
  rw[yz]
  simp
 refine yk (i:=ti153) (v:=besV w.G own) (xs:=il 8 (besN w.G own)) (l:=List.replicate 8 (int 0)) rfl rfl rfl (zb _ _ _) (by rw[yz,List.length_replicate];decide) ?_
 rw[e9,zg]
 have h9:(S2.setObj b9 (.cells (il 8 (besN w.G own)))).obj b9=some (.cells (il 8 (besN w.G own))):=zb _ _ _
 have hback2:(S2.setObj b9 (.cells (il 8 (besN w.G own)))).Has S2:=qi hf9.1
 generalize S2.setObj b9 (.cells (il 8 (besN w.G own)))=S3 at*
 rw[zt0]at h0
 refine Qc zc ztl ?_
 refine bcne (fun c4=>?_) (fun c4=>?_)
 rotate_left
 ·refine⟨⟨Qe,?_⟩,Tv⟩
  refine⟨⟨Tv,?_⟩,Tv⟩
  rw[decide_eq_false (fun hh=>hh (ht.symm.trans c4))]at h0
  exact kx (Tt) hback2 h0
 refine⟨zdr h9 (by decide) u.next _ ⟨Qe,?_⟩,Tv⟩
 refine⟨⟨Tv,?_⟩,Tv⟩
 rw[decide_eq_true (show(t:Int)≠(own:Int)from fun hh=>c4 (ht.trans hh))]at h0
 rw[ht]
 exact kx (Tt) hback2 h0
set_option maxHeartbeats 4000000 in
set_option maxRecDepth 20000 in
theorem zv4{K:Nat->Store->Prop}{fb M n:Nat}{w:Wld}(hG:GuideK K fb M w)(hnM:n<M){X N:Store}(hd:Disj X N)(hK:K n N){mb s p:Nat}{v o0 o1 o2:AV}(hmbX:X.obj mb=some (.cells [ptr s,fldV fb]))(hsX:X.obj s=some (.cells (svC w v o0 o1 o2 p)))(hm:MayF w)(u:Unt)(goal:Nat)(hgo:u.goal=goal)(hgl:goal<w.G.T.length)(own:Nat)(ho:own<w.G.T.length)(R:AV->Store->Prop)
  (h:∀n2 N2,n2<=n+1->Disj X N2->K n2 N2->R (int (wg w u own)) (X.un N2)):ACalls Tryz.prog 145 [ptr mb,.agg (untC u),int (own:Nat)] (X.un N) R:=by
 obtain⟨S,hSe⟩:∃S,X.un N=S:=⟨_,rfl⟩
 have hmb:S.obj mb=some (.cells [ptr s,fldV fb]):=hSe▸un_l hd hmbX
 have hs:S.obj s=some (.cells (svC w v o0 o1 o2 p)):=hSe▸un_l hd hsX
 rw[hSe]
 have hB:=hm.hB
 unfold wg okU at h
 have hk:=zf0 u.kind
 rw[hgo,Int.toNat_natCast]at h
 refine Qb (c:=cfg 60) zc Tryz.func145 ?_
 refine AWp.seq (AWp.of_vc zc ?_)
 refine AWp.meet (σ:=Unit) ⟨fun _=>[(0,.av (ptr mb)),(2,.av (int (own:Nat))),(4,.bx 4 0),(7,.bx 7 0),(8,.bx 8 0)],fun _=>[(4,untC u),(7,gndC w.G),(8,zd0 u.kind)],fun _ st'=>st'=S⟩ zc ?_ ?_
 ·refine Qc zc ztk ?_
  refine za (o:=S.obj mb) _ hmb ?_
  refine za (o:=S.obj s) _ hs ?_
  exact⟨zq _ _ _ ⟨Qe,⟨⟨Qe,⟨⟨Qe,⟨⟨Tv,⟨⟨Tv,⟨(),rfl,⟨Tq,Tq,Tq,Tq,Tq,Tv⟩,⟨rfl,rfl,rfl,Tv⟩⟩⟩,Tv⟩⟩,Tv⟩⟩,Tv⟩⟩,⟨⟨Qe,⟨⟨Qe,⟨⟨Tv,⟨⟨Tv,⟨(),rfl,⟨Tq,Tq,Tq,Tq,Tq,Tv⟩,⟨rfl,rfl,rfl,Tv⟩⟩⟩,Tv⟩⟩,Tv⟩⟩,Tv⟩⟩,Tv⟩⟩⟩,⟨⟨Qe,⟨zq _ _ _ ⟨Qe,⟨⟨Qe,⟨⟨Tv,⟨⟨Tv,⟨(),rfl,⟨Tq,Tq,Tq,Tq,Tq,Tv⟩,⟨rfl,rfl,rfl,Tv⟩⟩⟩,Tv⟩⟩,Tv⟩⟩,Tv⟩⟩,⟨⟨Qe,⟨zq _ _ _ ⟨Qe,⟨⟨Tv,⟨⟨Tv,⟨(),rfl,⟨Tq,Tq,Tq,Tq,Tq,Tv⟩,⟨rfl,rfl,rfl,Tv⟩⟩⟩,Tv⟩⟩,Tv⟩⟩,Tv⟩⟩,Tv⟩⟩⟩,⟨⟨Qe,⟨zq _ _ _ ⟨Qe,⟨⟨Qe,⟨⟨Tv,⟨⟨Tv,⟨(),rfl,⟨Tq,Tq,Tq,Tq,Tq,Tv⟩,⟨rfl,rfl,rfl,Tv⟩⟩⟩,Tv⟩⟩,Tv⟩⟩,Tv⟩⟩,⟨⟨Qe,⟨zq _ _ _ ⟨Qe,⟨⟨Tv,⟨⟨Tv,⟨(),rfl,⟨Tq,Tq,Tq,Tq,Tq,Tv⟩,⟨rfl,rfl,rfl,Tv⟩⟩⟩,Tv⟩⟩,Tv⟩⟩,Tv⟩⟩,Tv⟩⟩⟩,Tv⟩⟩⟩
 rintro _ st' rfl
 refine AWp.of_vc zc ?_
 refine Qc zc ztj ?_
 refine⟨zcm w.G hm.hg own ho (own:Nat) rfl _ _ ⟨Qe,?_⟩,Tv⟩
 refine yo ?_
 refine ze (fun c2=>?_) (fun c2=>?_)
 rotate_left
 ·have e:u.pos≠cenV w.G own:=fun e=>by
   simp only[e,Bool.and_eq_false_iff,beq_eq_false_iff_ne]at c2
   rcases c2 with c2|c2|c2
   ·exact c2 rfl
   ·exact c2 rfl
   ·cases c2
  rw[if_pos e]at h
  have h0:=h n N (Nat.le_succ n) hd hK
  rw[hSe]at h0
  exact ret h0
 have e:¬u.pos≠cenV w.G own:=fun e=>e (by
  simp only[Bool.and_eq_true,beq_iff_eq]at c2
  exact Prod.ext c2.1 c2.2.1)
 rw[if_neg e]at h
 dsimp only at h
 refine Qc zc zti ?_
 refine za (o:=st'.obj mb) _ hmb ?_
 refine za (o:=st'.obj mb) _ hmb ?_
 refine za (o:=st'.obj s) _ hs ?_
 refine⟨⟨_,_,zrz fb,?_⟩,Tv⟩
 show ACalls _ _ [_,_,_,_,_,int u.goal] _ _
 rw[hgo]
 subst hSe
 refine hG.waysX hd hK hnM (zis u.kind) hk goal hgl _ (fun b N2 hd2 hK2 hb2=>⟨Qe,?_⟩)
 have hmb2:(X.un N2).obj b=some (.cells (il w.G.T.length (wayF w.G (zl w.G w.B (kCls u.kind) (yy u.kind)) (kCls u.kind) (farF w.G (zl w.G w.B (kCls u.kind) (yy u.kind)) (kCls u.kind) goal)))):=un_r hb2
 have h0:=h (n+1) N2 (Nat.le_refl _) hd2 hK2
 generalize X.un N2=S2 at*
 have hway:=zx3 w.G (zl w.G w.B (kCls u.kind) (yy u.kind)) (kCls u.kind) (farF w.G (zl w.G w.B (kCls u.kind) (yy u.kind)) (kCls u.kind) goal) own
 have hhd:=qc (f:=wayF w.G (zl w.G w.B (kCls u.kind) (yy u.kind)) (kCls u.kind) (farF w.G (zl w.G w.B (kCls u.kind) (yy u.kind)) (kCls u.kind) goal)) ho
 refine⟨own,rfl,ho,?_⟩
 refine za (o:=S2.obj b) _ hmb2 ?_
 refine za _ hhd ?_
 generalize wayF w.G (zl w.G w.B (kCls u.kind) (yy u.kind)) (kCls u.kind) (farF w.G (zl w.G w.B (kCls u.kind) (yy u.kind)) (kCls u.kind) goal) own=W at*
 refine⟨⟨Tv,?_⟩,Tv⟩
 refine bcd (fun c3=>?_) (fun c3=>?_)
 ·rw[if_pos c3]at h0
  exact ret h0
 rw[if_neg c3]at h0
 obtain⟨j,hj,rfl⟩:∃j:Nat,j<8/\W=(j:Int):=by
  rcases hway with h1|⟨j,h1,h2,_⟩
  ·omega
  ·exact⟨j,h1,h2⟩
 rw[Int.toNat_natCast]at h0
 refine vl w.G hm.hg own ho _ _ ?_
 refine⟨j,rfl,hj,?_⟩
 refine za _ (zey hj) ?_
 exact ret h0
theorem zkz{gv:AV}{F G N:Store}{mb s p:Nat}{w:Wld}{v:AV}{L:List Ent}{o0 o1 o2:AV}(hW:MoverG gv F G mb s p w v L o0 o1 o2)(hd:Disj (F.un (svS G s w v o0 o1 o2 p)) N)(hm:MayF w)(hn:∀u∈w.U,u.pos.ok){i:Nat}(hi:i<w.U.length)(u:Unt)(hid:w.U[i].id=u.id)(hp:u.pos.ok)(R:AV->Store->Prop)
  (h:∀F' G' L',MoverG gv F' G' mb s p (putU w u) v L' o0 o1 o2->Disj (F'.un (svS G' s (putU w u) v o0 o1 o2 p)) N->R (.tup []) ((F'.un (svS G' s (putU w u) v o0 o1 o2 p)).un N)):ACalls Tryz.prog 111 [ptr s,.agg (untC u)] ((F.un (svS G s w v o0 o1 o2 p)).un N) R:=by
 refine ACalls.frame hd (zcl hW hm hn hi u hid hp (fun r S=>∃F' G' L',MoverG gv F' G' mb s p (putU w u) v L' o0 o1 o2/\S=F'.un (svS G' s (putU w u) v o0 o1 o2 p)/\r=.tup []) (fun F' G' L' h=>⟨F',G',L',h,rfl,rfl⟩)) ?_
 rintro r a' ⟨F',G',L',h1,rfl,rfl⟩ hd2
 exact h F' G' L' h1 hd2
theorem zf6{gv:AV}{F G N:Store}{mb s p:Nat}{w:Wld}{v:AV}{L:List Ent}{o0 o1 o2:AV}(hW:MoverG gv F G mb s p w v L o0 o1 o2)(hd:Disj (F.un (svS G s w v o0 o1 o2 p)) N)(hm:MayF w)(hn:∀u∈w.U,u.pos.ok){i:Nat}(hi:i<w.U.length)(u:Unt)(hid:w.U[i].id=u.id)(hp:u.pos.ok)(z:Int)(R:AV->Store->Prop)
  (h:∀F' G' L',MoverG gv F' G' mb s p (putU w (endU z u)) v L' o0 o1 o2->Disj (F'.un (svS G' s (putU w (endU z u)) v o0 o1 o2 p)) N->R (.tup []) ((F'.un (svS G' s (putU w (endU z u)) v o0 o1 o2 p)).un N)):ACalls Tryz.prog 142 [ptr mb,.agg (untC u),int z] ((F.un (svS G s w v o0 o1 o2 p)).un N) R:=by
 refine ACalls.frame hd (ze4 hW hm hn hi u hid hp z (fun r S=>∃F' G' L',MoverG gv F' G' mb s p (putU w (endU z u)) v L' o0 o1 o2/\S=F'.un (svS G' s (putU w (endU z u)) v o0 o1 o2 p)/\r=.tup []) (fun F' G' L' h=>⟨F',G',L',h,rfl,rfl⟩)) ?_
 rintro r a' ⟨F',G',L',h1,rfl,rfl⟩ hd2
 exact h F' G' L' h1 hd2
theorem zyl{gv:AV}{F G N:Store}{mb s p:Nat}{w:Wld}{v:AV}{L:List Ent}{o0 o1 o2:AV}(hW:MoverG gv F G mb s p w v L o0 o1 o2)(hd:Disj (F.un (svS G s w v o0 o1 o2 p)) N)(hm:MayF w)(hn:∀u∈w.U,u.pos.ok){i:Nat}(hi:i<w.U.length)(d:Vc)(hdv:d.ok)(R:AV->Store->Prop)
  (h:∀F' G' L' q0 q1 q2,MoverG gv F' G' mb s p (tryW w w.U[i] d) v L' q0 q1 q2->Disj (F'.un (svS G' s (tryW w w.U[i] d) v q0 q1 q2 p)) N->R (int (tryK w w.U[i] d)) ((F'.un (svS G' s (tryW w w.U[i] d) v q0 q1 q2 p)).un N)):ACalls Tryz.prog 64 [ptr mb,.agg (untC w.U[i]),.agg (vecC d)] ((F.un (svS G s w v o0 o1 o2 p)).un N) R:=by
 refine ACalls.frame hd (zlu hW hm hn hi d hdv (fun r S=>∃F' G' L' q0 q1 q2,MoverG gv F' G' mb s p (tryW w w.U[i] d) v L' q0 q1 q2/\S=F'.un (svS G' s (tryW w w.U[i] d) v q0 q1 q2 p)/\r=int (tryK w w.U[i] d)) (fun F' G' L' q0 q1 q2 h=>⟨F',G',L',q0,q1,q2,h,rfl,rfl⟩)) ?_
 rintro r a' ⟨F',G',L',q0,q1,q2,h1,rfl,rfl⟩ hd2
 exact h F' G' L' q0 q1 q2 h1 hd2
theorem zwl{gv:AV}{F G N:Store}{mb s p:Nat}{w:Wld}{v:AV}{L:List Ent}{o0 o1 o2:AV}(hW:MoverG gv F G mb s p w v L o0 o1 o2)(hd:Disj (F.un (svS G s w v o0 o1 o2 p)) N)(hm:MayF w)(hn:∀u∈w.U,u.pos.ok)(hmap:∀u∈w.U,u.inn=0->mapV u.pos){i:Nat}(hi:i<w.U.length)(h0:w.U[i].inn=0)(R:AV->Store->Prop)
  (h:∀F' G' L' q0 q1 q2,MoverG gv F' G' mb s p (zg3 w w.U[i]) v L' q0 q1 q2->Disj (F'.un (svS G' s (zg3 w w.U[i]) v q0 q1 q2 p)) N->R (.tup []) ((F'.un (svS G' s (zg3 w w.U[i]) v q0 q1 q2 p)).un N)):ACalls Tryz.prog 88 [ptr mb,.agg (untC w.U[i])] ((F.un (svS G s w v o0 o1 o2 p)).un N) R:=by
 refine ACalls.frame hd (zo6 hW hm hn hmap hi h0 (fun r S=>∃F' G' L' q0 q1 q2,MoverG gv F' G' mb s p (zg3 w w.U[i]) v L' q0 q1 q2/\S=F'.un (svS G' s (zg3 w w.U[i]) v q0 q1 q2 p)/\r=.tup []) (fun F' G' L' q0 q1 q2 h=>⟨F',G',L',q0,q1,q2,h,rfl,rfl⟩)) ?_
 rintro r a' ⟨F',G',L',q0,q1,q2,h1,rfl,rfl⟩ hd2
 exact h F' G' L' q0 q1 q2 h1 hd2
set_option maxHeartbeats 4000000 in
set_option maxRecDepth 20000 in
theorem zwy{K:Nat->Store->Prop}{fb M n:Nat}{w:Wld}(hG:GuideK K fb M w)(hnM:n<M){F G N:Store}{mb s p:Nat}{v:AV}{L:List Ent}{o0 o1 o2:AV}(hW:MoverG (fldV fb) F G mb s p w v L o0 o1 o2)(hd:Disj (F.un (svS G s w v o0 o1 o2 p)) N)(hK:K n N)(hmay:mayP w)(hn:∀u∈w.U,u.pos.ok){i:Nat}(hi:i<w.U.length)(h0:w.U[i].inn=0)(hgo:w.U[i].goal≠-1)(R:AV->Store->Prop)
  (h:∀F' G' L' q0 q1 q2 n2 N2,n2<=n+1->MoverG (fldV fb) F' G' mb s p (zbu w w.U[i]) v L' q0 q1 q2->Disj (F'.un (svS G' s (zbu w w.U[i]) v q0 q1 q2 p)) N2->K n2 N2->R (.tup []) ((F'.un (svS G' s (zbu w w.U[i]) v q0 q1 q2 p)).un N2)):
  ACalls Tryz.prog 89 [ptr mb,.agg (untC w.U[i])] ((F.un (svS G s w v o0 o1 o2 p)).un N) R:=by
 have hm:=mayF hmay
 have hut:=znp hmay hi
 have hon:=ztw hmay hi h0
 have hown:=zon hmay hi h0
 have hmp:=zbi hmay (List.getElem_mem hi) h0
 obtain⟨goal,hgq,hgl⟩:∃k:Nat,w.U[i].goal=k/\k<w.G.T.length:=by
  rcases wd hm.hg hut.2.1.1 with h1|h1
  ·exact absurd h1 hgo
  ·exact h1
 have hnx:=wd hm.hg hut.2.1.2.1
 have hstk:=hut.2.1.2.2
 have hnt:=zdb (w:=w) hm.hg (u:=w.U[i]) hown
 have hgoes:zbu w w.U[i]=if w.U[i].pos=cenV w.G goal then putU w (endU 2 w.U[i])else if xq w w.U[i] (ql w.G w.U[i].pos)then(if wg w w.U[i] (ql w.G w.U[i].pos)<0 then putU w (endU 3 w.U[i])else ww w {w.U[i]with next:=wg w w.U[i] (ql w.G w.U[i].pos)})else ww w w.U[i]:=by
  have e:w.U[i].goal.toNat=goal:=by rw[hgq,Int.toNat_natCast]
  unfold zbu
  rw[e]
 have hlook1:xq w w.U[i] (ql w.G w.U[i].pos)=false->w.U[i].next≠-1:=fun hh e=>by
  unfold xq at hh
  rw[decide_eq_true e]at hh
  simp at hh
 obtain⟨own,hownE⟩:∃own,ql w.G w.U[i].pos=own:=⟨_,rfl⟩
 rw[hownE]at hown hnt hgoes hlook1
 refine Qb (c:=cfg 84) zc Tryz.func89 ?_
 refine AWp.seq (AWp.of_vc zc ?_)
 refine AWp.seq (AWp.of_vc zc ?_)
 refine za (o:=((F.un (svS G s w v o0 o1 o2 p)).un N).obj mb) _ (un_l hd hW.m) ?_
 refine za (o:=((F.un (svS G s w v o0 o1 o2 p)).un N).obj s) _ (un_l hd hW.s) ?_
 refine AWp.seq (AWp.of_vc zc ?_)
 refine Qc zc zyw ?_
 refine⟨zcm w.G hm.hg goal hgl w.U[i].goal hgq _ _ ⟨Qe,?_⟩,Tv⟩
 refine ze (fun c1=>?_) (fun c1=>?_)
 ·have e:w.U[i].pos=cenV w.G goal:=by
   simp only[Bool.and_eq_true,beq_iff_eq]at c1
   exact Prod.ext c1.1 c1.2.1
  rw[if_pos e]at hgoes
  rw[hgoes]at h
  refine zf6 hW hd hm hn hi w.U[i] rfl (qz hmp) 2 _ (fun F3 G3 L3 hW3 hd3=>?_)
  exact ret (h F3 G3 L3 o0 o1 o2 n N (Nat.le_succ n) hW3 hd3 hK)
 have e:¬w.U[i].pos=cenV w.G goal:=fun e=>by
  simp only[e,Bool.and_eq_false_iff,beq_eq_false_iff_ne]at c1
  rcases c1 with c1|c1|c1
  ·exact c1 rfl
  ·exact c1 rfl
  ·cases c1
 rw[if_neg e]at hgoes
 refine AWp.meet (σ:=Nat×Nat×Store) ⟨fun q=>[(0,.av (ptr mb)),(3,.bx 3 0),(4,.bx 4 0)],fun q=>[(3,untC {w.U[i]with next:=(q.1:Int)}),(4,gndC w.G)],fun q st'=>st'=(F.un (svS G s w v o0 o1 o2 p)).un q.2.2/\q.1<w.G.T.length/\zbu w w.U[i]=ww w {w.U[i]with next:=(q.1:Int)}/\q.2.1<=n+1/\Disj (F.un (svS G s w v o0 o1 o2 p)) q.2.2/\K q.2.1 q.2.2⟩ zc ?_ ?_
 ·refine zj9 w.G hm.hg w.U[i].pos hon _ _ ?_
  rw[hownE]
  refine zrp hG hd hK hW.m hW.s hm w.U[i] hnx own hown _ (fun N2 hd2 hK2=>?_)
  refine ze (fun c2=>?_) (fun c2=>?_)
  rotate_left
  ·rw[if_neg (by rw[c2];decide)]at hgoes
   obtain⟨t,ht,htl⟩:∃k:Nat,w.U[i].next=k/\k<w.G.T.length:=by
    rcases hnx with h1|h1
    ·exact absurd h1 (hlook1 c2)
    ·exact h1
   have e2:{w.U[i]with next:=(t:Int)}=w.U[i]:=by rw[<-ht]
   refine⟨(t,n,N2),⟨rfl,htl,by dsimp only;rw[e2];exact hgoes,Nat.le_succ n,hd2,hK2⟩,⟨Tq,Tq,Tq,Tv⟩,⟨?_,rfl,Tv⟩⟩
   dsimp only
   rw[e2]
   rfl
  rw[if_pos c2]at hgoes
  refine zv4 hG hnM hd2 hK2 hW.m hW.s hm w.U[i] goal hgq hgl own hown _ (fun n3 N3 hn3 hd3 hK3=>?_)
  generalize wg w w.U[i] own=nx at*
  refine bcd (fun c3=>?_) (fun c3=>?_)
  ·rw[if_pos c3]at hgoes
   rw[hgoes]at h
   refine zf6 hW hd3 hm hn hi {w.U[i]with next:=nx} rfl (qz hmp) 3 _ (fun F3 G3 L3 hW3 hd4=>?_)
   exact ret (h F3 G3 L3 o0 o1 o2 n3 N3 hn3 hW3 hd4 hK3)
  rw[if_neg c3]at hgoes
  obtain⟨t,rfl,htl⟩:∃k:Nat,nx=k/\k<w.G.T.length:=by
   rcases wd hm.hg hnt with h1|h1
   ·omega
   ·exact h1
  exact⟨(t,n3,N3),⟨rfl,htl,hgoes,hn3,hd3,hK3⟩,⟨Tq,Tq,Tq,Tv⟩,⟨rfl,rfl,Tv⟩⟩
 clear hd hK
 rintro⟨t,n2,N2⟩ st' ⟨rfl,htl,hgoes,hn2,hd,hK⟩
 dsimp only at htl hgoes hn2 hd hK⊢
 rw[hgoes]at h
 have hid:({w.U[i]with next:=(t:Int),stuck:=0}:Unt).id=w.U[i].id:=rfl
 have hmay1:mayP (putU w {w.U[i]with next:=(t:Int),stuck:=0}):=zfx hmay hi h0 rfl (zfh hut hgo (zhv hm.hg htl) (by omega))
 obtain⟨hi1,he1⟩:=zil hm.hr hi hid
 have hn1:∀x∈(putU w {w.U[i]with next:=(t:Int),stuck:=0}).U,x.pos.ok:=fun x hx=>by
  obtain⟨j,hj,rfl⟩:=List.getElem_of_mem hx
  rw[zes]at hj
  by_cases hji:j=i
  ·subst hji
   rw[he1]
   exact qz hmp
  ·rw[zra hm.hr hi hid hj hji]
   exact hn _ (List.getElem_mem hj)
 have hks:=zdx w.U[i].kind
 have hcm:=zmz hm.hg htl
 have hway:=zan hmp hcm
 unfold ww at h
 dsimp only at h
 rw[Int.toNat_natCast]at h
 have hpp:∀x:Unt,x.id=w.U[i].id->putU (putU w {w.U[i]with next:=(t:Int),stuck:=0}) x=putU w x:=fun x hx=>zci w hx.symm
 refine AWp.of_vc zc ?_
 refine Qc zc ztf ?_
 refine za (o:=((F.un (svS G s w v o0 o1 o2 p)).un N2).obj mb) _ (un_l hd hW.m) ?_
 refine⟨zkz hW hd hm hn hi {w.U[i]with next:=(t:Int),stuck:=0} rfl (qz hmp) _ (fun F1 G1 L1 hW1 hd1=>⟨Tv,?_⟩),Tv⟩
 generalize hw1:putU w {w.U[i]with next:=(t:Int),stuck:=0}=w1 at*
 have hm1:=mayF hmay1
 have hG1:w1.G=w.G:=by rw[<-hw1];rfl
 have htry:=zyl hW1 hd1 hm1 hn1 hi1
 rw[he1]at htry
 refine Qc zc zte ?_
 refine⟨zcm w.G hm.hg t htl (t:Nat) rfl _ _ ⟨Qe,?_⟩,Tv⟩
 refine⟨zq _ _ _ ⟨Qe,?_⟩,Tv⟩
 refine⟨zec w.U[i].pos (cenV w.G t) (yp w.U[i].kind) hmp hcm (by omega) _ _ ⟨Qe,?_⟩,Tv⟩
 refine⟨htry (xw w.U[i].pos (cenV w.G t) (yp w.U[i].kind)) (vo hway) _ (fun F2 G2 L2 a0 a1 a2 hW2 hd2=>⟨Qe,?_⟩),Tv⟩
 refine bcd (fun c4=>?_) (fun c4=>?_)
 ·rw[if_pos c4]at h
  exact ret (h F2 G2 L2 a0 a1 a2 n2 N2 hn2 hW2 hd2 hK)
 rw[if_neg c4]at h
 rw[zs7 c4]at hW2 hd2⊢
 refine in64 (v:=w.U[i].stuck+1) (by omega) ?_
 refine bceq (fun c5=>?_) (fun c5=>?_)
 ·rw[if_pos c5]at h
  refine zf6 hW2 hd2 hm1 hn1 hi1 {w.U[i]with next:=-1,stuck:=w.U[i].stuck+1} (by rw[he1]) (qz hmp) 4 _ (fun F3 G3 L3 hW3 hd3=>?_)
  have e3:=hpp (endU 4 {w.U[i]with next:=-1,stuck:=w.U[i].stuck+1}) rfl
  rw[e3]at hW3 hd3⊢
  exact ret (h F3 G3 L3 a0 a1 a2 n2 N2 hn2 hW3 hd3 hK)
 rw[if_neg c5]at h
 refine Qc zc ztd ?_
 refine za (o:=((F2.un (svS G2 s w1 v a0 a1 a2 p)).un N2).obj mb) _ (un_l hd2 hW2.m) ?_
 refine⟨zkz hW2 hd2 hm1 hn1 hi1 {w.U[i]with next:=-1,stuck:=w.U[i].stuck+1} (by rw[he1]) (qz hmp) _ (fun F3 G3 L3 hW3 hd3=>⟨Tv,?_⟩),Tv⟩
 have e3:=hpp {w.U[i]with next:=-1,stuck:=w.U[i].stuck+1} rfl
 rw[e3]at hW3 hd3⊢
 exact ret (h F3 G3 L3 a0 a1 a2 n2 N2 hn2 hW3 hd3 hK)
theorem zu3{K:Nat->Store->Prop}{fb M n:Nat}{w:Wld}(hG:GuideK K fb M w)(hnM:n<M){F G N:Store}{mb s p:Nat}{v:AV}{L:List Ent}{o0 o1 o2:AV}(hW:MoverG (fldV fb) F G mb s p w v L o0 o1 o2)(hd:Disj (F.un (svS G s w v o0 o1 o2 p)) N)(hK:K n N)(hmay:mayP w)(hn:∀u∈w.U,u.pos.ok){i:Nat}(hi:i<w.U.length)(h0:w.U[i].inn=0)(R:AV->Store->Prop)
  (h:∀F' G' L' q0 q1 q2 n2 N2,n2<=n+1->MoverG (fldV fb) F' G' mb s p (j9 w w.U[i]) v L' q0 q1 q2->Disj (F'.un (svS G' s (j9 w w.U[i]) v q0 q1 q2 p)) N2->K n2 N2->R (.tup []) ((F'.un (svS G' s (j9 w w.U[i]) v q0 q1 q2 p)).un N2)):
  ACalls Tryz.prog 44 [ptr mb,.agg (untC w.U[i])] ((F.un (svS G s w v o0 o1 o2 p)).un N) R:=by
 unfold j9 at h
 refine Qa (c:=cfg 13) zc Tryz.func44 ?_
 refine bceq (fun c1=>?_) (fun c1=>?_)
 ·rw[if_pos c1]at h
  exact zwl hW hd (mayF hmay) hn (fun u hu h1=>zbi hmay hu h1) hi h0 _ (fun F3 G3 L3 a0 a1 a2 hW3 hd3=>ret (h F3 G3 L3 a0 a1 a2 n N (Nat.le_succ n) hW3 hd3 hK))
 ·rw[if_neg c1]at h
  exact zwy hG hnM hW hd hK hmay hn hi h0 c1 _ (fun F3 G3 L3 a0 a1 a2 n2 N2 hn2 hW3 hd3 hK3=>ret (h F3 G3 L3 a0 a1 a2 n2 N2 hn2 hW3 hd3 hK3))
end Go.Proofs
