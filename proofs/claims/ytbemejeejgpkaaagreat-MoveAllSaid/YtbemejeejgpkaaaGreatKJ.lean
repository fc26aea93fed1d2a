/- The ground on which laws of thronglaw24 are proved: contracts of functions and plain lemmas; no condition beyond the row's own. -/
import Derived.Test.YtbemejeejgpkaaaGreatKE
import Derived.Test.YtbemejeejgpkaaaGreatKH
set_option linter.unusedSimpArgs false
set_option linter.unusedVariables false
namespace Go.Proofs
open Go Go.V
set_option maxRecDepth 4000
set_option maxRecDepth 20000 in
theorem zo1(n:Int)(st:Store)(R:AV->Store->Prop)(h:∀z:Bool,(z=true↔zca n)->R (bool z) st):ACalls Tryz.prog 169 [int n] st R:=by
 refine Qa (c:=cfg 9) zc Tryz.func169 ?_
 repeat' (first|refine bcd (fun _=>?_) (fun _=>?_)|refine ze (fun _=>?_) (fun _=>?_)|refine Qd ?_|fail)
 all_goals
  refine ret (h _ ?_)
  unfold zca
  simp only[decide_eq_true_eq,decide_eq_false_iff_not,Bool.false_eq_true,false_iff,true_iff,beq_iff_eq,bne_iff_ne,beq_eq_false_iff_ne,ne_eq,reduceCtorEq]at*
  omega
set_option maxRecDepth 20000 in
theorem zn4(n:Int)(st:Store)(R:AV->Store->Prop)(h:∀z:Bool,(z=true↔1<=n/\n<=128)->R (bool z) st):ACalls Tryz.prog 193 [int n] st R:=by
 refine Qa (c:=cfg 9) zc Tryz.func193 ?_
 repeat' (first|refine bcd (fun _=>?_) (fun _=>?_)|refine ze (fun _=>?_) (fun _=>?_)|refine Qd ?_|fail)
 all_goals
  refine ret (h _ ?_)
  simp only[decide_eq_true_eq,decide_eq_false_iff_not,Bool.false_eq_true,false_iff,true_iff,beq_iff_eq,bne_iff_ne,beq_eq_false_iff_ne,ne_eq,reduceCtorEq]at*
  omega
set_option maxRecDepth 20000 in
theorem zz7(n hi:Int)(st:Store)(R:AV->Store->Prop)(h:∀z:Bool,(z=true↔0<=n/\n<=hi)->R (bool z) st):ACalls Tryz.prog 94 [int n,int hi] st R:=by
 refine Qa (c:=cfg 12) zc Tryz.func94 ?_
 repeat' (first|refine bcd (fun _=>?_) (fun _=>?_)|refine ze (fun _=>?_) (fun _=>?_)|refine Qd ?_|fail)
 all_goals
  refine ret (h _ ?_)
  simp only[decide_eq_true_eq,decide_eq_false_iff_not,Bool.false_eq_true,false_iff,true_iff,beq_iff_eq,bne_iff_ne,beq_eq_false_iff_ne,ne_eq,reduceCtorEq]at*
  omega
set_option maxRecDepth 20000 in
theorem zv2(p:Vc)(st:Store)(R:AV->Store->Prop)(h:∀z:Bool,(z=true↔xx p.1 p.2)->R (bool z) st):ACalls Tryz.prog 220 [.agg (vecC p)] st R:=by
 refine Qa (c:=cfg 21) zc Tryz.func220 ?_
 repeat' (first|refine bcd (fun _=>?_) (fun _=>?_)|refine ze (fun _=>?_) (fun _=>?_)|refine Qd ?_|fail)
 all_goals
  refine ret (h _ ?_)
  unfold xx
  simp only[decide_eq_true_eq,decide_eq_false_iff_not,Bool.false_eq_true,false_iff,true_iff,beq_iff_eq,bne_iff_ne,beq_eq_false_iff_ne,ne_eq,reduceCtorEq]at*
  omega
set_option maxRecDepth 20000 in
theorem zxh(b:Bld)(st:Store)(R:AV->Store->Prop)(h:∀z:Bool,(z=true↔bldP b)->R (bool z) st):ACalls Tryz.prog 196 [.agg (bldC b)] st R:=by
 refine Qa (c:=cfg 41) zc Tryz.func196 ?_
 repeat' (first|refine bcd (fun _=>?_) (fun _=>?_)|refine ze (fun _=>?_) (fun _=>?_)|refine Qd ?_|fail)
 all_goals
  refine ret (h _ ?_)
  unfold bldP
  simp only[decide_eq_true_eq,decide_eq_false_iff_not,Bool.false_eq_true,false_iff,true_iff,beq_iff_eq,bne_iff_ne,beq_eq_false_iff_ne,ne_eq,reduceCtorEq]at*
  omega
set_option maxRecDepth 20000 in
theorem zu8(b:Bld)(st:Store)(R:AV->Store->Prop)(h:∀z:Bool,(z=true↔bldP b)->R (bool z) st):ACalls Tryz.prog 152 [.agg (bldC b)] st R:=by
 refine Qa (c:=cfg 41) zc Tryz.func152 ?_
 repeat' (first|refine bcd (fun _=>?_) (fun _=>?_)|refine ze (fun _=>?_) (fun _=>?_)|refine Qd ?_|fail)
 all_goals
  refine ret (h _ ?_)
  unfold bldP
  simp only[decide_eq_true_eq,decide_eq_false_iff_not,Bool.false_eq_true,false_iff,true_iff,beq_iff_eq,bne_iff_ne,beq_eq_false_iff_ne,ne_eq,reduceCtorEq]at*
  omega
set_option maxRecDepth 20000 in
theorem ynl(g:Gnd)(b:Bld)(hg:gndP g)(hb:bldP b)(st:Store)(R:AV->Store->Prop)(h:∀z:Bool,(z=true↔onP g b)->R (bool z) st):ACalls Tryz.prog 197 [.agg (gndC g),.agg (bldC b)] st R:=by
 obtain⟨h1,h2,_,_⟩:=hg;obtain⟨_,_,h3,h4⟩:=hb
 refine Qa (c:=cfg 33) zc Tryz.func197 ?_
 repeat' (first|refine bcd (fun _=>?_) (fun _=>?_)|refine ze (fun _=>?_) (fun _=>?_)|refine Qd ?_|fail)
 all_goals
  refine ret (h _ ?_)
  unfold onP
  simp only[decide_eq_true_eq,decide_eq_false_iff_not,Bool.false_eq_true,false_iff,true_iff,beq_iff_eq,bne_iff_ne,beq_eq_false_iff_ne,ne_eq,reduceCtorEq]at*
  omega
set_option maxRecDepth 20000 in
theorem ymb(g:Gnd)(b:Bld)(hg:gndP g)(hb:bldP b)(st:Store)(R:AV->Store->Prop)(h:∀z:Bool,(z=true↔onP g b)->R (bool z) st):ACalls Tryz.prog 153 [.agg (gndC g),.agg (bldC b)] st R:=by
 obtain⟨h1,h2,_,_⟩:=hg;obtain⟨_,_,h3,h4⟩:=hb
 refine Qa (c:=cfg 47) zc Tryz.func153 ?_
 repeat' (first|refine bcd (fun _=>?_) (fun _=>?_)|refine ze (fun _=>?_) (fun _=>?_)|refine Qd ?_|fail)
 all_goals
  refine ret (h _ ?_)
  unfold onP
  simp only[decide_eq_true_eq,decide_eq_false_iff_not,Bool.false_eq_true,false_iff,true_iff,beq_iff_eq,bne_iff_ne,beq_eq_false_iff_ne,ne_eq,reduceCtorEq]at*
  omega
set_option maxRecDepth 20000 in
theorem ysj(g:Gnd)(t:Int)(hg:gndP g)(st:Store)(R:AV->Store->Prop)(h:∀z:Bool,(z=true↔0<=t/\t<g.W*g.H)->R (bool z) st):ACalls Tryz.prog 201 [.agg (gndC g),int t] st R:=by
 have hm:=zr hg
 refine Qa (c:=cfg 16) zc Tryz.func201 ?_
 repeat' (first|refine bcd (fun _=>?_) (fun _=>?_)|refine ze (fun _=>?_) (fun _=>?_)|refine Qd ?_|fail)
 all_goals
  refine ret (h _ ?_)
  simp only[decide_eq_true_eq,decide_eq_false_iff_not,Bool.false_eq_true,false_iff,true_iff,beq_iff_eq,bne_iff_ne,beq_eq_false_iff_ne,ne_eq,reduceCtorEq]at*
  omega
set_option maxRecDepth 20000 in
theorem zkd(g:Gnd)(t:Int)(hg:gndP g)(st:Store)(R:AV->Store->Prop)(h:∀z:Bool,(z=true↔0<=t/\t<g.W*g.H)->R (bool z) st):ACalls Tryz.prog 96 [.agg (gndC g),int t] st R:=by
 have hm:=zr hg
 refine Qa (c:=cfg 16) zc Tryz.func96 ?_
 repeat' (first|refine bcd (fun _=>?_) (fun _=>?_)|refine ze (fun _=>?_) (fun _=>?_)|refine Qd ?_|fail)
 all_goals
  refine ret (h _ ?_)
  simp only[decide_eq_true_eq,decide_eq_false_iff_not,Bool.false_eq_true,false_iff,true_iff,beq_iff_eq,bne_iff_ne,beq_eq_false_iff_ne,ne_eq,reduceCtorEq]at*
  omega
set_option maxRecDepth 20000 in
theorem zlj(g:Gnd)(t:Int)(hg:gndP g)(st:Store)(R:AV->Store->Prop)(h:∀z:Bool,(z=true↔zbm g t)->R (bool z) st):ACalls Tryz.prog 170 [.agg (gndC g),int t] st R:=by
 refine Qa (c:=cfg 12) zc Tryz.func170 ?_
 repeat' (first|refine bcd (fun _=>?_) (fun _=>?_)|refine ze (fun _=>?_) (fun _=>?_)|refine Qd ?_|(refine ysj _ _ hg _ _ ?_;rintro(_|_) hz)|fail)
 all_goals
  refine ret (h _ ?_)
  unfold zbm
  simp only[decide_eq_true_eq,decide_eq_false_iff_not,Bool.false_eq_true,false_iff,true_iff,beq_iff_eq,bne_iff_ne,beq_eq_false_iff_ne,ne_eq,reduceCtorEq]at*
  omega
set_option maxRecDepth 20000 in
theorem zws(g:Gnd)(l:List Bld)(st:Store)(R:AV->Store->Prop)(h:∀z:Bool,(z=true↔g.T.length>700\/l.length>30)->R (bool z) st):ACalls Tryz.prog 84 [.agg (gndC g),lst 6 bldC l] st R:=by
 refine Qa (c:=cfg 14) zc Tryz.func84 ?_
 repeat' (first|refine bcd (fun _=>?_) (fun _=>?_)|refine ze (fun _=>?_) (fun _=>?_)|refine Qd ?_|fail)
 all_goals
  refine ret (h _ ?_)
  simp only[decide_eq_true_eq,decide_eq_false_iff_not,Bool.false_eq_true,false_iff,true_iff,beq_iff_eq,bne_iff_ne,beq_eq_false_iff_ne,ne_eq,reduceCtorEq,zk]at*
  omega
set_option maxRecDepth 20000 in
theorem ziw(w:Wld)(st:Store)(R:AV->Store->Prop)(h:∀z:Bool,(z=true↔zpd w)->R (bool z) st):ACalls Tryz.prog 39 [.agg (wldC w)] st R:=by
 refine Qa (c:=cfg 14) zc Tryz.func39 ?_
 repeat' (first|refine bcd (fun _=>?_) (fun _=>?_)|refine ze (fun _=>?_) (fun _=>?_)|refine Qd ?_|(refine zws w.G w.B _ _ ?_;rintro(_|_) hz)|fail)
 all_goals
  refine ret (h _ ?_)
  unfold zpd
  simp only[decide_eq_true_eq,decide_eq_false_iff_not,Bool.false_eq_true,false_iff,true_iff,beq_iff_eq,bne_iff_ne,beq_eq_false_iff_ne,ne_eq,reduceCtorEq,zk]at*
  omega
set_option maxRecDepth 20000 in
theorem zxq(w:Wld)(u:Unt)(hg:gndP w.G)(st:Store)(R:AV->Store->Prop)(h:∀z:Bool,(z=true↔untP w u)->R (bool z) st):ACalls Tryz.prog 114 [.agg (wldC w),.agg (untC u)] st R:=by
 refine Qa (c:=cfg 90) zc Tryz.func114 ?_
 repeat' (first|refine bcd (fun _=>?_) (fun _=>?_)|refine ze (fun _=>?_) (fun _=>?_)|refine Qd ?_|(refine zo1 u.kind _ _ ?_;rintro(_|_) hz)|(refine zlj w.G u.goal hg _ _ ?_;rintro(_|_) hz)|(refine zlj w.G u.next hg _ _ ?_;rintro(_|_) hz)|fail)
 all_goals
  refine ret (h _ ?_)
  simp only[decide_eq_true_eq,decide_eq_false_iff_not,Bool.false_eq_true,false_iff,true_iff,beq_iff_eq,bne_iff_ne,beq_eq_false_iff_ne,ne_eq,reduceCtorEq,untP,zca,zbm]at*
  first|omega|(clear h;rcases Decidable.em (u.state=1)with e1|e1<;>rcases Decidable.em (u.goal=-1)with e2|e2<;>simp[bne,beqD,e1,e2]at*<;>omega)
theorem zma(l:List UInt8)(hl:l.length<=1000000000000)(hne:0<l.length)(st:Store)(R:AV->Store->Prop)(h:∀m:UInt8,m∈l->(∀t∈l,t.toNat<=m.toNat)->R (u8 m) st):ACalls Tryz.prog 194 [byts l] st R:=by
 refine Qa (c:=cfg 25) zc Tryz.func194 ?_
 refine ze (fun h1=>?_) (fun h1=>?_)
 ·rw[zk]at h1
  simp at h1
  omega
 refine⟨0,rfl,za _ (zj hne) ?_⟩
 refine AWp.loop (σ:=Nat×UInt8) ⟨fun s=>[(0,.av (byts l)),(3,.av (u8 s.2)),(4,.av (int (s.1:Nat)))],fun _=>[],
  fun s st'=>(1<=s.1/\s.1<=l.length)/\st'=st/\s.2∈l/\∀t∈l.take s.1,t.toNat<=s.2.toNat,fun s=>l.length-s.1⟩ zc ?_ ?_
 ·refine⟨(1,l[0]),Tv,⟨⟨Nat.le_refl _,hne⟩,rfl,List.getElem_mem hne,fun t ht=>?_⟩,⟨Tq,Tq,Tq,Tv⟩,Tv⟩
  have:l.take 1=[l[0]]:=by
   cases l with
   |nil=>simp at hne
   |cons a l=>rfl
  rw[this]at ht
  simp at ht
  rw[ht]
  exact Nat.le_refl _
 ·rintro⟨i,m⟩ st' ⟨⟨hi1,hi⟩,rfl,hm,hall⟩
  simp only at hi1 hi hm hall
  refine ze (fun h1=>?_) (fun h1=>?_)
  ·have hlt:i<l.length:=xk h1
   refine⟨i,rfl,za _ (zj hlt) ?_⟩
   refine⟨⟨by omega,by omega⟩,?_⟩
   have hmax:max2 (m.toNat:Int) (l[i].toNat:Int)=((if l[i].toNat>m.toNat then l[i]else m:UInt8).toNat:Int):=by
    unfold max2
    by_cases hg:l[i].toNat>m.toNat
    ·rw[if_pos hg,decide_eq_true (by omega)];rfl
    ·rw[if_neg hg,decide_eq_false (by omega)];rfl
   refine⟨(i+1,if l[i].toNat>m.toNat then l[i]else m),?_,⟨⟨by omega,hlt⟩,rfl,?_,fun t ht=>?_⟩,⟨Tq,?_,Tq,Tv⟩,Tv⟩
   ·show l.length-(i+1)<l.length-i
    omega
   ·show(if l[i].toNat>m.toNat then l[i]else m)∈l
    split
    ·exact List.getElem_mem hlt
    ·exact hm
   ·show t.toNat<=(if l[i].toNat>m.toNat then l[i]else m:UInt8).toNat
    rw[List.take_succ_eq_append_getElem hlt]at ht
    rcases List.mem_append.1 ht with ht|ht
    ·have:=hall t ht
     split<;>omega
    ·simp at ht
     subst ht
     split<;>omega
   ·show LV.le (.av (.s (.int .u8 (max2 (m.toNat:Int) (l[i].toNat:Int))))) _
    rw[hmax]
    exact Tq
  ·have hge:i=l.length:=ja h1 hi
   subst hge
   rw[List.take_length]at hall
   exact⟨_,st',Tt,Store.Has.refl st',h m hm hall⟩
theorem zju(g:Gnd)(hg:g.fits)(st:Store)(R:AV->Store->Prop)(h:∀b:Bool,(b=true↔gndP g)->R (bool b) st):ACalls Tryz.prog 165 [.agg (gndC g)] st R:=by
 refine Qa (c:=cfg 28) zc Tryz.func165 ?_
 refine zn4 g.W _ _ (fun b hb=>?_)
 cases b with
 |false=>
  refine⟨_,st,Tt,Store.Has.refl st,h _ ?_⟩
  simp only[Bool.false_eq_true,false_iff]at hb⊢
  exact fun hp=>hb hp.1
 |true=>
  refine zn4 g.H _ _ (fun b2 hb2=>?_)
  cases b2 with
  |false=>
   refine⟨_,st,Tt,Store.Has.refl st,h _ ?_⟩
   simp only[Bool.false_eq_true,false_iff]at hb2⊢
   exact fun hp=>hb2 hp.2.1
  |true=>
   have hm:=ztc (hb.1 rfl) (hb2.1 rfl)
   refine⟨⟨by omega,by omega⟩,?_⟩
   refine ze (fun h1=>⟨_,st,Tt,Store.Has.refl st,h _ ?_⟩) (fun h1=>?_)
   ·rw[zk]at h1
    simp only[Bool.false_eq_true,false_iff]
    intro hp
    have:=hp.2.2.1
    simp[this]at h1
   ·rw[zk]at h1
    have h1:(g.T.length:Int)=g.W*g.H:=by simpa using h1
    refine zma g.T hg (by omega) _ _ (fun m hm1 hm2=>?_)
    refine⟨_,st,Tt,Store.Has.refl st,h _ ?_⟩
    rw[decide_eq_true_iff]
    constructor
    ·intro h2
     refine⟨hb.1 rfl,hb2.1 rfl,h1,fun t ht=>?_⟩
     have:=hm2 t ht
     omega
    ·intro hp
     have:=hp.2.2.2 m hm1
     omega
theorem zpc(g:Gnd)(hg:g.fits)(st:Store)(R:AV->Store->Prop)(h:∀b:Bool,(b=true↔gndP g)->R (bool b) st):ACalls Tryz.prog 150 [.agg (gndC g)] st R:=by
 refine Qa (c:=cfg 46) zc Tryz.func150 ?_
 have no:¬gndP g->R (bool false) st:=fun hn=>h false (by simpa using hn)
 refine ze (fun h1=>⟨_,st,Tt,Store.Has.refl st,no ?_⟩) (fun h1=>?_)
 ·intro hp;have:=hp.1;simp at h1;omega
 refine ze (fun h2=>⟨_,st,Tt,Store.Has.refl st,no ?_⟩) (fun h2=>?_)
 ·intro hp;have:=hp.1;simp at h2;omega
 refine ze (fun h3=>⟨_,st,Tt,Store.Has.refl st,no ?_⟩) (fun h3=>?_)
 ·intro hp;have:=hp.2.1;simp at h3;omega
 refine ze (fun h4=>⟨_,st,Tt,Store.Has.refl st,no ?_⟩) (fun h4=>?_)
 ·intro hp;have:=hp.2.1;simp at h4;omega
 have hW:1<=g.W/\g.W<=128:=by simp at h1 h2;omega
 have hH:1<=g.H/\g.H<=128:=by simp at h3 h4;omega
 have hm:=ztc hW hH
 refine⟨⟨by omega,by omega⟩,?_⟩
 refine ze (fun h5=>⟨_,st,Tt,Store.Has.refl st,no ?_⟩) (fun h5=>?_)
 ·rw[zk]at h5
  intro hp
  have:=hp.2.2.1
  simp[this]at h5
 rw[zk]at h5
 have h5:(g.T.length:Int)=g.W*g.H:=by simpa using h5
 refine AWp.loop (σ:=Nat) ⟨fun i=>[(1,.bx 1 0),(3,.av (int (i:Nat)))],fun _=>[(1,gndC g)],
  fun i st'=>i<=g.T.length/\st'=st/\∀t∈g.T.take i,t.toNat<=5,fun i=>g.T.length-i⟩ zc ?_ ?_
 ·exact⟨0,Tv,⟨Nat.zero_le _,rfl,fun t ht=>by simp at ht⟩,⟨Tq,Tq,Tv⟩,Qe⟩
 ·rintro i st' ⟨hi,rfl,hall⟩
  refine ze (fun h6=>?_) (fun h6=>?_)
  ·have hlt:i<g.T.length:=xk h6
   refine⟨i,rfl,za _ (zj hlt) ?_⟩
   refine ze (fun h7=>⟨_,st',Tt,Store.Has.refl st',no ?_⟩) (fun h7=>?_)
   ·intro hp
    have:=hp.2.2.2 _ (List.getElem_mem hlt)
    simp at h7
    omega
   ·refine⟨⟨by omega,by omega⟩,?_⟩
    refine⟨i+1,?_,⟨hlt,rfl,fun t ht=>?_⟩,⟨Tq,Tq,Tv⟩,Qe⟩
    ·show g.T.length-(i+1)<g.T.length-i
     omega
    ·rw[List.take_succ_eq_append_getElem hlt]at ht
     rcases List.mem_append.1 ht with ht|ht
     ·exact hall t ht
     ·simp at ht
      subst ht
      simp at h7
      omega
  ·have hge:i=g.T.length:=ja h6 hi
   subst hge
   rw[List.take_length]at hall
   exact⟨_,st',Tt,Store.Has.refl st',h true (by simpa using⟨hW,hH,h5,hall⟩)⟩
end Go.Proofs
