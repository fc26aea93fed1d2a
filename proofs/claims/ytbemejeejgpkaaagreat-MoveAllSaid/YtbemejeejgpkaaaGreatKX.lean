/- The ground on which laws of thronglaw24 are proved: contracts of functions and plain lemmas; no condition beyond the row's own. -/
import Derived.Test.YtbemejeejgpkaaaGreatKW
import Derived.Test.YtbemejeejgpkaaaGreatKH
import Derived.Test.YtbemejeejgpkaaaGreatKE
import Derived.Test.YtbemejeejgpkaaaGreatKF
import Derived.Test.YtbemejeejgpkaaaGreatKI
import Derived.Test.YtbemejeejgpkaaaGreatKN
import Derived.Test.YtbemejeejgpkaaaGreatKS
import Derived.Test.YtbemejeejgpkaaaGreatKU
import Derived.Test.YtbemejeejgpkaaaGreatKV
set_option linter.unusedSimpArgs false
set_option linter.unusedVariables false
namespace Go.Proofs
open Go Go.V
set_option maxRecDepth 4000
abbrev u32A(n:Int):AV:=.s (.int .u32 n)
abbrev i32A(n:Int):AV:=.s (.int .i32 n)
theorem zgb(b:Nat)(l:List AV)(d:Int)(o:Nat)(st:Store)(R:AV->Store->Prop)(hb:st.obj b=some (.cells l))(hl:l[o]?=some (u32A d))(h:R (V.bool (d != 0)) st):
  ACalls Tryz.prog 277 [ptrA b o] st R:=by
 refine Qa (c:=cfg 8) zc Tryz.func277 ?_
 refine zsu Tryz.func290 (by rfl) (by rfl) (by rfl) .u32 (by kernel_rfl) hb hl ?_
 exact ret h
theorem ynm(x:Bool)(st:Store)(R:AV->Store->Prop)(h:R (u32A (bif x then 1 else 0)) st):ACalls Tryz.prog 306 [V.bool x] st R:=by
 refine Qa (c:=cfg 4) zc Tryz.func306 ?_
 cases x with
 |true=>exact ret h
 |false=>exact ret h
theorem yar(b:Nat)(l:List AV)(o:Nat)(st:Store)(R:AV->Store->Prop)(hb:st.obj b=some (.cells l))(hl:l[o]?=some (i32A 0))(h:R (.tup []) (st.setObj b (.cells (zo l o [i32A 1])))):
  ACalls Tryz.prog 303 [ptrA b o] st R:=by
 have hl':(zo l o [i32A 1])[o]?=some (i32A 1):=by
  have:=(List.getElem?_eq_some_iff.1 hl).1
  unfold zo
  rw[List.append_assoc,List.getElem?_append_right (by rw[List.length_take];omega)]
  rw[List.length_take,Nat.min_eq_left (by omega),Nat.sub_self]
  rfl
 refine Qa (c:=cfg 13) zc Tryz.func303 ?_
 refine zay Tryz.func310 (by rfl) (by rfl) (by rfl) .disable (by kernel_rfl) ?_
 refine zxu Tryz.func311 (by rfl) (by rfl) (by rfl) .i32 (by kernel_rfl) hb hl ?_
 refine zay Tryz.func312 (by rfl) (by rfl) (by rfl) .enable (by kernel_rfl) ?_
 refine zjn rfl (by kernel_rfl) (zb _ _ _) hl' ?_
 refine zfe Tryz.func313 (by rfl) (by rfl) (by rfl) .acquire (by kernel_rfl) ?_
 exact ret h
theorem zqp(b:Nat)(d s x:AV)(st:Store)(R:AV->Store->Prop)(hb:st.obj b=some (.cells [d,i32A 1,s,x]))(h:R (.tup []) (st.setObj b (.cells [d,i32A 0,s,x]))):
  ACalls Tryz.prog 304 [ptrA b 1] st R:=by
 refine Qa (c:=cfg 21) zc Tryz.func304 ?_
 refine za (o:=st.obj b) _ hb ?_
 refine zjn rfl (by kernel_rfl) hb rfl ?_
 refine zfe Tryz.func315 (by rfl) (by rfl) (by rfl) .releaseMerge (by kernel_rfl) ?_
 refine zay Tryz.func310 (by rfl) (by rfl) (by rfl) .disable (by kernel_rfl) ?_
 refine zln Tryz.func316 (by rfl) (by rfl) (by rfl) .i32 (by kernel_rfl) hb rfl (s:=0) (fun w=>by simp[go_sem];rfl) ?_
 refine zay Tryz.func312 (by rfl) (by rfl) (by rfl) .enable (by kernel_rfl) ?_
 exact ret h
theorem zl9(b:Nat)(d s x:AV)(st:Store)(R:Store->Prop)(hb:st.obj b=some (.cells [d,i32A 1,s,x]))(h:R (st.setObj b (.cells [d,i32A 0,s,x]))):
  ADefer Tryz.prog 292 [ptrA b 1] st R:=by
 refine ADefer.of_awp (c:={cfg 6 with nm:=true}) zc Tryz.func292 (by rfl) (by rfl) (by rfl) (by rfl) ?_
 refine AWp.of_vc zc ?_
 refine zqp b d s x _ _ hb ?_
 exact ret h
theorem zqa(b:Nat)(m s x:AV)(u:Int)(st:Store)(R:Store->Prop)(hb:st.obj b=some (.cells [u32A u,m,s,x]))(h:R (st.setObj b (.cells [u32A 1,m,s,x]))):
  ADefer Tryz.prog 293 [ptrA b 0,V.bool true] st R:=by
 refine ADefer.of_awp (c:={cfg 10 with nm:=true}) zc Tryz.func293 (by rfl) (by rfl) (by rfl) (by rfl) ?_
 refine AWp.of_vc zc ?_
 refine Qc zc ykp ?_
 refine⟨ynm true _ _ ?_,Tv⟩
 have key:∀(R':AV->Store->Prop),R' (.tup []) (st.setObj b (.cells [u32A 1,m,s,x]))->ACalls Tryz.prog 305 [ptrA b 0,u32A 1] st R':=fun R' hR=>zqi Tryz.func305 (by rfl) (by rfl) (by rfl) (by kernel_rfl) (l:=[u32A u,m,s,x]) (u:=.int .u32 u) hb (by rfl) hR
 refine⟨Qe,⟨key _ ?_,Tv⟩⟩
 refine⟨Qe,?_⟩
 exact ret (R:=fun _ S=>R S) h
theorem zv7(b:Nat)(l:List AV)(o:Nat)(st:Store)(R:AV->Store->Prop)(hb:st.obj b=some (.cells l))(hl:l[o]?=some (i32A 0))(h:R (.tup []) (st.setObj b (.cells (zo l o [i32A 1])))):
  ACalls Tryz.prog 291 [ptrA b o] st R:=by
 refine Qa (c:=cfg 6) zc Tryz.func291 ?_
 refine yar b l _ _ _ hb hl ?_
 exact ret h
theorem zyr(b:Nat)(s x:AV)(g:FuncId)(cap:List AV)(st:Store)(R:AV->Store->Prop)(hb:st.obj b=some (.cells [u32A 0,i32A 0,s,x]))
  (hf:ACalls Tryz.prog g cap (st.setObj b (.cells [u32A 0,i32A 1,s,x])) fun _ S=>∃x',S.obj b=some (.cells [u32A 0,i32A 1,s,x'])/\R (.tup []) (S.setObj b (.cells [u32A 1,i32A 0,s,x']))):
  ACalls Tryz.prog 278 [ptrA b 0,.clos g cap] st R:=by
 refine ACalls.of_awpD (c:={cfg 21 with nm:=true}) zc Tryz.func278 (by rfl) (by rfl) (by rfl) (by rfl) (by rfl) ?_
 refine AWpD.seq (AWpD.of (AWp.of_vc zc ?_))
 refine zv7 b _ 1 _ _ hb rfl ?_
 show AWpD _ _ _ _ _ _
 refine AWpD.seq (AWpD.deferL zc rfl rfl rfl rfl rfl ?_)
 refine⟨292,[.pointer (some ⟨b,1,none⟩)],rfl,rfl,?_⟩
 show AWpD _ _ _ _ _ _
 refine AWpD.seq (AWpD.of (AWp.of_vc zc ?_))
 refine zgb b _ 0 0 _ _ (zb _ _ _) rfl ?_
 show AWpD _ _ _ _ _ _
 refine AWpD.cond true rfl ?_
 show AWpD _ _ _ _ _ _
 refine AWpD.seq (AWpD.deferL zc rfl rfl rfl rfl rfl ?_)
 refine⟨293,[.pointer (some ⟨b,0,none⟩),.bool true],rfl,rfl,?_⟩
 show AWpD _ _ _ _ _ _
 refine AWpD.of (AWp.of_vc zc ?_)
 refine hf.imp fun r S ⟨x',h1,h2⟩=>?_
 refine⟨293,[.pointer (some ⟨b,0,none⟩),.bool true],rfl,?_⟩
 refine zqa b _ _ _ 0 _ _ h1 ?_
 refine⟨292,[.pointer (some ⟨b,1,none⟩)],rfl,?_⟩
 refine zl9 b _ _ _ _ _ (zb _ _ _) ?_
 show R (.tup []) _
 rw[zg]
 exact h2
theorem zkw(b:Nat)(s x:AV)(g:FuncId)(cap:List AV)(st:Store)(R:AV->Store->Prop)(hb:st.obj b=some (.cells [u32A 0,i32A 0,s,x]))
  (hf:ACalls Tryz.prog g cap (st.setObj b (.cells [u32A 0,i32A 1,s,x])) fun _ S=>∃x',S.obj b=some (.cells [u32A 0,i32A 1,s,x'])/\R (.tup []) (S.setObj b (.cells [u32A 1,i32A 0,s,x']))):
  ACalls Tryz.prog 267 [ptrA b 0,.clos g cap] st R:=by
 refine Qa (c:=cfg 12) zc Tryz.func267 ?_
 refine zgb b _ 0 0 _ _ hb rfl ?_
 refine zyr b s x g cap _ _ hb (hf.imp fun r S ⟨x',h1,h2⟩=>⟨x',h1,?_⟩)
 exact ret h2
theorem zkx(b:Nat)(l:List AV)(f:AV)(st:Store)(R:AV->Store->Prop)(hb:st.obj b=some (.cells (u32A 1::l)))(h:R (.tup []) st):
  ACalls Tryz.prog 267 [ptrA b 0,f] st R:=by
 refine Qa (c:=cfg 12) zc Tryz.func267 ?_
 refine zgb b _ 1 0 _ _ hb rfl ?_
 exact ret h
theorem ziv(b o:Nat)(l:List AV)(x y:Int)(st:Store)(R:AV->Store->Prop)(hb:st.obj b=some (.cells l))(hl:l[o]?=some (.s (.int .i64 x)))(h:∀n:Int,R (.s (.int .i64 n)) (st.setObj b (.cells (zo l o [.s (.int .i64 n)])))):
  ACalls Tryz.prog 274 [ptrA b o,.s (.int .i64 y)] st R:=by
 refine Qa (c:=cfg 10) zc Tryz.func274 ?_
 refine zln Tryz.func283 (by rfl) (by rfl) (by rfl) .i64 (by kernel_rfl) hb hl (s:=IntKind.wrap .i64 (x+y)) (fun w=>by simp[go_sem]) ?_
 exact ret (h _)
theorem zrv{S:Store}{v:AV}{ns:List Int}(hv:Ints S v ns)(hn:ns.length<=1000000)(x:Int)(R:AV->Store->Prop)(h1:x∉ns->R (int (-1)) S)
  (h2:∀i:Nat,ns[i]?=some x->(∀j<i,ns[j]?≠some x)->R (int i) S):
  ACalls Tryz.prog 219 [v,int x] S R:=by
 rcases hv with⟨rfl,rfl⟩|⟨b,cap,L,rfl,hb,hc1,hc2,hc3⟩
 ·refine Qa (c:=cfg 19) zc Tryz.func219 ?_
  refine AWp.loop (σ:=Nat) ⟨fun i=>[(7,.av (int (0:Nat))),(8,.av (int (0:Nat)))],fun _=>[],fun i st'=>st'=S,fun i=>i⟩ zc ?_ ?_
  ·exact⟨0,Tv,rfl,⟨Tq,Tq,Tv⟩,Tv⟩
  rintro i st' rfl
  exact ret (h1 (by simp))
 ·refine Qa (c:=cfg 19) zc Tryz.func219 ?_
  refine AWp.loop (σ:=Nat) ⟨fun i=>[(0,.av (.s (.slice (some ⟨b,0,none⟩) ns.length cap))),(1,.av (int x)),(7,.av (int (ns.length:Nat))),(8,.av (int (i:Nat)))],fun _=>[],
   fun i st'=>i<=ns.length/\st'=S/\∀j,j<i->ns[j]?≠some x,fun i=>ns.length-i⟩ zc ?_ ?_
  ·exact⟨0,Tv,⟨Nat.zero_le _,rfl,fun j hj=>absurd hj (Nat.not_lt_zero j)⟩,⟨Tq,Tq,Tq,Tq,Tv⟩,Tv⟩
  rintro i st' ⟨hi,rfl,hall⟩
  refine bcd (fun c1=>?_) (fun c1=>?_)
  rotate_left
  ·refine ret (h1 (fun hm=>?_))
   obtain⟨j,hj⟩:=List.mem_iff_getElem?.1 hm
   have:j<ns.length:=(List.getElem?_eq_some_iff.1 hj).1
   exact hall j (by omega) hj
  have hlt:i<ns.length:=by omega
  refine⟨i,rfl,hlt,?_⟩
  refine za (o:=st'.obj b) _ hb ?_
  have hd:((ns.map aI++L).drop (0+i*1)).head?=some (int ns[i]):=by
   rw[List.head?_drop,List.getElem?_append_left (by simp;omega),List.getElem?_map]
   simp[hlt]
   rfl
  refine za _ hd ?_
  refine bceq (fun c2=>?_) (fun c2=>?_)
  ·refine ret (h2 i ?_ hall)
   rw[c2]
   exact List.getElem?_eq_getElem hlt
  ·refine Qd ?_
   refine⟨i+1,?_,⟨by omega,rfl,fun j hj=>?_⟩,⟨Tq,Tq,Tq,Tq,Tv⟩,Tv⟩
   ·show ns.length-(i+1)<ns.length-i
    omega
   ·by_cases e:j=i
    ·subst e
     rw[List.getElem?_eq_getElem hlt]
     exact fun e=>c2 (Option.some.inj e).symm
    ·exact hall j (by omega)
theorem zi6(k:Int):∀(ks:List Int) (i:Nat),ks[i]?=some k->(∀j<i,ks[j]?≠some k)->ks.erase k=ks.take i++ks.drop (i+1)
 |[],i,h,_=>by simp at h
 |x::l,0,h,_=>by
  simp at h
  subst h
  simp
 |x::l,i+1,h,hl=>by
  have hx:x≠k:=fun e=>hl 0 (by omega) (by simp[e])
  have ih:=zi6 k l i (by simpa using h) fun j hj=>by simpa using hl (j+1) (by omega)
  rw[List.erase_cons_tail (by simpa using hx),ih]
  simp
def yj(N:Store)(c:Nat)(room:Int)(cs:List (Int×Int))(ks:List Int):Prop:=
 ∃m v h e bs clk,N.obj c=some (.cells [int room,.s (.map (some m)),v,int h,int e])/\N.obj m=some (.map (cs.map (entI fun k=>int k)) bs clk)/\Ints N v ks/\c≠m/\(∀b n cap,v=.s (.slice (some ⟨b,0,none⟩) n cap)->b≠c/\b≠m)
theorem yb9{N:Store}{c:Nat}{room:Int}{cs:List (Int×Int)}{ks:List Int}(hN:yj N c room cs ks)(hk:ks.length<=1000000)(k:Int)(R:AV->Store->Prop)
  (h:∀N',yj N' c room cs (ks.erase k)->R (.tup []) N'):ACalls Tryz.prog 295 [ptr c,int k] N R:=by
 obtain⟨m,v,hh,e,bs,clk,h1,h2,h3,h4,h5⟩:=hN
 refine Qa (c:=cfg 24) zc Tryz.func295 ?_
 refine za (o:=N.obj c) _ h1 ?_
 refine zrv h3 hk k _ (fun hn=>?_) (fun i hi hl=>?_)
 ·refine ret (h N ?_)
  rw[List.erase_of_not_mem hn]
  exact⟨m,v,hh,e,bs,clk,h1,h2,h3,h4,h5⟩
 ·have hlt:i<ks.length:=(List.getElem?_eq_some_iff.1 hi).1
  have he:ks.erase k=ks.take i++ks.drop (i+1):=zi6 k ks i hi hl
  rcases h3 with⟨rfl,rfl⟩|⟨b,cap,L,rfl,hb,hc1,hc2,hc3⟩
  ·simp at hlt
  obtain⟨hbc,hbm⟩:=h5 b _ _ rfl
  refine za (o:=N.obj c) _ h1 ?_
  refine Qd ?_
  have e1:((i:Int)+1)=((i+1:Nat):Int):=by omega
  rw[e1]
  refine zi7 hb hc1 hc3 (by omega) (by omega) _ ?_
  refine za (o:=(N.setObj b _).obj c) _ ((zd hbc.symm).trans h1) ?_
  refine⟨by simp,?_⟩
  refine ret (h _ ?_)
  rw[he]
  refine⟨m,_,hh,e,bs,clk,zb _ _ _,?_,.inr ⟨b,cap,List.replicate (i+1-i) (aI 0)++L,rfl,?_,?_,?_,hc3⟩,h4,fun b' n' c' hv=>?_⟩
  ·rw[zd (Ne.symm h4),zd (Ne.symm hbm)]
   exact h2
  ·rw[zd hbc]
   exact zb _ _ _
  ·simp
   omega
  ·simp
   omega
  ·simp only[AV.s.injEq,Value.slice.injEq,Option.some.injEq,Addr.mk.injEq]at hv
   rw[<-hv.1.1]
   exact⟨hbc,hbm⟩
theorem zpx{N:Store}{c:Nat}{room:Int}{cs:List (Int×Int)}{ks:List Int}(hN:yj N c room cs ks)(hk:ks.length<=1000000)(k:Int)(R:AV->Store->Prop)
  (h:∀N',yj N' c room cs (k::ks.erase k)->R (.tup []) N'):ACalls Tryz.prog 280 [ptr c,int k] N R:=by
 refine Qa (c:=cfg 17 [13,1000013] []) zc Tryz.func280 ?_
 refine yb9 hN hk k _ fun N1 hN1=>?_
 obtain⟨m,v,hh,e,bs,clk,h1,h2,h3,h4,h5⟩:=hN1
 have hke:(ks.erase k).length<=ks.length:=by
  rw[List.length_erase]
  split<;>omega
 refine za (o:=N1.obj c) _ h1 ?_
 refine⟨by decide,fun vb hvb=>?_⟩
 have hvc:c≠vb:=fun e=>by
  have:=hvb.1
  rw[<-e,h1]at this
  cases this
 have hvm:m≠vb:=fun e=>by
  have:=hvb.1
  rw[<-e,h2]at this
  cases this
 refine zd3 (h3.fresh _ hvb) k 0 (Nat.zero_le _) (zb _ _ _) (fun b cap hv he=>?_) (by omega) _ (fun b cap L q1 q2 q3 q4=>?_)
 ·rcases h3 with⟨rfl,_⟩|⟨b',cap',L',rfl,hb',_⟩
  ·cases hv
  ·simp only[AV.s.injEq,Value.slice.injEq,Option.some.injEq,Addr.mk.injEq]at hv
   have:=hvb.1
   rw[<-he,<-hv.1.1,hb']at this
   cases this
 have hbc:b≠c/\b≠m:=by
  rcases q1 with q1|⟨c0,q1⟩
  ·refine⟨fun e=>?_,fun e=>?_⟩
   ·have:=q1.1
    rw[e,zd hvc,h1]at this
    cases this
   ·have:=q1.1
    rw[e,zd hvm,h2]at this
    cases this
  ·exact h5 _ _ _ q1
 refine za (o:=Store.obj (Store.setObj _ b _) c) _ ((zd hbc.1.symm).trans ((zd hvc).trans h1)) ?_
 refine⟨by simp,?_⟩
 refine ret (h _ ?_)
 refine⟨m,_,hh,e,bs,clk,zb _ _ _,?_,.inr ⟨b,cap,L,rfl,?_,q2,q3,q4⟩,h4,fun b' n' c' hv=>?_⟩
 ·rw[zd (Ne.symm h4),zd hbc.2.symm,zd hvm]
  exact h2
 ·rw[zd hbc.1]
  exact zb _ _ _
 ·simp only[AV.s.injEq,Value.slice.injEq,Option.some.injEq,Addr.mk.injEq]at hv
  rw[<-hv.1.1]
  exact hbc
theorem zmg{N:Store}{v:AV}{ks:List Int}(h:Ints N v ks){c:Nat}(hne:∀b n cap,v=.s (.slice (some ⟨b,0,none⟩) n cap)->b≠c)(x:AObj):Ints (N.setObj c x) v ks:=by
 rcases h with⟨rfl,rfl⟩|⟨b,cap,L,rfl,hb,h1,h2,h3⟩
 ·exact .inl ⟨rfl,rfl⟩
 ·exact .inr ⟨b,cap,L,rfl,by rw[zd (hne b _ _ rfl)];exact hb,h1,h2,h3⟩
theorem zwb{α:Type}(f:α->AV)(cs:List (Int×α))(k:Int)(z:AV):zdp true z ((cs.map (entI f)).find? (qA k))=match getI cs k with
  |some v=>.tup [f v,V.bool true]
  |none=>.tup [z,V.bool false]:=by
 rw[zpp]
 unfold getI
 cases cs.find? fun e=>k==e.1 with
 |none=>rfl
 |some e=>rfl
theorem ycc{N:Store}{c:Nat}{room:Int}{cs:List (Int×Int)}{ks:List Int}(hN:yj N c room cs ks)(hk:ks.length<=1000000)(k:Int)(R:AV->Store->Prop)
  (h0:getI cs k=none->∀N',yj N' c room cs ks->R (.tup [int 0,V.bool false]) N')
  (h1:∀v,getI cs k=some v->∀N',yj N' c room cs (k::ks.erase k)->R (.tup [int v,V.bool true]) N'):ACalls Tryz.prog 270 [ptr c,int k] N R:=by
 obtain⟨m,v,hh,e,bs,clk,g1,g2,g3,g4,g5⟩:=hN
 refine Qa (c:=cfg 31) zc Tryz.func270 ?_
 refine za (o:=N.obj c) _ g1 ?_
 refine ya rfl (it:=ti166) (ie:=ti2) (ik:=ti2) rfl rfl rfl rfl g2 rfl (qA k) (fun e he=>?_) ?_
 ·obtain⟨e,_,rfl⟩:=List.mem_map.1 he
  rfl
 rw[zwb]
 cases hg:getI cs k with
 |none=>
  refine ziv c 4 _ e 1 _ _ g1 rfl fun n=>?_
  refine ret (h0 hg _ ⟨m,v,hh,n,bs,clk,zb _ _ _,?_,zmg g3 (fun b n cap hv=>(g5 b n cap hv).1) _,g4,g5⟩)
  rw[zd (Ne.symm g4)]
  exact g2
 |some v'=>
  refine ziv c 3 _ hh 1 _ _ g1 rfl fun n=>?_
  refine zpx (cs:=cs) (room:=room) (ks:=ks) ⟨m,v,n,e,bs,clk,zb _ _ _,?_,zmg g3 (fun b n cap hv=>(g5 b n cap hv).1) _,g4,g5⟩ hk k _ fun N' hN'=>?_
  ·rw[zd (Ne.symm g4)]
   exact g2
  exact ret (h1 v' hg N' hN')
theorem zsm{N:Store}{c:Nat}{room:Int}{cs:List (Int×Int)}{ks:List Int}(hN:yj N c room cs ks)(R:AV->Store->Prop)
  (h:∀N',yj N' c room [] []->R (.tup []) N'):ACalls Tryz.prog 112 [ptr c] N R:=by
 obtain⟨m,v,hh,e,bs,clk,g1,g2,g3,g4,g5⟩:=hN
 refine Qa (c:=cfg 9) zc Tryz.func112 ?_
 refine za (o:=N.obj c) _ g1 ?_
 refine zxt rfl rfl rfl rfl (it:=ti166) rfl rfl g2 ?_
 refine za (o:=(N.setObj m _).obj c) _ ((zd g4).trans g1) ?_
 refine⟨by simp,?_⟩
 refine ret (h _ ⟨m,.s (.slice none 0 0),hh,e,[],clk,zb _ _ _,?_,.inl ⟨rfl,rfl⟩,g4,fun b n cap hv=>by cases hv⟩)
 rw[zd (Ne.symm g4)]
 exact zb _ _ _
theorem yca(n:Int)(hn:1<=n)(hn2:n<=4096)(st:Store)(R:AV->Store->Prop)(h:∀N' c,yj N' c n [] []->R (.tup [ptr c,int 0]) N'):
  ACalls Tryz.prog 70 [int n] st R:=by
 refine Qa (c:=cfg 14 [11,13] []) zc Tryz.func70 ?_
 refine bcd (fun c1=>absurd c1 (by omega)) (fun c1=>?_)
 refine bcd (fun c2=>absurd c2 (by omega)) (fun c2=>?_)
 refine xa rfl (fun m hm=>?_)
 intro c hc
 have hne:c≠m:=fun e=>by
  have:=hc.1
  rw[e,zb]at this
  cases this
 refine ret (h _ c ⟨m,.s (.slice none 0 0),0,0,[],0,zb _ _ _,?_,.inl ⟨rfl,rfl⟩,hne,fun b n cap hv=>by cases hv⟩)
 rw[zd (Ne.symm hne)]
 exact zb _ _ _
theorem zro{α:Type}(f:α->AV)(cs:List (Int×α))(bs:List Nat)(clk:Nat)(k:Int):∃bs',zb4 (cs.map (entI f)) bs clk (qA k)=.map ((cs.eraseP fun e=>k==e.1).map (entI f)) bs' clk:=by
 have hq:(cs.map (entI f)).findIdx? (qA k)=cs.findIdx? fun e=>k==e.1:=by
  rw[List.findIdx?_map]
  rfl
 unfold zb4
 rw[hq,List.eraseP_eq_eraseIdx]
 cases cs.findIdx? fun e=>k==e.1 with
 |none=>exact⟨_,rfl⟩
 |some i=>exact⟨bs.eraseIdx i,by simp[List.eraseIdx_eq_take_drop_succ,List.map_take,List.map_drop]⟩
theorem yb5{N:Store}{c:Nat}{room:Int}{cs:List (Int×Int)}{ks:List Int}(hN:yj N c room cs ks)(hk:ks.length<=100000)(k x:Int)(R:AV->Store->Prop)
  (h1:((k::ks.erase k).length:Int)<=room->∀N',yj N' c room (putI cs k x) (k::ks.erase k)->R (.tup []) N')
  (h2:room<((k::ks.erase k).length:Int)->∀N',yj N' c room ((putI cs k x).eraseP fun e=>(k::ks.erase k).getLastD 0==e.1) (k::ks.erase k).dropLast->R (.tup []) N'):
  ACalls Tryz.prog 271 [ptr c,int k,int x] N R:=by
 obtain⟨m,v,hh,e,bs,clk,g1,g2,g3,g4,g5⟩:=hN
 refine Qa (c:=cfg 49) zc Tryz.func271 ?_
 refine za (o:=N.obj c) _ g1 ?_
 refine qe (.inl rfl) rfl (it:=ti166) (ik:=ti2) rfl rfl rfl g2 rfl rfl (qA k) (fun e he=>?_) (fun e1 he hq=>?_) ?_
 ·obtain⟨e,_,rfl⟩:=List.mem_map.1 he
  rfl
 ·obtain⟨e,_,rfl⟩:=List.mem_map.1 he
  have:k=e.1:=by simpa [qA,entI,int]using hq
  show int e.1=_
  rw[this]
 obtain⟨bs',clk',hput⟩:=ju (fun k=>int k) cs bs clk k x
 rw[hput]
 refine zpx (cs:=putI cs k x) (room:=room) (ks:=ks) ⟨m,v,hh,e,bs',clk',(zd g4).trans g1,zb _ _ _,zmg g3 (fun b n cap hv=>(g5 b n cap hv).2) _,g4,g5⟩ (by omega) k _ fun N1 hN1=>?_
 have hN2:=hN1
 have hke:(ks.erase k).length<=ks.length:=by
  rw[List.length_erase]
  split<;>omega
 generalize hQ:k::ks.erase k=Q at*
 have hQl:Q.length<=100001:=by
  rw[<-hQ]
  simp
  omega
 obtain⟨m,v,hh,e,bs,clk,f1,f2,f3,f4,f5⟩:=hN1
 rcases f3 with⟨rfl,rfl⟩|⟨b,cap,L,rfl,hb,hc1,hc2,hc3⟩
 ·cases hQ
 refine za (o:=N1.obj c) _ f1 ?_
 refine za (o:=N1.obj c) _ f1 ?_
 refine bcd (fun c1=>?_) (fun c1=>?_)
 ·refine Qc zc ykx ?_
  refine za (o:=N1.obj c) _ f1 ?_
  refine za (o:=N1.obj c) _ f1 ?_
  refine Qd ?_
  have hQ0:0<Q.length:=by
   rw[<-hQ]
   simp
  have hlt:Q.length-1<Q.length:=by omega
  refine⟨Q.length-1,by omega,hlt,?_⟩
  refine za (o:=N1.obj b) _ hb ?_
  have hd:((Q.map aI++L).drop (0+(Q.length-1)*1)).head?=some (int (Q.getLastD 0)):=by
   rw[List.head?_drop,List.getElem?_append_left (by simp;omega),List.getElem?_map,Nat.zero_add,Nat.mul_one]
   rw[List.getElem?_eq_getElem hlt,List.getLastD_eq_getLast?,List.getLast?_eq_getElem?,List.getElem?_eq_getElem hlt]
   rfl
  refine za _ hd ?_
  refine⟨zbz rfl rfl rfl rfl (it:=ti166) (ik:=ti2) rfl rfl rfl f2 rfl (qA (Q.getLastD 0)) (fun e he=>?_) ⟨?_,?_⟩,Tv⟩
  ·obtain⟨e,_,rfl⟩:=List.mem_map.1 he
   rfl
  ·trivial
  obtain⟨bs2,hdel⟩:=zro (fun k=>int k) (putI cs k x) bs clk (Q.getLastD 0)
  rw[hdel]
  have f1':=(zd (st:=N1) (x:=.map (((putI cs k x).eraseP fun e=>Q.getLastD 0==e.1).map (entI fun k=>int k)) bs2 clk) f4).trans f1
  refine za (o:=Store.obj (Store.setObj _ m _) c) _ f1' ?_
  refine Qd ?_
  refine⟨0,Q.length-1,rfl,by show((Q.length:Int)-1)=_;omega,by omega,by omega,.inl ⟨by omega,?_⟩⟩
  refine za (o:=Store.obj (Store.setObj _ m _) c) _ f1' ?_
  refine⟨by simp,?_⟩
  refine ret (h2 (by omega) _ ⟨m,.s (.slice (some ⟨b,0,none⟩) Q.dropLast.length cap),hh,e,bs2,clk,?_,?_,.inr ⟨b,cap,[int (Q.getLastD 0)]++L,rfl,?_,by simp;omega,by simp;omega,hc3⟩,f4,fun b' n' c' hv=>?_⟩)
  ·rw[zb,List.length_dropLast]
   rfl
  ·rw[zd (Ne.symm f4)]
   exact zb _ _ _
  ·rw[zd (f5 b _ _ rfl).1,zd (f5 b _ _ rfl).2,hb]
   have hne:Q≠[]:=fun e=>by rw[e]at hQ0;exact absurd hQ0 (by decide)
   have hl:Q.getLastD 0=Q.getLast hne:=by
    rw[List.getLastD_eq_getLast?,List.getLast?_eq_some_getLast hne]
    rfl
   have hq:Q=Q.dropLast++[Q.getLastD 0]:=by
    rw[hl,List.dropLast_concat_getLast hne]
   conv=>lhs;rw[hq]
   simp
   rfl
  ·simp only[AV.s.injEq,Value.slice.injEq,Option.some.injEq,Addr.mk.injEq]at hv
   rw[<-hv.1.1]
   exact f5 b _ _ rfl
 ·exact ret (h1 (by omega) _ hN2)
theorem zk6(g:Gnd)(hg:g.T.length<=1000000000)(st:Store)(R:AV->Store->Prop)(h:R (.agg (gndC g)) st):ACalls Tryz.prog 116 [.agg (gndC g)] st R:=by
 refine zwd (Q:=fun r=>r=.agg (gndC g)) ((zpe g hg Store.empty (fun r S=>∃v,RowsQ 1 u8C S v g.T/\r=.agg [int g.W,int g.H,v]) (fun v N hv hd=>⟨v,by rw[zap];exact hv,rfl⟩)).frozen ?_) st R fun r hr=>hr▸h
 rintro r S ⟨v,hv,rfl⟩
 refine⟨_,rfl,fun Oth M W x sto hx=>?_⟩
 cases hx with
 |agg _ c hl hc=>
  refine .agg _ c hl fun i y z hy hz=>?_
  match i with
  |0=>simp only[gndC,List.getElem?_cons_zero,Option.some.injEq]at hy;subst hy;exact z8 (hc 0 _ z rfl hz)
  |1=>simp only[gndC,List.getElem?_cons_succ,List.getElem?_cons_zero,Option.some.injEq]at hy;subst hy;exact z8 (hc 1 _ z rfl hz)
  |2=>simp only[gndC,List.getElem?_cons_succ,List.getElem?_cons_zero,Option.some.injEq]at hy;subst hy;exact hv.borrow zlt yn1 sto (hc 2 _ z rfl hz)
  |i+3=>simp[gndC]at hy
theorem zgu(l:List Bld)(hl:l.length<=1000000000)(st:Store)(R:AV->Store->Prop)(h:R (lst 6 bldC l) st):ACalls Tryz.prog 117 [lst 6 bldC l] st R:=by
 refine zwd (Q:=fun r=>r=lst 6 bldC l) ((zjd l hl Store.empty (fun r S=>RowsQ 6 bldC S r l) (fun v N hv hd=>by rw[zap];exact hv)).frozen ?_) st R fun r hr=>hr▸h
 rintro r S hv
 exact⟨_,rfl,fun Oth M W x sto hx=>hv.borrow zjh ycf sto hx⟩
theorem yby(a b:List Bld)(ha:a.length<=1000000000000)(st:Store)(R:AV->Store->Prop)(h:∀z:Bool,(z=true->a=b)->R (V.bool z) st):ACalls Tryz.prog 288 [lst 6 bldC a,lst 6 bldC b] st R:=by
 refine Qa (c:=cfg 26) zc Tryz.func288 ?_
 refine ze (fun h1=>?_) (fun h1=>?_)
 ·exact ret (h false (fun e=>by cases e))
 ·have hl:a.length=b.length:=zps h1
  refine AWp.loop (σ:=Nat) ⟨fun i=>[(0,.av (lst 6 bldC a)),(1,.av (lst 6 bldC b)),(12,.av (int ((rws bldC a).length:Nat))),(13,.av (int (i:Nat)))],fun _=>[],fun i st'=>i<=a.length/\a.take i=b.take i/\st'=st,fun i=>a.length-i⟩ zc ?_ ?_
  ·exact⟨0,Tv,⟨Nat.zero_le _,rfl,rfl⟩,⟨Tq,Tq,Tq,Tq,Tv⟩,Tv⟩
  ·rintro i st' ⟨hi,heq,rfl⟩
   refine ze (fun h2=>?_) (fun h2=>?_)
   ·have hlt:i<a.length:=xk h2
    have hltb:i<b.length:=by omega
    refine Qc zc ykr ?_
    refine⟨i,rfl,za _ (zj hlt) ?_⟩
    refine⟨i,rfl,za _ (zj hltb) ?_⟩
    refine ze (fun h3=>?_) (fun h3=>?_)
    ·exact ret (h false (fun e=>by cases e))
    ·refine Qd ?_
     refine⟨i+1,?_,⟨hlt,?_,rfl⟩,⟨Tq,Tq,Tq,Tq,Tv⟩,Tv⟩
     ·show a.length-(i+1)<a.length-i
      omega
     ·rw[List.take_succ_eq_append_getElem hlt,List.take_succ_eq_append_getElem hltb,heq]
      have:a[i]=b[i]:=by cases hx:a[i];cases hy:b[i];rw[hx,hy]at h3;simp at h3;simp[h3]
      rw[this]
   ·have hge:i=a.length:=ja h2 hi
    subst hge
    refine ret (h true (fun _=>?_))
    rw[List.take_length,hl,List.take_length]at heq
    exact heq
theorem ybx(a b:List UInt8)(ha:a.length<=1000000000000)(st:Store)(R:AV->Store->Prop)(h:∀z:Bool,(z=true->a=b)->R (V.bool z) st):ACalls Tryz.prog 289 [lst 1 u8C a,lst 1 u8C b] st R:=by
 refine Qa (c:=cfg 26) zc Tryz.func289 ?_
 refine ze (fun h1=>?_) (fun h1=>?_)
 ·exact ret (h false (fun e=>by cases e))
 ·have hl:a.length=b.length:=zps h1
  refine AWp.loop (σ:=Nat) ⟨fun i=>[(0,.av (lst 1 u8C a)),(1,.av (lst 1 u8C b)),(12,.av (int ((rws u8C a).length:Nat))),(13,.av (int (i:Nat)))],fun _=>[],fun i st'=>i<=a.length/\a.take i=b.take i/\st'=st,fun i=>a.length-i⟩ zc ?_ ?_
  ·exact⟨0,Tv,⟨Nat.zero_le _,rfl,rfl⟩,⟨Tq,Tq,Tq,Tq,Tv⟩,Tv⟩
  ·rintro i st' ⟨hi,heq,rfl⟩
   refine ze (fun h2=>?_) (fun h2=>?_)
   ·have hlt:i<a.length:=xk h2
    have hltb:i<b.length:=by omega
    refine Qc zc ykq ?_
    refine⟨i,rfl,za _ (zj hlt) ?_⟩
    refine⟨i,rfl,za _ (zj hltb) ?_⟩
    refine ze (fun h3=>?_) (fun h3=>?_)
    ·exact ret (h false (fun e=>by cases e))
    ·refine Qd ?_
     refine⟨i+1,?_,⟨hlt,?_,rfl⟩,⟨Tq,Tq,Tq,Tq,Tv⟩,Tv⟩
     ·show a.length-(i+1)<a.length-i
      omega
     ·rw[List.take_succ_eq_append_getElem hlt,List.take_succ_eq_append_getElem hltb,heq]
      have:a[i]=b[i]:=UInt8.toNat_inj.1 (by have:=h3;simp at this;omega)
      rw[this]
   ·have hge:i=a.length:=ja h2 hi
    subst hge
    refine ret (h true (fun _=>?_))
    rw[List.take_length,hl,List.take_length]at heq
    exact heq
theorem zxe{N:Store}{v:AV}{ks:List Int}(hv:Ints N v ks)(hk:ks.length<=1000000)(R:AV->Store->Prop)
  (h0:ks=[]->∀a,zeh a->R (.s (.slice a 0 0)) N)
  (h1:∀b cap L,Fresh N b->ks.length<=cap->cap<=ks.length+L.length->cap<=9223372036854775807->R (.s (.slice (some ⟨b,0,none⟩) ks.length cap)) (N.setObj b (.cells (ks.map aI++L)))):
  ACalls Tryz.prog 296 [v] N R:=by
 rcases hv with⟨rfl,rfl⟩|⟨b,cap,L,rfl,hb,hc1,hc2,hc3⟩
 ·refine Qa (c:=cfg 8) zc Tryz.func296 ?_
  exact ret (h0 rfl none (fun _ h=>by cases h))
 ·refine Qa (c:=cfg 8) zc Tryz.func296 ?_
  have hb':N.obj b=some (.cells (ks.map aI++L)):=hb
  have htk:((ks.map aI++L).drop 0).take (ks.length*1)=ks.map aI:=by simp
  have hsrc:=SrcOK.obj (P:=Tryz.prog) (k:=1) (m:=ks.length) (o:=0) (cp:=cap) hb' (by simp) (by
   rw[htk]
   intro y hy
   obtain⟨z,_,rfl⟩:=List.mem_map.1 hy
   rfl)
  rw[htk]at hsrc
  refine⟨by decide,?_⟩
  refine⟨.inr ⟨_,_,rfl,rfl,ycr (ie:=ti2) rfl hsrc ⟨by show ks.length*8<=_;omega,by omega⟩ (fun hm a ha=>?_) (fun hm b' cap' hf h2 h3=>?_)⟩⟩
  ·exact ret (h0 (List.eq_nil_of_length_eq_zero hm) a ha)
  ·exact ret (h1 b' cap' _ hf h2 (by rw[List.length_replicate];show cap'<=ks.length+(cap'-ks.length)*1;omega) h3)
theorem zo3(n:Int):(intC n).length=1:=rfl
theorem yaz(n:Int):∀y∈intC n,∃x,y=AV.s x/\yd x=true:=by
 intro y hy
 simp[intC]at hy
 exact⟨_,hy,rfl⟩
theorem yt2(ks:List Int):(rws intC ks).flatten=ks.map aI:=by
 induction ks with
 |nil=>rfl
 |cons k l ih=>
  show intC k++(rws intC l).flatten=aI k::l.map aI
  rw[ih]
  rfl
theorem yau{N:Store}{c:Nat}{room:Int}{cs:List (Int×Int)}{ks:List Int}(hN:yj N c room cs ks)(hk:ks.length<=1000000)(R:AV->Store->Prop)
  (h:∀N',yj N' c room cs ks->R (ints ks) N'):ACalls Tryz.prog 281 [ptr c] N R:=by
 have key:ACalls Tryz.prog 281 [ptr c] N fun r S=>(ks=[]/\(∃a,zeh a/\r=.s (.slice a 0 0))/\S=N)\/∃b cap L,Fresh N b/\ks.length<=cap/\cap<=ks.length+L.length/\cap<=9223372036854775807/\r=.s (.slice (some ⟨b,0,none⟩) ks.length cap)/\S=N.setObj b (.cells (ks.map aI++L)):=by
  obtain⟨m,v,hh,e,bs,clk,h1,h2,h3,h4,h5⟩:=hN
  refine Qa (c:=cfg 8) zc Tryz.func281 ?_
  refine za (o:=N.obj c) _ h1 ?_
  refine zxe h3 hk _ (fun e a ha=>?_) (fun b cap L hf h1 h2 h3=>?_)
  ·exact ret (.inl ⟨e,⟨a,ha,rfl⟩,rfl⟩)
  ·exact ret (.inr ⟨b,cap,L,hf,h1,h2,h3,rfl,rfl⟩)
 have hN':yj N.objs c room cs ks:=by
  obtain⟨m,v,hh,e,bs,clk,h1,h2,h3,h4,h5⟩:=hN
  exact⟨m,v,hh,e,bs,clk,h1,h2,h3,h4,h5⟩
 refine key.frozenTo ?_
 rintro r S (⟨e,⟨a,ha,hr⟩,hS⟩|⟨b,cap,L,hf,h1,h2,h3,hr,hS⟩)<;>subst hr hS
 ·subst e
  refine⟨_,_,h _ hN',fun b x hx=>hx,fun b x hx=>(by cases hx),fun Oth M W v sto hx=>?_⟩
  have hq:RowsQ 1 intC Store.empty (.s (.slice a 0 0)) []:=.inr ⟨a,ha,rfl,rfl⟩
  have sE:StoreOK Store.empty Oth M W:=sto.weaken ⟨fun i y hy=>(by cases hy),fun i y hy=>(by cases hy)⟩
  refine(hq.borrow zo3 yaz sE hx).mono fun i o hT=>⟨hT.1,?_⟩
  rfl
 ·refine⟨_,_,h _ hN',fun i x hx=>?_,fun b x hx=>(by cases hx),fun Oth M W v sto hx=>?_⟩
  ·have:i≠b:=fun e=>by
    rw[e]at hx
    exact absurd (hx.symm.trans hf.1) (by simp)
   rw[zd this]
   exact hx
  ·have hq:RowsQ 1 intC (Store.empty.setObj b (.cells (ks.map aI++L))) (.s (.slice (some ⟨b,0,none⟩) ks.length cap)) ks:=.inl (.inr ⟨b,cap,L,rfl,by rw[yt2];exact zb _ _ _,h1,by omega,h3⟩)
   have sE:StoreOK (Store.empty.setObj b (.cells (ks.map aI++L))) Oth M W:=by
    refine sto.weaken ⟨fun i y hy=>?_,fun i y hy=>by cases hy⟩
    by_cases hi:i=b
    ·subst hi
     rw[zb]at hy⊢
     exact hy
    ·have hy2:(Store.empty.setObj b (AObj.cells (ks.map aI++L))).obj i=none:=(zd hi).trans rfl
     rw[hy2]at hy
     cases hy
   refine(hq.borrow zo3 yaz sE hx).mono fun i o hT=>⟨hT.1,?_⟩
   by_cases hi:i=b
   ·subst hi
    rcases hT.2 with e|e
    ·rw[zb]at e
     cases e
    ·exact absurd hf.1 e
   ·exact(zd hi).trans rfl
abbrev mapA(m:Nat):AV:=.s (.map (some m))
def keepsB(ex:List Nat)(N N':Store):Prop:=∀i y,i∉ex->N.obj i=some y->N'.obj i=some y
theorem keepsB.refl(ex:List Nat)(N:Store):keepsB ex N N:=fun _ _ _ h=>h
theorem keepsB.trans{ex:List Nat}{a b c:Store}(h:keepsB ex a b)(h':keepsB ex b c):keepsB ex a c:=fun i y hi hy=>h' i y hi (h i y hi hy)
theorem keepsB.set{ex:List Nat}{a b:Store}(h:keepsB ex a b){p:Nat}{x:AObj}(hp:p∈ex\/a.obj p=none):keepsB ex a (b.setObj p x):=fun i y hi hy=>by
 have:i≠p:=fun e=>by
  subst e
  rcases hp with hp|hp
  ·exact hi hp
  ·rw[hp]at hy;cases hy
 rw[zd this]
 exact h i y hi hy
def qu(c s:Int)(goal:Nat):Int:=(4*c+s)*128*128+goal
noncomputable abbrev wayL(g:Gnd)(l:List Bld)(c s:Int)(goal:Nat):List AV:=il g.T.length (wayF g (zl g l c s) c (farF g (zl g l c s) c goal))
def clsP(c:Int):Prop:=c=0\/c=1\/c=2
def NetOK(g:Gnd)(l:List Bld)(ex:List Nat)(N:Store)(key:Int)(b:Nat):Prop:=
 b∉ex/\∃s d c s',N.obj b=some (.cells [u32A 1,i32A 0,s,ptr d])/\d∉ex/\clsP c/\(0<=s'/\s'<=3)/\key=4*c+s'/\N.obj d=some (.cells (netC g l c s'))
def WayOK(g:Gnd)(l:List Bld)(ex:List Nat)(N:Store)(key:Int)(b:Nat):Prop:=
 b∉ex/\∃s d c s' goal,N.obj b=some (.cells [u32A 1,i32A 0,s,.s (.slice (some ⟨d,0,none⟩) g.T.length g.T.length)])/\d∉ex/\clsP c/\(0<=s'/\s'<=3)/\goal<g.T.length/\key=qu c s' goal/\N.obj d=some (.cells (wayL g l c s' goal))
theorem NetOK.keep{g:Gnd}{l:List Bld}{ex ex':List Nat}{N N':Store}{key:Int}{b:Nat}(h:NetOK g l ex N key b)(hk:keepsB ex N N')(he:∀i,i∈ex'->i∈ex\/N.obj i=none):NetOK g l ex' N' key b:=by
 obtain⟨h1,s,d,c,s',h2,h3,h4,h5,h6,h7⟩:=h
 exact⟨fun hb=>(he b hb).elim h1 fun q=>(by rw[h2]at q;cases q),s,d,c,s',hk b _ h1 h2,fun hb=>(he d hb).elim h3 fun q=>(by rw[h7]at q;cases q),h4,h5,h6,hk d _ h3 h7⟩
theorem WayOK.keep{g:Gnd}{l:List Bld}{ex ex':List Nat}{N N':Store}{key:Int}{b:Nat}(h:WayOK g l ex N key b)(hk:keepsB ex N N')(he:∀i,i∈ex'->i∈ex\/N.obj i=none):WayOK g l ex' N' key b:=by
 obtain⟨h1,s,d,c,s',goal,h2,h3,h4,h5,h6,h7,h8⟩:=h
 exact⟨fun hb=>(he b hb).elim h1 fun q=>(by rw[h2]at q;cases q),s,d,c,s',goal,hk b _ h1 h2,fun hb=>(he d hb).elim h3 fun q=>(by rw[h8]at q;cases q),h4,h5,h6,h7,hk d _ h3 h8⟩
structure FldB(fb:Nat)(room:Int)(g:Gnd)(l:List Bld)(k:Int)(Nc Nr:Store)(c nm wm:Nat)(cs:List (Int×Int))(ks:List Int)(ns ws:List (Int×Nat))(made cnt:Int):Prop where
 dj:Disj Nc Nr
 hC:yj Nc c room cs ks
 hf:Nr.obj fb=some (.cells [ptr c,int made,V.bool true,int g.W,int g.H,byts g.T,lst 6 bldC l,mapA nm,mapA wm,int cnt])
 hn:∃bs clk,Nr.obj nm=some (.map (ns.map (entI fun b=>ptr b)) bs clk)
 hw:∃bs clk,Nr.obj wm=some (.map (ws.map (entI fun b=>ptr b)) bs clk)
 d1:fb≠nm
 d2:fb≠wm
 d3:nm≠wm
 r:1<=room/\room<=4096
 n0:0<=cnt/\cnt<=k
 sz:g.T.length<=1000000/\l.length<=1000000
structure FldI(fb:Nat)(room:Int)(g:Gnd)(l:List Bld)(k:Int)(Nc Nr:Store)(c nm wm:Nat)(cs:List (Int×Int))(ks:List Int)(ns ws:List (Int×Nat))(made cnt:Int):Prop where
 b:FldB fb room g l k Nc Nr c nm wm cs ks ns ws made cnt
 nets:∀key b,getI ns key=some b->NetOK g l [fb,nm,wm] Nr key b
 ways:CI (WayOK g l [fb,nm,wm] Nr) room cs ks ws cnt
def FldAny(fb:Nat)(room k:Int)(N:Store):Prop:=
 (∃g l Nc Nr c nm wm cs ks ns ws made cnt,N=Nc.un Nr/\FldI fb room g l k Nc Nr c nm wm cs ks ns ws made cnt)∨
 (∃Nc Nr c cs ks made cnt x0 x1 x2 x3 y0 y1,N=Nc.un Nr/\Disj Nc Nr/\yj Nc c room cs ks/\(1<=room/\room<=4096)/\(0<=cnt/\cnt<=k)/\Nr.obj fb=some (.cells [ptr c,int made,V.bool false,x0,x1,x2,x3,y0,y1,int cnt]))
theorem zsl{Nc Nr:Store}{c:Nat}{room:Int}{cs:List (Int×Int)}{ks:List Int}(hd:Disj Nc Nr)(hC:yj Nc c room cs ks)(R:AV->Store->Prop)(h:∀N',Disj N' Nr->yj N' c room [] []->R (.tup []) (N'.un Nr)):ACalls Tryz.prog 112 [ptr c] (Nc.un Nr) R:=by
 refine ACalls.frame hd (zsm hC (fun r S=>r=.tup []/\yj S c room [] []) (fun N' h=>⟨rfl,h⟩)) ?_
 rintro r N' ⟨rfl,h1⟩ h2
 exact h N' h2 h1
theorem zpi{Nc Nr:Store}{c:Nat}{room:Int}{cs:List (Int×Int)}{ks:List Int}(hd:Disj Nc Nr)(hC:yj Nc c room cs ks)(hk:ks.length<=1000000)(k:Int)(R:AV->Store->Prop)
  (h0:getI cs k=none->∀N',Disj N' Nr->yj N' c room cs ks->R (.tup [int 0,V.bool false]) (N'.un Nr))
  (h1:∀v,getI cs k=some v->∀N',Disj N' Nr->yj N' c room cs (k::ks.erase k)->R (.tup [int v,V.bool true]) (N'.un Nr)):ACalls Tryz.prog 270 [ptr c,int k] (Nc.un Nr) R:=by
 refine ACalls.frame hd (ycc hC hk k (fun r S=>(getI cs k=none/\r=.tup [int 0,V.bool false]/\yj S c room cs ks)\/∃v,getI cs k=some v/\r=.tup [int v,V.bool true]/\yj S c room cs (k::ks.erase k)) (fun e N' h=>.inl ⟨e,rfl,h⟩) (fun v e N' h=>.inr ⟨v,e,rfl,h⟩)) ?_
 rintro r N' (⟨e,rfl,h⟩|⟨v,e,rfl,h⟩) hd2
 ·exact h0 e N' hd2 h
 ·exact h1 v e N' hd2 h
theorem zzv{Nc Nr:Store}{c:Nat}{room:Int}{cs:List (Int×Int)}{ks:List Int}(hd:Disj Nc Nr)(hC:yj Nc c room cs ks)(hk:ks.length<=100000)(k x:Int)(R:AV->Store->Prop)
  (h1:((k::ks.erase k).length:Int)<=room->∀N',Disj N' Nr->yj N' c room (putI cs k x) (k::ks.erase k)->R (.tup []) (N'.un Nr))
  (h2:room<((k::ks.erase k).length:Int)->∀N',Disj N' Nr->yj N' c room ((putI cs k x).eraseP fun e=>(k::ks.erase k).getLastD 0==e.1) (k::ks.erase k).dropLast->R (.tup []) (N'.un Nr)):ACalls Tryz.prog 271 [ptr c,int k,int x] (Nc.un Nr) R:=by
 refine ACalls.frame hd (yb5 hC hk k x (fun r S=>r=.tup []/\((((k::ks.erase k).length:Int)<=room/\yj S c room (putI cs k x) (k::ks.erase k))\/(room<((k::ks.erase k).length:Int)/\yj S c room ((putI cs k x).eraseP fun e=>(k::ks.erase k).getLastD 0==e.1) (k::ks.erase k).dropLast))) (fun e N' h=>⟨rfl,.inl ⟨e,h⟩⟩) (fun e N' h=>⟨rfl,.inr ⟨e,h⟩⟩)) ?_
 rintro r N' ⟨rfl,⟨e,h⟩|⟨e,h⟩⟩ hd2
 ·exact h1 e N' hd2 h
 ·exact h2 e N' hd2 h
theorem zwf{Nc Nr:Store}{c:Nat}{room:Int}{cs:List (Int×Int)}{ks:List Int}(hd:Disj Nc Nr)(hC:yj Nc c room cs ks)(hk:ks.length<=1000000)(R:AV->Store->Prop)
  (h:∀N',Disj N' Nr->yj N' c room cs ks->R (ints ks) (N'.un Nr)):ACalls Tryz.prog 281 [ptr c] (Nc.un Nr) R:=by
 refine ACalls.frame hd (yau hC hk (fun r S=>r=ints ks/\yj S c room cs ks) (fun N' h=>⟨rfl,h⟩)) ?_
 rintro r N' ⟨rfl,h1⟩ h2
 exact h N' h2 h1
theorem fresh_un{a g:Store}{b:Nat}(h:Fresh (a.un g) b):Fresh a b/\Fresh g b:=by
 have:=fresh_iff.1 h
 exact⟨fresh_iff.2 fun hh=>this (un_has.2 (.inl hh)),fresh_iff.2 fun hh=>this (un_has.2 (.inr hh))⟩
theorem disj_setR{a g:Store}(hd:Disj a g){b:Nat}{x:AObj}(h:¬a.has b):Disj a (g.setObj b x):=fun i h1 h2=>by
 rcases has_setObj_iff.1 h2 with e|h2
 ·exact h (e▸h1)
 ·exact hd i h1 h2
theorem qx{a g:Store}(hd:Disj a g){b:Nat}{x:AObj}(h:g.obj b=some x):¬a.has b:=fun hh=>hd b hh (yw h)
theorem zd6{Nc Nr:Store}{fb c:Nat}{room:Int}{cs:List (Int×Int)}{ks:List Int}(hd:Disj Nc Nr)(hC:yj Nc c room cs ks){a1 a2 x0 x1 x2 x3 y0 y1 a9:AV}(hf:Nr.obj fb=some (.cells [ptr c,a1,a2,x0,x1,x2,x3,y0,y1,a9]))(R:AV->Store->Prop)
  (h:∀Nc' Nr' nm wm b1 k1 b2 k2,Disj Nc' Nr'->yj Nc' c room [] []->Nr'.obj fb=some (.cells [ptr c,a1,V.bool false,x0,x1,x2,x3,mapA nm,mapA wm,a9])->Nr'.obj nm=some (.map [] b1 k1)->Nr'.obj wm=some (.map [] b2 k2)->fb≠nm->fb≠wm->nm≠wm->R (.tup []) (Nc'.un Nr')):
  ACalls Tryz.prog 71 [ptr fb] (Nc.un Nr) R:=by
 refine Qa (c:=cfg 18) zc Tryz.func71 ?_
 refine za (o:=(Nc.un Nr).obj fb) _ (un_r hf) ?_
 refine zsl hd hC _ (fun Nc1 hd1 hC1=>?_)
 refine xa rfl (fun nm hnm=>?_)
 refine xa rfl (fun wm hwm=>?_)
 have f1:=fresh_un hnm
 rw[zi]at hwm⊢
 have f2:=fresh_un hwm
 rw[zi]
 have hfn:fb≠nm:=fun e=>by have:=f1.2.1;rw[<-e,hf]at this;cases this
 have hwn:wm≠nm:=fun e=>by have:=f2.2.1;rw[e,zb]at this;cases this
 have hfw:fb≠wm:=fun e=>by have:=f2.2.1;rw[<-e,zd hfn,hf]at this;cases this
 have hb:((Nr.setObj nm (.map [] [] 0)).setObj wm (.map [] [] 0)).obj fb=some (.cells [ptr c,a1,a2,x0,x1,x2,x3,y0,y1,a9]):=(zd hfw).trans ((zd hfn).trans hf)
 have hm1:((Nr.setObj nm (.map [] [] 0)).setObj wm (.map [] [] 0)).obj nm=some (.map [] [] 0):=(zd (Ne.symm hwn)).trans (zb _ _ _)
 have hm2:((Nr.setObj nm (.map [] [] 0)).setObj wm (.map [] [] 0)).obj wm=some (.map [] [] 0):=zb _ _ _
 have hdd:Disj Nc1 ((Nr.setObj nm (.map [] [] 0)).setObj wm (.map [] [] 0)):=disj_setR (disj_setR hd1 (fresh_iff.1 f1.1)) (fresh_iff.1 f2.1)
 clear f1 f2 hwm hnm
 generalize(Nr.setObj nm (.map [] [] 0)).setObj wm (.map [] [] 0)=N2 at*
 have hnc:=qx hdd hb
 refine zh (i:=ti4) (v:=V.bool false) (b:=fb) (o:=2) (l:=[ptr c,a1,a2,x0,x1,x2,x3,y0,y1,a9]) (st2:=Nc1.un (N2.setObj fb (.cells [ptr c,a1,V.bool false,x0,x1,x2,x3,y0,y1,a9]))) rfl rfl rfl (un_r hb) (show 3<=10 by decide) (zi _ _ _ _) ?_
 refine zh (i:=ti132) (v:=mapA nm) (b:=fb) (o:=7) (l:=[ptr c,a1,V.bool false,x0,x1,x2,x3,y0,y1,a9]) (st2:=Nc1.un (N2.setObj fb (.cells [ptr c,a1,V.bool false,x0,x1,x2,x3,mapA nm,y1,a9]))) rfl rfl rfl (un_r (zb _ _ _)) (show 8<=10 by decide) (by rw[zi,zg];rfl) ?_
 refine zh (i:=ti133) (v:=mapA wm) (b:=fb) (o:=8) (l:=[ptr c,a1,V.bool false,x0,x1,x2,x3,mapA nm,y1,a9]) (st2:=Nc1.un (N2.setObj fb (.cells [ptr c,a1,V.bool false,x0,x1,x2,x3,mapA nm,mapA wm,a9]))) rfl rfl rfl (un_r (zb _ _ _)) (show 9<=10 by decide) (by rw[zi,zg];rfl) ?_
 exact ret (h Nc1 _ nm wm [] 0 [] 0 (disj_setR hdd hnc) hC1 (zb _ _ _) ((zd (Ne.symm hfn)).trans hm1) ((zd (Ne.symm hfw)).trans hm2) hfn hfw (Ne.symm hwn))
theorem zvc{S:Store}{fb:Nat}{a0 a1 x0 x1 x2 x3 y0 y1 a9:AV}(hf:S.obj fb=some (.cells [a0,a1,V.bool false,x0,x1,x2,x3,y0,y1,a9]))(g:Gnd)(l:List Bld)(R:AV->Store->Prop)(h:R (V.bool false) S):
  ACalls Tryz.prog 276 [ptr fb,.agg (gndC g),lst 6 bldC l] S R:=by
 refine Qa (c:=cfg 49) zc Tryz.func276 ?_
 refine Qc zc ztg ?_
 refine za (o:=S.obj fb) _ hf ?_
 refine⟨⟨Qe,?_⟩,Tv⟩
 refine⟨⟨Qe,?_⟩,Tv⟩
 refine⟨⟨Qe,?_⟩,Tv⟩
 exact ret h
theorem zvb{S:Store}{fb:Nat}{a0 a1 y0 y1 a9:AV}(g0:Gnd)(l0:List Bld)(hT:g0.T.length<=1000000000000)(hl:l0.length<=1000000000000)(hf:S.obj fb=some (.cells [a0,a1,V.bool true,int g0.W,int g0.H,byts g0.T,lst 6 bldC l0,y0,y1,a9]))(g:Gnd)(l:List Bld)(R:AV->Store->Prop)(h:∀z:Bool,(z=true->g0=g/\l0=l)->R (V.bool z) S):
  ACalls Tryz.prog 276 [ptr fb,.agg (gndC g),lst 6 bldC l] S R:=by
 refine Qa (c:=cfg 49) zc Tryz.func276 ?_
 refine Qc zc ztg ?_
 refine za (o:=S.obj fb) _ hf ?_
 refine za (o:=S.obj fb) _ hf ?_
 refine bceq (fun c1=>?_) (fun c1=>?_)
 rotate_left
 ·refine⟨⟨Qe,?_⟩,Tv⟩
  refine⟨⟨Qe,?_⟩,Tv⟩
  refine⟨⟨Qe,?_⟩,Tv⟩
  exact ret (h false (fun e=>by cases e))
 refine za (o:=S.obj fb) _ hf ?_
 refine bceq (fun c2=>?_) (fun c2=>?_)
 rotate_left
 ·refine⟨⟨Qe,?_⟩,Tv⟩
  refine⟨⟨Qe,?_⟩,Tv⟩
  refine⟨⟨Qe,?_⟩,Tv⟩
  exact ret (h false (fun e=>by cases e))
 refine za (o:=S.obj fb) _ hf ?_
 refine⟨yby l0 l hl _ _ (fun z hz=>⟨Qe,?_⟩),Tv⟩
 cases z with
 |false=>
  refine⟨⟨Qe,?_⟩,Tv⟩
  refine⟨⟨Qe,?_⟩,Tv⟩
  exact ret (h false (fun e=>by cases e))
 |true=>
  refine za (o:=S.obj fb) _ hf ?_
  refine⟨ybx g0.T g.T hT _ _ (fun z2 hz2=>⟨Qe,?_⟩),Tv⟩
  refine⟨⟨Qe,?_⟩,Tv⟩
  refine ret (h z2 (fun e=>⟨?_,hz rfl⟩))
  have h3:=hz2 e
  have c1:g0.W=g.W:=c1
  have c2:g0.H=g.H:=c2
  cases g0;cases g
  simp only at c1 c2 h3
  rw[c1,c2,h3]
theorem FldAny.mono{fb:Nat}{room k k':Int}{N:Store}(h:FldAny fb room k N)(hk:k<=k'):FldAny fb room k' N:=by
 rcases h with⟨g,l,Nc,Nr,c,nm,wm,cs,ks,ns,ws,made,cnt,e,h⟩|⟨Nc,Nr,c,cs,ks,made,cnt,x0,x1,x2,x3,y0,y1,e,h1,h2,h3,h4,h5⟩
 ·exact .inl ⟨g,l,Nc,Nr,c,nm,wm,cs,ks,ns,ws,made,cnt,e,⟨⟨h.b.dj,h.b.hC,h.b.hf,h.b.hn,h.b.hw,h.b.d1,h.b.d2,h.b.d3,h.b.r,⟨h.b.n0.1,by have:=h.b.n0;omega⟩,h.b.sz⟩,h.nets,h.ways⟩⟩
 ·exact .inr ⟨Nc,Nr,c,cs,ks,made,cnt,x0,x1,x2,x3,y0,y1,e,h1,h2,h3,⟨h4.1,by omega⟩,h5⟩
theorem ymk{fb:Nat}{room k:Int}{N:Store}(hF:FldAny fb room k N)(g:Gnd)(hT:g.T.length<=1000000)(l:List Bld)(hl:l.length<=1000000)(R:AV->Store->Prop)
  (h:∀Nc Nr c nm wm cs ks ns ws made cnt,FldI fb room g l k Nc Nr c nm wm cs ks ns ws made cnt->R (.tup []) (Nc.un Nr)):ACalls Tryz.prog 266 [ptr fb,.agg (gndC g),lst 6 bldC l] N R:=by
 rcases hF with⟨g0,l0,Nc,Nr,c,nm,wm,cs,ks,ns,ws,made,cnt,rfl,hI⟩|⟨Nc,Nr,c,cs,ks,made,cnt,x0,x1,x2,x3,y0,y1,rfl,h1,h2,h3,h4,h5⟩
 ·have hsz:=hI.b.sz
  refine Qa (c:=cfg 25) zc Tryz.func266 ?_
  refine zvb g0 l0 (by omega) (by omega) (un_r hI.b.hf) g l _ (fun z hz=>?_)
  cases z with
  |true=>
   obtain⟨rfl,rfl⟩:=hz rfl
   exact ret (h Nc Nr c nm wm cs ks ns ws made cnt hI)
  |false=>
   refine zd6 hI.b.dj hI.b.hC hI.b.hf _ (fun Nc1 Nr1 nm' wm' b1 k1 b2 k2 d1 d2 d3 d4 d5 d6 d7 d8=>?_)
   refine zk6 g (by omega) _ _ ?_
   refine zgu l (by omega) _ _ ?_
   have hnc:=qx d1 d3
   refine zh (i:=ti4) (v:=V.bool true) (b:=fb) (o:=2) (l:=[ptr c,int made,V.bool false,int g0.W,int g0.H,byts g0.T,lst 6 bldC l0,mapA nm',mapA wm',int cnt]) (st2:=Nc1.un (Nr1.setObj fb (.cells [ptr c,int made,V.bool true,int g0.W,int g0.H,byts g0.T,lst 6 bldC l0,mapA nm',mapA wm',int cnt]))) rfl rfl rfl (un_r d3) (show 3<=10 by decide) (zi _ _ _ _) ?_
   refine yk (i:=ti23) (v:=.agg (gndC g)) (xs:=gndC g) (b:=fb) (o:=3) (l:=[ptr c,int made,V.bool true,int g0.W,int g0.H,byts g0.T,lst 6 bldC l0,mapA nm',mapA wm',int cnt]) rfl rfl rfl (un_r (zb _ _ _)) (show 6<=10 by decide) ?_
   rw[zi,zg]
   refine zh (i:=ti25) (v:=lst 6 bldC l) (b:=fb) (o:=6) (l:=[ptr c,int made,V.bool true,int g.W,int g.H,byts g.T,lst 6 bldC l0,mapA nm',mapA wm',int cnt]) (st2:=Nc1.un (Nr1.setObj fb (.cells [ptr c,int made,V.bool true,int g.W,int g.H,byts g.T,lst 6 bldC l,mapA nm',mapA wm',int cnt]))) rfl rfl rfl (un_r (zb _ _ _)) (show 7<=10 by decide) (by rw[zi,zg];rfl) ?_
   exact ret (h Nc1 _ c nm' wm' [] [] [] [] made cnt ⟨⟨disj_setR d1 hnc,d2,zb _ _ _,⟨b1,k1,(zd (Ne.symm d6)).trans d4⟩,⟨b2,k2,(zd (Ne.symm d7)).trans d5⟩,d6,d7,d8,hI.b.r,hI.b.n0,⟨hT,hl⟩⟩,fun key b hb=>(by cases hb),CI.nil _ (by have:=hI.b.r.1;omega) cnt⟩)
 ·refine Qa (c:=cfg 25) zc Tryz.func266 ?_
  refine zvc (un_r h5) g l _ ?_
  refine zd6 h1 h2 h5 _ (fun Nc1 Nr1 nm' wm' b1 k1 b2 k2 d1 d2 d3 d4 d5 d6 d7 d8=>?_)
  refine zk6 g (by omega) _ _ ?_
  refine zgu l (by omega) _ _ ?_
  have hnc:=qx d1 d3
  refine zh (i:=ti4) (v:=V.bool true) (b:=fb) (o:=2) (l:=[ptr c,int made,V.bool false,x0,x1,x2,x3,mapA nm',mapA wm',int cnt]) (st2:=Nc1.un (Nr1.setObj fb (.cells [ptr c,int made,V.bool true,x0,x1,x2,x3,mapA nm',mapA wm',int cnt]))) rfl rfl rfl (un_r d3) (show 3<=10 by decide) (zi _ _ _ _) ?_
  refine yk (i:=ti23) (v:=.agg (gndC g)) (xs:=gndC g) (b:=fb) (o:=3) (l:=[ptr c,int made,V.bool true,x0,x1,x2,x3,mapA nm',mapA wm',int cnt]) rfl rfl rfl (un_r (zb _ _ _)) (show 6<=10 by decide) ?_
  rw[zi,zg]
  refine zh (i:=ti25) (v:=lst 6 bldC l) (b:=fb) (o:=6) (l:=[ptr c,int made,V.bool true,int g.W,int g.H,byts g.T,x3,mapA nm',mapA wm',int cnt]) (st2:=Nc1.un (Nr1.setObj fb (.cells [ptr c,int made,V.bool true,int g.W,int g.H,byts g.T,lst 6 bldC l,mapA nm',mapA wm',int cnt]))) rfl rfl rfl (un_r (zb _ _ _)) (show 7<=10 by decide) (by rw[zi,zg];rfl) ?_
  exact ret (h Nc1 _ c nm' wm' [] [] [] [] made cnt ⟨⟨disj_setR d1 hnc,d2,zb _ _ _,⟨b1,k1,(zd (Ne.symm d6)).trans d4⟩,⟨b2,k2,(zd (Ne.symm d7)).trans d5⟩,d6,d7,d8,h3,h4,⟨hT,hl⟩⟩,fun key b hb=>(by cases hb),CI.nil _ (by have:=h3.1;omega) cnt⟩)
theorem yac{S:Store}{pf pc ps px fb b:Nat}{y0 y1 y2 y3 y4 y5 a0 a1 a2 a3:AV}{g:Gnd}{l:List Bld}(hg:gndP g)(hl:l.length<=1000000)(hb:∀b∈l,bldP b/\onP g b)(c s:Int)(hs:0<=s/\s<=3)
  (h1:S.obj pf=some (.cells [ptr fb])) (h2:S.obj pc=some (.cells [int c])) (h3:S.obj ps=some (.cells [int s])) (h4:S.obj px=some (.cells [ptr b]))
  (hf:S.obj fb=some (.cells [y0,y1,y2,int g.W,int g.H,byts g.T,lst 6 bldC l,y3,y4,y5])) (hx:S.obj b=some (.cells [a0,a1,a2,a3])) (R:AV->Store->Prop)
  (h:∀d,Fresh S d->R (.tup []) ((S.setObj d (.cells (netC g l c s))).setObj b (.cells [a0,a1,a2,ptr d]))):ACalls Tryz.prog 268 [ptr pf,ptr pc,ptr ps,ptr px] S R:=by
 refine Qa (c:=cfg 18) zc Tryz.func268 ?_
 refine Qc zc ykz ?_
 refine za (o:=S.obj px) _ h4 ?_
 refine za (o:=S.obj pf) _ h1 ?_
 refine za (o:=S.obj fb) _ hf ?_
 refine za (o:=S.obj pf) _ h1 ?_
 refine za (o:=S.obj fb) _ hf ?_
 refine za (o:=S.obj pc) _ h2 ?_
 refine za (o:=S.obj ps) _ h3 ?_
 refine⟨zf3 g hg l (by omega) hb c s hs _ _ (fun d hfd=>?_),Tv⟩
 have hx2:(S.setObj d (.cells (netC g l c s))).obj b=_:=(zd (fun e=>by have:=hfd.1;rw[<-e,hx]at this;cases this)).trans hx
 have h42:(S.setObj d (.cells (netC g l c s))).obj px=_:=(zd (fun e=>by have:=hfd.1;rw[<-e,h4]at this;cases this)).trans h4
 refine⟨⟨za (o:=(S.setObj d (.cells (netC g l c s))).obj px) _ h42 rfl,Tv⟩,?_⟩
 refine⟨?_,Tv⟩
 refine za _ rfl (zv rfl (zy (v:=ptr d) rfl rfl rfl rfl ?_))
 refine zh (i:=ti221) (v:=ptr d) (b:=b) (o:=3) (l:=[a0,a1,a2,a3]) (st2:=(S.setObj d (.cells (netC g l c s))).setObj b (.cells [a0,a1,a2,ptr d])) rfl rfl rfl hx2 (show 4<=4 by decide) rfl ?_
 refine⟨Tv,?_⟩
 exact ret (h d hfd)
theorem zo2(ex:List Nat){N B:Store}(hd:Disj N B):keepsB ex N (N.un B):=fun i y _ hy=>un_l hd hy
theorem FldI.ext{fb:Nat}{room:Int}{g:Gnd}{l:List Bld}{k:Int}{Nc Nr:Store}{c nm wm:Nat}{cs:List (Int×Int)}{ks:List Int}{ns ws:List (Int×Nat)}{made cnt:Int}(h:FldI fb room g l k Nc Nr c nm wm cs ks ns ws made cnt){B:Store}(hd:Disj (Nc.un Nr) B):FldI fb room g l k Nc (Nr.un B) c nm wm cs ks ns ws made cnt:=by
 have d1:Disj Nr B:=fun i h1 h2=>hd i (un_has.2 (.inr h1)) h2
 have d2:Disj Nc B:=fun i h1 h2=>hd i (un_has.2 (.inl h1)) h2
 obtain⟨b1,k1,e1⟩:=h.b.hn
 obtain⟨b2,k2,e2⟩:=h.b.hw
 refine⟨⟨fun i h1 h2=>?_,h.b.hC,un_l d1 h.b.hf,⟨b1,k1,un_l d1 e1⟩,⟨b2,k2,un_l d1 e2⟩,h.b.d1,h.b.d2,h.b.d3,h.b.r,h.b.n0,h.b.sz⟩,fun key b hb=>(h.nets key b hb).keep (zo2 _ d1) (fun i hi=>.inl hi),h.ways.ways fun key v b hk hw hW=>⟨hw,hW.keep (zo2 _ d1) (fun i hi=>.inl hi)⟩⟩
 rcases un_has.1 h2 with h2|h2
 ·exact h.b.dj i h1 h2
 ·exact d2 i h1 h2
theorem ymj{fb:Nat}{room k:Int}{N B:Store}(hd:Disj N B)(hF:FldAny fb room k N)(g:Gnd)(hT:g.T.length<=1000000)(l:List Bld)(hl:l.length<=1000000)(R:AV->Store->Prop)
  (h:∀Nc Nr c nm wm cs ks ns ws made cnt,(∀i y,B.obj i=some y->Nr.obj i=some y/\i∉[fb,nm,wm])->FldI fb room g l k Nc Nr c nm wm cs ks ns ws made cnt->R (.tup []) (Nc.un Nr)):ACalls Tryz.prog 266 [ptr fb,.agg (gndC g),lst 6 bldC l] (N.un B) R:=by
 refine ACalls.frame hd (ymk hF g hT l hl (fun r S=>∃Nc Nr c nm wm cs ks ns ws made cnt,r=.tup []/\S=Nc.un Nr/\FldI fb room g l k Nc Nr c nm wm cs ks ns ws made cnt) (fun Nc Nr c nm wm cs ks ns ws made cnt hI=>⟨Nc,Nr,c,nm,wm,cs,ks,ns,ws,made,cnt,rfl,rfl,hI⟩)) ?_
 rintro r a' ⟨Nc,Nr,c,nm,wm,cs,ks,ns,ws,made,cnt,rfl,rfl,hI⟩ hd2
 rw[zs4]
 refine h Nc (Nr.un B) c nm wm cs ks ns ws made cnt (fun i y hy=>⟨un_r hy,fun hi=>?_⟩) (hI.ext hd2)
 have hx:∀{j:Nat} {z:AObj},Nr.obj j=some z->i≠j:=fun hz e=>hd2 i (un_has.2 (.inr (e▸yw hz))) (yw hy)
 obtain⟨b1,k1,e1⟩:=hI.b.hn
 obtain⟨b2,k2,e2⟩:=hI.b.hw
 simp only[List.mem_cons,List.not_mem_nil,or_false]at hi
 rcases hi with hi|hi|hi
 ·exact hx hI.b.hf hi
 ·exact hx e1 hi
 ·exact hx e2 hi
theorem zc3{N:Store}(b:Nat)(x:AObj):N.setObj b x=N.un (Store.empty.setObj b x):=by
 have:=zi N Store.empty b x
 rw[zap]at this
 exact this
theorem FldI.box{fb:Nat}{room:Int}{g:Gnd}{l:List Bld}{k:Int}{Nc Nr:Store}{c nm wm:Nat}{cs:List (Int×Int)}{ks:List Int}{ns ws:List (Int×Nat)}{made cnt:Int}(h:FldI fb room g l k Nc Nr c nm wm cs ks ns ws made cnt){p:Nat}(hp:Fresh (Nc.un Nr) p)(x:AObj):FldI fb room g l k Nc (Nr.setObj p x) c nm wm cs ks ns ws made cnt:=by
 rw[zc3 p x]
 refine h.ext fun i h1 h2=>?_
 rcases has_setObj_iff.1 h2 with e|e
 ·exact fresh_iff.1 hp (e▸h1)
 ·exact(e.elim (fun h=>h rfl) (fun h=>h rfl):False)
theorem keepsB.fresh{ex:List Nat}{a b:Store}(h:keepsB ex a b)(he:∀i,i∈ex->b.obj i≠none){p:Nat}(hp:b.obj p=none):p∉ex/\a.obj p=none:=by
 have h1:p∉ex:=fun hh=>he p hh hp
 refine⟨h1,?_⟩
 cases hx:a.obj p with
 |none=>rfl
 |some y=>exact absurd (h p y h1 hx) (by rw[hp];simp)
theorem zoq{fb:Nat}{room k:Int}{N:Store}(hF:FldAny fb room k N)(g:Gnd)(hg:gndP g)(hT:g.T.length<=1000000)(l:List Bld)(hl:l.length<=1000000)(hb:∀b∈l,bldP b/\onP g b)(c s:Int)(hc:clsP c)(hs:0<=s/\s<=3)(R:AV->Store->Prop)
  (h:∀Nc Nr cc nm wm cs ks ns ws made cnt d,FldI fb room g l k Nc Nr cc nm wm cs ks ns ws made cnt->d∉[fb,nm,wm]->Nr.obj d=some (.cells (netC g l c s))->R (ptr d) (Nc.un Nr)):
  ACalls Tryz.prog 264 [ptr fb,.agg (gndC g),lst 6 bldC l,int c,int s] N R:=by
 refine Qa (c:=cfg 50 [5,8,9,12,34] []) zc Tryz.func264 ?_
 intro pf hpf pc hpc ps hps
 have npc:pf≠pc:=fun e=>by have:=hpc.1;rw[<-e,zb]at this;cases this
 have nps1:pf≠ps:=fun e=>by have:=hps.1;rw[<-e,zd npc,zb]at this;cases this
 have nps2:pc≠ps:=fun e=>by have:=hps.1;rw[<-e,zb]at this;cases this
 obtain⟨B,hB⟩:∃B:Store,B=((Store.empty.setObj pf (.cells [ptr fb])).setObj pc (.cells [int c])).setObj ps (.cells [int s]):=⟨_,rfl⟩
 have b1:B.obj pf=some (.cells [ptr fb]):=by rw[hB];exact(zd nps1).trans ((zd npc).trans (zb _ _ _))
 have b2:B.obj pc=some (.cells [int c]):=by rw[hB];exact(zd nps2).trans (zb _ _ _)
 have b3:B.obj ps=some (.cells [int s]):=by rw[hB];exact zb _ _ _
 have eS:((N.setObj pf (.cells [ptr fb])).setObj pc (.cells [int c])).setObj ps (.cells [int s])=N.un B:=by
  rw[hB,zc3 pf,zi,zi]
 have hdB:Disj N B:=by
  intro i h1 h2
  rw[hB]at h2
  rcases has_setObj_iff.1 h2 with h2|h2
  ·have:=fresh_iff.1 hps
   rw[<-h2]at this
   exact this (has_setObj_iff.2 (.inr (has_setObj_iff.2 (.inr h1))))
  ·rcases has_setObj_iff.1 h2 with h2|h2
   ·have:=fresh_iff.1 hpc
    rw[<-h2]at this
    exact this (has_setObj_iff.2 (.inr h1))
   ·rcases has_setObj_iff.1 h2 with h2|h2
    ·exact fresh_iff.1 hpf (h2▸h1)
    ·exact(h2.elim (fun h=>h rfl) (fun h=>h rfl):False)
 have eS2:((N.setObj pf (AObj.cells [AV.s (Value.pointer (some {block:=fb,off:=0}))])).setObj pc (AObj.cells [AV.s (Value.int IntKind.i64 c)])).setObj ps (AObj.cells [AV.s (Value.int IntKind.i64 s)])=N.un B:=eS
 rw[eS2]
 refine za (o:=(N.un B).obj pf) _ (un_r b1) ?_
 refine ymj hdB hF g hT l hl _ (fun Nc Nr cc nm wm cs ks ns ws made cnt hBk hI=>?_)
 obtain⟨t1,o1⟩:=hBk _ _ b1
 obtain⟨t2,o2⟩:=hBk _ _ b2
 obtain⟨t3,o3⟩:=hBk _ _ b3
 clear b1 b2 b3 hBk eS eS2 hdB hB hps hpc hpf hF
 have hcb:0<=c/\c<=2:=by unfold clsP at hc;omega
 refine za (o:=(Nc.un Nr).obj pc) _ (un_r t2) ?_
 refine Qd ?_
 refine za (o:=(Nc.un Nr).obj ps) _ (un_r t3) ?_
 refine Qd ?_
 refine za (o:=(Nc.un Nr).obj pf) _ (un_r t1) ?_
 refine za (o:=(Nc.un Nr).obj fb) _ (un_r hI.b.hf) ?_
 obtain⟨bs,clk,hnm⟩:=hI.b.hn
 refine ya rfl (it:=ti132) (ie:=ti290) (ik:=ti2) rfl rfl rfl rfl (un_r hnm) rfl (qA (4*c+s)) (fun e he=>?_) ?_
 ·obtain⟨e,_,rfl⟩:=List.mem_map.1 he
  rfl
 rw[vp]
 cases hgi:getI ns (4*c+s)with
 |none=>
  refine za (o:=(Nc.un Nr).obj pf) _ (un_r t1) ?_
  refine za (o:=(Nc.un Nr).obj fb) _ (un_r hI.b.hf) ?_
  intro nb hnb
  have f1:=fresh_un hnb
  rw[zi]
  have e1:nm≠nb:=fun e=>by have:=f1.2.1;rw[<-e,hnm]at this;cases this
  refine qe (.inl rfl) rfl (it:=ti132) (ik:=ti2) rfl rfl rfl (un_r ((zd e1).trans hnm)) rfl rfl (qA (4*c+s)) (fun e he=>?_) (fun e1 he hq=>?_) ?_
  ·obtain⟨e,_,rfl⟩:=List.mem_map.1 he
   rfl
  ·obtain⟨e,_,rfl⟩:=List.mem_map.1 he
   have:4*c+s=e.1:=by simpa [qA,entI,int]using hq
   show int e.1=_
   rw[this]
   rfl
  obtain⟨bs',clk',hput⟩:=ju (fun b=>ptr b) ns bs clk (4*c+s) nb
  have hput2:jk (List.map (entI fun b=>ptr b) ns) bs clk (qA (4*c+s)) (AV.s (Value.int IntKind.i64 (4*c+s))) (AV.s (Value.pointer (some {block:=nb,off:=0})))=_:=hput
  rw[hput2,zi]
  have hfn:=hI.b.d1
  have hfw:=hI.b.d2
  have hnw:=hI.b.d3
  obtain⟨bw,kw,hwm⟩:=hI.b.hw
  have e2:fb≠nb:=fun e=>by have:=f1.2.1;rw[<-e,hI.b.hf]at this;cases this
  have e3:wm≠nb:=fun e=>by have:=f1.2.1;rw[<-e,hwm]at this;cases this
  have e4:pf≠nb:=fun e=>by have:=f1.2.1;rw[<-e,t1]at this;cases this
  have e5:pc≠nb:=fun e=>by have:=f1.2.1;rw[<-e,t2]at this;cases this
  have e6:ps≠nb:=fun e=>by have:=f1.2.1;rw[<-e,t3]at this;cases this
  simp only[List.mem_cons,List.not_mem_nil,or_false,not_or]at o1 o2 o3
  obtain⟨N2,hN2⟩:∃N2,N2=(Nr.setObj nb (.cells [u32A 0,i32A 0,u32A 0,.s (.pointer none)])).setObj nm (.map ((putI ns (4*c+s) nb).map (entI fun b=>ptr b)) bs' clk'):=⟨_,rfl⟩
  have eN:Nc.un ((Nr.setObj nb (AObj.cells [AV.s (Value.int IntKind.u32 0),AV.s (Value.int IntKind.i32 0),AV.s (Value.int IntKind.u32 0),AV.s (Value.pointer none)])).setObj nm (AObj.map (List.map (entI fun b=>ptr b) (putI ns (4*c+s) nb)) bs' clk'))=Nc.un N2:=by rw[hN2]
  rw[eN]
  have kN:keepsB [fb,nm,wm] Nr N2:=by
   rw[hN2]
   exact((keepsB.refl _ _).set (.inr f1.2.1)).set (.inl (by simp))
  have v1:=kN pf _ (by simp[o1]) t1
  have v2:=kN pc _ (by simp[o2]) t2
  have v3:=kN ps _ (by simp[o3]) t3
  have v4:N2.obj nm=some (.map ((putI ns (4*c+s) nb).map (entI fun b=>ptr b)) bs' clk'):=by rw[hN2];exact zb _ _ _
  have v5:N2.obj fb=Nr.obj fb:=by rw[hN2];exact(zd hfn).trans (zd e2)
  rw[hI.b.hf]at v5
  have v6:N2.obj wm=Nr.obj wm:=by rw[hN2];exact(zd (Ne.symm hnw)).trans (zd e3)
  rw[hwm]at v6
  have v7:N2.obj nb=some (.cells [u32A 0,i32A 0,u32A 0,.s (.pointer none)]):=by rw[hN2];exact(zd (Ne.symm e1)).trans (zb _ _ _)
  have d2:Disj Nc N2:=by
   rw[hN2]
   exact disj_setR (disj_setR hI.b.dj (fresh_iff.1 f1.1)) (qx hI.b.dj hnm)
  have n1:nb∉[fb,nm,wm]:=by simp[Ne.symm e1,Ne.symm e2,Ne.symm e3]
  clear eN hN2 hput hput2 t1 t2 t3 hnb
  refine za (o:=(Nc.un N2).obj pf) _ (un_r v1) ?_
  refine za (o:=(Nc.un N2).obj fb) _ (un_r v5) ?_
  refine ya rfl (it:=ti132) (ie:=ti290) (ik:=ti2) rfl rfl rfl rfl (un_r v4) rfl (qA (4*c+s)) (fun e he=>?_) ?_
  ·obtain⟨e,_,rfl⟩:=List.mem_map.1 he
   rfl
  rw[vp,js,if_pos rfl]
  intro px hpx
  have f2:=fresh_un hpx
  rw[zi]
  refine zh (i:=ti290) (v:=ptr nb) (b:=px) (o:=0) (l:=[.s (.pointer none)]) (st2:=Nc.un (N2.setObj px (.cells [ptr nb]))) rfl rfl rfl (un_r (zb _ _ _)) (show 1<=1 by decide) (by rw[zi,zg];rfl) ?_
  have fp:=kN.fresh (by
   intro i hi
   simp only[List.mem_cons,List.not_mem_nil,or_false]at hi
   rcases hi with rfl|rfl|rfl
   ·rw[v5];simp
   ·rw[v4];simp
   ·rw[v6];simp) f2.2.1
  have kp:∀{i:Nat} {y:AObj},N2.obj i=some y->(N2.setObj px (.cells [ptr nb])).obj i=some y:=fun{i y} hy=>(zd (fun e=>by have:=f2.2.1;rw[<-e,hy]at this;cases this)).trans hy
  have w1:=kp v1
  have w2:=kp v2
  have w3:=kp v3
  have w4:=kp v4
  have w5:=kp v5
  have w6:=kp v6
  have w7:=kp v7
  have w8:(N2.setObj px (.cells [ptr nb])).obj px=some (.cells [ptr nb]):=zb _ _ _
  have kN3:=kN.set (x:=.cells [ptr nb]) (.inr fp.2)
  have d3:=disj_setR (x:=.cells [ptr nb]) d2 (fresh_iff.1 f2.1)
  clear kp v1 v2 v3 v4 v5 v6 v7 d2 hpx f2 kN
  generalize N2.setObj px (.cells [ptr nb])=N3 at*
  refine za (o:=(Nc.un N3).obj px) _ (un_r w8) ?_
  refine zkw nb (u32A 0) (.s (.pointer none)) _ _ _ _ (un_r w7) ?_
  rw[zi]
  have e7:px≠nb:=fun e=>by rw[e,w7]at w8;cases w8
  have hnc:=qx d3 w7
  refine yac hg hl hb c s hs (un_r ((zd e4).trans w1)) (un_r ((zd e5).trans w2)) (un_r ((zd e6).trans w3)) (un_r ((zd e7).trans w8)) (un_r ((zd e2).trans w5)) (un_r (zb _ _ _)) _ (fun d hfd=>?_)
  have f3:=fresh_un hfd
  refine⟨ptr d,by rw[zi,zi];exact un_r (zb _ _ _),?_⟩
  rw[zi,zi,zi,zg]
  have hdn:d≠nb:=fun e=>by have:=f3.2.1;rw[e,zb]at this;cases this
  have hd3:N3.obj d=none:=by have:=f3.2.1;rwa [zd hdn]at this
  have fd:=kN3.fresh (by
   intro i hi
   simp only[List.mem_cons,List.not_mem_nil,or_false]at hi
   rcases hi with rfl|rfl|rfl
   ·rw[w5];simp
   ·rw[w4];simp
   ·rw[w6];simp) hd3
  have kq:∀{i:Nat} {y:AObj},i≠nb->N3.obj i=some y->(((N3.setObj nb (.cells [u32A 0,i32A 1,u32A 0,.s (.pointer none)])).setObj d (.cells (netC g l c s))).setObj nb (.cells [u32A 1,i32A 0,u32A 0,ptr d])).obj i=some y:=fun{i y} hi hy=>(zd hi).trans ((zd (fun e=>by rw[e,hd3]at hy;cases hy)).trans ((zd hi).trans hy))
  have x8:=kq e7 w8
  have x4:=kq e1 w4
  have x5:=kq e2 w5
  have x6:=kq e3 w6
  have x7:(((N3.setObj nb (.cells [u32A 0,i32A 1,u32A 0,.s (.pointer none)])).setObj d (.cells (netC g l c s))).setObj nb (.cells [u32A 1,i32A 0,u32A 0,ptr d])).obj nb=some (.cells [u32A 1,i32A 0,u32A 0,ptr d]):=zb _ _ _
  have x9:(((N3.setObj nb (.cells [u32A 0,i32A 1,u32A 0,.s (.pointer none)])).setObj d (.cells (netC g l c s))).setObj nb (.cells [u32A 1,i32A 0,u32A 0,ptr d])).obj d=some (.cells (netC g l c s)):=(zd hdn).trans (zb _ _ _)
  have k4:=((kN3.set (p:=nb) (x:=.cells [u32A 0,i32A 1,u32A 0,.s (.pointer none)]) (.inr f1.2.1)).set (p:=d) (x:=.cells (netC g l c s)) (.inr fd.2)).set (p:=nb) (x:=.cells [u32A 1,i32A 0,u32A 0,ptr d]) (.inr f1.2.1)
  have d4:Disj Nc (((N3.setObj nb (.cells [u32A 0,i32A 1,u32A 0,.s (.pointer none)])).setObj d (.cells (netC g l c s))).setObj nb (.cells [u32A 1,i32A 0,u32A 0,ptr d])):=disj_setR (disj_setR (disj_setR d3 hnc) (fresh_iff.1 f3.1)) hnc
  clear kq w1 w2 w3 w4 w5 w6 w7 w8 d3 kN3 f3 hfd
  generalize((N3.setObj nb (.cells [u32A 0,i32A 1,u32A 0,.s (.pointer none)])).setObj d (.cells (netC g l c s))).setObj nb (.cells [u32A 1,i32A 0,u32A 0,ptr d])=N4 at*
  refine za (o:=(Nc.un N4).obj px) _ (un_r x8) ?_
  refine za (o:=(Nc.un N4).obj nb) _ (un_r x7) ?_
  refine ret (h Nc N4 cc nm wm cs ks (putI ns (4*c+s) nb) ws made cnt d ⟨⟨d4,hI.b.hC,x5,⟨_,_,x4⟩,⟨_,_,x6⟩,hfn,hfw,hnw,hI.b.r,hI.b.n0,hI.b.sz⟩,fun key b hb=>?_,hI.ways.ways fun key v b hk hw hW=>⟨hw,hW.keep k4 fun i hi=>.inl hi⟩⟩ fd.1 x9)
  rw[js]at hb
  by_cases e:key=4*c+s
  ·rw[if_pos e]at hb
   cases hb
   exact⟨n1,_,d,c,s,x7,fd.1,hc,hs,e,x9⟩
  ·rw[if_neg e]at hb
   exact(hI.nets key b hb).keep k4 fun i hi=>.inl hi
 |some b=>
  obtain⟨hbx,s1,d,c1,s1',hob,hdx,hc1,hs1,hke,hod⟩:=hI.nets _ _ hgi
  have ec:c1=c/\s1'=s:=by unfold clsP at hc1;omega
  rw[ec.1,ec.2]at hod
  refine za (o:=(Nc.un Nr).obj pf) _ (un_r t1) ?_
  refine za (o:=(Nc.un Nr).obj fb) _ (un_r hI.b.hf) ?_
  refine ya rfl (it:=ti132) (ie:=ti290) (ik:=ti2) rfl rfl rfl rfl (un_r hnm) rfl (qA (4*c+s)) (fun e he=>?_) ?_
  ·obtain⟨e,_,rfl⟩:=List.mem_map.1 he
   rfl
  rw[vp,hgi]
  intro px hpx
  have f2:=fresh_un hpx
  rw[zi]
  refine zh (i:=ti290) (v:=ptr b) (b:=px) (o:=0) (l:=[.s (.pointer none)]) (st2:=Nc.un (Nr.setObj px (.cells [ptr b]))) rfl rfl rfl (un_r (zb _ _ _)) (show 1<=1 by decide) (by rw[zi,zg];rfl) ?_
  have hI2:=hI.box hpx (.cells [ptr b])
  have u1:(Nr.setObj px (.cells [ptr b])).obj px=some (.cells [ptr b]):=zb _ _ _
  have u2:(Nr.setObj px (.cells [ptr b])).obj b=_:=(zd (fun e=>by have:=f2.2.1;rw[<-e,hob]at this;cases this)).trans hob
  have u3:(Nr.setObj px (.cells [ptr b])).obj d=_:=(zd (fun e=>by have:=f2.2.1;rw[<-e,hod]at this;cases this)).trans hod
  clear hpx f2 hob hod hnm t1 t2 t3
  generalize Nr.setObj px (.cells [ptr b])=N2 at*
  refine za (o:=(Nc.un N2).obj px) _ (un_r u1) ?_
  refine zkx b _ _ _ _ (un_r u2) ?_
  refine za (o:=(Nc.un N2).obj px) _ (un_r u1) ?_
  refine za (o:=(Nc.un N2).obj b) _ (un_r u2) ?_
  exact ret (h Nc N2 cc nm wm cs ks ns ws made cnt d hI2 hdx u3)
theorem zxw{P:Program}{l:Nat}{args:List AV}{st:Store}{R R':AV->Store->Prop}(h:AYield P l args st R)(hR:∀r s,R r s->R' r s):AYield P l args st R':=by
 refine⟨fun Oth M w vs sto hr=>?_⟩
 obtain⟨fn,tmps,as1,body,h1,h2⟩:=h.out Oth M w vs sto hr
 exact⟨fn,tmps,as1,body,h1,h2.mono fun e w' ⟨v,he,r,s,M',k1,k2⟩=>⟨v,he,r,s,M',hR r s k1,k2⟩⟩
theorem zxk(U:List Int)(st:Store)(R:AV->Store->Prop)(h:∀p,Fresh st p->R (.clos 297 [ptr p]) (st.setObj p (.cells [ints U]))):
  ACalls Tryz.prog 282 [ints U] st R:=by
 refine Qa (c:=cfg 4 [1] []) zc Tryz.func282 ?_
 intro p hp
 exact ret (h p hp)
theorem zso(U:List Int)(hU:U.length<=1000000000)(p l:Nat)(I:Nat->Store->Prop)(hp:∀i S,I i S->S.obj p=some (.cells [ints U]))
  (hy:∀i S (hi:i<U.length),I (i+1) S->AYield Tryz.prog l [int (i:Nat),int U[i]] S fun r S'=>r=V.bool true/\I i S')
  (st:Store) (h0:I U.length st) (R:AV->Store->Prop) (h:∀S,I 0 S->R (.tup []) S):ACalls Tryz.prog 297 [.s (.func (.yield l) #[] #[]),ptr p] st R:=by
 refine Qa (c:=cfg 19) zc Tryz.func297 ?_
 refine za (o:=st.obj p) _ (hp _ _ h0) ?_
 refine in64 (by rw[zk];omega) ?_
 refine AWp.loop (σ:=Nat×Int) ⟨fun i=>[(0,.av (.s (.func (.yield l) #[] #[]))),(1,.av (ptr p)),(3,.av (int i.2))],fun _=>[],fun i st'=>i.1<=U.length/\i.2=(i.1:Int)-1/\I i.1 st',fun i=>i.1⟩ zc ?_ ?_
 ·exact⟨(U.length,_),Tv,⟨Nat.le_refl _,by rw[zk],h0⟩,⟨Tq,Tq,Tq,Tv⟩,Tv⟩
 rintro⟨i,j⟩ st' ⟨hi,hj,hI⟩
 dsimp only at hi hj hI⊢
 subst hj
 refine bcd (fun c1=>?_) (fun c1=>?_)
 rotate_left
 ·have:i=0:=by omega
  subst this
  exact ret (h _ hI)
 obtain⟨k,rfl⟩:∃k,i=k+1:=⟨i-1,by omega⟩
 refine za (o:=st'.obj p) _ (hp _ _ hI) ?_
 refine⟨k,by omega,za _ (zj (show k<U.length by omega)) ?_⟩
 have hk:k<U.length:=by omega
 have he:(((k+1:Nat):Int)-1)=(k:Nat):=by omega
 rw[he]
 refine zxw (hy k st' hk hI) ?_
 rintro r S' ⟨rfl,hI2⟩
 refine Qd ?_
 exact⟨(k,_),(show k<k+1 by omega),⟨by dsimp only;omega,rfl,hI2⟩,⟨Tq,Tq,Tq,Tv⟩,Tv⟩
theorem zpw{S:Store}{p b:Nat}(h:p≠b):(S.delObj b).obj p=S.obj p:=by
 show(bif Nat.beq p b then none else S.obj p)=_
 rw[nbeq h]
 rfl
theorem zyc{a g:Store}{b:Nat}(h:a.obj b=none):(a.un g).delObj b=a.un (g.delObj b):=by
 show Store.mk _ _=Store.mk _ _
 congr 1
 funext i
 show(bif Nat.beq i b then none else(match g.obj i with|some x=>some x|none=>a.obj i))=(match(bif Nat.beq i b then none else g.obj i)with|some x=>some x|none=>a.obj i)
 cases hb:Nat.beq i b with
 |false=>rfl
 |true=>
  have:i=b:=(yx _ _).1 hb
  subst this
  exact h.symm
theorem ync{a g:Store}(hd:Disj a g)(b:Nat):Disj a (g.delObj b):=fun i h1 h2=>by
 refine hd i h1 ?_
 rcases h2 with h2|h2
 ·refine .inl fun h3=>h2 ?_
  show(bif Nat.beq i b then none else g.obj i)=none
  rw[h3]
  cases Nat.beq i b<;>rfl
 ·exact .inr h2
theorem fneU{a g:Store}{b p:Nat}{x:AObj}(h:Fresh (a.un g) p)(hb:g.obj b=some x):b≠p:=fun e=>by
 have:=(fresh_un h).2.1
 rw[<-e,hb]at this
 cases this
set_option maxHeartbeats 1000000 in
theorem zke{fb:Nat}{room:Int}{g:Gnd}{l:List Bld}{k:Int}{Nc Nr:Store}{c nm wm:Nat}{cs:List (Int×Int)}{ks:List Int}{ns ws:List (Int×Nat)}{made cnt:Int}(hB:FldB fb room g l k Nc Nr c nm wm cs ks ns ws made cnt){W:Int->Nat->Prop}(hI:CI W room cs ks ws cnt)(R:AV->Store->Prop)
  (h:∀Nc' Nr' wm' ks' ws',FldB fb room g l k Nc' Nr' c nm wm' cs ks' ns ws' made cnt->CI W room cs ks' ws' cnt->(wm'=wm\/Nr.obj wm'=none)->keepsB [fb,nm,wm] Nr Nr'->R (.tup []) (Nc'.un Nr')):
  ACalls Tryz.prog 272 [ptr fb] (Nc.un Nr) R:=by
 have hks:(ks.length:Int)<=4096:=by have:=hI.len;have:=hB.r;omega
 refine Qb (c:=cfg 49 [1,3] []) zc Tryz.func272 ?_
 refine AWp.seq (AWp.of_vc zc ?_)
 intro pf hpf
 have f1:=fresh_un hpf
 rw[zi]
 have kf:∀{i:Nat} {y:AObj},Nr.obj i=some y->(Nr.setObj pf (.cells [ptr fb])).obj i=some y:=fun{i y} hy=>(zd (fneU hpf hy)).trans hy
 obtain⟨b1,k1,hnm⟩:=hB.hn
 obtain⟨b2,k2,hwm⟩:=hB.hw
 have t1:=kf hB.hf
 have t2:=kf hnm
 have t3:=kf hwm
 have t4:(Nr.setObj pf (.cells [ptr fb])).obj pf=some (.cells [ptr fb]):=zb _ _ _
 have d1:=disj_setR (x:=.cells [ptr fb]) hB.dj (fresh_iff.1 f1.1)
 have n1:keepsB [fb,nm,wm] Nr (Nr.setObj pf (.cells [ptr fb])):=(keepsB.refl _ _).set (.inr f1.2.1)
 clear kf f1 hpf
 rw[show Nc.un (Nr.setObj pf (AObj.cells [AV.s (Value.pointer (some {block:=fb,off:=0}))]))=Nc.un (Nr.setObj pf (.cells [ptr fb]))from rfl]
 generalize Nr.setObj pf (.cells [ptr fb])=N1 at*
 refine AWp.seq (AWp.of_vc zc ?_)
 refine za (o:=(Nc.un N1).obj pf) _ (un_r t4) ?_
 refine za (o:=(Nc.un N1).obj fb) _ (un_r t1) ?_
 refine zwf d1 hB.hC (by omega) _ (fun Nc1 d2 hC1=>?_)
 refine AWp.seq (AWp.of_vc zc ?_)
 refine za (o:=(Nc1.un N1).obj pf) _ (un_r t4) ?_
 refine za (o:=(Nc1.un N1).obj fb) _ (un_r t1) ?_
 refine za (o:=(Nc1.un N1).obj wm) _ (un_r t3) ?_
 refine in64 (by rw[zk];omega) ?_
 refine bcd (fun c1=>?_) (fun c1=>?_)
 ·refine ret (h Nc1 N1 wm ks ws ⟨d2,hC1,t1,⟨_,_,t2⟩,⟨_,_,t3⟩,hB.d1,hB.d2,hB.d3,hB.r,hB.n0,hB.sz⟩ hI (.inl rfl) n1)
 refine AWp.seq (AWp.of_vc zc ?_)
 refine xa rfl (fun km hkm=>?_)
 intro p3 hp3
 have f2:=fresh_un hkm
 rw[zi]at hp3⊢
 have f3:=fresh_un hp3
 rw[zi]
 refine zh (i:=ti133) (v:=mapA km) (b:=p3) (o:=0) (l:=[.s (.map none)]) (st2:=Nc1.un ((N1.setObj km (.map [] [] 0)).setObj p3 (.cells [mapA km]))) rfl rfl rfl (un_r (zb _ _ _)) (show 1<=1 by decide) (by rw[zi,zg];rfl) ?_
 have q3:km≠p3:=fun e=>by have:=f3.2.1;rw[<-e,zb]at this;cases this
 have kf:∀{i:Nat} {y:AObj},N1.obj i=some y->((N1.setObj km (.map [] [] 0)).setObj p3 (.cells [mapA km])).obj i=some y:=fun{i y} hy=>by
  have e1:i≠km:=fun e=>by have:=f2.2.1;rw[<-e,hy]at this;cases this
  have e2:i≠p3:=fun e=>by have:=f3.2.1;rw[<-e,zd e1,hy]at this;cases this
  exact(zd e2).trans ((zd e1).trans hy)
 have s1:=kf t1
 have s2:=kf t2
 have s3:=kf t3
 have s4:=kf t4
 have s5:((N1.setObj km (.map [] [] 0)).setObj p3 (.cells [mapA km])).obj p3=some (.cells [mapA km]):=zb _ _ _
 have s6:((N1.setObj km (.map [] [] 0)).setObj p3 (.cells [mapA km])).obj km=some (.map [] [] 0):=(zd q3).trans (zb _ _ _)
 have n2:keepsB [fb,nm,wm] Nr ((N1.setObj km (.map [] [] 0)).setObj p3 (.cells [mapA km])):=fun i y hi hy=>kf (n1 i y hi hy)
 have d3:Disj Nc1 ((N1.setObj km (.map [] [] 0)).setObj p3 (.cells [mapA km])):=disj_setR (disj_setR d2 (fresh_iff.1 f2.1)) (fresh_iff.1 f3.1)
 have fkm:Nr.obj km=none:=(n1.fresh (by
   intro i hi
   simp only[List.mem_cons,List.not_mem_nil,or_false]at hi
   rcases hi with rfl|rfl|rfl
   ·rw[t1];simp
   ·rw[t2];simp
   ·rw[t3];simp) f2.2.1).2
 have g1:fb≠km:=fun e=>by have:=f2.2.1;rw[<-e,t1]at this;cases this
 have g2:nm≠km:=fun e=>by have:=f2.2.1;rw[<-e,t2]at this;cases this
 have g3:wm≠km:=fun e=>by have:=f2.2.1;rw[<-e,t3]at this;cases this
 have g4:pf≠km:=fun e=>by have:=f2.2.1;rw[<-e,t4]at this;cases this
 clear kf f2 f3 hkm hp3 n1 t1 t2 t3 t4 d2
 generalize(N1.setObj km (.map [] [] 0)).setObj p3 (.cells [mapA km])=N2 at*
 refine AWp.seq (AWp.seq (AWp.of_vc zc ?_))
 refine zxk ks _ _ (fun pb hpb=>?_)
 have f4:=fresh_un hpb
 rw[zi]
 have kg:∀{i:Nat} {y:AObj},N2.obj i=some y->(N2.setObj pb (.cells [ints ks])).obj i=some y:=fun{i y} hy=>(zd (fneU hpb hy)).trans hy
 have t1:=kg s1
 have t2:=kg s2
 have t3:=kg s3
 have t4:=kg s4
 have t5:=kg s5
 have t6:=kg s6
 have t7:(N2.setObj pb (.cells [ints ks])).obj pb=some (.cells [ints ks]):=zb _ _ _
 have n3:keepsB [fb,nm,wm] Nr (N2.setObj pb (.cells [ints ks])):=fun i y hi hy=>kg (n2 i y hi hy)
 have d4:=disj_setR (x:=.cells [ints ks]) d3 (fresh_iff.1 f4.1)
 have g7:pb≠km:=Ne.symm (fneU hpb s6)
 clear kg s1 s2 s3 s4 s5 s6 n2 d3 f4 hpb
 generalize N2.setObj pb (.cells [ints ks])=N3 at*
 refine AWp.block (AWp.rangeFunc rfl rfl Tryz.func297 (by rfl) (by rfl) [(1,ptr pf),(3,ptr p3)] (fun p hp=>?_) (fun q hq=>?_) (by decide) (by decide) (fun lo X Y hfl hround=>?_))
 ·simp only[List.mem_cons,List.not_mem_nil,or_false]at hp
  rcases hp with rfl|rfl<;>rfl
 ·simp only[List.mem_cons,List.not_mem_nil,or_false]at hq
  rcases hq with rfl|rfl<;>simp
 have f5:=fresh_un hfl
 have hlo:∀{i:Nat} {y:AObj},N3.obj i=some y->i≠lo:=fun{i y} hy=>fneU hfl hy
 have d5:Disj Nc1 (N3.setObj lo X):=disj_setR d4 (fresh_iff.1 f5.1)
 rw[zi]
 refine zso ks (by omega) pb lo (fun i S=>∃Nc' N' ks' kp bs clk,S=Nc'.un N'/\Disj Nc' N'/\yj Nc' c room cs ks'/\CI W room cs ks' ws cnt/\keepsB [km,lo] N3 N'/\N'.obj lo=some X/\N'.obj km=some (.map (kp.map (entI fun b=>ptr b)) bs clk)/\∀(j:Nat) (key v:Int),i<=j->ks[j]?=some key->getI cs key=some v->getI kp v=getI ws v) (fun i S hS=>?_) ?_ _ ?_ _ ?_
 ·obtain⟨Nc',N',ks',kp,bs,clk,rfl,e1,e2,e3,e4,e5,e6,e7⟩:=hS
  exact un_r (e4 pb _ (by simp[g7,hlo t7]) t7)
 ·rintro i S hi ⟨Nc',N',ks',kp,bs,clk,rfl,e1,e2,e3,e4,e5,e6,e7⟩
  refine hround (Nc'.un N') _ _ (un_r e5) rfl ?_
  refine AWp.of_vc zc ?_
  refine⟨rfl,un_r e5,AWp.of_vc zc ?_⟩
  rw[zi]
  have hl3:∀{i:Nat} {y:AObj},N3.obj i=some y->i≠km->(N'.setObj lo Y).obj i=some y:=fun{i y} hy hn=>(zd (hlo hy)).trans (e4 i y (by simp[hn,hlo hy]) hy)
  have r1:=hl3 t1 g1
  have r3:=hl3 t3 g3
  have r4:=hl3 t4 g4
  have r5:=hl3 t5 (fun e=>by rw[e,t6]at t5;cases t5)
  have r6:(N'.setObj lo Y).obj km=_:=(zd (hlo t6)).trans e6
  have r7:(N'.setObj lo Y).obj lo=some Y:=zb _ _ _
  have r8:keepsB [km,lo] N3 (N'.setObj lo Y):=fun i y hi hy=>(zd (fun e=>hi (by simp[e]))).trans (e4 i y hi hy)
  have hll:N3.obj lo=none:=f5.2.1
  have d6:Disj Nc' (N'.setObj lo Y):=disj_setR e1 (qx e1 e5)
  have hks':(ks'.length:Int)<=4096:=by have:=e3.len;have:=hB.r;omega
  have hki:ks[i]?=some ks[i]:=List.getElem?_eq_getElem hi
  clear hl3 e6 e4 e1
  generalize N'.setObj lo Y=N4 at*
  refine za (o:=(Nc'.un N4).obj pf) _ (un_r r4) ?_
  refine za (o:=(Nc'.un N4).obj fb) _ (un_r r1) ?_
  refine zpi d6 e2 (by omega) ks[i] _ (fun hn Nc2 dd hC2=>?_) (fun v hv Nc2 dd hC2=>?_)
  ·refine⟨rfl,un_r r7,rfl,Nc2,N4.setObj lo X,ks',kp,bs,clk,zi _ _ _ _,disj_setR dd (qx dd r7),hC2,e3,r8.set (.inl (by simp)),zb _ _ _,(zd (hlo t6)).trans r6,fun j key v hij hj hk=>?_⟩
   rcases Nat.lt_or_ge i j with h1|h1
   ·exact e7 j key v h1 hj hk
   ·have:j=i:=by omega
    subst this
    rw[hki]at hj
    cases hj
    rw[hn]at hk
    cases hk
  ·obtain⟨_,_,wb,hwb,_⟩:=e3.ok _ _ hv
   refine Qc zc ykw ?_
   refine za (o:=(Nc2.un N4).obj p3) _ (un_r r5) ?_
   refine za (o:=(Nc2.un N4).obj pf) _ (un_r r4) ?_
   refine za (o:=(Nc2.un N4).obj fb) _ (un_r r1) ?_
   refine⟨ya rfl (it:=ti133) (ie:=ti305) (ik:=ti2) rfl rfl rfl rfl (un_r r3) rfl (qA v) (fun e he=>?_) ?_,Tv⟩
   ·obtain⟨e,_,rfl⟩:=List.mem_map.1 he
    rfl
   rw[vp,hwb]
   refine⟨⟨za (o:=(Nc2.un N4).obj p3) _ (un_r r5) rfl,Tv⟩,?_⟩
   refine⟨qe (.inl rfl) rfl (it:=ti133) (ik:=ti2) rfl rfl rfl (un_r r6) rfl rfl (qA v) (fun e he=>?_) (fun e1 he hq=>?_) ?_,Tv⟩
   ·obtain⟨e,_,rfl⟩:=List.mem_map.1 he
    rfl
   ·obtain⟨e,_,rfl⟩:=List.mem_map.1 he
    have:v=e.1:=by simpa [qA,entI,int]using hq
    show int e.1=_
    rw[this]
   obtain⟨bs',clk',hput⟩:=ju (fun b=>ptr b) kp bs clk v wb
   have hput2:jk (List.map (entI fun b=>ptr b) kp) bs clk (qA v) (int v) ((Option.map (fun b=>ptr b) (some wb)).getD (zb0 ti305))=_:=hput
   rw[hput2,zi]
   have hnc:=qx dd r6
   have x7:(N4.setObj km (.map ((putI kp v wb).map (entI fun b=>ptr b)) bs' clk')).obj lo=some Y:=(zd (Ne.symm (hlo t6))).trans r7
   have x6:(N4.setObj km (.map ((putI kp v wb).map (entI fun b=>ptr b)) bs' clk')).obj km=_:=zb _ _ _
   have x8:=r8.set (p:=km) (x:=.map ((putI kp v wb).map (entI fun b=>ptr b)) bs' clk') (.inl (by simp))
   have xd:Disj Nc2 (N4.setObj km (.map ((putI kp v wb).map (entI fun b=>ptr b)) bs' clk')):=disj_setR dd hnc
   refine⟨Tv,?_⟩
   generalize N4.setObj km (.map ((putI kp v wb).map (entI fun b=>ptr b)) bs' clk')=N5 at*
   refine⟨rfl,un_r x7,rfl,Nc2,N5.setObj lo X,ks[i]::ks'.erase ks[i],putI kp v wb,bs',clk',zi _ _ _ _,disj_setR xd (qx xd x7),hC2,e3.hit hv,x8.set (.inl (by simp)),zb _ _ _,(zd (hlo t6)).trans x6,fun j key v2 hij hj hk=>?_⟩
   rw[js]
   by_cases hv2:v2=v
   ·rw[if_pos hv2,hv2,hwb]
   ·rw[if_neg hv2]
    rcases Nat.lt_or_ge i j with h1|h1
    ·exact e7 j key v2 h1 hj hk
    ·have:j=i:=by omega
     subst this
     rw[hki]at hj
     cases hj
     rw[hv]at hk
     cases hk
     exact absurd rfl hv2
 ·refine⟨Nc1,N3.setObj lo X,ks,[],[],0,rfl,d5,hC1,hI,(keepsB.refl _ _).set (.inl (by simp)),zb _ _ _,(zd (hlo t6)).trans t6,fun j key v hj hk=>?_⟩
  rw[List.getElem?_eq_none hj]at hk
  cases hk
 ·rintro S ⟨Nc',N',ks',kp,bs,clk,rfl,e1,e2,e3,e4,e5,e6,e7⟩
  refine⟨un_r e5,?_⟩
  rw[zyc (vg (qx e1 e5)).1]
  have hl3:∀{i:Nat} {y:AObj},N3.obj i=some y->i≠km->(N'.delObj lo).obj i=some y:=fun{i y} hy hn=>(zpw (hlo hy)).trans (e4 i y (by simp[hn,hlo hy]) hy)
  have r1:=hl3 t1 g1
  have r2:=hl3 t2 g2
  have r3:=hl3 t3 g3
  have r4:=hl3 t4 g4
  have r5:=hl3 t5 (fun e=>by rw[e,t6]at t5;cases t5)
  have r6:(N'.delObj lo).obj km=_:=(zpw (hlo t6)).trans e6
  have d6:Disj Nc' (N'.delObj lo):=ync e1 lo
  have r8:keepsB [fb,nm,wm] Nr (N'.delObj lo):=fun i y hi hy=>hl3 (n3 i y hi hy) (fun e=>by rw[e,fkm]at hy;cases hy)
  clear e6 e5 e4 e1 hl3
  generalize N'.delObj lo=N5 at*
  refine AWp.of_vc zc ?_
  refine za (o:=(Nc'.un N5).obj pf) _ (un_r r4) ?_
  refine za (o:=(Nc'.un N5).obj p3) _ (un_r r5) ?_
  refine zh (i:=ti133) (v:=mapA km) (b:=fb) (o:=8) (l:=[ptr c,int made,V.bool true,int g.W,int g.H,byts g.T,lst 6 bldC l,mapA nm,mapA wm,int cnt]) (st2:=Nc'.un (N5.setObj fb (.cells [ptr c,int made,V.bool true,int g.W,int g.H,byts g.T,lst 6 bldC l,mapA nm,mapA km,int cnt]))) rfl rfl rfl (un_r r1) (show 9<=10 by decide) (zi _ _ _ _) ?_
  refine ret (h Nc' _ km ks' kp ⟨disj_setR d6 (qx d6 r1),e2,zb _ _ _,⟨_,_,(zd (Ne.symm hB.d1)).trans r2⟩,⟨_,_,(zd (Ne.symm g1)).trans r6⟩,hB.d1,g1,g2,hB.r,hB.n0,hB.sz⟩ (e3.ways fun key v b hk hw hW=>⟨?_,hW⟩) (.inr fkm) (r8.set (.inl (by simp))))
  obtain⟨j,hj⟩:=List.mem_iff_getElem?.1 (hI.ok key v hk).1
  rw[e7 j key v (Nat.zero_le _) hj hk]
  exact hw
theorem zx4{S:Store}{pf pn pg px fb b d:Nat}{a0 a1 a2 a3 y0 y1 y2 y3 y4 y5 y6 y7 y8:AV}{made:Int}{g:Gnd}{l:List Bld}(hg:gndP g){c s:Int}(goal:Nat)(hgo:goal<g.T.length)
  (h1:S.obj pf=some (.cells [ptr fb])) (h2:S.obj pn=some (.cells [ptr d])) (h3:S.obj pg=some (.cells [int goal])) (h4:S.obj px=some (.cells [ptr b]))
  (hf:S.obj fb=some (.cells [y0,int made,y1,y2,y3,y4,y5,y6,y7,y8])) (hx:S.obj b=some (.cells [a0,a1,a2,a3])) (hd:S.obj d=some (.cells (netC g l c s))) (hdf:d≠fb) (R:AV->Store->Prop)
  (h:∀m d2,Fresh S d2->d2≠fb->R (.tup []) (((S.setObj fb (.cells [y0,int m,y1,y2,y3,y4,y5,y6,y7,y8])).setObj d2 (.cells (wayL g l c s goal))).setObj b (.cells [a0,a1,a2,.s (.slice (some ⟨d2,0,none⟩) g.T.length g.T.length)]))):ACalls Tryz.prog 273 [ptr pf,ptr pn,ptr pg,ptr px] S R:=by
 refine Qa (c:=cfg 14) zc Tryz.func273 ?_
 refine za (o:=S.obj pf) _ h1 ?_
 refine ziv fb 1 _ made 1 _ _ hf rfl fun m=>?_
 rw[show S.setObj fb (.cells (zo [y0,int made,y1,y2,y3,y4,y5,y6,y7,y8] 1 [AV.s (Value.int IntKind.i64 m)]))=S.setObj fb (.cells [y0,int m,y1,y2,y3,y4,y5,y6,y7,y8])from rfl]
 have k1:(S.setObj fb (.cells [y0,int m,y1,y2,y3,y4,y5,y6,y7,y8])).obj pn=some (.cells [ptr d]):=(zd (fun e=>by rw[e,hf]at h2;cases h2)).trans h2
 have k2:(S.setObj fb (.cells [y0,int m,y1,y2,y3,y4,y5,y6,y7,y8])).obj pg=some (.cells [int goal]):=(zd (fun e=>by rw[e,hf]at h3;cases h3)).trans h3
 have k3:(S.setObj fb (.cells [y0,int m,y1,y2,y3,y4,y5,y6,y7,y8])).obj px=some (.cells [ptr b]):=(zd (fun e=>by rw[e,hf]at h4;cases h4)).trans h4
 have k4:(S.setObj fb (.cells [y0,int m,y1,y2,y3,y4,y5,y6,y7,y8])).obj b=some (.cells [a0,a1,a2,a3]):=(zd (fun e=>by rw[e,hf]at hx;cases hx)).trans hx
 have k5:(S.setObj fb (.cells [y0,int m,y1,y2,y3,y4,y5,y6,y7,y8])).obj d=some (.cells (netC g l c s)):=(zd hdf).trans hd
 have hh:=fun d2 (hq:Fresh (S.setObj fb (.cells [y0,int m,y1,y2,y3,y4,y5,y6,y7,y8])) d2)=>h m d2 (by
  have e:d2≠fb:=fun e=>by have:=hq.1;rw[e,zb]at this;cases this
  have:=hq
  unfold Fresh at this⊢
  rw[zd e]at this
  exact this) (fun e=>by have:=hq.1;rw[e,zb]at this;cases this)
 clear h h1 h2 h3 h4 hx hd hf
 generalize S.setObj fb (.cells [y0,int m,y1,y2,y3,y4,y5,y6,y7,y8])=S1 at*
 refine Qc zc ykv ?_
 refine za (o:=S1.obj px) _ k3 ?_
 refine za (o:=S1.obj pn) _ k1 ?_
 refine za (o:=S1.obj pg) _ k2 ?_
 refine⟨zhs hg k5 goal hgo _ (fun d2 hfd=>?_),Tv⟩
 have e3:(S1.setObj d2 (.cells (wayL g l c s goal))).obj px=_:=(zd (fun e=>by have:=hfd.1;rw[<-e,k3]at this;cases this)).trans k3
 have e4:(S1.setObj d2 (.cells (wayL g l c s goal))).obj b=_:=(zd (fun e=>by have:=hfd.1;rw[<-e,k4]at this;cases this)).trans k4
 refine⟨⟨za (o:=(S1.setObj d2 (.cells (wayL g l c s goal))).obj px) _ e3 rfl,Tv⟩,?_⟩
 refine⟨?_,Tv⟩
 refine za _ rfl (zv rfl (zy (v:=.s (.slice (some ⟨d2,0,none⟩) g.T.length g.T.length)) rfl rfl rfl rfl ?_))
 refine zh (i:=ti29) (v:=.s (.slice (some ⟨d2,0,none⟩) g.T.length g.T.length)) (b:=b) (o:=3) (l:=[a0,a1,a2,a3]) (st2:=(S1.setObj d2 (.cells (wayL g l c s goal))).setObj b (.cells [a0,a1,a2,.s (.slice (some ⟨d2,0,none⟩) g.T.length g.T.length)])) rfl rfl rfl e4 (show 4<=4 by decide) rfl ?_
 refine⟨Tv,?_⟩
 exact ret (hh d2 hfd)
theorem yab{fb:Nat}{room k:Int}{N B:Store}(hd:Disj N B)(hF:FldAny fb room k N)(g:Gnd)(hg:gndP g)(hT:g.T.length<=1000000)(l:List Bld)(hl:l.length<=1000000)(hb:∀b∈l,bldP b/\onP g b)(c s:Int)(hc:clsP c)(hs:0<=s/\s<=3)(R:AV->Store->Prop)
  (h:∀Nc Nr cc nm wm cs ks ns ws made cnt d,(∀i y,B.obj i=some y->Nr.obj i=some y/\i∉[fb,nm,wm])->FldI fb room g l k Nc Nr cc nm wm cs ks ns ws made cnt->d∉[fb,nm,wm]->Nr.obj d=some (.cells (netC g l c s))->R (ptr d) (Nc.un Nr)):
  ACalls Tryz.prog 264 [ptr fb,.agg (gndC g),lst 6 bldC l,int c,int s] (N.un B) R:=by
 refine ACalls.frame hd (zoq hF g hg hT l hl hb c s hc hs (fun r S=>∃Nc Nr c' nm wm cs ks ns ws made cnt d,r=ptr d/\S=Nc.un Nr/\FldI fb room g l k Nc Nr c' nm wm cs ks ns ws made cnt/\d∉[fb,nm,wm]/\Nr.obj d=some (.cells (netC g l c s))) (fun Nc Nr c' nm wm cs ks ns ws made cnt d hI h1 h2=>⟨Nc,Nr,c',nm,wm,cs,ks,ns,ws,made,cnt,d,rfl,rfl,hI,h1,h2⟩)) ?_
 rintro r a' ⟨Nc,Nr,c',nm,wm,cs,ks,ns,ws,made,cnt,d,rfl,rfl,hI,h1,h2⟩ hd2
 rw[zs4]
 have dB:Disj Nr B:=fun i q1 q2=>hd2 i (un_has.2 (.inr q1)) q2
 refine h Nc (Nr.un B) c' nm wm cs ks ns ws made cnt d (fun i y hy=>⟨un_r hy,fun hi=>?_⟩) (hI.ext hd2) h1 (un_l dB h2)
 have hx:∀{j:Nat} {z:AObj},Nr.obj j=some z->i≠j:=fun hz e=>dB i (e▸yw hz) (yw hy)
 obtain⟨b1,k1,e1⟩:=hI.b.hn
 obtain⟨b2,k2,e2⟩:=hI.b.hw
 simp only[List.mem_cons,List.not_mem_nil,or_false]at hi
 rcases hi with hi|hi|hi
 ·exact hx hI.b.hf hi
 ·exact hx e1 hi
 ·exact hx e2 hi
theorem yt4{n:Nat}{f:Nat->Int}{x:AV}{L:List AV}(h:il n f=u32A 0::L):False:=by
 cases n with
 |zero=>cases h
 |succ n=>
  have:=congrArg List.head? h
  rw[List.head?_cons]at this
  have h2:(il (n+1) f).head?=some (int (f 0)):=by
   have:=zey (f:=f) (n:=n+1) (t:=0) (by omega)
   rwa [Nat.zero_mul,List.drop_zero]at this
  rw[h2]at this
  cases this
theorem NetOK.off{g:Gnd}{l:List Bld}{ex:List Nat}{N:Store}{key:Int}{b' b:Nat}{x:AV}(h:NetOK g l ex N key b')(hob:N.obj b=some (.cells [u32A 0,i32A 0,u32A 0,x])):NetOK g l (b::ex) N key b':=by
 obtain⟨h1,s,d,c,s',h2,h3,h4,h5,h6,h7⟩:=h
 refine⟨fun hb=>?_,s,d,c,s',h2,fun hb=>?_,h4,h5,h6,h7⟩
 ·rcases List.mem_cons.1 hb with e|e
  ·rw[e,hob]at h2;simp at h2
  ·exact h1 e
 ·rcases List.mem_cons.1 hb with e|e
  ·rw[e,hob]at h7;simp[netC,gndC]at h7
  ·exact h3 e
theorem WayOK.off{g:Gnd}{l:List Bld}{ex:List Nat}{N:Store}{key:Int}{b' b:Nat}{x:AV}(h:WayOK g l ex N key b')(hob:N.obj b=some (.cells [u32A 0,i32A 0,u32A 0,x])):WayOK g l (b::ex) N key b':=by
 obtain⟨h1,s,d,c,s',goal,h2,h3,h4,h5,h6,h7,h8⟩:=h
 refine⟨fun hb=>?_,s,d,c,s',goal,h2,fun hb=>?_,h4,h5,h6,h7,h8⟩
 ·rcases List.mem_cons.1 hb with e|e
  ·rw[e,hob]at h2;simp at h2
  ·exact h1 e
 ·rcases List.mem_cons.1 hb with e|e
  ·rw[e,hob]at h8
   simp only[Option.some.injEq,AObj.cells.injEq]at h8
   exact yt4 (x:=x) h8.symm
  ·exact h3 e
theorem zuv{fb:Nat}{room k:Int}{N:Store}(hF:FldAny fb room k N)(hk0:0<=k/\k<=4000000000000000000)(g:Gnd)(hg:gndP g)(hT:g.T.length<=1000000)(l:List Bld)(hl:l.length<=1000000)(hb:∀b∈l,bldP b/\onP g b)(c s:Int)(hc:clsP c)(hs:0<=s/\s<=3)(goal:Nat)(hgo:goal<g.T.length)(R:AV->Store->Prop)
  (h:∀N' d,FldAny fb room (k+1) N'->N'.obj d=some (.cells (wayL g l c s goal))->R (.s (.slice (some ⟨d,0,none⟩) g.T.length g.T.length)) N'):
  ACalls Tryz.prog 265 [ptr fb,.agg (gndC g),lst 6 bldC l,int c,int s,int (goal:Nat)] N R:=by
 have ha:=zr hg
 have hcb:0<=c/\c<=2:=by unfold clsP at hc;omega
 refine Qb (c:=cfg 85 [6,11,13,17,67] []) zc Tryz.func265 ?_
 refine AWp.seq (AWp.of_vc zc ?_)
 intro pf hpf pg hpg
 have npc:pf≠pg:=fun e=>by have:=hpg.1;rw[<-e,zb]at this;cases this
 obtain⟨B,hB⟩:∃B:Store,B=(Store.empty.setObj pf (.cells [ptr fb])).setObj pg (.cells [int goal]):=⟨_,rfl⟩
 have b1:B.obj pf=some (.cells [ptr fb]):=by rw[hB];exact(zd npc).trans (zb _ _ _)
 have b2:B.obj pg=some (.cells [int goal]):=by rw[hB];exact zb _ _ _
 have eS:(N.setObj pf (AObj.cells [AV.s (Value.pointer (some {block:=fb,off:=0}))])).setObj pg (AObj.cells [AV.s (Value.int IntKind.i64 goal)])=N.un B:=by
  rw[hB,zc3 pf,zi]
  rfl
 have hdB:Disj N B:=by
  intro i h1 h2
  rw[hB]at h2
  rcases has_setObj_iff.1 h2 with h2|h2
  ·have:=fresh_iff.1 hpg
   rw[<-h2]at this
   exact this (has_setObj_iff.2 (.inr h1))
  ·rcases has_setObj_iff.1 h2 with h2|h2
   ·exact fresh_iff.1 hpf (h2▸h1)
   ·exact(h2.elim (fun h=>h rfl) (fun h=>h rfl):False)
 rw[eS]
 clear eS hB hpf hpg
 refine AWp.seq (AWp.of_vc zc ?_)
 refine za (o:=(N.un B).obj pf) _ (un_r b1) ?_
 refine yab hdB hF g hg hT l hl hb c s hc hs _ (fun Nc Nr cc nm wm cs ks ns ws made cnt d hBk hI hdx hod=>?_)
 obtain⟨t1,o1⟩:=hBk _ _ b1
 obtain⟨t2,o2⟩:=hBk _ _ b2
 clear b1 b2 hBk hdB hF
 intro pn hpn
 rw[zi]
 refine zh (i:=ti221) (v:=ptr d) (b:=pn) (o:=0) (l:=[.s (.pointer none)]) (st2:=Nc.un (Nr.setObj pn (.cells [ptr d]))) rfl rfl rfl (un_r (zb _ _ _)) (show 1<=1 by decide) (by rw[zi,zg];rfl) ?_
 have hI1:=hI.box hpn (.cells [ptr d])
 have kp:∀{i:Nat} {y:AObj},Nr.obj i=some y->(Nr.setObj pn (.cells [ptr d])).obj i=some y:=fun{i y} hy=>(zd (fneU hpn hy)).trans hy
 have u1:=kp t1
 have u2:=kp t2
 have u3:(Nr.setObj pn (.cells [ptr d])).obj pn=some (.cells [ptr d]):=zb _ _ _
 have u4:=kp hod
 clear kp hod t1 t2 hpn hI
 generalize Nr.setObj pn (.cells [ptr d])=N1 at*
 have hkc:=hI1.ways.len
 have hrr:=hI1.b.r
 have hcn:=hI1.b.n0
 refine AWp.seq (AWp.of_vc zc ?_)
 refine Qd ?_
 refine Qd ?_
 refine Qd ?_
 refine Qd ?_
 refine za (o:=(Nc.un N1).obj pg) _ (un_r u2) ?_
 refine Qd ?_
 refine AWp.meet (σ:=Store×List Int×Int×Bool) ⟨fun q=>[(6,.av (ptr pf)),(11,.av (ptr pg)),(13,.av (ptr pn)),(14,.av (int (qu c s goal))),(15,.av (int q.2.2.1)),(16,.av (V.bool q.2.2.2))],fun _=>[],
  fun q S=>S=q.1.un N1/\Disj q.1 N1/\yj q.1 cc room cs q.2.1/\((q.2.2.2=false/\getI cs (qu c s goal)=none/\q.2.1=ks)\/(q.2.2.2=true/\getI cs (qu c s goal)=some q.2.2.1/\q.2.1=qu c s goal::ks.erase (qu c s goal)))⟩ zc ?_ ?_
 ·refine za (o:=(Nc.un N1).obj pf) _ (un_r u1) ?_
  refine za (o:=(Nc.un N1).obj fb) _ (un_r hI1.b.hf) ?_
  refine zpi hI1.b.dj hI1.b.hC (by omega) (qu c s goal) _ (fun hn Nc2 dd hC2=>?_) (fun v hv Nc2 dd hC2=>?_)
  ·exact⟨(Nc2,ks,0,false),⟨rfl,dd,hC2,.inl ⟨rfl,hn,rfl⟩⟩,⟨Tq,Tq,Tq,Tq,Tq,Tq,Tv⟩,Tv⟩
  ·exact⟨(Nc2,_,v,true),⟨rfl,dd,hC2,.inr ⟨rfl,hv,rfl⟩⟩,⟨Tq,Tq,Tq,Tq,Tq,Tq,Tv⟩,Tv⟩
 rintro⟨Nc2,ks2,v0,z⟩ S ⟨rfl,dd,hC2,hz⟩
 dsimp only at dd hC2 hz⊢
 refine AWp.meet (σ:=Int×Nat) ⟨fun q=>[(6,.av (ptr pf)),(11,.av (ptr pg)),(13,.av (ptr pn)),(15,.av (int q.1))],fun _=>[],
  fun q S=>∃Nc Nr wm cs ks ws cnt,S=Nc.un Nr/\FldB fb room g l (k+1) Nc Nr cc nm wm cs ks ns ws made cnt/\(∀key b,getI ns key=some b->NetOK g l [fb,nm,wm] Nr key b)/\CI (fun k b=>if k=qu c s goal then b=q.2 else WayOK g l [fb,nm,wm] Nr k b) room cs ks ws cnt/\getI ws q.1=some q.2/\q.2∉[fb,nm,wm]∧
   (WayOK g l [fb,nm,wm] Nr (qu c s goal) q.2\/Nr.obj q.2=some (.cells [u32A 0,i32A 0,u32A 0,.s (.slice none 0 0)]))/\(Nr.obj pf=some (.cells [ptr fb])/\Nr.obj pg=some (.cells [int goal])/\Nr.obj pn=some (.cells [ptr d]))/\Nr.obj d=some (.cells (netC g l c s))/\d∉[fb,nm,wm]⟩ zc ?_ ?_
 ·cases z with
  |true=>
   have hz:getI cs (qu c s goal)=some v0/\ks2=qu c s goal::ks.erase (qu c s goal):=by simpa using hz
   obtain⟨hz1,rfl⟩:=hz
   obtain⟨_,_,b,hwb,hWb⟩:=hI1.ways.ok _ _ hz1
   refine⟨(v0,b),⟨Nc2,N1,wm,cs,_,ws,cnt,rfl,⟨dd,hC2,hI1.b.hf,hI1.b.hn,hI1.b.hw,hI1.b.d1,hI1.b.d2,hI1.b.d3,hrr,⟨hcn.1,by omega⟩,hI1.b.sz⟩,hI1.nets,(hI1.ways.hit hz1).ways fun key v b2 hk hw hW=>⟨hw,?_⟩,hwb,hWb.1,.inl hWb,⟨u1,u2,u3⟩,u4,hdx⟩,⟨Tq,Tq,Tq,Tq,Tv⟩,Tv⟩
   dsimp only
   by_cases e:key=qu c s goal
   ·rw[if_pos e]
    rw[e,hz1]at hk
    cases hk
    rw[hwb]at hw
    cases hw
    rfl
   ·rw[if_neg e]
    exact hW
  |false=>
   have hz:getI cs (qu c s goal)=none/\ks2=ks:=by simpa using hz
   obtain⟨hz1,rfl⟩:=hz
   refine za (o:=(Nc2.un N1).obj pf) _ (un_r u1) ?_
   refine za (o:=(Nc2.un N1).obj fb) _ (un_r hI1.b.hf) ?_
   refine Qd ?_
   refine zh (i:=ti2) (v:=int (cnt+1)) (b:=fb) (o:=9) (l:=[ptr cc,int made,V.bool true,int g.W,int g.H,byts g.T,lst 6 bldC l,mapA nm,mapA wm,int cnt]) (st2:=Nc2.un (N1.setObj fb (.cells [ptr cc,int made,V.bool true,int g.W,int g.H,byts g.T,lst 6 bldC l,mapA nm,mapA wm,int (cnt+1)]))) rfl rfl rfl (un_r hI1.b.hf) (show 10<=10 by decide) (zi _ _ _ _) ?_
   obtain⟨bn,kn,hnm⟩:=hI1.b.hn
   obtain⟨bw,kw,hwm⟩:=hI1.b.hw
   have hfn:=hI1.b.d1
   have hfw:=hI1.b.d2
   have hnw:=hI1.b.d3
   have hsz:=hI1.b.sz
   have hnets:=hI1.nets
   have hways:=hI1.ways
   have hdf:d≠fb:=fun e=>hdx (by simp[e])
   obtain⟨N2,hN2⟩:∃N2,N2=N1.setObj fb (.cells [ptr cc,int made,V.bool true,int g.W,int g.H,byts g.T,lst 6 bldC l,mapA nm,mapA wm,int (cnt+1)]):=⟨_,rfl⟩
   rw[<-hN2]
   have kN:keepsB [fb,nm,wm] N1 N2:=by
    rw[hN2]
    exact(keepsB.refl _ _).set (.inl (by simp))
   have v1:N2.obj pf=some (.cells [ptr fb]):=by rw[hN2];exact(zd (fun e=>by rw[e,hI1.b.hf]at u1;cases u1)).trans u1
   have v2:N2.obj pg=some (.cells [int goal]):=by rw[hN2];exact(zd (fun e=>by rw[e,hI1.b.hf]at u2;cases u2)).trans u2
   have v3:N2.obj pn=some (.cells [ptr d]):=by rw[hN2];exact(zd (fun e=>by rw[e,hI1.b.hf]at u3;cases u3)).trans u3
   have v4:N2.obj d=some (.cells (netC g l c s)):=by rw[hN2];exact(zd hdf).trans u4
   have v5:N2.obj fb=some (.cells [ptr cc,int made,V.bool true,int g.W,int g.H,byts g.T,lst 6 bldC l,mapA nm,mapA wm,int (cnt+1)]):=by rw[hN2];exact zb _ _ _
   have v6:N2.obj wm=some (.map (ws.map (entI fun b=>ptr b)) bw kw):=by rw[hN2];exact(zd (Ne.symm hfw)).trans hwm
   have v7:N2.obj nm=some (.map (ns.map (entI fun b=>ptr b)) bn kn):=by rw[hN2];exact(zd (Ne.symm hfn)).trans hnm
   have d2:Disj Nc2 N2:=by rw[hN2];exact disj_setR dd (qx dd hI1.b.hf)
   have o3:pn∉[fb,nm,wm]:=by
    simp only[List.mem_cons,List.not_mem_nil,or_false,not_or]
    exact⟨fun e=>(by rw[e,hI1.b.hf]at u3;cases u3),fun e=>(by rw[e,hnm]at u3;cases u3),fun e=>(by rw[e,hwm]at u3;cases u3)⟩
   clear hN2 dd hnm hwm
   refine za (o:=(Nc2.un N2).obj pf) _ (un_r v1) ?_
   refine za (o:=(Nc2.un N2).obj fb) _ (un_r v5) ?_
   refine za (o:=(Nc2.un N2).obj pf) _ (un_r v1) ?_
   refine za (o:=(Nc2.un N2).obj fb) _ (un_r v5) ?_
   refine zzv d2 hC2 (by omega) (qu c s goal) (cnt+1) _ (fun hl Nc3 d3 hC3=>?_) (fun hl Nc3 d3 hC3=>?_)
   ·have common:∃cs3 ks3,yj Nc3 cc room cs3 ks3/\∀nb,CI (fun k b=>if k=qu c s goal then b=nb else WayOK g l [fb,nm,wm] N1 k b) room cs3 ks3 (putI ws (cnt+1) nb) (cnt+1)/\getI cs3 (qu c s goal)=some (cnt+1):=
     ⟨_,_,hC3,fun nb=>⟨hways.put1 (qu c s goal) nb hl,by rw[js,if_pos rfl]⟩⟩
    clear hC3 hl
    obtain⟨cs3,ks3,hC3,hCI⟩:=common
    refine za (o:=(Nc3.un N2).obj pf) _ (un_r v1) ?_
    refine za (o:=(Nc3.un N2).obj fb) _ (un_r v5) ?_
    intro nb hnb
    have f1:=fresh_un hnb
    rw[zi]
    have e1:wm≠nb:=fun e=>by have:=f1.2.1;rw[<-e,v6]at this;cases this
    refine qe (.inl rfl) rfl (it:=ti133) (ik:=ti2) rfl rfl rfl (un_r ((zd e1).trans v6)) rfl rfl (qA (cnt+1)) (fun e he=>?_) (fun e1 he hq=>?_) ?_
    ·obtain⟨e,_,rfl⟩:=List.mem_map.1 he
     rfl
    ·obtain⟨e,_,rfl⟩:=List.mem_map.1 he
     have:cnt+1=e.1:=by simpa [qA,entI,int]using hq
     show int e.1=_
     rw[this]
    obtain⟨bs',clk',hput⟩:=ju (fun b=>ptr b) ws bw kw (cnt+1) nb
    have hput2:jk (List.map (entI fun b=>ptr b) ws) bw kw (qA (cnt+1)) (int (cnt+1)) (AV.s (Value.pointer (some {block:=nb,off:=0})))=_:=hput
    rw[hput2,zi]
    have e2:fb≠nb:=fun e=>by have:=f1.2.1;rw[<-e,v5]at this;cases this
    have e3:nm≠nb:=fun e=>by have:=f1.2.1;rw[<-e,v7]at this;cases this
    have e4:pf≠nb:=fun e=>by have:=f1.2.1;rw[<-e,v1]at this;cases this
    have e5:pg≠nb:=fun e=>by have:=f1.2.1;rw[<-e,v2]at this;cases this
    have e6:pn≠nb:=fun e=>by have:=f1.2.1;rw[<-e,v3]at this;cases this
    have e7:d≠nb:=fun e=>by have:=f1.2.1;rw[<-e,v4]at this;cases this
    have fn:=kN.fresh (by
     intro i hi
     simp only[List.mem_cons,List.not_mem_nil,or_false]at hi
     rcases hi with rfl|rfl|rfl
     ·rw[v5];simp
     ·rw[v7];simp
     ·rw[v6];simp) f1.2.1
    have kq:∀{i:Nat} {y:AObj},i≠nb->i≠wm->N2.obj i=some y->((N2.setObj nb (.cells [u32A 0,i32A 0,u32A 0,.s (.slice none 0 0)])).setObj wm (.map ((putI ws (cnt+1) nb).map (entI fun b=>ptr b)) bs' clk')).obj i=some y:=fun{i y} h1 h2 hy=>(zd h2).trans ((zd h1).trans hy)
    have w1:=kq e4 (by simp at o1;exact o1.2.2) v1
    have w2:=kq e5 (by simp at o2;exact o2.2.2) v2
    have w3:=kq e6 (by simp at o3;exact o3.2.2) v3
    have w4:=kq e7 (by simp at hdx;exact hdx.2.2) v4
    have w5:=kq e2 hfw v5
    have w7:=kq e3 hnw v7
    have w6:((N2.setObj nb (.cells [u32A 0,i32A 0,u32A 0,.s (.slice none 0 0)])).setObj wm (.map ((putI ws (cnt+1) nb).map (entI fun b=>ptr b)) bs' clk')).obj wm=_:=zb _ _ _
    have w8:((N2.setObj nb (.cells [u32A 0,i32A 0,u32A 0,.s (.slice none 0 0)])).setObj wm (.map ((putI ws (cnt+1) nb).map (entI fun b=>ptr b)) bs' clk')).obj nb=some (.cells [u32A 0,i32A 0,u32A 0,.s (.slice none 0 0)]):=(zd (Ne.symm e1)).trans (zb _ _ _)
    have k3:=(kN.set (p:=nb) (x:=.cells [u32A 0,i32A 0,u32A 0,.s (.slice none 0 0)]) (.inr fn.2)).set (p:=wm) (x:=.map ((putI ws (cnt+1) nb).map (entI fun b=>ptr b)) bs' clk') (.inl (by simp))
    have d4:Disj Nc3 ((N2.setObj nb (.cells [u32A 0,i32A 0,u32A 0,.s (.slice none 0 0)])).setObj wm (.map ((putI ws (cnt+1) nb).map (entI fun b=>ptr b)) bs' clk')):=disj_setR (disj_setR d3 (fresh_iff.1 f1.1)) (qx d3 v6)
    rw[show(N2.setObj nb (AObj.cells [AV.s (Value.int IntKind.u32 0),AV.s (Value.int IntKind.i32 0),AV.s (Value.int IntKind.u32 0),AV.s (Value.slice none 0 0)])).setObj wm (AObj.map (List.map (entI fun b=>ptr b) (putI ws (cnt+1) nb)) bs' clk')=(N2.setObj nb (.cells [u32A 0,i32A 0,u32A 0,.s (.slice none 0 0)])).setObj wm (.map ((putI ws (cnt+1) nb).map (entI fun b=>ptr b)) bs' clk')from rfl]
    clear kq v1 v2 v3 v4 v5 v6 v7 hnb d3 d2 hput hput2 kN e1
    generalize(N2.setObj nb (.cells [u32A 0,i32A 0,u32A 0,.s (.slice none 0 0)])).setObj wm (.map ((putI ws (cnt+1) nb).map (entI fun b=>ptr b)) bs' clk')=N3 at*
    refine za (o:=(Nc3.un N3).obj pf) _ (un_r w1) ?_
    refine zke (k:=k+1) ⟨d4,hC3,w5,⟨_,_,w7⟩,⟨_,_,w6⟩,hfn,hfw,hnw,hrr,⟨by omega,by omega⟩,hsz⟩ (hCI nb).1 _ (fun Nc4 N4 wm4 ks4 ws4 hB4 hC4 hwm4 hk4=>?_)
    have he:∀i,i∈[fb,nm,wm4]->i∈[fb,nm,wm]\/N3.obj i=none:=fun i hi=>by
     simp only[List.mem_cons,List.not_mem_nil,or_false]at hi⊢
     rcases hi with hi|hi|hi
     ·exact .inl (.inl hi)
     ·exact .inl (.inr (.inl hi))
     ·rcases hwm4 with h1|h1
      ·exact .inl (.inr (.inr (hi.trans h1)))
      ·exact .inr (hi▸h1)
    have he1:∀i,i∈[fb,nm,wm4]->i∈[fb,nm,wm]\/N1.obj i=none:=fun i hi=>(he i hi).imp id fun h1=>(k3.fresh (by
     intro i hi
     simp only[List.mem_cons,List.not_mem_nil,or_false]at hi
     rcases hi with rfl|rfl|rfl
     ·rw[w5];simp
     ·rw[w7];simp
     ·rw[w6];simp) h1).2
    have hno:∀{i:Nat} {y:AObj},i∉[fb,nm,wm]->N3.obj i=some y->i∉[fb,nm,wm4]:=fun{i y} h1 hy hi=>(he i hi).elim h1 fun h2=>by rw[hy]at h2;cases h2
    have k4:=k3.trans hk4
    have hgw:getI ws4 (cnt+1)=some nb:=by
     obtain⟨_,_,b',h1,h2⟩:=hC4.ok _ _ (hCI nb).2
     rw[if_pos rfl]at h2
     rw[h1,h2]
    exact⟨(cnt+1,nb),⟨Nc4,N4,wm4,cs3,ks4,ws4,cnt+1,rfl,hB4,fun key b hb=>(hnets key b hb).keep k4 he1,hC4.ways (fun key2 v b hk hw hW=>⟨hw,by
     dsimp only at hW⊢
     by_cases e:key2=qu c s goal
     ·rw[if_pos e]at hW⊢
      exact hW
     ·rw[if_neg e]at hW⊢
      exact hW.keep k4 he1⟩),hgw,hno fn.1 w8,.inr (hk4 nb _ fn.1 w8),⟨hk4 pf _ o1 w1,hk4 pg _ o2 w2,hk4 pn _ o3 w3⟩,hk4 d _ hdx w4,hno hdx w4⟩,⟨Tq,Tq,Tq,Tq,Tv⟩,Tv⟩
   ·have common:∃cs3 ks3,yj Nc3 cc room cs3 ks3/\∀nb,CI (fun k b=>if k=qu c s goal then b=nb else WayOK g l [fb,nm,wm] N1 k b) room cs3 ks3 (putI ws (cnt+1) nb) (cnt+1)/\getI cs3 (qu c s goal)=some (cnt+1):=
     ⟨_,_,hC3,fun nb=>⟨(hways.put2 hrr.1 (qu c s goal) nb hl).1,by
      rw[zf2 _ _ _ (zc7 hways.cnd _ _),if_neg (Ne.symm (hways.put2 hrr.1 (qu c s goal) nb hl).2),js,if_pos rfl]⟩⟩
    clear hC3 hl
    obtain⟨cs3,ks3,hC3,hCI⟩:=common
    refine za (o:=(Nc3.un N2).obj pf) _ (un_r v1) ?_
    refine za (o:=(Nc3.un N2).obj fb) _ (un_r v5) ?_
    intro nb hnb
    have f1:=fresh_un hnb
    rw[zi]
    have e1:wm≠nb:=fun e=>by have:=f1.2.1;rw[<-e,v6]at this;cases this
    refine qe (.inl rfl) rfl (it:=ti133) (ik:=ti2) rfl rfl rfl (un_r ((zd e1).trans v6)) rfl rfl (qA (cnt+1)) (fun e he=>?_) (fun e1 he hq=>?_) ?_
    ·obtain⟨e,_,rfl⟩:=List.mem_map.1 he
     rfl
    ·obtain⟨e,_,rfl⟩:=List.mem_map.1 he
     have:cnt+1=e.1:=by simpa [qA,entI,int]using hq
     show int e.1=_
     rw[this]
    obtain⟨bs',clk',hput⟩:=ju (fun b=>ptr b) ws bw kw (cnt+1) nb
    have hput2:jk (List.map (entI fun b=>ptr b) ws) bw kw (qA (cnt+1)) (int (cnt+1)) (AV.s (Value.pointer (some {block:=nb,off:=0})))=_:=hput
    rw[hput2,zi]
    have e2:fb≠nb:=fun e=>by have:=f1.2.1;rw[<-e,v5]at this;cases this
    have e3:nm≠nb:=fun e=>by have:=f1.2.1;rw[<-e,v7]at this;cases this
    have e4:pf≠nb:=fun e=>by have:=f1.2.1;rw[<-e,v1]at this;cases this
    have e5:pg≠nb:=fun e=>by have:=f1.2.1;rw[<-e,v2]at this;cases this
    have e6:pn≠nb:=fun e=>by have:=f1.2.1;rw[<-e,v3]at this;cases this
    have e7:d≠nb:=fun e=>by have:=f1.2.1;rw[<-e,v4]at this;cases this
    have fn:=kN.fresh (by
     intro i hi
     simp only[List.mem_cons,List.not_mem_nil,or_false]at hi
     rcases hi with rfl|rfl|rfl
     ·rw[v5];simp
     ·rw[v7];simp
     ·rw[v6];simp) f1.2.1
    have kq:∀{i:Nat} {y:AObj},i≠nb->i≠wm->N2.obj i=some y->((N2.setObj nb (.cells [u32A 0,i32A 0,u32A 0,.s (.slice none 0 0)])).setObj wm (.map ((putI ws (cnt+1) nb).map (entI fun b=>ptr b)) bs' clk')).obj i=some y:=fun{i y} h1 h2 hy=>(zd h2).trans ((zd h1).trans hy)
    have w1:=kq e4 (by simp at o1;exact o1.2.2) v1
    have w2:=kq e5 (by simp at o2;exact o2.2.2) v2
    have w3:=kq e6 (by simp at o3;exact o3.2.2) v3
    have w4:=kq e7 (by simp at hdx;exact hdx.2.2) v4
    have w5:=kq e2 hfw v5
    have w7:=kq e3 hnw v7
    have w6:((N2.setObj nb (.cells [u32A 0,i32A 0,u32A 0,.s (.slice none 0 0)])).setObj wm (.map ((putI ws (cnt+1) nb).map (entI fun b=>ptr b)) bs' clk')).obj wm=_:=zb _ _ _
    have w8:((N2.setObj nb (.cells [u32A 0,i32A 0,u32A 0,.s (.slice none 0 0)])).setObj wm (.map ((putI ws (cnt+1) nb).map (entI fun b=>ptr b)) bs' clk')).obj nb=some (.cells [u32A 0,i32A 0,u32A 0,.s (.slice none 0 0)]):=(zd (Ne.symm e1)).trans (zb _ _ _)
    have k3:=(kN.set (p:=nb) (x:=.cells [u32A 0,i32A 0,u32A 0,.s (.slice none 0 0)]) (.inr fn.2)).set (p:=wm) (x:=.map ((putI ws (cnt+1) nb).map (entI fun b=>ptr b)) bs' clk') (.inl (by simp))
    have d4:Disj Nc3 ((N2.setObj nb (.cells [u32A 0,i32A 0,u32A 0,.s (.slice none 0 0)])).setObj wm (.map ((putI ws (cnt+1) nb).map (entI fun b=>ptr b)) bs' clk')):=disj_setR (disj_setR d3 (fresh_iff.1 f1.1)) (qx d3 v6)
    rw[show(N2.setObj nb (AObj.cells [AV.s (Value.int IntKind.u32 0),AV.s (Value.int IntKind.i32 0),AV.s (Value.int IntKind.u32 0),AV.s (Value.slice none 0 0)])).setObj wm (AObj.map (List.map (entI fun b=>ptr b) (putI ws (cnt+1) nb)) bs' clk')=(N2.setObj nb (.cells [u32A 0,i32A 0,u32A 0,.s (.slice none 0 0)])).setObj wm (.map ((putI ws (cnt+1) nb).map (entI fun b=>ptr b)) bs' clk')from rfl]
    clear kq v1 v2 v3 v4 v5 v6 v7 hnb d3 d2 hput hput2 kN e1
    generalize(N2.setObj nb (.cells [u32A 0,i32A 0,u32A 0,.s (.slice none 0 0)])).setObj wm (.map ((putI ws (cnt+1) nb).map (entI fun b=>ptr b)) bs' clk')=N3 at*
    refine za (o:=(Nc3.un N3).obj pf) _ (un_r w1) ?_
    refine zke (k:=k+1) ⟨d4,hC3,w5,⟨_,_,w7⟩,⟨_,_,w6⟩,hfn,hfw,hnw,hrr,⟨by omega,by omega⟩,hsz⟩ (hCI nb).1 _ (fun Nc4 N4 wm4 ks4 ws4 hB4 hC4 hwm4 hk4=>?_)
    have he:∀i,i∈[fb,nm,wm4]->i∈[fb,nm,wm]\/N3.obj i=none:=fun i hi=>by
     simp only[List.mem_cons,List.not_mem_nil,or_false]at hi⊢
     rcases hi with hi|hi|hi
     ·exact .inl (.inl hi)
     ·exact .inl (.inr (.inl hi))
     ·rcases hwm4 with h1|h1
      ·exact .inl (.inr (.inr (hi.trans h1)))
      ·exact .inr (hi▸h1)
    have he1:∀i,i∈[fb,nm,wm4]->i∈[fb,nm,wm]\/N1.obj i=none:=fun i hi=>(he i hi).imp id fun h1=>(k3.fresh (by
     intro i hi
     simp only[List.mem_cons,List.not_mem_nil,or_false]at hi
     rcases hi with rfl|rfl|rfl
     ·rw[w5];simp
     ·rw[w7];simp
     ·rw[w6];simp) h1).2
    have hno:∀{i:Nat} {y:AObj},i∉[fb,nm,wm]->N3.obj i=some y->i∉[fb,nm,wm4]:=fun{i y} h1 hy hi=>(he i hi).elim h1 fun h2=>by rw[hy]at h2;cases h2
    have k4:=k3.trans hk4
    have hgw:getI ws4 (cnt+1)=some nb:=by
     obtain⟨_,_,b',h1,h2⟩:=hC4.ok _ _ (hCI nb).2
     rw[if_pos rfl]at h2
     rw[h1,h2]
    exact⟨(cnt+1,nb),⟨Nc4,N4,wm4,cs3,ks4,ws4,cnt+1,rfl,hB4,fun key b hb=>(hnets key b hb).keep k4 he1,hC4.ways (fun key2 v b hk hw hW=>⟨hw,by
     dsimp only at hW⊢
     by_cases e:key2=qu c s goal
     ·rw[if_pos e]at hW⊢
      exact hW
     ·rw[if_neg e]at hW⊢
      exact hW.keep k4 he1⟩),hgw,hno fn.1 w8,.inr (hk4 nb _ fn.1 w8),⟨hk4 pf _ o1 w1,hk4 pg _ o2 w2,hk4 pn _ o3 w3⟩,hk4 d _ hdx w4,hno hdx w4⟩,⟨Tq,Tq,Tq,Tq,Tv⟩,Tv⟩
 clear hz hC2 dd hI1 u1 u2 u3 u4 o1 o2 hkc hcn hdx
 rintro⟨v,b⟩ S ⟨Nc,Nr,wm,cs,ks,ws,cnt,rfl,hB,hnets,hCI,hgw,hbx,hW,⟨t1,t2,t3⟩,hod,hdx⟩
 dsimp only at hCI hgw hbx hW⊢
 obtain⟨bw,kw,hwm⟩:=hB.hw
 obtain⟨bn,kn,hnm⟩:=hB.hn
 refine AWp.seq (AWp.of_vc zc ?_)
 refine za (o:=(Nc.un Nr).obj pf) _ (un_r t1) ?_
 refine za (o:=(Nc.un Nr).obj fb) _ (un_r hB.hf) ?_
 refine ya rfl (it:=ti133) (ie:=ti305) (ik:=ti2) rfl rfl rfl rfl (un_r hwm) rfl (qA v) (fun e he=>?_) ?_
 ·obtain⟨e,_,rfl⟩:=List.mem_map.1 he
  rfl
 rw[vp,hgw]
 intro px hpx
 have f1:=fresh_un hpx
 rw[zi]
 refine zh (i:=ti305) (v:=ptr b) (b:=px) (o:=0) (l:=[.s (.pointer none)]) (st2:=Nc.un (Nr.setObj px (.cells [ptr b]))) rfl rfl rfl (un_r (zb _ _ _)) (show 1<=1 by decide) (by rw[zi,zg];rfl) ?_
 have kp:∀{i:Nat} {y:AObj},Nr.obj i=some y->(Nr.setObj px (.cells [ptr b])).obj i=some y:=fun{i y} hy=>(zd (fneU hpx hy)).trans hy
 have u1:=kp t1
 have u2:=kp t2
 have u3:=kp t3
 have u4:=kp hod
 have u5:=kp hB.hf
 have u6:=kp hwm
 have u7:=kp hnm
 have u8:(Nr.setObj px (.cells [ptr b])).obj px=some (.cells [ptr b]):=zb _ _ _
 have kN:keepsB [fb,nm,wm] Nr (Nr.setObj px (.cells [ptr b])):=fun i y _ hy=>kp hy
 have d1:=disj_setR (x:=.cells [ptr b]) hB.dj (fresh_iff.1 f1.1)
 have hC:=hB.hC
 have hfn:=hB.d1
 have hfw:=hB.d2
 have hnw:=hB.d3
 have hr:=hB.r
 have hn0:=hB.n0
 have hsz:=hB.sz
 have hW2:WayOK g l [fb,nm,wm] (Nr.setObj px (.cells [ptr b])) (qu c s goal) b\/(Nr.setObj px (.cells [ptr b])).obj b=some (.cells [u32A 0,i32A 0,u32A 0,.s (.slice none 0 0)]):=hW.imp (fun h=>h.keep kN fun i hi=>.inl hi) kp
 clear kp t1 t2 t3 hod hwm hnm hB f1 hpx hW
 generalize Nr.setObj px (.cells [ptr b])=N2 at*
 refine AWp.seq (AWp.of_vc zc ?_)
 refine za (o:=(Nc.un N2).obj px) _ (un_r u8) ?_
 rcases hW2 with hW|hob
 ·have hW0:=hW
  obtain⟨_,s1,d2,c1,s1',goal1,hob,hdx2,hc1,hs1,hg1,hke,hod2⟩:=hW
  refine zkx b _ _ _ _ (un_r hob) ?_
  refine AWp.of_vc zc ?_
  refine za (o:=(Nc.un N2).obj px) _ (un_r u8) ?_
  refine za (o:=(Nc.un N2).obj b) _ (un_r hob) ?_
  have heq:c1=c/\s1'=s/\goal1=goal:=by
   unfold qu at hke
   unfold clsP at hc1
   omega
  obtain⟨rfl,rfl,rfl⟩:=heq
  refine ret (h _ d2 (.inl ⟨g,l,Nc,N2,cc,nm,wm,cs,ks,ns,ws,made,cnt,rfl,⟨⟨d1,hC,u5,⟨_,_,u7⟩,⟨_,_,u6⟩,hfn,hfw,hnw,hr,hn0,hsz⟩,fun key b hb=>(hnets key b hb).keep kN fun i hi=>.inl hi,hCI.ways fun key v b' hk hw hW=>⟨hw,?_⟩⟩⟩) (un_r hod2))
  by_cases e:key=qu c1 s1' goal1
  ·rw[if_pos e]at hW
   rw[e,hW]
   exact hW0
  ·rw[if_neg e]at hW
   exact hW.keep kN fun i hi=>.inl hi
 ·have e1:pf≠b:=fun e=>by rw[e,hob]at u1;cases u1
  have e2:pg≠b:=fun e=>by rw[e,hob]at u2;cases u2
  have e3:pn≠b:=fun e=>by rw[e,hob]at u3;cases u3
  have e4:px≠b:=fun e=>by rw[e,hob]at u8;cases u8
  have e5:fb≠b:=fun e=>by rw[e,hob]at u5;cases u5
  have e6:nm≠b:=fun e=>by rw[e,hob]at u7;cases u7
  have e7:wm≠b:=fun e=>by rw[e,hob]at u6;cases u6
  have e8:d≠b:=fun e=>by rw[e,hob]at u4;simp[netC,gndC]at u4
  have e9:d≠fb:=fun e=>hdx (by simp[e])
  have e10:px≠fb:=fun e=>by rw[e,u5]at u8;cases u8
  have hnc:=qx d1 hob
  refine zkw b (u32A 0) (.s (.slice none 0 0)) _ _ _ _ (un_r hob) ?_
  rw[zi]
  refine zx4 hg (l:=l) (c:=c) (s:=s) goal hgo (un_r ((zd e1).trans u1)) (un_r ((zd e3).trans u3)) (un_r ((zd e2).trans u2)) (un_r ((zd e4).trans u8)) (un_r ((zd e5).trans u5)) (un_r (zb _ _ _)) (un_r ((zd e8).trans u4)) e9 _ (fun m d2 hfd hdf=>?_)
  have f3:=fresh_un hfd
  refine⟨.s (.slice (some ⟨d2,0,none⟩) g.T.length g.T.length),by rw[zi,zi,zi];exact un_r (zb _ _ _),?_⟩
  rw[zi,zi,zi,zi,zg]
  have hdn:d2≠b:=fun e=>by have:=f3.2.1;rw[e,zb]at this;cases this
  have hd3:N2.obj d2=none:=by have:=f3.2.1;rwa [zd hdn]at this
  have fd:=kN.fresh (by
   intro i hi
   simp only[List.mem_cons,List.not_mem_nil,or_false]at hi
   rcases hi with rfl|rfl|rfl
   ·rw[u5];simp
   ·rw[u7];simp
   ·rw[u6];simp) hd3
  have kq:∀{i:Nat} {y:AObj},i≠b->i≠fb->N2.obj i=some y->((((N2.setObj b (.cells [u32A 0,i32A 1,u32A 0,.s (.slice none 0 0)])).setObj fb (.cells [ptr cc,int m,V.bool true,int g.W,int g.H,byts g.T,lst 6 bldC l,mapA nm,mapA wm,int cnt])).setObj d2 (.cells (wayL g l c s goal))).setObj b (.cells [u32A 1,i32A 0,u32A 0,.s (.slice (some ⟨d2,0,none⟩) g.T.length g.T.length)])).obj i=some y:=fun{i y} hi hj hy=>(zd hi).trans ((zd (fun e=>by rw[e,hd3]at hy;cases hy)).trans ((zd hj).trans ((zd hi).trans hy)))
  have x8:=kq e4 e10 u8
  have x6:=kq e7 (Ne.symm hfw) u6
  have x7:=kq e6 (Ne.symm hfn) u7
  have x5:((((N2.setObj b (.cells [u32A 0,i32A 1,u32A 0,.s (.slice none 0 0)])).setObj fb (.cells [ptr cc,int m,V.bool true,int g.W,int g.H,byts g.T,lst 6 bldC l,mapA nm,mapA wm,int cnt])).setObj d2 (.cells (wayL g l c s goal))).setObj b (.cells [u32A 1,i32A 0,u32A 0,.s (.slice (some ⟨d2,0,none⟩) g.T.length g.T.length)])).obj fb=_:=(zd e5).trans ((zd (Ne.symm hdf)).trans (zb _ _ _))
  have x9:((((N2.setObj b (.cells [u32A 0,i32A 1,u32A 0,.s (.slice none 0 0)])).setObj fb (.cells [ptr cc,int m,V.bool true,int g.W,int g.H,byts g.T,lst 6 bldC l,mapA nm,mapA wm,int cnt])).setObj d2 (.cells (wayL g l c s goal))).setObj b (.cells [u32A 1,i32A 0,u32A 0,.s (.slice (some ⟨d2,0,none⟩) g.T.length g.T.length)])).obj d2=some (.cells (wayL g l c s goal)):=(zd hdn).trans (zb _ _ _)
  have xb:((((N2.setObj b (.cells [u32A 0,i32A 1,u32A 0,.s (.slice none 0 0)])).setObj fb (.cells [ptr cc,int m,V.bool true,int g.W,int g.H,byts g.T,lst 6 bldC l,mapA nm,mapA wm,int cnt])).setObj d2 (.cells (wayL g l c s goal))).setObj b (.cells [u32A 1,i32A 0,u32A 0,.s (.slice (some ⟨d2,0,none⟩) g.T.length g.T.length)])).obj b=_:=zb _ _ _
  have k4:keepsB [b,fb,nm,wm] N2 ((((N2.setObj b (.cells [u32A 0,i32A 1,u32A 0,.s (.slice none 0 0)])).setObj fb (.cells [ptr cc,int m,V.bool true,int g.W,int g.H,byts g.T,lst 6 bldC l,mapA nm,mapA wm,int cnt])).setObj d2 (.cells (wayL g l c s goal))).setObj b (.cells [u32A 1,i32A 0,u32A 0,.s (.slice (some ⟨d2,0,none⟩) g.T.length g.T.length)])):=fun i y hi hy=>kq (fun e=>hi (by simp[e])) (fun e=>hi (by simp[e])) hy
  have d4:Disj Nc ((((N2.setObj b (.cells [u32A 0,i32A 1,u32A 0,.s (.slice none 0 0)])).setObj fb (.cells [ptr cc,int m,V.bool true,int g.W,int g.H,byts g.T,lst 6 bldC l,mapA nm,mapA wm,int cnt])).setObj d2 (.cells (wayL g l c s goal))).setObj b (.cells [u32A 1,i32A 0,u32A 0,.s (.slice (some ⟨d2,0,none⟩) g.T.length g.T.length)])):=disj_setR (disj_setR (disj_setR (disj_setR d1 hnc) (qx d1 u5)) (fresh_iff.1 f3.1)) hnc
  clear kq u1 u2 u3 u4 u5 u6 u7 u8 d1 f3 hfd
  generalize(((N2.setObj b (.cells [u32A 0,i32A 1,u32A 0,.s (.slice none 0 0)])).setObj fb (.cells [ptr cc,int m,V.bool true,int g.W,int g.H,byts g.T,lst 6 bldC l,mapA nm,mapA wm,int cnt])).setObj d2 (.cells (wayL g l c s goal))).setObj b (.cells [u32A 1,i32A 0,u32A 0,.s (.slice (some ⟨d2,0,none⟩) g.T.length g.T.length)])=N4 at*
  refine AWp.of_vc zc ?_
  refine za (o:=(Nc.un N4).obj px) _ (un_r x8) ?_
  refine za (o:=(Nc.un N4).obj b) _ (un_r xb) ?_
  have hsub:∀i,i∈[fb,nm,wm]->i∈[b,fb,nm,wm]\/N2.obj i=none:=fun i hi=>.inl (List.mem_cons_of_mem _ hi)
  refine ret (h _ d2 (.inl ⟨g,l,Nc,N4,cc,nm,wm,cs,ks,ns,ws,m,cnt,rfl,⟨⟨d4,hC,x5,⟨_,_,x7⟩,⟨_,_,x6⟩,hfn,hfw,hnw,hr,hn0,hsz⟩,fun key b hb=>(((hnets key b hb).keep kN fun i hi=>.inl hi).off hob).keep k4 hsub,hCI.ways fun key v b' hk hw hW=>⟨hw,?_⟩⟩⟩) (un_r x9))
  by_cases e:key=qu c s goal
  ·rw[if_pos e]at hW
   rw[e,hW]
   exact⟨hbx,_,d2,c,s,goal,xb,fd.1,hc,hs,hgo,rfl,x9⟩
  ·rw[if_neg e]at hW
   exact((hW.keep kN fun i hi=>.inl hi).off hob).keep k4 hsub
theorem ybo(n:Int)(hn:1<=n/\n<=4096)(R:AV->Store->Prop)(h:∀N fb,FldAny fb n 0 N->R (.tup [ptr fb,int 0]) N):ACalls Tryz.prog 34 [int n] Store.empty R:=by
 refine Qa (c:=cfg 21 [17] []) zc Tryz.func34 ?_
 refine yca n hn.1 hn.2 _ _ (fun Nc c hC=>?_)
 intro fb hfb
 rw[zc3 fb]
 refine zd6 (Nr:=Store.empty.setObj fb (.cells [ptr c,int 0,V.bool false,int 0,int 0,.s (.slice none 0 0),.s (.slice none 0 0),.s (.map none),.s (.map none),int 0])) (fun i h1 h2=>?_) hC (zb _ _ _) _ (fun Nc1 Nr1 nm wm b1 k1 b2 k2 d1 d2 d3 d4 d5 d6 d7 d8=>?_)
 ·rcases has_setObj_iff.1 h2 with e|e
  ·exact fresh_iff.1 hfb (e▸h1)
  ·exact(e.elim (fun h=>h rfl) (fun h=>h rfl):False)
 exact ret (h _ fb (.inr ⟨Nc1,Nr1,c,[],[],0,0,_,_,_,_,_,_,rfl,d1,d2,hn,by omega,d3⟩))
theorem yt5{w:Wld}(hm:MayF w)(fb:Nat)(room:Int)(k M:Nat)(hk:k+M<=4000000000000000000):GuideK (fun n N=>FldAny fb room ((k+n:Nat):Int) N) fb M w:=by
 have hB:=hm.hB
 have hT:=hm.hT
 have ha:=zr hm.hg
 refine⟨fun{n N c s} hF hc hs R h=>?_,fun{n N c s} hF hn hc hs goal hgo R h=>?_⟩
 ·exact zoq hF w.G hm.hg (by omega) w.B (by omega) hm.hb c s hc hs _ (fun Nc Nr cc nm wm cs ks ns ws made cnt d hI hd ho=>h d _ (.inl ⟨_,_,Nc,Nr,cc,nm,wm,cs,ks,ns,ws,made,cnt,rfl,hI⟩) (un_r ho))
 ·refine zuv hF ⟨by omega,by omega⟩ w.G hm.hg (by omega) w.B (by omega) hm.hb c s hc hs goal hgo _ (fun N' d hF' ho=>h d N' ?_ ho)
  have e:((k+(n+1):Nat):Int)=((k+n:Nat):Int)+1:=by omega
  show FldAny fb room ((k+(n+1):Nat):Int) N'
  rw[e]
  exact hF'
theorem FldAny.objs{fb:Nat}{room k:Int}{N:Store}(h:FldAny fb room k N):FldAny fb room k N.objs:=by
 have eu:∀a b:Store,(a.un b).objs=a.objs.un b.objs:=fun a b=>rfl
 have hC:∀{Nc:Store} {c cs ks},yj Nc c room cs ks->yj Nc.objs c room cs ks:=fun⟨m,v,hh,e,bs,clk,h1,h2,h3,h4,h5⟩=>⟨m,v,hh,e,bs,clk,h1,h2,h3,h4,h5⟩
 have hh:∀{S:Store} {b},S.objs.has b->S.has b:=fun h=>h.elim (fun h=>.inl h) (fun h=>absurd rfl h)
 have hD:∀{a b:Store},Disj a b->Disj a.objs b.objs:=fun hd i h1 h2=>hd i (hh h1) (hh h2)
 rcases h with⟨g,l,Nc,Nr,c,nm,wm,cs,ks,ns,ws,made,cnt,e,h⟩|⟨Nc,Nr,c,cs,ks,made,cnt,x0,x1,x2,x3,y0,y1,e,h1,h2,h3,h4,h5⟩
 ·exact .inl ⟨g,l,Nc.objs,Nr.objs,c,nm,wm,cs,ks,ns,ws,made,cnt,by rw[e,eu],⟨⟨hD h.b.dj,hC h.b.hC,h.b.hf,h.b.hn,h.b.hw,h.b.d1,h.b.d2,h.b.d3,h.b.r,h.b.n0,h.b.sz⟩,h.nets,h.ways⟩⟩
 ·exact .inr ⟨Nc.objs,Nr.objs,c,cs,ks,made,cnt,x0,x1,x2,x3,y0,y1,by rw[e,eu],hD h1,hC h2,h3,h4,h5⟩
end Go.Proofs
