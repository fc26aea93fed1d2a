/- Ground of laws of throngtop: contracts and plain lemmas; no condition beyond the row's own. -/
import Derived.Test.YtphhbmaalpdnoaaGreatKV
import Derived.Test.YtphhbmaalpdnoaaGreatKU
set_option linter.unusedSimpArgs false
set_option linter.unusedVariables false
set_option linter.defProp false
namespace Go.Proofs
open Go Go.V
set_option maxRecDepth 20000
set_option maxHeartbeats 4000000
abbrev u32A(n:Int):AV:=.s (.int .u32 n)
abbrev i32A(n:Int):AV:=.s (.int .i32 n)
theorem om(b:Nat)(l:List AV)(d:Int)(o:Nat)(st:Store)(R:Ja)(hb:st.obj b=some (.cells l))(hl:l[o]?=some (u32A d))(h:R (V.bool (d != 0)) st):
  Jb 202 [ptrA b o] st R:=by
 refine Qa (c:=cfg 8) zb Tryz.func202 ?_;refine ys8 Tryz.func300 ξ ξ ξ .u32 κ hb hl ?_;exact ret h
theorem yr9(x:Bool)(st:Store)(R:Ja)(h:R (u32A (bif x then 1 else 0)) st):Jb 382 [V.bool x] st R:=by
 refine Qa (c:=cfg 4) zb Tryz.func382 ?_;cases x with
 |true=>exact ret h
 |false=>exact ret h
theorem ykc(b:Nat)(l:List AV)(o:Nat)(st:Store)(R:Ja)(hb:st.obj b=some (.cells l))(hl:l[o]?=some (i32A 0))(h:R (.tup []) (st.sO b (.cells (zp l o [i32A 1])))):
  Jb 379 [ptrA b o] st R:=by
 have hl':(zp l o [i32A 1])[o]?=some (i32A 1):=by have:=(Fa2.1 hl).1;unfold zp;rw[Fao,Fa0 θs];rw[Fam,Nat.min_eq_left θ,Nat.sub_self];rfl
 refine Qa (c:=cfg 13) zb Tryz.func379 ?_;refine cm Tryz.func430 ξ ξ ξ .disable κ ?_;refine ys9 Tryz.func431 ξ ξ ξ .i32 κ hb hl ?_;refine cm Tryz.func432 ξ ξ ξ .enable κ ?_;refine zgz rfl κ (zd _ _ _) hl' ?_;refine zg4 Tryz.func433 ξ ξ ξ .acquire κ ?_;exact ret h
theorem zit(b:Nat)(d s x:AV)(st:Store)(R:Ja)(hb:st.obj b=some (.cells [d,i32A 1,s,x]))(h:R (.tup []) (st.sO b (.cells [d,i32A 0,s,x]))):
  Jb 380 [ptrA b 1] st R:=by
 refine Qa (c:=cfg 21) zb Tryz.func380 ?_;refine Qav ?_;refine zgz rfl κ hb rfl ?_;refine zg4 Tryz.func435 ξ ξ ξ .releaseMerge κ ?_;refine cm Tryz.func430 ξ ξ ξ .disable κ ?_;refine zg5 Tryz.func436 ξ ξ ξ .i32 κ hb rfl (s:=0) (λw=>by simp[go_sem];rfl) ?_;refine cm Tryz.func432 ξ ξ ξ .enable κ ?_;exact ret h
theorem yi2(b:Nat)(d s x:AV)(st:Store)(R:Store->Prop)(hb:st.obj b=some (.cells [d,i32A 1,s,x]))(h:R (st.sO b (.cells [d,i32A 0,s,x]))):
  ADefer Tryz.prog 302 [ptrA b 1] st R:=by
 refine ADefer.of_awp (c:={cfg 6 with nm:=true}) zb Tryz.func302 ξ ξ ξ ξ ?_;refine AWp.of_vc zb ?_;refine zit b d s x _ _ hb ?_;exact ret h
theorem yrl(b:Nat)(m s x:AV)(u:Int)(st:Store)(R:Store->Prop)(hb:st.obj b=some (.cells [u32A u,m,s,x]))(h:R (st.sO b (.cells [u32A 1,m,s,x]))):
  ADefer Tryz.prog 303 [ptrA b 0,V.bool true] st R:=by
 refine ADefer.of_awp (c:={cfg 10 with nm:=true}) zb Tryz.func303 ξ ξ ξ ξ ?_;refine AWp.of_vc zb ?_;refine Qc zb ybf ?_;refine⟨yr9 true _ _ ?_,Tv⟩;have key:∀(R':Ja),R' (.tup []) (st.sO b (.cells [u32A 1,m,s,x]))->Jb 381 [ptrA b 0,u32A 1] st R':=λR' hR=>ys7 Tryz.func381 ξ ξ ξ κ (l:=[u32A u,m,s,x]) (u:=.int .u32 u) hb ξ hR;refine⟨Qe,⟨key _ ?_,Tv⟩⟩;refine⟨Qe,?_⟩;exact ret (R:=λ_ S=>R S) h
theorem yi4(b:Nat)(l:List AV)(o:Nat)(st:Store)(R:Ja)(hb:st.obj b=some (.cells l))(hl:l[o]?=some (i32A 0))(h:R (.tup []) (st.sO b (.cells (zp l o [i32A 1])))):
  Jb 301 [ptrA b o] st R:=by
 refine Qa (c:=cfg 6) zb Tryz.func301 ?_;refine ykc b l _ _ _ hb hl ?_;exact ret h
theorem zzh(b:Nat)(s x:AV)(g:FuncId)(cap:List AV)(st:Store)(R:Ja)(hb:st.obj b=some (.cells [u32A 0,i32A 0,s,x]))
  (hf:Jb g cap (st.sO b (.cells [u32A 0,i32A 1,s,x])) λ_ S=>∃x',S.obj b=some (.cells [u32A 0,i32A 1,s,x'])/\R (.tup []) (S.sO b (.cells [u32A 1,i32A 0,s,x']))):
  Jb 203 [ptrA b 0,.clos g cap] st R:=by
 refine ACalls.of_awpD (c:={cfg 21 with nm:=true}) zb Tryz.func203 ξ ξ ξ ξ ξ ?_;refine AWpD.seq (AWpD.of (AWp.of_vc zb ?_));refine yi4 b _ 1 _ _ hb rfl ?_;show AWpD _ _ _ _ _ _;refine AWpD.seq (AWpD.deferL zb rfl rfl rfl rfl rfl ?_);refine⟨302,[.pointer (some ⟨b,1,none⟩)],rfl,rfl,?_⟩;show AWpD _ _ _ _ _ _;refine AWpD.seq (AWpD.of (AWp.of_vc zb ?_));refine om b _ 0 0 _ _ (zd _ _ _) rfl ?_;show AWpD _ _ _ _ _ _;refine AWpD.cond true rfl ?_;show AWpD _ _ _ _ _ _;refine AWpD.seq (AWpD.deferL zb rfl rfl rfl rfl rfl ?_);refine⟨303,[.pointer (some ⟨b,0,none⟩),.bool true],rfl,rfl,?_⟩;show AWpD _ _ _ _ _ _;refine AWpD.of (AWp.of_vc zb ?_);refine hf.imp λr S ⟨x',h1,h2⟩=>?_;refine⟨303,[.pointer (some ⟨b,0,none⟩),.bool true],rfl,?_⟩;refine yrl b _ _ _ 0 _ _ h1 ?_;refine⟨302,[.pointer (some ⟨b,1,none⟩)],rfl,?_⟩;refine yi2 b _ _ _ _ _ (zd _ _ _) ?_;show R (.tup []) _;rw[ym];exact h2
theorem zbi(b:Nat)(s x:AV)(g:FuncId)(cap:List AV)(st:Store)(R:Ja)(hb:st.obj b=some (.cells [u32A 0,i32A 0,s,x]))
  (hf:Jb g cap (st.sO b (.cells [u32A 0,i32A 1,s,x])) λ_ S=>∃x',S.obj b=some (.cells [u32A 0,i32A 1,s,x'])/\R (.tup []) (S.sO b (.cells [u32A 1,i32A 0,s,x']))):
  Jb 125 [ptrA b 0,.clos g cap] st R:=by
 refine Qa (c:=cfg 12) zb Tryz.func125 ?_;refine om b _ 0 0 _ _ hb rfl ?_;refine zzh b s x g cap _ _ hb (hf.imp λr S ⟨x',h1,h2⟩=>⟨x',h1,?_⟩);exact ret h2
theorem zbj(b:Nat)(l:List AV)(f:AV)(st:Store)(R:Ja)(hb:st.obj b=some (.cells (u32A 1::l)))(h:R (.tup []) st):
  Jb 125 [ptrA b 0,f] st R:=by
 refine Qa (c:=cfg 12) zb Tryz.func125 ?_;refine om b _ 1 0 _ _ hb rfl ?_;exact ret h
theorem lr(b o:Nat)(l:List AV)(x y:Int)(st:Store)(R:Ja)(hb:st.obj b=some (.cells l))(hl:l[o]?=some (.s (.int .i64 x)))(h:∀n:Int,R (.s (.int .i64 n)) (st.sO b (.cells (zp l o [.s (.int .i64 n)])))):
  Jb 505 [ptrA b o,.s (.int .i64 y)] st R:=by
 refine Qa (c:=cfg 10) zb Tryz.func505 ?_;refine zg5 Tryz.func510 ξ ξ ξ .i64 κ hb hl (s:=IntKind.wrap .i64 (x+y)) (λw=>by simp[go_sem]) ?_;exact ret (h _)
section
variable {v:AV} {N:Store} {c:Nat} {room:Int}
theorem ylk{S:Store}{ns:List Int}(hv:Ints S v ns)(hn:ns.length<=1000000)(x:Int)(R:Ja)(h1:x∉ns->R (int (-1)) S)
  (h2:∀i:Nat,ns[i]?=some x->(∀j<i,ns[j]?≠some x)->R (int i) S):
  Jb 439 [v,int x] S R:=by
 rcases hv with⟨rfl,rfl⟩|⟨b,cap,L,rfl,hb,hc1,hc2,hc3⟩
 ·refine Qa (c:=cfg 19) zb Tryz.func439 ?_;refine AWp.loop (σ:=Nat) ⟨λi=>[(7,.av (int (0:Nat))),(8,.av (int (0:Nat)))],λ_=>[],λi st'=>st'=S,λi=>i⟩ zb ?_ ?_
  ·exact⟨0,Tv,rfl,⟨Tq,Tq,Tv⟩,Tv⟩
  rintro i st' rfl;exact ret (h1 φ)
 ·refine Qa (c:=cfg 19) zb Tryz.func439 ?_
  refine AWp.loop (σ:=Nat) ⟨λi=>[(0,.av (.s (.slice (some ⟨b,0,none⟩) ns.length cap))),(1,.av (int x)),(7,.av (int (ns.length:Nat))),(8,.av (int (i:Nat)))],λ_=>[],
   λi st'=>i<=ns.length/\st'=S/\∀j,j<i->ns[j]?≠some x,λi=>ns.length-i⟩ zb ?_ ?_
  ·exact⟨0,Tv,⟨Fae _,rfl,λj hj=>absurd hj (Fa3 j)⟩,Qaq,Tv⟩
  rintro i st' ⟨hi,rfl,hall⟩;refine bcd (λc1=>?_) (λc1=>?_);rotate_left
  ·refine ret (h1 (λhm=>?_));grind[List.mem_iff_getElem?]
  have hlt:i<ns.length:=θ;refine⟨i,rfl,hlt,?_⟩;refine Qav ?_;have hd:((ns.map aI++L).drop (0+i*1)).head?=some (int ns[i]):=by rw[Fcc,Fau χ,Faq];simp[hlt];rfl
  refine za _ hd ?_;refine zw (λc2=>?_) (λc2=>?_)
  ·refine ret (h2 i ?_ hall);grind
  ·refine Qd ?_;refine⟨i+1,?_,⟨θ,rfl,λj hj=>?_⟩,Qaq,Tv⟩
   ·grind
   grind
theorem zel(k:Int):∀(ks:List Int) (i:Nat),ks[i]?=some k->(∀j<i,ks[j]?≠some k)->ks.erase k=ks.take i++ks.drop (i+1)
 |[],i,h,_=>θi
 |x::l,0,h,_=>δ
 |x::l,i+1,h,hl=>by
  have hx:x≠k:=λe=>hl 0 θ (by simp[e]);have ih:=zel k l i θv λj hj=>by simpa using hl (j+1) θ
  rw[List.erase_cons_tail θj,ih];simp
def ql(N:Store)(c:Nat)(room:Int)(cs:List (Int×Int))(ks:List Int):Prop:=
 ∃m v h e bs clk,N.obj c=some (.cells [int room,.s (.map (some m)),v,int h,int e])/\N.obj m=some (.map (cs.map (yu λk=>int k)) bs clk)/\Ints N v ks/\c≠m/\(∀b n cap,v=.s (.slice (some ⟨b,0,none⟩) n cap)->b≠c/\b≠m)
theorem yqf{cs:List (Int×Int)}{ks:List Int}(hN:ql N c room cs ks)(hk:ks.length<=1000000)(k:Int)(R:Ja)
  (h:∀N',ql N' c room cs (ks.erase k)->R (.tup []) N'):Jb 512 [ptr c,int k] N R:=by
 obtain⟨m,v,hh,e,bs,clk,h1,h2,h3,h4,h5⟩:=hN;refine Qa (c:=cfg 24) zb Tryz.func512 ?_;refine Qav ?_;refine ylk h3 hk k _ (λhn=>?_) (λi hi hl=>?_)
 ·refine ret (h N ?_);rw[List.erase_of_not_mem hn];exact⟨m,v,hh,e,bs,clk,h1,h2,h3,h4,h5⟩
 ·have hlt:i<ks.length:=(Fa2.1 hi).1;have he:ks.erase k=ks.take i++ks.drop (i+1):=zel k ks i hi hl;rcases h3 with⟨rfl,rfl⟩|⟨b,cap,L,rfl,hb,hc1,hc2,hc3⟩
  ·simp at hlt
  obtain⟨hbc,hbm⟩:=h5 b _ _ rfl;refine Qav ?_;refine Qd ?_;have e1:((i:Int)+1)=((i+1:Nat):Int):=θ;rw[e1];refine ze0 hb hc1 hc3 θ θ _ ?_;refine za (o:=(N.sO b _).obj c) _ ((zg hbc.symm).trans h1) ?_;refine⟨φ,?_⟩;refine ret (h _ ?_);rw[he];refine⟨m,_,hh,e,bs,clk,zd _ _ _,?_,.inr ⟨b,cap,List.replicate (i+1-i) (aI 0)++L,rfl,?_,?_,?_,hc3⟩,h4,λb' n' c' hv=>?_⟩
  ·simp_all[zg,Ne.symm]
  ·rw[zg hbc];exact zd _ _ _
  ·simp;omega
  ·simp;omega
  grind
theorem ze3{cs:List (Int×Int)}{ks:List Int}(hN:ql N c room cs ks)(hk:ks.length<=1000000)(k:Int)(R:Ja)
  (h:∀N',ql N' c room cs (k::ks.erase k)->R (.tup []) N'):Jb 507 [ptr c,int k] N R:=by
 refine Qa (c:=cfg 17 [13,1000013] []) zb Tryz.func507 ?_;refine yqf hN hk k _ λN1 hN1=>?_;obtain⟨m,v,hh,e,bs,clk,h1,h2,h3,h4,h5⟩:=hN1;have hke:(ks.erase k).length<=ks.length:=δ;refine Qav ?_;refine⟨ψ,λvb hvb=>?_⟩;have hvc:c≠vb:=λe=>by have:=hvb.1;grind
 have hvm:m≠vb:=λe=>by have:=hvb.1;grind
 refine lp (h3.fresh _ hvb) k 0 (Fae _) (zd _ _ _) (λb cap hv he=>?_) θ _ (λb cap L q1 q2 q3 q4=>?_)
 ·rcases h3 with⟨rfl,_⟩|⟨b',cap',L',rfl,hb',_⟩
  ·cases hv
  ·simp only[AV.s.injEq,Value.slice.injEq,Faf,Addr.mk.injEq]at hv;have:=hvb.1;grind
 have hbc:b≠c/\b≠m:=by
  rcases q1 with q1|⟨c0,q1⟩
  ·refine⟨λe=>?_,λe=>?_⟩
   ·have:=q1.1;grind[zg]
   ·have:=q1.1;grind[zg]
  ·exact h5 _ _ _ q1
 refine za (o:=Store.obj (Store.sO _ b _) c) _ ((zg hbc.1.symm).trans ((zg hvc).trans h1)) ?_;refine⟨φ,?_⟩;refine ret (h _ ?_);refine⟨m,_,hh,e,bs,clk,zd _ _ _,?_,.inr ⟨b,cap,L,rfl,?_,q2,q3,q4⟩,h4,λb' n' c' hv=>?_⟩
 ·simp_all[zg,Ne.symm]
 ·rw[zg hbc.1];exact zd _ _ _
 grind
theorem ln{ks:List Int}(h:Ints N v ks)(hne:∀b n cap,v=.s (.slice (some ⟨b,0,none⟩) n cap)->b≠c)(x:AObj):Ints (N.sO c x) v ks:=by
 rcases h with⟨rfl,rfl⟩|⟨b,cap,L,rfl,hb,h1,h2,h3⟩
 ·exact .inl ⟨rfl,rfl⟩
 ·exact .inr ⟨b,cap,L,rfl,by rw[zg (hne b _ _ rfl)];exact hb,h1,h2,h3⟩
theorem ykb{α:Type}(f:α->AV)(cs:List (Int×α))(k:Int)(z:AV):Ft true z ((cs.map (yu f)).find? (qA k))=match yw cs k with
  |some v=>.tup [f v,V.bool true]
  |none=>.tup [z,V.bool false]:=by
 rw[mq];unfold yw;cases cs.find? λe=>k==e.1 with
 |none=>rfl
 |some e=>rfl
theorem yq5{cs:List (Int×Int)}{ks:List Int}(hN:ql N c room cs ks)(hk:ks.length<=1000000)(k:Int)(R:Ja)
  (h0:yw cs k=none->∀N',ql N' c room cs ks->R (.tup [int 0,V.bool false]) N')
  (h1:∀v,yw cs k=some v->∀N',ql N' c room cs (k::ks.erase k)->R (.tup [int v,V.bool true]) N'):Jb 501 [ptr c,int k] N R:=by
 obtain⟨m,v,hh,e,bs,clk,g1,g2,g3,g4,g5⟩:=hN;refine Qa (c:=cfg 31) zb Tryz.func501 ?_;refine Qav ?_;refine Ak rfl (it:=ti308) (ie:=ti2) (ik:=ti2) rfl rfl rfl rfl g2 rfl (qA k) (λe he=>?_) ?_
 ·obtain⟨e,_,rfl⟩:=Fai.1 he;rfl
 rw[ykb];cases hg:yw cs k with
 |none=>
  refine lr c 4 _ e 1 _ _ g1 rfl λn=>?_;refine ret (h0 hg _ ⟨m,v,hh,n,bs,clk,zd _ _ _,?_,ln g3 (λb n cap hv=>(g5 b n cap hv).1) _,g4,g5⟩);rw[zg (Ne.symm g4)];exact g2
 |some v'=>
  refine lr c 3 _ hh 1 _ _ g1 rfl λn=>?_;refine ze3 (cs:=cs) (room:=room) (ks:=ks) ⟨m,v,n,e,bs,clk,zd _ _ _,?_,ln g3 (λb n cap hv=>(g5 b n cap hv).1) _,g4,g5⟩ hk k _ λN' hN'=>?_
  ·rw[zg (Ne.symm g4)];exact g2
  exact ret (h1 v' hg N' hN')
theorem yq9{cs:List (Int×Int)}{ks:List Int}(hN:ql N c room cs ks)(R:Ja)
  (h:∀N',ql N' c room [] []->R (.tup []) N'):Jb 177 [ptr c] N R:=by
 obtain⟨m,v,hh,e,bs,clk,g1,g2,g3,g4,g5⟩:=hN;refine Qa (c:=cfg 9) zb Tryz.func177 ?_;refine Qav ?_;refine ys4 rfl rfl rfl rfl (it:=ti308) rfl rfl g2 ?_;refine za (o:=(N.sO m _).obj c) _ ((zg g4).trans g1) ?_;refine⟨φ,?_⟩;refine ret (h _ ⟨m,.s (.slice none 0 0),hh,e,[],clk,zd _ _ _,?_,.inl ⟨rfl,rfl⟩,g4,λb n cap hv=>by cases hv⟩);rw[zg (Ne.symm g4)];exact zd _ _ _
theorem yqm(n:Int)(hn:1<=n)(hn2:n<=4096)(st:Store)(R:Ja)(h:∀N' c,ql N' c n [] []->R (.tup [ptr c,int 0]) N'):
  Jb 105 [int n] st R:=by
 refine Qa (c:=cfg 14 [11,13] []) zb Tryz.func105 ?_;refine bcd (λc1=>absurd c1 θ) (λc1=>?_);refine bcd (λc2=>absurd c2 θ) (λc2=>?_);refine Hw rfl (λm hm=>?_);intro c hc;have hne:c≠m:=λe=>by have:=hc.1;grind[zd]
 refine ret (h _ c ⟨m,.s (.slice none 0 0),0,0,[],0,zd _ _ _,?_,.inl ⟨rfl,rfl⟩,hne,λb n cap hv=>by cases hv⟩);rw[zg (Ne.symm hne)];exact zd _ _ _
theorem yj5{α:Type}(f:α->AV)(cs:List (Int×α))(bs:List Nat)(clk:Nat)(k:Int):∃bs',D5 (cs.map (yu f)) bs clk (qA k)=.map ((cs.eraseP λe=>k==e.1).map (yu f)) bs' clk:=by
 have hq:(cs.map (yu f)).findIdx? (qA k)=cs.findIdx? λe=>k==e.1:=by rw[List.findIdx?_map];rfl
 unfold D5;rw[hq,List.eraseP_eq_eraseIdx];cases cs.findIdx? λe=>k==e.1 with
 |none=>exact⟨_,rfl⟩
 |some i=>simp_all[List.eraseIdx_eq_take_drop_succ]
theorem yp7{cs:List (Int×Int)}{ks:List Int}(hN:ql N c room cs ks)(hk:ks.length<=100000)(k x:Int)(R:Ja)
  (h1:((k::ks.erase k).length:Int)<=room->∀N',ql N' c room (yp cs k x) (k::ks.erase k)->R (.tup []) N')
  (h2:room<((k::ks.erase k).length:Int)->∀N',ql N' c room ((yp cs k x).eraseP λe=>(k::ks.erase k).getLastD 0==e.1) (k::ks.erase k).dropLast->R (.tup []) N'):
  Jb 502 [ptr c,int k,int x] N R:=by
 obtain⟨m,v,hh,e,bs,clk,g1,g2,g3,g4,g5⟩:=hN;refine Qa (c:=cfg 49) zb Tryz.func502 ?_;refine Qav ?_;refine Fg (.inl rfl) rfl (it:=ti308) (ik:=ti2) rfl rfl rfl g2 rfl rfl (qA k) (λe he=>?_) (λe1 he hq=>?_) ?_
 ·obtain⟨e,_,rfl⟩:=Fai.1 he;rfl
 ·obtain⟨e,_,rfl⟩:=Fai.1 he;grind[qA,yu,int]
 obtain⟨bs',clk',hput⟩:=K8 (λk=>int k) cs bs clk k x;rw[hput];refine ze3 (cs:=yp cs k x) (room:=room) (ks:=ks) ⟨m,v,hh,e,bs',clk',(zg g4).trans g1,zd _ _ _,ln g3 (λb n cap hv=>(g5 b n cap hv).2) _,g4,g5⟩ θ k _ λN1 hN1=>?_;have hN2:=hN1;have hke:(ks.erase k).length<=ks.length:=δ;generalize hQ:k::ks.erase k=Q at*;have hQl:Q.length<=100001:=δ;obtain⟨m,v,hh,e,bs,clk,f1,f2,f3,f4,f5⟩:=hN1;rcases f3 with⟨rfl,rfl⟩|⟨b,cap,L,rfl,hb,hc1,hc2,hc3⟩
 ·cases hQ
 refine Qav ?_;refine Qav ?_;refine bcd (λc1=>?_) (λc1=>?_)
 ·refine Qc zb yac ?_;refine Qav ?_;refine Qav ?_;refine Qd ?_;have hQ0:0<Q.length:=by
   rw[<-hQ];simp
  have hlt:Q.length-1<Q.length:=θ;refine⟨Q.length-1,θ,hlt,?_⟩;refine Qav ?_;have hd:((Q.map aI++L).drop (0+(Q.length-1)*1)).head?=some (int (Q.getLastD 0)):=by rw[Fcc,Fau χ,Faq,Fbi,Nat.mul_one];rw[Fac hlt,List.getLastD_eq_getLast?,List.getLast?_eq_getElem?,Fac hlt];rfl
  refine za _ hd ?_;refine⟨ci rfl rfl rfl rfl (it:=ti308) (ik:=ti2) rfl rfl rfl f2 rfl (qA (Q.getLastD 0)) (λe he=>?_) ⟨?_,?_⟩,Tv⟩
  ·obtain⟨e,_,rfl⟩:=Fai.1 he;rfl
  ·trivial
  obtain⟨bs2,hdel⟩:=yj5 (λk=>int k) (yp cs k x) bs clk (Q.getLastD 0);rw[hdel];have f1':=(zg (st:=N1) (x:=.map (((yp cs k x).eraseP λe=>Q.getLastD 0==e.1).map (yu λk=>int k)) bs2 clk) f4).trans f1;refine za (o:=Store.obj (Store.sO _ m _) c) _ f1' ?_;refine Qd ?_;refine⟨0,Q.length-1,rfl,δ,θ,θ,.inl ⟨θ,?_⟩⟩;refine za (o:=Store.obj (Store.sO _ m _) c) _ f1' ?_;refine⟨φ,?_⟩;refine ret (h2 θ _ ⟨m,.s (.slice (some ⟨b,0,none⟩) Q.dropLast.length cap),hh,e,bs2,clk,?_,?_,.inr ⟨b,cap,[int (Q.getLastD 0)]++L,rfl,?_,χ,χ,hc3⟩,f4,λb' n' c' hv=>?_⟩)
  ·grind[zd]
  ·rw[zg (Ne.symm f4)];exact zd _ _ _
  ·rw[zg (f5 b _ _ rfl).1,zg (f5 b _ _ rfl).2,hb];have hne:Q≠[]:=λe=>by grind
   have hl:Q.getLastD 0=Q.getLast hne:=δ;have hq:Q=Q.dropLast++[Q.getLastD 0]:=by rw[hl,Fd0 hne]
   conv=>lhs;rw[hq]
   simp;rfl
  grind
 ·exact ret (h1 θ _ hN2)
end
theorem zdk(g:Gnd)(hg:g.T.length<=1000000000)(st:Store)(R:Ja)(h:R (.agg (zu g)) st):Jb 69 [.agg (zu g)] st R:=by
 refine Fv (Q:=λr=>r=.agg (zu g)) ((lw g hg Store.empty (λr S=>∃v,RowsQ 1 u8C S v g.T/\r=.agg [int g.W,int g.H,v]) (λv N hv hd=>⟨v,by rw[Du];exact hv,rfl⟩)).frozen ?_) st R λr hr=>hr▸h;rintro r S ⟨v,hv,rfl⟩;refine⟨_,rfl,λOth M W x sto hx=>?_⟩;cases hx with
 |agg _ c hl hc=>
  refine .agg _ c hl λi y z hy hz=>?_
  match i with
  |0=>simp only[zu,Fag,Faf]at hy;subst hy;exact xg (hc 0 _ z rfl hz)
  |1=>simp only[zu,Fan,Fag,Faf]at hy;subst hy;exact xg (hc 1 _ z rfl hz)
  |2=>simp only[zu,Fan,Fag,Faf]at hy;subst hy;exact hv.borrow R3 dm sto (hc 2 _ z rfl hz)
  |i+3=>simp[zu]at hy
theorem zfh(l:List Bld)(hl:l.length<=1000000000)(st:Store)(R:Ja)(h:R (lst 6 zi l) st):Jb 112 [lst 6 zi l] st R:=by refine Fv (Q:=λr=>r=lst 6 zi l) ((bj l hl Store.empty (λr S=>RowsQ 6 zi S r l) (λv N hv hd=>by rw[Du];exact hv)).frozen ?_) st R λr hr=>hr▸h;rintro r S hv;exact⟨_,rfl,λOth M W x sto hx=>hv.borrow ko Rj sto hx⟩
theorem yoz(a b:List Bld)(ha:a.length<=1000000000000)(st:Store)(R:Ja)(h:∀z:Bool,(z=true->a=b)->R (V.bool z) st):Jb 298 [lst 6 zi a,lst 6 zi b] st R:=by
 refine Qa (c:=cfg 26) zb Tryz.func298 ?_;refine zk (λh1=>?_) (λh1=>?_)
 ·exact ret (h false (λe=>θb))
 ·have hl:a.length=b.length:=Nh h1;refine AWp.loop (σ:=Nat) ⟨λi=>[(0,.av (lst 6 zi a)),(1,.av (lst 6 zi b)),(12,.av (int ((rws zi a).length:Nat))),(13,.av (int (i:Nat)))],λ_=>[],λi st'=>i<=a.length/\a.take i=b.take i/\st'=st,λi=>a.length-i⟩ zb ?_ ?_
  ·exact⟨0,Tv,⟨Fae _,rfl,rfl⟩,Qaq,Tv⟩
  ·rintro i st' ⟨hi,heq,rfl⟩;refine zk (λh2=>?_) (λh2=>?_)
   ·have hlt:i<a.length:=wo h2;have hltb:i<b.length:=θ;refine Qc zb ybh ?_;refine⟨i,rfl,za _ (zq hlt) ?_⟩;refine⟨i,rfl,za _ (zq hltb) ?_⟩;refine zk (λh3=>?_) (λh3=>?_)
    ·exact ret (h false (λe=>θb))
    ·refine Qd ?_;refine⟨i+1,?_,⟨hlt,?_,rfl⟩,Qaq,Tv⟩
     ·show a.length-(i+1)<a.length-i;omega
     ·rw[Fab hlt,Fab hltb,heq];have:a[i]=b[i]:=by cases hx:a[i];cases hy:b[i];rw[hx,hy]at h3;simp at h3;simp[h3]
      rw[this]
   ·have hge:i=a.length:=Aw h2 hi;subst hge;refine ret (h true (λ_=>?_));rw[Fal,hl,Fal]at heq;exact heq
theorem yoy(a b:List UInt8)(ha:a.length<=1000000000000)(st:Store)(R:Ja)(h:∀z:Bool,(z=true->a=b)->R (V.bool z) st):Jb 299 [lst 1 u8C a,lst 1 u8C b] st R:=by
 refine Qa (c:=cfg 26) zb Tryz.func299 ?_;refine zk (λh1=>?_) (λh1=>?_)
 ·exact ret (h false (λe=>θb))
 ·have hl:a.length=b.length:=Nh h1;refine AWp.loop (σ:=Nat) ⟨λi=>[(0,.av (lst 1 u8C a)),(1,.av (lst 1 u8C b)),(12,.av (int ((rws u8C a).length:Nat))),(13,.av (int (i:Nat)))],λ_=>[],λi st'=>i<=a.length/\a.take i=b.take i/\st'=st,λi=>a.length-i⟩ zb ?_ ?_
  ·exact⟨0,Tv,⟨Fae _,rfl,rfl⟩,Qaq,Tv⟩
  ·rintro i st' ⟨hi,heq,rfl⟩;refine zk (λh2=>?_) (λh2=>?_)
   ·have hlt:i<a.length:=wo h2;have hltb:i<b.length:=θ;refine Qc zb ybg ?_;refine⟨i,rfl,za _ (zq hlt) ?_⟩;refine⟨i,rfl,za _ (zq hltb) ?_⟩;refine zk (λh3=>?_) (λh3=>?_)
    ·exact ret (h false (λe=>θb))
    ·refine Qd ?_;refine⟨i+1,?_,⟨hlt,?_,rfl⟩,Qaq,Tv⟩
     ·show a.length-(i+1)<a.length-i;omega
     ·rw[Fab hlt,Fab hltb,heq];have:a[i]=b[i]:=UInt8.toNat_inj.1 (by have:=h3;simp at this;omega);rw[this]
   ·have hge:i=a.length:=Aw h2 hi;subst hge;refine ret (h true (λ_=>?_));rw[Fal,hl,Fal]at heq;exact heq
theorem yqt{N:Store}{v:AV}{ks:List Int}(hv:Ints N v ks)(hk:ks.length<=1000000)(R:Ja)
  (h0:ks=[]->∀a,Mb a->R (.s (.slice a 0 0)) N)
  (h1:∀b cap L,Fresh N b->ks.length<=cap->cap<=ks.length+L.length->cap<=9223372036854775807->R (.s (.slice (some ⟨b,0,none⟩) ks.length cap)) (N.sO b (.cells (ks.map aI++L)))):
  Jb 222 [v] N R:=by
 rcases hv with⟨rfl,rfl⟩|⟨b,cap,L,rfl,hb,hc1,hc2,hc3⟩
 ·refine Qa (c:=cfg 8) zb Tryz.func222 ?_;exact ret (h0 rfl none (λ_ h=>ω))
 ·refine Qa (c:=cfg 8) zb Tryz.func222 ?_;have hb':N.obj b=some (.cells (ks.map aI++L)):=hb;have htk:((ks.map aI++L).drop 0).take (ks.length*1)=ks.map aI:=φ;have hsrc:=SrcOK.obj (P:=Tryz.prog) (k:=1) (m:=ks.length) (o:=0) (cp:=cap) hb' φ (by
   rw[htk];intro y hy;obtain⟨z,_,rfl⟩:=Fai.1 hy;rfl)
  rw[htk]at hsrc;refine⟨ψ,?_⟩;refine⟨.inr ⟨_,_,rfl,rfl,yse (ie:=ti2) rfl hsrc ⟨by show ks.length*8<=_;omega,θ⟩ (λhm a ha=>?_) (λhm b' cap' hf h2 h3=>?_)⟩⟩
  ·exact ret (h0 (Far hm) a ha)
  ·exact ret (h1 b' cap' _ hf h2 (by rw[Fa5];show cap'<=ks.length+(cap'-ks.length)*1;omega) h3)
theorem Lf(n:Int):(zv n).length=1:=rfl
theorem Ph(n:Int):∀y∈zv n,∃x,y=AV.s x/\qw x=true:=by intro y hy;simp[zv]at hy;exact⟨_,hy,rfl⟩
theorem yj0(ks:List Int):(rws zv ks).flatten=ks.map aI:=by
 induction ks with
 |nil=>rfl
 |cons k l ih=>
  show zv k++(rws zv l).flatten=aI k::l.map aI;rw[ih];rfl
theorem ykr{N:Store}{c:Nat}{room:Int}{cs:List (Int×Int)}{ks:List Int}(hN:ql N c room cs ks)(hk:ks.length<=1000000)(R:Ja)
  (h:∀N',ql N' c room cs ks->R (yh ks) N'):Jb 508 [ptr c] N R:=by
 have key:Jb 508 [ptr c] N λr S=>(ks=[]/\(∃a,Mb a/\r=.s (.slice a 0 0))/\S=N)\/∃b cap L,Fresh N b/\ks.length<=cap/\cap<=ks.length+L.length/\cap<=9223372036854775807/\r=.s (.slice (some ⟨b,0,none⟩) ks.length cap)/\S=N.sO b (.cells (ks.map aI++L)):=by
  obtain⟨m,v,hh,e,bs,clk,h1,h2,h3,h4,h5⟩:=hN;refine Qa (c:=cfg 8) zb Tryz.func508 ?_;refine Qav ?_;refine yqt h3 hk _ (λe a ha=>?_) (λb cap L hf h1 h2 h3=>?_)
  ·exact ret (.inl ⟨e,⟨a,ha,rfl⟩,rfl⟩)
  ·exact ret (.inr ⟨b,cap,L,hf,h1,h2,h3,rfl,rfl⟩)
 have hN':ql N.objs c room cs ks:=by obtain⟨m,v,hh,e,bs,clk,h1,h2,h3,h4,h5⟩:=hN;exact⟨m,v,hh,e,bs,clk,h1,h2,h3,h4,h5⟩
 refine key.frozenTo ?_;rintro r S (⟨e,⟨a,ha,hr⟩,hS⟩|⟨b,cap,L,hf,h1,h2,h3,hr,hS⟩)<;>subst hr hS
 ·subst e;refine⟨_,_,h _ hN',λb x hx=>hx,λb x hx=>θa,λOth M W v sto hx=>?_⟩;have hq:RowsQ 1 zv Store.empty (.s (.slice a 0 0)) []:=.inr ⟨a,ha,rfl,rfl⟩;have sE:StoreOK Store.empty Oth M W:=sto.weaken ⟨λi y hy=>(by cases hy),λi y hy=>(by cases hy)⟩;refine(hq.borrow Lf Ph sE hx).mono λi o hT=>⟨hT.1,?_⟩
  rfl
 ·refine⟨_,_,h _ hN',λi x hx=>?_,λb x hx=>θa,λOth M W v sto hx=>?_⟩
  ·have:i≠b:=λe=>by
    rw[e]at hx;exact absurd (hx.symm.trans hf.1) φ
   rw[zg this];exact hx
  ·have hq:RowsQ 1 zv (Store.empty.sO b (.cells (ks.map aI++L))) (.s (.slice (some ⟨b,0,none⟩) ks.length cap)) ks:=.inl (.inr ⟨b,cap,L,rfl,by rw[yj0];exact zd _ _ _,h1,θ,h3⟩);have sE:StoreOK (Store.empty.sO b (.cells (ks.map aI++L))) Oth M W:=by
    refine sto.weaken ⟨λi y hy=>?_,λi y hy=>by cases hy⟩;by_cases hi:i=b
    ·subst hi;rw[zd]at hy⊢;exact hy
    ·have hy2:(Store.empty.sO b (AObj.cells (ks.map aI++L))).obj i=none:=(zg hi).trans rfl;rw[hy2]at hy;cases hy
   refine(hq.borrow Lf Ph sE hx).mono λi o hT=>⟨hT.1,?_⟩
   by_cases hi:i=b
   ·subst hi;rcases hT.2 with e|e
    ·rw[zd]at e;cases e
    ·exact absurd hf.1 e
   ·exact(zg hi).trans rfl
section
variable {a N N' Nc Nr S:Store} {key room k:Int} {fb:Nat} {a1 x0 x1 x2 x3 y0 y1 a9 a0:AV}
theorem Qag{p:Prop}(h:p:=by trivial):p:=h
theorem Qah{p:Prop}(h:p:=by rw[zz,ym];rfl):p:=h
abbrev mapA(m:Nat):AV:=.s (.map (some m))
def keepsB(ex:List Nat)(N N':Store):Prop:=∀i y,i∉ex->N.obj i=some y->N'.obj i=some y
theorem keepsB.refl(ex:List Nat)(N:Store):keepsB ex N N:=λ_ _ _ h=>h
theorem keepsB.trans{ex:List Nat}{b c:Store}(h:keepsB ex a b)(h':keepsB ex b c):keepsB ex a c:=λi y hi hy=>h' i y hi (h i y hi hy)
theorem keepsB.set{ex:List Nat}{b:Store}(h:keepsB ex a b){p:Nat}{x:AObj}(hp:p∈ex\/a.obj p=none):keepsB ex a (b.sO p x):=λi y hi hy=>by have:i≠p:=λe=>δ;rw[zg this];exact h i y hi hy
def wz(c s:Int)(goal:Nat):Int:=(4*c+s)*128*128+goal
noncomputable abbrev wayL(g:Gnd)(l:List Bld)(c s:Int)(goal:Nat):List AV:=il g.T.length (jl g (yf g l c s) c (Ad g (yf g l c s) c goal))
def G4(c:Int):Prop:=c=0\/c=1\/c=2
def NetOK(g:Gnd)(l:List Bld)(ex:List Nat)(N:Store)(key:Int)(b:Nat):Prop:=
 b∉ex/\∃s d c s',N.obj b=some (.cells [u32A 1,i32A 0,s,ptr d])/\d∉ex/\G4 c/\(0<=s'/\s'<=3)/\key=4*c+s'/\N.obj d=some (.cells (xj g l c s'))
def WayOK(g:Gnd)(l:List Bld)(ex:List Nat)(N:Store)(key:Int)(b:Nat):Prop:=
 b∉ex/\∃s d c s' goal,N.obj b=some (.cells [u32A 1,i32A 0,s,.s (.slice (some ⟨d,0,none⟩) g.T.length g.T.length)])/\d∉ex/\G4 c/\(0<=s'/\s'<=3)/\goal<g.T.length/\key=wz c s' goal/\N.obj d=some (.cells (wayL g l c s' goal))
theorem NetOK.keep{g:Gnd}{l:List Bld}{ex ex':List Nat}{b:Nat}(h:NetOK g l ex N key b)(hk:keepsB ex N N')(he:∀i,i∈ex'->i∈ex\/N.obj i=none):NetOK g l ex' N' key b:=by obtain⟨h1,s,d,c,s',h2,h3,h4,h5,h6,h7⟩:=h;exact⟨λhb=>(he b hb).elim h1 λq=>(by rw[h2]at q;cases q),s,d,c,s',hk b _ h1 h2,λhb=>(he d hb).elim h3 λq=>(by rw[h7]at q;cases q),h4,h5,h6,hk d _ h3 h7⟩
theorem WayOK.keep{g:Gnd}{l:List Bld}{ex ex':List Nat}{b:Nat}(h:WayOK g l ex N key b)(hk:keepsB ex N N')(he:∀i,i∈ex'->i∈ex\/N.obj i=none):WayOK g l ex' N' key b:=by obtain⟨h1,s,d,c,s',goal,h2,h3,h4,h5,h6,h7,h8⟩:=h;exact⟨λhb=>(he b hb).elim h1 λq=>(by rw[h2]at q;cases q),s,d,c,s',goal,hk b _ h1 h2,λhb=>(he d hb).elim h3 λq=>(by rw[h8]at q;cases q),h4,h5,h6,h7,hk d _ h3 h8⟩
structure FldB(fb:Nat)(room:Int)(g:Gnd)(l:List Bld)(k:Int)(Nc Nr:Store)(c nm wm:Nat)(cs:List (Int×Int))(ks:List Int)(ns ws:List (Int×Nat))(made cnt:Int):Prop where
 dj:zh Nc Nr
 hC:ql Nc c room cs ks
 hf:Nr.obj fb=some (.cells [ptr c,int made,V.bool true,int g.W,int g.H,ya g.T,lst 6 zi l,mapA nm,mapA wm,int cnt])
 hn:∃bs clk,Nr.obj nm=some (.map (ns.map (yu λb=>ptr b)) bs clk)
 hw:∃bs clk,Nr.obj wm=some (.map (ws.map (yu λb=>ptr b)) bs clk)
 d1:fb≠nm
 d2:fb≠wm
 d3:nm≠wm
 r:1<=room/\room<=4096
 n0:0<=cnt/\cnt<=k
 sz:g.T.length<=1000000/\l.length<=1000000
structure FldI(fb:Nat)(room:Int)(g:Gnd)(l:List Bld)(k:Int)(Nc Nr:Store)(c nm wm:Nat)(cs:List (Int×Int))(ks:List Int)(ns ws:List (Int×Nat))(made cnt:Int):Prop where
 b:FldB fb room g l k Nc Nr c nm wm cs ks ns ws made cnt
 nets:∀key b,yw ns key=some b->NetOK g l [fb,nm,wm] Nr key b
 ways:CI (WayOK g l [fb,nm,wm] Nr) room cs ks ws cnt
def FldAny(fb:Nat)(room k:Int)(N:Store):Prop:=
 (∃g l Nc Nr c nm wm cs ks ns ws made cnt,N=Nc.un Nr/\FldI fb room g l k Nc Nr c nm wm cs ks ns ws made cnt)∨
 (∃Nc Nr c cs ks made cnt x0 x1 x2 x3 y0 y1,N=Nc.un Nr/\zh Nc Nr/\ql Nc c room cs ks/\(1<=room/\room<=4096)/\(0<=cnt/\cnt<=k)/\Nr.obj fb=some (.cells [ptr c,int made,V.bool false,x0,x1,x2,x3,y0,y1,int cnt]))
theorem yq1{c:Nat}{cs:List (Int×Int)}{ks:List Int}(hd:zh Nc Nr)(hC:ql Nc c room cs ks)(R:Ja)(h:∀N',zh N' Nr->ql N' c room [] []->R (.tup []) (N'.un Nr)):Jb 177 [ptr c] (Nc.un Nr) R:=by refine ACalls.frame hd (yq9 hC (λr S=>r=.tup []/\ql S c room [] []) (λN' h=>⟨rfl,h⟩)) ?_;grind
theorem zdq{c:Nat}{cs:List (Int×Int)}{ks:List Int}(hd:zh Nc Nr)(hC:ql Nc c room cs ks)(hk:ks.length<=1000000)(k:Int)(R:Ja)
  (h0:yw cs k=none->∀N',zh N' Nr->ql N' c room cs ks->R (.tup [int 0,V.bool false]) (N'.un Nr))
  (h1:∀v,yw cs k=some v->∀N',zh N' Nr->ql N' c room cs (k::ks.erase k)->R (.tup [int v,V.bool true]) (N'.un Nr)):Jb 501 [ptr c,int k] (Nc.un Nr) R:=by
 refine ACalls.frame hd (yq5 hC hk k (λr S=>(yw cs k=none/\r=.tup [int 0,V.bool false]/\ql S c room cs ks)\/∃v,yw cs k=some v/\r=.tup [int v,V.bool true]/\ql S c room cs (k::ks.erase k)) (λe N' h=>.inl ⟨e,rfl,h⟩) (λv e N' h=>.inr ⟨v,e,rfl,h⟩)) ?_;grind
theorem yg0{c:Nat}{cs:List (Int×Int)}{ks:List Int}(hd:zh Nc Nr)(hC:ql Nc c room cs ks)(hk:ks.length<=100000)(k x:Int)(R:Ja)
  (h1:((k::ks.erase k).length:Int)<=room->∀N',zh N' Nr->ql N' c room (yp cs k x) (k::ks.erase k)->R (.tup []) (N'.un Nr))
  (h2:room<((k::ks.erase k).length:Int)->∀N',zh N' Nr->ql N' c room ((yp cs k x).eraseP λe=>(k::ks.erase k).getLastD 0==e.1) (k::ks.erase k).dropLast->R (.tup []) (N'.un Nr)):Jb 502 [ptr c,int k,int x] (Nc.un Nr) R:=by
 refine ACalls.frame hd (yp7 hC hk k x (λr S=>r=.tup []/\((((k::ks.erase k).length:Int)<=room/\ql S c room (yp cs k x) (k::ks.erase k))\/(room<((k::ks.erase k).length:Int)/\ql S c room ((yp cs k x).eraseP λe=>(k::ks.erase k).getLastD 0==e.1) (k::ks.erase k).dropLast))) (λe N' h=>⟨rfl,.inl ⟨e,h⟩⟩) (λe N' h=>⟨rfl,.inr ⟨e,h⟩⟩)) ?_;grind
theorem yks{c:Nat}{cs:List (Int×Int)}{ks:List Int}(hd:zh Nc Nr)(hC:ql Nc c room cs ks)(hk:ks.length<=1000000)(R:Ja)
  (h:∀N',zh N' Nr->ql N' c room cs ks->R (yh ks) (N'.un Nr)):Jb 508 [ptr c] (Nc.un Nr) R:=by
 refine ACalls.frame hd (ykr hC hk (λr S=>r=yh ks/\ql S c room cs ks) (λN' h=>⟨rfl,h⟩)) ?_;grind
theorem fresh_un{g:Store}{b:Nat}(h:Fresh (a.un g) b):Fresh a b/\Fresh g b:=by grind[fresh_iff,un_has]
theorem disj_setR{g:Store}(hd:zh a g){b:Nat}{x:AObj}(h:¬a.has b):zh a (g.sO b x):=λi h1 h2=>by
 rcases has_setObj_iff.1 h2 with e|h2
 ·exact h (e▸h1)
 ·exact hd i h1 h2
theorem Ck{g:Store}(hd:zh a g){b:Nat}{x:AObj}(h:g.obj b=some x):¬a.has b:=λhh=>hd b hh (k9 h)
theorem mn{c:Nat}{cs:List (Int×Int)}{ks:List Int}(hd:zh Nc Nr)(hC:ql Nc c room cs ks){a2:AV}(hf:Nr.obj fb=some (.cells [ptr c,a1,a2,x0,x1,x2,x3,y0,y1,a9]))(R:Ja)
  (h:∀Nc' Nr' nm wm b1 k1 b2 k2,zh Nc' Nr'->ql Nc' c room [] []->Nr'.obj fb=some (.cells [ptr c,a1,V.bool false,x0,x1,x2,x3,mapA nm,mapA wm,a9])->Nr'.obj nm=some (.map [] b1 k1)->Nr'.obj wm=some (.map [] b2 k2)->fb≠nm->fb≠wm->nm≠wm->R (.tup []) (Nc'.un Nr')):
  Jb 106 [ptr fb] (Nc.un Nr) R:=by
 refine Qa (c:=cfg 18) zb Tryz.func106 ?_;refine za (o:=(Nc.un Nr).obj fb) _ (zf hf) ?_;refine yq1 hd hC _ (λNc1 hd1 hC1=>?_);refine Hw rfl (λnm hnm=>?_);refine Hw rfl (λwm hwm=>?_);have f1:=fresh_un hnm;rw[zz]at hwm⊢;have f2:=fresh_un hwm;rw[zz];have hfn:fb≠nm:=λe=>θy;have hwn:wm≠nm:=λe=>by have:=f2.2.1;rw[e,zd]at this;cases this
 have hfw:fb≠wm:=λe=>by have:=f2.2.1;grind[zg]
 have hb:((Nr.sO nm (.map [] [] 0)).sO wm (.map [] [] 0)).obj fb=some (.cells [ptr c,a1,a2,x0,x1,x2,x3,y0,y1,a9]):=(zg hfw).trans ((zg hfn).trans hf);have hm1:((Nr.sO nm (.map [] [] 0)).sO wm (.map [] [] 0)).obj nm=some (.map [] [] 0):=(zg (Ne.symm hwn)).trans (zd _ _ _);have hm2:((Nr.sO nm (.map [] [] 0)).sO wm (.map [] [] 0)).obj wm=some (.map [] [] 0):=zd _ _ _;have hdd:zh Nc1 ((Nr.sO nm (.map [] [] 0)).sO wm (.map [] [] 0)):=disj_setR (disj_setR hd1 (fresh_iff.1 f1.1)) (fresh_iff.1 f2.1);clear f1 f2 hwm hnm;generalize(Nr.sO nm (.map [] [] 0)).sO wm (.map [] [] 0)=N2 at*;have hnc:=Ck hdd hb;refine qd (i:=ti4) (v:=V.bool false) (b:=fb) (o:=2) (l:=[ptr c,a1,a2,x0,x1,x2,x3,y0,y1,a9]) (st2:=Nc1.un (N2.sO fb (.cells [ptr c,a1,V.bool false,x0,x1,x2,x3,y0,y1,a9]))) rfl rfl rfl (zf hb) (show 3<=10 by decide) (zz _ _ _ _) ?_;refine qd (i:=ti210) (v:=mapA nm) (b:=fb) (o:=7) (l:=[ptr c,a1,V.bool false,x0,x1,x2,x3,y0,y1,a9]) (st2:=Nc1.un (N2.sO fb (.cells [ptr c,a1,V.bool false,x0,x1,x2,x3,mapA nm,y1,a9]))) rfl rfl rfl (zf (zd _ _ _)) (show 8<=10 by decide) Qah ?_;refine qd (i:=ti211) (v:=mapA wm) (b:=fb) (o:=8) (l:=[ptr c,a1,V.bool false,x0,x1,x2,x3,mapA nm,y1,a9]) (st2:=Nc1.un (N2.sO fb (.cells [ptr c,a1,V.bool false,x0,x1,x2,x3,mapA nm,mapA wm,a9]))) rfl rfl rfl (zf (zd _ _ _)) (show 9<=10 by decide) Qah ?_;exact ret (h Nc1 _ nm wm [] 0 [] 0 (disj_setR hdd hnc) hC1 (zd _ _ _) ((zg (Ne.symm hfn)).trans hm1) ((zg (Ne.symm hfw)).trans hm2) hfn hfw (Ne.symm hwn))
theorem yd6(hf:S.obj fb=some (.cells [a0,a1,V.bool false,x0,x1,x2,x3,y0,y1,a9]))(g:Gnd)(l:List Bld)(R:Ja)(h:R (V.bool false) S):
  Jb 201 [ptr fb,.agg (zu g),lst 6 zi l] S R:=by
 refine Qa (c:=cfg 49) zb Tryz.func201 ?_;refine Qc zb ui ?_;refine Qav ?_;refine⟨⟨Qag,?_⟩,Tv⟩;refine⟨⟨Qag,?_⟩,Tv⟩;refine⟨⟨Qag,?_⟩,Tv⟩;exact ret h
theorem yd5(g0:Gnd)(l0:List Bld)(hT:g0.T.length<=1000000000000)(hl:l0.length<=1000000000000)(hf:S.obj fb=some (.cells [a0,a1,V.bool true,int g0.W,int g0.H,ya g0.T,lst 6 zi l0,y0,y1,a9]))(g:Gnd)(l:List Bld)(R:Ja)(h:∀z:Bool,(z=true->g0=g/\l0=l)->R (V.bool z) S):
  Jb 201 [ptr fb,.agg (zu g),lst 6 zi l] S R:=by
 refine Qa (c:=cfg 49) zb Tryz.func201 ?_;refine Qc zb ui ?_;refine Qav ?_;refine Qav ?_;refine zw (λc1=>?_) (λc1=>?_);rotate_left
 ·refine⟨⟨Qag,?_⟩,Tv⟩;refine⟨⟨Qag,?_⟩,Tv⟩;refine⟨⟨Qag,?_⟩,Tv⟩;exact ret (h false (λe=>θb))
 refine Qav ?_;refine zw (λc2=>?_) (λc2=>?_);rotate_left
 ·refine⟨⟨Qag,?_⟩,Tv⟩;refine⟨⟨Qag,?_⟩,Tv⟩;refine⟨⟨Qag,?_⟩,Tv⟩;exact ret (h false (λe=>θb))
 refine Qav ?_;refine⟨yoz l0 l hl _ _ (λz hz=>⟨Qag,?_⟩),Tv⟩;cases z with
 |false=>
  refine⟨⟨Qag,?_⟩,Tv⟩;refine⟨⟨Qag,?_⟩,Tv⟩;exact ret (h false (λe=>θb))
 |true=>
  refine Qav ?_;refine⟨yoy g0.T g.T hT _ _ (λz2 hz2=>⟨Qag,?_⟩),Tv⟩;refine⟨⟨Qag,?_⟩,Tv⟩;refine ret (h z2 (λe=>⟨?_,hz rfl⟩));have h3:=hz2 e;have c1:g0.W=g.W:=c1;have c2:g0.H=g.H:=c2;cases g0;simp_all
theorem FldAny.mono{k':Int}(h:FldAny fb room k N)(hk:k<=k'):FldAny fb room k' N:=by
 rcases h with⟨g,l,Nc,Nr,c,nm,wm,cs,ks,ns,ws,made,cnt,e,h⟩|⟨Nc,Nr,c,cs,ks,made,cnt,x0,x1,x2,x3,y0,y1,e,h1,h2,h3,h4,h5⟩
 ·exact .inl ⟨g,l,Nc,Nr,c,nm,wm,cs,ks,ns,ws,made,cnt,e,⟨⟨h.b.dj,h.b.hC,h.b.hf,h.b.hn,h.b.hw,h.b.d1,h.b.d2,h.b.d3,h.b.r,⟨h.b.n0.1,by have:=h.b.n0;omega⟩,h.b.sz⟩,h.nets,h.ways⟩⟩
 ·exact .inr ⟨Nc,Nr,c,cs,ks,made,cnt,x0,x1,x2,x3,y0,y1,e,h1,h2,h3,⟨h4.1,θ⟩,h5⟩
theorem yh6(hF:FldAny fb room k N)(g:Gnd)(hT:g.T.length<=1000000)(l:List Bld)(hl:l.length<=1000000)(R:Ja)
  (h:∀Nc Nr c nm wm cs ks ns ws made cnt,FldI fb room g l k Nc Nr c nm wm cs ks ns ws made cnt->R (.tup []) (Nc.un Nr)):Jb 124 [ptr fb,.agg (zu g),lst 6 zi l] N R:=by
 rcases hF with⟨g0,l0,Nc,Nr,c,nm,wm,cs,ks,ns,ws,made,cnt,rfl,hI⟩|⟨Nc,Nr,c,cs,ks,made,cnt,x0,x1,x2,x3,y0,y1,rfl,h1,h2,h3,h4,h5⟩
 ·have hsz:=hI.b.sz;refine Qa (c:=cfg 25) zb Tryz.func124 ?_;refine yd5 g0 l0 θ θ (zf hI.b.hf) g l _ (λz hz=>?_);cases z with
  |true=>
   obtain⟨rfl,rfl⟩:=hz rfl;exact ret (h Nc Nr c nm wm cs ks ns ws made cnt hI)
  |false=>
   refine mn hI.b.dj hI.b.hC hI.b.hf _ (λNc1 Nr1 nm' wm' b1 k1 b2 k2 d1 d2 d3 d4 d5 d6 d7 d8=>?_);refine zdk g θ _ _ ?_;refine zfh l θ _ _ ?_;have hnc:=Ck d1 d3;refine qd (i:=ti4) (v:=V.bool true) (b:=fb) (o:=2) (l:=[ptr c,int made,V.bool false,int g0.W,int g0.H,ya g0.T,lst 6 zi l0,mapA nm',mapA wm',int cnt]) (st2:=Nc1.un (Nr1.sO fb (.cells [ptr c,int made,V.bool true,int g0.W,int g0.H,ya g0.T,lst 6 zi l0,mapA nm',mapA wm',int cnt]))) rfl rfl rfl (zf d3) (show 3<=10 by decide) (zz _ _ _ _) ?_;refine Aa (i:=ti23) (v:=.agg (zu g)) (xs:=zu g) (b:=fb) (o:=3) (l:=[ptr c,int made,V.bool true,int g0.W,int g0.H,ya g0.T,lst 6 zi l0,mapA nm',mapA wm',int cnt]) rfl rfl rfl (zf (zd _ _ _)) (show 6<=10 by decide) ?_;rw[zz,ym];refine qd (i:=ti25) (v:=lst 6 zi l) (b:=fb) (o:=6) (l:=[ptr c,int made,V.bool true,int g.W,int g.H,ya g.T,lst 6 zi l0,mapA nm',mapA wm',int cnt]) (st2:=Nc1.un (Nr1.sO fb (.cells [ptr c,int made,V.bool true,int g.W,int g.H,ya g.T,lst 6 zi l,mapA nm',mapA wm',int cnt]))) rfl rfl rfl (zf (zd _ _ _)) (show 7<=10 by decide) Qah ?_;exact ret (h Nc1 _ c nm' wm' [] [] [] [] made cnt ⟨⟨disj_setR d1 hnc,d2,zd _ _ _,⟨b1,k1,(zg (Ne.symm d6)).trans d4⟩,⟨b2,k2,(zg (Ne.symm d7)).trans d5⟩,d6,d7,d8,hI.b.r,hI.b.n0,⟨hT,hl⟩⟩,λkey b hb=>(by cases hb),CI.nil _ (by have:=hI.b.r.1;omega) cnt⟩)
 ·refine Qa (c:=cfg 25) zb Tryz.func124 ?_;refine yd6 (zf h5) g l _ ?_;refine mn h1 h2 h5 _ (λNc1 Nr1 nm' wm' b1 k1 b2 k2 d1 d2 d3 d4 d5 d6 d7 d8=>?_);refine zdk g θ _ _ ?_;refine zfh l θ _ _ ?_;have hnc:=Ck d1 d3;refine qd (i:=ti4) (v:=V.bool true) (b:=fb) (o:=2) (l:=[ptr c,int made,V.bool false,x0,x1,x2,x3,mapA nm',mapA wm',int cnt]) (st2:=Nc1.un (Nr1.sO fb (.cells [ptr c,int made,V.bool true,x0,x1,x2,x3,mapA nm',mapA wm',int cnt]))) rfl rfl rfl (zf d3) (show 3<=10 by decide) (zz _ _ _ _) ?_;refine Aa (i:=ti23) (v:=.agg (zu g)) (xs:=zu g) (b:=fb) (o:=3) (l:=[ptr c,int made,V.bool true,x0,x1,x2,x3,mapA nm',mapA wm',int cnt]) rfl rfl rfl (zf (zd _ _ _)) (show 6<=10 by decide) ?_;rw[zz,ym];refine qd (i:=ti25) (v:=lst 6 zi l) (b:=fb) (o:=6) (l:=[ptr c,int made,V.bool true,int g.W,int g.H,ya g.T,x3,mapA nm',mapA wm',int cnt]) (st2:=Nc1.un (Nr1.sO fb (.cells [ptr c,int made,V.bool true,int g.W,int g.H,ya g.T,lst 6 zi l,mapA nm',mapA wm',int cnt]))) rfl rfl rfl (zf (zd _ _ _)) (show 7<=10 by decide) Qah ?_;exact ret (h Nc1 _ c nm' wm' [] [] [] [] made cnt ⟨⟨disj_setR d1 hnc,d2,zd _ _ _,⟨b1,k1,(zg (Ne.symm d6)).trans d4⟩,⟨b2,k2,(zg (Ne.symm d7)).trans d5⟩,d6,d7,d8,h3,h4,⟨hT,hl⟩⟩,λkey b hb=>(by cases hb),CI.nil _ (by have:=h3.1;omega) cnt⟩)
end
section
variable {fb c nm wm p:Nat} {g:Gnd} {N B Nc Nr:Store} {room k made cnt:Int}
theorem yis{S:Store}{pf pc ps px b:Nat}{y0 y1 y2 y3 y4 y5 a0 a1 a2 a3:AV}{l:List Bld}(hg:zt g)(hl:l.length<=1000000)(hb:∀b∈l,yk b/\onP g b)(c s:Int)(hs:0<=s/\s<=3)
  (h1:S.obj pf=some (.cells [ptr fb])) (h2:S.obj pc=some (.cells [int c])) (h3:S.obj ps=some (.cells [int s])) (h4:S.obj px=some (.cells [ptr b]))
  (hf:S.obj fb=some (.cells [y0,y1,y2,int g.W,int g.H,ya g.T,lst 6 zi l,y3,y4,y5])) (hx:S.obj b=some (.cells [a0,a1,a2,a3])) (R:Ja)
  (h:∀d,Fresh S d->R (.tup []) ((S.sO d (.cells (xj g l c s))).sO b (.cells [a0,a1,a2,ptr d]))):Jb 126 [ptr pf,ptr pc,ptr ps,ptr px] S R:=by
 refine Qa (c:=cfg 18) zb Tryz.func126 ?_;refine Qc zb ydv ?_;refine Qav ?_;refine Qav ?_;refine Qav ?_;refine Qav ?_;refine Qav ?_;refine Qav ?_;refine Qav ?_;refine⟨ynr g hg l θ hb c s hs _ _ (λd hfd=>?_),Tv⟩;have hx2:(S.sO d (.cells (xj g l c s))).obj b=_:=(zg (λe=>by have:=hfd.1;grind)).trans hx;have h42:(S.sO d (.cells (xj g l c s))).obj px=_:=(zg (λe=>by have:=hfd.1;grind)).trans h4;refine⟨⟨za (o:=(S.sO d (.cells (xj g l c s))).obj px) _ h42 rfl,Tv⟩,?_⟩;refine⟨?_,Tv⟩;refine za _ rfl (xp rfl (xl (v:=ptr d) rfl rfl rfl rfl ?_));refine qd (i:=ti156) (v:=ptr d) (b:=b) (o:=3) (l:=[a0,a1,a2,a3]) (st2:=(S.sO d (.cells (xj g l c s))).sO b (.cells [a0,a1,a2,ptr d])) rfl rfl rfl hx2 (show 4<=4 by decide) rfl ?_;refine⟨Tv,?_⟩;exact ret (h d hfd)
theorem zcx(ex:List Nat)(hd:zh N B):keepsB ex N (N.un B):=λi y _ hy=>yj hd hy
theorem FldI.ext{l:List Bld}{cs:List (Int×Int)}{ks:List Int}{ns ws:List (Int×Nat)}(h:FldI fb room g l k Nc Nr c nm wm cs ks ns ws made cnt)(hd:zh (Nc.un Nr) B):FldI fb room g l k Nc (Nr.un B) c nm wm cs ks ns ws made cnt:=by
 have d1:zh Nr B:=λi h1 h2=>hd i (un_has.2 (.inr h1)) h2;have d2:zh Nc B:=λi h1 h2=>hd i (un_has.2 (.inl h1)) h2;obtain⟨b1,k1,e1⟩:=h.b.hn;obtain⟨b2,k2,e2⟩:=h.b.hw;refine⟨⟨λi h1 h2=>?_,h.b.hC,yj d1 h.b.hf,⟨b1,k1,yj d1 e1⟩,⟨b2,k2,yj d1 e2⟩,h.b.d1,h.b.d2,h.b.d3,h.b.r,h.b.n0,h.b.sz⟩,λkey b hb=>(h.nets key b hb).keep (zcx _ d1) (λi hi=>.inl hi),h.ways.ways λkey v b hk hw hW=>⟨hw,hW.keep (zcx _ d1) (λi hi=>.inl hi)⟩⟩;rcases un_has.1 h2 with h2|h2
 ·exact h.b.dj i h1 h2
 ·exact d2 i h1 h2
theorem yh4(hd:zh N B)(hF:FldAny fb room k N)(g:Gnd)(hT:g.T.length<=1000000)(l:List Bld)(hl:l.length<=1000000)(R:Ja)
  (h:∀Nc Nr c nm wm cs ks ns ws made cnt,(∀i y,B.obj i=some y->Nr.obj i=some y/\i∉[fb,nm,wm])->FldI fb room g l k Nc Nr c nm wm cs ks ns ws made cnt->R (.tup []) (Nc.un Nr)):Jb 124 [ptr fb,.agg (zu g),lst 6 zi l] (N.un B) R:=by
 refine ACalls.frame hd (yh6 hF g hT l hl (λr S=>∃Nc Nr c nm wm cs ks ns ws made cnt,r=.tup []/\S=Nc.un Nr/\FldI fb room g l k Nc Nr c nm wm cs ks ns ws made cnt) (λNc Nr c nm wm cs ks ns ws made cnt hI=>⟨Nc,Nr,c,nm,wm,cs,ks,ns,ws,made,cnt,rfl,rfl,hI⟩)) ?_;rintro r a' ⟨Nc,Nr,c,nm,wm,cs,ks,ns,ws,made,cnt,rfl,rfl,hI⟩ hd2;rw[Kd];refine h Nc (Nr.un B) c nm wm cs ks ns ws made cnt (λi y hy=>⟨zf hy,λhi=>?_⟩) (hI.ext hd2);have hx:∀{j:Nat} {z:AObj},Nr.obj j=some z->i≠j:=λhz e=>hd2 i (un_has.2 (.inr (e▸k9 hz))) (k9 hy);obtain⟨b1,k1,e1⟩:=hI.b.hn;obtain⟨b2,k2,e2⟩:=hI.b.hw;simp only[Fa6,Fcb,or_false]at hi;rcases hi with hi|hi|hi
 ·exact hx hI.b.hf hi
 ·exact hx e1 hi
 ·exact hx e2 hi
theorem Sk(b:Nat)(x:AObj):N.sO b x=N.un (Store.empty.sO b x):=by have:=zz N Store.empty b x;trivial
theorem FldI.box{l:List Bld}{cs:List (Int×Int)}{ks:List Int}{ns ws:List (Int×Nat)}(h:FldI fb room g l k Nc Nr c nm wm cs ks ns ws made cnt)(hp:Fresh (Nc.un Nr) p)(x:AObj):FldI fb room g l k Nc (Nr.sO p x) c nm wm cs ks ns ws made cnt:=by
 rw[Sk p x];refine h.ext λi h1 h2=>?_;rcases has_setObj_iff.1 h2 with e|e
 ·exact fresh_iff.1 hp (e▸h1)
 ·exact(e.elim (λh=>h rfl) (λh=>h rfl):False)
theorem keepsB.fresh{ex:List Nat}{a b:Store}(h:keepsB ex a b)(he:∀i,i∈ex->b.obj i≠none)(hp:b.obj p=none):p∉ex/\a.obj p=none:=by
 have h1:p∉ex:=λhh=>he p hh hp;refine⟨h1,?_⟩;cases hx:a.obj p with
 |none=>rfl
 |some y=>exact absurd (h p y h1 hx) (by rw[hp];simp)
theorem ib(hF:FldAny fb room k N)(g:Gnd)(hg:zt g)(hT:g.T.length<=1000000)(l:List Bld)(hl:l.length<=1000000)(hb:∀b∈l,yk b/\onP g b)(c s:Int)(hc:G4 c)(hs:0<=s/\s<=3)(R:Ja)
  (h:∀Nc Nr cc nm wm cs ks ns ws made cnt d,FldI fb room g l k Nc Nr cc nm wm cs ks ns ws made cnt->d∉[fb,nm,wm]->Nr.obj d=some (.cells (xj g l c s))->R (ptr d) (Nc.un Nr)):
  Jb 62 [ptr fb,.agg (zu g),lst 6 zi l,int c,int s] N R:=by
 refine Qa (c:=cfg 50 [5,8,9,12,34] []) zb Tryz.func62 ?_;intro pf hpf pc hpc ps hps;have npc:pf≠pc:=λe=>by have:=hpc.1;grind[zd]
 have nps1:pf≠ps:=λe=>by have:=hps.1;grind[zg,zd]
 have nps2:pc≠ps:=λe=>by have:=hps.1;grind[zd]
 obtain⟨B,hB⟩:∃B:Store,B=((Store.empty.sO pf (.cells [ptr fb])).sO pc (.cells [int c])).sO ps (.cells [int s]):=⟨_,rfl⟩
 have b1:B.obj pf=some (.cells [ptr fb]):=by grind[zg,zd]
 have b2:B.obj pc=some (.cells [int c]):=by grind[zg,zd]
 have b3:B.obj ps=some (.cells [int s]):=by rw[hB];exact zd _ _ _
 have eS:((N.sO pf (.cells [ptr fb])).sO pc (.cells [int c])).sO ps (.cells [int s])=N.un B:=by rw[hB,Sk pf,zz,zz]
 have hdB:zh N B:=by
  intro i h1 h2;rw[hB]at h2;rcases has_setObj_iff.1 h2 with h2|h2
  ·grind[fresh_iff,has_setObj_iff]
  ·rcases has_setObj_iff.1 h2 with h2|h2
   ·grind[fresh_iff,has_setObj_iff]
   ·rcases has_setObj_iff.1 h2 with h2|h2
    ·exact fresh_iff.1 hpf (h2▸h1)
    ·exact(h2.elim (λh=>h rfl) (λh=>h rfl):False)
 have eS2:((N.sO pf (AObj.cells [AV.s (Value.pointer (some {block:=fb,off:=0}))])).sO pc (AObj.cells [AV.s (Value.int IntKind.i64 c)])).sO ps (AObj.cells [AV.s (Value.int IntKind.i64 s)])=N.un B:=eS;rw[eS2];refine za (o:=(N.un B).obj pf) _ (zf b1) ?_;refine yh4 hdB hF g hT l hl _ (λNc Nr cc nm wm cs ks ns ws made cnt hBk hI=>?_);obtain⟨t1,o1⟩:=hBk _ _ b1;obtain⟨t2,o2⟩:=hBk _ _ b2;obtain⟨t3,o3⟩:=hBk _ _ b3;clear b1 b2 b3 hBk eS eS2 hdB hB hps hpc hpf hF;have hcb:0<=c/\c<=2:=by unfold G4 at hc;omega
 refine za (o:=(Nc.un Nr).obj pc) _ (zf t2) ?_;refine Qd ?_;refine za (o:=(Nc.un Nr).obj ps) _ (zf t3) ?_;refine Qd ?_;refine za (o:=(Nc.un Nr).obj pf) _ (zf t1) ?_;refine za (o:=(Nc.un Nr).obj fb) _ (zf hI.b.hf) ?_;obtain⟨bs,clk,hnm⟩:=hI.b.hn;refine Ak rfl (it:=ti210) (ie:=ti242) (ik:=ti2) rfl rfl rfl rfl (zf hnm) rfl (qA (4*c+s)) (λe he=>?_) ?_
 ·obtain⟨e,_,rfl⟩:=Fai.1 he;rfl
 rw[Hk];cases hgi:yw ns (4*c+s)with
 |none=>
  refine za (o:=(Nc.un Nr).obj pf) _ (zf t1) ?_;refine za (o:=(Nc.un Nr).obj fb) _ (zf hI.b.hf) ?_;intro nb hnb;have f1:=fresh_un hnb;rw[zz];have e1:nm≠nb:=λe=>θy;refine Fg (.inl rfl) rfl (it:=ti210) (ik:=ti2) rfl rfl rfl (zf ((zg e1).trans hnm)) rfl rfl (qA (4*c+s)) (λe he=>?_) (λe1 he hq=>?_) ?_
  ·obtain⟨e,_,rfl⟩:=Fai.1 he;rfl
  ·obtain⟨e,_,rfl⟩:=Fai.1 he;grind[qA,yu,int]
  obtain⟨bs',clk',hput⟩:=K8 (λb=>ptr b) ns bs clk (4*c+s) nb;have hput2:vq (List.map (yu λb=>ptr b) ns) bs clk (qA (4*c+s)) (AV.s (Value.int IntKind.i64 (4*c+s))) (AV.s (Value.pointer (some {block:=nb,off:=0})))=_:=hput;rw[hput2,zz];have hfn:=hI.b.d1;have hfw:=hI.b.d2;have hnw:=hI.b.d3;obtain⟨bw,kw,hwm⟩:=hI.b.hw;have e2:fb≠nb:=λe=>by have:=f1.2.1;rw[<-e,hI.b.hf]at this;cases this
  have e3:wm≠nb:=λe=>θy;have e4:pf≠nb:=λe=>θy;have e5:pc≠nb:=λe=>θy;have e6:ps≠nb:=λe=>θy;simp only[Fa6,Fcb,or_false,not_or]at o1 o2 o3;obtain⟨N2,hN2⟩:∃N2,N2=(Nr.sO nb (.cells [u32A 0,i32A 0,u32A 0,.s (.pointer none)])).sO nm (.map ((yp ns (4*c+s) nb).map (yu λb=>ptr b)) bs' clk'):=⟨_,rfl⟩
  have eN:Nc.un ((Nr.sO nb (AObj.cells [AV.s (Value.int IntKind.u32 0),AV.s (Value.int IntKind.i32 0),AV.s (Value.int IntKind.u32 0),AV.s (Value.pointer none)])).sO nm (AObj.map (List.map (yu λb=>ptr b) (yp ns (4*c+s) nb)) bs' clk'))=Nc.un N2:=by rw[hN2]
  rw[eN];have kN:keepsB [fb,nm,wm] Nr N2:=by rw[hN2];exact((keepsB.refl _ _).set (.inr f1.2.1)).set (.inl φ)
  have v1:=kN pf _ (by simp[o1]) t1;have v2:=kN pc _ (by simp[o2]) t2;have v3:=kN ps _ (by simp[o3]) t3;have v4:N2.obj nm=some (.map ((yp ns (4*c+s) nb).map (yu λb=>ptr b)) bs' clk'):=by rw[hN2];exact zd _ _ _
  have v5:N2.obj fb=Nr.obj fb:=by grind[zg]
  rw[hI.b.hf]at v5;have v6:N2.obj wm=Nr.obj wm:=by simp_all[zg,Ne.symm]
  rw[hwm]at v6;have v7:N2.obj nb=some (.cells [u32A 0,i32A 0,u32A 0,.s (.pointer none)]):=by simp_all[zg,Ne.symm,zd]
  have d2:zh Nc N2:=by rw[hN2];exact disj_setR (disj_setR hI.b.dj (fresh_iff.1 f1.1)) (Ck hI.b.dj hnm)
  have n1:nb∉[fb,nm,wm]:=δ;clear eN hN2 hput hput2 t1 t2 t3 hnb;refine za (o:=(Nc.un N2).obj pf) _ (zf v1) ?_;refine za (o:=(Nc.un N2).obj fb) _ (zf v5) ?_;refine Ak rfl (it:=ti210) (ie:=ti242) (ik:=ti2) rfl rfl rfl rfl (zf v4) rfl (qA (4*c+s)) (λe he=>?_) ?_
  ·obtain⟨e,_,rfl⟩:=Fai.1 he;rfl
  rw[Hk,C7,if_pos rfl];intro px hpx;have f2:=fresh_un hpx;rw[zz];refine qd (i:=ti242) (v:=ptr nb) (b:=px) (o:=0) (l:=[.s (.pointer none)]) (st2:=Nc.un (N2.sO px (.cells [ptr nb]))) rfl rfl rfl (zf (zd _ _ _)) (show 1<=1 by decide) (by rw[zz,ym];rfl) ?_;have fp:=kN.fresh δ f2.2.1;have kp:∀{i:Nat} {y:AObj},N2.obj i=some y->(N2.sO px (.cells [ptr nb])).obj i=some y:=λ{i y} hy=>(zg (λe=>by have:=f2.2.1;grind)).trans hy;have w1:=kp v1;have w2:=kp v2;have w3:=kp v3;have w4:=kp v4;have w5:=kp v5;have w6:=kp v6;have w7:=kp v7;have w8:(N2.sO px (.cells [ptr nb])).obj px=some (.cells [ptr nb]):=zd _ _ _;have kN3:=kN.set (x:=.cells [ptr nb]) (.inr fp.2);have d3:=disj_setR (x:=.cells [ptr nb]) d2 (fresh_iff.1 f2.1);clear kp v1 v2 v3 v4 v5 v6 v7 d2 hpx f2 kN;generalize N2.sO px (.cells [ptr nb])=N3 at*;refine za (o:=(Nc.un N3).obj px) _ (zf w8) ?_;refine zbi nb (u32A 0) (.s (.pointer none)) _ _ _ _ (zf w7) ?_;rw[zz];have e7:px≠nb:=λe=>by rw[e,w7]at w8;cases w8
  have hnc:=Ck d3 w7;refine yis hg hl hb c s hs (zf ((zg e4).trans w1)) (zf ((zg e5).trans w2)) (zf ((zg e6).trans w3)) (zf ((zg e7).trans w8)) (zf ((zg e2).trans w5)) (zf (zd _ _ _)) _ (λd hfd=>?_);have f3:=fresh_un hfd;refine⟨ptr d,by rw[zz,zz];exact zf (zd _ _ _),?_⟩;rw[zz,zz,zz,ym];have hdn:d≠nb:=λe=>by have:=f3.2.1;rw[e,zd]at this;cases this
  have hd3:N3.obj d=none:=by have:=f3.2.1;rwa [zg hdn]at this
  have fd:=kN3.fresh (by
   intro i hi;simp only[Fa6,Fcb,or_false]at hi;rcases hi with rfl|rfl|rfl
   ·rw[w5];simp
   ·rw[w4];simp
   ·rw[w6];simp) hd3
  have k4:=((kN3.set (p:=nb) (x:=.cells [u32A 0,i32A 1,u32A 0,.s (.pointer none)]) (.inr f1.2.1)).set (p:=d) (x:=.cells (xj g l c s)) (.inr fd.2)).set (p:=nb) (x:=.cells [u32A 1,i32A 0,u32A 0,ptr d]) (.inr f1.2.1);have d4:=disj_setR (x:=.cells [u32A 1,i32A 0,u32A 0,ptr d]) (disj_setR (x:=.cells (xj g l c s)) (disj_setR (x:=.cells [u32A 0,i32A 1,u32A 0,.s (.pointer none)]) d3 hnc) (fresh_iff.1 f3.1)) hnc;generalize hN4:((N3.sO nb (.cells [u32A 0,i32A 1,u32A 0,.s (.pointer none)])).sO d (.cells (xj g l c s))).sO nb (.cells [u32A 1,i32A 0,u32A 0,ptr d])=N4 at*;have kq:∀{i:Nat} {y:AObj},i≠nb->N3.obj i=some y->N4.obj i=some y:=λ{i y} hi hy=>hN4▸(zg hi).trans ((zg (λe=>by rw[e,hd3]at hy;cases hy)).trans ((zg hi).trans hy));have x8:=kq e7 w8;have x4:=kq e1 w4;have x5:=kq e2 w5;have x6:=kq e3 w6;have x7:N4.obj nb=some (.cells [u32A 1,i32A 0,u32A 0,ptr d]):=hN4▸zd _ _ _;have x9:N4.obj d=some (.cells (xj g l c s)):=hN4▸(zg hdn).trans (zd _ _ _);clear kq w1 w2 w3 w4 w5 w6 w7 w8 d3 kN3 f3 hfd hN4;refine za (o:=(Nc.un N4).obj px) _ (zf x8) ?_;refine za (o:=(Nc.un N4).obj nb) _ (zf x7) ?_;refine ret (h Nc N4 cc nm wm cs ks (yp ns (4*c+s) nb) ws made cnt d ⟨⟨d4,hI.b.hC,x5,⟨_,_,x4⟩,⟨_,_,x6⟩,hfn,hfw,hnw,hI.b.r,hI.b.n0,hI.b.sz⟩,λkey b hb=>?_,hI.ways.ways λkey v b hk hw hW=>⟨hw,hW.keep k4 λi hi=>.inl hi⟩⟩ fd.1 x9);rw[C7]at hb;by_cases e:key=4*c+s
  ·rw[if_pos e]at hb;cases hb;exact⟨n1,_,d,c,s,x7,fd.1,hc,hs,e,x9⟩
  ·rw[if_neg e]at hb;exact(hI.nets key b hb).keep k4 λi hi=>.inl hi
 |some b=>
  obtain⟨hbx,s1,d,c1,s1',hob,hdx,hc1,hs1,hke,hod⟩:=hI.nets _ _ hgi;have ec:c1=c/\s1'=s:=by unfold G4 at hc1;omega
  rw[ec.1,ec.2]at hod;refine za (o:=(Nc.un Nr).obj pf) _ (zf t1) ?_;refine za (o:=(Nc.un Nr).obj fb) _ (zf hI.b.hf) ?_;refine Ak rfl (it:=ti210) (ie:=ti242) (ik:=ti2) rfl rfl rfl rfl (zf hnm) rfl (qA (4*c+s)) (λe he=>?_) ?_
  ·obtain⟨e,_,rfl⟩:=Fai.1 he;rfl
  rw[Hk,hgi];intro px hpx;have f2:=fresh_un hpx;rw[zz];refine qd (i:=ti242) (v:=ptr b) (b:=px) (o:=0) (l:=[.s (.pointer none)]) (st2:=Nc.un (Nr.sO px (.cells [ptr b]))) rfl rfl rfl (zf (zd _ _ _)) (show 1<=1 by decide) (by rw[zz,ym];rfl) ?_;have hI2:=hI.box hpx (.cells [ptr b]);have u1:(Nr.sO px (.cells [ptr b])).obj px=some (.cells [ptr b]):=zd _ _ _;have u2:(Nr.sO px (.cells [ptr b])).obj b=_:=(zg (λe=>by have:=f2.2.1;rw[<-e,hob]at this;cases this)).trans hob;have u3:(Nr.sO px (.cells [ptr b])).obj d=_:=(zg (λe=>by have:=f2.2.1;rw[<-e,hod]at this;cases this)).trans hod;clear hpx f2 hob hod hnm t1 t2 t3;generalize Nr.sO px (.cells [ptr b])=N2 at*;refine za (o:=(Nc.un N2).obj px) _ (zf u1) ?_;refine zbj b _ _ _ _ (zf u2) ?_;refine za (o:=(Nc.un N2).obj px) _ (zf u1) ?_;refine za (o:=(Nc.un N2).obj b) _ (zf u2) ?_;exact ret (h Nc N2 cc nm wm cs ks ns ws made cnt d hI2 hdx u3)
end
theorem zhb{P:Program}{l:Nat}{args:List AV}{st:Store}{R R':Ja}(h:AYield P l args st R)(hR:∀r s,R r s->R' r s):AYield P l args st R':=by refine⟨λOth M w vs sto hr=>?_⟩;obtain⟨fn,tmps,as1,body,h1,h2⟩:=h.out Oth M w vs sto hr;exact⟨fn,tmps,as1,body,h1,h2.mono λe w' ⟨v,he,r,s,M',k1,k2⟩=>⟨v,he,r,s,M',hR r s k1,k2⟩⟩
theorem yr7(U:List Int)(st:Store)(R:Ja)(h:∀p,Fresh st p->R (.clos 513 [ptr p]) (st.sO p (.cells [yh U]))):
  Jb 509 [yh U] st R:=by
 refine Qa (c:=cfg 4 [1] []) zb Tryz.func509 ?_;intro p hp;exact ret (h p hp)
theorem yr8(U:List Int)(hU:U.length<=1000000000)(p l:Nat)(I:Nat->Store->Prop)(hp:∀i S,I i S->S.obj p=some (.cells [yh U]))
  (hy:∀i S (hi:i<U.length),I (i+1) S->AYield Tryz.prog l [int (i:Nat),int U[i]] S λr S'=>r=V.bool true/\I i S')
  (st:Store) (h0:I U.length st) (R:Ja) (h:∀S,I 0 S->R (.tup []) S):Jb 513 [.s (.func (.yield l) #[] #[]),ptr p] st R:=by
 refine Qa (c:=cfg 19) zb Tryz.func513 ?_;refine za (o:=st.obj p) _ (hp _ _ h0) ?_;refine ze θf ?_;refine AWp.loop (σ:=Nat×Int) ⟨λi=>[(0,.av (.s (.func (.yield l) #[] #[]))),(1,.av (ptr p)),(3,.av (int i.2))],λ_=>[],λi st'=>i.1<=U.length/\i.2=(i.1:Int)-1/\I i.1 st',λi=>i.1⟩ zb ?_ ?_
 ·exact⟨(U.length,_),Tv,⟨Fak _,θc,h0⟩,⟨Tq,Tq,Tq,Tv⟩,Tv⟩
 rintro⟨i,j⟩ st' ⟨hi,hj,hI⟩;dsimp only at hi hj hI⊢;subst hj;refine bcd (λc1=>?_) (λc1=>?_);rotate_left
 ·have:i=0:=θ;subst this;exact ret (h _ hI)
 obtain⟨k,rfl⟩:∃k,i=k+1:=⟨i-1,θ⟩
 refine za (o:=st'.obj p) _ (hp _ _ hI) ?_;refine⟨k,θ,za _ (zq (show k<U.length by omega)) ?_⟩;have hk:k<U.length:=θ;have he:(((k+1:Nat):Int)-1)=(k:Nat):=θ;rw[he];refine zhb (hy k st' hk hI) ?_;rintro r S' ⟨rfl,hI2⟩;refine Qd ?_;exact⟨(k,_),(show k<k+1 by omega),⟨ζ,rfl,hI2⟩,⟨Tq,Tq,Tq,Tv⟩,Tv⟩
theorem ze1{S:Store}{p b:Nat}(h:p≠b):(S.dO b).obj p=S.obj p:=by show(bif Nat.beq p b then none else S.obj p)=_;rw[qe h];rfl
theorem zi0{a g:Store}{b:Nat}(h:a.obj b=none):(a.un g).dO b=a.un (g.dO b):=by
 show Store.mk _ _=Store.mk _ _
 congr 1
 funext i
 show(bif Nat.beq i b then none else(match g.obj i with|some x=>some x|none=>a.obj i))=(match(bif Nat.beq i b then none else g.obj i)with|some x=>some x|none=>a.obj i)
 grind[ve]
theorem ypx{a g:Store}(hd:zh a g)(b:Nat):zh a (g.dO b):=λi h1 h2=>by
 refine hd i h1 ?_;rcases h2 with h2|h2
 ·refine .inl λh3=>h2 ?_;show(bif Nat.beq i b then none else g.obj i)=none;grind
 ·exact .inr h2
theorem Nb{a g:Store}{b p:Nat}{x:AObj}(h:Fresh (a.un g) p)(hb:g.obj b=some x):b≠p:=λe=>by have:=(fresh_un h).2.1;grind
theorem zyt{fb:Nat}{room:Int}{g:Gnd}{l:List Bld}{k:Int}{Nc Nr:Store}{c nm wm:Nat}{cs:List (Int×Int)}{ks:List Int}{ns ws:List (Int×Nat)}{made cnt:Int}(hB:FldB fb room g l k Nc Nr c nm wm cs ks ns ws made cnt){W:Int->Nat->Prop}(hI:CI W room cs ks ws cnt)(R:Ja)
  (h:∀Nc' Nr' wm' ks' ws',FldB fb room g l k Nc' Nr' c nm wm' cs ks' ns ws' made cnt->CI W room cs ks' ws' cnt->(wm'=wm\/Nr.obj wm'=none)->keepsB [fb,nm,wm] Nr Nr'->R (.tup []) (Nc'.un Nr')):
  Jb 503 [ptr fb] (Nc.un Nr) R:=by
 have hks:(ks.length:Int)<=4096:=by have:=hI.len;have:=hB.r;omega
 refine Qb (c:=cfg 49 [1,3] []) zb Tryz.func503 ?_;refine AWp.seq (AWp.of_vc zb ?_);intro pf hpf;have f1:=fresh_un hpf;rw[zz];have kf:∀{i:Nat} {y:AObj},Nr.obj i=some y->(Nr.sO pf (.cells [ptr fb])).obj i=some y:=λ{i y} hy=>(zg (Nb hpf hy)).trans hy;obtain⟨b1,k1,hnm⟩:=hB.hn;obtain⟨b2,k2,hwm⟩:=hB.hw;have t1:=kf hB.hf;have t2:=kf hnm;have t3:=kf hwm;have t4:(Nr.sO pf (.cells [ptr fb])).obj pf=some (.cells [ptr fb]):=zd _ _ _;have d1:=disj_setR (x:=.cells [ptr fb]) hB.dj (fresh_iff.1 f1.1);have n1:keepsB [fb,nm,wm] Nr (Nr.sO pf (.cells [ptr fb])):=(keepsB.refl _ _).set (.inr f1.2.1);clear kf f1 hpf;rw[show Nc.un (Nr.sO pf (AObj.cells [AV.s (Value.pointer (some {block:=fb,off:=0}))]))=Nc.un (Nr.sO pf (.cells [ptr fb]))from rfl];generalize Nr.sO pf (.cells [ptr fb])=N1 at*;refine AWp.seq (AWp.of_vc zb ?_);refine za (o:=(Nc.un N1).obj pf) _ (zf t4) ?_;refine za (o:=(Nc.un N1).obj fb) _ (zf t1) ?_;refine yks d1 hB.hC θ _ (λNc1 d2 hC1=>?_);refine AWp.seq (AWp.of_vc zb ?_);refine za (o:=(Nc1.un N1).obj pf) _ (zf t4) ?_;refine za (o:=(Nc1.un N1).obj fb) _ (zf t1) ?_;refine za (o:=(Nc1.un N1).obj wm) _ (zf t3) ?_;refine ze θf ?_;refine bcd (λc1=>?_) (λc1=>?_)
 ·refine ret (h Nc1 N1 wm ks ws ⟨d2,hC1,t1,⟨_,_,t2⟩,⟨_,_,t3⟩,hB.d1,hB.d2,hB.d3,hB.r,hB.n0,hB.sz⟩ hI (.inl rfl) n1)
 refine AWp.seq (AWp.of_vc zb ?_);refine Hw rfl (λkm hkm=>?_);intro p3 hp3;have f2:=fresh_un hkm;rw[zz]at hp3⊢;have f3:=fresh_un hp3;rw[zz];refine qd (i:=ti211) (v:=mapA km) (b:=p3) (o:=0) (l:=[.s (.map none)]) (st2:=Nc1.un ((N1.sO km (.map [] [] 0)).sO p3 (.cells [mapA km]))) rfl rfl rfl (zf (zd _ _ _)) (show 1<=1 by decide) (by rw[zz,ym];rfl) ?_;have q3:km≠p3:=λe=>by have:=f3.2.1;grind[zd]
 have kf:∀{i:Nat} {y:AObj},N1.obj i=some y->((N1.sO km (.map [] [] 0)).sO p3 (.cells [mapA km])).obj i=some y:=λ{i y} hy=>by
  have e1:i≠km:=λe=>by have:=f2.2.1;grind
  have e2:i≠p3:=λe=>by have:=f3.2.1;grind[zg]
  grind[zg]
 have s1:=kf t1;have s2:=kf t2;have s3:=kf t3;have s4:=kf t4;have s5:((N1.sO km (.map [] [] 0)).sO p3 (.cells [mapA km])).obj p3=some (.cells [mapA km]):=zd _ _ _;have s6:((N1.sO km (.map [] [] 0)).sO p3 (.cells [mapA km])).obj km=some (.map [] [] 0):=(zg q3).trans (zd _ _ _);have n2:keepsB [fb,nm,wm] Nr ((N1.sO km (.map [] [] 0)).sO p3 (.cells [mapA km])):=λi y hi hy=>kf (n1 i y hi hy);have d3:zh Nc1 ((N1.sO km (.map [] [] 0)).sO p3 (.cells [mapA km])):=disj_setR (disj_setR d2 (fresh_iff.1 f2.1)) (fresh_iff.1 f3.1);have fkm:Nr.obj km=none:=(n1.fresh δ f2.2.1).2;have g1:fb≠km:=λe=>δ;have g2:nm≠km:=λe=>δ;have g3:wm≠km:=λe=>δ;have g4:pf≠km:=λe=>δ;clear kf f2 f3 hkm hp3 n1 t1 t2 t3 t4 d2;generalize(N1.sO km (.map [] [] 0)).sO p3 (.cells [mapA km])=N2 at*;refine AWp.seq (AWp.seq (AWp.of_vc zb ?_));refine yr7 ks _ _ (λpb hpb=>?_);have f4:=fresh_un hpb;rw[zz];have kg:∀{i:Nat} {y:AObj},N2.obj i=some y->(N2.sO pb (.cells [yh ks])).obj i=some y:=λ{i y} hy=>(zg (Nb hpb hy)).trans hy;have t1:=kg s1;have t2:=kg s2;have t3:=kg s3;have t4:=kg s4;have t5:=kg s5;have t6:=kg s6;have t7:(N2.sO pb (.cells [yh ks])).obj pb=some (.cells [yh ks]):=zd _ _ _;have n3:keepsB [fb,nm,wm] Nr (N2.sO pb (.cells [yh ks])):=λi y hi hy=>kg (n2 i y hi hy);have d4:=disj_setR (x:=.cells [yh ks]) d3 (fresh_iff.1 f4.1);have g7:pb≠km:=Ne.symm (Nb hpb s6);clear kg s1 s2 s3 s4 s5 s6 n2 d3 f4 hpb;generalize N2.sO pb (.cells [yh ks])=N3 at*;refine AWp.block (AWp.rangeFunc rfl rfl Tryz.func513 ξ ξ [(1,ptr pf),(3,ptr p3)] (λp hp=>?_) (λq hq=>?_) ψ ψ (λlo X Y hfl hround=>?_))
 ·simp only[Fa6,Fcb,or_false]at hp;rcases hp with rfl|rfl<;>rfl
 ·grind
 have f5:=fresh_un hfl;have hlo:∀{i:Nat} {y:AObj},N3.obj i=some y->i≠lo:=λ{i y} hy=>Nb hfl hy;have d5:zh Nc1 (N3.sO lo X):=disj_setR d4 (fresh_iff.1 f5.1);rw[zz];refine yr8 ks θ pb lo (λi S=>∃Nc' N' ks' kp bs clk,S=Nc'.un N'/\zh Nc' N'/\ql Nc' c room cs ks'/\CI W room cs ks' ws cnt/\keepsB [km,lo] N3 N'/\N'.obj lo=some X/\N'.obj km=some (.map (kp.map (yu λb=>ptr b)) bs clk)/\∀(j:Nat) (key v:Int),i<=j->ks[j]?=some key->yw cs key=some v->yw kp v=yw ws v) (λi S hS=>?_) ?_ _ ?_ _ ?_
 ·obtain⟨Nc',N',ks',kp,bs,clk,rfl,e1,e2,e3,e4,e5,e6,e7⟩:=hS;exact zf (e4 pb _ (by simp[g7,hlo t7]) t7)
 ·rintro i S hi ⟨Nc',N',ks',kp,bs,clk,rfl,e1,e2,e3,e4,e5,e6,e7⟩;refine hround (Nc'.un N') _ _ (zf e5) rfl ?_;refine AWp.of_vc zb ?_;refine⟨rfl,zf e5,AWp.of_vc zb ?_⟩;rw[zz];have hl3:∀{i:Nat} {y:AObj},N3.obj i=some y->i≠km->(N'.sO lo Y).obj i=some y:=λ{i y} hy hn=>(zg (hlo hy)).trans (e4 i y (by simp[hn,hlo hy]) hy);have r1:=hl3 t1 g1;have r3:=hl3 t3 g3;have r4:=hl3 t4 g4;have r5:=hl3 t5 (λe=>by rw[e,t6]at t5;cases t5);have r6:(N'.sO lo Y).obj km=_:=(zg (hlo t6)).trans e6;have r7:(N'.sO lo Y).obj lo=some Y:=zd _ _ _;have r8:keepsB [km,lo] N3 (N'.sO lo Y):=λi y hi hy=>(zg (λe=>hi (by simp[e]))).trans (e4 i y hi hy);have hll:N3.obj lo=none:=f5.2.1;have d6:zh Nc' (N'.sO lo Y):=disj_setR e1 (Ck e1 e5);have hks':(ks'.length:Int)<=4096:=by have:=e3.len;have:=hB.r;omega
  have hki:ks[i]?=some ks[i]:=Fac hi;clear hl3 e6 e4 e1;generalize N'.sO lo Y=N4 at*;refine za (o:=(Nc'.un N4).obj pf) _ (zf r4) ?_;refine za (o:=(Nc'.un N4).obj fb) _ (zf r1) ?_;refine zdq d6 e2 θ ks[i] _ (λhn Nc2 dd hC2=>?_) (λv hv Nc2 dd hC2=>?_)
  ·refine⟨rfl,zf r7,rfl,Nc2,N4.sO lo X,ks',kp,bs,clk,zz _ _ _ _,disj_setR dd (Ck dd r7),hC2,e3,r8.set (.inl φ),zd _ _ _,(zg (hlo t6)).trans r6,λj key v hij hj hk=>?_⟩;grind
  ·obtain⟨_,_,wb,hwb,_⟩:=e3.ok _ _ hv;refine Qc zb yab ?_;refine za (o:=(Nc2.un N4).obj p3) _ (zf r5) ?_;refine za (o:=(Nc2.un N4).obj pf) _ (zf r4) ?_;refine za (o:=(Nc2.un N4).obj fb) _ (zf r1) ?_;refine⟨Ak rfl (it:=ti211) (ie:=ti562) (ik:=ti2) rfl rfl rfl rfl (zf r3) rfl (qA v) (λe he=>?_) ?_,Tv⟩
   ·obtain⟨e,_,rfl⟩:=Fai.1 he;rfl
   rw[Hk,hwb];refine⟨⟨za (o:=(Nc2.un N4).obj p3) _ (zf r5) rfl,Tv⟩,?_⟩;refine⟨Fg (.inl rfl) rfl (it:=ti211) (ik:=ti2) rfl rfl rfl (zf r6) rfl rfl (qA v) (λe he=>?_) (λe1 he hq=>?_) ?_,Tv⟩
   ·obtain⟨e,_,rfl⟩:=Fai.1 he;rfl
   ·obtain⟨e,_,rfl⟩:=Fai.1 he;have:v=e.1:=by simpa [qA,yu,int]using hq
    show int e.1=_;rw[this]
   obtain⟨bs',clk',hput⟩:=K8 (λb=>ptr b) kp bs clk v wb;have hput2:vq (List.map (yu λb=>ptr b) kp) bs clk (qA v) (int v) ((Option.map (λb=>ptr b) (some wb)).getD (Dq ti562))=_:=hput;rw[hput2,zz];have hnc:=Ck dd r6;have x7:(N4.sO km (.map ((yp kp v wb).map (yu λb=>ptr b)) bs' clk')).obj lo=some Y:=(zg (Ne.symm (hlo t6))).trans r7;have x6:(N4.sO km (.map ((yp kp v wb).map (yu λb=>ptr b)) bs' clk')).obj km=_:=zd _ _ _;have x8:=r8.set (p:=km) (x:=.map ((yp kp v wb).map (yu λb=>ptr b)) bs' clk') (.inl φ);have xd:zh Nc2 (N4.sO km (.map ((yp kp v wb).map (yu λb=>ptr b)) bs' clk')):=disj_setR dd hnc;refine⟨Tv,?_⟩;generalize N4.sO km (.map ((yp kp v wb).map (yu λb=>ptr b)) bs' clk')=N5 at*;refine⟨rfl,zf x7,rfl,Nc2,N5.sO lo X,ks[i]::ks'.erase ks[i],yp kp v wb,bs',clk',zz _ _ _ _,disj_setR xd (Ck xd x7),hC2,e3.hit hv,x8.set (.inl φ),zd _ _ _,(zg (hlo t6)).trans x6,λj key v2 hij hj hk=>?_⟩;rw[C7];by_cases hv2:v2=v
   ·rw[if_pos hv2,hv2,hwb]
   ·rw[if_neg hv2];rcases Nat.lt_or_ge i j with h1|h1
    ·exact e7 j key v2 h1 hj hk
    ·have:j=i:=θ;subst this;rw[hki]at hj;cases hj;rw[hv]at hk;cases hk;exact absurd rfl hv2
 ·refine⟨Nc1,N3.sO lo X,ks,[],[],0,rfl,d5,hC1,hI,(keepsB.refl _ _).set (.inl φ),zd _ _ _,(zg (hlo t6)).trans t6,λj key v hj hk=>?_⟩;rw[Fby hj]at hk;cases hk
 ·rintro S ⟨Nc',N',ks',kp,bs,clk,rfl,e1,e2,e3,e4,e5,e6,e7⟩;refine⟨zf e5,?_⟩;rw[zi0 (wl (Ck e1 e5)).1];have hl3:∀{i:Nat} {y:AObj},N3.obj i=some y->i≠km->(N'.dO lo).obj i=some y:=λ{i y} hy hn=>(ze1 (hlo hy)).trans (e4 i y (by simp[hn,hlo hy]) hy);have r1:=hl3 t1 g1;have r2:=hl3 t2 g2;have r3:=hl3 t3 g3;have r4:=hl3 t4 g4;have r5:=hl3 t5 (λe=>by rw[e,t6]at t5;cases t5);have r6:(N'.dO lo).obj km=_:=(ze1 (hlo t6)).trans e6;have d6:zh Nc' (N'.dO lo):=ypx e1 lo;have r8:keepsB [fb,nm,wm] Nr (N'.dO lo):=λi y hi hy=>hl3 (n3 i y hi hy) (λe=>by rw[e,fkm]at hy;cases hy);clear e6 e5 e4 e1 hl3;generalize N'.dO lo=N5 at*;refine AWp.of_vc zb ?_;refine za (o:=(Nc'.un N5).obj pf) _ (zf r4) ?_;refine za (o:=(Nc'.un N5).obj p3) _ (zf r5) ?_;refine qd (i:=ti211) (v:=mapA km) (b:=fb) (o:=8) (l:=[ptr c,int made,V.bool true,int g.W,int g.H,ya g.T,lst 6 zi l,mapA nm,mapA wm,int cnt]) (st2:=Nc'.un (N5.sO fb (.cells [ptr c,int made,V.bool true,int g.W,int g.H,ya g.T,lst 6 zi l,mapA nm,mapA km,int cnt]))) rfl rfl rfl (zf r1) (show 9<=10 by decide) (zz _ _ _ _) ?_;refine ret (h Nc' _ km ks' kp ⟨disj_setR d6 (Ck d6 r1),e2,zd _ _ _,⟨_,_,(zg (Ne.symm hB.d1)).trans r2⟩,⟨_,_,(zg (Ne.symm g1)).trans r6⟩,hB.d1,g1,g2,hB.r,hB.n0,hB.sz⟩ (e3.ways λkey v b hk hw hW=>⟨?_,hW⟩) (.inr fkm) (r8.set (.inl φ)));obtain⟨j,hj⟩:=Fa4.1 (hI.ok key v hk).1;rw[e7 j key v (Fae _) hj hk];exact hw
section
variable {fb b b':Nat} {g:Gnd} {room k key:Int} {N:Store} {x:AV}
theorem zia{S:Store}{pf pn pg px d:Nat}{a0 a1 a2 a3 y0 y1 y2 y3 y4 y5 y6 y7 y8:AV}{made:Int}{l:List Bld}(hg:zt g){c s:Int}(goal:Nat)(hgo:goal<g.T.length)
  (h1:S.obj pf=some (.cells [ptr fb])) (h2:S.obj pn=some (.cells [ptr d])) (h3:S.obj pg=some (.cells [int goal])) (h4:S.obj px=some (.cells [ptr b]))
  (hf:S.obj fb=some (.cells [y0,int made,y1,y2,y3,y4,y5,y6,y7,y8])) (hx:S.obj b=some (.cells [a0,a1,a2,a3])) (hd:S.obj d=some (.cells (xj g l c s))) (hdf:d≠fb) (R:Ja)
  (h:∀m d2,Fresh S d2->d2≠fb->R (.tup []) (((S.sO fb (.cells [y0,int m,y1,y2,y3,y4,y5,y6,y7,y8])).sO d2 (.cells (wayL g l c s goal))).sO b (.cells [a0,a1,a2,.s (.slice (some ⟨d2,0,none⟩) g.T.length g.T.length)]))):Jb 504 [ptr pf,ptr pn,ptr pg,ptr px] S R:=by
 refine Qa (c:=cfg 14) zb Tryz.func504 ?_;refine Qav ?_;refine lr fb 1 _ made 1 _ _ hf rfl λm=>?_;rw[show S.sO fb (.cells (zp [y0,int made,y1,y2,y3,y4,y5,y6,y7,y8] 1 [AV.s (Value.int IntKind.i64 m)]))=S.sO fb (.cells [y0,int m,y1,y2,y3,y4,y5,y6,y7,y8])from rfl];have k1:(S.sO fb (.cells [y0,int m,y1,y2,y3,y4,y5,y6,y7,y8])).obj pn=some (.cells [ptr d]):=(zg (λe=>by rw[e,hf]at h2;cases h2)).trans h2;have k2:(S.sO fb (.cells [y0,int m,y1,y2,y3,y4,y5,y6,y7,y8])).obj pg=some (.cells [int goal]):=(zg (λe=>by rw[e,hf]at h3;cases h3)).trans h3;have k3:(S.sO fb (.cells [y0,int m,y1,y2,y3,y4,y5,y6,y7,y8])).obj px=some (.cells [ptr b]):=(zg (λe=>by rw[e,hf]at h4;cases h4)).trans h4;have k4:(S.sO fb (.cells [y0,int m,y1,y2,y3,y4,y5,y6,y7,y8])).obj b=some (.cells [a0,a1,a2,a3]):=(zg (λe=>by rw[e,hf]at hx;cases hx)).trans hx;have k5:(S.sO fb (.cells [y0,int m,y1,y2,y3,y4,y5,y6,y7,y8])).obj d=some (.cells (xj g l c s)):=(zg hdf).trans hd;have hh:=λd2 (hq:Fresh (S.sO fb (.cells [y0,int m,y1,y2,y3,y4,y5,y6,y7,y8])) d2)=>h m d2 (by
  have e:d2≠fb:=λe=>by have:=hq.1;rw[e,zd]at this;cases this
  have:=hq;unfold Fresh at this⊢;rw[zg e]at this;exact this) (λe=>by have:=hq.1;rw[e,zd]at this;cases this)
 clear h h1 h2 h3 h4 hx hd hf;generalize S.sO fb (.cells [y0,int m,y1,y2,y3,y4,y5,y6,y7,y8])=S1 at*;refine Qc zb yaa ?_;refine Qav ?_;refine Qav ?_;refine Qav ?_;refine⟨zji hg k5 goal hgo _ (λd2 hfd=>?_),Tv⟩;have e3:(S1.sO d2 (.cells (wayL g l c s goal))).obj px=_:=(zg (λe=>by have:=hfd.1;grind)).trans k3;have e4:(S1.sO d2 (.cells (wayL g l c s goal))).obj b=_:=(zg (λe=>by have:=hfd.1;grind)).trans k4;refine⟨⟨za (o:=(S1.sO d2 (.cells (wayL g l c s goal))).obj px) _ e3 rfl,Tv⟩,?_⟩;refine⟨?_,Tv⟩;refine za _ rfl (xp rfl (xl (v:=.s (.slice (some ⟨d2,0,none⟩) g.T.length g.T.length)) rfl rfl rfl rfl ?_));refine qd (i:=ti63) (v:=.s (.slice (some ⟨d2,0,none⟩) g.T.length g.T.length)) (b:=b) (o:=3) (l:=[a0,a1,a2,a3]) (st2:=(S1.sO d2 (.cells (wayL g l c s goal))).sO b (.cells [a0,a1,a2,.s (.slice (some ⟨d2,0,none⟩) g.T.length g.T.length)])) rfl rfl rfl e4 (show 4<=4 by decide) rfl ?_;refine⟨Tv,?_⟩;exact ret (hh d2 hfd)
theorem ygu{Nc Nr:Store}{cc:Nat}{cnt:Int}{cs:List (Int×Int)}{ks:List Int}{ws:List (Int×Nat)}{W:Int->Nat->Prop}(hd:zh Nc Nr)(hC:ql Nc cc room cs ks)(hI:CI W room cs ks ws cnt)(hr:1<=room/\room<=4096)(key:Int)(R:Ja)
  (h:∀N' cs3 ks3,zh N' Nr->ql N' cc room cs3 ks3->(∀nb,CI (λk b=>if k=key then b=nb else W k b) room cs3 ks3 (yp ws (cnt+1) nb) (cnt+1)/\yw cs3 key=some (cnt+1))->R (.tup []) (N'.un Nr)):Jb 502 [ptr cc,int key,int (cnt+1)] (Nc.un Nr) R:=by
 have hl:=hI.len;refine yg0 hd hC θ key (cnt+1) _ (λhl N' d3 hC3=>h N' _ _ d3 hC3 λnb=>⟨hI.put1 key nb hl,by rw[C7,if_pos rfl]⟩) (λhl N' d3 hC3=>h N' _ _ d3 hC3 λnb=>⟨(hI.put2 hr.1 key nb hl).1,?_⟩);rw[mc _ _ _ (Vk hI.cnd _ _),if_neg (Ne.symm (hI.put2 hr.1 key nb hl).2),C7,if_pos rfl]
theorem yir{B:Store}(hd:zh N B)(hF:FldAny fb room k N)(g:Gnd)(hg:zt g)(hT:g.T.length<=1000000)(l:List Bld)(hl:l.length<=1000000)(hb:∀b∈l,yk b/\onP g b)(c s:Int)(hc:G4 c)(hs:0<=s/\s<=3)(R:Ja)
  (h:∀Nc Nr cc nm wm cs ks ns ws made cnt d,(∀i y,B.obj i=some y->Nr.obj i=some y/\i∉[fb,nm,wm])->FldI fb room g l k Nc Nr cc nm wm cs ks ns ws made cnt->d∉[fb,nm,wm]->Nr.obj d=some (.cells (xj g l c s))->R (ptr d) (Nc.un Nr)):
  Jb 62 [ptr fb,.agg (zu g),lst 6 zi l,int c,int s] (N.un B) R:=by
 refine ACalls.frame hd (ib hF g hg hT l hl hb c s hc hs (λr S=>∃Nc Nr c' nm wm cs ks ns ws made cnt d,r=ptr d/\S=Nc.un Nr/\FldI fb room g l k Nc Nr c' nm wm cs ks ns ws made cnt/\d∉[fb,nm,wm]/\Nr.obj d=some (.cells (xj g l c s))) (λNc Nr c' nm wm cs ks ns ws made cnt d hI h1 h2=>⟨Nc,Nr,c',nm,wm,cs,ks,ns,ws,made,cnt,d,rfl,rfl,hI,h1,h2⟩)) ?_;rintro r a' ⟨Nc,Nr,c',nm,wm,cs,ks,ns,ws,made,cnt,d,rfl,rfl,hI,h1,h2⟩ hd2;rw[Kd];have dB:zh Nr B:=λi q1 q2=>hd2 i (un_has.2 (.inr q1)) q2;refine h Nc (Nr.un B) c' nm wm cs ks ns ws made cnt d (λi y hy=>⟨zf hy,λhi=>?_⟩) (hI.ext hd2) h1 (yj dB h2);have hx:∀{j:Nat} {z:AObj},Nr.obj j=some z->i≠j:=λhz e=>dB i (e▸k9 hz) (k9 hy);obtain⟨b1,k1,e1⟩:=hI.b.hn;obtain⟨b2,k2,e2⟩:=hI.b.hw;simp only[Fa6,Fcb,or_false]at hi;rcases hi with hi|hi|hi
 ·exact hx hI.b.hf hi
 ·exact hx e1 hi
 ·exact hx e2 hi
theorem ylw{n:Nat}{f:Nat->Int}{L:List AV}(h:il n f=u32A 0::L):False:=by
 cases n with
 |zero=>cases h
 |succ n=>
  have:=congrArg List.head? h;rw[List.head?_cons]at this;have h2:(il (n+1) f).head?=some (int (f 0)):=by have:=Wl (f:=f) (n:=n+1) (t:=0) θ;grind
  rw[h2]at this;cases this
theorem NetOK.off{l:List Bld}{ex:List Nat}(h:NetOK g l ex N key b')(hob:N.obj b=some (.cells [u32A 0,i32A 0,u32A 0,x])):NetOK g l (b::ex) N key b':=by
 obtain⟨h1,s,d,c,s',h2,h3,h4,h5,h6,h7⟩:=h;refine⟨λhb=>?_,s,d,c,s',h2,λhb=>?_,h4,h5,h6,h7⟩
 ·grind
 grind[xj,zu]
theorem WayOK.off{l:List Bld}{ex:List Nat}(h:WayOK g l ex N key b')(hob:N.obj b=some (.cells [u32A 0,i32A 0,u32A 0,x])):WayOK g l (b::ex) N key b':=by
 obtain⟨h1,s,d,c,s',goal,h2,h3,h4,h5,h6,h7,h8⟩:=h;refine⟨λhb=>?_,s,d,c,s',goal,h2,λhb=>?_,h4,h5,h6,h7,h8⟩
 ·grind
 grind[ylw]
theorem zh0(hF:FldAny fb room k N)(hk0:0<=k/\k<=4000000000000000000)(g:Gnd)(hg:zt g)(hT:g.T.length<=1000000)(l:List Bld)(hl:l.length<=1000000)(hb:∀b∈l,yk b/\onP g b)(c s:Int)(hc:G4 c)(hs:0<=s/\s<=3)(goal:Nat)(hgo:goal<g.T.length)(R:Ja)
  (h:∀N' d,FldAny fb room (k+1) N'->N'.obj d=some (.cells (wayL g l c s goal))->R (.s (.slice (some ⟨d,0,none⟩) g.T.length g.T.length)) N'):
  Jb 500 [ptr fb,.agg (zu g),lst 6 zi l,int c,int s,int (goal:Nat)] N R:=by
 have ha:=qm hg;have hcb:0<=c/\c<=2:=by unfold G4 at hc;omega
 refine Qb (c:=cfg 85 [6,11,13,17,67] []) zb Tryz.func500 ?_;refine AWp.seq (AWp.of_vc zb ?_);intro pf hpf pg hpg;have npc:pf≠pg:=λe=>by have:=hpg.1;grind[zd]
 obtain⟨B,hB⟩:∃B:Store,B=(Store.empty.sO pf (.cells [ptr fb])).sO pg (.cells [int goal]):=⟨_,rfl⟩
 have b1:B.obj pf=some (.cells [ptr fb]):=by grind[zg,zd]
 have b2:B.obj pg=some (.cells [int goal]):=by rw[hB];exact zd _ _ _
 have eS:(N.sO pf (AObj.cells [AV.s (Value.pointer (some {block:=fb,off:=0}))])).sO pg (AObj.cells [AV.s (Value.int IntKind.i64 goal)])=N.un B:=by rw[hB,Sk pf,zz];rfl
 have hdB:zh N B:=by
  intro i h1 h2;rw[hB]at h2;rcases has_setObj_iff.1 h2 with h2|h2
  ·grind[fresh_iff,has_setObj_iff]
  ·rcases has_setObj_iff.1 h2 with h2|h2
   ·exact fresh_iff.1 hpf (h2▸h1)
   ·exact(h2.elim (λh=>h rfl) (λh=>h rfl):False)
 rw[eS];clear eS hB hpf hpg;refine AWp.seq (AWp.of_vc zb ?_);refine za (o:=(N.un B).obj pf) _ (zf b1) ?_;refine yir hdB hF g hg hT l hl hb c s hc hs _ (λNc Nr cc nm wm cs ks ns ws made cnt d hBk hI hdx hod=>?_);obtain⟨t1,o1⟩:=hBk _ _ b1;obtain⟨t2,o2⟩:=hBk _ _ b2;clear b1 b2 hBk hdB hF;intro pn hpn;rw[zz];refine qd (i:=ti156) (v:=ptr d) (b:=pn) (o:=0) (l:=[.s (.pointer none)]) (st2:=Nc.un (Nr.sO pn (.cells [ptr d]))) rfl rfl rfl (zf (zd _ _ _)) (show 1<=1 by decide) (by rw[zz,ym];rfl) ?_;have hI1:=hI.box hpn (.cells [ptr d]);have kp:∀{i:Nat} {y:AObj},Nr.obj i=some y->(Nr.sO pn (.cells [ptr d])).obj i=some y:=λ{i y} hy=>(zg (Nb hpn hy)).trans hy;have u1:=kp t1;have u2:=kp t2;have u3:(Nr.sO pn (.cells [ptr d])).obj pn=some (.cells [ptr d]):=zd _ _ _;have u4:=kp hod;clear kp hod t1 t2 hpn hI;generalize Nr.sO pn (.cells [ptr d])=N1 at*;have hkc:=hI1.ways.len;have hrr:=hI1.b.r;have hcn:=hI1.b.n0;refine AWp.seq (AWp.of_vc zb ?_);refine Qd ?_;refine Qd ?_;refine Qd ?_;refine Qd ?_;refine za (o:=(Nc.un N1).obj pg) _ (zf u2) ?_;refine Qd ?_
 refine AWp.meet (σ:=Store×List Int×Int×Bool) ⟨λq=>[(6,.av (ptr pf)),(11,.av (ptr pg)),(13,.av (ptr pn)),(14,.av (int (wz c s goal))),(15,.av (int q.2.2.1)),(16,.av (V.bool q.2.2.2))],λ_=>[],
  λq S=>S=q.1.un N1/\zh q.1 N1/\ql q.1 cc room cs q.2.1/\((q.2.2.2=false/\yw cs (wz c s goal)=none/\q.2.1=ks)\/(q.2.2.2=true/\yw cs (wz c s goal)=some q.2.2.1/\q.2.1=wz c s goal::ks.erase (wz c s goal)))⟩ zb ?_ ?_
 ·refine za (o:=(Nc.un N1).obj pf) _ (zf u1) ?_;refine za (o:=(Nc.un N1).obj fb) _ (zf hI1.b.hf) ?_;refine zdq hI1.b.dj hI1.b.hC θ (wz c s goal) _ (λhn Nc2 dd hC2=>?_) (λv hv Nc2 dd hC2=>?_)
  ·exact⟨(Nc2,ks,0,false),⟨rfl,dd,hC2,.inl ⟨rfl,hn,rfl⟩⟩,Qaq,Tv⟩
  ·exact⟨(Nc2,_,v,true),⟨rfl,dd,hC2,.inr ⟨rfl,hv,rfl⟩⟩,⟨Tq,Tq,Tq,Tq,Tq,Tq,Tv⟩,Tv⟩
 rintro⟨Nc2,ks2,v0,z⟩ S ⟨rfl,dd,hC2,hz⟩;dsimp only at dd hC2 hz⊢
 refine AWp.meet (σ:=Int×Nat) ⟨λq=>[(6,.av (ptr pf)),(11,.av (ptr pg)),(13,.av (ptr pn)),(15,.av (int q.1))],λ_=>[],
  λq S=>∃Nc Nr wm cs ks ws cnt,S=Nc.un Nr/\FldB fb room g l (k+1) Nc Nr cc nm wm cs ks ns ws made cnt/\(∀key b,yw ns key=some b->NetOK g l [fb,nm,wm] Nr key b)/\CI (λk b=>if k=wz c s goal then b=q.2 else WayOK g l [fb,nm,wm] Nr k b) room cs ks ws cnt/\yw ws q.1=some q.2/\q.2∉[fb,nm,wm]∧
   (WayOK g l [fb,nm,wm] Nr (wz c s goal) q.2\/Nr.obj q.2=some (.cells [u32A 0,i32A 0,u32A 0,.s (.slice none 0 0)]))/\(Nr.obj pf=some (.cells [ptr fb])/\Nr.obj pg=some (.cells [int goal])/\Nr.obj pn=some (.cells [ptr d]))/\Nr.obj d=some (.cells (xj g l c s))/\d∉[fb,nm,wm]⟩ zb ?_ ?_
 ·cases z with
  |true=>
   have hz:yw cs (wz c s goal)=some v0/\ks2=wz c s goal::ks.erase (wz c s goal):=by simpa using hz
   obtain⟨hz1,rfl⟩:=hz;obtain⟨_,_,b,hwb,hWb⟩:=hI1.ways.ok _ _ hz1;refine⟨(v0,b),⟨Nc2,N1,wm,cs,_,ws,cnt,rfl,⟨dd,hC2,hI1.b.hf,hI1.b.hn,hI1.b.hw,hI1.b.d1,hI1.b.d2,hI1.b.d3,hrr,⟨hcn.1,θ⟩,hI1.b.sz⟩,hI1.nets,(hI1.ways.hit hz1).ways λkey v b2 hk hw hW=>⟨hw,?_⟩,hwb,hWb.1,.inl hWb,⟨u1,u2,u3⟩,u4,hdx⟩,⟨Tq,Tq,Tq,Tq,Tv⟩,Tv⟩;grind
  |false=>
   have hz:yw cs (wz c s goal)=none/\ks2=ks:=by simpa using hz
   obtain⟨hz1,rfl⟩:=hz;refine za (o:=(Nc2.un N1).obj pf) _ (zf u1) ?_;refine za (o:=(Nc2.un N1).obj fb) _ (zf hI1.b.hf) ?_;refine Qd ?_;refine qd (i:=ti2) (v:=int (cnt+1)) (b:=fb) (o:=9) (l:=[ptr cc,int made,V.bool true,int g.W,int g.H,ya g.T,lst 6 zi l,mapA nm,mapA wm,int cnt]) (st2:=Nc2.un (N1.sO fb (.cells [ptr cc,int made,V.bool true,int g.W,int g.H,ya g.T,lst 6 zi l,mapA nm,mapA wm,int (cnt+1)]))) rfl rfl rfl (zf hI1.b.hf) (show 10<=10 by decide) (zz _ _ _ _) ?_;obtain⟨bn,kn,hnm⟩:=hI1.b.hn;obtain⟨bw,kw,hwm⟩:=hI1.b.hw;have hfn:=hI1.b.d1;have hfw:=hI1.b.d2;have hnw:=hI1.b.d3;have hsz:=hI1.b.sz;have hnets:=hI1.nets;have hways:=hI1.ways;have hdf:d≠fb:=λe=>hdx (by simp[e]);obtain⟨N2,hN2⟩:∃N2,N2=N1.sO fb (.cells [ptr cc,int made,V.bool true,int g.W,int g.H,ya g.T,lst 6 zi l,mapA nm,mapA wm,int (cnt+1)]):=⟨_,rfl⟩
   rw[<-hN2];have kN:keepsB [fb,nm,wm] N1 N2:=by rw[hN2];exact(keepsB.refl _ _).set (.inl φ)
   have v1:N2.obj pf=some (.cells [ptr fb]):=by rw[hN2];exact(zg (λe=>by rw[e,hI1.b.hf]at u1;cases u1)).trans u1
   have v2:N2.obj pg=some (.cells [int goal]):=by rw[hN2];exact(zg (λe=>by rw[e,hI1.b.hf]at u2;cases u2)).trans u2
   have v3:N2.obj pn=some (.cells [ptr d]):=by rw[hN2];exact(zg (λe=>by rw[e,hI1.b.hf]at u3;cases u3)).trans u3
   have v4:N2.obj d=some (.cells (xj g l c s)):=by rw[hN2];exact(zg hdf).trans u4
   have v5:N2.obj fb=some (.cells [ptr cc,int made,V.bool true,int g.W,int g.H,ya g.T,lst 6 zi l,mapA nm,mapA wm,int (cnt+1)]):=by rw[hN2];exact zd _ _ _
   have v6:N2.obj wm=some (.map (ws.map (yu λb=>ptr b)) bw kw):=by rw[hN2];exact(zg (Ne.symm hfw)).trans hwm
   have v7:N2.obj nm=some (.map (ns.map (yu λb=>ptr b)) bn kn):=by rw[hN2];exact(zg (Ne.symm hfn)).trans hnm
   have d2:zh Nc2 N2:=by rw[hN2];exact disj_setR dd (Ck dd hI1.b.hf)
   have o3:pn∉[fb,nm,wm]:=by simp only[Fa6,Fcb,or_false,not_or];exact⟨λe=>(by rw[e,hI1.b.hf]at u3;cases u3),λe=>(by rw[e,hnm]at u3;cases u3),λe=>(by rw[e,hwm]at u3;cases u3)⟩
   clear hN2 dd hnm hwm;refine za (o:=(Nc2.un N2).obj pf) _ (zf v1) ?_;refine za (o:=(Nc2.un N2).obj fb) _ (zf v5) ?_;refine za (o:=(Nc2.un N2).obj pf) _ (zf v1) ?_;refine za (o:=(Nc2.un N2).obj fb) _ (zf v5) ?_;refine ygu d2 hC2 hways hrr (wz c s goal) _ (λNc3 cs3 ks3 d3 hC3 hCI=>?_);refine za (o:=(Nc3.un N2).obj pf) _ (zf v1) ?_;refine za (o:=(Nc3.un N2).obj fb) _ (zf v5) ?_;intro nb hnb;have f1:=fresh_un hnb;rw[zz];have e1:wm≠nb:=λe=>by have:=f1.2.1;rw[<-e,v6]at this;cases this
   refine Fg (.inl rfl) rfl (it:=ti211) (ik:=ti2) rfl rfl rfl (zf ((zg e1).trans v6)) rfl rfl (qA (cnt+1)) (λe he=>?_) (λe1 he hq=>?_) ?_
   ·obtain⟨e,_,rfl⟩:=Fai.1 he;rfl
   ·obtain⟨e,_,rfl⟩:=Fai.1 he;have:cnt+1=e.1:=by simpa [qA,yu,int]using hq
    show int e.1=_;rw[this]
   obtain⟨bs',clk',hput⟩:=K8 (λb=>ptr b) ws bw kw (cnt+1) nb;have hput2:vq (List.map (yu λb=>ptr b) ws) bw kw (qA (cnt+1)) (int (cnt+1)) (AV.s (Value.pointer (some {block:=nb,off:=0})))=_:=hput;rw[hput2,zz];have e2:fb≠nb:=λe=>by have:=f1.2.1;rw[<-e,v5]at this;cases this
   have e3:nm≠nb:=λe=>by have:=f1.2.1;rw[<-e,v7]at this;cases this
   have e4:pf≠nb:=λe=>by have:=f1.2.1;rw[<-e,v1]at this;cases this
   have e5:pg≠nb:=λe=>by have:=f1.2.1;rw[<-e,v2]at this;cases this
   have e6:pn≠nb:=λe=>by have:=f1.2.1;rw[<-e,v3]at this;cases this
   have e7:d≠nb:=λe=>by have:=f1.2.1;rw[<-e,v4]at this;cases this
   have fn:=kN.fresh (by
    intro i hi;simp only[Fa6,Fcb,or_false]at hi;rcases hi with rfl|rfl|rfl
    ·rw[v5];simp
    ·rw[v7];simp
    ·rw[v6];simp) f1.2.1
   have kq:∀{i:Nat} {y:AObj},i≠nb->i≠wm->N2.obj i=some y->((N2.sO nb (.cells [u32A 0,i32A 0,u32A 0,.s (.slice none 0 0)])).sO wm (.map ((yp ws (cnt+1) nb).map (yu λb=>ptr b)) bs' clk')).obj i=some y:=λ{i y} h1 h2 hy=>(zg h2).trans ((zg h1).trans hy);have w1:=kq e4 (by simp at o1;exact o1.2.2) v1;have w2:=kq e5 (by simp at o2;exact o2.2.2) v2;have w3:=kq e6 (by simp at o3;exact o3.2.2) v3;have w4:=kq e7 (by simp at hdx;exact hdx.2.2) v4;have w5:=kq e2 hfw v5;have w7:=kq e3 hnw v7;have w6:((N2.sO nb (.cells [u32A 0,i32A 0,u32A 0,.s (.slice none 0 0)])).sO wm (.map ((yp ws (cnt+1) nb).map (yu λb=>ptr b)) bs' clk')).obj wm=_:=zd _ _ _;have w8:((N2.sO nb (.cells [u32A 0,i32A 0,u32A 0,.s (.slice none 0 0)])).sO wm (.map ((yp ws (cnt+1) nb).map (yu λb=>ptr b)) bs' clk')).obj nb=some (.cells [u32A 0,i32A 0,u32A 0,.s (.slice none 0 0)]):=(zg (Ne.symm e1)).trans (zd _ _ _);have k3:=(kN.set (p:=nb) (x:=.cells [u32A 0,i32A 0,u32A 0,.s (.slice none 0 0)]) (.inr fn.2)).set (p:=wm) (x:=.map ((yp ws (cnt+1) nb).map (yu λb=>ptr b)) bs' clk') (.inl φ);have d4:zh Nc3 ((N2.sO nb (.cells [u32A 0,i32A 0,u32A 0,.s (.slice none 0 0)])).sO wm (.map ((yp ws (cnt+1) nb).map (yu λb=>ptr b)) bs' clk')):=disj_setR (disj_setR d3 (fresh_iff.1 f1.1)) (Ck d3 v6);rw[show(N2.sO nb (AObj.cells [AV.s (Value.int IntKind.u32 0),AV.s (Value.int IntKind.i32 0),AV.s (Value.int IntKind.u32 0),AV.s (Value.slice none 0 0)])).sO wm (AObj.map (List.map (yu λb=>ptr b) (yp ws (cnt+1) nb)) bs' clk')=(N2.sO nb (.cells [u32A 0,i32A 0,u32A 0,.s (.slice none 0 0)])).sO wm (.map ((yp ws (cnt+1) nb).map (yu λb=>ptr b)) bs' clk')from rfl];clear kq v1 v2 v3 v4 v5 v6 v7 hnb d3 d2 hput hput2 kN e1;generalize(N2.sO nb (.cells [u32A 0,i32A 0,u32A 0,.s (.slice none 0 0)])).sO wm (.map ((yp ws (cnt+1) nb).map (yu λb=>ptr b)) bs' clk')=N3 at*;refine za (o:=(Nc3.un N3).obj pf) _ (zf w1) ?_;refine zyt (k:=k+1) ⟨d4,hC3,w5,⟨_,_,w7⟩,⟨_,_,w6⟩,hfn,hfw,hnw,hrr,⟨θ,θ⟩,hsz⟩ (hCI nb).1 _ (λNc4 N4 wm4 ks4 ws4 hB4 hC4 hwm4 hk4=>?_);have he:∀i,i∈[fb,nm,wm4]->i∈[fb,nm,wm]\/N3.obj i=none:=λi hi=>by
    simp only[Fa6,Fcb,or_false]at hi⊢;rcases hi with hi|hi|hi
    ·exact .inl (.inl hi)
    ·exact .inl (.inr (.inl hi))
    ·rcases hwm4 with h1|h1
     ·exact .inl (.inr (.inr (hi.trans h1)))
     ·exact .inr (hi▸h1)
   have he1:∀i,i∈[fb,nm,wm4]->i∈[fb,nm,wm]\/N1.obj i=none:=λi hi=>(he i hi).imp id λh1=>(k3.fresh (by
    intro i hi;simp only[Fa6,Fcb,or_false]at hi;rcases hi with rfl|rfl|rfl
    ·rw[w5];simp
    ·rw[w7];simp
    ·rw[w6];simp) h1).2
   have hno:∀{i:Nat} {y:AObj},i∉[fb,nm,wm]->N3.obj i=some y->i∉[fb,nm,wm4]:=λ{i y} h1 hy hi=>(he i hi).elim h1 λh2=>by rw[hy]at h2;cases h2
   have k4:=k3.trans hk4;have hgw:yw ws4 (cnt+1)=some nb:=by obtain⟨_,_,b',h1,h2⟩:=hC4.ok _ _ (hCI nb).2;rw[if_pos rfl]at h2;rw[h1,h2]
   exact⟨(cnt+1,nb),⟨Nc4,N4,wm4,cs3,ks4,ws4,cnt+1,rfl,hB4,λkey b hb=>(hnets key b hb).keep k4 he1,hC4.ways (λkey2 v b hk hw hW=>⟨hw,by
    dsimp only at hW⊢;by_cases e:key2=wz c s goal
    ·rw[if_pos e]at hW⊢;exact hW
    ·rw[if_neg e]at hW⊢;exact hW.keep k4 he1⟩),hgw,hno fn.1 w8,.inr (hk4 nb _ fn.1 w8),⟨hk4 pf _ o1 w1,hk4 pg _ o2 w2,hk4 pn _ o3 w3⟩,hk4 d _ hdx w4,hno hdx w4⟩,Qaq,Tv⟩
 clear hz hC2 dd hI1 u1 u2 u3 u4 o1 o2 hkc hcn hdx;rintro⟨v,b⟩ S ⟨Nc,Nr,wm,cs,ks,ws,cnt,rfl,hB,hnets,hCI,hgw,hbx,hW,⟨t1,t2,t3⟩,hod,hdx⟩;dsimp only at hCI hgw hbx hW⊢;obtain⟨bw,kw,hwm⟩:=hB.hw;obtain⟨bn,kn,hnm⟩:=hB.hn;refine AWp.seq (AWp.of_vc zb ?_);refine za (o:=(Nc.un Nr).obj pf) _ (zf t1) ?_;refine za (o:=(Nc.un Nr).obj fb) _ (zf hB.hf) ?_;refine Ak rfl (it:=ti211) (ie:=ti562) (ik:=ti2) rfl rfl rfl rfl (zf hwm) rfl (qA v) (λe he=>?_) ?_
 ·obtain⟨e,_,rfl⟩:=Fai.1 he;rfl
 rw[Hk,hgw];intro px hpx;have f1:=fresh_un hpx;rw[zz];refine qd (i:=ti562) (v:=ptr b) (b:=px) (o:=0) (l:=[.s (.pointer none)]) (st2:=Nc.un (Nr.sO px (.cells [ptr b]))) rfl rfl rfl (zf (zd _ _ _)) (show 1<=1 by decide) (by rw[zz,ym];rfl) ?_;have kp:∀{i:Nat} {y:AObj},Nr.obj i=some y->(Nr.sO px (.cells [ptr b])).obj i=some y:=λ{i y} hy=>(zg (Nb hpx hy)).trans hy;have u1:=kp t1;have u2:=kp t2;have u3:=kp t3;have u4:=kp hod;have u5:=kp hB.hf;have u6:=kp hwm;have u7:=kp hnm;have u8:(Nr.sO px (.cells [ptr b])).obj px=some (.cells [ptr b]):=zd _ _ _;have kN:keepsB [fb,nm,wm] Nr (Nr.sO px (.cells [ptr b])):=λi y _ hy=>kp hy;have d1:=disj_setR (x:=.cells [ptr b]) hB.dj (fresh_iff.1 f1.1);have hC:=hB.hC;have hfn:=hB.d1;have hfw:=hB.d2;have hnw:=hB.d3;have hr:=hB.r;have hn0:=hB.n0;have hsz:=hB.sz;have hW2:WayOK g l [fb,nm,wm] (Nr.sO px (.cells [ptr b])) (wz c s goal) b\/(Nr.sO px (.cells [ptr b])).obj b=some (.cells [u32A 0,i32A 0,u32A 0,.s (.slice none 0 0)]):=hW.imp (λh=>h.keep kN λi hi=>.inl hi) kp;clear kp t1 t2 t3 hod hwm hnm hB f1 hpx hW;generalize Nr.sO px (.cells [ptr b])=N2 at*;refine AWp.seq (AWp.of_vc zb ?_);refine za (o:=(Nc.un N2).obj px) _ (zf u8) ?_;rcases hW2 with hW|hob
 ·have hW0:=hW;obtain⟨_,s1,d2,c1,s1',goal1,hob,hdx2,hc1,hs1,hg1,hke,hod2⟩:=hW;refine zbj b _ _ _ _ (zf hob) ?_;refine AWp.of_vc zb ?_;refine za (o:=(Nc.un N2).obj px) _ (zf u8) ?_;refine za (o:=(Nc.un N2).obj b) _ (zf hob) ?_;have heq:c1=c/\s1'=s/\goal1=goal:=by
   unfold wz at hke;unfold G4 at hc1;omega
  obtain⟨rfl,rfl,rfl⟩:=heq;refine ret (h _ d2 (.inl ⟨g,l,Nc,N2,cc,nm,wm,cs,ks,ns,ws,made,cnt,rfl,⟨⟨d1,hC,u5,⟨_,_,u7⟩,⟨_,_,u6⟩,hfn,hfw,hnw,hr,hn0,hsz⟩,λkey b hb=>(hnets key b hb).keep kN λi hi=>.inl hi,hCI.ways λkey v b' hk hw hW=>⟨hw,?_⟩⟩⟩) (zf hod2));by_cases e:key=wz c1 s1' goal1
  ·rw[if_pos e]at hW;rw[e,hW];exact hW0
  ·rw[if_neg e]at hW;exact hW.keep kN λi hi=>.inl hi
 ·have e1:pf≠b:=λe=>by rw[e,hob]at u1;cases u1
  have e2:pg≠b:=λe=>by rw[e,hob]at u2;cases u2
  have e3:pn≠b:=λe=>by rw[e,hob]at u3;cases u3
  have e4:px≠b:=λe=>by rw[e,hob]at u8;cases u8
  have e5:fb≠b:=λe=>by rw[e,hob]at u5;cases u5
  have e6:nm≠b:=λe=>by rw[e,hob]at u7;cases u7
  have e7:wm≠b:=λe=>by rw[e,hob]at u6;cases u6
  have e8:d≠b:=λe=>by rw[e,hob]at u4;simp[xj,zu]at u4
  have e9:d≠fb:=λe=>hdx (by simp[e]);have e10:px≠fb:=λe=>by rw[e,u5]at u8;cases u8
  have hnc:=Ck d1 hob;refine zbi b (u32A 0) (.s (.slice none 0 0)) _ _ _ _ (zf hob) ?_;rw[zz];refine zia hg (l:=l) (c:=c) (s:=s) goal hgo (zf ((zg e1).trans u1)) (zf ((zg e3).trans u3)) (zf ((zg e2).trans u2)) (zf ((zg e4).trans u8)) (zf ((zg e5).trans u5)) (zf (zd _ _ _)) (zf ((zg e8).trans u4)) e9 _ (λm d2 hfd hdf=>?_);have f3:=fresh_un hfd;refine⟨.s (.slice (some ⟨d2,0,none⟩) g.T.length g.T.length),by rw[zz,zz,zz];exact zf (zd _ _ _),?_⟩;rw[zz,zz,zz,zz,ym];have hdn:d2≠b:=λe=>by have:=f3.2.1;rw[e,zd]at this;cases this
  have hd3:N2.obj d2=none:=by have:=f3.2.1;rwa [zg hdn]at this
  have fd:=kN.fresh (by
   intro i hi;simp only[Fa6,Fcb,or_false]at hi;rcases hi with rfl|rfl|rfl
   ·rw[u5];simp
   ·rw[u7];simp
   ·rw[u6];simp) hd3
  have d4:=disj_setR (x:=.cells [u32A 1,i32A 0,u32A 0,.s (.slice (some ⟨d2,0,none⟩) g.T.length g.T.length)]) (disj_setR (x:=.cells (wayL g l c s goal)) (disj_setR (x:=.cells [ptr cc,int m,V.bool true,int g.W,int g.H,ya g.T,lst 6 zi l,mapA nm,mapA wm,int cnt]) (disj_setR (x:=.cells [u32A 0,i32A 1,u32A 0,.s (.slice none 0 0)]) d1 hnc) (Ck d1 u5)) (fresh_iff.1 f3.1)) hnc;generalize hN4:(((N2.sO b (.cells [u32A 0,i32A 1,u32A 0,.s (.slice none 0 0)])).sO fb (.cells [ptr cc,int m,V.bool true,int g.W,int g.H,ya g.T,lst 6 zi l,mapA nm,mapA wm,int cnt])).sO d2 (.cells (wayL g l c s goal))).sO b (.cells [u32A 1,i32A 0,u32A 0,.s (.slice (some ⟨d2,0,none⟩) g.T.length g.T.length)])=N4 at*;have kq:∀{i:Nat} {y:AObj},i≠b->i≠fb->N2.obj i=some y->N4.obj i=some y:=λ{i y} hi hj hy=>hN4▸(zg hi).trans ((zg (λe=>by rw[e,hd3]at hy;cases hy)).trans ((zg hj).trans ((zg hi).trans hy)));have x8:=kq e4 e10 u8;have x6:=kq e7 (Ne.symm hfw) u6;have x7:=kq e6 (Ne.symm hfn) u7;have x5:N4.obj fb=some (.cells [ptr cc,int m,V.bool true,int g.W,int g.H,ya g.T,lst 6 zi l,mapA nm,mapA wm,int cnt]):=hN4▸(zg e5).trans ((zg (Ne.symm hdf)).trans (zd _ _ _));have x9:N4.obj d2=some (.cells (wayL g l c s goal)):=hN4▸(zg hdn).trans (zd _ _ _);have xb:N4.obj b=some (.cells [u32A 1,i32A 0,u32A 0,.s (.slice (some ⟨d2,0,none⟩) g.T.length g.T.length)]):=hN4▸zd _ _ _;have k4:keepsB [b,fb,nm,wm] N2 N4:=λi y hi hy=>kq (λe=>hi (by simp[e])) (λe=>hi (by simp[e])) hy;clear kq u1 u2 u3 u4 u5 u6 u7 u8 d1 f3 hfd hN4;refine AWp.of_vc zb ?_;refine za (o:=(Nc.un N4).obj px) _ (zf x8) ?_;refine za (o:=(Nc.un N4).obj b) _ (zf xb) ?_;have hsub:∀i,i∈[fb,nm,wm]->i∈[b,fb,nm,wm]\/N2.obj i=none:=λi hi=>.inl (Fav _ hi);refine ret (h _ d2 (.inl ⟨g,l,Nc,N4,cc,nm,wm,cs,ks,ns,ws,m,cnt,rfl,⟨⟨d4,hC,x5,⟨_,_,x7⟩,⟨_,_,x6⟩,hfn,hfw,hnw,hr,hn0,hsz⟩,λkey b hb=>(((hnets key b hb).keep kN λi hi=>.inl hi).off hob).keep k4 hsub,hCI.ways λkey v b' hk hw hW=>⟨hw,?_⟩⟩⟩) (zf x9));by_cases e:key=wz c s goal
  ·rw[if_pos e]at hW;rw[e,hW];exact⟨hbx,_,d2,c,s,goal,xb,fd.1,hc,hs,hgo,rfl,x9⟩
  ·rw[if_neg e]at hW;exact((hW.keep kN λi hi=>.inl hi).off hob).keep k4 hsub
end
theorem yny(n:Int)(hn:1<=n/\n<=4096)(R:Ja)(h:∀N fb,FldAny fb n 0 N->R (.tup [ptr fb,int 0]) N):Jb 46 [int n] Store.empty R:=by
 refine Qa (c:=cfg 21 [17] []) zb Tryz.func46 ?_;refine yqm n hn.1 hn.2 _ _ (λNc c hC=>?_);intro fb hfb;rw[Sk fb];refine mn (Nr:=Store.empty.sO fb (.cells [ptr c,int 0,V.bool false,int 0,int 0,.s (.slice none 0 0),.s (.slice none 0 0),.s (.map none),.s (.map none),int 0])) (λi h1 h2=>?_) hC (zd _ _ _) _ (λNc1 Nr1 nm wm b1 k1 b2 k2 d1 d2 d3 d4 d5 d6 d7 d8=>?_)
 ·rcases has_setObj_iff.1 h2 with e|e
  ·exact fresh_iff.1 hfb (e▸h1)
  ·exact(e.elim (λh=>h rfl) (λh=>h rfl):False)
 exact ret (h _ fb (.inr ⟨Nc1,Nr1,c,[],[],0,0,_,_,_,_,_,_,rfl,d1,d2,hn,θ,d3⟩))
def Pv(fb:Nat):AV:=gvOf 119 (.pointer (some ⟨fb,0,none⟩))
theorem ynz : Pd Tryz.prog 119 "Net" 62 true = true := by kernel_rfl
theorem ynk : Pd Tryz.prog 119 "Ways" 500 true = true := by kernel_rfl
theorem yn0 (fb : Nat) : Meets Tryz.prog 119 (.pointer (some ⟨fb, 0, none⟩)) "Net" 62 (ptr fb) := Meets.ptrB ynz fun w T => .s _
theorem ynl (fb : Nat) : Meets Tryz.prog 119 (.pointer (some ⟨fb, 0, none⟩)) "Ways" 500 (ptr fb) := Meets.ptrB ynk fun w T => .s _
theorem ymh{w:Wld}(hm:MayF w)(fb:Nat)(room:Int)(k M:Nat)(hk:k+M<=4000000000000000000):GuideK 119 (.pointer (some ⟨fb,0,none⟩)) (λn N=>FldAny fb room ((k+n:Nat):Int) N) M w:=by
 have hB:=hm.hB;have hT:=hm.hT;have ha:=qm hm.hg;refine⟨λ{n N c s} hF hc hs R h=>?_,λ{n N c s} hF hn hc hs goal hgo R h=>?_⟩
 ·refine⟨_,_,yn0 fb,?_⟩;exact ib hF w.G hm.hg θ w.B θ hm.hb c s hc hs _ (λNc Nr cc nm wm cs ks ns ws made cnt d hI hd ho=>h d _ (.inl ⟨_,_,Nc,Nr,cc,nm,wm,cs,ks,ns,ws,made,cnt,rfl,hI⟩) (zf ho))
 ·refine⟨_,_,ynl fb,?_⟩;refine zh0 hF ⟨θ,θ⟩ w.G hm.hg θ w.B θ hm.hb c s hc hs goal hgo _ (λN' d hF' ho=>h d N' ?_ ho);have e:((k+(n+1):Nat):Int)=((k+n:Nat):Int)+1:=θ;show FldAny fb room ((k+(n+1):Nat):Int) N';rw[e];exact hF'
theorem FldAny.objs{fb:Nat}{room k:Int}{N:Store}(h:FldAny fb room k N):FldAny fb room k N.objs:=by
 have eu:∀a b:Store,(a.un b).objs=a.objs.un b.objs:=λa b=>rfl;have hC:∀{Nc:Store} {c cs ks},ql Nc c room cs ks->ql Nc.objs c room cs ks:=λ⟨m,v,hh,e,bs,clk,h1,h2,h3,h4,h5⟩=>⟨m,v,hh,e,bs,clk,h1,h2,h3,h4,h5⟩
 have hh:∀{S:Store} {b},S.objs.has b->S.has b:=λh=>h.elim (λh=>.inl h) (λh=>absurd rfl h);have hD:∀{a b:Store},zh a b->zh a.objs b.objs:=λhd i h1 h2=>hd i (hh h1) (hh h2);rcases h with⟨g,l,Nc,Nr,c,nm,wm,cs,ks,ns,ws,made,cnt,e,h⟩|⟨Nc,Nr,c,cs,ks,made,cnt,x0,x1,x2,x3,y0,y1,e,h1,h2,h3,h4,h5⟩
 ·exact .inl ⟨g,l,Nc.objs,Nr.objs,c,nm,wm,cs,ks,ns,ws,made,cnt,by rw[e,eu],⟨⟨hD h.b.dj,hC h.b.hC,h.b.hf,h.b.hn,h.b.hw,h.b.d1,h.b.d2,h.b.d3,h.b.r,h.b.n0,h.b.sz⟩,h.nets,h.ways⟩⟩
 ·exact .inr ⟨Nc.objs,Nr.objs,c,cs,ks,made,cnt,x0,x1,x2,x3,y0,y1,by rw[e,eu],hD h1,hC h2,h3,h4,h5⟩
def I9:List AV:=[int 0,int 0,int 0,int 0,int 0,nil,nil,nil]
end Go.Proofs
