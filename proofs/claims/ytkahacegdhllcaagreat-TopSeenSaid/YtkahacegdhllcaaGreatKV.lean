/- Ground of laws of throngtop: contracts and plain lemmas; no condition beyond the row's own. -/
import Derived.Test.YtkahacegdhllcaaGreatKU
import Derived.Test.YtkahacegdhllcaaGreatKT
set_option linter.unusedSimpArgs false
set_option linter.unusedVariables false
set_option linter.defProp false
namespace Go.Proofs
open Go Go.V
set_option maxRecDepth 20000
set_option maxHeartbeats 4000000
abbrev u32A(n:Int):AV:=.s (.int .u32 n)
abbrev i32A(n:Int):AV:=.s (.int .i32 n)
def uy(b:Nat)(l:List AV)(d:Int)(o:Nat)(st:Store)(R:Ja)(hb:st.obj b=some (.cells l))(hl:l[o]?=some (u32A d))(h:R (V.bool (d != 0)) st):
  Jb 236 [ptrA b o] st R:=by
 refine Qy 8 Tryz.func236 ?_;exact yvb Tryz.func270 ζ ζ ζ .u32 κ hb hl (ret h)
def ytz(x:Bool)(st:Store)(R:Ja)(h:R (u32A (bif x then 1 else 0)) st):Jb 298 [V.bool x] st R:=by
 refine Qy 4 Tryz.func298 ?_;cases x with
 |true=>exact ret h
 |false=>exact ret h
def ylk(b:Nat)(l:List AV)(o:Nat)(st:Store)(R:Ja)(hb:st.obj b=some (.cells l))(hl:l[o]?=some (i32A 0))(h:R (.tup []) (st.sO b (.cells (zq l o [i32A 1])))):
  Jb 295 [ptrA b o] st R:=by
 have hl':(zq l o [i32A 1])[o]?=some (i32A 1):=by have:=(Fax.1 hl).1;unfold zq;rw[Fas,Fa7 θq];rw[Fai,Fdm θ,Fc3];rfl
 refine Qy 13 Tryz.func295 ?_;exact gw Tryz.func311 ζ ζ ζ .disable κ (yvc Tryz.func312 ζ ζ ζ .i32 κ hb hl (gw Tryz.func313 ζ ζ ζ .enable κ (zk9 rfl κ (zd _ _ _) hl' (zle Tryz.func314 ζ ζ ζ .acquire κ (ret h)))))
def zmz(b:Nat)(d s x:AV)(st:Store)(R:Ja)(hb:st.obj b=some (.cells [d,i32A 1,s,x]))(h:R (.tup []) (st.sO b (.cells [d,i32A 0,s,x]))):
  Jb 296 [ptrA b 1] st R:=by
 refine Qy 21 Tryz.func296 ?_;refine Qbc (zk9 rfl κ hb rfl (zle Tryz.func316 ζ ζ ζ .releaseMerge κ (gw Tryz.func311 ζ ζ ζ .disable κ ?_)));exact zlf Tryz.func317 ζ ζ ζ .i32 κ hb rfl (s:=0) (λw=>by simp[go_sem];rfl) (gw Tryz.func313 ζ ζ ζ .enable κ (ret h))
def yj9(b:Nat)(d s x:AV)(st:Store)(R:Store->Prop)(hb:st.obj b=some (.cells [d,i32A 1,s,x]))(h:R (st.sO b (.cells [d,i32A 0,s,x]))):
  ADefer Tryz.prog 272 [ptrA b 1] st R:=by
 refine ADefer.of_awp (c:={cfg 6 with nm:=true}) zb Tryz.func272 ζ ζ ζ ζ ?_;refine AWp.of_vc zb ?_;exact zmz b d s x _ _ hb (ret h)
def ytd(b:Nat)(m s x:AV)(u:Int)(st:Store)(R:Store->Prop)(hb:st.obj b=some (.cells [u32A u,m,s,x]))(h:R (st.sO b (.cells [u32A 1,m,s,x]))):
  ADefer Tryz.prog 273 [ptrA b 0,V.bool true] st R:=by
 refine ADefer.of_awp (c:={cfg 10 with nm:=true}) zb Tryz.func273 ζ ζ ζ ζ (AWp.of_vc zb ?_);refine Qc zb yc5 ?_;refine⟨ytz true _ _ ?_,Tv⟩;have key:∀(R':Ja),R' (.tup []) (st.sO b (.cells [u32A 1,m,s,x]))->Jb 297 [ptrA b 0,u32A 1] st R':=λR' hR=>yva Tryz.func297 ζ ζ ζ κ (l:=[u32A u,m,s,x]) (u:=.int .u32 u) hb ζ hR;exact⟨Qe,⟨key _ ⟨Qe,ret (R:=λ_ S=>R S) h⟩,Tv⟩⟩
def ykc(b:Nat)(l:List AV)(o:Nat)(st:Store)(R:Ja)(hb:st.obj b=some (.cells l))(hl:l[o]?=some (i32A 0))(h:R (.tup []) (st.sO b (.cells (zq l o [i32A 1])))):
  Jb 271 [ptrA b o] st R:=by
 refine Qy 6 Tryz.func271 ?_;exact ylk b l _ _ _ hb hl (ret h)
def ya1(b:Nat)(s x:AV)(g:FuncId)(cap:List AV)(st:Store)(R:Ja)(hb:st.obj b=some (.cells [u32A 0,i32A 0,s,x]))
  (hf:Jb g cap (st.sO b (.cells [u32A 0,i32A 1,s,x])) λ_ S=>∃x',S.obj b=some (.cells [u32A 0,i32A 1,s,x'])/\R (.tup []) (S.sO b (.cells [u32A 1,i32A 0,s,x']))):
  Jb 237 [ptrA b 0,.clos g cap] st R:=by
 refine ACalls.of_awpD (c:={cfg 21 with nm:=true}) zb Tryz.func237 ζ ζ ζ ζ ζ ?_;refine AWpD.seq (AWpD.of (AWp.of_vc zb (ykc b _ 1 _ _ hb rfl ?_)));show AWpD _ _ _ _ _ _;refine AWpD.seq (AWpD.deferL zb rfl rfl rfl rfl rfl ⟨272,[.pointer (some ⟨b,1,none⟩)],rfl,rfl,?_⟩);show AWpD _ _ _ _ _ _;refine AWpD.seq (AWpD.of (AWp.of_vc zb (uy b _ 0 0 _ _ (zd _ _ _) rfl ?_)));show AWpD _ _ _ _ _ _;refine AWpD.cond true rfl ?_;show AWpD _ _ _ _ _ _;refine AWpD.seq (AWpD.deferL zb rfl rfl rfl rfl rfl ⟨273,[.pointer (some ⟨b,0,none⟩),.bool true],rfl,rfl,?_⟩);show AWpD _ _ _ _ _ _;refine AWpD.of (AWp.of_vc zb (hf.imp λr S ⟨x',h1,h2⟩=>⟨273,[.pointer (some ⟨b,0,none⟩),.bool true],rfl,ytd b _ _ _ 0 _ _ h1 ⟨272,[.pointer (some ⟨b,1,none⟩)],rfl,yj9 b _ _ _ _ _ (zd _ _ _) ?_⟩⟩));show R (.tup []) _;rw[yw];exact h2
def ze9(b:Nat)(s x:AV)(g:FuncId)(cap:List AV)(st:Store)(R:Ja)(hb:st.obj b=some (.cells [u32A 0,i32A 0,s,x]))
  (hf:Jb g cap (st.sO b (.cells [u32A 0,i32A 1,s,x])) λ_ S=>∃x',S.obj b=some (.cells [u32A 0,i32A 1,s,x'])/\R (.tup []) (S.sO b (.cells [u32A 1,i32A 0,s,x']))):
  Jb 207 [ptrA b 0,.clos g cap] st R:=by
 refine Qy 12 Tryz.func207 ?_;exact uy b _ 0 0 _ _ hb rfl (ya1 b s x g cap _ _ hb (hf.imp λr S ⟨x',h1,h2⟩=>⟨x',h1,ret h2⟩))
def zfa(b:Nat)(l:List AV)(f:AV)(st:Store)(R:Ja)(hb:st.obj b=some (.cells (u32A 1::l)))(h:R (.tup []) st):
  Jb 207 [ptrA b 0,f] st R:=by
 refine Qy 12 Tryz.func207 ?_;exact uy b _ 1 0 _ _ hb rfl (ret h)
def rv(b o:Nat)(l:List AV)(x y:Int)(st:Store)(R:Ja)(hb:st.obj b=some (.cells l))(hl:l[o]?=some (.s (.int .i64 x)))(h:∀n:Int,R (.s (.int .i64 n)) (st.sO b (.cells (zq l o [.s (.int .i64 n)])))):
  Jb 353 [ptrA b o,.s (.int .i64 y)] st R:=by
 refine Qy 10 Tryz.func353 ?_;exact zlf Tryz.func358 ζ ζ ζ .i64 κ hb hl (s:=IntKind.wrap .i64 (x+y)) (λw=>by simp[go_sem]) (ret (h _))
section
variable {v:AV} {N:Store} {c:Nat} {room:Int}
def ymt{S:Store}{ns:List Int}(hv:Ints S v ns)(hn:ns.length<=1000000)(x:Int)(R:Ja)(h1:x∉ns->R (int (-1)) S)
  (h2:∀i:Nat,ns[i]?=some x->(∀j<i,ns[j]?≠some x)->R (int i) S):
  Jb 322 [v,int x] S R:=by
 rcases hv with⟨rfl,rfl⟩|⟨b,cap,L,rfl,hb,hc1,hc2,hc3⟩
 ·refine Qy 19 Tryz.func322 ?_;refine AWp.loop (σ:=Nat) ⟨λi=>[(7,.av (int (0:Nat))),(8,.av (int (0:Nat)))],λ_=>[],λi st'=>st'=S,λi=>i⟩ zb ?_ ?_
  ·exact⟨0,Tv,rfl,⟨Tq,Tq,Tv⟩,Tv⟩
  rintro i st' rfl;exact ret (h1 φ)
 ·refine Qy 19 Tryz.func322 ?_
  refine AWp.loop (σ:=Nat) ⟨λi=>[(0,.av (.s (.slice (some ⟨b,0,none⟩) ns.length cap))),(1,.av (int x)),(7,.av (int (ns.length:Nat))),(8,.av (int (i:Nat)))],λ_=>[],
   λi st'=>i<=ns.length/\st'=S/\∀j,j<i->ns[j]?≠some x,λi=>ns.length-i⟩ zb ?_ ?_
  ·exact⟨0,Tv,⟨Fae _,rfl,λj hj=>absurd hj (Fa3 j)⟩,Qax,Tv⟩
  rintro i st' ⟨hi,rfl,hall⟩;refine bcd (λc1=>?_) (λc1=>?_);rotate_left
  ·refine ret (h1 (λhm=>?_));grind[List.mem_iff_getElem?]
  have hlt:i<ns.length:=θ;refine⟨i,rfl,hlt,Qbc ?_⟩;have hd:((ns.map aI++L).drop (0+i*1)).head?=some (int ns[i]):=by rw[Fcq,Fa5 χ,Far];simp[hlt];rfl
  refine za _ hd (zu (λc2=>?_) (λc2=>?_))
  ·refine ret (h2 i ?_ hall);grind
  ·refine Qd ⟨i+1,?_,⟨θ,rfl,λj hj=>?_⟩,Qax,Tv⟩
   ·grind
   grind
def zik(k:Int):∀(ks:List Int) (i:Nat),ks[i]?=some k->(∀j<i,ks[j]?≠some k)->ks.erase k=ks.take i++ks.drop (i+1)
 |[],i,h,_=>θk
 |x::l,0,h,_=>δ
 |x::l,i+1,h,hl=>by
  have hx:x≠k:=λe=>hl 0 θ (by simp[e]);have ih:=zik k l i θz λj hj=>by simpa using hl (j+1) θ
  rw[List.erase_cons_tail θb,ih];simp
def qq(N:Store)(c:Nat)(room:Int)(cs:List (Int×Int))(ks:List Int):Prop:=
 ∃m v h e bs clk,N.obj c=some (.cells [int room,.s (.map (some m)),v,int h,int e])/\N.obj m=some (.map (cs.map (yv λk=>int k)) bs clk)/\Ints N v ks/\c≠m/\(∀b n cap,v=.s (.slice (some ⟨b,0,none⟩) n cap)->b≠c/\b≠m)
def yr3{cs:List (Int×Int)}{ks:List Int}(hN:qq N c room cs ks)(hk:ks.length<=1000000)(k:Int)(R:Ja)
  (h:∀N',qq N' c room cs (ks.erase k)->R (.tup []) N'):Jb 362 [ptr c,int k] N R:=by
 have⟨m,v,hh,e,bs,clk,h1,h2,h3,h4,h5⟩:=hN;refine Qy 24 Tryz.func362 ?_;refine Qbc (ymt h3 hk k _ (λhn=>?_) (λi hi hl=>?_))
 ·refine ret (h N ?_);rw[List.erase_of_not_mem hn];exact⟨m,v,hh,e,bs,clk,h1,h2,h3,h4,h5⟩
 ·have hlt:i<ks.length:=(Fax.1 hi).1;have he:ks.erase k=ks.take i++ks.drop (i+1):=zik k ks i hi hl;rcases h3 with⟨rfl,rfl⟩|⟨b,cap,L,rfl,hb,hc1,hc2,hc3⟩
  ·simp at hlt
  have⟨hbc,hbm⟩:=h5 b _ _ rfl;refine Qbc ?_;refine Qd ?_;have e1:((i:Int)+1)=((i+1:Nat):Int):=θ;rw[e1];refine zi1 hb hc1 hc3 θ θ _ (za (o:=(N.sO b _).obj c) _ ((zf hbc.symm).trans h1) ⟨φ,ret (h _ ?_)⟩);rw[he];refine⟨m,_,hh,e,bs,clk,zd _ _ _,?_,.inr ⟨b,cap,List.replicate (i+1-i) (aI 0)++L,rfl,?_,?_,?_,hc3⟩,h4,λb' n' c' hv=>?_⟩
  ·simp_all[zf,Ne.symm]
  ·rw[zf hbc];exact zd _ _ _
  ·simp;omega
  ·simp;omega
  grind
def zi3{cs:List (Int×Int)}{ks:List Int}(hN:qq N c room cs ks)(hk:ks.length<=1000000)(k:Int)(R:Ja)
  (h:∀N',qq N' c room cs (k::ks.erase k)->R (.tup []) N'):Jb 355 [ptr c,int k] N R:=by
 refine Qa (c:=cfg 17 [13,1000013] []) zb Tryz.func355 ?_;refine yr3 hN hk k _ λN1 hN1=>?_;have⟨m,v,hh,e,bs,clk,h1,h2,h3,h4,h5⟩:=hN1;have hke:(ks.erase k).length<=ks.length:=δ;refine Qbc ?_;refine⟨ψ,λvb hvb=>?_⟩;have hvc:c≠vb:=λe=>by have:=hvb.1;grind
 have hvm:m≠vb:=λe=>by have:=hvb.1;grind
 refine rq (h3.fresh _ hvb) k 0 (Fae _) (zd _ _ _) (λb cap hv he=>?_) θ _ (λb cap L q1 q2 q3 q4=>?_)
 ·rcases h3 with⟨rfl,_⟩|⟨b',cap',L',rfl,hb',_⟩
  ·cases hv
  ·simp only[AV.s.injEq,Value.slice.injEq,Fam,Addr.mk.injEq]at hv;have:=hvb.1;grind
 have hbc:b≠c/\b≠m:=by
  rcases q1 with q1|⟨c0,q1⟩
  ·refine⟨λe=>?_,λe=>?_⟩
   ·have:=q1.1;grind[zf]
   ·have:=q1.1;grind[zf]
  ·exact h5 _ _ _ q1
 refine za (o:=Store.obj (Store.sO _ b _) c) _ ((zf hbc.1.symm).trans ((zf hvc).trans h1)) ⟨φ,ret (h _ ⟨m,_,hh,e,bs,clk,zd _ _ _,?_,.inr ⟨b,cap,L,rfl,?_,q2,q3,q4⟩,h4,λb' n' c' hv=>?_⟩)⟩
 ·simp_all[zf,Ne.symm]
 ·rw[zf hbc.1];exact zd _ _ _
 grind
def rp{ks:List Int}(h:Ints N v ks)(hne:∀b n cap,v=.s (.slice (some ⟨b,0,none⟩) n cap)->b≠c)(x:AObj):Ints (N.sO c x) v ks:=by
 rcases h with⟨rfl,rfl⟩|⟨b,cap,L,rfl,hb,h1,h2,h3⟩
 ·exact .inl ⟨rfl,rfl⟩
 ·exact .inr ⟨b,cap,L,rfl,by rw[zf (hne b _ _ rfl)];exact hb,h1,h2,h3⟩
theorem ylj{α:Type}(f:α->AV)(cs:List (Int×α))(k:Int)(z:AV):Gt true z ((cs.map (yv f)).find? (qA k))=match yx cs k with
  |some v=>.tup [f v,V.bool true]
  |none=>.tup [z,V.bool false]:=by
 rw[sy];unfold yx;cases cs.find? λe=>k==e.1 with
 |none=>rfl
 |some e=>rfl
def ys0{cs:List (Int×Int)}{ks:List Int}(hN:qq N c room cs ks)(hk:ks.length<=1000000)(k:Int)(R:Ja)
  (h0:yx cs k=none->∀N',qq N' c room cs ks->R (.tup [int 0,V.bool false]) N')
  (h1:∀v,yx cs k=some v->∀N',qq N' c room cs (k::ks.erase k)->R (.tup [int v,V.bool true]) N'):Jb 349 [ptr c,int k] N R:=by
 have⟨m,v,hh,e,bs,clk,g1,g2,g3,g4,g5⟩:=hN;refine Qy 31 Tryz.func349 ?_;refine Qbc (Ar rfl (it:=ti205) (ie:=ti2) (ik:=ti2) rfl rfl rfl rfl g2 rfl (qA k) (λe he=>?_) ?_)
 ·obtain⟨e,_,rfl⟩:=Fag.1 he;rfl
 rw[ylj];cases hg:yx cs k with
 |none=>
  refine rv c 4 _ e 1 _ _ g1 rfl λn=>ret (h0 hg _ ⟨m,v,hh,n,bs,clk,zd _ _ _,?_,rp g3 (λb n cap hv=>(g5 b n cap hv).1) _,g4,g5⟩);rw[zf (Ne.symm g4)];exact g2
 |some v'=>
  refine rv c 3 _ hh 1 _ _ g1 rfl λn=>zi3 (cs:=cs) (room:=room) (ks:=ks) ⟨m,v,n,e,bs,clk,zd _ _ _,?_,rp g3 (λb n cap hv=>(g5 b n cap hv).1) _,g4,g5⟩ hk k _ λN' hN'=>?_
  ·rw[zf (Ne.symm g4)];exact g2
  exact ret (h1 v' hg N' hN')
def ys4{cs:List (Int×Int)}{ks:List Int}(hN:qq N c room cs ks)(R:Ja)
  (h:∀N',qq N' c room [] []->R (.tup []) N'):Jb 127 [ptr c] N R:=by
 have⟨m,v,hh,e,bs,clk,g1,g2,g3,g4,g5⟩:=hN;refine Qy 9 Tryz.func127 ?_;refine Qbc (yuz rfl rfl rfl rfl (it:=ti205) rfl rfl g2 (za (o:=(N.sO m _).obj c) _ ((zf g4).trans g1) ?_));refine⟨φ,ret (h _ ⟨m,.s (.slice none 0 0),hh,e,[],clk,zd _ _ _,?_,.inl ⟨rfl,rfl⟩,g4,λb n cap hv=>by cases hv⟩)⟩;rw[zf (Ne.symm g4)];exact zd _ _ _
def yse(n:Int)(hn:1<=n)(hn2:n<=4096)(st:Store)(R:Ja)(h:∀N' c,qq N' c n [] []->R (.tup [ptr c,int 0]) N'):
  Jb 97 [int n] st R:=by
 refine Qa (c:=cfg 14 [11,13] []) zb Tryz.func97 ?_;refine bcd (λc1=>absurd c1 θ) (λc1=>bcd (λc2=>absurd c2 θ) (λc2=>?_));refine I0 rfl (λm hm=>?_);intro c hc;have hne:c≠m:=λe=>by have:=hc.1;grind[zd]
 refine ret (h _ c ⟨m,.s (.slice none 0 0),0,0,[],0,zd _ _ _,?_,.inl ⟨rfl,rfl⟩,hne,λb n cap hv=>by cases hv⟩);rw[zf (Ne.symm hne)];exact zd _ _ _
def yle{α:Type}(f:α->AV)(cs:List (Int×α))(bs:List Nat)(clk:Nat)(k:Int):∃bs',Ga (cs.map (yv f)) bs clk (qA k)=.map ((cs.eraseP λe=>k==e.1).map (yv f)) bs' clk:=by
 have hq:(cs.map (yv f)).findIdx? (qA k)=cs.findIdx? λe=>k==e.1:=by rw[List.findIdx?_map];rfl
 unfold Ga;rw[hq,List.eraseP_eq_eraseIdx];cases cs.findIdx? λe=>k==e.1 with
 |none=>exact⟨_,rfl⟩
 |some i=>simp_all[List.eraseIdx_eq_take_drop_succ]
def yr0{cs:List (Int×Int)}{ks:List Int}(hN:qq N c room cs ks)(hk:ks.length<=100000)(k x:Int)(R:Ja)
  (h1:((k::ks.erase k).length:Int)<=room->∀N',qq N' c room (yr cs k x) (k::ks.erase k)->R (.tup []) N')
  (h2:room<((k::ks.erase k).length:Int)->∀N',qq N' c room ((yr cs k x).eraseP λe=>(k::ks.erase k).getLastD 0==e.1) (k::ks.erase k).dropLast->R (.tup []) N'):
  Jb 350 [ptr c,int k,int x] N R:=by
 have⟨m,v,hh,e,bs,clk,g1,g2,g3,g4,g5⟩:=hN;refine Qy 49 Tryz.func350 ?_;refine Qbc (Gi (.inl rfl) rfl (it:=ti205) (ik:=ti2) rfl rfl rfl g2 rfl rfl (qA k) (λe he=>?_) (λe1 he hq=>?_) ?_)
 ·obtain⟨e,_,rfl⟩:=Fag.1 he;rfl
 ·obtain⟨e,_,rfl⟩:=Fag.1 he;grind[qA,yv,int]
 have⟨bs',clk',hput⟩:=Mc (λk=>int k) cs bs clk k x;rw[hput];refine zi3 (cs:=yr cs k x) (room:=room) (ks:=ks) ⟨m,v,hh,e,bs',clk',(zf g4).trans g1,zd _ _ _,rp g3 (λb n cap hv=>(g5 b n cap hv).2) _,g4,g5⟩ θ k _ λN1 hN1=>?_;have hN2:=hN1;have hke:(ks.erase k).length<=ks.length:=δ;generalize hQ:k::ks.erase k=Q at*;have hQl:Q.length<=100001:=δ;have⟨m,v,hh,e,bs,clk,f1,f2,f3,f4,f5⟩:=hN1;rcases f3 with⟨rfl,rfl⟩|⟨b,cap,L,rfl,hb,hc1,hc2,hc3⟩
 ·cases hQ
 refine Qbc ?_;refine Qbc (bcd (λc1=>?_) (λc1=>?_))
 ·refine Qc zb ycj ?_;refine Qbc ?_;refine Qbc ?_;refine Qd ?_;have hQ0:0<Q.length:=by
   rw[<-hQ];simp
  have hlt:Q.length-1<Q.length:=θ;refine⟨Q.length-1,θ,hlt,Qbc ?_⟩;have hd:((Q.map aI++L).drop (0+(Q.length-1)*1)).head?=some (int (Q.getLastD 0)):=by rw[Fcq,Fa5 χ,Far,Fa9,Feu];rw[Fab hlt,Feq,Fer,Fab hlt];rfl
  refine za _ hd ⟨gn rfl rfl rfl rfl (it:=ti205) (ik:=ti2) rfl rfl rfl f2 rfl (qA (Q.getLastD 0)) (λe he=>?_) ⟨?_,?_⟩,Tv⟩
  ·obtain⟨e,_,rfl⟩:=Fag.1 he;rfl
  ·trivial
  have⟨bs2,hdel⟩:=yle (λk=>int k) (yr cs k x) bs clk (Q.getLastD 0);rw[hdel];have f1':=(zf (st:=N1) (x:=.map (((yr cs k x).eraseP λe=>Q.getLastD 0==e.1).map (yv λk=>int k)) bs2 clk) f4).trans f1;refine za (o:=Store.obj (Store.sO _ m _) c) _ f1' (Qd ⟨0,Q.length-1,rfl,δ,θ,θ,.inl ⟨θ,za (o:=Store.obj (Store.sO _ m _) c) _ f1' ⟨φ,ret (h2 θ _ ⟨m,.s (.slice (some ⟨b,0,none⟩) Q.dropLast.length cap),hh,e,bs2,clk,?_,?_,.inr ⟨b,cap,[int (Q.getLastD 0)]++L,rfl,?_,χ,χ,hc3⟩,f4,λb' n' c' hv=>?_⟩)⟩⟩⟩)
  ·grind[zd]
  ·rw[zf (Ne.symm f4)];exact zd _ _ _
  ·rw[zf (f5 b _ _ rfl).1,zf (f5 b _ _ rfl).2,hb];have hne:Q≠[]:=λe=>by grind
   have hl:Q.getLastD 0=Q.getLast hne:=δ;have hq:Q=Q.dropLast++[Q.getLastD 0]:=by rw[hl,Feg hne]
   conv=>lhs;rw[hq]
   simp;rfl
  grind
 ·exact ret (h1 θ _ hN2)
end
def zho(g:Gnd)(hg:g.T.length<=1000000000)(st:Store)(R:Ja)(h:R (.agg (zw g)) st):Jb 61 [.agg (zw g)] st R:=by
 refine Dn (Q:=λr=>r=.agg (zw g)) ((r9 g hg Store.empty (λr S=>∃v,RowsQ 1 u8C S v g.T/\r=.agg [int g.W,int g.H,v]) (λv N hv hd=>⟨v,θ2,rfl⟩)).frozen ?_) st R λr hr=>hr▸h;rintro r S ⟨v,hv,rfl⟩;refine⟨_,rfl,λOth M W x sto hx=>?_⟩;cases hx with
 |agg _ c hl hc=>
  refine .agg _ c hl λi y z hy hz=>?_
  match i with
  |0=>simp only[zw,Fat,Fam]at hy;subst hy;exact qv (hc 0 _ z rfl hz)
  |1=>simp only[zw,Fay,Fat,Fam]at hy;subst hy;exact qv (hc 1 _ z rfl hz)
  |2=>simp only[zw,Fay,Fat,Fam]at hy;subst hy;exact hv.borrow Vv iz sto (hc 2 _ z rfl hz)
  |i+3=>simp[zw]at hy
def zjp(l:List Bld)(hl:l.length<=1000000000)(st:Store)(R:Ja)(h:R (lst 6 zl l) st):Jb 99 [lst 6 zl l] st R:=by refine Dn (Q:=λr=>r=lst 6 zl l) ((fw l hl Store.empty (λr S=>RowsQ 6 zl S r l) (λv N hv hd=>θ2)).frozen ?_) st R λr hr=>hr▸h;rintro r S hv;exact⟨_,rfl,λOth M W x sto hx=>hv.borrow ve Va sto hx⟩
def yqb(a b:List Bld)(ha:a.length<=1000000000000)(st:Store)(R:Ja)(h:∀z:Bool,(z=true->a=b)->R (V.bool z) st):Jb 268 [lst 6 zl a,lst 6 zl b] st R:=by
 refine Qy 26 Tryz.func268 ?_;refine zk (λh1=>?_) (λh1=>?_)
 ·exact ret (h false (λe=>by cases e))
 ·have hl:a.length=b.length:=Mp h1;refine AWp.loop (σ:=Nat) ⟨λi=>[(0,.av (lst 6 zl a)),(1,.av (lst 6 zl b)),(12,.av (int ((rws zl a).length:Nat))),(13,.av (int (i:Nat)))],λ_=>[],λi st'=>i<=a.length/\a.take i=b.take i/\st'=st,λi=>a.length-i⟩ zb ?_ ?_
  ·exact⟨0,Tv,⟨Fae _,rfl,rfl⟩,Qax,Tv⟩
  ·rintro i st' ⟨hi,heq,rfl⟩;refine zk (λh2=>?_) (λh2=>?_)
   ·have hlt:i<a.length:=k9 h2;have hltb:i<b.length:=θ;refine Qc zb yc7 ⟨i,rfl,za _ (zp hlt) ⟨i,rfl,za _ (zp hltb) (zk (λh3=>?_) (λh3=>?_))⟩⟩
    ·exact ret (h false (λe=>by cases e))
    ·refine Qd ⟨i+1,?_,⟨hlt,?_,rfl⟩,Qax,Tv⟩
     ·show a.length-(i+1)<a.length-i;omega
     ·rw[Fad hlt,Fad hltb,heq];have:a[i]=b[i]:=by cases hx:a[i];cases hy:b[i];rw[hx,hy]at h3;simp at h3;simp[h3]
      rw[this]
   ·have hge:i=a.length:=Fg h2 hi;subst hge;refine ret (h true (λ_=>?_));rw[Faj,hl,Faj]at heq;exact heq
def yqa(a b:List UInt8)(ha:a.length<=1000000000000)(st:Store)(R:Ja)(h:∀z:Bool,(z=true->a=b)->R (V.bool z) st):Jb 269 [lst 1 u8C a,lst 1 u8C b] st R:=by
 refine Qy 26 Tryz.func269 ?_;refine zk (λh1=>?_) (λh1=>?_)
 ·exact ret (h false (λe=>by cases e))
 ·have hl:a.length=b.length:=Mp h1;refine AWp.loop (σ:=Nat) ⟨λi=>[(0,.av (lst 1 u8C a)),(1,.av (lst 1 u8C b)),(12,.av (int ((rws u8C a).length:Nat))),(13,.av (int (i:Nat)))],λ_=>[],λi st'=>i<=a.length/\a.take i=b.take i/\st'=st,λi=>a.length-i⟩ zb ?_ ?_
  ·exact⟨0,Tv,⟨Fae _,rfl,rfl⟩,Qax,Tv⟩
  ·rintro i st' ⟨hi,heq,rfl⟩;refine zk (λh2=>?_) (λh2=>?_)
   ·have hlt:i<a.length:=k9 h2;have hltb:i<b.length:=θ;refine Qc zb yc6 ⟨i,rfl,za _ (zp hlt) ⟨i,rfl,za _ (zp hltb) (zk (λh3=>?_) (λh3=>?_))⟩⟩
    ·exact ret (h false (λe=>by cases e))
    ·refine Qd ⟨i+1,?_,⟨hlt,?_,rfl⟩,Qax,Tv⟩
     ·show a.length-(i+1)<a.length-i;omega
     ·rw[Fad hlt,Fad hltb,heq];have:a[i]=b[i]:=UInt8.toNat_inj.1 (by have:=h3;simp at this;omega);rw[this]
   ·have hge:i=a.length:=Fg h2 hi;subst hge;refine ret (h true (λ_=>?_));rw[Faj,hl,Faj]at heq;exact heq
def ysm{N:Store}{v:AV}{ks:List Int}(hv:Ints N v ks)(hk:ks.length<=1000000)(R:Ja)
  (h0:ks=[]->∀a,Ia a->R (.s (.slice a 0 0)) N)
  (h1:∀b cap L,Fresh N b->ks.length<=cap->cap<=ks.length+L.length->cap<=9223372036854775807->R (.s (.slice (some ⟨b,0,none⟩) ks.length cap)) (N.sO b (.cells (ks.map aI++L)))):
  Jb 165 [v] N R:=by
 rcases hv with⟨rfl,rfl⟩|⟨b,cap,L,rfl,hb,hc1,hc2,hc3⟩
 ·refine Qy 8 Tryz.func165 ?_;exact ret (h0 rfl none (λ_ h=>ω))
 ·refine Qy 8 Tryz.func165 ?_;have hb':N.obj b=some (.cells (ks.map aI++L)):=hb;have htk:((ks.map aI++L).drop 0).take (ks.length*1)=ks.map aI:=φ;have hsrc:=SrcOK.obj (P:=Tryz.prog) (k:=1) (m:=ks.length) (o:=0) (cp:=cap) hb' φ (by
   rw[htk];intro y hy;obtain⟨z,_,rfl⟩:=Fag.1 hy;rfl)
  rw[htk]at hsrc;refine⟨ψ,⟨.inr ⟨_,_,rfl,rfl,yt2 (ie:=ti2) rfl hsrc ⟨by show ks.length*8<=_;omega,θ⟩ (λhm a ha=>?_) (λhm b' cap' hf h2 h3=>?_)⟩⟩⟩
  ·exact ret (h0 (Fa0 hm) a ha)
  ·exact ret (h1 b' cap' _ hf h2 (by rw[Faz];show cap'<=ks.length+(cap'-ks.length)*1;omega) h3)
def Mj(n:Int):(zn n).length=1:=rfl
def Sb(n:Int):∀y∈zn n,∃x,y=AV.s x/\xe x=true:=by intro y hy;simp[zn]at hy;exact⟨_,hy,rfl⟩
theorem yla(ks:List Int):(rws zn ks).flatten=ks.map aI:=by
 induction ks with
 |nil=>rfl
 |cons k l ih=>
  show zn k++(rws zn l).flatten=aI k::l.map aI;rw[ih];rfl
def ylz{N:Store}{c:Nat}{room:Int}{cs:List (Int×Int)}{ks:List Int}(hN:qq N c room cs ks)(hk:ks.length<=1000000)(R:Ja)
  (h:∀N',qq N' c room cs ks->R (yc ks) N'):Jb 356 [ptr c] N R:=by
 have key:Jb 356 [ptr c] N λr S=>(ks=[]/\(∃a,Ia a/\r=.s (.slice a 0 0))/\S=N)\/∃b cap L,Fresh N b/\ks.length<=cap/\cap<=ks.length+L.length/\cap<=9223372036854775807/\r=.s (.slice (some ⟨b,0,none⟩) ks.length cap)/\S=N.sO b (.cells (ks.map aI++L)):=by
  have⟨m,v,hh,e,bs,clk,h1,h2,h3,h4,h5⟩:=hN;refine Qy 8 Tryz.func356 ?_;refine Qbc (ysm h3 hk _ (λe a ha=>?_) (λb cap L hf h1 h2 h3=>?_))
  ·exact ret (.inl ⟨e,⟨a,ha,rfl⟩,rfl⟩)
  ·exact ret (.inr ⟨b,cap,L,hf,h1,h2,h3,rfl,rfl⟩)
 have hN':qq N.objs c room cs ks:=by have⟨m,v,hh,e,bs,clk,h1,h2,h3,h4,h5⟩:=hN;exact⟨m,v,hh,e,bs,clk,h1,h2,h3,h4,h5⟩
 refine key.frozenTo ?_;rintro r S (⟨e,⟨a,ha,hr⟩,hS⟩|⟨b,cap,L,hf,h1,h2,h3,hr,hS⟩)<;>subst hr hS
 ·subst e;refine⟨_,_,h _ hN',λb x hx=>hx,λb x hx=>γ,λOth M W v sto hx=>?_⟩;have hq:RowsQ 1 zn Store.empty (.s (.slice a 0 0)) []:=.inr ⟨a,ha,rfl,rfl⟩;have sE:StoreOK Store.empty Oth M W:=sto.weaken ⟨λi y hy=>(by cases hy),λi y hy=>(by cases hy)⟩;refine(hq.borrow Mj Sb sE hx).mono λi o hT=>⟨hT.1,?_⟩
  rfl
 ·refine⟨_,_,h _ hN',λi x hx=>?_,λb x hx=>γ,λOth M W v sto hx=>?_⟩
  ·have:i≠b:=λe=>by
    rw[e]at hx;exact absurd (hx.symm.trans hf.1) φ
   rw[zf this];exact hx
  ·have hq:RowsQ 1 zn (Store.empty.sO b (.cells (ks.map aI++L))) (.s (.slice (some ⟨b,0,none⟩) ks.length cap)) ks:=.inl (.inr ⟨b,cap,L,rfl,by rw[yla];exact zd _ _ _,h1,θ,h3⟩);have sE:StoreOK (Store.empty.sO b (.cells (ks.map aI++L))) Oth M W:=by
    refine sto.weaken ⟨λi y hy=>?_,λi y hy=>by cases hy⟩;by_cases hi:i=b
    ·subst hi;rw[zd]at hy⊢;exact hy
    ·have hy2:(Store.empty.sO b (AObj.cells (ks.map aI++L))).obj i=none:=(zf hi).trans rfl;rw[hy2]at hy;cases hy
   refine(hq.borrow Mj Sb sE hx).mono λi o hT=>⟨hT.1,?_⟩
   by_cases hi:i=b
   ·subst hi;rcases hT.2 with e|e
    ·rw[zd]at e;cases e
    ·exact absurd hf.1 e
   ·exact(zf hi).trans rfl
section
variable {a N N' Nc Nr S:Store} {key room k:Int} {fb:Nat} {a1 x0 x1 x2 x3 y0 y1 a9 a0:AV}
def Qae{p:Prop}(h:p:=by trivial):p:=h
def Qaf{p:Prop}(h:p:=by rw[zy,yw];rfl):p:=h
abbrev mapA(m:Nat):AV:=.s (.map (some m))
def keepsB(ex:List Nat)(N N':Store):Prop:=∀i y,i∉ex->N.obj i=some y->N'.obj i=some y
def keepsB.refl(ex:List Nat)(N:Store):keepsB ex N N:=λ_ _ _ h=>h
theorem keepsB.trans{ex:List Nat}{b c:Store}(h:keepsB ex a b)(h':keepsB ex b c):keepsB ex a c:=λi y hi hy=>h' i y hi (h i y hi hy)
theorem keepsB.set{ex:List Nat}{b:Store}(h:keepsB ex a b){p:Nat}{x:AObj}(hp:p∈ex\/a.obj p=none):keepsB ex a (b.sO p x):=λi y hi hy=>by have:i≠p:=λe=>δ;rw[zf this];exact h i y hi hy
def Ae(c s:Int)(goal:Nat):Int:=(4*c+s)*128*128+goal
noncomputable abbrev wayL(g:Gnd)(l:List Bld)(c s:Int)(goal:Nat):List AV:=il g.T.length (jz g (yd g l c s) c (Ak g (yd g l c s) c goal))
def H2(c:Int):Prop:=c=0\/c=1\/c=2
def NetOK(g:Gnd)(l:List Bld)(ex:List Nat)(N:Store)(key:Int)(b:Nat):Prop:=
 b∉ex/\∃s d c s',N.obj b=some (.cells [u32A 1,i32A 0,s,ptr d])/\d∉ex/\H2 c/\(0<=s'/\s'<=3)/\key=4*c+s'/\N.obj d=some (.cells (jf g l c s'))
def WayOK(g:Gnd)(l:List Bld)(ex:List Nat)(N:Store)(key:Int)(b:Nat):Prop:=
 b∉ex/\∃s d c s' goal,N.obj b=some (.cells [u32A 1,i32A 0,s,.s (.slice (some ⟨d,0,none⟩) g.T.length g.T.length)])/\d∉ex/\H2 c/\(0<=s'/\s'<=3)/\goal<g.T.length/\key=Ae c s' goal/\N.obj d=some (.cells (wayL g l c s' goal))
theorem NetOK.keep{g:Gnd}{l:List Bld}{ex ex':List Nat}{b:Nat}(h:NetOK g l ex N key b)(hk:keepsB ex N N')(he:∀i,i∈ex'->i∈ex\/N.obj i=none):NetOK g l ex' N' key b:=by have⟨h1,s,d,c,s',h2,h3,h4,h5,h6,h7⟩:=h;exact⟨λhb=>(he b hb).elim h1 λq=>(by rw[h2]at q;cases q),s,d,c,s',hk b _ h1 h2,λhb=>(he d hb).elim h3 λq=>(by rw[h7]at q;cases q),h4,h5,h6,hk d _ h3 h7⟩
theorem WayOK.keep{g:Gnd}{l:List Bld}{ex ex':List Nat}{b:Nat}(h:WayOK g l ex N key b)(hk:keepsB ex N N')(he:∀i,i∈ex'->i∈ex\/N.obj i=none):WayOK g l ex' N' key b:=by have⟨h1,s,d,c,s',goal,h2,h3,h4,h5,h6,h7,h8⟩:=h;exact⟨λhb=>(he b hb).elim h1 λq=>(by rw[h2]at q;cases q),s,d,c,s',goal,hk b _ h1 h2,λhb=>(he d hb).elim h3 λq=>(by rw[h8]at q;cases q),h4,h5,h6,h7,hk d _ h3 h8⟩
structure FldB(fb:Nat)(room:Int)(g:Gnd)(l:List Bld)(k:Int)(Nc Nr:Store)(c nm wm:Nat)(cs:List (Int×Int))(ks:List Int)(ns ws:List (Int×Nat))(made cnt:Int):Prop where
 dj:zj Nc Nr
 hC:qq Nc c room cs ks
 hf:Nr.obj fb=some (.cells [ptr c,int made,V.bool true,int g.W,int g.H,qa g.T,lst 6 zl l,mapA nm,mapA wm,int cnt])
 hn:∃bs clk,Nr.obj nm=some (.map (ns.map (yv λb=>ptr b)) bs clk)
 hw:∃bs clk,Nr.obj wm=some (.map (ws.map (yv λb=>ptr b)) bs clk)
 d1:fb≠nm
 d2:fb≠wm
 d3:nm≠wm
 r:1<=room/\room<=4096
 n0:0<=cnt/\cnt<=k
 sz:g.T.length<=1000000/\l.length<=1000000
structure FldI(fb:Nat)(room:Int)(g:Gnd)(l:List Bld)(k:Int)(Nc Nr:Store)(c nm wm:Nat)(cs:List (Int×Int))(ks:List Int)(ns ws:List (Int×Nat))(made cnt:Int):Prop where
 b:FldB fb room g l k Nc Nr c nm wm cs ks ns ws made cnt
 nets:∀key b,yx ns key=some b->NetOK g l [fb,nm,wm] Nr key b
 ways:CI (WayOK g l [fb,nm,wm] Nr) room cs ks ws cnt
def FldAny(fb:Nat)(room k:Int)(N:Store):Prop:=
 (∃g l Nc Nr c nm wm cs ks ns ws made cnt,N=Nc.un Nr/\FldI fb room g l k Nc Nr c nm wm cs ks ns ws made cnt)∨
 (∃Nc Nr c cs ks made cnt x0 x1 x2 x3 y0 y1,N=Nc.un Nr/\zj Nc Nr/\qq Nc c room cs ks/\(1<=room/\room<=4096)/\(0<=cnt/\cnt<=k)/\Nr.obj fb=some (.cells [ptr c,int made,V.bool false,x0,x1,x2,x3,y0,y1,int cnt]))
def ysu{c:Nat}{cs:List (Int×Int)}{ks:List Int}(hd:zj Nc Nr)(hC:qq Nc c room cs ks)(R:Ja)(h:∀N',zj N' Nr->qq N' c room [] []->R (.tup []) (N'.un Nr)):Jb 127 [ptr c] (Nc.un Nr) R:=by refine ACalls.frame hd (ys4 hC (λr S=>r=.tup []/\qq S c room [] []) (λN' h=>⟨rfl,h⟩)) ?_;grind
def zhw{c:Nat}{cs:List (Int×Int)}{ks:List Int}(hd:zj Nc Nr)(hC:qq Nc c room cs ks)(hk:ks.length<=1000000)(k:Int)(R:Ja)
  (h0:yx cs k=none->∀N',zj N' Nr->qq N' c room cs ks->R (.tup [int 0,V.bool false]) (N'.un Nr))
  (h1:∀v,yx cs k=some v->∀N',zj N' Nr->qq N' c room cs (k::ks.erase k)->R (.tup [int v,V.bool true]) (N'.un Nr)):Jb 349 [ptr c,int k] (Nc.un Nr) R:=by
 refine ACalls.frame hd (ys0 hC hk k (λr S=>(yx cs k=none/\r=.tup [int 0,V.bool false]/\qq S c room cs ks)\/∃v,yx cs k=some v/\r=.tup [int v,V.bool true]/\qq S c room cs (k::ks.erase k)) (λe N' h=>.inl ⟨e,rfl,h⟩) (λv e N' h=>.inr ⟨v,e,rfl,h⟩)) ?_;grind
def yh8{c:Nat}{cs:List (Int×Int)}{ks:List Int}(hd:zj Nc Nr)(hC:qq Nc c room cs ks)(hk:ks.length<=100000)(k x:Int)(R:Ja)
  (h1:((k::ks.erase k).length:Int)<=room->∀N',zj N' Nr->qq N' c room (yr cs k x) (k::ks.erase k)->R (.tup []) (N'.un Nr))
  (h2:room<((k::ks.erase k).length:Int)->∀N',zj N' Nr->qq N' c room ((yr cs k x).eraseP λe=>(k::ks.erase k).getLastD 0==e.1) (k::ks.erase k).dropLast->R (.tup []) (N'.un Nr)):Jb 350 [ptr c,int k,int x] (Nc.un Nr) R:=by
 refine ACalls.frame hd (yr0 hC hk k x (λr S=>r=.tup []/\((((k::ks.erase k).length:Int)<=room/\qq S c room (yr cs k x) (k::ks.erase k))\/(room<((k::ks.erase k).length:Int)/\qq S c room ((yr cs k x).eraseP λe=>(k::ks.erase k).getLastD 0==e.1) (k::ks.erase k).dropLast))) (λe N' h=>⟨rfl,.inl ⟨e,h⟩⟩) (λe N' h=>⟨rfl,.inr ⟨e,h⟩⟩)) ?_;grind
def yl0{c:Nat}{cs:List (Int×Int)}{ks:List Int}(hd:zj Nc Nr)(hC:qq Nc c room cs ks)(hk:ks.length<=1000000)(R:Ja)
  (h:∀N',zj N' Nr->qq N' c room cs ks->R (yc ks) (N'.un Nr)):Jb 356 [ptr c] (Nc.un Nr) R:=by
 refine ACalls.frame hd (ylz hC hk (λr S=>r=yc ks/\qq S c room cs ks) (λN' h=>⟨rfl,h⟩)) ?_;grind
def fresh_un{g:Store}{b:Nat}(h:Fresh (a.un g) b):Fresh a b/\Fresh g b:=by grind[fresh_iff,un_has]
def disj_setR{g:Store}(hd:zj a g){b:Nat}{x:AObj}(h:¬a.has b):zj a (g.sO b x):=λi h1 h2=>by
 rcases has_setObj_iff.1 h2 with e|h2
 ·exact h (e▸h1)
 ·exact hd i h1 h2
theorem C8{g:Store}(hd:zj a g){b:Nat}{x:AObj}(h:g.obj b=some x):¬a.has b:=λhh=>hd b hh (j6 h)
def sn{c:Nat}{cs:List (Int×Int)}{ks:List Int}(hd:zj Nc Nr)(hC:qq Nc c room cs ks){a2:AV}(hf:Nr.obj fb=some (.cells [ptr c,a1,a2,x0,x1,x2,x3,y0,y1,a9]))(R:Ja)
  (h:∀Nc' Nr' nm wm b1 k1 b2 k2,zj Nc' Nr'->qq Nc' c room [] []->Nr'.obj fb=some (.cells [ptr c,a1,V.bool false,x0,x1,x2,x3,mapA nm,mapA wm,a9])->Nr'.obj nm=some (.map [] b1 k1)->Nr'.obj wm=some (.map [] b2 k2)->fb≠nm->fb≠wm->nm≠wm->R (.tup []) (Nc'.un Nr')):
  Jb 98 [ptr fb] (Nc.un Nr) R:=by
 refine Qy 18 Tryz.func98 ?_;refine za (o:=(Nc.un Nr).obj fb) _ (zg hf) (ysu hd hC _ (λNc1 hd1 hC1=>I0 rfl (λnm hnm=>I0 rfl (λwm hwm=>?_))));have f1:=fresh_un hnm;rw[zy]at hwm⊢;have f2:=fresh_un hwm;rw[zy];have hfn:fb≠nm:=λe=>θ3;have hwn:wm≠nm:=λe=>by have:=f2.2.1;rw[e,zd]at this;cases this
 have hfw:fb≠wm:=λe=>by have:=f2.2.1;grind[zf]
 have hb:((Nr.sO nm (.map [] [] 0)).sO wm (.map [] [] 0)).obj fb=some (.cells [ptr c,a1,a2,x0,x1,x2,x3,y0,y1,a9]):=(zf hfw).trans ((zf hfn).trans hf);have hm1:((Nr.sO nm (.map [] [] 0)).sO wm (.map [] [] 0)).obj nm=some (.map [] [] 0):=(zf (Ne.symm hwn)).trans (zd _ _ _);have hm2:((Nr.sO nm (.map [] [] 0)).sO wm (.map [] [] 0)).obj wm=some (.map [] [] 0):=zd _ _ _;have hdd:zj Nc1 ((Nr.sO nm (.map [] [] 0)).sO wm (.map [] [] 0)):=disj_setR (disj_setR hd1 (fresh_iff.1 f1.1)) (fresh_iff.1 f2.1);clear f1 f2 hwm hnm;generalize(Nr.sO nm (.map [] [] 0)).sO wm (.map [] [] 0)=N2 at*;have hnc:=C8 hdd hb;exact ye (i:=ti4) (v:=V.bool false) (b:=fb) (o:=2) (l:=[ptr c,a1,a2,x0,x1,x2,x3,y0,y1,a9]) (st2:=Nc1.un (N2.sO fb (.cells [ptr c,a1,V.bool false,x0,x1,x2,x3,y0,y1,a9]))) rfl rfl rfl (zg hb) (show 3<=10 by decide) (zy _ _ _ _) (ye (i:=ti174) (v:=mapA nm) (b:=fb) (o:=7) (l:=[ptr c,a1,V.bool false,x0,x1,x2,x3,y0,y1,a9]) (st2:=Nc1.un (N2.sO fb (.cells [ptr c,a1,V.bool false,x0,x1,x2,x3,mapA nm,y1,a9]))) rfl rfl rfl (zg (zd _ _ _)) (show 8<=10 by decide) Qaf (ye (i:=ti175) (v:=mapA wm) (b:=fb) (o:=8) (l:=[ptr c,a1,V.bool false,x0,x1,x2,x3,mapA nm,y1,a9]) (st2:=Nc1.un (N2.sO fb (.cells [ptr c,a1,V.bool false,x0,x1,x2,x3,mapA nm,mapA wm,a9]))) rfl rfl rfl (zg (zd _ _ _)) (show 9<=10 by decide) Qaf (ret (h Nc1 _ nm wm [] 0 [] 0 (disj_setR hdd hnc) hC1 (zd _ _ _) ((zf (Ne.symm hfn)).trans hm1) ((zf (Ne.symm hfw)).trans hm2) hfn hfw (Ne.symm hwn)))))
def yf1(hf:S.obj fb=some (.cells [a0,a1,V.bool false,x0,x1,x2,x3,y0,y1,a9]))(g:Gnd)(l:List Bld)(R:Ja)(h:R (V.bool false) S):
  Jb 235 [ptr fb,.agg (zw g),lst 6 zl l] S R:=by
 refine Qy 49 Tryz.func235 ?_;refine Qc zb zdj (Qbc ?_);exact⟨⟨Qae,⟨⟨Qae,⟨⟨Qae,ret h⟩,Tv⟩⟩,Tv⟩⟩,Tv⟩
def yf0(g0:Gnd)(l0:List Bld)(hT:g0.T.length<=1000000000000)(hl:l0.length<=1000000000000)(hf:S.obj fb=some (.cells [a0,a1,V.bool true,int g0.W,int g0.H,qa g0.T,lst 6 zl l0,y0,y1,a9]))(g:Gnd)(l:List Bld)(R:Ja)(h:∀z:Bool,(z=true->g0=g/\l0=l)->R (V.bool z) S):
  Jb 235 [ptr fb,.agg (zw g),lst 6 zl l] S R:=by
 refine Qy 49 Tryz.func235 ?_;refine Qc zb zdj ?_;refine Qbc (Qbc (zu (λc1=>?_) (λc1=>?_)));rotate_left
 ·exact⟨⟨Qae,⟨⟨Qae,⟨⟨Qae,ret (h false (λe=>by cases e))⟩,Tv⟩⟩,Tv⟩⟩,Tv⟩
 refine Qbc (zu (λc2=>?_) (λc2=>?_));rotate_left
 ·exact⟨⟨Qae,⟨⟨Qae,⟨⟨Qae,ret (h false (λe=>by cases e))⟩,Tv⟩⟩,Tv⟩⟩,Tv⟩
 refine Qbc ?_;refine⟨yqb l0 l hl _ _ (λz hz=>⟨Qae,?_⟩),Tv⟩;cases z with
 |false=>
  exact⟨⟨Qae,⟨⟨Qae,ret (h false (λe=>by cases e))⟩,Tv⟩⟩,Tv⟩
 |true=>
  refine Qbc ?_;refine⟨yqa g0.T g.T hT _ _ (λz2 hz2=>⟨Qae,⟨⟨Qae,ret (h z2 (λe=>⟨?_,hz rfl⟩))⟩,Tv⟩⟩),Tv⟩;have h3:=hz2 e;have c1:g0.W=g.W:=c1;have c2:g0.H=g.H:=c2;cases g0;simp_all
def FldAny.mono{k':Int}(h:FldAny fb room k N)(hk:k<=k'):FldAny fb room k' N:=by
 rcases h with⟨g,l,Nc,Nr,c,nm,wm,cs,ks,ns,ws,made,cnt,e,h⟩|⟨Nc,Nr,c,cs,ks,made,cnt,x0,x1,x2,x3,y0,y1,e,h1,h2,h3,h4,h5⟩
 ·exact .inl ⟨g,l,Nc,Nr,c,nm,wm,cs,ks,ns,ws,made,cnt,e,⟨⟨h.b.dj,h.b.hC,h.b.hf,h.b.hn,h.b.hw,h.b.d1,h.b.d2,h.b.d3,h.b.r,⟨h.b.n0.1,by have:=h.b.n0;omega⟩,h.b.sz⟩,h.nets,h.ways⟩⟩
 ·exact .inr ⟨Nc,Nr,c,cs,ks,made,cnt,x0,x1,x2,x3,y0,y1,e,h1,h2,h3,⟨h4.1,θ⟩,h5⟩
def yjc(hF:FldAny fb room k N)(g:Gnd)(hT:g.T.length<=1000000)(l:List Bld)(hl:l.length<=1000000)(R:Ja)
  (h:∀Nc Nr c nm wm cs ks ns ws made cnt,FldI fb room g l k Nc Nr c nm wm cs ks ns ws made cnt->R (.tup []) (Nc.un Nr)):Jb 206 [ptr fb,.agg (zw g),lst 6 zl l] N R:=by
 rcases hF with⟨g0,l0,Nc,Nr,c,nm,wm,cs,ks,ns,ws,made,cnt,rfl,hI⟩|⟨Nc,Nr,c,cs,ks,made,cnt,x0,x1,x2,x3,y0,y1,rfl,h1,h2,h3,h4,h5⟩
 ·have hsz:=hI.b.sz;refine Qy 25 Tryz.func206 ?_;refine yf0 g0 l0 θ θ (zg hI.b.hf) g l _ (λz hz=>?_);cases z with
  |true=>
   obtain⟨rfl,rfl⟩:=hz rfl;exact ret (h Nc Nr c nm wm cs ks ns ws made cnt hI)
  |false=>
   refine sn hI.b.dj hI.b.hC hI.b.hf _ (λNc1 Nr1 nm' wm' b1 k1 b2 k2 d1 d2 d3 d4 d5 d6 d7 d8=>zho g θ _ _ (zjp l θ _ _ ?_));have hnc:=C8 d1 d3;refine ye (i:=ti4) (v:=V.bool true) (b:=fb) (o:=2) (l:=[ptr c,int made,V.bool false,int g0.W,int g0.H,qa g0.T,lst 6 zl l0,mapA nm',mapA wm',int cnt]) (st2:=Nc1.un (Nr1.sO fb (.cells [ptr c,int made,V.bool true,int g0.W,int g0.H,qa g0.T,lst 6 zl l0,mapA nm',mapA wm',int cnt]))) rfl rfl rfl (zg d3) (show 3<=10 by decide) (zy _ _ _ _) (k8 (i:=ti23) (v:=.agg (zw g)) (xs:=zw g) (b:=fb) (o:=3) (l:=[ptr c,int made,V.bool true,int g0.W,int g0.H,qa g0.T,lst 6 zl l0,mapA nm',mapA wm',int cnt]) rfl rfl rfl (zg (zd _ _ _)) (show 6<=10 by decide) ?_);rw[zy,yw];exact ye (i:=ti44) (v:=lst 6 zl l) (b:=fb) (o:=6) (l:=[ptr c,int made,V.bool true,int g.W,int g.H,qa g.T,lst 6 zl l0,mapA nm',mapA wm',int cnt]) (st2:=Nc1.un (Nr1.sO fb (.cells [ptr c,int made,V.bool true,int g.W,int g.H,qa g.T,lst 6 zl l,mapA nm',mapA wm',int cnt]))) rfl rfl rfl (zg (zd _ _ _)) (show 7<=10 by decide) Qaf (ret (h Nc1 _ c nm' wm' [] [] [] [] made cnt ⟨⟨disj_setR d1 hnc,d2,zd _ _ _,⟨b1,k1,(zf (Ne.symm d6)).trans d4⟩,⟨b2,k2,(zf (Ne.symm d7)).trans d5⟩,d6,d7,d8,hI.b.r,hI.b.n0,⟨hT,hl⟩⟩,λkey b hb=>(by cases hb),CI.nil _ (by have:=hI.b.r.1;omega) cnt⟩))
 ·refine Qy 25 Tryz.func206 ?_;refine yf1 (zg h5) g l _ (sn h1 h2 h5 _ (λNc1 Nr1 nm' wm' b1 k1 b2 k2 d1 d2 d3 d4 d5 d6 d7 d8=>zho g θ _ _ (zjp l θ _ _ ?_)));have hnc:=C8 d1 d3;refine ye (i:=ti4) (v:=V.bool true) (b:=fb) (o:=2) (l:=[ptr c,int made,V.bool false,x0,x1,x2,x3,mapA nm',mapA wm',int cnt]) (st2:=Nc1.un (Nr1.sO fb (.cells [ptr c,int made,V.bool true,x0,x1,x2,x3,mapA nm',mapA wm',int cnt]))) rfl rfl rfl (zg d3) (show 3<=10 by decide) (zy _ _ _ _) (k8 (i:=ti23) (v:=.agg (zw g)) (xs:=zw g) (b:=fb) (o:=3) (l:=[ptr c,int made,V.bool true,x0,x1,x2,x3,mapA nm',mapA wm',int cnt]) rfl rfl rfl (zg (zd _ _ _)) (show 6<=10 by decide) ?_);rw[zy,yw];exact ye (i:=ti44) (v:=lst 6 zl l) (b:=fb) (o:=6) (l:=[ptr c,int made,V.bool true,int g.W,int g.H,qa g.T,x3,mapA nm',mapA wm',int cnt]) (st2:=Nc1.un (Nr1.sO fb (.cells [ptr c,int made,V.bool true,int g.W,int g.H,qa g.T,lst 6 zl l,mapA nm',mapA wm',int cnt]))) rfl rfl rfl (zg (zd _ _ _)) (show 7<=10 by decide) Qaf (ret (h Nc1 _ c nm' wm' [] [] [] [] made cnt ⟨⟨disj_setR d1 hnc,d2,zd _ _ _,⟨b1,k1,(zf (Ne.symm d6)).trans d4⟩,⟨b2,k2,(zf (Ne.symm d7)).trans d5⟩,d6,d7,d8,h3,h4,⟨hT,hl⟩⟩,λkey b hb=>(by cases hb),CI.nil _ (by have:=h3.1;omega) cnt⟩))
end
section
variable {fb c nm wm p:Nat} {g:Gnd} {N B Nc Nr:Store} {room k made cnt:Int}
def yjz{S:Store}{pf pc ps px b:Nat}{y0 y1 y2 y3 y4 y5 a0 a1 a2 a3:AV}{l:List Bld}(hg:zv g)(hl:l.length<=1000000)(hb:∀b∈l,qh b/\onP g b)(c s:Int)(hs:0<=s/\s<=3)
  (h1:S.obj pf=some (.cells [ptr fb])) (h2:S.obj pc=some (.cells [int c])) (h3:S.obj ps=some (.cells [int s])) (h4:S.obj px=some (.cells [ptr b]))
  (hf:S.obj fb=some (.cells [y0,y1,y2,int g.W,int g.H,qa g.T,lst 6 zl l,y3,y4,y5])) (hx:S.obj b=some (.cells [a0,a1,a2,a3])) (R:Ja)
  (h:∀d,Fresh S d->R (.tup []) ((S.sO d (.cells (jf g l c s))).sO b (.cells [a0,a1,a2,ptr d]))):Jb 208 [ptr pf,ptr pc,ptr ps,ptr px] S R:=by
 refine Qy 18 Tryz.func208 ?_;refine Qc zb yed ?_;refine Qbc ?_;refine Qbc ?_;refine Qbc ?_;refine Qbc ?_;refine Qbc ?_;refine Qbc ?_;refine Qbc ?_;refine⟨yox g hg l θ hb c s hs _ _ (λd hfd=>?_),Tv⟩;have hx2:(S.sO d (.cells (jf g l c s))).obj b=_:=(zf (λe=>by have:=hfd.1;grind)).trans hx;have h42:(S.sO d (.cells (jf g l c s))).obj px=_:=(zf (λe=>by have:=hfd.1;grind)).trans h4;exact⟨⟨za (o:=(S.sO d (.cells (jf g l c s))).obj px) _ h42 rfl,Tv⟩,⟨za _ rfl (xf rfl (q9 (v:=ptr d) rfl rfl rfl rfl (ye (i:=ti294) (v:=ptr d) (b:=b) (o:=3) (l:=[a0,a1,a2,a3]) (st2:=(S.sO d (.cells (jf g l c s))).sO b (.cells [a0,a1,a2,ptr d])) rfl rfl rfl hx2 (show 4<=4 by decide) rfl ⟨Tv,ret (h d hfd)⟩))),Tv⟩⟩
def zgy(ex:List Nat)(hd:zj N B):keepsB ex N (N.un B):=λi y _ hy=>yf hd hy
def FldI.ext{l:List Bld}{cs:List (Int×Int)}{ks:List Int}{ns ws:List (Int×Nat)}(h:FldI fb room g l k Nc Nr c nm wm cs ks ns ws made cnt)(hd:zj (Nc.un Nr) B):FldI fb room g l k Nc (Nr.un B) c nm wm cs ks ns ws made cnt:=by
 have d1:zj Nr B:=λi h1 h2=>hd i (un_has.2 (.inr h1)) h2;have d2:zj Nc B:=λi h1 h2=>hd i (un_has.2 (.inl h1)) h2;have⟨b1,k1,e1⟩:=h.b.hn;have⟨b2,k2,e2⟩:=h.b.hw;refine⟨⟨λi h1 h2=>?_,h.b.hC,yf d1 h.b.hf,⟨b1,k1,yf d1 e1⟩,⟨b2,k2,yf d1 e2⟩,h.b.d1,h.b.d2,h.b.d3,h.b.r,h.b.n0,h.b.sz⟩,λkey b hb=>(h.nets key b hb).keep (zgy _ d1) (λi hi=>.inl hi),h.ways.ways λkey v b hk hw hW=>⟨hw,hW.keep (zgy _ d1) (λi hi=>.inl hi)⟩⟩;rcases un_has.1 h2 with h2|h2
 ·exact h.b.dj i h1 h2
 ·exact d2 i h1 h2
def yja(hd:zj N B)(hF:FldAny fb room k N)(g:Gnd)(hT:g.T.length<=1000000)(l:List Bld)(hl:l.length<=1000000)(R:Ja)
  (h:∀Nc Nr c nm wm cs ks ns ws made cnt,(∀i y,B.obj i=some y->Nr.obj i=some y/\i∉[fb,nm,wm])->FldI fb room g l k Nc Nr c nm wm cs ks ns ws made cnt->R (.tup []) (Nc.un Nr)):Jb 206 [ptr fb,.agg (zw g),lst 6 zl l] (N.un B) R:=by
 refine ACalls.frame hd (yjc hF g hT l hl (λr S=>∃Nc Nr c nm wm cs ks ns ws made cnt,r=.tup []/\S=Nc.un Nr/\FldI fb room g l k Nc Nr c nm wm cs ks ns ws made cnt) (λNc Nr c nm wm cs ks ns ws made cnt hI=>⟨Nc,Nr,c,nm,wm,cs,ks,ns,ws,made,cnt,rfl,rfl,hI⟩)) ?_;rintro r a' ⟨Nc,Nr,c,nm,wm,cs,ks,ns,ws,made,cnt,rfl,rfl,hI⟩ hd2;rw[Pn];refine h Nc (Nr.un B) c nm wm cs ks ns ws made cnt (λi y hy=>⟨zg hy,λhi=>?_⟩) (hI.ext hd2);have hx:∀{j:Nat} {z:AObj},Nr.obj j=some z->i≠j:=λhz e=>hd2 i (un_has.2 (.inr (e▸j6 hz))) (j6 hy);have⟨b1,k1,e1⟩:=hI.b.hn;have⟨b2,k2,e2⟩:=hI.b.hw;simp only[Faw,Fbs,or_false]at hi;rcases hi with hi|hi|hi
 ·exact hx hI.b.hf hi
 ·exact hx e1 hi
 ·exact hx e2 hi
theorem Wg(b:Nat)(x:AObj):N.sO b x=N.un (Store.empty.sO b x):=by have:=zy N Store.empty b x;trivial
theorem FldI.box{l:List Bld}{cs:List (Int×Int)}{ks:List Int}{ns ws:List (Int×Nat)}(h:FldI fb room g l k Nc Nr c nm wm cs ks ns ws made cnt)(hp:Fresh (Nc.un Nr) p)(x:AObj):FldI fb room g l k Nc (Nr.sO p x) c nm wm cs ks ns ws made cnt:=by
 rw[Wg p x];refine h.ext λi h1 h2=>?_;rcases has_setObj_iff.1 h2 with e|e
 ·exact fresh_iff.1 hp (e▸h1)
 ·exact(e.elim (λh=>h rfl) (λh=>h rfl):False)
def keepsB.fresh{ex:List Nat}{a b:Store}(h:keepsB ex a b)(he:∀i,i∈ex->b.obj i≠none)(hp:b.obj p=none):p∉ex/\a.obj p=none:=by
 have h1:p∉ex:=λhh=>he p hh hp;refine⟨h1,?_⟩;cases hx:a.obj p with
 |none=>rfl
 |some y=>exact absurd (h p y h1 hx) (by rw[hp];simp)
def o8(hF:FldAny fb room k N)(g:Gnd)(hg:zv g)(hT:g.T.length<=1000000)(l:List Bld)(hl:l.length<=1000000)(hb:∀b∈l,qh b/\onP g b)(c s:Int)(hc:H2 c)(hs:0<=s/\s<=3)(R:Ja)
  (h:∀Nc Nr cc nm wm cs ks ns ws made cnt d,FldI fb room g l k Nc Nr cc nm wm cs ks ns ws made cnt->d∉[fb,nm,wm]->Nr.obj d=some (.cells (jf g l c s))->R (ptr d) (Nc.un Nr)):
  Jb 175 [ptr fb,.agg (zw g),lst 6 zl l,int c,int s] N R:=by
 refine Qa (c:=cfg 50 [5,8,9,12,34] []) zb Tryz.func175 ?_;intro pf hpf pc hpc ps hps;have npc:pf≠pc:=λe=>by have:=hpc.1;grind[zd]
 have nps1:pf≠ps:=λe=>by have:=hps.1;grind[zf,zd]
 have nps2:pc≠ps:=λe=>by have:=hps.1;grind[zd]
 obtain⟨B,hB⟩:∃B:Store,B=((Store.empty.sO pf (.cells [ptr fb])).sO pc (.cells [int c])).sO ps (.cells [int s]):=⟨_,rfl⟩
 have b1:B.obj pf=some (.cells [ptr fb]):=by grind[zf,zd]
 have b2:B.obj pc=some (.cells [int c]):=by grind[zf,zd]
 have b3:B.obj ps=some (.cells [int s]):=by rw[hB];exact zd _ _ _
 have eS:((N.sO pf (.cells [ptr fb])).sO pc (.cells [int c])).sO ps (.cells [int s])=N.un B:=by rw[hB,Wg pf,zy,zy]
 have hdB:zj N B:=by
  intro i h1 h2;rw[hB]at h2;rcases has_setObj_iff.1 h2 with h2|h2
  ·grind[fresh_iff,has_setObj_iff]
  ·rcases has_setObj_iff.1 h2 with h2|h2
   ·grind[fresh_iff,has_setObj_iff]
   ·rcases has_setObj_iff.1 h2 with h2|h2
    ·exact fresh_iff.1 hpf (h2▸h1)
    ·exact(h2.elim (λh=>h rfl) (λh=>h rfl):False)
 have eS2:((N.sO pf (AObj.cells [AV.s (Value.pointer (some {block:=fb,off:=0}))])).sO pc (AObj.cells [AV.s (Value.int IntKind.i64 c)])).sO ps (AObj.cells [AV.s (Value.int IntKind.i64 s)])=N.un B:=eS;rw[eS2];refine za (o:=(N.un B).obj pf) _ (zg b1) (yja hdB hF g hT l hl _ (λNc Nr cc nm wm cs ks ns ws made cnt hBk hI=>?_));have⟨t1,o1⟩:=hBk _ _ b1;have⟨t2,o2⟩:=hBk _ _ b2;have⟨t3,o3⟩:=hBk _ _ b3;clear b1 b2 b3 hBk eS eS2 hdB hB hps hpc hpf hF;have hcb:0<=c/\c<=2:=by unfold H2 at hc;omega
 refine za (o:=(Nc.un Nr).obj pc) _ (zg t2) (Qd (za (o:=(Nc.un Nr).obj ps) _ (zg t3) (Qd (za (o:=(Nc.un Nr).obj pf) _ (zg t1) (za (o:=(Nc.un Nr).obj fb) _ (zg hI.b.hf) ?_)))));have⟨bs,clk,hnm⟩:=hI.b.hn;refine Ar rfl (it:=ti174) (ie:=ti296) (ik:=ti2) rfl rfl rfl rfl (zg hnm) rfl (qA (4*c+s)) (λe he=>?_) ?_
 ·obtain⟨e,_,rfl⟩:=Fag.1 he;rfl
 rw[Io];cases hgi:yx ns (4*c+s)with
 |none=>
  refine za (o:=(Nc.un Nr).obj pf) _ (zg t1) (za (o:=(Nc.un Nr).obj fb) _ (zg hI.b.hf) ?_);intro nb hnb;have f1:=fresh_un hnb;rw[zy];have e1:nm≠nb:=λe=>θ3;refine Gi (.inl rfl) rfl (it:=ti174) (ik:=ti2) rfl rfl rfl (zg ((zf e1).trans hnm)) rfl rfl (qA (4*c+s)) (λe he=>?_) (λe1 he hq=>?_) ?_
  ·obtain⟨e,_,rfl⟩:=Fag.1 he;rfl
  ·obtain⟨e,_,rfl⟩:=Fag.1 he;grind[qA,yv,int]
  have⟨bs',clk',hput⟩:=Mc (λb=>ptr b) ns bs clk (4*c+s) nb;have hput2:wd (List.map (yv λb=>ptr b) ns) bs clk (qA (4*c+s)) (AV.s (Value.int IntKind.i64 (4*c+s))) (AV.s (Value.pointer (some {block:=nb,off:=0})))=_:=hput;rw[hput2,zy];have hfn:=hI.b.d1;have hfw:=hI.b.d2;have hnw:=hI.b.d3;have⟨bw,kw,hwm⟩:=hI.b.hw;have e2:fb≠nb:=λe=>by have:=f1.2.1;rw[<-e,hI.b.hf]at this;cases this
  have e3:wm≠nb:=λe=>θ3;have e4:pf≠nb:=λe=>θ3;have e5:pc≠nb:=λe=>θ3;have e6:ps≠nb:=λe=>θ3;simp only[Faw,Fbs,or_false,not_or]at o1 o2 o3;obtain⟨N2,hN2⟩:∃N2,N2=(Nr.sO nb (.cells [u32A 0,i32A 0,u32A 0,.s (.pointer none)])).sO nm (.map ((yr ns (4*c+s) nb).map (yv λb=>ptr b)) bs' clk'):=⟨_,rfl⟩
  have eN:Nc.un ((Nr.sO nb (AObj.cells [AV.s (Value.int IntKind.u32 0),AV.s (Value.int IntKind.i32 0),AV.s (Value.int IntKind.u32 0),AV.s (Value.pointer none)])).sO nm (AObj.map (List.map (yv λb=>ptr b) (yr ns (4*c+s) nb)) bs' clk'))=Nc.un N2:=by rw[hN2]
  rw[eN];have kN:keepsB [fb,nm,wm] Nr N2:=by rw[hN2];exact((keepsB.refl _ _).set (.inr f1.2.1)).set (.inl φ)
  have v1:=kN pf _ (by simp[o1]) t1;have v2:=kN pc _ (by simp[o2]) t2;have v3:=kN ps _ (by simp[o3]) t3;have v4:N2.obj nm=some (.map ((yr ns (4*c+s) nb).map (yv λb=>ptr b)) bs' clk'):=by rw[hN2];exact zd _ _ _
  have v5:N2.obj fb=Nr.obj fb:=by grind[zf]
  rw[hI.b.hf]at v5;have v6:N2.obj wm=Nr.obj wm:=by simp_all[zf,Ne.symm]
  rw[hwm]at v6;have v7:N2.obj nb=some (.cells [u32A 0,i32A 0,u32A 0,.s (.pointer none)]):=by simp_all[zf,Ne.symm,zd]
  have d2:zj Nc N2:=by rw[hN2];exact disj_setR (disj_setR hI.b.dj (fresh_iff.1 f1.1)) (C8 hI.b.dj hnm)
  have n1:nb∉[fb,nm,wm]:=δ;clear eN hN2 hput hput2 t1 t2 t3 hnb;refine za (o:=(Nc.un N2).obj pf) _ (zg v1) (za (o:=(Nc.un N2).obj fb) _ (zg v5) (Ar rfl (it:=ti174) (ie:=ti296) (ik:=ti2) rfl rfl rfl rfl (zg v4) rfl (qA (4*c+s)) (λe he=>?_) ?_))
  ·obtain⟨e,_,rfl⟩:=Fag.1 he;rfl
  rw[Io,Dr,if_pos rfl];intro px hpx;have f2:=fresh_un hpx;rw[zy];refine ye (i:=ti296) (v:=ptr nb) (b:=px) (o:=0) (l:=[.s (.pointer none)]) (st2:=Nc.un (N2.sO px (.cells [ptr nb]))) rfl rfl rfl (zg (zd _ _ _)) (show 1<=1 by decide) (by rw[zy,yw];rfl) ?_;have fp:=kN.fresh δ f2.2.1;have kp:∀{i:Nat} {y:AObj},N2.obj i=some y->(N2.sO px (.cells [ptr nb])).obj i=some y:=λ{i y} hy=>(zf (λe=>by have:=f2.2.1;grind)).trans hy;have w1:=kp v1;have w2:=kp v2;have w3:=kp v3;have w4:=kp v4;have w5:=kp v5;have w6:=kp v6;have w7:=kp v7;have w8:(N2.sO px (.cells [ptr nb])).obj px=some (.cells [ptr nb]):=zd _ _ _;have kN3:=kN.set (x:=.cells [ptr nb]) (.inr fp.2);have d3:=disj_setR (x:=.cells [ptr nb]) d2 (fresh_iff.1 f2.1);clear kp v1 v2 v3 v4 v5 v6 v7 d2 hpx f2 kN;generalize N2.sO px (.cells [ptr nb])=N3 at*;refine za (o:=(Nc.un N3).obj px) _ (zg w8) (ze9 nb (u32A 0) (.s (.pointer none)) _ _ _ _ (zg w7) ?_);rw[zy];have e7:px≠nb:=λe=>by rw[e,w7]at w8;cases w8
  have hnc:=C8 d3 w7;refine yjz hg hl hb c s hs (zg ((zf e4).trans w1)) (zg ((zf e5).trans w2)) (zg ((zf e6).trans w3)) (zg ((zf e7).trans w8)) (zg ((zf e2).trans w5)) (zg (zd _ _ _)) _ (λd hfd=>?_);have f3:=fresh_un hfd;refine⟨ptr d,by rw[zy,zy];exact zg (zd _ _ _),?_⟩;rw[zy,zy,zy,yw];have hdn:d≠nb:=λe=>by have:=f3.2.1;rw[e,zd]at this;cases this
  have hd3:N3.obj d=none:=by have:=f3.2.1;rwa [zf hdn]at this
  have fd:=kN3.fresh (by
   intro i hi;simp only[Faw,Fbs,or_false]at hi;rcases hi with rfl|rfl|rfl
   ·rw[w5];simp
   ·rw[w4];simp
   ·rw[w6];simp) hd3
  have k4:=((kN3.set (p:=nb) (x:=.cells [u32A 0,i32A 1,u32A 0,.s (.pointer none)]) (.inr f1.2.1)).set (p:=d) (x:=.cells (jf g l c s)) (.inr fd.2)).set (p:=nb) (x:=.cells [u32A 1,i32A 0,u32A 0,ptr d]) (.inr f1.2.1);have d4:=disj_setR (x:=.cells [u32A 1,i32A 0,u32A 0,ptr d]) (disj_setR (x:=.cells (jf g l c s)) (disj_setR (x:=.cells [u32A 0,i32A 1,u32A 0,.s (.pointer none)]) d3 hnc) (fresh_iff.1 f3.1)) hnc;generalize hN4:((N3.sO nb (.cells [u32A 0,i32A 1,u32A 0,.s (.pointer none)])).sO d (.cells (jf g l c s))).sO nb (.cells [u32A 1,i32A 0,u32A 0,ptr d])=N4 at*;have kq:∀{i:Nat} {y:AObj},i≠nb->N3.obj i=some y->N4.obj i=some y:=λ{i y} hi hy=>hN4▸(zf hi).trans ((zf (λe=>by rw[e,hd3]at hy;cases hy)).trans ((zf hi).trans hy));have x8:=kq e7 w8;have x4:=kq e1 w4;have x5:=kq e2 w5;have x6:=kq e3 w6;have x7:N4.obj nb=some (.cells [u32A 1,i32A 0,u32A 0,ptr d]):=hN4▸zd _ _ _;have x9:N4.obj d=some (.cells (jf g l c s)):=hN4▸(zf hdn).trans (zd _ _ _);clear kq w1 w2 w3 w4 w5 w6 w7 w8 d3 kN3 f3 hfd hN4;refine za (o:=(Nc.un N4).obj px) _ (zg x8) (za (o:=(Nc.un N4).obj nb) _ (zg x7) (ret (h Nc N4 cc nm wm cs ks (yr ns (4*c+s) nb) ws made cnt d ⟨⟨d4,hI.b.hC,x5,⟨_,_,x4⟩,⟨_,_,x6⟩,hfn,hfw,hnw,hI.b.r,hI.b.n0,hI.b.sz⟩,λkey b hb=>?_,hI.ways.ways λkey v b hk hw hW=>⟨hw,hW.keep k4 λi hi=>.inl hi⟩⟩ fd.1 x9)));rw[Dr]at hb;by_cases e:key=4*c+s
  ·rw[if_pos e]at hb;cases hb;exact⟨n1,_,d,c,s,x7,fd.1,hc,hs,e,x9⟩
  ·rw[if_neg e]at hb;exact(hI.nets key b hb).keep k4 λi hi=>.inl hi
 |some b=>
  have⟨hbx,s1,d,c1,s1',hob,hdx,hc1,hs1,hke,hod⟩:=hI.nets _ _ hgi;have ec:c1=c/\s1'=s:=by unfold H2 at hc1;omega
  rw[ec.1,ec.2]at hod;refine za (o:=(Nc.un Nr).obj pf) _ (zg t1) (za (o:=(Nc.un Nr).obj fb) _ (zg hI.b.hf) (Ar rfl (it:=ti174) (ie:=ti296) (ik:=ti2) rfl rfl rfl rfl (zg hnm) rfl (qA (4*c+s)) (λe he=>?_) ?_))
  ·obtain⟨e,_,rfl⟩:=Fag.1 he;rfl
  rw[Io,hgi];intro px hpx;have f2:=fresh_un hpx;rw[zy];refine ye (i:=ti296) (v:=ptr b) (b:=px) (o:=0) (l:=[.s (.pointer none)]) (st2:=Nc.un (Nr.sO px (.cells [ptr b]))) rfl rfl rfl (zg (zd _ _ _)) (show 1<=1 by decide) (by rw[zy,yw];rfl) ?_;have hI2:=hI.box hpx (.cells [ptr b]);have u1:(Nr.sO px (.cells [ptr b])).obj px=some (.cells [ptr b]):=zd _ _ _;have u2:(Nr.sO px (.cells [ptr b])).obj b=_:=(zf (λe=>by have:=f2.2.1;rw[<-e,hob]at this;cases this)).trans hob;have u3:(Nr.sO px (.cells [ptr b])).obj d=_:=(zf (λe=>by have:=f2.2.1;rw[<-e,hod]at this;cases this)).trans hod;clear hpx f2 hob hod hnm t1 t2 t3;generalize Nr.sO px (.cells [ptr b])=N2 at*;exact za (o:=(Nc.un N2).obj px) _ (zg u1) (zfa b _ _ _ _ (zg u2) (za (o:=(Nc.un N2).obj px) _ (zg u1) (za (o:=(Nc.un N2).obj b) _ (zg u2) (ret (h Nc N2 cc nm wm cs ks ns ws made cnt d hI2 hdx u3)))))
end
def zli{P:Program}{l:Nat}{args:List AV}{st:Store}{R R':Ja}(h:AYield P l args st R)(hR:∀r s,R r s->R' r s):AYield P l args st R':=ψ9
def ytx(U:List Int)(st:Store)(R:Ja)(h:∀p,Fresh st p->R (.clos 363 [ptr p]) (st.sO p (.cells [yc U]))):
  Jb 357 [yc U] st R:=by
 refine Qa (c:=cfg 4 [1] []) zb Tryz.func357 ?_;intro p hp;exact ret (h p hp)
def yty(U:List Int)(hU:U.length<=1000000000)(p l:Nat)(I:Nat->Store->Prop)(hp:∀i S,I i S->S.obj p=some (.cells [yc U]))
  (hy:∀i S (hi:i<U.length),I (i+1) S->AYield Tryz.prog l [int (i:Nat),int U[i]] S λr S'=>r=V.bool true/\I i S')
  (st:Store) (h0:I U.length st) (R:Ja) (h:∀S,I 0 S->R (.tup []) S):Jb 363 [.s (.func (.yield l) #[] #[]),ptr p] st R:=by
 refine Qy 19 Tryz.func363 ?_;refine za (o:=st.obj p) _ (hp _ _ h0) ?_;refine ze θe (AWp.loop (σ:=Nat×Int) ⟨λi=>[(0,.av (.s (.func (.yield l) #[] #[]))),(1,.av (ptr p)),(3,.av (int i.2))],λ_=>[],λi st'=>i.1<=U.length/\i.2=(i.1:Int)-1/\I i.1 st',λi=>i.1⟩ zb ?_ ?_)
 ·exact⟨(U.length,_),Tv,⟨Fah _,by rw[zi],h0⟩,⟨Tq,Tq,Tq,Tv⟩,Tv⟩
 rintro⟨i,j⟩ st' ⟨hi,hj,hI⟩;dsimp only at hi hj hI⊢;subst hj;refine bcd (λc1=>?_) (λc1=>?_);rotate_left
 ·have:i=0:=θ;subst this;exact ret (h _ hI)
 obtain⟨k,rfl⟩:∃k,i=k+1:=⟨i-1,θ⟩
 refine za (o:=st'.obj p) _ (hp _ _ hI) ⟨k,θ,za _ (zp (show k<U.length by omega)) ?_⟩;have hk:k<U.length:=θ;have he:(((k+1:Nat):Int)-1)=(k:Nat):=θ;rw[he];refine zli (hy k st' hk hI) ?_;rintro r S' ⟨rfl,hI2⟩;exact Qd ⟨(k,_),(show k<k+1 by omega),⟨ξ,rfl,hI2⟩,⟨Tq,Tq,Tq,Tv⟩,Tv⟩
def delObj_ne{S:Store}{p b:Nat}(h:p≠b):(S.dO b).obj p=S.obj p:=by show(bif Nat.beq p b then none else S.obj p)=_;rw[y9 h];rfl
theorem zm5{a g:Store}{b:Nat}(h:a.obj b=none):(a.un g).dO b=a.un (g.dO b):=by
 show Store.mk _ _=Store.mk _ _
 congr 1
 funext i
 show(bif Nat.beq i b then none else(match g.obj i with|some x=>some x|none=>a.obj i))=(match(bif Nat.beq i b then none else g.obj i)with|some x=>some x|none=>a.obj i)
 grind[vw]
def yrn{a g:Store}(hd:zj a g)(b:Nat):zj a (g.dO b):=λi h1 h2=>by
 refine hd i h1 ?_;rcases h2 with h2|h2
 ·refine .inl λh3=>h2 ?_;show(bif Nat.beq i b then none else g.obj i)=none;grind
 ·exact .inr h2
def Oy{a g:Store}{b p:Nat}{x:AObj}(h:Fresh (a.un g) p)(hb:g.obj b=some x):b≠p:=λe=>by have:=(fresh_un h).2.1;grind
def yad{fb:Nat}{room:Int}{g:Gnd}{l:List Bld}{k:Int}{Nc Nr:Store}{c nm wm:Nat}{cs:List (Int×Int)}{ks:List Int}{ns ws:List (Int×Nat)}{made cnt:Int}(hB:FldB fb room g l k Nc Nr c nm wm cs ks ns ws made cnt){W:Int->Nat->Prop}(hI:CI W room cs ks ws cnt)(R:Ja)
  (h:∀Nc' Nr' wm' ks' ws',FldB fb room g l k Nc' Nr' c nm wm' cs ks' ns ws' made cnt->CI W room cs ks' ws' cnt->(wm'=wm\/Nr.obj wm'=none)->keepsB [fb,nm,wm] Nr Nr'->R (.tup []) (Nc'.un Nr')):
  Jb 351 [ptr fb] (Nc.un Nr) R:=by
 have hks:(ks.length:Int)<=4096:=by have:=hI.len;have:=hB.r;omega
 refine Qb (c:=cfg 49 [1,3] []) zb Tryz.func351 (AWp.seq (AWp.of_vc zb ?_));intro pf hpf;have f1:=fresh_un hpf;rw[zy];have kf:∀{i:Nat} {y:AObj},Nr.obj i=some y->(Nr.sO pf (.cells [ptr fb])).obj i=some y:=λ{i y} hy=>(zf (Oy hpf hy)).trans hy;have⟨b1,k1,hnm⟩:=hB.hn;have⟨b2,k2,hwm⟩:=hB.hw;have t1:=kf hB.hf;have t2:=kf hnm;have t3:=kf hwm;have t4:(Nr.sO pf (.cells [ptr fb])).obj pf=some (.cells [ptr fb]):=zd _ _ _;have d1:=disj_setR (x:=.cells [ptr fb]) hB.dj (fresh_iff.1 f1.1);have n1:keepsB [fb,nm,wm] Nr (Nr.sO pf (.cells [ptr fb])):=(keepsB.refl _ _).set (.inr f1.2.1);clear kf f1 hpf;rw[show Nc.un (Nr.sO pf (AObj.cells [AV.s (Value.pointer (some {block:=fb,off:=0}))]))=Nc.un (Nr.sO pf (.cells [ptr fb]))from rfl];generalize Nr.sO pf (.cells [ptr fb])=N1 at*;refine AWp.seq (AWp.of_vc zb (za (o:=(Nc.un N1).obj pf) _ (zg t4) (za (o:=(Nc.un N1).obj fb) _ (zg t1) (yl0 d1 hB.hC θ _ (λNc1 d2 hC1=>AWp.seq (AWp.of_vc zb (za (o:=(Nc1.un N1).obj pf) _ (zg t4) (za (o:=(Nc1.un N1).obj fb) _ (zg t1) (za (o:=(Nc1.un N1).obj wm) _ (zg t3) (ze θe (bcd (λc1=>?_) (λc1=>?_))))))))))))
 ·refine ret (h Nc1 N1 wm ks ws ⟨d2,hC1,t1,⟨_,_,t2⟩,⟨_,_,t3⟩,hB.d1,hB.d2,hB.d3,hB.r,hB.n0,hB.sz⟩ hI (.inl rfl) n1)
 refine AWp.seq (AWp.of_vc zb (I0 rfl (λkm hkm=>?_)));intro p3 hp3;have f2:=fresh_un hkm;rw[zy]at hp3⊢;have f3:=fresh_un hp3;rw[zy];refine ye (i:=ti175) (v:=mapA km) (b:=p3) (o:=0) (l:=[.s (.map none)]) (st2:=Nc1.un ((N1.sO km (.map [] [] 0)).sO p3 (.cells [mapA km]))) rfl rfl rfl (zg (zd _ _ _)) (show 1<=1 by decide) (by rw[zy,yw];rfl) ?_;have q3:km≠p3:=λe=>by have:=f3.2.1;grind[zd]
 have kf:∀{i:Nat} {y:AObj},N1.obj i=some y->((N1.sO km (.map [] [] 0)).sO p3 (.cells [mapA km])).obj i=some y:=λ{i y} hy=>by
  have e1:i≠km:=λe=>by have:=f2.2.1;grind
  have e2:i≠p3:=λe=>by have:=f3.2.1;grind[zf]
  grind[zf]
 have s1:=kf t1;have s2:=kf t2;have s3:=kf t3;have s4:=kf t4;have s5:((N1.sO km (.map [] [] 0)).sO p3 (.cells [mapA km])).obj p3=some (.cells [mapA km]):=zd _ _ _;have s6:((N1.sO km (.map [] [] 0)).sO p3 (.cells [mapA km])).obj km=some (.map [] [] 0):=(zf q3).trans (zd _ _ _);have n2:keepsB [fb,nm,wm] Nr ((N1.sO km (.map [] [] 0)).sO p3 (.cells [mapA km])):=λi y hi hy=>kf (n1 i y hi hy);have d3:zj Nc1 ((N1.sO km (.map [] [] 0)).sO p3 (.cells [mapA km])):=disj_setR (disj_setR d2 (fresh_iff.1 f2.1)) (fresh_iff.1 f3.1);have fkm:Nr.obj km=none:=(n1.fresh δ f2.2.1).2;have g1:fb≠km:=λe=>δ;have g2:nm≠km:=λe=>δ;have g3:wm≠km:=λe=>δ;have g4:pf≠km:=λe=>δ;clear kf f2 f3 hkm hp3 n1 t1 t2 t3 t4 d2;generalize(N1.sO km (.map [] [] 0)).sO p3 (.cells [mapA km])=N2 at*;refine AWp.seq (AWp.seq (AWp.of_vc zb (ytx ks _ _ (λpb hpb=>?_))));have f4:=fresh_un hpb;rw[zy];have kg:∀{i:Nat} {y:AObj},N2.obj i=some y->(N2.sO pb (.cells [yc ks])).obj i=some y:=λ{i y} hy=>(zf (Oy hpb hy)).trans hy;have t1:=kg s1;have t2:=kg s2;have t3:=kg s3;have t4:=kg s4;have t5:=kg s5;have t6:=kg s6;have t7:(N2.sO pb (.cells [yc ks])).obj pb=some (.cells [yc ks]):=zd _ _ _;have n3:keepsB [fb,nm,wm] Nr (N2.sO pb (.cells [yc ks])):=λi y hi hy=>kg (n2 i y hi hy);have d4:=disj_setR (x:=.cells [yc ks]) d3 (fresh_iff.1 f4.1);have g7:pb≠km:=Ne.symm (Oy hpb s6);clear kg s1 s2 s3 s4 s5 s6 n2 d3 f4 hpb;generalize N2.sO pb (.cells [yc ks])=N3 at*;refine AWp.block (AWp.rangeFunc rfl rfl Tryz.func363 ζ ζ [(1,ptr pf),(3,ptr p3)] (λp hp=>?_) (λq hq=>?_) ψ ψ (λlo X Y hfl hround=>?_))
 ·simp only[Faw,Fbs,or_false]at hp;rcases hp with rfl|rfl<;>rfl
 ·grind
 have f5:=fresh_un hfl;have hlo:∀{i:Nat} {y:AObj},N3.obj i=some y->i≠lo:=λ{i y} hy=>Oy hfl hy;have d5:zj Nc1 (N3.sO lo X):=disj_setR d4 (fresh_iff.1 f5.1);rw[zy];refine yty ks θ pb lo (λi S=>∃Nc' N' ks' kp bs clk,S=Nc'.un N'/\zj Nc' N'/\qq Nc' c room cs ks'/\CI W room cs ks' ws cnt/\keepsB [km,lo] N3 N'/\N'.obj lo=some X/\N'.obj km=some (.map (kp.map (yv λb=>ptr b)) bs clk)/\∀(j:Nat) (key v:Int),i<=j->ks[j]?=some key->yx cs key=some v->yx kp v=yx ws v) (λi S hS=>?_) ?_ _ ?_ _ ?_
 ·obtain⟨Nc',N',ks',kp,bs,clk,rfl,e1,e2,e3,e4,e5,e6,e7⟩:=hS;exact zg (e4 pb _ (by simp[g7,hlo t7]) t7)
 ·rintro i S hi ⟨Nc',N',ks',kp,bs,clk,rfl,e1,e2,e3,e4,e5,e6,e7⟩;refine hround (Nc'.un N') _ _ (zg e5) rfl (AWp.of_vc zb ⟨rfl,zg e5,AWp.of_vc zb ?_⟩);rw[zy];have hl3:∀{i:Nat} {y:AObj},N3.obj i=some y->i≠km->(N'.sO lo Y).obj i=some y:=λ{i y} hy hn=>(zf (hlo hy)).trans (e4 i y (by simp[hn,hlo hy]) hy);have r1:=hl3 t1 g1;have r3:=hl3 t3 g3;have r4:=hl3 t4 g4;have r5:=hl3 t5 (λe=>by rw[e,t6]at t5;cases t5);have r6:(N'.sO lo Y).obj km=_:=(zf (hlo t6)).trans e6;have r7:(N'.sO lo Y).obj lo=some Y:=zd _ _ _;have r8:keepsB [km,lo] N3 (N'.sO lo Y):=λi y hi hy=>(zf (λe=>hi (by simp[e]))).trans (e4 i y hi hy);have hll:N3.obj lo=none:=f5.2.1;have d6:zj Nc' (N'.sO lo Y):=disj_setR e1 (C8 e1 e5);have hks':(ks'.length:Int)<=4096:=by have:=e3.len;have:=hB.r;omega
  have hki:ks[i]?=some ks[i]:=Fab hi;clear hl3 e6 e4 e1;generalize N'.sO lo Y=N4 at*;refine za (o:=(Nc'.un N4).obj pf) _ (zg r4) (za (o:=(Nc'.un N4).obj fb) _ (zg r1) (zhw d6 e2 θ ks[i] _ (λhn Nc2 dd hC2=>?_) (λv hv Nc2 dd hC2=>?_)))
  ·refine⟨rfl,zg r7,rfl,Nc2,N4.sO lo X,ks',kp,bs,clk,zy _ _ _ _,disj_setR dd (C8 dd r7),hC2,e3,r8.set (.inl φ),zd _ _ _,(zf (hlo t6)).trans r6,λj key v hij hj hk=>?_⟩;grind
  ·have⟨_,_,wb,hwb,_⟩:=e3.ok _ _ hv;refine Qc zb yci (za (o:=(Nc2.un N4).obj p3) _ (zg r5) (za (o:=(Nc2.un N4).obj pf) _ (zg r4) (za (o:=(Nc2.un N4).obj fb) _ (zg r1) ⟨Ar rfl (it:=ti175) (ie:=ti431) (ik:=ti2) rfl rfl rfl rfl (zg r3) rfl (qA v) (λe he=>?_) ?_,Tv⟩)))
   ·obtain⟨e,_,rfl⟩:=Fag.1 he;rfl
   rw[Io,hwb];refine⟨⟨za (o:=(Nc2.un N4).obj p3) _ (zg r5) rfl,Tv⟩,⟨Gi (.inl rfl) rfl (it:=ti175) (ik:=ti2) rfl rfl rfl (zg r6) rfl rfl (qA v) (λe he=>?_) (λe1 he hq=>?_) ?_,Tv⟩⟩
   ·obtain⟨e,_,rfl⟩:=Fag.1 he;rfl
   ·obtain⟨e,_,rfl⟩:=Fag.1 he;have:v=e.1:=by simpa [qA,yv,int]using hq
    show int e.1=_;rw[this]
   have⟨bs',clk',hput⟩:=Mc (λb=>ptr b) kp bs clk v wb;have hput2:wd (List.map (yv λb=>ptr b) kp) bs clk (qA v) (int v) ((Option.map (λb=>ptr b) (some wb)).getD (Fm ti431))=_:=hput;rw[hput2,zy];have hnc:=C8 dd r6;have x7:(N4.sO km (.map ((yr kp v wb).map (yv λb=>ptr b)) bs' clk')).obj lo=some Y:=(zf (Ne.symm (hlo t6))).trans r7;have x6:(N4.sO km (.map ((yr kp v wb).map (yv λb=>ptr b)) bs' clk')).obj km=_:=zd _ _ _;have x8:=r8.set (p:=km) (x:=.map ((yr kp v wb).map (yv λb=>ptr b)) bs' clk') (.inl φ);have xd:zj Nc2 (N4.sO km (.map ((yr kp v wb).map (yv λb=>ptr b)) bs' clk')):=disj_setR dd hnc;refine⟨Tv,?_⟩;generalize N4.sO km (.map ((yr kp v wb).map (yv λb=>ptr b)) bs' clk')=N5 at*;refine⟨rfl,zg x7,rfl,Nc2,N5.sO lo X,ks[i]::ks'.erase ks[i],yr kp v wb,bs',clk',zy _ _ _ _,disj_setR xd (C8 xd x7),hC2,e3.hit hv,x8.set (.inl φ),zd _ _ _,(zf (hlo t6)).trans x6,λj key v2 hij hj hk=>?_⟩;rw[Dr];by_cases hv2:v2=v
   ·rw[if_pos hv2,hv2,hwb]
   ·rw[if_neg hv2];rcases Nat.lt_or_ge i j with h1|h1
    ·exact e7 j key v2 h1 hj hk
    ·have:j=i:=θ;subst this;rw[hki]at hj;cases hj;rw[hv]at hk;cases hk;exact absurd rfl hv2
 ·refine⟨Nc1,N3.sO lo X,ks,[],[],0,rfl,d5,hC1,hI,(keepsB.refl _ _).set (.inl φ),zd _ _ _,(zf (hlo t6)).trans t6,λj key v hj hk=>?_⟩;rw[Fbe hj]at hk;cases hk
 ·rintro S ⟨Nc',N',ks',kp,bs,clk,rfl,e1,e2,e3,e4,e5,e6,e7⟩;refine⟨zg e5,?_⟩;rw[zm5 (vj (C8 e1 e5)).1];have hl3:∀{i:Nat} {y:AObj},N3.obj i=some y->i≠km->(N'.dO lo).obj i=some y:=λ{i y} hy hn=>(delObj_ne (hlo hy)).trans (e4 i y (by simp[hn,hlo hy]) hy);have r1:=hl3 t1 g1;have r2:=hl3 t2 g2;have r3:=hl3 t3 g3;have r4:=hl3 t4 g4;have r5:=hl3 t5 (λe=>by rw[e,t6]at t5;cases t5);have r6:(N'.dO lo).obj km=_:=(delObj_ne (hlo t6)).trans e6;have d6:zj Nc' (N'.dO lo):=yrn e1 lo;have r8:keepsB [fb,nm,wm] Nr (N'.dO lo):=λi y hi hy=>hl3 (n3 i y hi hy) (λe=>by rw[e,fkm]at hy;cases hy);clear e6 e5 e4 e1 hl3;generalize N'.dO lo=N5 at*;refine AWp.of_vc zb (za (o:=(Nc'.un N5).obj pf) _ (zg r4) (za (o:=(Nc'.un N5).obj p3) _ (zg r5) (ye (i:=ti175) (v:=mapA km) (b:=fb) (o:=8) (l:=[ptr c,int made,V.bool true,int g.W,int g.H,qa g.T,lst 6 zl l,mapA nm,mapA wm,int cnt]) (st2:=Nc'.un (N5.sO fb (.cells [ptr c,int made,V.bool true,int g.W,int g.H,qa g.T,lst 6 zl l,mapA nm,mapA km,int cnt]))) rfl rfl rfl (zg r1) (show 9<=10 by decide) (zy _ _ _ _) (ret (h Nc' _ km ks' kp ⟨disj_setR d6 (C8 d6 r1),e2,zd _ _ _,⟨_,_,(zf (Ne.symm hB.d1)).trans r2⟩,⟨_,_,(zf (Ne.symm g1)).trans r6⟩,hB.d1,g1,g2,hB.r,hB.n0,hB.sz⟩ (e3.ways λkey v b hk hw hW=>⟨?_,hW⟩) (.inr fkm) (r8.set (.inl φ)))))));have⟨j,hj⟩:=Fbb.1 (hI.ok key v hk).1;rw[e7 j key v (Fae _) hj hk];exact hw
section
variable {fb b b':Nat} {g:Gnd} {room k key:Int} {N:Store} {x:AV}
def zmh{S:Store}{pf pn pg px d:Nat}{a0 a1 a2 a3 y0 y1 y2 y3 y4 y5 y6 y7 y8:AV}{made:Int}{l:List Bld}(hg:zv g){c s:Int}(goal:Nat)(hgo:goal<g.T.length)
  (h1:S.obj pf=some (.cells [ptr fb])) (h2:S.obj pn=some (.cells [ptr d])) (h3:S.obj pg=some (.cells [int goal])) (h4:S.obj px=some (.cells [ptr b]))
  (hf:S.obj fb=some (.cells [y0,int made,y1,y2,y3,y4,y5,y6,y7,y8])) (hx:S.obj b=some (.cells [a0,a1,a2,a3])) (hd:S.obj d=some (.cells (jf g l c s))) (hdf:d≠fb) (R:Ja)
  (h:∀m d2,Fresh S d2->d2≠fb->R (.tup []) (((S.sO fb (.cells [y0,int m,y1,y2,y3,y4,y5,y6,y7,y8])).sO d2 (.cells (wayL g l c s goal))).sO b (.cells [a0,a1,a2,.s (.slice (some ⟨d2,0,none⟩) g.T.length g.T.length)]))):Jb 352 [ptr pf,ptr pn,ptr pg,ptr px] S R:=by
 refine Qy 14 Tryz.func352 ?_;refine Qbc (rv fb 1 _ made 1 _ _ hf rfl λm=>?_);rw[show S.sO fb (.cells (zq [y0,int made,y1,y2,y3,y4,y5,y6,y7,y8] 1 [AV.s (Value.int IntKind.i64 m)]))=S.sO fb (.cells [y0,int m,y1,y2,y3,y4,y5,y6,y7,y8])from rfl];have k1:(S.sO fb (.cells [y0,int m,y1,y2,y3,y4,y5,y6,y7,y8])).obj pn=some (.cells [ptr d]):=(zf (λe=>by rw[e,hf]at h2;cases h2)).trans h2;have k2:(S.sO fb (.cells [y0,int m,y1,y2,y3,y4,y5,y6,y7,y8])).obj pg=some (.cells [int goal]):=(zf (λe=>by rw[e,hf]at h3;cases h3)).trans h3;have k3:(S.sO fb (.cells [y0,int m,y1,y2,y3,y4,y5,y6,y7,y8])).obj px=some (.cells [ptr b]):=(zf (λe=>by rw[e,hf]at h4;cases h4)).trans h4;have k4:(S.sO fb (.cells [y0,int m,y1,y2,y3,y4,y5,y6,y7,y8])).obj b=some (.cells [a0,a1,a2,a3]):=(zf (λe=>by rw[e,hf]at hx;cases hx)).trans hx;have k5:(S.sO fb (.cells [y0,int m,y1,y2,y3,y4,y5,y6,y7,y8])).obj d=some (.cells (jf g l c s)):=(zf hdf).trans hd;have hh:=λd2 (hq:Fresh (S.sO fb (.cells [y0,int m,y1,y2,y3,y4,y5,y6,y7,y8])) d2)=>h m d2 (by
  have e:d2≠fb:=λe=>by have:=hq.1;rw[e,zd]at this;cases this
  have:=hq;unfold Fresh at this⊢;rw[zf e]at this;exact this) (λe=>by have:=hq.1;rw[e,zd]at this;cases this)
 clear h h1 h2 h3 h4 hx hd hf;generalize S.sO fb (.cells [y0,int m,y1,y2,y3,y4,y5,y6,y7,y8])=S1 at*;refine Qc zb ych ?_;refine Qbc ?_;refine Qbc ?_;refine Qbc ?_;refine⟨znq hg k5 goal hgo _ (λd2 hfd=>?_),Tv⟩;have e3:(S1.sO d2 (.cells (wayL g l c s goal))).obj px=_:=(zf (λe=>by have:=hfd.1;grind)).trans k3;have e4:(S1.sO d2 (.cells (wayL g l c s goal))).obj b=_:=(zf (λe=>by have:=hfd.1;grind)).trans k4;exact⟨⟨za (o:=(S1.sO d2 (.cells (wayL g l c s goal))).obj px) _ e3 rfl,Tv⟩,⟨za _ rfl (xf rfl (q9 (v:=.s (.slice (some ⟨d2,0,none⟩) g.T.length g.T.length)) rfl rfl rfl rfl (ye (i:=ti29) (v:=.s (.slice (some ⟨d2,0,none⟩) g.T.length g.T.length)) (b:=b) (o:=3) (l:=[a0,a1,a2,a3]) (st2:=(S1.sO d2 (.cells (wayL g l c s goal))).sO b (.cells [a0,a1,a2,.s (.slice (some ⟨d2,0,none⟩) g.T.length g.T.length)])) rfl rfl rfl e4 (show 4<=4 by decide) rfl ⟨Tv,ret (hh d2 hfd)⟩))),Tv⟩⟩
def yh2{Nc Nr:Store}{cc:Nat}{cnt:Int}{cs:List (Int×Int)}{ks:List Int}{ws:List (Int×Nat)}{W:Int->Nat->Prop}(hd:zj Nc Nr)(hC:qq Nc cc room cs ks)(hI:CI W room cs ks ws cnt)(hr:1<=room/\room<=4096)(key:Int)(R:Ja)
  (h:∀N' cs3 ks3,zj N' Nr->qq N' cc room cs3 ks3->(∀nb,CI (λk b=>if k=key then b=nb else W k b) room cs3 ks3 (yr ws (cnt+1) nb) (cnt+1)/\yx cs3 key=some (cnt+1))->R (.tup []) (N'.un Nr)):Jb 350 [ptr cc,int key,int (cnt+1)] (Nc.un Nr) R:=by
 have hl:=hI.len;refine yh8 hd hC θ key (cnt+1) _ (λhl N' d3 hC3=>h N' _ _ d3 hC3 λnb=>⟨hI.put1 key nb hl,by rw[Dr,if_pos rfl]⟩) (λhl N' d3 hC3=>h N' _ _ d3 hC3 λnb=>⟨(hI.put2 hr.1 key nb hl).1,?_⟩);rw[sf _ _ _ (W4 hI.cnd _ _),if_neg (Ne.symm (hI.put2 hr.1 key nb hl).2),Dr,if_pos rfl]
def yjy{B:Store}(hd:zj N B)(hF:FldAny fb room k N)(g:Gnd)(hg:zv g)(hT:g.T.length<=1000000)(l:List Bld)(hl:l.length<=1000000)(hb:∀b∈l,qh b/\onP g b)(c s:Int)(hc:H2 c)(hs:0<=s/\s<=3)(R:Ja)
  (h:∀Nc Nr cc nm wm cs ks ns ws made cnt d,(∀i y,B.obj i=some y->Nr.obj i=some y/\i∉[fb,nm,wm])->FldI fb room g l k Nc Nr cc nm wm cs ks ns ws made cnt->d∉[fb,nm,wm]->Nr.obj d=some (.cells (jf g l c s))->R (ptr d) (Nc.un Nr)):
  Jb 175 [ptr fb,.agg (zw g),lst 6 zl l,int c,int s] (N.un B) R:=by
 refine ACalls.frame hd (o8 hF g hg hT l hl hb c s hc hs (λr S=>∃Nc Nr c' nm wm cs ks ns ws made cnt d,r=ptr d/\S=Nc.un Nr/\FldI fb room g l k Nc Nr c' nm wm cs ks ns ws made cnt/\d∉[fb,nm,wm]/\Nr.obj d=some (.cells (jf g l c s))) (λNc Nr c' nm wm cs ks ns ws made cnt d hI h1 h2=>⟨Nc,Nr,c',nm,wm,cs,ks,ns,ws,made,cnt,d,rfl,rfl,hI,h1,h2⟩)) ?_;rintro r a' ⟨Nc,Nr,c',nm,wm,cs,ks,ns,ws,made,cnt,d,rfl,rfl,hI,h1,h2⟩ hd2;rw[Pn];have dB:zj Nr B:=λi q1 q2=>hd2 i (un_has.2 (.inr q1)) q2;refine h Nc (Nr.un B) c' nm wm cs ks ns ws made cnt d (λi y hy=>⟨zg hy,λhi=>?_⟩) (hI.ext hd2) h1 (yf dB h2);have hx:∀{j:Nat} {z:AObj},Nr.obj j=some z->i≠j:=λhz e=>dB i (e▸j6 hz) (j6 hy);have⟨b1,k1,e1⟩:=hI.b.hn;have⟨b2,k2,e2⟩:=hI.b.hw;simp only[Faw,Fbs,or_false]at hi;rcases hi with hi|hi|hi
 ·exact hx hI.b.hf hi
 ·exact hx e1 hi
 ·exact hx e2 hi
theorem ym2{n:Nat}{f:Nat->Int}{L:List AV}(h:il n f=u32A 0::L):False:=by
 cases n with
 |zero=>cases h
 |succ n=>
  have:=congrArg List.head? h;rw[List.head?_cons]at this;have h2:(il (n+1) f).head?=some (int (f 0)):=by have:=di (f:=f) (n:=n+1) (t:=0) θ;grind
  rw[h2]at this;cases this
theorem NetOK.off{l:List Bld}{ex:List Nat}(h:NetOK g l ex N key b')(hob:N.obj b=some (.cells [u32A 0,i32A 0,u32A 0,x])):NetOK g l (b::ex) N key b':=by
 have⟨h1,s,d,c,s',h2,h3,h4,h5,h6,h7⟩:=h;refine⟨λhb=>?_,s,d,c,s',h2,λhb=>?_,h4,h5,h6,h7⟩
 ·grind
 grind[jf,zw]
theorem WayOK.off{l:List Bld}{ex:List Nat}(h:WayOK g l ex N key b')(hob:N.obj b=some (.cells [u32A 0,i32A 0,u32A 0,x])):WayOK g l (b::ex) N key b':=by
 have⟨h1,s,d,c,s',goal,h2,h3,h4,h5,h6,h7,h8⟩:=h;refine⟨λhb=>?_,s,d,c,s',goal,h2,λhb=>?_,h4,h5,h6,h7,h8⟩
 ·grind
 grind[ym2]
def zl7(hF:FldAny fb room k N)(hk0:0<=k/\k<=4000000000000000000)(g:Gnd)(hg:zv g)(hT:g.T.length<=1000000)(l:List Bld)(hl:l.length<=1000000)(hb:∀b∈l,qh b/\onP g b)(c s:Int)(hc:H2 c)(hs:0<=s/\s<=3)(goal:Nat)(hgo:goal<g.T.length)(R:Ja)
  (h:∀N' d,FldAny fb room (k+1) N'->N'.obj d=some (.cells (wayL g l c s goal))->R (.s (.slice (some ⟨d,0,none⟩) g.T.length g.T.length)) N'):
  Jb 348 [ptr fb,.agg (zw g),lst 6 zl l,int c,int s,int (goal:Nat)] N R:=by
 have ha:=xj hg;have hcb:0<=c/\c<=2:=by unfold H2 at hc;omega
 refine Qb (c:=cfg 85 [6,11,13,17,67] []) zb Tryz.func348 (AWp.seq (AWp.of_vc zb ?_));intro pf hpf pg hpg;have npc:pf≠pg:=λe=>by have:=hpg.1;grind[zd]
 obtain⟨B,hB⟩:∃B:Store,B=(Store.empty.sO pf (.cells [ptr fb])).sO pg (.cells [int goal]):=⟨_,rfl⟩
 have b1:B.obj pf=some (.cells [ptr fb]):=by grind[zf,zd]
 have b2:B.obj pg=some (.cells [int goal]):=by rw[hB];exact zd _ _ _
 have eS:(N.sO pf (AObj.cells [AV.s (Value.pointer (some {block:=fb,off:=0}))])).sO pg (AObj.cells [AV.s (Value.int IntKind.i64 goal)])=N.un B:=by rw[hB,Wg pf,zy];rfl
 have hdB:zj N B:=by
  intro i h1 h2;rw[hB]at h2;rcases has_setObj_iff.1 h2 with h2|h2
  ·grind[fresh_iff,has_setObj_iff]
  ·rcases has_setObj_iff.1 h2 with h2|h2
   ·exact fresh_iff.1 hpf (h2▸h1)
   ·exact(h2.elim (λh=>h rfl) (λh=>h rfl):False)
 rw[eS];clear eS hB hpf hpg;refine AWp.seq (AWp.of_vc zb (za (o:=(N.un B).obj pf) _ (zg b1) (yjy hdB hF g hg hT l hl hb c s hc hs _ (λNc Nr cc nm wm cs ks ns ws made cnt d hBk hI hdx hod=>?_))));have⟨t1,o1⟩:=hBk _ _ b1;have⟨t2,o2⟩:=hBk _ _ b2;clear b1 b2 hBk hdB hF;intro pn hpn;rw[zy];refine ye (i:=ti294) (v:=ptr d) (b:=pn) (o:=0) (l:=[.s (.pointer none)]) (st2:=Nc.un (Nr.sO pn (.cells [ptr d]))) rfl rfl rfl (zg (zd _ _ _)) (show 1<=1 by decide) (by rw[zy,yw];rfl) ?_;have hI1:=hI.box hpn (.cells [ptr d]);have kp:∀{i:Nat} {y:AObj},Nr.obj i=some y->(Nr.sO pn (.cells [ptr d])).obj i=some y:=λ{i y} hy=>(zf (Oy hpn hy)).trans hy;have u1:=kp t1;have u2:=kp t2;have u3:(Nr.sO pn (.cells [ptr d])).obj pn=some (.cells [ptr d]):=zd _ _ _;have u4:=kp hod;clear kp hod t1 t2 hpn hI;generalize Nr.sO pn (.cells [ptr d])=N1 at*;have hkc:=hI1.ways.len;have hrr:=hI1.b.r;have hcn:=hI1.b.n0;refine AWp.seq (AWp.of_vc zb (Qd (Qd (Qd (Qd (za (o:=(Nc.un N1).obj pg) _ (zg u2) (Qd ?_)))))))
 refine AWp.meet (σ:=Store×List Int×Int×Bool) ⟨λq=>[(6,.av (ptr pf)),(11,.av (ptr pg)),(13,.av (ptr pn)),(14,.av (int (Ae c s goal))),(15,.av (int q.2.2.1)),(16,.av (V.bool q.2.2.2))],λ_=>[],
  λq S=>S=q.1.un N1/\zj q.1 N1/\qq q.1 cc room cs q.2.1/\((q.2.2.2=false/\yx cs (Ae c s goal)=none/\q.2.1=ks)\/(q.2.2.2=true/\yx cs (Ae c s goal)=some q.2.2.1/\q.2.1=Ae c s goal::ks.erase (Ae c s goal)))⟩ zb ?_ ?_
 ·refine za (o:=(Nc.un N1).obj pf) _ (zg u1) (za (o:=(Nc.un N1).obj fb) _ (zg hI1.b.hf) (zhw hI1.b.dj hI1.b.hC θ (Ae c s goal) _ (λhn Nc2 dd hC2=>?_) (λv hv Nc2 dd hC2=>?_)))
  ·exact⟨(Nc2,ks,0,false),⟨rfl,dd,hC2,.inl ⟨rfl,hn,rfl⟩⟩,Qax,Tv⟩
  ·exact⟨(Nc2,_,v,true),⟨rfl,dd,hC2,.inr ⟨rfl,hv,rfl⟩⟩,⟨Tq,Tq,Tq,Tq,Tq,Tq,Tv⟩,Tv⟩
 rintro⟨Nc2,ks2,v0,z⟩ S ⟨rfl,dd,hC2,hz⟩;dsimp only at dd hC2 hz⊢
 refine AWp.meet (σ:=Int×Nat) ⟨λq=>[(6,.av (ptr pf)),(11,.av (ptr pg)),(13,.av (ptr pn)),(15,.av (int q.1))],λ_=>[],
  λq S=>∃Nc Nr wm cs ks ws cnt,S=Nc.un Nr/\FldB fb room g l (k+1) Nc Nr cc nm wm cs ks ns ws made cnt/\(∀key b,yx ns key=some b->NetOK g l [fb,nm,wm] Nr key b)/\CI (λk b=>if k=Ae c s goal then b=q.2 else WayOK g l [fb,nm,wm] Nr k b) room cs ks ws cnt/\yx ws q.1=some q.2/\q.2∉[fb,nm,wm]∧
   (WayOK g l [fb,nm,wm] Nr (Ae c s goal) q.2\/Nr.obj q.2=some (.cells [u32A 0,i32A 0,u32A 0,.s (.slice none 0 0)]))/\(Nr.obj pf=some (.cells [ptr fb])/\Nr.obj pg=some (.cells [int goal])/\Nr.obj pn=some (.cells [ptr d]))/\Nr.obj d=some (.cells (jf g l c s))/\d∉[fb,nm,wm]⟩ zb ?_ ?_
 ·cases z with
  |true=>
   have hz:yx cs (Ae c s goal)=some v0/\ks2=Ae c s goal::ks.erase (Ae c s goal):=by simpa using hz
   obtain⟨hz1,rfl⟩:=hz;have⟨_,_,b,hwb,hWb⟩:=hI1.ways.ok _ _ hz1;refine⟨(v0,b),⟨Nc2,N1,wm,cs,_,ws,cnt,rfl,⟨dd,hC2,hI1.b.hf,hI1.b.hn,hI1.b.hw,hI1.b.d1,hI1.b.d2,hI1.b.d3,hrr,⟨hcn.1,θ⟩,hI1.b.sz⟩,hI1.nets,(hI1.ways.hit hz1).ways λkey v b2 hk hw hW=>⟨hw,?_⟩,hwb,hWb.1,.inl hWb,⟨u1,u2,u3⟩,u4,hdx⟩,⟨Tq,Tq,Tq,Tq,Tv⟩,Tv⟩;grind
  |false=>
   have hz:yx cs (Ae c s goal)=none/\ks2=ks:=by simpa using hz
   obtain⟨hz1,rfl⟩:=hz;refine za (o:=(Nc2.un N1).obj pf) _ (zg u1) (za (o:=(Nc2.un N1).obj fb) _ (zg hI1.b.hf) (Qd (ye (i:=ti2) (v:=int (cnt+1)) (b:=fb) (o:=9) (l:=[ptr cc,int made,V.bool true,int g.W,int g.H,qa g.T,lst 6 zl l,mapA nm,mapA wm,int cnt]) (st2:=Nc2.un (N1.sO fb (.cells [ptr cc,int made,V.bool true,int g.W,int g.H,qa g.T,lst 6 zl l,mapA nm,mapA wm,int (cnt+1)]))) rfl rfl rfl (zg hI1.b.hf) (show 10<=10 by decide) (zy _ _ _ _) ?_)));have⟨bn,kn,hnm⟩:=hI1.b.hn;have⟨bw,kw,hwm⟩:=hI1.b.hw;have hfn:=hI1.b.d1;have hfw:=hI1.b.d2;have hnw:=hI1.b.d3;have hsz:=hI1.b.sz;have hnets:=hI1.nets;have hways:=hI1.ways;have hdf:d≠fb:=λe=>hdx (by simp[e]);obtain⟨N2,hN2⟩:∃N2,N2=N1.sO fb (.cells [ptr cc,int made,V.bool true,int g.W,int g.H,qa g.T,lst 6 zl l,mapA nm,mapA wm,int (cnt+1)]):=⟨_,rfl⟩
   rw[<-hN2];have kN:keepsB [fb,nm,wm] N1 N2:=by rw[hN2];exact(keepsB.refl _ _).set (.inl φ)
   have v1:N2.obj pf=some (.cells [ptr fb]):=by rw[hN2];exact(zf (λe=>by rw[e,hI1.b.hf]at u1;cases u1)).trans u1
   have v2:N2.obj pg=some (.cells [int goal]):=by rw[hN2];exact(zf (λe=>by rw[e,hI1.b.hf]at u2;cases u2)).trans u2
   have v3:N2.obj pn=some (.cells [ptr d]):=by rw[hN2];exact(zf (λe=>by rw[e,hI1.b.hf]at u3;cases u3)).trans u3
   have v4:N2.obj d=some (.cells (jf g l c s)):=by rw[hN2];exact(zf hdf).trans u4
   have v5:N2.obj fb=some (.cells [ptr cc,int made,V.bool true,int g.W,int g.H,qa g.T,lst 6 zl l,mapA nm,mapA wm,int (cnt+1)]):=by rw[hN2];exact zd _ _ _
   have v6:N2.obj wm=some (.map (ws.map (yv λb=>ptr b)) bw kw):=by rw[hN2];exact(zf (Ne.symm hfw)).trans hwm
   have v7:N2.obj nm=some (.map (ns.map (yv λb=>ptr b)) bn kn):=by rw[hN2];exact(zf (Ne.symm hfn)).trans hnm
   have d2:zj Nc2 N2:=by rw[hN2];exact disj_setR dd (C8 dd hI1.b.hf)
   have o3:pn∉[fb,nm,wm]:=by simp only[Faw,Fbs,or_false,not_or];exact⟨λe=>(by rw[e,hI1.b.hf]at u3;cases u3),λe=>(by rw[e,hnm]at u3;cases u3),λe=>(by rw[e,hwm]at u3;cases u3)⟩
   clear hN2 dd hnm hwm;refine za (o:=(Nc2.un N2).obj pf) _ (zg v1) (za (o:=(Nc2.un N2).obj fb) _ (zg v5) (za (o:=(Nc2.un N2).obj pf) _ (zg v1) (za (o:=(Nc2.un N2).obj fb) _ (zg v5) (yh2 d2 hC2 hways hrr (Ae c s goal) _ (λNc3 cs3 ks3 d3 hC3 hCI=>za (o:=(Nc3.un N2).obj pf) _ (zg v1) (za (o:=(Nc3.un N2).obj fb) _ (zg v5) ?_))))));intro nb hnb;have f1:=fresh_un hnb;rw[zy];have e1:wm≠nb:=λe=>by have:=f1.2.1;rw[<-e,v6]at this;cases this
   refine Gi (.inl rfl) rfl (it:=ti175) (ik:=ti2) rfl rfl rfl (zg ((zf e1).trans v6)) rfl rfl (qA (cnt+1)) (λe he=>?_) (λe1 he hq=>?_) ?_
   ·obtain⟨e,_,rfl⟩:=Fag.1 he;rfl
   ·obtain⟨e,_,rfl⟩:=Fag.1 he;have:cnt+1=e.1:=by simpa [qA,yv,int]using hq
    show int e.1=_;rw[this]
   have⟨bs',clk',hput⟩:=Mc (λb=>ptr b) ws bw kw (cnt+1) nb;have hput2:wd (List.map (yv λb=>ptr b) ws) bw kw (qA (cnt+1)) (int (cnt+1)) (AV.s (Value.pointer (some {block:=nb,off:=0})))=_:=hput;rw[hput2,zy];have e2:fb≠nb:=λe=>by have:=f1.2.1;rw[<-e,v5]at this;cases this
   have e3:nm≠nb:=λe=>by have:=f1.2.1;rw[<-e,v7]at this;cases this
   have e4:pf≠nb:=λe=>by have:=f1.2.1;rw[<-e,v1]at this;cases this
   have e5:pg≠nb:=λe=>by have:=f1.2.1;rw[<-e,v2]at this;cases this
   have e6:pn≠nb:=λe=>by have:=f1.2.1;rw[<-e,v3]at this;cases this
   have e7:d≠nb:=λe=>by have:=f1.2.1;rw[<-e,v4]at this;cases this
   have fn:=kN.fresh (by
    intro i hi;simp only[Faw,Fbs,or_false]at hi;rcases hi with rfl|rfl|rfl
    ·rw[v5];simp
    ·rw[v7];simp
    ·rw[v6];simp) f1.2.1
   have kq:∀{i:Nat} {y:AObj},i≠nb->i≠wm->N2.obj i=some y->((N2.sO nb (.cells [u32A 0,i32A 0,u32A 0,.s (.slice none 0 0)])).sO wm (.map ((yr ws (cnt+1) nb).map (yv λb=>ptr b)) bs' clk')).obj i=some y:=λ{i y} h1 h2 hy=>(zf h2).trans ((zf h1).trans hy);have w1:=kq e4 (by simp at o1;exact o1.2.2) v1;have w2:=kq e5 (by simp at o2;exact o2.2.2) v2;have w3:=kq e6 (by simp at o3;exact o3.2.2) v3;have w4:=kq e7 (by simp at hdx;exact hdx.2.2) v4;have w5:=kq e2 hfw v5;have w7:=kq e3 hnw v7;have w6:((N2.sO nb (.cells [u32A 0,i32A 0,u32A 0,.s (.slice none 0 0)])).sO wm (.map ((yr ws (cnt+1) nb).map (yv λb=>ptr b)) bs' clk')).obj wm=_:=zd _ _ _;have w8:((N2.sO nb (.cells [u32A 0,i32A 0,u32A 0,.s (.slice none 0 0)])).sO wm (.map ((yr ws (cnt+1) nb).map (yv λb=>ptr b)) bs' clk')).obj nb=some (.cells [u32A 0,i32A 0,u32A 0,.s (.slice none 0 0)]):=(zf (Ne.symm e1)).trans (zd _ _ _);have k3:=(kN.set (p:=nb) (x:=.cells [u32A 0,i32A 0,u32A 0,.s (.slice none 0 0)]) (.inr fn.2)).set (p:=wm) (x:=.map ((yr ws (cnt+1) nb).map (yv λb=>ptr b)) bs' clk') (.inl φ);have d4:zj Nc3 ((N2.sO nb (.cells [u32A 0,i32A 0,u32A 0,.s (.slice none 0 0)])).sO wm (.map ((yr ws (cnt+1) nb).map (yv λb=>ptr b)) bs' clk')):=disj_setR (disj_setR d3 (fresh_iff.1 f1.1)) (C8 d3 v6);rw[show(N2.sO nb (AObj.cells [AV.s (Value.int IntKind.u32 0),AV.s (Value.int IntKind.i32 0),AV.s (Value.int IntKind.u32 0),AV.s (Value.slice none 0 0)])).sO wm (AObj.map (List.map (yv λb=>ptr b) (yr ws (cnt+1) nb)) bs' clk')=(N2.sO nb (.cells [u32A 0,i32A 0,u32A 0,.s (.slice none 0 0)])).sO wm (.map ((yr ws (cnt+1) nb).map (yv λb=>ptr b)) bs' clk')from rfl];clear kq v1 v2 v3 v4 v5 v6 v7 hnb d3 d2 hput hput2 kN e1;generalize(N2.sO nb (.cells [u32A 0,i32A 0,u32A 0,.s (.slice none 0 0)])).sO wm (.map ((yr ws (cnt+1) nb).map (yv λb=>ptr b)) bs' clk')=N3 at*;refine za (o:=(Nc3.un N3).obj pf) _ (zg w1) (yad (k:=k+1) ⟨d4,hC3,w5,⟨_,_,w7⟩,⟨_,_,w6⟩,hfn,hfw,hnw,hrr,⟨θ,θ⟩,hsz⟩ (hCI nb).1 _ (λNc4 N4 wm4 ks4 ws4 hB4 hC4 hwm4 hk4=>?_));have he:∀i,i∈[fb,nm,wm4]->i∈[fb,nm,wm]\/N3.obj i=none:=λi hi=>by
    simp only[Faw,Fbs,or_false]at hi⊢;rcases hi with hi|hi|hi
    ·exact .inl (.inl hi)
    ·exact .inl (.inr (.inl hi))
    ·rcases hwm4 with h1|h1
     ·exact .inl (.inr (.inr (hi.trans h1)))
     ·exact .inr (hi▸h1)
   have he1:∀i,i∈[fb,nm,wm4]->i∈[fb,nm,wm]\/N1.obj i=none:=λi hi=>(he i hi).imp id λh1=>(k3.fresh (by
    intro i hi;simp only[Faw,Fbs,or_false]at hi;rcases hi with rfl|rfl|rfl
    ·rw[w5];simp
    ·rw[w7];simp
    ·rw[w6];simp) h1).2
   have hno:∀{i:Nat} {y:AObj},i∉[fb,nm,wm]->N3.obj i=some y->i∉[fb,nm,wm4]:=λ{i y} h1 hy hi=>(he i hi).elim h1 λh2=>by rw[hy]at h2;cases h2
   have k4:=k3.trans hk4;have hgw:yx ws4 (cnt+1)=some nb:=by have⟨_,_,b',h1,h2⟩:=hC4.ok _ _ (hCI nb).2;rw[if_pos rfl]at h2;rw[h1,h2]
   exact⟨(cnt+1,nb),⟨Nc4,N4,wm4,cs3,ks4,ws4,cnt+1,rfl,hB4,λkey b hb=>(hnets key b hb).keep k4 he1,hC4.ways (λkey2 v b hk hw hW=>⟨hw,by
    dsimp only at hW⊢;by_cases e:key2=Ae c s goal
    ·rw[if_pos e]at hW⊢;exact hW
    ·rw[if_neg e]at hW⊢;exact hW.keep k4 he1⟩),hgw,hno fn.1 w8,.inr (hk4 nb _ fn.1 w8),⟨hk4 pf _ o1 w1,hk4 pg _ o2 w2,hk4 pn _ o3 w3⟩,hk4 d _ hdx w4,hno hdx w4⟩,Qax,Tv⟩
 clear hz hC2 dd hI1 u1 u2 u3 u4 o1 o2 hkc hcn hdx;rintro⟨v,b⟩ S ⟨Nc,Nr,wm,cs,ks,ws,cnt,rfl,hB,hnets,hCI,hgw,hbx,hW,⟨t1,t2,t3⟩,hod,hdx⟩;dsimp only at hCI hgw hbx hW⊢;have⟨bw,kw,hwm⟩:=hB.hw;have⟨bn,kn,hnm⟩:=hB.hn;refine AWp.seq (AWp.of_vc zb (za (o:=(Nc.un Nr).obj pf) _ (zg t1) (za (o:=(Nc.un Nr).obj fb) _ (zg hB.hf) (Ar rfl (it:=ti175) (ie:=ti431) (ik:=ti2) rfl rfl rfl rfl (zg hwm) rfl (qA v) (λe he=>?_) ?_))))
 ·obtain⟨e,_,rfl⟩:=Fag.1 he;rfl
 rw[Io,hgw];intro px hpx;have f1:=fresh_un hpx;rw[zy];refine ye (i:=ti431) (v:=ptr b) (b:=px) (o:=0) (l:=[.s (.pointer none)]) (st2:=Nc.un (Nr.sO px (.cells [ptr b]))) rfl rfl rfl (zg (zd _ _ _)) (show 1<=1 by decide) (by rw[zy,yw];rfl) ?_;have kp:∀{i:Nat} {y:AObj},Nr.obj i=some y->(Nr.sO px (.cells [ptr b])).obj i=some y:=λ{i y} hy=>(zf (Oy hpx hy)).trans hy;have u1:=kp t1;have u2:=kp t2;have u3:=kp t3;have u4:=kp hod;have u5:=kp hB.hf;have u6:=kp hwm;have u7:=kp hnm;have u8:(Nr.sO px (.cells [ptr b])).obj px=some (.cells [ptr b]):=zd _ _ _;have kN:keepsB [fb,nm,wm] Nr (Nr.sO px (.cells [ptr b])):=λi y _ hy=>kp hy;have d1:=disj_setR (x:=.cells [ptr b]) hB.dj (fresh_iff.1 f1.1);have hC:=hB.hC;have hfn:=hB.d1;have hfw:=hB.d2;have hnw:=hB.d3;have hr:=hB.r;have hn0:=hB.n0;have hsz:=hB.sz;have hW2:WayOK g l [fb,nm,wm] (Nr.sO px (.cells [ptr b])) (Ae c s goal) b\/(Nr.sO px (.cells [ptr b])).obj b=some (.cells [u32A 0,i32A 0,u32A 0,.s (.slice none 0 0)]):=hW.imp (λh=>h.keep kN λi hi=>.inl hi) kp;clear kp t1 t2 t3 hod hwm hnm hB f1 hpx hW;generalize Nr.sO px (.cells [ptr b])=N2 at*;refine AWp.seq (AWp.of_vc zb (za (o:=(Nc.un N2).obj px) _ (zg u8) ?_));rcases hW2 with hW|hob
 ·have hW0:=hW;have⟨_,s1,d2,c1,s1',goal1,hob,hdx2,hc1,hs1,hg1,hke,hod2⟩:=hW;refine zfa b _ _ _ _ (zg hob) (AWp.of_vc zb (za (o:=(Nc.un N2).obj px) _ (zg u8) (za (o:=(Nc.un N2).obj b) _ (zg hob) ?_)));have heq:c1=c/\s1'=s/\goal1=goal:=by
   unfold Ae at hke;unfold H2 at hc1;omega
  obtain⟨rfl,rfl,rfl⟩:=heq;refine ret (h _ d2 (.inl ⟨g,l,Nc,N2,cc,nm,wm,cs,ks,ns,ws,made,cnt,rfl,⟨⟨d1,hC,u5,⟨_,_,u7⟩,⟨_,_,u6⟩,hfn,hfw,hnw,hr,hn0,hsz⟩,λkey b hb=>(hnets key b hb).keep kN λi hi=>.inl hi,hCI.ways λkey v b' hk hw hW=>⟨hw,?_⟩⟩⟩) (zg hod2));by_cases e:key=Ae c1 s1' goal1
  ·rw[if_pos e]at hW;rw[e,hW];exact hW0
  ·rw[if_neg e]at hW;exact hW.keep kN λi hi=>.inl hi
 ·have e1:pf≠b:=λe=>by rw[e,hob]at u1;cases u1
  have e2:pg≠b:=λe=>by rw[e,hob]at u2;cases u2
  have e3:pn≠b:=λe=>by rw[e,hob]at u3;cases u3
  have e4:px≠b:=λe=>by rw[e,hob]at u8;cases u8
  have e5:fb≠b:=λe=>by rw[e,hob]at u5;cases u5
  have e6:nm≠b:=λe=>by rw[e,hob]at u7;cases u7
  have e7:wm≠b:=λe=>by rw[e,hob]at u6;cases u6
  have e8:d≠b:=λe=>by rw[e,hob]at u4;simp[jf,zw]at u4
  have e9:d≠fb:=λe=>hdx (by simp[e]);have e10:px≠fb:=λe=>by rw[e,u5]at u8;cases u8
  have hnc:=C8 d1 hob;refine ze9 b (u32A 0) (.s (.slice none 0 0)) _ _ _ _ (zg hob) ?_;rw[zy];refine zmh hg (l:=l) (c:=c) (s:=s) goal hgo (zg ((zf e1).trans u1)) (zg ((zf e3).trans u3)) (zg ((zf e2).trans u2)) (zg ((zf e4).trans u8)) (zg ((zf e5).trans u5)) (zg (zd _ _ _)) (zg ((zf e8).trans u4)) e9 _ (λm d2 hfd hdf=>?_);have f3:=fresh_un hfd;refine⟨.s (.slice (some ⟨d2,0,none⟩) g.T.length g.T.length),by rw[zy,zy,zy];exact zg (zd _ _ _),?_⟩;rw[zy,zy,zy,zy,yw];have hdn:d2≠b:=λe=>by have:=f3.2.1;rw[e,zd]at this;cases this
  have hd3:N2.obj d2=none:=by have:=f3.2.1;rwa [zf hdn]at this
  have fd:=kN.fresh (by
   intro i hi;simp only[Faw,Fbs,or_false]at hi;rcases hi with rfl|rfl|rfl
   ·rw[u5];simp
   ·rw[u7];simp
   ·rw[u6];simp) hd3
  have d4:=disj_setR (x:=.cells [u32A 1,i32A 0,u32A 0,.s (.slice (some ⟨d2,0,none⟩) g.T.length g.T.length)]) (disj_setR (x:=.cells (wayL g l c s goal)) (disj_setR (x:=.cells [ptr cc,int m,V.bool true,int g.W,int g.H,qa g.T,lst 6 zl l,mapA nm,mapA wm,int cnt]) (disj_setR (x:=.cells [u32A 0,i32A 1,u32A 0,.s (.slice none 0 0)]) d1 hnc) (C8 d1 u5)) (fresh_iff.1 f3.1)) hnc;generalize hN4:(((N2.sO b (.cells [u32A 0,i32A 1,u32A 0,.s (.slice none 0 0)])).sO fb (.cells [ptr cc,int m,V.bool true,int g.W,int g.H,qa g.T,lst 6 zl l,mapA nm,mapA wm,int cnt])).sO d2 (.cells (wayL g l c s goal))).sO b (.cells [u32A 1,i32A 0,u32A 0,.s (.slice (some ⟨d2,0,none⟩) g.T.length g.T.length)])=N4 at*;have kq:∀{i:Nat} {y:AObj},i≠b->i≠fb->N2.obj i=some y->N4.obj i=some y:=λ{i y} hi hj hy=>hN4▸(zf hi).trans ((zf (λe=>by rw[e,hd3]at hy;cases hy)).trans ((zf hj).trans ((zf hi).trans hy)));have x8:=kq e4 e10 u8;have x6:=kq e7 (Ne.symm hfw) u6;have x7:=kq e6 (Ne.symm hfn) u7;have x5:N4.obj fb=some (.cells [ptr cc,int m,V.bool true,int g.W,int g.H,qa g.T,lst 6 zl l,mapA nm,mapA wm,int cnt]):=hN4▸(zf e5).trans ((zf (Ne.symm hdf)).trans (zd _ _ _));have x9:N4.obj d2=some (.cells (wayL g l c s goal)):=hN4▸(zf hdn).trans (zd _ _ _);have xb:N4.obj b=some (.cells [u32A 1,i32A 0,u32A 0,.s (.slice (some ⟨d2,0,none⟩) g.T.length g.T.length)]):=hN4▸zd _ _ _;have k4:keepsB [b,fb,nm,wm] N2 N4:=λi y hi hy=>kq (λe=>hi (by simp[e])) (λe=>hi (by simp[e])) hy;clear kq u1 u2 u3 u4 u5 u6 u7 u8 d1 f3 hfd hN4;refine AWp.of_vc zb (za (o:=(Nc.un N4).obj px) _ (zg x8) (za (o:=(Nc.un N4).obj b) _ (zg xb) ?_));have hsub:∀i,i∈[fb,nm,wm]->i∈[b,fb,nm,wm]\/N2.obj i=none:=λi hi=>.inl (Fau _ hi);refine ret (h _ d2 (.inl ⟨g,l,Nc,N4,cc,nm,wm,cs,ks,ns,ws,m,cnt,rfl,⟨⟨d4,hC,x5,⟨_,_,x7⟩,⟨_,_,x6⟩,hfn,hfw,hnw,hr,hn0,hsz⟩,λkey b hb=>(((hnets key b hb).keep kN λi hi=>.inl hi).off hob).keep k4 hsub,hCI.ways λkey v b' hk hw hW=>⟨hw,?_⟩⟩⟩) (zg x9));by_cases e:key=Ae c s goal
  ·rw[if_pos e]at hW;rw[e,hW];exact⟨hbx,_,d2,c,s,goal,xb,fd.1,hc,hs,hgo,rfl,x9⟩
  ·rw[if_neg e]at hW;exact((hW.keep kN λi hi=>.inl hi).off hob).keep k4 hsub
end
def yo4(n:Int)(hn:1<=n/\n<=4096)(R:Ja)(h:∀N fb,FldAny fb n 0 N->R (.tup [ptr fb,int 0]) N):Jb 64 [int n] Store.empty R:=by
 refine Qa (c:=cfg 21 [17] []) zb Tryz.func64 ?_;refine yse n hn.1 hn.2 _ _ (λNc c hC=>?_);intro fb hfb;rw[Wg fb];refine sn (Nr:=Store.empty.sO fb (.cells [ptr c,int 0,V.bool false,int 0,int 0,.s (.slice none 0 0),.s (.slice none 0 0),.s (.map none),.s (.map none),int 0])) (λi h1 h2=>?_) hC (zd _ _ _) _ (λNc1 Nr1 nm wm b1 k1 b2 k2 d1 d2 d3 d4 d5 d6 d7 d8=>?_)
 ·rcases has_setObj_iff.1 h2 with e|e
  ·exact fresh_iff.1 hfb (e▸h1)
  ·exact(e.elim (λh=>h rfl) (λh=>h rfl):False)
 exact ret (h _ fb (.inr ⟨Nc1,Nr1,c,[],[],0,0,_,_,_,_,_,_,rfl,d1,d2,hn,θ,d3⟩))
def Sm(fb:Nat):AV:=gvOf 128 (.pointer (some ⟨fb,0,none⟩))
def yo5 : R1 Tryz.prog 128 "Net" 175 true = true := by kernel_rfl
def yoq : R1 Tryz.prog 128 "Ways" 348 true = true := by kernel_rfl
def yo6 (fb : Nat) : Meets Tryz.prog 128 (.pointer (some ⟨fb, 0, none⟩)) "Net" 175 (ptr fb) := Meets.ptrB yo5 fun w T => .s _
def yor (fb : Nat) : Meets Tryz.prog 128 (.pointer (some ⟨fb, 0, none⟩)) "Ways" 348 (ptr fb) := Meets.ptrB yoq fun w T => .s _
def ynq{w:Wld}(hm:MayF w)(fb:Nat)(room:Int)(k M:Nat)(hk:k+M<=4000000000000000000):GuideK 128 (.pointer (some ⟨fb,0,none⟩)) (λn N=>FldAny fb room ((k+n:Nat):Int) N) M w:=by
 have hB:=hm.hB;have hT:=hm.hT;have ha:=xj hm.hg;refine⟨λ{n N c s} hF hc hs R h=>?_,λ{n N c s} hF hn hc hs goal hgo R h=>?_⟩
 ·exact⟨_,_,yo6 fb,o8 hF w.G hm.hg θ w.B θ hm.hb c s hc hs _ (λNc Nr cc nm wm cs ks ns ws made cnt d hI hd ho=>h d _ (.inl ⟨_,_,Nc,Nr,cc,nm,wm,cs,ks,ns,ws,made,cnt,rfl,hI⟩) (zg ho))⟩
 ·refine⟨_,_,yor fb,zl7 hF ⟨θ,θ⟩ w.G hm.hg θ w.B θ hm.hb c s hc hs goal hgo _ (λN' d hF' ho=>h d N' ?_ ho)⟩;have e:((k+(n+1):Nat):Int)=((k+n:Nat):Int)+1:=θ;show FldAny fb room ((k+(n+1):Nat):Int) N';rw[e];exact hF'
def FldAny.objs{fb:Nat}{room k:Int}{N:Store}(h:FldAny fb room k N):FldAny fb room k N.objs:=by
 have eu:∀a b:Store,(a.un b).objs=a.objs.un b.objs:=λa b=>rfl;have hC:∀{Nc:Store} {c cs ks},qq Nc c room cs ks->qq Nc.objs c room cs ks:=λ⟨m,v,hh,e,bs,clk,h1,h2,h3,h4,h5⟩=>⟨m,v,hh,e,bs,clk,h1,h2,h3,h4,h5⟩
 have hh:∀{S:Store} {b},S.objs.has b->S.has b:=λh=>h.elim (λh=>.inl h) (λh=>absurd rfl h);have hD:∀{a b:Store},zj a b->zj a.objs b.objs:=λhd i h1 h2=>hd i (hh h1) (hh h2);rcases h with⟨g,l,Nc,Nr,c,nm,wm,cs,ks,ns,ws,made,cnt,e,h⟩|⟨Nc,Nr,c,cs,ks,made,cnt,x0,x1,x2,x3,y0,y1,e,h1,h2,h3,h4,h5⟩
 ·exact .inl ⟨g,l,Nc.objs,Nr.objs,c,nm,wm,cs,ks,ns,ws,made,cnt,by rw[e,eu],⟨⟨hD h.b.dj,hC h.b.hC,h.b.hf,h.b.hn,h.b.hw,h.b.d1,h.b.d2,h.b.d3,h.b.r,h.b.n0,h.b.sz⟩,h.nets,h.ways⟩⟩
 ·exact .inr ⟨Nc.objs,Nr.objs,c,cs,ks,made,cnt,x0,x1,x2,x3,y0,y1,by rw[e,eu],hD h1,hC h2,h3,h4,h5⟩
def K4:List AV:=[int 0,int 0,int 0,int 0,int 0,nil,nil,nil]
end Go.Proofs
